/- A part of the evaluator TM, and of the proof that what it computes the model does. Condition: none. -/
import Derived.Test.YtehlgnfhkidgoaaGreatDoorTmA
import Derived.MapKept
import Derived.Laws.MakeOwn
import Derived.Laws.Tables
import Derived.Laws.AppendOwn
import Derived.Laws.IdiomStrings
import Derived.WideKeyRuns
namespace Go.TM
open Go
section
variable {P:Program}{O:dH}{K:TM.bD}
variable {M:Mem}{J:aF}{L:List (Option Nat)}{S S':aA}{env env':Env}{w:World}
def At(w:World)(M:Mem)(J:aF)(b o:Nat)(xs:List TV):Prop:=∀(k:Nat) (x:TV),xs[k]?=some x->∃u,w.cell? ⟨b,o+k,none⟩=some u/\VR M J [] x u
def AtI(w:World)(M:Mem)(b o:Nat)(xs:List IV):Prop:=∀(k:Nat) (x:IV),xs[k]?=some x->∃u,w.cell? ⟨b,o+k,none⟩=some u/\IR M x u
theorem vP{n k:Nat}{α:Type}(f:Nat->α){u:α}(h:((List.range n).map f)[k]?=some u):k<n/\u=f k:=by
 simp only[p_,G_]at h;obtain⟨k',a,rfl⟩:=h;have b:k<n:=by
  rcases D2 k n with c|c;.exact c
  .rw[B7 (by simpa using c)]at a;simp at a
 rw[F3 b]at a;simp at a;subst a;exact⟨b,rfl⟩
theorem At.vals{b o:Nat}{xs:Tn_}(h:At w M J b o xs):∃vs,VRs M J [] xs vs/\∀(i:Nat) (v:Value),vs[i]?=some v->w.cell? ⟨b,o+i,none⟩=some v:=by
 refine⟨(List.range xs.length).map fun k=>(w.cell? ⟨b,o+k,none⟩).getD Go.undef,⟨by simp,fun i x v e c=>?_⟩,fun i v c=>?_⟩;.obtain⟨d,rfl⟩:=vP _ c;obtain⟨u,a,h3⟩:=h i x e;rw[a];exact h3
 .obtain⟨d,rfl⟩:=vP _ c;obtain⟨u,a,h3⟩:=h i _ (D_ d);rw[a];rfl
theorem AtI.at{b o:Nat}{xs:Tq_}(h:AtI w M b o xs):At w M J b o (xs.map .iv):=by intro k x c;simp only[p_,G_]at c;obtain⟨a,e,rfl⟩:=c;obtain⟨u,d,f⟩:=h k a e;exact⟨u,d,.iv _ f⟩
theorem xX{α:Type}{es:Nat}:∀ {l:List (List α)},(∀c∈l,c.length=es)->∀ {k:Nat} {x:α},(bC l)[k]?=some x->∃(i:Nat) (c:List α) (j:Nat),l[i]?=some c/\c[j]?=some x/\k=i*es+j
 |[],_,k,x,h=>by simp[bC]at h
 |a::r,hl,k,x,h=>by
  simp only[bC]at h;have f:=hl a B_;rw[F7]at h;split at h;.exact⟨0,a,k,rfl,h,by simp⟩
  .rename_i hk;obtain⟨i,c,j,b,e,h3⟩:=xX (fun c d=>hl c (by simp[d])) h;exact⟨i+1,c,j,by simpa using b,e,by rw[E1];omega⟩
theorem dG{α:Type}{es:Nat}:∀ {l:List (List α)},(∀c∈l,c.length=es)->(bC l).length=l.length*es
 |[],_=>by simp[bC]
 |a::r,hl=>by simp only[bC,H_,List.length_cons];rw[dG (fun c b=>hl c (by simp[b])),hl a B_,E1];omega
theorem oU{α:Type}(es:Nat):∀(n:Nat) (cs:List α),cs.length=n*es->bC (cP es n cs)=cs
 |0,cs,h=>by simp at h;subst h;rfl
 |n+1,cs,h=>by simp only[cP,bC];rw[oU es n (cs.drop es) (by simp;rw[E1]at h;omega)];simp
theorem oV{α:Type}:∀(a b:List (List α)),bC (a++b)=bC a++bC b
 |[],b=>rfl
 |x::a,b=>by simp[bC,oV a b]
theorem IR.sl_at(q:∀b o v,M b o=some v->w.cell? ⟨b,o,none⟩=some v){t:Tag}{l:Tp_}{v:Value}(h:IR M (.sl t l) v):(v=.slice none 0 0/\l=[]/\t=.nil) \/(∃b o c es,v=.slice (some ⟨b,o,none⟩) l.length c/\l.length<=c/\(∀c∈l,c.length=es)/\AtI w M b o (bC l)/\t≠.nil)\/∃a,v=.slice (some a) 0 0/\l=[]/\t≠.nil:=by
 rcases h.sl_any with⟨rfl,rfl,rfl⟩|⟨b,off,cap,es,vals,rfl,d,f,e,m,u,g⟩|⟨r,rfl,rfl,d⟩;case inr.inr=>exact .inr (.inr ⟨r,rfl,rfl,d⟩)
 .exact .inl ⟨rfl,rfl,rfl⟩
 .refine .inr (.inl ⟨b,off,cap,es,rfl,e,f,fun k x s=>?_,d⟩);obtain⟨i,c,j,n,p,h3⟩:=xX f s;refine⟨_,q _ _ _ ?_,g i c j x n p⟩;rw[h3,<-G3];exact u i c j x n p
theorem qC{x:TV}{a:IV}{v:Value}(h:oQ x=some a)(d:VR M J L x v):IR M a v:=by
 unfold oQ at h;split at h;.simp at h;subst h;exact d.iv_inv
 .simp at h;subst h;cases d with
  |tsl L i es l b o c h hl d ha hr=>exact hr
 .simp at h
theorem iK:∀ {xs:Tn_} {l:Tq_},toIVs xs=some l->l.length=xs.length/\∀(i:Nat) (a:IV),l[i]?=some a->∃x,xs[i]?=some x/\oQ x=some a
 |[],l,h=>by simp[toIVs]at h;subst h;exact⟨rfl,fun i a h=>by simp at h⟩
 |x::r,l,h=>by
  simp only[toIVs]at h;split at h
  .rename_i a l' h1 h2;simp at h;subst h;obtain⟨h3,d⟩:=iK h2;refine⟨by simp[h3],fun i b c=>?_⟩;cases i with
   |zero=>simp at c;subst c;exact⟨x,rfl,h1⟩
   |succ i=>simpa using d i b (by simpa using c)
  .simp at h
theorem xY{x:TV}{a:IV}{v:Value}(h:lH x=some a)(c:VR M J L x v):IR M a v:=by
 unfold lH at h;split at h
 .simp only[G_]at h;obtain⟨l,d,rfl⟩:=h;obtain⟨k,h3⟩:=iK d;cases c with
  |agg L cs vs hs c =>refine .agg _ _ (by rw[hs,k]) fun i b u j f=>?_;obtain⟨x,g,e⟩:=h3 i b j;exact qC e (c i x u g f)
 .exact qC h c
theorem bE1{b o:Nat}{xs:Tn_}{l:Tq_}(h:toIVs xs=some l)(g:At w M J b o xs):AtI w M b o l:=by intro k a c;obtain⟨x,f,e⟩:=(iK h).2 k a c;obtain⟨u,d,i⟩:=g k x f;exact⟨u,d,qC e i⟩
theorem aQ5(h:MS P O K M J L S env w){i ver off f cap es:Nat}{v:Value}(z:VR M J L (.msl i ver off f cap es) v){n:Nat}(A:n<=cap):∃b o c,v=.slice (some ⟨b,o,none⟩) f c/\f<=cap /\(∀lo cs xs,S[i]?=some (.cells ver lo cs)->sub cs off (n*es)=some xs->cap<=c/\At w M J b o xs)/\∀cs xs,S[i]?=some (.frz ver cs)->sub cs off (n*es)=some xs->cap<=c/\AtI w M b o xs:=by
 cases z with
 |msl L i ver off f cap es l b o c hJ hv ha hl hlc =>
  refine⟨b,o,c,rfl,hl,fun lo cs xs r a=>?_,fun cs xs r a=>?_⟩
  .have g:=h.wr.blk i l _ hJ r;cases g with
   |cells loose cs cs' e fz hlo hb hsz hfit hvals hfz hm =>
    obtain⟨rfl,p,s,_,_⟩:=ha rfl;refine⟨s,fun k x j=>?_⟩;have d:=(iF a).2.2;have t:=(E_.1 j).1;have m:n≠0:=by rintro rfl;simp at d;subst d;simp at j
    obtain⟨u,q,y⟩:=hvals _ _ (uW a j);refine⟨u,?_,y⟩;rw[dX hb,p A_,G3];exact q
  .have g:=h.wr.blk i l _ hJ r;cases g with
   |frz cs hvals =>
    obtain⟨rfl,p,s,_,_⟩:=ha rfl;refine⟨s,fun k x j=>?_⟩;have d:=(iF a).2.2;have t:=(E_.1 j).1;have m:n≠0:=by rintro rfl;simp at d;subst d;simp at j
    obtain⟨u,q,y⟩:=hvals _ _ (uW a j);refine⟨u,h.wr.imm _ _ _ ?_,y⟩;rw[p A_,G3];exact q
theorem aMz(h:MS P O K M J L S env w){x:TV}{v:Value}(g:VR M J L x v){xs:Tn_}(a:dU S x=some xs): (∃s:List UInt8,v=.string ⟨s.toArray⟩/\xs=s.map (fun b=>.iv (.int .u8 b.toNat))/\lenOf S x=some s.length)\/(∃p,v=.slice p 0 0/\xs=[]/\lenOf S x=some 0) \/∃b o d c,v=.slice (some ⟨b,o,none⟩) d c/\At w M J b o xs/\lenOf S x=some d/\d<=c:=by
 unfold dU at a;split at a
 .simp at a;subst a;rcases g.iv_inv.sl_at h.wr.imm with⟨rfl,rfl,_⟩|⟨b,o,c,es,rfl,f,j,h3,_⟩|⟨m,rfl,rfl,_⟩;case inr.inr=>exact .inr (.inl ⟨some m,rfl,rfl,rfl⟩)
  .exact .inr (.inl ⟨none,rfl,rfl,rfl⟩)
  .exact .inr (.inr ⟨b,o,_,c,rfl,h3.at,rfl,f⟩)
 .simp at a;subst a;cases g with
  |tsl L i es l b o c hJ hl hv ha hr =>
   rcases hr.sl_at h.wr.imm with⟨e,_,_⟩|⟨u,o',c',es',e,f,j,h3,_⟩|⟨m,e,q,_⟩;case inr.inr=>subst q;simp at e;obtain⟨rfl,rfl⟩:=e;exact .inr (.inl ⟨_,rfl,rfl,rfl⟩)
   .simp at e
   .simp at e;obtain⟨⟨rfl,rfl⟩,rfl⟩:=e;exact .inr (.inr ⟨b,o,_,c,rfl,h3.at,rfl,f⟩)
 .rename_i s;simp at a;subst a;exact .inl ⟨s,g.str_inv,rfl,rfl⟩
 .rename_i i ver off d cap es;obtain⟨b,o,c,rfl,r,f,j⟩:=aQ5 (n:=d) h g (by cases g;assumption);split at a
  .rename_i v' lo cs hs;split at a;.rename_i hvv;subst hvv;obtain⟨h3,k⟩:=f lo cs xs hs a;exact .inr (.inr ⟨b,o,d,c,rfl,k,rfl,by omega⟩)
   .simp at a
  .rename_i v' cs hs;split at a;.rename_i hvv;subst hvv;simp only[G_]at a;obtain⟨ys,t,rfl⟩:=a;obtain⟨h3,k⟩:=j cs ys hs t;exact .inr (.inr ⟨b,o,d,c,rfl,k.at,rfl,by omega⟩)
   .simp at a
  .simp at a
 .simp at a
theorem fO(h:MS P O K M J L S env w){x:TV}{v:Value}(e:VR M J L x v){xs:Tn_}(z:dU S x=some xs){m:Nat}(g:lenOf S x=some m){es:Nat}(k:xs.length=m*es){n:Nat}(y:n<=m): (Builtin.lenOf v).run P w=.ok m w/\∃vs,VRs M J [] (xs.take (n*es)) vs/\(Builtin.firstCells es n v).run P w=.ok vs.toArray w:=by
 rcases aMz h e z with⟨s,rfl,rfl,p⟩|⟨C,rfl,rfl,p⟩|⟨b,o,d,c,rfl,r,p,E⟩
 .obtain rfl:s.length=m:=by rw[p]at g;simpa using g
  simp at k;refine⟨by simp[Builtin.lenOf,oS],(s.take n).map (fun b=>Value.int .u8 b.toNat),⟨?_,?_⟩,?_⟩
  .have:n*es=n\/(n=0):=by
    rcases T9 s.length with f|f;.exact .inr A_
    .left;have:es=1:=by have:s.length*1=s.length*es:=A_;exact(Nat.eq_of_mul_eq_mul_left f this).symm
     subst this;omega
   rcases this with f|f;.rw[f];simp
   .subst f;simp
  .intro i x u e l;simp only[D9,p_]at e l;split at e
   .split at l;.simp only[G_]at e l;obtain⟨b,D,rfl⟩:=e;obtain⟨F,a,rfl⟩:=l;rw[D]at a;simp at a;subst a;exact .iv _ (.int _ _)
    .simp at l
   .simp at e
  .simp only[Builtin.firstCells,Sem.run_pure];congr 1;have:(⟨s.toArray⟩:ByteArray).extract 0 n=⟨(s.take n).toArray⟩:=by have:=aD5 s 0 n;simpa using this
   rw[this];apply N0;simp
 .obtain rfl:0=m:=by rw[p]at g;simpa using g
  obtain rfl:n=0:=A_;refine⟨by simp[Builtin.lenOf],[],?_,by cases C<;>simp[Builtin.firstCells,loadCells,loadCellsFrom]⟩;simpa using VRs.nil
 .obtain rfl:d=m:=by rw[p]at g;simpa using g
  obtain⟨vs,t,A⟩:=r.vals;refine⟨by simp[Builtin.lenOf],vs.take (n*es),t.take _,?_⟩;refine run_firstCells_some (P:=P) w es n ⟨b,o,none⟩ d c (vs.take (n*es)) ?_ fun j u q=>?_;.rw[K0,t.1,k];have:n*es<=d*es:=D4 _ y;omega
  .rw[iW];rw[D9]at q;split at q;.exact A j u q
   .simp at q
theorem aA1(h:MS P O K M J L S env w){x:TV}{v:Value}(m:VR M J L x v){l:Tp_}(a:cH S x=some l):(∃p,v=.slice p 0 0/\l=[]) \/∃b o c es,v=.slice (some ⟨b,o,none⟩) l.length c/\l.length<=c/\(∀c∈l,c.length=es)/\AtI w M b o (bC l):=by
 unfold cH at a;split at a
 .simp at a;subst a;rcases m.iv_inv.sl_at h.wr.imm with⟨rfl,rfl,_⟩|⟨b,o,c,es,rfl,g,j,h3,_⟩|⟨s,rfl,rfl,_⟩;case inr.inr=>exact .inl ⟨_,rfl,rfl⟩
  .exact .inl ⟨_,rfl,rfl⟩
  .exact .inr ⟨b,o,c,es,rfl,g,j,h3⟩
 .simp at a;subst a;cases m with
  |tsl L i es l b o c hJ hl hv ha hr =>
   rcases hr.sl_at h.wr.imm with⟨f,_,_⟩|⟨u,o',c',es',f,g,j,h3,_⟩|⟨s,f,r,_⟩;case inr.inr=>subst r;simp at f;obtain⟨rfl,rfl⟩:=f;exact .inl ⟨_,rfl,rfl⟩
   .simp at f
   .simp at f;obtain⟨⟨rfl,rfl⟩,rfl⟩:=f;exact .inr ⟨b,o,c,es',rfl,g,j,h3⟩
 .rename_i i ver off len cap es;obtain⟨b,o,c,rfl,t,g,j⟩:=aQ5 (n:=len) h m (by cases m;assumption);split at a
  .rename_i v' lo cs hs;split at a;.simp at a
   .rename_i d;have d:v'=ver:=A_;subst d;split at a
    .rename_i xs hsub;simp only[G_]at a;obtain⟨ys,k,rfl⟩:=a;obtain⟨h3,q⟩:=g lo cs xs hs hsub;have e:ys.length=len*es:=by rw[(iK k).1,(iF hsub).2.2]
     refine .inr ⟨b,o,c,es,by rw[gB],by rw[gB];omega,rF es len ys A_,?_⟩;rw[oU es len ys e];exact bE1 k q
    .simp at a
  .rename_i v' cs hs;split at a;.simp at a
   .rename_i d;have d:v'=ver:=A_;subst d;simp only[G_]at a;obtain⟨ys,k,rfl⟩:=a;obtain⟨h3,q⟩:=j cs ys hs k;have e:ys.length=len*es:=(iF k).2.2;refine .inr ⟨b,o,c,es,by rw[gB],by rw[gB];omega,rF es len ys A_,?_⟩;rw[oU es len ys e];exact q
  .simp at a
 .simp at a
theorem bE2{i:Nat}{l:Loc}(h:WR P O M J S w)(c:J.at i l){es:Tr_}{a:Nat}(b:S[i]?=some (.mp es a)):∃es',w.heap[l.cb]?=some (.map es' a)/\es'.size=es.length /\(∀(k:Nat) (x:Nat×IV×TV) (y:MapEntry),es[k]?=some x->es'[k]?=some y->y.born=x.1/\IR M x.2.1 y.key/\VR M J [] x.2.2 y.val)/\l.loose=false:=by
 have:=h.blk i l _ c b;cases this with
 |mp es a es' c hb b hv=>exact⟨es',hb,b,hv,c⟩
theorem cM{r:Nat}{a:Obj}(h:w.heap[r]?=some a)(b:∀c e f,a≠.cells c e f):(getObj r).run P w=.ok a w:=by cases a<;>simp_all[getObj,Sem.run]
theorem bMj(h:MS P O K M J L S env w){x:TV}{v:Value}(g:VR M J L x v){n:Nat}(a:lenOf S x=some n){t ty:TypeId} (d:match zM x with | .str=>P.underlying t=some .string | .sl=>∃e,P.underlying t=some (.slice e) | .mp=>∃k e,P.underlying t=some (.map k e)):(Builtin.len_ #[t] ty #[v]).run P w=.ok (.int .i64 n) w:=by
 unfold lenOf at a;split at a;.simp at a;subst a;simp only[zM]at d;rw[g.str_inv];simp[Builtin.len_,und d,goInt,oS]
 .simp at a;subst a;simp only[zM]at d;obtain⟨e,f⟩:=d;rcases g.iv_inv.sl_at h.wr.imm with⟨rfl,rfl,_⟩|⟨b,o,c,es,rfl,_⟩|⟨p,rfl,rfl,_⟩<;>simp[Builtin.len_,und f,goInt]
 .simp at a;subst a;simp only[zM]at d;obtain⟨e,f⟩:=d;cases g with
  |tsl L i es l b o c hJ hl hv ha hr=>simp[Builtin.len_,und f,goInt]
 .simp at a;subst a;simp only[zM]at d;obtain⟨e,f⟩:=d;cases g with
  |msl L i ver off len cap es l b o c hJ hv ha hl hlc=>simp[Builtin.len_,und f,goInt]
 .simp at a;subst a;simp only[zM]at d;obtain⟨k,e,f⟩:=d;cases g.iv_inv
  simp[Builtin.len_,und f,goInt]
 .split at a
  .rename_i es cl hs;simp at a;subst a;simp only[zM]at d;obtain⟨k,e,f⟩:=d;cases g with
   |map L i l hJ hlo =>obtain⟨es',m,j,_⟩:=bE2 h.wr hJ hs;simp[Builtin.len_,und f,goInt,cM m,j]
  .simp at a
 .simp at a
theorem bMk{x:TV}{v:Value}(h:VR M J L x v){n:Nat}(c:aAu x=some n){t ty e:TypeId}(f:P.underlying t=some (.slice e)):(Builtin.cap_ #[t] ty #[v]).run P w=.ok (.int .i64 n) w:=by
 unfold aAu at c;split at c
 .simp at c;subst c;rcases h.iv_inv.sl_any with⟨_,rfl,rfl⟩|⟨b,off,cap,es,vals,rfl,a,_⟩|⟨j,rfl,rfl,a⟩;.simp[Builtin.cap_,und f,goInt]
  .exact absurd rfl a
  .exact absurd rfl a
 .simp at c;subst c;rcases h.iv_inv.sl_any with⟨i,_⟩|⟨b,off,cap,es,vals,rfl,a,k,g,d,_⟩|⟨j,rfl,rfl,a⟩;.simp at i
  .simp[Builtin.cap_,und f,goInt,d rfl]
  .simp[Builtin.cap_,und f,goInt]
 .simp at c
theorem wO(d:Bool):∀ {xs:Tn_} {vs:List Value} {a:IV} {v:Value} {r:IV},minmax d a xs=some r->IR M a v->VRs M J L xs vs ->∃u,(vs.foldlM (if d then Builtin.max2 else Builtin.min2) v).run P w=.ok u w/\IR M r u
 |[],vs,a,v,r,h,ha,hv=>by rw[hv.nil_inv];simp[minmax]at h;subst h;exact⟨v,by simp,ha⟩
 |x::xs,vs,a,v,r,h,ha,hv=>by
  obtain⟨u,us,rfl,e,f⟩:=hv.cons_inv;cases x with
  |iv b =>
   simp only[minmax]at h;split at h
   .rename_i c hc;unfold min2 at hc;split at hc
    .split at hc
     .rename_i hk;subst hk;simp at hc;subst hc;cases ha
      cases e.iv_inv
      obtain⟨z,h3,g⟩:=wO d h (.int _ _) f;refine⟨z,?_,g⟩;rw[<-h3];cases d<;>simp[Builtin.min2,Builtin.max2]
     .simp at hc
    .simp at hc
   .simp at h
  |_=>simp[minmax]at h
theorem aM0{o:Oper}{t:TypeId}{x:Operand}(i:o.op=.load t x){n:Nat}{k:Bool}(j:isAgg? P t=some k)(s:sizeOf? P t=some n)(a:Act)(h:MS P O K M J L S env w){e r:TV}(z:VR M J L e (a.eval x)) {cs:Tn_} (l:bP env S e (if k then n else 1)=some cs) (f:gL k cs=some r) {top:TOp} (d:aP top=none):cK P O K top M J L S env w (execOp a.eval o) r env S:=by
 obtain⟨b,off,vs,p,g,m,q⟩:=xU h l z;cases k with
 |true =>simp[gL]at f;subst f;simp only[N8]at m l;refine .pure d h (v':=.agg vs.toArray) ?_ (xT g);have:=oA (P:=P) b off vs q;rw[m]at this;simp[execOp,i,p,Go.Instr.loadAt,Go.Instr.sureAddr,loadVar,isAgg?_run j,run_size? s,this]
 |false =>
  simp only[gL,b_,I9]at f m l;split at f;.rename_i c;simp at f;subst f;obtain⟨u,us,rfl,y,A⟩:=g.cons_inv;refine .pure d h (v':=u) ?_ y.ofNil;have:=q 0 u rfl;simp at this;simp[execOp,i,p,Go.Instr.loadAt,Go.Instr.sureAddr,loadVar,isAgg?_run j,run_load,this]
  .simp at f
theorem xZ:∀ {l:Tp_} {b:List UInt8},oR l=some b->∃ns:List Int,bC l=ns.map (IV.int .u8)/\b=ns.map (fun n=>UInt8.ofNat n.toNat)/\ns.length=l.length
 |[],b,h=>by simp[oR]at h;subst h;exact⟨[],rfl,rfl,rfl⟩
 |c::r,b,h=>by
  simp only[oR]at h;split at h
  .rename_i b1 l1 h1 h2;simp at h;subst h;obtain⟨ns,a,e2,e3⟩:=xZ h2;unfold bEv at h1;split at h1;.rename_i n;simp at h1;subst h1;exact⟨n::ns,by simp[bC,a],by simp[e2],by simp[e3]⟩
   .simp at h1
  .simp at h
theorem aD6:∀(ns:Ta_) (acc:List UInt8),(ns.foldl (fun r n=>r.push (UInt8.ofNat n.toNat)) (⟨acc.toArray⟩:ByteArray))=⟨(acc++ns.map (fun n=>UInt8.ofNat n.toNat)).toArray⟩
 |[],acc=>B_
 |n::ns,acc=>by
  simp only[List.foldl_cons];have:(⟨acc.toArray⟩:ByteArray).push (UInt8.ofNat n.toNat)=⟨(acc++[UInt8.ofNat n.toNat]).toArray⟩:=by apply Z2;simp
  rw[this,aD6 ns];simp
theorem aKd{o:Oper}{s d e:TypeId}{x:Operand}(m:o.op=.convert s d x)(t:P.underlying s=some (.slice e))(A:P.underlying d=some .string)(y:P.underlying e=some (.int .u8))(a:Act)(h:MS P O K M J L S env w) {ex:TV} (Q:VR M J L ex (a.eval x)) {l:Tp_} (F:cH S ex=some l) {b:List UInt8} (C:oR l=some b) {top:TOp} (g:aP top=none): cK P O K top M J L S env w (execOp a.eval o) (.iv (.str b)) env S:=by
 rcases aA1 h Q F with⟨N,r,rfl⟩|⟨j,off,c,es,r,R,H,z⟩
 .simp[oR]at C;subst C;refine .pure g h (v':=.string ⟨([]:List UInt8).toArray⟩) ?_ (.iv _ (.str _));cases N with
  |none=>simp only[execOp,m,r,Sem.run_bind,run_convert_bytes_string w s d e none 0 0 t y A];rfl
  |some a0=>simp only[execOp,m,r,Sem.run_bind,run_convert_bytes_string w s d e (some a0) 0 0 t y A];rfl
 .obtain⟨ns,E,rfl,e3⟩:=xZ C;refine .pure g h (v':=.string _) ?_ (.iv _ (.str _));have f:(loadCells ⟨j,off,none⟩ l.length).run P w=.ok (ns.map (Value.int .u8)).toArray w:=by
   have:=oA (P:=P) (w:=w) j off (ns.map (Value.int .u8)) (fun i v q=>by
    simp only[p_,G_]at q;obtain⟨n,D,rfl⟩:=q;obtain⟨u,I,G⟩:=z i (.int .u8 n) (by rw[E];simp[D]);cases G
    exact I)
   simpa[e3] using this
  have:=run_bytesToString (P:=P) w ⟨j,off,none⟩ l.length c ns f;have k:=aD6 ns [];simp only[List.nil_append]at k;have p:(⟨([]:List UInt8).toArray⟩:ByteArray)=ByteArray.empty:=rfl;rw[p]at k;rw[k]at this;simp only[execOp,m,r,Sem.run_bind,run_convert_bytes_string w s d e _ _ _ t y A,this];rfl
def bMl(P:Program)(t:TypeId):SK->Prop
 |.str=>P.underlying t=some .string
 |.sl n=>∃el,P.underlying t=some (.slice el)/\sizeOf? P el=some n
 |.arr n k=>(∃el,P.underlying t=some (.array n el)/\sizeOf? P el=some k)\/∃a el,P.underlying t=some (.pointer a)/\P.underlying a=some (.array n el)/\sizeOf? P el=some k
theorem vQ{t:TypeId}{n k:Nat}(j:(∃el,P.underlying t=some (.array n el)/\sizeOf? P el=some k)\/∃a el,P.underlying t=some (.pointer a)/\P.underlying a=some (.array n el)/\sizeOf? P el=some k) {b o l h m:Nat} {lv g f:Option Value} (i:(Instr.sliceBounds false n n lv g f).run P w=.ok (l,h,m) w): (Instr.sliceAt t (.pointer (some ⟨b,o,none⟩)) lv g f).run P w=.ok (.slice (some ⟨b,if m=l then o else o+l*k,none⟩) (h-l) (m-l)) w:=by
 have c:(if m=l then(⟨b,o,none⟩:Addr)else⟨b,o+l*k,none⟩)=⟨b,if m=l then o else o+l*k,none⟩:=by split<;>rfl
 rcases j with⟨el,d,e⟩|⟨a,el,d,e,h3⟩;.simp[Instr.sliceAt,und d,Instr.sureAddr,i,run_size? e,iW,c]
 .simp[Instr.sliceAt,und d,Instr.slice,asAddr,und e,i,run_size? h3,iW,c]
theorem bE3(h:WR P O M J S w){b v:Nat}{l:Loc}(c:J.at b l)(a:rU S b v=true):v=l.ver:=by
 unfold rU at a;split at a
 .rename_i v' lo cs hs;have:=h.blk b l _ c hs;cases this
  exact(by simpa using a:l.ver=v).symm
 .rename_i v' cs hs;have:=h.blk b l _ c hs;cases this
  exact(by simpa using a:l.ver=v).symm
 .simp at a
theorem bE4(h:MS P O K M J L S env w){t:TypeId}{k:SK}(f:bMl P t k){x r:TV}{v:Value}(p:VR M J L x v){lo hi A:Option Int}(d:fQ S k x lo hi A=some r){lv Z U:Option Value}(N:OI lo lv)(I:OI hi Z)
  (h3:OI A U):∃u,(Instr.sliceAt t v lv Z U).run P w=.ok u w/\VR M J L r u:=by
 have E:∀ {el:TypeId} (_:P.underlying t=some (.slice el)) (v:Value),(Instr.sliceAt t v lv Z U).run P w=(Instr.slice t v lv Z U).run P w:=by
  intro el he v;simp[Instr.sliceAt,und he]
 unfold fQ at d
 split at d
 ·-- a text
  rename_i s
  simp only[bMl]at f
  split at d
  .simp at d
  .split at d
   .rename_i a b m F
    simp at d;subst d
    obtain⟨g,_⟩:=gA (P:=P) (w:=w) (isS:=false) F (O_ _) N I h3
    have h8:U=none:=by unfold OI at h3;split at h3<;>simp_all
    subst h8
    simp at g
    refine⟨.string ⟨((s.drop a).take (b-a)).toArray⟩,?_,.iv _ (.str _)⟩
    rw[p.str_inv]
    simp[Instr.sliceAt,und f,Instr.slice,oS,g,aD5]
   .simp at d
 ·-- an immutable slice
  rename_i es tg l
  obtain⟨el,f,H⟩:=f
  split at d
  .rename_i hf
   simp only[G_]at d
   obtain⟨r',C,rfl⟩:=d
   obtain⟨u,g,e2⟩:=aA0 (P:=P) (w:=w) p.iv_inv hf C f H N I h3
   exact⟨u,by rw[E f];exact g,.iv _ e2⟩
  .simp at d
 ·-- reserved room,cut back
  rename_i es i l n
  obtain⟨el,f,H⟩:=f
  split at d
  .rename_i G
   obtain⟨rfl,rfl,rfl⟩:=G
   simp at d;subst d
   cases p with
   |rsv L i es n loc b o c hJ hl hv' ha G C =>
    have F:fN (l.length+n) c none (some (l.length:Int)) none=some (0,l.length,c):=by
     have:(l.length:Int)<=c:=A_
     simp[fN,pY,this]
    obtain⟨g,_⟩:=gA (P:=P) (w:=w) (isS:=true) F (O_ _) N I h3
    simp at g
    refine⟨.slice (some ⟨b,o,none⟩) l.length c,?_,.tsl _ _ _ loc b o c hJ hl hv' ha C⟩
    rw[E f]
    simp[Instr.slice,und f,g,run_size? H,iW]
  .simp at d
 ·-- a slice that may grow
  rename_i es i l
  obtain⟨el,f,H⟩:=f
  split at d
  .rename_i hf
   simp only[G_]at d
   obtain⟨r',C,rfl⟩:=d
   cases p with
   |tsl L i es l b o c hJ hl hv' ha hrr =>
    obtain⟨u,g,e2⟩:=aA0 (P:=P) (w:=w) hrr hf C f H N I h3
    exact⟨u,by rw[E f];exact g,.iv _ e2⟩
  .simp at d
 ·-- a slice of the store's
  rename_i es b0 v0 off len cap e
  obtain⟨el,f,H⟩:=f
  split at d
  .simp at d
  rename_i z
  rw[H1]at z
  obtain⟨z,D⟩:=z
  have z:e=es:=A_
  subst z
  have D:rU S b0 v0=true:=by simpa using D
  split at d
  .rename_i l h' m F
   simp at d;subst d
   cases p with
   |msl L i ver off len cap es loc b o c hJ hv' ha hl hlc =>
    rw[E f]
    obtain⟨a1,a2,a3,a4,a5⟩:=ha (bE3 h.wr hJ D)
    obtain⟨g,e2,e3,e4,V,e6⟩:=gA (P:=P) (w:=w) (isS:=true) F a3 N I h3
    have W:=V (.inr hl)
    refine⟨.slice (some ⟨b,if(if A=none then c else m)=l then o else o+l*e,none⟩) (h'-l) ((if A=none then c else m)-l),?_,.msl _ _ _ _ _ _ _ loc b _ _ hJ hv' (fun Z=>⟨a1,fun hd=>?_,?_,fun T=>?_,?_⟩) A_ ?_⟩
    .simp only[Instr.slice,Sem.run_bind,und f,Result.andThen_ok,g,run_size? H]
     simp only[Sem.run_pure,Option.map_some,iW]
     generalize (if A=none then c else m)=q
     split<;>rfl
    .have h0:m≠l:=A_
     have h4:cap≠0:=A_
     have y:(if A=none then c else m)≠l:=by
      split
      .rename_i hx';have:=e3 hx';omega
      .exact h0
     rw[I_ y,I_ h0,a2 h4];omega
    .split
     .rename_i hx';have:=e3 hx';omega
     .exact O_ _
    .split
     .rename_i hx';have:=e3 hx';have:=a4 T;omega
     .rfl
    .have Y:(if A=none then c else m)<=c:=by split<;>omega
     have Q:l<=(if A=none then c else m):=by
      split
      .rename_i hx';have:=e3 hx';omega
      .omega
     generalize (if A=none then c else m)=q at Y Q
     have h6:q*e<=c*e:=D4 _ Y
     split
     .rename_i hq;subst hq;simp;omega
     .have:l*e+(q-l)*e=q*e:=by rw[<-E1];congr 1;omega
      omega
    .split
     .rename_i hx';have:=e3 hx';omega
     .omega
  .simp at d
 ·-- an array
  rename_i n e
  simp only[bMl]at f
  split at d
  .rename_i b0 v0 off
   split at d
   .rename_i v' lo' cs hs
    split at d
    .rename_i G
     obtain⟨rfl,h9⟩:=G
     split at d
     .rename_i l h' m F
      simp at d;subst d
      cases p with
      |ptr L i ver off loc b o hJ hv' ha =>
       have h5:=h.wr.blk b0 loc _ hJ hs
       cases h5 with
       |cells loose cs cs' ee fz T hbb hsz hfit' hvals hfz hm =>
        obtain⟨rfl,rfl⟩:=ha rfl
        obtain⟨g,e2,e3,e4,V,e6⟩:=gA (P:=P) (w:=w) (isS:=false) F (O_ _) N I h3
        have y:(if A=none then n else m)=m:=by
         split
         .rename_i hx';exact(e3 hx').symm
         .rfl
        rw[y]at g
        have W:=V (.inr (O_ _))
        refine⟨_,vQ f g,.msl _ _ _ _ _ _ _ loc _ _ _ hJ hv' (fun _=>⟨rfl,fun _=>by split<;>omega,O_ _,fun _=>rfl,?_⟩) A_ A_⟩
        have h6:m*e<=n*e:=D4 _ e2
        split
        .rename_i hq;subst hq;simp;omega
        .have:l*e+(m-l)*e=m*e:=by rw[<-E1];congr 1;omega
         omega
     .simp at d
    .simp at d
   .simp at d
  .rename_i cs
   split at d
   .simp at d
   rename_i hlen
   split at d
   .rename_i l h' m F
    simp at d;subst d
    obtain⟨g,e2,e3,e4,V,e6⟩:=gA (P:=P) (w:=w) (isS:=false) F (O_ _) N I h3
    have y:(if A=none then n else m)=m:=by
     split
     .rename_i hx';exact(e3 hx').symm
     .rfl
    rw[y]at g
    have W:=V (.inr (O_ _))
    have h7:=p.iv_inv
    cases h7 with
    |cp cs b off vals hm hvv =>
     refine⟨_,vQ f g,.iv _ ?_⟩
     have R:=rF e n cs A_
     have Q:=gB e n cs
     refine aCn (es:=e) (es':=e) (off:=off) (vals:=fun i j=>vals (i*e+j)) R (bMi R) (fun i c j x G p=>?_) (fun i c j x G p=>?_) (by split<;>simp) e4 A_ A_ (fun q=>?_) (fun q=>I_ A_)
     .obtain⟨q1,rfl⟩:=rC e n cs A_ i c G
      rw[D9]at p
      split at p
      .rw[G3];exact hm _ _ (by simpa using p)
      .simp at p
     .obtain⟨q1,rfl⟩:=rC e n cs A_ i c G
      rw[D9]at p
      split at p
      .exact hvv _ _ (by simpa using p)
      .simp at p
     .split at q
      .rename_i hq;rw[hq]
      .simp at q
   .simp at d
  .simp at d
 .simp at d
theorem cK.mk0{top:TOp}(e:aP top=none){M':Mem}{J':aF}{w':World}{s:Sem Next}{v:TV}{r:Next}(a:s.run P w=.ok r w')(d:bP0 M' J' L r v)(b:MS P O K M' J' L S' env' w') (f:Tr (cS L) M J S w M' J' S' w') (c:uX env env'):cK P O K top M J L S env w s v env' S' :=
 ⟨M',J',L,w',r,a,d,b,f,by rw[e];exact⟨rfl,c⟩⟩
theorem aYa{o:Oper}{t:TypeId}{x y:Operand}(k:o.op=.store t x y){n:Nat}(p:sizeOf? P t=some n)(a:Act)(h:MS P O K M J L S env w){l e2:TV}(u:VR M J L l (a.eval x))(A:VR M J L e2 (a.eval y)) (z:(cellsOf e2).length=n) (f:setCells env S l (cellsOf e2)=some (env',S')) {top:TOp} (c:aP top=none):cK P O K top M J L S env w (execOp a.eval o) undef env' S':=by
 have e:(cellsOf e2).any bJ=false:=by
  unfold setCells at f;split at f;.simp at f
  .rename_i q;simpa using q
 have m:=tA A e;obtain⟨b,off,w',v,d,j,s,g⟩:=nK h f u m;refine .mk0 c (r:=.skip) ?_ (.inr ⟨rfl,rfl⟩) j s g;have i:(a.eval y).cells.size=n:=by rw[<-z];simpa using m.1
 simp[execOp,k,v,Go.Instr.storeAt,Go.Instr.sureAddr,storeVar,run_size? p,i,d]
theorem iC{t:TypeId}{z:Tq_}(h:eX P t=some z):∃i a,P.info? t=some i/\i.zero=some a/\i.size=z.length/\a.cells.size=z.length/\(∀w,(zeroValue t).run P w=.ok a w) /\∀(M:Mem) (k:Nat) (x:IV) (u:Value),z[k]?=some x->a.cells[k]?=some u->IR M x u:=by
 unfold eX at h;split at h
 .rename_i i hi;split at h
  .rename_i a hz;split at h
   .rename_i hs;have d:=(xV (M:=fun _ _=>none) h).1;have b:a.cells.size=z.length:=by simpa using d.symm
    refine⟨i,a,hi,hz,by omega,b,fun w=>?_,fun M k x u e c=>(xV (M:=M) h).2 k x u e (by simpa using c)⟩;simp[zeroValue,typeInfo,hi,hz]
   .simp at h
  .simp at h
 .simp at h
theorem aQ6{v:Value}{a:IV}(h:aHf v=some a):bJ (.iv a)=false:=by unfold aHf at h;split at h<;>simp at h<;>subst h<;>rfl
theorem aD7:∀ {vs:List Value} {l:Tq_},xR vs=some l->(l.map TV.iv).any bJ=false
 |[],l,h=>by simp[xR]at h;subst h;rfl
 |v::r,l,h=>by
  simp only[xR]at h;split at h;.rename_i a l' h1 h2;simp at h;subst h;have:=aD7 h2;simp[aQ6 h1]at this |-;exact this
  .simp at h
theorem aM1{t:TypeId}{z:Tq_}(h:eX P t=some z):(z.map TV.iv).any bJ=false:=by
 unfold eX at h;split at h
 .split at h
  .split at h;.exact aD7 h
   .simp at h
  .simp at h
 .simp at h
theorem aD8{z:Tq_}{a:Value}(b:a.cells.size=z.length)(d:∀(M:Mem) (k:Nat) (x:IV) (u:Value),z[k]?=some x->a.cells[k]?=some u->IR M x u):VRs M J L (z.map .iv) a.cells.toList :=
 .ofIVs (by simpa using b) fun i x u c e=>d M i x u c (by simpa using e)
theorem MS.step'{M':Mem}{J':aF}{w':World}(h:MS P O K M J L S env w)(b:WR P O M' J' S' w')(t:Tr (fun _=>False) M J S w M' J' S' w'): MS P O K M' J' L S' env w'/\Tr (cS L) M J S w M' J' S' w' :=
 ⟨h.step b t (fun _ _ a=>a),t.weaken (fun _ a=>a.elim)⟩
theorem aQ7(h:MS P O K M J L S env w){xs:Tn_}{cs:Array Value}(e:TypeId)(g:xs.length<=cs.size)(j:∀(k:Nat) (x:TV),xs[k]?=some x->∃u,cs[k]?=some u/\VR M J [] x u)(loose:Bool)(cap es:Nat): let l:Loc:={cb:=w.heap.size,d:=0,ver:=0,cap:=cap,es:=es,size:=cs.size,loose:=loose}
  MS P O K M (J++[some l]) L (S++[.cells 0 loose xs]) env (w.alloc (.cells cs e))/\Tr (cS L) M J S w M (J++[some l]) (S++[.cells 0 loose xs]) (w.alloc (.cells cs e)) /\
   aF.at (J++[some l]) S.length l:=by
 intro l;have f:M.ext w.heap.size (fun _=>none)=M:=tB h.wr.none_at;have c:=h.wr.push (fun _=>False) (.cells cs e) (fun _=>none) l (.cells l.ver loose xs) rfl (fun o v p=>by simp at p) (by
  rw[f];refine .cells loose xs cs e (0,0) rfl (dA w _) rfl (by show 0+xs.length<=cs.size;omega) (fun k x m=>?_) (fun o r=>?_) (fun o=>h.wr.none_at o) (fun _ q=>absurd rfl q);.obtain⟨u,i,n⟩:=j k x m;exact⟨u,by show cs[0+k]?=_;rw[A7];exact i,n.mono (.refl _) (.push _ _)⟩
  .exact World.frozen?_alloc_new w cs e o)
 rw[f]at c;obtain⟨a,b⟩:=h.step' c.1 c.2;refine⟨a,b,?_⟩;unfold aF.at
 rw[<-h.wr.len];simp
theorem VRs.ex{xs:Tn_}{cs:Array Value}(c:VRs M J [] xs cs.toList):xs.length<=cs.size/\∀(k:Nat) (x:TV),xs[k]?=some x->∃u,cs[k]?=some u/\VR M J [] x u:=by
 have b:cs.size=xs.length:=by simpa using c.1
 refine⟨by omega,fun k x d=>?_⟩;have a:k<cs.size:=by rw[b];exact(E_.1 d).1
 exact⟨cs[k],A8 a,c.2 k x _ d (by simp[a])⟩
theorem wP{α:Type}{l:List α}{i j:Nat}{x:α}(h:j≠i):(l.set i x)[j]?=l[j]? := by rw[B2 A_]
theorem aD9(h:MS P O K M J L S env w){xs:Tn_}{cs:Array Value}(e:TypeId)(H:VRs M J [] xs cs.toList){j:Nat}(C:j<env.length){top:TOp}(g:aP top=some j){s:Sem Next} (i:s.run P w=.ok (.value (.pointer (some ⟨w.heap.size,0,none⟩))) (w.alloc (.cells cs e))):cK P O K top M J L S env w s (.lp j 0) (env.set j (.lb xs)) S:=by
 have N:M.ext w.heap.size (fun _=>none)=M:=tB h.wr.none_at;have A:=h.wr.alloc (fun _=>False) (.cells cs e) (fun _=>none) (fun o v x=>by simp at x);rw[N]at A;obtain⟨a,b⟩:=h.step' A.1 A.2;have u:j<L.length:=by rw[h.lb.len];exact C
 have r:(L.set j (some w.heap.size))[j]?=some (some w.heap.size):=C7 u;have z:¬J.has w.heap.size:=fun q=>absurd (h.wr.has_lt q) A_;refine⟨M,J,L.set j (some w.heap.size),w.alloc (.cells cs e),_,i,.inl ⟨_,rfl,.lp _ _ _ _ r⟩,⟨a.wr,⟨by simp[h.lb.len],fun k ys f=>?_,fun k k' ys y cb f p t c=>?_⟩,h.gl⟩,b,?_⟩
 .by_cases hkj:k=j;.subst hkj;rw[C7 C]at f;simp at f;subst f;exact⟨_,r,z,h.wr.none_at,cs,e,(0,0),dA w _,H,fun o _=>World.frozen?_alloc_new w cs e o⟩
  .rw[wP hkj]at f;obtain⟨cb,n,l⟩:=a.lb.box k ys f;exact⟨cb,by rw[wP hkj];exact n,l⟩
 .have d:∀ {m:Nat} {ys:Tn_} {cb:Nat},m≠j->(env.set j (TV.lb xs))[m]?=some (TV.lb ys)->(L.set j (some w.heap.size))[m]?=some (some cb)->env[m]?=some (TV.lb ys)/\L[m]?=some (some cb)/\cb<w.heap.size:=by intro m ys cb x n l;rw[wP x]at n l;obtain⟨G,h3,I⟩:=h.lb.box m ys n;rw[l]at h3;simp at h3;subst h3;exact⟨n,l,I.lt⟩
  by_cases hkj:k=j
  .by_cases hkj':k'=j;.omega
   .subst hkj;obtain⟨_,_,q⟩:=d hkj' p c;rw[r]at t;simp at t;omega
  .by_cases hkj':k'=j;.subst hkj';obtain⟨_,_,q⟩:=d hkj f t;rw[r]at c;simp at c;omega
   .obtain⟨D,p2,_⟩:=d hkj f t;obtain⟨F,E,_⟩:=d hkj' p c;exact h.lb.inj k k' ys y cb D F p2 E
 .rw[g];exact⟨xs,w.heap.size,rfl,rfl,O_ _⟩
theorem aHj{o:Oper}{t:TypeId}(b:o.op=.alloc t){c:Value}(d:∀w,(zeroValue t).run P w=.ok c w)(a:Act): (execOp a.eval o).run P w=.ok (.value (.pointer (some ⟨w.heap.size,0,none⟩))) (w.alloc (.cells c.cells t)):=by simp[execOp,b,Go.Instr.alloc,d,newVar,newRow]
theorem aVt{o:Oper}{t:TypeId}{x:Operand}(b:o.op=.box t x)(a:Act): (execOp a.eval o).run P w=.ok (.value (.pointer (some ⟨w.heap.size,0,none⟩))) (w.alloc (.cells (a.eval x).cells t)):=by simp[execOp,b,Go.Instr.box,newVar,newRow]
theorem aEa{n bytes:Nat}(h:eA n bytes=true):n*bytes<=35184372088832/\bytes<=1048576/\n<=35184372088832:=by unfold eA at h;simp at h;exact⟨h.1.1,h.1.2,h.2⟩
theorem aF9{z:Array Value}{n k:Nat}(a:k<n):(madeCells z n)[k]?=some (z[k % z.size]!):=by simp[madeCells,a]
theorem kR{z:Tq_}{n k:Nat}{x:TV}(h:(bC (List.replicate n (z.map TV.iv)))[k]?=some x):k<n*z.length/\∃y,z[k % z.length]?=some y/\x=.iv y:=by
 obtain⟨i,c,j,b,e,h3⟩:=xX (es:=z.length) (fun c f=>by rw[K1 f];simp) h;have a:i<n:=by have:=(E_.1 b).1;simpa using this
 rw[I7]at b;simp[a]at b;subst b;simp only[p_,G_]at e;obtain⟨y,d,rfl⟩:=e;have g:=(E_.1 d).1;have:(i+1)*z.length<=n*z.length:=D4 _ a;rw[E1]at this;refine⟨by omega,y,?_,rfl⟩;rw[h3,Nat.mul_comm,Nat.mul_add_mod,Nat.mod_eq_of_lt g];exact d
theorem aKe{z:Tq_}{a:Array Value}(c:a.size=z.length)(e:∀(k:Nat) (x:IV) (u:Value),z[k]?=some x->a[k]?=some u->IR M x u){k:Nat}{y:IV}(d:z[k % z.length]?=some y):IR M y (a[k % a.size]!):=by
 have b:k % z.length<a.size:=by rw[c];exact(E_.1 d).1
 rw[c,getElem!_pos a _ b];exact e _ y _ d (A8 b)
theorem zS{J:aF}{i:Nat}{l':Loc}(b:i<J.length){k:Nat}{a:Loc}(h:aF.at (J.set i (some l')) k a):(k=i/\a=l')\/(k≠i/\J.at k a):=by
 unfold aF.at at h |-;by_cases hk:k=i;.subst hk;rw[C7 b]at h;simp at h;exact .inl ⟨rfl,h.symm⟩
 .rw[B2 A_]at h;exact .inr ⟨hk,h⟩
theorem gY{J:aF}{i:Nat}{l':Loc}(a:i<J.length):aF.at (J.set i (some l')) i l':=by
 unfold aF.at
 rw[C7 a]
theorem WR.turn(h:WR P O M J S w){i:Nat}{l l':Loc}(g:J.at i l)(G:l.loose=true)(z:l'.loose=true)(A:l.ver<l'.ver){M':Mem}{w':World}{s':aG}(T:MLe M M')(r:∀b o,b≠l'.cb->M' b o=M b o) (t:∀b,b≠l'.cb->b<w.heap.size->w'.heap[b]?=w.heap[b]?) (L:w.heap.size<=w'.heap.size) (I:l'.cb<w'.heap.size) (j:l'.cb=l.cb\/w.heap.size<=l'.cb) (x:∀o v,M' l'.cb o=some v->w'.cell? ⟨l'.cb,o,none⟩=some v) (q:w'.os=w.os/\w'.tape=w.tape/\w'.output=w.output) (N:BR P O M' (J.set i (some l')) w' l' s'): WR P O M' (J.set i (some l')) (S.set i s') w'/\Tr (fun _=>False) M J S w M' (J.set i (some l')) (S.set i s') w':=by
 have p:i<J.length:=(E_.1 g).1;have U:JLe J (J.set i (some l')):=by
  refine⟨by simp,fun k d a=>?_⟩;by_cases c:k=i
  .subst c;obtain rfl:d=l:=by unfold aF.at at a g;rw[g]at a;simpa using a.symm
   exact⟨l',gY p,.inr ⟨G,z,A⟩⟩
  .refine⟨d,?_,.inl rfl⟩;unfold aF.at at a |-;rw[B2 A_];exact a
 have m:∀ {k:Nat} {d:Loc},k≠i->J.at k d->d.cb≠l'.cb:=by
  intro k d a C e;rcases j with f|f;.exact a (h.inj k i d l C g (e.trans f))
  .have:=h.lt k d C;omega
 refine⟨h.step (by simp[h.len]) T U (fun b o v F=>?_) (fun k d s a y=>?_) (fun k k' d Q a R e=>?_) (fun k d a=>?_),?_⟩
 .by_cases u:b=l'.cb;.subst u;exact x o v F
  .rw[r b o u]at F;rw[dR (t b u (h.mlt F))];exact h.imm b o v F
 .rcases zS p a with⟨rfl,rfl⟩|⟨c,a⟩;.left;rw[C7 (by rw[<-h.len];exact p)]at y;simp at y;subst y;exact N
  .right;rw[B2 A_]at y;exact⟨a,y,t _ (m c a) (h.lt k d a),fun o=>r _ _ (m c a)⟩
 .rcases zS p a with⟨rfl,rfl⟩|⟨c,E⟩<;>rcases zS p R with⟨rfl,rfl⟩|⟨D,n⟩;.rfl
  .exact absurd e.symm (m D n)
  .exact absurd e (m c E)
  .exact h.inj k k' d Q E n e
 .rcases zS p a with⟨rfl,rfl⟩|⟨c,a⟩;.exact I
  .have:=h.lt k d a;omega
 .refine⟨q.1,q.2.1,q.2.2,L,T,fun b o u H=>r b o (fun e=>?_),U,fun k d a=>?_,fun k a=>?_,fun b u H _=>t b (fun e=>?_) u⟩
  .rcases j with f|f;.exact H ⟨i,l,g,by omega⟩
   .omega
  .rcases zS p a with⟨rfl,rfl⟩|⟨c,a⟩
   .rcases j with f|f;.exact .inr ⟨l,g,f.symm⟩
    .exact .inl f
   .exact .inr ⟨d,a,rfl⟩
  .have c:k≠i:=by rintro rfl;unfold aF.at at g;rw[g]at a;simp at a
   rw[B2 A_,B2 A_];exact⟨a,rfl⟩
  .rcases j with f|f;.exact H ⟨i,l,g,by omega⟩
   .omega
theorem MS.drew(h:MS P O K M J L S env w):MS P O K M J L S env w.drew/\Tr (fun _=>False) M J S w M J S w.drew:=by obtain⟨a,b⟩:=h.wr.drew (fun _=>False);exact⟨(h.step' a b).1,b⟩
structure aVu (P:Program) (w:World) (M:Mem) (J:aF) (es sLen sCap n:Nat) (base:Option Addr) (xv:Value) (os ns:List TV):Prop where
 lenX:(Builtin.lenOf xv).run P w=.ok n w
 newX:∃vs,VRs M J [] ns vs/\(Builtin.firstCells es n xv).run P w=.ok vs.toArray w
 old:∃vs,VRs M J [] os vs/\(Builtin.firstCells es sLen (.slice base sLen sCap)).run P w=.ok vs.toArray w
 olen:os.length=sLen*es
 nlen:ns.length=n*es
theorem bE5{t u el:TypeId}{ty:TypeId}{ts:Array TypeId}(h0:ts[0]?=some t)(h1:ts[1]?=some u)(T:P.underlying t=some (.slice el))(Y:(∃e,P.underlying u=some (.slice e))\/P.underlying u=some .string) {z:Tq_} (U:eX P el=some z) {bytes:Nat} (g:bytesOf? P el=some bytes) (h2:bytes≠0) {a b n:Nat} {base:Option Addr} {r:Value} {os ns:Tn_} (c:aVu P w.drew M J z.length a b n base r os ns) (h:(Builtin.lenOf r).run P w=.ok n w) (Z:b<a+n) (Q:eA (a+n) bytes=true): ∃cs cap,(Builtin.append_ ts ty #[.slice base a b,r]).run P w=.ok (.slice (some ⟨w.heap.size,0,none⟩) (a+n) cap) (w.drew.alloc (.cells cs el))/\a+n<=cap/\cs.size=cap*z.length /\∀(k:Nat) (x:TV),(os++ns)[k]?=some x->∃v,cs[k]?=some v/\VR M J [] x v:=by
 obtain⟨i,A,C,p,y,o,h4,W⟩:=iC U;obtain⟨r1,r2,r3⟩:=aEa Q;have R:i.bytes=bytes:=by unfold bytesOf? at g;rw[C]at g;simpa using g
 obtain⟨f,N,G⟩:=c.newX;obtain⟨d,F,H⟩:=c.old;have E:=growslice_fits (bytes:=bytes) Z A_;have V:¬(a+n<=b):=A_;have l:¬(281474976710656<Builtin.nextslicecap (a+n) b*i.bytes):=by rw[R];omega
 have q:¬(i.bytes=0):=A_;have m:=grownCap_ge w (a+n) b el;refine⟨d.toArray++f.toArray++Builtin.zeroCells A.cells (grownCap w (a+n) b el-(a+n)),grownCap w (a+n) b el,?_,m,?_,fun k x L=>?_⟩
 .rw[<-y]at G H;have s:d.toArray++f.toArray++Builtin.zeroCells A.cells (grownCap w (a+n) b el-(a+n))=(d++f).toArray++Builtin.zeroCells A.cells (grownCap w (a+n) b el-(a+n)):=B_;rw[s];rcases Y with⟨e,D⟩|D <;>
  .simp[Builtin.append_,h0,h1,und T,und D,sizeOf,typeInfo,zeroValue,C,p,h,V,q,l,Question.forced,G,H,newRow,grownCap];congr 2;apply N0;simp
 .have e1:d.length=a*z.length:=by rw[F.1,c.olen]
  have e2:f.length=n*z.length:=by rw[N.1,c.nlen]
  simp only[L9,J3,size_zeroCells,o,e1,e2,<-E1];congr 1;omega
 .have I:=F.append N;have j:k<(d++f).length:=by rw[I.1];exact(E_.1 L).1
  refine⟨(d++f)[k],?_,I.2 k x _ L (D_ j)⟩;have:(d.toArray++f.toArray:Array Value)=(d++f).toArray:=B_;rw[this,H5 (by simpa using j)];simp
theorem yA{t u el:TypeId}{ty:TypeId}{ts:Array TypeId}(k:ts[0]?=some t)(p:ts[1]?=some u)(r:P.underlying t=some (.slice el))(l:(∃e,P.underlying u=some (.slice e))\/P.underlying u=some .string) {es:Nat} (i:sizeOf? P el=some es) {a c n:Nat} {b o:Nat} {h:Value} {vs:List Value} (d:(Builtin.lenOf h).run P w=.ok n w) (f:(Builtin.firstCells es n h).run P w=.ok vs.toArray w) (m:a+n<=c) {w':World} (g:(storeCells ⟨b,o+a*es,none⟩ vs).run P w=.ok () w'): (Builtin.append_ ts ty #[.slice (some ⟨b,o,none⟩) a c,h]).run P w=.ok (.slice (some ⟨b,o,none⟩) (a+n) c) w':=by
 have q:=run_size? i w;rcases l with⟨e,j⟩|j <;>
 .simp[Builtin.append_,k,p,und r,und j,q,d,m,f,iW,g]
theorem bE6(c:Option Addr){t u el:TypeId}{ty:TypeId}{ts:Array TypeId}(h:ts[0]?=some t)(j:ts[1]?=some u)(l:P.underlying t=some (.slice el))(i:(∃e,P.underlying u=some (.slice e))\/P.underlying u=some .string) {es:Nat} (f:sizeOf? P el=some es) {d:Value} (a:(Builtin.lenOf d).run P w=.ok 0 w) (b:(Builtin.firstCells es 0 d).run P w=.ok #[] w): (Builtin.append_ ts ty #[.slice c 0 0,d]).run P w=.ok (.slice c 0 0) w:=by
 have k:=run_size? f w;cases c<;>rcases i with⟨e,g⟩|g <;>
 .simp[Builtin.append_,h,j,und l,und g,k,a,b,storeCells]
theorem aA2{t:TypeId}{z:Tq_}(h:eX P t=some z):sizeOf? P t=some z.length:=by obtain⟨i,c,b,_,a,_⟩:=iC h;simp[sizeOf?,b,a]
theorem bMm{s:TV}{v:Value}(f:aQz s=true)(e:VR M J L s v):(∃p,v=.slice p 0 0)\/∃b o n c,v=.slice (some ⟨b,o,none⟩) n c/\n<=c:=by
 cases e with
 |iv L h =>
  cases h with
  |slNil=>exact .inl ⟨_,rfl⟩
  |slE t a ht=>exact .inl ⟨_,rfl⟩
  |sl t l b off cap es vals ht hes hcap hfull hm e=>exact .inr ⟨b,off,_,cap,rfl,hcap⟩
  |_=>simp[aQz]at f
 |msl L i ver off len cap es l b o c h e ha hl hlc=>exact .inr ⟨b,o,_,c,rfl,hlc⟩
 |tsl L i es l b o c h hl e ha hr =>
  rcases hr.sl_any with⟨d,_⟩|⟨j,o',c',es',vals,d,_,_,h3,_⟩|⟨k,d,g,_⟩;case inr.inr=>subst g;simp at d;obtain⟨rfl,rfl⟩:=d;exact .inl ⟨_,rfl⟩
  .simp at d
  .simp at d;obtain⟨_,rfl⟩:=d;exact .inr ⟨b,o,_,c,rfl,h3⟩
 |_=>simp[aQz]at f
theorem uL{α:Type}{es:Nat}:∀ {l:List (List α)},(∀c∈l,c.length=es)->∀ {i:Nat} {c:List α} {j:Nat} {x:α},l[i]?=some c->c[j]?=some x->(bC l)[i*es+j]?=some x
 |[],_,i,c,j,x,h,_=>by simp at h
 |a::r,hl,i,c,j,x,h,hx=>by
  have e:=hl a B_;simp only[bC];cases i with
  |zero =>simp at h;subst h;have:=(E_.1 hx).1;rw[Y_ A_];simpa using hx
  |succ i =>have b:∀c∈r,c.length=es:=fun c d=>hl c (by simp[d]);have:=uL b (by simpa using h) hx;rw[r_ (by rw[E1];omega),e];rw[show(i+1)*es+j-es=i*es+j by rw[E1];omega];exact this
theorem aM2{M:Mem}{t:Tag}{l:Tp_}{b o c es:Nat}(p:t≠.nil)(e:∀c∈l,c.length=es)(n:l.length<=c)(d:t=.full->c=l.length)(h:∀(k:Nat) (a:IV),(bC l)[k]?=some a->∃u,M b (o+k)=some u/\IR M a u): IR M (.sl t l) (.slice (some ⟨b,o,none⟩) l.length c):=by
 refine .sl t l b o c es (fun i j=>(M b (o+(i*es+j))).getD Go.undef) p e n d (fun i c j x f g=>?_) (fun i c j x f g=>?_);.obtain⟨u,h3,m⟩:=h _ _ (uL e f g);rw[G3,h3];rfl
 .obtain⟨u,h3,m⟩:=h _ _ (uL e f g);rw[h3];exact m
theorem aYb(l:Tq_):toIVs (l.map .iv)=some l:=by
 induction l with
 |nil=>rfl
 |cons a r ih=>simp[toIVs,oQ,ih]
theorem yB:∀ {a b:Tn_} {x y:Tq_},toIVs a=some x->toIVs b=some y->toIVs (a++b)=some (x++y)
 |[],b,x,y,h,k=>by simp[toIVs]at h;subst h;simpa using k
 |v::r,b,x,y,h,k=>by
  simp only[toIVs]at h;split at h;.rename_i a l h1 h2;simp at h;subst h;simp[toIVs,h1,yB h2 k]
  .simp at h
def Mem.put(M:Mem)(b o:Nat)(vs:List Value):Mem:=fun b' o'=>if b'=b/\o<=o'/\o'<o+vs.length then vs[o'-o]? else M b' o'
theorem Mem.put_le{M:Mem}{b o:Nat}{vs:List Value}(h:∀o',o<=o'->o'<o+vs.length->M b o'=none):MLe M (M.put b o vs):=by
 intro e o' v a;unfold Mem.put;split;.rename_i hc;obtain⟨rfl,c,d⟩:=hc;rw[h o' c d]at a;simp at a
 .exact a
theorem JLe.turn{J:aF}{i:Nat}{l l':Loc}(e:J.at i l)(d:l.loose=true)(b:l'.loose=true)(c:l.ver<l'.ver):JLe J (J.set i (some l')):=by
 have g:i<J.length:=(E_.1 e).1;refine⟨by simp,fun k f a=>?_⟩;by_cases hki:k=i
 .subst hki;obtain rfl:f=l:=by unfold aF.at at a e;rw[e]at a;simpa using a.symm
  exact⟨l',gY g,.inr ⟨d,b,c⟩⟩
 .refine⟨f,?_,.inl rfl⟩;unfold aF.at at a |-;rw[B2 A_];exact a
theorem aEb(h:MS P O K M J L S env w){i:Nat}{l:Loc}(g:J.at i l)(f:l.loose=true){xs:Tn_}{cs:Array Value}(e:TypeId)(j:xs.length<=cs.size) (y:∀(k:Nat) (x:TV),xs[k]?=some x->∃u,cs[k]?=some u/\VR M J [] x u): let l':Loc:={cb:=w.heap.size,d:=0,ver:=l.ver+1,cap:=0,es:=0,size:=cs.size,loose:=true}
  MS P O K M (J.set i (some l')) L (S.set i (.cells (l.ver+1) true xs)) env (w.alloc (.cells cs e))/\Tr (cS L) M J S w M (J.set i (some l')) (S.set i (.cells (l.ver+1) true xs)) (w.alloc (.cells cs e)) /\
   aF.at (J.set i (some l')) i l':=by
 intro l';have t:i<J.length:=(E_.1 g).1;have n:JLe J (J.set i (some l')):=.turn g f rfl (Q6 _);obtain⟨a,b⟩:=h.wr.turn g f (l':=l') rfl (Q6 _) (M':=M) (w':=w.alloc (.cells cs e)) (s':=.cells l'.ver true xs) (.refl _) (fun _ _ _=>rfl) (fun b C r=>cT w _ A_) B_ (by show w.heap.size<_;simp)
  (.inr (O_ _)) (fun o v m=>by rw[h.wr.none_at]at m;simp at m) ⟨rfl,rfl,rfl⟩
  (.cells true xs cs e (0,0) rfl (dA w _) rfl (by show 0+xs.length<=cs.size;omega) (fun k x z=>by obtain⟨u,p,A⟩:=y k x z;exact⟨u,by show cs[0+k]?=_;rw[A7];exact p,A.mono (.refl _) n⟩) (fun o _=>World.frozen?_alloc_new w cs e o) (fun o=>h.wr.none_at o) (fun q=>by simp[l']at q))
 obtain⟨c,d⟩:=h.step' a b;exact⟨c,d,gY t⟩
theorem aGa(h:MS P O K M J L S env w){i:Nat}{l:Loc}(E:J.at i l)(f:l.loose=true){C:Tn_}(U:S[i]?=some (.cells l.ver true C)){o:Nat}{os ns:Tn_}{vs:List Value} (G:At w M J l.cb o os) (j:VRs M J [] ns vs) (Q:o+os.length+ns.length<=l.size) (V:ns.any bJ=false): let l':Loc:={l with d:=o,ver:=l.ver+1}
  ∃w',(storeCells ⟨l.cb,o+os.length,none⟩ vs).run P w=.ok () w'/\MS P O K M (J.set i (some l')) L (S.set i (.cells (l.ver+1) true (os++ns))) env w' /\
   Tr (cS L) M J S w M (J.set i (some l')) (S.set i (.cells (l.ver+1) true (os++ns))) w'/\aF.at (J.set i (some l')) i l':=by
 intro l';have T:i<J.length:=(E_.1 E).1;have y:=h.wr.blk i l _ E U;generalize hb0:aG.cells l.ver true C=s0 at y;cases y with
 |cells loose cs cs' e fz hlo' n hsz hfit' hvals hfz hm htt =>
  have R:JLe J (J.set i (some l')):=.turn E f f (Q6 _);have r:=nJ (P:=P) (o:=o+os.length) (vs:=vs) n (by rw[j.1];omega) (fun k _ p=>hfz k (by rw[j.1]at p;omega)) (j.oneCell V);have A:∀b,b≠l.cb->(w.setCells l.cb (o+os.length) vs).heap[b]?=w.heap[b]? := fun b I=>iX l.cb vs _ w b I;have m:=iI l.cb vs (o+os.length) w;have F:=fZ n;have t:=jR l.cb vs (o+os.length) w cs' e fz n;obtain⟨a,b⟩:=h.wr.turn E f (l':=l') f (Q6 _) (M':=M) (w':=w.setCells l.cb (o+os.length) vs) (s':=.cells l'.ver true (os++ns)) (.refl _) (fun _ _ _=>rfl) (fun b n _=>A b n) A_ (by rw[m];exact F)
   (.inl rfl) (fun o v z=>by rw[show M l'.cb o=none from hm o]at z;simp at z) (mI _ _ _ _)
   (.cells true (os++ns) (rY cs' (o+os.length) vs) e fz f t (by rw[eT];exact hsz) (by rw[eT,H_];show o+_<=_;omega) (fun k x D=>by
    show ∃u,(rY cs' (o+os.length) vs)[o+k]?=some u/\_;rw[sZ _ _ _ _ (by rw[j.1];omega)];rw[F7]at D;split at D;.rename_i p;rw[I_ A_];obtain⟨u,N,h3⟩:=G k x D;rw[dX n]at N;exact⟨u,N,h3.mono (.refl _) R⟩
    .rename_i p;have H:=(E_.1 D).1;rw[K_ (by rw[j.1];omega),show o+k-(o+os.length)=k-os.length by omega];have g:k-os.length<vs.length:=by rw[j.1];exact H
     exact⟨vs[k-os.length],D_ g,(j.2 _ x _ D (D_ g)).mono (.refl _) R⟩)
    (fun k p=>by rw[World.frozen?_setCells];exact hfz k (by rwa [eT]at p)) hm (fun q=>by rw[show l'.loose=true from f]at q;simp at q))
  obtain⟨c,d⟩:=h.step' a b;exact⟨_,r,c,d,gY T⟩
 |_=>simp at hb0
def oB(cs:Array Value)(n:Nat):Nat->Option Value:=fun o=>if o<n then cs[o]? else none
theorem aKf{w:World}(cs:Array Value)(n:Nat)(e:TypeId):∀o v,oB cs n o=some v->(w.alloc (.cells cs e)).cell? ⟨w.heap.size,o,none⟩=some v:=by
 intro o v a;unfold oB at a;split at a;.rw[World.cell?_alloc_new];exact a
 .simp at a
theorem bE7{M:Mem}{n:Nat}{l:Tp_}{es c:Nat}{cs:Array Value}(i:∀o,M n o=oB cs (l.length*es) o)(b:∀c∈l,c.length=es)(f:l.length<=c)(h:∀(k:Nat) (a:IV),(bC l)[k]?=some a->∃u,cs[k]?=some u/\IR M a u): IR M (.sl .no l) (.slice (some ⟨n,0,none⟩) l.length c):=by refine aM2 B_ b f B_ fun k a d=>?_;obtain⟨u,e,g⟩:=h k a d;refine⟨u,?_,g⟩;rw[i,A7];unfold oB;have:=(E_.1 d).1;rw[dG b]at this;rw[K_ this];exact e
theorem aM3(h:MS P O K M J L S env w){l:Tp_}{es cap:Nat}{cs:Array Value}(e:TypeId)(g:0<es)(i:∀c∈l,c.length=es)(p:l.length<=cap)(r:cs.size=cap*es) (s:∀(k:Nat) (a:IV),(bC l)[k]?=some a->∃u,cs[k]?=some u/\IR M a u): ∃M' J',MS P O K M' J' L (S++[.tok l.length es e]) env (w.alloc (.cells cs e))/\Tr (cS L) M J S w M' J' (S++[.tok l.length es e]) (w.alloc (.cells cs e)) /\VR M' J' L (.tsl S.length l) (.slice (some ⟨w.heap.size,0,none⟩) l.length cap):=by
 let l':Loc:={cb:=w.heap.size,d:=0,ver:=l.length,cap:=cap,es:=es,size:=cs.size,loose:=true,ty:=e}
 have m:=h.wr.mle_ext (oB cs (l.length*es));have f:∀o,(M.ext w.heap.size (oB cs (l.length*es))) w.heap.size o=oB cs (l.length*es) o:=fun o=>by simp[Mem.ext]
 obtain⟨a,b⟩:=h.wr.push (fun _=>False) (.cells cs e) (oB cs (l.length*es)) l' (.tok l.length es e) rfl (aKf cs _ e)
  (.tok l.length cs e (0,0) rfl rfl (dA w _) rfl p g (by show 0+cap*es<=cs.size;omega) (fun o n _=>by rw[f];unfold oB;have n:0+l.length*es<=o:=n;rw[I_ A_]) (fun o _ _=>World.frozen?_alloc_new w cs e o) ⟨rfl,rfl,I3 _⟩)
 obtain⟨c,d⟩:=h.step' a b;have j:aF.at (J++[some l']) S.length l':=by unfold aF.at;rw[<-h.wr.len];simp
 refine⟨_,_,c,d,.tsl _ _ _ l' _ _ _ j rfl (O_ _) (fun _=>⟨rfl,rfl,rfl,i⟩) ?_⟩;exact bE7 f i p fun k a q=>let ⟨u,h1,h2⟩:=s k a q;⟨u,h1,h2.mono m⟩
theorem aKg(h:MS P O K M J L S env w){i:Nat}{loc:Loc}(q:J.at i loc)(p:loc.loose=true){l:Tp_}(j:loc.ver<l.length){es cap:Nat}{cs:Array Value}(e:TypeId)(m:0<es)(g:∀c∈l,c.length=es) (t:l.length<=cap) (C:cs.size=cap*es) (D:∀(k:Nat) (a:IV),(bC l)[k]?=some a->∃u,cs[k]?=some u/\IR M a u): ∃M' J',MS P O K M' J' L (S.set i (.tok l.length es e)) env (w.alloc (.cells cs e))/\Tr (cS L) M J S w M' J' (S.set i (.tok l.length es e)) (w.alloc (.cells cs e)) /\VR M' J' L (.tsl i l) (.slice (some ⟨w.heap.size,0,none⟩) l.length cap):=by
 let l':Loc:={cb:=w.heap.size,d:=0,ver:=l.length,cap:=cap,es:=es,size:=cs.size,loose:=true,ty:=e}
 have A:i<J.length:=(E_.1 q).1;have n:=h.wr.mle_ext (oB cs (l.length*es));have f:∀o,(M.ext w.heap.size (oB cs (l.length*es))) w.heap.size o=oB cs (l.length*es) o:=fun o=>by simp[Mem.ext]
 obtain⟨a,b⟩:=h.wr.turn q p (l':=l') rfl j (M':=M.ext w.heap.size (oB cs (l.length*es))) (w':=w.alloc (.cells cs e)) (s':=.tok l.length es e) n (fun b o x=>by unfold Mem.ext;rw[I_ x])
  (fun b x y=>cT w _ A_) B_ (by show w.heap.size<_;simp) (.inr (O_ _)) (fun o v E=>aKf cs _ e o v (by rw[<-f];exact E)) ⟨rfl,rfl,rfl⟩
  (.tok l.length cs e (0,0) rfl rfl (dA w _) rfl t m (by show 0+cap*es<=cs.size;omega) (fun o r _=>by rw[f];unfold oB;have r:0+l.length*es<=o:=r;rw[I_ A_]) (fun o _ _=>World.frozen?_alloc_new w cs e o) ⟨rfl,rfl,I3 _⟩)
 obtain⟨c,d⟩:=h.step' a b;refine⟨_,_,c,d,.tsl _ _ _ l' _ _ _ (gY A) rfl (O_ _) (fun _=>⟨rfl,rfl,rfl,g⟩) ?_⟩;exact bE7 f g t fun k a z=>let ⟨u,h1,h2⟩:=D k a z;⟨u,h1,h2.mono n⟩
theorem aM4(h:MS P O K M J L S env w){i:Nat}{loc:Loc}(hl:J.at i loc){n:Nat}(hs:S[i]?=some (.tok n loc.es loc.ty)){l l2:Tp_}(Q:l.length=n)(h7:0<l2.length)(m:∀c∈l++l2,c.length=loc.es) (hr:IR M (.sl .no l) (.slice (some ⟨loc.cb,loc.d,none⟩) l.length loc.cap)) (g:n+l2.length<=loc.cap) {ns:Tn_} {vs:List Value} (Y:VRs M J [] ns vs) (G:toIVs ns=some (bC l2)) (h1:ns.any bJ=false): ∃w' M' J',(storeCells ⟨loc.cb,loc.d+l.length*loc.es,none⟩ vs).run P w=.ok () w'/\MS P O K M' J' L (S.set i (.tok (l++l2).length loc.es loc.ty)) env w'/\Tr (cS L) M J S w M' J' (S.set i (.tok (l++l2).length loc.es loc.ty)) w' /\VR M' J' L (.tsl i (l++l2)) (.slice (some ⟨loc.cb,loc.d,none⟩) (l++l2).length loc.cap):=by
 let l':Loc:={loc with ver:=(l++l2).length}
 have hi:i<J.length:=(E_.1 hl).1;have T:=h.wr.blk i loc _ hl hs;have H:∀c∈l,c.length=loc.es:=fun c W=>m c (by simp[W]);have I:∀c∈l2,c.length=loc.es:=fun c W=>m c (by simp[W]);generalize hs0:aG.tok n loc.es loc.ty=s0 at T;cases T with
 |tok n' cs' e fz hlo hnv y hsz W hes0 hfit hsp hfz htt =>
  obtain rfl:n=n':=by simpa using hs0
  have h8:vs.length=l2.length*loc.es:=by rw[Y.1,<-(iK G).1,dG I]
  have h6:n*loc.es+l2.length*loc.es<=loc.cap*loc.es:=by rw[<-E1];exact D4 _ g
  have ho:loc.d+l.length*loc.es=loc.d+n*loc.es:=by rw[Q]
  have N:=nJ (P:=P) (o:=loc.d+l.length*loc.es) (vs:=vs) y A_ (fun k D hd=>hfz k A_ A_) (Y.oneCell h1);have V:∀b,b≠loc.cb->(w.setCells loc.cb (loc.d+l.length*loc.es) vs).heap[b]?=w.heap[b]? := fun b Z=>iX loc.cb vs _ w b Z;have C:=iI loc.cb vs (loc.d+l.length*loc.es) w;have h4:=fZ y;have u:=jR loc.cb vs (loc.d+l.length*loc.es) w cs' e fz y;have p:∀o,(w.setCells loc.cb (loc.d+l.length*loc.es) vs).cell? ⟨loc.cb,o,none⟩=if loc.d+l.length*loc.es<=o/\o<loc.d+l.length*loc.es+vs.length then vs[o-(loc.d+l.length*loc.es)]? else cs'[o]? := by intro o;rw[dX u,sZ _ _ _ _ A_]
  have r:MLe M (M.put loc.cb (loc.d+l.length*loc.es) vs):=Mem.put_le fun o' t h3=>hsp o' A_ A_;have f:(l++l2).length=n+l2.length:=by simp[Q]
  obtain⟨a,b⟩:=h.wr.turn hl hlo (l':=l') hlo (by show loc.ver<(l++l2).length;omega) (M':=M.put loc.cb (loc.d+l.length*loc.es) vs) (w':=w.setCells loc.cb (loc.d+l.length*loc.es) vs) (s':=.tok (l++l2).length loc.es loc.ty) r
   (fun b o y=>by unfold Mem.put;rw[I_ (by intro q;exact y q.1)]) (fun b y _=>V b y) A_ (by rw[C];exact h4) (.inl rfl) (fun o v z=>by
    show(w.setCells loc.cb (loc.d+l.length*loc.es) vs).cell? ⟨loc.cb,o,none⟩=some v;rw[p];have z:(M.put loc.cb (loc.d+l.length*loc.es) vs) loc.cb o=some v:=z;unfold Mem.put at z;split at z;.rename_i q;rw[K_ q.2];exact z
    .rename_i q;rw[I_ (by intro q';exact q ⟨rfl,q'⟩),<-dX y];exact h.wr.imm _ _ _ z) (mI _ _ _ _)
   (.tok _ (rY cs' (loc.d+l.length*loc.es) vs) e fz hlo rfl u (by rw[eT];exact hsz) (by rw[f];exact g) hes0 (by rw[eT];exact hfit) (fun o t h3=>by
    have t:loc.d+(l++l2).length*loc.es<=o:=t;rw[f,E1]at t;rw[eT]at h3;show(M.put loc.cb (loc.d+l.length*loc.es) vs) loc.cb o=none;unfold Mem.put;rw[I_ A_];exact hsp o A_ h3) (fun o t h3=>by
    have t:loc.d+(l++l2).length*loc.es<=o:=t;rw[f,E1]at t;rw[eT]at h3;rw[World.frozen?_setCells];exact hfz o A_ h3) ⟨htt.1,htt.2.1,B9 htt.2.2 (D4 _ (by rw[f];omega))⟩)
  obtain⟨c,d⟩:=h.step' a b;refine⟨_,_,_,N,c,d,.tsl _ _ _ l' _ _ _ (gY hi) hlo (O_ _) (fun _=>⟨rfl,rfl,rfl,m⟩) ?_⟩;refine aM2 B_ m (by rw[f];exact g) B_ fun k x D=>?_;rw[oV,F7]at D;have ha:=dG H;split at D
  .rename_i hkl;rcases hr.sl_any with⟨U,_⟩|⟨b',o',c',es',vals,U,_,E,_,_,z,h5⟩|⟨a0,U,h9,_⟩;case inr.inr=>subst h9;simp[bC]at D
   .simp at U
   .simp at U;obtain⟨⟨rfl,rfl⟩,rfl⟩:=U;obtain⟨i',c',j',e1,e2,e3⟩:=xX E D;refine⟨vals i' j',r _ _ _ ?_,(h5 _ _ _ _ e1 e2).mono r⟩;rw[e3,<-G3];exact z _ _ _ _ e1 e2
  .rename_i hkl;obtain⟨x',R,F⟩:=(iK G).2 _ _ D;have A:k-(bC l).length<vs.length:=by rw[Y.1];exact(E_.1 R).1
   refine⟨vs[k-(bC l).length],?_,(qC F (Y.2 _ _ _ R (D_ A))).mono r⟩;unfold Mem.put;rw[K_ A_,show loc.d+k-(loc.d+l.length*loc.es)=k-(bC l).length by omega];exact D_ A
 |_=>simp at hs0
theorem tF{es m:Nat}{ys:Tq_}(h:ys.length=m*es):bC (cP es m ys)=ys/\(∀c∈cP es m ys,c.length=es)/\(cP es m ys).length=m :=
 ⟨oU es m ys h,rF es m ys A_,gB es m ys⟩
theorem aA3{os:Tq_}{ns:Tn_}{ys:Tq_}(c:toIVs ns=some ys){cs:Array Value}(h:∀(k:Nat) (x:TV),(os.map .iv++ns)[k]?=some x->∃v,cs[k]?=some v/\VR M J [] x v): ∀(k:Nat) (a:IV),(os++ys)[k]?=some a->∃u,cs[k]?=some u/\IR M a u:=by intro k a e;obtain⟨x,f,b⟩:=(iK (yB (aYb os) c)).2 k a e;obtain⟨v,d,g⟩:=h k x f;exact⟨v,d,qC b g⟩
theorem aHk(h:MS P O K M J L S env w){t u el ty:TypeId}{ts:Array TypeId}(h0:ts[0]?=some t)(h1:ts[1]?=some u)(ht:P.underlying t=some (.slice el))(hu:(∃e,P.underlying u=some (.slice e))\/P.underlying u=some .string)
  {z:Tq_} (hz:eX P el=some z) (gd:z.length≠0) {bytes:Nat} (ga:bytesOf? P el=some bytes) (g6:bytes≠0) {mu:Bool} {s x r:TV} {sv xv:Value} (hs:VR M J L s sv) (hx:VR M J L x xv)
  (g:bA mu z.length bytes el S s x=some (r,S')):
  ∃rv w' M' J',(Builtin.append_ ts ty #[sv,xv]).run P w=.ok rv w'/\VR M' J' L r rv/\MS P O K M' J' L S' env w'/\Tr (cS L) M J S w M' J' S' w':=by
 unfold bA at g
 split at g
 case h_2=>simp at g
 rename_i xs m hxs hm
 split at g
 .simp at g
 rename_i j
 rw[H1]at j
 obtain⟨j,N⟩:=j
 have j:xs.length=m*z.length:=A_
 have N:xs.any bJ=false:=by simpa using N
 have Z:=aA2 hz
 obtain⟨f1,vs,f2,f3⟩:=fO h hx hxs hm j (O_ m)
 rw[<-j,C0]at f2
 obtain⟨hd,g4⟩:=h.drew
 have td:=g4.weaken (own':=cS L) (fun _ hf=>hf.elim)
 obtain⟨g1,g8,g2,g3⟩:=fO hd hx hxs hm j (O_ m)
 rw[<-j,C0]at g2
 -- the slice's own cells,behind a drawing
 have W:∀ {os:Tn_} {n:Nat} {base:Option Addr} {cap:Nat},sv=.slice base n cap->dU S s=some os->lenOf S s=some n->os.length=n*z.length->aVu P w.drew M J z.length n cap m base xv os xs:=by
  intro os n base cap y he hl Q
  obtain⟨_,ov,U,k3⟩:=fO hd hs he hl Q (O_ n)
  rw[<-Q,C0]at U
  subst y
  exact⟨g1,⟨g8,g2,g3⟩,⟨ov,U,k3⟩,Q,j⟩
 split at g
 ·-- nothing is put
  rename_i hm0
  subst hm0
  split at g
  .rename_i hsl
   simp at g
   obtain⟨rfl,rfl⟩:=g
   have g9:vs=[]:=by
    have:=f2.1
    rw[j]at this
    exact Z_ (by simpa using this)
   subst g9
   rcases bMm hsl hs with⟨p0,rfl⟩|⟨b,o,n,c,rfl,A⟩
   .exact⟨_,w,M,J,bE6 p0 h0 h1 ht hu Z f1 f3,hs,h,.refl _ _ _ _ _⟩
   .refine⟨_,w,M,J,yA (b:=b) (o:=o) h0 h1 ht hu Z f1 f3 A_ (w':=w) ?_,hs,h,.refl _ _ _ _ _⟩
    simp[storeCells]
  .simp at g
 rename_i hm0
 -- a new row
 have G:∀ {os:Tn_} {n:Nat} {base:Option Addr} {cap:Nat},aVu P w.drew M J z.length n cap m base xv os xs->sv=.slice base n cap->cap<n+m->eA (n+m) bytes=true ->
   ∃cs c,(Builtin.append_ ts ty #[sv,xv]).run P w=.ok (.slice (some ⟨w.drew.heap.size,0,none⟩) (n+m) c) (w.drew.alloc (.cells cs el))/\n+m<=c/\cs.size=c*z.length /\
    ∀(k:Nat) (x:TV),(os++xs)[k]?=some x->∃v,cs[k]?=some v/\VR M J [] x v:=by
  intro os n base cap p y A hi
  subst y
  exact bE5 h0 h1 ht hu hz ga g6 p f1 A hi
 -- a new row of cells
 have E:∀ {os:Tn_} {n:Nat} {base:Option Addr} {cap:Nat},aVu P w.drew M J z.length n cap m base xv os xs->sv=.slice base n cap->cap<n+m->eA (n+m) bytes=true ->
   ∃rv w' M' J',(Builtin.append_ ts ty #[sv,xv]).run P w=.ok rv w'/\VR M' J' L (.msl S.length 0 0 (n+m) (n+m) z.length) rv/\MS P O K M' J' L (S++[.cells 0 true (os++xs)]) env w' /\
    Tr (cS L) M J S w M' J' (S++[.cells 0 true (os++xs)]) w':=by
  intro os n base cap p y A hi
  obtain⟨cs,c,C,D,Y,hv⟩:=G p y A hi
  have h2:(os++xs).length<=cs.size:=by
   rw[H_,p.olen,j,<-E1,Y];exact D4 _ D
  obtain⟨p1,p2,p3⟩:=aQ7 hd el h2 hv true 0 0
  refine⟨_,_,M,_,C,.msl _ _ _ _ _ _ _ _ _ _ c p3 (O_ _) (fun _=>⟨rfl,fun _=>rfl,D,fun q=>by simp at q,?_⟩) (O_ _) D,p1,td.trans p2 (fun b hb=>.inl hb)⟩
  show 0+c*z.length<=cs.size
  omega
 split at g
 ·-- an immutable slice
  rename_i tg l
  split at g
  .simp at g
  rename_i hnf
  simp at hnf
  obtain⟨gc,F⟩:=hnf
  split at g
  .simp at g
  rename_i f
  have f:eA (l.length+m) bytes=true:=by simpa using f
  have y:∃base cap,sv=.slice base l.length cap/\cap=l.length:=by
   rcases hs.iv_inv.sl_any with⟨rfl,rfl,rfl⟩|⟨b,off,cap,es,vals,rfl,h9,I,hw,h4,_⟩|⟨a0,rfl,rfl,h9⟩
   case inr.inr=>exact⟨some a0,0,rfl,rfl⟩
   .exact⟨none,0,rfl,rfl⟩
   .exact⟨_,cap,rfl,h4 (by cases tg<;>simp_all)⟩
  obtain⟨base,cap,y,h7⟩:=y
  subst h7
  have I:∀c∈l,c.length=z.length:=by
   rcases hs.iv_inv.sl_any with⟨rfl,rfl,rfl⟩|⟨b,off,cap,es,vals,_,h9,I,hw,h4,_⟩|⟨a0,_,rfl,h9⟩
   case inr.inr=>intro c A;simp at A
   .intro c A;simp at A
   .exact aKc F I
  have p:=W (os:=(bC l).map .iv) y rfl rfl (by rw[L_,dG I])
  split at g
  ·-- to be written
   simp at g
   obtain⟨rfl,rfl⟩:=g
   exact E p y A_ f
  .split at g
   .rename_i ys hys
    simp at g
    obtain⟨rfl,rfl⟩:=g
    obtain⟨cs,c,C,D,Y,hv⟩:=G p y A_ f
    have hh:ys.length=m*z.length:=by rw[(iK hys).1,j]
    obtain⟨q1,q2,q3⟩:=tF hh
    have R:∀c∈l++cP z.length m ys,c.length=z.length:=by
     intro c A
     rcases a_.1 A with A|A
     .exact I c A
     .exact q2 c A
    have H:(l++cP z.length m ys).length=l.length+m:=by rw[H_,q3]
    obtain⟨M',J',p1,p2,p3⟩:=aM3 hd (l:=l++cP z.length m ys) (es:=z.length) (cap:=c) (cs:=cs) el A_ R (by rw[H];exact D) Y (by
     rw[oV,q1]
     exact aA3 hys hv)
    rw[H]at p1 p2 p3
    exact⟨_,_,M',J',C,p3,p1,td.trans p2 (fun b hb=>.inl hb)⟩
   .split at g
    .rename_i hl0
     subst hl0
     simp at g
     obtain⟨rfl,rfl⟩:=g
     have:=E p y A_ f
     simpa[bC] using this
    .simp at g
 ·-- a slice that was built here
  rename_i i l
  split at g
  .rename_i n e te ys hSi hys
   split at g
   .rename_i A
    simp at A
    obtain⟨⟨⟨⟨rfl,rfl⟩,rfl⟩,F⟩,f⟩:=A
    simp at g
    obtain⟨rfl,rfl⟩:=g
    have hn:=hs
    cases hs with
    |tsl L i es loc b o c hJ hlo hv ha hrr =>
     have h6:=h.wr.blk i loc _ hJ hSi
     generalize hsi0:aG.tok l.length z.length te=s0 at h6
     cases h6 with
     |tok n' cs' e' fz hlo' hnv hb Y A hes0 h2 hsp hfz htt =>
      simp at hsi0
      obtain⟨ge,V,hq⟩:=hsi0
      obtain⟨rfl,rfl,rfl,I⟩:=ha A_
      have hh:ys.length=m*z.length:=by rw[(iK hys).1,j]
      obtain⟨q1,q2,q3⟩:=tF hh
      have R:∀c∈l++cP z.length m ys,c.length=z.length:=by
       intro c A
       rcases a_.1 A with A|A
       .rw[V];exact I c A
       .exact q2 c A
      have H:(l++cP z.length m ys).length=l.length+m:=by rw[H_,q3]
      by_cases hroomy:l.length+m<=loc.cap
      .obtain⟨w',M',J',k1,U,k3,k4⟩:=aM4 h hJ (n:=l.length) (by rw[hSi,V,hq]) (l:=l) (l2:=cP z.length m ys) rfl (by rw[q3];omega) (by rw[<-V];exact R) hrr (by rw[q3];exact hroomy) f2 (by rw[q1];exact hys) N
       rw[H,<-V,<-hq]at U k3
       rw[H]at k4
       rw[<-V]at k1
       exact⟨_,w',M',J',yA h0 h1 ht hu Z f1 f3 hroomy k1,k4,U,k3⟩
      .have p:=W (os:=(bC l).map .iv) (base:=some ⟨loc.cb,loc.d,none⟩) (cap:=loc.cap) rfl rfl rfl (by rw[L_,dG I,V])
       obtain⟨cs,c,C,D,h5,h8⟩:=G p rfl A_ f
       obtain⟨M',J',p1,p2,p3⟩:=aKg hd hJ hlo (l:=l++cP z.length m ys) (by rw[H];omega) (es:=z.length) (cap:=c) (cs:=cs) te A_ R (by rw[H];exact D) h5 (by
        rw[oV,q1]
        exact aA3 hys h8)
       rw[H]at p1 p2 p3
       exact⟨_,_,M',J',C,p3,p1,td.trans p2 (fun b hb=>.inl hb)⟩
     |_=>simp at hsi0
   .simp at g
  .simp at g
 ·-- a slice of the store's
  rename_i b0 v off len cap e
  split at g
  case h_2=>simp at g
  rename_i v' loose cs hSi
  split at g
  .simp at g
  rename_i hev
  rw[H1]at hev
  obtain⟨he,hv⟩:=hev
  have he:e=z.length:=A_
  have hv:v'=v:=A_
  subst he
  subst hv
  have hn:=hs
  cases hs with
  |msl L i ver off len cap es loc b o c hJ hvv ha hl hlc =>
   have h6:=h.wr.blk b0 loc _ hJ hSi
   generalize hsi0:aG.cells v' loose cs=s0 at h6
   cases h6 with
   |cells loose' cs2 cs' ee fz hlo hb Y h2 hvals hfz hmm =>
    simp at hsi0
    obtain⟨T,rfl,rfl⟩:=hsi0
    obtain⟨rfl,ho,g5,h7,hk⟩:=ha T
    split at g
    .rename_i hroomy
     split at g
     .rename_i F
      simp at g
      obtain⟨rfl,rfl⟩:=g
      have ho:=ho A_
      have hp:setCells env S (.ptr b0 v' (off+len*z.length)) xs=some (env,S.set b0 (.cells v' loose (put cs (off+len*z.length) xs))):=by
       rw[E1]at F
       have:off+len*z.length+xs.length<=cs.length:=A_
       simp only[setCells,N,hSi,this]
       simp
      obtain⟨b',o',w',e1,e2,e3,e4,_⟩:=nK h hp (va:=.pointer (some ⟨loc.cb,o+len*z.length,none⟩)) (.ptr _ _ _ _ loc _ _ hJ hvv (fun _=>⟨rfl,by omega⟩)) f2
      simp at e1
      obtain⟨rfl,rfl⟩:=e1
      exact⟨_,w',M,J,yA h0 h1 ht hu Z f1 f3 A_ e2,.msl _ _ _ _ _ _ _ loc _ _ _ hJ hvv (fun _=>⟨rfl,fun _=>ho,g5,h7,hk⟩) hroomy A_,e3,e4⟩
     .simp at g
    .rename_i hroomy
     split at g
     .simp at g
     rename_i f
     have f:eA (len+m) bytes=true:=by simpa using f
     split at g
     case h_2=>simp at g
     rename_i old hsub
     have Q:=(iF hsub).2.2
     have g7:At w M J loc.cb o old:=by
      obtain⟨b',o',c',k1,_,U,_⟩:=aQ5 (n:=len) h hn hl
      simp at k1
      obtain⟨⟨rfl,rfl⟩,rfl⟩:=k1
      exact(U loose cs old hSi hsub).2
     have p:=W (os:=old) (base:=some ⟨loc.cb,o,none⟩) (cap:=c) rfl (by simp[dU,hSi,hsub]) rfl Q
     split at g
     .rename_i hlt
      simp at g
      obtain⟨rfl,rfl⟩:=g
      by_cases hroom2:len+m<=c
      .have hj:(len+m)*z.length<=c*z.length:=D4 _ hroom2
       rw[E1]at hj
       obtain⟨w',k1,U,k3,k4⟩:=aGa h hJ (by rw[hlo,hlt]) (by rw[hSi,T,hlt]) g7 f2 A_ N
       rw[Q]at k1
       rw[<-T]at U k3 k4
       exact⟨_,w',M,_,yA h0 h1 ht hu Z f1 f3 hroom2 k1,.msl _ _ _ _ _ _ _ _ _ _ c k4 (O_ _) (fun _=>⟨rfl,fun _=>rfl,hroom2,fun q=>by simp[hlo,hlt]at q,hk⟩) (O_ _) hroom2,U,k3⟩
      .obtain⟨hy,c3,C,D,h5,h8⟩:=G p rfl A_ f
       have hg:(old++xs).length<=hy.size:=by
        rw[H_,Q,j,<-E1,h5];exact D4 _ D
       obtain⟨U,k3,k4⟩:=aEb hd hJ (by rw[hlo,hlt]) el hg h8
       rw[<-T]at U k3 k4
       exact⟨_,_,M,_,C,.msl _ _ _ _ _ _ _ _ _ _ c3 k4 (O_ _) (fun _=>⟨rfl,fun _=>rfl,D,fun q=>by simp at q,by show 0+c3*z.length<=hy.size;omega⟩) (O_ _) D,U,td.trans k3 (fun b hb=>.inl hb)⟩
     .rename_i hlt
      simp at g
      obtain⟨rfl,rfl⟩:=g
      have gb:=h7 (by rw[hlo];simpa using hlt)
      exact E p rfl A_ f
   |_=>simp at hsi0
 .simp at g
theorem aQ8{n:Int}(b:0<=n)(a:n<=35184372088832):IntKind.i64.wrap n=n:=by unfold IntKind.wrap;simp[IntKind.bits,IntKind.signed];omega
theorem bMn(h:MS P O K M J L S env w){t u el ty:TypeId}{ts:Array TypeId}(h0:ts[0]?=some t)(h1:ts[1]?=some u)(ht:P.underlying t=some (.slice el)){k:IntKind}(hu:P.underlying u=some (.int k)) {z:Tq_} (hz:eX P el=some z) (he:z.length≠0) {bytes:Nat} (C:bytesOf? P el=some bytes) (hh:bytes≠0) {s r:TV} {n:Int} {k':IntKind} {R:Value} (hs:VR M J L s R) (f:qU z.length bytes el S s n=some (r,S')): ∃rv w' M' J',(Builtin.append_ ts ty #[R,.int k' n]).run P w=.ok rv w'/\VR M' J' L r rv/\MS P O K M' J' L S' env w'/\Tr (cS L) M J S w M' J' S' w':=by
 unfold qU at f;split at f;case h_2=>simp at f
 rename_i tg l;split at f;.simp at f
 rename_i hnf;simp at hnf;obtain⟨⟨h6,v⟩,h8⟩:=hnf;split at f;case isFalse=>simp at f
 rename_i hroom;simp at f;obtain⟨rfl,rfl⟩:=f;obtain⟨i,Q,hi,Z,E,W,hj,h7⟩:=iC hz;obtain⟨r1,r2,r3⟩:=aEa hroom;have N:i.bytes=bytes:=by unfold bytesOf? at C;rw[hi]at C;simpa using C
 have A:∃base cap,R=.slice base l.length cap/\cap=l.length:=by
  rcases hs.iv_inv.sl_any with⟨rfl,rfl,rfl⟩|⟨b,off,cap,es,vals,rfl,j,d,G,e,_⟩|⟨a0,rfl,rfl,j⟩;case inr.inr=>exact⟨some a0,0,rfl,rfl⟩
  .exact⟨none,0,rfl,rfl⟩
  .exact⟨_,cap,rfl,e (by cases tg<;>simp_all)⟩
 obtain⟨base,cap,A,p⟩:=A;subst p;have d:∀c∈l,c.length=z.length:=by
  rcases hs.iv_inv.sl_any with⟨rfl,rfl,rfl⟩|⟨b,off,cap,es,vals,_,j,d,G,e,_⟩|⟨a0,_,rfl,j⟩;case inr.inr=>intro c hc;simp at hc
  .intro c hc;simp at hc
  .exact aKc v d
 obtain⟨hd,U⟩:=h.drew;have td:=U.weaken (own':=cS L) (fun _ hf=>hf.elim);have m:((bC l).map TV.iv).length=l.length*z.length:=by rw[L_,dG d]
 obtain⟨_,H,V,k3⟩:=fO hd hs (xs:=(bC l).map .iv) rfl rfl m (O_ l.length);rw[<-m,C0]at V;subst A;have y:IntKind.i64.wrap n=n:=aQ8 A_ A_;have hg:l.length<l.length+n.toNat:=A_;have h5:=growslice_fits (bytes:=bytes) hg A_;have hn:¬(l.length+n.toNat<=l.length):=A_;have I:¬(281474976710656<Builtin.nextslicecap (l.length+n.toNat) l.length*i.bytes):=by rw[N];omega
 have h4:¬(i.bytes=0):=A_;have T:=grownCap_ge w (l.length+n.toNat) l.length el;have Y:¬(281474976710656<n*(i.bytes:Int)):=by have e1:(n.toNat:Int)=n:=A_;have:n.toNat*bytes<=35184372088832:=B9 (D4 _ A_) r1;have h9:((n.toNat*bytes:Nat):Int)<=((35184372088832:Nat):Int):=Int.ofNat_le.2 this;rw[Int.natCast_mul,e1]at h9;rw[N];omega
 have h2:¬(n.toNat*i.size=0):=by rw[E];intro q;rcases Nat.mul_eq_zero.1 q with q|q<;>omega
 have D:¬(n<0):=A_;rw[<-E]at k3;have F:(Builtin.append_ ts ty #[.slice base l.length l.length,.int k' n]).run P w=.ok (.slice (some ⟨w.heap.size,0,none⟩) (l.length+n.toNat) (grownCap w (l.length+n.toNat) l.length el))
   (w.drew.alloc (.cells (H.toArray++Builtin.zeroCells Q.cells n.toNat++Builtin.zeroCells Q.cells (grownCap w (l.length+n.toNat) l.length el-(l.length+n.toNat))) el)):=by
  simp[Builtin.append_,h0,h1,und ht,und hu,sizeOf,typeInfo,zeroValue,hi,Z,asInt,asIntOf,y,D,Y,hn,h4,I,h2,Question.forced,k3,newRow,grownCap]
  intro q
  have hm:max n 0=n:=A_
  exact absurd q A_
 have p:l.length<=grownCap w (l.length+n.toNat) l.length el:=A_;have g:H.length=l.length*z.length:=by rw[V.1,m]
 obtain⟨M',J',p1,p2,p3⟩:=aM3 hd (l:=l) (es:=z.length) (cap:=grownCap w (l.length+n.toNat) l.length el)
  (cs:=H.toArray++Builtin.zeroCells Q.cells n.toNat++Builtin.zeroCells Q.cells (grownCap w (l.length+n.toNat) l.length el-(l.length+n.toNat))) el A_ d p (by
   simp only[L9,J3,size_zeroCells,W,g,<-E1];congr 1;omega) (fun k a hk=>by
   have x:k<H.length:=by rw[g,<-dG d];exact(E_.1 hk).1
   refine⟨H[k],?_,?_⟩;.rw[Array.append_assoc,H5 (by simpa using x)];simp[x]
   .exact(V.2 k (.iv a) _ (by simp[hk]) (D_ x)).iv_inv)
 refine⟨_,_,M',J',F,?_,p1,td.trans p2 (fun b N=>.inl N)⟩;cases p3 with
 |tsl L i es loc b o c hJ hlo hv ha hrr=>exact .rsv _ _ _ _ loc _ _ _ hJ hlo hv ha T hrr
theorem bMo(h:MS P O K M J L S env w){t el ty:TypeId}{ts:Array TypeId}(u:ts[0]?=some t)(y:P.underlying t=some (.slice el)){es:Nat}(I:sizeOf? P el=some es) {d s r:TV} {W F:Value} (E:VR M J L d W) (H:VR M J L s F) (a:aJ8 es S d s=some (r,S')): ∃U w',(Builtin.copy_ ts ty #[W,F]).run P w=.ok U w'/\VR M J L r U/\MS P O K M J L S' env w'/\Tr (cS L) M J S w M J S' w':=by
 unfold aJ8 at a;have g:=run_size? I w;split at a
 .rename_i b v off len cap e xs m hxs hm;split at a;.simp at a
  rename_i hc;rw[H1]at hc;obtain⟨z,f⟩:=hc;have z:e=es:=A_;have f:xs.length=m*es:=A_;subst z;obtain⟨l,vs,q,k⟩:=fO h H hxs hm f (Nat.min_le_left m len);have Z:=E;cases E with
  |msl L i ver off len cap es loc Y o c hJ hvv ha hl hlc =>
   simp only at a;split at a
   .rename_i hn0;simp at a;obtain⟨rfl,rfl⟩:=a;have j:vs=[]:=by have:=q.1;rw[hn0]at this;exact Z_ (by simpa using this)
    subst j;refine⟨.int .i64 ((Nat.min m len:Nat):Int),w,?_,?_,h,.refl _ _ _ _ _⟩;.simp[Builtin.copy_,u,und y,l,g,Nat.min_def]at k |-;simp[k,storeCells,goInt]
    .have:Nat.min m len=0:=hn0;rw[this];exact .iv _ (.int _ _)
   .rename_i hn0;split at a;case h_2=>simp at a
    rename_i v' loose cs hSi;split at a;case isFalse=>simp at a
    rename_i hc;obtain⟨rfl,C,n⟩:=hc;simp at a;obtain⟨rfl,rfl⟩:=a;have N:=h.wr.blk b loc _ hJ hSi;have D:v'=loc.ver:=by cases N;rfl
    obtain⟨rfl,V,_⟩:=ha D;have V:=V A_;have T:min m len*e<=m*e:=D4 _ (Nat.min_le_left m len);have G:(xs.take (min m len*e)).length=min m len*e:=by simp;omega
    have p:(xs.take (min m len*e)).any bJ=false:=by rw[t_]at n |-;exact fun x hx=>n x (Y0 hx)
    have A:setCells env S (.ptr b v' off) (xs.take (min m len*e))=some (env,S.set b (.cells v' loose (put cs off (xs.take (min m len*e))))):=by simp only[setCells,p,hSi,G];simp[C]
    obtain⟨Y,o',w',R,e2,e3,e4,_⟩:=nK h A (va:=.pointer (some ⟨loc.cb,o,none⟩)) (.ptr _ _ _ _ loc _ _ hJ hvv (fun _=>⟨rfl,by omega⟩)) q;simp at R;obtain⟨rfl,rfl⟩:=R;refine⟨.int .i64 ((Nat.min m len:Nat):Int),w',?_,.iv _ (.int _ _),e3,e4⟩;have Q:(Builtin.firstCells e (m.min len) F).run P w=.ok vs.toArray w:=k;simp[Builtin.copy_,u,und y,l,g,Q,e2,goInt]
 .rename_i tg xs m hxs hm;split at a;case isFalse=>simp at a
  rename_i f;simp at a;obtain⟨rfl,rfl⟩:=a;obtain⟨l,vs,q,k⟩:=fO h H hxs hm f (I3 m);have j:vs=[]:=Z_ (by have:=q.1;simpa using this);subst j;refine⟨.int .i64 0,w,?_,.iv _ (.int _ _),h,.refl _ _ _ _ _⟩;rcases E.iv_inv.sl_any with⟨_,_,rfl⟩|⟨b,off,cap,es',vals,rfl,_⟩|⟨a0,rfl,_,_⟩;case inr.inr=>simp[Builtin.copy_,u,und y,l,g,k,goInt,storeCells]
  .simp[Builtin.copy_,u,und y,l,g,k,goInt]
  .simp[Builtin.copy_,u,und y,l,g,k,goInt,storeCells]
 .rename_i ti xs m hxs hm;split at a;case isFalse=>simp at a
  rename_i f;simp at a;obtain⟨rfl,rfl⟩:=a;obtain⟨l,vs,q,k⟩:=fO h H hxs hm f (I3 m);have j:vs=[]:=Z_ (by have:=q.1;simpa using this);subst j;refine⟨.int .i64 0,w,?_,.iv _ (.int _ _),h,.refl _ _ _ _ _⟩;cases E with
  |tsl L i es loc b o c hJ hlo hv ha hrr=>simp[Builtin.copy_,u,und y,l,g,k,goInt,storeCells]
 .simp at a
theorem bE8(h:MS P O K M J L S env w){t el ty:TypeId}{ts:Array TypeId}(m:ts[0]?=some t)(r:P.underlying t=some (.slice el)){z:Tq_}(N:eX P el=some z){x:TV}{v:Value}(j:VR M J L x v) (d:lW z S x=some S'):∃w',(Builtin.clear_ ts ty #[v]).run P w=.ok (.tuple #[]) w'/\MS P O K M J L S' env w'/\Tr (cS L) M J S w M J S' w':=by
 obtain⟨i,H,hi,h1,W,f,E,A⟩:=iC N;unfold lW at d;split at d
 .simp at d;subst d;refine⟨w,?_,h,.refl _ _ _ _ _⟩;rcases j.iv_inv.sl_any with⟨_,_,rfl⟩|⟨b,off,cap,es',vals,rfl,_⟩|⟨a0,rfl,_,_⟩;case inr.inr=>simp[Builtin.clear_,m,und r]
  .simp[Builtin.clear_,m,und r]
  .simp[Builtin.clear_,m,und r]
 .rename_i b v0 off a cap e;have Z:=j;cases j with
  |msl L i ver off a cap es loc T o c hJ hvv ha hl hlc =>
   split at d;.rename_i hl0;subst hl0;simp at d;subst d;exact⟨w,by simp[Builtin.clear_,m,und r],h,.refl _ _ _ _ _⟩
   .rename_i hl0;split at d;case h_2=>simp at d
    rename_i v' loose cs hSi;split at d;case isFalse=>simp at d
    rename_i I;obtain⟨rfl,rfl,p⟩:=I;simp at d;subst d;have G:=h.wr.blk b loc _ hJ hSi;have q:v'=loc.ver:=by cases G;rfl
    obtain⟨rfl,R,_⟩:=ha q;have R:=R A_;have g:(bC (List.replicate a (z.map TV.iv))).length=a*z.length:=by rw[dG (es:=z.length) (fun c I=>by rw[K1 I];simp)];simp
    have s:(bC (List.replicate a (z.map TV.iv))).any bJ=false:=by rw[t_];intro x j;obtain⟨k,V⟩:=I8 j;obtain⟨_,y,hy,rfl⟩:=kR V;have:=t_.1 (aM1 N) (.iv y) (A0.2 ⟨y,B4 hy,rfl⟩);exact this
    have l:setCells env S (.ptr b v' off) (bC (List.replicate a (z.map TV.iv)))=some (env,S.set b (.cells v' loose (put cs off (bC (List.replicate a (z.map TV.iv)))))):=by simp only[setCells,s,hSi,g];simp[p]
    have F:VRs M J [] (bC (List.replicate a (z.map TV.iv))) (Builtin.zeroCells H.cells a).toList:=by
     refine⟨by rw[g];simp[size_zeroCells,f],fun k x u j C=>?_⟩;obtain⟨U,y,p2,rfl⟩:=kR j;have D:u=H.cells[k % H.cells.size]! := by simp only[Builtin.zeroCells,f]at C;have:k<a*z.length:=U;simp[this]at C;rw[f];exact C.symm
     rw[D];exact .iv _ (aKe f (A M) p2)
    obtain⟨T,o',w',Q,e2,e3,Y,_⟩:=nK h l (va:=.pointer (some ⟨loc.cb,o,none⟩)) (.ptr _ _ _ _ loc _ _ hJ hvv (fun _=>⟨rfl,by omega⟩)) F;simp at Q;obtain⟨rfl,rfl⟩:=Q;refine⟨w',?_,e3,Y⟩;obtain⟨n,rfl⟩:∃n,a=n+1:=⟨a-1,by omega⟩
    simp[Builtin.clear_,m,und r,E,e2]
 .simp at d
theorem yC:∀(s:List UInt8),bC (qT s)=s.map fun b=>IV.int .u8 b.toNat
 |[]=>rfl
 |b::r=>by have:=yC r;simp only[qT,Q_,bC]at this |-;rw[this];rfl
theorem aKh{o:Oper}{s d e:TypeId}{x:Operand}(u:o.op=.convert s d x)(D:P.underlying s=some .string)(F:P.underlying d=some (.slice e))(E:P.underlying e=some (.int .u8))(a:Act)(h:MS P O K M J L S env w) {ex:TV} (R:VR M J L ex (a.eval x)) {r:IV} (i:dD .strBytes ex=some r) {top:TOp} (l:aP top=none):cK P O K top M J L S env w (execOp a.eval o) (.iv r) env S:=by
 unfold dD at i;split at i;case h_1=>simp_all
 case h_2=>simp_all
 case h_3=>simp_all
 case h_5=>simp at i
 rename_i str _;split at i;case isFalse=>simp at i
 simp at i;subst i;have f:=run_bytes_of_string (P:=P) w s d e ⟨str.toArray⟩ D F E;generalize hcap:grownCap w (⟨str.toArray⟩:ByteArray).size 0 e=cap at f;have A:str.length<=cap:=by have:=grownCap_ge w (⟨str.toArray⟩:ByteArray).size 0 e;rw[oS]at this hcap;omega
 generalize hrow:bytesRow ⟨str.toArray⟩ cap=row at f;have m:∀(k:Nat) (b:UInt8),str[k]?=some b->row[k]?=some (.int .u8 b.toNat):=by intro k b j;have g:=(E_.1 j).1;rw[<-hrow];unfold bytesRow;rw[H5 (by simpa using g)];simp[j]
 obtain⟨n,q⟩:=h.drew;have Q:=q.weaken (own':=cS L) (fun _ N=>N.elim);have G:∀o v,oB row str.length o=some v->(w.drew.alloc (.cells row e (row.size,row.size+1))).cell? ⟨w.drew.heap.size,o,none⟩=some v:=by
  intro o v p;unfold oB at p;split at p;.rw[dX (dA w.drew _)];exact p
  .simp at p
 obtain⟨C,p2⟩:=n.wr.alloc (fun _=>False) (.cells row e (row.size,row.size+1)) (oB row str.length) G;obtain⟨I,H⟩:=n.step' C p2;refine .mk0 l (r:=.value (.slice (some ⟨w.heap.size,0,none⟩) (⟨str.toArray⟩:ByteArray).size cap)) ?_ (.inl ⟨_,rfl,.iv _ ?_⟩) I (Q.trans H (fun b j=>.inl j)) (.refl _);.simp only[execOp,u,R.str_inv,Sem.run_bind,f];rfl
 .have y:(qT str).length=str.length:=by simp[qT]
  rw[oS,<-y];refine aM2 (es:=1) B_ (fun c z=>?_) A_ B_ fun k a t=>?_;.simp only[qT,A0]at z;obtain⟨b,_,rfl⟩:=z;rfl
  .rw[yC]at t;simp only[p_,G_]at t;obtain⟨b,j,rfl⟩:=t;refine⟨_,?_,.int _ _⟩;have g:=(E_.1 j).1;show(M.ext w.drew.heap.size (oB row (qT str).length)) w.heap.size (0+k)=_;unfold Mem.ext oB;rw[y,K_ (show w.heap.size=w.drew.heap.size from rfl),A7,K_ g];exact m k b j
theorem aHl{x:TV}{v:Value}(h:VR M J L x v):VR M J L (mV x) v:=by
 unfold mV;split;.rename_i a ha;exact .iv _ (xY ha h)
 .exact h
theorem aEc:∀(vs:List Value) (off j:Nat) (cs:Array Value),(vs.zipIdx j).foldl (fun cs (c,j)=>cs.setIfInBounds (off+j) c) cs=rY cs (off+j) vs
 |[],_,_,_=>rfl
 |v::r,off,j,cs=>by simp only[List.zipIdx_cons,List.foldl_cons,rY];rw[aEc r off (j+1)];rfl
theorem aHm(a:Nat->Option (Nat×Nat)){i off n:Nat}{v:Value}{b:List (Nat×Value)}{cells:Array Value}(f:a i=some (off,n))(e:v.cells.size=n)(c:off+n<=cells.size): Instr.fill a cells ((i,v)::b)=Instr.fill a (rY cells off v.cells.toList) b:=by
 rw[Instr.fill,f];have d:(v.cells.size≠n||off+v.cells.size>cells.size)=false:=by simp[e];omega
 simp only[d,b_,I9];congr 1;have:=aEc v.cells.toList off 0 cells;simp only[Nat.add_zero]at this;rw[<-this,<-Array.foldl_toList];simp
theorem aM5{ev:aH->TV}(b:Nat->Option (Nat×Nat)):∀ {ps:List (Nat×Nat×aH)} {us:List (Nat×Value)} {cs out:Tn_} {cells:Array Value},us.length=ps.length ->(∀(k:Nat) (p:Nat×Nat×aH) (u:Nat×Value),ps[k]?=some p->us[k]?=some u->b u.1=some (p.1,p.2.1)/\VR M J L (ev p.2.2) u.2)->VRs M J [] cs cells.toList->fill cs ev ps=some out ->∃a,Instr.fill b cells us=some a/\VRs M J [] out a.toList
 |[],us,cs,out,cells,hl,hp,hc,hf=>by have:us=[]:=Z_ (by simpa using hl);subst this;simp[fill]at hf;subst hf;exact⟨cells,rfl,hc⟩
 |(off,n,x)::ps,us,cs,out,cells,hl,hp,hc,hf=>by
  cases us with
  |nil=>simp at hl
  |cons u us =>
   simp only[fill]at hf;split at hf;case isFalse=>simp at hf
   rename_i hcond;obtain⟨l,s,h3⟩:=hcond;obtain⟨i,r⟩:=hp 0 _ _ rfl rfl;have h:=tA (aHl r) h3;have j:u.2.cells.size=n:=by rw[<-l];simpa using h.1
   have o:cells.size=cs.length:=by simpa using hc.1
   have d:off+(cellsOf (mV (ev x))).length<=cs.length:=A_;have e:=hc.put h d;obtain⟨a,q,m⟩:=aM5 b (cells:=rY cells off u.2.cells.toList) (by simpa using hl) (fun k p u f g=>hp (k+1) p u (by simpa using f) (by simpa using g)) e hf;refine⟨a,?_,m⟩;rw[<-q];have c:off+n<=cells.size:=A_;exact aHm b i j c
theorem aM6{α:Type}{es:Nat}:∀ {l:List (List α)} {i:Nat} {c:List α},(∀c∈l,c.length=es)->c.length=es->i<l.length->bC (l.set i c)=put (bC l) (i*es) c
 |[],i,c,_,_,h=>by simp at h
 |a::r,i,c,hl,b,h=>by
  have e:=hl a B_;have d:∀c∈r,c.length=es:=fun c b=>hl c (by simp[b]);cases i with
  |zero =>simp only[List.set_cons_zero,bC,put,P4,List.take_zero,List.nil_append,A7,b];rw[K3 A_,<-e,E0,List.nil_append]
  |succ i =>
   simp only[List.set_cons_succ,bC];rw[aM6 d b (by simpa using h)];unfold put;have f:(i+1)*es=a.length+i*es:=by rw[e,E1];omega
   have e2:(i+1)*es+c.length=a.length+(i*es+c.length):=A_;rw[e2,f,List.take_length_add_append,List.drop_length_add_append];simp
theorem aEd{ev:aH->TV}{n:Nat}:∀ {ps:List (Nat×aH)} {us:List (Nat×Value)} {es out:List (List TV)} {cells:Array Value},us.length=ps.length ->(∀(k:Nat) (p:Nat×aH) (u:Nat×Value),ps[k]?=some p->us[k]?=some u->u.1=p.1/\VR M J L (ev p.2) u.2)->(∀c∈es,c.length=n)->VRs M J [] (bC es) cells.toList->dZ es n ev ps=some out ->∃a,Instr.fill (fun i=>some (i*n,n)) cells us=some a/\VRs M J [] (bC out) a.toList/\(∀c∈out,c.length=n)/\out.length=es.length
 |[],us,es,out,cells,hl,hp,hes,e,hf=>by have:us=[]:=Z_ (by simpa using hl);subst this;simp[dZ]at hf;subst hf;exact⟨cells,rfl,e,hes,rfl⟩
 |(i,x)::ps,us,es,out,cells,hl,hp,hes,e,hf=>by
  cases us with
  |nil=>simp at hl
  |cons u us =>
   simp only[dZ]at hf;split at hf;case isFalse=>simp at hf
   rename_i hcond;obtain⟨m,o,h3⟩:=hcond;obtain⟨y,v⟩:=hp 0 _ _ rfl rfl;have q:=tA (aHl v) h3;have r:u.2.cells.size=n:=by rw[<-m];simpa using q.1
   have z:=dG hes;have s:cells.size=(bC es).length:=by simpa using e.1
   have l:(i+1)*n<=es.length*n:=D4 _ o;rw[E1]at l;have d:i*n+(cellsOf (mV (ev x))).length<=(bC es).length:=A_;have b:=e.put q d;have f:∀c∈es.set i (cellsOf (mV (ev x))),c.length=n:=by
    intro c e;rcases U6 e with h|h;.exact hes c h
    .rw[h,m]
   rw[<-aM6 hes m o]at b;obtain⟨a,t,D,A,C⟩:=aEd (cells:=rY cells (i*n) u.2.cells.toList) (by simpa using hl) (fun k p u g j=>hp (k+1) p u (by simpa using g) (by simpa using j)) f b hf;refine⟨a,?_,D,A,by rw[C];simp⟩;rw[<-t];have w:(fun i=>some (i*n,n):Nat->Option (Nat×Nat)) u.1=some (i*n,n):=by show some (u.1*n,n)=_;rw[y]
   exact aHm _ w r A_
theorem aA4:∀ {es:List (List TV)} {l:Tp_},jY es=some l->es=l.map (·.map .iv)
 |[],l,h=>by simp[jY]at h;subst h;rfl
 |c::r,l,h=>by
  simp only[jY]at h;split at h;.rename_i a l' h1 h2;simp at h;subst h;rw[wM h1,aA4 h2];rfl
  .simp at h
theorem aA5:∀(l:Tp_),bC (l.map (·.map TV.iv))=(bC l).map .iv
 |[]=>rfl
 |a::r=>by simp[bC,aA5 r]
theorem bE9(h:MS P O K M J L S env w){n:Nat}{es:List (List TV)}{cells:Array Value}(el:TypeId)(g:∀c∈es,c.length=n)(e:VRs M J [] (bC es) cells.toList){l:Tp_}(t:jY es=some l): ∃M',VR M' J L (.iv (.sl .full l)) (.slice (some ⟨w.heap.size,0,none⟩) es.length es.length)/\MS P O K M' J L S env (w.alloc (.cells cells el))/\Tr (cS L) M J S w M' J S (w.alloc (.cells cells el)):=by
 have q:=dG g;have d:cells.size=(bC es).length:=by simpa using e.1
 have j:=aA4 t;subst j;have u:∀o v,oB cells cells.size o=some v->(w.alloc (.cells cells el)).cell? ⟨w.heap.size,o,none⟩=some v:=fun o v s=>aKf cells _ el o v s;obtain⟨r,p2⟩:=h.wr.alloc (fun _=>False) (.cells cells el) (oB cells cells.size) u;obtain⟨p,x⟩:=h.step' r p2;have f:=h.wr.mle_ext (oB cells cells.size);refine⟨_,.iv _ ?_,p,x⟩;rw[L_];have i:∀c∈l,c.length=n:=fun c e=>by have:=g (c.map .iv) (A0.2 ⟨c,e,rfl⟩);simpa using this
 refine aM2 (es:=n) B_ i (O_ _) (fun _=>rfl) fun k a m=>?_;rw[aA5]at e d;have b:k<cells.size:=by rw[d,L_];exact(E_.1 m).1
 refine⟨cells[k],?_,((e.2 k (.iv a) _ (by simp[m]) (by simp[b])).iv_inv).mono f⟩;unfold Mem.ext oB;rw[K_ rfl,A7,K_ b];exact A8 b
theorem rV:∀ {b:List Field} {a:List (Nat×Nat)},b.mapM (fun f=>(P.info? f.type).map fun i=>(f.offset,i.size))=some a->∀(i:Nat) (f:Field) (n:Nat),b[i]?=some f->sizeOf? P f.type=some n->a[i]?=some (f.offset,n)
 |[],a,h,i,f,n,hf,hn=>by simp at hf
 |g::b,a,h,i,f,n,hf,hn=>by
  simp only[List.mapM_cons,Option.bind_eq_bind,Option.pure_def]at h;cases hi:(P.info? g.type)with
  |none=>simp[hi]at h
  |some ti =>
   cases hr:b.mapM (fun f=>(P.info? f.type).map fun i=>(f.offset,i.size))with
   |none=>simp[hi,hr]at h
   |some pl' =>
    simp[hi,hr]at h;subst h;cases i with
    |zero =>simp at hf;subst hf;simp[sizeOf?,hi]at hn;simp[hn]
    |succ i=>simpa using rV hr i f n (by simpa using hf) hn
theorem aHn{o:Oper}{t:TypeId}{ps:Array (Nat×Operand)}(T:o.op=.build t ps){z:Tq_}(hz:eX P t=some z){ev:aH->TV}{tps:List (Nat×Nat×aH)}(a:Act)(h:MS P O K M J L S env w) (hl:ps.size=tps.length) (m:∀(k:Nat) (p:Nat×Nat×aH) (u:Nat×Operand),tps[k]?=some p->ps[k]?=some u->VR M J L (ev p.2.2) (a.eval u.2) /\((∃j f,P.underlying t=some (.struct j)/\(aDx P j).isSome=true/\j[u.1]?=some f/\p.1=f.offset/\sizeOf? P f.type=some p.2.1)\/∃n e,P.underlying t=some (.array n e)/\sizeOf? P e=some p.2.1/\p.1=u.1*p.2.1)) (ht:(∃j,P.underlying t=some (.struct j)/\(aDx P j).isSome=true)\/∃n e s,P.underlying t=some (.array n e)/\sizeOf? P e=some s) {cs:Tn_} (hf:fill (z.map .iv) ev tps=some cs) {top:TOp} (C:aP top=none): cK P O K top M J L S env w (execOp a.eval o) (rT cs) env S:=by
 obtain⟨i,Z,V,H,h0,N,h4,I⟩:=iC hz;have R:VRs M J [] (z.map .iv) Z.cells.toList:=aD8 N I;have key:∀(c:Nat->Option (Nat×Nat)),(∀(k:Nat) (p:Nat×Nat×aH) (u:Nat×Operand),tps[k]?=some p->ps[k]?=some u->c u.1=some (p.1,p.2.1)) ->
   ∃b,Instr.fill c Z.cells (ps.toList.map fun(i,x)=>(i,a.eval x))=some b/\VRs M J [] cs b.toList:=by
  intro c q
  refine aM5 (L:=L) c (by simpa using hl) (fun k p u A d=>?_) R hf
  simp only[p_,G_]at d
  obtain⟨U,g,rfl⟩:=d
  have g:ps[k]?=some U:=by simpa using g
  exact⟨q k p U A g,(m k p U A g).1⟩
 have fin:∀b,P.built t (ps.map fun(i,x)=>(i,a.eval x)).toList=some b->VRs M J [] cs b.toList->cK P O K top M J L S env w (execOp a.eval o) (rT cs) env S:=by
  intro b G E;have D:=run_build (P:=P) w t (ps.map fun(i,x)=>(i,a.eval x)) b G;refine .pure C h (v':=.agg b) ?_ ?_;.simp only[execOp,T,Sem.run_bind];rw[D];rfl
  .have:=xT (L:=L) E;simpa using this
 rcases ht with⟨j,d,q⟩|⟨n,e,s,d,W⟩
 .obtain⟨Y,l⟩:=O8.1 q;obtain⟨b,G,E⟩:=key (Y.toArray[·]?) (fun k p u A r=>by
   rcases(m k p u A r).2 with⟨fs',f,q1,_,q2,q3,q4⟩|⟨n,e,q1,_⟩;.rw[d]at q1;simp at q1;subst q1;have:=rV l u.1 f p.2.1 (by simpa using q2) q4;simp[this,q3]
   .rw[d]at q1;simp at q1)
  refine fin b ?_ E;unfold Program.built;rw[V,d];have y:(j.toList.mapM fun f=>(P.info? f.type).map fun i=>(f.offset,i.size))=some Y:=l;simp only[H,y];simpa using G
 .obtain⟨b,G,E⟩:=key (fun i=>some (i*s,s)) (fun k p u A r=>by
   rcases(m k p u A r).2 with⟨fs',f,q1,_⟩|⟨n,e',q1,q2,q3⟩;.rw[d]at q1;simp at q1
   .rw[d]at q1;simp at q1;obtain⟨rfl,rfl⟩:=q1;rw[W]at q2;simp at q2;subst q2;simp[q3])
  obtain⟨_,ie,Q,F⟩:=cellsOf_size? W;refine fin b ?_ E;unfold Program.built;rw[V,d];simp only[H,Q,F];simpa using G
theorem aVv{o:Oper}{t el:TypeId}{b:Nat}{ps:Array (Nat×Operand)}(v:o.op=.buildSlice t b ps)(U:P.underlying t=some (.slice el)){z:Tq_}(T:eX P el=some z)(Y:z.length≠0)(V:b*z.length<=16777216){ev:aH->TV} {tps:List (Nat×aH)} (a:Act) (hl:ps.size=tps.length) (A:∀(k:Nat) (p:Nat×aH) (u:Nat×Operand),tps[k]?=some p->ps[k]?=some u->u.1=p.1/\VR M J L (ev p.2) (a.eval u.2)) {es:List (List TV)} (hf:dZ (List.replicate b (z.map .iv)) z.length ev tps=some es): ∃cells,(∀c∈es,c.length=z.length)/\VRs M J [] (bC es) cells.toList/\es.length=b/\(execOp a.eval o).run P w=.ok (.value (.slice (some ⟨w.heap.size,0,none⟩) es.length es.length)) (w.alloc (.cells cells el)):=by
 obtain⟨i,j,hi,h5,h0,I,G,C⟩:=iC T;have g:∀c∈List.replicate b (z.map TV.iv),c.length=z.length:=fun c hc=>by rw[K1 hc];simp
 have n:(bC (List.replicate b (z.map TV.iv))).length=b*z.length:=by rw[dG g];simp
 let base:Array Value:=(Array.range (b*z.length)).map (fun k=>j.cells[k % j.cells.size]!);have H:VRs M J [] (bC (List.replicate b (z.map TV.iv))) base.toList:=by
  refine⟨by rw[n];simp[base],fun k x u hx m=>?_⟩;obtain⟨Z,y,p2,rfl⟩:=kR hx;have D:u=j.cells[k % j.cells.size]! := by simp[base,Z]at m;exact m.symm
  rw[D];exact .iv _ (aKe I (C M) p2)
 obtain⟨d,N,h2,h3,h4⟩:=aEd (L:=L) (us:=ps.toList.map fun(i,x)=>(i,a.eval x)) (by simpa using hl) (fun k p u W m=>by simp only[p_,G_]at m;obtain⟨u0,R,rfl⟩:=m;exact A k p u0 W (by simpa using R)) g H hf;have l:es.length=b:=by rw[h4];simp
 refine⟨d,h3,h2,l,?_⟩;rw[l];have h:¬(16777216<b*z.length):=A_;have r:=run_size? (aA2 T) w;have e:Instr.fill (fun i=>some (i*z.length,z.length)) ((Array.range (b*z.length)).map (fun k=>j.cells[k % j.cells.size]!)) (ps.map fun(i,x)=>(i,a.eval x)).toList=some d:=by rw[<-N];simp[base]
 by_cases hln:b*z.length=0
 .have F:b=0:=by rcases Nat.mul_eq_zero.1 hln with q|q<;>omega
  subst F;have E:base=#[]:=by simp[base]
  rw[E]at N;have s:Instr.fill (fun i=>some (i*z.length,z.length)) #[] (ps.map fun(i,x)=>(i,a.eval x)).toList=some d:=by rw[<-N,Q7]
  simp only[execOp,v,Instr.buildSlice,Sem.run_bind,und U,r,newRow,Result.andThen_ok];simp only[Q7]at s;have Q:∀f:Nat->Value,Array.map f (Array.range 0)=#[]:=fun f=>B_;simp[Q,s]
 .simp[execOp,v,Instr.buildSlice,und U,r,h,hln,G,newRow]at e |-;simp[e]
theorem bFa(a b:List UInt8):((⟨a.toArray⟩:ByteArray)==⟨b.toArray⟩)=(a==b):=by have h:((⟨a.toArray⟩:ByteArray)==⟨b.toArray⟩)=(a.toArray==b.toArray):=rfl;rw[h];simp
theorem vS{a b:IV}(h:pX a b=true){u v:Value}(d:IR M a u)(c:IR M b v)(n:Nat):Instr.sameBits n u v=true:=by
 unfold pX at h;split at h
 .cases d;cases c
  cases n<;>simpa[Instr.sameBits] using h
 .cases d;cases c
  cases n<;>simpa[Instr.sameBits] using h
 .cases d;cases c
  cases n<;>(simp only[Instr.sameBits,bFa];exact h)
 .simp at h
theorem tG:∀ {cs ds:Tq_} {us vs:List Value},jX cs ds=true->us.length=cs.length->vs.length=ds.length->(∀(i:Nat) (x:IV) (u:Value),cs[i]?=some x->us[i]?=some u->IR M x u) ->(∀(i:Nat) (x:IV) (u:Value),ds[i]?=some x->vs[i]?=some u->IR M x u)->∀n,us.length=vs.length/\((us.zip vs).all fun(x,y)=>Instr.sameBits n x y)=true
 |[],ds,us,vs,h,h1,h2,hu,hv,n=>by
  cases ds with
  |nil =>have:us=[]:=Z_ (by simpa using h1);have:vs=[]:=Z_ (by simpa using h2);subst_vars;simp
  |cons d ds=>simp[jX]at h
 |c::cs,ds,us,vs,h,h1,h2,hu,hv,n=>by
  cases ds with
  |nil=>simp[jX]at h
  |cons d ds =>
   cases us with
   |nil=>simp at h1
   |cons u us =>
    cases vs with
    |nil=>simp at h2
    |cons v vs =>simp only[jX,P_]at h;obtain⟨e,f⟩:=tG h.2 (by simpa using h1) (by simpa using h2) (fun i x u b a=>hu (i+1) x u (by simpa using b) (by simpa using a)) (fun i x u b a=>hv (i+1) x u (by simpa using b) (by simpa using a)) n;refine⟨by simp[e],?_⟩;simp only[List.zip_cons_cons,List.all_cons,P_];exact⟨vS h.1 (hu 0 c u rfl rfl) (hv 0 d v rfl rfl) n,f⟩
theorem yD{a b:IV}(h:gZ a b=true){u v:Value}(c:IR M a u)(e:IR M b v):(Instr.keyThatStays u v).run P w=.ok v w:=by
 have k:Instr.sameBits 10000 u v=true:=by
  unfold gZ at h;split at h;.obtain⟨us,rfl,g,j⟩:=c.agg_inv;obtain⟨vs,rfl,h3,l⟩:=e.agg_inv;obtain⟨f,m⟩:=tG (M:=M) h (us:=us.toList) (vs:=vs.toList) (by simpa using g) (by simpa using h3) (fun i x u d c=>j i x u d (by simpa using c)) (fun i x u d c=>l i x u d (by simpa using c)) 9999;show Instr.sameBits (9999+1) (.agg us) (.agg vs)=true;simp only[Instr.sameBits,P_];exact⟨by simpa using f,m⟩
  .exact vS h c e 10000
 simp[Instr.keyThatStays,k]
def RF(M:Mem)(J:aF):Option (Nat×TV)->Option (Nat×Value)->Prop
 |none,none=>True
 |some (n,x),some (m,v)=>n=m/\VR M J [] x v
 |_,_=>False
def ER(M:Mem)(J:aF)(es:List (Nat×IV×TV))(l:List MapEntry):Prop :=
 l.length=es.length/\∀(k:Nat) (x:Nat×IV×TV) (y:MapEntry),es[k]?=some x->l[k]?=some y->y.born=x.1/\IR M x.2.1 y.key/\VR M J [] x.2.2 y.val
theorem ER.cons_inv{e:Nat×IV×TV}{es:Tr_}{l:List MapEntry}(h:ER M J (e::es) l):∃y l',l=y::l'/\y.born=e.1/\IR M e.2.1 y.key/\VR M J [] e.2.2 y.val/\ER M J es l':=by
 cases l with
 |nil=>simp[ER]at h
 |cons y l' =>obtain⟨a,d,h3⟩:=h.2 0 e y rfl rfl;exact⟨y,l',rfl,a,d,h3,by simpa using h.1,fun k x z c b=>h.2 (k+1) x z (by simpa using c) (by simpa using b)⟩
def aEe:LK->TypeDesc->Prop
 |.bool,d=>d=.bool
 |.int,d=>∃k,d=.int k
 |.str,d=>d=.string
theorem yE{g:LK}{d:TypeDesc}(c:aEe g d){a b:IV}{r:Bool}(h:gM g a b=some r){u v:Value}(f:IR M a u)(e:IR M b v):Instr.sameNow d u v=some r:=by
 unfold gM at h;split at h
 .cases f;cases e
  simp[aEe]at c;subst c;simpa[Instr.sameNow] using h
 .cases f;cases e
  obtain⟨k,rfl⟩:=c;split at h;.rename_i hk;subst hk;simpa[Instr.sameNow] using h
  .simp at h
 .cases f;cases e
  simp[aEe]at c;subst c;simp only[Instr.sameNow,bFa];exact h
 .simp at h
theorem yF{a:LK}{d:TypeDesc}(f:aEe a d){k:IV}{g:Value}(c:IR M k g):∀ {es:Tr_} {l:List MapEntry} {i:Nat} {r:Option (Nat×TV)},ER M J es l->findKey (.leaf a) k es i=some r ->∃b,Instr.findNow d g l i=some b/\RF M J r b
 |[],l,i,r,he,h=>by have:l=[]:=Z_ (by simpa using he.1);subst this;simp[findKey]at h;subst h;exact⟨none,rfl,trivial⟩
 |e::es,l,i,r,he,h=>by
  obtain⟨y,l',rfl,_,j,h3,n⟩:=he.cons_inv;simp only[findKey]at h;split at h;.rename_i hq;simp at h;subst h;exact⟨some (i,y.val),by simp[Instr.findNow,yE f (show gM a k e.2.1=some true from hq) c j],rfl,h3⟩
  .rename_i hq;obtain⟨b,m,o⟩:=yF f c n h;exact⟨b,by simp[Instr.findNow,yE f (show gM a k e.2.1=some false from hq) c j,m],o⟩
  .simp at h
theorem tH{t:TypeId}{cL:List (Nat×LK)}(m:mH P t=some cL){k:IV}{d:Value}(g:IR M k d):∀ {es:Tr_} {l:List MapEntry} {i:Nat} {r:Option (Nat×TV)},ER M J es l->findKey (.agg cL) k es i=some r ->∃c,(Instr.findAsking t d l i).run P w=.ok c w/\RF M J r c
 |[],l,i,r,he,h=>by have:l=[]:=Z_ (by simpa using he.1);subst this;simp[findKey]at h;subst h;exact⟨none,by simp[Instr.findAsking],trivial⟩
 |e::es,l,i,r,he,h=>by
  obtain⟨y,l',rfl,_,j,h3,q⟩:=he.cons_inv;have key:∀ {b:Bool},pW (.agg cL) k e.2.1=some b->(Go.Op.equal t d y.key).run P w=.ok b w:=by
   intro b a;simp only[pW]at a;split at a;.rename_i x z hz;obtain⟨us,rfl,p,p2⟩:=g.agg_inv;rw[hz]at j;obtain⟨vs,f,p3,o⟩:=j.agg_inv;rw[f];exact tC m p p2 p3 o a
   .simp at a
  simp only[findKey]at h;split at h;.rename_i hq;simp at h;subst h;exact⟨some (i,y.val),by simp[Instr.findAsking,key hq],rfl,h3⟩
  .rename_i hq;obtain⟨c,n,s⟩:=tH m g q h;exact⟨c,by simp[Instr.findAsking,key hq,n],s⟩
  .simp at h
theorem vT{t:TypeId}{kk:KK}(h:iB P t=some kk):(∃b d,kk=.leaf b/\P.underlying t=some d/\aEe b d) \/∃cL,kk=.agg cL/\mH P t=some cL/\(match P.underlying t with|some (.array _ _)|some (.struct _)=>true|_=>false)=true:=by
 unfold iB at h;split at h<;>try (simp at h;done)
 .rename_i k hk;simp at h;subst h;exact .inl ⟨_,_,rfl,hk,_,rfl⟩
 .rename_i hk;simp at h;subst h;exact .inl ⟨_,_,rfl,hk,rfl⟩
 .rename_i hk;simp at h;subst h;exact .inl ⟨_,_,rfl,hk,rfl⟩
 .rename_i hk;simp only[G_]at h;obtain⟨o,a,rfl⟩:=h;exact .inr ⟨o,rfl,a,by rw[hk]⟩
 .rename_i hk;simp only[G_]at h;obtain⟨o,a,rfl⟩:=h;exact .inr ⟨o,rfl,a,by rw[hk]⟩
theorem mK{t:TypeId}{kk:KK}(o:iB P t=some kk){k:IV}{e:Value}(f:IR M k e){es:Tr_}{l:List MapEntry}{r:Option (Nat×TV)}(g:ER M J es l)(h:findKey kk k es 0=some r): ∃a,(Instr.findKey t e l).run P w=.ok a w/\RF M J r a:=by
 rcases vT o with⟨p,d,rfl,n,m⟩|⟨cL,rfl,j,i⟩;.obtain⟨a,b,c⟩:=yF m f g h;exact⟨a,by simp[Instr.findKey,und n,b],c⟩
 .obtain⟨a,b,c⟩:=tH (P:=P) (w:=w) j f g h;exact⟨a,by rw[run_findKey_eq w i];exact b,c⟩
theorem vU{t:TypeId}{k:LK}(a:vN P t=some k)(b:Bool)(n:Nat)(v:Value):(Instr.checkKey b (n+1) t v).run P w=.ok () w:=by unfold vN at a;unfold Instr.checkKey;split at a<;>simp at a<;>(rename_i hd;simp only[Sem.run_bind,und hd w,Result.andThen_ok];rfl)
theorem rW(c:Bool)(n:Nat){vs:Array Value}:∀ {b:List Field} {cL:List (Nat×LK)},wJ P b=some cL->(∀o∈cL,o.1<vs.size)->∀ {f:Field->PUnit->Sem (ForInStep PUnit)},
  (∀ x, f x PUnit.unit = (if x.name ≠ "_" then (part x.type vs x.offset >>= fun u => Instr.checkKey c (n + 1) x.type u >>= fun _ => Pure.pure (ForInStep.yield PUnit.unit)) else Pure.pure (ForInStep.yield PUnit.unit))) →
  (forIn b PUnit.unit f).run P w=.ok PUnit.unit w
 |[],_,_,_,_,_=>B_
 |x::b,cL,h,ho,f,hf=>by
  simp only[wJ]at h;split at h
  .rename_i hn;split at h;.rename_i k l hk hl;simp at h;subst h;have a:x.offset<vs.size:=ho (x.offset,k) B_;have e:=iJ (P:=P) (w:=w) hk (A8 a);simp only[List.forIn_cons,hf,Sem.run_bind,K_ hn,e,Result.andThen_ok,vU hk c n,Sem.run_pure];exact rW c n hl (fun o d=>ho o (by simp[d])) hf
   .simp at h
  .simp at h
theorem kU{t:TypeId}{kk:KK}(E:iB P t=some kk){k:IV}{l:Value}(A:IR M k l)(m:gX kk k=true)(g:Bool):(Instr.checkKey g 10000 t l).run P w=.ok () w:=by
 show(Instr.checkKey g (9999+1) t l).run P w=.ok () w;rcases vT E with⟨u,d,rfl,D,h⟩|⟨cL,rfl,a,G⟩
 .unfold Instr.checkKey;simp only[Sem.run_bind,und D w,Result.andThen_ok];cases u with
  |bool=>simp only[aEe]at h;subst h;rfl
  |int=>obtain⟨q,rfl⟩:=h;rfl
  |str=>simp only[aEe]at h;subst h;rfl
 .have s:∃cs,k=.agg cs/\∀o∈cL,o.1<cs.length:=by
   cases k with
   |agg cs =>refine⟨cs,rfl,fun o v=>?_⟩;simp only[gX,C6,q_]at m;exact m o v
   |_=>simp[gX]at m
  obtain⟨cs,rfl,c⟩:=s;obtain⟨vs,rfl,C,H⟩:=A.agg_inv;rw[<-C]at c;unfold mH at a;split at a
  .rename_i fs hu;split at a;.simp at a
   .rw[Instr.checkKey];simp only[Sem.run_bind,und hu w,Result.andThen_ok];rw[<-Array.forIn_toList];rw[rW g 9998 a c (fun x=>by split<;>simp_all)];rfl
  .rename_i n e hu;split at a
   .rename_i u hlk;split at a
    .rename_i hsz;simp at a;subst a;rw[Instr.checkKey];simp only[Sem.run_bind,und hu w,Result.andThen_ok];simp only[Std.Legacy.Range.forIn_eq_forIn_range',Std.Legacy.Range.size,Nat.sub_zero,Nat.add_one_sub_one,Nat.div_one];have b:∀i∈List.range' 0 n,i<vs.size:=by
      intro i r;have r:i<n:=by simpa using r
      exact c (i,u) (A0.2 ⟨i,C5.2 r,rfl⟩)
     generalize List.range' 0 n=f at b;have:∀(f:Tc_),(∀i∈f,i<vs.size)->(forIn f PUnit.unit fun i (_:PUnit)=>(do
       let __do_lift <-sizeOf e
       let __do_lift <-part e vs (i*__do_lift)
       Instr.checkKey g 9999 e __do_lift
       Pure.pure (ForInStep.yield PUnit.unit):Sem (ForInStep PUnit))).run P w=.ok PUnit.unit w:=by
      intro f
      induction f with
      |nil=>intro _;simp
      |cons j f ih =>
       intro b;have p:j*1<vs.size:=by rw[I6];exact b j B_
       have F:=iJ (P:=P) (w:=w) hlk (A8 p);simp only[List.forIn_cons,Sem.run_bind,run_size? hsz,F,Result.andThen_ok,vU hlk g 9998,Sem.run_pure];exact ih (fun y z=>b y (by simp[z]))
     rw[this f b];rfl
    .simp at a
   .simp at a
  .simp at a
theorem aA6{i:Nat}{l:Loc}(h:WR P O M J S w)(d:J.at i l){es:Tr_}{a:Nat}(c:S[i]?=some (.mp es a)):∃es',w.heap[l.cb]?=some (.map es' a)/\ER M J es es'.toList/\l.loose=false:=by obtain⟨es',b,g,h3,f⟩:=bE2 h d c;exact⟨es',b,⟨by simpa using g,fun k x y e j=>h3 k x y e (by simpa using j)⟩,f⟩
theorem ER.get{es:Tr_}{l:List MapEntry}(h:ER M J es l){k:Nat}{x:Nat×IV×TV}(b:es[k]?=some x):∃y,l[k]?=some y/\y.born=x.1/\IR M x.2.1 y.key/\VR M J [] x.2.2 y.val:=by
 have a:k<l.length:=by rw[h.1];exact(E_.1 b).1
 exact⟨l[k],D_ a,h.2 k x _ b (D_ a)⟩
theorem ER.push{es:Tr_}{l:List MapEntry}(h:ER M J es l){x:Nat×IV×TV}{y:MapEntry}(e:y.born=x.1)(f:IR M x.2.1 y.key)(h3:VR M J [] x.2.2 y.val):ER M J (es++[x]) (l++[y]):=by
 refine⟨by simp[h.1],fun k a b d c=>?_⟩;rw[F7]at d c;split at d;.rename_i hk;rw[K_ (by rw[h.1];exact hk)]at c;exact h.2 k a b d c
 .rename_i hk;rw[I_ (by rw[h.1];exact hk),h.1]at c;have:k-es.length=0:=by have:=(E_.1 d).1;simp at this;omega
  rw[this]at d c;simp at d c;subst d;subst c;exact⟨e,f,h3⟩
theorem ER.modify{es:Tr_}{l:List MapEntry}(h:ER M J es l)(n:Nat){f:Nat×IV×TV->Nat×IV×TV}{g:MapEntry->MapEntry} (e:∀x y,es[n]?=some x->l[n]?=some y->(g y).born=(f x).1/\IR M (f x).2.1 (g y).key/\VR M J [] (f x).2.2 (g y).val):ER M J (es.modify n f) (l.modify n g):=by
 refine⟨by simp[h.1],fun k a b d c=>?_⟩;rw[List.getElem?_modify]at d c;by_cases hk:n=k;.subst hk;simp only[K_,Option.map_eq_map,G_]at d c;obtain⟨x,i,rfl⟩:=d;obtain⟨y,j,rfl⟩:=c;exact e x y i j
 .simp only[I_ hk,Option.map_eq_map,Option.map_id']at d c;exact h.2 k a b d c
theorem ER.erase{es:Tr_}{l:List MapEntry}(h:ER M J es l)(n:Nat):ER M J (es.eraseIdx n) (l.eraseIdx n):=by
 refine⟨by simp[Q9,h.1],fun k a b d c=>?_⟩;rw[List.getElem?_eraseIdx]at d c;split at d;.rename_i hk;rw[K_ hk]at c;exact h.2 k a b d c
 .rename_i hk;rw[I_ hk]at c;exact h.2 (k+1) a b d c
theorem fX{r:Nat}{a o':Obj}(h:w.heap[r]?=some a)(b:∀c e f,a≠.cells c e f):(setObj r o').run P w=.ok () {w with heap:=w.heap.setIfInBounds r o'}:=by cases a<;>simp_all[setObj,Sem.run]
theorem aGb{r:Nat}{b o':Obj}(h:w.heap[r]?=some b):(w.heap.setIfInBounds r o')[r]?=some o':=by have a:=fZ h;simp[a]
theorem aEf(h:MS P O K M J L S env w){i:Nat}{l:Loc}(g:J.at i l){f o':Obj}(j:w.heap[l.cb]?=some f){s':aG}(k:∀o,M l.cb o=none) (d:∀w':World,w'.heap[l.cb]?=some o'->BR P O M J w' l s'):MS P O K M J L (S.set i s') env {w with heap:=w.heap.setIfInBounds l.cb o'} /\Tr (cS L) M J S w M J (S.set i s') {w with heap:=w.heap.setIfInBounds l.cb o'}:=by obtain⟨a,b⟩:=h.wr.write (fun _=>False) g (w':={w with heap:=w.heap.setIfInBounds l.cb o'}) (d _ (aGb j)) B_ (fun b e=>by simp[B0 e]) ⟨rfl,rfl,rfl⟩ (fun o v c=>by rw[k]at c;simp at c);exact h.step' a b
theorem tJ(h:WR P O M J S w){b:Nat}{a:Obj}(d:w.heap[b]?=some a)(g:∀c e f,a≠.cells c e f)(o:Nat):M b o=none:=by
 cases hm:M b o with
 |none=>rfl
 |some v =>have:=h.imm b o v hm;unfold World.cell? at this;rw[d]at this;cases a<;>simp_all
theorem oC(h:MS P O K M J L S env w){i:Nat}{l:Loc}(f:J.at i l)(b:l.loose=false){es es2:Array MapEntry}{a clock2:Nat}(e:w.heap[l.cb]?=some (.map es a)){ts:Tr_}(d:ER M J ts es2.toList): MS P O K M J L (S.set i (.mp ts clock2)) env {w with heap:=w.heap.setIfInBounds l.cb (.map es2 clock2)}/\Tr (cS L) M J S w M J (S.set i (.mp ts clock2)) {w with heap:=w.heap.setIfInBounds l.cb (.map es2 clock2)} :=
 aEf h f e (fun o=>tJ h.wr e B_ o) (fun w' c=>.mp ts clock2 es2 b c (by simpa using d.1) (fun k x y g j=>d.2 k x y g (by simpa using j)))
theorem aHo{t:TypeId}{z:IV}(h:aAv P t=some z):∃a,(∀w,(zeroValue t).run P w=.ok a w)/\IR M z a:=by
 unfold aAv at h;split at h
 .rename_i i hi;split at h;.rename_i a hz;exact⟨a,fun w=>by simp[zeroValue,typeInfo,hi,hz],aVr h⟩
  .simp at h
 .simp at h
theorem aEg{o:Oper}{t kt el:TypeId}{m k:Operand}{z:Bool}(h0:o.op=.lookup t m k z)(ht:P.underlying t=some (.map kt el)){kk:KK}(F:iB P kt=some kk){Y:IV}(hz:aAv P el=some Y) (a:Act) (h:MS P O K M J L S env w) {Z e2 r:TV} (T:VR M J L Z (a.eval m)) (h2:VR M J L e2 (a.eval k)) {ki:IV} (hk:lH e2=some ki) (h4:gX kk ki=true) {f:Option (Nat×TV)} (C:(Z=.iv .nilm/\f=none)\/∃j es e,Z=.map j/\S[j]?=some (.mp es e)/\findKey kk ki es 0=some f) (hr:r=(match f with|some (_,x)=>if z then .tup [x,.iv (.bool true)]else x|none=>if z then .tup [.iv Y,.iv (.bool false)]else .iv Y)) {top:TOp} (G:aP top=none): cK P O K top M J L S env w (execOp a.eval o) r env S:=by
 obtain⟨zv,N,A⟩:=aHo (M:=M) hz;have D:=xY hk h2;have fin:∀(es:Array MapEntry) (c:Option (Nat×Value)),(Instr.findKey kt (a.eval k) es.toList).run P w=.ok c w->RF M J f c ->
   ((∃b,a.eval m=.map (some b)/\∃cl,w.heap[b]?=some (.map es cl))\/(a.eval m=.map none/\es=#[]))->cK P O K top M J L S env w (execOp a.eval o) r env S:=by
  intro es c R E V
  have H:=kU (w:=w) F D h4 es.isEmpty
  have I:∃u,(execOp a.eval o).run P w=.ok (.value u) w/\VR M J L r u:=by
   have W:(Instr.lookup t (a.eval m) (a.eval k) z).run P w=match c with
     |some (_,v)=>.ok (if z then .tuple #[v,.bool true]else v) w
     |none=>.ok (if z then .tuple #[zv,.bool false]else zv) w:=by
    rcases V with⟨b,Q,cl,U⟩|⟨Q,rfl⟩
    .simp only[Instr.lookup,Sem.run_bind,und ht,Result.andThen_ok,Q,cM U B_,Sem.run_pure,H,R]
     cases c with
     |none=>simp[N]
     |some p=>simp
    .simp only[Instr.lookup,Sem.run_bind,und ht,Result.andThen_ok,Q,Sem.run_pure,H,R]
     cases c with
     |none=>simp[N]
     |some p=>simp
   subst hr;simp only[execOp,h0,Sem.run_bind,W];cases f with
   |none =>
    cases c with
    |some p=>simp[RF]at E
    |none =>
     cases z with
     |true=>exact⟨_,rfl,.tup _ _ _ B_ (fun i x v d s=>by
       cases i with
       |zero=>simp at d s;subst d;subst s;exact .iv _ A
       |succ i =>
        cases i with
        |zero=>simp at d s;subst d;subst s;exact .iv _ (.bool _)
        |succ i=>simp at d)⟩
     |false=>exact⟨_,rfl,.iv _ A⟩
   |some q =>
    cases c with
    |none=>simp[RF]at E
    |some p =>
     obtain⟨n,x⟩:=q;obtain⟨n',v⟩:=p;obtain⟨rfl,s⟩:=E;cases z with
     |true=>exact⟨_,rfl,.tup _ _ _ B_ (fun i x v d g=>by
       cases i with
       |zero=>simp at d g;subst d;subst g;exact s
       |succ i =>
        cases i with
        |zero=>simp at d g;subst d;subst g;exact .iv _ (.bool _)
        |succ i=>simp at d)⟩
     |false=>exact⟨_,rfl,s.ofNil⟩
  obtain⟨u,hu,s⟩:=I
  exact .pure G h hu s
 rcases C with⟨rfl,rfl⟩|⟨j,es,e,rfl,hs,R⟩
 .have V:a.eval m=.map none:=by generalize a.eval m=v at T;cases T.iv_inv;rfl
  refine fin #[] none ?_ trivial (.inr ⟨V,rfl⟩);obtain⟨r',q1,q2⟩:=mK (P:=P) (w:=w) (J:=J) F D (es:=[]) (l:=[]) (r:=none) ⟨rfl,fun k x y d=>by simp at d⟩ rfl;cases r' with
  |none=>exact q1
  |some p=>simp[RF]at q2
 .generalize hva:a.eval m=v at T;cases T with
  |map L j l hJ hlo =>obtain⟨es',Q,h5,_⟩:=aA6 h.wr hJ hs;obtain⟨r',q1,q2⟩:=mK (P:=P) (w:=w) F D h5 R;exact fin es' r' q1 q2 (.inl ⟨_,hva,_,Q⟩)
theorem aEh{o:Oper}{t W el:TypeId}{m k v:Operand}(q:o.op=.mapUpdate t m k v\/o.op=.insert t m k v)(ht:P.underlying t=some (.map W el)){kk:KK}(H:iB P W=some kk)(a:Act)(h:MS P O K M J L S env w) {j:Nat} {e2 e3:TV} (Z:VR M J L (.map j) (a.eval m)) (h2:VR M J L e2 (a.eval k)) (h3:VR M J L e3 (a.eval v)) (I:cA e3=false) {z:IV} (hk:lH e2=some z) (U:gX kk z=true) {es:Tr_} {d:Nat} (hs:S[j]?=some (.mp es d)) {A:Option (Nat×TV)} (hf:findKey kk z es 0=some A) (T:match A with
   |some (n,_)=>((es[n]?).map fun y=>gZ y.2.1 z).getD false=true/\S'=S.set j (.mp (es.modify n fun y=>(y.1,z,e3)) d)
   |none=>S'=S.set j (.mp (es++[(d,z,e3)]) (d+1))) {top:TOp} (u:aP top=none):
  cK P O K top M J L S env w (execOp a.eval o) undef env S':=by
 have g:=xY hk h2
 have F:VR M J [] e3 (a.eval v):=h3.frame I
 generalize hva:a.eval m=vm at Z
 cases Z with
 |map L j l hJ hlo =>
  obtain⟨es',C,i,_⟩:=aA6 h.wr hJ hs;obtain⟨V,Y,R⟩:=mK (P:=P) (w:=w) H g i hf;have E:=kU (w:=w) H g U false;have s:(execOp a.eval o).run P w=((Instr.mapUpdate t (.map (some l.cb)) (a.eval k) (a.eval v)).run P w).andThen fun _ w'=>.ok .skip w':=by rcases q with q|q<;>simp[execOp,q,hva]
  cases A with
  |none =>
   cases V with
   |some p=>simp[RF]at R
   |none =>simp only at T;subst T;obtain⟨b,c⟩:=oC h hJ hlo C (clock2:=d+1) (es2:=es'.push {key:=a.eval k,val:=a.eval v,born:=d}) (ts:=es++[(d,z,e3)]) (by rw[Array.toList_push];exact i.push rfl g F);refine .mk0 u (r:=.skip) ?_ (.inr ⟨rfl,rfl⟩) b c (.refl _);rw[s];simp[Instr.mapUpdate,und ht,cM C,E,Y,fX C]
  |some p0 =>
   obtain⟨n,x0⟩:=p0;cases V with
   |none=>simp[RF]at R
   |some p =>
    obtain⟨n',v0⟩:=p;obtain⟨rfl,h0⟩:=R;obtain⟨f,rfl⟩:=T;obtain⟨y,D⟩:∃y,es[n]?=some y:=by
     cases D:es[n]? with
     |none=>simp[D]at f
     |some y=>exact⟨y,rfl⟩
    simp[D]at f;obtain⟨y',Q,p1,p2,p3⟩:=i.get D;have G:es'[n]?=some y':=by simpa using Q
    have N:=yD (P:=P) (w:=w) f p2 g;obtain⟨b,c⟩:=oC h hJ hlo C (clock2:=d) (es2:=es'.modify n fun e=>{e with key:=a.eval k,val:=a.eval v}) (ts:=es.modify n fun y=>(y.1,z,e3)) (by rw[S9];refine i.modify n fun x y hx D=>?_;exact⟨(i.2 n x y hx D).1,g,F⟩);refine .mk0 u (r:=.skip) ?_ (.inr ⟨rfl,rfl⟩) b c (.refl _);rw[s];simp[Instr.mapUpdate,und ht,cM C,E,Y,G,N,fX C]
theorem aHp{o:Oper}{t kt el:TypeId}{m k:Operand}(T:o.op=.mapEntry t m k)(ht:P.underlying t=some (.map kt el)){kk:KK}(R:iB P kt=some kk){U:IV}(G:aAv P el=some U)(a:Act)(h:MS P O K M J L S env w) {j:Nat} {e2:TV} (h1:VR M J L (.map j) (a.eval m)) (h2:VR M J L e2 (a.eval k)) {F:IV} (hk:lH e2=some F) (h5:gX kk F=true) {es:Tr_} {d:Nat} (hs:S[j]?=some (.mp es d)) {H:Option (Nat×TV)} (hf:findKey kk F es 0=some H) {r:TV} (hr:match H with
   |some (n,x)=>((es[n]?).map fun y=>gZ y.2.1 F).getD false=true/\r=.tup [x,.iv (.int .i64 (((es[n]?).map (·.1)).getD 0:Nat))]/\S'=S.set j (.mp (es.modify n fun y=>(y.1,F,y.2.2)) d)
   |none=>r=.tup [.iv U,.iv (.int .i64 d)]/\S'=S.set j (.mp (es++[(d,F,.iv U)]) (d+1))) {top:TOp} (D:aP top=none):
  cK P O K top M J L S env w (execOp a.eval o) r env S':=by
 obtain⟨zv,Z,E⟩:=aHo (M:=M) G
 have s:=xY hk h2
 have C:∀ {x y:TV} {u v:Value},VR M J [] x u->VR M J [] y v->VR M J L (.tup [x,y]) (.tuple #[u,v]):=by
  intro x y u v W A;refine .tup _ _ _ B_ (fun i z q G V=>?_);cases i with
  |zero=>simp at G V;subst G;subst V;exact W
  |succ i =>
   cases i with
   |zero=>simp at G V;subst G;subst V;exact A
   |succ i=>simp at G
 generalize hva:a.eval m=vm at h1
 cases h1 with
 |map L j l hJ hlo =>
  obtain⟨es',I,g,_⟩:=aA6 h.wr hJ hs;obtain⟨r',q1,q2⟩:=mK (P:=P) (w:=w) R s g hf;have N:=kU (w:=w) R s h5 false;cases H with
  |none =>
   cases r' with
   |some p=>simp[RF]at q2
   |none =>simp only at hr;obtain⟨rfl,rfl⟩:=hr;obtain⟨b,c⟩:=oC h hJ hlo I (clock2:=d+1) (es2:=es'.push {key:=a.eval k,val:=zv,born:=d}) (ts:=es++[(d,F,.iv U)]) (by rw[Array.toList_push];exact g.push rfl s (.iv _ E));refine .mk0 D (r:=.value (.tuple #[zv,.int .i64 d])) ?_ (.inl ⟨_,rfl,C (.iv _ E) (.iv _ (.int _ _))⟩) b c (.refl _);simp[execOp,T,hva,Instr.mapEntry,und ht,cM I,N,q1,Z,fX I,goInt]
  |some p0 =>
   obtain⟨n,x0⟩:=p0;cases r' with
   |none=>simp[RF]at q2
   |some p =>
    obtain⟨n',v0⟩:=p;obtain⟨rfl,h4⟩:=q2;obtain⟨f,rfl,rfl⟩:=hr;obtain⟨y,A⟩:∃y,es[n]?=some y:=by
     cases A:es[n]? with
     |none=>simp[A]at f
     |some y=>exact⟨y,rfl⟩
    simp[A]at f;obtain⟨y',h0,p1,p2,p3⟩:=g.get A;have Q:es'[n]?=some y':=by simpa using h0
    have Y:=yD (P:=P) (w:=w) f p2 s;obtain⟨b,c⟩:=oC h hJ hlo I (clock2:=d) (es2:=es'.modify n fun e=>{e with key:=a.eval k}) (ts:=es.modify n fun y=>(y.1,F,y.2.2)) (by rw[S9];refine g.modify n fun x y W A=>?_;exact⟨(g.2 n x y W A).1,s,(g.2 n x y W A).2.2⟩);refine .mk0 D (r:=.value (.tuple #[v0,.int .i64 y.1])) ?_ (.inl ⟨_,rfl,?_⟩) b c (.refl _);.simp[execOp,T,hva,Instr.mapEntry,und ht,cM I,N,q1,Q,Y,fX I,goInt,p1]
    .rw[A];exact C h4 (.iv _ (.int _ _))
theorem yG:∀ {es:Tr_} {l:List MapEntry} (b:Int),ER M J es l->l.findIdx? (fun e=>(e.born:Int)==b)=es.findIdx? (fun y=>(y.1:Int)==b)
 |[],l,b,h=>by have:l=[]:=Z_ (by simpa using h.1);subst this;rfl
 |e::es,l,b,h=>by obtain⟨y,l',rfl,a,_,_,c⟩:=h.cons_inv;simp only[P1,a,yG b c]
theorem aEi{o:Oper}{t:TypeId}{m s v:Operand}(A:o.op=.entryStore t m s v)(a:Act)(h:MS P O K M J L S env w){j:Nat}{e2 e3:TV}(C:VR M J L (.map j) (a.eval m))(H:VR M J L e2 (a.eval s)) (h3:VR M J L e3 (a.eval v)) (p:cA e3=false) {born:Int} (g:fB e2=some born) {es:Tr_} {d:Nat} (G:S[j]?=some (.mp es d)) {n:Nat} (F:es.findIdx? (fun y=>(y.1:Int)==born)=some n) {top:TOp} (i:aP top=none):cK P O K top M J L S env w (execOp a.eval o) undef env (S.set j (.mp (es.modify n fun y=>(y.1,y.2.1,e3)) d)):=by
 have q:VR M J [] e3 (a.eval v):=h3.frame p;obtain⟨N,u⟩:=kQ g H;generalize hva:a.eval m=vm at C;cases C with
 |map L j l hJ hlo =>
  obtain⟨es',z,f,_⟩:=aA6 h.wr hJ G;have k:es'.findIdx? (fun e=>(e.born:Int)==born)=some n:=by obtain⟨I⟩:=es';rw[<-F,<-yG born f];exact List.findIdx?_toArray ..
  obtain⟨b,c⟩:=oC h hJ hlo z (clock2:=d) (es2:=es'.modify n fun e=>{e with val:=a.eval v}) (ts:=es.modify n fun y=>(y.1,y.2.1,e3)) (by rw[S9];refine f.modify n fun x y D E=>?_;exact⟨(f.2 n x y D E).1,(f.2 n x y D E).2.1,q⟩);refine .mk0 i (r:=.skip) ?_ (.inr ⟨rfl,rfl⟩) b c (.refl _);simp[execOp,A,hva,u,Instr.entryStore,cM z,asInt,asIntOf,k,fX z]
theorem bFb{α:Type}{l:List α}{i:Nat}{x:α}(h:l[i]?=some x):l.set i x=l:=by
 apply List.ext_getElem?;intro k;by_cases hk:k=i;.subst hk;rw[C7 (E_.1 h).1,h]
 .rw[B2 A_]
theorem aYc{t A el ty:TypeId}{ts:Array TypeId}(u:ts[0]?=some t)(x:P.underlying t=some (.map A el)){kk:KK}(g:iB P A=some kk)(h:MS P O K M J L S env w){q e2:TV}{D F:Value}(E:VR M J L q D) (H:VR M J L e2 F) {v:IV} (G:lH e2=some v) (o:gX kk v=true) (k:(q=.iv .nilm/\S'=S)\/∃j es a e,q=.map j/\S[j]?=some (.mp es a)/\findKey kk v es 0=some e/\S'=(match e with|some (n,_)=>S.set j (.mp (es.eraseIdx n) a)|none=>S)): ∃w',(Builtin.delete_ ts ty #[D,F]).run P w=.ok (.tuple #[]) w'/\MS P O K M J L S' env w'/\Tr (cS L) M J S w M J S' w':=by
 have f:=xY G H;rcases k with⟨rfl,rfl⟩|⟨j,es,a,e,rfl,y,I,k⟩
 .cases E.iv_inv
  have d:=kU (w:=w) g f o true;exact⟨w,by simp[Builtin.delete_,u,und x,d],h,.refl _ _ _ _ _⟩
 .cases E with
  |map L j l hJ hlo =>
   obtain⟨es',m,i,_⟩:=aA6 h.wr hJ y;obtain⟨z,C,s⟩:=mK (P:=P) (w:=w) g f i I;have d:=kU (w:=w) g f o es'.isEmpty;cases e with
   |none =>
    cases z with
    |some p=>simp[RF]at s
    |none =>simp only at k;subst k;obtain⟨b,c⟩:=oC h hJ hlo m (clock2:=a) (es2:=es') (ts:=es) i;rw[bFb y]at b c;exact⟨_,by simp[Builtin.delete_,u,und x,cM m,d,C,fX m],b,c⟩
   |some p0 =>
    obtain⟨n,x0⟩:=p0;cases z with
    |none=>simp[RF]at s
    |some p =>
     obtain⟨R,Q⟩:=p;obtain⟨rfl,N⟩:=s;simp only at k;subst k;obtain⟨b,c⟩:=oC h hJ hlo m (clock2:=a) (es2:=es'.eraseIdxIfInBounds n) (ts:=es.eraseIdx n) (by
      have:(es'.eraseIdxIfInBounds n).toList=es'.toList.eraseIdx n:=by
       unfold Array.eraseIdxIfInBounds;split;.simp
       .rename_i hlt;rw[List.eraseIdx_of_length_le (by simpa using hlt)]
      rw[this];exact i.erase n)
     exact⟨_,by simp[Builtin.delete_,u,und x,cM m,d,C,fX m],b,c⟩
theorem bFc(h:MS P O K M J L S env w)(a:Obj)(s:aG) (e:∀(J':aF) (w':World) (l:Loc),JLe J J'->l.loose=false->w'.heap[l.cb]?=some a->BR P O M J' w' l s):∃J' l,l.loose=false/\l.cb=w.heap.size/\MS P O K M J' L (S++[s]) env (w.alloc a) /\Tr (cS L) M J S w M J' (S++[s]) (w.alloc a)/\J'.at S.length l:=by
 have g:M.ext w.heap.size (fun _=>none)=M:=tB h.wr.none_at;let l:Loc:={cb:=w.heap.size,d:=0,ver:=0,cap:=0,es:=0,size:=0,loose:=false}
 have f:=h.wr.push (fun _=>False) a (fun _=>none) l s rfl (fun o v i=>by simp at i) (by rw[g];exact e _ _ l (.push _ _) rfl (dA w _));rw[g]at f;obtain⟨b,c⟩:=h.step' f.1 f.2;refine⟨_,l,rfl,rfl,b,c,?_⟩;unfold aF.at
 rw[<-h.wr.len];simp
theorem aEj{j:Obj}{s:aG}{top:TOp}(d:aP top=none)(h:MS P O K M J L S env w)(f:∀(J':aF) (w':World) (l:Loc),JLe J J'->l.loose=false->w'.heap[l.cb]?=some j->BR P O M J' w' l s){k:Sem Next} (e:k.run P w=.ok (.value (.pointer (some ⟨w.heap.size,0,none⟩))) (w.alloc j)):cK P O K top M J L S env w k (.it S.length) env (S++[s]):=by obtain⟨J',l,g,i,a,b,c⟩:=bFc h j s f;refine .mk0 d e (.inl ⟨_,rfl,?_⟩) a b (.refl _);rw[<-i];exact .it _ _ l c g
theorem aQ9{o:Oper}{t:TypeId}{x:Operand}(c:o.op=.range t x)(g:P.underlying t=some .string)(a:Act)(h:MS P O K M J L S env w){s:List UInt8}(f:VR M J L (.iv (.str s)) (a.eval x)){top:TOp}(b:aP top=none): cK P O K top M J L S env w (execOp a.eval o) (.it S.length) env (S++[.sit s 0]) :=
 aEj b h (fun _ _ _ _ d e=>.sit s 0 d e) (by simp[execOp,c,Instr.range,und g,f.str_inv])
theorem aRa{o:Oper}{t j el:TypeId}{x:Operand}(c:o.op=.range t x)(i:P.underlying t=some (.map j el))(a:Act)(h:MS P O K M J L S env w)(d:VR M J L (.iv .nilm) (a.eval x)){top:TOp}(b:aP top=none): cK P O K top M J L S env w (execOp a.eval o) (.it S.length) env (S++[.mit none 0 [] 0]):=by
 have e:a.eval x=.map none:=by generalize a.eval x=v at d;cases d.iv_inv;rfl
 exact aEj b h (fun _ _ _ _ f g=>.mitN 0 [] 0 f g) (by simp[execOp,c,Instr.range,und i,e])
theorem aRb{o:Oper}{t i el:TypeId}{x:Operand}(f:o.op=.range t x)(n:P.underlying t=some (.map i el))(a:Act)(h:MS P O K M J L S env w){j:Nat}(g:VR M J L (.map j) (a.eval x)){es:Tr_}{b:Nat} (k:S[j]?=some (.mp es b)) {top:TOp} (c:aP top=none):cK P O K top M J L S env w (execOp a.eval o) (.it S.length) env (S++[.mit (some j) b [] b]):=by
 generalize hva:a.eval x=v at g;cases g with
 |map L j l hJ hlo =>obtain⟨es',e,p,_⟩:=aA6 h.wr hJ k;exact aEj c h (fun J' w' l' d m e=>.mit j l b [] b m (d.fixed hJ hlo) hlo e) (by simp[execOp,f,Instr.range,und n,hva,cM e])
theorem aVw{x y z:TV}{u v q:Value}(f:VR M J [] x u)(g:VR M J [] y v)(e:VR M J [] z q):VR M J L (.tup [x,y,z]) (.tuple #[u,v,q]):=by
 refine .tup _ _ _ B_ (fun i a b c d=>?_);match i,c,d with
 |0,c,d=>simp at c d;subst c;subst d;exact f
 |1,c,d=>simp at c d;subst c;subst d;exact g
 |2,c,d=>simp at c d;subst c;subst d;exact e
 |i+3,c,d=>simp at c
theorem bMp{x y:TV}{u v:Value}(e:VR M J [] x u)(f:VR M J [] y v):VR M J L (.tup [x,y]) (.tuple #[u,v]):=by
 refine .tup _ _ _ B_ (fun i a b c d=>?_);match i,c,d with
 |0,c,d=>simp at c d;subst c;subst d;exact e
 |1,c,d=>simp at c d;subst c;subst d;exact f
 |i+2,c,d=>simp at c
theorem aKi{x:TV}{u:Value}(e:VR M J [] x u):VR M J L (.tup [x]) (.tuple #[u]):=by
 refine .tup _ _ _ B_ (fun i a b c d=>?_);match i,c,d with
 |0,c,d=>simp at c d;subst c;subst d;exact e
 |i+1,c,d=>simp at c
theorem aYd{o:Oper}{x:Operand}(g:o.op=.next x true)(a:Act)(h:MS P O K M J L S env w){j:Nat}(m:VR M J L (.it j) (a.eval x)){s:List UInt8}{pos:Nat}(n:S[j]?=some (.sit s pos)){top:TOp} (d:aP top=none): (pos<s.length->cK P O K top M J L S env w (execOp a.eval o) (.tup [.iv (.bool true),.iv (.int .i64 pos),.iv (.int .i32 (Utf8.decode ⟨s.toArray⟩ pos).1)]) env (S.set j (.sit s (pos+(Utf8.decode ⟨s.toArray⟩ pos).2)))) /\(¬pos<s.length->cK P O K top M J L S env w (execOp a.eval o) (.tup [.iv (.bool false)]) env S):=by
 generalize hva:a.eval x=v at m;cases m with
 |it L j l hJ hlo =>
  have i:=h.wr.blk j l _ hJ n;cases i with
  |sit s pos hl hb =>
   refine⟨fun e=>?_,fun e=>?_⟩
   .obtain⟨b,c⟩:=aEf h hJ hb (s':=.sit s (pos+(Utf8.decode ⟨s.toArray⟩ pos).2)) (fun o=>tJ h.wr hb B_ o) (fun w' k=>.sit _ _ hl k);refine .mk0 d (r:=.value (.tuple #[.bool true,.int .i64 pos,.int .i32 (Utf8.decode ⟨s.toArray⟩ pos).1])) ?_ (.inl ⟨_,rfl,aVw (.iv _ (.bool _)) (.iv _ (.int _ _)) (.iv _ (.int _ _))⟩) b c (.refl _);have f:pos<(⟨s.toArray⟩:ByteArray).size:=by rw[oS];exact e
    simp[execOp,g,hva,Instr.next,cM hb,f,fX hb,goInt]
   .refine .pure d h (v':=.tuple #[.bool false]) ?_ (aKi (.iv _ (.bool _)));have f:¬pos<(⟨s.toArray⟩:ByteArray).size:=by rw[oS];exact e
    simp[execOp,g,hva,Instr.next,cM hb,f]
theorem aHq:∀ {es:Tr_} {l:List MapEntry} (b:Nat) {y:Nat×IV×TV},ER M J es l->es.find? (·.1==b)=some y->∃z,l.find? (·.born==b)=some z/\z.born=y.1/\IR M y.2.1 z.key/\VR M J [] y.2.2 z.val
 |[],l,b,y,h,hf=>by simp at hf
 |e::es,l,b,y,h,hf=>by
  obtain⟨z,l',rfl,a,f,h3,d⟩:=h.cons_inv;simp only[List.find?_cons]at hf;split at hf;.rename_i hq;simp at hf;subst hf;exact⟨z,by simp only[List.find?_cons,a,hq],a,f,h3⟩
  .rename_i hq;obtain⟨c,g,p2⟩:=aHq b d hf;exact⟨c,by simp only[List.find?_cons,a,hq,g],p2⟩
theorem aRc{o:Oper}{x:Operand}(s:o.op=.entry x)(a:Act)(h:MS P O K M J L S env w){j:Nat}(u:VR M J L (.it j) (a.eval x)){m f e d b:Nat}{c:Tc_}{es:Tr_} (D:S[j]?=some (.mit (some m) f c e)) (A:S[m]?=some (.mp es d)) (p:c.getLast? = some b) (n:d=e) {y:Nat×IV×TV} (E:es.find? (·.1==b)=some y) {top:TOp} (k:aP top=none): cK P O K top M J L S env w (execOp a.eval o) (.tup [.iv y.2.1,y.2.2]) env S:=by
 generalize hva:a.eval x=v at u;cases u with
 |it L j l hJ hlo =>
  have q:=h.wr.blk j l _ hJ D;cases q with
  |mit m lm f c e hl hJm hlm hb =>
   obtain⟨es',r,t,_⟩:=aA6 h.wr hJm A;obtain⟨z,C,p2,p3,F⟩:=aHq b t E;refine .pure k h (v':=.tuple #[z.key,z.val]) ?_ (bMp (.iv _ p3) F);have g:c.toArray.back? = some b:=by simpa using p
   have i:es'.find? (·.born==b)=some z:=by obtain⟨G⟩:=es';simpa using C
   subst n;simp[execOp,s,hva,Instr.entry,cM hb,cM r,g,i]
theorem ER.filter{es:Tr_}:∀ {l:List MapEntry},ER M J es l->∀(p:Tj_),ER M J (es.filter fun y=>p y.1) (l.filter fun e=>p e.born):=by
 induction es with
 |nil =>intro l h p;have:l=[]:=Z_ (by simpa using h.1);subst this;exact⟨rfl,fun k x y g=>by simp at g⟩
 |cons e es ih =>
  intro l h p;obtain⟨y,l',rfl,f,j,h3,i⟩:=h.cons_inv;have:=ih i p;simp only[E4,f];split
  .refine⟨by simp[this.1],fun k a b d c=>?_⟩;cases k with
   |zero=>simp at d c;subst d;subst c;exact⟨f,j,h3⟩
   |succ k=>exact this.2 k a b (by simpa using d) (by simpa using c)
  .exact this
theorem ER.append{es es2:Tr_}{l l2:List MapEntry}(h:ER M J es l)(k:ER M J es2 l2):ER M J (es++es2) (l++l2):=by
 refine⟨by simp[h.1,k.1],fun i a b d c=>?_⟩;rw[F7]at d c;split at d;.rename_i hi;rw[K_ (by rw[h.1];exact hi)]at c;exact h.2 i a b d c
 .rename_i hi;rw[I_ (by rw[h.1];exact hi),h.1]at c;exact k.2 _ a b d c
theorem aM7:∀ {es:Tr_} {l:List MapEntry} (p:Tj_),ER M J es l->l.all (fun e=>p e.born)=es.all fun y=>p y.1
 |[],l,p,h=>by have:l=[]:=Z_ (by simpa using h.1);subst this;rfl
 |e::es,l,p,h=>by obtain⟨y,l',rfl,a,_,_,b⟩:=h.cons_inv;simp only[List.all_cons,a,aM7 p b]
theorem bFd{ts:Tr_}{l:List MapEntry}(h:ER M J ts l)(b:Bool){A:List (Option (Nat×IV×TV))}{B:List (Option MapEntry)}(e:A=(if b then [none]else [])++ts.map some)(d:B=(if b then [none]else [])++l.map some): B.length=A.length/\∀c,c<A.length->(A[c]?=some none/\B[c]?=some none)\/∃y z,A[c]?=some (some y)/\B[c]?=some (some z)/\z.born=y.1/\IR M y.2.1 z.key/\VR M J [] y.2.2 z.val:=by
 have key:∀c,c<ts.length->∃y z,(ts.map some)[c]?=some (some y)/\(l.map some)[c]?=some (some z)/\z.born=y.1/\IR M y.2.1 z.key/\VR M J [] y.2.2 z.val:=by intro c a;obtain⟨z,f,g⟩:=h.get (D_ a);exact⟨ts[c],z,by simp[a],by simp[f],g⟩
 subst e;subst d;cases b with
 |false =>refine⟨by simp[h.1],fun c a=>.inr ?_⟩;simpa using key c (by simpa using a)
 |true =>
  refine⟨by simp[h.1],fun c a=>?_⟩;cases c with
  |zero=>exact .inl ⟨rfl,rfl⟩
  |succ c =>right;simpa using key c (by simpa using a)
theorem aYe{o:Oper}{x:Operand}(Y:o.op=.next x false)(a:Act)(h:MS P O K M J L S env w){j:Nat}(hx:VR M J L (.it j) (a.eval x)){m d k i:Nat}{f:Tc_}{es:Tr_}
  (hs:S[j]?=some (.mit (some m) d f k)) (hm:S[m]?=some (.mp es i)) (hg:(!f.isEmpty&&!es.isEmpty&&es.all (fun y=>decide (y.1≥k)))=false) {g:List (Option (Nat×IV×TV))}
  (hc:g=(if((es.filter fun y=>!f.contains y.1).filter (·.1<d)).isEmpty then [none]else [])++(((es.filter fun y=>!f.contains y.1).filter (·.1<d))++((es.filter fun y=>!f.contains y.1).filter (·.1≥d))).map some) {top:TOp}
  (A:aP top=none):∃c,c<g.length/\((∃y,g[c]?=some (some y)/\cK P O K top M J L S env w (execOp a.eval o) (.tup [.iv (.bool true),.iv y.2.1,y.2.2]) env (S.set j (.mit (some m) d (f++[y.1]) i))) \/
   (g[c]?=some none/\cK P O K top M J L S env w (execOp a.eval o) (.tup [.iv (.bool false)]) env S)):=by
 generalize hva:a.eval x=v at hx
 cases hx with
 |it L j l hJ hlo =>
  have h9:=h.wr.blk j l _ hJ hs
  cases h9 with
  |mit m lm d f k hl hJm hlm hb =>
   obtain⟨es',h6,Q,_⟩:=aA6 h.wr hJm hm
   have n:=Q.filter fun b=>!f.contains b
   have t:=n.filter fun b=>decide (b<d)
   have U:=n.filter fun b=>decide (b≥d)
   have H:=t.append U
   have R:((es.filter fun y=>!f.contains y.1).filter fun y=>decide (y.1<d)).isEmpty=((es'.toList.filter fun e=>!f.contains e.born).filter fun e=>decide (e.born<d)).isEmpty:=by
    rw[Bool.eq_iff_iff]
    simp only[W6,<-H3,t.1]
   let C:Array (Option MapEntry):=(if((es'.filter fun e=>!f.toArray.contains e.born).filter fun e=>decide (e.born<d)).isEmpty then #[none]else #[]) ++
    (((es'.filter fun e=>!f.toArray.contains e.born).filter fun e=>decide (e.born<d))++((es'.filter fun e=>!f.toArray.contains e.born).filter fun e=>decide (e.born≥d))).map some
   have h2:C.toList=(if((es.filter fun y=>!f.contains y.1).filter fun y=>decide (y.1<d)).isEmpty then [none]else []) ++
     (((es'.toList.filter fun e=>!f.contains e.born).filter fun e=>decide (e.born<d))++((es'.toList.filter fun e=>!f.contains e.born).filter fun e=>decide (e.born≥d))).map some:=by
    rw[R]
    have hl:∀p:MapEntry->Bool,(es'.filter p).toList=es'.toList.filter p:=fun p=>Z1
    have W:∀(b:Bool),(if b=true then(#[none]:Array (Option MapEntry))else #[]).toList=if b=true then [none]else []:=by intro b;cases b<;>rfl
    have h5:∀a:Array MapEntry,a.isEmpty=a.toList.isEmpty:=fun a=>B_
    simp only[C,Y9,Q7,W,h5,Z1,List.contains_toArray]
   obtain⟨T,V⟩:=bFd H _ hc h2
   have u:0<g.length:=by
    rw[hc]
    split
    .simp
    .rename_i hne
     simp only[W6]at hne
     have:=N2.2 hne
     simp only[List.nil_append,L_,H_]
     omega
   have ha:(!f.toArray.isEmpty&&!es'.isEmpty&&es'.all (fun e=>decide (e.born≥k)))=false:=by
    have e1:f.toArray.isEmpty=f.isEmpty:=B_
    have e2:es'.isEmpty=es.isEmpty:=by
     have:es'.isEmpty=es'.toList.isEmpty:=B_
     rw[this,Bool.eq_iff_iff]
     simp only[W6,<-H3,Q.1]
    have e3:es'.all (fun e=>decide (e.born≥k))=es.all fun y=>decide (y.1≥k):=by
     rw[<-aM7 (fun b=>decide (b≥k)) Q]
     obtain⟨l0⟩:=es'
     simp
    rw[e1,e2,e3];exact hg
   have h8:C.size=g.length:=by rw[<-T];simp
   -- the drawn number,and the world behind the drawing
   have h4:∃c I,c<g.length/\(choose (.mapNext C.size)).run P w=.ok c I/\MS P O K M J L S env I/\Tr (cS L) M J S w M J S I/\I.heap=w.heap:=by
    by_cases hf:C.size<=1
    .exact⟨0,w,u,by simp[Question.forced,hf],h,.refl _ _ _ _ _,rfl⟩
    .obtain⟨hd,td⟩:=h.drew
     refine⟨_,w.drew,?_,by simp[Question.forced,hf];rfl,hd,td.weaken (fun _ hf=>hf.elim),rfl⟩
     simp only[Question.cut,h8]
     exact X4 _ u
   obtain⟨c,I,Z,h7,N,h0,E⟩:=h4
   have D:(Instr.next (.pointer (some ⟨l.cb,0,none⟩)) false o.type).run P w=((match C[c]? with
     |some (some e)=>(do setObj l.cb (.mapIter (some lm.cb) d (f.toArray.push e.born) i);Pure.pure (Value.tuple #[.bool true,e.key,e.val]):Sem Value)
     |some none=>Pure.pure (Value.tuple #[.bool false])
     | none => stuck "Next: no such candidate") : Sem Value).run P I := by
    simp only[Instr.next,Sem.run_bind,cM hb B_,Result.andThen_ok,cM h6 B_,ha,b_,I9]
    have q:=h7
    simp only[C]at q
    rw[q]
    rfl
   refine⟨c,Z,?_⟩
   rcases V c Z with⟨q1,q2⟩|⟨y,z,q1,q2,q3,q4,q5⟩
   .right
    have G:C[c]?=some none:=by simpa using q2
    refine⟨q1,.mk0 A (r:=.value (.tuple #[.bool false])) ?_ (.inl ⟨_,rfl,aKi (.iv _ (.bool _))⟩) N h0 (.refl _)⟩
    simp only[execOp,Y,hva,Sem.run_bind,D,G]
    rfl
   .left
    have G:C[c]?=some (some z):=by simpa using q2
    have F:I.heap[l.cb]?=some (.mapIter (some lm.cb) d f.toArray k):=by rw[E];exact hb
    obtain⟨b1,c1⟩:=aEf N hJ F (o':=.mapIter (some lm.cb) d (f.toArray.push z.born) i) (s':=.mit (some m) d (f++[y.1]) i) (fun o=>tJ N.wr F B_ o) (fun w' h1=>by
     have hp:f.toArray.push z.born=(f++[y.1]).toArray:=by simp[q3]
     rw[hp]at h1
     exact .mit m lm d _ i hl hJm hlm h1)
    refine⟨y,q1,.mk0 A (r:=.value (.tuple #[.bool true,z.key,z.val])) ?_ (.inl ⟨_,rfl,aVw (.iv _ (.bool _)) (.iv _ q4) q5⟩) b1 (h0.trans c1 (fun b hb=>.inl hb)) (.refl _)⟩
    simp only[execOp,Y,hva,Sem.run_bind,D,G,fX F B_]
    rfl
theorem aYf{o:Oper}{x:Operand}(g:o.op=.next x false)(a:Act)(h:MS P O K M J L S env w){j:Nat}(i:VR M J L (.it j) (a.eval x)){b d:Nat}{c:Tc_} (k:S[j]?=some (.mit none b c d)) {top:TOp} (e:aP top=none):cK P O K top M J L S env w (execOp a.eval o) (.tup [.iv (.bool false)]) env S:=by
 generalize hva:a.eval x=v at i;cases i with
 |it L j l hJ hlo =>
  have f:=h.wr.blk j l _ hJ k;cases f with
  |mitN b c d hl hb =>refine .pure e h (v':=.tuple #[.bool false]) ?_ (aKi (.iv _ (.bool _)));simp[execOp,g,hva,Instr.next,cM hb]
theorem bFe{o:Oper}{f:FuncId}{first cap:Array Operand}(k:o.op=.makeFunc (.func f) first cap)(a:Act)(h:MS P O K M J L S env w){xs ys:Tn_}(n:VRs M J L xs (first.map a.eval).toList)(p:VRs M J L ys (cap.map a.eval).toList) (c:(xs++ys).any cA=false) {top:TOp} (b:aP top=none):cK P O K top M J L S env w (execOp a.eval o) (.fn f xs ys) env S:=by
 have d:xs.any cA=false:=by rw[R5,M5]at c;exact c.1
 have e:ys.any cA=false:=by rw[R5,M5]at c;exact c.2
 have l:=n.frame (L':=[]) d;have m:=p.frame (L':=[]) e;refine .pure b h (v':=.func (.func f) (first.map a.eval) (cap.map a.eval)) ?_ (.fn _ _ _ _ _ _ (by simpa using l.1) (by simpa using m.1) (fun i x v j g=>l.2 i x v j (by simpa using g)) (fun i x v j g=>m.2 i x v j (by simpa using g)));simp[execOp,k,Instr.makeFunc]
inductive qD (J:aF) (S:aA) (l:Loc) (b:aG):Nat->aF->aA->Prop
 |push:qD J S l b S.length (J++[some l]) (S++[b])
 |real (i:Nat) (hj:J[i]?=some none) (hs:S[i]?=some b):qD J S l b i (J.set i (some l)) S
theorem qD.at{l:Loc}{b:aG}{i:Nat}{J':aF}(h:qD J S l b i J' S')(a:J.length=S.length):J'.at i l:=by
 cases h with
 |push=>unfold aF.at;rw[<-a];simp
 |real i hj hs=>exact gY (E_.1 hj).1
theorem qD.jle{l:Loc}{b:aG}{i:Nat}{J':aF}(h:qD J S l b i J' S'):JLe J J':=by
 cases h with
 |push=>exact .push _ _
 |real i hj hs =>
  refine⟨by simp,fun k c a=>⟨c,?_,.inl rfl⟩⟩;unfold aF.at at a |-;have:k≠i:=by rintro rfl;rw[hj]at a;simp at a
  rw[B2 A_];exact a
theorem qD.get{l:Loc}{b:aG}{i:Nat}{J':aF}(h:qD J S l b i J' S')(f:J.length=S.length){k:Nat}{d:Loc}(a:J'.at k d):(k=i/\d=l/\S'[k]?=some b)\/(k≠i/\J.at k d/\S'[k]?=S[k]?):=by
 cases h with
 |push =>
  rcases lZ a with a|⟨rfl,g⟩;.right;have j:k<J.length:=(E_.1 a).1;exact⟨by omega,a,by rw[Y_ A_]⟩
  .left;simp at g;exact⟨f,g.symm,by rw[f];simp⟩
 |real i hj hs =>
  have m:=(E_.1 hj).1;rcases zS m a with⟨rfl,rfl⟩|⟨c,e⟩;.exact .inl ⟨rfl,rfl,hs⟩
  .exact .inr ⟨c,e,rfl⟩
theorem qD.len{l:Loc}{b:aG}{i:Nat}{J':aF}(h:qD J S l b i J' S')(a:J.length=S.length):J'.length=S'.length:=by
 cases h with
 |push=>simp[a]
 |real i hj hs=>simpa using a
structure TrN (n:Nat) (own:Nat->Prop) (M:Mem) (J:aF) (S:aA) (w:World) (M':Mem) (J':aF) (S':aA) (w':World):Prop where
 os:w'.os=w.os
 tape:w'.tape=w.tape
 output:w'.output=w.output
 size:w.heap.size<=w'.heap.size
 mle:MLe M M'
 mnew:∀b o,b<w.heap.size->¬J.has b->M' b o=M b o
 jle:JLe J J'
 jnew:∀i l,J'.at i l->w.heap.size<=l.cb\/∃l0,J.at i l0/\l0.cb=l.cb
 ph:∀i:Nat,i<n->J[i]?=some none->J'[i]?=some none/\S'[i]?=S[i]?
 frame:∀b,b<w.heap.size->¬J.has b->¬own b->w'.heap[b]?=w.heap[b]?
theorem Tr.trN{own:Tm_}{M':Mem}{J':aF}{w':World}(h:Tr own M J S w M' J' S' w')(n:Nat):TrN n own M J S w M' J' S' w' :=
 ⟨h.os,h.tape,h.output,h.size,h.mle,h.mnew,h.jle,h.jnew,fun i _ a=>h.ph i a,h.frame⟩
theorem TrN.tr{own:Tm_}{M':Mem}{J':aF}{w':World}(h:TrN J.length own M J S w M' J' S' w'):Tr own M J S w M' J' S' w' :=
 ⟨h.os,h.tape,h.output,h.size,h.mle,h.mnew,h.jle,h.jnew,fun i a=>h.ph i (E_.1 a).1 a,h.frame⟩
theorem TrN.has{n:Nat}{own:Tm_}{M':Mem}{J':aF}{w':World}(h:TrN n own M J S w M' J' S' w'){b:Nat}(g:b<w.heap.size)(c:¬J.has b):¬J'.has b:=by
 rintro⟨i,l,e,rfl⟩;rcases h.jnew i l e with a|⟨d,a,f⟩;.omega
 .exact c ⟨i,d,a,f⟩
theorem TrN.trans{n:Nat}{own own':Tm_}{M' M'':Mem}{J' J'':aF}{S'':aA}{w' m:World}(h:TrN n own M J S w M' J' S' w')(k:TrN n own' M' J' S' w' M'' J'' S'' m) (s:∀b,own' b->own b\/w.heap.size<=b):TrN n own M J S w M'' J'' S'' m:=by
 refine⟨k.os.trans h.os,k.tape.trans h.tape,k.output.trans h.output,B9 h.size k.size,h.mle.trans k.mle,?_,h.jle.trans k.jle,?_,?_,?_⟩;.intro b o e j;exact(k.mnew b o (E9 e h.size) (h.has e j)).trans (h.mnew b o e j)
 .intro i l v;rcases k.jnew i l v with f|⟨r,f,t⟩;.exact .inl (B9 h.size f)
  .rcases h.jnew i r f with h3|⟨y,h3,x⟩;.exact .inl A_
   .exact .inr ⟨y,h3,x.trans t⟩
 .intro i g u;obtain⟨a,b⟩:=h.ph i g u;obtain⟨c,d⟩:=k.ph i g a;exact⟨c,d.trans b⟩
 .intro b e j p;refine(k.frame b (E9 e h.size) (h.has e j) (fun q=>?_)).trans (h.frame b e j p);rcases s b q with f|f;.exact p f
  .omega
theorem TrN.weaken{n:Nat}{own own':Tm_}{M':Mem}{J':aF}{w':World}(h:TrN n own M J S w M' J' S' w')(e:∀b,own b->own' b):TrN n own' M J S w M' J' S' w' :=
 ⟨h.os,h.tape,h.output,h.size,h.mle,h.mnew,h.jle,h.jnew,h.ph,fun b d c a=>h.frame b d c (fun f=>a (e b f))⟩
theorem WR.place(h:WR P O M J S w)(q:Obj)(l:Loc)(b:aG){i:Nat}{J':aF}(f:qD J S l b i J' S')(F:l.cb=w.heap.size)(y:BR P O M J' (w.alloc q) l b){n:Nat}(t:J=J'\/n<=i): WR P O M J' S' (w.alloc q)/\TrN n (fun _=>False) M J S w M J' S' (w.alloc q):=by
 have a:=h.len;refine⟨h.step (f.len a) (.refl _) f.jle (fun b o v D=>?_) (fun k j s d p=>?_) (fun k k' j r d A e=>?_) (fun k j d=>?_),?_⟩;.rw[dR (cT w q (by have:=h.mlt D;omega))];exact h.imm b o v D
 .rcases f.get a d with⟨rfl,rfl,x⟩|⟨m,c,x⟩;.left;rw[x]at p;simp at p;subst p;exact y
  .right;rw[x]at p;exact⟨c,p,cT w q (by have:=h.lt k j c;omega),fun _=>rfl⟩
 .rcases f.get a d with⟨rfl,rfl,_⟩|⟨m,c,_⟩<;>rcases f.get a A with⟨rfl,rfl,_⟩|⟨C,g,_⟩;.rfl
  .have:=h.lt k' r g;omega
  .have:=h.lt k j c;omega
  .exact h.inj k k' j r c g e
 .rcases f.get a d with⟨rfl,rfl,_⟩|⟨m,c,_⟩;.simp;omega
  .have:=h.lt k j c;simp;omega
 .refine⟨rfl,rfl,rfl,by simp,.refl _,fun _ _ _ _=>rfl,f.jle,fun k j d=>?_,fun k E d=>?_,fun b x _ _=>cT w q A_⟩
  .rcases f.get a d with⟨rfl,rfl,_⟩|⟨m,c,_⟩;.exact .inl A_
   .exact .inr ⟨j,c,rfl⟩
  .cases f with
   |push =>have z:=(E_.1 d).1;exact⟨by rw[Y_ z];exact d,by rw[Y_ A_]⟩
   |real i hj p =>
    have:k≠i:=by
     rintro rfl;rcases t with t|t;.have u:=gY (l':=l) (E_.1 hj).1;rw[<-t]at u;unfold aF.at at u;rw[hj]at u;simp at u
     .omega
    exact⟨by rw[B2 A_];exact d,rfl⟩
structure aRd (P:Program) (O:dH) (M:Mem) (J:aF) (w:World) (run:Result Next) (v:Nat->TV) (b:aG) (ob:Obj) (vm:Value) (l:Loc):Prop where
 run:run=.ok (.value vm) (w.alloc ob)
 cb:l.cb=w.heap.size
 lo:l.loose=false
 val:∀(L:List (Option Nat)) (J':aF) (i:Nat),J'.at i l->VR M J' L (v i) vm
 blk:∀J',JLe J J'->BR P O M J' (w.alloc ob) l b
theorem BR.newCells(h:WR P O M J S w){xs:Tn_}{cs:Array Value}(e:TypeId)(i:xs.length<=cs.size)(p:∀(k:Nat) (x:TV),xs[k]?=some x->∃u,cs[k]?=some u/\VR M J [] x u){l:Loc}(g:l.cb=w.heap.size)(j:l.d=0) {ver:Nat} (a:l.ver=ver) (b:ver≠0->ver=e+1/\cs.size=xs.length) (f:l.size=cs.size) (c:l.loose=false) {J':aF} (m:JLe J J'):BR P O M J' (w.alloc (.cells cs e)) l (.cells ver false xs):=by have:=BR.cells (P:=P) (O:=O) (M:=M) (J:=J') (w:=w.alloc (.cells cs e)) (l:=l) false xs cs e (0,0) c (by rw[g];exact dA w _) f.symm A_ (fun k x r=>by obtain⟨u,n,s⟩:=p k x r;exact⟨u,by rw[j,A7];exact n,s.mono (.refl _) m⟩) (fun o _=>by rw[g];exact World.frozen?_alloc_new w cs e o) (fun o=>by rw[g];exact h.none_at o) (fun _ q=>by rw[a]at q;exact⟨a.trans (b q).1,j,(b q).2⟩);rwa [a]at this
theorem aEk(h:WR P O M J S w){xs:Tn_}{cs:Array Value}(e:TypeId)(a:Nat)(c:a≠0->a=e+1)(g:VRs M J [] xs cs.toList){b:Result Next}(f:b=.ok (.value (.pointer (some ⟨w.heap.size,0,none⟩))) (w.alloc (.cells cs e))): ∃o j l,aRd P O M J w b (fun i=>.ptr i a 0) (.cells a false xs) o j l:=by
 obtain⟨m,p⟩:=g.ex;exact⟨_,_,{cb:=w.heap.size,d:=0,ver:=a,cap:=0,es:=0,size:=cs.size,loose:=false},f,rfl,rfl,fun L J' i n=>.ptr _ _ _ _ _ _ _ n (O_ _) (fun _=>⟨rfl,rfl⟩),
  fun J' k=>.newCells h e m p rfl rfl rfl (fun q=>⟨c q,by simpa using g.1⟩) rfl rfl k⟩
theorem yH(h:WR P O M J S w){xs:Tn_}{cs:Array Value}(e:TypeId)(c:xs.length<=cs.size)(o:∀(k:Nat) (x:TV),xs[k]?=some x->∃u,cs[k]?=some u/\VR M J [] x u){a cap es:Nat}(g:a<=cap)(p:cap*es<=cs.size) {b:Result Next} (f:b=.ok (.value (.slice (some ⟨w.heap.size,0,none⟩) a cap)) (w.alloc (.cells cs e))):∃r j l,aRd P O M J w b (fun i=>.msl i 0 0 a cap es) (.cells 0 false xs) r j l :=
 ⟨_,_,{cb:=w.heap.size,d:=0,ver:=0,cap:=0,es:=0,size:=cs.size,loose:=false},f,rfl,rfl,
  fun L J' i n=>.msl _ _ _ _ _ _ _ _ _ _ cap n (O_ _) (fun _=>⟨rfl,fun _=>rfl,O_ _,fun _=>rfl,by show 0+cap*es<=cs.size;omega⟩) g g,fun J' m=>.newCells h e c o rfl rfl rfl (fun q=>absurd rfl q) rfl rfl m⟩
theorem bMq{o:Oper}{t:TypeId}(c:o.op=.makeMap t none)(a:Act):∃f h l,aRd P O M J w ((execOp a.eval o).run P w) (fun i=>.map i) (.mp [] 0) f h l:=by
 have b:(execOp a.eval o).run P w=.ok (.value (.map (some w.heap.size))) (w.alloc (.map #[] 0)):=by simp[execOp,c,Go.Instr.makeMap]
 refine⟨_,_,{cb:=w.heap.size,d:=0,ver:=0,cap:=0,es:=0,size:=0,loose:=false},b,rfl,rfl,fun L J' i e=>.map _ _ _ e rfl,fun J' j=>?_⟩;exact .mp [] 0 #[] rfl (dA w _) rfl (fun k x y g=>by simp at g)
theorem aRd.push(h:MS P O K M J L S env w){s:Sem Next}{v:Nat->TV}{b:aG}{i:Obj}{j:Value}{l:Loc}(k:aRd P O M J w (s.run P w) v b i j l){top:TOp}(f:aP top=none): cK P O K top M J L S env w s (v S.length) env (S++[b]):=by have g:qD J S l b S.length (J++[some l]) (S++[b]):=.push;obtain⟨a,c⟩:=h.wr.place i l b g k.cb (k.blk _ g.jle) (n:=J.length) (.inr (by rw[h.wr.len];exact O_ _));obtain⟨d,e⟩:=h.step' a c.tr;exact .mk0 f k.run (.inl ⟨_,rfl,k.val L _ _ (g.at h.wr.len)⟩) d e (.refl _)
end
end Go.TM
