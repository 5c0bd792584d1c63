/- A part of the evaluator TM, and of the proof that what it computes the model does. Condition: none. -/
import Derived.Test.YtehlgnfhkidgoaaGreatDoorTmA
import Derived.MapKept
import Derived.Laws.MakeOwn
import Derived.Laws.Tables
import Derived.Laws.AppendOwn
import Derived.Laws.IdiomStrings
import Derived.WideKeyRuns
namespace Go.TM
open Go
section
variable {P:Program}{O:dE}{K:TM.bD}
variable {M:Mem}{J:aF}{L:List (Option Nat)}{S S':aA}{env env':Env}{w:World}
def At(w:World)(M:Mem)(J:aF)(b o:Nat)(xs:List TV):Prop:=∀(k:Nat) (x:TV),xs[k]?=some x->∃u,w.cell? ⟨b,o+k,none⟩=some u/\VR M J [] x u
def AtI(w:World)(M:Mem)(b o:Nat)(xs:List IV):Prop:=∀(k:Nat) (x:IV),xs[k]?=some x->∃u,w.cell? ⟨b,o+k,none⟩=some u/\IR M x u
theorem vV{n k:Nat}{α:Type}(f:Nat->α){u:α}(h:((List.range n).map f)[k]?=some u):k<n/\u=f k:=by
 simp only[l_,G_]at h;obtain⟨k',a,rfl⟩:=h;have b:k<n:=by
  rcases D2 k n with c|c;.exact c
  .rw[B7 (by simpa using c)]at a;simp at a
 rw[E8 b]at a;simp at a;subst a;exact⟨b,rfl⟩
theorem At.vals{b o:Nat}{xs:Tn_}(h:At w M J b o xs):∃vs,VRs M J [] xs vs/\∀(i:Nat) (v:Value),vs[i]?=some v->w.cell? ⟨b,o+i,none⟩=some v:=by
 refine⟨(List.range xs.length).map fun k=>(w.cell? ⟨b,o+k,none⟩).getD Go.undef,⟨by simp,fun i x v f c=>?_⟩,fun i v c=>?_⟩;.obtain⟨d,rfl⟩:=vV _ c;obtain⟨u,a,e⟩:=h i x f;rw[a];exact e
 .obtain⟨d,rfl⟩:=vV _ c;obtain⟨u,a,e⟩:=h i _ (D_ d);rw[a];rfl
theorem AtI.at{b o:Nat}{xs:Tq_}(h:AtI w M b o xs):At w M J b o (xs.map .iv):=by intro k x c;simp only[l_,G_]at c;obtain⟨a,d,rfl⟩:=c;obtain⟨u,e,f⟩:=h k a d;exact⟨u,e,.iv _ f⟩
theorem yC{α:Type}{es:Nat}:∀ {l:List (List α)},(∀c∈l,c.length=es)->∀ {k:Nat} {x:α},(bE l)[k]?=some x->∃(i:Nat) (c:List α) (j:Nat),l[i]?=some c/\c[j]?=some x/\k=i*es+j
 |[],_,k,x,h=>by simp[bE]at h
 |a::r,hl,k,x,h=>by
  simp only[bE]at h;have f:=hl a B_;rw[F0]at h;split at h;.exact⟨0,a,k,rfl,h,by simp⟩
  .rename_i hk;obtain⟨i,c,j,b,d,g⟩:=yC (fun c e=>hl c (by simp[e])) h;exact⟨i+1,c,j,by simpa using b,d,by rw[D8];omega⟩
theorem dD{α:Type}{es:Nat}:∀ {l:List (List α)},(∀c∈l,c.length=es)->(bE l).length=l.length*es
 |[],_=>by simp[bE]
 |a::r,hl=>by simp only[bE,H_,List.length_cons];rw[dD (fun c b=>hl c (by simp[b])),hl a B_,D8];omega
theorem oZ{α:Type}(es:Nat):∀(n:Nat) (cs:List α),cs.length=n*es->bE (cN es n cs)=cs
 |0,cs,h=>by simp at h;subst h;rfl
 |n+1,cs,h=>by simp only[cN,bE];rw[oZ es n (cs.drop es) (by simp;rw[D8]at h;omega)];simp
theorem pA{α:Type}:∀(a b:List (List α)),bE (a++b)=bE a++bE b
 |[],b=>rfl
 |x::a,b=>by simp[bE,pA a b]
theorem IR.sl_at(s:∀b o v,M b o=some v->w.cell? ⟨b,o,none⟩=some v){t:Tag}{l:Tp_}{v:Value}(h:IR M (.sl t l) v):(v=.slice none 0 0/\l=[]/\t=.nil) \/(∃b o c es,v=.slice (some ⟨b,o,none⟩) l.length c/\l.length<=c/\(∀c∈l,c.length=es)/\AtI w M b o (bE l)/\t≠.nil)\/∃a,v=.slice (some a) 0 0/\l=[]/\t≠.nil:=by
 rcases h.sl_any with⟨rfl,rfl,rfl⟩|⟨b,off,cap,es,vals,rfl,d,e,f,g,r,m⟩|⟨q,rfl,rfl,d⟩;case inr.inr=>exact .inr (.inr ⟨q,rfl,rfl,d⟩)
 .exact .inl ⟨rfl,rfl,rfl⟩
 .refine .inr (.inl ⟨b,off,cap,es,rfl,f,e,fun k x u=>?_,d⟩);obtain⟨i,c,j,n,p,y⟩:=yC e u;refine⟨_,s _ _ _ ?_,m i c j x n p⟩;rw[y,<-F7];exact r i c j x n p
theorem qL{x:TV}{a:IV}{v:Value}(h:oV x=some a)(d:VR M J L x v):IR M a v:=by
 unfold oV at h;split at h;.simp at h;subst h;exact d.iv_inv
 .simp at h;subst h;cases d with
  |tsl L i es l b o c h hl d ha hr=>exact hr
 .simp at h
theorem iO:∀ {xs:Tn_} {l:Tq_},toIVs xs=some l->l.length=xs.length/\∀(i:Nat) (a:IV),l[i]?=some a->∃x,xs[i]?=some x/\oV x=some a
 |[],l,h=>by simp[toIVs]at h;subst h;exact⟨rfl,fun i a h=>by simp at h⟩
 |x::r,l,h=>by
  simp only[toIVs]at h;split at h
  .rename_i a l' h1 h2;simp at h;subst h;obtain⟨e,d⟩:=iO h2;refine⟨by simp[e],fun i b c=>?_⟩;cases i with
   |zero=>simp at c;subst c;exact⟨x,rfl,h1⟩
   |succ i=>simpa using d i b (by simpa using c)
  .simp at h
theorem yD{x:TV}{a:IV}{v:Value}(h:lK x=some a)(c:VR M J L x v):IR M a v:=by
 unfold lK at h;split at h
 .simp only[G_]at h;obtain⟨l,g,rfl⟩:=h;obtain⟨k,m⟩:=iO g;cases c with
  |agg L cs vs hs c =>refine .agg _ _ (by rw[hs,k]) fun i b u f j=>?_;obtain⟨x,e,d⟩:=m i b f;exact qL d (c i x u e j)
 .exact qL h c
theorem bE8{b o:Nat}{xs:Tn_}{l:Tq_}(h:toIVs xs=some l)(d:At w M J b o xs):AtI w M b o l:=by intro k a g;obtain⟨x,e,c⟩:=(iO h).2 k a g;obtain⟨u,f,i⟩:=d k x e;exact⟨u,f,qL c i⟩
theorem aQ0(h:MS P O K M J L S env w){i ver off f cap es:Nat}{v:Value}(A:VR M J L (.msl i ver off f cap es) v){n:Nat}(C:n<=cap):∃b o c,v=.slice (some ⟨b,o,none⟩) f c/\f<=cap /\(∀z cs xs,S[i]?=some (.cells ver z cs)->sub cs off (n*es)=some xs->cap<=c/\At w M J b o xs)/\∀cs xs,S[i]?=some (.frz ver cs)->sub cs off (n*es)=some xs->cap<=c/\AtI w M b o xs:=by
 cases A with
 |msl L i ver off f cap es l b o c hJ hv ha hl hlc =>
  refine⟨b,o,c,rfl,hl,fun z cs xs m d=>?_,fun cs xs m d=>?_⟩
  .have j:=h.wr.blk i l _ hJ m;cases j with
   |cells loose cs cs' e fz hlo hb hsz hfit hvals hfz hm =>
    obtain⟨rfl,t,y,_,_⟩:=ha rfl;refine⟨y,fun k x g=>?_⟩;have a:=(iH d).2.2;have q:=(E_.1 g).1;have p:n≠0:=by rintro rfl;simp at a;subst a;simp at g
    obtain⟨u,r,s⟩:=hvals _ _ (vA d g);refine⟨u,?_,s⟩;rw[dV hb,t A_,F7];exact r
  .have j:=h.wr.blk i l _ hJ m;cases j with
   |frz cs hvals =>
    obtain⟨rfl,t,y,_,_⟩:=ha rfl;refine⟨y,fun k x g=>?_⟩;have a:=(iH d).2.2;have q:=(E_.1 g).1;have p:n≠0:=by rintro rfl;simp at a;subst a;simp at g
    obtain⟨u,r,s⟩:=hvals _ _ (vA d g);refine⟨u,h.wr.imm _ _ _ ?_,s⟩;rw[t A_,F7];exact r
theorem aMz(h:MS P O K M J L S env w){x:TV}{v:Value}(f:VR M J L x v){xs:Tn_}(a:dS S x=some xs): (∃s:List UInt8,v=.string ⟨s.toArray⟩/\xs=s.map (fun b=>.iv (.int .u8 b.toNat))/\lenOf S x=some s.length)\/(∃p,v=.slice p 0 0/\xs=[]/\lenOf S x=some 0) \/∃b o d c,v=.slice (some ⟨b,o,none⟩) d c/\At w M J b o xs/\lenOf S x=some d/\d<=c:=by
 unfold dS at a;split at a
 .simp at a;subst a;rcases f.iv_inv.sl_at h.wr.imm with⟨rfl,rfl,_⟩|⟨b,o,c,es,rfl,g,m,j,_⟩|⟨q,rfl,rfl,_⟩;case inr.inr=>exact .inr (.inl ⟨some q,rfl,rfl,rfl⟩)
  .exact .inr (.inl ⟨none,rfl,rfl,rfl⟩)
  .exact .inr (.inr ⟨b,o,_,c,rfl,j.at,rfl,g⟩)
 .simp at a;subst a;cases f with
  |tsl L i es l b o c hJ hl hv ha hr =>
   rcases hr.sl_at h.wr.imm with⟨e,_,_⟩|⟨y,o',c',es',e,g,m,j,_⟩|⟨q,e,t,_⟩;case inr.inr=>subst t;simp at e;obtain⟨rfl,rfl⟩:=e;exact .inr (.inl ⟨_,rfl,rfl,rfl⟩)
   .simp at e
   .simp at e;obtain⟨⟨rfl,rfl⟩,rfl⟩:=e;exact .inr (.inr ⟨b,o,_,c,rfl,j.at,rfl,g⟩)
 .rename_i s;simp at a;subst a;exact .inl ⟨s,f.str_inv,rfl,rfl⟩
 .rename_i i ver off d cap es;obtain⟨b,o,c,rfl,u,g,m⟩:=aQ0 (n:=d) h f (by cases f;assumption);split at a
  .rename_i v' lo cs hs;split at a;.rename_i hvv;subst hvv;obtain⟨j,k⟩:=g lo cs xs hs a;exact .inr (.inr ⟨b,o,d,c,rfl,k,rfl,by omega⟩)
   .simp at a
  .rename_i v' cs hs;split at a;.rename_i hvv;subst hvv;simp only[G_]at a;obtain⟨ys,r,rfl⟩:=a;obtain⟨j,k⟩:=m cs ys hs r;exact .inr (.inr ⟨b,o,d,c,rfl,k.at,rfl,by omega⟩)
   .simp at a
  .simp at a
 .simp at a
theorem fP(h:MS P O K M J L S env w){x:TV}{v:Value}(a:VR M J L x v){xs:Tn_}(y:dS S x=some xs){m:Nat}(g:lenOf S x=some m){es:Nat}(p:xs.length=m*es){n:Nat}(C:n<=m): (Builtin.lenOf v).run P w=.ok m w/\∃vs,VRs M J [] (xs.take (n*es)) vs/\(Builtin.firstCells es n v).run P w=.ok vs.toArray w:=by
 rcases aMz h a y with⟨s,rfl,rfl,l⟩|⟨E,rfl,rfl,l⟩|⟨b,o,e,c,rfl,r,l,A⟩
 .obtain rfl:s.length=m:=by rw[l]at g;simpa using g
  simp at p;refine⟨by simp[Builtin.lenOf,oX],(s.take n).map (fun b=>Value.int .u8 b.toNat),⟨?_,?_⟩,?_⟩
  .have:n*es=n\/(n=0):=by
    rcases U4 s.length with f|f;.exact .inr A_
    .left;have:es=1:=by have:s.length*1=s.length*es:=A_;exact(Nat.eq_of_mul_eq_mul_left f this).symm
     subst this;omega
   rcases this with f|f;.rw[f];simp
   .subst f;simp
  .intro i x u a k;simp only[D6,l_]at a k;split at a
   .split at k;.simp only[G_]at a k;obtain⟨b,z,rfl⟩:=a;obtain⟨F,d,rfl⟩:=k;rw[z]at d;simp at d;subst d;exact .iv _ (.int _ _)
    .simp at k
   .simp at a
  .simp only[Builtin.firstCells,Sem.run_pure];congr 1;have:(⟨s.toArray⟩:ByteArray).extract 0 n=⟨(s.take n).toArray⟩:=by have:=aD6 s 0 n;simpa using this
   rw[this];apply M5;simp
 .obtain rfl:0=m:=by rw[l]at g;simpa using g
  obtain rfl:n=0:=A_;refine⟨by simp[Builtin.lenOf],[],?_,by cases E<;>simp[Builtin.firstCells,loadCells,loadCellsFrom]⟩;simpa using VRs.nil
 .obtain rfl:e=m:=by rw[l]at g;simpa using g
  obtain⟨vs,t,D⟩:=r.vals;refine⟨by simp[Builtin.lenOf],vs.take (n*es),t.take _,?_⟩;refine run_firstCells_some (P:=P) w es n ⟨b,o,none⟩ e c (vs.take (n*es)) ?_ fun j u q=>?_;.rw[J7,t.1,p];have:n*es<=e*es:=D4 _ C;omega
  .rw[jB];rw[D6]at q;split at q;.exact D j u q
   .simp at q
theorem aA7(h:MS P O K M J L S env w){x:TV}{v:Value}(q:VR M J L x v){l:Tp_}(a:cH S x=some l):(∃p,v=.slice p 0 0/\l=[]) \/∃b o c es,v=.slice (some ⟨b,o,none⟩) l.length c/\l.length<=c/\(∀c∈l,c.length=es)/\AtI w M b o (bE l):=by
 unfold cH at a;split at a
 .simp at a;subst a;rcases q.iv_inv.sl_at h.wr.imm with⟨rfl,rfl,_⟩|⟨b,o,c,es,rfl,j,k,m,_⟩|⟨s,rfl,rfl,_⟩;case inr.inr=>exact .inl ⟨_,rfl,rfl⟩
  .exact .inl ⟨_,rfl,rfl⟩
  .exact .inr ⟨b,o,c,es,rfl,j,k,m⟩
 .simp at a;subst a;cases q with
  |tsl L i es l b o c hJ hl hv ha hr =>
   rcases hr.sl_at h.wr.imm with⟨f,_,_⟩|⟨y,o',c',es',f,j,k,m,_⟩|⟨s,f,t,_⟩;case inr.inr=>subst t;simp at f;obtain⟨rfl,rfl⟩:=f;exact .inl ⟨_,rfl,rfl⟩
   .simp at f
   .simp at f;obtain⟨⟨rfl,rfl⟩,rfl⟩:=f;exact .inr ⟨b,o,c,es',rfl,j,k,m⟩
 .rename_i i ver off len cap es;obtain⟨b,o,c,rfl,u,j,k⟩:=aQ0 (n:=len) h q (by cases q;assumption);split at a
  .rename_i v' lo cs hs;split at a;.simp at a
   .rename_i d;have d:v'=ver:=A_;subst d;split at a
    .rename_i xs hsub;simp only[G_]at a;obtain⟨ys,g,rfl⟩:=a;obtain⟨m,r⟩:=j lo cs xs hs hsub;have e:ys.length=len*es:=by rw[(iO g).1,(iH hsub).2.2]
     refine .inr ⟨b,o,c,es,by rw[gA],by rw[gA];omega,rM es len ys A_,?_⟩;rw[oZ es len ys e];exact bE8 g r
    .simp at a
  .rename_i v' cs hs;split at a;.simp at a
   .rename_i d;have d:v'=ver:=A_;subst d;simp only[G_]at a;obtain⟨ys,g,rfl⟩:=a;obtain⟨m,r⟩:=k cs ys hs g;have e:ys.length=len*es:=(iH g).2.2;refine .inr ⟨b,o,c,es,by rw[gA],by rw[gA];omega,rM es len ys A_,?_⟩;rw[oZ es len ys e];exact r
  .simp at a
 .simp at a
theorem bE9{i:Nat}{l:Loc}(h:WR P O M J S w)(c:J.at i l){es:Tr_}{a:Nat}(b:S[i]?=some (.mp es a)):∃es',w.heap[l.cb]?=some (.map es' a)/\es'.size=es.length /\(∀(k:Nat) (x:Nat×IV×TV) (y:MapEntry),es[k]?=some x->es'[k]?=some y->y.born=x.1/\IR M x.2.1 y.key/\VR M J [] x.2.2 y.val)/\l.loose=false:=by
 have:=h.blk i l _ c b;cases this with
 |mp es a es' c hb b hv=>exact⟨es',hb,b,hv,c⟩
theorem cL{r:Nat}{a:Obj}(h:w.heap[r]?=some a)(b:∀c e f,a≠.cells c e f):(getObj r).run P w=.ok a w:=by cases a<;>simp_all[getObj,Sem.run]
theorem bMu(h:MS P O K M J L S env w){x:TV}{v:Value}(g:VR M J L x v){n:Nat}(a:lenOf S x=some n){t ty:TypeId} (d:match zS x with | .str=>P.underlying t=some .string | .sl=>∃e,P.underlying t=some (.slice e) | .mp=>∃k e,P.underlying t=some (.map k e)):(Builtin.len_ #[t] ty #[v]).run P w=.ok (.int .i64 n) w:=by
 unfold lenOf at a;split at a;.simp at a;subst a;simp only[zS]at d;rw[g.str_inv];simp[Builtin.len_,und d,goInt,oX]
 .simp at a;subst a;simp only[zS]at d;obtain⟨e,f⟩:=d;rcases g.iv_inv.sl_at h.wr.imm with⟨rfl,rfl,_⟩|⟨b,o,c,es,rfl,_⟩|⟨p,rfl,rfl,_⟩<;>simp[Builtin.len_,und f,goInt]
 .simp at a;subst a;simp only[zS]at d;obtain⟨e,f⟩:=d;cases g with
  |tsl L i es l b o c hJ hl hv ha hr=>simp[Builtin.len_,und f,goInt]
 .simp at a;subst a;simp only[zS]at d;obtain⟨e,f⟩:=d;cases g with
  |msl L i ver off len cap es l b o c hJ hv ha hl hlc=>simp[Builtin.len_,und f,goInt]
 .simp at a;subst a;simp only[zS]at d;obtain⟨k,e,f⟩:=d;cases g.iv_inv
  simp[Builtin.len_,und f,goInt]
 .split at a
  .rename_i es cl hs;simp at a;subst a;simp only[zS]at d;obtain⟨k,e,f⟩:=d;cases g with
   |map L i l hJ hlo =>obtain⟨es',m,j,_⟩:=bE9 h.wr hJ hs;simp[Builtin.len_,und f,goInt,cL m,j]
  .simp at a
 .simp at a
theorem bMv{x:TV}{v:Value}(g:VR M J L x v){n:Nat}(d:aA0 x=some n){t ty e:TypeId}(f:P.underlying t=some (.slice e)):(Builtin.cap_ #[t] ty #[v]).run P w=.ok (.int .i64 n) w:=by
 unfold aA0 at d;split at d
 .simp at d;subst d;rcases g.iv_inv.sl_any with⟨_,rfl,rfl⟩|⟨b,off,cap,es,vals,rfl,a,_⟩|⟨i,rfl,rfl,a⟩;.simp[Builtin.cap_,und f,goInt]
  .exact absurd rfl a
  .exact absurd rfl a
 .simp at d;subst d;rcases g.iv_inv.sl_any with⟨j,_⟩|⟨b,off,cap,es,vals,rfl,a,k,h,c,_⟩|⟨i,rfl,rfl,a⟩;.simp at j
  .simp[Builtin.cap_,und f,goInt,c rfl]
  .simp[Builtin.cap_,und f,goInt]
 .simp at d
theorem wU(d:Bool):∀ {xs:Tn_} {vs:List Value} {a:IV} {v:Value} {r:IV},minmax d a xs=some r->IR M a v->VRs M J L xs vs ->∃u,(vs.foldlM (if d then Builtin.max2 else Builtin.min2) v).run P w=.ok u w/\IR M r u
 |[],vs,a,v,r,h,ha,hv=>by rw[hv.nil_inv];simp[minmax]at h;subst h;exact⟨v,by simp,ha⟩
 |x::xs,vs,a,v,r,h,ha,hv=>by
  obtain⟨u,us,rfl,e,g⟩:=hv.cons_inv;cases x with
  |iv b =>
   simp only[minmax]at h;split at h
   .rename_i c hc;unfold min2 at hc;split at hc
    .split at hc
     .rename_i hk;subst hk;simp at hc;subst hc;cases ha
      cases e.iv_inv
      obtain⟨z,i,f⟩:=wU d h (.int _ _) g;refine⟨z,?_,f⟩;rw[<-i];cases d<;>simp[Builtin.min2,Builtin.max2]
     .simp at hc
    .simp at hc
   .simp at h
  |_=>simp[minmax]at h
theorem aM0{o:Oper}{t:TypeId}{x:Operand}(i:o.op=.load t x){n:Nat}{k:Bool}(j:isAgg? P t=some k)(s:sizeOf? P t=some n)(a:Act)(h:MS P O K M J L S env w){e r:TV}(y:VR M J L e (a.eval x)) {cs:Tn_} (l:bQ env S e (if k then n else 1)=some cs) (f:gJ k cs=some r) {top:TOp} (d:aP top=none):cJ P O K top M J L S env w (execOp a.eval o) r env S:=by
 obtain⟨b,off,vs,q,g,m,p⟩:=xZ h l y;cases k with
 |true =>simp[gJ]at f;subst f;simp only[N6]at m l;refine .pure d h (v':=.agg vs.toArray) ?_ (xY g);have:=oF (P:=P) b off vs p;rw[m]at this;simp[execOp,i,q,Go.Instr.loadAt,Go.Instr.sureAddr,loadVar,isAgg?_run j,run_size? s,this]
 |false =>
  simp only[gJ,Y_,I5]at f m l;split at f;.rename_i c;simp at f;subst f;obtain⟨u,us,rfl,z,A⟩:=g.cons_inv;refine .pure d h (v':=u) ?_ z.ofNil;have:=p 0 u rfl;simp at this;simp[execOp,i,q,Go.Instr.loadAt,Go.Instr.sureAddr,loadVar,isAgg?_run j,run_load,this]
  .simp at f
theorem yE:∀ {l:Tp_} {b:List UInt8},oW l=some b->∃a:List Int,bE l=a.map (IV.int .u8)/\b=a.map (fun n=>UInt8.ofNat n.toNat)/\a.length=l.length
 |[],b,h=>by simp[oW]at h;subst h;exact⟨[],rfl,rfl,rfl⟩
 |c::r,b,h=>by
  simp only[oW]at h;split at h
  .rename_i b1 l1 h1 h2;simp at h;subst h;obtain⟨a,d,e2,e3⟩:=yE h2;unfold bE2 at h1;split at h1;.rename_i n;simp at h1;subst h1;exact⟨n::a,by simp[bE,d],by simp[e2],by simp[e3]⟩
   .simp at h1
  .simp at h
theorem aD7:∀(a:Ta_) (acc:List UInt8),(a.foldl (fun r n=>r.push (UInt8.ofNat n.toNat)) (⟨acc.toArray⟩:ByteArray))=⟨(acc++a.map (fun n=>UInt8.ofNat n.toNat)).toArray⟩
 |[],acc=>B_
 |n::a,acc=>by
  simp only[List.foldl_cons];have:(⟨acc.toArray⟩:ByteArray).push (UInt8.ofNat n.toNat)=⟨(acc++[UInt8.ofNat n.toNat]).toArray⟩:=by apply Z6;simp
  rw[this,aD7 a];simp
theorem aKb{o:Oper}{s d e:TypeId}{x:Operand}(m:o.op=.convert s d x)(z:P.underlying s=some (.slice e))(D:P.underlying d=some .string)(y:P.underlying e=some (.int .u8))(a:Act)(h:MS P O K M J L S env w) {ex:TV} (E:VR M J L ex (a.eval x)) {l:Tp_} (N:cH S ex=some l) {b:List UInt8} (A:oW l=some b) {top:TOp} (g:aP top=none): cJ P O K top M J L S env w (execOp a.eval o) (.iv (.str b)) env S:=by
 rcases aA7 h E N with⟨T,t,rfl⟩|⟨k,off,c,es,t,G,H,C⟩
 .simp[oW]at A;subst A;refine .pure g h (v':=.string ⟨([]:List UInt8).toArray⟩) ?_ (.iv _ (.str _));cases T with
  |none=>simp only[execOp,m,t,Sem.run_bind,run_convert_bytes_string w s d e none 0 0 z y D];rfl
  |some a0=>simp only[execOp,m,t,Sem.run_bind,run_convert_bytes_string w s d e (some a0) 0 0 z y D];rfl
 .obtain⟨r,Q,rfl,e3⟩:=yE A;refine .pure g h (v':=.string _) ?_ (.iv _ (.str _));have f:(loadCells ⟨k,off,none⟩ l.length).run P w=.ok (r.map (Value.int .u8)).toArray w:=by
   have:=oF (P:=P) (w:=w) k off (r.map (Value.int .u8)) (fun i v q=>by
    simp only[l_,G_]at q;obtain⟨n,I,rfl⟩:=q;obtain⟨u,F,R⟩:=C i (.int .u8 n) (by rw[Q];simp[I]);cases R
    exact F)
   simpa[e3] using this
  have:=run_bytesToString (P:=P) w ⟨k,off,none⟩ l.length c r f;have j:=aD7 r [];simp only[List.nil_append]at j;have p:(⟨([]:List UInt8).toArray⟩:ByteArray)=ByteArray.empty:=rfl;rw[p]at j;rw[j]at this;simp only[execOp,m,t,Sem.run_bind,run_convert_bytes_string w s d e _ _ _ z y D,this];rfl
def bMw(P:Program)(t:TypeId):SK->Prop
 |.str=>P.underlying t=some .string
 |.sl n=>∃el,P.underlying t=some (.slice el)/\sizeOf? P el=some n
 |.arr n k=>(∃el,P.underlying t=some (.array n el)/\sizeOf? P el=some k)\/∃a el,P.underlying t=some (.pointer a)/\P.underlying a=some (.array n el)/\sizeOf? P el=some k
theorem vW{t:TypeId}{n k:Nat}(p:(∃el,P.underlying t=some (.array n el)/\sizeOf? P el=some k)\/∃a el,P.underlying t=some (.pointer a)/\P.underlying a=some (.array n el)/\sizeOf? P el=some k) {b o l h m:Nat} {lv i g:Option Value} (f:(Instr.sliceBounds false n n lv i g).run P w=.ok (l,h,m) w): (Instr.sliceAt t (.pointer (some ⟨b,o,none⟩)) lv i g).run P w=.ok (.slice (some ⟨b,if m=l then o else o+l*k,none⟩) (h-l) (m-l)) w:=by
 have c:(if m=l then(⟨b,o,none⟩:Addr)else⟨b,o+l*k,none⟩)=⟨b,if m=l then o else o+l*k,none⟩:=by split<;>rfl
 rcases p with⟨el,d,e⟩|⟨a,el,d,e,j⟩;.simp[Instr.sliceAt,und d,Instr.sureAddr,f,run_size? e,jB,c]
 .simp[Instr.sliceAt,und d,Instr.slice,asAddr,und e,f,run_size? j,jB,c]
theorem bFa(h:WR P O M J S w){b v:Nat}{l:Loc}(c:J.at b l)(a:rZ S b v=true):v=l.ver:=by
 unfold rZ at a;split at a
 .rename_i v' lo cs hs;have:=h.blk b l _ c hs;cases this
  exact(by simpa using a:l.ver=v).symm
 .rename_i v' cs hs;have:=h.blk b l _ c hs;cases this
  exact(by simpa using a:l.ver=v).symm
 .simp at a
theorem bFb(h:MS P O K M J L S env w){t:TypeId}{k:SK}(f:bMw P t k){x r:TV}{v:Value}(g:VR M J L x v){lo hi z:Option Int}(d:fA S k x lo hi z=some r){lv hv mv:Option Value}(I:OI lo lv)(Q:OI hi hv) (F:OI z mv):∃u,(Instr.sliceAt t v lv hv mv).run P w=.ok u w/\VR M J L r u:=by
 have G:∀ {el:TypeId} (_:P.underlying t=some (.slice el)) (v:Value),(Instr.sliceAt t v lv hv mv).run P w=(Instr.slice t v lv hv mv).run P w:=by intro el he v;simp[Instr.sliceAt,und he]
 unfold fA at d;split at d
 .rename_i s;simp only[bMw]at f;split at d;.simp at d
  .split at d
   .rename_i a b m E;simp at d;subst d;obtain⟨p,_⟩:=fZ (P:=P) (w:=w) (isS:=false) E (L_ _) I Q F;have h0:mv=none:=by unfold OI at F;split at F<;>simp_all
    subst h0;simp at p;refine⟨.string ⟨((s.drop a).take (b-a)).toArray⟩,?_,.iv _ (.str _)⟩;rw[g.str_inv];simp[Instr.sliceAt,und f,Instr.slice,oX,p,aD6]
   .simp at d
 .rename_i es tg l;obtain⟨el,f,N⟩:=f;split at d;.rename_i hf;simp only[G_]at d;obtain⟨r',D,rfl⟩:=d;obtain⟨u,p,e2⟩:=aA6 (P:=P) (w:=w) g.iv_inv hf D f N I Q F;exact⟨u,by rw[G f];exact p,.iv _ e2⟩
  .simp at d
 .rename_i es i l n;obtain⟨el,f,N⟩:=f;split at d
  .rename_i H;obtain⟨rfl,rfl,rfl⟩:=H;simp at d;subst d;cases g with
   |rsv L i es n loc b o c hJ hl hv' ha H D =>
    have E:fO (l.length+n) c none (some (l.length:Int)) none=some (0,l.length,c):=by have:(l.length:Int)<=c:=A_;simp[fO,qI,this]
    obtain⟨p,_⟩:=fZ (P:=P) (w:=w) (isS:=true) E (L_ _) I Q F;simp at p;refine⟨.slice (some ⟨b,o,none⟩) l.length c,?_,.tsl _ _ _ loc b o c hJ hl hv' ha D⟩;rw[G f];simp[Instr.slice,und f,p,run_size? N,jB]
  .simp at d
 .rename_i es i l;obtain⟨el,f,N⟩:=f;split at d
  .rename_i hf;simp only[G_]at d;obtain⟨r',D,rfl⟩:=d;cases g with
   |tsl L i es l b o c hJ hl hv' ha hrr =>obtain⟨u,p,e2⟩:=aA6 (P:=P) (w:=w) hrr hf D f N I Q F;exact⟨u,by rw[G f];exact p,.iv _ e2⟩
  .simp at d
 .rename_i es b0 v0 off len cap e;obtain⟨el,f,N⟩:=f;split at d;.simp at d
  rename_i C;rw[G6]at C;obtain⟨C,y⟩:=C;have C:e=es:=A_;subst C;have y:rZ S b0 v0=true:=by simpa using y
  split at d
  .rename_i l h' m E;simp at d;subst d;cases g with
   |msl L i ver off len cap es loc b o c hJ hv' ha hl hlc =>
    rw[G f];obtain⟨a1,a2,a3,a4,a5⟩:=ha (bFa h.wr hJ y);obtain⟨p,e2,e3,e4,R,e6⟩:=fZ (P:=P) (w:=w) (isS:=true) E a3 I Q F;have Z:=R (.inr hl);refine⟨.slice (some ⟨b,if(if z=none then c else m)=l then o else o+l*e,none⟩) (h'-l) ((if z=none then c else m)-l),?_,.msl _ _ _ _ _ _ _ loc b _ _ hJ hv' (fun hv=>⟨a1,fun h9=>?_,?_,fun W=>?_,?_⟩) A_ ?_⟩;.simp only[Instr.slice,Sem.run_bind,und f,Result.andThen_ok,p,run_size? N];simp only[Sem.run_pure,Option.map_some,jB];generalize (if z=none then c else m)=q;split<;>rfl
    .have T:m≠l:=A_;have h5:cap≠0:=A_;have A:(if z=none then c else m)≠l:=by
      split;.rename_i hx';have:=e3 hx';omega
      .exact T
     rw[I_ A,I_ T,a2 h5];omega
    .split;.rename_i hx';have:=e3 hx';omega
     .exact L_ _
    .split;.rename_i hx';have:=e3 hx';have:=a4 W;omega
     .rfl
    .have Y:(if z=none then c else m)<=c:=by split<;>omega
     have V:l<=(if z=none then c else m):=by
      split;.rename_i hx';have:=e3 hx';omega
      .omega
     generalize (if z=none then c else m)=q at Y V;have h4:q*e<=c*e:=D4 _ Y;split;.rename_i hq;subst hq;simp;omega
     .have:l*e+(q-l)*e=q*e:=by rw[<-D8];congr 1;omega
      omega
    .split;.rename_i hx';have:=e3 hx';omega
     .omega
  .simp at d
 .rename_i n e;simp only[bMw]at f;split at d
  .rename_i b0 v0 off;split at d
   .rename_i v' lo' cs hs;split at d
    .rename_i H;obtain⟨rfl,h8⟩:=H;split at d
     .rename_i l h' m E;simp at d;subst d;cases g with
      |ptr L i ver off loc b o hJ hv' ha =>
       have h7:=h.wr.blk b0 loc _ hJ hs;cases h7 with
       |cells loose cs cs' ee fz W hbb hsz hfit' hvals hfz hm =>
        obtain⟨rfl,rfl⟩:=ha rfl;obtain⟨p,e2,e3,e4,R,e6⟩:=fZ (P:=P) (w:=w) (isS:=false) E (L_ _) I Q F;have A:(if z=none then n else m)=m:=by
         split;.rename_i hx';exact(e3 hx').symm
         .rfl
        rw[A]at p;have Z:=R (.inr (L_ _));refine⟨_,vW f p,.msl _ _ _ _ _ _ _ loc _ _ _ hJ hv' (fun _=>⟨rfl,fun _=>by split<;>omega,L_ _,fun _=>rfl,?_⟩) A_ A_⟩;have h4:m*e<=n*e:=D4 _ e2;split;.rename_i hq;subst hq;simp;omega
        .have:l*e+(m-l)*e=m*e:=by rw[<-D8];congr 1;omega
         omega
     .simp at d
    .simp at d
   .simp at d
  .rename_i cs;split at d;.simp at d
   rename_i hlen;split at d
   .rename_i l h' m E;simp at d;subst d;obtain⟨p,e2,e3,e4,R,e6⟩:=fZ (P:=P) (w:=w) (isS:=false) E (L_ _) I Q F;have A:(if z=none then n else m)=m:=by
     split;.rename_i hx';exact(e3 hx').symm
     .rfl
    rw[A]at p;have Z:=R (.inr (L_ _));have h6:=g.iv_inv;cases h6 with
    |cp cs b off vals hm hvv =>
     refine⟨_,vW f p,.iv _ ?_⟩;have U:=rM e n cs A_;have V:=gA e n cs;refine aCm (es:=e) (es':=e) (off:=off) (vals:=fun i j=>vals (i*e+j)) U (bMt U) (fun i c j x H g=>?_) (fun i c j x H g=>?_) (by split<;>simp) e4 A_ A_ (fun q=>?_) (fun q=>I_ A_)
     .obtain⟨q1,rfl⟩:=rL e n cs A_ i c H;rw[D6]at g;split at g;.rw[F7];exact hm _ _ (by simpa using g)
      .simp at g
     .obtain⟨q1,rfl⟩:=rL e n cs A_ i c H;rw[D6]at g;split at g;.exact hvv _ _ (by simpa using g)
      .simp at g
     .split at q;.rename_i hq;rw[hq]
      .simp at q
   .simp at d
  .simp at d
 .simp at d
theorem cJ.mk0{top:TOp}(f:aP top=none){M':Mem}{J':aF}{w':World}{s:Sem Next}{v:TV}{r:Next}(a:s.run P w=.ok r w')(e:bQe M' J' L r v)(b:MS P O K M' J' L S' env' w') (d:Tr (cR L) M J S w M' J' S' w') (c:vB env env'):cJ P O K top M J L S env w s v env' S' :=
 ⟨M',J',L,w',r,a,e,b,d,by rw[f];exact⟨rfl,c⟩⟩
theorem aX6{o:Oper}{t:TypeId}{x y:Operand}(k:o.op=.store t x y){n:Nat}(s:sizeOf? P t=some n)(a:Act)(h:MS P O K M J L S env w){l e2:TV}(v:VR M J L l (a.eval x))(z:VR M J L e2 (a.eval y)) (u:(cellsOf e2).length=n) (f:setCells env S l (cellsOf e2)=some (env',S')) {top:TOp} (d:aP top=none):cJ P O K top M J L S env w (execOp a.eval o) undef env' S':=by
 have e:(cellsOf e2).any bH=false:=by
  unfold setCells at f;split at f;.simp at f
  .rename_i q;simpa using q
 have m:=tH z e;obtain⟨b,off,w',A,c,i,p,j⟩:=nO h f v m;refine .mk0 d (r:=.skip) ?_ (.inr ⟨rfl,rfl⟩) i p j;have g:(a.eval y).cells.size=n:=by rw[<-u];simpa using m.1
 simp[execOp,k,A,Go.Instr.storeAt,Go.Instr.sureAddr,storeVar,run_size? s,g,c]
theorem iD{t:TypeId}{z:Tq_}(h:eT P t=some z):∃i a,P.info? t=some i/\i.zero=some a/\i.size=z.length/\a.cells.size=z.length/\(∀w,(zeroValue t).run P w=.ok a w) /\∀(M:Mem) (k:Nat) (x:IV) (u:Value),z[k]?=some x->a.cells[k]?=some u->IR M x u:=by
 unfold eT at h;split at h
 .rename_i i hi;split at h
  .rename_i a hz;split at h
   .rename_i hs;have e:=(yA (M:=fun _ _=>none) h).1;have b:a.cells.size=z.length:=by simpa using e.symm
    refine⟨i,a,hi,hz,by omega,b,fun w=>?_,fun M k x u d c=>(yA (M:=M) h).2 k x u d (by simpa using c)⟩;simp[zeroValue,typeInfo,hi,hz]
   .simp at h
  .simp at h
 .simp at h
theorem aQ1{v:Value}{a:IV}(h:aHf v=some a):bH (.iv a)=false:=by unfold aHf at h;split at h<;>simp at h<;>subst h<;>rfl
theorem aD8:∀ {vs:List Value} {l:Tq_},xW vs=some l->(l.map TV.iv).any bH=false
 |[],l,h=>by simp[xW]at h;subst h;rfl
 |v::r,l,h=>by
  simp only[xW]at h;split at h;.rename_i a l' h1 h2;simp at h;subst h;have:=aD8 h2;simp[aQ1 h1]at this |-;exact this
  .simp at h
theorem aM1{t:TypeId}{z:Tq_}(h:eT P t=some z):(z.map TV.iv).any bH=false:=by
 unfold eT at h;split at h
 .split at h
  .split at h;.exact aD8 h
   .simp at h
  .simp at h
 .simp at h
theorem aD9{z:Tq_}{b:Value}(a:b.cells.size=z.length)(d:∀(M:Mem) (k:Nat) (x:IV) (u:Value),z[k]?=some x->b.cells[k]?=some u->IR M x u):VRs M J L (z.map .iv) b.cells.toList :=
 .ofIVs (by simpa using a) fun i x u c e=>d M i x u c (by simpa using e)
theorem MS.step'{M':Mem}{J':aF}{w':World}(h:MS P O K M J L S env w)(b:WR P O M' J' S' w')(t:Tr (fun _=>False) M J S w M' J' S' w'): MS P O K M' J' L S' env w'/\Tr (cR L) M J S w M' J' S' w' :=
 ⟨h.step b t (fun _ _ a=>a),t.weaken (fun _ a=>a.elim)⟩
theorem aQ2(h:MS P O K M J L S env w){xs:Tn_}{cs:Array Value}(e:TypeId)(g:xs.length<=cs.size)(p:∀(k:Nat) (x:TV),xs[k]?=some x->∃u,cs[k]?=some u/\VR M J [] x u)(loose:Bool)(cap es:Nat): let l:Loc:={cb:=w.heap.size,d:=0,ver:=0,cap:=cap,es:=es,size:=cs.size,loose:=loose}
  MS P O K M (J++[some l]) L (S++[.cells 0 loose xs]) env (w.alloc (.cells cs e))/\Tr (cR L) M J S w M (J++[some l]) (S++[.cells 0 loose xs]) (w.alloc (.cells cs e)) /\
   aF.at (J++[some l]) S.length l:=by
 intro l;have f:M.ext w.heap.size (fun _=>none)=M:=tJ h.wr.none_at;have c:=h.wr.push (fun _=>False) (.cells cs e) (fun _=>none) l (.cells l.ver loose xs) rfl (fun o v i=>by simp at i) (by
  rw[f];refine .cells loose xs cs e (0,0) rfl (cX w _) rfl (by show 0+xs.length<=cs.size;omega) (fun k x j=>?_) (fun o r=>?_) (fun o=>h.wr.none_at o) (fun _ q=>absurd rfl q);.obtain⟨u,m,n⟩:=p k x j;exact⟨u,by show cs[0+k]?=_;rw[A9];exact m,n.mono (.refl _) (.push _ _)⟩
  .exact World.frozen?_alloc_new w cs e o)
 rw[f]at c;obtain⟨a,b⟩:=h.step' c.1 c.2;refine⟨a,b,?_⟩;unfold aF.at
 rw[<-h.wr.len];simp
theorem VRs.ex{xs:Tn_}{cs:Array Value}(d:VRs M J [] xs cs.toList):xs.length<=cs.size/\∀(k:Nat) (x:TV),xs[k]?=some x->∃u,cs[k]?=some u/\VR M J [] x u:=by
 have b:cs.size=xs.length:=by simpa using d.1
 refine⟨by omega,fun k x c=>?_⟩;have a:k<cs.size:=by rw[b];exact(E_.1 c).1
 exact⟨cs[k],A4 a,d.2 k x _ c (by simp[a])⟩
theorem wV{α:Type}{l:List α}{i j:Nat}{x:α}(h:j≠i):(l.set i x)[j]?=l[j]? := by rw[B3 A_]
theorem aEa(h:MS P O K M J L S env w){xs:Tn_}{cs:Array Value}(e:TypeId)(Q:VRs M J [] xs cs.toList){j:Nat}(D:j<env.length){top:TOp}(l:aP top=some j){s:Sem Next} (g:s.run P w=.ok (.value (.pointer (some ⟨w.heap.size,0,none⟩))) (w.alloc (.cells cs e))):cJ P O K top M J L S env w s (.lp j 0) (env.set j (.lb xs)) S:=by
 have F:M.ext w.heap.size (fun _=>none)=M:=tJ h.wr.none_at;have x:=h.wr.alloc (fun _=>False) (.cells cs e) (fun _=>none) (fun o v z=>by simp at z);rw[F]at x;obtain⟨a,b⟩:=h.step' x.1 x.2;have u:j<L.length:=by rw[h.lb.len];exact D
 have r:(L.set j (some w.heap.size))[j]?=some (some w.heap.size):=C6 u;have A:¬J.has w.heap.size:=fun q=>absurd (h.wr.has_lt q) A_;refine⟨M,J,L.set j (some w.heap.size),w.alloc (.cells cs e),_,g,.inl ⟨_,rfl,.lp _ _ _ _ r⟩,⟨a.wr,⟨by simp[h.lb.len],fun k ys f=>?_,fun k k' ys y cb f n t c=>?_⟩,h.gl⟩,b,?_⟩
 .by_cases hkj:k=j;.subst hkj;rw[C6 D]at f;simp at f;subst f;exact⟨_,r,A,h.wr.none_at,cs,e,(0,0),cX w _,Q,fun o _=>World.frozen?_alloc_new w cs e o⟩
  .rw[wV hkj]at f;obtain⟨cb,i,p⟩:=a.lb.box k ys f;exact⟨cb,by rw[wV hkj];exact i,p⟩
 .have d:∀ {m:Nat} {ys:Tn_} {cb:Nat},m≠j->(env.set j (TV.lb xs))[m]?=some (TV.lb ys)->(L.set j (some w.heap.size))[m]?=some (some cb)->env[m]?=some (TV.lb ys)/\L[m]?=some (some cb)/\cb<w.heap.size:=by intro m ys cb z i p;rw[wV z]at i p;obtain⟨E,C,N⟩:=h.lb.box m ys i;rw[p]at C;simp at C;subst C;exact⟨i,p,N.lt⟩
  by_cases hkj:k=j
  .by_cases hkj':k'=j;.omega
   .subst hkj;obtain⟨_,_,q⟩:=d hkj' n c;rw[r]at t;simp at t;omega
  .by_cases hkj':k'=j;.subst hkj';obtain⟨_,_,q⟩:=d hkj f t;rw[r]at c;simp at c;omega
   .obtain⟨I,p2,_⟩:=d hkj f t;obtain⟨H,G,_⟩:=d hkj' n c;exact h.lb.inj k k' ys y cb I H p2 G
 .rw[l];exact⟨xs,w.heap.size,rfl,rfl,L_ _⟩
theorem aHj{o:Oper}{t:TypeId}(b:o.op=.alloc t){c:Value}(d:∀w,(zeroValue t).run P w=.ok c w)(a:Act): (execOp a.eval o).run P w=.ok (.value (.pointer (some ⟨w.heap.size,0,none⟩))) (w.alloc (.cells c.cells t)):=by simp[execOp,b,Go.Instr.alloc,d,newVar,newRow]
theorem aVr{o:Oper}{t:TypeId}{x:Operand}(b:o.op=.box t x)(a:Act): (execOp a.eval o).run P w=.ok (.value (.pointer (some ⟨w.heap.size,0,none⟩))) (w.alloc (.cells (a.eval x).cells t)):=by simp[execOp,b,Go.Instr.box,newVar,newRow]
theorem aEb{n bytes:Nat}(h:dY n bytes=true):n*bytes<=35184372088832/\bytes<=1048576/\n<=35184372088832:=by unfold dY at h;simp at h;exact⟨h.1.1,h.1.2,h.2⟩
theorem aGc{z:Array Value}{n k:Nat}(a:k<n):(madeCells z n)[k]?=some (z[k % z.size]!):=by simp[madeCells,a]
theorem kX{z:Tq_}{n k:Nat}{x:TV}(h:(bE (List.replicate n (z.map TV.iv)))[k]?=some x):k<n*z.length/\∃y,z[k % z.length]?=some y/\x=.iv y:=by
 obtain⟨i,c,j,b,e,f⟩:=yC (es:=z.length) (fun c l=>by rw[J8 l];simp) h;have a:i<n:=by have:=(E_.1 b).1;simpa using this
 rw[H8]at b;simp[a]at b;subst b;simp only[l_,G_]at e;obtain⟨y,d,rfl⟩:=e;have g:=(E_.1 d).1;have:(i+1)*z.length<=n*z.length:=D4 _ a;rw[D8]at this;refine⟨by omega,y,?_,rfl⟩;rw[f,Nat.mul_comm,Nat.mul_add_mod,Nat.mod_eq_of_lt g];exact d
theorem aKc{z:Tq_}{a:Array Value}(b:a.size=z.length)(e:∀(k:Nat) (x:IV) (u:Value),z[k]?=some x->a[k]?=some u->IR M x u){k:Nat}{y:IV}(d:z[k % z.length]?=some y):IR M y (a[k % a.size]!):=by
 have c:k % z.length<a.size:=by rw[b];exact(E_.1 d).1
 rw[b,getElem!_pos a _ c];exact e _ y _ d (A4 c)
theorem zY{J:aF}{i:Nat}{l':Loc}(b:i<J.length){k:Nat}{a:Loc}(h:aF.at (J.set i (some l')) k a):(k=i/\a=l')\/(k≠i/\J.at k a):=by
 unfold aF.at at h |-;by_cases hk:k=i;.subst hk;rw[C6 b]at h;simp at h;exact .inl ⟨rfl,h.symm⟩
 .rw[B3 A_]at h;exact .inr ⟨hk,h⟩
theorem gX{J:aF}{i:Nat}{l':Loc}(a:i<J.length):aF.at (J.set i (some l')) i l':=by
 unfold aF.at
 rw[C6 a]
theorem WR.turn(h:WR P O M J S w){i:Nat}{l l':Loc}(j:J.at i l)(I:l.loose=true)(D:l'.loose=true)(A:l.ver<l'.ver){M':Mem}{w':World}{s':aG}(T:MLe M M')(q:∀b o,b≠l'.cb->M' b o=M b o) (t:∀b,b≠l'.cb->b<w.heap.size->w'.heap[b]?=w.heap[b]?) (N:w.heap.size<=w'.heap.size) (G:l'.cb<w'.heap.size) (m:l'.cb=l.cb\/w.heap.size<=l'.cb) (y:∀o v,M' l'.cb o=some v->w'.cell? ⟨l'.cb,o,none⟩=some v) (p:w'.os=w.os/\w'.tape=w.tape/\w'.output=w.output) (L:BR P O M' (J.set i (some l')) w' l' s'): WR P O M' (J.set i (some l')) (S.set i s') w'/\Tr (fun _=>False) M J S w M' (J.set i (some l')) (S.set i s') w':=by
 have r:i<J.length:=(E_.1 j).1;have U:JLe J (J.set i (some l')):=by
  refine⟨by simp,fun k d a=>?_⟩;by_cases c:k=i
  .subst c;obtain rfl:d=l:=by unfold aF.at at a j;rw[j]at a;simpa using a.symm
   exact⟨l',gX r,.inr ⟨I,D,A⟩⟩
  .refine⟨d,?_,.inl rfl⟩;unfold aF.at at a |-;rw[B3 A_];exact a
 have g:∀ {k:Nat} {d:Loc},k≠i->J.at k d->d.cb≠l'.cb:=by
  intro k d a C e;rcases m with f|f;.exact a (h.inj k i d l C j (e.trans f))
  .have:=h.lt k d C;omega
 refine⟨h.step (by simp[h.len]) T U (fun b o v F=>?_) (fun k d s a x=>?_) (fun k k' d H a Q e=>?_) (fun k d a=>?_),?_⟩
 .by_cases u:b=l'.cb;.subst u;exact y o v F
  .rw[q b o u]at F;rw[dM (t b u (h.mlt F))];exact h.imm b o v F
 .rcases zY r a with⟨rfl,rfl⟩|⟨c,a⟩;.left;rw[C6 (by rw[<-h.len];exact r)]at x;simp at x;subst x;exact L
  .right;rw[B3 A_]at x;exact⟨a,x,t _ (g c a) (h.lt k d a),fun o=>q _ _ (g c a)⟩
 .rcases zY r a with⟨rfl,rfl⟩|⟨c,E⟩<;>rcases zY r Q with⟨rfl,rfl⟩|⟨z,n⟩;.rfl
  .exact absurd e.symm (g z n)
  .exact absurd e (g c E)
  .exact h.inj k k' d H E n e
 .rcases zY r a with⟨rfl,rfl⟩|⟨c,a⟩;.exact G
  .have:=h.lt k d a;omega
 .refine⟨p.1,p.2.1,p.2.2,N,T,fun b o u R=>q b o (fun e=>?_),U,fun k d a=>?_,fun k a=>?_,fun b u R _=>t b (fun e=>?_) u⟩
  .rcases m with f|f;.exact R ⟨i,l,j,by omega⟩
   .omega
  .rcases zY r a with⟨rfl,rfl⟩|⟨c,a⟩
   .rcases m with f|f;.exact .inr ⟨l,j,f.symm⟩
    .exact .inl f
   .exact .inr ⟨d,a,rfl⟩
  .have c:k≠i:=by rintro rfl;unfold aF.at at j;rw[j]at a;simp at a
   rw[B3 A_,B3 A_];exact⟨a,rfl⟩
  .rcases m with f|f;.exact R ⟨i,l,j,by omega⟩
   .omega
theorem MS.drew(h:MS P O K M J L S env w):MS P O K M J L S env w.drew/\Tr (fun _=>False) M J S w M J S w.drew:=by obtain⟨a,b⟩:=h.wr.drew (fun _=>False);exact⟨(h.step' a b).1,b⟩
structure aVs (P:Program) (w:World) (M:Mem) (J:aF) (es sLen sCap n:Nat) (base:Option Addr) (xv:Value) (os ns:List TV):Prop where
 lenX:(Builtin.lenOf xv).run P w=.ok n w
 newX:∃vs,VRs M J [] ns vs/\(Builtin.firstCells es n xv).run P w=.ok vs.toArray w
 old:∃vs,VRs M J [] os vs/\(Builtin.firstCells es sLen (.slice base sLen sCap)).run P w=.ok vs.toArray w
 olen:os.length=sLen*es
 nlen:ns.length=n*es
theorem bFc{t u el:TypeId}{ty:TypeId}{ts:Array TypeId}(V:ts[0]?=some t)(h1:ts[1]?=some u)(U:P.underlying t=some (.slice el))(T:(∃e,P.underlying u=some (.slice e))\/P.underlying u=some .string) {z:Tq_} (hz:eT P el=some z) {bytes:Nat} (g:bytesOf? P el=some bytes) (h2:bytes≠0) {a b n:Nat} {base:Option Addr} {p:Value} {os E:Tn_} (c:aVs P w.drew M J z.length a b n base p os E) (l:(Builtin.lenOf p).run P w=.ok n w) (W:b<a+n) (hr:dY (a+n) bytes=true): ∃cs cap,(Builtin.append_ ts ty #[.slice base a b,p]).run P w=.ok (.slice (some ⟨w.heap.size,0,none⟩) (a+n) cap) (w.drew.alloc (.cells cs el))/\a+n<=cap/\cs.size=cap*z.length /\∀(k:Nat) (x:TV),(os++E)[k]?=some x->∃v,cs[k]?=some v/\VR M J [] x v:=by
 obtain⟨i,y,D,o,r,q,Y,h3⟩:=iD hz;obtain⟨r1,r2,r3⟩:=aEb hr;have R:i.bytes=bytes:=by unfold bytesOf? at g;rw[D]at g;simpa using g
 obtain⟨f,F,N⟩:=c.newX;obtain⟨d,I,L⟩:=c.old;have G:=growslice_fits (bytes:=bytes) W A_;have Z:¬(a+n<=b):=A_;have j:¬(281474976710656<Builtin.nextslicecap (a+n) b*i.bytes):=by rw[R];omega
 have s:¬(i.bytes=0):=A_;have A:=grownCap_ge w (a+n) b el;refine⟨d.toArray++f.toArray++Builtin.zeroCells y.cells (grownCap w (a+n) b el-(a+n)),grownCap w (a+n) b el,?_,A,?_,fun k x H=>?_⟩
 .rw[<-r]at N L;have m:d.toArray++f.toArray++Builtin.zeroCells y.cells (grownCap w (a+n) b el-(a+n))=(d++f).toArray++Builtin.zeroCells y.cells (grownCap w (a+n) b el-(a+n)):=B_;rw[m];rcases T with⟨e,C⟩|C <;>
  .simp[Builtin.append_,V,h1,und U,und C,sizeOf,typeInfo,zeroValue,D,o,l,Z,s,j,Question.forced,N,L,newRow,grownCap];congr 2;apply M5;simp
 .have e1:d.length=a*z.length:=by rw[I.1,c.olen]
  have e2:f.length=n*z.length:=by rw[F.1,c.nlen]
  simp only[K7,I4,size_zeroCells,q,e1,e2,<-D8];congr 1;omega
 .have Q:=I.append F;have h:k<(d++f).length:=by rw[Q.1];exact(E_.1 H).1
  refine⟨(d++f)[k],?_,Q.2 k x _ H (D_ h)⟩;have:(d.toArray++f.toArray:Array Value)=(d++f).toArray:=B_;rw[this,G8 (by simpa using h)];simp
theorem yF{t u el:TypeId}{ty:TypeId}{ts:Array TypeId}(l:ts[0]?=some t)(q:ts[1]?=some u)(r:P.underlying t=some (.slice el))(m:(∃e,P.underlying u=some (.slice e))\/P.underlying u=some .string) {es:Nat} (g:sizeOf? P el=some es) {a c n:Nat} {b o:Nat} {h:Value} {vs:List Value} (d:(Builtin.lenOf h).run P w=.ok n w) (f:(Builtin.firstCells es n h).run P w=.ok vs.toArray w) (p:a+n<=c) {w':World} (i:(storeCells ⟨b,o+a*es,none⟩ vs).run P w=.ok () w'): (Builtin.append_ ts ty #[.slice (some ⟨b,o,none⟩) a c,h]).run P w=.ok (.slice (some ⟨b,o,none⟩) (a+n) c) w':=by
 have k:=run_size? g w;rcases m with⟨e,j⟩|j <;>
 .simp[Builtin.append_,l,q,und r,und j,k,d,p,f,jB,i]
theorem bFd(f:Option Addr){t u el:TypeId}{ty:TypeId}{ts:Array TypeId}(i:ts[0]?=some t)(k:ts[1]?=some u)(l:P.underlying t=some (.slice el))(j:(∃e,P.underlying u=some (.slice e))\/P.underlying u=some .string) {es:Nat} (c:sizeOf? P el=some es) {d:Value} (a:(Builtin.lenOf d).run P w=.ok 0 w) (b:(Builtin.firstCells es 0 d).run P w=.ok #[] w): (Builtin.append_ ts ty #[.slice f 0 0,d]).run P w=.ok (.slice f 0 0) w:=by
 have h:=run_size? c w;cases f<;>rcases j with⟨e,g⟩|g <;>
 .simp[Builtin.append_,i,k,und l,und g,h,a,b,storeCells]
theorem aA8{t:TypeId}{z:Tq_}(h:eT P t=some z):sizeOf? P t=some z.length:=by obtain⟨i,c,b,_,a,_⟩:=iD h;simp[sizeOf?,b,a]
theorem bMx{s:TV}{v:Value}(f:aQu s=true)(e:VR M J L s v):(∃p,v=.slice p 0 0)\/∃b o n c,v=.slice (some ⟨b,o,none⟩) n c/\n<=c:=by
 cases e with
 |iv L h =>
  cases h with
  |slNil=>exact .inl ⟨_,rfl⟩
  |slE t a ht=>exact .inl ⟨_,rfl⟩
  |sl t l b off cap es vals ht hes hcap hfull hm e=>exact .inr ⟨b,off,_,cap,rfl,hcap⟩
  |_=>simp[aQu]at f
 |msl L i ver off len cap es l b o c h e ha hl hlc=>exact .inr ⟨b,o,_,c,rfl,hlc⟩
 |tsl L i es l b o c h hl e ha hr =>
  rcases hr.sl_any with⟨d,_⟩|⟨m,o',c',es',vals,d,_,_,j,_⟩|⟨k,d,g,_⟩;case inr.inr=>subst g;simp at d;obtain⟨rfl,rfl⟩:=d;exact .inl ⟨_,rfl⟩
  .simp at d
  .simp at d;obtain⟨_,rfl⟩:=d;exact .inr ⟨b,o,_,c,rfl,j⟩
 |_=>simp[aQu]at f
theorem uN{α:Type}{es:Nat}:∀ {l:List (List α)},(∀c∈l,c.length=es)->∀ {i:Nat} {c:List α} {j:Nat} {x:α},l[i]?=some c->c[j]?=some x->(bE l)[i*es+j]?=some x
 |[],_,i,c,j,x,h,_=>by simp at h
 |a::r,hl,i,c,j,x,h,hx=>by
  have d:=hl a B_;simp only[bE];cases i with
  |zero =>simp at h;subst h;have:=(E_.1 hx).1;rw[W_ A_];simpa using hx
  |succ i =>have b:∀c∈r,c.length=es:=fun c e=>hl c (by simp[e]);have:=uN b (by simpa using h) hx;rw[t_ (by rw[D8];omega),d];rw[show(i+1)*es+j-es=i*es+j by rw[D8];omega];exact this
theorem aM2{M:Mem}{t:Tag}{l:Tp_}{b o c es:Nat}(q:t≠.nil)(e:∀c∈l,c.length=es)(p:l.length<=c)(d:t=.full->c=l.length)(h:∀(k:Nat) (a:IV),(bE l)[k]?=some a->∃u,M b (o+k)=some u/\IR M a u): IR M (.sl t l) (.slice (some ⟨b,o,none⟩) l.length c):=by
 refine .sl t l b o c es (fun i j=>(M b (o+(i*es+j))).getD Go.undef) q e p d (fun i c j x f g=>?_) (fun i c j x f g=>?_);.obtain⟨u,m,n⟩:=h _ _ (uN e f g);rw[F7,m];rfl
 .obtain⟨u,m,n⟩:=h _ _ (uN e f g);rw[m];exact n
theorem aX7(l:Tq_):toIVs (l.map .iv)=some l:=by
 induction l with
 |nil=>rfl
 |cons a r ih=>simp[toIVs,oV,ih]
theorem yG:∀ {a b:Tn_} {x y:Tq_},toIVs a=some x->toIVs b=some y->toIVs (a++b)=some (x++y)
 |[],b,x,y,h,k=>by simp[toIVs]at h;subst h;simpa using k
 |v::r,b,x,y,h,k=>by
  simp only[toIVs]at h;split at h;.rename_i a l h1 h2;simp at h;subst h;simp[toIVs,h1,yG h2 k]
  .simp at h
def Mem.put(M:Mem)(b o:Nat)(vs:List Value):Mem:=fun b' o'=>if b'=b/\o<=o'/\o'<o+vs.length then vs[o'-o]? else M b' o'
theorem Mem.put_le{M:Mem}{b o:Nat}{vs:List Value}(h:∀o',o<=o'->o'<o+vs.length->M b o'=none):MLe M (M.put b o vs):=by
 intro e o' v a;unfold Mem.put;split;.rename_i hc;obtain⟨rfl,c,d⟩:=hc;rw[h o' c d]at a;simp at a
 .exact a
theorem JLe.turn{J:aF}{i:Nat}{l l':Loc}(d:J.at i l)(e:l.loose=true)(c:l'.loose=true)(a:l.ver<l'.ver):JLe J (J.set i (some l')):=by
 have g:i<J.length:=(E_.1 d).1;refine⟨by simp,fun k f b=>?_⟩;by_cases hki:k=i
 .subst hki;obtain rfl:f=l:=by unfold aF.at at b d;rw[d]at b;simpa using b.symm
  exact⟨l',gX g,.inr ⟨e,c,a⟩⟩
 .refine⟨f,?_,.inl rfl⟩;unfold aF.at at b |-;rw[B3 A_];exact b
theorem aEc(h:MS P O K M J L S env w){i:Nat}{l:Loc}(g:J.at i l)(f:l.loose=true){xs:Tn_}{cs:Array Value}(e:TypeId)(m:xs.length<=cs.size) (z:∀(k:Nat) (x:TV),xs[k]?=some x->∃u,cs[k]?=some u/\VR M J [] x u): let l':Loc:={cb:=w.heap.size,d:=0,ver:=l.ver+1,cap:=0,es:=0,size:=cs.size,loose:=true}
  MS P O K M (J.set i (some l')) L (S.set i (.cells (l.ver+1) true xs)) env (w.alloc (.cells cs e))/\Tr (cR L) M J S w M (J.set i (some l')) (S.set i (.cells (l.ver+1) true xs)) (w.alloc (.cells cs e)) /\
   aF.at (J.set i (some l')) i l':=by
 intro l';have A:i<J.length:=(E_.1 g).1;have y:JLe J (J.set i (some l')):=.turn g f rfl (Q7 _);obtain⟨a,b⟩:=h.wr.turn g f (l':=l') rfl (Q7 _) (M':=M) (w':=w.alloc (.cells cs e)) (s':=.cells l'.ver true xs) (.refl _) (fun _ _ _=>rfl) (fun b C n=>cS w _ A_) B_ (by show w.heap.size<_;simp)
  (.inr (L_ _)) (fun o v j=>by rw[h.wr.none_at]at j;simp at j) ⟨rfl,rfl,rfl⟩
  (.cells true xs cs e (0,0) rfl (cX w _) rfl (by show 0+xs.length<=cs.size;omega) (fun k x p=>by obtain⟨u,r,t⟩:=z k x p;exact⟨u,by show cs[0+k]?=_;rw[A9];exact r,t.mono (.refl _) y⟩) (fun o _=>World.frozen?_alloc_new w cs e o) (fun o=>h.wr.none_at o) (fun q=>by simp[l']at q))
 obtain⟨c,d⟩:=h.step' a b;exact⟨c,d,gX A⟩
theorem aGd(h:MS P O K M J L S env w){i:Nat}{l:Loc}(F:J.at i l)(f:l.loose=true){r:Tn_}(U:S[i]?=some (.cells l.ver true r)){o:Nat}{os m:Tn_}{vs:List Value} (G:At w M J l.cb o os) (n:VRs M J [] m vs) (T:o+os.length+m.length<=l.size) (V:m.any bH=false): let l':Loc:={l with d:=o,ver:=l.ver+1}
  ∃w',(storeCells ⟨l.cb,o+os.length,none⟩ vs).run P w=.ok () w'/\MS P O K M (J.set i (some l')) L (S.set i (.cells (l.ver+1) true (os++m))) env w' /\
   Tr (cR L) M J S w M (J.set i (some l')) (S.set i (.cells (l.ver+1) true (os++m))) w'/\aF.at (J.set i (some l')) i l':=by
 intro l';have W:i<J.length:=(E_.1 F).1;have C:=h.wr.blk i l _ F U;generalize hb0:aG.cells l.ver true r=s0 at C;cases C with
 |cells loose cs cs' e fz hlo' p hsz hfit' hvals hfz hm htt =>
  have Q:JLe J (J.set i (some l')):=.turn F f f (Q7 _);have t:=nN (P:=P) (o:=o+os.length) (vs:=vs) p (by rw[n.1];omega) (fun k _ E=>hfz k (by rw[n.1]at E;omega)) (n.oneCell V);have D:∀b,b≠l.cb->(w.setCells l.cb (o+os.length) vs).heap[b]?=w.heap[b]? := fun b N=>jC l.cb vs _ w b N;have j:=iM l.cb vs (o+os.length) w;have H:=fY p;have y:=jU l.cb vs (o+os.length) w cs' e fz p;obtain⟨a,b⟩:=h.wr.turn F f (l':=l') f (Q7 _) (M':=M) (w':=w.setCells l.cb (o+os.length) vs) (s':=.cells l'.ver true (os++m)) (.refl _) (fun _ _ _=>rfl) (fun b p _=>D b p) A_ (by rw[j];exact H)
   (.inl rfl) (fun o v A=>by rw[show M l'.cb o=none from hm o]at A;simp at A) (mK _ _ _ _)
   (.cells true (os++m) (sH cs' (o+os.length) vs) e fz f y (by rw[eQ];exact hsz) (by rw[eQ,H_];show o+_<=_;omega) (fun k x z=>by
    show ∃u,(sH cs' (o+os.length) vs)[o+k]?=some u/\_;rw[tG _ _ _ _ (by rw[n.1];omega)];rw[F0]at z;split at z;.rename_i E;rw[I_ A_];obtain⟨u,R,Y⟩:=G k x z;rw[dV p]at R;exact⟨u,R,Y.mono (.refl _) Q⟩
    .rename_i E;have I:=(E_.1 z).1;rw[K_ (by rw[n.1];omega),show o+k-(o+os.length)=k-os.length by omega];have g:k-os.length<vs.length:=by rw[n.1];exact I
     exact⟨vs[k-os.length],D_ g,(n.2 _ x _ z (D_ g)).mono (.refl _) Q⟩)
    (fun k E=>by rw[World.frozen?_setCells];exact hfz k (by rwa [eQ]at E)) hm (fun q=>by rw[show l'.loose=true from f]at q;simp at q))
  obtain⟨c,d⟩:=h.step' a b;exact⟨_,t,c,d,gX W⟩
 |_=>simp at hb0
def oG(cs:Array Value)(n:Nat):Nat->Option Value:=fun o=>if o<n then cs[o]? else none
theorem aKd{w:World}(cs:Array Value)(n:Nat)(e:TypeId):∀o v,oG cs n o=some v->(w.alloc (.cells cs e)).cell? ⟨w.heap.size,o,none⟩=some v:=by
 intro o v a;unfold oG at a;split at a;.rw[World.cell?_alloc_new];exact a
 .simp at a
theorem bFe{M:Mem}{n:Nat}{l:Tp_}{es c:Nat}{cs:Array Value}(f:∀o,M n o=oG cs (l.length*es) o)(b:∀c∈l,c.length=es)(i:l.length<=c)(h:∀(k:Nat) (a:IV),(bE l)[k]?=some a->∃u,cs[k]?=some u/\IR M a u): IR M (.sl .no l) (.slice (some ⟨n,0,none⟩) l.length c):=by refine aM2 B_ b i B_ fun k a d=>?_;obtain⟨u,e,g⟩:=h k a d;refine⟨u,?_,g⟩;rw[f,A9];unfold oG;have:=(E_.1 d).1;rw[dD b]at this;rw[K_ this];exact e
theorem aM3(h:MS P O K M J L S env w){l:Tp_}{es cap:Nat}{cs:Array Value}(e:TypeId)(g:0<es)(i:∀c∈l,c.length=es)(p:l.length<=cap)(q:cs.size=cap*es) (s:∀(k:Nat) (a:IV),(bE l)[k]?=some a->∃u,cs[k]?=some u/\IR M a u): ∃M' J',MS P O K M' J' L (S++[.tok l.length es e]) env (w.alloc (.cells cs e))/\Tr (cR L) M J S w M' J' (S++[.tok l.length es e]) (w.alloc (.cells cs e)) /\VR M' J' L (.tsl S.length l) (.slice (some ⟨w.heap.size,0,none⟩) l.length cap):=by
 let l':Loc:={cb:=w.heap.size,d:=0,ver:=l.length,cap:=cap,es:=es,size:=cs.size,loose:=true,ty:=e}
 have m:=h.wr.mle_ext (oG cs (l.length*es));have f:∀o,(M.ext w.heap.size (oG cs (l.length*es))) w.heap.size o=oG cs (l.length*es) o:=fun o=>by simp[Mem.ext]
 obtain⟨a,b⟩:=h.wr.push (fun _=>False) (.cells cs e) (oG cs (l.length*es)) l' (.tok l.length es e) rfl (aKd cs _ e)
  (.tok l.length cs e (0,0) rfl rfl (cX w _) rfl p g (by show 0+cap*es<=cs.size;omega) (fun o n _=>by rw[f];unfold oG;have n:0+l.length*es<=o:=n;rw[I_ A_]) (fun o _ _=>World.frozen?_alloc_new w cs e o) ⟨rfl,rfl,I8 _⟩)
 obtain⟨c,d⟩:=h.step' a b;have j:aF.at (J++[some l']) S.length l':=by unfold aF.at;rw[<-h.wr.len];simp
 refine⟨_,_,c,d,.tsl _ _ _ l' _ _ _ j rfl (L_ _) (fun _=>⟨rfl,rfl,rfl,i⟩) ?_⟩;exact bFe f i p fun k a r=>let ⟨u,h1,h2⟩:=s k a r;⟨u,h1,h2.mono m⟩
theorem aKe(h:MS P O K M J L S env w){i:Nat}{loc:Loc}(r:J.at i loc)(p:loc.loose=true){l:Tp_}(j:loc.ver<l.length){es cap:Nat}{cs:Array Value}(e:TypeId)(m:0<es)(n:∀c∈l,c.length=es) (x:l.length<=cap) (A:cs.size=cap*es) (E:∀(k:Nat) (a:IV),(bE l)[k]?=some a->∃u,cs[k]?=some u/\IR M a u): ∃M' J',MS P O K M' J' L (S.set i (.tok l.length es e)) env (w.alloc (.cells cs e))/\Tr (cR L) M J S w M' J' (S.set i (.tok l.length es e)) (w.alloc (.cells cs e)) /\VR M' J' L (.tsl i l) (.slice (some ⟨w.heap.size,0,none⟩) l.length cap):=by
 let l':Loc:={cb:=w.heap.size,d:=0,ver:=l.length,cap:=cap,es:=es,size:=cs.size,loose:=true,ty:=e}
 have z:i<J.length:=(E_.1 r).1;have g:=h.wr.mle_ext (oG cs (l.length*es));have f:∀o,(M.ext w.heap.size (oG cs (l.length*es))) w.heap.size o=oG cs (l.length*es) o:=fun o=>by simp[Mem.ext]
 obtain⟨a,b⟩:=h.wr.turn r p (l':=l') rfl j (M':=M.ext w.heap.size (oG cs (l.length*es))) (w':=w.alloc (.cells cs e)) (s':=.tok l.length es e) g (fun b o q=>by unfold Mem.ext;rw[I_ q])
  (fun b q y=>cS w _ A_) B_ (by show w.heap.size<_;simp) (.inr (L_ _)) (fun o v C=>aKd cs _ e o v (by rw[<-f];exact C)) ⟨rfl,rfl,rfl⟩
  (.tok l.length cs e (0,0) rfl rfl (cX w _) rfl x m (by show 0+cap*es<=cs.size;omega) (fun o t _=>by rw[f];unfold oG;have t:0+l.length*es<=o:=t;rw[I_ A_]) (fun o _ _=>World.frozen?_alloc_new w cs e o) ⟨rfl,rfl,I8 _⟩)
 obtain⟨c,d⟩:=h.step' a b;refine⟨_,_,c,d,.tsl _ _ _ l' _ _ _ (gX z) rfl (L_ _) (fun _=>⟨rfl,rfl,rfl,n⟩) ?_⟩;exact bFe f n x fun k a D=>let ⟨u,h1,h2⟩:=E k a D;⟨u,h1,h2.mono g⟩
theorem aM4(h:MS P O K M J L S env w){i:Nat}{loc:Loc}(hl:J.at i loc){n:Nat}(hs:S[i]?=some (.tok n loc.es loc.ty)){l l2:Tp_}(Q:l.length=n)(hd:0<l2.length)(r:∀c∈l++l2,c.length=loc.es) (hr:IR M (.sl .no l) (.slice (some ⟨loc.cb,loc.d,none⟩) l.length loc.cap)) (g:n+l2.length<=loc.cap) {ns:Tn_} {vs:List Value} (Y:VRs M J [] ns vs) (U:toIVs ns=some (bE l2)) (h1:ns.any bH=false): ∃w' M' J',(storeCells ⟨loc.cb,loc.d+l.length*loc.es,none⟩ vs).run P w=.ok () w'/\MS P O K M' J' L (S.set i (.tok (l++l2).length loc.es loc.ty)) env w'/\Tr (cR L) M J S w M' J' (S.set i (.tok (l++l2).length loc.es loc.ty)) w' /\VR M' J' L (.tsl i (l++l2)) (.slice (some ⟨loc.cb,loc.d,none⟩) (l++l2).length loc.cap):=by
 let l':Loc:={loc with ver:=(l++l2).length}
 have hi:i<J.length:=(E_.1 hl).1;have T:=h.wr.blk i loc _ hl hs;have V:∀c∈l,c.length=loc.es:=fun c Z=>r c (by simp[Z]);have I:∀c∈l2,c.length=loc.es:=fun c Z=>r c (by simp[Z]);generalize hs0:aG.tok n loc.es loc.ty=s0 at T;cases T with
 |tok n' cs' e fz hlo hnv t hsz Z hes0 hfit hsp hfz htt =>
  obtain rfl:n=n':=by simpa using hs0
  have he:vs.length=l2.length*loc.es:=by rw[Y.1,<-(iO U).1,dD I]
  have h7:n*loc.es+l2.length*loc.es<=loc.cap*loc.es:=by rw[<-D8];exact D4 _ g
  have ho:loc.d+l.length*loc.es=loc.d+n*loc.es:=by rw[Q]
  have R:=nN (P:=P) (o:=loc.d+l.length*loc.es) (vs:=vs) t A_ (fun k D h8=>hfz k A_ A_) (Y.oneCell h1);have W:∀b,b≠loc.cb->(w.setCells loc.cb (loc.d+l.length*loc.es) vs).heap[b]?=w.heap[b]? := fun b h5=>jC loc.cb vs _ w b h5;have C:=iM loc.cb vs (loc.d+l.length*loc.es) w;have h4:=fY t;have u:=jU loc.cb vs (loc.d+l.length*loc.es) w cs' e fz t;have m:∀o,(w.setCells loc.cb (loc.d+l.length*loc.es) vs).cell? ⟨loc.cb,o,none⟩=if loc.d+l.length*loc.es<=o/\o<loc.d+l.length*loc.es+vs.length then vs[o-(loc.d+l.length*loc.es)]? else cs'[o]? := by intro o;rw[dV u,tG _ _ _ _ A_]
  have p:MLe M (M.put loc.cb (loc.d+l.length*loc.es) vs):=Mem.put_le fun o' A E=>hsp o' A_ A_;have f:(l++l2).length=n+l2.length:=by simp[Q]
  obtain⟨a,b⟩:=h.wr.turn hl hlo (l':=l') hlo (by show loc.ver<(l++l2).length;omega) (M':=M.put loc.cb (loc.d+l.length*loc.es) vs) (w':=w.setCells loc.cb (loc.d+l.length*loc.es) vs) (s':=.tok (l++l2).length loc.es loc.ty) p
   (fun b o t=>by unfold Mem.put;rw[I_ (by intro q;exact t q.1)]) (fun b t _=>W b t) A_ (by rw[C];exact h4) (.inl rfl) (fun o v y=>by
    show(w.setCells loc.cb (loc.d+l.length*loc.es) vs).cell? ⟨loc.cb,o,none⟩=some v;rw[m];have y:(M.put loc.cb (loc.d+l.length*loc.es) vs) loc.cb o=some v:=y;unfold Mem.put at y;split at y;.rename_i q;rw[K_ q.2];exact y
    .rename_i q;rw[I_ (by intro q';exact q ⟨rfl,q'⟩),<-dV t];exact h.wr.imm _ _ _ y) (mK _ _ _ _)
   (.tok _ (sH cs' (loc.d+l.length*loc.es) vs) e fz hlo rfl u (by rw[eQ];exact hsz) (by rw[f];exact g) hes0 (by rw[eQ];exact hfit) (fun o A E=>by
    have A:loc.d+(l++l2).length*loc.es<=o:=A;rw[f,D8]at A;rw[eQ]at E;show(M.put loc.cb (loc.d+l.length*loc.es) vs) loc.cb o=none;unfold Mem.put;rw[I_ A_];exact hsp o A_ E) (fun o A E=>by
    have A:loc.d+(l++l2).length*loc.es<=o:=A;rw[f,D8]at A;rw[eQ]at E;rw[World.frozen?_setCells];exact hfz o A_ E) ⟨htt.1,htt.2.1,C0 htt.2.2 (D4 _ (by rw[f];omega))⟩)
  obtain⟨c,d⟩:=h.step' a b;refine⟨_,_,_,R,c,d,.tsl _ _ _ l' _ _ _ (gX hi) hlo (L_ _) (fun _=>⟨rfl,rfl,rfl,r⟩) ?_⟩;refine aM2 B_ r (by rw[f];exact g) B_ fun k x D=>?_;rw[pA,F0]at D;have ha:=dD V;split at D
  .rename_i hkl;rcases hr.sl_any with⟨H,_⟩|⟨b',o',c',es',vals,H,_,F,_,_,y,h6⟩|⟨a0,H,h9,_⟩;case inr.inr=>subst h9;simp[bE]at D
   .simp at H
   .simp at H;obtain⟨⟨rfl,rfl⟩,rfl⟩:=H;obtain⟨i',c',j',e1,e2,e3⟩:=yC F D;refine⟨vals i' j',p _ _ _ ?_,(h6 _ _ _ _ e1 e2).mono p⟩;rw[e3,<-F7];exact y _ _ _ _ e1 e2
  .rename_i hkl;obtain⟨x',N,G⟩:=(iO U).2 _ _ D;have z:k-(bE l).length<vs.length:=by rw[Y.1];exact(E_.1 N).1
   refine⟨vs[k-(bE l).length],?_,(qL G (Y.2 _ _ _ N (D_ z))).mono p⟩;unfold Mem.put;rw[K_ A_,show loc.d+k-(loc.d+l.length*loc.es)=k-(bE l).length by omega];exact D_ z
 |_=>simp at hs0
theorem tL{es m:Nat}{ys:Tq_}(h:ys.length=m*es):bE (cN es m ys)=ys/\(∀c∈cN es m ys,c.length=es)/\(cN es m ys).length=m :=
 ⟨oZ es m ys h,rM es m ys A_,gA es m ys⟩
theorem aA9{os:Tq_}{d:Tn_}{ys:Tq_}(b:toIVs d=some ys){cs:Array Value}(h:∀(k:Nat) (x:TV),(os.map .iv++d)[k]?=some x->∃v,cs[k]?=some v/\VR M J [] x v): ∀(k:Nat) (a:IV),(os++ys)[k]?=some a->∃u,cs[k]?=some u/\IR M a u:=by intro k a g;obtain⟨x,e,c⟩:=(iO (yG (aX7 os) b)).2 k a g;obtain⟨v,f,i⟩:=h k x e;exact⟨v,f,qL c i⟩
theorem aHk(h:MS P O K M J L S env w){t u el ty:TypeId}{ts:Array TypeId}(h0:ts[0]?=some t)(h1:ts[1]?=some u)(ht:P.underlying t=some (.slice el))(hu:(∃e,P.underlying u=some (.slice e))\/P.underlying u=some .string) {z:Tq_} (hz:eT P el=some z) (gc:z.length≠0) {bytes:Nat} (hw:bytesOf? P el=some bytes) (g5:bytes≠0) {mu:Bool} {s x r:TV} {sv xv:Value} (hs:VR M J L s sv) (hx:VR M J L x xv) (f:bA mu z.length bytes el S s x=some (r,S')): ∃rv w' M' J',(Builtin.append_ ts ty #[sv,xv]).run P w=.ok rv w'/\VR M' J' L r rv/\MS P O K M' J' L S' env w'/\Tr (cR L) M J S w M' J' S' w':=by
 unfold bA at f;split at f;case h_2=>simp at f
 rename_i xs m hxs hm;split at f;.simp at f
 rename_i g;rw[G6]at g;obtain⟨g,H⟩:=g;have g:xs.length=m*z.length:=A_;have H:xs.any bH=false:=by simpa using H
 have W:=aA8 hz;obtain⟨f1,vs,f2,f3⟩:=fP h hx hxs hm g (L_ m);rw[<-g,C5]at f2;obtain⟨hd,g6⟩:=h.drew;have td:=g6.weaken (own':=cR L) (fun _ hf=>hf.elim);obtain⟨g1,hy,g2,g3⟩:=fP hd hx hxs hm g (L_ m);rw[<-g,C5]at g2;have h2:∀ {os:Tn_} {n:Nat} {base:Option Addr} {cap:Nat},sv=.slice base n cap->dS S s=some os->lenOf S s=some n->os.length=n*z.length->aVs P w.drew M J z.length n cap m base xv os xs:=by intro os n base cap p he hl N;obtain⟨_,ov,U,k3⟩:=fP hd hs he hl N (L_ n);rw[<-N,C5]at U;subst p;exact⟨g1,⟨hy,g2,g3⟩,⟨ov,U,k3⟩,N,g⟩
 split at f
 .rename_i hm0;subst hm0;split at f
  .rename_i hsl;simp at f;obtain⟨rfl,rfl⟩:=f;have g4:vs=[]:=by have:=f2.1;rw[g]at this;exact a_ (by simpa using this)
   subst g4;rcases bMx hsl hs with⟨p0,rfl⟩|⟨b,o,n,c,rfl,y⟩;.exact⟨_,w,M,J,bFd p0 h0 h1 ht hu W f1 f3,hs,h,.refl _ _ _ _ _⟩
   .refine⟨_,w,M,J,yF (b:=b) (o:=o) h0 h1 ht hu W f1 f3 A_ (w':=w) ?_,hs,h,.refl _ _ _ _ _⟩;simp[storeCells]
  .simp at f
 rename_i hm0;have F:∀ {os:Tn_} {n:Nat} {base:Option Addr} {cap:Nat},aVs P w.drew M J z.length n cap m base xv os xs->sv=.slice base n cap->cap<n+m->dY (n+m) bytes=true ->
   ∃cs c,(Builtin.append_ ts ty #[sv,xv]).run P w=.ok (.slice (some ⟨w.drew.heap.size,0,none⟩) (n+m) c) (w.drew.alloc (.cells cs el))/\n+m<=c/\cs.size=c*z.length /\
    ∀(k:Nat) (x:TV),(os++xs)[k]?=some x->∃v,cs[k]?=some v/\VR M J [] x v:=by
  intro os n base cap j p y h9
  subst p
  exact bFc h0 h1 ht hu hz hw g5 j f1 y h9
 have D:∀ {os:Tn_} {n:Nat} {base:Option Addr} {cap:Nat},aVs P w.drew M J z.length n cap m base xv os xs->sv=.slice base n cap->cap<n+m->dY (n+m) bytes=true ->
   ∃rv w' M' J',(Builtin.append_ ts ty #[sv,xv]).run P w=.ok rv w'/\VR M' J' L (.msl S.length 0 0 (n+m) (n+m) z.length) rv/\MS P O K M' J' L (S++[.cells 0 true (os++xs)]) env w' /\
    Tr (cR L) M J S w M' J' (S++[.cells 0 true (os++xs)]) w':=by
  intro os n base cap j p y h9
  obtain⟨cs,c,C,A,Y,hv⟩:=F j p y h9
  have Z:(os++xs).length<=cs.size:=by rw[H_,j.olen,g,<-D8,Y];exact D4 _ A
  obtain⟨p1,p2,p3⟩:=aQ2 hd el Z hv true 0 0
  refine⟨_,_,M,_,C,.msl _ _ _ _ _ _ _ _ _ _ c p3 (L_ _) (fun _=>⟨rfl,fun _=>rfl,A,fun q=>by simp at q,?_⟩) (L_ _) A,p1,td.trans p2 (fun b hb=>.inl hb)⟩
  show 0+c*z.length<=cs.size
  omega
 split at f
 .rename_i tg l;split at f;.simp at f
  rename_i hnf;simp at hnf;obtain⟨ga,E⟩:=hnf;split at f;.simp at f
  rename_i a;have a:dY (l.length+m) bytes=true:=by simpa using a
  have p:∃base cap,sv=.slice base l.length cap/\cap=l.length:=by
   rcases hs.iv_inv.sl_any with⟨rfl,rfl,rfl⟩|⟨b,off,cap,es,vals,rfl,h7,I,hp,h4,_⟩|⟨a0,rfl,rfl,h7⟩;case inr.inr=>exact⟨some a0,0,rfl,rfl⟩
   .exact⟨none,0,rfl,rfl⟩
   .exact⟨_,cap,rfl,h4 (by cases tg<;>simp_all)⟩
  obtain⟨base,cap,p,h5⟩:=p;subst h5;have I:∀c∈l,c.length=z.length:=by
   rcases hs.iv_inv.sl_any with⟨rfl,rfl,rfl⟩|⟨b,off,cap,es,vals,_,h7,I,hp,h4,_⟩|⟨a0,_,rfl,h7⟩;case inr.inr=>intro c y;simp at y
   .intro c y;simp at y
   .exact aKa E I
  have j:=h2 (os:=(bE l).map .iv) p rfl rfl (by rw[P_,dD I]);split at f;.simp at f;obtain⟨rfl,rfl⟩:=f;exact D j p A_ a
  .split at f
   .rename_i ys hys;simp at f;obtain⟨rfl,rfl⟩:=f;obtain⟨cs,c,C,A,Y,hv⟩:=F j p A_ a;have h8:ys.length=m*z.length:=by rw[(iO hys).1,g]
    obtain⟨q1,q2,q3⟩:=tL h8;have Q:∀c∈l++cN z.length m ys,c.length=z.length:=by
     intro c y;rcases U_.1 y with y|y;.exact I c y
     .exact q2 c y
    have G:(l++cN z.length m ys).length=l.length+m:=by rw[H_,q3]
    obtain⟨M',J',p1,p2,p3⟩:=aM3 hd (l:=l++cN z.length m ys) (es:=z.length) (cap:=c) (cs:=cs) el A_ Q (by rw[G];exact A) Y (by rw[pA,q1];exact aA9 hys hv);rw[G]at p1 p2 p3;exact⟨_,_,M',J',C,p3,p1,td.trans p2 (fun b hb=>.inl hb)⟩
   .split at f;.rename_i hl0;subst hl0;simp at f;obtain⟨rfl,rfl⟩:=f;have:=D j p A_ a;simpa[bE] using this
    .simp at f
 .rename_i i l;split at f
  .rename_i n e te ys hSi hys;split at f
   .rename_i y;simp at y;obtain⟨⟨⟨⟨rfl,rfl⟩,rfl⟩,E⟩,a⟩:=y;simp at f;obtain⟨rfl,rfl⟩:=f;have hi:=hs;cases hs with
    |tsl L i es loc b o c hJ hlo hv ha hrr =>
     have h3:=h.wr.blk i loc _ hJ hSi;generalize hsi0:aG.tok l.length z.length te=s0 at h3;cases h3 with
     |tok n' cs' e' fz hlo' hnv hb Y y hes0 Z hsp hfz htt =>
      simp at hsi0;obtain⟨gb,T,hq⟩:=hsi0;obtain⟨rfl,rfl,rfl,I⟩:=ha A_;have h8:ys.length=m*z.length:=by rw[(iO hys).1,g]
      obtain⟨q1,q2,q3⟩:=tL h8;have Q:∀c∈l++cN z.length m ys,c.length=z.length:=by
       intro c y;rcases U_.1 y with y|y;.rw[T];exact I c y
       .exact q2 c y
      have G:(l++cN z.length m ys).length=l.length+m:=by rw[H_,q3]
      by_cases hroomy:l.length+m<=loc.cap;.obtain⟨w',M',J',k1,U,k3,k4⟩:=aM4 h hJ (n:=l.length) (by rw[hSi,T,hq]) (l:=l) (l2:=cN z.length m ys) rfl (by rw[q3];omega) (by rw[<-T];exact Q) hrr (by rw[q3];exact hroomy) f2 (by rw[q1];exact hys) H;rw[G,<-T,<-hq]at U k3;rw[G]at k4;rw[<-T]at k1;exact⟨_,w',M',J',yF h0 h1 ht hu W f1 f3 hroomy k1,k4,U,k3⟩
      .have j:=h2 (os:=(bE l).map .iv) (base:=some ⟨loc.cb,loc.d,none⟩) (cap:=loc.cap) rfl rfl rfl (by rw[P_,dD I,T]);obtain⟨cs,c,C,A,V,h6⟩:=F j rfl A_ a;obtain⟨M',J',p1,p2,p3⟩:=aKe hd hJ hlo (l:=l++cN z.length m ys) (by rw[G];omega) (es:=z.length) (cap:=c) (cs:=cs) te A_ Q (by rw[G];exact A) V (by rw[pA,q1];exact aA9 hys h6);rw[G]at p1 p2 p3;exact⟨_,_,M',J',C,p3,p1,td.trans p2 (fun b hb=>.inl hb)⟩
     |_=>simp at hsi0
   .simp at f
  .simp at f
 .rename_i b0 v off len cap e;split at f;case h_2=>simp at f
  rename_i v' loose cs hSi;split at f;.simp at f
  rename_i hev;rw[G6]at hev;obtain⟨he,hv⟩:=hev;have he:e=z.length:=A_;have hv:v'=v:=A_;subst he;subst hv;have hi:=hs;cases hs with
  |msl L i ver off len cap es loc b o c hJ hvv ha hl hlc =>
   have h3:=h.wr.blk b0 loc _ hJ hSi;generalize hsi0:aG.cells v' loose cs=s0 at h3;cases h3 with
   |cells loose' cs2 cs' ee fz hlo hb Y Z hvals hfz hmm =>
    simp at hsi0;obtain⟨R,rfl,rfl⟩:=hsi0;obtain⟨rfl,ho,g7,h5,hh⟩:=ha R;split at f
    .rename_i hroomy;split at f
     .rename_i E;simp at f;obtain⟨rfl,rfl⟩:=f;have ho:=ho A_;have hj:setCells env S (.ptr b0 v' (off+len*z.length)) xs=some (env,S.set b0 (.cells v' loose (put cs (off+len*z.length) xs))):=by rw[D8]at E;have:off+len*z.length+xs.length<=cs.length:=A_;simp only[setCells,H,hSi,this];simp
      obtain⟨b',o',w',e1,e2,e3,e4,_⟩:=nO h hj (va:=.pointer (some ⟨loc.cb,o+len*z.length,none⟩)) (.ptr _ _ _ _ loc _ _ hJ hvv (fun _=>⟨rfl,by omega⟩)) f2;simp at e1;obtain⟨rfl,rfl⟩:=e1;exact⟨_,w',M,J,yF h0 h1 ht hu W f1 f3 A_ e2,.msl _ _ _ _ _ _ _ loc _ _ _ hJ hvv (fun _=>⟨rfl,fun _=>ho,g7,h5,hh⟩) hroomy A_,e3,e4⟩
     .simp at f
    .rename_i hroomy;split at f;.simp at f
     rename_i a;have a:dY (len+m) bytes=true:=by simpa using a
     split at f;case h_2=>simp at f
     rename_i old hsub;have N:=(iH hsub).2.2;have g8:At w M J loc.cb o old:=by obtain⟨b',o',c',k1,_,U,_⟩:=aQ0 (n:=len) h hi hl;simp at k1;obtain⟨⟨rfl,rfl⟩,rfl⟩:=k1;exact(U loose cs old hSi hsub).2
     have j:=h2 (os:=old) (base:=some ⟨loc.cb,o,none⟩) (cap:=c) rfl (by simp[dS,hSi,hsub]) rfl N;split at f
     .rename_i hlt;simp at f;obtain⟨rfl,rfl⟩:=f;by_cases hroom2:len+m<=c;.have hn:(len+m)*z.length<=c*z.length:=D4 _ hroom2;rw[D8]at hn;obtain⟨w',k1,U,k3,k4⟩:=aGd h hJ (by rw[hlo,hlt]) (by rw[hSi,R,hlt]) g8 f2 A_ H;rw[N]at k1;rw[<-R]at U k3 k4;exact⟨_,w',M,_,yF h0 h1 ht hu W f1 f3 hroom2 k1,.msl _ _ _ _ _ _ _ _ _ _ c k4 (L_ _) (fun _=>⟨rfl,fun _=>rfl,hroom2,fun q=>by simp[hlo,hlt]at q,hh⟩) (L_ _) hroom2,U,k3⟩
      .obtain⟨hk,c3,C,A,V,h6⟩:=F j rfl A_ a;have hg:(old++xs).length<=hk.size:=by rw[H_,N,g,<-D8,V];exact D4 _ A
       obtain⟨U,k3,k4⟩:=aEc hd hJ (by rw[hlo,hlt]) el hg h6;rw[<-R]at U k3 k4;exact⟨_,_,M,_,C,.msl _ _ _ _ _ _ _ _ _ _ c3 k4 (L_ _) (fun _=>⟨rfl,fun _=>rfl,A,fun q=>by simp at q,by show 0+c3*z.length<=hk.size;omega⟩) (L_ _) A,U,td.trans k3 (fun b hb=>.inl hb)⟩
     .rename_i hlt;simp at f;obtain⟨rfl,rfl⟩:=f;have g9:=h5 (by rw[hlo];simpa using hlt);exact D j rfl A_ a
   |_=>simp at hsi0
 .simp at f
theorem aQ3{n:Int}(b:0<=n)(a:n<=35184372088832):IntKind.i64.wrap n=n:=by unfold IntKind.wrap;simp[IntKind.bits,IntKind.signed];omega
theorem bMy(h:MS P O K M J L S env w){t u el ty:TypeId}{ts:Array TypeId}(h0:ts[0]?=some t)(h1:ts[1]?=some u)(ht:P.underlying t=some (.slice el)){k:IntKind}(hu:P.underlying u=some (.int k)) {z:Tq_} (hz:eT P el=some z) (hh:z.length≠0) {bytes:Nat} (p:bytesOf? P el=some bytes) (he:bytes≠0) {s r:TV} {n:Int} {k':IntKind} {V:Value} (W:VR M J L s V) (f:rF z.length bytes el S s n=some (r,S')): ∃rv w' M' J',(Builtin.append_ ts ty #[V,.int k' n]).run P w=.ok rv w'/\VR M' J' L r rv/\MS P O K M' J' L S' env w'/\Tr (cR L) M J S w M' J' S' w':=by
 unfold rF at f;split at f;case h_2=>simp at f
 rename_i tg l;split at f;.simp at f
 rename_i hnf;simp at hnf;obtain⟨⟨h6,y⟩,h7⟩:=hnf;split at f;case isFalse=>simp at f
 rename_i hroom;simp at f;obtain⟨rfl,rfl⟩:=f;obtain⟨i,Q,hi,R,F,T,h8,hj⟩:=iD hz;obtain⟨r1,r2,r3⟩:=aEb hroom;have N:i.bytes=bytes:=by unfold bytesOf? at p;rw[hi]at p;simpa using p
 have v:∃base cap,V=.slice base l.length cap/\cap=l.length:=by
  rcases W.iv_inv.sl_any with⟨rfl,rfl,rfl⟩|⟨b,off,cap,es,vals,rfl,x,d,I,e,_⟩|⟨a0,rfl,rfl,x⟩;case inr.inr=>exact⟨some a0,0,rfl,rfl⟩
  .exact⟨none,0,rfl,rfl⟩
  .exact⟨_,cap,rfl,e (by cases tg<;>simp_all)⟩
 obtain⟨base,cap,v,A⟩:=v;subst A;have d:∀c∈l,c.length=z.length:=by
  rcases W.iv_inv.sl_any with⟨rfl,rfl,rfl⟩|⟨b,off,cap,es,vals,_,x,d,I,e,_⟩|⟨a0,_,rfl,x⟩;case inr.inr=>intro c U;simp at U
  .intro c U;simp at U
  .exact aKa y d
 obtain⟨hd,Z⟩:=h.drew;have td:=Z.weaken (own':=cR L) (fun _ hf=>hf.elim);have j:((bE l).map TV.iv).length=l.length*z.length:=by rw[P_,dD d]
 obtain⟨_,D,k2,k3⟩:=fP hd W (xs:=(bE l).map .iv) rfl rfl j (L_ l.length);rw[<-j,C5]at k2;subst v;have C:IntKind.i64.wrap n=n:=aQ3 A_ A_;have hg:l.length<l.length+n.toNat:=A_;have h5:=growslice_fits (bytes:=bytes) hg A_;have hn:¬(l.length+n.toNat<=l.length):=A_;have H:¬(281474976710656<Builtin.nextslicecap (l.length+n.toNat) l.length*i.bytes):=by rw[N];omega
 have h3:¬(i.bytes=0):=A_;have h4:=grownCap_ge w (l.length+n.toNat) l.length el;have Y:¬(281474976710656<n*(i.bytes:Int)):=by have e1:(n.toNat:Int)=n:=A_;have:n.toNat*bytes<=35184372088832:=C0 (D4 _ A_) r1;have h9:((n.toNat*bytes:Nat):Int)<=((35184372088832:Nat):Int):=Int.ofNat_le.2 this;rw[Int.natCast_mul,e1]at h9;rw[N];omega
 have h2:¬(n.toNat*i.size=0):=by rw[F];intro q;rcases Nat.mul_eq_zero.1 q with q|q<;>omega
 have E:¬(n<0):=A_;rw[<-F]at k3;have G:(Builtin.append_ ts ty #[.slice base l.length l.length,.int k' n]).run P w=.ok (.slice (some ⟨w.heap.size,0,none⟩) (l.length+n.toNat) (grownCap w (l.length+n.toNat) l.length el))
   (w.drew.alloc (.cells (D.toArray++Builtin.zeroCells Q.cells n.toNat++Builtin.zeroCells Q.cells (grownCap w (l.length+n.toNat) l.length el-(l.length+n.toNat))) el)):=by
  simp[Builtin.append_,h0,h1,und ht,und hu,sizeOf,typeInfo,zeroValue,hi,R,asInt,asIntOf,C,E,Y,hn,h3,H,h2,Question.forced,k3,newRow,grownCap]
  intro q
  have hm:max n 0=n:=A_
  exact absurd q A_
 have A:l.length<=grownCap w (l.length+n.toNat) l.length el:=A_;have g:D.length=l.length*z.length:=by rw[k2.1,j]
 obtain⟨M',J',p1,p2,p3⟩:=aM3 hd (l:=l) (es:=z.length) (cap:=grownCap w (l.length+n.toNat) l.length el)
  (cs:=D.toArray++Builtin.zeroCells Q.cells n.toNat++Builtin.zeroCells Q.cells (grownCap w (l.length+n.toNat) l.length el-(l.length+n.toNat))) el A_ d A (by
   simp only[K7,I4,size_zeroCells,T,g,<-D8];congr 1;omega) (fun k a hk=>by
   have m:k<D.length:=by rw[g,<-dD d];exact(E_.1 hk).1
   refine⟨D[k],?_,?_⟩;.rw[Array.append_assoc,G8 (by simpa using m)];simp[m]
   .exact(k2.2 k (.iv a) _ (by simp[hk]) (D_ m)).iv_inv)
 refine⟨_,_,M',J',G,?_,p1,td.trans p2 (fun b N=>.inl N)⟩;cases p3 with
 |tsl L i es loc b o c hJ hlo hv ha hrr=>exact .rsv _ _ _ _ loc _ _ _ hJ hlo hv ha h4 hrr
theorem bMz(h:MS P O K M J L S env w){t el ty:TypeId}{ts:Array TypeId}(y:ts[0]?=some t)(u:P.underlying t=some (.slice el)){es:Nat}(N:sizeOf? P el=some es) {d s r:TV} {W I:Value} (E:VR M J L d W) (F:VR M J L s I) (a:aJ5 es S d s=some (r,S')): ∃R w',(Builtin.copy_ ts ty #[W,I]).run P w=.ok R w'/\VR M J L r R/\MS P O K M J L S' env w'/\Tr (cR L) M J S w M J S' w':=by
 unfold aJ5 at a;have g:=run_size? N w;split at a
 .rename_i b v off len cap e xs m hxs hm;split at a;.simp at a
  rename_i hc;rw[G6]at hc;obtain⟨C,f⟩:=hc;have C:e=es:=A_;have f:xs.length=m*es:=A_;subst C;obtain⟨l,vs,q,k⟩:=fP h F hxs hm f (Nat.min_le_left m len);have Y:=E;cases E with
  |msl L i ver off len cap es loc b' o c hJ hvv ha hl hlc =>
   simp only at a;split at a
   .rename_i hn0;simp at a;obtain⟨rfl,rfl⟩:=a;have j:vs=[]:=by have:=q.1;rw[hn0]at this;exact a_ (by simpa using this)
    subst j;refine⟨.int .i64 ((Nat.min m len:Nat):Int),w,?_,?_,h,.refl _ _ _ _ _⟩;.simp[Builtin.copy_,y,und u,l,g,Nat.min_def]at k |-;simp[k,storeCells,goInt]
    .have:Nat.min m len=0:=hn0;rw[this];exact .iv _ (.int _ _)
   .rename_i hn0;split at a;case h_2=>simp at a
    rename_i v' loose cs hSi;split at a;case isFalse=>simp at a
    rename_i hc;obtain⟨rfl,D,n⟩:=hc;simp at a;obtain⟨rfl,rfl⟩:=a;have H:=h.wr.blk b loc _ hJ hSi;have z:v'=loc.ver:=by cases H;rfl
    obtain⟨rfl,V,_⟩:=ha z;have V:=V A_;have T:min m len*e<=m*e:=D4 _ (Nat.min_le_left m len);have G:(xs.take (min m len*e)).length=min m len*e:=by simp;omega
    have p:(xs.take (min m len*e)).any bH=false:=by rw[q_]at n |-;exact fun x Z=>n x (Y6 Z)
    have A:setCells env S (.ptr b v' off) (xs.take (min m len*e))=some (env,S.set b (.cells v' loose (put cs off (xs.take (min m len*e))))):=by simp only[setCells,p,hSi,G];simp[D]
    obtain⟨b',o',w',U,e2,e3,e4,_⟩:=nO h A (va:=.pointer (some ⟨loc.cb,o,none⟩)) (.ptr _ _ _ _ loc _ _ hJ hvv (fun _=>⟨rfl,by omega⟩)) q;simp at U;obtain⟨rfl,rfl⟩:=U;refine⟨.int .i64 ((Nat.min m len:Nat):Int),w',?_,.iv _ (.int _ _),e3,e4⟩;have Q:(Builtin.firstCells e (m.min len) I).run P w=.ok vs.toArray w:=k;simp[Builtin.copy_,y,und u,l,g,Q,e2,goInt]
 .rename_i tg xs m hxs hm;split at a;case isFalse=>simp at a
  rename_i f;simp at a;obtain⟨rfl,rfl⟩:=a;obtain⟨l,vs,q,k⟩:=fP h F hxs hm f (I8 m);have j:vs=[]:=a_ (by have:=q.1;simpa using this);subst j;refine⟨.int .i64 0,w,?_,.iv _ (.int _ _),h,.refl _ _ _ _ _⟩;rcases E.iv_inv.sl_any with⟨_,_,rfl⟩|⟨b,off,cap,es',vals,rfl,_⟩|⟨a0,rfl,_,_⟩;case inr.inr=>simp[Builtin.copy_,y,und u,l,g,k,goInt,storeCells]
  .simp[Builtin.copy_,y,und u,l,g,k,goInt]
  .simp[Builtin.copy_,y,und u,l,g,k,goInt,storeCells]
 .rename_i ti xs m hxs hm;split at a;case isFalse=>simp at a
  rename_i f;simp at a;obtain⟨rfl,rfl⟩:=a;obtain⟨l,vs,q,k⟩:=fP h F hxs hm f (I8 m);have j:vs=[]:=a_ (by have:=q.1;simpa using this);subst j;refine⟨.int .i64 0,w,?_,.iv _ (.int _ _),h,.refl _ _ _ _ _⟩;cases E with
  |tsl L i es loc b o c hJ hlo hv ha hrr=>simp[Builtin.copy_,y,und u,l,g,k,goInt,storeCells]
 .simp at a
theorem bFf(h:MS P O K M J L S env w){t el ty:TypeId}{ts:Array TypeId}(r:ts[0]?=some t)(q:P.underlying t=some (.slice el)){z:Tq_}(N:eT P el=some z){x:TV}{v:Value}(j:VR M J L x v) (d:lY z S x=some S'):∃w',(Builtin.clear_ ts ty #[v]).run P w=.ok (.tuple #[]) w'/\MS P O K M J L S' env w'/\Tr (cR L) M J S w M J S' w':=by
 obtain⟨i,H,hi,V,T,f,G,F⟩:=iD N;unfold lY at d;split at d
 .simp at d;subst d;refine⟨w,?_,h,.refl _ _ _ _ _⟩;rcases j.iv_inv.sl_any with⟨_,_,rfl⟩|⟨b,off,cap,es',vals,rfl,_⟩|⟨a0,rfl,_,_⟩;case inr.inr=>simp[Builtin.clear_,r,und q]
  .simp[Builtin.clear_,r,und q]
  .simp[Builtin.clear_,r,und q]
 .rename_i b v0 off a cap e;have W:=j;cases j with
  |msl L i ver off a cap es loc Z o c hJ hvv ha hl hlc =>
   split at d;.rename_i hl0;subst hl0;simp at d;subst d;exact⟨w,by simp[Builtin.clear_,r,und q],h,.refl _ _ _ _ _⟩
   .rename_i hl0;split at d;case h_2=>simp at d
    rename_i v' loose cs hSi;split at d;case isFalse=>simp at d
    rename_i I;obtain⟨rfl,rfl,s⟩:=I;simp at d;subst d;have D:=h.wr.blk b loc _ hJ hSi;have l:v'=loc.ver:=by cases D;rfl
    obtain⟨rfl,R,_⟩:=ha l;have R:=R A_;have g:(bE (List.replicate a (z.map TV.iv))).length=a*z.length:=by rw[dD (es:=z.length) (fun c I=>by rw[J8 I];simp)];simp
    have p:(bE (List.replicate a (z.map TV.iv))).any bH=false:=by rw[q_];intro x j;obtain⟨k,hk⟩:=H7 j;obtain⟨_,y,U,rfl⟩:=kX hk;have:=q_.1 (aM1 N) (.iv y) (r_.2 ⟨y,B9 U,rfl⟩);exact this
    have m:setCells env S (.ptr b v' off) (bE (List.replicate a (z.map TV.iv)))=some (env,S.set b (.cells v' loose (put cs off (bE (List.replicate a (z.map TV.iv)))))):=by simp only[setCells,p,hSi,g];simp[s]
    have C:VRs M J [] (bE (List.replicate a (z.map TV.iv))) (Builtin.zeroCells H.cells a).toList:=by
     refine⟨by rw[g];simp[size_zeroCells,f],fun k x u j A=>?_⟩;obtain⟨p1,y,p2,rfl⟩:=kX j;have E:u=H.cells[k % H.cells.size]! := by simp only[Builtin.zeroCells,f]at A;have:k<a*z.length:=p1;simp[this]at A;rw[f];exact A.symm
     rw[E];exact .iv _ (aKc f (F M) p2)
    obtain⟨Z,o',w',Q,e2,e3,Y,_⟩:=nO h m (va:=.pointer (some ⟨loc.cb,o,none⟩)) (.ptr _ _ _ _ loc _ _ hJ hvv (fun _=>⟨rfl,by omega⟩)) C;simp at Q;obtain⟨rfl,rfl⟩:=Q;refine⟨w',?_,e3,Y⟩;obtain⟨n,rfl⟩:∃n,a=n+1:=⟨a-1,by omega⟩
    simp[Builtin.clear_,r,und q,G,e2]
 .simp at d
theorem yH:∀(s:List UInt8),bE (rC s)=s.map fun b=>IV.int .u8 b.toNat
 |[]=>rfl
 |b::r=>by have:=yH r;simp only[rC,Q_,bE]at this |-;rw[this];rfl
theorem aKf{o:Oper}{s d e:TypeId}{x:Operand}(t:o.op=.convert s d x)(C:P.underlying s=some .string)(Q:P.underlying d=some (.slice e))(A:P.underlying e=some (.int .u8))(a:Act)(h:MS P O K M J L S env w) {ex:TV} (F:VR M J L ex (a.eval x)) {r:IV} (j:dB .strBytes ex=some r) {top:TOp} (l:aP top=none):cJ P O K top M J L S env w (execOp a.eval o) (.iv r) env S:=by
 unfold dB at j;split at j;case h_1=>simp_all
 case h_2=>simp_all
 case h_3=>simp_all
 case h_5=>simp at j
 rename_i str _;split at j;case isFalse=>simp at j
 simp at j;subst j;have f:=run_bytes_of_string (P:=P) w s d e ⟨str.toArray⟩ C Q A;generalize hcap:grownCap w (⟨str.toArray⟩:ByteArray).size 0 e=cap at f;have D:str.length<=cap:=by have:=grownCap_ge w (⟨str.toArray⟩:ByteArray).size 0 e;rw[oX]at this hcap;omega
 generalize hrow:bytesRow ⟨str.toArray⟩ cap=row at f;have n:∀(k:Nat) (b:UInt8),str[k]?=some b->row[k]?=some (.int .u8 b.toNat):=by intro k b g;have i:=(E_.1 g).1;rw[<-hrow];unfold bytesRow;rw[G8 (by simpa using i)];simp[g]
 obtain⟨m,q⟩:=h.drew;have R:=q.weaken (own':=cR L) (fun _ E=>E.elim);have N:∀o v,oG row str.length o=some v->(w.drew.alloc (.cells row e (row.size,row.size+1))).cell? ⟨w.drew.heap.size,o,none⟩=some v:=by
  intro o v p;unfold oG at p;split at p;.rw[dV (cX w.drew _)];exact p
  .simp at p
 obtain⟨I,p2⟩:=m.wr.alloc (fun _=>False) (.cells row e (row.size,row.size+1)) (oG row str.length) N;obtain⟨H,G⟩:=m.step' I p2;refine .mk0 l (r:=.value (.slice (some ⟨w.heap.size,0,none⟩) (⟨str.toArray⟩:ByteArray).size cap)) ?_ (.inl ⟨_,rfl,.iv _ ?_⟩) H (R.trans G (fun b g=>.inl g)) (.refl _);.simp only[execOp,t,F.str_inv,Sem.run_bind,f];rfl
 .have y:(rC str).length=str.length:=by simp[rC]
  rw[oX,<-y];refine aM2 (es:=1) B_ (fun c z=>?_) A_ B_ fun k a u=>?_;.simp only[rC,r_]at z;obtain⟨b,_,rfl⟩:=z;rfl
  .rw[yH]at u;simp only[l_,G_]at u;obtain⟨b,g,rfl⟩:=u;refine⟨_,?_,.int _ _⟩;have i:=(E_.1 g).1;show(M.ext w.drew.heap.size (oG row (rC str).length)) w.heap.size (0+k)=_;unfold Mem.ext oG;rw[y,K_ (show w.heap.size=w.drew.heap.size from rfl),A9,K_ i];exact n k b g
theorem aHl{x:TV}{v:Value}(h:VR M J L x v):VR M J L (mX x) v:=by
 unfold mX;split;.rename_i a ha;exact .iv _ (yD ha h)
 .exact h
theorem aEd:∀(vs:List Value) (off j:Nat) (cs:Array Value),(vs.zipIdx j).foldl (fun cs (c,j)=>cs.setIfInBounds (off+j) c) cs=sH cs (off+j) vs
 |[],_,_,_=>rfl
 |v::r,off,j,cs=>by simp only[List.zipIdx_cons,List.foldl_cons,sH];rw[aEd r off (j+1)];rfl
theorem aHm(a:Nat->Option (Nat×Nat)){i off n:Nat}{v:Value}{b:List (Nat×Value)}{cells:Array Value}(f:a i=some (off,n))(d:v.cells.size=n)(c:off+n<=cells.size): Instr.fill a cells ((i,v)::b)=Instr.fill a (sH cells off v.cells.toList) b:=by
 rw[Instr.fill,f];have e:(v.cells.size≠n||off+v.cells.size>cells.size)=false:=by simp[d];omega
 simp only[e,Y_,I5];congr 1;have:=aEd v.cells.toList off 0 cells;simp only[Nat.add_zero]at this;rw[<-this,<-Array.foldl_toList];simp
theorem aM5{ev:aH->TV}(b:Nat->Option (Nat×Nat)):∀ {ps:List (Nat×Nat×aH)} {us:List (Nat×Value)} {cs out:Tn_} {cells:Array Value},us.length=ps.length ->(∀(k:Nat) (p:Nat×Nat×aH) (u:Nat×Value),ps[k]?=some p->us[k]?=some u->b u.1=some (p.1,p.2.1)/\VR M J L (ev p.2.2) u.2)->VRs M J [] cs cells.toList->fill cs ev ps=some out ->∃a,Instr.fill b cells us=some a/\VRs M J [] out a.toList
 |[],us,cs,out,cells,hl,hp,hc,hf=>by have:us=[]:=a_ (by simpa using hl);subst this;simp[fill]at hf;subst hf;exact⟨cells,rfl,hc⟩
 |(off,n,x)::ps,us,cs,out,cells,hl,hp,hc,hf=>by
  cases us with
  |nil=>simp at hl
  |cons u us =>
   simp only[fill]at hf;split at hf;case isFalse=>simp at hf
   rename_i hcond;obtain⟨r,t,s⟩:=hcond;obtain⟨m,l⟩:=hp 0 _ _ rfl rfl;have h:=tH (aHl l) s;have q:u.2.cells.size=n:=by rw[<-r];simpa using h.1
   have j:cells.size=cs.length:=by simpa using hc.1
   have c:off+(cellsOf (mX (ev x))).length<=cs.length:=A_;have e:=hc.put h c;obtain⟨a,i,o⟩:=aM5 b (cells:=sH cells off u.2.cells.toList) (by simpa using hl) (fun k p u g f=>hp (k+1) p u (by simpa using g) (by simpa using f)) e hf;refine⟨a,?_,o⟩;rw[<-i];have d:off+n<=cells.size:=A_;exact aHm b m q d
theorem aM6{α:Type}{es:Nat}:∀ {l:List (List α)} {i:Nat} {c:List α},(∀c∈l,c.length=es)->c.length=es->i<l.length->bE (l.set i c)=put (bE l) (i*es) c
 |[],i,c,_,_,h=>by simp at h
 |a::r,i,c,hl,b,h=>by
  have e:=hl a B_;have d:∀c∈r,c.length=es:=fun c b=>hl c (by simp[b]);cases i with
  |zero =>simp only[List.set_cons_zero,bE,put,P9,List.take_zero,List.nil_append,A9,b];rw[J9 A_,<-e,D7,List.nil_append]
  |succ i =>
   simp only[List.set_cons_succ,bE];rw[aM6 d b (by simpa using h)];unfold put;have f:(i+1)*es=a.length+i*es:=by rw[e,D8];omega
   have e2:(i+1)*es+c.length=a.length+(i*es+c.length):=A_;rw[e2,f,List.take_length_add_append,List.drop_length_add_append];simp
theorem aEe{ev:aH->TV}{n:Nat}:∀ {ps:List (Nat×aH)} {us:List (Nat×Value)} {es out:List (List TV)} {cells:Array Value},us.length=ps.length ->(∀(k:Nat) (p:Nat×aH) (u:Nat×Value),ps[k]?=some p->us[k]?=some u->u.1=p.1/\VR M J L (ev p.2) u.2)->(∀c∈es,c.length=n)->VRs M J [] (bE es) cells.toList->dX es n ev ps=some out ->∃a,Instr.fill (fun i=>some (i*n,n)) cells us=some a/\VRs M J [] (bE out) a.toList/\(∀c∈out,c.length=n)/\out.length=es.length
 |[],us,es,out,cells,hl,hp,hes,e,hf=>by have:us=[]:=a_ (by simpa using hl);subst this;simp[dX]at hf;subst hf;exact⟨cells,rfl,e,hes,rfl⟩
 |(i,x)::ps,us,es,out,cells,hl,hp,hes,e,hf=>by
  cases us with
  |nil=>simp at hl
  |cons u us =>
   simp only[dX]at hf;split at hf;case isFalse=>simp at hf
   rename_i hcond;obtain⟨l,o,t⟩:=hcond;obtain⟨y,w⟩:=hp 0 _ _ rfl rfl;have q:=tH (aHl w) t;have D:u.2.cells.size=n:=by rw[<-l];simpa using q.1
   have E:=dD hes;have v:cells.size=(bE es).length:=by simpa using e.1
   have g:(i+1)*n<=es.length*n:=D4 _ o;rw[D8]at g;have d:i*n+(cellsOf (mX (ev x))).length<=(bE es).length:=A_;have b:=e.put q d;have f:∀c∈es.set i (cellsOf (mX (ev x))),c.length=n:=by
    intro c e;rcases V1 e with h|h;.exact hes c h
    .rw[h,l]
   rw[<-aM6 hes l o]at b;obtain⟨a,r,A,z,s⟩:=aEe (cells:=sH cells (i*n) u.2.cells.toList) (by simpa using hl) (fun k p u j m=>hp (k+1) p u (by simpa using j) (by simpa using m)) f b hf;refine⟨a,?_,A,z,by rw[s];simp⟩;rw[<-r];have C:(fun i=>some (i*n,n):Nat->Option (Nat×Nat)) u.1=some (i*n,n):=by show some (u.1*n,n)=_;rw[y]
   exact aHm _ C D A_
theorem aBa:∀ {es:List (List TV)} {l:Tp_},kB es=some l->es=l.map (·.map .iv)
 |[],l,h=>by simp[kB]at h;subst h;rfl
 |c::r,l,h=>by
  simp only[kB]at h;split at h;.rename_i a l' h1 h2;simp at h;subst h;rw[wS h1,aBa h2];rfl
  .simp at h
theorem aBb:∀(l:Tp_),bE (l.map (·.map TV.iv))=(bE l).map .iv
 |[]=>rfl
 |a::r=>by simp[bE,aBb r]
theorem bFg(h:MS P O K M J L S env w){n:Nat}{es:List (List TV)}{cells:Array Value}(el:TypeId)(g:∀c∈es,c.length=n)(i:VRs M J [] (bE es) cells.toList){l:Tp_}(t:kB es=some l): ∃M',VR M' J L (.iv (.sl .full l)) (.slice (some ⟨w.heap.size,0,none⟩) es.length es.length)/\MS P O K M' J L S env (w.alloc (.cells cells el))/\Tr (cR L) M J S w M' J S (w.alloc (.cells cells el)):=by
 have x:=dD g;have d:cells.size=(bE es).length:=by simpa using i.1
 have j:=aBa t;subst j;have s:∀o v,oG cells cells.size o=some v->(w.alloc (.cells cells el)).cell? ⟨w.heap.size,o,none⟩=some v:=fun o v u=>aKd cells _ el o v u;obtain⟨r,p2⟩:=h.wr.alloc (fun _=>False) (.cells cells el) (oG cells cells.size) s;obtain⟨q,p⟩:=h.step' r p2;have f:=h.wr.mle_ext (oG cells cells.size);refine⟨_,.iv _ ?_,q,p⟩;rw[P_];have e:∀c∈l,c.length=n:=fun c i=>by have:=g (c.map .iv) (r_.2 ⟨c,i,rfl⟩);simpa using this
 refine aM2 (es:=n) B_ e (L_ _) (fun _=>rfl) fun k a m=>?_;rw[aBb]at i d;have b:k<cells.size:=by rw[d,P_];exact(E_.1 m).1
 refine⟨cells[k],?_,((i.2 k (.iv a) _ (by simp[m]) (by simp[b])).iv_inv).mono f⟩;unfold Mem.ext oG;rw[K_ rfl,A9,K_ b];exact A4 b
theorem sC:∀ {a:List Field} {b:List (Nat×Nat)},a.mapM (fun f=>(P.info? f.type).map fun i=>(f.offset,i.size))=some b->∀(i:Nat) (f:Field) (n:Nat),a[i]?=some f->sizeOf? P f.type=some n->b[i]?=some (f.offset,n)
 |[],b,h,i,f,n,hf,hn=>by simp at hf
 |g::a,b,h,i,f,n,hf,hn=>by
  simp only[List.mapM_cons,Option.bind_eq_bind,Option.pure_def]at h;cases hi:(P.info? g.type)with
  |none=>simp[hi]at h
  |some ti =>
   cases hr:a.mapM (fun f=>(P.info? f.type).map fun i=>(f.offset,i.size))with
   |none=>simp[hi,hr]at h
   |some pl' =>
    simp[hi,hr]at h;subst h;cases i with
    |zero =>simp at hf;subst hf;simp[sizeOf?,hi]at hn;simp[hn]
    |succ i=>simpa using sC hr i f n (by simpa using hf) hn
theorem aHn{o:Oper}{t:TypeId}{ps:Array (Nat×Operand)}(T:o.op=.build t ps){z:Tq_}(hz:eT P t=some z){ev:aH->TV}{tps:List (Nat×Nat×aH)}(a:Act)(h:MS P O K M J L S env w) (hl:ps.size=tps.length) (q:∀(k:Nat) (p:Nat×Nat×aH) (u:Nat×Operand),tps[k]?=some p->ps[k]?=some u->VR M J L (ev p.2.2) (a.eval u.2) /\((∃j f,P.underlying t=some (.struct j)/\(aJ7 P j).isSome=true/\j[u.1]?=some f/\p.1=f.offset/\sizeOf? P f.type=some p.2.1)\/∃n e,P.underlying t=some (.array n e)/\sizeOf? P e=some p.2.1/\p.1=u.1*p.2.1)) (ht:(∃j,P.underlying t=some (.struct j)/\(aJ7 P j).isSome=true)\/∃n e s,P.underlying t=some (.array n e)/\sizeOf? P e=some s) {cs:Tn_} (hf:fill (z.map .iv) ev tps=some cs) {top:TOp} (F:aP top=none): cJ P O K top M J L S env w (execOp a.eval o) (rY cs) env S:=by
 obtain⟨i,Z,Y,C,h0,N,h3,Q⟩:=iD hz;have R:VRs M J [] (z.map .iv) Z.cells.toList:=aD9 N Q;have key:∀(c:Nat->Option (Nat×Nat)),(∀(k:Nat) (p:Nat×Nat×aH) (u:Nat×Operand),tps[k]?=some p->ps[k]?=some u->c u.1=some (p.1,p.2.1)) ->
   ∃b,Instr.fill c Z.cells (ps.toList.map fun(i,x)=>(i,a.eval x))=some b/\VRs M J [] cs b.toList:=by
  intro c r
  refine aM5 (L:=L) c (by simpa using hl) (fun k p u A d=>?_) R hf
  simp only[l_,G_]at d
  obtain⟨I,g,rfl⟩:=d
  have g:ps[k]?=some I:=by simpa using g
  exact⟨r k p I A g,(q k p I A g).1⟩
 have fin:∀b,P.built t (ps.map fun(i,x)=>(i,a.eval x)).toList=some b->VRs M J [] cs b.toList->cJ P O K top M J L S env w (execOp a.eval o) (rY cs) env S:=by
  intro b E H;have D:=run_build (P:=P) w t (ps.map fun(i,x)=>(i,a.eval x)) b E;refine .pure F h (v':=.agg b) ?_ ?_;.simp only[execOp,T,Sem.run_bind];rw[D];rfl
  .have:=xY (L:=L) H;simpa using this
 rcases ht with⟨j,d,r⟩|⟨n,e,s,d,V⟩
 .obtain⟨W,l⟩:=O7.1 r;obtain⟨b,E,H⟩:=key (W.toArray[·]?) (fun k p u A y=>by
   rcases(q k p u A y).2 with⟨fs',f,q1,_,q2,q3,q4⟩|⟨n,e,q1,_⟩;.rw[d]at q1;simp at q1;subst q1;have:=sC l u.1 f p.2.1 (by simpa using q2) q4;simp[this,q3]
   .rw[d]at q1;simp at q1)
  refine fin b ?_ H;unfold Program.built;rw[Y,d];have m:(j.toList.mapM fun f=>(P.info? f.type).map fun i=>(f.offset,i.size))=some W:=l;simp only[C,m];simpa using E
 .obtain⟨b,E,H⟩:=key (fun i=>some (i*s,s)) (fun k p u A y=>by
   rcases(q k p u A y).2 with⟨fs',f,q1,_⟩|⟨n,e',q1,q2,q3⟩;.rw[d]at q1;simp at q1
   .rw[d]at q1;simp at q1;obtain⟨rfl,rfl⟩:=q1;rw[V]at q2;simp at q2;subst q2;simp[q3])
  obtain⟨_,ie,U,G⟩:=cellsOf_size? V;refine fin b ?_ H;unfold Program.built;rw[Y,d];simp only[C,U,G];simpa using E
theorem aVt{o:Oper}{t el:TypeId}{b:Nat}{ps:Array (Nat×Operand)}(v:o.op=.buildSlice t b ps)(U:P.underlying t=some (.slice el)){z:Tq_}(T:eT P el=some z)(h0:z.length≠0)(V:b*z.length<=16777216){ev:aH->TV} {tps:List (Nat×aH)} (a:Act) (hl:ps.size=tps.length) (C:∀(k:Nat) (p:Nat×aH) (u:Nat×Operand),tps[k]?=some p->ps[k]?=some u->u.1=p.1/\VR M J L (ev p.2) (a.eval u.2)) {es:List (List TV)} (hf:dX (List.replicate b (z.map .iv)) z.length ev tps=some es): ∃cells,(∀c∈es,c.length=z.length)/\VRs M J [] (bE es) cells.toList/\es.length=b/\(execOp a.eval o).run P w=.ok (.value (.slice (some ⟨w.heap.size,0,none⟩) es.length es.length)) (w.alloc (.cells cells el)):=by
 obtain⟨i,j,hi,Z,W,D,Q,N⟩:=iD T;have g:∀c∈List.replicate b (z.map TV.iv),c.length=z.length:=fun c hc=>by rw[J8 hc];simp
 have n:(bE (List.replicate b (z.map TV.iv))).length=b*z.length:=by rw[dD g];simp
 let base:Array Value:=(Array.range (b*z.length)).map (fun k=>j.cells[k % j.cells.size]!);have G:VRs M J [] (bE (List.replicate b (z.map TV.iv))) base.toList:=by
  refine⟨by rw[n];simp[base],fun k x u hx l=>?_⟩;obtain⟨p1,y,p2,rfl⟩:=kX hx;have H:u=j.cells[k % j.cells.size]! := by simp[base,p1]at l;exact l.symm
  rw[H];exact .iv _ (aKc D (N M) p2)
 obtain⟨d,E,h2,h3,h4⟩:=aEe (L:=L) (us:=ps.toList.map fun(i,x)=>(i,a.eval x)) (by simpa using hl) (fun k p u hp l=>by simp only[l_,G_]at l;obtain⟨Y,I,rfl⟩:=l;exact C k p Y hp (by simpa using I)) g G hf;have r:es.length=b:=by rw[h4];simp
 refine⟨d,h3,h2,r,?_⟩;rw[r];have h:¬(16777216<b*z.length):=A_;have m:=run_size? (aA8 T) w;have e:Instr.fill (fun i=>some (i*z.length,z.length)) ((Array.range (b*z.length)).map (fun k=>j.cells[k % j.cells.size]!)) (ps.map fun(i,x)=>(i,a.eval x)).toList=some d:=by rw[<-E];simp[base]
 by_cases hln:b*z.length=0
 .have R:b=0:=by rcases Nat.mul_eq_zero.1 hln with q|q<;>omega
  subst R;have A:base=#[]:=by simp[base]
  rw[A]at E;have s:Instr.fill (fun i=>some (i*z.length,z.length)) #[] (ps.map fun(i,x)=>(i,a.eval x)).toList=some d:=by rw[<-E,Q5]
  simp only[execOp,v,Instr.buildSlice,Sem.run_bind,und U,m,newRow,Result.andThen_ok];simp only[Q5]at s;have F:∀f:Nat->Value,Array.map f (Array.range 0)=#[]:=fun f=>B_;simp[F,s]
 .simp[execOp,v,Instr.buildSlice,und U,m,h,hln,Q,newRow]at e |-;simp[e]
theorem bFh(a b:List UInt8):((⟨a.toArray⟩:ByteArray)==⟨b.toArray⟩)=(a==b):=by have h:((⟨a.toArray⟩:ByteArray)==⟨b.toArray⟩)=(a.toArray==b.toArray):=rfl;rw[h];simp
theorem vX{a b:IV}(h:qH a b=true){u v:Value}(c:IR M a u)(d:IR M b v)(n:Nat):Instr.sameBits n u v=true:=by
 unfold qH at h;split at h
 .cases c;cases d
  cases n<;>simpa[Instr.sameBits] using h
 .cases c;cases d
  cases n<;>simpa[Instr.sameBits] using h
 .cases c;cases d
  cases n<;>(simp only[Instr.sameBits,bFh];exact h)
 .simp at h
theorem tN:∀ {cs ds:Tq_} {us vs:List Value},kA cs ds=true->us.length=cs.length->vs.length=ds.length->(∀(i:Nat) (x:IV) (u:Value),cs[i]?=some x->us[i]?=some u->IR M x u) ->(∀(i:Nat) (x:IV) (u:Value),ds[i]?=some x->vs[i]?=some u->IR M x u)->∀n,us.length=vs.length/\((us.zip vs).all fun(x,y)=>Instr.sameBits n x y)=true
 |[],ds,us,vs,h,h1,h2,hu,hv,n=>by
  cases ds with
  |nil =>have:us=[]:=a_ (by simpa using h1);have:vs=[]:=a_ (by simpa using h2);subst_vars;simp
  |cons d ds=>simp[kA]at h
 |c::cs,ds,us,vs,h,h1,h2,hu,hv,n=>by
  cases ds with
  |nil=>simp[kA]at h
  |cons d ds =>
   cases us with
   |nil=>simp at h1
   |cons u us =>
    cases vs with
    |nil=>simp at h2
    |cons v vs =>simp only[kA,O_]at h;obtain⟨f,e⟩:=tN h.2 (by simpa using h1) (by simpa using h2) (fun i x u b a=>hu (i+1) x u (by simpa using b) (by simpa using a)) (fun i x u b a=>hv (i+1) x u (by simpa using b) (by simpa using a)) n;refine⟨by simp[f],?_⟩;simp only[List.zip_cons_cons,List.all_cons,O_];exact⟨vX h.1 (hu 0 c u rfl rfl) (hv 0 d v rfl rfl) n,e⟩
theorem yI{a b:IV}(h:gZ a b=true){u v:Value}(c:IR M a u)(e:IR M b v):(Instr.keyThatStays u v).run P w=.ok v w:=by
 have f:Instr.sameBits 10000 u v=true:=by
  unfold gZ at h;split at h;.obtain⟨us,rfl,k,m⟩:=c.agg_inv;obtain⟨vs,rfl,n,l⟩:=e.agg_inv;obtain⟨j,g⟩:=tN (M:=M) h (us:=us.toList) (vs:=vs.toList) (by simpa using k) (by simpa using n) (fun i x u d c=>m i x u d (by simpa using c)) (fun i x u d c=>l i x u d (by simpa using c)) 9999;show Instr.sameBits (9999+1) (.agg us) (.agg vs)=true;simp only[Instr.sameBits,O_];exact⟨by simpa using j,g⟩
  .exact vX h c e 10000
 simp[Instr.keyThatStays,f]
def RF(M:Mem)(J:aF):Option (Nat×TV)->Option (Nat×Value)->Prop
 |none,none=>True
 |some (n,x),some (m,v)=>n=m/\VR M J [] x v
 |_,_=>False
def ER(M:Mem)(J:aF)(es:List (Nat×IV×TV))(l:List MapEntry):Prop :=
 l.length=es.length/\∀(k:Nat) (x:Nat×IV×TV) (y:MapEntry),es[k]?=some x->l[k]?=some y->y.born=x.1/\IR M x.2.1 y.key/\VR M J [] x.2.2 y.val
theorem ER.cons_inv{e:Nat×IV×TV}{es:Tr_}{l:List MapEntry}(h:ER M J (e::es) l):∃y l',l=y::l'/\y.born=e.1/\IR M e.2.1 y.key/\VR M J [] e.2.2 y.val/\ER M J es l':=by
 cases l with
 |nil=>simp[ER]at h
 |cons y l' =>obtain⟨b,d,f⟩:=h.2 0 e y rfl rfl;exact⟨y,l',rfl,b,d,f,by simpa using h.1,fun k x z a c=>h.2 (k+1) x z (by simpa using a) (by simpa using c)⟩
def aEf:LK->TypeDesc->Prop
 |.bool,d=>d=.bool
 |.int,d=>∃k,d=.int k
 |.str,d=>d=.string
theorem yJ{g:LK}{d:TypeDesc}(c:aEf g d){a b:IV}{r:Bool}(h:gK g a b=some r){u v:Value}(e:IR M a u)(f:IR M b v):Instr.sameNow d u v=some r:=by
 unfold gK at h;split at h
 .cases e;cases f
  simp[aEf]at c;subst c;simpa[Instr.sameNow] using h
 .cases e;cases f
  obtain⟨k,rfl⟩:=c;split at h;.rename_i hk;subst hk;simpa[Instr.sameNow] using h
  .simp at h
 .cases e;cases f
  simp[aEf]at c;subst c;simp only[Instr.sameNow,bFh];exact h
 .simp at h
theorem yK{a:LK}{d:TypeDesc}(f:aEf a d){k:IV}{g:Value}(c:IR M k g):∀ {es:Tr_} {l:List MapEntry} {i:Nat} {r:Option (Nat×TV)},ER M J es l->findKey (.leaf a) k es i=some r ->∃b,Instr.findNow d g l i=some b/\RF M J r b
 |[],l,i,r,he,h=>by have:l=[]:=a_ (by simpa using he.1);subst this;simp[findKey]at h;subst h;exact⟨none,rfl,trivial⟩
 |e::es,l,i,r,he,h=>by
  obtain⟨y,l',rfl,_,j,p,o⟩:=he.cons_inv;simp only[findKey]at h;split at h;.rename_i hq;simp at h;subst h;exact⟨some (i,y.val),by simp[Instr.findNow,yJ f (show gK a k e.2.1=some true from hq) c j],rfl,p⟩
  .rename_i hq;obtain⟨b,n,m⟩:=yK f c o h;exact⟨b,by simp[Instr.findNow,yJ f (show gK a k e.2.1=some false from hq) c j,n],m⟩
  .simp at h
theorem tP{t:TypeId}{cK:List (Nat×LK)}(m:mJ P t=some cK){k:IV}{f:Value}(g:IR M k f):∀ {es:Tr_} {l:List MapEntry} {i:Nat} {r:Option (Nat×TV)},ER M J es l->findKey (.agg cK) k es i=some r ->∃c,(Instr.findAsking t f l i).run P w=.ok c w/\RF M J r c
 |[],l,i,r,he,h=>by have:l=[]:=a_ (by simpa using he.1);subst this;simp[findKey]at h;subst h;exact⟨none,by simp[Instr.findAsking],trivial⟩
 |e::es,l,i,r,he,h=>by
  obtain⟨y,l',rfl,_,j,u,s⟩:=he.cons_inv;have key:∀ {b:Bool},qG (.agg cK) k e.2.1=some b->(Go.Op.equal t f y.key).run P w=.ok b w:=by
   intro b a;simp only[qG]at a;split at a;.rename_i x z hz;obtain⟨us,rfl,p,p2⟩:=g.agg_inv;rw[hz]at j;obtain⟨vs,d,p3,q⟩:=j.agg_inv;rw[d];exact tK m p p2 p3 q a
   .simp at a
  simp only[findKey]at h;split at h;.rename_i hq;simp at h;subst h;exact⟨some (i,y.val),by simp[Instr.findAsking,key hq],rfl,u⟩
  .rename_i hq;obtain⟨c,o,n⟩:=tP m g s h;exact⟨c,by simp[Instr.findAsking,key hq,o],n⟩
  .simp at h
theorem vY{t:TypeId}{kk:KK}(h:iC P t=some kk):(∃b d,kk=.leaf b/\P.underlying t=some d/\aEf b d) \/∃cK,kk=.agg cK/\mJ P t=some cK/\(match P.underlying t with|some (.array _ _)|some (.struct _)=>true|_=>false)=true:=by
 unfold iC at h;split at h<;>try (simp at h;done)
 .rename_i k hk;simp at h;subst h;exact .inl ⟨_,_,rfl,hk,_,rfl⟩
 .rename_i hk;simp at h;subst h;exact .inl ⟨_,_,rfl,hk,rfl⟩
 .rename_i hk;simp at h;subst h;exact .inl ⟨_,_,rfl,hk,rfl⟩
 .rename_i hk;simp only[G_]at h;obtain⟨o,a,rfl⟩:=h;exact .inr ⟨o,rfl,a,by rw[hk]⟩
 .rename_i hk;simp only[G_]at h;obtain⟨o,a,rfl⟩:=h;exact .inr ⟨o,rfl,a,by rw[hk]⟩
theorem mM{t:TypeId}{kk:KK}(o:iC P t=some kk){k:IV}{g:Value}(f:IR M k g){es:Tr_}{l:List MapEntry}{r:Option (Nat×TV)}(e:ER M J es l)(h:findKey kk k es 0=some r): ∃a,(Instr.findKey t g l).run P w=.ok a w/\RF M J r a:=by
 rcases vY o with⟨p,d,rfl,m,j⟩|⟨cK,rfl,n,i⟩;.obtain⟨a,b,c⟩:=yK j f e h;exact⟨a,by simp[Instr.findKey,und m,b],c⟩
 .obtain⟨a,b,c⟩:=tP (P:=P) (w:=w) n f e h;exact⟨a,by rw[run_findKey_eq w i];exact b,c⟩
theorem vZ{t:TypeId}{k:LK}(a:vT P t=some k)(b:Bool)(n:Nat)(v:Value):(Instr.checkKey b (n+1) t v).run P w=.ok () w:=by unfold vT at a;unfold Instr.checkKey;split at a<;>simp at a<;>(rename_i hd;simp only[Sem.run_bind,und hd w,Result.andThen_ok];rfl)
theorem sE(c:Bool)(n:Nat){vs:Array Value}:∀ {a:List Field} {cK:List (Nat×LK)},wP P a=some cK->(∀o∈cK,o.1<vs.size)->∀ {f:Field->PUnit->Sem (ForInStep PUnit)},
  (∀ x, f x PUnit.unit = (if x.name ≠ "_" then (part x.type vs x.offset >>= fun u => Instr.checkKey c (n + 1) x.type u >>= fun _ => Pure.pure (ForInStep.yield PUnit.unit)) else Pure.pure (ForInStep.yield PUnit.unit))) →
  (forIn a PUnit.unit f).run P w=.ok PUnit.unit w
 |[],_,_,_,_,_=>B_
 |x::a,cK,h,ho,f,hf=>by
  simp only[wP]at h;split at h
  .rename_i hn;split at h;.rename_i k l hk hl;simp at h;subst h;have b:x.offset<vs.size:=ho (x.offset,k) B_;have e:=iN (P:=P) (w:=w) hk (A4 b);simp only[List.forIn_cons,hf,Sem.run_bind,K_ hn,e,Result.andThen_ok,vZ hk c n,Sem.run_pure];exact sE c n hl (fun o d=>ho o (by simp[d])) hf
   .simp at h
  .simp at h
theorem kY{t:TypeId}{kk:KK}(F:iC P t=some kk){k:IV}{s:Value}(D:IR M k s)(r:gW kk k=true)(g:Bool):(Instr.checkKey g 10000 t s).run P w=.ok () w:=by
 show(Instr.checkKey g (9999+1) t s).run P w=.ok () w;rcases vY F with⟨m,d,rfl,E,h⟩|⟨cK,rfl,a,G⟩
 .unfold Instr.checkKey;simp only[Sem.run_bind,und E w,Result.andThen_ok];cases m with
  |bool=>simp only[aEf]at h;subst h;rfl
  |int=>obtain⟨q,rfl⟩:=h;rfl
  |str=>simp only[aEf]at h;subst h;rfl
 .have l:∃cs,k=.agg cs/\∀o∈cK,o.1<cs.length:=by
   cases k with
   |agg cs =>refine⟨cs,rfl,fun o A=>?_⟩;simp only[gW,C1,p_]at r;exact r o A
   |_=>simp[gW]at r
  obtain⟨cs,rfl,c⟩:=l;obtain⟨vs,rfl,z,H⟩:=D.agg_inv;rw[<-z]at c;unfold mJ at a;split at a
  .rename_i fs hu;split at a;.simp at a
   .rw[Instr.checkKey];simp only[Sem.run_bind,und hu w,Result.andThen_ok];rw[<-Array.forIn_toList];rw[sE g 9998 a c (fun x=>by split<;>simp_all)];rfl
  .rename_i n e hu;split at a
   .rename_i m hlk;split at a
    .rename_i hsz;simp at a;subst a;rw[Instr.checkKey];simp only[Sem.run_bind,und hu w,Result.andThen_ok];simp only[Std.Legacy.Range.forIn_eq_forIn_range',Std.Legacy.Range.size,Nat.sub_zero,Nat.add_one_sub_one,Nat.div_one];have b:∀i∈List.range' 0 n,i<vs.size:=by
      intro i u;have u:i<n:=by simpa using u
      exact c (i,m) (r_.2 ⟨i,C2.2 u,rfl⟩)
     generalize List.range' 0 n=f at b;have:∀(f:Tc_),(∀i∈f,i<vs.size)->(forIn f PUnit.unit fun i (_:PUnit)=>(do
       let __do_lift <-sizeOf e
       let __do_lift <-part e vs (i*__do_lift)
       Instr.checkKey g 9999 e __do_lift
       Pure.pure (ForInStep.yield PUnit.unit):Sem (ForInStep PUnit))).run P w=.ok PUnit.unit w:=by
      intro f
      induction f with
      |nil=>intro _;simp
      |cons j f ih =>
       intro b;have p:j*1<vs.size:=by rw[H9];exact b j B_
       have C:=iN (P:=P) (w:=w) hlk (A4 p);simp only[List.forIn_cons,Sem.run_bind,run_size? hsz,C,Result.andThen_ok,vZ hlk g 9998,Sem.run_pure];exact ih (fun y v=>b y (by simp[v]))
     rw[this f b];rfl
    .simp at a
   .simp at a
  .simp at a
theorem aBc{i:Nat}{l:Loc}(h:WR P O M J S w)(e:J.at i l){es:Tr_}{a:Nat}(c:S[i]?=some (.mp es a)):∃es',w.heap[l.cb]?=some (.map es' a)/\ER M J es es'.toList/\l.loose=false:=by obtain⟨es',f,j,m,g⟩:=bE9 h e c;exact⟨es',f,⟨by simpa using j,fun k x y d b=>m k x y d (by simpa using b)⟩,g⟩
theorem ER.get{es:Tr_}{l:List MapEntry}(h:ER M J es l){k:Nat}{x:Nat×IV×TV}(b:es[k]?=some x):∃y,l[k]?=some y/\y.born=x.1/\IR M x.2.1 y.key/\VR M J [] x.2.2 y.val:=by
 have a:k<l.length:=by rw[h.1];exact(E_.1 b).1
 exact⟨l[k],D_ a,h.2 k x _ b (D_ a)⟩
theorem ER.push{es:Tr_}{l:List MapEntry}(h:ER M J es l){x:Nat×IV×TV}{y:MapEntry}(e:y.born=x.1)(f:IR M x.2.1 y.key)(g:VR M J [] x.2.2 y.val):ER M J (es++[x]) (l++[y]):=by
 refine⟨by simp[h.1],fun k a b c d=>?_⟩;rw[F0]at c d;split at c;.rename_i hk;rw[K_ (by rw[h.1];exact hk)]at d;exact h.2 k a b c d
 .rename_i hk;rw[I_ (by rw[h.1];exact hk),h.1]at d;have:k-es.length=0:=by have:=(E_.1 c).1;simp at this;omega
  rw[this]at c d;simp at c d;subst c;subst d;exact⟨e,f,g⟩
theorem ER.modify{es:Tr_}{l:List MapEntry}(h:ER M J es l)(n:Nat){f:Nat×IV×TV->Nat×IV×TV}{g:MapEntry->MapEntry} (i:∀x y,es[n]?=some x->l[n]?=some y->(g y).born=(f x).1/\IR M (f x).2.1 (g y).key/\VR M J [] (f x).2.2 (g y).val):ER M J (es.modify n f) (l.modify n g):=by
 refine⟨by simp[h.1],fun k a b c d=>?_⟩;rw[List.getElem?_modify]at c d;by_cases hk:n=k;.subst hk;simp only[K_,Option.map_eq_map,G_]at c d;obtain⟨x,j,rfl⟩:=c;obtain⟨y,e,rfl⟩:=d;exact i x y j e
 .simp only[I_ hk,Option.map_eq_map,Option.map_id']at c d;exact h.2 k a b c d
theorem ER.erase{es:Tr_}{l:List MapEntry}(h:ER M J es l)(n:Nat):ER M J (es.eraseIdx n) (l.eraseIdx n):=by
 refine⟨by simp[R0,h.1],fun k a b d c=>?_⟩;rw[List.getElem?_eraseIdx]at d c;split at d;.rename_i hk;rw[K_ hk]at c;exact h.2 k a b d c
 .rename_i hk;rw[I_ hk]at c;exact h.2 (k+1) a b d c
theorem fW{r:Nat}{a o':Obj}(h:w.heap[r]?=some a)(b:∀c e f,a≠.cells c e f):(setObj r o').run P w=.ok () {w with heap:=w.heap.setIfInBounds r o'}:=by cases a<;>simp_all[setObj,Sem.run]
theorem aGe{r:Nat}{b o':Obj}(h:w.heap[r]?=some b):(w.heap.setIfInBounds r o')[r]?=some o':=by have a:=fY h;simp[a]
theorem aEg(h:MS P O K M J L S env w){i:Nat}{l:Loc}(k:J.at i l){g o':Obj}(f:w.heap[l.cb]?=some g){s':aG}(j:∀o,M l.cb o=none) (e:∀w':World,w'.heap[l.cb]?=some o'->BR P O M J w' l s'):MS P O K M J L (S.set i s') env {w with heap:=w.heap.setIfInBounds l.cb o'} /\Tr (cR L) M J S w M J (S.set i s') {w with heap:=w.heap.setIfInBounds l.cb o'}:=by obtain⟨a,b⟩:=h.wr.write (fun _=>False) k (w':={w with heap:=w.heap.setIfInBounds l.cb o'}) (e _ (aGe f)) B_ (fun b d=>by simp[B0 d]) ⟨rfl,rfl,rfl⟩ (fun o v c=>by rw[j]at c;simp at c);exact h.step' a b
theorem tQ(h:WR P O M J S w){b:Nat}{a:Obj}(d:w.heap[b]?=some a)(g:∀c e f,a≠.cells c e f)(o:Nat):M b o=none:=by
 cases hm:M b o with
 |none=>rfl
 |some v =>have:=h.imm b o v hm;unfold World.cell? at this;rw[d]at this;cases a<;>simp_all
theorem oH(h:MS P O K M J L S env w){i:Nat}{l:Loc}(j:J.at i l)(c:l.loose=false){es es2:Array MapEntry}{a clock2:Nat}(e:w.heap[l.cb]?=some (.map es a)){ts:Tr_}(d:ER M J ts es2.toList): MS P O K M J L (S.set i (.mp ts clock2)) env {w with heap:=w.heap.setIfInBounds l.cb (.map es2 clock2)}/\Tr (cR L) M J S w M J (S.set i (.mp ts clock2)) {w with heap:=w.heap.setIfInBounds l.cb (.map es2 clock2)} :=
 aEg h j e (fun o=>tQ h.wr e B_ o) (fun w' b=>.mp ts clock2 es2 c b (by simpa using d.1) (fun k x y g f=>d.2 k x y g (by simpa using f)))
theorem aHo{t:TypeId}{z:IV}(h:aA1 P t=some z):∃a,(∀w,(zeroValue t).run P w=.ok a w)/\IR M z a:=by
 unfold aA1 at h;split at h
 .rename_i i hi;split at h;.rename_i a hz;exact⟨a,fun w=>by simp[zeroValue,typeInfo,hi,hz],aVp h⟩
  .simp at h
 .simp at h
theorem aEh{o:Oper}{t kt el:TypeId}{m k:Operand}{z:Bool}(h3:o.op=.lookup t m k z)(ht:P.underlying t=some (.map kt el)){kk:KK}(E:iC P kt=some kk){U:IV}(hz:aA1 P el=some U) (a:Act) (h:MS P O K M J L S env w) {e1 e2 r:TV} (T:VR M J L e1 (a.eval m)) (h2:VR M J L e2 (a.eval k)) {ki:IV} (hk:lK e2=some ki) (W:gW kk ki=true) {e:Option (Nat×TV)} (D:(e1=.iv .nilm/\e=none)\/∃j es f,e1=.map j/\S[j]?=some (.mp es f)/\findKey kk ki es 0=some e) (hr:r=(match e with|some (_,x)=>if z then .tup [x,.iv (.bool true)]else x|none=>if z then .tup [.iv U,.iv (.bool false)]else .iv U)) {top:TOp} (I:aP top=none): cJ P O K top M J L S env w (execOp a.eval o) r env S:=by
 obtain⟨zv,N,A⟩:=aHo (M:=M) hz;have C:=yD hk h2;have fin:∀(es:Array MapEntry) (c:Option (Nat×Value)),(Instr.findKey kt (a.eval k) es.toList).run P w=.ok c w->RF M J e c ->
   ((∃b,a.eval m=.map (some b)/\∃cl,w.heap[b]?=some (.map es cl))\/(a.eval m=.map none/\es=#[]))->cJ P O K top M J L S env w (execOp a.eval o) r env S:=by
  intro es c R F Z
  have Q:=kY (w:=w) E C W es.isEmpty
  have H:∃u,(execOp a.eval o).run P w=.ok (.value u) w/\VR M J L r u:=by
   have h0:(Instr.lookup t (a.eval m) (a.eval k) z).run P w=match c with
     |some (_,v)=>.ok (if z then .tuple #[v,.bool true]else v) w
     |none=>.ok (if z then .tuple #[zv,.bool false]else zv) w:=by
    rcases Z with⟨b,G,cl,V⟩|⟨G,rfl⟩
    .simp only[Instr.lookup,Sem.run_bind,und ht,Result.andThen_ok,G,cL V B_,Sem.run_pure,Q,R]
     cases c with
     |none=>simp[N]
     |some p=>simp
    .simp only[Instr.lookup,Sem.run_bind,und ht,Result.andThen_ok,G,Sem.run_pure,Q,R]
     cases c with
     |none=>simp[N]
     |some p=>simp
   subst hr;simp only[execOp,h3,Sem.run_bind,h0];cases e with
   |none =>
    cases c with
    |some p=>simp[RF]at F
    |none =>
     cases z with
     |true=>exact⟨_,rfl,.tup _ _ _ B_ (fun i x v d s=>by
       cases i with
       |zero=>simp at d s;subst d;subst s;exact .iv _ A
       |succ i =>
        cases i with
        |zero=>simp at d s;subst d;subst s;exact .iv _ (.bool _)
        |succ i=>simp at d)⟩
     |false=>exact⟨_,rfl,.iv _ A⟩
   |some q =>
    cases c with
    |none=>simp[RF]at F
    |some p =>
     obtain⟨n,x⟩:=q;obtain⟨n',v⟩:=p;obtain⟨rfl,s⟩:=F;cases z with
     |true=>exact⟨_,rfl,.tup _ _ _ B_ (fun i x v d g=>by
       cases i with
       |zero=>simp at d g;subst d;subst g;exact s
       |succ i =>
        cases i with
        |zero=>simp at d g;subst d;subst g;exact .iv _ (.bool _)
        |succ i=>simp at d)⟩
     |false=>exact⟨_,rfl,s.ofNil⟩
  obtain⟨u,hu,s⟩:=H
  exact .pure I h hu s
 rcases D with⟨rfl,rfl⟩|⟨j,es,f,rfl,hs,R⟩
 .have Z:a.eval m=.map none:=by generalize a.eval m=v at T;cases T.iv_inv;rfl
  refine fin #[] none ?_ trivial (.inr ⟨Z,rfl⟩);obtain⟨r',q1,Y⟩:=mM (P:=P) (w:=w) (J:=J) E C (es:=[]) (l:=[]) (r:=none) ⟨rfl,fun k x y d=>by simp at d⟩ rfl;cases r' with
  |none=>exact q1
  |some p=>simp[RF]at Y
 .generalize hva:a.eval m=v at T;cases T with
  |map L j l hJ hlo =>obtain⟨es',G,h4,_⟩:=aBc h.wr hJ hs;obtain⟨r',q1,Y⟩:=mM (P:=P) (w:=w) E C h4 R;exact fin es' r' q1 Y (.inl ⟨_,hva,_,G⟩)
theorem aEi{o:Oper}{t kt el:TypeId}{m k v:Operand}(q:o.op=.mapUpdate t m k v\/o.op=.insert t m k v)(W:P.underlying t=some (.map kt el)){kk:KK}(F:iC P kt=some kk)(a:Act)(h:MS P O K M J L S env w) {j:Nat} {e2 e3:TV} (V:VR M J L (.map j) (a.eval m)) (h2:VR M J L e2 (a.eval k)) (h3:VR M J L e3 (a.eval v)) (U:bY e3=false) {z:IV} (hk:lK e2=some z) (Q:gW kk z=true) {es:Tr_} {d:Nat} (hs:S[j]?=some (.mp es d)) {A:Option (Nat×TV)} (hf:findKey kk z es 0=some A) (I:match A with
   |some (n,_)=>((es[n]?).map fun y=>gZ y.2.1 z).getD false=true/\S'=S.set j (.mp (es.modify n fun y=>(y.1,z,e3)) d)
   |none=>S'=S.set j (.mp (es++[(d,z,e3)]) (d+1))) {top:TOp} (s:aP top=none):
  cJ P O K top M J L S env w (execOp a.eval o) undef env S':=by
 have g:=yD hk h2
 have G:VR M J [] e3 (a.eval v):=h3.frame U
 generalize hva:a.eval m=vm at V
 cases V with
 |map L j l hJ hlo =>
  obtain⟨es',D,i,_⟩:=aBc h.wr hJ hs;obtain⟨Z,Y,R⟩:=mM (P:=P) (w:=w) F g i hf;have H:=kY (w:=w) F g Q false;have u:(execOp a.eval o).run P w=((Instr.mapUpdate t (.map (some l.cb)) (a.eval k) (a.eval v)).run P w).andThen fun _ w'=>.ok .skip w':=by rcases q with q|q<;>simp[execOp,q,hva]
  cases A with
  |none =>
   cases Z with
   |some p=>simp[RF]at R
   |none =>simp only at I;subst I;obtain⟨b,c⟩:=oH h hJ hlo D (clock2:=d+1) (es2:=es'.push {key:=a.eval k,val:=a.eval v,born:=d}) (ts:=es++[(d,z,e3)]) (by rw[Array.toList_push];exact i.push rfl g G);refine .mk0 s (r:=.skip) ?_ (.inr ⟨rfl,rfl⟩) b c (.refl _);rw[u];simp[Instr.mapUpdate,und W,cL D,H,Y,fW D]
  |some p0 =>
   obtain⟨n,x0⟩:=p0;cases Z with
   |none=>simp[RF]at R
   |some p =>
    obtain⟨n',v0⟩:=p;obtain⟨rfl,h0⟩:=R;obtain⟨f,rfl⟩:=I;obtain⟨y,C⟩:∃y,es[n]?=some y:=by
     cases C:es[n]? with
     |none=>simp[C]at f
     |some y=>exact⟨y,rfl⟩
    simp[C]at f;obtain⟨y',T,p1,p2,p3⟩:=i.get C;have E:es'[n]?=some y':=by simpa using T
    have N:=yI (P:=P) (w:=w) f p2 g;obtain⟨b,c⟩:=oH h hJ hlo D (clock2:=d) (es2:=es'.modify n fun e=>{e with key:=a.eval k,val:=a.eval v}) (ts:=es.modify n fun y=>(y.1,z,e3)) (by rw[R6];refine i.modify n fun x y hx C=>?_;exact⟨(i.2 n x y hx C).1,g,G⟩);refine .mk0 s (r:=.skip) ?_ (.inr ⟨rfl,rfl⟩) b c (.refl _);rw[u];simp[Instr.mapUpdate,und W,cL D,H,Y,E,N,fW D]
theorem aHp{o:Oper}{t kt el:TypeId}{m k:Operand}(T:o.op=.mapEntry t m k)(ht:P.underlying t=some (.map kt el)){kk:KK}(Q:iC P kt=some kk){U:IV}(G:aA1 P el=some U)(a:Act)(h:MS P O K M J L S env w) {j:Nat} {e2:TV} (h1:VR M J L (.map j) (a.eval m)) (h2:VR M J L e2 (a.eval k)) {F:IV} (hk:lK e2=some F) (h3:gW kk F=true) {es:Tr_} {d:Nat} (hs:S[j]?=some (.mp es d)) {H:Option (Nat×TV)} (hf:findKey kk F es 0=some H) {r:TV} (Y:match H with
   |some (n,x)=>((es[n]?).map fun y=>gZ y.2.1 F).getD false=true/\r=.tup [x,.iv (.int .i64 (((es[n]?).map (·.1)).getD 0:Nat))]/\S'=S.set j (.mp (es.modify n fun y=>(y.1,F,y.2.2)) d)
   |none=>r=.tup [.iv U,.iv (.int .i64 d)]/\S'=S.set j (.mp (es++[(d,F,.iv U)]) (d+1))) {top:TOp} (C:aP top=none):
  cJ P O K top M J L S env w (execOp a.eval o) r env S':=by
 obtain⟨zv,h4,D⟩:=aHo (M:=M) G
 have s:=yD hk h2
 have E:∀ {x y:TV} {u v:Value},VR M J [] x u->VR M J [] y v->VR M J L (.tup [x,y]) (.tuple #[u,v]):=by
  intro x y u v V A;refine .tup _ _ _ B_ (fun i z q G W=>?_);cases i with
  |zero=>simp at G W;subst G;subst W;exact V
  |succ i =>
   cases i with
   |zero=>simp at G W;subst G;subst W;exact A
   |succ i=>simp at G
 generalize hva:a.eval m=vm at h1
 cases h1 with
 |map L j l hJ hlo =>
  obtain⟨es',I,g,_⟩:=aBc h.wr hJ hs;obtain⟨r',q1,q2⟩:=mM (P:=P) (w:=w) Q s g hf;have R:=kY (w:=w) Q s h3 false;cases H with
  |none =>
   cases r' with
   |some p=>simp[RF]at q2
   |none =>simp only at Y;obtain⟨rfl,rfl⟩:=Y;obtain⟨b,c⟩:=oH h hJ hlo I (clock2:=d+1) (es2:=es'.push {key:=a.eval k,val:=zv,born:=d}) (ts:=es++[(d,F,.iv U)]) (by rw[Array.toList_push];exact g.push rfl s (.iv _ D));refine .mk0 C (r:=.value (.tuple #[zv,.int .i64 d])) ?_ (.inl ⟨_,rfl,E (.iv _ D) (.iv _ (.int _ _))⟩) b c (.refl _);simp[execOp,T,hva,Instr.mapEntry,und ht,cL I,R,q1,h4,fW I,goInt]
  |some p0 =>
   obtain⟨n,x0⟩:=p0;cases r' with
   |none=>simp[RF]at q2
   |some p =>
    obtain⟨n',v0⟩:=p;obtain⟨rfl,Z⟩:=q2;obtain⟨f,rfl,rfl⟩:=Y;obtain⟨y,A⟩:∃y,es[n]?=some y:=by
     cases A:es[n]? with
     |none=>simp[A]at f
     |some y=>exact⟨y,rfl⟩
    simp[A]at f;obtain⟨y',h5,p1,p2,p3⟩:=g.get A;have N:es'[n]?=some y':=by simpa using h5
    have h0:=yI (P:=P) (w:=w) f p2 s;obtain⟨b,c⟩:=oH h hJ hlo I (clock2:=d) (es2:=es'.modify n fun e=>{e with key:=a.eval k}) (ts:=es.modify n fun y=>(y.1,F,y.2.2)) (by rw[R6];refine g.modify n fun x y V A=>?_;exact⟨(g.2 n x y V A).1,s,(g.2 n x y V A).2.2⟩);refine .mk0 C (r:=.value (.tuple #[v0,.int .i64 y.1])) ?_ (.inl ⟨_,rfl,?_⟩) b c (.refl _);.simp[execOp,T,hva,Instr.mapEntry,und ht,cL I,R,q1,N,h0,fW I,goInt,p1]
    .rw[A];exact E Z (.iv _ (.int _ _))
theorem yL:∀ {es:Tr_} {l:List MapEntry} (b:Int),ER M J es l->l.findIdx? (fun e=>(e.born:Int)==b)=es.findIdx? (fun y=>(y.1:Int)==b)
 |[],l,b,h=>by have:l=[]:=a_ (by simpa using h.1);subst this;rfl
 |e::es,l,b,h=>by obtain⟨y,l',rfl,a,_,_,c⟩:=h.cons_inv;simp only[O8,a,yL b c]
theorem aEj{o:Oper}{t:TypeId}{m s v:Operand}(z:o.op=.entryStore t m s v)(a:Act)(h:MS P O K M J L S env w){j:Nat}{e2 e3:TV}(E:VR M J L (.map j) (a.eval m))(H:VR M J L e2 (a.eval s)) (I:VR M J L e3 (a.eval v)) (A:bY e3=false) {born:Int} (g:eX e2=some born) {es:Tr_} {d:Nat} (F:S[j]?=some (.mp es d)) {n:Nat} (G:es.findIdx? (fun y=>(y.1:Int)==born)=some n) {top:TOp} (k:aP top=none):cJ P O K top M J L S env w (execOp a.eval o) undef env (S.set j (.mp (es.modify n fun y=>(y.1,y.2.1,e3)) d)):=by
 have u:VR M J [] e3 (a.eval v):=I.frame A;obtain⟨N,p⟩:=kW g H;generalize hva:a.eval m=vm at E;cases E with
 |map L j l hJ hlo =>
  obtain⟨es',q,f,_⟩:=aBc h.wr hJ F;have i:es'.findIdx? (fun e=>(e.born:Int)==born)=some n:=by obtain⟨Q⟩:=es';rw[<-G,<-yL born f];exact List.findIdx?_toArray ..
  obtain⟨b,c⟩:=oH h hJ hlo q (clock2:=d) (es2:=es'.modify n fun e=>{e with val:=a.eval v}) (ts:=es.modify n fun y=>(y.1,y.2.1,e3)) (by rw[R6];refine f.modify n fun x y D C=>?_;exact⟨(f.2 n x y D C).1,(f.2 n x y D C).2.1,u⟩);refine .mk0 k (r:=.skip) ?_ (.inr ⟨rfl,rfl⟩) b c (.refl _);simp[execOp,z,hva,p,Instr.entryStore,cL q,asInt,asIntOf,i,fW q]
theorem bFi{α:Type}{l:List α}{i:Nat}{x:α}(h:l[i]?=some x):l.set i x=l:=by
 apply List.ext_getElem?;intro k;by_cases hk:k=i;.subst hk;rw[C6 (E_.1 h).1,h]
 .rw[B3 A_]
theorem aX8{t E el ty:TypeId}{ts:Array TypeId}(s:ts[0]?=some t)(q:P.underlying t=some (.map E el)){kk:KK}(g:iC P E=some kk)(h:MS P O K M J L S env w){v e2:TV}{A F:Value}(z:VR M J L v A) (N:VR M J L e2 F) {x:IV} (I:lK e2=some x) (o:gW kk x=true) (m:(v=.iv .nilm/\S'=S)\/∃j es a d,v=.map j/\S[j]?=some (.mp es a)/\findKey kk x es 0=some d/\S'=(match d with|some (n,_)=>S.set j (.mp (es.eraseIdx n) a)|none=>S)): ∃w',(Builtin.delete_ ts ty #[A,F]).run P w=.ok (.tuple #[]) w'/\MS P O K M J L S' env w'/\Tr (cR L) M J S w M J S' w':=by
 have f:=yD I N;rcases m with⟨rfl,rfl⟩|⟨j,es,a,d,rfl,y,H,m⟩
 .cases z.iv_inv
  have e:=kY (w:=w) g f o true;exact⟨w,by simp[Builtin.delete_,s,und q,e],h,.refl _ _ _ _ _⟩
 .cases z with
  |map L j l hJ hlo =>
   obtain⟨es',k,i,_⟩:=aBc h.wr hJ y;obtain⟨D,C,u⟩:=mM (P:=P) (w:=w) g f i H;have e:=kY (w:=w) g f o es'.isEmpty;cases d with
   |none =>
    cases D with
    |some p=>simp[RF]at u
    |none =>simp only at m;subst m;obtain⟨b,c⟩:=oH h hJ hlo k (clock2:=a) (es2:=es') (ts:=es) i;rw[bFi y]at b c;exact⟨_,by simp[Builtin.delete_,s,und q,cL k,e,C,fW k],b,c⟩
   |some p0 =>
    obtain⟨n,x0⟩:=p0;cases D with
    |none=>simp[RF]at u
    |some p =>
     obtain⟨R,Q⟩:=p;obtain⟨rfl,G⟩:=u;simp only at m;subst m;obtain⟨b,c⟩:=oH h hJ hlo k (clock2:=a) (es2:=es'.eraseIdxIfInBounds n) (ts:=es.eraseIdx n) (by
      have:(es'.eraseIdxIfInBounds n).toList=es'.toList.eraseIdx n:=by
       unfold Array.eraseIdxIfInBounds;split;.simp
       .rename_i hlt;rw[List.eraseIdx_of_length_le (by simpa using hlt)]
      rw[this];exact i.erase n)
     exact⟨_,by simp[Builtin.delete_,s,und q,cL k,e,C,fW k],b,c⟩
theorem bFj(h:MS P O K M J L S env w)(a:Obj)(s:aG) (f:∀(J':aF) (w':World) (l:Loc),JLe J J'->l.loose=false->w'.heap[l.cb]?=some a->BR P O M J' w' l s):∃J' l,l.loose=false/\l.cb=w.heap.size/\MS P O K M J' L (S++[s]) env (w.alloc a) /\Tr (cR L) M J S w M J' (S++[s]) (w.alloc a)/\J'.at S.length l:=by
 have g:M.ext w.heap.size (fun _=>none)=M:=tJ h.wr.none_at;let l:Loc:={cb:=w.heap.size,d:=0,ver:=0,cap:=0,es:=0,size:=0,loose:=false}
 have e:=h.wr.push (fun _=>False) a (fun _=>none) l s rfl (fun o v i=>by simp at i) (by rw[g];exact f _ _ l (.push _ _) rfl (cX w _));rw[g]at e;obtain⟨b,c⟩:=h.step' e.1 e.2;refine⟨_,l,rfl,rfl,b,c,?_⟩;unfold aF.at
 rw[<-h.wr.len];simp
theorem aEk{g:Obj}{s:aG}{top:TOp}(e:aP top=none)(h:MS P O K M J L S env w)(i:∀(J':aF) (w':World) (l:Loc),JLe J J'->l.loose=false->w'.heap[l.cb]?=some g->BR P O M J' w' l s){k:Sem Next} (d:k.run P w=.ok (.value (.pointer (some ⟨w.heap.size,0,none⟩))) (w.alloc g)):cJ P O K top M J L S env w k (.it S.length) env (S++[s]):=by obtain⟨J',l,j,f,a,b,c⟩:=bFj h g s i;refine .mk0 e d (.inl ⟨_,rfl,?_⟩) a b (.refl _);rw[<-f];exact .it _ _ l c j
theorem aQ4{o:Oper}{t:TypeId}{x:Operand}(c:o.op=.range t x)(g:P.underlying t=some .string)(a:Act)(h:MS P O K M J L S env w){s:List UInt8}(d:VR M J L (.iv (.str s)) (a.eval x)){top:TOp}(b:aP top=none): cJ P O K top M J L S env w (execOp a.eval o) (.it S.length) env (S++[.sit s 0]) :=
 aEk b h (fun _ _ _ _ e f=>.sit s 0 e f) (by simp[execOp,c,Instr.range,und g,d.str_inv])
theorem aQ5{o:Oper}{t f el:TypeId}{x:Operand}(c:o.op=.range t x)(j:P.underlying t=some (.map f el))(a:Act)(h:MS P O K M J L S env w)(d:VR M J L (.iv .nilm) (a.eval x)){top:TOp}(b:aP top=none): cJ P O K top M J L S env w (execOp a.eval o) (.it S.length) env (S++[.mit none 0 [] 0]):=by
 have i:a.eval x=.map none:=by generalize a.eval x=v at d;cases d.iv_inv;rfl
 exact aEk b h (fun _ _ _ _ g e=>.mitN 0 [] 0 g e) (by simp[execOp,c,Instr.range,und j,i])
theorem aQ6{o:Oper}{t m el:TypeId}{x:Operand}(f:o.op=.range t x)(p:P.underlying t=some (.map m el))(a:Act)(h:MS P O K M J L S env w){j:Nat}(g:VR M J L (.map j) (a.eval x)){es:Tr_}{b:Nat} (i:S[j]?=some (.mp es b)) {top:TOp} (c:aP top=none):cJ P O K top M J L S env w (execOp a.eval o) (.it S.length) env (S++[.mit (some j) b [] b]):=by
 generalize hva:a.eval x=v at g;cases g with
 |map L j l hJ hlo =>obtain⟨es',d,k,_⟩:=aBc h.wr hJ i;exact aEk c h (fun J' w' l' e n d=>.mit j l b [] b n (e.fixed hJ hlo) hlo d) (by simp[execOp,f,Instr.range,und p,hva,cL d])
theorem aVu{x y z:TV}{u v q:Value}(f:VR M J [] x u)(e:VR M J [] y v)(g:VR M J [] z q):VR M J L (.tup [x,y,z]) (.tuple #[u,v,q]):=by
 refine .tup _ _ _ B_ (fun i a b c d=>?_);match i,c,d with
 |0,c,d=>simp at c d;subst c;subst d;exact f
 |1,c,d=>simp at c d;subst c;subst d;exact e
 |2,c,d=>simp at c d;subst c;subst d;exact g
 |i+3,c,d=>simp at c
theorem bM0{x y:TV}{u v:Value}(f:VR M J [] x u)(e:VR M J [] y v):VR M J L (.tup [x,y]) (.tuple #[u,v]):=by
 refine .tup _ _ _ B_ (fun i a b c d=>?_);match i,c,d with
 |0,c,d=>simp at c d;subst c;subst d;exact f
 |1,c,d=>simp at c d;subst c;subst d;exact e
 |i+2,c,d=>simp at c
theorem aKg{x:TV}{u:Value}(e:VR M J [] x u):VR M J L (.tup [x]) (.tuple #[u]):=by
 refine .tup _ _ _ B_ (fun i a b c d=>?_);match i,c,d with
 |0,c,d=>simp at c d;subst c;subst d;exact e
 |i+1,c,d=>simp at c
theorem aX9{o:Oper}{x:Operand}(g:o.op=.next x true)(a:Act)(h:MS P O K M J L S env w){j:Nat}(m:VR M J L (.it j) (a.eval x)){s:List UInt8}{pos:Nat}(n:S[j]?=some (.sit s pos)){top:TOp} (d:aP top=none): (pos<s.length->cJ P O K top M J L S env w (execOp a.eval o) (.tup [.iv (.bool true),.iv (.int .i64 pos),.iv (.int .i32 (Utf8.decode ⟨s.toArray⟩ pos).1)]) env (S.set j (.sit s (pos+(Utf8.decode ⟨s.toArray⟩ pos).2)))) /\(¬pos<s.length->cJ P O K top M J L S env w (execOp a.eval o) (.tup [.iv (.bool false)]) env S):=by
 generalize hva:a.eval x=v at m;cases m with
 |it L j l hJ hlo =>
  have k:=h.wr.blk j l _ hJ n;cases k with
  |sit s pos hl hb =>
   refine⟨fun f=>?_,fun f=>?_⟩
   .obtain⟨b,c⟩:=aEg h hJ hb (s':=.sit s (pos+(Utf8.decode ⟨s.toArray⟩ pos).2)) (fun o=>tQ h.wr hb B_ o) (fun w' i=>.sit _ _ hl i);refine .mk0 d (r:=.value (.tuple #[.bool true,.int .i64 pos,.int .i32 (Utf8.decode ⟨s.toArray⟩ pos).1])) ?_ (.inl ⟨_,rfl,aVu (.iv _ (.bool _)) (.iv _ (.int _ _)) (.iv _ (.int _ _))⟩) b c (.refl _);have e:pos<(⟨s.toArray⟩:ByteArray).size:=by rw[oX];exact f
    simp[execOp,g,hva,Instr.next,cL hb,e,fW hb,goInt]
   .refine .pure d h (v':=.tuple #[.bool false]) ?_ (aKg (.iv _ (.bool _)));have e:¬pos<(⟨s.toArray⟩:ByteArray).size:=by rw[oX];exact f
    simp[execOp,g,hva,Instr.next,cL hb,e]
theorem aHq:∀ {es:Tr_} {l:List MapEntry} (b:Nat) {y:Nat×IV×TV},ER M J es l->es.find? (·.1==b)=some y->∃z,l.find? (·.born==b)=some z/\z.born=y.1/\IR M y.2.1 z.key/\VR M J [] y.2.2 z.val
 |[],l,b,y,h,hf=>by simp at hf
 |e::es,l,b,y,h,hf=>by
  obtain⟨z,l',rfl,a,g,f,d⟩:=h.cons_inv;simp only[List.find?_cons]at hf;split at hf;.rename_i hq;simp at hf;subst hf;exact⟨z,by simp only[List.find?_cons,a,hq],a,g,f⟩
  .rename_i hq;obtain⟨i,c,p2⟩:=aHq b d hf;exact⟨i,by simp only[List.find?_cons,a,hq,c],p2⟩
theorem aQ7{o:Oper}{x:Operand}(r:o.op=.entry x)(a:Act)(h:MS P O K M J L S env w){j:Nat}(u:VR M J L (.it j) (a.eval x)){m e d f b:Nat}{c:Tc_}{es:Tr_} (A:S[j]?=some (.mit (some m) e c d)) (E:S[m]?=some (.mp es f)) (q:c.getLast? = some b) (n:f=d) {y:Nat×IV×TV} (C:es.find? (·.1==b)=some y) {top:TOp} (k:aP top=none): cJ P O K top M J L S env w (execOp a.eval o) (.tup [.iv y.2.1,y.2.2]) env S:=by
 generalize hva:a.eval x=v at u;cases u with
 |it L j l hJ hlo =>
  have p:=h.wr.blk j l _ hJ A;cases p with
  |mit m lm e c d hl hJm hlm hb =>
   obtain⟨es',s,t,_⟩:=aBc h.wr hJm E;obtain⟨z,F,p2,p3,D⟩:=aHq b t C;refine .pure k h (v':=.tuple #[z.key,z.val]) ?_ (bM0 (.iv _ p3) D);have i:c.toArray.back? = some b:=by simpa using q
   have g:es'.find? (·.born==b)=some z:=by obtain⟨G⟩:=es';simpa using F
   subst n;simp[execOp,r,hva,Instr.entry,cL hb,cL s,i,g]
theorem ER.filter{es:Tr_}:∀ {l:List MapEntry},ER M J es l->∀(p:Tj_),ER M J (es.filter fun y=>p y.1) (l.filter fun e=>p e.born):=by
 induction es with
 |nil =>intro l h p;have:l=[]:=a_ (by simpa using h.1);subst this;exact⟨rfl,fun k x y g=>by simp at g⟩
 |cons e es ih =>
  intro l h p;obtain⟨y,l',rfl,f,j,m,i⟩:=h.cons_inv;have:=ih i p;simp only[E6,f];split
  .refine⟨by simp[this.1],fun k a b c d=>?_⟩;cases k with
   |zero=>simp at c d;subst c;subst d;exact⟨f,j,m⟩
   |succ k=>exact this.2 k a b (by simpa using c) (by simpa using d)
  .exact this
theorem ER.append{es es2:Tr_}{l l2:List MapEntry}(h:ER M J es l)(k:ER M J es2 l2):ER M J (es++es2) (l++l2):=by
 refine⟨by simp[h.1,k.1],fun i a b d c=>?_⟩;rw[F0]at d c;split at d;.rename_i hi;rw[K_ (by rw[h.1];exact hi)]at c;exact h.2 i a b d c
 .rename_i hi;rw[I_ (by rw[h.1];exact hi),h.1]at c;exact k.2 _ a b d c
theorem aM7:∀ {es:Tr_} {l:List MapEntry} (p:Tj_),ER M J es l->l.all (fun e=>p e.born)=es.all fun y=>p y.1
 |[],l,p,h=>by have:l=[]:=a_ (by simpa using h.1);subst this;rfl
 |e::es,l,p,h=>by obtain⟨y,l',rfl,a,_,_,b⟩:=h.cons_inv;simp only[List.all_cons,a,aM7 p b]
theorem bFk{ts:Tr_}{l:List MapEntry}(h:ER M J ts l)(b:Bool){A:List (Option (Nat×IV×TV))}{B:List (Option MapEntry)}(e:A=(if b then [none]else [])++ts.map some)(d:B=(if b then [none]else [])++l.map some): B.length=A.length/\∀c,c<A.length->(A[c]?=some none/\B[c]?=some none)\/∃y z,A[c]?=some (some y)/\B[c]?=some (some z)/\z.born=y.1/\IR M y.2.1 z.key/\VR M J [] y.2.2 z.val:=by
 have key:∀c,c<ts.length->∃y z,(ts.map some)[c]?=some (some y)/\(l.map some)[c]?=some (some z)/\z.born=y.1/\IR M y.2.1 z.key/\VR M J [] y.2.2 z.val:=by intro c a;obtain⟨z,f,g⟩:=h.get (D_ a);exact⟨ts[c],z,by simp[a],by simp[f],g⟩
 subst e;subst d;cases b with
 |false =>refine⟨by simp[h.1],fun c a=>.inr ?_⟩;simpa using key c (by simpa using a)
 |true =>
  refine⟨by simp[h.1],fun c a=>?_⟩;cases c with
  |zero=>exact .inl ⟨rfl,rfl⟩
  |succ c =>right;simpa using key c (by simpa using a)
theorem aYa{o:Oper}{x:Operand}(T:o.op=.next x false)(a:Act)(h:MS P O K M J L S env w){j:Nat}(hx:VR M J L (.it j) (a.eval x)){m d k i:Nat}{f:Tc_}{es:Tr_}
  (hs:S[j]?=some (.mit (some m) d f k)) (hm:S[m]?=some (.mp es i)) (hg:(!f.isEmpty&&!es.isEmpty&&es.all (fun y=>decide (y.1≥k)))=false) {g:List (Option (Nat×IV×TV))}
  (hc:g=(if((es.filter fun y=>!f.contains y.1).filter (·.1<d)).isEmpty then [none]else [])++(((es.filter fun y=>!f.contains y.1).filter (·.1<d))++((es.filter fun y=>!f.contains y.1).filter (·.1≥d))).map some) {top:TOp}
  (A:aP top=none):∃c,c<g.length/\((∃y,g[c]?=some (some y)/\cJ P O K top M J L S env w (execOp a.eval o) (.tup [.iv (.bool true),.iv y.2.1,y.2.2]) env (S.set j (.mit (some m) d (f++[y.1]) i))) \/
   (g[c]?=some none/\cJ P O K top M J L S env w (execOp a.eval o) (.tup [.iv (.bool false)]) env S)):=by
 generalize hva:a.eval x=v at hx;cases hx with
 |it L j l hJ hlo =>
  have h7:=h.wr.blk j l _ hJ hs;cases h7 with
  |mit m lm d f k hl hJm hlm hb =>
   obtain⟨es',h4,Q,_⟩:=aBc h.wr hJm hm;have n:=Q.filter fun b=>!f.contains b;have D:=n.filter fun b=>decide (b<d);have R:=n.filter fun b=>decide (b≥d);have N:=D.append R;have U:((es.filter fun y=>!f.contains y.1).filter fun y=>decide (y.1<d)).isEmpty=((es'.toList.filter fun e=>!f.contains e.born).filter fun e=>decide (e.born<d)).isEmpty:=by rw[Bool.eq_iff_iff];simp only[W6,<-G7,D.1]
   let C:Array (Option MapEntry):=(if((es'.filter fun e=>!f.toArray.contains e.born).filter fun e=>decide (e.born<d)).isEmpty then #[none]else #[]) ++
    (((es'.filter fun e=>!f.toArray.contains e.born).filter fun e=>decide (e.born<d))++((es'.filter fun e=>!f.toArray.contains e.born).filter fun e=>decide (e.born≥d))).map some
   have h5:C.toList=(if((es.filter fun y=>!f.contains y.1).filter fun y=>decide (y.1<d)).isEmpty then [none]else []) ++
     (((es'.toList.filter fun e=>!f.contains e.born).filter fun e=>decide (e.born<d))++((es'.toList.filter fun e=>!f.contains e.born).filter fun e=>decide (e.born≥d))).map some:=by
    rw[U]
    have hl:∀p:MapEntry->Bool,(es'.filter p).toList=es'.toList.filter p:=fun p=>Z1
    have V:∀(b:Bool),(if b=true then(#[none]:Array (Option MapEntry))else #[]).toList=if b=true then [none]else []:=by intro b;cases b<;>rfl
    have h9:∀a:Array MapEntry,a.isEmpty=a.toList.isEmpty:=fun a=>B_
    simp only[C,Z0,Q5,V,h9,Z1,List.contains_toArray]
   obtain⟨Y,h0⟩:=bFk N _ hc h5;have q:0<g.length:=by
    rw[hc];split;.simp
    .rename_i hne;simp only[W6]at hne;have:=M7.2 hne;simp only[List.nil_append,P_,H_];omega
   have h2:(!f.toArray.isEmpty&&!es'.isEmpty&&es'.all (fun e=>decide (e.born≥k)))=false:=by
    have e1:f.toArray.isEmpty=f.isEmpty:=B_;have e2:es'.isEmpty=es.isEmpty:=by have:es'.isEmpty=es'.toList.isEmpty:=B_;rw[this,Bool.eq_iff_iff];simp only[W6,<-G7,Q.1]
    have e3:es'.all (fun e=>decide (e.born≥k))=es.all fun y=>decide (y.1≥k):=by rw[<-aM7 (fun b=>decide (b≥k)) Q];obtain⟨l0⟩:=es';simp
    rw[e1,e2,e3];exact hg
   have h6:C.size=g.length:=by rw[<-Y];simp
   have h8:∃c I,c<g.length/\(choose (.mapNext C.size)).run P w=.ok c I/\MS P O K M J L S env I/\Tr (cR L) M J S w M J S I/\I.heap=w.heap:=by
    by_cases hf:C.size<=1;.exact⟨0,w,q,by simp[Question.forced,hf],h,.refl _ _ _ _ _,rfl⟩
    .obtain⟨hd,td⟩:=h.drew;refine⟨_,w.drew,?_,by simp[Question.forced,hf];rfl,hd,td.weaken (fun _ hf=>hf.elim),rfl⟩;simp only[Question.cut,h6];exact X9 _ q
   obtain⟨c,I,W,h3,G,h1,F⟩:=h8;have u:(Instr.next (.pointer (some ⟨l.cb,0,none⟩)) false o.type).run P w=((match C[c]? with
     |some (some e)=>(do setObj l.cb (.mapIter (some lm.cb) d (f.toArray.push e.born) i);Pure.pure (Value.tuple #[.bool true,e.key,e.val]):Sem Value)
     |some none=>Pure.pure (Value.tuple #[.bool false])
     | none => stuck "Next: no such candidate") : Sem Value).run P I := by
    simp only[Instr.next,Sem.run_bind,cL hb B_,Result.andThen_ok,cL h4 B_,h2,Y_,I5]
    have t:=h3
    simp only[C]at t
    rw[t]
    rfl
   refine⟨c,W,?_⟩;rcases h0 c W with⟨q1,q2⟩|⟨y,z,q1,q2,q3,q4,q5⟩
   .right;have E:C[c]?=some none:=by simpa using q2
    refine⟨q1,.mk0 A (r:=.value (.tuple #[.bool false])) ?_ (.inl ⟨_,rfl,aKg (.iv _ (.bool _))⟩) G h1 (.refl _)⟩;simp only[execOp,T,hva,Sem.run_bind,u,E];rfl
   .left;have E:C[c]?=some (some z):=by simpa using q2
    have H:I.heap[l.cb]?=some (.mapIter (some lm.cb) d f.toArray k):=by rw[F];exact hb
    obtain⟨b1,c1⟩:=aEg G hJ H (o':=.mapIter (some lm.cb) d (f.toArray.push z.born) i) (s':=.mit (some m) d (f++[y.1]) i) (fun o=>tQ G.wr H B_ o) (fun w' Z=>by
     have hp:f.toArray.push z.born=(f++[y.1]).toArray:=by simp[q3]
     rw[hp]at Z;exact .mit m lm d _ i hl hJm hlm Z)
    refine⟨y,q1,.mk0 A (r:=.value (.tuple #[.bool true,z.key,z.val])) ?_ (.inl ⟨_,rfl,aVu (.iv _ (.bool _)) (.iv _ q4) q5⟩) b1 (h1.trans c1 (fun b hb=>.inl hb)) (.refl _)⟩;simp only[execOp,T,hva,Sem.run_bind,u,E,fW H B_];rfl
theorem aYb{o:Oper}{x:Operand}(f:o.op=.next x false)(a:Act)(h:MS P O K M J L S env w){j:Nat}(i:VR M J L (.it j) (a.eval x)){b c:Nat}{d:Tc_} (k:S[j]?=some (.mit none b d c)) {top:TOp} (e:aP top=none):cJ P O K top M J L S env w (execOp a.eval o) (.tup [.iv (.bool false)]) env S:=by
 generalize hva:a.eval x=v at i;cases i with
 |it L j l hJ hlo =>
  have g:=h.wr.blk j l _ hJ k;cases g with
  |mitN b d c hl hb =>refine .pure e h (v':=.tuple #[.bool false]) ?_ (aKg (.iv _ (.bool _)));simp[execOp,f,hva,Instr.next,cL hb]
theorem bFl{o:Oper}{f:FuncId}{first cap:Array Operand}(d:o.op=.makeFunc (.func f) first cap)(a:Act)(h:MS P O K M J L S env w){xs ys:Tn_}(n:VRs M J L xs (first.map a.eval).toList)(p:VRs M J L ys (cap.map a.eval).toList) (c:(xs++ys).any bY=false) {top:TOp} (b:aP top=none):cJ P O K top M J L S env w (execOp a.eval o) (.fn f xs ys) env S:=by
 have k:xs.any bY=false:=by rw[R2,K8]at c;exact c.1
 have g:ys.any bY=false:=by rw[R2,K8]at c;exact c.2
 have l:=n.frame (L':=[]) k;have m:=p.frame (L':=[]) g;refine .pure b h (v':=.func (.func f) (first.map a.eval) (cap.map a.eval)) ?_ (.fn _ _ _ _ _ _ (by simpa using l.1) (by simpa using m.1) (fun i x v e j=>l.2 i x v e (by simpa using j)) (fun i x v e j=>m.2 i x v e (by simpa using j)));simp[execOp,d,Instr.makeFunc]
inductive qM (J:aF) (S:aA) (l:Loc) (b:aG):Nat->aF->aA->Prop
 |push:qM J S l b S.length (J++[some l]) (S++[b])
 |real (i:Nat) (hj:J[i]?=some none) (hs:S[i]?=some b):qM J S l b i (J.set i (some l)) S
theorem qM.at{l:Loc}{b:aG}{i:Nat}{J':aF}(h:qM J S l b i J' S')(a:J.length=S.length):J'.at i l:=by
 cases h with
 |push=>unfold aF.at;rw[<-a];simp
 |real i hj hs=>exact gX (E_.1 hj).1
theorem qM.jle{l:Loc}{b:aG}{i:Nat}{J':aF}(h:qM J S l b i J' S'):JLe J J':=by
 cases h with
 |push=>exact .push _ _
 |real i hj hs =>
  refine⟨by simp,fun k c a=>⟨c,?_,.inl rfl⟩⟩;unfold aF.at at a |-;have:k≠i:=by rintro rfl;rw[hj]at a;simp at a
  rw[B3 A_];exact a
theorem qM.get{l:Loc}{b:aG}{i:Nat}{J':aF}(h:qM J S l b i J' S')(g:J.length=S.length){k:Nat}{c:Loc}(a:J'.at k c):(k=i/\c=l/\S'[k]?=some b)\/(k≠i/\J.at k c/\S'[k]?=S[k]?):=by
 cases h with
 |push =>
  rcases mB a with a|⟨rfl,f⟩;.right;have j:k<J.length:=(E_.1 a).1;exact⟨by omega,a,by rw[W_ A_]⟩
  .left;simp at f;exact⟨g,f.symm,by rw[g];simp⟩
 |real i hj hs =>
  have m:=(E_.1 hj).1;rcases zY m a with⟨rfl,rfl⟩|⟨d,e⟩;.exact .inl ⟨rfl,rfl,hs⟩
  .exact .inr ⟨d,e,rfl⟩
theorem qM.len{l:Loc}{b:aG}{i:Nat}{J':aF}(h:qM J S l b i J' S')(a:J.length=S.length):J'.length=S'.length:=by
 cases h with
 |push=>simp[a]
 |real i hj hs=>simpa using a
structure TrN (n:Nat) (own:Nat->Prop) (M:Mem) (J:aF) (S:aA) (w:World) (M':Mem) (J':aF) (S':aA) (w':World):Prop where
 os:w'.os=w.os
 tape:w'.tape=w.tape
 output:w'.output=w.output
 size:w.heap.size<=w'.heap.size
 mle:MLe M M'
 mnew:∀b o,b<w.heap.size->¬J.has b->M' b o=M b o
 jle:JLe J J'
 jnew:∀i l,J'.at i l->w.heap.size<=l.cb\/∃l0,J.at i l0/\l0.cb=l.cb
 ph:∀i:Nat,i<n->J[i]?=some none->J'[i]?=some none/\S'[i]?=S[i]?
 frame:∀b,b<w.heap.size->¬J.has b->¬own b->w'.heap[b]?=w.heap[b]?
theorem Tr.trN{own:Tm_}{M':Mem}{J':aF}{w':World}(h:Tr own M J S w M' J' S' w')(n:Nat):TrN n own M J S w M' J' S' w' :=
 ⟨h.os,h.tape,h.output,h.size,h.mle,h.mnew,h.jle,h.jnew,fun i _ a=>h.ph i a,h.frame⟩
theorem TrN.tr{own:Tm_}{M':Mem}{J':aF}{w':World}(h:TrN J.length own M J S w M' J' S' w'):Tr own M J S w M' J' S' w' :=
 ⟨h.os,h.tape,h.output,h.size,h.mle,h.mnew,h.jle,h.jnew,fun i a=>h.ph i (E_.1 a).1 a,h.frame⟩
theorem TrN.has{n:Nat}{own:Tm_}{M':Mem}{J':aF}{w':World}(h:TrN n own M J S w M' J' S' w'){b:Nat}(g:b<w.heap.size)(c:¬J.has b):¬J'.has b:=by
 rintro⟨i,l,d,rfl⟩;rcases h.jnew i l d with a|⟨f,a,e⟩;.omega
 .exact c ⟨i,f,a,e⟩
theorem TrN.trans{n:Nat}{own own':Tm_}{M' M'':Mem}{J' J'':aF}{S'':aA}{w' g:World}(h:TrN n own M J S w M' J' S' w')(k:TrN n own' M' J' S' w' M'' J'' S'' g) (s:∀b,own' b->own b\/w.heap.size<=b):TrN n own M J S w M'' J'' S'' g:=by
 refine⟨k.os.trans h.os,k.tape.trans h.tape,k.output.trans h.output,C0 h.size k.size,h.mle.trans k.mle,?_,h.jle.trans k.jle,?_,?_,?_⟩;.intro b o e m;exact(k.mnew b o (E7 e h.size) (h.has e m)).trans (h.mnew b o e m)
 .intro i l t;rcases k.jnew i l t with f|⟨z,f,x⟩;.exact .inl (C0 h.size f)
  .rcases h.jnew i z f with r|⟨u,r,v⟩;.exact .inl A_
   .exact .inr ⟨u,r,v.trans x⟩
 .intro i p y;obtain⟨a,b⟩:=h.ph i p y;obtain⟨c,d⟩:=k.ph i p a;exact⟨c,d.trans b⟩
 .intro b e m j;refine(k.frame b (E7 e h.size) (h.has e m) (fun q=>?_)).trans (h.frame b e m j);rcases s b q with f|f;.exact j f
  .omega
theorem TrN.weaken{n:Nat}{own own':Tm_}{M':Mem}{J':aF}{w':World}(h:TrN n own M J S w M' J' S' w')(f:∀b,own b->own' b):TrN n own' M J S w M' J' S' w' :=
 ⟨h.os,h.tape,h.output,h.size,h.mle,h.mnew,h.jle,h.jnew,h.ph,fun b d c a=>h.frame b d c (fun e=>a (f b e))⟩
theorem WR.place(h:WR P O M J S w)(q:Obj)(l:Loc)(b:aG){i:Nat}{J':aF}(f:qM J S l b i J' S')(F:l.cb=w.heap.size)(A:BR P O M J' (w.alloc q) l b){n:Nat}(u:J=J'\/n<=i): WR P O M J' S' (w.alloc q)/\TrN n (fun _=>False) M J S w M J' S' (w.alloc q):=by
 have a:=h.len;refine⟨h.step (f.len a) (.refl _) f.jle (fun b o v C=>?_) (fun k g s d p=>?_) (fun k k' g r d z e=>?_) (fun k g d=>?_),?_⟩;.rw[dM (cS w q (by have:=h.mlt C;omega))];exact h.imm b o v C
 .rcases f.get a d with⟨rfl,rfl,t⟩|⟨m,c,t⟩;.left;rw[t]at p;simp at p;subst p;exact A
  .right;rw[t]at p;exact⟨c,p,cS w q (by have:=h.lt k g c;omega),fun _=>rfl⟩
 .rcases f.get a d with⟨rfl,rfl,_⟩|⟨m,c,_⟩<;>rcases f.get a z with⟨rfl,rfl,_⟩|⟨D,j,_⟩;.rfl
  .have:=h.lt k' r j;omega
  .have:=h.lt k g c;omega
  .exact h.inj k k' g r c j e
 .rcases f.get a d with⟨rfl,rfl,_⟩|⟨m,c,_⟩;.simp;omega
  .have:=h.lt k g c;simp;omega
 .refine⟨rfl,rfl,rfl,by simp,.refl _,fun _ _ _ _=>rfl,f.jle,fun k g d=>?_,fun k E d=>?_,fun b t _ _=>cS w q A_⟩
  .rcases f.get a d with⟨rfl,rfl,_⟩|⟨m,c,_⟩;.exact .inl A_
   .exact .inr ⟨g,c,rfl⟩
  .cases f with
   |push =>have y:=(E_.1 d).1;exact⟨by rw[W_ y];exact d,by rw[W_ A_]⟩
   |real i hj p =>
    have:k≠i:=by
     rintro rfl;rcases u with u|u;.have x:=gX (l':=l) (E_.1 hj).1;rw[<-u]at x;unfold aF.at at x;rw[hj]at x;simp at x
     .omega
    exact⟨by rw[B3 A_];exact d,rfl⟩
structure aQ8 (P:Program) (O:dE) (M:Mem) (J:aF) (w:World) (run:Result Next) (v:Nat->TV) (b:aG) (ob:Obj) (vm:Value) (l:Loc):Prop where
 run:run=.ok (.value vm) (w.alloc ob)
 cb:l.cb=w.heap.size
 lo:l.loose=false
 val:∀(L:List (Option Nat)) (J':aF) (i:Nat),J'.at i l->VR M J' L (v i) vm
 blk:∀J',JLe J J'->BR P O M J' (w.alloc ob) l b
theorem BR.newCells(h:WR P O M J S w){xs:Tn_}{cs:Array Value}(e:TypeId)(j:xs.length<=cs.size)(r:∀(k:Nat) (x:TV),xs[k]?=some x->∃u,cs[k]?=some u/\VR M J [] x u){l:Loc}(f:l.cb=w.heap.size)(i:l.d=0) {ver:Nat} (a:l.ver=ver) (b:ver≠0->ver=e+1/\cs.size=xs.length) (c:l.size=cs.size) (g:l.loose=false) {J':aF} (s:JLe J J'):BR P O M J' (w.alloc (.cells cs e)) l (.cells ver false xs):=by have:=BR.cells (P:=P) (O:=O) (M:=M) (J:=J') (w:=w.alloc (.cells cs e)) (l:=l) false xs cs e (0,0) g (by rw[f];exact cX w _) c.symm A_ (fun k x m=>by obtain⟨u,n,p⟩:=r k x m;exact⟨u,by rw[i,A9];exact n,p.mono (.refl _) s⟩) (fun o _=>by rw[f];exact World.frozen?_alloc_new w cs e o) (fun o=>by rw[f];exact h.none_at o) (fun _ q=>by rw[a]at q;exact⟨a.trans (b q).1,i,(b q).2⟩);rwa [a]at this
theorem aEl(h:WR P O M J S w){xs:Tn_}{cs:Array Value}(e:TypeId)(a:Nat)(b:a≠0->a=e+1)(g:VRs M J [] xs cs.toList){f:Result Next}(c:f=.ok (.value (.pointer (some ⟨w.heap.size,0,none⟩))) (w.alloc (.cells cs e))): ∃j p l,aQ8 P O M J w f (fun i=>.ptr i a 0) (.cells a false xs) j p l:=by
 obtain⟨k,m⟩:=g.ex;exact⟨_,_,{cb:=w.heap.size,d:=0,ver:=a,cap:=0,es:=0,size:=cs.size,loose:=false},c,rfl,rfl,fun L J' i o=>.ptr _ _ _ _ _ _ _ o (L_ _) (fun _=>⟨rfl,rfl⟩),
  fun J' n=>.newCells h e k m rfl rfl rfl (fun q=>⟨b q,by simpa using g.1⟩) rfl rfl n⟩
theorem yM(h:WR P O M J S w){xs:Tn_}{cs:Array Value}(e:TypeId)(f:xs.length<=cs.size)(o:∀(k:Nat) (x:TV),xs[k]?=some x->∃u,cs[k]?=some u/\VR M J [] x u){a cap es:Nat}(b:a<=cap)(j:cap*es<=cs.size) {g:Result Next} (c:g=.ok (.value (.slice (some ⟨w.heap.size,0,none⟩) a cap)) (w.alloc (.cells cs e))):∃m r l,aQ8 P O M J w g (fun i=>.msl i 0 0 a cap es) (.cells 0 false xs) m r l :=
 ⟨_,_,{cb:=w.heap.size,d:=0,ver:=0,cap:=0,es:=0,size:=cs.size,loose:=false},c,rfl,rfl,
  fun L J' i p=>.msl _ _ _ _ _ _ _ _ _ _ cap p (L_ _) (fun _=>⟨rfl,fun _=>rfl,L_ _,fun _=>rfl,by show 0+cap*es<=cs.size;omega⟩) b b,fun J' n=>.newCells h e f o rfl rfl rfl (fun q=>absurd rfl q) rfl rfl n⟩
theorem bM1{o:Oper}{t:TypeId}(c:o.op=.makeMap t none)(a:Act):∃f h l,aQ8 P O M J w ((execOp a.eval o).run P w) (fun i=>.map i) (.mp [] 0) f h l:=by
 have b:(execOp a.eval o).run P w=.ok (.value (.map (some w.heap.size))) (w.alloc (.map #[] 0)):=by simp[execOp,c,Go.Instr.makeMap]
 refine⟨_,_,{cb:=w.heap.size,d:=0,ver:=0,cap:=0,es:=0,size:=0,loose:=false},b,rfl,rfl,fun L J' i g=>.map _ _ _ g rfl,fun J' j=>?_⟩;exact .mp [] 0 #[] rfl (cX w _) rfl (fun k x y e=>by simp at e)
theorem aQ8.push(h:MS P O K M J L S env w){s:Sem Next}{v:Nat->TV}{b:aG}{i:Obj}{j:Value}{l:Loc}(k:aQ8 P O M J w (s.run P w) v b i j l){top:TOp}(f:aP top=none): cJ P O K top M J L S env w s (v S.length) env (S++[b]):=by have g:qM J S l b S.length (J++[some l]) (S++[b]):=.push;obtain⟨a,c⟩:=h.wr.place i l b g k.cb (k.blk _ g.jle) (n:=J.length) (.inr (by rw[h.wr.len];exact L_ _));obtain⟨d,e⟩:=h.step' a c.tr;exact .mk0 f k.run (.inl ⟨_,rfl,k.val L _ _ (g.at h.wr.len)⟩) d e (.refl _)
end
end Go.TM
