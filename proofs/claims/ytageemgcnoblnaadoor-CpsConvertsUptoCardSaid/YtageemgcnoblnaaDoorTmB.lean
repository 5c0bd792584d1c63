/- A part of the evaluator TM, and of the proof that what it computes the model does. Condition: none. -/
import Derived.Test.YtageemgcnoblnaaDoorTmA
import Derived.MapKept
import Derived.Laws.MakeOwn
import Derived.Laws.Tables
import Derived.Laws.AppendOwn
import Derived.Laws.IdiomStrings
import Derived.WideKeyRuns
namespace Go.TM
open Go
section
variable {P:Program}{O:dM}{K:TM.bV}
variable {M:Mem}{J:aD}{L:List (Option Nat)}{S S':aA}{env env':Env}{w:World}
def At (w:World)(M:Mem)(J:aD)(b o:Nat)(xs:List TV):Prop:=∀(k:Nat) (x:TV),xs[k]? = some x->∃u,w.cell? ⟨b,o+k,none⟩=some u∧VR M J [] x u
def AtI (w:World)(M:Mem)(b o:Nat)(xs:List IV):Prop:=∀(k:Nat) (x:IV),xs[k]? = some x->∃u,w.cell? ⟨b,o+k,none⟩=some u∧IR M x u
theorem uJ {n k:Nat}{α:Type}(f:Nat->α){u:α}(h:((List.range n).map f)[k]? = some u):k<n∧u=f k:=by
 simp only[List.getElem?_map,Option.map_eq_some_iff]at h
 obtain⟨k',hk',rfl⟩:=h
 have hkn:k<n:=by
  rcases Nat.lt_or_ge k n with h'|h'
  ·exact h'
  ·rw[List.getElem?_eq_none (by simpa using h')]at hk';simp at hk'
 rw[List.getElem?_range hkn]at hk'
 simp at hk'
 subst hk'
 exact⟨hkn,rfl⟩
theorem At.vals {b o:Nat}{xs:List TV}(h:At w M J b o xs):∃vs,VRs M J [] xs vs∧∀(i:Nat) (v:Value),vs[i]? = some v->w.cell? ⟨b,o+i,none⟩=some v:=by
 refine⟨(List.range xs.length).map fun k=>(w.cell? ⟨b,o+k,none⟩).getD Go.undef,⟨by simp,fun i x v hx hv=>?_⟩,fun i v hv=>?_⟩
 ·obtain⟨h1,rfl⟩:=uJ _ hv
  obtain⟨u,h2,h3⟩:=h i x hx
  rw[h2];exact h3
 ·obtain⟨h1,rfl⟩:=uJ _ hv
  obtain⟨u,h2,h3⟩:=h i _ (List.getElem?_eq_getElem h1)
  rw[h2];rfl
theorem AtI.at {b o:Nat}{xs:List IV}(h:AtI w M b o xs):At w M J b o (xs.map .iv):=by
 intro k x hx
 simp only[List.getElem?_map,Option.map_eq_some_iff]at hx
 obtain⟨a,ha,rfl⟩:=hx
 obtain⟨u,h1,h2⟩:=h k a ha
 exact⟨u,h1,.iv _ h2⟩
theorem wL {α:Type}{es:Nat}:∀ {l:List (List α)},(∀c∈l,c.length=es)->∀ {k:Nat} {x:α},(cA l)[k]? = some x->∃(i:Nat) (c:List α) (j:Nat),l[i]? = some c∧c[j]? = some x∧k=i*es+j
 | [],_,k,x,h=>by simp[cA]at h
 | a::r,hl,k,x,h=>by
  simp only[cA]at h
  have ha:=hl a (by simp)
  rw[List.getElem?_append]at h
  split at h
  ·exact⟨0,a,k,rfl,h,by simp⟩
  ·rename_i hk
   obtain⟨i,c,j,h1,h2,h3⟩:=wL (fun c hc=>hl c (by simp[hc])) h
   exact⟨i+1,c,j,by simpa using h1,h2,by rw[Nat.add_mul];omega⟩
theorem dX {α:Type}{es:Nat}:∀ {l:List (List α)},(∀c∈l,c.length=es)->(cA l).length=l.length*es
 | [],_=>by simp[cA]
 | a::r,hl=>by
  simp only[cA,List.length_append,List.length_cons]
  rw[dX (fun c hc=>hl c (by simp[hc])),hl a (by simp),Nat.add_mul];omega
theorem oT {α:Type}(es:Nat):∀(n:Nat) (cs:List α),cs.length=n*es->cA (eH es n cs)=cs
 | 0,cs,h=>by simp at h;subst h;rfl
 | n+1,cs,h=>by
  simp only[eH,cA]
  rw[oT es n (cs.drop es) (by simp;rw[Nat.add_mul]at h;omega)]
  simp
theorem oU {α:Type}:∀(a b:List (List α)),cA (a++b)=cA a++cA b
 | [],b=>rfl
 | x::a,b=>by simp[cA,oU a b]
theorem IR.sl_at (hw:∀b o v,M b o=some v->w.cell? ⟨b,o,none⟩=some v){t:Tag}{l:List (List IV)}{v:Value}(h:IR M (.sl t l) v):(v=.slice none 0 0∧l=[]∧t=.nil) ∨
  (∃b o c es,v=.slice (some ⟨b,o,none⟩) l.length c∧l.length<=c∧(∀c∈l,c.length=es)∧AtI w M b o (cA l)∧t≠.nil)∨∃a,v=.slice (some a) 0 0∧l=[]∧t≠.nil:=by
 rcases h.sl_any with⟨rfl,rfl,rfl⟩|⟨b,off,cap,es,vals,rfl,htn,hes,hcap,hfull,hm,hvv⟩|⟨a0,rfl,rfl,htn⟩
 case inr.inr=>exact .inr (.inr ⟨a0,rfl,rfl,htn⟩)
 ·exact .inl ⟨rfl,rfl,rfl⟩
 ·refine .inr (.inl ⟨b,off,cap,es,rfl,hcap,hes,fun k x hx=>?_,htn⟩)
  obtain⟨i,c,j,h1,h2,h3⟩:=wL hes hx
  refine⟨_,hw _ _ _ ?_,hvv i c j x h1 h2⟩
  rw[h3,<-Nat.add_assoc]
  exact hm i c j x h1 h2
theorem pT {x:TV}{a:IV}{v:Value}(h:rS x=some a)(hv:VR M J L x v):IR M a v:=by
 unfold rS at h
 split at h
 ·simp at h;subst h;exact hv.iv_inv
 ·simp at h;subst h
  cases hv with
  | tsl L i es l b o c h hl hv ha hr=>exact hr
 ·simp at h
theorem gZ:∀ {xs:List TV} {l:List IV},toIVs xs=some l->l.length=xs.length∧∀(i:Nat) (a:IV),l[i]? = some a->∃x,xs[i]? = some x∧rS x=some a
 | [],l,h=>by simp[toIVs]at h;subst h;exact⟨rfl,fun i a h=>by simp at h⟩
 | x::r,l,h=>by
  simp only[toIVs]at h
  split at h
  ·rename_i a l' h1 h2
   simp at h;subst h
   obtain⟨h3,h4⟩:=gZ h2
   refine⟨by simp[h3],fun i b hb=>?_⟩
   cases i with
   | zero=>simp at hb;subst hb;exact⟨x,rfl,h1⟩
   | succ i=>simpa using h4 i b (by simpa using hb)
  ·simp at h
theorem aGu {x:TV}{a:IV}{v:Value}(h:rT x=some a)(hv:VR M J L x v):IR M a v:=by
 unfold rT at h
 split at h
 ·simp only[Option.map_eq_some_iff]at h
  obtain⟨l,h1,rfl⟩:=h
  obtain⟨h2,h3⟩:=gZ h1
  cases hv with
  | agg L cs vs hs hv =>
   refine .agg _ _ (by rw[hs,h2]) fun i b u hb hu=>?_
   obtain⟨x,hx,he⟩:=h3 i b hb
   exact pT he (hv i x u hx hu)
 ·exact pT h hv
theorem aXy {b o:Nat}{xs:List TV}{l:List IV}(h:toIVs xs=some l)(ha:At w M J b o xs):AtI w M b o l:=by
 intro k a hk
 obtain⟨x,hx,he⟩:=(gZ h).2 k a hk
 obtain⟨u,h1,h2⟩:=ha k x hx
 exact⟨u,h1,pT he h2⟩
theorem aMt (h:MS P O K M J L S env w){i ver off len cap es:Nat}{v:Value}(hx:VR M J L (.msl i ver off len cap es) v){n:Nat}(hn:n<=cap):∃b o c,v=.slice (some ⟨b,o,none⟩) len c∧len<=cap ∧
  (∀lo cs xs,S[i]? = some (.cells ver lo cs)->sub cs off (n*es)=some xs->cap<=c∧At w M J b o xs)∧∀cs xs,S[i]? = some (.frz ver cs)->sub cs off (n*es)=some xs->cap<=c∧AtI w M b o xs:=by
 cases hx with
 | msl L i ver off len cap es l b o c hJ hv ha hl hlc =>
  refine⟨b,o,c,rfl,hl,fun lo cs xs hs hsub=>?_,fun cs xs hs hsub=>?_⟩
  ·have hbr:=h.wr.blk i l _ hJ hs
   cases hbr with
   | cells loose cs cs' e fz hlo hb hsz hfit hvals hfz hm =>
    obtain⟨rfl,ho,hc,_,_⟩:=ha rfl
    refine⟨hc,fun k x hk=>?_⟩
    have hlen:=(gV hsub).2.2
    have hk':=(List.getElem?_eq_some_iff.1 hk).1
    have hn0:n≠0:=by rintro rfl;simp at hlen;subst hlen;simp at hk
    obtain⟨u,h1,h2⟩:=hvals _ _ (tM hsub hk)
    refine⟨u,?_,h2⟩
    rw[fF hb,ho (by omega),Nat.add_assoc];exact h1
  ·have hbr:=h.wr.blk i l _ hJ hs
   cases hbr with
   | frz cs hvals =>
    obtain⟨rfl,ho,hc,_,_⟩:=ha rfl
    refine⟨hc,fun k x hk=>?_⟩
    have hlen:=(gV hsub).2.2
    have hk':=(List.getElem?_eq_some_iff.1 hk).1
    have hn0:n≠0:=by rintro rfl;simp at hlen;subst hlen;simp at hk
    obtain⟨u,h1,h2⟩:=hvals _ _ (tM hsub hk)
    refine⟨u,h.wr.imm _ _ _ ?_,h2⟩
    rw[ho (by omega),Nat.add_assoc];exact h1
theorem aI8 (h:MS P O K M J L S env w){x:TV}{v:Value}(hx:VR M J L x v){xs:List TV}(he:iR S x=some xs):
  (∃s:List UInt8,v=.string ⟨s.toArray⟩∧xs=s.map (fun b=>.iv (.int .u8 b.toNat))∧lenOf S x=some s.length)∨(∃p,v=.slice p 0 0∧xs=[]∧lenOf S x=some 0) ∨
  ∃b o len c,v=.slice (some ⟨b,o,none⟩) len c∧At w M J b o xs∧lenOf S x=some len∧len<=c:=by
 unfold iR at he
 split at he
 ·simp at he;subst he
  rcases hx.iv_inv.sl_at h.wr.imm with⟨rfl,rfl,_⟩|⟨b,o,c,es,rfl,h1,h2,h3,_⟩|⟨a0,rfl,rfl,_⟩
  case inr.inr=>exact .inr (.inl ⟨some a0,rfl,rfl,rfl⟩)
  ·exact .inr (.inl ⟨none,rfl,rfl,rfl⟩)
  ·exact .inr (.inr ⟨b,o,_,c,rfl,h3.at,rfl,h1⟩)
 ·simp at he;subst he
  cases hx with
  | tsl L i es l b o c hJ hl hv ha hr =>
   rcases hr.sl_at h.wr.imm with⟨h0,_,_⟩|⟨b',o',c',es',h0,h1,h2,h3,_⟩|⟨a0,h0,h9,_⟩
   case inr.inr=>subst h9;simp at h0;obtain⟨rfl,rfl⟩:=h0;exact .inr (.inl ⟨_,rfl,rfl,rfl⟩)
   ·simp at h0
   ·simp at h0
    obtain⟨⟨rfl,rfl⟩,rfl⟩:=h0
    exact .inr (.inr ⟨b,o,_,c,rfl,h3.at,rfl,h1⟩)
 ·rename_i s
  simp at he;subst he
  exact .inl ⟨s,hx.str_inv,rfl,rfl⟩
 ·rename_i i ver off len cap es
  obtain⟨b,o,c,rfl,hl0,h1,h2⟩:=aMt (n:=len) h hx (by cases hx;assumption)
  split at he
  ·rename_i v' lo cs hs
   split at he
   ·rename_i hvv;subst hvv
    obtain⟨h3,h4⟩:=h1 lo cs xs hs he
    exact .inr (.inr ⟨b,o,len,c,rfl,h4,rfl,by omega⟩)
   ·simp at he
  ·rename_i v' cs hs
   split at he
   ·rename_i hvv;subst hvv
    simp only[Option.map_eq_some_iff]at he
    obtain⟨ys,hy,rfl⟩:=he
    obtain⟨h3,h4⟩:=h2 cs ys hs hy
    exact .inr (.inr ⟨b,o,len,c,rfl,h4.at,rfl,by omega⟩)
   ·simp at he
  ·simp at he
 ·simp at he
theorem kJ (h:MS P O K M J L S env w){x:TV}{v:Value}(hx:VR M J L x v){xs:List TV}(he:iR S x=some xs){m:Nat}(hm:lenOf S x=some m){es:Nat}(hxs:xs.length=m*es){n:Nat}(hn:n<=m):
  (Builtin.lenOf v).run P w=.ok m w∧∃vs,VRs M J [] (xs.take (n*es)) vs∧(Builtin.firstCells es n v).run P w=.ok vs.toArray w:=by
 rcases aI8 h hx he with⟨s,rfl,rfl,hl⟩|⟨p0,rfl,rfl,hl⟩|⟨b,o,len,c,rfl,hat,hl,hlc⟩
 ·obtain rfl:s.length=m:=by rw[hl]at hm;simpa using hm
  simp at hxs
  refine⟨by simp[Builtin.lenOf,oR],(s.take n).map (fun b=>Value.int .u8 b.toNat),⟨?_,?_⟩,?_⟩
  ·have:n*es=n∨(n=0):=by
    rcases Nat.eq_zero_or_pos s.length with h0|h0
    ·exact .inr (by omega)
    ·left
     have:es=1:=by
      have:s.length*1=s.length*es:=by omega
      exact(Nat.eq_of_mul_eq_mul_left h0 this).symm
     subst this;omega
   rcases this with h0|h0
   ·rw[h0];simp
   ·subst h0;simp
  ·intro i x u hx hu
   simp only[List.getElem?_take,List.getElem?_map]at hx hu
   split at hx
   ·split at hu
    ·simp only[Option.map_eq_some_iff]at hx hu
     obtain⟨b,hb,rfl⟩:=hx
     obtain⟨b',hb',rfl⟩:=hu
     rw[hb]at hb';simp at hb';subst hb'
     exact .iv _ (.int _ _)
    ·simp at hu
   ·simp at hx
  ·simp only[Builtin.firstCells,Sem.run_pure]
   congr 1
   have:(⟨s.toArray⟩:ByteArray).extract 0 n=⟨(s.take n).toArray⟩:=by
    have:=aB6 s 0 n
    simpa using this
   rw[this]
   apply Array.ext'
   simp
 ·obtain rfl:0=m:=by rw[hl]at hm;simpa using hm
  obtain rfl:n=0:=by omega
  refine⟨by simp[Builtin.lenOf],[],?_,by cases p0<;>simp[Builtin.firstCells,loadCells,loadCellsFrom]⟩
  simpa using VRs.nil
 ·obtain rfl:len=m:=by rw[hl]at hm;simpa using hm
  obtain⟨vs,h1,h2⟩:=hat.vals
  refine⟨by simp[Builtin.lenOf],vs.take (n*es),h1.take _,?_⟩
  refine run_firstCells_some (P:=P) w es n ⟨b,o,none⟩ len c (vs.take (n*es)) ?_ fun j u hj=>?_
  ·rw[List.length_take,h1.1,hxs]
   have:n*es<=len*es:=Nat.mul_le_mul_right _ hn
   omega
  ·rw[iL]
   rw[List.getElem?_take]at hj
   split at hj
   ·exact h2 j u hj
   ·simp at hj
theorem zC (h:MS P O K M J L S env w){x:TV}{v:Value}(hx:VR M J L x v){l:List (List IV)}(he:fB S x=some l):(∃p,v=.slice p 0 0∧l=[]) ∨
  ∃b o c es,v=.slice (some ⟨b,o,none⟩) l.length c∧l.length<=c∧(∀c∈l,c.length=es)∧AtI w M b o (cA l):=by
 unfold fB at he
 split at he
 ·simp at he;subst he
  rcases hx.iv_inv.sl_at h.wr.imm with⟨rfl,rfl,_⟩|⟨b,o,c,es,rfl,h1,h2,h3,_⟩|⟨a0,rfl,rfl,_⟩
  case inr.inr=>exact .inl ⟨_,rfl,rfl⟩
  ·exact .inl ⟨_,rfl,rfl⟩
  ·exact .inr ⟨b,o,c,es,rfl,h1,h2,h3⟩
 ·simp at he;subst he
  cases hx with
  | tsl L i es l b o c hJ hl hv ha hr =>
   rcases hr.sl_at h.wr.imm with⟨h0,_,_⟩|⟨b',o',c',es',h0,h1,h2,h3,_⟩|⟨a0,h0,h9,_⟩
   case inr.inr=>subst h9;simp at h0;obtain⟨rfl,rfl⟩:=h0;exact .inl ⟨_,rfl,rfl⟩
   ·simp at h0
   ·simp at h0
    obtain⟨⟨rfl,rfl⟩,rfl⟩:=h0
    exact .inr ⟨b,o,c,es',rfl,h1,h2,h3⟩
 ·rename_i i ver off len cap es
  obtain⟨b,o,c,rfl,hl0,h1,h2⟩:=aMt (n:=len) h hx (by cases hx;assumption)
  split at he
  ·rename_i v' lo cs hs
   split at he
   ·simp at he
   ·rename_i hvv
    have hvv:v'=ver:=by omega
    subst hvv
    split at he
    ·rename_i xs hsub
     simp only[Option.map_eq_some_iff]at he
     obtain⟨ys,hy,rfl⟩:=he
     obtain⟨h3,h4⟩:=h1 lo cs xs hs hsub
     have hlen:ys.length=len*es:=by rw[(gZ hy).1,(gV hsub).2.2]
     refine .inr ⟨b,o,c,es,by rw[fX],by rw[fX];omega,qN es len ys (by omega),?_⟩
     rw[oT es len ys hlen]
     exact aXy hy h4
    ·simp at he
  ·rename_i v' cs hs
   split at he
   ·simp at he
   ·rename_i hvv
    have hvv:v'=ver:=by omega
    subst hvv
    simp only[Option.map_eq_some_iff]at he
    obtain⟨ys,hy,rfl⟩:=he
    obtain⟨h3,h4⟩:=h2 cs ys hs hy
    have hlen:ys.length=len*es:=(gV hy).2.2
    refine .inr ⟨b,o,c,es,by rw[fX],by rw[fX];omega,qN es len ys (by omega),?_⟩
    rw[oT es len ys hlen]
    exact h4
  ·simp at he
 ·simp at he
theorem aXz {i:Nat}{l:Loc}(h:WR P O M J S w)(hl:J.at i l){es:List (Nat×IV×TV)}{clock:Nat}(hs:S[i]? = some (.mp es clock)):∃es',w.heap[l.cb]? = some (.map es' clock)∧es'.size=es.length ∧
  (∀(k:Nat) (x:Nat×IV×TV) (y:MapEntry),es[k]? = some x->es'[k]? = some y->y.born=x.1∧IR M x.2.1 y.key∧VR M J [] x.2.2 y.val)∧l.loose=false:=by
 have:=h.blk i l _ hl hs
 cases this with
 | mp es clock es' hl hb hs hv=>exact⟨es',hb,hs,hv,hl⟩
theorem jR {r:Nat}{ob:Obj}(h:w.heap[r]? = some ob)(hn:∀c e f,ob≠.cells c e f):(getObj r).run P w=.ok ob w:=by
 cases ob<;>simp_all[getObj,Sem.run]
theorem bDq (h:MS P O K M J L S env w){x:TV}{v:Value}(hx:VR M J L x v){n:Nat}(hn:lenOf S x=some n){t ty:TypeId}
  (ht:match aGo x with | .str=>P.underlying t=some .string | .sl=>∃e,P.underlying t=some (.slice e) | .mp=>∃k e,P.underlying t=some (.map k e)):(Builtin.len_ #[t] ty #[v]).run P w=.ok (.int .i64 n) w:=by
 unfold lenOf at hn
 split at hn
 ·simp at hn;subst hn
  simp only[aGo]at ht
  rw[hx.str_inv]
  simp[Builtin.len_,und ht,goInt,oR]
 ·simp at hn;subst hn
  simp only[aGo]at ht
  obtain⟨e,he⟩:=ht
  rcases hx.iv_inv.sl_at h.wr.imm with⟨rfl,rfl,_⟩|⟨b,o,c,es,rfl,_⟩|⟨a0,rfl,rfl,_⟩<;>simp[Builtin.len_,und he,goInt]
 ·simp at hn;subst hn
  simp only[aGo]at ht
  obtain⟨e,he⟩:=ht
  cases hx with
  | tsl L i es l b o c hJ hl hv ha hr=>simp[Builtin.len_,und he,goInt]
 ·simp at hn;subst hn
  simp only[aGo]at ht
  obtain⟨e,he⟩:=ht
  cases hx with
  | msl L i ver off len cap es l b o c hJ hv ha hl hlc=>simp[Builtin.len_,und he,goInt]
 ·simp at hn;subst hn
  simp only[aGo]at ht
  obtain⟨k,e,he⟩:=ht
  cases hx.iv_inv
  simp[Builtin.len_,und he,goInt]
 ·split at hn
  ·rename_i es cl hs
   simp at hn;subst hn
   simp only[aGo]at ht
   obtain⟨k,e,he⟩:=ht
   cases hx with
   | map L i l hJ hlo =>
    obtain⟨es',hb,hsz,_⟩:=aXz h.wr hJ hs
    simp[Builtin.len_,und he,goInt,jR hb,hsz]
  ·simp at hn
 ·simp at hn
theorem bDr {x:TV}{v:Value}(hx:VR M J L x v){n:Nat}(hn:aBv x=some n){t ty e:TypeId}(ht:P.underlying t=some (.slice e)):(Builtin.cap_ #[t] ty #[v]).run P w=.ok (.int .i64 n) w:=by
 unfold aBv at hn
 split at hn
 ·simp at hn;subst hn
  rcases hx.iv_inv.sl_any with⟨_,rfl,rfl⟩|⟨b,off,cap,es,vals,rfl,htn,_⟩|⟨a0,rfl,rfl,htn⟩
  ·simp[Builtin.cap_,und ht,goInt]
  ·exact absurd rfl htn
  ·exact absurd rfl htn
 ·simp at hn;subst hn
  rcases hx.iv_inv.sl_any with⟨h0,_⟩|⟨b,off,cap,es,vals,rfl,htn,hes,hcap,hfull,_⟩|⟨a0,rfl,rfl,htn⟩
  ·simp at h0
  ·simp[Builtin.cap_,und ht,goInt,hfull rfl]
  ·simp[Builtin.cap_,und ht,goInt]
 ·simp at hn
theorem vG (mx:Bool):∀ {xs:List TV} {vs:List Value} {a:IV} {v:Value} {r:IV},minmax mx a xs=some r->IR M a v->VRs M J L xs vs ->
  ∃u,(vs.foldlM (if mx then Builtin.max2 else Builtin.min2) v).run P w=.ok u w∧IR M r u
 | [],vs,a,v,r,h,ha,hv=>by
  rw[hv.nil_inv]
  simp[minmax]at h;subst h
  exact⟨v,by simp,ha⟩
 | x::xs,vs,a,v,r,h,ha,hv=>by
  obtain⟨u,us,rfl,h1,h2⟩:=hv.cons_inv
  cases x with
  | iv b =>
   simp only[minmax]at h
   split at h
   ·rename_i c hc
    unfold min2 at hc
    split at hc
    ·split at hc
     ·rename_i hk;subst hk
      simp at hc;subst hc
      cases ha
      cases h1.iv_inv
      obtain⟨z,h3,h4⟩:=vG mx h (.int _ _) h2
      refine⟨z,?_,h4⟩
      rw[<-h3]
      cases mx<;>simp[Builtin.min2,Builtin.max2]
     ·simp at hc
    ·simp at hc
   ·simp at h
  | _=>simp[minmax]at h
theorem aI9 {o:Oper}{t:TypeId}{x:Operand}(hop:o.op=.load t x){n:Nat}{ag:Bool}(hag:isAgg? P t=some ag)(hn:sizeOf? P t=some n)(a:Act)(h:MS P O K M J L S env w){e r:TV}(hx:VR M J L e (a.eval x))
  {cs:List TV} (hg:bL env S e (if ag then n else 1)=some cs) (hr:fU ag cs=some r) {top:TOp} (htop:aS top=none):dF P O K top M J L S env w (execOp a.eval o) r env S:=by
 obtain⟨b,off,vs,hv,hvs,hl,hc⟩:=wH h hg hx
 cases ag with
 | true =>
  simp[fU]at hr;subst hr
  simp only[if_true]at hl hg
  refine .pure htop h (v':=.agg vs.toArray) ?_ (wG hvs)
  have:=nU (P:=P) b off vs hc
  rw[hl]at this
  simp[execOp,hop,hv,Go.Instr.loadAt,Go.Instr.sureAddr,loadVar,isAgg?_run hag,run_size? hn,this]
 | false =>
  simp only[fU,Bool.false_eq_true,if_false]at hr hl hg
  split at hr
  ·rename_i c
   simp at hr;subst hr
   obtain⟨u,us,rfl,h1,h2⟩:=hvs.cons_inv
   refine .pure htop h (v':=u) ?_ h1.ofNil
   have:=hc 0 u rfl
   simp at this
   simp[execOp,hop,hv,Go.Instr.loadAt,Go.Instr.sureAddr,loadVar,isAgg?_run hag,run_load,this]
  ·simp at hr
theorem wM:∀ {l:List (List IV)} {b:List UInt8},kG l=some b->∃ns:List Int,cA l=ns.map (IV.int .u8)∧b=ns.map (fun n=>UInt8.ofNat n.toNat)∧ns.length=l.length
 | [],b,h=>by simp[kG]at h;subst h;exact⟨[],rfl,rfl,rfl⟩
 | c::r,b,h=>by
  simp only[kG]at h
  split at h
  ·rename_i b1 l1 h1 h2
   simp at h;subst h
   obtain⟨ns,e1,e2,e3⟩:=wM h2
   unfold aMm at h1
   split at h1
   ·rename_i n
    simp at h1;subst h1
    exact⟨n::ns,by simp[cA,e1],by simp[e2],by simp[e3]⟩
   ·simp at h1
  ·simp at h
theorem aB7:∀(ns:List Int) (acc:List UInt8),(ns.foldl (fun r n=>r.push (UInt8.ofNat n.toNat)) (⟨acc.toArray⟩:ByteArray))=⟨(acc++ns.map (fun n=>UInt8.ofNat n.toNat)).toArray⟩
 | [],acc=>by simp
 | n::ns,acc=>by
  simp only[List.foldl_cons]
  have:(⟨acc.toArray⟩:ByteArray).push (UInt8.ofNat n.toNat)=⟨(acc++[UInt8.ofNat n.toNat]).toArray⟩:=by
   apply ByteArray.ext
   simp
  rw[this,aB7 ns]
  simp
theorem aGv {o:Oper}{s d e:TypeId}{x:Operand}(hop:o.op=.convert s d x)(hs:P.underlying s=some (.slice e))(hd:P.underlying d=some .string)(he:P.underlying e=some (.int .u8))(a:Act)(h:MS P O K M J L S env w)
  {ex:TV} (hx:VR M J L ex (a.eval x)) {l:List (List IV)} (hl:fB S ex=some l) {b:List UInt8} (hb:kG l=some b) {top:TOp} (htop:aS top=none):
  dF P O K top M J L S env w (execOp a.eval o) (.iv (.str b)) env S:=by
 rcases zC h hx hl with⟨p0,hv,rfl⟩|⟨blk,off,c,es,hv,hlc,hes,hat⟩
 ·simp[kG]at hb;subst hb
  refine .pure htop h (v':=.string ⟨([]:List UInt8).toArray⟩) ?_ (.iv _ (.str _))
  cases p0 with
  | none=>simp only[execOp,hop,hv,Sem.run_bind,run_convert_bytes_string w s d e none 0 0 hs he hd];rfl
  | some a0=>simp only[execOp,hop,hv,Sem.run_bind,run_convert_bytes_string w s d e (some a0) 0 0 hs he hd];rfl
 ·obtain⟨ns,e1,rfl,e3⟩:=wM hb
  refine .pure htop h (v':=.string _) ?_ (.iv _ (.str _))
  have hcells:(loadCells ⟨blk,off,none⟩ l.length).run P w=.ok (ns.map (Value.int .u8)).toArray w:=by
   have:=nU (P:=P) (w:=w) blk off (ns.map (Value.int .u8)) (fun i v hv'=>by
    simp only[List.getElem?_map,Option.map_eq_some_iff]at hv'
    obtain⟨n,hn,rfl⟩:=hv'
    obtain⟨u,h1,h2⟩:=hat i (.int .u8 n) (by rw[e1];simp[hn])
    cases h2
    exact h1)
   simpa[e3] using this
  have:=run_bytesToString (P:=P) w ⟨blk,off,none⟩ l.length c ns hcells
  have he':=aB7 ns []
  simp only[List.nil_append]at he'
  have hemp:(⟨([]:List UInt8).toArray⟩:ByteArray)=ByteArray.empty:=rfl
  rw[hemp]at he'
  rw[he']at this
  simp only[execOp,hop,hv,Sem.run_bind,run_convert_bytes_string w s d e _ _ _ hs he hd,this]
  rfl
def bDs (P:Program)(t:TypeId):SK->Prop
 | .str=>P.underlying t=some .string
 | .sl n=>∃el,P.underlying t=some (.slice el)∧sizeOf? P el=some n
 | .arr n k=>(∃el,P.underlying t=some (.array n el)∧sizeOf? P el=some k)∨∃a el,P.underlying t=some (.pointer a)∧P.underlying a=some (.array n el)∧sizeOf? P el=some k
theorem uK {t:TypeId}{n k:Nat}(ht:(∃el,P.underlying t=some (.array n el)∧sizeOf? P el=some k)∨∃a el,P.underlying t=some (.pointer a)∧P.underlying a=some (.array n el)∧sizeOf? P el=some k)
  {b o l h m:Nat} {lv hv mv:Option Value} (hb:(Instr.sliceBounds false n n lv hv mv).run P w=.ok (l,h,m) w):
  (Instr.sliceAt t (.pointer (some ⟨b,o,none⟩)) lv hv mv).run P w=.ok (.slice (some ⟨b,if m=l then o else o+l*k,none⟩) (h-l) (m-l)) w:=by
 have hif:(if m=l then(⟨b,o,none⟩:Addr)else⟨b,o+l*k,none⟩)=⟨b,if m=l then o else o+l*k,none⟩:=by split<;>rfl
 rcases ht with⟨el,h1,h2⟩|⟨a,el,h1,h2,h3⟩
 ·simp[Instr.sliceAt,und h1,Instr.sureAddr,hb,run_size? h2,iL,hif]
 ·simp[Instr.sliceAt,und h1,Instr.slice,asAddr,und h2,hb,run_size? h3,iL,hif]
theorem aX0 (h:WR P O M J S w){b v:Nat}{l:Loc}(hJ:J.at b l)(hv:yW S b v=true):v=l.ver:=by
 unfold yW at hv
 split at hv
 ·rename_i v' lo cs hs
  have:=h.blk b l _ hJ hs
  cases this
  exact(by simpa using hv:l.ver=v).symm
 ·rename_i v' cs hs
  have:=h.blk b l _ hJ hs
  cases this
  exact(by simpa using hv:l.ver=v).symm
 ·simp at hv
theorem aX1 (h:MS P O K M J L S env w){t:TypeId}{k:SK}(ht:bDs P t k){x r:TV}{v:Value}(hx:VR M J L x v){lo hi mx:Option Int}(hr:cH S k x lo hi mx=some r){lv hv mv:Option Value}(h1:OI lo lv)(h2:OI hi hv)
  (h3:OI mx mv):∃u,(Instr.sliceAt t v lv hv mv).run P w=.ok u w∧VR M J L r u:=by
 have hsl:∀ {el:TypeId} (_:P.underlying t=some (.slice el)) (v:Value),(Instr.sliceAt t v lv hv mv).run P w=(Instr.slice t v lv hv mv).run P w:=by
  intro el he v;simp[Instr.sliceAt,und he]
 unfold cH at hr
 split at hr
 · -- a text
  rename_i s
  simp only[bDs]at ht
  split at hr
  ·simp at hr
  ·split at hr
   ·rename_i a b m hb
    simp at hr;subst hr
    obtain⟨e1,_⟩:=fW (P:=P) (w:=w) (isS:=false) hb (Nat.le_refl _) h1 h2 h3
    have hmv:mv=none:=by unfold OI at h3;split at h3<;>simp_all
    subst hmv
    simp at e1
    refine⟨.string ⟨((s.drop a).take (b-a)).toArray⟩,?_,.iv _ (.str _)⟩
    rw[hx.str_inv]
    simp[Instr.sliceAt,und ht,Instr.slice,oR,e1,aB6]
   ·simp at hr
 · -- an immutable slice
  rename_i es tg l
  obtain⟨el,ht,hn⟩:=ht
  split at hr
  ·rename_i hf
   simp only[Option.map_eq_some_iff]at hr
   obtain⟨r',hr',rfl⟩:=hr
   obtain⟨u,e1,e2⟩:=zB (P:=P) (w:=w) hx.iv_inv hf hr' ht hn h1 h2 h3
   exact⟨u,by rw[hsl ht];exact e1,.iv _ e2⟩
  ·simp at hr
 · -- reserved room,cut back
  rename_i es i l n
  obtain⟨el,ht,hn⟩:=ht
  split at hr
  ·rename_i hc
   obtain⟨rfl,rfl,rfl⟩:=hc
   simp at hr;subst hr
   cases hx with
   | rsv L i es n loc b o c hJ hl hv' ha hc hr' =>
    have hb:fC (l.length+n) c none (some (l.length:Int)) none=some (0,l.length,c):=by
     have:(l.length:Int)<=c:=by omega
     simp[fC,lY,this]
    obtain⟨e1,_⟩:=fW (P:=P) (w:=w) (isS:=true) hb (Nat.le_refl _) h1 h2 h3
    simp at e1
    refine⟨.slice (some ⟨b,o,none⟩) l.length c,?_,.tsl _ _ _ loc b o c hJ hl hv' ha hr'⟩
    rw[hsl ht]
    simp[Instr.slice,und ht,e1,run_size? hn,iL]
  ·simp at hr
 · -- a slice that may grow
  rename_i es i l
  obtain⟨el,ht,hn⟩:=ht
  split at hr
  ·rename_i hf
   simp only[Option.map_eq_some_iff]at hr
   obtain⟨r',hr',rfl⟩:=hr
   cases hx with
   | tsl L i es l b o c hJ hl hv' ha hrr =>
    obtain⟨u,e1,e2⟩:=zB (P:=P) (w:=w) hrr hf hr' ht hn h1 h2 h3
    exact⟨u,by rw[hsl ht];exact e1,.iv _ e2⟩
  ·simp at hr
 · -- a slice of the store's
  rename_i es b0 v0 off len cap e
  obtain⟨el,ht,hn⟩:=ht
  split at hr
  ·simp at hr
  rename_i hee
  rw[not_or]at hee
  obtain⟨hee,hver⟩:=hee
  have hee:e=es:=by omega
  subst hee
  have hver:yW S b0 v0=true:=by simpa using hver
  split at hr
  ·rename_i l h' m hb
   simp at hr;subst hr
   cases hx with
   | msl L i ver off len cap es loc b o c hJ hv' ha hl hlc =>
    rw[hsl ht]
    obtain⟨a1,a2,a3,a4,a5⟩:=ha (aX0 h.wr hJ hver)
    obtain⟨e1,e2,e3,e4,e5,e6⟩:=fW (P:=P) (w:=w) (isS:=true) hb a3 h1 h2 h3
    have hhm:=e5 (.inr hl)
    refine⟨.slice (some ⟨b,if(if mx=none then c else m)=l then o else o+l*e,none⟩) (h'-l) ((if mx=none then c else m)-l),?_,.msl _ _ _ _ _ _ _ loc b _ _ hJ hv' (fun hv=>⟨a1,fun hne=>?_,?_,fun hlo=>?_,?_⟩) (by omega) ?_⟩
    ·simp only[Instr.slice,Sem.run_bind,und ht,Result.andThen_ok,e1,run_size? hn]
     simp only[Sem.run_pure,Option.map_some,iL]
     generalize (if mx=none then c else m)=q
     split<;>rfl
    ·have hml:m≠l:=by omega
     have hc0:cap≠0:=by omega
     have hmm:(if mx=none then c else m)≠l:=by
      split
      ·rename_i hx';have:=e3 hx';omega
      ·exact hml
     rw[if_neg hmm,if_neg hml,a2 hc0];omega
    ·split
     ·rename_i hx';have:=e3 hx';omega
     ·exact Nat.le_refl _
    ·split
     ·rename_i hx';have:=e3 hx';have:=a4 hlo;omega
     ·rfl
    ·have hcm:(if mx=none then c else m)<=c:=by split<;>omega
     have hcl:l<=(if mx=none then c else m):=by
      split
      ·rename_i hx';have:=e3 hx';omega
      ·omega
     generalize (if mx=none then c else m)=q at hcm hcl
     have hqc:q*e<=c*e:=Nat.mul_le_mul_right _ hcm
     split
     ·rename_i hq;subst hq;simp;omega
     ·have:l*e+(q-l)*e=q*e:=by rw[<-Nat.add_mul];congr 1;omega
      omega
    ·split
     ·rename_i hx';have:=e3 hx';omega
     ·omega
  ·simp at hr
 · -- an array
  rename_i n e
  simp only[bDs]at ht
  split at hr
  ·rename_i b0 v0 off
   split at hr
   ·rename_i v' lo' cs hs
    split at hr
    ·rename_i hc
     obtain⟨rfl,hfit⟩:=hc
     split at hr
     ·rename_i l h' m hb
      simp at hr;subst hr
      cases hx with
      | ptr L i ver off loc b o hJ hv' ha =>
       have hbr:=h.wr.blk b0 loc _ hJ hs
       cases hbr with
       | cells loose cs cs' ee fz hlo hbb hsz hfit' hvals hfz hm =>
        obtain⟨rfl,rfl⟩:=ha rfl
        obtain⟨e1,e2,e3,e4,e5,e6⟩:=fW (P:=P) (w:=w) (isS:=false) hb (Nat.le_refl _) h1 h2 h3
        have hmm:(if mx=none then n else m)=m:=by
         split
         ·rename_i hx';exact(e3 hx').symm
         ·rfl
        rw[hmm]at e1
        have hhm:=e5 (.inr (Nat.le_refl _))
        refine⟨_,uK ht e1,.msl _ _ _ _ _ _ _ loc _ _ _ hJ hv' (fun _=>⟨rfl,fun _=>by split<;>omega,Nat.le_refl _,fun _=>rfl,?_⟩) (by omega) (by omega)⟩
        have hqc:m*e<=n*e:=Nat.mul_le_mul_right _ e2
        split
        ·rename_i hq;subst hq;simp;omega
        ·have:l*e+(m-l)*e=m*e:=by rw[<-Nat.add_mul];congr 1;omega
         omega
     ·simp at hr
    ·simp at hr
   ·simp at hr
  ·rename_i cs
   split at hr
   ·simp at hr
   rename_i hlen
   split at hr
   ·rename_i l h' m hb
    simp at hr;subst hr
    obtain⟨e1,e2,e3,e4,e5,e6⟩:=fW (P:=P) (w:=w) (isS:=false) hb (Nat.le_refl _) h1 h2 h3
    have hmm:(if mx=none then n else m)=m:=by
     split
     ·rename_i hx';exact(e3 hx').symm
     ·rfl
    rw[hmm]at e1
    have hhm:=e5 (.inr (Nat.le_refl _))
    have hir:=hx.iv_inv
    cases hir with
    | cp cs b off vals hm hvv =>
     refine⟨_,uK ht e1,.iv _ ?_⟩
     have hce:=qN e n cs (by omega)
     have hcl:=fX e n cs
     refine aA0 (es:=e) (es':=e) (off:=off) (vals:=fun i j=>vals (i*e+j)) hce (bDp hce) (fun i c j x hc hx=>?_) (fun i c j x hc hx=>?_) (by split<;>simp) e4 (by omega) (by omega) (fun q=>?_) (fun q=>if_neg (by omega))
     ·obtain⟨q1,rfl⟩:=qM e n cs (by omega) i c hc
      rw[List.getElem?_take]at hx
      split at hx
      ·rw[Nat.add_assoc];exact hm _ _ (by simpa using hx)
      ·simp at hx
     ·obtain⟨q1,rfl⟩:=qM e n cs (by omega) i c hc
      rw[List.getElem?_take]at hx
      split at hx
      ·exact hvv _ _ (by simpa using hx)
      ·simp at hx
     ·split at q
      ·rename_i hq;rw[hq]
      ·simp at q
   ·simp at hr
  ·simp at hr
 ·simp at hr
theorem dF.mk0 {top:TOp}(ht:aS top=none){M':Mem}{J':aD}{w':World}{s:Sem Next}{v:TV}{r:Next}(hrun:s.run P w=.ok r w')(hr:bGs M' J' L r v)(hms:MS P O K M' J' L S' env' w')
  (tr:Tr (dC L) M J S w M' J' S' w') (hel:tN env env'):dF P O K top M J L S env w s v env' S' :=
 ⟨M',J',L,w',r,hrun,hr,hms,tr,by rw[ht];exact⟨rfl,hel⟩⟩
theorem aRz {o:Oper}{t:TypeId}{x y:Operand}(hop:o.op=.store t x y){n:Nat}(hn:sizeOf? P t=some n)(a:Act)(h:MS P O K M J L S env w){e1 e2:TV}(h1:VR M J L e1 (a.eval x))(h2:VR M J L e2 (a.eval y))
  (hl:(cellsOf e2).length=n) (hs:setCells env S e1 (cellsOf e2)=some (env',S')) {top:TOp} (htop:aS top=none):dF P O K top M J L S env w (execOp a.eval o) undef env' S':=by
 have href:(cellsOf e2).any cB=false:=by
  unfold setCells at hs
  split at hs
  ·simp at hs
  ·rename_i q;simpa using q
 have hc:=sB h2 href
 obtain⟨b,off,w',hv,hrun,hms,tr,hel⟩:=wI h hs h1 hc
 refine .mk0 htop (r:=.skip) ?_ (.inr ⟨rfl,rfl⟩) hms tr hel
 have hsz:(a.eval y).cells.size=n:=by rw[<-hl];simpa using hc.1
 simp[execOp,hop,hv,Go.Instr.storeAt,Go.Instr.sureAddr,storeVar,run_size? hn,hsz,hrun]
theorem jO {t:TypeId}{z:List IV}(h:hO P t=some z):∃i zv,P.info? t=some i∧i.zero=some zv∧i.size=z.length∧zv.cells.size=z.length∧(∀w,(zeroValue t).run P w=.ok zv w) ∧
  ∀(M:Mem) (k:Nat) (x:IV) (u:Value),z[k]? = some x->zv.cells[k]? = some u->IR M x u:=by
 unfold hO at h
 split at h
 ·rename_i i hi
  split at h
  ·rename_i zv hz
   split at h
   ·rename_i hs
    have hl:=(wJ (M:=fun _ _=>none) h).1
    have hl':zv.cells.size=z.length:=by simpa using hl.symm
    refine⟨i,zv,hi,hz,by omega,hl',fun w=>?_,fun M k x u hx hu=>(wJ (M:=M) h).2 k x u hx (by simpa using hu)⟩
    simp[zeroValue,typeInfo,hi,hz]
   ·simp at h
  ·simp at h
 ·simp at h
theorem aB8 {z:List IV}{zv:Value}(hsz:zv.cells.size=z.length)(hz:∀(M:Mem) (k:Nat) (x:IV) (u:Value),z[k]? = some x->zv.cells[k]? = some u->IR M x u):VRs M J L (z.map .iv) zv.cells.toList :=
 .ofIVs (by simpa using hsz) fun i x u h1 h2=>hz M i x u h1 (by simpa using h2)
theorem MS.step' {M':Mem}{J':aD}{w':World}(h:MS P O K M J L S env w)(hw:WR P O M' J' S' w')(t:Tr (fun _=>False) M J S w M' J' S' w'):
  MS P O K M' J' L S' env w'∧Tr (dC L) M J S w M' J' S' w' :=
 ⟨h.step hw t (fun _ _ hf=>hf),t.weaken (fun _ hf=>hf.elim)⟩
theorem aMu (h:MS P O K M J L S env w){xs:List TV}{cs:Array Value}(e:TypeId)(hfit:xs.length<=cs.size)(hv:∀(k:Nat) (x:TV),xs[k]? = some x->∃u,cs[k]? = some u∧VR M J [] x u)(loose:Bool)(cap es:Nat):
  let l:Loc:={cb:=w.heap.size,d:=0,ver:=0,cap:=cap,es:=es,size:=cs.size,loose:=loose}
  MS P O K M (J++[some l]) L (S++[.cells 0 loose xs]) env (w.alloc (.cells cs e))∧Tr (dC L) M J S w M (J++[some l]) (S++[.cells 0 loose xs]) (w.alloc (.cells cs e)) ∧
   aD.at (J++[some l]) S.length l:=by
 intro l
 have hM:M.ext w.heap.size (fun _=>none)=M:=sC h.wr.none_at
 have hb:=h.wr.push (fun _=>False) (.cells cs e) (fun _=>none) l (.cells l.ver loose xs) rfl (fun o v hm=>by simp at hm) (by
  rw[hM]
  refine .cells loose xs cs e (0,0) rfl (dD w _) rfl (by show 0+xs.length<=cs.size;omega) (fun k x hx=>?_) (fun o ho=>?_) (fun o=>h.wr.none_at o) (fun _ q=>absurd rfl q)
  ·obtain⟨u,h1,h2⟩:=hv k x hx
   exact⟨u,by show cs[0+k]? = _;rw[Nat.zero_add];exact h1,h2.mono (.refl _) (.push _ _)⟩
  ·exact World.frozen?_alloc_new w cs e o)
 rw[hM]at hb
 obtain⟨a,b⟩:=h.step' hb.1 hb.2
 refine⟨a,b,?_⟩
 unfold aD.at
 rw[<-h.wr.len]
 simp
theorem VRs.ex {xs:List TV}{cs:Array Value}(hv:VRs M J [] xs cs.toList):xs.length<=cs.size∧∀(k:Nat) (x:TV),xs[k]? = some x->∃u,cs[k]? = some u∧VR M J [] x u:=by
 have hsz:cs.size=xs.length:=by simpa using hv.1
 refine⟨by omega,fun k x hx=>?_⟩
 have hlt:k<cs.size:=by rw[hsz];exact(List.getElem?_eq_some_iff.1 hx).1
 exact⟨cs[k],Array.getElem?_eq_getElem hlt,hv.2 k x _ hx (by simp[hlt])⟩
theorem vH {α:Type}{l:List α}{i j:Nat}{x:α}(h:j≠i):(l.set i x)[j]? = l[j]? := by
 rw[List.getElem?_set_ne (by omega)]
theorem aB9 (h:MS P O K M J L S env w){xs:List TV}{cs:Array Value}(e:TypeId)(hv:VRs M J [] xs cs.toList){j:Nat}(hj:j<env.length){top:TOp}(htop:aS top=some j){s:Sem Next}
  (hrun:s.run P w=.ok (.value (.pointer (some ⟨w.heap.size,0,none⟩))) (w.alloc (.cells cs e))):dF P O K top M J L S env w s (.lp j 0) (env.set j (.lb xs)) S:=by
 have hM:M.ext w.heap.size (fun _=>none)=M:=sC h.wr.none_at
 have hb:=h.wr.alloc (fun _=>False) (.cells cs e) (fun _=>none) (fun o v hm=>by simp at hm)
 rw[hM]at hb
 obtain⟨a,b⟩:=h.step' hb.1 hb.2
 have hjL:j<L.length:=by rw[h.lb.len];exact hj
 have hL:(L.set j (some w.heap.size))[j]? = some (some w.heap.size):=List.getElem?_set_self hjL
 have hnj:¬J.has w.heap.size:=fun q=>absurd (h.wr.has_lt q) (by omega)
 refine⟨M,J,L.set j (some w.heap.size),w.alloc (.cells cs e),_,hrun,.inl ⟨_,rfl,.lp _ _ _ _ hL⟩,⟨a.wr,⟨by simp[h.lb.len],fun k ys hk=>?_,fun k k' ys ys' cb hk hk' hc hc'=>?_⟩,h.gl⟩,b,?_⟩
 ·by_cases hkj:k=j
  ·subst hkj
   rw[List.getElem?_set_self hj]at hk
   simp at hk;subst hk
   exact⟨_,hL,hnj,h.wr.none_at,cs,e,(0,0),dD w _,hv,fun o _=>World.frozen?_alloc_new w cs e o⟩
  ·rw[vH hkj]at hk
   obtain⟨cb,h1,h2⟩:=a.lb.box k ys hk
   exact⟨cb,by rw[vH hkj];exact h1,h2⟩
 ·have old:∀ {m:Nat} {ys:List TV} {cb:Nat},m≠j->(env.set j (TV.lb xs))[m]? = some (TV.lb ys)->(L.set j (some w.heap.size))[m]? = some (some cb)->env[m]? = some (TV.lb ys)∧L[m]? = some (some cb)∧cb<w.heap.size:=by
   intro m ys cb hm h1 h2
   rw[vH hm]at h1 h2
   obtain⟨cb',h3,h4⟩:=h.lb.box m ys h1
   rw[h2]at h3
   simp at h3;subst h3
   exact⟨h1,h2,h4.lt⟩
  by_cases hkj:k=j
  ·by_cases hkj':k'=j
   ·omega
   ·subst hkj
    obtain⟨_,_,q⟩:=old hkj' hk' hc'
    rw[hL]at hc
    simp at hc;omega
  ·by_cases hkj':k'=j
   ·subst hkj'
    obtain⟨_,_,q⟩:=old hkj hk hc
    rw[hL]at hc'
    simp at hc';omega
   ·obtain⟨p1,p2,_⟩:=old hkj hk hc
    obtain⟨q1,q2,_⟩:=old hkj' hk' hc'
    exact h.lb.inj k k' ys ys' cb p1 q1 p2 q2
 ·rw[htop]
  exact⟨xs,w.heap.size,rfl,rfl,Nat.le_refl _⟩
theorem aE4 {o:Oper}{t:TypeId}(hop:o.op=.alloc t){zv:Value}(hz:∀w,(zeroValue t).run P w=.ok zv w)(a:Act):
  (execOp a.eval o).run P w=.ok (.value (.pointer (some ⟨w.heap.size,0,none⟩))) (w.alloc (.cells zv.cells t)):=by
 simp[execOp,hop,Go.Instr.alloc,hz,newVar,newRow]
theorem aQi {o:Oper}{t:TypeId}{x:Operand}(hop:o.op=.box t x)(a:Act):
  (execOp a.eval o).run P w=.ok (.value (.pointer (some ⟨w.heap.size,0,none⟩))) (w.alloc (.cells (a.eval x).cells t)):=by
 simp[execOp,hop,Go.Instr.box,newVar,newRow]
theorem aJa {n bytes:Nat}(h:fZ n bytes=true):n*bytes<=35184372088832∧bytes<=1048576∧n<=35184372088832:=by
 unfold fZ at h
 simp at h
 exact⟨h.1.1,h.1.2,h.2⟩
theorem aCa {z:List IV}{n k:Nat}{x:TV}(h:(cA (List.replicate n (z.map TV.iv)))[k]? = some x):k<n*z.length∧∃y,z[k % z.length]? = some y∧x=.iv y:=by
 obtain⟨i,c,j,h1,h2,h3⟩:=wL (es:=z.length) (fun c hc=>by rw[List.eq_of_mem_replicate hc];simp) h
 have hin:i<n:=by have:=(List.getElem?_eq_some_iff.1 h1).1;simpa using this
 rw[List.getElem?_replicate]at h1
 simp[hin]at h1
 subst h1
 simp only[List.getElem?_map,Option.map_eq_some_iff]at h2
 obtain⟨y,hy,rfl⟩:=h2
 have hj:=(List.getElem?_eq_some_iff.1 hy).1
 have:(i+1)*z.length<=n*z.length:=Nat.mul_le_mul_right _ hin
 rw[Nat.add_mul]at this
 refine⟨by omega,y,?_,rfl⟩
 rw[h3,Nat.mul_comm,Nat.mul_add_mod,Nat.mod_eq_of_lt hj]
 exact hy
theorem bDt {z:List IV}{zc:Array Value}(hsz:zc.size=z.length)(hz:∀(k:Nat) (x:IV) (u:Value),z[k]? = some x->zc[k]? = some u->IR M x u){k:Nat}{y:IV}(hy:z[k % z.length]? = some y):IR M y (zc[k % zc.size]!):=by
 have hlt:k % z.length<zc.size:=by rw[hsz];exact(List.getElem?_eq_some_iff.1 hy).1
 rw[hsz,getElem!_pos zc _ hlt]
 exact hz _ y _ hy (Array.getElem?_eq_getElem hlt)
theorem xY {J:aD}{i:Nat}{l':Loc}(hi:i<J.length){k:Nat}{lk:Loc}(h:aD.at (J.set i (some l')) k lk):(k=i∧lk=l')∨(k≠i∧J.at k lk):=by
 unfold aD.at at h ⊢
 by_cases hk:k=i
 ·subst hk
  rw[List.getElem?_set_self hi]at h
  simp at h
  exact .inl ⟨rfl,h.symm⟩
 ·rw[List.getElem?_set_ne (by omega)]at h
  exact .inr ⟨hk,h⟩
theorem gM {J:aD}{i:Nat}{l':Loc}(hi:i<J.length):aD.at (J.set i (some l')) i l':=by
 unfold aD.at
 rw[List.getElem?_set_self hi]
theorem WR.turn (h:WR P O M J S w){i:Nat}{l l':Loc}(hl:J.at i l)(hlo:l.loose=true)(hlo':l'.loose=true)(hver:l.ver<l'.ver){M':Mem}{w':World}{s':aP}(hM:MLe M M')(hMo:∀b o,b≠l'.cb->M' b o=M b o)
  (hot:∀b,b≠l'.cb->b<w.heap.size->w'.heap[b]? = w.heap[b]?) (hsz:w.heap.size<=w'.heap.size) (hlt:l'.cb<w'.heap.size) (hcb:l'.cb=l.cb∨w.heap.size<=l'.cb) (himm:∀o v,M' l'.cb o=some v->w'.cell? ⟨l'.cb,o,none⟩=some v)
  (hos:w'.os=w.os∧w'.tape=w.tape∧w'.output=w.output) (hbr:BR P O M' (J.set i (some l')) w' l' s'):
  WR P O M' (J.set i (some l')) (S.set i s') w'∧Tr (fun _=>False) M J S w M' (J.set i (some l')) (S.set i s') w':=by
 have hi:i<J.length:=(List.getElem?_eq_some_iff.1 hl).1
 have hJ:JLe J (J.set i (some l')):=by
  refine⟨by simp,fun k lk hk=>?_⟩
  by_cases hki:k=i
  ·subst hki
   obtain rfl:lk=l:=by unfold aD.at at hk hl;rw[hl]at hk;simpa using hk.symm
   exact⟨l',gM hi,.inr ⟨hlo,hlo',hver⟩⟩
  ·refine⟨lk,?_,.inl rfl⟩
   unfold aD.at at hk ⊢
   rw[List.getElem?_set_ne (by omega)];exact hk
 have hne:∀ {k:Nat} {lk:Loc},k≠i->J.at k lk->lk.cb≠l'.cb:=by
  intro k lk hk hlk e
  rcases hcb with h1|h1
  ·exact hk (h.inj k i lk l hlk hl (e.trans h1))
  ·have:=h.lt k lk hlk;omega
 refine⟨h.step (by simp[h.len]) hM hJ (fun b o v hm=>?_) (fun k lk s hk hs=>?_) (fun k k' lk lk' hk hk' e=>?_) (fun k lk hk=>?_),?_⟩
 ·by_cases hb:b=l'.cb
  ·subst hb;exact himm o v hm
  ·rw[hMo b o hb]at hm
   rw[fH (hot b hb (h.mlt hm))]
   exact h.imm b o v hm
 ·rcases xY hi hk with⟨rfl,rfl⟩|⟨hki,hk⟩
  ·left
   rw[List.getElem?_set_self (by rw[<-h.len];exact hi)]at hs
   simp at hs;subst hs
   exact hbr
  ·right
   rw[List.getElem?_set_ne (by omega)]at hs
   exact⟨hk,hs,hot _ (hne hki hk) (h.lt k lk hk),fun o=>hMo _ _ (hne hki hk)⟩
 ·rcases xY hi hk with⟨rfl,rfl⟩|⟨hki,hk2⟩<;>rcases xY hi hk' with⟨rfl,rfl⟩|⟨hki',hk2'⟩
  ·rfl
  ·exact absurd e.symm (hne hki' hk2')
  ·exact absurd e (hne hki hk2)
  ·exact h.inj k k' lk lk' hk2 hk2' e
 ·rcases xY hi hk with⟨rfl,rfl⟩|⟨hki,hk⟩
  ·exact hlt
  ·have:=h.lt k lk hk;omega
 ·refine⟨hos.1,hos.2.1,hos.2.2,hsz,hM,fun b o hb hn=>hMo b o (fun e=>?_),hJ,fun k lk hk=>?_,fun k hk=>?_,fun b hb hn _=>hot b (fun e=>?_) hb⟩
  ·rcases hcb with h1|h1
   ·exact hn ⟨i,l,hl,by omega⟩
   ·omega
  ·rcases xY hi hk with⟨rfl,rfl⟩|⟨hki,hk⟩
   ·rcases hcb with h1|h1
    ·exact .inr ⟨l,hl,h1.symm⟩
    ·exact .inl h1
   ·exact .inr ⟨lk,hk,rfl⟩
  ·have hki:k≠i:=by
    rintro rfl
    unfold aD.at at hl
    rw[hl]at hk;simp at hk
   rw[List.getElem?_set_ne (by omega),List.getElem?_set_ne (by omega)]
   exact⟨hk,rfl⟩
  ·rcases hcb with h1|h1
   ·exact hn ⟨i,l,hl,by omega⟩
   ·omega
theorem MS.drew (h:MS P O K M J L S env w):MS P O K M J L S env w.drew∧Tr (fun _=>False) M J S w M J S w.drew:=by
 obtain⟨a,b⟩:=h.wr.drew (fun _=>False)
 exact⟨(h.step' a b).1,b⟩
structure aQj (P:Program) (w:World) (M:Mem) (J:aD) (es sLen sCap n:Nat) (base:Option Addr) (xv:Value) (os ns:List TV):Prop where
 lenX:(Builtin.lenOf xv).run P w=.ok n w
 newX:∃vs,VRs M J [] ns vs∧(Builtin.firstCells es n xv).run P w=.ok vs.toArray w
 old:∃vs,VRs M J [] os vs∧(Builtin.firstCells es sLen (.slice base sLen sCap)).run P w=.ok vs.toArray w
 olen:os.length=sLen*es
 nlen:ns.length=n*es
theorem aX2 {t u el:TypeId}{ty:TypeId}{ts:Array TypeId}(h0:ts[0]? = some t)(h1:ts[1]? = some u)(ht:P.underlying t=some (.slice el))(hu:(∃e,P.underlying u=some (.slice e))∨P.underlying u=some .string)
  {z:List IV} (hz:hO P el=some z) {bytes:Nat} (hby:bytesOf? P el=some bytes) (hb0:bytes≠0) {sLen sCap n:Nat} {base:Option Addr} {xv:Value} {os ns:List TV} (hin:aQj P w.drew M J z.length sLen sCap n base xv os ns)
  (hlen:(Builtin.lenOf xv).run P w=.ok n w) (hg:sCap<sLen+n) (hr:fZ (sLen+n) bytes=true):
  ∃cs cap,(Builtin.append_ ts ty #[.slice base sLen sCap,xv]).run P w=.ok (.slice (some ⟨w.heap.size,0,none⟩) (sLen+n) cap) (w.drew.alloc (.cells cs el))∧sLen+n<=cap∧cs.size=cap*z.length ∧
   ∀(k:Nat) (x:TV),(os++ns)[k]? = some x->∃v,cs[k]? = some v∧VR M J [] x v:=by
 obtain⟨i,zv,hi,hiz,his,hzs,hzr,hzi⟩:=jO hz
 obtain⟨r1,r2,r3⟩:=aJa hr
 have hb:i.bytes=bytes:=by
  unfold bytesOf? at hby
  rw[hi]at hby
  simpa using hby
 obtain⟨nv,n1,n2⟩:=hin.newX
 obtain⟨ov,o1,o2⟩:=hin.old
 have hfit:=growslice_fits (bytes:=bytes) hg (by omega)
 have hn:¬(sLen+n<=sCap):=by omega
 have h48':¬(281474976710656<Builtin.nextslicecap (sLen+n) sCap*i.bytes):=by rw[hb];omega
 have hbz:¬(i.bytes=0):=by omega
 have hge:=grownCap_ge w (sLen+n) sCap el
 refine⟨ov.toArray++nv.toArray++Builtin.zeroCells zv.cells (grownCap w (sLen+n) sCap el-(sLen+n)),grownCap w (sLen+n) sCap el,?_,hge,?_,fun k x hx=>?_⟩
 ·rw[<-his]at n2 o2
  have hcs:ov.toArray++nv.toArray++Builtin.zeroCells zv.cells (grownCap w (sLen+n) sCap el-(sLen+n))=(ov++nv).toArray++Builtin.zeroCells zv.cells (grownCap w (sLen+n) sCap el-(sLen+n)):=by simp
  rw[hcs]
  rcases hu with⟨e,he⟩|he <;>
  ·simp[Builtin.append_,h0,h1,und ht,und he,sizeOf,typeInfo,zeroValue,hi,hiz,hlen,hn,hbz,h48',Question.forced,n2,o2,newRow,grownCap]
   congr 2
   apply Array.ext'
   simp
 ·have e1:ov.length=sLen*z.length:=by rw[o1.1,hin.olen]
  have e2:nv.length=n*z.length:=by rw[n1.1,hin.nlen]
  simp only[Array.size_append,List.size_toArray,size_zeroCells,hzs,e1,e2,<-Nat.add_mul]
  congr 1
  omega
 ·have hv:=o1.append n1
  have hlt:k<(ov++nv).length:=by rw[hv.1];exact(List.getElem?_eq_some_iff.1 hx).1
  refine⟨(ov++nv)[k],?_,hv.2 k x _ hx (List.getElem?_eq_getElem hlt)⟩
  have:(ov.toArray++nv.toArray:Array Value)=(ov++nv).toArray:=by simp
  rw[this,Array.getElem?_append_left (by simpa using hlt)]
  simp
theorem wN {t u el:TypeId}{ty:TypeId}{ts:Array TypeId}(h0:ts[0]? = some t)(h1:ts[1]? = some u)(ht:P.underlying t=some (.slice el))(hu:(∃e,P.underlying u=some (.slice e))∨P.underlying u=some .string)
  {es:Nat} (hes:sizeOf? P el=some es) {sLen sCap n:Nat} {b o:Nat} {xv:Value} {vs:List Value} (hlen:(Builtin.lenOf xv).run P w=.ok n w) (hnew:(Builtin.firstCells es n xv).run P w=.ok vs.toArray w) (hg:sLen+n<=sCap) {w':World}
  (hst:(storeCells ⟨b,o+sLen*es,none⟩ vs).run P w=.ok () w'):
  (Builtin.append_ ts ty #[.slice (some ⟨b,o,none⟩) sLen sCap,xv]).run P w=.ok (.slice (some ⟨b,o,none⟩) (sLen+n) sCap) w':=by
 have hs:=run_size? hes w
 rcases hu with⟨e,he⟩|he <;>
 ·simp[Builtin.append_,h0,h1,und ht,und he,hs,hlen,hg,hnew,iL,hst]
theorem aX3 (p0:Option Addr){t u el:TypeId}{ty:TypeId}{ts:Array TypeId}(h0:ts[0]? = some t)(h1:ts[1]? = some u)(ht:P.underlying t=some (.slice el))(hu:(∃e,P.underlying u=some (.slice e))∨P.underlying u=some .string)
  {es:Nat} (hes:sizeOf? P el=some es) {xv:Value} (hlen:(Builtin.lenOf xv).run P w=.ok 0 w) (hnew:(Builtin.firstCells es 0 xv).run P w=.ok #[] w):
  (Builtin.append_ ts ty #[.slice p0 0 0,xv]).run P w=.ok (.slice p0 0 0) w:=by
 have hs:=run_size? hes w
 cases p0<;>rcases hu with⟨e,he⟩|he <;>
 ·simp[Builtin.append_,h0,h1,und ht,und he,hs,hlen,hnew,storeCells]
theorem zD {t:TypeId}{z:List IV}(h:hO P t=some z):sizeOf? P t=some z.length:=by
 obtain⟨i,zv,hi,_,his,_⟩:=jO h
 simp[sizeOf?,hi,his]
theorem bDu {s:TV}{v:Value}(hs:aMn s=true)(hv:VR M J L s v):(∃p,v=.slice p 0 0)∨∃b o n c,v=.slice (some ⟨b,o,none⟩) n c∧n<=c:=by
 cases hv with
 | iv L h =>
  cases h with
  | slNil=>exact .inl ⟨_,rfl⟩
  | slE t a ht=>exact .inl ⟨_,rfl⟩
  | sl t l b off cap es vals ht hes hcap hfull hm hv=>exact .inr ⟨b,off,_,cap,rfl,hcap⟩
  | _=>simp[aMn]at hs
 | msl L i ver off len cap es l b o c h hv ha hl hlc=>exact .inr ⟨b,o,_,c,rfl,hlc⟩
 | tsl L i es l b o c h hl hv ha hr =>
  rcases hr.sl_any with⟨h0,_⟩|⟨b',o',c',es',vals,h0,_,_,h3,_⟩|⟨a0,h0,h9,_⟩
  case inr.inr=>subst h9;simp at h0;obtain⟨rfl,rfl⟩:=h0;exact .inl ⟨_,rfl⟩
  ·simp at h0
  ·simp at h0
   obtain⟨_,rfl⟩:=h0
   exact .inr ⟨b,o,_,c,rfl,h3⟩
 | _=>simp[aMn]at hs
theorem aGw {α:Type}{es:Nat}:∀ {l:List (List α)},(∀c∈l,c.length=es)->∀ {i:Nat} {c:List α} {j:Nat} {x:α},l[i]? = some c->c[j]? = some x->(cA l)[i*es+j]? = some x
 | [],_,i,c,j,x,h,_=>by simp at h
 | a::r,hl,i,c,j,x,h,hx=>by
  have ha:=hl a (by simp)
  simp only[cA]
  cases i with
  | zero =>
   simp at h;subst h
   have:=(List.getElem?_eq_some_iff.1 hx).1
   rw[List.getElem?_append_left (by omega)]
   simpa using hx
  | succ i =>
   have hl':∀c∈r,c.length=es:=fun c hc=>hl c (by simp[hc])
   have:=aGw hl' (by simpa using h) hx
   rw[List.getElem?_append_right (by rw[Nat.add_mul];omega),ha]
   rw[show(i+1)*es+j-es=i*es+j by rw[Nat.add_mul];omega]
   exact this
theorem aJb {M:Mem}{t:Tag}{l:List (List IV)}{b o c es:Nat}(ht:t≠.nil)(hes:∀c∈l,c.length=es)(hc:l.length<=c)(hfull:t=.full->c=l.length)(h:∀(k:Nat) (a:IV),(cA l)[k]? = some a->∃u,M b (o+k)=some u∧IR M a u):
  IR M (.sl t l) (.slice (some ⟨b,o,none⟩) l.length c):=by
 refine .sl t l b o c es (fun i j=>(M b (o+(i*es+j))).getD Go.undef) ht hes hc hfull (fun i c j x h1 h2=>?_) (fun i c j x h1 h2=>?_)
 ·obtain⟨u,h3,h4⟩:=h _ _ (aGw hes h1 h2)
  rw[Nat.add_assoc,h3];rfl
 ·obtain⟨u,h3,h4⟩:=h _ _ (aGw hes h1 h2)
  rw[h3];exact h4
theorem aE5 (l:List IV):toIVs (l.map .iv)=some l:=by
 induction l with
 | nil=>rfl
 | cons a r ih=>simp[toIVs,rS,ih]
theorem wO:∀ {a b:List TV} {x y:List IV},toIVs a=some x->toIVs b=some y->toIVs (a++b)=some (x++y)
 | [],b,x,y,h,k=>by simp[toIVs]at h;subst h;simpa using k
 | v::r,b,x,y,h,k=>by
  simp only[toIVs]at h
  split at h
  ·rename_i a l h1 h2
   simp at h;subst h
   simp[toIVs,h1,wO h2 k]
  ·simp at h
def Mem.put (M:Mem)(b o:Nat)(vs:List Value):Mem:=fun b' o'=>if b'=b∧o<=o'∧o'<o+vs.length then vs[o'-o]? else M b' o'
theorem Mem.put_le {M:Mem}{b o:Nat}{vs:List Value}(h:∀o',o<=o'->o'<o+vs.length->M b o'=none):MLe M (M.put b o vs):=by
 intro b' o' v hv
 unfold Mem.put
 split
 ·rename_i hc
  obtain⟨rfl,h1,h2⟩:=hc
  rw[h o' h1 h2]at hv;simp at hv
 ·exact hv
theorem JLe.turn {J:aD}{i:Nat}{l l':Loc}(hl:J.at i l)(hlo:l.loose=true)(hlo':l'.loose=true)(hver:l.ver<l'.ver):JLe J (J.set i (some l')):=by
 have hi:i<J.length:=(List.getElem?_eq_some_iff.1 hl).1
 refine⟨by simp,fun k lk hk=>?_⟩
 by_cases hki:k=i
 ·subst hki
  obtain rfl:lk=l:=by unfold aD.at at hk hl;rw[hl]at hk;simpa using hk.symm
  exact⟨l',gM hi,.inr ⟨hlo,hlo',hver⟩⟩
 ·refine⟨lk,?_,.inl rfl⟩
  unfold aD.at at hk ⊢
  rw[List.getElem?_set_ne (by omega)];exact hk
theorem aCb (h:MS P O K M J L S env w){i:Nat}{l:Loc}(hl:J.at i l)(hlo:l.loose=true){xs:List TV}{cs:Array Value}(e:TypeId)(hfit:xs.length<=cs.size)
  (hv:∀(k:Nat) (x:TV),xs[k]? = some x->∃u,cs[k]? = some u∧VR M J [] x u):
  let l':Loc:={cb:=w.heap.size,d:=0,ver:=l.ver+1,cap:=0,es:=0,size:=cs.size,loose:=true}
  MS P O K M (J.set i (some l')) L (S.set i (.cells (l.ver+1) true xs)) env (w.alloc (.cells cs e))∧Tr (dC L) M J S w M (J.set i (some l')) (S.set i (.cells (l.ver+1) true xs)) (w.alloc (.cells cs e)) ∧
   aD.at (J.set i (some l')) i l':=by
 intro l'
 have hi:i<J.length:=(List.getElem?_eq_some_iff.1 hl).1
 have hJ:JLe J (J.set i (some l')):=.turn hl hlo rfl (Nat.lt_succ_self _)
 obtain⟨a,b⟩:=h.wr.turn hl hlo (l':=l') rfl (Nat.lt_succ_self _) (M':=M) (w':=w.alloc (.cells cs e)) (s':=.cells l'.ver true xs) (.refl _) (fun _ _ _=>rfl) (fun b hb hlt=>cR w _ (by omega)) (by simp) (by show w.heap.size<_;simp)
  (.inr (Nat.le_refl _)) (fun o v hm=>by rw[h.wr.none_at]at hm;simp at hm) ⟨rfl,rfl,rfl⟩
  (.cells true xs cs e (0,0) rfl (dD w _) rfl (by show 0+xs.length<=cs.size;omega) (fun k x hx=>by
   obtain⟨u,h1,h2⟩:=hv k x hx
   exact⟨u,by show cs[0+k]? = _;rw[Nat.zero_add];exact h1,h2.mono (.refl _) hJ⟩) (fun o _=>World.frozen?_alloc_new w cs e o) (fun o=>h.wr.none_at o) (fun q=>by simp[l']at q))
 obtain⟨c,d⟩:=h.step' a b
 exact⟨c,d,gM hi⟩
theorem aDx (h:MS P O K M J L S env w){i:Nat}{l:Loc}(hl:J.at i l)(hlo:l.loose=true){cs0:List TV}(hs:S[i]? = some (.cells l.ver true cs0)){o:Nat}{os ns:List TV}{vs:List Value}
  (hos:At w M J l.cb o os) (hn:VRs M J [] ns vs) (hfit:o+os.length+ns.length<=l.size) (h1:ns.any cB=false):
  let l':Loc:={l with d:=o,ver:=l.ver+1}
  ∃w',(storeCells ⟨l.cb,o+os.length,none⟩ vs).run P w=.ok () w'∧MS P O K M (J.set i (some l')) L (S.set i (.cells (l.ver+1) true (os++ns))) env w' ∧
   Tr (dC L) M J S w M (J.set i (some l')) (S.set i (.cells (l.ver+1) true (os++ns))) w'∧aD.at (J.set i (some l')) i l':=by
 intro l'
 have hi:i<J.length:=(List.getElem?_eq_some_iff.1 hl).1
 have hbr:=h.wr.blk i l _ hl hs
 generalize hb0:aP.cells l.ver true cs0=s0 at hbr
 cases hbr with
 | cells loose cs cs' e fz hlo' hb hsz hfit' hvals hfz hm htt =>
  have hJ:JLe J (J.set i (some l')):=.turn hl hlo hlo (Nat.lt_succ_self _)
  have hrun:=nD (P:=P) (o:=o+os.length) (vs:=vs) hb (by rw[hn.1];omega) (fun k _ hk=>hfz k (by rw[hn.1]at hk;omega)) (hn.oneCell h1)
  have hoth:∀b,b≠l.cb->(w.setCells l.cb (o+os.length) vs).heap[b]? = w.heap[b]? := fun b hb'=>iM l.cb vs _ w b hb'
  have hsize:=gX l.cb vs (o+os.length) w
  have hlt:=fV hb
  have hnew:=jI l.cb vs (o+os.length) w cs' e fz hb
  obtain⟨a,b⟩:=h.wr.turn hl hlo (l':=l') hlo (Nat.lt_succ_self _) (M':=M) (w':=w.setCells l.cb (o+os.length) vs) (s':=.cells l'.ver true (os++ns)) (.refl _) (fun _ _ _=>rfl) (fun b hb _=>hoth b hb) (by omega) (by rw[hsize];exact hlt)
   (.inl rfl) (fun o v hm'=>by rw[show M l'.cb o=none from hm o]at hm';simp at hm') (mB _ _ _ _)
   (.cells true (os++ns) (rD cs' (o+os.length) vs) e fz hlo hnew (by rw[eT];exact hsz) (by rw[eT,List.length_append];show o+_<=_;omega) (fun k x hx=>by
    show ∃u,(rD cs' (o+os.length) vs)[o+k]? = some u∧_
    rw[sA _ _ _ _ (by rw[hn.1];omega)]
    rw[List.getElem?_append]at hx
    split at hx
    ·rename_i hk
     rw[if_neg (by omega)]
     obtain⟨u,h2,h3⟩:=hos k x hx
     rw[fF hb]at h2
     exact⟨u,h2,h3.mono (.refl _) hJ⟩
    ·rename_i hk
     have hkl:=(List.getElem?_eq_some_iff.1 hx).1
     rw[if_pos (by rw[hn.1];omega),show o+k-(o+os.length)=k-os.length by omega]
     have hlt':k-os.length<vs.length:=by rw[hn.1];exact hkl
     exact⟨vs[k-os.length],List.getElem?_eq_getElem hlt',(hn.2 _ x _ hx (List.getElem?_eq_getElem hlt')).mono (.refl _) hJ⟩)
    (fun k hk=>by rw[World.frozen?_setCells];exact hfz k (by rwa [eT]at hk)) hm (fun q=>by rw[show l'.loose=true from hlo]at q;simp at q))
  obtain⟨c,d⟩:=h.step' a b
  exact⟨_,hrun,c,d,gM hi⟩
 | _=>simp at hb0
def nV (cs:Array Value)(n:Nat):Nat->Option Value:=fun o=>if o<n then cs[o]? else none
theorem aGx {w:World}(cs:Array Value)(n:Nat)(e:TypeId):∀o v,nV cs n o=some v->(w.alloc (.cells cs e)).cell? ⟨w.heap.size,o,none⟩=some v:=by
 intro o v hv
 unfold nV at hv
 split at hv
 ·rw[World.cell?_alloc_new];exact hv
 ·simp at hv
theorem aX4 {M:Mem}{n:Nat}{l:List (List IV)}{es c:Nat}{cs:Array Value}(hM:∀o,M n o=nV cs (l.length*es) o)(hes:∀c∈l,c.length=es)(hc:l.length<=c)(h:∀(k:Nat) (a:IV),(cA l)[k]? = some a->∃u,cs[k]? = some u∧IR M a u):
  IR M (.sl .no l) (.slice (some ⟨n,0,none⟩) l.length c):=by
 refine aJb (by simp) hes hc (by simp) fun k a hk=>?_
 obtain⟨u,h1,h2⟩:=h k a hk
 refine⟨u,?_,h2⟩
 rw[hM,Nat.zero_add]
 unfold nV
 have:=(List.getElem?_eq_some_iff.1 hk).1
 rw[dX hes]at this
 rw[if_pos this];exact h1
theorem aJc (h:MS P O K M J L S env w){l:List (List IV)}{es cap:Nat}{cs:Array Value}(e:TypeId)(hes0:0<es)(hes:∀c∈l,c.length=es)(hc:l.length<=cap)(hsz:cs.size=cap*es)
  (hv:∀(k:Nat) (a:IV),(cA l)[k]? = some a->∃u,cs[k]? = some u∧IR M a u):
  ∃M' J',MS P O K M' J' L (S++[.tok l.length es e]) env (w.alloc (.cells cs e))∧Tr (dC L) M J S w M' J' (S++[.tok l.length es e]) (w.alloc (.cells cs e)) ∧
   VR M' J' L (.tsl S.length l) (.slice (some ⟨w.heap.size,0,none⟩) l.length cap):=by
 let l':Loc:={cb:=w.heap.size,d:=0,ver:=l.length,cap:=cap,es:=es,size:=cs.size,loose:=true,ty:=e}
 have hle:=h.wr.mle_ext (nV cs (l.length*es))
 have hMl:∀o,(M.ext w.heap.size (nV cs (l.length*es))) w.heap.size o=nV cs (l.length*es) o:=fun o=>by simp[Mem.ext]
 obtain⟨a,b⟩:=h.wr.push (fun _=>False) (.cells cs e) (nV cs (l.length*es)) l' (.tok l.length es e) rfl (aGx cs _ e)
  (.tok l.length cs e (0,0) rfl rfl (dD w _) rfl hc hes0 (by show 0+cap*es<=cs.size;omega) (fun o ho _=>by
   rw[hMl];unfold nV
   have ho:0+l.length*es<=o:=ho
   rw[if_neg (by omega)]) (fun o _ _=>World.frozen?_alloc_new w cs e o) ⟨rfl,rfl,Nat.zero_le _⟩)
 obtain⟨c,d⟩:=h.step' a b
 have hat:aD.at (J++[some l']) S.length l':=by unfold aD.at;rw[<-h.wr.len];simp
 refine⟨_,_,c,d,.tsl _ _ _ l' _ _ _ hat rfl (Nat.le_refl _) (fun _=>⟨rfl,rfl,rfl,hes⟩) ?_⟩
 exact aX4 hMl hes hc fun k a hk=>let ⟨u,h1,h2⟩:=hv k a hk;⟨u,h1,h2.mono hle⟩
theorem aGy (h:MS P O K M J L S env w){i:Nat}{loc:Loc}(hl:J.at i loc)(hlo:loc.loose=true){l:List (List IV)}(hver:loc.ver<l.length){es cap:Nat}{cs:Array Value}(e:TypeId)(hes0:0<es)(hes:∀c∈l,c.length=es)
  (hc:l.length<=cap) (hsz:cs.size=cap*es) (hv:∀(k:Nat) (a:IV),(cA l)[k]? = some a->∃u,cs[k]? = some u∧IR M a u):
  ∃M' J',MS P O K M' J' L (S.set i (.tok l.length es e)) env (w.alloc (.cells cs e))∧Tr (dC L) M J S w M' J' (S.set i (.tok l.length es e)) (w.alloc (.cells cs e)) ∧
   VR M' J' L (.tsl i l) (.slice (some ⟨w.heap.size,0,none⟩) l.length cap):=by
 let l':Loc:={cb:=w.heap.size,d:=0,ver:=l.length,cap:=cap,es:=es,size:=cs.size,loose:=true,ty:=e}
 have hi:i<J.length:=(List.getElem?_eq_some_iff.1 hl).1
 have hle:=h.wr.mle_ext (nV cs (l.length*es))
 have hMl:∀o,(M.ext w.heap.size (nV cs (l.length*es))) w.heap.size o=nV cs (l.length*es) o:=fun o=>by simp[Mem.ext]
 obtain⟨a,b⟩:=h.wr.turn hl hlo (l':=l') rfl hver (M':=M.ext w.heap.size (nV cs (l.length*es))) (w':=w.alloc (.cells cs e)) (s':=.tok l.length es e) hle (fun b o hb=>by unfold Mem.ext;rw[if_neg hb])
  (fun b hb hlt=>cR w _ (by omega)) (by simp) (by show w.heap.size<_;simp) (.inr (Nat.le_refl _)) (fun o v hm=>aGx cs _ e o v (by rw[<-hMl];exact hm)) ⟨rfl,rfl,rfl⟩
  (.tok l.length cs e (0,0) rfl rfl (dD w _) rfl hc hes0 (by show 0+cap*es<=cs.size;omega) (fun o ho _=>by
   rw[hMl];unfold nV
   have ho:0+l.length*es<=o:=ho
   rw[if_neg (by omega)]) (fun o _ _=>World.frozen?_alloc_new w cs e o) ⟨rfl,rfl,Nat.zero_le _⟩)
 obtain⟨c,d⟩:=h.step' a b
 refine⟨_,_,c,d,.tsl _ _ _ l' _ _ _ (gM hi) rfl (Nat.le_refl _) (fun _=>⟨rfl,rfl,rfl,hes⟩) ?_⟩
 exact aX4 hMl hes hc fun k a hk=>let ⟨u,h1,h2⟩:=hv k a hk;⟨u,h1,h2.mono hle⟩
theorem aJd (h:MS P O K M J L S env w){i:Nat}{loc:Loc}(hl:J.at i loc){n:Nat}(hs:S[i]? = some (.tok n loc.es loc.ty)){l l2:List (List IV)}(hln:l.length=n)(hl2:0<l2.length)(hes:∀c∈l++l2,c.length=loc.es)
  (hr:IR M (.sl .no l) (.slice (some ⟨loc.cb,loc.d,none⟩) l.length loc.cap)) (hcap:n+l2.length<=loc.cap) {ns:List TV} {vs:List Value} (hn:VRs M J [] ns vs) (hti:toIVs ns=some (cA l2)) (h1:ns.any cB=false):
  ∃w' M' J',(storeCells ⟨loc.cb,loc.d+l.length*loc.es,none⟩ vs).run P w=.ok () w'∧MS P O K M' J' L (S.set i (.tok (l++l2).length loc.es loc.ty)) env w'∧Tr (dC L) M J S w M' J' (S.set i (.tok (l++l2).length loc.es loc.ty)) w' ∧
   VR M' J' L (.tsl i (l++l2)) (.slice (some ⟨loc.cb,loc.d,none⟩) (l++l2).length loc.cap):=by
 let l':Loc:={loc with ver:=(l++l2).length}
 have hi:i<J.length:=(List.getElem?_eq_some_iff.1 hl).1
 have hbr:=h.wr.blk i loc _ hl hs
 have hes1:∀c∈l,c.length=loc.es:=fun c hc=>hes c (by simp[hc])
 have hes2:∀c∈l2,c.length=loc.es:=fun c hc=>hes c (by simp[hc])
 generalize hs0:aP.tok n loc.es loc.ty=s0 at hbr
 cases hbr with
 | tok n' cs' e fz hlo hnv hb hsz hc hes0 hfit hsp hfz htt =>
  obtain rfl:n=n':=by simpa using hs0
  have hvl:vs.length=l2.length*loc.es:=by rw[hn.1,<-(gZ hti).1,dX hes2]
  have hnes:n*loc.es+l2.length*loc.es<=loc.cap*loc.es:=by rw[<-Nat.add_mul];exact Nat.mul_le_mul_right _ hcap
  have ho:loc.d+l.length*loc.es=loc.d+n*loc.es:=by rw[hln]
  have hrun:=nD (P:=P) (o:=loc.d+l.length*loc.es) (vs:=vs) hb (by omega) (fun k hk hk'=>hfz k (by omega) (by omega)) (hn.oneCell h1)
  have hoth:∀b,b≠loc.cb->(w.setCells loc.cb (loc.d+l.length*loc.es) vs).heap[b]? = w.heap[b]? := fun b hb'=>iM loc.cb vs _ w b hb'
  have hsize:=gX loc.cb vs (loc.d+l.length*loc.es) w
  have hlt:=fV hb
  have hnew:=jI loc.cb vs (loc.d+l.length*loc.es) w cs' e fz hb
  have hcells:∀o,(w.setCells loc.cb (loc.d+l.length*loc.es) vs).cell? ⟨loc.cb,o,none⟩=if loc.d+l.length*loc.es<=o∧o<loc.d+l.length*loc.es+vs.length then vs[o-(loc.d+l.length*loc.es)]? else cs'[o]? := by
   intro o
   rw[fF hnew,sA _ _ _ _ (by omega)]
  have hle:MLe M (M.put loc.cb (loc.d+l.length*loc.es) vs):=Mem.put_le fun o' h2 h3=>hsp o' (by omega) (by omega)
  have hlen:(l++l2).length=n+l2.length:=by simp[hln]
  obtain⟨a,b⟩:=h.wr.turn hl hlo (l':=l') hlo (by show loc.ver<(l++l2).length;omega) (M':=M.put loc.cb (loc.d+l.length*loc.es) vs) (w':=w.setCells loc.cb (loc.d+l.length*loc.es) vs) (s':=.tok (l++l2).length loc.es loc.ty) hle
   (fun b o hb=>by unfold Mem.put;rw[if_neg (by intro q;exact hb q.1)]) (fun b hb _=>hoth b hb) (by omega) (by rw[hsize];exact hlt) (.inl rfl) (fun o v hm=>by
    show(w.setCells loc.cb (loc.d+l.length*loc.es) vs).cell? ⟨loc.cb,o,none⟩=some v
    rw[hcells]
    have hm:(M.put loc.cb (loc.d+l.length*loc.es) vs) loc.cb o=some v:=hm
    unfold Mem.put at hm
    split at hm
    ·rename_i q;rw[if_pos q.2];exact hm
    ·rename_i q
     rw[if_neg (by intro q';exact q ⟨rfl,q'⟩),<-fF hb]
     exact h.wr.imm _ _ _ hm) (mB _ _ _ _)
   (.tok _ (rD cs' (loc.d+l.length*loc.es) vs) e fz hlo rfl hnew (by rw[eT];exact hsz) (by rw[hlen];exact hcap) hes0 (by rw[eT];exact hfit) (fun o h2 h3=>by
    have h2:loc.d+(l++l2).length*loc.es<=o:=h2
    rw[hlen,Nat.add_mul]at h2
    rw[eT]at h3
    show(M.put loc.cb (loc.d+l.length*loc.es) vs) loc.cb o=none
    unfold Mem.put
    rw[if_neg (by omega)]
    exact hsp o (by omega) h3) (fun o h2 h3=>by
    have h2:loc.d+(l++l2).length*loc.es<=o:=h2
    rw[hlen,Nat.add_mul]at h2
    rw[eT]at h3
    rw[World.frozen?_setCells]
    exact hfz o (by omega) h3) ⟨htt.1,htt.2.1,Nat.le_trans htt.2.2 (Nat.mul_le_mul_right _ (by rw[hlen];omega))⟩)
  obtain⟨c,d⟩:=h.step' a b
  refine⟨_,_,_,hrun,c,d,.tsl _ _ _ l' _ _ _ (gM hi) hlo (Nat.le_refl _) (fun _=>⟨rfl,rfl,rfl,hes⟩) ?_⟩
  refine aJb (by simp) hes (by rw[hlen];exact hcap) (by simp) fun k x hk=>?_
  rw[oU,List.getElem?_append]at hk
  have hfl:=dX hes1
  split at hk
  ·rename_i hkl
   rcases hr.sl_any with⟨h0,_⟩|⟨b',o',c',es',vals,h0,_,hes',_,_,hm,hvv⟩|⟨a0,h0,h9,_⟩
   case inr.inr=>subst h9;simp[cA]at hk
   ·simp at h0
   ·simp at h0
    obtain⟨⟨rfl,rfl⟩,rfl⟩:=h0
    obtain⟨i',c',j',e1,e2,e3⟩:=wL hes' hk
    refine⟨vals i' j',hle _ _ _ ?_,(hvv _ _ _ _ e1 e2).mono hle⟩
    rw[e3,<-Nat.add_assoc]
    exact hm _ _ _ _ e1 e2
  ·rename_i hkl
   obtain⟨x',hx',hti'⟩:=(gZ hti).2 _ _ hk
   have hlt':k-(cA l).length<vs.length:=by rw[hn.1];exact(List.getElem?_eq_some_iff.1 hx').1
   refine⟨vs[k-(cA l).length],?_,(pT hti' (hn.2 _ _ _ hx' (List.getElem?_eq_getElem hlt'))).mono hle⟩
   unfold Mem.put
   rw[if_pos (by omega),show loc.d+k-(loc.d+l.length*loc.es)=k-(cA l).length by omega]
   exact List.getElem?_eq_getElem hlt'
 | _=>simp at hs0
theorem sE {es m:Nat}{ys:List IV}(h:ys.length=m*es):cA (eH es m ys)=ys∧(∀c∈eH es m ys,c.length=es)∧(eH es m ys).length=m :=
 ⟨oT es m ys h,qN es m ys (by omega),fX es m ys⟩
theorem zE {os:List IV}{ns:List TV}{ys:List IV}(hti:toIVs ns=some ys){cs:Array Value}(h:∀(k:Nat) (x:TV),(os.map .iv++ns)[k]? = some x->∃v,cs[k]? = some v∧VR M J [] x v):
  ∀(k:Nat) (a:IV),(os++ys)[k]? = some a->∃u,cs[k]? = some u∧IR M a u:=by
 intro k a hk
 obtain⟨x,hx,hax⟩:=(gZ (wO (aE5 os) hti)).2 k a hk
 obtain⟨v,h1,h2⟩:=h k x hx
 exact⟨v,h1,pT hax h2⟩
theorem aE6 (h:MS P O K M J L S env w){t u el ty:TypeId}{ts:Array TypeId}(h0:ts[0]? = some t)(h1:ts[1]? = some u)(ht:P.underlying t=some (.slice el))(hu:(∃e,P.underlying u=some (.slice e))∨P.underlying u=some .string)
  {z:List IV} (hz:hO P el=some z) (hz0:z.length≠0) {bytes:Nat} (hby:bytesOf? P el=some bytes) (hb0:bytes≠0) {mu:Bool} {s x r:TV} {sv xv:Value} (hs:VR M J L s sv) (hx:VR M J L x xv)
  (hr:bY mu z.length bytes el S s x=some (r,S')):
  ∃rv w' M' J',(Builtin.append_ ts ty #[sv,xv]).run P w=.ok rv w'∧VR M' J' L r rv∧MS P O K M' J' L S' env w'∧Tr (dC L) M J S w M' J' S' w':=by
 unfold bY at hr
 split at hr
 case h_2=>simp at hr
 rename_i xs m hxs hm
 split at hr
 ·simp at hr
 rename_i hlen
 rw[not_or]at hlen
 obtain⟨hlen,href⟩:=hlen
 have hlen:xs.length=m*z.length:=by omega
 have href:xs.any cB=false:=by simpa using href
 have hzs:=zD hz
 obtain⟨f1,vs,f2,f3⟩:=kJ h hx hxs hm hlen (Nat.le_refl m)
 rw[<-hlen,List.take_length]at f2
 obtain⟨hd,td0⟩:=h.drew
 have td:=td0.weaken (own':=dC L) (fun _ hf=>hf.elim)
 obtain⟨g1,vsd,g2,g3⟩:=kJ hd hx hxs hm hlen (Nat.le_refl m)
 rw[<-hlen,List.take_length]at g2
 -- the slice's own cells,kX a drawing
 have hold:∀ {os:List TV} {n:Nat} {base:Option Addr} {cap:Nat},sv=.slice base n cap->iR S s=some os->lenOf S s=some n->os.length=n*z.length->aQj P w.drew M J z.length n cap m base xv os xs:=by
  intro os n base cap hsv he hl hol
  obtain⟨_,ov,k2,k3⟩:=kJ hd hs he hl hol (Nat.le_refl n)
  rw[<-hol,List.take_length]at k2
  subst hsv
  exact⟨g1,⟨vsd,g2,g3⟩,⟨ov,k2,k3⟩,hol,hlen⟩
 split at hr
 · -- nothing is put
  rename_i hm0
  subst hm0
  split at hr
  ·rename_i hsl
   simp at hr
   obtain⟨rfl,rfl⟩:=hr
   have hvs:vs=[]:=by
    have:=f2.1
    rw[hlen]at this
    exact List.eq_nil_of_length_eq_zero (by simpa using this)
   subst hvs
   rcases bDu hsl hs with⟨p0,rfl⟩|⟨b,o,n,c,rfl,hc⟩
   ·exact⟨_,w,M,J,aX3 p0 h0 h1 ht hu hzs f1 f3,hs,h,.refl _ _ _ _ _⟩
   ·refine⟨_,w,M,J,wN (b:=b) (o:=o) h0 h1 ht hu hzs f1 f3 (by omega) (w':=w) ?_,hs,h,.refl _ _ _ _ _⟩
    simp[storeCells]
  ·simp at hr
 rename_i hm0
 -- a new row
 have hgrow:∀ {os:List TV} {n:Nat} {base:Option Addr} {cap:Nat},aQj P w.drew M J z.length n cap m base xv os xs->sv=.slice base n cap->cap<n+m->fZ (n+m) bytes=true ->
   ∃cs c,(Builtin.append_ ts ty #[sv,xv]).run P w=.ok (.slice (some ⟨w.drew.heap.size,0,none⟩) (n+m) c) (w.drew.alloc (.cells cs el))∧n+m<=c∧cs.size=c*z.length ∧
    ∀(k:Nat) (x:TV),(os++xs)[k]? = some x->∃v,cs[k]? = some v∧VR M J [] x v:=by
  intro os n base cap hin hsv hc hro
  subst hsv
  exact aX2 h0 h1 ht hu hz hby hb0 hin f1 hc hro
 -- a new row of cells
 have hcells:∀ {os:List TV} {n:Nat} {base:Option Addr} {cap:Nat},aQj P w.drew M J z.length n cap m base xv os xs->sv=.slice base n cap->cap<n+m->fZ (n+m) bytes=true ->
   ∃rv w' M' J',(Builtin.append_ ts ty #[sv,xv]).run P w=.ok rv w'∧VR M' J' L (.msl S.length 0 0 (n+m) (n+m) z.length) rv∧MS P O K M' J' L (S++[.cells 0 true (os++xs)]) env w' ∧
    Tr (dC L) M J S w M' J' (S++[.cells 0 true (os++xs)]) w':=by
  intro os n base cap hin hsv hc hro
  obtain⟨cs,c,hrun,hle,hsz,hv⟩:=hgrow hin hsv hc hro
  have hfit:(os++xs).length<=cs.size:=by
   rw[List.length_append,hin.olen,hlen,<-Nat.add_mul,hsz];exact Nat.mul_le_mul_right _ hle
  obtain⟨p1,p2,p3⟩:=aMu hd el hfit hv true 0 0
  refine⟨_,_,M,_,hrun,.msl _ _ _ _ _ _ _ _ _ _ c p3 (Nat.le_refl _) (fun _=>⟨rfl,fun _=>rfl,hle,fun q=>by simp at q,?_⟩) (Nat.le_refl _) hle,p1,td.trans p2 (fun b hb=>.inl hb)⟩
  show 0+c*z.length<=cs.size
  omega
 split at hr
 · -- an immutable slice
  rename_i tg l
  split at hr
  ·simp at hr
  rename_i hnf
  simp at hnf
  obtain⟨hnno,hfits⟩:=hnf
  split at hr
  ·simp at hr
  rename_i hroom
  have hroom:fZ (l.length+m) bytes=true:=by simpa using hroom
  have hsv:∃base cap,sv=.slice base l.length cap∧cap=l.length:=by
   rcases hs.iv_inv.sl_any with⟨rfl,rfl,rfl⟩|⟨b,off,cap,es,vals,rfl,htn,hes,hcap,hfull,_⟩|⟨a0,rfl,rfl,htn⟩
   case inr.inr=>exact⟨some a0,0,rfl,rfl⟩
   ·exact⟨none,0,rfl,rfl⟩
   ·exact⟨_,cap,rfl,hfull (by cases tg<;>simp_all)⟩
  obtain⟨base,cap,hsv,hcl⟩:=hsv
  subst hcl
  have hes:∀c∈l,c.length=z.length:=by
   rcases hs.iv_inv.sl_any with⟨rfl,rfl,rfl⟩|⟨b,off,cap,es,vals,_,htn,hes,hcap,hfull,_⟩|⟨a0,_,rfl,htn⟩
   case inr.inr=>intro c hc;simp at hc
   ·intro c hc;simp at hc
   ·exact aGt hfits hes
  have hin:=hold (os:=(cA l).map .iv) hsv rfl rfl (by rw[List.length_map,dX hes])
  split at hr
  · -- to be written
   simp at hr
   obtain⟨rfl,rfl⟩:=hr
   exact hcells hin hsv (by omega) hroom
  ·split at hr
   ·rename_i ys hys
    simp at hr
    obtain⟨rfl,rfl⟩:=hr
    obtain⟨cs,c,hrun,hle,hsz,hv⟩:=hgrow hin hsv (by omega) hroom
    have hyl:ys.length=m*z.length:=by rw[(gZ hys).1,hlen]
    obtain⟨q1,q2,q3⟩:=sE hyl
    have hes':∀c∈l++eH z.length m ys,c.length=z.length:=by
     intro c hc
     rcases List.mem_append.1 hc with hc|hc
     ·exact hes c hc
     ·exact q2 c hc
    have hll:(l++eH z.length m ys).length=l.length+m:=by rw[List.length_append,q3]
    obtain⟨M',J',p1,p2,p3⟩:=aJc hd (l:=l++eH z.length m ys) (es:=z.length) (cap:=c) (cs:=cs) el (by omega) hes' (by rw[hll];exact hle) hsz (by
     rw[oU,q1]
     exact zE hys hv)
    rw[hll]at p1 p2 p3
    exact⟨_,_,M',J',hrun,p3,p1,td.trans p2 (fun b hb=>.inl hb)⟩
   ·split at hr
    ·rename_i hl0
     subst hl0
     simp at hr
     obtain⟨rfl,rfl⟩:=hr
     have:=hcells hin hsv (by omega) hroom
     simpa[cA] using this
    ·simp at hr
 · -- a slice that was built here
  rename_i i l
  split at hr
  ·rename_i n e te ys hSi hys
   split at hr
   ·rename_i hc
    simp at hc
    obtain⟨⟨⟨⟨rfl,rfl⟩,rfl⟩,hfits⟩,hroom⟩:=hc
    simp at hr
    obtain⟨rfl,rfl⟩:=hr
    have hs0:=hs
    cases hs with
    | tsl L i es loc b o c hJ hlo hv ha hrr =>
     have hbr:=h.wr.blk i loc _ hJ hSi
     generalize hsi0:aP.tok l.length z.length te=s0 at hbr
     cases hbr with
     | tok n' cs' e' fz hlo' hnv hb hsz hc hes0 hfit hsp hfz htt =>
      simp at hsi0
      obtain⟨hn1,hze,hty⟩:=hsi0
      obtain⟨rfl,rfl,rfl,hes⟩:=ha (by omega)
      have hyl:ys.length=m*z.length:=by rw[(gZ hys).1,hlen]
      obtain⟨q1,q2,q3⟩:=sE hyl
      have hes':∀c∈l++eH z.length m ys,c.length=z.length:=by
       intro c hc
       rcases List.mem_append.1 hc with hc|hc
       ·rw[hze];exact hes c hc
       ·exact q2 c hc
      have hll:(l++eH z.length m ys).length=l.length+m:=by rw[List.length_append,q3]
      by_cases hroomy:l.length+m<=loc.cap
      ·obtain⟨w',M',J',k1,k2,k3,k4⟩:=aJd h hJ (n:=l.length) (by rw[hSi,hze,hty]) (l:=l) (l2:=eH z.length m ys) rfl (by rw[q3];omega) (by rw[<-hze];exact hes') hrr (by rw[q3];exact hroomy) f2 (by rw[q1];exact hys) href
       rw[hll,<-hze,<-hty]at k2 k3
       rw[hll]at k4
       rw[<-hze]at k1
       exact⟨_,w',M',J',wN h0 h1 ht hu hzs f1 f3 hroomy k1,k4,k2,k3⟩
      ·have hin:=hold (os:=(cA l).map .iv) (base:=some ⟨loc.cb,loc.d,none⟩) (cap:=loc.cap) rfl rfl rfl (by rw[List.length_map,dX hes,hze])
       obtain⟨cs,c,hrun,hle,hsz',hv'⟩:=hgrow hin rfl (by omega) hroom
       obtain⟨M',J',p1,p2,p3⟩:=aGy hd hJ hlo (l:=l++eH z.length m ys) (by rw[hll];omega) (es:=z.length) (cap:=c) (cs:=cs) te (by omega) hes' (by rw[hll];exact hle) hsz' (by
        rw[oU,q1]
        exact zE hys hv')
       rw[hll]at p1 p2 p3
       exact⟨_,_,M',J',hrun,p3,p1,td.trans p2 (fun b hb=>.inl hb)⟩
     | _=>simp at hsi0
   ·simp at hr
  ·simp at hr
 · -- a slice of the store's
  rename_i b0 v off len cap e
  split at hr
  case h_2=>simp at hr
  rename_i v' loose cs hSi
  split at hr
  ·simp at hr
  rename_i hev
  rw[not_or]at hev
  obtain⟨he,hv⟩:=hev
  have he:e=z.length:=by omega
  have hv:v'=v:=by omega
  subst he
  subst hv
  have hs0:=hs
  cases hs with
  | msl L i ver off len cap es loc b o c hJ hvv ha hl hlc =>
   have hbr:=h.wr.blk b0 loc _ hJ hSi
   generalize hsi0:aP.cells v' loose cs=s0 at hbr
   cases hbr with
   | cells loose' cs2 cs' ee fz hlo hb hsz hfit hvals hfz hmm =>
    simp at hsi0
    obtain⟨hver,rfl,rfl⟩:=hsi0
    obtain⟨rfl,ho,hcc,hcl,hoc⟩:=ha hver
    split at hr
    ·rename_i hroomy
     split at hr
     ·rename_i hfits
      simp at hr
      obtain⟨rfl,rfl⟩:=hr
      have ho:=ho (by omega)
      have hset:setCells env S (.ptr b0 v' (off+len*z.length)) xs=some (env,S.set b0 (.cells v' loose (put cs (off+len*z.length) xs))):=by
       rw[Nat.add_mul]at hfits
       have:off+len*z.length+xs.length<=cs.length:=by omega
       simp only[setCells,href,hSi,this]
       simp
      obtain⟨b',o',w',e1,e2,e3,e4,_⟩:=wI h hset (va:=.pointer (some ⟨loc.cb,o+len*z.length,none⟩)) (.ptr _ _ _ _ loc _ _ hJ hvv (fun _=>⟨rfl,by omega⟩)) f2
      simp at e1
      obtain⟨rfl,rfl⟩:=e1
      exact⟨_,w',M,J,wN h0 h1 ht hu hzs f1 f3 (by omega) e2,.msl _ _ _ _ _ _ _ loc _ _ _ hJ hvv (fun _=>⟨rfl,fun _=>ho,hcc,hcl,hoc⟩) hroomy (by omega),e3,e4⟩
     ·simp at hr
    ·rename_i hroomy
     split at hr
     ·simp at hr
     rename_i hroom
     have hroom:fZ (len+m) bytes=true:=by simpa using hroom
     split at hr
     case h_2=>simp at hr
     rename_i old hsub
     have hol:=(gV hsub).2.2
     have hat:At w M J loc.cb o old:=by
      obtain⟨b',o',c',k1,_,k2,_⟩:=aMt (n:=len) h hs0 hl
      simp at k1
      obtain⟨⟨rfl,rfl⟩,rfl⟩:=k1
      exact(k2 loose cs old hSi hsub).2
     have hin:=hold (os:=old) (base:=some ⟨loc.cb,o,none⟩) (cap:=c) rfl (by simp[iR,hSi,hsub]) rfl hol
     split at hr
     ·rename_i hlt
      simp at hr
      obtain⟨rfl,rfl⟩:=hr
      by_cases hroom2:len+m<=c
      ·have hmul:(len+m)*z.length<=c*z.length:=Nat.mul_le_mul_right _ hroom2
       rw[Nat.add_mul]at hmul
       obtain⟨w',k1,k2,k3,k4⟩:=aDx h hJ (by rw[hlo,hlt]) (by rw[hSi,hver,hlt]) hat f2 (by omega) href
       rw[hol]at k1
       rw[<-hver]at k2 k3 k4
       exact⟨_,w',M,_,wN h0 h1 ht hu hzs f1 f3 hroom2 k1,.msl _ _ _ _ _ _ _ _ _ _ c k4 (Nat.le_refl _) (fun _=>⟨rfl,fun _=>rfl,hroom2,fun q=>by simp[hlo,hlt]at q,hoc⟩) (Nat.le_refl _) hroom2,k2,k3⟩
      ·obtain⟨cs3,c3,hrun,hle,hsz',hv'⟩:=hgrow hin rfl (by omega) hroom
       have hfit3:(old++xs).length<=cs3.size:=by
        rw[List.length_append,hol,hlen,<-Nat.add_mul,hsz'];exact Nat.mul_le_mul_right _ hle
       obtain⟨k2,k3,k4⟩:=aCb hd hJ (by rw[hlo,hlt]) el hfit3 hv'
       rw[<-hver]at k2 k3 k4
       exact⟨_,_,M,_,hrun,.msl _ _ _ _ _ _ _ _ _ _ c3 k4 (Nat.le_refl _) (fun _=>⟨rfl,fun _=>rfl,hle,fun q=>by simp at q,by show 0+c3*z.length<=cs3.size;omega⟩) (Nat.le_refl _) hle,k2,td.trans k3 (fun b hb=>.inl hb)⟩
     ·rename_i hlt
      simp at hr
      obtain⟨rfl,rfl⟩:=hr
      have hcc2:=hcl (by rw[hlo];simpa using hlt)
      exact hcells hin rfl (by omega) hroom
   | _=>simp at hsi0
 ·simp at hr
theorem aMv {n:Int}(h0:0<=n)(h1:n<=35184372088832):IntKind.i64.wrap n=n:=by
 unfold IntKind.wrap
 simp[IntKind.bits,IntKind.signed]
 omega
theorem bDv (h:MS P O K M J L S env w){t u el ty:TypeId}{ts:Array TypeId}(h0:ts[0]? = some t)(h1:ts[1]? = some u)(ht:P.underlying t=some (.slice el)){k:IntKind}(hu:P.underlying u=some (.int k))
  {z:List IV} (hz:hO P el=some z) (hz0:z.length≠0) {bytes:Nat} (hby:bytesOf? P el=some bytes) (hb0:bytes≠0) {s r:TV} {n:Int} {k':IntKind} {sv:Value} (hs:VR M J L s sv)
  (hr:vA z.length bytes el S s n=some (r,S')):
  ∃rv w' M' J',(Builtin.append_ ts ty #[sv,.int k' n]).run P w=.ok rv w'∧VR M' J' L r rv∧MS P O K M' J' L S' env w'∧Tr (dC L) M J S w M' J' S' w':=by
 unfold vA at hr
 split at hr
 case h_2=>simp at hr
 rename_i tg l
 split at hr
 ·simp at hr
 rename_i hnf
 simp at hnf
 obtain⟨⟨hnno,hfits⟩,hn0⟩:=hnf
 split at hr
 case isFalse=>simp at hr
 rename_i hroom
 simp at hr
 obtain⟨rfl,rfl⟩:=hr
 obtain⟨i,zv,hi,hiz,his,hzs,hzr,hzi⟩:=jO hz
 obtain⟨r1,r2,r3⟩:=aJa hroom
 have hb:i.bytes=bytes:=by
  unfold bytesOf? at hby
  rw[hi]at hby
  simpa using hby
 have hsv:∃base cap,sv=.slice base l.length cap∧cap=l.length:=by
  rcases hs.iv_inv.sl_any with⟨rfl,rfl,rfl⟩|⟨b,off,cap,es,vals,rfl,htn,hes,hcap,hfull,_⟩|⟨a0,rfl,rfl,htn⟩
  case inr.inr=>exact⟨some a0,0,rfl,rfl⟩
  ·exact⟨none,0,rfl,rfl⟩
  ·exact⟨_,cap,rfl,hfull (by cases tg<;>simp_all)⟩
 obtain⟨base,cap,hsv,hcl⟩:=hsv
 subst hcl
 have hes:∀c∈l,c.length=z.length:=by
  rcases hs.iv_inv.sl_any with⟨rfl,rfl,rfl⟩|⟨b,off,cap,es,vals,_,htn,hes,hcap,hfull,_⟩|⟨a0,_,rfl,htn⟩
  case inr.inr=>intro c hc;simp at hc
  ·intro c hc;simp at hc
  ·exact aGt hfits hes
 obtain⟨hd,td0⟩:=h.drew
 have td:=td0.weaken (own':=dC L) (fun _ hf=>hf.elim)
 have hol:((cA l).map TV.iv).length=l.length*z.length:=by rw[List.length_map,dX hes]
 obtain⟨_,ov,k2,k3⟩:=kJ hd hs (xs:=(cA l).map .iv) rfl rfl hol (Nat.le_refl l.length)
 rw[<-hol,List.take_length]at k2
 subst hsv
 have hwrap:IntKind.i64.wrap n=n:=aMv (by omega) (by omega)
 have hg:l.length<l.length+n.toNat:=by omega
 have hfit:=growslice_fits (bytes:=bytes) hg (by omega)
 have hn:¬(l.length+n.toNat<=l.length):=by omega
 have h48':¬(281474976710656<Builtin.nextslicecap (l.length+n.toNat) l.length*i.bytes):=by rw[hb];omega
 have hbz:¬(i.bytes=0):=by omega
 have hge:=grownCap_ge w (l.length+n.toNat) l.length el
 have hnb:¬(281474976710656<n*(i.bytes:Int)):=by
  have e1:(n.toNat:Int)=n:=by omega
  have:n.toNat*bytes<=35184372088832:=Nat.le_trans (Nat.mul_le_mul_right _ (by omega)) r1
  have h9:((n.toNat*bytes:Nat):Int)<=((35184372088832:Nat):Int):=Int.ofNat_le.2 this
  rw[Int.natCast_mul,e1]at h9
  rw[hb];omega
 have hns:¬(n.toNat*i.size=0):=by
  rw[his]
  intro q
  rcases Nat.mul_eq_zero.1 q with q|q<;>omega
 have hlt0:¬(n<0):=by omega
 rw[<-his]at k3
 have hrun:(Builtin.append_ ts ty #[.slice base l.length l.length,.int k' n]).run P w=.ok (.slice (some ⟨w.heap.size,0,none⟩) (l.length+n.toNat) (grownCap w (l.length+n.toNat) l.length el))
   (w.drew.alloc (.cells (ov.toArray++Builtin.zeroCells zv.cells n.toNat++Builtin.zeroCells zv.cells (grownCap w (l.length+n.toNat) l.length el-(l.length+n.toNat))) el)):=by
  simp[Builtin.append_,h0,h1,und ht,und hu,sizeOf,typeInfo,zeroValue,hi,hiz,asInt,asIntOf,hwrap,hlt0,hnb,hn,hbz,h48',hns,Question.forced,k3,newRow,grownCap]
  intro q
  have hm:max n 0=n:=by omega
  exact absurd q (by omega)
 have hcl:l.length<=grownCap w (l.length+n.toNat) l.length el:=by omega
 have hovl:ov.length=l.length*z.length:=by rw[k2.1,hol]
 obtain⟨M',J',p1,p2,p3⟩:=aJc hd (l:=l) (es:=z.length) (cap:=grownCap w (l.length+n.toNat) l.length el)
  (cs:=ov.toArray++Builtin.zeroCells zv.cells n.toNat++Builtin.zeroCells zv.cells (grownCap w (l.length+n.toNat) l.length el-(l.length+n.toNat))) el (by omega) hes hcl (by
   simp only[Array.size_append,List.size_toArray,size_zeroCells,hzs,hovl,<-Nat.add_mul]
   congr 1
   omega) (fun k a hk=>by
   have hlt:k<ov.length:=by rw[hovl,<-dX hes];exact(List.getElem?_eq_some_iff.1 hk).1
   refine⟨ov[k],?_,?_⟩
   ·rw[Array.append_assoc,Array.getElem?_append_left (by simpa using hlt)]
    simp[hlt]
   ·exact(k2.2 k (.iv a) _ (by simp[hk]) (List.getElem?_eq_getElem hlt)).iv_inv)
 refine⟨_,_,M',J',hrun,?_,p1,td.trans p2 (fun b hb=>.inl hb)⟩
 cases p3 with
 | tsl L i es loc b o c hJ hlo hv ha hrr=>exact .rsv _ _ _ _ loc _ _ _ hJ hlo hv ha hge hrr
theorem wP:∀(s:List UInt8),cA (bF s)=s.map fun b=>IV.int .u8 b.toNat
 | []=>rfl
 | b::r=>by
  have:=wP r
  simp only[bF,List.map_cons,cA]at this ⊢
  rw[this];rfl
theorem aGz {o:Oper}{s d e:TypeId}{x:Operand}(hop:o.op=.convert s d x)(hs:P.underlying s=some .string)(hd:P.underlying d=some (.slice e))(he:P.underlying e=some (.int .u8))(a:Act)(h:MS P O K M J L S env w)
  {ex:TV} (hx:VR M J L ex (a.eval x)) {r:IV} (hr:dB .strBytes ex=some r) {top:TOp} (htop:aS top=none):dF P O K top M J L S env w (execOp a.eval o) (.iv r) env S:=by
 unfold dB at hr
 split at hr
 case h_1=>simp_all
 case h_2=>simp_all
 case h_3=>simp_all
 case h_5=>simp at hr
 rename_i str _
 split at hr
 case isFalse=>simp at hr
 simp at hr;subst hr
 have hrun:=run_bytes_of_string (P:=P) w s d e ⟨str.toArray⟩ hs hd he
 generalize hcap:grownCap w (⟨str.toArray⟩:ByteArray).size 0 e=cap at hrun
 have hge:str.length<=cap:=by
  have:=grownCap_ge w (⟨str.toArray⟩:ByteArray).size 0 e
  rw[oR]at this hcap
  omega
 generalize hrow:bytesRow ⟨str.toArray⟩ cap=row at hrun
 have hget:∀(k:Nat) (b:UInt8),str[k]? = some b->row[k]? = some (.int .u8 b.toNat):=by
  intro k b hb
  have hlt:=(List.getElem?_eq_some_iff.1 hb).1
  rw[<-hrow]
  unfold bytesRow
  rw[Array.getElem?_append_left (by simpa using hlt)]
  simp[hb]
 obtain⟨hdr,td0⟩:=h.drew
 have td:=td0.weaken (own':=dC L) (fun _ hf=>hf.elim)
 have hN:∀o v,nV row str.length o=some v->(w.drew.alloc (.cells row e (row.size,row.size+1))).cell? ⟨w.drew.heap.size,o,none⟩=some v:=by
  intro o v hv
  unfold nV at hv
  split at hv
  ·rw[fF (dD w.drew _)];exact hv
  ·simp at hv
 obtain⟨p1,p2⟩:=hdr.wr.alloc (fun _=>False) (.cells row e (row.size,row.size+1)) (nV row str.length) hN
 obtain⟨q1,q2⟩:=hdr.step' p1 p2
 refine .mk0 htop (r:=.value (.slice (some ⟨w.heap.size,0,none⟩) (⟨str.toArray⟩:ByteArray).size cap)) ?_ (.inl ⟨_,rfl,.iv _ ?_⟩) q1 (td.trans q2 (fun b hb=>.inl hb)) (.refl _)
 ·simp only[execOp,hop,hx.str_inv,Sem.run_bind,hrun]
  rfl
 ·have hl:(bF str).length=str.length:=by simp[bF]
  rw[oR,<-hl]
  refine aJb (es:=1) (by simp) (fun c hc=>?_) (by omega) (by simp) fun k a hk=>?_
  ·simp only[bF,List.mem_map]at hc
   obtain⟨b,_,rfl⟩:=hc
   rfl
  ·rw[wP]at hk
   simp only[List.getElem?_map,Option.map_eq_some_iff]at hk
   obtain⟨b,hb,rfl⟩:=hk
   refine⟨_,?_,.int _ _⟩
   have hlt:=(List.getElem?_eq_some_iff.1 hb).1
   show(M.ext w.drew.heap.size (nV row (bF str).length)) w.heap.size (0+k)=_
   unfold Mem.ext nV
   rw[hl,if_pos (show w.heap.size=w.drew.heap.size from rfl),Nat.zero_add,if_pos hlt]
   exact hget k b hb
theorem aE7 {x:TV}{v:Value}(h:VR M J L x v):VR M J L (kF x) v:=by
 unfold kF
 split
 ·rename_i a ha
  exact .iv _ (aGu ha h)
 ·exact h
theorem aCc:∀(vs:List Value) (off j:Nat) (cs:Array Value),(vs.zipIdx j).foldl (fun cs (c,j)=>cs.setIfInBounds (off+j) c) cs=rD cs (off+j) vs
 | [],_,_,_=>rfl
 | v::r,off,j,cs=>by
  simp only[List.zipIdx_cons,List.foldl_cons,rD]
  rw[aCc r off (j+1)]
  rfl
theorem aE8 (place:Nat->Option (Nat×Nat)){i off n:Nat}{v:Value}{rest:List (Nat×Value)}{cells:Array Value}(hp:place i=some (off,n))(hn:v.cells.size=n)(hfit:off+n<=cells.size):
  Instr.fill place cells ((i,v)::rest)=Instr.fill place (rD cells off v.cells.toList) rest:=by
 rw[Instr.fill,hp]
 have h1:(v.cells.size≠n||off+v.cells.size>cells.size)=false:=by simp[hn];omega
 simp only[h1,Bool.false_eq_true,if_false]
 congr 1
 have:=aCc v.cells.toList off 0 cells
 simp only[Nat.add_zero]at this
 rw[<-this,<-Array.foldl_toList]
 simp
theorem aJe {ev:aE->TV}(place:Nat->Option (Nat×Nat)):∀ {ps:List (Nat×Nat×aE)} {us:List (Nat×Value)} {cs out:List TV} {cells:Array Value},us.length=ps.length ->
  (∀(k:Nat) (p:Nat×Nat×aE) (u:Nat×Value),ps[k]? = some p->us[k]? = some u->place u.1=some (p.1,p.2.1)∧VR M J L (ev p.2.2) u.2)->VRs M J [] cs cells.toList->fill cs ev ps=some out ->
  ∃cells',Instr.fill place cells us=some cells'∧VRs M J [] out cells'.toList
 | [],us,cs,out,cells,hl,hp,hc,hf=>by
  have:us=[]:=List.eq_nil_of_length_eq_zero (by simpa using hl)
  subst this
  simp[fill]at hf;subst hf
  exact⟨cells,rfl,hc⟩
 | (off,n,x)::ps,us,cs,out,cells,hl,hp,hc,hf=>by
  cases us with
  | nil=>simp at hl
  | cons u us =>
   simp only[fill]at hf
   split at hf
   case isFalse=>simp at hf
   rename_i hcond
   obtain⟨h1,h2,h3⟩:=hcond
   obtain⟨q1,q2⟩:=hp 0 _ _ rfl rfl
   have hv:=sB (aE7 q2) h3
   have hn:u.2.cells.size=n:=by rw[<-h1];simpa using hv.1
   have hsz:cells.size=cs.length:=by simpa using hc.1
   have hfitx:off+(cellsOf (kF (ev x))).length<=cs.length:=by omega
   have hput:=hc.put hv hfitx
   obtain⟨cells',r1,r2⟩:=aJe place (cells:=rD cells off u.2.cells.toList) (by simpa using hl) (fun k p u hp' hu'=>hp (k+1) p u (by simpa using hp') (by simpa using hu')) hput hf
   refine⟨cells',?_,r2⟩
   rw[<-r1]
   have hfity:off+n<=cells.size:=by omega
   exact aE8 place q1 hn hfity
theorem aJf {α:Type}{es:Nat}:∀ {l:List (List α)} {i:Nat} {c:List α},(∀c∈l,c.length=es)->c.length=es->i<l.length->cA (l.set i c)=put (cA l) (i*es) c
 | [],i,c,_,_,h=>by simp at h
 | a::r,i,c,hl,hc,h=>by
  have ha:=hl a (by simp)
  have hl':∀c∈r,c.length=es:=fun c hc=>hl c (by simp[hc])
  cases i with
  | zero =>
   simp only[List.set_cons_zero,cA,put,Nat.zero_mul,List.take_zero,List.nil_append,Nat.zero_add,hc]
   rw[List.drop_append_of_le_length (by omega),<-ha,List.drop_length,List.nil_append]
  | succ i =>
   simp only[List.set_cons_succ,cA]
   rw[aJf hl' hc (by simpa using h)]
   unfold put
   have e1:(i+1)*es=a.length+i*es:=by rw[ha,Nat.add_mul];omega
   have e2:(i+1)*es+c.length=a.length+(i*es+c.length):=by omega
   rw[e2,e1,List.take_length_add_append,List.drop_length_add_append]
   simp
theorem aCd {ev:aE->TV}{n:Nat}:∀ {ps:List (Nat×aE)} {us:List (Nat×Value)} {es out:List (List TV)} {cells:Array Value},us.length=ps.length ->
  (∀(k:Nat) (p:Nat×aE) (u:Nat×Value),ps[k]? = some p->us[k]? = some u->u.1=p.1∧VR M J L (ev p.2) u.2)->(∀c∈es,c.length=n)->VRs M J [] (cA es) cells.toList->dZ es n ev ps=some out ->
  ∃cells',Instr.fill (fun i=>some (i*n,n)) cells us=some cells'∧VRs M J [] (cA out) cells'.toList∧(∀c∈out,c.length=n)∧out.length=es.length
 | [],us,es,out,cells,hl,hp,hes,hc,hf=>by
  have:us=[]:=List.eq_nil_of_length_eq_zero (by simpa using hl)
  subst this
  simp[dZ]at hf;subst hf
  exact⟨cells,rfl,hc,hes,rfl⟩
 | (i,x)::ps,us,es,out,cells,hl,hp,hes,hc,hf=>by
  cases us with
  | nil=>simp at hl
  | cons u us =>
   simp only[dZ]at hf
   split at hf
   case isFalse=>simp at hf
   rename_i hcond
   obtain⟨h1,h2,h3⟩:=hcond
   obtain⟨q1,q2⟩:=hp 0 _ _ rfl rfl
   have hv:=sB (aE7 q2) h3
   have hn:u.2.cells.size=n:=by rw[<-h1];simpa using hv.1
   have hfl:=dX hes
   have hsz:cells.size=(cA es).length:=by simpa using hc.1
   have hle:(i+1)*n<=es.length*n:=Nat.mul_le_mul_right _ h2
   rw[Nat.add_mul]at hle
   have hfitx:i*n+(cellsOf (kF (ev x))).length<=(cA es).length:=by omega
   have hput:=hc.put hv hfitx
   have hes':∀c∈es.set i (cellsOf (kF (ev x))),c.length=n:=by
    intro c hc
    rcases List.mem_or_eq_of_mem_set hc with h|h
    ·exact hes c h
    ·rw[h,h1]
   rw[<-aJf hes h1 h2]at hput
   obtain⟨cells',r1,r2,r3,r4⟩:=aCd (cells:=rD cells (i*n) u.2.cells.toList) (by simpa using hl) (fun k p u hp' hu'=>hp (k+1) p u (by simpa using hp') (by simpa using hu')) hes' hput hf
   refine⟨cells',?_,r2,r3,by rw[r4];simp⟩
   rw[<-r1]
   have hq:(fun i=>some (i*n,n):Nat->Option (Nat×Nat)) u.1=some (i*n,n):=by
    show some (u.1*n,n)=_
    rw[q1]
   exact aE8 _ hq hn (by omega)
theorem zF:∀ {es:List (List TV)} {l:List (List IV)},jM es=some l->es=l.map (·.map .iv)
 | [],l,h=>by simp[jM]at h;subst h;rfl
 | c::r,l,h=>by
  simp only[jM]at h
  split at h
  ·rename_i a l' h1 h2
   simp at h;subst h
   rw[vE h1,zF h2];rfl
  ·simp at h
theorem zG:∀(l:List (List IV)),cA (l.map (·.map TV.iv))=(cA l).map .iv
 | []=>rfl
 | a::r=>by simp[cA,zG r]
theorem aX5 (h:MS P O K M J L S env w){n:Nat}{es:List (List TV)}{cells:Array Value}(el:TypeId)(hes:∀c∈es,c.length=n)(hc:VRs M J [] (cA es) cells.toList){l:List (List IV)}(hl:jM es=some l):
  ∃M',VR M' J L (.iv (.sl .full l)) (.slice (some ⟨w.heap.size,0,none⟩) es.length es.length)∧MS P O K M' J L S env (w.alloc (.cells cells el))∧Tr (dC L) M J S w M' J S (w.alloc (.cells cells el)):=by
 have hfl:=dX hes
 have hsz:cells.size=(cA es).length:=by simpa using hc.1
 have hle:=zF hl
 subst hle
 have hN:∀o v,nV cells cells.size o=some v->(w.alloc (.cells cells el)).cell? ⟨w.heap.size,o,none⟩=some v:=fun o v hv=>aGx cells _ el o v hv
 obtain⟨p1,p2⟩:=h.wr.alloc (fun _=>False) (.cells cells el) (nV cells cells.size) hN
 obtain⟨q1,q2⟩:=h.step' p1 p2
 have hmle:=h.wr.mle_ext (nV cells cells.size)
 refine⟨_,.iv _ ?_,q1,q2⟩
 rw[List.length_map]
 have hes':∀c∈l,c.length=n:=fun c hc=>by
  have:=hes (c.map .iv) (List.mem_map.2 ⟨c,hc,rfl⟩)
  simpa using this
 refine aJb (es:=n) (by simp) hes' (Nat.le_refl _) (fun _=>rfl) fun k a hk=>?_
 rw[zG]at hc hsz
 have hlt:k<cells.size:=by rw[hsz,List.length_map];exact(List.getElem?_eq_some_iff.1 hk).1
 refine⟨cells[k],?_,((hc.2 k (.iv a) _ (by simp[hk]) (by simp[hlt])).iv_inv).mono hmle⟩
 unfold Mem.ext nV
 rw[if_pos rfl,Nat.zero_add,if_pos hlt]
 exact Array.getElem?_eq_getElem hlt
theorem qZ:∀ {fs:List Field} {pl:List (Nat×Nat)},fs.mapM (fun f=>(P.info? f.type).map fun i=>(f.offset,i.size))=some pl->∀(i:Nat) (f:Field) (n:Nat),fs[i]? = some f->sizeOf? P f.type=some n->pl[i]? = some (f.offset,n)
 | [],pl,h,i,f,n,hf,hn=>by simp at hf
 | g::fs,pl,h,i,f,n,hf,hn=>by
  simp only[List.mapM_cons,Option.bind_eq_bind,Option.pure_def]at h
  cases hi:(P.info? g.type)with
  | none=>simp[hi]at h
  | some ti =>
   cases hr:fs.mapM (fun f=>(P.info? f.type).map fun i=>(f.offset,i.size))with
   | none=>simp[hi,hr]at h
   | some pl' =>
    simp[hi,hr]at h
    subst h
    cases i with
    | zero =>
     simp at hf;subst hf
     simp[sizeOf?,hi]at hn
     simp[hn]
    | succ i=>simpa using qZ hr i f n (by simpa using hf) hn
theorem aE9 {o:Oper}{t:TypeId}{ps:Array (Nat×Operand)}(hop:o.op=.build t ps){z:List IV}(hz:hO P t=some z){ev:aE->TV}{tps:List (Nat×Nat×aE)}(a:Act)(h:MS P O K M J L S env w)
  (hl:ps.size=tps.length) (hps:∀(k:Nat) (p:Nat×Nat×aE) (u:Nat×Operand),tps[k]? = some p->ps[k]? = some u->VR M J L (ev p.2.2) (a.eval u.2) ∧
   ((∃fs f,P.underlying t=some (.struct fs)∧(aBy P fs).isSome=true∧fs[u.1]? = some f∧p.1=f.offset∧sizeOf? P f.type=some p.2.1)∨∃n e,P.underlying t=some (.array n e)∧sizeOf? P e=some p.2.1∧p.1=u.1*p.2.1))
  (ht:(∃fs,P.underlying t=some (.struct fs)∧(aBy P fs).isSome=true)∨∃n e s,P.underlying t=some (.array n e)∧sizeOf? P e=some s) {cs:List TV} (hf:fill (z.map .iv) ev tps=some cs) {top:TOp} (htop:aS top=none):
  dF P O K top M J L S env w (execOp a.eval o) (qY cs) env S:=by
 obtain⟨i,zv,hi,hiz,his,hzs,hzr,hzi⟩:=jO hz
 have hzv:VRs M J [] (z.map .iv) zv.cells.toList:=aB8 hzs hzi
 have key:∀(place:Nat->Option (Nat×Nat)),(∀(k:Nat) (p:Nat×Nat×aE) (u:Nat×Operand),tps[k]? = some p->ps[k]? = some u->place u.1=some (p.1,p.2.1)) ->
   ∃cells',Instr.fill place zv.cells (ps.toList.map fun(i,x)=>(i,a.eval x))=some cells'∧VRs M J [] cs cells'.toList:=by
  intro place hpl
  refine aJe (L:=L) place (by simpa using hl) (fun k p u hp hu=>?_) hzv hf
  simp only[List.getElem?_map,Option.map_eq_some_iff]at hu
  obtain⟨u0,hu0,rfl⟩:=hu
  have hu0:ps[k]? = some u0:=by simpa using hu0
  exact⟨hpl k p u0 hp hu0,(hps k p u0 hp hu0).1⟩
 have fin:∀cells',P.built t (ps.map fun(i,x)=>(i,a.eval x)).toList=some cells'->VRs M J [] cs cells'.toList->dF P O K top M J L S env w (execOp a.eval o) (qY cs) env S:=by
  intro cells' h1 h2
  have hrun:=run_build (P:=P) w t (ps.map fun(i,x)=>(i,a.eval x)) cells' h1
  refine .pure htop h (v':=.agg cells') ?_ ?_
  ·simp only[execOp,hop,Sem.run_bind]
   rw[hrun];rfl
  ·have:=wG (L:=L) h2
   simpa using this
 rcases ht with⟨fs,hu,hpl⟩|⟨n,e,s,hu,hs⟩
 ·obtain⟨pl,hpl'⟩:=Option.isSome_iff_exists.1 hpl
  obtain⟨cells',h1,h2⟩:=key (pl.toArray[·]?) (fun k p u hp hu'=>by
   rcases(hps k p u hp hu').2 with⟨fs',f,q1,_,q2,q3,q4⟩|⟨n,e,q1,_⟩
   ·rw[hu]at q1
    simp at q1;subst q1
    have:=qZ hpl' u.1 f p.2.1 (by simpa using q2) q4
    simp[this,q3]
   ·rw[hu]at q1;simp at q1)
  refine fin cells' ?_ h2
  unfold Program.built
  rw[hi,hu]
  have hpl'':(fs.toList.mapM fun f=>(P.info? f.type).map fun i=>(f.offset,i.size))=some pl:=hpl'
  simp only[hiz,hpl'']
  simpa using h1
 ·obtain⟨cells',h1,h2⟩:=key (fun i=>some (i*s,s)) (fun k p u hp hu'=>by
   rcases(hps k p u hp hu').2 with⟨fs',f,q1,_⟩|⟨n,e',q1,q2,q3⟩
   ·rw[hu]at q1;simp at q1
   ·rw[hu]at q1
    simp at q1
    obtain⟨rfl,rfl⟩:=q1
    rw[hs]at q2
    simp at q2;subst q2
    simp[q3])
  obtain⟨_,ie,hie,hie2⟩:=cellsOf_size? hs
  refine fin cells' ?_ h2
  unfold Program.built
  rw[hi,hu]
  simp only[hiz,hie,hie2]
  simpa using h1
theorem aQk {o:Oper}{t el:TypeId}{len:Nat}{ps:Array (Nat×Operand)}(hop:o.op=.buildSlice t len ps)(ht:P.underlying t=some (.slice el)){z:List IV}(hz:hO P el=some z)(hz0:z.length≠0)(hbig:len*z.length<=16777216){ev:aE->TV}
  {tps:List (Nat×aE)} (a:Act) (hl:ps.size=tps.length)
  (hps:∀(k:Nat) (p:Nat×aE) (u:Nat×Operand),tps[k]? = some p->ps[k]? = some u->u.1=p.1∧VR M J L (ev p.2) (a.eval u.2)) {es:List (List TV)} (hf:dZ (List.replicate len (z.map .iv)) z.length ev tps=some es):
  ∃cells,(∀c∈es,c.length=z.length)∧VRs M J [] (cA es) cells.toList∧es.length=len∧(execOp a.eval o).run P w=.ok (.value (.slice (some ⟨w.heap.size,0,none⟩) es.length es.length)) (w.alloc (.cells cells el)):=by
 obtain⟨i,zv,hi,hiz,his,hzs,hzr,hzi⟩:=jO hz
 have hrep:∀c∈List.replicate len (z.map TV.iv),c.length=z.length:=fun c hc=>by rw[List.eq_of_mem_replicate hc];simp
 have hlen:(cA (List.replicate len (z.map TV.iv))).length=len*z.length:=by rw[dX hrep];simp
 let base:Array Value:=(Array.range (len*z.length)).map (fun k=>zv.cells[k % zv.cells.size]!)
 have hv2:VRs M J [] (cA (List.replicate len (z.map TV.iv))) base.toList:=by
  refine⟨by rw[hlen];simp[base],fun k x u hx hu=>?_⟩
  obtain⟨p1,y,p2,rfl⟩:=aCa hx
  have hu':u=zv.cells[k % zv.cells.size]! := by
   simp[base,p1]at hu
   exact hu.symm
  rw[hu']
  exact .iv _ (bDt hzs (hzi M) p2)
 obtain⟨cells',h1,h2,h3,h4⟩:=aCd (L:=L) (us:=ps.toList.map fun(i,x)=>(i,a.eval x)) (by simpa using hl) (fun k p u hp hu=>by
  simp only[List.getElem?_map,Option.map_eq_some_iff]at hu
  obtain⟨u0,hu0,rfl⟩:=hu
  exact hps k p u0 hp (by simpa using hu0)) hrep hv2 hf
 have hel:es.length=len:=by rw[h4];simp
 refine⟨cells',h3,h2,hel,?_⟩
 rw[hel]
 have hbig':¬(16777216<len*z.length):=by omega
 have hsz:=run_size? (zD hz) w
 have hfill:Instr.fill (fun i=>some (i*z.length,z.length)) ((Array.range (len*z.length)).map (fun k=>zv.cells[k % zv.cells.size]!)) (ps.map fun(i,x)=>(i,a.eval x)).toList=some cells':=by
  rw[<-h1];simp[base]
 by_cases hln:len*z.length=0
 ·have hl0:len=0:=by
   rcases Nat.mul_eq_zero.1 hln with q|q<;>omega
  subst hl0
  have hb0:base=#[]:=by simp[base]
  rw[hb0]at h1
  have h1':Instr.fill (fun i=>some (i*z.length,z.length)) #[] (ps.map fun(i,x)=>(i,a.eval x)).toList=some cells':=by rw[<-h1,Array.toList_map]
  simp only[execOp,hop,Instr.buildSlice,Sem.run_bind,und ht,hsz,newRow,Result.andThen_ok]
  simp only[Array.toList_map]at h1'
  have hr0:∀f:Nat->Value,Array.map f (Array.range 0)=#[]:=fun f=>by simp
  simp[hr0,h1']
 ·simp[execOp,hop,Instr.buildSlice,und ht,hsz,hbig',hln,hzr,newRow]at hfill ⊢
  simp[hfill]
theorem aX6 (a b:List UInt8):((⟨a.toArray⟩:ByteArray)==⟨b.toArray⟩)=(a==b):=by
 have h:((⟨a.toArray⟩:ByteArray)==⟨b.toArray⟩)=(a.toArray==b.toArray):=rfl
 rw[h]
 simp
theorem uL {a b:IV}(h:rU a b=true){u v:Value}(hu:IR M a u)(hv:IR M b v)(n:Nat):Instr.sameBits n u v=true:=by
 unfold rU at h
 split at h
 ·cases hu;cases hv
  cases n<;>simpa[Instr.sameBits] using h
 ·cases hu;cases hv
  cases n<;>simpa[Instr.sameBits] using h
 ·cases hu;cases hv
  cases n<;>(simp only[Instr.sameBits,aX6];exact h)
 ·simp at h
theorem sF:∀ {cs ds:List IV} {us vs:List Value},lC cs ds=true->us.length=cs.length->vs.length=ds.length->(∀(i:Nat) (x:IV) (u:Value),cs[i]? = some x->us[i]? = some u->IR M x u) ->
  (∀(i:Nat) (x:IV) (u:Value),ds[i]? = some x->vs[i]? = some u->IR M x u)->∀n,us.length=vs.length∧((us.zip vs).all fun(x,y)=>Instr.sameBits n x y)=true
 | [],ds,us,vs,h,h1,h2,hu,hv,n=>by
  cases ds with
  | nil =>
   have:us=[]:=List.eq_nil_of_length_eq_zero (by simpa using h1)
   have:vs=[]:=List.eq_nil_of_length_eq_zero (by simpa using h2)
   subst_vars
   simp
  | cons d ds=>simp[lC]at h
 | c::cs,ds,us,vs,h,h1,h2,hu,hv,n=>by
  cases ds with
  | nil=>simp[lC]at h
  | cons d ds =>
   cases us with
   | nil=>simp at h1
   | cons u us =>
    cases vs with
    | nil=>simp at h2
    | cons v vs =>
     simp only[lC,Bool.and_eq_true]at h
     obtain⟨q1,q2⟩:=sF h.2 (by simpa using h1) (by simpa using h2) (fun i x u hx hu'=>hu (i+1) x u (by simpa using hx) (by simpa using hu')) (fun i x u hx hu'=>hv (i+1) x u (by simpa using hx) (by simpa using hu')) n
     refine⟨by simp[q1],?_⟩
     simp only[List.zip_cons_cons,List.all_cons,Bool.and_eq_true]
     exact⟨uL h.1 (hu 0 c u rfl rfl) (hv 0 d v rfl rfl) n,q2⟩
theorem aG0 {a b:IV}(h:nA a b=true){u v:Value}(hu:IR M a u)(hv:IR M b v):(Instr.keyThatStays u v).run P w=.ok v w:=by
 have hs:Instr.sameBits 10000 u v=true:=by
  unfold nA at h
  split at h
  ·obtain⟨us,rfl,h1,h2⟩:=hu.agg_inv
   obtain⟨vs,rfl,h3,h4⟩:=hv.agg_inv
   obtain⟨q1,q2⟩:=sF (M:=M) h (us:=us.toList) (vs:=vs.toList) (by simpa using h1) (by simpa using h3) (fun i x u hx hu=>h2 i x u hx (by simpa using hu)) (fun i x u hx hu=>h4 i x u hx (by simpa using hu)) 9999
   show Instr.sameBits (9999+1) (.agg us) (.agg vs)=true
   simp only[Instr.sameBits,Bool.and_eq_true]
   exact⟨by simpa using q1,q2⟩
  ·exact uL h hu hv 10000
 simp[Instr.keyThatStays,hs]
def RF (M:Mem)(J:aD):Option (Nat×TV)->Option (Nat×Value)->Prop
 | none,none=>True
 | some (n,x),some (m,v)=>n=m∧VR M J [] x v
 | _,_=>False
def ER (M:Mem)(J:aD)(es:List (Nat×IV×TV))(l:List MapEntry):Prop :=
 l.length=es.length∧∀(k:Nat) (x:Nat×IV×TV) (y:MapEntry),es[k]? = some x->l[k]? = some y->y.born=x.1∧IR M x.2.1 y.key∧VR M J [] x.2.2 y.val
theorem ER.cons_inv {e:Nat×IV×TV}{es:List (Nat×IV×TV)}{l:List MapEntry}(h:ER M J (e::es) l):∃y l',l=y::l'∧y.born=e.1∧IR M e.2.1 y.key∧VR M J [] e.2.2 y.val∧ER M J es l':=by
 cases l with
 | nil=>simp[ER]at h
 | cons y l' =>
  obtain⟨h1,h2,h3⟩:=h.2 0 e y rfl rfl
  exact⟨y,l',rfl,h1,h2,h3,by simpa using h.1,fun k x z hx hz=>h.2 (k+1) x z (by simpa using hx) (by simpa using hz)⟩
def aCe:LK->TypeDesc->Prop
 | .bool,d=>d=.bool
 | .int,d=>∃k,d=.int k
 | .str,d=>d=.string
theorem wQ {lk:LK}{d:TypeDesc}(hd:aCe lk d){a b:IV}{r:Bool}(h:mL lk a b=some r){u v:Value}(hu:IR M a u)(hv:IR M b v):Instr.sameNow d u v=some r:=by
 unfold mL at h
 split at h
 ·cases hu;cases hv
  simp[aCe]at hd;subst hd
  simpa[Instr.sameNow] using h
 ·cases hu;cases hv
  obtain⟨k,rfl⟩:=hd
  split at h
  ·rename_i hk;subst hk
   simpa[Instr.sameNow] using h
  ·simp at h
 ·cases hu;cases hv
  simp[aCe]at hd;subst hd
  simp only[Instr.sameNow,aX6];exact h
 ·simp at h
theorem wR {lk:LK}{d:TypeDesc}(hd:aCe lk d){k:IV}{kv:Value}(hk:IR M k kv):∀ {es:List (Nat×IV×TV)} {l:List MapEntry} {i:Nat} {r:Option (Nat×TV)},ER M J es l->findKey (.leaf lk) k es i=some r ->
  ∃r',Instr.findNow d kv l i=some r'∧RF M J r r'
 | [],l,i,r,he,h=>by
  have:l=[]:=List.eq_nil_of_length_eq_zero (by simpa using he.1)
  subst this
  simp[findKey]at h;subst h
  exact⟨none,rfl,trivial⟩
 | e::es,l,i,r,he,h=>by
  obtain⟨y,l',rfl,_,h2,h3,h4⟩:=he.cons_inv
  simp only[findKey]at h
  split at h
  ·rename_i hq
   simp at h;subst h
   exact⟨some (i,y.val),by simp[Instr.findNow,wQ hd (show mL lk k e.2.1=some true from hq) hk h2],rfl,h3⟩
  ·rename_i hq
   obtain⟨r',q1,q2⟩:=wR hd hk h4 h
   exact⟨r',by simp[Instr.findNow,wQ hd (show mL lk k e.2.1=some false from hq) hk h2,q1],q2⟩
  ·simp at h
theorem sG {t:TypeId}{offs:List (Nat×LK)}(ht:mA P t=some offs){k:IV}{kv:Value}(hk:IR M k kv):∀ {es:List (Nat×IV×TV)} {l:List MapEntry} {i:Nat} {r:Option (Nat×TV)},ER M J es l->findKey (.agg offs) k es i=some r ->
  ∃r',(Instr.findAsking t kv l i).run P w=.ok r' w∧RF M J r r'
 | [],l,i,r,he,h=>by
  have:l=[]:=List.eq_nil_of_length_eq_zero (by simpa using he.1)
  subst this
  simp[findKey]at h;subst h
  exact⟨none,by simp[Instr.findAsking],trivial⟩
 | e::es,l,i,r,he,h=>by
  obtain⟨y,l',rfl,_,h2,h3,h4⟩:=he.cons_inv
  have key:∀ {b:Bool},aBu (.agg offs) k e.2.1=some b->(Go.Op.equal t kv y.key).run P w=.ok b w:=by
   intro b hb
   simp only[aBu]at hb
   split at hb
   ·rename_i x z hz
    obtain⟨us,rfl,p1,p2⟩:=hk.agg_inv
    rw[hz]at h2
    obtain⟨vs,hvs,p3,p4⟩:=h2.agg_inv
    rw[hvs]
    exact sD ht p1 p2 p3 p4 hb
   ·simp at hb
  simp only[findKey]at h
  split at h
  ·rename_i hq
   simp at h;subst h
   exact⟨some (i,y.val),by simp[Instr.findAsking,key hq],rfl,h3⟩
  ·rename_i hq
   obtain⟨r',q1,q2⟩:=sG ht hk h4 h
   exact⟨r',by simp[Instr.findAsking,key hq,q1],q2⟩
  ·simp at h
theorem uM {t:TypeId}{kk:KK}(h:lP P t=some kk):(∃lk d,kk=.leaf lk∧P.underlying t=some d∧aCe lk d) ∨
  ∃offs,kk=.agg offs∧mA P t=some offs∧(match P.underlying t with|some (.array _ _)|some (.struct _)=>true|_=>false)=true:=by
 unfold lP at h
 split at h<;>try (simp at h;done)
 ·rename_i k hk
  simp at h;subst h
  exact .inl ⟨_,_,rfl,hk,_,rfl⟩
 ·rename_i hk
  simp at h;subst h
  exact .inl ⟨_,_,rfl,hk,rfl⟩
 ·rename_i hk
  simp at h;subst h
  exact .inl ⟨_,_,rfl,hk,rfl⟩
 ·rename_i hk
  simp only[Option.map_eq_some_iff]at h
  obtain⟨o,h1,rfl⟩:=h
  exact .inr ⟨o,rfl,h1,by rw[hk]⟩
 ·rename_i hk
  simp only[Option.map_eq_some_iff]at h
  obtain⟨o,h1,rfl⟩:=h
  exact .inr ⟨o,rfl,h1,by rw[hk]⟩
theorem sH {t:TypeId}{kk:KK}(ht:lP P t=some kk){k:IV}{kv:Value}(hk:IR M k kv){es:List (Nat×IV×TV)}{l:List MapEntry}{r:Option (Nat×TV)}(he:ER M J es l)(h:findKey kk k es 0=some r):
  ∃r',(Instr.findKey t kv l).run P w=.ok r' w∧RF M J r r':=by
 rcases uM ht with⟨lk,d,rfl,hd,hl⟩|⟨offs,rfl,ho,hw⟩
 ·obtain⟨r',h1,h2⟩:=wR hl hk he h
  exact⟨r',by simp[Instr.findKey,und hd,h1],h2⟩
 ·obtain⟨r',h1,h2⟩:=sG (P:=P) (w:=w) ho hk he h
  exact⟨r',by rw[run_findKey_eq w hw];exact h1,h2⟩
theorem uN {t:TypeId}{k:LK}(ht:uH P t=some k)(em:Bool)(n:Nat)(v:Value):(Instr.checkKey em (n+1) t v).run P w=.ok () w:=by
 unfold uH at ht
 unfold Instr.checkKey
 split at ht<;>simp at ht<;>(rename_i hd;simp only[Sem.run_bind,und hd w,Result.andThen_ok];rfl)
theorem rA (em:Bool)(n:Nat){vs:Array Value}:∀ {fs:List Field} {offs:List (Nat×LK)},vB P fs=some offs->(∀o∈offs,o.1<vs.size)->∀ {f:Field->PUnit->Sem (ForInStep PUnit)},
  (∀ x, f x PUnit.unit = (if x.name ≠ "_" then (part x.type vs x.offset >>= fun u => Instr.checkKey em (n + 1) x.type u >>= fun _ => Pure.pure (ForInStep.yield PUnit.unit)) else Pure.pure (ForInStep.yield PUnit.unit))) →
  (forIn fs PUnit.unit f).run P w=.ok PUnit.unit w
 | [],_,_,_,_,_=>by simp
 | x::fs,offs,h,ho,f,hf=>by
  simp only[vB]at h
  split at h
  ·rename_i hn
   split at h
   ·rename_i k l hk hl
    simp at h;subst h
    have hlt:x.offset<vs.size:=ho (x.offset,k) (by simp)
    have hp:=gY (P:=P) (w:=w) hk (Array.getElem?_eq_getElem hlt)
    simp only[List.forIn_cons,hf,Sem.run_bind,if_pos hn,hp,Result.andThen_ok,uN hk em n,Sem.run_pure]
    exact rA em n hl (fun o hm=>ho o (by simp[hm])) hf
   ·simp at h
  ·simp at h
theorem wS {t:TypeId}{kk:KK}(ht:lP P t=some kk){k:IV}{kv:Value}(hk:IR M k kv)(ho:mV kk k=true)(em:Bool):(Instr.checkKey em 10000 t kv).run P w=.ok () w:=by
 show(Instr.checkKey em (9999+1) t kv).run P w=.ok () w
 rcases uM ht with⟨lk,d,rfl,hd,hl⟩|⟨offs,rfl,hlo,hw⟩
 ·unfold Instr.checkKey
  simp only[Sem.run_bind,und hd w,Result.andThen_ok]
  cases lk with
  | bool=>simp only[aCe]at hl;subst hl;rfl
  | int=>obtain⟨q,rfl⟩:=hl;rfl
  | str=>simp only[aCe]at hl;subst hl;rfl
 ·have hcs:∃cs,k=.agg cs∧∀o∈offs,o.1<cs.length:=by
   cases k with
   | agg cs =>
    refine⟨cs,rfl,fun o hm=>?_⟩
    simp only[mV,List.all_eq_true,decide_eq_true_eq]at ho
    exact ho o hm
   | _=>simp[mV]at ho
  obtain⟨cs,rfl,hall⟩:=hcs
  obtain⟨vs,rfl,hs,hv⟩:=hk.agg_inv
  rw[<-hs]at hall
  unfold mA at hlo
  split at hlo
  ·rename_i fs hu
   split at hlo
   ·simp at hlo
   ·rw[Instr.checkKey]
    simp only[Sem.run_bind,und hu w,Result.andThen_ok]
    rw[<-Array.forIn_toList]
    rw[rA em 9998 hlo hall (fun x=>by split<;>simp_all)]
    rfl
  ·rename_i n e hu
   split at hlo
   ·rename_i lk hlk
    split at hlo
    ·rename_i hsz
     simp at hlo;subst hlo
     rw[Instr.checkKey]
     simp only[Sem.run_bind,und hu w,Result.andThen_ok]
     simp only[Std.Legacy.Range.forIn_eq_forIn_range',Std.Legacy.Range.size,Nat.sub_zero,Nat.add_one_sub_one,Nat.div_one]
     have hmem:∀i∈List.range' 0 n,i<vs.size:=by
      intro i hi
      have hi:i<n:=by simpa using hi
      exact hall (i,lk) (List.mem_map.2 ⟨i,List.mem_range.2 hi,rfl⟩)
     generalize List.range' 0 n=is at hmem
     have:∀(is:List Nat),(∀i∈is,i<vs.size)->(forIn is PUnit.unit fun i (_:PUnit)=>(do
       let __do_lift <-sizeOf e
       let __do_lift <-part e vs (i*__do_lift)
       Instr.checkKey em 9999 e __do_lift
       Pure.pure (ForInStep.yield PUnit.unit):Sem (ForInStep PUnit))).run P w=.ok PUnit.unit w:=by
      intro is
      induction is with
      | nil=>intro _;simp
      | cons j is ih =>
       intro hmem
       have hlt:j*1<vs.size:=by rw[Nat.mul_one];exact hmem j (by simp)
       have hp:=gY (P:=P) (w:=w) hlk (Array.getElem?_eq_getElem hlt)
       simp only[List.forIn_cons,Sem.run_bind,run_size? hsz,hp,Result.andThen_ok,uN hlk em 9998,Sem.run_pure]
       exact ih (fun y hy=>hmem y (by simp[hy]))
     rw[this is hmem]
     rfl
    ·simp at hlo
   ·simp at hlo
  ·simp at hlo
theorem bGt {i:Nat}{l:Loc}(h:WR P O M J S w)(hl:J.at i l){es:List (Nat×IV×TV)}{clock:Nat}(hs:S[i]? = some (.mp es clock)):∃es',w.heap[l.cb]? = some (.map es' clock)∧ER M J es es'.toList∧l.loose=false:=by
 obtain⟨es',h1,h2,h3,h4⟩:=aXz h hl hs
 exact⟨es',h1,⟨by simpa using h2,fun k x y hx hy=>h3 k x y hx (by simpa using hy)⟩,h4⟩
theorem ER.get {es:List (Nat×IV×TV)}{l:List MapEntry}(h:ER M J es l){k:Nat}{x:Nat×IV×TV}(hx:es[k]? = some x):∃y,l[k]? = some y∧y.born=x.1∧IR M x.2.1 y.key∧VR M J [] x.2.2 y.val:=by
 have hlt:k<l.length:=by rw[h.1];exact(List.getElem?_eq_some_iff.1 hx).1
 exact⟨l[k],List.getElem?_eq_getElem hlt,h.2 k x _ hx (List.getElem?_eq_getElem hlt)⟩
theorem ER.push {es:List (Nat×IV×TV)}{l:List MapEntry}(h:ER M J es l){x:Nat×IV×TV}{y:MapEntry}(h1:y.born=x.1)(h2:IR M x.2.1 y.key)(h3:VR M J [] x.2.2 y.val):ER M J (es++[x]) (l++[y]):=by
 refine⟨by simp[h.1],fun k a b ha hb=>?_⟩
 rw[List.getElem?_append]at ha hb
 split at ha
 ·rename_i hk
  rw[if_pos (by rw[h.1];exact hk)]at hb
  exact h.2 k a b ha hb
 ·rename_i hk
  rw[if_neg (by rw[h.1];exact hk),h.1]at hb
  have:k-es.length=0:=by
   have:=(List.getElem?_eq_some_iff.1 ha).1
   simp at this;omega
  rw[this]at ha hb
  simp at ha hb
  subst ha;subst hb
  exact⟨h1,h2,h3⟩
theorem ER.modify {es:List (Nat×IV×TV)}{l:List MapEntry}(h:ER M J es l)(n:Nat){f:Nat×IV×TV->Nat×IV×TV}{g:MapEntry->MapEntry}
  (hf:∀x y,es[n]? = some x->l[n]? = some y->(g y).born=(f x).1∧IR M (f x).2.1 (g y).key∧VR M J [] (f x).2.2 (g y).val):ER M J (es.modify n f) (l.modify n g):=by
 refine⟨by simp[h.1],fun k a b ha hb=>?_⟩
 rw[List.getElem?_modify]at ha hb
 by_cases hk:n=k
 ·subst hk
  simp only[if_pos,Option.map_eq_map,Option.map_eq_some_iff]at ha hb
  obtain⟨x,hx,rfl⟩:=ha
  obtain⟨y,hy,rfl⟩:=hb
  exact hf x y hx hy
 ·simp only[if_neg hk,Option.map_eq_map,Option.map_id']at ha hb
  exact h.2 k a b ha hb
theorem sI {r:Nat}{ob o':Obj}(h:w.heap[r]? = some ob)(hn:∀c e f,ob≠.cells c e f):(setObj r o').run P w=.ok () {w with heap:=w.heap.setIfInBounds r o'}:=by
 cases ob<;>simp_all[setObj,Sem.run]
theorem aDy {r:Nat}{ob o':Obj}(h:w.heap[r]? = some ob):(w.heap.setIfInBounds r o')[r]? = some o':=by
 have hlt:=fV h
 simp[hlt]
theorem aJg (h:MS P O K M J L S env w){i:Nat}{l:Loc}(hl:J.at i l){ob o':Obj}(hb:w.heap[l.cb]? = some ob){s':aP}(hm:∀o,M l.cb o=none)
  (hbr:∀w':World,w'.heap[l.cb]? = some o'->BR P O M J w' l s'):MS P O K M J L (S.set i s') env {w with heap:=w.heap.setIfInBounds l.cb o'} ∧
   Tr (dC L) M J S w M J (S.set i s') {w with heap:=w.heap.setIfInBounds l.cb o'}:=by
 obtain⟨a,b⟩:=h.wr.write (fun _=>False) hl (w':={w with heap:=w.heap.setIfInBounds l.cb o'}) (hbr _ (aDy hb)) (by simp) (fun b hb'=>by simp[Ne.symm hb']) ⟨rfl,rfl,rfl⟩ (fun o v hm'=>by rw[hm]at hm';simp at hm')
 exact h.step' a b
theorem zH (h:WR P O M J S w){b:Nat}{ob:Obj}(hb:w.heap[b]? = some ob)(hn:∀c e f,ob≠.cells c e f)(o:Nat):M b o=none:=by
 cases hm:M b o with
 | none=>rfl
 | some v =>
  have:=h.imm b o v hm
  unfold World.cell? at this
  rw[hb]at this
  cases ob<;>simp_all
theorem aJh (h:MS P O K M J L S env w){i:Nat}{l:Loc}(hl:J.at i l)(hlo:l.loose=false){es es2:Array MapEntry}{clock clock2:Nat}(hb:w.heap[l.cb]? = some (.map es clock)){ts:List (Nat×IV×TV)}(he:ER M J ts es2.toList):
  MS P O K M J L (S.set i (.mp ts clock2)) env {w with heap:=w.heap.setIfInBounds l.cb (.map es2 clock2)}∧Tr (dC L) M J S w M J (S.set i (.mp ts clock2)) {w with heap:=w.heap.setIfInBounds l.cb (.map es2 clock2)} :=
 aJg h hl hb (fun o=>zH h.wr hb (by simp) o) (fun w' hw'=>.mp ts clock2 es2 hlo hw' (by simpa using he.1) (fun k x y hx hy=>he.2 k x y hx (by simpa using hy)))
theorem aR0 {t:TypeId}{z:IV}(h:aI1 P t=some z):∃zv,(∀w,(zeroValue t).run P w=.ok zv w)∧IR M z zv:=by
 unfold aI1 at h
 split at h
 ·rename_i i hi
  split at h
  ·rename_i zv hz
   exact⟨zv,fun w=>by simp[zeroValue,typeInfo,hi,hz],aQg h⟩
  ·simp at h
 ·simp at h
theorem aCf {o:Oper}{t kt el:TypeId}{m k:Operand}{ok:Bool}(hop:o.op=.lookup t m k ok)(ht:P.underlying t=some (.map kt el)){kk:KK}(hkk:lP P kt=some kk){zi:IV}(hz:aI1 P el=some zi)
  (a:Act) (h:MS P O K M J L S env w) {e1 e2 r:TV} (h1:VR M J L e1 (a.eval m)) (h2:VR M J L e2 (a.eval k)) {ki:IV} (hk:rT e2=some ki) (hko:mV kk ki=true) {res:Option (Nat×TV)}
  (hlook:(e1=.iv .nilm∧res=none)∨∃j es clock,e1=.map j∧S[j]? = some (.mp es clock)∧findKey kk ki es 0=some res)
  (hr:r=(match res with|some (_,x)=>if ok then .tup [x,.iv (.bool true)]else x|none=>if ok then .tup [.iv zi,.iv (.bool false)]else .iv zi)) {top:TOp} (htop:aS top=none):
  dF P O K top M J L S env w (execOp a.eval o) r env S:=by
 obtain⟨zv,hzr,hzir⟩:=aR0 (M:=M) hz
 have hki:=aGu hk h2
 have fin:∀(es:Array MapEntry) (res':Option (Nat×Value)),(Instr.findKey kt (a.eval k) es.toList).run P w=.ok res' w->RF M J res res' ->
   ((∃b,a.eval m=.map (some b)∧∃cl,w.heap[b]? = some (.map es cl))∨(a.eval m=.map none∧es=#[]))->dF P O K top M J L S env w (execOp a.eval o) r env S:=by
  intro es res' hf hrf hm
  have hck:=wS (w:=w) hkk hki hko es.isEmpty
  have hrun:∃u,(execOp a.eval o).run P w=.ok (.value u) w∧VR M J L r u:=by
   have hmm:(Instr.lookup t (a.eval m) (a.eval k) ok).run P w=match res' with
     | some (_,v)=>.ok (if ok then .tuple #[v,.bool true]else v) w
     | none=>.ok (if ok then .tuple #[zv,.bool false]else zv) w:=by
    rcases hm with⟨b,hb,cl,hcl⟩|⟨hb,rfl⟩
    ·simp only[Instr.lookup,Sem.run_bind,und ht,Result.andThen_ok,hb,jR hcl (by simp),Sem.run_pure,hck,hf]
     cases res' with
     | none=>simp[hzr]
     | some p=>simp
    ·simp only[Instr.lookup,Sem.run_bind,und ht,Result.andThen_ok,hb,Sem.run_pure,hck,hf]
     cases res' with
     | none=>simp[hzr]
     | some p=>simp
   subst hr
   simp only[execOp,hop,Sem.run_bind,hmm]
   cases res with
   | none =>
    cases res' with
    | some p=>simp[RF]at hrf
    | none =>
     cases ok with
     | true=>exact⟨_,rfl,.tup _ _ _ (by simp) (fun i x v hx hv=>by
       cases i with
       | zero=>simp at hx hv;subst hx;subst hv;exact .iv _ hzir
       | succ i =>
        cases i with
        | zero=>simp at hx hv;subst hx;subst hv;exact .iv _ (.bool _)
        | succ i=>simp at hx)⟩
     | false=>exact⟨_,rfl,.iv _ hzir⟩
   | some q =>
    cases res' with
    | none=>simp[RF]at hrf
    | some p =>
     obtain⟨n,x⟩:=q
     obtain⟨n',v⟩:=p
     obtain⟨rfl,hv⟩:=hrf
     cases ok with
     | true=>exact⟨_,rfl,.tup _ _ _ (by simp) (fun i x v hx hv'=>by
       cases i with
       | zero=>simp at hx hv';subst hx;subst hv';exact hv
       | succ i =>
        cases i with
        | zero=>simp at hx hv';subst hx;subst hv';exact .iv _ (.bool _)
        | succ i=>simp at hx)⟩
     | false=>exact⟨_,rfl,hv.ofNil⟩
  obtain⟨u,hu,hv⟩:=hrun
  exact .pure htop h hu hv
 rcases hlook with⟨rfl,rfl⟩|⟨j,es,clock,rfl,hs,hf⟩
 ·have hm:a.eval m=.map none:=by
   generalize a.eval m=v at h1
   cases h1.iv_inv;rfl
  refine fin #[] none ?_ trivial (.inr ⟨hm,rfl⟩)
  obtain⟨r',q1,q2⟩:=sH (P:=P) (w:=w) (J:=J) hkk hki (es:=[]) (l:=[]) (r:=none) ⟨rfl,fun k x y hx=>by simp at hx⟩ rfl
  cases r' with
  | none=>exact q1
  | some p=>simp[RF]at q2
 ·generalize hva:a.eval m=v at h1
  cases h1 with
  | map L j l hJ hlo =>
   obtain⟨es',hb,her,_⟩:=bGt h.wr hJ hs
   obtain⟨r',q1,q2⟩:=sH (P:=P) (w:=w) hkk hki her hf
   exact fin es' r' q1 q2 (.inl ⟨_,hva,_,hb⟩)
theorem aCg {o:Oper}{t kt el:TypeId}{m k v:Operand}(hop:o.op=.mapUpdate t m k v∨o.op=.insert t m k v)(ht:P.underlying t=some (.map kt el)){kk:KK}(hkk:lP P kt=some kk)(a:Act)(h:MS P O K M J L S env w)
  {j:Nat} {e2 e3:TV} (h1:VR M J L (.map j) (a.eval m)) (h2:VR M J L e2 (a.eval k)) (h3:VR M J L e3 (a.eval v)) (h3':eE e3=false) {ki:IV} (hk:rT e2=some ki) (hko:mV kk ki=true) {es:List (Nat×IV×TV)} {clock:Nat}
  (hs:S[j]? = some (.mp es clock)) {res:Option (Nat×TV)} (hf:findKey kk ki es 0=some res)
  (hr:match res with
   | some (n,_)=>((es[n]?).map fun y=>nA y.2.1 ki).getD false=true∧S'=S.set j (.mp (es.modify n fun y=>(y.1,ki,e3)) clock)
   | none=>S'=S.set j (.mp (es++[(clock,ki,e3)]) (clock+1))) {top:TOp} (htop:aS top=none):
  dF P O K top M J L S env w (execOp a.eval o) undef env S':=by
 have hki:=aGu hk h2
 have h3n:VR M J [] e3 (a.eval v):=h3.frame h3'
 generalize hva:a.eval m=vm at h1
 cases h1 with
 | map L j l hJ hlo =>
  obtain⟨es',hb,her,_⟩:=bGt h.wr hJ hs
  obtain⟨r',q1,q2⟩:=sH (P:=P) (w:=w) hkk hki her hf
  have hck:=wS (w:=w) hkk hki hko false
  have hop':(execOp a.eval o).run P w=((Instr.mapUpdate t (.map (some l.cb)) (a.eval k) (a.eval v)).run P w).andThen fun _ w'=>.ok .skip w':=by
   rcases hop with hop|hop<;>simp[execOp,hop,hva]
  cases res with
  | none =>
   cases r' with
   | some p=>simp[RF]at q2
   | none =>
    simp only at hr
    subst hr
    obtain⟨b,c⟩:=aJh h hJ hlo hb (clock2:=clock+1) (es2:=es'.push {key:=a.eval k,val:=a.eval v,born:=clock}) (ts:=es++[(clock,ki,e3)]) (by rw[Array.toList_push];exact her.push rfl hki h3n)
    refine .mk0 htop (r:=.skip) ?_ (.inr ⟨rfl,rfl⟩) b c (.refl _)
    rw[hop']
    simp[Instr.mapUpdate,und ht,jR hb,hck,q1,sI hb]
  | some p0 =>
   obtain⟨n,x0⟩:=p0
   cases r' with
   | none=>simp[RF]at q2
   | some p =>
    obtain⟨n',v0⟩:=p
    obtain⟨rfl,hx0⟩:=q2
    obtain⟨hsame,rfl⟩:=hr
    obtain⟨y,hy⟩:∃y,es[n]? = some y:=by
     cases hy:es[n]? with
     | none=>simp[hy]at hsame
     | some y=>exact⟨y,rfl⟩
    simp[hy]at hsame
    obtain⟨y',hy',p1,p2,p3⟩:=her.get hy
    have hy'':es'[n]? = some y':=by simpa using hy'
    have hst:=aG0 (P:=P) (w:=w) hsame p2 hki
    obtain⟨b,c⟩:=aJh h hJ hlo hb (clock2:=clock) (es2:=es'.modify n fun e=>{e with key:=a.eval k,val:=a.eval v}) (ts:=es.modify n fun y=>(y.1,ki,e3)) (by
     rw[Array.toList_modify]
     refine her.modify n fun x y hx hy=>?_
     exact⟨(her.2 n x y hx hy).1,hki,h3n⟩)
    refine .mk0 htop (r:=.skip) ?_ (.inr ⟨rfl,rfl⟩) b c (.refl _)
    rw[hop']
    simp[Instr.mapUpdate,und ht,jR hb,hck,q1,hy'',hst,sI hb]
theorem aX7 (h:MS P O K M J L S env w)(ob:Obj)(s:aP)
  (hbr:∀(J':aD) (w':World) (l:Loc),JLe J J'->l.loose=false->w'.heap[l.cb]? = some ob->BR P O M J' w' l s):∃J' l,l.loose=false∧l.cb=w.heap.size∧MS P O K M J' L (S++[s]) env (w.alloc ob) ∧
   Tr (dC L) M J S w M J' (S++[s]) (w.alloc ob)∧J'.at S.length l:=by
 have hM:M.ext w.heap.size (fun _=>none)=M:=sC h.wr.none_at
 let l:Loc:={cb:=w.heap.size,d:=0,ver:=0,cap:=0,es:=0,size:=0,loose:=false}
 have hb:=h.wr.push (fun _=>False) ob (fun _=>none) l s rfl (fun o v hm=>by simp at hm) (by
  rw[hM]
  exact hbr _ _ l (.push _ _) rfl (dD w _))
 rw[hM]at hb
 obtain⟨b,c⟩:=h.step' hb.1 hb.2
 refine⟨_,l,rfl,rfl,b,c,?_⟩
 unfold aD.at
 rw[<-h.wr.len]
 simp
theorem aX8 {ob:Obj}{s:aP}{top:TOp}(htop:aS top=none)(h:MS P O K M J L S env w)(hbr:∀(J':aD) (w':World) (l:Loc),JLe J J'->l.loose=false->w'.heap[l.cb]? = some ob->BR P O M J' w' l s){sm:Sem Next}
  (hrun:sm.run P w=.ok (.value (.pointer (some ⟨w.heap.size,0,none⟩))) (w.alloc ob)):dF P O K top M J L S env w sm (.it S.length) env (S++[s]):=by
 obtain⟨J',l,hl1,hl2,a,b,c⟩:=aX7 h ob s hbr
 refine .mk0 htop hrun (.inl ⟨_,rfl,?_⟩) a b (.refl _)
 rw[<-hl2]
 exact .it _ _ l c hl1
theorem aMw {o:Oper}{t:TypeId}{x:Operand}(hop:o.op=.range t x)(ht:P.underlying t=some .string)(a:Act)(h:MS P O K M J L S env w){s:List UInt8}(hx:VR M J L (.iv (.str s)) (a.eval x)){top:TOp}(htop:aS top=none):
  dF P O K top M J L S env w (execOp a.eval o) (.it S.length) env (S++[.sit s 0]) :=
 aX8 htop h (fun _ _ _ _ hl hb=>.sit s 0 hl hb) (by simp[execOp,hop,Instr.range,und ht,hx.str_inv])
theorem bDw {x y z:TV}{u v q:Value}(hx:VR M J [] x u)(hy:VR M J [] y v)(hz:VR M J [] z q):VR M J L (.tup [x,y,z]) (.tuple #[u,v,q]):=by
 refine .tup _ _ _ (by simp) (fun i a b ha hb=>?_)
 match i,ha,hb with
 | 0,ha,hb=>simp at ha hb;subst ha;subst hb;exact hx
 | 1,ha,hb=>simp at ha hb;subst ha;subst hb;exact hy
 | 2,ha,hb=>simp at ha hb;subst ha;subst hb;exact hz
 | i+3,ha,hb=>simp at ha
theorem bDx {x:TV}{u:Value}(hx:VR M J [] x u):VR M J L (.tup [x]) (.tuple #[u]):=by
 refine .tup _ _ _ (by simp) (fun i a b ha hb=>?_)
 match i,ha,hb with
 | 0,ha,hb=>simp at ha hb;subst ha;subst hb;exact hx
 | i+1,ha,hb=>simp at ha
theorem aR1 {o:Oper}{x:Operand}(hop:o.op=.next x true)(a:Act)(h:MS P O K M J L S env w){j:Nat}(hx:VR M J L (.it j) (a.eval x)){s:List UInt8}{pos:Nat}(hs:S[j]? = some (.sit s pos)){top:TOp}
  (htop:aS top=none):
  (pos<s.length->dF P O K top M J L S env w (execOp a.eval o) (.tup [.iv (.bool true),.iv (.int .i64 pos),.iv (.int .i32 (Utf8.decode ⟨s.toArray⟩ pos).1)]) env (S.set j (.sit s (pos+(Utf8.decode ⟨s.toArray⟩ pos).2)))) ∧
  (¬pos<s.length->dF P O K top M J L S env w (execOp a.eval o) (.tup [.iv (.bool false)]) env S):=by
 generalize hva:a.eval x=v at hx
 cases hx with
 | it L j l hJ hlo =>
  have hbr:=h.wr.blk j l _ hJ hs
  cases hbr with
  | sit s pos hl hb =>
   refine⟨fun hlt=>?_,fun hlt=>?_⟩
   ·obtain⟨b,c⟩:=aJg h hJ hb (s':=.sit s (pos+(Utf8.decode ⟨s.toArray⟩ pos).2)) (fun o=>zH h.wr hb (by simp) o) (fun w' hw'=>.sit _ _ hl hw')
    refine .mk0 htop (r:=.value (.tuple #[.bool true,.int .i64 pos,.int .i32 (Utf8.decode ⟨s.toArray⟩ pos).1])) ?_ (.inl ⟨_,rfl,bDw (.iv _ (.bool _)) (.iv _ (.int _ _)) (.iv _ (.int _ _))⟩) b c (.refl _)
    have hsz:pos<(⟨s.toArray⟩:ByteArray).size:=by rw[oR];exact hlt
    simp[execOp,hop,hva,Instr.next,jR hb,hsz,sI hb,goInt]
   ·refine .pure htop h (v':=.tuple #[.bool false]) ?_ (bDx (.iv _ (.bool _)))
    have hsz:¬pos<(⟨s.toArray⟩:ByteArray).size:=by rw[oR];exact hlt
    simp[execOp,hop,hva,Instr.next,jR hb,hsz]
theorem aX9 {o:Oper}{f:FuncId}{first cap:Array Operand}(hop:o.op=.makeFunc (.func f) first cap)(a:Act)(h:MS P O K M J L S env w){xs ys:List TV}(h1:VRs M J L xs (first.map a.eval).toList)(h2:VRs M J L ys (cap.map a.eval).toList)
  (hn:(xs++ys).any eE=false) {top:TOp} (htop:aS top=none):dF P O K top M J L S env w (execOp a.eval o) (.fn f xs ys) env S:=by
 have hxs:xs.any eE=false:=by rw[List.any_append,Bool.or_eq_false_iff]at hn;exact hn.1
 have hys:ys.any eE=false:=by rw[List.any_append,Bool.or_eq_false_iff]at hn;exact hn.2
 have k1:=h1.frame (L':=[]) hxs
 have k2:=h2.frame (L':=[]) hys
 refine .pure htop h (v':=.func (.func f) (first.map a.eval) (cap.map a.eval)) ?_ (.fn _ _ _ _ _ _ (by simpa using k1.1) (by simpa using k2.1) (fun i x v hx hv=>k1.2 i x v hx (by simpa using hv)) (fun i x v hx hv=>k2.2 i x v hx (by simpa using hv)))
 simp[execOp,hop,Instr.makeFunc]
inductive pU (J:aD) (S:aA) (l:Loc) (b:aP):Nat->aD->aA->Prop
 | push:pU J S l b S.length (J++[some l]) (S++[b])
 | real (i:Nat) (hj:J[i]? = some none) (hs:S[i]? = some b):pU J S l b i (J.set i (some l)) S
theorem pU.at {l:Loc}{b:aP}{i:Nat}{J':aD}(h:pU J S l b i J' S')(hl:J.length=S.length):J'.at i l:=by
 cases h with
 | push=>unfold aD.at;rw[<-hl];simp
 | real i hj hs=>exact gM (List.getElem?_eq_some_iff.1 hj).1
theorem pU.jle {l:Loc}{b:aP}{i:Nat}{J':aD}(h:pU J S l b i J' S'):JLe J J':=by
 cases h with
 | push=>exact .push _ _
 | real i hj hs =>
  refine⟨by simp,fun k lk hk=>⟨lk,?_,.inl rfl⟩⟩
  unfold aD.at at hk ⊢
  have:k≠i:=by rintro rfl;rw[hj]at hk;simp at hk
  rw[List.getElem?_set_ne (by omega)];exact hk
theorem pU.get {l:Loc}{b:aP}{i:Nat}{J':aD}(h:pU J S l b i J' S')(hl:J.length=S.length){k:Nat}{lk:Loc}(hk:J'.at k lk):(k=i∧lk=l∧S'[k]? = some b)∨(k≠i∧J.at k lk∧S'[k]? = S[k]?):=by
 cases h with
 | push =>
  rcases lQ hk with hk|⟨rfl,hx⟩
  ·right
   have hlt:k<J.length:=(List.getElem?_eq_some_iff.1 hk).1
   exact⟨by omega,hk,by rw[List.getElem?_append_left (by omega)]⟩
  ·left
   simp at hx
   exact⟨hl,hx.symm,by rw[hl];simp⟩
 | real i hj hs =>
  have hi:=(List.getElem?_eq_some_iff.1 hj).1
  rcases xY hi hk with⟨rfl,rfl⟩|⟨hki,hk2⟩
  ·exact .inl ⟨rfl,rfl,hs⟩
  ·exact .inr ⟨hki,hk2,rfl⟩
theorem pU.len {l:Loc}{b:aP}{i:Nat}{J':aD}(h:pU J S l b i J' S')(hl:J.length=S.length):J'.length=S'.length:=by
 cases h with
 | push=>simp[hl]
 | real i hj hs=>simpa using hl
structure TrN (n:Nat) (own:Nat->Prop) (M:Mem) (J:aD) (S:aA) (w:World) (M':Mem) (J':aD) (S':aA) (w':World):Prop where
 os:w'.os=w.os
 tape:w'.tape=w.tape
 output:w'.output=w.output
 size:w.heap.size<=w'.heap.size
 mle:MLe M M'
 mnew:∀b o,b<w.heap.size->¬J.has b->M' b o=M b o
 jle:JLe J J'
 jnew:∀i l,J'.at i l->w.heap.size<=l.cb∨∃l0,J.at i l0∧l0.cb=l.cb
 ph:∀i:Nat,i<n->J[i]? = some none->J'[i]? = some none∧S'[i]? = S[i]?
 frame:∀b,b<w.heap.size->¬J.has b->¬own b->w'.heap[b]? = w.heap[b]?
theorem Tr.trN {own:Nat->Prop}{M':Mem}{J':aD}{w':World}(h:Tr own M J S w M' J' S' w')(n:Nat):TrN n own M J S w M' J' S' w' :=
 ⟨h.os,h.tape,h.output,h.size,h.mle,h.mnew,h.jle,h.jnew,fun i _ hi=>h.ph i hi,h.frame⟩
theorem TrN.tr {own:Nat->Prop}{M':Mem}{J':aD}{w':World}(h:TrN J.length own M J S w M' J' S' w'):Tr own M J S w M' J' S' w' :=
 ⟨h.os,h.tape,h.output,h.size,h.mle,h.mnew,h.jle,h.jnew,fun i hi=>h.ph i (List.getElem?_eq_some_iff.1 hi).1 hi,h.frame⟩
theorem TrN.has {n:Nat}{own:Nat->Prop}{M':Mem}{J':aD}{w':World}(h:TrN n own M J S w M' J' S' w'){b:Nat}(hb:b<w.heap.size)(hn:¬J.has b):¬J'.has b:=by
 rintro⟨i,l,hl,rfl⟩
 rcases h.jnew i l hl with h1|⟨l0,h1,h2⟩
 ·omega
 ·exact hn ⟨i,l0,h1,h2⟩
theorem TrN.trans {n:Nat}{own own':Nat->Prop}{M' M'':Mem}{J' J'':aD}{S'':aA}{w' w'':World}(h:TrN n own M J S w M' J' S' w')(k:TrN n own' M' J' S' w' M'' J'' S'' w'')
  (ho:∀b,own' b->own b∨w.heap.size<=b):TrN n own M J S w M'' J'' S'' w'':=by
 refine⟨k.os.trans h.os,k.tape.trans h.tape,k.output.trans h.output,Nat.le_trans h.size k.size,h.mle.trans k.mle,?_,h.jle.trans k.jle,?_,?_,?_⟩
 ·intro b o hb hn
  exact(k.mnew b o (Nat.lt_of_lt_of_le hb h.size) (h.has hb hn)).trans (h.mnew b o hb hn)
 ·intro i l hl
  rcases k.jnew i l hl with h1|⟨l0,h1,h2⟩
  ·exact .inl (Nat.le_trans h.size h1)
  ·rcases h.jnew i l0 h1 with h3|⟨l1,h3,h4⟩
   ·exact .inl (by omega)
   ·exact .inr ⟨l1,h3,h4.trans h2⟩
 ·intro i hin hi
  obtain⟨a,b⟩:=h.ph i hin hi
  obtain⟨c,d⟩:=k.ph i hin a
  exact⟨c,d.trans b⟩
 ·intro b hb hn hno
  refine(k.frame b (Nat.lt_of_lt_of_le hb h.size) (h.has hb hn) (fun hb'=>?_)).trans (h.frame b hb hn hno)
  rcases ho b hb' with h1|h1
  ·exact hno h1
  ·omega
theorem TrN.weaken {n:Nat}{own own':Nat->Prop}{M':Mem}{J':aD}{w':World}(h:TrN n own M J S w M' J' S' w')(ho:∀b,own b->own' b):TrN n own' M J S w M' J' S' w' :=
 ⟨h.os,h.tape,h.output,h.size,h.mle,h.mnew,h.jle,h.jnew,h.ph,fun b hb hn hno=>h.frame b hb hn (fun h'=>hno (ho b h'))⟩
theorem WR.place (h:WR P O M J S w)(ob:Obj)(l:Loc)(b:aP){i:Nat}{J':aD}(hp:pU J S l b i J' S')(hl:l.cb=w.heap.size)(hbr:BR P O M J' (w.alloc ob) l b){n:Nat}(hn:J=J'∨n<=i):
  WR P O M J' S' (w.alloc ob)∧TrN n (fun _=>False) M J S w M J' S' (w.alloc ob):=by
 have hlen:=h.len
 refine⟨h.step (hp.len hlen) (.refl _) hp.jle (fun b o v hm=>?_) (fun k lk s hk hs=>?_) (fun k k' lk lk' hk hk' e=>?_) (fun k lk hk=>?_),?_⟩
 ·rw[fH (cR w ob (by have:=h.mlt hm;omega))]
  exact h.imm b o v hm
 ·rcases hp.get hlen hk with⟨rfl,rfl,hb⟩|⟨hki,hk2,hb⟩
  ·left
   rw[hb]at hs
   simp at hs;subst hs
   exact hbr
  ·right
   rw[hb]at hs
   exact⟨hk2,hs,cR w ob (by have:=h.lt k lk hk2;omega),fun _=>rfl⟩
 ·rcases hp.get hlen hk with⟨rfl,rfl,_⟩|⟨hki,hk2,_⟩<;>rcases hp.get hlen hk' with⟨rfl,rfl,_⟩|⟨hki',hk2',_⟩
  ·rfl
  ·have:=h.lt k' lk' hk2';omega
  ·have:=h.lt k lk hk2;omega
  ·exact h.inj k k' lk lk' hk2 hk2' e
 ·rcases hp.get hlen hk with⟨rfl,rfl,_⟩|⟨hki,hk2,_⟩
  ·simp;omega
  ·have:=h.lt k lk hk2;simp;omega
 ·refine⟨rfl,rfl,rfl,by simp,.refl _,fun _ _ _ _=>rfl,hp.jle,fun k lk hk=>?_,fun k hkn hk=>?_,fun b hb _ _=>cR w ob (by omega)⟩
  ·rcases hp.get hlen hk with⟨rfl,rfl,_⟩|⟨hki,hk2,_⟩
   ·exact .inl (by omega)
   ·exact .inr ⟨lk,hk2,rfl⟩
  ·cases hp with
   | push =>
    have hlt:=(List.getElem?_eq_some_iff.1 hk).1
    exact⟨by rw[List.getElem?_append_left hlt];exact hk,by rw[List.getElem?_append_left (by omega)]⟩
   | real i hj hs =>
    have:k≠i:=by
     rintro rfl
     rcases hn with hn|hn
     ·have h1:=gM (l':=l) (List.getElem?_eq_some_iff.1 hj).1
      rw[<-hn]at h1
      unfold aD.at at h1
      rw[hj]at h1;simp at h1
     ·omega
    exact⟨by rw[List.getElem?_set_ne (by omega)];exact hk,rfl⟩
structure aR2 (P:Program) (O:dM) (M:Mem) (J:aD) (w:World) (run:Result Next) (v:Nat->TV) (b:aP) (ob:Obj) (vm:Value) (l:Loc):Prop where
 run:run=.ok (.value vm) (w.alloc ob)
 cb:l.cb=w.heap.size
 lo:l.loose=false
 val:∀(L:List (Option Nat)) (J':aD) (i:Nat),J'.at i l->VR M J' L (v i) vm
 blk:∀J',JLe J J'->BR P O M J' (w.alloc ob) l b
theorem BR.newCells (h:WR P O M J S w){xs:List TV}{cs:Array Value}(e:TypeId)(hfit:xs.length<=cs.size)(hv:∀(k:Nat) (x:TV),xs[k]? = some x->∃u,cs[k]? = some u∧VR M J [] x u){l:Loc}(hl:l.cb=w.heap.size)(hd:l.d=0)
  {ver:Nat} (hver:l.ver=ver) (htag:ver≠0->ver=e+1∧cs.size=xs.length) (hsz:l.size=cs.size) (hlo:l.loose=false) {J':aD} (hJ:JLe J J'):BR P O M J' (w.alloc (.cells cs e)) l (.cells ver false xs):=by
 have:=BR.cells (P:=P) (O:=O) (M:=M) (J:=J') (w:=w.alloc (.cells cs e)) (l:=l) false xs cs e (0,0) hlo (by rw[hl];exact dD w _) hsz.symm (by omega) (fun k x hx=>by
  obtain⟨u,h1,h2⟩:=hv k x hx
  exact⟨u,by rw[hd,Nat.zero_add];exact h1,h2.mono (.refl _) hJ⟩) (fun o _=>by rw[hl];exact World.frozen?_alloc_new w cs e o) (fun o=>by rw[hl];exact h.none_at o) (fun _ q=>by rw[hver]at q;exact⟨hver.trans (htag q).1,hd,(htag q).2⟩)
 rwa [hver]at this
theorem aCh (h:WR P O M J S w){xs:List TV}{cs:Array Value}(e:TypeId)(tag:Nat)(htag:tag≠0->tag=e+1)(hv:VRs M J [] xs cs.toList){run:Result Next}(hrun:run=.ok (.value (.pointer (some ⟨w.heap.size,0,none⟩))) (w.alloc (.cells cs e))):
  ∃ob vm l,aR2 P O M J w run (fun i=>.ptr i tag 0) (.cells tag false xs) ob vm l:=by
 obtain⟨h1,h2⟩:=hv.ex
 exact⟨_,_,{cb:=w.heap.size,d:=0,ver:=tag,cap:=0,es:=0,size:=cs.size,loose:=false},hrun,rfl,rfl,fun L J' i hi=>.ptr _ _ _ _ _ _ _ hi (Nat.le_refl _) (fun _=>⟨rfl,rfl⟩),
  fun J' hJ=>.newCells h e h1 h2 rfl rfl rfl (fun q=>⟨htag q,by simpa using hv.1⟩) rfl rfl hJ⟩
theorem aG1 (h:WR P O M J S w){xs:List TV}{cs:Array Value}(e:TypeId)(hfit:xs.length<=cs.size)(hv:∀(k:Nat) (x:TV),xs[k]? = some x->∃u,cs[k]? = some u∧VR M J [] x u){len cap es:Nat}(hlc:len<=cap)(hsz:cap*es<=cs.size)
  {run:Result Next} (hrun:run=.ok (.value (.slice (some ⟨w.heap.size,0,none⟩) len cap)) (w.alloc (.cells cs e))):∃ob vm l,aR2 P O M J w run (fun i=>.msl i 0 0 len cap es) (.cells 0 false xs) ob vm l :=
 ⟨_,_,{cb:=w.heap.size,d:=0,ver:=0,cap:=0,es:=0,size:=cs.size,loose:=false},hrun,rfl,rfl,
  fun L J' i hi=>.msl _ _ _ _ _ _ _ _ _ _ cap hi (Nat.le_refl _) (fun _=>⟨rfl,fun _=>rfl,Nat.le_refl _,fun _=>rfl,by show 0+cap*es<=cs.size;omega⟩) hlc hlc,fun J' hJ=>.newCells h e hfit hv rfl rfl rfl (fun q=>absurd rfl q) rfl rfl hJ⟩
theorem bDy {o:Oper}{t:TypeId}(hop:o.op=.makeMap t none)(a:Act):∃ob vm l,aR2 P O M J w ((execOp a.eval o).run P w) (fun i=>.map i) (.mp [] 0) ob vm l:=by
 have hrun:(execOp a.eval o).run P w=.ok (.value (.map (some w.heap.size))) (w.alloc (.map #[] 0)):=by simp[execOp,hop,Go.Instr.makeMap]
 refine⟨_,_,{cb:=w.heap.size,d:=0,ver:=0,cap:=0,es:=0,size:=0,loose:=false},hrun,rfl,rfl,fun L J' i hi=>.map _ _ _ hi rfl,fun J' hJ=>?_⟩
 exact .mp [] 0 #[] rfl (dD w _) rfl (fun k x y hx=>by simp at hx)
theorem aR2.push (h:MS P O K M J L S env w){s:Sem Next}{v:Nat->TV}{b:aP}{ob:Obj}{vm:Value}{l:Loc}(k:aR2 P O M J w (s.run P w) v b ob vm l){top:TOp}(htop:aS top=none):
  dF P O K top M J L S env w s (v S.length) env (S++[b]):=by
 have hp:pU J S l b S.length (J++[some l]) (S++[b]):=.push
 obtain⟨a,c⟩:=h.wr.place ob l b hp k.cb (k.blk _ hp.jle) (n:=J.length) (.inr (by rw[h.wr.len];exact Nat.le_refl _))
 obtain⟨d,e⟩:=h.step' a c.tr
 exact .mk0 htop k.run (.inl ⟨_,rfl,k.val L _ _ (hp.at h.wr.len)⟩) d e (.refl _)
end
end Go.TM
