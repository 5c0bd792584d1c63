/- Some texts of the proof, joined. Condition: none. -/
import Derived.Test.YtageemgcnoblnaaDoorTmProg
import Derived.Test.YtageemgcnoblnaaDoorTmE
import Derived.Test.YtageemgcnoblnaaDoorRows
import Derived.Test.YtageemgcnoblnaaDoorTmF
set_option maxRecDepth 100000
set_option maxHeartbeats 64000000
set_option linter.unusedSimpArgs false
set_option linter.unusedVariables false
namespace Go.Proofs.YtageemgcnoblnaaDoor
open Go Go.TM
abbrev u_:TV:=.tup []
attribute [go_sem] TM.undef
attribute [go_sem] beq_self_eq_true bF8 bF9 ifT ifF eqT eqF neT neF qW TM.mH aFk List.replicate List.cons_append List.nil_append decide_true decide_false
attribute [go_sem] Nat.reduceAdd Nat.reduceSub Nat.reduceMul Nat.reduceLT Nat.reduceLeDiff Nat.reduceEqDiff Nat.reduceBEq reduceIte reduceCtorEq Int.reduceEq Int.reduceLT Int.reduceLE Int.reduceAdd Int.reduceSub Int.reduceMul Int.reduceToNat Int.reduceNeg Int.reduceBEq Int.reduceBNe Int.reduceTDiv Int.reduceTMod Int.reducePow Nat.reducePow Nat.reduceDiv Nat.reduceMod Int.reduceMod Int.reduceDiv Int.reduceNe Int.reduceFDiv
inductive Dt where
 | mk (k n:Int) (t:List UInt8) (g:Tag) (ks:List Dt) (p:Int)
instance:Inhabited Dt:=⟨.mk 0 0 [] .nil [] 0⟩
def Dt.k:Dt→Int | .mk k _ _ _ _ _=>k
def Dt.n:Dt→Int | .mk _ n _ _ _ _=>n
def Dt.t:Dt→List UInt8 | .mk _ _ t _ _ _=>t
def Dt.g:Dt→Tag | .mk _ _ _ g _ _=>g
def Dt.ks:Dt→List Dt | .mk _ _ _ _ ks _=>ks
def Dt.p:Dt→Int | .mk _ _ _ _ _ p=>p
mutual
def kC:Dt→List IV
 | .mk k n t g ks p=>[.int .i64 k,.int .i64 n,.str t,.sl g (eW ks),.int .i64 p]
def eW:List Dt→List (List IV)
 | []=>[]
 | d::ds=>kC d::eW ds
end
mutual
def Dt.w:Dt→Nat
 | .mk _ _ t _ ks _=>t.length+Dt.ws ks+1
def Dt.ws:List Dt→Nat
 | []=>0
 | d::ds=>Dt.w d+Dt.ws ds
end
theorem nQ:∀ks:List Dt,eW ks=ks.map kC
 | []=>by rw[eW]; rfl
 | d::ds=>by rw[eW,nQ ds]; rfl
theorem dF (ks:List Dt):(eW ks).length=ks.length:=by rw[nQ,List.length_map]
theorem dI (d:Dt):kC d=[.int .i64 d.k,.int .i64 d.n,.str d.t,.sl d.g (eW d.ks),.int .i64 d.p]:=by
 cases d; rw[kC]; rfl
theorem aSf (d:Dt):(kC d).length=5:=by rw[dI]; rfl
theorem Dt.w_eq (d:Dt):d.w=d.t.length+Dt.ws d.ks+1:=by cases d; rw[Dt.w]; rfl
theorem Dt.ws_mem {d:Dt}:∀ {ks:List Dt},d∈ks→d.w≤Dt.ws ks
 | x::r,h=>by
  rw[Dt.ws]
  rcases List.mem_cons.1 h with rfl|h
  ·omega
  ·have:=Dt.ws_mem h; omega
theorem Dt.ws_len:∀ks:List Dt,ks.length≤Dt.ws ks
 | []=>by simp
 | x::r=>by
  have:=Dt.ws_len r
  have:=Dt.w_eq x
  rw[Dt.ws,List.length_cons]; omega
theorem Dt.kid_lt {d x:Dt}(h:x∈d.ks):x.w<d.w:=by
 have:=Dt.ws_mem h
 rw[Dt.w_eq d]; omega
theorem ixD {g:Tag}{ks:List Dt}{i:Int}(h:0≤i∧i<ks.length):indexAddrS 5 (.iv (.sl g (eW ks))) i=some (.iv (.cp (kC (ks.getD i.toNat default)))):=by
 rw[nQ]
 exact aL7 (f:=kC) aSf h
theorem tG (env:Env)(S:aA)(d:Dt):bB env S (.iv (.cp (kC d))) 5=some [.iv (.int .i64 d.k),.iv (.int .i64 d.n),.iv (.str d.t),.iv (.sl d.g (eW d.ks)),.iv (.int .i64 d.p)]:=by
 rw[dI]; rfl
theorem kD {α:Type}[Inhabited α]{l:List α}{i:Nat}(h:i<l.length):l.drop i=l.getD i default::l.drop (i+1):=by
 rw[List.drop_eq_getElem_cons h,List.getD_eq_getElem?_getD,List.getElem?_eq_getElem h]; rfl
theorem oG {α:Type}[Inhabited α]{l:List α}{i:Nat}(h:i<l.length):l.getD i default∈l:=by
 rw[List.getD_eq_getElem?_getD,List.getElem?_eq_getElem h]; exact List.getElem_mem h
inductive Ex where
 | mk (k n:Int) (gv:Tag) (vs:List Int) (r:Bool) (g:Tag) (ks:List Ex)
instance:Inhabited Ex:=⟨.mk 0 0 .nil [] false .nil []⟩
def Ex.k:Ex→Int | .mk k _ _ _ _ _ _=>k
def Ex.n:Ex→Int | .mk _ n _ _ _ _ _=>n
def Ex.gv:Ex→Tag | .mk _ _ gv _ _ _ _=>gv
def Ex.vs:Ex→List Int | .mk _ _ _ vs _ _ _=>vs
def Ex.r:Ex→Bool | .mk _ _ _ _ r _ _=>r
def Ex.g:Ex→Tag | .mk _ _ _ _ _ g _=>g
def Ex.ks:Ex→List Ex | .mk _ _ _ _ _ _ ks=>ks
mutual
def eT:Ex→List IV
 | .mk k n gv vs r g ks=>[.int .i64 k,.int .i64 n,.sl gv (TM.one (.int .i64) vs),.bool r,.sl g (bS ks)]
def bS:List Ex→List (List IV)
 | []=>[]
 | d::ds=>eT d::bS ds
end
mutual
def Ex.w:Ex→Nat
 | .mk _ _ _ vs _ _ ks=>vs.length+Ex.ws ks+1
def Ex.ws:List Ex→Nat
 | []=>0
 | d::ds=>Ex.w d+Ex.ws ds
end
theorem fI:∀ks:List Ex,bS ks=ks.map eT
 | []=>by rw[bS]; rfl
 | d::ds=>by rw[bS,fI ds]; rfl
theorem aL (ks:List Ex):(bS ks).length=ks.length:=by rw[fI,List.length_map]
theorem aZ (d:Ex):eT d=[.int .i64 d.k,.int .i64 d.n,.sl d.gv (TM.one (.int .i64) d.vs),.bool d.r,.sl d.g (bS d.ks)]:=by
 cases d; rw[eT]; rfl
theorem nR (d:Ex):(eT d).length=5:=by rw[aZ]; rfl
theorem Ex.w_eq (d:Ex):d.w=d.vs.length+Ex.ws d.ks+1:=by cases d; rw[Ex.w]; rfl
theorem Ex.ws_mem {d:Ex}:∀ {ks:List Ex},d∈ks→d.w≤Ex.ws ks
 | x::r,h=>by
  rw[Ex.ws]
  rcases List.mem_cons.1 h with rfl|h
  ·omega
  ·have:=Ex.ws_mem h; omega
theorem Ex.ws_len:∀ks:List Ex,ks.length≤Ex.ws ks
 | []=>by simp
 | x::r=>by
  have:=Ex.ws_len r
  have:=Ex.w_eq x
  rw[Ex.ws,List.length_cons]; omega
theorem Ex.kid_lt {d x:Ex}(h:x∈d.ks):x.w<d.w:=by
 have:=Ex.ws_mem h
 rw[Ex.w_eq d]; omega
theorem ixE {g:Tag}{ks:List Ex}{i:Int}(h:0≤i∧i<ks.length):indexAddrS 5 (.iv (.sl g (bS ks))) i=some (.iv (.cp (eT (ks.getD i.toNat default)))):=by
 rw[fI]
 exact aL7 (f:=eT) nR h
theorem wL (env:Env)(S:aA)(d:Ex):bB env S (.iv (.cp (eT d))) 5=some [.iv (.int .i64 d.k),.iv (.int .i64 d.n),.iv (.sl d.gv (TM.one (.int .i64) d.vs)),.iv (.bool d.r),.iv (.sl d.g (bS d.ks))]:=by
 rw[aZ]; rfl
abbrev lbE (d:Ex):TV:=.lb [.iv (.int .i64 d.k),.iv (.int .i64 d.n),.iv (.sl d.gv (TM.one (.int .i64) d.vs)),.iv (.bool d.r),.iv (.sl d.g (bS d.ks))]
structure Pg where
 b:Ex
 gl:Int
 vr:Int
 gc:Tag
 cs:List Dt
def Pg.w (p:Pg):Nat:=p.b.w+Dt.ws p.cs
def mZ (p:Pg):List IV:=[.int .i64 p.b.k,.int .i64 p.b.n,.sl p.b.gv (TM.one (.int .i64) p.b.vs),.bool p.b.r,.sl p.b.g (bS p.b.ks),.int .i64 p.gl,.int .i64 p.vr,.sl p.gc (eW p.cs)]
abbrev lbP (p:Pg):TV:=.lb [.iv (.int .i64 p.b.k),.iv (.int .i64 p.b.n),.iv (.sl p.b.gv (TM.one (.int .i64) p.b.vs)),.iv (.bool p.b.r),.iv (.sl p.b.g (bS p.b.ks)),.iv (.int .i64 p.gl),.iv (.int .i64 p.vr),.iv (.sl p.gc (eW p.cs))]
end Go.Proofs.YtageemgcnoblnaaDoor
namespace Go.Proofs.YtageemgcnoblnaaDoor
open Go Go.TM Go.ChangeShapes Go.WideShapes
section
variable {P:Program}{H:Type}
theorem lU {t:TypeId}{fs:Array Field}{d:DataW H}{l:List IV}(hu:P.underlying t=some (.struct fs))(h:Ty P t d l) :
  ∃(ds:List (DataW H)) (ls:List (List IV)),d=.agg ds∧l=bO ls∧mY P (fs.toList.map (·.type)) ds ls:=by
 have h0:=h
 cases h with
 | bool u ht b=>rw[hu]at ht; cases ht
 | int u k ht=>rw[hu]at ht; cases ht
 | str u ht=>rw[hu]at ht; cases ht
 | nilp u e ht=>rw[hu]at ht; cases ht
 | ptr u e ht=>rw[hu]at ht; cases ht
 | nils u e ht=>rw[hu]at ht; cases ht
 | sl u e ht=>rw[hu]at ht; cases ht
 | struct u fs' ht ds ls h1 h2 h hl =>
  rw[hu]at ht; cases ht
  refine⟨ds,ls,rfl,rfl,?_⟩
  have key:∀(fs:List Field) (ds:List (DataW H)) (ls:List (List IV)),ds.length=fs.length→ls.length=fs.length→(∀(i:Nat) (f:Field) (d:DataW H) (l:List IV),fs[i]? = some f→ds[i]? = some d→ls[i]? = some l→Ty P f.type d l)→mY P (fs.map (·.type)) ds ls:=by
   intro fs
   induction fs with
   | nil =>
    intro ds ls h1 h2 _
    have e1:ds=[]:=List.eq_nil_of_length_eq_zero (by simpa using h1)
    have e2:ls=[]:=List.eq_nil_of_length_eq_zero (by simpa using h2)
    subst e1; subst e2; exact trivial
   | cons f fs ih =>
    intro ds ls h1 h2 h
    cases ds with
    | nil=>simp at h1
    | cons d ds =>
     cases ls with
     | nil=>simp at h2
     | cons l ls=>exact⟨h 0 f d l rfl rfl rfl,ih ds ls (by simpa using h1) (by simpa using h2) (fun i f' d' l' hf hd hl'=>h (i+1) f' d' l' (by simpa using hf) (by simpa using hd) (by simpa using hl'))⟩
  exact key fs.toList ds ls (by simpa using h1) (by simpa using h2) (fun i f d l hf hd hl'=>h i f d l (by simpa using hf) hd hl')
 | array u e n ht=>rw[hu]at ht; cases ht
theorem cL {t:TypeId}{ts:List TypeId}{ds:List (DataW H)}{ls:List (List IV)}(h:mY P (t::ts) ds ls):∃(d:DataW H) (l:List IV) (ds':List (DataW H)) (ls':List (List IV)),ds=d::ds'∧ls=l::ls'∧Ty P t d l∧mY P ts ds' ls':=by
 cases ds with
 | nil=>cases ls<;>exact h.elim
 | cons d ds =>
  cases ls with
  | nil=>exact h.elim
  | cons l ls=>exact⟨d,l,ds,ls,rfl,rfl,h.1,h.2⟩
theorem rB {t e:TypeId}{d:DataW H}{l:List IV}(hu:P.underlying t=some (.slice e))(h:Ty P t d l) :
  ∃(tg:Tag) (ds sp:List (DataW H)) (ls:List (List IV)),(d=.slice ds sp∨d=.nil∧ds=[])∧l=[.sl tg ls]∧(tg=.nil→ls=[])∧ls.length=ds.length∧∀(i:Nat) (d:DataW H) (l:List IV),ds[i]? = some d→ls[i]? = some l→Ty P e d l:=by
 cases h with
 | bool u ht b=>rw[hu]at ht; cases ht
 | int u k ht=>rw[hu]at ht; cases ht
 | str u ht=>rw[hu]at ht; cases ht
 | nilp u e ht=>rw[hu]at ht; cases ht
 | ptr u e ht=>rw[hu]at ht; cases ht
 | nils u e ht=>exact⟨.nil,[],[],[],.inr ⟨rfl,rfl⟩,rfl,fun _=>rfl,rfl,fun i d l h=>by simp at h⟩
 | sl u e' ht ds sp ls tag htag hn hm h hl =>
  rw[hu]at ht; cases ht
  exact⟨tag,ds,sp,ls,.inl rfl,rfl,fun e=>absurd e htag,hn,h⟩
 | struct u fs ht=>rw[hu]at ht; cases ht
 | array u e n ht=>rw[hu]at ht; cases ht
theorem aY8 {t:TypeId}{d:DataW H}{l:List IV}{k:IntKind}(hu:P.underlying t=some (.int k))(h:Ty P t d l):∃n,d=.lit (.int k n)∧l=[.int k n]∧k.min≤n∧n≤k.max:=by
 cases h with
 | bool u ht b=>rw[hu]at ht; cases ht
 | int u k' ht n hw =>
  rw[hu]at ht; cases ht
  simp only[Lit.wf,Bool.and_eq_true,decide_eq_true_eq]at hw
  exact⟨n,rfl,rfl,hw⟩
 | str u ht=>rw[hu]at ht; cases ht
 | nilp u e ht=>rw[hu]at ht; cases ht
 | ptr u e ht=>rw[hu]at ht; cases ht
 | nils u e ht=>rw[hu]at ht; cases ht
 | sl u e ht=>rw[hu]at ht; cases ht
 | struct u fs ht=>rw[hu]at ht; cases ht
 | array u e n ht=>rw[hu]at ht; cases ht
theorem aY9 {t:TypeId}{d:DataW H}{l:List IV}(hu:P.underlying t=some .string)(h:Ty P t d l):∃s,d=.lit (.string s)∧l=[.str s]:=by
 cases h with
 | bool u ht b=>rw[hu]at ht; cases ht
 | int u k ht=>rw[hu]at ht; cases ht
 | str u ht s hs=>exact⟨s,rfl,rfl⟩
 | nilp u e ht=>rw[hu]at ht; cases ht
 | ptr u e ht=>rw[hu]at ht; cases ht
 | nils u e ht=>rw[hu]at ht; cases ht
 | sl u e ht=>rw[hu]at ht; cases ht
 | struct u fs ht=>rw[hu]at ht; cases ht
 | array u e n ht=>rw[hu]at ht; cases ht
open Rows in
theorem oH {d:DataW H}{ds sp:List (DataW H)}(h:d=.slice ds sp∨d=.nil∧ds=[]):uptoBulkAll ds+1≤uptoBulk d:=by
 rcases h with rfl|⟨rfl,rfl⟩
 ·simp only[uptoBulk]; omega
 ·simp only[uptoBulk,uptoBulkAll]; omega
open Rows in
theorem vA {d:DataW H}:∀ {l:List (DataW H)},d∈l→uptoBulk d≤uptoBulkAll l
 | x::r,h=>by
  simp only[uptoBulkAll]
  rcases List.mem_cons.1 h with rfl|h
  ·omega
  ·have:=vA h; omega
open Rows in
theorem tH {α:Type}{e:TypeId}{f:α→List IV}{R:α→Prop}{w:α→Nat}{ws:List α→Nat}(h0:ws []=0)(h1:∀a l,ws (a::l)=w a+ws l) :
  ∀(ls:List (List IV)) (ds:List (DataW H)),(∀d∈ds,∀l,Ty P e d l→∃a,l=f a∧w a≤uptoBulk d∧R a)→ls.length=ds.length →
  (∀(i:Nat) (d:DataW H) (l:List IV),ds[i]? = some d→ls[i]? = some l→Ty P e d l)→∃ags:List α,ls=ags.map f∧ws ags≤uptoBulkAll ds∧∀a∈ags,R a
 | [],ds,_,_,_=>⟨[],rfl,by rw[h0]; omega,by simp⟩
 | l::ls,[],_,hn,_=>by simp at hn
 | l::ls,d::ds,he,hn,h=>by
  obtain⟨a,rfl,hw,ha⟩:=he d (by simp) l (h 0 d l rfl rfl)
  obtain⟨ags,rfl,hws,has⟩:=tH h0 h1 ls ds (fun d hd=>he d (by simp[hd])) (by simpa using hn) (fun i d' l' hd hl'=>h (i+1) d' l' (by simpa using hd) (by simpa using hl'))
  refine⟨a::ags,rfl,?_,?_⟩
  ·rw[h1,uptoBulkAll]; omega
  ·intro x hx; rcases List.mem_cons.1 hx with rfl|hx; exact ha; exact has x hx
end
def nA (n:Int):Prop:=-9223372036854775808≤n∧n≤9223372036854775807
mutual
def Dt.ok:Dt→Prop
 | .mk k n t g ks p=>nA k∧nA n∧nA p∧fN g ks∧Dt.oks ks
def Dt.oks:List Dt→Prop
 | []=>True
 | d::ds=>Dt.ok d∧Dt.oks ds
end
mutual
def Ex.ok:Ex→Prop
 | .mk k n gv vs r g ks=>nA k∧nA n∧fN gv vs∧(∀v∈vs,nA v)∧fN g ks∧Ex.oks ks
def Ex.oks:List Ex→Prop
 | []=>True
 | d::ds=>Ex.ok d∧Ex.oks ds
end
theorem Dt.oks_iff:∀ {ks:List Dt},Dt.oks ks↔∀x∈ks,x.ok
 | []=>by simp[Dt.oks]
 | d::ds=>by rw[Dt.oks,Dt.oks_iff]; simp
theorem Ex.oks_iff:∀ {ks:List Ex},Ex.oks ks↔∀x∈ks,x.ok
 | []=>by simp[Ex.oks]
 | d::ds=>by rw[Ex.oks,Ex.oks_iff]; simp
theorem Dt.ok_eq (d:Dt):d.ok↔nA d.k∧nA d.n∧nA d.p∧fN d.g d.ks∧∀x∈d.ks,x.ok:=by
 cases d; rw[Dt.ok,Dt.oks_iff]; rfl
theorem Ex.ok_eq (d:Ex):d.ok↔nA d.k∧nA d.n∧fN d.gv d.vs∧(∀v∈d.vs,nA v)∧fN d.g d.ks∧∀x∈d.ks,x.ok:=by
 cases d; rw[Ex.ok,Ex.oks_iff]; rfl
def Pg.ok (p:Pg):Prop:=p.b.ok∧nA p.gl∧nA p.vr∧fN p.gc p.cs∧∀x∈p.cs,x.ok
theorem aZa {n:Int}(h:IntKind.i64.min≤n∧n≤IntKind.i64.max):nA n:=by
 obtain⟨h1,h2⟩:=h
 simp[IntKind.min,IntKind.max,IntKind.signed,IntKind.bits]at h1 h2
 unfold nA; omega
theorem yK {tg:Tag}{α β:Type}{f:α→β}{l:List α}(h:tg=.nil→l.map f=[]):fN tg l:=fun e=>by simpa using h e
section
variable {H:Type}
open Rows
theorem tyI {d:DataW H}{l:List IV}(h:Ty Tryd.prog 3 d l):∃n,l=[.int .i64 n]∧uptoBulk d=1∧nA n:=by
 obtain⟨n,rfl,rfl,hr⟩:=aY8 Tryd.underlying3 h
 exact⟨n,rfl,by simp[uptoBulk],aZa hr⟩
theorem bIe {d:DataW H}{l:List IV}(h:Ty Tryd.prog 22 d l):∃(tg:Tag) (vs:List Int),l=[.sl tg (TM.one (.int .i64) vs)]∧fN tg vs∧vs.length+1≤uptoBulk d∧∀v∈vs,nA v:=by
 obtain⟨tg,ds,sp,ls,hd,rfl,ht,hn,hl⟩:=rB Tryd.underlying22 h
 obtain⟨vs,rfl,hw,hr⟩:=tH (f:=fun n=>[.int .i64 n]) (R:=nA) (w:=fun _:Int=>1) (ws:=List.length) rfl (fun a l=>by simp; omega) ls ds (fun d hd l h=>by
  obtain⟨n,rfl,hb,hr⟩:=tyI h
  exact⟨n,rfl,by omega,hr⟩) hn hl
 have:=oH hd
 exact⟨tg,vs,rfl,yK ht,by omega,hr⟩
theorem bDc:∀(n:Nat) (d:DataW H) (l:List IV),uptoBulk d≤n→Ty Tryd.prog 51 d l→∃x:Dt,l=kC x∧x.w≤uptoBulk d∧x.ok
 | 0,d,l,hb,h=>by
  obtain⟨ds,ls,rfl,rfl,hh⟩:=lU Tryd.underlying51 h
  simp only[uptoBulk]at hb; omega
 | n+1,d,l,hb,h=>by
  obtain⟨ds,ls,rfl,rfl,hh00⟩:=lU Tryd.underlying51 h
  have hh0:mY Tryd.prog [3,3,9,26,3] ds ls:=hh00
  obtain⟨d0,l0,ds,ls,rfl,rfl,h0,hh1⟩:=cL hh0
  obtain⟨d1,l1,ds,ls,rfl,rfl,h1,hh2⟩:=cL hh1
  obtain⟨d2,l2,ds,ls,rfl,rfl,h2,hh3⟩:=cL hh2
  obtain⟨d3,l3,ds,ls,rfl,rfl,h3,hh4⟩:=cL hh3
  obtain⟨d4,l4,ds,ls,rfl,rfl,h4,hh5⟩:=cL hh4
  obtain rfl:=mI hh5
  rw[rR hh5]
  simp only[uptoBulk,uptoBulkAll]at hb
  obtain⟨k,rfl,b0,r0⟩:=tyI h0
  obtain⟨m,rfl,b1,r1⟩:=tyI h1
  obtain⟨s,rfl,rfl⟩:=aY9 Tryd.underlying9 h2
  obtain⟨tg,es,sp,ls,hd,rfl,ht,hn,hl⟩:=rB Tryd.underlying26 h3
  obtain⟨p,rfl,b4,r4⟩:=tyI h4
  have hs:=oH hd
  obtain⟨ks,rfl,hw,hr⟩:=tH (f:=kC) (R:=Dt.ok) (w:=Dt.w) (ws:=Dt.ws) (by rw[Dt.ws]) (fun a l=>by rw[Dt.ws]) ls es (fun d hd l h=>by
   have:=vA hd
   exact bDc n d l (by omega) h) hn hl
  refine⟨.mk k m s tg ks p,?_,?_,?_⟩
  ·rw[kC,nQ]; rfl
  ·rw[Dt.w]; simp only[uptoBulk,uptoBulkAll]; omega
  ·rw[Dt.ok_eq]; exact⟨r0,r1,r4,yK ht,hr⟩
theorem tyB {d:DataW H}{l:List IV}(h:Ty Tryd.prog 4 d l):∃b,l=[.bool b]:=bCt Tryd.underlying4 h
theorem bDd:∀(n:Nat) (d:DataW H) (l:List IV),uptoBulk d≤n→Ty Tryd.prog 25 d l→∃x:Ex,l=eT x∧x.w≤uptoBulk d∧x.ok
 | 0,d,l,hb,h=>by
  obtain⟨ds,ls,rfl,rfl,hh⟩:=lU Tryd.underlying25 h
  simp only[uptoBulk]at hb; omega
 | n+1,d,l,hb,h=>by
  obtain⟨ds,ls,rfl,rfl,hh00⟩:=lU Tryd.underlying25 h
  have hh0:mY Tryd.prog [3,3,22,4,23] ds ls:=hh00
  obtain⟨d0,l0,ds,ls,rfl,rfl,h0,hh1⟩:=cL hh0
  obtain⟨d1,l1,ds,ls,rfl,rfl,h1,hh2⟩:=cL hh1
  obtain⟨d2,l2,ds,ls,rfl,rfl,h2,hh3⟩:=cL hh2
  obtain⟨d3,l3,ds,ls,rfl,rfl,h3,hh4⟩:=cL hh3
  obtain⟨d4,l4,ds,ls,rfl,rfl,h4,hh5⟩:=cL hh4
  obtain rfl:=mI hh5
  rw[rR hh5]
  simp only[uptoBulk,uptoBulkAll]at hb
  obtain⟨k,rfl,b0,r0⟩:=tyI h0
  obtain⟨m,rfl,b1,r1⟩:=tyI h1
  obtain⟨tv,vs,rfl,htv,b2,r2⟩:=bIe h2
  obtain⟨r,rfl⟩:=tyB h3
  obtain⟨tg,es,sp,ls,hd,rfl,ht,hn,hl⟩:=rB Tryd.underlying23 h4
  have hs:=oH hd
  obtain⟨ks,rfl,hw,hr⟩:=tH (f:=eT) (R:=Ex.ok) (w:=Ex.w) (ws:=Ex.ws) (by rw[Ex.ws]) (fun a l=>by rw[Ex.ws]) ls es (fun d hd l h=>by
   have:=vA hd
   exact bDd n d l (by omega) h) hn hl
  refine⟨.mk k m tv vs r tg ks,?_,?_,?_⟩
  ·rw[eT,fI]; rfl
  ·rw[Ex.w]; simp only[uptoBulk,uptoBulkAll]; omega
  ·rw[Ex.ok_eq]; exact⟨r0,r1,htv,r2,yK ht,hr⟩
theorem bGu {d:DataW H}{l:List IV}(h:Ty Tryd.prog 28 d l):∃x:Pg,l=mZ x∧x.w≤uptoBulk d∧x.ok:=by
 obtain⟨ds,ls,rfl,rfl,hh00⟩:=lU Tryd.underlying28 h
 have hh0:mY Tryd.prog [25,3,3,26] ds ls:=hh00
 obtain⟨d0,l0,ds,ls,rfl,rfl,h0,hh1⟩:=cL hh0
 obtain⟨d1,l1,ds,ls,rfl,rfl,h1,hh2⟩:=cL hh1
 obtain⟨d2,l2,ds,ls,rfl,rfl,h2,hh3⟩:=cL hh2
 obtain⟨d3,l3,ds,ls,rfl,rfl,h3,hh4⟩:=cL hh3
 obtain rfl:=mI hh4
 rw[rR hh4]
 obtain⟨b,rfl,b0,r0⟩:=bDd _ _ _ (Nat.le_refl _) h0
 obtain⟨gl,rfl,b1,r1⟩:=tyI h1
 obtain⟨vr,rfl,b2,r2⟩:=tyI h2
 obtain⟨tg,es,sp,ls,hd,rfl,ht,hn,hl⟩:=rB Tryd.underlying26 h3
 have hs:=oH hd
 obtain⟨ks,rfl,hw,hr⟩:=tH (f:=kC) (R:=Dt.ok) (w:=Dt.w) (ws:=Dt.ws) (by rw[Dt.ws]) (fun a l=>by rw[Dt.ws]) ls es (fun d hd l h=>bDc _ d l (Nat.le_refl _) h) hn hl
 refine⟨⟨b,gl,vr,tg,ks⟩,?_,?_,?_⟩
 ·rw[mZ,aZ,nQ]; rfl
 ·unfold Pg.w; simp only[uptoBulk,uptoBulkAll]; omega
 ·exact⟨r0,r1,r2,yK ht,hr⟩
end
end Go.Proofs.YtageemgcnoblnaaDoor
namespace Go.Proofs.YtageemgcnoblnaaDoor
open Go Go.TM
attribute [go_sem] List.length_set
mutual
def vB (f:Ex→List Int):Ex→List Int
 | .mk k n gv vs r g ks=>f (.mk k n gv vs r g ks)++lV f ks
def lV (f:Ex→List Int):List Ex→List Int
 | []=>[]
 | d::ds=>vB f d++lV f ds
end
theorem aMf (f:Ex→List Int)(e:Ex):vB f e=f e++lV f e.ks:=by cases e; rw[vB]; rfl
structure AM (S:aA) (ib im:Nat) (B:List Int) (m:Nat):Prop where
 ne:ib≠im
 box:S[ib]? = some (.cells 87 false [.map im])
 map:∃l c,S[im]? = some (.mp (mpR kX l) c)∧nO l c∧l.length≤m∧∀v,fG l v=true↔v∈B
def bDe (f:Nat)(act:Ex→List Int):Prop:=∀(e:Ex) (S:aA) (ib im:Nat) (B:List Int) (m:Nat),e.ok→e.w≤1048576→AM S ib im B m →
 ∃S',(lim K).call f [.iv (.agg (eT e)),.ptr ib 87 0] S=.ret (u_,S')∧AM S' ib im (B++act e) (m+(act e).length)
theorem AM.put {S:aA}{ib im:Nat}{B:List Int}{m:Nat}(h:AM S ib im B m){l:List (Nat×Int×Int)}{c:Nat}(hl:S[im]? = some (.mp (mpR kX l) c))(ho:nO l c)(hm:l.length≤m)(hb:∀v,fG l v=true↔v∈B){k:Int}(hk:nA k)(a:Int) :
  AM (S.set im (.mp (mpR kX (gU l c k a)) (wH l c k))) ib im (B++[k]) (m+1):=by
 refine⟨h.ne,?_,⟨_,_,bW (bD hl) _,ho.put hk a,?_,fun v=>?_⟩⟩
 ·rw[bK (Ne.symm h.ne)]; exact h.box
 ·have:=aMb l c k a; omega
 ·rw[aYs,Bool.or_eq_true,hb v,decide_eq_true_eq]
  simp only[List.mem_append,List.mem_singleton]
  constructor
  ·rintro (rfl|h)
   ·exact .inr rfl
   ·exact .inl h
  ·rintro (h|rfl)
   ·exact .inr h
   ·exact .inl rfl
def aBs (e:Ex):List Int:=if e.k=7 then e.vs else []
theorem aSg (e:Ex)(hk:e.k=7)(hok:e.ok)(hw:e.w≤1048576)(ib im:Nat)(x0 x3:TV):∀(k i:Nat) (x3 x7 x8:TV) (S:aA) (B:List Int) (m:Nat),i+k=e.vs.length→AM S ib im B m →
  ∃y3 y7 y8 S',lp' (lim K) t41L0 [x0,.ptr ib 87 0,lbE e,x3,.iv (.sl e.gv (TM.one (.int .i64) e.vs)),.iv (.int .i64 e.vs.length),.iv (.int .i64 (i:Int)),x7,x8] S
   = .ret (.exit 0,[x0,.ptr ib 87 0,lbE e,y3,.iv (.sl e.gv (TM.one (.int .i64) e.vs)),.iv (.int .i64 e.vs.length),.iv (.int .i64 e.vs.length),y7,y8],S')∧AM S' ib im (B++e.vs.drop i) (m+(e.vs.length-i))
 | 0,i,x3,x7,x8,S,B,m,h,ha=>by
  obtain rfl:i=e.vs.length:=by omega
  refine⟨?_,?_,?_,S,aN K _ _ t41L0.eq_1 ?_,by rw[List.drop_length,List.append_nil,Nat.sub_self]; exact ha⟩
  rotate_left 3
  ·simp (config := { maxSteps := 4000000 }) (disch:=omega) only[go_sem]
   rfl
 | k+1,i,x3,x7,x8,S,B,m,h,ha=>by
  have hwe:=Ex.w_eq e
  have hla:i<e.vs.length:=by omega
  have hix:=aBf (f:=IV.int .i64) (t:=e.gv) (l:=e.vs) (i:=(i:Int)) (by omega)
  rw[Int.toNat_natCast]at hix
  have hdr:=kD hla
  have hri:nA (e.vs.getD i default):=((Ex.ok_eq e).1 hok).2.2.2.1 _ (oG hla)
  obtain⟨l,c,hl,ho,hm,hb⟩:=ha.map
  have hbox:=ha.box
  obtain⟨y3,y7,y8,S',ih,ha'⟩:=aSg e hk hok hw ib im x0 x3 k (i+1) (.iv (.int .i64 (e.vs.getD i default))) (.iv (.bool true)) (.iv (.bool true)) _ _ _ (by omega) (ha.put hl ho hm hb hri 0)
  rw[show ((i+1:Nat):Int)=(i:Int)+1 by omega]at ih
  refine⟨y3,y7,y8,S',aN K _ _ t41L0.eq_1 ?_,?_⟩
  ·simp (config := { maxSteps := 4000000 }) (disch:=omega) only[go_sem,hix,hk,hbox,hl,aF]at ih ⊢
   exact congrArg er ih
  ·rw[hdr]
   rw[List.append_assoc]at ha'
   rw[show m+(e.vs.length-i)=m+1+(e.vs.length-(i+1)) by omega]
   exact ha'
theorem aMg (e:Ex)(hk:¬e.k=7)(hw:e.w≤1048576)(x0 x1:TV)(S:aA):∀(k i:Nat) (x3 x7 x8:TV),i+k=e.vs.length →
  ∃y3 y7 y8,lp' (lim K) t41L0 [x0,x1,lbE e,x3,.iv (.sl e.gv (TM.one (.int .i64) e.vs)),.iv (.int .i64 e.vs.length),.iv (.int .i64 (i:Int)),x7,x8] S
   = .ret (.exit 0,[x0,x1,lbE e,y3,.iv (.sl e.gv (TM.one (.int .i64) e.vs)),.iv (.int .i64 e.vs.length),.iv (.int .i64 e.vs.length),y7,y8],S)
 | 0,i,x3,x7,x8,h=>by
  obtain rfl:i=e.vs.length:=by omega
  refine⟨?_,?_,?_,aN K _ _ t41L0.eq_1 ?_⟩
  rotate_left 3
  ·simp (config := { maxSteps := 4000000 }) (disch:=omega) only[go_sem]
   rfl
 | k+1,i,x3,x7,x8,h=>by
  have hwe:=Ex.w_eq e
  have hla:i<e.vs.length:=by omega
  have hix:=aBf (f:=IV.int .i64) (t:=e.gv) (l:=e.vs) (i:=(i:Int)) (by omega)
  rw[Int.toNat_natCast]at hix
  obtain⟨y3,y7,y8,ih⟩:=aMg e hk hw x0 x1 S k (i+1) (.iv (.int .i64 (e.vs.getD i default))) (.iv (.bool true)) (.iv (.bool false)) (by omega)
  rw[show ((i+1:Nat):Int)=(i:Int)+1 by omega]at ih
  refine⟨y3,y7,y8,aN K _ _ t41L0.eq_1 ?_⟩
  simp (config := { maxSteps := 4000000 }) (disch:=omega) only[go_sem,hix,hk,aF]at ih ⊢
  exact congrArg er ih
theorem bGv:bDe 41 aBs:=by
 intro e S ib im B m hok hw h
 have hwe:=Ex.w_eq e
 unfold aBs
 by_cases hk:e.k=7
 ·obtain⟨y3,y7,y8,S',ih,ha⟩:=aSg e hk hok hw ib im (.iv (.agg (eT e))) u_ e.vs.length 0 u_ u_ u_ S B m (by omega) h
  rw[show ((0:Nat):Int)=0 from rfl]at ih
  rw[List.drop_zero,Nat.sub_zero]at ha
  refine⟨S',aB K _ (fn:=t41) rfl rfl ?_,by rw[if_pos hk]; exact ha⟩
  rw[aZ]at ih ⊢
  simp (config := { maxSteps := 4000000 }) (disch:=omega) only[t41,go_sem]
  rw[ih]
  simp (config := { maxSteps := 4000000 }) (disch:=omega) only[go_sem]
 ·obtain⟨y3,y7,y8,ih⟩:=aMg e hk hw (.iv (.agg (eT e))) (.ptr ib 87 0) S e.vs.length 0 u_ u_ u_ (by omega)
  rw[show ((0:Nat):Int)=0 from rfl]at ih
  refine⟨S,aB K _ (fn:=t41) rfl rfl ?_,by rw[if_neg hk,List.append_nil]; exact h⟩
  rw[aZ]at ih ⊢
  simp (config := { maxSteps := 4000000 }) (disch:=omega) only[t41,go_sem]
  rw[ih]
  simp (config := { maxSteps := 4000000 }) (disch:=omega) only[go_sem]
theorem aSh {N:Nat}(f:Nat)(act:Ex→List Int)(ih:∀(e:Ex) (S:aA) (ib im:Nat) (B:List Int) (m:Nat),e.ok→e.w≤N→AM S ib im B m→∃S',(lim K).call 40 [.iv (.agg (eT e)),.fn f [] [.ptr ib 87 0]] S=.ret (u_,S')∧AM S' ib im (B++vB act e) (m+(vB act e).length))
  (e:Ex) (hok:e.ok) (hw:e.w≤N+1) (hN:N≤1048576) (ib im:Nat) (x0 x2:TV):∀(k i:Nat) (x3 x7:TV) (S:aA) (B:List Int) (m:Nat),i+k=e.ks.length→AM S ib im B m →
  ∃y3 y7 S',lp' (lim K) t40L0 [x0,.fn f [] [.ptr ib 87 0],x2,x3,.iv (.sl e.g (bS e.ks)),.iv (.int .i64 e.ks.length),.iv (.int .i64 (i:Int)),x7] S
   = .ret (.exit 0,[x0,.fn f [] [.ptr ib 87 0],x2,y3,.iv (.sl e.g (bS e.ks)),.iv (.int .i64 e.ks.length),.iv (.int .i64 e.ks.length),y7],S')∧AM S' ib im (B++lV act (e.ks.drop i)) (m+(lV act (e.ks.drop i)).length)
 | 0,i,x3,x7,S,B,m,h,ha=>by
  obtain rfl:i=e.ks.length:=by omega
  refine⟨?_,?_,S,aN K _ _ t40L0.eq_1 ?_,by rw[List.drop_length,lV,List.append_nil]; exact ha⟩
  rotate_left 2
  ·simp (config := { maxSteps := 4000000 }) (disch:=omega) only[go_sem]
   rfl
 | k+1,i,x3,x7,S,B,m,h,ha=>by
  have hla:i<e.ks.length:=by omega
  have hwe:=Ex.w_eq e
  have hwl:=Ex.ws_len e.ks
  have hix:=ixE (g:=e.g) (ks:=e.ks) (i:=(i:Int)) (by omega)
  rw[Int.toNat_natCast]at hix
  have hdr:=kD hla
  have hki:(e.ks.getD i default).ok:=((Ex.ok_eq e).1 hok).2.2.2.2.2 _ (oG hla)
  have hkw:=Ex.kid_lt (d:=e) (oG hla)
  generalize hx:e.ks.getD i default=x at *
  obtain⟨S1,hc,ha1⟩:=ih x S ib im B m hki (by omega) ha
  obtain⟨y3,y7,S',ih2,ha'⟩:=aSh f act ih e hok hw hN ib im x0 x2 k (i+1) (lbE x) (.iv (.bool true)) S1 _ _ (by omega) ha1
  rw[show ((i+1:Nat):Int)=(i:Int)+1 by omega]at ih2
  refine⟨y3,y7,S',aN K _ _ t40L0.eq_1 ?_,?_⟩
  ·rw[aZ]at hc
   simp (config := { maxSteps := 4000000 }) (disch:=omega) only[go_sem,hix,wL,hc,aF]
   exact congrArg er ih2
  ·rw[hdr,lV,List.length_append]
   rw[List.append_assoc]at ha'
   rw[show m+((vB act x).length+(lV act (List.drop (i+1) e.ks)).length)=m+(vB act x).length+(lV act (List.drop (i+1) e.ks)).length by omega]
   exact ha'
theorem aSi (f:Nat)(act:Ex→List Int)(hact:bDe f act):∀(N:Nat),N≤1048576→∀(e:Ex) (S:aA) (ib im:Nat) (B:List Int) (m:Nat),e.ok→e.w≤N→AM S ib im B m →
  ∃S',(lim K).call 40 [.iv (.agg (eT e)),.fn f [] [.ptr ib 87 0]] S=.ret (u_,S')∧AM S' ib im (B++vB act e) (m+(vB act e).length)
 | 0,hN,e,S,ib,im,B,m,hok,hw,ha=>by have:=Ex.w_eq e; omega
 | N+1,hN,e,S,ib,im,B,m,hok,hw,ha=>by
  obtain⟨S1,hc,ha1⟩:=hact e S ib im B m hok (by omega) ha
  obtain⟨y3,y7,S',ih,ha'⟩:=aSh (N:=N) f act (aSi f act hact N (by omega)) e hok hw (by omega) ib im (.iv (.agg (eT e))) (lbE e) e.ks.length 0 u_ u_ S1 _ _ (by omega) ha1
  rw[show ((0:Nat):Int)=0 from rfl]at ih
  rw[List.drop_zero]at ha'
  refine⟨S',aB K _ (fn:=t40) rfl rfl ?_,?_⟩
  ·rw[aZ]at hc ih ⊢
   simp (config := { maxSteps := 4000000 }) (disch:=omega) only[t40,go_sem,hc,aL]
   rw[ih]
   simp (config := { maxSteps := 4000000 }) (disch:=omega) only[go_sem]
  ·rw[aMf,List.length_append,←List.append_assoc,←Nat.add_assoc]
   exact ha'
theorem aZb:K.prim 42=some jF:=rfl
theorem aSj (S:aA)(j:Nat):prV S (some jF) [.map j]=jF [.map j] S:=id rfl
theorem aFt (act:Ex→List Int)(h:∀e,(act e).length+Ex.ws e.ks≤e.w):∀(N:Nat) (e:Ex),e.w≤N→(vB act e).length≤e.w
 | 0,e,hw=>by have:=Ex.w_eq e; omega
 | N+1,e,hw=>by
  have key:∀l:List Ex,(∀x∈l,x.w≤N)→(lV act l).length≤Ex.ws l:=by
   intro l
   induction l with
   | nil=>intro _; rw[lV]; simp
   | cons a r ih =>
    intro hl
    rw[lV,Ex.ws,List.length_append]
    have:=aFt act h N a (hl a (by simp))
    have:=ih (fun x hx=>hl x (by simp[hx]))
    omega
  have:=key e.ks (fun x hx=>by have:=Ex.kid_lt hx; omega)
  have:=h e
  rw[aMf,List.length_append]
  omega
theorem aSk (e:Ex):(aBs e).length+Ex.ws e.ks≤e.w:=by
 have:=Ex.w_eq e
 unfold aBs; split<;>simp<;>omega
structure aSl (l B:List Int):Prop where
 inc:l.Pairwise (·<·)
 mem:∀v,v∈l↔v∈B
theorem aOa {l:List (Nat×Int×Int)}{c:Nat}{B:List Int}(ho:nO l c)(hb:∀v,fG l v=true↔v∈B):aSl (fO (l.map (·.2.1))) B:=by
  have hn:(fO (l.map (·.2.1))).Nodup:=((iK _).nodup_iff).2 ho.keys
  have hp:=tE (l.map (·.2.1))
  refine⟨?_,fun v=>?_⟩
  · have h2:=List.Pairwise.and hp hn
    exact h2.imp (fun ⟨h3, h4⟩ => by have : ∀ a b : Int, a ≤ b → a ≠ b → a < b := fun a b h1 h2 => by omega
                                     exact this _ _ h3 h4)
  · rw[(iK _).mem_iff,←aBq]; exact hb v
theorem bDw (e:Ex)(hok:e.ok)(hw:e.w≤1048576):∃l,Pure K 17 [.iv (.agg (eT e))] (.iv (.sl (tD l) (TM.one (.int .i64) l)))∧aSl l (vB aBs e)∧l.length≤1048576:=by
 have ha:AM [.mp (mpR kX []) 0,.cells 87 false [.map 0]] 1 0 [] 0:=⟨by decide,rfl,[],0,rfl,.nil _,by simp,fun v=>by simp[fG,gT]⟩
 obtain⟨S',hc,ha'⟩:=aSi 41 aBs bGv 1048576 (by omega) e _ 1 0 [] 0 hok hw ha
 rw[List.nil_append,Nat.zero_add]at ha'
 obtain⟨l,c,hl,ho,hm,hb⟩:=ha'.map
 have hbox:=ha'.box
 have hlen:=aFt aBs aSk _ e (Nat.le_refl _)
 have hp:=aFr hl ho (by omega)
 refine⟨fO (l.map (·.2.1)),?_,aOa ho hb,by rw[(iK _).length_eq,List.length_map]; omega⟩
 refine cJ (S:=S') (r:=.iv (.sl (tD (fO (l.map (·.2.1)))) (TM.one (.int .i64) (fO (l.map (·.2.1)))))) (aB K _ (fn:=t17) rfl rfl ?_) (by rw[bQ])
 rw[aN5]at hc
 rw[aZ]at hc ⊢
 simp (config := { maxSteps := 4000000 }) (disch:=omega) only[t17,go_sem,hc,hbox,aZb,aSj,hp]
structure Mk where
 fs:List (List IV)
 nv:Int
def cZ (l:List (List IV)):List TV:=(TM.bO l).map .iv
def mkB (jf:Nat)(σ:Mk):aM:=.cells 64 false [.msl jf (σ.fs.length-1) 0 σ.fs.length σ.fs.length 11,.iv (.int .i64 σ.nv)]
structure MkS (S:aA) (jm jf:Nat) (σ:Mk):Prop where
 own:S[jm]? = some (mkB jf σ)
 row:S[jf]? = some (.cells (σ.fs.length-1) true (cZ σ.fs))
 ne:σ.fs≠[]
 wid:∀f∈σ.fs,f.length=11∧f.all hG=true
 ok:0≤σ.nv∧σ.nv≤4611686018427387904∧σ.fs.length≤1000000
theorem MkS.jne {S:aA}{jm jf:Nat}{σ:Mk}(h:MkS S jm jf σ):jm≠jf:=by
 rintro rfl
 have a:=h.own
 rw[h.row]at a
 unfold mkB at a
 simp at a
theorem MkS.keep {S S':aA}{jm jf:Nat}{σ:Mk}{I:List Nat}(h:MkS S jm jf σ)(k:bC I S S')(h1:jm∉I)(h2:jf∉I):MkS S' jm jf σ :=
 ⟨k.get _ _ h1 h.own,k.get _ _ h2 h.row,h.ne,h.wid,h.ok⟩
def Mk.var (σ:Mk):Mk:=⟨σ.fs,σ.nv+1⟩
def Mk.push (σ:Mk)(f:List IV):Mk:=⟨σ.fs++[f],σ.nv⟩
theorem pO {S:aA}{jm jf:Nat}{σ:Mk}(h:MkS S jm jf σ):(lim K).call 21 [.ptr jm 64 0] S=.ret (.iv (.int .i64 σ.nv),S.set jm (mkB jf σ.var)):=by
 have h1:=h.own
 have h2:=bD h1
 have h3:=h.ok
 have e1:=fun b=>bW h2 b
 unfold mkB Mk.var at *
 generalize σ.fs.length=n at *
 refine aB K _ (fn:=t21) rfl rfl ?_
 simp (config := { maxSteps := 4000000 }) (disch:=omega) only[t21,go_sem,h1,e1,aF,Int.add_sub_cancel]
theorem MkS.var {S:aA}{jm jf:Nat}{σ:Mk}(h:MkS S jm jf σ)(hv:σ.nv<4611686018427387904):MkS (S.set jm (mkB jf σ.var)) jm jf σ.var :=
 ⟨bW (bD h.own) _,by rw[bK h.jne]; exact h.row,h.ne,h.wid,by have:=h.ok; show 0≤σ.nv+1∧σ.nv+1≤_∧σ.fs.length≤_; omega⟩
theorem aFu {l:List (List IV)}(h:∀f∈l,f.length=11):(cZ l).length=l.length*11:=by
 unfold cZ
 rw[List.length_map]
 induction l with
 | nil=>rfl
 | cons a r ih =>
  rw[show TM.bO (a::r)=a++TM.bO r from rfl,List.length_append,h a (by simp),ih (fun f hf=>h f (by simp[hf])),List.length_cons]
  omega
theorem aFv (l:List (List IV))(f:List IV):cZ (l++[f])=cZ l++f.map .iv:=by
 unfold cZ
 induction l with
 | nil=>simp[TM.bO]
 | cons a r ih =>
  rw[List.cons_append,show TM.bO (a::(r++[f]))=a++TM.bO (r++[f]) from rfl,show TM.bO (a::r)=a++TM.bO r from rfl,List.map_append,ih,List.map_append,List.append_assoc]
theorem bDx {S:aA}{jm jf:Nat}{σ:Mk}(h:MkS S jm jf σ){f:List IV}(hf:f.length=11)(hc:f.all hG=true) :
  bR true 11 144 47 S (.msl jf (σ.fs.length-1) 0 σ.fs.length σ.fs.length 11) (.iv (.sl .full [f]))=some (.msl jf σ.fs.length 0 (σ.fs.length+1) (σ.fs.length+1) 11,S.set jf (.cells σ.fs.length true (cZ (σ.fs++[f])))):=by
 have hr:=h.row
 have hn:0<σ.fs.length:=List.length_pos_iff.2 h.ne
 have hs:sub (cZ σ.fs) 0 (σ.fs.length*11)=some (cZ σ.fs):=aN9 (aFu fun f hf=>(h.wid f hf).1)
 have hro:fR (σ.fs.length+1) 144=true:=fA (by have:=h.ok; omega)
 have hx:jV S (.iv (.sl .full [f]))=some (f.map .iv):=by
  show some ((TM.bO [f]).map TV.iv)=_
  rw[show TM.bO [f]=f from List.append_nil f]
 have hl:lenOf S (.iv (.sl .full [f]))=some 1:=rfl
 have ha:=uX hc
 rw[aFv]
 generalize cZ σ.fs=cs at *
 generalize σ.fs.length=n at *
 simp[bR,hx,hl,hr,ha,hf,hs,hro,show ¬n+1≤n by omega,show n-1+1=n by omega]
theorem vC {S:aA}{jm jf:Nat}{σ:Mk}(h:MkS S jm jf σ)(f0 f1 f2 f3 f4 f5 f6 f7 f8 f9 f10:IV)(hf:[f0,f1,f2,f3,f4,f5,f6,f7,f8,f9,f10].all hG=true):(lim K).call 20 [.ptr jm 64 0,.iv (.agg [f0,f1,f2,f3,f4,f5,f6,f7,f8,f9,f10])] S=.ret (.iv (.int .i64 σ.fs.length),(S.set jf (.cells σ.fs.length true (cZ (σ.fs++[[f0,f1,f2,f3,f4,f5,f6,f7,f8,f9,f10]])))).set jm (mkB jf (σ.push [f0,f1,f2,f3,f4,f5,f6,f7,f8,f9,f10]))):=by
 have ap:=bDx h (f:=[f0,f1,f2,f3,f4,f5,f6,f7,f8,f9,f10]) rfl hf
 have h1:=h.own
 have hne:=h.jne
 have h2:=bD h1
 have h3:=h.ok
 have g1:∀b,(S.set jf b)[jm]? = S[jm]? := fun b=>bK (Ne.symm hne) b
 have g2:∀b c,((S.set jf b).set jm c)[jm]? = some c:=fun b c=>bW (by simpa using h2) c
 have hl:(σ.push [f0,f1,f2,f3,f4,f5,f6,f7,f8,f9,f10]).fs.length=σ.fs.length+1:=by simp[Mk.push]
 unfold mkB at *
 rw[hl,Nat.add_sub_cancel,show (σ.push [f0,f1,f2,f3,f4,f5,f6,f7,f8,f9,f10]).nv=σ.nv from rfl]
 generalize σ.fs.length=n at *
 have e1:((n+1:Nat):Int)-1=n:=by omega
 have hr:=uX hf
 simp only[List.map_cons,List.map_nil,List.any_cons,List.any_nil,Bool.or_eq_false_iff]at hr
 obtain⟨r0,r1,r2,r3,r4,r5,r6,r7,r8,r9,r10,_⟩:=hr
 refine aB K _ (fn:=t20) rfl rfl ?_
 simp (config := { maxSteps := 4000000 }) (disch:=omega) only[t20,go_sem,h1,ap,g1,g2,aF,e1,r0,r1,r2,r3,r4,r5,r6,r7,r8,r9,r10,Bool.or_self,Bool.false_eq_true]
theorem MkS.push {S:aA}{jm jf:Nat}{σ:Mk}(h:MkS S jm jf σ){f:List IV}(hf:f.length=11)(hc:f.all hG=true)(hn:σ.fs.length<1000000):MkS ((S.set jf (.cells σ.fs.length true (cZ (σ.fs++[f])))).set jm (mkB jf (σ.push f))) jm jf (σ.push f):=by
 have hl:(σ.push f).fs.length-1=σ.fs.length:=by simp[Mk.push]
 refine⟨bW (by simpa using bD h.own) _,?_,by simp[Mk.push],fun g hg=>?_,?_⟩
 ·rw[bK h.jne,hl,bW (bD h.row)]
  rfl
 ·rcases List.mem_append.1 hg with hg|hg
  ·exact h.wid g hg
  ·rw[List.mem_singleton]at hg; subst hg; exact⟨hf,hc⟩
 ·have:=h.ok
  show 0≤σ.nv∧σ.nv≤_∧(σ.fs++[f]).length≤_
  rw[List.length_append,List.length_singleton]; omega
theorem hO {S:aA}{jm jf:Nat}(b:aM):bC [jm,jf] S (S.set jm b):=bC.set S (by simp) b
theorem rC {S:aA}{jm jf:Nat}(b c:aM):bC [jm,jf] S ((S.set jf b).set jm c):=(bC.set S (by simp) b).trans (bC.set _ (by simp) c)
theorem kY (v:Int):TM.Pure K 25 [.iv (.int .i64 v)] (.iv (.agg [.int .i64 1,.int .i64 v])):=by
 refine gR t25 rfl rfl ?_
 simp (config := { maxSteps := 4000000 }) (disch:=omega) only[t25,go_sem]
def mO (v f:Int):List IV:=[.int .i64 0,.int .i64 2,.int .i64 v,.int .i64 0,.int .i64 0,.int .i64 f,.sl .nil [],.sl .nil [],.int .i64 0,.int .i64 0,.sl .nil [],.bool false,.sl .nil [],.int .i64 v]
theorem aDu {S:aA}{jm jf:Nat}{σ:Mk}(h:MkS S jm jf σ)(f:Int):(lim K).call 22 [.ptr jm 64 0,.iv (.int .i64 f)] S=.ret (.tup [.iv (.agg (mO σ.nv f)),.iv (.int .i64 σ.nv)],S.set jm (mkB jf σ.var)):=by
 have c21:=pO h
 unfold mO
 refine aB K _ (fn:=t22) rfl rfl ?_
 simp (config := { maxSteps := 4000000 }) (disch:=omega) only[t22,go_sem,c21]
inductive St where
 | tm (t:List IV) (to:Int)
 | rs (e:Ex) (to:Int)
def zT:List IV:=[.int .i64 0,.int .i64 0,.int .i64 0,.int .i64 0,.int .i64 0,.sl .nil [],.sl .nil []]
def encZ:St→List IV
 | .tm t to=>.int .i64 0::(t++[.int .i64 0,.int .i64 0,.sl .nil [],.bool false,.sl .nil [],.int .i64 to])
 | .rs e to=>.int .i64 1::(zT++(eT e++[.int .i64 to]))
def aV (v:Int):List IV:=[.int .i64 1,.int .i64 v]
def aC (n:Int):List IV:=[.int .i64 2,.int .i64 n]
def fP (v f:Int)(ks:IV):List IV:=[.int .i64 2,.int .i64 v,.int .i64 0,.int .i64 0,.int .i64 f,.sl .nil [],ks]
def wM (v op n:Int)(ats:List (List IV)):List IV:=[.int .i64 1,.int .i64 v,.int .i64 op,.int .i64 n,.int .i64 0,.sl (tD ats) ats,.sl .nil []]
def jH (t:Tag)(ats:List (List IV)):List IV:=[.int .i64 4,.int .i64 0,.int .i64 0,.int .i64 0,.int .i64 0,.sl t ats,.sl .nil []]
def lW (ats:List (List IV)):List IV:=[.int .i64 6,.int .i64 0,.int .i64 0,.int .i64 0,.int .i64 0,.sl .full ats,.sl .nil []]
def ifT (a t1 t2:List IV):List IV:=[.int .i64 3,.int .i64 0,.int .i64 0,.int .i64 0,.int .i64 0,.sl .full [a],.sl .full [t1,t2]]
def fnF (tg:Tag)(ps:List Int)(rest cont:Bool)(body:List IV):List IV:=.sl tg (TM.one (.int .i64) ps)::.bool rest::.bool cont::.sl .nil []::body
def vD (vs:List Int):Tag:=match vs with
 | []=>.full
 | _=>.no
def opX (e:Ex):Int:=if e.k=12 then 100 else if e.k=13 then 101 else if e.k=14 then 102 else if e.k=3 then 103 else if e.k=5 then 104 else e.n
def opN (e:Ex):Int:=if e.k=12 then 0 else if e.k=13 then 0 else if e.k=14 then 0 else if e.k=3∨e.k=5 then e.n else 0
mutual
def eG:Nat→Ex→Mk→Option (List St×List IV×Mk)
 | 0,_,_=>none
 | n+1,e,σ =>
  if e.k=1 then some ([],aC e.n,σ)
  else if e.k=2 then some ([],aV e.n,σ)
  else if e.k=7 then (eQ n e σ).bind fun x=>some ([.tm (fP x.2.nv x.1 (.sl .nil [])) x.2.nv],aV x.2.nv,x.2.var)
  else if e.k=10∧e.ks.length≤64 then (bP n e.ks σ).bind fun x=>(x.2.1.getLast?).bind fun a=>some (x.1,a,x.2.2)
  else if e.k=10∨e.k=8∨e.k=6∨e.k=11 then some ([.rs e σ.nv],aV σ.nv,σ.var)
  else (bP n e.ks σ).bind fun x=>some (x.1++[.tm (wM x.2.2.nv (opX e) (opN e) x.2.1) x.2.2.nv],aV x.2.2.nv,x.2.2.var)
def bP:Nat→List Ex→Mk→Option (List St×List (List IV)×Mk)
 | 0,_,_=>none
 | n+1,[],σ=>some ([],[],σ)
 | n+1,e::l,σ=>(eG n e σ).bind fun x=>(bP n l x.2.2).bind fun y=>some (x.1++y.1,x.2.1::y.2.1,y.2.2)
def eQ:Nat→Ex→Mk→Option (Int×Mk)
 | 0,_,_=>none
 | n+1,e,σ=>match e.ks with
  | []=>none
  | b::_=>(eS n b (aV σ.nv) σ.var).bind fun x=>some ((x.2.fs.length:Int),x.2.push (fnF (vD e.vs) (σ.nv::e.vs) e.r false x.1))
def cC:Nat→List St→List IV→Mk→Option (List IV×Mk)
 | 0,_,_,_=>none
 | n+1,[],t,σ=>some (t,σ)
 | n+1,.tm c _::l,t,σ=>cC n l (c.set 6 (.sl .full [t])) σ
 | n+1,.rs e to::l,t,σ=>(eS n e (aV σ.nv) (σ.push (fnF .full [to] false true t)).var).bind fun x=>cC n l (fP σ.nv σ.fs.length (.sl .full [x.1])) x.2
def eS:Nat→Ex→List IV→Mk→Option (List IV×Mk)
 | 0,_,_,_=>none
 | n+1,e,k,σ =>
  if e.k=8 then (bP n e.ks σ).bind fun x=>match x.2.1 with
   | []=>none
   | a::r=>cC n x.1.reverse (jH .no (a::k::r)) x.2.2
  else if e.k=6 then match e.ks with
   | c::p::q::_=>(eG n c σ).bind fun x=>(eS n p k x.2.2).bind fun y=>(eS n q k y.2).bind fun z=>cC n x.1.reverse (ifT x.2.1 y.1 z.1) z.2
   | _=>none
  else if e.k=10 then nC n e.ks k σ
  else if e.k=11 then nB n e k σ
  else (eG n e σ).bind fun x=>cC n x.1.reverse (jH .full [k,x.2.1]) x.2.2
def nB:Nat→Ex→List IV→Mk→Option (List IV×Mk)
 | 0,_,_,_=>none
 | n+1,e,k,σ=>(bP n e.ks σ).bind fun x =>
  if e.n=1 then match x.2.1 with
   | a::b::_=>cC n x.1.reverse (lW [a,k,b]) x.2.2
   | _=>none
  else if e.n=0 then match x.2.1 with
   | a::_=>cC n (x.1++[St.tm (fP (x.2.2.nv+2) x.2.2.fs.length (.sl .nil [])) (x.2.2.nv+2)]).reverse (jH .full [a,k,aV (x.2.2.nv+2)]) (x.2.2.var.var.push (fnF .full [x.2.2.nv,x.2.2.nv+1] true false (lW [k,aV (x.2.2.nv+1)]))).var
   | _=>none
  else match x.2.1 with
   | a::b::_=>cC n (x.1++[St.tm (fP (x.2.2.nv+1) x.2.2.fs.length (.sl .nil [])) (x.2.2.nv+1)]).reverse (jH .full [a,aV (x.2.2.nv+1)]) (x.2.2.var.push (fnF .full [x.2.2.nv] true true (lW [b,k,aV x.2.2.nv]))).var
   | _=>none
def nC:Nat→List Ex→List IV→Mk→Option (List IV×Mk)
 | 0,_,_,_=>none
 | n+1,l,k,σ=>match l.getLast? with
  | none=>none
  | some z=>(bP n ((l.take (l.length-1)).drop (64*((l.length-1) / 64))) σ).bind fun x=>(eS n z k x.2.2).bind fun y=>(cC n x.1.reverse y.1 y.2).bind fun w=>dA n ((l.length-1) / 64) l w.1 w.2
def dA:Nat→Nat→List Ex→List IV→Mk→Option (List IV×Mk)
 | 0,_,_,_,_=>none
 | n+1,0,_,t,σ=>some (t,σ)
 | n+1,i+1,l,t,σ=>(bP n ((l.drop (64*i)).take 64) (σ.var.push (fnF .full [σ.nv] true true t)).var).bind fun x =>
  (cC n (St.tm (fP (σ.nv+1) σ.fs.length (.sl .nil [])) (σ.nv+1)::x.1).reverse (jH .full [aV (σ.nv+1)]) x.2.2).bind fun w=>dA n i l w.1 w.2
end
structure Le (σ τ:Mk):Prop where
 nv:σ.nv≤τ.nv
 fs:∃r,τ.fs=σ.fs++r
theorem Le.refl (σ:Mk):Le σ σ:=⟨Int.le_refl _,[],by simp⟩
theorem Le.trans {a b c:Mk}(h:Le a b)(g:Le b c):Le a c:=by
 obtain⟨r,hr⟩:=h.fs
 obtain⟨s,hs⟩:=g.fs
 exact⟨Int.le_trans h.nv g.nv,r++s,by rw[hs,hr,List.append_assoc]⟩
theorem Le.var (σ:Mk):Le σ σ.var:=⟨by show σ.nv≤σ.nv+1; omega,[],by simp[Mk.var]⟩
theorem Le.push (σ:Mk)(f:List IV):Le σ (σ.push f):=⟨Int.le_refl _,[f],rfl⟩
theorem Le.len {σ τ:Mk}(h:Le σ τ):σ.fs.length≤τ.fs.length:=by
 obtain⟨r,hr⟩:=h.fs
 rw[hr,List.length_append]; omega
structure bIf (n:Nat):Prop where
 value:∀ {e σ x},eG n e σ=some x→Le σ x.2.2
 values:∀ {l σ x},bP n l σ=some x→Le σ x.2.2
 lam:∀ {e σ x},eQ n e σ=some x→Le σ x.2
 laid:∀ {l t σ x},cC n l t σ=some x→Le σ x.2
 code:∀ {e k σ x},eS n e k σ=some x→Le σ x.2
 ctl:∀ {e k σ x},nB n e k σ=some x→Le σ x.2
 sq:∀ {l k σ x},nC n l k σ=some x→Le σ x.2
 parts:∀ {i l t σ x},dA n i l t σ=some x→Le σ x.2
theorem mono:∀n,bIf n
 | 0=>⟨fun h=>by simp[eG]at h,fun h=>by simp[bP]at h,fun h=>by simp[eQ]at h,fun h=>by simp[cC]at h,fun h=>by simp[eS]at h,fun h=>by simp[nB]at h,fun h=>by simp[nC]at h,fun h=>by simp[dA]at h⟩
 | n+1=>by
  have m:=mono n
  refine⟨?_,?_,?_,?_,?_,?_,?_,?_⟩
  ·intro e σ x h
   rw[eG]at h
   split at h
   ·cases h; exact Le.refl _
   ·split at h
    ·cases h; exact Le.refl _
    ·split at h
     ·obtain⟨y,hy,h⟩:=Option.bind_eq_some_iff.1 h
      cases h; exact (m.lam hy).trans (Le.var _)
     ·split at h
      ·obtain⟨y,hy,h⟩:=Option.bind_eq_some_iff.1 h
       obtain⟨a,ha,h⟩:=Option.bind_eq_some_iff.1 h
       cases h; exact m.values hy
      ·split at h
       ·cases h; exact Le.var _
       ·obtain⟨y,hy,h⟩:=Option.bind_eq_some_iff.1 h
        cases h; exact (m.values hy).trans (Le.var _)
  ·intro l σ x h
   cases l with
   | nil=>rw[bP]at h; cases h; exact Le.refl _
   | cons e l =>
    rw[bP]at h
    obtain⟨y,hy,h⟩:=Option.bind_eq_some_iff.1 h
    obtain⟨z,hz,h⟩:=Option.bind_eq_some_iff.1 h
    cases h; exact (m.value hy).trans (m.values (x:=z) hz)
  ·intro e σ x h
   rw[eQ]at h
   split at h
   ·cases h
   ·obtain⟨y,hy,h⟩:=Option.bind_eq_some_iff.1 h
    cases h; exact ((Le.var _).trans (m.code hy)).trans (Le.push _ _)
  ·intro l t σ x h
   cases l with
   | nil=>rw[cC]at h; cases h; exact Le.refl _
   | cons s l =>
    cases s with
    | tm c to=>rw[cC]at h; exact m.laid h
    | rs e to =>
     rw[cC]at h
     obtain⟨y,hy,h⟩:=Option.bind_eq_some_iff.1 h
     exact (((Le.push _ _).trans (Le.var _)).trans (m.code hy)).trans (m.laid h)
  ·intro e k σ x h
   rw[eS]at h
   split at h
   ·obtain⟨y,hy,h⟩:=Option.bind_eq_some_iff.1 h
    split at h
    ·cases h
    ·exact (m.values hy).trans (m.laid h)
   ·split at h
    ·split at h
     ·obtain⟨y,hy,h⟩:=Option.bind_eq_some_iff.1 h
      obtain⟨z,hz,h⟩:=Option.bind_eq_some_iff.1 h
      obtain⟨w,hw,h⟩:=Option.bind_eq_some_iff.1 h
      exact (((m.value hy).trans (m.code hz)).trans (m.code hw)).trans (m.laid h)
     ·cases h
    ·split at h
     ·exact m.sq h
     ·split at h
      ·exact m.ctl h
      ·obtain⟨y,hy,h⟩:=Option.bind_eq_some_iff.1 h
       exact (m.value hy).trans (m.laid h)
  ·intro e k σ x h
   rw[nB]at h
   obtain⟨y,hy,h⟩:=Option.bind_eq_some_iff.1 h
   split at h
   ·split at h
    ·exact (m.values hy).trans (m.laid h)
    ·cases h
   ·split at h
    ·split at h
     ·exact (m.values hy).trans (((Le.var _).trans ((Le.var _).trans ((Le.push _ _).trans (Le.var _)))).trans (m.laid h))
     ·cases h
    ·split at h
     ·exact (m.values hy).trans (((Le.var _).trans ((Le.push _ _).trans (Le.var _))).trans (m.laid h))
     ·cases h
  ·intro l k σ x h
   rw[nC]at h
   split at h
   ·cases h
   ·obtain⟨y,hy,h⟩:=Option.bind_eq_some_iff.1 h
    obtain⟨z,hz,h⟩:=Option.bind_eq_some_iff.1 h
    obtain⟨w,hw,h⟩:=Option.bind_eq_some_iff.1 h
    exact (((m.values hy).trans (m.code hz)).trans (m.laid hw)).trans (m.parts h)
  ·intro i l t σ x h
   cases i with
   | zero=>rw[dA]at h; cases h; exact Le.refl _
   | succ i =>
    rw[dA]at h
    obtain⟨y,hy,h⟩:=Option.bind_eq_some_iff.1 h
    obtain⟨w,hw,h⟩:=Option.bind_eq_some_iff.1 h
    exact ((((Le.var _).trans ((Le.push _ _).trans (Le.var _))).trans (m.values hy)).trans (m.laid hw)).trans (m.parts h)
structure E7 (L:List TV) (c:List IV):Prop where
 len:L.length=7
 iv:toIVs L=some c
 ref:L.any bM=false
theorem bDy (e:Ex)(S:aA):(lim K).call 75 [.iv (.agg (eT e))] S=.ret (.tup [.iv (.int .i64 (opX e)),.iv (.int .i64 (opN e))],S):=by
 rw[aZ]
 unfold opX opN
 refine aB K _ (fn:=t75) rfl rfl ?_
 by_cases h1:e.k=12
 ·rw[if_pos h1,if_pos h1]
  simp (config := { maxSteps := 4000000 }) (disch:=omega) only[t75,go_sem]
 ·by_cases h2:e.k=13
  ·rw[if_neg h1,if_neg h1,if_pos h2,if_pos h2]
   simp (config := { maxSteps := 4000000 }) (disch:=omega) only[t75,go_sem]
  ·by_cases h3:e.k=14
   ·rw[if_neg h1,if_neg h1,if_neg h2,if_neg h2,if_pos h3,if_pos h3]
    simp (config := { maxSteps := 4000000 }) (disch:=omega) only[t75,go_sem]
   ·by_cases h4:e.k=3
    ·rw[if_neg h1,if_neg h1,if_neg h2,if_neg h2,if_neg h3,if_neg h3,if_pos h4,if_pos (.inl h4)]
     simp (config := { maxSteps := 4000000 }) (disch:=omega) only[t75,go_sem]
    ·by_cases h5:e.k=5
     ·rw[if_neg h1,if_neg h1,if_neg h2,if_neg h2,if_neg h3,if_neg h3,if_neg h4,if_pos h5,if_pos (.inr h5)]
      simp (config := { maxSteps := 4000000 }) (disch:=omega) only[t75,go_sem]
     ·rw[if_neg h1,if_neg h1,if_neg h2,if_neg h2,if_neg h3,if_neg h3,if_neg h4,if_neg h5,if_neg (by omega)]
      simp (config := { maxSteps := 4000000 }) (disch:=omega) only[t75,go_sem]
theorem bDz {S:aA}{jm jf:Nat}{σ:Mk}(h:MkS S jm jf σ)(e:Ex):(lim K).call 74 [.ptr jm 64 0,.iv (.agg (eT e))] S=.ret (.tup [.iv (.sl .full [encZ (.rs e σ.nv)]),.iv (.agg (aV σ.nv))],S.set jm (mkB jf σ.var)):=by
 have c21:=pO h
 have c25:=kY σ.nv
 rw[show encZ (.rs e σ.nv)=.int .i64 1::(zT++(eT e++[.int .i64 σ.nv])) from rfl,aZ]
 unfold zT aV
 refine aB K _ (fn:=t74) rfl rfl ?_
 simp (config := { maxSteps := 4000000 }) (disch:=omega) only[t74,go_sem,c21,aQ c25]
theorem bD0 (S:aA)(j:Nat){l:List (List IV)}(hl:l≠[]):(lim K).call 46 [acc j l] S=.ret (.iv (.agg (jH .no l)),S):=by
 rw[eP _ hl]
 unfold jH
 refine aB K _ (fn:=t46) rfl rfl ?_
 simp (config := { maxSteps := 4000000 }) (disch:=omega) only[t46,go_sem]
theorem yL (S:aA)(l:List (List IV)):(lim K).call 46 [.iv (.sl .full l)] S=.ret (.iv (.agg (jH .full l)),S):=by
 unfold jH
 refine aB K _ (fn:=t46) rfl rfl ?_
 simp (config := { maxSteps := 4000000 }) (disch:=omega) only[t46,go_sem]
theorem aI0 (S:aA)(l:List (List IV)):(lim K).call 77 [.iv (.sl .full l)] S=.ret (.iv (.agg (lW l)),S):=by
 unfold lW
 refine aB K _ (fn:=t77) rfl rfl ?_
 simp (config := { maxSteps := 4000000 }) (disch:=omega) only[t77,go_sem]
theorem aZc {S:aA}{j:Nat}{B:aM}(h:S[j]? = some B):S.set j B=S:=by
 obtain⟨hlt,he⟩:=List.getElem?_eq_some_iff.1 h
 rw[←he,List.set_getElem_self]
theorem bIg {S:aA}{j:Nat}{l ys:List (List IV)}{t:Tag}(h:S[j]? = some (.tok l.length 2 53))(hl:l.length+ys.length≤2000000)(he:cX 2 l)(hy:cX 2 ys):bR false 2 16 53 S (.tsl j l) (.iv (.sl t ys))=some (.tsl j (l++ys),S.set j (.tok (l.length+ys.length) 2 53)) :=
 aBj (b:=16) (iJ.sl ..) hy he h (fA (by omega))
theorem bD1 (n:Nat)(h:0<n∧n≤2000000)(S:aA):(lim K).call 72 [.iv (.sl .nil []),.iv (.int .i64 n)] S=.ret (.tsl S.length [],S++[.tok 0 2 53]):=by
 have hr:fR n 16=true:=fA (by omega)
 have hn:¬(n:Int)≤0:=by omega
 have hg:sM 2 16 53 S (.iv (.sl .nil [])) (n:Int)=some (.rsv S.length [] n,S++[.tok 0 2 53]):=by
  simp[sM,nE,hr,hn,Int.toNat_natCast,show ¬n=0 by omega]
 have h0:∀n:Int,n-(0-((0:Nat):Int))=n:=fun n=>by omega
 have e1:aV0 (zJ (.iv (.sl .nil [])))=some (.iv (.int .i64 0)):=id rfl
 have e2:∀S:aA,cP S (.sl 2) (.iv (.sl .nil [])) none (some 0) none=some (.iv (.sl .nil [])):=fun S=>rfl
 have e3:∀(S:aA) (i n:Nat),cP S (.sl 2) (.rsv i [] n) none (some 0) none=some (.tsl i []):=fun S i n=>rfl
 have e4:∀(S:aA) (i n:Nat),cP S (.sl 2) (.rsv i [] n) none (some ((0:Nat):Int)) none=some (.tsl i []):=fun S i n=>rfl
 refine aB K S (fn:=t72) rfl rfl ?_
 simp (config := { maxSteps := 4000000 }) (disch:=omega) only[t72,go_sem,e1,e2,e3,e4,aF,h0,fun env=>bGi (env:=env) hg]
def vE (p:Tag×List (List IV)):List IV:=[.sl p.1 (p.2)]
def pP:List (Tag×List (List IV))→Nat
 | []=>0
 | p::r=>p.2.length+pP r
def aBt:List (Tag×List (List IV))→List (List IV)
 | []=>[]
 | p::r=>p.2++aBt r
theorem aFw:∀E:List (Tag×List (List IV)),(aBt E).length=pP E
 | []=>rfl
 | p::r=>by rw[aBt,pP,List.length_append,aFw r]
theorem bGw {E:List (Tag×List (List IV))}{i:Nat}(h:i<E.length):∃p,E.drop i=p::E.drop (i+1)∧indexAddrS 1 (.iv (.sl .full (E.map vE))) (i:Int)=some (.iv (.cp [.sl p.1 (p.2)])):=by
 refine⟨E[i],List.drop_eq_getElem_cons h,?_⟩
 refine pJ (by omega) ?_ rfl
 rw[Int.toNat_natCast,List.getElem?_map,List.getElem?_eq_getElem h]
 rfl
theorem aMh (E:List (Tag×List (List IV)))(hE:E.length≤10)(x1 x4 x5 x10 x11 x12 x13 x14:TV)(S:aA):∀(k i z:Nat) (x3 x9 x10':TV),i+k=E.length→z+pP (E.drop i)≤2000000 →
  ∃y3 y9 y10:TV,lp' (lim K) t47L1 [.iv (.sl .full (E.map vE)),x1,.iv (.int .i64 z),x3,x4,x5,.iv (.sl .full (E.map vE)),.iv (.int .i64 E.length),.iv (.int .i64 i),x9,x10',x11,x12,x13,x14] S
   = .ret (.exit 0,[.iv (.sl .full (E.map vE)),x1,.iv (.int .i64 (z+pP (E.drop i):Nat)),y3,x4,x5,.iv (.sl .full (E.map vE)),.iv (.int .i64 E.length),.iv (.int .i64 E.length),y9,y10,x11,x12,x13,x14],S)
 | 0,i,z,x3,x9,x10',h,hz=>by
  obtain rfl:i=E.length:=by omega
  rw[List.drop_length,pP,Nat.add_zero]
  refine⟨x3,.iv (.bool false),x10',aN K _ _ t47L1.eq_1 ?_⟩
  simp (config := { maxSteps := 4000000 }) (disch:=omega) only[go_sem]
 | k+1,i,z,x3,x9,x10',h,hz=>by
  have hla:i<E.length:=by omega
  obtain⟨p,hdr,hix⟩:=bGw hla
  rw[hdr,pP]at hz ⊢
  obtain⟨y3,y9,y10,ih⟩:=aMh E hE x1 x4 x5 x10 x11 x12 x13 x14 S k (i+1) (z+p.2.length) (.iv (.sl p.1 (p.2))) (.iv (.bool true)) (.iv (.bool false)) (by omega) (by omega)
  rw[show ((i+1:Nat):Int)=(i:Int)+1 by omega,show ((z+p.2.length:Nat):Int)=(z:Int)+(p.2.length:Int) by omega,Nat.add_assoc]at ih
  refine⟨y3,y9,y10,aN K _ _ t47L1.eq_1 ?_⟩
  simp (config := { maxSteps := 4000000 }) (disch:=omega) only[go_sem,hix,aF]
  exact congrArg er ih
theorem aMi (E:List (Tag×List (List IV)))(hE:E.length≤10)(hel:∀p∈E,cX 2 p.2)(j:Nat)(x1 x2 x3 x6 x7 x8 x9 x10:TV):∀(k i:Nat) (l:List (List IV)) (S:aA) (x5 x14:TV),i+k=E.length→cX 2 l→S[j]? = some (.tok l.length 2 53)→l.length+pP (E.drop i)≤2000000 →
  ∃y5 y14:TV,lp' (lim K) t47L0 [.iv (.sl .full (E.map vE)),x1,x2,x3,.tsl j (l),x5,x6,x7,x8,x9,x10,.iv (.sl .full (E.map vE)),.iv (.int .i64 E.length),.iv (.int .i64 i),x14] S
   = .ret (.exit 2,[.iv (.sl .full (E.map vE)),x1,x2,x3,.tsl j (l++aBt (E.drop i)),y5,x6,x7,x8,x9,x10,.iv (.sl .full (E.map vE)),.iv (.int .i64 E.length),.iv (.int .i64 E.length),y14],S.set j (.tok (l.length+pP (E.drop i)) 2 53))
 | 0,i,l,S,x5,x14,h,hl2,hS,hz=>by
  obtain rfl:i=E.length:=by omega
  rw[List.drop_length,pP,aBt,Nat.add_zero,List.append_nil,aZc hS]
  refine⟨x5,.iv (.bool false),aN K _ _ t47L0.eq_1 ?_⟩
  simp (config := { maxSteps := 4000000 }) (disch:=omega) only[go_sem]
 | k+1,i,l,S,x5,x14,h,hl2,hS,hz=>by
  have hla:i<E.length:=by omega
  obtain⟨p,hdr,hix⟩:=bGw hla
  rw[hdr,pP]at hz ⊢
  rw[aBt]
  have hpe:=hel p (List.mem_of_mem_drop (by rw[hdr]; exact List.mem_cons_self))
  have ha:=bIg (ys:=p.2) (t:=p.1) hS (by omega) hl2 hpe
  have hl3:cX 2 (l++p.2):=fun y hy=>(List.mem_append.1 hy).elim (hl2 y) (hpe y)
  obtain⟨y5,y14,ih⟩:=aMi E hE hel j x1 x2 x3 x6 x7 x8 x9 x10 k (i+1) (l++p.2) (S.set j (.tok (l.length+p.2.length) 2 53)) (.iv (.sl p.1 (p.2))) (.iv (.bool true)) (by omega) hl3 (by rw[bW (bD hS),List.length_append]) (by rw[List.length_append]; omega)
  rw[show ((i+1:Nat):Int)=(i:Int)+1 by omega,List.set_set,List.length_append,List.append_assoc,Nat.add_assoc]at ih
  refine⟨y5,y14,aN K _ _ t47L0.eq_1 ?_⟩
  simp (config := { maxSteps := 4000000 }) (disch:=omega) only[go_sem,hix,ha,aF]
  exact congrArg er ih
theorem bD2 (E:List (Tag×List (List IV)))(hE:E.length≤10)(hel:∀p∈E,cX 2 p.2)(h0:0<pP E)(hz:pP E≤2000000)(S:aA):(lim K).call 47 [.iv (.sl .full (E.map vE))] S=.ret (.tsl S.length (aBt E),S++[.tok (aBt E).length 2 53]):=by
 obtain⟨y3,y9,y10,l1⟩:=aMh E hE (.iv (.sl .nil [])) u_ u_ u_ u_ u_ u_ u_ S E.length 0 0 u_ u_ u_ (by omega) (by simpa using hz)
 rw[List.drop_zero,Nat.zero_add,show ((0:Nat):Int)=0 from rfl]at l1
 have c67:=bD1 (pP E) ⟨h0,hz⟩ S
 have hS:(S++[.tok 0 2 53])[S.length]? = some (.tok ([]:List (List IV)).length 2 53):=by simp
 obtain⟨y5,y14,l2⟩:=aMi E hE hel S.length (.iv (.sl .nil [])) (.iv (.int .i64 (pP E:Nat))) y3 (.iv (.sl .full (E.map vE))) (.iv (.int .i64 E.length)) (.iv (.int .i64 E.length)) y9 y10 E.length 0 [] _ u_ u_ (by omega) (by intro y hy; cases hy) hS (by simpa using hz)
 rw[List.drop_zero,List.nil_append,show ((0:Nat):Int)=0 from rfl,List.set_append_right _ _ (Nat.le_refl _),Nat.sub_self,List.set_cons_zero,List.length_nil,Nat.zero_add]at l2
 rw[aFw]
 refine aB K S (fn:=t47) rfl rfl ?_
 have hl:(E.map vE).length=E.length:=List.length_map _
 simp (config := { maxSteps := 4000000 }) (disch:=omega) only[t47,go_sem,hl]
 rw[l1]
 simp (config := { maxSteps := 4000000 }) (disch:=omega) only[go_sem,c67,hl]
 rw[l2]
 simp (config := { maxSteps := 4000000 }) (disch:=omega) only[go_sem]
def TmO (t:List IV):Prop:=∃(c0 c1 c2 c3 c4:Int) (t5 t6:Tag) (l5 l6:List (List IV)),t=[.int .i64 c0,.int .i64 c1,.int .i64 c2,.int .i64 c3,.int .i64 c4,.sl t5 l5,.sl t6 l6]
def AtO (a:List IV):Prop:=∃p q:Int,a=[.int .i64 p,.int .i64 q]
def XO (e:Ex):Prop:=e.ok∧e.w≤1048576
def SO:St→Prop
 | .tm t _=>TmO t
 | .rs e _=>XO e
theorem XO.kid {e x:Ex}(h:XO e)(hx:x∈e.ks):XO x:=⟨((Ex.ok_eq e).1 h.1).2.2.2.2.2 x hx,by have:=Ex.kid_lt hx; have:=h.2; omega⟩
theorem TmO.fun (v f:Int)(t:Tag)(l:List (List IV)):TmO (fP v f (.sl t l)):=⟨_,_,_,_,_,_,_,_,_,rfl⟩
theorem TmO.prim (v op n:Int)(l:List (List IV)):TmO (wM v op n l):=⟨_,_,_,_,_,_,_,_,_,rfl⟩
theorem TmO.call (t:Tag)(l:List (List IV)):TmO (jH t l):=⟨_,_,_,_,_,_,_,_,_,rfl⟩
theorem TmO.appl (l:List (List IV)):TmO (lW l):=⟨_,_,_,_,_,_,_,_,_,rfl⟩
theorem TmO.if (a p q:List IV):TmO (ifT a p q):=⟨_,_,_,_,_,_,_,_,_,rfl⟩
theorem TmO.kids {t:List IV}(h:TmO t)(g:Tag)(l:List (List IV)):TmO (t.set 6 (.sl g l)):=by
 obtain⟨c0,c1,c2,c3,c4,t5,t6,l5,l6,rfl⟩:=h
 exact⟨_,_,_,_,_,_,_,_,_,rfl⟩
structure Sh (n:Nat):Prop where
 value:∀ {e σ x},eG n e σ=some x→XO e→AtO x.2.1∧(∀s∈x.1,SO s)∧(x.1.length:Int)+σ.nv≤x.2.2.nv
 values:∀ {l σ x},bP n l σ=some x→(∀e∈l,XO e)→(∀a∈x.2.1,AtO a)∧(∀s∈x.1,SO s)∧(x.1.length:Int)+σ.nv≤x.2.2.nv∧x.2.1.length=l.length
 laid:∀ {l t σ x},cC n l t σ=some x→TmO t→(∀s∈l,SO s)→TmO x.1
 code:∀ {e k σ x},eS n e k σ=some x→XO e→TmO x.1
 ctl:∀ {e k σ x},nB n e k σ=some x→XO e→TmO x.1
 sq:∀ {l k σ x},nC n l k σ=some x→(∀e∈l,XO e)→TmO x.1
 parts:∀ {i l t σ x},dA n i l t σ=some x→TmO t→(∀e∈l,XO e)→TmO x.1
theorem dP:∀n,Sh n
 | 0=>⟨fun h=>by simp[eG]at h,fun h=>by simp[bP]at h,fun h=>by simp[cC]at h,fun h=>by simp[eS]at h,fun h=>by simp[nB]at h,fun h=>by simp[nC]at h,fun h=>by simp[dA]at h⟩
 | n+1=>by
  have m:=dP n
  have mo:=mono n
  refine⟨?_,?_,?_,?_,?_,?_,?_⟩
  ·intro e σ x h ho
   rw[eG]at h
   split at h
   ·cases h; exact⟨⟨_,_,rfl⟩,by simp,by simp⟩
   ·split at h
    ·cases h; exact⟨⟨_,_,rfl⟩,by simp,by simp⟩
    ·split at h
     ·obtain⟨y,hy,h⟩:=Option.bind_eq_some_iff.1 h
      have:=(mo.lam hy).nv
      cases h
      refine⟨⟨_,_,rfl⟩,fun s hs=>?_,?_⟩
      ·rw[List.mem_singleton]at hs; subst hs; exact TmO.fun ..
      ·show ((1:Nat):Int)+σ.nv≤y.2.nv+1; omega
     ·split at h
      ·obtain⟨y,hy,h⟩:=Option.bind_eq_some_iff.1 h
       obtain⟨a,ha,h⟩:=Option.bind_eq_some_iff.1 h
       obtain⟨h1,h2,h3,h4⟩:=m.values hy (fun x hx=>ho.kid hx)
       cases h; exact⟨h1 a (List.mem_of_getLast? ha),h2,h3⟩
      ·split at h
       ·cases h
        refine⟨⟨_,_,rfl⟩,fun s hs=>?_,?_⟩
        ·rw[List.mem_singleton]at hs; subst hs; exact ho
        ·show ((1:Nat):Int)+σ.nv≤σ.nv+1; omega
       ·obtain⟨y,hy,h⟩:=Option.bind_eq_some_iff.1 h
        obtain⟨h1,h2,h3,h4⟩:=m.values hy (fun x hx=>ho.kid hx)
        cases h
        refine⟨⟨_,_,rfl⟩,fun s hs=>?_,?_⟩
        ·rcases List.mem_append.1 hs with hs|hs
         ·exact h2 s hs
         ·rw[List.mem_singleton]at hs; subst hs; exact TmO.prim ..
        ·show ((y.1++[_]).length:Int)+σ.nv≤y.2.2.nv+1
         rw[List.length_append,List.length_singleton]; omega
  ·intro l σ x h ho
   cases l with
   | nil=>rw[bP]at h; cases h; exact⟨by simp,by simp,by simp,rfl⟩
   | cons e l =>
    rw[bP]at h
    obtain⟨y,hy,h⟩:=Option.bind_eq_some_iff.1 h
    obtain⟨z,hz,h⟩:=Option.bind_eq_some_iff.1 h
    obtain⟨h1,h2,h3⟩:=m.value hy (ho e (by simp))
    obtain⟨g1,g2,g3,g4⟩:=m.values hz (fun x hx=>ho x (by simp[hx]))
    cases h
    refine⟨fun a ha=>?_,fun s hs=>?_,?_,?_⟩
    ·rcases List.mem_cons.1 ha with rfl|ha
     ·exact h1
     ·exact g1 a ha
    ·rcases List.mem_append.1 hs with hs|hs
     ·exact h2 s hs
     ·exact g2 s hs
    ·show ((y.1++z.1).length:Int)+σ.nv≤z.2.2.nv
     rw[List.length_append]; omega
    ·show (y.2.1::z.2.1).length=_
     rw[List.length_cons,List.length_cons,g4]
  ·intro l t σ x h ht ho
   cases l with
   | nil=>rw[cC]at h; cases h; exact ht
   | cons s l =>
    cases s with
    | tm c to=>rw[cC]at h; exact m.laid h (TmO.kids (show TmO c from ho (St.tm c to) (by simp)) _ _) (fun s hs=>ho s (by simp[hs]))
    | rs e to =>
     rw[cC]at h
     obtain⟨y,hy,h⟩:=Option.bind_eq_some_iff.1 h
     exact m.laid h (TmO.fun ..) (fun s hs=>ho s (by simp[hs]))
  ·intro e k σ x h ho
   rw[eS]at h
   split at h
   ·obtain⟨y,hy,h⟩:=Option.bind_eq_some_iff.1 h
    obtain⟨h1,h2,h3,h4⟩:=m.values hy (fun x hx=>ho.kid hx)
    split at h
    ·cases h
    ·exact m.laid h (TmO.call ..) (fun s hs=>h2 s (List.mem_reverse.1 hs))
   ·split at h
    ·split at h
     ·rename_i c p q r hks
      obtain⟨y,hy,h⟩:=Option.bind_eq_some_iff.1 h
      obtain⟨z,hz,h⟩:=Option.bind_eq_some_iff.1 h
      obtain⟨w,hw,h⟩:=Option.bind_eq_some_iff.1 h
      obtain⟨h1,h2,h3⟩:=m.value hy (ho.kid (by rw[hks]; simp))
      exact m.laid h (TmO.if ..) (fun s hs=>h2 s (List.mem_reverse.1 hs))
     ·cases h
    ·split at h
     ·exact m.sq h (fun x hx=>ho.kid hx)
     ·split at h
      ·exact m.ctl h ho
      ·obtain⟨y,hy,h⟩:=Option.bind_eq_some_iff.1 h
       obtain⟨h1,h2,h3⟩:=m.value hy ho
       exact m.laid h (TmO.call ..) (fun s hs=>h2 s (List.mem_reverse.1 hs))
  ·intro e k σ x h ho
   rw[nB]at h
   obtain⟨y,hy,h⟩:=Option.bind_eq_some_iff.1 h
   obtain⟨h1,h2,h3,h4⟩:=m.values hy (fun x hx=>ho.kid hx)
   have h5:∀(v f:Int) (s:St),s∈(y.1++[St.tm (fP v f (.sl .nil [])) v]).reverse→SO s:=fun v f s hs=>by
    rcases List.mem_append.1 (List.mem_reverse.1 hs) with hs|hs
    ·exact h2 s hs
    ·rw[List.mem_singleton]at hs; subst hs; exact TmO.fun ..
   split at h
   ·split at h
    ·exact m.laid h (TmO.appl ..) (fun s hs=>h2 s (List.mem_reverse.1 hs))
    ·cases h
   ·split at h
    ·split at h
     ·exact m.laid h (TmO.call ..) (h5 _ _)
     ·cases h
    ·split at h
     ·exact m.laid h (TmO.call ..) (h5 _ _)
     ·cases h
  ·intro l k σ x h ho
   rw[nC]at h
   split at h
   ·cases h
   ·rename_i z hz'
    obtain⟨y,hy,h⟩:=Option.bind_eq_some_iff.1 h
    obtain⟨z,hz,h⟩:=Option.bind_eq_some_iff.1 h
    obtain⟨w,hw,h⟩:=Option.bind_eq_some_iff.1 h
    obtain⟨h1,h2,h3,h4⟩:=m.values hy (fun x hx=>ho x (List.mem_of_mem_take (List.mem_of_mem_drop hx)))
    exact m.parts h (m.laid hw (m.code hz (ho _ (List.mem_of_getLast? hz'))) (fun s hs=>h2 s (List.mem_reverse.1 hs))) ho
  ·intro i l t σ x h ht ho
   cases i with
   | zero=>rw[dA]at h; cases h; exact ht
   | succ i =>
    rw[dA]at h
    obtain⟨y,hy,h⟩:=Option.bind_eq_some_iff.1 h
    obtain⟨w,hw,h⟩:=Option.bind_eq_some_iff.1 h
    obtain⟨h1,h2,h3,h4⟩:=m.values hy (fun x hx=>ho x (List.mem_of_mem_drop (List.mem_of_mem_take hx)))
    refine m.parts h (m.laid hw (TmO.call ..) fun s hs=>?_) ho
    rcases List.mem_cons.1 (List.mem_reverse.1 hs) with rfl|hs
    ·exact TmO.fun ..
    ·exact h2 s hs
theorem wN (i:Nat)(l:List (List IV)):cellsOf (acc i l)=[acc i l]:=by unfold acc; split<;>rfl
theorem yZ (i:Nat)(l:List (List IV)):bM (acc i l)=false:=by unfold acc; split<;>rfl
attribute [go_sem] wN yZ
structure Gl (n0:Nat) (S:aA) (w el:Nat) (l:List (List IV)) (j:Nat):Prop where
 tok:l≠[]→S[j]? = some (.tok l.length w el)
 new:l≠[]→n0≤j
theorem Gl.nil (n0:Nat)(S:aA)(w el j:Nat):Gl n0 S w el [] j:=⟨fun h=>absurd rfl h,fun h=>absurd rfl h⟩
theorem Gl.keep {n0:Nat}{S S':aA}{w el:Nat}{l:List (List IV)}{j:Nat}{I:List Nat}(h:Gl n0 S w el l j)(k:bC I S S')(hI:∀i∈I,i<n0):Gl n0 S' w el l j :=
 ⟨fun h0=>k.get _ _ (fun hm=>by have:=hI _ hm; have:=h.new h0; omega) (h.tok h0),h.new⟩
structure aI1 (n0:Nat) (S S':aA) (w el:Nat) (l ys:List (List IV)) (j j':Nat):Prop where
 gl:Gl n0 S' w el (l++ys) j'
 len:S.length≤S'.length
 old:∀q b,S[q]? = some b→(l≠[]→q≠j)→S'[q]? = some b
 same:l≠[]→j'=j
 frsh:l=[]→ys≠[]→S.length≤j'
theorem Gl.more {n0:Nat}{S:aA}{w el b:Nat}{l ys:List (List IV)}{j:Nat}{x:TV}(h:Gl n0 S w el l j)(hx:iJ S x ys)(hw:cX w ys)(hl:cX w l)(hr:fR (l.length+ys.length) b=true)(h0:n0≤S.length) :
  ∃j' S',bR false w b el S (acc j l) x=some (acc j' (l++ys),S')∧aI1 n0 S S' w el l ys j j':=by
 by_cases hy:ys=[]
 ·subst hy
  have hs:aJl (acc j l)=true:=by unfold acc; split<;>rfl
  refine⟨j,S,by rw[wE hs hx,List.append_nil],⟨by rw[List.append_nil]; exact h,Nat.le_refl _,fun q b hq _=>hq,fun _=>rfl,fun _ h=>absurd rfl h⟩⟩
 ·by_cases hn:l=[]
  ·subst hn
   refine⟨S.length,S++[.tok ([]++ys).length w el],?_,⟨⟨fun _=>by simp,fun _=>h0⟩,by simp,fun q b hq _=>iD hq _,fun h=>absurd rfl h,fun _ _=>Nat.le_refl _⟩⟩
   rw[gS,wD (by decide) hx hw hl hy hr,eP _ (by simpa using hy)]
   simp
  ·have ht:=h.tok hn
   refine⟨j,S.set j (.tok (l++ys).length w el),?_,⟨⟨fun _=>bW (bD ht) _,fun _=>h.new hn⟩,by simp,fun q b hq hne=>by rw[bK (Ne.symm (hne hn))]; exact hq,fun _=>rfl,fun h=>absurd h hn⟩⟩
   rw[eP _ hn,aBj hx hw hl ht hr,eP _ (by simp[hn]),List.length_append]
theorem aI1.keep {n0:Nat}{S S':aA}{w el:Nat}{l ys:List (List IV)}{j j':Nat}{S0:aA}{I:List Nat}(g:aI1 n0 S S' w el l ys j j')(h:Gl n0 S w el l j)(hk:bC I S0 S)(hn:S0.length≤n0):bC I S0 S' :=
 ⟨Nat.le_trans hk.len g.len,fun i b hi hb=>g.old _ _ (hk.get i b hi hb) fun hl=>by have:=h.new hl; have:=bD hb; omega⟩
theorem aI1.other {n0:Nat}{S S':aA}{w el w2 el2:Nat}{l ys m:List (List IV)}{j j' i:Nat}(g:aI1 n0 S S' w el l ys j j')(h:Gl n0 S w2 el2 m i)(hd:l≠[]→m≠[]→j≠i):Gl n0 S' w2 el2 m i∧(l++ys≠[]→m≠[]→j'≠i):=by
 refine⟨⟨fun h0=>g.old _ _ (h.tok h0) fun hl=>Ne.symm (hd hl h0),h.new⟩,fun h1 h2=>?_⟩
 by_cases hl:l=[]
 ·have:=g.frsh hl (by intro e; rw[hl,e]at h1; exact h1 rfl)
  have:=bD (h.tok h2)
  omega
 ·rw[g.same hl]; exact hd hl h2
theorem aI1.mks {n0:Nat}{S S':aA}{w el:Nat}{l ys:List (List IV)}{j j':Nat}{jm jf:Nat}{σ:Mk}(g:aI1 n0 S S' w el l ys j j')(h:Gl n0 S w el l j)(m:MkS S jm jf σ)(h1:jm<n0∧jf<n0):MkS S' jm jf σ :=
 ⟨g.old _ _ m.own fun hl=>by have:=h.new hl; omega,g.old _ _ m.row fun hl=>by have:=h.new hl; omega,m.ne,m.wid,m.ok⟩
def SR (r:TV)(l:List (List IV)):Prop:=(l=[]∧r=.iv (.sl .nil []))∨(∃j,r=.tsl j l)∨r=.iv (.sl .full l)
theorem SR.acc (j:Nat)(l:List (List IV)):SR (acc j l) l:=by
 by_cases h:l=[]
 ·subst h; exact .inl ⟨rfl,gS j⟩
 ·exact .inr (.inl ⟨j,eP j h⟩)
theorem SR.el {r:TV}{l:List (List IV)}(h:SR r l)(S:aA):iJ S r l:=by
 rcases h with⟨rfl,rfl⟩|⟨j,rfl⟩|rfl
 ·exact iJ.sl ..
 ·exact iJ.tsl ..
 ·exact iJ.sl ..
def dS (l:List St):List (List IV):=l.map encZ
theorem lX {l:List St}(h:∀s∈l,SO s):cX 14 (dS l):=by
 intro y hy
 obtain⟨s,hs,rfl⟩:=List.mem_map.1 hy
 cases s with
 | tm t to =>
  obtain⟨c0,c1,c2,c3,c4,t5,t6,l5,l6,rfl⟩:=(show TmO t from h _ hs)
  exact⟨rfl,rfl⟩
 | rs e to =>
  rw[show encZ (.rs e to)=.int .i64 1::(zT++(eT e++[.int .i64 to])) from rfl,aZ]
  exact⟨rfl,rfl⟩
theorem AtO.el {l:List (List IV)}(h:∀a∈l,AtO a):cX 2 l:=by
 intro y hy
 obtain⟨p,q,rfl⟩:=h y hy
 exact⟨rfl,rfl⟩
structure Bd (b0:Int) (σ:Mk):Prop where
 hi:σ.nv≤b0+1000000
 fs:σ.fs.length≤1000000
theorem Bd.le {b0:Int}{σ τ:Mk}(h:Bd b0 τ)(l:Le σ τ):Bd b0 σ:=⟨Int.le_trans l.nv h.hi,Nat.le_trans l.len h.fs⟩
def tI (b0:Int)(n:Nat):Prop:=∀ {e:Ex} {σ:Mk} {x:List St×List IV×Mk} {S:aA} {jm jf:Nat},eG n e σ=some x→XO e→b0≤σ.nv→Bd b0 x.2.2→MkS S jm jf σ →
 ∃r S',(lim K).call 48 [.ptr jm 64 0,.iv (.agg (eT e))] S=.ret (.tup [r,.iv (.agg x.2.1)],S')∧SR r (dS x.1)∧MkS S' jm jf x.2.2∧bC [jm,jf] S S'
def kE (b0:Int)(n:Nat):Prop:=∀ {l:List Ex} {g:Tag} {σ:Mk} {x:List St×List (List IV)×Mk} {S:aA} {jm jf:Nat},bP n l σ=some x→(∀e∈l,XO e)→l.length≤1048576→b0≤σ.nv→Bd b0 x.2.2→MkS S jm jf σ →
 ∃js ja S',(lim K).call 45 [.ptr jm 64 0,.iv (.sl g (bS l))] S=.ret (.tup [acc js (dS x.1),acc ja x.2.1],S')∧Gl S.length S' 14 67 (dS x.1) js∧Gl S.length S' 2 53 x.2.1 ja∧(dS x.1≠[]→x.2.1≠[]→js≠ja)∧MkS S' jm jf x.2.2∧bC [jm,jf] S S'
theorem rD (a b:List St):dS (a++b)=dS a++dS b:=List.map_append
theorem lS (a:List St):(dS a).length=a.length:=List.length_map _
theorem aCj {w:Nat}{a b:List (List IV)}(ha:cX w a)(hb:cX w b):cX w (a++b):=fun y hy=>(List.mem_append.1 hy).elim (ha y) (hb y)
theorem aSm {b0:Int}{N:Nat}(hV:∀m,m≤N→tI b0 m)(g:Tag){L:List Ex}(hL:∀e∈L,XO e)(hlen:L.length≤1048576){jm jf:Nat}{S0:aA}(hj:jm<S0.length∧jf<S0.length):∀(n i:Nat) (S:aA) (A B:List (List IV)) (js ja:Nat) (σ:Mk) (x:List St×List (List IV)×Mk) (y4 y5 y6 y10:TV),n≤N+1→i≤L.length→bP n (L.drop i) σ=some x→b0≤σ.nv→Bd b0 x.2.2→MkS S jm jf σ→bC [jm,jf] S0 S →
  Gl S0.length S 14 67 A js→Gl S0.length S 2 53 B ja→(A≠[]→B≠[]→js≠ja)→cX 14 A→cX 2 B→(A.length:Int)+b0≤σ.nv→B.length≤i →
  ∃(S':aA) (js' ja':Nat) (z4 z5 z6 z10:TV),lp' (lim K) t45L0 [.ptr jm 64 0,.iv (.sl g (bS L)),acc js A,acc ja B,y4,y5,y6,.iv (.sl g (bS L)),.iv (.int .i64 L.length),.iv (.int .i64 i),y10] S
   = .ret (.exit 0,[.ptr jm 64 0,.iv (.sl g (bS L)),acc js' (A++dS x.1),acc ja' (B++x.2.1),z4,z5,z6,.iv (.sl g (bS L)),.iv (.int .i64 L.length),.iv (.int .i64 L.length),z10],S') ∧
   Gl S0.length S' 14 67 (A++dS x.1) js'∧Gl S0.length S' 2 53 (B++x.2.1) ja'∧(A++dS x.1≠[]→B++x.2.1≠[]→js'≠ja')∧MkS S' jm jf x.2.2∧bC [jm,jf] S0 S'
 | 0,i,S,A,B,js,ja,σ,x,y4,y5,y6,y10,hn,hi,hx,_,_,_,_,_,_,_,_,_,_,_=>by simp[bP]at hx
 | n+1,i,S,A,B,js,ja,σ,x,y4,y5,y6,y10,hn,hi,hx,hb,hB,hM,hk,gA,gB,hd,eA,eB,lA,lB=>by
  have hlE:=aL L
  by_cases hla:i<L.length
  ·rw[List.drop_eq_getElem_cons hla,bP]at hx
   obtain⟨y,hy,hx⟩:=Option.bind_eq_some_iff.1 hx
   obtain⟨z,hz,hx⟩:=Option.bind_eq_some_iff.1 hx
   cases hx
   have hgd:L.getD i default=L[i]:=by simp[List.getD,List.getElem?_eq_getElem hla]
   have hXO:=hL L[i] (List.getElem_mem _)
   have l1:=(mono n).value hy
   have l2:=(mono n).values hz
   have hB1:Bd b0 y.2.2:=Bd.le hB l2
   obtain⟨⟨p,q,hpq⟩,hso,hsl⟩:=(dP n).value hy hXO
   obtain⟨r,S1,c48,hr,hM1,hk1⟩:=hV n (by omega) hy hXO hb hB1 hM
   have nI:∀i∈[jm,jf],i<S0.length:=fun i hi=>by simp at hi; rcases hi with rfl|rfl<;>omega
   have gA1:=gA.keep hk1 nI
   have gB1:=gB.keep hk1 nI
   have hlen1:S0.length≤S1.length:=Nat.le_trans hk.len hk1.len
   have hsz:((A.length+(dS y.1).length:Nat):Int)≤1000000:=by rw[lS]; have:=hB1.hi; omega
   obtain⟨js1,S2,a1,g1⟩:=gA1.more (b:=176) (hr.el S1) (lX hso) eA (fA (by omega)) hlen1
   have hM2:=g1.mks gA1 hM1 hj
   have hk2:=g1.keep gA1 (hk.trans hk1) (Nat.le_refl _)
   obtain⟨gB2,hd2⟩:=g1.other gB1 hd
   obtain⟨ja1,S3,a2,g2⟩:=gB2.more (b:=16) (iJ.sl S2 .full [[.int .i64 p,.int .i64 q]]) (by intro y hy; simp at hy; subst hy; exact⟨rfl,rfl⟩) eB (fA (by simp; omega)) (Nat.le_trans hlen1 g1.len)
   have hM3:=g2.mks gB2 hM2 hj
   have hk3:=g2.keep gB2 hk2 (Nat.le_refl _)
   obtain⟨gA3,hd3⟩:=g2.other g1.gl (fun h1 h2=>Ne.symm (hd2 h2 h1))
   obtain⟨S',js',ja',z4,z5,z6,z10,ih,hres⟩:=aSm hV g hL hlen hj n (i+1) S3 (A++dS y.1) (B++[[.int .i64 p,.int .i64 q]]) js1 ja1 y.2.2 z (.lb ((eT L[i]).map .iv)) r (.lb [.iv (.int .i64 p),.iv (.int .i64 q)]) (.iv (.bool true)) (by omega) hla hz (Int.le_trans hb l1.nv) hB hM3 hk3 gA3 g2.gl (fun h1 h2=>Ne.symm (hd3 h2 h1)) (aCj eA (lX hso)) (aCj eB (by intro y hy; simp at hy; subst hy; exact⟨rfl,rfl⟩)) (by rw[List.length_append,lS]; omega) (by simp; omega)
   rw[show ((i+1:Nat):Int)=(i:Int)+1 by omega]at ih
   have hix:=ixE (g:=g) (ks:=L) (i:=(i:Int)) (by omega)
   rw[Int.toNat_natCast,hgd]at hix
   have hget:=wL (d:=L[i])
   rw[hpq]at c48
   rw[aZ]at c48 hix hget ih
   refine⟨S',js',ja',z4,z5,z6,z10,?_,?_⟩
   ·rw[rD,←List.append_assoc,show B++(y.2.1::z.2.1)=(B++[[.int .i64 p,.int .i64 q]])++z.2.1 by rw[hpq]; simp]
    refine aN K _ _ t45L0.eq_1 ?_
    generalize L[i]=e at *
    rcases hr with⟨_,rfl⟩|⟨j,rfl⟩|rfl
    ·simp (config := { maxSteps := 4000000 }) (disch:=omega) only[go_sem,hlE,hix,hget,c48,a1,a2,aF]
     exact congrArg er ih
    ·simp (config := { maxSteps := 4000000 }) (disch:=omega) only[go_sem,hlE,hix,hget,c48,a1,a2,aF]
     exact congrArg er ih
    ·simp (config := { maxSteps := 4000000 }) (disch:=omega) only[go_sem,hlE,hix,hget,c48,a1,a2,aF]
     exact congrArg er ih
   ·rw[rD,←List.append_assoc,show B++(y.2.1::z.2.1)=(B++[[.int .i64 p,.int .i64 q]])++z.2.1 by rw[hpq]; simp]
    exact hres
  ·obtain rfl:i=L.length:=by omega
   rw[List.drop_length,bP]at hx
   cases hx
   refine⟨S,js,ja,y4,y5,y6,.iv (.bool false),aN K _ _ t45L0.eq_1 ?_,by simpa[dS] using gA,by simpa using gB,by simpa[dS] using hd,hM,hk⟩
   rw[show dS []=[] from rfl,List.append_nil,List.append_nil]
   simp (config := { maxSteps := 4000000 }) (disch:=omega) only[go_sem]
theorem aFx {b0:Int}{N:Nat}(hV:∀m,m≤N→tI b0 m):kE b0 (N+1):=by
 intro l g σ x S jm jf hx hl hlen hb hB hM
 have hj:jm<S.length∧jf<S.length:=⟨bD hM.own,bD hM.row⟩
 obtain⟨S',js',ja',z4,z5,z6,z10,l1,h1,h2,h3,h4,h5⟩:=aSm hV g hl hlen hj (N+1) 0 S [] [] 0 0 σ x u_ u_ u_ u_ (Nat.le_refl _) (Nat.zero_le _) (by rw[List.drop_zero]; exact hx) hb hB hM (bC.refl _ _) (Gl.nil ..) (Gl.nil ..) (fun h=>absurd rfl h) (by intro y hy; cases hy) (by intro y hy; cases hy) (by simpa using hb) (Nat.le_refl _)
 rw[show ((0:Nat):Int)=0 from rfl,List.nil_append,List.nil_append,gS]at l1
 rw[List.nil_append]at h1 h2 h3
 rw[List.nil_append]at h3
 have hlE:=aL l
 refine⟨js',ja',S',aB K _ (fn:=t45) rfl rfl ?_,h1,h2,h3,h4,h5⟩
 simp (config := { maxSteps := 4000000 }) (disch:=omega) only[t45,go_sem,hlE]
 rw[l1]
 simp (config := { maxSteps := 4000000 }) (disch:=omega) only[go_sem]
def pQ (b0:Int)(n:Nat):Prop:=∀ {e:Ex} {k0 k1:Int} {σ:Mk} {x:List IV×Mk} {S:aA} {jm jf:Nat},eS n e [.int .i64 k0,.int .i64 k1] σ=some x→XO e→b0≤σ.nv→Bd b0 x.2→MkS S jm jf σ →
 ∃S',(lim K).call 24 [.ptr jm 64 0,.iv (.agg (eT e)),.iv (.agg [.int .i64 k0,.int .i64 k1])] S=.ret (.iv (.agg x.1),S')∧MkS S' jm jf x.2∧bC [jm,jf] S S'
def aSn (b0:Int)(n:Nat):Prop:=∀ {e:Ex} {σ:Mk} {x:Int×Mk} {S:aA} {jm jf:Nat},eQ n e σ=some x→XO e→b0≤σ.nv→Bd b0 x.2→MkS S jm jf σ →
 ∃S',(lim K).call 73 [.ptr jm 64 0,.iv (.agg (eT e))] S=.ret (.iv (.int .i64 x.1),S')∧MkS S' jm jf x.2∧bC [jm,jf] S S'
theorem aZd {S:aA}(k:Int)(t:Tag)(vs:List Int)(hl:vs.length≤2000000):∃r L,bR false 1 8 3 S (.iv (.sl .full [[.int .i64 k]])) (.iv (.sl t (TM.one (.int .i64) vs)))=some (r,S++L)∧((r=.iv (.sl .full (TM.one (.int .i64) (k::vs)))∧vD vs=.full)∨(∃j,r=.tsl j (TM.one (.int .i64) (k::vs))∧vD vs=.no)):=by
 cases vs with
 | nil=>exact⟨_,[],by rw[show TM.one (IV.int .i64) []=[] from rfl,wE rfl (iJ.sl ..),List.append_nil]; rfl,.inl ⟨rfl,rfl⟩⟩
 | cons v vs =>
  have hw:cX 1 (TM.one (IV.int .i64) (v::vs)):=by
   intro y hy
   obtain⟨m,_,rfl⟩:=List.mem_map.1 hy
   exact⟨rfl,rfl⟩
  have:=wD (S:=S) (w:=1) (b:=8) (el:=3) (t:=.full) (l:=[[.int .i64 k]]) (by decide) (iJ.sl S t (TM.one (.int .i64) (v::vs))) hw (by intro y hy; simp at hy; subst hy; exact⟨rfl,rfl⟩) (by simp[TM.one]) (fA (by rw[TM.mH]; simp at hl ⊢; omega))
  exact⟨_,_,this,.inr ⟨_,rfl,rfl⟩⟩
theorem aSo {b0:Int}{n:Nat}(hb0:0≤b0∧b0≤1152921504606846976)(hC:pQ b0 n):aSn b0 (n+1):=by
 intro e σ x S jm jf hx ho hb hB hM
 rw[eQ]at hx
 split at hx
 ·cases hx
 ·rename_i b r hks
  obtain⟨y,hy,hx⟩:=Option.bind_eq_some_iff.1 hx
  cases hx
  have hle:=(mono n).code hy
  have hBy:Bd b0 y.2:=⟨hB.hi,by have:=hB.fs; simp[Mk.push]at this; omega⟩
  have hlt:y.2.fs.length<1000000:=by have:=hB.fs; simp[Mk.push]at this; omega
  have hnv:σ.nv<4611686018427387904:=by have h1:=hle.nv; have h2:=hBy.hi; have h3:σ.var.nv=σ.nv+1:=rfl; omega
  have c21:=pO hM
  have hM1:=hM.var hnv
  have hk1:bC [jm,jf] S (S.set jm (mkB jf σ.var)):=hO _
  have hbo:XO b:=ho.kid (by rw[hks]; simp)
  have hwe:=Ex.w_eq e
  have hw2:=ho.2
  obtain⟨pr,L,ap,hpr⟩:=aZd (S:=S.set jm (mkB jf σ.var)) σ.nv e.gv e.vs (by omega)
  have hk2:bC [] (S.set jm (mkB jf σ.var)) (S.set jm (mkB jf σ.var)++L):=bC.app _ _ _
  have hM2:=hM1.keep hk2 (by simp) (by simp)
  obtain⟨S3,c24,hM3,hk3⟩:=hC hy hbo (by show b0≤σ.nv+1; omega) hBy hM2
  obtain⟨c0,c1,c2,c3,c4,t5,t6,l5,l6,hT⟩:=(dP n).code hy hbo
  have c25:=kY σ.nv
  have hix:=ixE (g:=e.g) (ks:=e.ks) (i:=0) (by rw[hks]; simp)
  have hget:=wL (d:=b)
  rw[show e.ks.getD (0:Int).toNat default=b by rw[hks]; rfl]at hix
  rw[hT]at c24
  have c20:=fun tg=>vC hM3 (.sl tg (TM.one (.int .i64) (σ.nv::e.vs))) (.bool e.r) (.bool false) (.sl .nil []) (.int .i64 c0) (.int .i64 c1) (.int .i64 c2) (.int .i64 c3) (.int .i64 c4) (.sl t5 l5) (.sl t6 l6) rfl
  have hM4:=fun tg=>hM3.push (f:=fnF tg (σ.nv::e.vs) e.r false y.1) (by rw[hT]; rfl) (by rw[hT]; rfl) hlt
  refine⟨_,aB K _ (fn:=t73) rfl rfl ?_,hM4 (vD e.vs),((hk1.trans (hk2.mono (by simp))).trans hk3).trans (rC _ _)⟩
  rw[hT]
  unfold fnF
  rw[aZ]at c24 hix hget ⊢
  rcases hpr with⟨rfl,ht⟩|⟨j,rfl,ht⟩
  ·rw[ht]
   have c20:=c20 .full
   generalize TM.one (IV.int .i64) (σ.nv::e.vs)=ps at *
   simp (config := { maxSteps := 4000000 }) (disch:=omega) only[t73,go_sem,c21,ap,hix,hget,aQ c25,c24,c20]
  ·rw[ht]
   have c20:=c20 .no
   generalize TM.one (IV.int .i64) (σ.nv::e.vs)=ps at *
   simp (config := { maxSteps := 4000000 }) (disch:=omega) only[t73,go_sem,c21,ap,hix,hget,aQ c25,c24,c20]
theorem bGx {j:Nat}{l:List (List IV)}(h:l≠[]){w:Nat}{a:List IV}(ha:l.getLast? = some a)(hw:a.length=w):indexAddrS w (acc j l) ((l.length:Int)-1)=some (.iv (.cp a)):=by
 have hl:=List.length_pos_iff.2 h
 rw[eP _ h]
 refine wB (by omega) ?_ hw
 rw[List.getLast?_eq_getElem?]at ha
 rw[show ((l.length:Int)-1).toNat=l.length-1 by omega]
 exact ha
theorem aI2 {b0:Int}{n:Nat}(hb0:0≤b0∧b0≤1152921504606846976)(hL:aSn b0 n)(hVs:kE b0 n):tI b0 (n+1):=by
 intro e σ x S jm jf hx ho hb hB hM
 have hwe:=Ex.w_eq e
 have hw2:=ho.2
 have hkl:=Ex.ws_len e.ks
 have hlE:=aL e.ks
 rw[eG]at hx
 by_cases h1:e.k=1
 ·rw[if_pos h1]at hx
  cases hx
  refine⟨.iv (.sl .nil []),S,aB K _ (fn:=t48) rfl rfl ?_,.inl ⟨rfl,rfl⟩,hM,bC.refl _ _⟩
  rw[aZ]
  unfold aC
  simp (config := { maxSteps := 4000000 }) (disch:=omega) only[t48,go_sem]
 ·rw[if_neg h1]at hx
  by_cases h2:e.k=2
  ·rw[if_pos h2]at hx
   cases hx
   have c25:=kY e.n
   refine⟨.iv (.sl .nil []),S,aB K _ (fn:=t48) rfl rfl ?_,.inl ⟨rfl,rfl⟩,hM,bC.refl _ _⟩
   rw[aZ]
   unfold aV
   simp (config := { maxSteps := 4000000 }) (disch:=omega) only[t48,go_sem,aQ c25]
  ·rw[if_neg h2]at hx
   by_cases h7:e.k=7
   ·rw[if_pos h7]at hx
    obtain⟨y,hy,hx⟩:=Option.bind_eq_some_iff.1 hx
    cases hx
    have hBy:Bd b0 y.2:=hB.le (Le.var _)
    have hnv:y.2.nv<4611686018427387904:=by have h9:y.2.nv+1≤b0+1000000:=hB.hi; omega
    obtain⟨S1,c73,hM1,hk1⟩:=hL hy ho hb hBy hM
    have c22:=aDu hM1 y.1
    have c25:=kY y.2.nv
    refine⟨.iv (.sl .full (dS [.tm (fP y.2.nv y.1 (.sl .nil [])) y.2.nv])),_,aB K _ (fn:=t48) rfl rfl ?_,.inr (.inr rfl),hM1.var hnv,hk1.trans (hO _)⟩
    rw[aZ]at c73 ⊢
    rw[show dS [St.tm (fP y.2.nv y.1 (.sl .nil [])) y.2.nv]=[mO y.2.nv y.1] from rfl]
    unfold mO aV at *
    simp (config := { maxSteps := 4000000 }) (disch:=omega) only[t48,go_sem,c73,c22,aQ c25]
   ·rw[if_neg h7]at hx
    by_cases h10:e.k=10∧e.ks.length≤64
    ·rw[if_pos h10]at hx
     obtain⟨y,hy,hx⟩:=Option.bind_eq_some_iff.1 hx
     obtain⟨a,ha,hx⟩:=Option.bind_eq_some_iff.1 hx
     cases hx
     obtain⟨js,ja,S1,c45,g1,g2,hd,hM1,hk1⟩:=hVs (g:=e.g) hy (fun x hx=>ho.kid hx) (by omega) hb hB hM
     have hne:y.2.1≠[]:=by rintro h; rw[h]at ha; cases ha
     obtain⟨p,q,rfl⟩:=((dP n).values hy (fun x hx=>ho.kid hx)).1 a (List.mem_of_getLast? ha)
     have hix:=bGx (j:=ja) hne ha (w:=2) rfl
     have hl1:=((dP n).values hy (fun x hx=>ho.kid hx)).2.2.2
     refine⟨_,S1,aB K _ (fn:=t48) rfl rfl ?_,SR.acc js _,hM1,hk1⟩
     obtain⟨h10a,h10b⟩:=h10
     rw[aZ]
     simp (config := { maxSteps := 4000000 }) (disch:=omega) only[t48,go_sem,hlE,c45,hix,aBk,aF]
    ·rw[if_neg h10]at hx
     by_cases hl:e.k=10∨e.k=8∨e.k=6∨e.k=11
     ·rw[if_pos hl]at hx
      cases hx
      have hnv:σ.nv<4611686018427387904:=by have h9:σ.nv+1≤b0+1000000:=hB.hi; omega
      have c74:=bDz hM e
      refine⟨_,_,aB K _ (fn:=t48) rfl rfl ?_,.inr (.inr rfl),hM.var hnv,hO _⟩
      rw[show dS [St.rs e σ.nv]=[encZ (.rs e σ.nv)] from rfl]
      generalize encZ (.rs e σ.nv)=s at *
      unfold aV at *
      rw[aZ]at c74 ⊢
      rcases hl with hl|hl|hl|hl
      ·have h64:¬e.ks.length≤64:=fun h=>h10 ⟨hl,h⟩
       simp (config := { maxSteps := 4000000 }) (disch:=omega) only[t48,go_sem,hlE,c74]
      ·simp (config := { maxSteps := 4000000 }) (disch:=omega) only[t48,go_sem,hlE,c74]
      ·simp (config := { maxSteps := 4000000 }) (disch:=omega) only[t48,go_sem,hlE,c74]
      ·simp (config := { maxSteps := 4000000 }) (disch:=omega) only[t48,go_sem,hlE,c74]
     ·rw[if_neg hl]at hx
      obtain⟨y,hy,hx⟩:=Option.bind_eq_some_iff.1 hx
      cases hx
      have hBy:Bd b0 y.2.2:=hB.le (Le.var _)
      have hnv:y.2.2.nv<4611686018427387904:=by have h9:y.2.2.nv+1≤b0+1000000:=hB.hi; omega
      obtain⟨js,ja,S1,c45,g1,g2,hd,hM1,hk1⟩:=hVs (g:=e.g) hy (fun x hx=>ho.kid hx) (by omega) hb hBy hM
      obtain⟨s1,s2,s3,s4⟩:=(dP n).values hy (fun x hx=>ho.kid hx)
      have c75:=bDy e S1
      have c21:=pO hM1
      have hM2:=hM1.var hnv
      have hk2:bC [jm,jf] S1 (S1.set jm (mkB jf y.2.2.var)):=hO _
      have hj:∀i∈[jm,jf],i<S.length:=fun i hi=>by
       have:=bD hM.own; have:=bD hM.row
       simp at hi; rcases hi with rfl|rfl<;>omega
      have g1':=g1.keep hk2 hj
      obtain⟨js2,S3,a1,gr⟩:=g1'.more (b:=176) (iJ.sl (S1.set jm (mkB jf y.2.2.var)) .full [encZ (.tm (wM y.2.2.nv (opX e) (opN e) y.2.1) y.2.2.nv)]) (by intro y hy; simp at hy; subst hy; exact⟨rfl,rfl⟩) (lX s2) (fA (by rw[lS]; have:=hBy.hi; simp; omega)) (by have:=hk1.len; simpa using this)
      have c25:=kY y.2.2.nv
      refine⟨acc js2 (dS y.1++[encZ (.tm (wM y.2.2.nv (opX e) (opN e) y.2.1) y.2.2.nv)]),S3,aB K _ (fn:=t48) rfl rfl ?_,(by rw[rD]; exact SR.acc js2 _),gr.mks g1' hM2 ⟨bD hM.own,bD hM.row⟩,gr.keep g1' (hk1.trans hk2) (Nat.le_refl _)⟩
      rw[show encZ (.tm (wM y.2.2.nv (opX e) (opN e) y.2.1) y.2.2.nv)=[.int .i64 0,.int .i64 1,.int .i64 y.2.2.nv,.int .i64 (opX e),.int .i64 (opN e),.int .i64 0,.sl (tD y.2.1) y.2.1,.sl .nil [],.int .i64 0,.int .i64 0,.sl .nil [],.bool false,.sl .nil [],.int .i64 y.2.2.nv] from rfl]at a1 ⊢
      generalize opX e=ox at *
      generalize opN e=on at *
      unfold aV at *
      rw[aZ]at c75 ⊢
      simp (config := { maxSteps := 4000000 }) (disch:=omega) only[t48,go_sem,hlE,c45,c75,c21,a1,aQ c25]
def xV:aP:=(.region [⟨.allocH 68 [(.int .i64 0),(.int .i64 0),(.int .i64 0),(.int .i64 0),(.int .i64 0),(.int .i64 0),(.sl .nil []),(.sl .nil []),(.int .i64 0),(.int .i64 0),(.sl .nil []),(.bool false),(.sl .nil []),(.int .i64 0)],(some 6),none⟩,⟨.store 14 (.reg 0) (.loc 13),none,none⟩])
def xW:aP:=(.block 1
    (.seq (.seq (.region [⟨.fieldAddr 0 (.loc 6),none,none⟩,⟨.load1 (.reg 0),none,none⟩,⟨.bin .eql (.reg 1) (.cst (.int .i64 0)),(some 14),none⟩])
    (.cond (.loc 14)
     (.seq (.region [⟨.fieldAddr 1 (.loc 6),none,none⟩,⟨.loadN 7 (.reg 0),none,none⟩,⟨.allocH 46 [(.int .i64 0),(.int .i64 0),(.int .i64 0),(.int .i64 0),(.int .i64 0),(.sl .nil []),(.sl .nil [])],(some 7),none⟩,⟨.store 7 (.reg 2) (.reg 1),none,none⟩])
     (.seq (.region [⟨.loadN 7 (.loc 4),none,none⟩,⟨.lit false [(.int .i64 0),(.int .i64 0),(.int .i64 0),(.int .i64 0),(.int .i64 0),(.sl .nil []),(.sl .nil [])] 1 [(0,(.reg 0))],none,none⟩,⟨.fieldAddr 6 (.loc 7),none,none⟩,⟨.store 1 (.reg 2) (.reg 1),none,none⟩])
     (.seq (.region [⟨.loadN 7 (.loc 7),none,none⟩,⟨.store 7 (.loc 4) (.reg 0),none,none⟩])
     (.exit 1))))
     .skip))
    (.seq (.region [⟨.load1 (.loc 3),none,none⟩,⟨.fieldAddr 13 (.loc 6),none,none⟩,⟨.load1 (.reg 1),none,none⟩,⟨.lit false [(.int .i64 0)] 1 [(0,(.reg 2))],none,none⟩,⟨.loadN 7 (.loc 4),none,none⟩,⟨.build [(.sl .nil []),(.bool false),(.bool false),(.sl .nil []),(.int .i64 0),(.int .i64 0),(.int .i64 0),(.int .i64 0),(.int .i64 0),(.sl .nil []),(.sl .nil [])] [(0,1,(.reg 3)),(2,1,(.cst (.bool true))),(4,7,(.reg 4))],none,none⟩,⟨.call false false 20 [(.reg 0),(.reg 5)],none,none⟩,⟨.mov (.reg 6),(some 8),none⟩])
    (.seq (.region [⟨.load1 (.loc 3),none,none⟩,⟨.mov (.loc 8),none,none⟩,⟨.call false false 22 [(.reg 0),(.reg 1)],none,none⟩,⟨.mov (.reg 2),none,none⟩,⟨.extract 0 (.reg 3),none,none⟩,⟨.extract 1 (.reg 3),none,none⟩,⟨.allocH 68 [(.int .i64 0),(.int .i64 0),(.int .i64 0),(.int .i64 0),(.int .i64 0),(.int .i64 0),(.sl .nil []),(.sl .nil []),(.int .i64 0),(.int .i64 0),(.sl .nil []),(.bool false),(.sl .nil []),(.int .i64 0)],(some 9),none⟩,⟨.store 14 (.reg 6) (.reg 4),none,none⟩,⟨.mov (.reg 5),(some 10),none⟩])
    (.seq (.draw [0,1,2,3] [(4,[0,2],[]),(5,[],[6,7,8]),(9,[],[])] [⟨.load1 (.loc 3),none,none⟩,⟨.fieldAddr 8 (.loc 6),none,none⟩,⟨.loadN 5 (.reg 1),none,none⟩,⟨.mov (.loc 10),none,none⟩,⟨.call true false 25 [(.reg 3)],none,none⟩,⟨.call false false 24 [(.reg 0),(.reg 2),(.reg 4)],none,none⟩,⟨.lit false [(.int .i64 0),(.int .i64 0),(.int .i64 0),(.int .i64 0),(.int .i64 0),(.sl .nil []),(.sl .nil [])] 1 [(0,(.reg 5))],none,none⟩,⟨.fieldAddr 1 (.loc 9),none,none⟩,⟨.fieldAddr 6 (.reg 7),none,none⟩,⟨.store 1 (.reg 8) (.reg 6),none,none⟩])
    (.region [⟨.fieldAddr 1 (.loc 9),none,none⟩,⟨.loadN 7 (.reg 0),none,none⟩,⟨.store 7 (.loc 4) (.reg 1),none,none⟩]))))))
def e23 (jm n:Nat)(r:TV)(t0:List IV)(x6 x7 x8 x9 x10 x12 x13 x14:TV):Env:=[.ptr jm 64 0,r,.iv (.agg t0),.ptr n 62 0,.ptr (n+1) 46 0,.hole,x6,x7,x8,x9,x10,.fn 71 [] [.ptr (n+2) 72 0],x12,x13,x14]
structure YS (S:aA) (n jm jf:Nat) (r:TV) (t0 t:List IV) (σ:Mk):Prop where
 a:S[n]? = some (.cells 62 false [.ptr jm 64 0])
 b:S[n+1]? = some (.cells 46 false (t.map .iv))
 c:S[n+2]? = some (.cells 72 false [r])
 y:∃x6 x7 x8 x9 x10 x12 x13 x14,S[n+3]? = some (.lp .ready none (e23 jm n r t0 x6 x7 x8 x9 x10 x12 x13 x14) [12,13] xV xW)
 ms:MkS S jm jf σ
 lt:jm<n∧jf<n
theorem gN0 (S:aA)(a:aM)(r:aA):(S++a::r)[S.length]? = some a:=by simp
theorem sN0 (S:aA)(a x:aM)(r:aA):(S++a::r).set S.length x=S++x::r:=by rw[List.set_append_right _ _ (Nat.le_refl _)]; simp
attribute [go_sem] gN0 sN0
theorem bD3 {S:aA}{n jm jf:Nat}{r:TV}{t0 t c:List IV}{σ:Mk}(h:YS S n jm jf r t0 t σ)(ht:TmO t)(hc:TmO c)(to i:Int) :
  ∃S',(lim K).yld (n+3) [.iv (.int .i64 i),.iv (.agg (encZ (.tm c to)))] S=.ret (.iv (.bool true),S')∧YS S' n jm jf r t0 (c.set 6 (.sl .full [t])) σ∧bC [n+1,n+3] S S':=by
 obtain⟨x6,x7,x8,x9,x10,x12,x13,x14,hy⟩:=h.y
 obtain⟨a0,a1,a2,a3,a4,a5,a6,b5,b6,rfl⟩:=ht
 obtain⟨c0,c1,c2,c3,c4,c5,c6,d5,d6,rfl⟩:=hc
 have hl:=bD hy
 have hs:encZ (.tm [.int .i64 c0,.int .i64 c1,.int .i64 c2,.int .i64 c3,.int .i64 c4,.sl c5 d5,.sl c6 d6] to)=[.int .i64 0,.int .i64 c0,.int .i64 c1,.int .i64 c2,.int .i64 c3,.int .i64 c4,.sl c5 d5,.sl c6 d6,.int .i64 0,.int .i64 0,.sl .nil [],.bool false,.sl .nil [],.int .i64 to]:=rfl
 rw[hs]
 generalize hS1:S++[aM.cells 68 false [.iv (.int .i64 0),.iv (.int .i64 c0),.iv (.int .i64 c1),.iv (.int .i64 c2),.iv (.int .i64 c3),.iv (.int .i64 c4),.iv (.sl c5 d5),.iv (.sl c6 d6),.iv (.int .i64 0),.iv (.int .i64 0),.iv (.sl .nil []),.iv (.bool false),.iv (.sl .nil []),.iv (.int .i64 to)]]=S1
 have k1:bC [] S S1:=by rw[←hS1]; exact bC.app _ _ _
 have y1:=k1.get _ _ (by simp) hy
 generalize hT:S1.set (n+3) (.lp .busy none (e23 jm n r t0 x6 x7 x8 x9 x10 x12 x13 x14) [12,13] xV xW)=T
 have k2:bC [n+3] S1 T:=by rw[←hT]; exact bC.set _ (by simp) _
 have t6:T[S.length]? = some (.cells 68 false [.iv (.int .i64 0),.iv (.int .i64 c0),.iv (.int .i64 c1),.iv (.int .i64 c2),.iv (.int .i64 c3),.iv (.int .i64 c4),.iv (.sl c5 d5),.iv (.sl c6 d6),.iv (.int .i64 0),.iv (.int .i64 0),.iv (.sl .nil []),.iv (.bool false),.iv (.sl .nil []),.iv (.int .i64 to)]):=by
  rw[←hT,bK (by omega),←hS1,cY]
 have k12:=(k1.mono (J:=[n+3]) (by simp)).trans k2
 have tb:=k12.get _ _ (by simp) h.b
 have ty:T[n+3]? = some (.lp .busy none (e23 jm n r t0 x6 x7 x8 x9 x10 x12 x13 x14) [12,13] xV xW):=by rw[←hT]; exact bW (bD y1) _
 have g6:=fun L=>iD t6 L
 have gb:=fun L=>iD tb L
 have hlt:=bD tb
 have hne:T.length≠n+1:=by omega
 let R:aM:=.cells 46 false [.iv (.int .i64 c0),.iv (.int .i64 c1),.iv (.int .i64 c2),.iv (.int .i64 c3),.iv (.int .i64 c4),.iv (.sl c5 d5),.iv (.sl .full [[.int .i64 a0,.int .i64 a1,.int .i64 a2,.int .i64 a3,.int .i64 a4,.sl a5 b5,.sl a6 b6]])]
 have k3:bC [n+1] T ((T++[R]).set (n+1) R):=(bC.app _ _ _).trans (bC.set _ (by simp) _)
 have y3:=k3.get _ _ (by simp) ty
 refine⟨((T++[R]).set (n+1) R).set (n+3) (.lp .ready none (e23 jm n r t0 x6 x7 x8 x9 x10 x12 x13 x14) [12,13] xV xW),?_,?_,?_⟩
 ·refine aBm (env2:=[.ptr jm 64 0,r,.iv (.agg t0),.ptr n 62 0,.ptr (n+1) 46 0,.hole,.ptr S.length 68 0,x7,x8,x9,x10,.fn 71 [] [.ptr (n+2) 72 0],.iv (.int .i64 i),.iv (.agg [.int .i64 0,.int .i64 c0,.int .i64 c1,.int .i64 c2,.int .i64 c3,.int .i64 c4,.sl c5 d5,.sl c6 d6,.int .i64 0,.int .i64 0,.sl .nil [],.bool false,.sl .nil [],.int .i64 to]),x14]) (env3:=[.ptr jm 64 0,r,.iv (.agg t0),.ptr n 62 0,.ptr (n+1) 46 0,.hole,.ptr S.length 68 0,.ptr T.length 46 0,x8,x9,x10,.fn 71 [] [.ptr (n+2) 72 0],.iv (.int .i64 i),.iv (.agg [.int .i64 0,.int .i64 c0,.int .i64 c1,.int .i64 c2,.int .i64 c3,.int .i64 c4,.sl c5 d5,.sl c6 d6,.int .i64 0,.int .i64 0,.sl .nil [],.bool false,.sl .nil [],.int .i64 to]),.iv (.bool true)]) (S1:=S1) (S2:=(T++[R]).set (n+1) R) hy rfl ?_ y1 ?_ y3
  ·subst hS1
   simp (config := { maxSteps := 4000000 }) (disch:=omega) only[xV,e23,go_sem]
  ·rw[hT]
   have gn:∀(X:aM) (L:aA),(T++X::L)[T.length]? = some X:=fun X L=>gN0 T X L
   simp (config := { maxSteps := 4000000 }) (disch:=omega) only[xW,go_sem,t6,g6,gb,tb]
   rfl
 ·refine⟨?_,?_,?_,⟨x6,x7,x8,x9,x10,x12,x13,x14,bW (bD y3) _⟩,?_,h.lt⟩
  ·rw[bK (by omega)]; exact k3.get _ _ (by simp) (k12.get _ _ (by simp) h.a)
  ·rw[bK (by omega),bW (by simp; omega)]; rfl
  ·rw[bK (by omega)]; exact k3.get _ _ (by simp) (k12.get _ _ (by simp) h.c)
  ·have hlt2:=h.lt
   exact ((h.ms.keep k12 (by simp; omega) (by simp; omega)).keep k3 (by simp; omega) (by simp; omega)).keep (bC.set (I:=[n+3]) _ (by simp) _) (by simp; omega) (by simp; omega)
 ·exact ((k12.mono (J:=[n+1,n+3]) (by simp)).trans (k3.mono (by simp))).trans (bC.set _ (by simp) _)
theorem bD4 {b0:Int}{m:Nat}(hb0:0≤b0∧b0≤1152921504606846976)(hC:pQ b0 m){S:aA}{n jm jf:Nat}{r:TV}{t0 t:List IV}{σ:Mk}{x:List IV×Mk}(h:YS S n jm jf r t0 t σ)(ht:TmO t){e:Ex}{to:Int}(he:XO e)(hx:eS m e (aV σ.nv) (σ.push (fnF .full [to] false true t)).var=some x)(hb:b0≤σ.nv)(hB:Bd b0 x.2)(i:Int) :
  ∃S',(lim K).yld (n+3) [.iv (.int .i64 i),.iv (.agg (encZ (.rs e to)))] S=.ret (.iv (.bool true),S')∧YS S' n jm jf r t0 (fP σ.nv σ.fs.length (.sl .full [x.1])) x.2∧bC [jm,jf,n+1,n+3] S S':=by
 obtain⟨x6,x7,x8,x9,x10,x12,x13,x14,hy⟩:=h.y
 obtain⟨a0,a1,a2,a3,a4,a5,a6,b5,b6,rfl⟩:=ht
 obtain⟨c0,c1,c2,c3,c4,c5,c6,d5,d6,hT⟩:=(dP m).code hx he
 have hl:=bD hy
 have hlt:=h.lt
 have hle:=(mono m).code hx
 have hnv:σ.nv<4611686018427387904:=by have h1:σ.nv+1≤x.2.nv:=hle.nv; have h2:=hB.hi; omega
 have hfs:σ.fs.length<1000000:=by have h1:=hle.len; have h2:=hB.fs; simp[Mk.push,Mk.var]at h1; omega
 have hs:encZ (.rs e to)=[.int .i64 1,.int .i64 0,.int .i64 0,.int .i64 0,.int .i64 0,.int .i64 0,.sl .nil [],.sl .nil [],.int .i64 e.k,.int .i64 e.n,.sl e.gv (TM.one (.int .i64) e.vs),.bool e.r,.sl e.g (bS e.ks),.int .i64 to]:=by
  rw[show encZ (.rs e to)=.int .i64 1::(zT++(eT e++[.int .i64 to])) from rfl,aZ]; rfl
 rw[hs]
 generalize hS1:S++[aM.cells 68 false [.iv (.int .i64 1),.iv (.int .i64 0),.iv (.int .i64 0),.iv (.int .i64 0),.iv (.int .i64 0),.iv (.int .i64 0),.iv (.sl .nil []),.iv (.sl .nil []),.iv (.int .i64 e.k),.iv (.int .i64 e.n),.iv (.sl e.gv (TM.one (.int .i64) e.vs)),.iv (.bool e.r),.iv (.sl e.g (bS e.ks)),.iv (.int .i64 to)]]=S1
 have k1:bC [] S S1:=by rw[←hS1]; exact bC.app _ _ _
 have y1:=k1.get _ _ (by simp) hy
 generalize hTT:S1.set (n+3) (.lp .busy none (e23 jm n r t0 x6 x7 x8 x9 x10 x12 x13 x14) [12,13] xV xW)=T
 have k2:bC [n+3] S1 T:=by rw[←hTT]; exact bC.set _ (by simp) _
 have t6:T[S.length]? = some (.cells 68 false [.iv (.int .i64 1),.iv (.int .i64 0),.iv (.int .i64 0),.iv (.int .i64 0),.iv (.int .i64 0),.iv (.int .i64 0),.iv (.sl .nil []),.iv (.sl .nil []),.iv (.int .i64 e.k),.iv (.int .i64 e.n),.iv (.sl e.gv (TM.one (.int .i64) e.vs)),.iv (.bool e.r),.iv (.sl e.g (bS e.ks)),.iv (.int .i64 to)]):=by
  rw[←hTT,bK (by omega),←hS1,cY]
 have k12:=(k1.mono (J:=[n+3]) (by simp)).trans k2
 have ta:=k12.get _ _ (by simp) h.a
 have tb:=k12.get _ _ (by simp) h.b
 have tc:=k12.get _ _ (by simp) h.c
 have ty:T[n+3]? = some (.lp .busy none (e23 jm n r t0 x6 x7 x8 x9 x10 x12 x13 x14) [12,13] xV xW):=by rw[←hTT]; exact bW (bD y1) _
 have hM:=h.ms.keep k12 (by simp; omega) (by simp; omega)
 -- the function
 have c20:=vC hM (.sl .full [[.int .i64 to]]) (.bool false) (.bool true) (.sl .nil []) (.int .i64 a0) (.int .i64 a1) (.int .i64 a2) (.int .i64 a3) (.int .i64 a4) (.sl a5 b5) (.sl a6 b6) rfl
 have hM2:=hM.push (f:=fnF .full [to] false true [.int .i64 a0,.int .i64 a1,.int .i64 a2,.int .i64 a3,.int .i64 a4,.sl a5 b5,.sl a6 b6]) rfl rfl hfs
 have kk2:bC [jm,jf] T _:=rC (S:=T) (jm:=jm) (jf:=jf) (.cells σ.fs.length true (cZ (σ.fs++[fnF .full [to] false true [.int .i64 a0,.int .i64 a1,.int .i64 a2,.int .i64 a3,.int .i64 a4,.sl a5 b5,.sl a6 b6]]))) (mkB jf (σ.push (fnF .full [to] false true [.int .i64 a0,.int .i64 a1,.int .i64 a2,.int .i64 a3,.int .i64 a4,.sl a5 b5,.sl a6 b6])))
 rw[show fnF .full [to] false true [.int .i64 a0,.int .i64 a1,.int .i64 a2,.int .i64 a3,.int .i64 a4,.sl a5 b5,.sl a6 b6]=[.sl .full [[.int .i64 to]],.bool false,.bool true,.sl .nil [],.int .i64 a0,.int .i64 a1,.int .i64 a2,.int .i64 a3,.int .i64 a4,.sl a5 b5,.sl a6 b6] from rfl]at hM2 kk2 hx
 generalize hσ2:σ.push [.sl .full [[.int .i64 to]],.bool false,.bool true,.sl .nil [],.int .i64 a0,.int .i64 a1,.int .i64 a2,.int .i64 a3,.int .i64 a4,.sl a5 b5,.sl a6 b6]=σ2 at *
 have hnv2:σ2.nv=σ.nv:=by rw[←hσ2]; rfl
 generalize hT2:(T.set jf (.cells σ.fs.length true (cZ (σ.fs++[[.sl .full [[.int .i64 to]],.bool false,.bool true,.sl .nil [],.int .i64 a0,.int .i64 a1,.int .i64 a2,.int .i64 a3,.int .i64 a4,.sl a5 b5,.sl a6 b6]])))).set jm (mkB jf σ2)=T2 at *
 -- the variable
 have c22:=aDu hM2 (σ.fs.length:Int)
 have hM3:=hM2.var (by omega)
 have kk3:bC [jm,jf] T2 (T2.set jm (mkB jf σ2.var)):=hO _
 generalize hT3:T2.set jm (mkB jf σ2.var)=T3 at *
 rw[hnv2]at c22
 -- the step in memory
 let Z:aM:=.cells 68 false [.iv (.int .i64 0),.iv (.int .i64 2),.iv (.int .i64 σ.nv),.iv (.int .i64 0),.iv (.int .i64 0),.iv (.int .i64 σ.fs.length),.iv (.sl .nil []),.iv (.sl .nil []),.iv (.int .i64 0),.iv (.int .i64 0),.iv (.sl .nil []),.iv (.bool false),.iv (.sl .nil []),.iv (.int .i64 σ.nv)]
 have kk4:bC [] T3 (T3++[Z]):=bC.app _ _ _
 have hM4:=hM3.keep kk4 (by simp) (by simp)
 have z4:(T3++[Z])[T3.length]? = some Z:=cY _ _
 -- the code
 obtain⟨T5,c24,hM5,kk5⟩:=hC hx he (by show b0≤σ2.nv+1; omega) hB hM4
 have c25:=kY σ.nv
 have q23:=(kk2.trans kk3).trans (kk4.mono (by simp))
 have q25:=q23.trans kk5
 have ne3:T3.length≠jm∧T3.length≠jf:=by have:=bD hM3.own; have:=bD hM3.row; omega
 have z5:=kk5.get _ _ (by simp; omega) z4
 have t6b:=(kk2.get _ _ (by simp; omega) t6)
 have t6c:=kk3.get _ _ (by simp; omega) t6b
 have t6d:=kk4.get _ _ (by simp) t6c
 have tab:=kk2.get _ _ (by simp; omega) ta
 have tac:=kk4.get _ _ (by simp) (kk3.get _ _ (by simp; omega) tab)
 have tbb:=q25.get _ _ (by simp; omega) tb
 rw[hT]at c24 ⊢
 rw[aZ]at c24
 have l3:=bD hM3.own
 have l3n:n+3<T3.length:=bD (kk3.get _ _ (by simp; omega) (kk2.get _ _ (by simp; omega) ty))
 have p2:∀X,(T5.set T3.length X)[T3.length]? = some X:=fun X=>bW (bD z5) X
 have p3:∀X,(T5.set T3.length X)[n+1]? = T5[n+1]? := fun X=>bK (by omega) X
 let Z':aM:=.cells 68 false [.iv (.int .i64 0),.iv (.int .i64 2),.iv (.int .i64 σ.nv),.iv (.int .i64 0),.iv (.int .i64 0),.iv (.int .i64 σ.fs.length),.iv (.sl .nil []),.iv (.sl .full [[.int .i64 c0,.int .i64 c1,.int .i64 c2,.int .i64 c3,.int .i64 c4,.sl c5 d5,.sl c6 d6]]),.iv (.int .i64 0),.iv (.int .i64 0),.iv (.sl .nil []),.iv (.bool false),.iv (.sl .nil []),.iv (.int .i64 σ.nv)]
 let R:aM:=.cells 46 false [.iv (.int .i64 2),.iv (.int .i64 σ.nv),.iv (.int .i64 0),.iv (.int .i64 0),.iv (.int .i64 σ.fs.length),.iv (.sl .nil []),.iv (.sl .full [[.int .i64 c0,.int .i64 c1,.int .i64 c2,.int .i64 c3,.int .i64 c4,.sl c5 d5,.sl c6 d6]])]
 have kz:bC [T3.length] T5 (T5.set T3.length Z'):=bC.set _ (by simp) _
 have kr:bC [n+1] (T5.set T3.length Z') ((T5.set T3.length Z').set (n+1) R):=bC.set _ (by simp) _
 have ybb:=q25.get _ _ (by simp; omega) ty
 have y6:=kr.get _ _ (by simp) (kz.get _ _ (by simp; omega) ybb)
 have ta2:=kk2.get _ _ (by simp; omega) ta
 refine⟨((T5.set T3.length Z').set (n+1) R).set (n+3) (.lp .ready none (e23 jm n r t0 x6 x7 x8 x9 x10 x12 x13 x14) [12,13] xV xW),?_,?_,?_⟩
 ·refine aBm (env2:=[.ptr jm 64 0,r,.iv (.agg t0),.ptr n 62 0,.ptr (n+1) 46 0,.hole,.ptr S.length 68 0,x7,x8,x9,x10,.fn 71 [] [.ptr (n+2) 72 0],.iv (.int .i64 i),.iv (.agg [.int .i64 1,.int .i64 0,.int .i64 0,.int .i64 0,.int .i64 0,.int .i64 0,.sl .nil [],.sl .nil [],.int .i64 e.k,.int .i64 e.n,.sl e.gv (TM.one (.int .i64) e.vs),.bool e.r,.sl e.g (bS e.ks),.int .i64 to]),x14]) (env3:=[.ptr jm 64 0,r,.iv (.agg t0),.ptr n 62 0,.ptr (n+1) 46 0,.hole,.ptr S.length 68 0,x7,.iv (.int .i64 σ.fs.length),.ptr T3.length 68 0,.iv (.int .i64 σ.nv),.fn 71 [] [.ptr (n+2) 72 0],.iv (.int .i64 i),.iv (.agg [.int .i64 1,.int .i64 0,.int .i64 0,.int .i64 0,.int .i64 0,.int .i64 0,.sl .nil [],.sl .nil [],.int .i64 e.k,.int .i64 e.n,.sl e.gv (TM.one (.int .i64) e.vs),.bool e.r,.sl e.g (bS e.ks),.int .i64 to]),.iv (.bool false)]) (S1:=S1) (S2:=(T5.set T3.length Z').set (n+1) R) hy rfl ?_ y1 ?_ y6
  ·subst hS1
   simp (config := { maxSteps := 4000000 }) (disch:=omega) only[xV,e23,go_sem]
  ·rw[hTT]
   unfold aV mO at *
   simp only[Z]at tac t6d c24 z5
   simp (config := { maxSteps := 4000000 }) (disch:=omega) only[xW,go_sem,t6,ta,tb,c20,ta2,c22,tac,t6d,aQ c25,c24,z5,p2,p3,tbb]
   rfl
 ·refine⟨?_,?_,?_,⟨x6,x7,x8,x9,x10,x12,x13,x14,bW (bD y6) _⟩,?_,h.lt⟩
  ·rw[bK (by omega)]; exact kr.get _ _ (by simp) (kz.get _ _ (by simp; omega) (q25.get _ _ (by simp; omega) ta))
  ·rw[bK (by omega),bW (by simp; exact bD tbb)]; rfl
  ·rw[bK (by omega)]; exact kr.get _ _ (by simp) (kz.get _ _ (by simp; omega) (q25.get _ _ (by simp; omega) tc))
  ·exact ((hM5.keep kz (by simp; omega) (by simp; omega)).keep kr (by simp; omega) (by simp; omega)).keep (bC.set (I:=[n+3]) _ (by simp) _) (by simp; omega) (by simp; omega)
 ·refine⟨?_,fun q B hq hb=>?_⟩
  ·have:=q25.len; have:=k12.len; simp; omega
  ·simp at hq
   have hlq:=bD hb
   have u1:=k12.get q B (by simp; omega) hb
   have u2:=q25.get q B (by simp; omega) u1
   have hlS:S.length≤T3.length:=by have:=k12.len; have:=kk2.len; have:=kk3.len; omega
   exact (bC.set (I:=[n+3]) _ (by simp) _).get q B (by simp; omega) (kr.get q B (by simp; omega) (kz.get q B (by simp; omega) u2))
def sK (b0:Int)(n:Nat):Prop:=∀ {l:List St} {r:TV} {t:List IV} {σ:Mk} {x:List IV×Mk} {S:aA} {jm jf:Nat},cC n l.reverse t σ=some x→SR r (dS l)→TmO t→(∀s∈l,SO s)→l.length≤2000000→b0≤σ.nv→Bd b0 x.2→MkS S jm jf σ →
 ∃S',(lim K).call 23 [.ptr jm 64 0,r,.iv (.agg t)] S=.ret (.iv (.agg x.1),S')∧MkS S' jm jf x.2∧bC [jm,jf] S S'
theorem aSp (env:Env)(S:aA)(a b c d e f g h i j k l m n:IV):bB env S (.iv (.cp [a,b,c,d,e,f,g,h,i,j,k,l,m,n])) 14=some [.iv a,.iv b,.iv c,.iv d,.iv e,.iv f,.iv g,.iv h,.iv i,.iv j,.iv k,.iv l,.iv m,.iv n]:=by simp[bB,sub]
attribute [go_sem] aSp
theorem SR.len {r:TV}{l:List (List IV)}(h:SR r l)(S:aA):aB6 .sl S r=some (.iv (.int .i64 l.length)):=by
 rcases h with⟨rfl,rfl⟩|⟨j,rfl⟩|rfl<;>rfl
theorem SR.ix {r:TV}{l:List St}(h:SR r (dS l)){i:Nat}(hi:i<l.length)(ho:∀s∈l,SO s):indexAddrS 14 r (i:Int)=some (.iv (.cp (encZ l[i]))):=by
 have hg:(dS l)[(i:Int).toNat]? = some (encZ l[i]):=by
  rw[Int.toNat_natCast]
  unfold dS
  rw[List.getElem?_map,List.getElem?_eq_getElem hi]
  rfl
 have hw:(encZ l[i]).length=14:=(lX ho _ (List.mem_of_getElem? hg)).1
 rcases h with⟨h0,rfl⟩|⟨j,rfl⟩|rfl
 ·rw[h0]at hg; simp at hg
 ·exact wB (by omega) hg hw
 ·exact pJ (by omega) hg hw
theorem aI3 {b0:Int}{N:Nat}(hb0:0≤b0∧b0≤1152921504606846976)(hC:∀m,m≤N→pQ b0 m){n jm jf:Nat}{r:TV}{t0:List IV}{L:List St}(hr:SR r (dS L))(hL:∀s∈L,SO s)(hl:L.length≤2000000):∀(k f:Nat) (t:List IV) (σ:Mk) (x:List IV×Mk) (S:aA) (x3 x4:TV),k≤L.length→f≤N+1→cC f (L.take k).reverse t σ=some x→TmO t→b0≤σ.nv→Bd b0 x.2→YS S n jm jf r t0 t σ →
  ∃(S':aA) (y3 y4:TV),lp' (lim K) t71L0 [.yld (n+3),.ptr (n+2) 72 0,.iv (.int .i64 ((k:Int)-1)),x3,x4] S=.ret (.exit 0,[.yld (n+3),.ptr (n+2) 72 0,.iv (.int .i64 (-1)),y3,y4],S')∧YS S' n jm jf r t0 x.1 x.2∧bC [jm,jf,n+1,n+3] S S'
 | 0,f,t,σ,x,S,x3,x4,hk,hf,hx,ht,hb,hB,hY=>by
  cases f with
  | zero=>simp[cC]at hx
  | succ f =>
   rw[List.take_zero,List.reverse_nil,cC]at hx
   cases hx
   refine⟨S,.iv (.bool false),x4,aN K _ _ t71L0.eq_1 ?_,hY,bC.refl _ _⟩
   rw[show ((0:Nat):Int)-1 = -1 from rfl]
   simp (config := { maxSteps := 4000000 }) (disch:=omega) only[go_sem]
 | k+1,f,t,σ,x,S,x3,x4,hk,hf,hx,ht,hb,hB,hY=>by
  have hla:k<L.length:=by omega
  have hts:(L.take (k+1)).reverse=L[k]::(L.take k).reverse:=by
   rw[List.take_add_one,List.getElem?_eq_getElem hla]; simp
  rw[hts]at hx
  have hix:=hr.ix hla hL
  have hso:=hL L[k] (List.getElem_mem _)
  have hc:=hY.c
  rw[show (((k+1:Nat):Int)-1)=(k:Int) by omega]
  cases f with
  | zero=>simp[cC]at hx
  | succ f =>
   generalize L[k]=s at *
   cases s with
   | tm c to =>
    have hcT:TmO c:=hso
    rw[cC]at hx
    obtain⟨S1,y1,hY1,k1⟩:=bD3 hY ht hcT to (k:Int)
    obtain⟨S2,z3,z4,ih,hY2,k2⟩:=aI3 hb0 hC hr hL hl k f _ σ x S1 (.iv (.bool true)) (.iv (.bool false)) (by omega) (by omega) hx (TmO.kids hcT _ _) hb hB hY1
    refine⟨S2,z3,z4,aN K _ _ t71L0.eq_1 ?_,hY2,(k1.mono (by simp)).trans k2⟩
    obtain⟨c0,c1,c2,c3,c4,c5,c6,d5,d6,rfl⟩:=hcT
    rw[show encZ (.tm [.int .i64 c0,.int .i64 c1,.int .i64 c2,.int .i64 c3,.int .i64 c4,.sl c5 d5,.sl c6 d6] to)=[.int .i64 0,.int .i64 c0,.int .i64 c1,.int .i64 c2,.int .i64 c3,.int .i64 c4,.sl c5 d5,.sl c6 d6,.int .i64 0,.int .i64 0,.sl .nil [],.bool false,.sl .nil [],.int .i64 to] from rfl]at hix y1
    simp (config := { maxSteps := 4000000 }) (disch:=omega) only[go_sem,hc,hix,y1,er_ret,aF]
    exact congrArg er ih
   | rs e to =>
    have heX:XO e:=hso
    rw[cC]at hx
    obtain⟨y,hy,hx⟩:=Option.bind_eq_some_iff.1 hx
    have l1:=(mono f).code hy
    have l2:=(mono f).laid hx
    obtain⟨S1,y1,hY1,k1⟩:=bD4 hb0 (hC f (by omega)) hY ht heX hy hb (hB.le l2) (k:Int)
    obtain⟨S2,z3,z4,ih,hY2,k2⟩:=aI3 hb0 hC hr hL hl k f _ y.2 x S1 (.iv (.bool true)) (.iv (.bool false)) (by omega) (by omega) hx (TmO.fun ..) (by have:σ.nv+1≤y.2.nv:=l1.nv; omega) hB hY1
    refine⟨S2,z3,z4,aN K _ _ t71L0.eq_1 ?_,hY2,k1.trans k2⟩
    have hs:encZ (.rs e to)=[.int .i64 1,.int .i64 0,.int .i64 0,.int .i64 0,.int .i64 0,.int .i64 0,.sl .nil [],.sl .nil [],.int .i64 e.k,.int .i64 e.n,.sl e.gv (TM.one (.int .i64) e.vs),.bool e.r,.sl e.g (bS e.ks),.int .i64 to]:=by
     rw[show encZ (.rs e to)=.int .i64 1::(zT++(eT e++[.int .i64 to])) from rfl,aZ]; rfl
    rw[hs]at hix y1
    simp (config := { maxSteps := 4000000 }) (disch:=omega) only[go_sem,hc,hix,y1,er_ret,aF]
    exact congrArg er ih
theorem bD5 {r:TV}{l:List (List IV)}(h:SR r l)(S:aA):(lim K).call 44 [r] S=.ret (.fn 71 [] [.ptr S.length 72 0],S++[.cells 72 false [r]]):=by
 refine aB K _ (fn:=t44) rfl rfl ?_
 rcases h with⟨rfl,rfl⟩|⟨j,rfl⟩|rfl <;>
  simp (config := { maxSteps := 4000000 }) (disch:=omega) only[t44,go_sem]
theorem aOb {b0:Int}{N:Nat}(hb0:0≤b0∧b0≤1152921504606846976)(hC:∀m,m≤N→pQ b0 m):sK b0 (N+1):=by
 intro l r t σ x S jm jf hx hr ht hl hlen hb hB hM
 have hj:jm<S.length∧jf<S.length:=⟨bD hM.own,bD hM.row⟩
 generalize hS4:S++[aM.cells 62 false [.ptr jm 64 0],.cells 46 false (t.map .iv),.cells 72 false [r],.lp .ready none (e23 jm S.length r t u_ u_ u_ u_ u_ u_ u_ u_) [12,13] xV xW]=S4
 have k4:bC [] S S4:=by rw[←hS4]; exact bC.app _ _ _
 have hY:YS S4 S.length jm jf r t t σ:=by
  refine⟨?_,?_,?_,⟨u_,u_,u_,u_,u_,u_,u_,u_,?_⟩,hM.keep k4 (by simp) (by simp),hj⟩<;>(rw[←hS4]; simp)
 obtain⟨S5,y3,y4,l1,hY5,k5⟩:=aI3 hb0 hC hr hl hlen l.length (N+1) t σ x S4 u_ u_ (Nat.le_refl _) (Nat.le_refl _) (by rw[List.take_length]; exact hx) ht hb hB hY
 have hc4:=hY.c
 have hlen4:=hr.len S4
 rw[lS]at hlen4
 have c71:(lim K).call 71 [.yld (S.length+3),.ptr (S.length+2) 72 0] S4=.ret (u_,S5):=by
  refine aB K _ (fn:=t71) rfl rfl ?_
  simp (config := { maxSteps := 4000000 }) (disch:=omega) only[t71,go_sem,hc4,hlen4,aF]
  rw[l1]
  simp (config := { maxSteps := 4000000 }) (disch:=omega) only[go_sem]
 have c44:=bD5 hr (S++[aM.cells 62 false [.ptr jm 64 0],.cells 46 false (t.map .iv)])
 rw[show (S++[aM.cells 62 false [.ptr jm 64 0],.cells 46 false (t.map .iv)]).length=S.length+2 by simp]at c44
 obtain⟨x6,x7,x8,x9,x10,x12,x13,x14,hy5⟩:=hY5.y
 have hb5:=hY5.b
 have hlt:=bD hy5
 have hb6:∀X,(S5.set (S.length+3) X)[S.length+1]? = some (.cells 46 false (x.1.map .iv)):=fun X=>by rw[bK (by omega)]; exact hb5
 obtain⟨a0,a1,a2,a3,a4,a5,a6,b5,b6,rfl⟩:=ht
 obtain⟨c0,c1,c2,c3,c4,c5,c6,d5,d6,hT⟩:=(dP (N+1)).laid hx ⟨_,_,_,_,_,_,_,_,_,rfl⟩ (fun s hs=>hl s (List.mem_reverse.1 hs))
 rw[hT]at hb6 ⊢
 have hk5:bC [jm,jf] S S5:=⟨Nat.le_trans k4.len k5.len,fun q B hq hb=>by
  have:=bD hb
  exact k5.get q B (by simp at hq ⊢; omega) (k4.get q B (by simp) hb)⟩
 refine⟨S5.set (S.length+3) (.lp .exhausted none (e23 jm S.length r [.int .i64 a0,.int .i64 a1,.int .i64 a2,.int .i64 a3,.int .i64 a4,.sl a5 b5,.sl a6 b6] x6 x7 x8 x9 x10 x12 x13 x14) [12,13] xV xW),aB K _ (fn:=t23) rfl rfl ?_,hY5.ms.keep (bC.set (I:=[S.length+3]) _ (by simp) _) (by simp; omega) (by simp; omega),⟨by simpa using hk5.len,fun q B hq hb=>by
  have:=bD hb
  rw[bK (by omega)]; exact hk5.get q B hq hb⟩⟩
 rw[←hS4]at c71
 unfold xV xW e23 at *
 simp only[List.map_cons,List.map_nil]at c44 c71 hb6
 rcases hr with⟨_,rfl⟩|⟨j,rfl⟩|rfl
 ·simp (config := { maxSteps := 4000000 }) (disch:=omega) only[t23,go_sem,List.append_assoc,List.length_append,List.length_cons,List.length_nil,c44,c71,hy5,hb6]
 ·simp (config := { maxSteps := 4000000 }) (disch:=omega) only[t23,go_sem,List.append_assoc,List.length_append,List.length_cons,List.length_nil,c44,c71,hy5,hb6]
 ·simp (config := { maxSteps := 4000000 }) (disch:=omega) only[t23,go_sem,List.append_assoc,List.length_append,List.length_cons,List.length_nil,c44,c71,hy5,hb6]
def aSq (b0:Int)(n:Nat):Prop:=∀ {e:Ex} {k0 k1:Int} {σ:Mk} {x:List IV×Mk} {S:aA} {jm jf:Nat},nB n e [.int .i64 k0,.int .i64 k1] σ=some x→XO e→b0≤σ.nv→Bd b0 x.2→MkS S jm jf σ →
 ∃S',(lim K).call 50 [.ptr jm 64 0,.iv (.agg (eT e)),.iv (.agg [.int .i64 k0,.int .i64 k1])] S=.ret (.iv (.agg x.1),S')∧MkS S' jm jf x.2∧bC [jm,jf] S S'
def aSr (b0:Int)(n:Nat):Prop:=∀ {l:List Ex} {g:Tag} {k0 k1:Int} {σ:Mk} {x:List IV×Mk} {S:aA} {jm jf:Nat},nC n l [.int .i64 k0,.int .i64 k1] σ=some x→(∀e∈l,XO e)→fN g l→l.length≤1048576→b0≤σ.nv→Bd b0 x.2→MkS S jm jf σ →
 ∃S',(lim K).call 49 [.ptr jm 64 0,.iv (.sl g (bS l)),.iv (.agg [.int .i64 k0,.int .i64 k1])] S=.ret (.iv (.agg x.1),S')∧MkS S' jm jf x.2∧bC [jm,jf] S S'
theorem bGy {S:aA}{j:Nat}{a:List IV}{r:List (List IV)}(h:cX 2 (a::r)):cP S (.sl 2) (.tsl j (a::r)) none (some 1) none=some (.iv (.sl .no [a])):=by
 have hf:nE 2 (a::r)=true:=qX (fun y hy=>(h y hy).1)
 simp[cP,hf,fH,eN,lJ,show (1:Int)≤(r.length:Int)+1 by omega]
theorem bGz {S:aA}{j:Nat}{a:List IV}{r:List (List IV)}(h:cX 2 (a::r)):cP S (.sl 2) (.tsl j (a::r)) (some 1) none none=some (.iv (.sl .no r)):=by
 have hf:nE 2 (a::r)=true:=qX (fun y hy=>(h y hy).1)
 simp[cP,hf,fH,eN,lJ,show (1:Int)≤(r.length:Int)+1 by omega]
theorem aOc {b0:Int}{n:Nat}(hb0:0≤b0∧b0≤1152921504606846976)(hV:tI b0 n)(hVs:kE b0 n)(hLd:sK b0 n)(hC:pQ b0 n)(hCt:aSq b0 n)(hSq:aSr b0 n):pQ b0 (n+1):=by
 intro e k0 k1 σ x S jm jf hx ho hb hB hM
 have hwe:=Ex.w_eq e
 have hw2:=ho.2
 have hkl:=Ex.ws_len e.ks
 have hlE:=aL e.ks
 rw[eS]at hx
 by_cases h8:e.k=8
 ·rw[if_pos h8]at hx
  obtain⟨y,hy,hx⟩:=Option.bind_eq_some_iff.1 hx
  obtain⟨s1,s2,s3,s4⟩:=(dP n).values hy (fun x hx=>ho.kid hx)
  split at hx
  ·cases hx
  ·rename_i a r hat
   have l1:=(mono n).values hy
   have l2:=(mono n).laid hx
   have hBy:Bd b0 y.2.2:=hB.le l2
   obtain⟨js,ja,S1,c45,g1,g2,hd,hM1,hk1⟩:=hVs (g:=e.g) hy (fun x hx=>ho.kid hx) (by omega) hb hBy hM
   rw[hat]at c45 s1 s4
   have hel:=AtO.el s1
   have hea:cX 2 [a]:=fun y hy=>by rw[List.mem_singleton]at hy; subst hy; exact hel _ (by simp)
   have her:cX 2 r:=fun y hy=>hel y (by simp[hy])
   rw[List.length_cons]at s4
   have c47:=bD2 [(.no,[a]),(.full,[[.int .i64 k0,.int .i64 k1]]),(.no,r)] (by simp) (by
    intro p hp
    simp at hp
    rcases hp with rfl|rfl|rfl
    ·exact hea
    ·intro y hy; simp at hy; subst hy; exact⟨rfl,rfl⟩
    ·exact her) (by simp only[pP,List.length_cons,List.length_nil]; omega) (by simp only[pP,List.length_cons,List.length_nil]; omega) S1
   have hcat:aBt [((.no:Tag),[a]),(.full,[[.int .i64 k0,.int .i64 k1]]),(.no,r)]=a::[.int .i64 k0,.int .i64 k1]::r:=by simp[aBt]
   rw[hcat,show [((.no:Tag),[a]),(.full,[[.int .i64 k0,.int .i64 k1]]),(.no,r)].map vE=[[.sl .no [a]],[.sl .full [[.int .i64 k0,.int .i64 k1]]],[.sl .no r]] from rfl]at c47
   generalize hS2:S1++[aM.tok (a::[.int .i64 k0,.int .i64 k1]::r).length 2 53]=S2 at *
   have kap:bC [] S1 S2:=by rw[←hS2]; exact bC.app _ _ _
   have hM2:=hM1.keep kap (by simp) (by simp)
   have c46:=bD0 S2 S1.length (l:=a::[.int .i64 k0,.int .i64 k1]::r) (by simp)
   rw[eP _ (by simp)]at c46
   obtain⟨S3,c23,hM3,hk3⟩:=hLd hx (SR.acc js _) (TmO.call ..) s2 (by have:=hBy.hi; omega) (Int.le_trans hb l1.nv) hB hM2
   refine⟨S3,aB K _ (fn:=t24) rfl rfl ?_,hM3,(hk1.trans (kap.mono (by simp))).trans hk3⟩
   obtain⟨u0,u1,u2,u3,u4,u5,u6,v5,v6,hXT⟩:=(dP n).laid hx (TmO.call ..) (fun s hs=>s2 s (List.mem_reverse.1 hs))
   rw[hXT]at c23 ⊢
   rw[eP ja (by simp)]at c45
   have q1:=fun S=>bGy (S:=S) (j:=ja) hel
   have q2:=fun S=>bGz (S:=S) (j:=ja) hel
   unfold jH at *
   rw[aZ]
   simp (config := { maxSteps := 4000000 }) (disch:=omega) only[t24,go_sem,c45,q1,q2,c47,c46,c23]
 ·rw[if_neg h8]at hx
  by_cases h6:e.k=6
  ·rw[if_pos h6]at hx
   split at hx
   ·rename_i c p q rr hks
    obtain⟨y,hy,hx⟩:=Option.bind_eq_some_iff.1 hx
    obtain⟨z,hz,hx⟩:=Option.bind_eq_some_iff.1 hx
    obtain⟨w,hw,hx⟩:=Option.bind_eq_some_iff.1 hx
    have oc:XO c:=ho.kid (by rw[hks]; simp)
    have op:XO p:=ho.kid (by rw[hks]; simp)
    have oq:XO q:=ho.kid (by rw[hks]; simp)
    have l1:=(mono n).value hy
    have l2:=(mono n).code hz
    have l3:=(mono n).code hw
    have l4:=(mono n).laid hx
    obtain⟨⟨a0,a1,ha⟩,s2,s3⟩:=(dP n).value hy oc
    obtain⟨rv,S1,c48,hr,hM1,hk1⟩:=hV hy oc hb (hB.le ((l2.trans l3).trans l4)) hM
    obtain⟨S2,c24a,hM2,hk2⟩:=hC hz op (Int.le_trans hb l1.nv) (hB.le (l3.trans l4)) hM1
    obtain⟨S3,c24b,hM3,hk3⟩:=hC hw oq (Int.le_trans hb (l1.trans l2).nv) (hB.le l4) hM2
    have hBy:Bd b0 y.2.2:=hB.le ((l2.trans l3).trans l4)
    obtain⟨S4,c23,hM4,hk4⟩:=hLd hx hr (TmO.if ..) s2 (by have:=hBy.hi; omega) (Int.le_trans hb ((l1.trans l2).trans l3).nv) hB hM3
    have hix:∀i:Int,0≤i∧i<e.ks.length→indexAddrS 5 (.iv (.sl e.g (bS e.ks))) i=some (.iv (.cp (eT (e.ks.getD i.toNat default)))):=fun i hi=>ixE hi
    have h3l:3≤e.ks.length:=by rw[hks]; simp
    have i0:=hix 0 (by omega)
    have i1:=hix 1 (by omega)
    have i2:=hix 2 (by omega)
    rw[show e.ks.getD (0:Int).toNat default=c by rw[hks]; rfl]at i0
    rw[show e.ks.getD (1:Int).toNat default=p by rw[hks]; rfl]at i1
    rw[show e.ks.getD (2:Int).toNat default=q by rw[hks]; rfl]at i2
    have gc:=wL (d:=c)
    have gp:=wL (d:=p)
    have gq:=wL (d:=q)
    obtain⟨c0,c1,c2,c3,c4,c5,c6,d5,d6,hT1⟩:=(dP n).code hz op
    obtain⟨e0,e1,e2,e3,e4,e5,e6,f5,f6,hT2⟩:=(dP n).code hw oq
    obtain⟨u0,u1,u2,u3,u4,u5,u6,v5,v6,hXT⟩:=(dP n).laid hx (TmO.if ..) (fun s hs=>s2 s (List.mem_reverse.1 hs))
    rw[hXT]at c23 ⊢
    rw[ha]at c48 c23
    rw[hT1]at c24a c23
    rw[hT2]at c24b c23
    rw[aZ]at c48 c24a c24b i0 i1 i2 gc gp gq ⊢
    unfold ifT at *
    refine⟨S4,aB K _ (fn:=t24) rfl rfl ?_,hM4,((hk1.trans hk2).trans hk3).trans hk4⟩
    rcases hr with⟨_,rfl⟩|⟨j,rfl⟩|rfl
    ·simp (config := { maxSteps := 4000000 }) (disch:=omega) only[t24,go_sem,i0,i1,i2,gc,gp,gq,c48,c24a,c24b,c23]
    ·simp (config := { maxSteps := 4000000 }) (disch:=omega) only[t24,go_sem,i0,i1,i2,gc,gp,gq,c48,c24a,c24b,c23]
    ·simp (config := { maxSteps := 4000000 }) (disch:=omega) only[t24,go_sem,i0,i1,i2,gc,gp,gq,c48,c24a,c24b,c23]
   ·cases hx
  ·rw[if_neg h6]at hx
   by_cases h10:e.k=10
   ·rw[if_pos h10]at hx
    obtain⟨S1,c49,hM1,hk1⟩:=hSq (g:=e.g) hx (fun x hx=>ho.kid hx) ((Ex.ok_eq e).1 ho.1).2.2.2.2.1 (by omega) hb hB hM
    obtain⟨c0,c1,c2,c3,c4,c5,c6,d5,d6,hT⟩:=(dP n).sq hx (fun x hx=>ho.kid hx)
    rw[hT]at c49 ⊢
    refine⟨S1,aB K _ (fn:=t24) rfl rfl ?_,hM1,hk1⟩
    rw[aZ]
    simp (config := { maxSteps := 4000000 }) (disch:=omega) only[t24,go_sem,c49]
   ·rw[if_neg h10]at hx
    by_cases h11:e.k=11
    ·rw[if_pos h11]at hx
     obtain⟨S1,c50,hM1,hk1⟩:=hCt hx ho hb hB hM
     obtain⟨c0,c1,c2,c3,c4,c5,c6,d5,d6,hT⟩:=(dP n).ctl hx ho
     rw[hT]at c50 ⊢
     refine⟨S1,aB K _ (fn:=t24) rfl rfl ?_,hM1,hk1⟩
     rw[aZ]at c50 ⊢
     simp (config := { maxSteps := 4000000 }) (disch:=omega) only[t24,go_sem,c50]
    ·rw[if_neg h11]at hx
     obtain⟨y,hy,hx⟩:=Option.bind_eq_some_iff.1 hx
     have l1:=(mono n).value hy
     have l4:=(mono n).laid hx
     obtain⟨⟨a0,a1,ha⟩,s2,s3⟩:=(dP n).value hy ho
     have hBy:Bd b0 y.2.2:=hB.le l4
     obtain⟨rv,S1,c48,hr,hM1,hk1⟩:=hV hy ho hb hBy hM
     have c46:=yL S1 [[.int .i64 k0,.int .i64 k1],[.int .i64 a0,.int .i64 a1]]
     rw[ha]at hx
     obtain⟨S4,c23,hM4,hk4⟩:=hLd hx hr (TmO.call ..) s2 (by have:=hBy.hi; omega) (Int.le_trans hb l1.nv) hB hM1
     obtain⟨c0,c1,c2,c3,c4,c5,c6,d5,d6,hT⟩:=(dP n).laid hx (TmO.call ..) (fun s hs=>s2 s (List.mem_reverse.1 hs))
     rw[hT]at c23 ⊢
     rw[ha]at c48
     rw[aZ]at c48 ⊢
     unfold jH at *
     refine⟨S4,aB K _ (fn:=t24) rfl rfl ?_,hM4,hk1.trans hk4⟩
     rcases hr with⟨_,rfl⟩|⟨j,rfl⟩|rfl
     ·simp (config := { maxSteps := 4000000 }) (disch:=omega) only[t24,go_sem,c48,c46,c23]
     ·simp (config := { maxSteps := 4000000 }) (disch:=omega) only[t24,go_sem,c48,c46,c23]
     ·simp (config := { maxSteps := 4000000 }) (disch:=omega) only[t24,go_sem,c48,c46,c23]
def pR (v f:Int):aM:=.cells 68 false [.iv (.int .i64 0),.iv (.int .i64 2),.iv (.int .i64 v),.iv (.int .i64 0),.iv (.int .i64 0),.iv (.int .i64 f),.iv (.sl .nil []),.iv (.sl .nil []),.iv (.int .i64 0),.iv (.int .i64 0),.iv (.sl .nil []),.iv (.bool false),.iv (.sl .nil []),.iv (.int .i64 v)]
def iP:aM:=.cells 68 false [.iv (.int .i64 0),.iv (.int .i64 0),.iv (.int .i64 0),.iv (.int .i64 0),.iv (.int .i64 0),.iv (.int .i64 0),.iv (.sl .nil []),.iv (.sl .nil []),.iv (.int .i64 0),.iv (.int .i64 0),.iv (.sl .nil []),.iv (.bool false),.iv (.sl .nil []),.iv (.int .i64 0)]
theorem aDv {U:aA}{jm jf z:Nat}{σ:Mk}{f:List IV}(hM:MkS U jm jf σ)(hz:U[z]? = some iP)(hf:f.length=11)(hfc:f.all hG=true)(hfs:σ.fs.length<1000000)(hnv:σ.nv<4611686018427387904) :
  ∃(T4:aA),(lim K).call 22 [.ptr jm 64 0,.iv (.int .i64 σ.fs.length)] ((U.set jf (.cells σ.fs.length true (cZ (σ.fs++[f])))).set jm (mkB jf (σ.push f)))=.ret (.tup [.iv (.agg (mO σ.nv σ.fs.length)),.iv (.int .i64 σ.nv)],T4) ∧
   T4[z]? = some iP∧(T4.set z (pR σ.nv σ.fs.length))[z]? = some (pR σ.nv σ.fs.length)∧MkS (T4.set z (pR σ.nv σ.fs.length)) jm jf (σ.push f).var∧bC [jm,jf] U T4∧bC [jm,jf,z] U (T4.set z (pR σ.nv σ.fs.length)):=by
 have hM2:=hM.push hf hfc hfs
 have c22:=aDu hM2 (σ.fs.length:Int)
 rw[show (σ.push f).nv=σ.nv from rfl]at c22
 have hM3:=hM2.var hnv
 have k2:bC [jm,jf] U ((U.set jf (.cells σ.fs.length true (cZ (σ.fs++[f])))).set jm (mkB jf (σ.push f))):=rC _ _
 have k3:=k2.trans (hO (jm:=jm) (jf:=jf) (mkB jf (σ.push f).var))
 have n1:z≠jm:=by
  rintro rfl
  have:=hM.own
  rw[hz]at this
  unfold iP mkB at this
  simp at this
 have n2:z≠jf:=by
  rintro rfl
  have:=hM.row
  rw[hz]at this
  unfold iP at this
  simp at this
 have z4:=k3.get z _ (by simp; exact⟨n1,n2⟩) hz
 refine⟨_,c22,z4,bW (bD z4) _,hM3.keep (bC.set (I:=[z]) _ (by simp) _) (by simpa using Ne.symm n1) (by simpa using Ne.symm n2),k3,(k3.mono (by simp)).trans (bC.set _ (by simp) _)⟩
theorem aCk {n0:Nat}{S T:aA}{jm jf z js:Nat}{σ:Mk}{ss:List St}{s:St}(hM:MkS T jm jf σ)(hj:jm<n0∧jf<n0∧n0≤z)(g:Gl n0 S 14 67 (dS ss) js)(hk:bC [jm,jf,z] S T)(hgz:dS ss≠[]→js≠z)(hs:∀s∈ss,SO s)(hss:SO s)(hsl:ss.length≤1000000)(hn0:n0≤S.length) :
  ∃(T6:aA) (js':Nat),bR false 14 176 67 T (acc js (dS ss)) (.iv (.sl .full [encZ s]))=some (acc js' (dS (ss++[s])),T6)∧MkS T6 jm jf σ∧(∀ {S0:aA},S0.length=n0→bC [jm,jf] S0 T→bC [jm,jf] S0 T6):=by
 have g4:Gl n0 T 14 67 (dS ss) js:=⟨fun h=>hk.get _ _ (by have:=g.new h; have:=hgz h; simp; omega) (g.tok h),g.new⟩
 obtain⟨js',T6,a1,gr⟩:=g4.more (b:=176) (iJ.sl _ .full [encZ s]) (lX (l:=[s]) (fun x hx=>by rw[List.mem_singleton]at hx; subst hx; exact hss)) (lX hs) (fA (by rw[lS]; simp; omega)) (Nat.le_trans hn0 hk.len)
 refine⟨T6,js',?_,gr.mks g4 hM ⟨hj.1,hj.2.1⟩,fun {S0} h0 hk=>gr.keep g4 hk (by omega)⟩
 rw[a1,rD]
 rfl
theorem aI4 {j:Nat}{a:List IV}{r:List (List IV)}(hw:a.length=2):indexAddrS 2 (.tsl j (a::r)) 0=some (.iv (.cp a)):=wB (by decide) rfl hw
theorem aSs {j:Nat}{a b:List IV}{r:List (List IV)}(hw:b.length=2):indexAddrS 2 (.tsl j (a::b::r)) 1=some (.iv (.cp b)):=wB (by decide) rfl hw
theorem aSt {b0:Int}{n:Nat}(hb0:0≤b0∧b0≤1152921504606846976)(hVs:kE b0 n)(hLd:sK b0 n):aSq b0 (n+1):=by
 intro e k0 k1 σ x S jm jf hx ho hb hB hM
 have hwe:=Ex.w_eq e
 have hw2:=ho.2
 have hkl:=Ex.ws_len e.ks
 have hlE:=aL e.ks
 rw[nB]at hx
 obtain⟨y,hy,hx⟩:=Option.bind_eq_some_iff.1 hx
 obtain⟨s1,s2,s3,s4⟩:=(dP n).values hy (fun x hx=>ho.kid hx)
 have l1:=(mono n).values hy
 have hj:jm<S.length∧jf<S.length:=⟨bD hM.own,bD hM.row⟩
 by_cases h1:e.n=1
 ·rw[if_pos h1]at hx
  split at hx
  ·rename_i a b rr hat
   have l2:=(mono n).laid hx
   have hBy:Bd b0 y.2.2:=hB.le l2
   obtain⟨js,ja,S1,c45,g1,g2,hd,hM1,hk1⟩:=hVs (g:=e.g) hy (fun x hx=>ho.kid hx) (by omega) hb hBy hM
   rw[hat]at c45 s1
   obtain⟨a0,a1,rfl⟩:=s1 a (by simp)
   obtain⟨d0,d1,rfl⟩:=s1 b (by simp)
   have i0:=aI4 (j:=ja) (a:=[.int .i64 a0,.int .i64 a1]) (r:=[.int .i64 d0,.int .i64 d1]::rr) rfl
   have i1:=aSs (j:=ja) (a:=[.int .i64 a0,.int .i64 a1]) (b:=[.int .i64 d0,.int .i64 d1]) (r:=rr) rfl
   have c77:=aI0 S1 [[.int .i64 a0,.int .i64 a1],[.int .i64 k0,.int .i64 k1],[.int .i64 d0,.int .i64 d1]]
   obtain⟨S3,c23,hM3,hk3⟩:=hLd hx (SR.acc js _) (TmO.appl ..) s2 (by have:=hBy.hi; omega) (Int.le_trans hb l1.nv) hB hM1
   obtain⟨u0,u1,u2,u3,u4,u5,u6,v5,v6,hXT⟩:=(dP n).laid hx (TmO.appl ..) (fun s hs=>s2 s (List.mem_reverse.1 hs))
   rw[hXT]at c23 ⊢
   rw[eP ja (by simp)]at c45
   unfold lW at *
   refine⟨S3,aB K _ (fn:=t50) rfl rfl ?_,hM3,hk1.trans hk3⟩
   rw[aZ]
   simp (config := { maxSteps := 4000000 }) (disch:=omega) only[t50,go_sem,c45,i0,i1,c77,c23]
  ·cases hx
 ·rw[if_neg h1]at hx
  by_cases h0:e.n=0
  ·rw[if_pos h0]at hx
   split at hx
   ·rename_i a rr hat
    have l2:=(mono n).laid hx
    have l2':Le y.2.2 x.2:=((Le.var _).trans ((Le.var _).trans ((Le.push _ _).trans (Le.var _)))).trans l2
    have hBy:Bd b0 y.2.2:=hB.le l2'
    obtain⟨js,ja,S1,c45,g1,g2,hd,hM1,hk1⟩:=hVs (g:=e.g) hy (fun x hx=>ho.kid hx) (by omega) hb hBy hM
    rw[hat]at c45 s1
    obtain⟨a0,a1,rfl⟩:=s1 a (by simp)
    have i0:=aI4 (j:=ja) (a:=[.int .i64 a0,.int .i64 a1]) (r:=rr) rfl
    have hv3:y.2.2.nv+3≤b0+1000000:=Int.le_trans (by have:y.2.2.nv+1+1+1≤x.2.nv:=l2.nv; omega) hB.hi
    have hfs:y.2.2.fs.length<1000000:=by have:=l2.len; have:=hB.fs; simp[Mk.var,Mk.push]at *; omega
    have c21:=pO hM1
    have hM2:=hM1.var (by omega)
    have c21':=pO hM2
    have hM3:=hM2.var (by show y.2.2.nv+1<_; omega)
    have kA:bC [jm,jf] S1 (S1.set jm (mkB jf y.2.2.var)):=hO _
    have kB:=kA.trans (hO (jm:=jm) (jf:=jf) (mkB jf y.2.2.var.var))
    have nI:∀i∈[jm,jf],i<S.length:=fun i hi=>by simp at hi; rcases hi with rfl|rfl<;>omega
    generalize hTB:(S1.set jm (mkB jf y.2.2.var)).set jm (mkB jf y.2.2.var.var)=TB at *
    have kU:bC [] TB (TB++[iP]):=bC.app _ _ _
    have hMU:=hM3.keep kU (by simp) (by simp)
    have hzU:=cY TB iP
    have c25:=kY (y.2.2.nv+1)
    have c77:=aI0 (TB++[iP]) [[.int .i64 k0,.int .i64 k1],[.int .i64 1,.int .i64 (y.2.2.nv+1)]]
    have c20:=vC hMU (.sl .full [[.int .i64 y.2.2.nv],[.int .i64 (y.2.2.nv+1)]]) (.bool true) (.bool false) (.sl .nil []) (.int .i64 6) (.int .i64 0) (.int .i64 0) (.int .i64 0) (.int .i64 0) (.sl .full [[.int .i64 k0,.int .i64 k1],[.int .i64 1,.int .i64 (y.2.2.nv+1)]]) (.sl .nil []) rfl
    obtain⟨T4,c22,z4,z5,hM5,hk4,hk5⟩:=aDv (f:=[.sl .full [[.int .i64 y.2.2.nv],[.int .i64 (y.2.2.nv+1)]],.bool true,.bool false,.sl .nil [],.int .i64 6,.int .i64 0,.int .i64 0,.int .i64 0,.int .i64 0,.sl .full [[.int .i64 k0,.int .i64 k1],[.int .i64 1,.int .i64 (y.2.2.nv+1)]],.sl .nil []]) hMU hzU rfl rfl hfs (by show y.2.2.nv+1+1<_; omega)
    have gB:=g1.keep kB nI
    have hlB:S.length≤TB.length:=Nat.le_trans hk1.len kB.len
    obtain⟨T6,js',ap,hM6,hkk⟩:=aCk (s:=.tm (fP (y.2.2.nv+1+1) y.2.2.fs.length (.sl .nil [])) (y.2.2.nv+1+1)) hM5 ⟨hj.1,hj.2,hlB⟩ gB ((kU.mono (by simp)).trans hk5) (fun h=>by have:=bD (gB.tok h); omega) s2 (TmO.fun ..) (by have:=hBy.hi; omega) hlB
    have hk6:bC [jm,jf] S (T4.set TB.length (pR (y.2.2.nv+1+1) y.2.2.fs.length)):=⟨Nat.le_trans hlB ((kU.mono (by simp)).trans hk5).len,fun q B hq hb=>hk5.get q B (by have:=bD hb; simp at hq ⊢; omega) (kU.get q B (by simp) ((hk1.trans kB).get q B hq hb))⟩
    have c46:=yL T6 [[.int .i64 a0,.int .i64 a1],[.int .i64 k0,.int .i64 k1],[.int .i64 1,.int .i64 (y.2.2.nv+1+1)]]
    have c25':=kY (y.2.2.nv+1+1)
    have e2:y.2.2.nv+2=y.2.2.nv+1+1:=by omega
    rw[e2]at hx
    have hst:∀s∈(y.1++[St.tm (fP (y.2.2.nv+1+1) y.2.2.fs.length (.sl .nil [])) (y.2.2.nv+1+1)]),SO s:=fun s hs=>by
     rcases List.mem_append.1 hs with hs|hs
     ·exact s2 s hs
     ·rw[List.mem_singleton]at hs; subst hs; exact TmO.fun ..
    obtain⟨S7,c23,hM7,hk7⟩:=hLd hx (SR.acc js' _) (TmO.call ..) hst (by have:=hBy.hi; simp; omega) (by have:=l1.nv; show b0≤y.2.2.nv+1+1+1; omega) hB hM6
    obtain⟨u0,u1,u2,u3,u4,u5,u6,v5,v6,hXT⟩:=(dP n).laid hx (TmO.call ..) (fun s hs=>hst s (List.mem_reverse.1 hs))
    rw[hXT]at c23 ⊢
    rw[eP ja (by simp)]at c45
    refine⟨S7,aB K _ (fn:=t50) rfl rfl ?_,hM7,(hkk rfl hk6).trans hk7⟩
    rw[aZ]
    rw[show y.2.2.var.var.nv=y.2.2.nv+1+1 from rfl,show y.2.2.var.var.fs=y.2.2.fs from rfl]at *
    rw[show y.2.2.var.nv=y.2.2.nv+1 from rfl]at c21'
    rw[show encZ (.tm (fP (y.2.2.nv+1+1) y.2.2.fs.length (.sl .nil [])) (y.2.2.nv+1+1))=mO (y.2.2.nv+1+1) y.2.2.fs.length from rfl]at ap
    unfold lW jH mO pR iP aV at *
    simp (config := { maxSteps := 4000000 }) (disch:=omega) only[t50,go_sem,c45,i0,c21,c21',hTB,aQ c25,c77,c20,c22,z4,z5,ap,aQ c25',c46,c23]
   ·cases hx
  ·rw[if_neg h0]at hx
   split at hx
   ·rename_i a b rr hat
    have l2:=(mono n).laid hx
    have l2':Le y.2.2 x.2:=((Le.var _).trans ((Le.push _ _).trans (Le.var _))).trans l2
    have hBy:Bd b0 y.2.2:=hB.le l2'
    obtain⟨js,ja,S1,c45,g1,g2,hd,hM1,hk1⟩:=hVs (g:=e.g) hy (fun x hx=>ho.kid hx) (by omega) hb hBy hM
    rw[hat]at c45 s1
    obtain⟨a0,a1,rfl⟩:=s1 a (by simp)
    obtain⟨d0,d1,rfl⟩:=s1 b (by simp)
    have i0:=aI4 (j:=ja) (a:=[.int .i64 a0,.int .i64 a1]) (r:=[.int .i64 d0,.int .i64 d1]::rr) rfl
    have i1:=aSs (j:=ja) (a:=[.int .i64 a0,.int .i64 a1]) (b:=[.int .i64 d0,.int .i64 d1]) (r:=rr) rfl
    have hv3:y.2.2.nv+2≤b0+1000000:=Int.le_trans (by have:y.2.2.nv+1+1≤x.2.nv:=l2.nv; omega) hB.hi
    have hfs:y.2.2.fs.length<1000000:=by have:=l2.len; have:=hB.fs; simp[Mk.var,Mk.push]at *; omega
    have c21:=pO hM1
    have hM3:=hM1.var (by omega)
    have kB:bC [jm,jf] S1 (S1.set jm (mkB jf y.2.2.var)):=hO _
    have nI:∀i∈[jm,jf],i<S.length:=fun i hi=>by simp at hi; rcases hi with rfl|rfl<;>omega
    generalize hTB:S1.set jm (mkB jf y.2.2.var)=TB at *
    have kU:bC [] TB (TB++[iP]):=bC.app _ _ _
    have hMU:=hM3.keep kU (by simp) (by simp)
    have hzU:=cY TB iP
    have c25:=kY y.2.2.nv
    have c77:=aI0 (TB++[iP]) [[.int .i64 d0,.int .i64 d1],[.int .i64 k0,.int .i64 k1],[.int .i64 1,.int .i64 y.2.2.nv]]
    have c20:=vC hMU (.sl .full [[.int .i64 y.2.2.nv]]) (.bool true) (.bool true) (.sl .nil []) (.int .i64 6) (.int .i64 0) (.int .i64 0) (.int .i64 0) (.int .i64 0) (.sl .full [[.int .i64 d0,.int .i64 d1],[.int .i64 k0,.int .i64 k1],[.int .i64 1,.int .i64 y.2.2.nv]]) (.sl .nil []) rfl
    obtain⟨T4,c22,z4,z5,hM5,hk4,hk5⟩:=aDv (f:=[.sl .full [[.int .i64 y.2.2.nv]],.bool true,.bool true,.sl .nil [],.int .i64 6,.int .i64 0,.int .i64 0,.int .i64 0,.int .i64 0,.sl .full [[.int .i64 d0,.int .i64 d1],[.int .i64 k0,.int .i64 k1],[.int .i64 1,.int .i64 y.2.2.nv]],.sl .nil []]) hMU hzU rfl rfl hfs (by show y.2.2.nv+1<_; omega)
    have gB:=g1.keep kB nI
    have hlB:S.length≤TB.length:=Nat.le_trans hk1.len kB.len
    obtain⟨T6,js',ap,hM6,hkk⟩:=aCk (s:=.tm (fP (y.2.2.nv+1) y.2.2.fs.length (.sl .nil [])) (y.2.2.nv+1)) hM5 ⟨hj.1,hj.2,hlB⟩ gB ((kU.mono (by simp)).trans hk5) (fun h=>by have:=bD (gB.tok h); omega) s2 (TmO.fun ..) (by have:=hBy.hi; omega) hlB
    have hk6:bC [jm,jf] S (T4.set TB.length (pR (y.2.2.nv+1) y.2.2.fs.length)):=⟨Nat.le_trans hlB ((kU.mono (by simp)).trans hk5).len,fun q B hq hb=>hk5.get q B (by have:=bD hb; simp at hq ⊢; omega) (kU.get q B (by simp) ((hk1.trans kB).get q B hq hb))⟩
    have c46:=yL T6 [[.int .i64 a0,.int .i64 a1],[.int .i64 1,.int .i64 (y.2.2.nv+1)]]
    have c25':=kY (y.2.2.nv+1)
    have hst:∀s∈(y.1++[St.tm (fP (y.2.2.nv+1) y.2.2.fs.length (.sl .nil [])) (y.2.2.nv+1)]),SO s:=fun s hs=>by
     rcases List.mem_append.1 hs with hs|hs
     ·exact s2 s hs
     ·rw[List.mem_singleton]at hs; subst hs; exact TmO.fun ..
    obtain⟨S7,c23,hM7,hk7⟩:=hLd hx (SR.acc js' _) (TmO.call ..) hst (by have:=hBy.hi; simp; omega) (by have:=l1.nv; show b0≤y.2.2.nv+1+1; omega) hB hM6
    obtain⟨u0,u1,u2,u3,u4,u5,u6,v5,v6,hXT⟩:=(dP n).laid hx (TmO.call ..) (fun s hs=>hst s (List.mem_reverse.1 hs))
    rw[hXT]at c23 ⊢
    rw[eP ja (by simp)]at c45
    refine⟨S7,aB K _ (fn:=t50) rfl rfl ?_,hM7,(hkk rfl hk6).trans hk7⟩
    rw[aZ]
    rw[show y.2.2.var.nv=y.2.2.nv+1 from rfl,show y.2.2.var.fs=y.2.2.fs from rfl]at *
    rw[show encZ (.tm (fP (y.2.2.nv+1) y.2.2.fs.length (.sl .nil [])) (y.2.2.nv+1))=mO (y.2.2.nv+1) y.2.2.fs.length from rfl]at ap
    unfold lW jH mO pR iP aV at *
    simp (config := { maxSteps := 4000000 }) (disch:=omega) only[t50,go_sem,c45,i0,i1,c21,hTB,aQ c25,c77,c20,c22,z4,z5,ap,aQ c25',c46,c23]
   ·cases hx
def aFy:aP:=(.region [⟨.mov (.loc 19),(some 12),none⟩])
def aFz:aP:=(.block 3
  (.seq (.draw [0,1,2,5,12] [(3,[0,1,5],[4,6]),(7,[0],[]),(8,[],[9,10,11]),(13,[],[14])] [⟨.load1 (.loc 3),none,none⟩,⟨.load1 (.loc 3),none,none⟩,⟨.load1 (.loc 3),none,none⟩,⟨.call false false 21 [(.reg 2)],none,none⟩,⟨.lit false [(.int .i64 0)] 1 [(0,(.reg 3))],none,none⟩,⟨.loadN 7 (.loc 11),none,none⟩,⟨.build [(.sl .nil []),(.bool false),(.bool false),(.sl .nil []),(.int .i64 0),(.int .i64 0),(.int .i64 0),(.int .i64 0),(.int .i64 0),(.sl .nil []),(.sl .nil [])] [(0,1,(.reg 4)),(1,1,(.cst (.bool true))),(2,1,(.cst (.bool true))),(4,7,(.reg 5))],none,none⟩,⟨.call false false 20 [(.reg 1),(.reg 6)],none,none⟩,⟨.call false false 22 [(.reg 0),(.reg 7)],none,none⟩,⟨.mov (.reg 8),none,none⟩,⟨.extract 0 (.reg 9),none,none⟩,⟨.extract 1 (.reg 9),none,none⟩,⟨.allocH 68 [(.int .i64 0),(.int .i64 0),(.int .i64 0),(.int .i64 0),(.int .i64 0),(.int .i64 0),(.sl .nil []),(.sl .nil []),(.int .i64 0),(.int .i64 0),(.sl .nil []),(.bool false),(.sl .nil []),(.int .i64 0)],(some 13),none⟩,⟨.store 14 (.reg 12) (.reg 10),none,none⟩,⟨.mov (.reg 11),(some 14),none⟩])
  (.seq (.draw [0,1,2,3,4,5] [(6,[],[7,8,9,10,11])] [⟨.load1 (.loc 3),none,none⟩,⟨.load1 (.loc 4),none,none⟩,⟨.mov (.loc 12),none,none⟩,⟨.mov (.loc 12),none,none⟩,⟨.bin .add (.reg 3) (.cst (.int .i64 64)),none,none⟩,⟨.slice (.sl 5) (.reg 1) (some (.reg 2)) (some (.reg 4)) none,none,none⟩,⟨.call false false 45 [(.reg 0),(.reg 5)],none,none⟩,⟨.mov (.reg 6),none,none⟩,⟨.extract 0 (.reg 7),none,none⟩,⟨.extract 1 (.reg 7),none,none⟩,⟨.mov (.reg 8),(some 15),none⟩,⟨.mov (.reg 9),none,none⟩])
  (.draw [0,1,2,3,5] [(4,[0],[]),(6,[0],[7]),(8,[0],[]),(9,[],[]),(10,[],[])] [⟨.load1 (.loc 3),none,none⟩,⟨.loadN 14 (.loc 13),none,none⟩,⟨.lit false [(.int .i64 0),(.int .i64 0),(.int .i64 0),(.int .i64 0),(.int .i64 0),(.int .i64 0),(.sl .nil []),(.sl .nil []),(.int .i64 0),(.int .i64 0),(.sl .nil []),(.bool false),(.sl .nil []),(.int .i64 0)] 1 [(0,(.reg 1))],none,none⟩,⟨.mov (.loc 15),none,none⟩,⟨.append false 14 176 67 (.reg 2) (.reg 3),none,none⟩,⟨.mov (.loc 14),none,none⟩,⟨.call true false 25 [(.reg 5)],none,none⟩,⟨.lit false [(.int .i64 0),(.int .i64 0)] 1 [(0,(.reg 6))],none,none⟩,⟨.call false false 46 [(.reg 7)],none,none⟩,⟨.call false false 23 [(.reg 0),(.reg 4),(.reg 8)],none,none⟩,⟨.store 7 (.loc 11) (.reg 9),none,none⟩]))))
theorem aSu (i:Nat)(l:List (List IV)):noLb (acc i l)=acc i l:=by unfold acc; split<;>rfl
attribute [go_sem] aSu
theorem aSv {t:Tag}{l:List Ex}(ht:fN t l){a b:Nat}(hab:a≤b)(hb:b≤l.length):∃t',∀S:aA,cP S (.sl 5) (.iv (.sl t (bS l))) (some (a:Int)) (some (b:Int)) none=some (.iv (.sl t' (bS ((l.drop a).take (b-a))))):=by
 have hE5:∀y∈bS l,y.length=5:=fun y hy=>by rw[fI]at hy; obtain⟨e,_,rfl⟩:=List.mem_map.1 hy; exact nR e
 refine⟨wA t (bS l).length (b:Int).toNat,fun S=>?_⟩
 have h1:(a:Int)≤b:=by omega
 have h2:(b:Int)≤(bS l).length:=by rw[aL]; omega
 rw[aYb S (a:=a) (b:=b) (fun e=>by rw[ht e]; rfl) (qX hE5) ⟨by omega,h1,h2⟩]
 rw[Int.toNat_natCast,Int.toNat_natCast,fI,fI,List.map_take,List.map_drop]
theorem SR.lp {r:TV}{l:List (List IV)}(h:SR r l):dH r=false:=by
 rcases h with⟨_,rfl⟩|⟨j,rfl⟩|rfl<;>rfl
theorem aSw {S:aA}{j:Nat}{s:List IV}{ys:List (List IV)}(hs:cX 14 [s])(hy:cX 14 ys)(hl:ys.length≤2000000):∃r L,bR false 14 176 67 S (.iv (.sl .full [s])) (acc j ys)=some (r,S++L)∧SR r (s::ys):=by
 by_cases h0:ys=[]
 ·subst h0
  exact⟨_,[],by rw[gS,wE rfl (iJ.sl ..),List.append_nil],.inr (.inr rfl)⟩
 ·have:=wD (S:=S) (w:=14) (b:=176) (el:=67) (t:=.full) (l:=[s]) (by decide) ((SR.acc j ys).el S) hy hs h0 (fA (by simp; omega))
  exact⟨_,_,this,.inr (.inl ⟨_,rfl⟩)⟩
def e49 (jm a b o c:Nat)(x1 x2 x7 x8 x9 x10 x16:TV):Env:=[.ptr jm 64 0,x1,x2,.ptr a 62 0,.ptr b 24 0,.hole,.hole,x7,x8,x9,x10,.ptr o 46 0,u_,u_,u_,u_,x16,.fn 96 [] [.ptr c 23 0],u_,u_]
structure ZS (S:aA) (a b o c y jm jf:Nat) (g:Tag) (l:List Ex) (e:Env) (st:TV) (t:List IV) (σ:Mk):Prop where
 fa:S[a]? = some (.cells 62 false [.ptr jm 64 0])
 fb:S[b]? = some (.cells 24 false [.iv (.sl g (bS l))])
 fo:S[o]? = some (.cells 46 false (t.map .iv))
 fc:S[c]? = some (.cells 23 false [st])
 fy:S[y]? = some (.lp .ready none e [18,19] aFy aFz)
 ms:MkS S jm jf σ
 lt:jm<a∧jf<a∧a<b∧b<o∧o<c∧c<y
theorem aSx {b0:Int}{m:Nat}(hb0:0≤b0∧b0≤1152921504606846976)(hVs:kE b0 m)(hLd:sK b0 m){S:aA}{a b o c y jm jf:Nat}{g:Tag}{l:List Ex}{x1 x2 x7 x8 x9 x10 x16 st:TV}{t:List IV}{σ:Mk}{v:List St×List (List IV)×Mk}{w:List IV×Mk}{i:Nat}
  (h:ZS S a b o c y jm jf g l (e49 jm a b o c x1 x2 x7 x8 x9 x10 x16) st t σ) (ht:TmO t) (hl:∀e∈l,XO e) (htg:fN g l) (hll:l.length≤1048576) (hi:64*(i+1)≤l.length)
  (hv:bP m ((l.drop (64*i)).take 64) (σ.var.push (fnF .full [σ.nv] true true t)).var=some v)
  (hw:cC m (St.tm (fP (σ.nv+1) σ.fs.length (.sl .nil [])) (σ.nv+1)::v.1).reverse (jH .full [aV (σ.nv+1)]) v.2.2=some w) (hb:b0≤σ.nv) (hB:Bd b0 w.2) (ii:Int) :
  ∃S',(lim K).yld y [.iv (.int .i64 ii),.iv (.int .i64 (64*i:Nat))] S=.ret (.iv (.bool true),S')∧ZS S' a b o c y jm jf g l (e49 jm a b o c x1 x2 x7 x8 x9 x10 x16) st w.1 w.2∧bC [jm,jf,o,y] S S':=by
 obtain⟨a0,a1,a2,a3,a4,a5,a6,b5,b6,rfl⟩:=ht
 have hlt:=h.lt
 have hy:=h.fy
 have hly:=bD hy
 generalize hT:S.set y (.lp .busy none (e49 jm a b o c x1 x2 x7 x8 x9 x10 x16) [18,19] aFy aFz)=T
 have kT:bC [y] S T:=by rw[←hT]; exact bC.set _ (by simp) _
 have hTl:T.length=S.length:=by rw[←hT]; simp
 have ty:T[y]? = some (.lp .busy none (e49 jm a b o c x1 x2 x7 x8 x9 x10 x16) [18,19] aFy aFz):=by rw[←hT]; exact bW hly _
 have l1:=(mono m).values hv
 have l2:=(mono m).laid hw
 have hvl:σ.nv+1+1≤v.2.2.nv:=l1.nv
 have hBv:Bd b0 v.2.2:=hB.le l2
 have hnv:σ.nv+2≤b0+1000000:=by have:=hBv.hi; omega
 have hfs:σ.fs.length<1000000:=by have h1:=l1.len; have h2:=hBv.fs; simp[Mk.var,Mk.push]at h1; omega
 -- the place of the step
 have kU:bC [] T (T++[iP]):=bC.app _ _ _
 have hM0:=(h.ms.keep kT (by simp; omega) (by simp; omega)).keep kU (by simp) (by simp)
 have z0:=cY T iP
 have c21:=pO hM0
 have hM1:=hM0.var (by omega)
 have kV:bC [jm,jf] (T++[iP]) ((T++[iP]).set jm (mkB jf σ.var)):=hO _
 have z1:=kV.get T.length iP (by simp; omega) z0
 have k1:=(kU.mono (J:=[jm,jf]) (by simp)).trans kV
 generalize hU1:(T++[iP]).set jm (mkB jf σ.var)=U1 at *
 have c20:=vC hM1 (.sl .full [[.int .i64 σ.nv]]) (.bool true) (.bool true) (.sl .nil []) (.int .i64 a0) (.int .i64 a1) (.int .i64 a2) (.int .i64 a3) (.int .i64 a4) (.sl a5 b5) (.sl a6 b6) rfl
 obtain⟨T4,c22,z4,z5,hM5,hk4,hk5⟩:=aDv (f:=[.sl .full [[.int .i64 σ.nv]],.bool true,.bool true,.sl .nil [],.int .i64 a0,.int .i64 a1,.int .i64 a2,.int .i64 a3,.int .i64 a4,.sl a5 b5,.sl a6 b6]) hM1 z1 rfl rfl hfs (by show σ.nv+1<_; omega)
 rw[show σ.var.fs=σ.fs from rfl]at c22 z5 hM5 hk5 c20
 rw[show σ.var.nv=σ.nv+1 from rfl]at c22 z5 hM5 hk5
 have k5:bC [jm,jf,T.length] T (T4.set T.length (pR (σ.nv+1) σ.fs.length)):=(k1.mono (by simp)).trans hk5
 generalize hT5:T4.set T.length (pR (σ.nv+1) σ.fs.length)=T5 at *
 have ta:=kT.get _ _ (by simp; omega) h.fa
 have tb:=kT.get _ _ (by simp; omega) h.fb
 have to:=kT.get _ _ (by simp; omega) h.fo
 have tc:=kT.get _ _ (by simp; omega) h.fc
 have a5':=k5.get _ _ (by simp; omega) ta
 have b5':=k5.get _ _ (by simp; omega) tb
 -- the values
 obtain⟨t',sl⟩:=aSv htg (a:=64*i) (b:=64*i+64) (by omega) (by omega)
 rw[show 64*i+64-64*i=64 by omega,show ((64*i+64:Nat):Int)=((64*i:Nat):Int)+64 by omega]at sl
 have hXl:∀e∈(l.drop (64*i)).take 64,XO e:=fun e he=>hl e (List.mem_of_mem_drop (List.mem_of_mem_take he))
 obtain⟨jp,ja,T6,c45,g1,g2,hd,hM6,hk6⟩:=hVs (g:=t') hv hXl (by simp; omega) (by show b0≤σ.nv+1+1; omega) hBv hM5
 have a6':=hk6.get _ _ (by simp; omega) a5'
 have z6:=hk6.get T.length _ (by simp; omega) z5
 obtain⟨s1,s2,s3,s4⟩:=(dP m).values hv hXl
 obtain⟨r,L,ap,hr⟩:=aSw (S:=T6) (j:=jp) (s:=mO (σ.nv+1) σ.fs.length) (by intro y hy; simp at hy; subst hy; exact⟨rfl,rfl⟩) (lX s2) (by rw[lS]; have:=hBv.hi; have:(v.1.length:Int)+(σ.nv+1+1)≤v.2.2.nv:=s3; omega)
 have kL:bC [] T6 (T6++L):=bC.app _ _ _
 have hM7:=hM6.keep kL (by simp) (by simp)
 have c25:=kY (σ.nv+1)
 have c46:=yL (T6++L) [[.int .i64 1,.int .i64 (σ.nv+1)]]
 have hst:∀s∈(St.tm (fP (σ.nv+1) σ.fs.length (.sl .nil [])) (σ.nv+1)::v.1),SO s:=fun s hs=>by
  rcases List.mem_cons.1 hs with rfl|hs
  ·exact TmO.fun ..
  ·exact s2 s hs
 obtain⟨T8,c23,hM8,hk8⟩:=hLd hw (show SR r (dS (St.tm (fP (σ.nv+1) σ.fs.length (.sl .nil [])) (σ.nv+1)::v.1)) from hr) (TmO.call ..) hst (by have:=hBv.hi; have:(v.1.length:Int)+(σ.nv+1+1)≤v.2.2.nv:=s3; simp; omega) (by omega) hB hM7
 obtain⟨u0,u1,u2,u3,u4,u5,u6,v5,v6,hXT⟩:=(dP m).laid hw (TmO.call ..) (fun s hs=>hst s (List.mem_reverse.1 hs))
 have kall:bC [jm,jf,T.length] T T8:=((k5.trans (hk6.mono (by simp))).trans (kL.mono (by simp))).trans (hk8.mono (by simp))
 have o8:=kall.get _ _ (by simp; omega) to
 have yy8:=kall.get _ _ (by simp; omega) ty
 have o5':=k5.get _ _ (by simp; omega) to
 have b6':=hk6.get _ _ (by simp; omega) b5'
 have z7:=kL.get T.length _ (by simp) z6
 have a7:=kL.get _ _ (by simp) a6'
 have to4:=k1.get _ _ (by simp; omega) to
 have ta4:=k1.get _ _ (by simp; omega) ta
 have ta9:=fun B X=>(rC (S:=U1) (jm:=jm) (jf:=jf) B X).get a _ (by simp; omega) ta4
 rw[hXT]at c23 ⊢
 have ko:bC [o] T8 (T8.set o (.cells 46 false [.iv (.int .i64 u0),.iv (.int .i64 u1),.iv (.int .i64 u2),.iv (.int .i64 u3),.iv (.int .i64 u4),.iv (.sl u5 v5),.iv (.sl u6 v6)])):=bC.set _ (by simp) _
 have y6:=ko.get _ _ (by simp; omega) yy8
 have hi64:(0:Int)≤(64*i:Nat)∧((64*i:Nat):Int)≤1048576:=by omega
 generalize h64:((64*i:Nat):Int)=i64' at *
 refine⟨(T8.set o (.cells 46 false [.iv (.int .i64 u0),.iv (.int .i64 u1),.iv (.int .i64 u2),.iv (.int .i64 u3),.iv (.int .i64 u4),.iv (.sl u5 v5),.iv (.sl u6 v6)])).set y (.lp .ready none (e49 jm a b o c x1 x2 x7 x8 x9 x10 x16) [18,19] aFy aFz),?_,?_,?_⟩
 ·refine aBm (env2:=[.ptr jm 64 0,x1,x2,.ptr a 62 0,.ptr b 24 0,.hole,.hole,x7,x8,x9,x10,.ptr o 46 0,.iv (.int .i64 i64'),u_,u_,u_,x16,.fn 96 [] [.ptr c 23 0],.iv (.int .i64 ii),.iv (.int .i64 i64')]) (env3:=[.ptr jm 64 0,x1,x2,.ptr a 62 0,.ptr b 24 0,.hole,.hole,x7,x8,x9,x10,.ptr o 46 0,.iv (.int .i64 i64'),.ptr T.length 68 0,.iv (.int .i64 (σ.nv+1)),acc jp (dS v.1),x16,.fn 96 [] [.ptr c 23 0],.iv (.int .i64 ii),.iv (.int .i64 i64')]) (S1:=S) (S2:=T8.set o (.cells 46 false [.iv (.int .i64 u0),.iv (.int .i64 u1),.iv (.int .i64 u2),.iv (.int .i64 u3),.iv (.int .i64 u4),.iv (.sl u5 v5),.iv (.sl u6 v6)])) hy rfl ?_ hy ?_ y6
  ·simp (config := { maxSteps := 4000000 }) (disch:=omega) only[aFy,e49,go_sem]
  ·rw[hT]
   unfold mO pR iP aV jH at *
   simp (config := { maxSteps := 4000000 }) (disch:=omega) only[aFz,go_sem,aF,hr.lp,ta,to,ta9,ta4,to4,o5',a6',b6',a7,z7,c21,hU1,c20,c22,z4,hT5,a5',b5',sl,c45,a6',z6,ap,aQ c25,c46,c23,o8]
 ·refine⟨?_,?_,?_,?_,bW (bD y6) _,?_,h.lt⟩
  ·rw[bK (by omega)]; exact ko.get _ _ (by simp; omega) (kall.get _ _ (by simp; omega) ta)
  ·rw[bK (by omega)]; exact ko.get _ _ (by simp; omega) (kall.get _ _ (by simp; omega) tb)
  ·rw[bK (by omega),bW (bD o8)]; rfl
  ·rw[bK (by omega)]; exact ko.get _ _ (by simp; omega) (kall.get _ _ (by simp; omega) tc)
  ·exact (hM8.keep ko (by simp; omega) (by simp; omega)).keep (bC.set (I:=[y]) _ (by simp) _) (by simp; omega) (by simp; omega)
 ·refine⟨?_,fun q B hq hb=>?_⟩
  ·have:=kall.len; simp; omega
  ·simp at hq
   have hlq:=bD hb
   have u1:=kT.get q B (by simp; omega) hb
   have u2:=kall.get q B (by simp; omega) u1
   exact (bC.set (I:=[y]) _ (by simp) _).get q B (by simp; omega) (ko.get q B (by simp; omega) u2)
def stl (q:Nat):List (List IV):=(List.range q).map fun i=>[.int .i64 ((64*i:Nat):Int)]
theorem yM (q:Nat):(stl q).length=q:=by unfold stl; simp
theorem aSy (q:Nat):stl (q+1)=stl q++[[.int .i64 ((64*q:Nat):Int)]]:=by unfold stl; rw[List.range_succ,List.map_append]; rfl
theorem bD6 (q:Nat):cX 1 (stl q):=by
 intro y hy
 unfold stl at hy
 obtain⟨i,_,rfl⟩:=List.mem_map.1 hy
 exact⟨rfl,rfl⟩
theorem bD7 (j:Nat){q k:Nat}(h:k<q):indexAddrS 1 (acc j (stl q)) (k:Int)=some (.iv (.cp [.int .i64 ((64*k:Nat):Int)])):=by
 have hg:(stl q)[(k:Int).toNat]? = some [.int .i64 ((64*k:Nat):Int)]:=by
  rw[Int.toNat_natCast]
  unfold stl
  rw[List.getElem?_map,List.getElem?_range h]
  rfl
 rw[eP j (by intro e; have:=congrArg List.length e; rw[yM]at this; simp at this; omega)]
 exact wB (by omega) hg rfl
theorem aSz {n0:Nat}{L:Nat}(hL:1≤L∧L≤1048576){b:Nat}{g:Tag}{l:List Ex}(hl:l.length=L)(x0 x1 x2 x3 x5 x6 x9 x10 x11 x12 x13 x14 x15 x17 x18 x19:TV):∀(k q j:Nat) (S:aA) (x16:TV),q+k=(L-1) / 64→Gl n0 S 1 3 (stl q) j→S[b]? = some (.cells 24 false [.iv (.sl g (bS l))])→b<n0→n0≤S.length →
  ∃(j':Nat) (S':aA),lp' (lim K) t49L0 [x0,x1,x2,x3,.ptr b 24 0,x5,x6,acc j (stl q),.iv (.int .i64 ((64*q:Nat):Int)),x9,x10,x11,x12,x13,x14,x15,x16,x17,x18,x19] S
   = .ret (.exit 0,[x0,x1,x2,x3,.ptr b 24 0,x5,x6,acc j' (stl ((L-1) / 64)),.iv (.int .i64 ((64*((L-1) / 64):Nat):Int)),x9,x10,x11,x12,x13,x14,x15,.iv (.bool false),x17,x18,x19],S')∧Gl n0 S' 1 3 (stl ((L-1) / 64)) j'∧(∀ {S0:aA},S0.length=n0→bC [] S0 S→bC [] S0 S')∧S.length≤S'.length
 | 0,q,j,S,x16,h,hg,hb,hbn,hn=>by
  obtain rfl:q=(L-1) / 64:=by omega
  have hle:=aL l
  generalize hq:(L-1) / 64=q at *
  refine⟨j,S,aN K _ _ t49L0.eq_1 ?_,hg,fun _ k=>k,Nat.le_refl _⟩
  generalize hw:((64*q:Nat):Int)=w
  have hc:¬((64:Int)<L-w):=by omega
  simp (config := { maxSteps := 4000000 }) (disch:=omega) only[go_sem,hb,hle,hl,aF]
 | k+1,q,j,S,x16,h,hg,hb,hbn,hn=>by
  have hle:=aL l
  obtain⟨j1,S1,ha,gr⟩:=hg.more (b:=8) (iJ.sl S .full [[.int .i64 ((64*q:Nat):Int)]]) (by intro y hy; simp at hy; subst hy; exact⟨rfl,rfl⟩) (bD6 q) (fA (by rw[yM]; simp; omega)) hn
  have hg1:=gr.gl
  rw[←aSy]at ha hg1
  have hb1:=gr.old b _ hb (fun h0=>by have:=hg.new h0; omega)
  obtain⟨j',S',ih,hg',hk',hl'⟩:=aSz hL hl x0 x1 x2 x3 x5 x6 x9 x10 x11 x12 x13 x14 x15 x17 x18 x19 k (q+1) j1 S1 (.iv (.bool true)) (by omega) hg1 hb1 hbn (Nat.le_trans hn gr.len)
  refine⟨j',S',aN K _ _ t49L0.eq_1 ?_,hg',fun h0 k0=>hk' h0 (gr.keep hg k0 (by omega)),Nat.le_trans gr.len hl'⟩
  have e1:((64*(q+1):Nat):Int)=((64*q:Nat):Int)+64:=by omega
  rw[e1]at ih
  have hq:64*q+64<L:=by omega
  generalize hw:((64*q:Nat):Int)=w at *
  have hc:((64:Int)<L-w):=by omega
  simp (config := { maxSteps := 4000000 }) (disch:=omega) only[go_sem,hb,hle,hl,ha,aF]
  exact congrArg er ih
theorem aS0 {b0:Int}{N:Nat}(hb0:0≤b0∧b0≤1152921504606846976)(hVs:∀m,m≤N→kE b0 m)(hLd:∀m,m≤N→sK b0 m){a b o c y jm jf:Nat}{g:Tag}{l:List Ex}{x1 x2 x7 x8 x9 x10 x16:TV}{j q:Nat}(hl:∀e∈l,XO e)(htg:fN g l)(hll:l.length≤1048576)(hq:64*q≤l.length):∀(k f:Nat) (t:List IV) (σ:Mk) (x:List IV×Mk) (S:aA) (x3 x4:TV),k≤q→f≤N+1→dA f k l t σ=some x→TmO t→b0≤σ.nv→Bd b0 x.2→ZS S a b o c y jm jf g l (e49 jm a b o c x1 x2 x7 x8 x9 x10 x16) (acc j (stl q)) t σ →
  ∃(S':aA) (y3 y4:TV),lp' (lim K) t96L0 [.yld y,.ptr c 23 0,.iv (.int .i64 ((k:Int)-1)),x3,x4] S=.ret (.exit 0,[.yld y,.ptr c 23 0,.iv (.int .i64 (-1)),y3,y4],S')∧ZS S' a b o c y jm jf g l (e49 jm a b o c x1 x2 x7 x8 x9 x10 x16) (acc j (stl q)) x.1 x.2∧bC [jm,jf,o,y] S S'
 | 0,f,t,σ,x,S,x3,x4,hk,hf,hx,ht,hb,hB,hY=>by
  cases f with
  | zero=>simp[dA]at hx
  | succ f =>
   rw[dA]at hx
   cases hx
   refine⟨S,.iv (.bool false),x4,aN K _ _ t96L0.eq_1 ?_,hY,bC.refl _ _⟩
   rw[show ((0:Nat):Int)-1 = -1 from rfl]
   simp (config := { maxSteps := 4000000 }) (disch:=omega) only[go_sem]
 | k+1,f,t,σ,x,S,x3,x4,hk,hf,hx,ht,hb,hB,hY=>by
  have hix:=bD7 j (show k<q by omega)
  have hc:=hY.fc
  rw[show (((k+1:Nat):Int)-1)=(k:Int) by omega]
  cases f with
  | zero=>simp[dA]at hx
  | succ f =>
   rw[dA]at hx
   obtain⟨v,hv,hx⟩:=Option.bind_eq_some_iff.1 hx
   obtain⟨w,hw,hx⟩:=Option.bind_eq_some_iff.1 hx
   have l1:=(mono f).values hv
   have l2:=(mono f).laid hw
   have l3:=(mono f).parts hx
   have hvn:σ.nv+1+1≤v.2.2.nv:=l1.nv
   have hwn:=l2.nv
   obtain⟨S1,y1,hY1,k1⟩:=aSx hb0 (hVs f (by omega)) (hLd f (by omega)) hY ht hl htg hll (by omega) hv hw hb (hB.le l3) (k:Int)
   obtain⟨S2,z3,z4,ih,hY2,k2⟩:=aS0 hb0 hVs hLd hl htg hll hq k f w.1 w.2 x S1 (.iv (.bool true)) (.iv (.bool false)) (by omega) (by omega) hx ((dP f).laid hw (TmO.call ..) (fun s hs=>by
    have s2:=((dP f).values hv (fun e he=>hl e (List.mem_of_mem_drop (List.mem_of_mem_take he)))).2.1
    rcases List.mem_cons.1 (List.mem_reverse.1 hs) with rfl|hs
    ·exact TmO.fun ..
    ·exact s2 s hs)) (by omega) hB hY1
   refine⟨S2,z3,z4,aN K _ _ t96L0.eq_1 ?_,hY2,k1.trans k2⟩
   generalize hw64:((64*k:Nat):Int)=w64 at *
   simp (config := { maxSteps := 4000000 }) (disch:=omega) only[go_sem,hc,hix,y1,er_ret,aF]
   exact congrArg er ih
end Go.Proofs.YtageemgcnoblnaaDoor
