/- Some texts of the proof, joined. Condition: none. -/
import Derived.Test.YtookmpaholmmfaaGreatDoorTmProg
import Derived.Test.YtookmpaholmmfaaGreatDoorTmE
import Derived.Test.YtookmpaholmmfaaGreatDoorRows
import Derived.Test.YtookmpaholmmfaaGreatDoorTmF
set_option maxRecDepth 100000
set_option maxHeartbeats 32000000
set_option linter.unusedSimpArgs false
set_option linter.unusedVariables false
namespace Go.Proofs.YtookmpaholmmfaaGreatDoor
open Go Go.TM
abbrev u_:TV:=.tup []
attribute [go_sem] TM.undef
attribute [go_sem] beq_self_eq_true bK0 bK1 ifT ifF eqT eqF neT neF aB0 TM.iH aQ4 List.replicate List.cons_append List.nil_append decide_true decide_false
attribute [go_sem] Nat.reduceAdd Nat.reduceSub Nat.reduceMul Nat.reduceLT Nat.reduceLeDiff Nat.reduceEqDiff Nat.reduceBEq reduceIte reduceCtorEq Int.reduceEq Int.reduceLT Int.reduceLE Int.reduceAdd Int.reduceSub Int.reduceMul Int.reduceToNat Int.reduceNeg Int.reduceBEq Int.reduceBNe Int.reduceTDiv Int.reduceTMod Int.reducePow Nat.reducePow Nat.reduceDiv Nat.reduceMod Int.reduceMod Int.reduceDiv Int.reduceNe Int.reduceFDiv
inductive Dt where
 | mk (k n:Int) (t:List UInt8) (g:Tag) (ks:List Dt) (p:Int)
instance:Inhabited Dt:=⟨.mk 0 0 [] .nil [] 0⟩
def Dt.k:Dt→Int | .mk k _ _ _ _ _=>k
def Dt.n:Dt→Int | .mk _ n _ _ _ _=>n
def Dt.t:Dt→List UInt8 | .mk _ _ t _ _ _=>t
def Dt.g:Dt→Tag | .mk _ _ _ g _ _=>g
def Dt.ks:Dt→List Dt | .mk _ _ _ _ ks _=>ks
def Dt.p:Dt→Int | .mk _ _ _ _ _ p=>p
mutual
def gP:Dt→List IV
 | .mk k n t g ks p=>[.int .i64 k,.int .i64 n,.str t,.sl g (bQ ks),.int .i64 p]
def bQ:List Dt→List (List IV)
 | []=>[]
 | d::ds=>gP d::bQ ds
end
mutual
def Dt.w:Dt→Nat
 | .mk _ _ t _ ks _=>t.length+Dt.ws ks+1
def Dt.ws:List Dt→Nat
 | []=>0
 | d::ds=>Dt.w d+Dt.ws ds
end
theorem kG:∀ks:List Dt,bQ ks=ks.map gP
 | []=>by rw[bQ]; rfl
 | d::ds=>by rw[bQ,kG ds]; rfl
theorem aI (ks:List Dt):(bQ ks).length=ks.length:=by rw[kG,List.length_map]
theorem cH (d:Dt):gP d=[.int .i64 d.k,.int .i64 d.n,.str d.t,.sl d.g (bQ d.ks),.int .i64 d.p]:=by
 cases d; rw[gP]; rfl
theorem aVl (d:Dt):(gP d).length=5:=by rw[cH]; rfl
theorem Dt.w_eq (d:Dt):d.w=d.t.length+Dt.ws d.ks+1:=by cases d; rw[Dt.w]; rfl
theorem Dt.ws_mem {d:Dt}:∀ {ks:List Dt},d∈ks→d.w≤Dt.ws ks
 | x::r,h=>by
  rw[Dt.ws]
  rcases List.mem_cons.1 h with rfl|h
  ·omega
  ·have:=Dt.ws_mem h; omega
theorem Dt.ws_len:∀ks:List Dt,ks.length≤Dt.ws ks
 | []=>by simp
 | x::r=>by
  have:=Dt.ws_len r
  have:=Dt.w_eq x
  rw[Dt.ws,List.length_cons]; omega
theorem Dt.kid_lt {d x:Dt}(h:x∈d.ks):x.w<d.w:=by
 have:=Dt.ws_mem h
 rw[Dt.w_eq d]; omega
theorem ixD {g:Tag}{ks:List Dt}{i:Int}(h:0≤i∧i<ks.length):indexAddrS 5 (.iv (.sl g (bQ ks))) i=some (.iv (.cp (gP (ks.getD i.toNat default)))):=by
 rw[kG]
 exact aG5 (f:=gP) aVl h
theorem eZ (env:Env)(S:aA)(d:Dt):bR env S (.iv (.cp (gP d))) 5=some [.iv (.int .i64 d.k),.iv (.int .i64 d.n),.iv (.str d.t),.iv (.sl d.g (bQ d.ks)),.iv (.int .i64 d.p)]:=by
 rw[cH]; rfl
theorem bM {α:Type}[Inhabited α]{l:List α}{i:Nat}(h:i<l.length):l.drop i=l.getD i default::l.drop (i+1):=by
 rw[List.drop_eq_getElem_cons h,List.getD_eq_getElem?_getD,List.getElem?_eq_getElem h]; rfl
theorem bP {α:Type}[Inhabited α]{l:List α}{i:Nat}(h:i<l.length):l.getD i default∈l:=by
 rw[List.getD_eq_getElem?_getD,List.getElem?_eq_getElem h]; exact List.getElem_mem h
def iS {α:Type}(m:Int)(f:α→Int):Int→List α→Int
 | a,[]=>a
 | a,d::ds=>if a<m then iS m f (a+f d) ds else a
theorem zM {α:Type}(m b:Int)(hm:0≤m)(f:α→Int):∀(l:List α) (hf:∀x∈l,0≤f x∧f x≤b) (a:Int),0≤a→a≤m+b→0≤iS m f a l∧iS m f a l≤m+b
 | [],_,a,h0,h1=>⟨h0,h1⟩
 | x::r,hf,a,h0,h1=>by
  rw[iS]
  split
  ·have:=hf x (by simp)
   exact zM m b hm f r (fun y hy=>hf y (by simp[hy])) _ (by omega) (by omega)
  ·exact⟨h0,h1⟩
def kH:Nat→Dt→Int
 | 0,_=>5000
 | n+1,d=>iS 5000 (kH n) 1 d.ks
theorem aC5:∀(n:Nat) (d:Dt),0≤kH n d∧kH n d≤5000*(n+1)
 | 0,d=>by rw[kH]; omega
 | n+1,d=>by
  rw[kH]
  have:=zM 5000 (5000*(n+1)) (by omega) (kH n) d.ks (fun x _=>aC5 n x) 1 (by omega) (by omega)
  omega
inductive Ex where
 | mk (k n:Int) (gv:Tag) (vs:List Int) (r:Bool) (g:Tag) (ks:List Ex)
instance:Inhabited Ex:=⟨.mk 0 0 .nil [] false .nil []⟩
def Ex.k:Ex→Int | .mk k _ _ _ _ _ _=>k
def Ex.n:Ex→Int | .mk _ n _ _ _ _ _=>n
def Ex.gv:Ex→Tag | .mk _ _ gv _ _ _ _=>gv
def Ex.vs:Ex→List Int | .mk _ _ _ vs _ _ _=>vs
def Ex.r:Ex→Bool | .mk _ _ _ _ r _ _=>r
def Ex.g:Ex→Tag | .mk _ _ _ _ _ g _=>g
def Ex.ks:Ex→List Ex | .mk _ _ _ _ _ _ ks=>ks
mutual
def aW:Ex→List IV
 | .mk k n gv vs r g ks=>[.int .i64 k,.int .i64 n,.sl gv (TM.one (.int .i64) vs),.bool r,.sl g (aQ ks)]
def aQ:List Ex→List (List IV)
 | []=>[]
 | d::ds=>aW d::aQ ds
end
mutual
def Ex.w:Ex→Nat
 | .mk _ _ _ vs _ _ ks=>vs.length+Ex.ws ks+1
def Ex.ws:List Ex→Nat
 | []=>0
 | d::ds=>Ex.w d+Ex.ws ds
end
theorem kI:∀ks:List Ex,aQ ks=ks.map aW
 | []=>by rw[aQ]; rfl
 | d::ds=>by rw[aQ,kI ds]; rfl
theorem aD (ks:List Ex):(aQ ks).length=ks.length:=by rw[kI,List.length_map]
theorem aJ (d:Ex):aW d=[.int .i64 d.k,.int .i64 d.n,.sl d.gv (TM.one (.int .i64) d.vs),.bool d.r,.sl d.g (aQ d.ks)]:=by
 cases d; rw[aW]; rfl
theorem aHd (d:Ex):(aW d).length=5:=by rw[aJ]; rfl
theorem Ex.w_eq (d:Ex):d.w=d.vs.length+Ex.ws d.ks+1:=by cases d; rw[Ex.w]; rfl
theorem Ex.ws_mem {d:Ex}:∀ {ks:List Ex},d∈ks→d.w≤Ex.ws ks
 | x::r,h=>by
  rw[Ex.ws]
  rcases List.mem_cons.1 h with rfl|h
  ·omega
  ·have:=Ex.ws_mem h; omega
theorem Ex.ws_len:∀ks:List Ex,ks.length≤Ex.ws ks
 | []=>by simp
 | x::r=>by
  have:=Ex.ws_len r
  have:=Ex.w_eq x
  rw[Ex.ws,List.length_cons]; omega
theorem Ex.kid_lt {d x:Ex}(h:x∈d.ks):x.w<d.w:=by
 have:=Ex.ws_mem h
 rw[Ex.w_eq d]; omega
theorem ixE {g:Tag}{ks:List Ex}{i:Int}(h:0≤i∧i<ks.length):indexAddrS 5 (.iv (.sl g (aQ ks))) i=some (.iv (.cp (aW (ks.getD i.toNat default)))):=by
 rw[kI]
 exact aG5 (f:=aW) aHd h
theorem fG (env:Env)(S:aA)(d:Ex):bR env S (.iv (.cp (aW d))) 5=some [.iv (.int .i64 d.k),.iv (.int .i64 d.n),.iv (.sl d.gv (TM.one (.int .i64) d.vs)),.iv (.bool d.r),.iv (.sl d.g (aQ d.ks))]:=by
 rw[aJ]; rfl
abbrev lbE (d:Ex):TV:=.lb [.iv (.int .i64 d.k),.iv (.int .i64 d.n),.iv (.sl d.gv (TM.one (.int .i64) d.vs)),.iv (.bool d.r),.iv (.sl d.g (aQ d.ks))]
structure Pg where
 b:Ex
 gl:Int
 vr:Int
 gc:Tag
 cs:List Dt
def Pg.w (p:Pg):Nat:=p.b.w+Dt.ws p.cs
def cA (p:Pg):List IV:=[.int .i64 p.b.k,.int .i64 p.b.n,.sl p.b.gv (TM.one (.int .i64) p.b.vs),.bool p.b.r,.sl p.b.g (aQ p.b.ks),.int .i64 p.gl,.int .i64 p.vr,.sl p.gc (bQ p.cs)]
abbrev lbP (p:Pg):TV:=.lb [.iv (.int .i64 p.b.k),.iv (.int .i64 p.b.n),.iv (.sl p.b.gv (TM.one (.int .i64) p.b.vs)),.iv (.bool p.b.r),.iv (.sl p.b.g (aQ p.b.ks)),.iv (.int .i64 p.gl),.iv (.int .i64 p.vr),.iv (.sl p.gc (bQ p.cs))]
end Go.Proofs.YtookmpaholmmfaaGreatDoor
namespace Go.Proofs.YtookmpaholmmfaaGreatDoor
open Go Go.TM Go.ChangeShapes Go.WideShapes
section
variable {P:Program}{H:Type}
theorem mT {t:TypeId}{fs:Array Field}{d:DataW H}{l:List IV}(hu:P.underlying t=some (.struct fs))(h:Ty P t d l) :
  ∃(ds:List (DataW H)) (ls:List (List IV)),d=.agg ds∧l=bV ls∧nQ P (fs.toList.map (·.type)) ds ls:=by
 have h0:=h
 cases h with
 | bool u ht b=>rw[hu]at ht; cases ht
 | int u k ht=>rw[hu]at ht; cases ht
 | str u ht=>rw[hu]at ht; cases ht
 | nilp u e ht=>rw[hu]at ht; cases ht
 | ptr u e ht=>rw[hu]at ht; cases ht
 | nils u e ht=>rw[hu]at ht; cases ht
 | sl u e ht=>rw[hu]at ht; cases ht
 | struct u fs' ht ds ls h1 h2 h hl =>
  rw[hu]at ht; cases ht
  refine⟨ds,ls,rfl,rfl,?_⟩
  have key:∀(fs:List Field) (ds:List (DataW H)) (ls:List (List IV)),ds.length=fs.length→ls.length=fs.length→(∀(i:Nat) (f:Field) (d:DataW H) (l:List IV),fs[i]? = some f→ds[i]? = some d→ls[i]? = some l→Ty P f.type d l)→nQ P (fs.map (·.type)) ds ls:=by
   intro fs
   induction fs with
   | nil =>
    intro ds ls h1 h2 _
    have e1:ds=[]:=List.eq_nil_of_length_eq_zero (by simpa using h1)
    have e2:ls=[]:=List.eq_nil_of_length_eq_zero (by simpa using h2)
    subst e1; subst e2; exact trivial
   | cons f fs ih =>
    intro ds ls h1 h2 h
    cases ds with
    | nil=>simp at h1
    | cons d ds =>
     cases ls with
     | nil=>simp at h2
     | cons l ls=>exact⟨h 0 f d l rfl rfl rfl,ih ds ls (by simpa using h1) (by simpa using h2) (fun i f' d' l' hf hd hl'=>h (i+1) f' d' l' (by simpa using hf) (by simpa using hd) (by simpa using hl'))⟩
  exact key fs.toList ds ls (by simpa using h1) (by simpa using h2) (fun i f d l hf hd hl'=>h i f d l (by simpa using hf) hd hl')
 | array u e n ht=>rw[hu]at ht; cases ht
theorem cQ {t:TypeId}{ts:List TypeId}{ds:List (DataW H)}{ls:List (List IV)}(h:nQ P (t::ts) ds ls):∃(d:DataW H) (l:List IV) (ds':List (DataW H)) (ls':List (List IV)),ds=d::ds'∧ls=l::ls'∧Ty P t d l∧nQ P ts ds' ls':=by
 cases ds with
 | nil=>cases ls<;>exact h.elim
 | cons d ds =>
  cases ls with
  | nil=>exact h.elim
  | cons l ls=>exact⟨d,l,ds,ls,rfl,rfl,h.1,h.2⟩
theorem rG {t e:TypeId}{d:DataW H}{l:List IV}(hu:P.underlying t=some (.slice e))(h:Ty P t d l) :
  ∃(tg:Tag) (ds sp:List (DataW H)) (ls:List (List IV)),(d=.slice ds sp∨d=.nil∧ds=[])∧l=[.sl tg ls]∧(tg=.nil→ls=[])∧ls.length=ds.length∧∀(i:Nat) (d:DataW H) (l:List IV),ds[i]? = some d→ls[i]? = some l→Ty P e d l:=by
 cases h with
 | bool u ht b=>rw[hu]at ht; cases ht
 | int u k ht=>rw[hu]at ht; cases ht
 | str u ht=>rw[hu]at ht; cases ht
 | nilp u e ht=>rw[hu]at ht; cases ht
 | ptr u e ht=>rw[hu]at ht; cases ht
 | nils u e ht=>exact⟨.nil,[],[],[],.inr ⟨rfl,rfl⟩,rfl,fun _=>rfl,rfl,fun i d l h=>by simp at h⟩
 | sl u e' ht ds sp ls tag htag hn hm h hl =>
  rw[hu]at ht; cases ht
  exact⟨tag,ds,sp,ls,.inl rfl,rfl,fun e=>absurd e htag,hn,h⟩
 | struct u fs ht=>rw[hu]at ht; cases ht
 | array u e n ht=>rw[hu]at ht; cases ht
theorem bB5 {t:TypeId}{d:DataW H}{l:List IV}{k:IntKind}(hu:P.underlying t=some (.int k))(h:Ty P t d l):∃n,d=.lit (.int k n)∧l=[.int k n]∧k.min≤n∧n≤k.max:=by
 cases h with
 | bool u ht b=>rw[hu]at ht; cases ht
 | int u k' ht n hw =>
  rw[hu]at ht; cases ht
  simp only[Lit.wf,Bool.and_eq_true,decide_eq_true_eq]at hw
  exact⟨n,rfl,rfl,hw⟩
 | str u ht=>rw[hu]at ht; cases ht
 | nilp u e ht=>rw[hu]at ht; cases ht
 | ptr u e ht=>rw[hu]at ht; cases ht
 | nils u e ht=>rw[hu]at ht; cases ht
 | sl u e ht=>rw[hu]at ht; cases ht
 | struct u fs ht=>rw[hu]at ht; cases ht
 | array u e n ht=>rw[hu]at ht; cases ht
theorem bB6 {t:TypeId}{d:DataW H}{l:List IV}(hu:P.underlying t=some .string)(h:Ty P t d l):∃s,d=.lit (.string s)∧l=[.str s]:=by
 cases h with
 | bool u ht b=>rw[hu]at ht; cases ht
 | int u k ht=>rw[hu]at ht; cases ht
 | str u ht s hs=>exact⟨s,rfl,rfl⟩
 | nilp u e ht=>rw[hu]at ht; cases ht
 | ptr u e ht=>rw[hu]at ht; cases ht
 | nils u e ht=>rw[hu]at ht; cases ht
 | sl u e ht=>rw[hu]at ht; cases ht
 | struct u fs ht=>rw[hu]at ht; cases ht
 | array u e n ht=>rw[hu]at ht; cases ht
open Rows in
theorem oO {d:DataW H}{ds sp:List (DataW H)}(h:d=.slice ds sp∨d=.nil∧ds=[]):uptoBulkAll ds+1≤uptoBulk d:=by
 rcases h with rfl|⟨rfl,rfl⟩
 ·simp only[uptoBulk]; omega
 ·simp only[uptoBulk,uptoBulkAll]; omega
open Rows in
theorem vR {d:DataW H}:∀ {l:List (DataW H)},d∈l→uptoBulk d≤uptoBulkAll l
 | x::r,h=>by
  simp only[uptoBulkAll]
  rcases List.mem_cons.1 h with rfl|h
  ·omega
  ·have:=vR h; omega
open Rows in
theorem tU {α:Type}{e:TypeId}{f:α→List IV}{R:α→Prop}{w:α→Nat}{ws:List α→Nat}(h0:ws []=0)(h1:∀a l,ws (a::l)=w a+ws l) :
  ∀(ls:List (List IV)) (ds:List (DataW H)),(∀d∈ds,∀l,Ty P e d l→∃a,l=f a∧w a≤uptoBulk d∧R a)→ls.length=ds.length →
  (∀(i:Nat) (d:DataW H) (l:List IV),ds[i]? = some d→ls[i]? = some l→Ty P e d l)→∃ags:List α,ls=ags.map f∧ws ags≤uptoBulkAll ds∧∀a∈ags,R a
 | [],ds,_,_,_=>⟨[],rfl,by rw[h0]; omega,by simp⟩
 | l::ls,[],_,hn,_=>by simp at hn
 | l::ls,d::ds,he,hn,h=>by
  obtain⟨a,rfl,hw,ha⟩:=he d (by simp) l (h 0 d l rfl rfl)
  obtain⟨ags,rfl,hws,has⟩:=tU h0 h1 ls ds (fun d hd=>he d (by simp[hd])) (by simpa using hn) (fun i d' l' hd hl'=>h (i+1) d' l' (by simpa using hd) (by simpa using hl'))
  refine⟨a::ags,rfl,?_,?_⟩
  ·rw[h1,uptoBulkAll]; omega
  ·intro x hx; rcases List.mem_cons.1 hx with rfl|hx; exact ha; exact has x hx
end
def iO (n:Int):Prop:=-9223372036854775808≤n∧n≤9223372036854775807
mutual
def Dt.ok:Dt→Prop
 | .mk k n t g ks p=>iO k∧iO n∧iO p∧dE g ks∧Dt.oks ks
def Dt.oks:List Dt→Prop
 | []=>True
 | d::ds=>Dt.ok d∧Dt.oks ds
end
mutual
def Ex.ok:Ex→Prop
 | .mk k n gv vs r g ks=>iO k∧iO n∧dE gv vs∧(∀v∈vs,iO v)∧dE g ks∧Ex.oks ks
def Ex.oks:List Ex→Prop
 | []=>True
 | d::ds=>Ex.ok d∧Ex.oks ds
end
theorem Dt.oks_iff:∀ {ks:List Dt},Dt.oks ks↔∀x∈ks,x.ok
 | []=>by simp[Dt.oks]
 | d::ds=>by rw[Dt.oks,Dt.oks_iff]; simp
theorem Ex.oks_iff:∀ {ks:List Ex},Ex.oks ks↔∀x∈ks,x.ok
 | []=>by simp[Ex.oks]
 | d::ds=>by rw[Ex.oks,Ex.oks_iff]; simp
theorem Dt.ok_eq (d:Dt):d.ok↔iO d.k∧iO d.n∧iO d.p∧dE d.g d.ks∧∀x∈d.ks,x.ok:=by
 cases d; rw[Dt.ok,Dt.oks_iff]; rfl
theorem Ex.ok_eq (d:Ex):d.ok↔iO d.k∧iO d.n∧dE d.gv d.vs∧(∀v∈d.vs,iO v)∧dE d.g d.ks∧∀x∈d.ks,x.ok:=by
 cases d; rw[Ex.ok,Ex.oks_iff]; rfl
def Pg.ok (p:Pg):Prop:=p.b.ok∧iO p.gl∧iO p.vr∧dE p.gc p.cs∧∀x∈p.cs,x.ok
theorem bB7 {n:Int}(h:IntKind.i64.min≤n∧n≤IntKind.i64.max):iO n:=by
 obtain⟨h1,h2⟩:=h
 simp[IntKind.min,IntKind.max,IntKind.signed,IntKind.bits]at h1 h2
 unfold iO; omega
theorem yX {tg:Tag}{α β:Type}{f:α→β}{l:List α}(h:tg=.nil→l.map f=[]):dE tg l:=fun e=>by simpa using h e
section
variable {H:Type}
open Rows
theorem tyI {d:DataW H}{l:List IV}(h:Ty Tryz.prog 3 d l):∃n,l=[.int .i64 n]∧uptoBulk d=1∧iO n:=by
 obtain⟨n,rfl,rfl,hr⟩:=bB5 Tryz.underlying3 h
 exact⟨n,rfl,by simp[uptoBulk],bB7 hr⟩
theorem bLg {d:DataW H}{l:List IV}(h:Ty Tryz.prog 22 d l):∃(tg:Tag) (vs:List Int),l=[.sl tg (TM.one (.int .i64) vs)]∧dE tg vs∧vs.length+1≤uptoBulk d∧∀v∈vs,iO v:=by
 obtain⟨tg,ds,sp,ls,hd,rfl,ht,hn,hl⟩:=rG Tryz.underlying22 h
 obtain⟨vs,rfl,hw,hr⟩:=tU (f:=fun n=>[.int .i64 n]) (R:=iO) (w:=fun _:Int=>1) (ws:=List.length) rfl (fun a l=>by simp; omega) ls ds (fun d hd l h=>by
  obtain⟨n,rfl,hb,hr⟩:=tyI h
  exact⟨n,rfl,by omega,hr⟩) hn hl
 have:=oO hd
 exact⟨tg,vs,rfl,yX ht,by omega,hr⟩
theorem bGh:∀(n:Nat) (d:DataW H) (l:List IV),uptoBulk d≤n→Ty Tryz.prog 39 d l→∃x:Dt,l=gP x∧x.w≤uptoBulk d∧x.ok
 | 0,d,l,hb,h=>by
  obtain⟨ds,ls,rfl,rfl,hh⟩:=mT Tryz.underlying39 h
  simp only[uptoBulk]at hb; omega
 | n+1,d,l,hb,h=>by
  obtain⟨ds,ls,rfl,rfl,hh00⟩:=mT Tryz.underlying39 h
  have hh0:nQ Tryz.prog [3,3,9,26,3] ds ls:=hh00
  obtain⟨d0,l0,ds,ls,rfl,rfl,h0,hh1⟩:=cQ hh0
  obtain⟨d1,l1,ds,ls,rfl,rfl,h1,hh2⟩:=cQ hh1
  obtain⟨d2,l2,ds,ls,rfl,rfl,h2,hh3⟩:=cQ hh2
  obtain⟨d3,l3,ds,ls,rfl,rfl,h3,hh4⟩:=cQ hh3
  obtain⟨d4,l4,ds,ls,rfl,rfl,h4,hh5⟩:=cQ hh4
  obtain rfl:=nF hh5
  rw[sA hh5]
  simp only[uptoBulk,uptoBulkAll]at hb
  obtain⟨k,rfl,b0,r0⟩:=tyI h0
  obtain⟨m,rfl,b1,r1⟩:=tyI h1
  obtain⟨s,rfl,rfl⟩:=bB6 Tryz.underlying9 h2
  obtain⟨tg,es,sp,ls,hd,rfl,ht,hn,hl⟩:=rG Tryz.underlying26 h3
  obtain⟨p,rfl,b4,r4⟩:=tyI h4
  have hs:=oO hd
  obtain⟨ks,rfl,hw,hr⟩:=tU (f:=gP) (R:=Dt.ok) (w:=Dt.w) (ws:=Dt.ws) (by rw[Dt.ws]) (fun a l=>by rw[Dt.ws]) ls es (fun d hd l h=>by
   have:=vR hd
   exact bGh n d l (by omega) h) hn hl
  refine⟨.mk k m s tg ks p,?_,?_,?_⟩
  ·rw[gP,kG]; rfl
  ·rw[Dt.w]; simp only[uptoBulk,uptoBulkAll]; omega
  ·rw[Dt.ok_eq]; exact⟨r0,r1,r4,yX ht,hr⟩
theorem tyB {d:DataW H}{l:List IV}(h:Ty Tryz.prog 4 d l):∃b,l=[.bool b]:=bF2 Tryz.underlying4 h
theorem bGi:∀(n:Nat) (d:DataW H) (l:List IV),uptoBulk d≤n→Ty Tryz.prog 25 d l→∃x:Ex,l=aW x∧x.w≤uptoBulk d∧x.ok
 | 0,d,l,hb,h=>by
  obtain⟨ds,ls,rfl,rfl,hh⟩:=mT Tryz.underlying25 h
  simp only[uptoBulk]at hb; omega
 | n+1,d,l,hb,h=>by
  obtain⟨ds,ls,rfl,rfl,hh00⟩:=mT Tryz.underlying25 h
  have hh0:nQ Tryz.prog [3,3,22,4,23] ds ls:=hh00
  obtain⟨d0,l0,ds,ls,rfl,rfl,h0,hh1⟩:=cQ hh0
  obtain⟨d1,l1,ds,ls,rfl,rfl,h1,hh2⟩:=cQ hh1
  obtain⟨d2,l2,ds,ls,rfl,rfl,h2,hh3⟩:=cQ hh2
  obtain⟨d3,l3,ds,ls,rfl,rfl,h3,hh4⟩:=cQ hh3
  obtain⟨d4,l4,ds,ls,rfl,rfl,h4,hh5⟩:=cQ hh4
  obtain rfl:=nF hh5
  rw[sA hh5]
  simp only[uptoBulk,uptoBulkAll]at hb
  obtain⟨k,rfl,b0,r0⟩:=tyI h0
  obtain⟨m,rfl,b1,r1⟩:=tyI h1
  obtain⟨tv,vs,rfl,htv,b2,r2⟩:=bLg h2
  obtain⟨r,rfl⟩:=tyB h3
  obtain⟨tg,es,sp,ls,hd,rfl,ht,hn,hl⟩:=rG Tryz.underlying23 h4
  have hs:=oO hd
  obtain⟨ks,rfl,hw,hr⟩:=tU (f:=aW) (R:=Ex.ok) (w:=Ex.w) (ws:=Ex.ws) (by rw[Ex.ws]) (fun a l=>by rw[Ex.ws]) ls es (fun d hd l h=>by
   have:=vR hd
   exact bGi n d l (by omega) h) hn hl
  refine⟨.mk k m tv vs r tg ks,?_,?_,?_⟩
  ·rw[aW,kI]; rfl
  ·rw[Ex.w]; simp only[uptoBulk,uptoBulkAll]; omega
  ·rw[Ex.ok_eq]; exact⟨r0,r1,htv,r2,yX ht,hr⟩
theorem bJ0 {d:DataW H}{l:List IV}(h:Ty Tryz.prog 28 d l):∃x:Pg,l=cA x∧x.w≤uptoBulk d∧x.ok:=by
 obtain⟨ds,ls,rfl,rfl,hh00⟩:=mT Tryz.underlying28 h
 have hh0:nQ Tryz.prog [25,3,3,26] ds ls:=hh00
 obtain⟨d0,l0,ds,ls,rfl,rfl,h0,hh1⟩:=cQ hh0
 obtain⟨d1,l1,ds,ls,rfl,rfl,h1,hh2⟩:=cQ hh1
 obtain⟨d2,l2,ds,ls,rfl,rfl,h2,hh3⟩:=cQ hh2
 obtain⟨d3,l3,ds,ls,rfl,rfl,h3,hh4⟩:=cQ hh3
 obtain rfl:=nF hh4
 rw[sA hh4]
 obtain⟨b,rfl,b0,r0⟩:=bGi _ _ _ (Nat.le_refl _) h0
 obtain⟨gl,rfl,b1,r1⟩:=tyI h1
 obtain⟨vr,rfl,b2,r2⟩:=tyI h2
 obtain⟨tg,es,sp,ls,hd,rfl,ht,hn,hl⟩:=rG Tryz.underlying26 h3
 have hs:=oO hd
 obtain⟨ks,rfl,hw,hr⟩:=tU (f:=gP) (R:=Dt.ok) (w:=Dt.w) (ws:=Dt.ws) (by rw[Dt.ws]) (fun a l=>by rw[Dt.ws]) ls es (fun d hd l h=>bGh _ d l (Nat.le_refl _) h) hn hl
 refine⟨⟨b,gl,vr,tg,ks⟩,?_,?_,?_⟩
 ·rw[cA,aJ,kG]; rfl
 ·unfold Pg.w; simp only[uptoBulk,uptoBulkAll]; omega
 ·exact⟨r0,r1,r2,yX ht,hr⟩
end
end Go.Proofs.YtookmpaholmmfaaGreatDoor
namespace Go.Proofs.YtookmpaholmmfaaGreatDoor
open Go Go.TM
attribute [go_sem] List.length_set
mutual
def kJ (f:Ex→List Int):Ex→List Int
 | .mk k n gv vs r g ks=>f (.mk k n gv vs r g ks)++gB f ks
def gB (f:Ex→List Int):List Ex→List Int
 | []=>[]
 | d::ds=>kJ f d++gB f ds
end
theorem mE (f:Ex→List Int)(e:Ex):kJ f e=f e++gB f e.ks:=by cases e; rw[kJ]; rfl
structure AM (S:aA) (ib im:Nat) (B:List Int) (m:Nat):Prop where
 ne:ib≠im
 box:S[ib]? = some (.cells 56 false [.map im])
 map:∃l c,S[im]? = some (.mp (mpR jB l) c)∧oB l c∧l.length≤m∧∀v,fT l v=true↔v∈B
def bGj (f:Nat)(act:Ex→List Int):Prop:=∀(e:Ex) (S:aA) (ib im:Nat) (B:List Int) (m:Nat),e.ok→e.w≤1048576→AM S ib im B m →
 ∃S',(lim K).call f [.iv (.agg (aW e)),.ptr ib 56 0] S=.ret (u_,S')∧AM S' ib im (B++act e) (m+(act e).length)
theorem AM.put {S:aA}{ib im:Nat}{B:List Int}{m:Nat}(h:AM S ib im B m){l:List (Nat×Int×Int)}{c:Nat}(hl:S[im]? = some (.mp (mpR jB l) c))(ho:oB l c)(hm:l.length≤m)(hb:∀v,fT l v=true↔v∈B){k:Int}(hk:iO k)(a:Int) :
  AM (S.set im (.mp (mpR jB (gA l c k a)) (rC l c k))) ib im (B++[k]) (m+1):=by
 refine⟨h.ne,?_,⟨_,_,fM (dM hl) _,ho.put hk a,?_,fun v=>?_⟩⟩
 ·rw[bU (Ne.symm h.ne)]; exact h.box
 ·have:=aOb l c k a; omega
 ·rw[bBp,Bool.or_eq_true,hb v,decide_eq_true_eq]
  simp only[List.mem_append,List.mem_singleton]
  constructor
  ·rintro (rfl|h)
   ·exact .inr rfl
   ·exact .inl h
  ·rintro (h|rfl)
   ·exact .inr h
   ·exact .inl rfl
def kC (e:Ex):List Int:=if e.k=4 then [e.n] else []
def aKo (e:Ex):List Int:=if e.k=7 then e.vs else []
theorem bJ1:bGj 46 kC:=by
 intro e S ib im B m hok hw h
 obtain⟨l,c,hl,ho,hm,hb⟩:=h.map
 have hbox:=h.box
 unfold kC
 by_cases hk:e.k=4
 ·refine⟨S.set im (.mp (mpR jB (gA l c e.n 0)) (rC l c e.n)),aB K _ (fn:=t46) rfl rfl ?_,?_⟩
  ·rw[aJ]
   simp (disch:=omega) only[t46,go_sem,hk,hbox,hl]
  ·rw[if_pos hk]
   exact h.put hl ho hm hb ((Ex.ok_eq e).1 hok).2.1 0
 ·refine⟨S,aB K _ (fn:=t46) rfl rfl ?_,?_⟩
  ·rw[aJ]
   simp (disch:=omega) only[t46,go_sem,hk]
  ·rw[if_neg hk,List.append_nil]; exact h
theorem aVm {N:Nat}(f:Nat)(act:Ex→List Int)(ih:∀(e:Ex) (S:aA) (ib im:Nat) (B:List Int) (m:Nat),e.ok→e.w≤N→AM S ib im B m→∃S',(lim K).call 45 [.iv (.agg (aW e)),.fn f [] [.ptr ib 56 0]] S=.ret (u_,S')∧AM S' ib im (B++kJ act e) (m+(kJ act e).length))
  (e:Ex) (hok:e.ok) (hw:e.w≤N+1) (hN:N≤1048576) (ib im:Nat) (x0 x2:TV):∀(k i:Nat) (x3 x7:TV) (S:aA) (B:List Int) (m:Nat),i+k=e.ks.length→AM S ib im B m →
  ∃y3 y7 S',lp' (lim K) t45L0 [x0,.fn f [] [.ptr ib 56 0],x2,x3,.iv (.sl e.g (aQ e.ks)),.iv (.int .i64 e.ks.length),.iv (.int .i64 (i:Int)),x7] S
   = .ret (.exit 0,[x0,.fn f [] [.ptr ib 56 0],x2,y3,.iv (.sl e.g (aQ e.ks)),.iv (.int .i64 e.ks.length),.iv (.int .i64 e.ks.length),y7],S')∧AM S' ib im (B++gB act (e.ks.drop i)) (m+(gB act (e.ks.drop i)).length)
 | 0,i,x3,x7,S,B,m,h,ha=>by
  obtain rfl:i=e.ks.length:=by omega
  refine⟨?_,?_,S,aH K _ _ t45L0.eq_1 ?_,by rw[List.drop_length,gB,List.append_nil]; exact ha⟩
  rotate_left 2
  ·simp (disch:=omega) only[go_sem]
   rfl
 | k+1,i,x3,x7,S,B,m,h,ha=>by
  have hla:i<e.ks.length:=by omega
  have hwe:=Ex.w_eq e
  have hwl:=Ex.ws_len e.ks
  have hix:=ixE (g:=e.g) (ks:=e.ks) (i:=(i:Int)) (by omega)
  rw[Int.toNat_natCast]at hix
  have hdr:=bM hla
  have hki:(e.ks.getD i default).ok:=((Ex.ok_eq e).1 hok).2.2.2.2.2 _ (bP hla)
  have hkw:=Ex.kid_lt (d:=e) (bP hla)
  generalize hx:e.ks.getD i default=x at *
  obtain⟨S1,hc,ha1⟩:=ih x S ib im B m hki (by omega) ha
  obtain⟨y3,y7,S',ih2,ha'⟩:=aVm f act ih e hok hw hN ib im x0 x2 k (i+1) (lbE x) (.iv (.bool true)) S1 _ _ (by omega) ha1
  rw[show ((i+1:Nat):Int)=(i:Int)+1 by omega]at ih2
  refine⟨y3,y7,S',aH K _ _ t45L0.eq_1 ?_,?_⟩
  ·rw[aJ]at hc
   simp (disch:=omega) only[go_sem,hix,fG,hc,aF]
   exact congrArg er ih2
  ·rw[hdr,gB,List.length_append]
   rw[List.append_assoc]at ha'
   rw[show m+((kJ act x).length+(gB act (List.drop (i+1) e.ks)).length)=m+(kJ act x).length+(gB act (List.drop (i+1) e.ks)).length by omega]
   exact ha'
theorem aVn (f:Nat)(act:Ex→List Int)(hact:bGj f act):∀(N:Nat),N≤1048576→∀(e:Ex) (S:aA) (ib im:Nat) (B:List Int) (m:Nat),e.ok→e.w≤N→AM S ib im B m →
  ∃S',(lim K).call 45 [.iv (.agg (aW e)),.fn f [] [.ptr ib 56 0]] S=.ret (u_,S')∧AM S' ib im (B++kJ act e) (m+(kJ act e).length)
 | 0,hN,e,S,ib,im,B,m,hok,hw,ha=>by have:=Ex.w_eq e; omega
 | N+1,hN,e,S,ib,im,B,m,hok,hw,ha=>by
  obtain⟨S1,hc,ha1⟩:=hact e S ib im B m hok (by omega) ha
  obtain⟨y3,y7,S',ih,ha'⟩:=aVm (N:=N) f act (aVn f act hact N (by omega)) e hok hw (by omega) ib im (.iv (.agg (aW e))) (lbE e) e.ks.length 0 u_ u_ S1 _ _ (by omega) ha1
  rw[show ((0:Nat):Int)=0 from rfl]at ih
  rw[List.drop_zero]at ha'
  refine⟨S',aB K _ (fn:=t45) rfl rfl ?_,?_⟩
  ·rw[aJ]at hc ih ⊢
   simp (disch:=omega) only[t45,go_sem,hc,aD]
   rw[ih]
   simp (disch:=omega) only[go_sem]
  ·rw[mE,List.length_append,←List.append_assoc,←Nat.add_assoc]
   exact ha'
theorem bB8:K.prim 47=some kA:=rfl
theorem aVo (S:aA)(j:Nat):prV S (some kA) [.map j]=kA [.map j] S:=id rfl
theorem zN (act:Ex→List Int)(h:∀e,(act e).length+Ex.ws e.ks≤e.w):∀(N:Nat) (e:Ex),e.w≤N→(kJ act e).length≤e.w
 | 0,e,hw=>by have:=Ex.w_eq e; omega
 | N+1,e,hw=>by
  have key:∀l:List Ex,(∀x∈l,x.w≤N)→(gB act l).length≤Ex.ws l:=by
   intro l
   induction l with
   | nil=>intro _; rw[gB]; simp
   | cons a r ih =>
    intro hl
    rw[gB,Ex.ws,List.length_append]
    have:=zN act h N a (hl a (by simp))
    have:=ih (fun x hx=>hl x (by simp[hx]))
    omega
  have:=key e.ks (fun x hx=>by have:=Ex.kid_lt hx; omega)
  have:=h e
  rw[mE,List.length_append]
  omega
theorem aHe (e:Ex):(kC e).length+Ex.ws e.ks≤e.w:=by
 have:=Ex.w_eq e
 unfold kC; split<;>simp<;>omega
structure oP (l B:List Int):Prop where
 inc:l.Pairwise (·<·)
 mem:∀v,v∈l↔v∈B
theorem aHf {l m B:List Int}(h:oP l B)(g:oP m B):l=m:=by
 have hp:l.Perm m:=(List.perm_ext_iff_of_nodup (h.inc.imp (fun h=>by omega)) (g.inc.imp (fun h=>by omega))).2 fun v=>(h.mem v).trans (g.mem v).symm
 exact List.Perm.eq_of_pairwise (le:=fun a b=>a<b) (fun a b _ _ h1 h2=>absurd h1 (by omega)) h.inc g.inc hp
theorem aRa {l:List (Nat×Int×Int)}{c:Nat}{B:List Int}(ho:oB l c)(hb:∀v,fT l v=true↔v∈B):oP (fZ (l.map (·.2.1))) B:=by
  have hn:(fZ (l.map (·.2.1))).Nodup:=((jL _).nodup_iff).2 ho.keys
  have hp:=tR (l.map (·.2.1))
  refine⟨?_,fun v=>?_⟩
  · have h2:=List.Pairwise.and hp hn
    exact h2.imp (fun ⟨h3, h4⟩ => by have : ∀ a b : Int, a ≤ b → a ≠ b → a < b := fun a b h1 h2 => by omega
                                     exact this _ _ h3 h4)
  · rw[(jL _).mem_iff,←aCb]; exact hb v
theorem bG5 (e:Ex)(hok:e.ok)(hw:e.w≤1048576):∃l,Pure K 14 [.iv (.agg (aW e))] (.iv (.sl (eP l) (TM.one (.int .i64) l)))∧oP l (kJ kC e)∧l.length≤1048576:=by
 have ha:AM [.mp (mpR jB []) 0,.cells 56 false [.map 0]] 1 0 [] 0:=⟨by decide,rfl,[],0,rfl,.nil _,by simp,fun v=>by simp[fT,gO]⟩
 obtain⟨S',hc,ha'⟩:=aVn 46 kC bJ1 1048576 (by omega) e _ 1 0 [] 0 hok hw ha
 rw[List.nil_append,Nat.zero_add]at ha'
 obtain⟨l,c,hl,ho,hm,hb⟩:=ha'.map
 have hbox:=ha'.box
 have hlen:=zN kC aHe _ e (Nat.le_refl _)
 have hp:=aHa hl ho (by omega)
 refine⟨fZ (l.map (·.2.1)),?_,aRa ho hb,by rw[(jL _).length_eq,List.length_map]; omega⟩
 refine aR (S:=S') (r:=.iv (.sl (eP (fZ (l.map (·.2.1)))) (TM.one (.int .i64) (fZ (l.map (·.2.1)))))) (aB K _ (fn:=t14) rfl rfl ?_) (by rw[aN])
 rw[aG8]at hc
 rw[aJ]at hc ⊢
 simp (disch:=omega) only[t14,go_sem,hc,hbox,bB8,aVo,hp]
mutual
def bxF:Ex→Bool
 | .mk k n gv vs r g ks=>(decide (12≤k)&&decide (k≤14))||vS ks
def vS:List Ex→Bool
 | []=>false
 | e::es=>bxF e||vS es
end
theorem aVp (e:Ex):bxF e=((decide (12≤e.k)&&decide (e.k≤14))||vS e.ks):=by cases e; rw[bxF]; rfl
theorem aOd {N:Nat}(ih:∀(e:Ex) (S:aA),e.w≤N→(lim K).call 65 [.iv (.agg (aW e))] S=.ret (.iv (.bool (bxF e)),S))
  (e:Ex) (hw:e.w≤N+1) (hN:N+1≤1048576) (S:aA):∀(k i:Nat) (x3 x6 x7:TV),i+k=e.ks.length →
  ∃j m y3 y5 y6 y7,(j=.ret∧0≤m∧vS (e.ks.drop i)=true∨j=.exit 0∧m=0∧vS (e.ks.drop i)=false) ∧
   lp' (lim K) t131L0 [.iv (.sl e.g (aQ e.ks)),.fn 65 [] [],.iv (.int .i64 0),x3,.iv (.int .i64 e.ks.length),.iv (.int .i64 (i:Int)),x6,x7] S
    = .ret (j,[.iv (.sl e.g (aQ e.ks)),.fn 65 [] [],.iv (.int .i64 m),y3,.iv (.int .i64 e.ks.length),y5,y6,y7],S)
 | 0,i,x3,x6,x7,h=>by
  obtain rfl:i=e.ks.length:=by omega
  refine⟨.exit 0,0,?_,?_,?_,?_,.inr ⟨rfl,rfl,by rw[List.drop_length,vS]⟩,aH K _ _ t131L0.eq_1 ?_⟩
  rotate_left 4
  ·simp (config := { maxSteps := 4000000 }) (disch:=omega) only[go_sem]
   rfl
 | k+1,i,x3,x6,x7,h=>by
  have hla:i<e.ks.length:=by omega
  have hwe:=Ex.w_eq e
  have hwl:=Ex.ws_len e.ks
  have hix:=ixE (g:=e.g) (ks:=e.ks) (i:=(i:Int)) (by omega)
  rw[Int.toNat_natCast]at hix
  have hdr:=bM hla
  have hkw:=Ex.kid_lt (d:=e) (bP hla)
  generalize hx:e.ks.getD i default=x at *
  have hc:=ih x [] (by omega)
  rw[aJ]at hc
  rw[hdr,vS]
  cases hb:bxF x with
  | true =>
   rw[hb]at hc
   refine⟨.ret,(i:Int),?_,?_,?_,?_,.inl ⟨rfl,by omega,rfl⟩,aH K _ _ t131L0.eq_1 ?_⟩
   rotate_left 4
   ·simp (config := { maxSteps := 4000000 }) (disch:=omega) only[go_sem,hix,fG,hc]
    rfl
  | false =>
   rw[hb]at hc
   obtain⟨j,m,y3,y5,y6,y7,hj,ih2⟩:=aOd ih e hw hN S k (i+1) (.iv (.int .i64 (i:Int))) (.iv (.bool true)) (.iv (.bool false)) (by omega)
   rw[show ((i+1:Nat):Int)=(i:Int)+1 by omega]at ih2
   refine⟨j,m,y3,y5,y6,y7,by simpa using hj,aH K _ _ t131L0.eq_1 ?_⟩
   simp (config := { maxSteps := 4000000 }) (disch:=omega) only[go_sem,hix,fG,hc,aF]
   exact congrArg er ih2
theorem aVq:∀N,N≤1048576→∀(e:Ex) (S:aA),e.w≤N→(lim K).call 65 [.iv (.agg (aW e))] S=.ret (.iv (.bool (bxF e)),S)
 | 0,hN,e,S,hw=>by have:=Ex.w_eq e; omega
 | N+1,hN,e,S,hw=>by
  have hwe:=Ex.w_eq e
  have hwl:=Ex.ws_len e.ks
  have c97:(lim K).call 97 [.iv (.sl e.g (aQ e.ks)),.fn 65 [] []] S=.ret (.iv (.bool (vS e.ks)),S):=by
   have c131:∃m:Int,(lim K).call 131 [.iv (.sl e.g (aQ e.ks)),.fn 65 [] []] S=.ret (.iv (.int .i64 m),S)∧decide (m≥0)=vS e.ks:=by
    obtain⟨j,m,y3,y5,y6,y7,hj,ih2⟩:=aOd (aVq N (by omega)) e hw hN S e.ks.length 0 u_ u_ u_ (by omega)
    rw[show ((0:Nat):Int)=0 from rfl]at ih2
    rw[List.drop_zero]at hj
    rcases hj with⟨rfl,hm,hb⟩|⟨rfl,rfl,hb⟩
    ·refine⟨m,aB K _ (fn:=t131) rfl rfl ?_,by rw[hb]; simpa using hm⟩
     simp (config := { maxSteps := 4000000 }) (disch:=omega) only[t131,go_sem,aD]
     rw[ih2]
     simp (config := { maxSteps := 4000000 }) (disch:=omega) only[go_sem]
    ·refine⟨-1,aB K _ (fn:=t131) rfl rfl ?_,by rw[hb]; rfl⟩
     simp (config := { maxSteps := 4000000 }) (disch:=omega) only[t131,go_sem,aD]
     rw[ih2]
     simp (config := { maxSteps := 4000000 }) (disch:=omega) only[go_sem]
   obtain⟨m,c,hm⟩:=c131
   refine aB K _ (fn:=t97) rfl rfl ?_
   simp (config := { maxSteps := 4000000 }) (disch:=omega) only[t97,go_sem,c,hm]
  refine aB K _ (fn:=t65) rfl rfl ?_
  rw[aVp,aJ]
  by_cases h1:12≤e.k
  ·by_cases h2:e.k≤14
   ·simp (config := { maxSteps := 4000000 }) (disch:=omega) only[t65,go_sem,h1,h2,ge_iff_le]
   ·simp (config := { maxSteps := 4000000 }) (disch:=omega) only[t65,go_sem,h1,h2,ge_iff_le,c97]
  ·simp (config := { maxSteps := 4000000 }) (disch:=omega) only[t65,go_sem,h1,ge_iff_le,c97]
theorem aVr (l:List (Nat×Int×Int))(c:Nat)(k:Int):lkB (.leaf .int) (.agg [.int .i64 0]) true (some (.mp (mpR jB l) c)) (.iv (.int .i64 k))=some (.tup [.iv (.agg [.int .i64 ((gO l k).getD 0)]),.iv (.bool (gO l k).isSome)]):=by
 rw[bBq]
 cases gO l k<;>rfl
structure Cv where
 f:Int→Option Int
 nx:Int
def Cv.put (σ:Cv)(v:Int):Cv:=⟨fun u=>if v=u then some σ.nx else σ.f u,σ.nx+1⟩
structure CM (S:aA) (ic im:Nat) (σ:Cv):Prop where
 at':S[ic]? = some (.cells 80 false [.map im,.iv (.int .i64 σ.nx)])
 map:∃l c,S[im]? = some (.mp (mpR jB l) c)∧∀v,gO l v=σ.f v
theorem CM.ne {S:aA}{ic im:Nat}{σ:Cv}(h:CM S ic im σ):ic≠im:=by
 rintro rfl
 obtain⟨l,c,h1,_⟩:=h.map
 rw[h.at']at h1; cases h1
theorem CM.keep {S S':aA}{ic im:Nat}{σ:Cv}(h:CM S ic im σ)(k:bW [] S S'):CM S' ic im σ:=by
 obtain⟨l,c,h1,h2⟩:=h.map
 exact⟨k.get _ _ (by simp) h.at',l,c,k.get _ _ (by simp) h1,h2⟩
theorem CM.keepI {S S':aA}{ic im:Nat}{σ:Cv}{I:List Nat}(h:CM S ic im σ)(k:bW I S S')(h1:ic∉I)(h2:im∉I):CM S' ic im σ:=by
 obtain⟨l,c,h3,h4⟩:=h.map
 exact⟨k.get _ _ h1 h.at',l,c,k.get _ _ h2 h3,h4⟩
theorem cW {S:aA}{i j:Nat}{a b:aY}(h:S[i]? = some a)(g:S[j]? = some b)(hab:a≠b):i≠j:=by
 rintro rfl
 rw[h]at g; exact hab (Option.some.inj g)
theorem aKp {S:aA}{ic im:Nat}{σ:Cv}(h:CM S ic im σ)(v:Int):(lim K).call 99 [.ptr ic 80 0,.iv (.int .i64 v)] S=.ret (.iv (.bool (σ.f v).isSome),S):=by
 obtain⟨l,c,h1,h2⟩:=h.map
 have hat:=h.at'
 have hv:=h2 v
 refine aB K _ (fn:=t99) rfl rfl ?_
 simp (disch:=omega) only[t99,go_sem,hat,h1,aVr,hv]
theorem aOe (v:Int):TM.Pure K 100 [.iv (.int .i64 v)] (.iv (.agg (aW (.mk 2 v .nil [] false .nil [])))):=by
 refine aR (S:=[]) (r:=.iv (.agg (aW (.mk 2 v .nil [] false .nil [])))) (aB K _ (fn:=t100) rfl rfl ?_) (by rw[aN])
 simp (disch:=omega) only[t100,go_sem,aW,aQ,TM.one]
theorem aHg (i:Nat)(l:List (List IV)):cellsOf (acc i l)=[acc i l]:=by unfold acc; split<;>rfl
theorem aKq (i:Nat)(l:List (List IV)):bT (acc i l)=false:=by unfold acc; split<;>rfl
attribute [go_sem] aHg aKq
def gI (l:List (List IV))(i:Nat)(S:aA):Nat:=if l=[] then S.length else i
def gS (w el:Nat)(l:List (List IV))(i:Nat)(S:aA):aA:=if l=[] then S++[.tok 1 w el] else S.set i (.tok (l.length+1) w el)
def At (w el:Nat)(l:List (List IV))(i:Nat)(S:aA):Prop:=l≠[]→S[i]? = some (.tok l.length w el)
def dF (l:List (List IV))(i:Nat):List Nat:=if l=[] then [] else [i]
theorem At.nil {w el i:Nat}{S:aA}:At w el [] i S:=fun h=>absurd rfl h
theorem At.keep {w el i:Nat}{S S':aA}{l:List (List IV)}{I:List Nat}(h:At w el l i S)(k:bW I S S')(hi:l≠[]→i∉I):At w el l i S':=fun hl=>k.get _ _ (hi hl) (h hl)
theorem kW (w el:Nat)(l:List (List IV))(i:Nat)(S:aA):bW (dF l i) S (gS w el l i S):=by
 unfold dF gS
 by_cases h:l=[]
 ·rw[if_pos h,if_pos h]; exact bW.app _ _ _
 ·rw[if_neg h,if_neg h]; exact bW.set _ (by simp) _
theorem pH {w el:Nat}{l:List (List IV)}{i:Nat}{S:aA}(h:At w el l i S)(c:List IV):At w el (l++[c]) (gI l i S) (gS w el l i S):=by
 intro _
 unfold gI gS
 by_cases h0:l=[]
 ·rw[if_pos h0,if_pos h0,h0]; simp
 ·rw[if_neg h0,if_neg h0,fM (dM (h h0))]; simp
theorem yJ {w el b:Nat}{l:List (List IV)}{i:Nat}{S:aA}{t:Tag}{c:List IV}(h:At w el l i S)(hc:c.length=w∧c.all iR=true)(hl:fD w l)(hr:gR (l.length+1) b=true) :
  cI false w b el S (acc i l) (.iv (.sl t [c]))=some (acc (gI l i S) (l++[c]),gS w el l i S):=by
 have hx:oA S (.iv (.sl t [c])) [c]:=oA.sl ..
 have hw:fD w [c]:=by intro y hy; simp at hy; subst hy; exact hc
 by_cases h0:l=[]
 ·subst h0
  rw[jF,wV (by decide) hx hw hl (by simp) hr,List.nil_append,bBh]
  simp[gI,gS]
 ·rw[gN _ h0,aN6 hx hw hl (h h0) hr,gN _ (by simp)]
  simp[gI,gS,h0]
theorem aOf {l:List (List IV)}{i j:Nat}{S:aA}{b:aY}(hj:S[j]? = some b)(h:l≠[]→i≠j):gI l i S≠j:=by
 unfold gI
 split
 ·have:=dM hj; omega
 ·rename_i h0; exact h h0
def aP (l:List Int):List (List IV):=TM.one (.int .i64) l
theorem hU (l:List Int)(v:Int):aP l++[[.int .i64 v]]=aP (l++[v]):=by simp[aP,TM.one]
theorem eB {l:List Int}:aP l=[]↔l=[]:=by simp[aP,TM.one]
theorem eC (l:List Int):(aP l).length=l.length:=by simp[aP,TM.one]
theorem jD (l:List Int):fD 1 (aP l):=fD.one (fun _=>rfl) l
structure Own (S:aA) (i5 io:Nat) (own:List Int):Prop where
 box:S[i5]? = some (.cells 23 false [acc io (aP own)])
 tok:At 1 3 (aP own) io S
def gC (σ:Cv)(v:Int):Int×List Int×Cv:=if (σ.f v).isSome then (σ.nx,[v],σ.put v) else (v,[],σ)
theorem bB9 {S:aA}{ic im i2 i5 io:Nat}{σ:Cv}{own:List Int}(h:CM S ic im σ)(h2:S[i2]? = some (.cells 77 false [.ptr ic 80 0]))(h5:Own S i5 io own)(hn:own.length≤1048576)(hx:-1≤σ.nx∧σ.nx≤4611686018427387904)(v:Int) :
  ∃io' S',(lim K).call 133 [.iv (.int .i64 v),.ptr i2 77 0,.ptr i5 23 0] S=.ret (.iv (.int .i64 (gC σ v).1),S')∧CM S' ic im (gC σ v).2.2∧Own S' i5 io' (own++(gC σ v).2.1)∧bW (ic::im::i5::dF (aP own) io) S S'∧(own++(gC σ v).2.1≠[]→io'<S'.length∧(io'=io∧own≠[]∨S.length≤io')):=by
 obtain⟨l,c,h1,hf⟩:=h.map
 have hat:=h.at'
 have c99:=aKp h v
 unfold gC
 cases hv:(σ.f v).isSome with
 | false =>
  rw[hv]at c99
  refine⟨io,S,aB K _ (fn:=t133) rfl rfl ?_,h,by simpa using h5,.refl _ _,fun ho=>?_⟩
  ·simp (disch:=omega) only[t133,go_sem,h2,c99]
  ·simp at ho
   exact⟨dM (h5.tok (by simp[eB,ho])),.inl ⟨rfl,ho⟩⟩
 | true =>
  rw[hv]at c99
  simp only[if_true]
  have e1:=yJ (b:=8) (c:=[.int .i64 v]) (t:=.full) h5.tok ⟨rfl,rfl⟩ (jD own) (cM (by rw[eC]; omega))
  have hb5:=h5.box
  have n1:i5≠ic:=cW hb5 hat (by simp)
  have n2:i5≠im:=cW hb5 h1 (by simp)
  have n3:=h.ne
  have n4:i2≠i5:=cW h2 hb5 (by simp)
  have n5:i2≠ic:=cW h2 hat (by simp)
  have n6:i2≠im:=cW h2 h1 (by simp)
  have no:aP own≠[]→io≠i5∧io≠ic∧io≠im∧io≠i2:=fun ho=>⟨cW (h5.tok ho) hb5 (by simp),cW (h5.tok ho) hat (by simp),cW (h5.tok ho) h1 (by simp),cW (h5.tok ho) h2 (by simp)⟩
  have hk:=kW 1 3 (aP own) io S
  have ho1:∀j,(aP own≠[]→io≠j)→j∉dF (aP own) io:=by
   intro j hj
   unfold dF
   split
   ·simp
   ·rename_i h0; simp; exact fun e=>hj h0 e.symm
  have g5:=hk.get _ _ (ho1 _ fun ho=>(no ho).1) hb5
  have gc:=hk.get _ _ (ho1 _ fun ho=>(no ho).2.1) hat
  have gm:=hk.get _ _ (ho1 _ fun ho=>(no ho).2.2.1) h1
  have g2:=hk.get _ _ (ho1 _ fun ho=>(no ho).2.2.2) h2
  have gt:=pH h5.tok [.int .i64 v]
  have gn1:=aOf hb5 fun ho=>(no ho).1
  have gn2:=aOf hat fun ho=>(no ho).2.1
  have gn3:=aOf h1 fun ho=>(no ho).2.2.1
  rw[hU]at e1 gt
  have hgl:gI (aP own) io S<(gS 1 3 (aP own) io S).length:=dM (gt (by simp[eB]))
  generalize hS1:gS 1 3 (aP own) io S=S1 at *
  have hio:gI (aP own) io S=io∧own≠[]∨S.length≤gI (aP own) io S:=by
   unfold gI
   split
   ·exact .inr (Nat.le_refl _)
   ·rename_i h0; exact .inl ⟨rfl,fun e=>h0 (by rw[e]; rfl)⟩
  generalize hio':gI (aP own) io S=io' at *
  have hp:∀u,gO (gA l c v σ.nx) u=(σ.put v).f u:=fun u=>by rw[rE,hf u]; rfl
  refine⟨io',(((S1.set i5 (.cells 23 false [acc io' (aP (own++[v]))])).set im (.mp (mpR jB (gA l c v σ.nx)) (rC l c v))).set ic (.cells 80 false [.map im,.iv (.int .i64 (σ.nx+1))])),aB K _ (fn:=t133) rfl rfl ?_,⟨?_,gA l c v σ.nx,rC l c v,?_,hp⟩,⟨?_,fun ho=>?_⟩,?_,fun _=>⟨by simpa using hgl,hio⟩⟩
  ·have hq:rF (gA l c v σ.nx) v=σ.nx:=by rw[aCc,if_pos rfl]
   have f1:∀b1 b2 b3,(((S1.set i5 b1).set im b2).set ic b3)[ic]? = some b3:=fun b1 b2 b3=>fM (by simpa using dM gc) _
   have f2:∀b1 b2,((S1.set i5 b1).set im b2)[im]? = some b2:=fun b1 b2=>fM (by simpa using dM gm) _
   simp (disch:=omega) only[t133,go_sem,h2,c99,hb5,e1,g5,gc,gm,g2,bU n1,bU n2,bU n3,bU n4,bU n5,bU n6,bU (Ne.symm n1),bU (Ne.symm n2),bU (Ne.symm n3),bU (Ne.symm n4),bU (Ne.symm n5),bU (Ne.symm n6),aF,f1,f2,hq]
  ·rw[fM (by simpa using dM gc)]; rfl
  ·rw[bU n3,fM (by simpa using dM gm)]
  ·rw[bU (Ne.symm n1),bU (Ne.symm n2),fM (dM g5)]
  ·rw[bU (Ne.symm gn2),bU (Ne.symm gn3),bU (Ne.symm gn1)]
   exact gt ho
  ·refine (hk.mono ?_).trans (((bW.set _ (by simp) _).trans (bW.set _ (by simp) _)).trans (bW.set _ (by simp) _))
   intro j hj; simp[hj]
theorem dQ {I J:List Nat}{S S' S'':aA}(h:bW I S S')(g:bW J S' S'')(hj:∀j∈J,j∈I∨S.length≤j):bW I S S'' :=
 ⟨Nat.le_trans h.len g.len,fun i b hi hb=>g.get i b (fun hJ=>by
  rcases hj i hJ with h1|h1
  ·exact hi h1
  ·have:=dM hb; omega) (h.get i b hi hb)⟩
def cX:Cv→List Int→List Int×List Int×Cv
 | σ,[]=>([],[],σ)
 | σ,v::r=>((gC σ v).1::(cX (gC σ v).2.2 r).1,(gC σ v).2.1++(cX (gC σ v).2.2 r).2.1,(cX (gC σ v).2.2 r).2.2)
theorem aHh (σ:Cv)(v:Int):σ.nx≤(gC σ v).2.2.nx∧(gC σ v).2.2.nx≤σ.nx+1:=by
 unfold gC; split<;>simp[Cv.put]<;>omega
theorem aC6 (σ:Cv)(v:Int):(gC σ v).2.1.length≤1:=by
 unfold gC; split<;>simp
theorem rH:∀(l:List Int) (σ:Cv),σ.nx≤(cX σ l).2.2.nx∧(cX σ l).2.2.nx≤σ.nx+l.length
 | [],σ=>by simp[cX]
 | v::r,σ=>by
  have h1:=aHh σ v
  have h2:=rH r (gC σ v).2.2
  simp only[cX,List.length_cons]
  omega
theorem aOg (t:Tag)(l:List Int)(ic im i2 i5:Nat)(hl:l.length≤1048576)(x0:TV):∀(k i:Nat) (x3 x7:TV) (S:aA) (σ:Cv) (outs own:List Int) (ij io:Nat),i+k=l.length →
  CM S ic im σ→S[i2]? = some (.cells 77 false [.ptr ic 80 0])→Own S i5 io own→At 1 3 (aP outs) ij S→(own≠[]→outs≠[]→io≠ij)→own.length≤i→outs.length≤i→-1≤σ.nx∧σ.nx≤4611686018427387904-k →
  ∃y3 y7 ij' io' S',lp' (lim K) t132L0 [x0,.fn 133 [] [.ptr i2 77 0,.ptr i5 23 0],acc ij (aP outs),x3,.iv (.sl t (TM.one (.int .i64) l)),.iv (.int .i64 l.length),.iv (.int .i64 (i:Int)),x7] S
   = .ret (.exit 0,[x0,.fn 133 [] [.ptr i2 77 0,.ptr i5 23 0],acc ij' (aP (outs++(cX σ (l.drop i)).1)),y3,.iv (.sl t (TM.one (.int .i64) l)),.iv (.int .i64 l.length),.iv (.int .i64 l.length),y7],S') ∧
   CM S' ic im (cX σ (l.drop i)).2.2∧Own S' i5 io' (own++(cX σ (l.drop i)).2.1)∧bW (ic::im::i5::(dF (aP own) io++dF (aP outs) ij)) S S'
 | 0,i,x3,x7,S,σ,outs,own,ij,io,h,hc,h2,ho,hj,hd,b1,b2,b3=>by
  obtain rfl:i=l.length:=by omega
  refine⟨x3,.iv (.bool false),ij,io,S,aH K _ _ t132L0.eq_1 ?_,?_,?_,.refl _ _⟩
  ·rw[List.drop_length,cX,List.append_nil]
   simp (disch:=omega) only[go_sem]
  ·rw[List.drop_length,cX]; exact hc
  ·rw[List.drop_length,cX,List.append_nil]; exact ho
 | k+1,i,x3,x7,S,σ,outs,own,ij,io,h,hc,h2,ho,hj,hd,b1,b2,b3=>by
  have hla:i<l.length:=by omega
  have hix:=gZ (f:=IV.int .i64) (t:=t) (l:=l) (i:=(i:Int)) (by omega)
  rw[Int.toNat_natCast]at hix
  have hdr:=bM hla
  generalize hx:l.getD i default=x at *
  obtain⟨io1,S1,c133,hc1,ho1,hk1,hio⟩:=bB9 hc h2 ho (by omega) (by omega) x
  have hnx:=aHh σ x
  have hob:=aC6 σ x
  generalize hs:gC σ x=s at *
  obtain⟨w,ow,σ1⟩:=s
  simp only at c133 hc1 ho1 hio hnx hob
  have hjn:aP outs≠[]→ij∉ic::im::i5::dF (aP own) io:=by
   intro hne
   have hj':=hj hne
   obtain⟨lm,cm,hm,_⟩:=hc.map
   have n1:=cW hj' hc.at' (by simp)
   have n2:=cW hj' hm (by simp)
   have n3:=cW hj' ho.box (by simp)
   simp only[List.mem_cons,n1,n2,n3,false_or]
   unfold dF
   split
   ·simp
   ·rename_i h0
    simp only[List.mem_singleton]
    exact fun e=>hd (fun e2=>h0 (by rw[e2]; rfl)) (fun e2=>hne (by rw[e2]; rfl)) e.symm
  have hj1:=hj.keep hk1 hjn
  have e1:=yJ (b:=8) (c:=[.int .i64 w]) (t:=.full) hj1 ⟨rfl,rfl⟩ (jD outs) (cM (by rw[eC]; omega))
  have hk2:=kW 1 3 (aP outs) ij S1
  have gt:=pH hj1 [.int .i64 w]
  rw[hU]at e1 gt
  have n0:∀(j:Nat) (b:aY),S1[j]? = some b→(∀n e el,b≠.tok n e el)→j∉dF (aP outs) ij:=by
   intro j b hb hnt hm
   unfold dF at hm
   split at hm
   ·cases hm
   ·rename_i h0
    simp at hm
    subst hm
    exact hnt _ _ _ (by rw[hj1 h0]at hb; exact (Option.some.inj hb).symm)
  obtain⟨lm,cm,hm,hm2⟩:=hc1.map
  have g2:S1[i2]? = some (.cells 77 false [.ptr ic 80 0]):=hk1.get _ _ (by
   obtain⟨lm0,cm0,hm0,_⟩:=hc.map
   have n1:=cW h2 hc.at' (by simp)
   have n2:=cW h2 hm0 (by simp)
   have n3:=cW h2 ho.box (by simp)
   simp only[List.mem_cons,n1,n2,n3,false_or]
   unfold dF
   split
   ·simp
   ·rename_i h0
    simp only[List.mem_singleton]
    exact cW h2 (ho.tok h0) (by simp)) h2
  have hc2:=hc1.keepI hk2 (n0 _ _ hc1.at' (by simp)) (n0 _ _ hm (by simp))
  have g22:=hk2.get _ _ (n0 _ _ g2 (by simp)) g2
  have hio2:own++ow≠[]→outs≠[]→io1≠ij:=by
   intro h1 h3
   obtain⟨h4,h5⟩:=hio h1
   rcases h5 with⟨rfl,h5⟩|h5
   ·exact hd h5 h3
   ·have:=dM (hj (by simpa[eB] using h3)); omega
  have ho2:Own (gS 1 3 (aP outs) ij S1) i5 io1 (own++ow):=by
   refine⟨hk2.get _ _ (n0 _ _ ho1.box (by simp)) ho1.box,ho1.tok.keep hk2 fun hne=>?_⟩
   unfold dF
   split
   ·simp
   ·rename_i h0
    simp only[List.mem_singleton]
    exact hio2 (by simpa[eB] using hne) (by simpa[eB] using h0)
  have hdd:own++ow≠[]→outs++[w]≠[]→io1≠gI (aP outs) ij S1:=by
   intro h1 _
   unfold gI
   split
   ·have:=(hio h1).1; omega
   ·rename_i h0; exact hio2 h1 (by simpa[eB] using h0)
  obtain⟨y3,y7,ij',io',S',ih,r1,r2,r3⟩:=aOg t l ic im i2 i5 hl x0 k (i+1) (.iv (.int .i64 x)) (.iv (.bool true)) _ σ1 (outs++[w]) (own++ow) _ io1 (by omega) hc2 g22 ho2 gt hdd (by simp; omega) (by simp; omega) (by omega)
  rw[show ((i+1:Nat):Int)=(i:Int)+1 by omega]at ih
  refine⟨y3,y7,ij',io',S',aH K _ _ t132L0.eq_1 ?_,?_,?_,?_⟩
  ·rw[hdr,cX,hs]
   simp only[List.append_assoc,List.singleton_append]at ih
   simp (disch:=omega) only[go_sem,hix,c133,e1,aF]
   exact congrArg er ih
  ·rw[hdr,cX,hs]; exact r1
  ·rw[hdr,cX,hs,←List.append_assoc]; exact r2
  ·refine dQ (hk1.mono (J:=ic::im::i5::(dF (aP own) io++dF (aP outs) ij)) (fun j hj=>?_)) ((hk2.mono (J:=ic::im::i5::(dF (aP (own++ow)) io1++dF (aP (outs++[w])) (gI (aP outs) ij S1)++dF (aP outs) ij)) (fun j hj=>by simp[hj])).trans (r3.mono (fun j hj=>?_))) (fun j hj=>?_)
   ·simp only[List.mem_cons,List.mem_append]at hj ⊢
    rcases hj with h|h|h|h<;>simp[h]
   ·simp only[List.mem_cons,List.mem_append]at hj ⊢
    rcases hj with h|h|h|h|h<;>simp[h]
   ·simp only[List.mem_cons,List.mem_append]at hj ⊢
    rcases hj with h|h|h|(h|h)|h
    ·simp[h]
    ·simp[h]
    ·simp[h]
    ·unfold dF at h
     split at h
     ·cases h
     ·rename_i h0
      simp at h
      obtain⟨_,h5⟩:=hio (fun e=>h0 (by rw[e]; rfl))
      rcases h5 with⟨h5,h6⟩|h5
      ·left; right; right; right; left
       unfold dF
       rw[if_neg (fun e=>h6 (by simpa[eB] using e))]
       simp[h,h5]
      ·right; omega
    ·unfold dF at h
     split at h
     ·cases h
     ·simp at h
      subst h
      unfold gI
      split
      ·right; exact hk1.len
      ·rename_i h0
       left; right; right; right; right
       unfold dF; rw[if_neg h0]; simp
    ·simp[h]
theorem bCa (t:Tag)(l:List Int)(ic im i2 i5:Nat)(hl:l.length≤1048576)(S:aA)(σ:Cv)(hc:CM S ic im σ)(h2:S[i2]? = some (.cells 77 false [.ptr ic 80 0]))(h5:S[i5]? = some (.cells 23 false [.iv (.sl .nil [])]))(hx:-1≤σ.nx∧σ.nx≤4611686017427387904) :
  ∃ij io S',(lim K).call 132 [.iv (.sl t (TM.one (.int .i64) l)),.fn 133 [] [.ptr i2 77 0,.ptr i5 23 0]] S=.ret (acc ij (aP (cX σ l).1),S')∧CM S' ic im (cX σ l).2.2∧Own S' i5 io (cX σ l).2.1∧bW [ic,im,i5] S S':=by
 obtain⟨y3,y7,ij,io,S',ih,r1,r2,r3⟩:=aOg t l ic im i2 i5 hl (.iv (.sl t (TM.one (.int .i64) l))) l.length 0 u_ u_ S σ [] [] 0 0 (by omega) hc h2 ⟨by rw[h5]; rfl,At.nil⟩ At.nil (fun h=>absurd rfl h) (by simp) (by simp) (by omega)
 rw[show ((0:Nat):Int)=0 from rfl,List.drop_zero,List.nil_append]at *
 refine⟨ij,io,S',aB K _ (fn:=t132) rfl rfl ?_,r1,r2,r3⟩
 rw[show acc 0 (aP [])=.iv (.sl .nil []) from rfl]at ih
 simp (disch:=omega) only[t132,go_sem]
 rw[ih]
 simp (disch:=omega) only[go_sem]
def loX (v:Int):Ex:=.mk 2 v .nil [] false .nil []
def gQ (v:Int):Ex:=.mk 12 0 .nil [] false .full [loX v]
theorem mO (e:Ex):(aW e).length=5∧(aW e).all iR=true:=⟨aHd e,by rw[aJ]; rfl⟩
theorem oC (l:List Ex):fD 5 (aQ l):=by rw[kI]; exact fD.map mO l
theorem rI (l:List Ex)(e:Ex):aQ l++[aW e]=aQ (l++[e]):=by simp[kI]
theorem kK {l:List Ex}:aQ l=[]↔l=[]:=by simp[kI]
theorem ixT {j:Nat}{l:List Int}{i:Int}(h:0≤i∧i<l.length):indexAddrS 1 (.tsl j (TM.one (.int .i64) l)) i=some (.iv (.cp [.int .i64 (l.getD i.toNat default)])) :=
 gZ (f:=IV.int .i64) (t:=.no) (l:=l) (i:=i) h
theorem bCb {S:aA}{ic im i2:Nat}{σ:Cv}(h:CM S ic im σ)(h2:S[i2]? = some (.cells 77 false [.ptr ic 80 0]))(v:Int) :
  (lim K).call 135 [.iv (.int .i64 v),.ptr i2 77 0] S=.ret (.iv (.agg (aW (gQ ((σ.f v).getD 0)))),S):=by
 obtain⟨l,c,h1,hf⟩:=h.map
 have hat:=h.at'
 have hv:rF l v=(σ.f v).getD 0:=by unfold rF; rw[hf v]
 have c100:=aOe ((σ.f v).getD 0)
 rw[aW,aQ,TM.one]at c100
 refine aB K _ (fn:=t135) rfl rfl ?_
 unfold gQ loX
 simp (disch:=omega) only[t135,go_sem,h2,hat,h1,hv,aC c100,aW,aQ,TM.one,List.map_nil]
theorem aOh (l:List Int)(ic im i2 io:Nat)(hl:l.length≤1048576)(x0:TV):∀(k i:Nat) (x3 x7:TV) (S:aA) (σ:Cv) (outs:List Ex) (ij:Nat),i+k=l.length →
  CM S ic im σ→S[i2]? = some (.cells 77 false [.ptr ic 80 0])→At 5 25 (aQ outs) ij S→outs.length≤i →
  ∃y3 y7 ij' S',lp' (lim K) t134L0 [x0,.fn 135 [] [.ptr i2 77 0],acc ij (aQ outs),x3,.tsl io (TM.one (.int .i64) l),.iv (.int .i64 l.length),.iv (.int .i64 (i:Int)),x7] S
   = .ret (.exit 0,[x0,.fn 135 [] [.ptr i2 77 0],acc ij' (aQ (outs++(l.drop i).map fun v=>gQ ((σ.f v).getD 0))),y3,.tsl io (TM.one (.int .i64) l),.iv (.int .i64 l.length),.iv (.int .i64 l.length),y7],S') ∧
   bW (dF (aQ outs) ij) S S'
 | 0,i,x3,x7,S,σ,outs,ij,h,hc,h2,hj,b1=>by
  obtain rfl:i=l.length:=by omega
  refine⟨x3,.iv (.bool false),ij,S,aH K _ _ t134L0.eq_1 ?_,.refl _ _⟩
  rw[List.drop_length,List.map_nil,List.append_nil]
  simp (disch:=omega) only[go_sem]
 | k+1,i,x3,x7,S,σ,outs,ij,h,hc,h2,hj,b1=>by
  have hla:i<l.length:=by omega
  have hix:=ixT (j:=io) (l:=l) (i:=(i:Int)) (by omega)
  rw[Int.toNat_natCast]at hix
  have hdr:=bM hla
  generalize hx:l.getD i default=x at *
  have c135:=bCb hc h2 x
  generalize hb:gQ ((σ.f x).getD 0)=b at *
  have e1:=yJ (b:=72) (c:=aW b) (t:=.full) hj (mO b) (oC outs) (cM (by rw[aD]; omega))
  have hk2:=kW 5 25 (aQ outs) ij S
  have gt:=pH hj (aW b)
  rw[rI]at e1 gt
  have n0:∀(j:Nat) (bl:aY),S[j]? = some bl→(∀n e el,bl≠.tok n e el)→j∉dF (aQ outs) ij:=by
   intro j b hb hnt hm
   unfold dF at hm
   split at hm
   ·cases hm
   ·rename_i h0
    simp at hm
    subst hm
    exact hnt _ _ _ (by rw[hj h0]at hb; exact (Option.some.inj hb).symm)
  obtain⟨lm,cm,hm,hm2⟩:=hc.map
  have hc2:=hc.keepI hk2 (n0 _ _ hc.at' (by simp)) (n0 _ _ hm (by simp))
  have g22:=hk2.get _ _ (n0 _ _ h2 (by simp)) h2
  obtain⟨y3,y7,ij',S',ih,r3⟩:=aOh l ic im i2 io hl x0 k (i+1) (.iv (.int .i64 x)) (.iv (.bool true)) _ σ (outs++[b]) _ (by omega) hc2 g22 gt (by simp; omega)
  rw[show ((i+1:Nat):Int)=(i:Int)+1 by omega]at ih
  refine⟨y3,y7,ij',S',aH K _ _ t134L0.eq_1 ?_,?_⟩
  ·rw[hdr,List.map_cons,hb]
   simp only[List.append_assoc,List.singleton_append]at ih
   rw[aJ]at c135 e1
   simp (disch:=omega) only[go_sem,hix,c135,e1,aF]
   exact congrArg er ih
  ·refine dQ hk2 r3 fun j hj=>?_
   unfold dF at hj
   split at hj
   ·cases hj
   ·simp at hj
    subst hj
    unfold gI
    split
    ·right; exact Nat.le_refl _
    ·rename_i h0
     left; unfold dF; rw[if_neg h0]; simp
theorem bCc (l:List Int)(hne:l≠[])(ic im i2 io:Nat)(hl:l.length≤1048576)(S:aA)(σ:Cv)(hc:CM S ic im σ)(h2:S[i2]? = some (.cells 77 false [.ptr ic 80 0])) :
  ∃ij S',(lim K).call 134 [.tsl io (TM.one (.int .i64) l),.fn 135 [] [.ptr i2 77 0]] S=.ret (.tsl ij (aQ (l.map fun v=>gQ ((σ.f v).getD 0))),S')∧bW [] S S':=by
 obtain⟨y3,y7,ij,S',ih,r3⟩:=aOh l ic im i2 io hl (.tsl io (TM.one (.int .i64) l)) l.length 0 u_ u_ S σ [] 0 (by omega) hc h2 At.nil (by simp)
 rw[show ((0:Nat):Int)=0 from rfl,List.drop_zero,List.nil_append,show acc 0 (aQ [])=.iv (.sl .nil []) from rfl,gN ij (by simp[kK,hne])]at ih
 refine⟨ij,S',aB K _ (fn:=t134) rfl rfl ?_,r3⟩
 simp (disch:=omega) only[t134,go_sem]
 rw[ih]
 simp (disch:=omega) only[go_sem]
theorem aOi (t:Tag)(l:List Int)(n:Int)(hl:l.length≤1000000000)(S:aA):∀(k i:Nat) (x4 x5:TV),i+k=l.length →
  ∃j b y3 y4 y5,(j=.ret∧b=true∧n∈l.drop i∨j=.exit 0∧b=false∧n∉l.drop i) ∧
   lp' (lim K) t104L0 [.iv (.sl t (TM.one (.int .i64) l)),.iv (.int .i64 n),.iv (.bool false),.iv (.int .i64 (i:Int)),x4,x5] S=.ret (j,[.iv (.sl t (TM.one (.int .i64) l)),.iv (.int .i64 n),.iv (.bool b),y3,y4,y5],S)
 | 0,i,x4,x5,h=>by
  refine⟨.exit 0,false,?_,?_,?_,.inr ⟨rfl,rfl,by rw[List.drop_eq_nil_of_le (by omega)]; simp⟩,aH K _ _ t104L0.eq_1 ?_⟩
  rotate_left 3
  ·simp (disch:=omega) only[go_sem]
   rfl
 | k+1,i,x4,x5,h=>by
  have hla:i<l.length:=by omega
  have hix:=gZ (f:=IV.int .i64) (t:=t) (l:=l) (i:=(i:Int)) (by omega)
  rw[Int.toNat_natCast]at hix
  have hdr:=bM hla
  by_cases hn:l.getD i default=n
  ·refine⟨.ret,true,?_,?_,?_,.inl ⟨rfl,rfl,by rw[hdr,hn]; simp⟩,aH K _ _ t104L0.eq_1 ?_⟩
   rotate_left 3
   ·simp (disch:=omega) only[go_sem,hix,hn]
    rfl
  ·obtain⟨j,b,y3,y4,y5,hj,ih⟩:=aOi t l n hl S k (i+1) (.iv (.bool true)) (.iv (.bool false)) (by omega)
   rw[show ((i+1:Nat):Int)=(i:Int)+1 by omega]at ih
   refine⟨j,b,y3,y4,y5,?_,aH K _ _ t104L0.eq_1 ?_⟩
   ·rw[hdr]
    simp only[List.mem_cons,Ne.symm hn,false_or]
    exact hj
   ·simp (disch:=omega) only[go_sem,hix,hn,aF]
    exact congrArg er ih
theorem tV (t:Tag)(l:List Int)(n:Int)(hl:l.length≤1000000000)(S:aA):(lim K).call 104 [.iv (.sl t (TM.one (.int .i64) l)),.iv (.int .i64 n)] S=.ret (.iv (.bool (decide (n∈l))),S):=by
 obtain⟨j,b,y3,y4,y5,hj,ih⟩:=aOi t l n hl S l.length 0 u_ u_ (by omega)
 rw[show ((0:Nat):Int)=0 from rfl,List.drop_zero]at *
 refine aB K _ (fn:=t104) rfl rfl ?_
 simp (disch:=omega) only[t104,go_sem]
 rw[ih]
 rcases hj with⟨rfl,rfl,hm⟩|⟨rfl,rfl,hm⟩
 ·simp (disch:=omega) only[go_sem,hm]
 ·simp (disch:=omega) only[go_sem,hm]
def poF:List Int→Int→Int→Int
 | [],_,_=>-1
 | a::r,n,s=>if a=n then s else poF r n (s+1)
theorem aOj (t:Tag)(l:List Int)(n:Int)(hl:l.length≤1000000000)(S:aA):∀(k i:Nat) (x4 x5:TV),i+k=l.length →
  ∃j m y3 y4 y5,(j=.ret∧m=poF (l.drop i) n i∨j=.exit 0∧poF (l.drop i) n i = -1) ∧
   lp' (lim K) t106L0 [.iv (.sl t (TM.one (.int .i64) l)),.iv (.int .i64 n),.iv (.int .i64 0),.iv (.int .i64 (i:Int)),x4,x5] S=.ret (j,[.iv (.sl t (TM.one (.int .i64) l)),.iv (.int .i64 n),.iv (.int .i64 m),y3,y4,y5],S)
 | 0,i,x4,x5,h=>by
  refine⟨.exit 0,0,?_,?_,?_,.inr ⟨rfl,by rw[List.drop_eq_nil_of_le (by omega)]; rfl⟩,aH K _ _ t106L0.eq_1 ?_⟩
  rotate_left 3
  ·simp (disch:=omega) only[go_sem]
   rfl
 | k+1,i,x4,x5,h=>by
  have hla:i<l.length:=by omega
  have hix:=gZ (f:=IV.int .i64) (t:=t) (l:=l) (i:=(i:Int)) (by omega)
  rw[Int.toNat_natCast]at hix
  have hdr:=bM hla
  by_cases hn:l.getD i default=n
  ·refine⟨.ret,i,?_,?_,?_,.inl ⟨rfl,by rw[hdr,poF,if_pos hn]⟩,aH K _ _ t106L0.eq_1 ?_⟩
   rotate_left 3
   ·simp (disch:=omega) only[go_sem,hix,hn]
    rfl
  ·obtain⟨j,m,y3,y4,y5,hj,ih⟩:=aOj t l n hl S k (i+1) (.iv (.bool true)) (.iv (.bool false)) (by omega)
   rw[show ((i+1:Nat):Int)=(i:Int)+1 by omega]at ih hj
   refine⟨j,m,y3,y4,y5,?_,aH K _ _ t106L0.eq_1 ?_⟩
   ·rw[hdr,poF,if_neg hn]; exact hj
   ·simp (disch:=omega) only[go_sem,hix,hn,aF]
    exact congrArg er ih
theorem aOk (t:Tag)(l:List Int)(n:Int)(hl:l.length≤1000000000)(S:aA):(lim K).call 106 [.iv (.sl t (TM.one (.int .i64) l)),.iv (.int .i64 n)] S=.ret (.iv (.int .i64 (poF l n 0)),S):=by
 obtain⟨j,m,y3,y4,y5,hj,ih⟩:=aOj t l n hl S l.length 0 u_ u_ (by omega)
 rw[show ((0:Nat):Int)=0 from rfl,List.drop_zero]at *
 refine aB K _ (fn:=t106) rfl rfl ?_
 simp (disch:=omega) only[t106,go_sem]
 rw[ih]
 rcases hj with⟨rfl,hm⟩|⟨rfl,hm⟩
 ·simp (disch:=omega) only[go_sem,hm]
 ·simp (disch:=omega) only[go_sem,hm]
theorem aOl (v:Int)(S:aA):(lim K).call 107 [.iv (.int .i64 v)] S=.ret (.iv (.agg [.int .i64 2,.int .i64 v,.sl .nil [],.bool false,.sl .nil []]),S):=by
 refine aB K _ (fn:=t107) rfl rfl ?_
 simp (disch:=omega) only[t107,go_sem]
theorem aVs {N:Nat}(ih:∀(e:Ex),e.w≤N→TM.Pure K 69 [.iv (.agg (aW e))] (.iv (.bool (bxF e))))(e:Ex)(hw:e.w≤N+1)(hN:N+1≤1048576)(x0 x4:TV)(S:aA):∀(k i:Nat) (x5 x6:TV),i+k=e.ks.length →
  ∃j b y3 y5 y6,(j=.ret∧b=true∧vS (e.ks.drop i)=true∨j=.exit 0∧b=false∧vS (e.ks.drop i)=false) ∧
   lp' (lim K) t69L0 [x0,lbE e,.iv (.bool false),.iv (.int .i64 (i:Int)),x4,x5,x6] S=.ret (j,[x0,lbE e,.iv (.bool b),y3,x4,y5,y6],S)
 | 0,i,x5,x6,h=>by
  obtain rfl:i=e.ks.length:=by omega
  refine⟨.exit 0,false,?_,?_,?_,.inr ⟨rfl,rfl,by rw[List.drop_length,vS]⟩,aH K _ _ t69L0.eq_1 ?_⟩
  rotate_left 3
  ·simp (disch:=omega) only[go_sem,aD]
   rfl
 | k+1,i,x5,x6,h=>by
  have hla:i<e.ks.length:=by omega
  have hwe:=Ex.w_eq e
  have hwl:=Ex.ws_len e.ks
  have hix:=ixE (g:=e.g) (ks:=e.ks) (i:=(i:Int)) (by omega)
  rw[Int.toNat_natCast]at hix
  have hdr:=bM hla
  have hkw:=Ex.kid_lt (d:=e) (bP hla)
  generalize hx:e.ks.getD i default=x at *
  have hc:=ih x (by omega)
  rw[aJ]at hc
  rw[hdr,vS]
  cases hb:bxF x with
  | true =>
   rw[hb]at hc
   refine⟨.ret,true,?_,?_,?_,.inl ⟨rfl,rfl,rfl⟩,aH K _ _ t69L0.eq_1 ?_⟩
   rotate_left 3
   ·simp (disch:=omega) only[go_sem,aD,hix,fG,aC hc]
    rfl
  | false =>
   rw[hb]at hc
   obtain⟨j,b,y3,y5,y6,hj,ih2⟩:=aVs ih e hw hN x0 x4 S k (i+1) (.iv (.bool true)) (.iv (.bool false)) (by omega)
   rw[show ((i+1:Nat):Int)=(i:Int)+1 by omega]at ih2
   refine⟨j,b,y3,y5,y6,by simpa using hj,aH K _ _ t69L0.eq_1 ?_⟩
   simp (disch:=omega) only[go_sem,aD,hix,fG,aC hc,aF]
   exact congrArg er ih2
theorem aVt:∀N,N≤1048576→∀e:Ex,e.w≤N→TM.Pure K 69 [.iv (.agg (aW e))] (.iv (.bool (bxF e)))
 | 0,hN,e,hw=>by have:=Ex.w_eq e; omega
 | N+1,hN,e,hw=>by
  have hwe:=Ex.w_eq e
  have hwl:=Ex.ws_len e.ks
  refine TM.aR (S:=[]) (r:=.iv (.bool (bxF e))) (aB K _ (fn:=t69) rfl rfl ?_) (by rw[aN])
  rw[aVp]
  by_cases h12:e.k=12
  ·rw[aJ]
   simp (disch:=omega) only[t69,go_sem,h12]
  by_cases h13:e.k=13
  ·rw[aJ]
   simp (disch:=omega) only[t69,go_sem,h13]
  by_cases h14:e.k=14
  ·rw[aJ]
   simp (disch:=omega) only[t69,go_sem,h14]
  have hkk:(decide (12≤e.k)&&decide (e.k≤14))=false:=by
   rcases Classical.em (12≤e.k) with h|h
   ·have:¬e.k≤14:=by omega
    simp[this]
   ·simp[h]
  rw[hkk,Bool.false_or]
  obtain⟨j,b,y3,y5,y6,hj,ih2⟩:=aVs (aVt N (by omega)) e hw hN (.iv (.agg (aW e))) (.iv (.bool false)) [] e.ks.length 0 u_ u_ (by omega)
  rw[show ((0:Nat):Int)=0 from rfl]at ih2
  rw[List.drop_zero]at hj
  rw[aJ]at ih2 ⊢
  simp (disch:=omega) only[t69,go_sem,h12,h13,h14]
  rw[ih2]
  rcases hj with⟨rfl,rfl,hb⟩|⟨rfl,rfl,hb⟩
  ·rw[hb]
   simp (disch:=omega) only[go_sem]
  ·rw[hb]
   simp (disch:=omega) only[go_sem]
def pO (σ:Cv)(own:List Int)(b:Ex):Ex:=if own=[] then b else .mk 8 0 .nil [] false .no (.mk 7 0 .no own false .full [b]::own.map fun v=>gQ ((σ.f v).getD 0))
mutual
def cvE (σ:Cv):Ex→Ex×Cv
 | .mk k n gv vs r g ks =>
  if k=7 then
   (.mk 7 0 (eP (cX σ vs).1) (cX σ vs).1 r .full [pO (fA (cX σ vs).2.2 ks).2 (cX σ vs).2.1 ((fA (cX σ vs).2.2 ks).1.headD default)],(fA (cX σ vs).2.2 ks).2)
  else if k=2∧(σ.f n).isSome=true then (.mk 13 0 .nil [] false .full [.mk k n gv vs r g ks],σ)
  else if k=4 then (.mk 14 0 .nil [] false .full [loX n,(fA σ ks).1.headD default],(fA σ ks).2)
  else (.mk k n gv vs r (eP (fA σ ks).1) (fA σ ks).1,(fA σ ks).2)
def fA (σ:Cv):List Ex→List Ex×Cv
 | []=>([],σ)
 | e::es=>((cvE σ e).1::(fA (cvE σ e).2 es).1,(fA (cvE σ e).2 es).2)
end
theorem mU (σ:Cv)(e:Ex):cvE σ e=if e.k=7 then
      (.mk 7 0 (eP (cX σ e.vs).1) (cX σ e.vs).1 e.r .full [pO (fA (cX σ e.vs).2.2 e.ks).2 (cX σ e.vs).2.1 ((fA (cX σ e.vs).2.2 e.ks).1.headD default)],(fA (cX σ e.vs).2.2 e.ks).2)
    else if e.k=2∧(σ.f e.n).isSome=true then (.mk 13 0 .nil [] false .full [e],σ)
    else if e.k=4 then (.mk 14 0 .nil [] false .full [loX e.n,(fA σ e.ks).1.headD default],(fA σ e.ks).2)
    else (.mk e.k e.n e.gv e.vs e.r (eP (fA σ e.ks).1) (fA σ e.ks).1,(fA σ e.ks).2):=by
  cases e; rw[cvE]; rfl
theorem dS (σ:Cv):fA σ []=([],σ):=by rw[fA]
theorem dO (σ:Cv)(e:Ex)(es:List Ex):fA σ (e::es)=((cvE σ e).1::(fA (cvE σ e).2 es).1,(fA (cvE σ e).2 es).2):=by rw[fA]
theorem vT:∀(N:Nat) (e:Ex) (σ:Cv),e.w≤N→σ.nx≤(cvE σ e).2.nx∧(cvE σ e).2.nx≤σ.nx+e.w
 | 0,e,σ,h=>by have:=Ex.w_eq e; omega
 | N+1,e,σ,h=>by
  have hwe:=Ex.w_eq e
  have key:∀(l:List Ex) (σ:Cv),(∀x∈l,x.w≤N)→σ.nx≤(fA σ l).2.nx∧(fA σ l).2.nx≤σ.nx+Ex.ws l:=by
   intro l
   induction l with
   | nil=>intro σ _; rw[dS,Ex.ws]; simp
   | cons a r ih =>
    intro σ hl
    have h1:=vT N a σ (hl a (by simp))
    have h2:=ih (cvE σ a).2 (fun x hx=>hl x (by simp[hx]))
    rw[dO,Ex.ws]
    simp only
    omega
  have hv:=rH e.vs σ
  have hk:=fun σ=>key e.ks σ (fun x hx=>by have:=Ex.kid_lt hx; omega)
  have h1:=hk σ
  have h2:=hk (cX σ e.vs).2.2
  rw[mU]
  split
  ·simp only; omega
  ·split
   ·simp only; omega
   ·split<;>(simp only; omega)
mutual
def Fm:Ex→Prop
 | .mk k n gv vs r g ks=>(k=7∨k=4→ks.length=1)∧Fms ks
def Fms:List Ex→Prop
 | []=>True
 | e::es=>Fm e∧Fms es
end
theorem aOm:∀ {l:List Ex},Fms l↔∀x∈l,Fm x
 | []=>by simp[Fms]
 | a::r=>by rw[Fms,aOm]; simp
theorem tW (e:Ex):Fm e↔(e.k=7∨e.k=4→e.ks.length=1)∧∀x∈e.ks,Fm x:=by
 cases e; rw[Fm,aOm]; rfl
def XV (r:TV)(e:Ex):Prop:=r=.iv (.agg (aW e)) ∨
 ∃i,e.g=.no∧r=.agg [.iv (.int .i64 e.k),.iv (.int .i64 e.n),.iv (.sl e.gv (TM.one (.int .i64) e.vs)),.iv (.bool e.r),.tsl i (aQ e.ks)]
def bCd (N:Nat):Prop:=∀(e:Ex) (S:aA) (ic im:Nat) (σ:Cv),e.w≤N→Fm e→CM S ic im σ→-1≤σ.nx∧σ.nx≤4611686017427387904-e.w →
 ∃r S',(lim K).call 66 [.ptr ic 80 0,.iv (.agg (aW e))] S=.ret (r,S')∧XV r (cvE σ e).1∧CM S' ic im (cvE σ e).2∧bW [ic,im] S S'
theorem bGk {S:aA}{w el:Nat}{l:List (List IV)}{i j:Nat}{b:aY}(h:At w el l i S)(hb:S[j]? = some b)(hnt:∀n e el,b≠.tok n e el):j∉dF l i:=by
 intro hm
 unfold dF at hm
 split at hm
 ·cases hm
 ·rename_i h0
  simp at hm
  subst hm
  exact hnt _ _ _ (by rw[h h0]at hb; exact (Option.some.inj hb).symm)
theorem aOn {N:Nat}(ihN:bCd N)(e:Ex)(hf:Fm e)(hw:e.w≤N+1)(hN:N+1≤1048576)(ic im:Nat)(x0:TV):∀(k i:Nat) (x3 x7:TV) (S:aA) (σ:Cv) (outs:List Ex) (ij:Nat),i+k=e.ks.length →
  CM S ic im σ→At 5 25 (aQ outs) ij S→outs.length≤i→-1≤σ.nx∧σ.nx≤4611686017427387904-Ex.ws (e.ks.drop i) →
  ∃y3 y7 ij' S',lp' (lim K) t101L0 [x0,.fn 66 [.ptr ic 80 0] [],acc ij (aQ outs),x3,.iv (.sl e.g (aQ e.ks)),.iv (.int .i64 e.ks.length),.iv (.int .i64 (i:Int)),x7] S
   = .ret (.exit 0,[x0,.fn 66 [.ptr ic 80 0] [],acc ij' (aQ (outs++(fA σ (e.ks.drop i)).1)),y3,.iv (.sl e.g (aQ e.ks)),.iv (.int .i64 e.ks.length),.iv (.int .i64 e.ks.length),y7],S') ∧
   CM S' ic im (fA σ (e.ks.drop i)).2∧bW (ic::im::dF (aQ outs) ij) S S'
 | 0,i,x3,x7,S,σ,outs,ij,h,hc,hj,b1,hx=>by
  obtain rfl:i=e.ks.length:=by omega
  refine⟨x3,.iv (.bool false),ij,S,aH K _ _ t101L0.eq_1 ?_,?_,.refl _ _⟩
  ·rw[List.drop_length,dS,List.append_nil]
   simp (disch:=omega) only[go_sem]
  ·rw[List.drop_length,dS]; exact hc
 | k+1,i,x3,x7,S,σ,outs,ij,h,hc,hj,b1,hx=>by
  have hla:i<e.ks.length:=by omega
  have hwe:=Ex.w_eq e
  have hwl:=Ex.ws_len e.ks
  have hix:=ixE (g:=e.g) (ks:=e.ks) (i:=(i:Int)) (by omega)
  rw[Int.toNat_natCast]at hix
  have hdr:=bM hla
  have hkw:=Ex.kid_lt (d:=e) (bP hla)
  have hkf:Fm (e.ks.getD i default):=((tW e).1 hf).2 _ (bP hla)
  rw[hdr,Ex.ws]at hx
  generalize hxx:e.ks.getD i default=x at *
  obtain⟨r,S1,c66,hxv,hc1,hk1⟩:=ihN x S ic im σ (by omega) hkf hc (by omega)
  have hnx:=vT _ x σ (Nat.le_refl _)
  generalize hb:cvE σ x=b at *
  obtain⟨b,σ1⟩:=b
  simp only at hxv hc1 hnx
  have hjn:aQ outs≠[]→ij∉[ic,im]:=by
   intro hne
   obtain⟨lm,cm,hm,_⟩:=hc.map
   simp[cW (hj hne) hc.at' (by simp),cW (hj hne) hm (by simp)]
  have hj1:=hj.keep hk1 hjn
  have e1:=yJ (b:=72) (c:=aW b) (t:=.full) hj1 (mO b) (oC outs) (cM (by rw[aD]; omega))
  have hk2:=kW 5 25 (aQ outs) ij S1
  have gt:=pH hj1 (aW b)
  rw[rI]at e1 gt
  obtain⟨lm,cm,hm,hm2⟩:=hc1.map
  have hc2:=hc1.keepI hk2 (bGk hj1 hc1.at' (by simp)) (bGk hj1 hm (by simp))
  obtain⟨y3,y7,ij',S',ih,r1,r3⟩:=aOn ihN e hf hw hN ic im x0 k (i+1) (lbE x) (.iv (.bool true)) _ σ1 (outs++[b]) _ (by omega) hc2 gt (by simp; omega) (by omega)
  rw[show ((i+1:Nat):Int)=(i:Int)+1 by omega]at ih
  refine⟨y3,y7,ij',S',aH K _ _ t101L0.eq_1 ?_,?_,?_⟩
  ·rw[hdr,dO,hb]
   simp only[List.append_assoc,List.singleton_append]at ih
   rw[aJ b]at e1
   rw[aJ x]at c66
   rcases hxv with rfl|⟨i1,hg,rfl⟩
   ·rw[aJ b]at c66
    simp (disch:=omega) only[go_sem,hix,fG,c66,e1,aF]
    exact congrArg er ih
   ·rw[hg]at e1
    simp (disch:=omega) only[go_sem,hix,fG,c66,e1,aF]
    exact congrArg er ih
  ·rw[hdr,dO,hb]; exact r1
  ·refine dQ (hk1.mono (J:=ic::im::dF (aQ outs) ij) (fun j hj=>by simp at hj ⊢; rcases hj with h|h<;>simp[h])) ((hk2.mono (J:=ic::im::(dF (aQ (outs++[b])) (gI (aQ outs) ij S1)++dF (aQ outs) ij)) (fun j hj=>by simp[hj])).trans (r3.mono (fun j hj=>?_))) (fun j hj=>?_)
   ·simp only[List.mem_cons,List.mem_append]at hj ⊢
    rcases hj with h|h|h<;>simp[h]
   ·simp only[List.mem_cons,List.mem_append]at hj ⊢
    rcases hj with h|h|h|h
    ·simp[h]
    ·simp[h]
    ·unfold dF at h
     split at h
     ·cases h
     ·simp at h
      subst h
      unfold gI
      split
      ·right; exact hk1.len
      ·rename_i h0
       left; right; right
       unfold dF; rw[if_neg h0]; simp
    ·simp[h]
theorem bCe {N:Nat}(ihN:bCd N)(e:Ex)(hf:Fm e)(hw:e.w≤N+1)(hN:N+1≤1048576)(ic im:Nat)(S:aA)(σ:Cv)(hc:CM S ic im σ)(hx:-1≤σ.nx∧σ.nx≤4611686017427387904-Ex.ws e.ks) :
  ∃ij S',(lim K).call 101 [.iv (.sl e.g (aQ e.ks)),.fn 66 [.ptr ic 80 0] []] S=.ret (acc ij (aQ (fA σ e.ks).1),S')∧CM S' ic im (fA σ e.ks).2∧bW [ic,im] S S':=by
 obtain⟨y3,y7,ij,S',ih,r1,r3⟩:=aOn ihN e hf hw hN ic im (.iv (.sl e.g (aQ e.ks))) e.ks.length 0 u_ u_ S σ [] 0 (by omega) hc At.nil (by simp) (by rw[List.drop_zero]; exact hx)
 rw[show ((0:Nat):Int)=0 from rfl,List.drop_zero,List.nil_append,show acc 0 (aQ [])=.iv (.sl .nil []) from rfl]at ih
 rw[List.drop_zero]at r1
 refine⟨ij,S',aB K _ (fn:=t101) rfl rfl ?_,r1,r3⟩
 simp (disch:=omega) only[t101,go_sem,aD]
 rw[ih]
 simp (disch:=omega) only[go_sem]
def isC (c:Int):Bool:=decide (0≤c)&&decide (c≤1114111)&&(decide (c<55296)||decide (57343<c))
theorem mF (c:Int):isC c=true↔0≤c∧c≤1114111∧(c<55296∨57343<c):=by
 simp[isC]; omega
theorem zO (c:Int):(lim K).call 53 [.iv (.int .i64 c)] []=.ret (.iv (.bool (isC c)),[]):=by
 refine aB K [] (fn:=t53) rfl rfl ?_
 simp only[t53,go_sem]
 repeat' (first|(first|refine cN (fun h=>?_) (fun h=>?_)|refine cO (fun h=>?_) (fun h=>?_)|refine cP (fun h=>?_) (fun h=>?_)|refine dR (fun h=>?_) (fun h=>?_))|simp (disch:=omega) only[go_sem])
 all_goals (congr 4; simp[isC, *])
theorem bCf (c:Int):(lim K).call 151 [.iv (.int .i32 c)] []=.ret (.iv (.bool (isC c)),[]):=by
 refine aB K [] (fn:=t151) rfl rfl ?_
 simp only[t151,go_sem]
 repeat' (first|(first|refine cN (fun h=>?_) (fun h=>?_)|refine cO (fun h=>?_) (fun h=>?_)|refine cP (fun h=>?_) (fun h=>?_)|refine dR (fun h=>?_) (fun h=>?_))|simp (disch:=omega) only[go_sem])
 all_goals (congr 4; simp[isC, *]; try omega)
theorem bCg (c:Int):(lim K).call 117 [.iv (.int .i64 c)] []=.ret (.iv (.bool (isC c)),[]):=by
 refine aB K [] (fn:=t117) rfl rfl ?_
 simp only[t117,go_sem]
 repeat' (first|(first|refine cN (fun h=>?_) (fun h=>?_)|refine cO (fun h=>?_) (fun h=>?_)|refine cP (fun h=>?_) (fun h=>?_)|refine dR (fun h=>?_) (fun h=>?_))|simp (disch:=omega) only[go_sem,bCf,aZ])
 all_goals (congr 4; simp[isC, *])
 all_goals (try omega)
def bytes (c:Int):List UInt8:=(Utf8.encode c).data.toList
def eJ (c:Int):List UInt8 :=
 if c<128 then [UInt8.ofNat c.toNat]
 else if c<2048 then [UInt8.ofNat (192+c.toNat / 64),UInt8.ofNat (128+c.toNat % 64)]
 else if c<65536 then [UInt8.ofNat (224+c.toNat / 4096),UInt8.ofNat (128+c.toNat / 64 % 64),UInt8.ofNat (128+c.toNat % 64)]
 else [UInt8.ofNat (240+c.toNat / 262144),UInt8.ofNat (128+c.toNat / 4096 % 64),UInt8.ofNat (128+c.toNat / 64 % 64),UInt8.ofNat (128+c.toNat % 64)]
theorem aRb (n:Nat)(h:n<256):(((UInt8.ofNat n).toNat:Nat):Int)=(n:Int):=by
 simp[UInt8.toNat_ofNat]; omega
theorem sE {m:Int}{n:Nat}(h:m=n)(hn:n<256):IntKind.u8.wrap m=(((UInt8.ofNat n).toNat:Nat):Int):=by
 subst h
 rw[rX (by omega),aRb n hn]
set_option maxHeartbeats 4000000 in
theorem aEq (c:Int)(h:isC c=true):(lim K).call 158 [.iv (.int .i64 c)] []=.ret (.iv (.sl .full (bF (eJ c))),[]):=by
 have hc:=(mF c).1 h
 refine aB K [] (fn:=t158) rfl rfl ?_
 simp only[t158,go_sem]
 repeat' (first|(first|refine cN (fun h=>?_) (fun h=>?_)|refine cO (fun h=>?_) (fun h=>?_)|refine cP (fun h=>?_) (fun h=>?_)|refine dR (fun h=>?_) (fun h=>?_))|simp (disch:=omega) only[go_sem,aF,Int.tdiv_eq_ediv_of_nonneg,Int.tmod_eq_emod_of_nonneg])
 ·rw[sE (n:=c.toNat) (by omega) (by omega)]
  simp only[eJ, *,↓reduceIte]; rfl
 ·rw[sE (n:=192+c.toNat / 64) (by omega) (by omega),sE (n:=128+c.toNat % 64) (by omega) (by omega)]
  simp only[eJ, *,↓reduceIte]; rfl
 ·rw[sE (n:=224+c.toNat / 4096) (by omega) (by omega),sE (n:=128+c.toNat / 64 % 64) (by omega) (by omega),sE (n:=128+c.toNat % 64) (by omega) (by omega)]
  simp only[eJ, *,↓reduceIte]; rfl
 ·rw[sE (n:=240+c.toNat / 262144) (by omega) (by omega),sE (n:=128+c.toNat / 4096 % 64) (by omega) (by omega),sE (n:=128+c.toNat / 64 % 64) (by omega) (by omega),sE (n:=128+c.toNat % 64) (by omega) (by omega)]
  simp only[eJ, *,↓reduceIte]; rfl
def tab (n:Nat):Nat :=
 if n<128 then 240 else if n<194 then 241 else if n<224 then 2 else if n=224 then 19 else if n<237 then 3 else if n=237 then 35 else if n<240 then 3 else if n=240 then 52 else if n<244 then 4 else if n=244 then 68 else 241
theorem bCh:(List.range 256).all (fun n=>match g2[n]? with|some (.int .u8 m)=>m==(tab n:Int)|_=>false)=true:=by kernel_rfl
theorem bCi {n:Nat}(h:n<256):g2[n]? = some (.int .u8 (tab n)):=by
 have:=List.all_eq_true.1 bCh n (List.mem_range.2 h)
 split at this
 ·rename_i m e; rw[e]; simp at this; rw[this]
 ·cases this
theorem hK0:K.glob 2=some g2:=rfl
theorem hK1:K.glob 3=some g3:=rfl
theorem bG6:g2.length=256:=by kernel_rfl
def fol (b:UInt8):Bool:=decide (128≤b.toNat)&&decide (b.toNat≤191)
def D:List UInt8→Nat×Nat
 | []=>(65533,0)
 | a::r =>
  if a.toNat<128 then (a.toNat,1)
  else if a.toNat<194 then (65533,1)
  else if a.toNat<224 then match r with
   | b::_=>if fol b then (a.toNat % 32*64+b.toNat % 64,2) else (65533,1)
   | _=>(65533,1)
  else if a.toNat<240 then match r with
   | b::c::_=>if (decide ((if a.toNat=224 then 160 else 128)≤b.toNat)&&decide (b.toNat≤(if a.toNat=237 then 159 else 191)))&&fol c then (a.toNat % 16*4096+b.toNat % 64*64+c.toNat % 64,3) else (65533,1)
   | _=>(65533,1)
  else if a.toNat<245 then match r with
   | b::c::d::_=>if (decide ((if a.toNat=240 then 144 else 128)≤b.toNat)&&decide (b.toNat≤(if a.toNat=244 then 143 else 191)))&&fol c&&fol d then (a.toNat % 8*262144+b.toNat % 64*4096+c.toNat % 64*64+d.toNat % 64,4) else (65533,1)
   | _=>(65533,1)
  else (65533,1)
theorem bl (b:UInt8):b.toNat<256:=b.toNat_lt
theorem aM (a:UInt8)(r:List UInt8):bF (a::r)=[.int .u8 a.toNat]::bF r:=rfl
theorem aHi (t:Tag):(lim K).call 192 [.iv (.sl t (bF []))] []=.ret (.tup [.iv (.int .i32 65533),.iv (.int .i64 0)],[]):=by
 refine aB K [] (fn:=t192) rfl rfl ?_
 simp (disch:=omega) only[t192,go_sem]
theorem eV {a:UInt8}:ixA 256 1 (.iv (.cp g2)) (.iv (.int .u8 a.toNat))=some (.iv (.cp (g2.drop a.toNat))):=by
 have:=bl a
 rw[aQy]
 have h:(0:Int)≤(a.toNat:Int)∧(a.toNat:Int)<((256:Nat):Int):=by omega
 simp only[h,and_self,↓reduceIte,Int.toNat_natCast,Nat.mul_one]
 exact aEm (by rw[bG6]; omega)
theorem ld0 {a:UInt8}(env:Env)(S:aA):bR env S (.iv (.cp (g2.drop a.toNat))) 1=some [.iv (.int .u8 (tab a.toNat))]:=bBf (bCi (bl a))
theorem w2:IntKind.u8.wrap (pR 8 2 7)=2:=by decide
theorem w240:IntKind.i32.wrap 515396075520=0:=by decide
theorem bJ2:IntKind.i32.wrap 240=240:=by decide
theorem w241:IntKind.i32.wrap 517543559168 = -2147483648:=by decide
theorem bJ3:IntKind.i32.wrap 241=241:=by decide
theorem m0:IntKind.i32.wrap (pR 32 65533 0)=0:=by decide
theorem bCj {a:Int}(h:0≤a∧a≤2147483647):IntKind.i32.wrap (bOr 32 a 0)=a:=by
 have e:BitVec.ofInt 32 a ||| BitVec.ofInt 32 0=BitVec.ofInt 32 a:=by simp
 unfold bOr
 rw[e,jM ⟨h.1,by omega⟩,aZ (by omega)]
 omega
theorem m1:IntKind.i32.wrap (pR 32 65533 (-1))=65533:=by decide
theorem o1:IntKind.i32.wrap (bOr 32 0 65533)=65533:=by decide
set_option maxHeartbeats 4000000 in
theorem aRc (t:Tag)(a:UInt8)(r:List UInt8)(h1:a.toNat<128):(lim K).call 192 [.iv (.sl t (bF (a::r)))] []=.ret (.tup [.iv (.int .i32 a.toNat),.iv (.int .i64 1)],[]):=by
 have ha:=bl a
 refine aB K [] (fn:=t192) rfl rfl ?_
 have ht:tab a.toNat=240:=by simp[tab]; omega
 simp (disch:=omega) only[t192,go_sem,aM,Int.natCast_add,Int.cast_ofNat_Int,indexAddrS,hK0,hK1,eV,ld0,ht,w240,bJ2,aG3,m0,aZ,bCj]
set_option maxHeartbeats 4000000 in
theorem bCk (t:Tag)(a:UInt8)(r:List UInt8)(h1:tab a.toNat=241):(lim K).call 192 [.iv (.sl t (bF (a::r)))] []=.ret (.tup [.iv (.int .i32 65533),.iv (.int .i64 1)],[]):=by
 have ha:=bl a
 refine aB K [] (fn:=t192) rfl rfl ?_
 simp (disch:=omega) only[t192,go_sem,aM,Int.natCast_add,Int.cast_ofNat_Int,indexAddrS,hK0,hK1,eV,ld0,h1,w241,bJ3,aG4,m1,o1,aZ]
theorem rJ (a:UInt8)(r:List UInt8)(h:a.toNat<128):D (a::r)=(a.toNat,1):=by simp[D,h]
theorem aOo (a:UInt8)(r:List UInt8)(h:128≤a.toNat∧a.toNat<194∨245≤a.toNat):D (a::r)=(65533,1):=by
 have h1:¬a.toNat<128:=by omega
 by_cases h2:a.toNat<194
 ·simp[D,h1,h2]
 ·have h3:¬a.toNat<224:=by omega
  have h4:¬a.toNat<240:=by omega
  have h5:¬a.toNat<245:=by omega
  simp[D,h1,h2,h3,h4,h5]
theorem aHj (a:UInt8)(r:List UInt8)(h:194≤a.toNat∧a.toNat<224):D (a::r)=match r with
      | b::_=>if fol b then (a.toNat % 32*64+b.toNat % 64,2) else (65533,1)
      | _=>(65533,1):=by
  have h1:¬a.toNat<128:=by omega
  have h2:¬a.toNat<194:=by omega
  simp only[D,h1,h2,h.2,↓reduceIte]
theorem jN (a:UInt8)(r:List UInt8)(h:224≤a.toNat∧a.toNat<240):D (a::r)=match r with
      | b::c::_=>if (decide ((if a.toNat=224 then 160 else 128)≤b.toNat)&&decide (b.toNat≤(if a.toNat=237 then 159 else 191)))&&fol c then (a.toNat % 16*4096+b.toNat % 64*64+c.toNat % 64,3) else (65533,1)
      | _=>(65533,1):=by
  have h1:¬a.toNat<128:=by omega
  have h2:¬a.toNat<194:=by omega
  have h3:¬a.toNat<224:=by omega
  simp only[D,h1,h2,h3,h.2,↓reduceIte]
theorem jG (a:UInt8)(r:List UInt8)(h:240≤a.toNat∧a.toNat<245):D (a::r)=match r with
      | b::c::d::_=>if (decide ((if a.toNat=240 then 144 else 128)≤b.toNat)&&decide (b.toNat≤(if a.toNat=244 then 143 else 191)))&&fol c&&fol d then (a.toNat % 8*262144+b.toNat % 64*4096+c.toNat % 64*64+d.toNat % 64,4) else (65533,1)
      | _=>(65533,1):=by
  have h1:¬a.toNat<128:=by omega
  have h2:¬a.toNat<194:=by omega
  have h3:¬a.toNat<224:=by omega
  have h4:¬a.toNat<240:=by omega
  simp only[D,h1,h2,h3,h4,h.2,↓reduceIte]
theorem aOp {b:UInt8}(h:128≤b.toNat∧b.toNat≤191):fol b=true:=by simp[fol]; omega
theorem bJ4 {b:UInt8}(h:¬(128≤b.toNat∧b.toNat≤191)):fol b=false:=by simp[fol]; omega
theorem aVu (a b:UInt8)(r:List UInt8)(h:194≤a.toNat∧a.toNat<224)(hb:128≤b.toNat∧b.toNat≤191):D (a::b::r)=(a.toNat % 32*64+b.toNat % 64,2):=by
 rw[aHj a _ h]; simp[aOp hb]
theorem bGl (a b:UInt8)(r:List UInt8)(h:194≤a.toNat∧a.toNat<224)(hb:¬(128≤b.toNat∧b.toNat≤191)):D (a::b::r)=(65533,1):=by
 rw[aHj a _ h]; simp[bJ4 hb]
theorem aHk (a b c:UInt8)(r:List UInt8)(h:224≤a.toNat∧a.toNat<240)(hb:(a.toNat=224→160≤b.toNat)∧128≤b.toNat∧(a.toNat=237→b.toNat≤159)∧b.toNat≤191)(hc:128≤c.toNat∧c.toNat≤191):D (a::b::c::r)=(a.toNat % 16*4096+b.toNat % 64*64+c.toNat % 64,3):=by
 rw[jN a _ h]
 have e1:(if a.toNat=224 then 160 else 128)≤b.toNat:=by split<;>omega
 have e2:b.toNat≤(if a.toNat=237 then 159 else 191):=by split<;>omega
 simp only[aOp hc,e1,e2,decide_true,Bool.and_self,↓reduceIte]
theorem aOq (a b c:UInt8)(r:List UInt8)(h:224≤a.toNat∧a.toNat<240)(hb:¬((a.toNat=224→160≤b.toNat)∧128≤b.toNat∧(a.toNat=237→b.toNat≤159)∧b.toNat≤191)∨¬(128≤c.toNat∧c.toNat≤191)):D (a::b::c::r)=(65533,1):=by
 rw[jN a _ h]
 simp only[fol,Bool.and_eq_true,decide_eq_true_eq]
 rw[if_neg]
 intro⟨⟨h1,h2⟩,h3⟩
 split at h1<;>split at h2<;>omega
theorem aHl (a b c d:UInt8)(r:List UInt8)(h:240≤a.toNat∧a.toNat<245)(hb:(a.toNat=240→144≤b.toNat)∧128≤b.toNat∧(a.toNat=244→b.toNat≤143)∧b.toNat≤191)(hc:128≤c.toNat∧c.toNat≤191)(hd:128≤d.toNat∧d.toNat≤191):D (a::b::c::d::r)=(a.toNat % 8*262144+b.toNat % 64*4096+c.toNat % 64*64+d.toNat % 64,4):=by
 rw[jG a _ h]
 have e1:(if a.toNat=240 then 144 else 128)≤b.toNat:=by split<;>omega
 have e2:b.toNat≤(if a.toNat=244 then 143 else 191):=by split<;>omega
 simp only[aOp hc,aOp hd,e1,e2,decide_true,Bool.and_self,↓reduceIte]
theorem aOr (a b c d:UInt8)(r:List UInt8)(h:240≤a.toNat∧a.toNat<245)(hb:¬((a.toNat=240→144≤b.toNat)∧128≤b.toNat∧(a.toNat=244→b.toNat≤143)∧b.toNat≤191)∨¬(128≤c.toNat∧c.toNat≤191)∨¬(128≤d.toNat∧d.toNat≤191)):D (a::b::c::d::r)=(65533,1):=by
 rw[jG a _ h]
 simp only[fol,Bool.and_eq_true,decide_eq_true_eq]
 rw[if_neg]
 intro⟨⟨⟨h1,h2⟩,h3⟩,h4⟩
 split at h1<;>split at h2<;>omega
set_option maxHeartbeats 8000000 in
theorem bCl (t:Tag)(a:UInt8)(r:List UInt8)(h1:tab a.toNat=2)(h2:194≤a.toNat∧a.toNat<224):(lim K).call 192 [.iv (.sl t (bF (a::r)))] []=.ret (.tup [.iv (.int .i32 (D (a::r)).1),.iv (.int .i64 (D (a::r)).2)],[]):=by
 have ha:=bl a
 refine aB K [] (fn:=t192) rfl rfl ?_
 have e0:fB (.iv (.cp g3)) 0=some (.iv (.cp g3)):=rfl
 have e1:∀env S,bR env S (.iv (.cp g3)) 2=some [.iv (.int .u8 128),.iv (.int .u8 191)]:=fun _ _=>rfl
 have sz:IntKind.u8.wrap (pR 8 2 7)=2:=by decide
 cases r with
 | nil =>
  simp (disch:=omega) only[t192,go_sem,aM,Int.natCast_add,Int.cast_ofNat_Int,indexAddrS,hK0,hK1,eV,ld0,h1,aZ,aF,e0,e1,sz,bA,bB,bK,bC,bL,bD,bE]
  repeat' (first|(first|refine cN (fun h=>?_) (fun h=>?_)|refine cO (fun h=>?_) (fun h=>?_)|refine cP (fun h=>?_) (fun h=>?_)|refine dR (fun h=>?_) (fun h=>?_))|simp (disch:=omega) only[go_sem,aM,Int.natCast_add,Int.cast_ofNat_Int,indexAddrS,hK0,hK1,eV,ld0,h1,aZ,aF,e0,e1,sz,bA,bB,bK,bC,bL,bD,bE])
  all_goals (rw[aHj a _ (by omega)]; rfl)
 | cons b r =>
  have hb:=bl b; simp (disch:=omega) only[t192,go_sem,aM,Int.natCast_add,Int.cast_ofNat_Int,indexAddrS,hK0,hK1,eV,ld0,h1,aZ,aF,e0,e1,sz,bA,bB,bK,bC,bL,bD,bE]
  repeat' (first|(first|refine cN (fun h=>?_) (fun h=>?_)|refine cO (fun h=>?_) (fun h=>?_)|refine cP (fun h=>?_) (fun h=>?_)|refine dR (fun h=>?_) (fun h=>?_))|simp (disch:=omega) only[go_sem,aM,Int.natCast_add,Int.cast_ofNat_Int,indexAddrS,hK0,hK1,eV,ld0,h1,aZ,aF,e0,e1,sz,bA,bB,bK,bC,bL,bD,bE])
  all_goals (first|(rw[bGl a b _ (by omega) (by omega)]; rfl)|(rw[aVu a b _ (by omega) (by omega)]; simp))
set_option maxHeartbeats 8000000 in
theorem bG7 (t:Tag)(a:UInt8)(r:List UInt8)(h1:tab a.toNat=19)(h2:a.toNat=224):(lim K).call 192 [.iv (.sl t (bF (a::r)))] []=.ret (.tup [.iv (.int .i32 (D (a::r)).1),.iv (.int .i64 (D (a::r)).2)],[]):=by
 have ha:=bl a
 refine aB K [] (fn:=t192) rfl rfl ?_
 have e0:fB (.iv (.cp g3)) 2=some (.iv (.cp (g3.drop 2))):=rfl
 have e1:∀env S,bR env S (.iv (.cp (g3.drop 2))) 2=some [.iv (.int .u8 160),.iv (.int .u8 191)]:=fun _ _=>rfl
 have sz:IntKind.u8.wrap (pR 8 19 7)=3:=by decide
 cases r with
 | nil =>
  simp (disch:=omega) only[t192,go_sem,aM,Int.natCast_add,Int.cast_ofNat_Int,indexAddrS,hK0,hK1,eV,ld0,h1,aZ,aF,e0,e1,sz,bA,bB,bK,bC,bL,bD,bE]
  repeat' (first|(first|refine cN (fun h=>?_) (fun h=>?_)|refine cO (fun h=>?_) (fun h=>?_)|refine cP (fun h=>?_) (fun h=>?_)|refine dR (fun h=>?_) (fun h=>?_))|simp (disch:=omega) only[go_sem,aM,Int.natCast_add,Int.cast_ofNat_Int,indexAddrS,hK0,hK1,eV,ld0,h1,aZ,aF,e0,e1,sz,bA,bB,bK,bC,bL,bD,bE])
  all_goals (rw[jN a _ (by omega)]; rfl)
 | cons b r =>
  cases r with
  | nil =>
   have hb:=bl b; simp (disch:=omega) only[t192,go_sem,aM,Int.natCast_add,Int.cast_ofNat_Int,indexAddrS,hK0,hK1,eV,ld0,h1,aZ,aF,e0,e1,sz,bA,bB,bK,bC,bL,bD,bE]
   repeat' (first|(first|refine cN (fun h=>?_) (fun h=>?_)|refine cO (fun h=>?_) (fun h=>?_)|refine cP (fun h=>?_) (fun h=>?_)|refine dR (fun h=>?_) (fun h=>?_))|simp (disch:=omega) only[go_sem,aM,Int.natCast_add,Int.cast_ofNat_Int,indexAddrS,hK0,hK1,eV,ld0,h1,aZ,aF,e0,e1,sz,bA,bB,bK,bC,bL,bD,bE])
   all_goals (rw[jN a _ (by omega)]; rfl)
  | cons c r =>
   have hb:=bl b; have hc:=bl c; simp (disch:=omega) only[t192,go_sem,aM,Int.natCast_add,Int.cast_ofNat_Int,indexAddrS,hK0,hK1,eV,ld0,h1,aZ,aF,e0,e1,sz,bA,bB,bK,bC,bL,bD,bE]
   repeat' (first|(first|refine cN (fun h=>?_) (fun h=>?_)|refine cO (fun h=>?_) (fun h=>?_)|refine cP (fun h=>?_) (fun h=>?_)|refine dR (fun h=>?_) (fun h=>?_))|simp (disch:=omega) only[go_sem,aM,Int.natCast_add,Int.cast_ofNat_Int,indexAddrS,hK0,hK1,eV,ld0,h1,aZ,aF,e0,e1,sz,bA,bB,bK,bC,bL,bD,bE])
   all_goals (first|(rw[aOq a b c _ (by omega) (by omega)]; rfl)|(rw[aHk a b c _ (by omega) (by omega) (by omega)]; simp))
set_option maxHeartbeats 8000000 in
theorem bG8 (t:Tag)(a:UInt8)(r:List UInt8)(h1:tab a.toNat=3)(h2:224<a.toNat∧a.toNat<237∨237<a.toNat∧a.toNat<240):(lim K).call 192 [.iv (.sl t (bF (a::r)))] []=.ret (.tup [.iv (.int .i32 (D (a::r)).1),.iv (.int .i64 (D (a::r)).2)],[]):=by
 have ha:=bl a
 refine aB K [] (fn:=t192) rfl rfl ?_
 have e0:fB (.iv (.cp g3)) 0=some (.iv (.cp g3)):=rfl
 have e1:∀env S,bR env S (.iv (.cp g3)) 2=some [.iv (.int .u8 128),.iv (.int .u8 191)]:=fun _ _=>rfl
 have sz:IntKind.u8.wrap (pR 8 3 7)=3:=by decide
 cases r with
 | nil =>
  simp (disch:=omega) only[t192,go_sem,aM,Int.natCast_add,Int.cast_ofNat_Int,indexAddrS,hK0,hK1,eV,ld0,h1,aZ,aF,e0,e1,sz,bA,bB,bK,bC,bL,bD,bE]
  repeat' (first|(first|refine cN (fun h=>?_) (fun h=>?_)|refine cO (fun h=>?_) (fun h=>?_)|refine cP (fun h=>?_) (fun h=>?_)|refine dR (fun h=>?_) (fun h=>?_))|simp (disch:=omega) only[go_sem,aM,Int.natCast_add,Int.cast_ofNat_Int,indexAddrS,hK0,hK1,eV,ld0,h1,aZ,aF,e0,e1,sz,bA,bB,bK,bC,bL,bD,bE])
  all_goals (rw[jN a _ (by omega)]; rfl)
 | cons b r =>
  cases r with
  | nil =>
   have hb:=bl b; simp (disch:=omega) only[t192,go_sem,aM,Int.natCast_add,Int.cast_ofNat_Int,indexAddrS,hK0,hK1,eV,ld0,h1,aZ,aF,e0,e1,sz,bA,bB,bK,bC,bL,bD,bE]
   repeat' (first|(first|refine cN (fun h=>?_) (fun h=>?_)|refine cO (fun h=>?_) (fun h=>?_)|refine cP (fun h=>?_) (fun h=>?_)|refine dR (fun h=>?_) (fun h=>?_))|simp (disch:=omega) only[go_sem,aM,Int.natCast_add,Int.cast_ofNat_Int,indexAddrS,hK0,hK1,eV,ld0,h1,aZ,aF,e0,e1,sz,bA,bB,bK,bC,bL,bD,bE])
   all_goals (rw[jN a _ (by omega)]; rfl)
  | cons c r =>
   have hb:=bl b; have hc:=bl c; simp (disch:=omega) only[t192,go_sem,aM,Int.natCast_add,Int.cast_ofNat_Int,indexAddrS,hK0,hK1,eV,ld0,h1,aZ,aF,e0,e1,sz,bA,bB,bK,bC,bL,bD,bE]
   repeat' (first|(first|refine cN (fun h=>?_) (fun h=>?_)|refine cO (fun h=>?_) (fun h=>?_)|refine cP (fun h=>?_) (fun h=>?_)|refine dR (fun h=>?_) (fun h=>?_))|simp (disch:=omega) only[go_sem,aM,Int.natCast_add,Int.cast_ofNat_Int,indexAddrS,hK0,hK1,eV,ld0,h1,aZ,aF,e0,e1,sz,bA,bB,bK,bC,bL,bD,bE])
   all_goals (first|(rw[aOq a b c _ (by omega) (by omega)]; rfl)|(rw[aHk a b c _ (by omega) (by omega) (by omega)]; simp))
set_option maxHeartbeats 8000000 in
theorem bG9 (t:Tag)(a:UInt8)(r:List UInt8)(h1:tab a.toNat=35)(h2:a.toNat=237):(lim K).call 192 [.iv (.sl t (bF (a::r)))] []=.ret (.tup [.iv (.int .i32 (D (a::r)).1),.iv (.int .i64 (D (a::r)).2)],[]):=by
 have ha:=bl a
 refine aB K [] (fn:=t192) rfl rfl ?_
 have e0:fB (.iv (.cp g3)) 4=some (.iv (.cp (g3.drop 4))):=rfl
 have e1:∀env S,bR env S (.iv (.cp (g3.drop 4))) 2=some [.iv (.int .u8 128),.iv (.int .u8 159)]:=fun _ _=>rfl
 have sz:IntKind.u8.wrap (pR 8 35 7)=3:=by decide
 cases r with
 | nil =>
  simp (disch:=omega) only[t192,go_sem,aM,Int.natCast_add,Int.cast_ofNat_Int,indexAddrS,hK0,hK1,eV,ld0,h1,aZ,aF,e0,e1,sz,bA,bB,bK,bC,bL,bD,bE]
  repeat' (first|(first|refine cN (fun h=>?_) (fun h=>?_)|refine cO (fun h=>?_) (fun h=>?_)|refine cP (fun h=>?_) (fun h=>?_)|refine dR (fun h=>?_) (fun h=>?_))|simp (disch:=omega) only[go_sem,aM,Int.natCast_add,Int.cast_ofNat_Int,indexAddrS,hK0,hK1,eV,ld0,h1,aZ,aF,e0,e1,sz,bA,bB,bK,bC,bL,bD,bE])
  all_goals (rw[jN a _ (by omega)]; rfl)
 | cons b r =>
  cases r with
  | nil =>
   have hb:=bl b; simp (disch:=omega) only[t192,go_sem,aM,Int.natCast_add,Int.cast_ofNat_Int,indexAddrS,hK0,hK1,eV,ld0,h1,aZ,aF,e0,e1,sz,bA,bB,bK,bC,bL,bD,bE]
   repeat' (first|(first|refine cN (fun h=>?_) (fun h=>?_)|refine cO (fun h=>?_) (fun h=>?_)|refine cP (fun h=>?_) (fun h=>?_)|refine dR (fun h=>?_) (fun h=>?_))|simp (disch:=omega) only[go_sem,aM,Int.natCast_add,Int.cast_ofNat_Int,indexAddrS,hK0,hK1,eV,ld0,h1,aZ,aF,e0,e1,sz,bA,bB,bK,bC,bL,bD,bE])
   all_goals (rw[jN a _ (by omega)]; rfl)
  | cons c r =>
   have hb:=bl b; have hc:=bl c; simp (disch:=omega) only[t192,go_sem,aM,Int.natCast_add,Int.cast_ofNat_Int,indexAddrS,hK0,hK1,eV,ld0,h1,aZ,aF,e0,e1,sz,bA,bB,bK,bC,bL,bD,bE]
   repeat' (first|(first|refine cN (fun h=>?_) (fun h=>?_)|refine cO (fun h=>?_) (fun h=>?_)|refine cP (fun h=>?_) (fun h=>?_)|refine dR (fun h=>?_) (fun h=>?_))|simp (disch:=omega) only[go_sem,aM,Int.natCast_add,Int.cast_ofNat_Int,indexAddrS,hK0,hK1,eV,ld0,h1,aZ,aF,e0,e1,sz,bA,bB,bK,bC,bL,bD,bE])
   all_goals (first|(rw[aOq a b c _ (by omega) (by omega)]; rfl)|(rw[aHk a b c _ (by omega) (by omega) (by omega)]; simp))
set_option maxHeartbeats 8000000 in
theorem bHa (t:Tag)(a:UInt8)(r:List UInt8)(h1:tab a.toNat=52)(h2:a.toNat=240):(lim K).call 192 [.iv (.sl t (bF (a::r)))] []=.ret (.tup [.iv (.int .i32 (D (a::r)).1),.iv (.int .i64 (D (a::r)).2)],[]):=by
 have ha:=bl a
 refine aB K [] (fn:=t192) rfl rfl ?_
 have e0:fB (.iv (.cp g3)) 6=some (.iv (.cp (g3.drop 6))):=rfl
 have e1:∀env S,bR env S (.iv (.cp (g3.drop 6))) 2=some [.iv (.int .u8 144),.iv (.int .u8 191)]:=fun _ _=>rfl
 have sz:IntKind.u8.wrap (pR 8 52 7)=4:=by decide
 cases r with
 | nil =>
  simp (disch:=omega) only[t192,go_sem,aM,Int.natCast_add,Int.cast_ofNat_Int,indexAddrS,hK0,hK1,eV,ld0,h1,aZ,aF,e0,e1,sz,bA,bB,bK,bC,bL,bD,bE]
  repeat' (first|(first|refine cN (fun h=>?_) (fun h=>?_)|refine cO (fun h=>?_) (fun h=>?_)|refine cP (fun h=>?_) (fun h=>?_)|refine dR (fun h=>?_) (fun h=>?_))|simp (disch:=omega) only[go_sem,aM,Int.natCast_add,Int.cast_ofNat_Int,indexAddrS,hK0,hK1,eV,ld0,h1,aZ,aF,e0,e1,sz,bA,bB,bK,bC,bL,bD,bE])
  all_goals (rw[jG a _ (by omega)]; rfl)
 | cons b r =>
  cases r with
  | nil =>
   have hb:=bl b; simp (disch:=omega) only[t192,go_sem,aM,Int.natCast_add,Int.cast_ofNat_Int,indexAddrS,hK0,hK1,eV,ld0,h1,aZ,aF,e0,e1,sz,bA,bB,bK,bC,bL,bD,bE]
   repeat' (first|(first|refine cN (fun h=>?_) (fun h=>?_)|refine cO (fun h=>?_) (fun h=>?_)|refine cP (fun h=>?_) (fun h=>?_)|refine dR (fun h=>?_) (fun h=>?_))|simp (disch:=omega) only[go_sem,aM,Int.natCast_add,Int.cast_ofNat_Int,indexAddrS,hK0,hK1,eV,ld0,h1,aZ,aF,e0,e1,sz,bA,bB,bK,bC,bL,bD,bE])
   all_goals (rw[jG a _ (by omega)]; rfl)
  | cons c r =>
   cases r with
   | nil =>
    have hb:=bl b; have hc:=bl c; simp (disch:=omega) only[t192,go_sem,aM,Int.natCast_add,Int.cast_ofNat_Int,indexAddrS,hK0,hK1,eV,ld0,h1,aZ,aF,e0,e1,sz,bA,bB,bK,bC,bL,bD,bE]
    repeat' (first|(first|refine cN (fun h=>?_) (fun h=>?_)|refine cO (fun h=>?_) (fun h=>?_)|refine cP (fun h=>?_) (fun h=>?_)|refine dR (fun h=>?_) (fun h=>?_))|simp (disch:=omega) only[go_sem,aM,Int.natCast_add,Int.cast_ofNat_Int,indexAddrS,hK0,hK1,eV,ld0,h1,aZ,aF,e0,e1,sz,bA,bB,bK,bC,bL,bD,bE])
    all_goals (rw[jG a _ (by omega)]; rfl)
   | cons d r =>
    have hb:=bl b; have hc:=bl c; have hd:=bl d; simp (disch:=omega) only[t192,go_sem,aM,Int.natCast_add,Int.cast_ofNat_Int,indexAddrS,hK0,hK1,eV,ld0,h1,aZ,aF,e0,e1,sz,bA,bB,bK,bC,bL,bD,bE]
    repeat' (first|(first|refine cN (fun h=>?_) (fun h=>?_)|refine cO (fun h=>?_) (fun h=>?_)|refine cP (fun h=>?_) (fun h=>?_)|refine dR (fun h=>?_) (fun h=>?_))|simp (disch:=omega) only[go_sem,aM,Int.natCast_add,Int.cast_ofNat_Int,indexAddrS,hK0,hK1,eV,ld0,h1,aZ,aF,e0,e1,sz,bA,bB,bK,bC,bL,bD,bE])
    all_goals (first|(rw[aOr a b c d _ (by omega) (by omega)]; rfl)|(rw[aHl a b c d _ (by omega) (by omega) (by omega) (by omega)]; simp))
set_option maxHeartbeats 8000000 in
theorem bHb (t:Tag)(a:UInt8)(r:List UInt8)(h1:tab a.toNat=4)(h2:240<a.toNat∧a.toNat<244):(lim K).call 192 [.iv (.sl t (bF (a::r)))] []=.ret (.tup [.iv (.int .i32 (D (a::r)).1),.iv (.int .i64 (D (a::r)).2)],[]):=by
 have ha:=bl a
 refine aB K [] (fn:=t192) rfl rfl ?_
 have e0:fB (.iv (.cp g3)) 0=some (.iv (.cp g3)):=rfl
 have e1:∀env S,bR env S (.iv (.cp g3)) 2=some [.iv (.int .u8 128),.iv (.int .u8 191)]:=fun _ _=>rfl
 have sz:IntKind.u8.wrap (pR 8 4 7)=4:=by decide
 cases r with
 | nil =>
  simp (disch:=omega) only[t192,go_sem,aM,Int.natCast_add,Int.cast_ofNat_Int,indexAddrS,hK0,hK1,eV,ld0,h1,aZ,aF,e0,e1,sz,bA,bB,bK,bC,bL,bD,bE]
  repeat' (first|(first|refine cN (fun h=>?_) (fun h=>?_)|refine cO (fun h=>?_) (fun h=>?_)|refine cP (fun h=>?_) (fun h=>?_)|refine dR (fun h=>?_) (fun h=>?_))|simp (disch:=omega) only[go_sem,aM,Int.natCast_add,Int.cast_ofNat_Int,indexAddrS,hK0,hK1,eV,ld0,h1,aZ,aF,e0,e1,sz,bA,bB,bK,bC,bL,bD,bE])
  all_goals (rw[jG a _ (by omega)]; rfl)
 | cons b r =>
  cases r with
  | nil =>
   have hb:=bl b; simp (disch:=omega) only[t192,go_sem,aM,Int.natCast_add,Int.cast_ofNat_Int,indexAddrS,hK0,hK1,eV,ld0,h1,aZ,aF,e0,e1,sz,bA,bB,bK,bC,bL,bD,bE]
   repeat' (first|(first|refine cN (fun h=>?_) (fun h=>?_)|refine cO (fun h=>?_) (fun h=>?_)|refine cP (fun h=>?_) (fun h=>?_)|refine dR (fun h=>?_) (fun h=>?_))|simp (disch:=omega) only[go_sem,aM,Int.natCast_add,Int.cast_ofNat_Int,indexAddrS,hK0,hK1,eV,ld0,h1,aZ,aF,e0,e1,sz,bA,bB,bK,bC,bL,bD,bE])
   all_goals (rw[jG a _ (by omega)]; rfl)
  | cons c r =>
   cases r with
   | nil =>
    have hb:=bl b; have hc:=bl c; simp (disch:=omega) only[t192,go_sem,aM,Int.natCast_add,Int.cast_ofNat_Int,indexAddrS,hK0,hK1,eV,ld0,h1,aZ,aF,e0,e1,sz,bA,bB,bK,bC,bL,bD,bE]
    repeat' (first|(first|refine cN (fun h=>?_) (fun h=>?_)|refine cO (fun h=>?_) (fun h=>?_)|refine cP (fun h=>?_) (fun h=>?_)|refine dR (fun h=>?_) (fun h=>?_))|simp (disch:=omega) only[go_sem,aM,Int.natCast_add,Int.cast_ofNat_Int,indexAddrS,hK0,hK1,eV,ld0,h1,aZ,aF,e0,e1,sz,bA,bB,bK,bC,bL,bD,bE])
    all_goals (rw[jG a _ (by omega)]; rfl)
   | cons d r =>
    have hb:=bl b; have hc:=bl c; have hd:=bl d; simp (disch:=omega) only[t192,go_sem,aM,Int.natCast_add,Int.cast_ofNat_Int,indexAddrS,hK0,hK1,eV,ld0,h1,aZ,aF,e0,e1,sz,bA,bB,bK,bC,bL,bD,bE]
    repeat' (first|(first|refine cN (fun h=>?_) (fun h=>?_)|refine cO (fun h=>?_) (fun h=>?_)|refine cP (fun h=>?_) (fun h=>?_)|refine dR (fun h=>?_) (fun h=>?_))|simp (disch:=omega) only[go_sem,aM,Int.natCast_add,Int.cast_ofNat_Int,indexAddrS,hK0,hK1,eV,ld0,h1,aZ,aF,e0,e1,sz,bA,bB,bK,bC,bL,bD,bE])
    all_goals (first|(rw[aOr a b c d _ (by omega) (by omega)]; rfl)|(rw[aHl a b c d _ (by omega) (by omega) (by omega) (by omega)]; simp))
set_option maxHeartbeats 8000000 in
theorem bHc (t:Tag)(a:UInt8)(r:List UInt8)(h1:tab a.toNat=68)(h2:a.toNat=244):(lim K).call 192 [.iv (.sl t (bF (a::r)))] []=.ret (.tup [.iv (.int .i32 (D (a::r)).1),.iv (.int .i64 (D (a::r)).2)],[]):=by
 have ha:=bl a
 refine aB K [] (fn:=t192) rfl rfl ?_
 have e0:fB (.iv (.cp g3)) 8=some (.iv (.cp (g3.drop 8))):=rfl
 have e1:∀env S,bR env S (.iv (.cp (g3.drop 8))) 2=some [.iv (.int .u8 128),.iv (.int .u8 143)]:=fun _ _=>rfl
 have sz:IntKind.u8.wrap (pR 8 68 7)=4:=by decide
 cases r with
 | nil =>
  simp (disch:=omega) only[t192,go_sem,aM,Int.natCast_add,Int.cast_ofNat_Int,indexAddrS,hK0,hK1,eV,ld0,h1,aZ,aF,e0,e1,sz,bA,bB,bK,bC,bL,bD,bE]
  repeat' (first|(first|refine cN (fun h=>?_) (fun h=>?_)|refine cO (fun h=>?_) (fun h=>?_)|refine cP (fun h=>?_) (fun h=>?_)|refine dR (fun h=>?_) (fun h=>?_))|simp (disch:=omega) only[go_sem,aM,Int.natCast_add,Int.cast_ofNat_Int,indexAddrS,hK0,hK1,eV,ld0,h1,aZ,aF,e0,e1,sz,bA,bB,bK,bC,bL,bD,bE])
  all_goals (rw[jG a _ (by omega)]; rfl)
 | cons b r =>
  cases r with
  | nil =>
   have hb:=bl b; simp (disch:=omega) only[t192,go_sem,aM,Int.natCast_add,Int.cast_ofNat_Int,indexAddrS,hK0,hK1,eV,ld0,h1,aZ,aF,e0,e1,sz,bA,bB,bK,bC,bL,bD,bE]
   repeat' (first|(first|refine cN (fun h=>?_) (fun h=>?_)|refine cO (fun h=>?_) (fun h=>?_)|refine cP (fun h=>?_) (fun h=>?_)|refine dR (fun h=>?_) (fun h=>?_))|simp (disch:=omega) only[go_sem,aM,Int.natCast_add,Int.cast_ofNat_Int,indexAddrS,hK0,hK1,eV,ld0,h1,aZ,aF,e0,e1,sz,bA,bB,bK,bC,bL,bD,bE])
   all_goals (rw[jG a _ (by omega)]; rfl)
  | cons c r =>
   cases r with
   | nil =>
    have hb:=bl b; have hc:=bl c; simp (disch:=omega) only[t192,go_sem,aM,Int.natCast_add,Int.cast_ofNat_Int,indexAddrS,hK0,hK1,eV,ld0,h1,aZ,aF,e0,e1,sz,bA,bB,bK,bC,bL,bD,bE]
    repeat' (first|(first|refine cN (fun h=>?_) (fun h=>?_)|refine cO (fun h=>?_) (fun h=>?_)|refine cP (fun h=>?_) (fun h=>?_)|refine dR (fun h=>?_) (fun h=>?_))|simp (disch:=omega) only[go_sem,aM,Int.natCast_add,Int.cast_ofNat_Int,indexAddrS,hK0,hK1,eV,ld0,h1,aZ,aF,e0,e1,sz,bA,bB,bK,bC,bL,bD,bE])
    all_goals (rw[jG a _ (by omega)]; rfl)
   | cons d r =>
    have hb:=bl b; have hc:=bl c; have hd:=bl d; simp (disch:=omega) only[t192,go_sem,aM,Int.natCast_add,Int.cast_ofNat_Int,indexAddrS,hK0,hK1,eV,ld0,h1,aZ,aF,e0,e1,sz,bA,bB,bK,bC,bL,bD,bE]
    repeat' (first|(first|refine cN (fun h=>?_) (fun h=>?_)|refine cO (fun h=>?_) (fun h=>?_)|refine cP (fun h=>?_) (fun h=>?_)|refine dR (fun h=>?_) (fun h=>?_))|simp (disch:=omega) only[go_sem,aM,Int.natCast_add,Int.cast_ofNat_Int,indexAddrS,hK0,hK1,eV,ld0,h1,aZ,aF,e0,e1,sz,bA,bB,bK,bC,bL,bD,bE])
    all_goals (first|(rw[aOr a b c d _ (by omega) (by omega)]; rfl)|(rw[aHl a b c d _ (by omega) (by omega) (by omega) (by omega)]; simp))
theorem aOs (t:Tag)(l:List UInt8):(lim K).call 192 [.iv (.sl t (bF l))] []=.ret (.tup [.iv (.int .i32 (D l).1),.iv (.int .i64 (D l).2)],[]):=by
 cases l with
 | nil=>exact aHi t
 | cons a r =>
  have ha:=bl a
  by_cases h1:a.toNat<128
  ·rw[aRc t a r h1,rJ a r h1]; rfl
  by_cases h2:a.toNat<194∨245≤a.toNat
  ·rw[bCk t a r (by simp only[tab]; (repeat' split)<;>omega),aOo a r (by omega)]; rfl
  by_cases h3:a.toNat<224
  ·exact bCl t a r (by simp only[tab]; (repeat' split)<;>omega) (by omega)
  by_cases h4:a.toNat=224
  ·exact bG7 t a r (by simp only[tab]; (repeat' split)<;>omega) h4
  by_cases h5:a.toNat=237
  ·exact bG9 t a r (by simp only[tab]; (repeat' split)<;>omega) h5
  by_cases h6:a.toNat<240
  ·exact bG8 t a r (by simp only[tab]; (repeat' split)<;>omega) (by omega)
  by_cases h7:a.toNat=240
  ·exact bHa t a r (by simp only[tab]; (repeat' split)<;>omega) h7
  by_cases h8:a.toNat=244
  ·exact bHc t a r (by simp only[tab]; (repeat' split)<;>omega) h8
  ·exact bHb t a r (by simp only[tab]; (repeat' split)<;>omega) (by omega)
theorem aHm (t:Tag):lp' (lim K) t172L0 [.iv (.sl t (bF [])),.iv (.int .i32 0),.iv (.int .i64 0),u_,.iv (.sl t (bF [])),.iv (.int .i64 0),.iv (.int .i64 0),u_,u_] []=.ret (.exit 0,[.iv (.sl t (bF [])),.iv (.int .i32 0),.iv (.int .i64 0),u_,.iv (.sl t (bF [])),.iv (.int .i64 0),.iv (.int .i64 0),.iv (.bool false),u_],[]):=by
 refine rW K _ _ ?_
 simp (disch:=omega) only[t172L0,go_sem]
theorem bCm (t:Tag)(l:List UInt8):(lim K).call 172 [.iv (.sl t (bF l))] []=.ret (.tup [.iv (.int .i32 (D l).1),.iv (.int .i64 (D l).2)],[]):=by
 refine aB K [] (fn:=t172) rfl rfl ?_
 cases l with
 | nil=>simp (disch:=omega) only[t172,go_sem,Int.cast_ofNat_Int,aHm,aOs]
 | cons a r =>
  have ha:=bl a
  by_cases h:a.toNat<128
  ·have hl:lp' (lim K) t172L0 [.iv (.sl t (bF (a::r))),.iv (.int .i32 0),.iv (.int .i64 0),u_,.iv (.sl t (bF (a::r))),.iv (.int .i64 ((r.length+1:Nat):Int)),.iv (.int .i64 0),u_,u_] []=.ret (.ret,[.iv (.sl t (bF (a::r))),.iv (.int .i32 a.toNat),.iv (.int .i64 1),.iv (.int .u8 a.toNat),.iv (.sl t (bF (a::r))),.iv (.int .i64 ((r.length+1:Nat):Int)),.iv (.int .i64 0),.iv (.bool true),.iv (.bool true)],[]):=by
    refine rW K _ _ ?_
    simp (disch:=omega) only[t172L0,go_sem,aM,indexAddrS,aZ]
   simp (disch:=omega) only[t172,go_sem,Int.cast_ofNat_Int,hl,rJ a r h]
  ·have hl:lp' (lim K) t172L0 [.iv (.sl t (bF (a::r))),.iv (.int .i32 0),.iv (.int .i64 0),u_,.iv (.sl t (bF (a::r))),.iv (.int .i64 ((r.length+1:Nat):Int)),.iv (.int .i64 0),u_,u_] []=.ret (.exit 0,[.iv (.sl t (bF (a::r))),.iv (.int .i32 0),.iv (.int .i64 0),.iv (.int .u8 a.toNat),.iv (.sl t (bF (a::r))),.iv (.int .i64 ((r.length+1:Nat):Int)),.iv (.int .i64 0),.iv (.bool true),.iv (.bool false)],[]):=by
    refine rW K _ _ ?_
    simp (disch:=omega) only[t172L0,go_sem,aM,indexAddrS,aZ]
   simp (disch:=omega) only[t172,go_sem,Int.cast_ofNat_Int,hl,aOs]
def bad (l:List UInt8):Bool:=decide ((D l).1=65533)&&decide ((D l).2≤1)
theorem aOt (c n:Int):(lim K).call 173 [.iv (.int .i32 c),.iv (.int .i64 n)] []=.ret (.iv (.bool (decide (c=65533)&&decide (n≤1))),[]):=by
 refine aB K [] (fn:=t173) rfl rfl ?_
 simp only[t173,go_sem]
 repeat' (first|(first|refine cN (fun h=>?_) (fun h=>?_)|refine cO (fun h=>?_) (fun h=>?_)|refine cP (fun h=>?_) (fun h=>?_)|refine dR (fun h=>?_) (fun h=>?_))|simp (disch:=omega) only[go_sem])
 all_goals (congr 4; simp[*])
theorem bJ5 (l:List UInt8):(D l).1<2097152∧(D l).2≤4:=by
 cases l with
 | nil=>simp[D]
 | cons a r =>
  have ha:=bl a
  simp only[D]
  repeat' split
  all_goals (simp only; try omega)
def zP (l:List UInt8)(i:Int):Int×Int×Int :=
 if i<0∨(l.length:Int)≤i then (0,0,2)
 else if bad (l.drop i.toNat) then (0,0,4)
 else ((D (l.drop i.toNat)).1,(D (l.drop i.toNat)).2,0)
def aKr (x:Int×Int×Int):TV:=.tup [.iv (.int .i64 x.1),.iv (.int .i64 x.2.1),.iv (.int .i64 x.2.2)]
def xA (n:Int):List UInt8→Int
 | []=>n
 | b::r=>xA (64*n+b.toNat % 64) r
def iT:List UInt8→Int
 | []=>0
 | a::r=>xA (if r.length=1 then a.toNat % 32 else if r.length=2 then a.toNat % 16 else if r.length=3 then a.toNat % 8 else a.toNat) r
theorem aKs (l:List UInt8)(i:Int)(h:0≤i∧i<l.length):l.drop i.toNat=l.getD i.toNat 0::l.drop (i+1).toNat:=by
 have h1:i.toNat<l.length:=by omega
 rw[List.drop_eq_getElem_cons h1,show (i+1).toNat=i.toNat+1 by omega]
 simp[List.getD,List.getElem?_eq_getElem h1]
theorem tX (t:Tag)(l:List UInt8)(r0 f a b c:TV)(hl:l.length≤4):∀(k:Nat) (i n:Int) (x:TV),i+k=l.length→1≤i→0≤n→(n+1)*64 ^ k≤1099511627776 →
  lp' (lim K) t157L0 [.iv (.sl t (bF l)),r0,f,.iv (.int .i64 n),.iv (.int .i64 i),a,b,c,x] []=.ret (.exit 0,[.iv (.sl t (bF l)),r0,f,.iv (.int .i64 (xA n (l.drop i.toNat))),.iv (.int .i64 l.length),a,b,c,.iv (.bool false)],[])
 | 0,i,n,x,hk,hi,hn,hb=>by
  have e:l.drop i.toNat=[]:=List.drop_of_length_le (by omega)
  obtain rfl:i=l.length:=by omega
  refine aH K _ _ t157L0.eq_1 ?_
  simp (disch:=omega) only[go_sem,e,xA]
 | k+1,i,n,x,hk,hi,hn,hb=>by
  refine aH K _ _ t157L0.eq_1 ?_
  have hx:=bl (l.getD i.toNat 0)
  have h1:(1:Int)≤64 ^ k:=Int.pow_pos (by decide)
  have h2:(n+1)*64 ^ (k+1)=(64*(n+1))*64 ^ k:=by rw[Int.pow_succ]; ac_rfl
  have h3:64*(n+1)*1≤(64*(n+1))*64 ^ k:=Int.mul_le_mul_of_nonneg_left h1 (by omega)
  have h4:(64*n+(l.getD i.toNat 0).toNat % 64+1)*64 ^ k≤(64*(n+1))*64 ^ k:=Int.mul_le_mul_of_nonneg_right (by omega) (by omega)
  simp (disch:=omega) only[go_sem,qY,aF,Int.tmod_eq_emod_of_nonneg]
  rw[tX t l r0 f a b c hl k (i+1) _ _ (by omega) (by omega) (by omega) (by omega)]
  rw[aKs l i (by omega)]
  rfl
theorem bCn (t:Tag)(l:List UInt8)(h:1≤l.length∧l.length≤4):(lim K).call 157 [.iv (.sl t (bF l))] []=.ret (.iv (.int .i64 (iT l)),[]):=by
 refine aB K [] (fn:=t157) rfl rfl ?_
 cases l with
 | nil=>simp at h
 | cons a r =>
  have ha:=bl a
  simp only[List.length_cons]at h
  have hl:r.length≤3:=by omega
  have hp:(64:Int) ^ r.length≤64 ^ 3:=by
   have:=Nat.pow_le_pow_right (n:=64) (by decide) hl
   exact_mod_cast this
  have key:∀n:Int,0≤n→n≤255→(n+1)*64 ^ r.length≤1099511627776:=by
   intro n h0 h1
   have e1:(n+1)*64 ^ r.length≤(n+1)*64 ^ 3:=Int.mul_le_mul_of_nonneg_left hp (by omega)
   omega
  by_cases h1:r.length=1
  ·have e:=tX t (a::r) (.iv (.int .i64 0)) (.iv (.int .i64 a.toNat)) (.iv (.bool true)) (.iv (.bool false)) (.iv (.bool false)) (by simp; omega) r.length 1 (a.toNat % 32) u_ (by simp; omega) (by omega) (by omega) (key _ (by omega) (by omega))
   simp (disch:=omega) only[t157,go_sem,qY,aF,Int.tmod_eq_emod_of_nonneg,indexAddrS,aM,h1,Int.cast_ofNat_Int]
   simp only[aM]at e
   simp (disch:=omega) only[go_sem,e,iT,h1]
  by_cases h2:r.length=2
  ·have e:=tX t (a::r) (.iv (.int .i64 0)) (.iv (.int .i64 a.toNat)) (.iv (.bool false)) (.iv (.bool true)) (.iv (.bool false)) (by simp; omega) r.length 1 (a.toNat % 16) u_ (by simp; omega) (by omega) (by omega) (key _ (by omega) (by omega))
   simp (disch:=omega) only[t157,go_sem,qY,aF,Int.tmod_eq_emod_of_nonneg,indexAddrS,aM,h2,Int.cast_ofNat_Int]
   simp only[aM]at e
   simp (disch:=omega) only[go_sem,e,iT,h2]
  by_cases h3:r.length=3
  ·have e:=tX t (a::r) (.iv (.int .i64 0)) (.iv (.int .i64 a.toNat)) (.iv (.bool false)) (.iv (.bool false)) (.iv (.bool true)) (by simp; omega) r.length 1 (a.toNat % 8) u_ (by simp; omega) (by omega) (by omega) (key _ (by omega) (by omega))
   simp (disch:=omega) only[t157,go_sem,qY,aF,Int.tmod_eq_emod_of_nonneg,indexAddrS,aM,h3,Int.cast_ofNat_Int]
   simp only[aM]at e
   simp (disch:=omega) only[go_sem,e,iT,h3]
  ·have e:=tX t (a::r) (.iv (.int .i64 0)) (.iv (.int .i64 a.toNat)) (.iv (.bool false)) (.iv (.bool false)) (.iv (.bool false)) (by simp; omega) r.length 1 a.toNat u_ (by simp; omega) (by omega) (by omega) (key _ (by omega) (by omega))
   have h0:r.length=0:=by omega
   simp (disch:=omega) only[t157,go_sem,qY,aF,Int.tmod_eq_emod_of_nonneg,indexAddrS,aM,h0,Int.cast_ofNat_Int]
   simp only[aM]at e
   simp (disch:=omega) only[go_sem,e,iT,h0]
theorem iU {n:Nat}(h:n<256):(UInt8.ofNat n).toNat=n:=by simp[UInt8.toNat_ofNat]; omega
theorem eq8 {a:UInt8}{n:Nat}(h:a.toNat=n):a=UInt8.ofNat n:=by
 have:=bl a
 apply UInt8.toNat_inj.1
 rw[iU (by omega),h]
theorem aEr {c:Int}(h:c<128):eJ c=[UInt8.ofNat c.toNat]:=by simp[eJ,h]
theorem aEs {c:Int}(h:128≤c∧c<2048):eJ c=[UInt8.ofNat (192+c.toNat / 64),UInt8.ofNat (128+c.toNat % 64)]:=by
 have h1:¬c<128:=by omega
 simp[eJ,h1,h.2]
theorem aEt {c:Int}(h:2048≤c∧c<65536):eJ c=[UInt8.ofNat (224+c.toNat / 4096),UInt8.ofNat (128+c.toNat / 64 % 64),UInt8.ofNat (128+c.toNat % 64)]:=by
 have h1:¬c<128:=by omega
 have h2:¬c<2048:=by omega
 simp[eJ,h1,h2,h.2]
theorem aEu {c:Int}(h:65536≤c):eJ c=[UInt8.ofNat (240+c.toNat / 262144),UInt8.ofNat (128+c.toNat / 4096 % 64),UInt8.ofNat (128+c.toNat / 64 % 64),UInt8.ofNat (128+c.toNat % 64)]:=by
 have h1:¬c<128:=by omega
 have h2:¬c<2048:=by omega
 have h3:¬c<65536:=by omega
 simp[eJ,h1,h2,h3]
theorem aOu {c:Int}(h:isC c=true)(r:List UInt8):D (eJ c++r)=(c.toNat,(eJ c).length):=by
 have hc:=(mF c).1 h
 by_cases h1:c<128
 ·rw[aEr h1]
  simp only[List.cons_append,List.nil_append]
  rw[rJ _ _ (by rw[iU (by omega)]; omega),iU (by omega)]; rfl
 by_cases h2:c<2048
 ·rw[aEs (by omega)]
  simp only[List.cons_append,List.nil_append]
  rw[aVu _ _ _ (by rw[iU (by omega)]; omega) (by rw[iU (by omega)]; omega),iU (by omega),iU (by omega)]
  simp; omega
 by_cases h3:c<65536
 ·rw[aEt (by omega)]
  simp only[List.cons_append,List.nil_append]
  rw[aHk _ _ _ _ (by rw[iU (by omega)]; omega) (by rw[iU (by omega),iU (by omega)]; omega) (by rw[iU (by omega)]; omega),iU (by omega),iU (by omega),iU (by omega)]
  simp; omega
 ·rw[aEu (by omega)]
  simp only[List.cons_append,List.nil_append]
  rw[aHl _ _ _ _ _ (by rw[iU (by omega)]; omega) (by rw[iU (by omega),iU (by omega)]; omega) (by rw[iU (by omega)]; omega) (by rw[iU (by omega)]; omega),iU (by omega),iU (by omega),iU (by omega),iU (by omega)]
  simp; omega
theorem bCo {c:Int}(h:isC c=true)(r:List UInt8):bad (eJ c++r)=false:=by
 have hc:=(mF c).1 h
 simp only[bad,aOu h]
 by_cases e:c=65533
 ·subst e; rfl
 ·have:¬c.toNat=65533:=by omega
  simp[this]
theorem pS {s:List UInt8}(h:bad s=false):isC ((D s).1:Nat)=true∧eJ ((D s).1:Nat)=s.take (D s).2∧1≤(D s).2∧(D s).2≤s.length:=by
 cases s with
 | nil=>simp[bad,D]at h
 | cons a r =>
  have ha:=bl a
  by_cases h1:a.toNat<128
  ·rw[rJ a r h1]
   refine⟨(mF _).2 (by omega),?_,by simp,by simp⟩
   rw[aEr (by omega)]
   simp
  by_cases h2:a.toNat<194∨245≤a.toNat
  ·simp[bad,aOo a r (by omega)]at h
  by_cases h3:a.toNat<224
  ·cases r with
   | nil=>rw[bad,aHj a _ (by omega)]at h; simp at h
   | cons b r =>
    have hb:=bl b
    by_cases hf:128≤b.toNat∧b.toNat≤191
    ·rw[aVu a b r (by omega) hf]
     refine⟨(mF _).2 (by simp only; omega),?_,by simp,by simp⟩
     rw[aEs (by simp only; omega)]
     simp only[List.take_succ_cons,List.take_zero,Int.toNat_natCast]
     rw[←eq8 (a:=a) (by omega),←eq8 (a:=b) (by omega)]
    ·simp[bad,bGl a b r (by omega) hf]at h
  by_cases h4:a.toNat<240
  ·match r with
   | []=>rw[bad,jN a _ (by omega)]at h; simp at h
   | [b]=>rw[bad,jN a _ (by omega)]at h; simp at h
   | b::c::r =>
    have hb:=bl b
    have hc:=bl c
    by_cases hf:((a.toNat=224→160≤b.toNat)∧128≤b.toNat∧(a.toNat=237→b.toNat≤159)∧b.toNat≤191)∧(128≤c.toNat∧c.toNat≤191)
    ·rw[aHk a b c r (by omega) hf.1 hf.2]
     refine⟨(mF _).2 (by simp only; omega),?_,by simp,by simp⟩
     rw[aEt (by simp only; omega)]
     simp only[List.take_succ_cons,List.take_zero,Int.toNat_natCast]
     rw[←eq8 (a:=a) (by omega),←eq8 (a:=b) (by omega),←eq8 (a:=c) (by omega)]
    ·simp[bad,aOq a b c r (by omega) (by omega)]at h
  ·match r with
   | []=>rw[bad,jG a _ (by omega)]at h; simp at h
   | [b]=>rw[bad,jG a _ (by omega)]at h; simp at h
   | [b,c]=>rw[bad,jG a _ (by omega)]at h; simp at h
   | b::c::d::r =>
    have hb:=bl b
    have hc:=bl c
    have hd:=bl d
    by_cases hf:((a.toNat=240→144≤b.toNat)∧128≤b.toNat∧(a.toNat=244→b.toNat≤143)∧b.toNat≤191)∧(128≤c.toNat∧c.toNat≤191)∧(128≤d.toNat∧d.toNat≤191)
    ·rw[aHl a b c d r (by omega) hf.1 hf.2.1 hf.2.2]
     refine⟨(mF _).2 (by simp only; omega),?_,by simp,by simp⟩
     rw[aEu (by simp only; omega)]
     simp only[List.take_succ_cons,List.take_zero,Int.toNat_natCast]
     rw[←eq8 (a:=a) (by omega),←eq8 (a:=b) (by omega),←eq8 (a:=c) (by omega),←eq8 (a:=d) (by omega)]
    ·simp[bad,aOr a b c d r (by omega) (by omega)]at h
theorem zQ {c:Int}(h:isC c=true):iT (eJ c)=c:=by
 have hc:=(mF c).1 h
 by_cases h1:c<128
 ·rw[aEr h1]; simp[iT,xA,UInt8.toNat_ofNat]; omega
 by_cases h2:c<2048
 ·rw[aEs (by omega)]; simp only[iT,xA,List.length_cons,List.length_nil,↓reduceIte,Nat.reduceAdd]; rw[iU (by omega),iU (by omega)]; omega
 by_cases h3:c<65536
 ·rw[aEt (by omega)]; simp only[iT,xA,List.length_cons,List.length_nil,↓reduceIte,Nat.reduceAdd,Nat.reduceEqDiff]; rw[iU (by omega),iU (by omega),iU (by omega)]; omega
 ·rw[aEu (by omega)]; simp only[iT,xA,List.length_cons,List.length_nil,↓reduceIte,Nat.reduceAdd,Nat.reduceEqDiff]; rw[iU (by omega),iU (by omega),iU (by omega),iU (by omega)]; omega
def lG (s:List UInt8)(n:Nat):Bool:=isC (iT (s.take n))&&(eJ (iT (s.take n))==s.take n)
theorem aVv {s:List UInt8}{n:Nat}(hn:1≤n∧n≤s.length):lG s n=true↔bad s=false∧(D s).2=n:=by
 constructor
 ·intro h
  simp only[lG,Bool.and_eq_true,beq_iff_eq]at h
  have e:s=eJ (iT (s.take n))++s.drop n:=by rw[h.2,List.take_append_drop]
  have hb:=bCo h.1 (s.drop n)
  have hd:=aOu h.1 (s.drop n)
  rw[←e]at hb hd
  refine⟨hb,?_⟩
  rw[hd,h.2]
  simp; omega
 ·intro⟨hb,hd⟩
  obtain⟨h1,h2,h3,h4⟩:=pS hb
  rw[hd]at h2
  have ht:iT (s.take n)=(D s).1:=by rw[←h2,zQ h1]
  simp only[lG,ht,h1,h2,beq_self_eq_true,Bool.and_self]
theorem aOv (t:Tag)(l:List UInt8)(at':Int)(ht:dE t l)(hat:0≤at'∧at'<l.length)(hl:l.length≤4611686018427387904)(r2 r3 r4 a:TV):∀(k:Nat) (n:Int) (x6 x8 x9:TV),n+k=5→1≤n→(bad (l.drop at'.toNat)=false→n≤(D (l.drop at'.toNat)).2) →
  ∃y5 y6 y8 y9,lp' (lim K) t125L0 [.iv (.sl t (bF l)),.iv (.int .i64 at'),r2,r3,r4,.iv (.int .i64 n),x6,a,x8,x9] []=.ret (if bad (l.drop at'.toNat) then (.exit 0,[.iv (.sl t (bF l)),.iv (.int .i64 at'),r2,r3,r4,y5,y6,a,y8,y9],[]) else (.ret,[.iv (.sl t (bF l)),.iv (.int .i64 at'),.iv (.int .i64 (D (l.drop at'.toNat)).1),.iv (.int .i64 (D (l.drop at'.toNat)).2),.iv (.int .i64 0),y5,y6,a,y8,y9],[]))
 | 0,n,x6,x8,x9,hk,hn,hd=>by
  have hb:bad (l.drop at'.toNat)=true:=by
   cases hb:bad (l.drop at'.toNat)
   ·have:=bJ5 (l.drop at'.toNat); have:=hd hb; omega
   ·rfl
  refine⟨?_,?_,?_,?_,aH K _ _ t125L0.eq_1 ?_⟩
  rotate_left 4
  ·simp (disch:=omega) only[go_sem,hb]
   rfl
 | k+1,n,x6,x8,x9,hk,hn,hd=>by
  by_cases hlen:at'+n≤l.length
  ·have hs:(l.drop at'.toNat).length=l.length-at'.toNat:=List.length_drop
   have e1:(at'+n).toNat-at'.toNat=n.toNat:=by omega
   have hsl:dH [] (.sl 1) (.iv (.sl t (bF l))) (some at') (some (at'+n)) none=some (.iv (.sl (lY t l.length (at'+n).toNat) (bF ((l.drop at'.toNat).take n.toNat)))):=by
    rw[aKd [] ht (by omega),e1]
   have h27:=fun tg=>bCn tg ((l.drop at'.toNat).take n.toNat) (by rw[List.length_take,hs]; omega)
   have hfi:=aVv (s:=l.drop at'.toNat) (n:=n.toNat) (by rw[hs]; omega)
   have ih0:=aOv t l at' ht hat hl r2 r3 r4 a k
   generalize l.drop at'.toNat=s at *
   cases hf:lG s n.toNat
   ·have hnd:bad s=false→n+1≤(D s).2:=by
     intro hb
     have h1:=hd hb
     have h2:¬(D s).2=n.toNat:=by
      intro h3
      have:=hfi.2 ⟨hb,h3⟩
      rw[hf]at this; cases this
     omega
    cases hc:isC (iT (s.take n.toNat))
    ·obtain⟨y5,y6,y8,y9,ih⟩:=ih0 (n+1) (.iv (.int .i64 (iT (s.take n.toNat)))) (.iv (.bool true)) (.iv (.bool false)) (by omega) (by omega) hnd
     refine⟨y5,y6,y8,y9,aH K _ _ t125L0.eq_1 ?_⟩
     simp (disch:=omega) only[go_sem,aF,hsl,h27,zO,hc,ih]
     cases bad s<;>rfl
    ·obtain⟨y5,y6,y8,y9,ih⟩:=ih0 (n+1) (.iv (.int .i64 (iT (s.take n.toNat)))) (.iv (.bool true)) (.iv (.bool false)) (by omega) (by omega) hnd
     have he:(eJ (iT (s.take n.toNat))==s.take n.toNat)=false:=by simpa[lG,hc] using hf
     refine⟨y5,y6,y8,y9,aH K _ _ t125L0.eq_1 ?_⟩
     simp (disch:=omega) only[go_sem,aF,hsl,h27,zO,hc,aEq _ hc,he,ih]
     cases bad s<;>rfl
   ·obtain⟨hb,hsz⟩:=hfi.1 hf
    have hc:isC (iT (s.take n.toNat))=true:=by simp[lG]at hf; exact hf.1
    have he:(eJ (iT (s.take n.toNat))==s.take n.toNat)=true:=by simp[lG]at hf; simp[hf.2]
    have hv:iT (s.take n.toNat)=(D s).1:=by
     have g:=pS hb
     rw[←hsz,←g.2.1,zQ g.1]
    have hv2:((D s).2:Int)=n:=by omega
    refine⟨?_,?_,?_,?_,aH K _ _ t125L0.eq_1 ?_⟩
    rotate_left 4
    ·simp (disch:=omega) only[go_sem,aF,hsl,h27,zO,hc,aEq _ hc,he,hb,hv2]
     simp only[hv]
     rfl
  ·have hb:bad (l.drop at'.toNat)=true:=by
    cases hb:bad (l.drop at'.toNat)
    ·have q:=(pS hb).2.2.2; have p:=hd hb; rw[List.length_drop]at q; omega
    ·rfl
   refine⟨?_,?_,?_,?_,aH K _ _ t125L0.eq_1 ?_⟩
   rotate_left 4
   ·simp (disch:=omega) only[go_sem,hb,aF]
    rfl
theorem bCp (t:Tag)(l:List UInt8)(i:Int)(ht:dE t l)(hl:l.length≤4611686018427387904):(lim K).call 125 [.iv (.sl t (bF l)),.iv (.int .i64 i)] []=.ret (aKr (zP l i),[]):=by
 refine aB K [] (fn:=t125) rfl rfl ?_
 by_cases h:i<0∨(l.length:Int)≤i
 ·by_cases h0:i<0
  ·simp (disch:=omega) only[t125,go_sem,zP,h,aKr]
  ·simp (disch:=omega) only[t125,go_sem,zP,h,aKr]
 ·obtain⟨y5,y6,y8,y9,e⟩:=aOv t l i ht (by omega) hl (.iv (.int .i64 0)) (.iv (.int .i64 0)) (.iv (.int .i64 0)) (.iv (.bool false)) 4 1 u_ u_ u_ (by omega) (by omega) (fun hb=>by have:=(pS hb).2.2.1; omega)
  cases hb:bad (l.drop i.toNat)
  ·simp only[hb]at e
   simp (disch:=omega) only[t125,go_sem,zP,h,aKr,e,hb]
  ·simp only[hb]at e
   simp (disch:=omega) only[t125,go_sem,zP,h,aKr,e,hb]
def cV:Nat→List UInt8→Int→List (Int×Int)×Option Int
 | 0,_,_=>([],none)
 | k+1,s,i=>if s=[] then ([],none) else if bad s then ([],some i) else
  ((((D s).1:Int),i)::(cV k (s.drop (D s).2) (i+(D s).2)).1,(cV k (s.drop (D s).2) (i+(D s).2)).2)
def hO (c:Int×Int):List IV:=[.int .i64 c.1,.int .i64 c.2]
theorem yY (c:Int×Int):(hO c).length=2∧(hO c).all iR=true:=⟨rfl,rfl⟩
set_option maxHeartbeats 4000000 in
theorem aVw (t:Tag)(l:List UInt8)(ht:dE t l)(hl:l.length≤2000000):∀(k:Nat) (i:Int) (done:List (Int×Int)) (x6 x7 x8 x9 x10:TV),0≤i→i≤l.length→(l.length:Int)-i≤k→(done.length:Int)≤i →
  ∃y5 y6 y7 y8 y9 y10 y4 S',lp' (lim K) t91L0 [.iv (.sl t (bF l)),.iv (.sl .nil []),.iv (.int .i64 0),.iv (.int .i64 0),acc 0 (done.map hO),.iv (.int .i64 i),x6,x7,x8,x9,x10] (jK 2 113 (done.map hO))=.ret (match (cV k (l.drop i.toNat) i).2 with
   | none=>(.exit 0,[.iv (.sl t (bF l)),.iv (.sl .nil []),.iv (.int .i64 0),.iv (.int .i64 0),acc 0 ((done++(cV k (l.drop i.toNat) i).1).map hO),y5,y6,y7,y8,y9,y10],S')
   | some p=>(.ret,[.iv (.sl t (bF l)),.iv (.sl .nil []),.iv (.int .i64 4),.iv (.int .i64 p),y4,y5,y6,y7,y8,y9,y10],S'))
 | 0,i,done,x6,x7,x8,x9,x10,h0,h1,h2,h3=>by
  refine⟨?_,?_,?_,?_,?_,?_,?_,?_,aH K _ _ t91L0.eq_1 ?_⟩
  rotate_left 8
  ·simp (disch:=omega) only[go_sem,cV,List.append_nil]
   rfl
  exact .hole
 | k+1,i,done,x6,x7,x8,x9,x10,h0,h1,h2,h3=>by
  by_cases hi:i=l.length
  ·have e:l.drop i.toNat=[]:=List.drop_of_length_le (by omega)
   refine⟨?_,?_,?_,?_,?_,?_,?_,?_,aH K _ _ t91L0.eq_1 ?_⟩
   rotate_left 8
   ·simp (disch:=omega) only[go_sem,cV,e,List.append_nil]
    rfl
   exact .hole
  ·have hs:(l.drop i.toNat).length=l.length-i.toNat:=List.length_drop
   have h13:=bCp t l i ht (by omega)
   have hR:zP l i=if bad (l.drop i.toNat) then (0,0,4) else (((D (l.drop i.toNat)).1:Int),((D (l.drop i.toNat)).2:Int),0):=by
    simp only[zP]; rw[if_neg (by omega)]
   rw[hR]at h13
   have hne:¬l.drop i.toNat=[]:=by intro e; rw[e]at hs; simp at hs; omega
   cases hb:bad (l.drop i.toNat)
   ·have hg:=pS hb
    have hdr:(l.drop i.toNat).drop (D (l.drop i.toNat)).2=l.drop (i+(D (l.drop i.toNat)).2).toNat:=by
     rw[List.drop_drop]; congr 1; omega
    obtain⟨y5,y6,y7,y8,y9,y10,y4,S',ih⟩:=aVw t l ht hl k (i+(D (l.drop i.toNat)).2) (done++[(((D (l.drop i.toNat)).1:Int),i)]) (.iv (.int .i64 (D (l.drop i.toNat)).1)) (.iv (.int .i64 (D (l.drop i.toNat)).2)) (.iv (.int .i64 0)) (.iv (.bool true)) (.iv (.bool false)) (by omega) (by omega) (by omega) (by simp; omega)
    simp only[cV,hne,hb,↓reduceIte,Bool.false_eq_true]
    rw[hdr]
    generalize D (l.drop i.toNat)=d at *
    rw[hb]at h13
    simp only[Bool.false_eq_true,↓reduceIte]at h13
    have ha:=zL (w:=2) (b:=16) (el:=113) (t:=.full) (yY ((d.1:Int),i)) (fD.map yY done) (cM (by rw[List.length_map]; omega))
    refine⟨y5,y6,y7,y8,y9,y10,y4,S',aH K _ _ t91L0.eq_1 ?_⟩
    simp only[hO]at ha
    have em:(done++[((d.1:Int),i)]).map hO=done.map hO++[[.int .i64 d.1,.int .i64 i]]:=by simp[hO]
    rw[em]at ih
    simp (disch:=omega) only[go_sem,h13,aKr,aF,ha,ih]
    simp only[List.map_append,List.map_cons,List.map_nil,hO,List.append_assoc,List.cons_append,List.nil_append]
    cases (cV k (l.drop (i+d.2).toNat) (i+d.2)).2<;>rfl
   ·refine⟨?_,?_,?_,?_,?_,?_,?_,?_,aH K _ _ t91L0.eq_1 ?_⟩
    rotate_left 8
    ·rw[hb]at h13
     simp only[↓reduceIte]at h13
     simp (disch:=omega) only[go_sem,cV,hne,hb,h13,aKr,List.append_nil]
     rfl
theorem bHd (t:Tag)(l:List UInt8)(ht:dE t l)(hl:l.length≤2000000):Pure K 91 [.iv (.sl t (bF l))] (match (cV l.length l 0).2 with
      | none=>.tup [.iv (.sl (eP (cV l.length l 0).1) ((cV l.length l 0).1.map hO)),.iv (.int .i64 0),.iv (.int .i64 0)]
      | some p=>.tup [.iv (.sl .nil []),.iv (.int .i64 4),.iv (.int .i64 p)]):=by
  obtain⟨y5,y6,y7,y8,y9,y10,y4,S',e⟩:=aVw t l ht hl l.length 0 [] u_ u_ u_ u_ u_ (by omega) (by omega) (by omega) (by simp)
  rw[List.map_nil,jF,jZ]at e
  simp only[List.nil_append,Int.toNat_zero,List.drop_zero]at e
  generalize cV l.length l 0=q at *
  obtain⟨q1,q2⟩:=q
  refine aV t91 rfl rfl ?_
  cases q2 with
  | none =>
    simp only at e ⊢
    simp (disch:=omega) only[t91,go_sem,e,rB]
  | some p =>
    simp only at e ⊢
    simp (disch:=omega) only[t91,go_sem,e]
theorem bCq (l:List UInt8)(i:Nat):ByteArray.get! ⟨l.toArray⟩ i=l.getD i 0:=by
 show l.toArray[i]! = _
 simp[List.getD,getElem!_def]
 cases l[i]? <;> rfl
set_option maxHeartbeats 4000000 in
theorem aC7 (l:List UInt8)(i:Nat)(h:i<l.length):Utf8.decode ⟨l.toArray⟩ i=D (l.drop i):=by
 have hs:(ByteArray.mk l.toArray).size=l.length:=by simp[ByteArray.size]
 have hg:∀k,l.getD (i+k) 0=(l.drop i).getD k 0:=by intro k; simp[List.getD,List.getElem?_drop]
 have hlen:∀k,(i+k<l.length)↔k<(l.drop i).length:=by intro k; rw[List.length_drop]; omega
 have hpos:0<(l.drop i).length:=by rw[List.length_drop]; omega
 simp only[Utf8.decode,hs,bCq,hg,hlen]
 generalize l.drop i=s at *
 cases s with
 | nil=>simp at hpos
 | cons a r =>
  have ha:=bl a
  match r with
  | [] =>
   simp only[List.getD_cons_zero,List.getD_cons_succ,List.getD_nil,List.length_cons,List.length_nil,D,fol,Utf8.valid,Utf8.runeError,Bool.and_eq_true,Bool.or_eq_true,beq_iff_eq,decide_eq_true_eq]
   repeat' split
   all_goals (first|rfl|(simp only[Prod.mk.injEq]; omega)|(exfalso; omega))
  | [b] =>
   have hb:=bl b
   simp only[List.getD_cons_zero,List.getD_cons_succ,List.getD_nil,List.length_cons,List.length_nil,D,fol,Utf8.valid,Utf8.runeError,Bool.and_eq_true,Bool.or_eq_true,beq_iff_eq,decide_eq_true_eq]
   repeat' split
   all_goals (first|rfl|(simp only[Prod.mk.injEq]; omega)|(exfalso; omega))
  | [b,c] =>
   have hb:=bl b
   have hc:=bl c
   simp only[List.getD_cons_zero,List.getD_cons_succ,List.getD_nil,List.length_cons,List.length_nil,D,fol,Utf8.valid,Utf8.runeError,Bool.and_eq_true,Bool.or_eq_true,beq_iff_eq,decide_eq_true_eq]
   repeat' split
   all_goals (first|rfl|(simp only[Prod.mk.injEq]; omega)|(exfalso; omega))
  | b::c::d::r =>
   have hb:=bl b
   have hc:=bl c
   have hd:=bl d
   simp only[List.getD_cons_zero,List.getD_cons_succ,List.getD_nil,List.length_cons,List.length_nil,D,fol,Utf8.valid,Utf8.runeError,Bool.and_eq_true,Bool.or_eq_true,beq_iff_eq,decide_eq_true_eq]
   repeat' split
   all_goals (first|rfl|(simp only[Prod.mk.injEq]; omega)|(exfalso; omega))
set_option maxHeartbeats 4000000 in
theorem aOw (t:Tag)(l:List UInt8)(ht:dE t l)(hl:l.length≤2000000):∀(k:Nat) (i:Nat) (done:List (Int×Int)) (x4 x5 x6 x8 x9 x10 x11:TV),i≤l.length→l.length-i≤k→done.length≤i →
  ∃y3 y4 y5 y6 y8 y9 y10 y11 S',lp' (lim K) t152L0 [.iv (.sl t (bF l)),.iv (.sl .nil []),.lb [.iv (.int .i64 0),.iv (.int .i64 0)],acc 1 (done.map hO),x4,x5,x6,.it 0,x8,x9,x10,x11] (.sit l i::jK 2 167 (done.map hO))=.ret (match (cV k (l.drop i) i).2 with
   | none=>(.exit 0,[.iv (.sl t (bF l)),.iv (.sl .nil []),.lb [.iv (.int .i64 0),.iv (.int .i64 0)],acc 1 ((done++(cV k (l.drop i) i).1).map hO),y4,y5,y6,.it 0,y8,y9,y10,y11],S')
   | some p=>(.ret,[.iv (.sl t (bF l)),.iv (.sl .nil []),.lb [.iv (.int .i64 4),.iv (.int .i64 p)],y3,y4,y5,y6,.it 0,y8,y9,y10,y11],S'))
 | 0,i,done,x4,x5,x6,x8,x9,x10,x11,h1,h2,h3=>by
  refine⟨?_,?_,?_,?_,?_,?_,?_,?_,?_,aH K _ _ t152L0.eq_1 ?_⟩
  rotate_left 9
  ·simp (disch:=omega) only[go_sem,cV,List.append_nil]
   rfl
  exact .hole
 | k+1,i,done,x4,x5,x6,x8,x9,x10,x11,h1,h2,h3=>by
  by_cases hi:i=l.length
  ·have e:l.drop i=[]:=List.drop_of_length_le (by omega)
   refine⟨?_,?_,?_,?_,?_,?_,?_,?_,?_,aH K _ _ t152L0.eq_1 ?_⟩
   rotate_left 9
   ·simp (disch:=omega) only[go_sem,cV,e,List.append_nil]
    rfl
   exact .hole
  ·have hs:(l.drop i).length=l.length-i:=List.length_drop
   have hde:=aC7 l i (by omega)
   have hne:¬l.drop i=[]:=by intro e; rw[e]at hs; simp at hs; omega
   have h25:=fun tg=>bCm tg (l.drop i)
   have hdl:=bJ5 (l.drop i)
   have hbad:bad (l.drop i)=(decide ((((D (l.drop i)).1:Nat):Int)=65533)&&decide ((((D (l.drop i)).2:Nat):Int)≤1)):=by
    rw[bad,Bool.eq_iff_iff]; simp; omega
   have hsl:=fun S=>aB4 S (t:=t) (l:=l) (a:=(i:Int)) ht (by omega)
   cases hb:bad (l.drop i)
   ·have hg:=pS hb
    have hdr:(l.drop i).drop (D (l.drop i)).2=l.drop (i+(D (l.drop i)).2):=by
     rw[List.drop_drop]
    have ih:=fun x4 x5 x6 x8 x9 x10 x11=>aOw t l ht hl k (i+(D (l.drop i)).2) (done++[(((D (l.drop i)).1:Int),(i:Int))]) x4 x5 x6 x8 x9 x10 x11 (by omega) (by omega) (by simp; omega)
    simp only[cV,hne,hb,↓reduceIte,Bool.false_eq_true]
    rw[hdr]
    have ha:=bBi (w:=2) (b:=16) (el:=167) (t:=.full) (.sit l (i+(D (l.drop i)).2)) (yY (((D (l.drop i)).1:Int),(i:Int))) (fD.map yY done) (cM (by rw[List.length_map]; omega))
    have em:(done++[(((D (l.drop i)).1:Int),(i:Int))]).map hO=done.map hO++[[.int .i64 (D (l.drop i)).1,.int .i64 i]]:=by simp[hO]
    rw[em]at ih
    generalize D (l.drop i)=d at *
    simp only[hO]at ha
    rw[hb]at hbad
    by_cases hc:(d.1:Int)=65533
    ·have h26:¬(d.2:Int)≤1:=by intro q; simp[hc,q]at hbad
     obtain⟨y3,y4,y5,y6,y8,y9,y10,y11,S',ih⟩:=ih (.iv (.int .i64 i)) (.iv (.int .i32 d.1)) (.iv (.int .i64 d.2)) (.tup [.iv (.bool true),.iv (.int .i64 i),.iv (.int .i32 d.1)]) (.iv (.bool true)) (.iv (.bool true)) (.iv (.bool false))
     refine⟨y3,y4,y5,y6,y8,y9,y10,y11,S',aH K _ _ t152L0.eq_1 ?_⟩
     simp (disch:=omega) only[go_sem,hde,hsl,Int.toNat_natCast,h25,aOt,h26,aF,ha,ih]
     simp only[Int.natCast_add,List.map_append,List.map_cons,List.map_nil,hO,List.append_assoc,List.cons_append,List.nil_append]
     cases (cV k (l.drop (i+d.2)) ((i:Int)+(d.2:Int))).2<;>rfl
    ·obtain⟨y3,y4,y5,y6,y8,y9,y10,y11,S',ih⟩:=ih (.iv (.int .i64 i)) (.iv (.int .i32 d.1)) x6 (.tup [.iv (.bool true),.iv (.int .i64 i),.iv (.int .i32 d.1)]) (.iv (.bool true)) (.iv (.bool false)) x11
     refine⟨y3,y4,y5,y6,y8,y9,y10,y11,S',aH K _ _ t152L0.eq_1 ?_⟩
     simp (disch:=omega) only[go_sem,hde,aF,ha,ih]
     simp only[Int.natCast_add,List.map_append,List.map_cons,List.map_nil,hO,List.append_assoc,List.cons_append,List.nil_append]
     cases (cV k (l.drop (i+d.2)) ((i:Int)+(d.2:Int))).2<;>rfl
   ·rw[hb]at hbad
    have h26:=hbad.symm
    have hc:(((D (l.drop i)).1:Nat):Int)=65533:=by simp at h26; omega
    have hc2:(((D (l.drop i)).2:Nat):Int)≤1:=by simp at h26; omega
    refine⟨?_,?_,?_,?_,?_,?_,?_,?_,?_,aH K _ _ t152L0.eq_1 ?_⟩
    rotate_left 9
    ·simp (disch:=omega) only[go_sem,cV,hne,hb,hde,hsl,Int.toNat_natCast,h25,aOt,h26,hc]
     rfl
theorem bCr (t:Tag)(l:List UInt8)(ht:dE t l)(hl:l.length≤2000000):Pure K 152 [.iv (.sl t (bF l))] (match (cV l.length l 0).2 with
      | none=>.tup [.iv (.sl (eP (cV l.length l 0).1) ((cV l.length l 0).1.map hO)),.iv (.agg [.int .i64 0,.int .i64 0])]
      | some p=>.tup [.iv (.sl .nil []),.iv (.agg [.int .i64 4,.int .i64 p])]):=by
  obtain⟨y3,y4,y5,y6,y8,y9,y10,y11,S',e⟩:=aOw t l ht hl l.length 0 [] u_ u_ u_ u_ u_ u_ u_ (by omega) (by omega) (by simp)
  rw[List.map_nil,jF,jZ]at e
  simp only[List.nil_append,List.drop_zero,Int.cast_ofNat_Int]at e
  generalize cV l.length l 0=q at *
  obtain⟨q1,q2⟩:=q
  refine aV t152 rfl rfl ?_
  cases q2 with
  | none =>
    simp only at e ⊢
    simp (disch:=omega) only[t152,go_sem,e,rB]
  | some p =>
    simp only at e ⊢
    simp (disch:=omega) only[t152,go_sem,e]
theorem bLh (c:Int×Int):sub (hO c) 0 2=some (hO c):=by simp[sub,hO]
theorem aHn (a:Int):iR (i64 a)=true:=rfl
def eF (cs:List (Int×Int)):List Int:=cs.map (·.1)
theorem zR (cs:List (Int×Int))(i:Nat)(h:i<cs.length):eF (cs.take (i+1))=eF (cs.take i)++[(cs.getD i default).1]:=by
 rw[aB5 (d:=default) h]; simp[eF]
theorem sW:∀(k:Nat) (s:List UInt8) (i:Int),(cV k s i).1.length≤s.length
 | 0,s,i=>by simp[cV]
 | k+1,s,i=>by
  simp only[cV]
  split
  ·simp
  ·split
   ·simp
   ·rename_i h1 h2
    have hb:bad s=false:=by simpa using h2
    have hg:=pS hb
    have:=sW k (s.drop (D s).2) (i+(D s).2)
    rw[List.length_drop]at this
    simp only[List.length_cons]
    omega
theorem aC8 (s:List UInt8)(hl:s.length≤2000000):(cV s.length s 0).1.length≤2000000:=by
 have:=sW s.length s 0
 omega
set_option maxHeartbeats 4000000 in
theorem aOx (s:TV)(tg:Tag)(cs:List (Int×Int))(hl:cs.length≤2000000)(f a7:TV):∀(k i:Nat) (x6 x11:TV),i+k=cs.length →
  ∃y6 y11,lp' (lim K) t118L0 [s,.iv (.sl .nil []),.iv (.int .i64 0),.iv (.sl tg (cs.map hO)),f,acc 0 (TM.one i64 (eF (cs.take i))),x6,a7,.iv (.sl tg (cs.map hO)),.iv (.int .i64 cs.length),.iv (.int .i64 i),x11] (jK 1 3 (TM.one i64 (eF (cs.take i))))=.ret (.exit 0,[s,.iv (.sl .nil []),.iv (.int .i64 0),.iv (.sl tg (cs.map hO)),f,acc 0 (TM.one i64 (eF cs)),y6,a7,.iv (.sl tg (cs.map hO)),.iv (.int .i64 cs.length),.iv (.int .i64 cs.length),y11],jK 1 3 (TM.one i64 (eF cs)))
 | 0,i,x6,x11,h=>by
  obtain rfl:i=cs.length:=by omega
  rw[List.take_length]
  refine⟨?_,?_,aH K _ _ t118L0.eq_1 ?_⟩
  rotate_left 2
  ·simp (disch:=omega) only[go_sem]
   rfl
 | k+1,i,x6,x11,h=>by
  have hc:=zR cs i (by omega)
  have hcl:(eF (cs.take i)).length≤2000000:=by simp[eF]; omega
  obtain⟨y6,y11,ih⟩:=aOx s tg cs hl f a7 k (i+1) (.lb [.iv (.int .i64 (cs.getD i default).1),.iv (.int .i64 (cs.getD i default).2)]) (.iv (.bool true)) (by omega)
  rw[hc,←aB2]at ih
  have ha:=zL (w:=1) (b:=8) (el:=3) (t:=.full) (l:=TM.one i64 (eF (cs.take i))) (c:=[.int .i64 (cs.getD i default).1]) ⟨rfl,rfl⟩ (fD.one aHn _) (cM (by rw[TM.iH]; omega))
  have hg:=aG5 (w:=2) (f:=hO) (fun _=>rfl) (t:=tg) (l:=cs) (i:=(i:Int)) (by omega)
  refine⟨y6,y11,aH K _ _ t118L0.eq_1 ?_⟩
  simp (disch:=omega) only[go_sem,hg,aKf,bLh,Int.toNat_natCast,hO,aF,ha]
  exact congrArg er ih
set_option maxHeartbeats 4000000 in
theorem aVx (s:TV)(tg:Tag)(cs:List (Int×Int))(hl:cs.length≤2000000)(f a7:TV):∀(k i:Nat) (x8:TV),i+k=cs.length →
  ∃y8,lp' (lim K) t51L0 [s,.iv (.sl .nil []),.iv (.int .i64 0),.iv (.sl tg (cs.map hO)),f,acc 0 (TM.one i64 (eF (cs.take i))),.iv (.int .i64 i),a7,x8] (jK 1 3 (TM.one i64 (eF (cs.take i))))=.ret (.exit 0,[s,.iv (.sl .nil []),.iv (.int .i64 0),.iv (.sl tg (cs.map hO)),f,acc 0 (TM.one i64 (eF cs)),.iv (.int .i64 cs.length),a7,y8],jK 1 3 (TM.one i64 (eF cs)))
 | 0,i,x8,h=>by
  obtain rfl:i=cs.length:=by omega
  rw[List.take_length]
  refine⟨?_,aH K _ _ t51L0.eq_1 ?_⟩
  rotate_left 1
  ·simp (disch:=omega) only[go_sem,List.length_map]
   rfl
 | k+1,i,x8,h=>by
  have hc:=zR cs i (by omega)
  have hcl:(eF (cs.take i)).length≤2000000:=by simp[eF]; omega
  obtain⟨y8,ih⟩:=aVx s tg cs hl f a7 k (i+1) (.iv (.bool true)) (by omega)
  rw[hc,←aB2]at ih
  have ha:=zL (w:=1) (b:=8) (el:=3) (t:=.full) (l:=TM.one i64 (eF (cs.take i))) (c:=[.int .i64 (cs.getD i default).1]) ⟨rfl,rfl⟩ (fD.one aHn _) (cM (by rw[TM.iH]; omega))
  have hg:=aG5 (w:=2) (f:=hO) (fun _=>rfl) (t:=tg) (l:=cs) (i:=(i:Int)) (by omega)
  have hz:fB (.iv (.cp (hO (cs.getD i default)))) 0=some (.iv (.cp (hO (cs.getD i default)))):=rfl
  refine⟨y8,aH K _ _ t51L0.eq_1 ?_⟩
  simp (disch:=omega) only[go_sem,List.length_map,hg,hz,Int.toNat_natCast,hO,aF,ha,aEm]
  exact congrArg er ih
theorem bCs (s:List UInt8)(hl:s.length≤2000000):Pure K 118 [.iv (.str s)] (match (cV s.length s 0).2 with
      | none=>.tup [.iv (.sl (eP (cV s.length s 0).1) (TM.one i64 (eF (cV s.length s 0).1))),.iv (.int .i64 0)]
      | some p=>.tup [.iv (.sl .nil []),.iv (.int .i64 4)]):=by
  have h17:=bCr .no s (dE.no _) hl
  have hcl:(cV s.length s 0).1.length≤2000000:=aC8 s hl
  generalize cV s.length s 0=q at *
  obtain⟨q1,q2⟩:=q
  refine aV t118 rfl rfl ?_
  cases q2 with
  | none =>
    simp only at h17 hcl ⊢
    simp (disch:=omega) only[t118,go_sem,aC h17,List.length_map]
    obtain⟨y6,y11,e⟩:=aOx (.iv (.str s)) (eP q1) q1 hcl (.lb [.iv (.int .i64 0),.iv (.int .i64 0)]) (.iv (.bool false)) q1.length 0 u_ u_ (by omega)
    rw[List.take_zero,show eF []=[] from rfl,show TM.one i64 []=[] from rfl,jF,jZ,show ((0:Nat):Int)=0 from rfl]at e
    simp (disch:=omega) only[go_sem,e]
    simp only[TM.one,eF,rB]
  | some p =>
    simp only at h17 ⊢
    simp (disch:=omega) only[t118,go_sem,aC h17]
theorem aVy (s:List UInt8)(hl:s.length≤2000000):Pure K 51 [.iv (.str s)] (match (cV s.length s 0).2 with
      | none=>.tup [.iv (.sl (eP (cV s.length s 0).1) (TM.one i64 (eF (cV s.length s 0).1))),.iv (.int .i64 0)]
      | some p=>.tup [.iv (.sl .nil []),.iv (.int .i64 4)]):=by
  have h18:=bHd .no s (dE.no _) hl
  have hcl:(cV s.length s 0).1.length≤2000000:=aC8 s hl
  generalize cV s.length s 0=q at *
  obtain⟨q1,q2⟩:=q
  refine aV t51 rfl rfl ?_
  cases q2 with
  | none =>
    simp only at h18 hcl ⊢
    simp (disch:=omega) only[t51,go_sem,aC h18,List.length_map]
    obtain⟨y8,e⟩:=aVx (.iv (.str s)) (eP q1) q1 hcl (.iv (.int .i64 0)) (.iv (.bool false)) q1.length 0 u_ (by omega)
    rw[List.take_zero,show eF []=[] from rfl,show TM.one i64 []=[] from rfl,jF,jZ,show ((0:Nat):Int)=0 from rfl]at e
    simp (disch:=omega) only[go_sem,e]
    simp only[TM.one,eF,rB]
  | some p =>
    simp only at h18 ⊢
    simp (disch:=omega) only[t51,go_sem,aC h18]
theorem tY {c:Bool}{x n:Nat}(h:c=true→128≤x):128≤(if c=true then (x,n) else (65533,1)).1:=by
 cases c with
 | false=>exact (by decide:128≤65533)
 | true=>exact h rfl
theorem bHe (a:UInt8)(r:List UInt8)(h:128≤a.toNat):128≤(D (a::r)).1:=by
 have ha:=bl a
 by_cases h1:a.toNat<194
 ·rw[aOo a r (.inl ⟨h,h1⟩)]; decide
 by_cases h2:a.toNat<224
 ·rw[aHj a r ⟨by omega,h2⟩]
  split
  ·split
   ·simp only; omega
   ·decide
  ·decide
 by_cases h3:a.toNat<240
 ·rw[jN a r ⟨by omega,h3⟩]
  split
  ·rename_i b c t
   have hb:=bl b
   by_cases e:a.toNat=224
   ·simp only[e,↓reduceIte]
    refine tY fun hc=>?_
    simp only[Bool.and_eq_true,decide_eq_true_eq]at hc
    rw[if_neg (by decide)]at hc
    omega
   ·simp only[e,↓reduceIte]
    generalize (if a.toNat=237 then 159 else 191)=z
    exact tY fun _=>by omega
  ·decide
 by_cases h4:a.toNat<245
 ·rw[jG a r ⟨by omega,h4⟩]
  split
  ·rename_i b c d t
   have hb:=bl b
   by_cases e:a.toNat=240
   ·simp only[e,↓reduceIte]
    refine tY fun hc=>?_
    simp only[Bool.and_eq_true,decide_eq_true_eq]at hc
    rw[if_neg (by decide)]at hc
    omega
   ·simp only[e,↓reduceIte]
    generalize (if a.toNat=244 then 143 else 191)=z
    exact tY fun _=>by omega
  ·decide
 ·rw[aOo a r (.inr (by omega))]; decide
def iN (a:UInt8):Bool:=decide (48≤a.toNat∧a.toNat≤57)
theorem bJ6 (a:UInt8)(r:List UInt8):(iN a=true→D (a::r)=(a.toNat,1))∧(iN a=false→(D (a::r)).1<48∨57<(D (a::r)).1):=by
 unfold iN
 constructor
 ·intro h
  simp only[decide_eq_true_eq]at h
  exact rJ a r (by omega)
 ·intro h
  simp only[decide_eq_false_iff_not]at h
  by_cases h1:a.toNat<128
  ·rw[rJ a r h1]; simp only; omega
  ·have:=bHe a r (by omega); omega
theorem aOy (c:Int)(S:aA):(lim K).call 150 [.iv (.int .i32 c)] S=.ret (.iv (.bool (decide (c<48)||decide (57<c))),S):=by
 refine aB K S (fn:=t150) rfl rfl ?_
 by_cases h1:c<48
 ·simp (disch:=omega) only[t150,go_sem,Bool.true_or]
 ·by_cases h2:57<c
  ·simp (disch:=omega) only[t150,go_sem,Bool.false_or]
  ·simp (disch:=omega) only[t150,go_sem,Bool.false_or]
theorem zS {l:List UInt8}{i:Nat}(h:i<l.length):l.drop i=l.getD i 0::l.drop (i+1):=by
 rw[List.drop_eq_getElem_cons h,List.getD_eq_getElem?_getD,List.getElem?_eq_getElem h]; rfl
theorem aOz (s:List UInt8)(hs:s.length≤2000000):∀(k i:Nat) (x3:Int) (x4 x5 x7 x8 x9:TV),i+k=s.length →
  ∃j r y4 y5 y7 y8 y9 S',(j=.ret∧0≤r∧(s.drop i).all iN=false∨j=.exit 0∧r=x3∧(s.drop i).all iN=true) ∧
   lp' (lim K) t191L0 [.iv (.str s),.fn 150 [] [],.iv (.bool true),.iv (.int .i64 x3),x4,x5,.it 0,x7,x8,x9] [.sit s i]=.ret (j,[.iv (.str s),.fn 150 [] [],.iv (.bool true),.iv (.int .i64 r),y4,y5,.it 0,y7,y8,y9],S')
 | 0,i,x3,x4,x5,x7,x8,x9,h=>by
  refine⟨.exit 0,x3,?_,?_,?_,?_,?_,?_,.inr ⟨rfl,rfl,by rw[List.drop_eq_nil_of_le (by omega)]; rfl⟩,aH K _ _ t191L0.eq_1 ?_⟩
  rotate_left 6
  ·simp (disch:=omega) only[go_sem]
   rfl
 | k+1,i,x3,x4,x5,x7,x8,x9,h=>by
  have hla:i<s.length:=by omega
  have hde:=aC7 s i hla
  rw[zS hla]at hde
  obtain⟨hd1,hd2⟩:=bJ6 (s.getD i 0) (s.drop (i+1))
  have hdr:=zS hla
  generalize s.getD i 0=a at *
  cases hb:iN a with
  | true =>
   rw[hd1 hb]at hde
   have hb':=hb
   unfold iN at hb'
   simp only[decide_eq_true_eq]at hb'
   obtain⟨j,r,y4,y5,y7,y8,y9,S',hj,ih⟩:=aOz s hs k (i+1) x3 (.iv (.int .i64 i)) (.iv (.int .i32 a.toNat)) (.tup [.iv (.bool true),.iv (.int .i64 i),.iv (.int .i32 a.toNat)]) (.iv (.bool true)) (.iv (.bool false)) (by omega)
   refine⟨j,r,y4,y5,y7,y8,y9,S',?_,aH K _ _ t191L0.eq_1 ?_⟩
   ·rw[hdr,List.all_cons,hb,Bool.true_and]; exact hj
   ·simp (disch:=omega) only[go_sem,hla,hde,aOy,Bool.or_false]
    exact congrArg er ih
  | false =>
   have hb2:=hd2 hb
   generalize D (a::s.drop (i+1))=d at *
   refine⟨.ret,(i:Int),?_,?_,?_,?_,?_,?_,.inl ⟨rfl,by omega,by rw[hdr,List.all_cons,hb,Bool.false_and]⟩,aH K _ _ t191L0.eq_1 ?_⟩
   rotate_left 6
   ·have hor:(decide ((d.1:Int)<48)||decide (57<(d.1:Int)))=true:=by simp; omega
    simp (disch:=omega) only[go_sem,hla,hde,aOy,hor]
    rfl
theorem bCt (s:List UInt8)(hs:s.length≤2000000):∃r S',(0≤r↔s.all iN=false)∧(lim K).call 191 [.iv (.str s),.fn 150 [] [],.iv (.bool true)] []=.ret (.iv (.int .i64 r),S'):=by
 obtain⟨j,r,y4,y5,y7,y8,y9,S',hj,ih⟩:=aOz s hs s.length 0 0 u_ u_ u_ u_ u_ (by omega)
 rw[List.drop_zero]at hj
 rcases hj with⟨rfl,hr,ha⟩|⟨rfl,hr,ha⟩
 ·refine⟨r,S',by simp[hr,ha],aB K _ (fn:=t191) rfl rfl ?_⟩
  simp (disch:=omega) only[t191,go_sem]
  rw[ih]
  simp (disch:=omega) only[go_sem]
 ·refine⟨-1,S',by simp[ha],aB K _ (fn:=t191) rfl rfl ?_⟩
  simp (disch:=omega) only[t191,go_sem]
  rw[ih]
  simp (disch:=omega) only[go_sem]
theorem bCu (s:List UInt8)(hs:s.length≤2000000):∃S',(lim K).call 149 [.iv (.str s),.fn 150 [] []] []=.ret (.iv (.bool (!s.all iN)),S'):=by
 obtain⟨r,S',hr,ih⟩:=bCt s hs
 have h171:(lim K).call 171 [.iv (.str s),.fn 150 [] []] []=.ret (.iv (.int .i64 r),S'):=by
  refine aB K _ (fn:=t171) rfl rfl ?_
  simp (disch:=omega) only[t171,go_sem,ih]
 refine⟨S',aB K _ (fn:=t149) rfl rfl ?_⟩
 cases ha:s.all iN with
 | true =>
  have:¬0≤r:=fun h=>by rw[hr,ha]at h; cases h
  simp (disch:=omega) only[t149,go_sem,h171,Bool.not_true]
 | false =>
  have:0≤r:=hr.2 ha
  simp (disch:=omega) only[t149,go_sem,h171,Bool.not_false]
theorem bHf (c:UInt8)(r:List UInt8)(k:IntKind):aEg (.iv (.str (c::r))) (.iv (.int k 0))=some (.iv (.int .u8 c.toNat)):=by
 have:=qZ (s:=c::r) (i:=0) (kd:=k) (by simp)
 simpa using this
def mA:List UInt8→List UInt8
 | a::r=>if a.toNat=45 then r else a::r
 | []=>[]
theorem bCv (s:List UInt8)(hs:s.length≤2000000)(S:aA):(lim K).call 148 [.iv (.str s),.iv (.str [45])] S=.ret (.iv (.str (mA s)),S):=by
 have h190:(lim K).call 190 [.iv (.str s),.iv (.str [45])] []=.ret (.iv (.bool (match s with|a::_=>decide (a.toNat=45)|[]=>false)),[]):=by
  refine aB K _ (fn:=t190) rfl rfl ?_
  cases s with
  | nil=>simp (disch:=omega) only[t190,go_sem,List.length_nil,List.length_cons]
  | cons a r =>
   have hl:(a::r).length=r.length+1:=rfl
   have h1:=aG1 [] (s:=a::r) (b:=((1:Nat):Int)) (by rw[hl]; omega)
   rw[show (((1:Nat):Int)).toNat=1 from rfl,show (a::r).take 1=[a] from rfl]at h1
   have h2:([a]==[(45:UInt8)])=decide (a.toNat=45):=by
    rw[Bool.eq_iff_iff]
    simp only[beq_iff_eq,List.cons.injEq,and_true,decide_eq_true_eq]
    constructor
    ·rintro rfl; rfl
    ·intro h; exact UInt8.toNat_inj.1 h
   simp (disch:=omega) only[t190,go_sem,hl,List.length_nil,List.length_cons,h1,h2]
 have h170:(lim K).call 170 [.iv (.str s),.iv (.str [45])] []=.ret (.iv (.str (mA s)),[]):=by
  refine aB K _ (fn:=t170) rfl rfl ?_
  cases s with
  | nil=>simp (disch:=omega) only[t170,go_sem,h190,mA]
  | cons a r =>
   have hl:(a::r).length=r.length+1:=rfl
   have h1:=vM [] (s:=a::r) (a:=((1:Nat):Int)) (by rw[hl]; omega)
   rw[show (((1:Nat):Int)).toNat=1 from rfl,show (a::r).drop 1=r from rfl]at h1
   by_cases ha:a.toNat=45
   ·simp (disch:=omega) only[t170,go_sem,h190,mA,ha,List.length_nil,List.length_cons,h1]
   ·simp (disch:=omega) only[t170,go_sem,h190,mA,ha,List.length_nil,List.length_cons,h1]
 refine aB K _ (fn:=t148) rfl rfl ?_
 simp (disch:=omega) only[t148,go_sem,h170]
theorem aVz (s:List UInt8):(mA s).length≤s.length:=by
 cases s with
 | nil=>simp[mA]
 | cons a r=>simp only[mA]; split<;>simp
def aKt (s:List UInt8):Bool :=
 match mA s with
 | []=>false
 | a::r=>if a.toNat=48∧s≠[48] then false else (a::r).all iN
theorem bCw (s:List UInt8)(hs:s.length≤2000000):Pure K 116 [.iv (.str s)] (.iv (.bool (aKt s))):=by
 have h1:=bCv s hs []
 have h2:=aVz s
 unfold aKt
 cases ht:mA s with
 | nil =>
  rw[ht]at h1
  refine aR (S:=[]) (aB K _ (fn:=t116) rfl rfl ?_) (by rw[aN])
  simp (disch:=omega) only[t116,go_sem,h1]
 | cons a r =>
  rw[ht]at h1 h2
  obtain⟨S',h3⟩:=bCu (a::r) (by omega)
  have h4:=bHf a r .i64
  have h5:((a::r)==([]:List UInt8))=false:=rfl
  by_cases ha:a.toNat=48
  ·by_cases hz:s=[48]
   ·have h6:(s==[(48:UInt8)])=true:=by simp[hz]
    refine aR (S:=S') (r:=.iv (.bool ((a::r).all iN))) (aB K _ (fn:=t116) rfl rfl ?_) (by rw[aN]; simp[ha,hz])
    simp (disch:=omega) only[t116,go_sem,h1,h3,h4,h5,h6,ha,Bool.not_not,Bool.not_true]
   ·have h6:(s==[(48:UInt8)])=false:=by simp[hz]
    refine aR (S:=[]) (r:=.iv (.bool false)) (aB K _ (fn:=t116) rfl rfl ?_) (by rw[aN]; simp[ha,hz])
    simp (disch:=omega) only[t116,go_sem,h1,h3,h4,h5,h6,ha,Bool.not_not,Bool.not_false]
  ·refine aR (S:=S') (r:=.iv (.bool ((a::r).all iN))) (aB K _ (fn:=t116) rfl rfl ?_) (by rw[aN]; simp[ha])
   simp (disch:=omega) only[t116,go_sem,h1,h3,h4,h5,Bool.not_not]
end Go.Proofs.YtookmpaholmmfaaGreatDoor
