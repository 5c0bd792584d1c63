/- Some texts of the proof, joined. Condition: none. -/
import Derived.Test.YtageemgcnoblnaaDoorTmProg
import Derived.Test.YtageemgcnoblnaaDoorTmE
import Derived.Test.YtageemgcnoblnaaDoorRows
import Derived.Test.YtageemgcnoblnaaDoorTmF
set_option maxRecDepth 100000
set_option maxHeartbeats 64000000
set_option linter.unusedSimpArgs false
set_option linter.unusedVariables false
namespace Go.Proofs.YtageemgcnoblnaaDoor
open Go Go.TM
abbrev z_ : TV := .iv (.bool false)
abbrev e_ : TV := .iv (.bool true)
abbrev k_ : TV := .iv (.sl .nil [])
abbrev M_ : Type := List (List IV)
abbrev j_ (n : Int) : TV := .iv (.int .i64 n)
theorem q_ : (∀ b : Bool, (true || b) = true) ∧ (∀ b : Bool, (b || true) = true) ∧ (∀ b : Bool, (false || b) = b) ∧ (∀ b : Bool, (b || false) = b) ∧ (∀ b : Bool, (true && b) = b) ∧ (∀ b : Bool, (false && b) = false) ∧ (∀ b : Bool, (b && true) = b) ∧ (∀ b : Bool, (b && false) = false) ∧ (!true) = false ∧ (!false) = true := ⟨Bool.true_or, Bool.or_true, Bool.false_or, Bool.or_false, Bool.true_and, Bool.false_and, Bool.and_true, Bool.and_false, rfl, rfl⟩
theorem b_ {α β : Type _} {x : Option α} {f : α -> Option β} {b : β} (h : x.bind f = some b) : ∃ a, x = some a ∧ f a = some b := Option.bind_eq_some_iff.1 h
theorem n_ {α : Type _} : (∀ a b : List α, (a ++ b).length = a.length + b.length) ∧ (∀(x : α) (a : List α), (x :: a).length = a.length + 1) ∧ ([] : List α).length = 0 := ⟨fun _ _ => List.length_append, fun _ _ => List.length_cons, List.length_nil⟩
theorem n0_ : ((0 : Nat) : Int) = 0 := rfl
abbrev u_:TV:=.tup []
attribute [go_sem] TM.undef
attribute [go_sem] beq_self_eq_true bJv bJw ifT ifF eqT eqF neT neF sS TM.dL aH2 List.replicate List.cons_append List.nil_append decide_true decide_false
attribute [go_sem] Nat.reduceAdd Nat.reduceSub Nat.reduceMul Nat.reduceLT Nat.reduceLeDiff Nat.reduceEqDiff Nat.reduceBEq reduceIte reduceCtorEq Int.reduceEq Int.reduceLT Int.reduceLE Int.reduceAdd Int.reduceSub Int.reduceMul Int.reduceToNat Int.reduceNeg Int.reduceBEq Int.reduceBNe Int.reduceTDiv Int.reduceTMod Int.reducePow Nat.reducePow Nat.reduceDiv Nat.reduceMod Int.reduceMod Int.reduceDiv Int.reduceNe Int.reduceFDiv
inductive Dt where
 | mk (k n:Int) (t:List UInt8) (g:Tag) (ks:List Dt) (p:Int)
instance:Inhabited Dt:=⟨.mk 0 0 [] .nil [] 0⟩
def Dt.k:Dt->Int | .mk k _ _ _ _ _=>k
def Dt.n:Dt->Int | .mk _ n _ _ _ _=>n
def Dt.t:Dt->List UInt8 | .mk _ _ t _ _ _=>t
def Dt.g:Dt->Tag | .mk _ _ _ g _ _=>g
def Dt.ks:Dt->List Dt | .mk _ _ _ _ ks _=>ks
def Dt.p:Dt->Int | .mk _ _ _ _ _ p=>p
mutual
def iQ:Dt->List IV
 | .mk k n t g ks p=>[.int .i64 k,.int .i64 n,.str t,.sl g (dW ks),.int .i64 p]
def dW:List Dt->List (List IV)
 | []=>[]
 | d::ds=>iQ d::dW ds
end
mutual
def Dt.w:Dt->Nat
 | .mk _ _ t _ ks _=>t.length+Dt.ws ks+1
def Dt.ws:List Dt->Nat
 | []=>0
 | d::ds=>Dt.w d+Dt.ws ds
end
theorem nH:∀ks:List Dt,dW ks=ks.map iQ
 | []=>by rw[dW];rfl
 | d::ds=>by rw[dW,nH ds];rfl
theorem aK (ks:List Dt):(dW ks).length=ks.length:=by rw[nH,List.length_map]
theorem dO (d:Dt):iQ d=[.int .i64 d.k,.int .i64 d.n,.str d.t,.sl d.g (dW d.ks),.int .i64 d.p]:=by
 cases d;rw[iQ];rfl
theorem aVm (d:Dt):(iQ d).length=5:=by rw[dO];rfl
theorem Dt.w_eq (d:Dt):d.w=d.t.length+Dt.ws d.ks+1:=by cases d;rw[Dt.w];rfl
theorem Dt.ws_mem {d:Dt}:∀ {ks:List Dt},d∈ks->d.w<=Dt.ws ks
 | x::r,h=>by
  rw[Dt.ws]
  rcases List.mem_cons.1 h with rfl|h
  ·omega
  ·have:=Dt.ws_mem h;omega
theorem Dt.ws_len:∀ks:List Dt,ks.length<=Dt.ws ks
 | []=>by simp
 | x::r=>by
  have:=Dt.ws_len r
  have:=Dt.w_eq x
  rw[Dt.ws,List.length_cons];omega
theorem Dt.kid_lt {d x:Dt}(h:x∈d.ks):x.w<d.w:=by
 have:=Dt.ws_mem h
 rw[Dt.w_eq d];omega
theorem ixD {g:Tag}{ks:List Dt}{i:Int}(h:0<=i∧i<ks.length):indexAddrS 5 (.iv (.sl g (dW ks))) i=some (.iv (.cp (iQ (ks.getD i.toNat default)))):=by
 rw[nH]
 exact aH6 (f:=iQ) aVm h
theorem ao0 (cs:List IV):dP (.iv (.cp cs)) 0=some (.iv (.cp cs)):=by simp[dP]
theorem aoS (x:IV)(cs:List IV)(n:Nat):dP (.iv (.cp (x::cs))) (n+1)=dP (.iv (.cp cs)) n:=by simp[dP]
theorem jV (env:Env)(S:aA)(d:Dt):bL env S (.iv (.cp (iQ d))) 5=some [j_ d.k,j_ d.n,.iv (.str d.t),.iv (.sl d.g (dW d.ks)),j_ d.p]:=by
 rw[dO];rfl
theorem fP {α:Type}[Inhabited α]{l:List α}{i:Nat}(h:i<l.length):l.drop i=l.getD i default::l.drop (i+1):=by
 rw[List.drop_eq_getElem_cons h,List.getD_eq_getElem?_getD,List.getElem?_eq_getElem h];rfl
theorem gD {α:Type}[Inhabited α]{l:List α}{i:Nat}(h:i<l.length):l.getD i default∈l:=by
 rw[List.getD_eq_getElem?_getD,List.getElem?_eq_getElem h];exact List.getElem_mem h
inductive Ex where
 | mk (k n:Int) (gv:Tag) (vs:List Int) (r:Bool) (g:Tag) (ks:List Ex)
instance:Inhabited Ex:=⟨.mk 0 0 .nil [] false .nil []⟩
def Ex.k:Ex->Int | .mk k _ _ _ _ _ _=>k
def Ex.n:Ex->Int | .mk _ n _ _ _ _ _=>n
def Ex.gv:Ex->Tag | .mk _ _ gv _ _ _ _=>gv
def Ex.vs:Ex->List Int | .mk _ _ _ vs _ _ _=>vs
def Ex.r:Ex->Bool | .mk _ _ _ _ r _ _=>r
def Ex.g:Ex->Tag | .mk _ _ _ _ _ g _=>g
def Ex.ks:Ex->List Ex | .mk _ _ _ _ _ _ ks=>ks
mutual
def cD:Ex->List IV
 | .mk k n gv vs r g ks=>[.int .i64 k,.int .i64 n,.sl gv (TM.one (.int .i64) vs),.bool r,.sl g (bW ks)]
def bW:List Ex->List (List IV)
 | []=>[]
 | d::ds=>cD d::bW ds
end
mutual
def Ex.w:Ex->Nat
 | .mk _ _ _ vs _ _ ks=>vs.length+Ex.ws ks+1
def Ex.ws:List Ex->Nat
 | []=>0
 | d::ds=>Ex.w d+Ex.ws ds
end
theorem eF:∀ks:List Ex,bW ks=ks.map cD
 | []=>by rw[bW];rfl
 | d::ds=>by rw[bW,eF ds];rfl
theorem aG (ks:List Ex):(bW ks).length=ks.length:=by rw[eF,List.length_map]
theorem aL (d:Ex):cD d=[.int .i64 d.k,.int .i64 d.n,.sl d.gv (TM.one (.int .i64) d.vs),.bool d.r,.sl d.g (bW d.ks)]:=by
 cases d;rw[cD];rfl
theorem nM (d:Ex):(cD d).length=5:=by rw[aL];rfl
theorem Ex.w_eq (d:Ex):d.w=d.vs.length+Ex.ws d.ks+1:=by cases d;rw[Ex.w];rfl
theorem Ex.ws_mem {d:Ex}:∀ {ks:List Ex},d∈ks->d.w<=Ex.ws ks
 | x::r,h=>by
  rw[Ex.ws]
  rcases List.mem_cons.1 h with rfl|h
  ·omega
  ·have:=Ex.ws_mem h;omega
theorem Ex.ws_len:∀ks:List Ex,ks.length<=Ex.ws ks
 | []=>by simp
 | x::r=>by
  have:=Ex.ws_len r
  have:=Ex.w_eq x
  rw[Ex.ws,List.length_cons];omega
theorem Ex.kid_lt {d x:Ex}(h:x∈d.ks):x.w<d.w:=by
 have:=Ex.ws_mem h
 rw[Ex.w_eq d];omega
theorem ixE {g:Tag}{ks:List Ex}{i:Int}(h:0<=i∧i<ks.length):indexAddrS 5 (.iv (.sl g (bW ks))) i=some (.iv (.cp (cD (ks.getD i.toNat default)))):=by
 rw[eF]
 exact aH6 (f:=cD) nM h
theorem mP (env:Env)(S:aA)(d:Ex):bL env S (.iv (.cp (cD d))) 5=some [j_ d.k,j_ d.n,.iv (.sl d.gv (TM.one (.int .i64) d.vs)),.iv (.bool d.r),.iv (.sl d.g (bW d.ks))]:=by
 rw[aL];rfl
abbrev lbE (d:Ex):TV:=.lb [.iv (.int .i64 d.k),.iv (.int .i64 d.n),.iv (.sl d.gv (TM.one (.int .i64) d.vs)),.iv (.bool d.r),.iv (.sl d.g (bW d.ks))]
structure Pg where
 b:Ex
 gl:Int
 vr:Int
 gc:Tag
 cs:List Dt
def Pg.w (p:Pg):Nat:=p.b.w+Dt.ws p.cs
def dY (p:Pg):List IV:=[.int .i64 p.b.k,.int .i64 p.b.n,.sl p.b.gv (TM.one (.int .i64) p.b.vs),.bool p.b.r,.sl p.b.g (bW p.b.ks),.int .i64 p.gl,.int .i64 p.vr,.sl p.gc (dW p.cs)]
abbrev lbP (p:Pg):TV:=.lb [.iv (.int .i64 p.b.k),.iv (.int .i64 p.b.n),.iv (.sl p.b.gv (TM.one (.int .i64) p.b.vs)),.iv (.bool p.b.r),.iv (.sl p.b.g (bW p.b.ks)),.iv (.int .i64 p.gl),.iv (.int .i64 p.vr),.iv (.sl p.gc (dW p.cs))]
end Go.Proofs.YtageemgcnoblnaaDoor
namespace Go.Proofs.YtageemgcnoblnaaDoor
open Go Go.TM Go.ChangeShapes Go.WideShapes
section
variable {P:Program}{H:Type}
theorem nN {t:TypeId}{fs:Array Field}{d:DataW H}{l:List IV}(hu:P.underlying t=some (.struct fs))(h:Ty P t d l):
  ∃(ds:List (DataW H)) (ls:M_),d=.agg ds∧l=cA ls∧oW P (fs.toList.map (·.type)) ds ls:=by
 have h0:=h
 cases h with
 | bool u ht b=>rw[hu]at ht;cases ht
 | int u k ht=>rw[hu]at ht;cases ht
 | str u ht=>rw[hu]at ht;cases ht
 | nilp u e ht=>rw[hu]at ht;cases ht
 | ptr u e ht=>rw[hu]at ht;cases ht
 | nils u e ht=>rw[hu]at ht;cases ht
 | sl u e ht=>rw[hu]at ht;cases ht
 | struct u fs' ht ds ls h1 h2 h hl =>
  rw[hu]at ht;cases ht
  refine⟨ds,ls,rfl,rfl,?_⟩
  have key:∀(fs:List Field) (ds:List (DataW H)) (ls:M_),ds.length=fs.length->ls.length=fs.length->(∀(i:Nat) (f:Field) (d:DataW H) (l:List IV),fs[i]? = some f->ds[i]? = some d->ls[i]? = some l->Ty P f.type d l)->oW P (fs.map (·.type)) ds ls:=by
   intro fs
   induction fs with
   | nil =>
    intro ds ls h1 h2 _
    have e1:ds=[]:=List.eq_nil_of_length_eq_zero (by simpa using h1)
    have e2:ls=[]:=List.eq_nil_of_length_eq_zero (by simpa using h2)
    subst e1;subst e2;exact trivial
   | cons f fs ih =>
    intro ds ls h1 h2 h
    cases ds with
    | nil=>simp at h1
    | cons d ds =>
     cases ls with
     | nil=>simp at h2
     | cons l ls=>exact⟨h 0 f d l rfl rfl rfl,ih ds ls (by simpa using h1) (by simpa using h2) (fun i f' d' l' hf hd hl'=>h (i+1) f' d' l' (by simpa using hf) (by simpa using hd) (by simpa using hl'))⟩
  exact key fs.toList ds ls (by simpa using h1) (by simpa using h2) (fun i f d l hf hd hl'=>h i f d l (by simpa using hf) hd hl')
 | array u e n ht=>rw[hu]at ht;cases ht
theorem dA {t:TypeId}{ts:List TypeId}{ds:List (DataW H)}{ls:M_}(h:oW P (t::ts) ds ls):∃(d:DataW H) (l:List IV) (ds':List (DataW H)) (ls':M_),ds=d::ds'∧ls=l::ls'∧Ty P t d l∧oW P ts ds' ls':=by
 cases ds with
 | nil=>cases ls<;>exact h.elim
 | cons d ds =>
  cases ls with
  | nil=>exact h.elim
  | cons l ls=>exact⟨d,l,ds,ls,rfl,rfl,h.1,h.2⟩
theorem tB {t e:TypeId}{d:DataW H}{l:List IV}(hu:P.underlying t=some (.slice e))(h:Ty P t d l):
  ∃(tg:Tag) (ds sp:List (DataW H)) (ls:M_),(d=.slice ds sp∨d=.nil∧ds=[])∧l=[.sl tg ls]∧(tg=.nil->ls=[])∧ls.length=ds.length∧∀(i:Nat) (d:DataW H) (l:List IV),ds[i]? = some d->ls[i]? = some l->Ty P e d l:=by
 cases h with
 | bool u ht b=>rw[hu]at ht;cases ht
 | int u k ht=>rw[hu]at ht;cases ht
 | str u ht=>rw[hu]at ht;cases ht
 | nilp u e ht=>rw[hu]at ht;cases ht
 | ptr u e ht=>rw[hu]at ht;cases ht
 | nils u e ht=>exact⟨.nil,[],[],[],.inr ⟨rfl,rfl⟩,rfl,fun _=>rfl,rfl,fun i d l h=>by simp at h⟩
 | sl u e' ht ds sp ls tag htag hn hm h hl =>
  rw[hu]at ht;cases ht
  exact⟨tag,ds,sp,ls,.inl rfl,rfl,fun e=>absurd e htag,hn,h⟩
 | struct u fs ht=>rw[hu]at ht;cases ht
 | array u e n ht=>rw[hu]at ht;cases ht
theorem bCf {t:TypeId}{d:DataW H}{l:List IV}{k:IntKind}(hu:P.underlying t=some (.int k))(h:Ty P t d l):∃n,d=.lit (.int k n)∧l=[.int k n]∧k.min<=n∧n<=k.max:=by
 cases h with
 | bool u ht b=>rw[hu]at ht;cases ht
 | int u k' ht n hw =>
  rw[hu]at ht;cases ht
  simp only[Lit.wf,Bool.and_eq_true,decide_eq_true_eq]at hw
  exact⟨n,rfl,rfl,hw⟩
 | str u ht=>rw[hu]at ht;cases ht
 | nilp u e ht=>rw[hu]at ht;cases ht
 | ptr u e ht=>rw[hu]at ht;cases ht
 | nils u e ht=>rw[hu]at ht;cases ht
 | sl u e ht=>rw[hu]at ht;cases ht
 | struct u fs ht=>rw[hu]at ht;cases ht
 | array u e n ht=>rw[hu]at ht;cases ht
theorem bCg {t:TypeId}{d:DataW H}{l:List IV}(hu:P.underlying t=some .string)(h:Ty P t d l):∃s,d=.lit (.string s)∧l=[.str s]:=by
 cases h with
 | bool u ht b=>rw[hu]at ht;cases ht
 | int u k ht=>rw[hu]at ht;cases ht
 | str u ht s hs=>exact⟨s,rfl,rfl⟩
 | nilp u e ht=>rw[hu]at ht;cases ht
 | ptr u e ht=>rw[hu]at ht;cases ht
 | nils u e ht=>rw[hu]at ht;cases ht
 | sl u e ht=>rw[hu]at ht;cases ht
 | struct u fs ht=>rw[hu]at ht;cases ht
 | array u e n ht=>rw[hu]at ht;cases ht
open Rows in
theorem pX {d:DataW H}{ds sp:List (DataW H)}(h:d=.slice ds sp∨d=.nil∧ds=[]):uptoBulkAll ds+1<=uptoBulk d:=by
 rcases h with rfl|⟨rfl,rfl⟩
 ·simp only[uptoBulk];omega
 ·simp only[uptoBulk,uptoBulkAll];omega
open Rows in
theorem xK {d:DataW H}:∀ {l:List (DataW H)},d∈l->uptoBulk d<=uptoBulkAll l
 | x::r,h=>by
  simp only[uptoBulkAll]
  rcases List.mem_cons.1 h with rfl|h
  ·omega
  ·have:=xK h;omega
open Rows in
theorem vR {α:Type}{e:TypeId}{f:α->List IV}{R:α->Prop}{w:α->Nat}{ws:List α->Nat}(h0:ws []=0)(h1:∀a l,ws (a::l)=w a+ws l):
  ∀(ls:M_) (ds:List (DataW H)),(∀d∈ds,∀l,Ty P e d l->∃a,l=f a∧w a<=uptoBulk d∧R a)->ls.length=ds.length ->
  (∀(i:Nat) (d:DataW H) (l:List IV),ds[i]? = some d->ls[i]? = some l->Ty P e d l)->∃ags:List α,ls=ags.map f∧ws ags<=uptoBulkAll ds∧∀a∈ags,R a
 | [],ds,_,_,_=>⟨[],rfl,by rw[h0];omega,by simp⟩
 | l::ls,[],_,hn,_=>by simp at hn
 | l::ls,d::ds,he,hn,h=>by
  obtain⟨a,rfl,hw,ha⟩:=he d (by simp) l (h 0 d l rfl rfl)
  obtain⟨ags,rfl,hws,has⟩:=vR h0 h1 ls ds (fun d hd=>he d (by simp[hd])) (by simpa using hn) (fun i d' l' hd hl'=>h (i+1) d' l' (by simpa using hd) (by simpa using hl'))
  refine⟨a::ags,rfl,?_,?_⟩
  ·rw[h1,uptoBulkAll];omega
  ·intro x hx;rcases List.mem_cons.1 hx with rfl|hx;exact ha;exact has x hx
end
def eN (n:Int):Prop:=-9223372036854775808<=n∧n<=9223372036854775807
mutual
def Dt.ok:Dt->Prop
 | .mk k n t g ks p=>eN k∧eN n∧eN p∧dN g ks∧Dt.oks ks
def Dt.oks:List Dt->Prop
 | []=>True
 | d::ds=>Dt.ok d∧Dt.oks ds
end
mutual
def Ex.ok:Ex->Prop
 | .mk k n gv vs r g ks=>eN k∧eN n∧dN gv vs∧(∀v∈vs,eN v)∧dN g ks∧Ex.oks ks
def Ex.oks:List Ex->Prop
 | []=>True
 | d::ds=>Ex.ok d∧Ex.oks ds
end
theorem Dt.oks_iff:∀ {ks:List Dt},Dt.oks ks↔∀x∈ks,x.ok
 | []=>by simp[Dt.oks]
 | d::ds=>by rw[Dt.oks,Dt.oks_iff];simp
theorem Ex.oks_iff:∀ {ks:List Ex},Ex.oks ks↔∀x∈ks,x.ok
 | []=>by simp[Ex.oks]
 | d::ds=>by rw[Ex.oks,Ex.oks_iff];simp
theorem Dt.ok_eq (d:Dt):d.ok↔eN d.k∧eN d.n∧eN d.p∧dN d.g d.ks∧∀x∈d.ks,x.ok:=by
 cases d;rw[Dt.ok,Dt.oks_iff];rfl
theorem Ex.ok_eq (d:Ex):d.ok↔eN d.k∧eN d.n∧dN d.gv d.vs∧(∀v∈d.vs,eN v)∧dN d.g d.ks∧∀x∈d.ks,x.ok:=by
 cases d;rw[Ex.ok,Ex.oks_iff];rfl
def Pg.ok (p:Pg):Prop:=p.b.ok∧eN p.gl∧eN p.vr∧dN p.gc p.cs∧∀x∈p.cs,x.ok
theorem bCh {n:Int}(h:IntKind.i64.min<=n∧n<=IntKind.i64.max):eN n:=by
 obtain⟨h1,h2⟩:=h
 simp[IntKind.min,IntKind.max,IntKind.signed,IntKind.bits]at h1 h2
 unfold eN;omega
theorem aAn {tg:Tag}{α β:Type}{f:α->β}{l:List α}(h:tg=.nil->l.map f=[]):dN tg l:=fun e=>by simpa using h e
section
variable {H:Type}
open Rows
theorem tyI {d:DataW H}{l:List IV}(h:Ty Tryd.prog 3 d l):∃n,l=[.int .i64 n]∧uptoBulk d=1∧eN n:=by
 obtain⟨n,rfl,rfl,hr⟩:=bCf Tryd.underlying3 h
 exact⟨n,rfl,by simp[uptoBulk],bCh hr⟩
theorem bL9 {d:DataW H}{l:List IV}(h:Ty Tryd.prog 22 d l):∃(tg:Tag) (vs:List Int),l=[.sl tg (TM.one (.int .i64) vs)]∧dN tg vs∧vs.length+1<=uptoBulk d∧∀v∈vs,eN v:=by
 obtain⟨tg,ds,sp,ls,hd,rfl,ht,hn,hl⟩:=tB Tryd.underlying22 h
 obtain⟨vs,rfl,hw,hr⟩:=vR (f:=fun n=>[.int .i64 n]) (R:=eN) (w:=fun _:Int=>1) (ws:=List.length) rfl (fun a l=>by simp;omega) ls ds (fun d hd l h=>by
  obtain⟨n,rfl,hb,hr⟩:=tyI h
  exact⟨n,rfl,by omega,hr⟩) hn hl
 have:=pX hd
 exact⟨tg,vs,rfl,aAn ht,by omega,hr⟩
theorem bGl:∀(n:Nat) (d:DataW H) (l:List IV),uptoBulk d<=n->Ty Tryd.prog 51 d l->∃x:Dt,l=iQ x∧x.w<=uptoBulk d∧x.ok
 | 0,d,l,hb,h=>by
  obtain⟨ds,ls,rfl,rfl,hh⟩:=nN Tryd.underlying51 h
  simp only[uptoBulk]at hb;omega
 | n+1,d,l,hb,h=>by
  obtain⟨ds,ls,rfl,rfl,hh00⟩:=nN Tryd.underlying51 h
  have hh0:oW Tryd.prog [3,3,9,26,3] ds ls:=hh00
  obtain⟨d0,l0,ds,ls,rfl,rfl,h0,hh1⟩:=dA hh0
  obtain⟨d1,l1,ds,ls,rfl,rfl,h1,hh2⟩:=dA hh1
  obtain⟨d2,l2,ds,ls,rfl,rfl,h2,hh3⟩:=dA hh2
  obtain⟨d3,l3,ds,ls,rfl,rfl,h3,hh4⟩:=dA hh3
  obtain⟨d4,l4,ds,ls,rfl,rfl,h4,hh5⟩:=dA hh4
  obtain rfl:=oB hh5
  rw[tZ hh5]
  simp only[uptoBulk,uptoBulkAll]at hb
  obtain⟨k,rfl,b0,r0⟩:=tyI h0
  obtain⟨m,rfl,b1,r1⟩:=tyI h1
  obtain⟨s,rfl,rfl⟩:=bCg Tryd.underlying9 h2
  obtain⟨tg,es,sp,ls,hd,rfl,ht,hn,hl⟩:=tB Tryd.underlying26 h3
  obtain⟨p,rfl,b4,r4⟩:=tyI h4
  have hs:=pX hd
  obtain⟨ks,rfl,hw,hr⟩:=vR (f:=iQ) (R:=Dt.ok) (w:=Dt.w) (ws:=Dt.ws) (by rw[Dt.ws]) (fun a l=>by rw[Dt.ws]) ls es (fun d hd l h=>by
   have:=xK hd
   exact bGl n d l (by omega) h) hn hl
  refine⟨.mk k m s tg ks p,?_,?_,?_⟩
  ·rw[iQ,nH];rfl
  ·rw[Dt.w];simp only[uptoBulk,uptoBulkAll];omega
  ·rw[Dt.ok_eq];exact⟨r0,r1,r4,aAn ht,hr⟩
theorem tyB {d:DataW H}{l:List IV}(h:Ty Tryd.prog 4 d l):∃b,l=[.bool b]:=bF3 Tryd.underlying4 h
theorem bGm:∀(n:Nat) (d:DataW H) (l:List IV),uptoBulk d<=n->Ty Tryd.prog 25 d l->∃x:Ex,l=cD x∧x.w<=uptoBulk d∧x.ok
 | 0,d,l,hb,h=>by
  obtain⟨ds,ls,rfl,rfl,hh⟩:=nN Tryd.underlying25 h
  simp only[uptoBulk]at hb;omega
 | n+1,d,l,hb,h=>by
  obtain⟨ds,ls,rfl,rfl,hh00⟩:=nN Tryd.underlying25 h
  have hh0:oW Tryd.prog [3,3,22,4,23] ds ls:=hh00
  obtain⟨d0,l0,ds,ls,rfl,rfl,h0,hh1⟩:=dA hh0
  obtain⟨d1,l1,ds,ls,rfl,rfl,h1,hh2⟩:=dA hh1
  obtain⟨d2,l2,ds,ls,rfl,rfl,h2,hh3⟩:=dA hh2
  obtain⟨d3,l3,ds,ls,rfl,rfl,h3,hh4⟩:=dA hh3
  obtain⟨d4,l4,ds,ls,rfl,rfl,h4,hh5⟩:=dA hh4
  obtain rfl:=oB hh5
  rw[tZ hh5]
  simp only[uptoBulk,uptoBulkAll]at hb
  obtain⟨k,rfl,b0,r0⟩:=tyI h0
  obtain⟨m,rfl,b1,r1⟩:=tyI h1
  obtain⟨tv,vs,rfl,htv,b2,r2⟩:=bL9 h2
  obtain⟨r,rfl⟩:=tyB h3
  obtain⟨tg,es,sp,ls,hd,rfl,ht,hn,hl⟩:=tB Tryd.underlying23 h4
  have hs:=pX hd
  obtain⟨ks,rfl,hw,hr⟩:=vR (f:=cD) (R:=Ex.ok) (w:=Ex.w) (ws:=Ex.ws) (by rw[Ex.ws]) (fun a l=>by rw[Ex.ws]) ls es (fun d hd l h=>by
   have:=xK hd
   exact bGm n d l (by omega) h) hn hl
  refine⟨.mk k m tv vs r tg ks,?_,?_,?_⟩
  ·rw[cD,eF];rfl
  ·rw[Ex.w];simp only[uptoBulk,uptoBulkAll];omega
  ·rw[Ex.ok_eq];exact⟨r0,r1,htv,r2,aAn ht,hr⟩
theorem bKj {d:DataW H}{l:List IV}(h:Ty Tryd.prog 28 d l):∃x:Pg,l=dY x∧x.w<=uptoBulk d∧x.ok:=by
 obtain⟨ds,ls,rfl,rfl,hh00⟩:=nN Tryd.underlying28 h
 have hh0:oW Tryd.prog [25,3,3,26] ds ls:=hh00
 obtain⟨d0,l0,ds,ls,rfl,rfl,h0,hh1⟩:=dA hh0
 obtain⟨d1,l1,ds,ls,rfl,rfl,h1,hh2⟩:=dA hh1
 obtain⟨d2,l2,ds,ls,rfl,rfl,h2,hh3⟩:=dA hh2
 obtain⟨d3,l3,ds,ls,rfl,rfl,h3,hh4⟩:=dA hh3
 obtain rfl:=oB hh4
 rw[tZ hh4]
 obtain⟨b,rfl,b0,r0⟩:=bGm _ _ _ (Nat.le_refl _) h0
 obtain⟨gl,rfl,b1,r1⟩:=tyI h1
 obtain⟨vr,rfl,b2,r2⟩:=tyI h2
 obtain⟨tg,es,sp,ls,hd,rfl,ht,hn,hl⟩:=tB Tryd.underlying26 h3
 have hs:=pX hd
 obtain⟨ks,rfl,hw,hr⟩:=vR (f:=iQ) (R:=Dt.ok) (w:=Dt.w) (ws:=Dt.ws) (by rw[Dt.ws]) (fun a l=>by rw[Dt.ws]) ls es (fun d hd l h=>bGl _ d l (Nat.le_refl _) h) hn hl
 refine⟨⟨b,gl,vr,tg,ks⟩,?_,?_,?_⟩
 ·rw[dY,aL,nH];rfl
 ·unfold Pg.w;simp only[uptoBulk,uptoBulkAll];omega
 ·exact⟨r0,r1,r2,aAn ht,hr⟩
end
end Go.Proofs.YtageemgcnoblnaaDoor
namespace Go.Proofs.YtageemgcnoblnaaDoor
open Go Go.TM
attribute [go_sem] List.length_set
mutual
def bG4 (f:Ex->List Int):Ex->List Int
 | .mk k n gv vs r g ks=>f (.mk k n gv vs r g ks)++aIb f ks
def aIb (f:Ex->List Int):List Ex->List Int
 | []=>[]
 | d::ds=>bG4 f d++aIb f ds
end
structure AM (S:aA) (ib im:Nat) (B:List Int) (m:Nat):Prop where
 ne:ib≠im
 box:S[ib]? = some (.cells 87 false [.map im])
 map:∃l c,S[im]? = some (.mp (mpR oC l) c)∧bB6 l c∧l.length<=m∧∀v,xH l v=true↔v∈B
def bG5 (e:Ex):List Int:=if e.k=7 then e.vs else []
structure bMa (l B:List Int):Prop where
 inc:l.Pairwise (·<·)
 mem:∀v,v∈l↔v∈B
structure Mk where
 fs:List (List IV)
 nv:Int
def cG (l:List (List IV)):List TV:=(TM.cA l).map .iv
def mkB (jf:Nat)(σ:Mk):aP:=.cells 64 false [.msl jf (σ.fs.length-1) 0 σ.fs.length σ.fs.length 11,.iv (.int .i64 σ.nv)]
structure MkS (S:aA) (jm jf:Nat) (σ:Mk):Prop where
 own:S[jm]? = some (mkB jf σ)
 row:S[jf]? = some (.cells (σ.fs.length-1) true (cG σ.fs))
 ne:σ.fs≠[]
 wid:∀f∈σ.fs,f.length=11∧f.all fY=true
 ok:0<=σ.nv∧σ.nv<=4611686018427387904∧σ.fs.length<=1000000
theorem MkS.jne {S:aA}{jm jf:Nat}{σ:Mk}(h:MkS S jm jf σ):jm≠jf:=by
 rintro rfl
 have a:=h.own
 rw[h.row]at a
 unfold mkB at a
 simp at a
theorem MkS.keep {S S':aA}{jm jf:Nat}{σ:Mk}{I:List Nat}(h:MkS S jm jf σ)(k:aJ I S S')(h1:jm∉I)(h2:jf∉I):MkS S' jm jf σ :=
 ⟨k.get _ _ h1 h.own,k.get _ _ h2 h.row,h.ne,h.wid,h.ok⟩
def Mk.var (σ:Mk):Mk:=⟨σ.fs,σ.nv+1⟩
def Mk.push (σ:Mk)(f:List IV):Mk:=⟨σ.fs++[f],σ.nv⟩
theorem rG {S:aA}{jm jf:Nat}{σ:Mk}(h:MkS S jm jf σ):(lim K).call 21 [.ptr jm 64 0] S=.ret (j_ σ.nv,S.set jm (mkB jf σ.var)):=by
 have h1:=h.own
 have h2:=aO h1
 have h3:=h.ok
 have e1:=fun b=>bQ h2 b
 unfold mkB Mk.var at *
 generalize σ.fs.length=n at *
 refine aB K _ (fn:=t21) rfl rfl ?_
 simp (disch:=omega) only[t21,go_sem,h1,e1,aH,Int.add_sub_cancel]
theorem MkS.var {S:aA}{jm jf:Nat}{σ:Mk}(h:MkS S jm jf σ)(hv:σ.nv<4611686018427387904):MkS (S.set jm (mkB jf σ.var)) jm jf σ.var :=
 ⟨bQ (aO h.own) _,by rw[aU h.jne];exact h.row,h.ne,h.wid,by have:=h.ok;show 0<=σ.nv+1∧σ.nv+1<=_∧σ.fs.length<=_;omega⟩
theorem aA7 {l:M_}(h:∀f∈l,f.length=11):(cG l).length=l.length*11:=by
 unfold cG
 rw[List.length_map]
 induction l with
 | nil=>rfl
 | cons a r ih =>
  rw[show TM.cA (a::r)=a++TM.cA r from rfl,List.length_append,h a (by simp),ih (fun f hf=>h f (by simp[hf])),List.length_cons]
  omega
theorem yR (l:M_)(f:List IV):cG (l++[f])=cG l++f.map .iv:=by
 unfold cG
 induction l with
 | nil=>simp[TM.cA]
 | cons a r ih =>
  rw[List.cons_append,show TM.cA (a::(r++[f]))=a++TM.cA (r++[f]) from rfl,show TM.cA (a::r)=a++TM.cA r from rfl,List.map_append,ih,List.map_append,List.append_assoc]
theorem bG6 {S:aA}{jm jf:Nat}{σ:Mk}(h:MkS S jm jf σ){f:List IV}(hf:f.length=11)(hc:f.all fY=true):
  bY true 11 144 47 S (.msl jf (σ.fs.length-1) 0 σ.fs.length σ.fs.length 11) (.iv (.sl .full [f]))=some (.msl jf σ.fs.length 0 (σ.fs.length+1) (σ.fs.length+1) 11,S.set jf (.cells σ.fs.length true (cG (σ.fs++[f])))):=by
 have hr:=h.row
 have hn:0<σ.fs.length:=List.length_pos_iff.2 h.ne
 have hs:sub (cG σ.fs) 0 (σ.fs.length*11)=some (cG σ.fs):=aH9 (aA7 fun f hf=>(h.wid f hf).1)
 have hro:fZ (σ.fs.length+1) 144=true:=cI (by have:=h.ok;omega)
 have hx:iR S (.iv (.sl .full [f]))=some (f.map .iv):=by
  show some ((TM.cA [f]).map TV.iv)=_
  rw[show TM.cA [f]=f from List.append_nil f]
 have hl:lenOf S (.iv (.sl .full [f]))=some 1:=rfl
 have ha:=tX hc
 rw[yR]
 generalize cG σ.fs=cs at *
 generalize σ.fs.length=n at *
 simp[bY,hx,hl,hr,ha,hf,hs,hro,show ¬n+1<=n by omega,show n-1+1=n by omega]
theorem xL {S:aA}{jm jf:Nat}{σ:Mk}(h:MkS S jm jf σ)(f0 f1 f2 f3 f4 f5 f6 f7 f8 f9 f10:IV)(hf:[f0,f1,f2,f3,f4,f5,f6,f7,f8,f9,f10].all fY=true):(lim K).call 20 [.ptr jm 64 0,.iv (.agg [f0,f1,f2,f3,f4,f5,f6,f7,f8,f9,f10])] S=.ret (j_ σ.fs.length,(S.set jf (.cells σ.fs.length true (cG (σ.fs++[[f0,f1,f2,f3,f4,f5,f6,f7,f8,f9,f10]])))).set jm (mkB jf (σ.push [f0,f1,f2,f3,f4,f5,f6,f7,f8,f9,f10]))):=by
 have ap:=bG6 h (f:=[f0,f1,f2,f3,f4,f5,f6,f7,f8,f9,f10]) rfl hf
 have h1:=h.own
 have hne:=h.jne
 have h2:=aO h1
 have h3:=h.ok
 have g1:∀b,(S.set jf b)[jm]? = S[jm]? := fun b=>aU (Ne.symm hne) b
 have g2:∀b c,((S.set jf b).set jm c)[jm]? = some c:=fun b c=>bQ (by simpa using h2) c
 have hl:(σ.push [f0,f1,f2,f3,f4,f5,f6,f7,f8,f9,f10]).fs.length=σ.fs.length+1:=by simp[Mk.push]
 unfold mkB at *
 rw[hl,Nat.add_sub_cancel,show(σ.push [f0,f1,f2,f3,f4,f5,f6,f7,f8,f9,f10]).nv=σ.nv from rfl]
 generalize σ.fs.length=n at *
 have e1:((n+1:Nat):Int)-1=n:=by omega
 have hr:=tX hf
 simp only[List.map_cons,List.map_nil,List.any_cons,List.any_nil,Bool.or_eq_false_iff]at hr
 obtain⟨r0,r1,r2,r3,r4,r5,r6,r7,r8,r9,r10,_⟩:=hr
 refine aB K _ (fn:=t20) rfl rfl ?_
 simp (disch:=omega) only[t20,go_sem,h1,ap,g1,g2,aH,e1,r0,r1,r2,r3,r4,r5,r6,r7,r8,r9,r10,Bool.or_self,Bool.false_eq_true]
theorem MkS.push {S:aA}{jm jf:Nat}{σ:Mk}(h:MkS S jm jf σ){f:List IV}(hf:f.length=11)(hc:f.all fY=true)(hn:σ.fs.length<1000000):MkS ((S.set jf (.cells σ.fs.length true (cG (σ.fs++[f])))).set jm (mkB jf (σ.push f))) jm jf (σ.push f):=by
 have hl:(σ.push f).fs.length-1=σ.fs.length:=by simp[Mk.push]
 refine⟨bQ (by simpa using aO h.own) _,?_,by simp[Mk.push],fun g hg=>?_,?_⟩
 ·rw[aU h.jne,hl,bQ (aO h.row)]
  rfl
 ·rcases List.mem_append.1 hg with hg|hg
  ·exact h.wid g hg
  ·rw[List.mem_singleton]at hg;subst hg;exact⟨hf,hc⟩
 ·have:=h.ok
  show 0<=σ.nv∧σ.nv<=_∧(σ.fs++[f]).length<=_
  rw[List.length_append,List.length_singleton];omega
theorem jA {S:aA}{jm jf:Nat}(b:aP):aJ [jm,jf] S (S.set jm b):=aJ.set S (by simp) b
theorem tC {S:aA}{jm jf:Nat}(b c:aP):aJ [jm,jf] S ((S.set jf b).set jm c):=(aJ.set S (by simp) b).trans (aJ.set _ (by simp) c)
theorem mJ (v:Int):TM.Pure K 25 [j_ v] (.iv (.agg [.int .i64 1,.int .i64 v])):=by
 refine eM t25 rfl rfl ?_
 simp (disch:=omega) only[t25,go_sem]
def oG (v f:Int):List IV:=[.int .i64 0,.int .i64 2,.int .i64 v,.int .i64 0,.int .i64 0,.int .i64 f,.sl .nil [],.sl .nil [],.int .i64 0,.int .i64 0,.sl .nil [],.bool false,.sl .nil [],.int .i64 v]
theorem aFx {S:aA}{jm jf:Nat}{σ:Mk}(h:MkS S jm jf σ)(f:Int):(lim K).call 22 [.ptr jm 64 0,j_ f] S=.ret (.tup [.iv (.agg (oG σ.nv f)),j_ σ.nv],S.set jm (mkB jf σ.var)):=by
 have c21:=rG h
 unfold oG
 refine aB K _ (fn:=t22) rfl rfl ?_
 simp (disch:=omega) only[t22,go_sem,c21]
inductive St where
 | tm (t:List IV) (to:Int)
 | rs (e:Ex) (to:Int)
def zT:List IV:=[.int .i64 0,.int .i64 0,.int .i64 0,.int .i64 0,.int .i64 0,.sl .nil [],.sl .nil []]
def encZ:St->List IV
 | .tm t to=>.int .i64 0::(t++[.int .i64 0,.int .i64 0,.sl .nil [],.bool false,.sl .nil [],.int .i64 to])
 | .rs e to=>.int .i64 1::(zT++(cD e++[.int .i64 to]))
def aV (v:Int):List IV:=[.int .i64 1,.int .i64 v]
def aC (n:Int):List IV:=[.int .i64 2,.int .i64 n]
def bX (v f:Int)(ks:IV):List IV:=[.int .i64 2,.int .i64 v,.int .i64 0,.int .i64 0,.int .i64 f,.sl .nil [],ks]
def kR (v op n:Int)(ats:List (List IV)):List IV:=[.int .i64 1,.int .i64 v,.int .i64 op,.int .i64 n,.int .i64 0,.sl (nG ats) ats,.sl .nil []]
def cU (t:Tag)(ats:List (List IV)):List IV:=[.int .i64 4,.int .i64 0,.int .i64 0,.int .i64 0,.int .i64 0,.sl t ats,.sl .nil []]
def eD (ats:List (List IV)):List IV:=[.int .i64 6,.int .i64 0,.int .i64 0,.int .i64 0,.int .i64 0,.sl .full ats,.sl .nil []]
def ifT (a t1 t2:List IV):List IV:=[.int .i64 3,.int .i64 0,.int .i64 0,.int .i64 0,.int .i64 0,.sl .full [a],.sl .full [t1,t2]]
def fnF (tg:Tag)(ps:List Int)(rest cont:Bool)(body:List IV):List IV:=.sl tg (TM.one (.int .i64) ps)::.bool rest::.bool cont::.sl .nil []::body
def rH (vs:List Int):Tag:=match vs with
 | []=>.full
 | _=>.no
def opX (e:Ex):Int:=if e.k=12 then 100 else if e.k=13 then 101 else if e.k=14 then 102 else if e.k=3 then 103 else if e.k=5 then 104 else e.n
def opN (e:Ex):Int:=if e.k=12 then 0 else if e.k=13 then 0 else if e.k=14 then 0 else if e.k=3∨e.k=5 then e.n else 0
mutual
def dQ:Nat->Ex->Mk->Option (List St×List IV×Mk)
 | 0,_,_=>none
 | n+1,e,σ =>
  if e.k=1 then some ([],aC e.n,σ)
  else if e.k=2 then some ([],aV e.n,σ)
  else if e.k=7 then(eO n e σ).bind fun x=>some ([.tm (bX x.2.nv x.1 (.sl .nil [])) x.2.nv],aV x.2.nv,x.2.var)
  else if e.k=10∧e.ks.length<=64 then(bP n e.ks σ).bind fun x=>(x.2.1.getLast?).bind fun a=>some (x.1,a,x.2.2)
  else if e.k=10∨e.k=8∨e.k=6∨e.k=11 then some ([.rs e σ.nv],aV σ.nv,σ.var)
  else(bP n e.ks σ).bind fun x=>some (x.1++[.tm (kR x.2.2.nv (opX e) (opN e) x.2.1) x.2.2.nv],aV x.2.2.nv,x.2.2.var)
def bP:Nat->List Ex->Mk->Option (List St×List (List IV)×Mk)
 | 0,_,_=>none
 | n+1,[],σ=>some ([],[],σ)
 | n+1,e::l,σ=>(dQ n e σ).bind fun x=>(bP n l x.2.2).bind fun y=>some (x.1++y.1,x.2.1::y.2.1,y.2.2)
def eO:Nat->Ex->Mk->Option (Int×Mk)
 | 0,_,_=>none
 | n+1,e,σ=>match e.ks with
  | []=>none
  | b::_=>(dR n b (aV σ.nv) σ.var).bind fun x=>some ((x.2.fs.length:Int),x.2.push (fnF (rH e.vs) (σ.nv::e.vs) e.r false x.1))
def bN:Nat->List St->List IV->Mk->Option (List IV×Mk)
 | 0,_,_,_=>none
 | n+1,[],t,σ=>some (t,σ)
 | n+1,.tm c _::l,t,σ=>bN n l (c.set 6 (.sl .full [t])) σ
 | n+1,.rs e to::l,t,σ=>(dR n e (aV σ.nv) (σ.push (fnF .full [to] false true t)).var).bind fun x=>bN n l (bX σ.nv σ.fs.length (.sl .full [x.1])) x.2
def dR:Nat->Ex->List IV->Mk->Option (List IV×Mk)
 | 0,_,_,_=>none
 | n+1,e,k,σ =>
  if e.k=8 then(bP n e.ks σ).bind fun x=>match x.2.1 with
   | []=>none
   | a::r=>bN n x.1.reverse (cU .no (a::k::r)) x.2.2
  else if e.k=6 then match e.ks with
   | c::p::q::_=>(dQ n c σ).bind fun x=>(dR n p k x.2.2).bind fun y=>(dR n q k y.2).bind fun z=>bN n x.1.reverse (ifT x.2.1 y.1 z.1) z.2
   | _=>none
  else if e.k=10 then jT n e.ks k σ
  else if e.k=11 then nO n e k σ
  else(dQ n e σ).bind fun x=>bN n x.1.reverse (cU .full [k,x.2.1]) x.2.2
def nO:Nat->Ex->List IV->Mk->Option (List IV×Mk)
 | 0,_,_,_=>none
 | n+1,e,k,σ=>(bP n e.ks σ).bind fun x =>
  if e.n=1 then match x.2.1 with
   | a::b::_=>bN n x.1.reverse (eD [a,k,b]) x.2.2
   | _=>none
  else if e.n=0 then match x.2.1 with
   | a::_=>bN n (x.1++[St.tm (bX (x.2.2.nv+2) x.2.2.fs.length (.sl .nil [])) (x.2.2.nv+2)]).reverse (cU .full [a,k,aV (x.2.2.nv+2)]) (x.2.2.var.var.push (fnF .full [x.2.2.nv,x.2.2.nv+1] true false (eD [k,aV (x.2.2.nv+1)]))).var
   | _=>none
  else match x.2.1 with
   | a::b::_=>bN n (x.1++[St.tm (bX (x.2.2.nv+1) x.2.2.fs.length (.sl .nil [])) (x.2.2.nv+1)]).reverse (cU .full [a,aV (x.2.2.nv+1)]) (x.2.2.var.push (fnF .full [x.2.2.nv] true true (eD [b,k,aV x.2.2.nv]))).var
   | _=>none
def jT:Nat->List Ex->List IV->Mk->Option (List IV×Mk)
 | 0,_,_,_=>none
 | n+1,l,k,σ=>match l.getLast? with
  | none=>none
  | some z=>(bP n ((l.take (l.length-1)).drop (64*((l.length-1) / 64))) σ).bind fun x=>(dR n z k x.2.2).bind fun y=>(bN n x.1.reverse y.1 y.2).bind fun w=>cK n ((l.length-1) / 64) l w.1 w.2
def cK:Nat->Nat->List Ex->List IV->Mk->Option (List IV×Mk)
 | 0,_,_,_,_=>none
 | n+1,0,_,t,σ=>some (t,σ)
 | n+1,i+1,l,t,σ=>(bP n ((l.drop (64*i)).take 64) (σ.var.push (fnF .full [σ.nv] true true t)).var).bind fun x =>
  (bN n (St.tm (bX (σ.nv+1) σ.fs.length (.sl .nil [])) (σ.nv+1)::x.1).reverse (cU .full [aV (σ.nv+1)]) x.2.2).bind fun w=>cK n i l w.1 w.2
end
structure Le (σ τ:Mk):Prop where
 nv:σ.nv<=τ.nv
 fs:∃r,τ.fs=σ.fs++r
theorem Le.refl (σ:Mk):Le σ σ:=⟨Int.le_refl _,[],by simp⟩
theorem Le.trans {a b c:Mk}(h:Le a b)(g:Le b c):Le a c:=by
 obtain⟨r,hr⟩:=h.fs
 obtain⟨s,hs⟩:=g.fs
 exact⟨Int.le_trans h.nv g.nv,r++s,by rw[hs,hr,List.append_assoc]⟩
theorem Le.var (σ:Mk):Le σ σ.var:=⟨by show σ.nv<=σ.nv+1;omega,[],by simp[Mk.var]⟩
theorem Le.push (σ:Mk)(f:List IV):Le σ (σ.push f):=⟨Int.le_refl _,[f],rfl⟩
theorem Le.len {σ τ:Mk}(h:Le σ τ):σ.fs.length<=τ.fs.length:=by
 obtain⟨r,hr⟩:=h.fs
 rw[hr,List.length_append];omega
structure bMb (n:Nat):Prop where
 value:∀ {e σ x},dQ n e σ=some x->Le σ x.2.2
 values:∀ {l σ x},bP n l σ=some x->Le σ x.2.2
 lam:∀ {e σ x},eO n e σ=some x->Le σ x.2
 laid:∀ {l t σ x},bN n l t σ=some x->Le σ x.2
 code:∀ {e k σ x},dR n e k σ=some x->Le σ x.2
 ctl:∀ {e k σ x},nO n e k σ=some x->Le σ x.2
 sq:∀ {l k σ x},jT n l k σ=some x->Le σ x.2
 parts:∀ {i l t σ x},cK n i l t σ=some x->Le σ x.2
theorem mono:∀n,bMb n
 | 0=>⟨fun h=>by simp[dQ]at h,fun h=>by simp[bP]at h,fun h=>by simp[eO]at h,fun h=>by simp[bN]at h,fun h=>by simp[dR]at h,fun h=>by simp[nO]at h,fun h=>by simp[jT]at h,fun h=>by simp[cK]at h⟩
 | n+1=>by
  have m:=mono n
  refine⟨?_,?_,?_,?_,?_,?_,?_,?_⟩
  ·intro e σ x h
   rw[dQ]at h
   split at h
   ·cases h;exact Le.refl _
   ·split at h
    ·cases h;exact Le.refl _
    ·split at h
     ·obtain⟨y,hy,h⟩:=b_ h
      cases h;exact(m.lam hy).trans (Le.var _)
     ·split at h
      ·obtain⟨y,hy,h⟩:=b_ h
       obtain⟨a,ha,h⟩:=b_ h
       cases h;exact m.values hy
      ·split at h
       ·cases h;exact Le.var _
       ·obtain⟨y,hy,h⟩:=b_ h
        cases h;exact(m.values hy).trans (Le.var _)
  ·intro l σ x h
   cases l with
   | nil=>rw[bP]at h;cases h;exact Le.refl _
   | cons e l =>
    rw[bP]at h
    obtain⟨y,hy,h⟩:=b_ h
    obtain⟨z,hz,h⟩:=b_ h
    cases h;exact(m.value hy).trans (m.values (x:=z) hz)
  ·intro e σ x h
   rw[eO]at h
   split at h
   ·cases h
   ·obtain⟨y,hy,h⟩:=b_ h
    cases h;exact((Le.var _).trans (m.code hy)).trans (Le.push _ _)
  ·intro l t σ x h
   cases l with
   | nil=>rw[bN]at h;cases h;exact Le.refl _
   | cons s l =>
    cases s with
    | tm c to=>rw[bN]at h;exact m.laid h
    | rs e to =>
     rw[bN]at h
     obtain⟨y,hy,h⟩:=b_ h
     exact(((Le.push _ _).trans (Le.var _)).trans (m.code hy)).trans (m.laid h)
  ·intro e k σ x h
   rw[dR]at h
   split at h
   ·obtain⟨y,hy,h⟩:=b_ h
    split at h
    ·cases h
    ·exact(m.values hy).trans (m.laid h)
   ·split at h
    ·split at h
     ·obtain⟨y,hy,h⟩:=b_ h
      obtain⟨z,hz,h⟩:=b_ h
      obtain⟨w,hw,h⟩:=b_ h
      exact(((m.value hy).trans (m.code hz)).trans (m.code hw)).trans (m.laid h)
     ·cases h
    ·split at h
     ·exact m.sq h
     ·split at h
      ·exact m.ctl h
      ·obtain⟨y,hy,h⟩:=b_ h
       exact(m.value hy).trans (m.laid h)
  ·intro e k σ x h
   rw[nO]at h
   obtain⟨y,hy,h⟩:=b_ h
   split at h
   ·split at h
    ·exact(m.values hy).trans (m.laid h)
    ·cases h
   ·split at h
    ·split at h
     ·exact(m.values hy).trans (((Le.var _).trans ((Le.var _).trans ((Le.push _ _).trans (Le.var _)))).trans (m.laid h))
     ·cases h
    ·split at h
     ·exact(m.values hy).trans (((Le.var _).trans ((Le.push _ _).trans (Le.var _))).trans (m.laid h))
     ·cases h
  ·intro l k σ x h
   rw[jT]at h
   split at h
   ·cases h
   ·obtain⟨y,hy,h⟩:=b_ h
    obtain⟨z,hz,h⟩:=b_ h
    obtain⟨w,hw,h⟩:=b_ h
    exact(((m.values hy).trans (m.code hz)).trans (m.laid hw)).trans (m.parts h)
  ·intro i l t σ x h
   cases i with
   | zero=>rw[cK]at h;cases h;exact Le.refl _
   | succ i =>
    rw[cK]at h
    obtain⟨y,hy,h⟩:=b_ h
    obtain⟨w,hw,h⟩:=b_ h
    exact((((Le.var _).trans ((Le.push _ _).trans (Le.var _))).trans (m.values hy)).trans (m.laid hw)).trans (m.parts h)
structure E7 (L:List TV) (c:List IV):Prop where
 len:L.length=7
 iv:toIVs L=some c
 ref:L.any cB=false
theorem bG7 (e:Ex)(S:aA):(lim K).call 75 [.iv (.agg (cD e))] S=.ret (.tup [j_ (opX e),j_ (opN e)],S):=by
 rw[aL]
 unfold opX opN
 refine aB K _ (fn:=t75) rfl rfl ?_
 by_cases h1:e.k=12
 ·rw[if_pos h1,if_pos h1]
  simp (disch:=omega) only[t75,go_sem]
 ·by_cases h2:e.k=13
  ·rw[if_neg h1,if_neg h1,if_pos h2,if_pos h2]
   simp (disch:=omega) only[t75,go_sem]
  ·by_cases h3:e.k=14
   ·rw[if_neg h1,if_neg h1,if_neg h2,if_neg h2,if_pos h3,if_pos h3]
    simp (disch:=omega) only[t75,go_sem]
   ·by_cases h4:e.k=3
    ·rw[if_neg h1,if_neg h1,if_neg h2,if_neg h2,if_neg h3,if_neg h3,if_pos h4,if_pos (.inl h4)]
     simp (disch:=omega) only[t75,go_sem]
    ·by_cases h5:e.k=5
     ·rw[if_neg h1,if_neg h1,if_neg h2,if_neg h2,if_neg h3,if_neg h3,if_neg h4,if_pos h5,if_pos (.inr h5)]
      simp (disch:=omega) only[t75,go_sem]
     ·rw[if_neg h1,if_neg h1,if_neg h2,if_neg h2,if_neg h3,if_neg h3,if_neg h4,if_neg h5,if_neg (by omega)]
      simp (disch:=omega) only[t75,go_sem]
theorem bG8 {S:aA}{jm jf:Nat}{σ:Mk}(h:MkS S jm jf σ)(e:Ex):(lim K).call 74 [.ptr jm 64 0,.iv (.agg (cD e))] S=.ret (.tup [.iv (.sl .full [encZ (.rs e σ.nv)]),.iv (.agg (aV σ.nv))],S.set jm (mkB jf σ.var)):=by
 have c21:=rG h
 have c25:=mJ σ.nv
 rw[show encZ (.rs e σ.nv)=.int .i64 1::(zT++(cD e++[.int .i64 σ.nv])) from rfl,aL]
 unfold zT aV
 refine aB K _ (fn:=t74) rfl rfl ?_
 simp (disch:=omega) only[t74,go_sem,c21,aF c25]
theorem bG9 (S:aA)(j:Nat){l:M_}(hl:l≠[]):(lim K).call 46 [acc j l] S=.ret (.iv (.agg (cU .no l)),S):=by
 rw[dE _ hl]
 unfold cU
 refine aB K _ (fn:=t46) rfl rfl ?_
 simp (disch:=omega) only[t46,go_sem]
theorem aAo (S:aA)(l:M_):(lim K).call 46 [.iv (.sl .full l)] S=.ret (.iv (.agg (cU .full l)),S):=by
 unfold cU
 refine aB K _ (fn:=t46) rfl rfl ?_
 simp (disch:=omega) only[t46,go_sem]
theorem aLq (S:aA)(l:M_):(lim K).call 77 [.iv (.sl .full l)] S=.ret (.iv (.agg (eD l)),S):=by
 unfold eD
 refine aB K _ (fn:=t77) rfl rfl ?_
 simp (disch:=omega) only[t77,go_sem]
theorem bCi {S:aA}{j:Nat}{B:aP}(h:S[j]? = some B):S.set j B=S:=by
 obtain⟨hlt,he⟩:=List.getElem?_eq_some_iff.1 h
 rw[<-he,List.set_getElem_self]
theorem bMc {S:aA}{j:Nat}{l ys:M_}{t:Tag}(h:S[j]? = some (.tok l.length 2 53))(hl:l.length+ys.length<=2000000)(he:cO 2 l)(hy:cO 2 ys):bY false 2 16 53 S (.tsl j l) (.iv (.sl t ys))=some (.tsl j (l++ys),S.set j (.tok (l.length+ys.length) 2 53)) :=
 aDm (b:=16) (hP.sl ..) hy he h (cI (by omega))
theorem bHa (n:Nat)(h:0<n∧n<=2000000)(S:aA):(lim K).call 72 [k_,j_ n] S=.ret (.tsl S.length [],S++[.tok 0 2 53]):=by
 have hr:fZ n 16=true:=cI (by omega)
 have hn:¬(n:Int)<=0:=by omega
 have hg:vA 2 16 53 S k_ (n:Int)=some (.rsv S.length [] n,S++[.tok 0 2 53]):=by
  simp[vA,iE,hr,hn,Int.toNat_natCast,show ¬n=0 by omega]
 have h0:∀n:Int,n-(0-((0:Nat):Int))=n:=fun n=>by omega
 have e1:aZe (aBv k_)=some (j_ 0):=id rfl
 have e2:∀S:aA,cH S (.sl 2) k_ none (some 0) none=some k_:=fun S=>rfl
 have e3:∀(S:aA) (i n:Nat),cH S (.sl 2) (.rsv i [] n) none (some 0) none=some (.tsl i []):=fun S i n=>rfl
 have e4:∀(S:aA) (i n:Nat),cH S (.sl 2) (.rsv i [] n) none (some ((0:Nat):Int)) none=some (.tsl i []):=fun S i n=>rfl
 refine aB K S (fn:=t72) rfl rfl ?_
 simp (disch:=omega) only[t72,go_sem,e1,e2,e3,e4,aH,h0,fun env=>bJ5 (env:=env) hg]
def xM (p:Tag×List (List IV)):List IV:=[.sl p.1 (p.2)]
def rI:List (Tag×List (List IV))->Nat
 | []=>0
 | p::r=>p.2.length+rI r
def aDs:List (Tag×List (List IV))->List (List IV)
 | []=>[]
 | p::r=>p.2++aDs r
theorem aIc:∀E:List (Tag×M_),(aDs E).length=rI E
 | []=>rfl
 | p::r=>by rw[aDs,rI,List.length_append,aIc r]
theorem bKk {E:List (Tag×M_)}{i:Nat}(h:i<E.length):∃p,E.drop i=p::E.drop (i+1)∧indexAddrS 1 (.iv (.sl .full (E.map xM))) (i:Int)=some (.iv (.cp [.sl p.1 (p.2)])):=by
 refine⟨E[i],List.drop_eq_getElem_cons h,?_⟩
 refine sT (by omega) ?_ rfl
 rw[Int.toNat_natCast,List.getElem?_map,List.getElem?_eq_getElem h]
 rfl
theorem aO8 (E:List (Tag×M_))(hE:E.length<=10)(x1 x4 x5 x10 x11 x12 x13 x14:TV)(S:aA):∀(k i z:Nat) (x3 x9 x10':TV),i+k=E.length->z+rI (E.drop i)<=2000000 ->
  ∃y3 y9 y10:TV,lp' (lim K) t47L1 [.iv (.sl .full (E.map xM)),x1,j_ z,x3,x4,x5,.iv (.sl .full (E.map xM)),j_ E.length,j_ i,x9,x10',x11,x12,x13,x14] S
   = .ret (.exit 0,[.iv (.sl .full (E.map xM)),x1,j_ (z+rI (E.drop i):Nat),y3,x4,x5,.iv (.sl .full (E.map xM)),j_ E.length,j_ E.length,y9,y10,x11,x12,x13,x14],S)
 | 0,i,z,x3,x9,x10',h,hz=>by
  obtain rfl:i=E.length:=by omega
  rw[List.drop_length,rI,Nat.add_zero]
  refine⟨x3,z_,x10',aI K _ _ t47L1.eq_1 ?_⟩
  simp (disch:=omega) only[go_sem]
 | k+1,i,z,x3,x9,x10',h,hz=>by
  have hla:i<E.length:=by omega
  obtain⟨p,hdr,hix⟩:=bKk hla
  rw[hdr,rI]at hz ⊢
  obtain⟨y3,y9,y10,ih⟩:=aO8 E hE x1 x4 x5 x10 x11 x12 x13 x14 S k (i+1) (z+p.2.length) (.iv (.sl p.1 (p.2))) e_ z_ (by omega) (by omega)
  rw[show((i+1:Nat):Int)=(i:Int)+1 by omega,show((z+p.2.length:Nat):Int)=(z:Int)+(p.2.length:Int) by omega,Nat.add_assoc]at ih
  refine⟨y3,y9,y10,aI K _ _ t47L1.eq_1 ?_⟩
  simp (disch:=omega) only[go_sem,hix,aH]
  exact congrArg er ih
theorem aO9 (E:List (Tag×M_))(hE:E.length<=10)(hel:∀p∈E,cO 2 p.2)(j:Nat)(x1 x2 x3 x6 x7 x8 x9 x10:TV):∀(k i:Nat) (l:M_) (S:aA) (x5 x14:TV),i+k=E.length->cO 2 l->S[j]? = some (.tok l.length 2 53)->l.length+rI (E.drop i)<=2000000 ->
  ∃y5 y14:TV,lp' (lim K) t47L0 [.iv (.sl .full (E.map xM)),x1,x2,x3,.tsl j (l),x5,x6,x7,x8,x9,x10,.iv (.sl .full (E.map xM)),j_ E.length,j_ i,x14] S
   = .ret (.exit 2,[.iv (.sl .full (E.map xM)),x1,x2,x3,.tsl j (l++aDs (E.drop i)),y5,x6,x7,x8,x9,x10,.iv (.sl .full (E.map xM)),j_ E.length,j_ E.length,y14],S.set j (.tok (l.length+rI (E.drop i)) 2 53))
 | 0,i,l,S,x5,x14,h,hl2,hS,hz=>by
  obtain rfl:i=E.length:=by omega
  rw[List.drop_length,rI,aDs,Nat.add_zero,List.append_nil,bCi hS]
  refine⟨x5,z_,aI K _ _ t47L0.eq_1 ?_⟩
  simp (disch:=omega) only[go_sem]
 | k+1,i,l,S,x5,x14,h,hl2,hS,hz=>by
  have hla:i<E.length:=by omega
  obtain⟨p,hdr,hix⟩:=bKk hla
  rw[hdr,rI]at hz ⊢
  rw[aDs]
  have hpe:=hel p (List.mem_of_mem_drop (by rw[hdr];exact List.mem_cons_self))
  have ha:=bMc (ys:=p.2) (t:=p.1) hS (by omega) hl2 hpe
  have hl3:cO 2 (l++p.2):=fun y hy=>(List.mem_append.1 hy).elim (hl2 y) (hpe y)
  obtain⟨y5,y14,ih⟩:=aO9 E hE hel j x1 x2 x3 x6 x7 x8 x9 x10 k (i+1) (l++p.2) (S.set j (.tok (l.length+p.2.length) 2 53)) (.iv (.sl p.1 (p.2))) e_ (by omega) hl3 (by rw[bQ (aO hS),List.length_append]) (by rw[List.length_append];omega)
  rw[show((i+1:Nat):Int)=(i:Int)+1 by omega,List.set_set,List.length_append,List.append_assoc,Nat.add_assoc]at ih
  refine⟨y5,y14,aI K _ _ t47L0.eq_1 ?_⟩
  simp (disch:=omega) only[go_sem,hix,ha,aH]
  exact congrArg er ih
theorem bHb (E:List (Tag×M_))(hE:E.length<=10)(hel:∀p∈E,cO 2 p.2)(h0:0<rI E)(hz:rI E<=2000000)(S:aA):(lim K).call 47 [.iv (.sl .full (E.map xM))] S=.ret (.tsl S.length (aDs E),S++[.tok (aDs E).length 2 53]):=by
 obtain⟨y3,y9,y10,l1⟩:=aO8 E hE k_ u_ u_ u_ u_ u_ u_ u_ S E.length 0 0 u_ u_ u_ (by omega) (by simpa using hz)
 rw[List.drop_zero,Nat.zero_add,n0_]at l1
 have c67:=bHa (rI E) ⟨h0,hz⟩ S
 have hS:(S++[.tok 0 2 53])[S.length]? = some (.tok ([]:M_).length 2 53):=by simp
 obtain⟨y5,y14,l2⟩:=aO9 E hE hel S.length k_ (j_ (rI E:Nat)) y3 (.iv (.sl .full (E.map xM))) (j_ E.length) (j_ E.length) y9 y10 E.length 0 [] _ u_ u_ (by omega) (by intro y hy;cases hy) hS (by simpa using hz)
 rw[List.drop_zero,List.nil_append,n0_,List.set_append_right _ _ (Nat.le_refl _),Nat.sub_self,List.set_cons_zero,List.length_nil,Nat.zero_add]at l2
 rw[aIc]
 refine aB K S (fn:=t47) rfl rfl ?_
 have hl:(E.map xM).length=E.length:=List.length_map _
 simp (disch:=omega) only[t47,go_sem,hl]
 rw[l1]
 simp (disch:=omega) only[go_sem,c67,hl]
 rw[l2]
 simp (disch:=omega) only[go_sem]
def TmO (t:List IV):Prop:=∃(c0 c1 c2 c3 c4:Int) (t5 t6:Tag) (l5 l6:List (List IV)),t=[.int .i64 c0,.int .i64 c1,.int .i64 c2,.int .i64 c3,.int .i64 c4,.sl t5 l5,.sl t6 l6]
def AtO (a:List IV):Prop:=∃p q:Int,a=[.int .i64 p,.int .i64 q]
def XO (e:Ex):Prop:=e.ok∧e.w<=1048576
def SO:St->Prop
 | .tm t _=>TmO t
 | .rs e _=>XO e
theorem XO.kid {e x:Ex}(h:XO e)(hx:x∈e.ks):XO x:=⟨((Ex.ok_eq e).1 h.1).2.2.2.2.2 x hx,by have:=Ex.kid_lt hx;have:=h.2;omega⟩
theorem TmO.fun (v f:Int)(t:Tag)(l:M_):TmO (bX v f (.sl t l)):=⟨_,_,_,_,_,_,_,_,_,rfl⟩
theorem TmO.prim (v op n:Int)(l:M_):TmO (kR v op n l):=⟨_,_,_,_,_,_,_,_,_,rfl⟩
theorem TmO.call (t:Tag)(l:M_):TmO (cU t l):=⟨_,_,_,_,_,_,_,_,_,rfl⟩
theorem TmO.appl (l:M_):TmO (eD l):=⟨_,_,_,_,_,_,_,_,_,rfl⟩
theorem TmO.if (a p q:List IV):TmO (ifT a p q):=⟨_,_,_,_,_,_,_,_,_,rfl⟩
theorem TmO.kids {t:List IV}(h:TmO t)(g:Tag)(l:M_):TmO (t.set 6 (.sl g l)):=by
 obtain⟨c0,c1,c2,c3,c4,t5,t6,l5,l6,rfl⟩:=h
 exact⟨_,_,_,_,_,_,_,_,_,rfl⟩
structure Sh (n:Nat):Prop where
 value:∀ {e σ x},dQ n e σ=some x->XO e->AtO x.2.1∧(∀s∈x.1,SO s)∧(x.1.length:Int)+σ.nv<=x.2.2.nv
 values:∀ {l σ x},bP n l σ=some x->(∀e∈l,XO e)->(∀a∈x.2.1,AtO a)∧(∀s∈x.1,SO s)∧(x.1.length:Int)+σ.nv<=x.2.2.nv∧x.2.1.length=l.length
 laid:∀ {l t σ x},bN n l t σ=some x->TmO t->(∀s∈l,SO s)->TmO x.1
 code:∀ {e k σ x},dR n e k σ=some x->XO e->TmO x.1
 ctl:∀ {e k σ x},nO n e k σ=some x->XO e->TmO x.1
 sq:∀ {l k σ x},jT n l k σ=some x->(∀e∈l,XO e)->TmO x.1
 parts:∀ {i l t σ x},cK n i l t σ=some x->TmO t->(∀e∈l,XO e)->TmO x.1
theorem cW:∀n,Sh n
 | 0=>⟨fun h=>by simp[dQ]at h,fun h=>by simp[bP]at h,fun h=>by simp[bN]at h,fun h=>by simp[dR]at h,fun h=>by simp[nO]at h,fun h=>by simp[jT]at h,fun h=>by simp[cK]at h⟩
 | n+1=>by
  have m:=cW n
  have mo:=mono n
  refine⟨?_,?_,?_,?_,?_,?_,?_⟩
  ·intro e σ x h ho
   rw[dQ]at h
   split at h
   ·cases h;exact⟨⟨_,_,rfl⟩,by simp,by simp⟩
   ·split at h
    ·cases h;exact⟨⟨_,_,rfl⟩,by simp,by simp⟩
    ·split at h
     ·obtain⟨y,hy,h⟩:=b_ h
      have:=(mo.lam hy).nv
      cases h
      refine⟨⟨_,_,rfl⟩,fun s hs=>?_,?_⟩
      ·rw[List.mem_singleton]at hs;subst hs;exact TmO.fun ..
      ·show((1:Nat):Int)+σ.nv<=y.2.nv+1;omega
     ·split at h
      ·obtain⟨y,hy,h⟩:=b_ h
       obtain⟨a,ha,h⟩:=b_ h
       obtain⟨h1,h2,h3,h4⟩:=m.values hy (fun x hx=>ho.kid hx)
       cases h;exact⟨h1 a (List.mem_of_getLast? ha),h2,h3⟩
      ·split at h
       ·cases h
        refine⟨⟨_,_,rfl⟩,fun s hs=>?_,?_⟩
        ·rw[List.mem_singleton]at hs;subst hs;exact ho
        ·show((1:Nat):Int)+σ.nv<=σ.nv+1;omega
       ·obtain⟨y,hy,h⟩:=b_ h
        obtain⟨h1,h2,h3,h4⟩:=m.values hy (fun x hx=>ho.kid hx)
        cases h
        refine⟨⟨_,_,rfl⟩,fun s hs=>?_,?_⟩
        ·rcases List.mem_append.1 hs with hs|hs
         ·exact h2 s hs
         ·rw[List.mem_singleton]at hs;subst hs;exact TmO.prim ..
        ·show((y.1++[_]).length:Int)+σ.nv<=y.2.2.nv+1
         rw[List.length_append,List.length_singleton];omega
  ·intro l σ x h ho
   cases l with
   | nil=>rw[bP]at h;cases h;exact⟨by simp,by simp,by simp,rfl⟩
   | cons e l =>
    rw[bP]at h
    obtain⟨y,hy,h⟩:=b_ h
    obtain⟨z,hz,h⟩:=b_ h
    obtain⟨h1,h2,h3⟩:=m.value hy (ho e (by simp))
    obtain⟨g1,g2,g3,g4⟩:=m.values hz (fun x hx=>ho x (by simp[hx]))
    cases h
    refine⟨fun a ha=>?_,fun s hs=>?_,?_,?_⟩
    ·rcases List.mem_cons.1 ha with rfl|ha
     ·exact h1
     ·exact g1 a ha
    ·rcases List.mem_append.1 hs with hs|hs
     ·exact h2 s hs
     ·exact g2 s hs
    ·show((y.1++z.1).length:Int)+σ.nv<=z.2.2.nv
     rw[List.length_append];omega
    ·show(y.2.1::z.2.1).length=_
     rw[List.length_cons,List.length_cons,g4]
  ·intro l t σ x h ht ho
   cases l with
   | nil=>rw[bN]at h;cases h;exact ht
   | cons s l =>
    cases s with
    | tm c to=>rw[bN]at h;exact m.laid h (TmO.kids (show TmO c from ho (St.tm c to) (by simp)) _ _) (fun s hs=>ho s (by simp[hs]))
    | rs e to =>
     rw[bN]at h
     obtain⟨y,hy,h⟩:=b_ h
     exact m.laid h (TmO.fun ..) (fun s hs=>ho s (by simp[hs]))
  ·intro e k σ x h ho
   rw[dR]at h
   split at h
   ·obtain⟨y,hy,h⟩:=b_ h
    obtain⟨h1,h2,h3,h4⟩:=m.values hy (fun x hx=>ho.kid hx)
    split at h
    ·cases h
    ·exact m.laid h (TmO.call ..) (fun s hs=>h2 s (List.mem_reverse.1 hs))
   ·split at h
    ·split at h
     ·rename_i c p q r hks
      obtain⟨y,hy,h⟩:=b_ h
      obtain⟨z,hz,h⟩:=b_ h
      obtain⟨w,hw,h⟩:=b_ h
      obtain⟨h1,h2,h3⟩:=m.value hy (ho.kid (by rw[hks];simp))
      exact m.laid h (TmO.if ..) (fun s hs=>h2 s (List.mem_reverse.1 hs))
     ·cases h
    ·split at h
     ·exact m.sq h (fun x hx=>ho.kid hx)
     ·split at h
      ·exact m.ctl h ho
      ·obtain⟨y,hy,h⟩:=b_ h
       obtain⟨h1,h2,h3⟩:=m.value hy ho
       exact m.laid h (TmO.call ..) (fun s hs=>h2 s (List.mem_reverse.1 hs))
  ·intro e k σ x h ho
   rw[nO]at h
   obtain⟨y,hy,h⟩:=b_ h
   obtain⟨h1,h2,h3,h4⟩:=m.values hy (fun x hx=>ho.kid hx)
   have h5:∀(v f:Int) (s:St),s∈(y.1++[St.tm (bX v f (.sl .nil [])) v]).reverse->SO s:=fun v f s hs=>by
    rcases List.mem_append.1 (List.mem_reverse.1 hs)with hs|hs
    ·exact h2 s hs
    ·rw[List.mem_singleton]at hs;subst hs;exact TmO.fun ..
   split at h
   ·split at h
    ·exact m.laid h (TmO.appl ..) (fun s hs=>h2 s (List.mem_reverse.1 hs))
    ·cases h
   ·split at h
    ·split at h
     ·exact m.laid h (TmO.call ..) (h5 _ _)
     ·cases h
    ·split at h
     ·exact m.laid h (TmO.call ..) (h5 _ _)
     ·cases h
  ·intro l k σ x h ho
   rw[jT]at h
   split at h
   ·cases h
   ·rename_i z hz'
    obtain⟨y,hy,h⟩:=b_ h
    obtain⟨z,hz,h⟩:=b_ h
    obtain⟨w,hw,h⟩:=b_ h
    obtain⟨h1,h2,h3,h4⟩:=m.values hy (fun x hx=>ho x (List.mem_of_mem_take (List.mem_of_mem_drop hx)))
    exact m.parts h (m.laid hw (m.code hz (ho _ (List.mem_of_getLast? hz'))) (fun s hs=>h2 s (List.mem_reverse.1 hs))) ho
  ·intro i l t σ x h ht ho
   cases i with
   | zero=>rw[cK]at h;cases h;exact ht
   | succ i =>
    rw[cK]at h
    obtain⟨y,hy,h⟩:=b_ h
    obtain⟨w,hw,h⟩:=b_ h
    obtain⟨h1,h2,h3,h4⟩:=m.values hy (fun x hx=>ho x (List.mem_of_mem_drop (List.mem_of_mem_take hx)))
    refine m.parts h (m.laid hw (TmO.call ..) fun s hs=>?_) ho
    rcases List.mem_cons.1 (List.mem_reverse.1 hs)with rfl|hs
    ·exact TmO.fun ..
    ·exact h2 s hs
theorem aId (i:Nat)(l:M_):cellsOf (acc i l)=[acc i l]:=by unfold acc;split<;>rfl
theorem aLr (i:Nat)(l:M_):cB (acc i l)=false:=by unfold acc;split<;>rfl
attribute [go_sem] aId aLr
structure Gl (n0:Nat) (S:aA) (w el:Nat) (l:List (List IV)) (j:Nat):Prop where
 tok:l≠[]->S[j]? = some (.tok l.length w el)
 new:l≠[]->n0<=j
theorem Gl.nil (n0:Nat)(S:aA)(w el j:Nat):Gl n0 S w el [] j:=⟨fun h=>absurd rfl h,fun h=>absurd rfl h⟩
theorem Gl.keep {n0:Nat}{S S':aA}{w el:Nat}{l:M_}{j:Nat}{I:List Nat}(h:Gl n0 S w el l j)(k:aJ I S S')(hI:∀i∈I,i<n0):Gl n0 S' w el l j :=
 ⟨fun h0=>k.get _ _ (fun hm=>by have:=hI _ hm;have:=h.new h0;omega) (h.tok h0),h.new⟩
structure aDt (n0:Nat) (S S':aA) (w el:Nat) (l ys:List (List IV)) (j j':Nat):Prop where
 gl:Gl n0 S' w el (l++ys) j'
 len:S.length<=S'.length
 old:∀q b,S[q]? = some b->(l≠[]->q≠j)->S'[q]? = some b
 same:l≠[]->j'=j
 frsh:l=[]->ys≠[]->S.length<=j'
theorem Gl.more {n0:Nat}{S:aA}{w el b:Nat}{l ys:M_}{j:Nat}{x:TV}(h:Gl n0 S w el l j)(hx:hP S x ys)(hw:cO w ys)(hl:cO w l)(hr:fZ (l.length+ys.length) b=true)(h0:n0<=S.length):
  ∃j' S',bY false w b el S (acc j l) x=some (acc j' (l++ys),S')∧aDt n0 S S' w el l ys j j':=by
 by_cases hy:ys=[]
 ·subst hy
  have hs:aMn (acc j l)=true:=by unfold acc;split<;>rfl
  refine⟨j,S,by rw[sX hs hx,List.append_nil],⟨by rw[List.append_nil];exact h,Nat.le_refl _,fun q b hq _=>hq,fun _=>rfl,fun _ h=>absurd rfl h⟩⟩
 ·by_cases hn:l=[]
  ·subst hn
   refine⟨S.length,S++[.tok ([]++ys).length w el],?_,⟨⟨fun _=>by simp,fun _=>h0⟩,by simp,fun q b hq _=>iP hq _,fun h=>absurd rfl h,fun _ _=>Nat.le_refl _⟩⟩
   rw[fG,qV (by decide) hx hw hl hy hr,dE _ (by simpa using hy)]
   simp
  ·have ht:=h.tok hn
   refine⟨j,S.set j (.tok (l++ys).length w el),?_,⟨⟨fun _=>bQ (aO ht) _,fun _=>h.new hn⟩,by simp,fun q b hq hne=>by rw[aU (Ne.symm (hne hn))];exact hq,fun _=>rfl,fun h=>absurd h hn⟩⟩
   rw[dE _ hn,aDm hx hw hl ht hr,dE _ (by simp[hn]),List.length_append]
theorem aDt.keep {n0:Nat}{S S':aA}{w el:Nat}{l ys:M_}{j j':Nat}{S0:aA}{I:List Nat}(g:aDt n0 S S' w el l ys j j')(h:Gl n0 S w el l j)(hk:aJ I S0 S)(hn:S0.length<=n0):aJ I S0 S' :=
 ⟨Nat.le_trans hk.len g.len,fun i b hi hb=>g.old _ _ (hk.get i b hi hb) fun hl=>by have:=h.new hl;have:=aO hb;omega⟩
theorem aDt.other {n0:Nat}{S S':aA}{w el w2 el2:Nat}{l ys m:M_}{j j' i:Nat}(g:aDt n0 S S' w el l ys j j')(h:Gl n0 S w2 el2 m i)(hd:l≠[]->m≠[]->j≠i):Gl n0 S' w2 el2 m i∧(l++ys≠[]->m≠[]->j'≠i):=by
 refine⟨⟨fun h0=>g.old _ _ (h.tok h0) fun hl=>Ne.symm (hd hl h0),h.new⟩,fun h1 h2=>?_⟩
 by_cases hl:l=[]
 ·have:=g.frsh hl (by intro e;rw[hl,e]at h1;exact h1 rfl)
  have:=aO (h.tok h2)
  omega
 ·rw[g.same hl];exact hd hl h2
theorem aDt.mks {n0:Nat}{S S':aA}{w el:Nat}{l ys:M_}{j j':Nat}{jm jf:Nat}{σ:Mk}(g:aDt n0 S S' w el l ys j j')(h:Gl n0 S w el l j)(m:MkS S jm jf σ)(h1:jm<n0∧jf<n0):MkS S' jm jf σ :=
 ⟨g.old _ _ m.own fun hl=>by have:=h.new hl;omega,g.old _ _ m.row fun hl=>by have:=h.new hl;omega,m.ne,m.wid,m.ok⟩
def SR (r:TV)(l:List (List IV)):Prop:=(l=[]∧r=.iv (.sl .nil []))∨(∃j,r=.tsl j l)∨r=.iv (.sl .full l)
theorem SR.acc (j:Nat)(l:M_):SR (acc j l) l:=by
 by_cases h:l=[]
 ·subst h;exact .inl ⟨rfl,fG j⟩
 ·exact .inr (.inl ⟨j,dE j h⟩)
theorem SR.el {r:TV}{l:M_}(h:SR r l)(S:aA):hP S r l:=by
 rcases h with⟨rfl,rfl⟩|⟨j,rfl⟩|rfl
 ·exact hP.sl ..
 ·exact hP.tsl ..
 ·exact hP.sl ..
def eQ (l:List St):List (List IV):=l.map encZ
theorem nP {l:List St}(h:∀s∈l,SO s):cO 14 (eQ l):=by
 intro y hy
 obtain⟨s,hs,rfl⟩:=List.mem_map.1 hy
 cases s with
 | tm t to =>
  obtain⟨c0,c1,c2,c3,c4,t5,t6,l5,l6,rfl⟩:=(show TmO t from h _ hs)
  exact⟨rfl,rfl⟩
 | rs e to =>
  rw[show encZ (.rs e to)=.int .i64 1::(zT++(cD e++[.int .i64 to])) from rfl,aL]
  exact⟨rfl,rfl⟩
theorem AtO.el {l:M_}(h:∀a∈l,AtO a):cO 2 l:=by
 intro y hy
 obtain⟨p,q,rfl⟩:=h y hy
 exact⟨rfl,rfl⟩
structure Bd (b0:Int) (σ:Mk):Prop where
 hi:σ.nv<=b0+1000000
 fs:σ.fs.length<=1000000
theorem Bd.le {b0:Int}{σ τ:Mk}(h:Bd b0 τ)(l:Le σ τ):Bd b0 σ:=⟨Int.le_trans l.nv h.hi,Nat.le_trans l.len h.fs⟩
def vS (b0:Int)(n:Nat):Prop:=∀ {e:Ex} {σ:Mk} {x:List St×List IV×Mk} {S:aA} {jm jf:Nat},dQ n e σ=some x->XO e->b0<=σ.nv->Bd b0 x.2.2->MkS S jm jf σ ->
 ∃r S',(lim K).call 48 [.ptr jm 64 0,.iv (.agg (cD e))] S=.ret (.tup [r,.iv (.agg x.2.1)],S')∧SR r (eQ x.1)∧MkS S' jm jf x.2.2∧aJ [jm,jf] S S'
def lT (b0:Int)(n:Nat):Prop:=∀ {l:List Ex} {g:Tag} {σ:Mk} {x:List St×List (List IV)×Mk} {S:aA} {jm jf:Nat},bP n l σ=some x->(∀e∈l,XO e)->l.length<=1048576->b0<=σ.nv->Bd b0 x.2.2->MkS S jm jf σ ->
 ∃js ja S',(lim K).call 45 [.ptr jm 64 0,.iv (.sl g (bW l))] S=.ret (.tup [acc js (eQ x.1),acc ja x.2.1],S')∧Gl S.length S' 14 67 (eQ x.1) js∧Gl S.length S' 2 53 x.2.1 ja∧(eQ x.1≠[]->x.2.1≠[]->js≠ja)∧MkS S' jm jf x.2.2∧aJ [jm,jf] S S'
theorem aPa (x:Int)(h:0<=x∧x<=255):∃s:List UInt8,s.length=1∧bsV (some [[.int .u8 x]])=some (.iv (.str s)):=by
 exact⟨[UInt8.ofNat x.toNat],rfl,rfl⟩
def bKl (L:Nat)(f:Nat)(args:List TV):Prop:=∃s:List UInt8,s.length<=L∧TM.Pure K f args (.iv (.str s))
theorem bGn:∀(k:Nat) (n:Int),n<10 ^ (k+1)->k<=19->eN n->bKl (k+1) 63 [j_ n]
 | k,n,h,hk,hn=>by
  by_cases h1:n<0
  ·refine⟨[45],by simp,eM t63 rfl rfl ?_⟩
   simp (disch:=omega) only[t63,go_sem]
  by_cases h9:n<10
  ·obtain⟨s,hl,hb⟩:=aPa (48+n) (by omega)
   refine⟨s,by omega,eM t63 rfl rfl ?_⟩
   simp (disch:=omega) only[t63,go_sem,aH,aA5,hb]
  match k,h,hk with
  | 0,h,hk=>omega
  | k+1,h,hk =>
   have hn':=hn
   unfold eN at hn'
   have hp:(10:Int) ^ (k+1+1)=10*10 ^ (k+1):=by rw[Int.pow_succ,Int.mul_comm]
   have d1:n.tdiv 10=n / 10:=Int.tdiv_eq_ediv_of_nonneg (by omega)
   have d2:n.tmod 10=n % 10:=Int.tmod_eq_emod_of_nonneg (by omega)
   obtain⟨s,hl,hs⟩:=bGn k (n.tdiv 10) (by rw[d1];omega) (by omega) (by unfold eN;rw[d1];omega)
   obtain⟨s2,hl2,hb⟩:=aPa (48+n.tmod 10) (by rw[d2];omega)
   have w1:IntKind.i64.wrap (n.tdiv 10)=n.tdiv 10:=aH (by rw[d1];omega)
   have w2:IntKind.i64.wrap (n.tmod 10)=n.tmod 10:=aH (by rw[d2];omega)
   have w3:IntKind.i64.wrap (48+n.tmod 10)=48+n.tmod 10:=aH (by rw[d2];omega)
   have w4:IntKind.u8.wrap (48+n.tmod 10)=48+n.tmod 10:=aA5 (by rw[d2];omega)
   refine⟨s++s2,by simp;omega,eM t63 rfl rfl ?_⟩
   simp (disch:=omega) only[t63,go_sem,w1,w2,w3,w4,aF hs,hb]
theorem aPb (n:Int)(h:eN n):bKl 20 63 [j_ n]:=bGn 19 n (by unfold eN at h;rw[show(10:Int) ^ (19+1)=100000000000000000000 from rfl];omega) (by omega) h
noncomputable def dg (n:Int):List UInt8:=open Classical in if h:eN n then(aPb n h).choose else []
theorem nQ (n:Int)(h:eN n):(dg n).length<=20∧TM.Pure K 63 [j_ n] (.iv (.str (dg n))):=by
 unfold dg
 rw[dif_pos h]
 exact(aPb n h).choose_spec
def eG (l:List Int)(v:Int):List Int:=if v∈l then l else l++[v]
def hH (v:Int):List Int->Nat
 | []=>0
 | a::r=>if a=v then 0 else hH v r+1
theorem aPc {v:Int}:∀(l:List Int) (i:Nat) (h:i<l.length),v∉l.take i->l[i]=v->hH v l=i
 | a::r,0,h,hm,he=>by
  have he':a=v:=he
  rw[hH,if_pos he']
 | a::r,i+1,h,hm,he=>by
  rw[List.take_succ_cons,List.mem_cons,not_or]at hm
  rw[hH,if_neg (fun e=>hm.1 e.symm),aPc r i (by simpa using h) hm.2 he]
theorem aFy {v:Int}:∀(l:List Int),v∉l->hH v l=l.length
 | [],_=>rfl
 | a::r,h=>by
  rw[List.mem_cons,not_or]at h
  rw[hH,if_neg (fun e=>h.1 e.symm),aFy r h.2,List.length_cons]
theorem aPd (v:Int):∀(l:List Int),hH v l<=l.length
 | []=>Nat.le_refl _
 | a::r=>by
  have:=aPd v r
  rw[hH,List.length_cons]
  split<;>omega
theorem aVn {l:List Int}(hl:l.length<=1000000000)(v:Int)(j:Nat)(x2 x3 x4:TV)(S:aA):∀(k i:Nat) (x6 x7:TV),i+k=l.length->v∉l.take i ->
  ∃y2 y3 y4 y5 y6 y7 jj,lp' (lim K) t62L0 [acc j (TM.one (.int .i64) l),j_ v,x2,x3,x4,j_ i,x6,x7] S=.ret (jj,[acc j (TM.one (.int .i64) l),j_ v,y2,y3,y4,y5,y6,y7],S) ∧
   (jj=.exit 0∧v∉l∨jj=.ret∧v∈l∧y2=acc j (TM.one (.int .i64) l)∧y3=j_ (hH v l)∧y4=e_)
 | 0,i,x6,x7,h,hm=>by
  obtain rfl:i=l.length:=by omega
  have hle:=TM.dL (.int .i64) l
  refine⟨x2,x3,x4,j_ l.length,z_,x7,.exit 0,aI K _ _ t62L0.eq_1 ?_,.inl ⟨rfl,by rw[List.take_length]at hm;exact hm⟩⟩
  simp (disch:=omega) only[go_sem,hle,oA]
 | k+1,i,x6,x7,h,hm=>by
  have hla:i<l.length:=by omega
  have hle:=TM.dL (.int .i64) l
  have hne:TM.one (.int .i64) l≠[]:=by intro e;rw[e]at hle;simp at hle;omega
  have hix:indexAddrS 1 (acc j (TM.one (.int .i64) l)) (i:Int)=some (.iv (.cp [.int .i64 l[i]])):=by
   rw[dE _ hne]
   refine kP (by omega) ?_ rfl
   rw[Int.toNat_natCast]
   unfold TM.one
   rw[List.getElem?_map,List.getElem?_eq_getElem hla]
   rfl
  by_cases hv:l[i]=v
  ·have hid:=aPc l i hla hm hv
   refine⟨acc j (TM.one (.int .i64) l),j_ i,e_,j_ i,e_,e_,.ret,aI K _ _ t62L0.eq_1 ?_,.inr ⟨rfl,by rw[<-hv];exact List.getElem_mem _,rfl,by rw[hid],rfl⟩⟩
   simp (disch:=omega) only[go_sem,hle,oA,hix,hv]
  ·obtain⟨y2,y3,y4,y5,y6,y7,jj,ih,hj⟩:=aVn hl v j x2 x3 x4 S k (i+1) e_ z_ (by omega) (by
    rw[List.take_succ_eq_append_getElem hla,List.mem_append,List.mem_singleton]
    rintro(h1|h1)
    ·exact hm h1
    ·exact hv h1.symm)
   rw[show((i+1:Nat):Int)=(i:Int)+1 by omega]at ih
   refine⟨y2,y3,y4,y5,y6,y7,jj,aI K _ _ t62L0.eq_1 ?_,hj⟩
   simp (disch:=omega) only[go_sem,hle,oA,hix,hv,aH]
   exact congrArg er ih
theorem aVo {n0:Nat}{S:aA}{j:Nat}{l:List Int}(g:Gl n0 S 1 3 (TM.one (.int .i64) l) j)(h0:n0<=S.length)(hl:l.length<1000000000)(v:Int):
  ∃j' S',(lim K).call 62 [acc j (TM.one (.int .i64) l),j_ v] S=.ret (.tup [acc j' (TM.one (.int .i64) (eG l v)),j_ (hH v l),.iv (.bool (decide (v∈l)))],S') ∧
   (v∈l->j'=j∧S'=S)∧(v∉l->aDt n0 S S' 1 3 (TM.one (.int .i64) l) [[.int .i64 v]] j j'):=by
 obtain⟨y2,y3,y4,y5,y6,y7,jj,hlp,hj⟩:=aVn (l:=l) (by omega) v j k_ (j_ 0) z_ S l.length 0 u_ u_ (by omega) (by simp)
 rw[n0_]at hlp
 have hle:=TM.dL (.int .i64) l
 unfold eG
 rcases hj with⟨rfl,hm⟩|⟨rfl,hm,rfl,rfl,rfl⟩
 ·obtain⟨j',S',ap,gr⟩:=g.more (b:=8) (hP.sl S .full [[.int .i64 v]]) (by intro y hy;simp at hy;subst hy;exact⟨rfl,rfl⟩) (cO.one (fun _=>rfl) l) (cI (by rw[hle];simp;omega)) h0
  refine⟨j',S',aB K _ (fn:=t62) rfl rfl ?_,fun h=>absurd h hm,fun _=>gr⟩
  rw[if_neg hm,decide_eq_false hm,aFy l hm]
  rw[show TM.one (.int .i64) l++[[.int .i64 v]]=TM.one (.int .i64) (l++[v]) by simp[TM.one]]at ap
  simp (disch:=omega) only[t62,go_sem]
  rw[hlp]
  simp (disch:=omega) only[go_sem,ap,oA,hle]
 ·refine⟨j,S,aB K _ (fn:=t62) rfl rfl ?_,fun _=>⟨rfl,rfl⟩,fun h=>absurd hm h⟩
  rw[if_pos hm,decide_eq_true hm]
  simp (disch:=omega) only[t62,go_sem]
  rw[hlp]
  simp (disch:=omega) only[go_sem]
def nmB (jv jf:Nat)(v f:List Int):aP:=.cells 93 false [acc jv (TM.one (.int .i64) v),acc jf (TM.one (.int .i64) f)]
structure NM (n0:Nat) (S:aA) (jx jv jf:Nat) (v f:List Int):Prop where
 own:S[jx]? = some (nmB jv jf v f)
 gv:Gl n0 S 1 3 (TM.one (.int .i64) v) jv
 gf:Gl n0 S 1 3 (TM.one (.int .i64) f) jf
 ne:TM.one (.int .i64) v≠[]->TM.one (.int .i64) f≠[]->jv≠jf
 lt:jx<n0
 lv:v.length<=1000000000
 lf:f.length<=1000000000
theorem lU (l:List Int)(v:Int):(eG l v).length<=l.length+1∧l.length<=(eG l v).length:=by
 unfold eG
 split
 ·omega
 ·rw[List.length_append,List.length_singleton];omega
theorem aIe (l:List Int)(v:Int):TM.one (.int .i64) l++[[IV.int .i64 v]]=TM.one (.int .i64) (l++[v]):=by simp[TM.one]
theorem Gl.set {n0:Nat}{S:aA}{w el:Nat}{l:M_}{j i:Nat}{b:aP}(h:Gl n0 S w el l j)(hi:i<n0):Gl n0 (S.set i b) w el l j :=
 ⟨fun h0=>by rw[aU (by have:=h.new h0;omega)];exact h.tok h0,h.new⟩
theorem aFz {n0:Nat}{S0 S:aA}{jx jv jf:Nat}{v f:List Int}(h:NM n0 S jx jv jf v f)(h0:S0.length=n0)(hk:aJ [jx] S0 S)(x:Int)(hl:v.length<1000000000):
  ∃jv' S',(lim K).call 64 [.ptr jx 93 0,j_ x] S=.ret (.iv (.str (dg (hH x v))),S')∧NM n0 S' jx jv' jf (eG v x) f∧aJ [jx] S0 S':=by
 obtain⟨j',S1,c62,hm,hg⟩:=aVo h.gv (by have:=hk.len;omega) hl x
 have ho:=h.own
 have hp:=aPd x v
 obtain⟨_,c63⟩:=nQ (hH x v) (by unfold eN;omega)
 have hlt:=h.lt
 by_cases hv:x∈v
 ·obtain⟨rfl,rfl⟩:=hm hv
  have e1:eG v x=v:=by unfold eG;rw[if_pos hv]
  rw[e1]at c62 ⊢
  have es:=fun b=>bQ (aO ho) b
  refine⟨j',S1.set jx (nmB j' jf v f),aB K _ (fn:=t64) rfl rfl ?_,⟨bQ (aO ho) _,h.gv.set hlt,h.gf.set hlt,h.ne,hlt,h.lv,h.lf⟩,hk.trans (aJ.set _ (by simp) _)⟩
  unfold nmB at *
  simp (disch:=omega) only[t64,go_sem,ho,c62,es,aF c63]
 ·have g:=hg hv
  have e1:eG v x=v++[x]:=by unfold eG;rw[if_neg hv]
  rw[e1]at c62 ⊢
  have o1:S1[jx]? = some (nmB jv jf v f):=g.old _ _ ho fun hl=>by have:=h.gv.new hl;omega
  have es:=fun b=>bQ (aO o1) b
  obtain⟨gf1,hd⟩:=g.other h.gf h.ne
  have gl:=g.gl
  rw[aIe]at gl hd
  have k1:=g.keep h.gv hk (by omega)
  refine⟨j',S1.set jx (nmB j' jf (v++[x]) f),aB K _ (fn:=t64) rfl rfl ?_,⟨bQ (aO o1) _,gl.set hlt,gf1.set hlt,hd,hlt,by rw[List.length_append,List.length_singleton];omega,h.lf⟩,k1.trans (aJ.set _ (by simp) _)⟩
  unfold nmB at *
  simp (disch:=omega) only[t64,go_sem,ho,o1,c62,es,aF c63]
inductive Tc where
 | prim (v op n:Int) (ats:List (List IV)) (k:Tc)
 | fn (v:Int) (f:Int) (ps:List Int) (r c:Bool) (body k:Tc)
 | ite (a:List IV) (p q:Tc)
 | call (ats:List (List IV))
 | appl (ats:List (List IV))
 | halt
noncomputable def atxT (s:List UInt8) (v:List Int):List (List IV)->List UInt8×List Int
 | []=>(s,v)
 | [.int .i64 kd,.int .i64 n]::r=>if kd=1 then atxT (s++[32]++dg (hH n v)) (eG v n) r else atxT (s++[32,99]++dg kd++[46]++dg n) v r
 | _::r=>atxT s v r
noncomputable def ptxT (s:List UInt8) (v:List Int):List Int->List UInt8×List Int
 | []=>(s,v)
 | n::r=>ptxT (s++[32]++dg (hH n v)) (eG v n) r
noncomputable def txtT:Tc->List Int->Nat->List UInt8×List Int×Nat
 | .prim x op n ats k,v,m =>
  let a:=atxT ([40]++dg 1++[32,118]++dg (hH x v)++[32,111]++dg op++[44]++dg n) (eG v x) ats
  let b:=txtT k a.2 m
  (a.1++b.1++[41],b.2)
 | .fn x _ ps r c body k,v,m =>
  let q:=ptxT ([32,102]++dg m++[91]) (eG v x) ps
  let s1:=if r then q.1++[46]else q.1
  let s2:=if c then s1++[33]else s1
  let b:=txtT body q.2 (m+1)
  let d:=txtT k b.2.1 b.2.2
  ([40]++dg 2++[32,118]++dg (hH x v)++(s2++b.1++[93])++d.1++[41],d.2)
 | .ite a p q,v,m =>
  let h:=atxT ([40]++dg 3) v [a]
  let b:=txtT p h.2 m
  let d:=txtT q b.2.1 b.2.2
  (h.1++b.1++d.1++[41],d.2)
 | .call ats,v,m=>let h:=atxT ([40]++dg 4) v ats;(h.1++[41],h.2,m)
 | .appl ats,v,m=>let h:=atxT ([40]++dg 6) v ats;(h.1++[41],h.2,m)
 | .halt,v,m=>([40]++dg 7++[41],v,m)
def shT:Tc->Tc
 | .prim v op n ats k=>.prim v op n ats (shT k)
 | .fn v f ps r c body k=>.fn v (f-1) ps r c (shT body) (shT k)
 | .ite a p q=>.ite a (shT p) (shT q)
 | .call ats=>.call ats
 | .appl ats=>.appl ats
 | .halt=>.halt
theorem xN:∀(U:Tc) (v:List Int) (m:Nat),txtT (shT U) v m=txtT U v m
 | .prim x op n ats k,v,m=>by simp only[shT,txtT,xN k]
 | .fn x f ps r c body k,v,m=>by simp only[shT,txtT,xN body,xN k]
 | .ite a p q,v,m=>by simp only[shT,txtT,xN p,xN q]
 | .call ats,v,m=>rfl
 | .appl ats,v,m=>rfl
 | .halt,v,m=>rfl
def cQ:Tc->List Int
 | .prim _ _ _ _ k=>cQ k
 | .fn _ f _ _ _ body k=>f::(cQ body++cQ k)
 | .ite _ p q=>cQ p++cQ q
 | _=>[]
def szC:Tc->Nat
 | .prim _ _ _ ats k=>1+ats.length+szC k
 | .fn _ _ ps _ _ body k=>1+ps.length+szC body+szC k
 | .ite _ p q=>1+szC p+szC q
 | .call ats=>1+ats.length
 | .appl ats=>1+ats.length
 | .halt=>1
theorem tD (a b:List St):eQ (a++b)=eQ a++eQ b:=List.map_append
theorem nJ (a:List St):(eQ a).length=a.length:=List.length_map _
theorem tE {w:Nat}{a b:M_}(ha:cO w a)(hb:cO w b):cO w (a++b):=fun y hy=>(List.mem_append.1 hy).elim (ha y) (hb y)
theorem aVp {b0:Int}{N:Nat}(hV:∀m,m<=N->vS b0 m)(g:Tag){L:List Ex}(hL:∀e∈L,XO e)(hlen:L.length<=1048576){jm jf:Nat}{S0:aA}(hj:jm<S0.length∧jf<S0.length):∀(n i:Nat) (S:aA) (A B:M_) (js ja:Nat) (σ:Mk) (x:List St×M_×Mk) (y4 y5 y6 y10:TV),n<=N+1->i<=L.length->bP n (L.drop i) σ=some x->b0<=σ.nv->Bd b0 x.2.2->MkS S jm jf σ->aJ [jm,jf] S0 S ->
  Gl S0.length S 14 67 A js->Gl S0.length S 2 53 B ja->(A≠[]->B≠[]->js≠ja)->cO 14 A->cO 2 B->(A.length:Int)+b0<=σ.nv->B.length<=i ->
  ∃(S':aA) (js' ja':Nat) (z4 z5 z6 z10:TV),lp' (lim K) t45L0 [.ptr jm 64 0,.iv (.sl g (bW L)),acc js A,acc ja B,y4,y5,y6,.iv (.sl g (bW L)),j_ L.length,j_ i,y10] S
   = .ret (.exit 0,[.ptr jm 64 0,.iv (.sl g (bW L)),acc js' (A++eQ x.1),acc ja' (B++x.2.1),z4,z5,z6,.iv (.sl g (bW L)),j_ L.length,j_ L.length,z10],S') ∧
   Gl S0.length S' 14 67 (A++eQ x.1) js'∧Gl S0.length S' 2 53 (B++x.2.1) ja'∧(A++eQ x.1≠[]->B++x.2.1≠[]->js'≠ja')∧MkS S' jm jf x.2.2∧aJ [jm,jf] S0 S'
 | 0,i,S,A,B,js,ja,σ,x,y4,y5,y6,y10,hn,hi,hx,_,_,_,_,_,_,_,_,_,_,_=>by simp[bP]at hx
 | n+1,i,S,A,B,js,ja,σ,x,y4,y5,y6,y10,hn,hi,hx,hb,hB,hM,hk,gA,gB,hd,eA,eB,lA,lB=>by
  have hlE:=aG L
  by_cases hla:i<L.length
  ·rw[List.drop_eq_getElem_cons hla,bP]at hx
   obtain⟨y,hy,hx⟩:=b_ hx
   obtain⟨z,hz,hx⟩:=b_ hx
   cases hx
   have hgd:L.getD i default=L[i]:=by simp[List.getD,List.getElem?_eq_getElem hla]
   have hXO:=hL L[i] (List.getElem_mem _)
   have l1:=(mono n).value hy
   have l2:=(mono n).values hz
   have hB1:Bd b0 y.2.2:=Bd.le hB l2
   obtain⟨⟨p,q,hpq⟩,hso,hsl⟩:=(cW n).value hy hXO
   obtain⟨r,S1,c48,hr,hM1,hk1⟩:=hV n (by omega) hy hXO hb hB1 hM
   have nI:∀i∈[jm,jf],i<S0.length:=fun i hi=>by simp at hi;rcases hi with rfl|rfl<;>omega
   have gA1:=gA.keep hk1 nI
   have gB1:=gB.keep hk1 nI
   have hlen1:S0.length<=S1.length:=Nat.le_trans hk.len hk1.len
   have hsz:((A.length+(eQ y.1).length:Nat):Int)<=1000000:=by rw[nJ];have:=hB1.hi;omega
   obtain⟨js1,S2,a1,g1⟩:=gA1.more (b:=176) (hr.el S1) (nP hso) eA (cI (by omega)) hlen1
   have hM2:=g1.mks gA1 hM1 hj
   have hk2:=g1.keep gA1 (hk.trans hk1) (Nat.le_refl _)
   obtain⟨gB2,hd2⟩:=g1.other gB1 hd
   obtain⟨ja1,S3,a2,g2⟩:=gB2.more (b:=16) (hP.sl S2 .full [[.int .i64 p,.int .i64 q]]) (by intro y hy;simp at hy;subst hy;exact⟨rfl,rfl⟩) eB (cI (by simp;omega)) (Nat.le_trans hlen1 g1.len)
   have hM3:=g2.mks gB2 hM2 hj
   have hk3:=g2.keep gB2 hk2 (Nat.le_refl _)
   obtain⟨gA3,hd3⟩:=g2.other g1.gl (fun h1 h2=>Ne.symm (hd2 h2 h1))
   obtain⟨S',js',ja',z4,z5,z6,z10,ih,hres⟩:=aVp hV g hL hlen hj n (i+1) S3 (A++eQ y.1) (B++[[.int .i64 p,.int .i64 q]]) js1 ja1 y.2.2 z (.lb ((cD L[i]).map .iv)) r (.lb [j_ p,j_ q]) e_ (by omega) hla hz (Int.le_trans hb l1.nv) hB hM3 hk3 gA3 g2.gl (fun h1 h2=>Ne.symm (hd3 h2 h1)) (tE eA (nP hso)) (tE eB (by intro y hy;simp at hy;subst hy;exact⟨rfl,rfl⟩)) (by rw[List.length_append,nJ];omega) (by simp;omega)
   rw[show((i+1:Nat):Int)=(i:Int)+1 by omega]at ih
   have hix:=ixE (g:=g) (ks:=L) (i:=(i:Int)) (by omega)
   rw[Int.toNat_natCast,hgd]at hix
   have hget:=mP (d:=L[i])
   rw[hpq]at c48
   rw[aL]at c48 hix hget ih
   refine⟨S',js',ja',z4,z5,z6,z10,?_,?_⟩
   ·rw[tD,<-List.append_assoc,show B++(y.2.1::z.2.1)=(B++[[.int .i64 p,.int .i64 q]])++z.2.1 by rw[hpq];simp]
    refine aI K _ _ t45L0.eq_1 ?_
    generalize L[i]=e at *
    rcases hr with⟨_,rfl⟩|⟨j,rfl⟩|rfl
    ·simp (disch:=omega) only[go_sem,hlE,hix,hget,c48,a1,a2,aH]
     exact congrArg er ih
    ·simp (disch:=omega) only[go_sem,hlE,hix,hget,c48,a1,a2,aH]
     exact congrArg er ih
    ·simp (disch:=omega) only[go_sem,hlE,hix,hget,c48,a1,a2,aH]
     exact congrArg er ih
   ·rw[tD,<-List.append_assoc,show B++(y.2.1::z.2.1)=(B++[[.int .i64 p,.int .i64 q]])++z.2.1 by rw[hpq];simp]
    exact hres
  ·obtain rfl:i=L.length:=by omega
   rw[List.drop_length,bP]at hx
   cases hx
   refine⟨S,js,ja,y4,y5,y6,z_,aI K _ _ t45L0.eq_1 ?_,by simpa[eQ] using gA,by simpa using gB,by simpa[eQ] using hd,hM,hk⟩
   rw[show eQ []=[] from rfl,List.append_nil,List.append_nil]
   simp (disch:=omega) only[go_sem]
theorem aIf {b0:Int}{N:Nat}(hV:∀m,m<=N->vS b0 m):lT b0 (N+1):=by
 intro l g σ x S jm jf hx hl hlen hb hB hM
 have hj:jm<S.length∧jf<S.length:=⟨aO hM.own,aO hM.row⟩
 obtain⟨S',js',ja',z4,z5,z6,z10,l1,h1,h2,h3,h4,h5⟩:=aVp hV g hl hlen hj (N+1) 0 S [] [] 0 0 σ x u_ u_ u_ u_ (Nat.le_refl _) (Nat.zero_le _) (by rw[List.drop_zero];exact hx) hb hB hM (aJ.refl _ _) (Gl.nil ..) (Gl.nil ..) (fun h=>absurd rfl h) (by intro y hy;cases hy) (by intro y hy;cases hy) (by simpa using hb) (Nat.le_refl _)
 rw[n0_,List.nil_append,List.nil_append,fG]at l1
 rw[List.nil_append]at h1 h2 h3
 rw[List.nil_append]at h3
 have hlE:=aG l
 refine⟨js',ja',S',aB K _ (fn:=t45) rfl rfl ?_,h1,h2,h3,h4,h5⟩
 simp (disch:=omega) only[t45,go_sem,hlE]
 rw[l1]
 simp (disch:=omega) only[go_sem]
def rJ (b0:Int)(n:Nat):Prop:=∀ {e:Ex} {k0 k1:Int} {σ:Mk} {x:List IV×Mk} {S:aA} {jm jf:Nat},dR n e [.int .i64 k0,.int .i64 k1] σ=some x->XO e->b0<=σ.nv->Bd b0 x.2->MkS S jm jf σ ->
 ∃S',(lim K).call 24 [.ptr jm 64 0,.iv (.agg (cD e)),.iv (.agg [.int .i64 k0,.int .i64 k1])] S=.ret (.iv (.agg x.1),S')∧MkS S' jm jf x.2∧aJ [jm,jf] S S'
def aVq (b0:Int)(n:Nat):Prop:=∀ {e:Ex} {σ:Mk} {x:Int×Mk} {S:aA} {jm jf:Nat},eO n e σ=some x->XO e->b0<=σ.nv->Bd b0 x.2->MkS S jm jf σ ->
 ∃S',(lim K).call 73 [.ptr jm 64 0,.iv (.agg (cD e))] S=.ret (.iv (.int .i64 x.1),S')∧MkS S' jm jf x.2∧aJ [jm,jf] S S'
theorem bCj {S:aA}(k:Int)(t:Tag)(vs:List Int)(hl:vs.length<=2000000):∃r L,bY false 1 8 3 S (.iv (.sl .full [[.int .i64 k]])) (.iv (.sl t (TM.one (.int .i64) vs)))=some (r,S++L)∧((r=.iv (.sl .full (TM.one (.int .i64) (k::vs)))∧rH vs=.full)∨(∃j,r=.tsl j (TM.one (.int .i64) (k::vs))∧rH vs=.no)):=by
 cases vs with
 | nil=>exact⟨_,[],by rw[show TM.one (IV.int .i64) []=[] from rfl,sX rfl (hP.sl ..),List.append_nil];rfl,.inl ⟨rfl,rfl⟩⟩
 | cons v vs =>
  have hw:cO 1 (TM.one (IV.int .i64) (v::vs)):=by
   intro y hy
   obtain⟨m,_,rfl⟩:=List.mem_map.1 hy
   exact⟨rfl,rfl⟩
  have:=qV (S:=S) (w:=1) (b:=8) (el:=3) (t:=.full) (l:=[[.int .i64 k]]) (by decide) (hP.sl S t (TM.one (.int .i64) (v::vs))) hw (by intro y hy;simp at hy;subst hy;exact⟨rfl,rfl⟩) (by simp[TM.one]) (cI (by rw[TM.dL];simp at hl ⊢;omega))
  exact⟨_,_,this,.inr ⟨_,rfl,rfl⟩⟩
theorem aVr {b0:Int}{n:Nat}(hb0:0<=b0∧b0<=1152921504606846976)(hC:rJ b0 n):aVq b0 (n+1):=by
 intro e σ x S jm jf hx ho hb hB hM
 rw[eO]at hx
 split at hx
 ·cases hx
 ·rename_i b r hks
  obtain⟨y,hy,hx⟩:=b_ hx
  cases hx
  have hle:=(mono n).code hy
  have hBy:Bd b0 y.2:=⟨hB.hi,by have:=hB.fs;simp[Mk.push]at this;omega⟩
  have hlt:y.2.fs.length<1000000:=by have:=hB.fs;simp[Mk.push]at this;omega
  have hnv:σ.nv<4611686018427387904:=by have h1:=hle.nv;have h2:=hBy.hi;have h3:σ.var.nv=σ.nv+1:=rfl;omega
  have c21:=rG hM
  have hM1:=hM.var hnv
  have hk1:aJ [jm,jf] S (S.set jm (mkB jf σ.var)):=jA _
  have hbo:XO b:=ho.kid (by rw[hks];simp)
  have hwe:=Ex.w_eq e
  have hw2:=ho.2
  obtain⟨pr,L,ap,hpr⟩:=bCj (S:=S.set jm (mkB jf σ.var)) σ.nv e.gv e.vs (by omega)
  have hk2:aJ [] (S.set jm (mkB jf σ.var)) (S.set jm (mkB jf σ.var)++L):=aJ.app _ _ _
  have hM2:=hM1.keep hk2 (by simp) (by simp)
  obtain⟨S3,c24,hM3,hk3⟩:=hC hy hbo (by show b0<=σ.nv+1;omega) hBy hM2
  obtain⟨c0,c1,c2,c3,c4,t5,t6,l5,l6,hT⟩:=(cW n).code hy hbo
  have c25:=mJ σ.nv
  have hix:=ixE (g:=e.g) (ks:=e.ks) (i:=0) (by rw[hks];simp)
  have hget:=mP (d:=b)
  rw[show e.ks.getD (0:Int).toNat default=b by rw[hks];rfl]at hix
  rw[hT]at c24
  have c20:=fun tg=>xL hM3 (.sl tg (TM.one (.int .i64) (σ.nv::e.vs))) (.bool e.r) (.bool false) (.sl .nil []) (.int .i64 c0) (.int .i64 c1) (.int .i64 c2) (.int .i64 c3) (.int .i64 c4) (.sl t5 l5) (.sl t6 l6) rfl
  have hM4:=fun tg=>hM3.push (f:=fnF tg (σ.nv::e.vs) e.r false y.1) (by rw[hT];rfl) (by rw[hT];rfl) hlt
  refine⟨_,aB K _ (fn:=t73) rfl rfl ?_,hM4 (rH e.vs),((hk1.trans (hk2.mono (by simp))).trans hk3).trans (tC _ _)⟩
  rw[hT]
  unfold fnF
  rw[aL]at c24 hix hget ⊢
  rcases hpr with⟨rfl,ht⟩|⟨j,rfl,ht⟩
  ·rw[ht]
   have c20:=c20 .full
   generalize TM.one (IV.int .i64) (σ.nv::e.vs)=ps at *
   simp (disch:=omega) only[t73,go_sem,c21,ap,hix,hget,aF c25,c24,c20]
  ·rw[ht]
   have c20:=c20 .no
   generalize TM.one (IV.int .i64) (σ.nv::e.vs)=ps at *
   simp (disch:=omega) only[t73,go_sem,c21,ap,hix,hget,aF c25,c24,c20]
theorem bGo {j:Nat}{l:M_}(h:l≠[]){w:Nat}{a:List IV}(ha:l.getLast? = some a)(hw:a.length=w):indexAddrS w (acc j l) ((l.length:Int)-1)=some (.iv (.cp a)):=by
 have hl:=List.length_pos_iff.2 h
 rw[dE _ h]
 refine kP (by omega) ?_ hw
 rw[List.getLast?_eq_getElem?]at ha
 rw[show((l.length:Int)-1).toNat=l.length-1 by omega]
 exact ha
theorem aLs {b0:Int}{n:Nat}(hb0:0<=b0∧b0<=1152921504606846976)(hL:aVq b0 n)(hVs:lT b0 n):vS b0 (n+1):=by
 intro e σ x S jm jf hx ho hb hB hM
 have hwe:=Ex.w_eq e
 have hw2:=ho.2
 have hkl:=Ex.ws_len e.ks
 have hlE:=aG e.ks
 rw[dQ]at hx
 by_cases h1:e.k=1
 ·rw[if_pos h1]at hx
  cases hx
  refine⟨k_,S,aB K _ (fn:=t48) rfl rfl ?_,.inl ⟨rfl,rfl⟩,hM,aJ.refl _ _⟩
  rw[aL]
  unfold aC
  simp (disch:=omega) only[t48,go_sem]
 ·rw[if_neg h1]at hx
  by_cases h2:e.k=2
  ·rw[if_pos h2]at hx
   cases hx
   have c25:=mJ e.n
   refine⟨k_,S,aB K _ (fn:=t48) rfl rfl ?_,.inl ⟨rfl,rfl⟩,hM,aJ.refl _ _⟩
   rw[aL]
   unfold aV
   simp (disch:=omega) only[t48,go_sem,aF c25]
  ·rw[if_neg h2]at hx
   by_cases h7:e.k=7
   ·rw[if_pos h7]at hx
    obtain⟨y,hy,hx⟩:=b_ hx
    cases hx
    have hBy:Bd b0 y.2:=hB.le (Le.var _)
    have hnv:y.2.nv<4611686018427387904:=by have h9:y.2.nv+1<=b0+1000000:=hB.hi;omega
    obtain⟨S1,c73,hM1,hk1⟩:=hL hy ho hb hBy hM
    have c22:=aFx hM1 y.1
    have c25:=mJ y.2.nv
    refine⟨.iv (.sl .full (eQ [.tm (bX y.2.nv y.1 (.sl .nil [])) y.2.nv])),_,aB K _ (fn:=t48) rfl rfl ?_,.inr (.inr rfl),hM1.var hnv,hk1.trans (jA _)⟩
    rw[aL]at c73 ⊢
    rw[show eQ [St.tm (bX y.2.nv y.1 (.sl .nil [])) y.2.nv]=[oG y.2.nv y.1] from rfl]
    unfold oG aV at *
    simp (disch:=omega) only[t48,go_sem,c73,c22,aF c25]
   ·rw[if_neg h7]at hx
    by_cases h10:e.k=10∧e.ks.length<=64
    ·rw[if_pos h10]at hx
     obtain⟨y,hy,hx⟩:=b_ hx
     obtain⟨a,ha,hx⟩:=b_ hx
     cases hx
     obtain⟨js,ja,S1,c45,g1,g2,hd,hM1,hk1⟩:=hVs (g:=e.g) hy (fun x hx=>ho.kid hx) (by omega) hb hB hM
     have hne:y.2.1≠[]:=by rintro h;rw[h]at ha;cases ha
     obtain⟨p,q,rfl⟩:=((cW n).values hy (fun x hx=>ho.kid hx)).1 a (List.mem_of_getLast? ha)
     have hix:=bGo (j:=ja) hne ha (w:=2) rfl
     have hl1:=((cW n).values hy (fun x hx=>ho.kid hx)).2.2.2
     refine⟨_,S1,aB K _ (fn:=t48) rfl rfl ?_,SR.acc js _,hM1,hk1⟩
     obtain⟨h10a,h10b⟩:=h10
     rw[aL]
     simp (disch:=omega) only[t48,go_sem,hlE,c45,hix,oA,aH]
    ·rw[if_neg h10]at hx
     by_cases hl:e.k=10∨e.k=8∨e.k=6∨e.k=11
     ·rw[if_pos hl]at hx
      cases hx
      have hnv:σ.nv<4611686018427387904:=by have h9:σ.nv+1<=b0+1000000:=hB.hi;omega
      have c74:=bG8 hM e
      refine⟨_,_,aB K _ (fn:=t48) rfl rfl ?_,.inr (.inr rfl),hM.var hnv,jA _⟩
      rw[show eQ [St.rs e σ.nv]=[encZ (.rs e σ.nv)] from rfl]
      generalize encZ (.rs e σ.nv)=s at *
      unfold aV at *
      rw[aL]at c74 ⊢
      rcases hl with hl|hl|hl|hl
      ·have h64:¬e.ks.length<=64:=fun h=>h10 ⟨hl,h⟩
       simp (disch:=omega) only[t48,go_sem,hlE,c74]
      ·simp (disch:=omega) only[t48,go_sem,hlE,c74]
      ·simp (disch:=omega) only[t48,go_sem,hlE,c74]
      ·simp (disch:=omega) only[t48,go_sem,hlE,c74]
     ·rw[if_neg hl]at hx
      obtain⟨y,hy,hx⟩:=b_ hx
      cases hx
      have hBy:Bd b0 y.2.2:=hB.le (Le.var _)
      have hnv:y.2.2.nv<4611686018427387904:=by have h9:y.2.2.nv+1<=b0+1000000:=hB.hi;omega
      obtain⟨js,ja,S1,c45,g1,g2,hd,hM1,hk1⟩:=hVs (g:=e.g) hy (fun x hx=>ho.kid hx) (by omega) hb hBy hM
      obtain⟨s1,s2,s3,s4⟩:=(cW n).values hy (fun x hx=>ho.kid hx)
      have c75:=bG7 e S1
      have c21:=rG hM1
      have hM2:=hM1.var hnv
      have hk2:aJ [jm,jf] S1 (S1.set jm (mkB jf y.2.2.var)):=jA _
      have hj:∀i∈[jm,jf],i<S.length:=fun i hi=>by
       have:=aO hM.own;have:=aO hM.row
       simp at hi;rcases hi with rfl|rfl<;>omega
      have g1':=g1.keep hk2 hj
      obtain⟨js2,S3,a1,gr⟩:=g1'.more (b:=176) (hP.sl (S1.set jm (mkB jf y.2.2.var)) .full [encZ (.tm (kR y.2.2.nv (opX e) (opN e) y.2.1) y.2.2.nv)]) (by intro y hy;simp at hy;subst hy;exact⟨rfl,rfl⟩) (nP s2) (cI (by rw[nJ];have:=hBy.hi;simp;omega)) (by have:=hk1.len;simpa using this)
      have c25:=mJ y.2.2.nv
      refine⟨acc js2 (eQ y.1++[encZ (.tm (kR y.2.2.nv (opX e) (opN e) y.2.1) y.2.2.nv)]),S3,aB K _ (fn:=t48) rfl rfl ?_,(by rw[tD];exact SR.acc js2 _),gr.mks g1' hM2 ⟨aO hM.own,aO hM.row⟩,gr.keep g1' (hk1.trans hk2) (Nat.le_refl _)⟩
      rw[show encZ (.tm (kR y.2.2.nv (opX e) (opN e) y.2.1) y.2.2.nv)=[.int .i64 0,.int .i64 1,.int .i64 y.2.2.nv,.int .i64 (opX e),.int .i64 (opN e),.int .i64 0,.sl (nG y.2.1) y.2.1,.sl .nil [],.int .i64 0,.int .i64 0,.sl .nil [],.bool false,.sl .nil [],.int .i64 y.2.2.nv] from rfl]at a1 ⊢
      generalize opX e=ox at *
      generalize opN e=on at *
      unfold aV at *
      rw[aL]at c75 ⊢
      simp (disch:=omega) only[t48,go_sem,hlE,c45,c75,c21,a1,aF c25]
def aAa:aQ:=(.region [⟨.allocH 68 [(.int .i64 0),(.int .i64 0),(.int .i64 0),(.int .i64 0),(.int .i64 0),(.int .i64 0),(.sl .nil []),(.sl .nil []),(.int .i64 0),(.int .i64 0),(.sl .nil []),(.bool false),(.sl .nil []),(.int .i64 0)],(some 6),none⟩,⟨.store 14 (.reg 0) (.loc 13),none,none⟩])
def aAb:aQ:=(.block 1
    (.seq (.seq (.region [⟨.fieldAddr 0 (.loc 6),none,none⟩,⟨.load1 (.reg 0),none,none⟩,⟨.bin .eql (.reg 1) (.cst (.int .i64 0)),(some 14),none⟩])
    (.cond (.loc 14)
     (.seq (.region [⟨.fieldAddr 1 (.loc 6),none,none⟩,⟨.loadN 7 (.reg 0),none,none⟩,⟨.allocH 46 [(.int .i64 0),(.int .i64 0),(.int .i64 0),(.int .i64 0),(.int .i64 0),(.sl .nil []),(.sl .nil [])],(some 7),none⟩,⟨.store 7 (.reg 2) (.reg 1),none,none⟩])
     (.seq (.region [⟨.loadN 7 (.loc 4),none,none⟩,⟨.lit false [(.int .i64 0),(.int .i64 0),(.int .i64 0),(.int .i64 0),(.int .i64 0),(.sl .nil []),(.sl .nil [])] 1 [(0,(.reg 0))],none,none⟩,⟨.fieldAddr 6 (.loc 7),none,none⟩,⟨.store 1 (.reg 2) (.reg 1),none,none⟩])
     (.seq (.region [⟨.loadN 7 (.loc 7),none,none⟩,⟨.store 7 (.loc 4) (.reg 0),none,none⟩])
     (.exit 1))))
     .skip))
    (.seq (.region [⟨.load1 (.loc 3),none,none⟩,⟨.fieldAddr 13 (.loc 6),none,none⟩,⟨.load1 (.reg 1),none,none⟩,⟨.lit false [(.int .i64 0)] 1 [(0,(.reg 2))],none,none⟩,⟨.loadN 7 (.loc 4),none,none⟩,⟨.build [(.sl .nil []),(.bool false),(.bool false),(.sl .nil []),(.int .i64 0),(.int .i64 0),(.int .i64 0),(.int .i64 0),(.int .i64 0),(.sl .nil []),(.sl .nil [])] [(0,1,(.reg 3)),(2,1,(.cst (.bool true))),(4,7,(.reg 4))],none,none⟩,⟨.call false false 20 [(.reg 0),(.reg 5)],none,none⟩,⟨.mov (.reg 6),(some 8),none⟩])
    (.seq (.region [⟨.load1 (.loc 3),none,none⟩,⟨.mov (.loc 8),none,none⟩,⟨.call false false 22 [(.reg 0),(.reg 1)],none,none⟩,⟨.mov (.reg 2),none,none⟩,⟨.extract 0 (.reg 3),none,none⟩,⟨.extract 1 (.reg 3),none,none⟩,⟨.allocH 68 [(.int .i64 0),(.int .i64 0),(.int .i64 0),(.int .i64 0),(.int .i64 0),(.int .i64 0),(.sl .nil []),(.sl .nil []),(.int .i64 0),(.int .i64 0),(.sl .nil []),(.bool false),(.sl .nil []),(.int .i64 0)],(some 9),none⟩,⟨.store 14 (.reg 6) (.reg 4),none,none⟩,⟨.mov (.reg 5),(some 10),none⟩])
    (.seq (.draw [0,1,2,3] [(4,[0,2],[]),(5,[],[6,7,8]),(9,[],[])] [⟨.load1 (.loc 3),none,none⟩,⟨.fieldAddr 8 (.loc 6),none,none⟩,⟨.loadN 5 (.reg 1),none,none⟩,⟨.mov (.loc 10),none,none⟩,⟨.call true false 25 [(.reg 3)],none,none⟩,⟨.call false false 24 [(.reg 0),(.reg 2),(.reg 4)],none,none⟩,⟨.lit false [(.int .i64 0),(.int .i64 0),(.int .i64 0),(.int .i64 0),(.int .i64 0),(.sl .nil []),(.sl .nil [])] 1 [(0,(.reg 5))],none,none⟩,⟨.fieldAddr 1 (.loc 9),none,none⟩,⟨.fieldAddr 6 (.reg 7),none,none⟩,⟨.store 1 (.reg 8) (.reg 6),none,none⟩])
    (.region [⟨.fieldAddr 1 (.loc 9),none,none⟩,⟨.loadN 7 (.reg 0),none,none⟩,⟨.store 7 (.loc 4) (.reg 1),none,none⟩]))))))
def e23 (jm n:Nat)(r:TV)(t0:List IV)(x6 x7 x8 x9 x10 x12 x13 x14:TV):Env:=[.ptr jm 64 0,r,.iv (.agg t0),.ptr n 62 0,.ptr (n+1) 46 0,.hole,x6,x7,x8,x9,x10,.fn 71 [] [.ptr (n+2) 72 0],x12,x13,x14]
structure YS (S:aA) (n jm jf:Nat) (r:TV) (t0 t:List IV) (σ:Mk):Prop where
 a:S[n]? = some (.cells 62 false [.ptr jm 64 0])
 b:S[n+1]? = some (.cells 46 false (t.map .iv))
 c:S[n+2]? = some (.cells 72 false [r])
 y:∃x6 x7 x8 x9 x10 x12 x13 x14,S[n+3]? = some (.lp .ready none (e23 jm n r t0 x6 x7 x8 x9 x10 x12 x13 x14) [12,13] aAa aAb)
 ms:MkS S jm jf σ
 lt:jm<n∧jf<n
theorem gN0 (S:aA)(a:aP)(r:aA):(S++a::r)[S.length]? = some a:=by simp
theorem sN0 (S:aA)(a x:aP)(r:aA):(S++a::r).set S.length x=S++x::r:=by rw[List.set_append_right _ _ (Nat.le_refl _)];simp
attribute [go_sem] gN0 sN0
theorem bHc {S:aA}{n jm jf:Nat}{r:TV}{t0 t c:List IV}{σ:Mk}(h:YS S n jm jf r t0 t σ)(ht:TmO t)(hc:TmO c)(to i:Int):
  ∃S',(lim K).yld (n+3) [j_ i,.iv (.agg (encZ (.tm c to)))] S=.ret (e_,S')∧YS S' n jm jf r t0 (c.set 6 (.sl .full [t])) σ∧aJ [n+1,n+3] S S':=by
 obtain⟨x6,x7,x8,x9,x10,x12,x13,x14,hy⟩:=h.y
 obtain⟨a0,a1,a2,a3,a4,a5,a6,b5,b6,rfl⟩:=ht
 obtain⟨c0,c1,c2,c3,c4,c5,c6,d5,d6,rfl⟩:=hc
 have hl:=aO hy
 have hs:encZ (.tm [.int .i64 c0,.int .i64 c1,.int .i64 c2,.int .i64 c3,.int .i64 c4,.sl c5 d5,.sl c6 d6] to)=[.int .i64 0,.int .i64 c0,.int .i64 c1,.int .i64 c2,.int .i64 c3,.int .i64 c4,.sl c5 d5,.sl c6 d6,.int .i64 0,.int .i64 0,.sl .nil [],.bool false,.sl .nil [],.int .i64 to]:=rfl
 rw[hs]
 generalize hS1:S++[aP.cells 68 false [j_ 0,j_ c0,j_ c1,j_ c2,j_ c3,j_ c4,.iv (.sl c5 d5),.iv (.sl c6 d6),j_ 0,j_ 0,k_,z_,k_,j_ to]]=S1
 have k1:aJ [] S S1:=by rw[<-hS1];exact aJ.app _ _ _
 have y1:=k1.get _ _ (by simp) hy
 generalize hT:S1.set (n+3) (.lp .busy none (e23 jm n r t0 x6 x7 x8 x9 x10 x12 x13 x14) [12,13] aAa aAb)=T
 have k2:aJ [n+3] S1 T:=by rw[<-hT];exact aJ.set _ (by simp) _
 have t6:T[S.length]? = some (.cells 68 false [j_ 0,j_ c0,j_ c1,j_ c2,j_ c3,j_ c4,.iv (.sl c5 d5),.iv (.sl c6 d6),j_ 0,j_ 0,k_,z_,k_,j_ to]):=by
  rw[<-hT,aU (by omega),<-hS1,dG]
 have k12:=(k1.mono (J:=[n+3]) (by simp)).trans k2
 have tb:=k12.get _ _ (by simp) h.b
 have ty:T[n+3]? = some (.lp .busy none (e23 jm n r t0 x6 x7 x8 x9 x10 x12 x13 x14) [12,13] aAa aAb):=by rw[<-hT];exact bQ (aO y1) _
 have g6:=fun L=>iP t6 L
 have gb:=fun L=>iP tb L
 have hlt:=aO tb
 have hne:T.length≠n+1:=by omega
 let R:aP:=.cells 46 false [j_ c0,j_ c1,j_ c2,j_ c3,j_ c4,.iv (.sl c5 d5),.iv (.sl .full [[.int .i64 a0,.int .i64 a1,.int .i64 a2,.int .i64 a3,.int .i64 a4,.sl a5 b5,.sl a6 b6]])]
 have k3:aJ [n+1] T ((T++[R]).set (n+1) R):=(aJ.app _ _ _).trans (aJ.set _ (by simp) _)
 have y3:=k3.get _ _ (by simp) ty
 refine⟨((T++[R]).set (n+1) R).set (n+3) (.lp .ready none (e23 jm n r t0 x6 x7 x8 x9 x10 x12 x13 x14) [12,13] aAa aAb),?_,?_,?_⟩
 ·refine aDo (env2:=[.ptr jm 64 0,r,.iv (.agg t0),.ptr n 62 0,.ptr (n+1) 46 0,.hole,.ptr S.length 68 0,x7,x8,x9,x10,.fn 71 [] [.ptr (n+2) 72 0],j_ i,.iv (.agg [.int .i64 0,.int .i64 c0,.int .i64 c1,.int .i64 c2,.int .i64 c3,.int .i64 c4,.sl c5 d5,.sl c6 d6,.int .i64 0,.int .i64 0,.sl .nil [],.bool false,.sl .nil [],.int .i64 to]),x14]) (env3:=[.ptr jm 64 0,r,.iv (.agg t0),.ptr n 62 0,.ptr (n+1) 46 0,.hole,.ptr S.length 68 0,.ptr T.length 46 0,x8,x9,x10,.fn 71 [] [.ptr (n+2) 72 0],j_ i,.iv (.agg [.int .i64 0,.int .i64 c0,.int .i64 c1,.int .i64 c2,.int .i64 c3,.int .i64 c4,.sl c5 d5,.sl c6 d6,.int .i64 0,.int .i64 0,.sl .nil [],.bool false,.sl .nil [],.int .i64 to]),e_]) (S1:=S1) (S2:=(T++[R]).set (n+1) R) hy rfl ?_ y1 ?_ y3
  ·subst hS1
   simp (disch:=omega) only[aAa,e23,go_sem]
  ·rw[hT]
   have gn:∀(X:aP) (L:aA),(T++X::L)[T.length]? = some X:=fun X L=>gN0 T X L
   simp (disch:=omega) only[aAb,go_sem,t6,g6,gb,tb]
   rfl
 ·refine⟨?_,?_,?_,⟨x6,x7,x8,x9,x10,x12,x13,x14,bQ (aO y3) _⟩,?_,h.lt⟩
  ·rw[aU (by omega)];exact k3.get _ _ (by simp) (k12.get _ _ (by simp) h.a)
  ·rw[aU (by omega),bQ (by simp;omega)];rfl
  ·rw[aU (by omega)];exact k3.get _ _ (by simp) (k12.get _ _ (by simp) h.c)
  ·have hlt2:=h.lt
   exact((h.ms.keep k12 (by simp;omega) (by simp;omega)).keep k3 (by simp;omega) (by simp;omega)).keep (aJ.set (I:=[n+3]) _ (by simp) _) (by simp;omega) (by simp;omega)
 ·exact((k12.mono (J:=[n+1,n+3]) (by simp)).trans (k3.mono (by simp))).trans (aJ.set _ (by simp) _)
theorem bHd {b0:Int}{m:Nat}(hb0:0<=b0∧b0<=1152921504606846976)(hC:rJ b0 m){S:aA}{n jm jf:Nat}{r:TV}{t0 t:List IV}{σ:Mk}{x:List IV×Mk}(h:YS S n jm jf r t0 t σ)(ht:TmO t){e:Ex}{to:Int}(he:XO e)(hx:dR m e (aV σ.nv) (σ.push (fnF .full [to] false true t)).var=some x)(hb:b0<=σ.nv)(hB:Bd b0 x.2)(i:Int):
  ∃S',(lim K).yld (n+3) [j_ i,.iv (.agg (encZ (.rs e to)))] S=.ret (e_,S')∧YS S' n jm jf r t0 (bX σ.nv σ.fs.length (.sl .full [x.1])) x.2∧aJ [jm,jf,n+1,n+3] S S':=by
 obtain⟨x6,x7,x8,x9,x10,x12,x13,x14,hy⟩:=h.y
 obtain⟨a0,a1,a2,a3,a4,a5,a6,b5,b6,rfl⟩:=ht
 obtain⟨c0,c1,c2,c3,c4,c5,c6,d5,d6,hT⟩:=(cW m).code hx he
 have hl:=aO hy
 have hlt:=h.lt
 have hle:=(mono m).code hx
 have hnv:σ.nv<4611686018427387904:=by have h1:σ.nv+1<=x.2.nv:=hle.nv;have h2:=hB.hi;omega
 have hfs:σ.fs.length<1000000:=by have h1:=hle.len;have h2:=hB.fs;simp[Mk.push,Mk.var]at h1;omega
 have hs:encZ (.rs e to)=[.int .i64 1,.int .i64 0,.int .i64 0,.int .i64 0,.int .i64 0,.int .i64 0,.sl .nil [],.sl .nil [],.int .i64 e.k,.int .i64 e.n,.sl e.gv (TM.one (.int .i64) e.vs),.bool e.r,.sl e.g (bW e.ks),.int .i64 to]:=by
  rw[show encZ (.rs e to)=.int .i64 1::(zT++(cD e++[.int .i64 to])) from rfl,aL];rfl
 rw[hs]
 generalize hS1:S++[aP.cells 68 false [j_ 1,j_ 0,j_ 0,j_ 0,j_ 0,j_ 0,k_,k_,j_ e.k,j_ e.n,.iv (.sl e.gv (TM.one (.int .i64) e.vs)),.iv (.bool e.r),.iv (.sl e.g (bW e.ks)),j_ to]]=S1
 have k1:aJ [] S S1:=by rw[<-hS1];exact aJ.app _ _ _
 have y1:=k1.get _ _ (by simp) hy
 generalize hTT:S1.set (n+3) (.lp .busy none (e23 jm n r t0 x6 x7 x8 x9 x10 x12 x13 x14) [12,13] aAa aAb)=T
 have k2:aJ [n+3] S1 T:=by rw[<-hTT];exact aJ.set _ (by simp) _
 have t6:T[S.length]? = some (.cells 68 false [j_ 1,j_ 0,j_ 0,j_ 0,j_ 0,j_ 0,k_,k_,j_ e.k,j_ e.n,.iv (.sl e.gv (TM.one (.int .i64) e.vs)),.iv (.bool e.r),.iv (.sl e.g (bW e.ks)),j_ to]):=by
  rw[<-hTT,aU (by omega),<-hS1,dG]
 have k12:=(k1.mono (J:=[n+3]) (by simp)).trans k2
 have ta:=k12.get _ _ (by simp) h.a
 have tb:=k12.get _ _ (by simp) h.b
 have tc:=k12.get _ _ (by simp) h.c
 have ty:T[n+3]? = some (.lp .busy none (e23 jm n r t0 x6 x7 x8 x9 x10 x12 x13 x14) [12,13] aAa aAb):=by rw[<-hTT];exact bQ (aO y1) _
 have hM:=h.ms.keep k12 (by simp;omega) (by simp;omega)
 -- the function
 have c20:=xL hM (.sl .full [[.int .i64 to]]) (.bool false) (.bool true) (.sl .nil []) (.int .i64 a0) (.int .i64 a1) (.int .i64 a2) (.int .i64 a3) (.int .i64 a4) (.sl a5 b5) (.sl a6 b6) rfl
 have hM2:=hM.push (f:=fnF .full [to] false true [.int .i64 a0,.int .i64 a1,.int .i64 a2,.int .i64 a3,.int .i64 a4,.sl a5 b5,.sl a6 b6]) rfl rfl hfs
 have kk2:aJ [jm,jf] T _:=tC (S:=T) (jm:=jm) (jf:=jf) (.cells σ.fs.length true (cG (σ.fs++[fnF .full [to] false true [.int .i64 a0,.int .i64 a1,.int .i64 a2,.int .i64 a3,.int .i64 a4,.sl a5 b5,.sl a6 b6]]))) (mkB jf (σ.push (fnF .full [to] false true [.int .i64 a0,.int .i64 a1,.int .i64 a2,.int .i64 a3,.int .i64 a4,.sl a5 b5,.sl a6 b6])))
 rw[show fnF .full [to] false true [.int .i64 a0,.int .i64 a1,.int .i64 a2,.int .i64 a3,.int .i64 a4,.sl a5 b5,.sl a6 b6]=[.sl .full [[.int .i64 to]],.bool false,.bool true,.sl .nil [],.int .i64 a0,.int .i64 a1,.int .i64 a2,.int .i64 a3,.int .i64 a4,.sl a5 b5,.sl a6 b6] from rfl]at hM2 kk2 hx
 generalize hσ2:σ.push [.sl .full [[.int .i64 to]],.bool false,.bool true,.sl .nil [],.int .i64 a0,.int .i64 a1,.int .i64 a2,.int .i64 a3,.int .i64 a4,.sl a5 b5,.sl a6 b6]=σ2 at *
 have hnv2:σ2.nv=σ.nv:=by rw[<-hσ2];rfl
 generalize hT2:(T.set jf (.cells σ.fs.length true (cG (σ.fs++[[.sl .full [[.int .i64 to]],.bool false,.bool true,.sl .nil [],.int .i64 a0,.int .i64 a1,.int .i64 a2,.int .i64 a3,.int .i64 a4,.sl a5 b5,.sl a6 b6]])))).set jm (mkB jf σ2)=T2 at *
 -- the variable
 have c22:=aFx hM2 (σ.fs.length:Int)
 have hM3:=hM2.var (by omega)
 have kk3:aJ [jm,jf] T2 (T2.set jm (mkB jf σ2.var)):=jA _
 generalize hT3:T2.set jm (mkB jf σ2.var)=T3 at *
 rw[hnv2]at c22
 -- the step in memory
 let Z:aP:=.cells 68 false [j_ 0,j_ 2,j_ σ.nv,j_ 0,j_ 0,j_ σ.fs.length,k_,k_,j_ 0,j_ 0,k_,z_,k_,j_ σ.nv]
 have kk4:aJ [] T3 (T3++[Z]):=aJ.app _ _ _
 have hM4:=hM3.keep kk4 (by simp) (by simp)
 have z4:(T3++[Z])[T3.length]? = some Z:=dG _ _
 -- the code
 obtain⟨T5,c24,hM5,kk5⟩:=hC hx he (by show b0<=σ2.nv+1;omega) hB hM4
 have c25:=mJ σ.nv
 have q23:=(kk2.trans kk3).trans (kk4.mono (by simp))
 have q25:=q23.trans kk5
 have ne3:T3.length≠jm∧T3.length≠jf:=by have:=aO hM3.own;have:=aO hM3.row;omega
 have z5:=kk5.get _ _ (by simp;omega) z4
 have t6b:=(kk2.get _ _ (by simp;omega) t6)
 have t6c:=kk3.get _ _ (by simp;omega) t6b
 have t6d:=kk4.get _ _ (by simp) t6c
 have tab:=kk2.get _ _ (by simp;omega) ta
 have tac:=kk4.get _ _ (by simp) (kk3.get _ _ (by simp;omega) tab)
 have tbb:=q25.get _ _ (by simp;omega) tb
 rw[hT]at c24 ⊢
 rw[aL]at c24
 have l3:=aO hM3.own
 have l3n:n+3<T3.length:=aO (kk3.get _ _ (by simp;omega) (kk2.get _ _ (by simp;omega) ty))
 have p2:∀X,(T5.set T3.length X)[T3.length]? = some X:=fun X=>bQ (aO z5) X
 have p3:∀X,(T5.set T3.length X)[n+1]? = T5[n+1]? := fun X=>aU (by omega) X
 let Z':aP:=.cells 68 false [j_ 0,j_ 2,j_ σ.nv,j_ 0,j_ 0,j_ σ.fs.length,k_,.iv (.sl .full [[.int .i64 c0,.int .i64 c1,.int .i64 c2,.int .i64 c3,.int .i64 c4,.sl c5 d5,.sl c6 d6]]),j_ 0,j_ 0,k_,z_,k_,j_ σ.nv]
 let R:aP:=.cells 46 false [j_ 2,j_ σ.nv,j_ 0,j_ 0,j_ σ.fs.length,k_,.iv (.sl .full [[.int .i64 c0,.int .i64 c1,.int .i64 c2,.int .i64 c3,.int .i64 c4,.sl c5 d5,.sl c6 d6]])]
 have kz:aJ [T3.length] T5 (T5.set T3.length Z'):=aJ.set _ (by simp) _
 have kr:aJ [n+1] (T5.set T3.length Z') ((T5.set T3.length Z').set (n+1) R):=aJ.set _ (by simp) _
 have ybb:=q25.get _ _ (by simp;omega) ty
 have y6:=kr.get _ _ (by simp) (kz.get _ _ (by simp;omega) ybb)
 have ta2:=kk2.get _ _ (by simp;omega) ta
 refine⟨((T5.set T3.length Z').set (n+1) R).set (n+3) (.lp .ready none (e23 jm n r t0 x6 x7 x8 x9 x10 x12 x13 x14) [12,13] aAa aAb),?_,?_,?_⟩
 ·refine aDo (env2:=[.ptr jm 64 0,r,.iv (.agg t0),.ptr n 62 0,.ptr (n+1) 46 0,.hole,.ptr S.length 68 0,x7,x8,x9,x10,.fn 71 [] [.ptr (n+2) 72 0],j_ i,.iv (.agg [.int .i64 1,.int .i64 0,.int .i64 0,.int .i64 0,.int .i64 0,.int .i64 0,.sl .nil [],.sl .nil [],.int .i64 e.k,.int .i64 e.n,.sl e.gv (TM.one (.int .i64) e.vs),.bool e.r,.sl e.g (bW e.ks),.int .i64 to]),x14]) (env3:=[.ptr jm 64 0,r,.iv (.agg t0),.ptr n 62 0,.ptr (n+1) 46 0,.hole,.ptr S.length 68 0,x7,j_ σ.fs.length,.ptr T3.length 68 0,j_ σ.nv,.fn 71 [] [.ptr (n+2) 72 0],j_ i,.iv (.agg [.int .i64 1,.int .i64 0,.int .i64 0,.int .i64 0,.int .i64 0,.int .i64 0,.sl .nil [],.sl .nil [],.int .i64 e.k,.int .i64 e.n,.sl e.gv (TM.one (.int .i64) e.vs),.bool e.r,.sl e.g (bW e.ks),.int .i64 to]),z_]) (S1:=S1) (S2:=(T5.set T3.length Z').set (n+1) R) hy rfl ?_ y1 ?_ y6
  ·subst hS1
   simp (disch:=omega) only[aAa,e23,go_sem]
  ·rw[hTT]
   unfold aV oG at *
   simp only[Z]at tac t6d c24 z5
   simp (disch:=omega) only[aAb,go_sem,t6,ta,tb,c20,ta2,c22,tac,t6d,aF c25,c24,z5,p2,p3,tbb]
   rfl
 ·refine⟨?_,?_,?_,⟨x6,x7,x8,x9,x10,x12,x13,x14,bQ (aO y6) _⟩,?_,h.lt⟩
  ·rw[aU (by omega)];exact kr.get _ _ (by simp) (kz.get _ _ (by simp;omega) (q25.get _ _ (by simp;omega) ta))
  ·rw[aU (by omega),bQ (by simp;exact aO tbb)];rfl
  ·rw[aU (by omega)];exact kr.get _ _ (by simp) (kz.get _ _ (by simp;omega) (q25.get _ _ (by simp;omega) tc))
  ·exact((hM5.keep kz (by simp;omega) (by simp;omega)).keep kr (by simp;omega) (by simp;omega)).keep (aJ.set (I:=[n+3]) _ (by simp) _) (by simp;omega) (by simp;omega)
 ·refine⟨?_,fun q B hq hb=>?_⟩
  ·have:=q25.len;have:=k12.len;simp;omega
  ·simp at hq
   have hlq:=aO hb
   have u1:=k12.get q B (by simp;omega) hb
   have u2:=q25.get q B (by simp;omega) u1
   have hlS:S.length<=T3.length:=by have:=k12.len;have:=kk2.len;have:=kk3.len;omega
   exact(aJ.set (I:=[n+3]) _ (by simp) _).get q B (by simp;omega) (kr.get q B (by simp;omega) (kz.get q B (by simp;omega) u2))
def uU (b0:Int)(n:Nat):Prop:=∀ {l:List St} {r:TV} {t:List IV} {σ:Mk} {x:List IV×Mk} {S:aA} {jm jf:Nat},bN n l.reverse t σ=some x->SR r (eQ l)->TmO t->(∀s∈l,SO s)->l.length<=2000000->b0<=σ.nv->Bd b0 x.2->MkS S jm jf σ ->
 ∃S',(lim K).call 23 [.ptr jm 64 0,r,.iv (.agg t)] S=.ret (.iv (.agg x.1),S')∧MkS S' jm jf x.2∧aJ [jm,jf] S S'
theorem aVs (env:Env)(S:aA)(a b c d e f g h i j k l m n:IV):bL env S (.iv (.cp [a,b,c,d,e,f,g,h,i,j,k,l,m,n])) 14=some [.iv a,.iv b,.iv c,.iv d,.iv e,.iv f,.iv g,.iv h,.iv i,.iv j,.iv k,.iv l,.iv m,.iv n]:=by simp[bL,sub]
attribute [go_sem] aVs
theorem SR.len {r:TV}{l:M_}(h:SR r l)(S:aA):aC2 .sl S r=some (j_ l.length):=by
 rcases h with⟨rfl,rfl⟩|⟨j,rfl⟩|rfl<;>rfl
theorem SR.ix {r:TV}{l:List St}(h:SR r (eQ l)){i:Nat}(hi:i<l.length)(ho:∀s∈l,SO s):indexAddrS 14 r (i:Int)=some (.iv (.cp (encZ l[i]))):=by
 have hg:(eQ l)[(i:Int).toNat]? = some (encZ l[i]):=by
  rw[Int.toNat_natCast]
  unfold eQ
  rw[List.getElem?_map,List.getElem?_eq_getElem hi]
  rfl
 have hw:(encZ l[i]).length=14:=(nP ho _ (List.mem_of_getElem? hg)).1
 rcases h with⟨h0,rfl⟩|⟨j,rfl⟩|rfl
 ·rw[h0]at hg;simp at hg
 ·exact kP (by omega) hg hw
 ·exact sT (by omega) hg hw
theorem aLt {b0:Int}{N:Nat}(hb0:0<=b0∧b0<=1152921504606846976)(hC:∀m,m<=N->rJ b0 m){n jm jf:Nat}{r:TV}{t0:List IV}{L:List St}(hr:SR r (eQ L))(hL:∀s∈L,SO s)(hl:L.length<=2000000):∀(k f:Nat) (t:List IV) (σ:Mk) (x:List IV×Mk) (S:aA) (x3 x4:TV),k<=L.length->f<=N+1->bN f (L.take k).reverse t σ=some x->TmO t->b0<=σ.nv->Bd b0 x.2->YS S n jm jf r t0 t σ ->
  ∃(S':aA) (y3 y4:TV),lp' (lim K) t71L0 [.yld (n+3),.ptr (n+2) 72 0,j_ ((k:Int)-1),x3,x4] S=.ret (.exit 0,[.yld (n+3),.ptr (n+2) 72 0,j_ (-1),y3,y4],S')∧YS S' n jm jf r t0 x.1 x.2∧aJ [jm,jf,n+1,n+3] S S'
 | 0,f,t,σ,x,S,x3,x4,hk,hf,hx,ht,hb,hB,hY=>by
  cases f with
  | zero=>simp[bN]at hx
  | succ f =>
   rw[List.take_zero,List.reverse_nil,bN]at hx
   cases hx
   refine⟨S,z_,x4,aI K _ _ t71L0.eq_1 ?_,hY,aJ.refl _ _⟩
   rw[show((0:Nat):Int)-1 = -1 from rfl]
   simp (disch:=omega) only[go_sem]
 | k+1,f,t,σ,x,S,x3,x4,hk,hf,hx,ht,hb,hB,hY=>by
  have hla:k<L.length:=by omega
  have hts:(L.take (k+1)).reverse=L[k]::(L.take k).reverse:=by
   rw[List.take_add_one,List.getElem?_eq_getElem hla];simp
  rw[hts]at hx
  have hix:=hr.ix hla hL
  have hso:=hL L[k] (List.getElem_mem _)
  have hc:=hY.c
  rw[show(((k+1:Nat):Int)-1)=(k:Int) by omega]
  cases f with
  | zero=>simp[bN]at hx
  | succ f =>
   generalize L[k]=s at *
   cases s with
   | tm c to =>
    have hcT:TmO c:=hso
    rw[bN]at hx
    obtain⟨S1,y1,hY1,k1⟩:=bHc hY ht hcT to (k:Int)
    obtain⟨S2,z3,z4,ih,hY2,k2⟩:=aLt hb0 hC hr hL hl k f _ σ x S1 e_ z_ (by omega) (by omega) hx (TmO.kids hcT _ _) hb hB hY1
    refine⟨S2,z3,z4,aI K _ _ t71L0.eq_1 ?_,hY2,(k1.mono (by simp)).trans k2⟩
    obtain⟨c0,c1,c2,c3,c4,c5,c6,d5,d6,rfl⟩:=hcT
    rw[show encZ (.tm [.int .i64 c0,.int .i64 c1,.int .i64 c2,.int .i64 c3,.int .i64 c4,.sl c5 d5,.sl c6 d6] to)=[.int .i64 0,.int .i64 c0,.int .i64 c1,.int .i64 c2,.int .i64 c3,.int .i64 c4,.sl c5 d5,.sl c6 d6,.int .i64 0,.int .i64 0,.sl .nil [],.bool false,.sl .nil [],.int .i64 to] from rfl]at hix y1
    simp (disch:=omega) only[go_sem,hc,hix,y1,er_ret,aH]
    exact congrArg er ih
   | rs e to =>
    have heX:XO e:=hso
    rw[bN]at hx
    obtain⟨y,hy,hx⟩:=b_ hx
    have l1:=(mono f).code hy
    have l2:=(mono f).laid hx
    obtain⟨S1,y1,hY1,k1⟩:=bHd hb0 (hC f (by omega)) hY ht heX hy hb (hB.le l2) (k:Int)
    obtain⟨S2,z3,z4,ih,hY2,k2⟩:=aLt hb0 hC hr hL hl k f _ y.2 x S1 e_ z_ (by omega) (by omega) hx (TmO.fun ..) (by have:σ.nv+1<=y.2.nv:=l1.nv;omega) hB hY1
    refine⟨S2,z3,z4,aI K _ _ t71L0.eq_1 ?_,hY2,k1.trans k2⟩
    have hs:encZ (.rs e to)=[.int .i64 1,.int .i64 0,.int .i64 0,.int .i64 0,.int .i64 0,.int .i64 0,.sl .nil [],.sl .nil [],.int .i64 e.k,.int .i64 e.n,.sl e.gv (TM.one (.int .i64) e.vs),.bool e.r,.sl e.g (bW e.ks),.int .i64 to]:=by
     rw[show encZ (.rs e to)=.int .i64 1::(zT++(cD e++[.int .i64 to])) from rfl,aL];rfl
    rw[hs]at hix y1
    simp (disch:=omega) only[go_sem,hc,hix,y1,er_ret,aH]
    exact congrArg er ih
theorem bHe {r:TV}{l:M_}(h:SR r l)(S:aA):(lim K).call 44 [r] S=.ret (.fn 71 [] [.ptr S.length 72 0],S++[.cells 72 false [r]]):=by
 refine aB K _ (fn:=t44) rfl rfl ?_
 rcases h with⟨rfl,rfl⟩|⟨j,rfl⟩|rfl <;>
  simp (disch:=omega) only[t44,go_sem]
theorem aQ9 {b0:Int}{N:Nat}(hb0:0<=b0∧b0<=1152921504606846976)(hC:∀m,m<=N->rJ b0 m):uU b0 (N+1):=by
 intro l r t σ x S jm jf hx hr ht hl hlen hb hB hM
 have hj:jm<S.length∧jf<S.length:=⟨aO hM.own,aO hM.row⟩
 generalize hS4:S++[aP.cells 62 false [.ptr jm 64 0],.cells 46 false (t.map .iv),.cells 72 false [r],.lp .ready none (e23 jm S.length r t u_ u_ u_ u_ u_ u_ u_ u_) [12,13] aAa aAb]=S4
 have k4:aJ [] S S4:=by rw[<-hS4];exact aJ.app _ _ _
 have hY:YS S4 S.length jm jf r t t σ:=by
  refine⟨?_,?_,?_,⟨u_,u_,u_,u_,u_,u_,u_,u_,?_⟩,hM.keep k4 (by simp) (by simp),hj⟩<;>(rw[<-hS4];simp)
 obtain⟨S5,y3,y4,l1,hY5,k5⟩:=aLt hb0 hC hr hl hlen l.length (N+1) t σ x S4 u_ u_ (Nat.le_refl _) (Nat.le_refl _) (by rw[List.take_length];exact hx) ht hb hB hY
 have hc4:=hY.c
 have hlen4:=hr.len S4
 rw[nJ]at hlen4
 have c71:(lim K).call 71 [.yld (S.length+3),.ptr (S.length+2) 72 0] S4=.ret (u_,S5):=by
  refine aB K _ (fn:=t71) rfl rfl ?_
  simp (disch:=omega) only[t71,go_sem,hc4,hlen4,aH]
  rw[l1]
  simp (disch:=omega) only[go_sem]
 have c44:=bHe hr (S++[aP.cells 62 false [.ptr jm 64 0],.cells 46 false (t.map .iv)])
 rw[show(S++[aP.cells 62 false [.ptr jm 64 0],.cells 46 false (t.map .iv)]).length=S.length+2 by simp]at c44
 obtain⟨x6,x7,x8,x9,x10,x12,x13,x14,hy5⟩:=hY5.y
 have hb5:=hY5.b
 have hlt:=aO hy5
 have hb6:∀X,(S5.set (S.length+3) X)[S.length+1]? = some (.cells 46 false (x.1.map .iv)):=fun X=>by rw[aU (by omega)];exact hb5
 obtain⟨a0,a1,a2,a3,a4,a5,a6,b5,b6,rfl⟩:=ht
 obtain⟨c0,c1,c2,c3,c4,c5,c6,d5,d6,hT⟩:=(cW (N+1)).laid hx ⟨_,_,_,_,_,_,_,_,_,rfl⟩ (fun s hs=>hl s (List.mem_reverse.1 hs))
 rw[hT]at hb6 ⊢
 have hk5:aJ [jm,jf] S S5:=⟨Nat.le_trans k4.len k5.len,fun q B hq hb=>by
  have:=aO hb
  exact k5.get q B (by simp at hq ⊢;omega) (k4.get q B (by simp) hb)⟩
 refine⟨S5.set (S.length+3) (.lp .exhausted none (e23 jm S.length r [.int .i64 a0,.int .i64 a1,.int .i64 a2,.int .i64 a3,.int .i64 a4,.sl a5 b5,.sl a6 b6] x6 x7 x8 x9 x10 x12 x13 x14) [12,13] aAa aAb),aB K _ (fn:=t23) rfl rfl ?_,hY5.ms.keep (aJ.set (I:=[S.length+3]) _ (by simp) _) (by simp;omega) (by simp;omega),⟨by simpa using hk5.len,fun q B hq hb=>by
  have:=aO hb
  rw[aU (by omega)];exact hk5.get q B hq hb⟩⟩
 rw[<-hS4]at c71
 unfold aAa aAb e23 at *
 simp only[List.map_cons,List.map_nil]at c44 c71 hb6
 rcases hr with⟨_,rfl⟩|⟨j,rfl⟩|rfl
 ·simp (disch:=omega) only[t23,go_sem,List.append_assoc,n_,c44,c71,hy5,hb6]
 ·simp (disch:=omega) only[t23,go_sem,List.append_assoc,n_,c44,c71,hy5,hb6]
 ·simp (disch:=omega) only[t23,go_sem,List.append_assoc,n_,c44,c71,hy5,hb6]
def aVt (b0:Int)(n:Nat):Prop:=∀ {e:Ex} {k0 k1:Int} {σ:Mk} {x:List IV×Mk} {S:aA} {jm jf:Nat},nO n e [.int .i64 k0,.int .i64 k1] σ=some x->XO e->b0<=σ.nv->Bd b0 x.2->MkS S jm jf σ ->
 ∃S',(lim K).call 50 [.ptr jm 64 0,.iv (.agg (cD e)),.iv (.agg [.int .i64 k0,.int .i64 k1])] S=.ret (.iv (.agg x.1),S')∧MkS S' jm jf x.2∧aJ [jm,jf] S S'
def aVu (b0:Int)(n:Nat):Prop:=∀ {l:List Ex} {g:Tag} {k0 k1:Int} {σ:Mk} {x:List IV×Mk} {S:aA} {jm jf:Nat},jT n l [.int .i64 k0,.int .i64 k1] σ=some x->(∀e∈l,XO e)->dN g l->l.length<=1048576->b0<=σ.nv->Bd b0 x.2->MkS S jm jf σ ->
 ∃S',(lim K).call 49 [.ptr jm 64 0,.iv (.sl g (bW l)),.iv (.agg [.int .i64 k0,.int .i64 k1])] S=.ret (.iv (.agg x.1),S')∧MkS S' jm jf x.2∧aJ [jm,jf] S S'
theorem bKm {S:aA}{j:Nat}{a:List IV}{r:M_}(h:cO 2 (a::r)):cH S (.sl 2) (.tsl j (a::r)) none (some 1) none=some (.iv (.sl .no [a])):=by
 have hf:iE 2 (a::r)=true:=sW (fun y hy=>(h y hy).1)
 simp[cH,hf,fM,fC,lY,show(1:Int)<=(r.length:Int)+1 by omega]
theorem bKn {S:aA}{j:Nat}{a:List IV}{r:M_}(h:cO 2 (a::r)):cH S (.sl 2) (.tsl j (a::r)) (some 1) none none=some (.iv (.sl .no r)):=by
 have hf:iE 2 (a::r)=true:=sW (fun y hy=>(h y hy).1)
 simp[cH,hf,fM,fC,lY,show(1:Int)<=(r.length:Int)+1 by omega]
theorem aRa {b0:Int}{n:Nat}(hb0:0<=b0∧b0<=1152921504606846976)(hV:vS b0 n)(hVs:lT b0 n)(hLd:uU b0 n)(hC:rJ b0 n)(hCt:aVt b0 n)(hSq:aVu b0 n):rJ b0 (n+1):=by
 intro e k0 k1 σ x S jm jf hx ho hb hB hM
 have hwe:=Ex.w_eq e
 have hw2:=ho.2
 have hkl:=Ex.ws_len e.ks
 have hlE:=aG e.ks
 rw[dR]at hx
 by_cases h8:e.k=8
 ·rw[if_pos h8]at hx
  obtain⟨y,hy,hx⟩:=b_ hx
  obtain⟨s1,s2,s3,s4⟩:=(cW n).values hy (fun x hx=>ho.kid hx)
  split at hx
  ·cases hx
  ·rename_i a r hat
   have l1:=(mono n).values hy
   have l2:=(mono n).laid hx
   have hBy:Bd b0 y.2.2:=hB.le l2
   obtain⟨js,ja,S1,c45,g1,g2,hd,hM1,hk1⟩:=hVs (g:=e.g) hy (fun x hx=>ho.kid hx) (by omega) hb hBy hM
   rw[hat]at c45 s1 s4
   have hel:=AtO.el s1
   have hea:cO 2 [a]:=fun y hy=>by rw[List.mem_singleton]at hy;subst hy;exact hel _ (by simp)
   have her:cO 2 r:=fun y hy=>hel y (by simp[hy])
   rw[List.length_cons]at s4
   have c47:=bHb [(.no,[a]),(.full,[[.int .i64 k0,.int .i64 k1]]),(.no,r)] (by simp) (by
    intro p hp
    simp at hp
    rcases hp with rfl|rfl|rfl
    ·exact hea
    ·intro y hy;simp at hy;subst hy;exact⟨rfl,rfl⟩
    ·exact her) (by simp only[rI,List.length_cons,List.length_nil];omega) (by simp only[rI,List.length_cons,List.length_nil];omega) S1
   have hcat:aDs [((.no:Tag),[a]),(.full,[[.int .i64 k0,.int .i64 k1]]),(.no,r)]=a::[.int .i64 k0,.int .i64 k1]::r:=by simp[aDs]
   rw[hcat,show [((.no:Tag),[a]),(.full,[[.int .i64 k0,.int .i64 k1]]),(.no,r)].map xM=[[.sl .no [a]],[.sl .full [[.int .i64 k0,.int .i64 k1]]],[.sl .no r]] from rfl]at c47
   generalize hS2:S1++[aP.tok (a::[.int .i64 k0,.int .i64 k1]::r).length 2 53]=S2 at *
   have kap:aJ [] S1 S2:=by rw[<-hS2];exact aJ.app _ _ _
   have hM2:=hM1.keep kap (by simp) (by simp)
   have c46:=bG9 S2 S1.length (l:=a::[.int .i64 k0,.int .i64 k1]::r) (by simp)
   rw[dE _ (by simp)]at c46
   obtain⟨S3,c23,hM3,hk3⟩:=hLd hx (SR.acc js _) (TmO.call ..) s2 (by have:=hBy.hi;omega) (Int.le_trans hb l1.nv) hB hM2
   refine⟨S3,aB K _ (fn:=t24) rfl rfl ?_,hM3,(hk1.trans (kap.mono (by simp))).trans hk3⟩
   obtain⟨u0,u1,u2,u3,u4,u5,u6,v5,v6,hXT⟩:=(cW n).laid hx (TmO.call ..) (fun s hs=>s2 s (List.mem_reverse.1 hs))
   rw[hXT]at c23 ⊢
   rw[dE ja (by simp)]at c45
   have q1:=fun S=>bKm (S:=S) (j:=ja) hel
   have q2:=fun S=>bKn (S:=S) (j:=ja) hel
   unfold cU at *
   rw[aL]
   simp (disch:=omega) only[t24,go_sem,c45,q1,q2,c47,c46,c23]
 ·rw[if_neg h8]at hx
  by_cases h6:e.k=6
  ·rw[if_pos h6]at hx
   split at hx
   ·rename_i c p q rr hks
    obtain⟨y,hy,hx⟩:=b_ hx
    obtain⟨z,hz,hx⟩:=b_ hx
    obtain⟨w,hw,hx⟩:=b_ hx
    have oc:XO c:=ho.kid (by rw[hks];simp)
    have op:XO p:=ho.kid (by rw[hks];simp)
    have oq:XO q:=ho.kid (by rw[hks];simp)
    have l1:=(mono n).value hy
    have l2:=(mono n).code hz
    have l3:=(mono n).code hw
    have l4:=(mono n).laid hx
    obtain⟨⟨a0,a1,ha⟩,s2,s3⟩:=(cW n).value hy oc
    obtain⟨rv,S1,c48,hr,hM1,hk1⟩:=hV hy oc hb (hB.le ((l2.trans l3).trans l4)) hM
    obtain⟨S2,c24a,hM2,hk2⟩:=hC hz op (Int.le_trans hb l1.nv) (hB.le (l3.trans l4)) hM1
    obtain⟨S3,c24b,hM3,hk3⟩:=hC hw oq (Int.le_trans hb (l1.trans l2).nv) (hB.le l4) hM2
    have hBy:Bd b0 y.2.2:=hB.le ((l2.trans l3).trans l4)
    obtain⟨S4,c23,hM4,hk4⟩:=hLd hx hr (TmO.if ..) s2 (by have:=hBy.hi;omega) (Int.le_trans hb ((l1.trans l2).trans l3).nv) hB hM3
    have hix:∀i:Int,0<=i∧i<e.ks.length->indexAddrS 5 (.iv (.sl e.g (bW e.ks))) i=some (.iv (.cp (cD (e.ks.getD i.toNat default)))):=fun i hi=>ixE hi
    have h3l:3<=e.ks.length:=by rw[hks];simp
    have i0:=hix 0 (by omega)
    have i1:=hix 1 (by omega)
    have i2:=hix 2 (by omega)
    rw[show e.ks.getD (0:Int).toNat default=c by rw[hks];rfl]at i0
    rw[show e.ks.getD (1:Int).toNat default=p by rw[hks];rfl]at i1
    rw[show e.ks.getD (2:Int).toNat default=q by rw[hks];rfl]at i2
    have gc:=mP (d:=c)
    have gp:=mP (d:=p)
    have gq:=mP (d:=q)
    obtain⟨c0,c1,c2,c3,c4,c5,c6,d5,d6,hT1⟩:=(cW n).code hz op
    obtain⟨e0,e1,e2,e3,e4,e5,e6,f5,f6,hT2⟩:=(cW n).code hw oq
    obtain⟨u0,u1,u2,u3,u4,u5,u6,v5,v6,hXT⟩:=(cW n).laid hx (TmO.if ..) (fun s hs=>s2 s (List.mem_reverse.1 hs))
    rw[hXT]at c23 ⊢
    rw[ha]at c48 c23
    rw[hT1]at c24a c23
    rw[hT2]at c24b c23
    rw[aL]at c48 c24a c24b i0 i1 i2 gc gp gq ⊢
    unfold ifT at *
    refine⟨S4,aB K _ (fn:=t24) rfl rfl ?_,hM4,((hk1.trans hk2).trans hk3).trans hk4⟩
    rcases hr with⟨_,rfl⟩|⟨j,rfl⟩|rfl
    ·simp (disch:=omega) only[t24,go_sem,i0,i1,i2,gc,gp,gq,c48,c24a,c24b,c23]
    ·simp (disch:=omega) only[t24,go_sem,i0,i1,i2,gc,gp,gq,c48,c24a,c24b,c23]
    ·simp (disch:=omega) only[t24,go_sem,i0,i1,i2,gc,gp,gq,c48,c24a,c24b,c23]
   ·cases hx
  ·rw[if_neg h6]at hx
   by_cases h10:e.k=10
   ·rw[if_pos h10]at hx
    obtain⟨S1,c49,hM1,hk1⟩:=hSq (g:=e.g) hx (fun x hx=>ho.kid hx) ((Ex.ok_eq e).1 ho.1).2.2.2.2.1 (by omega) hb hB hM
    obtain⟨c0,c1,c2,c3,c4,c5,c6,d5,d6,hT⟩:=(cW n).sq hx (fun x hx=>ho.kid hx)
    rw[hT]at c49 ⊢
    refine⟨S1,aB K _ (fn:=t24) rfl rfl ?_,hM1,hk1⟩
    rw[aL]
    simp (disch:=omega) only[t24,go_sem,c49]
   ·rw[if_neg h10]at hx
    by_cases h11:e.k=11
    ·rw[if_pos h11]at hx
     obtain⟨S1,c50,hM1,hk1⟩:=hCt hx ho hb hB hM
     obtain⟨c0,c1,c2,c3,c4,c5,c6,d5,d6,hT⟩:=(cW n).ctl hx ho
     rw[hT]at c50 ⊢
     refine⟨S1,aB K _ (fn:=t24) rfl rfl ?_,hM1,hk1⟩
     rw[aL]at c50 ⊢
     simp (disch:=omega) only[t24,go_sem,c50]
    ·rw[if_neg h11]at hx
     obtain⟨y,hy,hx⟩:=b_ hx
     have l1:=(mono n).value hy
     have l4:=(mono n).laid hx
     obtain⟨⟨a0,a1,ha⟩,s2,s3⟩:=(cW n).value hy ho
     have hBy:Bd b0 y.2.2:=hB.le l4
     obtain⟨rv,S1,c48,hr,hM1,hk1⟩:=hV hy ho hb hBy hM
     have c46:=aAo S1 [[.int .i64 k0,.int .i64 k1],[.int .i64 a0,.int .i64 a1]]
     rw[ha]at hx
     obtain⟨S4,c23,hM4,hk4⟩:=hLd hx hr (TmO.call ..) s2 (by have:=hBy.hi;omega) (Int.le_trans hb l1.nv) hB hM1
     obtain⟨c0,c1,c2,c3,c4,c5,c6,d5,d6,hT⟩:=(cW n).laid hx (TmO.call ..) (fun s hs=>s2 s (List.mem_reverse.1 hs))
     rw[hT]at c23 ⊢
     rw[ha]at c48
     rw[aL]at c48 ⊢
     unfold cU at *
     refine⟨S4,aB K _ (fn:=t24) rfl rfl ?_,hM4,hk1.trans hk4⟩
     rcases hr with⟨_,rfl⟩|⟨j,rfl⟩|rfl
     ·simp (disch:=omega) only[t24,go_sem,c48,c46,c23]
     ·simp (disch:=omega) only[t24,go_sem,c48,c46,c23]
     ·simp (disch:=omega) only[t24,go_sem,c48,c46,c23]
def rK (v f:Int):aP:=.cells 68 false [.iv (.int .i64 0),.iv (.int .i64 2),.iv (.int .i64 v),.iv (.int .i64 0),.iv (.int .i64 0),.iv (.int .i64 f),.iv (.sl .nil []),.iv (.sl .nil []),.iv (.int .i64 0),.iv (.int .i64 0),.iv (.sl .nil []),.iv (.bool false),.iv (.sl .nil []),.iv (.int .i64 v)]
def jW:aP:=.cells 68 false [.iv (.int .i64 0),.iv (.int .i64 0),.iv (.int .i64 0),.iv (.int .i64 0),.iv (.int .i64 0),.iv (.int .i64 0),.iv (.sl .nil []),.iv (.sl .nil []),.iv (.int .i64 0),.iv (.int .i64 0),.iv (.sl .nil []),.iv (.bool false),.iv (.sl .nil []),.iv (.int .i64 0)]
theorem aF0 {U:aA}{jm jf z:Nat}{σ:Mk}{f:List IV}(hM:MkS U jm jf σ)(hz:U[z]? = some jW)(hf:f.length=11)(hfc:f.all fY=true)(hfs:σ.fs.length<1000000)(hnv:σ.nv<4611686018427387904):
  ∃(T4:aA),(lim K).call 22 [.ptr jm 64 0,j_ σ.fs.length] ((U.set jf (.cells σ.fs.length true (cG (σ.fs++[f])))).set jm (mkB jf (σ.push f)))=.ret (.tup [.iv (.agg (oG σ.nv σ.fs.length)),j_ σ.nv],T4) ∧
   T4[z]? = some jW∧(T4.set z (rK σ.nv σ.fs.length))[z]? = some (rK σ.nv σ.fs.length)∧MkS (T4.set z (rK σ.nv σ.fs.length)) jm jf (σ.push f).var∧aJ [jm,jf] U T4∧aJ [jm,jf,z] U (T4.set z (rK σ.nv σ.fs.length)):=by
 have hM2:=hM.push hf hfc hfs
 have c22:=aFx hM2 (σ.fs.length:Int)
 rw[show(σ.push f).nv=σ.nv from rfl]at c22
 have hM3:=hM2.var hnv
 have k2:aJ [jm,jf] U ((U.set jf (.cells σ.fs.length true (cG (σ.fs++[f])))).set jm (mkB jf (σ.push f))):=tC _ _
 have k3:=k2.trans (jA (jm:=jm) (jf:=jf) (mkB jf (σ.push f).var))
 have n1:z≠jm:=by
  rintro rfl
  have:=hM.own
  rw[hz]at this
  unfold jW mkB at this
  simp at this
 have n2:z≠jf:=by
  rintro rfl
  have:=hM.row
  rw[hz]at this
  unfold jW at this
  simp at this
 have z4:=k3.get z _ (by simp;exact⟨n1,n2⟩) hz
 refine⟨_,c22,z4,bQ (aO z4) _,hM3.keep (aJ.set (I:=[z]) _ (by simp) _) (by simpa using Ne.symm n1) (by simpa using Ne.symm n2),k3,(k3.mono (by simp)).trans (aJ.set _ (by simp) _)⟩
theorem aEh {n0:Nat}{S T:aA}{jm jf z js:Nat}{σ:Mk}{ss:List St}{s:St}(hM:MkS T jm jf σ)(hj:jm<n0∧jf<n0∧n0<=z)(g:Gl n0 S 14 67 (eQ ss) js)(hk:aJ [jm,jf,z] S T)(hgz:eQ ss≠[]->js≠z)(hs:∀s∈ss,SO s)(hss:SO s)(hsl:ss.length<=1000000)(hn0:n0<=S.length):
  ∃(T6:aA) (js':Nat),bY false 14 176 67 T (acc js (eQ ss)) (.iv (.sl .full [encZ s]))=some (acc js' (eQ (ss++[s])),T6)∧MkS T6 jm jf σ∧(∀ {S0:aA},S0.length=n0->aJ [jm,jf] S0 T->aJ [jm,jf] S0 T6):=by
 have g4:Gl n0 T 14 67 (eQ ss) js:=⟨fun h=>hk.get _ _ (by have:=g.new h;have:=hgz h;simp;omega) (g.tok h),g.new⟩
 obtain⟨js',T6,a1,gr⟩:=g4.more (b:=176) (hP.sl _ .full [encZ s]) (nP (l:=[s]) (fun x hx=>by rw[List.mem_singleton]at hx;subst hx;exact hss)) (nP hs) (cI (by rw[nJ];simp;omega)) (Nat.le_trans hn0 hk.len)
 refine⟨T6,js',?_,gr.mks g4 hM ⟨hj.1,hj.2.1⟩,fun {S0} h0 hk=>gr.keep g4 hk (by omega)⟩
 rw[a1,tD]
 rfl
theorem aLu {j:Nat}{a:List IV}{r:M_}(hw:a.length=2):indexAddrS 2 (.tsl j (a::r)) 0=some (.iv (.cp a)):=kP (by decide) rfl hw
theorem aVv {j:Nat}{a b:List IV}{r:M_}(hw:b.length=2):indexAddrS 2 (.tsl j (a::b::r)) 1=some (.iv (.cp b)):=kP (by decide) rfl hw
theorem aVw {b0:Int}{n:Nat}(hb0:0<=b0∧b0<=1152921504606846976)(hVs:lT b0 n)(hLd:uU b0 n):aVt b0 (n+1):=by
 intro e k0 k1 σ x S jm jf hx ho hb hB hM
 have hwe:=Ex.w_eq e
 have hw2:=ho.2
 have hkl:=Ex.ws_len e.ks
 have hlE:=aG e.ks
 rw[nO]at hx
 obtain⟨y,hy,hx⟩:=b_ hx
 obtain⟨s1,s2,s3,s4⟩:=(cW n).values hy (fun x hx=>ho.kid hx)
 have l1:=(mono n).values hy
 have hj:jm<S.length∧jf<S.length:=⟨aO hM.own,aO hM.row⟩
 by_cases h1:e.n=1
 ·rw[if_pos h1]at hx
  split at hx
  ·rename_i a b rr hat
   have l2:=(mono n).laid hx
   have hBy:Bd b0 y.2.2:=hB.le l2
   obtain⟨js,ja,S1,c45,g1,g2,hd,hM1,hk1⟩:=hVs (g:=e.g) hy (fun x hx=>ho.kid hx) (by omega) hb hBy hM
   rw[hat]at c45 s1
   obtain⟨a0,a1,rfl⟩:=s1 a (by simp)
   obtain⟨d0,d1,rfl⟩:=s1 b (by simp)
   have i0:=aLu (j:=ja) (a:=[.int .i64 a0,.int .i64 a1]) (r:=[.int .i64 d0,.int .i64 d1]::rr) rfl
   have i1:=aVv (j:=ja) (a:=[.int .i64 a0,.int .i64 a1]) (b:=[.int .i64 d0,.int .i64 d1]) (r:=rr) rfl
   have c77:=aLq S1 [[.int .i64 a0,.int .i64 a1],[.int .i64 k0,.int .i64 k1],[.int .i64 d0,.int .i64 d1]]
   obtain⟨S3,c23,hM3,hk3⟩:=hLd hx (SR.acc js _) (TmO.appl ..) s2 (by have:=hBy.hi;omega) (Int.le_trans hb l1.nv) hB hM1
   obtain⟨u0,u1,u2,u3,u4,u5,u6,v5,v6,hXT⟩:=(cW n).laid hx (TmO.appl ..) (fun s hs=>s2 s (List.mem_reverse.1 hs))
   rw[hXT]at c23 ⊢
   rw[dE ja (by simp)]at c45
   unfold eD at *
   refine⟨S3,aB K _ (fn:=t50) rfl rfl ?_,hM3,hk1.trans hk3⟩
   rw[aL]
   simp (disch:=omega) only[t50,go_sem,c45,i0,i1,c77,c23]
  ·cases hx
 ·rw[if_neg h1]at hx
  by_cases h0:e.n=0
  ·rw[if_pos h0]at hx
   split at hx
   ·rename_i a rr hat
    have l2:=(mono n).laid hx
    have l2':Le y.2.2 x.2:=((Le.var _).trans ((Le.var _).trans ((Le.push _ _).trans (Le.var _)))).trans l2
    have hBy:Bd b0 y.2.2:=hB.le l2'
    obtain⟨js,ja,S1,c45,g1,g2,hd,hM1,hk1⟩:=hVs (g:=e.g) hy (fun x hx=>ho.kid hx) (by omega) hb hBy hM
    rw[hat]at c45 s1
    obtain⟨a0,a1,rfl⟩:=s1 a (by simp)
    have i0:=aLu (j:=ja) (a:=[.int .i64 a0,.int .i64 a1]) (r:=rr) rfl
    have hv3:y.2.2.nv+3<=b0+1000000:=Int.le_trans (by have:y.2.2.nv+1+1+1<=x.2.nv:=l2.nv;omega) hB.hi
    have hfs:y.2.2.fs.length<1000000:=by have:=l2.len;have:=hB.fs;simp[Mk.var,Mk.push]at *;omega
    have c21:=rG hM1
    have hM2:=hM1.var (by omega)
    have c21':=rG hM2
    have hM3:=hM2.var (by show y.2.2.nv+1<_;omega)
    have kA:aJ [jm,jf] S1 (S1.set jm (mkB jf y.2.2.var)):=jA _
    have kB:=kA.trans (jA (jm:=jm) (jf:=jf) (mkB jf y.2.2.var.var))
    have nI:∀i∈[jm,jf],i<S.length:=fun i hi=>by simp at hi;rcases hi with rfl|rfl<;>omega
    generalize hTB:(S1.set jm (mkB jf y.2.2.var)).set jm (mkB jf y.2.2.var.var)=TB at *
    have kU:aJ [] TB (TB++[jW]):=aJ.app _ _ _
    have hMU:=hM3.keep kU (by simp) (by simp)
    have hzU:=dG TB jW
    have c25:=mJ (y.2.2.nv+1)
    have c77:=aLq (TB++[jW]) [[.int .i64 k0,.int .i64 k1],[.int .i64 1,.int .i64 (y.2.2.nv+1)]]
    have c20:=xL hMU (.sl .full [[.int .i64 y.2.2.nv],[.int .i64 (y.2.2.nv+1)]]) (.bool true) (.bool false) (.sl .nil []) (.int .i64 6) (.int .i64 0) (.int .i64 0) (.int .i64 0) (.int .i64 0) (.sl .full [[.int .i64 k0,.int .i64 k1],[.int .i64 1,.int .i64 (y.2.2.nv+1)]]) (.sl .nil []) rfl
    obtain⟨T4,c22,z4,z5,hM5,hk4,hk5⟩:=aF0 (f:=[.sl .full [[.int .i64 y.2.2.nv],[.int .i64 (y.2.2.nv+1)]],.bool true,.bool false,.sl .nil [],.int .i64 6,.int .i64 0,.int .i64 0,.int .i64 0,.int .i64 0,.sl .full [[.int .i64 k0,.int .i64 k1],[.int .i64 1,.int .i64 (y.2.2.nv+1)]],.sl .nil []]) hMU hzU rfl rfl hfs (by show y.2.2.nv+1+1<_;omega)
    have gB:=g1.keep kB nI
    have hlB:S.length<=TB.length:=Nat.le_trans hk1.len kB.len
    obtain⟨T6,js',ap,hM6,hkk⟩:=aEh (s:=.tm (bX (y.2.2.nv+1+1) y.2.2.fs.length (.sl .nil [])) (y.2.2.nv+1+1)) hM5 ⟨hj.1,hj.2,hlB⟩ gB ((kU.mono (by simp)).trans hk5) (fun h=>by have:=aO (gB.tok h);omega) s2 (TmO.fun ..) (by have:=hBy.hi;omega) hlB
    have hk6:aJ [jm,jf] S (T4.set TB.length (rK (y.2.2.nv+1+1) y.2.2.fs.length)):=⟨Nat.le_trans hlB ((kU.mono (by simp)).trans hk5).len,fun q B hq hb=>hk5.get q B (by have:=aO hb;simp at hq ⊢;omega) (kU.get q B (by simp) ((hk1.trans kB).get q B hq hb))⟩
    have c46:=aAo T6 [[.int .i64 a0,.int .i64 a1],[.int .i64 k0,.int .i64 k1],[.int .i64 1,.int .i64 (y.2.2.nv+1+1)]]
    have c25':=mJ (y.2.2.nv+1+1)
    have e2:y.2.2.nv+2=y.2.2.nv+1+1:=by omega
    rw[e2]at hx
    have hst:∀s∈(y.1++[St.tm (bX (y.2.2.nv+1+1) y.2.2.fs.length (.sl .nil [])) (y.2.2.nv+1+1)]),SO s:=fun s hs=>by
     rcases List.mem_append.1 hs with hs|hs
     ·exact s2 s hs
     ·rw[List.mem_singleton]at hs;subst hs;exact TmO.fun ..
    obtain⟨S7,c23,hM7,hk7⟩:=hLd hx (SR.acc js' _) (TmO.call ..) hst (by have:=hBy.hi;simp;omega) (by have:=l1.nv;show b0<=y.2.2.nv+1+1+1;omega) hB hM6
    obtain⟨u0,u1,u2,u3,u4,u5,u6,v5,v6,hXT⟩:=(cW n).laid hx (TmO.call ..) (fun s hs=>hst s (List.mem_reverse.1 hs))
    rw[hXT]at c23 ⊢
    rw[dE ja (by simp)]at c45
    refine⟨S7,aB K _ (fn:=t50) rfl rfl ?_,hM7,(hkk rfl hk6).trans hk7⟩
    rw[aL]
    rw[show y.2.2.var.var.nv=y.2.2.nv+1+1 from rfl,show y.2.2.var.var.fs=y.2.2.fs from rfl]at *
    rw[show y.2.2.var.nv=y.2.2.nv+1 from rfl]at c21'
    rw[show encZ (.tm (bX (y.2.2.nv+1+1) y.2.2.fs.length (.sl .nil [])) (y.2.2.nv+1+1))=oG (y.2.2.nv+1+1) y.2.2.fs.length from rfl]at ap
    unfold eD cU oG rK jW aV at *
    simp (disch:=omega) only[t50,go_sem,c45,i0,c21,c21',hTB,aF c25,c77,c20,c22,z4,z5,ap,aF c25',c46,c23]
   ·cases hx
  ·rw[if_neg h0]at hx
   split at hx
   ·rename_i a b rr hat
    have l2:=(mono n).laid hx
    have l2':Le y.2.2 x.2:=((Le.var _).trans ((Le.push _ _).trans (Le.var _))).trans l2
    have hBy:Bd b0 y.2.2:=hB.le l2'
    obtain⟨js,ja,S1,c45,g1,g2,hd,hM1,hk1⟩:=hVs (g:=e.g) hy (fun x hx=>ho.kid hx) (by omega) hb hBy hM
    rw[hat]at c45 s1
    obtain⟨a0,a1,rfl⟩:=s1 a (by simp)
    obtain⟨d0,d1,rfl⟩:=s1 b (by simp)
    have i0:=aLu (j:=ja) (a:=[.int .i64 a0,.int .i64 a1]) (r:=[.int .i64 d0,.int .i64 d1]::rr) rfl
    have i1:=aVv (j:=ja) (a:=[.int .i64 a0,.int .i64 a1]) (b:=[.int .i64 d0,.int .i64 d1]) (r:=rr) rfl
    have hv3:y.2.2.nv+2<=b0+1000000:=Int.le_trans (by have:y.2.2.nv+1+1<=x.2.nv:=l2.nv;omega) hB.hi
    have hfs:y.2.2.fs.length<1000000:=by have:=l2.len;have:=hB.fs;simp[Mk.var,Mk.push]at *;omega
    have c21:=rG hM1
    have hM3:=hM1.var (by omega)
    have kB:aJ [jm,jf] S1 (S1.set jm (mkB jf y.2.2.var)):=jA _
    have nI:∀i∈[jm,jf],i<S.length:=fun i hi=>by simp at hi;rcases hi with rfl|rfl<;>omega
    generalize hTB:S1.set jm (mkB jf y.2.2.var)=TB at *
    have kU:aJ [] TB (TB++[jW]):=aJ.app _ _ _
    have hMU:=hM3.keep kU (by simp) (by simp)
    have hzU:=dG TB jW
    have c25:=mJ y.2.2.nv
    have c77:=aLq (TB++[jW]) [[.int .i64 d0,.int .i64 d1],[.int .i64 k0,.int .i64 k1],[.int .i64 1,.int .i64 y.2.2.nv]]
    have c20:=xL hMU (.sl .full [[.int .i64 y.2.2.nv]]) (.bool true) (.bool true) (.sl .nil []) (.int .i64 6) (.int .i64 0) (.int .i64 0) (.int .i64 0) (.int .i64 0) (.sl .full [[.int .i64 d0,.int .i64 d1],[.int .i64 k0,.int .i64 k1],[.int .i64 1,.int .i64 y.2.2.nv]]) (.sl .nil []) rfl
    obtain⟨T4,c22,z4,z5,hM5,hk4,hk5⟩:=aF0 (f:=[.sl .full [[.int .i64 y.2.2.nv]],.bool true,.bool true,.sl .nil [],.int .i64 6,.int .i64 0,.int .i64 0,.int .i64 0,.int .i64 0,.sl .full [[.int .i64 d0,.int .i64 d1],[.int .i64 k0,.int .i64 k1],[.int .i64 1,.int .i64 y.2.2.nv]],.sl .nil []]) hMU hzU rfl rfl hfs (by show y.2.2.nv+1<_;omega)
    have gB:=g1.keep kB nI
    have hlB:S.length<=TB.length:=Nat.le_trans hk1.len kB.len
    obtain⟨T6,js',ap,hM6,hkk⟩:=aEh (s:=.tm (bX (y.2.2.nv+1) y.2.2.fs.length (.sl .nil [])) (y.2.2.nv+1)) hM5 ⟨hj.1,hj.2,hlB⟩ gB ((kU.mono (by simp)).trans hk5) (fun h=>by have:=aO (gB.tok h);omega) s2 (TmO.fun ..) (by have:=hBy.hi;omega) hlB
    have hk6:aJ [jm,jf] S (T4.set TB.length (rK (y.2.2.nv+1) y.2.2.fs.length)):=⟨Nat.le_trans hlB ((kU.mono (by simp)).trans hk5).len,fun q B hq hb=>hk5.get q B (by have:=aO hb;simp at hq ⊢;omega) (kU.get q B (by simp) ((hk1.trans kB).get q B hq hb))⟩
    have c46:=aAo T6 [[.int .i64 a0,.int .i64 a1],[.int .i64 1,.int .i64 (y.2.2.nv+1)]]
    have c25':=mJ (y.2.2.nv+1)
    have hst:∀s∈(y.1++[St.tm (bX (y.2.2.nv+1) y.2.2.fs.length (.sl .nil [])) (y.2.2.nv+1)]),SO s:=fun s hs=>by
     rcases List.mem_append.1 hs with hs|hs
     ·exact s2 s hs
     ·rw[List.mem_singleton]at hs;subst hs;exact TmO.fun ..
    obtain⟨S7,c23,hM7,hk7⟩:=hLd hx (SR.acc js' _) (TmO.call ..) hst (by have:=hBy.hi;simp;omega) (by have:=l1.nv;show b0<=y.2.2.nv+1+1;omega) hB hM6
    obtain⟨u0,u1,u2,u3,u4,u5,u6,v5,v6,hXT⟩:=(cW n).laid hx (TmO.call ..) (fun s hs=>hst s (List.mem_reverse.1 hs))
    rw[hXT]at c23 ⊢
    rw[dE ja (by simp)]at c45
    refine⟨S7,aB K _ (fn:=t50) rfl rfl ?_,hM7,(hkk rfl hk6).trans hk7⟩
    rw[aL]
    rw[show y.2.2.var.nv=y.2.2.nv+1 from rfl,show y.2.2.var.fs=y.2.2.fs from rfl]at *
    rw[show encZ (.tm (bX (y.2.2.nv+1) y.2.2.fs.length (.sl .nil [])) (y.2.2.nv+1))=oG (y.2.2.nv+1) y.2.2.fs.length from rfl]at ap
    unfold eD cU oG rK jW aV at *
    simp (disch:=omega) only[t50,go_sem,c45,i0,i1,c21,hTB,aF c25,c77,c20,c22,z4,z5,ap,aF c25',c46,c23]
   ·cases hx
def aIg:aQ:=(.region [⟨.mov (.loc 19),(some 12),none⟩])
def aIh:aQ:=(.block 3
  (.seq (.draw [0,1,2,5,12] [(3,[0,1,5],[4,6]),(7,[0],[]),(8,[],[9,10,11]),(13,[],[14])] [⟨.load1 (.loc 3),none,none⟩,⟨.load1 (.loc 3),none,none⟩,⟨.load1 (.loc 3),none,none⟩,⟨.call false false 21 [(.reg 2)],none,none⟩,⟨.lit false [(.int .i64 0)] 1 [(0,(.reg 3))],none,none⟩,⟨.loadN 7 (.loc 11),none,none⟩,⟨.build [(.sl .nil []),(.bool false),(.bool false),(.sl .nil []),(.int .i64 0),(.int .i64 0),(.int .i64 0),(.int .i64 0),(.int .i64 0),(.sl .nil []),(.sl .nil [])] [(0,1,(.reg 4)),(1,1,(.cst (.bool true))),(2,1,(.cst (.bool true))),(4,7,(.reg 5))],none,none⟩,⟨.call false false 20 [(.reg 1),(.reg 6)],none,none⟩,⟨.call false false 22 [(.reg 0),(.reg 7)],none,none⟩,⟨.mov (.reg 8),none,none⟩,⟨.extract 0 (.reg 9),none,none⟩,⟨.extract 1 (.reg 9),none,none⟩,⟨.allocH 68 [(.int .i64 0),(.int .i64 0),(.int .i64 0),(.int .i64 0),(.int .i64 0),(.int .i64 0),(.sl .nil []),(.sl .nil []),(.int .i64 0),(.int .i64 0),(.sl .nil []),(.bool false),(.sl .nil []),(.int .i64 0)],(some 13),none⟩,⟨.store 14 (.reg 12) (.reg 10),none,none⟩,⟨.mov (.reg 11),(some 14),none⟩])
  (.seq (.draw [0,1,2,3,4,5] [(6,[],[7,8,9,10,11])] [⟨.load1 (.loc 3),none,none⟩,⟨.load1 (.loc 4),none,none⟩,⟨.mov (.loc 12),none,none⟩,⟨.mov (.loc 12),none,none⟩,⟨.bin .add (.reg 3) (.cst (.int .i64 64)),none,none⟩,⟨.slice (.sl 5) (.reg 1) (some (.reg 2)) (some (.reg 4)) none,none,none⟩,⟨.call false false 45 [(.reg 0),(.reg 5)],none,none⟩,⟨.mov (.reg 6),none,none⟩,⟨.extract 0 (.reg 7),none,none⟩,⟨.extract 1 (.reg 7),none,none⟩,⟨.mov (.reg 8),(some 15),none⟩,⟨.mov (.reg 9),none,none⟩])
  (.draw [0,1,2,3,5] [(4,[0],[]),(6,[0],[7]),(8,[0],[]),(9,[],[]),(10,[],[])] [⟨.load1 (.loc 3),none,none⟩,⟨.loadN 14 (.loc 13),none,none⟩,⟨.lit false [(.int .i64 0),(.int .i64 0),(.int .i64 0),(.int .i64 0),(.int .i64 0),(.int .i64 0),(.sl .nil []),(.sl .nil []),(.int .i64 0),(.int .i64 0),(.sl .nil []),(.bool false),(.sl .nil []),(.int .i64 0)] 1 [(0,(.reg 1))],none,none⟩,⟨.mov (.loc 15),none,none⟩,⟨.append false 14 176 67 (.reg 2) (.reg 3),none,none⟩,⟨.mov (.loc 14),none,none⟩,⟨.call true false 25 [(.reg 5)],none,none⟩,⟨.lit false [(.int .i64 0),(.int .i64 0)] 1 [(0,(.reg 6))],none,none⟩,⟨.call false false 46 [(.reg 7)],none,none⟩,⟨.call false false 23 [(.reg 0),(.reg 4),(.reg 8)],none,none⟩,⟨.store 7 (.loc 11) (.reg 9),none,none⟩]))))
theorem aVx (i:Nat)(l:M_):noLb (acc i l)=acc i l:=by unfold acc;split<;>rfl
attribute [go_sem] aVx
theorem aVy {t:Tag}{l:List Ex}(ht:dN t l){a b:Nat}(hab:a<=b)(hb:b<=l.length):∃t',∀S:aA,cH S (.sl 5) (.iv (.sl t (bW l))) (some (a:Int)) (some (b:Int)) none=some (.iv (.sl t' (bW ((l.drop a).take (b-a))))):=by
 have hE5:∀y∈bW l,y.length=5:=fun y hy=>by rw[eF]at hy;obtain⟨e,_,rfl⟩:=List.mem_map.1 hy;exact nM e
 refine⟨lL t (bW l).length (b:Int).toNat,fun S=>?_⟩
 have h1:(a:Int)<=b:=by omega
 have h2:(b:Int)<=(bW l).length:=by rw[aG];omega
 rw[aLf S (a:=a) (b:=b) (fun e=>by rw[ht e];rfl) (sW hE5) ⟨by omega,h1,h2⟩]
 rw[Int.toNat_natCast,Int.toNat_natCast,eF,eF,List.map_take,List.map_drop]
theorem SR.lp {r:TV}{l:M_}(h:SR r l):eE r=false:=by
 rcases h with⟨_,rfl⟩|⟨j,rfl⟩|rfl<;>rfl
theorem aVz {S:aA}{j:Nat}{s:List IV}{ys:M_}(hs:cO 14 [s])(hy:cO 14 ys)(hl:ys.length<=2000000):∃r L,bY false 14 176 67 S (.iv (.sl .full [s])) (acc j ys)=some (r,S++L)∧SR r (s::ys):=by
 by_cases h0:ys=[]
 ·subst h0
  exact⟨_,[],by rw[fG,sX rfl (hP.sl ..),List.append_nil],.inr (.inr rfl)⟩
 ·have:=qV (S:=S) (w:=14) (b:=176) (el:=67) (t:=.full) (l:=[s]) (by decide) ((SR.acc j ys).el S) hy hs h0 (cI (by simp;omega))
  exact⟨_,_,this,.inr (.inl ⟨_,rfl⟩)⟩
def e49 (jm a b o c:Nat)(x1 x2 x7 x8 x9 x10 x16:TV):Env:=[.ptr jm 64 0,x1,x2,.ptr a 62 0,.ptr b 24 0,.hole,.hole,x7,x8,x9,x10,.ptr o 46 0,u_,u_,u_,u_,x16,.fn 96 [] [.ptr c 23 0],u_,u_]
structure ZS (S:aA) (a b o c y jm jf:Nat) (g:Tag) (l:List Ex) (e:Env) (st:TV) (t:List IV) (σ:Mk):Prop where
 fa:S[a]? = some (.cells 62 false [.ptr jm 64 0])
 fb:S[b]? = some (.cells 24 false [.iv (.sl g (bW l))])
 fo:S[o]? = some (.cells 46 false (t.map .iv))
 fc:S[c]? = some (.cells 23 false [st])
 fy:S[y]? = some (.lp .ready none e [18,19] aIg aIh)
 ms:MkS S jm jf σ
 lt:jm<a∧jf<a∧a<b∧b<o∧o<c∧c<y
theorem aV0 {b0:Int}{m:Nat}(hb0:0<=b0∧b0<=1152921504606846976)(hVs:lT b0 m)(hLd:uU b0 m){S:aA}{a b o c y jm jf:Nat}{g:Tag}{l:List Ex}{x1 x2 x7 x8 x9 x10 x16 st:TV}{t:List IV}{σ:Mk}{v:List St×M_×Mk}{w:List IV×Mk}{i:Nat}
  (h:ZS S a b o c y jm jf g l (e49 jm a b o c x1 x2 x7 x8 x9 x10 x16) st t σ) (ht:TmO t) (hl:∀e∈l,XO e) (htg:dN g l) (hll:l.length<=1048576) (hi:64*(i+1)<=l.length)
  (hv:bP m ((l.drop (64*i)).take 64) (σ.var.push (fnF .full [σ.nv] true true t)).var=some v)
  (hw:bN m (St.tm (bX (σ.nv+1) σ.fs.length (.sl .nil [])) (σ.nv+1)::v.1).reverse (cU .full [aV (σ.nv+1)]) v.2.2=some w) (hb:b0<=σ.nv) (hB:Bd b0 w.2) (ii:Int):
  ∃S',(lim K).yld y [j_ ii,j_ (64*i:Nat)] S=.ret (e_,S')∧ZS S' a b o c y jm jf g l (e49 jm a b o c x1 x2 x7 x8 x9 x10 x16) st w.1 w.2∧aJ [jm,jf,o,y] S S':=by
 obtain⟨a0,a1,a2,a3,a4,a5,a6,b5,b6,rfl⟩:=ht
 have hlt:=h.lt
 have hy:=h.fy
 have hly:=aO hy
 generalize hT:S.set y (.lp .busy none (e49 jm a b o c x1 x2 x7 x8 x9 x10 x16) [18,19] aIg aIh)=T
 have kT:aJ [y] S T:=by rw[<-hT];exact aJ.set _ (by simp) _
 have hTl:T.length=S.length:=by rw[<-hT];simp
 have ty:T[y]? = some (.lp .busy none (e49 jm a b o c x1 x2 x7 x8 x9 x10 x16) [18,19] aIg aIh):=by rw[<-hT];exact bQ hly _
 have l1:=(mono m).values hv
 have l2:=(mono m).laid hw
 have hvl:σ.nv+1+1<=v.2.2.nv:=l1.nv
 have hBv:Bd b0 v.2.2:=hB.le l2
 have hnv:σ.nv+2<=b0+1000000:=by have:=hBv.hi;omega
 have hfs:σ.fs.length<1000000:=by have h1:=l1.len;have h2:=hBv.fs;simp[Mk.var,Mk.push]at h1;omega
 -- the place of the step
 have kU:aJ [] T (T++[jW]):=aJ.app _ _ _
 have hM0:=(h.ms.keep kT (by simp;omega) (by simp;omega)).keep kU (by simp) (by simp)
 have z0:=dG T jW
 have c21:=rG hM0
 have hM1:=hM0.var (by omega)
 have kV:aJ [jm,jf] (T++[jW]) ((T++[jW]).set jm (mkB jf σ.var)):=jA _
 have z1:=kV.get T.length jW (by simp;omega) z0
 have k1:=(kU.mono (J:=[jm,jf]) (by simp)).trans kV
 generalize hU1:(T++[jW]).set jm (mkB jf σ.var)=U1 at *
 have c20:=xL hM1 (.sl .full [[.int .i64 σ.nv]]) (.bool true) (.bool true) (.sl .nil []) (.int .i64 a0) (.int .i64 a1) (.int .i64 a2) (.int .i64 a3) (.int .i64 a4) (.sl a5 b5) (.sl a6 b6) rfl
 obtain⟨T4,c22,z4,z5,hM5,hk4,hk5⟩:=aF0 (f:=[.sl .full [[.int .i64 σ.nv]],.bool true,.bool true,.sl .nil [],.int .i64 a0,.int .i64 a1,.int .i64 a2,.int .i64 a3,.int .i64 a4,.sl a5 b5,.sl a6 b6]) hM1 z1 rfl rfl hfs (by show σ.nv+1<_;omega)
 rw[show σ.var.fs=σ.fs from rfl]at c22 z5 hM5 hk5 c20
 rw[show σ.var.nv=σ.nv+1 from rfl]at c22 z5 hM5 hk5
 have k5:aJ [jm,jf,T.length] T (T4.set T.length (rK (σ.nv+1) σ.fs.length)):=(k1.mono (by simp)).trans hk5
 generalize hT5:T4.set T.length (rK (σ.nv+1) σ.fs.length)=T5 at *
 have ta:=kT.get _ _ (by simp;omega) h.fa
 have tb:=kT.get _ _ (by simp;omega) h.fb
 have to:=kT.get _ _ (by simp;omega) h.fo
 have tc:=kT.get _ _ (by simp;omega) h.fc
 have a5':=k5.get _ _ (by simp;omega) ta
 have b5':=k5.get _ _ (by simp;omega) tb
 -- the values
 obtain⟨t',sl⟩:=aVy htg (a:=64*i) (b:=64*i+64) (by omega) (by omega)
 rw[show 64*i+64-64*i=64 by omega,show((64*i+64:Nat):Int)=((64*i:Nat):Int)+64 by omega]at sl
 have hXl:∀e∈(l.drop (64*i)).take 64,XO e:=fun e he=>hl e (List.mem_of_mem_drop (List.mem_of_mem_take he))
 obtain⟨jp,ja,T6,c45,g1,g2,hd,hM6,hk6⟩:=hVs (g:=t') hv hXl (by simp;omega) (by show b0<=σ.nv+1+1;omega) hBv hM5
 have a6':=hk6.get _ _ (by simp;omega) a5'
 have z6:=hk6.get T.length _ (by simp;omega) z5
 obtain⟨s1,s2,s3,s4⟩:=(cW m).values hv hXl
 obtain⟨r,L,ap,hr⟩:=aVz (S:=T6) (j:=jp) (s:=oG (σ.nv+1) σ.fs.length) (by intro y hy;simp at hy;subst hy;exact⟨rfl,rfl⟩) (nP s2) (by rw[nJ];have:=hBv.hi;have:(v.1.length:Int)+(σ.nv+1+1)<=v.2.2.nv:=s3;omega)
 have kL:aJ [] T6 (T6++L):=aJ.app _ _ _
 have hM7:=hM6.keep kL (by simp) (by simp)
 have c25:=mJ (σ.nv+1)
 have c46:=aAo (T6++L) [[.int .i64 1,.int .i64 (σ.nv+1)]]
 have hst:∀s∈(St.tm (bX (σ.nv+1) σ.fs.length (.sl .nil [])) (σ.nv+1)::v.1),SO s:=fun s hs=>by
  rcases List.mem_cons.1 hs with rfl|hs
  ·exact TmO.fun ..
  ·exact s2 s hs
 obtain⟨T8,c23,hM8,hk8⟩:=hLd hw (show SR r (eQ (St.tm (bX (σ.nv+1) σ.fs.length (.sl .nil [])) (σ.nv+1)::v.1)) from hr) (TmO.call ..) hst (by have:=hBv.hi;have:(v.1.length:Int)+(σ.nv+1+1)<=v.2.2.nv:=s3;simp;omega) (by omega) hB hM7
 obtain⟨u0,u1,u2,u3,u4,u5,u6,v5,v6,hXT⟩:=(cW m).laid hw (TmO.call ..) (fun s hs=>hst s (List.mem_reverse.1 hs))
 have kall:aJ [jm,jf,T.length] T T8:=((k5.trans (hk6.mono (by simp))).trans (kL.mono (by simp))).trans (hk8.mono (by simp))
 have o8:=kall.get _ _ (by simp;omega) to
 have yy8:=kall.get _ _ (by simp;omega) ty
 have o5':=k5.get _ _ (by simp;omega) to
 have b6':=hk6.get _ _ (by simp;omega) b5'
 have z7:=kL.get T.length _ (by simp) z6
 have a7:=kL.get _ _ (by simp) a6'
 have to4:=k1.get _ _ (by simp;omega) to
 have ta4:=k1.get _ _ (by simp;omega) ta
 have ta9:=fun B X=>(tC (S:=U1) (jm:=jm) (jf:=jf) B X).get a _ (by simp;omega) ta4
 rw[hXT]at c23 ⊢
 have ko:aJ [o] T8 (T8.set o (.cells 46 false [j_ u0,j_ u1,j_ u2,j_ u3,j_ u4,.iv (.sl u5 v5),.iv (.sl u6 v6)])):=aJ.set _ (by simp) _
 have y6:=ko.get _ _ (by simp;omega) yy8
 have hi64:(0:Int)<=(64*i:Nat)∧((64*i:Nat):Int)<=1048576:=by omega
 generalize h64:((64*i:Nat):Int)=i64' at *
 refine⟨(T8.set o (.cells 46 false [j_ u0,j_ u1,j_ u2,j_ u3,j_ u4,.iv (.sl u5 v5),.iv (.sl u6 v6)])).set y (.lp .ready none (e49 jm a b o c x1 x2 x7 x8 x9 x10 x16) [18,19] aIg aIh),?_,?_,?_⟩
 ·refine aDo (env2:=[.ptr jm 64 0,x1,x2,.ptr a 62 0,.ptr b 24 0,.hole,.hole,x7,x8,x9,x10,.ptr o 46 0,j_ i64',u_,u_,u_,x16,.fn 96 [] [.ptr c 23 0],j_ ii,j_ i64']) (env3:=[.ptr jm 64 0,x1,x2,.ptr a 62 0,.ptr b 24 0,.hole,.hole,x7,x8,x9,x10,.ptr o 46 0,j_ i64',.ptr T.length 68 0,j_ (σ.nv+1),acc jp (eQ v.1),x16,.fn 96 [] [.ptr c 23 0],j_ ii,j_ i64']) (S1:=S) (S2:=T8.set o (.cells 46 false [j_ u0,j_ u1,j_ u2,j_ u3,j_ u4,.iv (.sl u5 v5),.iv (.sl u6 v6)])) hy rfl ?_ hy ?_ y6
  ·simp (disch:=omega) only[aIg,e49,go_sem]
  ·rw[hT]
   unfold oG rK jW aV cU at *
   simp (disch:=omega) only[aIh,go_sem,aH,hr.lp,ta,to,ta9,ta4,to4,o5',a6',b6',a7,z7,c21,hU1,c20,c22,z4,hT5,a5',b5',sl,c45,a6',z6,ap,aF c25,c46,c23,o8]
 ·refine⟨?_,?_,?_,?_,bQ (aO y6) _,?_,h.lt⟩
  ·rw[aU (by omega)];exact ko.get _ _ (by simp;omega) (kall.get _ _ (by simp;omega) ta)
  ·rw[aU (by omega)];exact ko.get _ _ (by simp;omega) (kall.get _ _ (by simp;omega) tb)
  ·rw[aU (by omega),bQ (aO o8)];rfl
  ·rw[aU (by omega)];exact ko.get _ _ (by simp;omega) (kall.get _ _ (by simp;omega) tc)
  ·exact(hM8.keep ko (by simp;omega) (by simp;omega)).keep (aJ.set (I:=[y]) _ (by simp) _) (by simp;omega) (by simp;omega)
 ·refine⟨?_,fun q B hq hb=>?_⟩
  ·have:=kall.len;simp;omega
  ·simp at hq
   have hlq:=aO hb
   have u1:=kT.get q B (by simp;omega) hb
   have u2:=kall.get q B (by simp;omega) u1
   exact(aJ.set (I:=[y]) _ (by simp) _).get q B (by simp;omega) (ko.get q B (by simp;omega) u2)
def stl (q:Nat):List (List IV):=(List.range q).map fun i=>[.int .i64 ((64*i:Nat):Int)]
theorem aAp (q:Nat):(stl q).length=q:=by unfold stl;simp
theorem aV1 (q:Nat):stl (q+1)=stl q++[[.int .i64 ((64*q:Nat):Int)]]:=by unfold stl;rw[List.range_succ,List.map_append];rfl
theorem bHf (q:Nat):cO 1 (stl q):=by
 intro y hy
 unfold stl at hy
 obtain⟨i,_,rfl⟩:=List.mem_map.1 hy
 exact⟨rfl,rfl⟩
theorem bHg (j:Nat){q k:Nat}(h:k<q):indexAddrS 1 (acc j (stl q)) (k:Int)=some (.iv (.cp [.int .i64 ((64*k:Nat):Int)])):=by
 have hg:(stl q)[(k:Int).toNat]? = some [.int .i64 ((64*k:Nat):Int)]:=by
  rw[Int.toNat_natCast]
  unfold stl
  rw[List.getElem?_map,List.getElem?_range h]
  rfl
 rw[dE j (by intro e;have:=congrArg List.length e;rw[aAp]at this;simp at this;omega)]
 exact kP (by omega) hg rfl
theorem aV2 {n0:Nat}{L:Nat}(hL:1<=L∧L<=1048576){b:Nat}{g:Tag}{l:List Ex}(hl:l.length=L)(x0 x1 x2 x3 x5 x6 x9 x10 x11 x12 x13 x14 x15 x17 x18 x19:TV):∀(k q j:Nat) (S:aA) (x16:TV),q+k=(L-1) / 64->Gl n0 S 1 3 (stl q) j->S[b]? = some (.cells 24 false [.iv (.sl g (bW l))])->b<n0->n0<=S.length ->
  ∃(j':Nat) (S':aA),lp' (lim K) t49L0 [x0,x1,x2,x3,.ptr b 24 0,x5,x6,acc j (stl q),j_ ((64*q:Nat):Int),x9,x10,x11,x12,x13,x14,x15,x16,x17,x18,x19] S
   = .ret (.exit 0,[x0,x1,x2,x3,.ptr b 24 0,x5,x6,acc j' (stl ((L-1) / 64)),.iv (.int .i64 ((64*((L-1) / 64):Nat):Int)),x9,x10,x11,x12,x13,x14,x15,z_,x17,x18,x19],S')∧Gl n0 S' 1 3 (stl ((L-1) / 64)) j'∧(∀ {S0:aA},S0.length=n0->aJ [] S0 S->aJ [] S0 S')∧S.length<=S'.length
 | 0,q,j,S,x16,h,hg,hb,hbn,hn=>by
  obtain rfl:q=(L-1) / 64:=by omega
  have hle:=aG l
  generalize hq:(L-1) / 64=q at *
  refine⟨j,S,aI K _ _ t49L0.eq_1 ?_,hg,fun _ k=>k,Nat.le_refl _⟩
  generalize hw:((64*q:Nat):Int)=w
  have hc:¬((64:Int)<L-w):=by omega
  simp (disch:=omega) only[go_sem,hb,hle,hl,aH]
 | k+1,q,j,S,x16,h,hg,hb,hbn,hn=>by
  have hle:=aG l
  obtain⟨j1,S1,ha,gr⟩:=hg.more (b:=8) (hP.sl S .full [[.int .i64 ((64*q:Nat):Int)]]) (by intro y hy;simp at hy;subst hy;exact⟨rfl,rfl⟩) (bHf q) (cI (by rw[aAp];simp;omega)) hn
  have hg1:=gr.gl
  rw[<-aV1]at ha hg1
  have hb1:=gr.old b _ hb (fun h0=>by have:=hg.new h0;omega)
  obtain⟨j',S',ih,hg',hk',hl'⟩:=aV2 hL hl x0 x1 x2 x3 x5 x6 x9 x10 x11 x12 x13 x14 x15 x17 x18 x19 k (q+1) j1 S1 e_ (by omega) hg1 hb1 hbn (Nat.le_trans hn gr.len)
  refine⟨j',S',aI K _ _ t49L0.eq_1 ?_,hg',fun h0 k0=>hk' h0 (gr.keep hg k0 (by omega)),Nat.le_trans gr.len hl'⟩
  have e1:((64*(q+1):Nat):Int)=((64*q:Nat):Int)+64:=by omega
  rw[e1]at ih
  have hq:64*q+64<L:=by omega
  generalize hw:((64*q:Nat):Int)=w at *
  have hc:((64:Int)<L-w):=by omega
  simp (disch:=omega) only[go_sem,hb,hle,hl,ha,aH]
  exact congrArg er ih
theorem aV3 {b0:Int}{N:Nat}(hb0:0<=b0∧b0<=1152921504606846976)(hVs:∀m,m<=N->lT b0 m)(hLd:∀m,m<=N->uU b0 m){a b o c y jm jf:Nat}{g:Tag}{l:List Ex}{x1 x2 x7 x8 x9 x10 x16:TV}{j q:Nat}(hl:∀e∈l,XO e)(htg:dN g l)(hll:l.length<=1048576)(hq:64*q<=l.length):∀(k f:Nat) (t:List IV) (σ:Mk) (x:List IV×Mk) (S:aA) (x3 x4:TV),k<=q->f<=N+1->cK f k l t σ=some x->TmO t->b0<=σ.nv->Bd b0 x.2->ZS S a b o c y jm jf g l (e49 jm a b o c x1 x2 x7 x8 x9 x10 x16) (acc j (stl q)) t σ ->
  ∃(S':aA) (y3 y4:TV),lp' (lim K) t96L0 [.yld y,.ptr c 23 0,j_ ((k:Int)-1),x3,x4] S=.ret (.exit 0,[.yld y,.ptr c 23 0,j_ (-1),y3,y4],S')∧ZS S' a b o c y jm jf g l (e49 jm a b o c x1 x2 x7 x8 x9 x10 x16) (acc j (stl q)) x.1 x.2∧aJ [jm,jf,o,y] S S'
 | 0,f,t,σ,x,S,x3,x4,hk,hf,hx,ht,hb,hB,hY=>by
  cases f with
  | zero=>simp[cK]at hx
  | succ f =>
   rw[cK]at hx
   cases hx
   refine⟨S,z_,x4,aI K _ _ t96L0.eq_1 ?_,hY,aJ.refl _ _⟩
   rw[show((0:Nat):Int)-1 = -1 from rfl]
   simp (disch:=omega) only[go_sem]
 | k+1,f,t,σ,x,S,x3,x4,hk,hf,hx,ht,hb,hB,hY=>by
  have hix:=bHg j (show k<q by omega)
  have hc:=hY.fc
  rw[show(((k+1:Nat):Int)-1)=(k:Int) by omega]
  cases f with
  | zero=>simp[cK]at hx
  | succ f =>
   rw[cK]at hx
   obtain⟨v,hv,hx⟩:=b_ hx
   obtain⟨w,hw,hx⟩:=b_ hx
   have l1:=(mono f).values hv
   have l2:=(mono f).laid hw
   have l3:=(mono f).parts hx
   have hvn:σ.nv+1+1<=v.2.2.nv:=l1.nv
   have hwn:=l2.nv
   obtain⟨S1,y1,hY1,k1⟩:=aV0 hb0 (hVs f (by omega)) (hLd f (by omega)) hY ht hl htg hll (by omega) hv hw hb (hB.le l3) (k:Int)
   obtain⟨S2,z3,z4,ih,hY2,k2⟩:=aV3 hb0 hVs hLd hl htg hll hq k f w.1 w.2 x S1 e_ z_ (by omega) (by omega) hx ((cW f).laid hw (TmO.call ..) (fun s hs=>by
    have s2:=((cW f).values hv (fun e he=>hl e (List.mem_of_mem_drop (List.mem_of_mem_take he)))).2.1
    rcases List.mem_cons.1 (List.mem_reverse.1 hs)with rfl|hs
    ·exact TmO.fun ..
    ·exact s2 s hs)) (by omega) hB hY1
   refine⟨S2,z3,z4,aI K _ _ t96L0.eq_1 ?_,hY2,k1.trans k2⟩
   generalize hw64:((64*k:Nat):Int)=w64 at *
   simp (disch:=omega) only[go_sem,hc,hix,y1,er_ret,aH]
   exact congrArg er ih
end Go.Proofs.YtageemgcnoblnaaDoor
