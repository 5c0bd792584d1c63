/- A part of the evaluator TM, and of the proof that what it computes the model does. Condition: none. -/
import Derived.Test.YtehlgnfhkidgoaaGreatDoorTmD
import Derived.Shelf.Strings.Builder1
import Derived.Lib.Bytealg
import Derived.Lib.MakeNoZero
import Derived.Lib.SlKeysI
import Derived.Maps.Keyed
import Derived.Maps.Own
import Derived.Laws.AppendOwn
import Derived.Test.YtehlgnfhkidgoaaGreatDoorTmE
import Derived.Shelf.SlSortCmp.InsertionK
import Derived.Shelf.SortM.Plain
import Derived.Shelf.SortM.SortNone
set_option linter.unusedVariables false
set_option linter.unusedSimpArgs false
namespace Go.TM
open Go Go.Shelf Go.RowKit Go.Proofs
theorem jC{P:Program}{F:Fence}(c:cZ F){n f:Nat}{args:Array Value}{w:World}{R:Ending->World->Prop}(h:Calls P f args w R):CallsIn F n P f args w R:=by
 have e:F.plain=Fence.wide:=by
  obtain⟨a,b,h3⟩:=c;cases F
  simp only at a b h3;subst b h3;simp only[Fence.plain,Fence.wide,Fence.mk.injEq,and_true];funext x;exact propext (iff_true_intro (a x))
 refine vW ?_;rw[e];exact callsIn_wide.2 h
variable {P:Program}{O:dH}{K:TM.bD}
def aFq:List (Nat×aF5)->Nat->Option aF5
 |[],_=>none
 |(k,p)::r,f=>if k==f then some p else aFq r f
theorem bBs{l:List (Nat×aF5)}(h:∀x∈l,rI P O K x.1 x.2){f:Nat}{p:aF5}(a:aFq l f=some p):rI P O K f p:=by
 induction l with
 |nil=>simp[aFq]at a
 |cons x r ih =>
  obtain⟨k,q⟩:=x;unfold aFq at a;split at a;.rename_i hk;simp only[F5]at hk;simp only[R_]at a;subst hk a;exact h (k,q) B_
  .exact ih (fun x b=>h x (by simp[b])) a
end Go.TM
namespace Go.TM
open Go Go.Maps Go.RowKit Go.Proofs Go.ChangeShapes Go.WideShapes Go.MapKept
open Go.WideElems (Fit rg rd rg_of)
def aTi(x:Int):List Int->List Int
 |[]=>[x]
 |y::r=>if x<=y then x::y::r else y::aTi x r
def eG:List Int->List Int
 |[]=>[]
 |x::r=>aTi x (eG r)
theorem aAi(x:Int):∀l:List Int,(aTi x l).Perm (x::l)
 |[]=>.refl _
 |y::r=>by
  unfold aTi;split;.exact .refl _
  .exact((aAi x r).cons y).trans (.swap _ _ _)
theorem lQ:∀l:List Int,(eG l).Perm l
 |[]=>.refl _
 |x::r=>(aAi x (eG r)).trans ((lQ r).cons x)
theorem aIh(x:Int):∀l:List Int,l.Pairwise (·<=·)->(aTi x l).Pairwise (·<=·)
 |[],_=>by simp[aTi]
 |y::r,h=>by
  have c:=E6.1 h;unfold aTi;split
  .rename_i hxy;refine E6.2 ⟨fun a b=>?_,h⟩;rcases J_.1 b with rfl|b;.exact hxy
   .have:=c.1 a b;omega
  .rename_i hxy;refine E6.2 ⟨fun a b=>?_,aIh x r c.2⟩;rcases J_.1 ((aAi x r).mem_iff.1 b)with rfl|b;.omega
   .exact c.1 a b
theorem wW:∀l:List Int,(eG l).Pairwise (·<=·)
 |[]=>.nil
 |x::r=>aIh x _ (wW r)
theorem aLo{l m:Ta_}(f:m.Perm l)(d:m.Pairwise (·<=·)):m=eG l:=by refine V8 (le:=fun a b=>a<=b) (fun a b _ _ c e=>Int.le_antisymm c e) d (wW l) (f.trans (lQ l).symm)
theorem aB8{l m:Ta_}(f:l.Perm m):l.mergeSort leI=eG m:=by
 refine aLo ((Z0 l leI).trans f) ?_;have g:∀a b c:Int,leI a b=true->leI b c=true->leI a c=true:=fun a b c d e=>by simp only[leI,q_]at *;exact Int.le_trans d e
 have to:∀a b:Int,(leI a b||leI b a)=true:=fun a b=>by simp only[leI,D3,q_];exact Int.le_total a b
 exact(W8 g to l).imp fun h=>by simpa[leI] using h
variable {P:Program}{O:dH}{K:TM.bD}
end Go.TM
namespace Go.TM
def lkV(kk:KK)(z:IV)(ok:Bool)(S:aA)(m k:TV):Option TV :=
 match lH k with
 |some k =>
  if !(gX kk k)then none else
  match qV kk S m k with
  |some (some (_,x))=>some (if ok then .tup [x,.iv (.bool true)]else x)
  |some none=>some (if ok then .tup [.iv z,.iv (.bool false)]else .iv z)
  |none=>none
 |none=>none
theorem aGn(kk:KK)(z:IV)(a:Bool)(m y:aH)(e:aH->TV)(env:Env)(S:aA):aO (.lookup kk z a m y) e env S=lkV kk z a S (e m) (e y):=id rfl
def upV(kk:KK)(env:Env)(S:aA)(m k x:TV):Option (TV×Env×aA) :=
 match lH k,m with
 |some k,.map j=>if !(gX kk k)then none else match S[j]? with
  |some (.mp es clock)=>if cA x then none else match findKey kk k es 0 with
   |some (some (n,_))=>if !(((es[n]?).map fun y=>gZ y.2.1 k).getD false)then none else some (undef,env,S.set j (.mp (es.modify n fun y=>(y.1,k,x)) clock))
   |some none=>some (undef,env,S.set j (.mp (es++[(clock,k,x)]) (clock+1)))
   |none=>none
  |_=>none
 |_,_=>none
theorem aPc(kk:KK)(m y x:aH)(e:aH->TV)(rs:Tn_)(env:Env)(S:aA):gO (.update kk m y x) e rs env S=upV kk env S (e m) (e y) (e x):=id rfl
def dlV(kk:KK)(env:Env)(S:aA)(m k:TV):Option (TV×Env×aA) :=
 match lH k,m with
 |some k,.iv .nilm=>if gX kk k then some (undef,env,S)else none
 |some k,.map j=>if !(gX kk k)then none else match S[j]? with
  |some (.mp es clock)=>match findKey kk k es 0 with
   |some (some (n,_))=>some (undef,env,S.set j (.mp (es.eraseIdx n) clock))
   |some none=>some (undef,env,S)
   |none=>none
  |_=>none
 |_,_=>none
attribute [go_sem] aGn aPc
section
variable {α:Type}
def mpR(f:α->TV)(l:List (Nat×Int×α)):List (Nat×IV×TV):=l.map fun x=>(x.1,.int .i64 x.2.1,f x.2.2)
def dK:List (Nat×Int×α)->Int->Option α
 |[],_=>none
 |x::r,k=>if x.2.1=k then some x.2.2 else dK r k
def gV:List (Nat×Int×α)->Nat->Int->α->List (Nat×Int×α)
 |[],c,k,a=>[(c,k,a)]
 |x::r,c,k,a=>if x.2.1=k then(x.1,k,a)::r else x::gV r c k a
def cG(l:List (Nat×Int×α))(k:Int):Bool:=(dK l k).isSome
def rP(l:List (Nat×Int×α))(c:Nat)(k:Int):Nat:=if cG l k then c else c+1
theorem aLp(f:α->TV)(l:List (Nat×Int×α)):(mpR f l).length=l.length:=by simp[mpR]
theorem uA(f:α->TV)(k:Int):∀(l:List (Nat×Int×α)) (i:Nat),∃n,findKey (.leaf .int) (.int .i64 k) (mpR f l) i=some ((dK l k).map fun a=>(n,f a))
 |[],i=>⟨i,rfl⟩
 |x::r,i=>by
  by_cases hx:k=x.2.1;.refine⟨i,?_⟩;simp[mpR,findKey,pW,gM,dK,hx]
  .obtain⟨n,b⟩:=uA f k r (i+1);refine⟨n,?_⟩;simp only[mpR]at b;simp only[mpR,Q_,findKey,pW,gM,↓reduceIte,dK,B0 hx];rw[show(k==x.2.1)=false by simp[hx]];exact b
theorem yV(f:α->TV){k:Int}{l:List (Nat×Int×α)}(h:cG l k=false):findKey (.leaf .int) (.int .i64 k) (mpR f l) 0=some none:=by
 obtain⟨n,a⟩:=uA f k l 0;have:dK l k=none:=by simpa[cG] using h
 rw[a,this];rfl
theorem aWh:∀ {l:List (Nat×Int×α)} {k:Int},cG l k=false->∀(c:Nat) (a:α),gV l c k a=l++[(c,k,a)]
 |[],k,_,c,a=>rfl
 |x::r,k,h,c,a=>by
  have b:x.2.1≠k:=fun e=>by simp[cG,dK,e]at h
  have d:cG r k=false:=by simpa[cG,dK,b] using h
  simp only[gV,b,↓reduceIte,aWh d c a,List.cons_append]
theorem aWi(f:α->TV)(a:α)(c:Nat)(k:Int):∀(l:List (Nat×Int×α)) (i:Nat),cG l k=true->∃n v,findKey (.leaf .int) (.int .i64 k) (mpR f l) i=some (some (n,v))/\i<=n/\((((mpR f l)[n-i]?).map fun y=>gZ y.2.1 (.int .i64 k)).getD false)=true/\(mpR f l).modify (n-i) (fun y=>(y.1,.int .i64 k,f a))=mpR f (gV l c k a)
 |[],i,h=>by simp[cG,dK]at h
 |x::r,i,h=>by
  by_cases hx:k=x.2.1
  .refine⟨i,f x.2.2,?_,O_ _,?_,?_⟩;.simp[mpR,findKey,pW,gM,hx]
   .simp[mpR,gZ,pX,hx]
   .simp[mpR,gV,hx]
  .have e:cG r k=true:=by simpa[cG,dK,B0 hx] using h
   obtain⟨n,v,b,g,h3,d⟩:=aWi f a c k r (i+1) e;refine⟨n,v,?_,by omega,?_,?_⟩;.simp only[mpR]at b;simp only[mpR,Q_,findKey,pW,gM,↓reduceIte];rw[show(k==x.2.1)=false by simp[hx]];exact b
   .rw[show n-i=(n-(i+1))+1 by omega];simp only[mpR,Q_,List.getElem?_cons_succ]at h3 |-;exact h3
   .rw[show n-i=(n-(i+1))+1 by omega];simp only[mpR,Q_,gV,B0 hx,↓reduceIte,List.modify_succ_cons]at d |-;rw[d]
theorem bTn{f:α->TV}{S:aA}{j c:Nat}{l:List (Nat×Int×α)}(h:S[j]?=some (.mp (mpR f l) c))(z:IV)(b:Bool)(k:Int): lkV (.leaf .int) z b S (.map j) (.iv (.int .i64 k))=some (match dK l k with|some a=>(if b then .tup [f a,.iv (.bool true)]else f a)|none=>(if b then .tup [.iv z,.iv (.bool false)]else .iv z)):=by obtain⟨n,d⟩:=uA f k l 0;simp only[lkV,lH,oQ,gX,E7,b_,↓reduceIte,qV,h,d];cases dK l k<;>rfl
theorem qI:∀(l:List (Nat×Int×α)) (c:Nat) (k:Int) (a:α) (m:Int),dK (gV l c k a) m=if k=m then some a else dK l m
 |[],c,k,a,m=>by simp[gV,dK]
 |x::r,c,k,a,m=>by
  simp only[gV];by_cases h:x.2.1=k;.simp only[h,↓reduceIte,dK];by_cases hk:k=m<;>simp[hk]
  .simp only[h,↓reduceIte,dK,qI r c k a m];by_cases hm:x.2.1=m;.have:¬k=m:=fun e=>h (hm.trans e.symm);simp[hm,this]
   .simp[hm]
theorem bJa(l:List (Nat×Int×α))(c:Nat)(k:Int)(a:α)(m:Int):cG (gV l c k a) m=(decide (k=m)||cG l m):=by simp only[cG,qI];by_cases h:k=m<;>simp[h]
theorem oJ:∀ {l:List (Nat×Int×α)} {k:Int},cG l k=true↔k∈l.map (·.2.1)
 |[],k=>by simp[cG,dK]
 |x::r,k=>by
  by_cases h:x.2.1=k;.simp[cG,dK,h]
  .have:=oJ (l:=r) (k:=k);simp only[cG]at this;simp only[cG,dK,h,↓reduceIte,Q_,J_,B0 h,false_or];exact this
theorem bPb(l:List (Nat×Int×α))(c:Nat)(k:Int)(a:α):(gV l c k a).length=if cG l k then l.length else l.length+1:=by
 induction l with
 |nil=>simp[gV,cG,dK]
 |cons x r ih =>
  by_cases h:x.2.1=k;.simp[gV,cG,dK,h]
  .have e:cG (x::r) k=cG r k:=by simp[cG,dK,h]
   simp only[gV,h,↓reduceIte,List.length_cons,ih,e];split<;>rfl
structure gE (l:List (Nat×Int×α)) (c:Nat):Prop where
 born:∀x∈l,x.1<c
 once:(l.map (·.1)).Nodup
 keys:(l.map (·.2.1)).Nodup
 rng:∀x∈l,-9223372036854775808<=x.2.1/\x.2.1<=9223372036854775807
theorem gE.nil(c:Nat):gE ([]:List (Nat×Int×α)) c:=⟨by simp,by simp,by simp,by simp⟩
theorem aPd:∀(l:List (Nat×Int×α)) (c:Nat) (k:Int) (a:α),(gV l c k a).map (·.2.1)=if cG l k then l.map (·.2.1)else l.map (·.2.1)++[k]
 |[],c,k,a=>by simp[gV,cG,dK]
 |x::r,c,k,a=>by
  by_cases h:x.2.1=k;.simp[gV,cG,dK,h]
  .have e:cG (x::r) k=cG r k:=by simp[cG,dK,h]
   simp only[gV,h,↓reduceIte,Q_,aPd r c k a,e];split<;>rfl
theorem aPe:∀(l:List (Nat×Int×α)) (c:Nat) (k:Int) (a:α),(gV l c k a).map (·.1)=if cG l k then l.map (·.1)else l.map (·.1)++[c]
 |[],c,k,a=>by simp[gV,cG,dK]
 |x::r,c,k,a=>by
  by_cases h:x.2.1=k;.simp[gV,cG,dK,h]
  .have e:cG (x::r) k=cG r k:=by simp[cG,dK,h]
   simp only[gV,h,↓reduceIte,Q_,aPe r c k a,e];split<;>rfl
theorem gE.put{l:List (Nat×Int×α)}{c:Nat}(h:gE l c){k:Int}(s:-9223372036854775808<=k/\k<=9223372036854775807)(a:α):gE (gV l c k a) (rP l c k):=by
 have p:∀n∈l.map (·.1),n<c:=by intro n q;obtain⟨x,i,rfl⟩:=A0.1 q;exact h.born x i
 have r:∀n∈l.map (·.2.1),-9223372036854775808<=n/\n<=9223372036854775807:=by intro n q;obtain⟨x,i,rfl⟩:=A0.1 q;exact h.rng x i
 have m:=aPe l c k a;have j:=aPd l c k a;refine⟨fun x i=>?_,?_,?_,fun x i=>?_⟩
 .have d:=F3 (f:=fun y:Nat×Int×α=>y.1) i;rw[m]at d;unfold rP;split at d;.rename_i hh;rw[K_ hh];exact p _ d
  .rename_i hh;rw[I_ hh];rcases a_.1 d with d|d;.have:=p _ d;omega
   .simp at d;omega
 .rw[m];split;.exact h.once
  .rw[H9];exact⟨h.once,by simp,fun a o b g e=>by simp at g;have:=p a o;omega⟩
 .rw[j];split;.exact h.keys
  .rename_i hh;rw[H9];refine⟨h.keys,by simp,fun a o b g e=>?_⟩;simp at g;subst g;subst e;exact hh (oJ.2 o)
 .have d:=F3 (f:=fun y:Nat×Int×α=>y.2.1) i;rw[j]at d;split at d;.exact r _ d
  .rcases a_.1 d with d|d;.exact r _ d
   .simp at d;rw[d];exact s
end
def lkB(kk:KK)(z:IV)(ok:Bool)(b:Option aG)(k:TV):Option TV :=
 match lH k with
 |some k =>
  if !(gX kk k)then none else
  match(match b with|some (.mp es _)=>findKey kk k es 0|_=>none)with
  |some (some (_,x))=>some (if ok then .tup [x,.iv (.bool true)]else x)
  |some none=>some (if ok then .tup [.iv z,.iv (.bool false)]else .iv z)
  |none=>none
 |none=>none
theorem aWj(kk:KK)(z:IV)(a:Bool)(S:aA)(j:Nat)(k:TV):lkV kk z a S (.map j) k=lkB kk z a (S[j]?) k:=by
 simp only[lkV,lkB,qV];cases lH k with
 |none=>rfl
 |some k =>
  simp only;cases S[j]? with
  |none=>rfl
  |some b=>cases b<;>rfl
def upB(kk:KK)(env:Env)(S:aA)(j:Nat)(b:Option aG)(k x:TV):Option (TV×Env×aA) :=
 match lH k with
 |some k=>if !(gX kk k)then none else match b with
  |some (.mp es clock)=>if cA x then none else match findKey kk k es 0 with
   |some (some (n,_))=>if !(((es[n]?).map fun y=>gZ y.2.1 k).getD false)then none else some (undef,env,S.set j (.mp (es.modify n fun y=>(y.1,k,x)) clock))
   |some none=>some (undef,env,S.set j (.mp (es++[(clock,k,x)]) (clock+1)))
   |none=>none
  |_=>none
 |_=>none
theorem bPc(kk:KK)(env:Env)(S:aA)(j:Nat)(k x:TV):upV kk env S (.map j) k x=upB kk env S j (S[j]?) k x:=by simp only[upV,upB];cases lH k<;>rfl
attribute [go_sem] aWj bPc
theorem aAj{α:Type}(f:α->TV)(l:List (Nat×Int×α))(c:Nat)(z:IV)(b:Bool)(k:Int): lkB (.leaf .int) z b (some (.mp (mpR f l) c)) (.iv (.int .i64 k))=some (match dK l k with|some a=>(if b then .tup [f a,.iv (.bool true)]else f a)|none=>(if b then .tup [.iv z,.iv (.bool false)]else .iv z)):=by have h:(([.mp (mpR f l) c]:aA))[0]?=some (.mp (mpR f l) c):=rfl;rw[<-h,<-aWj];exact bTn h z b k
theorem bJb{α:Type}(f:α->TV)(l:List (Nat×Int×α))(c:Nat)(env:Env)(S:aA)(j:Nat)(k:Int){x:TV}(a:α)(d:x=f a)(g:cA x=false): upB (.leaf .int) env S j (some (.mp (mpR f l) c)) (.iv (.int .i64 k)) x=some (undef,env,S.set j (.mp (mpR f (gV l c k a)) (rP l c k))):=by
 simp only[upB,lH,oQ,gX,E7,b_,↓reduceIte,g];cases hh:cG l k with
 |false =>rw[yV f hh];simp only[aWh hh,rP,hh,b_,↓reduceIte,mpR,E1,Q_,C3,d]
 |true =>obtain⟨n,v,e,h,h3,b⟩:=aWi f a c k l 0 hh;rw[Nat.sub_zero]at h3 b;rw[e];simp only[h3,E7,b_,↓reduceIte,d,b,rP,hh]
def kC(n:Int):TV:=.iv (.agg [.int .i64 n])
def lR(l:List (Nat×Int×Int))(k:Int):Int:=(dK l k).getD 0
theorem aCw(l:Td_)(c:Nat)(k:Int):lkB (.leaf .int) (.agg [.int .i64 0]) false (some (.mp (mpR kC l) c)) (.iv (.int .i64 k))=some (.iv (.agg [.int .i64 (lR l k)])):=by rw[aAj];simp only[lR,b_,↓reduceIte];cases dK l k<;>rfl
theorem aCx(l:Td_)(c:Nat)(env:Env)(S:aA)(j:Nat)(k a:Int):upB (.leaf .int) env S j (some (.mp (mpR kC l) c)) (.iv (.int .i64 k)) (.iv (.agg [.int .i64 a]))=some (undef,env,S.set j (.mp (mpR kC (gV l c k a)) (rP l c k))) :=
 bJb kC l c env S j k a rfl rfl
attribute [go_sem] aCw aCx
structure bL (I:List Nat) (S S':aA):Prop where
 len:S.length<=S'.length
 get:∀i b,i∉I->S[i]?=some b->S'[i]?=some b
theorem bL.refl(I:Tc_)(S:aA):bL I S S:=⟨O_ _,fun _ _ _ h=>h⟩
theorem bL.trans{I:Tc_}{S S' S'':aA}(h:bL I S S')(g:bL I S' S''):bL I S S'' :=
 ⟨C0 h.len g.len,fun i b a c=>g.get i b a (h.get i b a c)⟩
theorem bL.app(I:Tc_)(S:aA)(l:aA):bL I S (S++l) :=
 ⟨by simp,fun i b _ a=>by
  have:i<S.length:=by
   rcases D2 i S.length with h|h
   .exact h
   .rw[B5 h]at a;cases a
  rw[Y_ this];exact a⟩
theorem bL.set{I:Tc_}(S:aA){j:Nat}(a:j∈I)(b:aG):bL I S (S.set j b) :=
 ⟨by simp,fun i f d c=>by have:j≠i:=fun e=>d (e▸a);rw[B3 this];exact c⟩
theorem aN{S:aA}{i:Nat}{b:aG}(h:S[i]?=some b):i<S.length:=by
 rcases D2 i S.length with a|a;.exact a
 .rw[B5 a]at h;cases h
theorem cN(S:aA)(b:aG):(S++[b])[S.length]?=some b:=B_
theorem aR{S:aA}{i:Nat}{b:aG}(h:S[i]?=some b)(l:aA):(S++l)[i]?=some b:=(bL.app [] S l).get i b B_ h
theorem aM{S:aA}{i:Nat}(h:i<S.length)(b:aG):(S.set i b)[i]?=some b:=by simp[h]
theorem aB{S:aA}{i j:Nat}(h:i≠j)(b:aG):(S.set i b)[j]?=S[j]? := B3 h
theorem mC{α:Type}{cs:List α}{n:Nat}(h:cs.length=n):sub cs 0 n=some cs:=by subst h;simp[sub]
end Go.TM
namespace Go.TM
open Go Go.RowKit Go.Proofs Go.Sort Go.Lib
def uB:List TV->Option (List Int)
 |[]=>some []
 |.iv (.int .i64 n)::r=>match uB r with
  |some l=>some (n::l)
  |none=>none
 |_::_=>none
theorem aIi:∀ {cs:Tn_} {l:Ta_},uB cs=some l->cs=l.map fun n=>.iv (.int .i64 n)
 |[],l,h=>by simp only[uB,R_]at h;subst h;rfl
 |c::r,l,h=>by
  unfold uB at h;split at h;.rename_i h0;cases h0
  .rename_i n r' h0;obtain⟨rfl,rfl⟩:=Z4 h0;split at h;.rename_i l' hl;simp only[R_]at h;subst h;rw[aIi hl];rfl
   .simp at h
  .simp at h
theorem aFr:∀l:List Int,uB (l.map fun n=>.iv (.int .i64 n))=some l
 |[]=>rfl
 |n::l=>by simp only[Q_,uB,aFr l]
def gR:List (Int×Int)->List Int
 |[]=>[]
 |x::r=>x.1::x.2::gR r
def uC:List Int->List (Int×Int)
 |a::b::r=>(a,b)::uC r
 |_=>[]
theorem nT:∀l:List (Int×Int),(gR l).length=2*l.length
 |[]=>rfl
 |x::r=>by rw[gR,List.length_cons,List.length_cons,nT r,List.length_cons];omega
theorem aFs:∀l:List (Int×Int),uC (gR l)=l
 |[]=>rfl
 |x::r=>by rw[gR,uC,aFs r]
theorem aFt:∀(n:Nat) (l:Ta_),l.length=2*n->gR (uC l)=l
 |0,l,h=>by rw[H4.1 (by omega:l.length=0)];rfl
 |n+1,[],h=>by simp at h
 |n+1,[a],h=>by simp at h;omega
 |n+1,a::b::r,h=>by rw[uC,gR,aFt n r (by simp at h;omega)]
def leP(x y:Int×Int):Bool:=decide (x.1<y.1\/(x.1=y.1/\x.2<=y.2))
def aTj(x:Int×Int):List (Int×Int)->List (Int×Int)
 |[]=>[x]
 |y::r=>if leP x y then x::y::r else y::aTj x r
def gT:List (Int×Int)->List (Int×Int)
 |[]=>[]
 |x::r=>aTj x (gT r)
theorem aAk(x:Int×Int):∀l:List (Int×Int),(aTj x l).Perm (x::l)
 |[]=>.refl _
 |y::r=>by
  unfold aTj;split;.exact .refl _
  .exact((aAk x r).cons y).trans (.swap _ _ _)
theorem kD:∀l:List (Int×Int),(gT l).Perm l
 |[]=>.refl _
 |x::r=>(aAk x (gT r)).trans ((kD r).cons x)
theorem aIj{a b c:Int×Int}(h:leP a b=true)(g:leP b c=true):leP a c=true:=by unfold leP at *;simp only[q_]at *;omega
theorem aPf{a b:Int×Int}(h:leP a b=true)(g:leP b a=true):a=b:=by
 unfold leP at *;simp only[q_]at *
 obtain⟨d,a2⟩:=a;obtain⟨c,b2⟩:=b;simp only at *
 have:d=c:=A_;have:a2=b2:=A_;simp[*]
theorem aWk{a b:Int×Int}(h:¬leP a b=true):leP b a=true:=by unfold leP at *;simp only[q_]at *;omega
theorem aIk(x:Int×Int):∀l:List (Int×Int),l.Pairwise (fun a b=>leP a b=true)->(aTj x l).Pairwise (fun a b=>leP a b=true)
 |[],_=>by simp[aTj]
 |y::r,h=>by
  have d:=E6.1 h;unfold aTj;split
  .rename_i hxy;refine E6.2 ⟨fun a c=>?_,h⟩;rcases J_.1 c with rfl|c;.exact hxy
   .exact aIj hxy (d.1 a c)
  .rename_i hxy;refine E6.2 ⟨fun a c=>?_,aIk x r d.2⟩;rcases J_.1 ((aAk x r).mem_iff.1 c)with rfl|c;.exact aWk hxy
   .exact d.1 a c
theorem rQ:∀l:List (Int×Int),(gT l).Pairwise (fun a b=>leP a b=true)
 |[]=>.nil
 |x::r=>aIk x _ (rQ r)
theorem yW{l m:Tb_}(f:m.Perm l)(d:m.Pairwise (fun a b=>leP a b=true)):m=gT l :=
 V8 (le:=fun a b=>leP a b=true) (fun a b _ _ c e=>aPf c e) d (rQ l) (f.trans (kD l).symm)
theorem aB9(l:Tb_):l.mergeSort leP=gT l:=by
 refine yW (Z0 l leP) ?_;have f:∀a b c:Int×Int,leP a b=true->leP b c=true->leP a c=true:=fun a b c d e=>aIj d e;have to:∀a b:Int×Int,(leP a b||leP b a)=true:=fun a b=>by
  cases h:leP a b with
  |true=>rfl
  |false=>rw[aWk (by simp[h]),L9]
 exact W8 f to l
def aGo(x y:Int×Int):Int:=if Lib.compareInt x.1 y.1≠0 then Lib.compareInt x.1 y.1 else Lib.compareInt x.2 y.2
theorem ltP(x y:Int×Int):ltOf aGo x y=!leP y x:=by
 unfold ltOf aGo Lib.compareInt leP;by_cases h1:x.1<y.1;.have:¬(y.1<x.1\/(y.1=x.1/\y.2<=x.2)):=A_;simp[h1,this]
 .by_cases h2:y.1<x.1;.simp[h1,h2]
  .have e:x.1=y.1:=A_;by_cases h3:x.2<y.2;.have:¬y.2<=x.2:=A_;simp[e,h3,this]
   .have a:y.2<=x.2:=A_;by_cases h4:y.2<x.2<;>simp[e,h3,h4,a]
theorem bWs:SWO (ltOf aGo):=⟨fun x=>(by rw[ltP];unfold leP;simp),
 fun x y z a b=>(by rw[ltP]at *;unfold leP at *;simp only[D7,P2]at *;omega),
 fun x y z a b=>(by rw[ltP]at *;unfold leP at *;simp only[T9,q_]at *;omega)⟩
theorem bWt(x y:Int×Int)(h:ltOf aGo x y=false)(g:ltOf aGo y x=false):x=y:=by rw[ltP]at h g;simp only[T9]at h g;exact aPf g h
def aBs(x:Int×Int):List Value:=[.int .i64 x.1,.int .i64 x.2]
theorem aIl:∀(l:Tb_) (t:Nat),t<2*l.length->(gR l)[t]?=(l[t / 2]?).map fun x=>if t % 2=0 then x.1 else x.2
 |[],t,h=>by simp at h
 |x::r,0,h=>rfl
 |x::r,1,h=>rfl
 |x::r,t+2,h=>by rw[gR,List.getElem?_cons_succ,List.getElem?_cons_succ,aIl r t (by simp at h;omega)];rw[show(t+2) / 2=t / 2+1 by omega,List.getElem?_cons_succ,show(t+2) % 2=t % 2 by omega]
theorem aWl(l:Tb_):flatK aBs 2 l.toArray=((gR l).map (Value.int .i64)).toArray:=by
 apply Array.ext;.simp[nT];omega
 .intro t b h;have f:t<l.length*2:=by simpa using b
  have c:t / 2<l.length:=A_;have e:(flatK aBs 2 l.toArray)[t]! = (flatK aBs 2 l.toArray)[t]:=getElem!_pos _ t b;have d:=get_flatK aBs 2 l.toArray t (by simpa using f);have g:l.toArray[t / 2]! = l[t / 2]:=by rw[getElem!_pos _ (t / 2) (by simpa using c)];simp
  rw[g]at d;have e2:=aIl l t A_;rw[D_ c,Option.map_some]at e2;have e3:t<(gR l).length:=by rw[nT];omega
  rw[D_ e3,R_]at e2;rw[<-e,d];simp only[List.getElem_toArray,W4,e2];rcases Nat.mod_two_eq_zero_or_one t with a|a;.rw[a];rfl
  .rw[a];rfl
theorem bBt(w:World)(a off:Nat)(l:Ta_):putRow id w a off (l.map (Value.int .i64)).toArray=putRow (Value.int .i64) w a off l.toArray:=by
 unfold putRow;refine mapBlock_congr _ _ _ _ fun c _ _ _=>?_;apply Array.ext_getElem?;intro k;simp only[putCells,Q2,I9,L_];cases c[k]? with
 |none=>rfl
 |some y =>
  simp only[Option.map_some];by_cases h:off<=k/\k<off+l.length;.rw[K_ h,K_ h,getElem!_pos _ _ (by simp;omega),getElem!_pos _ _ (by simp;omega)];simp
  .rw[I_ h,I_ h]
theorem bJc{w:World}{a off:Nat}{l:Ta_}(h:Holds (Value.int .i64) w a off l.toArray):Holds id w a off (l.map (Value.int .i64)).toArray:=by intro j b;simp only[I9,L_]at b;obtain⟨c,d⟩:=h j (by simpa using b);refine⟨?_,d⟩;rw[c,getElem!_pos _ _ (by simpa using b),getElem!_pos _ _ (by simpa using b)];simp
def iL(g:Nat):aF5:=fun xs S=>match xs with
 |[.iv (.sl .nil []),.fn g' [] []]=>if g'=g then some (.tup [],S)else none
 |[.msl i ver off len cap 2,.fn g' [] []]=>if g'≠g then none else
  if len=0 then some (.tup [],S)else
  match S[i]? with
  |some (.cells v loose cs) =>
   if v=ver/\len<=cap/\off+2*len<=cs.length/\len<=1048576 then match uB ((cs.drop off).take (2*len))with
    |some l=>some (.tup [],S.set i (.cells v loose (cs.take off++(gR (gT (uC l))).map (fun n=>.iv (.int .i64 n))++cs.drop (off+2*len))))
    |none=>none
   else none
  |_=>none
 |_=>none
variable {P:Program}{O:dH}{K:TM.bD}
theorem aLq {f g : Nat} {fn : Func} (hf : P.funcs[f]? = some fn) (G : fn.body.isSome = true) (Q : fn.name ≠ "runtime.NumGoroutine")
  (N:∀(p:Option Addr) (cap:Nat) (Z:Value) (w:World),Calls P f #[.slice p 0 cap,Z] w fun e w'=>e=.returned (.tuple #[])/\w'=w)
  (h7:∀(I off cap:Nat) (zs:Tb_) (w:World),Holds (Value.int .i64) w I off (gR zs).toArray->I<w.heap.size->zs.length<4611686018427387904 ->
   Calls P f #[.slice (some ⟨I,off,none⟩) zs.length cap,.func (.func g) #[] #[]] w fun e w'=>e=.returned (.tuple #[])/\∃n os,w'=grow (putRow (Value.int .i64) (Sort.ahead w n) I off (gR (gT zs)).toArray) os):
  rI P O K f (iL g):=by
 intro args S v S' h M J w vals D hw hg;have h6:∀(p:Option Addr) (cap:Nat) (Z:Value),(v,S')=(.tup [],S)->∀(F:Fence),cZ F->∀n,CallsIn F n P f #[.slice p 0 cap,Z] w (gP P O M J S w fun r=>r=(v,S')):=by intro p cap Z e F hF n;refine jC hF ((N p cap Z w).mono ?_);rintro e' w' ⟨rfl,rfl⟩;obtain⟨rfl,rfl⟩:=Prod.mk.inj e;exact⟨_,_,M,J,rfl,.tup _ _ _ rfl (fun i x v t=>by simp at t),hw,.refl _ _ _ _ _⟩
 unfold iL at h;split at h;case h_3=>simp at h
 case h_1 g' =>
  split at h;case isFalse=>simp at h
  simp only[R_,B7]at h;obtain⟨rfl,rfl⟩:=h;obtain⟨x,vals,rfl,t,D⟩:=D.cons_inv;obtain⟨y,vals,rfl,hy,D⟩:=D.cons_inv;obtain rfl:=D.nil_inv;obtain rfl:x=.slice none 0 0:=by
   rcases t.iv_inv.sl_any with⟨_,_,rfl⟩|⟨b,off,cap,es',vals,_,T,_⟩|⟨a0,_,_,T⟩;.rfl
   .exact absurd rfl T
   .exact absurd rfl T
  exact .inl ⟨fn,hf,G,Q,h6 none 0 y rfl⟩
 case h_2 i ver off len cap g' =>
  split at h;case isTrue=>simp at h
  rename_i hgg;obtain rfl:g'=g:=by simpa using hgg
  obtain⟨x,vals,rfl,t,D⟩:=D.cons_inv;obtain⟨y,vals,rfl,hy,D⟩:=D.cons_inv;obtain rfl:=D.nil_inv;obtain rfl:y=.func (.func g') #[] #[]:=by
   cases hy with
   |fn _ _ _ _ fst' cap' h1 h2 _ _ =>have a1:fst'=#[]:=Q3 h1;have a2:cap'=#[]:=Q3 h2;rw[a1,a2]
  cases t with
  |msl _ _ _ _ _ _ _ l b o c E hlv ha hlc hlc' =>
   split at h;.rename_i hlen;subst hlen;simp only[R_]at h;exact .inl ⟨fn,hf,G,Q,h6 _ _ _ h.symm⟩
   .rename_i hlen;split at h;case h_2=>simp at h
    rename_i v0 loose cs hS;split at h;case isFalse=>simp at h
    rename_i hc;obtain⟨rfl,g1,hz,hu⟩:=hc;split at h;case h_2=>simp at h
    rename_i ks hks;simp only[R_,B7]at h;obtain⟨rfl,rfl⟩:=h;have L:=aIi hks;have H:ks.length=2*len:=by have:=X_ List.length L;simp at this;omega
    have h0:=hw.blk i l _ E hS;generalize hs0:aG.cells v0 loose cs=s0 at h0;cases h0 with
    |cells loose' cs1 cs' e fz hlo hbk hsz hfit hvals hfz U ht =>
     simp only[aG.cells.injEq]at hs0;obtain⟨rfl,rfl,rfl⟩:=hs0;obtain⟨rfl,ho,hq,hp,hh⟩:=ha rfl;have hd:=ho A_;subst hd;have C:∀j n,ks[j]?=some n->cs'[l.d+off+j]?=some (.int .i64 n):=by
      intro j n hn;have hj:j<ks.length:=by
       rcases D2 j ks.length with h3|h3;.exact h3
       .rw[B5 h3]at hn;cases hn
      have h1:cs[off+j]?=some (.iv (.int .i64 n)):=by have:=X_ (fun l=>l[j]?) L;simp only[p_,hn,Option.map_some]at this;rw[G8 A_,G6]at this;exact this
      obtain⟨u,q,r⟩:=hvals _ _ h1;rw[<-G3]at q;rw[q,r.int_inv]
     have hH:Holds (Value.int .i64) w l.cb (l.d+off) ks.toArray:=by
      intro j hj;simp only[I9]at hj;refine⟨?_,hfz _ ?_⟩;.rw[dX hbk,C j ks[j] (D_ hj)];simp[hj]
      .have:=C j ks[j] (D_ hj);rcases D2 (l.d+off+j) cs'.size with h3|h3;.exact h3
       .rw[P4 h3]at this;cases this
     refine .inl ⟨fn,hf,G,Q,fun F hF n=>jC hF ?_⟩;have V:=aFt len ks H;have Y:(uC ks).length=len:=by have:=nT (uC ks);rw[V,H]at this;omega
     have hr:=h7 l.cb (l.d+off) c (uC ks) w (by rw[V];exact hH) (hw.lt i l E) A_;rw[Y]at hr;refine hr.mono ?_;rintro e' w' ⟨rfl,m,os,rfl⟩;have h9:(gR (gT (uC ks))).length=ks.length:=by rw[nT,(kD _).length_eq,Y,H]
     generalize gR (gT (uC ks))=rs at *
     let w1:=putRow (Value.int .i64) (Sort.ahead w m) l.cb (l.d+off) rs.toArray;have h8:w1.heap[l.cb]?=some (.cells (putCells (Value.int .i64) (l.d+off) rs.toArray cs') e fz):=by show((Sort.ahead w m).heap.modify l.cb _)[l.cb]?=_;rw[heap_ahead,J8,K_ rfl,hbk];rfl
     have he:∀b,b≠l.cb->w1.heap[b]?=w.heap[b]? := by intro b G;show((Sort.ahead w m).heap.modify l.cb _)[b]?=_;rw[heap_ahead,J8,I_ (fun q=>G q.symm)]
     obtain⟨R,tr⟩:=hw.write (fun _=>False) E (w':=w1) (s':=.cells l.ver loose (cs.take off++rs.map (fun n=>.iv (.int .i64 n))++cs.drop (off+2*len))) (by
      have z:(cs.take off++rs.map (fun n=>TV.iv (.int .i64 n))++cs.drop (off+2*len)).length=cs.length:=by simp;omega
      refine .cells loose _ _ e fz hlo h8 (by simp[putCells,hsz]) (by rw[z];simpa[putCells] using hfit) ?_ (fun o ho=>?_) U (fun h1 h2=>?_)
      .intro k x t;have hk:k<cs.length:=by
        rw[<-z];rcases D2 k (cs.take off++rs.map (fun n=>TV.iv (.int .i64 n))++cs.drop (off+2*len)).length with h3|h3;.exact h3
        .rw[B5 h3]at t;cases t
       obtain⟨u0,q0,r0⟩:=hvals k cs[k] (D_ hk);have a:(putCells (Value.int .i64) (l.d+off) rs.toArray cs')[l.d+k]?=some (if l.d+off<=l.d+k/\l.d+k<l.d+off+rs.toArray.size then Value.int .i64 rs.toArray[l.d+k-(l.d+off)]! else u0):=by simp only[putCells,Q2,q0,Option.map_some]
       rw[I9,h9,H]at a;rcases D2 k off with h3|h3;.rw[I_ A_]at a;rw[A9,Y_ (by simp;omega),G8 h3,D_ hk]at t;simp only[R_]at t;subst t;exact⟨_,a,r0⟩
       .rcases D2 k (off+2*len)with h4|h4;.rw[K_ A_]at a;rw[Y_ (by simp;omega),r_ (by simp;omega),K0,p_]at t;have e4:k-min off cs.length=k-off:=A_;rw[e4]at t;have h5:k-off<rs.length:=A_;rw[D_ h5,Option.map_some,R_]at t;subst t;refine⟨_,a,?_⟩;have e5:l.d+k-(l.d+off)=k-off:=A_;rw[e5,getElem!_pos _ _ (by simpa using h5)];simp only[List.getElem_toArray];exact .iv _ (.int _ _)
        .rw[I_ A_]at a;rw[r_ (by simp;omega),G6]at t;have e4:off+2*len+(k-(cs.take off++rs.map (fun n=>TV.iv (.int .i64 n))).length)=k:=by simp;omega
         rw[e4,D_ hk,R_]at t;subst t;exact⟨_,a,r0⟩
      .have h3:o<cs'.size:=by simpa[putCells] using ho
       show(putRow _ _ _ _ _).frozen? _=_;rw[frozen?_putRow];exact hfz o h3
      .obtain⟨h3,h4,h5⟩:=ht h1 h2;exact⟨h3,h4,by rw[z];simpa[putCells] using h5⟩) (by show((Sort.ahead w m).heap.modify _ _).size=_;simp) he ⟨rfl,rfl,rfl⟩ (fun o v W=>by rw[U]at W;simp at W)
     have A:∀b,b<w1.heap.size->(grow w1 os).heap[b]?=w1.heap[b]? := by intro b G;show(w1.heap++os)[b]?=_;rw[H5 G]
     refine⟨_,_,M,J,rfl,.tup _ _ _ rfl (fun i x v t=>by simp at t),?_,?_⟩
     .refine R.step R.len (.refl _) (.refl _) ?_ ?_ R.inj (fun i l E=>E9 (R.lt i l E) (by show w1.heap.size<=(w1.heap++os).size;rw[L7];omega));.intro b o u U;rw[dR (A b (R.mlt U))];exact R.imm b o u U
      .intro i l s E hs;exact .inr ⟨E,hs,A _ (R.lt i l E),fun o=>rfl⟩
     .refine tr.trans (own':=fun _=>False) ⟨rfl,rfl,rfl,by show w1.heap.size<=(w1.heap++os).size;rw[L7];omega,.refl _,fun b o _ _=>rfl,.refl _,fun i l E=>.inr ⟨l,E,rfl⟩,fun i hi=>⟨hi,rfl⟩,fun b G _ _=>A b G⟩ (fun _ hf=>.inl hf)
    |_=>simp at hs0
end Go.TM
namespace Go.TM
open Go Go.RowKit Go.Proofs Go.Sort
def wX:List TV->Option (List Int)
 |[]=>some []
 |.iv (.int .i64 n)::r=>match wX r with
  |some l=>some (n::l)
  |none=>none
 |_::_=>none
theorem aIm:∀ {cs:Tn_} {l:Ta_},wX cs=some l->cs=l.map fun n=>.iv (.int .i64 n)
 |[],l,h=>by simp only[wX,R_]at h;subst h;rfl
 |c::r,l,h=>by
  unfold wX at h;split at h;.rename_i h0;cases h0
  .rename_i n r' h0;obtain⟨rfl,rfl⟩:=Z4 h0;split at h;.rename_i l' hl;simp only[R_]at h;subst h;rw[aIm hl];rfl
   .simp at h
  .simp at h
theorem aFu:∀l:List Int,wX (l.map fun n=>.iv (.int .i64 n))=some l
 |[]=>rfl
 |n::l=>by simp only[Q_,wX,aFu l]
def iH:aF5:=fun xs S=>match xs with
 |[.iv (.sl .nil [])]=>some (.tup [],S)
 |[.msl i ver off len cap 1] =>
  if len=0 then some (.tup [],S)else
  match S[i]? with
  |some (.cells v loose cs) =>
   if v=ver/\len<=cap/\off+len<=cs.length/\len<=1048576 then match wX ((cs.drop off).take len)with
    |some l=>some (.tup [],S.set i (.cells v loose (cs.take off++(eG l).map (fun n=>.iv (.int .i64 n))++cs.drop (off+len))))
    |none=>none
   else none
  |_=>none
 |_=>none
variable {P:Program}{O:dH}{K:TM.bD}
theorem aPg {f : Nat} {fn : Func} (Y : P.funcs[f]? = some fn) (D : fn.body.isSome = true) (I : fn.name ≠ "runtime.NumGoroutine")
  (H:∀(p:Option Addr) (cap:Nat) (w:World),Calls P f #[.slice p 0 cap] w fun e w'=>e=.returned (.tuple #[])/\w'=w)
  (h0:∀(E off cap:Nat) (zs:Ta_) (w:World),Holds (Value.int .i64) w E off zs.toArray->E<w.heap.size->zs.length<4611686018427387904 ->
   Calls P f #[.slice (some ⟨E,off,none⟩) zs.length cap] w fun e w'=>e=.returned (.tuple #[])/\∃n os,w'=grow (putRow (Value.int .i64) (Sort.ahead w n) E off (zs.mergeSort fun x y=>decide (x<=y)).toArray) os):
  rI P O K f iH:=by
 intro args S v S' h M J w vals Q hw hg;have Z:∀(p:Option Addr) (cap:Nat),(v,S')=(.tup [],S)->∀(F:Fence),cZ F->∀n,CallsIn F n P f #[.slice p 0 cap] w (gP P O M J S w fun r=>r=(v,S')):=by intro p cap e F hF n;refine jC hF ((H p cap w).mono ?_);rintro e' w' ⟨rfl,rfl⟩;obtain⟨rfl,rfl⟩:=Prod.mk.inj e;exact⟨_,_,M,J,rfl,.tup _ _ _ rfl (fun i x v g=>by simp at g),hw,.refl _ _ _ _ _⟩
 unfold iH at h;split at h;case h_3=>simp at h
 case h_1 =>
  simp only[R_,B7]at h;obtain⟨rfl,rfl⟩:=h;obtain⟨x,vals,rfl,g,Q⟩:=Q.cons_inv;obtain rfl:=Q.nil_inv;obtain rfl:x=.slice none 0 0:=by
   rcases g.iv_inv.sl_any with⟨_,_,rfl⟩|⟨b,off,cap,es',vals,_,N,_⟩|⟨a0,_,_,N⟩;.rfl
   .exact absurd rfl N
   .exact absurd rfl N
  exact .inl ⟨fn,Y,D,I,Z none 0 rfl⟩
 case h_2 i ver off len cap =>
  obtain⟨x,vals,rfl,g,Q⟩:=Q.cons_inv;obtain rfl:=Q.nil_inv;cases g with
  |msl _ _ _ _ _ _ _ l b o c C hlv ha hlc hlc' =>
   split at h;.rename_i hlen;subst hlen;simp only[R_]at h;exact .inl ⟨fn,Y,D,I,Z _ _ h.symm⟩
   .rename_i hlen;split at h;case h_2=>simp at h
    rename_i v0 loose cs hS;split at h;case isFalse=>simp at h
    rename_i hc;obtain⟨rfl,hu,hq,hp⟩:=hc;split at h;case h_2=>simp at h
    rename_i ks hks;simp only[R_,B7]at h;obtain⟨rfl,rfl⟩:=h;have G:=aIm hks;have V:ks.length=len:=by have:=X_ List.length G;simp at this;omega
    have W:=hw.blk i l _ C hS;generalize hs0:aG.cells v0 loose cs=s0 at W;cases W with
    |cells loose' cs1 cs' e fz hlo hbk hsz hfit hvals hfz R ht =>
     simp only[aG.cells.injEq]at hs0;obtain⟨rfl,rfl,rfl⟩:=hs0;obtain⟨rfl,ho,hh,he,hd⟩:=ha rfl;have h8:=ho A_;subst h8;have A:∀j n,ks[j]?=some n->cs'[l.d+off+j]?=some (.int .i64 n):=by
      intro j n hn;have U:j<ks.length:=by
       rcases D2 j ks.length with h3|h3;.exact h3
       .rw[B5 h3]at hn;cases hn
      have h1:cs[off+j]?=some (.iv (.int .i64 n)):=by have:=X_ (fun l=>l[j]?) G;simp only[p_,hn,Option.map_some]at this;rw[G8 A_,G6]at this;exact this
      obtain⟨u,q,r⟩:=hvals _ _ h1;rw[<-G3]at q;rw[q,r.int_inv]
     have hH:Holds (Value.int .i64) w l.cb (l.d+off) ks.toArray:=by
      intro j U;simp only[I9]at U;refine⟨?_,hfz _ ?_⟩;.rw[dX hbk,A j ks[j] (D_ U)];simp[U]
      .have:=A j ks[j] (D_ U);rcases D2 (l.d+off+j) cs'.size with h3|h3;.exact h3
       .rw[P4 h3]at this;cases this
     refine .inl ⟨fn,Y,D,I,fun F hF n=>jC hF ?_⟩;have hr:=h0 l.cb (l.d+off) c ks w hH (hw.lt i l C) A_;rw[V]at hr;refine hr.mono ?_;rintro e' w' ⟨rfl,m,os,rfl⟩;rw[show ks.mergeSort (fun x y=>decide (x<=y))=eG ks from aB8 (.refl _)];have h7:(eG ks).length=ks.length:=(lQ ks).length_eq;let w1:=putRow (Value.int .i64) (Sort.ahead w m) l.cb (l.d+off) (eG ks).toArray;have h6:w1.heap[l.cb]?=some (.cells (putCells (Value.int .i64) (l.d+off) (eG ks).toArray cs') e fz):=by show((Sort.ahead w m).heap.modify l.cb _)[l.cb]?=_;rw[heap_ahead,J8,K_ rfl,hbk];rfl
     have h9:∀b,b≠l.cb->w1.heap[b]?=w.heap[b]? := by intro b D;show((Sort.ahead w m).heap.modify l.cb _)[b]?=_;rw[heap_ahead,J8,I_ (fun q=>D q.symm)]
     obtain⟨L,tr⟩:=hw.write (fun _=>False) C (w':=w1) (s':=.cells l.ver loose (cs.take off++(eG ks).map (fun n=>.iv (.int .i64 n))++cs.drop (off+len))) (by
      have t:(cs.take off++(eG ks).map (fun n=>TV.iv (.int .i64 n))++cs.drop (off+len)).length=cs.length:=by simp;omega
      refine .cells loose _ _ e fz hlo h6 (by simp[putCells,hsz]) (by rw[t];simpa[putCells] using hfit) ?_ (fun o ho=>?_) R (fun h1 h2=>?_)
      .intro k x g;have hk:k<cs.length:=by
        rw[<-t];rcases D2 k (cs.take off++(eG ks).map (fun n=>TV.iv (.int .i64 n))++cs.drop (off+len)).length with h3|h3;.exact h3
        .rw[B5 h3]at g;cases g
       obtain⟨u0,q0,r0⟩:=hvals k cs[k] (D_ hk);have a:(putCells (Value.int .i64) (l.d+off) (eG ks).toArray cs')[l.d+k]?=some (if l.d+off<=l.d+k/\l.d+k<l.d+off+(eG ks).toArray.size then Value.int .i64 (eG ks).toArray[l.d+k-(l.d+off)]! else u0):=by simp only[putCells,Q2,q0,Option.map_some]
       rw[I9,h7,V]at a;rcases D2 k off with h3|h3;.rw[I_ A_]at a;rw[A9,Y_ (by simp;omega),G8 h3,D_ hk]at g;simp only[R_]at g;subst g;exact⟨_,a,r0⟩
       .rcases D2 k (off+len)with h4|h4;.rw[K_ A_]at a;rw[Y_ (by simp;omega),r_ (by simp;omega),K0,p_]at g;have e4:k-min off cs.length=k-off:=A_;rw[e4]at g;have h5:k-off<(eG ks).length:=A_;rw[D_ h5,Option.map_some,R_]at g;subst g;refine⟨_,a,?_⟩;have e5:l.d+k-(l.d+off)=k-off:=A_;rw[e5,getElem!_pos _ _ (by simpa using h5)];simp only[List.getElem_toArray];exact .iv _ (.int _ _)
        .rw[I_ A_]at a;rw[r_ (by simp;omega),G6]at g;have e4:off+len+(k-(cs.take off++(eG ks).map (fun n=>TV.iv (.int .i64 n))).length)=k:=by simp;omega
         rw[e4,D_ hk,R_]at g;subst g;exact⟨_,a,r0⟩
      .have h3:o<cs'.size:=by simpa[putCells] using ho
       show(putRow _ _ _ _ _).frozen? _=_;rw[frozen?_putRow];exact hfz o h3
      .obtain⟨h3,h4,h5⟩:=ht h1 h2;exact⟨h3,h4,by rw[t];simpa[putCells] using h5⟩) (by show((Sort.ahead w m).heap.modify _ _).size=_;simp) h9 ⟨rfl,rfl,rfl⟩ (fun o v T=>by rw[R]at T;simp at T)
     have z:∀b,b<w1.heap.size->(grow w1 os).heap[b]?=w1.heap[b]? := by intro b D;show(w1.heap++os)[b]?=_;rw[H5 D]
     refine⟨_,_,M,J,rfl,.tup _ _ _ rfl (fun i x v g=>by simp at g),?_,?_⟩
     .refine L.step L.len (.refl _) (.refl _) ?_ ?_ L.inj (fun i l C=>E9 (L.lt i l C) (by show w1.heap.size<=(w1.heap++os).size;rw[L7];omega));.intro b o u R;rw[dR (z b (L.mlt R))];exact L.imm b o u R
      .intro i l s C hs;exact .inr ⟨C,hs,z _ (L.lt i l C),fun o=>rfl⟩
     .refine tr.trans (own':=fun _=>False) ⟨rfl,rfl,rfl,by show w1.heap.size<=(w1.heap++os).size;rw[L7];omega,.refl _,fun b o _ _=>rfl,.refl _,fun i l C=>.inr ⟨l,C,rfl⟩,fun i hi=>⟨hi,rfl⟩,fun b D _ _=>z b D⟩ (fun _ Y=>.inl Y)
    |_=>simp at hs0
end Go.TM
namespace Go.TM
section
variable (K:bD)(O:Orc)(i:Nat)(k:Kt)(M:List (Nat×TV))(n:Nat)(fs:List Fr)(env:Env)(S:aA)
theorem aPh(kk:KK)(m y:aH):dY K O (.delete kk m y) i k M n fs env S=tX K O (dlV kk env S (bT K n env M m) (bT K n env M y)) i k M n fs:=by unfold dY tX bT;exact lN K O i k M n fs env S rfl B_
end
attribute [go_sem] aPh
end Go.TM
namespace Go.TM
def nxR(S:aA)(x:TV):Out (TV×aA) :=
 match x with
 |.it j=>match S[j]? with
  |some (.mit none _ _ _)=>.ret (.tup [.iv (.bool false)],S)
  |some (.mit (some m) since seen last)=>match S[m]? with
   |some (.mp es clock) =>
    if !seen.isEmpty && !es.isEmpty && es.all (fun y => decide (y.1 ≥ last)) then .fail "" else
    .pick (((if((es.filter fun y=>!seen.contains y.1).filter (·.1<since)).isEmpty then [none]else [])++(((es.filter fun y=>!seen.contains y.1).filter (·.1<since))++((es.filter fun y=>!seen.contains y.1).filter (·.1≥since))).map some:List (Option (Nat×IV×TV))).length) fun c =>
     match((if((es.filter fun y=>!seen.contains y.1).filter (·.1<since)).isEmpty then [none]else [])++(((es.filter fun y=>!seen.contains y.1).filter (·.1<since))++((es.filter fun y=>!seen.contains y.1).filter (·.1≥since))).map some:List (Option (Nat×IV×TV)))[c]? with
     |some (some y)=>.ret (.tup [.iv (.bool true),.iv y.2.1,y.2.2],S.set j (.mit (some m) since (seen++[y.1]) clock))
     |some none=>.ret (.tup [.iv (.bool false)],S)
     | none => .fail ""
   | _ => .fail ""
  | _ => .fail ""
 | _ => .fail ""
section
variable (K:bD)(O:Orc)(i:Nat)(k:Kt)(M:List (Nat×TV))(n:Nat)(fs:List Fr)(env:Env)(S:aA)
theorem aTk(x:aH):dY K O (.nextM x) i k M n fs env S=fL K O (nxR S (bT K n env M x)) i k M n fs env:=by
 unfold dY fL bT;have key:∀v:TV,v=opv K n env M x->er ((bW K O (.nextM x) env (dC M n) S).bind fun r=>iG K O k ((i,r.1)::M) n fs r.2.1 r.2.2)=opC K O (nxR S v) i k M n fs env:=by
  intro v d;have a:aX K env (dC M n) x=v:=d.symm;unfold bW;simp only[a];unfold nxR opC;cases v with
  |it j =>
   simp only;cases S[j]? with
   |none=>rfl
   |some b =>
    cases b with
    |mit m since seen last =>
     cases m with
     |none=>simp only[Out.bind,jW]
     |some m =>
      simp only;cases S[m]? with
      |none=>rfl
      |some b =>
       cases b with
       |mp es clock =>
        simp only;split;.rfl
        .simp only[Out.bind,er];congr 1;funext c;split<;>(rename_i heq;simp only[heq,Out.bind,jW,er])
       |_=>rfl
    |_=>rfl
  |_=>rfl
 exact key _ rfl
end
theorem bPd{α:Type}{f:α->TV}{S:aA}{b m e g c:Nat}{d:Tc_}{l:List (Nat×Int×α)}{P:TV×aA->Prop} (A:S[b]?=some (.mit (some m) e d g)) (D:S[m]?=some (.mp (mpR f l) c)) (v:∀x∈l,x.1<e) (F:e<=g) (E:(∀x∈l,x.1∈d)->P (.tup [.iv (.bool false)],S)) (C:∀x∈l,x.1∉d->P (.tup [.iv (.bool true),.iv (.int .i64 x.2.1),f x.2.2],S.set b (.mit (some m) e (d++[x.1]) c))):(nxR S (.it b)).All P:=by
 unfold nxR;simp only[A,D];have w:(!d.isEmpty&&!(mpR f l).isEmpty&&(mpR f l).all (fun y=>decide (y.1≥g)))=false:=by
  cases l with
  |nil=>simp[mpR]
  |cons a r =>have:=v a B_;have:¬(g<=a.1):=A_;simp[mpR,this]
 rw[w];simp only[b_,↓reduceIte];have s:((mpR f l).filter fun y=>!d.contains y.1).filter (·.1<e)=mpR f (l.filter fun x=>!d.contains x.1):=by rw[List.filter_filter];unfold mpR;rw[List.filter_map];congr 1;apply V4;intro x k;have:=v x k;simp[this]
 have n:((mpR f l).filter fun y=>!d.contains y.1).filter (·.1≥e)=[]:=by rw[H6];intro y t;have p:=(D1.1 t).1;unfold mpR at p;obtain⟨x,k,rfl⟩:=A0.1 p;have:=v x k;simp;omega
 rw[s,n];intro j z;generalize hL:((if(mpR f (l.filter fun x=>!d.contains x.1)).isEmpty then [none]else [])++(mpR f (l.filter fun x=>!d.contains x.1)++[]).map some:List (Option (Nat×IV×TV)))=L at z |-;cases hg:L[j]? with
 |none=>rw[U7]at hg;omega
 |some o =>
  simp only[hg];have i:=B4 hg;rw[<-hL]at i;rcases a_.1 i with h|h
  .split at h
   .rename_i he;simp at h;subst h;refine E fun x k=>?_;have u:l.filter (fun x=>!d.contains x.1)=[]:=by simpa[mpR] using he
    have:=H6.1 u x k;simpa using this
   .cases h
  .rw[A4]at h;obtain⟨y,t,rfl⟩:=A0.1 h;unfold mpR at t;obtain⟨x,k,rfl⟩:=A0.1 t;have q:=D1.1 k;exact C x q.1 (by simpa using q.2)
def enV(S:aA)(x:TV):Option TV :=
 match x with
 |.it j=>match S[j]? with
  |some (.mit (some m) _ seen last)=>match S[m]?,seen.getLast? with
   |some (.mp es clock),some stamp=>if clock≠last then none else match es.find? (·.1==stamp)with
    |some y=>some (.tup [.iv y.2.1,y.2.2])
    |none=>none
   |_,_=>none
  |_=>none
 |_=>none
theorem aGp(x:aH)(e:aH->TV)(env:Env)(S:aA):aO (.entryM x) e env S=enV S (e x):=id rfl
theorem aAl{α:Type}{f:α->TV}{S:aA}{b m d c:Nat}{i:Tc_}{l:List (Nat×Int×α)}{x:Nat×Int×α} (k:S[b]?=some (.mit (some m) d (i++[x.1]) c)) (n:S[m]?=some (.mp (mpR f l) c)) (o:x∈l) (g:(l.map (·.1)).Nodup):enV S (.it b)=some (.tup [.iv (.int .i64 x.2.1),f x.2.2]):=by
 have key:∀l:List (Nat×Int×α),x∈l->(l.map (·.1)).Nodup->(mpR f l).find? (·.1==x.1)=some (x.1,.int .i64 x.2.1,f x.2.2):=by
  intro l;induction l with
  |nil=>intro h;cases h
  |cons a r ih =>
   intro h g;rw[Q_,C8]at g;rcases J_.1 h with rfl|h;.simp[mpR]
   .have j:a.1≠x.1:=fun e=>g.1 (by rw[e];exact F3 (f:=fun y:Nat×Int×α=>y.1) h);have:=ih h g.2;unfold mpR at this |-;rw[Q_,X3 (by simpa using j)];exact this
 simp only[enV,k,n,Y2,List.getLast?_singleton,Option.some_or,ne_eq,C9,↓reduceIte,key l o g]
theorem kE{S:aA}{j c:Nat}{es:Tr_}(h:S[j]?=some (.mp es c))(env:Env):aK0 false env S (.map j)=some (.it S.length,env,S++[.mit (some j) c [] c]):=by simp only[aK0,h]
def left{α:Type}(l:List (Nat×Int×α))(seen:List Nat):Nat:=(l.filter fun x=>!seen.contains x.1).length
theorem aCy{α:Type}{p q:α->Bool}(b:∀a,q a=true->p a=true):∀ {l:List α} {x:α},x∈l->p x=true->q x=false->(l.filter q).length<(l.filter p).length
 |[],x,c,_,_=>by cases c
 |y::l,x,c,h1,h2=>by
  have e:∀l:List α,(l.filter q).length<=(l.filter p).length:=by
   intro l;induction l with
   |nil=>exact O_ _
   |cons z l d =>
    by_cases hz:q z=true;.rw[D0 hz,D0 (b z hz)];simpa using d
    .rw[E5 hz];by_cases hp:p z=true;.rw[D0 hp];simp;omega
     .rw[E5 hp];exact d
  rcases J_.1 c with rfl|c;.have:=e l;rw[D0 h1,E5 (by simp[h2])];simp;omega
  .have d:=aCy b c h1 h2;by_cases hz:q y=true;.rw[D0 hz,D0 (b y hz)];simpa using d
   .rw[E5 hz];by_cases hp:p y=true;.rw[D0 hp];simp;omega
    .rw[E5 hp];exact d
theorem vE{α:Type}{l:List (Nat×Int×α)}{b:Tc_}{x:Nat×Int×α}(c:x∈l)(d:x.1∉b):left l (b++[x.1])<left l b:=by unfold left;refine aCy (x:=x) (fun a h=>?_) c (by simpa using d) B_;simp at h |-;exact h.1
section
variable {K:bD}{O:Orc}{i:Nat}{k:Kt}{M:List (Nat×TV)}{n:Nat}{fs:List Fr}{env:Env}{S:aA}{cb:aL}
theorem jD{α:Type}{f:α->TV}{b m a e c:Nat}{d:Tc_}{l:List (Nat×Int×α)}{R:aW×Env×aA->Prop} (g:S[b]?=some (.mit (some m) a d e)) (p:S[m]?=some (.mp (mpR f l) c)) (s:∀x∈l,x.1<a) (j:a<=e) (q:(∀x∈l,x.1∈d)->(jK O cb (fL K O (.ret (.tup [.iv (.bool false)],S)) i k M n fs env)).All R) (o:∀x∈l,x.1∉d->(jK O cb (fL K O (.ret (.tup [.iv (.bool true),.iv (.int .i64 x.2.1),f x.2.2],S.set b (.mit (some m) a (d++[x.1]) c))) i k M n fs env)).All R): (jK O cb (fL K O (nxR S (.it b)) i k M n fs env)).All R :=
 oX (P:=fun r=>(jK O cb (fL K O (.ret (r.1,r.2)) i k M n fs env)).All R) (bPd g p s j q o) (fun _ _ h=>h)
end
def wY{α:Type}:List (Nat×Int×α)->Int->List (Nat×Int×α)
 |[],_=>[]
 |x::r,k=>if x.2.1=k then r else x::wY r k
theorem aPi{α:Type}:∀ {l:List (Nat×Int×α)} {k:Int},cG l k=false->wY l k=l
 |[],k,_=>rfl
 |x::r,k,h=>by
  have a:x.2.1≠k:=fun e=>by simp[cG,dK,e]at h
  have b:cG r k=false:=by simpa[cG,dK,a] using h
  rw[wY,I_ a,aPi b]
theorem aPj{α:Type}(f:α->TV)(k:Int):∀(l:List (Nat×Int×α)) (i:Nat),cG l k=true->∃n v,findKey (.leaf .int) (.int .i64 k) (mpR f l) i=some (some (n,v))/\i<=n/\(mpR f l).eraseIdx (n-i)=mpR f (wY l k)
 |[],i,h=>by simp[cG,dK]at h
 |x::r,i,h=>by
  by_cases hx:k=x.2.1
  .refine⟨i,f x.2.2,?_,O_ _,?_⟩;.simp[mpR,findKey,pW,gM,hx]
   .simp[mpR,wY,hx]
  .have b:cG r k=true:=by simpa[cG,dK,B0 hx] using h
   obtain⟨n,v,a,c,h3⟩:=aPj f k r (i+1) b;refine⟨n,v,?_,by omega,?_⟩;.simp only[mpR]at a;simp only[mpR,Q_,findKey,pW,gM,↓reduceIte];rw[show(k==x.2.1)=false by simp[hx]];exact a
   .rw[show n-i=(n-(i+1))+1 by omega];simp only[mpR,Q_,wY,B0 hx,↓reduceIte,List.eraseIdx_cons_succ]at h3 |-;rw[h3]
theorem bTo{α:Type}{f:α->TV}{S:aA}{j c:Nat}{l:List (Nat×Int×α)}(h:S[j]?=some (.mp (mpR f l) c))(env:Env)(k:Int): dlV (.leaf .int) env S (.map j) (.iv (.int .i64 k))=some (undef,env,S.set j (.mp (mpR f (wY l k)) c)):=by
 simp only[dlV,lH,oQ,gX,E7,b_,↓reduceIte,h];cases hh:cG l k with
 |false =>rw[yV f hh,aPi hh];obtain⟨e,a⟩:=E_.1 h;simp only[<-a,J9]
 |true =>obtain⟨n,v,b,d,h3⟩:=aPj f k l 0 hh;rw[Nat.sub_zero]at h3;rw[b];simp only[h3]
theorem yX{α:Type}:∀(l:List (Nat×Int×α)) (k:Int),(wY l k).Sublist l
 |[],k=>List.Sublist.slnil
 |x::r,k=>by
  rw[wY];split;.exact List.sublist_cons_self _ _
  .exact(yX r k).cons_cons _
theorem aPk{α:Type}:∀ {l:List (Nat×Int×α)},(l.map (·.2.1)).Nodup->∀k t:Int,cG (wY l k) t=(decide (t≠k)&&cG l t)
 |[],_,k,t=>by simp[wY,cG,dK]
 |x::r,h,k,t=>by
  rw[Q_,C8]at h;rw[wY];by_cases hx:x.2.1=k
  .rw[K_ hx];by_cases ht:t=k
   .have:cG r t=false:=by
     cases hh:cG r t with
     |false=>rfl
     |true=>exact absurd (by rw[hx,<-ht];exact oJ.1 hh) h.1
    simp[this,ht];simpa[ht] using this
   .have:¬x.2.1=t:=fun e=>ht (e.symm.trans hx);simp[cG,dK,this,ht]
  .rw[I_ hx];by_cases hxt:x.2.1=t;.have:¬t=k:=fun e=>hx (hxt.trans e);simp[cG,dK,hxt,this]
   .have a:=aPk h.2 k t;simp only[cG]at a;simp only[cG,dK,hxt,↓reduceIte,a]
theorem gE.del{α:Type}{l:List (Nat×Int×α)}{c:Nat}(h:gE l c)(k:Int):gE (wY l k) c :=
 ⟨fun x a=>h.born x ((yX l k).subset a),h.once.sublist ((yX l k).map _),h.keys.sublist ((yX l k).map _),fun x a=>h.rng x ((yX l k).subset a)⟩
section
variable {K:bD}{O:Orc}{i:Nat}{k:Kt}{M:List (Nat×TV)}{n:Nat}{fs:List Fr}{env:Env}{S:aA}{cb:aL}{rs:List mU}
theorem kJ{P:TV×aA->Prop}{R:aW×Env×aA->Prop}{X:Out (TV×aA)}(a:X.All P)(h:∀v S',P (v,S')->(jK O cb (fL K O (.ret (v,S')) i k M n fs env)).All R):(jK O cb (fL K O (aFe false S X) i k M n fs env)).All R :=
 oX (P:=P) (aCv a fun v S' b=>by rw[aFh];exact b) h
theorem fI{P:TV×aA->Prop}{R:TV×aA->Prop}{X:Out (TV×aA)}(a:X.All P)(h:∀v S',P (v,S')->(jT rs (fL K O (.ret (v,S')) i k M n fs env)).All R):(jT rs (fL K O (aFe false S X) i k M n fs env)).All R :=
 aBr (P:=P) (aCv a fun v S' b=>by rw[aFh];exact b) h
end
theorem bVo(env:Env)(S:aA)(x y:IV):bP env S (.iv (.cp [x,y])) 2=some [.iv x,.iv y]:=id rfl
def clV(z:List IV)(env:Env)(S:aA)(x:TV):Option (TV×Env×aA):=match lW z S x with
 |some S=>some (undef,env,S)
 |none=>none
theorem aTl(K:bD)(O:Orc)(i:Nat)(k:Kt)(M:To_)(n:Nat)(a:List Fr)(env:Env)(S:aA)(z:Tq_)(x:aH):dY K O (.clear z x) i k M n a env S=tX K O (clV z env S (bT K n env M x)) i k M n a:=by unfold dY tX bT;exact lN K O i k M n a env S rfl B_
theorem aLr(z:Tq_)(env:Env)(S S':aA)(x:TV)(h:lW z S x=some S'):clV z env S x=some (undef,env,S'):=by simp only[clV,h]
attribute [go_sem] aTk aGp bVo aTl
end Go.TM
namespace Go.TM
def grV(es bytes el:Nat)(env:Env)(S:aA)(x n:TV):Option (TV×Env×aA):=match fB n with
 |some n=>match qU es bytes el S x n with
  |some (x,S)=>some (x,env,S)
  |none=>none
 |none=>none
theorem bBu(K:bD)(O:Orc)(i:Nat)(k:Kt)(M:To_)(n:Nat)(a:List Fr)(env:Env)(S:aA)(es bytes el:Nat)(x y:aH):dY K O (.grow es bytes el x y) i k M n a env S=tX K O (grV es bytes el env S (bT K n env M x) (bT K n env M y)) i k M n a:=by unfold dY tX bT;exact lN K O i k M n a env S rfl B_
theorem bJd{es bytes el:Nat}{env:Env}{S S':aA}{x y:TV}{n:Int}(h:qU es bytes el S x n=some (y,S')):grV es bytes el env S x (.iv (.int .i64 n))=some (y,env,S'):=by simp only[grV,fB,h]
attribute [go_sem] bBu
end Go.TM
set_option linter.unusedSectionVars false
namespace Go.TM
structure KE (κ:Type) [DecidableEq κ] (kk:KK) (en:κ->IV):Prop where
 eq:∀a b,pW kk (en a) (en b)=some (decide (a=b))
 ok:∀a,gX kk (en a)=true
 same:∀a,gZ (en a) (en a)=true
section
variable {κ:Type}[DecidableEq κ]{kk:KK}{en:κ->IV}{α:Type}
def mpK(en:κ->IV)(f:α->TV)(l:List (Nat×κ×α)):List (Nat×IV×TV):=l.map fun x=>(x.1,en x.2.1,f x.2.2)
def gH:List (Nat×κ×α)->κ->Option α
 |[],_=>none
 |x::r,k=>if x.2.1=k then some x.2.2 else gH r k
def fU:List (Nat×κ×α)->Nat->κ->α->List (Nat×κ×α)
 |[],c,k,a=>[(c,k,a)]
 |x::r,c,k,a=>if x.2.1=k then(x.1,k,a)::r else x::fU r c k a
def eJ(l:List (Nat×κ×α))(k:κ):Bool:=(gH l k).isSome
def aAm(l:List (Nat×κ×α))(c:Nat)(k:κ):Nat:=if eJ l k then c else c+1
theorem uD(b:KE κ kk en)(f:α->TV)(k:κ):∀(l:List (Nat×κ×α)) (i:Nat),∃n,findKey kk (en k) (mpK en f l) i=some ((gH l k).map fun a=>(n,f a))
 |[],i=>⟨i,rfl⟩
 |x::r,i=>by
  by_cases hx:k=x.2.1;.refine⟨i,?_⟩;subst hx;simp[mpK,findKey,b.eq,gH]
  .obtain⟨n,c⟩:=uD b f k r (i+1);refine⟨n,?_⟩;simp only[mpK]at c;simp only[mpK,Q_,findKey,b.eq,l_ hx,gH,B0 hx,↓reduceIte];exact c
theorem aGq(b:KE κ kk en)(f:α->TV){k:κ}{l:List (Nat×κ×α)}(h:eJ l k=false):findKey kk (en k) (mpK en f l) 0=some none:=by
 obtain⟨n,a⟩:=uD b f k l 0;have:gH l k=none:=by simpa[eJ] using h
 rw[a,this];rfl
theorem aPl:∀ {l:List (Nat×κ×α)} {k:κ},eJ l k=false->∀(c:Nat) (a:α),fU l c k a=l++[(c,k,a)]
 |[],k,_,c,a=>rfl
 |x::r,k,h,c,a=>by
  have b:x.2.1≠k:=fun e=>by simp[eJ,gH,e]at h
  have d:eJ r k=false:=by simpa[eJ,gH,b] using h
  simp only[fU,b,↓reduceIte,aPl d c a,List.cons_append]
theorem aFv:∀(l:List (Nat×κ×α)) (c:Nat) (k:κ) (a:α) (m:κ),gH (fU l c k a) m=if k=m then some a else gH l m
 |[],c,k,a,m=>by simp[fU,gH]
 |x::r,c,k,a,m=>by
  simp only[fU];by_cases h:x.2.1=k;.simp only[h,↓reduceIte,gH];by_cases hk:k=m<;>simp[hk]
  .simp only[h,↓reduceIte,gH,aFv r c k a m];by_cases hm:x.2.1=m;.have:¬k=m:=fun e=>h (hm.trans e.symm);simp[hm,this]
   .simp[hm]
theorem aPm(l:List (Nat×κ×α))(c:Nat)(k:κ)(a:α)(m:κ):eJ (fU l c k a) m=(decide (k=m)||eJ l m):=by simp only[eJ,aFv];by_cases h:k=m<;>simp[h]
theorem aFw:∀ {l:List (Nat×κ×α)} {k:κ},eJ l k=true↔k∈l.map (·.2.1)
 |[],k=>by simp[eJ,gH]
 |x::r,k=>by
  by_cases h:x.2.1=k;.simp[eJ,gH,h]
  .have:=aFw (l:=r) (k:=k);simp only[eJ]at this;simp only[eJ,gH,h,↓reduceIte,Q_,J_,B0 h,false_or];exact this
theorem bJe(l:List (Nat×κ×α))(c:Nat)(k:κ)(a:α):(fU l c k a).length=if eJ l k then l.length else l.length+1:=by
 induction l with
 |nil=>simp[fU,eJ,gH]
 |cons x r ih =>
  by_cases h:x.2.1=k;.simp[fU,eJ,gH,h]
  .have e:eJ (x::r) k=eJ r k:=by simp[eJ,gH,h]
   simp only[fU,h,↓reduceIte,List.length_cons,ih,e];split<;>rfl
theorem aBt(l:List (Nat×κ×α))(c:Nat)(k:κ)(a:α):(fU l c k a).length<=l.length+1:=by rw[bJe];split<;>omega
structure fG (l:List (Nat×κ×α)) (c:Nat):Prop where
 born:∀x∈l,x.1<c
 once:(l.map (·.1)).Nodup
 keys:(l.map (·.2.1)).Nodup
theorem fG.nil(c:Nat):fG ([]:List (Nat×κ×α)) c:=⟨by simp,by simp,by simp⟩
theorem aIn:∀(l:List (Nat×κ×α)) (c:Nat) (k:κ) (a:α),(fU l c k a).map (·.2.1)=if eJ l k then l.map (·.2.1)else l.map (·.2.1)++[k]
 |[],c,k,a=>by simp[fU,eJ,gH]
 |x::r,c,k,a=>by
  by_cases h:x.2.1=k;.simp[fU,eJ,gH,h]
  .have e:eJ (x::r) k=eJ r k:=by simp[eJ,gH,h]
   simp only[fU,h,↓reduceIte,Q_,aIn r c k a,e];split<;>rfl
theorem aIo:∀(l:List (Nat×κ×α)) (c:Nat) (k:κ) (a:α),(fU l c k a).map (·.1)=if eJ l k then l.map (·.1)else l.map (·.1)++[c]
 |[],c,k,a=>by simp[fU,eJ,gH]
 |x::r,c,k,a=>by
  by_cases h:x.2.1=k;.simp[fU,eJ,gH,h]
  .have e:eJ (x::r) k=eJ r k:=by simp[eJ,gH,h]
   simp only[fU,h,↓reduceIte,Q_,aIo r c k a,e];split<;>rfl
theorem fG.put{l:List (Nat×κ×α)}{c:Nat}(h:fG l c)(k:κ)(a:α):fG (fU l c k a) (aAm l c k):=by
 have o:∀n∈l.map (·.1),n<c:=by intro n q;obtain⟨x,p,rfl⟩:=A0.1 q;exact h.born x p
 have i:=aIo l c k a;have j:=aIn l c k a;refine⟨fun x p=>?_,?_,?_⟩
 .have g:=F3 (f:=fun y:Nat×κ×α=>y.1) p;rw[i]at g;unfold aAm;split at g;.rename_i hh;rw[K_ hh];exact o _ g
  .rename_i hh;rw[I_ hh];rcases a_.1 g with g|g;.have:=o _ g;omega
   .simp at g;omega
 .rw[i];split;.exact h.once
  .rw[H9];exact⟨h.once,by simp,fun a m b d e=>by simp at d;have:=o a m;omega⟩
 .rw[j];split;.exact h.keys
  .rename_i hh;rw[H9];refine⟨h.keys,by simp,fun a m b d e=>?_⟩;simp at d;subst d;subst e;exact hh (aFw.2 m)
theorem bPe(d:KE κ kk en)(f:α->TV)(l:List (Nat×κ×α))(c:Nat)(z:IV)(b:Bool)(k:κ): lkB kk z b (some (.mp (mpK en f l) c)) (.iv (en k))=some (match gH l k with|some a=>(if b then .tup [f a,.iv (.bool true)]else f a)|none=>(if b then .tup [.iv z,.iv (.bool false)]else .iv z)):=by obtain⟨n,e⟩:=uD d f k l 0;simp only[lkB,lH,oQ,d.ok,E7,b_,↓reduceIte,e];cases gH l k<;>rfl
theorem bJf{f:α->TV}{S:aA}{b m e g c:Nat}{d:Tc_}{l:List (Nat×κ×α)}{P:TV×aA->Prop} (A:S[b]?=some (.mit (some m) e d g)) (D:S[m]?=some (.mp (mpK en f l) c)) (w:∀x∈l,x.1<e) (F:e<=g) (E:(∀x∈l,x.1∈d)->P (.tup [.iv (.bool false)],S)) (C:∀x∈l,x.1∉d->P (.tup [.iv (.bool true),.iv (en x.2.1),f x.2.2],S.set b (.mit (some m) e (d++[x.1]) c))):(nxR S (.it b)).All P:=by
 unfold nxR;simp only[A,D];have u:(!d.isEmpty&&!(mpK en f l).isEmpty&&(mpK en f l).all (fun y=>decide (y.1≥g)))=false:=by
  cases l with
  |nil=>simp[mpK]
  |cons a r =>have:=w a B_;have:¬(g<=a.1):=A_;simp[mpK,this]
 rw[u];simp only[b_,↓reduceIte];have s:((mpK en f l).filter fun y=>!d.contains y.1).filter (·.1<e)=mpK en f (l.filter fun x=>!d.contains x.1):=by rw[List.filter_filter];unfold mpK;rw[List.filter_map];congr 1;apply V4;intro x k;have:=w x k;simp[this]
 have n:((mpK en f l).filter fun y=>!d.contains y.1).filter (·.1≥e)=[]:=by rw[H6];intro y t;have p:=(D1.1 t).1;unfold mpK at p;obtain⟨x,k,rfl⟩:=A0.1 p;have:=w x k;simp;omega
 rw[s,n];intro j z;generalize hL:((if(mpK en f (l.filter fun x=>!d.contains x.1)).isEmpty then [none]else [])++(mpK en f (l.filter fun x=>!d.contains x.1)++[]).map some:List (Option (Nat×IV×TV)))=L at z |-;cases hg:L[j]? with
 |none=>rw[U7]at hg;omega
 |some o =>
  simp only[hg];have i:=B4 hg;rw[<-hL]at i;rcases a_.1 i with h|h
  .split at h
   .rename_i he;simp at h;subst h;refine E fun x k=>?_;have v:l.filter (fun x=>!d.contains x.1)=[]:=by simpa[mpK] using he
    have:=H6.1 v x k;simpa using this
   .cases h
  .rw[A4]at h;obtain⟨y,t,rfl⟩:=A0.1 h;unfold mpK at t;obtain⟨x,k,rfl⟩:=A0.1 t;have q:=D1.1 k;exact C x q.1 (by simpa using q.2)
theorem bPf{f:α->TV}{S:aA}{b m d c:Nat}{i:Tc_}{l:List (Nat×κ×α)}{x:Nat×κ×α} (k:S[b]?=some (.mit (some m) d (i++[x.1]) c)) (n:S[m]?=some (.mp (mpK en f l) c)) (o:x∈l) (g:(l.map (·.1)).Nodup):enV S (.it b)=some (.tup [.iv (en x.2.1),f x.2.2]):=by
 have key:∀l:List (Nat×κ×α),x∈l->(l.map (·.1)).Nodup->(mpK en f l).find? (·.1==x.1)=some (x.1,en x.2.1,f x.2.2):=by
  intro l;induction l with
  |nil=>intro h;cases h
  |cons a r ih =>
   intro h g;rw[Q_,C8]at g;rcases J_.1 h with rfl|h;.simp[mpK]
   .have j:a.1≠x.1:=fun e=>g.1 (by rw[e];exact F3 (f:=fun y:Nat×κ×α=>y.1) h);have:=ih h g.2;unfold mpK at this |-;rw[Q_,X3 (by simpa using j)];exact this
 simp only[enV,k,n,Y2,List.getLast?_singleton,Option.some_or,ne_eq,C9,↓reduceIte,key l o g]
end
def en2(k:Int×Int):IV:=.agg [.int .i64 k.1,.int .i64 k.2]
theorem ke2:KE (Int×Int) (.agg [(0,.int),(1,.int)]) en2:=by
 refine⟨fun a b=>?_,fun a=>?_,fun a=>?_⟩
 .obtain⟨d,a2⟩:=a;obtain⟨c,b2⟩:=b;by_cases h1:d=c
  .subst h1;by_cases h2:a2=b2;.subst h2;simp[pW,en2,fA,gM]
   .simp[pW,en2,fA,gM,h2,show(a2==b2)=false by simp[h2]]
  .simp[pW,en2,fA,gM,h1,show(d==c)=false by simp[h1]]
 .simp[gX,en2]
 .simp[gZ,en2,jX,pX]
end Go.TM
set_option linter.unusedSectionVars false
namespace Go.TM
def bTp(kk:KK)(z:IV)(env:Env)(S:aA)(m k:TV):Option (TV×Env×aA):=match lH k,m with
 |some k,.map j=>if !(gX kk k)then none else match S[j]? with
  |some (.mp es clock)=>match findKey kk k es 0 with
   |some (some (n,x))=>if !(((es[n]?).map fun y=>gZ y.2.1 k).getD false)then none else some (.tup [x,.iv (.int .i64 (((es[n]?).map (·.1)).getD 0:Nat))],env,S.set j (.mp (es.modify n fun y=>(y.1,k,y.2.2)) clock))
   |some none=>some (.tup [.iv z,.iv (.int .i64 clock)],env,S.set j (.mp (es++[(clock,k,.iv z)]) (clock+1)))
   |none=>none
  |_=>none
 |_,_=>none
def esV(env:Env)(S:aA)(m s x:TV):Option (TV×Env×aA):=match m,fB s with
 |.map j,some born=>match S[j]? with
  |some (.mp es clock)=>if cA x then none else match es.findIdx? (fun y=>(y.1:Int)==born)with
   |some n=>some (undef,env,S.set j (.mp (es.modify n fun y=>(y.1,y.2.1,x)) clock))
   |none=>none
  |_=>none
 |_,_=>none
section
variable (K:bD)(O:Orc)(i:Nat)(k:Kt)(M:List (Nat×TV))(n:Nat)(fs:List Fr)(env:Env)(S:aA)
theorem aTm(kk:KK)(z:IV)(m y:aH):dY K O (.entry kk z m y) i k M n fs env S=tX K O (bTp kk z env S (bT K n env M m) (bT K n env M y)) i k M n fs:=by unfold dY tX bT;exact lN K O i k M n fs env S rfl B_
theorem aCa(m s x:aH):dY K O (.entryStore m s x) i k M n fs env S=tX K O (esV env S (bT K n env M m) (bT K n env M s) (bT K n env M x)) i k M n fs:=by unfold dY tX bT;exact lN K O i k M n fs env S rfl B_
end
theorem aTn(K:bD)(M:To_)(n:Nat)(env:Env)(S:aA)(kk:KK)(z:IV)(a:Bool)(m y:aH):aSp K M n env S (.lookup kk z a m y)=lkV kk z a S (bT K n env M m) (bT K n env M y):=by unfold aSp bT;exact aN5 K M n env S rfl
def bJg(kk:KK)(z:IV)(env:Env)(S:aA)(j:Nat)(b:Option aG)(k:TV):Option (TV×Env×aA):=match lH k with
 |some k=>if !(gX kk k)then none else match b with
  |some (.mp es clock)=>match findKey kk k es 0 with
   |some (some (n,x))=>if !(((es[n]?).map fun y=>gZ y.2.1 k).getD false)then none else some (.tup [x,.iv (.int .i64 (((es[n]?).map (·.1)).getD 0:Nat))],env,S.set j (.mp (es.modify n fun y=>(y.1,k,y.2.2)) clock))
   |some none=>some (.tup [.iv z,.iv (.int .i64 clock)],env,S.set j (.mp (es++[(clock,k,.iv z)]) (clock+1)))
   |none=>none
  |_=>none
 |_=>none
def esB(env:Env)(S:aA)(j:Nat)(b:Option aG)(s x:TV):Option (TV×Env×aA):=match fB s with
 |some born=>match b with
  |some (.mp es clock)=>if cA x then none else match es.findIdx? (fun y=>(y.1:Int)==born)with
   |some n=>some (undef,env,S.set j (.mp (es.modify n fun y=>(y.1,y.2.1,x)) clock))
   |none=>none
  |_=>none
 |_=>none
theorem bJh(kk:KK)(z:IV)(env:Env)(S:aA)(j:Nat)(k:TV):bTp kk z env S (.map j) k=bJg kk z env S j (S[j]?) k:=by simp only[bTp,bJg];cases lH k<;>rfl
theorem bPg(env:Env)(S:aA)(j:Nat)(s x:TV):esV env S (.map j) s x=esB env S j (S[j]?) s x:=by simp only[esV,esB];cases fB s<;>rfl
attribute [go_sem] aTm aCa bJh bPg aTn
section
variable {κ:Type}[DecidableEq κ]{kk:KK}{en:κ->IV}{α:Type}
def kK:List (Nat×κ×α)->Nat->κ->Nat
 |[],c,_=>c
 |x::r,c,k=>if x.2.1=k then x.1 else kK r c k
theorem aFx:∀ {l:List (Nat×κ×α)} {k:κ},eJ l k=false->∀c,kK l c k=c
 |[],k,_,c=>rfl
 |x::r,k,h,c=>by
  have a:x.2.1≠k:=fun e=>by simp[eJ,gH,e]at h
  have b:eJ r k=false:=by simpa[eJ,gH,a] using h
  rw[kK,I_ a,aFx b]
theorem aWm(a:KE κ kk en)(f:α->TV)(c:Nat)(z:α)(k:κ):∀(l:List (Nat×κ×α)) (i:Nat),eJ l k=true->∃n,findKey kk (en k) (mpK en f l) i=some (some (n,f ((gH l k).getD z)))/\i<=n/\((((mpK en f l)[n-i]?).map fun y=>gZ y.2.1 (en k)).getD false)=true/\(((mpK en f l)[n-i]?).map (·.1)).getD 0=kK l c k/\(mpK en f l).modify (n-i) (fun y=>(y.1,en k,y.2.2))=mpK en f (fU l c k ((gH l k).getD z))
 |[],i,h=>by simp[eJ,gH]at h
 |x::r,i,h=>by
  by_cases hx:k=x.2.1
  .refine⟨i,?_,O_ _,?_,?_,?_⟩;.subst hx;simp[mpK,findKey,a.eq,gH]
   .subst hx;simp[mpK,a.same]
   .subst hx;simp[mpK,kK]
   .subst hx;simp[mpK,fU,gH]
  .have g:eJ r k=true:=by simpa[eJ,gH,B0 hx] using h
   obtain⟨n,d,j,h3,b,e⟩:=aWm a f c z k r (i+1) g;refine⟨n,?_,by omega,?_,?_,?_⟩;.simp only[mpK]at d;simp only[mpK,Q_,findKey,a.eq,l_ hx,gH,B0 hx,↓reduceIte];exact d
   .rw[show n-i=(n-(i+1))+1 by omega];simp only[mpK,Q_,List.getElem?_cons_succ]at h3 |-;exact h3
   .rw[show n-i=(n-(i+1))+1 by omega];simp only[mpK,Q_,List.getElem?_cons_succ,kK,B0 hx,↓reduceIte]at b |-;exact b
   .rw[show n-i=(n-(i+1))+1 by omega];simp only[mpK,Q_,fU,gH,B0 hx,↓reduceIte,List.modify_succ_cons]at e |-;rw[e]
theorem bJi(b:KE κ kk en)(f:α->TV)(a:α)(z:IV)(i:f a=.iv z)(l:List (Nat×κ×α))(c:Nat)(env:Env)(S:aA)(j:Nat)(k:κ): bJg kk z env S j (some (.mp (mpK en f l) c)) (.iv (en k))=some (.tup [f ((gH l k).getD a),.iv (.int .i64 (kK l c k))],env,S.set j (.mp (mpK en f (fU l c k ((gH l k).getD a))) (aAm l c k))):=by
 simp only[bJg,lH,oQ,b.ok,E7,b_,↓reduceIte];cases hh:eJ l k with
 |false =>
  have g:gH l k=none:=by simpa[eJ] using hh
  rw[aGq b f hh];simp only[aPl hh,aAm,hh,b_,↓reduceIte,mpK,E1,Q_,C3,g,Option.getD_none,aFx hh,i]
 |true =>obtain⟨n,h,m,h3,d,e⟩:=aWm b f c a k l 0 hh;rw[Nat.sub_zero]at h3 e d;rw[h];simp only[h3,E7,b_,↓reduceIte,e,aAm,hh,d]
theorem bJj(f:α->TV)(c:Nat)(k:κ)(v a:α):∀l:List (Nat×κ×α),(∀x∈l,x.1<c)->(l.map (·.1)).Nodup->∃n,(mpK en f (fU l c k v)).findIdx? (fun y=>(y.1:Int)==((kK l c k:Nat):Int))=some n/\(mpK en f (fU l c k v)).modify n (fun y=>(y.1,y.2.1,f a))=mpK en f (fU l c k a)
 |[],_,_=>⟨0,by simp[mpK,fU,kK],by simp[mpK,fU]⟩
 |x::r,hb,hn=>by
  rw[Q_,C8]at hn;by_cases hx:x.2.1=k;.exact⟨0,by simp[mpK,fU,kK,hx,P0],by simp[mpK,fU,hx]⟩
  .obtain⟨n,g,d⟩:=bJj f c k v a r (fun y i=>hb y (by simp[i])) hn.2;have b:¬((x.1:Int)=((kK r c k:Nat):Int)):=by
    intro e;have e':x.1=kK r c k:=A_;have key:∀l:List (Nat×κ×α),kK l c k=c\/kK l c k∈l.map (·.1):=by
     intro l;induction l with
     |nil=>exact .inl rfl
     |cons y l ih =>
      rw[kK];split;.exact .inr B_
      .rcases ih with h|h;.exact .inl h
       .exact .inr (by simp only[Q_,J_];exact .inr h)
    rcases key r with h|h;.have:=hb x B_;omega
    .rw[<-e']at h;exact hn.1 h
   refine⟨n+1,?_,?_⟩;.simp only[mpK]at g;simp only[mpK,fU,kK,hx,↓reduceIte,Q_,P0];rw[show((x.1:Int)==((kK r c k:Nat):Int))=false by simpa using b,g];rfl
   .simp only[mpK]at d;simp only[mpK,fU,hx,↓reduceIte,Q_,List.modify_succ_cons,d]
theorem bPh(f:α->TV){l:List (Nat×κ×α)}{c:Nat}(h:fG l c)(c':Nat)(env:Env)(S:aA)(j:Nat)(k:κ)(v a:α){x:TV}(e:x=f a)(g:cA x=false): esB env S j (some (.mp (mpK en f (fU l c k v)) c')) (.iv (.int .i64 (kK l c k))) x=some (undef,env,S.set j (.mp (mpK en f (fU l c k a)) c')):=by obtain⟨n,d,b⟩:=bJj (en:=en) f c k v a l h.born h.once;subst e;simp only[esB,TM.fB,g,b_,↓reduceIte,d,b]
end
def qJ(n:Int):TV:=.iv (.int .i64 n)
def yY(l:List (Nat×(Int×Int)×Int))(k:Int×Int):Int:=(gH l k).getD 0
theorem lk2(l:Tf_)(c:Nat)(a b:Int):lkB (.agg [(0,.int),(1,.int)]) (.int .i64 0) false (some (.mp (mpK en2 qJ l) c)) (.iv (.agg [.int .i64 a,.int .i64 b]))=some (.iv (.int .i64 (yY l (a,b)))):=by have h:=bPe ke2 qJ l c (.int .i64 0) false (a,b);rw[show en2 (a,b)=.agg [.int .i64 a,.int .i64 b] from rfl]at h;rw[h];unfold yY;cases gH l (a,b)<;>rfl
theorem bWu(l:Tf_)(c:Nat)(env:Env)(S:aA)(j:Nat)(a b:Int):bJg (.agg [(0,.int),(1,.int)]) (.int .i64 0) env S j (some (.mp (mpK en2 qJ l) c)) (.iv (.agg [.int .i64 a,.int .i64 b]))=some (.tup [.iv (.int .i64 (yY l (a,b))),.iv (.int .i64 (kK l c (a,b)))],env,S.set j (.mp (mpK en2 qJ (fU l c (a,b) (yY l (a,b)))) (aAm l c (a,b)))) :=
 bJi ke2 qJ 0 (.int .i64 0) rfl l c env S j (a,b)
theorem es2{l:Tf_}{c:Nat}(h:fG l c)(c':Nat)(env:Env)(S:aA)(j:Nat)(k:Int×Int)(v a:Int):esB env S j (some (.mp (mpK en2 qJ (fU l c k v)) c')) (.iv (.int .i64 (kK l c k))) (.iv (.int .i64 a))=some (undef,env,S.set j (.mp (mpK en2 qJ (fU l c k a)) c')) :=
 bPh qJ h c' env S j k v a rfl rfl
attribute [go_sem] lk2 bWu
end Go.TM
set_option linter.unusedSectionVars false
namespace Go.TM
section
variable {κ:Type}[DecidableEq κ]{en:κ->IV}{α:Type}
def aBu(l:List (Nat×κ×α))(seen:List Nat):Nat:=(l.filter fun x=>!seen.contains x.1).length
theorem aPn{l:List (Nat×κ×α)}{b:Tc_}{x:Nat×κ×α}(c:x∈l)(d:x.1∉b):aBu l (b++[x.1])<aBu l b:=by unfold aBu;refine aCy (x:=x) (fun a h=>?_) c (by simpa using d) B_;simp at h |-;exact h.1
variable {K:bD}{O:Orc}{i:Nat}{k:Kt}{M:List (Nat×TV)}{n:Nat}{fs:List Fr}{env:Env}{S:aA}{cb:aL}{rs:List mU}
theorem aGr{f:α->TV}{b m a e c:Nat}{d:Tc_}{l:List (Nat×κ×α)}{R:aW×Env×aA->Prop} (g:S[b]?=some (.mit (some m) a d e)) (p:S[m]?=some (.mp (mpK en f l) c)) (s:∀x∈l,x.1<a) (j:a<=e) (q:(∀x∈l,x.1∈d)->(jK O cb (fL K O (.ret (.tup [.iv (.bool false)],S)) i k M n fs env)).All R) (o:∀x∈l,x.1∉d->(jK O cb (fL K O (.ret (.tup [.iv (.bool true),.iv (en x.2.1),f x.2.2],S.set b (.mit (some m) a (d++[x.1]) c))) i k M n fs env)).All R): (jK O cb (fL K O (nxR S (.it b)) i k M n fs env)).All R :=
 oX (P:=fun r=>(jK O cb (fL K O (.ret (r.1,r.2)) i k M n fs env)).All R) (bJf g p s j q o) (fun _ _ h=>h)
theorem sT{P R:TV×aA->Prop}{X:Out (TV×aA)}(d:X.All P)(h:∀v S',P (v,S')->(jT rs (rfR K O n env fs (.ret (v,S')))).All R):(jT rs (rfR K O n env fs X)).All R:=by
 have e:∀Y:Out (TV×aA),Y.All P->(fin rs (rfR K O n env fs Y)).All R:=by
  intro Y;induction Y with
  |ret r=>intro a;have:=h r.1 r.2 a;unfold jT at this;exact this
  |fail s=>intro a;exact a.elim
  |pick m q ih =>intro a;have c:∀j,j<m->(fin rs (rfR K O n env fs (q j))).All R:=fun j b=>ih j (a j b);unfold rfR at c |-;simp only[er,Out.bind];intro j b;exact c j b
 unfold jT;exact e X d
end
end Go.TM
