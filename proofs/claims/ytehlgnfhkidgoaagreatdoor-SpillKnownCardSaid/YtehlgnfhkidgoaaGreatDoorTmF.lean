/- A part of the evaluator TM, and of the proof that what it computes the model does. Condition: none. -/
import Derived.Test.YtehlgnfhkidgoaaGreatDoorTmD
import Derived.Shelf.Strings.Builder1
import Derived.Lib.Bytealg
import Derived.Lib.MakeNoZero
import Derived.Lib.SlKeysI
import Derived.Maps.Keyed
import Derived.Maps.Own
import Derived.Laws.AppendOwn
import Derived.Test.YtehlgnfhkidgoaaGreatDoorTmE
import Derived.Shelf.SlSortCmp.InsertionK
import Derived.Shelf.SortM.Plain
import Derived.Shelf.SortM.SortNone
set_option linter.unusedVariables false
set_option linter.unusedSimpArgs false
namespace Go.TM
open Go Go.Shelf Go.RowKit Go.Proofs
theorem jI{P:Program}{F:Fence}(d:cW F){n f:Nat}{args:Array Value}{w:World}{R:Ending->World->Prop}(h:Calls P f args w R):CallsIn F n P f args w R:=by
 have e:F.plain=Fence.wide:=by
  obtain⟨a,b,c⟩:=d;cases F
  simp only at a b c;subst b c;simp only[Fence.plain,Fence.wide,Fence.mk.injEq,and_true];funext x;exact propext (iff_true_intro (a x))
 refine wB ?_;rw[e];exact callsIn_wide.2 h
variable {P:Program}{O:dE}{K:TM.bD}
def aFs:List (Nat×aF9)->Nat->Option aF9
 |[],_=>none
 |(k,p)::r,f=>if k==f then some p else aFs r f
theorem bBp{l:List (Nat×aF9)}(h:∀x∈l,rP P O K x.1 x.2){f:Nat}{p:aF9}(a:aFs l f=some p):rP P O K f p:=by
 induction l with
 |nil=>simp[aFs]at a
 |cons x r ih =>
  obtain⟨k,q⟩:=x;unfold aFs at a;split at a;.rename_i hk;simp only[O4]at hk;simp only[R_]at a;subst hk a;exact h (k,q) B_
  .exact ih (fun x b=>h x (by simp[b])) a
end Go.TM
namespace Go.TM
open Go Go.Maps Go.RowKit Go.Proofs Go.ChangeShapes Go.WideShapes Go.MapKept
open Go.WideElems (Fit rg rd rg_of)
def aTd(x:Int):List Int->List Int
 |[]=>[x]
 |y::r=>if x<=y then x::y::r else y::aTd x r
def eM:List Int->List Int
 |[]=>[]
 |x::r=>aTd x (eM r)
theorem aAn(x:Int):∀l:List Int,(aTd x l).Perm (x::l)
 |[]=>.refl _
 |y::r=>by
  unfold aTd;split;.exact .refl _
  .exact((aAn x r).cons y).trans (.swap _ _ _)
theorem oO:∀l:List Int,(eM l).Perm l
 |[]=>.refl _
 |x::r=>(aAn x (eM r)).trans ((oO r).cons x)
theorem aIg(x:Int):∀l:List Int,l.Pairwise (·<=·)->(aTd x l).Pairwise (·<=·)
 |[],_=>by simp[aTd]
 |y::r,h=>by
  have c:=E3.1 h;unfold aTd;split
  .rename_i hxy;refine E3.2 ⟨fun a b=>?_,h⟩;rcases J_.1 b with rfl|b;.exact hxy
   .have:=c.1 a b;omega
  .rename_i hxy;refine E3.2 ⟨fun a b=>?_,aIg x r c.2⟩;rcases J_.1 ((aAn x r).mem_iff.1 b)with rfl|b;.omega
   .exact c.1 a b
theorem xC:∀l:List Int,(eM l).Pairwise (·<=·)
 |[]=>.nil
 |x::r=>aIg x _ (xC r)
theorem aLm{l m:Ta_}(e:m.Perm l)(d:m.Pairwise (·<=·)):m=eM l:=by refine V9 (le:=fun a b=>a<=b) (fun a b _ _ c f=>Int.le_antisymm c f) d (xC l) (e.trans (oO l).symm)
theorem aCb{l m:Ta_}(f:l.Perm m):l.mergeSort leI=eM m:=by
 refine aLm ((Z3 l leI).trans f) ?_;have e:∀a b c:Int,leI a b=true->leI b c=true->leI a c=true:=fun a b c d g=>by simp only[leI,p_]at *;exact Int.le_trans d g
 have to:∀a b:Int,(leI a b||leI b a)=true:=fun a b=>by simp only[leI,D3,p_];exact Int.le_total a b
 exact(X0 e to l).imp fun h=>by simpa[leI] using h
variable {P:Program}{O:dE}{K:TM.bD}
end Go.TM
namespace Go.TM
def lkV(kk:KK)(z:IV)(ok:Bool)(S:aA)(m k:TV):Option TV :=
 match lK k with
 |some k =>
  if !(gW kk k)then none else
  match rG kk S m k with
  |some (some (_,x))=>some (if ok then .tup [x,.iv (.bool true)]else x)
  |some none=>some (if ok then .tup [.iv z,.iv (.bool false)]else .iv z)
  |none=>none
 |none=>none
theorem aGr(kk:KK)(z:IV)(a:Bool)(m y:aH)(e:aH->TV)(env:Env)(S:aA):aO (.lookup kk z a m y) e env S=lkV kk z a S (e m) (e y):=id rfl
def upV(kk:KK)(env:Env)(S:aA)(m k x:TV):Option (TV×Env×aA) :=
 match lK k,m with
 |some k,.map j=>if !(gW kk k)then none else match S[j]? with
  |some (.mp es clock)=>if bY x then none else match findKey kk k es 0 with
   |some (some (n,_))=>if !(((es[n]?).map fun y=>gZ y.2.1 k).getD false)then none else some (undef,env,S.set j (.mp (es.modify n fun y=>(y.1,k,x)) clock))
   |some none=>some (undef,env,S.set j (.mp (es++[(clock,k,x)]) (clock+1)))
   |none=>none
  |_=>none
 |_,_=>none
theorem aPd(kk:KK)(m y x:aH)(e:aH->TV)(rs:Tn_)(env:Env)(S:aA):gM (.update kk m y x) e rs env S=upV kk env S (e m) (e y) (e x):=id rfl
def dlV(kk:KK)(env:Env)(S:aA)(m k:TV):Option (TV×Env×aA) :=
 match lK k,m with
 |some k,.iv .nilm=>if gW kk k then some (undef,env,S)else none
 |some k,.map j=>if !(gW kk k)then none else match S[j]? with
  |some (.mp es clock)=>match findKey kk k es 0 with
   |some (some (n,_))=>some (undef,env,S.set j (.mp (es.eraseIdx n) clock))
   |some none=>some (undef,env,S)
   |none=>none
  |_=>none
 |_,_=>none
attribute [go_sem] aGr aPd
section
variable {α:Type}
def mpR(f:α->TV)(l:List (Nat×Int×α)):List (Nat×IV×TV):=l.map fun x=>(x.1,.int .i64 x.2.1,f x.2.2)
def dI:List (Nat×Int×α)->Int->Option α
 |[],_=>none
 |x::r,k=>if x.2.1=k then some x.2.2 else dI r k
def gT:List (Nat×Int×α)->Nat->Int->α->List (Nat×Int×α)
 |[],c,k,a=>[(c,k,a)]
 |x::r,c,k,a=>if x.2.1=k then(x.1,k,a)::r else x::gT r c k a
def cB(l:List (Nat×Int×α))(k:Int):Bool:=(dI l k).isSome
def rV(l:List (Nat×Int×α))(c:Nat)(k:Int):Nat:=if cB l k then c else c+1
theorem aLn(f:α->TV)(l:List (Nat×Int×α)):(mpR f l).length=l.length:=by simp[mpR]
theorem uE(f:α->TV)(k:Int):∀(l:List (Nat×Int×α)) (i:Nat),∃n,findKey (.leaf .int) (.int .i64 k) (mpR f l) i=some ((dI l k).map fun a=>(n,f a))
 |[],i=>⟨i,rfl⟩
 |x::r,i=>by
  by_cases hx:k=x.2.1;.refine⟨i,?_⟩;simp[mpR,findKey,qG,gK,dI,hx]
  .obtain⟨n,b⟩:=uE f k r (i+1);refine⟨n,?_⟩;simp only[mpR]at b;simp only[mpR,Q_,findKey,qG,gK,↓reduceIte,dI,B0 hx];rw[show(k==x.2.1)=false by simp[hx]];exact b
theorem zA(f:α->TV){k:Int}{l:List (Nat×Int×α)}(h:cB l k=false):findKey (.leaf .int) (.int .i64 k) (mpR f l) 0=some none:=by
 obtain⟨n,a⟩:=uE f k l 0;have:dI l k=none:=by simpa[cB] using h
 rw[a,this];rfl
theorem aWh:∀ {l:List (Nat×Int×α)} {k:Int},cB l k=false->∀(c:Nat) (a:α),gT l c k a=l++[(c,k,a)]
 |[],k,_,c,a=>rfl
 |x::r,k,h,c,a=>by
  have b:x.2.1≠k:=fun e=>by simp[cB,dI,e]at h
  have d:cB r k=false:=by simpa[cB,dI,b] using h
  simp only[gT,b,↓reduceIte,aWh d c a,List.cons_append]
theorem aWi(f:α->TV)(a:α)(c:Nat)(k:Int):∀(l:List (Nat×Int×α)) (i:Nat),cB l k=true->∃n v,findKey (.leaf .int) (.int .i64 k) (mpR f l) i=some (some (n,v))/\i<=n/\((((mpR f l)[n-i]?).map fun y=>gZ y.2.1 (.int .i64 k)).getD false)=true/\(mpR f l).modify (n-i) (fun y=>(y.1,.int .i64 k,f a))=mpR f (gT l c k a)
 |[],i,h=>by simp[cB,dI]at h
 |x::r,i,h=>by
  by_cases hx:k=x.2.1
  .refine⟨i,f x.2.2,?_,L_ _,?_,?_⟩;.simp[mpR,findKey,qG,gK,hx]
   .simp[mpR,gZ,qH,hx]
   .simp[mpR,gT,hx]
  .have g:cB r k=true:=by simpa[cB,dI,B0 hx] using h
   obtain⟨n,v,b,j,e,d⟩:=aWi f a c k r (i+1) g;refine⟨n,v,?_,by omega,?_,?_⟩;.simp only[mpR]at b;simp only[mpR,Q_,findKey,qG,gK,↓reduceIte];rw[show(k==x.2.1)=false by simp[hx]];exact b
   .rw[show n-i=(n-(i+1))+1 by omega];simp only[mpR,Q_,List.getElem?_cons_succ]at e |-;exact e
   .rw[show n-i=(n-(i+1))+1 by omega];simp only[mpR,Q_,gT,B0 hx,↓reduceIte,List.modify_succ_cons]at d |-;rw[d]
theorem bTu{f:α->TV}{S:aA}{j c:Nat}{l:List (Nat×Int×α)}(h:S[j]?=some (.mp (mpR f l) c))(z:IV)(b:Bool)(k:Int): lkV (.leaf .int) z b S (.map j) (.iv (.int .i64 k))=some (match dI l k with|some a=>(if b then .tup [f a,.iv (.bool true)]else f a)|none=>(if b then .tup [.iv z,.iv (.bool false)]else .iv z)):=by obtain⟨n,d⟩:=uE f k l 0;simp only[lkV,lK,oV,gW,E4,Y_,↓reduceIte,rG,h,d];cases dI l k<;>rfl
theorem qS:∀(l:List (Nat×Int×α)) (c:Nat) (k:Int) (a:α) (m:Int),dI (gT l c k a) m=if k=m then some a else dI l m
 |[],c,k,a,m=>by simp[gT,dI]
 |x::r,c,k,a,m=>by
  simp only[gT];by_cases h:x.2.1=k;.simp only[h,↓reduceIte,dI];by_cases hk:k=m<;>simp[hk]
  .simp only[h,↓reduceIte,dI,qS r c k a m];by_cases hm:x.2.1=m;.have:¬k=m:=fun e=>h (hm.trans e.symm);simp[hm,this]
   .simp[hm]
theorem bJh(l:List (Nat×Int×α))(c:Nat)(k:Int)(a:α)(m:Int):cB (gT l c k a) m=(decide (k=m)||cB l m):=by simp only[cB,qS];by_cases h:k=m<;>simp[h]
theorem oP:∀ {l:List (Nat×Int×α)} {k:Int},cB l k=true↔k∈l.map (·.2.1)
 |[],k=>by simp[cB,dI]
 |x::r,k=>by
  by_cases h:x.2.1=k;.simp[cB,dI,h]
  .have:=oP (l:=r) (k:=k);simp only[cB]at this;simp only[cB,dI,h,↓reduceIte,Q_,J_,B0 h,false_or];exact this
theorem bPl(l:List (Nat×Int×α))(c:Nat)(k:Int)(a:α):(gT l c k a).length=if cB l k then l.length else l.length+1:=by
 induction l with
 |nil=>simp[gT,cB,dI]
 |cons x r ih =>
  by_cases h:x.2.1=k;.simp[gT,cB,dI,h]
  .have e:cB (x::r) k=cB r k:=by simp[cB,dI,h]
   simp only[gT,h,↓reduceIte,List.length_cons,ih,e];split<;>rfl
structure gB (l:List (Nat×Int×α)) (c:Nat):Prop where
 born:∀x∈l,x.1<c
 once:(l.map (·.1)).Nodup
 keys:(l.map (·.2.1)).Nodup
 rng:∀x∈l,-9223372036854775808<=x.2.1/\x.2.1<=9223372036854775807
theorem gB.nil(c:Nat):gB ([]:List (Nat×Int×α)) c:=⟨by simp,by simp,by simp,by simp⟩
theorem aPe:∀(l:List (Nat×Int×α)) (c:Nat) (k:Int) (a:α),(gT l c k a).map (·.2.1)=if cB l k then l.map (·.2.1)else l.map (·.2.1)++[k]
 |[],c,k,a=>by simp[gT,cB,dI]
 |x::r,c,k,a=>by
  by_cases h:x.2.1=k;.simp[gT,cB,dI,h]
  .have e:cB (x::r) k=cB r k:=by simp[cB,dI,h]
   simp only[gT,h,↓reduceIte,Q_,aPe r c k a,e];split<;>rfl
theorem aPf:∀(l:List (Nat×Int×α)) (c:Nat) (k:Int) (a:α),(gT l c k a).map (·.1)=if cB l k then l.map (·.1)else l.map (·.1)++[c]
 |[],c,k,a=>by simp[gT,cB,dI]
 |x::r,c,k,a=>by
  by_cases h:x.2.1=k;.simp[gT,cB,dI,h]
  .have e:cB (x::r) k=cB r k:=by simp[cB,dI,h]
   simp only[gT,h,↓reduceIte,Q_,aPf r c k a,e];split<;>rfl
theorem gB.put{l:List (Nat×Int×α)}{c:Nat}(h:gB l c){k:Int}(s:-9223372036854775808<=k/\k<=9223372036854775807)(a:α):gB (gT l c k a) (rV l c k):=by
 have p:∀n∈l.map (·.1),n<c:=by intro n q;obtain⟨x,i,rfl⟩:=r_.1 q;exact h.born x i
 have r:∀n∈l.map (·.2.1),-9223372036854775808<=n/\n<=9223372036854775807:=by intro n q;obtain⟨x,i,rfl⟩:=r_.1 q;exact h.rng x i
 have j:=aPf l c k a;have m:=aPe l c k a;refine⟨fun x i=>?_,?_,?_,fun x i=>?_⟩
 .have d:=E9 (f:=fun y:Nat×Int×α=>y.1) i;rw[j]at d;unfold rV;split at d;.rename_i hh;rw[K_ hh];exact p _ d
  .rename_i hh;rw[I_ hh];rcases U_.1 d with d|d;.have:=p _ d;omega
   .simp at d;omega
 .rw[j];split;.exact h.once
  .rw[H4];exact⟨h.once,by simp,fun a o b g e=>by simp at g;have:=p a o;omega⟩
 .rw[m];split;.exact h.keys
  .rename_i hh;rw[H4];refine⟨h.keys,by simp,fun a o b g e=>?_⟩;simp at g;subst g;subst e;exact hh (oP.2 o)
 .have d:=E9 (f:=fun y:Nat×Int×α=>y.2.1) i;rw[m]at d;split at d;.exact r _ d
  .rcases U_.1 d with d|d;.exact r _ d
   .simp at d;rw[d];exact s
end
def lkB(kk:KK)(z:IV)(ok:Bool)(b:Option aG)(k:TV):Option TV :=
 match lK k with
 |some k =>
  if !(gW kk k)then none else
  match(match b with|some (.mp es _)=>findKey kk k es 0|_=>none)with
  |some (some (_,x))=>some (if ok then .tup [x,.iv (.bool true)]else x)
  |some none=>some (if ok then .tup [.iv z,.iv (.bool false)]else .iv z)
  |none=>none
 |none=>none
theorem aWj(kk:KK)(z:IV)(a:Bool)(S:aA)(j:Nat)(k:TV):lkV kk z a S (.map j) k=lkB kk z a (S[j]?) k:=by
 simp only[lkV,lkB,rG];cases lK k with
 |none=>rfl
 |some k =>
  simp only;cases S[j]? with
  |none=>rfl
  |some b=>cases b<;>rfl
def upB(kk:KK)(env:Env)(S:aA)(j:Nat)(b:Option aG)(k x:TV):Option (TV×Env×aA) :=
 match lK k with
 |some k=>if !(gW kk k)then none else match b with
  |some (.mp es clock)=>if bY x then none else match findKey kk k es 0 with
   |some (some (n,_))=>if !(((es[n]?).map fun y=>gZ y.2.1 k).getD false)then none else some (undef,env,S.set j (.mp (es.modify n fun y=>(y.1,k,x)) clock))
   |some none=>some (undef,env,S.set j (.mp (es++[(clock,k,x)]) (clock+1)))
   |none=>none
  |_=>none
 |_=>none
theorem bPm(kk:KK)(env:Env)(S:aA)(j:Nat)(k x:TV):upV kk env S (.map j) k x=upB kk env S j (S[j]?) k x:=by simp only[upV,upB];cases lK k<;>rfl
attribute [go_sem] aWj bPm
theorem aAo{α:Type}(f:α->TV)(l:List (Nat×Int×α))(c:Nat)(z:IV)(b:Bool)(k:Int): lkB (.leaf .int) z b (some (.mp (mpR f l) c)) (.iv (.int .i64 k))=some (match dI l k with|some a=>(if b then .tup [f a,.iv (.bool true)]else f a)|none=>(if b then .tup [.iv z,.iv (.bool false)]else .iv z)):=by have h:(([.mp (mpR f l) c]:aA))[0]?=some (.mp (mpR f l) c):=rfl;rw[<-h,<-aWj];exact bTu h z b k
theorem bJi{α:Type}(f:α->TV)(l:List (Nat×Int×α))(c:Nat)(env:Env)(S:aA)(j:Nat)(k:Int){x:TV}(a:α)(b:x=f a)(g:bY x=false): upB (.leaf .int) env S j (some (.mp (mpR f l) c)) (.iv (.int .i64 k)) x=some (undef,env,S.set j (.mp (mpR f (gT l c k a)) (rV l c k))):=by
 simp only[upB,lK,oV,gW,E4,Y_,↓reduceIte,g];cases hh:cB l k with
 |false =>rw[zA f hh];simp only[aWh hh,rV,hh,Y_,↓reduceIte,mpR,D0,Q_,C3,b]
 |true =>obtain⟨n,v,h,i,e,d⟩:=aWi f a c k l 0 hh;rw[Nat.sub_zero]at e d;rw[h];simp only[e,E4,Y_,↓reduceIte,b,d,rV,hh]
def kE(n:Int):TV:=.iv (.agg [.int .i64 n])
def lT(l:List (Nat×Int×Int))(k:Int):Int:=(dI l k).getD 0
theorem aCv(l:Td_)(c:Nat)(k:Int):lkB (.leaf .int) (.agg [.int .i64 0]) false (some (.mp (mpR kE l) c)) (.iv (.int .i64 k))=some (.iv (.agg [.int .i64 (lT l k)])):=by rw[aAo];simp only[lT,Y_,↓reduceIte];cases dI l k<;>rfl
theorem aCw(l:Td_)(c:Nat)(env:Env)(S:aA)(j:Nat)(k a:Int):upB (.leaf .int) env S j (some (.mp (mpR kE l) c)) (.iv (.int .i64 k)) (.iv (.agg [.int .i64 a]))=some (undef,env,S.set j (.mp (mpR kE (gT l c k a)) (rV l c k))) :=
 bJi kE l c env S j k a rfl rfl
attribute [go_sem] aCv aCw
structure bL (I:List Nat) (S S':aA):Prop where
 len:S.length<=S'.length
 get:∀i b,i∉I->S[i]?=some b->S'[i]?=some b
theorem bL.refl(I:Tc_)(S:aA):bL I S S:=⟨L_ _,fun _ _ _ h=>h⟩
theorem bL.trans{I:Tc_}{S S' S'':aA}(h:bL I S S')(g:bL I S' S''):bL I S S'' :=
 ⟨C0 h.len g.len,fun i b a c=>g.get i b a (h.get i b a c)⟩
theorem bL.app(I:Tc_)(S:aA)(l:aA):bL I S (S++l) :=
 ⟨by simp,fun i b _ a=>by
  have:i<S.length:=by
   rcases D2 i S.length with h|h
   .exact h
   .rw[B7 h]at a;cases a
  rw[W_ this];exact a⟩
theorem bL.set{I:Tc_}(S:aA){j:Nat}(c:j∈I)(b:aG):bL I S (S.set j b) :=
 ⟨by simp,fun i f d a=>by have:j≠i:=fun e=>d (e▸c);rw[B3 this];exact a⟩
theorem aN{S:aA}{i:Nat}{b:aG}(h:S[i]?=some b):i<S.length:=by
 rcases D2 i S.length with a|a;.exact a
 .rw[B7 a]at h;cases h
theorem cM(S:aA)(b:aG):(S++[b])[S.length]?=some b:=B_
theorem aR{S:aA}{i:Nat}{b:aG}(h:S[i]?=some b)(l:aA):(S++l)[i]?=some b:=(bL.app [] S l).get i b B_ h
theorem aM{S:aA}{i:Nat}(h:i<S.length)(b:aG):(S.set i b)[i]?=some b:=by simp[h]
theorem aB{S:aA}{i j:Nat}(h:i≠j)(b:aG):(S.set i b)[j]?=S[j]? := B3 h
theorem mE{α:Type}{cs:List α}{n:Nat}(h:cs.length=n):sub cs 0 n=some cs:=by subst h;simp[sub]
end Go.TM
namespace Go.TM
open Go Go.RowKit Go.Proofs Go.Sort Go.Lib
def uF:List TV->Option (List Int)
 |[]=>some []
 |.iv (.int .i64 n)::r=>match uF r with
  |some l=>some (n::l)
  |none=>none
 |_::_=>none
theorem aIh:∀ {cs:Tn_} {l:Ta_},uF cs=some l->cs=l.map fun n=>.iv (.int .i64 n)
 |[],l,h=>by simp only[uF,R_]at h;subst h;rfl
 |c::r,l,h=>by
  unfold uF at h;split at h;.rename_i h0;cases h0
  .rename_i n r' h0;obtain⟨rfl,rfl⟩:=Z7 h0;split at h;.rename_i l' hl;simp only[R_]at h;subst h;rw[aIh hl];rfl
   .simp at h
  .simp at h
theorem aFt:∀l:List Int,uF (l.map fun n=>.iv (.int .i64 n))=some l
 |[]=>rfl
 |n::l=>by simp only[Q_,uF,aFt l]
def gQ:List (Int×Int)->List Int
 |[]=>[]
 |x::r=>x.1::x.2::gQ r
def uG:List Int->List (Int×Int)
 |a::b::r=>(a,b)::uG r
 |_=>[]
theorem nX:∀l:List (Int×Int),(gQ l).length=2*l.length
 |[]=>rfl
 |x::r=>by rw[gQ,List.length_cons,List.length_cons,nX r,List.length_cons];omega
theorem aFu:∀l:List (Int×Int),uG (gQ l)=l
 |[]=>rfl
 |x::r=>by rw[gQ,uG,aFu r]
theorem aFv:∀(n:Nat) (l:Ta_),l.length=2*n->gQ (uG l)=l
 |0,l,h=>by rw[G7.1 (by omega:l.length=0)];rfl
 |n+1,[],h=>by simp at h
 |n+1,[a],h=>by simp at h;omega
 |n+1,a::b::r,h=>by rw[uG,gQ,aFv n r (by simp at h;omega)]
def leP(x y:Int×Int):Bool:=decide (x.1<y.1\/(x.1=y.1/\x.2<=y.2))
def aTe(x:Int×Int):List (Int×Int)->List (Int×Int)
 |[]=>[x]
 |y::r=>if leP x y then x::y::r else y::aTe x r
def gR:List (Int×Int)->List (Int×Int)
 |[]=>[]
 |x::r=>aTe x (gR r)
theorem aAp(x:Int×Int):∀l:List (Int×Int),(aTe x l).Perm (x::l)
 |[]=>.refl _
 |y::r=>by
  unfold aTe;split;.exact .refl _
  .exact((aAp x r).cons y).trans (.swap _ _ _)
theorem kF:∀l:List (Int×Int),(gR l).Perm l
 |[]=>.refl _
 |x::r=>(aAp x (gR r)).trans ((kF r).cons x)
theorem aIi{a b c:Int×Int}(h:leP a b=true)(g:leP b c=true):leP a c=true:=by unfold leP at *;simp only[p_]at *;omega
theorem aPg{a b:Int×Int}(h:leP a b=true)(g:leP b a=true):a=b:=by
 unfold leP at *;simp only[p_]at *
 obtain⟨d,a2⟩:=a;obtain⟨c,b2⟩:=b;simp only at *
 have:d=c:=A_;have:a2=b2:=A_;simp[*]
theorem aWk{a b:Int×Int}(h:¬leP a b=true):leP b a=true:=by unfold leP at *;simp only[p_]at *;omega
theorem aIj(x:Int×Int):∀l:List (Int×Int),l.Pairwise (fun a b=>leP a b=true)->(aTe x l).Pairwise (fun a b=>leP a b=true)
 |[],_=>by simp[aTe]
 |y::r,h=>by
  have d:=E3.1 h;unfold aTe;split
  .rename_i hxy;refine E3.2 ⟨fun a c=>?_,h⟩;rcases J_.1 c with rfl|c;.exact hxy
   .exact aIi hxy (d.1 a c)
  .rename_i hxy;refine E3.2 ⟨fun a c=>?_,aIj x r d.2⟩;rcases J_.1 ((aAp x r).mem_iff.1 c)with rfl|c;.exact aWk hxy
   .exact d.1 a c
theorem rW:∀l:List (Int×Int),(gR l).Pairwise (fun a b=>leP a b=true)
 |[]=>.nil
 |x::r=>aIj x _ (rW r)
theorem zB{l m:Tb_}(e:m.Perm l)(d:m.Pairwise (fun a b=>leP a b=true)):m=gR l :=
 V9 (le:=fun a b=>leP a b=true) (fun a b _ _ c f=>aPg c f) d (rW l) (e.trans (kF l).symm)
theorem aCc(l:Tb_):l.mergeSort leP=gR l:=by
 refine zB (Z3 l leP) ?_;have e:∀a b c:Int×Int,leP a b=true->leP b c=true->leP a c=true:=fun a b c d f=>aIi d f;have to:∀a b:Int×Int,(leP a b||leP b a)=true:=fun a b=>by
  cases h:leP a b with
  |true=>rfl
  |false=>rw[aWk (by simp[h]),K9]
 exact X0 e to l
def aGs(x y:Int×Int):Int:=if Lib.compareInt x.1 y.1≠0 then Lib.compareInt x.1 y.1 else Lib.compareInt x.2 y.2
theorem ltP(x y:Int×Int):ltOf aGs x y=!leP y x:=by
 unfold ltOf aGs Lib.compareInt leP;by_cases h1:x.1<y.1;.have:¬(y.1<x.1\/(y.1=x.1/\y.2<=x.2)):=A_;simp[h1,this]
 .by_cases h2:y.1<x.1;.simp[h1,h2]
  .have e:x.1=y.1:=A_;by_cases h3:x.2<y.2;.have:¬y.2<=x.2:=A_;simp[e,h3,this]
   .have a:y.2<=x.2:=A_;by_cases h4:y.2<x.2<;>simp[e,h3,h4,a]
theorem bW3:SWO (ltOf aGs):=⟨fun x=>(by rw[ltP];unfold leP;simp),
 fun x y z a b=>(by rw[ltP]at *;unfold leP at *;simp only[D5,P0]at *;omega),
 fun x y z a b=>(by rw[ltP]at *;unfold leP at *;simp only[U0,p_]at *;omega)⟩
theorem bW4(x y:Int×Int)(h:ltOf aGs x y=false)(g:ltOf aGs y x=false):x=y:=by rw[ltP]at h g;simp only[U0]at h g;exact aPg g h
def aBy(x:Int×Int):List Value:=[.int .i64 x.1,.int .i64 x.2]
theorem aIk:∀(l:Tb_) (t:Nat),t<2*l.length->(gQ l)[t]?=(l[t / 2]?).map fun x=>if t % 2=0 then x.1 else x.2
 |[],t,h=>by simp at h
 |x::r,0,h=>rfl
 |x::r,1,h=>rfl
 |x::r,t+2,h=>by rw[gQ,List.getElem?_cons_succ,List.getElem?_cons_succ,aIk r t (by simp at h;omega)];rw[show(t+2) / 2=t / 2+1 by omega,List.getElem?_cons_succ,show(t+2) % 2=t % 2 by omega]
theorem aWl(l:Tb_):flatK aBy 2 l.toArray=((gQ l).map (Value.int .i64)).toArray:=by
 apply Array.ext;.simp[nX];omega
 .intro t c h;have g:t<l.length*2:=by simpa using c
  have d:t / 2<l.length:=A_;have e:(flatK aBy 2 l.toArray)[t]! = (flatK aBy 2 l.toArray)[t]:=getElem!_pos _ t c;have b:=get_flatK aBy 2 l.toArray t (by simpa using g);have f:l.toArray[t / 2]! = l[t / 2]:=by rw[getElem!_pos _ (t / 2) (by simpa using d)];simp
  rw[f]at b;have e2:=aIk l t A_;rw[D_ d,Option.map_some]at e2;have e3:t<(gQ l).length:=by rw[nX];omega
  rw[D_ e3,R_]at e2;rw[<-e,b];simp only[List.getElem_toArray,W5,e2];rcases Nat.mod_two_eq_zero_or_one t with a|a;.rw[a];rfl
  .rw[a];rfl
theorem bBq(w:World)(a off:Nat)(l:Ta_):putRow id w a off (l.map (Value.int .i64)).toArray=putRow (Value.int .i64) w a off l.toArray:=by
 unfold putRow;refine mapBlock_congr _ _ _ _ fun c _ _ _=>?_;apply Array.ext_getElem?;intro k;simp only[putCells,Q3,I4,P_];cases c[k]? with
 |none=>rfl
 |some y =>
  simp only[Option.map_some];by_cases h:off<=k/\k<off+l.length;.rw[K_ h,K_ h,getElem!_pos _ _ (by simp;omega),getElem!_pos _ _ (by simp;omega)];simp
  .rw[I_ h,I_ h]
theorem bJj{w:World}{a off:Nat}{l:Ta_}(h:Holds (Value.int .i64) w a off l.toArray):Holds id w a off (l.map (Value.int .i64)).toArray:=by intro j b;simp only[I4,P_]at b;obtain⟨c,d⟩:=h j (by simpa using b);refine⟨?_,d⟩;rw[c,getElem!_pos _ _ (by simpa using b),getElem!_pos _ _ (by simpa using b)];simp
def iP(g:Nat):aF9:=fun xs S=>match xs with
 |[.iv (.sl .nil []),.fn g' [] []]=>if g'=g then some (.tup [],S)else none
 |[.msl i ver off len cap 2,.fn g' [] []]=>if g'≠g then none else
  if len=0 then some (.tup [],S)else
  match S[i]? with
  |some (.cells v loose cs) =>
   if v=ver/\len<=cap/\off+2*len<=cs.length/\len<=1048576 then match uF ((cs.drop off).take (2*len))with
    |some l=>some (.tup [],S.set i (.cells v loose (cs.take off++(gQ (gR (uG l))).map (fun n=>.iv (.int .i64 n))++cs.drop (off+2*len))))
    |none=>none
   else none
  |_=>none
 |_=>none
variable {P:Program}{O:dE}{K:TM.bD}
theorem aLo {f g : Nat} {fn : Func} (hf : P.funcs[f]? = some fn) (H : fn.body.isSome = true) (R : fn.name ≠ "runtime.NumGoroutine")
  (U:∀(p:Option Addr) (cap:Nat) (Y:Value) (w:World),Calls P f #[.slice p 0 cap,Y] w fun e w'=>e=.returned (.tuple #[])/\w'=w)
  (h6:∀(I off cap:Nat) (zs:Tb_) (w:World),Holds (Value.int .i64) w I off (gQ zs).toArray->I<w.heap.size->zs.length<4611686018427387904 ->
   Calls P f #[.slice (some ⟨I,off,none⟩) zs.length cap,.func (.func g) #[] #[]] w fun e w'=>e=.returned (.tuple #[])/\∃n os,w'=grow (putRow (Value.int .i64) (Sort.ahead w n) I off (gQ (gR zs)).toArray) os):
  rP P O K f (iP g):=by
 intro args S v S' h M J w vals G hw hg;have V:∀(p:Option Addr) (cap:Nat) (Y:Value),(v,S')=(.tup [],S)->∀(F:Fence),cW F->∀n,CallsIn F n P f #[.slice p 0 cap,Y] w (gN P O M J S w fun r=>r=(v,S')):=by intro p cap Y e F hF n;refine jI hF ((U p cap Y w).mono ?_);rintro e' w' ⟨rfl,rfl⟩;obtain⟨rfl,rfl⟩:=Prod.mk.inj e;exact⟨_,_,M,J,rfl,.tup _ _ _ rfl (fun i x v t=>by simp at t),hw,.refl _ _ _ _ _⟩
 unfold iP at h;split at h;case h_3=>simp at h
 case h_1 g' =>
  split at h;case isFalse=>simp at h
  simp only[R_,B4]at h;obtain⟨rfl,rfl⟩:=h;obtain⟨x,vals,rfl,t,G⟩:=G.cons_inv;obtain⟨y,vals,rfl,hy,G⟩:=G.cons_inv;obtain rfl:=G.nil_inv;obtain rfl:x=.slice none 0 0:=by
   rcases t.iv_inv.sl_any with⟨_,_,rfl⟩|⟨b,off,cap,es',vals,_,Q,_⟩|⟨a0,_,_,Q⟩;.rfl
   .exact absurd rfl Q
   .exact absurd rfl Q
  exact .inl ⟨fn,hf,H,R,V none 0 y rfl⟩
 case h_2 i ver off len cap g' =>
  split at h;case isTrue=>simp at h
  rename_i hgg;obtain rfl:g'=g:=by simpa using hgg
  obtain⟨x,vals,rfl,t,G⟩:=G.cons_inv;obtain⟨y,vals,rfl,hy,G⟩:=G.cons_inv;obtain rfl:=G.nil_inv;obtain rfl:y=.func (.func g') #[] #[]:=by
   cases hy with
   |fn _ _ _ _ fst' cap' h1 h2 _ _ =>have a1:fst'=#[]:=Q4 h1;have a2:cap'=#[]:=Q4 h2;rw[a1,a2]
  cases t with
  |msl _ _ _ _ _ _ _ l b o c E hlv ha hlc hlc' =>
   split at h;.rename_i hlen;subst hlen;simp only[R_]at h;exact .inl ⟨fn,hf,H,R,V _ _ _ h.symm⟩
   .rename_i hlen;split at h;case h_2=>simp at h
    rename_i v0 loose cs hS;split at h;case isFalse=>simp at h
    rename_i hc;obtain⟨rfl,hu,hq,g2⟩:=hc;split at h;case h_2=>simp at h
    rename_i ks hks;simp only[R_,B4]at h;obtain⟨rfl,rfl⟩:=h;have N:=aIh hks;have L:ks.length=2*len:=by have:=X_ List.length N;simp at this;omega
    have h8:=hw.blk i l _ E hS;generalize hs0:aG.cells v0 loose cs=s0 at h8;cases h8 with
    |cells loose' cs1 cs' e fz hlo hbk hsz hfit hvals hfz Z ht =>
     simp only[aG.cells.injEq]at hs0;obtain⟨rfl,rfl,rfl⟩:=hs0;obtain⟨rfl,ho,hz,g1,hp⟩:=ha rfl;have he:=ho A_;subst he;have D:∀j n,ks[j]?=some n->cs'[l.d+off+j]?=some (.int .i64 n):=by
      intro j n hn;have hj:j<ks.length:=by
       rcases D2 j ks.length with z|z;.exact z
       .rw[B7 z]at hn;cases hn
      have h1:cs[off+j]?=some (.iv (.int .i64 n)):=by have:=X_ (fun l=>l[j]?) N;simp only[l_,hn,Option.map_some]at this;rw[G1 A_,F9]at this;exact this
      obtain⟨u,q,r⟩:=hvals _ _ h1;rw[<-F7]at q;rw[q,r.int_inv]
     have hH:Holds (Value.int .i64) w l.cb (l.d+off) ks.toArray:=by
      intro j hj;simp only[I4]at hj;refine⟨?_,hfz _ ?_⟩;.rw[dV hbk,D j ks[j] (D_ hj)];simp[hj]
      .have:=D j ks[j] (D_ hj);rcases D2 (l.d+off+j) cs'.size with z|z;.exact z
       .rw[P3 z]at this;cases this
     refine .inl ⟨fn,hf,H,R,fun F hF n=>jI hF ?_⟩;have h0:=aFv len ks L;have h9:(uG ks).length=len:=by have:=nX (uG ks);rw[h0,L]at this;omega
     have hr:=h6 l.cb (l.d+off) c (uG ks) w (by rw[h0];exact hH) (hw.lt i l E) A_;rw[h9]at hr;refine hr.mono ?_;rintro e' w' ⟨rfl,m,os,rfl⟩;have hd:(gQ (gR (uG ks))).length=ks.length:=by rw[nX,(kF _).length_eq,h9,L]
     generalize gQ (gR (uG ks))=rs at *
     let w1:=putRow (Value.int .i64) (Sort.ahead w m) l.cb (l.d+off) rs.toArray;have W:w1.heap[l.cb]?=some (.cells (putCells (Value.int .i64) (l.d+off) rs.toArray cs') e fz):=by show((Sort.ahead w m).heap.modify l.cb _)[l.cb]?=_;rw[heap_ahead,J3,K_ rfl,hbk];rfl
     have hh:∀b,b≠l.cb->w1.heap[b]?=w.heap[b]? := by intro b H;show((Sort.ahead w m).heap.modify l.cb _)[b]?=_;rw[heap_ahead,J3,I_ (fun q=>H q.symm)]
     obtain⟨T,tr⟩:=hw.write (fun _=>False) E (w':=w1) (s':=.cells l.ver loose (cs.take off++rs.map (fun n=>.iv (.int .i64 n))++cs.drop (off+2*len))) (by
      have A:(cs.take off++rs.map (fun n=>TV.iv (.int .i64 n))++cs.drop (off+2*len)).length=cs.length:=by simp;omega
      refine .cells loose _ _ e fz hlo W (by simp[putCells,hsz]) (by rw[A];simpa[putCells] using hfit) ?_ (fun o ho=>?_) Z (fun h1 h2=>?_)
      .intro k x t;have hk:k<cs.length:=by
        rw[<-A];rcases D2 k (cs.take off++rs.map (fun n=>TV.iv (.int .i64 n))++cs.drop (off+2*len)).length with z|z;.exact z
        .rw[B7 z]at t;cases t
       obtain⟨u0,q0,r0⟩:=hvals k cs[k] (D_ hk);have a:(putCells (Value.int .i64) (l.d+off) rs.toArray cs')[l.d+k]?=some (if l.d+off<=l.d+k/\l.d+k<l.d+off+rs.toArray.size then Value.int .i64 rs.toArray[l.d+k-(l.d+off)]! else u0):=by simp only[putCells,Q3,q0,Option.map_some]
       rw[I4,hd,L]at a;rcases D2 k off with z|z;.rw[I_ A_]at a;rw[A8,W_ (by simp;omega),G1 z,D_ hk]at t;simp only[R_]at t;subst t;exact⟨_,a,r0⟩
       .rcases D2 k (off+2*len)with h4|h4;.rw[K_ A_]at a;rw[W_ (by simp;omega),t_ (by simp;omega),J7,l_]at t;have e4:k-min off cs.length=k-off:=A_;rw[e4]at t;have h5:k-off<rs.length:=A_;rw[D_ h5,Option.map_some,R_]at t;subst t;refine⟨_,a,?_⟩;have e5:l.d+k-(l.d+off)=k-off:=A_;rw[e5,getElem!_pos _ _ (by simpa using h5)];simp only[List.getElem_toArray];exact .iv _ (.int _ _)
        .rw[I_ A_]at a;rw[t_ (by simp;omega),F9]at t;have e4:off+2*len+(k-(cs.take off++rs.map (fun n=>TV.iv (.int .i64 n))).length)=k:=by simp;omega
         rw[e4,D_ hk,R_]at t;subst t;exact⟨_,a,r0⟩
      .have z:o<cs'.size:=by simpa[putCells] using ho
       show(putRow _ _ _ _ _).frozen? _=_;rw[frozen?_putRow];exact hfz o z
      .obtain⟨z,h4,h5⟩:=ht h1 h2;exact⟨z,h4,by rw[A];simpa[putCells] using h5⟩) (by show((Sort.ahead w m).heap.modify _ _).size=_;simp) hh ⟨rfl,rfl,rfl⟩ (fun o v h7=>by rw[Z]at h7;simp at h7)
     have C:∀b,b<w1.heap.size->(grow w1 os).heap[b]?=w1.heap[b]? := by intro b H;show(w1.heap++os)[b]?=_;rw[G8 H]
     refine⟨_,_,M,J,rfl,.tup _ _ _ rfl (fun i x v t=>by simp at t),?_,?_⟩
     .refine T.step T.len (.refl _) (.refl _) ?_ ?_ T.inj (fun i l E=>E7 (T.lt i l E) (by show w1.heap.size<=(w1.heap++os).size;rw[K7];omega));.intro b o u Z;rw[dM (C b (T.mlt Z))];exact T.imm b o u Z
      .intro i l s E hs;exact .inr ⟨E,hs,C _ (T.lt i l E),fun o=>rfl⟩
     .refine tr.trans (own':=fun _=>False) ⟨rfl,rfl,rfl,by show w1.heap.size<=(w1.heap++os).size;rw[K7];omega,.refl _,fun b o _ _=>rfl,.refl _,fun i l E=>.inr ⟨l,E,rfl⟩,fun i hi=>⟨hi,rfl⟩,fun b H _ _=>C b H⟩ (fun _ hf=>.inl hf)
    |_=>simp at hs0
end Go.TM
namespace Go.TM
open Go Go.RowKit Go.Proofs Go.Sort
def xD:List TV->Option (List Int)
 |[]=>some []
 |.iv (.int .i64 n)::r=>match xD r with
  |some l=>some (n::l)
  |none=>none
 |_::_=>none
theorem aIl:∀ {cs:Tn_} {l:Ta_},xD cs=some l->cs=l.map fun n=>.iv (.int .i64 n)
 |[],l,h=>by simp only[xD,R_]at h;subst h;rfl
 |c::r,l,h=>by
  unfold xD at h;split at h;.rename_i h0;cases h0
  .rename_i n r' h0;obtain⟨rfl,rfl⟩:=Z7 h0;split at h;.rename_i l' hl;simp only[R_]at h;subst h;rw[aIl hl];rfl
   .simp at h
  .simp at h
theorem aFw:∀l:List Int,xD (l.map fun n=>.iv (.int .i64 n))=some l
 |[]=>rfl
 |n::l=>by simp only[Q_,xD,aFw l]
def iK:aF9:=fun xs S=>match xs with
 |[.iv (.sl .nil [])]=>some (.tup [],S)
 |[.msl i ver off len cap 1] =>
  if len=0 then some (.tup [],S)else
  match S[i]? with
  |some (.cells v loose cs) =>
   if v=ver/\len<=cap/\off+len<=cs.length/\len<=1048576 then match xD ((cs.drop off).take len)with
    |some l=>some (.tup [],S.set i (.cells v loose (cs.take off++(eM l).map (fun n=>.iv (.int .i64 n))++cs.drop (off+len))))
    |none=>none
   else none
  |_=>none
 |_=>none
variable {P:Program}{O:dE}{K:TM.bD}
theorem aPh {f : Nat} {fn : Func} (Y : P.funcs[f]? = some fn) (E : fn.body.isSome = true) (L : fn.name ≠ "runtime.NumGoroutine")
  (Q:∀(p:Option Addr) (cap:Nat) (w:World),Calls P f #[.slice p 0 cap] w fun e w'=>e=.returned (.tuple #[])/\w'=w)
  (W:∀(G off cap:Nat) (zs:Ta_) (w:World),Holds (Value.int .i64) w G off zs.toArray->G<w.heap.size->zs.length<4611686018427387904 ->
   Calls P f #[.slice (some ⟨G,off,none⟩) zs.length cap] w fun e w'=>e=.returned (.tuple #[])/\∃n os,w'=grow (putRow (Value.int .i64) (Sort.ahead w n) G off (zs.mergeSort fun x y=>decide (x<=y)).toArray) os):
  rP P O K f iK:=by
 intro args S v S' h M J w vals R hw hg;have T:∀(p:Option Addr) (cap:Nat),(v,S')=(.tup [],S)->∀(F:Fence),cW F->∀n,CallsIn F n P f #[.slice p 0 cap] w (gN P O M J S w fun r=>r=(v,S')):=by intro p cap e F hF n;refine jI hF ((Q p cap w).mono ?_);rintro e' w' ⟨rfl,rfl⟩;obtain⟨rfl,rfl⟩:=Prod.mk.inj e;exact⟨_,_,M,J,rfl,.tup _ _ _ rfl (fun i x v g=>by simp at g),hw,.refl _ _ _ _ _⟩
 unfold iK at h;split at h;case h_3=>simp at h
 case h_1 =>
  simp only[R_,B4]at h;obtain⟨rfl,rfl⟩:=h;obtain⟨x,vals,rfl,g,R⟩:=R.cons_inv;obtain rfl:=R.nil_inv;obtain rfl:x=.slice none 0 0:=by
   rcases g.iv_inv.sl_any with⟨_,_,rfl⟩|⟨b,off,cap,es',vals,_,I,_⟩|⟨a0,_,_,I⟩;.rfl
   .exact absurd rfl I
   .exact absurd rfl I
  exact .inl ⟨fn,Y,E,L,T none 0 rfl⟩
 case h_2 i ver off len cap =>
  obtain⟨x,vals,rfl,g,R⟩:=R.cons_inv;obtain rfl:=R.nil_inv;cases g with
  |msl _ _ _ _ _ _ _ l b o c D hlv ha hlc hlc' =>
   split at h;.rename_i hlen;subst hlen;simp only[R_]at h;exact .inl ⟨fn,Y,E,L,T _ _ h.symm⟩
   .rename_i hlen;split at h;case h_2=>simp at h
    rename_i v0 loose cs hS;split at h;case isFalse=>simp at h
    rename_i hc;obtain⟨rfl,hh,he,hu⟩:=hc;split at h;case h_2=>simp at h
    rename_i ks hks;simp only[R_,B4]at h;obtain⟨rfl,rfl⟩:=h;have H:=aIl hks;have h6:ks.length=len:=by have:=X_ List.length H;simp at this;omega
    have h0:=hw.blk i l _ D hS;generalize hs0:aG.cells v0 loose cs=s0 at h0;cases h0 with
    |cells loose' cs1 cs' e fz hlo hbk hsz hfit hvals hfz V ht =>
     simp only[aG.cells.injEq]at hs0;obtain⟨rfl,rfl,rfl⟩:=hs0;obtain⟨rfl,ho,hp,hq,hd⟩:=ha rfl;have h8:=ho A_;subst h8;have C:∀j n,ks[j]?=some n->cs'[l.d+off+j]?=some (.int .i64 n):=by
      intro j n hn;have hj:j<ks.length:=by
       rcases D2 j ks.length with t|t;.exact t
       .rw[B7 t]at hn;cases hn
      have h1:cs[off+j]?=some (.iv (.int .i64 n)):=by have:=X_ (fun l=>l[j]?) H;simp only[l_,hn,Option.map_some]at this;rw[G1 A_,F9]at this;exact this
      obtain⟨u,q,r⟩:=hvals _ _ h1;rw[<-F7]at q;rw[q,r.int_inv]
     have hH:Holds (Value.int .i64) w l.cb (l.d+off) ks.toArray:=by
      intro j hj;simp only[I4]at hj;refine⟨?_,hfz _ ?_⟩;.rw[dV hbk,C j ks[j] (D_ hj)];simp[hj]
      .have:=C j ks[j] (D_ hj);rcases D2 (l.d+off+j) cs'.size with t|t;.exact t
       .rw[P3 t]at this;cases this
     refine .inl ⟨fn,Y,E,L,fun F hF n=>jI hF ?_⟩;have hr:=W l.cb (l.d+off) c ks w hH (hw.lt i l D) A_;rw[h6]at hr;refine hr.mono ?_;rintro e' w' ⟨rfl,m,os,rfl⟩;rw[show ks.mergeSort (fun x y=>decide (x<=y))=eM ks from aCb (.refl _)];have h7:(eM ks).length=ks.length:=(oO ks).length_eq;let w1:=putRow (Value.int .i64) (Sort.ahead w m) l.cb (l.d+off) (eM ks).toArray;have U:w1.heap[l.cb]?=some (.cells (putCells (Value.int .i64) (l.d+off) (eM ks).toArray cs') e fz):=by show((Sort.ahead w m).heap.modify l.cb _)[l.cb]?=_;rw[heap_ahead,J3,K_ rfl,hbk];rfl
     have h9:∀b,b≠l.cb->w1.heap[b]?=w.heap[b]? := by intro b E;show((Sort.ahead w m).heap.modify l.cb _)[b]?=_;rw[heap_ahead,J3,I_ (fun q=>E q.symm)]
     obtain⟨N,tr⟩:=hw.write (fun _=>False) D (w':=w1) (s':=.cells l.ver loose (cs.take off++(eM ks).map (fun n=>.iv (.int .i64 n))++cs.drop (off+len))) (by
      have z:(cs.take off++(eM ks).map (fun n=>TV.iv (.int .i64 n))++cs.drop (off+len)).length=cs.length:=by simp;omega
      refine .cells loose _ _ e fz hlo U (by simp[putCells,hsz]) (by rw[z];simpa[putCells] using hfit) ?_ (fun o ho=>?_) V (fun h1 h2=>?_)
      .intro k x g;have hk:k<cs.length:=by
        rw[<-z];rcases D2 k (cs.take off++(eM ks).map (fun n=>TV.iv (.int .i64 n))++cs.drop (off+len)).length with t|t;.exact t
        .rw[B7 t]at g;cases g
       obtain⟨u0,q0,r0⟩:=hvals k cs[k] (D_ hk);have a:(putCells (Value.int .i64) (l.d+off) (eM ks).toArray cs')[l.d+k]?=some (if l.d+off<=l.d+k/\l.d+k<l.d+off+(eM ks).toArray.size then Value.int .i64 (eM ks).toArray[l.d+k-(l.d+off)]! else u0):=by simp only[putCells,Q3,q0,Option.map_some]
       rw[I4,h7,h6]at a;rcases D2 k off with t|t;.rw[I_ A_]at a;rw[A8,W_ (by simp;omega),G1 t,D_ hk]at g;simp only[R_]at g;subst g;exact⟨_,a,r0⟩
       .rcases D2 k (off+len)with h4|h4;.rw[K_ A_]at a;rw[W_ (by simp;omega),t_ (by simp;omega),J7,l_]at g;have e4:k-min off cs.length=k-off:=A_;rw[e4]at g;have h5:k-off<(eM ks).length:=A_;rw[D_ h5,Option.map_some,R_]at g;subst g;refine⟨_,a,?_⟩;have e5:l.d+k-(l.d+off)=k-off:=A_;rw[e5,getElem!_pos _ _ (by simpa using h5)];simp only[List.getElem_toArray];exact .iv _ (.int _ _)
        .rw[I_ A_]at a;rw[t_ (by simp;omega),F9]at g;have e4:off+len+(k-(cs.take off++(eM ks).map (fun n=>TV.iv (.int .i64 n))).length)=k:=by simp;omega
         rw[e4,D_ hk,R_]at g;subst g;exact⟨_,a,r0⟩
      .have t:o<cs'.size:=by simpa[putCells] using ho
       show(putRow _ _ _ _ _).frozen? _=_;rw[frozen?_putRow];exact hfz o t
      .obtain⟨t,h4,h5⟩:=ht h1 h2;exact⟨t,h4,by rw[z];simpa[putCells] using h5⟩) (by show((Sort.ahead w m).heap.modify _ _).size=_;simp) h9 ⟨rfl,rfl,rfl⟩ (fun o v Z=>by rw[V]at Z;simp at Z)
     have A:∀b,b<w1.heap.size->(grow w1 os).heap[b]?=w1.heap[b]? := by intro b E;show(w1.heap++os)[b]?=_;rw[G8 E]
     refine⟨_,_,M,J,rfl,.tup _ _ _ rfl (fun i x v g=>by simp at g),?_,?_⟩
     .refine N.step N.len (.refl _) (.refl _) ?_ ?_ N.inj (fun i l D=>E7 (N.lt i l D) (by show w1.heap.size<=(w1.heap++os).size;rw[K7];omega));.intro b o u V;rw[dM (A b (N.mlt V))];exact N.imm b o u V
      .intro i l s D hs;exact .inr ⟨D,hs,A _ (N.lt i l D),fun o=>rfl⟩
     .refine tr.trans (own':=fun _=>False) ⟨rfl,rfl,rfl,by show w1.heap.size<=(w1.heap++os).size;rw[K7];omega,.refl _,fun b o _ _=>rfl,.refl _,fun i l D=>.inr ⟨l,D,rfl⟩,fun i hi=>⟨hi,rfl⟩,fun b E _ _=>A b E⟩ (fun _ Y=>.inl Y)
    |_=>simp at hs0
end Go.TM
namespace Go.TM
section
variable (K:bD)(O:Orc)(i:Nat)(k:Kt)(M:List (Nat×TV))(n:Nat)(fs:List Fr)(env:Env)(S:aA)
theorem aPi(kk:KK)(m y:aH):dW K O (.delete kk m y) i k M n fs env S=uC K O (dlV kk env S (bT K n env M m) (bT K n env M y)) i k M n fs:=by unfold dW uC bT;exact lQ K O i k M n fs env S rfl B_
end
attribute [go_sem] aPi
end Go.TM
namespace Go.TM
def nxR(S:aA)(x:TV):Out (TV×aA) :=
 match x with
 |.it j=>match S[j]? with
  |some (.mit none _ _ _)=>.ret (.tup [.iv (.bool false)],S)
  |some (.mit (some m) since seen last)=>match S[m]? with
   |some (.mp es clock) =>
    if !seen.isEmpty && !es.isEmpty && es.all (fun y => decide (y.1 ≥ last)) then .fail "" else
    .pick (((if((es.filter fun y=>!seen.contains y.1).filter (·.1<since)).isEmpty then [none]else [])++(((es.filter fun y=>!seen.contains y.1).filter (·.1<since))++((es.filter fun y=>!seen.contains y.1).filter (·.1≥since))).map some:List (Option (Nat×IV×TV))).length) fun c =>
     match((if((es.filter fun y=>!seen.contains y.1).filter (·.1<since)).isEmpty then [none]else [])++(((es.filter fun y=>!seen.contains y.1).filter (·.1<since))++((es.filter fun y=>!seen.contains y.1).filter (·.1≥since))).map some:List (Option (Nat×IV×TV)))[c]? with
     |some (some y)=>.ret (.tup [.iv (.bool true),.iv y.2.1,y.2.2],S.set j (.mit (some m) since (seen++[y.1]) clock))
     |some none=>.ret (.tup [.iv (.bool false)],S)
     | none => .fail ""
   | _ => .fail ""
  | _ => .fail ""
 | _ => .fail ""
section
variable (K:bD)(O:Orc)(i:Nat)(k:Kt)(M:List (Nat×TV))(n:Nat)(fs:List Fr)(env:Env)(S:aA)
theorem aTf(x:aH):dW K O (.nextM x) i k M n fs env S=fK K O (nxR S (bT K n env M x)) i k M n fs env:=by
 unfold dW fK bT;have key:∀v:TV,v=opv K n env M x->er ((bV K O (.nextM x) env (dA M n) S).bind fun r=>iI K O k ((i,r.1)::M) n fs r.2.1 r.2.2)=opC K O (nxR S v) i k M n fs env:=by
  intro v d;have a:aX K env (dA M n) x=v:=d.symm;unfold bV;simp only[a];unfold nxR opC;cases v with
  |it j =>
   simp only;cases S[j]? with
   |none=>rfl
   |some b =>
    cases b with
    |mit m since seen last =>
     cases m with
     |none=>simp only[Out.bind,jZ]
     |some m =>
      simp only;cases S[m]? with
      |none=>rfl
      |some b =>
       cases b with
       |mp es clock =>
        simp only;split;.rfl
        .simp only[Out.bind,er];congr 1;funext c;split<;>(rename_i heq;simp only[heq,Out.bind,jZ,er])
       |_=>rfl
    |_=>rfl
  |_=>rfl
 exact key _ rfl
end
theorem bPn{α:Type}{f:α->TV}{S:aA}{b m e g c:Nat}{d:Tc_}{l:List (Nat×Int×α)}{P:TV×aA->Prop} (z:S[b]?=some (.mit (some m) e d g)) (D:S[m]?=some (.mp (mpR f l) c)) (w:∀x∈l,x.1<e) (F:e<=g) (C:(∀x∈l,x.1∈d)->P (.tup [.iv (.bool false)],S)) (A:∀x∈l,x.1∉d->P (.tup [.iv (.bool true),.iv (.int .i64 x.2.1),f x.2.2],S.set b (.mit (some m) e (d++[x.1]) c))):(nxR S (.it b)).All P:=by
 unfold nxR;simp only[z,D];have v:(!d.isEmpty&&!(mpR f l).isEmpty&&(mpR f l).all (fun y=>decide (y.1≥g)))=false:=by
  cases l with
  |nil=>simp[mpR]
  |cons a r =>have:=w a B_;have:¬(g<=a.1):=A_;simp[mpR,this]
 rw[v];simp only[Y_,↓reduceIte];have p:((mpR f l).filter fun y=>!d.contains y.1).filter (·.1<e)=mpR f (l.filter fun x=>!d.contains x.1):=by rw[List.filter_filter];unfold mpR;rw[List.filter_map];congr 1;apply P5;intro x k;have:=w x k;simp[this]
 have n:((mpR f l).filter fun y=>!d.contains y.1).filter (·.1≥e)=[]:=by rw[H0];intro y t;have q:=(B5.1 t).1;unfold mpR at q;obtain⟨x,k,rfl⟩:=r_.1 q;have:=w x k;simp;omega
 rw[p,n];intro j E;generalize hL:((if(mpR f (l.filter fun x=>!d.contains x.1)).isEmpty then [none]else [])++(mpR f (l.filter fun x=>!d.contains x.1)++[]).map some:List (Option (Nat×IV×TV)))=L at E |-;cases hg:L[j]? with
 |none=>rw[U7]at hg;omega
 |some o =>
  simp only[hg];have i:=B9 hg;rw[<-hL]at i;rcases U_.1 i with h|h
  .split at h
   .rename_i he;simp at h;subst h;refine C fun x k=>?_;have u:l.filter (fun x=>!d.contains x.1)=[]:=by simpa[mpR] using he
    have:=H0.1 u x k;simpa using this
   .cases h
  .rw[A0]at h;obtain⟨y,t,rfl⟩:=r_.1 h;unfold mpR at t;obtain⟨x,k,rfl⟩:=r_.1 t;have s:=B5.1 k;exact A x s.1 (by simpa using s.2)
def enV(S:aA)(x:TV):Option TV :=
 match x with
 |.it j=>match S[j]? with
  |some (.mit (some m) _ seen last)=>match S[m]?,seen.getLast? with
   |some (.mp es clock),some stamp=>if clock≠last then none else match es.find? (·.1==stamp)with
    |some y=>some (.tup [.iv y.2.1,y.2.2])
    |none=>none
   |_,_=>none
  |_=>none
 |_=>none
theorem aGt(x:aH)(e:aH->TV)(env:Env)(S:aA):aO (.entryM x) e env S=enV S (e x):=id rfl
theorem aAq{α:Type}{f:α->TV}{S:aA}{b m d c:Nat}{g:Tc_}{l:List (Nat×Int×α)}{x:Nat×Int×α} (k:S[b]?=some (.mit (some m) d (g++[x.1]) c)) (n:S[m]?=some (.mp (mpR f l) c)) (o:x∈l) (i:(l.map (·.1)).Nodup):enV S (.it b)=some (.tup [.iv (.int .i64 x.2.1),f x.2.2]):=by
 have key:∀l:List (Nat×Int×α),x∈l->(l.map (·.1)).Nodup->(mpR f l).find? (·.1==x.1)=some (x.1,.int .i64 x.2.1,f x.2.2):=by
  intro l;induction l with
  |nil=>intro h;cases h
  |cons a r ih =>
   intro h i;rw[Q_,C7]at i;rcases J_.1 h with rfl|h;.simp[mpR]
   .have j:a.1≠x.1:=fun e=>i.1 (by rw[e];exact E9 (f:=fun y:Nat×Int×α=>y.1) h);have:=ih h i.2;unfold mpR at this |-;rw[Q_,X5 (by simpa using j)];exact this
 simp only[enV,k,n,Y5,List.getLast?_singleton,Option.some_or,ne_eq,C8,↓reduceIte,key l o i]
theorem kG{S:aA}{j c:Nat}{es:Tr_}(h:S[j]?=some (.mp es c))(env:Env):aKy false env S (.map j)=some (.it S.length,env,S++[.mit (some j) c [] c]):=by simp only[aKy,h]
def left{α:Type}(l:List (Nat×Int×α))(seen:List Nat):Nat:=(l.filter fun x=>!seen.contains x.1).length
theorem aCx{α:Type}{p q:α->Bool}(b:∀a,q a=true->p a=true):∀ {l:List α} {x:α},x∈l->p x=true->q x=false->(l.filter q).length<(l.filter p).length
 |[],x,c,_,_=>by cases c
 |y::l,x,c,h1,h2=>by
  have e:∀l:List α,(l.filter q).length<=(l.filter p).length:=by
   intro l;induction l with
   |nil=>exact L_ _
   |cons z l d =>
    by_cases hz:q z=true;.rw[C9 hz,C9 (b z hz)];simpa using d
    .rw[E2 hz];by_cases hp:p z=true;.rw[C9 hp];simp;omega
     .rw[E2 hp];exact d
  rcases J_.1 c with rfl|c;.have:=e l;rw[C9 h1,E2 (by simp[h2])];simp;omega
  .have d:=aCx b c h1 h2;by_cases hz:q y=true;.rw[C9 hz,C9 (b y hz)];simpa using d
   .rw[E2 hz];by_cases hp:p y=true;.rw[C9 hp];simp;omega
    .rw[E2 hp];exact d
theorem vJ{α:Type}{l:List (Nat×Int×α)}{b:Tc_}{x:Nat×Int×α}(d:x∈l)(c:x.1∉b):left l (b++[x.1])<left l b:=by unfold left;refine aCx (x:=x) (fun a h=>?_) d (by simpa using c) B_;simp at h |-;exact h.1
section
variable {K:bD}{O:Orc}{i:Nat}{k:Kt}{M:List (Nat×TV)}{n:Nat}{fs:List Fr}{env:Env}{S:aA}{cb:aL}
theorem jJ{α:Type}{f:α->TV}{b m a e c:Nat}{d:Tc_}{l:List (Nat×Int×α)}{R:aV×Env×aA->Prop} (o:S[b]?=some (.mit (some m) a d e)) (p:S[m]?=some (.mp (mpR f l) c)) (q:∀x∈l,x.1<a) (g:a<=e) (j:(∀x∈l,x.1∈d)->(jP O cb (fK K O (.ret (.tup [.iv (.bool false)],S)) i k M n fs env)).All R) (s:∀x∈l,x.1∉d->(jP O cb (fK K O (.ret (.tup [.iv (.bool true),.iv (.int .i64 x.2.1),f x.2.2],S.set b (.mit (some m) a (d++[x.1]) c))) i k M n fs env)).All R): (jP O cb (fK K O (nxR S (.it b)) i k M n fs env)).All R :=
 pC (P:=fun r=>(jP O cb (fK K O (.ret (r.1,r.2)) i k M n fs env)).All R) (bPn o p q g j s) (fun _ _ h=>h)
end
def xE{α:Type}:List (Nat×Int×α)->Int->List (Nat×Int×α)
 |[],_=>[]
 |x::r,k=>if x.2.1=k then r else x::xE r k
theorem aPj{α:Type}:∀ {l:List (Nat×Int×α)} {k:Int},cB l k=false->xE l k=l
 |[],k,_=>rfl
 |x::r,k,h=>by
  have a:x.2.1≠k:=fun e=>by simp[cB,dI,e]at h
  have b:cB r k=false:=by simpa[cB,dI,a] using h
  rw[xE,I_ a,aPj b]
theorem aPk{α:Type}(f:α->TV)(k:Int):∀(l:List (Nat×Int×α)) (i:Nat),cB l k=true->∃n v,findKey (.leaf .int) (.int .i64 k) (mpR f l) i=some (some (n,v))/\i<=n/\(mpR f l).eraseIdx (n-i)=mpR f (xE l k)
 |[],i,h=>by simp[cB,dI]at h
 |x::r,i,h=>by
  by_cases hx:k=x.2.1
  .refine⟨i,f x.2.2,?_,L_ _,?_⟩;.simp[mpR,findKey,qG,gK,hx]
   .simp[mpR,xE,hx]
  .have c:cB r k=true:=by simpa[cB,dI,B0 hx] using h
   obtain⟨n,v,a,d,b⟩:=aPk f k r (i+1) c;refine⟨n,v,?_,by omega,?_⟩;.simp only[mpR]at a;simp only[mpR,Q_,findKey,qG,gK,↓reduceIte];rw[show(k==x.2.1)=false by simp[hx]];exact a
   .rw[show n-i=(n-(i+1))+1 by omega];simp only[mpR,Q_,xE,B0 hx,↓reduceIte,List.eraseIdx_cons_succ]at b |-;rw[b]
theorem bTv{α:Type}{f:α->TV}{S:aA}{j c:Nat}{l:List (Nat×Int×α)}(h:S[j]?=some (.mp (mpR f l) c))(env:Env)(k:Int): dlV (.leaf .int) env S (.map j) (.iv (.int .i64 k))=some (undef,env,S.set j (.mp (mpR f (xE l k)) c)):=by
 simp only[dlV,lK,oV,gW,E4,Y_,↓reduceIte,h];cases hh:cB l k with
 |false =>rw[zA f hh,aPj hh];obtain⟨e,b⟩:=E_.1 h;simp only[<-b,J6]
 |true =>obtain⟨n,v,d,g,a⟩:=aPk f k l 0 hh;rw[Nat.sub_zero]at a;rw[d];simp only[a]
theorem zC{α:Type}:∀(l:List (Nat×Int×α)) (k:Int),(xE l k).Sublist l
 |[],k=>List.Sublist.slnil
 |x::r,k=>by
  rw[xE];split;.exact List.sublist_cons_self _ _
  .exact(zC r k).cons_cons _
theorem aPl{α:Type}:∀ {l:List (Nat×Int×α)},(l.map (·.2.1)).Nodup->∀k t:Int,cB (xE l k) t=(decide (t≠k)&&cB l t)
 |[],_,k,t=>by simp[xE,cB,dI]
 |x::r,h,k,t=>by
  rw[Q_,C7]at h;rw[xE];by_cases hx:x.2.1=k
  .rw[K_ hx];by_cases ht:t=k
   .have:cB r t=false:=by
     cases hh:cB r t with
     |false=>rfl
     |true=>exact absurd (by rw[hx,<-ht];exact oP.1 hh) h.1
    simp[this,ht];simpa[ht] using this
   .have:¬x.2.1=t:=fun e=>ht (e.symm.trans hx);simp[cB,dI,this,ht]
  .rw[I_ hx];by_cases hxt:x.2.1=t;.have:¬t=k:=fun e=>hx (hxt.trans e);simp[cB,dI,hxt,this]
   .have a:=aPl h.2 k t;simp only[cB]at a;simp only[cB,dI,hxt,↓reduceIte,a]
theorem gB.del{α:Type}{l:List (Nat×Int×α)}{c:Nat}(h:gB l c)(k:Int):gB (xE l k) c :=
 ⟨fun x a=>h.born x ((zC l k).subset a),h.once.sublist ((zC l k).map _),h.keys.sublist ((zC l k).map _),fun x a=>h.rng x ((zC l k).subset a)⟩
section
variable {K:bD}{O:Orc}{i:Nat}{k:Kt}{M:List (Nat×TV)}{n:Nat}{fs:List Fr}{env:Env}{S:aA}{cb:aL}{rs:List mW}
theorem kK{P:TV×aA->Prop}{R:aV×Env×aA->Prop}{X:Out (TV×aA)}(a:X.All P)(h:∀v S',P (v,S')->(jP O cb (fK K O (.ret (v,S')) i k M n fs env)).All R):(jP O cb (fK K O (aFh false S X) i k M n fs env)).All R :=
 pC (P:=P) (aCu a fun v S' b=>by rw[aFk];exact b) h
theorem fG{P:TV×aA->Prop}{R:TV×aA->Prop}{X:Out (TV×aA)}(a:X.All P)(h:∀v S',P (v,S')->(jW rs (fK K O (.ret (v,S')) i k M n fs env)).All R):(jW rs (fK K O (aFh false S X) i k M n fs env)).All R :=
 aBx (P:=P) (aCu a fun v S' b=>by rw[aFk];exact b) h
end
theorem bV1(env:Env)(S:aA)(x y:IV):bQ env S (.iv (.cp [x,y])) 2=some [.iv x,.iv y]:=id rfl
def clV(z:List IV)(env:Env)(S:aA)(x:TV):Option (TV×Env×aA):=match lY z S x with
 |some S=>some (undef,env,S)
 |none=>none
theorem aTg(K:bD)(O:Orc)(i:Nat)(k:Kt)(M:To_)(n:Nat)(a:List Fr)(env:Env)(S:aA)(z:Tq_)(x:aH):dW K O (.clear z x) i k M n a env S=uC K O (clV z env S (bT K n env M x)) i k M n a:=by unfold dW uC bT;exact lQ K O i k M n a env S rfl B_
theorem aLp(z:Tq_)(env:Env)(S S':aA)(x:TV)(h:lY z S x=some S'):clV z env S x=some (undef,env,S'):=by simp only[clV,h]
attribute [go_sem] aTf aGt bV1 aTg
end Go.TM
namespace Go.TM
def grV(es bytes el:Nat)(env:Env)(S:aA)(x n:TV):Option (TV×Env×aA):=match eX n with
 |some n=>match rF es bytes el S x n with
  |some (x,S)=>some (x,env,S)
  |none=>none
 |none=>none
theorem bBr(K:bD)(O:Orc)(i:Nat)(k:Kt)(M:To_)(n:Nat)(a:List Fr)(env:Env)(S:aA)(es bytes el:Nat)(x y:aH):dW K O (.grow es bytes el x y) i k M n a env S=uC K O (grV es bytes el env S (bT K n env M x) (bT K n env M y)) i k M n a:=by unfold dW uC bT;exact lQ K O i k M n a env S rfl B_
theorem bJk{es bytes el:Nat}{env:Env}{S S':aA}{x y:TV}{n:Int}(h:rF es bytes el S x n=some (y,S')):grV es bytes el env S x (.iv (.int .i64 n))=some (y,env,S'):=by simp only[grV,eX,h]
attribute [go_sem] bBr
end Go.TM
set_option linter.unusedSectionVars false
namespace Go.TM
structure KE (κ:Type) [DecidableEq κ] (kk:KK) (en:κ->IV):Prop where
 eq:∀a b,qG kk (en a) (en b)=some (decide (a=b))
 ok:∀a,gW kk (en a)=true
 same:∀a,gZ (en a) (en a)=true
section
variable {κ:Type}[DecidableEq κ]{kk:KK}{en:κ->IV}{α:Type}
def mpK(en:κ->IV)(f:α->TV)(l:List (Nat×κ×α)):List (Nat×IV×TV):=l.map fun x=>(x.1,en x.2.1,f x.2.2)
def gC:List (Nat×κ×α)->κ->Option α
 |[],_=>none
 |x::r,k=>if x.2.1=k then some x.2.2 else gC r k
def fU:List (Nat×κ×α)->Nat->κ->α->List (Nat×κ×α)
 |[],c,k,a=>[(c,k,a)]
 |x::r,c,k,a=>if x.2.1=k then(x.1,k,a)::r else x::fU r c k a
def eF(l:List (Nat×κ×α))(k:κ):Bool:=(gC l k).isSome
def aAr(l:List (Nat×κ×α))(c:Nat)(k:κ):Nat:=if eF l k then c else c+1
theorem uH(b:KE κ kk en)(f:α->TV)(k:κ):∀(l:List (Nat×κ×α)) (i:Nat),∃n,findKey kk (en k) (mpK en f l) i=some ((gC l k).map fun a=>(n,f a))
 |[],i=>⟨i,rfl⟩
 |x::r,i=>by
  by_cases hx:k=x.2.1;.refine⟨i,?_⟩;subst hx;simp[mpK,findKey,b.eq,gC]
  .obtain⟨n,c⟩:=uH b f k r (i+1);refine⟨n,?_⟩;simp only[mpK]at c;simp only[mpK,Q_,findKey,b.eq,Z_ hx,gC,B0 hx,↓reduceIte];exact c
theorem aGu(a:KE κ kk en)(f:α->TV){k:κ}{l:List (Nat×κ×α)}(h:eF l k=false):findKey kk (en k) (mpK en f l) 0=some none:=by
 obtain⟨n,b⟩:=uH a f k l 0;have:gC l k=none:=by simpa[eF] using h
 rw[b,this];rfl
theorem aPm:∀ {l:List (Nat×κ×α)} {k:κ},eF l k=false->∀(c:Nat) (a:α),fU l c k a=l++[(c,k,a)]
 |[],k,_,c,a=>rfl
 |x::r,k,h,c,a=>by
  have b:x.2.1≠k:=fun e=>by simp[eF,gC,e]at h
  have d:eF r k=false:=by simpa[eF,gC,b] using h
  simp only[fU,b,↓reduceIte,aPm d c a,List.cons_append]
theorem aFx:∀(l:List (Nat×κ×α)) (c:Nat) (k:κ) (a:α) (m:κ),gC (fU l c k a) m=if k=m then some a else gC l m
 |[],c,k,a,m=>by simp[fU,gC]
 |x::r,c,k,a,m=>by
  simp only[fU];by_cases h:x.2.1=k;.simp only[h,↓reduceIte,gC];by_cases hk:k=m<;>simp[hk]
  .simp only[h,↓reduceIte,gC,aFx r c k a m];by_cases hm:x.2.1=m;.have:¬k=m:=fun e=>h (hm.trans e.symm);simp[hm,this]
   .simp[hm]
theorem aPn(l:List (Nat×κ×α))(c:Nat)(k:κ)(a:α)(m:κ):eF (fU l c k a) m=(decide (k=m)||eF l m):=by simp only[eF,aFx];by_cases h:k=m<;>simp[h]
theorem aFy:∀ {l:List (Nat×κ×α)} {k:κ},eF l k=true↔k∈l.map (·.2.1)
 |[],k=>by simp[eF,gC]
 |x::r,k=>by
  by_cases h:x.2.1=k;.simp[eF,gC,h]
  .have:=aFy (l:=r) (k:=k);simp only[eF]at this;simp only[eF,gC,h,↓reduceIte,Q_,J_,B0 h,false_or];exact this
theorem bJl(l:List (Nat×κ×α))(c:Nat)(k:κ)(a:α):(fU l c k a).length=if eF l k then l.length else l.length+1:=by
 induction l with
 |nil=>simp[fU,eF,gC]
 |cons x r ih =>
  by_cases h:x.2.1=k;.simp[fU,eF,gC,h]
  .have e:eF (x::r) k=eF r k:=by simp[eF,gC,h]
   simp only[fU,h,↓reduceIte,List.length_cons,ih,e];split<;>rfl
theorem aBz(l:List (Nat×κ×α))(c:Nat)(k:κ)(a:α):(fU l c k a).length<=l.length+1:=by rw[bJl];split<;>omega
structure fD (l:List (Nat×κ×α)) (c:Nat):Prop where
 born:∀x∈l,x.1<c
 once:(l.map (·.1)).Nodup
 keys:(l.map (·.2.1)).Nodup
theorem fD.nil(c:Nat):fD ([]:List (Nat×κ×α)) c:=⟨by simp,by simp,by simp⟩
theorem aIm:∀(l:List (Nat×κ×α)) (c:Nat) (k:κ) (a:α),(fU l c k a).map (·.2.1)=if eF l k then l.map (·.2.1)else l.map (·.2.1)++[k]
 |[],c,k,a=>by simp[fU,eF,gC]
 |x::r,c,k,a=>by
  by_cases h:x.2.1=k;.simp[fU,eF,gC,h]
  .have e:eF (x::r) k=eF r k:=by simp[eF,gC,h]
   simp only[fU,h,↓reduceIte,Q_,aIm r c k a,e];split<;>rfl
theorem aIn:∀(l:List (Nat×κ×α)) (c:Nat) (k:κ) (a:α),(fU l c k a).map (·.1)=if eF l k then l.map (·.1)else l.map (·.1)++[c]
 |[],c,k,a=>by simp[fU,eF,gC]
 |x::r,c,k,a=>by
  by_cases h:x.2.1=k;.simp[fU,eF,gC,h]
  .have e:eF (x::r) k=eF r k:=by simp[eF,gC,h]
   simp only[fU,h,↓reduceIte,Q_,aIn r c k a,e];split<;>rfl
theorem fD.put{l:List (Nat×κ×α)}{c:Nat}(h:fD l c)(k:κ)(a:α):fD (fU l c k a) (aAr l c k):=by
 have m:∀n∈l.map (·.1),n<c:=by intro n q;obtain⟨x,o,rfl⟩:=r_.1 q;exact h.born x o
 have i:=aIn l c k a;have p:=aIm l c k a;refine⟨fun x o=>?_,?_,?_⟩
 .have g:=E9 (f:=fun y:Nat×κ×α=>y.1) o;rw[i]at g;unfold aAr;split at g;.rename_i hh;rw[K_ hh];exact m _ g
  .rename_i hh;rw[I_ hh];rcases U_.1 g with g|g;.have:=m _ g;omega
   .simp at g;omega
 .rw[i];split;.exact h.once
  .rw[H4];exact⟨h.once,by simp,fun a j b d e=>by simp at d;have:=m a j;omega⟩
 .rw[p];split;.exact h.keys
  .rename_i hh;rw[H4];refine⟨h.keys,by simp,fun a j b d e=>?_⟩;simp at d;subst d;subst e;exact hh (aFy.2 j)
theorem bPo(d:KE κ kk en)(f:α->TV)(l:List (Nat×κ×α))(c:Nat)(z:IV)(b:Bool)(k:κ): lkB kk z b (some (.mp (mpK en f l) c)) (.iv (en k))=some (match gC l k with|some a=>(if b then .tup [f a,.iv (.bool true)]else f a)|none=>(if b then .tup [.iv z,.iv (.bool false)]else .iv z)):=by obtain⟨n,e⟩:=uH d f k l 0;simp only[lkB,lK,oV,d.ok,E4,Y_,↓reduceIte,e];cases gC l k<;>rfl
theorem bJm{f:α->TV}{S:aA}{b m e g c:Nat}{d:Tc_}{l:List (Nat×κ×α)}{P:TV×aA->Prop} (A:S[b]?=some (.mit (some m) e d g)) (C:S[m]?=some (.mp (mpK en f l) c)) (v:∀x∈l,x.1<e) (F:e<=g) (z:(∀x∈l,x.1∈d)->P (.tup [.iv (.bool false)],S)) (E:∀x∈l,x.1∉d->P (.tup [.iv (.bool true),.iv (en x.2.1),f x.2.2],S.set b (.mit (some m) e (d++[x.1]) c))):(nxR S (.it b)).All P:=by
 unfold nxR;simp only[A,C];have u:(!d.isEmpty&&!(mpK en f l).isEmpty&&(mpK en f l).all (fun y=>decide (y.1≥g)))=false:=by
  cases l with
  |nil=>simp[mpK]
  |cons a r =>have:=v a B_;have:¬(g<=a.1):=A_;simp[mpK,this]
 rw[u];simp only[Y_,↓reduceIte];have s:((mpK en f l).filter fun y=>!d.contains y.1).filter (·.1<e)=mpK en f (l.filter fun x=>!d.contains x.1):=by rw[List.filter_filter];unfold mpK;rw[List.filter_map];congr 1;apply P5;intro x k;have:=v x k;simp[this]
 have n:((mpK en f l).filter fun y=>!d.contains y.1).filter (·.1≥e)=[]:=by rw[H0];intro y t;have p:=(B5.1 t).1;unfold mpK at p;obtain⟨x,k,rfl⟩:=r_.1 p;have:=v x k;simp;omega
 rw[s,n];intro j D;generalize hL:((if(mpK en f (l.filter fun x=>!d.contains x.1)).isEmpty then [none]else [])++(mpK en f (l.filter fun x=>!d.contains x.1)++[]).map some:List (Option (Nat×IV×TV)))=L at D |-;cases hg:L[j]? with
 |none=>rw[U7]at hg;omega
 |some o =>
  simp only[hg];have i:=B9 hg;rw[<-hL]at i;rcases U_.1 i with h|h
  .split at h
   .rename_i he;simp at h;subst h;refine z fun x k=>?_;have w:l.filter (fun x=>!d.contains x.1)=[]:=by simpa[mpK] using he
    have:=H0.1 w x k;simpa using this
   .cases h
  .rw[A0]at h;obtain⟨y,t,rfl⟩:=r_.1 h;unfold mpK at t;obtain⟨x,k,rfl⟩:=r_.1 t;have q:=B5.1 k;exact E x q.1 (by simpa using q.2)
theorem bPp{f:α->TV}{S:aA}{b m d c:Nat}{g:Tc_}{l:List (Nat×κ×α)}{x:Nat×κ×α} (k:S[b]?=some (.mit (some m) d (g++[x.1]) c)) (n:S[m]?=some (.mp (mpK en f l) c)) (o:x∈l) (i:(l.map (·.1)).Nodup):enV S (.it b)=some (.tup [.iv (en x.2.1),f x.2.2]):=by
 have key:∀l:List (Nat×κ×α),x∈l->(l.map (·.1)).Nodup->(mpK en f l).find? (·.1==x.1)=some (x.1,en x.2.1,f x.2.2):=by
  intro l;induction l with
  |nil=>intro h;cases h
  |cons a r ih =>
   intro h i;rw[Q_,C7]at i;rcases J_.1 h with rfl|h;.simp[mpK]
   .have j:a.1≠x.1:=fun e=>i.1 (by rw[e];exact E9 (f:=fun y:Nat×κ×α=>y.1) h);have:=ih h i.2;unfold mpK at this |-;rw[Q_,X5 (by simpa using j)];exact this
 simp only[enV,k,n,Y5,List.getLast?_singleton,Option.some_or,ne_eq,C8,↓reduceIte,key l o i]
end
def en2(k:Int×Int):IV:=.agg [.int .i64 k.1,.int .i64 k.2]
theorem ke2:KE (Int×Int) (.agg [(0,.int),(1,.int)]) en2:=by
 refine⟨fun a b=>?_,fun a=>?_,fun a=>?_⟩
 .obtain⟨d,a2⟩:=a;obtain⟨c,b2⟩:=b;by_cases h1:d=c
  .subst h1;by_cases h2:a2=b2;.subst h2;simp[qG,en2,eV,gK]
   .simp[qG,en2,eV,gK,h2,show(a2==b2)=false by simp[h2]]
  .simp[qG,en2,eV,gK,h1,show(d==c)=false by simp[h1]]
 .simp[gW,en2]
 .simp[gZ,en2,kA,qH]
end Go.TM
set_option linter.unusedSectionVars false
namespace Go.TM
def bTw(kk:KK)(z:IV)(env:Env)(S:aA)(m k:TV):Option (TV×Env×aA):=match lK k,m with
 |some k,.map j=>if !(gW kk k)then none else match S[j]? with
  |some (.mp es clock)=>match findKey kk k es 0 with
   |some (some (n,x))=>if !(((es[n]?).map fun y=>gZ y.2.1 k).getD false)then none else some (.tup [x,.iv (.int .i64 (((es[n]?).map (·.1)).getD 0:Nat))],env,S.set j (.mp (es.modify n fun y=>(y.1,k,y.2.2)) clock))
   |some none=>some (.tup [.iv z,.iv (.int .i64 clock)],env,S.set j (.mp (es++[(clock,k,.iv z)]) (clock+1)))
   |none=>none
  |_=>none
 |_,_=>none
def esV(env:Env)(S:aA)(m s x:TV):Option (TV×Env×aA):=match m,eX s with
 |.map j,some born=>match S[j]? with
  |some (.mp es clock)=>if bY x then none else match es.findIdx? (fun y=>(y.1:Int)==born)with
   |some n=>some (undef,env,S.set j (.mp (es.modify n fun y=>(y.1,y.2.1,x)) clock))
   |none=>none
  |_=>none
 |_,_=>none
section
variable (K:bD)(O:Orc)(i:Nat)(k:Kt)(M:List (Nat×TV))(n:Nat)(fs:List Fr)(env:Env)(S:aA)
theorem aTh(kk:KK)(z:IV)(m y:aH):dW K O (.entry kk z m y) i k M n fs env S=uC K O (bTw kk z env S (bT K n env M m) (bT K n env M y)) i k M n fs:=by unfold dW uC bT;exact lQ K O i k M n fs env S rfl B_
theorem aCd(m s x:aH):dW K O (.entryStore m s x) i k M n fs env S=uC K O (esV env S (bT K n env M m) (bT K n env M s) (bT K n env M x)) i k M n fs:=by unfold dW uC bT;exact lQ K O i k M n fs env S rfl B_
end
theorem aTi(K:bD)(M:To_)(n:Nat)(env:Env)(S:aA)(kk:KK)(z:IV)(a:Bool)(m y:aH):aSj K M n env S (.lookup kk z a m y)=lkV kk z a S (bT K n env M m) (bT K n env M y):=by unfold aSj bT;exact aN5 K M n env S rfl
def bJn(kk:KK)(z:IV)(env:Env)(S:aA)(j:Nat)(b:Option aG)(k:TV):Option (TV×Env×aA):=match lK k with
 |some k=>if !(gW kk k)then none else match b with
  |some (.mp es clock)=>match findKey kk k es 0 with
   |some (some (n,x))=>if !(((es[n]?).map fun y=>gZ y.2.1 k).getD false)then none else some (.tup [x,.iv (.int .i64 (((es[n]?).map (·.1)).getD 0:Nat))],env,S.set j (.mp (es.modify n fun y=>(y.1,k,y.2.2)) clock))
   |some none=>some (.tup [.iv z,.iv (.int .i64 clock)],env,S.set j (.mp (es++[(clock,k,.iv z)]) (clock+1)))
   |none=>none
  |_=>none
 |_=>none
def esB(env:Env)(S:aA)(j:Nat)(b:Option aG)(s x:TV):Option (TV×Env×aA):=match eX s with
 |some born=>match b with
  |some (.mp es clock)=>if bY x then none else match es.findIdx? (fun y=>(y.1:Int)==born)with
   |some n=>some (undef,env,S.set j (.mp (es.modify n fun y=>(y.1,y.2.1,x)) clock))
   |none=>none
  |_=>none
 |_=>none
theorem bJo(kk:KK)(z:IV)(env:Env)(S:aA)(j:Nat)(k:TV):bTw kk z env S (.map j) k=bJn kk z env S j (S[j]?) k:=by simp only[bTw,bJn];cases lK k<;>rfl
theorem bPq(env:Env)(S:aA)(j:Nat)(s x:TV):esV env S (.map j) s x=esB env S j (S[j]?) s x:=by simp only[esV,esB];cases eX s<;>rfl
attribute [go_sem] aTh aCd bJo bPq aTi
section
variable {κ:Type}[DecidableEq κ]{kk:KK}{en:κ->IV}{α:Type}
def kM:List (Nat×κ×α)->Nat->κ->Nat
 |[],c,_=>c
 |x::r,c,k=>if x.2.1=k then x.1 else kM r c k
theorem aFz:∀ {l:List (Nat×κ×α)} {k:κ},eF l k=false->∀c,kM l c k=c
 |[],k,_,c=>rfl
 |x::r,k,h,c=>by
  have a:x.2.1≠k:=fun e=>by simp[eF,gC,e]at h
  have b:eF r k=false:=by simpa[eF,gC,a] using h
  rw[kM,I_ a,aFz b]
theorem aWm(a:KE κ kk en)(f:α->TV)(c:Nat)(z:α)(k:κ):∀(l:List (Nat×κ×α)) (i:Nat),eF l k=true->∃n,findKey kk (en k) (mpK en f l) i=some (some (n,f ((gC l k).getD z)))/\i<=n/\((((mpK en f l)[n-i]?).map fun y=>gZ y.2.1 (en k)).getD false)=true/\(((mpK en f l)[n-i]?).map (·.1)).getD 0=kM l c k/\(mpK en f l).modify (n-i) (fun y=>(y.1,en k,y.2.2))=mpK en f (fU l c k ((gC l k).getD z))
 |[],i,h=>by simp[eF,gC]at h
 |x::r,i,h=>by
  by_cases hx:k=x.2.1
  .refine⟨i,?_,L_ _,?_,?_,?_⟩;.subst hx;simp[mpK,findKey,a.eq,gC]
   .subst hx;simp[mpK,a.same]
   .subst hx;simp[mpK,kM]
   .subst hx;simp[mpK,fU,gC]
  .have j:eF r k=true:=by simpa[eF,gC,B0 hx] using h
   obtain⟨n,b,m,g,e,d⟩:=aWm a f c z k r (i+1) j;refine⟨n,?_,by omega,?_,?_,?_⟩;.simp only[mpK]at b;simp only[mpK,Q_,findKey,a.eq,Z_ hx,gC,B0 hx,↓reduceIte];exact b
   .rw[show n-i=(n-(i+1))+1 by omega];simp only[mpK,Q_,List.getElem?_cons_succ]at g |-;exact g
   .rw[show n-i=(n-(i+1))+1 by omega];simp only[mpK,Q_,List.getElem?_cons_succ,kM,B0 hx,↓reduceIte]at e |-;exact e
   .rw[show n-i=(n-(i+1))+1 by omega];simp only[mpK,Q_,fU,gC,B0 hx,↓reduceIte,List.modify_succ_cons]at d |-;rw[d]
theorem bJp(b:KE κ kk en)(f:α->TV)(a:α)(z:IV)(h:f a=.iv z)(l:List (Nat×κ×α))(c:Nat)(env:Env)(S:aA)(j:Nat)(k:κ): bJn kk z env S j (some (.mp (mpK en f l) c)) (.iv (en k))=some (.tup [f ((gC l k).getD a),.iv (.int .i64 (kM l c k))],env,S.set j (.mp (mpK en f (fU l c k ((gC l k).getD a))) (aAr l c k))):=by
 simp only[bJn,lK,oV,b.ok,E4,Y_,↓reduceIte];cases hh:eF l k with
 |false =>
  have i:gC l k=none:=by simpa[eF] using hh
  rw[aGu b f hh];simp only[aPm hh,aAr,hh,Y_,↓reduceIte,mpK,D0,Q_,C3,i,Option.getD_none,aFz hh,h]
 |true =>obtain⟨n,m,o,g,e,d⟩:=aWm b f c a k l 0 hh;rw[Nat.sub_zero]at g d e;rw[m];simp only[g,E4,Y_,↓reduceIte,d,aAr,hh,e]
theorem bJq(f:α->TV)(c:Nat)(k:κ)(v a:α):∀l:List (Nat×κ×α),(∀x∈l,x.1<c)->(l.map (·.1)).Nodup->∃n,(mpK en f (fU l c k v)).findIdx? (fun y=>(y.1:Int)==((kM l c k:Nat):Int))=some n/\(mpK en f (fU l c k v)).modify n (fun y=>(y.1,y.2.1,f a))=mpK en f (fU l c k a)
 |[],_,_=>⟨0,by simp[mpK,fU,kM],by simp[mpK,fU]⟩
 |x::r,hb,hn=>by
  rw[Q_,C7]at hn;by_cases hx:x.2.1=k;.exact⟨0,by simp[mpK,fU,kM,hx,O8],by simp[mpK,fU,hx]⟩
  .obtain⟨n,d,g⟩:=bJq f c k v a r (fun y i=>hb y (by simp[i])) hn.2;have b:¬((x.1:Int)=((kM r c k:Nat):Int)):=by
    intro e;have e':x.1=kM r c k:=A_;have key:∀l:List (Nat×κ×α),kM l c k=c\/kM l c k∈l.map (·.1):=by
     intro l;induction l with
     |nil=>exact .inl rfl
     |cons y l ih =>
      rw[kM];split;.exact .inr B_
      .rcases ih with h|h;.exact .inl h
       .exact .inr (by simp only[Q_,J_];exact .inr h)
    rcases key r with h|h;.have:=hb x B_;omega
    .rw[<-e']at h;exact hn.1 h
   refine⟨n+1,?_,?_⟩;.simp only[mpK]at d;simp only[mpK,fU,kM,hx,↓reduceIte,Q_,O8];rw[show((x.1:Int)==((kM r c k:Nat):Int))=false by simpa using b,d];rfl
   .simp only[mpK]at g;simp only[mpK,fU,hx,↓reduceIte,Q_,List.modify_succ_cons,g]
theorem bPr(f:α->TV){l:List (Nat×κ×α)}{c:Nat}(h:fD l c)(c':Nat)(env:Env)(S:aA)(j:Nat)(k:κ)(v a:α){x:TV}(b:x=f a)(d:bY x=false): esB env S j (some (.mp (mpK en f (fU l c k v)) c')) (.iv (.int .i64 (kM l c k))) x=some (undef,env,S.set j (.mp (mpK en f (fU l c k a)) c')):=by obtain⟨n,e,g⟩:=bJq (en:=en) f c k v a l h.born h.once;subst b;simp only[esB,TM.eX,d,Y_,↓reduceIte,e,g]
end
def qT(n:Int):TV:=.iv (.int .i64 n)
def zD(l:List (Nat×(Int×Int)×Int))(k:Int×Int):Int:=(gC l k).getD 0
theorem lk2(l:Tf_)(c:Nat)(a b:Int):lkB (.agg [(0,.int),(1,.int)]) (.int .i64 0) false (some (.mp (mpK en2 qT l) c)) (.iv (.agg [.int .i64 a,.int .i64 b]))=some (.iv (.int .i64 (zD l (a,b)))):=by have h:=bPo ke2 qT l c (.int .i64 0) false (a,b);rw[show en2 (a,b)=.agg [.int .i64 a,.int .i64 b] from rfl]at h;rw[h];unfold zD;cases gC l (a,b)<;>rfl
theorem bW5(l:Tf_)(c:Nat)(env:Env)(S:aA)(j:Nat)(a b:Int):bJn (.agg [(0,.int),(1,.int)]) (.int .i64 0) env S j (some (.mp (mpK en2 qT l) c)) (.iv (.agg [.int .i64 a,.int .i64 b]))=some (.tup [.iv (.int .i64 (zD l (a,b))),.iv (.int .i64 (kM l c (a,b)))],env,S.set j (.mp (mpK en2 qT (fU l c (a,b) (zD l (a,b)))) (aAr l c (a,b)))) :=
 bJp ke2 qT 0 (.int .i64 0) rfl l c env S j (a,b)
theorem es2{l:Tf_}{c:Nat}(h:fD l c)(c':Nat)(env:Env)(S:aA)(j:Nat)(k:Int×Int)(v a:Int):esB env S j (some (.mp (mpK en2 qT (fU l c k v)) c')) (.iv (.int .i64 (kM l c k))) (.iv (.int .i64 a))=some (undef,env,S.set j (.mp (mpK en2 qT (fU l c k a)) c')) :=
 bPr qT h c' env S j k v a rfl rfl
attribute [go_sem] lk2 bW5
end Go.TM
set_option linter.unusedSectionVars false
namespace Go.TM
section
variable {κ:Type}[DecidableEq κ]{en:κ->IV}{α:Type}
def aB0(l:List (Nat×κ×α))(seen:List Nat):Nat:=(l.filter fun x=>!seen.contains x.1).length
theorem aPo{l:List (Nat×κ×α)}{b:Tc_}{x:Nat×κ×α}(d:x∈l)(c:x.1∉b):aB0 l (b++[x.1])<aB0 l b:=by unfold aB0;refine aCx (x:=x) (fun a h=>?_) d (by simpa using c) B_;simp at h |-;exact h.1
variable {K:bD}{O:Orc}{i:Nat}{k:Kt}{M:List (Nat×TV)}{n:Nat}{fs:List Fr}{env:Env}{S:aA}{cb:aL}{rs:List mW}
theorem aGv{f:α->TV}{b m a e c:Nat}{d:Tc_}{l:List (Nat×κ×α)}{R:aV×Env×aA->Prop} (o:S[b]?=some (.mit (some m) a d e)) (p:S[m]?=some (.mp (mpK en f l) c)) (q:∀x∈l,x.1<a) (g:a<=e) (j:(∀x∈l,x.1∈d)->(jP O cb (fK K O (.ret (.tup [.iv (.bool false)],S)) i k M n fs env)).All R) (s:∀x∈l,x.1∉d->(jP O cb (fK K O (.ret (.tup [.iv (.bool true),.iv (en x.2.1),f x.2.2],S.set b (.mit (some m) a (d++[x.1]) c))) i k M n fs env)).All R): (jP O cb (fK K O (nxR S (.it b)) i k M n fs env)).All R :=
 pC (P:=fun r=>(jP O cb (fK K O (.ret (r.1,r.2)) i k M n fs env)).All R) (bJm o p q g j s) (fun _ _ h=>h)
theorem sY{P R:TV×aA->Prop}{X:Out (TV×aA)}(d:X.All P)(h:∀v S',P (v,S')->(jW rs (rfR K O n env fs (.ret (v,S')))).All R):(jW rs (rfR K O n env fs X)).All R:=by
 have e:∀Y:Out (TV×aA),Y.All P->(fin rs (rfR K O n env fs Y)).All R:=by
  intro Y;induction Y with
  |ret r=>intro a;have:=h r.1 r.2 a;unfold jW at this;exact this
  |fail s=>intro a;exact a.elim
  |pick m q ih =>intro a;have c:∀j,j<m->(fin rs (rfR K O n env fs (q j))).All R:=fun j b=>ih j (a j b);unfold rfR at c |-;simp only[er,Out.bind];intro j b;exact c j b
 unfold jW;exact e X d
end
end Go.TM
