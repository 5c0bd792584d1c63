/- A part of the evaluator TM, and of the proof that what it computes the model does. Condition: none. -/
import Derived.Test.YtmlhjdekfihdnaaGreatDoorTmD
import Derived.Shelf.Strings.Builder1
import Derived.Lib.Bytealg
import Derived.Lib.MakeNoZero
import Derived.Lib.SlKeysI
import Derived.Maps.Keyed
import Derived.Maps.Own
import Derived.Laws.AppendOwn
import Derived.Test.YtmlhjdekfihdnaaGreatDoorTmE
import Derived.Shelf.SlSortCmp.InsertionK
import Derived.Shelf.SortM.Plain
import Derived.Shelf.SortM.SortNone
set_option linter.unusedVariables false
set_option linter.unusedSimpArgs false
namespace Go.TM
open Go Go.Shelf Go.RowKit Go.Proofs
theorem iB {P:Program}{F:Fence}(hF:cJ F){n f:Nat}{args:Array Value}{w:World}{R:Ending→World→Prop}(h:Calls P f args w R):CallsIn F n P f args w R:=by
 have e:F.plain=Fence.wide:=by
  obtain⟨h1,h2,h3⟩:=hF
  cases F
  simp only at h1 h2 h3
  subst h2 h3
  simp only[Fence.plain,Fence.wide,Fence.mk.injEq,and_true]
  funext x
  exact propext (iff_true_intro (h1 x))
 refine rY ?_
 rw[e]
 exact callsIn_wide.2 h
variable {P:Program}{O:cT}{K:TM.aW}
def aBq:List (Nat×aB6)→Nat→Option aB6
 | [],_=>none
 | (k,p)::r,f=>if k==f then some p else aBq r f
theorem aUa {l:List (Nat×aB6)}(h:∀x∈l,oM P O K x.1 x.2){f:Nat}{p:aB6}(hf:aBq l f=some p):oM P O K f p:=by
 induction l with
 | nil=>simp[aBq]at hf
 | cons x r ih =>
  obtain⟨k,q⟩:=x
  unfold aBq at hf
  split at hf
  ·rename_i hk
   simp only[beq_iff_eq]at hk
   simp only[Option.some.injEq]at hf
   subst hk hf
   exact h (k,q) (by simp)
  ·exact ih (fun x hx=>h x (by simp[hx])) hf
end Go.TM
namespace Go.TM
open Go Go.Maps Go.RowKit Go.Proofs Go.ChangeShapes Go.WideShapes Go.MapKept
open Go.WideElems (Fit rg rd rg_of)
def aNk (x:Int):List Int→List Int
 | []=>[x]
 | y::r=>if x≤y then x::y::r else y::aNk x r
def gX:List Int→List Int
 | []=>[]
 | x::r=>aNk x (gX r)
theorem wL (x:Int):∀l:List Int,(aNk x l).Perm (x::l)
 | []=>.refl _
 | y::r=>by
  unfold aNk
  split
  ·exact .refl _
  ·exact ((wL x r).cons y).trans (.swap _ _ _)
theorem mK:∀l:List Int,(gX l).Perm l
 | []=>.refl _
 | x::r=>(wL x (gX r)).trans ((mK r).cons x)
theorem aEb (x:Int):∀l:List Int,l.Pairwise (·≤·)→(aNk x l).Pairwise (·≤·)
 | [],_=>by simp[aNk]
 | y::r,h=>by
  have h':=List.pairwise_cons.1 h
  unfold aNk
  split
  ·rename_i hxy
   refine List.pairwise_cons.2 ⟨fun a ha=>?_,h⟩
   rcases List.mem_cons.1 ha with rfl|ha
   ·exact hxy
   ·have:=h'.1 a ha; omega
  ·rename_i hxy
   refine List.pairwise_cons.2 ⟨fun a ha=>?_,aEb x r h'.2⟩
   rcases List.mem_cons.1 ((wL x r).mem_iff.1 ha) with rfl|ha
   ·omega
   ·exact h'.1 a ha
theorem sY:∀l:List Int,(gX l).Pairwise (·≤·)
 | []=>.nil
 | x::r=>aEb x _ (sY r)
theorem aGk {l m:List Int}(hp:m.Perm l)(hm:m.Pairwise (·≤·)):m=gX l:=by
 refine List.Perm.eq_of_pairwise (le:=fun a b=>a≤b) (fun a b _ _ h1 h2=>Int.le_antisymm h1 h2) hm (sY l) (hp.trans (mK l).symm)
theorem yI {l m:List Int}(hp:l.Perm m):l.mergeSort leI=gX m:=by
 refine aGk ((List.mergeSort_perm l leI).trans hp) ?_
 have tr:∀a b c:Int,leI a b=true→leI b c=true→leI a c=true:=fun a b c h1 h2=>by simp only[leI,decide_eq_true_eq]at *; exact Int.le_trans h1 h2
 have to:∀a b:Int,(leI a b||leI b a)=true:=fun a b=>by simp only[leI,Bool.or_eq_true,decide_eq_true_eq]; exact Int.le_total a b
 exact (List.pairwise_mergeSort tr to l).imp fun h=>by simpa[leI] using h
variable {P:Program}{O:cT}{K:TM.aW}
end Go.TM
namespace Go.TM
def lkV (kk:KK)(z:IV)(ok:Bool)(S:aA)(m k:TV):Option TV :=
 match kU k with
 | some k =>
  if !(gP kk k) then none else
  match oC kk S m k with
  | some (some (_,x))=>some (if ok then .tup [x,.iv (.bool true)] else x)
  | some none=>some (if ok then .tup [.iv z,.iv (.bool false)] else .iv z)
  | none=>none
 | none=>none
theorem aCn (kk:KK)(z:IV)(ok:Bool)(m y:aE)(e:aE→TV)(env:Env)(S:aA):aM (.lookup kk z ok m y) e env S=lkV kk z ok S (e m) (e y):=id rfl
def upV (kk:KK)(env:Env)(S:aA)(m k x:TV):Option (TV×Env×aA) :=
 match kU k,m with
 | some k,.map j=>if !(gP kk k) then none else match S[j]? with
  | some (.mp es clock)=>if cZ x then none else match findKey kk k es 0 with
   | some (some (n,_))=>if !(((es[n]?).map fun y=>fQ y.2.1 k).getD false) then none else some (undef,env,S.set j (.mp (es.modify n fun y=>(y.1,k,x)) clock))
   | some none=>some (undef,env,S.set j (.mp (es++[(clock,k,x)]) (clock+1)))
   | none=>none
  | _=>none
 | _,_=>none
theorem aJy (kk:KK)(m y x:aE)(e:aE→TV)(rs:List TV)(env:Env)(S:aA):fJ (.update kk m y x) e rs env S=upV kk env S (e m) (e y) (e x):=id rfl
attribute [go_sem] aCn aJy
section
variable {α:Type}
def mpR (f:α→TV)(l:List (Nat×Int×α)):List (Nat×IV×TV):=l.map fun x=>(x.1,.int .i64 x.2.1,f x.2.2)
def gN:List (Nat×Int×α)→Int→Option α
 | [],_=>none
 | x::r,k=>if x.2.1=k then some x.2.2 else gN r k
def rL:List (Nat×Int×α)→Nat→Int→α→List (Nat×Int×α)
 | [],c,k,a=>[(c,k,a)]
 | x::r,c,k,a=>if x.2.1=k then (x.1,k,a)::r else x::rL r c k a
def nV (l:List (Nat×Int×α))(k:Int):Bool:=(gN l k).isSome
def aNl (l:List (Nat×Int×α))(c:Nat)(k:Int):Nat:=if nV l k then c else c+1
theorem qP (f:α→TV)(k:Int):∀(l:List (Nat×Int×α)) (i:Nat),∃n,findKey (.leaf .int) (.int .i64 k) (mpR f l) i=some ((gN l k).map fun a=>(n,f a))
 | [],i=>⟨i,rfl⟩
 | x::r,i=>by
  by_cases hx:k=x.2.1
  ·refine⟨i,?_⟩
   simp[mpR,findKey,pM,fP,gN,hx]
  ·obtain⟨n,h1⟩:=qP f k r (i+1)
   refine⟨n,?_⟩
   simp only[mpR]at h1
   simp only[mpR,List.map_cons,findKey,pM,fP,↓reduceIte,gN,Ne.symm hx]
   rw[show (k==x.2.1)=false by simp[hx]]
   exact h1
theorem aGl (f:α→TV){k:Int}{l:List (Nat×Int×α)}(h:nV l k=false):findKey (.leaf .int) (.int .i64 k) (mpR f l) 0=some none:=by
 obtain⟨n,h1⟩:=qP f k l 0
 have:gN l k=none:=by simpa[nV] using h
 rw[h1,this]; rfl
theorem aPq:∀ {l:List (Nat×Int×α)} {k:Int},nV l k=false→∀(c:Nat) (a:α),rL l c k a=l++[(c,k,a)]
 | [],k,_,c,a=>rfl
 | x::r,k,h,c,a=>by
  have hx:x.2.1≠k:=fun e=>by simp[nV,gN,e]at h
  have hr:nV r k=false:=by simpa[nV,gN,hx] using h
  simp only[rL,hx,↓reduceIte,aPq hr c a,List.cons_append]
theorem aPr (f:α→TV)(a:α)(c:Nat)(k:Int):∀(l:List (Nat×Int×α)) (i:Nat),nV l k=true→∃n v,findKey (.leaf .int) (.int .i64 k) (mpR f l) i=some (some (n,v))∧i≤n∧((((mpR f l)[n-i]?).map fun y=>fQ y.2.1 (.int .i64 k)).getD false)=true∧(mpR f l).modify (n-i) (fun y=>(y.1,.int .i64 k,f a))=mpR f (rL l c k a)
 | [],i,h=>by simp[nV,gN]at h
 | x::r,i,h=>by
  by_cases hx:k=x.2.1
  ·refine⟨i,f x.2.2,?_,Nat.le_refl _,?_,?_⟩
   ·simp[mpR,findKey,pM,fP,hx]
   ·simp[mpR,fQ,nM,hx]
   ·simp[mpR,rL,hx]
  ·have hh:nV r k=true:=by simpa[nV,gN,Ne.symm hx] using h
   obtain⟨n,v,h1,h2,h3,h4⟩:=aPr f a c k r (i+1) hh
   refine⟨n,v,?_,by omega,?_,?_⟩
   ·simp only[mpR]at h1
    simp only[mpR,List.map_cons,findKey,pM,fP,↓reduceIte]
    rw[show (k==x.2.1)=false by simp[hx]]
    exact h1
   ·rw[show n-i=(n-(i+1))+1 by omega]
    simp only[mpR,List.map_cons,List.getElem?_cons_succ]at h3 ⊢
    exact h3
   ·rw[show n-i=(n-(i+1))+1 by omega]
    simp only[mpR,List.map_cons,rL,Ne.symm hx,↓reduceIte,List.modify_succ_cons]at h4 ⊢
    rw[h4]
theorem bJg {f:α→TV}{S:aA}{j c:Nat}{l:List (Nat×Int×α)}(h:S[j]? = some (.mp (mpR f l) c))(z:IV)(ok:Bool)(k:Int) :
  lkV (.leaf .int) z ok S (.map j) (.iv (.int .i64 k))=some (match gN l k with|some a=>(if ok then .tup [f a,.iv (.bool true)] else f a)|none=>(if ok then .tup [.iv z,.iv (.bool false)] else .iv z)):=by
 obtain⟨n,h1⟩:=qP f k l 0
 simp only[lkV,kU,mR,gP,Bool.not_true,Bool.false_eq_true,↓reduceIte,oC,h,h1]
 cases gN l k<;>rfl
theorem aBr:∀(l:List (Nat×Int×α)) (c:Nat) (k:Int) (a:α) (m:Int),gN (rL l c k a) m=if k=m then some a else gN l m
 | [],c,k,a,m=>by simp[rL,gN]
 | x::r,c,k,a,m=>by
  simp only[rL]
  by_cases h:x.2.1=k
  ·simp only[h,↓reduceIte,gN]
   by_cases hk:k=m<;>simp[hk]
  ·simp only[h,↓reduceIte,gN,aBr r c k a m]
   by_cases hm:x.2.1=m
   ·have:¬k=m:=fun e=>h (hm.trans e.symm)
    simp[hm,this]
   ·simp[hm]
structure bL0 (l:List (Nat×Int×α)) (c:Nat):Prop where
 born:∀x∈l,x.1<c
 once:(l.map (·.1)).Nodup
 keys:(l.map (·.2.1)).Nodup
 rng:∀x∈l,-9223372036854775808≤x.2.1∧x.2.1≤9223372036854775807
end
def lkB (kk:KK)(z:IV)(ok:Bool)(b:Option aG)(k:TV):Option TV :=
 match kU k with
 | some k =>
  if !(gP kk k) then none else
  match (match b with|some (.mp es _)=>findKey kk k es 0|_=>none) with
  | some (some (_,x))=>some (if ok then .tup [x,.iv (.bool true)] else x)
  | some none=>some (if ok then .tup [.iv z,.iv (.bool false)] else .iv z)
  | none=>none
 | none=>none
theorem aPs (kk:KK)(z:IV)(ok:Bool)(S:aA)(j:Nat)(k:TV):lkV kk z ok S (.map j) k=lkB kk z ok (S[j]?) k:=by
 simp only[lkV,lkB,oC]
 cases kU k with
 | none=>rfl
 | some k =>
  simp only
  cases S[j]? with
  | none=>rfl
  | some b=>cases b<;>rfl
def upB (kk:KK)(env:Env)(S:aA)(j:Nat)(b:Option aG)(k x:TV):Option (TV×Env×aA) :=
 match kU k with
 | some k=>if !(gP kk k) then none else match b with
  | some (.mp es clock)=>if cZ x then none else match findKey kk k es 0 with
   | some (some (n,_))=>if !(((es[n]?).map fun y=>fQ y.2.1 k).getD false) then none else some (undef,env,S.set j (.mp (es.modify n fun y=>(y.1,k,x)) clock))
   | some none=>some (undef,env,S.set j (.mp (es++[(clock,k,x)]) (clock+1)))
   | none=>none
  | _=>none
 | _=>none
theorem bGc (kk:KK)(env:Env)(S:aA)(j:Nat)(k x:TV):upV kk env S (.map j) k x=upB kk env S j (S[j]?) k x:=by
 simp only[upV,upB]
 cases kU k<;>rfl
attribute [go_sem] aPs bGc
theorem aNm {α:Type}(f:α→TV)(l:List (Nat×Int×α))(c:Nat)(z:IV)(ok:Bool)(k:Int) :
  lkB (.leaf .int) z ok (some (.mp (mpR f l) c)) (.iv (.int .i64 k))=some (match gN l k with|some a=>(if ok then .tup [f a,.iv (.bool true)] else f a)|none=>(if ok then .tup [.iv z,.iv (.bool false)] else .iv z)):=by
 have h:(([.mp (mpR f l) c]:aA))[0]? = some (.mp (mpR f l) c):=rfl
 rw[←h,←aPs]
 exact bJg h z ok k
theorem bA6 {α:Type}(f:α→TV)(l:List (Nat×Int×α))(c:Nat)(env:Env)(S:aA)(j:Nat)(k:Int){x:TV}(a:α)(hx:x=f a)(hl:cZ x=false) :
  upB (.leaf .int) env S j (some (.mp (mpR f l) c)) (.iv (.int .i64 k)) x=some (undef,env,S.set j (.mp (mpR f (rL l c k a)) (aNl l c k))):=by
 simp only[upB,kU,mR,gP,Bool.not_true,Bool.false_eq_true,↓reduceIte,hl]
 cases hh:nV l k with
 | false =>
  rw[aGl f hh]
  simp only[aPq hh,aNl,hh,Bool.false_eq_true,↓reduceIte,mpR,List.map_append,List.map_cons,List.map_nil,hx]
 | true =>
  obtain⟨n,v,h1,h2,h3,h4⟩:=aPr f a c k l 0 hh
  rw[Nat.sub_zero]at h3 h4
  rw[h1]
  simp only[h3,Bool.not_true,Bool.false_eq_true,↓reduceIte,hx,h4,aNl,hh]
def vC (n:Int):TV:=.iv (.agg [.int .i64 n])
def nJ (l:List (Nat×Int×Int))(k:Int):Int:=(gN l k).getD 0
theorem yX (l:List (Nat×Int×Int))(c:Nat)(k:Int):lkB (.leaf .int) (.agg [.int .i64 0]) false (some (.mp (mpR vC l) c)) (.iv (.int .i64 k))=some (.iv (.agg [.int .i64 (nJ l k)])):=by
 rw[aNm]
 simp only[nJ,Bool.false_eq_true,↓reduceIte]
 cases gN l k<;>rfl
theorem aPt (l:List (Nat×Int×Int))(c:Nat)(env:Env)(S:aA)(j:Nat)(k a:Int):upB (.leaf .int) env S j (some (.mp (mpR vC l) c)) (.iv (.int .i64 k)) (.iv (.agg [.int .i64 a]))=some (undef,env,S.set j (.mp (mpR vC (rL l c k a)) (aNl l c k))) :=
 bA6 vC l c env S j k a rfl rfl
attribute [go_sem] yX aPt
structure iE (I:List Nat) (S S':aA):Prop where
 len:S.length≤S'.length
 get:∀i b,i∉I→S[i]? = some b→S'[i]? = some b
theorem iE.refl (I:List Nat)(S:aA):iE I S S:=⟨Nat.le_refl _,fun _ _ _ h=>h⟩
theorem iE.trans {I:List Nat}{S S' S'':aA}(h:iE I S S')(g:iE I S' S''):iE I S S'' :=
 ⟨Nat.le_trans h.len g.len,fun i b hi hb=>g.get i b hi (h.get i b hi hb)⟩
theorem iE.app (I:List Nat)(S:aA)(l:aA):iE I S (S++l) :=
 ⟨by simp,fun i b _ hb=>by
  have:i<S.length:=by
   rcases Nat.lt_or_ge i S.length with h|h
   ·exact h
   ·rw[List.getElem?_eq_none h]at hb; cases hb
  rw[List.getElem?_append_left this]; exact hb⟩
theorem iE.set {I:List Nat}(S:aA){j:Nat}(hj:j∈I)(b:aG):iE I S (S.set j b) :=
 ⟨by simp,fun i b' hi hb=>by
  have:j≠i:=fun e=>hi (e▸hj)
  rw[List.getElem?_set_ne this]; exact hb⟩
theorem cW {S:aA}{i:Nat}{b:aG}(h:S[i]? = some b):i<S.length:=by
 rcases Nat.lt_or_ge i S.length with h'|h'
 ·exact h'
 ·rw[List.getElem?_eq_none h']at h; cases h
theorem vD (S:aA)(b:aG):(S++[b])[S.length]? = some b:=by simp
theorem aX {S:aA}{i:Nat}{b:aG}(h:S[i]? = some b)(l:aA):(S++l)[i]? = some b:=(iE.app [] S l).get i b (by simp) h
theorem bE {S:aA}{i:Nat}(h:i<S.length)(b:aG):(S.set i b)[i]? = some b:=by simp[h]
theorem aL {S:aA}{i j:Nat}(h:i≠j)(b:aG):(S.set i b)[j]? = S[j]? := List.getElem?_set_ne h
theorem lS {α:Type}{cs:List α}{n:Nat}(h:cs.length=n):sub cs 0 n=some cs:=by subst h; simp[sub]
end Go.TM
namespace Go.TM
open Go Go.RowKit Go.Proofs Go.Sort Go.Lib
def qQ:List TV→Option (List Int)
 | []=>some []
 | .iv (.int .i64 n)::r=>match qQ r with
  | some l=>some (n::l)
  | none=>none
 | _::_=>none
theorem aEc:∀ {cs:List TV} {l:List Int},qQ cs=some l→cs=l.map fun n=>.iv (.int .i64 n)
 | [],l,h=>by simp only[qQ,Option.some.injEq]at h; subst h; rfl
 | c::r,l,h=>by
  unfold qQ at h
  split at h
  ·rename_i h0; cases h0
  ·rename_i n r' h0
   obtain⟨rfl,rfl⟩:=List.cons.inj h0
   split at h
   ·rename_i l' hl
    simp only[Option.some.injEq]at h
    subst h
    rw[aEc hl]; rfl
   ·simp at h
  ·simp at h
theorem aBs:∀l:List Int,qQ (l.map fun n=>.iv (.int .i64 n))=some l
 | []=>rfl
 | n::l=>by simp only[List.map_cons,qQ,aBs l]
def fM:List (Int×Int)→List Int
 | []=>[]
 | x::r=>x.1::x.2::fM r
def qR:List Int→List (Int×Int)
 | a::b::r=>(a,b)::qR r
 | _=>[]
theorem lW:∀l:List (Int×Int),(fM l).length=2*l.length
 | []=>rfl
 | x::r=>by rw[fM,List.length_cons,List.length_cons,lW r,List.length_cons]; omega
theorem aBt:∀l:List (Int×Int),qR (fM l)=l
 | []=>rfl
 | x::r=>by rw[fM,qR,aBt r]
theorem aBu:∀(n:Nat) (l:List Int),l.length=2*n→fM (qR l)=l
 | 0,l,h=>by rw[List.length_eq_zero_iff.1 (by omega:l.length=0)]; rfl
 | n+1,[],h=>by simp at h
 | n+1,[a],h=>by simp at h; omega
 | n+1,a::b::r,h=>by rw[qR,fM,aBu n r (by simp at h; omega)]
def leP (x y:Int×Int):Bool:=decide (x.1<y.1∨(x.1=y.1∧x.2≤y.2))
def aNn (x:Int×Int):List (Int×Int)→List (Int×Int)
 | []=>[x]
 | y::r=>if leP x y then x::y::r else y::aNn x r
def fN:List (Int×Int)→List (Int×Int)
 | []=>[]
 | x::r=>aNn x (fN r)
theorem wM (x:Int×Int):∀l:List (Int×Int),(aNn x l).Perm (x::l)
 | []=>.refl _
 | y::r=>by
  unfold aNn
  split
  ·exact .refl _
  ·exact ((wM x r).cons y).trans (.swap _ _ _)
theorem iU:∀l:List (Int×Int),(fN l).Perm l
 | []=>.refl _
 | x::r=>(wM x (fN r)).trans ((iU r).cons x)
theorem aEd {a b c:Int×Int}(h:leP a b=true)(g:leP b c=true):leP a c=true:=by
 unfold leP at *; simp only[decide_eq_true_eq]at *; omega
theorem aJz {a b:Int×Int}(h:leP a b=true)(g:leP b a=true):a=b:=by
 unfold leP at *; simp only[decide_eq_true_eq]at *
 obtain⟨a1,a2⟩:=a; obtain⟨b1,b2⟩:=b
 simp only at *
 have:a1=b1:=by omega
 have:a2=b2:=by omega
 simp[*]
theorem aPu {a b:Int×Int}(h:¬leP a b=true):leP b a=true:=by
 unfold leP at *; simp only[decide_eq_true_eq]at *; omega
theorem aEe (x:Int×Int):∀l:List (Int×Int),l.Pairwise (fun a b=>leP a b=true)→(aNn x l).Pairwise (fun a b=>leP a b=true)
 | [],_=>by simp[aNn]
 | y::r,h=>by
  have h':=List.pairwise_cons.1 h
  unfold aNn
  split
  ·rename_i hxy
   refine List.pairwise_cons.2 ⟨fun a ha=>?_,h⟩
   rcases List.mem_cons.1 ha with rfl|ha
   ·exact hxy
   ·exact aEd hxy (h'.1 a ha)
  ·rename_i hxy
   refine List.pairwise_cons.2 ⟨fun a ha=>?_,aEe x r h'.2⟩
   rcases List.mem_cons.1 ((wM x r).mem_iff.1 ha) with rfl|ha
   ·exact aPu hxy
   ·exact h'.1 a ha
theorem oT:∀l:List (Int×Int),(fN l).Pairwise (fun a b=>leP a b=true)
 | []=>.nil
 | x::r=>aEe x _ (oT r)
theorem vE {l m:List (Int×Int)}(hp:m.Perm l)(hm:m.Pairwise (fun a b=>leP a b=true)):m=fN l :=
 List.Perm.eq_of_pairwise (le:=fun a b=>leP a b=true) (fun a b _ _ h1 h2=>aJz h1 h2) hm (oT l) (hp.trans (iU l).symm)
theorem yJ (l:List (Int×Int)):l.mergeSort leP=fN l:=by
 refine vE (List.mergeSort_perm l leP) ?_
 have tr:∀a b c:Int×Int,leP a b=true→leP b c=true→leP a c=true:=fun a b c h1 h2=>aEd h1 h2
 have to:∀a b:Int×Int,(leP a b||leP b a)=true:=fun a b=>by
  cases h:leP a b with
  | true=>rfl
  | false=>rw[aPu (by simp[h]),Bool.or_true]
 exact List.pairwise_mergeSort tr to l
def aCo (x y:Int×Int):Int:=if Lib.compareInt x.1 y.1≠0 then Lib.compareInt x.1 y.1 else Lib.compareInt x.2 y.2
theorem ltP (x y:Int×Int):ltOf aCo x y=!leP y x:=by
 unfold ltOf aCo Lib.compareInt leP
 by_cases h1:x.1<y.1
 ·have:¬(y.1<x.1∨(y.1=x.1∧y.2≤x.2)):=by omega
  simp[h1,this]
 ·by_cases h2:y.1<x.1
  ·simp[h1,h2]
  ·have e:x.1=y.1:=by omega
   by_cases h3:x.2<y.2
   ·have:¬y.2≤x.2:=by omega
    simp[e,h3,this]
   ·have h5:y.2≤x.2:=by omega
    by_cases h4:y.2<x.2<;>simp[e,h3,h4,h5]
theorem bL1:SWO (ltOf aCo):=⟨fun x=>(by rw[ltP]; unfold leP; simp),
 fun x y z h1 h2=>(by rw[ltP]at *; unfold leP at *; simp only[Bool.not_eq_true',decide_eq_false_iff_not]at *; omega),
 fun x y z h1 h2=>(by rw[ltP]at *; unfold leP at *; simp only[Bool.not_eq_false',decide_eq_true_eq]at *; omega)⟩
theorem bL2 (x y:Int×Int)(h:ltOf aCo x y=false)(g:ltOf aCo y x=false):x=y:=by
 rw[ltP]at h g
 simp only[Bool.not_eq_false']at h g
 exact aJz g h
def xX (x:Int×Int):List Value:=[.int .i64 x.1,.int .i64 x.2]
theorem aEf:∀(l:List (Int×Int)) (t:Nat),t<2*l.length→(fM l)[t]? = (l[t / 2]?).map fun x=>if t % 2=0 then x.1 else x.2
 | [],t,h=>by simp at h
 | x::r,0,h=>rfl
 | x::r,1,h=>rfl
 | x::r,t+2,h=>by
  rw[fM,List.getElem?_cons_succ,List.getElem?_cons_succ,aEf r t (by simp at h; omega)]
  rw[show (t+2) / 2=t / 2+1 by omega,List.getElem?_cons_succ,show (t+2) % 2=t % 2 by omega]
theorem aPv (l:List (Int×Int)):flatK xX 2 l.toArray=((fM l).map (Value.int .i64)).toArray:=by
 apply Array.ext
 ·simp[lW]; omega
 ·intro t h1 h2
  have ht:t<l.length*2:=by simpa using h1
  have hd:t / 2<l.length:=by omega
  have e1:(flatK xX 2 l.toArray)[t]! = (flatK xX 2 l.toArray)[t]:=getElem!_pos _ t h1
  have e5:=get_flatK xX 2 l.toArray t (by simpa using ht)
  have e6:l.toArray[t / 2]! = l[t / 2]:=by rw[getElem!_pos _ (t / 2) (by simpa using hd)]; simp
  rw[e6]at e5
  have e2:=aEf l t (by omega)
  rw[List.getElem?_eq_getElem hd,Option.map_some]at e2
  have e3:t<(fM l).length:=by rw[lW]; omega
  rw[List.getElem?_eq_getElem e3,Option.some.injEq]at e2
  rw[←e1,e5]
  simp only[List.getElem_toArray,List.getElem_map,e2]
  rcases Nat.mod_two_eq_zero_or_one t with h0|h0
  ·rw[h0]; rfl
  ·rw[h0]; rfl
theorem aUb (w:World)(blk off:Nat)(l:List Int):putRow id w blk off (l.map (Value.int .i64)).toArray=putRow (Value.int .i64) w blk off l.toArray:=by
 unfold putRow
 refine mapBlock_congr _ _ _ _ fun c _ _ _=>?_
 apply Array.ext_getElem?
 intro k
 simp only[putCells,Array.getElem?_mapIdx,List.size_toArray,List.length_map]
 cases c[k]? with
 | none=>rfl
 | some y =>
  simp only[Option.map_some]
  by_cases h:off≤k∧k<off+l.length
  ·rw[if_pos h,if_pos h,getElem!_pos _ _ (by simp; omega),getElem!_pos _ _ (by simp; omega)]
   simp
  ·rw[if_neg h,if_neg h]
theorem bA7 {w:World}{blk off:Nat}{l:List Int}(h:Holds (Value.int .i64) w blk off l.toArray):Holds id w blk off (l.map (Value.int .i64)).toArray:=by
 intro j hj
 simp only[List.size_toArray,List.length_map]at hj
 obtain⟨h1,h2⟩:=h j (by simpa using hj)
 refine⟨?_,h2⟩
 rw[h1,getElem!_pos _ _ (by simpa using hj),getElem!_pos _ _ (by simpa using hj)]
 simp
def gF (g:Nat):aB6:=fun xs S=>match xs with
 | [.iv (.sl .nil []),.fn g' [] []]=>if g'=g then some (.tup [],S) else none
 | [.msl i ver off len cap 2,.fn g' [] []]=>if g'≠g then none else
  if len=0 then some (.tup [],S) else
  match S[i]? with
  | some (.cells v loose cs) =>
   if v=ver∧len≤cap∧off+2*len≤cs.length∧len≤1048576 then match qQ ((cs.drop off).take (2*len)) with
    | some l=>some (.tup [],S.set i (.cells v loose (cs.take off++(fM (fN (qR l))).map (fun n=>.iv (.int .i64 n))++cs.drop (off+2*len))))
    | none=>none
   else none
  | _=>none
 | _=>none
variable {P:Program}{O:cT}{K:TM.aW}
theorem aGm {f g : Nat} {fn : Func} (hf : P.funcs[f]? = some fn) (hb : fn.body.isSome = true) (hng : fn.name ≠ "runtime.NumGoroutine")
  (hnone:∀(p:Option Addr) (cap:Nat) (fv:Value) (w:World),Calls P f #[.slice p 0 cap,fv] w fun e w'=>e=.returned (.tuple #[])∧w'=w)
  (hrun:∀(blk off cap:Nat) (zs:List (Int×Int)) (w:World),Holds (Value.int .i64) w blk off (fM zs).toArray→blk<w.heap.size→zs.length<4611686018427387904 →
   Calls P f #[.slice (some ⟨blk,off,none⟩) zs.length cap,.func (.func g) #[] #[]] w fun e w'=>e=.returned (.tuple #[])∧∃n os,w'=grow (putRow (Value.int .i64) (Sort.ahead w n) blk off (fM (fN zs)).toArray) os) :
  oM P O K f (gF g):=by
 intro args S v S' h M J w vals hv hw hg
 have hno:∀(p:Option Addr) (cap:Nat) (fv:Value),(v,S')=(.tup [],S)→∀(F:Fence),cJ F→∀n,CallsIn F n P f #[.slice p 0 cap,fv] w (fL P O M J S w fun r=>r=(v,S')):=by
  intro p cap fv e F hF n
  refine iB hF ((hnone p cap fv w).mono ?_)
  rintro e' w' ⟨rfl,rfl⟩
  obtain⟨rfl,rfl⟩:=Prod.mk.inj e
  exact⟨_,_,M,J,rfl,.tup _ _ _ rfl (fun i x v hx=>by simp at hx),hw,.refl _ _ _ _ _⟩
 unfold gF at h
 split at h
 case h_3=>simp at h
 case h_1 g' =>
  split at h
  case isFalse=>simp at h
  simp only[Option.some.injEq,Prod.mk.injEq]at h
  obtain⟨rfl,rfl⟩:=h
  obtain⟨x,vals,rfl,hx,hv⟩:=hv.cons_inv
  obtain⟨y,vals,rfl,hy,hv⟩:=hv.cons_inv
  obtain rfl:=hv.nil_inv
  obtain rfl:x=.slice none 0 0:=by
   rcases hx.iv_inv.sl_any with⟨_,_,rfl⟩|⟨b,off,cap,es',vals,_,htn,_⟩|⟨a0,_,_,htn⟩
   ·rfl
   ·exact absurd rfl htn
   ·exact absurd rfl htn
  exact .inl ⟨fn,hf,hb,hng,hno none 0 y rfl⟩
 case h_2 i ver off len cap g' =>
  split at h
  case isTrue=>simp at h
  rename_i hgg
  obtain rfl:g'=g:=by simpa using hgg
  obtain⟨x,vals,rfl,hx,hv⟩:=hv.cons_inv
  obtain⟨y,vals,rfl,hy,hv⟩:=hv.cons_inv
  obtain rfl:=hv.nil_inv
  obtain rfl:y=.func (.func g') #[] #[]:=by
   cases hy with
   | fn _ _ _ _ fst' cap' h1 h2 _ _ =>
    have a1:fst'=#[]:=Array.eq_empty_of_size_eq_zero h1
    have a2:cap'=#[]:=Array.eq_empty_of_size_eq_zero h2
    rw[a1,a2]
  cases hx with
  | msl _ _ _ _ _ _ _ l b o c hl hlv ha hlc hlc' =>
   split at h
   ·rename_i hlen
    subst hlen
    simp only[Option.some.injEq]at h
    exact .inl ⟨fn,hf,hb,hng,hno _ _ _ h.symm⟩
   ·rename_i hlen
    split at h
    case h_2=>simp at h
    rename_i v0 loose cs hS
    split at h
    case isFalse=>simp at h
    rename_i hc
    obtain⟨rfl,hc1,hc2,hc3⟩:=hc
    split at h
    case h_2=>simp at h
    rename_i ks hks
    simp only[Option.some.injEq,Prod.mk.injEq]at h
    obtain⟨rfl,rfl⟩:=h
    have hks':=aEc hks
    have hkl:ks.length=2*len:=by
     have:=congrArg List.length hks'
     simp at this; omega
    have hbr:=hw.blk i l _ hl hS
    generalize hs0:aG.cells v0 loose cs=s0 at hbr
    cases hbr with
    | cells loose' cs1 cs' e fz hlo hbk hsz hfit hvals hfz hm ht =>
     simp only[aG.cells.injEq]at hs0
     obtain⟨rfl,rfl,rfl⟩:=hs0
     obtain⟨rfl,ho,hcc,hcl,hsz2⟩:=ha rfl
     have ho':=ho (by omega)
     subst ho'
     have hcell:∀j n,ks[j]? = some n→cs'[l.d+off+j]? = some (.int .i64 n):=by
      intro j n hn
      have hj:j<ks.length:=by
       rcases Nat.lt_or_ge j ks.length with h3|h3
       ·exact h3
       ·rw[List.getElem?_eq_none h3]at hn; cases hn
      have h1:cs[off+j]? = some (.iv (.int .i64 n)):=by
       have:=congrArg (fun l=>l[j]?) hks'
       simp only[List.getElem?_map,hn,Option.map_some]at this
       rw[List.getElem?_take_of_lt (by omega),List.getElem?_drop]at this
       exact this
      obtain⟨u,q,r⟩:=hvals _ _ h1
      rw[←Nat.add_assoc]at q
      rw[q,r.int_inv]
     have hH:Holds (Value.int .i64) w l.cb (l.d+off) ks.toArray:=by
      intro j hj
      simp only[List.size_toArray]at hj
      refine⟨?_,hfz _ ?_⟩
      ·rw[dF hbk,hcell j ks[j] (List.getElem?_eq_getElem hj)]
       simp[hj]
      ·have:=hcell j ks[j] (List.getElem?_eq_getElem hj)
       rcases Nat.lt_or_ge (l.d+off+j) cs'.size with h3|h3
       ·exact h3
       ·rw[Array.getElem?_eq_none h3]at this; cases this
     refine .inl ⟨fn,hf,hb,hng,fun F hF n=>iB hF ?_⟩
     have hfp:=aBu len ks hkl
     have hpl:(qR ks).length=len:=by have:=lW (qR ks); rw[hfp,hkl]at this; omega
     have hr:=hrun l.cb (l.d+off) c (qR ks) w (by rw[hfp]; exact hH) (hw.lt i l hl) (by omega)
     rw[hpl]at hr
     refine hr.mono ?_
     rintro e' w' ⟨rfl,m,os,rfl⟩
     have hsl:(fM (fN (qR ks))).length=ks.length:=by rw[lW,(iU _).length_eq,hpl,hkl]
     generalize fM (fN (qR ks))=rs at *
     let w1:=putRow (Value.int .i64) (Sort.ahead w m) l.cb (l.d+off) rs.toArray
     have hnew:w1.heap[l.cb]? = some (.cells (putCells (Value.int .i64) (l.d+off) rs.toArray cs') e fz):=by
      show ((Sort.ahead w m).heap.modify l.cb _)[l.cb]? = _
      rw[heap_ahead,Array.getElem?_modify,if_pos rfl,hbk]
      rfl
     have hot:∀b,b≠l.cb→w1.heap[b]? = w.heap[b]? := by
      intro b hb
      show ((Sort.ahead w m).heap.modify l.cb _)[b]? = _
      rw[heap_ahead,Array.getElem?_modify,if_neg (fun q=>hb q.symm)]
     obtain⟨wr,tr⟩:=hw.write (fun _=>False) hl (w':=w1) (s':=.cells l.ver loose (cs.take off++rs.map (fun n=>.iv (.int .i64 n))++cs.drop (off+2*len))) (by
      have hlen3:(cs.take off++rs.map (fun n=>TV.iv (.int .i64 n))++cs.drop (off+2*len)).length=cs.length:=by
       simp; omega
      refine .cells loose _ _ e fz hlo hnew (by simp[putCells,hsz]) (by rw[hlen3]; simpa[putCells] using hfit) ?_ (fun o ho=>?_) hm (fun h1 h2=>?_)
      ·intro k x hx
       have hk:k<cs.length:=by
        rw[←hlen3]
        rcases Nat.lt_or_ge k (cs.take off++rs.map (fun n=>TV.iv (.int .i64 n))++cs.drop (off+2*len)).length with h3|h3
        ·exact h3
        ·rw[List.getElem?_eq_none h3]at hx; cases hx
       obtain⟨u0,q0,r0⟩:=hvals k cs[k] (List.getElem?_eq_getElem hk)
       have hput:(putCells (Value.int .i64) (l.d+off) rs.toArray cs')[l.d+k]? = some (if l.d+off≤l.d+k∧l.d+k<l.d+off+rs.toArray.size then Value.int .i64 rs.toArray[l.d+k-(l.d+off)]! else u0):=by
        simp only[putCells,Array.getElem?_mapIdx,q0,Option.map_some]
       rw[List.size_toArray,hsl,hkl]at hput
       rcases Nat.lt_or_ge k off with h3|h3
       ·rw[if_neg (by omega)]at hput
        rw[List.append_assoc,List.getElem?_append_left (by simp; omega),List.getElem?_take_of_lt h3,List.getElem?_eq_getElem hk]at hx
        simp only[Option.some.injEq]at hx
        subst hx
        exact⟨_,hput,r0⟩
       ·rcases Nat.lt_or_ge k (off+2*len) with h4|h4
        ·rw[if_pos (by omega)]at hput
         rw[List.getElem?_append_left (by simp; omega),List.getElem?_append_right (by simp; omega),List.length_take,List.getElem?_map]at hx
         have e4:k-min off cs.length=k-off:=by omega
         rw[e4]at hx
         have h5:k-off<rs.length:=by omega
         rw[List.getElem?_eq_getElem h5,Option.map_some,Option.some.injEq]at hx
         subst hx
         refine⟨_,hput,?_⟩
         have e5:l.d+k-(l.d+off)=k-off:=by omega
         rw[e5,getElem!_pos _ _ (by simpa using h5)]
         simp only[List.getElem_toArray]
         exact .iv _ (.int _ _)
        ·rw[if_neg (by omega)]at hput
         rw[List.getElem?_append_right (by simp; omega),List.getElem?_drop]at hx
         have e4:off+2*len+(k-(cs.take off++rs.map (fun n=>TV.iv (.int .i64 n))).length)=k:=by simp; omega
         rw[e4,List.getElem?_eq_getElem hk,Option.some.injEq]at hx
         subst hx
         exact⟨_,hput,r0⟩
      ·have h3:o<cs'.size:=by simpa[putCells] using ho
       show (putRow _ _ _ _ _).frozen? _=_
       rw[frozen?_putRow]
       exact hfz o h3
      ·obtain⟨h3,h4,h5⟩:=ht h1 h2
       exact⟨h3,h4,by rw[hlen3]; simpa[putCells] using h5⟩) (by show ((Sort.ahead w m).heap.modify _ _).size=_; simp) hot ⟨rfl,rfl,rfl⟩ (fun o v hm'=>by rw[hm]at hm'; simp at hm')
     have hold:∀b,b<w1.heap.size→(grow w1 os).heap[b]? = w1.heap[b]? := by
      intro b hb
      show (w1.heap++os)[b]? = _
      rw[Array.getElem?_append_left hb]
     refine⟨_,_,M,J,rfl,.tup _ _ _ rfl (fun i x v hx=>by simp at hx),?_,?_⟩
     ·refine wr.step wr.len (.refl _) (.refl _) ?_ ?_ wr.inj (fun i l hl=>Nat.lt_of_lt_of_le (wr.lt i l hl) (by show w1.heap.size≤(w1.heap++os).size; rw[Array.size_append]; omega))
      ·intro b o u hm
       rw[dA (hold b (wr.mlt hm))]
       exact wr.imm b o u hm
      ·intro i l s hl hs
       exact .inr ⟨hl,hs,hold _ (wr.lt i l hl),fun o=>rfl⟩
     ·refine tr.trans (own':=fun _=>False) ⟨rfl,rfl,rfl,by show w1.heap.size≤(w1.heap++os).size; rw[Array.size_append]; omega,.refl _,fun b o _ _=>rfl,.refl _,fun i l hl=>.inr ⟨l,hl,rfl⟩,fun i hi=>⟨hi,rfl⟩,fun b hb _ _=>hold b hb⟩ (fun _ hf=>.inl hf)
    | _=>simp at hs0
end Go.TM
namespace Go.TM
open Go Go.RowKit Go.Proofs Go.Sort
def sZ:List TV→Option (List Int)
 | []=>some []
 | .iv (.int .i64 n)::r=>match sZ r with
  | some l=>some (n::l)
  | none=>none
 | _::_=>none
theorem aEg:∀ {cs:List TV} {l:List Int},sZ cs=some l→cs=l.map fun n=>.iv (.int .i64 n)
 | [],l,h=>by simp only[sZ,Option.some.injEq]at h; subst h; rfl
 | c::r,l,h=>by
  unfold sZ at h
  split at h
  ·rename_i h0; cases h0
  ·rename_i n r' h0
   obtain⟨rfl,rfl⟩:=List.cons.inj h0
   split at h
   ·rename_i l' hl
    simp only[Option.some.injEq]at h
    subst h
    rw[aEg hl]; rfl
   ·simp at h
  ·simp at h
theorem aBv:∀l:List Int,sZ (l.map fun n=>.iv (.int .i64 n))=some l
 | []=>rfl
 | n::l=>by simp only[List.map_cons,sZ,aBv l]
def jN:aB6:=fun xs S=>match xs with
 | [.iv (.sl .nil [])]=>some (.tup [],S)
 | [.msl i ver off len cap 1] =>
  if len=0 then some (.tup [],S) else
  match S[i]? with
  | some (.cells v loose cs) =>
   if v=ver∧len≤cap∧off+len≤cs.length∧len≤1048576 then match sZ ((cs.drop off).take len) with
    | some l=>some (.tup [],S.set i (.cells v loose (cs.take off++(gX l).map (fun n=>.iv (.int .i64 n))++cs.drop (off+len))))
    | none=>none
   else none
  | _=>none
 | _=>none
variable {P:Program}{O:cT}{K:TM.aW}
theorem aJ0 {f : Nat} {fn : Func} (hf : P.funcs[f]? = some fn) (hb : fn.body.isSome = true) (hng : fn.name ≠ "runtime.NumGoroutine")
  (hnone:∀(p:Option Addr) (cap:Nat) (w:World),Calls P f #[.slice p 0 cap] w fun e w'=>e=.returned (.tuple #[])∧w'=w)
  (hrun:∀(blk off cap:Nat) (zs:List Int) (w:World),Holds (Value.int .i64) w blk off zs.toArray→blk<w.heap.size→zs.length<4611686018427387904 →
   Calls P f #[.slice (some ⟨blk,off,none⟩) zs.length cap] w fun e w'=>e=.returned (.tuple #[])∧∃n os,w'=grow (putRow (Value.int .i64) (Sort.ahead w n) blk off (zs.mergeSort fun x y=>decide (x≤y)).toArray) os) :
  oM P O K f jN:=by
 intro args S v S' h M J w vals hv hw hg
 have hno:∀(p:Option Addr) (cap:Nat),(v,S')=(.tup [],S)→∀(F:Fence),cJ F→∀n,CallsIn F n P f #[.slice p 0 cap] w (fL P O M J S w fun r=>r=(v,S')):=by
  intro p cap e F hF n
  refine iB hF ((hnone p cap w).mono ?_)
  rintro e' w' ⟨rfl,rfl⟩
  obtain⟨rfl,rfl⟩:=Prod.mk.inj e
  exact⟨_,_,M,J,rfl,.tup _ _ _ rfl (fun i x v hx=>by simp at hx),hw,.refl _ _ _ _ _⟩
 unfold jN at h
 split at h
 case h_3=>simp at h
 case h_1 =>
  simp only[Option.some.injEq,Prod.mk.injEq]at h
  obtain⟨rfl,rfl⟩:=h
  obtain⟨x,vals,rfl,hx,hv⟩:=hv.cons_inv
  obtain rfl:=hv.nil_inv
  obtain rfl:x=.slice none 0 0:=by
   rcases hx.iv_inv.sl_any with⟨_,_,rfl⟩|⟨b,off,cap,es',vals,_,htn,_⟩|⟨a0,_,_,htn⟩
   ·rfl
   ·exact absurd rfl htn
   ·exact absurd rfl htn
  exact .inl ⟨fn,hf,hb,hng,hno none 0 rfl⟩
 case h_2 i ver off len cap =>
  obtain⟨x,vals,rfl,hx,hv⟩:=hv.cons_inv
  obtain rfl:=hv.nil_inv
  cases hx with
  | msl _ _ _ _ _ _ _ l b o c hl hlv ha hlc hlc' =>
   split at h
   ·rename_i hlen
    subst hlen
    simp only[Option.some.injEq]at h
    exact .inl ⟨fn,hf,hb,hng,hno _ _ h.symm⟩
   ·rename_i hlen
    split at h
    case h_2=>simp at h
    rename_i v0 loose cs hS
    split at h
    case isFalse=>simp at h
    rename_i hc
    obtain⟨rfl,hc1,hc2,hc3⟩:=hc
    split at h
    case h_2=>simp at h
    rename_i ks hks
    simp only[Option.some.injEq,Prod.mk.injEq]at h
    obtain⟨rfl,rfl⟩:=h
    have hks':=aEg hks
    have hkl:ks.length=len:=by
     have:=congrArg List.length hks'
     simp at this; omega
    have hbr:=hw.blk i l _ hl hS
    generalize hs0:aG.cells v0 loose cs=s0 at hbr
    cases hbr with
    | cells loose' cs1 cs' e fz hlo hbk hsz hfit hvals hfz hm ht =>
     simp only[aG.cells.injEq]at hs0
     obtain⟨rfl,rfl,rfl⟩:=hs0
     obtain⟨rfl,ho,hcc,hcl,hsz2⟩:=ha rfl
     have ho':=ho (by omega)
     subst ho'
     have hcell:∀j n,ks[j]? = some n→cs'[l.d+off+j]? = some (.int .i64 n):=by
      intro j n hn
      have hj:j<ks.length:=by
       rcases Nat.lt_or_ge j ks.length with h3|h3
       ·exact h3
       ·rw[List.getElem?_eq_none h3]at hn; cases hn
      have h1:cs[off+j]? = some (.iv (.int .i64 n)):=by
       have:=congrArg (fun l=>l[j]?) hks'
       simp only[List.getElem?_map,hn,Option.map_some]at this
       rw[List.getElem?_take_of_lt (by omega),List.getElem?_drop]at this
       exact this
      obtain⟨u,q,r⟩:=hvals _ _ h1
      rw[←Nat.add_assoc]at q
      rw[q,r.int_inv]
     have hH:Holds (Value.int .i64) w l.cb (l.d+off) ks.toArray:=by
      intro j hj
      simp only[List.size_toArray]at hj
      refine⟨?_,hfz _ ?_⟩
      ·rw[dF hbk,hcell j ks[j] (List.getElem?_eq_getElem hj)]
       simp[hj]
      ·have:=hcell j ks[j] (List.getElem?_eq_getElem hj)
       rcases Nat.lt_or_ge (l.d+off+j) cs'.size with h3|h3
       ·exact h3
       ·rw[Array.getElem?_eq_none h3]at this; cases this
     refine .inl ⟨fn,hf,hb,hng,fun F hF n=>iB hF ?_⟩
     have hr:=hrun l.cb (l.d+off) c ks w hH (hw.lt i l hl) (by omega)
     rw[hkl]at hr
     refine hr.mono ?_
     rintro e' w' ⟨rfl,m,os,rfl⟩
     rw[show ks.mergeSort (fun x y=>decide (x≤y))=gX ks from yI (.refl _)]
     have hsl:(gX ks).length=ks.length:=(mK ks).length_eq
     let w1:=putRow (Value.int .i64) (Sort.ahead w m) l.cb (l.d+off) (gX ks).toArray
     have hnew:w1.heap[l.cb]? = some (.cells (putCells (Value.int .i64) (l.d+off) (gX ks).toArray cs') e fz):=by
      show ((Sort.ahead w m).heap.modify l.cb _)[l.cb]? = _
      rw[heap_ahead,Array.getElem?_modify,if_pos rfl,hbk]
      rfl
     have hot:∀b,b≠l.cb→w1.heap[b]? = w.heap[b]? := by
      intro b hb
      show ((Sort.ahead w m).heap.modify l.cb _)[b]? = _
      rw[heap_ahead,Array.getElem?_modify,if_neg (fun q=>hb q.symm)]
     obtain⟨wr,tr⟩:=hw.write (fun _=>False) hl (w':=w1) (s':=.cells l.ver loose (cs.take off++(gX ks).map (fun n=>.iv (.int .i64 n))++cs.drop (off+len))) (by
      have hlen3:(cs.take off++(gX ks).map (fun n=>TV.iv (.int .i64 n))++cs.drop (off+len)).length=cs.length:=by
       simp; omega
      refine .cells loose _ _ e fz hlo hnew (by simp[putCells,hsz]) (by rw[hlen3]; simpa[putCells] using hfit) ?_ (fun o ho=>?_) hm (fun h1 h2=>?_)
      ·intro k x hx
       have hk:k<cs.length:=by
        rw[←hlen3]
        rcases Nat.lt_or_ge k (cs.take off++(gX ks).map (fun n=>TV.iv (.int .i64 n))++cs.drop (off+len)).length with h3|h3
        ·exact h3
        ·rw[List.getElem?_eq_none h3]at hx; cases hx
       obtain⟨u0,q0,r0⟩:=hvals k cs[k] (List.getElem?_eq_getElem hk)
       have hput:(putCells (Value.int .i64) (l.d+off) (gX ks).toArray cs')[l.d+k]? = some (if l.d+off≤l.d+k∧l.d+k<l.d+off+(gX ks).toArray.size then Value.int .i64 (gX ks).toArray[l.d+k-(l.d+off)]! else u0):=by
        simp only[putCells,Array.getElem?_mapIdx,q0,Option.map_some]
       rw[List.size_toArray,hsl,hkl]at hput
       rcases Nat.lt_or_ge k off with h3|h3
       ·rw[if_neg (by omega)]at hput
        rw[List.append_assoc,List.getElem?_append_left (by simp; omega),List.getElem?_take_of_lt h3,List.getElem?_eq_getElem hk]at hx
        simp only[Option.some.injEq]at hx
        subst hx
        exact⟨_,hput,r0⟩
       ·rcases Nat.lt_or_ge k (off+len) with h4|h4
        ·rw[if_pos (by omega)]at hput
         rw[List.getElem?_append_left (by simp; omega),List.getElem?_append_right (by simp; omega),List.length_take,List.getElem?_map]at hx
         have e4:k-min off cs.length=k-off:=by omega
         rw[e4]at hx
         have h5:k-off<(gX ks).length:=by omega
         rw[List.getElem?_eq_getElem h5,Option.map_some,Option.some.injEq]at hx
         subst hx
         refine⟨_,hput,?_⟩
         have e5:l.d+k-(l.d+off)=k-off:=by omega
         rw[e5,getElem!_pos _ _ (by simpa using h5)]
         simp only[List.getElem_toArray]
         exact .iv _ (.int _ _)
        ·rw[if_neg (by omega)]at hput
         rw[List.getElem?_append_right (by simp; omega),List.getElem?_drop]at hx
         have e4:off+len+(k-(cs.take off++(gX ks).map (fun n=>TV.iv (.int .i64 n))).length)=k:=by simp; omega
         rw[e4,List.getElem?_eq_getElem hk,Option.some.injEq]at hx
         subst hx
         exact⟨_,hput,r0⟩
      ·have h3:o<cs'.size:=by simpa[putCells] using ho
       show (putRow _ _ _ _ _).frozen? _=_
       rw[frozen?_putRow]
       exact hfz o h3
      ·obtain⟨h3,h4,h5⟩:=ht h1 h2
       exact⟨h3,h4,by rw[hlen3]; simpa[putCells] using h5⟩) (by show ((Sort.ahead w m).heap.modify _ _).size=_; simp) hot ⟨rfl,rfl,rfl⟩ (fun o v hm'=>by rw[hm]at hm'; simp at hm')
     have hold:∀b,b<w1.heap.size→(grow w1 os).heap[b]? = w1.heap[b]? := by
      intro b hb
      show (w1.heap++os)[b]? = _
      rw[Array.getElem?_append_left hb]
     refine⟨_,_,M,J,rfl,.tup _ _ _ rfl (fun i x v hx=>by simp at hx),?_,?_⟩
     ·refine wr.step wr.len (.refl _) (.refl _) ?_ ?_ wr.inj (fun i l hl=>Nat.lt_of_lt_of_le (wr.lt i l hl) (by show w1.heap.size≤(w1.heap++os).size; rw[Array.size_append]; omega))
      ·intro b o u hm
       rw[dA (hold b (wr.mlt hm))]
       exact wr.imm b o u hm
      ·intro i l s hl hs
       exact .inr ⟨hl,hs,hold _ (wr.lt i l hl),fun o=>rfl⟩
     ·refine tr.trans (own':=fun _=>False) ⟨rfl,rfl,rfl,by show w1.heap.size≤(w1.heap++os).size; rw[Array.size_append]; omega,.refl _,fun b o _ _=>rfl,.refl _,fun i l hl=>.inr ⟨l,hl,rfl⟩,fun i hi=>⟨hi,rfl⟩,fun b hb _ _=>hold b hb⟩ (fun _ hf=>.inl hf)
    | _=>simp at hs0
end Go.TM
namespace Go.TM
section
variable (K:aW)(O:Orc)(i:Nat)(k:Kt)(M:List (Nat×TV))(n:Nat)(fs:List Fr)(env:Env)(S:aA)
end
end Go.TM
namespace Go.TM
def nxR (S:aA)(x:TV):Out (TV×aA) :=
 match x with
 | .it j=>match S[j]? with
  | some (.mit none _ _ _)=>.ret (.tup [.iv (.bool false)],S)
  | some (.mit (some m) since seen last)=>match S[m]? with
   | some (.mp es clock) =>
    if !seen.isEmpty && !es.isEmpty && es.all (fun y => decide (y.1 ≥ last)) then .fail "" else
    .pick (((if ((es.filter fun y=>!seen.contains y.1).filter (·.1<since)).isEmpty then [none] else [])++(((es.filter fun y=>!seen.contains y.1).filter (·.1<since))++((es.filter fun y=>!seen.contains y.1).filter (·.1≥since))).map some:List (Option (Nat×IV×TV))).length) fun c =>
     match ((if ((es.filter fun y=>!seen.contains y.1).filter (·.1<since)).isEmpty then [none] else [])++(((es.filter fun y=>!seen.contains y.1).filter (·.1<since))++((es.filter fun y=>!seen.contains y.1).filter (·.1≥since))).map some:List (Option (Nat×IV×TV)))[c]? with
     | some (some y)=>.ret (.tup [.iv (.bool true),.iv y.2.1,y.2.2],S.set j (.mit (some m) since (seen++[y.1]) clock))
     | some none=>.ret (.tup [.iv (.bool false)],S)
     | none => .fail ""
   | _ => .fail ""
  | _ => .fail ""
 | _ => .fail ""
section
variable (K:aW)(O:Orc)(i:Nat)(k:Kt)(M:List (Nat×TV))(n:Nat)(fs:List Fr)(env:Env)(S:aA)
theorem aNo (x:aE):dK K O (.nextM x) i k M n fs env S=gM K O (nxR S (bR K n env M x)) i k M n fs env:=by
 unfold dK gM bR
 have key:∀v:TV,v=opv K n env M x→er ((bQ K O (.nextM x) env (cP M n) S).bind fun r=>fZ K O k ((i,r.1)::M) n fs r.2.1 r.2.2)=opC K O (nxR S v) i k M n fs env:=by
  intro v hv
  have hv':aS K env (cP M n) x=v:=hv.symm
  unfold bQ
  simp only[hv']
  unfold nxR opC
  cases v with
  | it j =>
   simp only
   cases S[j]? with
   | none=>rfl
   | some b =>
    cases b with
    | mit m since seen last =>
     cases m with
     | none=>simp only[Out.bind,iP]
     | some m =>
      simp only
      cases S[m]? with
      | none=>rfl
      | some b =>
       cases b with
       | mp es clock =>
        simp only
        split
        ·rfl
        ·simp only[Out.bind,er]
         congr 1
         funext c
         split<;>(rename_i heq; simp only[heq,Out.bind,iP,er])
       | _=>rfl
    | _=>rfl
  | _=>rfl
 exact key _ rfl
end
def enV (S:aA)(x:TV):Option TV :=
 match x with
 | .it j=>match S[j]? with
  | some (.mit (some m) _ seen last)=>match S[m]?,seen.getLast? with
   | some (.mp es clock),some stamp=>if clock≠last then none else match es.find? (·.1==stamp) with
    | some y=>some (.tup [.iv y.2.1,y.2.2])
    | none=>none
   | _,_=>none
  | _=>none
 | _=>none
theorem aCp (x:aE)(e:aE→TV)(env:Env)(S:aA):aM (.entryM x) e env S=enV S (e x):=id rfl
theorem aNp {S:aA}{j c:Nat}{es:List (Nat×IV×TV)}(h:S[j]? = some (.mp es c))(env:Env):aFz false env S (.map j)=some (.it S.length,env,S++[.mit (some j) c [] c]):=by
 simp only[aFz,h]
def left {α:Type}(l:List (Nat×Int×α))(seen:List Nat):Nat:=(l.filter fun x=>!seen.contains x.1).length
theorem aPw {α:Type}{p q:α→Bool}(hpq:∀a,q a=true→p a=true):∀ {l:List α} {x:α},x∈l→p x=true→q x=false→(l.filter q).length<(l.filter p).length
 | [],x,hx,_,_=>by cases hx
 | y::l,x,hx,h1,h2=>by
  have hle:∀l:List α,(l.filter q).length≤(l.filter p).length:=by
   intro l
   induction l with
   | nil=>exact Nat.le_refl _
   | cons z l ih =>
    by_cases hz:q z=true
    ·rw[List.filter_cons_of_pos hz,List.filter_cons_of_pos (hpq z hz)]; simpa using ih
    ·rw[List.filter_cons_of_neg hz]
     by_cases hp:p z=true
     ·rw[List.filter_cons_of_pos hp]; simp; omega
     ·rw[List.filter_cons_of_neg hp]; exact ih
  rcases List.mem_cons.1 hx with rfl|hx
  ·have:=hle l
   rw[List.filter_cons_of_pos h1,List.filter_cons_of_neg (by simp[h2])]
   simp; omega
  ·have ih:=aPw hpq hx h1 h2
   by_cases hz:q y=true
   ·rw[List.filter_cons_of_pos hz,List.filter_cons_of_pos (hpq y hz)]; simpa using ih
   ·rw[List.filter_cons_of_neg hz]
    by_cases hp:p y=true
    ·rw[List.filter_cons_of_pos hp]; simp; omega
    ·rw[List.filter_cons_of_neg hp]; exact ih
section
variable {K:aW}{O:Orc}{i:Nat}{k:Kt}{M:List (Nat×TV)}{n:Nat}{fs:List Fr}{env:Env}{S:aA}{cb:aJ}
end
section
variable {K:aW}{O:Orc}{i:Nat}{k:Kt}{M:List (Nat×TV)}{n:Nat}{fs:List Fr}{env:Env}{S:aA}{cb:aJ}{rs:List lZ}
theorem iX {P:TV×aA→Prop}{R:TV×aA→Prop}{X:Out (TV×aA)}(hX:X.All P)(h:∀v S',P (v,S')→(lC rs (gM K O (.ret (v,S')) i k M n fs env)).All R):(lC rs (gM K O (aJa false S X) i k M n fs env)).All R :=
 aJw (P:=P) (bGb hX fun v S' hv=>by rw[bAh]; exact hv) h
end
theorem bK6 (env:Env)(S:aA)(x y:IV):bO env S (.iv (.cp [x,y])) 2=some [.iv x,.iv y]:=id rfl
def clV (z:List IV)(env:Env)(S:aA)(x:TV):Option (TV×Env×aA):=match mT z S x with
 | some S=>some (undef,env,S)
 | none=>none
theorem aNq (K:aW)(O:Orc)(i:Nat)(k:Kt)(M:List (Nat×TV))(n:Nat)(fs:List Fr)(env:Env)(S:aA)(z:List IV)(x:aE):dK K O (.clear z x) i k M n fs env S=sX K O (clV z env S (bR K n env M x)) i k M n fs:=by
 unfold dK sX bR
 exact kZ K O i k M n fs env S rfl (by simp)
theorem bA8 (z:List IV)(env:Env)(S S':aA)(x:TV)(h:mT z S x=some S'):clV z env S x=some (undef,env,S'):=by simp only[clV,h]
attribute [go_sem] aNo aCp bK6 aNq
end Go.TM
namespace Go.TM
def grV (es bytes el:Nat)(env:Env)(S:aA)(x n:TV):Option (TV×Env×aA):=match eH n with
 | some n=>match sI es bytes el S x n with
  | some (x,S)=>some (x,env,S)
  | none=>none
 | none=>none
theorem aUc (K:aW)(O:Orc)(i:Nat)(k:Kt)(M:List (Nat×TV))(n:Nat)(fs:List Fr)(env:Env)(S:aA)(es bytes el:Nat)(x y:aE):dK K O (.grow es bytes el x y) i k M n fs env S=sX K O (grV es bytes el env S (bR K n env M x) (bR K n env M y)) i k M n fs:=by
 unfold dK sX bR
 exact kZ K O i k M n fs env S rfl (by simp)
theorem bJh {es bytes el:Nat}{env:Env}{S S':aA}{x y:TV}{n:Int}(h:sI es bytes el S x n=some (y,S')):grV es bytes el env S x (.iv (.int .i64 n))=some (y,env,S'):=by
 simp only[grV,eH,h]
attribute [go_sem] aUc
end Go.TM
set_option linter.unusedSectionVars false
namespace Go.TM
structure KE (κ:Type) [DecidableEq κ] (kk:KK) (en:κ→IV):Prop where
 eq:∀a b,pM kk (en a) (en b)=some (decide (a=b))
 ok:∀a,gP kk (en a)=true
 same:∀a,fQ (en a) (en a)=true
section
variable {κ:Type}[DecidableEq κ]{kk:KK}{en:κ→IV}{α:Type}
def mpK (en:κ→IV)(f:α→TV)(l:List (Nat×κ×α)):List (Nat×IV×TV):=l.map fun x=>(x.1,en x.2.1,f x.2.2)
def fD:List (Nat×κ×α)→κ→Option α
 | [],_=>none
 | x::r,k=>if x.2.1=k then some x.2.2 else fD r k
def eV:List (Nat×κ×α)→Nat→κ→α→List (Nat×κ×α)
 | [],c,k,a=>[(c,k,a)]
 | x::r,c,k,a=>if x.2.1=k then (x.1,k,a)::r else x::eV r c k a
def dT (l:List (Nat×κ×α))(k:κ):Bool:=(fD l k).isSome
def wN (l:List (Nat×κ×α))(c:Nat)(k:κ):Nat:=if dT l k then c else c+1
theorem qS (he:KE κ kk en)(f:α→TV)(k:κ):∀(l:List (Nat×κ×α)) (i:Nat),∃n,findKey kk (en k) (mpK en f l) i=some ((fD l k).map fun a=>(n,f a))
 | [],i=>⟨i,rfl⟩
 | x::r,i=>by
  by_cases hx:k=x.2.1
  ·refine⟨i,?_⟩
   subst hx
   simp[mpK,findKey,he.eq,fD]
  ·obtain⟨n,h1⟩:=qS he f k r (i+1)
   refine⟨n,?_⟩
   simp only[mpK]at h1
   simp only[mpK,List.map_cons,findKey,he.eq,decide_eq_false hx,fD,Ne.symm hx,↓reduceIte]
   exact h1
theorem aCq (he:KE κ kk en)(f:α→TV){k:κ}{l:List (Nat×κ×α)}(h:dT l k=false):findKey kk (en k) (mpK en f l) 0=some none:=by
 obtain⟨n,h1⟩:=qS he f k l 0
 have:fD l k=none:=by simpa[dT] using h
 rw[h1,this]; rfl
theorem aJ1:∀ {l:List (Nat×κ×α)} {k:κ},dT l k=false→∀(c:Nat) (a:α),eV l c k a=l++[(c,k,a)]
 | [],k,_,c,a=>rfl
 | x::r,k,h,c,a=>by
  have hx:x.2.1≠k:=fun e=>by simp[dT,fD,e]at h
  have hr:dT r k=false:=by simpa[dT,fD,hx] using h
  simp only[eV,hx,↓reduceIte,aJ1 hr c a,List.cons_append]
theorem aBw:∀(l:List (Nat×κ×α)) (c:Nat) (k:κ) (a:α) (m:κ),fD (eV l c k a) m=if k=m then some a else fD l m
 | [],c,k,a,m=>by simp[eV,fD]
 | x::r,c,k,a,m=>by
  simp only[eV]
  by_cases h:x.2.1=k
  ·simp only[h,↓reduceIte,fD]
   by_cases hk:k=m<;>simp[hk]
  ·simp only[h,↓reduceIte,fD,aBw r c k a m]
   by_cases hm:x.2.1=m
   ·have:¬k=m:=fun e=>h (hm.trans e.symm)
    simp[hm,this]
   ·simp[hm]
theorem aJ2 (l:List (Nat×κ×α))(c:Nat)(k:κ)(a:α)(m:κ):dT (eV l c k a) m=(decide (k=m)||dT l m):=by
 simp only[dT,aBw]
 by_cases h:k=m<;>simp[h]
theorem aBx:∀ {l:List (Nat×κ×α)} {k:κ},dT l k=true↔k∈l.map (·.2.1)
 | [],k=>by simp[dT,fD]
 | x::r,k=>by
  by_cases h:x.2.1=k
  ·simp[dT,fD,h]
  ·have:=aBx (l:=r) (k:=k)
   simp only[dT]at this
   simp only[dT,fD,h,↓reduceIte,List.map_cons,List.mem_cons,Ne.symm h,false_or]
   exact this
theorem bA9 (l:List (Nat×κ×α))(c:Nat)(k:κ)(a:α):(eV l c k a).length=if dT l k then l.length else l.length+1:=by
 induction l with
 | nil=>simp[eV,dT,fD]
 | cons x r ih =>
  by_cases h:x.2.1=k
  ·simp[eV,dT,fD,h]
  ·have e:dT (x::r) k=dT r k:=by simp[dT,fD,h]
   simp only[eV,h,↓reduceIte,List.length_cons,ih,e]
   split<;>rfl
theorem xY (l:List (Nat×κ×α))(c:Nat)(k:κ)(a:α):(eV l c k a).length≤l.length+1:=by
 rw[bA9]; split<;>omega
structure eN (l:List (Nat×κ×α)) (c:Nat):Prop where
 born:∀x∈l,x.1<c
 once:(l.map (·.1)).Nodup
 keys:(l.map (·.2.1)).Nodup
theorem eN.nil (c:Nat):eN ([]:List (Nat×κ×α)) c:=⟨by simp,by simp,by simp⟩
theorem aEh:∀(l:List (Nat×κ×α)) (c:Nat) (k:κ) (a:α),(eV l c k a).map (·.2.1)=if dT l k then l.map (·.2.1) else l.map (·.2.1)++[k]
 | [],c,k,a=>by simp[eV,dT,fD]
 | x::r,c,k,a=>by
  by_cases h:x.2.1=k
  ·simp[eV,dT,fD,h]
  ·have e:dT (x::r) k=dT r k:=by simp[dT,fD,h]
   simp only[eV,h,↓reduceIte,List.map_cons,aEh r c k a,e]
   split<;>rfl
theorem aEi:∀(l:List (Nat×κ×α)) (c:Nat) (k:κ) (a:α),(eV l c k a).map (·.1)=if dT l k then l.map (·.1) else l.map (·.1)++[c]
 | [],c,k,a=>by simp[eV,dT,fD]
 | x::r,c,k,a=>by
  by_cases h:x.2.1=k
  ·simp[eV,dT,fD,h]
  ·have e:dT (x::r) k=dT r k:=by simp[dT,fD,h]
   simp only[eV,h,↓reduceIte,List.map_cons,aEi r c k a,e]
   split<;>rfl
theorem eN.put {l:List (Nat×κ×α)}{c:Nat}(h:eN l c)(k:κ)(a:α):eN (eV l c k a) (wN l c k):=by
 have hb:∀n∈l.map (·.1),n<c:=by
  intro n hn
  obtain⟨x,hx,rfl⟩:=List.mem_map.1 hn
  exact h.born x hx
 have hbn:=aEi l c k a
 have hkn:=aEh l c k a
 refine⟨fun x hx=>?_,?_,?_⟩
 ·have hm:=List.mem_map_of_mem (f:=fun y:Nat×κ×α=>y.1) hx
  rw[hbn]at hm
  unfold wN
  split at hm
  ·rename_i hh; rw[if_pos hh]; exact hb _ hm
  ·rename_i hh
   rw[if_neg hh]
   rcases List.mem_append.1 hm with hm|hm
   ·have:=hb _ hm; omega
   ·simp at hm; omega
 ·rw[hbn]
  split
  ·exact h.once
  ·rw[List.nodup_append]
   exact⟨h.once,by simp,fun a ha b hb' e=>by simp at hb'; have:=hb a ha; omega⟩
 ·rw[hkn]
  split
  ·exact h.keys
  ·rename_i hh
   rw[List.nodup_append]
   refine⟨h.keys,by simp,fun a ha b hb' e=>?_⟩
   simp at hb'; subst hb'; subst e
   exact hh (aBx.2 ha)
theorem bGd (he:KE κ kk en)(f:α→TV)(l:List (Nat×κ×α))(c:Nat)(z:IV)(ok:Bool)(k:κ) :
  lkB kk z ok (some (.mp (mpK en f l) c)) (.iv (en k))=some (match fD l k with|some a=>(if ok then .tup [f a,.iv (.bool true)] else f a)|none=>(if ok then .tup [.iv z,.iv (.bool false)] else .iv z)):=by
 obtain⟨n,h1⟩:=qS he f k l 0
 simp only[lkB,kU,mR,he.ok,Bool.not_true,Bool.false_eq_true,↓reduceIte,h1]
 cases fD l k<;>rfl
theorem bBa {f:α→TV}{S:aA}{b m since last c:Nat}{seen:List Nat}{l:List (Nat×κ×α)}{P:TV×aA→Prop}
  (hb:S[b]? = some (.mit (some m) since seen last)) (hm:S[m]? = some (.mp (mpK en f l) c)) (hl:∀x∈l,x.1<since) (hs:since≤last)
  (h0:(∀x∈l,x.1∈seen)→P (.tup [.iv (.bool false)],S))
  (h1:∀x∈l,x.1∉seen→P (.tup [.iv (.bool true),.iv (en x.2.1),f x.2.2],S.set b (.mit (some m) since (seen++[x.1]) c))):(nxR S (.it b)).All P:=by
 unfold nxR
 simp only[hb,hm]
 have hne:(!seen.isEmpty&&!(mpK en f l).isEmpty&&(mpK en f l).all (fun y=>decide (y.1≥last)))=false:=by
  cases l with
  | nil=>simp[mpK]
  | cons a r =>
   have:=hl a (by simp)
   have:¬(last≤a.1):=by omega
   simp[mpK,this]
 rw[hne]
 simp only[Bool.false_eq_true,↓reduceIte]
 have hold:((mpK en f l).filter fun y=>!seen.contains y.1).filter (·.1<since)=mpK en f (l.filter fun x=>!seen.contains x.1):=by
  rw[List.filter_filter]
  unfold mpK
  rw[List.filter_map]
  congr 1
  apply List.filter_congr
  intro x hx
  have:=hl x hx
  simp[this]
 have hnew:((mpK en f l).filter fun y=>!seen.contains y.1).filter (·.1≥since)=[]:=by
  rw[List.filter_eq_nil_iff]
  intro y hy
  have hy':=(List.mem_filter.1 hy).1
  unfold mpK at hy'
  obtain⟨x,hx,rfl⟩:=List.mem_map.1 hy'
  have:=hl x hx
  simp; omega
 rw[hold,hnew]
 intro j hj
 generalize hL:((if (mpK en f (l.filter fun x=>!seen.contains x.1)).isEmpty then [none] else [])++(mpK en f (l.filter fun x=>!seen.contains x.1)++[]).map some:List (Option (Nat×IV×TV)))=L at hj ⊢
 cases hg:L[j]? with
 | none=>rw[List.getElem?_eq_none_iff]at hg; omega
 | some o =>
  simp only[hg]
  have hmem:=List.mem_of_getElem? hg
  rw[←hL]at hmem
  rcases List.mem_append.1 hmem with h|h
  ·split at h
   ·rename_i he
    simp at h
    subst h
    refine h0 fun x hx=>?_
    have hem:l.filter (fun x=>!seen.contains x.1)=[]:=by simpa[mpK] using he
    have:=List.filter_eq_nil_iff.1 hem x hx
    simpa using this
   ·cases h
  ·rw[List.append_nil]at h
   obtain⟨y,hy,rfl⟩:=List.mem_map.1 h
   unfold mpK at hy
   obtain⟨x,hx,rfl⟩:=List.mem_map.1 hy
   have hx':=List.mem_filter.1 hx
   exact h1 x hx'.1 (by simpa using hx'.2)
theorem bGe {f:α→TV}{S:aA}{b m since c:Nat}{seen:List Nat}{l:List (Nat×κ×α)}{x:Nat×κ×α}
  (hb:S[b]? = some (.mit (some m) since (seen++[x.1]) c)) (hm:S[m]? = some (.mp (mpK en f l) c)) (hx:x∈l) (ho:(l.map (·.1)).Nodup):enV S (.it b)=some (.tup [.iv (en x.2.1),f x.2.2]):=by
 have key:∀l:List (Nat×κ×α),x∈l→(l.map (·.1)).Nodup→(mpK en f l).find? (·.1==x.1)=some (x.1,en x.2.1,f x.2.2):=by
  intro l
  induction l with
  | nil=>intro h; cases h
  | cons a r ih =>
   intro h ho
   rw[List.map_cons,List.nodup_cons]at ho
   rcases List.mem_cons.1 h with rfl|h
   ·simp[mpK]
   ·have hne:a.1≠x.1:=fun e=>ho.1 (by rw[e]; exact List.mem_map_of_mem (f:=fun y:Nat×κ×α=>y.1) h)
    have:=ih h ho.2
    unfold mpK at this ⊢
    rw[List.map_cons,List.find?_cons_of_neg (by simpa using hne)]
    exact this
 simp only[enV,hb,hm,List.getLast?_append,List.getLast?_singleton,Option.some_or,ne_eq,not_true_eq_false,↓reduceIte,key l hx ho]
end
def en2 (k:Int×Int):IV:=.agg [.int .i64 k.1,.int .i64 k.2]
theorem ke2:KE (Int×Int) (.agg [(0,.int),(1,.int)]) en2:=by
 refine ⟨fun a b=>?_,fun a=>?_,fun a=>?_⟩
 ·obtain⟨a1,a2⟩:=a
  obtain⟨b1,b2⟩:=b
  by_cases h1:a1=b1
  ·subst h1
   by_cases h2:a2=b2
   ·subst h2; simp[pM,en2,dV,fP]
   ·simp[pM,en2,dV,fP,h2,show (a2==b2)=false by simp[h2]]
  ·simp[pM,en2,dV,fP,h1,show (a1==b1)=false by simp[h1]]
 ·simp[gP,en2]
 ·simp[fQ,en2,iQ,nM]
end Go.TM
set_option linter.unusedSectionVars false
namespace Go.TM
def bJi (kk:KK)(z:IV)(env:Env)(S:aA)(m k:TV):Option (TV×Env×aA):=match kU k,m with
 | some k,.map j=>if !(gP kk k) then none else match S[j]? with
  | some (.mp es clock)=>match findKey kk k es 0 with
   | some (some (n,x))=>if !(((es[n]?).map fun y=>fQ y.2.1 k).getD false) then none else some (.tup [x,.iv (.int .i64 (((es[n]?).map (·.1)).getD 0:Nat))],env,S.set j (.mp (es.modify n fun y=>(y.1,k,y.2.2)) clock))
   | some none=>some (.tup [.iv z,.iv (.int .i64 clock)],env,S.set j (.mp (es++[(clock,k,.iv z)]) (clock+1)))
   | none=>none
  | _=>none
 | _,_=>none
def esV (env:Env)(S:aA)(m s x:TV):Option (TV×Env×aA):=match m,eH s with
 | .map j,some born=>match S[j]? with
  | some (.mp es clock)=>if cZ x then none else match es.findIdx? (fun y=>(y.1:Int)==born) with
   | some n=>some (undef,env,S.set j (.mp (es.modify n fun y=>(y.1,y.2.1,x)) clock))
   | none=>none
  | _=>none
 | _,_=>none
section
variable (K:aW)(O:Orc)(i:Nat)(k:Kt)(M:List (Nat×TV))(n:Nat)(fs:List Fr)(env:Env)(S:aA)
theorem aNr (kk:KK)(z:IV)(m y:aE):dK K O (.entry kk z m y) i k M n fs env S=sX K O (bJi kk z env S (bR K n env M m) (bR K n env M y)) i k M n fs:=by
 unfold dK sX bR
 exact kZ K O i k M n fs env S rfl (by simp)
theorem yK (m s x:aE):dK K O (.entryStore m s x) i k M n fs env S=sX K O (esV env S (bR K n env M m) (bR K n env M s) (bR K n env M x)) i k M n fs:=by
 unfold dK sX bR
 exact kZ K O i k M n fs env S rfl (by simp)
end
theorem aNs (K:aW)(M:List (Nat×TV))(n:Nat)(env:Env)(S:aA)(kk:KK)(z:IV)(ok:Bool)(m y:aE):aMo K M n env S (.lookup kk z ok m y)=lkV kk z ok S (bR K n env M m) (bR K n env M y):=by
 unfold aMo bR
 exact aIp K M n env S rfl
def bBb (kk:KK)(z:IV)(env:Env)(S:aA)(j:Nat)(b:Option aG)(k:TV):Option (TV×Env×aA):=match kU k with
 | some k=>if !(gP kk k) then none else match b with
  | some (.mp es clock)=>match findKey kk k es 0 with
   | some (some (n,x))=>if !(((es[n]?).map fun y=>fQ y.2.1 k).getD false) then none else some (.tup [x,.iv (.int .i64 (((es[n]?).map (·.1)).getD 0:Nat))],env,S.set j (.mp (es.modify n fun y=>(y.1,k,y.2.2)) clock))
   | some none=>some (.tup [.iv z,.iv (.int .i64 clock)],env,S.set j (.mp (es++[(clock,k,.iv z)]) (clock+1)))
   | none=>none
  | _=>none
 | _=>none
def esB (env:Env)(S:aA)(j:Nat)(b:Option aG)(s x:TV):Option (TV×Env×aA):=match eH s with
 | some born=>match b with
  | some (.mp es clock)=>if cZ x then none else match es.findIdx? (fun y=>(y.1:Int)==born) with
   | some n=>some (undef,env,S.set j (.mp (es.modify n fun y=>(y.1,y.2.1,x)) clock))
   | none=>none
  | _=>none
 | _=>none
theorem bBc (kk:KK)(z:IV)(env:Env)(S:aA)(j:Nat)(k:TV):bJi kk z env S (.map j) k=bBb kk z env S j (S[j]?) k:=by
 simp only[bJi,bBb]
 cases kU k<;>rfl
theorem bGf (env:Env)(S:aA)(j:Nat)(s x:TV):esV env S (.map j) s x=esB env S j (S[j]?) s x:=by
 simp only[esV,esB]
 cases eH s<;>rfl
attribute [go_sem] aNr yK bBc bGf aNs
section
variable {κ:Type}[DecidableEq κ]{kk:KK}{en:κ→IV}{α:Type}
def iY:List (Nat×κ×α)→Nat→κ→Nat
 | [],c,_=>c
 | x::r,c,k=>if x.2.1=k then x.1 else iY r c k
theorem aBy:∀ {l:List (Nat×κ×α)} {k:κ},dT l k=false→∀c,iY l c k=c
 | [],k,_,c=>rfl
 | x::r,k,h,c=>by
  have hx:x.2.1≠k:=fun e=>by simp[dT,fD,e]at h
  have hr:dT r k=false:=by simpa[dT,fD,hx] using h
  rw[iY,if_neg hx,aBy hr]
theorem aPx (he:KE κ kk en)(f:α→TV)(c:Nat)(z:α)(k:κ):∀(l:List (Nat×κ×α)) (i:Nat),dT l k=true→∃n,findKey kk (en k) (mpK en f l) i=some (some (n,f ((fD l k).getD z)))∧i≤n∧((((mpK en f l)[n-i]?).map fun y=>fQ y.2.1 (en k)).getD false)=true∧(((mpK en f l)[n-i]?).map (·.1)).getD 0=iY l c k∧(mpK en f l).modify (n-i) (fun y=>(y.1,en k,y.2.2))=mpK en f (eV l c k ((fD l k).getD z))
 | [],i,h=>by simp[dT,fD]at h
 | x::r,i,h=>by
  by_cases hx:k=x.2.1
  ·refine⟨i,?_,Nat.le_refl _,?_,?_,?_⟩
   ·subst hx; simp[mpK,findKey,he.eq,fD]
   ·subst hx; simp[mpK,he.same]
   ·subst hx; simp[mpK,iY]
   ·subst hx; simp[mpK,eV,fD]
  ·have hh:dT r k=true:=by simpa[dT,fD,Ne.symm hx] using h
   obtain⟨n,h1,h2,h3,h5,h4⟩:=aPx he f c z k r (i+1) hh
   refine⟨n,?_,by omega,?_,?_,?_⟩
   ·simp only[mpK]at h1
    simp only[mpK,List.map_cons,findKey,he.eq,decide_eq_false hx,fD,Ne.symm hx,↓reduceIte]
    exact h1
   ·rw[show n-i=(n-(i+1))+1 by omega]
    simp only[mpK,List.map_cons,List.getElem?_cons_succ]at h3 ⊢
    exact h3
   ·rw[show n-i=(n-(i+1))+1 by omega]
    simp only[mpK,List.map_cons,List.getElem?_cons_succ,iY,Ne.symm hx,↓reduceIte]at h5 ⊢
    exact h5
   ·rw[show n-i=(n-(i+1))+1 by omega]
    simp only[mpK,List.map_cons,eV,fD,Ne.symm hx,↓reduceIte,List.modify_succ_cons]at h4 ⊢
    rw[h4]
theorem bBd (he:KE κ kk en)(f:α→TV)(z0:α)(z:IV)(hz:f z0=.iv z)(l:List (Nat×κ×α))(c:Nat)(env:Env)(S:aA)(j:Nat)(k:κ) :
  bBb kk z env S j (some (.mp (mpK en f l) c)) (.iv (en k))=some (.tup [f ((fD l k).getD z0),.iv (.int .i64 (iY l c k))],env,S.set j (.mp (mpK en f (eV l c k ((fD l k).getD z0))) (wN l c k))):=by
 simp only[bBb,kU,mR,he.ok,Bool.not_true,Bool.false_eq_true,↓reduceIte]
 cases hh:dT l k with
 | false =>
  have hg:fD l k=none:=by simpa[dT] using hh
  rw[aCq he f hh]
  simp only[aJ1 hh,wN,hh,Bool.false_eq_true,↓reduceIte,mpK,List.map_append,List.map_cons,List.map_nil,hg,Option.getD_none,aBy hh,hz]
 | true =>
  obtain⟨n,h1,h2,h3,h5,h4⟩:=aPx he f c z0 k l 0 hh
  rw[Nat.sub_zero]at h3 h4 h5
  rw[h1]
  simp only[h3,Bool.not_true,Bool.false_eq_true,↓reduceIte,h4,wN,hh,h5]
theorem bBe (f:α→TV)(c:Nat)(k:κ)(v a:α):∀l:List (Nat×κ×α),(∀x∈l,x.1<c)→(l.map (·.1)).Nodup→∃n,(mpK en f (eV l c k v)).findIdx? (fun y=>(y.1:Int)==((iY l c k:Nat):Int))=some n∧(mpK en f (eV l c k v)).modify n (fun y=>(y.1,y.2.1,f a))=mpK en f (eV l c k a)
 | [],_,_=>⟨0,by simp[mpK,eV,iY],by simp[mpK,eV]⟩
 | x::r,hb,hn=>by
  rw[List.map_cons,List.nodup_cons]at hn
  by_cases hx:x.2.1=k
  ·exact⟨0,by simp[mpK,eV,iY,hx,List.findIdx?_cons],by simp[mpK,eV,hx]⟩
  ·obtain⟨n,h1,h2⟩:=bBe f c k v a r (fun y hy=>hb y (by simp[hy])) hn.2
   have hne:¬((x.1:Int)=((iY r c k:Nat):Int)):=by
    intro e
    have e':x.1=iY r c k:=by omega
    have key:∀l:List (Nat×κ×α),iY l c k=c∨iY l c k∈l.map (·.1):=by
     intro l
     induction l with
     | nil=>exact .inl rfl
     | cons y l ih =>
      rw[iY]
      split
      ·exact .inr (by simp)
      ·rcases ih with h|h
       ·exact .inl h
       ·exact .inr (by simp only[List.map_cons,List.mem_cons]; exact .inr h)
    rcases key r with h|h
    ·have:=hb x (by simp); omega
    ·rw[←e']at h; exact hn.1 h
   refine⟨n+1,?_,?_⟩
   ·simp only[mpK]at h1
    simp only[mpK,eV,iY,hx,↓reduceIte,List.map_cons,List.findIdx?_cons]
    rw[show ((x.1:Int)==((iY r c k:Nat):Int))=false by simpa using hne,h1]
    rfl
   ·simp only[mpK]at h2
    simp only[mpK,eV,hx,↓reduceIte,List.map_cons,List.modify_succ_cons,h2]
theorem bGg (f:α→TV){l:List (Nat×κ×α)}{c:Nat}(h:eN l c)(c':Nat)(env:Env)(S:aA)(j:Nat)(k:κ)(v a:α){x:TV}(hx:x=f a)(hl:cZ x=false) :
  esB env S j (some (.mp (mpK en f (eV l c k v)) c')) (.iv (.int .i64 (iY l c k))) x=some (undef,env,S.set j (.mp (mpK en f (eV l c k a)) c')):=by
 obtain⟨n,h1,h2⟩:=bBe (en:=en) f c k v a l h.born h.once
 subst hx
 simp only[esB,TM.eH,hl,Bool.false_eq_true,↓reduceIte,h1,h2]
end
def nW (n:Int):TV:=.iv (.int .i64 n)
def vG (l:List (Nat×(Int×Int)×Int))(k:Int×Int):Int:=(fD l k).getD 0
theorem lk2 (l:List (Nat×(Int×Int)×Int))(c:Nat)(a b:Int):lkB (.agg [(0,.int),(1,.int)]) (.int .i64 0) false (some (.mp (mpK en2 nW l) c)) (.iv (.agg [.int .i64 a,.int .i64 b]))=some (.iv (.int .i64 (vG l (a,b)))):=by
 have h:=bGd ke2 nW l c (.int .i64 0) false (a,b)
 rw[show en2 (a,b)=.agg [.int .i64 a,.int .i64 b] from rfl]at h
 rw[h]
 unfold vG
 cases fD l (a,b)<;>rfl
theorem bL3 (l:List (Nat×(Int×Int)×Int))(c:Nat)(env:Env)(S:aA)(j:Nat)(a b:Int):bBb (.agg [(0,.int),(1,.int)]) (.int .i64 0) env S j (some (.mp (mpK en2 nW l) c)) (.iv (.agg [.int .i64 a,.int .i64 b]))=some (.tup [.iv (.int .i64 (vG l (a,b))),.iv (.int .i64 (iY l c (a,b)))],env,S.set j (.mp (mpK en2 nW (eV l c (a,b) (vG l (a,b)))) (wN l c (a,b)))) :=
 bBd ke2 nW 0 (.int .i64 0) rfl l c env S j (a,b)
theorem es2 {l:List (Nat×(Int×Int)×Int)}{c:Nat}(h:eN l c)(c':Nat)(env:Env)(S:aA)(j:Nat)(k:Int×Int)(v a:Int):esB env S j (some (.mp (mpK en2 nW (eV l c k v)) c')) (.iv (.int .i64 (iY l c k))) (.iv (.int .i64 a))=some (undef,env,S.set j (.mp (mpK en2 nW (eV l c k a)) c')) :=
 bGg nW h c' env S j k v a rfl rfl
attribute [go_sem] lk2 bL3
end Go.TM
set_option linter.unusedSectionVars false
namespace Go.TM
section
variable {κ:Type}[DecidableEq κ]{en:κ→IV}{α:Type}
def xZ (l:List (Nat×κ×α))(seen:List Nat):Nat:=(l.filter fun x=>!seen.contains x.1).length
theorem aJ3 {l:List (Nat×κ×α)}{seen:List Nat}{x:Nat×κ×α}(hx:x∈l)(hs:x.1∉seen):xZ l (seen++[x.1])<xZ l seen:=by
 unfold xZ
 refine aPw (x:=x) (fun a h=>?_) hx (by simpa using hs) (by simp)
 simp at h ⊢
 exact h.1
variable {K:aW}{O:Orc}{i:Nat}{k:Kt}{M:List (Nat×TV)}{n:Nat}{fs:List Fr}{env:Env}{S:aA}{cb:aJ}{rs:List lZ}
theorem aCr {f:α→TV}{b m since last c:Nat}{seen:List Nat}{l:List (Nat×κ×α)}{R:aU×Env×aA→Prop}
  (hb:S[b]? = some (.mit (some m) since seen last)) (hm:S[m]? = some (.mp (mpK en f l) c)) (hl:∀x∈l,x.1<since) (hs:since≤last)
  (h0:(∀x∈l,x.1∈seen)→(nT O cb (gM K O (.ret (.tup [.iv (.bool false)],S)) i k M n fs env)).All R)
  (h1:∀x∈l,x.1∉seen→(nT O cb (gM K O (.ret (.tup [.iv (.bool true),.iv (en x.2.1),f x.2.2],S.set b (.mit (some m) since (seen++[x.1]) c))) i k M n fs env)).All R) :
  (nT O cb (gM K O (nxR S (.it b)) i k M n fs env)).All R :=
 aJx (P:=fun r=>(nT O cb (gM K O (.ret (r.1,r.2)) i k M n fs env)).All R) (bBa hb hm hl hs h0 h1) (fun _ _ h=>h)
theorem aJ4 {P R:TV×aA→Prop}{X:Out (TV×aA)}(hX:X.All P)(h:∀v S',P (v,S')→(lC rs (rfR K O n env fs (.ret (v,S')))).All R):(lC rs (rfR K O n env fs X)).All R:=by
 have e:∀Y:Out (TV×aA),Y.All P→(fin rs (rfR K O n env fs Y)).All R:=by
  intro Y
  induction Y with
  | ret r=>intro hr; have:=h r.1 r.2 hr; unfold lC at this; exact this
  | fail s=>intro hr; exact hr.elim
  | pick m q ih =>
   intro hr
   have hq:∀j,j<m→(fin rs (rfR K O n env fs (q j))).All R:=fun j hj=>ih j (hr j hj)
   unfold rfR at hq ⊢
   simp only[er,Out.bind]
   intro j hj
   exact hq j hj
 unfold lC
 exact e X hX
end
end Go.TM
