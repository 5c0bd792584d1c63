/- A part of the evaluator TM, and of the proof that what it computes the model does. Condition: none. -/
import Derived.Test.YtageemgcnoblnaaDoorTmD
import Derived.Shelf.Strings.Builder1
import Derived.Lib.Bytealg
import Derived.Lib.MakeNoZero
import Derived.Lib.SlKeysI
import Derived.Maps.Keyed
import Derived.Maps.Own
import Derived.Laws.AppendOwn
import Derived.Test.YtageemgcnoblnaaDoorTmE
set_option linter.unusedVariables false
set_option linter.unusedSimpArgs false
namespace Go.TM
open Go Go.Shelf Go.RowKit Go.Proofs
variable {P:Program}{O:dM}{K:TM.bV}
def aDp:List (Nat×aI0)->Nat->Option aI0
 | [],_=>none
 | (k,p)::r,f=>if k==f then some p else aDp r f
theorem aVf {l:List (Nat×aI0)}(h:∀x∈l,aCl P O K x.1 x.2){f:Nat}{p:aI0}(hf:aDp l f=some p):aCl P O K f p:=by
 induction l with
 | nil=>simp[aDp]at hf
 | cons x r ih =>
  obtain⟨k,q⟩:=x
  unfold aDp at hf
  split at hf
  ·rename_i hk
   simp only[beq_iff_eq]at hk
   simp only[Option.some.injEq]at hf
   subst hk hf
   exact h (k,q) (by simp)
  ·exact ih (fun x hx=>h x (by simp[hx])) hf
end Go.TM
namespace Go.TM
open Go Go.Maps Go.RowKit Go.Proofs Go.ChangeShapes Go.WideShapes Go.MapKept
open Go.WideElems (Fit rg rd rg_of)
variable {P:Program}{O:dM}{K:TM.bV}
end Go.TM
namespace Go.TM
def lkV (kk:KK)(z:IV)(ok:Bool)(S:aA)(m k:TV):Option TV :=
 match rT k with
 | some k =>
  if !(mV kk k)then none else
  match qI kk S m k with
  | some (some (_,x))=>some (if ok then .tup [x,.iv (.bool true)]else x)
  | some none=>some (if ok then .tup [.iv z,.iv (.bool false)]else .iv z)
  | none=>none
 | none=>none
theorem aEe (kk:KK)(z:IV)(ok:Bool)(m y:aE)(e:aE->TV)(env:Env)(S:aA):aR (.lookup kk z ok m y) e env S=lkV kk z ok S (e m) (e y):=id rfl
def upV (kk:KK)(env:Env)(S:aA)(m k x:TV):Option (TV×Env×aA) :=
 match rT k,m with
 | some k,.map j=>if !(mV kk k)then none else match S[j]? with
  | some (.mp es clock)=>if eE x then none else match findKey kk k es 0 with
   | some (some (n,_))=>if !(((es[n]?).map fun y=>nA y.2.1 k).getD false)then none else some (undef,env,S.set j (.mp (es.modify n fun y=>(y.1,k,x)) clock))
   | some none=>some (undef,env,S.set j (.mp (es++[(clock,k,x)]) (clock+1)))
   | none=>none
  | _=>none
 | _,_=>none
theorem aLl (kk:KK)(m y x:aE)(e:aE->TV)(rs:List TV)(env:Env)(S:aA):iI (.update kk m y x) e rs env S=upV kk env S (e m) (e y) (e x):=id rfl
attribute [go_sem] aEe aLl
section
variable {α:Type}
def mpR (f:α->TV)(l:List (Nat×Int×α)):List (Nat×IV×TV):=l.map fun x=>(x.1,.int .i64 x.2.1,f x.2.2)
def pE:List (Nat×Int×α)->Int->Option α
 | [],_=>none
 | x::r,k=>if x.2.1=k then some x.2.2 else pE r k
def rF:List (Nat×Int×α)->Nat->Int->α->List (Nat×Int×α)
 | [],c,k,a=>[(c,k,a)]
 | x::r,c,k,a=>if x.2.1=k then(x.1,k,a)::r else x::rF r c k a
def xH (l:List (Nat×Int×α))(k:Int):Bool:=(pE l k).isSome
def aEf (l:List (Nat×Int×α))(c:Nat)(k:Int):Nat:=if xH l k then c else c+1
theorem bGc (f:α->TV):mpR f []=[]:=rfl
theorem sZ (f:α->TV)(k:Int):∀(l:List (Nat×Int×α)) (i:Nat),∃n,findKey (.leaf .int) (.int .i64 k) (mpR f l) i=some ((pE l k).map fun a=>(n,f a))
 | [],i=>⟨i,rfl⟩
 | x::r,i=>by
  by_cases hx:k=x.2.1
  ·refine⟨i,?_⟩
   simp[mpR,findKey,aBu,mL,pE,hx]
  ·obtain⟨n,h1⟩:=sZ f k r (i+1)
   refine⟨n,?_⟩
   simp only[mpR]at h1
   simp only[mpR,List.map_cons,findKey,aBu,mL,↓reduceIte,pE,Ne.symm hx]
   rw[show(k==x.2.1)=false by simp[hx]]
   exact h1
theorem aH8 (f:α->TV){k:Int}{l:List (Nat×Int×α)}(h:xH l k=false):findKey (.leaf .int) (.int .i64 k) (mpR f l) 0=some none:=by
 obtain⟨n,h1⟩:=sZ f k l 0
 have:pE l k=none:=by simpa[xH] using h
 rw[h1,this];rfl
theorem aQ6:∀ {l:List (Nat×Int×α)} {k:Int},xH l k=false->∀(c:Nat) (a:α),rF l c k a=l++[(c,k,a)]
 | [],k,_,c,a=>rfl
 | x::r,k,h,c,a=>by
  have hx:x.2.1≠k:=fun e=>by simp[xH,pE,e]at h
  have hr:xH r k=false:=by simpa[xH,pE,hx] using h
  simp only[rF,hx,↓reduceIte,aQ6 hr c a,List.cons_append]
theorem aQ7 (f:α->TV)(a:α)(c:Nat)(k:Int):∀(l:List (Nat×Int×α)) (i:Nat),xH l k=true->∃n v,findKey (.leaf .int) (.int .i64 k) (mpR f l) i=some (some (n,v))∧i<=n∧((((mpR f l)[n-i]?).map fun y=>nA y.2.1 (.int .i64 k)).getD false)=true∧(mpR f l).modify (n-i) (fun y=>(y.1,.int .i64 k,f a))=mpR f (rF l c k a)
 | [],i,h=>by simp[xH,pE]at h
 | x::r,i,h=>by
  by_cases hx:k=x.2.1
  ·refine⟨i,f x.2.2,?_,Nat.le_refl _,?_,?_⟩
   ·simp[mpR,findKey,aBu,mL,hx]
   ·simp[mpR,nA,rU,hx]
   ·simp[mpR,rF,hx]
  ·have hh:xH r k=true:=by simpa[xH,pE,Ne.symm hx] using h
   obtain⟨n,v,h1,h2,h3,h4⟩:=aQ7 f a c k r (i+1) hh
   refine⟨n,v,?_,by omega,?_,?_⟩
   ·simp only[mpR]at h1
    simp only[mpR,List.map_cons,findKey,aBu,mL,↓reduceIte]
    rw[show(k==x.2.1)=false by simp[hx]]
    exact h1
   ·rw[show n-i=(n-(i+1))+1 by omega]
    simp only[mpR,List.map_cons,List.getElem?_cons_succ]at h3 ⊢
    exact h3
   ·rw[show n-i=(n-(i+1))+1 by omega]
    simp only[mpR,List.map_cons,rF,Ne.symm hx,↓reduceIte,List.modify_succ_cons]at h4 ⊢
    rw[h4]
theorem bJ1 {f:α->TV}{S:aA}{j c:Nat}{l:List (Nat×Int×α)}(h:S[j]? = some (.mp (mpR f l) c))(z:IV)(ok:Bool)(k:Int):
  lkV (.leaf .int) z ok S (.map j) (.iv (.int .i64 k))=some (match pE l k with|some a=>(if ok then .tup [f a,.iv (.bool true)]else f a)|none=>(if ok then .tup [.iv z,.iv (.bool false)]else .iv z)):=by
 obtain⟨n,h1⟩:=sZ f k l 0
 simp only[lkV,rT,rS,mV,Bool.not_true,Bool.false_eq_true,↓reduceIte,qI,h,h1]
 cases pE l k<;>rfl
theorem aLm:∀(l:List (Nat×Int×α)) (c:Nat) (k:Int) (a:α) (m:Int),pE (rF l c k a) m=if k=m then some a else pE l m
 | [],c,k,a,m=>by simp[rF,pE]
 | x::r,c,k,a,m=>by
  simp only[rF]
  by_cases h:x.2.1=k
  ·simp only[h,↓reduceIte,pE]
   by_cases hk:k=m<;>simp[hk]
  ·simp only[h,↓reduceIte,pE,aLm r c k a m]
   by_cases hm:x.2.1=m
   ·have:¬k=m:=fun e=>h (hm.trans e.symm)
    simp[hm,this]
   ·simp[hm]
structure bB6 (l:List (Nat×Int×α)) (c:Nat):Prop where
 born:∀x∈l,x.1<c
 once:(l.map (·.1)).Nodup
 keys:(l.map (·.2.1)).Nodup
 rng:∀x∈l,-9223372036854775808<=x.2.1∧x.2.1<=9223372036854775807
end
def lkB (kk:KK)(z:IV)(ok:Bool)(b:Option aP)(k:TV):Option TV :=
 match rT k with
 | some k =>
  if !(mV kk k)then none else
  match(match b with|some (.mp es _)=>findKey kk k es 0|_=>none)with
  | some (some (_,x))=>some (if ok then .tup [x,.iv (.bool true)]else x)
  | some none=>some (if ok then .tup [.iv z,.iv (.bool false)]else .iv z)
  | none=>none
 | none=>none
theorem aQ8 (kk:KK)(z:IV)(ok:Bool)(S:aA)(j:Nat)(k:TV):lkV kk z ok S (.map j) k=lkB kk z ok (S[j]?) k:=by
 simp only[lkV,lkB,qI]
 cases rT k with
 | none=>rfl
 | some k =>
  simp only
  cases S[j]? with
  | none=>rfl
  | some b=>cases b<;>rfl
def upB (kk:KK)(env:Env)(S:aA)(j:Nat)(b:Option aP)(k x:TV):Option (TV×Env×aA) :=
 match rT k with
 | some k=>if !(mV kk k)then none else match b with
  | some (.mp es clock)=>if eE x then none else match findKey kk k es 0 with
   | some (some (n,_))=>if !(((es[n]?).map fun y=>nA y.2.1 k).getD false)then none else some (undef,env,S.set j (.mp (es.modify n fun y=>(y.1,k,x)) clock))
   | some none=>some (undef,env,S.set j (.mp (es++[(clock,k,x)]) (clock+1)))
   | none=>none
  | _=>none
 | _=>none
theorem bGd (kk:KK)(env:Env)(S:aA)(j:Nat)(k x:TV):upV kk env S (.map j) k x=upB kk env S j (S[j]?) k x:=by
 simp only[upV,upB]
 cases rT k<;>rfl
attribute [go_sem] aQ8 bGd
theorem bJ2 {α:Type}(f:α->TV)(l:List (Nat×Int×α))(c:Nat)(z:IV)(ok:Bool)(k:Int):
  lkB (.leaf .int) z ok (some (.mp (mpR f l) c)) (.iv (.int .i64 k))=some (match pE l k with|some a=>(if ok then .tup [f a,.iv (.bool true)]else f a)|none=>(if ok then .tup [.iv z,.iv (.bool false)]else .iv z)):=by
 have h:(([.mp (mpR f l) c]:aA))[0]? = some (.mp (mpR f l) c):=rfl
 rw[<-h,<-aQ8]
 exact bJ1 h z ok k
theorem bJ3 {α:Type}(f:α->TV)(l:List (Nat×Int×α))(c:Nat)(env:Env)(S:aA)(j:Nat)(k:Int){x:TV}(a:α)(hx:x=f a)(hl:eE x=false):
  upB (.leaf .int) env S j (some (.mp (mpR f l) c)) (.iv (.int .i64 k)) x=some (undef,env,S.set j (.mp (mpR f (rF l c k a)) (aEf l c k))):=by
 simp only[upB,rT,rS,mV,Bool.not_true,Bool.false_eq_true,↓reduceIte,hl]
 cases hh:xH l k with
 | false =>
  rw[aH8 f hh]
  simp only[aQ6 hh,aEf,hh,Bool.false_eq_true,↓reduceIte,mpR,List.map_append,List.map_cons,List.map_nil,hx]
 | true =>
  obtain⟨n,v,h1,h2,h3,h4⟩:=aQ7 f a c k l 0 hh
  rw[Nat.sub_zero]at h3 h4
  rw[h1]
  simp only[h3,Bool.not_true,Bool.false_eq_true,↓reduceIte,hx,h4,aEf,hh]
def oC (n:Int):TV:=.iv (.agg [.int .i64 n])
def xI (l:List (Nat×Int×Int))(k:Int):Int:=(pE l k).getD 0
theorem bGe (l:List (Nat×Int×Int))(c:Nat)(k:Int):lkB (.leaf .int) (.agg [.int .i64 0]) false (some (.mp (mpR oC l) c)) (.iv (.int .i64 k))=some (.iv (.agg [.int .i64 (xI l k)])):=by
 rw[bJ2]
 simp only[xI,Bool.false_eq_true,↓reduceIte]
 cases pE l k<;>rfl
theorem bGf (l:List (Nat×Int×Int))(c:Nat)(env:Env)(S:aA)(j:Nat)(k a:Int):upB (.leaf .int) env S j (some (.mp (mpR oC l) c)) (.iv (.int .i64 k)) (.iv (.agg [.int .i64 a]))=some (undef,env,S.set j (.mp (mpR oC (rF l c k a)) (aEf l c k))) :=
 bJ3 oC l c env S j k a rfl rfl
theorem aLn (l:List (Nat×Int×Int))(c:Nat)(k a m:Int):xI (rF l c k a) m=if k=m then a else xI l m:=by
 simp only[xI,aLm];split<;>rfl
attribute [go_sem] bGe bGf
structure aJ (I:List Nat) (S S':aA):Prop where
 len:S.length<=S'.length
 get:∀i b,i∉I->S[i]? = some b->S'[i]? = some b
theorem aJ.refl (I:List Nat)(S:aA):aJ I S S:=⟨Nat.le_refl _,fun _ _ _ h=>h⟩
theorem aJ.trans {I:List Nat}{S S' S'':aA}(h:aJ I S S')(g:aJ I S' S''):aJ I S S'' :=
 ⟨Nat.le_trans h.len g.len,fun i b hi hb=>g.get i b hi (h.get i b hi hb)⟩
theorem aJ.mono {I J:List Nat}{S S':aA}(h:aJ I S S')(hs:∀i∈I,i∈J):aJ J S S':=⟨h.len,fun i b hi hb=>h.get i b (fun q=>hi (hs i q)) hb⟩
theorem aJ.app (I:List Nat)(S:aA)(l:aA):aJ I S (S++l) :=
 ⟨by simp,fun i b _ hb=>by
  have:i<S.length:=by
   rcases Nat.lt_or_ge i S.length with h|h
   ·exact h
   ·rw[List.getElem?_eq_none h]at hb;cases hb
  rw[List.getElem?_append_left this];exact hb⟩
theorem aJ.set {I:List Nat}(S:aA){j:Nat}(hj:j∈I)(b:aP):aJ I S (S.set j b) :=
 ⟨by simp,fun i b' hi hb=>by
  have:j≠i:=fun e=>hi (e▸hj)
  rw[List.getElem?_set_ne this];exact hb⟩
theorem aO {S:aA}{i:Nat}{b:aP}(h:S[i]? = some b):i<S.length:=by
 rcases Nat.lt_or_ge i S.length with h'|h'
 ·exact h'
 ·rw[List.getElem?_eq_none h']at h;cases h
theorem dG (S:aA)(b:aP):(S++[b])[S.length]? = some b:=by simp
theorem fS (S:aA)(a b:aP):(S++[a]++[b])[S.length]? = some a:=by simp
theorem iP {S:aA}{i:Nat}{b:aP}(h:S[i]? = some b)(l:aA):(S++l)[i]? = some b:=(aJ.app [] S l).get i b (by simp) h
theorem bQ {S:aA}{i:Nat}(h:i<S.length)(b:aP):(S.set i b)[i]? = some b:=by simp[h]
theorem aU {S:aA}{i j:Nat}(h:i≠j)(b:aP):(S.set i b)[j]? = S[j]? := List.getElem?_set_ne h
theorem aH9 {α:Type}{cs:List α}{n:Nat}(h:cs.length=n):sub cs 0 n=some cs:=by subst h;simp[sub]
end Go.TM
namespace Go.TM
end Go.TM
namespace Go.TM
section
variable (K:bV)(O:Orc)(i:Nat)(k:Kt)(M:List (Nat×TV))(n:Nat)(fs:List Fr)(env:Env)(S:aA)
def bJ4 (len es:Nat)(ag:Bool)(x y:TV):Option TV:=match gU y with
 | some n=>if 0<=n∧n<len then match fQ x with
   | some all=>match sub all (n.toNat*es) es with
    | some cs=>fU ag cs
    | none=>none
   | none=>none
  else none
 | none=>none
theorem aLo (len es:Nat)(ag:Bool)(x y:aE):eW K O (.indexA len es ag x y) i k M n fs env S=lK K O (bJ4 len es ag (cM K n env M x) (cM K n env M y)) i k M n fs env S:=by
 unfold eW lK cM
 exact gR K O i k M n fs env S (id rfl)
theorem bB7 (len es:Nat)(ag:Bool)(cs:List IV)(kd:IntKind)(m:Int):bJ4 len es ag (.iv (.agg cs)) (.iv (.int kd m))=if 0<=m∧m<len then mW ag (sub (cs.map .iv) (m.toNat*es) es)else none:=by
 simp only[bJ4,gU,fQ]
 split
 ·cases sub (cs.map TV.iv) (m.toNat*es) es<;>rfl
 ·rfl
end
attribute [go_sem] aLo bB7
end Go.TM
namespace Go.TM
section
variable (K:bV)(O:Orc)(i:Nat)(k:Kt)(M:List (Nat×TV))(n:Nat)(fs:List Fr)(env:Env)(S:aA)
end
def left {α:Type}(l:List (Nat×Int×α))(seen:List Nat):Nat:=(l.filter fun x=>!seen.contains x.1).length
section
variable {K:bV}{O:Orc}{i:Nat}{k:Kt}{M:List (Nat×TV)}{n:Nat}{fs:List Fr}{env:Env}{S:aA}{cb:aQ}
end
section
variable {K:bV}{O:Orc}{i:Nat}{k:Kt}{M:List (Nat×TV)}{n:Nat}{fs:List Fr}{env:Env}{S:aA}{cb:aQ}{rs:List nT}
end
theorem bLw (env:Env)(S:aA)(x y:IV):bL env S (.iv (.cp [x,y])) 2=some [.iv x,.iv y]:=id rfl
attribute [go_sem] bLw
end Go.TM
namespace Go.TM
def grV (es bytes el:Nat)(env:Env)(S:aA)(x n:TV):Option (TV×Env×aA):=match gU n with
 | some n=>match vA es bytes el S x n with
  | some (x,S)=>some (x,env,S)
  | none=>none
 | none=>none
theorem aVg (K:bV)(O:Orc)(i:Nat)(k:Kt)(M:List (Nat×TV))(n:Nat)(fs:List Fr)(env:Env)(S:aA)(es bytes el:Nat)(x y:aE):eW K O (.grow es bytes el x y) i k M n fs env S=aEa K O (grV es bytes el env S (cM K n env M x) (cM K n env M y)) i k M n fs:=by
 unfold eW aEa cM
 exact qU K O i k M n fs env S rfl (by simp)
theorem bJ5 {es bytes el:Nat}{env:Env}{S S':aA}{x y:TV}{n:Int}(h:vA es bytes el S x n=some (y,S')):grV es bytes el env S x (.iv (.int .i64 n))=some (y,env,S'):=by
 simp only[grV,gU,h]
attribute [go_sem] aVg
end Go.TM
