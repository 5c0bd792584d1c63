/- A part of the evaluator TM, and of the proof that what it computes the model does. Condition: none. -/
import Derived.Test.YtjbpbohpmfpoiaaGreatDoorTmD
set_option linter.unusedVariables false
set_option linter.unusedSimpArgs false
set_option maxRecDepth 100000
namespace Go.TM
section
variable (K:bG)(O:Orc)(i:Nat)(k:Kt)(M:List (Nat×TV))(n:Nat)(fs:List Fr)(env:Env)(S:aA)
theorem fW {o:TOp}(h:bT o=0):op1 K O o i k M n fs env S=opV K O (aQ o (opv K n env M)) i k M n fs env S:=by
 have e:(fun x=>aX K env (cP M n) x)=opv K n env M:=rfl
 simp only[op1,ec0 K O env _ S o h]
 show er ((Out.need _ (aQ o (opv K n env M)) _).bind _)=_
 cases aQ o (opv K n env M) with
 | some v=>simp only[Out.need,Out.bind,opV]; cases k<;>simp only[fV,rgR,fls,chk,qF]<;>(try split)<;>simp only[qF,er]
 | none=>rfl
theorem jK:er (fV K O k M n fs env S)=fV K O k M n fs env S:=by
 cases k<;>simp only[fV,rgR,fls,chk,qF]<;>(try split)<;>simp only[qF,er]
theorem uE {o:TOp}(h:bT o=1):op1 K O o i k M n fs env S=opV K O (aK o (opv K n env M) env S) i k M n fs env S:=by
 simp only[op1,ec1 K O env _ S o h]
 show er ((Out.need _ (aK o (opv K n env M) env S) _).bind _)=_
 cases aK o (opv K n env M) env S with
 | some v=>simp only[Out.need,Out.bind,opV,jK]
 | none=>rfl
theorem aDn {o:TOp}(h:bT o=2):op1 K O o i k M n fs env S=opA K O (bK o (opv K n env M) S.length) i k M n fs env S:=by
 simp only[op1,jT K O env _ S o (by omega)]
 have p:∀e,aQ o e=none:=by intro e; cases o<;>first|rfl|simp[bT]at h
 have r:∀e,aK o e env S=none:=by intro e; cases o<;>first|rfl|simp[bT]at h
 have s:∀e rs,fB o e rs env S=none:=by intro e rs; cases o<;>first|rfl|simp[bT]at h
 simp only[gH,fZ,p,r,s]
 show er ((Out.ofOpt _ (match bK o (opv K n env M) S.length with|some (v,b)=>some (v,env,S++[b])|none=>none)).bind _)=_
 cases bK o (opv K n env M) S.length with
 | some v=>simp only[Out.ofOpt,Out.bind,opA,jK]
 | none=>rfl
theorem oT {o:TOp}(h:bT o=3)(hb:o≠.bad):op1 K O o i k M n fs env S=opE K O (fB o (opv K n env M) (cP M n) env S) i k M n fs:=by
 simp only[op1,jT K O env _ S o (by omega)]
 have p:∀e,aQ o e=none:=by intro e; cases o<;>first|rfl|simp[bT]at h
 have r:∀e,aK o e env S=none:=by intro e; cases o<;>first|rfl|simp[bT]at h
 have s:∀e n,bK o e n=none:=by intro e n; cases o<;>first|rfl|simp[bT]at h
 simp only[gH,fZ,p,r,s]
 show er ((Out.ofOpt _ (fB o (opv K n env M) (cP M n) env S)).bind _)=_
 cases fB o (opv K n env M) (cP M n) env S with
 | some v=>simp only[Out.ofOpt,Out.bind,opE,jK]
 | none=>rfl
def xtr (j:Nat):TV→Option TV
 | .tup vs=>vs[j]?
 | _=>none
theorem aZy (j:Nat)(vs:List TV):xtr j (.tup vs)=vs[j]? := id rfl
def aZz (v:TV):Option TV:=if uL v then some v else none
theorem aUc (a b c:Nat):aZz (.ptr a b c)=some (.ptr a b c):=id rfl
def ivO (x:Option IV):Option TV:=x.map .iv
theorem aUd (x:IV):ivO (some x)=some (.iv x):=id rfl
def eqV (neg:Bool)(x:Option Bool):Option TV:=x.map fun b=>.iv (.bool (if neg then !b else b))
theorem bF4 (x:Bool):eqV false (some x)=some (.iv (.bool x)):=id rfl
theorem bF5 (x:Bool):eqV true (some x)=some (.iv (.bool (!x))):=id rfl
def bD6 (x:Option Nat):Option TV:=x.map fun (m:Nat)=>.iv (.int .i64 m)
def mI (ag:Bool)(x:Option (List TV)):Option TV:=match x with
 | some cs=>eZ ag cs
 | none=>none
theorem aJd (ag:Bool)(l:List TV):mI ag (some l)=eZ ag l:=id rfl
theorem aJe (v:TV):eZ false [v]=some v:=id rfl
theorem aJf (l:List TV):eZ true l=some (nJ l):=id rfl
def aZ0 (off n:Nat)(x:Option (List TV)):Option (List TV):=match x with
 | some all=>sub all off n
 | none=>none
def ixS (es:Nat)(x i:TV):Option TV:=match fN i with
 | some n=>indexAddrS es x n
 | none=>none
theorem aZ1 (es:Nat)(x:TV)(kd:IntKind)(m:Int):ixS es x (.iv (.int kd m))=indexAddrS es x m:=id rfl
def ixA (len es:Nat)(x i:TV):Option TV:=match fN i with
 | some n=>if 0≤n∧n<len then dJ x (n.toNat*es) else none
 | none=>none
theorem aMg (len es:Nat)(x:TV)(kd:IntKind)(m:Int):ixA len es x (.iv (.int kd m))=if 0≤m∧m<len then dJ x (m.toNat*es) else none:=id rfl
def vN (x i:TV):Option TV:=match x,fN i with
 | .iv (.str s),some n=>if 0≤n then (s[n.toNat]?).map fun b=>.iv (.int .u8 b.toNat) else none
 | _,_=>none
theorem aB2 (s:List UInt8)(kd:IntKind)(m:Int):vN (.iv (.str s)) (.iv (.int kd m))=if 0≤m then (s[m.toNat]?).map fun b=>.iv (.int .u8 b.toNat) else none:=id rfl
def oI:Option TV→Option (Option Int)
 | none=>some none
 | some x=>(fN x).map some
theorem aZ2:oI none=some none:=id rfl
theorem aZ3 (kd:IntKind)(m:Int):oI (some (.iv (.int kd m)))=some (some m):=id rfl
def slV (S:aA)(sk:SK)(x:TV)(lo hi mx:Option (Option Int)):Option TV:=match lo,hi,mx with
 | some lo,some hi,some mx=>cZ S sk x lo hi mx
 | _,_,_=>none
theorem aUe (sk:SK)(x:TV)(lo hi mx:Option Int):slV S sk x (some lo) (some hi) (some mx)=cZ S sk x lo hi mx:=id rfl
def aGk (kd:NK)(S:aA)(v:TV):Option TV:=if aCt v=kd then bD6 (lenOf S v) else none
theorem aUf (s:List UInt8):aGk .str S (.iv (.str s))=some (.iv (.int .i64 s.length)):=id rfl
theorem aZ4 (t:Tag)(l:List (List IV)):aGk .sl S (.iv (.sl t l))=some (.iv (.int .i64 l.length)):=id rfl
def bsV (x:Option (List (List IV))):Option TV:=match x with
 | some l=>(gT l).map fun b=>.iv (.str b)
 | none=>none
theorem aUg (l:List (List IV)):bsV (some l)=(gT l).map fun b=>.iv (.str b):=id rfl
theorem jZ:∀(l:List UInt8),gT (aF l)=some l
 | []=>rfl
 | b::l=>by
  have h:=jZ l
  simp only[aF,List.map_cons,gT,aIi]at h ⊢
  rw[h]
  simp
def mkV (z:List IV)(bytes m:Nat)(l c:TV):Option (TV×aW):=match fN l,fN c with
 | some l,some c =>
  if 0≤l∧l≤c∧fF c.toNat bytes=true then
   some (.msl m 0 0 l.toNat c.toNat z.length,.cells 0 false (bM (List.replicate c.toNat (z.map .iv))))
  else none
 | _,_=>none
theorem aZ5 (z:List IV)(bytes m:Nat)(k1 k2:IntKind)(l c:Int)(h:0≤l∧l≤c∧fF c.toNat bytes=true):mkV z bytes m (.iv (.int k1 l)) (.iv (.int k2 c))=some (.msl m 0 0 l.toNat c.toNat z.length,.cells 0 false (bM (List.replicate c.toNat (z.map .iv)))):=by
 simp only[mkV,fN,h,and_self,↓reduceIte]
def aUh (x:Option (List (List TV))):Option TV:=match x with
 | some es=>(gV es).map fun l=>.iv (.sl .full l)
 | none=>none
def aDo (m w:Nat)(x:Option (List (List TV))):Option (TV×aW):=match x with
 | some es=>some (.msl m 0 0 es.length es.length w,.cells 0 false (bM es))
 | none=>none
theorem aN1 (m w:Nat)(es:List (List TV)):aDo m w (some es)=some (.msl m 0 0 es.length es.length w,.cells 0 false (bM es)):=id rfl
def mmV (mx:Bool)(l:List TV):Option TV:=match l with
 | .iv a::r=>(minmax mx a r).map .iv
 | _=>none
def uF (w:Nat)(env:Env)(S:aA)(a v:TV):Option (TV×Env×aA) :=
 if (cellsOf v).length=w then match setCells env S a (cellsOf v) with
   | some (env,S)=>some (undef,env,S)
   | none=>none
  else none
def zH (x:Option (Env×aA)):Option (TV×Env×aA):=match x with
 | some (env,S)=>some (undef,env,S)
 | none=>none
theorem aGl:zH (some (env,S))=some (undef,env,S):=id rfl
theorem bD7 {α:Type}{p:Prop}[Decidable p]{x y z:Out α}(h:p→x=z)(g:¬p→y=z):br (decide p) x y=z:=by
 by_cases hp:p
 ·simp only[hp,decide_true,pI]; exact h hp
 ·simp only[hp,decide_false,mH]; exact g hp
theorem bD8 {α:Type}{a b:Int}{x y z:Out α}(h:a=b→x=z)(g:a≠b→y=z):br (a==b) x y=z:=by
 by_cases hp:a=b
 ·simp only[hp,beq_self_eq_true,pI]; exact h hp
 ·simp only[beq_eq_false_iff_ne.2 hp,mH]; exact g hp
theorem bD9 {α:Type}{a b:Int}{x y z:Out α}(h:a≠b→x=z)(g:a=b→y=z):br (a != b) x y=z:=by
 by_cases hp:a=b
 ·simp only[hp,bne_self_eq_false,mH]; exact g hp
 ·simp only[bne_iff_ne.2 hp,pI]; exact h hp
theorem aN2 (w:Nat)(a v:TV)(h:(cellsOf v).length=w):uF w env S a v=zH (setCells env S a (cellsOf v)):=by
 simp only[uF,h,↓reduceIte,zH]
def bHb (env:Env)(x:Option (TV×aA)):Option (TV×Env×aA):=match x with
 | some (v,S)=>some (v,env,S)
 | none=>none
theorem aGm (x:Option (TV×aA)):opE K O (bHb env x) i k M n fs=opS K O x i k M n fs env:=by
 cases x<;>rfl
def aMh (f:Nat)(a b:List TV):Option TV:=if (a++b).any dK then none else some (.fn f a b)
def aUi (env:Env)(S:aA)(v:TV):Option (TV×Env×aA):=match v with
  | .it j=>match S[j]? with
   | some (.sit s pos) =>
    if pos<s.length then
     let (c,width):=Utf8.decode ⟨s.toArray⟩ pos
     some (.tup [.iv (.bool true),.iv (.int .i64 pos),.iv (.int .i32 c)],env,S.set j (.sit s (pos+width)))
    else some (.tup [.iv (.bool false)],env,S)
   | _=>none
  | _=>none
def aJg (str:Bool)(env:Env)(S:aA)(v:TV):Option (TV×Env×aA):=match str,v with
  | true,.iv (.str s)=>some (.it S.length,env,S++[.sit s 0])
  | false,.iv .nilm=>some (.it S.length,env,S++[.mit none 0 [] 0])
  | false,.map j=>match S[j]? with
   | some (.mp _ clock)=>some (.it S.length,env,S++[.mit (some j) clock [] clock])
   | _=>none
  | _,_=>none
theorem aJh (s:List UInt8):aJg true env S (.iv (.str s))=some (.it S.length,env,S++[.sit s 0]):=id rfl
theorem aZ6 (x:aC):op1 K O (.mov x) i k M n fs env S=opV K O (some (opv K n env M x)) i k M n fs env S:=fW K O i k M n fs env S (id rfl)
theorem aUj (c a b:aC):op1 K O (.pick c a b) i k M n fs env S=opP K O (opv K n env M c) (opv K n env M a) (opv K n env M b) i k M n fs env S:=by
 rw[fW K O i k M n fs env S rfl]
 simp only[aQ,opP]
 cases opv K n env M c with
 | iv v =>
  cases v with
  | bool t=>cases t<;>rfl
  | _=>rfl
 | _=>rfl
theorem aN3 (z:List IV)(ps:List (Nat×Nat×aC)):op1 K O (.build z ps) i k M n fs env S=opV K O ((fill (z.map .iv) (opv K n env M) ps).map nJ) i k M n fs env S:=fW K O i k M n fs env S (id rfl)
theorem aDp (x:aC):op1 K O (.nilCheck x) i k M n fs env S=opV K O (aZz (opv K n env M x)) i k M n fs env S:=fW K O i k M n fs env S (id rfl)
theorem aZ7 (op:BinOp)(x y:aC):op1 K O (.bin op x y) i k M n fs env S=opV K O (ivO (binOp op (opv K n env M x) (opv K n env M y))) i k M n fs env S:=fW K O i k M n fs env S (id rfl)
theorem aZ8 (neg:Bool)(ek:EK)(x y:aC):op1 K O (.eqB neg ek x y) i k M n fs env S=opV K O (eqV neg (eqB ek (opv K n env M x) (opv K n env M y))) i k M n fs env S:=fW K O i k M n fs env S (id rfl)
theorem bE6 (neg:Bool)(offs:List (Nat×LK))(x y:aC):op1 K O (.eqAgg neg offs x y) i k M n fs env S=opV K O (ivO (eqAgg neg offs (opv K n env M x) (opv K n env M y))) i k M n fs env S:=fW K O i k M n fs env S (id rfl)
theorem bEa (op:UnOp)(x:aC):op1 K O (.un op x) i k M n fs env S=opV K O (ivO (unOp op (opv K n env M x))) i k M n fs env S:=fW K O i k M n fs env S (id rfl)
theorem aUk (f:Nat)(a b:List aC):op1 K O (.mkFn f a b) i k M n fs env S=opV K O (aMh f (a.map (opv K n env M)) (b.map (opv K n env M))) i k M n fs env S:=fW K O i k M n fs env S (id rfl)
theorem aAq (off:Nat)(x:aC):op1 K O (.fieldAddr off x) i k M n fs env S=opV K O (dJ (opv K n env M x) off) i k M n fs env S:=fW K O i k M n fs env S (id rfl)
theorem bE7 (off w:Nat)(ag:Bool)(x:aC):op1 K O (.field off w ag x) i k M n fs env S=opV K O (mI ag (aZ0 off w (gK (opv K n env M x)))) i k M n fs env S:=by
 rw[fW K O i k M n fs env S rfl]
 simp only[aQ]
 cases gK (opv K n env M x) with
 | none=>rfl
 | some l=>simp only[aZ0,mI]; cases sub l off w<;>rfl
theorem zI (es:Nat)(x y:aC):op1 K O (.indexAddrS es x y) i k M n fs env S=opV K O (ixS es (opv K n env M x) (opv K n env M y)) i k M n fs env S:=fW K O i k M n fs env S (id rfl)
theorem zJ (len es:Nat)(x y:aC):op1 K O (.indexAddrA len es x y) i k M n fs env S=opV K O (ixA len es (opv K n env M x) (opv K n env M y)) i k M n fs env S:=fW K O i k M n fs env S (id rfl)
theorem aJi (x y:aC):op1 K O (.indexS x y) i k M n fs env S=opV K O (vN (opv K n env M x) (opv K n env M y)) i k M n fs env S:=fW K O i k M n fs env S (id rfl)
theorem aGn (j:Nat)(x:aC):op1 K O (.extract j x) i k M n fs env S=opV K O (xtr j (opv K n env M x)) i k M n fs env S:=fW K O i k M n fs env S (id rfl)
theorem bGv (x:aC):op1 K O (.cap x) i k M n fs env S=opV K O (bD6 (aFd (opv K n env M x))) i k M n fs env S:=fW K O i k M n fs env S (id rfl)
theorem bF6 (m:Nat):op1 K O (.lenC m) i k M n fs env S=opV K O (some (.iv (.int .i64 m))) i k M n fs env S:=fW K O i k M n fs env S (id rfl)
theorem bEb (mx:Bool)(xs:List aC):op1 K O (.minmax mx xs) i k M n fs env S=opV K O (mmV mx (xs.map (opv K n env M))) i k M n fs env S:=fW K O i k M n fs env S (id rfl)
theorem aN4 (a:aC):op1 K O (.load1 a) i k M n fs env S=opV K O (mI false (bH env S (opv K n env M a) 1)) i k M n fs env S:=uE K O i k M n fs env S (id rfl)
theorem aN5 (w:Nat)(a:aC):op1 K O (.loadN w a) i k M n fs env S=opV K O (mI true (bH env S (opv K n env M a) w)) i k M n fs env S:=uE K O i k M n fs env S (id rfl)
theorem aN6 (sk:SK)(x:aC)(lo hi mx:Option aC):op1 K O (.slice sk x lo hi mx) i k M n fs env S=opV K O (slV S sk (opv K n env M x) (oI (lo.map (opv K n env M))) (oI (hi.map (opv K n env M))) (oI (mx.map (opv K n env M)))) i k M n fs env S:=by
 rw[uE K O i k M n fs env S rfl]
 simp only[aK,slV]
 cases lo<;>cases hi<;>cases mx<;>rfl
theorem aJj (kk:KK)(z:IV)(ok:Bool)(m y:aC):op1 K O (.lookup kk z ok m y) i k M n fs env S=opV K O (aK (.lookup kk z ok m y) (opv K n env M) env S) i k M n fs env S:=uE K O i k M n fs env S (id rfl)
theorem bEc (x:aC):op1 K O (.entryM x) i k M n fs env S=opV K O (aK (.entryM x) (opv K n env M) env S) i k M n fs env S:=uE K O i k M n fs env S (id rfl)
theorem aZ9 (nk:NK)(x:aC):op1 K O (.len nk x) i k M n fs env S=opV K O (aGk nk S (opv K n env M x)) i k M n fs env S:=uE K O i k M n fs env S (id rfl)
theorem sY (c:CK)(hc:c≠.bytesStr)(x:aC):op1 K O (.conv c x) i k M n fs env S=opV K O (ivO (cH c (opv K n env M x))) i k M n fs env S:=by
 simp only[op1,ec4]
 show er ((Out.need _ (match (cH c (opv K n env M x)).map TV.iv with|some v=>some v|none=>aK (.conv c x) (opv K n env M) env S) _).bind _)=_
 cases h:cH c (opv K n env M x) with
 | some v=>simp only[Option.map,Out.need,Out.bind,ivO,opV,jK]
 | none =>
  have:aK (.conv c x) (opv K n env M) env S=none:=by cases c<;>first|rfl|exact absurd rfl hc
  simp only[this,Option.map,Out.need,Out.bind,ivO,opV,er]
theorem aN7 (kd:IntKind)(x:aC):op1 K O (.conv (.toInt kd) x) i k M n fs env S=opV K O (ivO (cH (.toInt kd) (opv K n env M x))) i k M n fs env S:=sY K O i k M n fs env S _ (by simp) x
theorem bEd (x:aC):op1 K O (.conv .intStr x) i k M n fs env S=opV K O (ivO (cH .intStr (opv K n env M x))) i k M n fs env S:=sY K O i k M n fs env S _ (by simp) x
theorem bEe (x:aC):op1 K O (.conv .strStr x) i k M n fs env S=opV K O (ivO (cH .strStr (opv K n env M x))) i k M n fs env S:=sY K O i k M n fs env S _ (by simp) x
theorem aDq (x:aC):op1 K O (.conv .strBytes x) i k M n fs env S=opV K O (ivO (cH .strBytes (opv K n env M x))) i k M n fs env S:=sY K O i k M n fs env S _ (by simp) x
theorem aDr (x:aC):op1 K O (.conv .bytesStr x) i k M n fs env S=opV K O (bsV (fH S (opv K n env M x))) i k M n fs env S:=by
 simp only[op1,ec4]
 have hc:cH .bytesStr (aX K env (cP M n) x)=none:=by
  unfold cH
  cases aX K env (cP M n) x with
  | iv v=>cases v<;>rfl
  | _=>rfl
 simp only[hc,Option.map]
 show er ((Out.need _ (bsV (fH S (opv K n env M x))) _).bind _)=_
 cases bsV (fH S (opv K n env M x)) with
 | some v=>simp only[Out.need,Out.bind,opV,jK]
 | none=>rfl
def aGo (w:Nat)(x:Option (List (List IV)))(es:Option (List (List TV)))(i:Nat)(k:Kt)(M:List (Nat×TV))(n:Nat)(fs:List Fr)(env:Env)(S:aA):Out (bF×Env×aA) :=
 match x with
 | some l=>opV K O (some (.iv (.sl .full l))) i k M n fs env S
 | none=>opA K O (aDo S.length w es) i k M n fs env S
@[congr] theorem litQ_congr (w:Nat) {x x':Option (List (List IV))} (h:x=x') {es es':Option (List (List TV))} (h2:es=es'):aGo K O w x es i k M n fs env S=aGo K O w x' es' i k M n fs env S:=by rw[h,h2]
theorem aN8 (w:Nat)(l:List (List IV))(es:Option (List (List TV))):aGo K O w (some l) es i k M n fs env S=fV K O k ((i,.iv (.sl .full l))::M) n fs env S:=id rfl
theorem bE8 (w:Nat)(es:Option (List (List TV))):aGo K O w none es i k M n fs env S=opA K O (aDo S.length w es) i k M n fs env S:=id rfl
def bAa (x:Option (List (List TV))):Option (List (List IV)):=match x with
 | some es=>gV es
 | none=>none
theorem aN9 (l:List (List TV)):bAa (some l)=gV l:=id rfl
theorem bAb (z:List IV)(len:Nat)(ps:List (Nat×aC)):op1 K O (.lit false z len ps) i k M n fs env S=aGo K O z.length (bAa (dG (List.replicate len (z.map .iv)) z.length (opv K n env M) ps)) (dG (List.replicate len (z.map .iv)) z.length (opv K n env M) ps) i k M n fs env S:=by
 simp only[op1,jT K O env _ S _ (show bT (.lit false z len ps)≠5 by simp[bT])]
 have p:aQ (.lit false z len ps) (aX K env (cP M n))=aUh (dG (List.replicate len (z.map .iv)) z.length (opv K n env M) ps):=rfl
 have r:aK (.lit false z len ps) (aX K env (cP M n)) env S=none:=rfl
 have a:bK (.lit false z len ps) (aX K env (cP M n)) S.length=aDo S.length z.length (dG (List.replicate len (z.map .iv)) z.length (opv K n env M) ps):=rfl
 have s:fB (.lit false z len ps) (aX K env (cP M n)) (cP M n) env S=none:=rfl
 simp only[gH,fZ,p,r,a,s]
 cases dG (List.replicate len (z.map .iv)) z.length (opv K n env M) ps with
 | none=>rfl
 | some es =>
  simp only[aUh,bAa]
  cases gV es with
  | some l=>simp only[Option.map,Out.ofOpt,Out.bind,aGo,opV,jK]
  | none=>simp only[Option.map,Out.ofOpt,Out.bind,aGo,aDo,opA,jK]
theorem aUl (z:List IV)(len:Nat)(ps:List (Nat×aC)):op1 K O (.lit true z len ps) i k M n fs env S=opA K O (aDo S.length z.length (dG (List.replicate len (z.map .iv)) z.length (opv K n env M) ps)) i k M n fs env S:=by
 simp only[op1,jT K O env _ S _ (show bT (.lit true z len ps)≠5 by simp[bT])]
 have p:aQ (.lit true z len ps) (aX K env (cP M n))=none:=rfl
 have r:aK (.lit true z len ps) (aX K env (cP M n)) env S=none:=rfl
 have a:bK (.lit true z len ps) (aX K env (cP M n)) S.length=aDo S.length z.length (dG (List.replicate len (z.map .iv)) z.length (opv K n env M) ps):=rfl
 have s:fB (.lit true z len ps) (aX K env (cP M n)) (cP M n) env S=none:=rfl
 simp only[gH,fZ,p,r,a,s]
 cases aDo S.length z.length (dG (List.replicate len (z.map .iv)) z.length (opv K n env M) ps) with
 | some v=>simp only[Out.ofOpt,Out.bind,opA,jK]
 | none=>rfl
theorem aJk (t:Nat)(z:List IV):op1 K O (.allocH t z) i k M n fs env S=opS K O (some (.ptr S.length t 0,S++[.cells t false (z.map .iv)])) i k M n fs env:=aDn K O i k M n fs env S (id rfl)
theorem aOa:op1 K O .mkMap i k M n fs env S=opS K O (some (.map S.length,S++[.mp [] 0])) i k M n fs env:=aDn K O i k M n fs env S (id rfl)
theorem aGp (z:List IV)(bytes:Nat)(l c:aC):op1 K O (.mkSlice z bytes l c) i k M n fs env S=opA K O (mkV z bytes S.length (opv K n env M l) (opv K n env M c)) i k M n fs env S:=aDn K O i k M n fs env S (id rfl)
def bEf (t m:Nat)(v:TV):Option (TV×aW):=if (cellsOf v).any bL then none else some (.ptr m t 0,.cells t false (cellsOf v))
theorem aUm (t:Nat)(x:aC):op1 K O (.boxH t x) i k M n fs env S=opA K O (bEf t S.length (opv K n env M x)) i k M n fs env S:=aDn K O i k M n fs env S (id rfl)
def aGq (j:Nat):List (Nat×TV)→Bool
 | []=>true
 | (_,v)::M=>!(pO j v)&&aGq j M
theorem aGr {j:Nat}:∀ {M:List (Nat×TV)},aGq j M=true→∀m,pO j (reg M m)=false
 | [],_,m=>rfl
 | (a,v)::M,h,m=>by
  simp only[aGq,Bool.and_eq_true,Bool.not_eq_true']at h
  simp only[reg]
  split
  ·exact h.1
  ·exact aGr h.2 m
theorem aB3 {j:Nat}{M:List (Nat×TV)}(h:aGq j M=true):(cP M n).any (pO j)=false:=by
 rw[List.any_eq_false]
 intro x hx
 simp only[cP,List.mem_map]at hx
 obtain⟨m,_,rfl⟩:=hx
 simp[aGr h m]
def alB (c:Bool)(x y:Out (bF×Env×aA)):Out (bF×Env×aA):=bif c then x else y
@[congr] theorem alB_congr {c c':Bool} (h:c=c') (x y:Out (bF×Env×aA)):alB c x y=alB c' x y:=by rw[h]
theorem zK (x y:Out (bF×Env×aA)):alB true x y=x:=id rfl
theorem aGs (j:Nat)(z:List IV)(h:aGq j M=true)(hj:j<env.length):op1 K O (.allocL j z) i k M n fs env S=opE K O (some (.lp j 0,env.set j (.lb (z.map .iv)),S)) i k M n fs:=by
 rw[oT K O i k M n fs env S (id rfl) (by simp)]
 simp only[fB,aB3 n h,hj,decide_true,Bool.not_true,Bool.or_self,Bool.false_eq_true,↓reduceIte]
theorem aOb (j:Nat)(x:aC)(h:aGq j M=true)(hj:j<env.length):op1 K O (.boxL j x) i k M n fs env S=opE K O (if (cellsOf (opv K n env M x)).any bL then none else some (.lp j 0,env.set j (.lb (cellsOf (opv K n env M x))),S)) i k M n fs:=by
 rw[oT K O i k M n fs env S (id rfl) (by simp)]
 simp only[fB,aB3 n h,hj,decide_true,Bool.not_true,Bool.or_false]
def okL (j:Nat)(M:List (Nat×TV))(env:Env):Bool:=aGq j M&&decide (j<env.length)
theorem aJl (j:Nat)(z:List IV):op1 K O (.allocL j z) i k M n fs env S=alB (okL j M env) (opE K O (some (.lp j 0,env.set j (.lb (z.map .iv)),S)) i k M n fs) (op1 K O (.allocL j z) i k M n fs env S):=by
 cases h:okL j M env with
 | false=>rfl
 | true =>
  simp only[okL,Bool.and_eq_true,decide_eq_true_eq]at h
  rw[zK,aGs K O i k M n fs env S j z h.1 h.2]
theorem aUn (j:Nat)(x:aC):op1 K O (.boxL j x) i k M n fs env S=alB (okL j M env) (opE K O (if (cellsOf (opv K n env M x)).any bL then none else some (.lp j 0,env.set j (.lb (cellsOf (opv K n env M x))),S)) i k M n fs) (op1 K O (.boxL j x) i k M n fs env S):=by
 cases h:okL j M env with
 | false=>rfl
 | true =>
  simp only[okL,Bool.and_eq_true,decide_eq_true_eq]at h
  rw[zK,aOb K O i k M n fs env S j x h.1 h.2]
theorem aOc (w:Nat)(a v:aC):op1 K O (.store w a v) i k M n fs env S=opE K O (uF w env S (opv K n env M a) (opv K n env M v)) i k M n fs:=oT K O i k M n fs env S rfl (by simp)
theorem aJm (kk:KK)(m y x:aC):op1 K O (.update kk m y x) i k M n fs env S=opE K O (fB (.update kk m y x) (opv K n env M) (cP M n) env S) i k M n fs:=oT K O i k M n fs env S rfl (by simp)
theorem aOd (str:Bool)(x:aC):op1 K O (.range str x) i k M n fs env S=opE K O (aJg str env S (opv K n env M x)) i k M n fs:=oT K O i k M n fs env S rfl (by simp)
theorem aOe (x:aC):op1 K O (.nextS x) i k M n fs env S=opE K O (aUi env S (opv K n env M x)) i k M n fs:=oT K O i k M n fs env S rfl (by simp)
theorem aJn (mu:Bool)(es bytes el:Nat)(s x:aC):op1 K O (.append mu es bytes el s x) i k M n fs env S=opS K O (bR mu es bytes el S (opv K n env M s) (opv K n env M x)) i k M n fs env:=by
 rw[oT K O i k M n fs env S rfl (by simp),←aGm]; rfl
theorem bF7 (es:Nat)(d s:aC):op1 K O (.copy es d s) i k M n fs env S=opS K O (aCv es S (opv K n env M d) (opv K n env M s)) i k M n fs env:=by
 rw[oT K O i k M n fs env S rfl (by simp),←aGm]; rfl
def cpV (S:aA)(args:List TV)(v:Option TV):Out (TV×aA) :=
 match v with
 | none => .fail ""
 | some v =>
  if args.any rR&&!(gM v) then
   match eP S args with
   | some S=>.ret (v,S)
   | none => .fail ""
  else .ret (v,S)
def cpR (S:aA)(args:List TV)(x:Out (TV×aA)):Out (TV×aA):=(er x).bind fun r=>cpV S args (resolve r.2 r.1)
def cpA (S:aA)(args:List TV)(f:Nat)(ags:Option (List TV)):Out (TV×aA) :=
 match ags with
 | none => .fail ""
 | some ags=>cpR S args (O.call f ags [])
@[congr] theorem cpV_congr (args:List TV) {v v':Option TV} (h:v=v'):cpV S args v=cpV S args v':=by rw[h]
@[congr] theorem cpR_congr (args:List TV) {v v':Out (TV×aA)} (h:v=v'):cpR S args v=cpR S args v':=by rw[h]
@[congr] theorem cpA_congr (args:List TV) (f:Nat) {v v':Option (List TV)} (h:v=v'):cpA O S args f v=cpA O S args f v':=by rw[h]
theorem aUo (args ags:List TV)(f:Nat):cpA O S args f (some ags)=cpR S args (O.call f ags []):=id rfl
theorem bAc (args:List TV)(v:TV)(S':aA):cpR S args (.ret (v,S'))=cpV S args (resolve S' v):=id rfl
def cpB (c:Bool)(S:aA)(args:List TV)(v:TV):Out (TV×aA) :=
 if c then match eP S args with
   | some S=>.ret (v,S)
   | none => .fail ""
  else .ret (v,S)
@[congr] theorem cpB_congr {c c':Bool} (h:c=c') (args:List TV) (v:TV):cpB c S args v=cpB c' S args v:=by rw[h]
theorem aUp (args:List TV)(v:TV):cpV S args (some v)=cpB (args.any rR&&!(gM v)) S args v:=id rfl
theorem aOf (args:List TV)(v:TV):cpB false S args v=.ret (v,S):=id rfl
def bEg (v:TV)(x:Option aA):Out (TV×aA):=match x with
 | some S=>.ret (v,S)
 | none => .fail ""
theorem bE9 (v:TV):bEg v (some S)=.ret (v,S):=id rfl
theorem bF8 (args:List TV)(v:TV):cpB true S args v=bEg v (eP S args):=by
 simp only[cpB,↓reduceIte,bEg]
theorem vO (f:Nat)(args:List TV):er (dZ O f args S)=cpA O S args f (dD S args):=by
 unfold dZ cpA
 cases dD S args with
 | none=>rfl
 | some ags =>
  simp only[cpR,fK]
  refine Out.bind_congr fun r=>?_
  cases resolve r.2 r.1 with
  | none=>rfl
  | some v =>
   simp only[cpV]
   split
   ·cases eP S args<;>rfl
   ·rfl
theorem zL (x:Out (TV×aA)):er (x.bind fun r=>fV K O k ((i,r.1)::M) n fs env r.2)=opC K O (er x) i k M n fs env:=by
 rw[fK]
 simp only[opC,jK]
theorem aOg (t:Bool)(f:Nat)(args:List aC):op1 K O (.call true t f args) i k M n fs env S=opC K O (cpA O S (args.map (opv K n env M)) f (dD S (args.map (opv K n env M)))) i k M n fs env:=by
 rw[←vO,←zL]
 simp only[op1,bS,Out.bind_assoc,Out.bind,↓reduceIte]
 rfl
def csR (t:Bool)(S:aA)(x:Out (TV×aA)):Out (TV×aA):=(er x).bind fun r =>
 if t then match nX S.length r.1 r.2 with
  | some S'=>.ret (r.1,S')
  | none => .fail ""
 else .ret r
def csA (t : Bool) (S : aA) (f : Nat) (lp : Bool) (args : List TV) : Out (TV × aA) := if lp then .fail "" else csR t S (O.call f args S)
@[congr] theorem csR_congr (t:Bool) {v v':Out (TV×aA)} (h:v=v'):csR t S v=csR t S v':=by rw[h]
theorem bEh (t:Bool)(f:Nat)(args:List TV):csA O t S f false args=csR t S (O.call f args S):=id rfl
theorem bF9 (v:TV)(S':aA):csR false S (.ret (v,S'))=.ret (v,S'):=id rfl
def trV (v:TV)(x:Option aA):Out (TV×aA):=match x with
 | some S'=>.ret (v,S')
 | none => .fail ""
theorem bGa (v:TV):trV v (some S)=.ret (v,S):=id rfl
theorem bH2 (v:TV)(S':aA):csR true S (.ret (v,S'))=trV v (nX S.length v S'):=by
 simp only[csR,er,Out.bind,↓reduceIte,trV]
theorem aB4 (t:Bool)(f:Nat)(args:List TV):er (gI O t f args S)=csA O t S f (args.any dK) args:=by
 unfold gI csA
 split
 ·rfl
 ·simp only[csR,fK]
  refine Out.bind_congr fun r=>?_
  cases t
  ·rfl
  ·simp only[↓reduceIte]
   cases nX S.length r.1 r.2<;>rfl
theorem aOh (t:Bool)(f:Nat)(args:List aC):op1 K O (.call false t f args) i k M n fs env S=opC K O (csA O t S f ((args.map (opv K n env M)).any dK) (args.map (opv K n env M))) i k M n fs env:=by
 rw[←aB4,←zL]
 simp only[op1,bS,Out.bind_assoc,Out.bind,Bool.false_eq_true,↓reduceIte]
 rfl
def prV (S:aA)(p:Option vU)(args:List TV):Option (TV×aA):=match p with
 | some p=>if args.any dK then none else p args S
 | none=>none
theorem aUq (f:Nat)(args:List aC):op1 K O (.prim f args) i k M n fs env S=opS K O (prV S (K.prim f) (args.map (opv K n env M))) i k M n fs env:=by
 simp only[op1,bS]
 show er (Out.bind (match K.prim f with | some p => if (args.map (opv K n env M)).any dK = true then .fail "prim: a local's address" else Out.bind (Out.ofOpt "prim" (p (args.map (opv K n env M)) S)) fun r => .ret (r.1, env, r.2) | none => .fail "prim") _) = _
 cases K.prim f with
 | none=>rfl
 | some p =>
  simp only[prV]
  split
  ·rfl
  ·cases p (args.map (opv K n env M)) S with
   | none=>rfl
   | some q=>simp only[Out.ofOpt,Out.bind,opS,jK]
def fin (rs:List kN)(x:Out (bF×Env×aA)):Out (TV×aA) :=
 x.bind fun r=>match r.1 with
  | .exit _ => .fail ""
  | _=>match jW rs r.2.1 r.2.2 with
   | some v=>.ret (v,r.2.2)
   | none => .fail ""
@[congr] theorem fin_congr (rs:List kN) {x x':Out (bF×Env×aA)} (h:x=x'):fin rs x=fin rs x':=by rw[h]
def aOi (S:aA)(v:Option TV):Out (TV×aA):=match v with
 | some v=>.ret (v,S)
 | none => .fail ""
theorem aOj (v:TV):aOi S (some v)=.ret (v,S):=id rfl
theorem bAd (rs:List kN):fin rs (.ret (.ret,env,S))=aOi S (jW rs env S):=by
 simp only[fin,Out.bind,aOi]
theorem aJo (rs:List kN):fin rs (.ret (.normal,env,S))=aOi S (jW rs env S):=by
 simp only[fin,Out.bind,aOi]
theorem bEi (rs:List kN)(B:Bool)(x y:Out (bF×Env×aA)):fin rs (br B x y)=br B (fin rs x) (fin rs y):=by cases B<;>rfl
theorem vP (f:Nat)(args:List TV)(fn:aN)(hf:K.funcs f=some fn)(ha:args.length=fn.nparams):er (eA K O f args S)=fin fn.results (go K O fn.body [] (args++List.replicate (fn.nlocs-fn.nparams) undef) S):=by
 simp only[eA,hf,ha,ne_eq,not_true_eq_false,↓reduceIte,go,fin]
 rw[fK]
 have e:(eD K O fn.body (args++List.replicate (fn.nlocs-fn.nparams) undef) S).bind (fun r=>back K O [] r.1 r.2.1 r.2.2)=eD K O fn.body (args++List.replicate (fn.nlocs-fn.nparams) undef) S:=by
  cases eD K O fn.body (args++List.replicate (fn.nlocs-fn.nparams) undef) S with
  | ret a=>rfl
  | fail s=>rfl
  | pick n k=>simp only[Out.bind]; congr; funext i; exact bind_back (k i)
 rw[e]
 refine Out.bind_congr fun r=>?_
 obtain⟨j,e,S'⟩:=r
 cases j with
 | exit i=>rfl
 | _=>simp only; cases jW fn.results e S'<;>rfl
where
 bind_back:∀x:Out (bF×Env×aA),(x.bind fun r=>back K O [] r.1 r.2.1 r.2.2)=x
  | .ret a=>rfl
  | .fail s=>rfl
  | .pick n k=>by simp only[Out.bind]; congr; funext i; exact bind_back (k i)
theorem aUr {f:Nat}{args:List TV}{fn:aN}{r:TV×aA}(hf:K.funcs f=some fn)(ha:args.length=fn.nparams)(h:fin fn.results (go K (lim K) fn.body [] (args++List.replicate (fn.nlocs-fn.nparams) undef) S)=.ret r):(lim K).call f args S=.ret r :=
 aTk (aTn ((vP K (lim K) S f args fn hf ha).trans h))
def rnd (b:aL)(x:Out (bF×Env×aA)):Out (bF×Env×aA) :=
 x.bind fun r=>match r.1 with
  | .normal=>er (lp O b r.2.1 r.2.2)
  | j=>.ret (j,r.2.1,r.2.2)
@[congr] theorem rnd_congr (b:aL) {x x':Out (bF×Env×aA)} (h:x=x'):rnd O b x=rnd O b x':=by rw[h]
theorem aJp (b:aL):rnd O b (.ret (.normal,env,S))=er (lp O b env S):=id rfl
theorem bAe (b:aL):rnd O b (.ret (.ret,env,S))=.ret (.ret,env,S):=id rfl
theorem aUs (b:aL)(id:Nat):rnd O b (.ret (.exit id,env,S))=.ret (.exit id,env,S):=by simp only[rnd,Out.bind]
theorem bHc (b:aL)(B:Bool)(x y:Out (bF×Env×aA)):rnd O b (br B x y)=br B (rnd O b x) (rnd O b y):=by cases B<;>rfl
theorem aUt {b:aL}{r:bF×Env×aA}(h:rnd (lim K) b (go K (lim K) b [] env S)=.ret r):lp (lim K) b env S=.ret r:=by
 refine aTl (aTn ?_)
 rw[←h]
 simp only[kX,rnd,go]
 rw[fK]
 have e:=vP.bind_back K (lim K) (eD K (lim K) b env S)
 rw[e]
 refine Out.bind_congr fun r=>?_
 obtain⟨j,e,S'⟩:=r
 cases j<;>rfl
end
end Go.TM
namespace Go.TM
section
variable (K:bG)(O:Orc)(i:Nat)(k:Kt)(M:List (Nat×TV))(n:Nat)(fs:List Fr)(env:Env)(S:aA)
def flM (o:TOp):Option TV:=fZ K o env (cP M n) S
theorem iP {o:TOp}(h:bT o=0):flM K M n env S o=aQ o (opv K n env M):=by
 have r:∀e,aK o e env S=none:=by intro e; cases o<;>first|rfl|simp[bT]at h
 simp only[flM,fZ,r]
 show (match aQ o (opv K n env M) with|some v=>some v|none=>none)=_
 cases aQ o (opv K n env M)<;>rfl
theorem aMi {o:TOp}(h:bT o=1):flM K M n env S o=aK o (opv K n env M) env S:=by
 have p:∀e,aQ o e=none:=by intro e; cases o<;>first|rfl|simp[bT]at h
 simp only[flM,fZ,p]
 rfl
theorem wV (c:CK)(hc:c≠.bytesStr)(x:aC):flM K M n env S (.conv c x)=ivO (cH c (opv K n env M x)):=by
 have r:aK (.conv c x) (opv K n env M) env S=none:=by cases c<;>first|rfl|exact absurd rfl hc
 show (match ((cH c (opv K n env M x)).map TV.iv) with|some v=>some v|none=>aK (.conv c x) (opv K n env M) env S)=_
 rw[r]
 cases cH c (opv K n env M x)<;>rfl
theorem bCa (x:aC):flM K M n env S (.conv .bytesStr x)=bsV (fH S (opv K n env M x)):=by
 have hc:cH .bytesStr (opv K n env M x)=none:=by
  unfold cH
  cases opv K n env M x with
  | iv v=>cases v<;>rfl
  | _=>rfl
 show (match ((cH .bytesStr (opv K n env M x)).map TV.iv) with|some v=>some v|none=>aK (.conv .bytesStr x) (opv K n env M) env S)=_
 rw[hc]; rfl
theorem bHd (z:List IV)(len:Nat)(ps:List (Nat×aC)):flM K M n env S (.lit false z len ps)=aUh (dG (List.replicate len (z.map .iv)) z.length (opv K n env M) ps):=by
 have r:aK (.lit false z len ps) (opv K n env M) env S=none:=rfl
 show (match aUh (dG (List.replicate len (z.map .iv)) z.length (opv K n env M) ps) with|some v=>some v|none=>none)=_
 cases aUh (dG (List.replicate len (z.map .iv)) z.length (opv K n env M) ps)<;>rfl
def bGb (c a b:TV):Option TV:=match tN c with
  | some t=>some (if t then a else b)
  | none=>none
theorem bGw (c a b:aC):flM K M n env S (.pick c a b)=bGb (opv K n env M c) (opv K n env M a) (opv K n env M b):=iP K M n env S (id rfl)
theorem bHe (x:aC):flM K M n env S (.mov x)=some (opv K n env M x):=iP K M n env S (id rfl)
theorem bGc (z:List IV)(ps:List (Nat×Nat×aC)):flM K M n env S (.build z ps)=(fill (z.map .iv) (opv K n env M) ps).map nJ:=iP K M n env S (id rfl)
theorem bCb (x:aC):flM K M n env S (.nilCheck x)=aZz (opv K n env M x):=iP K M n env S (id rfl)
theorem bHf (op:BinOp)(x y:aC):flM K M n env S (.bin op x y)=ivO (binOp op (opv K n env M x) (opv K n env M y)):=iP K M n env S (id rfl)
theorem bHg (neg:Bool)(ek:EK)(x y:aC):flM K M n env S (.eqB neg ek x y)=eqV neg (eqB ek (opv K n env M x) (opv K n env M y)):=iP K M n env S (id rfl)
theorem bGd (neg:Bool)(offs:List (Nat×LK))(x y:aC):flM K M n env S (.eqAgg neg offs x y)=ivO (eqAgg neg offs (opv K n env M x) (opv K n env M y)):=iP K M n env S (id rfl)
theorem bH3 (op:UnOp)(x:aC):flM K M n env S (.un op x)=ivO (unOp op (opv K n env M x)):=iP K M n env S (id rfl)
theorem bGx (f:Nat)(a b:List aC):flM K M n env S (.mkFn f a b)=aMh f (a.map (opv K n env M)) (b.map (opv K n env M)):=iP K M n env S (id rfl)
theorem bAf (off:Nat)(x:aC):flM K M n env S (.fieldAddr off x)=dJ (opv K n env M x) off:=iP K M n env S (id rfl)
theorem bGe (off w:Nat)(ag:Bool)(x:aC):flM K M n env S (.field off w ag x)=mI ag (aZ0 off w (gK (opv K n env M x))):=by
 rw[iP K M n env S rfl]
 simp only[aQ]
 cases gK (opv K n env M x) with
 | none=>rfl
 | some l=>simp only[aZ0,mI]; cases sub l off w<;>rfl
theorem aWz (es:Nat)(x y:aC):flM K M n env S (.indexAddrS es x y)=ixS es (opv K n env M x) (opv K n env M y):=iP K M n env S (id rfl)
theorem aW0 (len es:Nat)(x y:aC):flM K M n env S (.indexAddrA len es x y)=ixA len es (opv K n env M x) (opv K n env M y):=iP K M n env S (id rfl)
theorem bFa (x y:aC):flM K M n env S (.indexS x y)=vN (opv K n env M x) (opv K n env M y):=iP K M n env S (id rfl)
theorem bEj (j:Nat)(x:aC):flM K M n env S (.extract j x)=xtr j (opv K n env M x):=iP K M n env S (id rfl)
theorem bHh (x:aC):flM K M n env S (.cap x)=bD6 (aFd (opv K n env M x)):=iP K M n env S (id rfl)
theorem bGy (m:Nat):flM K M n env S (.lenC m)=some (.iv (.int .i64 m)):=iP K M n env S (id rfl)
theorem bFb (mx:Bool)(xs:List aC):flM K M n env S (.minmax mx xs)=mmV mx (xs.map (opv K n env M)):=iP K M n env S (id rfl)
theorem aUu (a:aC):flM K M n env S (.load1 a)=mI false (bH env S (opv K n env M a) 1):=aMi K M n env S (id rfl)
theorem bGf (w:Nat)(a:aC):flM K M n env S (.loadN w a)=mI true (bH env S (opv K n env M a) w):=aMi K M n env S (id rfl)
theorem bGg (sk:SK)(x:aC)(lo hi mx:Option aC):flM K M n env S (.slice sk x lo hi mx)=slV S sk (opv K n env M x) (oI (lo.map (opv K n env M))) (oI (hi.map (opv K n env M))) (oI (mx.map (opv K n env M))):=by
 rw[aMi K M n env S rfl]
 simp only[aK,slV]
 cases lo<;>cases hi<;>cases mx<;>rfl
theorem bHi (nk:NK)(x:aC):flM K M n env S (.len nk x)=aGk nk S (opv K n env M x):=aMi K M n env S (id rfl)
theorem bGh (kd:IntKind)(x:aC):flM K M n env S (.conv (.toInt kd) x)=ivO (cH (.toInt kd) (opv K n env M x)):=wV K M n env S _ (by simp) x
theorem bFc (x:aC):flM K M n env S (.conv .intStr x)=ivO (cH .intStr (opv K n env M x)):=wV K M n env S _ (by simp) x
theorem bFd (x:aC):flM K M n env S (.conv .strStr x)=ivO (cH .strStr (opv K n env M x)):=wV K M n env S _ (by simp) x
theorem bCc (x:aC):flM K M n env S (.conv .strBytes x)=ivO (cH .strBytes (opv K n env M x)):=wV K M n env S _ (by simp) x
mutual
theorem aGt:∀(a:IV),fA a a=true
 | .bool b=>by simp[fA]
 | .int k n=>by simp[fA]
 | .str s=>by simp[fA]
 | .sl t l=>by simp[fA,lR l]
 | .agg l=>by simp[fA,kI l]
 | .cp l=>by simp[fA,kI l]
 | .nilp=>rfl
 | .nilm=>rfl
 | .nilf=>rfl
 | .nili=>rfl
theorem kI:∀(l:List IV),jH l l=true
 | []=>rfl
 | a::l=>by simp[jH,aGt a,kI l]
theorem lR:∀(l:List (List IV)),fY l l=true
 | []=>rfl
 | a::l=>by simp[fY,kI a,lR l]
end
theorem aUv (a b c:Nat):same (.ptr a b c) (.ptr a b c)=true:=by simp[same,aFg]
def rck (ops:List aG)(M:List (Nat×TV))(n:Nat)(env:Env)(S:aA)(c:List Nat):Bool:=kE K ops (cP M n) env S c
def rcS (v:Option TV)(w:TV):Bool:=match v with
 | some v=>same v w
 | none=>false
theorem aUw (v w:TV):rcS (some v) w=same v w:=id rfl
def rcG (g:TV)(want:Bool)(j:Nat)(M:List (Nat×TV))(n:Nat)(env:Env)(S:aA)(o:TOp):Bool:=match g with
 | .iv (.bool b)=>if b==want then rcS (flM K M n env S o) (opv K n env M (.reg j)) else true
 | .tup []=>true
 | _=>false
theorem bFe (want:Bool)(j:Nat)(o:TOp):rcG K (.tup []) want j M n env S o=true:=id rfl
theorem bGi (b want:Bool)(j:Nat)(o:TOp):rcG K (.iv (.bool b)) want j M n env S o=if b==want then rcS (flM K M n env S o) (opv K n env M (.reg j)) else true:=id rfl
def rcO (x:Option aG)(j:Nat)(M:List (Nat×TV))(n:Nat)(env:Env)(S:aA):Bool:=match x with
 | some ⟨o,_,none⟩=>rcS (flM K M n env S o) (opv K n env M (.reg j))
 | some ⟨o,_,some (g,want)⟩=>rcG K (opv K n env M (.reg g)) want j M n env S o
 | none=>false
theorem aUx (o:TOp)(l:Option Nat)(j:Nat):rcO K (some ⟨o,l,none⟩) j M n env S=rcS (flM K M n env S o) (opv K n env M (.reg j)):=id rfl
theorem bFf (o:TOp)(l:Option Nat)(g:Nat)(want:Bool)(j:Nat):rcO K (some ⟨o,l,some (g,want)⟩) j M n env S=rcG K (opv K n env M (.reg g)) want j M n env S o:=id rfl
theorem bAg (ops:List aG):rck K ops M n env S []=true:=id rfl
theorem aUy (ops:List aG)(j:Nat)(c:List Nat):rck K ops M n env S (j::c)=(rcO K (uD ops j) j M n env S&&rck K ops M n env S c):=by
 simp only[rck,kE,uD]
 congr 1
 cases ops[j]? with
 | none=>rfl
 | some x =>
  obtain⟨o,l,g⟩:=x
  cases g with
  | none =>
   simp only[dA,rcO]
   show (match flM K M n env S o with|some v=>same v (opv K n env M (.reg j))|none=>false)=_
   cases flM K M n env S o<;>rfl
  | some q =>
   obtain⟨g,want⟩:=q
   simp only[dA,rcO]
   show (match (match opv K n env M (.reg g) with | .iv (.bool b)=>some (b==want) | .tup []=>some false|_=>none) with|some true=>(match flM K M n env S o with|some v=>same v (opv K n env M (.reg j))|none=>false)|some false=>true|none=>false)=_
   unfold rcG
   cases opv K n env M (.reg g) with
   | iv v =>
    cases v with
    | bool b =>
     simp only
     cases b==want
     ·rfl
     ·simp only[↓reduceIte]
      cases flM K M n env S o<;>rfl
    | _=>rfl
   | tup vs=>cases vs<;>rfl
   | _=>rfl
theorem aUz (ops:List aG)(ps:List (Nat×List Nat×List Nat))(c fl:List Nat):fV K O (.ph ops c fl ps) M n fs env S=chk K O (rck K ops M n env S c) ops fl ps M n fs env S:=id rfl
end
end Go.TM
namespace Go.TM
attribute [go_sem] aZg aTo aZh aZi aTp aTq aTr aZj aZk aTs aTt aI7
attribute [go_sem] aNx aNy okL aGq pO
attribute [go_sem] aZy aUc aUd bF4 bF5 aJd aJe aJf aZ1 aMg aB2 aZ2 aZ3 aUe aUf aZ4 aUg jZ aN1 aGl aJh
attribute [go_sem] aN9
theorem go_region (K:bG)(O:Orc)(ops:List aG)(fs:List Fr)(env:Env)(S:aA):go K O (.region ops) fs env S=rgN K O (vY ops 0) ops fs env S:=by
 rw[go_region0,aT4,aDm]; rfl
def aU0 (K:bG)(O:Orc)(n:Nat)(f0:List Nat)(ph:List (Nat×List Nat×List Nat))(ops:List aG)(fs:List Fr)(env:Env)(S:aA):Out (bF×Env×aA):=fls K O ops f0 ph [] n fs env S
@[congr] theorem flsN_congr (K:bG) (O:Orc) {n n':Nat} (h:n=n') (f0:List Nat) (ph:List (Nat×List Nat×List Nat)) (ops:List aG) (fs:List Fr) (env:Env) (S:aA):aU0 K O n f0 ph ops fs env S=aU0 K O n' f0 ph ops fs env S:=by rw[h]
theorem aMj (K:bG)(O:Orc)(n:Nat)(f0:List Nat)(ph:List (Nat×List Nat×List Nat))(ops:List aG)(fs:List Fr)(env:Env)(S:aA):aU0 K O n f0 ph ops fs env S=fls K O ops f0 ph [] n fs env S:=id rfl
theorem go_draw (K:bG)(O:Orc)(f0:List Nat)(ph:List (Nat×List Nat×List Nat))(ops:List aG)(fs:List Fr)(env:Env)(S:aA):go K O (.draw f0 ph ops) fs env S=aU0 K O (vY ops 0) f0 ph ops fs env S:=by
 rw[go_draw0,aMj,aDm]; rfl
theorem aU1 (n:Nat):vY [] n=n:=id rfl
theorem aOk (a:aG)(l:List aG)(n:Nat):vY (a::l) n=vY l (n+1):=id rfl
@[congr] theorem lenT_congr (l:List aG) {n n':Nat} (h:n=n'):vY l n=vY l n':=by rw[h]
theorem aOl (a:TV)(l:List TV)(d:TV):List.getD (a::l) 0 d=a:=id rfl
theorem aOm (a:TV)(l:List TV)(j:Nat)(d:TV):List.getD (a::l) (j+1) d=List.getD l j d:=by simp[List.getD]
attribute [go_sem] aOl aOm List.map_cons List.map_nil List.getElem?_cons_zero List.getElem?_cons_succ Option.map_some Option.map_none
theorem bAh (v:IV):dK (.iv v)=false:=id rfl
theorem aU2 (a b c:Nat):dK (.ptr a b c)=false:=id rfl
theorem aU3 (a b c d e f:Nat):dK (.msl a b c d e f)=false:=id rfl
theorem bAi (f:Nat)(a b:List TV):dK (.fn f a b)=false:=id rfl
theorem aU4 (v:IV):rR (.iv v)=false:=id rfl
theorem aGu (v:IV):gM (.iv v)=gF v:=id rfl
theorem aDs (b:Bool):gF (.bool b)=true:=id rfl
theorem aGv (k:IntKind)(m:Int):gF (.int k m)=true:=id rfl
theorem aGw (s:List UInt8):gF (.str s)=true:=id rfl
theorem aJq (a:Tag)(l:List (List IV)):gF (.sl a l)=false:=id rfl
theorem aAr (S:aA):dD S []=some []:=id rfl
def aGx {α:Type}:Option α→Option (List α)→Option (List α)
 | some a,some l=>some (a::l)
 | _,_=>none
theorem zM {α:Type}(a:α)(l:List α):aGx (some a) (some l)=some (a::l):=id rfl
theorem zN (S:aA)(v:TV)(r:List TV):dD S (v::r)=aGx (mD S v) (dD S r):=by rw[dD]; cases mD S v<;>cases dD S r<;>rfl
theorem aGy (S:aA)(v:IV):mD S (.iv v)=some (.iv v):=id rfl
theorem bAj (S:aA)(v:IV):aFf S (.iv v)=some v:=id rfl
theorem aOn (S:aA):rQ S []=some []:=id rfl
def ivC:Option IV→Option (List TV)→Option (List TV)
 | some a,some l=>some (.iv a::l)
 | _,_=>none
theorem aU5 (a:IV)(l:List TV):ivC (some a) (some l)=some (.iv a::l):=id rfl
theorem aJr (S:aA)(v:TV)(r:List TV):rQ S (v::r)=ivC (aFf S v) (rQ S r):=id rfl
theorem aGz (S:aA)(c:List TV):resolve S (.tup c)=(rQ S c).map .tup:=id rfl
theorem bW (S:aA)(v:IV):resolve S (.iv v)=some (.iv v):=id rfl
def bAk:TV→Option TV
 | .lb _=>none
 | .lp ..=>none
 | v=>some v
theorem bAl (v:IV):bAk (.iv v)=some (.iv v):=id rfl
theorem bAm (f:Nat)(a b:List TV):bAk (.fn f a b)=some (.fn f a b):=id rfl
theorem aDt (env:Env)(S:aA)(j:Nat):gN env S (.loc j)=bAk (env.getD j .hole):=by simp only[gN]; cases env.getD j .hole<;>rfl
theorem aAs (env:Env)(S:aA)(j m:Nat)(ag:Bool):gN env S (.cell j m ag)=mI ag (bH env S (sX j (env.getD j .hole)) m):=by simp only[gN,aX]; cases env.getD j .hole<;>rfl
theorem aAt (env:Env)(S:aA):eI env S []=some []:=id rfl
theorem zO (env:Env)(S:aA)(r:kN)(rs:List kN):eI env S (r::rs)=aGx (gN env S r) (eI env S rs):=by rw[eI]; cases gN env S r<;>cases eI env S rs<;>rfl
def bAn:Option (List TV)→Option TV
 | some [v]=>some v
 | some vs=>some (.tup vs)
 | none=>none
theorem aU6 (v:TV):bAn (some [v])=some v:=id rfl
theorem aU7 (v w:TV)(l:List TV):bAn (some (v::w::l))=some (.tup (v::w::l)):=id rfl
theorem aU8:bAn (some [])=some (.tup []):=id rfl
theorem aOo (rs:List kN)(env:Env)(S:aA):jW rs env S=bAn (eI env S rs):=by simp only[jW]; cases eI env S rs with|none=>rfl|some l=>cases l with|nil=>rfl|cons a r=>cases r<;>rfl
theorem aOp (k:IntKind)(a b:Int):TM.binOp .add (.iv (.int k a)) (.iv (.int k b))=some (.int k (k.wrap (a+b))):=by simp[TM.binOp,hP]
theorem aOq (k:IntKind)(a b:Int):TM.binOp .sub (.iv (.int k a)) (.iv (.int k b))=some (.int k (k.wrap (a-b))):=by simp[TM.binOp,hP]
theorem aOr (k:IntKind)(a b:Int):TM.binOp .mul (.iv (.int k a)) (.iv (.int k b))=some (.int k (k.wrap (a*b))):=by simp[TM.binOp,hP]
theorem aOs (k:IntKind)(a b:Int):TM.binOp .eql (.iv (.int k a)) (.iv (.int k b))=some (.bool (a==b)):=by simp[TM.binOp,hP]
theorem aOt (k:IntKind)(a b:Int):TM.binOp .neq (.iv (.int k a)) (.iv (.int k b))=some (.bool (a != b)):=by simp[TM.binOp,hP]
theorem aOu (k:IntKind)(a b:Int):TM.binOp .lss (.iv (.int k a)) (.iv (.int k b))=some (.bool (decide (a<b))):=by simp[TM.binOp,hP]
theorem aOv (k:IntKind)(a b:Int):TM.binOp .leq (.iv (.int k a)) (.iv (.int k b))=some (.bool (decide (a≤b))):=by simp[TM.binOp,hP]
theorem aOw (k:IntKind)(a b:Int):TM.binOp .gtr (.iv (.int k a)) (.iv (.int k b))=some (.bool (decide (b<a))):=by simp[TM.binOp,hP]
theorem aOx (k:IntKind)(a b:Int):TM.binOp .geq (.iv (.int k a)) (.iv (.int k b))=some (.bool (decide (b≤a))):=by simp[TM.binOp,hP]
def fP (w:Nat)(a b:Int):Int:=((BitVec.ofInt w a &&& BitVec.ofInt w b).toNat:Nat)
def bOr (w:Nat)(a b:Int):Int:=((BitVec.ofInt w a ||| BitVec.ofInt w b).toNat:Nat)
def pJ (w:Nat)(a b:Int):Int:=((BitVec.ofInt w a &&& ~~~ BitVec.ofInt w b).toNat:Nat)
theorem aOy (k:IntKind)(a b:Int):TM.binOp .and (.iv (.int k a)) (.iv (.int k b))=some (.int k (k.wrap (fP k.bits a b))):=by simp[TM.binOp,hP,fP]
theorem aU9 (k:IntKind)(a b:Int):TM.binOp .or (.iv (.int k a)) (.iv (.int k b))=some (.int k (k.wrap (bOr k.bits a b))):=by simp[TM.binOp,hP,bOr]
theorem aDu (k:IntKind)(a b:Int):TM.binOp .andNot (.iv (.int k a)) (.iv (.int k b))=some (.int k (k.wrap (pJ k.bits a b))):=by simp[TM.binOp,hP,pJ]
theorem aOz (k k':IntKind)(a b:Int):TM.binOp .shl (.iv (.int k a)) (.iv (.int k' b))=if b<0 then none else some (.int k (k.wrap (a*2 ^ (if b.toNat≤k.bits then b.toNat else k.bits)))):=by simp[TM.binOp,rP,Nat.min_def]
theorem aO0 (k k':IntKind)(a b:Int):TM.binOp .shr (.iv (.int k a)) (.iv (.int k' b))=if b<0 then none else some (.int k (a.fdiv (2 ^ (if b.toNat≤k.bits then b.toNat else k.bits)))):=by simp[TM.binOp,rP,Nat.min_def]
theorem aJs (a b:List UInt8):TM.binOp .eql (.iv (.str a)) (.iv (.str b))=some (.bool (a==b)):=id rfl
theorem aJt (a b:List UInt8):TM.binOp .neq (.iv (.str a)) (.iv (.str b))=some (.bool (!(a==b))):=id rfl
theorem aVa (k:IntKind)(a:Int):TM.unOp .neg (.iv (.int k a))=some (.int k (k.wrap (0-a))):=id rfl
theorem aVb (b:Bool):TM.unOp .not (.iv (.bool b))=some (.bool (!b)):=id rfl
theorem aDv (k k':IntKind)(a:Int):cH (.toInt k) (.iv (.int k' a))=some (.int k (k.wrap a)):=id rfl
theorem wA (s:List UInt8):cH .strBytes (.iv (.str s))=if s.length≤70368744177664 then some (.sl .no (aF s)) else none:=id rfl
theorem aVc (a b:Bool):TM.eqB .bool (.iv (.bool a)) (.iv (.bool b))=some (a==b):=id rfl
theorem aVd (o:TOp):floats o=(bT o==0||bT o==1||bT o==2||bT o==4||bT o==6):=id rfl
attribute [go_sem] bAh aU2 aU3 bAi
attribute [go_sem] aU4 aGu
attribute [go_sem] aDs aGv aGw aJq aAr zM zN
attribute [go_sem] aGy bAj
attribute [go_sem] aOn aU5 aJr aGz bW bAl
attribute [go_sem] bAm aDt aAs aAt zO
attribute [go_sem] aU6 aU7 aU8 aOo aOp aOq aOr aOs aOt aOu
attribute [go_sem] aOv aOw aOx aOy aU9 aDu aOz aO0 aJs aJt
attribute [go_sem] aVa aVb aDv wA aVc
attribute [go_sem] aVd
theorem bHj (b:Bool):(b==true)=b:=by cases b<;>rfl
theorem bHk (b:Bool):(b==false)=!b:=by cases b<;>rfl
theorem aDw (b:Bool):cellsOf (.iv (.bool b))=[.iv (.bool b)]:=id rfl
theorem aG0 (b:Bool):bL (.iv (.bool b))=false:=id rfl
theorem vQ (k:IntKind)(m:Int):cellsOf (.iv (.int k m))=[.iv (.int k m)]:=id rfl
theorem aJu (k:IntKind)(m:Int):bL (.iv (.int k m))=false:=id rfl
theorem aG1 (s:List UInt8):cellsOf (.iv (.str s))=[.iv (.str s)]:=id rfl
theorem aJv (s:List UInt8):bL (.iv (.str s))=false:=id rfl
theorem aJw (a:Tag)(l:List (List IV)):cellsOf (.iv (.sl a l))=[.iv (.sl a l)]:=id rfl
theorem aO1 (a:Tag)(l:List (List IV)):bL (.iv (.sl a l))=false:=id rfl
theorem aDx (l:List IV):cellsOf (.iv (.agg l))=l.map .iv:=id rfl
theorem aG2 (a b c:Nat):cellsOf (.ptr a b c)=[.ptr a b c]:=id rfl
theorem aJx (a b c:Nat):bL (.ptr a b c)=false:=id rfl
theorem aG3 (a:Nat):cellsOf (.map a)=[.map a]:=id rfl
theorem aJy (a:Nat):bL (.map a)=false:=id rfl
theorem aJz (a:Nat):kP (.map a)=.map a:=id rfl
theorem aG4 (l:List TV):cellsOf (.agg l)=l:=id rfl
theorem aO2 (v:IV):kP (.iv v)=.iv v:=id rfl
theorem zQ (v:TV)(r:List TV):toIVs (v::r)=aGx (nT v) (toIVs r):=by rw[toIVs]; cases nT v<;>cases toIVs r<;>rfl
theorem aG5 (v:IV):nT (.iv v)=some v:=id rfl
def aVe (vs:List TV)(es:List (List TV))(n i:Nat)(e:aC→TV)(r:List (Nat×aC)):Option (List (List TV)) :=
 if vs.length=n∧i<es.length∧vs.any bL=false then dG (es.set i vs) n e r else none
theorem aG6 (es:List (List TV))(n i:Nat)(e:aC→TV)(x:aC)(r:List (Nat×aC)):dG es n e ((i,x)::r)=aVe (cellsOf (kP (e x))) es n i e r:=id rfl
theorem aJ0 (es:List (List TV))(n:Nat)(e:aC→TV):dG es n e []=some es:=id rfl
theorem aO3 (vs:List TV)(es:List (List TV))(n i:Nat)(e:aC→TV)(r:List (Nat×aC)):aVe vs es n i e r=if vs.length=n∧i<es.length∧vs.any bL=false then dG (es.set i vs) n e r else none:=id rfl
def bCd (vs:List TV)(cs:List TV)(off n:Nat)(e:aC→TV)(r:List (Nat×Nat×aC)):Option (List TV) :=
 if vs.length=n∧off+n≤cs.length∧vs.any bL=false then fill (put cs off vs) e r else none
theorem aO4 (cs:List TV)(off n:Nat)(e:aC→TV)(x:aC)(r:List (Nat×Nat×aC)):fill cs e ((off,n,x)::r)=bCd (cellsOf (kP (e x))) cs off n e r:=id rfl
theorem aVf (cs:List TV)(e:aC→TV):fill cs e []=some cs:=id rfl
theorem aVg (vs:List TV)(cs:List TV)(off n:Nat)(e:aC→TV)(r:List (Nat×Nat×aC)):bCd vs cs off n e r=if vs.length=n∧off+n≤cs.length∧vs.any bL=false then fill (put cs off vs) e r else none:=id rfl
def mkG (x:Option (List IV))(cs:List TV):TV:=match x with
 | some l=>.iv (.agg l)
 | none=>.agg cs
theorem aVh (cs:List TV):nJ cs=mkG (kO cs) cs:=by simp only[nJ]; cases kO cs<;>rfl
theorem aVi (l:List IV)(cs:List TV):mkG (some l) cs=.iv (.agg l):=id rfl
theorem aVj (cs:List TV):mkG none cs=.agg cs:=id rfl
def aVk (v:IV)(x:Option (List IV)):Option (List IV):=x.map (v::·)
theorem aJ1 (v:IV)(l:List IV):aVk v (some l)=some (v::l):=id rfl
theorem aJ2 (v:IV):aVk v none=none:=id rfl
theorem aJ3 (v:IV)(r:List TV):kO (.iv v::r)=aVk v (kO r):=id rfl
theorem aO5:kO []=some []:=id rfl
theorem aJ4:gV []=some []:=id rfl
theorem aG7 (c:List TV)(r:List (List TV)):gV (c::r)=aGx (kO c) (gV r):=by rw[gV]; cases kO c<;>cases gV r<;>rfl
theorem aO6 {α:Type}(a:α)(l:List α)(v:α):List.set (a::l) 0 v=v::l:=id rfl
theorem aO7 {α:Type}(a:α)(l:List α)(j:Nat)(v:α):List.set (a::l) (j+1) v=a::List.set l j v:=id rfl
theorem bEk {α:Type}(cs:List α)(off n:Nat):sub cs off n=if off+n≤cs.length then some ((cs.drop off).take n) else none:=id rfl
theorem bEl {α:Type}(cs:List α)(off:Nat)(vs:List α):put cs off vs=cs.take off++vs++cs.drop (off+vs.length):=id rfl
theorem aB5 (a:Nat)(r:List TV):kO (.map a::r)=none:=id rfl
attribute [go_sem] aDw aG0 vQ aJu aG1 aJv aJw aO1
attribute [go_sem] aDx aG2 aJx
attribute [go_sem] aG3 aJy aJz
attribute [go_sem] aG4 aO2
attribute [go_sem] zQ aG5
attribute [go_sem] aG6 aJ0 aO3 aO4 aVf aVg aVh aVi aVj aJ1
attribute [go_sem] aJ2 aJ3 aO5 aB5 aJ4 aG7 aO6 aO7 bEk bEl
attribute [go_sem] List.length_cons List.length_nil List.take_succ_cons List.drop_succ_cons List.take_zero List.drop_zero List.take_nil List.drop_nil and_self and_true true_and
attribute [go_sem] aB5
def aJ5 (w:Nat)(env:Env)(S:aA)(a:TV)(vs:List TV):Option (TV×Env×aA):=if vs.length=w then zH (setCells env S a vs) else none
theorem gP (w:Nat)(env:Env)(S:aA)(a v:TV):uF w env S a v=aJ5 w env S a (cellsOf v):=by
 unfold aJ5
 split
 ·rename_i h; exact aN2 env S w a v h
 ·rename_i h; simp only[uF,h,↓reduceIte]
theorem fU (w:Nat)(env:Env)(S:aA)(a:TV)(vs:List TV):aJ5 w env S a vs=if vs.length=w then zH (setCells env S a vs) else none:=id rfl
def lbK (off n:Nat):TV→Option (List TV)
 | .lb cs=>sub cs off n
 | _=>none
theorem bEm (off n:Nat)(cs:List TV):lbK off n (.lb cs)=sub cs off n:=id rfl
theorem aG8 (env:Env)(S:aA)(j off n:Nat):bH env S (.lp j off) n=lbK off n (env.getD j .hole):=by
 simp only[bH,List.getD]
 cases env[j]? with
 | none=>rfl
 | some v=>cases v<;>rfl
def blK (v off n:Nat):Option aW→Option (List TV)
 | some (.cells v' _ cs)=>if v'=v then sub cs off n else none
 | some (.frz v' cs)=>if v'=v then (sub cs off n).map (·.map .iv) else none
 | _=>none
theorem aO8 (v off n v':Nat)(l:Bool)(cs:List TV):blK v off n (some (.cells v' l cs))=if v'=v then sub cs off n else none:=id rfl
theorem aDy (env:Env)(S:aA)(i v off n:Nat):bH env S (.ptr i v off) n=blK v off n (S[i]?):=by
 simp only[bH]
 cases S[i]? with
 | none=>rfl
 | some b=>cases b<;>rfl
def bCe (env:Env)(S:aA)(j off:Nat)(vs:List TV):TV→Option (Env×aA)
 | .lb cs=>if off+vs.length≤cs.length then some (env.set j (.lb (put cs off vs)),S) else none
 | _=>none
theorem aVl (env:Env)(S:aA)(j off:Nat)(vs cs:List TV):bCe env S j off vs (.lb cs)=if off+vs.length≤cs.length then some (env.set j (.lb (put cs off vs)),S) else none:=id rfl
theorem aG9 (env:Env)(S:aA)(j off:Nat)(vs:List TV):setCells env S (.lp j off) vs=if vs.any bL then none else bCe env S j off vs (env.getD j .hole):=by
 simp only[setCells,List.getD]
 split
 ·rfl
 ·cases env[j]? with
  | none=>rfl
  | some v=>cases v<;>rfl
def bCf (env:Env)(S:aA)(i v off:Nat)(vs:List TV):Option aW→Option (Env×aA)
 | some (.cells v' l cs)=>if v'=v∧off+vs.length≤cs.length then some (env,S.set i (.cells v' l (put cs off vs))) else none
 | _=>none
theorem aHa (env:Env)(S:aA)(i v off:Nat)(vs:List TV)(v':Nat)(l:Bool)(cs:List TV):bCf env S i v off vs (some (.cells v' l cs))=if v'=v∧off+vs.length≤cs.length then some (env,S.set i (.cells v' l (put cs off vs))) else none:=id rfl
theorem aDz (env:Env)(S:aA)(i v off:Nat)(vs:List TV):setCells env S (.ptr i v off) vs=if vs.any bL then none else bCf env S i v off vs (S[i]?):=by
 simp only[setCells]
 split
 ·rfl
 ·cases S[i]? with
  | none=>rfl
  | some b=>cases b<;>rfl
theorem aO9 (j off n:Nat):dJ (.lp j off) n=some (.lp j (off+n)):=id rfl
theorem aJ6 (i v off n:Nat):dJ (.ptr i v off) n=some (.ptr i v (off+n)):=id rfl
theorem aJ7 (S:aA)(t:Tag)(l:List (List IV)):fH S (.iv (.sl t l))=some l:=id rfl
theorem bGj:(false=true)=False:=by simp
attribute [go_sem] gP fU bEm aG8 aO8 aDy aVl aG9 aHa aDz aO9 aJ6 aJ7 bGj
attribute [go_sem] aUv
attribute [go_sem] aUw
attribute [go_sem] eq_self bHj bHk List.any_cons List.any_nil List.all_cons List.all_nil TM.undef bT Bool.true_and Bool.and_true Bool.false_and Bool.and_false Bool.or_false Bool.false_or Bool.true_or Bool.or_true Bool.not_true Bool.not_false ite_true ite_false
end Go.TM
namespace Go.TM
@[reducible] def TT {β:Type} (α:Type) (a:β):Type:=α
def br' {α:Type}(B:Bool)(x y:Out α):TT (Out α) (x,y):=br B x y
def bk' (K:bG)(O:Orc)(fs:List Fr)(j:bF)(e:Env)(S:aA):TT (Out (bF×Env×aA)) (fs,j,e,S):=bk K O fs j e S
def go' (K:bG)(O:Orc)(c:aL)(fs:List Fr)(e:Env)(S:aA):TT (Out (bF×Env×aA)) (c,fs,e,S):=go K O c fs e S
def cL (K:bG)(n:Nat)(env:Env)(M:List (Nat×TV))(x:aC):TT (TV) (n,env,M,x):=opv K n env M x
def pP (K:bG)(O:Orc)(ops:List aG)(i:Nat)(M:List (Nat×TV))(n:Nat)(fs:List Fr)(env:Env)(S:aA):TT (Out (bF×Env×aA)) (ops,M,n,fs,S):=wbk K O ops i M n fs env S
def aPa (K:bG)(O:Orc)(all ops:List aG)(i:Nat)(M:List (Nat×TV))(n:Nat)(fs:List Fr)(env:Env)(S:aA):TT (Out (bF×Env×aA)) (all,ops,M,n,fs,env,S):=rgR K O all ops i M n fs env S
def bAo (K:bG)(O:Orc)(ops:List aG)(ps:List (Nat×List Nat×List Nat))(M:List (Nat×TV))(n:Nat)(fs:List Fr)(env:Env)(S:aA):TT (Out (bF×Env×aA)) (ops,ps,M,n,fs,env,S):=phs K O ops ps M n fs env S
def aHb (K:bG)(O:Orc)(ops:List aG)(is:List Nat)(ps:List (Nat×List Nat×List Nat))(M:List (Nat×TV))(n:Nat)(fs:List Fr)(env:Env)(S:aA):TT (Out (bF×Env×aA)) (ops,is,ps,M,n,fs,env,S):=fls K O ops is ps M n fs env S
def bEn (K:bG)(O:Orc)(c:Bool)(ops:List aG)(is:List Nat)(ps:List (Nat×List Nat×List Nat))(M:List (Nat×TV))(n:Nat)(fs:List Fr)(env:Env)(S:aA):TT (Out (bF×Env×aA)) (ops,is,ps,M,n,fs,env,S):=chk K O c ops is ps M n fs env S
def mJ (K:bG)(O:Orc)(k:Kt)(M:List (Nat×TV))(n:Nat)(fs:List Fr)(env:Env)(S:aA):TT (Out (bF×Env×aA)) (k,M,n,fs,env,S):=fV K O k M n fs env S
def eK (K:bG)(O:Orc)(o:TOp)(i:Nat)(k:Kt)(M:List (Nat×TV))(n:Nat)(fs:List Fr)(env:Env)(S:aA):TT (Out (bF×Env×aA)) (o,i,k,M,n,fs,env,S):=op1 K O o i k M n fs env S
def aVm (K:bG)(O:Orc)(g:TV)(want:Bool)(j:Nat)(o:TOp)(i:Nat)(k:Kt)(M:List (Nat×TV))(n:Nat)(fs:List Fr)(env:Env)(S:aA):TT (Out (bF×Env×aA)) (want,j,o,i,k,M,n,fs,env,S):=opG K O g want j o i k M n fs env S
def kY (K:bG)(O:Orc)(v:Option TV)(i:Nat)(k:Kt)(M:List (Nat×TV))(n:Nat)(fs:List Fr)(env:Env)(S:aA):TT (Out (bF×Env×aA)) (i,k,M,n,fs,env,S):=opV K O v i k M n fs env S
def aVn (K:bG)(O:Orc)(v:Option (TV×aW))(i:Nat)(k:Kt)(M:List (Nat×TV))(n:Nat)(fs:List Fr)(env:Env)(S:aA):TT (Out (bF×Env×aA)) (i,k,M,n,fs,env,S):=opA K O v i k M n fs env S
def aJ8 (K:bG)(O:Orc)(v:Option (TV×aA))(i:Nat)(k:Kt)(M:List (Nat×TV))(n:Nat)(fs:List Fr)(env:Env):TT (Out (bF×Env×aA)) (i,k,M,n,fs,env):=opS K O v i k M n fs env
def aHc (K:bG)(O:Orc)(v:Option (TV×Env×aA))(i:Nat)(k:Kt)(M:List (Nat×TV))(n:Nat)(fs:List Fr):TT (Out (bF×Env×aA)) (i,k,M,n,fs):=opE K O v i k M n fs
def wC (K:bG)(O:Orc)(x:Out (TV×aA))(i:Nat)(k:Kt)(M:List (Nat×TV))(n:Nat)(fs:List Fr)(env:Env):TT (Out (bF×Env×aA)) (i,k,M,n,fs,env):=opC K O x i k M n fs env
def bEo (K:bG)(O:Orc)(c a b:TV)(i:Nat)(k:Kt)(M:List (Nat×TV))(n:Nat)(fs:List Fr)(env:Env)(S:aA):TT (Out (bF×Env×aA)) (i,k,M,n,fs,env,S):=opP K O c a b i k M n fs env S
def bEp (K:bG)(O:Orc)(c:TV)(a b:aL)(fs:List Fr)(env:Env)(S:aA):TT (Out (bF×Env×aA)) (a,b,fs,env,S):=goC K O c a b fs env S
def lp' (O:Orc)(b:aL)(env:Env)(S:aA):TT (Out (bF×Env×aA)) (b,env,S):=lp O b env S
def bEq (K:bG)(O:Orc)(x:Out (bF×Env×aA))(fs:List Fr):TT (Out (bF×Env×aA)) (fs):=goL K O x fs
def bEr (K:bG)(O:Orc)(n:Nat)(ops:List aG)(fs:List Fr)(env:Env)(S:aA):TT (Out (bF×Env×aA)) (ops,fs,env,S):=rgN K O n ops fs env S
def aB6 (l:List aG)(n:Nat):TT Nat l:=vY l n
def bAp (c:Bool)(x y:Out (bF×Env×aA)):TT (Out (bF×Env×aA)) (x,y):=flB c x y
def bAq (K:bG)(O:Orc)(o:Option aG)(i:Nat)(ops:List aG)(is:List Nat)(ps:List (Nat×List Nat×List Nat))(M:List (Nat×TV))(n:Nat)(fs:List Fr)(env:Env)(S:aA):TT (Out (bF×Env×aA)) (i,ops,is,ps,M,n,fs,env,S):=flO K O o i ops is ps M n fs env S
def bEs (K:bG)(O:Orc)(o:Option aG)(i:Nat)(ops:List aG)(c fl:List Nat)(ps:List (Nat×List Nat×List Nat))(M:List (Nat×TV))(n:Nat)(fs:List Fr)(env:Env)(S:aA):TT (Out (bF×Env×aA)) (i,ops,c,fl,ps,M,n,fs,env,S):=phO K O o i ops c fl ps M n fs env S
def zR (K:bG)(O:Orc)(v:TV)(j:Nat)(ops:List aG)(i:Nat)(M:List (Nat×TV))(n:Nat)(fs:List Fr)(env:Env)(S:aA):TT (Out (bF×Env×aA)) (j,ops,i,M,n,fs,env,S):=wbV K O v j ops i M n fs env S
def aVo (K:bG)(O:Orc)(w:Nat)(x:Option (List (List IV)))(es:Option (List (List TV)))(i:Nat)(k:Kt)(M:List (Nat×TV))(n:Nat)(fs:List Fr)(env:Env)(S:aA):TT (Out (bF×Env×aA)) (w,i,k,M,n,fs,env,S):=aGo K O w x es i k M n fs env S
def bAr (c:Bool)(x y:Out (bF×Env×aA)):TT (Out (bF×Env×aA)) (x,y):=alB c x y
def bAs (S:aA)(args:List TV)(v:Option TV):TT (Out (TV×aA)) (S,args):=cpV S args v
def bAt (S:aA)(args:List TV)(x:Out (TV×aA)):TT (Out (TV×aA)) (S,args):=cpR S args x
def aPb (O:Orc)(S:aA)(args:List TV)(f:Nat)(ags:Option (List TV)):TT (Out (TV×aA)) (S,args,f):=cpA O S args f ags
def bEt (c:Bool)(S:aA)(args:List TV)(v:TV):TT (Out (TV×aA)) (S,args,v):=cpB c S args v
def bEu (t:Bool)(S:aA)(x:Out (TV×aA)):TT (Out (TV×aA)) (t,S):=csR t S x
def aVp (O:Orc)(t:Bool)(S:aA)(f:Nat)(lp:Bool)(args:List TV):TT (Out (TV×aA)) (t,S,f):=csA O t S f lp args
def aD0 (rs:List kN)(x:Out (bF×Env×aA)):TT (Out (TV×aA)) (rs):=fin rs x
def aMk (S:aA)(v:Option TV):TT (Out (TV×aA)) (S):=aOi S v
def aPc (O:Orc)(b:aL)(x:Out (bF×Env×aA)):TT (Out (bF×Env×aA)) (b):=rnd O b x
def bEv (K:bG)(M:List (Nat×TV))(n:Nat)(env:Env)(S:aA)(o:TOp):TT (Option TV) (M,n,env,S,o):=flM K M n env S o
def aVq (K:bG)(ops:List aG)(M:List (Nat×TV))(n:Nat)(env:Env)(S:aA)(c:List Nat):TT (Bool) (ops,M,n,env,S,c):=rck K ops M n env S c
def bEw (K:bG)(x:Option aG)(j:Nat)(M:List (Nat×TV))(n:Nat)(env:Env)(S:aA):TT (Bool) (j,M,n,env,S):=rcO K x j M n env S
def aVr (K:bG)(O:Orc)(n:Nat)(f0:List Nat)(ph:List (Nat×List Nat×List Nat))(ops:List aG)(fs:List Fr)(env:Env)(S:aA):TT (Out (bF×Env×aA)) (f0,ph,ops,fs,env,S):=aU0 K O n f0 ph ops fs env S
section
variable (K:bG)(O:Orc)(ops:List aG)(is:List Nat)(ps:List (Nat×List Nat×List Nat))(i:Nat)(k:Kt)(M:List (Nat×TV))(n:Nat)(fs:List Fr)(env:Env)(S:aA)
theorem aVs {α:Type}(x y:Out α):br' true x y=x:=_root_.id (pI ..)
theorem aPd {α:Type}(x y:Out α):br' false x y=y:=_root_.id (mH ..)
theorem bAu {α:Type}(B:Bool)(x y:Out α):br' (!B) x y=br' B y x:=_root_.id (bDy ..)
theorem dP {α:Type}{B:Bool}{x y z:Out α}(h:B=true→x=z)(g:B=false→y=z):br' B x y=z:=bF3 h g
theorem aVt (n:Nat)(env:Env)(M:List (Nat×TV))(j:Nat):cL K n env M (.reg j)=if j<n then reg M j else .hole:=_root_.id (aDl ..)
theorem aVu (n:Nat)(env:Env)(M:List (Nat×TV))(j:Nat):cL K n env M (.loc j)=sX j (env.getD j .hole):=_root_.id (aZl ..)
theorem aVv (n:Nat)(env:Env)(M:List (Nat×TV))(v:IV):cL K n env M (.cst v)=.iv v:=_root_.id (aZm ..)
theorem bAv (n:Nat)(env:Env)(M:List (Nat×TV))(f:Nat):cL K n env M (.fn f)=.fn f [] []:=_root_.id (bDz ..)
theorem aPe (n:Nat)(env:Env)(M:List (Nat×TV))(g:Nat):cL K n env M (.glob g)=aTu (K.glob g):=_root_.id (aTv ..)
theorem aPf (v:TV):kY K O (some v) i k M n fs env S=mJ K O k ((i,v)::M) n fs env S:=_root_.id (aTw ..)
theorem aPg (v:TV)(b:aW):aVn K O (some (v,b)) i k M n fs env S=aJ8 K O (some (v,S++[b])) i k M n fs env:=_root_.id (aTx ..)
theorem aPh (v:TV):aJ8 K O (some (v,S)) i k M n fs env=mJ K O k ((i,v)::M) n fs env S:=_root_.id (aTy ..)
theorem aPi (v:TV):aHc K O (some (v,env,S)) i k M n fs=mJ K O k ((i,v)::M) n fs env S:=_root_.id (aTz ..)
theorem aVw (v:TV):wC K O (.ret (v,S)) i k M n fs env=mJ K O k ((i,v)::M) n fs env S:=_root_.id (aZn ..)
theorem aPj (t:Bool)(a b:TV):bEo K O (.iv (.bool t)) a b i k M n fs env S=br' t (mJ K O k ((i,a)::M) n fs env S) (mJ K O k ((i,b)::M) n fs env S):=_root_.id (aT0 ..)
theorem aPk (b want:Bool)(j:Nat)(o:TOp):aVm K O (.iv (.bool b)) want j o i k M n fs env S=br' (b==want) (eK K O o i k ((j,.iv (.bool want))::M) n fs env S) (mJ K O k ((i,undef)::(j,.iv (.bool (!want)))::M) n fs env S):=_root_.id (aT1 ..)
theorem aJ9 (want:Bool)(j:Nat)(o:TOp):aVm K O (.tup []) want j o i k M n fs env S=mJ K O k ((i,undef)::M) n fs env S:=_root_.id (aNv ..)
theorem aPl:bEn K O true ops is ps M n fs env S=aHb K O ops is ps M n fs env S:=_root_.id (aT2 ..)
theorem bAw (j:bF):bk' K O [] j env S=.ret (j,env,S):=_root_.id (bD0 ..)
theorem bAx (b:aL):bk' K O (.seq b::fs) .normal env S=go' K O b fs env S:=_root_.id (bD1 ..)
theorem aHd (b:aL):bk' K O (.seq b::fs) .ret env S=bk' K O fs .ret env S:=_root_.id (aJa ..)
theorem aD1 (b:aL)(id:Nat):bk' K O (.seq b::fs) (.exit id) env S=bk' K O fs (.exit id) env S:=_root_.id (aGg ..)
theorem bAy (id:Nat):bk' K O (.blk id::fs) .normal env S=bk' K O fs .normal env S:=_root_.id (bD2 ..)
theorem aHe (id:Nat):bk' K O (.blk id::fs) .ret env S=bk' K O fs .ret env S:=_root_.id (aJb ..)
theorem aD2 (id id':Nat):bk' K O (.blk id::fs) (.exit id') env S=if id'=id then bk' K O fs .normal env S else bk' K O fs (.exit id') env S:=_root_.id (aGh ..)
theorem go_skip':go' K O .skip fs env S=bk' K O fs .normal env S:=_root_.id (go_skip ..)
theorem go_ret':go' K O .ret fs env S=bk' K O fs .ret env S:=_root_.id (go_ret ..)
theorem go_exit' (id:Nat):go' K O (.exit id) fs env S=bk' K O fs (.exit id) env S:=_root_.id (go_exit ..)
theorem go_seq' (a b:aL):go' K O (.seq a b) fs env S=go' K O a (.seq b::fs) env S:=_root_.id (go_seq ..)
theorem go_block' (id:Nat)(b:aL):go' K O (.block id b) fs env S=go' K O b (.blk id::fs) env S:=_root_.id (go_block ..)
theorem aPm (t:Bool)(a b:aL):bEp K O (.iv (.bool t)) a b fs env S=br' t (go' K O a fs env S) (go' K O b fs env S):=_root_.id (aT3 ..)
theorem go_cond' (c:aC)(a b:aL):go' K O (.cond c a b) fs env S=bEp K O (cL K 0 env [] c) a b fs env S:=_root_.id (go_cond ..)
theorem aVx (j:bF):bEq K O (.ret (j,env,S)) fs=bk' K O fs j env S:=_root_.id (aZo ..)
theorem go_loop' (b:aL):go' K O (.loop b) fs env S=bEq K O (lp' O b env S) fs:=_root_.id (go_loop ..)
theorem bAz:bEr K O n ops fs env S=aPa K O ops ops 0 [] n fs env S:=_root_.id (aT4 ..)
theorem aVy (all:List aG):mJ K O (.rg all ops i) M n fs env S=aPa K O all ops (i+1) M n fs env S:=_root_.id (aZp ..)
theorem aVz:mJ K O (.fl ops is ps) M n fs env S=aHb K O ops is ps M n fs env S:=_root_.id (aMe ..)
theorem aV0 (all:List aG):aPa K O all [] i M n fs env S=pP K O all 0 M n fs env S:=_root_.id (aZq ..)
theorem aPn (all:List aG)(o:TOp)(l:Option Nat):aPa K O all (⟨o,l,none⟩::ops) i M n fs env S=eK K O o i (.rg all ops i) M n fs env S:=_root_.id (aT5 ..)
theorem aKa (all:List aG)(o:TOp)(l:Option Nat)(j:Nat)(want:Bool):aPa K O all (⟨o,l,some (j,want)⟩::ops) i M n fs env S=aVm K O (cL K n env M (.reg j)) want j o i (.rg all ops i) M n fs env S:=_root_.id (aNw ..)
theorem aPo (x y:Out (bF×Env×aA)):bAp true x y=x:=_root_.id (zF ..)
theorem aPp (o:TOp)(l:Option Nat):bAq K O (some ⟨o,l,none⟩) i ops is ps M n fs env S=bAp (floats o) (eK K O o i (.fl ops is ps) M n fs env S) (aHb K O ops (i::is) ps M n fs env S):=_root_.id (aGi ..)
theorem aKb (o:TOp)(l:Option Nat)(j:Nat)(want:Bool):bAq K O (some ⟨o,l,some (j,want)⟩) i ops is ps M n fs env S=bAp (floats o) (aVm K O (cL K n env M (.reg j)) want j o i (.fl ops is ps) M n fs env S) (aHb K O ops (i::is) ps M n fs env S):=_root_.id (aB1 ..)
theorem aV1:aHb K O ops [] ps M n fs env S=bAo K O ops ps M n fs env S:=_root_.id (aZr ..)
theorem aPq:aHb K O ops (i::is) ps M n fs env S=bAq K O (uD ops i) i ops is ps M n fs env S:=_root_.id (aT7 ..)
theorem aV2:bAo K O ops [] M n fs env S=pP K O ops 0 M n fs env S:=_root_.id (aZs ..)
theorem aPr (c fl:List Nat)(o:TOp)(l:Option Nat):bEs K O (some ⟨o,l,none⟩) i ops c fl ps M n fs env S=eK K O o i (.ph ops c fl ps) M n fs env S:=_root_.id (aGj ..)
theorem aPs (c fl:List Nat):bAo K O ops ((i,c,fl)::ps) M n fs env S=bEs K O (uD ops i) i ops c fl ps M n fs env S:=_root_.id (aT8 ..)
theorem aV3:pP K O [] i M n fs env S=bk' K O fs .normal env S:=_root_.id (aZt ..)
theorem aPt (o:TOp)(g:Option (Nat×Bool)):pP K O (⟨o,none,g⟩::ops) i M n fs env S=pP K O ops (i+1) M n fs env S:=_root_.id (aT9 ..)
theorem aPu (o:TOp)(j:Nat)(g:Option (Nat×Bool)):pP K O (⟨o,some j,g⟩::ops) i M n fs env S=zR K O (cL K n env M (.reg i)) j ops i M n fs env S:=_root_.id (aUa ..)
theorem aMl (v:IV)(j:Nat):zR K O (.iv v) j ops i M n fs env S=pP K O ops (i+1) M n fs (env.set j (.iv v)) S:=_root_.id (bD3 ..)
theorem aV4 (a b c:Nat)(j:Nat):zR K O (.ptr a b c) j ops i M n fs env S=pP K O ops (i+1) M n fs (env.set j (.ptr a b c)) S:=_root_.id (aZu ..)
theorem aV5 (a b c d e f:Nat)(j:Nat):zR K O (.msl a b c d e f) j ops i M n fs env S=pP K O ops (i+1) M n fs (env.set j (.msl a b c d e f)) S:=_root_.id (aZv ..)
theorem aHf (a:Nat)(l:List (List IV))(j:Nat):zR K O (.tsl a l) j ops i M n fs env S=pP K O ops (i+1) M n fs (env.set j (.tsl a l)) S:=_root_.id (aZw ..)
theorem bA0 (a:Nat)(j:Nat):zR K O (.it a) j ops i M n fs env S=pP K O ops (i+1) M n fs (env.set j (.it a)) S:=_root_.id (bD4 ..)
theorem bA1 (f:Nat)(a b:List TV)(j:Nat):zR K O (.fn f a b) j ops i M n fs env S=pP K O ops (i+1) M n fs (env.set j (.fn f a b)) S:=_root_.id (bD5 ..)
theorem aV6 (c:List TV)(j:Nat):zR K O (.tup c) j ops i M n fs env S=pP K O ops (i+1) M n fs (env.set j (.tup c)) S:=_root_.id (aZx ..)
theorem aPv  (j:Nat):zR K O (.hole) j ops i M n fs env S=pP K O ops (i+1) M n fs (env.set j (.hole)) S:=_root_.id (aUb ..)
theorem cM {α:Type}{p:Prop}[Decidable p]{x y z:Out α}(h:p→x=z)(g:¬p→y=z):br' (decide p) x y=z:=bD7 h g
theorem cN {α:Type}{a b:Int}{x y z:Out α}(h:a=b→x=z)(g:a≠b→y=z):br' (a==b) x y=z:=bD8 h g
theorem cO {α:Type}{a b:Int}{x y z:Out α}(h:a≠b→x=z)(g:a=b→y=z):br' (a != b) x y=z:=bD9 h g
theorem aV7 (x:aC):eK K O (.mov x) i k M n fs env S=kY K O (some (cL K n env M x)) i k M n fs env S:=_root_.id (aZ6 ..)
theorem aPw (c a b:aC):eK K O (.pick c a b) i k M n fs env S=bEo K O (cL K n env M c) (cL K n env M a) (cL K n env M b) i k M n fs env S:=_root_.id (aUj ..)
theorem aKc (z:List IV)(ps:List (Nat×Nat×aC)):eK K O (.build z ps) i k M n fs env S=kY K O ((fill (z.map .iv) (cL K n env M) ps).map nJ) i k M n fs env S:=_root_.id (aN3 ..)
theorem aAu (x:aC):eK K O (.nilCheck x) i k M n fs env S=kY K O (aZz (cL K n env M x)) i k M n fs env S:=_root_.id (aDp ..)
theorem aV8 (op:BinOp)(x y:aC):eK K O (.bin op x y) i k M n fs env S=kY K O (ivO (binOp op (cL K n env M x) (cL K n env M y))) i k M n fs env S:=_root_.id (aZ7 ..)
theorem aV9 (neg:Bool)(ek:EK)(x y:aC):eK K O (.eqB neg ek x y) i k M n fs env S=kY K O (eqV neg (eqB ek (cL K n env M x) (cL K n env M y))) i k M n fs env S:=_root_.id (aZ8 ..)
theorem bA2 (op:UnOp)(x:aC):eK K O (.un op x) i k M n fs env S=kY K O (ivO (unOp op (cL K n env M x))) i k M n fs env S:=_root_.id (bEa ..)
theorem aPx (f:Nat)(a b:List aC):eK K O (.mkFn f a b) i k M n fs env S=kY K O (aMh f (a.map (cL K n env M)) (b.map (cL K n env M))) i k M n fs env S:=_root_.id (aUk ..)
theorem zS (off:Nat)(x:aC):eK K O (.fieldAddr off x) i k M n fs env S=kY K O (dJ (cL K n env M x) off) i k M n fs env S:=_root_.id (aAq ..)
theorem wD (es:Nat)(x y:aC):eK K O (.indexAddrS es x y) i k M n fs env S=kY K O (ixS es (cL K n env M x) (cL K n env M y)) i k M n fs env S:=_root_.id (zI ..)
theorem wE (len es:Nat)(x y:aC):eK K O (.indexAddrA len es x y) i k M n fs env S=kY K O (ixA len es (cL K n env M x) (cL K n env M y)) i k M n fs env S:=_root_.id (zJ ..)
theorem aHg (x y:aC):eK K O (.indexS x y) i k M n fs env S=kY K O (vN (cL K n env M x) (cL K n env M y)) i k M n fs env S:=_root_.id (aJi ..)
theorem aD3 (j:Nat)(x:aC):eK K O (.extract j x) i k M n fs env S=kY K O (xtr j (cL K n env M x)) i k M n fs env S:=_root_.id (aGn ..)
theorem aKd (a:aC):eK K O (.load1 a) i k M n fs env S=kY K O (mI false (bH env S (cL K n env M a) 1)) i k M n fs env S:=_root_.id (aN4 ..)
theorem aKe (w:Nat)(a:aC):eK K O (.loadN w a) i k M n fs env S=kY K O (mI true (bH env S (cL K n env M a) w)) i k M n fs env S:=_root_.id (aN5 ..)
theorem aKf (sk:SK)(x:aC)(lo hi mx:Option aC):eK K O (.slice sk x lo hi mx) i k M n fs env S=kY K O (slV S sk (cL K n env M x) (oI (lo.map (cL K n env M))) (oI (hi.map (cL K n env M))) (oI (mx.map (cL K n env M)))) i k M n fs env S:=_root_.id (aN6 ..)
theorem aHh (kk:KK)(z:IV)(ok:Bool)(m y:aC):eK K O (.lookup kk z ok m y) i k M n fs env S=kY K O (aK (.lookup kk z ok m y) (cL K n env M) env S) i k M n fs env S:=_root_.id (aJj ..)
theorem aWa (nk:NK)(x:aC):eK K O (.len nk x) i k M n fs env S=kY K O (aGk nk S (cL K n env M x)) i k M n fs env S:=_root_.id (aZ9 ..)
theorem aKg (kd:IntKind)(x:aC):eK K O (.conv (.toInt kd) x) i k M n fs env S=kY K O (ivO (cH (.toInt kd) (cL K n env M x))) i k M n fs env S:=_root_.id (aN7 ..)
theorem aAv (x:aC):eK K O (.conv .strBytes x) i k M n fs env S=kY K O (ivO (cH .strBytes (cL K n env M x))) i k M n fs env S:=_root_.id (aDq ..)
theorem aAw (x:aC):eK K O (.conv .bytesStr x) i k M n fs env S=kY K O (bsV (fH S (cL K n env M x))) i k M n fs env S:=_root_.id (aDr ..)
theorem aKh (w:Nat)(l:List (List IV))(es:Option (List (List TV))):aVo K O w (some l) es i k M n fs env S=mJ K O k ((i,.iv (.sl .full l))::M) n fs env S:=_root_.id (aN8 ..)
theorem aWb (z:List IV)(len:Nat)(ps:List (Nat×aC)):eK K O (.lit false z len ps) i k M n fs env S=aVo K O z.length (bAa (dG (List.replicate len (z.map .iv)) z.length (cL K n env M) ps)) (dG (List.replicate len (z.map .iv)) z.length (cL K n env M) ps) i k M n fs env S:=_root_.id (bAb ..)
theorem aPy (z:List IV)(len:Nat)(ps:List (Nat×aC)):eK K O (.lit true z len ps) i k M n fs env S=aVn K O (aDo S.length z.length (dG (List.replicate len (z.map .iv)) z.length (cL K n env M) ps)) i k M n fs env S:=_root_.id (aUl ..)
theorem aHi (t:Nat)(z:List IV):eK K O (.allocH t z) i k M n fs env S=aJ8 K O (some (.ptr S.length t 0,S++[.cells t false (z.map .iv)])) i k M n fs env:=_root_.id (aJk ..)
theorem aKi:eK K O .mkMap i k M n fs env S=aJ8 K O (some (.map S.length,S++[.mp [] 0])) i k M n fs env:=_root_.id (aOa ..)
theorem aD4 (z:List IV)(bytes:Nat)(l c:aC):eK K O (.mkSlice z bytes l c) i k M n fs env S=aVn K O (mkV z bytes S.length (cL K n env M l) (cL K n env M c)) i k M n fs env S:=_root_.id (aGp ..)
theorem aPz (t:Nat)(x:aC):eK K O (.boxH t x) i k M n fs env S=aVn K O (bEf t S.length (cL K n env M x)) i k M n fs env S:=_root_.id (aUm ..)
theorem aP0 (x y:Out (bF×Env×aA)):bAr true x y=x:=_root_.id (zK ..)
theorem aHj (j:Nat)(z:List IV):eK K O (.allocL j z) i k M n fs env S=bAr (okL j M env) (aHc K O (some (.lp j 0,env.set j (.lb (z.map .iv)),S)) i k M n fs) (eK K O (.allocL j z) i k M n fs env S):=_root_.id (aJl ..)
theorem aP1 (j:Nat)(x:aC):eK K O (.boxL j x) i k M n fs env S=bAr (okL j M env) (aHc K O (if (cellsOf (cL K n env M x)).any bL then none else some (.lp j 0,env.set j (.lb (cellsOf (cL K n env M x))),S)) i k M n fs) (eK K O (.boxL j x) i k M n fs env S):=_root_.id (aUn ..)
theorem aKj (w:Nat)(a v:aC):eK K O (.store w a v) i k M n fs env S=aHc K O (uF w env S (cL K n env M a) (cL K n env M v)) i k M n fs:=_root_.id (aOc ..)
theorem aHk (kk:KK)(m y x:aC):eK K O (.update kk m y x) i k M n fs env S=aHc K O (fB (.update kk m y x) (cL K n env M) (cP M n) env S) i k M n fs:=_root_.id (aJm ..)
theorem aKk (str:Bool)(x:aC):eK K O (.range str x) i k M n fs env S=aHc K O (aJg str env S (cL K n env M x)) i k M n fs:=_root_.id (aOd ..)
theorem aKl (x:aC):eK K O (.nextS x) i k M n fs env S=aHc K O (aUi env S (cL K n env M x)) i k M n fs:=_root_.id (aOe ..)
theorem aHl (mu:Bool)(es bytes el:Nat)(s x:aC):eK K O (.append mu es bytes el s x) i k M n fs env S=aJ8 K O (bR mu es bytes el S (cL K n env M s) (cL K n env M x)) i k M n fs env:=_root_.id (aJn ..)
theorem aP2 (args ags:List TV)(f:Nat):aPb O S args f (some ags)=bAt S args (O.call f ags []):=_root_.id (aUo ..)
theorem aHm (args:List TV)(v:TV)(S':aA):bAt S args (.ret (v,S'))=bAs S args (resolve S' v):=_root_.id (bAc ..)
theorem aP3 (args:List TV)(v:TV):bAs S args (some v)=bEt (args.any rR&&!(gM v)) S args v:=_root_.id (aUp ..)
theorem aKm (args:List TV)(v:TV):bEt false S args v=.ret (v,S):=_root_.id (aOf ..)
theorem aKn (t:Bool)(f:Nat)(args:List aC):eK K O (.call true t f args) i k M n fs env S=wC K O (aPb O S (args.map (cL K n env M)) f (dD S (args.map (cL K n env M)))) i k M n fs env:=_root_.id (aOg ..)
theorem bA3 (t:Bool)(f:Nat)(args:List TV):aVp O t S f false args=bEu t S (O.call f args S):=_root_.id (bEh ..)
theorem bEx (v:TV)(S':aA):bEu false S (.ret (v,S'))=.ret (v,S'):=_root_.id (bF9 ..)
theorem aKo (t:Bool)(f:Nat)(args:List aC):eK K O (.call false t f args) i k M n fs env S=wC K O (aVp O t S f ((args.map (cL K n env M)).any dK) (args.map (cL K n env M))) i k M n fs env:=_root_.id (aOh ..)
theorem aP4 (f:Nat)(args:List aC):eK K O (.prim f args) i k M n fs env S=aJ8 K O (prV S (K.prim f) (args.map (cL K n env M))) i k M n fs env:=_root_.id (aUq ..)
theorem aKp (v:TV):aMk S (some v)=.ret (v,S):=_root_.id (aOj ..)
theorem aWc (rs:List kN):aD0 rs (.ret (.ret,env,S))=aMk S (jW rs env S):=_root_.id (bAd ..)
theorem aHn (rs:List kN):aD0 rs (.ret (.normal,env,S))=aMk S (jW rs env S):=_root_.id (aJo ..)
theorem bA4 (rs:List kN)(B:Bool)(x y:Out (bF×Env×aA)):aD0 rs (br' B x y)=br' B (aD0 rs x) (aD0 rs y):=_root_.id (bEi ..)
theorem aD {f:Nat}{args:List TV}{fn:aN}{r:TV×aA}(hf:K.funcs f=some fn)(ha:args.length=fn.nparams)(h:aD0 fn.results (go' K (lim K) fn.body [] (args++List.replicate (fn.nlocs-fn.nparams) undef) S)=.ret r):(lim K).call f args S=.ret r:=aUr K S hf ha h
theorem aHo (b:aL):aPc O b (.ret (.normal,env,S))=er (lp' O b env S):=_root_.id (aJp ..)
theorem aWd (b:aL):aPc O b (.ret (.ret,env,S))=.ret (.ret,env,S):=_root_.id (bAe ..)
theorem aP5 (b:aL)(id:Nat):aPc O b (.ret (.exit id,env,S))=.ret (.exit id,env,S):=_root_.id (aUs ..)
theorem pK {b:aL}{r:bF×Env×aA}(h:aPc (lim K) b (go' K (lim K) b [] env S)=.ret r):lp' (lim K) b env S=.ret r:=aUt K env S h
theorem aP6 (a:aC):bEv K M n env S (.load1 a)=mI false (bH env S (cL K n env M a) 1):=_root_.id (aUu ..)
theorem aP7 (o:TOp)(l:Option Nat)(j:Nat):bEw K (some ⟨o,l,none⟩) j M n env S=rcS (bEv K M n env S o) (cL K n env M (.reg j)):=_root_.id (aUx ..)
theorem aWe (ops:List aG):aVq K ops M n env S []=true:=_root_.id (bAg ..)
theorem aP8 (ops:List aG)(j:Nat)(c:List Nat):aVq K ops M n env S (j::c)=(bEw K (uD ops j) j M n env S&&aVq K ops M n env S c):=_root_.id (aUy ..)
theorem aP9 (ops:List aG)(ps:List (Nat×List Nat×List Nat))(c fl:List Nat):mJ K O (.ph ops c fl ps) M n fs env S=bEn K O (aVq K ops M n env S c) ops fl ps M n fs env S:=_root_.id (aUz ..)
theorem go_region' (K:bG)(O:Orc)(ops:List aG)(fs:List Fr)(env:Env)(S:aA):go' K O (.region ops) fs env S=bEr K O (aB6 ops 0) ops fs env S:=_root_.id (go_region ..)
theorem aWf (K:bG)(O:Orc)(n:Nat)(f0:List Nat)(ph:List (Nat×List Nat×List Nat))(ops:List aG)(fs:List Fr)(env:Env)(S:aA):aVr K O n f0 ph ops fs env S=aHb K O ops f0 ph [] n fs env S:=_root_.id (aMj ..)
theorem go_draw' (K:bG)(O:Orc)(f0:List Nat)(ph:List (Nat×List Nat×List Nat))(ops:List aG)(fs:List Fr)(env:Env)(S:aA):go' K O (.draw f0 ph ops) fs env S=aVr K O (aB6 ops 0) f0 ph ops fs env S:=_root_.id (go_draw ..)
theorem aQa (n:Nat):aB6 [] n=n:=_root_.id (aU1 ..)
theorem aKq (a:aG)(l:List aG)(n:Nat):aB6 (a::l) n=aB6 l (n+1):=_root_.id (aOk ..)
attribute [go_sem] aVs aPd bAu aVt aVu aVv bAv aPe aPf aPg aPh aPi
attribute [go_sem] aVw aPj aPk aJ9 aPl bAw bAx aHd aD1 bAy aHe aD2
attribute [go_sem] go_skip' go_ret' go_exit' go_seq' go_block' aPm go_cond' aVx go_loop' bAz aVy aVz
attribute [go_sem] aV0 aPn aKa aPo aPp aKb aV1 aPq aV2 aPr aPs
attribute [go_sem] aV3 aPt aPu aMl aV4 aV5 aHf bA0 bA1
attribute [go_sem] aV6 aPv aV7 aPw aKc aAu aV8 aV9 bA2 aPx
attribute [go_sem] zS wD wE aHg aD3 aKd aKe aKf
attribute [go_sem] aHh aWa aKg aAv aAw aKh aWb aPy
attribute [go_sem] aHi aKi aD4 aPz aP0 aHj aP1 aKj aHk aKk aKl aHl
attribute [go_sem] aP2 aHm aP3 aKm aKn bA3 bEx
attribute [go_sem] aKo aP4 aKp aWc aHn bA4 aHo aWd aP5
attribute [go_sem] aP6
attribute [go_sem] aP7 aWe aP8 aP9 go_region' aWf go_draw'
attribute [go_sem] aQa aKq
theorem aP {b b':aL}{r:bF×Env×aA}(hb:b=b')(h:aPc (lim K) b (go' K (lim K) b' [] env S)=.ret r):lp' (lim K) b env S=.ret r:=by
 subst hb
 exact pK K env S h
end
attribute [irreducible] br' bk' go' aPa bAo aHb bEn mJ eK aVm kY aVn aJ8 aHc wC bEo pP zR bEp bEq bEr aVr bAq bEs bAp bAr aVo lp' bAs bAt aPb bEt bEu aVp aD0 aPc aMk cL aB6 bEv aVq bEw
end Go.TM
namespace Go.TM
theorem aE {m:Int}(h:-9223372036854775808≤m∧m≤9223372036854775807):IntKind.i64.wrap m=m:=by
 unfold IntKind.wrap
 simp[IntKind.bits,IntKind.signed]
 omega
theorem aR {m:Int}(h:-2147483648≤m∧m≤2147483647):IntKind.i32.wrap m=m:=by
 unfold IntKind.wrap
 simp[IntKind.bits,IntKind.signed]
 omega
theorem lI {m:Int}(h:0≤m∧m≤255):IntKind.u8.wrap m=m:=by
 unfold IntKind.wrap
 simp[IntKind.bits,IntKind.signed]
 omega
theorem bJ {m:Int}(h:0≤m∧m≤4294967295):IntKind.u32.wrap m=m:=by
 unfold IntKind.wrap
 simp[IntKind.bits,IntKind.signed]
 omega
theorem sZ {m:Int}(h:0≤m∧m≤18446744073709551615):IntKind.u64.wrap m=m:=by
 unfold IntKind.wrap
 simp[IntKind.bits,IntKind.signed]
 omega
theorem oU (m:Int):IntKind.u8.wrap m=m % 256:=by simp[IntKind.wrap,IntKind.bits,IntKind.signed]
theorem tA (m:Int):IntKind.u16.wrap m=m % 65536:=by simp[IntKind.wrap,IntKind.bits,IntKind.signed]
theorem nF (m:Int):IntKind.u32.wrap m=m % 4294967296:=by simp[IntKind.wrap,IntKind.bits,IntKind.signed]
theorem aD5 (m:Int):IntKind.u64.wrap m=m % 18446744073709551616:=by simp[IntKind.wrap,IntKind.bits,IntKind.signed]
theorem bEy {p:Prop}[Decidable p](h:p):decide p=true:=decide_eq_true h
theorem bEz {p:Prop}[Decidable p](h:¬p):decide p=false:=decide_eq_false h
theorem ifT {α:Type}{p:Prop}[Decidable p]{a b:α}(h:p):(if p then a else b)=a:=if_pos h
theorem ifF {α:Type}{p:Prop}[Decidable p]{a b:α}(h:¬p):(if p then a else b)=b:=if_neg h
theorem eqT {a b:Int}(h:a=b):(a==b)=true:=by simp[h]
theorem eqF {a b:Int}(h:a≠b):(a==b)=false:=by simp[h]
theorem neT {a b:Int}(h:a≠b):(a != b)=true:=by simp[h]
theorem neF {a b:Int}(h:a=b):(a != b)=false:=by simp[h]
def one {α:Type}(f:α→IV)(l:List α):List (List IV):=l.map fun a=>[f a]
def u8 (b:UInt8):IV:=.int .u8 b.toNat
def i64 (n:Int):IV:=.int .i64 n
theorem cB {α:Type}(f:α→IV)(l:List α):(one f l).length=l.length:=by simp[one]
theorem dU (l:List UInt8):(aF l).length=l.length:=by simp[aF]
theorem zT {α:Type}(f:α→IV)(l:List α):nN 1 (one f l)=true:=by cases l<;>rfl
theorem aHp {α:Type}(f:α→IV)(l:List α)(n:Nat):(one f l).take n=one f (l.take n):=by simp[one]
theorem aHq {α:Type}(f:α→IV)(l:List α)(n:Nat):(one f l).drop n=one f (l.drop n):=by simp[one]
theorem aKr {α:Type}(f:α→IV)(l m:List α):one f l++one f m=one f (l++m):=by simp[one]
def jC (t:Tag)(n b:Nat):Tag:=match t with
 | .nil=>.nil
 | .no=>.no
 | .full=>if n=b then .full else .no
def cF {α:Type}(t:Tag)(l:List α):Prop:=t=.nil→l=[]
theorem cF.no {α:Type}(l:List α):cF .no l:=fun h=>by cases h
theorem cF.nil {α:Type}:cF .nil ([]:List α):=fun _=>rfl
theorem cF.cut {α:Type}{t:Tag}{l:List α}(h:cF t l)(a b n:Nat):cF (jC t n b) ((l.drop a).take (b-a)):=by
 intro e
 have:t=.nil:=by cases t<;>simp[jC]at e ⊢; split at e<;>cases e
 rw[h this]; simp
theorem zU {t:Tag}{l:List (List IV)}{a b:Int}(ht:cF t l)(h:0≤a∧a≤b∧b≤l.length):eY t l (some a) (some b) none=some (.sl (jC t l.length b.toNat) ((l.drop a.toNat).take (b.toNat-a.toNat))):=by
 obtain⟨h1,h2,h3⟩:=h
 have h2':(a:Int)≤((b.toNat:Nat):Int):=by omega
 have h0:0≤b:=by omega
 have e0:((0:Nat):Int)≤b:=h0
 cases t with
 | nil =>
  have:=ht rfl
  subst this
  simp at h3
  obtain rfl:b=0:=by omega
  obtain rfl:a=0:=by omega
  simp[eY,eL,kQ,jC]
 | full =>
  simp only[eY,eL,kQ,h0,h1,h3,h2',and_self,↓reduceIte,jC]
 | no =>
  simp only[eY,eL,kQ,h0,h1,h3,h2',and_self,↓reduceIte,jC]
theorem aKs {t:Tag}{l:List (List IV)}{b:Int}(ht:cF t l)(h:0≤b∧b≤l.length):eY t l none (some b) none=some (.sl (jC t l.length b.toNat) (l.take b.toNat)):=by
 have:=zU (a:=0) (b:=b) ht (by omega)
 simp only[Int.toNat_zero,List.drop_zero,Nat.sub_zero]at this
 rw[←this]
 cases t<;>simp[eY,eL,kQ]
theorem aKt {t:Tag}{l:List (List IV)}{a:Int}(ht:cF t l)(h:0≤a∧a≤l.length):eY t l (some a) none none=some (.sl t (l.drop a.toNat)):=by
 obtain⟨h1,h3⟩:=h
 cases t with
 | nil =>
  have:=ht rfl
  subst this
  simp at h3
  obtain rfl:a=0:=by omega
  simp[eY,eL,kQ]
 | full =>
  have e:List.take (l.length-a.toNat) (List.drop a.toNat l)=List.drop a.toNat l:=List.take_of_length_le (by simp)
  simp only[eY,eL,kQ,h1,h3,and_self,↓reduceIte,e]
 | no =>
  have e:List.take (l.length-a.toNat) (List.drop a.toNat l)=List.drop a.toNat l:=List.take_of_length_le (by simp)
  simp only[eY,eL,kQ,h1,h3,and_self,↓reduceIte,e]
theorem aWg (S:aA){t:Tag}{w:Nat}{l:List (List IV)}{a b:Int}(ht:cF t l)(hf:nN w l=true)(h:0≤a∧a≤b∧b≤l.length):cZ S (.sl w) (.iv (.sl t l)) (some a) (some b) none=some (.iv (.sl (jC t l.length b.toNat) ((l.drop a.toNat).take (b.toNat-a.toNat)))):=by
 simp only[cZ,hf,↓reduceIte,zU ht h,Option.map_some]
theorem aWh (S:aA){t:Tag}{w:Nat}{l:List (List IV)}{b:Int}(ht:cF t l)(hf:nN w l=true)(h:0≤b∧b≤l.length):cZ S (.sl w) (.iv (.sl t l)) none (some b) none=some (.iv (.sl (jC t l.length b.toNat) (l.take b.toNat))):=by
 simp only[cZ,hf,↓reduceIte,aKs ht h,Option.map_some]
theorem aWi (S:aA){t:Tag}{w:Nat}{l:List (List IV)}{a:Int}(ht:cF t l)(hf:nN w l=true)(h:0≤a∧a≤l.length):cZ S (.sl w) (.iv (.sl t l)) (some a) none none=some (.iv (.sl t (l.drop a.toNat))):=by
 simp only[cZ,hf,↓reduceIte,aKt ht h,Option.map_some]
theorem aD6 {α:Type}{f:α→IV}{t:Tag}{l:List α}(h:cF t l):cF t (one f l):=fun e=>by rw[h e]; rfl
theorem aQb {α:Type}{f:α→IV}(S:aA){t:Tag}{l:List α}{a b:Int}(ht:cF t l)(h:0≤a∧a≤b∧b≤l.length):cZ S (.sl 1) (.iv (.sl t (one f l))) (some a) (some b) none=some (.iv (.sl (jC t l.length b.toNat) (one f ((l.drop a.toNat).take (b.toNat-a.toNat))))):=by
 rw[aWg S (aD6 ht) (zT f l) (by rw[cB]; exact h),cB,aHq,aHp]
theorem aD7 {α:Type}{f:α→IV}(S:aA){t:Tag}{l:List α}{b:Int}(ht:cF t l)(h:0≤b∧b≤l.length):cZ S (.sl 1) (.iv (.sl t (one f l))) none (some b) none=some (.iv (.sl (jC t l.length b.toNat) (one f (l.take b.toNat)))):=by
 rw[aWh S (aD6 ht) (zT f l) (by rw[cB]; exact h),cB,aHp]
theorem aD8 {α:Type}{f:α→IV}(S:aA){t:Tag}{l:List α}{a:Int}(ht:cF t l)(h:0≤a∧a≤l.length):cZ S (.sl 1) (.iv (.sl t (one f l))) (some a) none none=some (.iv (.sl t (one f (l.drop a.toNat)))):=by
 rw[aWi S (aD6 ht) (zT f l) (by rw[cB]; exact h),aHq]
theorem zV (S:aA){t:Tag}{l:List UInt8}{a:Int}(ht:cF t l)(h:0≤a∧a≤l.length):cZ S (.sl 1) (.iv (.sl t (aF l))) (some a) none none=some (.iv (.sl t (aF (l.drop a.toNat)))):=aD8 (f:=u8) S ht h
theorem aD9 (S:aA){s:List UInt8}{b:Int}(h:0≤b∧b≤s.length):cZ S .str (.iv (.str s)) none (some b) none=some (.iv (.str (s.take b.toNat))):=by
 simp only[cZ,eL,kQ,h,and_self,↓reduceIte]
 simp
theorem tB (S:aA){s:List UInt8}{a:Int}(h:0≤a∧a≤s.length):cZ S .str (.iv (.str s)) (some a) none none=some (.iv (.str (s.drop a.toNat))):=by
 have e:List.take (s.length-a.toNat) (List.drop a.toNat s)=List.drop a.toNat s:=List.take_of_length_le (by simp)
 simp only[cZ,eL,kQ,h,and_self,↓reduceIte,e]
theorem aHr {w:Nat}{t:Tag}{l:List (List IV)}{i:Int}{c:List IV}(h:0≤i)(hc:l[i.toNat]? = some c)(hw:c.length=w):indexAddrS w (.iv (.sl t l)) i=some (.iv (.cp c)):=by
 have:¬i<0:=by omega
 simp only[indexAddrS,this,↓reduceIte,hc,hw]
theorem aWj {w j:Nat}{l:List (List IV)}{i:Int}{c:List IV}(h:0≤i)(hc:l[i.toNat]? = some c)(hw:c.length=w):indexAddrS w (.tsl j l) i=some (.iv (.cp c)):=by
 have:¬i<0:=by omega
 simp only[indexAddrS,this,↓reduceIte,hc,hw]
theorem bA5 {α:Type}(f:α→IV)(l:List α)(n:Nat):(one f l)[n]? = (l[n]?).map fun a=>[f a]:=by simp[one]
theorem rD {α:Type}[Inhabited α](f:α→IV){t:Tag}{l:List α}{i:Int}(h:0≤i∧i<l.length):indexAddrS 1 (.iv (.sl t (one f l))) i=some (.iv (.cp [f (l.getD i.toNat default)])):=by
 refine aHr h.1 ?_ rfl
 have:i.toNat<l.length:=by omega
 rw[bA5,List.getElem?_eq_getElem this]
 simp[List.getD,List.getElem?_eq_getElem this]
theorem aWk {t:Tag}{l:List UInt8}{i:Int}(h:0≤i∧i<l.length):indexAddrS 1 (.iv (.sl t (aF l))) i=some (.iv (.cp [.int .u8 (l.getD i.toNat 0).toNat])):=rD u8 h
theorem zW {s:List UInt8}{i:Int}{kd:IntKind}(h:0≤i∧i<s.length):vN (.iv (.str s)) (.iv (.int kd i))=some (.iv (.int .u8 (s.getD i.toNat 0).toNat)):=by
 have:i.toNat<s.length:=by omega
 simp only[aB2,h.1,↓reduceIte,List.getElem?_eq_getElem this,Option.map_some,List.getD,Option.getD_some]
theorem aEa (env:Env)(S:aA)(x:IV)(l:List IV):bH env S (.iv (.cp (x::l))) 1=some [.iv x]:=by simp[bH,sub]
end Go.TM
namespace Go.TM
theorem hG {w:Nat}{a:Int}(h:0≤a∧a<2 ^ w):(BitVec.ofInt w a).toNat=a.toNat:=by
 rw[BitVec.toNat_ofInt]
 have:a % ((2 ^ w:Nat):Int)=a:=Int.emod_eq_of_lt h.1 (by push_cast; exact h.2)
 rw[this]
theorem aHs {w k:Nat}{a:Int}(h:0≤a∧a<2 ^ w)(hk:(2:Int) ^ k-1<2 ^ w):(BitVec.ofInt w a &&& BitVec.ofInt w (2 ^ k-1)).toNat=(a % 2 ^ k).toNat:=by
 have h1:(0:Int)≤2 ^ k-1:=by have:=Int.pow_pos (n:=2) (m:=k) (by decide); omega
 rw[BitVec.toNat_and,hG h,hG ⟨h1,hk⟩]
 have e:((2:Int) ^ k-1).toNat=2 ^ k-1:=by
  have:(2:Int) ^ k=((2 ^ k:Nat):Int):=by push_cast; rfl
  rw[this]; omega
 rw[e,Nat.and_two_pow_sub_one_eq_mod]
 obtain⟨n,rfl⟩:=Int.eq_ofNat_of_zero_le h.1
 have:((n:Int) % 2 ^ k)=((n % 2 ^ k:Nat):Int):=by push_cast; rfl
 rw[Int.toNat_natCast,this]; exact (Int.toNat_natCast _).symm
theorem aEb {w k:Nat}{a b:Int}(ha:0≤a∧a<2 ^ w)(hb:0≤b∧b<2 ^ k)(hk:(2:Int) ^ k≤2 ^ w)(hm:a % 2 ^ k=0):(BitVec.ofInt w a ||| BitVec.ofInt w b).toNat=(a+b).toNat:=by
 rw[BitVec.toNat_or,hG ha,hG ⟨hb.1,by omega⟩]
 obtain⟨n,rfl⟩:=Int.eq_ofNat_of_zero_le ha.1
 obtain⟨m,rfl⟩:=Int.eq_ofNat_of_zero_le hb.1
 have hm':n % 2 ^ k=0:=by
  have:((n % 2 ^ k:Nat):Int)=0:=by rw[←hm]; push_cast; rfl
  omega
 have hb':m<2 ^ k:=by
  have:=hb.2
  have e:((2:Int) ^ k)=((2 ^ k:Nat):Int):=by push_cast; rfl
  rw[e]at this; omega
 obtain⟨c,rfl⟩:=Nat.dvd_of_mod_eq_zero hm'
 simp only[Int.toNat_natCast]
 rw[←Nat.two_pow_add_eq_or_of_lt hb']
 omega
theorem zX {k m:Nat}(h:k≤m):(2:Int) ^ k≤2 ^ m:=by
 have:=Nat.pow_le_pow_right (n:=2) (by decide) h
 exact_mod_cast this
theorem aEc {k:Nat}{a m:Int}(h:0≤a∧a≤255)(hk:k≤8)(hm:m=2 ^ k-1):IntKind.u8.wrap (fP 8 a m)=a % 2 ^ k:=by
 subst hm
 have h2:(2:Int) ^ k≤2 ^ 8:=zX hk
 have h3:(0:Int)<2 ^ k:=Int.pow_pos (by decide)
 have h4:=Int.emod_nonneg a (show (2:Int) ^ k≠0 by omega)
 have h5:=Int.emod_lt_of_pos a h3
 unfold fP
 rw[aHs (k:=k) ⟨h.1,by omega⟩ (by omega)]
 rw[lI (by omega)]
 omega
theorem aKu {k:Nat}{a b:Int}(ha:0≤a∧a≤2147483647-2 ^ k)(hk:k<31)(hb:0≤b∧b<2 ^ k)(hm:a % 2 ^ k=0):IntKind.i32.wrap (bOr 32 a b)=a+b:=by
 have h2:(2:Int) ^ k≤2 ^ 31:=zX (by omega)
 unfold bOr
 rw[aEb (k:=k) ⟨ha.1,by omega⟩ hb (by omega) hm]
 rw[aR (by omega)]
 omega
theorem aS {a:Int}(h:0≤a∧a≤255):IntKind.u8.wrap (fP 8 a 31)=a % 32:=aEc (k:=5) h (by decide) (by decide)
theorem aT {a:Int}(h:0≤a∧a≤255):IntKind.u8.wrap (fP 8 a 15)=a % 16:=aEc (k:=4) h (by decide) (by decide)
theorem bA {a:Int}(h:0≤a∧a≤255):IntKind.u8.wrap (fP 8 a 7)=a % 8:=aEc (k:=3) h (by decide) (by decide)
theorem aO {a:Int}(h:0≤a∧a≤255):IntKind.u8.wrap (fP 8 a 63)=a % 64:=aEc (k:=6) h (by decide) (by decide)
theorem bB {a b:Int}(ha:0≤a∧a≤1000000000∧a % 64=0)(hb:0≤b∧b<64):IntKind.i32.wrap (bOr 32 a b)=a+b:=aKu (k:=6) ⟨ha.1,by have:=ha.2.1; omega⟩ (by decide) hb ha.2.2
theorem aU {a b:Int}(ha:0≤a∧a≤1000000000∧a % 4096=0)(hb:0≤b∧b<4096):IntKind.i32.wrap (bOr 32 a b)=a+b:=aKu (k:=12) ⟨ha.1,by have:=ha.2.1; omega⟩ (by decide) hb ha.2.2
theorem aV {a b:Int}(ha:0≤a∧a≤1000000000∧a % 262144=0)(hb:0≤b∧b<262144):IntKind.i32.wrap (bOr 32 a b)=a+b:=aKu (k:=18) ⟨ha.1,by have:=ha.2.1; omega⟩ (by decide) hb ha.2.2
theorem aEd {a:Int}(h:0≤a∧a≤2147483647):IntKind.i32.wrap (pJ 32 a 0)=a:=by
 have e:BitVec.ofInt 32 a &&& ~~~ BitVec.ofInt 32 0=BitVec.ofInt 32 a:=by
  have : ~~~ BitVec.ofInt 32 0=BitVec.allOnes 32:=by decide
  rw[this,BitVec.and_allOnes]
 unfold pJ
 rw[e,hG ⟨h.1,by omega⟩,aR (by omega)]
 omega
theorem aEe (a:Int):IntKind.i32.wrap (pJ 32 a (-1))=0:=by
 have e:BitVec.ofInt 32 a &&& ~~~ BitVec.ofInt 32 (-1)=0#32:=by
  have : ~~~ BitVec.ofInt 32 (-1)=0#32:=by decide
  rw[this]; simp
 unfold pJ
 rw[e]; decide
theorem aEf {k:Nat}{a b:Int}(ha:0≤a∧a≤255)(hb:0≤b∧b<2 ^ k)(hab:a+b≤255)(hk:k≤8)(hm:a % 2 ^ k=0):IntKind.u8.wrap (bOr 8 a b)=a+b:=by
 have h2:(2:Int) ^ k≤2 ^ 8:=zX hk
 unfold bOr
 rw[aEb (k:=k) ⟨ha.1,by omega⟩ hb (by omega) hm]
 rw[lI (by omega)]
 omega
theorem bA6 {a b:Int}(h:0≤a∧a≤255∧a % 8=0∧0≤b∧b<8):IntKind.u8.wrap (bOr 8 a b)=a+b:=aEf (k:=3) (by omega) (by omega) (by omega) (by omega) h.2.2.1
theorem aMm {a b:Int}(h:0≤a∧a≤255∧a % 16=0∧0≤b∧b<16):IntKind.u8.wrap (bOr 8 a b)=a+b:=aEf (k:=4) (by omega) (by omega) (by omega) (by omega) h.2.2.1
theorem bA7 {a b:Int}(h:0≤a∧a≤255∧a % 32=0∧0≤b∧b<32):IntKind.u8.wrap (bOr 8 a b)=a+b:=aEf (k:=5) (by omega) (by omega) (by omega) (by omega) h.2.2.1
theorem wW {a b:Int}(h:0≤a∧a≤255∧a % 64=0∧0≤b∧b<64):IntKind.u8.wrap (bOr 8 a b)=a+b:=aEf (k:=6) (by omega) (by omega) (by omega) (by omega) h.2.2.1
theorem aWl {env:Env}{S:aA}{cs:List IV}{n:Nat}{x:IV}(h:cs[n]? = some x):bH env S (.iv (.cp (cs.drop n))) 1=some [.iv x]:=by
 have hn:n<cs.length:=by
  rcases Nat.lt_or_ge n cs.length with h1|h1
  ·exact h1
  ·rw[List.getElem?_eq_none h1]at h; cases h
 rw[List.drop_eq_getElem_cons hn,aEa]
 rw[List.getElem?_eq_getElem hn]at h
 rw[Option.some.inj h]
theorem aQc {cs:List IV}{n:Nat}(h:n≤cs.length):dJ (.iv (.cp cs)) n=some (.iv (.cp (cs.drop n))):=by
 simp only[dJ,h,↓reduceIte]
end Go.TM
namespace Go.TM
theorem zY {α:Type}{w:Nat}:∀ {l:List (List α)},(∀y∈l,y.length=w)→(bM l).length=l.length*w
 | [],_=>by simp[bM]
 | a::l,h=>by
  have h1:=h a (by simp)
  have h2:=zY (l:=l) (fun y hy=>h y (by simp[hy]))
  simp only[bM,List.length_append,List.length_cons,h1,h2,Nat.add_mul]
  omega
theorem oV {α:Type}{w:Nat}:∀ {l:List (List α)},(∀y∈l,y.length=w)→dI w l.length (bM l)=l
 | [],_=>rfl
 | a::l,h=>by
  have h1:=h a (by simp)
  have h2:=oV (l:=l) (fun y hy=>h y (by simp[hy]))
  simp only[bM,List.length_cons,dI]
  rw[←h1,List.take_left',List.drop_left',h1,h2]<;>rfl
theorem uG:∀(l:List IV),toIVs (l.map .iv)=some l
 | []=>rfl
 | a::l=>by rw[List.map_cons,zQ,aG5,uG l,zM]
def jD:IV→Bool
 | .agg _=>false
 | _=>true
theorem wX:∀ {l:List IV},l.all jD=true→(l.map TV.iv).any bL=false
 | [],_=>rfl
 | a::l,h=>by
  simp only[List.all_cons,Bool.and_eq_true]at h
  simp only[List.map_cons,List.any_cons,wX h.2,Bool.or_false]
  cases a<;>first|rfl|simp[jD]at h
theorem zZ:∀ {l:List (List IV)},(∀y∈l,y.all jD=true)→(bM l).all jD=true
 | [],_=>rfl
 | a::l,h=>by
  simp only[bM,List.all_append,Bool.and_eq_true]
  exact⟨h a (by simp),zZ (fun y hy=>h y (by simp[hy]))⟩
theorem aHt {w:Nat}:∀ {l:List (List IV)},(∀y∈l,y.length=w)→nN w l=true
 | [],_=>rfl
 | a::l,h=>by simp[nN,h a (by simp)]
theorem aWm {α:Type}[Inhabited α]{w:Nat}{f:α→List IV}(hw:∀a,(f a).length=w){t:Tag}{l:List α}{i:Int}(h:0≤i∧i<l.length):indexAddrS w (.iv (.sl t (l.map f))) i=some (.iv (.cp (f (l.getD i.toNat default)))):=by
 refine aHr h.1 ?_ (hw _)
 have:i.toNat<l.length:=by omega
 rw[List.getElem?_map,List.getElem?_eq_getElem this]
 simp[List.getD,List.getElem?_eq_getElem this]
theorem aHu (env:Env)(S:aA)(cs:List IV)(n:Nat):bH env S (.iv (.cp cs)) n=(sub cs 0 n).map (·.map .iv):=id rfl
theorem aAa {α:Type}{l:List α}{d:α}{i:Nat}(h:i<l.length):l.take (i+1)=l.take i++[l.getD i d]:=by
 rw[List.take_succ_eq_append_getElem h]
 simp[List.getD,List.getElem?_eq_getElem h]
def Pure (K:bG)(f:Nat)(ags:List TV)(v:TV):Prop:=∃r S,(lim K).call f ags []=.ret (r,S)∧resolve S r=some v
theorem dC {K:bG}{f:Nat}{ags:List TV}{v r:TV}{S:aA}(h:(lim K).call f ags []=.ret (r,S))(hr:resolve S r=some v):Pure K f ags v:=⟨r,S,h,hr⟩
theorem aJ {K:bG}{f:Nat}{ags:List TV}{v:TV}(h:Pure K f ags v)(S:aA)(args:List TV):bAt S args ((lim K).call f ags [])=bAs S args (some v):=by
 obtain⟨r,S',h1,h2⟩:=h
 rw[h1,aHm,h2]
def bA8 (v:Option TV):Out TV:=match v with
 | some v=>.ret v
 | none => .fail ""
theorem cU (v:TV):bA8 (some v)=.ret v:=id rfl
def aQd (x:Out (TV×aA)):Out TV:=x.bind fun r=>bA8 (resolve r.2 r.1)
theorem dH (r:TV)(S:aA):aQd (.ret (r,S))=bA8 (resolve S r):=id rfl
theorem bA9 (B:Bool)(x y:Out (TV×aA)):aQd (br' B x y)=br' B (aQd x) (aQd y):=by unfold br'; cases B<;>rfl
attribute [go_sem] cU dH bA9
theorem bP {K:bG}{f:Nat}{args:List TV}(fn:aN){v:TV}(hf:K.funcs f=some fn)(ha:args.length=fn.nparams)(h:aQd (aD0 fn.results (go' K (lim K) fn.body [] (args++List.replicate (fn.nlocs-fn.nparams) undef) []))=.ret v):Pure K f args v:=by
 generalize hx:aD0 fn.results (go' K (lim K) fn.body [] (args++List.replicate (fn.nlocs-fn.nparams) undef) [])=x at h
 cases x with
 | ret r =>
  obtain⟨r,S⟩:=r
  refine⟨r,S,aD K [] hf ha hx,?_⟩
  simp only[aQd,Out.bind,bA8]at h
  cases hr:resolve S r with
  | none=>rw[hr]at h; cases h
  | some u=>rw[hr]at h; cases h; rfl
 | fail s=>cases h
 | pick n k=>cases h
def eR (w:Nat)(l:List (List IV)):Prop:=∀y∈l,y.length=w∧y.all jD=true
theorem eR.map {α:Type}{w:Nat}{f:α→List IV}(h:∀a,(f a).length=w∧(f a).all jD=true)(l:List α):eR w (l.map f):=by
 intro y hy
 obtain⟨a,_,rfl⟩:=List.mem_map.1 hy
 exact h a
theorem eR.one {α:Type}{f:α→IV}(h:∀a,jD (f a)=true)(l:List α):eR 1 (one f l) :=
 eR.map (f:=fun a=>[f a]) (fun a=>⟨rfl,by simp[h a]⟩) l
theorem eR.bytes (l:List UInt8):eR 1 (aF l):=eR.one (f:=u8) (fun _=>rfl) l
def iL (S:aA)(x:TV)(ys:List (List IV)):Prop:=hU S x=some ((bM ys).map .iv)∧lenOf S x=some ys.length
theorem iL.sl (S:aA)(t:Tag)(ys:List (List IV)):iL S (.iv (.sl t ys)) ys:=⟨rfl,rfl⟩
theorem iL.tsl (S:aA)(j:Nat)(ys:List (List IV)):iL S (.tsl j ys) ys:=⟨rfl,rfl⟩
theorem eS {n b:Nat}(h:n*b≤35184372088832∧b≤1048576∧n≤35184372088832):fF n b=true:=by
 simp[fF,h]
theorem aEg {w b el i:Nat}{S:aA}{l ys:List (List IV)}{x:TV}(hx:iL S x ys)(hw:eR w ys)(hl:eR w l)(hS:S[i]? = some (.tok l.length w el))(hr:fF (l.length+ys.length) b=true) :
  bR false w b el S (.tsl i l) x=some (.tsl i (l++ys),S.set i (.tok (l.length+ys.length) w el)):=by
 obtain⟨h1,h2⟩:=hx
 have hf:=zY (w:=w) (fun y hy=>(hw y hy).1)
 have ha:=wX (zZ (fun y hy=>(hw y hy).2))
 simp only[bR,h1,h2,List.length_map,hf,ne_eq,not_true_eq_false,ha,Bool.false_eq_true,or_self,↓reduceIte]
 by_cases hm:ys.length=0
 ·have:ys=[]:=List.eq_nil_of_length_eq_zero hm
  subst this
  simp only[hm,↓reduceIte,aFe,List.append_nil,Nat.add_zero]
  have hi:i<S.length:=by
   rcases Nat.lt_or_ge i S.length with h3|h3
   ·exact h3
   ·rw[List.getElem?_eq_none h3]at hS; cases hS
  rw[List.getElem?_eq_getElem hi]at hS
  have e:S.set i (.tok l.length w el)=S:=by rw[←Option.some.inj hS]; exact List.set_getElem_self hi
  simp[e]
 ·simp only[hm,↓reduceIte,hS,uG,aHt (fun y hy=>(hl y hy).1),hr,decide_true,Bool.and_self,oV (fun y hy=>(hw y hy).1)]
theorem aEh {w b el:Nat}{S:aA}{t:Tag}{l ys:List (List IV)}{x:TV}(ht:t≠.no)(hx:iL S x ys)(hw:eR w ys)(hl:eR w l)(h0:ys≠[])(hr:fF (l.length+ys.length) b=true) :
  bR false w b el S (.iv (.sl t l)) x=some (.tsl S.length (l++ys),S++[.tok (l.length+ys.length) w el]):=by
 obtain⟨h1,h2⟩:=hx
 have hf:=zY (w:=w) (fun y hy=>(hw y hy).1)
 have ha:=wX (zZ (fun y hy=>(hw y hy).2))
 have hm:¬ys.length=0:=fun e=>h0 (List.eq_nil_of_length_eq_zero e)
 have ht':(t==.no)=false:=by cases t<;>first|rfl|exact absurd rfl ht
 simp only[bR,h1,h2,List.length_map,hf,ne_eq,not_true_eq_false,ha,Bool.false_eq_true,or_self,↓reduceIte,hm,ht',aHt (fun y hy=>(hl y hy).1),hr,Bool.not_true,Bool.or_self,uG,oV (fun y hy=>(hw y hy).1)]
theorem aEi {mu:Bool}{w b el:Nat}{S:aA}{s x:TV}(hs:aFe s=true)(hx:iL S x []):bR mu w b el S s x=some (s,S):=by
 obtain⟨h1,h2⟩:=hx
 simp[bR,h1,h2,bM,hs]
def acc (i:Nat)(l:List (List IV)):TV:=if l=[] then .iv (.sl .nil []) else .tsl i l
theorem fL (i:Nat):acc i []=.iv (.sl .nil []):=by simp[acc]
theorem iI (i:Nat){l:List (List IV)}(h:l≠[]):acc i l=.tsl i l:=by simp[acc,h]
def lS (w el:Nat)(l:List (List IV)):aA:=if l=[] then [] else [.tok l.length w el]
theorem jU (w el:Nat):lS w el []=[]:=by simp[lS]
theorem pL (w el:Nat){l:List (List IV)}(h:l≠[]):lS w el l=[.tok l.length w el]:=by simp[lS,h]
theorem bE0 {w b el:Nat}{l ys:List (List IV)}{x:TV}(hx:∀S,iL S x ys)(hw:eR w ys)(hl:eR w l)(hr:fF (l.length+ys.length) b=true) :
  bR false w b el (lS w el l) (acc 0 l) x=some (acc 0 (l++ys),lS w el (l++ys)):=by
 by_cases h:l=[]
 ·subst h
  by_cases h0:ys=[]
  ·subst h0
   rw[fL,jU,aEi rfl (hx _)]; rfl
  ·rw[fL,jU,aEh (by decide) (hx _) hw hl h0 hr,List.nil_append,iI _ h0,pL _ _ h0]
   simp
 ·have h2:l++ys≠[]:=by simp[h]
  rw[iI _ h,pL _ _ h,aEg (hx _) hw hl rfl hr,iI _ h2,pL _ _ h2]
  simp
theorem fQ (S:aA)(i:Nat)(l:List (List IV)):aGk .sl S (acc i l)=some (.iv (.int .i64 l.length)):=by
 unfold acc; split
 ·rename_i h; subst h; rfl
 ·rfl
def kJ {α:Type}(l:List α):Tag:=match l with
 | []=>.nil
 | _=>.no
theorem nG {α:Type}(l:List α):cF (kJ l) l:=by
 cases l with
 | nil=>exact fun _=>rfl
 | cons a l=>intro h; cases h
theorem tC {α β:Type}(f:α→β)(l:List α):kJ (l.map f)=kJ l:=by cases l<;>rfl
theorem aQe (S:aA)(i:Nat)(l:List (List IV)):aFf S (acc i l)=some (.sl (kJ l) l):=by cases l<;>rfl
theorem vR (S:aA)(i:Nat)(l:List (List IV)):resolve S (acc i l)=some (.iv (.sl (kJ l) l)):=by cases l<;>rfl
theorem wY {w b el:Nat}{l:List (List IV)}{t:Tag}{c:List IV}(hc:c.length=w∧c.all jD=true)(hl:eR w l)(hr:fF (l.length+1) b=true) :
  bR false w b el (lS w el l) (acc 0 l) (.iv (.sl t [c]))=some (acc 0 (l++[c]),lS w el (l++[c])) :=
 bE0 (fun S=>iL.sl S t [c]) (by intro y hy; simp at hy; subst hy; exact hc) hl hr
theorem bBa {w b el:Nat}(B:aW){l ys:List (List IV)}{x:TV}(hx:∀S,iL S x ys)(hw:eR w ys)(hl:eR w l)(hr:fF (l.length+ys.length) b=true) :
  bR false w b el (B::lS w el l) (acc 1 l) x=some (acc 1 (l++ys),B::lS w el (l++ys)):=by
 by_cases h:l=[]
 ·subst h
  by_cases h0:ys=[]
  ·subst h0
   rw[fL,jU,aEi rfl (hx _)]; rfl
  ·rw[fL,jU,aEh (by decide) (hx _) hw hl h0 hr,List.nil_append,iI _ h0,pL _ _ h0]
   simp
 ·have h2:l++ys≠[]:=by simp[h]
  rw[iI _ h,pL _ _ h,aEg (hx _) hw hl rfl hr,iI _ h2,pL _ _ h2]
  simp
theorem aWn {w b el:Nat}(B:aW){l:List (List IV)}{t:Tag}{c:List IV}(hc:c.length=w∧c.all jD=true)(hl:eR w l)(hr:fF (l.length+1) b=true) :
  bR false w b el (B::lS w el l) (acc 1 l) (.iv (.sl t [c]))=some (acc 1 (l++[c]),B::lS w el (l++[c])) :=
 bBa B (fun S=>iL.sl S t [c]) (by intro y hy; simp at hy; subst hy; exact hc) hl hr
theorem aQf (env:Env)(s:List UInt8)(pos:Nat)(R:aA):aUi env (.sit s pos::R) (.it 0)=if pos<s.length then some (.tup [.iv (.bool true),.iv (.int .i64 pos),.iv (.int .i32 (Utf8.decode ⟨s.toArray⟩ pos).1)],env,.sit s (pos+(Utf8.decode ⟨s.toArray⟩ pos).2)::R) else some (.tup [.iv (.bool false)],env,.sit s pos::R):=id rfl
attribute [go_sem] aQf
theorem bBb (K:bG)(O:Orc)(j i':Nat)(l:List (List IV))(ops:List aG)(i:Nat)(M:List (Nat×TV))(n:Nat)(fs:List Fr)(env:Env)(S:aA):zR K O (acc i' l) j ops i M n fs env S=pP K O ops (i+1) M n fs (env.set j (acc i' l)) S:=by
 unfold acc; split
 ·exact aMl K O ops i M n fs env S _ j
 ·exact aHf K O ops i M n fs env S _ _ j
theorem tD (j i:Nat)(l:List (List IV)):sX j (acc i l)=acc i l:=by unfold acc; split<;>rfl
theorem aWo (i:Nat)(l:List (List IV)):dK (acc i l)=false:=by unfold acc; split<;>rfl
theorem aHv (i:Nat)(l:List (List IV)):bAk (acc i l)=some (acc i l):=by unfold acc; split<;>rfl
attribute [go_sem] aQe vR bBb tD aWo aHv fQ
end Go.TM
namespace Go.TM
open Go Go.ChangeShapes Go.WideShapes Go.RowKit
variable {P:Program}{H:Type}{enc:TypeId×Value→H}{W:World}
def nM (P:Program){H:Type}:List TypeId→List (DataW H)→List (List IV)→Prop
 | [],[],[]=>True
 | t::ts,d::ds,l::ls=>Ty P t d l∧nM P ts ds ls
 | _,_,_=>False
def aEj (P:Program):List TypeId→List (List IV)→List TV
 | t::ts,l::ls=>aTj P t l::aEj P ts ls
 | _,_=>[]
theorem aMn {ts:List TypeId}(hts:aNr P ts=true){r:Reach}{b base:Nat}{held:Bool}:∀ {params:List TypeId} {vals:List Value} {ds:List (DataW H)} {ps:List MemPlace},(∀t∈params,t∈ts)→(∀(j:Nat) t v,params[j]? = some t→vals[j]? = some v→Value.okWide P W r b t v) →
  DataW.TrodAll enc P W base (fun _=>true) held params vals ds ps→∃ls,nM P params ds ls∧VRs (dY W) [] [] (aEj P params ls) vals
 | [],vals,ds,ps,_,_,h=>by
  obtain⟨rfl,rfl,rfl⟩:=trodAll_nil h
  exact⟨[],trivial,VRs.nil⟩
 | t::params,vals,ds,ps,hp,hv,h=>by
  obtain⟨v,vs',d,ds',p,q,rfl,rfl,rfl,h1,h2⟩:=trodAll_cons h
  obtain⟨l,k1,k2⟩:=bDx hts (hp t (by simp)) (hv 0 t v rfl rfl) h1
  obtain⟨ls,k3,k4⟩:=aMn hts (fun u hu=>hp u (by simp[hu])) (fun j u w hu hw=>hv (j+1) u w (by simpa using hu) (by simpa using hw)) h2
  exact⟨l::ls,⟨k1,k3⟩,VRs.cons k2 k4⟩
theorem aB7 {ds:List (DataW H)}{ls:List (List IV)}(h:nM P [] ds ls):ls=[]:=by
 cases ds<;>cases ls<;>first|rfl|exact h.elim
theorem aKv {P:Program}{ts:Array TypeId}{q:TypeId→Bool}(h:ts.toList.all (fun t=>!(q t))=true)(j:Nat)(t:TypeId)(ht:ts[j]? = some t):q t=false:=by
 have:=List.all_eq_true.1 h t (Array.mem_toList_iff.2 (Array.mem_of_getElem? ht))
 simpa using this
theorem rE {ds:List (DataW H)}{ls:List (List IV)}(h:nM P [] ds ls):ds=[]:=by
 cases ds<;>cases ls<;>first|rfl|exact h.elim
theorem vS {t:TypeId}{ts:List TypeId}{ds:List (DataW H)}{ls:List (List IV)}(h:nM P (t::ts) ds ls):∃(d:DataW H) (l:List IV) (ds':List (DataW H)) (ls':List (List IV)),ds=d::ds'∧ls=l::ls'∧nM P ts ds' ls':=by
 cases ds with
 | nil=>cases ls<;>exact h.elim
 | cons d ds =>
  cases ls with
  | nil=>exact h.elim
  | cons l ls=>exact⟨d,l,ds,ls,rfl,rfl,h.2⟩
theorem aAb {O:cW}{K:TM.bG}(hk:KOK P O K){f:Nat}{args:List TV}(h:((lim K).call f args []).All fun r=>r.1=.iv (.bool true)){vals:Array Value}(hv:VRs (dY W) [] [] args vals.toList)(hg:mY K (dY W)) :
  Calls P f vals W fun e W'=>e=.returned (.bool true)∧Below W.heap.size W W':=by
 obtain⟨n,hn⟩:=aZf (K:=K) (f:=f) (a:=args) (S:=[]) h
 exact aNt hk hn hv hg
end Go.TM
namespace Go.TM
section
variable (K:bG)(O:Orc)(i:Nat)(k:Kt)(M:List (Nat×TV))(n:Nat)(fs:List Fr)(env:Env)(S:aA)
def cvA (O:Orc)(c:Bool)(S:aA)(g:Nat)(ags:List TV):Out (TV×aA):=if c then aPb O S ags g (dD S ags) else aVp O false S g (ags.any dK) ags
theorem aWp (g:Nat)(ags:List TV):cvA O true S g ags=aPb O S ags g (dD S ags):=by simp only[cvA,↓reduceIte]
def aWq (O : Orc) (S : aA) (j : Nat) (lp : Bool) (ags : List TV) : Out (TV × aA) := if lp then .fail "" else er (O.yld j ags S)
theorem bBc (j:Nat)(ags:List TV):aWq O S j false ags=er (O.yld j ags S):=by simp only[aWq,Bool.false_eq_true,↓reduceIte]
def opF (f:TV)(ags:List TV)(i:Nat)(k:Kt)(M:List (Nat×TV))(n:Nat)(fs:List Fr)(env:Env)(S:aA):TT (Out (bF×Env×aA)) (i,k,M,n,fs,env,S) :=
 match f with
 | .fn g a b=>wC K O (cvA O ((a++ags++b).all aAe) S g (a++ags++b)) i k M n fs env
 | .yld j=>wC K O (aWq O S j (ags.any dK) ags) i k M n fs env
 | _ => (.fail "" : Out (bF × Env × aA))
theorem bE1 (g:Nat)(a b ags:List TV):opF K O (.fn g a b) ags i k M n fs env S=wC K O (cvA O ((a++ags++b).all aAe) S g (a++ags++b)) i k M n fs env:=rfl
theorem bBd (j:Nat)(ags:List TV):opF K O (.yld j) ags i k M n fs env S=wC K O (aWq O S j (ags.any dK) ags) i k M n fs env:=rfl
theorem aQg (f:aC)(args:List aC):eK K O (.callv f args) i k M n fs env S=opF K O (cL K n env M f) (args.map (cL K n env M)) i k M n fs env S:=by
 unfold eK cL
 simp only[op1,bS]
 show er (Out.bind (match opv K n env M f with
  | .fn g a b=>Out.bind (if (a++args.map (opv K n env M)++b).all aAe then dZ O g (a++args.map (opv K n env M)++b) S else gI O false g (a++args.map (opv K n env M)++b) S) fun r=>.ret (r.1,env,r.2)
  | .yld j => if (args.map (opv K n env M)).any dK then .fail "yield: a local's address" else Out.bind (O.yld j (args.map (opv K n env M)) S) fun r => .ret (r.1, env, r.2)
  | _ => .fail "callv") _) = _
 cases opv K n env M f with
 | fn g a b =>
  simp only[opF,cvA,Out.bind_assoc,Out.bind]
  split
  ·unfold wC aPb
   rw[←vO,←zL]
  ·unfold wC aVp
   rw[←aB4,←zL]
 | yld j =>
  simp only[opF,aWq]
  split
  ·unfold wC; rfl
  ·unfold wC
   rw[←zL]
   simp only[Out.bind_assoc,Out.bind]
 | _=>rfl
end
theorem bBe (v:IV):aAe (.iv v)=true:=id rfl
theorem aWr (f:Nat)(a b:List TV):aMh f a b=if (a++b).any dK=true then none else some (.fn f a b):=id rfl
theorem bBf (t m:Nat)(v:TV):bEf t m v=if (cellsOf v).any bL=true then none else some (.ptr m t 0,.cells t false (cellsOf v)):=id rfl
attribute [go_sem] aWp bBc bE1 bBd aQg bBe aWr bBf
end Go.TM
namespace Go.TM
open Go
def gX (f:Int→IV)(C:List Int):List TV:=C.map fun n=>.iv (f n)
theorem rF (f:Int→IV)(C:List Int):(gX f C).length=C.length:=by simp[gX]
theorem aKw (f:Int→IV)(C:List Int)(i:Nat)(n:Int)(h:i<C.length):put (gX f C) i [.iv (f n)]=gX f (C.set i n):=by
 simp only[put,gX]
 apply List.ext_getElem
 ·simp; omega
 ·intro j h1 h2
  simp at h1 h2
  rcases Nat.lt_trichotomy j i with h3|h3|h3
  ·rw[List.getElem_append_left (by simp; omega),List.getElem_append_left (by simp; omega)]
   simp[List.getElem_set,show ¬i=j by omega]
  ·subst h3
   rw[List.getElem_append_left (by simp; omega),List.getElem_append_right (by simp; omega)]
   simp
  ·rw[List.getElem_append_right (by simp; omega)]
   have e:i+1+(j-(min i C.length+1))=j:=by omega
   simp[List.getElem_set,show ¬i=j by omega,e]
theorem aWs {j v off len cap:Nat}{i:Int}(h:0≤i∧i<len):indexAddrS 1 (.msl j v off len cap 1) i=some (.ptr j v (off+i.toNat)):=by
 simp only[indexAddrS,show ¬i<0 by omega,h.2,and_self,↓reduceIte,Nat.mul_one]
theorem aWt {S:aA}{j:Nat}{b:Bool}{f:Int→IV}{C:List Int}{i:Nat}(h:S[j]? = some (.cells 0 b (gX f C)))(hi:i<C.length)(env:Env):bH env S (.ptr j 0 i) 1=some [.iv (f (C.getD i default))]:=by
 have e:sub (gX f C) i 1=some [.iv (f (C.getD i default))]:=by
  simp only[sub,rF,show i+1≤C.length by omega,↓reduceIte]
  rw[List.drop_eq_getElem_cons (by rw[rF]; exact hi)]
  simp[gX,List.getD,List.getElem?_eq_getElem hi]
 rw[←e]
 simp only[bH,h,↓reduceIte]
theorem aWu {S:aA}{j:Nat}{b:Bool}{f:Int→IV}{C:List Int}{i:Nat}(hf:∀n,bL (.iv (f n))=false)(h:S[j]? = some (.cells 0 b (gX f C)))(hi:i<C.length)(n:Int)(env:Env):setCells env S (.ptr j 0 i) [.iv (f n)]=some (env,S.set j (.cells 0 b (gX f (C.set i n)))):=by
 rw[←aKw f C i n hi]
 simp only[setCells,List.any_cons,hf,List.any_nil,Bool.or_self,Bool.false_eq_true,↓reduceIte,h,rF,List.length_cons,List.length_nil,Nat.zero_add,true_and,show i+1≤C.length by omega]
theorem aWv (f:Int→IV)(n:Nat):bM (List.replicate n ([f 0].map TV.iv))=gX f (List.replicate n 0):=by
 have:List.replicate n ([f 0].map TV.iv)=(List.replicate n (0:Int)).map fun a=>[TV.iv (f a)]:=by simp
 rw[this]
 generalize List.replicate n (0:Int)=l
 induction l with
 | nil=>rfl
 | cons a l ih=>simp only[List.map_cons,bM,List.flatMap_cons,gX]at ih ⊢; simpa using ih
end Go.TM
namespace Go.TM
section
variable (K:bG)(O:Orc)(fs:List Fr)(env:Env)(S:aA)
def rfB (K:bG)(O:Orc)(n:Nat)(env:Env)(fs:List Fr)(S:aA):Option aW→Out (bF×Env×aA)
 | some (.lp .busy ..) => .fail ""
 | some (.lp _ pend env' ps a b)=>bk K O fs (pend.getD .normal) env (S.set n (.lp .exhausted pend env' ps a b))
 | _ => .fail ""
def rfR (K:bG)(O:Orc)(n:Nat)(env:Env)(fs:List Fr)(x:Out (TV×aA)):TT (Out (bF×Env×aA)) (n,env,fs) :=
 (er x).bind fun r=>rfB K O n env fs r.2 (r.2[n]?)
def rfF (K:bG)(O:Orc)(v:TV)(ps:List Nat)(a b:aL)(fs:List Fr)(env:Env)(S:aA):TT (Out (bF×Env×aA)) (ps,a,b,fs,env,S) :=
 match v with
 | .fn k fst cap=>rfR K O S.length env fs (O.call k (fst++.yld S.length::cap) (S++[.lp .ready none (env.map noLb) ps a b]))
 | _ => (.fail "" : Out (bF × Env × aA))
theorem bE2 (k:Nat)(fst cap:List TV)(ps:List Nat)(a b:aL):rfF K O (.fn k fst cap) ps a b fs env S=rfR K O S.length env fs (O.call k (fst++.yld S.length::cap) (S++[.lp .ready none (env.map noLb) ps a b])):=id rfl
theorem aEk (n:Nat)(v:TV)(S':aA):rfR K O n env fs (.ret (v,S'))=rfB K O n env fs S' (S'[n]?):=id rfl
theorem uH (n:Nat)(e':Env)(ps:List Nat)(a b:aL):rfB K O n env fs S (some (.lp .ready none e' ps a b))=bk' K O fs .normal env (S.set n (.lp .exhausted none e' ps a b)):=by unfold bk'; exact id rfl
theorem go_rangeFunc (f:aC)(ps:List Nat)(a b:aL):go' K O (.rangeFunc f ps a b) fs env S=rfF K O (cL K 0 env [] f) ps a b fs env S:=by
 unfold go' cL
 simp only[go,eD,rfF,opv,cP,List.range_zero,List.map_nil]
 cases aX K env [] f with
 | fn k fst cap =>
  simp only[Out.bind_assoc]
  unfold rfR
  rw[fK]
  refine Out.bind_congr fun r=>?_
  cases hx:r.2[S.length]? with
  | none=>rfl
  | some B =>
   cases B with
   | lp st pend e' ps' a' b'=>cases st<;>rfl
   | _=>rfl
 | _=>rfl
end
theorem bBg (cs:List TV):noLb (.lb cs)=.hole:=id rfl
theorem bBh (v:IV):noLb (.iv v)=.iv v:=id rfl
theorem aWw (a b c:Nat):noLb (.ptr a b c)=.ptr a b c:=id rfl
theorem bBi (f:Nat)(a b:List TV):noLb (.fn f a b)=.fn f a b:=id rfl
theorem aWx (l:List TV):noLb (.tup l)=.tup l:=id rfl
attribute [go_sem] bE2 aEk uH go_rangeFunc bBg bBh aWw bBi aWx
attribute [irreducible] rfR rfF
theorem go_exec {K:bG}{O:Orc}{c:aL}{env:Env}{S:aA}{r:bF×Env×aA}(h:go' K O c [] env S=.ret r):eD K O c env S=.ret r:=by
 unfold go' at h
 simp only[go]at h
 have h1:=aTn h
 cases hx:eD K O c env S with
 | ret q=>rw[hx]at h1; simpa[Out.bind,back] using h1
 | fail s=>rw[hx]at h1; cases h1
 | pick n k=>rw[hx]at h1; cases h1
theorem aAc {K:bG}{i:Nat}{args:List TV}{S S1 S2:aA}{st:LoopState}{p p2 p3:Option bF}{st3:LoopState}{env env1 env2 env3 e2 e3:Env}{ps ps2 ps3:List Nat}{a b a2 b2 a3 b3:aL}
  (h:S[i]? = some (.lp st p env ps a b)) (hs:nY env ps args=some env1) (h1:go' K (lim K) a [] env1 S=.ret (.normal,env2,S1)) (h2:S1[i]? = some (.lp .ready p2 e2 ps2 a2 b2))
  (h3:go' K (lim K) b [] env2 (S1.set i (.lp .busy p2 e2 ps2 a2 b2))=.ret (.normal,env3,S2)) (h4:S2[i]? = some (.lp st3 p3 e3 ps3 a3 b3)) :
  (lim K).yld i args S=.ret (.iv (.bool true),S2.set i (.lp .ready none e3 ps3 a3 b3)):=by
 refine aZe ?_
 have e1:=go_exec h1
 have e3:=go_exec h3
 simp only[gG,h,hs,e1,Out.bind,h2,e3,h4]
end Go.TM
namespace Go.TM
section
variable {K:bG}{O:Orc}{i:Nat}{k:Kt}{M:List (Nat×TV)}{n:Nat}{fs:List Fr}{env:Env}{S:aA}{rs:List kN}{b:aL}
end
end Go.TM
