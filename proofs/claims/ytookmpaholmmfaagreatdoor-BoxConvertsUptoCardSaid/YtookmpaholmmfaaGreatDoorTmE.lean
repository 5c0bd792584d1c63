/- A part of the evaluator TM, and of the proof that what it computes the model does. Condition: none. -/
import Derived.Test.YtookmpaholmmfaaGreatDoorTmD
set_option linter.unusedVariables false
set_option linter.unusedSimpArgs false
namespace Go.TM
section
variable (K:bO)(O:Orc)(i:Nat)(k:Kt)(M:List (Nat×TV))(n:Nat)(fs:List Fr)(env:Env)(S:aA)
theorem gM {o:TOp}(h:bZ o=0):op1 K O o i k M n fs env S=opV K O (aX o (opv K n env M)) i k M n fs env S:=by
 have e:(fun x=>bH K env (dC M n) x)=opv K n env M:=rfl
 simp only[op1,ec0 K O env _ S o h]
 show er ((Out.need _ (aX o (opv K n env M)) _).bind _)=_
 cases aX o (opv K n env M) with
 | some v=>simp only[Out.need,Out.bind,opV]; cases k<;>simp only[gY,rgR,fls,chk,sU]<;>(try split)<;>simp only[sU,er]
 | none=>rfl
theorem lE:er (gY K O k M n fs env S)=gY K O k M n fs env S:=by
 cases k<;>simp only[gY,rgR,fls,chk,sU]<;>(try split)<;>simp only[sU,er]
theorem wT {o:TOp}(h:bZ o=1):op1 K O o i k M n fs env S=opV K O (aT o (opv K n env M) env S) i k M n fs env S:=by
 simp only[op1,ec1 K O env _ S o h]
 show er ((Out.need _ (aT o (opv K n env M) env S) _).bind _)=_
 cases aT o (opv K n env M) env S with
 | some v=>simp only[Out.need,Out.bind,opV,lE]
 | none=>rfl
theorem aGi {o:TOp}(h:bZ o=2):op1 K O o i k M n fs env S=opA K O (bS o (opv K n env M) S.length) i k M n fs env S:=by
 simp only[op1,lS K O env _ S o (by omega)]
 have p:∀e,aX o e=none:=by intro e; cases o<;>first|rfl|simp[bZ]at h
 have r:∀e,aT o e env S=none:=by intro e; cases o<;>first|rfl|simp[bZ]at h
 have s:∀e rs,fX o e rs env S=none:=by intro e rs; cases o<;>first|rfl|simp[bZ]at h
 simp only[iP,iB,p,r,s]
 show er ((Out.ofOpt _ (match bS o (opv K n env M) S.length with|some (v,b)=>some (v,env,S++[b])|none=>none)).bind _)=_
 cases bS o (opv K n env M) S.length with
 | some v=>simp only[Out.ofOpt,Out.bind,opA,lE]
 | none=>rfl
theorem qW {o:TOp}(h:bZ o=3)(hb:o≠.bad):op1 K O o i k M n fs env S=opE K O (fX o (opv K n env M) (dC M n) env S) i k M n fs:=by
 simp only[op1,lS K O env _ S o (by omega)]
 have p:∀e,aX o e=none:=by intro e; cases o<;>first|rfl|simp[bZ]at h
 have r:∀e,aT o e env S=none:=by intro e; cases o<;>first|rfl|simp[bZ]at h
 have s:∀e n,bS o e n=none:=by intro e n; cases o<;>first|rfl|simp[bZ]at h
 simp only[iP,iB,p,r,s]
 show er ((Out.ofOpt _ (fX o (opv K n env M) (dC M n) env S)).bind _)=_
 cases fX o (opv K n env M) (dC M n) env S with
 | some v=>simp only[Out.ofOpt,Out.bind,opE,lE]
 | none=>rfl
def xtr (j:Nat):TV→Option TV
 | .tup vs=>vs[j]?
 | _=>none
theorem bEs (j:Nat)(vs:List TV):xtr j (.tup vs)=vs[j]? := id rfl
def bEt (v:TV):Option TV:=if xD v then some v else none
theorem aY1 (a b c:Nat):bEt (.ptr a b c)=some (.ptr a b c):=id rfl
def ivO (x:Option IV):Option TV:=x.map .iv
theorem aY2 (x:IV):ivO (some x)=some (.iv x):=id rfl
def eqV (neg:Bool)(x:Option Bool):Option TV:=x.map fun b=>.iv (.bool (if neg then !b else b))
theorem bKm (x:Bool):eqV false (some x)=some (.iv (.bool x)):=id rfl
theorem bKn (x:Bool):eqV true (some x)=some (.iv (.bool (!x))):=id rfl
def bIr (x:Option Nat):Option TV:=x.map fun (m:Nat)=>.iv (.int .i64 m)
def mC (ag:Bool)(x:Option (List TV)):Option TV:=match x with
 | some cs=>fP ag cs
 | none=>none
theorem aMb (ag:Bool)(l:List TV):mC ag (some l)=fP ag l:=id rfl
theorem aMc (v:TV):fP false [v]=some v:=id rfl
theorem aMd (l:List TV):fP true l=some (oG l):=id rfl
def aSo (off n:Nat)(x:Option (List TV)):Option (List TV):=match x with
 | some all=>sub all off n
 | none=>none
theorem aSp (off n:Nat)(l:List TV):aSo off n (some l)=sub l off n:=id rfl
def ixS (es:Nat)(x i:TV):Option TV:=match intOf i with
 | some n=>indexAddrS es x n
 | none=>none
theorem bEu (es:Nat)(x:TV)(kd:IntKind)(m:Int):ixS es x (.iv (.int kd m))=indexAddrS es x m:=id rfl
def ixA (len es:Nat)(x i:TV):Option TV:=match intOf i with
 | some n=>if 0≤n∧n<len then fB x (n.toNat*es) else none
 | none=>none
theorem aQy (len es:Nat)(x:TV)(kd:IntKind)(m:Int):ixA len es x (.iv (.int kd m))=if 0≤m∧m<len then fB x (m.toNat*es) else none:=id rfl
def aEg (x i:TV):Option TV:=match x,intOf i with
 | .iv (.str s),some n=>if 0≤n then (s[n.toNat]?).map fun b=>.iv (.int .u8 b.toNat) else none
 | _,_=>none
theorem aEh (s:List UInt8)(kd:IntKind)(m:Int):aEg (.iv (.str s)) (.iv (.int kd m))=if 0≤m then (s[m.toNat]?).map fun b=>.iv (.int .u8 b.toNat) else none:=id rfl
def oI:Option TV→Option (Option Int)
 | none=>some none
 | some x=>(intOf x).map some
theorem bEv:oI none=some none:=id rfl
theorem bEw (kd:IntKind)(m:Int):oI (some (.iv (.int kd m)))=some (some m):=id rfl
def slV (S:aA)(sk:SK)(x:TV)(lo hi mx:Option (Option Int)):Option TV:=match lo,hi,mx with
 | some lo,some hi,some mx=>dH S sk x lo hi mx
 | _,_,_=>none
theorem aY3 (sk:SK)(x:TV)(lo hi mx:Option Int):slV S sk x (some lo) (some hi) (some mx)=dH S sk x lo hi mx:=id rfl
def aI1 (kd:NK)(S:aA)(v:TV):Option TV:=if aFp v=kd then bIr (lenOf S v) else none
theorem aY4 (s:List UInt8):aI1 .str S (.iv (.str s))=some (.iv (.int .i64 s.length)):=id rfl
theorem bEx (t:Tag)(l:List (List IV)):aI1 .sl S (.iv (.sl t l))=some (.iv (.int .i64 l.length)):=id rfl
theorem aY5 (j:Nat)(l:List (List IV)):aI1 .sl S (.tsl j l)=some (.iv (.int .i64 l.length)):=id rfl
def bsV (x:Option (List (List IV))):Option TV:=match x with
 | some l=>(jE l).map fun b=>.iv (.str b)
 | none=>none
theorem aY6 (l:List (List IV)):bsV (some l)=(jE l).map fun b=>.iv (.str b):=id rfl
theorem pN:∀(l:List UInt8),jE (bF l)=some l
 | []=>rfl
 | b::l=>by
  have h:=pN l
  simp only[bF,List.map_cons,jE,aLf]at h ⊢
  rw[h]
  simp
def mkV (z:List IV)(bytes m:Nat)(l c:TV):Option (TV×aY):=match intOf l,intOf c with
 | some l,some c =>
  if 0≤l∧l≤c∧gR c.toNat bytes=true then
   some (.msl m 0 0 l.toNat c.toNat z.length,.cells 0 false (bV (List.replicate c.toNat (z.map .iv))))
  else none
 | _,_=>none
def aY7 (x:Option (List (List TV))):Option TV:=match x with
 | some es=>(jI es).map fun l=>.iv (.sl .full l)
 | none=>none
def aMe (m w:Nat)(x:Option (List (List TV))):Option (TV×aY):=match x with
 | some es=>some (.msl m 0 0 es.length es.length w,.cells 0 false (bV es))
 | none=>none
def mmV (mx:Bool)(l:List TV):Option TV:=match l with
 | .iv a::r=>(minmax mx a r).map .iv
 | _=>none
theorem aY8 (mx:Bool)(a:IV)(r:List TV):mmV mx (.iv a::r)=ivO (minmax mx a r):=id rfl
def wU (w:Nat)(env:Env)(S:aA)(a v:TV):Option (TV×Env×aA) :=
 if (cellsOf v).length=w then match setCells env S a (cellsOf v) with
   | some (env,S)=>some (undef,env,S)
   | none=>none
  else none
def aBq (x:Option (Env×aA)):Option (TV×Env×aA):=match x with
 | some (env,S)=>some (undef,env,S)
 | none=>none
theorem aI2:aBq (some (env,S))=some (undef,env,S):=id rfl
theorem bIs {α:Type}{p:Prop}[Decidable p]{x y z:Out α}(h:p→x=z)(g:¬p→y=z):br (decide p) x y=z:=by
 by_cases hp:p
 ·simp only[hp,decide_true,rU]; exact h hp
 ·simp only[hp,decide_false,oM]; exact g hp
theorem bIt {α:Type}{a b:Int}{x y z:Out α}(h:a=b→x=z)(g:a≠b→y=z):br (a==b) x y=z:=by
 by_cases hp:a=b
 ·simp only[hp,beq_self_eq_true,rU]; exact h hp
 ·simp only[beq_eq_false_iff_ne.2 hp,oM]; exact g hp
theorem bIu {α:Type}{a b:Int}{x y z:Out α}(h:a≠b→x=z)(g:a=b→y=z):br (a != b) x y=z:=by
 by_cases hp:a=b
 ·simp only[hp,bne_self_eq_false,oM]; exact g hp
 ·simp only[bne_iff_ne.2 hp,rU]; exact h hp
theorem aSq (w:Nat)(a v:TV)(h:(cellsOf v).length=w):wU w env S a v=aBq (setCells env S a (cellsOf v)):=by
 simp only[wU,h,↓reduceIte,aBq]
def bLt (env:Env)(x:Option (TV×aA)):Option (TV×Env×aA):=match x with
 | some (v,S)=>some (v,env,S)
 | none=>none
theorem aI3 (x:Option (TV×aA)):opE K O (bLt env x) i k M n fs=opS K O x i k M n fs env:=by
 cases x<;>rfl
def aQz (f:Nat)(a b:List TV):Option TV:=if (a++b).any dT then none else some (.fn f a b)
def aY9 (env:Env)(S:aA)(v:TV):Option (TV×Env×aA):=match v with
  | .it j=>match S[j]? with
   | some (.sit s pos) =>
    if pos<s.length then
     let (c,width):=Utf8.decode ⟨s.toArray⟩ pos
     some (.tup [.iv (.bool true),.iv (.int .i64 pos),.iv (.int .i32 c)],env,S.set j (.sit s (pos+width)))
    else some (.tup [.iv (.bool false)],env,S)
   | _=>none
  | _=>none
def aMf (str:Bool)(env:Env)(S:aA)(v:TV):Option (TV×Env×aA):=match str,v with
  | true,.iv (.str s)=>some (.it S.length,env,S++[.sit s 0])
  | false,.iv .nilm=>some (.it S.length,env,S++[.mit none 0 [] 0])
  | false,.map j=>match S[j]? with
   | some (.mp _ clock)=>some (.it S.length,env,S++[.mit (some j) clock [] clock])
   | _=>none
  | _,_=>none
theorem aMg (s:List UInt8):aMf true env S (.iv (.str s))=some (.it S.length,env,S++[.sit s 0]):=id rfl
theorem bEy (x:aG):op1 K O (.mov x) i k M n fs env S=opV K O (some (opv K n env M x)) i k M n fs env S:=gM K O i k M n fs env S (id rfl)
theorem aZa (c a b:aG):op1 K O (.pick c a b) i k M n fs env S=opP K O (opv K n env M c) (opv K n env M a) (opv K n env M b) i k M n fs env S:=by
 rw[gM K O i k M n fs env S rfl]
 simp only[aX,opP]
 cases opv K n env M c with
 | iv v =>
  cases v with
  | bool t=>cases t<;>rfl
  | _=>rfl
 | _=>rfl
theorem aSr (z:List IV)(ps:List (Nat×Nat×aG)):op1 K O (.build z ps) i k M n fs env S=opV K O ((fill (z.map .iv) (opv K n env M) ps).map oG) i k M n fs env S:=gM K O i k M n fs env S (id rfl)
theorem aGj (x:aG):op1 K O (.nilCheck x) i k M n fs env S=opV K O (bEt (opv K n env M x)) i k M n fs env S:=gM K O i k M n fs env S (id rfl)
theorem bEz (op:BinOp)(x y:aG):op1 K O (.bin op x y) i k M n fs env S=opV K O (ivO (binOp op (opv K n env M x) (opv K n env M y))) i k M n fs env S:=gM K O i k M n fs env S (id rfl)
theorem bE0 (neg:Bool)(ek:EK)(x y:aG):op1 K O (.eqB neg ek x y) i k M n fs env S=opV K O (eqV neg (eqB ek (opv K n env M x) (opv K n env M y))) i k M n fs env S:=gM K O i k M n fs env S (id rfl)
theorem bJr (neg:Bool)(offs:List (Nat×LK))(x y:aG):op1 K O (.eqAgg neg offs x y) i k M n fs env S=opV K O (ivO (eqAgg neg offs (opv K n env M x) (opv K n env M y))) i k M n fs env S:=gM K O i k M n fs env S (id rfl)
theorem bIv (op:UnOp)(x:aG):op1 K O (.un op x) i k M n fs env S=opV K O (ivO (unOp op (opv K n env M x))) i k M n fs env S:=gM K O i k M n fs env S (id rfl)
theorem aZb (f:Nat)(a b:List aG):op1 K O (.mkFn f a b) i k M n fs env S=opV K O (aQz f (a.map (opv K n env M)) (b.map (opv K n env M))) i k M n fs env S:=gM K O i k M n fs env S (id rfl)
theorem aCv (off:Nat)(x:aG):op1 K O (.fieldAddr off x) i k M n fs env S=opV K O (fB (opv K n env M x) off) i k M n fs env S:=gM K O i k M n fs env S (id rfl)
theorem aSs (off w:Nat)(ag:Bool)(x:aG):op1 K O (.field off w ag x) i k M n fs env S=opV K O (mC ag (aSo off w (fJ (opv K n env M x)))) i k M n fs env S:=by
 rw[gM K O i k M n fs env S rfl]
 simp only[aX]
 cases fJ (opv K n env M x) with
 | none=>rfl
 | some l=>simp only[aSo,mC]; cases sub l off w<;>rfl
theorem aBr (es:Nat)(x y:aG):op1 K O (.indexAddrS es x y) i k M n fs env S=opV K O (ixS es (opv K n env M x) (opv K n env M y)) i k M n fs env S:=gM K O i k M n fs env S (id rfl)
theorem aBs (len es:Nat)(x y:aG):op1 K O (.indexAddrA len es x y) i k M n fs env S=opV K O (ixA len es (opv K n env M x) (opv K n env M y)) i k M n fs env S:=gM K O i k M n fs env S (id rfl)
theorem aMh (x y:aG):op1 K O (.indexS x y) i k M n fs env S=opV K O (aEg (opv K n env M x) (opv K n env M y)) i k M n fs env S:=gM K O i k M n fs env S (id rfl)
theorem aI4 (j:Nat)(x:aG):op1 K O (.extract j x) i k M n fs env S=opV K O (xtr j (opv K n env M x)) i k M n fs env S:=gM K O i k M n fs env S (id rfl)
theorem bLc (x:aG):op1 K O (.cap x) i k M n fs env S=opV K O (bIr (aHy (opv K n env M x))) i k M n fs env S:=gM K O i k M n fs env S (id rfl)
theorem bKo (m:Nat):op1 K O (.lenC m) i k M n fs env S=opV K O (some (.iv (.int .i64 m))) i k M n fs env S:=gM K O i k M n fs env S (id rfl)
theorem aMi (mx:Bool)(xs:List aG):op1 K O (.minmax mx xs) i k M n fs env S=opV K O (mmV mx (xs.map (opv K n env M))) i k M n fs env S:=gM K O i k M n fs env S (id rfl)
theorem aSt (a:aG):op1 K O (.load1 a) i k M n fs env S=opV K O (mC false (bR env S (opv K n env M a) 1)) i k M n fs env S:=wT K O i k M n fs env S (id rfl)
theorem aSu (w:Nat)(a:aG):op1 K O (.loadN w a) i k M n fs env S=opV K O (mC true (bR env S (opv K n env M a) w)) i k M n fs env S:=wT K O i k M n fs env S (id rfl)
theorem aSv (sk:SK)(x:aG)(lo hi mx:Option aG):op1 K O (.slice sk x lo hi mx) i k M n fs env S=opV K O (slV S sk (opv K n env M x) (oI (lo.map (opv K n env M))) (oI (hi.map (opv K n env M))) (oI (mx.map (opv K n env M)))) i k M n fs env S:=by
 rw[wT K O i k M n fs env S rfl]
 simp only[aT,slV]
 cases lo<;>cases hi<;>cases mx<;>rfl
theorem aMj (kk:KK)(z:IV)(ok:Bool)(m y:aG):op1 K O (.lookup kk z ok m y) i k M n fs env S=opV K O (aT (.lookup kk z ok m y) (opv K n env M) env S) i k M n fs env S:=wT K O i k M n fs env S (id rfl)
theorem bIw (x:aG):op1 K O (.entryM x) i k M n fs env S=opV K O (aT (.entryM x) (opv K n env M) env S) i k M n fs env S:=wT K O i k M n fs env S (id rfl)
theorem bE1 (nk:NK)(x:aG):op1 K O (.len nk x) i k M n fs env S=opV K O (aI1 nk S (opv K n env M x)) i k M n fs env S:=wT K O i k M n fs env S (id rfl)
theorem vI (c:CK)(hc:c≠.bytesStr)(x:aG):op1 K O (.conv c x) i k M n fs env S=opV K O (ivO (cT c (opv K n env M x))) i k M n fs env S:=by
 simp only[op1,ec4]
 show er ((Out.need _ (match (cT c (opv K n env M x)).map TV.iv with|some v=>some v|none=>aT (.conv c x) (opv K n env M) env S) _).bind _)=_
 cases h:cT c (opv K n env M x) with
 | some v=>simp only[Option.map,Out.need,Out.bind,ivO,opV,lE]
 | none =>
  have:aT (.conv c x) (opv K n env M) env S=none:=by cases c<;>first|rfl|exact absurd rfl hc
  simp only[this,Option.map,Out.need,Out.bind,ivO,opV,er]
theorem aSw (kd:IntKind)(x:aG):op1 K O (.conv (.toInt kd) x) i k M n fs env S=opV K O (ivO (cT (.toInt kd) (opv K n env M x))) i k M n fs env S:=vI K O i k M n fs env S _ (by simp) x
theorem bIx (x:aG):op1 K O (.conv .intStr x) i k M n fs env S=opV K O (ivO (cT .intStr (opv K n env M x))) i k M n fs env S:=vI K O i k M n fs env S _ (by simp) x
theorem bIy (x:aG):op1 K O (.conv .strStr x) i k M n fs env S=opV K O (ivO (cT .strStr (opv K n env M x))) i k M n fs env S:=vI K O i k M n fs env S _ (by simp) x
theorem aGk (x:aG):op1 K O (.conv .strBytes x) i k M n fs env S=opV K O (ivO (cT .strBytes (opv K n env M x))) i k M n fs env S:=vI K O i k M n fs env S _ (by simp) x
theorem aGl (x:aG):op1 K O (.conv .bytesStr x) i k M n fs env S=opV K O (bsV (fE S (opv K n env M x))) i k M n fs env S:=by
 simp only[op1,ec4]
 have hc:cT .bytesStr (bH K env (dC M n) x)=none:=by
  unfold cT
  cases bH K env (dC M n) x with
  | iv v=>cases v<;>rfl
  | _=>rfl
 simp only[hc,Option.map]
 show er ((Out.need _ (bsV (fE S (opv K n env M x))) _).bind _)=_
 cases bsV (fE S (opv K n env M x)) with
 | some v=>simp only[Out.need,Out.bind,opV,lE]
 | none=>rfl
def aI5 (w:Nat)(x:Option (List (List IV)))(es:Option (List (List TV)))(i:Nat)(k:Kt)(M:List (Nat×TV))(n:Nat)(fs:List Fr)(env:Env)(S:aA):Out (bN×Env×aA) :=
 match x with
 | some l=>opV K O (some (.iv (.sl .full l))) i k M n fs env S
 | none=>opA K O (aMe S.length w es) i k M n fs env S
@[congr] theorem litQ_congr (w:Nat) {x x':Option (List (List IV))} (h:x=x') {es es':Option (List (List TV))} (h2:es=es'):aI5 K O w x es i k M n fs env S=aI5 K O w x' es' i k M n fs env S:=by rw[h,h2]
theorem aSx (w:Nat)(l:List (List IV))(es:Option (List (List TV))):aI5 K O w (some l) es i k M n fs env S=gY K O k ((i,.iv (.sl .full l))::M) n fs env S:=id rfl
theorem bJs (w:Nat)(es:Option (List (List TV))):aI5 K O w none es i k M n fs env S=opA K O (aMe S.length w es) i k M n fs env S:=id rfl
def bE2 (x:Option (List (List TV))):Option (List (List IV)):=match x with
 | some es=>jI es
 | none=>none
theorem aSy (l:List (List TV)):bE2 (some l)=jI l:=id rfl
theorem bE3 (z:List IV)(len:Nat)(ps:List (Nat×aG)):op1 K O (.lit false z len ps) i k M n fs env S=aI5 K O z.length (bE2 (dV (List.replicate len (z.map .iv)) z.length (opv K n env M) ps)) (dV (List.replicate len (z.map .iv)) z.length (opv K n env M) ps) i k M n fs env S:=by
 simp only[op1,lS K O env _ S _ (show bZ (.lit false z len ps)≠5 by simp[bZ])]
 have p:aX (.lit false z len ps) (bH K env (dC M n))=aY7 (dV (List.replicate len (z.map .iv)) z.length (opv K n env M) ps):=rfl
 have r:aT (.lit false z len ps) (bH K env (dC M n)) env S=none:=rfl
 have a:bS (.lit false z len ps) (bH K env (dC M n)) S.length=aMe S.length z.length (dV (List.replicate len (z.map .iv)) z.length (opv K n env M) ps):=rfl
 have s:fX (.lit false z len ps) (bH K env (dC M n)) (dC M n) env S=none:=rfl
 simp only[iP,iB,p,r,a,s]
 cases dV (List.replicate len (z.map .iv)) z.length (opv K n env M) ps with
 | none=>rfl
 | some es =>
  simp only[aY7,bE2]
  cases jI es with
  | some l=>simp only[Option.map,Out.ofOpt,Out.bind,aI5,opV,lE]
  | none=>simp only[Option.map,Out.ofOpt,Out.bind,aI5,aMe,opA,lE]
theorem bKp (z:List IV)(len:Nat)(ps:List (Nat×aG)):op1 K O (.lit true z len ps) i k M n fs env S=opA K O (aMe S.length z.length (dV (List.replicate len (z.map .iv)) z.length (opv K n env M) ps)) i k M n fs env S:=by
 simp only[op1,lS K O env _ S _ (show bZ (.lit true z len ps)≠5 by simp[bZ])]
 have p:aX (.lit true z len ps) (bH K env (dC M n))=none:=rfl
 have r:aT (.lit true z len ps) (bH K env (dC M n)) env S=none:=rfl
 have a:bS (.lit true z len ps) (bH K env (dC M n)) S.length=aMe S.length z.length (dV (List.replicate len (z.map .iv)) z.length (opv K n env M) ps):=rfl
 have s:fX (.lit true z len ps) (bH K env (dC M n)) (dC M n) env S=none:=rfl
 simp only[iP,iB,p,r,a,s]
 cases aMe S.length z.length (dV (List.replicate len (z.map .iv)) z.length (opv K n env M) ps) with
 | some v=>simp only[Out.ofOpt,Out.bind,opA,lE]
 | none=>rfl
theorem aMk (t:Nat)(z:List IV):op1 K O (.allocH t z) i k M n fs env S=opS K O (some (.ptr S.length t 0,S++[.cells t false (z.map .iv)])) i k M n fs env:=aGi K O i k M n fs env S (id rfl)
theorem aSz:op1 K O .mkMap i k M n fs env S=opS K O (some (.map S.length,S++[.mp [] 0])) i k M n fs env:=aGi K O i k M n fs env S (id rfl)
theorem bGw (z:List IV)(bytes:Nat)(l c:aG):op1 K O (.mkSlice z bytes l c) i k M n fs env S=opA K O (mkV z bytes S.length (opv K n env M l) (opv K n env M c)) i k M n fs env S:=aGi K O i k M n fs env S (id rfl)
def bIz (t m:Nat)(v:TV):Option (TV×aY):=if (cellsOf v).any bT then none else some (.ptr m t 0,.cells t false (cellsOf v))
theorem aZc (t:Nat)(x:aG):op1 K O (.boxH t x) i k M n fs env S=opA K O (bIz t S.length (opv K n env M x)) i k M n fs env S:=aGi K O i k M n fs env S (id rfl)
def aI6 (j:Nat):List (Nat×TV)→Bool
 | []=>true
 | (_,v)::M=>!(sB j v)&&aI6 j M
theorem aI7 {j:Nat}:∀ {M:List (Nat×TV)},aI6 j M=true→∀m,sB j (reg M m)=false
 | [],_,m=>rfl
 | (a,v)::M,h,m=>by
  simp only[aI6,Bool.and_eq_true,Bool.not_eq_true']at h
  simp only[reg]
  split
  ·exact h.1
  ·exact aI7 h.2 m
theorem aEi {j:Nat}{M:List (Nat×TV)}(h:aI6 j M=true):(dC M n).any (sB j)=false:=by
 rw[List.any_eq_false]
 intro x hx
 simp only[dC,List.mem_map]at hx
 obtain⟨m,_,rfl⟩:=hx
 simp[aI7 h m]
def alB (c:Bool)(x y:Out (bN×Env×aA)):Out (bN×Env×aA):=bif c then x else y
@[congr] theorem alB_congr {c c':Bool} (h:c=c') (x y:Out (bN×Env×aA)):alB c x y=alB c' x y:=by rw[h]
theorem aBt (x y:Out (bN×Env×aA)):alB true x y=x:=id rfl
theorem aI8 (j:Nat)(z:List IV)(h:aI6 j M=true)(hj:j<env.length):op1 K O (.allocL j z) i k M n fs env S=opE K O (some (.lp j 0,env.set j (.lb (z.map .iv)),S)) i k M n fs:=by
 rw[qW K O i k M n fs env S (id rfl) (by simp)]
 simp only[fX,aEi n h,hj,decide_true,Bool.not_true,Bool.or_self,Bool.false_eq_true,↓reduceIte]
theorem aS0 (j:Nat)(x:aG)(h:aI6 j M=true)(hj:j<env.length):op1 K O (.boxL j x) i k M n fs env S=opE K O (if (cellsOf (opv K n env M x)).any bT then none else some (.lp j 0,env.set j (.lb (cellsOf (opv K n env M x))),S)) i k M n fs:=by
 rw[qW K O i k M n fs env S (id rfl) (by simp)]
 simp only[fX,aEi n h,hj,decide_true,Bool.not_true,Bool.or_false]
def okL (j:Nat)(M:List (Nat×TV))(env:Env):Bool:=aI6 j M&&decide (j<env.length)
theorem aMl (j:Nat)(z:List IV):op1 K O (.allocL j z) i k M n fs env S=alB (okL j M env) (opE K O (some (.lp j 0,env.set j (.lb (z.map .iv)),S)) i k M n fs) (op1 K O (.allocL j z) i k M n fs env S):=by
 cases h:okL j M env with
 | false=>rfl
 | true =>
  simp only[okL,Bool.and_eq_true,decide_eq_true_eq]at h
  rw[aBt,aI8 K O i k M n fs env S j z h.1 h.2]
theorem aZd (j:Nat)(x:aG):op1 K O (.boxL j x) i k M n fs env S=alB (okL j M env) (opE K O (if (cellsOf (opv K n env M x)).any bT then none else some (.lp j 0,env.set j (.lb (cellsOf (opv K n env M x))),S)) i k M n fs) (op1 K O (.boxL j x) i k M n fs env S):=by
 cases h:okL j M env with
 | false=>rfl
 | true =>
  simp only[okL,Bool.and_eq_true,decide_eq_true_eq]at h
  rw[aBt,aS0 K O i k M n fs env S j x h.1 h.2]
theorem aS1 (w:Nat)(a v:aG):op1 K O (.store w a v) i k M n fs env S=opE K O (wU w env S (opv K n env M a) (opv K n env M v)) i k M n fs:=qW K O i k M n fs env S rfl (by simp)
theorem aMm (kk:KK)(m y x:aG):op1 K O (.update kk m y x) i k M n fs env S=opE K O (fX (.update kk m y x) (opv K n env M) (dC M n) env S) i k M n fs:=qW K O i k M n fs env S rfl (by simp)
theorem aS2 (str:Bool)(x:aG):op1 K O (.range str x) i k M n fs env S=opE K O (aMf str env S (opv K n env M x)) i k M n fs:=qW K O i k M n fs env S rfl (by simp)
theorem aS3 (x:aG):op1 K O (.nextS x) i k M n fs env S=opE K O (aY9 env S (opv K n env M x)) i k M n fs:=qW K O i k M n fs env S rfl (by simp)
theorem aMn (mu:Bool)(es bytes el:Nat)(s x:aG):op1 K O (.append mu es bytes el s x) i k M n fs env S=opS K O (cI mu es bytes el S (opv K n env M s) (opv K n env M x)) i k M n fs env:=by
 rw[qW K O i k M n fs env S rfl (by simp),←aI3]; rfl
theorem bKq (es:Nat)(d s:aG):op1 K O (.copy es d s) i k M n fs env S=opS K O (aFr es S (opv K n env M d) (opv K n env M s)) i k M n fs env:=by
 rw[qW K O i k M n fs env S rfl (by simp),←aI3]; rfl
def cpV (S:aA)(args:List TV)(v:Option TV):Out (TV×aA) :=
 match v with
 | none => .fail ""
 | some v =>
  if args.any sH&&!(iX v) then
   match fK S args with
   | some S=>.ret (v,S)
   | none => .fail ""
  else .ret (v,S)
def cpR (S:aA)(args:List TV)(x:Out (TV×aA)):Out (TV×aA):=(er x).bind fun r=>cpV S args (resolve r.2 r.1)
def cpA (S:aA)(args:List TV)(f:Nat)(ags:Option (List TV)):Out (TV×aA) :=
 match ags with
 | none => .fail ""
 | some ags=>cpR S args (O.call f ags [])
@[congr] theorem cpV_congr (args:List TV) {v v':Option TV} (h:v=v'):cpV S args v=cpV S args v':=by rw[h]
@[congr] theorem cpR_congr (args:List TV) {v v':Out (TV×aA)} (h:v=v'):cpR S args v=cpR S args v':=by rw[h]
@[congr] theorem cpA_congr (args:List TV) (f:Nat) {v v':Option (List TV)} (h:v=v'):cpA O S args f v=cpA O S args f v':=by rw[h]
theorem aZe (args ags:List TV)(f:Nat):cpA O S args f (some ags)=cpR S args (O.call f ags []):=id rfl
theorem bE4 (args:List TV)(v:TV)(S':aA):cpR S args (.ret (v,S'))=cpV S args (resolve S' v):=id rfl
def cpB (c:Bool)(S:aA)(args:List TV)(v:TV):Out (TV×aA) :=
 if c then match fK S args with
   | some S=>.ret (v,S)
   | none => .fail ""
  else .ret (v,S)
@[congr] theorem cpB_congr {c c':Bool} (h:c=c') (args:List TV) (v:TV):cpB c S args v=cpB c' S args v:=by rw[h]
theorem aZf (args:List TV)(v:TV):cpV S args (some v)=cpB (args.any sH&&!(iX v)) S args v:=id rfl
theorem aS4 (args:List TV)(v:TV):cpB false S args v=.ret (v,S):=id rfl
def bI0 (v:TV)(x:Option aA):Out (TV×aA):=match x with
 | some S=>.ret (v,S)
 | none => .fail ""
theorem bJt (v:TV):bI0 v (some S)=.ret (v,S):=id rfl
theorem bKr (args:List TV)(v:TV):cpB true S args v=bI0 v (fK S args):=by
 simp only[cpB,↓reduceIte,bI0]
theorem yG (f:Nat)(args:List TV):er (eN O f args S)=cpA O S args f (dP S args):=by
 unfold eN cpA
 cases dP S args with
 | none=>rfl
 | some ags =>
  simp only[cpR,hG]
  refine Out.bind_congr fun r=>?_
  cases resolve r.2 r.1 with
  | none=>rfl
  | some v =>
   simp only[cpV]
   split
   ·cases fK S args<;>rfl
   ·rfl
theorem aBu (x:Out (TV×aA)):er (x.bind fun r=>gY K O k ((i,r.1)::M) n fs env r.2)=opC K O (er x) i k M n fs env:=by
 rw[hG]
 simp only[opC,lE]
theorem aS5 (t:Bool)(f:Nat)(args:List aG):op1 K O (.call true t f args) i k M n fs env S=opC K O (cpA O S (args.map (opv K n env M)) f (dP S (args.map (opv K n env M)))) i k M n fs env:=by
 rw[←yG,←aBu]
 simp only[op1,bY,Out.bind_assoc,Out.bind,↓reduceIte]
 rfl
def csR (t:Bool)(S:aA)(x:Out (TV×aA)):Out (TV×aA):=(er x).bind fun r =>
 if t then match qC S.length r.1 r.2 with
  | some S'=>.ret (r.1,S')
  | none => .fail ""
 else .ret r
def csA (t : Bool) (S : aA) (f : Nat) (lp : Bool) (args : List TV) : Out (TV × aA) := if lp then .fail "" else csR t S (O.call f args S)
@[congr] theorem csR_congr (t:Bool) {v v':Out (TV×aA)} (h:v=v'):csR t S v=csR t S v':=by rw[h]
theorem bI1 (t:Bool)(f:Nat)(args:List TV):csA O t S f false args=csR t S (O.call f args S):=id rfl
theorem bKs (v:TV)(S':aA):csR false S (.ret (v,S'))=.ret (v,S'):=id rfl
def trV (v:TV)(x:Option aA):Out (TV×aA):=match x with
 | some S'=>.ret (v,S')
 | none => .fail ""
theorem bKt (v:TV):trV v (some S)=.ret (v,S):=id rfl
theorem bMp (v:TV)(S':aA):csR true S (.ret (v,S'))=trV v (qC S.length v S'):=by
 simp only[csR,er,Out.bind,↓reduceIte,trV]
theorem aEj (t:Bool)(f:Nat)(args:List TV):er (iQ O t f args S)=csA O t S f (args.any dT) args:=by
 unfold iQ csA
 split
 ·rfl
 ·simp only[csR,hG]
  refine Out.bind_congr fun r=>?_
  cases t
  ·rfl
  ·simp only[↓reduceIte]
   cases qC S.length r.1 r.2<;>rfl
theorem aS6 (t:Bool)(f:Nat)(args:List aG):op1 K O (.call false t f args) i k M n fs env S=opC K O (csA O t S f ((args.map (opv K n env M)).any dT) (args.map (opv K n env M))) i k M n fs env:=by
 rw[←aEj,←aBu]
 simp only[op1,bY,Out.bind_assoc,Out.bind,Bool.false_eq_true,↓reduceIte]
 rfl
def prV (S:aA)(p:Option yK)(args:List TV):Option (TV×aA):=match p with
 | some p=>if args.any dT then none else p args S
 | none=>none
theorem aZg (f:Nat)(args:List aG):op1 K O (.prim f args) i k M n fs env S=opS K O (prV S (K.prim f) (args.map (opv K n env M))) i k M n fs env:=by
 simp only[op1,bY]
 show er (Out.bind (match K.prim f with | some p => if (args.map (opv K n env M)).any dT = true then .fail "prim: a local's address" else Out.bind (Out.ofOpt "prim" (p (args.map (opv K n env M)) S)) fun r => .ret (r.1, env, r.2) | none => .fail "prim") _) = _
 cases K.prim f with
 | none=>rfl
 | some p =>
  simp only[prV]
  split
  ·rfl
  ·cases p (args.map (opv K n env M)) S with
   | none=>rfl
   | some q=>simp only[Out.ofOpt,Out.bind,opS,lE]
def fin (rs:List nH)(x:Out (bN×Env×aA)):Out (TV×aA) :=
 x.bind fun r=>match r.1 with
  | .exit _ => .fail ""
  | _=>match lV rs r.2.1 r.2.2 with
   | some v=>.ret (v,r.2.2)
   | none => .fail ""
@[congr] theorem fin_congr (rs:List nH) {x x':Out (bN×Env×aA)} (h:x=x'):fin rs x=fin rs x':=by rw[h]
def aS7 (S:aA)(v:Option TV):Out (TV×aA):=match v with
 | some v=>.ret (v,S)
 | none => .fail ""
theorem aS8 (v:TV):aS7 S (some v)=.ret (v,S):=id rfl
theorem bE5 (rs:List nH):fin rs (.ret (.ret,env,S))=aS7 S (lV rs env S):=by
 simp only[fin,Out.bind,aS7]
theorem aMo (rs:List nH):fin rs (.ret (.normal,env,S))=aS7 S (lV rs env S):=by
 simp only[fin,Out.bind,aS7]
theorem bI2 (rs:List nH)(B:Bool)(x y:Out (bN×Env×aA)):fin rs (br B x y)=br B (fin rs x) (fin rs y):=by cases B<;>rfl
theorem yH (f:Nat)(args:List TV)(fn:aO)(hf:K.funcs f=some fn)(ha:args.length=fn.nparams):er (eO K O f args S)=fin fn.results (go K O fn.body [] (args++List.replicate (fn.nlocs-fn.nparams) undef) S):=by
 simp only[eO,hf,ha,ne_eq,not_true_eq_false,↓reduceIte,go,fin]
 rw[hG]
 have e:(fF K O fn.body (args++List.replicate (fn.nlocs-fn.nparams) undef) S).bind (fun r=>back K O [] r.1 r.2.1 r.2.2)=fF K O fn.body (args++List.replicate (fn.nlocs-fn.nparams) undef) S:=by
  cases fF K O fn.body (args++List.replicate (fn.nlocs-fn.nparams) undef) S with
  | ret a=>rfl
  | fail s=>rfl
  | pick n k=>simp only[Out.bind]; congr; funext i; exact bind_back (k i)
 rw[e]
 refine Out.bind_congr fun r=>?_
 obtain⟨j,e,S'⟩:=r
 cases j with
 | exit i=>rfl
 | _=>simp only; cases lV fn.results e S'<;>rfl
where
 bind_back:∀x:Out (bN×Env×aA),(x.bind fun r=>back K O [] r.1 r.2.1 r.2.2)=x
  | .ret a=>rfl
  | .fail s=>rfl
  | .pick n k=>by simp only[Out.bind]; congr; funext i; exact bind_back (k i)
theorem aZh {f:Nat}{args:List TV}{fn:aO}{r:TV×aA}(hf:K.funcs f=some fn)(ha:args.length=fn.nparams)(h:fin fn.results (go K (lim K) fn.body [] (args++List.replicate (fn.nlocs-fn.nparams) undef) S)=.ret r):(lim K).call f args S=.ret r :=
 aYe (bGv ((yH K (lim K) S f args fn hf ha).trans h))
def rnd (b:aK)(x:Out (bN×Env×aA)):Out (bN×Env×aA) :=
 x.bind fun r=>match r.1 with
  | .normal=>er (lp O b r.2.1 r.2.2)
  | j=>.ret (j,r.2.1,r.2.2)
@[congr] theorem rnd_congr (b:aK) {x x':Out (bN×Env×aA)} (h:x=x'):rnd O b x=rnd O b x':=by rw[h]
theorem aMp (b:aK):rnd O b (.ret (.normal,env,S))=er (lp O b env S):=id rfl
theorem bE6 (b:aK):rnd O b (.ret (.ret,env,S))=.ret (.ret,env,S):=id rfl
theorem aZi (b:aK)(id:Nat):rnd O b (.ret (.exit id,env,S))=.ret (.exit id,env,S):=by simp only[rnd,Out.bind]
theorem bLu (b:aK)(B:Bool)(x y:Out (bN×Env×aA)):rnd O b (br B x y)=br B (rnd O b x) (rnd O b y):=by cases B<;>rfl
theorem aZj {b:aK}{r:bN×Env×aA}(h:rnd (lim K) b (go K (lim K) b [] env S)=.ret r):lp (lim K) b env S=.ret r:=by
 refine aYf (bGv ?_)
 rw[←h]
 simp only[nE,rnd,go]
 rw[hG]
 have e:=yH.bind_back K (lim K) (fF K (lim K) b env S)
 rw[e]
 refine Out.bind_congr fun r=>?_
 obtain⟨j,e,S'⟩:=r
 cases j<;>rfl
end
end Go.TM
namespace Go.TM
section
variable (K:bO)(O:Orc)(i:Nat)(k:Kt)(M:List (Nat×TV))(n:Nat)(fs:List Fr)(env:Env)(S:aA)
def flM (o:TOp):Option TV:=iB K o env (dC M n) S
theorem kF {o:TOp}(h:bZ o=0):flM K M n env S o=aX o (opv K n env M):=by
 have r:∀e,aT o e env S=none:=by intro e; cases o<;>first|rfl|simp[bZ]at h
 simp only[flM,iB,r]
 show (match aX o (opv K n env M) with|some v=>some v|none=>none)=_
 cases aX o (opv K n env M)<;>rfl
theorem aQ0 {o:TOp}(h:bZ o=1):flM K M n env S o=aT o (opv K n env M) env S:=by
 have p:∀e,aX o e=none:=by intro e; cases o<;>first|rfl|simp[bZ]at h
 simp only[flM,iB,p]
 rfl
theorem zJ (c:CK)(hc:c≠.bytesStr)(x:aG):flM K M n env S (.conv c x)=ivO (cT c (opv K n env M x)):=by
 have r:aT (.conv c x) (opv K n env M) env S=none:=by cases c<;>first|rfl|exact absurd rfl hc
 show (match ((cT c (opv K n env M x)).map TV.iv) with|some v=>some v|none=>aT (.conv c x) (opv K n env M) env S)=_
 rw[r]
 cases cT c (opv K n env M x)<;>rfl
theorem aI9 (x:aG):flM K M n env S (.conv .bytesStr x)=bsV (fE S (opv K n env M x)):=by
 have hc:cT .bytesStr (opv K n env M x)=none:=by
  unfold cT
  cases opv K n env M x with
  | iv v=>cases v<;>rfl
  | _=>rfl
 show (match ((cT .bytesStr (opv K n env M x)).map TV.iv) with|some v=>some v|none=>aT (.conv .bytesStr x) (opv K n env M) env S)=_
 rw[hc]; rfl
theorem bLv (z:List IV)(len:Nat)(ps:List (Nat×aG)):flM K M n env S (.lit false z len ps)=aY7 (dV (List.replicate len (z.map .iv)) z.length (opv K n env M) ps):=by
 have r:aT (.lit false z len ps) (opv K n env M) env S=none:=rfl
 show (match aY7 (dV (List.replicate len (z.map .iv)) z.length (opv K n env M) ps) with|some v=>some v|none=>none)=_
 cases aY7 (dV (List.replicate len (z.map .iv)) z.length (opv K n env M) ps)<;>rfl
def bKu (c a b:TV):Option TV:=match wC c with
  | some t=>some (if t then a else b)
  | none=>none
theorem bLd (c a b:aG):flM K M n env S (.pick c a b)=bKu (opv K n env M c) (opv K n env M a) (opv K n env M b):=kF K M n env S (id rfl)
theorem bLw (x:aG):flM K M n env S (.mov x)=some (opv K n env M x):=kF K M n env S (id rfl)
theorem bKv (z:List IV)(ps:List (Nat×Nat×aG)):flM K M n env S (.build z ps)=(fill (z.map .iv) (opv K n env M) ps).map oG:=kF K M n env S (id rfl)
theorem bGx (x:aG):flM K M n env S (.nilCheck x)=bEt (opv K n env M x):=kF K M n env S (id rfl)
theorem bLx (op:BinOp)(x y:aG):flM K M n env S (.bin op x y)=ivO (binOp op (opv K n env M x) (opv K n env M y)):=kF K M n env S (id rfl)
theorem bLy (neg:Bool)(ek:EK)(x y:aG):flM K M n env S (.eqB neg ek x y)=eqV neg (eqB ek (opv K n env M x) (opv K n env M y)):=kF K M n env S (id rfl)
theorem bKw (neg:Bool)(offs:List (Nat×LK))(x y:aG):flM K M n env S (.eqAgg neg offs x y)=ivO (eqAgg neg offs (opv K n env M x) (opv K n env M y)):=kF K M n env S (id rfl)
theorem bMq (op:UnOp)(x:aG):flM K M n env S (.un op x)=ivO (unOp op (opv K n env M x)):=kF K M n env S (id rfl)
theorem bLe (f:Nat)(a b:List aG):flM K M n env S (.mkFn f a b)=aQz f (a.map (opv K n env M)) (b.map (opv K n env M)):=kF K M n env S (id rfl)
theorem bE7 (off:Nat)(x:aG):flM K M n env S (.fieldAddr off x)=fB (opv K n env M x) off:=kF K M n env S (id rfl)
theorem bKx (off w:Nat)(ag:Bool)(x:aG):flM K M n env S (.field off w ag x)=mC ag (aSo off w (fJ (opv K n env M x))):=by
 rw[kF K M n env S rfl]
 simp only[aX]
 cases fJ (opv K n env M x) with
 | none=>rfl
 | some l=>simp only[aSo,mC]; cases sub l off w<;>rfl
theorem bBy (es:Nat)(x y:aG):flM K M n env S (.indexAddrS es x y)=ixS es (opv K n env M x) (opv K n env M y):=kF K M n env S (id rfl)
theorem bBz (len es:Nat)(x y:aG):flM K M n env S (.indexAddrA len es x y)=ixA len es (opv K n env M x) (opv K n env M y):=kF K M n env S (id rfl)
theorem bJu (x y:aG):flM K M n env S (.indexS x y)=aEg (opv K n env M x) (opv K n env M y):=kF K M n env S (id rfl)
theorem bI3 (j:Nat)(x:aG):flM K M n env S (.extract j x)=xtr j (opv K n env M x):=kF K M n env S (id rfl)
theorem bLz (x:aG):flM K M n env S (.cap x)=bIr (aHy (opv K n env M x)):=kF K M n env S (id rfl)
theorem bLf (m:Nat):flM K M n env S (.lenC m)=some (.iv (.int .i64 m)):=kF K M n env S (id rfl)
theorem bJv (mx:Bool)(xs:List aG):flM K M n env S (.minmax mx xs)=mmV mx (xs.map (opv K n env M)):=kF K M n env S (id rfl)
theorem aZk (a:aG):flM K M n env S (.load1 a)=mC false (bR env S (opv K n env M a) 1):=aQ0 K M n env S (id rfl)
theorem aZl (w:Nat)(a:aG):flM K M n env S (.loadN w a)=mC true (bR env S (opv K n env M a) w):=aQ0 K M n env S (id rfl)
theorem aZm (sk:SK)(x:aG)(lo hi mx:Option aG):flM K M n env S (.slice sk x lo hi mx)=slV S sk (opv K n env M x) (oI (lo.map (opv K n env M))) (oI (hi.map (opv K n env M))) (oI (mx.map (opv K n env M))):=by
 rw[aQ0 K M n env S rfl]
 simp only[aT,slV]
 cases lo<;>cases hi<;>cases mx<;>rfl
theorem bI4 (nk:NK)(x:aG):flM K M n env S (.len nk x)=aI1 nk S (opv K n env M x):=aQ0 K M n env S (id rfl)
theorem bKy (kd:IntKind)(x:aG):flM K M n env S (.conv (.toInt kd) x)=ivO (cT (.toInt kd) (opv K n env M x)):=zJ K M n env S _ (by simp) x
theorem bJw (x:aG):flM K M n env S (.conv .intStr x)=ivO (cT .intStr (opv K n env M x)):=zJ K M n env S _ (by simp) x
theorem bJx (x:aG):flM K M n env S (.conv .strStr x)=ivO (cT .strStr (opv K n env M x)):=zJ K M n env S _ (by simp) x
theorem bGy (x:aG):flM K M n env S (.conv .strBytes x)=ivO (cT .strBytes (opv K n env M x)):=zJ K M n env S _ (by simp) x
mutual
theorem qX:∀(a:IV),fW a a=true
 | .bool b=>by simp[fW]
 | .int k n=>by simp[fW]
 | .str s=>by simp[fW]
 | .sl t l=>by simp[fW,nZ l]
 | .agg l=>by simp[fW,mN l]
 | .cp l=>by simp[fW,mN l]
 | .nilp=>rfl
 | .nilm=>rfl
 | .nilf=>rfl
 | .nili=>rfl
theorem mN:∀(l:List IV),kZ l l=true
 | []=>rfl
 | a::l=>by simp[kZ,qX a,mN l]
theorem nZ:∀(l:List (List IV)),iY l l=true
 | []=>rfl
 | a::l=>by simp[iY,mN a,nZ l]
end
theorem bE8 (a:IV):same (.iv a) (.iv a)=true:=qX a
theorem aZn (a b:List TV):same (.agg a) (.agg b)=oH a b:=id rfl
theorem aS9:oH [] []=true:=id rfl
theorem aMq (a b:TV)(ags bs:List TV):oH (a::ags) (b::bs)=(xF a b&&oH ags bs):=id rfl
theorem aZo (a:IV):xF (.iv a) (.iv a)=true:=qX a
theorem aTa (a:Nat)(l:List (List IV)):xF (.tsl a l) (.tsl a l)=true:=by simp[xF,nZ]
def rck (ops:List aL)(M:List (Nat×TV))(n:Nat)(env:Env)(S:aA)(c:List Nat):Bool:=mJ K ops (dC M n) env S c
def rcS (v:Option TV)(w:TV):Bool:=match v with
 | some v=>same v w
 | none=>false
theorem aZp (v w:TV):rcS (some v) w=same v w:=id rfl
def rcG (g:TV)(want:Bool)(j:Nat)(M:List (Nat×TV))(n:Nat)(env:Env)(S:aA)(o:TOp):Bool:=match g with
 | .iv (.bool b)=>if b==want then rcS (flM K M n env S o) (opv K n env M (.reg j)) else true
 | .tup []=>true
 | _=>false
theorem bJy (want:Bool)(j:Nat)(o:TOp):rcG K (.tup []) want j M n env S o=true:=id rfl
theorem aZq (b want:Bool)(j:Nat)(o:TOp):rcG K (.iv (.bool b)) want j M n env S o=if b==want then rcS (flM K M n env S o) (opv K n env M (.reg j)) else true:=id rfl
def rcO (x:Option aL)(j:Nat)(M:List (Nat×TV))(n:Nat)(env:Env)(S:aA):Bool:=match x with
 | some ⟨o,_,none⟩=>rcS (flM K M n env S o) (opv K n env M (.reg j))
 | some ⟨o,_,some (g,want)⟩=>rcG K (opv K n env M (.reg g)) want j M n env S o
 | none=>false
theorem aZr (o:TOp)(l:Option Nat)(j:Nat):rcO K (some ⟨o,l,none⟩) j M n env S=rcS (flM K M n env S o) (opv K n env M (.reg j)):=id rfl
theorem aTb (o:TOp)(l:Option Nat)(g:Nat)(want:Bool)(j:Nat):rcO K (some ⟨o,l,some (g,want)⟩) j M n env S=rcG K (opv K n env M (.reg g)) want j M n env S o:=id rfl
theorem bE9 (ops:List aL):rck K ops M n env S []=true:=id rfl
theorem aZs (ops:List aL)(j:Nat)(c:List Nat):rck K ops M n env S (j::c)=(rcO K (wS ops j) j M n env S&&rck K ops M n env S c):=by
 simp only[rck,mJ,wS]
 congr 1
 cases ops[j]? with
 | none=>rfl
 | some x =>
  obtain⟨o,l,g⟩:=x
  cases g with
  | none =>
   simp only[dK,rcO]
   show (match flM K M n env S o with|some v=>same v (opv K n env M (.reg j))|none=>false)=_
   cases flM K M n env S o<;>rfl
  | some q =>
   obtain⟨g,want⟩:=q
   simp only[dK,rcO]
   show (match (match opv K n env M (.reg g) with | .iv (.bool b)=>some (b==want) | .tup []=>some false|_=>none) with|some true=>(match flM K M n env S o with|some v=>same v (opv K n env M (.reg j))|none=>false)|some false=>true|none=>false)=_
   unfold rcG
   cases opv K n env M (.reg g) with
   | iv v =>
    cases v with
    | bool b =>
     simp only
     cases b==want
     ·rfl
     ·simp only[↓reduceIte]
      cases flM K M n env S o<;>rfl
    | _=>rfl
   | tup vs=>cases vs<;>rfl
   | _=>rfl
theorem aZt (ops:List aL)(ps:List (Nat×List Nat×List Nat))(c fl:List Nat):gY K O (.ph ops c fl ps) M n fs env S=chk K O (rck K ops M n env S c) ops fl ps M n fs env S:=id rfl
end
end Go.TM
namespace Go.TM
attribute [go_sem] bEa aYg bEb bEc aYh aYi bEd bEe aYj aL5
attribute [go_sem] aSl aSm okL aI6 sB
attribute [go_sem] bEs aY1 aY2 bKm bKn aMb aMc aMd aSp bEu aQy aEh bEv bEw aY3 aY4 bEx aY5 aY6 pN aY8 aI2 aMg
attribute [go_sem] aSy
theorem go_region (K:bO)(O:Orc)(ops:List aL)(fs:List Fr)(env:Env)(S:aA):go K O (.region ops) fs env S=rgN K O (yO ops 0) ops fs env S:=by
 rw[go_region0,aYu,aGh]; rfl
def aZu (K:bO)(O:Orc)(n:Nat)(f0:List Nat)(ph:List (Nat×List Nat×List Nat))(ops:List aL)(fs:List Fr)(env:Env)(S:aA):Out (bN×Env×aA):=fls K O ops f0 ph [] n fs env S
@[congr] theorem flsN_congr (K:bO) (O:Orc) {n n':Nat} (h:n=n') (f0:List Nat) (ph:List (Nat×List Nat×List Nat)) (ops:List aL) (fs:List Fr) (env:Env) (S:aA):aZu K O n f0 ph ops fs env S=aZu K O n' f0 ph ops fs env S:=by rw[h]
theorem aQ1 (K:bO)(O:Orc)(n:Nat)(f0:List Nat)(ph:List (Nat×List Nat×List Nat))(ops:List aL)(fs:List Fr)(env:Env)(S:aA):aZu K O n f0 ph ops fs env S=fls K O ops f0 ph [] n fs env S:=id rfl
theorem go_draw (K:bO)(O:Orc)(f0:List Nat)(ph:List (Nat×List Nat×List Nat))(ops:List aL)(fs:List Fr)(env:Env)(S:aA):go K O (.draw f0 ph ops) fs env S=aZu K O (yO ops 0) f0 ph ops fs env S:=by
 rw[go_draw0,aQ1,aGh]; rfl
theorem aZv (n:Nat):yO [] n=n:=id rfl
theorem aTc (a:aL)(l:List aL)(n:Nat):yO (a::l) n=yO l (n+1):=id rfl
@[congr] theorem lenT_congr (l:List aL) {n n':Nat} (h:n=n'):yO l n=yO l n':=by rw[h]
theorem aTd (a:TV)(l:List TV)(d:TV):List.getD (a::l) 0 d=a:=id rfl
theorem aTe (a:TV)(l:List TV)(j:Nat)(d:TV):List.getD (a::l) (j+1) d=List.getD l j d:=by simp[List.getD]
attribute [go_sem] aTd aTe List.map_cons List.map_nil List.getElem?_cons_zero List.getElem?_cons_succ Option.map_some Option.map_none
theorem bFa (v:IV):dT (.iv v)=false:=id rfl
theorem aZw (a b c:Nat):dT (.ptr a b c)=false:=id rfl
theorem aZx (a:Nat)(l:List (List IV)):dT (.tsl a l)=false:=id rfl
theorem bFb (f:Nat)(a b:List TV):dT (.fn f a b)=false:=id rfl
theorem aZy (v:IV):sH (.iv v)=false:=id rfl
theorem aJa (v:IV):iX (.iv v)=iK v:=id rfl
theorem aGm (b:Bool):iK (.bool b)=true:=id rfl
theorem aJb (k:IntKind)(m:Int):iK (.int k m)=true:=id rfl
theorem aJc (s:List UInt8):iK (.str s)=true:=id rfl
theorem aMr (a:Tag)(l:List (List IV)):iK (.sl a l)=false:=id rfl
theorem aCw (S:aA):dP S []=some []:=id rfl
def aJd {α:Type}:Option α→Option (List α)→Option (List α)
 | some a,some l=>some (a::l)
 | _,_=>none
theorem aBv {α:Type}(a:α)(l:List α):aJd (some a) (some l)=some (a::l):=id rfl
theorem aBw (S:aA)(v:TV)(r:List TV):dP S (v::r)=aJd (lJ S v) (dP S r):=by rw[dP]; cases lJ S v<;>cases dP S r<;>rfl
theorem aJe (S:aA)(v:IV):lJ S (.iv v)=some (.iv v):=id rfl
theorem bFc (S:aA)(v:IV):aCj S (.iv v)=some v:=id rfl
theorem aTf (S:aA):qA S []=some []:=id rfl
def ivC:Option IV→Option (List TV)→Option (List TV)
 | some a,some l=>some (.iv a::l)
 | _,_=>none
theorem aZz (a:IV)(l:List TV):ivC (some a) (some l)=some (.iv a::l):=id rfl
theorem aMs (S:aA)(v:TV)(r:List TV):qA S (v::r)=ivC (aCj S v) (qA S r):=id rfl
theorem aJf (S:aA)(c:List TV):resolve S (.tup c)=(qA S c).map .tup:=id rfl
theorem aN (S:aA)(v:IV):resolve S (.iv v)=some (.iv v):=id rfl
def aZ0:TV→Option TV
 | .lb _=>none
 | .lp ..=>none
 | v=>some v
theorem bFd (v:IV):aZ0 (.iv v)=some (.iv v):=id rfl
theorem aZ1 (a b c d e f:Nat):aZ0 (.msl a b c d e f)=some (.msl a b c d e f):=id rfl
theorem aZ2 (a:Nat)(l:List (List IV)):aZ0 (.tsl a l)=some (.tsl a l):=id rfl
theorem aGn (env:Env)(S:aA)(j:Nat):iZ env S (.loc j)=aZ0 (env.getD j .hole):=by simp only[iZ]; cases env.getD j .hole<;>rfl
theorem aCx (env:Env)(S:aA)(j m:Nat)(ag:Bool):iZ env S (.cell j m ag)=mC ag (bR env S (aBm j (env.getD j .hole)) m):=by simp only[iZ,bH]; cases env.getD j .hole<;>rfl
theorem aCy (env:Env)(S:aA):eX env S []=some []:=id rfl
theorem aBx (env:Env)(S:aA)(r:nH)(rs:List nH):eX env S (r::rs)=aJd (iZ env S r) (eX env S rs):=by rw[eX]; cases iZ env S r<;>cases eX env S rs<;>rfl
def bFe:Option (List TV)→Option TV
 | some [v]=>some v
 | some vs=>some (.tup vs)
 | none=>none
theorem aZ3 (v:TV):bFe (some [v])=some v:=id rfl
theorem aZ4 (v w:TV)(l:List TV):bFe (some (v::w::l))=some (.tup (v::w::l)):=id rfl
theorem aZ5:bFe (some [])=some (.tup []):=id rfl
theorem aTg (rs:List nH)(env:Env)(S:aA):lV rs env S=bFe (eX env S rs):=by simp only[lV]; cases eX env S rs with|none=>rfl|some l=>cases l with|nil=>rfl|cons a r=>cases r<;>rfl
theorem aTh (k:IntKind)(a b:Int):TM.binOp .add (.iv (.int k a)) (.iv (.int k b))=some (.int k (k.wrap (a+b))):=by simp[TM.binOp,iW]
theorem aTi (k:IntKind)(a b:Int):TM.binOp .sub (.iv (.int k a)) (.iv (.int k b))=some (.int k (k.wrap (a-b))):=by simp[TM.binOp,iW]
theorem aTj (k:IntKind)(a b:Int):TM.binOp .mul (.iv (.int k a)) (.iv (.int k b))=some (.int k (k.wrap (a*b))):=by simp[TM.binOp,iW]
theorem aTk (k:IntKind)(a b:Int):TM.binOp .quo (.iv (.int k a)) (.iv (.int k b))=if b=0 then none else some (.int k (k.wrap (a.tdiv b))):=by simp[TM.binOp,iW]
theorem aTl (k:IntKind)(a b:Int):TM.binOp .rem (.iv (.int k a)) (.iv (.int k b))=if b=0 then none else some (.int k (a.tmod b)):=by simp[TM.binOp,iW]
theorem aTm (k:IntKind)(a b:Int):TM.binOp .eql (.iv (.int k a)) (.iv (.int k b))=some (.bool (a==b)):=by simp[TM.binOp,iW]
theorem aTn (k:IntKind)(a b:Int):TM.binOp .neq (.iv (.int k a)) (.iv (.int k b))=some (.bool (a != b)):=by simp[TM.binOp,iW]
theorem aTo (k:IntKind)(a b:Int):TM.binOp .lss (.iv (.int k a)) (.iv (.int k b))=some (.bool (decide (a<b))):=by simp[TM.binOp,iW]
theorem aTp (k:IntKind)(a b:Int):TM.binOp .leq (.iv (.int k a)) (.iv (.int k b))=some (.bool (decide (a≤b))):=by simp[TM.binOp,iW]
theorem aTq (k:IntKind)(a b:Int):TM.binOp .gtr (.iv (.int k a)) (.iv (.int k b))=some (.bool (decide (b<a))):=by simp[TM.binOp,iW]
theorem aTr (k:IntKind)(a b:Int):TM.binOp .geq (.iv (.int k a)) (.iv (.int k b))=some (.bool (decide (b≤a))):=by simp[TM.binOp,iW]
def pR (w:Nat)(a b:Int):Int:=((BitVec.ofInt w a &&& BitVec.ofInt w b).toNat:Nat)
def bOr (w:Nat)(a b:Int):Int:=((BitVec.ofInt w a ||| BitVec.ofInt w b).toNat:Nat)
def rV (w:Nat)(a b:Int):Int:=((BitVec.ofInt w a &&& ~~~ BitVec.ofInt w b).toNat:Nat)
theorem aTs (k:IntKind)(a b:Int):TM.binOp .and (.iv (.int k a)) (.iv (.int k b))=some (.int k (k.wrap (pR k.bits a b))):=by simp[TM.binOp,iW,pR]
theorem aZ6 (k:IntKind)(a b:Int):TM.binOp .or (.iv (.int k a)) (.iv (.int k b))=some (.int k (k.wrap (bOr k.bits a b))):=by simp[TM.binOp,iW,bOr]
theorem aGo (k:IntKind)(a b:Int):TM.binOp .andNot (.iv (.int k a)) (.iv (.int k b))=some (.int k (k.wrap (rV k.bits a b))):=by simp[TM.binOp,iW,rV]
theorem aTt (k k':IntKind)(a b:Int):TM.binOp .shl (.iv (.int k a)) (.iv (.int k' b))=if b<0 then none else some (.int k (k.wrap (a*2 ^ (if b.toNat≤k.bits then b.toNat else k.bits)))):=by simp[TM.binOp,uG,Nat.min_def]
theorem aTu (k k':IntKind)(a b:Int):TM.binOp .shr (.iv (.int k a)) (.iv (.int k' b))=if b<0 then none else some (.int k (a.fdiv (2 ^ (if b.toNat≤k.bits then b.toNat else k.bits)))):=by simp[TM.binOp,uG,Nat.min_def]
theorem aMt (a b:List UInt8):TM.binOp .add (.iv (.str a)) (.iv (.str b))=if a.length+b.length≤4611686018427387904 then some (.str (a++b)) else none:=id rfl
theorem aMu (a b:List UInt8):TM.binOp .eql (.iv (.str a)) (.iv (.str b))=some (.bool (a==b)):=id rfl
theorem aMv (a b:List UInt8):TM.binOp .neq (.iv (.str a)) (.iv (.str b))=some (.bool (!(a==b))):=id rfl
theorem aZ7 (k:IntKind)(a:Int):TM.unOp .neg (.iv (.int k a))=some (.int k (k.wrap (0-a))):=id rfl
theorem aZ8 (b:Bool):TM.unOp .not (.iv (.bool b))=some (.bool (!b)):=id rfl
theorem aGp (k k':IntKind)(a:Int):cT (.toInt k) (.iv (.int k' a))=some (.int k (k.wrap a)):=id rfl
theorem yQ (s:List UInt8):cT .strBytes (.iv (.str s))=if s.length≤70368744177664 then some (.sl .no (bF s)) else none:=id rfl
theorem aZ9 (a b:Bool):TM.eqB .bool (.iv (.bool a)) (.iv (.bool b))=some (a==b):=id rfl
theorem bAa (o:TOp):floats o=(bZ o==0||bZ o==1||bZ o==2||bZ o==4||bZ o==6):=id rfl
attribute [go_sem] bFa aZw aZx bFb
attribute [go_sem] aZy aJa
attribute [go_sem] aGm aJb aJc aMr aCw aBv aBw
attribute [go_sem] aJe bFc
attribute [go_sem] aTf aZz aMs aJf aN bFd aZ1 aZ2
attribute [go_sem] aGn aCx aCy aBx
attribute [go_sem] aZ3 aZ4 aZ5 aTg aTh aTi aTj aTk aTl aTm aTn aTo
attribute [go_sem] aTp aTq aTr aTs aZ6 aGo aTt aTu aMt aMu aMv
attribute [go_sem] aZ7 aZ8 aGp yQ aZ9
attribute [go_sem] bAa
theorem bL0 (b:Bool):(b==true)=b:=by cases b<;>rfl
theorem bL1 (b:Bool):(b==false)=!b:=by cases b<;>rfl
theorem aGq (b:Bool):cellsOf (.iv (.bool b))=[.iv (.bool b)]:=id rfl
theorem aJg (b:Bool):bT (.iv (.bool b))=false:=id rfl
theorem aJh (k:IntKind)(m:Int):cellsOf (.iv (.int k m))=[.iv (.int k m)]:=id rfl
theorem aMw (k:IntKind)(m:Int):bT (.iv (.int k m))=false:=id rfl
theorem aJi (s:List UInt8):cellsOf (.iv (.str s))=[.iv (.str s)]:=id rfl
theorem aMx (s:List UInt8):bT (.iv (.str s))=false:=id rfl
theorem aMy (a:Tag)(l:List (List IV)):cellsOf (.iv (.sl a l))=[.iv (.sl a l)]:=id rfl
theorem aTv (a:Tag)(l:List (List IV)):bT (.iv (.sl a l))=false:=id rfl
theorem aGr (l:List IV):cellsOf (.iv (.agg l))=l.map .iv:=id rfl
theorem aJj (a b c:Nat):cellsOf (.ptr a b c)=[.ptr a b c]:=id rfl
theorem aMz (a b c:Nat):bT (.ptr a b c)=false:=id rfl
theorem aJk (a b c d e f:Nat):cellsOf (.msl a b c d e f)=[.msl a b c d e f]:=id rfl
theorem aM0 (a b c d e f:Nat):bT (.msl a b c d e f)=false:=id rfl
theorem aM1 (a b c d e f:Nat):jH (.msl a b c d e f)=.msl a b c d e f:=id rfl
theorem aJl (a:Nat)(l:List (List IV)):cellsOf (.tsl a l)=[.tsl a l]:=id rfl
theorem aM2 (a:Nat)(l:List (List IV)):bT (.tsl a l)=false:=id rfl
theorem aJm (a:Nat):cellsOf (.map a)=[.map a]:=id rfl
theorem aM3 (a:Nat):bT (.map a)=false:=id rfl
theorem aM4 (a:Nat):jH (.map a)=.map a:=id rfl
theorem aM5 (f:Nat)(a b:List TV):cellsOf (.fn f a b)=[.fn f a b]:=id rfl
theorem aTw (f:Nat)(a b:List TV):bT (.fn f a b)=false:=id rfl
theorem aJn (l:List TV):cellsOf (.agg l)=l:=id rfl
theorem aTx (v:IV):jH (.iv v)=.iv v:=id rfl
theorem aM6 (a:Nat)(l:List (List IV)):jH (.tsl a l)=.iv (.sl .no l):=id rfl
def bGz (x:Option (List IV))(l:List TV):TV:=match x with
 | some a=>.iv (.agg a)
 | none=>.agg l
theorem aM7 (l:List TV):jH (.agg l)=bGz (toIVs l) l:=by simp only[jH,nS]; cases toIVs l<;>rfl
theorem aM8 (x:List IV)(l:List TV):bGz (some x) l=.iv (.agg x):=id rfl
theorem aTy:toIVs []=some []:=id rfl
theorem aBy (v:TV)(r:List TV):toIVs (v::r)=aJd (pK v) (toIVs r):=by rw[toIVs]; cases pK v<;>cases toIVs r<;>rfl
theorem aJo (v:IV):pK (.iv v)=some v:=id rfl
theorem aTz (a:Nat)(l:List (List IV)):pK (.tsl a l)=some (.sl .no l):=id rfl
def bAb (vs:List TV)(es:List (List TV))(n i:Nat)(e:aG→TV)(r:List (Nat×aG)):Option (List (List TV)) :=
 if vs.length=n∧i<es.length∧vs.any bT=false then dV (es.set i vs) n e r else none
theorem aJp (es:List (List TV))(n i:Nat)(e:aG→TV)(x:aG)(r:List (Nat×aG)):dV es n e ((i,x)::r)=bAb (cellsOf (jH (e x))) es n i e r:=id rfl
theorem aM9 (es:List (List TV))(n:Nat)(e:aG→TV):dV es n e []=some es:=id rfl
theorem aT0 (vs:List TV)(es:List (List TV))(n i:Nat)(e:aG→TV)(r:List (Nat×aG)):bAb vs es n i e r=if vs.length=n∧i<es.length∧vs.any bT=false then dV (es.set i vs) n e r else none:=id rfl
def bG0 (vs:List TV)(cs:List TV)(off n:Nat)(e:aG→TV)(r:List (Nat×Nat×aG)):Option (List TV) :=
 if vs.length=n∧off+n≤cs.length∧vs.any bT=false then fill (put cs off vs) e r else none
theorem aT1 (cs:List TV)(off n:Nat)(e:aG→TV)(x:aG)(r:List (Nat×Nat×aG)):fill cs e ((off,n,x)::r)=bG0 (cellsOf (jH (e x))) cs off n e r:=id rfl
theorem bAc (cs:List TV)(e:aG→TV):fill cs e []=some cs:=id rfl
theorem bAd (vs:List TV)(cs:List TV)(off n:Nat)(e:aG→TV)(r:List (Nat×Nat×aG)):bG0 vs cs off n e r=if vs.length=n∧off+n≤cs.length∧vs.any bT=false then fill (put cs off vs) e r else none:=id rfl
def mkG (x:Option (List IV))(cs:List TV):TV:=match x with
 | some l=>.iv (.agg l)
 | none=>.agg cs
theorem bAe (cs:List TV):oG cs=mkG (lI cs) cs:=by simp only[oG]; cases lI cs<;>rfl
theorem bAf (l:List IV)(cs:List TV):mkG (some l) cs=.iv (.agg l):=id rfl
theorem bAg (cs:List TV):mkG none cs=.agg cs:=id rfl
def bAh (v:IV)(x:Option (List IV)):Option (List IV):=x.map (v::·)
theorem aNa (v:IV)(l:List IV):bAh v (some l)=some (v::l):=id rfl
theorem aNb (v:IV):bAh v none=none:=id rfl
theorem aNc (v:IV)(r:List TV):lI (.iv v::r)=bAh v (lI r):=id rfl
theorem aT2:lI []=some []:=id rfl
theorem aNd:jI []=some []:=id rfl
theorem aJq (c:List TV)(r:List (List TV)):jI (c::r)=aJd (lI c) (jI r):=by rw[jI]; cases lI c<;>cases jI r<;>rfl
theorem aT3 {α:Type}(a:α)(l:List α)(v:α):List.set (a::l) 0 v=v::l:=id rfl
theorem aT4 {α:Type}(a:α)(l:List α)(j:Nat)(v:α):List.set (a::l) (j+1) v=a::List.set l j v:=id rfl
theorem bI5 {α:Type}(cs:List α)(off n:Nat):sub cs off n=if off+n≤cs.length then some ((cs.drop off).take n) else none:=id rfl
theorem bI6 {α:Type}(cs:List α)(off:Nat)(vs:List α):put cs off vs=cs.take off++vs++cs.drop (off+vs.length):=id rfl
theorem aJr (l:List IV):fJ (.iv (.agg l))=some (l.map .iv):=id rfl
theorem aT5 (a b c d e f:Nat)(r:List TV):lI (.msl a b c d e f::r)=none:=id rfl
theorem aT6 (a:Nat)(l:List (List IV))(r:List TV):lI (.tsl a l::r)=none:=id rfl
theorem aEk (a:Nat)(r:List TV):lI (.map a::r)=none:=id rfl
attribute [go_sem] aGq aJg aJh aMw aJi aMx aMy aTv
attribute [go_sem] aGr aJj aMz aJk aM0
attribute [go_sem] aM1 aJl aM2 aJm aM3 aM4 aM5 aTw
attribute [go_sem] aJn aTx
attribute [go_sem] aM6 aM7 aM8 aTy aBy aJo aTz
attribute [go_sem] aJp aM9 aT0 aT1 bAc bAd bAe bAf bAg aNa
attribute [go_sem] aNb aNc aT2 aEk aNd aJq aT3 aT4 bI5 bI6 aJr
attribute [go_sem] List.length_cons List.length_nil List.take_succ_cons List.drop_succ_cons List.take_zero List.drop_zero List.take_nil List.drop_nil and_self and_true true_and
attribute [go_sem] aT5 aT6 aEk
def aNe (w:Nat)(env:Env)(S:aA)(a:TV)(vs:List TV):Option (TV×Env×aA):=if vs.length=w then aBq (setCells env S a vs) else none
theorem jY (w:Nat)(env:Env)(S:aA)(a v:TV):wU w env S a v=aNe w env S a (cellsOf v):=by
 unfold aNe
 split
 ·rename_i h; exact aSq env S w a v h
 ·rename_i h; simp only[wU,h,↓reduceIte]
theorem iL (w:Nat)(env:Env)(S:aA)(a:TV)(vs:List TV):aNe w env S a vs=if vs.length=w then aBq (setCells env S a vs) else none:=id rfl
def lbK (off n:Nat):TV→Option (List TV)
 | .lb cs=>sub cs off n
 | _=>none
theorem bI7 (off n:Nat)(cs:List TV):lbK off n (.lb cs)=sub cs off n:=id rfl
theorem aJs (env:Env)(S:aA)(j off n:Nat):bR env S (.lp j off) n=lbK off n (env.getD j .hole):=by
 simp only[bR,List.getD]
 cases env[j]? with
 | none=>rfl
 | some v=>cases v<;>rfl
def blK (v off n:Nat):Option aY→Option (List TV)
 | some (.cells v' _ cs)=>if v'=v then sub cs off n else none
 | some (.frz v' cs)=>if v'=v then (sub cs off n).map (·.map .iv) else none
 | _=>none
theorem aT7 (v off n v':Nat)(l:Bool)(cs:List TV):blK v off n (some (.cells v' l cs))=if v'=v then sub cs off n else none:=id rfl
theorem aGs (env:Env)(S:aA)(i v off n:Nat):bR env S (.ptr i v off) n=blK v off n (S[i]?):=by
 simp only[bR]
 cases S[i]? with
 | none=>rfl
 | some b=>cases b<;>rfl
def bG1 (env:Env)(S:aA)(j off:Nat)(vs:List TV):TV→Option (Env×aA)
 | .lb cs=>if off+vs.length≤cs.length then some (env.set j (.lb (put cs off vs)),S) else none
 | _=>none
theorem bAi (env:Env)(S:aA)(j off:Nat)(vs cs:List TV):bG1 env S j off vs (.lb cs)=if off+vs.length≤cs.length then some (env.set j (.lb (put cs off vs)),S) else none:=id rfl
theorem aJt (env:Env)(S:aA)(j off:Nat)(vs:List TV):setCells env S (.lp j off) vs=if vs.any bT then none else bG1 env S j off vs (env.getD j .hole):=by
 simp only[setCells,List.getD]
 split
 ·rfl
 ·cases env[j]? with
  | none=>rfl
  | some v=>cases v<;>rfl
def bG2 (env:Env)(S:aA)(i v off:Nat)(vs:List TV):Option aY→Option (Env×aA)
 | some (.cells v' l cs)=>if v'=v∧off+vs.length≤cs.length then some (env,S.set i (.cells v' l (put cs off vs))) else none
 | _=>none
theorem aJu (env:Env)(S:aA)(i v off:Nat)(vs:List TV)(v':Nat)(l:Bool)(cs:List TV):bG2 env S i v off vs (some (.cells v' l cs))=if v'=v∧off+vs.length≤cs.length then some (env,S.set i (.cells v' l (put cs off vs))) else none:=id rfl
theorem aGt (env:Env)(S:aA)(i v off:Nat)(vs:List TV):setCells env S (.ptr i v off) vs=if vs.any bT then none else bG2 env S i v off vs (S[i]?):=by
 simp only[setCells]
 split
 ·rfl
 ·cases S[i]? with
  | none=>rfl
  | some b=>cases b<;>rfl
theorem aT8 (j off n:Nat):fB (.lp j off) n=some (.lp j (off+n)):=id rfl
theorem aNf (i v off n:Nat):fB (.ptr i v off) n=some (.ptr i v (off+n)):=id rfl
theorem aNg (S:aA)(t:Tag)(l:List (List IV)):fE S (.iv (.sl t l))=some l:=id rfl
theorem bKz:(false=true)=False:=by simp
attribute [go_sem] jY iL bI7 aJs aT7 aGs bAi aJt aJu aGt aT8 aNf aNg bKz
attribute [go_sem] bE8
attribute [go_sem] aZn aS9 aMq aZo aTa aZp
attribute [go_sem] eq_self bL0 bL1 List.any_cons List.any_nil List.all_cons List.all_nil TM.undef bZ Bool.true_and Bool.and_true Bool.false_and Bool.and_false Bool.or_false Bool.false_or Bool.true_or Bool.or_true Bool.not_true Bool.not_false ite_true ite_false
end Go.TM
namespace Go.TM
@[reducible] def TT {β:Type} (α:Type) (a:β):Type:=α
def br' {α:Type}(B:Bool)(x y:Out α):TT (Out α) (x,y):=br B x y
def bk' (K:bO)(O:Orc)(fs:List Fr)(j:bN)(e:Env)(S:aA):TT (Out (bN×Env×aA)) (fs,j,e,S):=bk K O fs j e S
def go' (K:bO)(O:Orc)(c:aK)(fs:List Fr)(e:Env)(S:aA):TT (Out (bN×Env×aA)) (c,fs,e,S):=go K O c fs e S
def cD (K:bO)(n:Nat)(env:Env)(M:List (Nat×TV))(x:aG):TT (TV) (n,env,M,x):=opv K n env M x
def vJ (K:bO)(O:Orc)(ops:List aL)(i:Nat)(M:List (Nat×TV))(n:Nat)(fs:List Fr)(env:Env)(S:aA):TT (Out (bN×Env×aA)) (ops,M,n,fs,S):=wbk K O ops i M n fs env S
def aT9 (K:bO)(O:Orc)(all ops:List aL)(i:Nat)(M:List (Nat×TV))(n:Nat)(fs:List Fr)(env:Env)(S:aA):TT (Out (bN×Env×aA)) (all,ops,M,n,fs,env,S):=rgR K O all ops i M n fs env S
def bFf (K:bO)(O:Orc)(ops:List aL)(ps:List (Nat×List Nat×List Nat))(M:List (Nat×TV))(n:Nat)(fs:List Fr)(env:Env)(S:aA):TT (Out (bN×Env×aA)) (ops,ps,M,n,fs,env,S):=phs K O ops ps M n fs env S
def aJv (K:bO)(O:Orc)(ops:List aL)(is:List Nat)(ps:List (Nat×List Nat×List Nat))(M:List (Nat×TV))(n:Nat)(fs:List Fr)(env:Env)(S:aA):TT (Out (bN×Env×aA)) (ops,is,ps,M,n,fs,env,S):=fls K O ops is ps M n fs env S
def bI8 (K:bO)(O:Orc)(c:Bool)(ops:List aL)(is:List Nat)(ps:List (Nat×List Nat×List Nat))(M:List (Nat×TV))(n:Nat)(fs:List Fr)(env:Env)(S:aA):TT (Out (bN×Env×aA)) (ops,is,ps,M,n,fs,env,S):=chk K O c ops is ps M n fs env S
def oN (K:bO)(O:Orc)(k:Kt)(M:List (Nat×TV))(n:Nat)(fs:List Fr)(env:Env)(S:aA):TT (Out (bN×Env×aA)) (k,M,n,fs,env,S):=gY K O k M n fs env S
def eY (K:bO)(O:Orc)(o:TOp)(i:Nat)(k:Kt)(M:List (Nat×TV))(n:Nat)(fs:List Fr)(env:Env)(S:aA):TT (Out (bN×Env×aA)) (o,i,k,M,n,fs,env,S):=op1 K O o i k M n fs env S
def aUa (K:bO)(O:Orc)(g:TV)(want:Bool)(j:Nat)(o:TOp)(i:Nat)(k:Kt)(M:List (Nat×TV))(n:Nat)(fs:List Fr)(env:Env)(S:aA):TT (Out (bN×Env×aA)) (want,j,o,i,k,M,n,fs,env,S):=opG K O g want j o i k M n fs env S
def lT (K:bO)(O:Orc)(v:Option TV)(i:Nat)(k:Kt)(M:List (Nat×TV))(n:Nat)(fs:List Fr)(env:Env)(S:aA):TT (Out (bN×Env×aA)) (i,k,M,n,fs,env,S):=opV K O v i k M n fs env S
def bI9 (K:bO)(O:Orc)(v:Option (TV×aY))(i:Nat)(k:Kt)(M:List (Nat×TV))(n:Nat)(fs:List Fr)(env:Env)(S:aA):TT (Out (bN×Env×aA)) (i,k,M,n,fs,env,S):=opA K O v i k M n fs env S
def aNh (K:bO)(O:Orc)(v:Option (TV×aA))(i:Nat)(k:Kt)(M:List (Nat×TV))(n:Nat)(fs:List Fr)(env:Env):TT (Out (bN×Env×aA)) (i,k,M,n,fs,env):=opS K O v i k M n fs env
def aJw (K:bO)(O:Orc)(v:Option (TV×Env×aA))(i:Nat)(k:Kt)(M:List (Nat×TV))(n:Nat)(fs:List Fr):TT (Out (bN×Env×aA)) (i,k,M,n,fs):=opE K O v i k M n fs
def yR (K:bO)(O:Orc)(x:Out (TV×aA))(i:Nat)(k:Kt)(M:List (Nat×TV))(n:Nat)(fs:List Fr)(env:Env):TT (Out (bN×Env×aA)) (i,k,M,n,fs,env):=opC K O x i k M n fs env
def bJa (K:bO)(O:Orc)(c a b:TV)(i:Nat)(k:Kt)(M:List (Nat×TV))(n:Nat)(fs:List Fr)(env:Env)(S:aA):TT (Out (bN×Env×aA)) (i,k,M,n,fs,env,S):=opP K O c a b i k M n fs env S
def bJb (K:bO)(O:Orc)(c:TV)(a b:aK)(fs:List Fr)(env:Env)(S:aA):TT (Out (bN×Env×aA)) (a,b,fs,env,S):=goC K O c a b fs env S
def lp' (O:Orc)(b:aK)(env:Env)(S:aA):TT (Out (bN×Env×aA)) (b,env,S):=lp O b env S
def bJc (K:bO)(O:Orc)(x:Out (bN×Env×aA))(fs:List Fr):TT (Out (bN×Env×aA)) (fs):=goL K O x fs
def bJd (K:bO)(O:Orc)(n:Nat)(ops:List aL)(fs:List Fr)(env:Env)(S:aA):TT (Out (bN×Env×aA)) (ops,fs,env,S):=rgN K O n ops fs env S
def aEl (l:List aL)(n:Nat):TT Nat l:=yO l n
def bFg (c:Bool)(x y:Out (bN×Env×aA)):TT (Out (bN×Env×aA)) (x,y):=flB c x y
def bFh (K:bO)(O:Orc)(o:Option aL)(i:Nat)(ops:List aL)(is:List Nat)(ps:List (Nat×List Nat×List Nat))(M:List (Nat×TV))(n:Nat)(fs:List Fr)(env:Env)(S:aA):TT (Out (bN×Env×aA)) (i,ops,is,ps,M,n,fs,env,S):=flO K O o i ops is ps M n fs env S
def bFi (K:bO)(O:Orc)(o:Option aL)(i:Nat)(ops:List aL)(c fl:List Nat)(ps:List (Nat×List Nat×List Nat))(M:List (Nat×TV))(n:Nat)(fs:List Fr)(env:Env)(S:aA):TT (Out (bN×Env×aA)) (i,ops,c,fl,ps,M,n,fs,env,S):=phO K O o i ops c fl ps M n fs env S
def aGu (K:bO)(O:Orc)(v:TV)(j:Nat)(ops:List aL)(i:Nat)(M:List (Nat×TV))(n:Nat)(fs:List Fr)(env:Env)(S:aA):TT (Out (bN×Env×aA)) (j,ops,i,M,n,fs,env,S):=wbV K O v j ops i M n fs env S
def bAj (K:bO)(O:Orc)(w:Nat)(x:Option (List (List IV)))(es:Option (List (List TV)))(i:Nat)(k:Kt)(M:List (Nat×TV))(n:Nat)(fs:List Fr)(env:Env)(S:aA):TT (Out (bN×Env×aA)) (w,i,k,M,n,fs,env,S):=aI5 K O w x es i k M n fs env S
def bFj (c:Bool)(x y:Out (bN×Env×aA)):TT (Out (bN×Env×aA)) (x,y):=alB c x y
def bFk (S:aA)(args:List TV)(v:Option TV):TT (Out (TV×aA)) (S,args):=cpV S args v
def bFl (S:aA)(args:List TV)(x:Out (TV×aA)):TT (Out (TV×aA)) (S,args):=cpR S args x
def aUb (O:Orc)(S:aA)(args:List TV)(f:Nat)(ags:Option (List TV)):TT (Out (TV×aA)) (S,args,f):=cpA O S args f ags
def bJe (c:Bool)(S:aA)(args:List TV)(v:TV):TT (Out (TV×aA)) (S,args,v):=cpB c S args v
def bJf (t:Bool)(S:aA)(x:Out (TV×aA)):TT (Out (TV×aA)) (t,S):=csR t S x
def aUc (O:Orc)(t:Bool)(S:aA)(f:Nat)(lp:Bool)(args:List TV):TT (Out (TV×aA)) (t,S,f):=csA O t S f lp args
def vK (rs:List nH)(x:Out (bN×Env×aA)):TT (Out (TV×aA)) (rs):=fin rs x
def aQ2 (S:aA)(v:Option TV):TT (Out (TV×aA)) (S):=aS7 S v
def aUd (O:Orc)(b:aK)(x:Out (bN×Env×aA)):TT (Out (bN×Env×aA)) (b):=rnd O b x
def aJx (K:bO)(M:List (Nat×TV))(n:Nat)(env:Env)(S:aA)(o:TOp):TT (Option TV) (M,n,env,S,o):=flM K M n env S o
def bAk (K:bO)(ops:List aL)(M:List (Nat×TV))(n:Nat)(env:Env)(S:aA)(c:List Nat):TT (Bool) (ops,M,n,env,S,c):=rck K ops M n env S c
def bJg (K:bO)(g:TV)(want:Bool)(j:Nat)(M:List (Nat×TV))(n:Nat)(env:Env)(S:aA)(o:TOp):TT (Bool) (want,j,M,n,env,S,o):=rcG K g want j M n env S o
def bFm (K:bO)(x:Option aL)(j:Nat)(M:List (Nat×TV))(n:Nat)(env:Env)(S:aA):TT (Bool) (j,M,n,env,S):=rcO K x j M n env S
def bAl (K:bO)(O:Orc)(n:Nat)(f0:List Nat)(ph:List (Nat×List Nat×List Nat))(ops:List aL)(fs:List Fr)(env:Env)(S:aA):TT (Out (bN×Env×aA)) (f0,ph,ops,fs,env,S):=aZu K O n f0 ph ops fs env S
section
variable (K:bO)(O:Orc)(ops:List aL)(is:List Nat)(ps:List (Nat×List Nat×List Nat))(i:Nat)(k:Kt)(M:List (Nat×TV))(n:Nat)(fs:List Fr)(env:Env)(S:aA)
theorem bAm {α:Type}(x y:Out α):br' true x y=x:=_root_.id (rU ..)
theorem aUe {α:Type}(x y:Out α):br' false x y=y:=_root_.id (oM ..)
theorem bFn {α:Type}(B:Bool)(x y:Out α):br' (!B) x y=br' B y x:=_root_.id (bIk ..)
theorem dR {α:Type}{B:Bool}{x y z:Out α}(h:B=true→x=z)(g:B=false→y=z):br' B x y=z:=bKk h g
theorem bAn (n:Nat)(env:Env)(M:List (Nat×TV))(j:Nat):cD K n env M (.reg j)=if j<n then reg M j else .hole:=_root_.id (aGg ..)
theorem bAo (n:Nat)(env:Env)(M:List (Nat×TV))(j:Nat):cD K n env M (.loc j)=aBm j (env.getD j .hole):=_root_.id (bEf ..)
theorem bAp (n:Nat)(env:Env)(M:List (Nat×TV))(v:IV):cD K n env M (.cst v)=.iv v:=_root_.id (bEg ..)
theorem bFo (n:Nat)(env:Env)(M:List (Nat×TV))(f:Nat):cD K n env M (.fn f)=.fn f [] []:=_root_.id (bIl ..)
theorem aUf (n:Nat)(env:Env)(M:List (Nat×TV))(g:Nat):cD K n env M (.glob g)=aYk (K.glob g):=_root_.id (aYl ..)
theorem aUg (v:TV):lT K O (some v) i k M n fs env S=oN K O k ((i,v)::M) n fs env S:=_root_.id (aYm ..)
theorem aUh (v:TV)(b:aY):bI9 K O (some (v,b)) i k M n fs env S=aNh K O (some (v,S++[b])) i k M n fs env:=_root_.id (aYn ..)
theorem aUi (v:TV):aNh K O (some (v,S)) i k M n fs env=oN K O k ((i,v)::M) n fs env S:=_root_.id (aYo ..)
theorem aUj (v:TV):aJw K O (some (v,env,S)) i k M n fs=oN K O k ((i,v)::M) n fs env S:=_root_.id (aYp ..)
theorem bAq (v:TV):yR K O (.ret (v,S)) i k M n fs env=oN K O k ((i,v)::M) n fs env S:=_root_.id (bEh ..)
theorem aUk (t:Bool)(a b:TV):bJa K O (.iv (.bool t)) a b i k M n fs env S=br' t (oN K O k ((i,a)::M) n fs env S) (oN K O k ((i,b)::M) n fs env S):=_root_.id (aYq ..)
theorem aUl (b want:Bool)(j:Nat)(o:TOp):aUa K O (.iv (.bool b)) want j o i k M n fs env S=br' (b==want) (eY K O o i k ((j,.iv (.bool want))::M) n fs env S) (oN K O k ((i,undef)::(j,.iv (.bool (!want)))::M) n fs env S):=_root_.id (aYr ..)
theorem aNi (want:Bool)(j:Nat)(o:TOp):aUa K O (.tup []) want j o i k M n fs env S=oN K O k ((i,undef)::M) n fs env S:=_root_.id (aSj ..)
theorem aUm:bI8 K O true ops is ps M n fs env S=aJv K O ops is ps M n fs env S:=_root_.id (aYs ..)
theorem bFp (j:bN):bk' K O [] j env S=.ret (j,env,S):=_root_.id (bIm ..)
theorem bFq (b:aK):bk' K O (.seq b::fs) .normal env S=go' K O b fs env S:=_root_.id (bIn ..)
theorem aJy (b:aK):bk' K O (.seq b::fs) .ret env S=bk' K O fs .ret env S:=_root_.id (aL8 ..)
theorem aGv (b:aK)(id:Nat):bk' K O (.seq b::fs) (.exit id) env S=bk' K O fs (.exit id) env S:=_root_.id (aIx ..)
theorem bFr (id:Nat):bk' K O (.blk id::fs) .normal env S=bk' K O fs .normal env S:=_root_.id (bIo ..)
theorem aJz (id:Nat):bk' K O (.blk id::fs) .ret env S=bk' K O fs .ret env S:=_root_.id (aL9 ..)
theorem aGw (id id':Nat):bk' K O (.blk id::fs) (.exit id') env S=if id'=id then bk' K O fs .normal env S else bk' K O fs (.exit id') env S:=_root_.id (aIy ..)
theorem go_skip':go' K O .skip fs env S=bk' K O fs .normal env S:=_root_.id (go_skip ..)
theorem go_ret':go' K O .ret fs env S=bk' K O fs .ret env S:=_root_.id (go_ret ..)
theorem go_exit' (id:Nat):go' K O (.exit id) fs env S=bk' K O fs (.exit id) env S:=_root_.id (go_exit ..)
theorem go_seq' (a b:aK):go' K O (.seq a b) fs env S=go' K O a (.seq b::fs) env S:=_root_.id (go_seq ..)
theorem go_block' (id:Nat)(b:aK):go' K O (.block id b) fs env S=go' K O b (.blk id::fs) env S:=_root_.id (go_block ..)
theorem aUn (t:Bool)(a b:aK):bJb K O (.iv (.bool t)) a b fs env S=br' t (go' K O a fs env S) (go' K O b fs env S):=_root_.id (aYt ..)
theorem go_cond' (c:aG)(a b:aK):go' K O (.cond c a b) fs env S=bJb K O (cD K 0 env [] c) a b fs env S:=_root_.id (go_cond ..)
theorem bAr (j:bN):bJc K O (.ret (j,env,S)) fs=bk' K O fs j env S:=_root_.id (bEi ..)
theorem go_loop' (b:aK):go' K O (.loop b) fs env S=bJc K O (lp' O b env S) fs:=_root_.id (go_loop ..)
theorem bFs:bJd K O n ops fs env S=aT9 K O ops ops 0 [] n fs env S:=_root_.id (aYu ..)
theorem bAs (all:List aL):oN K O (.rg all ops i) M n fs env S=aT9 K O all ops (i+1) M n fs env S:=_root_.id (bEj ..)
theorem bAt:oN K O (.fl ops is ps) M n fs env S=aJv K O ops is ps M n fs env S:=_root_.id (aQw ..)
theorem bAu (all:List aL):aT9 K O all [] i M n fs env S=vJ K O all 0 M n fs env S:=_root_.id (bEk ..)
theorem aUo (all:List aL)(o:TOp)(l:Option Nat):aT9 K O all (⟨o,l,none⟩::ops) i M n fs env S=eY K O o i (.rg all ops i) M n fs env S:=_root_.id (aYv ..)
theorem aNj (all:List aL)(o:TOp)(l:Option Nat)(j:Nat)(want:Bool):aT9 K O all (⟨o,l,some (j,want)⟩::ops) i M n fs env S=aUa K O (cD K n env M (.reg j)) want j o i (.rg all ops i) M n fs env S:=_root_.id (aSk ..)
theorem aUp (x y:Out (bN×Env×aA)):bFg true x y=x:=_root_.id (aBo ..)
theorem aUq (o:TOp)(l:Option Nat):bFh K O (some ⟨o,l,none⟩) i ops is ps M n fs env S=bFg (floats o) (eY K O o i (.fl ops is ps) M n fs env S) (aJv K O ops (i::is) ps M n fs env S):=_root_.id (aIz ..)
theorem aNk (o:TOp)(l:Option Nat)(j:Nat)(want:Bool):bFh K O (some ⟨o,l,some (j,want)⟩) i ops is ps M n fs env S=bFg (floats o) (aUa K O (cD K n env M (.reg j)) want j o i (.fl ops is ps) M n fs env S) (aJv K O ops (i::is) ps M n fs env S):=_root_.id (aEe ..)
theorem bAv:aJv K O ops [] ps M n fs env S=bFf K O ops ps M n fs env S:=_root_.id (bEl ..)
theorem aUr:aJv K O ops (i::is) ps M n fs env S=bFh K O (wS ops i) i ops is ps M n fs env S:=_root_.id (aYx ..)
theorem bAw:bFf K O ops [] M n fs env S=vJ K O ops 0 M n fs env S:=_root_.id (bEm ..)
theorem aUs (c fl:List Nat)(o:TOp)(l:Option Nat):bFi K O (some ⟨o,l,none⟩) i ops c fl ps M n fs env S=eY K O o i (.ph ops c fl ps) M n fs env S:=_root_.id (aI0 ..)
theorem aNl (c fl:List Nat)(o:TOp)(l:Option Nat)(j:Nat)(want:Bool):bFi K O (some ⟨o,l,some (j,want)⟩) i ops c fl ps M n fs env S=aUa K O (cD K n env M (.reg j)) want j o i (.ph ops c fl ps) M n fs env S:=_root_.id (aEf ..)
theorem aUt (c fl:List Nat):bFf K O ops ((i,c,fl)::ps) M n fs env S=bFi K O (wS ops i) i ops c fl ps M n fs env S:=_root_.id (aYy ..)
theorem bAx:vJ K O [] i M n fs env S=bk' K O fs .normal env S:=_root_.id (bEn ..)
theorem aUu (o:TOp)(g:Option (Nat×Bool)):vJ K O (⟨o,none,g⟩::ops) i M n fs env S=vJ K O ops (i+1) M n fs env S:=_root_.id (aYz ..)
theorem aUv (o:TOp)(j:Nat)(g:Option (Nat×Bool)):vJ K O (⟨o,some j,g⟩::ops) i M n fs env S=aGu K O (cD K n env M (.reg i)) j ops i M n fs env S:=_root_.id (aY0 ..)
theorem aQ3 (v:IV)(j:Nat):aGu K O (.iv v) j ops i M n fs env S=vJ K O ops (i+1) M n fs (env.set j (.iv v)) S:=_root_.id (bIp ..)
theorem bAy (a b c:Nat)(j:Nat):aGu K O (.ptr a b c) j ops i M n fs env S=vJ K O ops (i+1) M n fs (env.set j (.ptr a b c)) S:=_root_.id (bEo ..)
theorem bAz (a b c d e f:Nat)(j:Nat):aGu K O (.msl a b c d e f) j ops i M n fs env S=vJ K O ops (i+1) M n fs (env.set j (.msl a b c d e f)) S:=_root_.id (bEp ..)
theorem aJ0 (a:Nat)(l:List (List IV))(j:Nat):aGu K O (.tsl a l) j ops i M n fs env S=vJ K O ops (i+1) M n fs (env.set j (.tsl a l)) S:=_root_.id (bEq ..)
theorem bFt (a:Nat)(j:Nat):aGu K O (.it a) j ops i M n fs env S=vJ K O ops (i+1) M n fs (env.set j (.it a)) S:=_root_.id (bIq ..)
theorem bA0 (c:List TV)(j:Nat):aGu K O (.tup c) j ops i M n fs env S=vJ K O ops (i+1) M n fs (env.set j (.tup c)) S:=_root_.id (bEr ..)
theorem cN {α:Type}{p:Prop}[Decidable p]{x y z:Out α}(h:p→x=z)(g:¬p→y=z):br' (decide p) x y=z:=bIs h g
theorem cO {α:Type}{a b:Int}{x y z:Out α}(h:a=b→x=z)(g:a≠b→y=z):br' (a==b) x y=z:=bIt h g
theorem cP {α:Type}{a b:Int}{x y z:Out α}(h:a≠b→x=z)(g:a=b→y=z):br' (a != b) x y=z:=bIu h g
theorem bA1 (x:aG):eY K O (.mov x) i k M n fs env S=lT K O (some (cD K n env M x)) i k M n fs env S:=_root_.id (bEy ..)
theorem aUw (c a b:aG):eY K O (.pick c a b) i k M n fs env S=bJa K O (cD K n env M c) (cD K n env M a) (cD K n env M b) i k M n fs env S:=_root_.id (aZa ..)
theorem aNm (z:List IV)(ps:List (Nat×Nat×aG)):eY K O (.build z ps) i k M n fs env S=lT K O ((fill (z.map .iv) (cD K n env M) ps).map oG) i k M n fs env S:=_root_.id (aSr ..)
theorem aCz (x:aG):eY K O (.nilCheck x) i k M n fs env S=lT K O (bEt (cD K n env M x)) i k M n fs env S:=_root_.id (aGj ..)
theorem bA2 (op:BinOp)(x y:aG):eY K O (.bin op x y) i k M n fs env S=lT K O (ivO (binOp op (cD K n env M x) (cD K n env M y))) i k M n fs env S:=_root_.id (bEz ..)
theorem bA3 (neg:Bool)(ek:EK)(x y:aG):eY K O (.eqB neg ek x y) i k M n fs env S=lT K O (eqV neg (eqB ek (cD K n env M x) (cD K n env M y))) i k M n fs env S:=_root_.id (bE0 ..)
theorem bFu (op:UnOp)(x:aG):eY K O (.un op x) i k M n fs env S=lT K O (ivO (unOp op (cD K n env M x))) i k M n fs env S:=_root_.id (bIv ..)
theorem aUx (f:Nat)(a b:List aG):eY K O (.mkFn f a b) i k M n fs env S=lT K O (aQz f (a.map (cD K n env M)) (b.map (cD K n env M))) i k M n fs env S:=_root_.id (aZb ..)
theorem aBz (off:Nat)(x:aG):eY K O (.fieldAddr off x) i k M n fs env S=lT K O (fB (cD K n env M x) off) i k M n fs env S:=_root_.id (aCv ..)
theorem aNn (off w:Nat)(ag:Bool)(x:aG):eY K O (.field off w ag x) i k M n fs env S=lT K O (mC ag (aSo off w (fJ (cD K n env M x)))) i k M n fs env S:=_root_.id (aSs ..)
theorem yS (es:Nat)(x y:aG):eY K O (.indexAddrS es x y) i k M n fs env S=lT K O (ixS es (cD K n env M x) (cD K n env M y)) i k M n fs env S:=_root_.id (aBr ..)
theorem yT (len es:Nat)(x y:aG):eY K O (.indexAddrA len es x y) i k M n fs env S=lT K O (ixA len es (cD K n env M x) (cD K n env M y)) i k M n fs env S:=_root_.id (aBs ..)
theorem aJ1 (x y:aG):eY K O (.indexS x y) i k M n fs env S=lT K O (aEg (cD K n env M x) (cD K n env M y)) i k M n fs env S:=_root_.id (aMh ..)
theorem aGx (j:Nat)(x:aG):eY K O (.extract j x) i k M n fs env S=lT K O (xtr j (cD K n env M x)) i k M n fs env S:=_root_.id (aI4 ..)
theorem aJ2 (mx:Bool)(xs:List aG):eY K O (.minmax mx xs) i k M n fs env S=lT K O (mmV mx (xs.map (cD K n env M))) i k M n fs env S:=_root_.id (aMi ..)
theorem aNo (a:aG):eY K O (.load1 a) i k M n fs env S=lT K O (mC false (bR env S (cD K n env M a) 1)) i k M n fs env S:=_root_.id (aSt ..)
theorem aNp (w:Nat)(a:aG):eY K O (.loadN w a) i k M n fs env S=lT K O (mC true (bR env S (cD K n env M a) w)) i k M n fs env S:=_root_.id (aSu ..)
theorem aNq (sk:SK)(x:aG)(lo hi mx:Option aG):eY K O (.slice sk x lo hi mx) i k M n fs env S=lT K O (slV S sk (cD K n env M x) (oI (lo.map (cD K n env M))) (oI (hi.map (cD K n env M))) (oI (mx.map (cD K n env M)))) i k M n fs env S:=_root_.id (aSv ..)
theorem aJ3 (kk:KK)(z:IV)(ok:Bool)(m y:aG):eY K O (.lookup kk z ok m y) i k M n fs env S=lT K O (aT (.lookup kk z ok m y) (cD K n env M) env S) i k M n fs env S:=_root_.id (aMj ..)
theorem bA4 (nk:NK)(x:aG):eY K O (.len nk x) i k M n fs env S=lT K O (aI1 nk S (cD K n env M x)) i k M n fs env S:=_root_.id (bE1 ..)
theorem aNr (kd:IntKind)(x:aG):eY K O (.conv (.toInt kd) x) i k M n fs env S=lT K O (ivO (cT (.toInt kd) (cD K n env M x))) i k M n fs env S:=_root_.id (aSw ..)
theorem aC0 (x:aG):eY K O (.conv .strBytes x) i k M n fs env S=lT K O (ivO (cT .strBytes (cD K n env M x))) i k M n fs env S:=_root_.id (aGk ..)
theorem aC1 (x:aG):eY K O (.conv .bytesStr x) i k M n fs env S=lT K O (bsV (fE S (cD K n env M x))) i k M n fs env S:=_root_.id (aGl ..)
theorem aNs (w:Nat)(l:List (List IV))(es:Option (List (List TV))):bAj K O w (some l) es i k M n fs env S=oN K O k ((i,.iv (.sl .full l))::M) n fs env S:=_root_.id (aSx ..)
theorem bA5 (z:List IV)(len:Nat)(ps:List (Nat×aG)):eY K O (.lit false z len ps) i k M n fs env S=bAj K O z.length (bE2 (dV (List.replicate len (z.map .iv)) z.length (cD K n env M) ps)) (dV (List.replicate len (z.map .iv)) z.length (cD K n env M) ps) i k M n fs env S:=_root_.id (bE3 ..)
theorem aJ4 (t:Nat)(z:List IV):eY K O (.allocH t z) i k M n fs env S=aNh K O (some (.ptr S.length t 0,S++[.cells t false (z.map .iv)])) i k M n fs env:=_root_.id (aMk ..)
theorem aNt:eY K O .mkMap i k M n fs env S=aNh K O (some (.map S.length,S++[.mp [] 0])) i k M n fs env:=_root_.id (aSz ..)
theorem aUy (t:Nat)(x:aG):eY K O (.boxH t x) i k M n fs env S=bI9 K O (bIz t S.length (cD K n env M x)) i k M n fs env S:=_root_.id (aZc ..)
theorem aUz (x y:Out (bN×Env×aA)):bFj true x y=x:=_root_.id (aBt ..)
theorem aJ5 (j:Nat)(z:List IV):eY K O (.allocL j z) i k M n fs env S=bFj (okL j M env) (aJw K O (some (.lp j 0,env.set j (.lb (z.map .iv)),S)) i k M n fs) (eY K O (.allocL j z) i k M n fs env S):=_root_.id (aMl ..)
theorem aU0 (j:Nat)(x:aG):eY K O (.boxL j x) i k M n fs env S=bFj (okL j M env) (aJw K O (if (cellsOf (cD K n env M x)).any bT then none else some (.lp j 0,env.set j (.lb (cellsOf (cD K n env M x))),S)) i k M n fs) (eY K O (.boxL j x) i k M n fs env S):=_root_.id (aZd ..)
theorem aNu (w:Nat)(a v:aG):eY K O (.store w a v) i k M n fs env S=aJw K O (wU w env S (cD K n env M a) (cD K n env M v)) i k M n fs:=_root_.id (aS1 ..)
theorem aJ6 (kk:KK)(m y x:aG):eY K O (.update kk m y x) i k M n fs env S=aJw K O (fX (.update kk m y x) (cD K n env M) (dC M n) env S) i k M n fs:=_root_.id (aMm ..)
theorem aNv (str:Bool)(x:aG):eY K O (.range str x) i k M n fs env S=aJw K O (aMf str env S (cD K n env M x)) i k M n fs:=_root_.id (aS2 ..)
theorem aNw (x:aG):eY K O (.nextS x) i k M n fs env S=aJw K O (aY9 env S (cD K n env M x)) i k M n fs:=_root_.id (aS3 ..)
theorem aJ7 (mu:Bool)(es bytes el:Nat)(s x:aG):eY K O (.append mu es bytes el s x) i k M n fs env S=aNh K O (cI mu es bytes el S (cD K n env M s) (cD K n env M x)) i k M n fs env:=_root_.id (aMn ..)
theorem aU1 (args ags:List TV)(f:Nat):aUb O S args f (some ags)=bFl S args (O.call f ags []):=_root_.id (aZe ..)
theorem aJ8 (args:List TV)(v:TV)(S':aA):bFl S args (.ret (v,S'))=bFk S args (resolve S' v):=_root_.id (bE4 ..)
theorem aU2 (args:List TV)(v:TV):bFk S args (some v)=bJe (args.any sH&&!(iX v)) S args v:=_root_.id (aZf ..)
theorem aNx (args:List TV)(v:TV):bJe false S args v=.ret (v,S):=_root_.id (aS4 ..)
theorem aNy (t:Bool)(f:Nat)(args:List aG):eY K O (.call true t f args) i k M n fs env S=yR K O (aUb O S (args.map (cD K n env M)) f (dP S (args.map (cD K n env M)))) i k M n fs env:=_root_.id (aS5 ..)
theorem bFv (t:Bool)(f:Nat)(args:List TV):aUc O t S f false args=bJf t S (O.call f args S):=_root_.id (bI1 ..)
theorem bJh (v:TV)(S':aA):bJf false S (.ret (v,S'))=.ret (v,S'):=_root_.id (bKs ..)
theorem aNz (t:Bool)(f:Nat)(args:List aG):eY K O (.call false t f args) i k M n fs env S=yR K O (aUc O t S f ((args.map (cD K n env M)).any dT) (args.map (cD K n env M))) i k M n fs env:=_root_.id (aS6 ..)
theorem aU3 (f:Nat)(args:List aG):eY K O (.prim f args) i k M n fs env S=aNh K O (prV S (K.prim f) (args.map (cD K n env M))) i k M n fs env:=_root_.id (aZg ..)
theorem aN0 (v:TV):aQ2 S (some v)=.ret (v,S):=_root_.id (aS8 ..)
theorem bA6 (rs:List nH):vK rs (.ret (.ret,env,S))=aQ2 S (lV rs env S):=_root_.id (bE5 ..)
theorem aJ9 (rs:List nH):vK rs (.ret (.normal,env,S))=aQ2 S (lV rs env S):=_root_.id (aMo ..)
theorem bFw (rs:List nH)(B:Bool)(x y:Out (bN×Env×aA)):vK rs (br' B x y)=br' B (vK rs x) (vK rs y):=_root_.id (bI2 ..)
theorem aB {f:Nat}{args:List TV}{fn:aO}{r:TV×aA}(hf:K.funcs f=some fn)(ha:args.length=fn.nparams)(h:vK fn.results (go' K (lim K) fn.body [] (args++List.replicate (fn.nlocs-fn.nparams) undef) S)=.ret r):(lim K).call f args S=.ret r:=aZh K S hf ha h
theorem aKa (b:aK):aUd O b (.ret (.normal,env,S))=er (lp' O b env S):=_root_.id (aMp ..)
theorem bA7 (b:aK):aUd O b (.ret (.ret,env,S))=.ret (.ret,env,S):=_root_.id (bE6 ..)
theorem aU4 (b:aK)(id:Nat):aUd O b (.ret (.exit id,env,S))=.ret (.exit id,env,S):=_root_.id (aZi ..)
theorem rW {b:aK}{r:bN×Env×aA}(h:aUd (lim K) b (go' K (lim K) b [] env S)=.ret r):lp' (lim K) b env S=.ret r:=aZj K env S h
theorem aGy (x:aG):aJx K M n env S (.conv .bytesStr x)=bsV (fE S (cD K n env M x)):=_root_.id (aI9 ..)
theorem aU5 (a:aG):aJx K M n env S (.load1 a)=mC false (bR env S (cD K n env M a) 1):=_root_.id (aZk ..)
theorem aU6 (w:Nat)(a:aG):aJx K M n env S (.loadN w a)=mC true (bR env S (cD K n env M a) w):=_root_.id (aZl ..)
theorem aU7 (sk:SK)(x:aG)(lo hi mx:Option aG):aJx K M n env S (.slice sk x lo hi mx)=slV S sk (cD K n env M x) (oI (lo.map (cD K n env M))) (oI (hi.map (cD K n env M))) (oI (mx.map (cD K n env M))):=_root_.id (aZm ..)
theorem bFx (nk:NK)(x:aG):aJx K M n env S (.len nk x)=aI1 nk S (cD K n env M x):=_root_.id (bI4 ..)
theorem aU8 (b want:Bool)(j:Nat)(o:TOp):bJg K (.iv (.bool b)) want j M n env S o=if b==want then rcS (aJx K M n env S o) (cD K n env M (.reg j)) else true:=_root_.id (aZq ..)
theorem aU9 (o:TOp)(l:Option Nat)(j:Nat):bFm K (some ⟨o,l,none⟩) j M n env S=rcS (aJx K M n env S o) (cD K n env M (.reg j)):=_root_.id (aZr ..)
theorem aN1 (o:TOp)(l:Option Nat)(g:Nat)(want:Bool)(j:Nat):bFm K (some ⟨o,l,some (g,want)⟩) j M n env S=bJg K (cD K n env M (.reg g)) want j M n env S o:=_root_.id (aTb ..)
theorem bA8 (ops:List aL):bAk K ops M n env S []=true:=_root_.id (bE9 ..)
theorem aVa (ops:List aL)(j:Nat)(c:List Nat):bAk K ops M n env S (j::c)=(bFm K (wS ops j) j M n env S&&bAk K ops M n env S c):=_root_.id (aZs ..)
theorem aVb (ops:List aL)(ps:List (Nat×List Nat×List Nat))(c fl:List Nat):oN K O (.ph ops c fl ps) M n fs env S=bI8 K O (bAk K ops M n env S c) ops fl ps M n fs env S:=_root_.id (aZt ..)
theorem go_region' (K:bO)(O:Orc)(ops:List aL)(fs:List Fr)(env:Env)(S:aA):go' K O (.region ops) fs env S=bJd K O (aEl ops 0) ops fs env S:=_root_.id (go_region ..)
theorem bA9 (K:bO)(O:Orc)(n:Nat)(f0:List Nat)(ph:List (Nat×List Nat×List Nat))(ops:List aL)(fs:List Fr)(env:Env)(S:aA):bAl K O n f0 ph ops fs env S=aJv K O ops f0 ph [] n fs env S:=_root_.id (aQ1 ..)
theorem go_draw' (K:bO)(O:Orc)(f0:List Nat)(ph:List (Nat×List Nat×List Nat))(ops:List aL)(fs:List Fr)(env:Env)(S:aA):go' K O (.draw f0 ph ops) fs env S=bAl K O (aEl ops 0) f0 ph ops fs env S:=_root_.id (go_draw ..)
theorem aVc (n:Nat):aEl [] n=n:=_root_.id (aZv ..)
theorem aN2 (a:aL)(l:List aL)(n:Nat):aEl (a::l) n=aEl l (n+1):=_root_.id (aTc ..)
attribute [go_sem] bAm aUe bFn bAn bAo bAp bFo aUf aUg aUh aUi aUj
attribute [go_sem] bAq aUk aUl aNi aUm bFp bFq aJy aGv bFr aJz aGw
attribute [go_sem] go_skip' go_ret' go_exit' go_seq' go_block' aUn go_cond' bAr go_loop' bFs bAs bAt
attribute [go_sem] bAu aUo aNj aUp aUq aNk bAv aUr bAw aUs aNl aUt
attribute [go_sem] bAx aUu aUv aQ3 bAy bAz aJ0 bFt
attribute [go_sem] bA0 bA1 aUw aNm aCz bA2 bA3 bFu aUx
attribute [go_sem] aBz aNn yS yT aJ1 aGx aJ2 aNo aNp aNq
attribute [go_sem] aJ3 bA4 aNr aC0 aC1 aNs bA5
attribute [go_sem] aJ4 aNt aUy aUz aJ5 aU0 aNu aJ6 aNv aNw aJ7
attribute [go_sem] aU1 aJ8 aU2 aNx aNy bFv bJh
attribute [go_sem] aNz aU3 aN0 bA6 aJ9 bFw aKa bA7 aU4 aGy
attribute [go_sem] aU5 aU6 aU7 bFx
attribute [go_sem] aU8 aU9 aN1 bA8 aVa aVb go_region' bA9 go_draw'
attribute [go_sem] aVc aN2
theorem aH {b b':aK}{r:bN×Env×aA}(hb:b=b')(h:aUd (lim K) b (go' K (lim K) b' [] env S)=.ret r):lp' (lim K) b env S=.ret r:=by
 subst hb
 exact rW K env S h
end
attribute [irreducible] br' bk' go' aT9 bFf aJv bI8 oN eY aUa lT bI9 aNh aJw yR bJa vJ aGu bJb bJc bJd bAl bFh bFi bFg bFj bAj lp' bFk bFl aUb bJe bJf aUc vK aUd aQ2 cD aEl aJx bAk bFm bJg
end Go.TM
namespace Go.TM
theorem aF {m:Int}(h:-9223372036854775808≤m∧m≤9223372036854775807):IntKind.i64.wrap m=m:=by
 unfold IntKind.wrap
 simp[IntKind.bits,IntKind.signed]
 omega
theorem aZ {m:Int}(h:-2147483648≤m∧m≤2147483647):IntKind.i32.wrap m=m:=by
 unfold IntKind.wrap
 simp[IntKind.bits,IntKind.signed]
 omega
theorem rX {m:Int}(h:0≤m∧m≤255):IntKind.u8.wrap m=m:=by
 unfold IntKind.wrap
 simp[IntKind.bits,IntKind.signed]
 omega
theorem bK0 {p:Prop}[Decidable p](h:p):decide p=true:=decide_eq_true h
theorem bK1 {p:Prop}[Decidable p](h:¬p):decide p=false:=decide_eq_false h
theorem ifT {α:Type}{p:Prop}[Decidable p]{a b:α}(h:p):(if p then a else b)=a:=if_pos h
theorem ifF {α:Type}{p:Prop}[Decidable p]{a b:α}(h:¬p):(if p then a else b)=b:=if_neg h
theorem eqT {a b:Int}(h:a=b):(a==b)=true:=by simp[h]
theorem eqF {a b:Int}(h:a≠b):(a==b)=false:=by simp[h]
theorem neT {a b:Int}(h:a≠b):(a != b)=true:=by simp[h]
theorem neF {a b:Int}(h:a=b):(a != b)=false:=by simp[h]
def one {α:Type}(f:α→IV)(l:List α):List (List IV):=l.map fun a=>[f a]
def u8 (b:UInt8):IV:=.int .u8 b.toNat
def i64 (n:Int):IV:=.int .i64 n
theorem iH {α:Type}(f:α→IV)(l:List α):(one f l).length=l.length:=by simp[one]
theorem aB0 (l:List UInt8):(bF l).length=l.length:=by simp[bF]
theorem aB1 {α:Type}(f:α→IV)(l:List α):lG 1 (one f l)=true:=by cases l<;>rfl
theorem aKb {α:Type}(f:α→IV)(l:List α)(n:Nat):(one f l).take n=one f (l.take n):=by simp[one]
theorem aKc {α:Type}(f:α→IV)(l:List α)(n:Nat):(one f l).drop n=one f (l.drop n):=by simp[one]
theorem aB2 {α:Type}(f:α→IV)(l m:List α):one f l++one f m=one f (l++m):=by simp[one]
def lY (t:Tag)(n b:Nat):Tag:=match t with
 | .nil=>.nil
 | .no=>.no
 | .full=>if n=b then .full else .no
def dE {α:Type}(t:Tag)(l:List α):Prop:=t=.nil→l=[]
theorem dE.no {α:Type}(l:List α):dE .no l:=fun h=>by cases h
theorem dE.nil {α:Type}:dE .nil ([]:List α):=fun _=>rfl
theorem aB3 {t:Tag}{l:List (List IV)}{a b:Int}(ht:dE t l)(h:0≤a∧a≤b∧b≤l.length):fU t l (some a) (some b) none=some (.sl (lY t l.length b.toNat) ((l.drop a.toNat).take (b.toNat-a.toNat))):=by
 obtain⟨h1,h2,h3⟩:=h
 have h2':(a:Int)≤((b.toNat:Nat):Int):=by omega
 have h0:0≤b:=by omega
 have e0:((0:Nat):Int)≤b:=h0
 cases t with
 | nil =>
  have:=ht rfl
  subst this
  simp at h3
  obtain rfl:b=0:=by omega
  obtain rfl:a=0:=by omega
  simp[fU,fH,mX,lY]
 | full =>
  simp only[fU,fH,mX,h0,h1,h3,h2',and_self,↓reduceIte,lY]
 | no =>
  simp only[fU,fH,mX,h0,h1,h3,h2',and_self,↓reduceIte,lY]
theorem aN3 {t:Tag}{l:List (List IV)}{b:Int}(ht:dE t l)(h:0≤b∧b≤l.length):fU t l none (some b) none=some (.sl (lY t l.length b.toNat) (l.take b.toNat)):=by
 have:=aB3 (a:=0) (b:=b) ht (by omega)
 simp only[Int.toNat_zero,List.drop_zero,Nat.sub_zero]at this
 rw[←this]
 cases t<;>simp[fU,fH,mX]
theorem aN4 {t:Tag}{l:List (List IV)}{a:Int}(ht:dE t l)(h:0≤a∧a≤l.length):fU t l (some a) none none=some (.sl t (l.drop a.toNat)):=by
 obtain⟨h1,h3⟩:=h
 cases t with
 | nil =>
  have:=ht rfl
  subst this
  simp at h3
  obtain rfl:a=0:=by omega
  simp[fU,fH,mX]
 | full =>
  have e:List.take (l.length-a.toNat) (List.drop a.toNat l)=List.drop a.toNat l:=List.take_of_length_le (by simp)
  simp only[fU,fH,mX,h1,h3,and_self,↓reduceIte,e]
 | no =>
  have e:List.take (l.length-a.toNat) (List.drop a.toNat l)=List.drop a.toNat l:=List.take_of_length_le (by simp)
  simp only[fU,fH,mX,h1,h3,and_self,↓reduceIte,e]
theorem bBa (S:aA){t:Tag}{w:Nat}{l:List (List IV)}{a b:Int}(ht:dE t l)(hf:lG w l=true)(h:0≤a∧a≤b∧b≤l.length):dH S (.sl w) (.iv (.sl t l)) (some a) (some b) none=some (.iv (.sl (lY t l.length b.toNat) ((l.drop a.toNat).take (b.toNat-a.toNat)))):=by
 simp only[dH,hf,↓reduceIte,aB3 ht h,Option.map_some]
theorem bBb (S:aA){t:Tag}{w:Nat}{l:List (List IV)}{b:Int}(ht:dE t l)(hf:lG w l=true)(h:0≤b∧b≤l.length):dH S (.sl w) (.iv (.sl t l)) none (some b) none=some (.iv (.sl (lY t l.length b.toNat) (l.take b.toNat))):=by
 simp only[dH,hf,↓reduceIte,aN3 ht h,Option.map_some]
theorem bBc (S:aA){t:Tag}{w:Nat}{l:List (List IV)}{a:Int}(ht:dE t l)(hf:lG w l=true)(h:0≤a∧a≤l.length):dH S (.sl w) (.iv (.sl t l)) (some a) none none=some (.iv (.sl t (l.drop a.toNat))):=by
 simp only[dH,hf,↓reduceIte,aN4 ht h,Option.map_some]
theorem aGz {α:Type}{f:α→IV}{t:Tag}{l:List α}(h:dE t l):dE t (one f l):=fun e=>by rw[h e]; rfl
theorem aVd {α:Type}{f:α→IV}(S:aA){t:Tag}{l:List α}{a b:Int}(ht:dE t l)(h:0≤a∧a≤b∧b≤l.length):dH S (.sl 1) (.iv (.sl t (one f l))) (some a) (some b) none=some (.iv (.sl (lY t l.length b.toNat) (one f ((l.drop a.toNat).take (b.toNat-a.toNat))))):=by
 rw[bBa S (aGz ht) (aB1 f l) (by rw[iH]; exact h),iH,aKc,aKb]
theorem aG0 {α:Type}{f:α→IV}(S:aA){t:Tag}{l:List α}{b:Int}(ht:dE t l)(h:0≤b∧b≤l.length):dH S (.sl 1) (.iv (.sl t (one f l))) none (some b) none=some (.iv (.sl (lY t l.length b.toNat) (one f (l.take b.toNat)))):=by
 rw[bBb S (aGz ht) (aB1 f l) (by rw[iH]; exact h),iH,aKb]
theorem vL {α:Type}{f:α→IV}(S:aA){t:Tag}{l:List α}{a:Int}(ht:dE t l)(h:0≤a∧a≤l.length):dH S (.sl 1) (.iv (.sl t (one f l))) (some a) none none=some (.iv (.sl t (one f (l.drop a.toNat)))):=by
 rw[bBc S (aGz ht) (aB1 f l) (by rw[iH]; exact h),aKc]
theorem aKd (S:aA){t:Tag}{l:List UInt8}{a b:Int}(ht:dE t l)(h:0≤a∧a≤b∧b≤l.length):dH S (.sl 1) (.iv (.sl t (bF l))) (some a) (some b) none=some (.iv (.sl (lY t l.length b.toNat) (bF ((l.drop a.toNat).take (b.toNat-a.toNat))))):=aVd (f:=u8) S ht h
theorem aB4 (S:aA){t:Tag}{l:List UInt8}{a:Int}(ht:dE t l)(h:0≤a∧a≤l.length):dH S (.sl 1) (.iv (.sl t (bF l))) (some a) none none=some (.iv (.sl t (bF (l.drop a.toNat)))):=vL (f:=u8) S ht h
theorem aG1 (S:aA){s:List UInt8}{b:Int}(h:0≤b∧b≤s.length):dH S .str (.iv (.str s)) none (some b) none=some (.iv (.str (s.take b.toNat))):=by
 simp only[dH,fH,mX,h,and_self,↓reduceIte]
 simp
theorem vM (S:aA){s:List UInt8}{a:Int}(h:0≤a∧a≤s.length):dH S .str (.iv (.str s)) (some a) none none=some (.iv (.str (s.drop a.toNat))):=by
 have e:List.take (s.length-a.toNat) (List.drop a.toNat s)=List.drop a.toNat s:=List.take_of_length_le (by simp)
 simp only[dH,fH,mX,h,and_self,↓reduceIte,e]
theorem bG3 {w:Nat}{t:Tag}{l:List (List IV)}{i:Int}{c:List IV}(h:0≤i)(hc:l[i.toNat]? = some c)(hw:c.length=w):indexAddrS w (.iv (.sl t l)) i=some (.iv (.cp c)):=by
 have:¬i<0:=by omega
 simp only[indexAddrS,this,↓reduceIte,hc,hw]
theorem bFy {α:Type}(f:α→IV)(l:List α)(n:Nat):(one f l)[n]? = (l[n]?).map fun a=>[f a]:=by simp[one]
theorem gZ {α:Type}[Inhabited α](f:α→IV){t:Tag}{l:List α}{i:Int}(h:0≤i∧i<l.length):indexAddrS 1 (.iv (.sl t (one f l))) i=some (.iv (.cp [f (l.getD i.toNat default)])):=by
 refine bG3 h.1 ?_ rfl
 have:i.toNat<l.length:=by omega
 rw[bFy,List.getElem?_eq_getElem this]
 simp[List.getD,List.getElem?_eq_getElem this]
theorem qY {t:Tag}{l:List UInt8}{i:Int}(h:0≤i∧i<l.length):indexAddrS 1 (.iv (.sl t (bF l))) i=some (.iv (.cp [.int .u8 (l.getD i.toNat 0).toNat])):=gZ u8 h
theorem qZ {s:List UInt8}{i:Int}{kd:IntKind}(h:0≤i∧i<s.length):aEg (.iv (.str s)) (.iv (.int kd i))=some (.iv (.int .u8 (s.getD i.toNat 0).toNat)):=by
 have:i.toNat<s.length:=by omega
 simp only[aEh,h.1,↓reduceIte,List.getElem?_eq_getElem this,Option.map_some,List.getD,Option.getD_some]
theorem aQ4 (env:Env)(S:aA)(x:IV)(l:List IV):bR env S (.iv (.cp (x::l))) 1=some [.iv x]:=by simp[bR,sub]
end Go.TM
namespace Go.TM
theorem jM {w:Nat}{a:Int}(h:0≤a∧a<2 ^ w):(BitVec.ofInt w a).toNat=a.toNat:=by
 rw[BitVec.toNat_ofInt]
 have:a % ((2 ^ w:Nat):Int)=a:=Int.emod_eq_of_lt h.1 (by push_cast; exact h.2)
 rw[this]
theorem bBd {w k:Nat}{a:Int}(h:0≤a∧a<2 ^ w)(hk:(2:Int) ^ k-1<2 ^ w):(BitVec.ofInt w a &&& BitVec.ofInt w (2 ^ k-1)).toNat=(a % 2 ^ k).toNat:=by
 have h1:(0:Int)≤2 ^ k-1:=by have:=Int.pow_pos (n:=2) (m:=k) (by decide); omega
 rw[BitVec.toNat_and,jM h,jM ⟨h1,hk⟩]
 have e:((2:Int) ^ k-1).toNat=2 ^ k-1:=by
  have:(2:Int) ^ k=((2 ^ k:Nat):Int):=by push_cast; rfl
  rw[this]; omega
 rw[e,Nat.and_two_pow_sub_one_eq_mod]
 obtain⟨n,rfl⟩:=Int.eq_ofNat_of_zero_le h.1
 have:((n:Int) % 2 ^ k)=((n % 2 ^ k:Nat):Int):=by push_cast; rfl
 rw[Int.toNat_natCast,this]; exact (Int.toNat_natCast _).symm
theorem bJi {w k:Nat}{a b:Int}(ha:0≤a∧a<2 ^ w)(hb:0≤b∧b<2 ^ k)(hk:(2:Int) ^ k≤2 ^ w)(hm:a % 2 ^ k=0):(BitVec.ofInt w a ||| BitVec.ofInt w b).toNat=(a+b).toNat:=by
 rw[BitVec.toNat_or,jM ha,jM ⟨hb.1,by omega⟩]
 obtain⟨n,rfl⟩:=Int.eq_ofNat_of_zero_le ha.1
 obtain⟨m,rfl⟩:=Int.eq_ofNat_of_zero_le hb.1
 have hm':n % 2 ^ k=0:=by
  have:((n % 2 ^ k:Nat):Int)=0:=by rw[←hm]; push_cast; rfl
  omega
 have hb':m<2 ^ k:=by
  have:=hb.2
  have e:((2:Int) ^ k)=((2 ^ k:Nat):Int):=by push_cast; rfl
  rw[e]at this; omega
 obtain⟨c,rfl⟩:=Nat.dvd_of_mod_eq_zero hm'
 simp only[Int.toNat_natCast]
 rw[←Nat.two_pow_add_eq_or_of_lt hb']
 omega
theorem bBe {k m:Nat}(h:k≤m):(2:Int) ^ k≤2 ^ m:=by
 have:=Nat.pow_le_pow_right (n:=2) (by decide) h
 exact_mod_cast this
theorem aG2 {k:Nat}{a m:Int}(h:0≤a∧a≤255)(hk:k≤8)(hm:m=2 ^ k-1):IntKind.u8.wrap (pR 8 a m)=a % 2 ^ k:=by
 subst hm
 have h2:(2:Int) ^ k≤2 ^ 8:=bBe hk
 have h3:(0:Int)<2 ^ k:=Int.pow_pos (by decide)
 have h4:=Int.emod_nonneg a (show (2:Int) ^ k≠0 by omega)
 have h5:=Int.emod_lt_of_pos a h3
 unfold pR
 rw[bBd (k:=k) ⟨h.1,by omega⟩ (by omega)]
 rw[rX (by omega)]
 omega
theorem aN5 {k:Nat}{a b:Int}(ha:0≤a∧a≤2147483647-2 ^ k)(hk:k<31)(hb:0≤b∧b<2 ^ k)(hm:a % 2 ^ k=0):IntKind.i32.wrap (bOr 32 a b)=a+b:=by
 have h2:(2:Int) ^ k≤2 ^ 31:=bBe (by omega)
 unfold bOr
 rw[bJi (k:=k) ⟨ha.1,by omega⟩ hb (by omega) hm]
 rw[aZ (by omega)]
 omega
theorem bA {a:Int}(h:0≤a∧a≤255):IntKind.u8.wrap (pR 8 a 31)=a % 32:=aG2 (k:=5) h (by decide) (by decide)
theorem bB {a:Int}(h:0≤a∧a≤255):IntKind.u8.wrap (pR 8 a 15)=a % 16:=aG2 (k:=4) h (by decide) (by decide)
theorem bK {a:Int}(h:0≤a∧a≤255):IntKind.u8.wrap (pR 8 a 7)=a % 8:=aG2 (k:=3) h (by decide) (by decide)
theorem bC {a:Int}(h:0≤a∧a≤255):IntKind.u8.wrap (pR 8 a 63)=a % 64:=aG2 (k:=6) h (by decide) (by decide)
theorem bL {a b:Int}(ha:0≤a∧a≤1000000000∧a % 64=0)(hb:0≤b∧b<64):IntKind.i32.wrap (bOr 32 a b)=a+b:=aN5 (k:=6) ⟨ha.1,by have:=ha.2.1; omega⟩ (by decide) hb ha.2.2
theorem bD {a b:Int}(ha:0≤a∧a≤1000000000∧a % 4096=0)(hb:0≤b∧b<4096):IntKind.i32.wrap (bOr 32 a b)=a+b:=aN5 (k:=12) ⟨ha.1,by have:=ha.2.1; omega⟩ (by decide) hb ha.2.2
theorem bE {a b:Int}(ha:0≤a∧a≤1000000000∧a % 262144=0)(hb:0≤b∧b<262144):IntKind.i32.wrap (bOr 32 a b)=a+b:=aN5 (k:=18) ⟨ha.1,by have:=ha.2.1; omega⟩ (by decide) hb ha.2.2
theorem aG3 {a:Int}(h:0≤a∧a≤2147483647):IntKind.i32.wrap (rV 32 a 0)=a:=by
 have e:BitVec.ofInt 32 a &&& ~~~ BitVec.ofInt 32 0=BitVec.ofInt 32 a:=by
  have : ~~~ BitVec.ofInt 32 0=BitVec.allOnes 32:=by decide
  rw[this,BitVec.and_allOnes]
 unfold rV
 rw[e,jM ⟨h.1,by omega⟩,aZ (by omega)]
 omega
theorem aG4 (a:Int):IntKind.i32.wrap (rV 32 a (-1))=0:=by
 have e:BitVec.ofInt 32 a &&& ~~~ BitVec.ofInt 32 (-1)=0#32:=by
  have : ~~~ BitVec.ofInt 32 (-1)=0#32:=by decide
  rw[this]; simp
 unfold rV
 rw[e]; decide
theorem bBf {env:Env}{S:aA}{cs:List IV}{n:Nat}{x:IV}(h:cs[n]? = some x):bR env S (.iv (.cp (cs.drop n))) 1=some [.iv x]:=by
 have hn:n<cs.length:=by
  rcases Nat.lt_or_ge n cs.length with h1|h1
  ·exact h1
  ·rw[List.getElem?_eq_none h1]at h; cases h
 rw[List.drop_eq_getElem_cons hn,aQ4]
 rw[List.getElem?_eq_getElem hn]at h
 rw[Option.some.inj h]
theorem aEm {cs:List IV}{n:Nat}(h:n≤cs.length):fB (.iv (.cp cs)) n=some (.iv (.cp (cs.drop n))):=by
 simp only[fB,h,↓reduceIte]
end Go.TM
namespace Go.TM
theorem rA {α:Type}{w:Nat}:∀ {l:List (List α)},(∀y∈l,y.length=w)→(bV l).length=l.length*w
 | [],_=>by simp[bV]
 | a::l,h=>by
  have h1:=h a (by simp)
  have h2:=rA (l:=l) (fun y hy=>h y (by simp[hy]))
  simp only[bV,List.length_append,List.length_cons,h1,h2,Nat.add_mul]
  omega
theorem nP {α:Type}{w:Nat}:∀ {l:List (List α)},(∀y∈l,y.length=w)→dU w l.length (bV l)=l
 | [],_=>rfl
 | a::l,h=>by
  have h1:=h a (by simp)
  have h2:=nP (l:=l) (fun y hy=>h y (by simp[hy]))
  simp only[bV,List.length_cons,dU]
  rw[←h1,List.take_left',List.drop_left',h1,h2]<;>rfl
theorem rY:∀(l:List IV),toIVs (l.map .iv)=some l
 | []=>rfl
 | a::l=>by rw[List.map_cons,aBy,aJo,rY l,aBv]
def iR:IV→Bool
 | .agg _=>false
 | _=>true
theorem zK:∀ {l:List IV},l.all iR=true→(l.map TV.iv).any bT=false
 | [],_=>rfl
 | a::l,h=>by
  simp only[List.all_cons,Bool.and_eq_true]at h
  simp only[List.map_cons,List.any_cons,zK h.2,Bool.or_false]
  cases a<;>first|rfl|simp[iR]at h
theorem vN:∀ {l:List (List IV)},(∀y∈l,y.all iR=true)→(bV l).all iR=true
 | [],_=>rfl
 | a::l,h=>by
  simp only[bV,List.all_append,Bool.and_eq_true]
  exact⟨h a (by simp),vN (fun y hy=>h y (by simp[hy]))⟩
theorem aKe {w:Nat}:∀ {l:List (List IV)},(∀y∈l,y.length=w)→lG w l=true
 | [],_=>rfl
 | a::l,h=>by simp[lG,h a (by simp)]
theorem aG5 {α:Type}[Inhabited α]{w:Nat}{f:α→List IV}(hw:∀a,(f a).length=w){t:Tag}{l:List α}{i:Int}(h:0≤i∧i<l.length):indexAddrS w (.iv (.sl t (l.map f))) i=some (.iv (.cp (f (l.getD i.toNat default)))):=by
 refine bG3 h.1 ?_ (hw _)
 have:i.toNat<l.length:=by omega
 rw[List.getElem?_map,List.getElem?_eq_getElem this]
 simp[List.getD,List.getElem?_eq_getElem this]
theorem aKf (env:Env)(S:aA)(cs:List IV)(n:Nat):bR env S (.iv (.cp cs)) n=(sub cs 0 n).map (·.map .iv):=id rfl
theorem aB5 {α:Type}{l:List α}{d:α}{i:Nat}(h:i<l.length):l.take (i+1)=l.take i++[l.getD i d]:=by
 rw[List.take_succ_eq_append_getElem h]
 simp[List.getD,List.getElem?_eq_getElem h]
def Pure (K:bO)(f:Nat)(ags:List TV)(v:TV):Prop:=∃r S,(lim K).call f ags []=.ret (r,S)∧resolve S r=some v
theorem aR {K:bO}{f:Nat}{ags:List TV}{v r:TV}{S:aA}(h:(lim K).call f ags []=.ret (r,S))(hr:resolve S r=some v):Pure K f ags v:=⟨r,S,h,hr⟩
theorem aC {K:bO}{f:Nat}{ags:List TV}{v:TV}(h:Pure K f ags v)(S:aA)(args:List TV):bFl S args ((lim K).call f ags [])=bFk S args (some v):=by
 obtain⟨r,S',h1,h2⟩:=h
 rw[h1,aJ8,h2]
def bFz (v:Option TV):Out TV:=match v with
 | some v=>.ret v
 | none => .fail ""
theorem aVe (v:TV):bFz (some v)=.ret v:=id rfl
def bJj (x:Out (TV×aA)):Out TV:=x.bind fun r=>bFz (resolve r.2 r.1)
theorem bBg (r:TV)(S:aA):bJj (.ret (r,S))=bFz (resolve S r):=id rfl
attribute [go_sem] aVe bBg
theorem aV {K:bO}{f:Nat}{args:List TV}(fn:aO){v:TV}(hf:K.funcs f=some fn)(ha:args.length=fn.nparams)(h:bJj (vK fn.results (go' K (lim K) fn.body [] (args++List.replicate (fn.nlocs-fn.nparams) undef) []))=.ret v):Pure K f args v:=by
 generalize hx:vK fn.results (go' K (lim K) fn.body [] (args++List.replicate (fn.nlocs-fn.nparams) undef) [])=x at h
 cases x with
 | ret r =>
  obtain⟨r,S⟩:=r
  refine⟨r,S,aB K [] hf ha hx,?_⟩
  simp only[bJj,Out.bind,bFz]at h
  cases hr:resolve S r with
  | none=>rw[hr]at h; cases h
  | some u=>rw[hr]at h; cases h; rfl
 | fail s=>cases h
 | pick n k=>cases h
def fD (w:Nat)(l:List (List IV)):Prop:=∀y∈l,y.length=w∧y.all iR=true
theorem fD.map {α:Type}{w:Nat}{f:α→List IV}(h:∀a,(f a).length=w∧(f a).all iR=true)(l:List α):fD w (l.map f):=by
 intro y hy
 obtain⟨a,_,rfl⟩:=List.mem_map.1 hy
 exact h a
theorem fD.one {α:Type}{f:α→IV}(h:∀a,iR (f a)=true)(l:List α):fD 1 (one f l) :=
 fD.map (f:=fun a=>[f a]) (fun a=>⟨rfl,by simp[h a]⟩) l
def oA (S:aA)(x:TV)(ys:List (List IV)):Prop:=mH S x=some ((bV ys).map .iv)∧lenOf S x=some ys.length
theorem oA.sl (S:aA)(t:Tag)(ys:List (List IV)):oA S (.iv (.sl t ys)) ys:=⟨rfl,rfl⟩
theorem oA.tsl (S:aA)(j:Nat)(ys:List (List IV)):oA S (.tsl j ys) ys:=⟨rfl,rfl⟩
theorem cM {n b:Nat}(h:n*b≤35184372088832∧b≤1048576∧n≤35184372088832):gR n b=true:=by
 simp[gR,h]
theorem aN6 {w b el i:Nat}{S:aA}{l ys:List (List IV)}{x:TV}(hx:oA S x ys)(hw:fD w ys)(hl:fD w l)(hS:S[i]? = some (.tok l.length w el))(hr:gR (l.length+ys.length) b=true) :
  cI false w b el S (.tsl i l) x=some (.tsl i (l++ys),S.set i (.tok (l.length+ys.length) w el)):=by
 obtain⟨h1,h2⟩:=hx
 have hf:=rA (w:=w) (fun y hy=>(hw y hy).1)
 have ha:=zK (vN (fun y hy=>(hw y hy).2))
 simp only[cI,h1,h2,List.length_map,hf,ne_eq,not_true_eq_false,ha,Bool.false_eq_true,or_self,↓reduceIte]
 by_cases hm:ys.length=0
 ·have:ys=[]:=List.eq_nil_of_length_eq_zero hm
  subst this
  simp only[hm,↓reduceIte,aRs,List.append_nil,Nat.add_zero]
  have hi:i<S.length:=by
   rcases Nat.lt_or_ge i S.length with h3|h3
   ·exact h3
   ·rw[List.getElem?_eq_none h3]at hS; cases hS
  rw[List.getElem?_eq_getElem hi]at hS
  have e:S.set i (.tok l.length w el)=S:=by rw[←Option.some.inj hS]; exact List.set_getElem_self hi
  simp[e]
 ·simp only[hm,↓reduceIte,hS,rY,aKe (fun y hy=>(hl y hy).1),hr,decide_true,Bool.and_self,nP (fun y hy=>(hw y hy).1)]
theorem wV {w b el:Nat}{S:aA}{t:Tag}{l ys:List (List IV)}{x:TV}(ht:t≠.no)(hx:oA S x ys)(hw:fD w ys)(hl:fD w l)(h0:ys≠[])(hr:gR (l.length+ys.length) b=true) :
  cI false w b el S (.iv (.sl t l)) x=some (.tsl S.length (l++ys),S++[.tok (l.length+ys.length) w el]):=by
 obtain⟨h1,h2⟩:=hx
 have hf:=rA (w:=w) (fun y hy=>(hw y hy).1)
 have ha:=zK (vN (fun y hy=>(hw y hy).2))
 have hm:¬ys.length=0:=fun e=>h0 (List.eq_nil_of_length_eq_zero e)
 have ht':(t==.no)=false:=by cases t<;>first|rfl|exact absurd rfl ht
 simp only[cI,h1,h2,List.length_map,hf,ne_eq,not_true_eq_false,ha,Bool.false_eq_true,or_self,↓reduceIte,hm,ht',aKe (fun y hy=>(hl y hy).1),hr,Bool.not_true,Bool.or_self,rY,nP (fun y hy=>(hw y hy).1)]
theorem aB6 {mu:Bool}{w b el:Nat}{S:aA}{s x:TV}(hs:aRs s=true)(hx:oA S x []):cI mu w b el S s x=some (s,S):=by
 obtain⟨h1,h2⟩:=hx
 simp[cI,h1,h2,bV,hs]
def acc (i:Nat)(l:List (List IV)):TV:=if l=[] then .iv (.sl .nil []) else .tsl i l
theorem jF (i:Nat):acc i []=.iv (.sl .nil []):=by simp[acc]
theorem bBh (i:Nat)(a:List IV)(l:List (List IV)):acc i (a::l)=.tsl i (a::l):=by simp[acc]
theorem gN (i:Nat){l:List (List IV)}(h:l≠[]):acc i l=.tsl i l:=by simp[acc,h]
def jK (w el:Nat)(l:List (List IV)):aA:=if l=[] then [] else [.tok l.length w el]
theorem jZ (w el:Nat):jK w el []=[]:=by simp[jK]
theorem rZ (w el:Nat){l:List (List IV)}(h:l≠[]):jK w el l=[.tok l.length w el]:=by simp[jK,h]
theorem aN7 {w b el:Nat}{l ys:List (List IV)}{x:TV}(hx:∀S,oA S x ys)(hw:fD w ys)(hl:fD w l)(hr:gR (l.length+ys.length) b=true) :
  cI false w b el (jK w el l) (acc 0 l) x=some (acc 0 (l++ys),jK w el (l++ys)):=by
 by_cases h:l=[]
 ·subst h
  by_cases h0:ys=[]
  ·subst h0
   rw[jF,jZ,aB6 rfl (hx _)]; rfl
  ·rw[jF,jZ,wV (by decide) (hx _) hw hl h0 hr,List.nil_append,gN _ h0,rZ _ _ h0]
   simp
 ·have h2:l++ys≠[]:=by simp[h]
  rw[gN _ h,rZ _ _ h,aN6 (hx _) hw hl rfl hr,gN _ h2,rZ _ _ h2]
  simp
theorem aB7 (S:aA)(i:Nat)(l:List (List IV)):aI1 .sl S (acc i l)=some (.iv (.int .i64 l.length)):=by
 unfold acc; split
 ·rename_i h; subst h; rfl
 ·rfl
def eP {α:Type}(l:List α):Tag:=match l with
 | []=>.nil
 | _=>.no
theorem rB {α β:Type}(f:α→β)(l:List α):eP (l.map f)=eP l:=by cases l<;>rfl
theorem aVf (S:aA)(i:Nat)(l:List (List IV)):aCj S (acc i l)=some (.sl (eP l) l):=by cases l<;>rfl
theorem yI (S:aA)(i:Nat)(l:List (List IV)):resolve S (acc i l)=some (.iv (.sl (eP l) l)):=by cases l<;>rfl
theorem vO (S:aA)(i:Nat)(l:List (List IV)):lJ S (acc i l)=some (.iv (.sl (eP l) l)):=by cases l<;>rfl
theorem zL {w b el:Nat}{l:List (List IV)}{t:Tag}{c:List IV}(hc:c.length=w∧c.all iR=true)(hl:fD w l)(hr:gR (l.length+1) b=true) :
  cI false w b el (jK w el l) (acc 0 l) (.iv (.sl t [c]))=some (acc 0 (l++[c]),jK w el (l++[c])) :=
 aN7 (fun S=>oA.sl S t [c]) (by intro y hy; simp at hy; subst hy; exact hc) hl hr
theorem bF0 {w b el:Nat}(B:aY){l ys:List (List IV)}{x:TV}(hx:∀S,oA S x ys)(hw:fD w ys)(hl:fD w l)(hr:gR (l.length+ys.length) b=true) :
  cI false w b el (B::jK w el l) (acc 1 l) x=some (acc 1 (l++ys),B::jK w el (l++ys)):=by
 by_cases h:l=[]
 ·subst h
  by_cases h0:ys=[]
  ·subst h0
   rw[jF,jZ,aB6 rfl (hx _)]; rfl
  ·rw[jF,jZ,wV (by decide) (hx _) hw hl h0 hr,List.nil_append,gN _ h0,rZ _ _ h0]
   simp
 ·have h2:l++ys≠[]:=by simp[h]
  rw[gN _ h,rZ _ _ h,aN6 (hx _) hw hl rfl hr,gN _ h2,rZ _ _ h2]
  simp
theorem bBi {w b el:Nat}(B:aY){l:List (List IV)}{t:Tag}{c:List IV}(hc:c.length=w∧c.all iR=true)(hl:fD w l)(hr:gR (l.length+1) b=true) :
  cI false w b el (B::jK w el l) (acc 1 l) (.iv (.sl t [c]))=some (acc 1 (l++[c]),B::jK w el (l++[c])) :=
 bF0 B (fun S=>oA.sl S t [c]) (by intro y hy; simp at hy; subst hy; exact hc) hl hr
theorem aVg (env:Env)(s:List UInt8)(pos:Nat)(R:aA):aY9 env (.sit s pos::R) (.it 0)=if pos<s.length then some (.tup [.iv (.bool true),.iv (.int .i64 pos),.iv (.int .i32 (Utf8.decode ⟨s.toArray⟩ pos).1)],env,.sit s (pos+(Utf8.decode ⟨s.toArray⟩ pos).2)::R) else some (.tup [.iv (.bool false)],env,.sit s pos::R):=id rfl
attribute [go_sem] aVg
theorem bF1 (K:bO)(O:Orc)(j i':Nat)(l:List (List IV))(ops:List aL)(i:Nat)(M:List (Nat×TV))(n:Nat)(fs:List Fr)(env:Env)(S:aA):aGu K O (acc i' l) j ops i M n fs env S=vJ K O ops (i+1) M n fs (env.set j (acc i' l)) S:=by
 unfold acc; split
 ·exact aQ3 K O ops i M n fs env S _ j
 ·exact aJ0 K O ops i M n fs env S _ _ j
theorem aN8 (i:Nat)(l:List (List IV)):sH (acc i l)=false:=by cases l<;>rfl
theorem bBj (j i:Nat)(l:List (List IV)):aBm j (acc i l)=acc i l:=by unfold acc; split<;>rfl
theorem bBk (i:Nat)(l:List (List IV)):dT (acc i l)=false:=by unfold acc; split<;>rfl
theorem bBl (i:Nat)(l:List (List IV)):aZ0 (acc i l)=some (acc i l):=by unfold acc; split<;>rfl
attribute [go_sem] aVf yI vO bF1 aN8 bBj bBk bBl aB7
end Go.TM
namespace Go.TM
open Go Go.ChangeShapes Go.WideShapes Go.RowKit
variable {P:Program}{H:Type}{enc:TypeId×Value→H}{W:World}
def nQ (P:Program){H:Type}:List TypeId→List (DataW H)→List (List IV)→Prop
 | [],[],[]=>True
 | t::ts,d::ds,l::ls=>Ty P t d l∧nQ P ts ds ls
 | _,_,_=>False
def aG6 (P:Program):List TypeId→List (List IV)→List TV
 | t::ts,l::ls=>aEb P t l::aG6 P ts ls
 | _,_=>[]
theorem aQ5 {ts:List TypeId}(hts:aSf P ts=true){r:Reach}{b base:Nat}{held:Bool}:∀ {params:List TypeId} {vals:List Value} {ds:List (DataW H)} {ps:List MemPlace},(∀t∈params,t∈ts)→(∀(j:Nat) t v,params[j]? = some t→vals[j]? = some v→Value.okWide P W r b t v) →
  DataW.TrodAll enc P W base (fun _=>true) held params vals ds ps→∃ls,nQ P params ds ls∧VRs (eL W) [] [] (aG6 P params ls) vals
 | [],vals,ds,ps,_,_,h=>by
  obtain⟨rfl,rfl,rfl⟩:=trodAll_nil h
  exact⟨[],trivial,VRs.nil⟩
 | t::params,vals,ds,ps,hp,hv,h=>by
  obtain⟨v,vs',d,ds',p,q,rfl,rfl,rfl,h1,h2⟩:=trodAll_cons h
  obtain⟨l,k1,k2⟩:=bIi hts (hp t (by simp)) (hv 0 t v rfl rfl) h1
  obtain⟨ls,k3,k4⟩:=aQ5 hts (fun u hu=>hp u (by simp[hu])) (fun j u w hu hw=>hv (j+1) u w (by simpa using hu) (by simpa using hw)) h2
  exact⟨l::ls,⟨k1,k3⟩,VRs.cons k2 k4⟩
theorem bF2 {t:TypeId}{d:DataW H}{l:List IV}(hu:P.underlying t=some .bool)(h:Ty P t d l):∃b,l=[.bool b]:=by
 cases h with
 | bool u ht b=>exact⟨b,rfl⟩
 | int u k ht=>rw[hu]at ht; cases ht
 | str u ht=>rw[hu]at ht; cases ht
 | nilp u e ht=>rw[hu]at ht; cases ht
 | ptr u e ht=>rw[hu]at ht; cases ht
 | nils u e ht=>rw[hu]at ht; cases ht
 | sl u e ht=>rw[hu]at ht; cases ht
 | struct u fs ht=>rw[hu]at ht; cases ht
 | array u e n ht=>rw[hu]at ht; cases ht
theorem aVh {t:TypeId}{l:List IV}(h:(match P.underlying t with|some (.struct _)|some (.array _ _)=>true|_=>false)=true):aEb P t l=.iv (.agg l):=by
 unfold aEb
 split
 ·rfl
 ·rfl
 ·rename_i h1 h2
  split at h
  ·rename_i e; exact absurd e (h1 _)
  ·rename_i e; exact absurd e (h2 _ _)
  ·cases h
theorem sA {ds:List (DataW H)}{ls:List (List IV)}(h:nQ P [] ds ls):ls=[]:=by
 cases ds<;>cases ls<;>first|rfl|exact h.elim
theorem aN9 {P:Program}{ts:Array TypeId}{q:TypeId→Bool}(h:ts.toList.all (fun t=>!(q t))=true)(j:Nat)(t:TypeId)(ht:ts[j]? = some t):q t=false:=by
 have:=List.all_eq_true.1 h t (Array.mem_toList_iff.2 (Array.mem_of_getElem? ht))
 simpa using this
theorem nF {ds:List (DataW H)}{ls:List (List IV)}(h:nQ P [] ds ls):ds=[]:=by
 cases ds<;>cases ls<;>first|rfl|exact h.elim
theorem aKg {t:TypeId}{ts:List TypeId}{ds:List (DataW H)}{ls:List (List IV)}(h:nQ P (t::ts) ds ls):∃(d:DataW H) (l:List IV) (ds':List (DataW H)) (ls':List (List IV)),ds=d::ds'∧ls=l::ls'∧nQ P ts ds' ls':=by
 cases ds with
 | nil=>cases ls<;>exact h.elim
 | cons d ds =>
  cases ls with
  | nil=>exact h.elim
  | cons l ls=>exact⟨d,l,ds,ls,rfl,rfl,h.2⟩
theorem aB8 {O:dB}{K:TM.bO}(hk:KOK P O K){f:Nat}{args:List TV}(h:((lim K).call f args []).All fun r=>r.1=.iv (.bool true)){vals:Array Value}(hv:VRs (eL W) [] [] args vals.toList)(hg:pA K (eL W)) :
  Calls P f vals W fun e W'=>e=.returned (.bool true)∧Below W.heap.size W W':=by
 obtain⟨n,hn⟩:=bD9 (K:=K) (f:=f) (a:=args) (S:=[]) h
 exact aSh hk hn hv hg
end Go.TM
namespace Go.TM
section
variable (K:bO)(O:Orc)(i:Nat)(k:Kt)(M:List (Nat×TV))(n:Nat)(fs:List Fr)(env:Env)(S:aA)
def cvA (O:Orc)(c:Bool)(S:aA)(g:Nat)(ags:List TV):Out (TV×aA):=if c then aUb O S ags g (dP S ags) else aUc O false S g (ags.any dT) ags
theorem bBm (g:Nat)(ags:List TV):cvA O true S g ags=aUb O S ags g (dP S ags):=by simp only[cvA,↓reduceIte]
theorem aVi (g:Nat)(ags:List TV):cvA O false S g ags=aUc O false S g (ags.any dT) ags:=by simp only[cvA,Bool.false_eq_true,↓reduceIte]
def bJk (O : Orc) (S : aA) (j : Nat) (lp : Bool) (ags : List TV) : Out (TV × aA) := if lp then .fail "" else er (O.yld j ags S)
def opF (f:TV)(ags:List TV)(i:Nat)(k:Kt)(M:List (Nat×TV))(n:Nat)(fs:List Fr)(env:Env)(S:aA):TT (Out (bN×Env×aA)) (i,k,M,n,fs,env,S) :=
 match f with
 | .fn g a b=>yR K O (cvA O ((a++ags++b).all aAf) S g (a++ags++b)) i k M n fs env
 | .yld j=>yR K O (bJk O S j (ags.any dT) ags) i k M n fs env
 | _ => (.fail "" : Out (bN × Env × aA))
theorem bJl (g:Nat)(a b ags:List TV):opF K O (.fn g a b) ags i k M n fs env S=yR K O (cvA O ((a++ags++b).all aAf) S g (a++ags++b)) i k M n fs env:=rfl
theorem bF3 (j:Nat)(ags:List TV):opF K O (.yld j) ags i k M n fs env S=yR K O (bJk O S j (ags.any dT) ags) i k M n fs env:=rfl
theorem aVj (f:aG)(args:List aG):eY K O (.callv f args) i k M n fs env S=opF K O (cD K n env M f) (args.map (cD K n env M)) i k M n fs env S:=by
 unfold eY cD
 simp only[op1,bY]
 show er (Out.bind (match opv K n env M f with
  | .fn g a b=>Out.bind (if (a++args.map (opv K n env M)++b).all aAf then eN O g (a++args.map (opv K n env M)++b) S else iQ O false g (a++args.map (opv K n env M)++b) S) fun r=>.ret (r.1,env,r.2)
  | .yld j => if (args.map (opv K n env M)).any dT then .fail "yield: a local's address" else Out.bind (O.yld j (args.map (opv K n env M)) S) fun r => .ret (r.1, env, r.2)
  | _ => .fail "callv") _) = _
 cases opv K n env M f with
 | fn g a b =>
  simp only[opF,cvA,Out.bind_assoc,Out.bind]
  split
  ·unfold yR aUb
   rw[←yG,←aBu]
  ·unfold yR aUc
   rw[←aEj,←aBu]
 | yld j =>
  simp only[opF,bJk]
  split
  ·unfold yR; rfl
  ·unfold yR
   rw[←aBu]
   simp only[Out.bind_assoc,Out.bind]
 | _=>rfl
end
theorem bF4 (v:IV):aAf (.iv v)=true:=id rfl
theorem bBn (a b c:Nat):aAf (.ptr a b c)=false:=id rfl
theorem bBo (f:Nat)(a b:List TV):aQz f a b=if (a++b).any dT=true then none else some (.fn f a b):=id rfl
theorem bF5 (t m:Nat)(v:TV):bIz t m v=if (cellsOf v).any bT=true then none else some (.ptr m t 0,.cells t false (cellsOf v)):=id rfl
attribute [go_sem] bBm aVi bJl bF3 aVj bF4 bBn bBo bF5
end Go.TM
namespace Go.TM
section
variable (K:bO)(O:Orc)(fs:List Fr)(env:Env)(S:aA)
end
end Go.TM
namespace Go.TM
section
variable {K:bO}{O:Orc}{i:Nat}{k:Kt}{M:List (Nat×TV)}{n:Nat}{fs:List Fr}{env:Env}{S:aA}{rs:List nH}{b:aK}
end
end Go.TM
