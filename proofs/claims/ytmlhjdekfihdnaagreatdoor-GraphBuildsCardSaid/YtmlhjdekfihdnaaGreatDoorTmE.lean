/- A part of the evaluator TM, and of the proof that what it computes the model does. Condition: none. -/
import Derived.Test.YtmlhjdekfihdnaaGreatDoorTmD
set_option linter.unusedVariables false
set_option linter.unusedSimpArgs false
set_option maxRecDepth 100000
namespace Go.TM
section
variable (K:aW)(O:Orc)(i:Nat)(k:Kt)(M:List (Nat×TV))(n:Nat)(fs:List Fr)(env:Env)(S:aA)
theorem gH {o:TOp}(h:bT o=0):op1 K O o i k M n fs env S=opV K O (aQ o (opv K n env M)) i k M n fs env S:=by
 have e:(fun x=>aS K env (cP M n) x)=opv K n env M:=rfl
 simp only[op1,ec0 K O env _ S o h]
 show er ((Out.need _ (aQ o (opv K n env M)) _).bind _)=_
 cases aQ o (opv K n env M) with
 | some v=>simp only[Out.need,Out.bind,opV]; cases k<;>simp only[fZ,rgR,fls,chk,sB]<;>(try split)<;>simp only[sB,er]
 | none=>rfl
theorem iP:er (fZ K O k M n fs env S)=fZ K O k M n fs env S:=by
 cases k<;>simp only[fZ,rgR,fls,chk,sB]<;>(try split)<;>simp only[sB,er]
theorem wH {o:TOp}(h:bT o=1):op1 K O o i k M n fs env S=opV K O (aM o (opv K n env M) env S) i k M n fs env S:=by
 simp only[op1,ec1 K O env _ S o h]
 show er ((Out.need _ (aM o (opv K n env M) env S) _).bind _)=_
 cases aM o (opv K n env M) env S with
 | some v=>simp only[Out.need,Out.bind,opV,iP]
 | none=>rfl
theorem aFx {o:TOp}(h:bT o=2):op1 K O o i k M n fs env S=opA K O (bK o (opv K n env M) S.length) i k M n fs env S:=by
 simp only[op1,kR K O env _ S o (by omega)]
 have p:∀e,aQ o e=none:=by intro e; cases o<;>first|rfl|simp[bT]at h
 have r:∀e,aM o e env S=none:=by intro e; cases o<;>first|rfl|simp[bT]at h
 have s:∀e rs,fJ o e rs env S=none:=by intro e rs; cases o<;>first|rfl|simp[bT]at h
 simp only[iC,gQ,p,r,s]
 show er ((Out.ofOpt _ (match bK o (opv K n env M) S.length with|some (v,b)=>some (v,env,S++[b])|none=>none)).bind _)=_
 cases bK o (opv K n env M) S.length with
 | some v=>simp only[Out.ofOpt,Out.bind,opA,iP]
 | none=>rfl
theorem kZ {o:TOp}(h:bT o=3)(hb:o≠.bad):op1 K O o i k M n fs env S=opE K O (fJ o (opv K n env M) (cP M n) env S) i k M n fs:=by
 simp only[op1,kR K O env _ S o (by omega)]
 have p:∀e,aQ o e=none:=by intro e; cases o<;>first|rfl|simp[bT]at h
 have r:∀e,aM o e env S=none:=by intro e; cases o<;>first|rfl|simp[bT]at h
 have s:∀e n,bK o e n=none:=by intro e n; cases o<;>first|rfl|simp[bT]at h
 simp only[iC,gQ,p,r,s]
 show er ((Out.ofOpt _ (fJ o (opv K n env M) (cP M n) env S)).bind _)=_
 cases fJ o (opv K n env M) (cP M n) env S with
 | some v=>simp only[Out.ofOpt,Out.bind,opE,iP]
 | none=>rfl
def xtr (j:Nat):TV→Option TV
 | .tup vs=>vs[j]?
 | _=>none
theorem bEp (j:Nat)(vs:List TV):xtr j (.tup vs)=vs[j]? := id rfl
def bEq (v:TV):Option TV:=if wS v then some v else none
theorem aX4 (a b c:Nat):bEq (.ptr a b c)=some (.ptr a b c):=id rfl
def ivO (x:Option IV):Option TV:=x.map .iv
theorem aX5 (x:IV):ivO (some x)=some (.iv x):=id rfl
def eqV (neg:Bool)(x:Option Bool):Option TV:=x.map fun b=>.iv (.bool (if neg then !b else b))
theorem bKs (x:Bool):eqV false (some x)=some (.iv (.bool x)):=id rfl
def aX6 (x:Option Nat):Option TV:=x.map fun (m:Nat)=>.iv (.int .i64 m)
def mH (ag:Bool)(x:Option (List TV)):Option TV:=match x with
 | some cs=>fH ag cs
 | none=>none
theorem aLs (ag:Bool)(l:List TV):mH ag (some l)=fH ag l:=id rfl
theorem aLt (v:TV):fH false [v]=some v:=id rfl
theorem aLu (l:List TV):fH true l=some (oV l):=id rfl
def aRh (off n:Nat)(x:Option (List TV)):Option (List TV):=match x with
 | some all=>sub all off n
 | none=>none
theorem aRi (off n:Nat)(l:List TV):aRh off n (some l)=sub l off n:=id rfl
def ixS (es:Nat)(x i:TV):Option TV:=match eH i with
 | some n=>indexAddrS es x n
 | none=>none
theorem bEr (es:Nat)(x:TV)(kd:IntKind)(m:Int):ixS es x (.iv (.int kd m))=indexAddrS es x m:=id rfl
def ixA (len es:Nat)(x i:TV):Option TV:=match eH i with
 | some n=>if 0≤n∧n<len then fS x (n.toNat*es) else none
 | none=>none
theorem aPh (len es:Nat)(x:TV)(kd:IntKind)(m:Int):ixA len es x (.iv (.int kd m))=if 0≤m∧m<len then fS x (m.toNat*es) else none:=id rfl
def bGr (x i:TV):Option TV:=match x,eH i with
 | .iv (.str s),some n=>if 0≤n then (s[n.toNat]?).map fun b=>.iv (.int .u8 b.toNat) else none
 | _,_=>none
def oI:Option TV→Option (Option Int)
 | none=>some none
 | some x=>(eH x).map some
theorem bEs:oI none=some none:=id rfl
theorem bEt (kd:IntKind)(m:Int):oI (some (.iv (.int kd m)))=some (some m):=id rfl
def slV (S:aA)(sk:SK)(x:TV)(lo hi mx:Option (Option Int)):Option TV:=match lo,hi,mx with
 | some lo,some hi,some mx=>eL S sk x lo hi mx
 | _,_,_=>none
theorem aX7 (sk:SK)(x:TV)(lo hi mx:Option Int):slV S sk x (some lo) (some hi) (some mx)=eL S sk x lo hi mx:=id rfl
def aIg (kd:NK)(S:aA)(v:TV):Option TV:=if aE3 v=kd then aX6 (lenOf S v) else none
theorem bEu (t:Tag)(l:List (List IV)):aIg .sl S (.iv (.sl t l))=some (.iv (.int .i64 l.length)):=id rfl
theorem aX8 (j:Nat)(l:List (List IV)):aIg .sl S (.tsl j l)=some (.iv (.int .i64 l.length)):=id rfl
theorem aX9 (a b c d e f:Nat):aIg .sl S (.msl a b c d e f)=some (.iv (.int .i64 d)):=id rfl
def bsV (x:Option (List (List IV))):Option TV:=match x with
 | some l=>(mS l).map fun b=>.iv (.str b)
 | none=>none
def mkV (z:List IV)(bytes m:Nat)(l c:TV):Option (TV×aG):=match eH l,eH c with
 | some l,some c =>
  if 0≤l∧l≤c∧dZ c.toNat bytes=true then
   some (.msl m 0 0 l.toNat c.toNat z.length,.cells 0 false (bJ (List.replicate c.toNat (z.map .iv))))
  else none
 | _,_=>none
theorem bEv (z:List IV)(bytes m:Nat)(k1 k2:IntKind)(l c:Int)(h:0≤l∧l≤c∧dZ c.toNat bytes=true):mkV z bytes m (.iv (.int k1 l)) (.iv (.int k2 c))=some (.msl m 0 0 l.toNat c.toNat z.length,.cells 0 false (bJ (List.replicate c.toNat (z.map .iv)))):=by
 simp only[mkV,eH,h,and_self,↓reduceIte]
def aYa (x:Option (List (List TV))):Option TV:=match x with
 | some es=>(iR es).map fun l=>.iv (.sl .full l)
 | none=>none
def aFy (m w:Nat)(x:Option (List (List TV))):Option (TV×aG):=match x with
 | some es=>some (.msl m 0 0 es.length es.length w,.cells 0 false (bJ es))
 | none=>none
theorem aRj (m w:Nat)(es:List (List TV)):aFy m w (some es)=some (.msl m 0 0 es.length es.length w,.cells 0 false (bJ es)):=id rfl
def mmV (mx:Bool)(l:List TV):Option TV:=match l with
 | .iv a::r=>(minmax mx a r).map .iv
 | _=>none
theorem aYb (mx:Bool)(a:IV)(r:List TV):mmV mx (.iv a::r)=ivO (minmax mx a r):=id rfl
def wI (w:Nat)(env:Env)(S:aA)(a v:TV):Option (TV×Env×aA) :=
 if (cellsOf v).length=w then match setCells env S a (cellsOf v) with
   | some (env,S)=>some (undef,env,S)
   | none=>none
  else none
def aA9 (x:Option (Env×aA)):Option (TV×Env×aA):=match x with
 | some (env,S)=>some (undef,env,S)
 | none=>none
theorem aIh:aA9 (some (env,S))=some (undef,env,S):=id rfl
theorem aRk (w:Nat)(a v:TV)(h:(cellsOf v).length=w):wI w env S a v=aA9 (setCells env S a (cellsOf v)):=by
 simp only[wI,h,↓reduceIte,aA9]
def bLn (env:Env)(x:Option (TV×aA)):Option (TV×Env×aA):=match x with
 | some (v,S)=>some (v,env,S)
 | none=>none
theorem aIi (x:Option (TV×aA)):opE K O (bLn env x) i k M n fs=opS K O x i k M n fs env:=by
 cases x<;>rfl
def aPi (f:Nat)(a b:List TV):Option TV:=if (a++b).any cZ then none else some (.fn f a b)
def bKt (env:Env)(S:aA)(v:TV):Option (TV×Env×aA):=match v with
  | .it j=>match S[j]? with
   | some (.sit s pos) =>
    if pos<s.length then
     let (c,width):=Utf8.decode ⟨s.toArray⟩ pos
     some (.tup [.iv (.bool true),.iv (.int .i64 pos),.iv (.int .i32 c)],env,S.set j (.sit s (pos+width)))
    else some (.tup [.iv (.bool false)],env,S)
   | _=>none
  | _=>none
def aFz (str:Bool)(env:Env)(S:aA)(v:TV):Option (TV×Env×aA):=match str,v with
  | true,.iv (.str s)=>some (.it S.length,env,S++[.sit s 0])
  | false,.iv .nilm=>some (.it S.length,env,S++[.mit none 0 [] 0])
  | false,.map j=>match S[j]? with
   | some (.mp _ clock)=>some (.it S.length,env,S++[.mit (some j) clock [] clock])
   | _=>none
  | _,_=>none
theorem bEw (x:aE):op1 K O (.mov x) i k M n fs env S=opV K O (some (opv K n env M x)) i k M n fs env S:=gH K O i k M n fs env S (id rfl)
theorem aYc (c a b:aE):op1 K O (.pick c a b) i k M n fs env S=opP K O (opv K n env M c) (opv K n env M a) (opv K n env M b) i k M n fs env S:=by
 rw[gH K O i k M n fs env S rfl]
 simp only[aQ,opP]
 cases opv K n env M c with
 | iv v =>
  cases v with
  | bool t=>cases t<;>rfl
  | _=>rfl
 | _=>rfl
theorem aRl (z:List IV)(ps:List (Nat×Nat×aE)):op1 K O (.build z ps) i k M n fs env S=opV K O ((fill (z.map .iv) (opv K n env M) ps).map oV) i k M n fs env S:=gH K O i k M n fs env S (id rfl)
theorem aF0 (x:aE):op1 K O (.nilCheck x) i k M n fs env S=opV K O (bEq (opv K n env M x)) i k M n fs env S:=gH K O i k M n fs env S (id rfl)
theorem bEx (op:BinOp)(x y:aE):op1 K O (.bin op x y) i k M n fs env S=opV K O (ivO (binOp op (opv K n env M x) (opv K n env M y))) i k M n fs env S:=gH K O i k M n fs env S (id rfl)
theorem bEy (neg:Bool)(ek:EK)(x y:aE):op1 K O (.eqB neg ek x y) i k M n fs env S=opV K O (eqV neg (eqB ek (opv K n env M x) (opv K n env M y))) i k M n fs env S:=gH K O i k M n fs env S (id rfl)
theorem aRm (neg:Bool)(offs:List (Nat×LK))(x y:aE):op1 K O (.eqAgg neg offs x y) i k M n fs env S=opV K O (ivO (eqAgg neg offs (opv K n env M x) (opv K n env M y))) i k M n fs env S:=gH K O i k M n fs env S (id rfl)
theorem bIx (op:UnOp)(x:aE):op1 K O (.un op x) i k M n fs env S=opV K O (ivO (unOp op (opv K n env M x))) i k M n fs env S:=gH K O i k M n fs env S (id rfl)
theorem aYd (f:Nat)(a b:List aE):op1 K O (.mkFn f a b) i k M n fs env S=opV K O (aPi f (a.map (opv K n env M)) (b.map (opv K n env M))) i k M n fs env S:=gH K O i k M n fs env S (id rfl)
theorem aCi (off:Nat)(x:aE):op1 K O (.fieldAddr off x) i k M n fs env S=opV K O (fS (opv K n env M x) off) i k M n fs env S:=gH K O i k M n fs env S (id rfl)
theorem aRn (off w:Nat)(ag:Bool)(x:aE):op1 K O (.field off w ag x) i k M n fs env S=opV K O (mH ag (aRh off w (fX (opv K n env M x)))) i k M n fs env S:=by
 rw[gH K O i k M n fs env S rfl]
 simp only[aQ]
 cases fX (opv K n env M x) with
 | none=>rfl
 | some l=>simp only[aRh,mH]; cases sub l off w<;>rfl
theorem aBa (es:Nat)(x y:aE):op1 K O (.indexAddrS es x y) i k M n fs env S=opV K O (ixS es (opv K n env M x) (opv K n env M y)) i k M n fs env S:=gH K O i k M n fs env S (id rfl)
theorem aBb (len es:Nat)(x y:aE):op1 K O (.indexAddrA len es x y) i k M n fs env S=opV K O (ixA len es (opv K n env M x) (opv K n env M y)) i k M n fs env S:=gH K O i k M n fs env S (id rfl)
theorem bIy (x y:aE):op1 K O (.indexS x y) i k M n fs env S=opV K O (bGr (opv K n env M x) (opv K n env M y)) i k M n fs env S:=gH K O i k M n fs env S (id rfl)
theorem aIj (j:Nat)(x:aE):op1 K O (.extract j x) i k M n fs env S=opV K O (xtr j (opv K n env M x)) i k M n fs env S:=gH K O i k M n fs env S (id rfl)
theorem bEz (x:aE):op1 K O (.cap x) i k M n fs env S=opV K O (aX6 (zO (opv K n env M x))) i k M n fs env S:=gH K O i k M n fs env S (id rfl)
theorem bKu (m:Nat):op1 K O (.lenC m) i k M n fs env S=opV K O (some (.iv (.int .i64 m))) i k M n fs env S:=gH K O i k M n fs env S (id rfl)
theorem aLv (mx:Bool)(xs:List aE):op1 K O (.minmax mx xs) i k M n fs env S=opV K O (mmV mx (xs.map (opv K n env M))) i k M n fs env S:=gH K O i k M n fs env S (id rfl)
theorem aRo (a:aE):op1 K O (.load1 a) i k M n fs env S=opV K O (mH false (bO env S (opv K n env M a) 1)) i k M n fs env S:=wH K O i k M n fs env S (id rfl)
theorem aRp (w:Nat)(a:aE):op1 K O (.loadN w a) i k M n fs env S=opV K O (mH true (bO env S (opv K n env M a) w)) i k M n fs env S:=wH K O i k M n fs env S (id rfl)
theorem aRq (sk:SK)(x:aE)(lo hi mx:Option aE):op1 K O (.slice sk x lo hi mx) i k M n fs env S=opV K O (slV S sk (opv K n env M x) (oI (lo.map (opv K n env M))) (oI (hi.map (opv K n env M))) (oI (mx.map (opv K n env M)))) i k M n fs env S:=by
 rw[wH K O i k M n fs env S rfl]
 simp only[aM,slV]
 cases lo<;>cases hi<;>cases mx<;>rfl
theorem aLw (kk:KK)(z:IV)(ok:Bool)(m y:aE):op1 K O (.lookup kk z ok m y) i k M n fs env S=opV K O (aM (.lookup kk z ok m y) (opv K n env M) env S) i k M n fs env S:=wH K O i k M n fs env S (id rfl)
theorem aLx (x:aE):op1 K O (.entryM x) i k M n fs env S=opV K O (aM (.entryM x) (opv K n env M) env S) i k M n fs env S:=wH K O i k M n fs env S (id rfl)
theorem bE0 (nk:NK)(x:aE):op1 K O (.len nk x) i k M n fs env S=opV K O (aIg nk S (opv K n env M x)) i k M n fs env S:=wH K O i k M n fs env S (id rfl)
theorem uZ (c:CK)(hc:c≠.bytesStr)(x:aE):op1 K O (.conv c x) i k M n fs env S=opV K O (ivO (cN c (opv K n env M x))) i k M n fs env S:=by
 simp only[op1,ec4]
 show er ((Out.need _ (match (cN c (opv K n env M x)).map TV.iv with|some v=>some v|none=>aM (.conv c x) (opv K n env M) env S) _).bind _)=_
 cases h:cN c (opv K n env M x) with
 | some v=>simp only[Option.map,Out.need,Out.bind,ivO,opV,iP]
 | none =>
  have:aM (.conv c x) (opv K n env M) env S=none:=by cases c<;>first|rfl|exact absurd rfl hc
  simp only[this,Option.map,Out.need,Out.bind,ivO,opV,er]
theorem aRr (kd:IntKind)(x:aE):op1 K O (.conv (.toInt kd) x) i k M n fs env S=opV K O (ivO (cN (.toInt kd) (opv K n env M x))) i k M n fs env S:=uZ K O i k M n fs env S _ (by simp) x
theorem bIz (x:aE):op1 K O (.conv .intStr x) i k M n fs env S=opV K O (ivO (cN .intStr (opv K n env M x))) i k M n fs env S:=uZ K O i k M n fs env S _ (by simp) x
theorem bI0 (x:aE):op1 K O (.conv .strStr x) i k M n fs env S=opV K O (ivO (cN .strStr (opv K n env M x))) i k M n fs env S:=uZ K O i k M n fs env S _ (by simp) x
theorem bE1 (x:aE):op1 K O (.conv .strBytes x) i k M n fs env S=opV K O (ivO (cN .strBytes (opv K n env M x))) i k M n fs env S:=uZ K O i k M n fs env S _ (by simp) x
theorem bE2 (x:aE):op1 K O (.conv .bytesStr x) i k M n fs env S=opV K O (bsV (cG S (opv K n env M x))) i k M n fs env S:=by
 simp only[op1,ec4]
 have hc:cN .bytesStr (aS K env (cP M n) x)=none:=by
  unfold cN
  cases aS K env (cP M n) x with
  | iv v=>cases v<;>rfl
  | _=>rfl
 simp only[hc,Option.map]
 show er ((Out.need _ (bsV (cG S (opv K n env M x))) _).bind _)=_
 cases bsV (cG S (opv K n env M x)) with
 | some v=>simp only[Out.need,Out.bind,opV,iP]
 | none=>rfl
def aIk (w:Nat)(x:Option (List (List IV)))(es:Option (List (List TV)))(i:Nat)(k:Kt)(M:List (Nat×TV))(n:Nat)(fs:List Fr)(env:Env)(S:aA):Out (aU×Env×aA) :=
 match x with
 | some l=>opV K O (some (.iv (.sl .full l))) i k M n fs env S
 | none=>opA K O (aFy S.length w es) i k M n fs env S
@[congr] theorem litQ_congr (w:Nat) {x x':Option (List (List IV))} (h:x=x') {es es':Option (List (List TV))} (h2:es=es'):aIk K O w x es i k M n fs env S=aIk K O w x' es' i k M n fs env S:=by rw[h,h2]
theorem aRs (w:Nat)(l:List (List IV))(es:Option (List (List TV))):aIk K O w (some l) es i k M n fs env S=fZ K O k ((i,.iv (.sl .full l))::M) n fs env S:=id rfl
theorem bJm (w:Nat)(es:Option (List (List TV))):aIk K O w none es i k M n fs env S=opA K O (aFy S.length w es) i k M n fs env S:=id rfl
def bE3 (x:Option (List (List TV))):Option (List (List IV)):=match x with
 | some es=>iR es
 | none=>none
theorem aRt (l:List (List TV)):bE3 (some l)=iR l:=id rfl
theorem bE4 (z:List IV)(len:Nat)(ps:List (Nat×aE)):op1 K O (.lit false z len ps) i k M n fs env S=aIk K O z.length (bE3 (dJ (List.replicate len (z.map .iv)) z.length (opv K n env M) ps)) (dJ (List.replicate len (z.map .iv)) z.length (opv K n env M) ps) i k M n fs env S:=by
 simp only[op1,kR K O env _ S _ (show bT (.lit false z len ps)≠5 by simp[bT])]
 have p:aQ (.lit false z len ps) (aS K env (cP M n))=aYa (dJ (List.replicate len (z.map .iv)) z.length (opv K n env M) ps):=rfl
 have r:aM (.lit false z len ps) (aS K env (cP M n)) env S=none:=rfl
 have a:bK (.lit false z len ps) (aS K env (cP M n)) S.length=aFy S.length z.length (dJ (List.replicate len (z.map .iv)) z.length (opv K n env M) ps):=rfl
 have s:fJ (.lit false z len ps) (aS K env (cP M n)) (cP M n) env S=none:=rfl
 simp only[iC,gQ,p,r,a,s]
 cases dJ (List.replicate len (z.map .iv)) z.length (opv K n env M) ps with
 | none=>rfl
 | some es =>
  simp only[aYa,bE3]
  cases iR es with
  | some l=>simp only[Option.map,Out.ofOpt,Out.bind,aIk,opV,iP]
  | none=>simp only[Option.map,Out.ofOpt,Out.bind,aIk,aFy,opA,iP]
theorem aYe (z:List IV)(len:Nat)(ps:List (Nat×aE)):op1 K O (.lit true z len ps) i k M n fs env S=opA K O (aFy S.length z.length (dJ (List.replicate len (z.map .iv)) z.length (opv K n env M) ps)) i k M n fs env S:=by
 simp only[op1,kR K O env _ S _ (show bT (.lit true z len ps)≠5 by simp[bT])]
 have p:aQ (.lit true z len ps) (aS K env (cP M n))=none:=rfl
 have r:aM (.lit true z len ps) (aS K env (cP M n)) env S=none:=rfl
 have a:bK (.lit true z len ps) (aS K env (cP M n)) S.length=aFy S.length z.length (dJ (List.replicate len (z.map .iv)) z.length (opv K n env M) ps):=rfl
 have s:fJ (.lit true z len ps) (aS K env (cP M n)) (cP M n) env S=none:=rfl
 simp only[iC,gQ,p,r,a,s]
 cases aFy S.length z.length (dJ (List.replicate len (z.map .iv)) z.length (opv K n env M) ps) with
 | some v=>simp only[Out.ofOpt,Out.bind,opA,iP]
 | none=>rfl
theorem aLy (t:Nat)(z:List IV):op1 K O (.allocH t z) i k M n fs env S=opS K O (some (.ptr S.length t 0,S++[.cells t false (z.map .iv)])) i k M n fs env:=aFx K O i k M n fs env S (id rfl)
theorem aRu:op1 K O .mkMap i k M n fs env S=opS K O (some (.map S.length,S++[.mp [] 0])) i k M n fs env:=aFx K O i k M n fs env S (id rfl)
theorem aIl (z:List IV)(bytes:Nat)(l c:aE):op1 K O (.mkSlice z bytes l c) i k M n fs env S=opA K O (mkV z bytes S.length (opv K n env M l) (opv K n env M c)) i k M n fs env S:=aFx K O i k M n fs env S (id rfl)
def bI1 (t m:Nat)(v:TV):Option (TV×aG):=if (cellsOf v).any bG then none else some (.ptr m t 0,.cells t false (cellsOf v))
theorem aYf (t:Nat)(x:aE):op1 K O (.boxH t x) i k M n fs env S=opA K O (bI1 t S.length (opv K n env M x)) i k M n fs env S:=aFx K O i k M n fs env S (id rfl)
def aIm (j:Nat):List (Nat×TV)→Bool
 | []=>true
 | (_,v)::M=>!(rJ j v)&&aIm j M
theorem aIn {j:Nat}:∀ {M:List (Nat×TV)},aIm j M=true→∀m,rJ j (reg M m)=false
 | [],_,m=>rfl
 | (a,v)::M,h,m=>by
  simp only[aIm,Bool.and_eq_true,Bool.not_eq_true']at h
  simp only[reg]
  split
  ·exact h.1
  ·exact aIn h.2 m
theorem aD1 {j:Nat}{M:List (Nat×TV)}(h:aIm j M=true):(cP M n).any (rJ j)=false:=by
 rw[List.any_eq_false]
 intro x hx
 simp only[cP,List.mem_map]at hx
 obtain⟨m,_,rfl⟩:=hx
 simp[aIn h m]
def alB (c:Bool)(x y:Out (aU×Env×aA)):Out (aU×Env×aA):=bif c then x else y
@[congr] theorem alB_congr {c c':Bool} (h:c=c') (x y:Out (aU×Env×aA)):alB c x y=alB c' x y:=by rw[h]
theorem aBc (x y:Out (aU×Env×aA)):alB true x y=x:=id rfl
theorem aIo (j:Nat)(z:List IV)(h:aIm j M=true)(hj:j<env.length):op1 K O (.allocL j z) i k M n fs env S=opE K O (some (.lp j 0,env.set j (.lb (z.map .iv)),S)) i k M n fs:=by
 rw[kZ K O i k M n fs env S (id rfl) (by simp)]
 simp only[fJ,aD1 n h,hj,decide_true,Bool.not_true,Bool.or_self,Bool.false_eq_true,↓reduceIte]
theorem aRv (j:Nat)(x:aE)(h:aIm j M=true)(hj:j<env.length):op1 K O (.boxL j x) i k M n fs env S=opE K O (if (cellsOf (opv K n env M x)).any bG then none else some (.lp j 0,env.set j (.lb (cellsOf (opv K n env M x))),S)) i k M n fs:=by
 rw[kZ K O i k M n fs env S (id rfl) (by simp)]
 simp only[fJ,aD1 n h,hj,decide_true,Bool.not_true,Bool.or_false]
def okL (j:Nat)(M:List (Nat×TV))(env:Env):Bool:=aIm j M&&decide (j<env.length)
theorem aLz (j:Nat)(z:List IV):op1 K O (.allocL j z) i k M n fs env S=alB (okL j M env) (opE K O (some (.lp j 0,env.set j (.lb (z.map .iv)),S)) i k M n fs) (op1 K O (.allocL j z) i k M n fs env S):=by
 cases h:okL j M env with
 | false=>rfl
 | true =>
  simp only[okL,Bool.and_eq_true,decide_eq_true_eq]at h
  rw[aBc,aIo K O i k M n fs env S j z h.1 h.2]
theorem aYg (j:Nat)(x:aE):op1 K O (.boxL j x) i k M n fs env S=alB (okL j M env) (opE K O (if (cellsOf (opv K n env M x)).any bG then none else some (.lp j 0,env.set j (.lb (cellsOf (opv K n env M x))),S)) i k M n fs) (op1 K O (.boxL j x) i k M n fs env S):=by
 cases h:okL j M env with
 | false=>rfl
 | true =>
  simp only[okL,Bool.and_eq_true,decide_eq_true_eq]at h
  rw[aBc,aRv K O i k M n fs env S j x h.1 h.2]
theorem aRw (w:Nat)(a v:aE):op1 K O (.store w a v) i k M n fs env S=opE K O (wI w env S (opv K n env M a) (opv K n env M v)) i k M n fs:=kZ K O i k M n fs env S rfl (by simp)
theorem aL0 (kk:KK)(m y x:aE):op1 K O (.update kk m y x) i k M n fs env S=opE K O (fJ (.update kk m y x) (opv K n env M) (cP M n) env S) i k M n fs:=kZ K O i k M n fs env S rfl (by simp)
theorem aRx (str:Bool)(x:aE):op1 K O (.range str x) i k M n fs env S=opE K O (aFz str env S (opv K n env M x)) i k M n fs:=kZ K O i k M n fs env S rfl (by simp)
theorem bJn (x:aE):op1 K O (.nextS x) i k M n fs env S=opE K O (bKt env S (opv K n env M x)) i k M n fs:=kZ K O i k M n fs env S rfl (by simp)
theorem aL1 (mu:Bool)(es bytes el:Nat)(s x:aE):op1 K O (.append mu es bytes el s x) i k M n fs env S=opS K O (bI mu es bytes el S (opv K n env M s) (opv K n env M x)) i k M n fs env:=by
 rw[kZ K O i k M n fs env S rfl (by simp),←aIi]; rfl
theorem bKv (es:Nat)(d s:aE):op1 K O (.copy es d s) i k M n fs env S=opS K O (aE4 es S (opv K n env M d) (opv K n env M s)) i k M n fs env:=by
 rw[kZ K O i k M n fs env S rfl (by simp),←aIi]; rfl
def cpV (S:aA)(args:List TV)(v:Option TV):Out (TV×aA) :=
 match v with
 | none => .fail ""
 | some v =>
  if args.any rO&&!(iK v) then
   match dR S args with
   | some S=>.ret (v,S)
   | none => .fail ""
  else .ret (v,S)
def cpR (S:aA)(args:List TV)(x:Out (TV×aA)):Out (TV×aA):=(er x).bind fun r=>cpV S args (resolve r.2 r.1)
def cpA (S:aA)(args:List TV)(f:Nat)(ags:Option (List TV)):Out (TV×aA) :=
 match ags with
 | none => .fail ""
 | some ags=>cpR S args (O.call f ags [])
@[congr] theorem cpV_congr (args:List TV) {v v':Option TV} (h:v=v'):cpV S args v=cpV S args v':=by rw[h]
@[congr] theorem cpR_congr (args:List TV) {v v':Out (TV×aA)} (h:v=v'):cpR S args v=cpR S args v':=by rw[h]
@[congr] theorem cpA_congr (args:List TV) (f:Nat) {v v':Option (List TV)} (h:v=v'):cpA O S args f v=cpA O S args f v':=by rw[h]
theorem aYh (args ags:List TV)(f:Nat):cpA O S args f (some ags)=cpR S args (O.call f ags []):=id rfl
theorem bE5 (args:List TV)(v:TV)(S':aA):cpR S args (.ret (v,S'))=cpV S args (resolve S' v):=id rfl
def cpB (c:Bool)(S:aA)(args:List TV)(v:TV):Out (TV×aA) :=
 if c then match dR S args with
   | some S=>.ret (v,S)
   | none => .fail ""
  else .ret (v,S)
@[congr] theorem cpB_congr {c c':Bool} (h:c=c') (args:List TV) (v:TV):cpB c S args v=cpB c' S args v:=by rw[h]
theorem aYi (args:List TV)(v:TV):cpV S args (some v)=cpB (args.any rO&&!(iK v)) S args v:=id rfl
theorem aRy (args:List TV)(v:TV):cpB false S args v=.ret (v,S):=id rfl
def bE6 (v:TV)(x:Option aA):Out (TV×aA):=match x with
 | some S=>.ret (v,S)
 | none => .fail ""
theorem aRz (v:TV):bE6 v (some S)=.ret (v,S):=id rfl
theorem aYj (args:List TV)(v:TV):cpB true S args v=bE6 v (dR S args):=by
 simp only[cpB,↓reduceIte,bE6]
theorem xU (f:Nat)(args:List TV):er (eI O f args S)=cpA O S args f (dG S args):=by
 unfold eI cpA
 cases dG S args with
 | none=>rfl
 | some ags =>
  simp only[cpR,fF]
  refine Out.bind_congr fun r=>?_
  cases resolve r.2 r.1 with
  | none=>rfl
  | some v =>
   simp only[cpV]
   split
   ·cases dR S args<;>rfl
   ·rfl
theorem aBd (x:Out (TV×aA)):er (x.bind fun r=>fZ K O k ((i,r.1)::M) n fs env r.2)=opC K O (er x) i k M n fs env:=by
 rw[fF]
 simp only[opC,iP]
theorem aR0 (t:Bool)(f:Nat)(args:List aE):op1 K O (.call true t f args) i k M n fs env S=opC K O (cpA O S (args.map (opv K n env M)) f (dG S (args.map (opv K n env M)))) i k M n fs env:=by
 rw[←xU,←aBd]
 simp only[op1,bQ,Out.bind_assoc,Out.bind,↓reduceIte]
 rfl
def csR (t:Bool)(S:aA)(x:Out (TV×aA)):Out (TV×aA):=(er x).bind fun r =>
 if t then match pO S.length r.1 r.2 with
  | some S'=>.ret (r.1,S')
  | none => .fail ""
 else .ret r
def csA (t : Bool) (S : aA) (f : Nat) (lp : Bool) (args : List TV) : Out (TV × aA) := if lp then .fail "" else csR t S (O.call f args S)
@[congr] theorem csR_congr (t:Bool) {v v':Out (TV×aA)} (h:v=v'):csR t S v=csR t S v':=by rw[h]
theorem bI2 (t:Bool)(f:Nat)(args:List TV):csA O t S f false args=csR t S (O.call f args S):=id rfl
theorem bKw (v:TV)(S':aA):csR false S (.ret (v,S'))=.ret (v,S'):=id rfl
def trV (v:TV)(x:Option aA):Out (TV×aA):=match x with
 | some S'=>.ret (v,S')
 | none => .fail ""
theorem bKx (v:TV):trV v (some S)=.ret (v,S):=id rfl
theorem bMk (v:TV)(S':aA):csR true S (.ret (v,S'))=trV v (pO S.length v S'):=by
 simp only[csR,er,Out.bind,↓reduceIte,trV]
theorem aD2 (t:Bool)(f:Nat)(args:List TV):er (iD O t f args S)=csA O t S f (args.any cZ) args:=by
 unfold iD csA
 split
 ·rfl
 ·simp only[csR,fF]
  refine Out.bind_congr fun r=>?_
  cases t
  ·rfl
  ·simp only[↓reduceIte]
   cases pO S.length r.1 r.2<;>rfl
theorem aR1 (t:Bool)(f:Nat)(args:List aE):op1 K O (.call false t f args) i k M n fs env S=opC K O (csA O t S f ((args.map (opv K n env M)).any cZ) (args.map (opv K n env M))) i k M n fs env:=by
 rw[←aD2,←aBd]
 simp only[op1,bQ,Out.bind_assoc,Out.bind,Bool.false_eq_true,↓reduceIte]
 rfl
def prV (S:aA)(p:Option aB6)(args:List TV):Option (TV×aA):=match p with
 | some p=>if args.any cZ then none else p args S
 | none=>none
theorem aYk (f:Nat)(args:List aE):op1 K O (.prim f args) i k M n fs env S=opS K O (prV S (K.prim f) (args.map (opv K n env M))) i k M n fs env:=by
 simp only[op1,bQ]
 show er (Out.bind (match K.prim f with | some p => if (args.map (opv K n env M)).any cZ = true then .fail "prim: a local's address" else Out.bind (Out.ofOpt "prim" (p (args.map (opv K n env M)) S)) fun r => .ret (r.1, env, r.2) | none => .fail "prim") _) = _
 cases K.prim f with
 | none=>rfl
 | some p =>
  simp only[prV]
  split
  ·rfl
  ·cases p (args.map (opv K n env M)) S with
   | none=>rfl
   | some q=>simp only[Out.ofOpt,Out.bind,opS,iP]
def fin (rs:List lZ)(x:Out (aU×Env×aA)):Out (TV×aA) :=
 x.bind fun r=>match r.1 with
  | .exit _ => .fail ""
  | _=>match kW rs r.2.1 r.2.2 with
   | some v=>.ret (v,r.2.2)
   | none => .fail ""
@[congr] theorem fin_congr (rs:List lZ) {x x':Out (aU×Env×aA)} (h:x=x'):fin rs x=fin rs x':=by rw[h]
def aR2 (S:aA)(v:Option TV):Out (TV×aA):=match v with
 | some v=>.ret (v,S)
 | none => .fail ""
theorem aR3 (v:TV):aR2 S (some v)=.ret (v,S):=id rfl
theorem bE7 (rs:List lZ):fin rs (.ret (.ret,env,S))=aR2 S (kW rs env S):=by
 simp only[fin,Out.bind,aR2]
theorem aL2 (rs:List lZ):fin rs (.ret (.normal,env,S))=aR2 S (kW rs env S):=by
 simp only[fin,Out.bind,aR2]
theorem bLo (rs:List lZ)(B:Bool)(x y:Out (aU×Env×aA)):fin rs (br B x y)=br B (fin rs x) (fin rs y):=by cases B<;>rfl
theorem mY (f:Nat)(args:List TV)(fn:aR)(hf:K.funcs f=some fn)(ha:args.length=fn.nparams):er (dW K O f args S)=fin fn.results (go K O fn.body [] (args++List.replicate (fn.nlocs-fn.nparams) undef) S):=by
 simp only[dW,hf,ha,ne_eq,not_true_eq_false,↓reduceIte,go,fin]
 rw[fF]
 have e:(eK K O fn.body (args++List.replicate (fn.nlocs-fn.nparams) undef) S).bind (fun r=>back K O [] r.1 r.2.1 r.2.2)=eK K O fn.body (args++List.replicate (fn.nlocs-fn.nparams) undef) S:=by
  cases eK K O fn.body (args++List.replicate (fn.nlocs-fn.nparams) undef) S with
  | ret a=>rfl
  | fail s=>rfl
  | pick n k=>simp only[Out.bind]; congr; funext i; exact bind_back (k i)
 rw[e]
 refine Out.bind_congr fun r=>?_
 obtain⟨j,e,S'⟩:=r
 cases j with
 | exit i=>rfl
 | _=>simp only; cases kW fn.results e S'<;>rfl
where
 bind_back:∀x:Out (aU×Env×aA),(x.bind fun r=>back K O [] r.1 r.2.1 r.2.2)=x
  | .ret a=>rfl
  | .fail s=>rfl
  | .pick n k=>by simp only[Out.bind]; congr; funext i; exact bind_back (k i)
theorem aYl {f:Nat}{args:List TV}{fn:aR}{r:TV×aA}(hf:K.funcs f=some fn)(ha:args.length=fn.nparams)(h:fin fn.results (go K (lim K) fn.body [] (args++List.replicate (fn.nlocs-fn.nparams) undef) S)=.ret r):(lim K).call f args S=.ret r :=
 aXc (aXf ((mY K (lim K) S f args fn hf ha).trans h))
theorem aYm {f:Nat}{args:List TV}{fn:aR}{Q:TV×aA→Prop}(hf:K.funcs f=some fn)(ha:args.length=fn.nparams)(h:(fin fn.results (go K (lim K) fn.body [] (args++List.replicate (fn.nlocs-fn.nparams) undef) S)).All Q):((lim K).call f args S).All Q :=
 aFs (aLm (by rw[mY K (lim K) S f args fn hf ha]; exact h))
def rnd (b:aJ)(x:Out (aU×Env×aA)):Out (aU×Env×aA) :=
 x.bind fun r=>match r.1 with
  | .normal=>er (lp O b r.2.1 r.2.2)
  | j=>.ret (j,r.2.1,r.2.2)
@[congr] theorem rnd_congr (b:aJ) {x x':Out (aU×Env×aA)} (h:x=x'):rnd O b x=rnd O b x':=by rw[h]
theorem aL3 (b:aJ):rnd O b (.ret (.normal,env,S))=er (lp O b env S):=id rfl
theorem bE8 (b:aJ):rnd O b (.ret (.ret,env,S))=.ret (.ret,env,S):=id rfl
theorem aYn (b:aJ)(id:Nat):rnd O b (.ret (.exit id,env,S))=.ret (.exit id,env,S):=by simp only[rnd,Out.bind]
theorem bLp (b:aJ)(B:Bool)(x y:Out (aU×Env×aA)):rnd O b (br B x y)=br B (rnd O b x) (rnd O b y):=by cases B<;>rfl
theorem aYo {b:aJ}{r:aU×Env×aA}(h:rnd (lim K) b (go K (lim K) b [] env S)=.ret r):lp (lim K) b env S=.ret r:=by
 refine aXd (aXf ?_)
 rw[←h]
 simp only[iN,rnd,go]
 rw[fF]
 have e:=mY.bind_back K (lim K) (eK K (lim K) b env S)
 rw[e]
 refine Out.bind_congr fun r=>?_
 obtain⟨j,e,S'⟩:=r
 cases j<;>rfl
end
end Go.TM
namespace Go.TM
section
variable (K:aW)(O:Orc)(i:Nat)(k:Kt)(M:List (Nat×TV))(n:Nat)(fs:List Fr)(env:Env)(S:aA)
def flM (o:TOp):Option TV:=gQ K o env (cP M n) S
theorem jO {o:TOp}(h:bT o=0):flM K M n env S o=aQ o (opv K n env M):=by
 have r:∀e,aM o e env S=none:=by intro e; cases o<;>first|rfl|simp[bT]at h
 simp only[flM,gQ,r]
 show (match aQ o (opv K n env M) with|some v=>some v|none=>none)=_
 cases aQ o (opv K n env M)<;>rfl
theorem aIp {o:TOp}(h:bT o=1):flM K M n env S o=aM o (opv K n env M) env S:=by
 have p:∀e,aQ o e=none:=by intro e; cases o<;>first|rfl|simp[bT]at h
 simp only[flM,gQ,p]
 rfl
theorem yV (c:CK)(hc:c≠.bytesStr)(x:aE):flM K M n env S (.conv c x)=ivO (cN c (opv K n env M x)):=by
 have r:aM (.conv c x) (opv K n env M) env S=none:=by cases c<;>first|rfl|exact absurd rfl hc
 show (match ((cN c (opv K n env M x)).map TV.iv) with|some v=>some v|none=>aM (.conv c x) (opv K n env M) env S)=_
 rw[r]
 cases cN c (opv K n env M x)<;>rfl
theorem bGs (x:aE):flM K M n env S (.conv .bytesStr x)=bsV (cG S (opv K n env M x)):=by
 have hc:cN .bytesStr (opv K n env M x)=none:=by
  unfold cN
  cases opv K n env M x with
  | iv v=>cases v<;>rfl
  | _=>rfl
 show (match ((cN .bytesStr (opv K n env M x)).map TV.iv) with|some v=>some v|none=>aM (.conv .bytesStr x) (opv K n env M) env S)=_
 rw[hc]; rfl
theorem bLq (z:List IV)(len:Nat)(ps:List (Nat×aE)):flM K M n env S (.lit false z len ps)=aYa (dJ (List.replicate len (z.map .iv)) z.length (opv K n env M) ps):=by
 have r:aM (.lit false z len ps) (opv K n env M) env S=none:=rfl
 show (match aYa (dJ (List.replicate len (z.map .iv)) z.length (opv K n env M) ps) with|some v=>some v|none=>none)=_
 cases aYa (dJ (List.replicate len (z.map .iv)) z.length (opv K n env M) ps)<;>rfl
def bKy (c a b:TV):Option TV:=match vQ c with
  | some t=>some (if t then a else b)
  | none=>none
theorem bLd (c a b:aE):flM K M n env S (.pick c a b)=bKy (opv K n env M c) (opv K n env M a) (opv K n env M b):=jO K M n env S (id rfl)
theorem bLr (x:aE):flM K M n env S (.mov x)=some (opv K n env M x):=jO K M n env S (id rfl)
theorem bKz (z:List IV)(ps:List (Nat×Nat×aE)):flM K M n env S (.build z ps)=(fill (z.map .iv) (opv K n env M) ps).map oV:=jO K M n env S (id rfl)
theorem bGt (x:aE):flM K M n env S (.nilCheck x)=bEq (opv K n env M x):=jO K M n env S (id rfl)
theorem bLs (op:BinOp)(x y:aE):flM K M n env S (.bin op x y)=ivO (binOp op (opv K n env M x) (opv K n env M y)):=jO K M n env S (id rfl)
theorem bLt (neg:Bool)(ek:EK)(x y:aE):flM K M n env S (.eqB neg ek x y)=eqV neg (eqB ek (opv K n env M x) (opv K n env M y)):=jO K M n env S (id rfl)
theorem bK0 (neg:Bool)(offs:List (Nat×LK))(x y:aE):flM K M n env S (.eqAgg neg offs x y)=ivO (eqAgg neg offs (opv K n env M x) (opv K n env M y)):=jO K M n env S (id rfl)
theorem bMl (op:UnOp)(x:aE):flM K M n env S (.un op x)=ivO (unOp op (opv K n env M x)):=jO K M n env S (id rfl)
theorem bLe (f:Nat)(a b:List aE):flM K M n env S (.mkFn f a b)=aPi f (a.map (opv K n env M)) (b.map (opv K n env M)):=jO K M n env S (id rfl)
theorem bE9 (off:Nat)(x:aE):flM K M n env S (.fieldAddr off x)=fS (opv K n env M x) off:=jO K M n env S (id rfl)
theorem bK1 (off w:Nat)(ag:Bool)(x:aE):flM K M n env S (.field off w ag x)=mH ag (aRh off w (fX (opv K n env M x))):=by
 rw[jO K M n env S rfl]
 simp only[aQ]
 cases fX (opv K n env M x) with
 | none=>rfl
 | some l=>simp only[aRh,mH]; cases sub l off w<;>rfl
theorem bBk (es:Nat)(x y:aE):flM K M n env S (.indexAddrS es x y)=ixS es (opv K n env M x) (opv K n env M y):=jO K M n env S (id rfl)
theorem bBl (len es:Nat)(x y:aE):flM K M n env S (.indexAddrA len es x y)=ixA len es (opv K n env M x) (opv K n env M y):=jO K M n env S (id rfl)
theorem bJo (x y:aE):flM K M n env S (.indexS x y)=bGr (opv K n env M x) (opv K n env M y):=jO K M n env S (id rfl)
theorem bI3 (j:Nat)(x:aE):flM K M n env S (.extract j x)=xtr j (opv K n env M x):=jO K M n env S (id rfl)
theorem bLu (x:aE):flM K M n env S (.cap x)=aX6 (zO (opv K n env M x)):=jO K M n env S (id rfl)
theorem bLf (m:Nat):flM K M n env S (.lenC m)=some (.iv (.int .i64 m)):=jO K M n env S (id rfl)
theorem bJp (mx:Bool)(xs:List aE):flM K M n env S (.minmax mx xs)=mmV mx (xs.map (opv K n env M)):=jO K M n env S (id rfl)
theorem aYp (a:aE):flM K M n env S (.load1 a)=mH false (bO env S (opv K n env M a) 1):=aIp K M n env S (id rfl)
theorem aYq (w:Nat)(a:aE):flM K M n env S (.loadN w a)=mH true (bO env S (opv K n env M a) w):=aIp K M n env S (id rfl)
theorem bK2 (sk:SK)(x:aE)(lo hi mx:Option aE):flM K M n env S (.slice sk x lo hi mx)=slV S sk (opv K n env M x) (oI (lo.map (opv K n env M))) (oI (hi.map (opv K n env M))) (oI (mx.map (opv K n env M))):=by
 rw[aIp K M n env S rfl]
 simp only[aM,slV]
 cases lo<;>cases hi<;>cases mx<;>rfl
theorem bLv (nk:NK)(x:aE):flM K M n env S (.len nk x)=aIg nk S (opv K n env M x):=aIp K M n env S (id rfl)
theorem bK3 (kd:IntKind)(x:aE):flM K M n env S (.conv (.toInt kd) x)=ivO (cN (.toInt kd) (opv K n env M x)):=yV K M n env S _ (by simp) x
theorem bJq (x:aE):flM K M n env S (.conv .intStr x)=ivO (cN .intStr (opv K n env M x)):=yV K M n env S _ (by simp) x
theorem bJr (x:aE):flM K M n env S (.conv .strStr x)=ivO (cN .strStr (opv K n env M x)):=yV K M n env S _ (by simp) x
theorem bGu (x:aE):flM K M n env S (.conv .strBytes x)=ivO (cN .strBytes (opv K n env M x)):=yV K M n env S _ (by simp) x
mutual
theorem xV:∀(a:IV),fI a a=true
 | .bool b=>by simp[fI]
 | .int k n=>by simp[fI]
 | .str s=>by simp[fI]
 | .sl t l=>by simp[fI,sC l]
 | .agg l=>by simp[fI,lP l]
 | .cp l=>by simp[fI,lP l]
 | .nilp=>rfl
 | .nilm=>rfl
 | .nilf=>rfl
 | .nili=>rfl
theorem lP:∀(l:List IV),kD l l=true
 | []=>rfl
 | a::l=>by simp[kD,xV a,lP l]
theorem sC:∀(l:List (List IV)),jD l l=true
 | []=>rfl
 | a::l=>by simp[jD,lP a,sC l]
end
theorem bFa (a:IV):same (.iv a) (.iv a)=true:=xV a
theorem aYr (a b c d e f:Nat):same (.msl a b c d e f) (.msl a b c d e f)=true:=by simp[same,aHc]
def rck (ops:List aI)(M:List (Nat×TV))(n:Nat)(env:Env)(S:aA)(c:List Nat):Bool:=lJ K ops (cP M n) env S c
def rcS (v:Option TV)(w:TV):Bool:=match v with
 | some v=>same v w
 | none=>false
theorem aYs (v w:TV):rcS (some v) w=same v w:=id rfl
def rcG (g:TV)(want:Bool)(j:Nat)(M:List (Nat×TV))(n:Nat)(env:Env)(S:aA)(o:TOp):Bool:=match g with
 | .iv (.bool b)=>if b==want then rcS (flM K M n env S o) (opv K n env M (.reg j)) else true
 | .tup []=>true
 | _=>false
theorem aR4 (want:Bool)(j:Nat)(o:TOp):rcG K (.tup []) want j M n env S o=true:=id rfl
theorem aYt (b want:Bool)(j:Nat)(o:TOp):rcG K (.iv (.bool b)) want j M n env S o=if b==want then rcS (flM K M n env S o) (opv K n env M (.reg j)) else true:=id rfl
def rcO (x:Option aI)(j:Nat)(M:List (Nat×TV))(n:Nat)(env:Env)(S:aA):Bool:=match x with
 | some ⟨o,_,none⟩=>rcS (flM K M n env S o) (opv K n env M (.reg j))
 | some ⟨o,_,some (g,want)⟩=>rcG K (opv K n env M (.reg g)) want j M n env S o
 | none=>false
theorem aYu (o:TOp)(l:Option Nat)(j:Nat):rcO K (some ⟨o,l,none⟩) j M n env S=rcS (flM K M n env S o) (opv K n env M (.reg j)):=id rfl
theorem aR5 (o:TOp)(l:Option Nat)(g:Nat)(want:Bool)(j:Nat):rcO K (some ⟨o,l,some (g,want)⟩) j M n env S=rcG K (opv K n env M (.reg g)) want j M n env S o:=id rfl
theorem bFb (ops:List aI):rck K ops M n env S []=true:=id rfl
theorem aYv (ops:List aI)(j:Nat)(c:List Nat):rck K ops M n env S (j::c)=(rcO K (wG ops j) j M n env S&&rck K ops M n env S c):=by
 simp only[rck,lJ,wG]
 congr 1
 cases ops[j]? with
 | none=>rfl
 | some x =>
  obtain⟨o,l,g⟩:=x
  cases g with
  | none =>
   simp only[dD,rcO]
   show (match flM K M n env S o with|some v=>same v (opv K n env M (.reg j))|none=>false)=_
   cases flM K M n env S o<;>rfl
  | some q =>
   obtain⟨g,want⟩:=q
   simp only[dD,rcO]
   show (match (match opv K n env M (.reg g) with | .iv (.bool b)=>some (b==want) | .tup []=>some false|_=>none) with|some true=>(match flM K M n env S o with|some v=>same v (opv K n env M (.reg j))|none=>false)|some false=>true|none=>false)=_
   unfold rcG
   cases opv K n env M (.reg g) with
   | iv v =>
    cases v with
    | bool b =>
     simp only
     cases b==want
     ·rfl
     ·simp only[↓reduceIte]
      cases flM K M n env S o<;>rfl
    | _=>rfl
   | tup vs=>cases vs<;>rfl
   | _=>rfl
theorem aYw (ops:List aI)(ps:List (Nat×List Nat×List Nat))(c fl:List Nat):fZ K O (.ph ops c fl ps) M n fs env S=chk K O (rck K ops M n env S c) ops fl ps M n fs env S:=id rfl
end
end Go.TM
namespace Go.TM
attribute [go_sem] bD7 aXg bD8 bD9 aXh aXi aXj aXk bEa bEb aXl
attribute [go_sem] aRe aRf okL aIm rJ
attribute [go_sem] bEp aX4 aX5 bKs aLs aLt aLu aRi bEr aPh bEs bEt aX7 bEu aX8 aX9 aRj aYb aIh
attribute [go_sem] aRt
theorem go_region (K:aW)(O:Orc)(ops:List aI)(fs:List Fr)(env:Env)(S:aA):go K O (.region ops) fs env S=rgN K O (yE ops 0) ops fs env S:=by
 rw[go_region0,aXw,aFw]; rfl
def aYx (K:aW)(O:Orc)(n:Nat)(f0:List Nat)(ph:List (Nat×List Nat×List Nat))(ops:List aI)(fs:List Fr)(env:Env)(S:aA):Out (aU×Env×aA):=fls K O ops f0 ph [] n fs env S
@[congr] theorem flsN_congr (K:aW) (O:Orc) {n n':Nat} (h:n=n') (f0:List Nat) (ph:List (Nat×List Nat×List Nat)) (ops:List aI) (fs:List Fr) (env:Env) (S:aA):aYx K O n f0 ph ops fs env S=aYx K O n' f0 ph ops fs env S:=by rw[h]
theorem aPj (K:aW)(O:Orc)(n:Nat)(f0:List Nat)(ph:List (Nat×List Nat×List Nat))(ops:List aI)(fs:List Fr)(env:Env)(S:aA):aYx K O n f0 ph ops fs env S=fls K O ops f0 ph [] n fs env S:=id rfl
theorem go_draw (K:aW)(O:Orc)(f0:List Nat)(ph:List (Nat×List Nat×List Nat))(ops:List aI)(fs:List Fr)(env:Env)(S:aA):go K O (.draw f0 ph ops) fs env S=aYx K O (yE ops 0) f0 ph ops fs env S:=by
 rw[go_draw0,aPj,aFw]; rfl
theorem aYy (n:Nat):yE [] n=n:=id rfl
theorem aR6 (a:aI)(l:List aI)(n:Nat):yE (a::l) n=yE l (n+1):=id rfl
@[congr] theorem lenT_congr (l:List aI) {n n':Nat} (h:n=n'):yE l n=yE l n':=by rw[h]
theorem aR7 (a:TV)(l:List TV)(d:TV):List.getD (a::l) 0 d=a:=id rfl
theorem aR8 (a:TV)(l:List TV)(j:Nat)(d:TV):List.getD (a::l) (j+1) d=List.getD l j d:=by simp[List.getD]
attribute [go_sem] aR7 aR8 List.map_cons List.map_nil List.getElem?_cons_zero List.getElem?_cons_succ Option.map_some Option.map_none
theorem bFc (v:IV):cZ (.iv v)=false:=id rfl
theorem aYz (a b c:Nat):cZ (.ptr a b c)=false:=id rfl
theorem aY0 (a b c d e f:Nat):cZ (.msl a b c d e f)=false:=id rfl
theorem aY1 (a:Nat)(l:List (List IV)):cZ (.tsl a l)=false:=id rfl
theorem aY2 (a:Nat):cZ (.map a)=false:=id rfl
theorem bFd (f:Nat)(a b:List TV):cZ (.fn f a b)=false:=id rfl
theorem aY3 (v:IV):rO (.iv v)=false:=id rfl
theorem aR9 (a b c d e f:Nat):rO (.msl a b c d e f)=true:=id rfl
theorem aIq (v:IV):iK (.iv v)=iO v:=id rfl
theorem aF1 (b:Bool):iO (.bool b)=true:=id rfl
theorem aIr (k:IntKind)(m:Int):iO (.int k m)=true:=id rfl
theorem aL4 (a:Tag)(l:List (List IV)):iO (.sl a l)=false:=id rfl
theorem aCj (S:aA):dG S []=some []:=id rfl
def aD3 {α:Type}:Option α→Option (List α)→Option (List α)
 | some a,some l=>some (a::l)
 | _,_=>none
theorem aBe {α:Type}(a:α)(l:List α):aD3 (some a) (some l)=some (a::l):=id rfl
theorem aBf (S:aA)(v:TV)(r:List TV):dG S (v::r)=aD3 (mA S v) (dG S r):=by rw[dG]; cases mA S v<;>cases dG S r<;>rfl
theorem aIs (S:aA)(v:IV):mA S (.iv v)=some (.iv v):=id rfl
theorem bFe (S:aA)(v:IV):aHb S (.iv v)=some v:=id rfl
def slO (x:Option (List (List IV))):Option IV:=match x with
 | some l=>some (.sl .no l)
 | none=>none
theorem aY4 (l:List (List IV)):slO (some l)=some (.sl .no l):=id rfl
theorem aY5 (S:aA)(a b c d e f:Nat):aHb S (.msl a b c d e f)=slO (cG S (.msl a b c d e f)):=id rfl
theorem aY6 (S:aA):zP S []=some []:=id rfl
theorem aSa (S:aA)(v:TV)(r:List TV):zP S (v::r)=aD3 (aHb S v) (zP S r):=by rw[zP]; cases aHb S v<;>cases zP S r<;>rfl
theorem bFf (S:aA)(v:IV):zQ S (.iv v)=some v:=id rfl
theorem aY7 (S:aA)(c:List TV):zQ S (.agg c)=(zP S c).map .agg:=id rfl
theorem aSb (S:aA):oW S []=some []:=id rfl
def ivC:Option IV→Option (List TV)→Option (List TV)
 | some a,some l=>some (.iv a::l)
 | _,_=>none
theorem aY8 (a:IV)(l:List TV):ivC (some a) (some l)=some (.iv a::l):=id rfl
theorem aL5 (S:aA)(v:TV)(r:List TV):oW S (v::r)=ivC (zQ S v) (oW S r):=id rfl
theorem mZ (S:aA)(c:List TV):resolve S (.tup c)=(oW S c).map .tup:=id rfl
theorem mI (S:aA)(v:IV):resolve S (.iv v)=some (.iv v):=id rfl
def aL6:TV→Option TV
 | .lb _=>none
 | .lp ..=>none
 | v=>some v
theorem bFg (v:IV):aL6 (.iv v)=some (.iv v):=id rfl
theorem aY9 (a b c:Nat):aL6 (.ptr a b c)=some (.ptr a b c):=id rfl
theorem aZa (a b c d e f:Nat):aL6 (.msl a b c d e f)=some (.msl a b c d e f):=id rfl
theorem aZb (a:Nat)(l:List (List IV)):aL6 (.tsl a l)=some (.tsl a l):=id rfl
theorem bFh (f:Nat)(a b:List TV):aL6 (.fn f a b)=some (.fn f a b):=id rfl
theorem aF2 (env:Env)(S:aA)(j:Nat):iL env S (.loc j)=aL6 (env.getD j .hole):=by simp only[iL]; cases env.getD j .hole<;>rfl
theorem aCk (env:Env)(S:aA)(j m:Nat)(ag:Bool):iL env S (.cell j m ag)=mH ag (bO env S (wE j (env.getD j .hole)) m):=by simp only[iL,aS]; cases env.getD j .hole<;>rfl
theorem aCl (env:Env)(S:aA):eP env S []=some []:=id rfl
theorem aBg (env:Env)(S:aA)(r:lZ)(rs:List lZ):eP env S (r::rs)=aD3 (iL env S r) (eP env S rs):=by rw[eP]; cases iL env S r<;>cases eP env S rs<;>rfl
def bFi:Option (List TV)→Option TV
 | some [v]=>some v
 | some vs=>some (.tup vs)
 | none=>none
theorem aZc (v:TV):bFi (some [v])=some v:=id rfl
theorem aZd (v w:TV)(l:List TV):bFi (some (v::w::l))=some (.tup (v::w::l)):=id rfl
theorem aZe:bFi (some [])=some (.tup []):=id rfl
theorem aSc (rs:List lZ)(env:Env)(S:aA):kW rs env S=bFi (eP env S rs):=by simp only[kW]; cases eP env S rs with|none=>rfl|some l=>cases l with|nil=>rfl|cons a r=>cases r<;>rfl
theorem aSd (k:IntKind)(a b:Int):TM.binOp .add (.iv (.int k a)) (.iv (.int k b))=some (.int k (k.wrap (a+b))):=by simp[TM.binOp,iJ]
theorem aD4 (k:IntKind)(a b:Int):TM.binOp .sub (.iv (.int k a)) (.iv (.int k b))=some (.int k (k.wrap (a-b))):=by simp[TM.binOp,iJ]
theorem aD5 (k:IntKind)(a b:Int):TM.binOp .mul (.iv (.int k a)) (.iv (.int k b))=some (.int k (k.wrap (a*b))):=by simp[TM.binOp,iJ]
theorem aSe (k:IntKind)(a b:Int):TM.binOp .quo (.iv (.int k a)) (.iv (.int k b))=if b=0 then none else some (.int k (k.wrap (a.tdiv b))):=by simp[TM.binOp,iJ]
theorem aSf (k:IntKind)(a b:Int):TM.binOp .rem (.iv (.int k a)) (.iv (.int k b))=if b=0 then none else some (.int k (a.tmod b)):=by simp[TM.binOp,iJ]
theorem aSg (k:IntKind)(a b:Int):TM.binOp .eql (.iv (.int k a)) (.iv (.int k b))=some (.bool (a==b)):=by simp[TM.binOp,iJ]
theorem aSh (k:IntKind)(a b:Int):TM.binOp .neq (.iv (.int k a)) (.iv (.int k b))=some (.bool (a != b)):=by simp[TM.binOp,iJ]
theorem aSi (k:IntKind)(a b:Int):TM.binOp .lss (.iv (.int k a)) (.iv (.int k b))=some (.bool (decide (a<b))):=by simp[TM.binOp,iJ]
theorem aSj (k:IntKind)(a b:Int):TM.binOp .leq (.iv (.int k a)) (.iv (.int k b))=some (.bool (decide (a≤b))):=by simp[TM.binOp,iJ]
theorem aSk (k:IntKind)(a b:Int):TM.binOp .gtr (.iv (.int k a)) (.iv (.int k b))=some (.bool (decide (b<a))):=by simp[TM.binOp,iJ]
theorem aSl (k:IntKind)(a b:Int):TM.binOp .geq (.iv (.int k a)) (.iv (.int k b))=some (.bool (decide (b≤a))):=by simp[TM.binOp,iJ]
def bK4 (w:Nat)(a b:Int):Int:=((BitVec.ofInt w a &&& BitVec.ofInt w b).toNat:Nat)
def bOr (w:Nat)(a b:Int):Int:=((BitVec.ofInt w a ||| BitVec.ofInt w b).toNat:Nat)
def yW (w:Nat)(a b:Int):Int:=((BitVec.ofInt w a &&& ~~~ BitVec.ofInt w b).toNat:Nat)
theorem rG (k:IntKind)(a b:Int):TM.binOp .and (.iv (.int k a)) (.iv (.int k b))=some (.int k (k.wrap (bK4 k.bits a b))):=by simp[TM.binOp,iJ,bK4]
theorem aZf (k:IntKind)(a b:Int):TM.binOp .or (.iv (.int k a)) (.iv (.int k b))=some (.int k (k.wrap (bOr k.bits a b))):=by simp[TM.binOp,iJ,bOr]
theorem aF3 (k:IntKind)(a b:Int):TM.binOp .andNot (.iv (.int k a)) (.iv (.int k b))=some (.int k (k.wrap (yW k.bits a b))):=by simp[TM.binOp,iJ,yW]
theorem aD6 (k k':IntKind)(a b:Int):TM.binOp .shl (.iv (.int k a)) (.iv (.int k' b))=if b<0 then none else some (.int k (k.wrap (a*2 ^ (if b.toNat≤k.bits then b.toNat else k.bits)))):=by simp[TM.binOp,tP,Nat.min_def]
theorem wJ (k k':IntKind)(a b:Int):TM.binOp .shr (.iv (.int k a)) (.iv (.int k' b))=if b<0 then none else some (.int k (a.fdiv (2 ^ (if b.toNat≤k.bits then b.toNat else k.bits)))):=by simp[TM.binOp,tP,Nat.min_def]
theorem aIt (k:IntKind)(a:Int):TM.unOp .neg (.iv (.int k a))=some (.int k (k.wrap (0-a))):=id rfl
theorem aZg (b:Bool):TM.unOp .not (.iv (.bool b))=some (.bool (!b)):=id rfl
theorem aF4 (k k':IntKind)(a:Int):cN (.toInt k) (.iv (.int k' a))=some (.int k (k.wrap a)):=id rfl
theorem aZh (o:TOp):floats o=(bT o==0||bT o==1||bT o==2||bT o==4||bT o==6):=id rfl
attribute [go_sem] bFc aYz aY0 aY1 aY2 bFd
attribute [go_sem] aY3 aR9 aIq
attribute [go_sem] aF1 aIr aL4 aCj aBe aBf
attribute [go_sem] aIs bFe aY4 aY5 aY6 aSa bFf aY7
attribute [go_sem] aSb aY8 aL5 mZ mI bFg aY9 aZa aZb
attribute [go_sem] bFh aF2 aCk aCl aBg
attribute [go_sem] aZc aZd aZe aSc aSd aD4 aD5 aSe aSf aSg aSh aSi
attribute [go_sem] aSj aSk aSl rG aZf aF3 aD6 wJ
attribute [go_sem] aIt aZg aF4
attribute [go_sem] aZh
theorem bLw (b:Bool):(b==true)=b:=by cases b<;>rfl
theorem bLx (b:Bool):(b==false)=!b:=by cases b<;>rfl
theorem aF5 (b:Bool):cellsOf (.iv (.bool b))=[.iv (.bool b)]:=id rfl
theorem aIu (b:Bool):bG (.iv (.bool b))=false:=id rfl
theorem aIv (k:IntKind)(m:Int):cellsOf (.iv (.int k m))=[.iv (.int k m)]:=id rfl
theorem aL7 (k:IntKind)(m:Int):bG (.iv (.int k m))=false:=id rfl
theorem aL8 (a:Tag)(l:List (List IV)):cellsOf (.iv (.sl a l))=[.iv (.sl a l)]:=id rfl
theorem aSm (a:Tag)(l:List (List IV)):bG (.iv (.sl a l))=false:=id rfl
theorem aF6 (l:List IV):cellsOf (.iv (.agg l))=l.map .iv:=id rfl
theorem aIw (a b c:Nat):cellsOf (.ptr a b c)=[.ptr a b c]:=id rfl
theorem aL9 (a b c:Nat):bG (.ptr a b c)=false:=id rfl
theorem aIx (a b c d e f:Nat):cellsOf (.msl a b c d e f)=[.msl a b c d e f]:=id rfl
theorem aMa (a b c d e f:Nat):bG (.msl a b c d e f)=false:=id rfl
theorem aMb (a b c d e f:Nat):kV (.msl a b c d e f)=.msl a b c d e f:=id rfl
theorem aMc (a:Nat)(l:List (List IV)):bG (.tsl a l)=false:=id rfl
theorem aIy (a:Nat):cellsOf (.map a)=[.map a]:=id rfl
theorem aMd (a:Nat):bG (.map a)=false:=id rfl
theorem aMe (a:Nat):kV (.map a)=.map a:=id rfl
theorem aIz (l:List TV):cellsOf (.agg l)=l:=id rfl
theorem aSn (v:IV):kV (.iv v)=.iv v:=id rfl
theorem aBh (v:TV)(r:List TV):toIVs (v::r)=aD3 (mR v) (toIVs r):=by rw[toIVs]; cases mR v<;>cases toIVs r<;>rfl
theorem aI0 (v:IV):mR (.iv v)=some v:=id rfl
def aZi (vs:List TV)(es:List (List TV))(n i:Nat)(e:aE→TV)(r:List (Nat×aE)):Option (List (List TV)) :=
 if vs.length=n∧i<es.length∧vs.any bG=false then dJ (es.set i vs) n e r else none
theorem aI1 (es:List (List TV))(n i:Nat)(e:aE→TV)(x:aE)(r:List (Nat×aE)):dJ es n e ((i,x)::r)=aZi (cellsOf (kV (e x))) es n i e r:=id rfl
theorem aMf (es:List (List TV))(n:Nat)(e:aE→TV):dJ es n e []=some es:=id rfl
theorem aSo (vs:List TV)(es:List (List TV))(n i:Nat)(e:aE→TV)(r:List (Nat×aE)):aZi vs es n i e r=if vs.length=n∧i<es.length∧vs.any bG=false then dJ (es.set i vs) n e r else none:=id rfl
def bGv (vs:List TV)(cs:List TV)(off n:Nat)(e:aE→TV)(r:List (Nat×Nat×aE)):Option (List TV) :=
 if vs.length=n∧off+n≤cs.length∧vs.any bG=false then fill (put cs off vs) e r else none
theorem aSp (cs:List TV)(off n:Nat)(e:aE→TV)(x:aE)(r:List (Nat×Nat×aE)):fill cs e ((off,n,x)::r)=bGv (cellsOf (kV (e x))) cs off n e r:=id rfl
theorem aZj (cs:List TV)(e:aE→TV):fill cs e []=some cs:=id rfl
theorem aZk (vs:List TV)(cs:List TV)(off n:Nat)(e:aE→TV)(r:List (Nat×Nat×aE)):bGv vs cs off n e r=if vs.length=n∧off+n≤cs.length∧vs.any bG=false then fill (put cs off vs) e r else none:=id rfl
def mkG (x:Option (List IV))(cs:List TV):TV:=match x with
 | some l=>.iv (.agg l)
 | none=>.agg cs
theorem aZl (cs:List TV):oV cs=mkG (kH cs) cs:=by simp only[oV]; cases kH cs<;>rfl
theorem aZm (l:List IV)(cs:List TV):mkG (some l) cs=.iv (.agg l):=id rfl
theorem aZn (cs:List TV):mkG none cs=.agg cs:=id rfl
def aZo (v:IV)(x:Option (List IV)):Option (List IV):=x.map (v::·)
theorem aMg (v:IV)(l:List IV):aZo v (some l)=some (v::l):=id rfl
theorem aMh (v:IV):aZo v none=none:=id rfl
theorem aMi (v:IV)(r:List TV):kH (.iv v::r)=aZo v (kH r):=id rfl
theorem aSq:kH []=some []:=id rfl
theorem aMj:iR []=some []:=id rfl
theorem aI2 (c:List TV)(r:List (List TV)):iR (c::r)=aD3 (kH c) (iR r):=by rw[iR]; cases kH c<;>cases iR r<;>rfl
theorem aSr {α:Type}(a:α)(l:List α)(v:α):List.set (a::l) 0 v=v::l:=id rfl
theorem aSs {α:Type}(a:α)(l:List α)(j:Nat)(v:α):List.set (a::l) (j+1) v=a::List.set l j v:=id rfl
theorem bI4 {α:Type}(cs:List α)(off n:Nat):sub cs off n=if off+n≤cs.length then some ((cs.drop off).take n) else none:=id rfl
theorem bI5 {α:Type}(cs:List α)(off:Nat)(vs:List α):put cs off vs=cs.take off++vs++cs.drop (off+vs.length):=id rfl
theorem aI3 (l:List IV):fX (.iv (.agg l))=some (l.map .iv):=id rfl
theorem aSt (a b c d e f:Nat)(r:List TV):kH (.msl a b c d e f::r)=none:=id rfl
theorem aSu (a:Nat)(l:List (List IV))(r:List TV):kH (.tsl a l::r)=none:=id rfl
theorem aD7 (a:Nat)(r:List TV):kH (.map a::r)=none:=id rfl
attribute [go_sem] aF5 aIu aIv aL7 aL8 aSm
attribute [go_sem] aF6 aIw aL9 aIx aMa
attribute [go_sem] aMb aMc aIy aMd aMe
attribute [go_sem] aIz aSn
attribute [go_sem] aBh aI0
attribute [go_sem] aI1 aMf aSo aSp aZj aZk aZl aZm aZn aMg
attribute [go_sem] aMh aMi aSq aD7 aMj aI2 aSr aSs bI4 bI5 aI3
attribute [go_sem] List.length_cons List.length_nil List.take_succ_cons List.drop_succ_cons List.take_zero List.drop_zero List.take_nil List.drop_nil and_self and_true true_and
attribute [go_sem] aSt aSu aD7
def aMk (w:Nat)(env:Env)(S:aA)(a:TV)(vs:List TV):Option (TV×Env×aA):=if vs.length=w then aA9 (setCells env S a vs) else none
theorem aZp (w:Nat)(env:Env)(S:aA)(a v:TV):wI w env S a v=aMk w env S a (cellsOf v):=by
 unfold aMk
 split
 ·rename_i h; exact aRk env S w a v h
 ·rename_i h; simp only[wI,h,↓reduceIte]
theorem aSv (w:Nat)(env:Env)(S:aA)(a:TV)(vs:List TV):aMk w env S a vs=if vs.length=w then aA9 (setCells env S a vs) else none:=id rfl
def lbK (off n:Nat):TV→Option (List TV)
 | .lb cs=>sub cs off n
 | _=>none
theorem bI6 (off n:Nat)(cs:List TV):lbK off n (.lb cs)=sub cs off n:=id rfl
theorem aI4 (env:Env)(S:aA)(j off n:Nat):bO env S (.lp j off) n=lbK off n (env.getD j .hole):=by
 simp only[bO,List.getD]
 cases env[j]? with
 | none=>rfl
 | some v=>cases v<;>rfl
def blK (v off n:Nat):Option aG→Option (List TV)
 | some (.cells v' _ cs)=>if v'=v then sub cs off n else none
 | some (.frz v' cs)=>if v'=v then (sub cs off n).map (·.map .iv) else none
 | _=>none
theorem aSw (v off n v':Nat)(l:Bool)(cs:List TV):blK v off n (some (.cells v' l cs))=if v'=v then sub cs off n else none:=id rfl
theorem aF7 (env:Env)(S:aA)(i v off n:Nat):bO env S (.ptr i v off) n=blK v off n (S[i]?):=by
 simp only[bO]
 cases S[i]? with
 | none=>rfl
 | some b=>cases b<;>rfl
def bGw (env:Env)(S:aA)(j off:Nat)(vs:List TV):TV→Option (Env×aA)
 | .lb cs=>if off+vs.length≤cs.length then some (env.set j (.lb (put cs off vs)),S) else none
 | _=>none
theorem aZq (env:Env)(S:aA)(j off:Nat)(vs cs:List TV):bGw env S j off vs (.lb cs)=if off+vs.length≤cs.length then some (env.set j (.lb (put cs off vs)),S) else none:=id rfl
theorem aI5 (env:Env)(S:aA)(j off:Nat)(vs:List TV):setCells env S (.lp j off) vs=if vs.any bG then none else bGw env S j off vs (env.getD j .hole):=by
 simp only[setCells,List.getD]
 split
 ·rfl
 ·cases env[j]? with
  | none=>rfl
  | some v=>cases v<;>rfl
def bGx (env:Env)(S:aA)(i v off:Nat)(vs:List TV):Option aG→Option (Env×aA)
 | some (.cells v' l cs)=>if v'=v∧off+vs.length≤cs.length then some (env,S.set i (.cells v' l (put cs off vs))) else none
 | _=>none
theorem aI6 (env:Env)(S:aA)(i v off:Nat)(vs:List TV)(v':Nat)(l:Bool)(cs:List TV):bGx env S i v off vs (some (.cells v' l cs))=if v'=v∧off+vs.length≤cs.length then some (env,S.set i (.cells v' l (put cs off vs))) else none:=id rfl
theorem aF8 (env:Env)(S:aA)(i v off:Nat)(vs:List TV):setCells env S (.ptr i v off) vs=if vs.any bG then none else bGx env S i v off vs (S[i]?):=by
 simp only[setCells]
 split
 ·rfl
 ·cases S[i]? with
  | none=>rfl
  | some b=>cases b<;>rfl
theorem aSx (j off n:Nat):fS (.lp j off) n=some (.lp j (off+n)):=id rfl
theorem aMl (i v off n:Nat):fS (.ptr i v off) n=some (.ptr i v (off+n)):=id rfl
theorem bK5:(false=true)=False:=by simp
attribute [go_sem] aZp aSv bI6 aI4 aSw aF7 aZq aI5 aI6 aF8 aSx aMl bK5
attribute [go_sem] bFa aYr
attribute [go_sem] aYs
attribute [go_sem] eq_self bLw bLx List.any_cons List.any_nil List.all_cons List.all_nil TM.undef bT Bool.true_and Bool.and_true Bool.false_and Bool.and_false Bool.or_false Bool.false_or Bool.true_or Bool.or_true Bool.not_true Bool.not_false ite_true ite_false
end Go.TM
namespace Go.TM
@[reducible] def TT {β:Type} (α:Type) (a:β):Type:=α
def br' {α:Type}(B:Bool)(x y:Out α):TT (Out α) (x,y):=br B x y
def bk' (K:aW)(O:Orc)(fs:List Fr)(j:aU)(e:Env)(S:aA):TT (Out (aU×Env×aA)) (fs,j,e,S):=bk K O fs j e S
def go' (K:aW)(O:Orc)(c:aJ)(fs:List Fr)(e:Env)(S:aA):TT (Out (aU×Env×aA)) (c,fs,e,S):=go K O c fs e S
def bR (K:aW)(n:Nat)(env:Env)(M:List (Nat×TV))(x:aE):TT (TV) (n,env,M,x):=opv K n env M x
def rK (K:aW)(O:Orc)(ops:List aI)(i:Nat)(M:List (Nat×TV))(n:Nat)(fs:List Fr)(env:Env)(S:aA):TT (Out (aU×Env×aA)) (ops,M,n,fs,S):=wbk K O ops i M n fs env S
def aSy (K:aW)(O:Orc)(all ops:List aI)(i:Nat)(M:List (Nat×TV))(n:Nat)(fs:List Fr)(env:Env)(S:aA):TT (Out (aU×Env×aA)) (all,ops,M,n,fs,env,S):=rgR K O all ops i M n fs env S
def bFj (K:aW)(O:Orc)(ops:List aI)(ps:List (Nat×List Nat×List Nat))(M:List (Nat×TV))(n:Nat)(fs:List Fr)(env:Env)(S:aA):TT (Out (aU×Env×aA)) (ops,ps,M,n,fs,env,S):=phs K O ops ps M n fs env S
def aI7 (K:aW)(O:Orc)(ops:List aI)(is:List Nat)(ps:List (Nat×List Nat×List Nat))(M:List (Nat×TV))(n:Nat)(fs:List Fr)(env:Env)(S:aA):TT (Out (aU×Env×aA)) (ops,is,ps,M,n,fs,env,S):=fls K O ops is ps M n fs env S
def bI7 (K:aW)(O:Orc)(c:Bool)(ops:List aI)(is:List Nat)(ps:List (Nat×List Nat×List Nat))(M:List (Nat×TV))(n:Nat)(fs:List Fr)(env:Env)(S:aA):TT (Out (aU×Env×aA)) (ops,is,ps,M,n,fs,env,S):=chk K O c ops is ps M n fs env S
def nS (K:aW)(O:Orc)(k:Kt)(M:List (Nat×TV))(n:Nat)(fs:List Fr)(env:Env)(S:aA):TT (Out (aU×Env×aA)) (k,M,n,fs,env,S):=fZ K O k M n fs env S
def dK (K:aW)(O:Orc)(o:TOp)(i:Nat)(k:Kt)(M:List (Nat×TV))(n:Nat)(fs:List Fr)(env:Env)(S:aA):TT (Out (aU×Env×aA)) (o,i,k,M,n,fs,env,S):=op1 K O o i k M n fs env S
def aSz (K:aW)(O:Orc)(g:TV)(want:Bool)(j:Nat)(o:TOp)(i:Nat)(k:Kt)(M:List (Nat×TV))(n:Nat)(fs:List Fr)(env:Env)(S:aA):TT (Out (aU×Env×aA)) (want,j,o,i,k,M,n,fs,env,S):=opG K O g want j o i k M n fs env S
def lR (K:aW)(O:Orc)(v:Option TV)(i:Nat)(k:Kt)(M:List (Nat×TV))(n:Nat)(fs:List Fr)(env:Env)(S:aA):TT (Out (aU×Env×aA)) (i,k,M,n,fs,env,S):=opV K O v i k M n fs env S
def aZr (K:aW)(O:Orc)(v:Option (TV×aG))(i:Nat)(k:Kt)(M:List (Nat×TV))(n:Nat)(fs:List Fr)(env:Env)(S:aA):TT (Out (aU×Env×aA)) (i,k,M,n,fs,env,S):=opA K O v i k M n fs env S
def aMm (K:aW)(O:Orc)(v:Option (TV×aA))(i:Nat)(k:Kt)(M:List (Nat×TV))(n:Nat)(fs:List Fr)(env:Env):TT (Out (aU×Env×aA)) (i,k,M,n,fs,env):=opS K O v i k M n fs env
def sX (K:aW)(O:Orc)(v:Option (TV×Env×aA))(i:Nat)(k:Kt)(M:List (Nat×TV))(n:Nat)(fs:List Fr):TT (Out (aU×Env×aA)) (i,k,M,n,fs):=opE K O v i k M n fs
def gM (K:aW)(O:Orc)(x:Out (TV×aA))(i:Nat)(k:Kt)(M:List (Nat×TV))(n:Nat)(fs:List Fr)(env:Env):TT (Out (aU×Env×aA)) (i,k,M,n,fs,env):=opC K O x i k M n fs env
def bI8 (K:aW)(O:Orc)(c a b:TV)(i:Nat)(k:Kt)(M:List (Nat×TV))(n:Nat)(fs:List Fr)(env:Env)(S:aA):TT (Out (aU×Env×aA)) (i,k,M,n,fs,env,S):=opP K O c a b i k M n fs env S
def bI9 (K:aW)(O:Orc)(c:TV)(a b:aJ)(fs:List Fr)(env:Env)(S:aA):TT (Out (aU×Env×aA)) (a,b,fs,env,S):=goC K O c a b fs env S
def lp' (O:Orc)(b:aJ)(env:Env)(S:aA):TT (Out (aU×Env×aA)) (b,env,S):=lp O b env S
def aMn (K:aW)(O:Orc)(x:Out (aU×Env×aA))(fs:List Fr):TT (Out (aU×Env×aA)) (fs):=goL K O x fs
def bJa (K:aW)(O:Orc)(n:Nat)(ops:List aI)(fs:List Fr)(env:Env)(S:aA):TT (Out (aU×Env×aA)) (ops,fs,env,S):=rgN K O n ops fs env S
def aD8 (l:List aI)(n:Nat):TT Nat l:=yE l n
def bFk (c:Bool)(x y:Out (aU×Env×aA)):TT (Out (aU×Env×aA)) (x,y):=flB c x y
def bFl (K:aW)(O:Orc)(o:Option aI)(i:Nat)(ops:List aI)(is:List Nat)(ps:List (Nat×List Nat×List Nat))(M:List (Nat×TV))(n:Nat)(fs:List Fr)(env:Env)(S:aA):TT (Out (aU×Env×aA)) (i,ops,is,ps,M,n,fs,env,S):=flO K O o i ops is ps M n fs env S
def bFm (K:aW)(O:Orc)(o:Option aI)(i:Nat)(ops:List aI)(c fl:List Nat)(ps:List (Nat×List Nat×List Nat))(M:List (Nat×TV))(n:Nat)(fs:List Fr)(env:Env)(S:aA):TT (Out (aU×Env×aA)) (i,ops,c,fl,ps,M,n,fs,env,S):=phO K O o i ops c fl ps M n fs env S
def aBi (K:aW)(O:Orc)(v:TV)(j:Nat)(ops:List aI)(i:Nat)(M:List (Nat×TV))(n:Nat)(fs:List Fr)(env:Env)(S:aA):TT (Out (aU×Env×aA)) (j,ops,i,M,n,fs,env,S):=wbV K O v j ops i M n fs env S
def aZs (K:aW)(O:Orc)(w:Nat)(x:Option (List (List IV)))(es:Option (List (List TV)))(i:Nat)(k:Kt)(M:List (Nat×TV))(n:Nat)(fs:List Fr)(env:Env)(S:aA):TT (Out (aU×Env×aA)) (w,i,k,M,n,fs,env,S):=aIk K O w x es i k M n fs env S
def bFn (c:Bool)(x y:Out (aU×Env×aA)):TT (Out (aU×Env×aA)) (x,y):=alB c x y
def aI8 (S:aA)(args:List TV)(v:Option TV):TT (Out (TV×aA)) (S,args):=cpV S args v
def aI9 (S:aA)(args:List TV)(x:Out (TV×aA)):TT (Out (TV×aA)) (S,args):=cpR S args x
def aS0 (O:Orc)(S:aA)(args:List TV)(f:Nat)(ags:Option (List TV)):TT (Out (TV×aA)) (S,args,f):=cpA O S args f ags
def bFo (c:Bool)(S:aA)(args:List TV)(v:TV):TT (Out (TV×aA)) (S,args,v):=cpB c S args v
def aZt (v:TV)(x:Option aA):TT (Out (TV×aA)) (v):=bE6 v x
def aJa (t:Bool)(S:aA)(x:Out (TV×aA)):TT (Out (TV×aA)) (t,S):=csR t S x
def aS1 (O:Orc)(t:Bool)(S:aA)(f:Nat)(lp:Bool)(args:List TV):TT (Out (TV×aA)) (t,S,f):=csA O t S f lp args
def lC (rs:List lZ)(x:Out (aU×Env×aA)):TT (Out (TV×aA)) (rs):=fin rs x
def aPk (S:aA)(v:Option TV):TT (Out (TV×aA)) (S):=aR2 S v
def nT (O:Orc)(b:aJ)(x:Out (aU×Env×aA)):TT (Out (aU×Env×aA)) (b):=rnd O b x
def aMo (K:aW)(M:List (Nat×TV))(n:Nat)(env:Env)(S:aA)(o:TOp):TT (Option TV) (M,n,env,S,o):=flM K M n env S o
def aZu (K:aW)(ops:List aI)(M:List (Nat×TV))(n:Nat)(env:Env)(S:aA)(c:List Nat):TT (Bool) (ops,M,n,env,S,c):=rck K ops M n env S c
def bFp (K:aW)(g:TV)(want:Bool)(j:Nat)(M:List (Nat×TV))(n:Nat)(env:Env)(S:aA)(o:TOp):TT (Bool) (want,j,M,n,env,S,o):=rcG K g want j M n env S o
def bFq (K:aW)(x:Option aI)(j:Nat)(M:List (Nat×TV))(n:Nat)(env:Env)(S:aA):TT (Bool) (j,M,n,env,S):=rcO K x j M n env S
def aZv (K:aW)(O:Orc)(n:Nat)(f0:List Nat)(ph:List (Nat×List Nat×List Nat))(ops:List aI)(fs:List Fr)(env:Env)(S:aA):TT (Out (aU×Env×aA)) (f0,ph,ops,fs,env,S):=aYx K O n f0 ph ops fs env S
section
variable (K:aW)(O:Orc)(ops:List aI)(is:List Nat)(ps:List (Nat×List Nat×List Nat))(i:Nat)(k:Kt)(M:List (Nat×TV))(n:Nat)(fs:List Fr)(env:Env)(S:aA)
theorem aZw {α:Type}(x y:Out α):br' true x y=x:=_root_.id (aFu ..)
theorem aS2 {α:Type}(x y:Out α):br' false x y=y:=_root_.id (aA5 ..)
theorem aZx (n:Nat)(env:Env)(M:List (Nat×TV))(j:Nat):bR K n env M (.reg j)=if j<n then reg M j else .hole:=_root_.id (aFv ..)
theorem aZy (n:Nat)(env:Env)(M:List (Nat×TV))(j:Nat):bR K n env M (.loc j)=wE j (env.getD j .hole):=_root_.id (bEc ..)
theorem aZz (n:Nat)(env:Env)(M:List (Nat×TV))(v:IV):bR K n env M (.cst v)=.iv v:=_root_.id (bEd ..)
theorem bFr (n:Nat)(env:Env)(M:List (Nat×TV))(f:Nat):bR K n env M (.fn f)=.fn f [] []:=_root_.id (bIq ..)
theorem aS3 (n:Nat)(env:Env)(M:List (Nat×TV))(g:Nat):bR K n env M (.glob g)=aXm (K.glob g):=_root_.id (aXn ..)
theorem aS4 (v:TV):lR K O (some v) i k M n fs env S=nS K O k ((i,v)::M) n fs env S:=_root_.id (aXo ..)
theorem aS5 (v:TV)(b:aG):aZr K O (some (v,b)) i k M n fs env S=aMm K O (some (v,S++[b])) i k M n fs env:=_root_.id (aXp ..)
theorem aS6 (v:TV):aMm K O (some (v,S)) i k M n fs env=nS K O k ((i,v)::M) n fs env S:=_root_.id (aXq ..)
theorem aS7 (v:TV):sX K O (some (v,env,S)) i k M n fs=nS K O k ((i,v)::M) n fs env S:=_root_.id (aXr ..)
theorem aZ0 (v:TV):gM K O (.ret (v,S)) i k M n fs env=nS K O k ((i,v)::M) n fs env S:=_root_.id (bEe ..)
theorem aS8 (t:Bool)(a b:TV):bI8 K O (.iv (.bool t)) a b i k M n fs env S=br' t (nS K O k ((i,a)::M) n fs env S) (nS K O k ((i,b)::M) n fs env S):=_root_.id (aXs ..)
theorem aS9 (b want:Bool)(j:Nat)(o:TOp):aSz K O (.iv (.bool b)) want j o i k M n fs env S=br' (b==want) (dK K O o i k ((j,.iv (.bool want))::M) n fs env S) (nS K O k ((i,undef)::(j,.iv (.bool (!want)))::M) n fs env S):=_root_.id (aXt ..)
theorem aMp (want:Bool)(j:Nat)(o:TOp):aSz K O (.tup []) want j o i k M n fs env S=nS K O k ((i,undef)::M) n fs env S:=_root_.id (aRc ..)
theorem aTa:bI7 K O true ops is ps M n fs env S=aI7 K O ops is ps M n fs env S:=_root_.id (aXu ..)
theorem bFs (j:aU):bk' K O [] j env S=.ret (j,env,S):=_root_.id (bIr ..)
theorem bFt (b:aJ):bk' K O (.seq b::fs) .normal env S=go' K O b fs env S:=_root_.id (bIs ..)
theorem aJb (b:aJ):bk' K O (.seq b::fs) .ret env S=bk' K O fs .ret env S:=_root_.id (aLp ..)
theorem aF9 (b:aJ)(id:Nat):bk' K O (.seq b::fs) (.exit id) env S=bk' K O fs (.exit id) env S:=_root_.id (aIc ..)
theorem bFu (id:Nat):bk' K O (.blk id::fs) .normal env S=bk' K O fs .normal env S:=_root_.id (bIt ..)
theorem aJc (id:Nat):bk' K O (.blk id::fs) .ret env S=bk' K O fs .ret env S:=_root_.id (aLq ..)
theorem aGa (id id':Nat):bk' K O (.blk id::fs) (.exit id') env S=if id'=id then bk' K O fs .normal env S else bk' K O fs (.exit id') env S:=_root_.id (aId ..)
theorem go_skip':go' K O .skip fs env S=bk' K O fs .normal env S:=_root_.id (go_skip ..)
theorem go_ret':go' K O .ret fs env S=bk' K O fs .ret env S:=_root_.id (go_ret ..)
theorem go_exit' (id:Nat):go' K O (.exit id) fs env S=bk' K O fs (.exit id) env S:=_root_.id (go_exit ..)
theorem go_seq' (a b:aJ):go' K O (.seq a b) fs env S=go' K O a (.seq b::fs) env S:=_root_.id (go_seq ..)
theorem go_block' (id:Nat)(b:aJ):go' K O (.block id b) fs env S=go' K O b (.blk id::fs) env S:=_root_.id (go_block ..)
theorem aTb (t:Bool)(a b:aJ):bI9 K O (.iv (.bool t)) a b fs env S=br' t (go' K O a fs env S) (go' K O b fs env S):=_root_.id (aXv ..)
theorem go_cond' (c:aE)(a b:aJ):go' K O (.cond c a b) fs env S=bI9 K O (bR K 0 env [] c) a b fs env S:=_root_.id (go_cond ..)
theorem aZ1 (j:aU):aMn K O (.ret (j,env,S)) fs=bk' K O fs j env S:=_root_.id (bEf ..)
theorem go_loop' (b:aJ):go' K O (.loop b) fs env S=aMn K O (lp' O b env S) fs:=_root_.id (go_loop ..)
theorem bFv:bJa K O n ops fs env S=aSy K O ops ops 0 [] n fs env S:=_root_.id (aXw ..)
theorem aZ2 (all:List aI):nS K O (.rg all ops i) M n fs env S=aSy K O all ops (i+1) M n fs env S:=_root_.id (bEg ..)
theorem aZ3:nS K O (.fl ops is ps) M n fs env S=aI7 K O ops is ps M n fs env S:=_root_.id (aPf ..)
theorem aZ4 (all:List aI):aSy K O all [] i M n fs env S=rK K O all 0 M n fs env S:=_root_.id (bEh ..)
theorem aTc (all:List aI)(o:TOp)(l:Option Nat):aSy K O all (⟨o,l,none⟩::ops) i M n fs env S=dK K O o i (.rg all ops i) M n fs env S:=_root_.id (aXx ..)
theorem aMq (all:List aI)(o:TOp)(l:Option Nat)(j:Nat)(want:Bool):aSy K O all (⟨o,l,some (j,want)⟩::ops) i M n fs env S=aSz K O (bR K n env M (.reg j)) want j o i (.rg all ops i) M n fs env S:=_root_.id (aRd ..)
theorem aTd (x y:Out (aU×Env×aA)):bFk true x y=x:=_root_.id (aA7 ..)
theorem aTe (o:TOp)(l:Option Nat):bFl K O (some ⟨o,l,none⟩) i ops is ps M n fs env S=bFk (floats o) (dK K O o i (.fl ops is ps) M n fs env S) (aI7 K O ops (i::is) ps M n fs env S):=_root_.id (aIe ..)
theorem aMr (o:TOp)(l:Option Nat)(j:Nat)(want:Bool):bFl K O (some ⟨o,l,some (j,want)⟩) i ops is ps M n fs env S=bFk (floats o) (aSz K O (bR K n env M (.reg j)) want j o i (.fl ops is ps) M n fs env S) (aI7 K O ops (i::is) ps M n fs env S):=_root_.id (aDz ..)
theorem aZ5:aI7 K O ops [] ps M n fs env S=bFj K O ops ps M n fs env S:=_root_.id (bEi ..)
theorem aTf:aI7 K O ops (i::is) ps M n fs env S=bFl K O (wG ops i) i ops is ps M n fs env S:=_root_.id (aXz ..)
theorem aZ6:bFj K O ops [] M n fs env S=rK K O ops 0 M n fs env S:=_root_.id (bEj ..)
theorem aTg (c fl:List Nat)(o:TOp)(l:Option Nat):bFm K O (some ⟨o,l,none⟩) i ops c fl ps M n fs env S=dK K O o i (.ph ops c fl ps) M n fs env S:=_root_.id (aIf ..)
theorem aMs (c fl:List Nat)(o:TOp)(l:Option Nat)(j:Nat)(want:Bool):bFm K O (some ⟨o,l,some (j,want)⟩) i ops c fl ps M n fs env S=aSz K O (bR K n env M (.reg j)) want j o i (.ph ops c fl ps) M n fs env S:=_root_.id (aD0 ..)
theorem aTh (c fl:List Nat):bFj K O ops ((i,c,fl)::ps) M n fs env S=bFm K O (wG ops i) i ops c fl ps M n fs env S:=_root_.id (aX0 ..)
theorem aZ7:rK K O [] i M n fs env S=bk' K O fs .normal env S:=_root_.id (bEk ..)
theorem aTi (o:TOp)(g:Option (Nat×Bool)):rK K O (⟨o,none,g⟩::ops) i M n fs env S=rK K O ops (i+1) M n fs env S:=_root_.id (aX1 ..)
theorem aTj (o:TOp)(j:Nat)(g:Option (Nat×Bool)):rK K O (⟨o,some j,g⟩::ops) i M n fs env S=aBi K O (bR K n env M (.reg i)) j ops i M n fs env S:=_root_.id (aX2 ..)
theorem aPl (v:IV)(j:Nat):aBi K O (.iv v) j ops i M n fs env S=rK K O ops (i+1) M n fs (env.set j (.iv v)) S:=_root_.id (bIu ..)
theorem aZ8 (a b c:Nat)(j:Nat):aBi K O (.ptr a b c) j ops i M n fs env S=rK K O ops (i+1) M n fs (env.set j (.ptr a b c)) S:=_root_.id (bEl ..)
theorem aZ9 (a b c d e f:Nat)(j:Nat):aBi K O (.msl a b c d e f) j ops i M n fs env S=rK K O ops (i+1) M n fs (env.set j (.msl a b c d e f)) S:=_root_.id (bEm ..)
theorem aJd (a:Nat)(l:List (List IV))(j:Nat):aBi K O (.tsl a l) j ops i M n fs env S=rK K O ops (i+1) M n fs (env.set j (.tsl a l)) S:=_root_.id (bEn ..)
theorem bAa (a:Nat)(j:Nat):aBi K O (.map a) j ops i M n fs env S=rK K O ops (i+1) M n fs (env.set j (.map a)) S:=_root_.id (bEo ..)
theorem bFw (a:Nat)(j:Nat):aBi K O (.it a) j ops i M n fs env S=rK K O ops (i+1) M n fs (env.set j (.it a)) S:=_root_.id (bIv ..)
theorem bFx (f:Nat)(a b:List TV)(j:Nat):aBi K O (.fn f a b) j ops i M n fs env S=rK K O ops (i+1) M n fs (env.set j (.fn f a b)) S:=_root_.id (bIw ..)
theorem aTk  (j:Nat):aBi K O (.hole) j ops i M n fs env S=rK K O ops (i+1) M n fs (env.set j (.hole)) S:=_root_.id (aX3 ..)
theorem bAb (x:aE):dK K O (.mov x) i k M n fs env S=lR K O (some (bR K n env M x)) i k M n fs env S:=_root_.id (bEw ..)
theorem aTl (c a b:aE):dK K O (.pick c a b) i k M n fs env S=bI8 K O (bR K n env M c) (bR K n env M a) (bR K n env M b) i k M n fs env S:=_root_.id (aYc ..)
theorem aMt (z:List IV)(ps:List (Nat×Nat×aE)):dK K O (.build z ps) i k M n fs env S=lR K O ((fill (z.map .iv) (bR K n env M) ps).map oV) i k M n fs env S:=_root_.id (aRl ..)
theorem aCm (x:aE):dK K O (.nilCheck x) i k M n fs env S=lR K O (bEq (bR K n env M x)) i k M n fs env S:=_root_.id (aF0 ..)
theorem bAc (op:BinOp)(x y:aE):dK K O (.bin op x y) i k M n fs env S=lR K O (ivO (binOp op (bR K n env M x) (bR K n env M y))) i k M n fs env S:=_root_.id (bEx ..)
theorem bAd (neg:Bool)(ek:EK)(x y:aE):dK K O (.eqB neg ek x y) i k M n fs env S=lR K O (eqV neg (eqB ek (bR K n env M x) (bR K n env M y))) i k M n fs env S:=_root_.id (bEy ..)
theorem aMu (neg:Bool)(offs:List (Nat×LK))(x y:aE):dK K O (.eqAgg neg offs x y) i k M n fs env S=lR K O (ivO (eqAgg neg offs (bR K n env M x) (bR K n env M y))) i k M n fs env S:=_root_.id (aRm ..)
theorem bFy (op:UnOp)(x:aE):dK K O (.un op x) i k M n fs env S=lR K O (ivO (unOp op (bR K n env M x))) i k M n fs env S:=_root_.id (bIx ..)
theorem aTm (f:Nat)(a b:List aE):dK K O (.mkFn f a b) i k M n fs env S=lR K O (aPi f (a.map (bR K n env M)) (b.map (bR K n env M))) i k M n fs env S:=_root_.id (aYd ..)
theorem aBj (off:Nat)(x:aE):dK K O (.fieldAddr off x) i k M n fs env S=lR K O (fS (bR K n env M x) off) i k M n fs env S:=_root_.id (aCi ..)
theorem aMv (off w:Nat)(ag:Bool)(x:aE):dK K O (.field off w ag x) i k M n fs env S=lR K O (mH ag (aRh off w (fX (bR K n env M x)))) i k M n fs env S:=_root_.id (aRn ..)
theorem yG (es:Nat)(x y:aE):dK K O (.indexAddrS es x y) i k M n fs env S=lR K O (ixS es (bR K n env M x) (bR K n env M y)) i k M n fs env S:=_root_.id (aBa ..)
theorem yH (len es:Nat)(x y:aE):dK K O (.indexAddrA len es x y) i k M n fs env S=lR K O (ixA len es (bR K n env M x) (bR K n env M y)) i k M n fs env S:=_root_.id (aBb ..)
theorem aGb (j:Nat)(x:aE):dK K O (.extract j x) i k M n fs env S=lR K O (xtr j (bR K n env M x)) i k M n fs env S:=_root_.id (aIj ..)
theorem bAe (x:aE):dK K O (.cap x) i k M n fs env S=lR K O (aX6 (zO (bR K n env M x))) i k M n fs env S:=_root_.id (bEz ..)
theorem aJe (mx:Bool)(xs:List aE):dK K O (.minmax mx xs) i k M n fs env S=lR K O (mmV mx (xs.map (bR K n env M))) i k M n fs env S:=_root_.id (aLv ..)
theorem aMw (a:aE):dK K O (.load1 a) i k M n fs env S=lR K O (mH false (bO env S (bR K n env M a) 1)) i k M n fs env S:=_root_.id (aRo ..)
theorem aMx (w:Nat)(a:aE):dK K O (.loadN w a) i k M n fs env S=lR K O (mH true (bO env S (bR K n env M a) w)) i k M n fs env S:=_root_.id (aRp ..)
theorem aMy (sk:SK)(x:aE)(lo hi mx:Option aE):dK K O (.slice sk x lo hi mx) i k M n fs env S=lR K O (slV S sk (bR K n env M x) (oI (lo.map (bR K n env M))) (oI (hi.map (bR K n env M))) (oI (mx.map (bR K n env M)))) i k M n fs env S:=_root_.id (aRq ..)
theorem aJf (kk:KK)(z:IV)(ok:Bool)(m y:aE):dK K O (.lookup kk z ok m y) i k M n fs env S=lR K O (aM (.lookup kk z ok m y) (bR K n env M) env S) i k M n fs env S:=_root_.id (aLw ..)
theorem aJg (x:aE):dK K O (.entryM x) i k M n fs env S=lR K O (aM (.entryM x) (bR K n env M) env S) i k M n fs env S:=_root_.id (aLx ..)
theorem bAf (nk:NK)(x:aE):dK K O (.len nk x) i k M n fs env S=lR K O (aIg nk S (bR K n env M x)) i k M n fs env S:=_root_.id (bE0 ..)
theorem aMz (kd:IntKind)(x:aE):dK K O (.conv (.toInt kd) x) i k M n fs env S=lR K O (ivO (cN (.toInt kd) (bR K n env M x))) i k M n fs env S:=_root_.id (aRr ..)
theorem aM0 (w:Nat)(l:List (List IV))(es:Option (List (List TV))):aZs K O w (some l) es i k M n fs env S=nS K O k ((i,.iv (.sl .full l))::M) n fs env S:=_root_.id (aRs ..)
theorem bAg (z:List IV)(len:Nat)(ps:List (Nat×aE)):dK K O (.lit false z len ps) i k M n fs env S=aZs K O z.length (bE3 (dJ (List.replicate len (z.map .iv)) z.length (bR K n env M) ps)) (dJ (List.replicate len (z.map .iv)) z.length (bR K n env M) ps) i k M n fs env S:=_root_.id (bE4 ..)
theorem aTn (z:List IV)(len:Nat)(ps:List (Nat×aE)):dK K O (.lit true z len ps) i k M n fs env S=aZr K O (aFy S.length z.length (dJ (List.replicate len (z.map .iv)) z.length (bR K n env M) ps)) i k M n fs env S:=_root_.id (aYe ..)
theorem aJh (t:Nat)(z:List IV):dK K O (.allocH t z) i k M n fs env S=aMm K O (some (.ptr S.length t 0,S++[.cells t false (z.map .iv)])) i k M n fs env:=_root_.id (aLy ..)
theorem aM1:dK K O .mkMap i k M n fs env S=aMm K O (some (.map S.length,S++[.mp [] 0])) i k M n fs env:=_root_.id (aRu ..)
theorem aGc (z:List IV)(bytes:Nat)(l c:aE):dK K O (.mkSlice z bytes l c) i k M n fs env S=aZr K O (mkV z bytes S.length (bR K n env M l) (bR K n env M c)) i k M n fs env S:=_root_.id (aIl ..)
theorem aTo (t:Nat)(x:aE):dK K O (.boxH t x) i k M n fs env S=aZr K O (bI1 t S.length (bR K n env M x)) i k M n fs env S:=_root_.id (aYf ..)
theorem aTp (x y:Out (aU×Env×aA)):bFn true x y=x:=_root_.id (aBc ..)
theorem aJi (j:Nat)(z:List IV):dK K O (.allocL j z) i k M n fs env S=bFn (okL j M env) (sX K O (some (.lp j 0,env.set j (.lb (z.map .iv)),S)) i k M n fs) (dK K O (.allocL j z) i k M n fs env S):=_root_.id (aLz ..)
theorem aTq (j:Nat)(x:aE):dK K O (.boxL j x) i k M n fs env S=bFn (okL j M env) (sX K O (if (cellsOf (bR K n env M x)).any bG then none else some (.lp j 0,env.set j (.lb (cellsOf (bR K n env M x))),S)) i k M n fs) (dK K O (.boxL j x) i k M n fs env S):=_root_.id (aYg ..)
theorem aM2 (w:Nat)(a v:aE):dK K O (.store w a v) i k M n fs env S=sX K O (wI w env S (bR K n env M a) (bR K n env M v)) i k M n fs:=_root_.id (aRw ..)
theorem aJj (kk:KK)(m y x:aE):dK K O (.update kk m y x) i k M n fs env S=sX K O (fJ (.update kk m y x) (bR K n env M) (cP M n) env S) i k M n fs:=_root_.id (aL0 ..)
theorem aM3 (str:Bool)(x:aE):dK K O (.range str x) i k M n fs env S=sX K O (aFz str env S (bR K n env M x)) i k M n fs:=_root_.id (aRx ..)
theorem aJk (mu:Bool)(es bytes el:Nat)(s x:aE):dK K O (.append mu es bytes el s x) i k M n fs env S=aMm K O (bI mu es bytes el S (bR K n env M s) (bR K n env M x)) i k M n fs env:=_root_.id (aL1 ..)
theorem aTr (args ags:List TV)(f:Nat):aS0 O S args f (some ags)=aI9 S args (O.call f ags []):=_root_.id (aYh ..)
theorem aJl (args:List TV)(v:TV)(S':aA):aI9 S args (.ret (v,S'))=aI8 S args (resolve S' v):=_root_.id (bE5 ..)
theorem aTs (args:List TV)(v:TV):aI8 S args (some v)=bFo (args.any rO&&!(iK v)) S args v:=_root_.id (aYi ..)
theorem aM4 (args:List TV)(v:TV):bFo false S args v=.ret (v,S):=_root_.id (aRy ..)
theorem aM5 (v:TV):aZt v (some S)=.ret (v,S):=_root_.id (aRz ..)
theorem aTt (args:List TV)(v:TV):bFo true S args v=aZt v (dR S args):=_root_.id (aYj ..)
theorem aM6 (t:Bool)(f:Nat)(args:List aE):dK K O (.call true t f args) i k M n fs env S=gM K O (aS0 O S (args.map (bR K n env M)) f (dG S (args.map (bR K n env M)))) i k M n fs env:=_root_.id (aR0 ..)
theorem bFz (t:Bool)(f:Nat)(args:List TV):aS1 O t S f false args=aJa t S (O.call f args S):=_root_.id (bI2 ..)
theorem bAh (v:TV)(S':aA):aJa false S (.ret (v,S'))=.ret (v,S'):=_root_.id (bKw ..)
theorem aM7 (t:Bool)(f:Nat)(args:List aE):dK K O (.call false t f args) i k M n fs env S=gM K O (aS1 O t S f ((args.map (bR K n env M)).any cZ) (args.map (bR K n env M))) i k M n fs env:=_root_.id (aR1 ..)
theorem aTu (f:Nat)(args:List aE):dK K O (.prim f args) i k M n fs env S=aMm K O (prV S (K.prim f) (args.map (bR K n env M))) i k M n fs env:=_root_.id (aYk ..)
theorem aM8 (v:TV):aPk S (some v)=.ret (v,S):=_root_.id (aR3 ..)
theorem bAi (rs:List lZ):lC rs (.ret (.ret,env,S))=aPk S (kW rs env S):=_root_.id (bE7 ..)
theorem aJm (rs:List lZ):lC rs (.ret (.normal,env,S))=aPk S (kW rs env S):=_root_.id (aL2 ..)
theorem aP {f:Nat}{args:List TV}{fn:aR}{r:TV×aA}(hf:K.funcs f=some fn)(ha:args.length=fn.nparams)(h:lC fn.results (go' K (lim K) fn.body [] (args++List.replicate (fn.nlocs-fn.nparams) undef) S)=.ret r):(lim K).call f args S=.ret r:=aYl K S hf ha h
theorem jY {f:Nat}{args:List TV}{fn:aR}{Q:TV×aA→Prop}(hf:K.funcs f=some fn)(ha:args.length=fn.nparams)(h:(lC fn.results (go' K (lim K) fn.body [] (args++List.replicate (fn.nlocs-fn.nparams) undef) S)).All Q):((lim K).call f args S).All Q:=aYm K S hf ha h
theorem aJn (b:aJ):nT O b (.ret (.normal,env,S))=er (lp' O b env S):=_root_.id (aL3 ..)
theorem bAj (b:aJ):nT O b (.ret (.ret,env,S))=.ret (.ret,env,S):=_root_.id (bE8 ..)
theorem aTv (b:aJ)(id:Nat):nT O b (.ret (.exit id,env,S))=.ret (.exit id,env,S):=_root_.id (aYn ..)
theorem aTw {b:aJ}{r:aU×Env×aA}(h:nT (lim K) b (go' K (lim K) b [] env S)=.ret r):lp' (lim K) b env S=.ret r:=aYo K env S h
theorem aTx (a:aE):aMo K M n env S (.load1 a)=mH false (bO env S (bR K n env M a) 1):=_root_.id (aYp ..)
theorem aTy (w:Nat)(a:aE):aMo K M n env S (.loadN w a)=mH true (bO env S (bR K n env M a) w):=_root_.id (aYq ..)
theorem aM9 (want:Bool)(j:Nat)(o:TOp):bFp K (.tup []) want j M n env S o=true:=_root_.id (aR4 ..)
theorem aTz (b want:Bool)(j:Nat)(o:TOp):bFp K (.iv (.bool b)) want j M n env S o=if b==want then rcS (aMo K M n env S o) (bR K n env M (.reg j)) else true:=_root_.id (aYt ..)
theorem aT0 (o:TOp)(l:Option Nat)(j:Nat):bFq K (some ⟨o,l,none⟩) j M n env S=rcS (aMo K M n env S o) (bR K n env M (.reg j)):=_root_.id (aYu ..)
theorem aNa (o:TOp)(l:Option Nat)(g:Nat)(want:Bool)(j:Nat):bFq K (some ⟨o,l,some (g,want)⟩) j M n env S=bFp K (bR K n env M (.reg g)) want j M n env S o:=_root_.id (aR5 ..)
theorem bAk (ops:List aI):aZu K ops M n env S []=true:=_root_.id (bFb ..)
theorem aT1 (ops:List aI)(j:Nat)(c:List Nat):aZu K ops M n env S (j::c)=(bFq K (wG ops j) j M n env S&&aZu K ops M n env S c):=_root_.id (aYv ..)
theorem aT2 (ops:List aI)(ps:List (Nat×List Nat×List Nat))(c fl:List Nat):nS K O (.ph ops c fl ps) M n fs env S=bI7 K O (aZu K ops M n env S c) ops fl ps M n fs env S:=_root_.id (aYw ..)
theorem go_region' (K:aW)(O:Orc)(ops:List aI)(fs:List Fr)(env:Env)(S:aA):go' K O (.region ops) fs env S=bJa K O (aD8 ops 0) ops fs env S:=_root_.id (go_region ..)
theorem bAl (K:aW)(O:Orc)(n:Nat)(f0:List Nat)(ph:List (Nat×List Nat×List Nat))(ops:List aI)(fs:List Fr)(env:Env)(S:aA):aZv K O n f0 ph ops fs env S=aI7 K O ops f0 ph [] n fs env S:=_root_.id (aPj ..)
theorem go_draw' (K:aW)(O:Orc)(f0:List Nat)(ph:List (Nat×List Nat×List Nat))(ops:List aI)(fs:List Fr)(env:Env)(S:aA):go' K O (.draw f0 ph ops) fs env S=aZv K O (aD8 ops 0) f0 ph ops fs env S:=_root_.id (go_draw ..)
theorem aT3 (n:Nat):aD8 [] n=n:=_root_.id (aYy ..)
theorem aNb (a:aI)(l:List aI)(n:Nat):aD8 (a::l) n=aD8 l (n+1):=_root_.id (aR6 ..)
attribute [go_sem] aZw aS2 aZx aZy aZz bFr aS3 aS4 aS5 aS6 aS7
attribute [go_sem] aZ0 aS8 aS9 aMp aTa bFs bFt aJb aF9 bFu aJc aGa
attribute [go_sem] go_skip' go_ret' go_exit' go_seq' go_block' aTb go_cond' aZ1 go_loop' bFv aZ2 aZ3
attribute [go_sem] aZ4 aTc aMq aTd aTe aMr aZ5 aTf aZ6 aTg aMs aTh
attribute [go_sem] aZ7 aTi aTj aPl aZ8 aZ9 aJd bAa bFw bFx
attribute [go_sem] aTk bAb aTl aMt aCm bAc bAd aMu bFy aTm
attribute [go_sem] aBj aMv yG yH aGb bAe aJe aMw aMx aMy
attribute [go_sem] aJf aJg bAf aMz aM0 bAg aTn
attribute [go_sem] aJh aM1 aGc aTo aTp aJi aTq aM2 aJj aM3 aJk
attribute [go_sem] aTr aJl aTs aM4 aM5 aTt aM6 bFz bAh
attribute [go_sem] aM7 aTu aM8 bAi aJm aJn bAj aTv
attribute [go_sem] aTx aTy
attribute [go_sem] aM9 aTz aT0 aNa bAk aT1 aT2 go_region' bAl go_draw'
attribute [go_sem] aT3 aNb
theorem aF {b b':aJ}{r:aU×Env×aA}(hb:b=b')(h:nT (lim K) b (go' K (lim K) b' [] env S)=.ret r):lp' (lim K) b env S=.ret r:=by
 subst hb
 exact aTw K env S h
end
attribute [irreducible] br' bk' go' aSy bFj aI7 bI7 nS dK aSz lR aZr aMm sX gM bI8 rK aBi bI9 aMn bJa aZv bFl bFm bFk bFn aZs lp' aI8 aI9 aS0 bFo aJa aS1 lC nT aZt aPk bR aD8 aMo aZu bFq bFp
end Go.TM
namespace Go.TM
theorem aD {m:Int}(h:-9223372036854775808≤m∧m≤9223372036854775807):IntKind.i64.wrap m=m:=by
 unfold IntKind.wrap
 simp[IntKind.bits,IntKind.signed]
 omega
theorem mJ {m:Int}(h:0≤m∧m≤18446744073709551615):IntKind.u64.wrap m=m:=by
 unfold IntKind.wrap
 simp[IntKind.bits,IntKind.signed]
 omega
theorem bLy {p:Prop}[Decidable p](h:p):decide p=true:=decide_eq_true h
theorem bLz {p:Prop}[Decidable p](h:¬p):decide p=false:=decide_eq_false h
theorem ifT {α:Type}{p:Prop}[Decidable p]{a b:α}(h:p):(if p then a else b)=a:=if_pos h
theorem ifF {α:Type}{p:Prop}[Decidable p]{a b:α}(h:¬p):(if p then a else b)=b:=if_neg h
theorem eqT {a b:Int}(h:a=b):(a==b)=true:=by simp[h]
theorem eqF {a b:Int}(h:a≠b):(a==b)=false:=by simp[h]
theorem neT {a b:Int}(h:a≠b):(a != b)=true:=by simp[h]
theorem neF {a b:Int}(h:a=b):(a != b)=false:=by simp[h]
theorem vA {α:Type}(f:α→IV):∀(l:List α),bJ (l.map fun a=>[f a])=l.map f
 | []=>rfl
 | a::l=>by simp only[List.map_cons,bJ,vA f l]; rfl
def one {α:Type}(f:α→IV)(l:List α):List (List IV):=l.map fun a=>[f a]
theorem iT {α:Type}(f:α→IV)(l:List α):(one f l).length=l.length:=by simp[one]
theorem aJo {α:Type}(f:α→IV)(l:List α):nN 1 (one f l)=true:=by cases l<;>rfl
theorem bAm {α:Type}(f:α→IV)(l:List α)(n:Nat):(one f l).take n=one f (l.take n):=by simp[one]
theorem bAn {α:Type}(f:α→IV)(l:List α)(n:Nat):(one f l).drop n=one f (l.drop n):=by simp[one]
def qL (t:Tag)(n b:Nat):Tag:=match t with
 | .nil=>.nil
 | .no=>.no
 | .full=>if n=b then .full else .no
def bN {α:Type}(t:Tag)(l:List α):Prop:=t=.nil→l=[]
theorem bN.nil {α:Type}:bN .nil ([]:List α):=fun _=>rfl
theorem aNc {t:Tag}{l:List (List IV)}{a b:Int}(ht:bN t l)(h:0≤a∧a≤b∧b≤l.length):fE t l (some a) (some b) none=some (.sl (qL t l.length b.toNat) ((l.drop a.toNat).take (b.toNat-a.toNat))):=by
 obtain⟨h1,h2,h3⟩:=h
 have h2':(a:Int)≤((b.toNat:Nat):Int):=by omega
 have h0:0≤b:=by omega
 have e0:((0:Nat):Int)≤b:=h0
 cases t with
 | nil =>
  have:=ht rfl
  subst this
  simp at h3
  obtain rfl:b=0:=by omega
  obtain rfl:a=0:=by omega
  simp[fE,eD,jC,qL]
 | full =>
  simp only[fE,eD,jC,h0,h1,h3,h2',and_self,↓reduceIte,qL]
 | no =>
  simp only[fE,eD,jC,h0,h1,h3,h2',and_self,↓reduceIte,qL]
theorem aNd {t:Tag}{l:List (List IV)}{b:Int}(ht:bN t l)(h:0≤b∧b≤l.length):fE t l none (some b) none=some (.sl (qL t l.length b.toNat) (l.take b.toNat)):=by
 have:=aNc (a:=0) (b:=b) ht (by omega)
 simp only[Int.toNat_zero,List.drop_zero,Nat.sub_zero]at this
 rw[←this]
 cases t<;>simp[fE,eD,jC]
theorem aNe {t:Tag}{l:List (List IV)}{a:Int}(ht:bN t l)(h:0≤a∧a≤l.length):fE t l (some a) none none=some (.sl t (l.drop a.toNat)):=by
 obtain⟨h1,h3⟩:=h
 cases t with
 | nil =>
  have:=ht rfl
  subst this
  simp at h3
  obtain rfl:a=0:=by omega
  simp[fE,eD,jC]
 | full =>
  have e:List.take (l.length-a.toNat) (List.drop a.toNat l)=List.drop a.toNat l:=List.take_of_length_le (by simp)
  simp only[fE,eD,jC,h1,h3,and_self,↓reduceIte,e]
 | no =>
  have e:List.take (l.length-a.toNat) (List.drop a.toNat l)=List.drop a.toNat l:=List.take_of_length_le (by simp)
  simp only[fE,eD,jC,h1,h3,and_self,↓reduceIte,e]
theorem bAo (S:aA){t:Tag}{w:Nat}{l:List (List IV)}{b:Int}(ht:bN t l)(hf:nN w l=true)(h:0≤b∧b≤l.length):eL S (.sl w) (.iv (.sl t l)) none (some b) none=some (.iv (.sl (qL t l.length b.toNat) (l.take b.toNat))):=by
 simp only[eL,hf,↓reduceIte,aNd ht h,Option.map_some]
theorem bAp (S:aA){t:Tag}{w:Nat}{l:List (List IV)}{a:Int}(ht:bN t l)(hf:nN w l=true)(h:0≤a∧a≤l.length):eL S (.sl w) (.iv (.sl t l)) (some a) none none=some (.iv (.sl t (l.drop a.toNat))):=by
 simp only[eL,hf,↓reduceIte,aNe ht h,Option.map_some]
theorem aPm {α:Type}{f:α→IV}{t:Tag}{l:List α}(h:bN t l):bN t (one f l):=fun e=>by rw[h e]; rfl
theorem aGd {α:Type}{f:α→IV}(S:aA){t:Tag}{l:List α}{b:Int}(ht:bN t l)(h:0≤b∧b≤l.length):eL S (.sl 1) (.iv (.sl t (one f l))) none (some b) none=some (.iv (.sl (qL t l.length b.toNat) (one f (l.take b.toNat)))):=by
 rw[bAo S (aPm ht) (aJo f l) (by rw[iT]; exact h),iT,bAm]
theorem aGe {α:Type}{f:α→IV}(S:aA){t:Tag}{l:List α}{a:Int}(ht:bN t l)(h:0≤a∧a≤l.length):eL S (.sl 1) (.iv (.sl t (one f l))) (some a) none none=some (.iv (.sl t (one f (l.drop a.toNat)))):=by
 rw[bAp S (aPm ht) (aJo f l) (by rw[iT]; exact h),bAn]
theorem aBk {w:Nat}{t:Tag}{l:List (List IV)}{i:Int}{c:List IV}(h:0≤i)(hc:l[i.toNat]? = some c)(hw:c.length=w):indexAddrS w (.iv (.sl t l)) i=some (.iv (.cp c)):=by
 have:¬i<0:=by omega
 simp only[indexAddrS,this,↓reduceIte,hc,hw]
theorem bJb {w j:Nat}{l:List (List IV)}{i:Int}{c:List IV}(h:0≤i)(hc:l[i.toNat]? = some c)(hw:c.length=w):indexAddrS w (.tsl j l) i=some (.iv (.cp c)):=by
 have:¬i<0:=by omega
 simp only[indexAddrS,this,↓reduceIte,hc,hw]
theorem bF0 {α:Type}(f:α→IV)(l:List α)(n:Nat):(one f l)[n]? = (l[n]?).map fun a=>[f a]:=by simp[one]
theorem jZ {α:Type}[Inhabited α](f:α→IV){t:Tag}{l:List α}{i:Int}(h:0≤i∧i<l.length):indexAddrS 1 (.iv (.sl t (one f l))) i=some (.iv (.cp [f (l.getD i.toNat default)])):=by
 refine aBk h.1 ?_ rfl
 have:i.toNat<l.length:=by omega
 rw[bF0,List.getElem?_eq_getElem this]
 simp[List.getD,List.getElem?_eq_getElem this]
theorem bF1 (env:Env)(S:aA)(x:IV)(l:List IV):bO env S (.iv (.cp (x::l))) 1=some [.iv x]:=by simp[bO,sub]
end Go.TM
namespace Go.TM
theorem iW {w:Nat}{a:Int}(h:0≤a∧a<2 ^ w):(BitVec.ofInt w a).toNat=a.toNat:=by
 rw[BitVec.toNat_ofInt]
 have:a % ((2 ^ w:Nat):Int)=a:=Int.emod_eq_of_lt h.1 (by push_cast; exact h.2)
 rw[this]
end Go.TM
namespace Go.TM
theorem aBl {α:Type}{w:Nat}:∀ {l:List (List α)},(∀y∈l,y.length=w)→(bJ l).length=l.length*w
 | [],_=>by simp[bJ]
 | a::l,h=>by
  have h1:=h a (by simp)
  have h2:=aBl (l:=l) (fun y hy=>h y (by simp[hy]))
  simp only[bJ,List.length_append,List.length_cons,h1,h2,Nat.add_mul]
  omega
theorem qM {α:Type}{w:Nat}:∀ {l:List (List α)},(∀y∈l,y.length=w)→cK w l.length (bJ l)=l
 | [],_=>rfl
 | a::l,h=>by
  have h1:=h a (by simp)
  have h2:=qM (l:=l) (fun y hy=>h y (by simp[hy]))
  simp only[bJ,List.length_cons,cK]
  rw[←h1,List.take_left',List.drop_left',h1,h2]<;>rfl
theorem iA:∀(l:List IV),toIVs (l.map .iv)=some l
 | []=>rfl
 | a::l=>by rw[List.map_cons,aBh,aI0,iA l,aBe]
def oS:IV→Bool
 | .agg _=>false
 | _=>true
theorem aGf:∀ {l:List IV},l.all oS=true→(l.map TV.iv).any bG=false
 | [],_=>rfl
 | a::l,h=>by
  simp only[List.all_cons,Bool.and_eq_true]at h
  simp only[List.map_cons,List.any_cons,aGf h.2,Bool.or_false]
  cases a<;>first|rfl|simp[oS]at h
theorem aBm:∀ {l:List (List IV)},(∀y∈l,y.all oS=true)→(bJ l).all oS=true
 | [],_=>rfl
 | a::l,h=>by
  simp only[bJ,List.all_append,Bool.and_eq_true]
  exact⟨h a (by simp),aBm (fun y hy=>h y (by simp[hy]))⟩
theorem aJp {w:Nat}:∀ {l:List (List IV)},(∀y∈l,y.length=w)→nN w l=true
 | [],_=>rfl
 | a::l,h=>by simp[nN,h a (by simp)]
theorem gJ {α:Type}[Inhabited α]{w:Nat}{f:α→List IV}(hw:∀a,(f a).length=w){t:Tag}{l:List α}{i:Int}(h:0≤i∧i<l.length):indexAddrS w (.iv (.sl t (l.map f))) i=some (.iv (.cp (f (l.getD i.toNat default)))):=by
 refine aBk h.1 ?_ (hw _)
 have:i.toNat<l.length:=by omega
 rw[List.getElem?_map,List.getElem?_eq_getElem this]
 simp[List.getD,List.getElem?_eq_getElem this]
theorem aJq (env:Env)(S:aA)(cs:List IV)(n:Nat):bO env S (.iv (.cp cs)) n=(sub cs 0 n).map (·.map .iv):=id rfl
def Pure (K:aW)(f:Nat)(ags:List TV)(v:TV):Prop:=∃r S,(lim K).call f ags []=.ret (r,S)∧resolve S r=some v
theorem cV {K:aW}{f:Nat}{ags:List TV}{v r:TV}{S:aA}(h:(lim K).call f ags []=.ret (r,S))(hr:resolve S r=some v):Pure K f ags v:=⟨r,S,h,hr⟩
theorem aB {K:aW}{f:Nat}{ags:List TV}{v:TV}(h:Pure K f ags v)(S:aA)(args:List TV):aI9 S args ((lim K).call f ags [])=aI8 S args (some v):=by
 obtain⟨r,S',h1,h2⟩:=h
 rw[h1,aJl,h2]
def bF2 (v:Option TV):Out TV:=match v with
 | some v=>.ret v
 | none => .fail ""
theorem aT4 (v:TV):bF2 (some v)=.ret v:=id rfl
def bJc (x:Out (TV×aA)):Out TV:=x.bind fun r=>bF2 (resolve r.2 r.1)
theorem bAq (r:TV)(S:aA):bJc (.ret (r,S))=bF2 (resolve S r):=id rfl
attribute [go_sem] aT4 bAq
theorem aH {K:aW}{f:Nat}{args:List TV}(fn:aR){v:TV}(hf:K.funcs f=some fn)(ha:args.length=fn.nparams)(h:bJc (lC fn.results (go' K (lim K) fn.body [] (args++List.replicate (fn.nlocs-fn.nparams) undef) []))=.ret v):Pure K f args v:=by
 generalize hx:lC fn.results (go' K (lim K) fn.body [] (args++List.replicate (fn.nlocs-fn.nparams) undef) [])=x at h
 cases x with
 | ret r =>
  obtain⟨r,S⟩:=r
  refine⟨r,S,aP K [] hf ha hx,?_⟩
  simp only[bJc,Out.bind,bF2]at h
  cases hr:resolve S r with
  | none=>rw[hr]at h; cases h
  | some u=>rw[hr]at h; cases h; rfl
 | fail s=>cases h
 | pick n k=>cases h
def jM (w:Nat)(l:List (List IV)):Prop:=∀y∈l,y.length=w∧y.all oS=true
theorem jM.map {α:Type}{w:Nat}{f:α→List IV}(h:∀a,(f a).length=w∧(f a).all oS=true)(l:List α):jM w (l.map f):=by
 intro y hy
 obtain⟨a,_,rfl⟩:=List.mem_map.1 hy
 exact h a
theorem jM.one {α:Type}{f:α→IV}(h:∀a,oS (f a)=true)(l:List α):jM 1 (one f l) :=
 jM.map (f:=fun a=>[f a]) (fun a=>⟨rfl,by simp[h a]⟩) l
def vB (S:aA)(x:TV)(ys:List (List IV)):Prop:=fR S x=some ((bJ ys).map .iv)∧lenOf S x=some ys.length
theorem vB.sl (S:aA)(t:Tag)(ys:List (List IV)):vB S (.iv (.sl t ys)) ys:=⟨rfl,rfl⟩
theorem cX {n b:Nat}(h:n*b≤35184372088832∧b≤1048576∧n≤35184372088832):dZ n b=true:=by
 simp[dZ,h]
theorem aNf {w b el i:Nat}{S:aA}{l ys:List (List IV)}{x:TV}(hx:vB S x ys)(hw:jM w ys)(hl:jM w l)(hS:S[i]? = some (.tok l.length w el))(hr:dZ (l.length+ys.length) b=true) :
  bI false w b el S (.tsl i l) x=some (.tsl i (l++ys),S.set i (.tok (l.length+ys.length) w el)):=by
 obtain⟨h1,h2⟩:=hx
 have hf:=aBl (w:=w) (fun y hy=>(hw y hy).1)
 have ha:=aGf (aBm (fun y hy=>(hw y hy).2))
 simp only[bI,h1,h2,List.length_map,hf,ne_eq,not_true_eq_false,ha,Bool.false_eq_true,or_self,↓reduceIte]
 by_cases hm:ys.length=0
 ·have:ys=[]:=List.eq_nil_of_length_eq_zero hm
  subst this
  simp only[hm,↓reduceIte,aKx,List.append_nil,Nat.add_zero]
  have hi:i<S.length:=by
   rcases Nat.lt_or_ge i S.length with h3|h3
   ·exact h3
   ·rw[List.getElem?_eq_none h3]at hS; cases hS
  rw[List.getElem?_eq_getElem hi]at hS
  have e:S.set i (.tok l.length w el)=S:=by rw[←Option.some.inj hS]; exact List.set_getElem_self hi
  simp[e]
 ·simp only[hm,↓reduceIte,hS,iA,aJp (fun y hy=>(hl y hy).1),hr,decide_true,Bool.and_self,qM (fun y hy=>(hw y hy).1)]
theorem bAr {w b el:Nat}{S:aA}{t:Tag}{l ys:List (List IV)}{x:TV}(ht:t≠.no)(hx:vB S x ys)(hw:jM w ys)(hl:jM w l)(h0:ys≠[])(hr:dZ (l.length+ys.length) b=true) :
  bI false w b el S (.iv (.sl t l)) x=some (.tsl S.length (l++ys),S++[.tok (l.length+ys.length) w el]):=by
 obtain⟨h1,h2⟩:=hx
 have hf:=aBl (w:=w) (fun y hy=>(hw y hy).1)
 have ha:=aGf (aBm (fun y hy=>(hw y hy).2))
 have hm:¬ys.length=0:=fun e=>h0 (List.eq_nil_of_length_eq_zero e)
 have ht':(t==.no)=false:=by cases t<;>first|rfl|exact absurd rfl ht
 simp only[bI,h1,h2,List.length_map,hf,ne_eq,not_true_eq_false,ha,Bool.false_eq_true,or_self,↓reduceIte,hm,ht',aJp (fun y hy=>(hl y hy).1),hr,Bool.not_true,Bool.or_self,iA,qM (fun y hy=>(hw y hy).1)]
theorem bJd {mu:Bool}{w b el:Nat}{S:aA}{s x:TV}(hs:aKx s=true)(hx:vB S x []):bI mu w b el S s x=some (s,S):=by
 obtain⟨h1,h2⟩:=hx
 simp[bI,h1,h2,bJ,hs]
def acc (i:Nat)(l:List (List IV)):TV:=if l=[] then .iv (.sl .nil []) else .tsl i l
theorem kG (i:Nat):acc i []=.iv (.sl .nil []):=by simp[acc]
theorem bAs (i:Nat)(a:List IV)(l:List (List IV)):acc i (a::l)=.tsl i (a::l):=by simp[acc]
theorem nI (i:Nat){l:List (List IV)}(h:l≠[]):acc i l=.tsl i l:=by simp[acc,h]
def nU (w el:Nat)(l:List (List IV)):aA:=if l=[] then [] else [.tok l.length w el]
theorem aJr (w el:Nat):nU w el []=[]:=by simp[nU]
theorem aGg (w el:Nat){l:List (List IV)}(h:l≠[]):nU w el l=[.tok l.length w el]:=by simp[nU,h]
theorem bAt {w b el:Nat}{l ys:List (List IV)}{x:TV}(hx:∀S,vB S x ys)(hw:jM w ys)(hl:jM w l)(hr:dZ (l.length+ys.length) b=true) :
  bI false w b el (nU w el l) (acc 0 l) x=some (acc 0 (l++ys),nU w el (l++ys)):=by
 by_cases h:l=[]
 ·subst h
  by_cases h0:ys=[]
  ·subst h0
   rw[kG,aJr,bJd rfl (hx _)]; rfl
  ·rw[kG,aJr,bAr (by decide) (hx _) hw hl h0 hr,List.nil_append,nI _ h0,aGg _ _ h0]
   simp
 ·have h2:l++ys≠[]:=by simp[h]
  rw[nI _ h,aGg _ _ h,aNf (hx _) hw hl rfl hr,nI _ h2,aGg _ _ h2]
  simp
theorem aJs (S:aA)(i:Nat)(l:List (List IV)):aIg .sl S (acc i l)=some (.iv (.int .i64 l.length)):=by
 unfold acc; split
 ·rename_i h; subst h; rfl
 ·rfl
def mM {α:Type}(l:List α):Tag:=match l with
 | []=>.nil
 | _=>.no
theorem aD9 (S:aA)(i:Nat)(l:List (List IV)):zQ S (acc i l)=some (.sl (mM l) l):=by cases l<;>rfl
theorem qN (S:aA)(i:Nat)(l:List (List IV)):resolve S (acc i l)=some (.iv (.sl (mM l) l)):=by cases l<;>rfl
theorem aPn {w b el:Nat}{l:List (List IV)}{t:Tag}{c:List IV}(hc:c.length=w∧c.all oS=true)(hl:jM w l)(hr:dZ (l.length+1) b=true) :
  bI false w b el (nU w el l) (acc 0 l) (.iv (.sl t [c]))=some (acc 0 (l++[c]),nU w el (l++[c])) :=
 bAt (fun S=>vB.sl S t [c]) (by intro y hy; simp at hy; subst hy; exact hc) hl hr
theorem bF3 (K:aW)(O:Orc)(j i':Nat)(l:List (List IV))(ops:List aI)(i:Nat)(M:List (Nat×TV))(n:Nat)(fs:List Fr)(env:Env)(S:aA):aBi K O (acc i' l) j ops i M n fs env S=rK K O ops (i+1) M n fs (env.set j (acc i' l)) S:=by
 unfold acc; split
 ·exact aPl K O ops i M n fs env S _ j
 ·exact aJd K O ops i M n fs env S _ _ j
theorem bAu (j i:Nat)(l:List (List IV)):wE j (acc i l)=acc i l:=by unfold acc; split<;>rfl
theorem bAv (i:Nat)(l:List (List IV)):cZ (acc i l)=false:=by unfold acc; split<;>rfl
theorem bAw (i:Nat)(l:List (List IV)):aL6 (acc i l)=some (acc i l):=by unfold acc; split<;>rfl
attribute [go_sem] aD9 qN bF3 bAu bAv bAw aJs
end Go.TM
namespace Go.TM
open Go Go.ChangeShapes Go.WideShapes Go.RowKit
variable {P:Program}{H:Type}{enc:TypeId×Value→H}{W:World}
def qO (P:Program){H:Type}:List TypeId→List (DataW H)→List (List IV)→Prop
 | [],[],[]=>True
 | t::ts,d::ds,l::ls=>Ty P t d l∧qO P ts ds ls
 | _,_,_=>False
def aGh (P:Program):List TypeId→List (List IV)→List TV
 | t::ts,l::ls=>aDx P t l::aGh P ts ls
 | _,_=>[]
theorem aPo {ts:List TypeId}(hts:aQ7 P ts=true){r:Reach}{b base:Nat}{held:Bool}:∀ {params:List TypeId} {vals:List Value} {ds:List (DataW H)} {ps:List MemPlace},(∀t∈params,t∈ts)→(∀(j:Nat) t v,params[j]? = some t→vals[j]? = some v→Value.okWide P W r b t v) →
  DataW.TrodAll enc P W base (fun _=>true) held params vals ds ps→∃ls,qO P params ds ls∧VRs (eF W) [] [] (aGh P params ls) vals
 | [],vals,ds,ps,_,_,h=>by
  obtain⟨rfl,rfl,rfl⟩:=trodAll_nil h
  exact⟨[],trivial,VRs.nil⟩
 | t::params,vals,ds,ps,hp,hv,h=>by
  obtain⟨v,vs',d,ds',p,q,rfl,rfl,rfl,h1,h2⟩:=trodAll_cons h
  obtain⟨l,k1,k2⟩:=bIp hts (hp t (by simp)) (hv 0 t v rfl rfl) h1
  obtain⟨ls,k3,k4⟩:=aPo hts (fun u hu=>hp u (by simp[hu])) (fun j u w hu hw=>hv (j+1) u w (by simpa using hu) (by simpa using hw)) h2
  exact⟨l::ls,⟨k1,k3⟩,VRs.cons k2 k4⟩
theorem bF4 {t:TypeId}{d:DataW H}{l:List IV}(hu:P.underlying t=some .bool)(h:Ty P t d l):∃b,l=[.bool b]:=by
 cases h with
 | bool u ht b=>exact⟨b,rfl⟩
 | int u k ht=>rw[hu]at ht; cases ht
 | str u ht=>rw[hu]at ht; cases ht
 | nilp u e ht=>rw[hu]at ht; cases ht
 | ptr u e ht=>rw[hu]at ht; cases ht
 | nils u e ht=>rw[hu]at ht; cases ht
 | sl u e ht=>rw[hu]at ht; cases ht
 | struct u fs ht=>rw[hu]at ht; cases ht
 | array u e n ht=>rw[hu]at ht; cases ht
theorem kA {t:TypeId}{d:DataW H}{l:List IV}{k:IntKind}(hu:P.underlying t=some (.int k))(h:Ty P t d l):∃n,l=[.int k n]∧k.min≤n∧n≤k.max:=by
 cases h with
 | bool u ht b=>rw[hu]at ht; cases ht
 | int u k' ht n hw =>
  rw[hu]at ht; cases ht
  simp only[Lit.wf,Bool.and_eq_true,decide_eq_true_eq]at hw
  exact⟨n,rfl,hw⟩
 | str u ht=>rw[hu]at ht; cases ht
 | nilp u e ht=>rw[hu]at ht; cases ht
 | ptr u e ht=>rw[hu]at ht; cases ht
 | nils u e ht=>rw[hu]at ht; cases ht
 | sl u e ht=>rw[hu]at ht; cases ht
 | struct u fs ht=>rw[hu]at ht; cases ht
 | array u e n ht=>rw[hu]at ht; cases ht
theorem aBn {α:Type}{f:α→List IV}{R:α→Prop}{t e:TypeId}{d:DataW H}{l:List IV}(hu:P.underlying t=some (.slice e))(he:∀(d:DataW H) (l:List IV),Ty P e d l→∃a,l=f a∧R a)(h:Ty P t d l) :
  ∃(tg:Tag) (ags:List α),l=[.sl tg (ags.map f)]∧bN tg ags∧(∀a∈ags,R a)∧ags.length≤9223372036854775807:=by
 cases h with
 | bool u ht b=>rw[hu]at ht; cases ht
 | int u k ht=>rw[hu]at ht; cases ht
 | str u ht=>rw[hu]at ht; cases ht
 | nilp u e ht=>rw[hu]at ht; cases ht
 | ptr u e ht=>rw[hu]at ht; cases ht
 | nils u e ht=>exact⟨.nil,[],rfl,bN.nil,by simp,by simp⟩
 | sl u e' ht ds sp ls tag htag hn hm h hl =>
  rw[hu]at ht; cases ht
  have key:∀(ls:List (List IV)) (ds:List (DataW H)),ls.length=ds.length→(∀(i:Nat) (d:DataW H) (l:List IV),ds[i]? = some d→ls[i]? = some l→Ty P e d l)→∃ags:List α,ls=ags.map f∧∀a∈ags,R a:=by
   intro ls
   induction ls with
   | nil=>exact fun ds _ _=>⟨[],rfl,by simp⟩
   | cons l ls ih =>
    intro ds hn h
    cases ds with
    | nil=>simp at hn
    | cons d ds =>
     obtain⟨a,rfl,ha⟩:=he d l (h 0 d l rfl rfl)
     obtain⟨ags,rfl,has⟩:=ih ds (by simpa using hn) (fun i d' l' hd hl'=>h (i+1) d' l' (by simpa using hd) (by simpa using hl'))
     exact⟨a::ags,rfl,by intro x hx; rcases List.mem_cons.1 hx with rfl|hx; exact ha; exact has x hx⟩
  obtain⟨ags,rfl,has⟩:=key ls ds hn h
  refine⟨tag,ags,rfl,fun e=>absurd e htag,has,?_⟩
  simp only[List.length_map]at hm
  have:maxLen=9223372036854775807:=rfl
  omega
 | struct u fs ht=>rw[hu]at ht; cases ht
 | array u e n ht=>rw[hu]at ht; cases ht
theorem aEa {t:TypeId}{fs:Array Field}{d:DataW H}{l:List IV}(hu:P.underlying t=some (.struct fs))(h:Ty P t d l) :
  ∃(ds:List (DataW H)) (ls:List (List IV)),l=bJ ls∧qO P (fs.toList.map (·.type)) ds ls:=by
 cases h with
 | bool u ht b=>rw[hu]at ht; cases ht
 | int u k ht=>rw[hu]at ht; cases ht
 | str u ht=>rw[hu]at ht; cases ht
 | nilp u e ht=>rw[hu]at ht; cases ht
 | ptr u e ht=>rw[hu]at ht; cases ht
 | nils u e ht=>rw[hu]at ht; cases ht
 | sl u e ht=>rw[hu]at ht; cases ht
 | struct u fs' ht ds ls h1 h2 h hl =>
  rw[hu]at ht; cases ht
  refine⟨ds,ls,rfl,?_⟩
  have key:∀(fs:List Field) (ds:List (DataW H)) (ls:List (List IV)),ds.length=fs.length→ls.length=fs.length→(∀(i:Nat) (f:Field) (d:DataW H) (l:List IV),fs[i]? = some f→ds[i]? = some d→ls[i]? = some l→Ty P f.type d l)→qO P (fs.map (·.type)) ds ls:=by
   intro fs
   induction fs with
   | nil =>
    intro ds ls h1 h2 _
    have e1:ds=[]:=List.eq_nil_of_length_eq_zero (by simpa using h1)
    have e2:ls=[]:=List.eq_nil_of_length_eq_zero (by simpa using h2)
    subst e1; subst e2; exact trivial
   | cons f fs ih =>
    intro ds ls h1 h2 h
    cases ds with
    | nil=>simp at h1
    | cons d ds =>
     cases ls with
     | nil=>simp at h2
     | cons l ls=>exact⟨h 0 f d l rfl rfl rfl,ih ds ls (by simpa using h1) (by simpa using h2) (fun i f' d' l' hf hd hl'=>h (i+1) f' d' l' (by simpa using hf) (by simpa using hd) (by simpa using hl'))⟩
  exact key fs.toList ds ls (by simpa using h1) (by simpa using h2) (fun i f d l hf hd hl'=>h i f d l (by simpa using hf) hd hl')
 | array u e n ht=>rw[hu]at ht; cases ht
theorem aE2 {t e:TypeId}{d:DataW H}{l:List IV}{k:IntKind}(hu:P.underlying t=some (.slice e))(he:P.underlying e=some (.int k))(h:Ty P t d l) :
  ∃(tg:Tag) (ags:List Int),l=[.sl tg (one (.int k) ags)]∧bN tg ags∧(∀a∈ags,k.min≤a∧a≤k.max)∧ags.length≤9223372036854775807:=by
 obtain⟨tg,ags,rfl,h1,h3,h2⟩:=aBn (f:=fun n=>[.int k n]) (R:=fun n=>k.min≤n∧n≤k.max) hu (fun d l h=>by
  obtain⟨n,rfl,h1⟩:=kA he h
  exact⟨n,rfl,h1⟩) h
 exact⟨tg,ags,rfl,h1,h3,h2⟩
theorem aT5 {t:TypeId}{l:List IV}(h:(match P.underlying t with|some (.struct _)|some (.array _ _)=>true|_=>false)=true):aDx P t l=.iv (.agg l):=by
 unfold aDx
 split
 ·rfl
 ·rfl
 ·rename_i h1 h2
  split at h
  ·rename_i e; exact absurd e (h1 _)
  ·rename_i e; exact absurd e (h2 _ _)
  ·cases h
theorem wK {ds:List (DataW H)}{ls:List (List IV)}(h:qO P [] ds ls):ls=[]:=by
 cases ds<;>cases ls<;>first|rfl|exact h.elim
theorem cQ {t:TypeId}{ts:List TypeId}{ds:List (DataW H)}{ls:List (List IV)}(h:qO P (t::ts) ds ls):∃(d:DataW H) (l:List IV) (ds':List (DataW H)) (ls':List (List IV)),ls=l::ls'∧Ty P t d l∧qO P ts ds' ls':=by
 cases ds with
 | nil=>cases ls<;>exact h.elim
 | cons d ds =>
  cases ls with
  | nil=>exact h.elim
  | cons l ls=>exact⟨d,l,ds,ls,rfl,h.1,h.2⟩
theorem aNg {P:Program}{ts:Array TypeId}{q:TypeId→Bool}(h:ts.toList.all (fun t=>!(q t))=true)(j:Nat)(t:TypeId)(ht:ts[j]? = some t):q t=false:=by
 have:=List.all_eq_true.1 h t (Array.mem_toList_iff.2 (Array.mem_of_getElem? ht))
 simpa using this
theorem aNh {ds:List (DataW H)}{ls:List (List IV)}(h:qO P [] ds ls):ds=[]:=by
 cases ds<;>cases ls<;>first|rfl|exact h.elim
theorem aJt {t:TypeId}{ts:List TypeId}{ds:List (DataW H)}{ls:List (List IV)}(h:qO P (t::ts) ds ls):∃(d:DataW H) (l:List IV) (ds':List (DataW H)) (ls':List (List IV)),ds=d::ds'∧ls=l::ls'∧qO P ts ds' ls':=by
 cases ds with
 | nil=>cases ls<;>exact h.elim
 | cons d ds =>
  cases ls with
  | nil=>exact h.elim
  | cons l ls=>exact⟨d,l,ds,ls,rfl,rfl,h.2⟩
theorem aBo {O:cT}{K:TM.aW}(hk:KOK P O K){f:Nat}{args:List TV}(h:((lim K).call f args []).All fun r=>r.1=.iv (.bool true)){vals:Array Value}(hv:VRs (eF W) [] [] args vals.toList)(hg:oL K (eF W)) :
  Calls P f vals W fun e W'=>e=.returned (.bool true)∧Below W.heap.size W W':=by
 obtain⟨n,hn⟩:=bD6 (K:=K) (f:=f) (a:=args) (S:=[]) h
 exact aQ9 hk hn hv hg
end Go.TM
namespace Go.TM
section
variable (K:aW)(O:Orc)(i:Nat)(k:Kt)(M:List (Nat×TV))(n:Nat)(fs:List Fr)(env:Env)(S:aA)
def cvA (O:Orc)(c:Bool)(S:aA)(g:Nat)(ags:List TV):Out (TV×aA):=if c then aS0 O S ags g (dG S ags) else aS1 O false S g (ags.any cZ) ags
theorem bAx (g:Nat)(ags:List TV):cvA O true S g ags=aS0 O S ags g (dG S ags):=by simp only[cvA,↓reduceIte]
theorem aT6 (g:Nat)(ags:List TV):cvA O false S g ags=aS1 O false S g (ags.any cZ) ags:=by simp only[cvA,Bool.false_eq_true,↓reduceIte]
def bAy (O : Orc) (S : aA) (j : Nat) (lp : Bool) (ags : List TV) : Out (TV × aA) := if lp then .fail "" else er (O.yld j ags S)
theorem bF5 (j:Nat)(ags:List TV):bAy O S j false ags=er (O.yld j ags S):=by simp only[bAy,Bool.false_eq_true,↓reduceIte]
def opF (f:TV)(ags:List TV)(i:Nat)(k:Kt)(M:List (Nat×TV))(n:Nat)(fs:List Fr)(env:Env)(S:aA):TT (Out (aU×Env×aA)) (i,k,M,n,fs,env,S) :=
 match f with
 | .fn g a b=>gM K O (cvA O ((a++ags++b).all zR) S g (a++ags++b)) i k M n fs env
 | .yld j=>gM K O (bAy O S j (ags.any cZ) ags) i k M n fs env
 | _ => (.fail "" : Out (aU × Env × aA))
theorem bJe (g:Nat)(a b ags:List TV):opF K O (.fn g a b) ags i k M n fs env S=gM K O (cvA O ((a++ags++b).all zR) S g (a++ags++b)) i k M n fs env:=rfl
theorem bF6 (j:Nat)(ags:List TV):opF K O (.yld j) ags i k M n fs env S=gM K O (bAy O S j (ags.any cZ) ags) i k M n fs env:=rfl
theorem aT7 (f:aE)(args:List aE):dK K O (.callv f args) i k M n fs env S=opF K O (bR K n env M f) (args.map (bR K n env M)) i k M n fs env S:=by
 unfold dK bR
 simp only[op1,bQ]
 show er (Out.bind (match opv K n env M f with
  | .fn g a b=>Out.bind (if (a++args.map (opv K n env M)++b).all zR then eI O g (a++args.map (opv K n env M)++b) S else iD O false g (a++args.map (opv K n env M)++b) S) fun r=>.ret (r.1,env,r.2)
  | .yld j => if (args.map (opv K n env M)).any cZ then .fail "yield: a local's address" else Out.bind (O.yld j (args.map (opv K n env M)) S) fun r => .ret (r.1, env, r.2)
  | _ => .fail "callv") _) = _
 cases opv K n env M f with
 | fn g a b =>
  simp only[opF,cvA,Out.bind_assoc,Out.bind]
  split
  ·unfold gM aS0
   rw[←xU,←aBd]
  ·unfold gM aS1
   rw[←aD2,←aBd]
 | yld j =>
  simp only[opF,bAy]
  split
  ·unfold gM; rfl
  ·unfold gM
   rw[←aBd]
   simp only[Out.bind_assoc,Out.bind]
 | _=>rfl
end
theorem bF7 (v:IV):zR (.iv v)=true:=id rfl
theorem bAz (a b c:Nat):zR (.ptr a b c)=false:=id rfl
theorem bA0 (f:Nat)(a b:List TV):aPi f a b=if (a++b).any cZ=true then none else some (.fn f a b):=id rfl
theorem bF8 (t m:Nat)(v:TV):bI1 t m v=if (cellsOf v).any bG=true then none else some (.ptr m t 0,.cells t false (cellsOf v)):=id rfl
attribute [go_sem] bAx aT6 bF5 bJe bF6 aT7 bF7 bAz bA0 bF8
theorem bA1 {K:aW}(n f:Nat)(h:((ex K n).call f [] []).allB isTrue=true):((lim K).call f [] []).All fun r=>r.1=.iv (.bool true):=by
 have h1:((ex K n).call f [] []).All fun r=>r.1=.iv (.bool true):=Out.all_of_allB aRa h
 exact (nR (y:=fun n=>(ex K n).call f [] []) (fun n m h=>(xQ h).call f [] []) (n:=n) (Out.all_ok h1)).all h1
end Go.TM
namespace Go.TM
open Go
def aBp (f:Int→IV)(C:List Int):List TV:=C.map fun n=>.iv (f n)
theorem aNi (f:Int→IV)(C:List Int):(aBp f C).length=C.length:=by simp[aBp]
theorem bA2 {j v off len cap:Nat}{i:Int}(h:0≤i∧i<len):indexAddrS 1 (.msl j v off len cap 1) i=some (.ptr j v (off+i.toNat)):=by
 simp only[indexAddrS,show ¬i<0 by omega,h.2,and_self,↓reduceIte,Nat.mul_one]
theorem aGi (f:Int→IV)(l:List Int):bJ (one f l)=l.map f:=vA f l
theorem aJu (f:Int→IV)(n:Nat):bJ (List.replicate n ([f 0].map TV.iv))=aBp f (List.replicate n 0):=by
 have:List.replicate n ([f 0].map TV.iv)=(List.replicate n (0:Int)).map fun a=>[TV.iv (f a)]:=by simp
 rw[this]
 generalize List.replicate n (0:Int)=l
 induction l with
 | nil=>rfl
 | cons a l ih=>simp only[List.map_cons,bJ,List.flatMap_cons,aBp]at ih ⊢; simpa using ih
end Go.TM
namespace Go.TM
section
variable (K:aW)(O:Orc)(fs:List Fr)(env:Env)(S:aA)
def rfB (K:aW)(O:Orc)(n:Nat)(env:Env)(fs:List Fr)(S:aA):Option aG→Out (aU×Env×aA)
 | some (.lp .busy ..) => .fail ""
 | some (.lp _ pend env' ps a b)=>bk K O fs (pend.getD .normal) env (S.set n (.lp .exhausted pend env' ps a b))
 | _ => .fail ""
def rfR (K:aW)(O:Orc)(n:Nat)(env:Env)(fs:List Fr)(x:Out (TV×aA)):TT (Out (aU×Env×aA)) (n,env,fs) :=
 (er x).bind fun r=>rfB K O n env fs r.2 (r.2[n]?)
def rfF (K:aW)(O:Orc)(v:TV)(ps:List Nat)(a b:aJ)(fs:List Fr)(env:Env)(S:aA):TT (Out (aU×Env×aA)) (ps,a,b,fs,env,S) :=
 match v with
 | .fn k fst cap=>rfR K O S.length env fs (O.call k (fst++.yld S.length::cap) (S++[.lp .ready none (env.map noLb) ps a b]))
 | _ => (.fail "" : Out (aU × Env × aA))
theorem bJf (k:Nat)(fst cap:List TV)(ps:List Nat)(a b:aJ):rfF K O (.fn k fst cap) ps a b fs env S=rfR K O S.length env fs (O.call k (fst++.yld S.length::cap) (S++[.lp .ready none (env.map noLb) ps a b])):=id rfl
theorem aPp (n:Nat)(v:TV)(S':aA):rfR K O n env fs (.ret (v,S'))=rfB K O n env fs S' (S'[n]?):=id rfl
theorem aT8 (n:Nat)(e':Env)(ps:List Nat)(a b:aJ):rfB K O n env fs S (some (.lp .ready none e' ps a b))=bk' K O fs .normal env (S.set n (.lp .exhausted none e' ps a b)):=by unfold bk'; exact id rfl
theorem go_rangeFunc (f:aE)(ps:List Nat)(a b:aJ):go' K O (.rangeFunc f ps a b) fs env S=rfF K O (bR K 0 env [] f) ps a b fs env S:=by
 unfold go' bR
 simp only[go,eK,rfF,opv,cP,List.range_zero,List.map_nil]
 cases aS K env [] f with
 | fn k fst cap =>
  simp only[Out.bind_assoc]
  unfold rfR
  rw[fF]
  refine Out.bind_congr fun r=>?_
  cases hx:r.2[S.length]? with
  | none=>rfl
  | some B =>
   cases B with
   | lp st pend e' ps' a' b'=>cases st<;>rfl
   | _=>rfl
 | _=>rfl
end
theorem bF9 (v:IV):noLb (.iv v)=.iv v:=id rfl
theorem bA3 (a b c:Nat):noLb (.ptr a b c)=.ptr a b c:=id rfl
theorem bA4 (a b c d e f:Nat):noLb (.msl a b c d e f)=.msl a b c d e f:=id rfl
theorem bGa (f:Nat)(a b:List TV):noLb (.fn f a b)=.fn f a b:=id rfl
theorem bA5 (l:List TV):noLb (.tup l)=.tup l:=id rfl
attribute [go_sem] bJf aPp aT8 go_rangeFunc bF9 bA3 bA4 bGa bA5
attribute [irreducible] rfR rfF
theorem go_exec {K:aW}{O:Orc}{c:aJ}{env:Env}{S:aA}{r:aU×Env×aA}(h:go' K O c [] env S=.ret r):eK K O c env S=.ret r:=by
 unfold go' at h
 simp only[go]at h
 have h1:=aXf h
 cases hx:eK K O c env S with
 | ret q=>rw[hx]at h1; simpa[Out.bind,back] using h1
 | fail s=>rw[hx]at h1; cases h1
 | pick n k=>rw[hx]at h1; cases h1
theorem aJv {K:aW}{i:Nat}{args:List TV}{S S1 S2:aA}{st:LoopState}{p p2 p3:Option aU}{st3:LoopState}{env env1 env2 env3 e2 e3:Env}{ps ps2 ps3:List Nat}{a b a2 b2 a3 b3:aJ}
  (h:S[i]? = some (.lp st p env ps a b)) (hs:pP env ps args=some env1) (h1:go' K (lim K) a [] env1 S=.ret (.normal,env2,S1)) (h2:S1[i]? = some (.lp .ready p2 e2 ps2 a2 b2))
  (h3:go' K (lim K) b [] env2 (S1.set i (.lp .busy p2 e2 ps2 a2 b2))=.ret (.normal,env3,S2)) (h4:S2[i]? = some (.lp st3 p3 e3 ps3 a3 b3)) :
  (lim K).yld i args S=.ret (.iv (.bool true),S2.set i (.lp .ready none e3 ps3 a3 b3)):=by
 refine bD5 ?_
 have e1:=go_exec h1
 have e3:=go_exec h3
 simp only[gZ,h,hs,e1,Out.bind,h2,e3,h4]
end Go.TM
namespace Go.TM
theorem aNj {α:Type}{R:α→Prop}:∀ {x:Out α},x.All R→(er x).All R
 | .ret a,h=>h
 | .fail s,h=>h.elim
 | .pick n k,h=>fun i hi=>aNj (h i hi)
theorem eC {α:Type}{R:α→Prop}{a:α}(h:R a):(Out.ret a).All R:=h
section
variable {K:aW}{O:Orc}{i:Nat}{k:Kt}{M:List (Nat×TV)}{n:Nat}{fs:List Fr}{env:Env}{S:aA}{rs:List lZ}{b:aJ}
theorem aJw {P R:TV×aA→Prop}{X:Out (TV×aA)}(hX:X.All P)(h:∀v S,P (v,S)→(lC rs (gM K O (.ret (v,S)) i k M n fs env)).All R):(lC rs (gM K O X i k M n fs env)).All R:=by
 have e:∀Y:Out (TV×aA),Y.All P→(fin rs (opC K O Y i k M n fs env)).All R:=by
  intro Y
  induction Y with
  | ret r=>intro hr; have:=h r.1 r.2 hr; unfold lC gM at this; exact this
  | fail s=>intro hr; exact hr.elim
  | pick m q ih=>intro hr j hj; exact ih j (hr j hj)
 unfold lC gM
 exact e X hX
theorem aJx {P:TV×aA→Prop}{R:aU×Env×aA→Prop}{X:Out (TV×aA)}(hX:X.All P)(h:∀v S,P (v,S)→(nT O b (gM K O (.ret (v,S)) i k M n fs env)).All R):(nT O b (gM K O X i k M n fs env)).All R:=by
 have e:∀Y:Out (TV×aA),Y.All P→(rnd O b (opC K O Y i k M n fs env)).All R:=by
  intro Y
  induction Y with
  | ret r=>intro hr; have:=h r.1 r.2 hr; unfold nT gM at this; exact this
  | fail s=>intro hr; exact hr.elim
  | pick m q ih=>intro hr j hj; exact ih j (hr j hj)
 unfold nT gM
 exact e X hX
theorem xW {P:aU×Env×aA→Prop}{R:TV×aA→Prop}{X:Out (aU×Env×aA)}(hX:X.All P)(h:∀j e S,P (j,e,S)→(lC rs (aMn K O (.ret (j,e,S)) fs)).All R):(lC rs (aMn K O X fs)).All R:=by
 have e:∀Y:Out (aU×Env×aA),Y.All P→(fin rs (goL K O Y fs)).All R:=by
  intro Y
  induction Y with
  | ret r=>intro hr; have:=h r.1 r.2.1 r.2.2 hr; unfold lC aMn at this; exact this
  | fail s=>intro hr; exact hr.elim
  | pick m q ih=>intro hr j hj; exact ih j (hr j hj)
 unfold lC aMn
 exact e X hX
theorem bGb {P Q:TV×aA→Prop}{t:Bool}{S:aA}{X:Out (TV×aA)}(hX:X.All P)(h:∀v S',P (v,S')→(aJa t S (.ret (v,S'))).All Q):(aJa t S X).All Q:=by
 have e:∀Y:Out (TV×aA),Y.All P→(csR t S Y).All Q:=by
  intro Y
  induction Y with
  | ret r=>intro hr; have:=h r.1 r.2 hr; unfold aJa at this; exact this
  | fail s=>intro hr; exact hr.elim
  | pick m q ih=>intro hr j hj; exact ih j (hr j hj)
 unfold aJa
 exact e X hX
def oZ (K:aW)(f:Nat)(ags:List TV)(Q:TV→Prop):Prop:=((lim K).call f ags []).All fun r=>∃v,resolve r.2 r.1=some v∧Q v
theorem oZ.of {f:Nat}{ags:List TV}{v:TV}{Q:TV→Prop}(h:Pure K f ags v)(hq:Q v):oZ K f ags Q:=by
 obtain⟨r,S,h1,h2⟩:=h
 unfold oZ
 rw[h1]
 exact⟨v,h2,hq⟩
theorem oZ.mono {f:Nat}{ags:List TV}{P Q:TV→Prop}(h:oZ K f ags P)(hq:∀v,P v→Q v):oZ K f ags Q :=
 Out.all_mono (fun r ⟨v,h1,h2⟩=>⟨v,h1,hq v h2⟩) h
theorem rH {f:Nat}{ags args:List TV}{Q:TV→Prop}{R:TV×aA→Prop}(hX:oZ K f ags Q)(h:∀v,Q v→(lC rs (gM K (lim K) (aI8 S args (some v)) i k M n fs env)).All R):(lC rs (gM K (lim K) (aI9 S args ((lim K).call f ags [])) i k M n fs env)).All R:=by
 have e:∀Y:Out (TV×aA),(Y.All fun r=>∃v,resolve r.2 r.1=some v∧Q v)→(fin rs (opC K (lim K) (cpR S args Y) i k M n fs env)).All R:=by
  intro Y
  induction Y with
  | ret r =>
   intro⟨v,h1,h2⟩
   have h3:=h v h2
   unfold lC gM aI8 at h3
   simp only[cpR,er,Out.bind,h1]
   exact h3
  | fail s=>intro hr; exact hr.elim
  | pick m q ih=>intro hr j hj; exact ih j (hr j hj)
 unfold lC gM aI9
 exact e _ hX
theorem aT9 {f:Nat}{ags args:List TV}{Q:TV→Prop}{R:aU×Env×aA→Prop}(hX:oZ K f ags Q)(h:∀v,Q v→(nT O b (gM K (lim K) (aI8 S args (some v)) i k M n fs env)).All R):(nT O b (gM K (lim K) (aI9 S args ((lim K).call f ags [])) i k M n fs env)).All R:=by
 have e:∀Y:Out (TV×aA),(Y.All fun r=>∃v,resolve r.2 r.1=some v∧Q v)→(rnd O b (opC K (lim K) (cpR S args Y) i k M n fs env)).All R:=by
  intro Y
  induction Y with
  | ret r =>
   intro⟨v,h1,h2⟩
   have h3:=h v h2
   unfold nT gM aI8 at h3
   simp only[cpR,er,Out.bind,h1]
   exact h3
  | fail s=>intro hr; exact hr.elim
  | pick m q ih=>intro hr j hj; exact ih j (hr j hj)
 unfold nT gM aI9
 exact e _ hX
theorem aGj {b':aJ}{P:aU×Env×aA→Prop}(hb:b=b')(h:(nT (lim K) b (go' K (lim K) b' [] env S)).All P):(lp' (lim K) b env S).All P:=by
 subst hb
 unfold lp'
 refine aFt (aLm ?_)
 unfold nT go' at h
 have e0:er (iN K (lim K) b env S)=rnd (lim K) b (go K (lim K) b [] env S):=by
  simp only[iN,rnd,go]
  rw[fF]
  have e:=mY.bind_back K (lim K) (eK K (lim K) b env S)
  rw[e]
  refine Out.bind_congr fun r=>?_
  obtain⟨j,e,S'⟩:=r
  cases j<;>rfl
 rw[e0]
 exact h
end
end Go.TM
