/- A part of the evaluator TM, and of the proof that what it computes the model does. Condition: none. -/
import Derived.Test.YtageemgcnoblnaaDoorTmD
set_option linter.unusedVariables false
set_option linter.unusedSimpArgs false
set_option maxRecDepth 100000
namespace Go.TM
section
variable (K:bI)(O:Orc)(i:Nat)(k:Kt)(M:List (Nat×TV))(n:Nat)(fs:List Fr)(env:Env)(S:aA)
theorem fW {o:TOp}(h:bV o=0):op1 K O o i k M n fs env S=opV K O (aO o (opv K n env M)) i k M n fs env S:=by
 have e:(fun x=>bA K env (cO M n) x)=opv K n env M:=rfl
 simp only[op1,ec0 K O env _ S o h]
 show er ((Out.need _ (aO o (opv K n env M)) _).bind _)=_
 cases aO o (opv K n env M) with
 | some v=>simp only[Out.need,Out.bind,opV]; cases k<;>simp only[cont,rgR,fls,chk,sH]<;>(try split)<;>simp only[sH,er]
 | none=>rfl
theorem jZ:er (cont K O k M n fs env S)=cont K O k M n fs env S:=by
 cases k<;>simp only[cont,rgR,fls,chk,sH]<;>(try split)<;>simp only[sH,er]
theorem vY {o:TOp}(h:bV o=1):op1 K O o i k M n fs env S=opV K O (aJ o (opv K n env M) env S) i k M n fs env S:=by
 simp only[op1,ec1 K O env _ S o h]
 show er ((Out.need _ (aJ o (opv K n env M) env S) _).bind _)=_
 cases aJ o (opv K n env M) env S with
 | some v=>simp only[Out.need,Out.bind,opV,jZ]
 | none=>rfl
theorem aE0 {o:TOp}(h:bV o=2):op1 K O o i k M n fs env S=opA K O (bN o (opv K n env M) S.length) i k M n fs env S:=by
 simp only[op1,kW K O env _ S o (by omega)]
 have p:∀e,aO o e=none:=by intro e; cases o<;>first|rfl|simp[bV]at h
 have r:∀e,aJ o e env S=none:=by intro e; cases o<;>first|rfl|simp[bV]at h
 have s:∀e rs,fL o e rs env S=none:=by intro e rs; cases o<;>first|rfl|simp[bV]at h
 simp only[gY,gJ,p,r,s]
 show er ((Out.ofOpt _ (match bN o (opv K n env M) S.length with|some (v,b)=>some (v,env,S++[b])|none=>none)).bind _)=_
 cases bN o (opv K n env M) S.length with
 | some v=>simp only[Out.ofOpt,Out.bind,opA,jZ]
 | none=>rfl
theorem pD {o:TOp}(h:bV o=3)(hb:o≠.bad):op1 K O o i k M n fs env S=opE K O (fL o (opv K n env M) (cO M n) env S) i k M n fs:=by
 simp only[op1,kW K O env _ S o (by omega)]
 have p:∀e,aO o e=none:=by intro e; cases o<;>first|rfl|simp[bV]at h
 have r:∀e,aJ o e env S=none:=by intro e; cases o<;>first|rfl|simp[bV]at h
 have s:∀e n,bN o e n=none:=by intro e n; cases o<;>first|rfl|simp[bV]at h
 simp only[gY,gJ,p,r,s]
 show er ((Out.ofOpt _ (fL o (opv K n env M) (cO M n) env S)).bind _)=_
 cases fL o (opv K n env M) (cO M n) env S with
 | some v=>simp only[Out.ofOpt,Out.bind,opE,jZ]
 | none=>rfl
def xtr (j:Nat):TV→Option TV
 | .tup vs=>vs[j]?
 | _=>none
theorem bBe (j:Nat)(vs:List TV):xtr j (.tup vs)=vs[j]? := id rfl
def bBf (v:TV):Option TV:=if wQ v then some v else none
theorem aVy (a b c:Nat):bBf (.ptr a b c)=some (.ptr a b c):=id rfl
def ivO (x:Option IV):Option TV:=x.map .iv
theorem aVz (x:IV):ivO (some x)=some (.iv x):=id rfl
def eqV (neg:Bool)(x:Option Bool):Option TV:=x.map fun b=>.iv (.bool (if neg then !b else b))
theorem bHk (x:Bool):eqV false (some x)=some (.iv (.bool x)):=id rfl
def aV0 (x:Option Nat):Option TV:=x.map fun (m:Nat)=>.iv (.int .i64 m)
def lK (ag:Bool)(x:Option (List TV)):Option TV:=match x with
 | some cs=>fC ag cs
 | none=>none
theorem aKf (ag:Bool)(l:List TV):lK ag (some l)=fC ag l:=id rfl
theorem aKg (v:TV):fC false [v]=some v:=id rfl
theorem aKh (l:List TV):fC true l=some (pF l):=id rfl
def aPj (off n:Nat)(x:Option (List TV)):Option (List TV):=match x with
 | some all=>sub all off n
 | none=>none
theorem aPk (off n:Nat)(l:List TV):aPj off n (some l)=sub l off n:=id rfl
def ixS (es:Nat)(x i:TV):Option TV:=match intOf i with
 | some n=>indexAddrS es x n
 | none=>none
theorem bBg (es:Nat)(x:TV)(kd:IntKind)(m:Int):ixS es x (.iv (.int kd m))=indexAddrS es x m:=id rfl
def ixA (len es:Nat)(x i:TV):Option TV:=match intOf i with
 | some n=>if 0≤n∧n<len then dY x (n.toNat*es) else none
 | none=>none
theorem aNx (len es:Nat)(x:TV)(kd:IntKind)(m:Int):ixA len es x (.iv (.int kd m))=if 0≤m∧m<len then dY x (m.toNat*es) else none:=id rfl
def aDk (x i:TV):Option TV:=match x,intOf i with
 | .iv (.str s),some n=>if 0≤n then (s[n.toNat]?).map fun b=>.iv (.int .u8 b.toNat) else none
 | _,_=>none
theorem aDl (s:List UInt8)(kd:IntKind)(m:Int):aDk (.iv (.str s)) (.iv (.int kd m))=if 0≤m then (s[m.toNat]?).map fun b=>.iv (.int .u8 b.toNat) else none:=id rfl
def oI:Option TV→Option (Option Int)
 | none=>some none
 | some x=>(intOf x).map some
theorem bBh:oI none=some none:=id rfl
theorem bBi (kd:IntKind)(m:Int):oI (some (.iv (.int kd m)))=some (some m):=id rfl
def slV (S:aA)(sk:SK)(x:TV)(lo hi mx:Option (Option Int)):Option TV:=match lo,hi,mx with
 | some lo,some hi,some mx=>cP S sk x lo hi mx
 | _,_,_=>none
theorem aV1 (sk:SK)(x:TV)(lo hi mx:Option Int):slV S sk x (some lo) (some hi) (some mx)=cP S sk x lo hi mx:=id rfl
def aB6 (kd:NK)(S:aA)(v:TV):Option TV:=if aD4 v=kd then aV0 (lenOf S v) else none
theorem aV2 (s:List UInt8):aB6 .str S (.iv (.str s))=some (.iv (.int .i64 s.length)):=id rfl
theorem bBj (t:Tag)(l:List (List IV)):aB6 .sl S (.iv (.sl t l))=some (.iv (.int .i64 l.length)):=id rfl
theorem aV3 (a b c d e f:Nat):aB6 .sl S (.msl a b c d e f)=some (.iv (.int .i64 d)):=id rfl
def bsV (x:Option (List (List IV))):Option TV:=match x with
 | some l=>(iU l).map fun b=>.iv (.str b)
 | none=>none
theorem aV4 (l:List (List IV)):bsV (some l)=(iU l).map fun b=>.iv (.str b):=id rfl
theorem pI:∀(l:List UInt8),iU (bL l)=some l
 | []=>rfl
 | b::l=>by
  have h:=pI l
  simp only[bL,List.map_cons,iU,aJk]at h ⊢
  rw[h]
  simp
def mkV (z:List IV)(bytes m:Nat)(l c:TV):Option (TV×aM):=match intOf l,intOf c with
 | some l,some c =>
  if 0≤l∧l≤c∧fR c.toNat bytes=true then
   some (.msl m 0 0 l.toNat c.toNat z.length,.cells 0 false (bO (List.replicate c.toNat (z.map .iv))))
  else none
 | _,_=>none
def aV5 (x:Option (List (List TV))):Option TV:=match x with
 | some es=>(iH es).map fun l=>.iv (.sl .full l)
 | none=>none
def aKi (m w:Nat)(x:Option (List (List TV))):Option (TV×aM):=match x with
 | some es=>some (.msl m 0 0 es.length es.length w,.cells 0 false (bO es))
 | none=>none
def mmV (mx:Bool)(l:List TV):Option TV:=match l with
 | .iv a::r=>(minmax mx a r).map .iv
 | _=>none
theorem aV6 (mx:Bool)(a:IV)(r:List TV):mmV mx (.iv a::r)=ivO (minmax mx a r):=id rfl
def vZ (w:Nat)(env:Env)(S:aA)(a v:TV):Option (TV×Env×aA) :=
 if (cellsOf v).length=w then match setCells env S a (cellsOf v) with
   | some (env,S)=>some (undef,env,S)
   | none=>none
  else none
def aA4 (x:Option (Env×aA)):Option (TV×Env×aA):=match x with
 | some (env,S)=>some (undef,env,S)
 | none=>none
theorem aHi:aA4 (some (env,S))=some (undef,env,S):=id rfl
theorem bFj {α:Type}{p:Prop}[Decidable p]{x y z:Out α}(h:p→x=z)(g:¬p→y=z):br (decide p) x y=z:=by
 by_cases hp:p
 ·simp only[hp,decide_true,rN]; exact h hp
 ·simp only[hp,decide_false,oD]; exact g hp
theorem bFk {α:Type}{a b:Int}{x y z:Out α}(h:a=b→x=z)(g:a≠b→y=z):br (a==b) x y=z:=by
 by_cases hp:a=b
 ·simp only[hp,beq_self_eq_true,rN]; exact h hp
 ·simp only[beq_eq_false_iff_ne.2 hp,oD]; exact g hp
theorem bFl {α:Type}{a b:Int}{x y z:Out α}(h:a≠b→x=z)(g:a=b→y=z):br (a != b) x y=z:=by
 by_cases hp:a=b
 ·simp only[hp,bne_self_eq_false,oD]; exact g hp
 ·simp only[bne_iff_ne.2 hp,rN]; exact h hp
theorem aPl (w:Nat)(a v:TV)(h:(cellsOf v).length=w):vZ w env S a v=aA4 (setCells env S a (cellsOf v)):=by
 simp only[vZ,h,↓reduceIte,aA4]
def bIs (env:Env)(x:Option (TV×aA)):Option (TV×Env×aA):=match x with
 | some (v,S)=>some (v,env,S)
 | none=>none
theorem aHj (x:Option (TV×aA)):opE K O (bIs env x) i k M n fs=opS K O x i k M n fs env:=by
 cases x<;>rfl
def aNy (f:Nat)(a b:List TV):Option TV:=if (a++b).any dH then none else some (.fn f a b)
def aV7 (env:Env)(S:aA)(v:TV):Option (TV×Env×aA):=match v with
  | .it j=>match S[j]? with
   | some (.sit s pos) =>
    if pos<s.length then
     let (c,width):=Utf8.decode ⟨s.toArray⟩ pos
     some (.tup [.iv (.bool true),.iv (.int .i64 pos),.iv (.int .i32 c)],env,S.set j (.sit s (pos+width)))
    else some (.tup [.iv (.bool false)],env,S)
   | _=>none
  | _=>none
def aKj (str:Bool)(env:Env)(S:aA)(v:TV):Option (TV×Env×aA):=match str,v with
  | true,.iv (.str s)=>some (.it S.length,env,S++[.sit s 0])
  | false,.iv .nilm=>some (.it S.length,env,S++[.mit none 0 [] 0])
  | false,.map j=>match S[j]? with
   | some (.mp _ clock)=>some (.it S.length,env,S++[.mit (some j) clock [] clock])
   | _=>none
  | _,_=>none
theorem aKk (s:List UInt8):aKj true env S (.iv (.str s))=some (.it S.length,env,S++[.sit s 0]):=id rfl
theorem bBk (x:aE):op1 K O (.mov x) i k M n fs env S=opV K O (some (opv K n env M x)) i k M n fs env S:=fW K O i k M n fs env S (id rfl)
theorem aV8 (c a b:aE):op1 K O (.pick c a b) i k M n fs env S=opP K O (opv K n env M c) (opv K n env M a) (opv K n env M b) i k M n fs env S:=by
 rw[fW K O i k M n fs env S rfl]
 simp only[aO,opP]
 cases opv K n env M c with
 | iv v =>
  cases v with
  | bool t=>cases t<;>rfl
  | _=>rfl
 | _=>rfl
theorem aPm (z:List IV)(ps:List (Nat×Nat×aE)):op1 K O (.build z ps) i k M n fs env S=opV K O ((fill (z.map .iv) (opv K n env M) ps).map pF) i k M n fs env S:=fW K O i k M n fs env S (id rfl)
theorem aE1 (x:aE):op1 K O (.nilCheck x) i k M n fs env S=opV K O (bBf (opv K n env M x)) i k M n fs env S:=fW K O i k M n fs env S (id rfl)
theorem bBl (op:BinOp)(x y:aE):op1 K O (.bin op x y) i k M n fs env S=opV K O (ivO (binOp op (opv K n env M x) (opv K n env M y))) i k M n fs env S:=fW K O i k M n fs env S (id rfl)
theorem bBm (neg:Bool)(ek:EK)(x y:aE):op1 K O (.eqB neg ek x y) i k M n fs env S=opV K O (eqV neg (eqB ek (opv K n env M x) (opv K n env M y))) i k M n fs env S:=fW K O i k M n fs env S (id rfl)
theorem bGl (neg:Bool)(offs:List (Nat×LK))(x y:aE):op1 K O (.eqAgg neg offs x y) i k M n fs env S=opV K O (ivO (eqAgg neg offs (opv K n env M x) (opv K n env M y))) i k M n fs env S:=fW K O i k M n fs env S (id rfl)
theorem bFm (op:UnOp)(x:aE):op1 K O (.un op x) i k M n fs env S=opV K O (ivO (unOp op (opv K n env M x))) i k M n fs env S:=fW K O i k M n fs env S (id rfl)
theorem aV9 (f:Nat)(a b:List aE):op1 K O (.mkFn f a b) i k M n fs env S=opV K O (aNy f (a.map (opv K n env M)) (b.map (opv K n env M))) i k M n fs env S:=fW K O i k M n fs env S (id rfl)
theorem aB7 (off:Nat)(x:aE):op1 K O (.fieldAddr off x) i k M n fs env S=opV K O (dY (opv K n env M x) off) i k M n fs env S:=fW K O i k M n fs env S (id rfl)
theorem aPn (off w:Nat)(ag:Bool)(x:aE):op1 K O (.field off w ag x) i k M n fs env S=opV K O (lK ag (aPj off w (eX (opv K n env M x)))) i k M n fs env S:=by
 rw[fW K O i k M n fs env S rfl]
 simp only[aO]
 cases eX (opv K n env M x) with
 | none=>rfl
 | some l=>simp only[aPj,lK]; cases sub l off w<;>rfl
theorem aA5 (es:Nat)(x y:aE):op1 K O (.indexAddrS es x y) i k M n fs env S=opV K O (ixS es (opv K n env M x) (opv K n env M y)) i k M n fs env S:=fW K O i k M n fs env S (id rfl)
theorem aA6 (len es:Nat)(x y:aE):op1 K O (.indexAddrA len es x y) i k M n fs env S=opV K O (ixA len es (opv K n env M x) (opv K n env M y)) i k M n fs env S:=fW K O i k M n fs env S (id rfl)
theorem aKl (x y:aE):op1 K O (.indexS x y) i k M n fs env S=opV K O (aDk (opv K n env M x) (opv K n env M y)) i k M n fs env S:=fW K O i k M n fs env S (id rfl)
theorem aHk (j:Nat)(x:aE):op1 K O (.extract j x) i k M n fs env S=opV K O (xtr j (opv K n env M x)) i k M n fs env S:=fW K O i k M n fs env S (id rfl)
theorem bBn (x:aE):op1 K O (.cap x) i k M n fs env S=opV K O (aV0 (zJ (opv K n env M x))) i k M n fs env S:=fW K O i k M n fs env S (id rfl)
theorem bHl (m:Nat):op1 K O (.lenC m) i k M n fs env S=opV K O (some (.iv (.int .i64 m))) i k M n fs env S:=fW K O i k M n fs env S (id rfl)
theorem aKm (mx:Bool)(xs:List aE):op1 K O (.minmax mx xs) i k M n fs env S=opV K O (mmV mx (xs.map (opv K n env M))) i k M n fs env S:=fW K O i k M n fs env S (id rfl)
theorem aPo (a:aE):op1 K O (.load1 a) i k M n fs env S=opV K O (lK false (bB env S (opv K n env M a) 1)) i k M n fs env S:=vY K O i k M n fs env S (id rfl)
theorem aPp (w:Nat)(a:aE):op1 K O (.loadN w a) i k M n fs env S=opV K O (lK true (bB env S (opv K n env M a) w)) i k M n fs env S:=vY K O i k M n fs env S (id rfl)
theorem aPq (sk:SK)(x:aE)(lo hi mx:Option aE):op1 K O (.slice sk x lo hi mx) i k M n fs env S=opV K O (slV S sk (opv K n env M x) (oI (lo.map (opv K n env M))) (oI (hi.map (opv K n env M))) (oI (mx.map (opv K n env M)))) i k M n fs env S:=by
 rw[vY K O i k M n fs env S rfl]
 simp only[aJ,slV]
 cases lo<;>cases hi<;>cases mx<;>rfl
theorem aKn (kk:KK)(z:IV)(ok:Bool)(m y:aE):op1 K O (.lookup kk z ok m y) i k M n fs env S=opV K O (aJ (.lookup kk z ok m y) (opv K n env M) env S) i k M n fs env S:=vY K O i k M n fs env S (id rfl)
theorem bFn (x:aE):op1 K O (.entryM x) i k M n fs env S=opV K O (aJ (.entryM x) (opv K n env M) env S) i k M n fs env S:=vY K O i k M n fs env S (id rfl)
theorem bBo (nk:NK)(x:aE):op1 K O (.len nk x) i k M n fs env S=opV K O (aB6 nk S (opv K n env M x)) i k M n fs env S:=vY K O i k M n fs env S (id rfl)
theorem uW (c:CK)(hc:c≠.bytesStr)(x:aE):op1 K O (.conv c x) i k M n fs env S=opV K O (ivO (cM c (opv K n env M x))) i k M n fs env S:=by
 simp only[op1,ec4]
 show er ((Out.need _ (match (cM c (opv K n env M x)).map TV.iv with|some v=>some v|none=>aJ (.conv c x) (opv K n env M) env S) _).bind _)=_
 cases h:cM c (opv K n env M x) with
 | some v=>simp only[Option.map,Out.need,Out.bind,ivO,opV,jZ]
 | none =>
  have:aJ (.conv c x) (opv K n env M) env S=none:=by cases c<;>first|rfl|exact absurd rfl hc
  simp only[this,Option.map,Out.need,Out.bind,ivO,opV,er]
theorem aPr (kd:IntKind)(x:aE):op1 K O (.conv (.toInt kd) x) i k M n fs env S=opV K O (ivO (cM (.toInt kd) (opv K n env M x))) i k M n fs env S:=uW K O i k M n fs env S _ (by simp) x
theorem bFo (x:aE):op1 K O (.conv .intStr x) i k M n fs env S=opV K O (ivO (cM .intStr (opv K n env M x))) i k M n fs env S:=uW K O i k M n fs env S _ (by simp) x
theorem bFp (x:aE):op1 K O (.conv .strStr x) i k M n fs env S=opV K O (ivO (cM .strStr (opv K n env M x))) i k M n fs env S:=uW K O i k M n fs env S _ (by simp) x
theorem aE2 (x:aE):op1 K O (.conv .strBytes x) i k M n fs env S=opV K O (ivO (cM .strBytes (opv K n env M x))) i k M n fs env S:=uW K O i k M n fs env S _ (by simp) x
theorem aE3 (x:aE):op1 K O (.conv .bytesStr x) i k M n fs env S=opV K O (bsV (eR S (opv K n env M x))) i k M n fs env S:=by
 simp only[op1,ec4]
 have hc:cM .bytesStr (bA K env (cO M n) x)=none:=by
  unfold cM
  cases bA K env (cO M n) x with
  | iv v=>cases v<;>rfl
  | _=>rfl
 simp only[hc,Option.map]
 show er ((Out.need _ (bsV (eR S (opv K n env M x))) _).bind _)=_
 cases bsV (eR S (opv K n env M x)) with
 | some v=>simp only[Out.need,Out.bind,opV,jZ]
 | none=>rfl
def aHl (w:Nat)(x:Option (List (List IV)))(es:Option (List (List TV)))(i:Nat)(k:Kt)(M:List (Nat×TV))(n:Nat)(fs:List Fr)(env:Env)(S:aA):Out (bJ×Env×aA) :=
 match x with
 | some l=>opV K O (some (.iv (.sl .full l))) i k M n fs env S
 | none=>opA K O (aKi S.length w es) i k M n fs env S
@[congr] theorem litQ_congr (w:Nat) {x x':Option (List (List IV))} (h:x=x') {es es':Option (List (List TV))} (h2:es=es'):aHl K O w x es i k M n fs env S=aHl K O w x' es' i k M n fs env S:=by rw[h,h2]
theorem aPs (w:Nat)(l:List (List IV))(es:Option (List (List TV))):aHl K O w (some l) es i k M n fs env S=cont K O k ((i,.iv (.sl .full l))::M) n fs env S:=id rfl
theorem bGm (w:Nat)(es:Option (List (List TV))):aHl K O w none es i k M n fs env S=opA K O (aKi S.length w es) i k M n fs env S:=id rfl
def bBp (x:Option (List (List TV))):Option (List (List IV)):=match x with
 | some es=>iH es
 | none=>none
theorem aPt (l:List (List TV)):bBp (some l)=iH l:=id rfl
theorem bBq (z:List IV)(len:Nat)(ps:List (Nat×aE)):op1 K O (.lit false z len ps) i k M n fs env S=aHl K O z.length (bBp (dK (List.replicate len (z.map .iv)) z.length (opv K n env M) ps)) (dK (List.replicate len (z.map .iv)) z.length (opv K n env M) ps) i k M n fs env S:=by
 simp only[op1,kW K O env _ S _ (show bV (.lit false z len ps)≠5 by simp[bV])]
 have p:aO (.lit false z len ps) (bA K env (cO M n))=aV5 (dK (List.replicate len (z.map .iv)) z.length (opv K n env M) ps):=rfl
 have r:aJ (.lit false z len ps) (bA K env (cO M n)) env S=none:=rfl
 have a:bN (.lit false z len ps) (bA K env (cO M n)) S.length=aKi S.length z.length (dK (List.replicate len (z.map .iv)) z.length (opv K n env M) ps):=rfl
 have s:fL (.lit false z len ps) (bA K env (cO M n)) (cO M n) env S=none:=rfl
 simp only[gY,gJ,p,r,a,s]
 cases dK (List.replicate len (z.map .iv)) z.length (opv K n env M) ps with
 | none=>rfl
 | some es =>
  simp only[aV5,bBp]
  cases iH es with
  | some l=>simp only[Option.map,Out.ofOpt,Out.bind,aHl,opV,jZ]
  | none=>simp only[Option.map,Out.ofOpt,Out.bind,aHl,aKi,opA,jZ]
theorem bHm (z:List IV)(len:Nat)(ps:List (Nat×aE)):op1 K O (.lit true z len ps) i k M n fs env S=opA K O (aKi S.length z.length (dK (List.replicate len (z.map .iv)) z.length (opv K n env M) ps)) i k M n fs env S:=by
 simp only[op1,kW K O env _ S _ (show bV (.lit true z len ps)≠5 by simp[bV])]
 have p:aO (.lit true z len ps) (bA K env (cO M n))=none:=rfl
 have r:aJ (.lit true z len ps) (bA K env (cO M n)) env S=none:=rfl
 have a:bN (.lit true z len ps) (bA K env (cO M n)) S.length=aKi S.length z.length (dK (List.replicate len (z.map .iv)) z.length (opv K n env M) ps):=rfl
 have s:fL (.lit true z len ps) (bA K env (cO M n)) (cO M n) env S=none:=rfl
 simp only[gY,gJ,p,r,a,s]
 cases aKi S.length z.length (dK (List.replicate len (z.map .iv)) z.length (opv K n env M) ps) with
 | some v=>simp only[Out.ofOpt,Out.bind,opA,jZ]
 | none=>rfl
theorem aKo (t:Nat)(z:List IV):op1 K O (.allocH t z) i k M n fs env S=opS K O (some (.ptr S.length t 0,S++[.cells t false (z.map .iv)])) i k M n fs env:=aE0 K O i k M n fs env S (id rfl)
theorem aPu:op1 K O .mkMap i k M n fs env S=opS K O (some (.map S.length,S++[.mp [] 0])) i k M n fs env:=aE0 K O i k M n fs env S (id rfl)
theorem bDo (z:List IV)(bytes:Nat)(l c:aE):op1 K O (.mkSlice z bytes l c) i k M n fs env S=opA K O (mkV z bytes S.length (opv K n env M l) (opv K n env M c)) i k M n fs env S:=aE0 K O i k M n fs env S (id rfl)
def bFq (t m:Nat)(v:TV):Option (TV×aM):=if (cellsOf v).any bM then none else some (.ptr m t 0,.cells t false (cellsOf v))
theorem aWa (t:Nat)(x:aE):op1 K O (.boxH t x) i k M n fs env S=opA K O (bFq t S.length (opv K n env M x)) i k M n fs env S:=aE0 K O i k M n fs env S (id rfl)
def aHm (j:Nat):List (Nat×TV)→Bool
 | []=>true
 | (_,v)::M=>!(rS j v)&&aHm j M
theorem aHn {j:Nat}:∀ {M:List (Nat×TV)},aHm j M=true→∀m,rS j (reg M m)=false
 | [],_,m=>rfl
 | (a,v)::M,h,m=>by
  simp only[aHm,Bool.and_eq_true,Bool.not_eq_true']at h
  simp only[reg]
  split
  ·exact h.1
  ·exact aHn h.2 m
theorem aDm {j:Nat}{M:List (Nat×TV)}(h:aHm j M=true):(cO M n).any (rS j)=false:=by
 rw[List.any_eq_false]
 intro x hx
 simp only[cO,List.mem_map]at hx
 obtain⟨m,_,rfl⟩:=hx
 simp[aHn h m]
def alB (c:Bool)(x y:Out (bJ×Env×aA)):Out (bJ×Env×aA):=bif c then x else y
@[congr] theorem alB_congr {c c':Bool} (h:c=c') (x y:Out (bJ×Env×aA)):alB c x y=alB c' x y:=by rw[h]
theorem aA7 (x y:Out (bJ×Env×aA)):alB true x y=x:=id rfl
theorem aHo (j:Nat)(z:List IV)(h:aHm j M=true)(hj:j<env.length):op1 K O (.allocL j z) i k M n fs env S=opE K O (some (.lp j 0,env.set j (.lb (z.map .iv)),S)) i k M n fs:=by
 rw[pD K O i k M n fs env S (id rfl) (by simp)]
 simp only[fL,aDm n h,hj,decide_true,Bool.not_true,Bool.or_self,Bool.false_eq_true,↓reduceIte]
theorem aPv (j:Nat)(x:aE)(h:aHm j M=true)(hj:j<env.length):op1 K O (.boxL j x) i k M n fs env S=opE K O (if (cellsOf (opv K n env M x)).any bM then none else some (.lp j 0,env.set j (.lb (cellsOf (opv K n env M x))),S)) i k M n fs:=by
 rw[pD K O i k M n fs env S (id rfl) (by simp)]
 simp only[fL,aDm n h,hj,decide_true,Bool.not_true,Bool.or_false]
def okL (j:Nat)(M:List (Nat×TV))(env:Env):Bool:=aHm j M&&decide (j<env.length)
theorem aKp (j:Nat)(z:List IV):op1 K O (.allocL j z) i k M n fs env S=alB (okL j M env) (opE K O (some (.lp j 0,env.set j (.lb (z.map .iv)),S)) i k M n fs) (op1 K O (.allocL j z) i k M n fs env S):=by
 cases h:okL j M env with
 | false=>rfl
 | true =>
  simp only[okL,Bool.and_eq_true,decide_eq_true_eq]at h
  rw[aA7,aHo K O i k M n fs env S j z h.1 h.2]
theorem aWb (j:Nat)(x:aE):op1 K O (.boxL j x) i k M n fs env S=alB (okL j M env) (opE K O (if (cellsOf (opv K n env M x)).any bM then none else some (.lp j 0,env.set j (.lb (cellsOf (opv K n env M x))),S)) i k M n fs) (op1 K O (.boxL j x) i k M n fs env S):=by
 cases h:okL j M env with
 | false=>rfl
 | true =>
  simp only[okL,Bool.and_eq_true,decide_eq_true_eq]at h
  rw[aA7,aPv K O i k M n fs env S j x h.1 h.2]
theorem aPw (w:Nat)(a v:aE):op1 K O (.store w a v) i k M n fs env S=opE K O (vZ w env S (opv K n env M a) (opv K n env M v)) i k M n fs:=pD K O i k M n fs env S rfl (by simp)
theorem aKq (kk:KK)(m y x:aE):op1 K O (.update kk m y x) i k M n fs env S=opE K O (fL (.update kk m y x) (opv K n env M) (cO M n) env S) i k M n fs:=pD K O i k M n fs env S rfl (by simp)
theorem aPx (str:Bool)(x:aE):op1 K O (.range str x) i k M n fs env S=opE K O (aKj str env S (opv K n env M x)) i k M n fs:=pD K O i k M n fs env S rfl (by simp)
theorem aPy (x:aE):op1 K O (.nextS x) i k M n fs env S=opE K O (aV7 env S (opv K n env M x)) i k M n fs:=pD K O i k M n fs env S rfl (by simp)
theorem aKr (mu:Bool)(es bytes el:Nat)(s x:aE):op1 K O (.append mu es bytes el s x) i k M n fs env S=opS K O (bR mu es bytes el S (opv K n env M s) (opv K n env M x)) i k M n fs env:=by
 rw[pD K O i k M n fs env S rfl (by simp),←aHj]; rfl
theorem bHn (es:Nat)(d s:aE):op1 K O (.copy es d s) i k M n fs env S=opS K O (aD6 es S (opv K n env M d) (opv K n env M s)) i k M n fs env:=by
 rw[pD K O i k M n fs env S rfl (by simp),←aHj]; rfl
def cpV (S:aA)(args:List TV)(v:Option TV):Out (TV×aA) :=
 match v with
 | none => .fail ""
 | some v =>
  if args.any pY&&!(iA v) then
   match eY S args with
   | some S=>.ret (v,S)
   | none => .fail ""
  else .ret (v,S)
def cpR (S:aA)(args:List TV)(x:Out (TV×aA)):Out (TV×aA):=(er x).bind fun r=>cpV S args (resolve r.2 r.1)
def cpA (S:aA)(args:List TV)(f:Nat)(ags:Option (List TV)):Out (TV×aA) :=
 match ags with
 | none => .fail ""
 | some ags=>cpR S args (O.call f ags [])
@[congr] theorem cpV_congr (args:List TV) {v v':Option TV} (h:v=v'):cpV S args v=cpV S args v':=by rw[h]
@[congr] theorem cpR_congr (args:List TV) {v v':Out (TV×aA)} (h:v=v'):cpR S args v=cpR S args v':=by rw[h]
@[congr] theorem cpA_congr (args:List TV) (f:Nat) {v v':Option (List TV)} (h:v=v'):cpA O S args f v=cpA O S args f v':=by rw[h]
theorem aWc (args ags:List TV)(f:Nat):cpA O S args f (some ags)=cpR S args (O.call f ags []):=id rfl
theorem bBr (args:List TV)(v:TV)(S':aA):cpR S args (.ret (v,S'))=cpV S args (resolve S' v):=id rfl
def cpB (c:Bool)(S:aA)(args:List TV)(v:TV):Out (TV×aA) :=
 if c then match eY S args with
   | some S=>.ret (v,S)
   | none => .fail ""
  else .ret (v,S)
@[congr] theorem cpB_congr {c c':Bool} (h:c=c') (args:List TV) (v:TV):cpB c S args v=cpB c' S args v:=by rw[h]
theorem aWd (args:List TV)(v:TV):cpV S args (some v)=cpB (args.any pY&&!(iA v)) S args v:=id rfl
theorem aPz (args:List TV)(v:TV):cpB false S args v=.ret (v,S):=id rfl
def bFr (v:TV)(x:Option aA):Out (TV×aA):=match x with
 | some S=>.ret (v,S)
 | none => .fail ""
theorem bGn (v:TV):bFr v (some S)=.ret (v,S):=id rfl
theorem bHo (args:List TV)(v:TV):cpB true S args v=bFr v (eY S args):=by
 simp only[cpB,↓reduceIte,bFr]
theorem xS (f:Nat)(args:List TV):er (eE O f args S)=cpA O S args f (dG S args):=by
 unfold eE cpA
 cases dG S args with
 | none=>rfl
 | some ags =>
  simp only[cpR,fV]
  refine Out.bind_congr fun r=>?_
  cases resolve r.2 r.1 with
  | none=>rfl
  | some v =>
   simp only[cpV]
   split
   ·cases eY S args<;>rfl
   ·rfl
theorem aA8 (x:Out (TV×aA)):er (x.bind fun r=>cont K O k ((i,r.1)::M) n fs env r.2)=opC K O (er x) i k M n fs env:=by
 rw[fV]
 simp only[opC,jZ]
theorem aP0 (t:Bool)(f:Nat)(args:List aE):op1 K O (.call true t f args) i k M n fs env S=opC K O (cpA O S (args.map (opv K n env M)) f (dG S (args.map (opv K n env M)))) i k M n fs env:=by
 rw[←xS,←aA8]
 simp only[op1,bU,Out.bind_assoc,Out.bind,↓reduceIte]
 rfl
def csR (t:Bool)(S:aA)(x:Out (TV×aA)):Out (TV×aA):=(er x).bind fun r =>
 if t then match qA S.length r.1 r.2 with
  | some S'=>.ret (r.1,S')
  | none => .fail ""
 else .ret r
def csA (t : Bool) (S : aA) (f : Nat) (lp : Bool) (args : List TV) : Out (TV × aA) := if lp then .fail "" else csR t S (O.call f args S)
@[congr] theorem csR_congr (t:Bool) {v v':Out (TV×aA)} (h:v=v'):csR t S v=csR t S v':=by rw[h]
theorem bFs (t:Bool)(f:Nat)(args:List TV):csA O t S f false args=csR t S (O.call f args S):=id rfl
theorem bHp (v:TV)(S':aA):csR false S (.ret (v,S'))=.ret (v,S'):=id rfl
def trV (v:TV)(x:Option aA):Out (TV×aA):=match x with
 | some S'=>.ret (v,S')
 | none => .fail ""
theorem bHq (v:TV):trV v (some S)=.ret (v,S):=id rfl
theorem bJh (v:TV)(S':aA):csR true S (.ret (v,S'))=trV v (qA S.length v S'):=by
 simp only[csR,er,Out.bind,↓reduceIte,trV]
theorem aDn (t:Bool)(f:Nat)(args:List TV):er (gZ O t f args S)=csA O t S f (args.any dH) args:=by
 unfold gZ csA
 split
 ·rfl
 ·simp only[csR,fV]
  refine Out.bind_congr fun r=>?_
  cases t
  ·rfl
  ·simp only[↓reduceIte]
   cases qA S.length r.1 r.2<;>rfl
theorem aP1 (t:Bool)(f:Nat)(args:List aE):op1 K O (.call false t f args) i k M n fs env S=opC K O (csA O t S f ((args.map (opv K n env M)).any dH) (args.map (opv K n env M))) i k M n fs env:=by
 rw[←aDn,←aA8]
 simp only[op1,bU,Out.bind_assoc,Out.bind,Bool.false_eq_true,↓reduceIte]
 rfl
def prV (S:aA)(p:Option aD8)(args:List TV):Option (TV×aA):=match p with
 | some p=>if args.any dH then none else p args S
 | none=>none
theorem aWe (f:Nat)(args:List aE):op1 K O (.prim f args) i k M n fs env S=opS K O (prV S (K.prim f) (args.map (opv K n env M))) i k M n fs env:=by
 simp only[op1,bU]
 show er (Out.bind (match K.prim f with | some p => if (args.map (opv K n env M)).any dH = true then .fail "prim: a local's address" else Out.bind (Out.ofOpt "prim" (p (args.map (opv K n env M)) S)) fun r => .ret (r.1, env, r.2) | none => .fail "prim") _) = _
 cases K.prim f with
 | none=>rfl
 | some p =>
  simp only[prV]
  split
  ·rfl
  ·cases p (args.map (opv K n env M)) S with
   | none=>rfl
   | some q=>simp only[Out.ofOpt,Out.bind,opS,jZ]
def fin (rs:List lZ)(x:Out (bJ×Env×aA)):Out (TV×aA) :=
 x.bind fun r=>match r.1 with
  | .exit _ => .fail ""
  | _=>match lE rs r.2.1 r.2.2 with
   | some v=>.ret (v,r.2.2)
   | none => .fail ""
@[congr] theorem fin_congr (rs:List lZ) {x x':Out (bJ×Env×aA)} (h:x=x'):fin rs x=fin rs x':=by rw[h]
def aP2 (S:aA)(v:Option TV):Out (TV×aA):=match v with
 | some v=>.ret (v,S)
 | none => .fail ""
theorem aP3 (v:TV):aP2 S (some v)=.ret (v,S):=id rfl
theorem bBs (rs:List lZ):fin rs (.ret (.ret,env,S))=aP2 S (lE rs env S):=by
 simp only[fin,Out.bind,aP2]
theorem aKs (rs:List lZ):fin rs (.ret (.normal,env,S))=aP2 S (lE rs env S):=by
 simp only[fin,Out.bind,aP2]
theorem bFt (rs:List lZ)(B:Bool)(x y:Out (bJ×Env×aA)):fin rs (br B x y)=br B (fin rs x) (fin rs y):=by cases B<;>rfl
theorem xT (f:Nat)(args:List TV)(fn:bH)(hf:K.funcs f=some fn)(ha:args.length=fn.nparams):er (eF K O f args S)=fin fn.results (go K O fn.body [] (args++List.replicate (fn.nlocs-fn.nparams) undef) S):=by
 simp only[eF,hf,ha,ne_eq,not_true_eq_false,↓reduceIte,go,fin]
 rw[fV]
 have e:(eH K O fn.body (args++List.replicate (fn.nlocs-fn.nparams) undef) S).bind (fun r=>back K O [] r.1 r.2.1 r.2.2)=eH K O fn.body (args++List.replicate (fn.nlocs-fn.nparams) undef) S:=by
  cases eH K O fn.body (args++List.replicate (fn.nlocs-fn.nparams) undef) S with
  | ret a=>rfl
  | fail s=>rfl
  | pick n k=>simp only[Out.bind]; congr; funext i; exact bind_back (k i)
 rw[e]
 refine Out.bind_congr fun r=>?_
 obtain⟨j,e,S'⟩:=r
 cases j with
 | exit i=>rfl
 | _=>simp only; cases lE fn.results e S'<;>rfl
where
 bind_back:∀x:Out (bJ×Env×aA),(x.bind fun r=>back K O [] r.1 r.2.1 r.2.2)=x
  | .ret a=>rfl
  | .fail s=>rfl
  | .pick n k=>by simp only[Out.bind]; congr; funext i; exact bind_back (k i)
theorem aWf {f:Nat}{args:List TV}{fn:bH}{r:TV×aA}(hf:K.funcs f=some fn)(ha:args.length=fn.nparams)(h:fin fn.results (go K (lim K) fn.body [] (args++List.replicate (fn.nlocs-fn.nparams) undef) S)=.ret r):(lim K).call f args S=.ret r :=
 aU9 (aVb ((xT K (lim K) S f args fn hf ha).trans h))
def rnd (b:aP)(x:Out (bJ×Env×aA)):Out (bJ×Env×aA) :=
 x.bind fun r=>match r.1 with
  | .normal=>er (lp O b r.2.1 r.2.2)
  | j=>.ret (j,r.2.1,r.2.2)
@[congr] theorem rnd_congr (b:aP) {x x':Out (bJ×Env×aA)} (h:x=x'):rnd O b x=rnd O b x':=by rw[h]
theorem aKt (b:aP):rnd O b (.ret (.normal,env,S))=er (lp O b env S):=id rfl
theorem bBt (b:aP):rnd O b (.ret (.ret,env,S))=.ret (.ret,env,S):=id rfl
theorem aWg (b:aP)(id:Nat):rnd O b (.ret (.exit id,env,S))=.ret (.exit id,env,S):=by simp only[rnd,Out.bind]
theorem bIt (b:aP)(B:Bool)(x y:Out (bJ×Env×aA)):rnd O b (br B x y)=br B (rnd O b x) (rnd O b y):=by cases B<;>rfl
theorem aWh {b:aP}{r:bJ×Env×aA}(h:rnd (lim K) b (go K (lim K) b [] env S)=.ret r):lp (lim K) b env S=.ret r:=by
 refine aVa (aVb ?_)
 rw[←h]
 simp only[mG,rnd,go]
 rw[fV]
 have e:=xT.bind_back K (lim K) (eH K (lim K) b env S)
 rw[e]
 refine Out.bind_congr fun r=>?_
 obtain⟨j,e,S'⟩:=r
 cases j<;>rfl
end
end Go.TM
namespace Go.TM
section
variable (K:bI)(O:Orc)(i:Nat)(k:Kt)(M:List (Nat×TV))(n:Nat)(fs:List Fr)(env:Env)(S:aA)
def flM (o:TOp):Option TV:=gJ K o env (cO M n) S
theorem jJ {o:TOp}(h:bV o=0):flM K M n env S o=aO o (opv K n env M):=by
 have r:∀e,aJ o e env S=none:=by intro e; cases o<;>first|rfl|simp[bV]at h
 simp only[flM,gJ,r]
 show (match aO o (opv K n env M) with|some v=>some v|none=>none)=_
 cases aO o (opv K n env M)<;>rfl
theorem aNz {o:TOp}(h:bV o=1):flM K M n env S o=aJ o (opv K n env M) env S:=by
 have p:∀e,aO o e=none:=by intro e; cases o<;>first|rfl|simp[bV]at h
 simp only[flM,gJ,p]
 rfl
theorem yX (c:CK)(hc:c≠.bytesStr)(x:aE):flM K M n env S (.conv c x)=ivO (cM c (opv K n env M x)):=by
 have r:aJ (.conv c x) (opv K n env M) env S=none:=by cases c<;>first|rfl|exact absurd rfl hc
 show (match ((cM c (opv K n env M x)).map TV.iv) with|some v=>some v|none=>aJ (.conv c x) (opv K n env M) env S)=_
 rw[r]
 cases cM c (opv K n env M x)<;>rfl
theorem bDp (x:aE):flM K M n env S (.conv .bytesStr x)=bsV (eR S (opv K n env M x)):=by
 have hc:cM .bytesStr (opv K n env M x)=none:=by
  unfold cM
  cases opv K n env M x with
  | iv v=>cases v<;>rfl
  | _=>rfl
 show (match ((cM .bytesStr (opv K n env M x)).map TV.iv) with|some v=>some v|none=>aJ (.conv .bytesStr x) (opv K n env M) env S)=_
 rw[hc]; rfl
theorem bIu (z:List IV)(len:Nat)(ps:List (Nat×aE)):flM K M n env S (.lit false z len ps)=aV5 (dK (List.replicate len (z.map .iv)) z.length (opv K n env M) ps):=by
 have r:aJ (.lit false z len ps) (opv K n env M) env S=none:=rfl
 show (match aV5 (dK (List.replicate len (z.map .iv)) z.length (opv K n env M) ps) with|some v=>some v|none=>none)=_
 cases aV5 (dK (List.replicate len (z.map .iv)) z.length (opv K n env M) ps)<;>rfl
def bHr (c a b:TV):Option TV:=match vG c with
  | some t=>some (if t then a else b)
  | none=>none
theorem bIb (c a b:aE):flM K M n env S (.pick c a b)=bHr (opv K n env M c) (opv K n env M a) (opv K n env M b):=jJ K M n env S (id rfl)
theorem bIv (x:aE):flM K M n env S (.mov x)=some (opv K n env M x):=jJ K M n env S (id rfl)
theorem bHs (z:List IV)(ps:List (Nat×Nat×aE)):flM K M n env S (.build z ps)=(fill (z.map .iv) (opv K n env M) ps).map pF:=jJ K M n env S (id rfl)
theorem bDq (x:aE):flM K M n env S (.nilCheck x)=bBf (opv K n env M x):=jJ K M n env S (id rfl)
theorem bIw (op:BinOp)(x y:aE):flM K M n env S (.bin op x y)=ivO (binOp op (opv K n env M x) (opv K n env M y)):=jJ K M n env S (id rfl)
theorem bIx (neg:Bool)(ek:EK)(x y:aE):flM K M n env S (.eqB neg ek x y)=eqV neg (eqB ek (opv K n env M x) (opv K n env M y)):=jJ K M n env S (id rfl)
theorem bHt (neg:Bool)(offs:List (Nat×LK))(x y:aE):flM K M n env S (.eqAgg neg offs x y)=ivO (eqAgg neg offs (opv K n env M x) (opv K n env M y)):=jJ K M n env S (id rfl)
theorem bJi (op:UnOp)(x:aE):flM K M n env S (.un op x)=ivO (unOp op (opv K n env M x)):=jJ K M n env S (id rfl)
theorem bIc (f:Nat)(a b:List aE):flM K M n env S (.mkFn f a b)=aNy f (a.map (opv K n env M)) (b.map (opv K n env M)):=jJ K M n env S (id rfl)
theorem bBu (off:Nat)(x:aE):flM K M n env S (.fieldAddr off x)=dY (opv K n env M x) off:=jJ K M n env S (id rfl)
theorem bHu (off w:Nat)(ag:Bool)(x:aE):flM K M n env S (.field off w ag x)=lK ag (aPj off w (eX (opv K n env M x))):=by
 rw[jJ K M n env S rfl]
 simp only[aO]
 cases eX (opv K n env M x) with
 | none=>rfl
 | some l=>simp only[aPj,lK]; cases sub l off w<;>rfl
theorem aY1 (es:Nat)(x y:aE):flM K M n env S (.indexAddrS es x y)=ixS es (opv K n env M x) (opv K n env M y):=jJ K M n env S (id rfl)
theorem aY2 (len es:Nat)(x y:aE):flM K M n env S (.indexAddrA len es x y)=ixA len es (opv K n env M x) (opv K n env M y):=jJ K M n env S (id rfl)
theorem bGo (x y:aE):flM K M n env S (.indexS x y)=aDk (opv K n env M x) (opv K n env M y):=jJ K M n env S (id rfl)
theorem bFu (j:Nat)(x:aE):flM K M n env S (.extract j x)=xtr j (opv K n env M x):=jJ K M n env S (id rfl)
theorem bIy (x:aE):flM K M n env S (.cap x)=aV0 (zJ (opv K n env M x)):=jJ K M n env S (id rfl)
theorem bId (m:Nat):flM K M n env S (.lenC m)=some (.iv (.int .i64 m)):=jJ K M n env S (id rfl)
theorem bGp (mx:Bool)(xs:List aE):flM K M n env S (.minmax mx xs)=mmV mx (xs.map (opv K n env M)):=jJ K M n env S (id rfl)
theorem aWi (a:aE):flM K M n env S (.load1 a)=lK false (bB env S (opv K n env M a) 1):=aNz K M n env S (id rfl)
theorem aWj (w:Nat)(a:aE):flM K M n env S (.loadN w a)=lK true (bB env S (opv K n env M a) w):=aNz K M n env S (id rfl)
theorem bHv (sk:SK)(x:aE)(lo hi mx:Option aE):flM K M n env S (.slice sk x lo hi mx)=slV S sk (opv K n env M x) (oI (lo.map (opv K n env M))) (oI (hi.map (opv K n env M))) (oI (mx.map (opv K n env M))):=by
 rw[aNz K M n env S rfl]
 simp only[aJ,slV]
 cases lo<;>cases hi<;>cases mx<;>rfl
theorem bIz (nk:NK)(x:aE):flM K M n env S (.len nk x)=aB6 nk S (opv K n env M x):=aNz K M n env S (id rfl)
theorem bHw (kd:IntKind)(x:aE):flM K M n env S (.conv (.toInt kd) x)=ivO (cM (.toInt kd) (opv K n env M x)):=yX K M n env S _ (by simp) x
theorem bGq (x:aE):flM K M n env S (.conv .intStr x)=ivO (cM .intStr (opv K n env M x)):=yX K M n env S _ (by simp) x
theorem bGr (x:aE):flM K M n env S (.conv .strStr x)=ivO (cM .strStr (opv K n env M x)):=yX K M n env S _ (by simp) x
theorem bDr (x:aE):flM K M n env S (.conv .strBytes x)=ivO (cM .strBytes (opv K n env M x)):=yX K M n env S _ (by simp) x
mutual
theorem xU:∀(a:IV),fK a a=true
 | .bool b=>by simp[fK]
 | .int k n=>by simp[fK]
 | .str s=>by simp[fK]
 | .sl t l=>by simp[fK,sI l]
 | .agg l=>by simp[fK,lR l]
 | .cp l=>by simp[fK,lR l]
 | .nilp=>rfl
 | .nilm=>rfl
 | .nilf=>rfl
 | .nili=>rfl
theorem lR:∀(l:List IV),jW l l=true
 | []=>rfl
 | a::l=>by simp[jW,xU a,lR l]
theorem sI:∀(l:List (List IV)),iW l l=true
 | []=>rfl
 | a::l=>by simp[iW,lR a,sI l]
end
theorem bBv (a:IV):same (.iv a) (.iv a)=true:=xU a
theorem aWk (a b c:Nat):same (.ptr a b c) (.ptr a b c)=true:=by simp[same,aGd]
def rck (ops:List aG)(M:List (Nat×TV))(n:Nat)(env:Env)(S:aA)(c:List Nat):Bool:=lN K ops (cO M n) env S c
def rcS (v:Option TV)(w:TV):Bool:=match v with
 | some v=>same v w
 | none=>false
theorem aWl (v w:TV):rcS (some v) w=same v w:=id rfl
def rcG (g:TV)(want:Bool)(j:Nat)(M:List (Nat×TV))(n:Nat)(env:Env)(S:aA)(o:TOp):Bool:=match g with
 | .iv (.bool b)=>if b==want then rcS (flM K M n env S o) (opv K n env M (.reg j)) else true
 | .tup []=>true
 | _=>false
theorem bGs (want:Bool)(j:Nat)(o:TOp):rcG K (.tup []) want j M n env S o=true:=id rfl
theorem aWm (b want:Bool)(j:Nat)(o:TOp):rcG K (.iv (.bool b)) want j M n env S o=if b==want then rcS (flM K M n env S o) (opv K n env M (.reg j)) else true:=id rfl
def rcO (x:Option aG)(j:Nat)(M:List (Nat×TV))(n:Nat)(env:Env)(S:aA):Bool:=match x with
 | some ⟨o,_,none⟩=>rcS (flM K M n env S o) (opv K n env M (.reg j))
 | some ⟨o,_,some (g,want)⟩=>rcG K (opv K n env M (.reg g)) want j M n env S o
 | none=>false
theorem aWn (o:TOp)(l:Option Nat)(j:Nat):rcO K (some ⟨o,l,none⟩) j M n env S=rcS (flM K M n env S o) (opv K n env M (.reg j)):=id rfl
theorem aP4 (o:TOp)(l:Option Nat)(g:Nat)(want:Bool)(j:Nat):rcO K (some ⟨o,l,some (g,want)⟩) j M n env S=rcG K (opv K n env M (.reg g)) want j M n env S o:=id rfl
theorem bBw (ops:List aG):rck K ops M n env S []=true:=id rfl
theorem aWo (ops:List aG)(j:Nat)(c:List Nat):rck K ops M n env S (j::c)=(rcO K (vX ops j) j M n env S&&rck K ops M n env S c):=by
 simp only[rck,lN,vX]
 congr 1
 cases ops[j]? with
 | none=>rfl
 | some x =>
  obtain⟨o,l,g⟩:=x
  cases g with
  | none =>
   simp only[dD,rcO]
   show (match flM K M n env S o with|some v=>same v (opv K n env M (.reg j))|none=>false)=_
   cases flM K M n env S o<;>rfl
  | some q =>
   obtain⟨g,want⟩:=q
   simp only[dD,rcO]
   show (match (match opv K n env M (.reg g) with | .iv (.bool b)=>some (b==want) | .tup []=>some false|_=>none) with|some true=>(match flM K M n env S o with|some v=>same v (opv K n env M (.reg j))|none=>false)|some false=>true|none=>false)=_
   unfold rcG
   cases opv K n env M (.reg g) with
   | iv v =>
    cases v with
    | bool b =>
     simp only
     cases b==want
     ·rfl
     ·simp only[↓reduceIte]
      cases flM K M n env S o<;>rfl
    | _=>rfl
   | tup vs=>cases vs<;>rfl
   | _=>rfl
theorem aWp (ops:List aG)(ps:List (Nat×List Nat×List Nat))(c fl:List Nat):cont K O (.ph ops c fl ps) M n fs env S=chk K O (rck K ops M n env S c) ops fl ps M n fs env S:=id rfl
end
end Go.TM
namespace Go.TM
attribute [go_sem] bAx aVc bAy bAz aVd aVe bA0 bA1 aVf aVg aJ9
attribute [go_sem] aPg aPh okL aHm rS
attribute [go_sem] bBe aVy aVz bHk aKf aKg aKh aPk bBg aNx aDl bBh bBi aV1 aV2 bBj aV3 aV4 pI aV6 aHi aKk
attribute [go_sem] aPt
theorem go_region (K:bI)(O:Orc)(ops:List aG)(fs:List Fr)(env:Env)(S:aA):go K O (.region ops) fs env S=rgN K O (yB ops 0) ops fs env S:=by
 rw[go_region0,aVr,aEz]; rfl
def aWq (K:bI)(O:Orc)(n:Nat)(f0:List Nat)(ph:List (Nat×List Nat×List Nat))(ops:List aG)(fs:List Fr)(env:Env)(S:aA):Out (bJ×Env×aA):=fls K O ops f0 ph [] n fs env S
@[congr] theorem flsN_congr (K:bI) (O:Orc) {n n':Nat} (h:n=n') (f0:List Nat) (ph:List (Nat×List Nat×List Nat)) (ops:List aG) (fs:List Fr) (env:Env) (S:aA):aWq K O n f0 ph ops fs env S=aWq K O n' f0 ph ops fs env S:=by rw[h]
theorem aN0 (K:bI)(O:Orc)(n:Nat)(f0:List Nat)(ph:List (Nat×List Nat×List Nat))(ops:List aG)(fs:List Fr)(env:Env)(S:aA):aWq K O n f0 ph ops fs env S=fls K O ops f0 ph [] n fs env S:=id rfl
theorem go_draw (K:bI)(O:Orc)(f0:List Nat)(ph:List (Nat×List Nat×List Nat))(ops:List aG)(fs:List Fr)(env:Env)(S:aA):go K O (.draw f0 ph ops) fs env S=aWq K O (yB ops 0) f0 ph ops fs env S:=by
 rw[go_draw0,aN0,aEz]; rfl
theorem aWr (n:Nat):yB [] n=n:=id rfl
theorem aP5 (a:aG)(l:List aG)(n:Nat):yB (a::l) n=yB l (n+1):=id rfl
@[congr] theorem lenT_congr (l:List aG) {n n':Nat} (h:n=n'):yB l n=yB l n':=by rw[h]
theorem aP6 (a:TV)(l:List TV)(d:TV):List.getD (a::l) 0 d=a:=id rfl
theorem aP7 (a:TV)(l:List TV)(j:Nat)(d:TV):List.getD (a::l) (j+1) d=List.getD l j d:=by simp[List.getD]
attribute [go_sem] aP6 aP7 List.map_cons List.map_nil List.getElem?_cons_zero List.getElem?_cons_succ Option.map_some Option.map_none
theorem bBx (v:IV):dH (.iv v)=false:=id rfl
theorem aWs (a b c:Nat):dH (.ptr a b c)=false:=id rfl
theorem aWt (a:Nat)(l:List (List IV)):dH (.tsl a l)=false:=id rfl
theorem bBy (f:Nat)(a b:List TV):dH (.fn f a b)=false:=id rfl
theorem aWu (v:IV):pY (.iv v)=false:=id rfl
theorem aHp (v:IV):iA (.iv v)=gP v:=id rfl
theorem aE4 (b:Bool):gP (.bool b)=true:=id rfl
theorem aHq (k:IntKind)(m:Int):gP (.int k m)=true:=id rfl
theorem aHr (s:List UInt8):gP (.str s)=true:=id rfl
theorem aKu (a:Tag)(l:List (List IV)):gP (.sl a l)=false:=id rfl
theorem aB8 (S:aA):dG S []=some []:=id rfl
def aDo {α:Type}:Option α→Option (List α)→Option (List α)
 | some a,some l=>some (a::l)
 | _,_=>none
theorem aA9 {α:Type}(a:α)(l:List α):aDo (some a) (some l)=some (a::l):=id rfl
theorem aBa (S:aA)(v:TV)(r:List TV):dG S (v::r)=aDo (kJ S v) (dG S r):=by rw[dG]; cases kJ S v<;>cases dG S r<;>rfl
theorem aHs (S:aA)(v:IV):kJ S (.iv v)=some (.iv v):=id rfl
theorem bBz (S:aA)(v:IV):aGc S (.iv v)=some v:=id rfl
def slO (x:Option (List (List IV))):Option IV:=match x with
 | some l=>some (.sl .no l)
 | none=>none
theorem aWv (S:aA)(a b c d e f:Nat):aGc S (.msl a b c d e f)=slO (eR S (.msl a b c d e f)):=id rfl
theorem aWw (S:aA):zK S []=some []:=id rfl
theorem aP8 (S:aA)(v:TV)(r:List TV):zK S (v::r)=aDo (aGc S v) (zK S r):=by rw[zK]; cases aGc S v<;>cases zK S r<;>rfl
theorem bB0 (S:aA)(v:IV):aD7 S (.iv v)=some v:=id rfl
theorem aWx (S:aA)(c:List TV):aD7 S (.agg c)=(zK S c).map .agg:=id rfl
theorem aP9 (S:aA):tS S []=some []:=id rfl
def ivC:Option IV→Option (List TV)→Option (List TV)
 | some a,some l=>some (.iv a::l)
 | _,_=>none
theorem aWy (a:IV)(l:List TV):ivC (some a) (some l)=some (.iv a::l):=id rfl
theorem aKv (S:aA)(v:TV)(r:List TV):tS S (v::r)=ivC (aD7 S v) (tS S r):=id rfl
theorem aHt (S:aA)(c:List TV):resolve S (.tup c)=(tS S c).map .tup:=id rfl
theorem bQ (S:aA)(v:IV):resolve S (.iv v)=some (.iv v):=id rfl
def aWz:TV→Option TV
 | .lb _=>none
 | .lp ..=>none
 | v=>some v
theorem bB1 (v:IV):aWz (.iv v)=some (.iv v):=id rfl
theorem aW0 (a:Nat)(l:List (List IV)):aWz (.tsl a l)=some (.tsl a l):=id rfl
theorem bB2 (f:Nat)(a b:List TV):aWz (.fn f a b)=some (.fn f a b):=id rfl
theorem aE5 (env:Env)(S:aA)(j:Nat):iB env S (.loc j)=aWz (env.getD j .hole):=by simp only[iB]; cases env.getD j .hole<;>rfl
theorem aB9 (env:Env)(S:aA)(j m:Nat)(ag:Bool):iB env S (.cell j m ag)=lK ag (bB env S (vV j (env.getD j .hole)) m):=by simp only[iB,bA]; cases env.getD j .hole<;>rfl
theorem aCa (env:Env)(S:aA):eL env S []=some []:=id rfl
theorem aBb (env:Env)(S:aA)(r:lZ)(rs:List lZ):eL env S (r::rs)=aDo (iB env S r) (eL env S rs):=by rw[eL]; cases iB env S r<;>cases eL env S rs<;>rfl
def bB3:Option (List TV)→Option TV
 | some [v]=>some v
 | some vs=>some (.tup vs)
 | none=>none
theorem aW1 (v:TV):bB3 (some [v])=some v:=id rfl
theorem aW2 (v w:TV)(l:List TV):bB3 (some (v::w::l))=some (.tup (v::w::l)):=id rfl
theorem aW3:bB3 (some [])=some (.tup []):=id rfl
theorem aQa (rs:List lZ)(env:Env)(S:aA):lE rs env S=bB3 (eL env S rs):=by simp only[lE]; cases eL env S rs with|none=>rfl|some l=>cases l with|nil=>rfl|cons a r=>cases r<;>rfl
theorem aQb (k:IntKind)(a b:Int):TM.binOp .add (.iv (.int k a)) (.iv (.int k b))=some (.int k (k.wrap (a+b))):=by simp[TM.binOp,iV]
theorem aQc (k:IntKind)(a b:Int):TM.binOp .sub (.iv (.int k a)) (.iv (.int k b))=some (.int k (k.wrap (a-b))):=by simp[TM.binOp,iV]
theorem aQd (k:IntKind)(a b:Int):TM.binOp .mul (.iv (.int k a)) (.iv (.int k b))=some (.int k (k.wrap (a*b))):=by simp[TM.binOp,iV]
theorem aQe (k:IntKind)(a b:Int):TM.binOp .eql (.iv (.int k a)) (.iv (.int k b))=some (.bool (a==b)):=by simp[TM.binOp,iV]
theorem aQf (k:IntKind)(a b:Int):TM.binOp .neq (.iv (.int k a)) (.iv (.int k b))=some (.bool (a != b)):=by simp[TM.binOp,iV]
theorem aQg (k:IntKind)(a b:Int):TM.binOp .lss (.iv (.int k a)) (.iv (.int k b))=some (.bool (decide (a<b))):=by simp[TM.binOp,iV]
theorem aQh (k:IntKind)(a b:Int):TM.binOp .leq (.iv (.int k a)) (.iv (.int k b))=some (.bool (decide (a≤b))):=by simp[TM.binOp,iV]
theorem aQi (k:IntKind)(a b:Int):TM.binOp .gtr (.iv (.int k a)) (.iv (.int k b))=some (.bool (decide (b<a))):=by simp[TM.binOp,iV]
theorem aQj (k:IntKind)(a b:Int):TM.binOp .geq (.iv (.int k a)) (.iv (.int k b))=some (.bool (decide (b≤a))):=by simp[TM.binOp,iV]
def pN (w:Nat)(a b:Int):Int:=((BitVec.ofInt w a &&& BitVec.ofInt w b).toNat:Nat)
def bOr (w:Nat)(a b:Int):Int:=((BitVec.ofInt w a ||| BitVec.ofInt w b).toNat:Nat)
def rO (w:Nat)(a b:Int):Int:=((BitVec.ofInt w a &&& ~~~ BitVec.ofInt w b).toNat:Nat)
theorem aQk (k:IntKind)(a b:Int):TM.binOp .and (.iv (.int k a)) (.iv (.int k b))=some (.int k (k.wrap (pN k.bits a b))):=by simp[TM.binOp,iV,pN]
theorem aW4 (k:IntKind)(a b:Int):TM.binOp .or (.iv (.int k a)) (.iv (.int k b))=some (.int k (k.wrap (bOr k.bits a b))):=by simp[TM.binOp,iV,bOr]
theorem aE6 (k:IntKind)(a b:Int):TM.binOp .andNot (.iv (.int k a)) (.iv (.int k b))=some (.int k (k.wrap (rO k.bits a b))):=by simp[TM.binOp,iV,rO]
theorem aQl (k k':IntKind)(a b:Int):TM.binOp .shl (.iv (.int k a)) (.iv (.int k' b))=if b<0 then none else some (.int k (k.wrap (a*2 ^ (if b.toNat≤k.bits then b.toNat else k.bits)))):=by simp[TM.binOp,tR,Nat.min_def]
theorem aQm (k k':IntKind)(a b:Int):TM.binOp .shr (.iv (.int k a)) (.iv (.int k' b))=if b<0 then none else some (.int k (a.fdiv (2 ^ (if b.toNat≤k.bits then b.toNat else k.bits)))):=by simp[TM.binOp,tR,Nat.min_def]
theorem aKw (a b:List UInt8):TM.binOp .eql (.iv (.str a)) (.iv (.str b))=some (.bool (a==b)):=id rfl
theorem aKx (a b:List UInt8):TM.binOp .neq (.iv (.str a)) (.iv (.str b))=some (.bool (!(a==b))):=id rfl
theorem aW5 (b:Bool):TM.unOp .not (.iv (.bool b))=some (.bool (!b)):=id rfl
theorem aE7 (k k':IntKind)(a:Int):cM (.toInt k) (.iv (.int k' a))=some (.int k (k.wrap a)):=id rfl
theorem yD (s:List UInt8):cM .strBytes (.iv (.str s))=if s.length≤70368744177664 then some (.sl .no (bL s)) else none:=id rfl
theorem aW6 (a b:Bool):TM.eqB .bool (.iv (.bool a)) (.iv (.bool b))=some (a==b):=id rfl
theorem aW7 (o:TOp):floats o=(bV o==0||bV o==1||bV o==2||bV o==4||bV o==6):=id rfl
attribute [go_sem] bBx aWs aWt bBy
attribute [go_sem] aWu aHp
attribute [go_sem] aE4 aHq aHr aKu aB8 aA9 aBa
attribute [go_sem] aHs bBz aWv aWw aP8 bB0 aWx
attribute [go_sem] aP9 aWy aKv aHt bQ bB1 aW0
attribute [go_sem] bB2 aE5 aB9 aCa aBb
attribute [go_sem] aW1 aW2 aW3 aQa aQb aQc aQd aQe aQf aQg
attribute [go_sem] aQh aQi aQj aQk aW4 aE6 aQl aQm aKw aKx
attribute [go_sem] aW5 aE7 yD aW6
attribute [go_sem] aW7
theorem bI0 (b:Bool):(b==true)=b:=by cases b<;>rfl
theorem bI1 (b:Bool):(b==false)=!b:=by cases b<;>rfl
theorem aE8 (b:Bool):cellsOf (.iv (.bool b))=[.iv (.bool b)]:=id rfl
theorem aHu (b:Bool):bM (.iv (.bool b))=false:=id rfl
theorem aHv (k:IntKind)(m:Int):cellsOf (.iv (.int k m))=[.iv (.int k m)]:=id rfl
theorem aKy (k:IntKind)(m:Int):bM (.iv (.int k m))=false:=id rfl
theorem aHw (s:List UInt8):cellsOf (.iv (.str s))=[.iv (.str s)]:=id rfl
theorem aKz (s:List UInt8):bM (.iv (.str s))=false:=id rfl
theorem aK0 (a:Tag)(l:List (List IV)):cellsOf (.iv (.sl a l))=[.iv (.sl a l)]:=id rfl
theorem aQn (a:Tag)(l:List (List IV)):bM (.iv (.sl a l))=false:=id rfl
theorem aE9 (l:List IV):cellsOf (.iv (.agg l))=l.map .iv:=id rfl
theorem aHx (a b c:Nat):cellsOf (.ptr a b c)=[.ptr a b c]:=id rfl
theorem aK1 (a b c:Nat):bM (.ptr a b c)=false:=id rfl
theorem aHy (a b c d e f:Nat):cellsOf (.msl a b c d e f)=[.msl a b c d e f]:=id rfl
theorem aK2 (a b c d e f:Nat):bM (.msl a b c d e f)=false:=id rfl
theorem aK3 (a b c d e f:Nat):iS (.msl a b c d e f)=.msl a b c d e f:=id rfl
theorem aHz (a:Nat)(l:List (List IV)):cellsOf (.tsl a l)=[.tsl a l]:=id rfl
theorem aK4 (a:Nat)(l:List (List IV)):bM (.tsl a l)=false:=id rfl
theorem aH0 (a:Nat):cellsOf (.map a)=[.map a]:=id rfl
theorem aK5 (a:Nat):bM (.map a)=false:=id rfl
theorem aK6 (a:Nat):iS (.map a)=.map a:=id rfl
theorem aK7 (f:Nat)(a b:List TV):cellsOf (.fn f a b)=[.fn f a b]:=id rfl
theorem aQo (f:Nat)(a b:List TV):bM (.fn f a b)=false:=id rfl
theorem aH1 (l:List TV):cellsOf (.agg l)=l:=id rfl
theorem aQp (v:IV):iS (.iv v)=.iv v:=id rfl
theorem aK8 (a:Nat)(l:List (List IV)):iS (.tsl a l)=.iv (.sl .no l):=id rfl
theorem aBc (v:TV)(r:List TV):toIVs (v::r)=aDo (pW v) (toIVs r):=by rw[toIVs]; cases pW v<;>cases toIVs r<;>rfl
theorem aH2 (v:IV):pW (.iv v)=some v:=id rfl
def aW8 (vs:List TV)(es:List (List TV))(n i:Nat)(e:aE→TV)(r:List (Nat×aE)):Option (List (List TV)) :=
 if vs.length=n∧i<es.length∧vs.any bM=false then dK (es.set i vs) n e r else none
theorem aH3 (es:List (List TV))(n i:Nat)(e:aE→TV)(x:aE)(r:List (Nat×aE)):dK es n e ((i,x)::r)=aW8 (cellsOf (iS (e x))) es n i e r:=id rfl
theorem aK9 (es:List (List TV))(n:Nat)(e:aE→TV):dK es n e []=some es:=id rfl
theorem aQq (vs:List TV)(es:List (List TV))(n i:Nat)(e:aE→TV)(r:List (Nat×aE)):aW8 vs es n i e r=if vs.length=n∧i<es.length∧vs.any bM=false then dK (es.set i vs) n e r else none:=id rfl
def bDs (vs:List TV)(cs:List TV)(off n:Nat)(e:aE→TV)(r:List (Nat×Nat×aE)):Option (List TV) :=
 if vs.length=n∧off+n≤cs.length∧vs.any bM=false then fill (put cs off vs) e r else none
theorem aQr (cs:List TV)(off n:Nat)(e:aE→TV)(x:aE)(r:List (Nat×Nat×aE)):fill cs e ((off,n,x)::r)=bDs (cellsOf (iS (e x))) cs off n e r:=id rfl
theorem aW9 (cs:List TV)(e:aE→TV):fill cs e []=some cs:=id rfl
theorem aXa (vs:List TV)(cs:List TV)(off n:Nat)(e:aE→TV)(r:List (Nat×Nat×aE)):bDs vs cs off n e r=if vs.length=n∧off+n≤cs.length∧vs.any bM=false then fill (put cs off vs) e r else none:=id rfl
def mkG (x:Option (List IV))(cs:List TV):TV:=match x with
 | some l=>.iv (.agg l)
 | none=>.agg cs
theorem aXb (cs:List TV):pF cs=mkG (lI cs) cs:=by simp only[pF]; cases lI cs<;>rfl
theorem aXc (l:List IV)(cs:List TV):mkG (some l) cs=.iv (.agg l):=id rfl
theorem aXd (cs:List TV):mkG none cs=.agg cs:=id rfl
def aXe (v:IV)(x:Option (List IV)):Option (List IV):=x.map (v::·)
theorem aLa (v:IV)(l:List IV):aXe v (some l)=some (v::l):=id rfl
theorem aLb (v:IV):aXe v none=none:=id rfl
theorem aLc (v:IV)(r:List TV):lI (.iv v::r)=aXe v (lI r):=id rfl
theorem aQs:lI []=some []:=id rfl
theorem aLd:iH []=some []:=id rfl
theorem aH4 (c:List TV)(r:List (List TV)):iH (c::r)=aDo (lI c) (iH r):=by rw[iH]; cases lI c<;>cases iH r<;>rfl
theorem aQt {α:Type}(a:α)(l:List α)(v:α):List.set (a::l) 0 v=v::l:=id rfl
theorem aQu {α:Type}(a:α)(l:List α)(j:Nat)(v:α):List.set (a::l) (j+1) v=a::List.set l j v:=id rfl
theorem bFv {α:Type}(cs:List α)(off n:Nat):sub cs off n=if off+n≤cs.length then some ((cs.drop off).take n) else none:=id rfl
theorem bFw {α:Type}(cs:List α)(off:Nat)(vs:List α):put cs off vs=cs.take off++vs++cs.drop (off+vs.length):=id rfl
theorem aH5 (l:List IV):eX (.iv (.agg l))=some (l.map .iv):=id rfl
theorem aQv (a b c d e f:Nat)(r:List TV):lI (.msl a b c d e f::r)=none:=id rfl
theorem aDp (a:Nat)(r:List TV):lI (.map a::r)=none:=id rfl
attribute [go_sem] aE8 aHu aHv aKy aHw aKz aK0 aQn
attribute [go_sem] aE9 aHx aK1 aHy aK2
attribute [go_sem] aK3 aHz aK4 aH0 aK5 aK6 aK7 aQo
attribute [go_sem] aH1 aQp
attribute [go_sem] aK8 aBc aH2
attribute [go_sem] aH3 aK9 aQq aQr aW9 aXa aXb aXc aXd aLa
attribute [go_sem] aLb aLc aQs aDp aLd aH4 aQt aQu bFv bFw aH5
attribute [go_sem] List.length_cons List.length_nil List.take_succ_cons List.drop_succ_cons List.take_zero List.drop_zero List.take_nil List.drop_nil and_self and_true true_and
attribute [go_sem] aQv aDp
def aLe (w:Nat)(env:Env)(S:aA)(a:TV)(vs:List TV):Option (TV×Env×aA):=if vs.length=w then aA4 (setCells env S a vs) else none
theorem aXf (w:Nat)(env:Env)(S:aA)(a v:TV):vZ w env S a v=aLe w env S a (cellsOf v):=by
 unfold aLe
 split
 ·rename_i h; exact aPl env S w a v h
 ·rename_i h; simp only[vZ,h,↓reduceIte]
theorem aQw (w:Nat)(env:Env)(S:aA)(a:TV)(vs:List TV):aLe w env S a vs=if vs.length=w then aA4 (setCells env S a vs) else none:=id rfl
def lbK (off n:Nat):TV→Option (List TV)
 | .lb cs=>sub cs off n
 | _=>none
theorem bFx (off n:Nat)(cs:List TV):lbK off n (.lb cs)=sub cs off n:=id rfl
theorem aH6 (env:Env)(S:aA)(j off n:Nat):bB env S (.lp j off) n=lbK off n (env.getD j .hole):=by
 simp only[bB,List.getD]
 cases env[j]? with
 | none=>rfl
 | some v=>cases v<;>rfl
def blK (v off n:Nat):Option aM→Option (List TV)
 | some (.cells v' _ cs)=>if v'=v then sub cs off n else none
 | some (.frz v' cs)=>if v'=v then (sub cs off n).map (·.map .iv) else none
 | _=>none
theorem aQx (v off n v':Nat)(l:Bool)(cs:List TV):blK v off n (some (.cells v' l cs))=if v'=v then sub cs off n else none:=id rfl
theorem aFa (env:Env)(S:aA)(i v off n:Nat):bB env S (.ptr i v off) n=blK v off n (S[i]?):=by
 simp only[bB]
 cases S[i]? with
 | none=>rfl
 | some b=>cases b<;>rfl
def bDt (env:Env)(S:aA)(j off:Nat)(vs:List TV):TV→Option (Env×aA)
 | .lb cs=>if off+vs.length≤cs.length then some (env.set j (.lb (put cs off vs)),S) else none
 | _=>none
theorem aXg (env:Env)(S:aA)(j off:Nat)(vs cs:List TV):bDt env S j off vs (.lb cs)=if off+vs.length≤cs.length then some (env.set j (.lb (put cs off vs)),S) else none:=id rfl
theorem aH7 (env:Env)(S:aA)(j off:Nat)(vs:List TV):setCells env S (.lp j off) vs=if vs.any bM then none else bDt env S j off vs (env.getD j .hole):=by
 simp only[setCells,List.getD]
 split
 ·rfl
 ·cases env[j]? with
  | none=>rfl
  | some v=>cases v<;>rfl
def bDu (env:Env)(S:aA)(i v off:Nat)(vs:List TV):Option aM→Option (Env×aA)
 | some (.cells v' l cs)=>if v'=v∧off+vs.length≤cs.length then some (env,S.set i (.cells v' l (put cs off vs))) else none
 | _=>none
theorem aH8 (env:Env)(S:aA)(i v off:Nat)(vs:List TV)(v':Nat)(l:Bool)(cs:List TV):bDu env S i v off vs (some (.cells v' l cs))=if v'=v∧off+vs.length≤cs.length then some (env,S.set i (.cells v' l (put cs off vs))) else none:=id rfl
theorem aFb (env:Env)(S:aA)(i v off:Nat)(vs:List TV):setCells env S (.ptr i v off) vs=if vs.any bM then none else bDu env S i v off vs (S[i]?):=by
 simp only[setCells]
 split
 ·rfl
 ·cases S[i]? with
  | none=>rfl
  | some b=>cases b<;>rfl
theorem aQy (j off n:Nat):dY (.lp j off) n=some (.lp j (off+n)):=id rfl
theorem aLf (i v off n:Nat):dY (.ptr i v off) n=some (.ptr i v (off+n)):=id rfl
theorem aLg (S:aA)(t:Tag)(l:List (List IV)):eR S (.iv (.sl t l))=some l:=id rfl
theorem bHx:(false=true)=False:=by simp
attribute [go_sem] aXf aQw bFx aH6 aQx aFa aXg aH7 aH8 aFb aQy aLf aLg bHx
attribute [go_sem] bBv aWk
attribute [go_sem] aWl
attribute [go_sem] eq_self bI0 bI1 List.any_cons List.any_nil List.all_cons List.all_nil TM.undef bV Bool.true_and Bool.and_true Bool.false_and Bool.and_false Bool.or_false Bool.false_or Bool.true_or Bool.or_true Bool.not_true Bool.not_false ite_true ite_false
end Go.TM
namespace Go.TM
@[reducible] def TT {β:Type} (α:Type) (a:β):Type:=α
def br' {α:Type}(B:Bool)(x y:Out α):TT (Out α) (x,y):=br B x y
def bk' (K:bI)(O:Orc)(fs:List Fr)(j:bJ)(e:Env)(S:aA):TT (Out (bJ×Env×aA)) (fs,j,e,S):=bk K O fs j e S
def go' (K:bI)(O:Orc)(c:aP)(fs:List Fr)(e:Env)(S:aA):TT (Out (bJ×Env×aA)) (c,fs,e,S):=go K O c fs e S
def cB (K:bI)(n:Nat)(env:Env)(M:List (Nat×TV))(x:aE):TT (TV) (n,env,M,x):=opv K n env M x
def tB (K:bI)(O:Orc)(ops:List aG)(i:Nat)(M:List (Nat×TV))(n:Nat)(fs:List Fr)(env:Env)(S:aA):TT (Out (bJ×Env×aA)) (ops,M,n,fs,S):=wbk K O ops i M n fs env S
def aQz (K:bI)(O:Orc)(all ops:List aG)(i:Nat)(M:List (Nat×TV))(n:Nat)(fs:List Fr)(env:Env)(S:aA):TT (Out (bJ×Env×aA)) (all,ops,M,n,fs,env,S):=rgR K O all ops i M n fs env S
def bB4 (K:bI)(O:Orc)(ops:List aG)(ps:List (Nat×List Nat×List Nat))(M:List (Nat×TV))(n:Nat)(fs:List Fr)(env:Env)(S:aA):TT (Out (bJ×Env×aA)) (ops,ps,M,n,fs,env,S):=phs K O ops ps M n fs env S
def aH9 (K:bI)(O:Orc)(ops:List aG)(is:List Nat)(ps:List (Nat×List Nat×List Nat))(M:List (Nat×TV))(n:Nat)(fs:List Fr)(env:Env)(S:aA):TT (Out (bJ×Env×aA)) (ops,is,ps,M,n,fs,env,S):=fls K O ops is ps M n fs env S
def bFy (K:bI)(O:Orc)(c:Bool)(ops:List aG)(is:List Nat)(ps:List (Nat×List Nat×List Nat))(M:List (Nat×TV))(n:Nat)(fs:List Fr)(env:Env)(S:aA):TT (Out (bJ×Env×aA)) (ops,is,ps,M,n,fs,env,S):=chk K O c ops is ps M n fs env S
def oE (K:bI)(O:Orc)(k:Kt)(M:List (Nat×TV))(n:Nat)(fs:List Fr)(env:Env)(S:aA):TT (Out (bJ×Env×aA)) (k,M,n,fs,env,S):=cont K O k M n fs env S
def eD (K:bI)(O:Orc)(o:TOp)(i:Nat)(k:Kt)(M:List (Nat×TV))(n:Nat)(fs:List Fr)(env:Env)(S:aA):TT (Out (bJ×Env×aA)) (o,i,k,M,n,fs,env,S):=op1 K O o i k M n fs env S
def aQ0 (K:bI)(O:Orc)(g:TV)(want:Bool)(j:Nat)(o:TOp)(i:Nat)(k:Kt)(M:List (Nat×TV))(n:Nat)(fs:List Fr)(env:Env)(S:aA):TT (Out (bJ×Env×aA)) (want,j,o,i,k,M,n,fs,env,S):=opG K O g want j o i k M n fs env S
def jS (K:bI)(O:Orc)(v:Option TV)(i:Nat)(k:Kt)(M:List (Nat×TV))(n:Nat)(fs:List Fr)(env:Env)(S:aA):TT (Out (bJ×Env×aA)) (i,k,M,n,fs,env,S):=opV K O v i k M n fs env S
def bFz (K:bI)(O:Orc)(v:Option (TV×aM))(i:Nat)(k:Kt)(M:List (Nat×TV))(n:Nat)(fs:List Fr)(env:Env)(S:aA):TT (Out (bJ×Env×aA)) (i,k,M,n,fs,env,S):=opA K O v i k M n fs env S
def aLh (K:bI)(O:Orc)(v:Option (TV×aA))(i:Nat)(k:Kt)(M:List (Nat×TV))(n:Nat)(fs:List Fr)(env:Env):TT (Out (bJ×Env×aA)) (i,k,M,n,fs,env):=opS K O v i k M n fs env
def aCb (K:bI)(O:Orc)(v:Option (TV×Env×aA))(i:Nat)(k:Kt)(M:List (Nat×TV))(n:Nat)(fs:List Fr):TT (Out (bJ×Env×aA)) (i,k,M,n,fs):=opE K O v i k M n fs
def yE (K:bI)(O:Orc)(x:Out (TV×aA))(i:Nat)(k:Kt)(M:List (Nat×TV))(n:Nat)(fs:List Fr)(env:Env):TT (Out (bJ×Env×aA)) (i,k,M,n,fs,env):=opC K O x i k M n fs env
def bF0 (K:bI)(O:Orc)(c a b:TV)(i:Nat)(k:Kt)(M:List (Nat×TV))(n:Nat)(fs:List Fr)(env:Env)(S:aA):TT (Out (bJ×Env×aA)) (i,k,M,n,fs,env,S):=opP K O c a b i k M n fs env S
def bF1 (K:bI)(O:Orc)(c:TV)(a b:aP)(fs:List Fr)(env:Env)(S:aA):TT (Out (bJ×Env×aA)) (a,b,fs,env,S):=goC K O c a b fs env S
def lp' (O:Orc)(b:aP)(env:Env)(S:aA):TT (Out (bJ×Env×aA)) (b,env,S):=lp O b env S
def bF2 (K:bI)(O:Orc)(x:Out (bJ×Env×aA))(fs:List Fr):TT (Out (bJ×Env×aA)) (fs):=goL K O x fs
def bF3 (K:bI)(O:Orc)(n:Nat)(ops:List aG)(fs:List Fr)(env:Env)(S:aA):TT (Out (bJ×Env×aA)) (ops,fs,env,S):=rgN K O n ops fs env S
def aDq (l:List aG)(n:Nat):TT Nat l:=yB l n
def bB5 (c:Bool)(x y:Out (bJ×Env×aA)):TT (Out (bJ×Env×aA)) (x,y):=flB c x y
def bB6 (K:bI)(O:Orc)(o:Option aG)(i:Nat)(ops:List aG)(is:List Nat)(ps:List (Nat×List Nat×List Nat))(M:List (Nat×TV))(n:Nat)(fs:List Fr)(env:Env)(S:aA):TT (Out (bJ×Env×aA)) (i,ops,is,ps,M,n,fs,env,S):=flO K O o i ops is ps M n fs env S
def bB7 (K:bI)(O:Orc)(o:Option aG)(i:Nat)(ops:List aG)(c fl:List Nat)(ps:List (Nat×List Nat×List Nat))(M:List (Nat×TV))(n:Nat)(fs:List Fr)(env:Env)(S:aA):TT (Out (bJ×Env×aA)) (i,ops,c,fl,ps,M,n,fs,env,S):=phO K O o i ops c fl ps M n fs env S
def aCc (K:bI)(O:Orc)(v:TV)(j:Nat)(ops:List aG)(i:Nat)(M:List (Nat×TV))(n:Nat)(fs:List Fr)(env:Env)(S:aA):TT (Out (bJ×Env×aA)) (j,ops,i,M,n,fs,env,S):=wbV K O v j ops i M n fs env S
def aXh (K:bI)(O:Orc)(w:Nat)(x:Option (List (List IV)))(es:Option (List (List TV)))(i:Nat)(k:Kt)(M:List (Nat×TV))(n:Nat)(fs:List Fr)(env:Env)(S:aA):TT (Out (bJ×Env×aA)) (w,i,k,M,n,fs,env,S):=aHl K O w x es i k M n fs env S
def bB8 (c:Bool)(x y:Out (bJ×Env×aA)):TT (Out (bJ×Env×aA)) (x,y):=alB c x y
def bB9 (S:aA)(args:List TV)(v:Option TV):TT (Out (TV×aA)) (S,args):=cpV S args v
def bCa (S:aA)(args:List TV)(x:Out (TV×aA)):TT (Out (TV×aA)) (S,args):=cpR S args x
def aQ1 (O:Orc)(S:aA)(args:List TV)(f:Nat)(ags:Option (List TV)):TT (Out (TV×aA)) (S,args,f):=cpA O S args f ags
def bF4 (c:Bool)(S:aA)(args:List TV)(v:TV):TT (Out (TV×aA)) (S,args,v):=cpB c S args v
def bF5 (t:Bool)(S:aA)(x:Out (TV×aA)):TT (Out (TV×aA)) (t,S):=csR t S x
def aQ2 (O:Orc)(t:Bool)(S:aA)(f:Nat)(lp:Bool)(args:List TV):TT (Out (TV×aA)) (t,S,f):=csA O t S f lp args
def aFc (rs:List lZ)(x:Out (bJ×Env×aA)):TT (Out (TV×aA)) (rs):=fin rs x
def aN1 (S:aA)(v:Option TV):TT (Out (TV×aA)) (S):=aP2 S v
def aQ3 (O:Orc)(b:aP)(x:Out (bJ×Env×aA)):TT (Out (bJ×Env×aA)) (b):=rnd O b x
def aXi (K:bI)(M:List (Nat×TV))(n:Nat)(env:Env)(S:aA)(o:TOp):TT (Option TV) (M,n,env,S,o):=flM K M n env S o
def aXj (K:bI)(ops:List aG)(M:List (Nat×TV))(n:Nat)(env:Env)(S:aA)(c:List Nat):TT (Bool) (ops,M,n,env,S,c):=rck K ops M n env S c
def bF6 (K:bI)(g:TV)(want:Bool)(j:Nat)(M:List (Nat×TV))(n:Nat)(env:Env)(S:aA)(o:TOp):TT (Bool) (want,j,M,n,env,S,o):=rcG K g want j M n env S o
def bCb (K:bI)(x:Option aG)(j:Nat)(M:List (Nat×TV))(n:Nat)(env:Env)(S:aA):TT (Bool) (j,M,n,env,S):=rcO K x j M n env S
def aXk (K:bI)(O:Orc)(n:Nat)(f0:List Nat)(ph:List (Nat×List Nat×List Nat))(ops:List aG)(fs:List Fr)(env:Env)(S:aA):TT (Out (bJ×Env×aA)) (f0,ph,ops,fs,env,S):=aWq K O n f0 ph ops fs env S
section
variable (K:bI)(O:Orc)(ops:List aG)(is:List Nat)(ps:List (Nat×List Nat×List Nat))(i:Nat)(k:Kt)(M:List (Nat×TV))(n:Nat)(fs:List Fr)(env:Env)(S:aA)
theorem aXl {α:Type}(x y:Out α):br' true x y=x:=_root_.id (rN ..)
theorem aQ4 {α:Type}(x y:Out α):br' false x y=y:=_root_.id (oD ..)
theorem bCc {α:Type}(B:Bool)(x y:Out α):br' (!B) x y=br' B y x:=_root_.id (bFb ..)
theorem dV {α:Type}{B:Bool}{x y z:Out α}(h:B=true→x=z)(g:B=false→y=z):br' B x y=z:=bHi h g
theorem aXm (n:Nat)(env:Env)(M:List (Nat×TV))(j:Nat):cB K n env M (.reg j)=if j<n then reg M j else .hole:=_root_.id (aEy ..)
theorem aXn (n:Nat)(env:Env)(M:List (Nat×TV))(j:Nat):cB K n env M (.loc j)=vV j (env.getD j .hole):=_root_.id (bA2 ..)
theorem aXo (n:Nat)(env:Env)(M:List (Nat×TV))(v:IV):cB K n env M (.cst v)=.iv v:=_root_.id (bA3 ..)
theorem bCd (n:Nat)(env:Env)(M:List (Nat×TV))(f:Nat):cB K n env M (.fn f)=.fn f [] []:=_root_.id (bFc ..)
theorem aQ5 (n:Nat)(env:Env)(M:List (Nat×TV))(g:Nat):cB K n env M (.glob g)=aVh (K.glob g):=_root_.id (aVi ..)
theorem aQ6 (v:TV):jS K O (some v) i k M n fs env S=oE K O k ((i,v)::M) n fs env S:=_root_.id (aVj ..)
theorem aQ7 (v:TV)(b:aM):bFz K O (some (v,b)) i k M n fs env S=aLh K O (some (v,S++[b])) i k M n fs env:=_root_.id (aVk ..)
theorem aQ8 (v:TV):aLh K O (some (v,S)) i k M n fs env=oE K O k ((i,v)::M) n fs env S:=_root_.id (aVl ..)
theorem aQ9 (v:TV):aCb K O (some (v,env,S)) i k M n fs=oE K O k ((i,v)::M) n fs env S:=_root_.id (aVm ..)
theorem aXp (v:TV):yE K O (.ret (v,S)) i k M n fs env=oE K O k ((i,v)::M) n fs env S:=_root_.id (bA4 ..)
theorem aRa (t:Bool)(a b:TV):bF0 K O (.iv (.bool t)) a b i k M n fs env S=br' t (oE K O k ((i,a)::M) n fs env S) (oE K O k ((i,b)::M) n fs env S):=_root_.id (aVn ..)
theorem aRb (b want:Bool)(j:Nat)(o:TOp):aQ0 K O (.iv (.bool b)) want j o i k M n fs env S=br' (b==want) (eD K O o i k ((j,.iv (.bool want))::M) n fs env S) (oE K O k ((i,undef)::(j,.iv (.bool (!want)))::M) n fs env S):=_root_.id (aVo ..)
theorem aLi (want:Bool)(j:Nat)(o:TOp):aQ0 K O (.tup []) want j o i k M n fs env S=oE K O k ((i,undef)::M) n fs env S:=_root_.id (aPe ..)
theorem aRc:bFy K O true ops is ps M n fs env S=aH9 K O ops is ps M n fs env S:=_root_.id (aVp ..)
theorem bCe (j:bJ):bk' K O [] j env S=.ret (j,env,S):=_root_.id (bFd ..)
theorem bCf (b:aP):bk' K O (.seq b::fs) .normal env S=go' K O b fs env S:=_root_.id (bFe ..)
theorem aIa (b:aP):bk' K O (.seq b::fs) .ret env S=bk' K O fs .ret env S:=_root_.id (aKc ..)
theorem aFd (b:aP)(id:Nat):bk' K O (.seq b::fs) (.exit id) env S=bk' K O fs (.exit id) env S:=_root_.id (aHe ..)
theorem bCg (id:Nat):bk' K O (.blk id::fs) .normal env S=bk' K O fs .normal env S:=_root_.id (bFf ..)
theorem aIb (id:Nat):bk' K O (.blk id::fs) .ret env S=bk' K O fs .ret env S:=_root_.id (aKd ..)
theorem aFe (id id':Nat):bk' K O (.blk id::fs) (.exit id') env S=if id'=id then bk' K O fs .normal env S else bk' K O fs (.exit id') env S:=_root_.id (aHf ..)
theorem go_skip':go' K O .skip fs env S=bk' K O fs .normal env S:=_root_.id (go_skip ..)
theorem go_ret':go' K O .ret fs env S=bk' K O fs .ret env S:=_root_.id (go_ret ..)
theorem go_exit' (id:Nat):go' K O (.exit id) fs env S=bk' K O fs (.exit id) env S:=_root_.id (go_exit ..)
theorem go_seq' (a b:aP):go' K O (.seq a b) fs env S=go' K O a (.seq b::fs) env S:=_root_.id (go_seq ..)
theorem go_block' (id:Nat)(b:aP):go' K O (.block id b) fs env S=go' K O b (.blk id::fs) env S:=_root_.id (go_block ..)
theorem aRd (t:Bool)(a b:aP):bF1 K O (.iv (.bool t)) a b fs env S=br' t (go' K O a fs env S) (go' K O b fs env S):=_root_.id (aVq ..)
theorem go_cond' (c:aE)(a b:aP):go' K O (.cond c a b) fs env S=bF1 K O (cB K 0 env [] c) a b fs env S:=_root_.id (go_cond ..)
theorem aXq (j:bJ):bF2 K O (.ret (j,env,S)) fs=bk' K O fs j env S:=_root_.id (bA5 ..)
theorem go_loop' (b:aP):go' K O (.loop b) fs env S=bF2 K O (lp' O b env S) fs:=_root_.id (go_loop ..)
theorem bCh:bF3 K O n ops fs env S=aQz K O ops ops 0 [] n fs env S:=_root_.id (aVr ..)
theorem aXr (all:List aG):oE K O (.rg all ops i) M n fs env S=aQz K O all ops (i+1) M n fs env S:=_root_.id (bA6 ..)
theorem aXs:oE K O (.fl ops is ps) M n fs env S=aH9 K O ops is ps M n fs env S:=_root_.id (aNv ..)
theorem aXt (all:List aG):aQz K O all [] i M n fs env S=tB K O all 0 M n fs env S:=_root_.id (bA7 ..)
theorem aRe (all:List aG)(o:TOp)(l:Option Nat):aQz K O all (⟨o,l,none⟩::ops) i M n fs env S=eD K O o i (.rg all ops i) M n fs env S:=_root_.id (aVs ..)
theorem aLj (all:List aG)(o:TOp)(l:Option Nat)(j:Nat)(want:Bool):aQz K O all (⟨o,l,some (j,want)⟩::ops) i M n fs env S=aQ0 K O (cB K n env M (.reg j)) want j o i (.rg all ops i) M n fs env S:=_root_.id (aPf ..)
theorem aRf (x y:Out (bJ×Env×aA)):bB5 true x y=x:=_root_.id (aA2 ..)
theorem aRg (o:TOp)(l:Option Nat):bB6 K O (some ⟨o,l,none⟩) i ops is ps M n fs env S=bB5 (floats o) (eD K O o i (.fl ops is ps) M n fs env S) (aH9 K O ops (i::is) ps M n fs env S):=_root_.id (aHg ..)
theorem aLk (o:TOp)(l:Option Nat)(j:Nat)(want:Bool):bB6 K O (some ⟨o,l,some (j,want)⟩) i ops is ps M n fs env S=bB5 (floats o) (aQ0 K O (cB K n env M (.reg j)) want j o i (.fl ops is ps) M n fs env S) (aH9 K O ops (i::is) ps M n fs env S):=_root_.id (aDi ..)
theorem aXu:aH9 K O ops [] ps M n fs env S=bB4 K O ops ps M n fs env S:=_root_.id (bA8 ..)
theorem aRh:aH9 K O ops (i::is) ps M n fs env S=bB6 K O (vX ops i) i ops is ps M n fs env S:=_root_.id (aVu ..)
theorem aXv:bB4 K O ops [] M n fs env S=tB K O ops 0 M n fs env S:=_root_.id (bA9 ..)
theorem aRi (c fl:List Nat)(o:TOp)(l:Option Nat):bB7 K O (some ⟨o,l,none⟩) i ops c fl ps M n fs env S=eD K O o i (.ph ops c fl ps) M n fs env S:=_root_.id (aHh ..)
theorem aLl (c fl:List Nat)(o:TOp)(l:Option Nat)(j:Nat)(want:Bool):bB7 K O (some ⟨o,l,some (j,want)⟩) i ops c fl ps M n fs env S=aQ0 K O (cB K n env M (.reg j)) want j o i (.ph ops c fl ps) M n fs env S:=_root_.id (aDj ..)
theorem aRj (c fl:List Nat):bB4 K O ops ((i,c,fl)::ps) M n fs env S=bB7 K O (vX ops i) i ops c fl ps M n fs env S:=_root_.id (aVv ..)
theorem aXw:tB K O [] i M n fs env S=bk' K O fs .normal env S:=_root_.id (bBa ..)
theorem aRk (o:TOp)(g:Option (Nat×Bool)):tB K O (⟨o,none,g⟩::ops) i M n fs env S=tB K O ops (i+1) M n fs env S:=_root_.id (aVw ..)
theorem aRl (o:TOp)(j:Nat)(g:Option (Nat×Bool)):tB K O (⟨o,some j,g⟩::ops) i M n fs env S=aCc K O (cB K n env M (.reg i)) j ops i M n fs env S:=_root_.id (aVx ..)
theorem aFf (v:IV)(j:Nat):aCc K O (.iv v) j ops i M n fs env S=tB K O ops (i+1) M n fs (env.set j (.iv v)) S:=_root_.id (bFg ..)
theorem aXx (a b c:Nat)(j:Nat):aCc K O (.ptr a b c) j ops i M n fs env S=tB K O ops (i+1) M n fs (env.set j (.ptr a b c)) S:=_root_.id (bBb ..)
theorem aIc (a:Nat)(l:List (List IV))(j:Nat):aCc K O (.tsl a l) j ops i M n fs env S=tB K O ops (i+1) M n fs (env.set j (.tsl a l)) S:=_root_.id (bBc ..)
theorem bCi (a:Nat)(j:Nat):aCc K O (.it a) j ops i M n fs env S=tB K O ops (i+1) M n fs (env.set j (.it a)) S:=_root_.id (bFh ..)
theorem bCj (f:Nat)(a b:List TV)(j:Nat):aCc K O (.fn f a b) j ops i M n fs env S=tB K O ops (i+1) M n fs (env.set j (.fn f a b)) S:=_root_.id (bFi ..)
theorem aXy (c:List TV)(j:Nat):aCc K O (.tup c) j ops i M n fs env S=tB K O ops (i+1) M n fs (env.set j (.tup c)) S:=_root_.id (bBd ..)
theorem cU {α:Type}{p:Prop}[Decidable p]{x y z:Out α}(h:p→x=z)(g:¬p→y=z):br' (decide p) x y=z:=bFj h g
theorem cV {α:Type}{a b:Int}{x y z:Out α}(h:a=b→x=z)(g:a≠b→y=z):br' (a==b) x y=z:=bFk h g
theorem cW {α:Type}{a b:Int}{x y z:Out α}(h:a≠b→x=z)(g:a=b→y=z):br' (a != b) x y=z:=bFl h g
theorem aXz (x:aE):eD K O (.mov x) i k M n fs env S=jS K O (some (cB K n env M x)) i k M n fs env S:=_root_.id (bBk ..)
theorem aRm (c a b:aE):eD K O (.pick c a b) i k M n fs env S=bF0 K O (cB K n env M c) (cB K n env M a) (cB K n env M b) i k M n fs env S:=_root_.id (aV8 ..)
theorem aLm (z:List IV)(ps:List (Nat×Nat×aE)):eD K O (.build z ps) i k M n fs env S=jS K O ((fill (z.map .iv) (cB K n env M) ps).map pF) i k M n fs env S:=_root_.id (aPm ..)
theorem aCd (x:aE):eD K O (.nilCheck x) i k M n fs env S=jS K O (bBf (cB K n env M x)) i k M n fs env S:=_root_.id (aE1 ..)
theorem aX0 (op:BinOp)(x y:aE):eD K O (.bin op x y) i k M n fs env S=jS K O (ivO (binOp op (cB K n env M x) (cB K n env M y))) i k M n fs env S:=_root_.id (bBl ..)
theorem aX1 (neg:Bool)(ek:EK)(x y:aE):eD K O (.eqB neg ek x y) i k M n fs env S=jS K O (eqV neg (eqB ek (cB K n env M x) (cB K n env M y))) i k M n fs env S:=_root_.id (bBm ..)
theorem bCk (op:UnOp)(x:aE):eD K O (.un op x) i k M n fs env S=jS K O (ivO (unOp op (cB K n env M x))) i k M n fs env S:=_root_.id (bFm ..)
theorem aRn (f:Nat)(a b:List aE):eD K O (.mkFn f a b) i k M n fs env S=jS K O (aNy f (a.map (cB K n env M)) (b.map (cB K n env M))) i k M n fs env S:=_root_.id (aV9 ..)
theorem aBd (off:Nat)(x:aE):eD K O (.fieldAddr off x) i k M n fs env S=jS K O (dY (cB K n env M x) off) i k M n fs env S:=_root_.id (aB7 ..)
theorem aLn (off w:Nat)(ag:Bool)(x:aE):eD K O (.field off w ag x) i k M n fs env S=jS K O (lK ag (aPj off w (eX (cB K n env M x)))) i k M n fs env S:=_root_.id (aPn ..)
theorem yF (es:Nat)(x y:aE):eD K O (.indexAddrS es x y) i k M n fs env S=jS K O (ixS es (cB K n env M x) (cB K n env M y)) i k M n fs env S:=_root_.id (aA5 ..)
theorem yG (len es:Nat)(x y:aE):eD K O (.indexAddrA len es x y) i k M n fs env S=jS K O (ixA len es (cB K n env M x) (cB K n env M y)) i k M n fs env S:=_root_.id (aA6 ..)
theorem aId (x y:aE):eD K O (.indexS x y) i k M n fs env S=jS K O (aDk (cB K n env M x) (cB K n env M y)) i k M n fs env S:=_root_.id (aKl ..)
theorem aFg (j:Nat)(x:aE):eD K O (.extract j x) i k M n fs env S=jS K O (xtr j (cB K n env M x)) i k M n fs env S:=_root_.id (aHk ..)
theorem aX2 (x:aE):eD K O (.cap x) i k M n fs env S=jS K O (aV0 (zJ (cB K n env M x))) i k M n fs env S:=_root_.id (bBn ..)
theorem aIe (mx:Bool)(xs:List aE):eD K O (.minmax mx xs) i k M n fs env S=jS K O (mmV mx (xs.map (cB K n env M))) i k M n fs env S:=_root_.id (aKm ..)
theorem aLo (a:aE):eD K O (.load1 a) i k M n fs env S=jS K O (lK false (bB env S (cB K n env M a) 1)) i k M n fs env S:=_root_.id (aPo ..)
theorem aLp (w:Nat)(a:aE):eD K O (.loadN w a) i k M n fs env S=jS K O (lK true (bB env S (cB K n env M a) w)) i k M n fs env S:=_root_.id (aPp ..)
theorem aLq (sk:SK)(x:aE)(lo hi mx:Option aE):eD K O (.slice sk x lo hi mx) i k M n fs env S=jS K O (slV S sk (cB K n env M x) (oI (lo.map (cB K n env M))) (oI (hi.map (cB K n env M))) (oI (mx.map (cB K n env M)))) i k M n fs env S:=_root_.id (aPq ..)
theorem aIf (kk:KK)(z:IV)(ok:Bool)(m y:aE):eD K O (.lookup kk z ok m y) i k M n fs env S=jS K O (aJ (.lookup kk z ok m y) (cB K n env M) env S) i k M n fs env S:=_root_.id (aKn ..)
theorem aX3 (nk:NK)(x:aE):eD K O (.len nk x) i k M n fs env S=jS K O (aB6 nk S (cB K n env M x)) i k M n fs env S:=_root_.id (bBo ..)
theorem aLr (kd:IntKind)(x:aE):eD K O (.conv (.toInt kd) x) i k M n fs env S=jS K O (ivO (cM (.toInt kd) (cB K n env M x))) i k M n fs env S:=_root_.id (aPr ..)
theorem aCe (x:aE):eD K O (.conv .strBytes x) i k M n fs env S=jS K O (ivO (cM .strBytes (cB K n env M x))) i k M n fs env S:=_root_.id (aE2 ..)
theorem aCf (x:aE):eD K O (.conv .bytesStr x) i k M n fs env S=jS K O (bsV (eR S (cB K n env M x))) i k M n fs env S:=_root_.id (aE3 ..)
theorem aLs (w:Nat)(l:List (List IV))(es:Option (List (List TV))):aXh K O w (some l) es i k M n fs env S=oE K O k ((i,.iv (.sl .full l))::M) n fs env S:=_root_.id (aPs ..)
theorem aX4 (z:List IV)(len:Nat)(ps:List (Nat×aE)):eD K O (.lit false z len ps) i k M n fs env S=aXh K O z.length (bBp (dK (List.replicate len (z.map .iv)) z.length (cB K n env M) ps)) (dK (List.replicate len (z.map .iv)) z.length (cB K n env M) ps) i k M n fs env S:=_root_.id (bBq ..)
theorem aIg (t:Nat)(z:List IV):eD K O (.allocH t z) i k M n fs env S=aLh K O (some (.ptr S.length t 0,S++[.cells t false (z.map .iv)])) i k M n fs env:=_root_.id (aKo ..)
theorem aLt:eD K O .mkMap i k M n fs env S=aLh K O (some (.map S.length,S++[.mp [] 0])) i k M n fs env:=_root_.id (aPu ..)
theorem aRo (t:Nat)(x:aE):eD K O (.boxH t x) i k M n fs env S=bFz K O (bFq t S.length (cB K n env M x)) i k M n fs env S:=_root_.id (aWa ..)
theorem aRp (x y:Out (bJ×Env×aA)):bB8 true x y=x:=_root_.id (aA7 ..)
theorem aIh (j:Nat)(z:List IV):eD K O (.allocL j z) i k M n fs env S=bB8 (okL j M env) (aCb K O (some (.lp j 0,env.set j (.lb (z.map .iv)),S)) i k M n fs) (eD K O (.allocL j z) i k M n fs env S):=_root_.id (aKp ..)
theorem aRq (j:Nat)(x:aE):eD K O (.boxL j x) i k M n fs env S=bB8 (okL j M env) (aCb K O (if (cellsOf (cB K n env M x)).any bM then none else some (.lp j 0,env.set j (.lb (cellsOf (cB K n env M x))),S)) i k M n fs) (eD K O (.boxL j x) i k M n fs env S):=_root_.id (aWb ..)
theorem aLu (w:Nat)(a v:aE):eD K O (.store w a v) i k M n fs env S=aCb K O (vZ w env S (cB K n env M a) (cB K n env M v)) i k M n fs:=_root_.id (aPw ..)
theorem aIi (kk:KK)(m y x:aE):eD K O (.update kk m y x) i k M n fs env S=aCb K O (fL (.update kk m y x) (cB K n env M) (cO M n) env S) i k M n fs:=_root_.id (aKq ..)
theorem aLv (str:Bool)(x:aE):eD K O (.range str x) i k M n fs env S=aCb K O (aKj str env S (cB K n env M x)) i k M n fs:=_root_.id (aPx ..)
theorem aLw (x:aE):eD K O (.nextS x) i k M n fs env S=aCb K O (aV7 env S (cB K n env M x)) i k M n fs:=_root_.id (aPy ..)
theorem aIj (mu:Bool)(es bytes el:Nat)(s x:aE):eD K O (.append mu es bytes el s x) i k M n fs env S=aLh K O (bR mu es bytes el S (cB K n env M s) (cB K n env M x)) i k M n fs env:=_root_.id (aKr ..)
theorem aRr (args ags:List TV)(f:Nat):aQ1 O S args f (some ags)=bCa S args (O.call f ags []):=_root_.id (aWc ..)
theorem aIk (args:List TV)(v:TV)(S':aA):bCa S args (.ret (v,S'))=bB9 S args (resolve S' v):=_root_.id (bBr ..)
theorem aRs (args:List TV)(v:TV):bB9 S args (some v)=bF4 (args.any pY&&!(iA v)) S args v:=_root_.id (aWd ..)
theorem aLx (args:List TV)(v:TV):bF4 false S args v=.ret (v,S):=_root_.id (aPz ..)
theorem aLy (t:Bool)(f:Nat)(args:List aE):eD K O (.call true t f args) i k M n fs env S=yE K O (aQ1 O S (args.map (cB K n env M)) f (dG S (args.map (cB K n env M)))) i k M n fs env:=_root_.id (aP0 ..)
theorem bCl (t:Bool)(f:Nat)(args:List TV):aQ2 O t S f false args=bF5 t S (O.call f args S):=_root_.id (bFs ..)
theorem bF7 (v:TV)(S':aA):bF5 false S (.ret (v,S'))=.ret (v,S'):=_root_.id (bHp ..)
theorem aLz (t:Bool)(f:Nat)(args:List aE):eD K O (.call false t f args) i k M n fs env S=yE K O (aQ2 O t S f ((args.map (cB K n env M)).any dH) (args.map (cB K n env M))) i k M n fs env:=_root_.id (aP1 ..)
theorem aRt (f:Nat)(args:List aE):eD K O (.prim f args) i k M n fs env S=aLh K O (prV S (K.prim f) (args.map (cB K n env M))) i k M n fs env:=_root_.id (aWe ..)
theorem aL0 (v:TV):aN1 S (some v)=.ret (v,S):=_root_.id (aP3 ..)
theorem aX5 (rs:List lZ):aFc rs (.ret (.ret,env,S))=aN1 S (lE rs env S):=_root_.id (bBs ..)
theorem aIl (rs:List lZ):aFc rs (.ret (.normal,env,S))=aN1 S (lE rs env S):=_root_.id (aKs ..)
theorem bCm (rs:List lZ)(B:Bool)(x y:Out (bJ×Env×aA)):aFc rs (br' B x y)=br' B (aFc rs x) (aFc rs y):=_root_.id (bFt ..)
theorem aB {f:Nat}{args:List TV}{fn:bH}{r:TV×aA}(hf:K.funcs f=some fn)(ha:args.length=fn.nparams)(h:aFc fn.results (go' K (lim K) fn.body [] (args++List.replicate (fn.nlocs-fn.nparams) undef) S)=.ret r):(lim K).call f args S=.ret r:=aWf K S hf ha h
theorem aIm (b:aP):aQ3 O b (.ret (.normal,env,S))=er (lp' O b env S):=_root_.id (aKt ..)
theorem aX6 (b:aP):aQ3 O b (.ret (.ret,env,S))=.ret (.ret,env,S):=_root_.id (bBt ..)
theorem aRu (b:aP)(id:Nat):aQ3 O b (.ret (.exit id,env,S))=.ret (.exit id,env,S):=_root_.id (aWg ..)
theorem rP {b:aP}{r:bJ×Env×aA}(h:aQ3 (lim K) b (go' K (lim K) b [] env S)=.ret r):lp' (lim K) b env S=.ret r:=aWh K env S h
theorem aRv (a:aE):aXi K M n env S (.load1 a)=lK false (bB env S (cB K n env M a) 1):=_root_.id (aWi ..)
theorem aRw (w:Nat)(a:aE):aXi K M n env S (.loadN w a)=lK true (bB env S (cB K n env M a) w):=_root_.id (aWj ..)
theorem aRx (b want:Bool)(j:Nat)(o:TOp):bF6 K (.iv (.bool b)) want j M n env S o=if b==want then rcS (aXi K M n env S o) (cB K n env M (.reg j)) else true:=_root_.id (aWm ..)
theorem aRy (o:TOp)(l:Option Nat)(j:Nat):bCb K (some ⟨o,l,none⟩) j M n env S=rcS (aXi K M n env S o) (cB K n env M (.reg j)):=_root_.id (aWn ..)
theorem aL1 (o:TOp)(l:Option Nat)(g:Nat)(want:Bool)(j:Nat):bCb K (some ⟨o,l,some (g,want)⟩) j M n env S=bF6 K (cB K n env M (.reg g)) want j M n env S o:=_root_.id (aP4 ..)
theorem aX7 (ops:List aG):aXj K ops M n env S []=true:=_root_.id (bBw ..)
theorem aRz (ops:List aG)(j:Nat)(c:List Nat):aXj K ops M n env S (j::c)=(bCb K (vX ops j) j M n env S&&aXj K ops M n env S c):=_root_.id (aWo ..)
theorem aR0 (ops:List aG)(ps:List (Nat×List Nat×List Nat))(c fl:List Nat):oE K O (.ph ops c fl ps) M n fs env S=bFy K O (aXj K ops M n env S c) ops fl ps M n fs env S:=_root_.id (aWp ..)
theorem go_region' (K:bI)(O:Orc)(ops:List aG)(fs:List Fr)(env:Env)(S:aA):go' K O (.region ops) fs env S=bF3 K O (aDq ops 0) ops fs env S:=_root_.id (go_region ..)
theorem aX8 (K:bI)(O:Orc)(n:Nat)(f0:List Nat)(ph:List (Nat×List Nat×List Nat))(ops:List aG)(fs:List Fr)(env:Env)(S:aA):aXk K O n f0 ph ops fs env S=aH9 K O ops f0 ph [] n fs env S:=_root_.id (aN0 ..)
theorem go_draw' (K:bI)(O:Orc)(f0:List Nat)(ph:List (Nat×List Nat×List Nat))(ops:List aG)(fs:List Fr)(env:Env)(S:aA):go' K O (.draw f0 ph ops) fs env S=aXk K O (aDq ops 0) f0 ph ops fs env S:=_root_.id (go_draw ..)
theorem aR1 (n:Nat):aDq [] n=n:=_root_.id (aWr ..)
theorem aL2 (a:aG)(l:List aG)(n:Nat):aDq (a::l) n=aDq l (n+1):=_root_.id (aP5 ..)
attribute [go_sem] aXl aQ4 bCc aXm aXn aXo bCd aQ5 aQ6 aQ7 aQ8 aQ9
attribute [go_sem] aXp aRa aRb aLi aRc bCe bCf aIa aFd bCg aIb aFe
attribute [go_sem] go_skip' go_ret' go_exit' go_seq' go_block' aRd go_cond' aXq go_loop' bCh aXr aXs
attribute [go_sem] aXt aRe aLj aRf aRg aLk aXu aRh aXv aRi aLl aRj
attribute [go_sem] aXw aRk aRl aFf aXx aIc bCi bCj
attribute [go_sem] aXy aXz aRm aLm aCd aX0 aX1 bCk aRn
attribute [go_sem] aBd aLn yF yG aId aFg aX2 aIe aLo aLp aLq
attribute [go_sem] aIf aX3 aLr aCe aCf aLs aX4
attribute [go_sem] aIg aLt aRo aRp aIh aRq aLu aIi aLv aLw aIj
attribute [go_sem] aRr aIk aRs aLx aLy bCl bF7
attribute [go_sem] aLz aRt aL0 aX5 aIl bCm aIm aX6 aRu
attribute [go_sem] aRv aRw
attribute [go_sem] aRx aRy aL1 aX7 aRz aR0 go_region' aX8 go_draw'
attribute [go_sem] aR1 aL2
theorem aN {b b':aP}{r:bJ×Env×aA}(hb:b=b')(h:aQ3 (lim K) b (go' K (lim K) b' [] env S)=.ret r):lp' (lim K) b env S=.ret r:=by
 subst hb
 exact rP K env S h
end
attribute [irreducible] br' bk' go' aQz bB4 aH9 bFy oE eD aQ0 jS bFz aLh aCb yE bF0 tB aCc bF1 bF2 bF3 aXk bB6 bB7 bB5 bB8 aXh lp' bB9 bCa aQ1 bF4 bF5 aQ2 aFc aQ3 aN1 cB aDq aXi aXj bCb bF6
end Go.TM
namespace Go.TM
theorem aF {m:Int}(h:-9223372036854775808≤m∧m≤9223372036854775807):IntKind.i64.wrap m=m:=by
 unfold IntKind.wrap
 simp[IntKind.bits,IntKind.signed]
 omega
theorem aR {m:Int}(h:-2147483648≤m∧m≤2147483647):IntKind.i32.wrap m=m:=by
 unfold IntKind.wrap
 simp[IntKind.bits,IntKind.signed]
 omega
theorem bCn {m:Int}(h:0≤m∧m≤255):IntKind.u8.wrap m=m:=by
 unfold IntKind.wrap
 simp[IntKind.bits,IntKind.signed]
 omega
theorem bF8 {p:Prop}[Decidable p](h:p):decide p=true:=decide_eq_true h
theorem bF9 {p:Prop}[Decidable p](h:¬p):decide p=false:=decide_eq_false h
theorem ifT {α:Type}{p:Prop}[Decidable p]{a b:α}(h:p):(if p then a else b)=a:=if_pos h
theorem ifF {α:Type}{p:Prop}[Decidable p]{a b:α}(h:¬p):(if p then a else b)=b:=if_neg h
theorem eqT {a b:Int}(h:a=b):(a==b)=true:=by simp[h]
theorem eqF {a b:Int}(h:a≠b):(a==b)=false:=by simp[h]
theorem neT {a b:Int}(h:a≠b):(a != b)=true:=by simp[h]
theorem neF {a b:Int}(h:a=b):(a != b)=false:=by simp[h]
def one {α:Type}(f:α→IV)(l:List α):List (List IV):=l.map fun a=>[f a]
def u8 (b:UInt8):IV:=.int .u8 b.toNat
def i64 (n:Int):IV:=.int .i64 n
theorem mH {α:Type}(f:α→IV)(l:List α):(one f l).length=l.length:=by simp[one]
theorem qW (l:List UInt8):(bL l).length=l.length:=by simp[bL]
theorem aX9 {α:Type}(f:α→IV)(l:List α):nE 1 (one f l)=true:=by cases l<;>rfl
theorem aYa {α:Type}(f:α→IV)(l:List α)(n:Nat):(one f l).drop n=one f (l.drop n):=by simp[one]
theorem aL3 {α:Type}(f:α→IV)(l m:List α):one f l++one f m=one f (l++m):=by simp[one]
def wA (t:Tag)(n b:Nat):Tag:=match t with
 | .nil=>.nil
 | .no=>.no
 | .full=>if n=b then .full else .no
def fN {α:Type}(t:Tag)(l:List α):Prop:=t=.nil→l=[]
theorem fN.no {α:Type}(l:List α):fN .no l:=fun h=>by cases h
theorem aL4 {t:Tag}{l:List (List IV)}{a b:Int}(ht:fN t l)(h:0≤a∧a≤b∧b≤l.length):fH t l (some a) (some b) none=some (.sl (wA t l.length b.toNat) ((l.drop a.toNat).take (b.toNat-a.toNat))):=by
 obtain⟨h1,h2,h3⟩:=h
 have h2':(a:Int)≤((b.toNat:Nat):Int):=by omega
 have h0:0≤b:=by omega
 have e0:((0:Nat):Int)≤b:=h0
 cases t with
 | nil =>
  have:=ht rfl
  subst this
  simp at h3
  obtain rfl:b=0:=by omega
  obtain rfl:a=0:=by omega
  simp[fH,eN,lJ,wA]
 | full =>
  simp only[fH,eN,lJ,h0,h1,h3,h2',and_self,↓reduceIte,wA]
 | no =>
  simp only[fH,eN,lJ,h0,h1,h3,h2',and_self,↓reduceIte,wA]
theorem aL5 {t:Tag}{l:List (List IV)}{a:Int}(ht:fN t l)(h:0≤a∧a≤l.length):fH t l (some a) none none=some (.sl t (l.drop a.toNat)):=by
 obtain⟨h1,h3⟩:=h
 cases t with
 | nil =>
  have:=ht rfl
  subst this
  simp at h3
  obtain rfl:a=0:=by omega
  simp[fH,eN,lJ]
 | full =>
  have e:List.take (l.length-a.toNat) (List.drop a.toNat l)=List.drop a.toNat l:=List.take_of_length_le (by simp)
  simp only[fH,eN,lJ,h1,h3,and_self,↓reduceIte,e]
 | no =>
  have e:List.take (l.length-a.toNat) (List.drop a.toNat l)=List.drop a.toNat l:=List.take_of_length_le (by simp)
  simp only[fH,eN,lJ,h1,h3,and_self,↓reduceIte,e]
theorem aYb (S:aA){t:Tag}{w:Nat}{l:List (List IV)}{a b:Int}(ht:fN t l)(hf:nE w l=true)(h:0≤a∧a≤b∧b≤l.length):cP S (.sl w) (.iv (.sl t l)) (some a) (some b) none=some (.iv (.sl (wA t l.length b.toNat) ((l.drop a.toNat).take (b.toNat-a.toNat)))):=by
 simp only[cP,hf,↓reduceIte,aL4 ht h,Option.map_some]
theorem aYc (S:aA){t:Tag}{w:Nat}{l:List (List IV)}{a:Int}(ht:fN t l)(hf:nE w l=true)(h:0≤a∧a≤l.length):cP S (.sl w) (.iv (.sl t l)) (some a) none none=some (.iv (.sl t (l.drop a.toNat))):=by
 simp only[cP,hf,↓reduceIte,aL5 ht h,Option.map_some]
theorem bCo {α:Type}{f:α→IV}{t:Tag}{l:List α}(h:fN t l):fN t (one f l):=fun e=>by rw[h e]; rfl
theorem aFh {α:Type}{f:α→IV}(S:aA){t:Tag}{l:List α}{a:Int}(ht:fN t l)(h:0≤a∧a≤l.length):cP S (.sl 1) (.iv (.sl t (one f l))) (some a) none none=some (.iv (.sl t (one f (l.drop a.toNat)))):=by
 rw[aYc S (bCo ht) (aX9 f l) (by rw[mH]; exact h),aYa]
theorem aBe (S:aA){t:Tag}{l:List UInt8}{a:Int}(ht:fN t l)(h:0≤a∧a≤l.length):cP S (.sl 1) (.iv (.sl t (bL l))) (some a) none none=some (.iv (.sl t (bL (l.drop a.toNat)))):=aFh (f:=u8) S ht h
theorem aFi (S:aA){s:List UInt8}{b:Int}(h:0≤b∧b≤s.length):cP S .str (.iv (.str s)) none (some b) none=some (.iv (.str (s.take b.toNat))):=by
 simp only[cP,eN,lJ,h,and_self,↓reduceIte]
 simp
theorem aFj (S:aA){s:List UInt8}{a:Int}(h:0≤a∧a≤s.length):cP S .str (.iv (.str s)) (some a) none none=some (.iv (.str (s.drop a.toNat))):=by
 have e:List.take (s.length-a.toNat) (List.drop a.toNat s)=List.drop a.toNat s:=List.take_of_length_le (by simp)
 simp only[cP,eN,lJ,h,and_self,↓reduceIte,e]
theorem pJ {w:Nat}{t:Tag}{l:List (List IV)}{i:Int}{c:List IV}(h:0≤i)(hc:l[i.toNat]? = some c)(hw:c.length=w):indexAddrS w (.iv (.sl t l)) i=some (.iv (.cp c)):=by
 have:¬i<0:=by omega
 simp only[indexAddrS,this,↓reduceIte,hc,hw]
theorem wB {w j:Nat}{l:List (List IV)}{i:Int}{c:List IV}(h:0≤i)(hc:l[i.toNat]? = some c)(hw:c.length=w):indexAddrS w (.tsl j l) i=some (.iv (.cp c)):=by
 have:¬i<0:=by omega
 simp only[indexAddrS,this,↓reduceIte,hc,hw]
theorem bCp {α:Type}(f:α→IV)(l:List α)(n:Nat):(one f l)[n]? = (l[n]?).map fun a=>[f a]:=by simp[one]
theorem aBf {α:Type}[Inhabited α](f:α→IV){t:Tag}{l:List α}{i:Int}(h:0≤i∧i<l.length):indexAddrS 1 (.iv (.sl t (one f l))) i=some (.iv (.cp [f (l.getD i.toNat default)])):=by
 refine pJ h.1 ?_ rfl
 have:i.toNat<l.length:=by omega
 rw[bCp,List.getElem?_eq_getElem this]
 simp[List.getD,List.getElem?_eq_getElem this]
theorem aYd {s:List UInt8}{i:Int}{kd:IntKind}(h:0≤i∧i<s.length):aDk (.iv (.str s)) (.iv (.int kd i))=some (.iv (.int .u8 (s.getD i.toNat 0).toNat)):=by
 have:i.toNat<s.length:=by omega
 simp only[aDl,h.1,↓reduceIte,List.getElem?_eq_getElem this,Option.map_some,List.getD,Option.getD_some]
theorem aFk (env:Env)(S:aA)(x:IV)(l:List IV):bB env S (.iv (.cp (x::l))) 1=some [.iv x]:=by simp[bB,sub]
end Go.TM
namespace Go.TM
theorem iN {w:Nat}{a:Int}(h:0≤a∧a<2 ^ w):(BitVec.ofInt w a).toNat=a.toNat:=by
 rw[BitVec.toNat_ofInt]
 have:a % ((2 ^ w:Nat):Int)=a:=Int.emod_eq_of_lt h.1 (by push_cast; exact h.2)
 rw[this]
theorem aYe {w k:Nat}{a:Int}(h:0≤a∧a<2 ^ w)(hk:(2:Int) ^ k-1<2 ^ w):(BitVec.ofInt w a &&& BitVec.ofInt w (2 ^ k-1)).toNat=(a % 2 ^ k).toNat:=by
 have h1:(0:Int)≤2 ^ k-1:=by have:=Int.pow_pos (n:=2) (m:=k) (by decide); omega
 rw[BitVec.toNat_and,iN h,iN ⟨h1,hk⟩]
 have e:((2:Int) ^ k-1).toNat=2 ^ k-1:=by
  have:(2:Int) ^ k=((2 ^ k:Nat):Int):=by push_cast; rfl
  rw[this]; omega
 rw[e,Nat.and_two_pow_sub_one_eq_mod]
 obtain⟨n,rfl⟩:=Int.eq_ofNat_of_zero_le h.1
 have:((n:Int) % 2 ^ k)=((n % 2 ^ k:Nat):Int):=by push_cast; rfl
 rw[Int.toNat_natCast,this]; exact (Int.toNat_natCast _).symm
theorem bGa {w k:Nat}{a b:Int}(ha:0≤a∧a<2 ^ w)(hb:0≤b∧b<2 ^ k)(hk:(2:Int) ^ k≤2 ^ w)(hm:a % 2 ^ k=0):(BitVec.ofInt w a ||| BitVec.ofInt w b).toNat=(a+b).toNat:=by
 rw[BitVec.toNat_or,iN ha,iN ⟨hb.1,by omega⟩]
 obtain⟨n,rfl⟩:=Int.eq_ofNat_of_zero_le ha.1
 obtain⟨m,rfl⟩:=Int.eq_ofNat_of_zero_le hb.1
 have hm':n % 2 ^ k=0:=by
  have:((n % 2 ^ k:Nat):Int)=0:=by rw[←hm]; push_cast; rfl
  omega
 have hb':m<2 ^ k:=by
  have:=hb.2
  have e:((2:Int) ^ k)=((2 ^ k:Nat):Int):=by push_cast; rfl
  rw[e]at this; omega
 obtain⟨c,rfl⟩:=Nat.dvd_of_mod_eq_zero hm'
 simp only[Int.toNat_natCast]
 rw[←Nat.two_pow_add_eq_or_of_lt hb']
 omega
theorem aYf {k m:Nat}(h:k≤m):(2:Int) ^ k≤2 ^ m:=by
 have:=Nat.pow_le_pow_right (n:=2) (by decide) h
 exact_mod_cast this
theorem aFl {k:Nat}{a m:Int}(h:0≤a∧a≤255)(hk:k≤8)(hm:m=2 ^ k-1):IntKind.u8.wrap (pN 8 a m)=a % 2 ^ k:=by
 subst hm
 have h2:(2:Int) ^ k≤2 ^ 8:=aYf hk
 have h3:(0:Int)<2 ^ k:=Int.pow_pos (by decide)
 have h4:=Int.emod_nonneg a (show (2:Int) ^ k≠0 by omega)
 have h5:=Int.emod_lt_of_pos a h3
 unfold pN
 rw[aYe (k:=k) ⟨h.1,by omega⟩ (by omega)]
 rw[bCn (by omega)]
 omega
theorem aL6 {k:Nat}{a b:Int}(ha:0≤a∧a≤2147483647-2 ^ k)(hk:k<31)(hb:0≤b∧b<2 ^ k)(hm:a % 2 ^ k=0):IntKind.i32.wrap (bOr 32 a b)=a+b:=by
 have h2:(2:Int) ^ k≤2 ^ 31:=aYf (by omega)
 unfold bOr
 rw[bGa (k:=k) ⟨ha.1,by omega⟩ hb (by omega) hm]
 rw[aR (by omega)]
 omega
theorem aS {a:Int}(h:0≤a∧a≤255):IntKind.u8.wrap (pN 8 a 31)=a % 32:=aFl (k:=5) h (by decide) (by decide)
theorem aT {a:Int}(h:0≤a∧a≤255):IntKind.u8.wrap (pN 8 a 15)=a % 16:=aFl (k:=4) h (by decide) (by decide)
theorem bF {a:Int}(h:0≤a∧a≤255):IntKind.u8.wrap (pN 8 a 7)=a % 8:=aFl (k:=3) h (by decide) (by decide)
theorem aU {a:Int}(h:0≤a∧a≤255):IntKind.u8.wrap (pN 8 a 63)=a % 64:=aFl (k:=6) h (by decide) (by decide)
theorem bG {a b:Int}(ha:0≤a∧a≤1000000000∧a % 64=0)(hb:0≤b∧b<64):IntKind.i32.wrap (bOr 32 a b)=a+b:=aL6 (k:=6) ⟨ha.1,by have:=ha.2.1; omega⟩ (by decide) hb ha.2.2
theorem aW {a b:Int}(ha:0≤a∧a≤1000000000∧a % 4096=0)(hb:0≤b∧b<4096):IntKind.i32.wrap (bOr 32 a b)=a+b:=aL6 (k:=12) ⟨ha.1,by have:=ha.2.1; omega⟩ (by decide) hb ha.2.2
theorem aX {a b:Int}(ha:0≤a∧a≤1000000000∧a % 262144=0)(hb:0≤b∧b<262144):IntKind.i32.wrap (bOr 32 a b)=a+b:=aL6 (k:=18) ⟨ha.1,by have:=ha.2.1; omega⟩ (by decide) hb ha.2.2
theorem aFm {a:Int}(h:0≤a∧a≤2147483647):IntKind.i32.wrap (rO 32 a 0)=a:=by
 have e:BitVec.ofInt 32 a &&& ~~~ BitVec.ofInt 32 0=BitVec.ofInt 32 a:=by
  have : ~~~ BitVec.ofInt 32 0=BitVec.allOnes 32:=by decide
  rw[this,BitVec.and_allOnes]
 unfold rO
 rw[e,iN ⟨h.1,by omega⟩,aR (by omega)]
 omega
theorem aFn (a:Int):IntKind.i32.wrap (rO 32 a (-1))=0:=by
 have e:BitVec.ofInt 32 a &&& ~~~ BitVec.ofInt 32 (-1)=0#32:=by
  have : ~~~ BitVec.ofInt 32 (-1)=0#32:=by decide
  rw[this]; simp
 unfold rO
 rw[e]; decide
theorem aYg {env:Env}{S:aA}{cs:List IV}{n:Nat}{x:IV}(h:cs[n]? = some x):bB env S (.iv (.cp (cs.drop n))) 1=some [.iv x]:=by
 have hn:n<cs.length:=by
  rcases Nat.lt_or_ge n cs.length with h1|h1
  ·exact h1
  ·rw[List.getElem?_eq_none h1]at h; cases h
 rw[List.drop_eq_getElem_cons hn,aFk]
 rw[List.getElem?_eq_getElem hn]at h
 rw[Option.some.inj h]
theorem aR2 {cs:List IV}{n:Nat}(h:n≤cs.length):dY (.iv (.cp cs)) n=some (.iv (.cp (cs.drop n))):=by
 simp only[dY,h,↓reduceIte]
end Go.TM
namespace Go.TM
theorem aBg {α:Type}{w:Nat}:∀ {l:List (List α)},(∀y∈l,y.length=w)→(bO l).length=l.length*w
 | [],_=>by simp[bO]
 | a::l,h=>by
  have h1:=h a (by simp)
  have h2:=aBg (l:=l) (fun y hy=>h y (by simp[hy]))
  simp only[bO,List.length_append,List.length_cons,h1,h2,Nat.add_mul]
  omega
theorem mX {α:Type}{w:Nat}:∀ {l:List (List α)},(∀y∈l,y.length=w)→dJ w l.length (bO l)=l
 | [],_=>rfl
 | a::l,h=>by
  have h1:=h a (by simp)
  have h2:=mX (l:=l) (fun y hy=>h y (by simp[hy]))
  simp only[bO,List.length_cons,dJ]
  rw[←h1,List.take_left',List.drop_left',h1,h2]<;>rfl
theorem wC:∀(l:List IV),toIVs (l.map .iv)=some l
 | []=>rfl
 | a::l=>by rw[List.map_cons,aBc,aH2,wC l,aA9]
def hG:IV→Bool
 | .agg _=>false
 | _=>true
theorem uX:∀ {l:List IV},l.all hG=true→(l.map TV.iv).any bM=false
 | [],_=>rfl
 | a::l,h=>by
  simp only[List.all_cons,Bool.and_eq_true]at h
  simp only[List.map_cons,List.any_cons,uX h.2,Bool.or_false]
  cases a<;>first|rfl|simp[hG]at h
theorem aBh:∀ {l:List (List IV)},(∀y∈l,y.all hG=true)→(bO l).all hG=true
 | [],_=>rfl
 | a::l,h=>by
  simp only[bO,List.all_append,Bool.and_eq_true]
  exact⟨h a (by simp),aBh (fun y hy=>h y (by simp[hy]))⟩
theorem qX {w:Nat}:∀ {l:List (List IV)},(∀y∈l,y.length=w)→nE w l=true
 | [],_=>rfl
 | a::l,h=>by simp[nE,h a (by simp)]
theorem aL7 {α:Type}[Inhabited α]{w:Nat}{f:α→List IV}(hw:∀a,(f a).length=w){t:Tag}{l:List α}{i:Int}(h:0≤i∧i<l.length):indexAddrS w (.iv (.sl t (l.map f))) i=some (.iv (.cp (f (l.getD i.toNat default)))):=by
 refine pJ h.1 ?_ (hw _)
 have:i.toNat<l.length:=by omega
 rw[List.getElem?_map,List.getElem?_eq_getElem this]
 simp[List.getD,List.getElem?_eq_getElem this]
theorem aIn (env:Env)(S:aA)(cs:List IV)(n:Nat):bB env S (.iv (.cp cs)) n=(sub cs 0 n).map (·.map .iv):=id rfl
theorem aBi {α:Type}{l:List α}{d:α}{i:Nat}(h:i<l.length):l.take (i+1)=l.take i++[l.getD i d]:=by
 rw[List.take_succ_eq_append_getElem h]
 simp[List.getD,List.getElem?_eq_getElem h]
def Pure (K:bI)(f:Nat)(ags:List TV)(v:TV):Prop:=∃r S,(lim K).call f ags []=.ret (r,S)∧resolve S r=some v
theorem cJ {K:bI}{f:Nat}{ags:List TV}{v r:TV}{S:aA}(h:(lim K).call f ags []=.ret (r,S))(hr:resolve S r=some v):Pure K f ags v:=⟨r,S,h,hr⟩
theorem aQ {K:bI}{f:Nat}{ags:List TV}{v:TV}(h:Pure K f ags v)(S:aA)(args:List TV):bCa S args ((lim K).call f ags [])=bB9 S args (some v):=by
 obtain⟨r,S',h1,h2⟩:=h
 rw[h1,aIk,h2]
def bCq (v:Option TV):Out TV:=match v with
 | some v=>.ret v
 | none => .fail ""
theorem aR3 (v:TV):bCq (some v)=.ret v:=id rfl
def bGb (x:Out (TV×aA)):Out TV:=x.bind fun r=>bCq (resolve r.2 r.1)
theorem aYh (r:TV)(S:aA):bGb (.ret (r,S))=bCq (resolve S r):=id rfl
attribute [go_sem] aR3 aYh
theorem gR {K:bI}{f:Nat}{args:List TV}(fn:bH){v:TV}(hf:K.funcs f=some fn)(ha:args.length=fn.nparams)(h:bGb (aFc fn.results (go' K (lim K) fn.body [] (args++List.replicate (fn.nlocs-fn.nparams) undef) []))=.ret v):Pure K f args v:=by
 generalize hx:aFc fn.results (go' K (lim K) fn.body [] (args++List.replicate (fn.nlocs-fn.nparams) undef) [])=x at h
 cases x with
 | ret r =>
  obtain⟨r,S⟩:=r
  refine⟨r,S,aB K [] hf ha hx,?_⟩
  simp only[bGb,Out.bind,bCq]at h
  cases hr:resolve S r with
  | none=>rw[hr]at h; cases h
  | some u=>rw[hr]at h; cases h; rfl
 | fail s=>cases h
 | pick n k=>cases h
def cX (w:Nat)(l:List (List IV)):Prop:=∀y∈l,y.length=w∧y.all hG=true
theorem cX.map {α:Type}{w:Nat}{f:α→List IV}(h:∀a,(f a).length=w∧(f a).all hG=true)(l:List α):cX w (l.map f):=by
 intro y hy
 obtain⟨a,_,rfl⟩:=List.mem_map.1 hy
 exact h a
theorem cX.one {α:Type}{f:α→IV}(h:∀a,hG (f a)=true)(l:List α):cX 1 (one f l) :=
 cX.map (f:=fun a=>[f a]) (fun a=>⟨rfl,by simp[h a]⟩) l
def iJ (S:aA)(x:TV)(ys:List (List IV)):Prop:=jV S x=some ((bO ys).map .iv)∧lenOf S x=some ys.length
theorem iJ.sl (S:aA)(t:Tag)(ys:List (List IV)):iJ S (.iv (.sl t ys)) ys:=⟨rfl,rfl⟩
theorem iJ.tsl (S:aA)(j:Nat)(ys:List (List IV)):iJ S (.tsl j ys) ys:=⟨rfl,rfl⟩
theorem fA {n b:Nat}(h:n*b≤35184372088832∧b≤1048576∧n≤35184372088832):fR n b=true:=by
 simp[fR,h]
theorem aBj {w b el i:Nat}{S:aA}{l ys:List (List IV)}{x:TV}(hx:iJ S x ys)(hw:cX w ys)(hl:cX w l)(hS:S[i]? = some (.tok l.length w el))(hr:fR (l.length+ys.length) b=true) :
  bR false w b el S (.tsl i l) x=some (.tsl i (l++ys),S.set i (.tok (l.length+ys.length) w el)):=by
 obtain⟨h1,h2⟩:=hx
 have hf:=aBg (w:=w) (fun y hy=>(hw y hy).1)
 have ha:=uX (aBh (fun y hy=>(hw y hy).2))
 simp only[bR,h1,h2,List.length_map,hf,ne_eq,not_true_eq_false,ha,Bool.false_eq_true,or_self,↓reduceIte]
 by_cases hm:ys.length=0
 ·have:ys=[]:=List.eq_nil_of_length_eq_zero hm
  subst this
  simp only[hm,↓reduceIte,aJl,List.append_nil,Nat.add_zero]
  have hi:i<S.length:=by
   rcases Nat.lt_or_ge i S.length with h3|h3
   ·exact h3
   ·rw[List.getElem?_eq_none h3]at hS; cases hS
  rw[List.getElem?_eq_getElem hi]at hS
  have e:S.set i (.tok l.length w el)=S:=by rw[←Option.some.inj hS]; exact List.set_getElem_self hi
  simp[e]
 ·simp only[hm,↓reduceIte,hS,wC,qX (fun y hy=>(hl y hy).1),hr,decide_true,Bool.and_self,mX (fun y hy=>(hw y hy).1)]
theorem wD {w b el:Nat}{S:aA}{t:Tag}{l ys:List (List IV)}{x:TV}(ht:t≠.no)(hx:iJ S x ys)(hw:cX w ys)(hl:cX w l)(h0:ys≠[])(hr:fR (l.length+ys.length) b=true) :
  bR false w b el S (.iv (.sl t l)) x=some (.tsl S.length (l++ys),S++[.tok (l.length+ys.length) w el]):=by
 obtain⟨h1,h2⟩:=hx
 have hf:=aBg (w:=w) (fun y hy=>(hw y hy).1)
 have ha:=uX (aBh (fun y hy=>(hw y hy).2))
 have hm:¬ys.length=0:=fun e=>h0 (List.eq_nil_of_length_eq_zero e)
 have ht':(t==.no)=false:=by cases t<;>first|rfl|exact absurd rfl ht
 simp only[bR,h1,h2,List.length_map,hf,ne_eq,not_true_eq_false,ha,Bool.false_eq_true,or_self,↓reduceIte,hm,ht',qX (fun y hy=>(hl y hy).1),hr,Bool.not_true,Bool.or_self,wC,mX (fun y hy=>(hw y hy).1)]
theorem wE {mu:Bool}{w b el:Nat}{S:aA}{s x:TV}(hs:aJl s=true)(hx:iJ S x []):bR mu w b el S s x=some (s,S):=by
 obtain⟨h1,h2⟩:=hx
 simp[bR,h1,h2,bO,hs]
def acc (i:Nat)(l:List (List IV)):TV:=if l=[] then .iv (.sl .nil []) else .tsl i l
theorem gS (i:Nat):acc i []=.iv (.sl .nil []):=by simp[acc]
theorem eP (i:Nat){l:List (List IV)}(h:l≠[]):acc i l=.tsl i l:=by simp[acc,h]
def tC (w el:Nat)(l:List (List IV)):aA:=if l=[] then [] else [.tok l.length w el]
theorem oF (w el:Nat):tC w el []=[]:=by simp[tC]
theorem rQ (w el:Nat){l:List (List IV)}(h:l≠[]):tC w el l=[.tok l.length w el]:=by simp[tC,h]
theorem bGc {w b el:Nat}{l ys:List (List IV)}{x:TV}(hx:∀S,iJ S x ys)(hw:cX w ys)(hl:cX w l)(hr:fR (l.length+ys.length) b=true) :
  bR false w b el (tC w el l) (acc 0 l) x=some (acc 0 (l++ys),tC w el (l++ys)):=by
 by_cases h:l=[]
 ·subst h
  by_cases h0:ys=[]
  ·subst h0
   rw[gS,oF,wE rfl (hx _)]; rfl
  ·rw[gS,oF,wD (by decide) (hx _) hw hl h0 hr,List.nil_append,eP _ h0,rQ _ _ h0]
   simp
 ·have h2:l++ys≠[]:=by simp[h]
  rw[eP _ h,rQ _ _ h,aBj (hx _) hw hl rfl hr,eP _ h2,rQ _ _ h2]
  simp
theorem aBk (S:aA)(i:Nat)(l:List (List IV)):aB6 .sl S (acc i l)=some (.iv (.int .i64 l.length)):=by
 unfold acc; split
 ·rename_i h; subst h; rfl
 ·rfl
def tD {α:Type}(l:List α):Tag:=match l with
 | []=>.nil
 | _=>.no
theorem aIo {α β:Type}(f:α→β)(l:List α):tD (l.map f)=tD l:=by cases l<;>rfl
theorem aR4 (S:aA)(i:Nat)(l:List (List IV)):aD7 S (acc i l)=some (.sl (tD l) l):=by cases l<;>rfl
theorem uY (S:aA)(i:Nat)(l:List (List IV)):kJ S (acc i l)=some (.iv (.sl (tD l) l)):=by cases l<;>rfl
theorem bCr {w b el:Nat}{l:List (List IV)}{t:Tag}{c:List IV}(hc:c.length=w∧c.all hG=true)(hl:cX w l)(hr:fR (l.length+1) b=true) :
  bR false w b el (tC w el l) (acc 0 l) (.iv (.sl t [c]))=some (acc 0 (l++[c]),tC w el (l++[c])) :=
 bGc (fun S=>iJ.sl S t [c]) (by intro y hy; simp at hy; subst hy; exact hc) hl hr
theorem bCs {w b el:Nat}(B:aM){l ys:List (List IV)}{x:TV}(hx:∀S,iJ S x ys)(hw:cX w ys)(hl:cX w l)(hr:fR (l.length+ys.length) b=true) :
  bR false w b el (B::tC w el l) (acc 1 l) x=some (acc 1 (l++ys),B::tC w el (l++ys)):=by
 by_cases h:l=[]
 ·subst h
  by_cases h0:ys=[]
  ·subst h0
   rw[gS,oF,wE rfl (hx _)]; rfl
  ·rw[gS,oF,wD (by decide) (hx _) hw hl h0 hr,List.nil_append,eP _ h0,rQ _ _ h0]
   simp
 ·have h2:l++ys≠[]:=by simp[h]
  rw[eP _ h,rQ _ _ h,aBj (hx _) hw hl rfl hr,eP _ h2,rQ _ _ h2]
  simp
theorem aYi {w b el:Nat}(B:aM){l:List (List IV)}{t:Tag}{c:List IV}(hc:c.length=w∧c.all hG=true)(hl:cX w l)(hr:fR (l.length+1) b=true) :
  bR false w b el (B::tC w el l) (acc 1 l) (.iv (.sl t [c]))=some (acc 1 (l++[c]),B::tC w el (l++[c])) :=
 bCs B (fun S=>iJ.sl S t [c]) (by intro y hy; simp at hy; subst hy; exact hc) hl hr
theorem aR5 (env:Env)(s:List UInt8)(pos:Nat)(R:aA):aV7 env (.sit s pos::R) (.it 0)=if pos<s.length then some (.tup [.iv (.bool true),.iv (.int .i64 pos),.iv (.int .i32 (Utf8.decode ⟨s.toArray⟩ pos).1)],env,.sit s (pos+(Utf8.decode ⟨s.toArray⟩ pos).2)::R) else some (.tup [.iv (.bool false)],env,.sit s pos::R):=id rfl
attribute [go_sem] aR5
theorem aN2 (K:bI)(O:Orc)(j i':Nat)(l:List (List IV))(ops:List aG)(i:Nat)(M:List (Nat×TV))(n:Nat)(fs:List Fr)(env:Env)(S:aA):aCc K O (acc i' l) j ops i M n fs env S=tB K O ops (i+1) M n fs (env.set j (acc i' l)) S:=by
 unfold acc; split
 ·exact aFf K O ops i M n fs env S _ j
 ·exact aIc K O ops i M n fs env S _ _ j
theorem aL8 (i:Nat)(l:List (List IV)):iS (acc i l)=.iv (.sl (tD l) l):=by cases l<;>rfl
theorem aIp (j i:Nat)(l:List (List IV)):vV j (acc i l)=acc i l:=by unfold acc; split<;>rfl
theorem aIq (i:Nat)(l:List (List IV)):dH (acc i l)=false:=by unfold acc; split<;>rfl
theorem aYj (i:Nat)(l:List (List IV)):aWz (acc i l)=some (acc i l):=by unfold acc; split<;>rfl
theorem aR6 (i:Nat)(l:List (List IV)):pY (acc i l)=false:=by unfold acc; split<;>rfl
attribute [go_sem] aR4 uY aN2 aL8 aIp aIq aYj aBk
end Go.TM
namespace Go.TM
open Go Go.ChangeShapes Go.WideShapes Go.RowKit
variable {P:Program}{H:Type}{enc:TypeId×Value→H}{W:World}
def mY (P:Program){H:Type}:List TypeId→List (DataW H)→List (List IV)→Prop
 | [],[],[]=>True
 | t::ts,d::ds,l::ls=>Ty P t d l∧mY P ts ds ls
 | _,_,_=>False
def aFo (P:Program):List TypeId→List (List IV)→List TV
 | t::ts,l::ls=>aDg P t l::aFo P ts ls
 | _,_=>[]
theorem aN3 {ts:List TypeId}(hts:aPa P ts=true){r:Reach}{b base:Nat}{held:Bool}:∀ {params:List TypeId} {vals:List Value} {ds:List (DataW H)} {ps:List MemPlace},(∀t∈params,t∈ts)→(∀(j:Nat) t v,params[j]? = some t→vals[j]? = some v→Value.okWide P W r b t v) →
  DataW.TrodAll enc P W base (fun _=>true) held params vals ds ps→∃ls,mY P params ds ls∧VRs (eC W) [] [] (aFo P params ls) vals
 | [],vals,ds,ps,_,_,h=>by
  obtain⟨rfl,rfl,rfl⟩:=trodAll_nil h
  exact⟨[],trivial,VRs.nil⟩
 | t::params,vals,ds,ps,hp,hv,h=>by
  obtain⟨v,vs',d,ds',p,q,rfl,rfl,rfl,h1,h2⟩:=trodAll_cons h
  obtain⟨l,k1,k2⟩:=bE9 hts (hp t (by simp)) (hv 0 t v rfl rfl) h1
  obtain⟨ls,k3,k4⟩:=aN3 hts (fun u hu=>hp u (by simp[hu])) (fun j u w hu hw=>hv (j+1) u w (by simpa using hu) (by simpa using hw)) h2
  exact⟨l::ls,⟨k1,k3⟩,VRs.cons k2 k4⟩
theorem bCt {t:TypeId}{d:DataW H}{l:List IV}(hu:P.underlying t=some .bool)(h:Ty P t d l):∃b,l=[.bool b]:=by
 cases h with
 | bool u ht b=>exact⟨b,rfl⟩
 | int u k ht=>rw[hu]at ht; cases ht
 | str u ht=>rw[hu]at ht; cases ht
 | nilp u e ht=>rw[hu]at ht; cases ht
 | ptr u e ht=>rw[hu]at ht; cases ht
 | nils u e ht=>rw[hu]at ht; cases ht
 | sl u e ht=>rw[hu]at ht; cases ht
 | struct u fs ht=>rw[hu]at ht; cases ht
 | array u e n ht=>rw[hu]at ht; cases ht
theorem aR7 {t:TypeId}{l:List IV}(h:(match P.underlying t with|some (.struct _)|some (.array _ _)=>true|_=>false)=true):aDg P t l=.iv (.agg l):=by
 unfold aDg
 split
 ·rfl
 ·rfl
 ·rename_i h1 h2
  split at h
  ·rename_i e; exact absurd e (h1 _)
  ·rename_i e; exact absurd e (h2 _ _)
  ·cases h
theorem rR {ds:List (DataW H)}{ls:List (List IV)}(h:mY P [] ds ls):ls=[]:=by
 cases ds<;>cases ls<;>first|rfl|exact h.elim
theorem aL9 {P:Program}{ts:Array TypeId}{q:TypeId→Bool}(h:ts.toList.all (fun t=>!(q t))=true)(j:Nat)(t:TypeId)(ht:ts[j]? = some t):q t=false:=by
 have:=List.all_eq_true.1 h t (Array.mem_toList_iff.2 (Array.mem_of_getElem? ht))
 simpa using this
theorem mI {ds:List (DataW H)}{ls:List (List IV)}(h:mY P [] ds ls):ds=[]:=by
 cases ds<;>cases ls<;>first|rfl|exact h.elim
theorem aIr {t:TypeId}{ts:List TypeId}{ds:List (DataW H)}{ls:List (List IV)}(h:mY P (t::ts) ds ls):∃(d:DataW H) (l:List IV) (ds':List (DataW H)) (ls':List (List IV)),ds=d::ds'∧ls=l::ls'∧mY P ts ds' ls':=by
 cases ds with
 | nil=>cases ls<;>exact h.elim
 | cons d ds =>
  cases ls with
  | nil=>exact h.elim
  | cons l ls=>exact⟨d,l,ds,ls,rfl,rfl,h.2⟩
theorem aBl {O:dB}{K:TM.bI}(hk:KOK P O K){f:Nat}{args:List TV}(h:((lim K).call f args []).All fun r=>r.1=.iv (.bool true)){vals:Array Value}(hv:VRs (eC W) [] [] args vals.toList)(hg:oX K (eC W)) :
  Calls P f vals W fun e W'=>e=.returned (.bool true)∧Below W.heap.size W W':=by
 obtain⟨n,hn⟩:=bAw (K:=K) (f:=f) (a:=args) (S:=[]) h
 exact aPc hk hn hv hg
end Go.TM
namespace Go.TM
section
variable (K:bI)(O:Orc)(i:Nat)(k:Kt)(M:List (Nat×TV))(n:Nat)(fs:List Fr)(env:Env)(S:aA)
def cvA (O:Orc)(c:Bool)(S:aA)(g:Nat)(ags:List TV):Out (TV×aA):=if c then aQ1 O S ags g (dG S ags) else aQ2 O false S g (ags.any dH) ags
theorem aYk (g:Nat)(ags:List TV):cvA O true S g ags=aQ1 O S ags g (dG S ags):=by simp only[cvA,↓reduceIte]
theorem aR8 (g:Nat)(ags:List TV):cvA O false S g ags=aQ2 O false S g (ags.any dH) ags:=by simp only[cvA,Bool.false_eq_true,↓reduceIte]
def aYl (O : Orc) (S : aA) (j : Nat) (lp : Bool) (ags : List TV) : Out (TV × aA) := if lp then .fail "" else er (O.yld j ags S)
theorem bCu (j:Nat)(ags:List TV):aYl O S j false ags=er (O.yld j ags S):=by simp only[aYl,Bool.false_eq_true,↓reduceIte]
def opF (f:TV)(ags:List TV)(i:Nat)(k:Kt)(M:List (Nat×TV))(n:Nat)(fs:List Fr)(env:Env)(S:aA):TT (Out (bJ×Env×aA)) (i,k,M,n,fs,env,S) :=
 match f with
 | .fn g a b=>yE K O (cvA O ((a++ags++b).all zL) S g (a++ags++b)) i k M n fs env
 | .yld j=>yE K O (aYl O S j (ags.any dH) ags) i k M n fs env
 | _ => (.fail "" : Out (bJ × Env × aA))
theorem bGd (g:Nat)(a b ags:List TV):opF K O (.fn g a b) ags i k M n fs env S=yE K O (cvA O ((a++ags++b).all zL) S g (a++ags++b)) i k M n fs env:=rfl
theorem bCv (j:Nat)(ags:List TV):opF K O (.yld j) ags i k M n fs env S=yE K O (aYl O S j (ags.any dH) ags) i k M n fs env:=rfl
theorem aR9 (f:aE)(args:List aE):eD K O (.callv f args) i k M n fs env S=opF K O (cB K n env M f) (args.map (cB K n env M)) i k M n fs env S:=by
 unfold eD cB
 simp only[op1,bU]
 show er (Out.bind (match opv K n env M f with
  | .fn g a b=>Out.bind (if (a++args.map (opv K n env M)++b).all zL then eE O g (a++args.map (opv K n env M)++b) S else gZ O false g (a++args.map (opv K n env M)++b) S) fun r=>.ret (r.1,env,r.2)
  | .yld j => if (args.map (opv K n env M)).any dH then .fail "yield: a local's address" else Out.bind (O.yld j (args.map (opv K n env M)) S) fun r => .ret (r.1, env, r.2)
  | _ => .fail "callv") _) = _
 cases opv K n env M f with
 | fn g a b =>
  simp only[opF,cvA,Out.bind_assoc,Out.bind]
  split
  ·unfold yE aQ1
   rw[←xS,←aA8]
  ·unfold yE aQ2
   rw[←aDn,←aA8]
 | yld j =>
  simp only[opF,aYl]
  split
  ·unfold yE; rfl
  ·unfold yE
   rw[←aA8]
   simp only[Out.bind_assoc,Out.bind]
 | _=>rfl
end
theorem bCw (v:IV):zL (.iv v)=true:=id rfl
theorem aYm (a b c:Nat):zL (.ptr a b c)=false:=id rfl
theorem aYn (f:Nat)(a b:List TV):aNy f a b=if (a++b).any dH=true then none else some (.fn f a b):=id rfl
theorem bCx (t m:Nat)(v:TV):bFq t m v=if (cellsOf v).any bM=true then none else some (.ptr m t 0,.cells t false (cellsOf v)):=id rfl
attribute [go_sem] aYk aR8 bCu bGd bCv aR9 bCw aYm aYn bCx
end Go.TM
namespace Go.TM
open Go
end Go.TM
namespace Go.TM
section
variable (K:bI)(O:Orc)(fs:List Fr)(env:Env)(S:aA)
def rfB (K:bI)(O:Orc)(n:Nat)(env:Env)(fs:List Fr)(S:aA):Option aM→Out (bJ×Env×aA)
 | some (.lp .busy ..) => .fail ""
 | some (.lp _ pend env' ps a b)=>bk K O fs (pend.getD .normal) env (S.set n (.lp .exhausted pend env' ps a b))
 | _ => .fail ""
def rfR (K:bI)(O:Orc)(n:Nat)(env:Env)(fs:List Fr)(x:Out (TV×aA)):TT (Out (bJ×Env×aA)) (n,env,fs) :=
 (er x).bind fun r=>rfB K O n env fs r.2 (r.2[n]?)
def rfF (K:bI)(O:Orc)(v:TV)(ps:List Nat)(a b:aP)(fs:List Fr)(env:Env)(S:aA):TT (Out (bJ×Env×aA)) (ps,a,b,fs,env,S) :=
 match v with
 | .fn k fst cap=>rfR K O S.length env fs (O.call k (fst++.yld S.length::cap) (S++[.lp .ready none (env.map noLb) ps a b]))
 | _ => (.fail "" : Out (bJ × Env × aA))
theorem aYo (k:Nat)(fst cap:List TV)(ps:List Nat)(a b:aP):rfF K O (.fn k fst cap) ps a b fs env S=rfR K O S.length env fs (O.call k (fst++.yld S.length::cap) (S++[.lp .ready none (env.map noLb) ps a b])):=id rfl
theorem bCy (n:Nat)(v:TV)(S':aA):rfR K O n env fs (.ret (v,S'))=rfB K O n env fs S' (S'[n]?):=id rfl
theorem aSa (n:Nat)(e':Env)(ps:List Nat)(a b:aP):rfB K O n env fs S (some (.lp .ready none e' ps a b))=bk' K O fs .normal env (S.set n (.lp .exhausted none e' ps a b)):=by unfold bk'; exact id rfl
theorem go_rangeFunc (f:aE)(ps:List Nat)(a b:aP):go' K O (.rangeFunc f ps a b) fs env S=rfF K O (cB K 0 env [] f) ps a b fs env S:=by
 unfold go' cB
 simp only[go,eH,rfF,opv,cO,List.range_zero,List.map_nil]
 cases bA K env [] f with
 | fn k fst cap =>
  simp only[Out.bind_assoc]
  unfold rfR
  rw[fV]
  refine Out.bind_congr fun r=>?_
  cases hx:r.2[S.length]? with
  | none=>rfl
  | some B =>
   cases B with
   | lp st pend e' ps' a' b'=>cases st<;>rfl
   | _=>rfl
 | _=>rfl
end
theorem bCz (cs:List TV):noLb (.lb cs)=.hole:=id rfl
theorem bC0 (v:IV):noLb (.iv v)=.iv v:=id rfl
theorem aYp (a b c:Nat):noLb (.ptr a b c)=.ptr a b c:=id rfl
theorem aYq (a:Nat)(l:List (List IV)):noLb (.tsl a l)=.tsl a l:=id rfl
theorem bC1 (f:Nat)(a b:List TV):noLb (.fn f a b)=.fn f a b:=id rfl
theorem aYr (l:List TV):noLb (.tup l)=.tup l:=id rfl
attribute [go_sem] aYo bCy aSa go_rangeFunc bCz bC0 aYp aYq bC1 aYr
attribute [irreducible] rfR rfF
theorem go_exec {K:bI}{O:Orc}{c:aP}{env:Env}{S:aA}{r:bJ×Env×aA}(h:go' K O c [] env S=.ret r):eH K O c env S=.ret r:=by
 unfold go' at h
 simp only[go]at h
 have h1:=aVb h
 cases hx:eH K O c env S with
 | ret q=>rw[hx]at h1; simpa[Out.bind,back] using h1
 | fail s=>rw[hx]at h1; cases h1
 | pick n k=>rw[hx]at h1; cases h1
theorem aBm {K:bI}{i:Nat}{args:List TV}{S S1 S2:aA}{st:LoopState}{p p2 p3:Option bJ}{st3:LoopState}{env env1 env2 env3 e2 e3:Env}{ps ps2 ps3:List Nat}{a b a2 b2 a3 b3:aP}
  (h:S[i]? = some (.lp st p env ps a b)) (hs:qB env ps args=some env1) (h1:go' K (lim K) a [] env1 S=.ret (.normal,env2,S1)) (h2:S1[i]? = some (.lp .ready p2 e2 ps2 a2 b2))
  (h3:go' K (lim K) b [] env2 (S1.set i (.lp .busy p2 e2 ps2 a2 b2))=.ret (.normal,env3,S2)) (h4:S2[i]? = some (.lp st3 p3 e3 ps3 a3 b3)) :
  (lim K).yld i args S=.ret (.iv (.bool true),S2.set i (.lp .ready none e3 ps3 a3 b3)):=by
 refine bAv ?_
 have e1:=go_exec h1
 have e3:=go_exec h3
 simp only[gQ,h,hs,e1,Out.bind,h2,e3,h4]
end Go.TM
namespace Go.TM
section
variable {K:bI}{O:Orc}{i:Nat}{k:Kt}{M:List (Nat×TV)}{n:Nat}{fs:List Fr}{env:Env}{S:aA}{rs:List lZ}{b:aP}
end
end Go.TM
