/- A part of the evaluator TM, and of the proof that what it computes the model does. Condition: none. -/
import Derived.Test.YtageemgcnoblnaaDoorTmD
set_option linter.unusedVariables false
set_option linter.unusedSimpArgs false
set_option maxRecDepth 100000
namespace Go.TM
section
variable (K:bV)(O:Orc)(i:Nat)(k:Kt)(M:List (Nat×TV))(n:Nat)(fs:List Fr)(env:Env)(S:aA)
theorem gR {o:TOp}(h:cL o=0):op1 K O o i k M n fs env S=opV K O (bG o (opv K n env M)) i k M n fs env S:=by
 have e:(fun x=>bH K env (dH M n) x)=opv K n env M:=rfl
 simp only[op1,ec0 K O env _ S o h]
 show er ((Out.need _ (bG o (opv K n env M)) _).bind _)=_
 cases bG o (opv K n env M)with
 | some v=>simp only[Out.need,Out.bind,opV];cases k<;>simp only[cont,rgR,fls,chk,uR]<;>(try split)<;>simp only[uR,er]
 | none=>rfl
theorem lS:er (cont K O k M n fs env S)=cont K O k M n fs env S:=by
 cases k<;>simp only[cont,rgR,fls,chk,uR]<;>(try split)<;>simp only[uR,er]
theorem yL {o:TOp}(h:cL o=1):op1 K O o i k M n fs env S=opV K O (aR o (opv K n env M) env S) i k M n fs env S:=by
 simp only[op1,ec1 K O env _ S o h]
 show er ((Out.need _ (aR o (opv K n env M) env S) _).bind _)=_
 cases aR o (opv K n env M) env S with
 | some v=>simp only[Out.need,Out.bind,opV,lS]
 | none=>rfl
theorem aHi {o:TOp}(h:cL o=2):op1 K O o i k M n fs env S=opA K O (bZ o (opv K n env M) S.length) i k M n fs env S:=by
 simp only[op1,mH K O env _ S o (by omega)]
 have p:∀e,bG o e=none:=by intro e;cases o<;>first|rfl|simp[cL]at h
 have r:∀e,aR o e env S=none:=by intro e;cases o<;>first|rfl|simp[cL]at h
 have s:∀e rs,iI o e rs env S=none:=by intro e rs;cases o<;>first|rfl|simp[cL]at h
 simp only[iY,iJ,p,r,s]
 show er ((Out.ofOpt _ (match bZ o (opv K n env M) S.length with|some (v,b)=>some (v,env,S++[b])|none=>none)).bind _)=_
 cases bZ o (opv K n env M) S.length with
 | some v=>simp only[Out.ofOpt,Out.bind,opA,lS]
 | none=>rfl
theorem qU {o:TOp}(h:cL o=3)(hb:o≠.bad):op1 K O o i k M n fs env S=opE K O (iI o (opv K n env M) (dH M n) env S) i k M n fs:=by
 simp only[op1,mH K O env _ S o (by omega)]
 have p:∀e,bG o e=none:=by intro e;cases o<;>first|rfl|simp[cL]at h
 have r:∀e,aR o e env S=none:=by intro e;cases o<;>first|rfl|simp[cL]at h
 have s:∀e n,bZ o e n=none:=by intro e n;cases o<;>first|rfl|simp[cL]at h
 simp only[iY,iJ,p,r,s]
 show er ((Out.ofOpt _ (iI o (opv K n env M) (dH M n) env S)).bind _)=_
 cases iI o (opv K n env M) (dH M n) env S with
 | some v=>simp only[Out.ofOpt,Out.bind,opE,lS]
 | none=>rfl
def xtr (j:Nat):TV->Option TV
 | .tup vs=>vs[j]?
 | _=>none
theorem bEp (j:Nat)(vs:List TV):xtr j (.tup vs)=vs[j]? := id rfl
def bEq (v:TV):Option TV:=if yV v then some v else none
theorem aZc (a b c:Nat):bEq (.ptr a b c)=some (.ptr a b c):=id rfl
def ivO (x:Option IV):Option TV:=x.map .iv
theorem aZd (x:IV):ivO (some x)=some (.iv x):=id rfl
def eqV (neg:Bool)(x:Option Bool):Option TV:=x.map fun b=>.iv (.bool (if neg then !b else b))
theorem bLj (x:Bool):eqV false (some x)=some (.iv (.bool x)):=id rfl
def aZe (x:Option Nat):Option TV:=x.map fun(m:Nat)=>.iv (.int .i64 m)
def mW (ag:Bool)(x:Option (List TV)):Option TV:=match x with
 | some cs=>fU ag cs
 | none=>none
theorem aNc (ag:Bool)(l:List TV):mW ag (some l)=fU ag l:=id rfl
theorem aNd (v:TV):fU false [v]=some v:=id rfl
theorem aNe (l:List TV):fU true l=some (qY l):=id rfl
def aSk (off n:Nat)(x:Option (List TV)):Option (List TV):=match x with
 | some all=>sub all off n
 | none=>none
theorem aSl (off n:Nat)(l:List TV):aSk off n (some l)=sub l off n:=id rfl
def ixS (es:Nat)(x i:TV):Option TV:=match gU i with
 | some n=>indexAddrS es x n
 | none=>none
theorem bEr (es:Nat)(x:TV)(kd:IntKind)(m:Int):ixS es x (.iv (.int kd m))=indexAddrS es x m:=id rfl
def ixA (len es:Nat)(x i:TV):Option TV:=match gU i with
 | some n=>if 0<=n∧n<len then dP x (n.toNat*es)else none
 | none=>none
theorem aQy (len es:Nat)(x:TV)(kd:IntKind)(m:Int):ixA len es x (.iv (.int kd m))=if 0<=m∧m<len then dP x (m.toNat*es)else none:=id rfl
def aFp (x i:TV):Option TV:=match x,gU i with
 | .iv (.str s),some n=>if 0<=n then(s[n.toNat]?).map fun b=>.iv (.int .u8 b.toNat)else none
 | _,_=>none
theorem aFq (s:List UInt8)(kd:IntKind)(m:Int):aFp (.iv (.str s)) (.iv (.int kd m))=if 0<=m then(s[m.toNat]?).map fun b=>.iv (.int .u8 b.toNat)else none:=id rfl
def oI:Option TV->Option (Option Int)
 | none=>some none
 | some x=>(gU x).map some
theorem bEs:oI none=some none:=id rfl
theorem bEt (kd:IntKind)(m:Int):oI (some (.iv (.int kd m)))=some (some m):=id rfl
def slV (S:aA)(sk:SK)(x:TV)(lo hi mx:Option (Option Int)):Option TV:=match lo,hi,mx with
 | some lo,some hi,some mx=>cH S sk x lo hi mx
 | _,_,_=>none
theorem aZf (sk:SK)(x:TV)(lo hi mx:Option Int):slV S sk x (some lo) (some hi) (some mx)=cH S sk x lo hi mx:=id rfl
def aC2 (kd:NK)(S:aA)(v:TV):Option TV:=if aGo v=kd then aZe (lenOf S v)else none
theorem aZg (s:List UInt8):aC2 .str S (.iv (.str s))=some (.iv (.int .i64 s.length)):=id rfl
theorem bEu (t:Tag)(l:List (List IV)):aC2 .sl S (.iv (.sl t l))=some (.iv (.int .i64 l.length)):=id rfl
theorem aZh (j:Nat)(l:List (List IV)):aC2 .sl S (.tsl j l)=some (.iv (.int .i64 l.length)):=id rfl
theorem aZi (a b c d e f:Nat):aC2 .sl S (.msl a b c d e f)=some (.iv (.int .i64 d)):=id rfl
def bsV (x:Option (List (List IV))):Option TV:=match x with
 | some l=>(kG l).map fun b=>.iv (.str b)
 | none=>none
theorem aZj (l:List (List IV)):bsV (some l)=(kG l).map fun b=>.iv (.str b):=id rfl
theorem rB:∀(l:List UInt8),kG (bF l)=some l
 | []=>rfl
 | b::l=>by
  have h:=rB l
  simp only[bF,List.map_cons,kG,aMm]at h ⊢
  rw[h]
  simp
def mkV (z:List IV)(bytes m:Nat)(l c:TV):Option (TV×aP):=match gU l,gU c with
 | some l,some c =>
  if 0<=l∧l<=c∧fZ c.toNat bytes=true then
   some (.msl m 0 0 l.toNat c.toNat z.length,.cells 0 false (cA (List.replicate c.toNat (z.map .iv))))
  else none
 | _,_=>none
def aZk (x:Option (List (List TV))):Option TV:=match x with
 | some es=>(jM es).map fun l=>.iv (.sl .full l)
 | none=>none
def aHj (m w:Nat)(x:Option (List (List TV))):Option (TV×aP):=match x with
 | some es=>some (.msl m 0 0 es.length es.length w,.cells 0 false (cA es))
 | none=>none
theorem aSm (m w:Nat)(es:List (List TV)):aHj m w (some es)=some (.msl m 0 0 es.length es.length w,.cells 0 false (cA es)):=id rfl
def mmV (mx:Bool)(l:List TV):Option TV:=match l with
 | .iv a::r=>(minmax mx a r).map .iv
 | _=>none
theorem aZl (mx:Bool)(a:IV)(r:List TV):mmV mx (.iv a::r)=ivO (minmax mx a r):=id rfl
def yM (w:Nat)(env:Env)(S:aA)(a v:TV):Option (TV×Env×aA) :=
 if(cellsOf v).length=w then match setCells env S a (cellsOf v)with
   | some (env,S)=>some (undef,env,S)
   | none=>none
  else none
def aC3 (x:Option (Env×aA)):Option (TV×Env×aA):=match x with
 | some (env,S)=>some (undef,env,S)
 | none=>none
theorem aJ7:aC3 (some (env,S))=some (undef,env,S):=id rfl
theorem bI7 {α:Type}{p:Prop}[Decidable p]{x y z:Out α}(h:p->x=z)(g:¬p->y=z):br (decide p) x y=z:=by
 by_cases hp:p
 ·simp only[hp,decide_true,tU];exact h hp
 ·simp only[hp,decide_false,pV];exact g hp
theorem bI8 {α:Type}{a b:Int}{x y z:Out α}(h:a=b->x=z)(g:a≠b->y=z):br (a==b) x y=z:=by
 by_cases hp:a=b
 ·simp only[hp,beq_self_eq_true,tU];exact h hp
 ·simp only[beq_eq_false_iff_ne.2 hp,pV];exact g hp
theorem bI9 {α:Type}{a b:Int}{x y z:Out α}(h:a≠b->x=z)(g:a=b->y=z):br (a != b) x y=z:=by
 by_cases hp:a=b
 ·simp only[hp,bne_self_eq_false,pV];exact g hp
 ·simp only[bne_iff_ne.2 hp,tU];exact h hp
theorem aSn (w:Nat)(a v:TV)(h:(cellsOf v).length=w):yM w env S a v=aC3 (setCells env S a (cellsOf v)):=by
 simp only[yM,h,↓reduceIte,aC3]
def bMu (env:Env)(x:Option (TV×aA)):Option (TV×Env×aA):=match x with
 | some (v,S)=>some (v,env,S)
 | none=>none
theorem aJ8 (x:Option (TV×aA)):opE K O (bMu env x) i k M n fs=opS K O x i k M n fs env:=by
 cases x<;>rfl
def aQz (f:Nat)(a b:List TV):Option TV:=if(a++b).any eE then none else some (.fn f a b)
def aZm (env:Env)(S:aA)(v:TV):Option (TV×Env×aA):=match v with
  | .it j=>match S[j]? with
   | some (.sit s pos) =>
    if pos<s.length then
     let (c,width):=Utf8.decode ⟨s.toArray⟩ pos
     some (.tup [.iv (.bool true),.iv (.int .i64 pos),.iv (.int .i32 c)],env,S.set j (.sit s (pos+width)))
    else some (.tup [.iv (.bool false)],env,S)
   | _=>none
  | _=>none
def aNf (str:Bool)(env:Env)(S:aA)(v:TV):Option (TV×Env×aA):=match str,v with
  | true,.iv (.str s)=>some (.it S.length,env,S++[.sit s 0])
  | false,.iv .nilm=>some (.it S.length,env,S++[.mit none 0 [] 0])
  | false,.map j=>match S[j]? with
   | some (.mp _ clock)=>some (.it S.length,env,S++[.mit (some j) clock [] clock])
   | _=>none
  | _,_=>none
theorem aNg (s:List UInt8):aNf true env S (.iv (.str s))=some (.it S.length,env,S++[.sit s 0]):=id rfl
theorem bEv (x:aE):op1 K O (.mov x) i k M n fs env S=opV K O (some (opv K n env M x)) i k M n fs env S:=gR K O i k M n fs env S (id rfl)
theorem aZn (c a b:aE):op1 K O (.pick c a b) i k M n fs env S=opP K O (opv K n env M c) (opv K n env M a) (opv K n env M b) i k M n fs env S:=by
 rw[gR K O i k M n fs env S rfl]
 simp only[bG,opP]
 cases opv K n env M c with
 | iv v =>
  cases v with
  | bool t=>cases t<;>rfl
  | _=>rfl
 | _=>rfl
theorem aSo (z:List IV)(ps:List (Nat×Nat×aE)):op1 K O (.build z ps) i k M n fs env S=opV K O ((fill (z.map .iv) (opv K n env M) ps).map qY) i k M n fs env S:=gR K O i k M n fs env S (id rfl)
theorem aHk (x:aE):op1 K O (.nilCheck x) i k M n fs env S=opV K O (bEq (opv K n env M x)) i k M n fs env S:=gR K O i k M n fs env S (id rfl)
theorem bEw (op:BinOp)(x y:aE):op1 K O (.bin op x y) i k M n fs env S=opV K O (ivO (binOp op (opv K n env M x) (opv K n env M y))) i k M n fs env S:=gR K O i k M n fs env S (id rfl)
theorem bEx (neg:Bool)(ek:EK)(x y:aE):op1 K O (.eqB neg ek x y) i k M n fs env S=opV K O (eqV neg (eqB ek (opv K n env M x) (opv K n env M y))) i k M n fs env S:=gR K O i k M n fs env S (id rfl)
theorem bKa (neg:Bool)(offs:List (Nat×LK))(x y:aE):op1 K O (.eqAgg neg offs x y) i k M n fs env S=opV K O (ivO (eqAgg neg offs (opv K n env M x) (opv K n env M y))) i k M n fs env S:=gR K O i k M n fs env S (id rfl)
theorem bJa (op:UnOp)(x:aE):op1 K O (.un op x) i k M n fs env S=opV K O (ivO (unOp op (opv K n env M x))) i k M n fs env S:=gR K O i k M n fs env S (id rfl)
theorem aZo (f:Nat)(a b:List aE):op1 K O (.mkFn f a b) i k M n fs env S=opV K O (aQz f (a.map (opv K n env M)) (b.map (opv K n env M))) i k M n fs env S:=gR K O i k M n fs env S (id rfl)
theorem aD6 (off:Nat)(x:aE):op1 K O (.fieldAddr off x) i k M n fs env S=opV K O (dP (opv K n env M x) off) i k M n fs env S:=gR K O i k M n fs env S (id rfl)
theorem aSp (off w:Nat)(ag:Bool)(x:aE):op1 K O (.field off w ag x) i k M n fs env S=opV K O (mW ag (aSk off w (fQ (opv K n env M x)))) i k M n fs env S:=by
 rw[gR K O i k M n fs env S rfl]
 simp only[bG]
 cases fQ (opv K n env M x)with
 | none=>rfl
 | some l=>simp only[aSk,mW];cases sub l off w<;>rfl
theorem aC4 (es:Nat)(x y:aE):op1 K O (.indexAddrS es x y) i k M n fs env S=opV K O (ixS es (opv K n env M x) (opv K n env M y)) i k M n fs env S:=gR K O i k M n fs env S (id rfl)
theorem aC5 (len es:Nat)(x y:aE):op1 K O (.indexAddrA len es x y) i k M n fs env S=opV K O (ixA len es (opv K n env M x) (opv K n env M y)) i k M n fs env S:=gR K O i k M n fs env S (id rfl)
theorem aNh (x y:aE):op1 K O (.indexS x y) i k M n fs env S=opV K O (aFp (opv K n env M x) (opv K n env M y)) i k M n fs env S:=gR K O i k M n fs env S (id rfl)
theorem aJ9 (j:Nat)(x:aE):op1 K O (.extract j x) i k M n fs env S=opV K O (xtr j (opv K n env M x)) i k M n fs env S:=gR K O i k M n fs env S (id rfl)
theorem bEy (x:aE):op1 K O (.cap x) i k M n fs env S=opV K O (aZe (aBv (opv K n env M x))) i k M n fs env S:=gR K O i k M n fs env S (id rfl)
theorem bLk (m:Nat):op1 K O (.lenC m) i k M n fs env S=opV K O (some (.iv (.int .i64 m))) i k M n fs env S:=gR K O i k M n fs env S (id rfl)
theorem aNi (mx:Bool)(xs:List aE):op1 K O (.minmax mx xs) i k M n fs env S=opV K O (mmV mx (xs.map (opv K n env M))) i k M n fs env S:=gR K O i k M n fs env S (id rfl)
theorem aSq (a:aE):op1 K O (.load1 a) i k M n fs env S=opV K O (mW false (bL env S (opv K n env M a) 1)) i k M n fs env S:=yL K O i k M n fs env S (id rfl)
theorem aSr (w:Nat)(a:aE):op1 K O (.loadN w a) i k M n fs env S=opV K O (mW true (bL env S (opv K n env M a) w)) i k M n fs env S:=yL K O i k M n fs env S (id rfl)
theorem aSs (sk:SK)(x:aE)(lo hi mx:Option aE):op1 K O (.slice sk x lo hi mx) i k M n fs env S=opV K O (slV S sk (opv K n env M x) (oI (lo.map (opv K n env M))) (oI (hi.map (opv K n env M))) (oI (mx.map (opv K n env M)))) i k M n fs env S:=by
 rw[yL K O i k M n fs env S rfl]
 simp only[aR,slV]
 cases lo<;>cases hi<;>cases mx<;>rfl
theorem aNj (kk:KK)(z:IV)(ok:Bool)(m y:aE):op1 K O (.lookup kk z ok m y) i k M n fs env S=opV K O (aR (.lookup kk z ok m y) (opv K n env M) env S) i k M n fs env S:=yL K O i k M n fs env S (id rfl)
theorem bJb (x:aE):op1 K O (.entryM x) i k M n fs env S=opV K O (aR (.entryM x) (opv K n env M) env S) i k M n fs env S:=yL K O i k M n fs env S (id rfl)
theorem bEz (nk:NK)(x:aE):op1 K O (.len nk x) i k M n fs env S=opV K O (aC2 nk S (opv K n env M x)) i k M n fs env S:=yL K O i k M n fs env S (id rfl)
theorem xD (c:CK)(hc:c≠.bytesStr)(x:aE):op1 K O (.conv c x) i k M n fs env S=opV K O (ivO (dB c (opv K n env M x))) i k M n fs env S:=by
 simp only[op1,ec4]
 show er ((Out.need _ (match(dB c (opv K n env M x)).map TV.iv with|some v=>some v|none=>aR (.conv c x) (opv K n env M) env S) _).bind _)=_
 cases h:dB c (opv K n env M x)with
 | some v=>simp only[Option.map,Out.need,Out.bind,ivO,opV,lS]
 | none =>
  have:aR (.conv c x) (opv K n env M) env S=none:=by cases c<;>first|rfl|exact absurd rfl hc
  simp only[this,Option.map,Out.need,Out.bind,ivO,opV,er]
theorem aSt (kd:IntKind)(x:aE):op1 K O (.conv (.toInt kd) x) i k M n fs env S=opV K O (ivO (dB (.toInt kd) (opv K n env M x))) i k M n fs env S:=xD K O i k M n fs env S _ (by simp) x
theorem bJc (x:aE):op1 K O (.conv .intStr x) i k M n fs env S=opV K O (ivO (dB .intStr (opv K n env M x))) i k M n fs env S:=xD K O i k M n fs env S _ (by simp) x
theorem bJd (x:aE):op1 K O (.conv .strStr x) i k M n fs env S=opV K O (ivO (dB .strStr (opv K n env M x))) i k M n fs env S:=xD K O i k M n fs env S _ (by simp) x
theorem aHl (x:aE):op1 K O (.conv .strBytes x) i k M n fs env S=opV K O (ivO (dB .strBytes (opv K n env M x))) i k M n fs env S:=xD K O i k M n fs env S _ (by simp) x
theorem aHm (x:aE):op1 K O (.conv .bytesStr x) i k M n fs env S=opV K O (bsV (fB S (opv K n env M x))) i k M n fs env S:=by
 simp only[op1,ec4]
 have hc:dB .bytesStr (bH K env (dH M n) x)=none:=by
  unfold dB
  cases bH K env (dH M n) x with
  | iv v=>cases v<;>rfl
  | _=>rfl
 simp only[hc,Option.map]
 show er ((Out.need _ (bsV (fB S (opv K n env M x))) _).bind _)=_
 cases bsV (fB S (opv K n env M x))with
 | some v=>simp only[Out.need,Out.bind,opV,lS]
 | none=>rfl
def aKa (w:Nat)(x:Option (List (List IV)))(es:Option (List (List TV)))(i:Nat)(k:Kt)(M:List (Nat×TV))(n:Nat)(fs:List Fr)(env:Env)(S:aA):Out (bR×Env×aA) :=
 match x with
 | some l=>opV K O (some (.iv (.sl .full l))) i k M n fs env S
 | none=>opA K O (aHj S.length w es) i k M n fs env S
@[congr] theorem litQ_congr (w:Nat) {x x':Option (List (List IV))} (h:x=x') {es es':Option (List (List TV))} (h2:es=es'):aKa K O w x es i k M n fs env S=aKa K O w x' es' i k M n fs env S:=by rw[h,h2]
theorem aSu (w:Nat)(l:List (List IV))(es:Option (List (List TV))):aKa K O w (some l) es i k M n fs env S=cont K O k ((i,.iv (.sl .full l))::M) n fs env S:=id rfl
theorem bKb (w:Nat)(es:Option (List (List TV))):aKa K O w none es i k M n fs env S=opA K O (aHj S.length w es) i k M n fs env S:=id rfl
def bE0 (x:Option (List (List TV))):Option (List (List IV)):=match x with
 | some es=>jM es
 | none=>none
theorem aSv (l:List (List TV)):bE0 (some l)=jM l:=id rfl
theorem bE1 (z:List IV)(len:Nat)(ps:List (Nat×aE)):op1 K O (.lit false z len ps) i k M n fs env S=aKa K O z.length (bE0 (dZ (List.replicate len (z.map .iv)) z.length (opv K n env M) ps)) (dZ (List.replicate len (z.map .iv)) z.length (opv K n env M) ps) i k M n fs env S:=by
 simp only[op1,mH K O env _ S _ (show cL (.lit false z len ps)≠5 by simp[cL])]
 have p:bG (.lit false z len ps) (bH K env (dH M n))=aZk (dZ (List.replicate len (z.map .iv)) z.length (opv K n env M) ps):=rfl
 have r:aR (.lit false z len ps) (bH K env (dH M n)) env S=none:=rfl
 have a:bZ (.lit false z len ps) (bH K env (dH M n)) S.length=aHj S.length z.length (dZ (List.replicate len (z.map .iv)) z.length (opv K n env M) ps):=rfl
 have s:iI (.lit false z len ps) (bH K env (dH M n)) (dH M n) env S=none:=rfl
 simp only[iY,iJ,p,r,a,s]
 cases dZ (List.replicate len (z.map .iv)) z.length (opv K n env M) ps with
 | none=>rfl
 | some es =>
  simp only[aZk,bE0]
  cases jM es with
  | some l=>simp only[Option.map,Out.ofOpt,Out.bind,aKa,opV,lS]
  | none=>simp only[Option.map,Out.ofOpt,Out.bind,aKa,aHj,opA,lS]
theorem aZp (z:List IV)(len:Nat)(ps:List (Nat×aE)):op1 K O (.lit true z len ps) i k M n fs env S=opA K O (aHj S.length z.length (dZ (List.replicate len (z.map .iv)) z.length (opv K n env M) ps)) i k M n fs env S:=by
 simp only[op1,mH K O env _ S _ (show cL (.lit true z len ps)≠5 by simp[cL])]
 have p:bG (.lit true z len ps) (bH K env (dH M n))=none:=rfl
 have r:aR (.lit true z len ps) (bH K env (dH M n)) env S=none:=rfl
 have a:bZ (.lit true z len ps) (bH K env (dH M n)) S.length=aHj S.length z.length (dZ (List.replicate len (z.map .iv)) z.length (opv K n env M) ps):=rfl
 have s:iI (.lit true z len ps) (bH K env (dH M n)) (dH M n) env S=none:=rfl
 simp only[iY,iJ,p,r,a,s]
 cases aHj S.length z.length (dZ (List.replicate len (z.map .iv)) z.length (opv K n env M) ps)with
 | some v=>simp only[Out.ofOpt,Out.bind,opA,lS]
 | none=>rfl
theorem aNk (t:Nat)(z:List IV):op1 K O (.allocH t z) i k M n fs env S=opS K O (some (.ptr S.length t 0,S++[.cells t false (z.map .iv)])) i k M n fs env:=aHi K O i k M n fs env S (id rfl)
theorem aSw:op1 K O .mkMap i k M n fs env S=opS K O (some (.map S.length,S++[.mp [] 0])) i k M n fs env:=aHi K O i k M n fs env S (id rfl)
theorem bGx (z:List IV)(bytes:Nat)(l c:aE):op1 K O (.mkSlice z bytes l c) i k M n fs env S=opA K O (mkV z bytes S.length (opv K n env M l) (opv K n env M c)) i k M n fs env S:=aHi K O i k M n fs env S (id rfl)
def bJe (t m:Nat)(v:TV):Option (TV×aP):=if(cellsOf v).any cB then none else some (.ptr m t 0,.cells t false (cellsOf v))
theorem aZq (t:Nat)(x:aE):op1 K O (.boxH t x) i k M n fs env S=opA K O (bJe t S.length (opv K n env M x)) i k M n fs env S:=aHi K O i k M n fs env S (id rfl)
def aKb (j:Nat):List (Nat×TV)->Bool
 | []=>true
 | (_,v)::M=>!(uB j v)&&aKb j M
theorem aKc {j:Nat}:∀ {M:List (Nat×TV)},aKb j M=true->∀m,uB j (reg M m)=false
 | [],_,m=>rfl
 | (a,v)::M,h,m=>by
  simp only[aKb,Bool.and_eq_true,Bool.not_eq_true']at h
  simp only[reg]
  split
  ·exact h.1
  ·exact aKc h.2 m
theorem aFr {j:Nat}{M:List (Nat×TV)}(h:aKb j M=true):(dH M n).any (uB j)=false:=by
 rw[List.any_eq_false]
 intro x hx
 simp only[dH,List.mem_map]at hx
 obtain⟨m,_,rfl⟩:=hx
 simp[aKc h m]
def alB (c:Bool)(x y:Out (bR×Env×aA)):Out (bR×Env×aA):=bif c then x else y
@[congr] theorem alB_congr {c c':Bool} (h:c=c') (x y:Out (bR×Env×aA)):alB c x y=alB c' x y:=by rw[h]
theorem aC6 (x y:Out (bR×Env×aA)):alB true x y=x:=id rfl
theorem aKd (j:Nat)(z:List IV)(h:aKb j M=true)(hj:j<env.length):op1 K O (.allocL j z) i k M n fs env S=opE K O (some (.lp j 0,env.set j (.lb (z.map .iv)),S)) i k M n fs:=by
 rw[qU K O i k M n fs env S (id rfl) (by simp)]
 simp only[iI,aFr n h,hj,decide_true,Bool.not_true,Bool.or_self,Bool.false_eq_true,↓reduceIte]
theorem aSx (j:Nat)(x:aE)(h:aKb j M=true)(hj:j<env.length):op1 K O (.boxL j x) i k M n fs env S=opE K O (if(cellsOf (opv K n env M x)).any cB then none else some (.lp j 0,env.set j (.lb (cellsOf (opv K n env M x))),S)) i k M n fs:=by
 rw[qU K O i k M n fs env S (id rfl) (by simp)]
 simp only[iI,aFr n h,hj,decide_true,Bool.not_true,Bool.or_false]
def okL (j:Nat)(M:List (Nat×TV))(env:Env):Bool:=aKb j M&&decide (j<env.length)
theorem aNl (j:Nat)(z:List IV):op1 K O (.allocL j z) i k M n fs env S=alB (okL j M env) (opE K O (some (.lp j 0,env.set j (.lb (z.map .iv)),S)) i k M n fs) (op1 K O (.allocL j z) i k M n fs env S):=by
 cases h:okL j M env with
 | false=>rfl
 | true =>
  simp only[okL,Bool.and_eq_true,decide_eq_true_eq]at h
  rw[aC6,aKd K O i k M n fs env S j z h.1 h.2]
theorem aZr (j:Nat)(x:aE):op1 K O (.boxL j x) i k M n fs env S=alB (okL j M env) (opE K O (if(cellsOf (opv K n env M x)).any cB then none else some (.lp j 0,env.set j (.lb (cellsOf (opv K n env M x))),S)) i k M n fs) (op1 K O (.boxL j x) i k M n fs env S):=by
 cases h:okL j M env with
 | false=>rfl
 | true =>
  simp only[okL,Bool.and_eq_true,decide_eq_true_eq]at h
  rw[aC6,aSx K O i k M n fs env S j x h.1 h.2]
theorem aSy (w:Nat)(a v:aE):op1 K O (.store w a v) i k M n fs env S=opE K O (yM w env S (opv K n env M a) (opv K n env M v)) i k M n fs:=qU K O i k M n fs env S rfl (by simp)
theorem aNm (kk:KK)(m y x:aE):op1 K O (.update kk m y x) i k M n fs env S=opE K O (iI (.update kk m y x) (opv K n env M) (dH M n) env S) i k M n fs:=qU K O i k M n fs env S rfl (by simp)
theorem aSz (str:Bool)(x:aE):op1 K O (.range str x) i k M n fs env S=opE K O (aNf str env S (opv K n env M x)) i k M n fs:=qU K O i k M n fs env S rfl (by simp)
theorem aS0 (x:aE):op1 K O (.nextS x) i k M n fs env S=opE K O (aZm env S (opv K n env M x)) i k M n fs:=qU K O i k M n fs env S rfl (by simp)
theorem aNn (mu:Bool)(es bytes el:Nat)(s x:aE):op1 K O (.append mu es bytes el s x) i k M n fs env S=opS K O (bY mu es bytes el S (opv K n env M s) (opv K n env M x)) i k M n fs env:=by
 rw[qU K O i k M n fs env S rfl (by simp),<-aJ8];rfl
theorem bLl (es:Nat)(d s:aE):op1 K O (.copy es d s) i k M n fs env S=opS K O (aXs es S (opv K n env M d) (opv K n env M s)) i k M n fs env:=by
 rw[qU K O i k M n fs env S rfl (by simp),<-aJ8];rfl
def cpV (S:aA)(args:List TV)(v:Option TV):Out (TV×aA) :=
 match v with
 | none => .fail ""
 | some v =>
  if args.any uF&&!(jG v)then
   match fR S args with
   | some S=>.ret (v,S)
   | none => .fail ""
  else .ret (v,S)
def cpR (S:aA)(args:List TV)(x:Out (TV×aA)):Out (TV×aA):=(er x).bind fun r=>cpV S args (resolve r.2 r.1)
def cpA (S:aA)(args:List TV)(f:Nat)(ags:Option (List TV)):Out (TV×aA) :=
 match ags with
 | none => .fail ""
 | some ags=>cpR S args (O.call f ags [])
@[congr] theorem cpV_congr (args:List TV) {v v':Option TV} (h:v=v'):cpV S args v=cpV S args v':=by rw[h]
@[congr] theorem cpR_congr (args:List TV) {v v':Out (TV×aA)} (h:v=v'):cpR S args v=cpR S args v':=by rw[h]
@[congr] theorem cpA_congr (args:List TV) (f:Nat) {v v':Option (List TV)} (h:v=v'):cpA O S args f v=cpA O S args f v':=by rw[h]
theorem aZs (args ags:List TV)(f:Nat):cpA O S args f (some ags)=cpR S args (O.call f ags []):=id rfl
theorem bE2 (args:List TV)(v:TV)(S':aA):cpR S args (.ret (v,S'))=cpV S args (resolve S' v):=id rfl
def cpB (c:Bool)(S:aA)(args:List TV)(v:TV):Out (TV×aA) :=
 if c then match fR S args with
   | some S=>.ret (v,S)
   | none => .fail ""
  else .ret (v,S)
@[congr] theorem cpB_congr {c c':Bool} (h:c=c') (args:List TV) (v:TV):cpB c S args v=cpB c' S args v:=by rw[h]
theorem aZt (args:List TV)(v:TV):cpV S args (some v)=cpB (args.any uF&&!(jG v)) S args v:=id rfl
theorem aS1 (args:List TV)(v:TV):cpB false S args v=.ret (v,S):=id rfl
def bJf (v:TV)(x:Option aA):Out (TV×aA):=match x with
 | some S=>.ret (v,S)
 | none => .fail ""
theorem bKc (v:TV):bJf v (some S)=.ret (v,S):=id rfl
theorem bLm (args:List TV)(v:TV):cpB true S args v=bJf v (fR S args):=by
 simp only[cpB,↓reduceIte,bJf]
theorem zX (f:Nat)(args:List TV):er (eX O f args S)=cpA O S args f (dV S args):=by
 unfold eX cpA
 cases dV S args with
 | none=>rfl
 | some ags =>
  simp only[cpR,gQ]
  refine Out.bind_congr fun r=>?_
  cases resolve r.2 r.1 with
  | none=>rfl
  | some v =>
   simp only[cpV]
   split
   ·cases fR S args<;>rfl
   ·rfl
theorem aC7 (x:Out (TV×aA)):er (x.bind fun r=>cont K O k ((i,r.1)::M) n fs env r.2)=opC K O (er x) i k M n fs env:=by
 rw[gQ]
 simp only[opC,lS]
theorem aS2 (t:Bool)(f:Nat)(args:List aE):op1 K O (.call true t f args) i k M n fs env S=opC K O (cpA O S (args.map (opv K n env M)) f (dV S (args.map (opv K n env M)))) i k M n fs env:=by
 rw[<-zX,<-aC7]
 simp only[op1,cN,Out.bind_assoc,Out.bind,↓reduceIte]
 rfl
def csR (t:Bool)(S:aA)(x:Out (TV×aA)):Out (TV×aA):=(er x).bind fun r =>
 if t then match rW S.length r.1 r.2 with
  | some S'=>.ret (r.1,S')
  | none => .fail ""
 else .ret r
def csA (t : Bool) (S : aA) (f : Nat) (lp : Bool) (args : List TV) : Out (TV × aA) := if lp then .fail "" else csR t S (O.call f args S)
@[congr] theorem csR_congr (t:Bool) {v v':Out (TV×aA)} (h:v=v'):csR t S v=csR t S v':=by rw[h]
theorem bJg (t:Bool)(f:Nat)(args:List TV):csA O t S f false args=csR t S (O.call f args S):=id rfl
theorem bLn (v:TV)(S':aA):csR false S (.ret (v,S'))=.ret (v,S'):=id rfl
def trV (v:TV)(x:Option aA):Out (TV×aA):=match x with
 | some S'=>.ret (v,S')
 | none => .fail ""
theorem bLo (v:TV):trV v (some S)=.ret (v,S):=id rfl
theorem bN0 (v:TV)(S':aA):csR true S (.ret (v,S'))=trV v (rW S.length v S'):=by
 simp only[csR,er,Out.bind,↓reduceIte,trV]
theorem aFs (t:Bool)(f:Nat)(args:List TV):er (iZ O t f args S)=csA O t S f (args.any eE) args:=by
 unfold iZ csA
 split
 ·rfl
 ·simp only[csR,gQ]
  refine Out.bind_congr fun r=>?_
  cases t
  ·rfl
  ·simp only[↓reduceIte]
   cases rW S.length r.1 r.2<;>rfl
theorem aS3 (t:Bool)(f:Nat)(args:List aE):op1 K O (.call false t f args) i k M n fs env S=opC K O (csA O t S f ((args.map (opv K n env M)).any eE) (args.map (opv K n env M))) i k M n fs env:=by
 rw[<-aFs,<-aC7]
 simp only[op1,cN,Out.bind_assoc,Out.bind,Bool.false_eq_true,↓reduceIte]
 rfl
def prV (S:aA)(p:Option aI0)(args:List TV):Option (TV×aA):=match p with
 | some p=>if args.any eE then none else p args S
 | none=>none
theorem bLp (f:Nat)(args:List aE):op1 K O (.prim f args) i k M n fs env S=opS K O (prV S (K.prim f) (args.map (opv K n env M))) i k M n fs env:=by
 simp only[op1,cN]
 show er (Out.bind (match K.prim f with | some p => if (args.map (opv K n env M)).any eE = true then .fail "prim: a local's address" else Out.bind (Out.ofOpt "prim" (p (args.map (opv K n env M)) S)) fun r => .ret (r.1, env, r.2) | none => .fail "prim") _) = _
 cases K.prim f with
 | none=>rfl
 | some p =>
  simp only[prV]
  split
  ·rfl
  ·cases p (args.map (opv K n env M)) S with
   | none=>rfl
   | some q=>simp only[Out.ofOpt,Out.bind,opS,lS]
def fin (rs:List nT)(x:Out (bR×Env×aA)):Out (TV×aA) :=
 x.bind fun r=>match r.1 with
  | .exit _ => .fail ""
  | _=>match mM rs r.2.1 r.2.2 with
   | some v=>.ret (v,r.2.2)
   | none => .fail ""
@[congr] theorem fin_congr (rs:List nT) {x x':Out (bR×Env×aA)} (h:x=x'):fin rs x=fin rs x':=by rw[h]
def aS4 (S:aA)(v:Option TV):Out (TV×aA):=match v with
 | some v=>.ret (v,S)
 | none => .fail ""
theorem aS5 (v:TV):aS4 S (some v)=.ret (v,S):=id rfl
theorem bE3 (rs:List nT):fin rs (.ret (.ret,env,S))=aS4 S (mM rs env S):=by
 simp only[fin,Out.bind,aS4]
theorem aNo (rs:List nT):fin rs (.ret (.normal,env,S))=aS4 S (mM rs env S):=by
 simp only[fin,Out.bind,aS4]
theorem bJh (rs:List nT)(B:Bool)(x y:Out (bR×Env×aA)):fin rs (br B x y)=br B (fin rs x) (fin rs y):=by cases B<;>rfl
theorem zY (f:Nat)(args:List TV)(fn:bE)(hf:K.funcs f=some fn)(ha:args.length=fn.nparams):er (eY K O f args S)=fin fn.results (go K O fn.body [] (args++List.replicate (fn.nlocs-fn.nparams) undef) S):=by
 simp only[eY,hf,ha,ne_eq,not_true_eq_false,↓reduceIte,go,fin]
 rw[gQ]
 have e:(fD K O fn.body (args++List.replicate (fn.nlocs-fn.nparams) undef) S).bind (fun r=>back K O [] r.1 r.2.1 r.2.2)=fD K O fn.body (args++List.replicate (fn.nlocs-fn.nparams) undef) S:=by
  cases fD K O fn.body (args++List.replicate (fn.nlocs-fn.nparams) undef) S with
  | ret a=>rfl
  | fail s=>rfl
  | pick n k=>simp only[Out.bind];congr;funext i;exact bind_back (k i)
 rw[e]
 refine Out.bind_congr fun r=>?_
 obtain⟨j,e,S'⟩:=r
 cases j with
 | exit i=>rfl
 | _=>simp only;cases mM fn.results e S'<;>rfl
where
 bind_back:∀x:Out (bR×Env×aA),(x.bind fun r=>back K O [] r.1 r.2.1 r.2.2)=x
  | .ret a=>rfl
  | .fail s=>rfl
  | .pick n k=>by simp only[Out.bind];congr;funext i;exact bind_back (k i)
theorem aZu {f:Nat}{args:List TV}{fn:bE}{r:TV×aA}(hf:K.funcs f=some fn)(ha:args.length=fn.nparams)(h:fin fn.results (go K (lim K) fn.body [] (args++List.replicate (fn.nlocs-fn.nparams) undef) S)=.ret r):(lim K).call f args S=.ret r :=
 aYn (aYp ((zY K (lim K) S f args fn hf ha).trans h))
def rnd (b:aQ)(x:Out (bR×Env×aA)):Out (bR×Env×aA) :=
 x.bind fun r=>match r.1 with
  | .normal=>er (lp O b r.2.1 r.2.2)
  | j=>.ret (j,r.2.1,r.2.2)
@[congr] theorem rnd_congr (b:aQ) {x x':Out (bR×Env×aA)} (h:x=x'):rnd O b x=rnd O b x':=by rw[h]
theorem aNp (b:aQ):rnd O b (.ret (.normal,env,S))=er (lp O b env S):=id rfl
theorem bE4 (b:aQ):rnd O b (.ret (.ret,env,S))=.ret (.ret,env,S):=id rfl
theorem aZv (b:aQ)(id:Nat):rnd O b (.ret (.exit id,env,S))=.ret (.exit id,env,S):=by simp only[rnd,Out.bind]
theorem bMv (b:aQ)(B:Bool)(x y:Out (bR×Env×aA)):rnd O b (br B x y)=br B (rnd O b x) (rnd O b y):=by cases B<;>rfl
theorem aZw {b:aQ}{r:bR×Env×aA}(h:rnd (lim K) b (go K (lim K) b [] env S)=.ret r):lp (lim K) b env S=.ret r:=by
 refine aYo (aYp ?_)
 rw[<-h]
 simp only[nZ,rnd,go]
 rw[gQ]
 have e:=zY.bind_back K (lim K) (fD K (lim K) b env S)
 rw[e]
 refine Out.bind_congr fun r=>?_
 obtain⟨j,e,S'⟩:=r
 cases j<;>rfl
end
end Go.TM
namespace Go.TM
section
variable (K:bV)(O:Orc)(i:Nat)(k:Kt)(M:List (Nat×TV))(n:Nat)(fs:List Fr)(env:Env)(S:aA)
def flM (o:TOp):Option TV:=iJ K o env (dH M n) S
theorem kW {o:TOp}(h:cL o=0):flM K M n env S o=bG o (opv K n env M):=by
 have r:∀e,aR o e env S=none:=by intro e;cases o<;>first|rfl|simp[cL]at h
 simp only[flM,iJ,r]
 show(match bG o (opv K n env M)with|some v=>some v|none=>none)=_
 cases bG o (opv K n env M)<;>rfl
theorem aQ0 {o:TOp}(h:cL o=1):flM K M n env S o=aR o (opv K n env M) env S:=by
 have p:∀e,bG o e=none:=by intro e;cases o<;>first|rfl|simp[cL]at h
 simp only[flM,iJ,p]
 rfl
theorem aA4 (c:CK)(hc:c≠.bytesStr)(x:aE):flM K M n env S (.conv c x)=ivO (dB c (opv K n env M x)):=by
 have r:aR (.conv c x) (opv K n env M) env S=none:=by cases c<;>first|rfl|exact absurd rfl hc
 show(match((dB c (opv K n env M x)).map TV.iv)with|some v=>some v|none=>aR (.conv c x) (opv K n env M) env S)=_
 rw[r]
 cases dB c (opv K n env M x)<;>rfl
theorem aKe (x:aE):flM K M n env S (.conv .bytesStr x)=bsV (fB S (opv K n env M x)):=by
 have hc:dB .bytesStr (opv K n env M x)=none:=by
  unfold dB
  cases opv K n env M x with
  | iv v=>cases v<;>rfl
  | _=>rfl
 show(match((dB .bytesStr (opv K n env M x)).map TV.iv)with|some v=>some v|none=>aR (.conv .bytesStr x) (opv K n env M) env S)=_
 rw[hc];rfl
theorem bMw (z:List IV)(len:Nat)(ps:List (Nat×aE)):flM K M n env S (.lit false z len ps)=aZk (dZ (List.replicate len (z.map .iv)) z.length (opv K n env M) ps):=by
 have r:aR (.lit false z len ps) (opv K n env M) env S=none:=rfl
 show(match aZk (dZ (List.replicate len (z.map .iv)) z.length (opv K n env M) ps)with|some v=>some v|none=>none)=_
 cases aZk (dZ (List.replicate len (z.map .iv)) z.length (opv K n env M) ps)<;>rfl
def bLq (c a b:TV):Option TV:=match xT c with
  | some t=>some (if t then a else b)
  | none=>none
theorem bL6 (c a b:aE):flM K M n env S (.pick c a b)=bLq (opv K n env M c) (opv K n env M a) (opv K n env M b):=kW K M n env S (id rfl)
theorem bMx (x:aE):flM K M n env S (.mov x)=some (opv K n env M x):=kW K M n env S (id rfl)
theorem bLr (z:List IV)(ps:List (Nat×Nat×aE)):flM K M n env S (.build z ps)=(fill (z.map .iv) (opv K n env M) ps).map qY:=kW K M n env S (id rfl)
theorem bGy (x:aE):flM K M n env S (.nilCheck x)=bEq (opv K n env M x):=kW K M n env S (id rfl)
theorem bMy (op:BinOp)(x y:aE):flM K M n env S (.bin op x y)=ivO (binOp op (opv K n env M x) (opv K n env M y)):=kW K M n env S (id rfl)
theorem bMz (neg:Bool)(ek:EK)(x y:aE):flM K M n env S (.eqB neg ek x y)=eqV neg (eqB ek (opv K n env M x) (opv K n env M y)):=kW K M n env S (id rfl)
theorem bLs (neg:Bool)(offs:List (Nat×LK))(x y:aE):flM K M n env S (.eqAgg neg offs x y)=ivO (eqAgg neg offs (opv K n env M x) (opv K n env M y)):=kW K M n env S (id rfl)
theorem bN1 (op:UnOp)(x:aE):flM K M n env S (.un op x)=ivO (unOp op (opv K n env M x)):=kW K M n env S (id rfl)
theorem bL7 (f:Nat)(a b:List aE):flM K M n env S (.mkFn f a b)=aQz f (a.map (opv K n env M)) (b.map (opv K n env M)):=kW K M n env S (id rfl)
theorem bE5 (off:Nat)(x:aE):flM K M n env S (.fieldAddr off x)=dP (opv K n env M x) off:=kW K M n env S (id rfl)
theorem bLt (off w:Nat)(ag:Bool)(x:aE):flM K M n env S (.field off w ag x)=mW ag (aSk off w (fQ (opv K n env M x))):=by
 rw[kW K M n env S rfl]
 simp only[bG]
 cases fQ (opv K n env M x)with
 | none=>rfl
 | some l=>simp only[aSk,mW];cases sub l off w<;>rfl
theorem bB8 (es:Nat)(x y:aE):flM K M n env S (.indexAddrS es x y)=ixS es (opv K n env M x) (opv K n env M y):=kW K M n env S (id rfl)
theorem bB9 (len es:Nat)(x y:aE):flM K M n env S (.indexAddrA len es x y)=ixA len es (opv K n env M x) (opv K n env M y):=kW K M n env S (id rfl)
theorem bKd (x y:aE):flM K M n env S (.indexS x y)=aFp (opv K n env M x) (opv K n env M y):=kW K M n env S (id rfl)
theorem bJi (j:Nat)(x:aE):flM K M n env S (.extract j x)=xtr j (opv K n env M x):=kW K M n env S (id rfl)
theorem bM0 (x:aE):flM K M n env S (.cap x)=aZe (aBv (opv K n env M x)):=kW K M n env S (id rfl)
theorem bL8 (m:Nat):flM K M n env S (.lenC m)=some (.iv (.int .i64 m)):=kW K M n env S (id rfl)
theorem bKe (mx:Bool)(xs:List aE):flM K M n env S (.minmax mx xs)=mmV mx (xs.map (opv K n env M)):=kW K M n env S (id rfl)
theorem aZx (a:aE):flM K M n env S (.load1 a)=mW false (bL env S (opv K n env M a) 1):=aQ0 K M n env S (id rfl)
theorem aZy (w:Nat)(a:aE):flM K M n env S (.loadN w a)=mW true (bL env S (opv K n env M a) w):=aQ0 K M n env S (id rfl)
theorem aZz (sk:SK)(x:aE)(lo hi mx:Option aE):flM K M n env S (.slice sk x lo hi mx)=slV S sk (opv K n env M x) (oI (lo.map (opv K n env M))) (oI (hi.map (opv K n env M))) (oI (mx.map (opv K n env M))):=by
 rw[aQ0 K M n env S rfl]
 simp only[aR,slV]
 cases lo<;>cases hi<;>cases mx<;>rfl
theorem bM1 (nk:NK)(x:aE):flM K M n env S (.len nk x)=aC2 nk S (opv K n env M x):=aQ0 K M n env S (id rfl)
theorem bLu (kd:IntKind)(x:aE):flM K M n env S (.conv (.toInt kd) x)=ivO (dB (.toInt kd) (opv K n env M x)):=aA4 K M n env S _ (by simp) x
theorem bKf (x:aE):flM K M n env S (.conv .intStr x)=ivO (dB .intStr (opv K n env M x)):=aA4 K M n env S _ (by simp) x
theorem bKg (x:aE):flM K M n env S (.conv .strStr x)=ivO (dB .strStr (opv K n env M x)):=aA4 K M n env S _ (by simp) x
theorem bGz (x:aE):flM K M n env S (.conv .strBytes x)=ivO (dB .strBytes (opv K n env M x)):=aA4 K M n env S _ (by simp) x
mutual
theorem zZ:∀(a:IV),gH a a=true
 | .bool b=>by simp[gH]
 | .int k n=>by simp[gH]
 | .str s=>by simp[gH]
 | .sl t l=>by simp[gH,uS l]
 | .agg l=>by simp[gH,nF l]
 | .cp l=>by simp[gH,nF l]
 | .nilp=>rfl
 | .nilm=>rfl
 | .nilf=>rfl
 | .nili=>rfl
theorem nF:∀(l:List IV),lO l l=true
 | []=>rfl
 | a::l=>by simp[lO,zZ a,nF l]
theorem uS:∀(l:List (List IV)),kH l l=true
 | []=>rfl
 | a::l=>by simp[kH,nF a,uS l]
end
theorem bE6 (a:IV):same (.iv a) (.iv a)=true:=zZ a
theorem aZ0 (a b c:Nat):same (.ptr a b c) (.ptr a b c)=true:=by simp[same,aIz]
def rck (ops:List aM)(M:List (Nat×TV))(n:Nat)(env:Env)(S:aA)(c:List Nat):Bool:=nC K ops (dH M n) env S c
def rcS (v:Option TV)(w:TV):Bool:=match v with
 | some v=>same v w
 | none=>false
theorem aZ1 (v w:TV):rcS (some v) w=same v w:=id rfl
def rcG (g:TV)(want:Bool)(j:Nat)(M:List (Nat×TV))(n:Nat)(env:Env)(S:aA)(o:TOp):Bool:=match g with
 | .iv (.bool b)=>if b==want then rcS (flM K M n env S o) (opv K n env M (.reg j))else true
 | .tup []=>true
 | _=>false
theorem bKh (want:Bool)(j:Nat)(o:TOp):rcG K (.tup []) want j M n env S o=true:=id rfl
theorem aZ2 (b want:Bool)(j:Nat)(o:TOp):rcG K (.iv (.bool b)) want j M n env S o=if b==want then rcS (flM K M n env S o) (opv K n env M (.reg j))else true:=id rfl
def rcO (x:Option aM)(j:Nat)(M:List (Nat×TV))(n:Nat)(env:Env)(S:aA):Bool:=match x with
 | some ⟨o,_,none⟩=>rcS (flM K M n env S o) (opv K n env M (.reg j))
 | some ⟨o,_,some (g,want)⟩=>rcG K (opv K n env M (.reg g)) want j M n env S o
 | none=>false
theorem aZ3 (o:TOp)(l:Option Nat)(j:Nat):rcO K (some ⟨o,l,none⟩) j M n env S=rcS (flM K M n env S o) (opv K n env M (.reg j)):=id rfl
theorem aS6 (o:TOp)(l:Option Nat)(g:Nat)(want:Bool)(j:Nat):rcO K (some ⟨o,l,some (g,want)⟩) j M n env S=rcG K (opv K n env M (.reg g)) want j M n env S o:=id rfl
theorem bE7 (ops:List aM):rck K ops M n env S []=true:=id rfl
theorem aZ4 (ops:List aM)(j:Nat)(c:List Nat):rck K ops M n env S (j::c)=(rcO K (yK ops j) j M n env S&&rck K ops M n env S c):=by
 simp only[rck,nC,yK]
 congr 1
 cases ops[j]? with
 | none=>rfl
 | some x =>
  obtain⟨o,l,g⟩:=x
  cases g with
  | none =>
   simp only[dS,rcO]
   show(match flM K M n env S o with|some v=>same v (opv K n env M (.reg j))|none=>false)=_
   cases flM K M n env S o<;>rfl
  | some q =>
   obtain⟨g,want⟩:=q
   simp only[dS,rcO]
   show(match(match opv K n env M (.reg g)with | .iv (.bool b)=>some (b==want) | .tup []=>some false|_=>none)with|some true=>(match flM K M n env S o with|some v=>same v (opv K n env M (.reg j))|none=>false)|some false=>true|none=>false)=_
   unfold rcG
   cases opv K n env M (.reg g)with
   | iv v =>
    cases v with
    | bool b =>
     simp only
     cases b==want
     ·rfl
     ·simp only[↓reduceIte]
      cases flM K M n env S o<;>rfl
    | _=>rfl
   | tup vs=>cases vs<;>rfl
   | _=>rfl
theorem aZ5 (ops:List aM)(ps:List (Nat×List Nat×List Nat))(c fl:List Nat):cont K O (.ph ops c fl ps) M n fs env S=chk K O (rck K ops M n env S c) ops fl ps M n fs env S:=id rfl
end
end Go.TM
namespace Go.TM
attribute [go_sem] bD8 aYq bD9 bEa aYr aYs bEb bEc aYt aYu aM6
attribute [go_sem] aSh aSi okL aKb uB
attribute [go_sem] bEp aZc aZd bLj aNc aNd aNe aSl bEr aQy aFq bEs bEt aZf aZg bEu aZh aZi aZj rB aSm aZl aJ7 aNg
attribute [go_sem] aSv
theorem go_region (K:bV)(O:Orc)(ops:List aM)(fs:List Fr)(env:Env)(S:aA):go K O (.region ops) fs env S=rgN K O (aAh ops 0) ops fs env S:=by
 rw[go_region0,aY5,aHh];rfl
def aZ6 (K:bV)(O:Orc)(n:Nat)(f0:List Nat)(ph:List (Nat×List Nat×List Nat))(ops:List aM)(fs:List Fr)(env:Env)(S:aA):Out (bR×Env×aA):=fls K O ops f0 ph [] n fs env S
@[congr] theorem flsN_congr (K:bV) (O:Orc) {n n':Nat} (h:n=n') (f0:List Nat) (ph:List (Nat×List Nat×List Nat)) (ops:List aM) (fs:List Fr) (env:Env) (S:aA):aZ6 K O n f0 ph ops fs env S=aZ6 K O n' f0 ph ops fs env S:=by rw[h]
theorem aQ1 (K:bV)(O:Orc)(n:Nat)(f0:List Nat)(ph:List (Nat×List Nat×List Nat))(ops:List aM)(fs:List Fr)(env:Env)(S:aA):aZ6 K O n f0 ph ops fs env S=fls K O ops f0 ph [] n fs env S:=id rfl
theorem go_draw (K:bV)(O:Orc)(f0:List Nat)(ph:List (Nat×List Nat×List Nat))(ops:List aM)(fs:List Fr)(env:Env)(S:aA):go K O (.draw f0 ph ops) fs env S=aZ6 K O (aAh ops 0) f0 ph ops fs env S:=by
 rw[go_draw0,aQ1,aHh];rfl
theorem aZ7 (n:Nat):aAh [] n=n:=id rfl
theorem aS7 (a:aM)(l:List aM)(n:Nat):aAh (a::l) n=aAh l (n+1):=id rfl
@[congr] theorem lenT_congr (l:List aM) {n n':Nat} (h:n=n'):aAh l n=aAh l n':=by rw[h]
theorem aS8 (a:TV)(l:List TV)(d:TV):List.getD (a::l) 0 d=a:=id rfl
theorem aS9 (a:TV)(l:List TV)(j:Nat)(d:TV):List.getD (a::l) (j+1) d=List.getD l j d:=by simp[List.getD]
attribute [go_sem] aS8 aS9 List.map_cons List.map_nil List.getElem?_cons_zero List.getElem?_cons_succ Option.map_some Option.map_none
theorem bE8 (v:IV):eE (.iv v)=false:=id rfl
theorem aZ8 (a b c:Nat):eE (.ptr a b c)=false:=id rfl
theorem aZ9 (a:Nat)(l:List (List IV)):eE (.tsl a l)=false:=id rfl
theorem bE9 (f:Nat)(a b:List TV):eE (.fn f a b)=false:=id rfl
theorem bAa (v:IV):uF (.iv v)=false:=id rfl
theorem aKf (v:IV):jG (.iv v)=iS v:=id rfl
theorem aHn (b:Bool):iS (.bool b)=true:=id rfl
theorem aKg (k:IntKind)(m:Int):iS (.int k m)=true:=id rfl
theorem aKh (s:List UInt8):iS (.str s)=true:=id rfl
theorem aNq (a:Tag)(l:List (List IV)):iS (.sl a l)=false:=id rfl
theorem aD7 (S:aA):dV S []=some []:=id rfl
def aFt {α:Type}:Option α->Option (List α)->Option (List α)
 | some a,some l=>some (a::l)
 | _,_=>none
theorem aC8 {α:Type}(a:α)(l:List α):aFt (some a) (some l)=some (a::l):=id rfl
theorem aC9 (S:aA)(v:TV)(r:List TV):dV S (v::r)=aFt (lZ S v) (dV S r):=by rw[dV];cases lZ S v<;>cases dV S r<;>rfl
theorem aKi (S:aA)(v:IV):lZ S (.iv v)=some (.iv v):=id rfl
theorem bFa (S:aA)(v:IV):aIy S (.iv v)=some v:=id rfl
def slO (x:Option (List (List IV))):Option IV:=match x with
 | some l=>some (.sl .no l)
 | none=>none
theorem bAb (l:List (List IV)):slO (some l)=some (.sl .no l):=id rfl
theorem bAc (S:aA)(a b c d e f:Nat):aIy S (.msl a b c d e f)=slO (fB S (.msl a b c d e f)):=id rfl
theorem bAd (S:aA):aBw S []=some []:=id rfl
theorem aTa (S:aA)(v:TV)(r:List TV):aBw S (v::r)=aFt (aIy S v) (aBw S r):=by rw[aBw];cases aIy S v<;>cases aBw S r<;>rfl
theorem bFb (S:aA)(v:IV):aGp S (.iv v)=some v:=id rfl
theorem bAe (S:aA)(c:List TV):aGp S (.agg c)=(aBw S c).map .agg:=id rfl
theorem aTb (S:aA):wC S []=some []:=id rfl
def ivC:Option IV->Option (List TV)->Option (List TV)
 | some a,some l=>some (.iv a::l)
 | _,_=>none
theorem bAf (a:IV)(l:List TV):ivC (some a) (some l)=some (.iv a::l):=id rfl
theorem aNr (S:aA)(v:TV)(r:List TV):wC S (v::r)=ivC (aGp S v) (wC S r):=id rfl
theorem aKj (S:aA)(c:List TV):resolve S (.tup c)=(wC S c).map .tup:=id rfl
theorem aT (S:aA)(v:IV):resolve S (.iv v)=some (.iv v):=id rfl
def bAg:TV->Option TV
 | .lb _=>none
 | .lp ..=>none
 | v=>some v
theorem bFc (v:IV):bAg (.iv v)=some (.iv v):=id rfl
theorem bAh (a:Nat)(l:List (List IV)):bAg (.tsl a l)=some (.tsl a l):=id rfl
theorem bFd (f:Nat)(a b:List TV):bAg (.fn f a b)=some (.fn f a b):=id rfl
theorem aHo (env:Env)(S:aA)(j:Nat):jH env S (.loc j)=bAg (env.getD j .hole):=by simp only[jH];cases env.getD j .hole<;>rfl
theorem aD8 (env:Env)(S:aA)(j m:Nat)(ag:Bool):jH env S (.cell j m ag)=mW ag (bL env S (aAg j (env.getD j .hole)) m):=by simp only[jH,bH];cases env.getD j .hole<;>rfl
theorem aD9 (env:Env)(S:aA):fK env S []=some []:=id rfl
theorem aDa (env:Env)(S:aA)(r:nT)(rs:List nT):fK env S (r::rs)=aFt (jH env S r) (fK env S rs):=by rw[fK];cases jH env S r<;>cases fK env S rs<;>rfl
def bFe:Option (List TV)->Option TV
 | some [v]=>some v
 | some vs=>some (.tup vs)
 | none=>none
theorem bAi (v:TV):bFe (some [v])=some v:=id rfl
theorem bAj (v w:TV)(l:List TV):bFe (some (v::w::l))=some (.tup (v::w::l)):=id rfl
theorem bAk:bFe (some [])=some (.tup []):=id rfl
theorem aTc (rs:List nT)(env:Env)(S:aA):mM rs env S=bFe (fK env S rs):=by simp only[mM];cases fK env S rs with|none=>rfl|some l=>cases l with|nil=>rfl|cons a r=>cases r<;>rfl
theorem aTd (k:IntKind)(a b:Int):TM.binOp .add (.iv (.int k a)) (.iv (.int k b))=some (.int k (k.wrap (a+b))):=by simp[TM.binOp,jF]
theorem aTe (k:IntKind)(a b:Int):TM.binOp .sub (.iv (.int k a)) (.iv (.int k b))=some (.int k (k.wrap (a-b))):=by simp[TM.binOp,jF]
theorem aTf (k:IntKind)(a b:Int):TM.binOp .mul (.iv (.int k a)) (.iv (.int k b))=some (.int k (k.wrap (a*b))):=by simp[TM.binOp,jF]
theorem aTg (k:IntKind)(a b:Int):TM.binOp .quo (.iv (.int k a)) (.iv (.int k b))=if b=0 then none else some (.int k (k.wrap (a.tdiv b))):=by simp[TM.binOp,jF]
theorem aTh (k:IntKind)(a b:Int):TM.binOp .rem (.iv (.int k a)) (.iv (.int k b))=if b=0 then none else some (.int k (a.tmod b)):=by simp[TM.binOp,jF]
theorem aTi (k:IntKind)(a b:Int):TM.binOp .eql (.iv (.int k a)) (.iv (.int k b))=some (.bool (a==b)):=by simp[TM.binOp,jF]
theorem aTj (k:IntKind)(a b:Int):TM.binOp .neq (.iv (.int k a)) (.iv (.int k b))=some (.bool (a != b)):=by simp[TM.binOp,jF]
theorem aTk (k:IntKind)(a b:Int):TM.binOp .lss (.iv (.int k a)) (.iv (.int k b))=some (.bool (decide (a<b))):=by simp[TM.binOp,jF]
theorem aTl (k:IntKind)(a b:Int):TM.binOp .leq (.iv (.int k a)) (.iv (.int k b))=some (.bool (decide (a<=b))):=by simp[TM.binOp,jF]
theorem aTm (k:IntKind)(a b:Int):TM.binOp .gtr (.iv (.int k a)) (.iv (.int k b))=some (.bool (decide (b<a))):=by simp[TM.binOp,jF]
theorem aTn (k:IntKind)(a b:Int):TM.binOp .geq (.iv (.int k a)) (.iv (.int k b))=some (.bool (decide (b<=a))):=by simp[TM.binOp,jF]
def rE (w:Nat)(a b:Int):Int:=((BitVec.ofInt w a &&& BitVec.ofInt w b).toNat:Nat)
def bOr (w:Nat)(a b:Int):Int:=((BitVec.ofInt w a ||| BitVec.ofInt w b).toNat:Nat)
def tV (w:Nat)(a b:Int):Int:=((BitVec.ofInt w a &&& ~~~ BitVec.ofInt w b).toNat:Nat)
theorem aTo (k:IntKind)(a b:Int):TM.binOp .and (.iv (.int k a)) (.iv (.int k b))=some (.int k (k.wrap (rE k.bits a b))):=by simp[TM.binOp,jF,rE]
theorem bAl (k:IntKind)(a b:Int):TM.binOp .or (.iv (.int k a)) (.iv (.int k b))=some (.int k (k.wrap (bOr k.bits a b))):=by simp[TM.binOp,jF,bOr]
theorem aHp (k:IntKind)(a b:Int):TM.binOp .andNot (.iv (.int k a)) (.iv (.int k b))=some (.int k (k.wrap (tV k.bits a b))):=by simp[TM.binOp,jF,tV]
theorem aTp (k k':IntKind)(a b:Int):TM.binOp .shl (.iv (.int k a)) (.iv (.int k' b))=if b<0 then none else some (.int k (k.wrap (a*2 ^ (if b.toNat<=k.bits then b.toNat else k.bits)))):=by simp[TM.binOp,wB,Nat.min_def]
theorem aTq (k k':IntKind)(a b:Int):TM.binOp .shr (.iv (.int k a)) (.iv (.int k' b))=if b<0 then none else some (.int k (a.fdiv (2 ^ (if b.toNat<=k.bits then b.toNat else k.bits)))):=by simp[TM.binOp,wB,Nat.min_def]
theorem aNs (a b:List UInt8):TM.binOp .add (.iv (.str a)) (.iv (.str b))=if a.length+b.length<=4611686018427387904 then some (.str (a++b))else none:=id rfl
theorem aNt (a b:List UInt8):TM.binOp .eql (.iv (.str a)) (.iv (.str b))=some (.bool (a==b)):=id rfl
theorem aNu (a b:List UInt8):TM.binOp .neq (.iv (.str a)) (.iv (.str b))=some (.bool (!(a==b))):=id rfl
theorem bAm (b:Bool):TM.unOp .not (.iv (.bool b))=some (.bool (!b)):=id rfl
theorem aHq (k k':IntKind)(a:Int):dB (.toInt k) (.iv (.int k' a))=some (.int k (k.wrap a)):=id rfl
theorem aAj (s:List UInt8):dB .strBytes (.iv (.str s))=if s.length<=70368744177664 then some (.sl .no (bF s))else none:=id rfl
theorem bAn (a b:Bool):TM.eqB .bool (.iv (.bool a)) (.iv (.bool b))=some (a==b):=id rfl
theorem bAo (o:TOp):floats o=(cL o==0||cL o==1||cL o==2||cL o==4||cL o==6):=id rfl
attribute [go_sem] bE8 aZ8 aZ9 bE9
attribute [go_sem] bAa aKf
attribute [go_sem] aHn aKg aKh aNq aD7 aC8 aC9
attribute [go_sem] aKi bFa bAb bAc bAd aTa bFb bAe
attribute [go_sem] aTb bAf aNr aKj aT bFc bAh
attribute [go_sem] bFd aHo aD8 aD9 aDa
attribute [go_sem] bAi bAj bAk aTc aTd aTe aTf aTg aTh aTi aTj aTk
attribute [go_sem] aTl aTm aTn aTo bAl aHp aTp aTq aNs aNt aNu
attribute [go_sem] bAm aHq aAj bAn
attribute [go_sem] bAo
theorem bM2 (b:Bool):(b==true)=b:=by cases b<;>rfl
theorem bM3 (b:Bool):(b==false)=!b:=by cases b<;>rfl
theorem aHr (b:Bool):cellsOf (.iv (.bool b))=[.iv (.bool b)]:=id rfl
theorem aKk (b:Bool):cB (.iv (.bool b))=false:=id rfl
theorem aKl (k:IntKind)(m:Int):cellsOf (.iv (.int k m))=[.iv (.int k m)]:=id rfl
theorem aNv (k:IntKind)(m:Int):cB (.iv (.int k m))=false:=id rfl
theorem aKm (s:List UInt8):cellsOf (.iv (.str s))=[.iv (.str s)]:=id rfl
theorem aNw (s:List UInt8):cB (.iv (.str s))=false:=id rfl
theorem aNx (a:Tag)(l:List (List IV)):cellsOf (.iv (.sl a l))=[.iv (.sl a l)]:=id rfl
theorem aTr (a:Tag)(l:List (List IV)):cB (.iv (.sl a l))=false:=id rfl
theorem aHs (l:List IV):cellsOf (.iv (.agg l))=l.map .iv:=id rfl
theorem aKn (a b c:Nat):cellsOf (.ptr a b c)=[.ptr a b c]:=id rfl
theorem aNy (a b c:Nat):cB (.ptr a b c)=false:=id rfl
theorem aKo (a b c d e f:Nat):cellsOf (.msl a b c d e f)=[.msl a b c d e f]:=id rfl
theorem aNz (a b c d e f:Nat):cB (.msl a b c d e f)=false:=id rfl
theorem aN0 (a b c d e f:Nat):kF (.msl a b c d e f)=.msl a b c d e f:=id rfl
theorem aKp (a:Nat)(l:List (List IV)):cellsOf (.tsl a l)=[.tsl a l]:=id rfl
theorem aN1 (a:Nat)(l:List (List IV)):cB (.tsl a l)=false:=id rfl
theorem aKq (a:Nat):cellsOf (.map a)=[.map a]:=id rfl
theorem aN2 (a:Nat):cB (.map a)=false:=id rfl
theorem aN3 (a:Nat):kF (.map a)=.map a:=id rfl
theorem aN4 (f:Nat)(a b:List TV):cellsOf (.fn f a b)=[.fn f a b]:=id rfl
theorem aTs (f:Nat)(a b:List TV):cB (.fn f a b)=false:=id rfl
theorem aKr (l:List TV):cellsOf (.agg l)=l:=id rfl
theorem aTt (v:IV):kF (.iv v)=.iv v:=id rfl
theorem aN5 (a:Nat)(l:List (List IV)):kF (.tsl a l)=.iv (.sl .no l):=id rfl
theorem aDb (v:TV)(r:List TV):toIVs (v::r)=aFt (rS v) (toIVs r):=by rw[toIVs];cases rS v<;>cases toIVs r<;>rfl
theorem aKs (v:IV):rS (.iv v)=some v:=id rfl
def bAp (vs:List TV)(es:List (List TV))(n i:Nat)(e:aE->TV)(r:List (Nat×aE)):Option (List (List TV)) :=
 if vs.length=n∧i<es.length∧vs.any cB=false then dZ (es.set i vs) n e r else none
theorem aKt (es:List (List TV))(n i:Nat)(e:aE->TV)(x:aE)(r:List (Nat×aE)):dZ es n e ((i,x)::r)=bAp (cellsOf (kF (e x))) es n i e r:=id rfl
theorem aN6 (es:List (List TV))(n:Nat)(e:aE->TV):dZ es n e []=some es:=id rfl
theorem aTu (vs:List TV)(es:List (List TV))(n i:Nat)(e:aE->TV)(r:List (Nat×aE)):bAp vs es n i e r=if vs.length=n∧i<es.length∧vs.any cB=false then dZ (es.set i vs) n e r else none:=id rfl
def bG0 (vs:List TV)(cs:List TV)(off n:Nat)(e:aE->TV)(r:List (Nat×Nat×aE)):Option (List TV) :=
 if vs.length=n∧off+n<=cs.length∧vs.any cB=false then fill (put cs off vs) e r else none
theorem aTv (cs:List TV)(off n:Nat)(e:aE->TV)(x:aE)(r:List (Nat×Nat×aE)):fill cs e ((off,n,x)::r)=bG0 (cellsOf (kF (e x))) cs off n e r:=id rfl
theorem bAq (cs:List TV)(e:aE->TV):fill cs e []=some cs:=id rfl
theorem bAr (vs:List TV)(cs:List TV)(off n:Nat)(e:aE->TV)(r:List (Nat×Nat×aE)):bG0 vs cs off n e r=if vs.length=n∧off+n<=cs.length∧vs.any cB=false then fill (put cs off vs) e r else none:=id rfl
def mkG (x:Option (List IV))(cs:List TV):TV:=match x with
 | some l=>.iv (.agg l)
 | none=>.agg cs
theorem bAs (cs:List TV):qY cs=mkG (mU cs) cs:=by simp only[qY];cases mU cs<;>rfl
theorem bAt (l:List IV)(cs:List TV):mkG (some l) cs=.iv (.agg l):=id rfl
theorem bAu (cs:List TV):mkG none cs=.agg cs:=id rfl
def bAv (v:IV)(x:Option (List IV)):Option (List IV):=x.map (v::·)
theorem aN7 (v:IV)(l:List IV):bAv v (some l)=some (v::l):=id rfl
theorem aN8 (v:IV):bAv v none=none:=id rfl
theorem aN9 (v:IV)(r:List TV):mU (.iv v::r)=bAv v (mU r):=id rfl
theorem aTw:mU []=some []:=id rfl
theorem aOa:jM []=some []:=id rfl
theorem aKu (c:List TV)(r:List (List TV)):jM (c::r)=aFt (mU c) (jM r):=by rw[jM];cases mU c<;>cases jM r<;>rfl
theorem aTx {α:Type}(a:α)(l:List α)(v:α):List.set (a::l) 0 v=v::l:=id rfl
theorem aTy {α:Type}(a:α)(l:List α)(j:Nat)(v:α):List.set (a::l) (j+1) v=a::List.set l j v:=id rfl
theorem bJj {α:Type}(cs:List α)(off n:Nat):sub cs off n=if off+n<=cs.length then some ((cs.drop off).take n)else none:=id rfl
theorem bJk {α:Type}(cs:List α)(off:Nat)(vs:List α):put cs off vs=cs.take off++vs++cs.drop (off+vs.length):=id rfl
theorem aKv (l:List IV):fQ (.iv (.agg l))=some (l.map .iv):=id rfl
theorem aTz (a b c d e f:Nat)(r:List TV):mU (.msl a b c d e f::r)=none:=id rfl
theorem aFu (a:Nat)(r:List TV):mU (.map a::r)=none:=id rfl
attribute [go_sem] aHr aKk aKl aNv aKm aNw aNx aTr
attribute [go_sem] aHs aKn aNy aKo aNz
attribute [go_sem] aN0 aKp aN1 aKq aN2 aN3 aN4 aTs
attribute [go_sem] aKr aTt
attribute [go_sem] aN5 aDb aKs
attribute [go_sem] aKt aN6 aTu aTv bAq bAr bAs bAt bAu aN7
attribute [go_sem] aN8 aN9 aTw aFu aOa aKu aTx aTy bJj bJk aKv
attribute [go_sem] List.length_cons List.length_nil List.take_succ_cons List.drop_succ_cons List.take_zero List.drop_zero List.take_nil List.drop_nil and_self and_true true_and
attribute [go_sem] aTz aFu
def aOb (w:Nat)(env:Env)(S:aA)(a:TV)(vs:List TV):Option (TV×Env×aA):=if vs.length=w then aC3 (setCells env S a vs)else none
theorem aDc (w:Nat)(env:Env)(S:aA)(a v:TV):yM w env S a v=aOb w env S a (cellsOf v):=by
 unfold aOb
 split
 ·rename_i h;exact aSn env S w a v h
 ·rename_i h;simp only[yM,h,↓reduceIte]
theorem yN (w:Nat)(env:Env)(S:aA)(a:TV)(vs:List TV):aOb w env S a vs=if vs.length=w then aC3 (setCells env S a vs)else none:=id rfl
def lbK (off n:Nat):TV->Option (List TV)
 | .lb cs=>sub cs off n
 | _=>none
theorem bJl (off n:Nat)(cs:List TV):lbK off n (.lb cs)=sub cs off n:=id rfl
theorem aKw (env:Env)(S:aA)(j off n:Nat):bL env S (.lp j off) n=lbK off n (env.getD j .hole):=by
 simp only[bL,List.getD]
 cases env[j]? with
 | none=>rfl
 | some v=>cases v<;>rfl
def blK (v off n:Nat):Option aP->Option (List TV)
 | some (.cells v' _ cs)=>if v'=v then sub cs off n else none
 | some (.frz v' cs)=>if v'=v then(sub cs off n).map (·.map .iv)else none
 | _=>none
theorem aT0 (v off n v':Nat)(l:Bool)(cs:List TV):blK v off n (some (.cells v' l cs))=if v'=v then sub cs off n else none:=id rfl
theorem aHt (env:Env)(S:aA)(i v off n:Nat):bL env S (.ptr i v off) n=blK v off n (S[i]?):=by
 simp only[bL]
 cases S[i]? with
 | none=>rfl
 | some b=>cases b<;>rfl
def bG1 (env:Env)(S:aA)(j off:Nat)(vs:List TV):TV->Option (Env×aA)
 | .lb cs=>if off+vs.length<=cs.length then some (env.set j (.lb (put cs off vs)),S)else none
 | _=>none
theorem bAw (env:Env)(S:aA)(j off:Nat)(vs cs:List TV):bG1 env S j off vs (.lb cs)=if off+vs.length<=cs.length then some (env.set j (.lb (put cs off vs)),S)else none:=id rfl
theorem aKx (env:Env)(S:aA)(j off:Nat)(vs:List TV):setCells env S (.lp j off) vs=if vs.any cB then none else bG1 env S j off vs (env.getD j .hole):=by
 simp only[setCells,List.getD]
 split
 ·rfl
 ·cases env[j]? with
  | none=>rfl
  | some v=>cases v<;>rfl
def bG2 (env:Env)(S:aA)(i v off:Nat)(vs:List TV):Option aP->Option (Env×aA)
 | some (.cells v' l cs)=>if v'=v∧off+vs.length<=cs.length then some (env,S.set i (.cells v' l (put cs off vs)))else none
 | _=>none
theorem aKy (env:Env)(S:aA)(i v off:Nat)(vs:List TV)(v':Nat)(l:Bool)(cs:List TV):bG2 env S i v off vs (some (.cells v' l cs))=if v'=v∧off+vs.length<=cs.length then some (env,S.set i (.cells v' l (put cs off vs)))else none:=id rfl
theorem aHu (env:Env)(S:aA)(i v off:Nat)(vs:List TV):setCells env S (.ptr i v off) vs=if vs.any cB then none else bG2 env S i v off vs (S[i]?):=by
 simp only[setCells]
 split
 ·rfl
 ·cases S[i]? with
  | none=>rfl
  | some b=>cases b<;>rfl
theorem aT1 (j off n:Nat):dP (.lp j off) n=some (.lp j (off+n)):=id rfl
theorem aOc (i v off n:Nat):dP (.ptr i v off) n=some (.ptr i v (off+n)):=id rfl
theorem aOd (S:aA)(t:Tag)(l:List (List IV)):fB S (.iv (.sl t l))=some l:=id rfl
theorem bLv:(false=true)=False:=by simp
attribute [go_sem] aDc yN bJl aKw aT0 aHt bAw aKx aKy aHu aT1 aOc aOd bLv
attribute [go_sem] bE6 aZ0
attribute [go_sem] aZ1
attribute [go_sem] eq_self bM2 bM3 List.any_cons List.any_nil List.all_cons List.all_nil TM.undef cL Bool.true_and Bool.and_true Bool.false_and Bool.and_false Bool.or_false Bool.false_or Bool.true_or Bool.or_true Bool.not_true Bool.not_false ite_true ite_false
end Go.TM
namespace Go.TM
@[reducible] def TT {β:Type} (α:Type) (a:β):Type:=α
def br' {α:Type}(B:Bool)(x y:Out α):TT (Out α) (x,y):=br B x y
def bk' (K:bV)(O:Orc)(fs:List Fr)(j:bR)(e:Env)(S:aA):TT (Out (bR×Env×aA)) (fs,j,e,S):=bk K O fs j e S
def go' (K:bV)(O:Orc)(c:aQ)(fs:List Fr)(e:Env)(S:aA):TT (Out (bR×Env×aA)) (c,fs,e,S):=go K O c fs e S
def cM (K:bV)(n:Nat)(env:Env)(M:List (Nat×TV))(x:aE):TT (TV) (n,env,M,x):=opv K n env M x
def xE (K:bV)(O:Orc)(ops:List aM)(i:Nat)(M:List (Nat×TV))(n:Nat)(fs:List Fr)(env:Env)(S:aA):TT (Out (bR×Env×aA)) (ops,M,n,fs,S):=wbk K O ops i M n fs env S
def aT2 (K:bV)(O:Orc)(all ops:List aM)(i:Nat)(M:List (Nat×TV))(n:Nat)(fs:List Fr)(env:Env)(S:aA):TT (Out (bR×Env×aA)) (all,ops,M,n,fs,env,S):=rgR K O all ops i M n fs env S
def bFf (K:bV)(O:Orc)(ops:List aM)(ps:List (Nat×List Nat×List Nat))(M:List (Nat×TV))(n:Nat)(fs:List Fr)(env:Env)(S:aA):TT (Out (bR×Env×aA)) (ops,ps,M,n,fs,env,S):=phs K O ops ps M n fs env S
def aKz (K:bV)(O:Orc)(ops:List aM)(is:List Nat)(ps:List (Nat×List Nat×List Nat))(M:List (Nat×TV))(n:Nat)(fs:List Fr)(env:Env)(S:aA):TT (Out (bR×Env×aA)) (ops,is,ps,M,n,fs,env,S):=fls K O ops is ps M n fs env S
def bJm (K:bV)(O:Orc)(c:Bool)(ops:List aM)(is:List Nat)(ps:List (Nat×List Nat×List Nat))(M:List (Nat×TV))(n:Nat)(fs:List Fr)(env:Env)(S:aA):TT (Out (bR×Env×aA)) (ops,is,ps,M,n,fs,env,S):=chk K O c ops is ps M n fs env S
def pW (K:bV)(O:Orc)(k:Kt)(M:List (Nat×TV))(n:Nat)(fs:List Fr)(env:Env)(S:aA):TT (Out (bR×Env×aA)) (k,M,n,fs,env,S):=cont K O k M n fs env S
def eW (K:bV)(O:Orc)(o:TOp)(i:Nat)(k:Kt)(M:List (Nat×TV))(n:Nat)(fs:List Fr)(env:Env)(S:aA):TT (Out (bR×Env×aA)) (o,i,k,M,n,fs,env,S):=op1 K O o i k M n fs env S
def aT3 (K:bV)(O:Orc)(g:TV)(want:Bool)(j:Nat)(o:TOp)(i:Nat)(k:Kt)(M:List (Nat×TV))(n:Nat)(fs:List Fr)(env:Env)(S:aA):TT (Out (bR×Env×aA)) (want,j,o,i,k,M,n,fs,env,S):=opG K O g want j o i k M n fs env S
def lK (K:bV)(O:Orc)(v:Option TV)(i:Nat)(k:Kt)(M:List (Nat×TV))(n:Nat)(fs:List Fr)(env:Env)(S:aA):TT (Out (bR×Env×aA)) (i,k,M,n,fs,env,S):=opV K O v i k M n fs env S
def bFg (K:bV)(O:Orc)(v:Option (TV×aP))(i:Nat)(k:Kt)(M:List (Nat×TV))(n:Nat)(fs:List Fr)(env:Env)(S:aA):TT (Out (bR×Env×aA)) (i,k,M,n,fs,env,S):=opA K O v i k M n fs env S
def aT4 (K:bV)(O:Orc)(v:Option (TV×aA))(i:Nat)(k:Kt)(M:List (Nat×TV))(n:Nat)(fs:List Fr)(env:Env):TT (Out (bR×Env×aA)) (i,k,M,n,fs,env):=opS K O v i k M n fs env
def aEa (K:bV)(O:Orc)(v:Option (TV×Env×aA))(i:Nat)(k:Kt)(M:List (Nat×TV))(n:Nat)(fs:List Fr):TT (Out (bR×Env×aA)) (i,k,M,n,fs):=opE K O v i k M n fs
def aAk (K:bV)(O:Orc)(x:Out (TV×aA))(i:Nat)(k:Kt)(M:List (Nat×TV))(n:Nat)(fs:List Fr)(env:Env):TT (Out (bR×Env×aA)) (i,k,M,n,fs,env):=opC K O x i k M n fs env
def bJn (K:bV)(O:Orc)(c a b:TV)(i:Nat)(k:Kt)(M:List (Nat×TV))(n:Nat)(fs:List Fr)(env:Env)(S:aA):TT (Out (bR×Env×aA)) (i,k,M,n,fs,env,S):=opP K O c a b i k M n fs env S
def bJo (K:bV)(O:Orc)(c:TV)(a b:aQ)(fs:List Fr)(env:Env)(S:aA):TT (Out (bR×Env×aA)) (a,b,fs,env,S):=goC K O c a b fs env S
def lp' (O:Orc)(b:aQ)(env:Env)(S:aA):TT (Out (bR×Env×aA)) (b,env,S):=lp O b env S
def bJp (K:bV)(O:Orc)(x:Out (bR×Env×aA))(fs:List Fr):TT (Out (bR×Env×aA)) (fs):=goL K O x fs
def bJq (K:bV)(O:Orc)(n:Nat)(ops:List aM)(fs:List Fr)(env:Env)(S:aA):TT (Out (bR×Env×aA)) (ops,fs,env,S):=rgN K O n ops fs env S
def aFv (l:List aM)(n:Nat):TT Nat l:=aAh l n
def bFh (c:Bool)(x y:Out (bR×Env×aA)):TT (Out (bR×Env×aA)) (x,y):=flB c x y
def bFi (K:bV)(O:Orc)(o:Option aM)(i:Nat)(ops:List aM)(is:List Nat)(ps:List (Nat×List Nat×List Nat))(M:List (Nat×TV))(n:Nat)(fs:List Fr)(env:Env)(S:aA):TT (Out (bR×Env×aA)) (i,ops,is,ps,M,n,fs,env,S):=flO K O o i ops is ps M n fs env S
def bFj (K:bV)(O:Orc)(o:Option aM)(i:Nat)(ops:List aM)(c fl:List Nat)(ps:List (Nat×List Nat×List Nat))(M:List (Nat×TV))(n:Nat)(fs:List Fr)(env:Env)(S:aA):TT (Out (bR×Env×aA)) (i,ops,c,fl,ps,M,n,fs,env,S):=phO K O o i ops c fl ps M n fs env S
def aHv (K:bV)(O:Orc)(v:TV)(j:Nat)(ops:List aM)(i:Nat)(M:List (Nat×TV))(n:Nat)(fs:List Fr)(env:Env)(S:aA):TT (Out (bR×Env×aA)) (j,ops,i,M,n,fs,env,S):=wbV K O v j ops i M n fs env S
def bAx (K:bV)(O:Orc)(w:Nat)(x:Option (List (List IV)))(es:Option (List (List TV)))(i:Nat)(k:Kt)(M:List (Nat×TV))(n:Nat)(fs:List Fr)(env:Env)(S:aA):TT (Out (bR×Env×aA)) (w,i,k,M,n,fs,env,S):=aKa K O w x es i k M n fs env S
def bFk (c:Bool)(x y:Out (bR×Env×aA)):TT (Out (bR×Env×aA)) (x,y):=alB c x y
def bFl (S:aA)(args:List TV)(v:Option TV):TT (Out (TV×aA)) (S,args):=cpV S args v
def bFm (S:aA)(args:List TV)(x:Out (TV×aA)):TT (Out (TV×aA)) (S,args):=cpR S args x
def aT5 (O:Orc)(S:aA)(args:List TV)(f:Nat)(ags:Option (List TV)):TT (Out (TV×aA)) (S,args,f):=cpA O S args f ags
def bJr (c:Bool)(S:aA)(args:List TV)(v:TV):TT (Out (TV×aA)) (S,args,v):=cpB c S args v
def bJs (t:Bool)(S:aA)(x:Out (TV×aA)):TT (Out (TV×aA)) (t,S):=csR t S x
def aT6 (O:Orc)(t:Bool)(S:aA)(f:Nat)(lp:Bool)(args:List TV):TT (Out (TV×aA)) (t,S,f):=csA O t S f lp args
def aDd (rs:List nT)(x:Out (bR×Env×aA)):TT (Out (TV×aA)) (rs):=fin rs x
def aQ2 (S:aA)(v:Option TV):TT (Out (TV×aA)) (S):=aS4 S v
def aT7 (O:Orc)(b:aQ)(x:Out (bR×Env×aA)):TT (Out (bR×Env×aA)) (b):=rnd O b x
def aOe (K:bV)(M:List (Nat×TV))(n:Nat)(env:Env)(S:aA)(o:TOp):TT (Option TV) (M,n,env,S,o):=flM K M n env S o
def bAy (K:bV)(ops:List aM)(M:List (Nat×TV))(n:Nat)(env:Env)(S:aA)(c:List Nat):TT (Bool) (ops,M,n,env,S,c):=rck K ops M n env S c
def bJt (K:bV)(g:TV)(want:Bool)(j:Nat)(M:List (Nat×TV))(n:Nat)(env:Env)(S:aA)(o:TOp):TT (Bool) (want,j,M,n,env,S,o):=rcG K g want j M n env S o
def bFn (K:bV)(x:Option aM)(j:Nat)(M:List (Nat×TV))(n:Nat)(env:Env)(S:aA):TT (Bool) (j,M,n,env,S):=rcO K x j M n env S
def bAz (K:bV)(O:Orc)(n:Nat)(f0:List Nat)(ph:List (Nat×List Nat×List Nat))(ops:List aM)(fs:List Fr)(env:Env)(S:aA):TT (Out (bR×Env×aA)) (f0,ph,ops,fs,env,S):=aZ6 K O n f0 ph ops fs env S
section
variable (K:bV)(O:Orc)(ops:List aM)(is:List Nat)(ps:List (Nat×List Nat×List Nat))(i:Nat)(k:Kt)(M:List (Nat×TV))(n:Nat)(fs:List Fr)(env:Env)(S:aA)
theorem bA0 {α:Type}(x y:Out α):br' true x y=x:=_root_.id (tU ..)
theorem aT8 {α:Type}(x y:Out α):br' false x y=y:=_root_.id (pV ..)
theorem bFo {α:Type}(B:Bool)(x y:Out α):br' (!B) x y=br' B y x:=_root_.id (bIz ..)
theorem eC {α:Type}{B:Bool}{x y z:Out α}(h:B=true->x=z)(g:B=false->y=z):br' B x y=z:=bLh h g
theorem bA1 (n:Nat)(env:Env)(M:List (Nat×TV))(j:Nat):cM K n env M (.reg j)=if j<n then reg M j else .hole:=_root_.id (aHg ..)
theorem bA2 (n:Nat)(env:Env)(M:List (Nat×TV))(j:Nat):cM K n env M (.loc j)=aAg j (env.getD j .hole):=_root_.id (bEd ..)
theorem bA3 (n:Nat)(env:Env)(M:List (Nat×TV))(v:IV):cM K n env M (.cst v)=.iv v:=_root_.id (bEe ..)
theorem bFp (n:Nat)(env:Env)(M:List (Nat×TV))(f:Nat):cM K n env M (.fn f)=.fn f [] []:=_root_.id (bI0 ..)
theorem aT9 (n:Nat)(env:Env)(M:List (Nat×TV))(g:Nat):cM K n env M (.glob g)=aYv (K.glob g):=_root_.id (aYw ..)
theorem aUa (v:TV):lK K O (some v) i k M n fs env S=pW K O k ((i,v)::M) n fs env S:=_root_.id (aYx ..)
theorem aUb (v:TV)(b:aP):bFg K O (some (v,b)) i k M n fs env S=aT4 K O (some (v,S++[b])) i k M n fs env:=_root_.id (aYy ..)
theorem aUc (v:TV):aT4 K O (some (v,S)) i k M n fs env=pW K O k ((i,v)::M) n fs env S:=_root_.id (aYz ..)
theorem aUd (v:TV):aEa K O (some (v,env,S)) i k M n fs=pW K O k ((i,v)::M) n fs env S:=_root_.id (aY0 ..)
theorem bA4 (v:TV):aAk K O (.ret (v,S)) i k M n fs env=pW K O k ((i,v)::M) n fs env S:=_root_.id (bEf ..)
theorem aUe (t:Bool)(a b:TV):bJn K O (.iv (.bool t)) a b i k M n fs env S=br' t (pW K O k ((i,a)::M) n fs env S) (pW K O k ((i,b)::M) n fs env S):=_root_.id (aY1 ..)
theorem aUf (b want:Bool)(j:Nat)(o:TOp):aT3 K O (.iv (.bool b)) want j o i k M n fs env S=br' (b==want) (eW K O o i k ((j,.iv (.bool want))::M) n fs env S) (pW K O k ((i,undef)::(j,.iv (.bool (!want)))::M) n fs env S):=_root_.id (aY2 ..)
theorem aOf (want:Bool)(j:Nat)(o:TOp):aT3 K O (.tup []) want j o i k M n fs env S=pW K O k ((i,undef)::M) n fs env S:=_root_.id (aSf ..)
theorem aUg:bJm K O true ops is ps M n fs env S=aKz K O ops is ps M n fs env S:=_root_.id (aY3 ..)
theorem bFq (j:bR):bk' K O [] j env S=.ret (j,env,S):=_root_.id (bI1 ..)
theorem bFr (b:aQ):bk' K O (.seq b::fs) .normal env S=go' K O b fs env S:=_root_.id (bI2 ..)
theorem aK0 (b:aQ):bk' K O (.seq b::fs) .ret env S=bk' K O fs .ret env S:=_root_.id (aM9 ..)
theorem aHw (b:aQ)(id:Nat):bk' K O (.seq b::fs) (.exit id) env S=bk' K O fs (.exit id) env S:=_root_.id (aJ3 ..)
theorem bFs (id:Nat):bk' K O (.blk id::fs) .normal env S=bk' K O fs .normal env S:=_root_.id (bI3 ..)
theorem aK1 (id:Nat):bk' K O (.blk id::fs) .ret env S=bk' K O fs .ret env S:=_root_.id (aNa ..)
theorem aHx (id id':Nat):bk' K O (.blk id::fs) (.exit id') env S=if id'=id then bk' K O fs .normal env S else bk' K O fs (.exit id') env S:=_root_.id (aJ4 ..)
theorem go_skip':go' K O .skip fs env S=bk' K O fs .normal env S:=_root_.id (go_skip ..)
theorem go_ret':go' K O .ret fs env S=bk' K O fs .ret env S:=_root_.id (go_ret ..)
theorem go_exit' (id:Nat):go' K O (.exit id) fs env S=bk' K O fs (.exit id) env S:=_root_.id (go_exit ..)
theorem go_seq' (a b:aQ):go' K O (.seq a b) fs env S=go' K O a (.seq b::fs) env S:=_root_.id (go_seq ..)
theorem go_block' (id:Nat)(b:aQ):go' K O (.block id b) fs env S=go' K O b (.blk id::fs) env S:=_root_.id (go_block ..)
theorem aUh (t:Bool)(a b:aQ):bJo K O (.iv (.bool t)) a b fs env S=br' t (go' K O a fs env S) (go' K O b fs env S):=_root_.id (aY4 ..)
theorem go_cond' (c:aE)(a b:aQ):go' K O (.cond c a b) fs env S=bJo K O (cM K 0 env [] c) a b fs env S:=_root_.id (go_cond ..)
theorem bA5 (j:bR):bJp K O (.ret (j,env,S)) fs=bk' K O fs j env S:=_root_.id (bEg ..)
theorem go_loop' (b:aQ):go' K O (.loop b) fs env S=bJp K O (lp' O b env S) fs:=_root_.id (go_loop ..)
theorem bFt:bJq K O n ops fs env S=aT2 K O ops ops 0 [] n fs env S:=_root_.id (aY5 ..)
theorem bA6 (all:List aM):pW K O (.rg all ops i) M n fs env S=aT2 K O all ops (i+1) M n fs env S:=_root_.id (bEh ..)
theorem bA7:pW K O (.fl ops is ps) M n fs env S=aKz K O ops is ps M n fs env S:=_root_.id (aQw ..)
theorem bA8 (all:List aM):aT2 K O all [] i M n fs env S=xE K O all 0 M n fs env S:=_root_.id (bEi ..)
theorem aUi (all:List aM)(o:TOp)(l:Option Nat):aT2 K O all (⟨o,l,none⟩::ops) i M n fs env S=eW K O o i (.rg all ops i) M n fs env S:=_root_.id (aY6 ..)
theorem aOg (all:List aM)(o:TOp)(l:Option Nat)(j:Nat)(want:Bool):aT2 K O all (⟨o,l,some (j,want)⟩::ops) i M n fs env S=aT3 K O (cM K n env M (.reg j)) want j o i (.rg all ops i) M n fs env S:=_root_.id (aSg ..)
theorem aUj (x y:Out (bR×Env×aA)):bFh true x y=x:=_root_.id (aC0 ..)
theorem aUk (o:TOp)(l:Option Nat):bFi K O (some ⟨o,l,none⟩) i ops is ps M n fs env S=bFh (floats o) (eW K O o i (.fl ops is ps) M n fs env S) (aKz K O ops (i::is) ps M n fs env S):=_root_.id (aJ5 ..)
theorem aOh (o:TOp)(l:Option Nat)(j:Nat)(want:Bool):bFi K O (some ⟨o,l,some (j,want)⟩) i ops is ps M n fs env S=bFh (floats o) (aT3 K O (cM K n env M (.reg j)) want j o i (.fl ops is ps) M n fs env S) (aKz K O ops (i::is) ps M n fs env S):=_root_.id (aFn ..)
theorem bA9:aKz K O ops [] ps M n fs env S=bFf K O ops ps M n fs env S:=_root_.id (bEj ..)
theorem aUl:aKz K O ops (i::is) ps M n fs env S=bFi K O (yK ops i) i ops is ps M n fs env S:=_root_.id (aY8 ..)
theorem bBa:bFf K O ops [] M n fs env S=xE K O ops 0 M n fs env S:=_root_.id (bEk ..)
theorem aUm (c fl:List Nat)(o:TOp)(l:Option Nat):bFj K O (some ⟨o,l,none⟩) i ops c fl ps M n fs env S=eW K O o i (.ph ops c fl ps) M n fs env S:=_root_.id (aJ6 ..)
theorem aOi (c fl:List Nat)(o:TOp)(l:Option Nat)(j:Nat)(want:Bool):bFj K O (some ⟨o,l,some (j,want)⟩) i ops c fl ps M n fs env S=aT3 K O (cM K n env M (.reg j)) want j o i (.ph ops c fl ps) M n fs env S:=_root_.id (aFo ..)
theorem aUn (c fl:List Nat):bFf K O ops ((i,c,fl)::ps) M n fs env S=bFj K O (yK ops i) i ops c fl ps M n fs env S:=_root_.id (aY9 ..)
theorem bBb:xE K O [] i M n fs env S=bk' K O fs .normal env S:=_root_.id (bEl ..)
theorem aUo (o:TOp)(g:Option (Nat×Bool)):xE K O (⟨o,none,g⟩::ops) i M n fs env S=xE K O ops (i+1) M n fs env S:=_root_.id (aZa ..)
theorem aUp (o:TOp)(j:Nat)(g:Option (Nat×Bool)):xE K O (⟨o,some j,g⟩::ops) i M n fs env S=aHv K O (cM K n env M (.reg i)) j ops i M n fs env S:=_root_.id (aZb ..)
theorem aQ3 (v:IV)(j:Nat):aHv K O (.iv v) j ops i M n fs env S=xE K O ops (i+1) M n fs (env.set j (.iv v)) S:=_root_.id (bI4 ..)
theorem bBc (a b c:Nat)(j:Nat):aHv K O (.ptr a b c) j ops i M n fs env S=xE K O ops (i+1) M n fs (env.set j (.ptr a b c)) S:=_root_.id (bEm ..)
theorem aK2 (a:Nat)(l:List (List IV))(j:Nat):aHv K O (.tsl a l) j ops i M n fs env S=xE K O ops (i+1) M n fs (env.set j (.tsl a l)) S:=_root_.id (bEn ..)
theorem bFu (a:Nat)(j:Nat):aHv K O (.it a) j ops i M n fs env S=xE K O ops (i+1) M n fs (env.set j (.it a)) S:=_root_.id (bI5 ..)
theorem bFv (f:Nat)(a b:List TV)(j:Nat):aHv K O (.fn f a b) j ops i M n fs env S=xE K O ops (i+1) M n fs (env.set j (.fn f a b)) S:=_root_.id (bI6 ..)
theorem bBd (c:List TV)(j:Nat):aHv K O (.tup c) j ops i M n fs env S=xE K O ops (i+1) M n fs (env.set j (.tup c)) S:=_root_.id (bEo ..)
theorem cX {α:Type}{p:Prop}[Decidable p]{x y z:Out α}(h:p->x=z)(g:¬p->y=z):br' (decide p) x y=z:=bI7 h g
theorem cY {α:Type}{a b:Int}{x y z:Out α}(h:a=b->x=z)(g:a≠b->y=z):br' (a==b) x y=z:=bI8 h g
theorem cZ {α:Type}{a b:Int}{x y z:Out α}(h:a≠b->x=z)(g:a=b->y=z):br' (a != b) x y=z:=bI9 h g
theorem bBe (x:aE):eW K O (.mov x) i k M n fs env S=lK K O (some (cM K n env M x)) i k M n fs env S:=_root_.id (bEv ..)
theorem aUq (c a b:aE):eW K O (.pick c a b) i k M n fs env S=bJn K O (cM K n env M c) (cM K n env M a) (cM K n env M b) i k M n fs env S:=_root_.id (aZn ..)
theorem aOj (z:List IV)(ps:List (Nat×Nat×aE)):eW K O (.build z ps) i k M n fs env S=lK K O ((fill (z.map .iv) (cM K n env M) ps).map qY) i k M n fs env S:=_root_.id (aSo ..)
theorem aEb (x:aE):eW K O (.nilCheck x) i k M n fs env S=lK K O (bEq (cM K n env M x)) i k M n fs env S:=_root_.id (aHk ..)
theorem bBf (op:BinOp)(x y:aE):eW K O (.bin op x y) i k M n fs env S=lK K O (ivO (binOp op (cM K n env M x) (cM K n env M y))) i k M n fs env S:=_root_.id (bEw ..)
theorem bBg (neg:Bool)(ek:EK)(x y:aE):eW K O (.eqB neg ek x y) i k M n fs env S=lK K O (eqV neg (eqB ek (cM K n env M x) (cM K n env M y))) i k M n fs env S:=_root_.id (bEx ..)
theorem bFw (op:UnOp)(x:aE):eW K O (.un op x) i k M n fs env S=lK K O (ivO (unOp op (cM K n env M x))) i k M n fs env S:=_root_.id (bJa ..)
theorem aUr (f:Nat)(a b:List aE):eW K O (.mkFn f a b) i k M n fs env S=lK K O (aQz f (a.map (cM K n env M)) (b.map (cM K n env M))) i k M n fs env S:=_root_.id (aZo ..)
theorem aDe (off:Nat)(x:aE):eW K O (.fieldAddr off x) i k M n fs env S=lK K O (dP (cM K n env M x) off) i k M n fs env S:=_root_.id (aD6 ..)
theorem aOk (off w:Nat)(ag:Bool)(x:aE):eW K O (.field off w ag x) i k M n fs env S=lK K O (mW ag (aSk off w (fQ (cM K n env M x)))) i k M n fs env S:=_root_.id (aSp ..)
theorem aAl (es:Nat)(x y:aE):eW K O (.indexAddrS es x y) i k M n fs env S=lK K O (ixS es (cM K n env M x) (cM K n env M y)) i k M n fs env S:=_root_.id (aC4 ..)
theorem aAm (len es:Nat)(x y:aE):eW K O (.indexAddrA len es x y) i k M n fs env S=lK K O (ixA len es (cM K n env M x) (cM K n env M y)) i k M n fs env S:=_root_.id (aC5 ..)
theorem aK3 (x y:aE):eW K O (.indexS x y) i k M n fs env S=lK K O (aFp (cM K n env M x) (cM K n env M y)) i k M n fs env S:=_root_.id (aNh ..)
theorem aHy (j:Nat)(x:aE):eW K O (.extract j x) i k M n fs env S=lK K O (xtr j (cM K n env M x)) i k M n fs env S:=_root_.id (aJ9 ..)
theorem bBh (x:aE):eW K O (.cap x) i k M n fs env S=lK K O (aZe (aBv (cM K n env M x))) i k M n fs env S:=_root_.id (bEy ..)
theorem aK4 (mx:Bool)(xs:List aE):eW K O (.minmax mx xs) i k M n fs env S=lK K O (mmV mx (xs.map (cM K n env M))) i k M n fs env S:=_root_.id (aNi ..)
theorem aOl (a:aE):eW K O (.load1 a) i k M n fs env S=lK K O (mW false (bL env S (cM K n env M a) 1)) i k M n fs env S:=_root_.id (aSq ..)
theorem aOm (w:Nat)(a:aE):eW K O (.loadN w a) i k M n fs env S=lK K O (mW true (bL env S (cM K n env M a) w)) i k M n fs env S:=_root_.id (aSr ..)
theorem aOn (sk:SK)(x:aE)(lo hi mx:Option aE):eW K O (.slice sk x lo hi mx) i k M n fs env S=lK K O (slV S sk (cM K n env M x) (oI (lo.map (cM K n env M))) (oI (hi.map (cM K n env M))) (oI (mx.map (cM K n env M)))) i k M n fs env S:=_root_.id (aSs ..)
theorem aK5 (kk:KK)(z:IV)(ok:Bool)(m y:aE):eW K O (.lookup kk z ok m y) i k M n fs env S=lK K O (aR (.lookup kk z ok m y) (cM K n env M) env S) i k M n fs env S:=_root_.id (aNj ..)
theorem bBi (nk:NK)(x:aE):eW K O (.len nk x) i k M n fs env S=lK K O (aC2 nk S (cM K n env M x)) i k M n fs env S:=_root_.id (bEz ..)
theorem aOo (kd:IntKind)(x:aE):eW K O (.conv (.toInt kd) x) i k M n fs env S=lK K O (ivO (dB (.toInt kd) (cM K n env M x))) i k M n fs env S:=_root_.id (aSt ..)
theorem aEc (x:aE):eW K O (.conv .strBytes x) i k M n fs env S=lK K O (ivO (dB .strBytes (cM K n env M x))) i k M n fs env S:=_root_.id (aHl ..)
theorem aEd (x:aE):eW K O (.conv .bytesStr x) i k M n fs env S=lK K O (bsV (fB S (cM K n env M x))) i k M n fs env S:=_root_.id (aHm ..)
theorem aOp (w:Nat)(l:List (List IV))(es:Option (List (List TV))):bAx K O w (some l) es i k M n fs env S=pW K O k ((i,.iv (.sl .full l))::M) n fs env S:=_root_.id (aSu ..)
theorem bBj (z:List IV)(len:Nat)(ps:List (Nat×aE)):eW K O (.lit false z len ps) i k M n fs env S=bAx K O z.length (bE0 (dZ (List.replicate len (z.map .iv)) z.length (cM K n env M) ps)) (dZ (List.replicate len (z.map .iv)) z.length (cM K n env M) ps) i k M n fs env S:=_root_.id (bE1 ..)
theorem aUs (z:List IV)(len:Nat)(ps:List (Nat×aE)):eW K O (.lit true z len ps) i k M n fs env S=bFg K O (aHj S.length z.length (dZ (List.replicate len (z.map .iv)) z.length (cM K n env M) ps)) i k M n fs env S:=_root_.id (aZp ..)
theorem aK6 (t:Nat)(z:List IV):eW K O (.allocH t z) i k M n fs env S=aT4 K O (some (.ptr S.length t 0,S++[.cells t false (z.map .iv)])) i k M n fs env:=_root_.id (aNk ..)
theorem aOq:eW K O .mkMap i k M n fs env S=aT4 K O (some (.map S.length,S++[.mp [] 0])) i k M n fs env:=_root_.id (aSw ..)
theorem aUt (t:Nat)(x:aE):eW K O (.boxH t x) i k M n fs env S=bFg K O (bJe t S.length (cM K n env M x)) i k M n fs env S:=_root_.id (aZq ..)
theorem aUu (x y:Out (bR×Env×aA)):bFk true x y=x:=_root_.id (aC6 ..)
theorem aK7 (j:Nat)(z:List IV):eW K O (.allocL j z) i k M n fs env S=bFk (okL j M env) (aEa K O (some (.lp j 0,env.set j (.lb (z.map .iv)),S)) i k M n fs) (eW K O (.allocL j z) i k M n fs env S):=_root_.id (aNl ..)
theorem aUv (j:Nat)(x:aE):eW K O (.boxL j x) i k M n fs env S=bFk (okL j M env) (aEa K O (if(cellsOf (cM K n env M x)).any cB then none else some (.lp j 0,env.set j (.lb (cellsOf (cM K n env M x))),S)) i k M n fs) (eW K O (.boxL j x) i k M n fs env S):=_root_.id (aZr ..)
theorem aOr (w:Nat)(a v:aE):eW K O (.store w a v) i k M n fs env S=aEa K O (yM w env S (cM K n env M a) (cM K n env M v)) i k M n fs:=_root_.id (aSy ..)
theorem aK8 (kk:KK)(m y x:aE):eW K O (.update kk m y x) i k M n fs env S=aEa K O (iI (.update kk m y x) (cM K n env M) (dH M n) env S) i k M n fs:=_root_.id (aNm ..)
theorem aOs (str:Bool)(x:aE):eW K O (.range str x) i k M n fs env S=aEa K O (aNf str env S (cM K n env M x)) i k M n fs:=_root_.id (aSz ..)
theorem aOt (x:aE):eW K O (.nextS x) i k M n fs env S=aEa K O (aZm env S (cM K n env M x)) i k M n fs:=_root_.id (aS0 ..)
theorem aK9 (mu:Bool)(es bytes el:Nat)(s x:aE):eW K O (.append mu es bytes el s x) i k M n fs env S=aT4 K O (bY mu es bytes el S (cM K n env M s) (cM K n env M x)) i k M n fs env:=_root_.id (aNn ..)
theorem aUw (args ags:List TV)(f:Nat):aT5 O S args f (some ags)=bFm S args (O.call f ags []):=_root_.id (aZs ..)
theorem aLa (args:List TV)(v:TV)(S':aA):bFm S args (.ret (v,S'))=bFl S args (resolve S' v):=_root_.id (bE2 ..)
theorem aUx (args:List TV)(v:TV):bFl S args (some v)=bJr (args.any uF&&!(jG v)) S args v:=_root_.id (aZt ..)
theorem aOu (args:List TV)(v:TV):bJr false S args v=.ret (v,S):=_root_.id (aS1 ..)
theorem aOv (t:Bool)(f:Nat)(args:List aE):eW K O (.call true t f args) i k M n fs env S=aAk K O (aT5 O S (args.map (cM K n env M)) f (dV S (args.map (cM K n env M)))) i k M n fs env:=_root_.id (aS2 ..)
theorem bFx (t:Bool)(f:Nat)(args:List TV):aT6 O t S f false args=bJs t S (O.call f args S):=_root_.id (bJg ..)
theorem bJu (v:TV)(S':aA):bJs false S (.ret (v,S'))=.ret (v,S'):=_root_.id (bLn ..)
theorem aOw (t:Bool)(f:Nat)(args:List aE):eW K O (.call false t f args) i k M n fs env S=aAk K O (aT6 O t S f ((args.map (cM K n env M)).any eE) (args.map (cM K n env M))) i k M n fs env:=_root_.id (aS3 ..)
theorem aOx (v:TV):aQ2 S (some v)=.ret (v,S):=_root_.id (aS5 ..)
theorem bBk (rs:List nT):aDd rs (.ret (.ret,env,S))=aQ2 S (mM rs env S):=_root_.id (bE3 ..)
theorem aLb (rs:List nT):aDd rs (.ret (.normal,env,S))=aQ2 S (mM rs env S):=_root_.id (aNo ..)
theorem bFy (rs:List nT)(B:Bool)(x y:Out (bR×Env×aA)):aDd rs (br' B x y)=br' B (aDd rs x) (aDd rs y):=_root_.id (bJh ..)
theorem aB {f:Nat}{args:List TV}{fn:bE}{r:TV×aA}(hf:K.funcs f=some fn)(ha:args.length=fn.nparams)(h:aDd fn.results (go' K (lim K) fn.body [] (args++List.replicate (fn.nlocs-fn.nparams) undef) S)=.ret r):(lim K).call f args S=.ret r:=aZu K S hf ha h
theorem aLc (b:aQ):aT7 O b (.ret (.normal,env,S))=er (lp' O b env S):=_root_.id (aNp ..)
theorem bBl (b:aQ):aT7 O b (.ret (.ret,env,S))=.ret (.ret,env,S):=_root_.id (bE4 ..)
theorem aUy (b:aQ)(id:Nat):aT7 O b (.ret (.exit id,env,S))=.ret (.exit id,env,S):=_root_.id (aZv ..)
theorem tW {b:aQ}{r:bR×Env×aA}(h:aT7 (lim K) b (go' K (lim K) b [] env S)=.ret r):lp' (lim K) b env S=.ret r:=aZw K env S h
theorem aHz (x:aE):aOe K M n env S (.conv .bytesStr x)=bsV (fB S (cM K n env M x)):=_root_.id (aKe ..)
theorem aUz (a:aE):aOe K M n env S (.load1 a)=mW false (bL env S (cM K n env M a) 1):=_root_.id (aZx ..)
theorem aU0 (w:Nat)(a:aE):aOe K M n env S (.loadN w a)=mW true (bL env S (cM K n env M a) w):=_root_.id (aZy ..)
theorem aU1 (sk:SK)(x:aE)(lo hi mx:Option aE):aOe K M n env S (.slice sk x lo hi mx)=slV S sk (cM K n env M x) (oI (lo.map (cM K n env M))) (oI (hi.map (cM K n env M))) (oI (mx.map (cM K n env M))):=_root_.id (aZz ..)
theorem aU2 (b want:Bool)(j:Nat)(o:TOp):bJt K (.iv (.bool b)) want j M n env S o=if b==want then rcS (aOe K M n env S o) (cM K n env M (.reg j))else true:=_root_.id (aZ2 ..)
theorem aU3 (o:TOp)(l:Option Nat)(j:Nat):bFn K (some ⟨o,l,none⟩) j M n env S=rcS (aOe K M n env S o) (cM K n env M (.reg j)):=_root_.id (aZ3 ..)
theorem aOy (o:TOp)(l:Option Nat)(g:Nat)(want:Bool)(j:Nat):bFn K (some ⟨o,l,some (g,want)⟩) j M n env S=bJt K (cM K n env M (.reg g)) want j M n env S o:=_root_.id (aS6 ..)
theorem bBm (ops:List aM):bAy K ops M n env S []=true:=_root_.id (bE7 ..)
theorem aU4 (ops:List aM)(j:Nat)(c:List Nat):bAy K ops M n env S (j::c)=(bFn K (yK ops j) j M n env S&&bAy K ops M n env S c):=_root_.id (aZ4 ..)
theorem aU5 (ops:List aM)(ps:List (Nat×List Nat×List Nat))(c fl:List Nat):pW K O (.ph ops c fl ps) M n fs env S=bJm K O (bAy K ops M n env S c) ops fl ps M n fs env S:=_root_.id (aZ5 ..)
theorem go_region' (K:bV)(O:Orc)(ops:List aM)(fs:List Fr)(env:Env)(S:aA):go' K O (.region ops) fs env S=bJq K O (aFv ops 0) ops fs env S:=_root_.id (go_region ..)
theorem bBn (K:bV)(O:Orc)(n:Nat)(f0:List Nat)(ph:List (Nat×List Nat×List Nat))(ops:List aM)(fs:List Fr)(env:Env)(S:aA):bAz K O n f0 ph ops fs env S=aKz K O ops f0 ph [] n fs env S:=_root_.id (aQ1 ..)
theorem go_draw' (K:bV)(O:Orc)(f0:List Nat)(ph:List (Nat×List Nat×List Nat))(ops:List aM)(fs:List Fr)(env:Env)(S:aA):go' K O (.draw f0 ph ops) fs env S=bAz K O (aFv ops 0) f0 ph ops fs env S:=_root_.id (go_draw ..)
theorem aU6 (n:Nat):aFv [] n=n:=_root_.id (aZ7 ..)
theorem aOz (a:aM)(l:List aM)(n:Nat):aFv (a::l) n=aFv l (n+1):=_root_.id (aS7 ..)
attribute [go_sem] bA0 aT8 bFo bA1 bA2 bA3 bFp aT9 aUa aUb aUc aUd
attribute [go_sem] bA4 aUe aUf aOf aUg bFq bFr aK0 aHw bFs aK1 aHx
attribute [go_sem] go_skip' go_ret' go_exit' go_seq' go_block' aUh go_cond' bA5 go_loop' bFt bA6 bA7
attribute [go_sem] bA8 aUi aOg aUj aUk aOh bA9 aUl bBa aUm aOi aUn
attribute [go_sem] bBb aUo aUp aQ3 bBc aK2 bFu bFv
attribute [go_sem] bBd bBe aUq aOj aEb bBf bBg bFw aUr
attribute [go_sem] aDe aOk aAl aAm aK3 aHy bBh aK4 aOl aOm aOn
attribute [go_sem] aK5 bBi aOo aEc aEd aOp bBj aUs
attribute [go_sem] aK6 aOq aUt aUu aK7 aUv aOr aK8 aOs aOt aK9
attribute [go_sem] aUw aLa aUx aOu aOv bFx bJu
attribute [go_sem] aOw aOx bBk aLb bFy aLc bBl aUy aHz
attribute [go_sem] aUz aU0 aU1
attribute [go_sem] aU2 aU3 aOy bBm aU4 aU5 go_region' bBn go_draw'
attribute [go_sem] aU6 aOz
theorem aI {b b':aQ}{r:bR×Env×aA}(hb:b=b')(h:aT7 (lim K) b (go' K (lim K) b' [] env S)=.ret r):lp' (lim K) b env S=.ret r:=by
 subst hb
 exact tW K env S h
end
attribute [irreducible] br' bk' go' aT2 bFf aKz bJm pW eW aT3 lK bFg aT4 aEa aAk bJn xE aHv bJo bJp bJq bAz bFi bFj bFh bFk bAx lp' bFl bFm aT5 bJr bJs aT6 aDd aT7 aQ2 cM aFv aOe bAy bFn bJt
end Go.TM
namespace Go.TM
theorem aH {m:Int}(h:-9223372036854775808<=m∧m<=9223372036854775807):IntKind.i64.wrap m=m:=by
 unfold IntKind.wrap
 simp[IntKind.bits,IntKind.signed]
 omega
theorem aW {m:Int}(h:-2147483648<=m∧m<=2147483647):IntKind.i32.wrap m=m:=by
 unfold IntKind.wrap
 simp[IntKind.bits,IntKind.signed]
 omega
theorem aA5 {m:Int}(h:0<=m∧m<=255):IntKind.u8.wrap m=m:=by
 unfold IntKind.wrap
 simp[IntKind.bits,IntKind.signed]
 omega
theorem bJv {p:Prop}[Decidable p](h:p):decide p=true:=decide_eq_true h
theorem bJw {p:Prop}[Decidable p](h:¬p):decide p=false:=decide_eq_false h
theorem ifT {α:Type}{p:Prop}[Decidable p]{a b:α}(h:p):(if p then a else b)=a:=if_pos h
theorem ifF {α:Type}{p:Prop}[Decidable p]{a b:α}(h:¬p):(if p then a else b)=b:=if_neg h
theorem eqT {a b:Int}(h:a=b):(a==b)=true:=by simp[h]
theorem eqF {a b:Int}(h:a≠b):(a==b)=false:=by simp[h]
theorem neT {a b:Int}(h:a≠b):(a != b)=true:=by simp[h]
theorem neF {a b:Int}(h:a=b):(a != b)=false:=by simp[h]
def one {α:Type}(f:α->IV)(l:List α):List (List IV):=l.map fun a=>[f a]
def u8 (b:UInt8):IV:=.int .u8 b.toNat
def i64 (n:Int):IV:=.int .i64 n
theorem dL {α:Type}(f:α->IV)(l:List α):(one f l).length=l.length:=by simp[one]
theorem sS (l:List UInt8):(bF l).length=l.length:=by simp[bF]
theorem aLd {α:Type}(f:α->IV)(l:List α):iE 1 (one f l)=true:=by cases l<;>rfl
theorem bBo {α:Type}(f:α->IV)(l:List α)(n:Nat):(one f l).take n=one f (l.take n):=by simp[one]
theorem aLe {α:Type}(f:α->IV)(l:List α)(n:Nat):(one f l).drop n=one f (l.drop n):=by simp[one]
theorem aDf {α:Type}(f:α->IV)(l m:List α):one f l++one f m=one f (l++m):=by simp[one]
def lL (t:Tag)(n b:Nat):Tag:=match t with
 | .nil=>.nil
 | .no=>.no
 | .full=>if n=b then .full else .no
def dN {α:Type}(t:Tag)(l:List α):Prop:=t=.nil->l=[]
theorem dN.no {α:Type}(l:List α):dN .no l:=fun h=>by cases h
theorem aDg {t:Tag}{l:List (List IV)}{a b:Int}(ht:dN t l)(h:0<=a∧a<=b∧b<=l.length):fM t l (some a) (some b) none=some (.sl (lL t l.length b.toNat) ((l.drop a.toNat).take (b.toNat-a.toNat))):=by
 obtain⟨h1,h2,h3⟩:=h
 have h2':(a:Int)<=((b.toNat:Nat):Int):=by omega
 have h0:0<=b:=by omega
 have e0:((0:Nat):Int)<=b:=h0
 cases t with
 | nil =>
  have:=ht rfl
  subst this
  simp at h3
  obtain rfl:b=0:=by omega
  obtain rfl:a=0:=by omega
  simp[fM,fC,lY,lL]
 | full =>
  simp only[fM,fC,lY,h0,h1,h3,h2',and_self,↓reduceIte,lL]
 | no =>
  simp only[fM,fC,lY,h0,h1,h3,h2',and_self,↓reduceIte,lL]
theorem aO0 {t:Tag}{l:List (List IV)}{b:Int}(ht:dN t l)(h:0<=b∧b<=l.length):fM t l none (some b) none=some (.sl (lL t l.length b.toNat) (l.take b.toNat)):=by
 have:=aDg (a:=0) (b:=b) ht (by omega)
 simp only[Int.toNat_zero,List.drop_zero,Nat.sub_zero]at this
 rw[<-this]
 cases t<;>simp[fM,fC,lY]
theorem vO {t:Tag}{l:List (List IV)}{a:Int}(ht:dN t l)(h:0<=a∧a<=l.length):fM t l (some a) none none=some (.sl t (l.drop a.toNat)):=by
 obtain⟨h1,h3⟩:=h
 cases t with
 | nil =>
  have:=ht rfl
  subst this
  simp at h3
  obtain rfl:a=0:=by omega
  simp[fM,fC,lY]
 | full =>
  have e:List.take (l.length-a.toNat) (List.drop a.toNat l)=List.drop a.toNat l:=List.take_of_length_le (by simp)
  simp only[fM,fC,lY,h1,h3,and_self,↓reduceIte,e]
 | no =>
  have e:List.take (l.length-a.toNat) (List.drop a.toNat l)=List.drop a.toNat l:=List.take_of_length_le (by simp)
  simp only[fM,fC,lY,h1,h3,and_self,↓reduceIte,e]
theorem aLf (S:aA){t:Tag}{w:Nat}{l:List (List IV)}{a b:Int}(ht:dN t l)(hf:iE w l=true)(h:0<=a∧a<=b∧b<=l.length):cH S (.sl w) (.iv (.sl t l)) (some a) (some b) none=some (.iv (.sl (lL t l.length b.toNat) ((l.drop a.toNat).take (b.toNat-a.toNat)))):=by
 simp only[cH,hf,↓reduceIte,aDg ht h,Option.map_some]
theorem aLg (S:aA){t:Tag}{w:Nat}{l:List (List IV)}{b:Int}(ht:dN t l)(hf:iE w l=true)(h:0<=b∧b<=l.length):cH S (.sl w) (.iv (.sl t l)) none (some b) none=some (.iv (.sl (lL t l.length b.toNat) (l.take b.toNat))):=by
 simp only[cH,hf,↓reduceIte,aO0 ht h,Option.map_some]
theorem aDh (S:aA){t:Tag}{w:Nat}{l:List (List IV)}{a:Int}(ht:dN t l)(hf:iE w l=true)(h:0<=a∧a<=l.length):cH S (.sl w) (.iv (.sl t l)) (some a) none none=some (.iv (.sl t (l.drop a.toNat))):=by
 simp only[cH,hf,↓reduceIte,vO ht h,Option.map_some]
theorem aQ4 {α:Type}{f:α->IV}{t:Tag}{l:List α}(h:dN t l):dN t (one f l):=fun e=>by rw[h e];rfl
theorem aU7 {α:Type}{f:α->IV}(S:aA){t:Tag}{l:List α}{a b:Int}(ht:dN t l)(h:0<=a∧a<=b∧b<=l.length):cH S (.sl 1) (.iv (.sl t (one f l))) (some a) (some b) none=some (.iv (.sl (lL t l.length b.toNat) (one f ((l.drop a.toNat).take (b.toNat-a.toNat))))):=by
 rw[aLf S (aQ4 ht) (aLd f l) (by rw[dL];exact h),dL,aLe,bBo]
theorem aH0 {α:Type}{f:α->IV}(S:aA){t:Tag}{l:List α}{a:Int}(ht:dN t l)(h:0<=a∧a<=l.length):cH S (.sl 1) (.iv (.sl t (one f l))) (some a) none none=some (.iv (.sl t (one f (l.drop a.toNat)))):=by
 rw[aDh S (aQ4 ht) (aLd f l) (by rw[dL];exact h),aLe]
theorem aLh (S:aA){t:Tag}{l:List UInt8}{a b:Int}(ht:dN t l)(h:0<=a∧a<=b∧b<=l.length):cH S (.sl 1) (.iv (.sl t (bF l))) (some a) (some b) none=some (.iv (.sl (lL t l.length b.toNat) (bF ((l.drop a.toNat).take (b.toNat-a.toNat))))):=aU7 (f:=u8) S ht h
theorem aDi (S:aA){t:Tag}{l:List UInt8}{a:Int}(ht:dN t l)(h:0<=a∧a<=l.length):cH S (.sl 1) (.iv (.sl t (bF l))) (some a) none none=some (.iv (.sl t (bF (l.drop a.toNat)))):=aH0 (f:=u8) S ht h
theorem aH1 (S:aA){s:List UInt8}{b:Int}(h:0<=b∧b<=s.length):cH S .str (.iv (.str s)) none (some b) none=some (.iv (.str (s.take b.toNat))):=by
 simp only[cH,fC,lY,h,and_self,↓reduceIte]
 simp
theorem xF (S:aA){s:List UInt8}{a:Int}(h:0<=a∧a<=s.length):cH S .str (.iv (.str s)) (some a) none none=some (.iv (.str (s.drop a.toNat))):=by
 have e:List.take (s.length-a.toNat) (List.drop a.toNat s)=List.drop a.toNat s:=List.take_of_length_le (by simp)
 simp only[cH,fC,lY,h,and_self,↓reduceIte,e]
theorem sT {w:Nat}{t:Tag}{l:List (List IV)}{i:Int}{c:List IV}(h:0<=i)(hc:l[i.toNat]? = some c)(hw:c.length=w):indexAddrS w (.iv (.sl t l)) i=some (.iv (.cp c)):=by
 have:¬i<0:=by omega
 simp only[indexAddrS,this,↓reduceIte,hc,hw]
theorem kP {w j:Nat}{l:List (List IV)}{i:Int}{c:List IV}(h:0<=i)(hc:l[i.toNat]? = some c)(hw:c.length=w):indexAddrS w (.tsl j l) i=some (.iv (.cp c)):=by
 have:¬i<0:=by omega
 simp only[indexAddrS,this,↓reduceIte,hc,hw]
theorem bFz {α:Type}(f:α->IV)(l:List α)(n:Nat):(one f l)[n]? = (l[n]?).map fun a=>[f a]:=by simp[one]
theorem sU {α:Type}[Inhabited α](f:α->IV){t:Tag}{l:List α}{i:Int}(h:0<=i∧i<l.length):indexAddrS 1 (.iv (.sl t (one f l))) i=some (.iv (.cp [f (l.getD i.toNat default)])):=by
 refine sT h.1 ?_ rfl
 have:i.toNat<l.length:=by omega
 rw[bFz,List.getElem?_eq_getElem this]
 simp[List.getD,List.getElem?_eq_getElem this]
theorem sV {t:Tag}{l:List UInt8}{i:Int}(h:0<=i∧i<l.length):indexAddrS 1 (.iv (.sl t (bF l))) i=some (.iv (.cp [.int .u8 (l.getD i.toNat 0).toNat])):=sU u8 h
theorem aLi {s:List UInt8}{i:Int}{kd:IntKind}(h:0<=i∧i<s.length):aFp (.iv (.str s)) (.iv (.int kd i))=some (.iv (.int .u8 (s.getD i.toNat 0).toNat)):=by
 have:i.toNat<s.length:=by omega
 simp only[aFq,h.1,↓reduceIte,List.getElem?_eq_getElem this,Option.map_some,List.getD,Option.getD_some]
theorem aH2 (env:Env)(S:aA)(x:IV)(l:List IV):bL env S (.iv (.cp (x::l))) 1=some [.iv x]:=by simp[bL,sub]
end Go.TM
namespace Go.TM
theorem jS {w:Nat}{a:Int}(h:0<=a∧a<2 ^ w):(BitVec.ofInt w a).toNat=a.toNat:=by
 rw[BitVec.toNat_ofInt]
 have:a % ((2 ^ w:Nat):Int)=a:=Int.emod_eq_of_lt h.1 (by push_cast;exact h.2)
 rw[this]
theorem bBp {w k:Nat}{a:Int}(h:0<=a∧a<2 ^ w)(hk:(2:Int) ^ k-1<2 ^ w):(BitVec.ofInt w a &&& BitVec.ofInt w (2 ^ k-1)).toNat=(a % 2 ^ k).toNat:=by
 have h1:(0:Int)<=2 ^ k-1:=by have:=Int.pow_pos (n:=2) (m:=k) (by decide);omega
 rw[BitVec.toNat_and,jS h,jS ⟨h1,hk⟩]
 have e:((2:Int) ^ k-1).toNat=2 ^ k-1:=by
  have:(2:Int) ^ k=((2 ^ k:Nat):Int):=by push_cast;rfl
  rw[this];omega
 rw[e,Nat.and_two_pow_sub_one_eq_mod]
 obtain⟨n,rfl⟩:=Int.eq_ofNat_of_zero_le h.1
 have:((n:Int) % 2 ^ k)=((n % 2 ^ k:Nat):Int):=by push_cast;rfl
 rw[Int.toNat_natCast,this];exact(Int.toNat_natCast _).symm
theorem bJx {w k:Nat}{a b:Int}(ha:0<=a∧a<2 ^ w)(hb:0<=b∧b<2 ^ k)(hk:(2:Int) ^ k<=2 ^ w)(hm:a % 2 ^ k=0):(BitVec.ofInt w a ||| BitVec.ofInt w b).toNat=(a+b).toNat:=by
 rw[BitVec.toNat_or,jS ha,jS ⟨hb.1,by omega⟩]
 obtain⟨n,rfl⟩:=Int.eq_ofNat_of_zero_le ha.1
 obtain⟨m,rfl⟩:=Int.eq_ofNat_of_zero_le hb.1
 have hm':n % 2 ^ k=0:=by
  have:((n % 2 ^ k:Nat):Int)=0:=by rw[<-hm];push_cast;rfl
  omega
 have hb':m<2 ^ k:=by
  have:=hb.2
  have e:((2:Int) ^ k)=((2 ^ k:Nat):Int):=by push_cast;rfl
  rw[e]at this;omega
 obtain⟨c,rfl⟩:=Nat.dvd_of_mod_eq_zero hm'
 simp only[Int.toNat_natCast]
 rw[<-Nat.two_pow_add_eq_or_of_lt hb']
 omega
theorem bBq {k m:Nat}(h:k<=m):(2:Int) ^ k<=2 ^ m:=by
 have:=Nat.pow_le_pow_right (n:=2) (by decide) h
 exact_mod_cast this
theorem aH3 {k:Nat}{a m:Int}(h:0<=a∧a<=255)(hk:k<=8)(hm:m=2 ^ k-1):IntKind.u8.wrap (rE 8 a m)=a % 2 ^ k:=by
 subst hm
 have h2:(2:Int) ^ k<=2 ^ 8:=bBq hk
 have h3:(0:Int)<2 ^ k:=Int.pow_pos (by decide)
 have h4:=Int.emod_nonneg a (show(2:Int) ^ k≠0 by omega)
 have h5:=Int.emod_lt_of_pos a h3
 unfold rE
 rw[bBp (k:=k) ⟨h.1,by omega⟩ (by omega)]
 rw[aA5 (by omega)]
 omega
theorem aO1 {k:Nat}{a b:Int}(ha:0<=a∧a<=2147483647-2 ^ k)(hk:k<31)(hb:0<=b∧b<2 ^ k)(hm:a % 2 ^ k=0):IntKind.i32.wrap (bOr 32 a b)=a+b:=by
 have h2:(2:Int) ^ k<=2 ^ 31:=bBq (by omega)
 unfold bOr
 rw[bJx (k:=k) ⟨ha.1,by omega⟩ hb (by omega) hm]
 rw[aW (by omega)]
 omega
theorem aX {a:Int}(h:0<=a∧a<=255):IntKind.u8.wrap (rE 8 a 31)=a % 32:=aH3 (k:=5) h (by decide) (by decide)
theorem aY {a:Int}(h:0<=a∧a<=255):IntKind.u8.wrap (rE 8 a 15)=a % 16:=aH3 (k:=4) h (by decide) (by decide)
theorem bJ {a:Int}(h:0<=a∧a<=255):IntKind.u8.wrap (rE 8 a 7)=a % 8:=aH3 (k:=3) h (by decide) (by decide)
theorem aZ {a:Int}(h:0<=a∧a<=255):IntKind.u8.wrap (rE 8 a 63)=a % 64:=aH3 (k:=6) h (by decide) (by decide)
theorem bK {a b:Int}(ha:0<=a∧a<=1000000000∧a % 64=0)(hb:0<=b∧b<64):IntKind.i32.wrap (bOr 32 a b)=a+b:=aO1 (k:=6) ⟨ha.1,by have:=ha.2.1;omega⟩ (by decide) hb ha.2.2
theorem bA {a b:Int}(ha:0<=a∧a<=1000000000∧a % 4096=0)(hb:0<=b∧b<4096):IntKind.i32.wrap (bOr 32 a b)=a+b:=aO1 (k:=12) ⟨ha.1,by have:=ha.2.1;omega⟩ (by decide) hb ha.2.2
theorem bB {a b:Int}(ha:0<=a∧a<=1000000000∧a % 262144=0)(hb:0<=b∧b<262144):IntKind.i32.wrap (bOr 32 a b)=a+b:=aO1 (k:=18) ⟨ha.1,by have:=ha.2.1;omega⟩ (by decide) hb ha.2.2
theorem aH4 {a:Int}(h:0<=a∧a<=2147483647):IntKind.i32.wrap (tV 32 a 0)=a:=by
 have e:BitVec.ofInt 32 a &&& ~~~ BitVec.ofInt 32 0=BitVec.ofInt 32 a:=by
  have : ~~~ BitVec.ofInt 32 0=BitVec.allOnes 32:=by decide
  rw[this,BitVec.and_allOnes]
 unfold tV
 rw[e,jS ⟨h.1,by omega⟩,aW (by omega)]
 omega
theorem aH5 (a:Int):IntKind.i32.wrap (tV 32 a (-1))=0:=by
 have e:BitVec.ofInt 32 a &&& ~~~ BitVec.ofInt 32 (-1)=0#32:=by
  have : ~~~ BitVec.ofInt 32 (-1)=0#32:=by decide
  rw[this];simp
 unfold tV
 rw[e];decide
theorem bBr {env:Env}{S:aA}{cs:List IV}{n:Nat}{x:IV}(h:cs[n]? = some x):bL env S (.iv (.cp (cs.drop n))) 1=some [.iv x]:=by
 have hn:n<cs.length:=by
  rcases Nat.lt_or_ge n cs.length with h1|h1
  ·exact h1
  ·rw[List.getElem?_eq_none h1]at h;cases h
 rw[List.drop_eq_getElem_cons hn,aH2]
 rw[List.getElem?_eq_getElem hn]at h
 rw[Option.some.inj h]
theorem aFw {cs:List IV}{n:Nat}(h:n<=cs.length):dP (.iv (.cp cs)) n=some (.iv (.cp (cs.drop n))):=by
 simp only[dP,h,↓reduceIte]
end Go.TM
namespace Go.TM
theorem aDj {α:Type}{w:Nat}:∀ {l:List (List α)},(∀y∈l,y.length=w)->(cA l).length=l.length*w
 | [],_=>by simp[cA]
 | a::l,h=>by
  have h1:=h a (by simp)
  have h2:=aDj (l:=l) (fun y hy=>h y (by simp[hy]))
  simp only[cA,List.length_append,List.length_cons,h1,h2,Nat.add_mul]
  omega
theorem oV {α:Type}{w:Nat}:∀ {l:List (List α)},(∀y∈l,y.length=w)->eH w l.length (cA l)=l
 | [],_=>rfl
 | a::l,h=>by
  have h1:=h a (by simp)
  have h2:=oV (l:=l) (fun y hy=>h y (by simp[hy]))
  simp only[cA,List.length_cons,eH]
  rw[<-h1,List.take_left',List.drop_left',h1,h2]<;>rfl
theorem yO:∀(l:List IV),toIVs (l.map .iv)=some l
 | []=>rfl
 | a::l=>by rw[List.map_cons,aDb,aKs,yO l,aC8]
def fY:IV->Bool
 | .agg _=>false
 | _=>true
theorem tX:∀ {l:List IV},l.all fY=true->(l.map TV.iv).any cB=false
 | [],_=>rfl
 | a::l,h=>by
  simp only[List.all_cons,Bool.and_eq_true]at h
  simp only[List.map_cons,List.any_cons,tX h.2,Bool.or_false]
  cases a<;>first|rfl|simp[fY]at h
theorem aDk:∀ {l:List (List IV)},(∀y∈l,y.all fY=true)->(cA l).all fY=true
 | [],_=>rfl
 | a::l,h=>by
  simp only[cA,List.all_append,Bool.and_eq_true]
  exact⟨h a (by simp),aDk (fun y hy=>h y (by simp[hy]))⟩
theorem sW {w:Nat}:∀ {l:List (List IV)},(∀y∈l,y.length=w)->iE w l=true
 | [],_=>rfl
 | a::l,h=>by simp[iE,h a (by simp)]
theorem aH6 {α:Type}[Inhabited α]{w:Nat}{f:α->List IV}(hw:∀a,(f a).length=w){t:Tag}{l:List α}{i:Int}(h:0<=i∧i<l.length):indexAddrS w (.iv (.sl t (l.map f))) i=some (.iv (.cp (f (l.getD i.toNat default)))):=by
 refine sT h.1 ?_ (hw _)
 have:i.toNat<l.length:=by omega
 rw[List.getElem?_map,List.getElem?_eq_getElem this]
 simp[List.getD,List.getElem?_eq_getElem this]
theorem aLj (env:Env)(S:aA)(cs:List IV)(n:Nat):bL env S (.iv (.cp cs)) n=(sub cs 0 n).map (·.map .iv):=id rfl
theorem aDl {α:Type}{l:List α}{d:α}{i:Nat}(h:i<l.length):l.take (i+1)=l.take i++[l.getD i d]:=by
 rw[List.take_succ_eq_append_getElem h]
 simp[List.getD,List.getElem?_eq_getElem h]
def Pure (K:bV)(f:Nat)(ags:List TV)(v:TV):Prop:=∃r S,(lim K).call f ags []=.ret (r,S)∧resolve S r=some v
theorem bO {K:bV}{f:Nat}{ags:List TV}{v r:TV}{S:aA}(h:(lim K).call f ags []=.ret (r,S))(hr:resolve S r=some v):Pure K f ags v:=⟨r,S,h,hr⟩
theorem aF {K:bV}{f:Nat}{ags:List TV}{v:TV}(h:Pure K f ags v)(S:aA)(args:List TV):bFm S args ((lim K).call f ags [])=bFl S args (some v):=by
 obtain⟨r,S',h1,h2⟩:=h
 rw[h1,aLa,h2]
def bF0 (v:Option TV):Out TV:=match v with
 | some v=>.ret v
 | none => .fail ""
theorem aU8 (v:TV):bF0 (some v)=.ret v:=id rfl
def bJy (x:Out (TV×aA)):Out TV:=x.bind fun r=>bF0 (resolve r.2 r.1)
theorem bBs (r:TV)(S:aA):bJy (.ret (r,S))=bF0 (resolve S r):=id rfl
attribute [go_sem] aU8 bBs
theorem eM {K:bV}{f:Nat}{args:List TV}(fn:bE){v:TV}(hf:K.funcs f=some fn)(ha:args.length=fn.nparams)(h:bJy (aDd fn.results (go' K (lim K) fn.body [] (args++List.replicate (fn.nlocs-fn.nparams) undef) []))=.ret v):Pure K f args v:=by
 generalize hx:aDd fn.results (go' K (lim K) fn.body [] (args++List.replicate (fn.nlocs-fn.nparams) undef) [])=x at h
 cases x with
 | ret r =>
  obtain⟨r,S⟩:=r
  refine⟨r,S,aB K [] hf ha hx,?_⟩
  simp only[bJy,Out.bind,bF0]at h
  cases hr:resolve S r with
  | none=>rw[hr]at h;cases h
  | some u=>rw[hr]at h;cases h;rfl
 | fail s=>cases h
 | pick n k=>cases h
def cO (w:Nat)(l:List (List IV)):Prop:=∀y∈l,y.length=w∧y.all fY=true
theorem cO.map {α:Type}{w:Nat}{f:α->List IV}(h:∀a,(f a).length=w∧(f a).all fY=true)(l:List α):cO w (l.map f):=by
 intro y hy
 obtain⟨a,_,rfl⟩:=List.mem_map.1 hy
 exact h a
theorem cO.one {α:Type}{f:α->IV}(h:∀a,fY (f a)=true)(l:List α):cO 1 (one f l) :=
 cO.map (f:=fun a=>[f a]) (fun a=>⟨rfl,by simp[h a]⟩) l
def hP (S:aA)(x:TV)(ys:List (List IV)):Prop:=iR S x=some ((cA ys).map .iv)∧lenOf S x=some ys.length
theorem hP.sl (S:aA)(t:Tag)(ys:List (List IV)):hP S (.iv (.sl t ys)) ys:=⟨rfl,rfl⟩
theorem hP.tsl (S:aA)(j:Nat)(ys:List (List IV)):hP S (.tsl j ys) ys:=⟨rfl,rfl⟩
theorem cI {n b:Nat}(h:n*b<=35184372088832∧b<=1048576∧n<=35184372088832):fZ n b=true:=by
 simp[fZ,h]
theorem aDm {w b el i:Nat}{S:aA}{l ys:List (List IV)}{x:TV}(hx:hP S x ys)(hw:cO w ys)(hl:cO w l)(hS:S[i]? = some (.tok l.length w el))(hr:fZ (l.length+ys.length) b=true):
  bY false w b el S (.tsl i l) x=some (.tsl i (l++ys),S.set i (.tok (l.length+ys.length) w el)):=by
 obtain⟨h1,h2⟩:=hx
 have hf:=aDj (w:=w) (fun y hy=>(hw y hy).1)
 have ha:=tX (aDk (fun y hy=>(hw y hy).2))
 simp only[bY,h1,h2,List.length_map,hf,ne_eq,not_true_eq_false,ha,Bool.false_eq_true,or_self,↓reduceIte]
 by_cases hm:ys.length=0
 ·have:ys=[]:=List.eq_nil_of_length_eq_zero hm
  subst this
  simp only[hm,↓reduceIte,aMn,List.append_nil,Nat.add_zero]
  have hi:i<S.length:=by
   rcases Nat.lt_or_ge i S.length with h3|h3
   ·exact h3
   ·rw[List.getElem?_eq_none h3]at hS;cases hS
  rw[List.getElem?_eq_getElem hi]at hS
  have e:S.set i (.tok l.length w el)=S:=by rw[<-Option.some.inj hS];exact List.set_getElem_self hi
  simp[e]
 ·simp only[hm,↓reduceIte,hS,yO,sW (fun y hy=>(hl y hy).1),hr,decide_true,Bool.and_self,oV (fun y hy=>(hw y hy).1)]
theorem qV {w b el:Nat}{S:aA}{t:Tag}{l ys:List (List IV)}{x:TV}(ht:t≠.no)(hx:hP S x ys)(hw:cO w ys)(hl:cO w l)(h0:ys≠[])(hr:fZ (l.length+ys.length) b=true):
  bY false w b el S (.iv (.sl t l)) x=some (.tsl S.length (l++ys),S++[.tok (l.length+ys.length) w el]):=by
 obtain⟨h1,h2⟩:=hx
 have hf:=aDj (w:=w) (fun y hy=>(hw y hy).1)
 have ha:=tX (aDk (fun y hy=>(hw y hy).2))
 have hm:¬ys.length=0:=fun e=>h0 (List.eq_nil_of_length_eq_zero e)
 have ht':(t==.no)=false:=by cases t<;>first|rfl|exact absurd rfl ht
 simp only[bY,h1,h2,List.length_map,hf,ne_eq,not_true_eq_false,ha,Bool.false_eq_true,or_self,↓reduceIte,hm,ht',sW (fun y hy=>(hl y hy).1),hr,Bool.not_true,Bool.or_self,yO,oV (fun y hy=>(hw y hy).1)]
theorem sX {mu:Bool}{w b el:Nat}{S:aA}{s x:TV}(hs:aMn s=true)(hx:hP S x []):bY mu w b el S s x=some (s,S):=by
 obtain⟨h1,h2⟩:=hx
 simp[bY,h1,h2,cA,hs]
def acc (i:Nat)(l:List (List IV)):TV:=if l=[]then .iv (.sl .nil [])else .tsl i l
theorem fG (i:Nat):acc i []=.iv (.sl .nil []):=by simp[acc]
theorem bBt (i:Nat)(a:List IV)(l:List (List IV)):acc i (a::l)=.tsl i (a::l):=by simp[acc]
theorem dE (i:Nat){l:List (List IV)}(h:l≠[]):acc i l=.tsl i l:=by simp[acc,h]
def qW (w el:Nat)(l:List (List IV)):aA:=if l=[]then []else [.tok l.length w el]
theorem kQ (w el:Nat):qW w el []=[]:=by simp[qW]
theorem tY (w el:Nat){l:List (List IV)}(h:l≠[]):qW w el l=[.tok l.length w el]:=by simp[qW,h]
theorem bJz {w b el:Nat}{l ys:List (List IV)}{x:TV}(hx:∀S,hP S x ys)(hw:cO w ys)(hl:cO w l)(hr:fZ (l.length+ys.length) b=true):
  bY false w b el (qW w el l) (acc 0 l) x=some (acc 0 (l++ys),qW w el (l++ys)):=by
 by_cases h:l=[]
 ·subst h
  by_cases h0:ys=[]
  ·subst h0
   rw[fG,kQ,sX rfl (hx _)];rfl
  ·rw[fG,kQ,qV (by decide) (hx _) hw hl h0 hr,List.nil_append,dE _ h0,tY _ _ h0]
   simp
 ·have h2:l++ys≠[]:=by simp[h]
  rw[dE _ h,tY _ _ h,aDm (hx _) hw hl rfl hr,dE _ h2,tY _ _ h2]
  simp
theorem oA (S:aA)(i:Nat)(l:List (List IV)):aC2 .sl S (acc i l)=some (.iv (.int .i64 l.length)):=by
 unfold acc;split
 ·rename_i h;subst h;rfl
 ·rfl
def nG {α:Type}(l:List α):Tag:=match l with
 | []=>.nil
 | _=>.no
theorem sY {α β:Type}(f:α->β)(l:List α):nG (l.map f)=nG l:=by cases l<;>rfl
theorem aU9 (S:aA)(i:Nat)(l:List (List IV)):aGp S (acc i l)=some (.sl (nG l) l):=by cases l<;>rfl
theorem xG (S:aA)(i:Nat)(l:List (List IV)):lZ S (acc i l)=some (.iv (.sl (nG l) l)):=by cases l<;>rfl
theorem aA6 {w b el:Nat}{l:List (List IV)}{t:Tag}{c:List IV}(hc:c.length=w∧c.all fY=true)(hl:cO w l)(hr:fZ (l.length+1) b=true):
  bY false w b el (qW w el l) (acc 0 l) (.iv (.sl t [c]))=some (acc 0 (l++[c]),qW w el (l++[c])) :=
 bJz (fun S=>hP.sl S t [c]) (by intro y hy;simp at hy;subst hy;exact hc) hl hr
theorem bF1 {w b el:Nat}(B:aP){l ys:List (List IV)}{x:TV}(hx:∀S,hP S x ys)(hw:cO w ys)(hl:cO w l)(hr:fZ (l.length+ys.length) b=true):
  bY false w b el (B::qW w el l) (acc 1 l) x=some (acc 1 (l++ys),B::qW w el (l++ys)):=by
 by_cases h:l=[]
 ·subst h
  by_cases h0:ys=[]
  ·subst h0
   rw[fG,kQ,sX rfl (hx _)];rfl
  ·rw[fG,kQ,qV (by decide) (hx _) hw hl h0 hr,List.nil_append,dE _ h0,tY _ _ h0]
   simp
 ·have h2:l++ys≠[]:=by simp[h]
  rw[dE _ h,tY _ _ h,aDm (hx _) hw hl rfl hr,dE _ h2,tY _ _ h2]
  simp
theorem bBu {w b el:Nat}(B:aP){l:List (List IV)}{t:Tag}{c:List IV}(hc:c.length=w∧c.all fY=true)(hl:cO w l)(hr:fZ (l.length+1) b=true):
  bY false w b el (B::qW w el l) (acc 1 l) (.iv (.sl t [c]))=some (acc 1 (l++[c]),B::qW w el (l++[c])) :=
 bF1 B (fun S=>hP.sl S t [c]) (by intro y hy;simp at hy;subst hy;exact hc) hl hr
theorem aVa (env:Env)(s:List UInt8)(pos:Nat)(R:aA):aZm env (.sit s pos::R) (.it 0)=if pos<s.length then some (.tup [.iv (.bool true),.iv (.int .i64 pos),.iv (.int .i32 (Utf8.decode ⟨s.toArray⟩ pos).1)],env,.sit s (pos+(Utf8.decode ⟨s.toArray⟩ pos).2)::R)else some (.tup [.iv (.bool false)],env,.sit s pos::R):=id rfl
attribute [go_sem] aVa
theorem bF2 (K:bV)(O:Orc)(j i':Nat)(l:List (List IV))(ops:List aM)(i:Nat)(M:List (Nat×TV))(n:Nat)(fs:List Fr)(env:Env)(S:aA):aHv K O (acc i' l) j ops i M n fs env S=xE K O ops (i+1) M n fs (env.set j (acc i' l)) S:=by
 unfold acc;split
 ·exact aQ3 K O ops i M n fs env S _ j
 ·exact aK2 K O ops i M n fs env S _ _ j
theorem aO2 (i:Nat)(l:List (List IV)):kF (acc i l)=.iv (.sl (nG l) l):=by cases l<;>rfl
theorem aO3 (i:Nat)(l:List (List IV)):uF (acc i l)=false:=by cases l<;>rfl
theorem bBv (j i:Nat)(l:List (List IV)):aAg j (acc i l)=acc i l:=by unfold acc;split<;>rfl
theorem bBw (i:Nat)(l:List (List IV)):eE (acc i l)=false:=by unfold acc;split<;>rfl
theorem bBx (i:Nat)(l:List (List IV)):bAg (acc i l)=some (acc i l):=by unfold acc;split<;>rfl
attribute [go_sem] aU9 xG bF2 aO2 aO3 bBv bBw bBx oA
end Go.TM
namespace Go.TM
open Go Go.ChangeShapes Go.WideShapes Go.RowKit
variable {P:Program}{H:Type}{enc:TypeId×Value->H}{W:World}
def oW (P:Program){H:Type}:List TypeId->List (DataW H)->List (List IV)->Prop
 | [],[],[]=>True
 | t::ts,d::ds,l::ls=>Ty P t d l∧oW P ts ds ls
 | _,_,_=>False
def aH7 (P:Program):List TypeId->List (List IV)->List TV
 | t::ts,l::ls=>aFl P t l::aH7 P ts ls
 | _,_=>[]
theorem aQ5 {ts:List TypeId}(hts:aSb P ts=true){r:Reach}{b base:Nat}{held:Bool}:∀ {params:List TypeId} {vals:List Value} {ds:List (DataW H)} {ps:List MemPlace},(∀t∈params,t∈ts)->(∀(j:Nat) t v,params[j]? = some t->vals[j]? = some v->Value.okWide P W r b t v) ->
  DataW.TrodAll enc P W base (fun _=>true) held params vals ds ps->∃ls,oW P params ds ls∧VRs (eV W) [] [] (aH7 P params ls) vals
 | [],vals,ds,ps,_,_,h=>by
  obtain⟨rfl,rfl,rfl⟩:=trodAll_nil h
  exact⟨[],trivial,VRs.nil⟩
 | t::params,vals,ds,ps,hp,hv,h=>by
  obtain⟨v,vs',d,ds',p,q,rfl,rfl,rfl,h1,h2⟩:=trodAll_cons h
  obtain⟨l,k1,k2⟩:=bIx hts (hp t (by simp)) (hv 0 t v rfl rfl) h1
  obtain⟨ls,k3,k4⟩:=aQ5 hts (fun u hu=>hp u (by simp[hu])) (fun j u w hu hw=>hv (j+1) u w (by simpa using hu) (by simpa using hw)) h2
  exact⟨l::ls,⟨k1,k3⟩,VRs.cons k2 k4⟩
theorem bF3 {t:TypeId}{d:DataW H}{l:List IV}(hu:P.underlying t=some .bool)(h:Ty P t d l):∃b,l=[.bool b]:=by
 cases h with
 | bool u ht b=>exact⟨b,rfl⟩
 | int u k ht=>rw[hu]at ht;cases ht
 | str u ht=>rw[hu]at ht;cases ht
 | nilp u e ht=>rw[hu]at ht;cases ht
 | ptr u e ht=>rw[hu]at ht;cases ht
 | nils u e ht=>rw[hu]at ht;cases ht
 | sl u e ht=>rw[hu]at ht;cases ht
 | struct u fs ht=>rw[hu]at ht;cases ht
 | array u e n ht=>rw[hu]at ht;cases ht
theorem aVb {t:TypeId}{l:List IV}(h:(match P.underlying t with|some (.struct _)|some (.array _ _)=>true|_=>false)=true):aFl P t l=.iv (.agg l):=by
 unfold aFl
 split
 ·rfl
 ·rfl
 ·rename_i h1 h2
  split at h
  ·rename_i e;exact absurd e (h1 _)
  ·rename_i e;exact absurd e (h2 _ _)
  ·cases h
theorem tZ {ds:List (DataW H)}{ls:List (List IV)}(h:oW P [] ds ls):ls=[]:=by
 cases ds<;>cases ls<;>first|rfl|exact h.elim
theorem aO4 {P:Program}{ts:Array TypeId}{q:TypeId->Bool}(h:ts.toList.all (fun t=>!(q t))=true)(j:Nat)(t:TypeId)(ht:ts[j]? = some t):q t=false:=by
 have:=List.all_eq_true.1 h t (Array.mem_toList_iff.2 (Array.mem_of_getElem? ht))
 simpa using this
theorem oB {ds:List (DataW H)}{ls:List (List IV)}(h:oW P [] ds ls):ds=[]:=by
 cases ds<;>cases ls<;>first|rfl|exact h.elim
theorem aLk {t:TypeId}{ts:List TypeId}{ds:List (DataW H)}{ls:List (List IV)}(h:oW P (t::ts) ds ls):∃(d:DataW H) (l:List IV) (ds':List (DataW H)) (ls':List (List IV)),ds=d::ds'∧ls=l::ls'∧oW P ts ds' ls':=by
 cases ds with
 | nil=>cases ls<;>exact h.elim
 | cons d ds =>
  cases ls with
  | nil=>exact h.elim
  | cons l ls=>exact⟨d,l,ds,ls,rfl,rfl,h.2⟩
theorem aDn {O:dM}{K:TM.bV}(hk:KOK P O K){f:Nat}{args:List TV}(h:((lim K).call f args []).All fun r=>r.1=.iv (.bool true)){vals:Array Value}(hv:VRs (eV W) [] [] args vals.toList)(hg:qO K (eV W)):
  Calls P f vals W fun e W'=>e=.returned (.bool true)∧Below W.heap.size W W':=by
 obtain⟨n,hn⟩:=bD7 (K:=K) (f:=f) (a:=args) (S:=[]) h
 exact aSd hk hn hv hg
end Go.TM
namespace Go.TM
section
variable (K:bV)(O:Orc)(i:Nat)(k:Kt)(M:List (Nat×TV))(n:Nat)(fs:List Fr)(env:Env)(S:aA)
def cvA (O:Orc)(c:Bool)(S:aA)(g:Nat)(ags:List TV):Out (TV×aA):=if c then aT5 O S ags g (dV S ags)else aT6 O false S g (ags.any eE) ags
theorem bBy (g:Nat)(ags:List TV):cvA O true S g ags=aT5 O S ags g (dV S ags):=by simp only[cvA,↓reduceIte]
theorem aVc (g:Nat)(ags:List TV):cvA O false S g ags=aT6 O false S g (ags.any eE) ags:=by simp only[cvA,Bool.false_eq_true,↓reduceIte]
def bBz (O : Orc) (S : aA) (j : Nat) (lp : Bool) (ags : List TV) : Out (TV × aA) := if lp then .fail "" else er (O.yld j ags S)
theorem bF4 (j:Nat)(ags:List TV):bBz O S j false ags=er (O.yld j ags S):=by simp only[bBz,Bool.false_eq_true,↓reduceIte]
def opF (f:TV)(ags:List TV)(i:Nat)(k:Kt)(M:List (Nat×TV))(n:Nat)(fs:List Fr)(env:Env)(S:aA):TT (Out (bR×Env×aA)) (i,k,M,n,fs,env,S) :=
 match f with
 | .fn g a b=>aAk K O (cvA O ((a++ags++b).all aBx) S g (a++ags++b)) i k M n fs env
 | .yld j=>aAk K O (bBz O S j (ags.any eE) ags) i k M n fs env
 | _ => (.fail "" : Out (bR × Env × aA))
theorem bJ0 (g:Nat)(a b ags:List TV):opF K O (.fn g a b) ags i k M n fs env S=aAk K O (cvA O ((a++ags++b).all aBx) S g (a++ags++b)) i k M n fs env:=rfl
theorem bF5 (j:Nat)(ags:List TV):opF K O (.yld j) ags i k M n fs env S=aAk K O (bBz O S j (ags.any eE) ags) i k M n fs env:=rfl
theorem aVd (f:aE)(args:List aE):eW K O (.callv f args) i k M n fs env S=opF K O (cM K n env M f) (args.map (cM K n env M)) i k M n fs env S:=by
 unfold eW cM
 simp only[op1,cN]
 show er (Out.bind (match opv K n env M f with
  | .fn g a b=>Out.bind (if(a++args.map (opv K n env M)++b).all aBx then eX O g (a++args.map (opv K n env M)++b) S else iZ O false g (a++args.map (opv K n env M)++b) S) fun r=>.ret (r.1,env,r.2)
  | .yld j => if (args.map (opv K n env M)).any eE then .fail "yield: a local's address" else Out.bind (O.yld j (args.map (opv K n env M)) S) fun r => .ret (r.1, env, r.2)
  | _ => .fail "callv") _) = _
 cases opv K n env M f with
 | fn g a b =>
  simp only[opF,cvA,Out.bind_assoc,Out.bind]
  split
  ·unfold aAk aT5
   rw[<-zX,<-aC7]
  ·unfold aAk aT6
   rw[<-aFs,<-aC7]
 | yld j =>
  simp only[opF,bBz]
  split
  ·unfold aAk;rfl
  ·unfold aAk
   rw[<-aC7]
   simp only[Out.bind_assoc,Out.bind]
 | _=>rfl
end
theorem bF6 (v:IV):aBx (.iv v)=true:=id rfl
theorem bB0 (a b c:Nat):aBx (.ptr a b c)=false:=id rfl
theorem bB1 (f:Nat)(a b:List TV):aQz f a b=if(a++b).any eE=true then none else some (.fn f a b):=id rfl
theorem bF7 (t m:Nat)(v:TV):bJe t m v=if(cellsOf v).any cB=true then none else some (.ptr m t 0,.cells t false (cellsOf v)):=id rfl
attribute [go_sem] bBy aVc bF4 bJ0 bF5 aVd bF6 bB0 bB1 bF7
end Go.TM
namespace Go.TM
open Go
end Go.TM
namespace Go.TM
section
variable (K:bV)(O:Orc)(fs:List Fr)(env:Env)(S:aA)
def rfB (K:bV)(O:Orc)(n:Nat)(env:Env)(fs:List Fr)(S:aA):Option aP->Out (bR×Env×aA)
 | some (.lp .busy ..) => .fail ""
 | some (.lp _ pend env' ps a b)=>bk K O fs (pend.getD .normal) env (S.set n (.lp .exhausted pend env' ps a b))
 | _ => .fail ""
def rfR (K:bV)(O:Orc)(n:Nat)(env:Env)(fs:List Fr)(x:Out (TV×aA)):TT (Out (bR×Env×aA)) (n,env,fs) :=
 (er x).bind fun r=>rfB K O n env fs r.2 (r.2[n]?)
def rfF (K:bV)(O:Orc)(v:TV)(ps:List Nat)(a b:aQ)(fs:List Fr)(env:Env)(S:aA):TT (Out (bR×Env×aA)) (ps,a,b,fs,env,S) :=
 match v with
 | .fn k fst cap=>rfR K O S.length env fs (O.call k (fst++.yld S.length::cap) (S++[.lp .ready none (env.map noLb) ps a b]))
 | _ => (.fail "" : Out (bR × Env × aA))
theorem bB2 (k:Nat)(fst cap:List TV)(ps:List Nat)(a b:aQ):rfF K O (.fn k fst cap) ps a b fs env S=rfR K O S.length env fs (O.call k (fst++.yld S.length::cap) (S++[.lp .ready none (env.map noLb) ps a b])):=id rfl
theorem bF8 (n:Nat)(v:TV)(S':aA):rfR K O n env fs (.ret (v,S'))=rfB K O n env fs S' (S'[n]?):=id rfl
theorem aVe (n:Nat)(e':Env)(ps:List Nat)(a b:aQ):rfB K O n env fs S (some (.lp .ready none e' ps a b))=bk' K O fs .normal env (S.set n (.lp .exhausted none e' ps a b)):=by unfold bk';exact id rfl
theorem go_rangeFunc (f:aE)(ps:List Nat)(a b:aQ):go' K O (.rangeFunc f ps a b) fs env S=rfF K O (cM K 0 env [] f) ps a b fs env S:=by
 unfold go' cM
 simp only[go,fD,rfF,opv,dH,List.range_zero,List.map_nil]
 cases bH K env [] f with
 | fn k fst cap =>
  simp only[Out.bind_assoc]
  unfold rfR
  rw[gQ]
  refine Out.bind_congr fun r=>?_
  cases hx:r.2[S.length]? with
  | none=>rfl
  | some B =>
   cases B with
   | lp st pend e' ps' a' b'=>cases st<;>rfl
   | _=>rfl
 | _=>rfl
end
theorem bF9 (cs:List TV):noLb (.lb cs)=.hole:=id rfl
theorem bGa (v:IV):noLb (.iv v)=.iv v:=id rfl
theorem bB3 (a b c:Nat):noLb (.ptr a b c)=.ptr a b c:=id rfl
theorem bB4 (a:Nat)(l:List (List IV)):noLb (.tsl a l)=.tsl a l:=id rfl
theorem bGb (f:Nat)(a b:List TV):noLb (.fn f a b)=.fn f a b:=id rfl
theorem bB5 (l:List TV):noLb (.tup l)=.tup l:=id rfl
attribute [go_sem] bB2 bF8 aVe go_rangeFunc bF9 bGa bB3 bB4 bGb bB5
attribute [irreducible] rfR rfF
theorem go_exec {K:bV}{O:Orc}{c:aQ}{env:Env}{S:aA}{r:bR×Env×aA}(h:go' K O c [] env S=.ret r):fD K O c env S=.ret r:=by
 unfold go' at h
 simp only[go]at h
 have h1:=aYp h
 cases hx:fD K O c env S with
 | ret q=>rw[hx]at h1;simpa[Out.bind,back] using h1
 | fail s=>rw[hx]at h1;cases h1
 | pick n k=>rw[hx]at h1;cases h1
theorem aDo {K:bV}{i:Nat}{args:List TV}{S S1 S2:aA}{st:LoopState}{p p2 p3:Option bR}{st3:LoopState}{env env1 env2 env3 e2 e3:Env}{ps ps2 ps3:List Nat}{a b a2 b2 a3 b3:aQ}
  (h:S[i]? = some (.lp st p env ps a b)) (hs:rX env ps args=some env1) (h1:go' K (lim K) a [] env1 S=.ret (.normal,env2,S1)) (h2:S1[i]? = some (.lp .ready p2 e2 ps2 a2 b2))
  (h3:go' K (lim K) b [] env2 (S1.set i (.lp .busy p2 e2 ps2 a2 b2))=.ret (.normal,env3,S2)) (h4:S2[i]? = some (.lp st3 p3 e3 ps3 a3 b3)):
  (lim K).yld i args S=.ret (.iv (.bool true),S2.set i (.lp .ready none e3 ps3 a3 b3)):=by
 refine bD6 ?_
 have e1:=go_exec h1
 have e3:=go_exec h3
 simp only[iT,h,hs,e1,Out.bind,h2,e3,h4]
end Go.TM
namespace Go.TM
section
variable {K:bV}{O:Orc}{i:Nat}{k:Kt}{M:List (Nat×TV)}{n:Nat}{fs:List Fr}{env:Env}{S:aA}{rs:List nT}{b:aQ}
end
end Go.TM
