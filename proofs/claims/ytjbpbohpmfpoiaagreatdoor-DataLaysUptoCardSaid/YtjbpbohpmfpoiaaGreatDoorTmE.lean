/- A part of the evaluator TM, and of the proof that what it computes the model does. Condition: none. -/
import Derived.Test.YtjbpbohpmfpoiaaGreatDoorTmD
set_option linter.unusedVariables false
set_option linter.unusedSimpArgs false
set_option maxRecDepth 100000
namespace Go.TM
section
variable (K:bI)(O:Orc)(i:Nat)(k:Kt)(M:List (Nat×TV))(n:Nat)(fs:List Fr)(env:Env)(S:aA)
theorem gC {o:TOp}(h:cA o=0):op1 K O o i k M n fs env S=opV K O (aO o (opv K n env M)) i k M n fs env S:=by
 have e:(fun x=>aY K env (cW M n) x)=opv K n env M:=rfl
 simp only[op1,ec0 K O env _ S o h]
 show er ((Out.need _ (aO o (opv K n env M)) _).bind _)=_
 cases aO o (opv K n env M) with
 | some v=>simp only[Out.need,Out.bind,opV]; cases k<;>simp only[gB,rgR,fls,chk,rD]<;>(try split)<;>simp only[rD,er]
 | none=>rfl
theorem jW:er (gB K O k M n fs env S)=gB K O k M n fs env S:=by
 cases k<;>simp only[gB,rgR,fls,chk,rD]<;>(try split)<;>simp only[rD,er]
theorem vA {o:TOp}(h:cA o=1):op1 K O o i k M n fs env S=opV K O (aL o (opv K n env M) env S) i k M n fs env S:=by
 simp only[op1,ec1 K O env _ S o h]
 show er ((Out.need _ (aL o (opv K n env M) env S) _).bind _)=_
 cases aL o (opv K n env M) env S with
 | some v=>simp only[Out.need,Out.bind,opV,jW]
 | none=>rfl
theorem aEb {o:TOp}(h:cA o=2):op1 K O o i k M n fs env S=opA K O (bM o (opv K n env M) S.length) i k M n fs env S:=by
 simp only[op1,kI K O env _ S o (by omega)]
 have p:∀e,aO o e=none:=by intro e; cases o<;>first|rfl|simp[cA]at h
 have r:∀e,aL o e env S=none:=by intro e; cases o<;>first|rfl|simp[cA]at h
 have s:∀e rs,fO o e rs env S=none:=by intro e rs; cases o<;>first|rfl|simp[cA]at h
 simp only[gR,gI,p,r,s]
 show er ((Out.ofOpt _ (match bM o (opv K n env M) S.length with|some (v,b)=>some (v,env,S++[b])|none=>none)).bind _)=_
 cases bM o (opv K n env M) S.length with
 | some v=>simp only[Out.ofOpt,Out.bind,opA,jW]
 | none=>rfl
theorem pJ {o:TOp}(h:cA o=3)(hb:o≠.bad):op1 K O o i k M n fs env S=opE K O (fO o (opv K n env M) (cW M n) env S) i k M n fs:=by
 simp only[op1,kI K O env _ S o (by omega)]
 have p:∀e,aO o e=none:=by intro e; cases o<;>first|rfl|simp[cA]at h
 have r:∀e,aL o e env S=none:=by intro e; cases o<;>first|rfl|simp[cA]at h
 have s:∀e n,bM o e n=none:=by intro e n; cases o<;>first|rfl|simp[cA]at h
 simp only[gR,gI,p,r,s]
 show er ((Out.ofOpt _ (fO o (opv K n env M) (cW M n) env S)).bind _)=_
 cases fO o (opv K n env M) (cW M n) env S with
 | some v=>simp only[Out.ofOpt,Out.bind,opE,jW]
 | none=>rfl
def xtr (j:Nat):TV→Option TV
 | .tup vs=>vs[j]?
 | _=>none
theorem bBl (j:Nat)(vs:List TV):xtr j (.tup vs)=vs[j]? := id rfl
def bBm (v:TV):Option TV:=if vH v then some v else none
theorem aVs (a b c:Nat):bBm (.ptr a b c)=some (.ptr a b c):=id rfl
def ivO (x:Option IV):Option TV:=x.map .iv
theorem aVt (x:IV):ivO (some x)=some (.iv x):=id rfl
def eqV (neg:Bool)(x:Option Bool):Option TV:=x.map fun b=>.iv (.bool (if neg then !b else b))
theorem bHh (x:Bool):eqV false (some x)=some (.iv (.bool x)):=id rfl
def bFx (x:Option Nat):Option TV:=x.map fun (m:Nat)=>.iv (.int .i64 m)
def mP (ag:Bool)(x:Option (List TV)):Option TV:=match x with
 | some cs=>fL ag cs
 | none=>none
theorem aJ1 (ag:Bool)(l:List TV):mP ag (some l)=fL ag l:=id rfl
theorem aJ2 (v:TV):fL false [v]=some v:=id rfl
theorem aJ3 (l:List TV):fL true l=some (nS l):=id rfl
def bBn (off n:Nat)(x:Option (List TV)):Option (List TV):=match x with
 | some all=>sub all off n
 | none=>none
def ixS (es:Nat)(x i:TV):Option TV:=match fW i with
 | some n=>indexAddrS es x n
 | none=>none
theorem bBo (es:Nat)(x:TV)(kd:IntKind)(m:Int):ixS es x (.iv (.int kd m))=indexAddrS es x m:=id rfl
def ixA (len es:Nat)(x i:TV):Option TV:=match fW i with
 | some n=>if 0≤n∧n<len then dL x (n.toNat*es) else none
 | none=>none
theorem aNf (len es:Nat)(x:TV)(kd:IntKind)(m:Int):ixA len es x (.iv (.int kd m))=if 0≤m∧m<len then dL x (m.toNat*es) else none:=id rfl
def tU (x i:TV):Option TV:=match x,fW i with
 | .iv (.str s),some n=>if 0≤n then (s[n.toNat]?).map fun b=>.iv (.int .u8 b.toNat) else none
 | _,_=>none
theorem aCj (s:List UInt8)(kd:IntKind)(m:Int):tU (.iv (.str s)) (.iv (.int kd m))=if 0≤m then (s[m.toNat]?).map fun b=>.iv (.int .u8 b.toNat) else none:=id rfl
def oI:Option TV→Option (Option Int)
 | none=>some none
 | some x=>(fW x).map some
theorem bBp:oI none=some none:=id rfl
theorem bBq (kd:IntKind)(m:Int):oI (some (.iv (.int kd m)))=some (some m):=id rfl
def slV (S:aA)(sk:SK)(x:TV)(lo hi mx:Option (Option Int)):Option TV:=match lo,hi,mx with
 | some lo,some hi,some mx=>dE S sk x lo hi mx
 | _,_,_=>none
theorem aVu (sk:SK)(x:TV)(lo hi mx:Option Int):slV S sk x (some lo) (some hi) (some mx)=dE S sk x lo hi mx:=id rfl
def aEc (kd:NK)(S:aA)(v:TV):Option TV:=if aDh v=kd then bFx (lenOf S v) else none
theorem aVv (s:List UInt8):aEc .str S (.iv (.str s))=some (.iv (.int .i64 s.length)):=id rfl
theorem bBr (t:Tag)(l:List (List IV)):aEc .sl S (.iv (.sl t l))=some (.iv (.int .i64 l.length)):=id rfl
def bsV (x:Option (List (List IV))):Option TV:=match x with
 | some l=>(iC l).map fun b=>.iv (.str b)
 | none=>none
theorem aVw (l:List (List IV)):bsV (some l)=(iC l).map fun b=>.iv (.str b):=id rfl
theorem nW:∀(l:List UInt8),iC (aN l)=some l
 | []=>rfl
 | b::l=>by
  have h:=nW l
  simp only[aN,List.map_cons,iC,aI5]at h ⊢
  rw[h]
  simp
def mkV (z:List IV)(bytes m:Nat)(l c:TV):Option (TV×bG):=match fW l,fW c with
 | some l,some c =>
  if 0≤l∧l≤c∧fQ c.toNat bytes=true then
   some (.msl m 0 0 l.toNat c.toNat z.length,.cells 0 false (bS (List.replicate c.toNat (z.map .iv))))
  else none
 | _,_=>none
theorem bBs (z:List IV)(bytes m:Nat)(k1 k2:IntKind)(l c:Int)(h:0≤l∧l≤c∧fQ c.toNat bytes=true):mkV z bytes m (.iv (.int k1 l)) (.iv (.int k2 c))=some (.msl m 0 0 l.toNat c.toNat z.length,.cells 0 false (bS (List.replicate c.toNat (z.map .iv)))):=by
 simp only[mkV,fW,h,and_self,↓reduceIte]
def aVx (x:Option (List (List TV))):Option TV:=match x with
 | some es=>(iE es).map fun l=>.iv (.sl .full l)
 | none=>none
def aEd (m w:Nat)(x:Option (List (List TV))):Option (TV×bG):=match x with
 | some es=>some (.msl m 0 0 es.length es.length w,.cells 0 false (bS es))
 | none=>none
theorem aOx (m w:Nat)(es:List (List TV)):aEd m w (some es)=some (.msl m 0 0 es.length es.length w,.cells 0 false (bS es)):=id rfl
def mmV (mx:Bool)(l:List TV):Option TV:=match l with
 | .iv a::r=>(minmax mx a r).map .iv
 | _=>none
def vB (w:Nat)(env:Env)(S:aA)(a v:TV):Option (TV×Env×aA) :=
 if (cellsOf v).length=w then match setCells env S a (cellsOf v) with
   | some (env,S)=>some (undef,env,S)
   | none=>none
  else none
def zZ (x:Option (Env×aA)):Option (TV×Env×aA):=match x with
 | some (env,S)=>some (undef,env,S)
 | none=>none
theorem aG4:zZ (some (env,S))=some (undef,env,S):=id rfl
theorem bFy {α:Type}{p:Prop}[Decidable p]{x y z:Out α}(h:p→x=z)(g:¬p→y=z):br (decide p) x y=z:=by
 by_cases hp:p
 ·simp only[hp,decide_true,qG]; exact h hp
 ·simp only[hp,decide_false,mO]; exact g hp
theorem bFz {α:Type}{a b:Int}{x y z:Out α}(h:a=b→x=z)(g:a≠b→y=z):br (a==b) x y=z:=by
 by_cases hp:a=b
 ·simp only[hp,beq_self_eq_true,qG]; exact h hp
 ·simp only[beq_eq_false_iff_ne.2 hp,mO]; exact g hp
theorem bF0 {α:Type}{a b:Int}{x y z:Out α}(h:a≠b→x=z)(g:a=b→y=z):br (a != b) x y=z:=by
 by_cases hp:a=b
 ·simp only[hp,bne_self_eq_false,mO]; exact g hp
 ·simp only[bne_iff_ne.2 hp,qG]; exact h hp
theorem aOy (w:Nat)(a v:TV)(h:(cellsOf v).length=w):vB w env S a v=zZ (setCells env S a (cellsOf v)):=by
 simp only[vB,h,↓reduceIte,zZ]
def bIf (env:Env)(x:Option (TV×aA)):Option (TV×Env×aA):=match x with
 | some (v,S)=>some (v,env,S)
 | none=>none
theorem aG5 (x:Option (TV×aA)):opE K O (bIf env x) i k M n fs=opS K O x i k M n fs env:=by
 cases x<;>rfl
def aNg (f:Nat)(a b:List TV):Option TV:=if (a++b).any dQ then none else some (.fn f a b)
def aVy (env:Env)(S:aA)(v:TV):Option (TV×Env×aA):=match v with
  | .it j=>match S[j]? with
   | some (.sit s pos) =>
    if pos<s.length then
     let (c,width):=Utf8.decode ⟨s.toArray⟩ pos
     some (.tup [.iv (.bool true),.iv (.int .i64 pos),.iv (.int .i32 c)],env,S.set j (.sit s (pos+width)))
    else some (.tup [.iv (.bool false)],env,S)
   | _=>none
  | _=>none
def aJ4 (str:Bool)(env:Env)(S:aA)(v:TV):Option (TV×Env×aA):=match str,v with
  | true,.iv (.str s)=>some (.it S.length,env,S++[.sit s 0])
  | false,.iv .nilm=>some (.it S.length,env,S++[.mit none 0 [] 0])
  | false,.map j=>match S[j]? with
   | some (.mp _ clock)=>some (.it S.length,env,S++[.mit (some j) clock [] clock])
   | _=>none
  | _,_=>none
theorem aJ5 (s:List UInt8):aJ4 true env S (.iv (.str s))=some (.it S.length,env,S++[.sit s 0]):=id rfl
theorem bBt (x:aF):op1 K O (.mov x) i k M n fs env S=opV K O (some (opv K n env M x)) i k M n fs env S:=gC K O i k M n fs env S (id rfl)
theorem aVz (c a b:aF):op1 K O (.pick c a b) i k M n fs env S=opP K O (opv K n env M c) (opv K n env M a) (opv K n env M b) i k M n fs env S:=by
 rw[gC K O i k M n fs env S rfl]
 simp only[aO,opP]
 cases opv K n env M c with
 | iv v =>
  cases v with
  | bool t=>cases t<;>rfl
  | _=>rfl
 | _=>rfl
theorem aOz (z:List IV)(ps:List (Nat×Nat×aF)):op1 K O (.build z ps) i k M n fs env S=opV K O ((fill (z.map .iv) (opv K n env M) ps).map nS) i k M n fs env S:=gC K O i k M n fs env S (id rfl)
theorem aEe (x:aF):op1 K O (.nilCheck x) i k M n fs env S=opV K O (bBm (opv K n env M x)) i k M n fs env S:=gC K O i k M n fs env S (id rfl)
theorem bBu (op:BinOp)(x y:aF):op1 K O (.bin op x y) i k M n fs env S=opV K O (ivO (binOp op (opv K n env M x) (opv K n env M y))) i k M n fs env S:=gC K O i k M n fs env S (id rfl)
theorem bBv (neg:Bool)(ek:EK)(x y:aF):op1 K O (.eqB neg ek x y) i k M n fs env S=opV K O (eqV neg (eqB ek (opv K n env M x) (opv K n env M y))) i k M n fs env S:=gC K O i k M n fs env S (id rfl)
theorem aO0 (neg:Bool)(offs:List (Nat×LK))(x y:aF):op1 K O (.eqAgg neg offs x y) i k M n fs env S=opV K O (ivO (eqAgg neg offs (opv K n env M x) (opv K n env M y))) i k M n fs env S:=gC K O i k M n fs env S (id rfl)
theorem bF1 (op:UnOp)(x:aF):op1 K O (.un op x) i k M n fs env S=opV K O (ivO (unOp op (opv K n env M x))) i k M n fs env S:=gC K O i k M n fs env S (id rfl)
theorem aV0 (f:Nat)(a b:List aF):op1 K O (.mkFn f a b) i k M n fs env S=opV K O (aNg f (a.map (opv K n env M)) (b.map (opv K n env M))) i k M n fs env S:=gC K O i k M n fs env S (id rfl)
theorem aA9 (off:Nat)(x:aF):op1 K O (.fieldAddr off x) i k M n fs env S=opV K O (dL (opv K n env M x) off) i k M n fs env S:=gC K O i k M n fs env S (id rfl)
theorem bGu (off w:Nat)(ag:Bool)(x:aF):op1 K O (.field off w ag x) i k M n fs env S=opV K O (mP ag (bBn off w (hG (opv K n env M x)))) i k M n fs env S:=by
 rw[gC K O i k M n fs env S rfl]
 simp only[aO]
 cases hG (opv K n env M x) with
 | none=>rfl
 | some l=>simp only[bBn,mP]; cases sub l off w<;>rfl
theorem aAa (es:Nat)(x y:aF):op1 K O (.indexAddrS es x y) i k M n fs env S=opV K O (ixS es (opv K n env M x) (opv K n env M y)) i k M n fs env S:=gC K O i k M n fs env S (id rfl)
theorem aAb (len es:Nat)(x y:aF):op1 K O (.indexAddrA len es x y) i k M n fs env S=opV K O (ixA len es (opv K n env M x) (opv K n env M y)) i k M n fs env S:=gC K O i k M n fs env S (id rfl)
theorem aJ6 (x y:aF):op1 K O (.indexS x y) i k M n fs env S=opV K O (tU (opv K n env M x) (opv K n env M y)) i k M n fs env S:=gC K O i k M n fs env S (id rfl)
theorem aG6 (j:Nat)(x:aF):op1 K O (.extract j x) i k M n fs env S=opV K O (xtr j (opv K n env M x)) i k M n fs env S:=gC K O i k M n fs env S (id rfl)
theorem bH4 (x:aF):op1 K O (.cap x) i k M n fs env S=opV K O (bFx (aFx (opv K n env M x))) i k M n fs env S:=gC K O i k M n fs env S (id rfl)
theorem bHi (m:Nat):op1 K O (.lenC m) i k M n fs env S=opV K O (some (.iv (.int .i64 m))) i k M n fs env S:=gC K O i k M n fs env S (id rfl)
theorem bF2 (mx:Bool)(xs:List aF):op1 K O (.minmax mx xs) i k M n fs env S=opV K O (mmV mx (xs.map (opv K n env M))) i k M n fs env S:=gC K O i k M n fs env S (id rfl)
theorem aO1 (a:aF):op1 K O (.load1 a) i k M n fs env S=opV K O (mP false (bH env S (opv K n env M a) 1)) i k M n fs env S:=vA K O i k M n fs env S (id rfl)
theorem aO2 (w:Nat)(a:aF):op1 K O (.loadN w a) i k M n fs env S=opV K O (mP true (bH env S (opv K n env M a) w)) i k M n fs env S:=vA K O i k M n fs env S (id rfl)
theorem aO3 (sk:SK)(x:aF)(lo hi mx:Option aF):op1 K O (.slice sk x lo hi mx) i k M n fs env S=opV K O (slV S sk (opv K n env M x) (oI (lo.map (opv K n env M))) (oI (hi.map (opv K n env M))) (oI (mx.map (opv K n env M)))) i k M n fs env S:=by
 rw[vA K O i k M n fs env S rfl]
 simp only[aL,slV]
 cases lo<;>cases hi<;>cases mx<;>rfl
theorem aJ7 (kk:KK)(z:IV)(ok:Bool)(m y:aF):op1 K O (.lookup kk z ok m y) i k M n fs env S=opV K O (aL (.lookup kk z ok m y) (opv K n env M) env S) i k M n fs env S:=vA K O i k M n fs env S (id rfl)
theorem bF3 (x:aF):op1 K O (.entryM x) i k M n fs env S=opV K O (aL (.entryM x) (opv K n env M) env S) i k M n fs env S:=vA K O i k M n fs env S (id rfl)
theorem bBw (nk:NK)(x:aF):op1 K O (.len nk x) i k M n fs env S=opV K O (aEc nk S (opv K n env M x)) i k M n fs env S:=vA K O i k M n fs env S (id rfl)
theorem tV (c:CK)(hc:c≠.bytesStr)(x:aF):op1 K O (.conv c x) i k M n fs env S=opV K O (ivO (cT c (opv K n env M x))) i k M n fs env S:=by
 simp only[op1,ec4]
 show er ((Out.need _ (match (cT c (opv K n env M x)).map TV.iv with|some v=>some v|none=>aL (.conv c x) (opv K n env M) env S) _).bind _)=_
 cases h:cT c (opv K n env M x) with
 | some v=>simp only[Option.map,Out.need,Out.bind,ivO,opV,jW]
 | none =>
  have:aL (.conv c x) (opv K n env M) env S=none:=by cases c<;>first|rfl|exact absurd rfl hc
  simp only[this,Option.map,Out.need,Out.bind,ivO,opV,er]
theorem aO4 (kd:IntKind)(x:aF):op1 K O (.conv (.toInt kd) x) i k M n fs env S=opV K O (ivO (cT (.toInt kd) (opv K n env M x))) i k M n fs env S:=tV K O i k M n fs env S _ (by simp) x
theorem bF4 (x:aF):op1 K O (.conv .intStr x) i k M n fs env S=opV K O (ivO (cT .intStr (opv K n env M x))) i k M n fs env S:=tV K O i k M n fs env S _ (by simp) x
theorem bF5 (x:aF):op1 K O (.conv .strStr x) i k M n fs env S=opV K O (ivO (cT .strStr (opv K n env M x))) i k M n fs env S:=tV K O i k M n fs env S _ (by simp) x
theorem aEf (x:aF):op1 K O (.conv .strBytes x) i k M n fs env S=opV K O (ivO (cT .strBytes (opv K n env M x))) i k M n fs env S:=tV K O i k M n fs env S _ (by simp) x
theorem aEg (x:aF):op1 K O (.conv .bytesStr x) i k M n fs env S=opV K O (bsV (eJ S (opv K n env M x))) i k M n fs env S:=by
 simp only[op1,ec4]
 have hc:cT .bytesStr (aY K env (cW M n) x)=none:=by
  unfold cT
  cases aY K env (cW M n) x with
  | iv v=>cases v<;>rfl
  | _=>rfl
 simp only[hc,Option.map]
 show er ((Out.need _ (bsV (eJ S (opv K n env M x))) _).bind _)=_
 cases bsV (eJ S (opv K n env M x)) with
 | some v=>simp only[Out.need,Out.bind,opV,jW]
 | none=>rfl
def aG7 (w:Nat)(x:Option (List (List IV)))(es:Option (List (List TV)))(i:Nat)(k:Kt)(M:List (Nat×TV))(n:Nat)(fs:List Fr)(env:Env)(S:aA):Out (bK×Env×aA) :=
 match x with
 | some l=>opV K O (some (.iv (.sl .full l))) i k M n fs env S
 | none=>opA K O (aEd S.length w es) i k M n fs env S
@[congr] theorem litQ_congr (w:Nat) {x x':Option (List (List IV))} (h:x=x') {es es':Option (List (List TV))} (h2:es=es'):aG7 K O w x es i k M n fs env S=aG7 K O w x' es' i k M n fs env S:=by rw[h,h2]
theorem aO5 (w:Nat)(l:List (List IV))(es:Option (List (List TV))):aG7 K O w (some l) es i k M n fs env S=gB K O k ((i,.iv (.sl .full l))::M) n fs env S:=id rfl
theorem bGv (w:Nat)(es:Option (List (List TV))):aG7 K O w none es i k M n fs env S=opA K O (aEd S.length w es) i k M n fs env S:=id rfl
def bBx (x:Option (List (List TV))):Option (List (List IV)):=match x with
 | some es=>iE es
 | none=>none
theorem aO6 (l:List (List TV)):bBx (some l)=iE l:=id rfl
theorem bBy (z:List IV)(len:Nat)(ps:List (Nat×aF)):op1 K O (.lit false z len ps) i k M n fs env S=aG7 K O z.length (bBx (dM (List.replicate len (z.map .iv)) z.length (opv K n env M) ps)) (dM (List.replicate len (z.map .iv)) z.length (opv K n env M) ps) i k M n fs env S:=by
 simp only[op1,kI K O env _ S _ (show cA (.lit false z len ps)≠5 by simp[cA])]
 have p:aO (.lit false z len ps) (aY K env (cW M n))=aVx (dM (List.replicate len (z.map .iv)) z.length (opv K n env M) ps):=rfl
 have r:aL (.lit false z len ps) (aY K env (cW M n)) env S=none:=rfl
 have a:bM (.lit false z len ps) (aY K env (cW M n)) S.length=aEd S.length z.length (dM (List.replicate len (z.map .iv)) z.length (opv K n env M) ps):=rfl
 have s:fO (.lit false z len ps) (aY K env (cW M n)) (cW M n) env S=none:=rfl
 simp only[gR,gI,p,r,a,s]
 cases dM (List.replicate len (z.map .iv)) z.length (opv K n env M) ps with
 | none=>rfl
 | some es =>
  simp only[aVx,bBx]
  cases iE es with
  | some l=>simp only[Option.map,Out.ofOpt,Out.bind,aG7,opV,jW]
  | none=>simp only[Option.map,Out.ofOpt,Out.bind,aG7,aEd,opA,jW]
theorem aV1 (z:List IV)(len:Nat)(ps:List (Nat×aF)):op1 K O (.lit true z len ps) i k M n fs env S=opA K O (aEd S.length z.length (dM (List.replicate len (z.map .iv)) z.length (opv K n env M) ps)) i k M n fs env S:=by
 simp only[op1,kI K O env _ S _ (show cA (.lit true z len ps)≠5 by simp[cA])]
 have p:aO (.lit true z len ps) (aY K env (cW M n))=none:=rfl
 have r:aL (.lit true z len ps) (aY K env (cW M n)) env S=none:=rfl
 have a:bM (.lit true z len ps) (aY K env (cW M n)) S.length=aEd S.length z.length (dM (List.replicate len (z.map .iv)) z.length (opv K n env M) ps):=rfl
 have s:fO (.lit true z len ps) (aY K env (cW M n)) (cW M n) env S=none:=rfl
 simp only[gR,gI,p,r,a,s]
 cases aEd S.length z.length (dM (List.replicate len (z.map .iv)) z.length (opv K n env M) ps) with
 | some v=>simp only[Out.ofOpt,Out.bind,opA,jW]
 | none=>rfl
theorem aJ8 (t:Nat)(z:List IV):op1 K O (.allocH t z) i k M n fs env S=opS K O (some (.ptr S.length t 0,S++[.cells t false (z.map .iv)])) i k M n fs env:=aEb K O i k M n fs env S (id rfl)
theorem aO7:op1 K O .mkMap i k M n fs env S=opS K O (some (.map S.length,S++[.mp [] 0])) i k M n fs env:=aEb K O i k M n fs env S (id rfl)
theorem aG8 (z:List IV)(bytes:Nat)(l c:aF):op1 K O (.mkSlice z bytes l c) i k M n fs env S=opA K O (mkV z bytes S.length (opv K n env M l) (opv K n env M c)) i k M n fs env S:=aEb K O i k M n fs env S (id rfl)
def bF6 (t m:Nat)(v:TV):Option (TV×bG):=if (cellsOf v).any bO then none else some (.ptr m t 0,.cells t false (cellsOf v))
theorem aV2 (t:Nat)(x:aF):op1 K O (.boxH t x) i k M n fs env S=opA K O (bF6 t S.length (opv K n env M x)) i k M n fs env S:=aEb K O i k M n fs env S (id rfl)
def aG9 (j:Nat):List (Nat×TV)→Bool
 | []=>true
 | (_,v)::M=>!(qM j v)&&aG9 j M
theorem aHa {j:Nat}:∀ {M:List (Nat×TV)},aG9 j M=true→∀m,qM j (reg M m)=false
 | [],_,m=>rfl
 | (a,v)::M,h,m=>by
  simp only[aG9,Bool.and_eq_true,Bool.not_eq_true']at h
  simp only[reg]
  split
  ·exact h.1
  ·exact aHa h.2 m
theorem aCk {j:Nat}{M:List (Nat×TV)}(h:aG9 j M=true):(cW M n).any (qM j)=false:=by
 rw[List.any_eq_false]
 intro x hx
 simp only[cW,List.mem_map]at hx
 obtain⟨m,_,rfl⟩:=hx
 simp[aHa h m]
def alB (c:Bool)(x y:Out (bK×Env×aA)):Out (bK×Env×aA):=bif c then x else y
@[congr] theorem alB_congr {c c':Bool} (h:c=c') (x y:Out (bK×Env×aA)):alB c x y=alB c' x y:=by rw[h]
theorem aAc (x y:Out (bK×Env×aA)):alB true x y=x:=id rfl
theorem aHb (j:Nat)(z:List IV)(h:aG9 j M=true)(hj:j<env.length):op1 K O (.allocL j z) i k M n fs env S=opE K O (some (.lp j 0,env.set j (.lb (z.map .iv)),S)) i k M n fs:=by
 rw[pJ K O i k M n fs env S (id rfl) (by simp)]
 simp only[fO,aCk n h,hj,decide_true,Bool.not_true,Bool.or_self,Bool.false_eq_true,↓reduceIte]
theorem aO8 (j:Nat)(x:aF)(h:aG9 j M=true)(hj:j<env.length):op1 K O (.boxL j x) i k M n fs env S=opE K O (if (cellsOf (opv K n env M x)).any bO then none else some (.lp j 0,env.set j (.lb (cellsOf (opv K n env M x))),S)) i k M n fs:=by
 rw[pJ K O i k M n fs env S (id rfl) (by simp)]
 simp only[fO,aCk n h,hj,decide_true,Bool.not_true,Bool.or_false]
def okL (j:Nat)(M:List (Nat×TV))(env:Env):Bool:=aG9 j M&&decide (j<env.length)
theorem aJ9 (j:Nat)(z:List IV):op1 K O (.allocL j z) i k M n fs env S=alB (okL j M env) (opE K O (some (.lp j 0,env.set j (.lb (z.map .iv)),S)) i k M n fs) (op1 K O (.allocL j z) i k M n fs env S):=by
 cases h:okL j M env with
 | false=>rfl
 | true =>
  simp only[okL,Bool.and_eq_true,decide_eq_true_eq]at h
  rw[aAc,aHb K O i k M n fs env S j z h.1 h.2]
theorem aV3 (j:Nat)(x:aF):op1 K O (.boxL j x) i k M n fs env S=alB (okL j M env) (opE K O (if (cellsOf (opv K n env M x)).any bO then none else some (.lp j 0,env.set j (.lb (cellsOf (opv K n env M x))),S)) i k M n fs) (op1 K O (.boxL j x) i k M n fs env S):=by
 cases h:okL j M env with
 | false=>rfl
 | true =>
  simp only[okL,Bool.and_eq_true,decide_eq_true_eq]at h
  rw[aAc,aO8 K O i k M n fs env S j x h.1 h.2]
theorem aO9 (w:Nat)(a v:aF):op1 K O (.store w a v) i k M n fs env S=opE K O (vB w env S (opv K n env M a) (opv K n env M v)) i k M n fs:=pJ K O i k M n fs env S rfl (by simp)
theorem aKa (kk:KK)(m y x:aF):op1 K O (.update kk m y x) i k M n fs env S=opE K O (fO (.update kk m y x) (opv K n env M) (cW M n) env S) i k M n fs:=pJ K O i k M n fs env S rfl (by simp)
theorem aPa (str:Bool)(x:aF):op1 K O (.range str x) i k M n fs env S=opE K O (aJ4 str env S (opv K n env M x)) i k M n fs:=pJ K O i k M n fs env S rfl (by simp)
theorem aPb (x:aF):op1 K O (.nextS x) i k M n fs env S=opE K O (aVy env S (opv K n env M x)) i k M n fs:=pJ K O i k M n fs env S rfl (by simp)
theorem aKb (mu:Bool)(es bytes el:Nat)(s x:aF):op1 K O (.append mu es bytes el s x) i k M n fs env S=opS K O (bW mu es bytes el S (opv K n env M s) (opv K n env M x)) i k M n fs env:=by
 rw[pJ K O i k M n fs env S rfl (by simp),←aG5]; rfl
theorem bHj (es:Nat)(d s:aF):op1 K O (.copy es d s) i k M n fs env S=opS K O (aDj es S (opv K n env M d) (opv K n env M s)) i k M n fs env:=by
 rw[pJ K O i k M n fs env S rfl (by simp),←aG5]; rfl
def cpV (S:aA)(args:List TV)(v:Option TV):Out (TV×aA) :=
 match v with
 | none => .fail ""
 | some v =>
  if args.any nT&&!(hO v) then
   match dO S args with
   | some S=>.ret (v,S)
   | none => .fail ""
  else .ret (v,S)
def cpR (S:aA)(args:List TV)(x:Out (TV×aA)):Out (TV×aA):=(er x).bind fun r=>cpV S args (resolve r.2 r.1)
def cpA (S:aA)(args:List TV)(f:Nat)(ags:Option (List TV)):Out (TV×aA) :=
 match ags with
 | none => .fail ""
 | some ags=>cpR S args (O.call f ags [])
@[congr] theorem cpV_congr (args:List TV) {v v':Option TV} (h:v=v'):cpV S args v=cpV S args v':=by rw[h]
@[congr] theorem cpR_congr (args:List TV) {v v':Out (TV×aA)} (h:v=v'):cpR S args v=cpR S args v':=by rw[h]
@[congr] theorem cpA_congr (args:List TV) (f:Nat) {v v':Option (List TV)} (h:v=v'):cpA O S args f v=cpA O S args f v':=by rw[h]
theorem aV4 (args ags:List TV)(f:Nat):cpA O S args f (some ags)=cpR S args (O.call f ags []):=id rfl
theorem bBz (args:List TV)(v:TV)(S':aA):cpR S args (.ret (v,S'))=cpV S args (resolve S' v):=id rfl
def cpB (c:Bool)(S:aA)(args:List TV)(v:TV):Out (TV×aA) :=
 if c then match dO S args with
   | some S=>.ret (v,S)
   | none => .fail ""
  else .ret (v,S)
@[congr] theorem cpB_congr {c c':Bool} (h:c=c') (args:List TV) (v:TV):cpB c S args v=cpB c' S args v:=by rw[h]
theorem aV5 (args:List TV)(v:TV):cpV S args (some v)=cpB (args.any nT&&!(hO v)) S args v:=id rfl
theorem aPc (args:List TV)(v:TV):cpB false S args v=.ret (v,S):=id rfl
def bB0 (v:TV)(x:Option aA):Out (TV×aA):=match x with
 | some S=>.ret (v,S)
 | none => .fail ""
theorem aPd (v:TV):bB0 v (some S)=.ret (v,S):=id rfl
theorem aV6 (args:List TV)(v:TV):cpB true S args v=bB0 v (dO S args):=by
 simp only[cpB,↓reduceIte,bB0]
theorem wK (f:Nat)(args:List TV):er (eG O f args S)=cpA O S args f (dK S args):=by
 unfold eG cpA
 cases dK S args with
 | none=>rfl
 | some ags =>
  simp only[cpR,fV]
  refine Out.bind_congr fun r=>?_
  cases resolve r.2 r.1 with
  | none=>rfl
  | some v =>
   simp only[cpV]
   split
   ·cases dO S args<;>rfl
   ·rfl
theorem aAd (x:Out (TV×aA)):er (x.bind fun r=>gB K O k ((i,r.1)::M) n fs env r.2)=opC K O (er x) i k M n fs env:=by
 rw[fV]
 simp only[opC,jW]
theorem aPe (t:Bool)(f:Nat)(args:List aF):op1 K O (.call true t f args) i k M n fs env S=opC K O (cpA O S (args.map (opv K n env M)) f (dK S (args.map (opv K n env M)))) i k M n fs env:=by
 rw[←wK,←aAd]
 simp only[op1,bZ,Out.bind_assoc,Out.bind,↓reduceIte]
 rfl
def csR (t:Bool)(S:aA)(x:Out (TV×aA)):Out (TV×aA):=(er x).bind fun r =>
 if t then match oO S.length r.1 r.2 with
  | some S'=>.ret (r.1,S')
  | none => .fail ""
 else .ret r
def csA (t : Bool) (S : aA) (f : Nat) (lp : Bool) (args : List TV) : Out (TV × aA) := if lp then .fail "" else csR t S (O.call f args S)
@[congr] theorem csR_congr (t:Bool) {v v':Out (TV×aA)} (h:v=v'):csR t S v=csR t S v':=by rw[h]
theorem bF7 (t:Bool)(f:Nat)(args:List TV):csA O t S f false args=csR t S (O.call f args S):=id rfl
theorem bHk (v:TV)(S':aA):csR false S (.ret (v,S'))=.ret (v,S'):=id rfl
def trV (v:TV)(x:Option aA):Out (TV×aA):=match x with
 | some S'=>.ret (v,S')
 | none => .fail ""
theorem bHl (v:TV):trV v (some S)=.ret (v,S):=id rfl
theorem bIx (v:TV)(S':aA):csR true S (.ret (v,S'))=trV v (oO S.length v S'):=by
 simp only[csR,er,Out.bind,↓reduceIte,trV]
theorem aCl (t:Bool)(f:Nat)(args:List TV):er (gS O t f args S)=csA O t S f (args.any dQ) args:=by
 unfold gS csA
 split
 ·rfl
 ·simp only[csR,fV]
  refine Out.bind_congr fun r=>?_
  cases t
  ·rfl
  ·simp only[↓reduceIte]
   cases oO S.length r.1 r.2<;>rfl
theorem aPf (t:Bool)(f:Nat)(args:List aF):op1 K O (.call false t f args) i k M n fs env S=opC K O (csA O t S f ((args.map (opv K n env M)).any dQ) (args.map (opv K n env M))) i k M n fs env:=by
 rw[←aCl,←aAd]
 simp only[op1,bZ,Out.bind_assoc,Out.bind,Bool.false_eq_true,↓reduceIte]
 rfl
def prV (S:aA)(p:Option wO)(args:List TV):Option (TV×aA):=match p with
 | some p=>if args.any dQ then none else p args S
 | none=>none
theorem bHm (f:Nat)(args:List aF):op1 K O (.prim f args) i k M n fs env S=opS K O (prV S (K.prim f) (args.map (opv K n env M))) i k M n fs env:=by
 simp only[op1,bZ]
 show er (Out.bind (match K.prim f with | some p => if (args.map (opv K n env M)).any dQ = true then .fail "prim: a local's address" else Out.bind (Out.ofOpt "prim" (p (args.map (opv K n env M)) S)) fun r => .ret (r.1, env, r.2) | none => .fail "prim") _) = _
 cases K.prim f with
 | none=>rfl
 | some p =>
  simp only[prV]
  split
  ·rfl
  ·cases p (args.map (opv K n env M)) S with
   | none=>rfl
   | some q=>simp only[Out.ofOpt,Out.bind,opS,jW]
def fin (rs:List lF)(x:Out (bK×Env×aA)):Out (TV×aA) :=
 x.bind fun r=>match r.1 with
  | .exit _ => .fail ""
  | _=>match kO rs r.2.1 r.2.2 with
   | some v=>.ret (v,r.2.2)
   | none => .fail ""
@[congr] theorem fin_congr (rs:List lF) {x x':Out (bK×Env×aA)} (h:x=x'):fin rs x=fin rs x':=by rw[h]
def aPg (S:aA)(v:Option TV):Out (TV×aA):=match v with
 | some v=>.ret (v,S)
 | none => .fail ""
theorem aPh (v:TV):aPg S (some v)=.ret (v,S):=id rfl
theorem bB1 (rs:List lF):fin rs (.ret (.ret,env,S))=aPg S (kO rs env S):=by
 simp only[fin,Out.bind,aPg]
theorem aKc (rs:List lF):fin rs (.ret (.normal,env,S))=aPg S (kO rs env S):=by
 simp only[fin,Out.bind,aPg]
theorem bF8 (rs:List lF)(B:Bool)(x y:Out (bK×Env×aA)):fin rs (br B x y)=br B (fin rs x) (fin rs y):=by cases B<;>rfl
theorem wL (f:Nat)(args:List TV)(fn:aV)(hf:K.funcs f=some fn)(ha:args.length=fn.nparams):er (eH K O f args S)=fin fn.results (go K O fn.body [] (args++List.replicate (fn.nlocs-fn.nparams) undef) S):=by
 simp only[eH,hf,ha,ne_eq,not_true_eq_false,↓reduceIte,go,fin]
 rw[fV]
 have e:(eK K O fn.body (args++List.replicate (fn.nlocs-fn.nparams) undef) S).bind (fun r=>back K O [] r.1 r.2.1 r.2.2)=eK K O fn.body (args++List.replicate (fn.nlocs-fn.nparams) undef) S:=by
  cases eK K O fn.body (args++List.replicate (fn.nlocs-fn.nparams) undef) S with
  | ret a=>rfl
  | fail s=>rfl
  | pick n k=>simp only[Out.bind]; congr; funext i; exact bind_back (k i)
 rw[e]
 refine Out.bind_congr fun r=>?_
 obtain⟨j,e,S'⟩:=r
 cases j with
 | exit i=>rfl
 | _=>simp only; cases kO fn.results e S'<;>rfl
where
 bind_back:∀x:Out (bK×Env×aA),(x.bind fun r=>back K O [] r.1 r.2.1 r.2.2)=x
  | .ret a=>rfl
  | .fail s=>rfl
  | .pick n k=>by simp only[Out.bind]; congr; funext i; exact bind_back (k i)
theorem aV7 {f:Nat}{args:List TV}{fn:aV}{r:TV×aA}(hf:K.funcs f=some fn)(ha:args.length=fn.nparams)(h:fin fn.results (go K (lim K) fn.body [] (args++List.replicate (fn.nlocs-fn.nparams) undef) S)=.ret r):(lim K).call f args S=.ret r :=
 aU0 (aU3 ((wL K (lim K) S f args fn hf ha).trans h))
def rnd (b:aJ)(x:Out (bK×Env×aA)):Out (bK×Env×aA) :=
 x.bind fun r=>match r.1 with
  | .normal=>er (lp O b r.2.1 r.2.2)
  | j=>.ret (j,r.2.1,r.2.2)
@[congr] theorem rnd_congr (b:aJ) {x x':Out (bK×Env×aA)} (h:x=x'):rnd O b x=rnd O b x':=by rw[h]
theorem aKd (b:aJ):rnd O b (.ret (.normal,env,S))=er (lp O b env S):=id rfl
theorem bB2 (b:aJ):rnd O b (.ret (.ret,env,S))=.ret (.ret,env,S):=id rfl
theorem aV8 (b:aJ)(id:Nat):rnd O b (.ret (.exit id,env,S))=.ret (.exit id,env,S):=by simp only[rnd,Out.bind]
theorem bIg (b:aJ)(B:Bool)(x y:Out (bK×Env×aA)):rnd O b (br B x y)=br B (rnd O b x) (rnd O b y):=by cases B<;>rfl
theorem aV9 {b:aJ}{r:bK×Env×aA}(h:rnd (lim K) b (go K (lim K) b [] env S)=.ret r):lp (lim K) b env S=.ret r:=by
 refine aU1 (aU3 ?_)
 rw[←h]
 simp only[lO,rnd,go]
 rw[fV]
 have e:=wL.bind_back K (lim K) (eK K (lim K) b env S)
 rw[e]
 refine Out.bind_congr fun r=>?_
 obtain⟨j,e,S'⟩:=r
 cases j<;>rfl
end
end Go.TM
namespace Go.TM
section
variable (K:bI)(O:Orc)(i:Nat)(k:Kt)(M:List (Nat×TV))(n:Nat)(fs:List Fr)(env:Env)(S:aA)
def flM (o:TOp):Option TV:=gI K o env (cW M n) S
theorem jE {o:TOp}(h:cA o=0):flM K M n env S o=aO o (opv K n env M):=by
 have r:∀e,aL o e env S=none:=by intro e; cases o<;>first|rfl|simp[cA]at h
 simp only[flM,gI,r]
 show (match aO o (opv K n env M) with|some v=>some v|none=>none)=_
 cases aO o (opv K n env M)<;>rfl
theorem aNh {o:TOp}(h:cA o=1):flM K M n env S o=aL o (opv K n env M) env S:=by
 have p:∀e,aO o e=none:=by intro e; cases o<;>first|rfl|simp[cA]at h
 simp only[flM,gI,p]
 rfl
theorem xO (c:CK)(hc:c≠.bytesStr)(x:aF):flM K M n env S (.conv c x)=ivO (cT c (opv K n env M x)):=by
 have r:aL (.conv c x) (opv K n env M) env S=none:=by cases c<;>first|rfl|exact absurd rfl hc
 show (match ((cT c (opv K n env M x)).map TV.iv) with|some v=>some v|none=>aL (.conv c x) (opv K n env M) env S)=_
 rw[r]
 cases cT c (opv K n env M x)<;>rfl
theorem aHc (x:aF):flM K M n env S (.conv .bytesStr x)=bsV (eJ S (opv K n env M x)):=by
 have hc:cT .bytesStr (opv K n env M x)=none:=by
  unfold cT
  cases opv K n env M x with
  | iv v=>cases v<;>rfl
  | _=>rfl
 show (match ((cT .bytesStr (opv K n env M x)).map TV.iv) with|some v=>some v|none=>aL (.conv .bytesStr x) (opv K n env M) env S)=_
 rw[hc]; rfl
theorem bIh (z:List IV)(len:Nat)(ps:List (Nat×aF)):flM K M n env S (.lit false z len ps)=aVx (dM (List.replicate len (z.map .iv)) z.length (opv K n env M) ps):=by
 have r:aL (.lit false z len ps) (opv K n env M) env S=none:=rfl
 show (match aVx (dM (List.replicate len (z.map .iv)) z.length (opv K n env M) ps) with|some v=>some v|none=>none)=_
 cases aVx (dM (List.replicate len (z.map .iv)) z.length (opv K n env M) ps)<;>rfl
def bHn (c a b:TV):Option TV:=match uJ c with
  | some t=>some (if t then a else b)
  | none=>none
theorem bH5 (c a b:aF):flM K M n env S (.pick c a b)=bHn (opv K n env M c) (opv K n env M a) (opv K n env M b):=jE K M n env S (id rfl)
theorem bIi (x:aF):flM K M n env S (.mov x)=some (opv K n env M x):=jE K M n env S (id rfl)
theorem bHo (z:List IV)(ps:List (Nat×Nat×aF)):flM K M n env S (.build z ps)=(fill (z.map .iv) (opv K n env M) ps).map nS:=jE K M n env S (id rfl)
theorem bDv (x:aF):flM K M n env S (.nilCheck x)=bBm (opv K n env M x):=jE K M n env S (id rfl)
theorem bIj (op:BinOp)(x y:aF):flM K M n env S (.bin op x y)=ivO (binOp op (opv K n env M x) (opv K n env M y)):=jE K M n env S (id rfl)
theorem bIk (neg:Bool)(ek:EK)(x y:aF):flM K M n env S (.eqB neg ek x y)=eqV neg (eqB ek (opv K n env M x) (opv K n env M y)):=jE K M n env S (id rfl)
theorem bHp (neg:Bool)(offs:List (Nat×LK))(x y:aF):flM K M n env S (.eqAgg neg offs x y)=ivO (eqAgg neg offs (opv K n env M x) (opv K n env M y)):=jE K M n env S (id rfl)
theorem bIy (op:UnOp)(x:aF):flM K M n env S (.un op x)=ivO (unOp op (opv K n env M x)):=jE K M n env S (id rfl)
theorem bH6 (f:Nat)(a b:List aF):flM K M n env S (.mkFn f a b)=aNg f (a.map (opv K n env M)) (b.map (opv K n env M)):=jE K M n env S (id rfl)
theorem bB3 (off:Nat)(x:aF):flM K M n env S (.fieldAddr off x)=dL (opv K n env M x) off:=jE K M n env S (id rfl)
theorem bHq (off w:Nat)(ag:Bool)(x:aF):flM K M n env S (.field off w ag x)=mP ag (bBn off w (hG (opv K n env M x))):=by
 rw[jE K M n env S rfl]
 simp only[aO]
 cases hG (opv K n env M x) with
 | none=>rfl
 | some l=>simp only[bBn,mP]; cases sub l off w<;>rfl
theorem aYi (es:Nat)(x y:aF):flM K M n env S (.indexAddrS es x y)=ixS es (opv K n env M x) (opv K n env M y):=jE K M n env S (id rfl)
theorem aYj (len es:Nat)(x y:aF):flM K M n env S (.indexAddrA len es x y)=ixA len es (opv K n env M x) (opv K n env M y):=jE K M n env S (id rfl)
theorem bGw (x y:aF):flM K M n env S (.indexS x y)=tU (opv K n env M x) (opv K n env M y):=jE K M n env S (id rfl)
theorem bF9 (j:Nat)(x:aF):flM K M n env S (.extract j x)=xtr j (opv K n env M x):=jE K M n env S (id rfl)
theorem bIl (x:aF):flM K M n env S (.cap x)=bFx (aFx (opv K n env M x)):=jE K M n env S (id rfl)
theorem bH7 (m:Nat):flM K M n env S (.lenC m)=some (.iv (.int .i64 m)):=jE K M n env S (id rfl)
theorem bGx (mx:Bool)(xs:List aF):flM K M n env S (.minmax mx xs)=mmV mx (xs.map (opv K n env M)):=jE K M n env S (id rfl)
theorem aWa (a:aF):flM K M n env S (.load1 a)=mP false (bH env S (opv K n env M a) 1):=aNh K M n env S (id rfl)
theorem bHr (w:Nat)(a:aF):flM K M n env S (.loadN w a)=mP true (bH env S (opv K n env M a) w):=aNh K M n env S (id rfl)
theorem aWb (sk:SK)(x:aF)(lo hi mx:Option aF):flM K M n env S (.slice sk x lo hi mx)=slV S sk (opv K n env M x) (oI (lo.map (opv K n env M))) (oI (hi.map (opv K n env M))) (oI (mx.map (opv K n env M))):=by
 rw[aNh K M n env S rfl]
 simp only[aL,slV]
 cases lo<;>cases hi<;>cases mx<;>rfl
theorem bIm (nk:NK)(x:aF):flM K M n env S (.len nk x)=aEc nk S (opv K n env M x):=aNh K M n env S (id rfl)
theorem bHs (kd:IntKind)(x:aF):flM K M n env S (.conv (.toInt kd) x)=ivO (cT (.toInt kd) (opv K n env M x)):=xO K M n env S _ (by simp) x
theorem bGy (x:aF):flM K M n env S (.conv .intStr x)=ivO (cT .intStr (opv K n env M x)):=xO K M n env S _ (by simp) x
theorem bGz (x:aF):flM K M n env S (.conv .strStr x)=ivO (cT .strStr (opv K n env M x)):=xO K M n env S _ (by simp) x
theorem bDw (x:aF):flM K M n env S (.conv .strBytes x)=ivO (cT .strBytes (opv K n env M x)):=xO K M n env S _ (by simp) x
mutual
theorem wM:∀(a:IV),fN a a=true
 | .bool b=>by simp[fN]
 | .int k n=>by simp[fN]
 | .str s=>by simp[fN]
 | .sl t l=>by simp[fN,rE l]
 | .agg l=>by simp[fN,lA l]
 | .cp l=>by simp[fN,lA l]
 | .nilp=>rfl
 | .nilm=>rfl
 | .nilf=>rfl
 | .nili=>rfl
theorem lA:∀(l:List IV),jT l l=true
 | []=>rfl
 | a::l=>by simp[jT,wM a,lA l]
theorem rE:∀(l:List (List IV)),hP l l=true
 | []=>rfl
 | a::l=>by simp[hP,lA a,rE l]
end
theorem bB4 (a:IV):same (.iv a) (.iv a)=true:=wM a
theorem aWc (a b c:Nat):same (.ptr a b c) (.ptr a b c)=true:=by simp[same,aFz]
def rck (ops:List aH)(M:List (Nat×TV))(n:Nat)(env:Env)(S:aA)(c:List Nat):Bool:=kW K ops (cW M n) env S c
def rcS (v:Option TV)(w:TV):Bool:=match v with
 | some v=>same v w
 | none=>false
theorem aWd (v w:TV):rcS (some v) w=same v w:=id rfl
def rcG (g:TV)(want:Bool)(j:Nat)(M:List (Nat×TV))(n:Nat)(env:Env)(S:aA)(o:TOp):Bool:=match g with
 | .iv (.bool b)=>if b==want then rcS (flM K M n env S o) (opv K n env M (.reg j)) else true
 | .tup []=>true
 | _=>false
theorem bG0 (want:Bool)(j:Nat)(o:TOp):rcG K (.tup []) want j M n env S o=true:=id rfl
theorem aWe (b want:Bool)(j:Nat)(o:TOp):rcG K (.iv (.bool b)) want j M n env S o=if b==want then rcS (flM K M n env S o) (opv K n env M (.reg j)) else true:=id rfl
def rcO (x:Option aH)(j:Nat)(M:List (Nat×TV))(n:Nat)(env:Env)(S:aA):Bool:=match x with
 | some ⟨o,_,none⟩=>rcS (flM K M n env S o) (opv K n env M (.reg j))
 | some ⟨o,_,some (g,want)⟩=>rcG K (opv K n env M (.reg g)) want j M n env S o
 | none=>false
theorem aWf (o:TOp)(l:Option Nat)(j:Nat):rcO K (some ⟨o,l,none⟩) j M n env S=rcS (flM K M n env S o) (opv K n env M (.reg j)):=id rfl
theorem aPi (o:TOp)(l:Option Nat)(g:Nat)(want:Bool)(j:Nat):rcO K (some ⟨o,l,some (g,want)⟩) j M n env S=rcG K (opv K n env M (.reg g)) want j M n env S o:=id rfl
theorem bB5 (ops:List aH):rck K ops M n env S []=true:=id rfl
theorem aWg (ops:List aH)(j:Nat)(c:List Nat):rck K ops M n env S (j::c)=(rcO K (uZ ops j) j M n env S&&rck K ops M n env S c):=by
 simp only[rck,kW,uZ]
 congr 1
 cases ops[j]? with
 | none=>rfl
 | some x =>
  obtain⟨o,l,g⟩:=x
  cases g with
  | none =>
   simp only[dI,rcO]
   show (match flM K M n env S o with|some v=>same v (opv K n env M (.reg j))|none=>false)=_
   cases flM K M n env S o<;>rfl
  | some q =>
   obtain⟨g,want⟩:=q
   simp only[dI,rcO]
   show (match (match opv K n env M (.reg g) with | .iv (.bool b)=>some (b==want) | .tup []=>some false|_=>none) with|some true=>(match flM K M n env S o with|some v=>same v (opv K n env M (.reg j))|none=>false)|some false=>true|none=>false)=_
   unfold rcG
   cases opv K n env M (.reg g) with
   | iv v =>
    cases v with
    | bool b =>
     simp only
     cases b==want
     ·rfl
     ·simp only[↓reduceIte]
      cases flM K M n env S o<;>rfl
    | _=>rfl
   | tup vs=>cases vs<;>rfl
   | _=>rfl
theorem aWh (ops:List aH)(ps:List (Nat×List Nat×List Nat))(c fl:List Nat):gB K O (.ph ops c fl ps) M n fs env S=chk K O (rck K ops M n env S c) ops fl ps M n fs env S:=id rfl
end
end Go.TM
namespace Go.TM
attribute [go_sem] bA3 aU4 bA4 bA5 aU5 aU6 aU7 bA6 bA7 aU8 aU9 aJv
attribute [go_sem] aOu aOv okL aG9 qM
attribute [go_sem] bBl aVs aVt bHh aJ1 aJ2 aJ3 bBo aNf aCj bBp bBq aVu aVv bBr aVw nW aOx aG4 aJ5
attribute [go_sem] aO6
theorem go_region (K:bI)(O:Orc)(ops:List aH)(fs:List Fr)(env:Env)(S:aA):go K O (.region ops) fs env S=rgN K O (wS ops 0) ops fs env S:=by
 rw[go_region0,aVk,aEa]; rfl
def aWi (K:bI)(O:Orc)(n:Nat)(f0:List Nat)(ph:List (Nat×List Nat×List Nat))(ops:List aH)(fs:List Fr)(env:Env)(S:aA):Out (bK×Env×aA):=fls K O ops f0 ph [] n fs env S
@[congr] theorem flsN_congr (K:bI) (O:Orc) {n n':Nat} (h:n=n') (f0:List Nat) (ph:List (Nat×List Nat×List Nat)) (ops:List aH) (fs:List Fr) (env:Env) (S:aA):aWi K O n f0 ph ops fs env S=aWi K O n' f0 ph ops fs env S:=by rw[h]
theorem aNi (K:bI)(O:Orc)(n:Nat)(f0:List Nat)(ph:List (Nat×List Nat×List Nat))(ops:List aH)(fs:List Fr)(env:Env)(S:aA):aWi K O n f0 ph ops fs env S=fls K O ops f0 ph [] n fs env S:=id rfl
theorem go_draw (K:bI)(O:Orc)(f0:List Nat)(ph:List (Nat×List Nat×List Nat))(ops:List aH)(fs:List Fr)(env:Env)(S:aA):go K O (.draw f0 ph ops) fs env S=aWi K O (wS ops 0) f0 ph ops fs env S:=by
 rw[go_draw0,aNi,aEa]; rfl
theorem aWj (n:Nat):wS [] n=n:=id rfl
theorem aPj (a:aH)(l:List aH)(n:Nat):wS (a::l) n=wS l (n+1):=id rfl
@[congr] theorem lenT_congr (l:List aH) {n n':Nat} (h:n=n'):wS l n=wS l n':=by rw[h]
theorem aPk (a:TV)(l:List TV)(d:TV):List.getD (a::l) 0 d=a:=id rfl
theorem aPl (a:TV)(l:List TV)(j:Nat)(d:TV):List.getD (a::l) (j+1) d=List.getD l j d:=by simp[List.getD]
attribute [go_sem] aPk aPl List.map_cons List.map_nil List.getElem?_cons_zero List.getElem?_cons_succ Option.map_some Option.map_none
theorem bB6 (v:IV):dQ (.iv v)=false:=id rfl
theorem aWk (a b c:Nat):dQ (.ptr a b c)=false:=id rfl
theorem aWl (a b c d e f:Nat):dQ (.msl a b c d e f)=false:=id rfl
theorem bB7 (f:Nat)(a b:List TV):dQ (.fn f a b)=false:=id rfl
theorem aWm (v:IV):nT (.iv v)=false:=id rfl
theorem aPm (a:Nat)(l:List (List IV)):nT (.tsl a l)=false:=id rfl
theorem aPn (a b c d e f:Nat):nT (.msl a b c d e f)=true:=id rfl
theorem aHd (v:IV):hO (.iv v)=gE v:=id rfl
theorem aEh (b:Bool):gE (.bool b)=true:=id rfl
theorem aHe (k:IntKind)(m:Int):gE (.int k m)=true:=id rfl
theorem aHf (s:List UInt8):gE (.str s)=true:=id rfl
theorem aKe (a:Tag)(l:List (List IV)):gE (.sl a l)=false:=id rfl
theorem aBa (S:aA):dK S []=some []:=id rfl
def aHg {α:Type}:Option α→Option (List α)→Option (List α)
 | some a,some l=>some (a::l)
 | _,_=>none
theorem aAe {α:Type}(a:α)(l:List α):aHg (some a) (some l)=some (a::l):=id rfl
theorem aAf (S:aA)(v:TV)(r:List TV):dK S (v::r)=aHg (iQ S v) (dK S r):=by rw[dK]; cases iQ S v<;>cases dK S r<;>rfl
theorem aHh (S:aA)(v:IV):iQ S (.iv v)=some (.iv v):=id rfl
theorem aEi (S:aA)(a:Nat)(l:List (List IV)):iQ S (.tsl a l)=some (.iv (.sl .no l)):=id rfl
def slO (x:Option (List (List IV))):Option IV:=match x with
 | some l=>some (.sl .no l)
 | none=>none
theorem aWn (l:List (List IV)):slO (some l)=some (.sl .no l):=id rfl
theorem bB8 (S:aA)(v:IV):aFy S (.iv v)=some v:=id rfl
theorem aPo (S:aA):sQ S []=some []:=id rfl
def ivC:Option IV→Option (List TV)→Option (List TV)
 | some a,some l=>some (.iv a::l)
 | _,_=>none
theorem aWo (a:IV)(l:List TV):ivC (some a) (some l)=some (.iv a::l):=id rfl
theorem aKf (S:aA)(v:TV)(r:List TV):sQ S (v::r)=ivC (aFy S v) (sQ S r):=id rfl
theorem aHi (S:aA)(c:List TV):resolve S (.tup c)=(sQ S c).map .tup:=id rfl
theorem aZ (S:aA)(v:IV):resolve S (.iv v)=some (.iv v):=id rfl
def aPp:TV→Option TV
 | .lb _=>none
 | .lp ..=>none
 | v=>some v
theorem bB9 (v:IV):aPp (.iv v)=some (.iv v):=id rfl
theorem aWp (a b c:Nat):aPp (.ptr a b c)=some (.ptr a b c):=id rfl
theorem aWq (a:Nat)(l:List (List IV)):aPp (.tsl a l)=some (.tsl a l):=id rfl
theorem bCa (f:Nat)(a b:List TV):aPp (.fn f a b)=some (.fn f a b):=id rfl
theorem aEj (env:Env)(S:aA)(j:Nat):hU env S (.loc j)=aPp (env.getD j .hole):=by simp only[hU]; cases env.getD j .hole<;>rfl
theorem aBb (env:Env)(S:aA)(j m:Nat)(ag:Bool):hU env S (.cell j m ag)=mP ag (bH env S (tT j (env.getD j .hole)) m):=by simp only[hU,aY]; cases env.getD j .hole<;>rfl
theorem aBc (env:Env)(S:aA):eR env S []=some []:=id rfl
theorem aAg (env:Env)(S:aA)(r:lF)(rs:List lF):eR env S (r::rs)=aHg (hU env S r) (eR env S rs):=by rw[eR]; cases hU env S r<;>cases eR env S rs<;>rfl
def bCb:Option (List TV)→Option TV
 | some [v]=>some v
 | some vs=>some (.tup vs)
 | none=>none
theorem aWr (v:TV):bCb (some [v])=some v:=id rfl
theorem aWs (v w:TV)(l:List TV):bCb (some (v::w::l))=some (.tup (v::w::l)):=id rfl
theorem aWt:bCb (some [])=some (.tup []):=id rfl
theorem aPq (rs:List lF)(env:Env)(S:aA):kO rs env S=bCb (eR env S rs):=by simp only[kO]; cases eR env S rs with|none=>rfl|some l=>cases l with|nil=>rfl|cons a r=>cases r<;>rfl
theorem aPr (k:IntKind)(a b:Int):TM.binOp .add (.iv (.int k a)) (.iv (.int k b))=some (.int k (k.wrap (a+b))):=by simp[TM.binOp,hH]
theorem aPs (k:IntKind)(a b:Int):TM.binOp .sub (.iv (.int k a)) (.iv (.int k b))=some (.int k (k.wrap (a-b))):=by simp[TM.binOp,hH]
theorem aPt (k:IntKind)(a b:Int):TM.binOp .mul (.iv (.int k a)) (.iv (.int k b))=some (.int k (k.wrap (a*b))):=by simp[TM.binOp,hH]
theorem aPu (k:IntKind)(a b:Int):TM.binOp .quo (.iv (.int k a)) (.iv (.int k b))=if b=0 then none else some (.int k (k.wrap (a.tdiv b))):=by simp[TM.binOp,hH]
theorem aPv (k:IntKind)(a b:Int):TM.binOp .rem (.iv (.int k a)) (.iv (.int k b))=if b=0 then none else some (.int k (a.tmod b)):=by simp[TM.binOp,hH]
theorem aPw (k:IntKind)(a b:Int):TM.binOp .eql (.iv (.int k a)) (.iv (.int k b))=some (.bool (a==b)):=by simp[TM.binOp,hH]
theorem aPx (k:IntKind)(a b:Int):TM.binOp .neq (.iv (.int k a)) (.iv (.int k b))=some (.bool (a != b)):=by simp[TM.binOp,hH]
theorem aPy (k:IntKind)(a b:Int):TM.binOp .lss (.iv (.int k a)) (.iv (.int k b))=some (.bool (decide (a<b))):=by simp[TM.binOp,hH]
theorem aPz (k:IntKind)(a b:Int):TM.binOp .leq (.iv (.int k a)) (.iv (.int k b))=some (.bool (decide (a≤b))):=by simp[TM.binOp,hH]
theorem aP0 (k:IntKind)(a b:Int):TM.binOp .gtr (.iv (.int k a)) (.iv (.int k b))=some (.bool (decide (b<a))):=by simp[TM.binOp,hH]
theorem aP1 (k:IntKind)(a b:Int):TM.binOp .geq (.iv (.int k a)) (.iv (.int k b))=some (.bool (decide (b≤a))):=by simp[TM.binOp,hH]
def nZ (w:Nat)(a b:Int):Int:=((BitVec.ofInt w a &&& BitVec.ofInt w b).toNat:Nat)
def bOr (w:Nat)(a b:Int):Int:=((BitVec.ofInt w a ||| BitVec.ofInt w b).toNat:Nat)
def qH (w:Nat)(a b:Int):Int:=((BitVec.ofInt w a &&& ~~~ BitVec.ofInt w b).toNat:Nat)
theorem aP2 (k:IntKind)(a b:Int):TM.binOp .and (.iv (.int k a)) (.iv (.int k b))=some (.int k (k.wrap (nZ k.bits a b))):=by simp[TM.binOp,hH,nZ]
theorem aWu (k:IntKind)(a b:Int):TM.binOp .or (.iv (.int k a)) (.iv (.int k b))=some (.int k (k.wrap (bOr k.bits a b))):=by simp[TM.binOp,hH,bOr]
theorem aEk (k:IntKind)(a b:Int):TM.binOp .andNot (.iv (.int k a)) (.iv (.int k b))=some (.int k (k.wrap (qH k.bits a b))):=by simp[TM.binOp,hH,qH]
theorem aP3 (k k':IntKind)(a b:Int):TM.binOp .shl (.iv (.int k a)) (.iv (.int k' b))=if b<0 then none else some (.int k (k.wrap (a*2 ^ (if b.toNat≤k.bits then b.toNat else k.bits)))):=by simp[TM.binOp,sP,Nat.min_def]
theorem aP4 (k k':IntKind)(a b:Int):TM.binOp .shr (.iv (.int k a)) (.iv (.int k' b))=if b<0 then none else some (.int k (a.fdiv (2 ^ (if b.toNat≤k.bits then b.toNat else k.bits)))):=by simp[TM.binOp,sP,Nat.min_def]
theorem aKg (a b:List UInt8):TM.binOp .eql (.iv (.str a)) (.iv (.str b))=some (.bool (a==b)):=id rfl
theorem aKh (a b:List UInt8):TM.binOp .neq (.iv (.str a)) (.iv (.str b))=some (.bool (!(a==b))):=id rfl
theorem aWv (k:IntKind)(a:Int):TM.unOp .neg (.iv (.int k a))=some (.int k (k.wrap (0-a))):=id rfl
theorem aWw (b:Bool):TM.unOp .not (.iv (.bool b))=some (.bool (!b)):=id rfl
theorem aEl (k k':IntKind)(a:Int):cT (.toInt k) (.iv (.int k' a))=some (.int k (k.wrap a)):=id rfl
theorem wU (s:List UInt8):cT .strBytes (.iv (.str s))=if s.length≤70368744177664 then some (.sl .no (aN s)) else none:=id rfl
theorem aWx (a b:Bool):TM.eqB .bool (.iv (.bool a)) (.iv (.bool b))=some (a==b):=id rfl
theorem aWy (o:TOp):floats o=(cA o==0||cA o==1||cA o==2||cA o==4||cA o==6):=id rfl
attribute [go_sem] bB6 aWk aWl bB7
attribute [go_sem] aWm aPm aPn aHd
attribute [go_sem] aEh aHe aHf aKe aBa aAe aAf
attribute [go_sem] aHh aEi aWn bB8
attribute [go_sem] aPo aWo aKf aHi aZ bB9 aWp aWq
attribute [go_sem] bCa aEj aBb aBc aAg
attribute [go_sem] aWr aWs aWt aPq aPr aPs aPt aPu aPv aPw aPx aPy
attribute [go_sem] aPz aP0 aP1 aP2 aWu aEk aP3 aP4 aKg aKh
attribute [go_sem] aWv aWw aEl wU aWx
attribute [go_sem] aWy
theorem bIn (b:Bool):(b==true)=b:=by cases b<;>rfl
theorem bIo (b:Bool):(b==false)=!b:=by cases b<;>rfl
theorem aEm (b:Bool):cellsOf (.iv (.bool b))=[.iv (.bool b)]:=id rfl
theorem aHj (b:Bool):bO (.iv (.bool b))=false:=id rfl
theorem pK (k:IntKind)(m:Int):cellsOf (.iv (.int k m))=[.iv (.int k m)]:=id rfl
theorem aKi (k:IntKind)(m:Int):bO (.iv (.int k m))=false:=id rfl
theorem aKj (s:List UInt8):bO (.iv (.str s))=false:=id rfl
theorem aKk (a:Tag)(l:List (List IV)):cellsOf (.iv (.sl a l))=[.iv (.sl a l)]:=id rfl
theorem aP5 (a:Tag)(l:List (List IV)):bO (.iv (.sl a l))=false:=id rfl
theorem aEn (l:List IV):cellsOf (.iv (.agg l))=l.map .iv:=id rfl
theorem aHk (a b c:Nat):cellsOf (.ptr a b c)=[.ptr a b c]:=id rfl
theorem aKl (a b c:Nat):bO (.ptr a b c)=false:=id rfl
theorem aHl (a:Nat):cellsOf (.map a)=[.map a]:=id rfl
theorem aKm (a:Nat):bO (.map a)=false:=id rfl
theorem aKn (a:Nat):kN (.map a)=.map a:=id rfl
theorem aHm (l:List TV):cellsOf (.agg l)=l:=id rfl
theorem aP6 (v:IV):kN (.iv v)=.iv v:=id rfl
theorem aKo (a:Nat)(l:List (List IV)):kN (.tsl a l)=.iv (.sl .no l):=id rfl
theorem aAh (v:TV)(r:List TV):toIVs (v::r)=aHg (oK v) (toIVs r):=by rw[toIVs]; cases oK v<;>cases toIVs r<;>rfl
theorem aHn (v:IV):oK (.iv v)=some v:=id rfl
def aWz (vs:List TV)(es:List (List TV))(n i:Nat)(e:aF→TV)(r:List (Nat×aF)):Option (List (List TV)) :=
 if vs.length=n∧i<es.length∧vs.any bO=false then dM (es.set i vs) n e r else none
theorem aHo (es:List (List TV))(n i:Nat)(e:aF→TV)(x:aF)(r:List (Nat×aF)):dM es n e ((i,x)::r)=aWz (cellsOf (kN (e x))) es n i e r:=id rfl
theorem aKp (es:List (List TV))(n:Nat)(e:aF→TV):dM es n e []=some es:=id rfl
theorem aP7 (vs:List TV)(es:List (List TV))(n i:Nat)(e:aF→TV)(r:List (Nat×aF)):aWz vs es n i e r=if vs.length=n∧i<es.length∧vs.any bO=false then dM (es.set i vs) n e r else none:=id rfl
def bDx (vs:List TV)(cs:List TV)(off n:Nat)(e:aF→TV)(r:List (Nat×Nat×aF)):Option (List TV) :=
 if vs.length=n∧off+n≤cs.length∧vs.any bO=false then fill (put cs off vs) e r else none
theorem aP8 (cs:List TV)(off n:Nat)(e:aF→TV)(x:aF)(r:List (Nat×Nat×aF)):fill cs e ((off,n,x)::r)=bDx (cellsOf (kN (e x))) cs off n e r:=id rfl
theorem aW0 (cs:List TV)(e:aF→TV):fill cs e []=some cs:=id rfl
theorem aW1 (vs:List TV)(cs:List TV)(off n:Nat)(e:aF→TV)(r:List (Nat×Nat×aF)):bDx vs cs off n e r=if vs.length=n∧off+n≤cs.length∧vs.any bO=false then fill (put cs off vs) e r else none:=id rfl
def mkG (x:Option (List IV))(cs:List TV):TV:=match x with
 | some l=>.iv (.agg l)
 | none=>.agg cs
theorem aW2 (cs:List TV):nS cs=mkG (lG cs) cs:=by simp only[nS]; cases lG cs<;>rfl
theorem aW3 (l:List IV)(cs:List TV):mkG (some l) cs=.iv (.agg l):=id rfl
theorem aW4 (cs:List TV):mkG none cs=.agg cs:=id rfl
def aW5 (v:IV)(x:Option (List IV)):Option (List IV):=x.map (v::·)
theorem aKq (v:IV)(l:List IV):aW5 v (some l)=some (v::l):=id rfl
theorem aKr (v:IV):aW5 v none=none:=id rfl
theorem aKs (v:IV)(r:List TV):lG (.iv v::r)=aW5 v (lG r):=id rfl
theorem aP9:lG []=some []:=id rfl
theorem aKt:iE []=some []:=id rfl
theorem aHp (c:List TV)(r:List (List TV)):iE (c::r)=aHg (lG c) (iE r):=by rw[iE]; cases lG c<;>cases iE r<;>rfl
theorem aQa {α:Type}(a:α)(l:List α)(v:α):List.set (a::l) 0 v=v::l:=id rfl
theorem aQb {α:Type}(a:α)(l:List α)(j:Nat)(v:α):List.set (a::l) (j+1) v=a::List.set l j v:=id rfl
theorem bGa {α:Type}(cs:List α)(off n:Nat):sub cs off n=if off+n≤cs.length then some ((cs.drop off).take n) else none:=id rfl
theorem bGb {α:Type}(cs:List α)(off:Nat)(vs:List α):put cs off vs=cs.take off++vs++cs.drop (off+vs.length):=id rfl
theorem aCm (a:Nat)(r:List TV):lG (.map a::r)=none:=id rfl
attribute [go_sem] aEm aHj pK aKi aKj aKk aP5
attribute [go_sem] aEn aHk aKl
attribute [go_sem] aHl aKm aKn
attribute [go_sem] aHm aP6
attribute [go_sem] aKo aAh aHn
attribute [go_sem] aHo aKp aP7 aP8 aW0 aW1 aW2 aW3 aW4 aKq
attribute [go_sem] aKr aKs aP9 aCm aKt aHp aQa aQb bGa bGb
attribute [go_sem] List.length_cons List.length_nil List.take_succ_cons List.drop_succ_cons List.take_zero List.drop_zero List.take_nil List.drop_nil and_self and_true true_and
attribute [go_sem] aCm
def aKu (w:Nat)(env:Env)(S:aA)(a:TV)(vs:List TV):Option (TV×Env×aA):=if vs.length=w then zZ (setCells env S a vs) else none
theorem fD (w:Nat)(env:Env)(S:aA)(a v:TV):vB w env S a v=aKu w env S a (cellsOf v):=by
 unfold aKu
 split
 ·rename_i h; exact aOy env S w a v h
 ·rename_i h; simp only[vB,h,↓reduceIte]
theorem eB (w:Nat)(env:Env)(S:aA)(a:TV)(vs:List TV):aKu w env S a vs=if vs.length=w then zZ (setCells env S a vs) else none:=id rfl
def lbK (off n:Nat):TV→Option (List TV)
 | .lb cs=>sub cs off n
 | _=>none
theorem bGc (off n:Nat)(cs:List TV):lbK off n (.lb cs)=sub cs off n:=id rfl
theorem aHq (env:Env)(S:aA)(j off n:Nat):bH env S (.lp j off) n=lbK off n (env.getD j .hole):=by
 simp only[bH,List.getD]
 cases env[j]? with
 | none=>rfl
 | some v=>cases v<;>rfl
def blK (v off n:Nat):Option bG→Option (List TV)
 | some (.cells v' _ cs)=>if v'=v then sub cs off n else none
 | some (.frz v' cs)=>if v'=v then (sub cs off n).map (·.map .iv) else none
 | _=>none
theorem aQc (v off n v':Nat)(l:Bool)(cs:List TV):blK v off n (some (.cells v' l cs))=if v'=v then sub cs off n else none:=id rfl
theorem aEo (env:Env)(S:aA)(i v off n:Nat):bH env S (.ptr i v off) n=blK v off n (S[i]?):=by
 simp only[bH]
 cases S[i]? with
 | none=>rfl
 | some b=>cases b<;>rfl
def bDy (env:Env)(S:aA)(j off:Nat)(vs:List TV):TV→Option (Env×aA)
 | .lb cs=>if off+vs.length≤cs.length then some (env.set j (.lb (put cs off vs)),S) else none
 | _=>none
theorem aW6 (env:Env)(S:aA)(j off:Nat)(vs cs:List TV):bDy env S j off vs (.lb cs)=if off+vs.length≤cs.length then some (env.set j (.lb (put cs off vs)),S) else none:=id rfl
theorem aHr (env:Env)(S:aA)(j off:Nat)(vs:List TV):setCells env S (.lp j off) vs=if vs.any bO then none else bDy env S j off vs (env.getD j .hole):=by
 simp only[setCells,List.getD]
 split
 ·rfl
 ·cases env[j]? with
  | none=>rfl
  | some v=>cases v<;>rfl
def bDz (env:Env)(S:aA)(i v off:Nat)(vs:List TV):Option bG→Option (Env×aA)
 | some (.cells v' l cs)=>if v'=v∧off+vs.length≤cs.length then some (env,S.set i (.cells v' l (put cs off vs))) else none
 | _=>none
theorem aHs (env:Env)(S:aA)(i v off:Nat)(vs:List TV)(v':Nat)(l:Bool)(cs:List TV):bDz env S i v off vs (some (.cells v' l cs))=if v'=v∧off+vs.length≤cs.length then some (env,S.set i (.cells v' l (put cs off vs))) else none:=id rfl
theorem aEp (env:Env)(S:aA)(i v off:Nat)(vs:List TV):setCells env S (.ptr i v off) vs=if vs.any bO then none else bDz env S i v off vs (S[i]?):=by
 simp only[setCells]
 split
 ·rfl
 ·cases S[i]? with
  | none=>rfl
  | some b=>cases b<;>rfl
theorem aQd (j off n:Nat):dL (.lp j off) n=some (.lp j (off+n)):=id rfl
theorem aKv (i v off n:Nat):dL (.ptr i v off) n=some (.ptr i v (off+n)):=id rfl
theorem aKw (S:aA)(t:Tag)(l:List (List IV)):eJ S (.iv (.sl t l))=some l:=id rfl
theorem bHt:(false=true)=False:=by simp
attribute [go_sem] fD eB bGc aHq aQc aEo aW6 aHr aHs aEp aQd aKv aKw bHt
attribute [go_sem] bB4 aWc
attribute [go_sem] aWd
attribute [go_sem] eq_self bIn bIo List.any_cons List.any_nil List.all_cons List.all_nil TM.undef cA Bool.true_and Bool.and_true Bool.false_and Bool.and_false Bool.or_false Bool.false_or Bool.true_or Bool.or_true Bool.not_true Bool.not_false ite_true ite_false
end Go.TM
namespace Go.TM
@[reducible] def TT {β:Type} (α:Type) (a:β):Type:=α
def br' {α:Type}(B:Bool)(x y:Out α):TT (Out α) (x,y):=br B x y
def bk' (K:bI)(O:Orc)(fs:List Fr)(j:bK)(e:Env)(S:aA):TT (Out (bK×Env×aA)) (fs,j,e,S):=bk K O fs j e S
def go' (K:bI)(O:Orc)(c:aJ)(fs:List Fr)(e:Env)(S:aA):TT (Out (bK×Env×aA)) (c,fs,e,S):=go K O c fs e S
def cJ (K:bI)(n:Nat)(env:Env)(M:List (Nat×TV))(x:aF):TT (TV) (n,env,M,x):=opv K n env M x
def qN (K:bI)(O:Orc)(ops:List aH)(i:Nat)(M:List (Nat×TV))(n:Nat)(fs:List Fr)(env:Env)(S:aA):TT (Out (bK×Env×aA)) (ops,M,n,fs,S):=wbk K O ops i M n fs env S
def aQe (K:bI)(O:Orc)(all ops:List aH)(i:Nat)(M:List (Nat×TV))(n:Nat)(fs:List Fr)(env:Env)(S:aA):TT (Out (bK×Env×aA)) (all,ops,M,n,fs,env,S):=rgR K O all ops i M n fs env S
def bCc (K:bI)(O:Orc)(ops:List aH)(ps:List (Nat×List Nat×List Nat))(M:List (Nat×TV))(n:Nat)(fs:List Fr)(env:Env)(S:aA):TT (Out (bK×Env×aA)) (ops,ps,M,n,fs,env,S):=phs K O ops ps M n fs env S
def aHt (K:bI)(O:Orc)(ops:List aH)(is:List Nat)(ps:List (Nat×List Nat×List Nat))(M:List (Nat×TV))(n:Nat)(fs:List Fr)(env:Env)(S:aA):TT (Out (bK×Env×aA)) (ops,is,ps,M,n,fs,env,S):=fls K O ops is ps M n fs env S
def bGd (K:bI)(O:Orc)(c:Bool)(ops:List aH)(is:List Nat)(ps:List (Nat×List Nat×List Nat))(M:List (Nat×TV))(n:Nat)(fs:List Fr)(env:Env)(S:aA):TT (Out (bK×Env×aA)) (ops,is,ps,M,n,fs,env,S):=chk K O c ops is ps M n fs env S
def mQ (K:bI)(O:Orc)(k:Kt)(M:List (Nat×TV))(n:Nat)(fs:List Fr)(env:Env)(S:aA):TT (Out (bK×Env×aA)) (k,M,n,fs,env,S):=gB K O k M n fs env S
def eW (K:bI)(O:Orc)(o:TOp)(i:Nat)(k:Kt)(M:List (Nat×TV))(n:Nat)(fs:List Fr)(env:Env)(S:aA):TT (Out (bK×Env×aA)) (o,i,k,M,n,fs,env,S):=op1 K O o i k M n fs env S
def aQf (K:bI)(O:Orc)(g:TV)(want:Bool)(j:Nat)(o:TOp)(i:Nat)(k:Kt)(M:List (Nat×TV))(n:Nat)(fs:List Fr)(env:Env)(S:aA):TT (Out (bK×Env×aA)) (want,j,o,i,k,M,n,fs,env,S):=opG K O g want j o i k M n fs env S
def lP (K:bI)(O:Orc)(v:Option TV)(i:Nat)(k:Kt)(M:List (Nat×TV))(n:Nat)(fs:List Fr)(env:Env)(S:aA):TT (Out (bK×Env×aA)) (i,k,M,n,fs,env,S):=opV K O v i k M n fs env S
def aW7 (K:bI)(O:Orc)(v:Option (TV×bG))(i:Nat)(k:Kt)(M:List (Nat×TV))(n:Nat)(fs:List Fr)(env:Env)(S:aA):TT (Out (bK×Env×aA)) (i,k,M,n,fs,env,S):=opA K O v i k M n fs env S
def aQg (K:bI)(O:Orc)(v:Option (TV×aA))(i:Nat)(k:Kt)(M:List (Nat×TV))(n:Nat)(fs:List Fr)(env:Env):TT (Out (bK×Env×aA)) (i,k,M,n,fs,env):=opS K O v i k M n fs env
def aHu (K:bI)(O:Orc)(v:Option (TV×Env×aA))(i:Nat)(k:Kt)(M:List (Nat×TV))(n:Nat)(fs:List Fr):TT (Out (bK×Env×aA)) (i,k,M,n,fs):=opE K O v i k M n fs
def wV (K:bI)(O:Orc)(x:Out (TV×aA))(i:Nat)(k:Kt)(M:List (Nat×TV))(n:Nat)(fs:List Fr)(env:Env):TT (Out (bK×Env×aA)) (i,k,M,n,fs,env):=opC K O x i k M n fs env
def bGe (K:bI)(O:Orc)(c a b:TV)(i:Nat)(k:Kt)(M:List (Nat×TV))(n:Nat)(fs:List Fr)(env:Env)(S:aA):TT (Out (bK×Env×aA)) (i,k,M,n,fs,env,S):=opP K O c a b i k M n fs env S
def bGf (K:bI)(O:Orc)(c:TV)(a b:aJ)(fs:List Fr)(env:Env)(S:aA):TT (Out (bK×Env×aA)) (a,b,fs,env,S):=goC K O c a b fs env S
def lp' (O:Orc)(b:aJ)(env:Env)(S:aA):TT (Out (bK×Env×aA)) (b,env,S):=lp O b env S
def bGg (K:bI)(O:Orc)(x:Out (bK×Env×aA))(fs:List Fr):TT (Out (bK×Env×aA)) (fs):=goL K O x fs
def bGh (K:bI)(O:Orc)(n:Nat)(ops:List aH)(fs:List Fr)(env:Env)(S:aA):TT (Out (bK×Env×aA)) (ops,fs,env,S):=rgN K O n ops fs env S
def aCn (l:List aH)(n:Nat):TT Nat l:=wS l n
def bCd (c:Bool)(x y:Out (bK×Env×aA)):TT (Out (bK×Env×aA)) (x,y):=flB c x y
def bCe (K:bI)(O:Orc)(o:Option aH)(i:Nat)(ops:List aH)(is:List Nat)(ps:List (Nat×List Nat×List Nat))(M:List (Nat×TV))(n:Nat)(fs:List Fr)(env:Env)(S:aA):TT (Out (bK×Env×aA)) (i,ops,is,ps,M,n,fs,env,S):=flO K O o i ops is ps M n fs env S
def bCf (K:bI)(O:Orc)(o:Option aH)(i:Nat)(ops:List aH)(c fl:List Nat)(ps:List (Nat×List Nat×List Nat))(M:List (Nat×TV))(n:Nat)(fs:List Fr)(env:Env)(S:aA):TT (Out (bK×Env×aA)) (i,ops,c,fl,ps,M,n,fs,env,S):=phO K O o i ops c fl ps M n fs env S
def aAi (K:bI)(O:Orc)(v:TV)(j:Nat)(ops:List aH)(i:Nat)(M:List (Nat×TV))(n:Nat)(fs:List Fr)(env:Env)(S:aA):TT (Out (bK×Env×aA)) (j,ops,i,M,n,fs,env,S):=wbV K O v j ops i M n fs env S
def aW8 (K:bI)(O:Orc)(w:Nat)(x:Option (List (List IV)))(es:Option (List (List TV)))(i:Nat)(k:Kt)(M:List (Nat×TV))(n:Nat)(fs:List Fr)(env:Env)(S:aA):TT (Out (bK×Env×aA)) (w,i,k,M,n,fs,env,S):=aG7 K O w x es i k M n fs env S
def bCg (c:Bool)(x y:Out (bK×Env×aA)):TT (Out (bK×Env×aA)) (x,y):=alB c x y
def bCh (S:aA)(args:List TV)(v:Option TV):TT (Out (TV×aA)) (S,args):=cpV S args v
def bCi (S:aA)(args:List TV)(x:Out (TV×aA)):TT (Out (TV×aA)) (S,args):=cpR S args x
def aQh (O:Orc)(S:aA)(args:List TV)(f:Nat)(ags:Option (List TV)):TT (Out (TV×aA)) (S,args,f):=cpA O S args f ags
def bCj (c:Bool)(S:aA)(args:List TV)(v:TV):TT (Out (TV×aA)) (S,args,v):=cpB c S args v
def aW9 (v:TV)(x:Option aA):TT (Out (TV×aA)) (v):=bB0 v x
def bGi (t:Bool)(S:aA)(x:Out (TV×aA)):TT (Out (TV×aA)) (t,S):=csR t S x
def aXa (O:Orc)(t:Bool)(S:aA)(f:Nat)(lp:Bool)(args:List TV):TT (Out (TV×aA)) (t,S,f):=csA O t S f lp args
def aEq (rs:List lF)(x:Out (bK×Env×aA)):TT (Out (TV×aA)) (rs):=fin rs x
def aNj (S:aA)(v:Option TV):TT (Out (TV×aA)) (S):=aPg S v
def aQi (O:Orc)(b:aJ)(x:Out (bK×Env×aA)):TT (Out (bK×Env×aA)) (b):=rnd O b x
def aQj (K:bI)(M:List (Nat×TV))(n:Nat)(env:Env)(S:aA)(o:TOp):TT (Option TV) (M,n,env,S,o):=flM K M n env S o
def aXb (K:bI)(ops:List aH)(M:List (Nat×TV))(n:Nat)(env:Env)(S:aA)(c:List Nat):TT (Bool) (ops,M,n,env,S,c):=rck K ops M n env S c
def bGj (K:bI)(g:TV)(want:Bool)(j:Nat)(M:List (Nat×TV))(n:Nat)(env:Env)(S:aA)(o:TOp):TT (Bool) (want,j,M,n,env,S,o):=rcG K g want j M n env S o
def bCk (K:bI)(x:Option aH)(j:Nat)(M:List (Nat×TV))(n:Nat)(env:Env)(S:aA):TT (Bool) (j,M,n,env,S):=rcO K x j M n env S
def aXc (K:bI)(O:Orc)(n:Nat)(f0:List Nat)(ph:List (Nat×List Nat×List Nat))(ops:List aH)(fs:List Fr)(env:Env)(S:aA):TT (Out (bK×Env×aA)) (f0,ph,ops,fs,env,S):=aWi K O n f0 ph ops fs env S
section
variable (K:bI)(O:Orc)(ops:List aH)(is:List Nat)(ps:List (Nat×List Nat×List Nat))(i:Nat)(k:Kt)(M:List (Nat×TV))(n:Nat)(fs:List Fr)(env:Env)(S:aA)
theorem aXd {α:Type}(x y:Out α):br' true x y=x:=_root_.id (qG ..)
theorem aQk {α:Type}(x y:Out α):br' false x y=y:=_root_.id (mO ..)
theorem bCl {α:Type}(B:Bool)(x y:Out α):br' (!B) x y=br' B y x:=_root_.id (bFp ..)
theorem dG {α:Type}{B:Bool}{x y z:Out α}(h:B=true→x=z)(g:B=false→y=z):br' B x y=z:=bHg h g
theorem aXe (n:Nat)(env:Env)(M:List (Nat×TV))(j:Nat):cJ K n env M (.reg j)=if j<n then reg M j else .hole:=_root_.id (aD9 ..)
theorem aXf (n:Nat)(env:Env)(M:List (Nat×TV))(j:Nat):cJ K n env M (.loc j)=tT j (env.getD j .hole):=_root_.id (bA8 ..)
theorem aXg (n:Nat)(env:Env)(M:List (Nat×TV))(v:IV):cJ K n env M (.cst v)=.iv v:=_root_.id (bA9 ..)
theorem bCm (n:Nat)(env:Env)(M:List (Nat×TV))(f:Nat):cJ K n env M (.fn f)=.fn f [] []:=_root_.id (bFq ..)
theorem aQl (n:Nat)(env:Env)(M:List (Nat×TV))(g:Nat):cJ K n env M (.glob g)=aVa (K.glob g):=_root_.id (aVb ..)
theorem aQm (v:TV):lP K O (some v) i k M n fs env S=mQ K O k ((i,v)::M) n fs env S:=_root_.id (aVc ..)
theorem aQn (v:TV)(b:bG):aW7 K O (some (v,b)) i k M n fs env S=aQg K O (some (v,S++[b])) i k M n fs env:=_root_.id (aVd ..)
theorem aQo (v:TV):aQg K O (some (v,S)) i k M n fs env=mQ K O k ((i,v)::M) n fs env S:=_root_.id (aVe ..)
theorem aQp (v:TV):aHu K O (some (v,env,S)) i k M n fs=mQ K O k ((i,v)::M) n fs env S:=_root_.id (aVf ..)
theorem aXh (v:TV):wV K O (.ret (v,S)) i k M n fs env=mQ K O k ((i,v)::M) n fs env S:=_root_.id (bBa ..)
theorem aQq (t:Bool)(a b:TV):bGe K O (.iv (.bool t)) a b i k M n fs env S=br' t (mQ K O k ((i,a)::M) n fs env S) (mQ K O k ((i,b)::M) n fs env S):=_root_.id (aVg ..)
theorem aQr (b want:Bool)(j:Nat)(o:TOp):aQf K O (.iv (.bool b)) want j o i k M n fs env S=br' (b==want) (eW K O o i k ((j,.iv (.bool want))::M) n fs env S) (mQ K O k ((i,undef)::(j,.iv (.bool (!want)))::M) n fs env S):=_root_.id (aVh ..)
theorem aKx (want:Bool)(j:Nat)(o:TOp):aQf K O (.tup []) want j o i k M n fs env S=mQ K O k ((i,undef)::M) n fs env S:=_root_.id (aOs ..)
theorem aQs:bGd K O true ops is ps M n fs env S=aHt K O ops is ps M n fs env S:=_root_.id (aVi ..)
theorem bCn (j:bK):bk' K O [] j env S=.ret (j,env,S):=_root_.id (bFr ..)
theorem bCo (b:aJ):bk' K O (.seq b::fs) .normal env S=go' K O b fs env S:=_root_.id (bFs ..)
theorem aHv (b:aJ):bk' K O (.seq b::fs) .ret env S=bk' K O fs .ret env S:=_root_.id (aJy ..)
theorem aEr (b:aJ)(id:Nat):bk' K O (.seq b::fs) (.exit id) env S=bk' K O fs (.exit id) env S:=_root_.id (aG0 ..)
theorem bCp (id:Nat):bk' K O (.blk id::fs) .normal env S=bk' K O fs .normal env S:=_root_.id (bFt ..)
theorem aHw (id:Nat):bk' K O (.blk id::fs) .ret env S=bk' K O fs .ret env S:=_root_.id (aJz ..)
theorem aEs (id id':Nat):bk' K O (.blk id::fs) (.exit id') env S=if id'=id then bk' K O fs .normal env S else bk' K O fs (.exit id') env S:=_root_.id (aG1 ..)
theorem go_skip':go' K O .skip fs env S=bk' K O fs .normal env S:=_root_.id (go_skip ..)
theorem go_ret':go' K O .ret fs env S=bk' K O fs .ret env S:=_root_.id (go_ret ..)
theorem go_exit' (id:Nat):go' K O (.exit id) fs env S=bk' K O fs (.exit id) env S:=_root_.id (go_exit ..)
theorem go_seq' (a b:aJ):go' K O (.seq a b) fs env S=go' K O a (.seq b::fs) env S:=_root_.id (go_seq ..)
theorem go_block' (id:Nat)(b:aJ):go' K O (.block id b) fs env S=go' K O b (.blk id::fs) env S:=_root_.id (go_block ..)
theorem aQt (t:Bool)(a b:aJ):bGf K O (.iv (.bool t)) a b fs env S=br' t (go' K O a fs env S) (go' K O b fs env S):=_root_.id (aVj ..)
theorem go_cond' (c:aF)(a b:aJ):go' K O (.cond c a b) fs env S=bGf K O (cJ K 0 env [] c) a b fs env S:=_root_.id (go_cond ..)
theorem aXi (j:bK):bGg K O (.ret (j,env,S)) fs=bk' K O fs j env S:=_root_.id (bBb ..)
theorem go_loop' (b:aJ):go' K O (.loop b) fs env S=bGg K O (lp' O b env S) fs:=_root_.id (go_loop ..)
theorem bCq:bGh K O n ops fs env S=aQe K O ops ops 0 [] n fs env S:=_root_.id (aVk ..)
theorem aXj (all:List aH):mQ K O (.rg all ops i) M n fs env S=aQe K O all ops (i+1) M n fs env S:=_root_.id (bBc ..)
theorem aXk:mQ K O (.fl ops is ps) M n fs env S=aHt K O ops is ps M n fs env S:=_root_.id (aNd ..)
theorem aXl (all:List aH):aQe K O all [] i M n fs env S=qN K O all 0 M n fs env S:=_root_.id (bBd ..)
theorem aQu (all:List aH)(o:TOp)(l:Option Nat):aQe K O all (⟨o,l,none⟩::ops) i M n fs env S=eW K O o i (.rg all ops i) M n fs env S:=_root_.id (aVl ..)
theorem aKy (all:List aH)(o:TOp)(l:Option Nat)(j:Nat)(want:Bool):aQe K O all (⟨o,l,some (j,want)⟩::ops) i M n fs env S=aQf K O (cJ K n env M (.reg j)) want j o i (.rg all ops i) M n fs env S:=_root_.id (aOt ..)
theorem aQv (x y:Out (bK×Env×aA)):bCd true x y=x:=_root_.id (zX ..)
theorem aQw (o:TOp)(l:Option Nat):bCe K O (some ⟨o,l,none⟩) i ops is ps M n fs env S=bCd (floats o) (eW K O o i (.fl ops is ps) M n fs env S) (aHt K O ops (i::is) ps M n fs env S):=_root_.id (aG2 ..)
theorem aKz (o:TOp)(l:Option Nat)(j:Nat)(want:Bool):bCe K O (some ⟨o,l,some (j,want)⟩) i ops is ps M n fs env S=bCd (floats o) (aQf K O (cJ K n env M (.reg j)) want j o i (.fl ops is ps) M n fs env S) (aHt K O ops (i::is) ps M n fs env S):=_root_.id (aCh ..)
theorem aXm:aHt K O ops [] ps M n fs env S=bCc K O ops ps M n fs env S:=_root_.id (bBe ..)
theorem aQx:aHt K O ops (i::is) ps M n fs env S=bCe K O (uZ ops i) i ops is ps M n fs env S:=_root_.id (aVn ..)
theorem aXn:bCc K O ops [] M n fs env S=qN K O ops 0 M n fs env S:=_root_.id (bBf ..)
theorem aQy (c fl:List Nat)(o:TOp)(l:Option Nat):bCf K O (some ⟨o,l,none⟩) i ops c fl ps M n fs env S=eW K O o i (.ph ops c fl ps) M n fs env S:=_root_.id (aG3 ..)
theorem aK0 (c fl:List Nat)(o:TOp)(l:Option Nat)(j:Nat)(want:Bool):bCf K O (some ⟨o,l,some (j,want)⟩) i ops c fl ps M n fs env S=aQf K O (cJ K n env M (.reg j)) want j o i (.ph ops c fl ps) M n fs env S:=_root_.id (aCi ..)
theorem aQz (c fl:List Nat):bCc K O ops ((i,c,fl)::ps) M n fs env S=bCf K O (uZ ops i) i ops c fl ps M n fs env S:=_root_.id (aVo ..)
theorem aXo:qN K O [] i M n fs env S=bk' K O fs .normal env S:=_root_.id (bBg ..)
theorem aQ0 (o:TOp)(g:Option (Nat×Bool)):qN K O (⟨o,none,g⟩::ops) i M n fs env S=qN K O ops (i+1) M n fs env S:=_root_.id (aVp ..)
theorem aQ1 (o:TOp)(j:Nat)(g:Option (Nat×Bool)):qN K O (⟨o,some j,g⟩::ops) i M n fs env S=aAi K O (cJ K n env M (.reg i)) j ops i M n fs env S:=_root_.id (aVq ..)
theorem aNk (v:IV)(j:Nat):aAi K O (.iv v) j ops i M n fs env S=qN K O ops (i+1) M n fs (env.set j (.iv v)) S:=_root_.id (bFu ..)
theorem aXp (a b c:Nat)(j:Nat):aAi K O (.ptr a b c) j ops i M n fs env S=qN K O ops (i+1) M n fs (env.set j (.ptr a b c)) S:=_root_.id (bBh ..)
theorem aXq (a b c d e f:Nat)(j:Nat):aAi K O (.msl a b c d e f) j ops i M n fs env S=qN K O ops (i+1) M n fs (env.set j (.msl a b c d e f)) S:=_root_.id (bBi ..)
theorem aHx (a:Nat)(l:List (List IV))(j:Nat):aAi K O (.tsl a l) j ops i M n fs env S=qN K O ops (i+1) M n fs (env.set j (.tsl a l)) S:=_root_.id (bBj ..)
theorem bCr (a:Nat)(j:Nat):aAi K O (.it a) j ops i M n fs env S=qN K O ops (i+1) M n fs (env.set j (.it a)) S:=_root_.id (bFv ..)
theorem bCs (f:Nat)(a b:List TV)(j:Nat):aAi K O (.fn f a b) j ops i M n fs env S=qN K O ops (i+1) M n fs (env.set j (.fn f a b)) S:=_root_.id (bFw ..)
theorem aXr (c:List TV)(j:Nat):aAi K O (.tup c) j ops i M n fs env S=qN K O ops (i+1) M n fs (env.set j (.tup c)) S:=_root_.id (bBk ..)
theorem aQ2  (j:Nat):aAi K O (.hole) j ops i M n fs env S=qN K O ops (i+1) M n fs (env.set j (.hole)) S:=_root_.id (aVr ..)
theorem cN {α:Type}{p:Prop}[Decidable p]{x y z:Out α}(h:p→x=z)(g:¬p→y=z):br' (decide p) x y=z:=bFy h g
theorem cO {α:Type}{a b:Int}{x y z:Out α}(h:a=b→x=z)(g:a≠b→y=z):br' (a==b) x y=z:=bFz h g
theorem cP {α:Type}{a b:Int}{x y z:Out α}(h:a≠b→x=z)(g:a=b→y=z):br' (a != b) x y=z:=bF0 h g
theorem aXs (x:aF):eW K O (.mov x) i k M n fs env S=lP K O (some (cJ K n env M x)) i k M n fs env S:=_root_.id (bBt ..)
theorem aQ3 (c a b:aF):eW K O (.pick c a b) i k M n fs env S=bGe K O (cJ K n env M c) (cJ K n env M a) (cJ K n env M b) i k M n fs env S:=_root_.id (aVz ..)
theorem aK1 (z:List IV)(ps:List (Nat×Nat×aF)):eW K O (.build z ps) i k M n fs env S=lP K O ((fill (z.map .iv) (cJ K n env M) ps).map nS) i k M n fs env S:=_root_.id (aOz ..)
theorem aBd (x:aF):eW K O (.nilCheck x) i k M n fs env S=lP K O (bBm (cJ K n env M x)) i k M n fs env S:=_root_.id (aEe ..)
theorem aXt (op:BinOp)(x y:aF):eW K O (.bin op x y) i k M n fs env S=lP K O (ivO (binOp op (cJ K n env M x) (cJ K n env M y))) i k M n fs env S:=_root_.id (bBu ..)
theorem aXu (neg:Bool)(ek:EK)(x y:aF):eW K O (.eqB neg ek x y) i k M n fs env S=lP K O (eqV neg (eqB ek (cJ K n env M x) (cJ K n env M y))) i k M n fs env S:=_root_.id (bBv ..)
theorem aK2 (neg:Bool)(offs:List (Nat×LK))(x y:aF):eW K O (.eqAgg neg offs x y) i k M n fs env S=lP K O (ivO (eqAgg neg offs (cJ K n env M x) (cJ K n env M y))) i k M n fs env S:=_root_.id (aO0 ..)
theorem bCt (op:UnOp)(x:aF):eW K O (.un op x) i k M n fs env S=lP K O (ivO (unOp op (cJ K n env M x))) i k M n fs env S:=_root_.id (bF1 ..)
theorem aQ4 (f:Nat)(a b:List aF):eW K O (.mkFn f a b) i k M n fs env S=lP K O (aNg f (a.map (cJ K n env M)) (b.map (cJ K n env M))) i k M n fs env S:=_root_.id (aV0 ..)
theorem aAj (off:Nat)(x:aF):eW K O (.fieldAddr off x) i k M n fs env S=lP K O (dL (cJ K n env M x) off) i k M n fs env S:=_root_.id (aA9 ..)
theorem wW (es:Nat)(x y:aF):eW K O (.indexAddrS es x y) i k M n fs env S=lP K O (ixS es (cJ K n env M x) (cJ K n env M y)) i k M n fs env S:=_root_.id (aAa ..)
theorem wX (len es:Nat)(x y:aF):eW K O (.indexAddrA len es x y) i k M n fs env S=lP K O (ixA len es (cJ K n env M x) (cJ K n env M y)) i k M n fs env S:=_root_.id (aAb ..)
theorem aHy (x y:aF):eW K O (.indexS x y) i k M n fs env S=lP K O (tU (cJ K n env M x) (cJ K n env M y)) i k M n fs env S:=_root_.id (aJ6 ..)
theorem aEt (j:Nat)(x:aF):eW K O (.extract j x) i k M n fs env S=lP K O (xtr j (cJ K n env M x)) i k M n fs env S:=_root_.id (aG6 ..)
theorem aK3 (a:aF):eW K O (.load1 a) i k M n fs env S=lP K O (mP false (bH env S (cJ K n env M a) 1)) i k M n fs env S:=_root_.id (aO1 ..)
theorem aK4 (w:Nat)(a:aF):eW K O (.loadN w a) i k M n fs env S=lP K O (mP true (bH env S (cJ K n env M a) w)) i k M n fs env S:=_root_.id (aO2 ..)
theorem aK5 (sk:SK)(x:aF)(lo hi mx:Option aF):eW K O (.slice sk x lo hi mx) i k M n fs env S=lP K O (slV S sk (cJ K n env M x) (oI (lo.map (cJ K n env M))) (oI (hi.map (cJ K n env M))) (oI (mx.map (cJ K n env M)))) i k M n fs env S:=_root_.id (aO3 ..)
theorem aHz (kk:KK)(z:IV)(ok:Bool)(m y:aF):eW K O (.lookup kk z ok m y) i k M n fs env S=lP K O (aL (.lookup kk z ok m y) (cJ K n env M) env S) i k M n fs env S:=_root_.id (aJ7 ..)
theorem aXv (nk:NK)(x:aF):eW K O (.len nk x) i k M n fs env S=lP K O (aEc nk S (cJ K n env M x)) i k M n fs env S:=_root_.id (bBw ..)
theorem aK6 (kd:IntKind)(x:aF):eW K O (.conv (.toInt kd) x) i k M n fs env S=lP K O (ivO (cT (.toInt kd) (cJ K n env M x))) i k M n fs env S:=_root_.id (aO4 ..)
theorem aBe (x:aF):eW K O (.conv .strBytes x) i k M n fs env S=lP K O (ivO (cT .strBytes (cJ K n env M x))) i k M n fs env S:=_root_.id (aEf ..)
theorem aBf (x:aF):eW K O (.conv .bytesStr x) i k M n fs env S=lP K O (bsV (eJ S (cJ K n env M x))) i k M n fs env S:=_root_.id (aEg ..)
theorem aK7 (w:Nat)(l:List (List IV))(es:Option (List (List TV))):aW8 K O w (some l) es i k M n fs env S=mQ K O k ((i,.iv (.sl .full l))::M) n fs env S:=_root_.id (aO5 ..)
theorem aXw (z:List IV)(len:Nat)(ps:List (Nat×aF)):eW K O (.lit false z len ps) i k M n fs env S=aW8 K O z.length (bBx (dM (List.replicate len (z.map .iv)) z.length (cJ K n env M) ps)) (dM (List.replicate len (z.map .iv)) z.length (cJ K n env M) ps) i k M n fs env S:=_root_.id (bBy ..)
theorem aQ5 (z:List IV)(len:Nat)(ps:List (Nat×aF)):eW K O (.lit true z len ps) i k M n fs env S=aW7 K O (aEd S.length z.length (dM (List.replicate len (z.map .iv)) z.length (cJ K n env M) ps)) i k M n fs env S:=_root_.id (aV1 ..)
theorem aH0 (t:Nat)(z:List IV):eW K O (.allocH t z) i k M n fs env S=aQg K O (some (.ptr S.length t 0,S++[.cells t false (z.map .iv)])) i k M n fs env:=_root_.id (aJ8 ..)
theorem aK8:eW K O .mkMap i k M n fs env S=aQg K O (some (.map S.length,S++[.mp [] 0])) i k M n fs env:=_root_.id (aO7 ..)
theorem aEu (z:List IV)(bytes:Nat)(l c:aF):eW K O (.mkSlice z bytes l c) i k M n fs env S=aW7 K O (mkV z bytes S.length (cJ K n env M l) (cJ K n env M c)) i k M n fs env S:=_root_.id (aG8 ..)
theorem aQ6 (t:Nat)(x:aF):eW K O (.boxH t x) i k M n fs env S=aW7 K O (bF6 t S.length (cJ K n env M x)) i k M n fs env S:=_root_.id (aV2 ..)
theorem aQ7 (x y:Out (bK×Env×aA)):bCg true x y=x:=_root_.id (aAc ..)
theorem aH1 (j:Nat)(z:List IV):eW K O (.allocL j z) i k M n fs env S=bCg (okL j M env) (aHu K O (some (.lp j 0,env.set j (.lb (z.map .iv)),S)) i k M n fs) (eW K O (.allocL j z) i k M n fs env S):=_root_.id (aJ9 ..)
theorem aQ8 (j:Nat)(x:aF):eW K O (.boxL j x) i k M n fs env S=bCg (okL j M env) (aHu K O (if (cellsOf (cJ K n env M x)).any bO then none else some (.lp j 0,env.set j (.lb (cellsOf (cJ K n env M x))),S)) i k M n fs) (eW K O (.boxL j x) i k M n fs env S):=_root_.id (aV3 ..)
theorem aK9 (w:Nat)(a v:aF):eW K O (.store w a v) i k M n fs env S=aHu K O (vB w env S (cJ K n env M a) (cJ K n env M v)) i k M n fs:=_root_.id (aO9 ..)
theorem aH2 (kk:KK)(m y x:aF):eW K O (.update kk m y x) i k M n fs env S=aHu K O (fO (.update kk m y x) (cJ K n env M) (cW M n) env S) i k M n fs:=_root_.id (aKa ..)
theorem aLa (str:Bool)(x:aF):eW K O (.range str x) i k M n fs env S=aHu K O (aJ4 str env S (cJ K n env M x)) i k M n fs:=_root_.id (aPa ..)
theorem aLb (x:aF):eW K O (.nextS x) i k M n fs env S=aHu K O (aVy env S (cJ K n env M x)) i k M n fs:=_root_.id (aPb ..)
theorem aH3 (mu:Bool)(es bytes el:Nat)(s x:aF):eW K O (.append mu es bytes el s x) i k M n fs env S=aQg K O (bW mu es bytes el S (cJ K n env M s) (cJ K n env M x)) i k M n fs env:=_root_.id (aKb ..)
theorem aQ9 (args ags:List TV)(f:Nat):aQh O S args f (some ags)=bCi S args (O.call f ags []):=_root_.id (aV4 ..)
theorem aH4 (args:List TV)(v:TV)(S':aA):bCi S args (.ret (v,S'))=bCh S args (resolve S' v):=_root_.id (bBz ..)
theorem aRa (args:List TV)(v:TV):bCh S args (some v)=bCj (args.any nT&&!(hO v)) S args v:=_root_.id (aV5 ..)
theorem aLc (args:List TV)(v:TV):bCj false S args v=.ret (v,S):=_root_.id (aPc ..)
theorem aLd (v:TV):aW9 v (some S)=.ret (v,S):=_root_.id (aPd ..)
theorem aRb (args:List TV)(v:TV):bCj true S args v=aW9 v (dO S args):=_root_.id (aV6 ..)
theorem aLe (t:Bool)(f:Nat)(args:List aF):eW K O (.call true t f args) i k M n fs env S=wV K O (aQh O S (args.map (cJ K n env M)) f (dK S (args.map (cJ K n env M)))) i k M n fs env:=_root_.id (aPe ..)
theorem bCu (t:Bool)(f:Nat)(args:List TV):aXa O t S f false args=bGi t S (O.call f args S):=_root_.id (bF7 ..)
theorem bGk (v:TV)(S':aA):bGi false S (.ret (v,S'))=.ret (v,S'):=_root_.id (bHk ..)
theorem aLf (t:Bool)(f:Nat)(args:List aF):eW K O (.call false t f args) i k M n fs env S=wV K O (aXa O t S f ((args.map (cJ K n env M)).any dQ) (args.map (cJ K n env M))) i k M n fs env:=_root_.id (aPf ..)
theorem aLg (v:TV):aNj S (some v)=.ret (v,S):=_root_.id (aPh ..)
theorem aXx (rs:List lF):aEq rs (.ret (.ret,env,S))=aNj S (kO rs env S):=_root_.id (bB1 ..)
theorem aH5 (rs:List lF):aEq rs (.ret (.normal,env,S))=aNj S (kO rs env S):=_root_.id (aKc ..)
theorem bCv (rs:List lF)(B:Bool)(x y:Out (bK×Env×aA)):aEq rs (br' B x y)=br' B (aEq rs x) (aEq rs y):=_root_.id (bF8 ..)
theorem aD {f:Nat}{args:List TV}{fn:aV}{r:TV×aA}(hf:K.funcs f=some fn)(ha:args.length=fn.nparams)(h:aEq fn.results (go' K (lim K) fn.body [] (args++List.replicate (fn.nlocs-fn.nparams) undef) S)=.ret r):(lim K).call f args S=.ret r:=aV7 K S hf ha h
theorem aH6 (b:aJ):aQi O b (.ret (.normal,env,S))=er (lp' O b env S):=_root_.id (aKd ..)
theorem aXy (b:aJ):aQi O b (.ret (.ret,env,S))=.ret (.ret,env,S):=_root_.id (bB2 ..)
theorem aRc (b:aJ)(id:Nat):aQi O b (.ret (.exit id,env,S))=.ret (.exit id,env,S):=_root_.id (aV8 ..)
theorem qI {b:aJ}{r:bK×Env×aA}(h:aQi (lim K) b (go' K (lim K) b [] env S)=.ret r):lp' (lim K) b env S=.ret r:=aV9 K env S h
theorem aEv (x:aF):aQj K M n env S (.conv .bytesStr x)=bsV (eJ S (cJ K n env M x)):=_root_.id (aHc ..)
theorem aRd (a:aF):aQj K M n env S (.load1 a)=mP false (bH env S (cJ K n env M a) 1):=_root_.id (aWa ..)
theorem aRe (sk:SK)(x:aF)(lo hi mx:Option aF):aQj K M n env S (.slice sk x lo hi mx)=slV S sk (cJ K n env M x) (oI (lo.map (cJ K n env M))) (oI (hi.map (cJ K n env M))) (oI (mx.map (cJ K n env M))):=_root_.id (aWb ..)
theorem aRf (b want:Bool)(j:Nat)(o:TOp):bGj K (.iv (.bool b)) want j M n env S o=if b==want then rcS (aQj K M n env S o) (cJ K n env M (.reg j)) else true:=_root_.id (aWe ..)
theorem aRg (o:TOp)(l:Option Nat)(j:Nat):bCk K (some ⟨o,l,none⟩) j M n env S=rcS (aQj K M n env S o) (cJ K n env M (.reg j)):=_root_.id (aWf ..)
theorem aLh (o:TOp)(l:Option Nat)(g:Nat)(want:Bool)(j:Nat):bCk K (some ⟨o,l,some (g,want)⟩) j M n env S=bGj K (cJ K n env M (.reg g)) want j M n env S o:=_root_.id (aPi ..)
theorem aXz (ops:List aH):aXb K ops M n env S []=true:=_root_.id (bB5 ..)
theorem aRh (ops:List aH)(j:Nat)(c:List Nat):aXb K ops M n env S (j::c)=(bCk K (uZ ops j) j M n env S&&aXb K ops M n env S c):=_root_.id (aWg ..)
theorem aRi (ops:List aH)(ps:List (Nat×List Nat×List Nat))(c fl:List Nat):mQ K O (.ph ops c fl ps) M n fs env S=bGd K O (aXb K ops M n env S c) ops fl ps M n fs env S:=_root_.id (aWh ..)
theorem go_region' (K:bI)(O:Orc)(ops:List aH)(fs:List Fr)(env:Env)(S:aA):go' K O (.region ops) fs env S=bGh K O (aCn ops 0) ops fs env S:=_root_.id (go_region ..)
theorem aX0 (K:bI)(O:Orc)(n:Nat)(f0:List Nat)(ph:List (Nat×List Nat×List Nat))(ops:List aH)(fs:List Fr)(env:Env)(S:aA):aXc K O n f0 ph ops fs env S=aHt K O ops f0 ph [] n fs env S:=_root_.id (aNi ..)
theorem go_draw' (K:bI)(O:Orc)(f0:List Nat)(ph:List (Nat×List Nat×List Nat))(ops:List aH)(fs:List Fr)(env:Env)(S:aA):go' K O (.draw f0 ph ops) fs env S=aXc K O (aCn ops 0) f0 ph ops fs env S:=_root_.id (go_draw ..)
theorem aRj (n:Nat):aCn [] n=n:=_root_.id (aWj ..)
theorem aLi (a:aH)(l:List aH)(n:Nat):aCn (a::l) n=aCn l (n+1):=_root_.id (aPj ..)
attribute [go_sem] aXd aQk bCl aXe aXf aXg bCm aQl aQm aQn aQo aQp
attribute [go_sem] aXh aQq aQr aKx aQs bCn bCo aHv aEr bCp aHw aEs
attribute [go_sem] go_skip' go_ret' go_exit' go_seq' go_block' aQt go_cond' aXi go_loop' bCq aXj aXk
attribute [go_sem] aXl aQu aKy aQv aQw aKz aXm aQx aXn aQy aK0 aQz
attribute [go_sem] aXo aQ0 aQ1 aNk aXp aXq aHx bCr bCs
attribute [go_sem] aXr aQ2 aXs aQ3 aK1 aBd aXt aXu aK2 bCt aQ4
attribute [go_sem] aAj wW wX aHy aEt aK3 aK4 aK5
attribute [go_sem] aHz aXv aK6 aBe aBf aK7 aXw aQ5
attribute [go_sem] aH0 aK8 aEu aQ6 aQ7 aH1 aQ8 aK9 aH2 aLa aLb aH3
attribute [go_sem] aQ9 aH4 aRa aLc aLd aRb aLe bCu bGk
attribute [go_sem] aLf aLg aXx aH5 bCv aH6 aXy aRc aEv
attribute [go_sem] aRd aRe
attribute [go_sem] aRf aRg aLh aXz aRh aRi go_region' aX0 go_draw'
attribute [go_sem] aRj aLi
theorem aG {b b':aJ}{r:bK×Env×aA}(hb:b=b')(h:aQi (lim K) b (go' K (lim K) b' [] env S)=.ret r):lp' (lim K) b env S=.ret r:=by
 subst hb
 exact qI K env S h
end
attribute [irreducible] br' bk' go' aQe bCc aHt bGd mQ eW aQf lP aW7 aQg aHu wV bGe qN aAi bGf bGg bGh aXc bCe bCf bCd bCg aW8 lp' bCh bCi aQh bCj bGi aXa aEq aQi aW9 aNj cJ aCn aQj aXb bCk bGj
end Go.TM
namespace Go.TM
theorem aB {m:Int}(h:-9223372036854775808≤m∧m≤9223372036854775807):IntKind.i64.wrap m=m:=by
 unfold IntKind.wrap
 simp[IntKind.bits,IntKind.signed]
 omega
theorem aP {m:Int}(h:-2147483648≤m∧m≤2147483647):IntKind.i32.wrap m=m:=by
 unfold IntKind.wrap
 simp[IntKind.bits,IntKind.signed]
 omega
theorem qJ {m:Int}(h:0≤m∧m≤255):IntKind.u8.wrap m=m:=by
 unfold IntKind.wrap
 simp[IntKind.bits,IntKind.signed]
 omega
theorem cC {m:Int}(h:0≤m∧m≤4294967295):IntKind.u32.wrap m=m:=by
 unfold IntKind.wrap
 simp[IntKind.bits,IntKind.signed]
 omega
theorem tW {m:Int}(h:0≤m∧m≤18446744073709551615):IntKind.u64.wrap m=m:=by
 unfold IntKind.wrap
 simp[IntKind.bits,IntKind.signed]
 omega
theorem nN (m:Int):IntKind.u16.wrap m=m % 65536:=by simp[IntKind.wrap,IntKind.bits,IntKind.signed]
theorem aEw (m:Int):IntKind.u64.wrap m=m % 18446744073709551616:=by simp[IntKind.wrap,IntKind.bits,IntKind.signed]
theorem bGl {p:Prop}[Decidable p](h:p):decide p=true:=decide_eq_true h
theorem bGm {p:Prop}[Decidable p](h:¬p):decide p=false:=decide_eq_false h
theorem ifT {α:Type}{p:Prop}[Decidable p]{a b:α}(h:p):(if p then a else b)=a:=if_pos h
theorem ifF {α:Type}{p:Prop}[Decidable p]{a b:α}(h:¬p):(if p then a else b)=b:=if_neg h
theorem eqT {a b:Int}(h:a=b):(a==b)=true:=by simp[h]
theorem eqF {a b:Int}(h:a≠b):(a==b)=false:=by simp[h]
theorem neT {a b:Int}(h:a≠b):(a != b)=true:=by simp[h]
theorem neF {a b:Int}(h:a=b):(a != b)=false:=by simp[h]
theorem tX {α:Type}(f:α→IV):∀(l:List α),bS (l.map fun a=>[f a])=l.map f
 | []=>rfl
 | a::l=>by simp only[List.map_cons,bS,tX f l]; rfl
def one {α:Type}(f:α→IV)(l:List α):List (List IV):=l.map fun a=>[f a]
def u8 (b:UInt8):IV:=.int .u8 b.toNat
def i64 (n:Int):IV:=.int .i64 n
theorem bJ {α:Type}(f:α→IV)(l:List α):(one f l).length=l.length:=by simp[one]
theorem pL (l:List UInt8):(aN l).length=l.length:=by simp[aN]
theorem aAk {α:Type}(f:α→IV)(l:List α):kJ 1 (one f l)=true:=by cases l<;>rfl
theorem aH7 {α:Type}(f:α→IV)(l:List α)(n:Nat):(one f l).take n=one f (l.take n):=by simp[one]
theorem aH8 {α:Type}(f:α→IV)(l:List α)(n:Nat):(one f l).drop n=one f (l.drop n):=by simp[one]
theorem aAl {α:Type}(f:α→IV)(l m:List α):one f l++one f m=one f (l++m):=by simp[one]
def gT (t:Tag)(n b:Nat):Tag:=match t with
 | .nil=>.nil
 | .no=>.no
 | .full=>if n=b then .full else .no
def bP {α:Type}(t:Tag)(l:List α):Prop:=t=.nil→l=[]
theorem bP.no {α:Type}(l:List α):bP .no l:=fun h=>by cases h
theorem bP.nil {α:Type}:bP .nil ([]:List α):=fun _=>rfl
theorem bP.cut {α:Type}{t:Tag}{l:List α}(h:bP t l)(a b n:Nat):bP (gT t n b) ((l.drop a).take (b-a)):=by
 intro e
 have:t=.nil:=by cases t<;>simp[gT]at e ⊢; split at e<;>cases e
 rw[h this]; simp
theorem aAm {t:Tag}{l:List (List IV)}{a b:Int}(ht:bP t l)(h:0≤a∧a≤b∧b≤l.length):fJ t l (some a) (some b) none=some (.sl (gT t l.length b.toNat) ((l.drop a.toNat).take (b.toNat-a.toNat))):=by
 obtain⟨h1,h2,h3⟩:=h
 have h2':(a:Int)≤((b.toNat:Nat):Int):=by omega
 have h0:0≤b:=by omega
 have e0:((0:Nat):Int)≤b:=h0
 cases t with
 | nil =>
  have:=ht rfl
  subst this
  simp at h3
  obtain rfl:b=0:=by omega
  obtain rfl:a=0:=by omega
  simp[fJ,eZ,lH,gT]
 | full =>
  simp only[fJ,eZ,lH,h0,h1,h3,h2',and_self,↓reduceIte,gT]
 | no =>
  simp only[fJ,eZ,lH,h0,h1,h3,h2',and_self,↓reduceIte,gT]
theorem aLj {t:Tag}{l:List (List IV)}{b:Int}(ht:bP t l)(h:0≤b∧b≤l.length):fJ t l none (some b) none=some (.sl (gT t l.length b.toNat) (l.take b.toNat)):=by
 have:=aAm (a:=0) (b:=b) ht (by omega)
 simp only[Int.toNat_zero,List.drop_zero,Nat.sub_zero]at this
 rw[←this]
 cases t<;>simp[fJ,eZ,lH]
theorem aLk {t:Tag}{l:List (List IV)}{a:Int}(ht:bP t l)(h:0≤a∧a≤l.length):fJ t l (some a) none none=some (.sl t (l.drop a.toNat)):=by
 obtain⟨h1,h3⟩:=h
 cases t with
 | nil =>
  have:=ht rfl
  subst this
  simp at h3
  obtain rfl:a=0:=by omega
  simp[fJ,eZ,lH]
 | full =>
  have e:List.take (l.length-a.toNat) (List.drop a.toNat l)=List.drop a.toNat l:=List.take_of_length_le (by simp)
  simp only[fJ,eZ,lH,h1,h3,and_self,↓reduceIte,e]
 | no =>
  have e:List.take (l.length-a.toNat) (List.drop a.toNat l)=List.drop a.toNat l:=List.take_of_length_le (by simp)
  simp only[fJ,eZ,lH,h1,h3,and_self,↓reduceIte,e]
theorem aX1 (S:aA){t:Tag}{w:Nat}{l:List (List IV)}{a b:Int}(ht:bP t l)(hf:kJ w l=true)(h:0≤a∧a≤b∧b≤l.length):dE S (.sl w) (.iv (.sl t l)) (some a) (some b) none=some (.iv (.sl (gT t l.length b.toNat) ((l.drop a.toNat).take (b.toNat-a.toNat)))):=by
 simp only[dE,hf,↓reduceIte,aAm ht h,Option.map_some]
theorem aX2 (S:aA){t:Tag}{w:Nat}{l:List (List IV)}{b:Int}(ht:bP t l)(hf:kJ w l=true)(h:0≤b∧b≤l.length):dE S (.sl w) (.iv (.sl t l)) none (some b) none=some (.iv (.sl (gT t l.length b.toNat) (l.take b.toNat))):=by
 simp only[dE,hf,↓reduceIte,aLj ht h,Option.map_some]
theorem aX3 (S:aA){t:Tag}{w:Nat}{l:List (List IV)}{a:Int}(ht:bP t l)(hf:kJ w l=true)(h:0≤a∧a≤l.length):dE S (.sl w) (.iv (.sl t l)) (some a) none none=some (.iv (.sl t (l.drop a.toNat))):=by
 simp only[dE,hf,↓reduceIte,aLk ht h,Option.map_some]
theorem aEx {α:Type}{f:α→IV}{t:Tag}{l:List α}(h:bP t l):bP t (one f l):=fun e=>by rw[h e]; rfl
theorem aRk {α:Type}{f:α→IV}(S:aA){t:Tag}{l:List α}{a b:Int}(ht:bP t l)(h:0≤a∧a≤b∧b≤l.length):dE S (.sl 1) (.iv (.sl t (one f l))) (some a) (some b) none=some (.iv (.sl (gT t l.length b.toNat) (one f ((l.drop a.toNat).take (b.toNat-a.toNat))))):=by
 rw[aX1 S (aEx ht) (aAk f l) (by rw[bJ]; exact h),bJ,aH8,aH7]
theorem tY {α:Type}{f:α→IV}(S:aA){t:Tag}{l:List α}{b:Int}(ht:bP t l)(h:0≤b∧b≤l.length):dE S (.sl 1) (.iv (.sl t (one f l))) none (some b) none=some (.iv (.sl (gT t l.length b.toNat) (one f (l.take b.toNat)))):=by
 rw[aX2 S (aEx ht) (aAk f l) (by rw[bJ]; exact h),bJ,aH7]
theorem aEy {α:Type}{f:α→IV}(S:aA){t:Tag}{l:List α}{a:Int}(ht:bP t l)(h:0≤a∧a≤l.length):dE S (.sl 1) (.iv (.sl t (one f l))) (some a) none none=some (.iv (.sl t (one f (l.drop a.toNat)))):=by
 rw[aX3 S (aEx ht) (aAk f l) (by rw[bJ]; exact h),aH8]
theorem aH9 (S:aA){t:Tag}{l:List UInt8}{a b:Int}(ht:bP t l)(h:0≤a∧a≤b∧b≤l.length):dE S (.sl 1) (.iv (.sl t (aN l))) (some a) (some b) none=some (.iv (.sl (gT t l.length b.toNat) (aN ((l.drop a.toNat).take (b.toNat-a.toNat))))):=aRk (f:=u8) S ht h
theorem aAn (S:aA){t:Tag}{l:List UInt8}{a:Int}(ht:bP t l)(h:0≤a∧a≤l.length):dE S (.sl 1) (.iv (.sl t (aN l))) (some a) none none=some (.iv (.sl t (aN (l.drop a.toNat)))):=aEy (f:=u8) S ht h
theorem aEz (S:aA){s:List UInt8}{b:Int}(h:0≤b∧b≤s.length):dE S .str (.iv (.str s)) none (some b) none=some (.iv (.str (s.take b.toNat))):=by
 simp only[dE,eZ,lH,h,and_self,↓reduceIte]
 simp
theorem nO (S:aA){s:List UInt8}{a:Int}(h:0≤a∧a≤s.length):dE S .str (.iv (.str s)) (some a) none none=some (.iv (.str (s.drop a.toNat))):=by
 have e:List.take (s.length-a.toNat) (List.drop a.toNat s)=List.drop a.toNat s:=List.take_of_length_le (by simp)
 simp only[dE,eZ,lH,h,and_self,↓reduceIte,e]
theorem aNl {w:Nat}{t:Tag}{l:List (List IV)}{i:Int}{c:List IV}(h:0≤i)(hc:l[i.toNat]? = some c)(hw:c.length=w):indexAddrS w (.iv (.sl t l)) i=some (.iv (.cp c)):=by
 have:¬i<0:=by omega
 simp only[indexAddrS,this,↓reduceIte,hc,hw]
theorem aX4 {w j:Nat}{l:List (List IV)}{i:Int}{c:List IV}(h:0≤i)(hc:l[i.toNat]? = some c)(hw:c.length=w):indexAddrS w (.tsl j l) i=some (.iv (.cp c)):=by
 have:¬i<0:=by omega
 simp only[indexAddrS,this,↓reduceIte,hc,hw]
theorem bCw {α:Type}(f:α→IV)(l:List α)(n:Nat):(one f l)[n]? = (l[n]?).map fun a=>[f a]:=by simp[one]
theorem iG {α:Type}[Inhabited α](f:α→IV){t:Tag}{l:List α}{i:Int}(h:0≤i∧i<l.length):indexAddrS 1 (.iv (.sl t (one f l))) i=some (.iv (.cp [f (l.getD i.toNat default)])):=by
 refine aNl h.1 ?_ rfl
 have:i.toNat<l.length:=by omega
 rw[bCw,List.getElem?_eq_getElem this]
 simp[List.getD,List.getElem?_eq_getElem this]
theorem mR {t:Tag}{l:List UInt8}{i:Int}(h:0≤i∧i<l.length):indexAddrS 1 (.iv (.sl t (aN l))) i=some (.iv (.cp [.int .u8 (l.getD i.toNat 0).toNat])):=iG u8 h
theorem mS {s:List UInt8}{i:Int}{kd:IntKind}(h:0≤i∧i<s.length):tU (.iv (.str s)) (.iv (.int kd i))=some (.iv (.int .u8 (s.getD i.toNat 0).toNat)):=by
 have:i.toNat<s.length:=by omega
 simp only[aCj,h.1,↓reduceIte,List.getElem?_eq_getElem this,Option.map_some,List.getD,Option.getD_some]
theorem aE0 (env:Env)(S:aA)(x:IV)(l:List IV):bH env S (.iv (.cp (x::l))) 1=some [.iv x]:=by simp[bH,sub]
end Go.TM
namespace Go.TM
theorem iJ {w:Nat}{a:Int}(h:0≤a∧a<2 ^ w):(BitVec.ofInt w a).toNat=a.toNat:=by
 rw[BitVec.toNat_ofInt]
 have:a % ((2 ^ w:Nat):Int)=a:=Int.emod_eq_of_lt h.1 (by push_cast; exact h.2)
 rw[this]
theorem aX5 {w k:Nat}{a:Int}(h:0≤a∧a<2 ^ w)(hk:(2:Int) ^ k-1<2 ^ w):(BitVec.ofInt w a &&& BitVec.ofInt w (2 ^ k-1)).toNat=(a % 2 ^ k).toNat:=by
 have h1:(0:Int)≤2 ^ k-1:=by have:=Int.pow_pos (n:=2) (m:=k) (by decide); omega
 rw[BitVec.toNat_and,iJ h,iJ ⟨h1,hk⟩]
 have e:((2:Int) ^ k-1).toNat=2 ^ k-1:=by
  have:(2:Int) ^ k=((2 ^ k:Nat):Int):=by push_cast; rfl
  rw[this]; omega
 rw[e,Nat.and_two_pow_sub_one_eq_mod]
 obtain⟨n,rfl⟩:=Int.eq_ofNat_of_zero_le h.1
 have:((n:Int) % 2 ^ k)=((n % 2 ^ k:Nat):Int):=by push_cast; rfl
 rw[Int.toNat_natCast,this]; exact (Int.toNat_natCast _).symm
theorem aLl {w k:Nat}{a b:Int}(ha:0≤a∧a<2 ^ w)(hb:0≤b∧b<2 ^ k)(hk:(2:Int) ^ k≤2 ^ w)(hm:a % 2 ^ k=0):(BitVec.ofInt w a ||| BitVec.ofInt w b).toNat=(a+b).toNat:=by
 rw[BitVec.toNat_or,iJ ha,iJ ⟨hb.1,by omega⟩]
 obtain⟨n,rfl⟩:=Int.eq_ofNat_of_zero_le ha.1
 obtain⟨m,rfl⟩:=Int.eq_ofNat_of_zero_le hb.1
 have hm':n % 2 ^ k=0:=by
  have:((n % 2 ^ k:Nat):Int)=0:=by rw[←hm]; push_cast; rfl
  omega
 have hb':m<2 ^ k:=by
  have:=hb.2
  have e:((2:Int) ^ k)=((2 ^ k:Nat):Int):=by push_cast; rfl
  rw[e]at this; omega
 obtain⟨c,rfl⟩:=Nat.dvd_of_mod_eq_zero hm'
 simp only[Int.toNat_natCast]
 rw[←Nat.two_pow_add_eq_or_of_lt hb']
 omega
theorem aLm {k m:Nat}(h:k≤m):(2:Int) ^ k≤2 ^ m:=by
 have:=Nat.pow_le_pow_right (n:=2) (by decide) h
 exact_mod_cast this
theorem aE1 {k:Nat}{a m:Int}(h:0≤a∧a≤255)(hk:k≤8)(hm:m=2 ^ k-1):IntKind.u8.wrap (nZ 8 a m)=a % 2 ^ k:=by
 subst hm
 have h2:(2:Int) ^ k≤2 ^ 8:=aLm hk
 have h3:(0:Int)<2 ^ k:=Int.pow_pos (by decide)
 have h4:=Int.emod_nonneg a (show (2:Int) ^ k≠0 by omega)
 have h5:=Int.emod_lt_of_pos a h3
 unfold nZ
 rw[aX5 (k:=k) ⟨h.1,by omega⟩ (by omega)]
 rw[qJ (by omega)]
 omega
theorem aLn {k:Nat}{a b:Int}(ha:0≤a∧a≤2147483647-2 ^ k)(hk:k<31)(hb:0≤b∧b<2 ^ k)(hm:a % 2 ^ k=0):IntKind.i32.wrap (bOr 32 a b)=a+b:=by
 have h2:(2:Int) ^ k≤2 ^ 31:=aLm (by omega)
 unfold bOr
 rw[aLl (k:=k) ⟨ha.1,by omega⟩ hb (by omega) hm]
 rw[aP (by omega)]
 omega
theorem aQ {a:Int}(h:0≤a∧a≤255):IntKind.u8.wrap (nZ 8 a 31)=a % 32:=aE1 (k:=5) h (by decide) (by decide)
theorem aR {a:Int}(h:0≤a∧a≤255):IntKind.u8.wrap (nZ 8 a 15)=a % 16:=aE1 (k:=4) h (by decide) (by decide)
theorem bE {a:Int}(h:0≤a∧a≤255):IntKind.u8.wrap (nZ 8 a 7)=a % 8:=aE1 (k:=3) h (by decide) (by decide)
theorem aS {a:Int}(h:0≤a∧a≤255):IntKind.u8.wrap (nZ 8 a 63)=a % 64:=aE1 (k:=6) h (by decide) (by decide)
theorem bF {a b:Int}(ha:0≤a∧a≤1000000000∧a % 64=0)(hb:0≤b∧b<64):IntKind.i32.wrap (bOr 32 a b)=a+b:=aLn (k:=6) ⟨ha.1,by have:=ha.2.1; omega⟩ (by decide) hb ha.2.2
theorem aT {a b:Int}(ha:0≤a∧a≤1000000000∧a % 4096=0)(hb:0≤b∧b<4096):IntKind.i32.wrap (bOr 32 a b)=a+b:=aLn (k:=12) ⟨ha.1,by have:=ha.2.1; omega⟩ (by decide) hb ha.2.2
theorem aU {a b:Int}(ha:0≤a∧a≤1000000000∧a % 262144=0)(hb:0≤b∧b<262144):IntKind.i32.wrap (bOr 32 a b)=a+b:=aLn (k:=18) ⟨ha.1,by have:=ha.2.1; omega⟩ (by decide) hb ha.2.2
theorem aE2 {a:Int}(h:0≤a∧a≤2147483647):IntKind.i32.wrap (qH 32 a 0)=a:=by
 have e:BitVec.ofInt 32 a &&& ~~~ BitVec.ofInt 32 0=BitVec.ofInt 32 a:=by
  have : ~~~ BitVec.ofInt 32 0=BitVec.allOnes 32:=by decide
  rw[this,BitVec.and_allOnes]
 unfold qH
 rw[e,iJ ⟨h.1,by omega⟩,aP (by omega)]
 omega
theorem aE3 (a:Int):IntKind.i32.wrap (qH 32 a (-1))=0:=by
 have e:BitVec.ofInt 32 a &&& ~~~ BitVec.ofInt 32 (-1)=0#32:=by
  have : ~~~ BitVec.ofInt 32 (-1)=0#32:=by decide
  rw[this]; simp
 unfold qH
 rw[e]; decide
theorem aX6 {env:Env}{S:aA}{cs:List IV}{n:Nat}{x:IV}(h:cs[n]? = some x):bH env S (.iv (.cp (cs.drop n))) 1=some [.iv x]:=by
 have hn:n<cs.length:=by
  rcases Nat.lt_or_ge n cs.length with h1|h1
  ·exact h1
  ·rw[List.getElem?_eq_none h1]at h; cases h
 rw[List.drop_eq_getElem_cons hn,aE0]
 rw[List.getElem?_eq_getElem hn]at h
 rw[Option.some.inj h]
theorem aCo {cs:List IV}{n:Nat}(h:n≤cs.length):dL (.iv (.cp cs)) n=some (.iv (.cp (cs.drop n))):=by
 simp only[dL,h,↓reduceIte]
end Go.TM
namespace Go.TM
theorem aAo {α:Type}{w:Nat}:∀ {l:List (List α)},(∀y∈l,y.length=w)→(bS l).length=l.length*w
 | [],_=>by simp[bS]
 | a::l,h=>by
  have h1:=h a (by simp)
  have h2:=aAo (l:=l) (fun y hy=>h y (by simp[hy]))
  simp only[bS,List.length_append,List.length_cons,h1,h2,Nat.add_mul]
  omega
theorem lX {α:Type}{w:Nat}:∀ {l:List (List α)},(∀y∈l,y.length=w)→dH w l.length (bS l)=l
 | [],_=>rfl
 | a::l,h=>by
  have h1:=h a (by simp)
  have h2:=lX (l:=l) (fun y hy=>h y (by simp[hy]))
  simp only[bS,List.length_cons,dH]
  rw[←h1,List.take_left',List.drop_left',h1,h2]<;>rfl
theorem mT:∀(l:List IV),toIVs (l.map .iv)=some l
 | []=>rfl
 | a::l=>by rw[List.map_cons,aAh,aHn,mT l,aAe]
def gU:IV→Bool
 | .agg _=>false
 | _=>true
theorem xP:∀ {l:List IV},l.all gU=true→(l.map TV.iv).any bO=false
 | [],_=>rfl
 | a::l,h=>by
  simp only[List.all_cons,Bool.and_eq_true]at h
  simp only[List.map_cons,List.any_cons,xP h.2,Bool.or_false]
  cases a<;>first|rfl|simp[gU]at h
theorem aAp:∀ {l:List (List IV)},(∀y∈l,y.all gU=true)→(bS l).all gU=true
 | [],_=>rfl
 | a::l,h=>by
  simp only[bS,List.all_append,Bool.and_eq_true]
  exact⟨h a (by simp),aAp (fun y hy=>h y (by simp[hy]))⟩
theorem aIa {w:Nat}:∀ {l:List (List IV)},(∀y∈l,y.length=w)→kJ w l=true
 | [],_=>rfl
 | a::l,h=>by simp[kJ,h a (by simp)]
theorem aLo {α:Type}[Inhabited α]{w:Nat}{f:α→List IV}(hw:∀a,(f a).length=w){t:Tag}{l:List α}{i:Int}(h:0≤i∧i<l.length):indexAddrS w (.iv (.sl t (l.map f))) i=some (.iv (.cp (f (l.getD i.toNat default)))):=by
 refine aNl h.1 ?_ (hw _)
 have:i.toNat<l.length:=by omega
 rw[List.getElem?_map,List.getElem?_eq_getElem this]
 simp[List.getD,List.getElem?_eq_getElem this]
theorem aIb (env:Env)(S:aA)(cs:List IV)(n:Nat):bH env S (.iv (.cp cs)) n=(sub cs 0 n).map (·.map .iv):=id rfl
theorem pM {α:Type}{l:List α}{d:α}{i:Nat}(h:i<l.length):l.take (i+1)=l.take i++[l.getD i d]:=by
 rw[List.take_succ_eq_append_getElem h]
 simp[List.getD,List.getElem?_eq_getElem h]
def Pure (K:bI)(f:Nat)(ags:List TV)(v:TV):Prop:=∃r S,(lim K).call f ags []=.ret (r,S)∧resolve S r=some v
theorem bL {K:bI}{f:Nat}{ags:List TV}{v r:TV}{S:aA}(h:(lim K).call f ags []=.ret (r,S))(hr:resolve S r=some v):Pure K f ags v:=⟨r,S,h,hr⟩
theorem aE {K:bI}{f:Nat}{ags:List TV}{v:TV}(h:Pure K f ags v)(S:aA)(args:List TV):bCi S args ((lim K).call f ags [])=bCh S args (some v):=by
 obtain⟨r,S',h1,h2⟩:=h
 rw[h1,aH4,h2]
def bCx (v:Option TV):Out TV:=match v with
 | some v=>.ret v
 | none => .fail ""
theorem bN (v:TV):bCx (some v)=.ret v:=id rfl
def aRl (x:Out (TV×aA)):Out TV:=x.bind fun r=>bCx (resolve r.2 r.1)
theorem bY (r:TV)(S:aA):aRl (.ret (r,S))=bCx (resolve S r):=id rfl
theorem bCy (B:Bool)(x y:Out (TV×aA)):aRl (br' B x y)=br' B (aRl x) (aRl y):=by unfold br'; cases B<;>rfl
attribute [go_sem] bN bY bCy
theorem aX {K:bI}{f:Nat}{args:List TV}(fn:aV){v:TV}(hf:K.funcs f=some fn)(ha:args.length=fn.nparams)(h:aRl (aEq fn.results (go' K (lim K) fn.body [] (args++List.replicate (fn.nlocs-fn.nparams) undef) []))=.ret v):Pure K f args v:=by
 generalize hx:aEq fn.results (go' K (lim K) fn.body [] (args++List.replicate (fn.nlocs-fn.nparams) undef) [])=x at h
 cases x with
 | ret r =>
  obtain⟨r,S⟩:=r
  refine⟨r,S,aD K [] hf ha hx,?_⟩
  simp only[aRl,Out.bind,bCx]at h
  cases hr:resolve S r with
  | none=>rw[hr]at h; cases h
  | some u=>rw[hr]at h; cases h; rfl
 | fail s=>cases h
 | pick n k=>cases h
def eT (w:Nat)(l:List (List IV)):Prop:=∀y∈l,y.length=w∧y.all gU=true
theorem eT.map {α:Type}{w:Nat}{f:α→List IV}(h:∀a,(f a).length=w∧(f a).all gU=true)(l:List α):eT w (l.map f):=by
 intro y hy
 obtain⟨a,_,rfl⟩:=List.mem_map.1 hy
 exact h a
theorem eT.one {α:Type}{f:α→IV}(h:∀a,gU (f a)=true)(l:List α):eT 1 (one f l) :=
 eT.map (f:=fun a=>[f a]) (fun a=>⟨rfl,by simp[h a]⟩) l
def iH (S:aA)(x:TV)(ys:List (List IV)):Prop:=iP S x=some ((bS ys).map .iv)∧lenOf S x=some ys.length
theorem iH.sl (S:aA)(t:Tag)(ys:List (List IV)):iH S (.iv (.sl t ys)) ys:=⟨rfl,rfl⟩
theorem iH.tsl (S:aA)(j:Nat)(ys:List (List IV)):iH S (.tsl j ys) ys:=⟨rfl,rfl⟩
theorem cS {n b:Nat}(h:n*b≤35184372088832∧b≤1048576∧n≤35184372088832):fQ n b=true:=by
 simp[fQ,h]
theorem aLp {w b el i:Nat}{S:aA}{l ys:List (List IV)}{x:TV}(hx:iH S x ys)(hw:eT w ys)(hl:eT w l)(hS:S[i]? = some (.tok l.length w el))(hr:fQ (l.length+ys.length) b=true) :
  bW false w b el S (.tsl i l) x=some (.tsl i (l++ys),S.set i (.tok (l.length+ys.length) w el)):=by
 obtain⟨h1,h2⟩:=hx
 have hf:=aAo (w:=w) (fun y hy=>(hw y hy).1)
 have ha:=xP (aAp (fun y hy=>(hw y hy).2))
 simp only[bW,h1,h2,List.length_map,hf,ne_eq,not_true_eq_false,ha,Bool.false_eq_true,or_self,↓reduceIte]
 by_cases hm:ys.length=0
 ·have:ys=[]:=List.eq_nil_of_length_eq_zero hm
  subst this
  simp only[hm,↓reduceIte,aI6,List.append_nil,Nat.add_zero]
  have hi:i<S.length:=by
   rcases Nat.lt_or_ge i S.length with h3|h3
   ·exact h3
   ·rw[List.getElem?_eq_none h3]at hS; cases hS
  rw[List.getElem?_eq_getElem hi]at hS
  have e:S.set i (.tok l.length w el)=S:=by rw[←Option.some.inj hS]; exact List.set_getElem_self hi
  simp[e]
 ·simp only[hm,↓reduceIte,hS,mT,aIa (fun y hy=>(hl y hy).1),hr,decide_true,Bool.and_self,lX (fun y hy=>(hw y hy).1)]
theorem aE4 {w b el:Nat}{S:aA}{t:Tag}{l ys:List (List IV)}{x:TV}(ht:t≠.no)(hx:iH S x ys)(hw:eT w ys)(hl:eT w l)(h0:ys≠[])(hr:fQ (l.length+ys.length) b=true) :
  bW false w b el S (.iv (.sl t l)) x=some (.tsl S.length (l++ys),S++[.tok (l.length+ys.length) w el]):=by
 obtain⟨h1,h2⟩:=hx
 have hf:=aAo (w:=w) (fun y hy=>(hw y hy).1)
 have ha:=xP (aAp (fun y hy=>(hw y hy).2))
 have hm:¬ys.length=0:=fun e=>h0 (List.eq_nil_of_length_eq_zero e)
 have ht':(t==.no)=false:=by cases t<;>first|rfl|exact absurd rfl ht
 simp only[bW,h1,h2,List.length_map,hf,ne_eq,not_true_eq_false,ha,Bool.false_eq_true,or_self,↓reduceIte,hm,ht',aIa (fun y hy=>(hl y hy).1),hr,Bool.not_true,Bool.or_self,mT,lX (fun y hy=>(hw y hy).1)]
theorem aAq {mu:Bool}{w b el:Nat}{S:aA}{s x:TV}(hs:aI6 s=true)(hx:iH S x []):bW mu w b el S s x=some (s,S):=by
 obtain⟨h1,h2⟩:=hx
 simp[bW,h1,h2,bS,hs]
def acc (i:Nat)(l:List (List IV)):TV:=if l=[] then .iv (.sl .nil []) else .tsl i l
theorem cQ (i:Nat):acc i []=.iv (.sl .nil []):=by simp[acc]
theorem iI (i:Nat){l:List (List IV)}(h:l≠[]):acc i l=.tsl i l:=by simp[acc,h]
def gV (w el:Nat)(l:List (List IV)):aA:=if l=[] then [] else [.tok l.length w el]
theorem eU (w el:Nat):gV w el []=[]:=by simp[gV]
theorem qK (w el:Nat){l:List (List IV)}(h:l≠[]):gV w el l=[.tok l.length w el]:=by simp[gV,h]
theorem aX7 {w b el:Nat}{l ys:List (List IV)}{x:TV}(hx:∀S,iH S x ys)(hw:eT w ys)(hl:eT w l)(hr:fQ (l.length+ys.length) b=true) :
  bW false w b el (gV w el l) (acc 0 l) x=some (acc 0 (l++ys),gV w el (l++ys)):=by
 by_cases h:l=[]
 ·subst h
  by_cases h0:ys=[]
  ·subst h0
   rw[cQ,eU,aAq rfl (hx _)]; rfl
  ·rw[cQ,eU,aE4 (by decide) (hx _) hw hl h0 hr,List.nil_append,iI _ h0,qK _ _ h0]
   simp
 ·have h2:l++ys≠[]:=by simp[h]
  rw[iI _ h,qK _ _ h,aLp (hx _) hw hl rfl hr,iI _ h2,qK _ _ h2]
  simp
theorem bU (S:aA)(i:Nat)(l:List (List IV)):aEc .sl S (acc i l)=some (.iv (.int .i64 l.length)):=by
 unfold acc; split
 ·rename_i h; subst h; rfl
 ·rfl
def eM {α:Type}(l:List α):Tag:=match l with
 | []=>.nil
 | _=>.no
theorem iZ {α:Type}(l:List α):bP (eM l) l:=by
 cases l with
 | nil=>exact fun _=>rfl
 | cons a l=>intro h; cases h
theorem jA {α β:Type}(f:α→β)(l:List α):eM (l.map f)=eM l:=by cases l<;>rfl
theorem aRm (S:aA)(i:Nat)(l:List (List IV)):aFy S (acc i l)=some (.sl (eM l) l):=by cases l<;>rfl
theorem fE (S:aA)(i:Nat)(l:List (List IV)):resolve S (acc i l)=some (.iv (.sl (eM l) l)):=by cases l<;>rfl
theorem aE5 (S:aA)(i:Nat)(l:List (List IV)):iQ S (acc i l)=some (.iv (.sl (eM l) l)):=by cases l<;>rfl
theorem jX {w b el:Nat}{l:List (List IV)}{t:Tag}{c:List IV}(hc:c.length=w∧c.all gU=true)(hl:eT w l)(hr:fQ (l.length+1) b=true) :
  bW false w b el (gV w el l) (acc 0 l) (.iv (.sl t [c]))=some (acc 0 (l++[c]),gV w el (l++[c])) :=
 aX7 (fun S=>iH.sl S t [c]) (by intro y hy; simp at hy; subst hy; exact hc) hl hr
theorem bCz {w b el:Nat}(B:bG){l ys:List (List IV)}{x:TV}(hx:∀S,iH S x ys)(hw:eT w ys)(hl:eT w l)(hr:fQ (l.length+ys.length) b=true) :
  bW false w b el (B::gV w el l) (acc 1 l) x=some (acc 1 (l++ys),B::gV w el (l++ys)):=by
 by_cases h:l=[]
 ·subst h
  by_cases h0:ys=[]
  ·subst h0
   rw[cQ,eU,aAq rfl (hx _)]; rfl
  ·rw[cQ,eU,aE4 (by decide) (hx _) hw hl h0 hr,List.nil_append,iI _ h0,qK _ _ h0]
   simp
 ·have h2:l++ys≠[]:=by simp[h]
  rw[iI _ h,qK _ _ h,aLp (hx _) hw hl rfl hr,iI _ h2,qK _ _ h2]
  simp
theorem aX8 {w b el:Nat}(B:bG){l:List (List IV)}{t:Tag}{c:List IV}(hc:c.length=w∧c.all gU=true)(hl:eT w l)(hr:fQ (l.length+1) b=true) :
  bW false w b el (B::gV w el l) (acc 1 l) (.iv (.sl t [c]))=some (acc 1 (l++[c]),B::gV w el (l++[c])) :=
 bCz B (fun S=>iH.sl S t [c]) (by intro y hy; simp at hy; subst hy; exact hc) hl hr
theorem aRn (env:Env)(s:List UInt8)(pos:Nat)(R:aA):aVy env (.sit s pos::R) (.it 0)=if pos<s.length then some (.tup [.iv (.bool true),.iv (.int .i64 pos),.iv (.int .i32 (Utf8.decode ⟨s.toArray⟩ pos).1)],env,.sit s (pos+(Utf8.decode ⟨s.toArray⟩ pos).2)::R) else some (.tup [.iv (.bool false)],env,.sit s pos::R):=id rfl
attribute [go_sem] aRn
theorem bC0 (K:bI)(O:Orc)(j i':Nat)(l:List (List IV))(ops:List aH)(i:Nat)(M:List (Nat×TV))(n:Nat)(fs:List Fr)(env:Env)(S:aA):aAi K O (acc i' l) j ops i M n fs env S=qN K O ops (i+1) M n fs (env.set j (acc i' l)) S:=by
 unfold acc; split
 ·exact aNk K O ops i M n fs env S _ j
 ·exact aHx K O ops i M n fs env S _ _ j
theorem aLq (i:Nat)(l:List (List IV)):nT (acc i l)=false:=by cases l<;>rfl
theorem tZ (j i:Nat)(l:List (List IV)):tT j (acc i l)=acc i l:=by unfold acc; split<;>rfl
theorem aX9 (i:Nat)(l:List (List IV)):dQ (acc i l)=false:=by unfold acc; split<;>rfl
theorem aAr (i:Nat)(l:List (List IV)):aPp (acc i l)=some (acc i l):=by unfold acc; split<;>rfl
attribute [go_sem] aRm fE aE5 bC0 aLq tZ aX9 aAr bU
end Go.TM
namespace Go.TM
open Go Go.ChangeShapes Go.WideShapes Go.RowKit
variable {P:Program}{H:Type}{enc:TypeId×Value→H}{W:World}
def nX (P:Program){H:Type}:List TypeId→List (DataW H)→List (List IV)→Prop
 | [],[],[]=>True
 | t::ts,d::ds,l::ls=>Ty P t d l∧nX P ts ds ls
 | _,_,_=>False
def aE6 (P:Program):List TypeId→List (List IV)→List TV
 | t::ts,l::ls=>aUz P t l::aE6 P ts ls
 | _,_=>[]
theorem aNm {ts:List TypeId}(hts:aOo P ts=true){r:Reach}{b base:Nat}{held:Bool}:∀ {params:List TypeId} {vals:List Value} {ds:List (DataW H)} {ps:List MemPlace},(∀t∈params,t∈ts)→(∀(j:Nat) t v,params[j]? = some t→vals[j]? = some v→Value.okWide P W r b t v) →
  DataW.TrodAll enc P W base (fun _=>true) held params vals ds ps→∃ls,nX P params ds ls∧VRs (eE W) [] [] (aE6 P params ls) vals
 | [],vals,ds,ps,_,_,h=>by
  obtain⟨rfl,rfl,rfl⟩:=trodAll_nil h
  exact⟨[],trivial,VRs.nil⟩
 | t::params,vals,ds,ps,hp,hv,h=>by
  obtain⟨v,vs',d,ds',p,q,rfl,rfl,rfl,h1,h2⟩:=trodAll_cons h
  obtain⟨l,k1,k2⟩:=bFo hts (hp t (by simp)) (hv 0 t v rfl rfl) h1
  obtain⟨ls,k3,k4⟩:=aNm hts (fun u hu=>hp u (by simp[hu])) (fun j u w hu hw=>hv (j+1) u w (by simpa using hu) (by simpa using hw)) h2
  exact⟨l::ls,⟨k1,k3⟩,VRs.cons k2 k4⟩
theorem aCp {ds:List (DataW H)}{ls:List (List IV)}(h:nX P [] ds ls):ls=[]:=by
 cases ds<;>cases ls<;>first|rfl|exact h.elim
theorem aLr {P:Program}{ts:Array TypeId}{q:TypeId→Bool}(h:ts.toList.all (fun t=>!(q t))=true)(j:Nat)(t:TypeId)(ht:ts[j]? = some t):q t=false:=by
 have:=List.all_eq_true.1 h t (Array.mem_toList_iff.2 (Array.mem_of_getElem? ht))
 simpa using this
theorem rZ {ds:List (DataW H)}{ls:List (List IV)}(h:nX P [] ds ls):ds=[]:=by
 cases ds<;>cases ls<;>first|rfl|exact h.elim
theorem wN {t:TypeId}{ts:List TypeId}{ds:List (DataW H)}{ls:List (List IV)}(h:nX P (t::ts) ds ls):∃(d:DataW H) (l:List IV) (ds':List (DataW H)) (ls':List (List IV)),ds=d::ds'∧ls=l::ls'∧nX P ts ds' ls':=by
 cases ds with
 | nil=>cases ls<;>exact h.elim
 | cons d ds =>
  cases ls with
  | nil=>exact h.elim
  | cons l ls=>exact⟨d,l,ds,ls,rfl,rfl,h.2⟩
theorem aAs {O:dD}{K:TM.bI}(hk:KOK P O K){f:Nat}{args:List TV}(h:((lim K).call f args []).All fun r=>r.1=.iv (.bool true)){vals:Array Value}(hv:VRs (eE W) [] [] args vals.toList)(hg:nH K (eE W)) :
  Calls P f vals W fun e W'=>e=.returned (.bool true)∧Below W.heap.size W W':=by
 obtain⟨n,hn⟩:=bA2 (K:=K) (f:=f) (a:=args) (S:=[]) h
 exact aOq hk hn hv hg
end Go.TM
namespace Go.TM
section
variable (K:bI)(O:Orc)(i:Nat)(k:Kt)(M:List (Nat×TV))(n:Nat)(fs:List Fr)(env:Env)(S:aA)
def cvA (O:Orc)(c:Bool)(S:aA)(g:Nat)(ags:List TV):Out (TV×aA):=if c then aQh O S ags g (dK S ags) else aXa O false S g (ags.any dQ) ags
theorem aYa (g:Nat)(ags:List TV):cvA O true S g ags=aQh O S ags g (dK S ags):=by simp only[cvA,↓reduceIte]
def aYb (O : Orc) (S : aA) (j : Nat) (lp : Bool) (ags : List TV) : Out (TV × aA) := if lp then .fail "" else er (O.yld j ags S)
theorem bC1 (j:Nat)(ags:List TV):aYb O S j false ags=er (O.yld j ags S):=by simp only[aYb,Bool.false_eq_true,↓reduceIte]
def opF (f:TV)(ags:List TV)(i:Nat)(k:Kt)(M:List (Nat×TV))(n:Nat)(fs:List Fr)(env:Env)(S:aA):TT (Out (bK×Env×aA)) (i,k,M,n,fs,env,S) :=
 match f with
 | .fn g a b=>wV K O (cvA O ((a++ags++b).all aAx) S g (a++ags++b)) i k M n fs env
 | .yld j=>wV K O (aYb O S j (ags.any dQ) ags) i k M n fs env
 | _ => (.fail "" : Out (bK × Env × aA))
theorem bGn (g:Nat)(a b ags:List TV):opF K O (.fn g a b) ags i k M n fs env S=wV K O (cvA O ((a++ags++b).all aAx) S g (a++ags++b)) i k M n fs env:=rfl
theorem bC2 (j:Nat)(ags:List TV):opF K O (.yld j) ags i k M n fs env S=wV K O (aYb O S j (ags.any dQ) ags) i k M n fs env:=rfl
theorem aRo (f:aF)(args:List aF):eW K O (.callv f args) i k M n fs env S=opF K O (cJ K n env M f) (args.map (cJ K n env M)) i k M n fs env S:=by
 unfold eW cJ
 simp only[op1,bZ]
 show er (Out.bind (match opv K n env M f with
  | .fn g a b=>Out.bind (if (a++args.map (opv K n env M)++b).all aAx then eG O g (a++args.map (opv K n env M)++b) S else gS O false g (a++args.map (opv K n env M)++b) S) fun r=>.ret (r.1,env,r.2)
  | .yld j => if (args.map (opv K n env M)).any dQ then .fail "yield: a local's address" else Out.bind (O.yld j (args.map (opv K n env M)) S) fun r => .ret (r.1, env, r.2)
  | _ => .fail "callv") _) = _
 cases opv K n env M f with
 | fn g a b =>
  simp only[opF,cvA,Out.bind_assoc,Out.bind]
  split
  ·unfold wV aQh
   rw[←wK,←aAd]
  ·unfold wV aXa
   rw[←aCl,←aAd]
 | yld j =>
  simp only[opF,aYb]
  split
  ·unfold wV; rfl
  ·unfold wV
   rw[←aAd]
   simp only[Out.bind_assoc,Out.bind]
 | _=>rfl
end
theorem bC3 (v:IV):aAx (.iv v)=true:=id rfl
theorem aYc (f:Nat)(a b:List TV):aNg f a b=if (a++b).any dQ=true then none else some (.fn f a b):=id rfl
theorem bC4 (t m:Nat)(v:TV):bF6 t m v=if (cellsOf v).any bO=true then none else some (.ptr m t 0,.cells t false (cellsOf v)):=id rfl
attribute [go_sem] aYa bC1 bGn bC2 aRo bC3 aYc bC4
theorem uA (S:aA)(a b c d e f:Nat):iQ S (.msl a b c d e f)=ivO (slO (eJ S (.msl a b c d e f))):=id rfl
attribute [go_sem] uA
end Go.TM
namespace Go.TM
open Go
def eV (f:Int→IV)(C:List Int):List TV:=C.map fun n=>.iv (f n)
theorem aAt (f:Int→IV)(C:List Int):(eV f C).length=C.length:=by simp[eV]
theorem aLs (f:Int→IV)(C:List Int)(i:Nat)(n:Int)(h:i<C.length):put (eV f C) i [.iv (f n)]=eV f (C.set i n):=by
 simp only[put,eV]
 apply List.ext_getElem
 ·simp; omega
 ·intro j h1 h2
  simp at h1 h2
  rcases Nat.lt_trichotomy j i with h3|h3|h3
  ·rw[List.getElem_append_left (by simp; omega),List.getElem_append_left (by simp; omega)]
   simp[List.getElem_set,show ¬i=j by omega]
  ·subst h3
   rw[List.getElem_append_left (by simp; omega),List.getElem_append_right (by simp; omega)]
   simp
  ·rw[List.getElem_append_right (by simp; omega)]
   have e:i+1+(j-(min i C.length+1))=j:=by omega
   simp[List.getElem_set,show ¬i=j by omega,e]
theorem bGo {j v off len cap:Nat}{i:Int}(h:0≤i∧i<len):indexAddrS 1 (.msl j v off len cap 1) i=some (.ptr j v (off+i.toNat)):=by
 simp only[indexAddrS,show ¬i<0 by omega,h.2,and_self,↓reduceIte,Nat.mul_one]
theorem aYd {S:aA}{j:Nat}{b:Bool}{f:Int→IV}{C:List Int}{i:Nat}(hf:∀n,bO (.iv (f n))=false)(h:S[j]? = some (.cells 0 b (eV f C)))(hi:i<C.length)(n:Int)(env:Env):setCells env S (.ptr j 0 i) [.iv (f n)]=some (env,S.set j (.cells 0 b (eV f (C.set i n)))):=by
 rw[←aLs f C i n hi]
 simp only[setCells,List.any_cons,hf,List.any_nil,Bool.or_self,Bool.false_eq_true,↓reduceIte,h,aAt,List.length_cons,List.length_nil,Nat.zero_add,true_and,show i+1≤C.length by omega]
theorem aE7 (f:Int→IV)(l:List Int):bS (one f l)=l.map f:=tX f l
theorem aLt {S:aA}{j:Nat}{b:Bool}{f:Int→IV}{C:List Int}(h:S[j]? = some (.cells 0 b (eV f C)))(off len cap:Nat)(hl:off+len≤C.length):eJ S (.msl j 0 off len cap 1)=some (one f ((C.drop off).take len)):=by
 have e2:sub (eV f C) off (len*1)=some (eV f ((C.drop off).take len)):=by
  simp only[sub,Nat.mul_one,aAt,hl,↓reduceIte]
  simp[eV]
 have e3:eV f ((C.drop off).take len)=(((C.drop off).take len).map f).map .iv:=by rw[List.map_map]; rfl
 have e4:dH 1 len (((C.drop off).take len).map f)=one f ((C.drop off).take len):=by
  have:=lX (w:=1) (l:=one f ((C.drop off).take len)) (by intro y hy; obtain⟨a,_,rfl⟩:=List.mem_map.1 hy; rfl)
  rw[bJ,aE7]at this
  rwa [show ((C.drop off).take len).length=len by simp; omega]at this
 simp only[eJ,h]
 show (if (0:Nat)≠0 then none else match sub (eV f C) off (len*1) with|some l=>(toIVs l).map (dH 1 len)|none=>none)=_
 rw[e2]
 simp only[ne_eq,not_true_eq_false,↓reduceIte]
 rw[e3,mT,Option.map_some,e4]
theorem aYe (f:Int→IV)(n:Nat):bS (List.replicate n ([f 0].map TV.iv))=eV f (List.replicate n 0):=by
 have:List.replicate n ([f 0].map TV.iv)=(List.replicate n (0:Int)).map fun a=>[TV.iv (f a)]:=by simp
 rw[this]
 generalize List.replicate n (0:Int)=l
 induction l with
 | nil=>rfl
 | cons a l ih=>simp only[List.map_cons,bS,List.flatMap_cons,eV]at ih ⊢; simpa using ih
theorem aIc {S:aA}{j:Nat}{b:Bool}{f:Int→IV}{C:List Int}(h:S[j]? = some (.cells 0 b (eV f C)))(v off len cap w:Nat)(r:List TV):dO S (.msl j v off len cap w::r)=dO (S.set j (.frz 0 (C.map f))) r:=by
 have e3:eV f C=(C.map f).map .iv:=by rw[List.map_map]; rfl
 have e:mZ S j=some (S.set j (.frz 0 (C.map f))):=by
  simp only[mZ,h,e3,mT,Option.map_some]
 simp only[dO,e]
theorem aLu (S:aA):dO S []=some S:=rfl
end Go.TM
namespace Go.TM
section
variable (K:bI)(O:Orc)(fs:List Fr)(env:Env)(S:aA)
def rfB (K:bI)(O:Orc)(n:Nat)(env:Env)(fs:List Fr)(S:aA):Option bG→Out (bK×Env×aA)
 | some (.lp .busy ..) => .fail ""
 | some (.lp _ pend env' ps a b)=>bk K O fs (pend.getD .normal) env (S.set n (.lp .exhausted pend env' ps a b))
 | _ => .fail ""
def rfR (K:bI)(O:Orc)(n:Nat)(env:Env)(fs:List Fr)(x:Out (TV×aA)):TT (Out (bK×Env×aA)) (n,env,fs) :=
 (er x).bind fun r=>rfB K O n env fs r.2 (r.2[n]?)
def rfF (K:bI)(O:Orc)(v:TV)(ps:List Nat)(a b:aJ)(fs:List Fr)(env:Env)(S:aA):TT (Out (bK×Env×aA)) (ps,a,b,fs,env,S) :=
 match v with
 | .fn k fst cap=>rfR K O S.length env fs (O.call k (fst++.yld S.length::cap) (S++[.lp .ready none (env.map noLb) ps a b]))
 | _ => (.fail "" : Out (bK × Env × aA))
theorem bGp (k:Nat)(fst cap:List TV)(ps:List Nat)(a b:aJ):rfF K O (.fn k fst cap) ps a b fs env S=rfR K O S.length env fs (O.call k (fst++.yld S.length::cap) (S++[.lp .ready none (env.map noLb) ps a b])):=id rfl
theorem aNn (n:Nat)(v:TV)(S':aA):rfR K O n env fs (.ret (v,S'))=rfB K O n env fs S' (S'[n]?):=id rfl
theorem aCq (n:Nat)(e':Env)(ps:List Nat)(a b:aJ):rfB K O n env fs S (some (.lp .ready none e' ps a b))=bk' K O fs .normal env (S.set n (.lp .exhausted none e' ps a b)):=by unfold bk'; exact id rfl
theorem go_rangeFunc (f:aF)(ps:List Nat)(a b:aJ):go' K O (.rangeFunc f ps a b) fs env S=rfF K O (cJ K 0 env [] f) ps a b fs env S:=by
 unfold go' cJ
 simp only[go,eK,rfF,opv,cW,List.range_zero,List.map_nil]
 cases aY K env [] f with
 | fn k fst cap =>
  simp only[Out.bind_assoc]
  unfold rfR
  rw[fV]
  refine Out.bind_congr fun r=>?_
  cases hx:r.2[S.length]? with
  | none=>rfl
  | some B =>
   cases B with
   | lp st pend e' ps' a' b'=>cases st<;>rfl
   | _=>rfl
 | _=>rfl
end
theorem bC5 (cs:List TV):noLb (.lb cs)=.hole:=id rfl
theorem bC6 (v:IV):noLb (.iv v)=.iv v:=id rfl
theorem aYf (a b c:Nat):noLb (.ptr a b c)=.ptr a b c:=id rfl
theorem bC7 (f:Nat)(a b:List TV):noLb (.fn f a b)=.fn f a b:=id rfl
theorem aYg (l:List TV):noLb (.tup l)=.tup l:=id rfl
attribute [go_sem] bGp aNn aCq go_rangeFunc bC5 bC6 aYf bC7 aYg
attribute [irreducible] rfR rfF
theorem go_exec {K:bI}{O:Orc}{c:aJ}{env:Env}{S:aA}{r:bK×Env×aA}(h:go' K O c [] env S=.ret r):eK K O c env S=.ret r:=by
 unfold go' at h
 simp only[go]at h
 have h1:=aU3 h
 cases hx:eK K O c env S with
 | ret q=>rw[hx]at h1; simpa[Out.bind,back] using h1
 | fail s=>rw[hx]at h1; cases h1
 | pick n k=>rw[hx]at h1; cases h1
theorem aId {K:bI}{i:Nat}{args:List TV}{S S1 S2:aA}{st:LoopState}{p p2 p3:Option bK}{st3:LoopState}{env env1 env2 env3 e2 e3:Env}{ps ps2 ps3:List Nat}{a b a2 b2 a3 b3:aJ}
  (h:S[i]? = some (.lp st p env ps a b)) (hs:oP env ps args=some env1) (h1:go' K (lim K) a [] env1 S=.ret (.normal,env2,S1)) (h2:S1[i]? = some (.lp .ready p2 e2 ps2 a2 b2))
  (h3:go' K (lim K) b [] env2 (S1.set i (.lp .busy p2 e2 ps2 a2 b2))=.ret (.normal,env3,S2)) (h4:S2[i]? = some (.lp st3 p3 e3 ps3 a3 b3)) :
  (lim K).yld i args S=.ret (.iv (.bool true),S2.set i (.lp .ready none e3 ps3 a3 b3)):=by
 refine bA1 ?_
 have e1:=go_exec h1
 have e3:=go_exec h3
 simp only[gO,h,hs,e1,Out.bind,h2,e3,h4]
end Go.TM
namespace Go.TM
section
variable {K:bI}{O:Orc}{i:Nat}{k:Kt}{M:List (Nat×TV)}{n:Nat}{fs:List Fr}{env:Env}{S:aA}{rs:List lF}{b:aJ}
end
end Go.TM
