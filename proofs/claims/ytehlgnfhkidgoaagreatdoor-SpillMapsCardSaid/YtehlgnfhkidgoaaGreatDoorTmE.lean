/- A part of the evaluator TM, and of the proof that what it computes the model does. Condition: none. -/
import Derived.Test.YtehlgnfhkidgoaaGreatDoorTmD
set_option linter.unusedVariables false
set_option linter.unusedSimpArgs false
set_option maxRecDepth 100000
namespace Go.TM
section
variable (K:bD)(O:Orc)(i:Nat)(k:Kt)(M:List (Nat×TV))(n:Nat)(fs:List Fr)(env:Env)(S:aA)
theorem iN{o:TOp}(h:cE o=0):op1 K O o i k M n fs env S=opV K O (aV o (opv K n env M)) i k M n fs env S:=by
 have e:(fun x=>aX K env (dC M n) x)=opv K n env M:=rfl;simp only[op1,ec0 K O env _ S o h];show er ((Out.need _ (aV o (opv K n env M)) _).bind _)=_;cases aV o (opv K n env M)with
 |some v=>simp only[Out.need,Out.bind,opV];cases k<;>simp only[iG,rgR,fls,chk,vZ]<;>(try split)<;>simp only[vZ,er]
 |none=>rfl
theorem jW:er (iG K O k M n fs env S)=iG K O k M n fs env S:=by cases k<;>simp only[iG,rgR,fls,chk,vZ]<;>(try split)<;>simp only[vZ,er]
theorem aAd{o:TOp}(h:cE o=1):op1 K O o i k M n fs env S=opV K O (aO o (opv K n env M) env S) i k M n fs env S:=by
 simp only[op1,ec1 K O env _ S o h];show er ((Out.need _ (aO o (opv K n env M) env S) _).bind _)=_;cases aO o (opv K n env M) env S with
 |some v=>simp only[Out.need,Out.bind,opV,jW]
 |none=>rfl
theorem aKz{o:TOp}(h:cE o=2):op1 K O o i k M n fs env S=opA K O (bO o (opv K n env M) S.length) i k M n fs env S:=by
 simp only[op1,mP K O env _ S o A_];have p:∀e,aV o e=none:=by intro e;cases o<;>first|rfl|simp[cE]at h
 have r:∀e,aO o e env S=none:=by intro e;cases o<;>first|rfl|simp[cE]at h
 have s:∀e rs,gO o e rs env S=none:=by intro e rs;cases o<;>first|rfl|simp[cE]at h
 simp only[jI,iU,p,r,s];show er ((Out.ofOpt _ (match bO o (opv K n env M) S.length with|some (v,b)=>some (v,env,S++[b])|none=>none)).bind _)=_;cases bO o (opv K n env M) S.length with
 |some v=>simp only[Out.ofOpt,Out.bind,opA,jW]
 |none=>rfl
theorem lN{o:TOp}(h:cE o=3)(a:o≠.bad):op1 K O o i k M n fs env S=opE K O (gO o (opv K n env M) (dC M n) env S) i k M n fs:=by
 simp only[op1,mP K O env _ S o A_];have p:∀e,aV o e=none:=by intro e;cases o<;>first|rfl|simp[cE]at h
 have r:∀e,aO o e env S=none:=by intro e;cases o<;>first|rfl|simp[cE]at h
 have s:∀e n,bO o e n=none:=by intro e n;cases o<;>first|rfl|simp[cE]at h
 simp only[jI,iU,p,r,s];show er ((Out.ofOpt _ (gO o (opv K n env M) (dC M n) env S)).bind _)=_;cases gO o (opv K n env M) (dC M n) env S with
 |some v=>simp only[Out.ofOpt,Out.bind,opE,jW]
 |none=>rfl
def xtr(j:Nat):TV->Option TV
 |.tup vs=>vs[j]?
 |_=>none
theorem bNj(j:Nat)(vs:Tn_):xtr j (.tup vs)=vs[j]? := id rfl
def bNk(v:TV):Option TV:=if aAt v then some v else none
theorem bGl(a b c:Nat):bNk (.ptr a b c)=some (.ptr a b c):=id rfl
def ivO(x:Option IV):Option TV:=x.map .iv
theorem bGm(x:IV):ivO (some x)=some (.iv x):=id rfl
def eqV(neg:Bool)(x:Option Bool):Option TV:=x.map fun b=>.iv (.bool (if neg then !b else b))
theorem bVa(x:Bool):eqV false (some x)=some (.iv (.bool x)):=id rfl
def aYv(x:Option Nat):Option TV:=x.map fun(m:Nat)=>.iv (.int .i64 m)
def oG(ag:Bool)(x:Option (List TV)):Option TV:=match x with
 |some cs=>gL ag cs
 |none=>none
theorem aRu(a:Bool)(l:Tn_):oG a (some l)=gL a l:=id rfl
theorem aRv(v:TV):gL false [v]=some v:=id rfl
theorem aRw(l:Tn_):gL true l=some (rT l):=id rfl
def aYw(off n:Nat)(x:Option (List TV)):Option (List TV):=match x with
 |some all=>sub all off n
 |none=>none
theorem aYx(off n:Nat)(l:Tn_):aYw off n (some l)=sub l off n:=id rfl
def ixS(es:Nat)(x i:TV):Option TV:=match fB i with
 |some n=>indexAddrS es x n
 |none=>none
theorem bNl(es:Nat)(x:TV)(a:IntKind)(m:Int):ixS es x (.iv (.int a m))=indexAddrS es x m:=id rfl
def ixA(len es:Nat)(x i:TV):Option TV:=match fB i with
 |some n=>if 0<=n/\n<len then fY x (n.toNat*es)else none
 |none=>none
theorem aV9(a es:Nat)(x:TV)(b:IntKind)(m:Int):ixA a es x (.iv (.int b m))=if 0<=m/\m<a then fY x (m.toNat*es)else none:=id rfl
def bP3(x i:TV):Option TV:=match x,fB i with
 |.iv (.str s),some n=>if 0<=n then(s[n.toNat]?).map fun b=>.iv (.int .u8 b.toNat)else none
 |_,_=>none
def oI:Option TV->Option (Option Int)
 |none=>some none
 |some x=>(fB x).map some
theorem bNm:oI none=some none:=id rfl
theorem bNn(a:IntKind)(m:Int):oI (some (.iv (.int a m)))=some (some m):=id rfl
def slV(S:aA)(sk:SK)(x:TV)(lo hi mx:Option (Option Int)):Option TV:=match lo,hi,mx with
 |some lo,some hi,some mx=>fQ S sk x lo hi mx
 |_,_,_=>none
theorem bGn(b:SK)(x:TV)(lo a c:Option Int):slV S b x (some lo) (some a) (some c)=fQ S b x lo a c:=id rfl
def rZ(kd:NK)(S:aA)(v:TV):Option TV:=if zM v=kd then aYv (lenOf S v)else none
theorem aWa(t:Tag)(l:Tp_):rZ .sl S (.iv (.sl t l))=some (.iv (.int .i64 l.length)):=id rfl
theorem aNw(j:Nat)(l:Tp_):rZ .sl S (.tsl j l)=some (.iv (.int .i64 l.length)):=id rfl
theorem bGo(a b c d e f:Nat):rZ .sl S (.msl a b c d e f)=some (.iv (.int .i64 d)):=id rfl
def bsV(x:Option (List (List IV))):Option TV:=match x with
 |some l=>(oR l).map fun b=>.iv (.str b)
 |none=>none
def mkV(z:List IV)(bytes m:Nat)(l c:TV):Option (TV×aG):=match fB l,fB c with
 |some l,some c =>
  if 0<=l/\l<=c/\eA c.toNat bytes=true then
   some (.msl m 0 0 l.toNat c.toNat z.length,.cells 0 false (bC (List.replicate c.toNat (z.map .iv))))
  else none
 |_,_=>none
theorem bNo(z:Tq_)(bytes m:Nat)(b a:IntKind)(l c:Int)(h:0<=l/\l<=c/\eA c.toNat bytes=true):mkV z bytes m (.iv (.int b l)) (.iv (.int a c))=some (.msl m 0 0 l.toNat c.toNat z.length,.cells 0 false (bC (List.replicate c.toNat (z.map .iv)))):=by simp only[mkV,fB,h,X1,↓reduceIte]
def bGp(x:Option (List (List TV))):Option TV:=match x with
 |some es=>(jY es).map fun l=>.iv (.sl .full l)
 |none=>none
def aGh(m w:Nat)(x:Option (List (List TV))):Option (TV×aG):=match x with
 |some es=>some (.msl m 0 0 es.length es.length w,.cells 0 false (bC es))
 |none=>none
theorem aYy(m w:Nat)(es:List (List TV)):aGh m w (some es)=some (.msl m 0 0 es.length es.length w,.cells 0 false (bC es)):=id rfl
def mmV(mx:Bool)(l:List TV):Option TV:=match l with
 |.iv a::r=>(minmax mx a r).map .iv
 |_=>none
theorem bGq(b:Bool)(a:IV)(r:Tn_):mmV b (.iv a::r)=ivO (minmax b a r):=id rfl
def aAe(w:Nat)(env:Env)(S:aA)(a v:TV):Option (TV×Env×aA) :=
 if(cellsOf v).length=w then match setCells env S a (cellsOf v)with
   |some (env,S)=>some (undef,env,S)
   |none=>none
  else none
def aE3(x:Option (Env×aA)):Option (TV×Env×aA):=match x with
 |some (env,S)=>some (undef,env,S)
 |none=>none
theorem aNx:aE3 (some (env,S))=some (undef,env,S):=id rfl
theorem bS0{α:Type}{p:Prop}[Decidable p]{x y z:Out α}(h:p->x=z)(g:¬p->y=z):br (decide p) x y=z:=by
 by_cases hp:p;.simp only[hp,V6,vD];exact h hp
 .simp only[hp,Z5,qE];exact g hp
theorem bS1{α:Type}{a b:Int}{x y z:Out α}(h:a=b->x=z)(g:a≠b->y=z):br (a==b) x y=z:=by
 by_cases hp:a=b;.simp only[hp,beq_self_eq_true,vD];exact h hp
 .simp only[S_.2 hp,qE];exact g hp
theorem bS2{α:Type}{a b:Int}{x y z:Out α}(h:a≠b->x=z)(g:a=b->y=z):br (a != b) x y=z:=by
 by_cases hp:a=b;.simp only[hp,bne_self_eq_false,qE];exact g hp
 .simp only[bne_iff_ne.2 hp,vD];exact h hp
theorem aYz(w:Nat)(a v:TV)(h:(cellsOf v).length=w):aAe w env S a v=aE3 (setCells env S a (cellsOf v)):=by simp only[aAe,h,↓reduceIte,aE3]
def bWh(env:Env)(x:Option (TV×aA)):Option (TV×Env×aA):=match x with
 |some (v,S)=>some (v,env,S)
 |none=>none
theorem aNy(x:Option (TV×aA)):opE K O (bWh env x) i k M n fs=opS K O x i k M n fs env:=by cases x<;>rfl
def aWb(f:Nat)(a b:List TV):Option TV:=if(a++b).any cA then none else some (.fn f a b)
def bVb(env:Env)(S:aA)(v:TV):Option (TV×Env×aA):=match v with
  |.it j=>match S[j]? with
   |some (.sit s pos) =>
    if pos<s.length then
     let (c,width):=Utf8.decode ⟨s.toArray⟩ pos
     some (.tup [.iv (.bool true),.iv (.int .i64 pos),.iv (.int .i32 c)],env,S.set j (.sit s (pos+width)))
    else some (.tup [.iv (.bool false)],env,S)
   |_=>none
  |_=>none
def aK0(str:Bool)(env:Env)(S:aA)(v:TV):Option (TV×Env×aA):=match str,v with
  |true,.iv (.str s)=>some (.it S.length,env,S++[.sit s 0])
  |false,.iv .nilm=>some (.it S.length,env,S++[.mit none 0 [] 0])
  |false,.map j=>match S[j]? with
   |some (.mp _ clock)=>some (.it S.length,env,S++[.mit (some j) clock [] clock])
   |_=>none
  |_,_=>none
theorem bNp(x:aH):op1 K O (.mov x) i k M n fs env S=opV K O (some (opv K n env M x)) i k M n fs env S:=iN K O i k M n fs env S (id rfl)
theorem bGr(c a b:aH):op1 K O (.pick c a b) i k M n fs env S=opP K O (opv K n env M c) (opv K n env M a) (opv K n env M b) i k M n fs env S:=by
 rw[iN K O i k M n fs env S rfl];simp only[aV,opP];cases opv K n env M c with
 |iv v =>
  cases v with
  |bool t=>cases t<;>rfl
  |_=>rfl
 |_=>rfl
theorem aY0(z:Tq_)(ps:List (Nat×Nat×aH)):op1 K O (.build z ps) i k M n fs env S=opV K O ((fill (z.map .iv) (opv K n env M) ps).map rT) i k M n fs env S:=iN K O i k M n fs env S (id rfl)
theorem aK1(x:aH):op1 K O (.nilCheck x) i k M n fs env S=opV K O (bNk (opv K n env M x)) i k M n fs env S:=iN K O i k M n fs env S (id rfl)
theorem bNq(op:BinOp)(x y:aH):op1 K O (.bin op x y) i k M n fs env S=opV K O (ivO (binOp op (opv K n env M x) (opv K n env M y))) i k M n fs env S:=iN K O i k M n fs env S (id rfl)
theorem bNr(a:Bool)(b:EK)(x y:aH):op1 K O (.eqB a b x y) i k M n fs env S=opV K O (eqV a (eqB b (opv K n env M x) (opv K n env M y))) i k M n fs env S:=iN K O i k M n fs env S (id rfl)
theorem aY1(a:Bool)(cL:List (Nat×LK))(x y:aH):op1 K O (.eqAgg a cL x y) i k M n fs env S=opV K O (ivO (eqAgg a cL (opv K n env M x) (opv K n env M y))) i k M n fs env S:=iN K O i k M n fs env S (id rfl)
theorem bS3(op:UnOp)(x:aH):op1 K O (.un op x) i k M n fs env S=opV K O (ivO (unOp op (opv K n env M x))) i k M n fs env S:=iN K O i k M n fs env S (id rfl)
theorem bGs(f:Nat)(a b:List aH):op1 K O (.mkFn f a b) i k M n fs env S=opV K O (aWb f (a.map (opv K n env M)) (b.map (opv K n env M))) i k M n fs env S:=iN K O i k M n fs env S (id rfl)
theorem aGi(off:Nat)(x:aH):op1 K O (.fieldAddr off x) i k M n fs env S=opV K O (fY (opv K n env M x) off) i k M n fs env S:=iN K O i k M n fs env S (id rfl)
theorem aY2(off w:Nat)(a:Bool)(x:aH):op1 K O (.field off w a x) i k M n fs env S=opV K O (oG a (aYw off w (iE (opv K n env M x)))) i k M n fs env S:=by
 rw[iN K O i k M n fs env S rfl];simp only[aV];cases iE (opv K n env M x)with
 |none=>rfl
 |some l=>simp only[aYw,oG];cases sub l off w<;>rfl
theorem aE4(es:Nat)(x y:aH):op1 K O (.indexAddrS es x y) i k M n fs env S=opV K O (ixS es (opv K n env M x) (opv K n env M y)) i k M n fs env S:=iN K O i k M n fs env S (id rfl)
theorem aE5(a es:Nat)(x y:aH):op1 K O (.indexAddrA a es x y) i k M n fs env S=opV K O (ixA a es (opv K n env M x) (opv K n env M y)) i k M n fs env S:=iN K O i k M n fs env S (id rfl)
theorem bS4(x y:aH):op1 K O (.indexS x y) i k M n fs env S=opV K O (bP3 (opv K n env M x) (opv K n env M y)) i k M n fs env S:=iN K O i k M n fs env S (id rfl)
theorem aNz(j:Nat)(x:aH):op1 K O (.extract j x) i k M n fs env S=opV K O (xtr j (opv K n env M x)) i k M n fs env S:=iN K O i k M n fs env S (id rfl)
theorem bNs(x:aH):op1 K O (.cap x) i k M n fs env S=opV K O (aYv (aAu (opv K n env M x))) i k M n fs env S:=iN K O i k M n fs env S (id rfl)
theorem bVc(m:Nat):op1 K O (.lenC m) i k M n fs env S=opV K O (some (.iv (.int .i64 m))) i k M n fs env S:=iN K O i k M n fs env S (id rfl)
theorem aRx(a:Bool)(xs:List aH):op1 K O (.minmax a xs) i k M n fs env S=opV K O (mmV a (xs.map (opv K n env M))) i k M n fs env S:=iN K O i k M n fs env S (id rfl)
theorem aY3(a:aH):op1 K O (.load1 a) i k M n fs env S=opV K O (oG false (bP env S (opv K n env M a) 1)) i k M n fs env S:=aAd K O i k M n fs env S (id rfl)
theorem aY4(w:Nat)(a:aH):op1 K O (.loadN w a) i k M n fs env S=opV K O (oG true (bP env S (opv K n env M a) w)) i k M n fs env S:=aAd K O i k M n fs env S (id rfl)
theorem aY5(c:SK)(x:aH)(lo a b:Option aH):op1 K O (.slice c x lo a b) i k M n fs env S=opV K O (slV S c (opv K n env M x) (oI (lo.map (opv K n env M))) (oI (a.map (opv K n env M))) (oI (b.map (opv K n env M)))) i k M n fs env S:=by rw[aAd K O i k M n fs env S rfl];simp only[aO,slV];cases lo<;>cases a<;>cases b<;>rfl
theorem aRy(kk:KK)(z:IV)(a:Bool)(m y:aH):op1 K O (.lookup kk z a m y) i k M n fs env S=opV K O (aO (.lookup kk z a m y) (opv K n env M) env S) i k M n fs env S:=aAd K O i k M n fs env S (id rfl)
theorem aRz(x:aH):op1 K O (.entryM x) i k M n fs env S=opV K O (aO (.entryM x) (opv K n env M) env S) i k M n fs env S:=aAd K O i k M n fs env S (id rfl)
theorem bNt(a:NK)(x:aH):op1 K O (.len a x) i k M n fs env S=opV K O (rZ a S (opv K n env M x)) i k M n fs env S:=aAd K O i k M n fs env S (id rfl)
theorem yT(c:CK)(a:c≠.bytesStr)(x:aH):op1 K O (.conv c x) i k M n fs env S=opV K O (ivO (dD c (opv K n env M x))) i k M n fs env S:=by
 simp only[op1,ec4];show er ((Out.need _ (match(dD c (opv K n env M x)).map TV.iv with|some v=>some v|none=>aO (.conv c x) (opv K n env M) env S) _).bind _)=_;cases h:dD c (opv K n env M x)with
 |some v=>simp only[Option.map,Out.need,Out.bind,ivO,opV,jW]
 |none =>
  have:aO (.conv c x) (opv K n env M) env S=none:=by cases c<;>first|rfl|exact absurd rfl a
  simp only[this,Option.map,Out.need,Out.bind,ivO,opV,er]
theorem aY6(a:IntKind)(x:aH):op1 K O (.conv (.toInt a) x) i k M n fs env S=opV K O (ivO (dD (.toInt a) (opv K n env M x))) i k M n fs env S:=yT K O i k M n fs env S _ B_ x
theorem bS5(x:aH):op1 K O (.conv .intStr x) i k M n fs env S=opV K O (ivO (dD .intStr (opv K n env M x))) i k M n fs env S:=yT K O i k M n fs env S _ B_ x
theorem bS6(x:aH):op1 K O (.conv .strStr x) i k M n fs env S=opV K O (ivO (dD .strStr (opv K n env M x))) i k M n fs env S:=yT K O i k M n fs env S _ B_ x
theorem bNu(x:aH):op1 K O (.conv .strBytes x) i k M n fs env S=opV K O (ivO (dD .strBytes (opv K n env M x))) i k M n fs env S:=yT K O i k M n fs env S _ B_ x
theorem bNv(x:aH):op1 K O (.conv .bytesStr x) i k M n fs env S=opV K O (bsV (cH S (opv K n env M x))) i k M n fs env S:=by
 simp only[op1,ec4];have a:dD .bytesStr (aX K env (dC M n) x)=none:=by
  unfold dD;cases aX K env (dC M n) x with
  |iv v=>cases v<;>rfl
  |_=>rfl
 simp only[a,Option.map];show er ((Out.need _ (bsV (cH S (opv K n env M x))) _).bind _)=_;cases bsV (cH S (opv K n env M x))with
 |some v=>simp only[Out.need,Out.bind,opV,jW]
 |none=>rfl
def aN0(w:Nat)(x:Option (List (List IV)))(es:Option (List (List TV)))(i:Nat)(k:Kt)(M:List (Nat×TV))(n:Nat)(fs:List Fr)(env:Env)(S:aA):Out (aW×Env×aA) :=
 match x with
 |some l=>opV K O (some (.iv (.sl .full l))) i k M n fs env S
 |none=>opA K O (aGh S.length w es) i k M n fs env S
@[congr] theorem litQ_congr (w:Nat) {x x':Option (List (List IV))} (h:x=x') {es es':Option (List (List TV))} (h2:es=es'):aN0 K O w x es i k M n fs env S=aN0 K O w x' es' i k M n fs env S:=by rw[h,h2]
theorem aY7(w:Nat)(l:Tp_)(es:Option (List (List TV))):aN0 K O w (some l) es i k M n fs env S=iG K O k ((i,.iv (.sl .full l))::M) n fs env S:=id rfl
theorem aY8(w:Nat)(es:Option (List (List TV))):aN0 K O w none es i k M n fs env S=opA K O (aGh S.length w es) i k M n fs env S:=id rfl
def bNw(x:Option (List (List TV))):Option (List (List IV)):=match x with
 |some es=>jY es
 |none=>none
theorem aY9(l:List (List TV)):bNw (some l)=jY l:=id rfl
theorem bNx(z:Tq_)(b:Nat)(ps:List (Nat×aH)):op1 K O (.lit false z b ps) i k M n fs env S=aN0 K O z.length (bNw (dZ (List.replicate b (z.map .iv)) z.length (opv K n env M) ps)) (dZ (List.replicate b (z.map .iv)) z.length (opv K n env M) ps) i k M n fs env S:=by
 simp only[op1,mP K O env _ S _ (show cE (.lit false z b ps)≠5 by simp[cE])];have p:aV (.lit false z b ps) (aX K env (dC M n))=bGp (dZ (List.replicate b (z.map .iv)) z.length (opv K n env M) ps):=rfl;have r:aO (.lit false z b ps) (aX K env (dC M n)) env S=none:=rfl;have a:bO (.lit false z b ps) (aX K env (dC M n)) S.length=aGh S.length z.length (dZ (List.replicate b (z.map .iv)) z.length (opv K n env M) ps):=rfl;have s:gO (.lit false z b ps) (aX K env (dC M n)) (dC M n) env S=none:=rfl;simp only[jI,iU,p,r,a,s];cases dZ (List.replicate b (z.map .iv)) z.length (opv K n env M) ps with
 |none=>rfl
 |some es =>
  simp only[bGp,bNw];cases jY es with
  |some l=>simp only[Option.map,Out.ofOpt,Out.bind,aN0,opV,jW]
  |none=>simp only[Option.map,Out.ofOpt,Out.bind,aN0,aGh,opA,jW]
theorem bGt(z:Tq_)(b:Nat)(ps:List (Nat×aH)):op1 K O (.lit true z b ps) i k M n fs env S=opA K O (aGh S.length z.length (dZ (List.replicate b (z.map .iv)) z.length (opv K n env M) ps)) i k M n fs env S:=by
 simp only[op1,mP K O env _ S _ (show cE (.lit true z b ps)≠5 by simp[cE])];have p:aV (.lit true z b ps) (aX K env (dC M n))=none:=rfl;have r:aO (.lit true z b ps) (aX K env (dC M n)) env S=none:=rfl;have a:bO (.lit true z b ps) (aX K env (dC M n)) S.length=aGh S.length z.length (dZ (List.replicate b (z.map .iv)) z.length (opv K n env M) ps):=rfl;have s:gO (.lit true z b ps) (aX K env (dC M n)) (dC M n) env S=none:=rfl;simp only[jI,iU,p,r,a,s];cases aGh S.length z.length (dZ (List.replicate b (z.map .iv)) z.length (opv K n env M) ps)with
 |some v=>simp only[Out.ofOpt,Out.bind,opA,jW]
 |none=>rfl
theorem aR0(t:Nat)(z:Tq_):op1 K O (.allocH t z) i k M n fs env S=opS K O (some (.ptr S.length t 0,S++[.cells t false (z.map .iv)])) i k M n fs env:=aKz K O i k M n fs env S (id rfl)
theorem aZa:op1 K O .mkMap i k M n fs env S=opS K O (some (.map S.length,S++[.mp [] 0])) i k M n fs env:=aKz K O i k M n fs env S (id rfl)
theorem aN1(z:Tq_)(bytes:Nat)(l c:aH):op1 K O (.mkSlice z bytes l c) i k M n fs env S=opA K O (mkV z bytes S.length (opv K n env M l) (opv K n env M c)) i k M n fs env S:=aKz K O i k M n fs env S (id rfl)
def bS7(t m:Nat)(v:TV):Option (TV×aG):=if(cellsOf v).any bJ then none else some (.ptr m t 0,.cells t false (cellsOf v))
theorem bGu(t:Nat)(x:aH):op1 K O (.boxH t x) i k M n fs env S=opA K O (bS7 t S.length (opv K n env M x)) i k M n fs env S:=aKz K O i k M n fs env S (id rfl)
def aN2(j:Nat):List (Nat×TV)->Bool
 |[]=>true
 |(_,v)::M=>!(qA j v)&&aN2 j M
theorem aN3{j:Nat}:∀ {M:To_},aN2 j M=true->∀m,qA j (reg M m)=false
 |[],_,m=>rfl
 |(a,v)::M,h,m=>by
  simp only[aN2,P_,D7]at h;simp only[reg];split;.exact h.1
  .exact aN3 h.2 m
theorem aH6{j:Nat}{M:To_}(h:aN2 j M=true):(dC M n).any (qA j)=false:=by rw[t_];intro x a;simp only[dC,A0]at a;obtain⟨m,_,rfl⟩:=a;simp[aN3 h m]
def alB(c:Bool)(x y:Out (aW×Env×aA)):Out (aW×Env×aA):=bif c then x else y
@[congr] theorem alB_congr {c c':Bool} (h:c=c') (x y:Out (aW×Env×aA)):alB c x y=alB c' x y:=by rw[h]
theorem aE6(x y:Out (aW×Env×aA)):alB true x y=x:=id rfl
theorem aN4(j:Nat)(z:Tq_)(h:aN2 j M=true)(a:j<env.length):op1 K O (.allocL j z) i k M n fs env S=opE K O (some (.lp j 0,env.set j (.lb (z.map .iv)),S)) i k M n fs:=by rw[lN K O i k M n fs env S (id rfl) B_];simp only[gO,aH6 n h,a,V6,E7,Bool.or_self,b_,↓reduceIte]
theorem aZb(j:Nat)(x:aH)(h:aN2 j M=true)(a:j<env.length):op1 K O (.boxL j x) i k M n fs env S=opE K O (if(cellsOf (opv K n env M x)).any bJ then none else some (.lp j 0,env.set j (.lb (cellsOf (opv K n env M x))),S)) i k M n fs:=by rw[lN K O i k M n fs env S (id rfl) B_];simp only[gO,aH6 n h,a,V6,E7,O7]
def okL(j:Nat)(M:List (Nat×TV))(env:Env):Bool:=aN2 j M&&decide (j<env.length)
theorem aR1(j:Nat)(z:Tq_):op1 K O (.allocL j z) i k M n fs env S=alB (okL j M env) (opE K O (some (.lp j 0,env.set j (.lb (z.map .iv)),S)) i k M n fs) (op1 K O (.allocL j z) i k M n fs env S):=by
 cases h:okL j M env with
 |false=>rfl
 |true =>simp only[okL,P_,q_]at h;rw[aE6,aN4 K O i k M n fs env S j z h.1 h.2]
theorem bGv(j:Nat)(x:aH):op1 K O (.boxL j x) i k M n fs env S=alB (okL j M env) (opE K O (if(cellsOf (opv K n env M x)).any bJ then none else some (.lp j 0,env.set j (.lb (cellsOf (opv K n env M x))),S)) i k M n fs) (op1 K O (.boxL j x) i k M n fs env S):=by
 cases h:okL j M env with
 |false=>rfl
 |true =>simp only[okL,P_,q_]at h;rw[aE6,aZb K O i k M n fs env S j x h.1 h.2]
theorem aZc(w:Nat)(a v:aH):op1 K O (.store w a v) i k M n fs env S=opE K O (aAe w env S (opv K n env M a) (opv K n env M v)) i k M n fs:=lN K O i k M n fs env S rfl B_
theorem aR2(kk:KK)(m y x:aH):op1 K O (.update kk m y x) i k M n fs env S=opE K O (gO (.update kk m y x) (opv K n env M) (dC M n) env S) i k M n fs:=lN K O i k M n fs env S rfl B_
theorem aZd(a:Bool)(x:aH):op1 K O (.range a x) i k M n fs env S=opE K O (aK0 a env S (opv K n env M x)) i k M n fs:=lN K O i k M n fs env S rfl B_
theorem bTu(x:aH):op1 K O (.nextS x) i k M n fs env S=opE K O (bVb env S (opv K n env M x)) i k M n fs:=lN K O i k M n fs env S rfl B_
theorem aR3(mu:Bool)(es bytes el:Nat)(s x:aH):op1 K O (.append mu es bytes el s x) i k M n fs env S=opS K O (bA mu es bytes el S (opv K n env M s) (opv K n env M x)) i k M n fs env:=by rw[lN K O i k M n fs env S rfl B_,<-aNy];rfl
theorem bVd(es:Nat)(d s:aH):op1 K O (.copy es d s) i k M n fs env S=opS K O (aJ7 es S (opv K n env M d) (opv K n env M s)) i k M n fs env:=by rw[lN K O i k M n fs env S rfl B_,<-aNy];rfl
def cpV(S:aA)(args:List TV)(v:Option TV):Out (TV×aA) :=
 match v with
 | none => .fail ""
 |some v =>
  if args.any pZ&&!(fW v)then
   match cJ S args with
   |some S=>.ret (v,S)
   | none => .fail ""
  else .ret (v,S)
def cpR(S:aA)(args:List TV)(x:Out (TV×aA)):Out (TV×aA):=(er x).bind fun r=>cpV S args (resolve r.2 r.1)
def cpA(S:aA)(args:List TV)(f:Nat)(ags:Option (List TV)):Out (TV×aA) :=
 match ags with
 | none => .fail ""
 |some ags=>cpR S args (O.call f ags [])
@[congr] theorem cpV_congr (args:List TV) {v v':Option TV} (h:v=v'):cpV S args v=cpV S args v':=by rw[h]
@[congr] theorem cpR_congr (args:List TV) {v v':Out (TV×aA)} (h:v=v'):cpR S args v=cpR S args v':=by rw[h]
@[congr] theorem cpA_congr (args:List TV) (f:Nat) {v v':Option (List TV)} (h:v=v'):cpA O S args f v=cpA O S args f v':=by rw[h]
theorem bGw(args a:Tn_)(f:Nat):cpA O S args f (some a)=cpR S args (O.call f a []):=id rfl
theorem bNy(args:Tn_)(v:TV)(S':aA):cpR S args (.ret (v,S'))=cpV S args (resolve S' v):=id rfl
def cpB(c:Bool)(S:aA)(args:List TV)(v:TV):Out (TV×aA) :=
 if c then match cJ S args with
   |some S=>.ret (v,S)
   | none => .fail ""
  else .ret (v,S)
@[congr] theorem cpB_congr {c c':Bool} (h:c=c') (args:List TV) (v:TV):cpB c S args v=cpB c' S args v:=by rw[h]
theorem bGx(args:Tn_)(v:TV):cpV S args (some v)=cpB (args.any pZ&&!(fW v)) S args v:=id rfl
theorem aZe(args:Tn_)(v:TV):cpB false S args v=.ret (v,S):=id rfl
def bNz(v:TV)(x:Option aA):Out (TV×aA):=match x with
 |some S=>.ret (v,S)
 | none => .fail ""
theorem aZf(v:TV):bNz v (some S)=.ret (v,S):=id rfl
theorem bGy(args:Tn_)(v:TV):cpB true S args v=bNz v (cJ S args):=by simp only[cpB,↓reduceIte,bNz]
theorem aBm(f:Nat)(args:Tn_):er (fC O f args S)=cpA O S args f (cY S args):=by
 unfold fC cpA;cases cY S args with
 |none=>rfl
 |some ags =>
  simp only[cpR,gJ];refine Out.bind_congr fun r=>?_;cases resolve r.2 r.1 with
  |none=>rfl
  |some v =>
   simp only[cpV];split;.cases cJ S args<;>rfl
   .rfl
theorem aE7(x:Out (TV×aA)):er (x.bind fun r=>iG K O k ((i,r.1)::M) n fs env r.2)=opC K O (er x) i k M n fs env:=by rw[gJ];simp only[opC,jW]
theorem aZg(t:Bool)(f:Nat)(args:List aH):op1 K O (.call true t f args) i k M n fs env S=opC K O (cpA O S (args.map (opv K n env M)) f (cY S (args.map (opv K n env M)))) i k M n fs env:=by rw[<-aBm,<-aE7];simp only[op1,bW,Out.bind_assoc,Out.bind,↓reduceIte];rfl
def csR(t:Bool)(S:aA)(x:Out (TV×aA)):Out (TV×aA):=(er x).bind fun r =>
 if t then match zN r.1 r.2 with
  |some q=>.ret q
  | none => .fail ""
 else .ret r
def csA (t : Bool) (S : aA) (f : Nat) (lp : Bool) (args : List TV) : Out (TV × aA) := if lp then .fail "" else csR t S (O.call f args S)
@[congr] theorem csR_congr (t:Bool) {v v':Out (TV×aA)} (h:v=v'):csR t S v=csR t S v':=by rw[h]
theorem bS8(t:Bool)(f:Nat)(args:Tn_):csA O t S f false args=csR t S (O.call f args S):=id rfl
theorem bVe(v:TV)(S':aA):csR false S (.ret (v,S'))=.ret (v,S'):=id rfl
def trV(_v:TV)(x:Option (TV×aA)):Out (TV×aA):=match x with
 |some q=>.ret q
 | none => .fail ""
theorem bGz(v:TV)(q:TV×aA):trV v (some q)=.ret q:=id rfl
theorem bVf(v:TV)(S':aA):csR true S (.ret (v,S'))=trV v (zN v S'):=by simp only[csR,er,Out.bind,↓reduceIte,trV]
theorem aH7(t:Bool)(f:Nat)(args:Tn_):er (jJ O t f args S)=csA O t S f (args.any cA) args:=by
 unfold jJ csA;split;.rfl
 .simp only[csR,gJ];refine Out.bind_congr fun r=>?_;cases t
  .rfl
  .simp only[↓reduceIte];cases zN r.1 r.2<;>rfl
theorem aZh(t:Bool)(f:Nat)(args:List aH):op1 K O (.call false t f args) i k M n fs env S=opC K O (csA O t S f ((args.map (opv K n env M)).any cA) (args.map (opv K n env M))) i k M n fs env:=by rw[<-aH7,<-aE7];simp only[op1,bW,Out.bind_assoc,Out.bind,b_,↓reduceIte];rfl
def prV(S:aA)(p:Option aF5)(args:List TV):Option (TV×aA):=match p with
 |some p=>if args.any cA then none else p args S
 |none=>none
theorem bG0(f:Nat)(args:List aH):op1 K O (.prim f args) i k M n fs env S=opS K O (prV S (K.prim f) (args.map (opv K n env M))) i k M n fs env:=by
 simp only[op1,bW];show er (Out.bind (match K.prim f with | some p => if (args.map (opv K n env M)).any cA = true then .fail "prim: a local's address" else Out.bind (Out.ofOpt "prim" (p (args.map (opv K n env M)) S)) fun r => .ret (r.1, env, r.2) | none => .fail "prim") _) = _;cases K.prim f with
 |none=>rfl
 |some p =>
  simp only[prV];split;.rfl
  .cases p (args.map (opv K n env M)) S with
   |none=>rfl
   |some q=>simp only[Out.ofOpt,Out.bind,opS,jW]
def fin(rs:List mU)(x:Out (aW×Env×aA)):Out (TV×aA) :=
 x.bind fun r=>match r.1 with
  | .exit _ => .fail ""
  |_=>match kP rs r.2.1 r.2.2 with
   |some v=>.ret (v,r.2.2)
   | none => .fail ""
@[congr] theorem fin_congr (rs:List mU) {x x':Out (aW×Env×aA)} (h:x=x'):fin rs x=fin rs x':=by rw[h]
def aZi(S:aA)(v:Option TV):Out (TV×aA):=match v with
 |some v=>.ret (v,S)
 | none => .fail ""
theorem aZj(v:TV):aZi S (some v)=.ret (v,S):=id rfl
theorem bN0(rs:List mU):fin rs (.ret (.ret,env,S))=aZi S (kP rs env S):=by simp only[fin,Out.bind,aZi]
theorem aR4(rs:List mU):fin rs (.ret (.normal,env,S))=aZi S (kP rs env S):=by simp only[fin,Out.bind,aZi]
theorem bS9(rs:List mU)(B:Bool)(x y:Out (aW×Env×aA)):fin rs (br B x y)=br B (fin rs x) (fin rs y):=by cases B<;>rfl
theorem oW(f:Nat)(args:Tn_)(fn:aU)(c:K.funcs f=some fn)(b:args.length=fn.nparams):er (eM K O f args S)=fin fn.results (go K O fn.body [] (args++List.replicate (fn.nlocs-fn.nparams) undef) S):=by
 simp only[eM,c,b,ne_eq,C9,↓reduceIte,go,fin]
 rw[gJ]
 have e:(eV K O fn.body (args++List.replicate (fn.nlocs-fn.nparams) undef) S).bind (fun r=>back K O [] r.1 r.2.1 r.2.2)=eV K O fn.body (args++List.replicate (fn.nlocs-fn.nparams) undef) S:=by
  cases eV K O fn.body (args++List.replicate (fn.nlocs-fn.nparams) undef) S with
  |ret a=>rfl
  |fail s=>rfl
  |pick n k=>simp only[Out.bind];congr;funext i;exact bind_back (k i)
 rw[e]
 refine Out.bind_congr fun r=>?_
 obtain⟨j,e,S'⟩:=r
 cases j with
 |exit i=>rfl
 |_=>simp only;cases kP fn.results e S'<;>rfl
where
 bind_back:∀x:Out (aW×Env×aA),(x.bind fun r=>back K O [] r.1 r.2.1 r.2.2)=x
  |.ret a=>rfl
  |.fail s=>rfl
  |.pick n k=>by simp only[Out.bind];congr;funext i;exact bind_back (k i)
theorem bG1{f:Nat}{args:Tn_}{fn:aU}{r:TV×aA}(a:K.funcs f=some fn)(b:args.length=fn.nparams)(h:fin fn.results (go K (lim K) fn.body [] (args++List.replicate (fn.nlocs-fn.nparams) undef) S)=.ret r):(lim K).call f args S=.ret r :=
 bFu (bFw ((oW K (lim K) S f args fn a b).trans h))
theorem bG2{f:Nat}{args:Tn_}{fn:aU}{Q:TV×aA->Prop}(a:K.funcs f=some fn)(b:args.length=fn.nparams)(h:(fin fn.results (go K (lim K) fn.body [] (args++List.replicate (fn.nlocs-fn.nparams) undef) S)).All Q):((lim K).call f args S).All Q :=
 aKu (aKw (by rw[oW K (lim K) S f args fn a b];exact h))
def rnd(b:aL)(x:Out (aW×Env×aA)):Out (aW×Env×aA) :=
 x.bind fun r=>match r.1 with
  |.normal=>er (lp O b r.2.1 r.2.2)
  |j=>.ret (j,r.2.1,r.2.2)
@[congr] theorem rnd_congr (b:aL) {x x':Out (aW×Env×aA)} (h:x=x'):rnd O b x=rnd O b x':=by rw[h]
theorem aR5(b:aL):rnd O b (.ret (.normal,env,S))=er (lp O b env S):=id rfl
theorem bN1(b:aL):rnd O b (.ret (.ret,env,S))=.ret (.ret,env,S):=id rfl
theorem bG3(b:aL)(id:Nat):rnd O b (.ret (.exit id,env,S))=.ret (.exit id,env,S):=by simp only[rnd,Out.bind]
theorem bTa(b:aL)(B:Bool)(x y:Out (aW×Env×aA)):rnd O b (br B x y)=br B (rnd O b x) (rnd O b y):=by cases B<;>rfl
theorem bG4{b:aL}{r:aW×Env×aA}(h:rnd (lim K) b (go K (lim K) b [] env S)=.ret r):lp (lim K) b env S=.ret r:=by refine bFv (bFw ?_);rw[<-h];simp only[jS,rnd,go];rw[gJ];have e:=oW.bind_back K (lim K) (eV K (lim K) b env S);rw[e];refine Out.bind_congr fun r=>?_;obtain⟨j,e,S'⟩:=r;cases j<;>rfl
end
end Go.TM
namespace Go.TM
section
variable (K:bD)(O:Orc)(i:Nat)(k:Kt)(M:List (Nat×TV))(n:Nat)(fs:List Fr)(env:Env)(S:aA)
def flM(o:TOp):Option TV:=iU K o env (dC M n) S
theorem lA{o:TOp}(h:cE o=0):flM K M n env S o=aV o (opv K n env M):=by
 have r:∀e,aO o e env S=none:=by intro e;cases o<;>first|rfl|simp[cE]at h
 simp only[flM,iU,r];show(match aV o (opv K n env M)with|some v=>some v|none=>none)=_;cases aV o (opv K n env M)<;>rfl
theorem aN5{o:TOp}(h:cE o=1):flM K M n env S o=aO o (opv K n env M) env S:=by
 have p:∀e,aV o e=none:=by intro e;cases o<;>first|rfl|simp[cE]at h
 simp only[flM,iU,p];rfl
theorem aCs(c:CK)(a:c≠.bytesStr)(x:aH):flM K M n env S (.conv c x)=ivO (dD c (opv K n env M x)):=by
 have r:aO (.conv c x) (opv K n env M) env S=none:=by cases c<;>first|rfl|exact absurd rfl a
 show(match((dD c (opv K n env M x)).map TV.iv)with|some v=>some v|none=>aO (.conv c x) (opv K n env M) env S)=_;rw[r];cases dD c (opv K n env M x)<;>rfl
theorem bP4(x:aH):flM K M n env S (.conv .bytesStr x)=bsV (cH S (opv K n env M x)):=by
 have a:dD .bytesStr (opv K n env M x)=none:=by
  unfold dD;cases opv K n env M x with
  |iv v=>cases v<;>rfl
  |_=>rfl
 show(match((dD .bytesStr (opv K n env M x)).map TV.iv)with|some v=>some v|none=>aO (.conv .bytesStr x) (opv K n env M) env S)=_;rw[a];rfl
theorem bWi(z:Tq_)(a:Nat)(ps:List (Nat×aH)):flM K M n env S (.lit false z a ps)=bGp (dZ (List.replicate a (z.map .iv)) z.length (opv K n env M) ps):=by have r:aO (.lit false z a ps) (opv K n env M) env S=none:=rfl;show(match bGp (dZ (List.replicate a (z.map .iv)) z.length (opv K n env M) ps)with|some v=>some v|none=>none)=_;cases bGp (dZ (List.replicate a (z.map .iv)) z.length (opv K n env M) ps)<;>rfl
def bVg(c a b:TV):Option TV:=match zL c with
  |some t=>some (if t then a else b)
  |none=>none
theorem bVx(c a b:aH):flM K M n env S (.pick c a b)=bVg (opv K n env M c) (opv K n env M a) (opv K n env M b):=lA K M n env S (id rfl)
theorem bWj(x:aH):flM K M n env S (.mov x)=some (opv K n env M x):=lA K M n env S (id rfl)
theorem bVh(z:Tq_)(ps:List (Nat×Nat×aH)):flM K M n env S (.build z ps)=(fill (z.map .iv) (opv K n env M) ps).map rT:=lA K M n env S (id rfl)
theorem bP5(x:aH):flM K M n env S (.nilCheck x)=bNk (opv K n env M x):=lA K M n env S (id rfl)
theorem bWk(op:BinOp)(x y:aH):flM K M n env S (.bin op x y)=ivO (binOp op (opv K n env M x) (opv K n env M y)):=lA K M n env S (id rfl)
theorem bWl(a:Bool)(b:EK)(x y:aH):flM K M n env S (.eqB a b x y)=eqV a (eqB b (opv K n env M x) (opv K n env M y)):=lA K M n env S (id rfl)
theorem bVi(a:Bool)(cL:List (Nat×LK))(x y:aH):flM K M n env S (.eqAgg a cL x y)=ivO (eqAgg a cL (opv K n env M x) (opv K n env M y)):=lA K M n env S (id rfl)
theorem bW0(op:UnOp)(x:aH):flM K M n env S (.un op x)=ivO (unOp op (opv K n env M x)):=lA K M n env S (id rfl)
theorem bVy(f:Nat)(a b:List aH):flM K M n env S (.mkFn f a b)=aWb f (a.map (opv K n env M)) (b.map (opv K n env M)):=lA K M n env S (id rfl)
theorem bN2(off:Nat)(x:aH):flM K M n env S (.fieldAddr off x)=fY (opv K n env M x) off:=lA K M n env S (id rfl)
theorem bVj(off w:Nat)(a:Bool)(x:aH):flM K M n env S (.field off w a x)=oG a (aYw off w (iE (opv K n env M x))):=by
 rw[lA K M n env S rfl];simp only[aV];cases iE (opv K n env M x)with
 |none=>rfl
 |some l=>simp only[aYw,oG];cases sub l off w<;>rfl
theorem bJn(es:Nat)(x y:aH):flM K M n env S (.indexAddrS es x y)=ixS es (opv K n env M x) (opv K n env M y):=lA K M n env S (id rfl)
theorem bJo(a es:Nat)(x y:aH):flM K M n env S (.indexAddrA a es x y)=ixA a es (opv K n env M x) (opv K n env M y):=lA K M n env S (id rfl)
theorem bTv(x y:aH):flM K M n env S (.indexS x y)=bP3 (opv K n env M x) (opv K n env M y):=lA K M n env S (id rfl)
theorem bTb(j:Nat)(x:aH):flM K M n env S (.extract j x)=xtr j (opv K n env M x):=lA K M n env S (id rfl)
theorem bWm(x:aH):flM K M n env S (.cap x)=aYv (aAu (opv K n env M x)):=lA K M n env S (id rfl)
theorem bVz(m:Nat):flM K M n env S (.lenC m)=some (.iv (.int .i64 m)):=lA K M n env S (id rfl)
theorem bTw(a:Bool)(xs:List aH):flM K M n env S (.minmax a xs)=mmV a (xs.map (opv K n env M)):=lA K M n env S (id rfl)
theorem bG5(a:aH):flM K M n env S (.load1 a)=oG false (bP env S (opv K n env M a) 1):=aN5 K M n env S (id rfl)
theorem bG6(w:Nat)(a:aH):flM K M n env S (.loadN w a)=oG true (bP env S (opv K n env M a) w):=aN5 K M n env S (id rfl)
theorem bVk(c:SK)(x:aH)(lo a b:Option aH):flM K M n env S (.slice c x lo a b)=slV S c (opv K n env M x) (oI (lo.map (opv K n env M))) (oI (a.map (opv K n env M))) (oI (b.map (opv K n env M))):=by rw[aN5 K M n env S rfl];simp only[aO,slV];cases lo<;>cases a<;>cases b<;>rfl
theorem bWn(a:NK)(x:aH):flM K M n env S (.len a x)=rZ a S (opv K n env M x):=aN5 K M n env S (id rfl)
theorem bVl(a:IntKind)(x:aH):flM K M n env S (.conv (.toInt a) x)=ivO (dD (.toInt a) (opv K n env M x)):=aCs K M n env S _ B_ x
theorem bTx(x:aH):flM K M n env S (.conv .intStr x)=ivO (dD .intStr (opv K n env M x)):=aCs K M n env S _ B_ x
theorem bTy(x:aH):flM K M n env S (.conv .strStr x)=ivO (dD .strStr (opv K n env M x)):=aCs K M n env S _ B_ x
theorem bP6(x:aH):flM K M n env S (.conv .strBytes x)=ivO (dD .strBytes (opv K n env M x)):=aCs K M n env S _ B_ x
mutual
theorem aBn:∀(a:IV),gN a a=true
 |.bool b=>by simp[gN]
 |.int k n=>by simp[gN]
 |.str s=>by simp[gN]
 |.sl t l=>by simp[gN,wA l]
 |.agg l=>by simp[gN,nM l]
 |.cp l=>by simp[gN,nM l]
 |.nilp=>rfl
 |.nilm=>rfl
 |.nilf=>rfl
 |.nili=>rfl
theorem nM:∀(l:Tq_),lX l l=true
 |[]=>rfl
 |a::l=>by simp[lX,aBn a,nM l]
theorem wA:∀(l:Tp_),kN l l=true
 |[]=>rfl
 |a::l=>by simp[kN,nM a,wA l]
end
theorem bN3(a:IV):same (.iv a) (.iv a)=true:=aBn a
theorem bG7(a b c:Nat):same (.ptr a b c) (.ptr a b c)=true:=by simp[same,aHd]
theorem bG8(a b c d e f:Nat):same (.msl a b c d e f) (.msl a b c d e f)=true:=by simp[same,aHd]
def rck(ops:List aK)(M:List (Nat×TV))(n:Nat)(env:Env)(S:aA)(c:List Nat):Bool:=nH K ops (dC M n) env S c
def rcS(v:Option TV)(w:TV):Bool:=match v with
 |some v=>same v w
 |none=>false
theorem bG9(v w:TV):rcS (some v) w=same v w:=id rfl
def rcG(g:TV)(want:Bool)(j:Nat)(M:List (Nat×TV))(n:Nat)(env:Env)(S:aA)(o:TOp):Bool:=match g with
 |.iv (.bool b)=>if b==want then rcS (flM K M n env S o) (opv K n env M (.reg j))else true
 |.tup []=>true
 |_=>false
theorem aZk(a:Bool)(j:Nat)(o:TOp):rcG K (.tup []) a j M n env S o=true:=id rfl
theorem bHa(b a:Bool)(j:Nat)(o:TOp):rcG K (.iv (.bool b)) a j M n env S o=if b==a then rcS (flM K M n env S o) (opv K n env M (.reg j))else true:=id rfl
def rcO(x:Option aK)(j:Nat)(M:List (Nat×TV))(n:Nat)(env:Env)(S:aA):Bool:=match x with
 |some ⟨o,_,none⟩=>rcS (flM K M n env S o) (opv K n env M (.reg j))
 |some ⟨o,_,some (g,want)⟩=>rcG K (opv K n env M (.reg g)) want j M n env S o
 |none=>false
theorem bHb(o:TOp)(l:Option Nat)(j:Nat):rcO K (some ⟨o,l,none⟩) j M n env S=rcS (flM K M n env S o) (opv K n env M (.reg j)):=id rfl
theorem aZl(o:TOp)(l:Option Nat)(g:Nat)(a:Bool)(j:Nat):rcO K (some ⟨o,l,some (g,a)⟩) j M n env S=rcG K (opv K n env M (.reg g)) a j M n env S o:=id rfl
theorem bN4(ops:List aK):rck K ops M n env S []=true:=id rfl
theorem bHc(ops:List aK)(j:Nat)(c:Tc_):rck K ops M n env S (j::c)=(rcO K (aAc ops j) j M n env S&&rck K ops M n env S c):=by
 simp only[rck,nH,aAc];congr 1;cases ops[j]? with
 |none=>rfl
 |some x =>
  obtain⟨o,l,g⟩:=x;cases g with
  |none =>simp only[dV,rcO];show(match flM K M n env S o with|some v=>same v (opv K n env M (.reg j))|none=>false)=_;cases flM K M n env S o<;>rfl
  |some q =>
   obtain⟨g,a⟩:=q;simp only[dV,rcO];show(match(match opv K n env M (.reg g)with | .iv (.bool b)=>some (b==a) | .tup []=>some false|_=>none)with|some true=>(match flM K M n env S o with|some v=>same v (opv K n env M (.reg j))|none=>false)|some false=>true|none=>false)=_;unfold rcG;cases opv K n env M (.reg g)with
   |iv v =>
    cases v with
    |bool b =>
     simp only;cases b==a
     .rfl
     .simp only[↓reduceIte];cases flM K M n env S o<;>rfl
    |_=>rfl
   |tup vs=>cases vs<;>rfl
   |_=>rfl
theorem bHd(ops:List aK)(ps:Tl_)(c a:Tc_):iG K O (.ph ops c a ps) M n fs env S=chk K O (rck K ops M n env S c) ops a ps M n fs env S:=id rfl
end
end Go.TM
namespace Go.TM
attribute [go_sem] bM1 bFx bM2 bM3 bFy bFz bF0 bF1 bM4 bM5 bF2
attribute [go_sem] aYs aYt okL aN2 qA
attribute [go_sem] bNj bGl bGm bVa aRu aRv aRw aYx bNl aV9 bNm bNn bGn aWa aNw bGo aYy bGq aNx
attribute [go_sem] aY9
theorem go_region(K:bD)(O:Orc)(ops:List aK)(a:List Fr)(env:Env)(S:aA):go K O (.region ops) a env S=rgN K O (aB4 ops 0) ops a env S:=by rw[go_region0,bGd,aKy];rfl
def bHe(K:bD)(O:Orc)(n:Nat)(f0:List Nat)(ph:List (Nat×List Nat×List Nat))(ops:List aK)(fs:List Fr)(env:Env)(S:aA):Out (aW×Env×aA):=fls K O ops f0 ph [] n fs env S
@[congr] theorem flsN_congr (K:bD) (O:Orc) {n n':Nat} (h:n=n') (f0:List Nat) (ph:List (Nat×List Nat×List Nat)) (ops:List aK) (fs:List Fr) (env:Env) (S:aA):bHe K O n f0 ph ops fs env S=bHe K O n' f0 ph ops fs env S:=by rw[h]
theorem aWc(K:bD)(O:Orc)(n:Nat)(c:Tc_)(a:Tl_)(ops:List aK)(b:List Fr)(env:Env)(S:aA):bHe K O n c a ops b env S=fls K O ops c a [] n b env S:=id rfl
theorem go_draw(K:bD)(O:Orc)(c:Tc_)(a:Tl_)(ops:List aK)(b:List Fr)(env:Env)(S:aA):go K O (.draw c a ops) b env S=bHe K O (aB4 ops 0) c a ops b env S:=by rw[go_draw0,aWc,aKy];rfl
theorem bHf(n:Nat):aB4 [] n=n:=id rfl
theorem aZm(a:aK)(l:List aK)(n:Nat):aB4 (a::l) n=aB4 l (n+1):=id rfl
@[congr] theorem lenT_congr (l:List aK) {n n':Nat} (h:n=n'):aB4 l n=aB4 l n':=by rw[h]
theorem aZn(a:TV)(l:Tn_)(d:TV):List.getD (a::l) 0 d=a:=id rfl
theorem aZo(a:TV)(l:Tn_)(j:Nat)(d:TV):List.getD (a::l) (j+1) d=List.getD l j d:=by simp[List.getD]
attribute [go_sem] aZn aZo List.map_cons List.map_nil List.getElem?_cons_zero List.getElem?_cons_succ Option.map_some Option.map_none
theorem bN5(v:IV):cA (.iv v)=false:=id rfl
theorem bHg(a b c:Nat):cA (.ptr a b c)=false:=id rfl
theorem bHh(a b c d e f:Nat):cA (.msl a b c d e f)=false:=id rfl
theorem bHi(a:Nat)(l:Tp_):cA (.tsl a l)=false:=id rfl
theorem bHj(a:Nat):cA (.map a)=false:=id rfl
theorem bN6(f:Nat)(a b:Tn_):cA (.fn f a b)=false:=id rfl
theorem bHk(v:IV):pZ (.iv v)=false:=id rfl
theorem aZp(a b c d e f:Nat):pZ (.msl a b c d e f)=true:=id rfl
theorem aN6(v:IV):fW (.iv v)=iP v:=id rfl
theorem aK2(b:Bool):iP (.bool b)=true:=id rfl
theorem aN7(k:IntKind)(m:Int):iP (.int k m)=true:=id rfl
theorem aR6(a:Tag)(l:Tp_):iP (.sl a l)=false:=id rfl
theorem aGj(S:aA):cY S []=some []:=id rfl
def aE8{α:Type}:Option α->Option (List α)->Option (List α)
 |some a,some l=>some (a::l)
 |_,_=>none
theorem aE9{α:Type}(a:α)(l:List α):aE8 (some a) (some l)=some (a::l):=id rfl
theorem aFa(S:aA)(v:TV)(r:Tn_):cY S (v::r)=aE8 (jP S v) (cY S r):=by rw[cY];cases jP S v<;>cases cY S r<;>rfl
theorem aN8(S:aA)(v:IV):jP S (.iv v)=some (.iv v):=id rfl
theorem bN7(S:aA)(v:IV):aDw S (.iv v)=some v:=id rfl
def slO(x:Option (List (List IV))):Option IV:=match x with
 |some l=>some (.sl .no l)
 |none=>none
theorem bHl(l:Tp_):slO (some l)=some (.sl .no l):=id rfl
theorem bHm(S:aA)(a b c d e f:Nat):aDw S (.msl a b c d e f)=slO (cH S (.msl a b c d e f)):=id rfl
theorem bHn(S:aA):xP S []=some []:=id rfl
theorem aZq(S:aA)(v:TV)(r:Tn_):xP S (v::r)=aE8 (aDw S v) (xP S r):=by rw[xP];cases aDw S v<;>cases xP S r<;>rfl
theorem bN8(S:aA)(v:IV):wI S (.iv v)=some v:=id rfl
theorem bHo(S:aA)(c:Tn_):wI S (.agg c)=(xP S c).map .agg:=id rfl
theorem aZr(S:aA):vL S []=some []:=id rfl
def ivC:Option IV->Option (List TV)->Option (List TV)
 |some a,some l=>some (.iv a::l)
 |_,_=>none
theorem bHp(a:IV)(l:Tn_):ivC (some a) (some l)=some (.iv a::l):=id rfl
theorem aR7(S:aA)(v:TV)(r:Tn_):vL S (v::r)=ivC (wI S v) (vL S r):=id rfl
theorem aBo(S:aA)(c:Tn_):resolve S (.tup c)=(vL S c).map .tup:=id rfl
theorem oH(S:aA)(v:IV):resolve S (.iv v)=some (.iv v):=id rfl
theorem aBp(S:aA)(a b c d e f:Nat):resolve S (.msl a b c d e f)=ivO (slO (cH S (.msl a b c d e f))):=id rfl
def aR8:TV->Option TV
 |.lb _=>none
 |.lp ..=>none
 |v=>some v
theorem bN9(v:IV):aR8 (.iv v)=some (.iv v):=id rfl
theorem bHq(a b c:Nat):aR8 (.ptr a b c)=some (.ptr a b c):=id rfl
theorem bHr(a b c d e f:Nat):aR8 (.msl a b c d e f)=some (.msl a b c d e f):=id rfl
theorem bHs(a:Nat)(l:Tp_):aR8 (.tsl a l)=some (.tsl a l):=id rfl
theorem bOa(f:Nat)(a b:Tn_):aR8 (.fn f a b)=some (.fn f a b):=id rfl
theorem aK3(env:Env)(S:aA)(j:Nat):jQ env S (.loc j)=aR8 (env.getD j .hole):=by simp only[jQ];cases env.getD j .hole<;>rfl
theorem aGk(env:Env)(S:aA)(j m:Nat)(a:Bool):jQ env S (.cell j m a)=oG a (bP env S (mX j (env.getD j .hole)) m):=by simp only[jQ,aX];cases env.getD j .hole<;>rfl
theorem aGl(env:Env)(S:aA):fK env S []=some []:=id rfl
theorem aFb(env:Env)(S:aA)(r:mU)(rs:List mU):fK env S (r::rs)=aE8 (jQ env S r) (fK env S rs):=by rw[fK];cases jQ env S r<;>cases fK env S rs<;>rfl
def bOb:Option (List TV)->Option TV
 |some [v]=>some v
 |some vs=>some (.tup vs)
 |none=>none
theorem bHt(v:TV):bOb (some [v])=some v:=id rfl
theorem bHu(v w:TV)(l:Tn_):bOb (some (v::w::l))=some (.tup (v::w::l)):=id rfl
theorem bHv:bOb (some [])=some (.tup []):=id rfl
theorem aZs(rs:List mU)(env:Env)(S:aA):kP rs env S=bOb (fK env S rs):=by simp only[kP];cases fK env S rs with|none=>rfl|some l=>cases l with|nil=>rfl|cons a r=>cases r<;>rfl
theorem aZt(k:IntKind)(a b:Int):TM.binOp .add (.iv (.int k a)) (.iv (.int k b))=some (.int k (k.wrap (a+b))):=by simp[TM.binOp,jO]
theorem aH8(k:IntKind)(a b:Int):TM.binOp .sub (.iv (.int k a)) (.iv (.int k b))=some (.int k (k.wrap (a-b))):=by simp[TM.binOp,jO]
theorem aH9(k:IntKind)(a b:Int):TM.binOp .mul (.iv (.int k a)) (.iv (.int k b))=some (.int k (k.wrap (a*b))):=by simp[TM.binOp,jO]
theorem aZu(k:IntKind)(a b:Int):TM.binOp .quo (.iv (.int k a)) (.iv (.int k b))=if b=0 then none else some (.int k (k.wrap (a.tdiv b))):=by simp[TM.binOp,jO]
theorem aZv(k:IntKind)(a b:Int):TM.binOp .rem (.iv (.int k a)) (.iv (.int k b))=if b=0 then none else some (.int k (a.tmod b)):=by simp[TM.binOp,jO]
theorem aZw(k:IntKind)(a b:Int):TM.binOp .eql (.iv (.int k a)) (.iv (.int k b))=some (.bool (a==b)):=by simp[TM.binOp,jO]
theorem aZx(k:IntKind)(a b:Int):TM.binOp .neq (.iv (.int k a)) (.iv (.int k b))=some (.bool (a != b)):=by simp[TM.binOp,jO]
theorem aZy(k:IntKind)(a b:Int):TM.binOp .lss (.iv (.int k a)) (.iv (.int k b))=some (.bool (decide (a<b))):=by simp[TM.binOp,jO]
theorem aZz(k:IntKind)(a b:Int):TM.binOp .leq (.iv (.int k a)) (.iv (.int k b))=some (.bool (decide (a<=b))):=by simp[TM.binOp,jO]
theorem aZ0(k:IntKind)(a b:Int):TM.binOp .gtr (.iv (.int k a)) (.iv (.int k b))=some (.bool (decide (b<a))):=by simp[TM.binOp,jO]
theorem aZ1(k:IntKind)(a b:Int):TM.binOp .geq (.iv (.int k a)) (.iv (.int k b))=some (.bool (decide (b<=a))):=by simp[TM.binOp,jO]
def bVm(w:Nat)(a b:Int):Int:=((BitVec.ofInt w a &&& BitVec.ofInt w b).toNat:Nat)
def bOr(w:Nat)(a b:Int):Int:=((BitVec.ofInt w a ||| BitVec.ofInt w b).toNat:Nat)
def aCt(w:Nat)(a b:Int):Int:=((BitVec.ofInt w a &&& ~~~ BitVec.ofInt w b).toNat:Nat)
theorem aAf(k:IntKind)(a b:Int):TM.binOp .and (.iv (.int k a)) (.iv (.int k b))=some (.int k (k.wrap (bVm k.bits a b))):=by simp[TM.binOp,jO,bVm]
theorem bHw(k:IntKind)(a b:Int):TM.binOp .or (.iv (.int k a)) (.iv (.int k b))=some (.int k (k.wrap (bOr k.bits a b))):=by simp[TM.binOp,jO,bOr]
theorem aK4(k:IntKind)(a b:Int):TM.binOp .andNot (.iv (.int k a)) (.iv (.int k b))=some (.int k (k.wrap (aCt k.bits a b))):=by simp[TM.binOp,jO,aCt]
theorem aIa(k k':IntKind)(a b:Int):TM.binOp .shl (.iv (.int k a)) (.iv (.int k' b))=if b<0 then none else some (.int k (k.wrap (a*2 ^ (if b.toNat<=k.bits then b.toNat else k.bits)))):=by simp[TM.binOp,xO,Nat.min_def]
theorem aIb(k k':IntKind)(a b:Int):TM.binOp .shr (.iv (.int k a)) (.iv (.int k' b))=if b<0 then none else some (.int k (a.fdiv (2 ^ (if b.toNat<=k.bits then b.toNat else k.bits)))):=by simp[TM.binOp,xO,Nat.min_def]
theorem aN9(k:IntKind)(a:Int):TM.unOp .neg (.iv (.int k a))=some (.int k (k.wrap (0-a))):=id rfl
theorem bHx(b:Bool):TM.unOp .not (.iv (.bool b))=some (.bool (!b)):=id rfl
theorem aK5(k k':IntKind)(a:Int):dD (.toInt k) (.iv (.int k' a))=some (.int k (k.wrap a)):=id rfl
theorem bHy(o:TOp):floats o=(cE o==0||cE o==1||cE o==2||cE o==4||cE o==6):=id rfl
attribute [go_sem] bN5 bHg bHh bHi bHj bN6
attribute [go_sem] bHk aZp aN6
attribute [go_sem] aK2 aN7 aR6 aGj aE9 aFa
attribute [go_sem] aN8 bN7 bHl bHm bHn aZq bN8 bHo
attribute [go_sem] aZr bHp aR7 aBo oH aBp bN9 bHq bHr bHs
attribute [go_sem] bOa aK3 aGk aGl aFb
attribute [go_sem] bHt bHu bHv aZs aZt aH8 aH9 aZu aZv aZw aZx aZy
attribute [go_sem] aZz aZ0 aZ1 aAf bHw aK4 aIa aIb
attribute [go_sem] aN9 bHx aK5
attribute [go_sem] bHy
theorem bWo(b:Bool):(b==true)=b:=by cases b<;>rfl
theorem bWp(b:Bool):(b==false)=!b:=by cases b<;>rfl
theorem aK6(b:Bool):cellsOf (.iv (.bool b))=[.iv (.bool b)]:=id rfl
theorem aOa(b:Bool):bJ (.iv (.bool b))=false:=id rfl
theorem aOb(k:IntKind)(m:Int):cellsOf (.iv (.int k m))=[.iv (.int k m)]:=id rfl
theorem aR9(k:IntKind)(m:Int):bJ (.iv (.int k m))=false:=id rfl
theorem aSa(a:Tag)(l:Tp_):cellsOf (.iv (.sl a l))=[.iv (.sl a l)]:=id rfl
theorem aZ2(a:Tag)(l:Tp_):bJ (.iv (.sl a l))=false:=id rfl
theorem aK7(l:Tq_):cellsOf (.iv (.agg l))=l.map .iv:=id rfl
theorem aOc(a b c:Nat):cellsOf (.ptr a b c)=[.ptr a b c]:=id rfl
theorem aSb(a b c:Nat):bJ (.ptr a b c)=false:=id rfl
theorem aOd(a b c d e f:Nat):cellsOf (.msl a b c d e f)=[.msl a b c d e f]:=id rfl
theorem aSc(a b c d e f:Nat):bJ (.msl a b c d e f)=false:=id rfl
theorem aSd(a b c d e f:Nat):mV (.msl a b c d e f)=.msl a b c d e f:=id rfl
theorem aSe(a:Nat)(l:Tp_):bJ (.tsl a l)=false:=id rfl
theorem aOe(a:Nat):cellsOf (.map a)=[.map a]:=id rfl
theorem aSf(a:Nat):bJ (.map a)=false:=id rfl
theorem aSg(a:Nat):mV (.map a)=.map a:=id rfl
theorem aOf(l:Tn_):cellsOf (.agg l)=l:=id rfl
theorem aZ3(v:IV):mV (.iv v)=.iv v:=id rfl
theorem aFc(v:TV)(r:Tn_):toIVs (v::r)=aE8 (oQ v) (toIVs r):=by rw[toIVs];cases oQ v<;>cases toIVs r<;>rfl
theorem aOg(v:IV):oQ (.iv v)=some v:=id rfl
theorem aOh{α:Type}(l:Option (List α)):aE8 none l=none:=id rfl
def bHz(vs:List TV)(es:List (List TV))(n i:Nat)(e:aH->TV)(r:List (Nat×aH)):Option (List (List TV)) :=
 if vs.length=n/\i<es.length/\vs.any bJ=false then dZ (es.set i vs) n e r else none
theorem aOi(es:List (List TV))(n i:Nat)(e:aH->TV)(x:aH)(r:List (Nat×aH)):dZ es n e ((i,x)::r)=bHz (cellsOf (mV (e x))) es n i e r:=id rfl
theorem aSh(es:List (List TV))(n:Nat)(e:aH->TV):dZ es n e []=some es:=id rfl
theorem aZ4(vs:Tn_)(es:List (List TV))(n i:Nat)(e:aH->TV)(r:List (Nat×aH)):bHz vs es n i e r=if vs.length=n/\i<es.length/\vs.any bJ=false then dZ (es.set i vs) n e r else none:=id rfl
def bP7(vs:List TV)(cs:List TV)(off n:Nat)(e:aH->TV)(r:List (Nat×Nat×aH)):Option (List TV) :=
 if vs.length=n/\off+n<=cs.length/\vs.any bJ=false then fill (put cs off vs) e r else none
theorem aZ5(cs:Tn_)(off n:Nat)(e:aH->TV)(x:aH)(r:List (Nat×Nat×aH)):fill cs e ((off,n,x)::r)=bP7 (cellsOf (mV (e x))) cs off n e r:=id rfl
theorem bH0(cs:Tn_)(e:aH->TV):fill cs e []=some cs:=id rfl
theorem bH1(vs:Tn_)(cs:Tn_)(off n:Nat)(e:aH->TV)(r:List (Nat×Nat×aH)):bP7 vs cs off n e r=if vs.length=n/\off+n<=cs.length/\vs.any bJ=false then fill (put cs off vs) e r else none:=id rfl
def mkG(x:Option (List IV))(cs:List TV):TV:=match x with
 |some l=>.iv (.agg l)
 |none=>.agg cs
theorem bH2(cs:Tn_):rT cs=mkG (mG cs) cs:=by simp only[rT];cases mG cs<;>rfl
theorem bH3(l:Tq_)(cs:Tn_):mkG (some l) cs=.iv (.agg l):=id rfl
theorem bH4(cs:Tn_):mkG none cs=.agg cs:=id rfl
def bH5(v:IV)(x:Option (List IV)):Option (List IV):=x.map (v::·)
theorem aSi(v:IV)(l:Tq_):bH5 v (some l)=some (v::l):=id rfl
theorem aSj(v:IV):bH5 v none=none:=id rfl
theorem aSk(v:IV)(r:Tn_):mG (.iv v::r)=bH5 v (mG r):=id rfl
theorem aZ6:mG []=some []:=id rfl
theorem aSl:jY []=some []:=id rfl
theorem aOj(c:Tn_)(r:List (List TV)):jY (c::r)=aE8 (mG c) (jY r):=by rw[jY];cases mG c<;>cases jY r<;>rfl
theorem aZ7{α:Type}(a:α)(l:List α)(v:α):List.set (a::l) 0 v=v::l:=id rfl
theorem aZ8{α:Type}(a:α)(l:List α)(j:Nat)(v:α):List.set (a::l) (j+1) v=a::List.set l j v:=id rfl
theorem bTc{α:Type}(cs:List α)(off n:Nat):sub cs off n=if off+n<=cs.length then some ((cs.drop off).take n)else none:=id rfl
theorem bTd{α:Type}(cs:List α)(off:Nat)(vs:List α):put cs off vs=cs.take off++vs++cs.drop (off+vs.length):=id rfl
theorem aOk(l:Tq_):iE (.iv (.agg l))=some (l.map .iv):=id rfl
theorem aZ9(a b c d e f:Nat)(r:Tn_):mG (.msl a b c d e f::r)=none:=id rfl
theorem bAa(a:Nat)(l:Tp_)(r:Tn_):mG (.tsl a l::r)=none:=id rfl
theorem aIc(a:Nat)(r:Tn_):mG (.map a::r)=none:=id rfl
attribute [go_sem] aK6 aOa aOb aR9 aSa aZ2
attribute [go_sem] aK7 aOc aSb aOd aSc
attribute [go_sem] aSd aSe aOe aSf aSg
attribute [go_sem] aOf aZ3
attribute [go_sem] aFc aOg
attribute [go_sem] aOh aOi aSh aZ4 aZ5 bH0 bH1 bH2 bH3 bH4 aSi
attribute [go_sem] aSj aSk aZ6 aIc aSl aOj aZ7 aZ8 bTc bTd aOk
attribute [go_sem] List.length_cons List.length_nil List.take_succ_cons List.drop_succ_cons List.take_zero List.drop_zero List.take_nil List.drop_nil and_self and_true true_and
attribute [go_sem] aZ9 bAa aIc
def aSm(w:Nat)(env:Env)(S:aA)(a:TV)(vs:List TV):Option (TV×Env×aA):=if vs.length=w then aE3 (setCells env S a vs)else none
theorem bH6(w:Nat)(env:Env)(S:aA)(a v:TV):aAe w env S a v=aSm w env S a (cellsOf v):=by
 unfold aSm;split;.rename_i h;exact aYz env S w a v h
 .rename_i h;simp only[aAe,h,↓reduceIte]
theorem bAb(w:Nat)(env:Env)(S:aA)(a:TV)(vs:Tn_):aSm w env S a vs=if vs.length=w then aE3 (setCells env S a vs)else none:=id rfl
def lbK(off n:Nat):TV->Option (List TV)
 |.lb cs=>sub cs off n
 |_=>none
theorem bTe(off n:Nat)(cs:Tn_):lbK off n (.lb cs)=sub cs off n:=id rfl
theorem aOl(env:Env)(S:aA)(j off n:Nat):bP env S (.lp j off) n=lbK off n (env.getD j .hole):=by
 simp only[bP,List.getD];cases env[j]? with
 |none=>rfl
 |some v=>cases v<;>rfl
def blK(v off n:Nat):Option aG->Option (List TV)
 |some (.cells v' _ cs)=>if v'=v then sub cs off n else none
 |some (.frz v' cs)=>if v'=v then(sub cs off n).map (·.map .iv)else none
 |_=>none
theorem bAc(v off n v':Nat)(l:Bool)(cs:Tn_):blK v off n (some (.cells v' l cs))=if v'=v then sub cs off n else none:=id rfl
theorem aK8(env:Env)(S:aA)(i v off n:Nat):bP env S (.ptr i v off) n=blK v off n (S[i]?):=by
 simp only[bP];cases S[i]? with
 |none=>rfl
 |some b=>cases b<;>rfl
def bP8(env:Env)(S:aA)(j off:Nat)(vs:List TV):TV->Option (Env×aA)
 |.lb cs=>if off+vs.length<=cs.length then some (env.set j (.lb (put cs off vs)),S)else none
 |_=>none
theorem bH7(env:Env)(S:aA)(j off:Nat)(vs cs:Tn_):bP8 env S j off vs (.lb cs)=if off+vs.length<=cs.length then some (env.set j (.lb (put cs off vs)),S)else none:=id rfl
theorem aOm(env:Env)(S:aA)(j off:Nat)(vs:Tn_):setCells env S (.lp j off) vs=if vs.any bJ then none else bP8 env S j off vs (env.getD j .hole):=by
 simp only[setCells,List.getD];split;.rfl
 .cases env[j]? with
  |none=>rfl
  |some v=>cases v<;>rfl
def bP9(env:Env)(S:aA)(i v off:Nat)(vs:List TV):Option aG->Option (Env×aA)
 |some (.cells v' l cs)=>if v'=v/\off+vs.length<=cs.length then some (env,S.set i (.cells v' l (put cs off vs)))else none
 |_=>none
theorem aOn(env:Env)(S:aA)(i v off:Nat)(vs:Tn_)(v':Nat)(l:Bool)(cs:Tn_):bP9 env S i v off vs (some (.cells v' l cs))=if v'=v/\off+vs.length<=cs.length then some (env,S.set i (.cells v' l (put cs off vs)))else none:=id rfl
theorem aK9(env:Env)(S:aA)(i v off:Nat)(vs:Tn_):setCells env S (.ptr i v off) vs=if vs.any bJ then none else bP9 env S i v off vs (S[i]?):=by
 simp only[setCells];split;.rfl
 .cases S[i]? with
  |none=>rfl
  |some b=>cases b<;>rfl
theorem bAd(j off n:Nat):fY (.lp j off) n=some (.lp j (off+n)):=id rfl
theorem aSn(i v off n:Nat):fY (.ptr i v off) n=some (.ptr i v (off+n)):=id rfl
theorem bVn:(false=true)=False:=B_
attribute [go_sem] bH6 bAb bTe aOl bAc aK8 bH7 aOm aOn aK9 bAd aSn bVn
attribute [go_sem] bN3 bG7 bG8
attribute [go_sem] bG9
attribute [go_sem] eq_self bWo bWp List.any_cons List.any_nil List.all_cons List.all_nil TM.undef cE Bool.true_and Bool.and_true Bool.false_and Bool.and_false Bool.or_false Bool.false_or Bool.true_or Bool.or_true Bool.not_true Bool.not_false ite_true ite_false
end Go.TM
namespace Go.TM
@[reducible] def TT {β:Type} (α:Type) (a:β):Type:=α
def br'{α:Type}(B:Bool)(x y:Out α):TT (Out α) (x,y):=br B x y
def bk'(K:bD)(O:Orc)(fs:List Fr)(j:aW)(e:Env)(S:aA):TT (Out (aW×Env×aA)) (fs,j,e,S):=bk K O fs j e S
def go'(K:bD)(O:Orc)(c:aL)(fs:List Fr)(e:Env)(S:aA):TT (Out (aW×Env×aA)) (c,fs,e,S):=go K O c fs e S
def bT(K:bD)(n:Nat)(env:Env)(M:List (Nat×TV))(x:aH):TT (TV) (n,env,M,x):=opv K n env M x
def sC(K:bD)(O:Orc)(ops:List aK)(i:Nat)(M:List (Nat×TV))(n:Nat)(fs:List Fr)(env:Env)(S:aA):TT (Out (aW×Env×aA)) (ops,M,n,fs,S):=wbk K O ops i M n fs env S
def bAe(K:bD)(O:Orc)(all ops:List aK)(i:Nat)(M:List (Nat×TV))(n:Nat)(fs:List Fr)(env:Env)(S:aA):TT (Out (aW×Env×aA)) (all,ops,M,n,fs,env,S):=rgR K O all ops i M n fs env S
def bOc(K:bD)(O:Orc)(ops:List aK)(ps:List (Nat×List Nat×List Nat))(M:List (Nat×TV))(n:Nat)(fs:List Fr)(env:Env)(S:aA):TT (Out (aW×Env×aA)) (ops,ps,M,n,fs,env,S):=phs K O ops ps M n fs env S
def aOo(K:bD)(O:Orc)(ops:List aK)(is:List Nat)(ps:List (Nat×List Nat×List Nat))(M:List (Nat×TV))(n:Nat)(fs:List Fr)(env:Env)(S:aA):TT (Out (aW×Env×aA)) (ops,is,ps,M,n,fs,env,S):=fls K O ops is ps M n fs env S
def bTf(K:bD)(O:Orc)(c:Bool)(ops:List aK)(is:List Nat)(ps:List (Nat×List Nat×List Nat))(M:List (Nat×TV))(n:Nat)(fs:List Fr)(env:Env)(S:aA):TT (Out (aW×Env×aA)) (ops,is,ps,M,n,fs,env,S):=chk K O c ops is ps M n fs env S
def qF(K:bD)(O:Orc)(k:Kt)(M:List (Nat×TV))(n:Nat)(fs:List Fr)(env:Env)(S:aA):TT (Out (aW×Env×aA)) (k,M,n,fs,env,S):=iG K O k M n fs env S
def dY(K:bD)(O:Orc)(o:TOp)(i:Nat)(k:Kt)(M:List (Nat×TV))(n:Nat)(fs:List Fr)(env:Env)(S:aA):TT (Out (aW×Env×aA)) (o,i,k,M,n,fs,env,S):=op1 K O o i k M n fs env S
def bAf(K:bD)(O:Orc)(g:TV)(want:Bool)(j:Nat)(o:TOp)(i:Nat)(k:Kt)(M:List (Nat×TV))(n:Nat)(fs:List Fr)(env:Env)(S:aA):TT (Out (aW×Env×aA)) (want,j,o,i,k,M,n,fs,env,S):=opG K O g want j o i k M n fs env S
def nN(K:bD)(O:Orc)(v:Option TV)(i:Nat)(k:Kt)(M:List (Nat×TV))(n:Nat)(fs:List Fr)(env:Env)(S:aA):TT (Out (aW×Env×aA)) (i,k,M,n,fs,env,S):=opV K O v i k M n fs env S
def bAg(K:bD)(O:Orc)(v:Option (TV×aG))(i:Nat)(k:Kt)(M:List (Nat×TV))(n:Nat)(fs:List Fr)(env:Env)(S:aA):TT (Out (aW×Env×aA)) (i,k,M,n,fs,env,S):=opA K O v i k M n fs env S
def aSo(K:bD)(O:Orc)(v:Option (TV×aA))(i:Nat)(k:Kt)(M:List (Nat×TV))(n:Nat)(fs:List Fr)(env:Env):TT (Out (aW×Env×aA)) (i,k,M,n,fs,env):=opS K O v i k M n fs env
def tX(K:bD)(O:Orc)(v:Option (TV×Env×aA))(i:Nat)(k:Kt)(M:List (Nat×TV))(n:Nat)(fs:List Fr):TT (Out (aW×Env×aA)) (i,k,M,n,fs):=opE K O v i k M n fs
def fL(K:bD)(O:Orc)(x:Out (TV×aA))(i:Nat)(k:Kt)(M:List (Nat×TV))(n:Nat)(fs:List Fr)(env:Env):TT (Out (aW×Env×aA)) (i,k,M,n,fs,env):=opC K O x i k M n fs env
def bTg(K:bD)(O:Orc)(c a b:TV)(i:Nat)(k:Kt)(M:List (Nat×TV))(n:Nat)(fs:List Fr)(env:Env)(S:aA):TT (Out (aW×Env×aA)) (i,k,M,n,fs,env,S):=opP K O c a b i k M n fs env S
def bTh(K:bD)(O:Orc)(c:TV)(a b:aL)(fs:List Fr)(env:Env)(S:aA):TT (Out (aW×Env×aA)) (a,b,fs,env,S):=goC K O c a b fs env S
def lp'(O:Orc)(b:aL)(env:Env)(S:aA):TT (Out (aW×Env×aA)) (b,env,S):=lp O b env S
def aFd(K:bD)(O:Orc)(x:Out (aW×Env×aA))(fs:List Fr):TT (Out (aW×Env×aA)) (fs):=goL K O x fs
def bTi(K:bD)(O:Orc)(n:Nat)(ops:List aK)(fs:List Fr)(env:Env)(S:aA):TT (Out (aW×Env×aA)) (ops,fs,env,S):=rgN K O n ops fs env S
def aId(l:List aK)(n:Nat):TT Nat l:=aB4 l n
def bOd(c:Bool)(x y:Out (aW×Env×aA)):TT (Out (aW×Env×aA)) (x,y):=flB c x y
def bOe(K:bD)(O:Orc)(o:Option aK)(i:Nat)(ops:List aK)(is:List Nat)(ps:List (Nat×List Nat×List Nat))(M:List (Nat×TV))(n:Nat)(fs:List Fr)(env:Env)(S:aA):TT (Out (aW×Env×aA)) (i,ops,is,ps,M,n,fs,env,S):=flO K O o i ops is ps M n fs env S
def bOf(K:bD)(O:Orc)(o:Option aK)(i:Nat)(ops:List aK)(c fl:List Nat)(ps:List (Nat×List Nat×List Nat))(M:List (Nat×TV))(n:Nat)(fs:List Fr)(env:Env)(S:aA):TT (Out (aW×Env×aA)) (i,ops,c,fl,ps,M,n,fs,env,S):=phO K O o i ops c fl ps M n fs env S
def aAg(K:bD)(O:Orc)(v:TV)(j:Nat)(ops:List aK)(i:Nat)(M:List (Nat×TV))(n:Nat)(fs:List Fr)(env:Env)(S:aA):TT (Out (aW×Env×aA)) (j,ops,i,M,n,fs,env,S):=wbV K O v j ops i M n fs env S
def aWd(K:bD)(O:Orc)(w:Nat)(x:Option (List (List IV)))(es:Option (List (List TV)))(i:Nat)(k:Kt)(M:List (Nat×TV))(n:Nat)(fs:List Fr)(env:Env)(S:aA):TT (Out (aW×Env×aA)) (w,i,k,M,n,fs,env,S):=aN0 K O w x es i k M n fs env S
def bOg(c:Bool)(x y:Out (aW×Env×aA)):TT (Out (aW×Env×aA)) (x,y):=alB c x y
def aOp(S:aA)(args:List TV)(v:Option TV):TT (Out (TV×aA)) (S,args):=cpV S args v
def aOq(S:aA)(args:List TV)(x:Out (TV×aA)):TT (Out (TV×aA)) (S,args):=cpR S args x
def bAh(O:Orc)(S:aA)(args:List TV)(f:Nat)(ags:Option (List TV)):TT (Out (TV×aA)) (S,args,f):=cpA O S args f ags
def bOh(c:Bool)(S:aA)(args:List TV)(v:TV):TT (Out (TV×aA)) (S,args,v):=cpB c S args v
def bH8(v:TV)(x:Option aA):TT (Out (TV×aA)) (v):=bNz v x
def aFe(t:Bool)(S:aA)(x:Out (TV×aA)):TT (Out (TV×aA)) (t,S):=csR t S x
def bAi(O:Orc)(t:Bool)(S:aA)(f:Nat)(lp:Bool)(args:List TV):TT (Out (TV×aA)) (t,S,f):=csA O t S f lp args
def bTj(v:TV)(x:Option (TV×aA)):TT (Out (TV×aA)) (v):=trV v x
def jT(rs:List mU)(x:Out (aW×Env×aA)):TT (Out (TV×aA)) (rs):=fin rs x
def aWe(S:aA)(v:Option TV):TT (Out (TV×aA)) (S):=aZi S v
def jK(O:Orc)(b:aL)(x:Out (aW×Env×aA)):TT (Out (aW×Env×aA)) (b):=rnd O b x
def aSp(K:bD)(M:List (Nat×TV))(n:Nat)(env:Env)(S:aA)(o:TOp):TT (Option TV) (M,n,env,S,o):=flM K M n env S o
def bH9(K:bD)(ops:List aK)(M:List (Nat×TV))(n:Nat)(env:Env)(S:aA)(c:List Nat):TT (Bool) (ops,M,n,env,S,c):=rck K ops M n env S c
def bOi(K:bD)(g:TV)(want:Bool)(j:Nat)(M:List (Nat×TV))(n:Nat)(env:Env)(S:aA)(o:TOp):TT (Bool) (want,j,M,n,env,S,o):=rcG K g want j M n env S o
def bOj(K:bD)(x:Option aK)(j:Nat)(M:List (Nat×TV))(n:Nat)(env:Env)(S:aA):TT (Bool) (j,M,n,env,S):=rcO K x j M n env S
def bIa(K:bD)(O:Orc)(n:Nat)(f0:List Nat)(ph:List (Nat×List Nat×List Nat))(ops:List aK)(fs:List Fr)(env:Env)(S:aA):TT (Out (aW×Env×aA)) (f0,ph,ops,fs,env,S):=bHe K O n f0 ph ops fs env S
section
variable (K:bD)(O:Orc)(ops:List aK)(is:List Nat)(ps:List (Nat×List Nat×List Nat))(i:Nat)(k:Kt)(M:List (Nat×TV))(n:Nat)(fs:List Fr)(env:Env)(S:aA)
theorem bIb{α:Type}(x y:Out α):br' true x y=x:=_root_.id (vD ..)
theorem bAj{α:Type}(x y:Out α):br' false x y=y:=_root_.id (qE ..)
theorem bOk{α:Type}(B:Bool)(x y:Out α):br' (!B) x y=br' B y x:=_root_.id (bSs ..)
theorem aSq{α:Type}{B:Bool}{x y z:Out α}(h:B=true->x=z)(g:B=false->y=z):br' B x y=z:=bU9 h g
theorem bIc(n:Nat)(env:Env)(M:To_)(j:Nat):bT K n env M (.reg j)=if j<n then reg M j else .hole:=_root_.id (aKx ..)
theorem bId(n:Nat)(env:Env)(M:To_)(j:Nat):bT K n env M (.loc j)=mX j (env.getD j .hole):=_root_.id (bM6 ..)
theorem bIe(n:Nat)(env:Env)(M:To_)(v:IV):bT K n env M (.cst v)=.iv v:=_root_.id (bM7 ..)
theorem bOl(n:Nat)(env:Env)(M:To_)(f:Nat):bT K n env M (.fn f)=.fn f [] []:=_root_.id (bSt ..)
theorem bAk(n:Nat)(env:Env)(M:To_)(g:Nat):bT K n env M (.glob g)=bF3 (K.glob g):=_root_.id (bF4 ..)
theorem bAl(v:TV):nN K O (some v) i k M n fs env S=qF K O k ((i,v)::M) n fs env S:=_root_.id (bF5 ..)
theorem bAm(v:TV)(b:aG):bAg K O (some (v,b)) i k M n fs env S=aSo K O (some (v,S++[b])) i k M n fs env:=_root_.id (bF6 ..)
theorem bAn(v:TV):aSo K O (some (v,S)) i k M n fs env=qF K O k ((i,v)::M) n fs env S:=_root_.id (bF7 ..)
theorem bAo(v:TV):tX K O (some (v,env,S)) i k M n fs=qF K O k ((i,v)::M) n fs env S:=_root_.id (bF8 ..)
theorem bIf(v:TV):fL K O (.ret (v,S)) i k M n fs env=qF K O k ((i,v)::M) n fs env S:=_root_.id (bM8 ..)
theorem bAp(t:Bool)(a b:TV):bTg K O (.iv (.bool t)) a b i k M n fs env S=br' t (qF K O k ((i,a)::M) n fs env S) (qF K O k ((i,b)::M) n fs env S):=_root_.id (bF9 ..)
theorem bAq(b a:Bool)(j:Nat)(o:TOp):bAf K O (.iv (.bool b)) a j o i k M n fs env S=br' (b==a) (dY K O o i k ((j,.iv (.bool a))::M) n fs env S) (qF K O k ((i,undef)::(j,.iv (.bool (!a)))::M) n fs env S):=_root_.id (bGa ..)
theorem aSr(a:Bool)(j:Nat)(o:TOp):bAf K O (.tup []) a j o i k M n fs env S=qF K O k ((i,undef)::M) n fs env S:=_root_.id (aYq ..)
theorem bAr:bTf K O true ops is ps M n fs env S=aOo K O ops is ps M n fs env S:=_root_.id (bGb ..)
theorem bOm(j:aW):bk' K O [] j env S=.ret (j,env,S):=_root_.id (bSu ..)
theorem bOn(b:aL):bk' K O (.seq b::fs) .normal env S=go' K O b fs env S:=_root_.id (bSv ..)
theorem aOr(b:aL):bk' K O (.seq b::fs) .ret env S=bk' K O fs .ret env S:=_root_.id (aRr ..)
theorem aLa(b:aL)(id:Nat):bk' K O (.seq b::fs) (.exit id) env S=bk' K O fs (.exit id) env S:=_root_.id (aNs ..)
theorem bOo(id:Nat):bk' K O (.blk id::fs) .normal env S=bk' K O fs .normal env S:=_root_.id (bSw ..)
theorem aOs(id:Nat):bk' K O (.blk id::fs) .ret env S=bk' K O fs .ret env S:=_root_.id (aRs ..)
theorem aLb(id a:Nat):bk' K O (.blk id::fs) (.exit a) env S=if a=id then bk' K O fs .normal env S else bk' K O fs (.exit a) env S:=_root_.id (aNt ..)
theorem go_skip':go' K O .skip fs env S=bk' K O fs .normal env S:=_root_.id (go_skip ..)
theorem go_ret':go' K O .ret fs env S=bk' K O fs .ret env S:=_root_.id (go_ret ..)
theorem go_exit'(id:Nat):go' K O (.exit id) fs env S=bk' K O fs (.exit id) env S:=_root_.id (go_exit ..)
theorem go_seq'(a b:aL):go' K O (.seq a b) fs env S=go' K O a (.seq b::fs) env S:=_root_.id (go_seq ..)
theorem go_block'(id:Nat)(b:aL):go' K O (.block id b) fs env S=go' K O b (.blk id::fs) env S:=_root_.id (go_block ..)
theorem bAs(t:Bool)(a b:aL):bTh K O (.iv (.bool t)) a b fs env S=br' t (go' K O a fs env S) (go' K O b fs env S):=_root_.id (bGc ..)
theorem go_cond'(c:aH)(a b:aL):go' K O (.cond c a b) fs env S=bTh K O (bT K 0 env [] c) a b fs env S:=_root_.id (go_cond ..)
theorem bIg(j:aW):aFd K O (.ret (j,env,S)) fs=bk' K O fs j env S:=_root_.id (bM9 ..)
theorem go_loop'(b:aL):go' K O (.loop b) fs env S=aFd K O (lp' O b env S) fs:=_root_.id (go_loop ..)
theorem bOp:bTi K O n ops fs env S=bAe K O ops ops 0 [] n fs env S:=_root_.id (bGd ..)
theorem bIh(a:List aK):qF K O (.rg a ops i) M n fs env S=bAe K O a ops (i+1) M n fs env S:=_root_.id (bNa ..)
theorem bIi:qF K O (.fl ops is ps) M n fs env S=aOo K O ops is ps M n fs env S:=_root_.id (aV7 ..)
theorem bIj(a:List aK):bAe K O a [] i M n fs env S=sC K O a 0 M n fs env S:=_root_.id (bNb ..)
theorem bAt(a:List aK)(o:TOp)(l:Option Nat):bAe K O a (⟨o,l,none⟩::ops) i M n fs env S=dY K O o i (.rg a ops i) M n fs env S:=_root_.id (bGe ..)
theorem aSs(b:List aK)(o:TOp)(l:Option Nat)(j:Nat)(a:Bool):bAe K O b (⟨o,l,some (j,a)⟩::ops) i M n fs env S=bAf K O (bT K n env M (.reg j)) a j o i (.rg b ops i) M n fs env S:=_root_.id (aYr ..)
theorem bAu(x y:Out (aW×Env×aA)):bOd true x y=x:=_root_.id (aE1 ..)
theorem bAv(o:TOp)(l:Option Nat):bOe K O (some ⟨o,l,none⟩) i ops is ps M n fs env S=bOd (floats o) (dY K O o i (.fl ops is ps) M n fs env S) (aOo K O ops (i::is) ps M n fs env S):=_root_.id (aNu ..)
theorem aSt(o:TOp)(l:Option Nat)(j:Nat)(a:Bool):bOe K O (some ⟨o,l,some (j,a)⟩) i ops is ps M n fs env S=bOd (floats o) (bAf K O (bT K n env M (.reg j)) a j o i (.fl ops is ps) M n fs env S) (aOo K O ops (i::is) ps M n fs env S):=_root_.id (aH4 ..)
theorem bIk:aOo K O ops [] ps M n fs env S=bOc K O ops ps M n fs env S:=_root_.id (bNc ..)
theorem bAw:aOo K O ops (i::is) ps M n fs env S=bOe K O (aAc ops i) i ops is ps M n fs env S:=_root_.id (bGg ..)
theorem bIl:bOc K O ops [] M n fs env S=sC K O ops 0 M n fs env S:=_root_.id (bNd ..)
theorem bAx(c a:Tc_)(o:TOp)(l:Option Nat):bOf K O (some ⟨o,l,none⟩) i ops c a ps M n fs env S=dY K O o i (.ph ops c a ps) M n fs env S:=_root_.id (aNv ..)
theorem aSu(c b:Tc_)(o:TOp)(l:Option Nat)(j:Nat)(a:Bool):bOf K O (some ⟨o,l,some (j,a)⟩) i ops c b ps M n fs env S=bAf K O (bT K n env M (.reg j)) a j o i (.ph ops c b ps) M n fs env S:=_root_.id (aH5 ..)
theorem bAy(c a:Tc_):bOc K O ops ((i,c,a)::ps) M n fs env S=bOf K O (aAc ops i) i ops c a ps M n fs env S:=_root_.id (bGh ..)
theorem bIm:sC K O [] i M n fs env S=bk' K O fs .normal env S:=_root_.id (bNe ..)
theorem bAz(o:TOp)(g:Option (Nat×Bool)):sC K O (⟨o,none,g⟩::ops) i M n fs env S=sC K O ops (i+1) M n fs env S:=_root_.id (bGi ..)
theorem bA0(o:TOp)(j:Nat)(g:Option (Nat×Bool)):sC K O (⟨o,some j,g⟩::ops) i M n fs env S=aAg K O (bT K n env M (.reg i)) j ops i M n fs env S:=_root_.id (bGj ..)
theorem aCu(v:IV)(j:Nat):aAg K O (.iv v) j ops i M n fs env S=sC K O ops (i+1) M n fs (env.set j (.iv v)) S:=_root_.id (bSx ..)
theorem bIn(a b c:Nat)(j:Nat):aAg K O (.ptr a b c) j ops i M n fs env S=sC K O ops (i+1) M n fs (env.set j (.ptr a b c)) S:=_root_.id (bNf ..)
theorem aOt(a b c d e f:Nat)(j:Nat):aAg K O (.msl a b c d e f) j ops i M n fs env S=sC K O ops (i+1) M n fs (env.set j (.msl a b c d e f)) S:=_root_.id (bNg ..)
theorem aFf(a:Nat)(l:Tp_)(j:Nat):aAg K O (.tsl a l) j ops i M n fs env S=sC K O ops (i+1) M n fs (env.set j (.tsl a l)) S:=_root_.id (bNh ..)
theorem bIo(a:Nat)(j:Nat):aAg K O (.map a) j ops i M n fs env S=sC K O ops (i+1) M n fs (env.set j (.map a)) S:=_root_.id (bNi ..)
theorem bOq(a:Nat)(j:Nat):aAg K O (.it a) j ops i M n fs env S=sC K O ops (i+1) M n fs (env.set j (.it a)) S:=_root_.id (bSy ..)
theorem bOs(f:Nat)(a b:Tn_)(j:Nat):aAg K O (.fn f a b) j ops i M n fs env S=sC K O ops (i+1) M n fs (env.set j (.fn f a b)) S:=_root_.id (bSz ..)
theorem bA1  (j:Nat):aAg K O (.hole) j ops i M n fs env S=sC K O ops (i+1) M n fs (env.set j (.hole)) S:=_root_.id (bGk ..)
theorem aLc{α:Type}{p:Prop}[Decidable p]{x y z:Out α}(h:p->x=z)(g:¬p->y=z):br' (decide p) x y=z:=bS0 h g
theorem aLd{α:Type}{a b:Int}{x y z:Out α}(h:a=b->x=z)(g:a≠b->y=z):br' (a==b) x y=z:=bS1 h g
theorem aLe{α:Type}{a b:Int}{x y z:Out α}(h:a≠b->x=z)(g:a=b->y=z):br' (a != b) x y=z:=bS2 h g
theorem bIp(x:aH):dY K O (.mov x) i k M n fs env S=nN K O (some (bT K n env M x)) i k M n fs env S:=_root_.id (bNp ..)
theorem bA2(c a b:aH):dY K O (.pick c a b) i k M n fs env S=bTg K O (bT K n env M c) (bT K n env M a) (bT K n env M b) i k M n fs env S:=_root_.id (bGr ..)
theorem aSv(z:Tq_)(ps:List (Nat×Nat×aH)):dY K O (.build z ps) i k M n fs env S=nN K O ((fill (z.map .iv) (bT K n env M) ps).map rT) i k M n fs env S:=_root_.id (aY0 ..)
theorem aGm(x:aH):dY K O (.nilCheck x) i k M n fs env S=nN K O (bNk (bT K n env M x)) i k M n fs env S:=_root_.id (aK1 ..)
theorem bIq(op:BinOp)(x y:aH):dY K O (.bin op x y) i k M n fs env S=nN K O (ivO (binOp op (bT K n env M x) (bT K n env M y))) i k M n fs env S:=_root_.id (bNq ..)
theorem bIr(a:Bool)(b:EK)(x y:aH):dY K O (.eqB a b x y) i k M n fs env S=nN K O (eqV a (eqB b (bT K n env M x) (bT K n env M y))) i k M n fs env S:=_root_.id (bNr ..)
theorem aSw(a:Bool)(cL:List (Nat×LK))(x y:aH):dY K O (.eqAgg a cL x y) i k M n fs env S=nN K O (ivO (eqAgg a cL (bT K n env M x) (bT K n env M y))) i k M n fs env S:=_root_.id (aY1 ..)
theorem bOt(op:UnOp)(x:aH):dY K O (.un op x) i k M n fs env S=nN K O (ivO (unOp op (bT K n env M x))) i k M n fs env S:=_root_.id (bS3 ..)
theorem bA3(f:Nat)(a b:List aH):dY K O (.mkFn f a b) i k M n fs env S=nN K O (aWb f (a.map (bT K n env M)) (b.map (bT K n env M))) i k M n fs env S:=_root_.id (bGs ..)
theorem aFg(off:Nat)(x:aH):dY K O (.fieldAddr off x) i k M n fs env S=nN K O (fY (bT K n env M x) off) i k M n fs env S:=_root_.id (aGi ..)
theorem aSx(off w:Nat)(a:Bool)(x:aH):dY K O (.field off w a x) i k M n fs env S=nN K O (oG a (aYw off w (iE (bT K n env M x)))) i k M n fs env S:=_root_.id (aY2 ..)
theorem aB6(es:Nat)(x y:aH):dY K O (.indexAddrS es x y) i k M n fs env S=nN K O (ixS es (bT K n env M x) (bT K n env M y)) i k M n fs env S:=_root_.id (aE4 ..)
theorem aB7(a es:Nat)(x y:aH):dY K O (.indexAddrA a es x y) i k M n fs env S=nN K O (ixA a es (bT K n env M x) (bT K n env M y)) i k M n fs env S:=_root_.id (aE5 ..)
theorem aLf(j:Nat)(x:aH):dY K O (.extract j x) i k M n fs env S=nN K O (xtr j (bT K n env M x)) i k M n fs env S:=_root_.id (aNz ..)
theorem bIs(x:aH):dY K O (.cap x) i k M n fs env S=nN K O (aYv (aAu (bT K n env M x))) i k M n fs env S:=_root_.id (bNs ..)
theorem aOu(a:Bool)(xs:List aH):dY K O (.minmax a xs) i k M n fs env S=nN K O (mmV a (xs.map (bT K n env M))) i k M n fs env S:=_root_.id (aRx ..)
theorem aSy(a:aH):dY K O (.load1 a) i k M n fs env S=nN K O (oG false (bP env S (bT K n env M a) 1)) i k M n fs env S:=_root_.id (aY3 ..)
theorem aSz(w:Nat)(a:aH):dY K O (.loadN w a) i k M n fs env S=nN K O (oG true (bP env S (bT K n env M a) w)) i k M n fs env S:=_root_.id (aY4 ..)
theorem aS0(b:SK)(x:aH)(lo a c:Option aH):dY K O (.slice b x lo a c) i k M n fs env S=nN K O (slV S b (bT K n env M x) (oI (lo.map (bT K n env M))) (oI (a.map (bT K n env M))) (oI (c.map (bT K n env M)))) i k M n fs env S:=_root_.id (aY5 ..)
theorem aOv(kk:KK)(z:IV)(a:Bool)(m y:aH):dY K O (.lookup kk z a m y) i k M n fs env S=nN K O (aO (.lookup kk z a m y) (bT K n env M) env S) i k M n fs env S:=_root_.id (aRy ..)
theorem aOw(x:aH):dY K O (.entryM x) i k M n fs env S=nN K O (aO (.entryM x) (bT K n env M) env S) i k M n fs env S:=_root_.id (aRz ..)
theorem bIt(a:NK)(x:aH):dY K O (.len a x) i k M n fs env S=nN K O (rZ a S (bT K n env M x)) i k M n fs env S:=_root_.id (bNt ..)
theorem aS1(a:IntKind)(x:aH):dY K O (.conv (.toInt a) x) i k M n fs env S=nN K O (ivO (dD (.toInt a) (bT K n env M x))) i k M n fs env S:=_root_.id (aY6 ..)
theorem aS2(w:Nat)(l:Tp_)(es:Option (List (List TV))):aWd K O w (some l) es i k M n fs env S=qF K O k ((i,.iv (.sl .full l))::M) n fs env S:=_root_.id (aY7 ..)
theorem aS3(w:Nat)(es:Option (List (List TV))):aWd K O w none es i k M n fs env S=bAg K O (aGh S.length w es) i k M n fs env S:=_root_.id (aY8 ..)
theorem bIu(z:Tq_)(a:Nat)(ps:List (Nat×aH)):dY K O (.lit false z a ps) i k M n fs env S=aWd K O z.length (bNw (dZ (List.replicate a (z.map .iv)) z.length (bT K n env M) ps)) (dZ (List.replicate a (z.map .iv)) z.length (bT K n env M) ps) i k M n fs env S:=_root_.id (bNx ..)
theorem bA4(z:Tq_)(a:Nat)(ps:List (Nat×aH)):dY K O (.lit true z a ps) i k M n fs env S=bAg K O (aGh S.length z.length (dZ (List.replicate a (z.map .iv)) z.length (bT K n env M) ps)) i k M n fs env S:=_root_.id (bGt ..)
theorem aOx(t:Nat)(z:Tq_):dY K O (.allocH t z) i k M n fs env S=aSo K O (some (.ptr S.length t 0,S++[.cells t false (z.map .iv)])) i k M n fs env:=_root_.id (aR0 ..)
theorem aS4:dY K O .mkMap i k M n fs env S=aSo K O (some (.map S.length,S++[.mp [] 0])) i k M n fs env:=_root_.id (aZa ..)
theorem aLg(z:Tq_)(bytes:Nat)(l c:aH):dY K O (.mkSlice z bytes l c) i k M n fs env S=bAg K O (mkV z bytes S.length (bT K n env M l) (bT K n env M c)) i k M n fs env S:=_root_.id (aN1 ..)
theorem bA5(t:Nat)(x:aH):dY K O (.boxH t x) i k M n fs env S=bAg K O (bS7 t S.length (bT K n env M x)) i k M n fs env S:=_root_.id (bGu ..)
theorem bA6(x y:Out (aW×Env×aA)):bOg true x y=x:=_root_.id (aE6 ..)
theorem aOy(j:Nat)(z:Tq_):dY K O (.allocL j z) i k M n fs env S=bOg (okL j M env) (tX K O (some (.lp j 0,env.set j (.lb (z.map .iv)),S)) i k M n fs) (dY K O (.allocL j z) i k M n fs env S):=_root_.id (aR1 ..)
theorem bA7(j:Nat)(x:aH):dY K O (.boxL j x) i k M n fs env S=bOg (okL j M env) (tX K O (if(cellsOf (bT K n env M x)).any bJ then none else some (.lp j 0,env.set j (.lb (cellsOf (bT K n env M x))),S)) i k M n fs) (dY K O (.boxL j x) i k M n fs env S):=_root_.id (bGv ..)
theorem aS5(w:Nat)(a v:aH):dY K O (.store w a v) i k M n fs env S=tX K O (aAe w env S (bT K n env M a) (bT K n env M v)) i k M n fs:=_root_.id (aZc ..)
theorem aOz(kk:KK)(m y x:aH):dY K O (.update kk m y x) i k M n fs env S=tX K O (gO (.update kk m y x) (bT K n env M) (dC M n) env S) i k M n fs:=_root_.id (aR2 ..)
theorem aS6(a:Bool)(x:aH):dY K O (.range a x) i k M n fs env S=tX K O (aK0 a env S (bT K n env M x)) i k M n fs:=_root_.id (aZd ..)
theorem aO0(mu:Bool)(es bytes el:Nat)(s x:aH):dY K O (.append mu es bytes el s x) i k M n fs env S=aSo K O (bA mu es bytes el S (bT K n env M s) (bT K n env M x)) i k M n fs env:=_root_.id (aR3 ..)
theorem bA8(args a:Tn_)(f:Nat):bAh O S args f (some a)=aOq S args (O.call f a []):=_root_.id (bGw ..)
theorem aO1(args:Tn_)(v:TV)(S':aA):aOq S args (.ret (v,S'))=aOp S args (resolve S' v):=_root_.id (bNy ..)
theorem bA9(args:Tn_)(v:TV):aOp S args (some v)=bOh (args.any pZ&&!(fW v)) S args v:=_root_.id (bGx ..)
theorem aS7(args:Tn_)(v:TV):bOh false S args v=.ret (v,S):=_root_.id (aZe ..)
theorem aS8(v:TV):bH8 v (some S)=.ret (v,S):=_root_.id (aZf ..)
theorem bBa(args:Tn_)(v:TV):bOh true S args v=bH8 v (cJ S args):=_root_.id (bGy ..)
theorem aS9(t:Bool)(f:Nat)(args:List aH):dY K O (.call true t f args) i k M n fs env S=fL K O (bAh O S (args.map (bT K n env M)) f (cY S (args.map (bT K n env M)))) i k M n fs env:=_root_.id (aZg ..)
theorem bOu(t:Bool)(f:Nat)(args:Tn_):bAi O t S f false args=aFe t S (O.call f args S):=_root_.id (bS8 ..)
theorem aFh(v:TV)(S':aA):aFe false S (.ret (v,S'))=.ret (v,S'):=_root_.id (bVe ..)
theorem bBb(v:TV)(q:TV×aA):bTj v (some q)=.ret q:=_root_.id (bGz ..)
theorem bTk(v:TV)(S':aA):aFe true S (.ret (v,S'))=bTj v (zN v S'):=_root_.id (bVf ..)
theorem aTa(t:Bool)(f:Nat)(args:List aH):dY K O (.call false t f args) i k M n fs env S=fL K O (bAi O t S f ((args.map (bT K n env M)).any cA) (args.map (bT K n env M))) i k M n fs env:=_root_.id (aZh ..)
theorem bBc(f:Nat)(args:List aH):dY K O (.prim f args) i k M n fs env S=aSo K O (prV S (K.prim f) (args.map (bT K n env M))) i k M n fs env:=_root_.id (bG0 ..)
theorem aTb(v:TV):aWe S (some v)=.ret (v,S):=_root_.id (aZj ..)
theorem bIv(rs:List mU):jT rs (.ret (.ret,env,S))=aWe S (kP rs env S):=_root_.id (bN0 ..)
theorem aO2(rs:List mU):jT rs (.ret (.normal,env,S))=aWe S (kP rs env S):=_root_.id (aR4 ..)
theorem bOv(rs:List mU)(B:Bool)(x y:Out (aW×Env×aA)):jT rs (br' B x y)=br' B (jT rs x) (jT rs y):=_root_.id (bS9 ..)
theorem aI{f:Nat}{args:Tn_}{fn:aU}{r:TV×aA}(a:K.funcs f=some fn)(b:args.length=fn.nparams)(h:jT fn.results (go' K (lim K) fn.body [] (args++List.replicate (fn.nlocs-fn.nparams) undef) S)=.ret r):(lim K).call f args S=.ret r:=bG1 K S a b h
theorem dJ{f:Nat}{args:Tn_}{fn:aU}{Q:TV×aA->Prop}(a:K.funcs f=some fn)(b:args.length=fn.nparams)(h:(jT fn.results (go' K (lim K) fn.body [] (args++List.replicate (fn.nlocs-fn.nparams) undef) S)).All Q):((lim K).call f args S).All Q:=bG2 K S a b h
theorem aO3(b:aL):jK O b (.ret (.normal,env,S))=er (lp' O b env S):=_root_.id (aR5 ..)
theorem bIw(b:aL):jK O b (.ret (.ret,env,S))=.ret (.ret,env,S):=_root_.id (bN1 ..)
theorem bBd(b:aL)(id:Nat):jK O b (.ret (.exit id,env,S))=.ret (.exit id,env,S):=_root_.id (bG3 ..)
theorem bOw(b:aL)(B:Bool)(x y:Out (aW×Env×aA)):jK O b (br' B x y)=br' B (jK O b x) (jK O b y):=_root_.id (bTa ..)
theorem bBe{b:aL}{r:aW×Env×aA}(h:jK (lim K) b (go' K (lim K) b [] env S)=.ret r):lp' (lim K) b env S=.ret r:=bG4 K env S h
theorem bBf(a:aH):aSp K M n env S (.load1 a)=oG false (bP env S (bT K n env M a) 1):=_root_.id (bG5 ..)
theorem bBg(w:Nat)(a:aH):aSp K M n env S (.loadN w a)=oG true (bP env S (bT K n env M a) w):=_root_.id (bG6 ..)
theorem aTc(a:Bool)(j:Nat)(o:TOp):bOi K (.tup []) a j M n env S o=true:=_root_.id (aZk ..)
theorem bBh(b a:Bool)(j:Nat)(o:TOp):bOi K (.iv (.bool b)) a j M n env S o=if b==a then rcS (aSp K M n env S o) (bT K n env M (.reg j))else true:=_root_.id (bHa ..)
theorem bBi(o:TOp)(l:Option Nat)(j:Nat):bOj K (some ⟨o,l,none⟩) j M n env S=rcS (aSp K M n env S o) (bT K n env M (.reg j)):=_root_.id (bHb ..)
theorem aTd(o:TOp)(l:Option Nat)(g:Nat)(a:Bool)(j:Nat):bOj K (some ⟨o,l,some (g,a)⟩) j M n env S=bOi K (bT K n env M (.reg g)) a j M n env S o:=_root_.id (aZl ..)
theorem bIx(ops:List aK):bH9 K ops M n env S []=true:=_root_.id (bN4 ..)
theorem bBj(ops:List aK)(j:Nat)(c:Tc_):bH9 K ops M n env S (j::c)=(bOj K (aAc ops j) j M n env S&&bH9 K ops M n env S c):=_root_.id (bHc ..)
theorem bBk(ops:List aK)(ps:Tl_)(c a:Tc_):qF K O (.ph ops c a ps) M n fs env S=bTf K O (bH9 K ops M n env S c) ops a ps M n fs env S:=_root_.id (bHd ..)
theorem go_region'(K:bD)(O:Orc)(ops:List aK)(a:List Fr)(env:Env)(S:aA):go' K O (.region ops) a env S=bTi K O (aId ops 0) ops a env S:=_root_.id (go_region ..)
theorem bIy(K:bD)(O:Orc)(n:Nat)(c:Tc_)(a:Tl_)(ops:List aK)(b:List Fr)(env:Env)(S:aA):bIa K O n c a ops b env S=aOo K O ops c a [] n b env S:=_root_.id (aWc ..)
theorem go_draw'(K:bD)(O:Orc)(c:Tc_)(a:Tl_)(ops:List aK)(b:List Fr)(env:Env)(S:aA):go' K O (.draw c a ops) b env S=bIa K O (aId ops 0) c a ops b env S:=_root_.id (go_draw ..)
theorem bBl(n:Nat):aId [] n=n:=_root_.id (bHf ..)
theorem aTe(a:aK)(l:List aK)(n:Nat):aId (a::l) n=aId l (n+1):=_root_.id (aZm ..)
attribute [go_sem] bIb bAj bOk bIc bId bIe bOl bAk bAl bAm bAn bAo
attribute [go_sem] bIf bAp bAq aSr bAr bOm bOn aOr aLa bOo aOs aLb
attribute [go_sem] go_skip' go_ret' go_exit' go_seq' go_block' bAs go_cond' bIg go_loop' bOp bIh bIi
attribute [go_sem] bIj bAt aSs bAu bAv aSt bIk bAw bIl bAx aSu bAy
attribute [go_sem] bIm bAz bA0 aCu bIn aOt aFf bIo bOq bOs
attribute [go_sem] bA1 bIp bA2 aSv aGm bIq bIr aSw bOt bA3
attribute [go_sem] aFg aSx aB6 aB7 aLf bIs aOu aSy aSz aS0
attribute [go_sem] aOv aOw bIt aS1 aS2 aS3 bIu bA4
attribute [go_sem] aOx aS4 aLg bA5 bA6 aOy bA7 aS5 aOz aS6 aO0
attribute [go_sem] bA8 aO1 bA9 aS7 aS8 bBa aS9 bOu aFh bBb bTk
attribute [go_sem] aTa bBc aTb bIv aO2 bOv aO3 bIw bBd bOw
attribute [go_sem] bBf bBg
attribute [go_sem] aTc bBh bBi aTd bIx bBj bBk go_region' bIy go_draw'
attribute [go_sem] bBl aTe
theorem aE{b a:aL}{r:aW×Env×aA}(c:b=a)(h:jK (lim K) b (go' K (lim K) a [] env S)=.ret r):lp' (lim K) b env S=.ret r:=by subst c;exact bBe K env S h
end
attribute [irreducible] br' bk' go' bAe bOc aOo bTf qF dY bAf nN bAg aSo tX fL bTg sC aAg bTh aFd bTi bIa bOe bOf bOd bOg aWd lp' aOp aOq bAh bOh aFe bAi jT jK bTj bH8 aWe bT aId aSp bH9 bOj bOi
end Go.TM
namespace Go.TM
theorem aC{m:Int}(h:-9223372036854775808<=m/\m<=9223372036854775807):IntKind.i64.wrap m=m:=by unfold IntKind.wrap;simp[IntKind.bits,IntKind.signed];omega
theorem qG{m:Int}(h:0<=m/\m<=18446744073709551615):IntKind.u64.wrap m=m:=by unfold IntKind.wrap;simp[IntKind.bits,IntKind.signed];omega
theorem bWq{p:Prop}[Decidable p](h:p):decide p=true:=V_ h
theorem bWr{p:Prop}[Decidable p](h:¬p):decide p=false:=l_ h
theorem ifT{α:Type}{p:Prop}[Decidable p]{a b:α}(h:p):(if p then a else b)=a:=K_ h
theorem ifF{α:Type}{p:Prop}[Decidable p]{a b:α}(h:¬p):(if p then a else b)=b:=I_ h
theorem eqT{a b:Int}(h:a=b):(a==b)=true:=by simp[h]
theorem eqF{a b:Int}(h:a≠b):(a==b)=false:=by simp[h]
theorem neT{a b:Int}(h:a≠b):(a != b)=true:=by simp[h]
theorem neF{a b:Int}(h:a=b):(a != b)=false:=by simp[h]
theorem yU{α:Type}(f:α->IV):∀(l:List α),bC (l.map fun a=>[f a])=l.map f
 |[]=>rfl
 |a::l=>by simp only[Q_,bC,yU f l];rfl
def one{α:Type}(f:α->IV)(l:List α):List (List IV):=l.map fun a=>[f a]
theorem kB{α:Type}(f:α->IV)(l:List α):(one f l).length=l.length:=by simp[one]
def cB{α:Type}(t:Tag)(l:List α):Prop:=t=.nil->l=[]
theorem cB.nil{α:Type}:cB .nil ([]:List α):=fun _=>rfl
theorem aO4{w:Nat}{t:Tag}{l:Tp_}{i:Int}{c:Tq_}(h:0<=i)(a:l[i.toNat]?=some c)(b:c.length=w):indexAddrS w (.iv (.sl t l)) i=some (.iv (.cp c)):=by have:¬i<0:=A_;simp only[indexAddrS,this,↓reduceIte,a,b]
theorem bOx{α:Type}(f:α->IV)(l:List α)(n:Nat):(one f l)[n]?=(l[n]?).map fun a=>[f a]:=by simp[one]
theorem pI{α:Type}[Inhabited α](f:α->IV){t:Tag}{l:List α}{i:Int}(h:0<=i/\i<l.length):indexAddrS 1 (.iv (.sl t (one f l))) i=some (.iv (.cp [f (l.getD i.toNat default)])):=by refine aO4 h.1 ?_ rfl;have:i.toNat<l.length:=A_;rw[bOx,D_ this];simp[List.getD,D_ this]
theorem bOy(env:Env)(S:aA)(x:IV)(l:Tq_):bP env S (.iv (.cp (x::l))) 1=some [.iv x]:=by simp[bP,sub]
end Go.TM
namespace Go.TM
theorem kI{w:Nat}{a:Int}(h:0<=a/\a<2 ^ w):(BitVec.ofInt w a).toNat=a.toNat:=by rw[BitVec.toNat_ofInt];have:a % ((2 ^ w:Nat):Int)=a:=Int.emod_eq_of_lt h.1 (by push_cast;exact h.2);rw[this]
end Go.TM
namespace Go.TM
theorem aFi{α:Type}{w:Nat}:∀ {l:List (List α)},(∀y∈l,y.length=w)->(bC l).length=l.length*w
 |[],_=>by simp[bC]
 |a::l,h=>by have b:=h a B_;have c:=aFi (l:=l) (fun y d=>h y (by simp[d]));simp only[bC,H_,List.length_cons,b,c,E2];omega
theorem tY{α:Type}{w:Nat}:∀ {l:List (List α)},(∀y∈l,y.length=w)->cP w l.length (bC l)=l
 |[],_=>rfl
 |a::l,h=>by have b:=h a B_;have c:=tY (l:=l) (fun y d=>h y (by simp[d]));simp only[bC,List.length_cons,cP];rw[<-b,K4,L6,b,c]<;>rfl
theorem fM:∀(l:Tq_),toIVs (l.map .iv)=some l
 |[]=>rfl
 |a::l=>by rw[Q_,aFc,aOg,fM l,aE9]
def mZ:IV->Bool
 |.agg _=>false
 |_=>true
theorem aLh:∀ {l:Tq_},l.all mZ=true->(l.map TV.iv).any bJ=false
 |[],_=>rfl
 |a::l,h=>by simp only[List.all_cons,P_]at h;simp only[Q_,List.any_cons,aLh h.2,O7];cases a<;>first|rfl|simp[mZ]at h
theorem aFj:∀ {l:Tp_},(∀y∈l,y.all mZ=true)->(bC l).all mZ=true
 |[],_=>rfl
 |a::l,h=>by simp only[bC,List.all_append,P_];exact⟨h a B_,aFj (fun y b=>h y (by simp[b]))⟩
theorem aO5{w:Nat}:∀ {l:Tp_},(∀y∈l,y.length=w)->oL w l=true
 |[],_=>rfl
 |a::l,h=>by simp[oL,h a B_]
theorem gC{α:Type}[Inhabited α]{w:Nat}{f:α->List IV}(b:∀a,(f a).length=w){t:Tag}{l:List α}{i:Int}(h:0<=i/\i<l.length):indexAddrS w (.iv (.sl t (l.map f))) i=some (.iv (.cp (f (l.getD i.toNat default)))):=by refine aO4 h.1 ?_ (b _);have:i.toNat<l.length:=A_;rw[p_,D_ this];simp[List.getD,D_ this]
theorem aO6(env:Env)(S:aA)(cs:Tq_)(n:Nat):bP env S (.iv (.cp cs)) n=(sub cs 0 n).map (·.map .iv):=id rfl
def Pure(K:bD)(f:Nat)(ags:List TV)(v:TV):Prop:=∃r S,(lim K).call f ags []=.ret (r,S)/\resolve S r=some v
theorem gQ{K:bD}{f:Nat}{a:Tn_}{v r:TV}{S:aA}(h:(lim K).call f a []=.ret (r,S))(b:resolve S r=some v):Pure K f a v:=⟨r,S,h,b⟩
theorem aD{K:bD}{f:Nat}{a:Tn_}{v:TV}(h:Pure K f a v)(S:aA)(args:Tn_):aOq S args ((lim K).call f a [])=aOp S args (some v):=by obtain⟨r,S',b,c⟩:=h;rw[b,aO1,c]
def bOz(v:Option TV):Out TV:=match v with
 |some v=>.ret v
 | none => .fail ""
theorem bBm(v:TV):bOz (some v)=.ret v:=id rfl
def bBn(x:Out (TV×aA)):Out TV:=x.bind fun r=>bOz (resolve r.2 r.1)
theorem bIz(r:TV)(S:aA):bBn (.ret (r,S))=bOz (resolve S r):=id rfl
theorem bO0(B:Bool)(x y:Out (TV×aA)):bBn (br' B x y)=br' B (bBn x) (bBn y):=by unfold br';cases B<;>rfl
attribute [go_sem] bBm bIz bO0
theorem aT{K:bD}{f:Nat}{args:Tn_}(fn:aU){v:TV}(b:K.funcs f=some fn)(a:args.length=fn.nparams)(h:bBn (jT fn.results (go' K (lim K) fn.body [] (args++List.replicate (fn.nlocs-fn.nparams) undef) []))=.ret v):Pure K f args v:=by
 generalize hx:jT fn.results (go' K (lim K) fn.body [] (args++List.replicate (fn.nlocs-fn.nparams) undef) [])=x at h;cases x with
 |ret r =>
  obtain⟨r,S⟩:=r;refine⟨r,S,aI K [] b a hx,?_⟩;simp only[bBn,Out.bind,bOz]at h;cases hr:resolve S r with
  |none=>rw[hr]at h;cases h
  |some u=>rw[hr]at h;cases h;rfl
 |fail s=>cases h
 |pick n k=>cases h
def jE(w:Nat)(l:List (List IV)):Prop:=∀y∈l,y.length=w/\y.all mZ=true
theorem jE.map{α:Type}{w:Nat}{f:α->List IV}(h:∀a,(f a).length=w/\(f a).all mZ=true)(l:List α):jE w (l.map f):=by intro y b;obtain⟨a,_,rfl⟩:=A0.1 b;exact h a
theorem jE.one{α:Type}{f:α->IV}(h:∀a,mZ (f a)=true)(l:List α):jE 1 (one f l) :=
 jE.map (f:=fun a=>[f a]) (fun a=>⟨rfl,by simp[h a]⟩) l
def rO(S:aA)(x:TV)(ys:List (List IV)):Prop:=dU S x=some ((bC ys).map .iv)/\lenOf S x=some ys.length
theorem rO.sl(S:aA)(t:Tag)(ys:Tp_):rO S (.iv (.sl t ys)) ys:=⟨rfl,rfl⟩
theorem bR{n b:Nat}(h:n*b<=35184372088832/\b<=1048576/\n<=35184372088832):eA n b=true:=by simp[eA,h]
theorem aFk{w b el i:Nat}{S:aA}{l ys:Tp_}{x:TV}(m:rO S x ys)(d:jE w ys)(o:jE w l)(c:S[i]?=some (.tok l.length w el))(g:eA (l.length+ys.length) b=true): bA false w b el S (.tsl i l) x=some (.tsl i (l++ys),S.set i (.tok (l.length+ys.length) w el)):=by
 obtain⟨k,j⟩:=m;have n:=aFi (w:=w) (fun y a=>(d y a).1);have h:=aLh (aFj (fun y a=>(d y a).2));simp only[bA,k,j,L_,n,ne_eq,C9,h,b_,or_self,↓reduceIte];by_cases hm:ys.length=0
 .have:ys=[]:=Z_ hm;subst this;simp only[hm,↓reduceIte,aQz,A4,Nat.add_zero];have f:i<S.length:=by
   rcases D2 i S.length with h3|h3;.exact h3
   .rw[B5 h3]at c;cases c
  rw[D_ f]at c;have e:S.set i (.tok l.length w el)=S:=by rw[<-D6 c];exact J9 f
  simp[e]
 .simp only[hm,↓reduceIte,c,fM,aO5 (fun y a=>(o y a).1),g,V6,Bool.and_self,tY (fun y a=>(d y a).1)]
theorem aLi{w b el:Nat}{S:aA}{t:Tag}{l ys:Tp_}{x:TV}(g:t≠.no)(n:rO S x ys)(c:jE w ys)(p:jE w l)(m:ys≠[])(f:eA (l.length+ys.length) b=true): bA false w b el S (.iv (.sl t l)) x=some (.tsl S.length (l++ys),S++[.tok (l.length+ys.length) w el]):=by
 obtain⟨j,i⟩:=n;have o:=aFi (w:=w) (fun y a=>(c y a).1);have h:=aLh (aFj (fun y a=>(c y a).2));have k:¬ys.length=0:=fun e=>m (Z_ e);have d:(t==.no)=false:=by cases t<;>first|rfl|exact absurd rfl g
 simp only[bA,j,i,L_,o,ne_eq,C9,h,b_,or_self,↓reduceIte,k,d,aO5 (fun y a=>(p y a).1),f,E7,Bool.or_self,fM,tY (fun y a=>(c y a).1)]
theorem bI0{mu:Bool}{w b el:Nat}{S:aA}{s x:TV}(e:aQz s=true)(c:rO S x []):bA mu w b el S s x=some (s,S):=by obtain⟨a,d⟩:=c;simp[bA,a,d,bC,e]
def acc(i:Nat)(l:List (List IV)):TV:=if l=[]then .iv (.sl .nil [])else .tsl i l
theorem mB(i:Nat):acc i []=.iv (.sl .nil []):=by simp[acc]
theorem aO7(i:Nat)(a:Tq_)(l:Tp_):acc i (a::l)=.tsl i (a::l):=by simp[acc]
theorem lO(i:Nat){l:Tp_}(h:l≠[]):acc i l=.tsl i l:=by simp[acc,h]
def vH(w el:Nat)(l:List (List IV)):aA:=if l=[]then []else [.tok l.length w el]
theorem aFl(w el:Nat):vH w el []=[]:=by simp[vH]
theorem aLj(w el:Nat){l:Tp_}(h:l≠[]):vH w el l=[.tok l.length w el]:=by simp[vH,h]
theorem bI1{w b el:Nat}{l ys:Tp_}{x:TV}(a:∀S,rO S x ys)(d:jE w ys)(f:jE w l)(c:eA (l.length+ys.length) b=true): bA false w b el (vH w el l) (acc 0 l) x=some (acc 0 (l++ys),vH w el (l++ys)):=by
 by_cases h:l=[]
 .subst h;by_cases h0:ys=[]
  .subst h0;rw[mB,aFl,bI0 rfl (a _)];rfl
  .rw[mB,aFl,aLi C_ (a _) d f h0 c,List.nil_append,lO _ h0,aLj _ _ h0];simp
 .have e:l++ys≠[]:=by simp[h]
  rw[lO _ h,aLj _ _ h,aFk (a _) d f rfl c,lO _ e,aLj _ _ e];simp
theorem aFm(S:aA)(i:Nat)(l:Tp_):rZ .sl S (acc i l)=some (.iv (.int .i64 l.length)):=by
 unfold acc;split;.rename_i h;subst h;rfl
 .rfl
def jL{α:Type}(l:List α):Tag:=match l with
 |[]=>.nil
 |_=>.no
theorem aUp{α:Type}(l:List α):cB (jL l) l:=by
 cases l with
 |nil=>exact fun _=>rfl
 |cons a l=>intro h;cases h
theorem aIe(S:aA)(i:Nat)(l:Tp_):wI S (acc i l)=some (.sl (jL l) l):=by cases l<;>rfl
theorem aBq(S:aA)(i:Nat)(l:Tp_):resolve S (acc i l)=some (.iv (.sl (jL l) l)):=by cases l<;>rfl
theorem bO1(K:bD)(O:Orc)(j b:Nat)(l:Tp_)(ops:List aK)(i:Nat)(M:To_)(n:Nat)(a:List Fr)(env:Env)(S:aA):aAg K O (acc b l) j ops i M n a env S=sC K O ops (i+1) M n a (env.set j (acc b l)) S:=by
 unfold acc;split;.exact aCu K O ops i M n a env S _ j
 .exact aFf K O ops i M n a env S _ _ j
theorem qH(j i:Nat)(l:Tp_):mX j (acc i l)=acc i l:=by unfold acc;split<;>rfl
theorem bI2(i:Nat)(l:Tp_):aR8 (acc i l)=some (acc i l):=by unfold acc;split<;>rfl
attribute [go_sem] aIe aBq bO1 qH bI2 aFm
end Go.TM
namespace Go.TM
open Go Go.ChangeShapes Go.WideShapes Go.RowKit
variable {P:Program}{H:Type}{enc:TypeId×Value->H}{W:World}
def tZ(P:Program){H:Type}:List TypeId->List (DataW H)->List (List IV)->Prop
 |[],[],[]=>True
 |t::ts,d::ds,l::ls=>Ty P t d l/\tZ P ts ds ls
 |_,_,_=>False
def aLk(P:Program):List TypeId->List (List IV)->List TV
 |t::ts,l::ls=>aH2 P t l::aLk P ts ls
 |_,_=>[]
theorem aWf{ts:List TypeId}(a:aYm P ts=true){r:Reach}{b base:Nat}{c:Bool}:∀ {params:List TypeId} {vals:List Value} {ds:List (DataW H)} {ps:List MemPlace},(∀t∈params,t∈ts)->(∀(j:Nat) t v,params[j]?=some t->vals[j]?=some v->Value.okWide P W r b t v) ->DataW.TrodAll enc P W base (fun _=>true) c params vals ds ps->∃ls,tZ P params ds ls/\VRs (eY W) [] [] (aLk P params ls) vals
 |[],vals,ds,ps,_,_,h=>by obtain⟨rfl,rfl,rfl⟩:=trodAll_nil h;exact⟨[],trivial,VRs.nil⟩
 |t::params,vals,ds,ps,hp,hv,h=>by obtain⟨v,k,d,x,p,q,rfl,rfl,rfl,n,i⟩:=trodAll_cons h;obtain⟨l,m,s⟩:=bSr a (hp t B_) (hv 0 t v rfl rfl) n;obtain⟨ls,g,f⟩:=aWf a (fun u e=>hp u (by simp[e])) (fun j u w e o=>hv (j+1) u w (by simpa using e) (by simpa using o)) i;exact⟨l::ls,⟨m,g⟩,VRs.cons s f⟩
theorem bO2{t:TypeId}{d:DataW H}{l:Tq_}(a:P.underlying t=some .bool)(h:Ty P t d l):∃b,l=[.bool b]:=by
 cases h with
 |bool u ht b=>exact⟨b,rfl⟩
 |int u k ht=>rw[a]at ht;cases ht
 |str u ht=>rw[a]at ht;cases ht
 |nilp u e ht=>rw[a]at ht;cases ht
 |ptr u e ht=>rw[a]at ht;cases ht
 |nils u e ht=>rw[a]at ht;cases ht
 |sl u e ht=>rw[a]at ht;cases ht
 |struct u fs ht=>rw[a]at ht;cases ht
 |array u e n ht=>rw[a]at ht;cases ht
theorem lP{t:TypeId}{d:DataW H}{l:Tq_}{k:IntKind}(a:P.underlying t=some (.int k))(h:Ty P t d l):∃n,l=[.int k n]/\k.min<=n/\n<=k.max:=by
 cases h with
 |bool u ht b=>rw[a]at ht;cases ht
 |int u k' ht n hw =>
  rw[a]at ht;cases ht
  simp only[Lit.wf,P_,q_]at hw;exact⟨n,rfl,hw⟩
 |str u ht=>rw[a]at ht;cases ht
 |nilp u e ht=>rw[a]at ht;cases ht
 |ptr u e ht=>rw[a]at ht;cases ht
 |nils u e ht=>rw[a]at ht;cases ht
 |sl u e ht=>rw[a]at ht;cases ht
 |struct u fs ht=>rw[a]at ht;cases ht
 |array u e n ht=>rw[a]at ht;cases ht
theorem aFn{α:Type}{f:α->List IV}{R:α->Prop}{t e:TypeId}{d:DataW H}{l:Tq_}(g:P.underlying t=some (.slice e))(r:∀(d:DataW H) (l:Tq_),Ty P e d l->∃a,l=f a/\R a)(h:Ty P t d l): ∃(q:Tag) (c:List α),l=[.sl q (c.map f)]/\cB q c/\(∀a∈c,R a)/\c.length<=9223372036854775807:=by
 cases h with
 |bool u ht b=>rw[g]at ht;cases ht
 |int u k ht=>rw[g]at ht;cases ht
 |str u ht=>rw[g]at ht;cases ht
 |nilp u e ht=>rw[g]at ht;cases ht
 |ptr u e ht=>rw[g]at ht;cases ht
 |nils u e ht=>exact⟨.nil,[],rfl,cB.nil,by simp,by simp⟩
 |sl u e' ht ds sp ls tag htag m hm h hl =>
  rw[g]at ht;cases ht
  have key:∀(ls:Tp_) (ds:List (DataW H)),ls.length=ds.length->(∀(i:Nat) (d:DataW H) (l:Tq_),ds[i]?=some d->ls[i]?=some l->Ty P e d l)->∃c:List α,ls=c.map f/\∀a∈c,R a:=by
   intro ls;induction ls with
   |nil=>exact fun ds _ _=>⟨[],rfl,by simp⟩
   |cons l ls ih =>
    intro ds m h;cases ds with
    |nil=>simp at m
    |cons d ds =>obtain⟨a,rfl,v⟩:=r d l (h 0 d l rfl rfl);obtain⟨c,rfl,j⟩:=ih ds (by simpa using m) (fun i w l' s o=>h (i+1) w l' (by simpa using s) (by simpa using o));exact⟨a::c,rfl,by intro x p;rcases J_.1 p with rfl|p;exact v;exact j x p⟩
  obtain⟨c,rfl,j⟩:=key ls ds m h;refine⟨tag,c,rfl,fun e=>absurd e htag,j,?_⟩;simp only[L_]at hm;have:maxLen=9223372036854775807:=rfl;omega
 |struct u fs ht=>rw[g]at ht;cases ht
 |array u e n ht=>rw[g]at ht;cases ht
theorem aIf{t:TypeId}{a:Array Field}{d:DataW H}{l:Tq_}(c:P.underlying t=some (.struct a))(h:Ty P t d l): ∃(ds:List (DataW H)) (ls:Tp_),l=bC ls/\tZ P (a.toList.map (·.type)) ds ls:=by
 cases h with
 |bool u ht b=>rw[c]at ht;cases ht
 |int u k ht=>rw[c]at ht;cases ht
 |str u ht=>rw[c]at ht;cases ht
 |nilp u e ht=>rw[c]at ht;cases ht
 |ptr u e ht=>rw[c]at ht;cases ht
 |nils u e ht=>rw[c]at ht;cases ht
 |sl u e ht=>rw[c]at ht;cases ht
 |struct u fs' ht ds ls m j h hl =>
  rw[c]at ht;cases ht
  refine⟨ds,ls,rfl,?_⟩;have key:∀(a:List Field) (ds:List (DataW H)) (ls:Tp_),ds.length=a.length->ls.length=a.length->(∀(i:Nat) (f:Field) (d:DataW H) (l:Tq_),a[i]?=some f->ds[i]?=some d->ls[i]?=some l->Ty P f.type d l)->tZ P (a.map (·.type)) ds ls:=by
   intro a;induction a with
   |nil =>intro ds ls m j _;have r:ds=[]:=Z_ (by simpa using m);have e2:ls=[]:=Z_ (by simpa using j);subst r;subst e2;exact trivial
   |cons f a ih =>
    intro ds ls m j h;cases ds with
    |nil=>simp at m
    |cons d ds =>
     cases ls with
     |nil=>simp at j
     |cons l ls=>exact⟨h 0 f d l rfl rfl rfl,ih ds ls (by simpa using m) (by simpa using j) (fun i q s l' p o g=>h (i+1) q s l' (by simpa using p) (by simpa using o) (by simpa using g))⟩
  exact key a.toList ds ls (by simpa using m) (by simpa using j) (fun i f d l p o g=>h i f d l (by simpa using p) o g)
 |array u e n ht=>rw[c]at ht;cases ht
theorem aJ6{t e:TypeId}{d:DataW H}{l:Tq_}{k:IntKind}(j:P.underlying t=some (.slice e))(i:P.underlying e=some (.int k))(h:Ty P t d l): ∃(c:Tag) (b:Ta_),l=[.sl c (one (.int k) b)]/\cB c b/\(∀a∈b,k.min<=a/\a<=k.max)/\b.length<=9223372036854775807:=by obtain⟨c,b,rfl,g,h3,m⟩:=aFn (f:=fun n=>[.int k n]) (R:=fun n=>k.min<=n/\n<=k.max) j (fun d l h=>by obtain⟨n,rfl,g⟩:=lP i h;exact⟨n,rfl,g⟩) h;exact⟨c,b,rfl,g,h3,m⟩
theorem bBo{t:TypeId}{l:Tq_}(h:(match P.underlying t with|some (.struct _)|some (.array _ _)=>true|_=>false)=true):aH2 P t l=.iv (.agg l):=by
 unfold aH2;split;.rfl
 .rfl
 .rename_i h1 h2;split at h;.rename_i e;exact absurd e (h1 _)
  .rename_i e;exact absurd e (h2 _ _)
  .cases h
theorem aAh{ds:List (DataW H)}{ls:Tp_}(h:tZ P [] ds ls):ls=[]:=by cases ds<;>cases ls<;>first|rfl|exact h.elim
theorem dE{t:TypeId}{ts:List TypeId}{ds:List (DataW H)}{ls:Tp_}(h:tZ P (t::ts) ds ls):∃(d:DataW H) (l:Tq_) (b:List (DataW H)) (a:Tp_),ls=l::a/\Ty P t d l/\tZ P ts b a:=by
 cases ds with
 |nil=>cases ls<;>exact h.elim
 |cons d ds =>
  cases ls with
  |nil=>exact h.elim
  |cons l ls=>exact⟨d,l,ds,ls,rfl,h.1,h.2⟩
theorem aTf{P:Program}{ts:Array TypeId}{q:TypeId->Bool}(h:ts.toList.all (fun t=>!(q t))=true)(j:Nat)(t:TypeId)(a:ts[j]?=some t):q t=false:=by have:=C6.1 h t (X9.2 (Array.mem_of_getElem? a));simpa using this
theorem aTg{ds:List (DataW H)}{ls:Tp_}(h:tZ P [] ds ls):ds=[]:=by cases ds<;>cases ls<;>first|rfl|exact h.elim
theorem aO8{t:TypeId}{ts:List TypeId}{ds:List (DataW H)}{ls:Tp_}(h:tZ P (t::ts) ds ls):∃(d:DataW H) (l:Tq_) (b:List (DataW H)) (a:Tp_),ds=d::b/\ls=l::a/\tZ P ts b a:=by
 cases ds with
 |nil=>cases ls<;>exact h.elim
 |cons d ds =>
  cases ls with
  |nil=>exact h.elim
  |cons l ls=>exact⟨d,l,ds,ls,rfl,rfl,h.2⟩
theorem aFo{O:dH}{K:TM.bD}(b:KOK P O K){f:Nat}{args:Tn_}(h:((lim K).call f args []).All fun r=>r.1=.iv (.bool true)){vals:Array Value}(d:VRs (eY W) [] [] args vals.toList)(c:rH K (eY W)): Calls P f vals W fun e W'=>e=.returned (.bool true)/\Below W.heap.size W W':=by obtain⟨n,g⟩:=bM0 (K:=K) (f:=f) (a:=args) (S:=[]) h;exact aYo b g d c
end Go.TM
namespace Go.TM
section
variable (K:bD)(O:Orc)(i:Nat)(k:Kt)(M:List (Nat×TV))(n:Nat)(fs:List Fr)(env:Env)(S:aA)
def cvA(O:Orc)(c:Bool)(S:aA)(g:Nat)(ags:List TV):Out (TV×aA):=if c then bAh O S ags g (cY S ags)else bAi O false S g (ags.any cA) ags
theorem bI3(g:Nat)(a:Tn_):cvA O true S g a=bAh O S a g (cY S a):=by simp only[cvA,↓reduceIte]
theorem bBp(g:Nat)(a:Tn_):cvA O false S g a=bAi O false S g (a.any cA) a:=by simp only[cvA,b_,↓reduceIte]
def bI4 (O : Orc) (S : aA) (j : Nat) (lp : Bool) (ags : List TV) : Out (TV × aA) := if lp then .fail "" else er (O.yld j ags S)
theorem bO3(j:Nat)(a:Tn_):bI4 O S j false a=er (O.yld j a S):=by simp only[bI4,b_,↓reduceIte]
def opF(f:TV)(ags:List TV)(i:Nat)(k:Kt)(M:List (Nat×TV))(n:Nat)(fs:List Fr)(env:Env)(S:aA):TT (Out (aW×Env×aA)) (i,k,M,n,fs,env,S) :=
 match f with
 |.fn g a b=>fL K O (cvA O ((a++ags++b).all kM) S g (a++ags++b)) i k M n fs env
 |.yld j=>fL K O (bI4 O S j (ags.any cA) ags) i k M n fs env
 | _ => (.fail "" : Out (aW × Env × aA))
theorem bTl(g:Nat)(a b c:Tn_):opF K O (.fn g a b) c i k M n fs env S=fL K O (cvA O ((a++c++b).all kM) S g (a++c++b)) i k M n fs env:=rfl
theorem bO4(j:Nat)(a:Tn_):opF K O (.yld j) a i k M n fs env S=fL K O (bI4 O S j (a.any cA) a) i k M n fs env:=rfl
theorem bBq(f:aH)(args:List aH):dY K O (.callv f args) i k M n fs env S=opF K O (bT K n env M f) (args.map (bT K n env M)) i k M n fs env S:=by
 unfold dY bT;simp only[op1,bW];show er (Out.bind (match opv K n env M f with
  |.fn g a b=>Out.bind (if(a++args.map (opv K n env M)++b).all kM then fC O g (a++args.map (opv K n env M)++b) S else jJ O false g (a++args.map (opv K n env M)++b) S) fun r=>.ret (r.1,env,r.2)
  | .yld j => if (args.map (opv K n env M)).any cA then .fail "yield: a local's address" else Out.bind (O.yld j (args.map (opv K n env M)) S) fun r => .ret (r.1, env, r.2)
  | _ => .fail "callv") _) = _
 cases opv K n env M f with
 |fn g a b =>
  simp only[opF,cvA,Out.bind_assoc,Out.bind];split;.unfold fL bAh;rw[<-aBm,<-aE7]
  .unfold fL bAi;rw[<-aH7,<-aE7]
 |yld j =>
  simp only[opF,bI4];split;.unfold fL;rfl
  .unfold fL;rw[<-aE7];simp only[Out.bind_assoc,Out.bind]
 |_=>rfl
end
theorem bO5(v:IV):kM (.iv v)=true:=id rfl
theorem bI5(a b c:Nat):kM (.ptr a b c)=false:=id rfl
theorem bI6(f:Nat)(a b:Tn_):aWb f a b=if(a++b).any cA=true then none else some (.fn f a b):=id rfl
theorem bO6(t m:Nat)(v:TV):bS7 t m v=if(cellsOf v).any bJ=true then none else some (.ptr m t 0,.cells t false (cellsOf v)):=id rfl
attribute [go_sem] bI3 bBp bO3 bTl bO4 bBq bO5 bI5 bI6 bO6
theorem aLl(S:aA)(a b c d e f:Nat):jP S (.msl a b c d e f)=ivO (slO (cH S (.msl a b c d e f))):=id rfl
attribute [go_sem] aLl
end Go.TM
namespace Go.TM
open Go
def aFp(f:Int->IV)(C:List Int):List TV:=C.map fun n=>.iv (f n)
theorem aTh(f:Int->IV)(C:Ta_):(aFp f C).length=C.length:=by simp[aFp]
theorem aLm{j v off a cap:Nat}{i:Int}(h:0<=i/\i<a):indexAddrS 1 (.msl j v off a cap 1) i=some (.ptr j v (off+i.toNat)):=by simp only[indexAddrS,show ¬i<0 by omega,h.2,X1,↓reduceIte,I8]
theorem aLn(f:Int->IV)(l:Ta_):bC (one f l)=l.map f:=yU f l
theorem aO9(f:Int->IV)(n:Nat):bC (List.replicate n ([f 0].map TV.iv))=aFp f (List.replicate n 0):=by
 have:List.replicate n ([f 0].map TV.iv)=(List.replicate n (0:Int)).map fun a=>[TV.iv (f a)]:=B_;rw[this];generalize List.replicate n (0:Int)=l;induction l with
 |nil=>rfl
 |cons a l ih=>simp only[Q_,bC,List.flatMap_cons,aFp]at ih |-;simpa using ih
end Go.TM
namespace Go.TM
section
variable (K:bD)(O:Orc)(fs:List Fr)(env:Env)(S:aA)
def rfB(K:bD)(O:Orc)(n:Nat)(env:Env)(fs:List Fr)(S:aA):Option aG->Out (aW×Env×aA)
 | some (.lp .busy ..) => .fail ""
 |some (.lp _ pend env' ps a b)=>bk K O fs (pend.getD .normal) env (S.set n (.lp .exhausted pend env' ps a b))
 | _ => .fail ""
def rfR(K:bD)(O:Orc)(n:Nat)(env:Env)(fs:List Fr)(x:Out (TV×aA)):TT (Out (aW×Env×aA)) (n,env,fs) :=
 (er x).bind fun r=>rfB K O n env fs r.2 (r.2[n]?)
def rfF(K:bD)(O:Orc)(v:TV)(ps:List Nat)(a b:aL)(fs:List Fr)(env:Env)(S:aA):TT (Out (aW×Env×aA)) (ps,a,b,fs,env,S) :=
 match v with
 |.fn k fst cap=>rfR K O S.length env fs (O.call k (fst++.yld S.length::cap) (S++[.lp .ready none (env.map noLb) ps a b]))
 | _ => (.fail "" : Out (aW × Env × aA))
theorem bTm(k:Nat)(c cap:Tn_)(ps:Tc_)(a b:aL):rfF K O (.fn k c cap) ps a b fs env S=rfR K O S.length env fs (O.call k (c++.yld S.length::cap) (S++[.lp .ready none (env.map noLb) ps a b])):=id rfl
theorem aWg(n:Nat)(v:TV)(S':aA):rfR K O n env fs (.ret (v,S'))=rfB K O n env fs S' (S'[n]?):=id rfl
theorem bBr(n:Nat)(e':Env)(ps:Tc_)(a b:aL):rfB K O n env fs S (some (.lp .ready none e' ps a b))=bk' K O fs .normal env (S.set n (.lp .exhausted none e' ps a b)):=by unfold bk';exact id rfl
theorem go_rangeFunc(f:aH)(ps:Tc_)(a b:aL):go' K O (.rangeFunc f ps a b) fs env S=rfF K O (bT K 0 env [] f) ps a b fs env S:=by
 unfold go' bT;simp only[go,eV,rfF,opv,dC,List.range_zero,C3];cases aX K env [] f with
 |fn k fst cap =>
  simp only[Out.bind_assoc];unfold rfR;rw[gJ];refine Out.bind_congr fun r=>?_;cases hx:r.2[S.length]? with
  |none=>rfl
  |some B =>
   cases B with
   |lp st pend e' ps' a' b'=>cases st<;>rfl
   |_=>rfl
 |_=>rfl
end
theorem bO7(cs:Tn_):noLb (.lb cs)=.hole:=id rfl
theorem bO8(v:IV):noLb (.iv v)=.iv v:=id rfl
theorem bI7(a b c:Nat):noLb (.ptr a b c)=.ptr a b c:=id rfl
theorem bI8(a b c d e f:Nat):noLb (.msl a b c d e f)=.msl a b c d e f:=id rfl
theorem bO9(f:Nat)(a b:Tn_):noLb (.fn f a b)=.fn f a b:=id rfl
theorem bI9(l:Tn_):noLb (.tup l)=.tup l:=id rfl
attribute [go_sem] bTm aWg bBr go_rangeFunc bO7 bO8 bI7 bI8 bO9 bI9
attribute [irreducible] rfR rfF
theorem go_exec{K:bD}{O:Orc}{c:aL}{env:Env}{S:aA}{r:aW×Env×aA}(h:go' K O c [] env S=.ret r):eV K O c env S=.ret r:=by
 unfold go' at h;simp only[go]at h;have a:=bFw h;cases hx:eV K O c env S with
 |ret q=>rw[hx]at a;simpa[Out.bind,back] using a
 |fail s=>rw[hx]at a;cases a
 |pick n k=>rw[hx]at a;cases a
theorem aPa{K:bD}{i:Nat}{args:Tn_}{S S1 S2:aA}{st:LoopState}{p p2 p3:Option aW}{st3:LoopState}{env env1 env2 env3 e2 e3:Env}{ps ps2 ps3:Tc_}{a b a2 b2 a3 b3:aL} (h:S[i]?=some (.lp st p env ps a b)) (d:qW env ps args=some env1) (e:go' K (lim K) a [] env1 S=.ret (.normal,env2,S1)) (c:S1[i]?=some (.lp .ready p2 e2 ps2 a2 b2)) (h3:go' K (lim K) b [] env2 (S1.set i (.lp .busy p2 e2 ps2 a2 b2))=.ret (.normal,env3,S2)) (f:S2[i]?=some (.lp st3 p3 e3 ps3 a3 b3)): (lim K).yld i args S=.ret (.iv (.bool true),S2.set i (.lp .ready none e3 ps3 a3 b3)):=by refine bMz ?_;have g:=go_exec e;have e3:=go_exec h3;simp only[iA,h,d,g,Out.bind,c,e3,f]
end Go.TM
namespace Go.TM
theorem aPb{α c:Type}{P:α->Prop}{R:c->Prop}{f:α->Out c}:∀ {x:Out α},x.All P->(∀a,P a->(f a).All R)->(x.bind f).All R
 |.ret a,h,g=>g a h
 |.fail s,h,g=>h.elim
 |.pick n k,h,g=>fun i b=>aPb (h i b) g
theorem cQ{α:Type}{R:α->Prop}:∀ {x:Out α},x.All R->(er x).All R
 |.ret a,h=>h
 |.fail s,h=>h.elim
 |.pick n k,h=>fun i b=>cQ (h i b)
theorem bE{α:Type}{R:α->Prop}{a:α}(h:R a):(Out.ret a).All R:=h
section
variable {K:bD}{O:Orc}{i:Nat}{k:Kt}{M:List (Nat×TV)}{n:Nat}{fs:List Fr}{env:Env}{S:aA}{rs:List mU}{b:aL}
theorem aBr{P R:TV×aA->Prop}{X:Out (TV×aA)}(c:X.All P)(h:∀v S,P (v,S)->(jT rs (fL K O (.ret (v,S)) i k M n fs env)).All R):(jT rs (fL K O X i k M n fs env)).All R:=by
 have e:∀Y:Out (TV×aA),Y.All P->(fin rs (opC K O Y i k M n fs env)).All R:=by
  intro Y;induction Y with
  |ret r=>intro a;have:=h r.1 r.2 a;unfold jT fL at this;exact this
  |fail s=>intro a;exact a.elim
  |pick m q ih=>intro a j b;exact ih j (a j b)
 unfold jT fL;exact e X c
theorem oX{P:TV×aA->Prop}{R:aW×Env×aA->Prop}{X:Out (TV×aA)}(d:X.All P)(h:∀v S,P (v,S)->(jK O b (fL K O (.ret (v,S)) i k M n fs env)).All R):(jK O b (fL K O X i k M n fs env)).All R:=by
 have e:∀Y:Out (TV×aA),Y.All P->(rnd O b (opC K O Y i k M n fs env)).All R:=by
  intro Y;induction Y with
  |ret r=>intro a;have:=h r.1 r.2 a;unfold jK fL at this;exact this
  |fail s=>intro a;exact a.elim
  |pick m q ih=>intro a j c;exact ih j (a j c)
 unfold jK fL;exact e X d
theorem bPa{P:TV×aA->Prop}{R:aW×Env×aA->Prop}{X:Out (TV×aA)}(c:X.All P)(h:∀v S,P (v,S)->Out.All R (fL K O (.ret (v,S)) i k M n fs env)):Out.All R (fL K O X i k M n fs env):=by
 have e:∀Y:Out (TV×aA),Y.All P->(opC K O Y i k M n fs env).All R:=by
  intro Y;induction Y with
  |ret r=>intro a;have:=h r.1 r.2 a;unfold fL at this;exact this
  |fail s=>intro a;exact a.elim
  |pick m q ih=>intro a j b;exact ih j (a j b)
 unfold fL;exact e X c
theorem dN{P:aW×Env×aA->Prop}{R:TV×aA->Prop}{X:Out (aW×Env×aA)}(c:X.All P)(h:∀j e S,P (j,e,S)->(jT rs (aFd K O (.ret (j,e,S)) fs)).All R):(jT rs (aFd K O X fs)).All R:=by
 have e:∀Y:Out (aW×Env×aA),Y.All P->(fin rs (goL K O Y fs)).All R:=by
  intro Y;induction Y with
  |ret r=>intro a;have:=h r.1 r.2.1 r.2.2 a;unfold jT aFd at this;exact this
  |fail s=>intro a;exact a.elim
  |pick m q ih=>intro a j b;exact ih j (a j b)
 unfold jT aFd;exact e X c
theorem mQ{P R:aW×Env×aA->Prop}{X:Out (aW×Env×aA)}(d:X.All P)(h:∀j e S,P (j,e,S)->(jK O b (aFd K O (.ret (j,e,S)) fs)).All R):(jK O b (aFd K O X fs)).All R:=by
 have e:∀Y:Out (aW×Env×aA),Y.All P->(rnd O b (goL K O Y fs)).All R:=by
  intro Y;induction Y with
  |ret r=>intro a;have:=h r.1 r.2.1 r.2.2 a;unfold jK aFd at this;exact this
  |fail s=>intro a;exact a.elim
  |pick m q ih=>intro a j c;exact ih j (a j c)
 unfold jK aFd;exact e X d
theorem aCv{P Q:TV×aA->Prop}{t:Bool}{S:aA}{X:Out (TV×aA)}(c:X.All P)(h:∀v S',P (v,S')->(aFe t S (.ret (v,S'))).All Q):(aFe t S X).All Q:=by
 have e:∀Y:Out (TV×aA),Y.All P->(csR t S Y).All Q:=by
  intro Y;induction Y with
  |ret r=>intro a;have:=h r.1 r.2 a;unfold aFe at this;exact this
  |fail s=>intro a;exact a.elim
  |pick m q ih=>intro a j b;exact ih j (a j b)
 unfold aFe;exact e X c
def fP(K:bD)(f:Nat)(ags:List TV)(Q:TV->Prop):Prop:=((lim K).call f ags []).All fun r=>∃v,resolve r.2 r.1=some v/\Q v
theorem fP.of{f:Nat}{a:Tn_}{v:TV}{Q:TV->Prop}(h:Pure K f a v)(c:Q v):fP K f a Q:=by obtain⟨r,S,b,d⟩:=h;unfold fP;rw[b];exact⟨v,d,c⟩
theorem fP.mono{f:Nat}{a:Tn_}{P Q:TV->Prop}(h:fP K f a P)(c:∀v,P v->Q v):fP K f a Q :=
 Out.all_mono (fun r ⟨v,b,d⟩=>⟨v,b,c v d⟩) h
theorem nS{f:Nat}{a args:Tn_}{Q:TV->Prop}{R:TV×aA->Prop}(g:fP K f a Q)(h:∀v,Q v->(jT rs (fL K (lim K) (aOp S args (some v)) i k M n fs env)).All R):(jT rs (fL K (lim K) (aOq S args ((lim K).call f a [])) i k M n fs env)).All R:=by
 have e:∀Y:Out (TV×aA),(Y.All fun r=>∃v,resolve r.2 r.1=some v/\Q v)->(fin rs (opC K (lim K) (cpR S args Y) i k M n fs env)).All R:=by
  intro Y;induction Y with
  |ret r =>intro⟨v,c,l⟩;have h3:=h v l;unfold jT fL aOp at h3;simp only[cpR,er,Out.bind,c];exact h3
  |fail s=>intro b;exact b.elim
  |pick m q ih=>intro b j d;exact ih j (b j d)
 unfold jT fL aOq;exact e _ g
theorem aIg{f:Nat}{a args:Tn_}{Q:TV->Prop}{R:aW×Env×aA->Prop}(l:fP K f a Q)(h:∀v,Q v->(jK O b (fL K (lim K) (aOp S args (some v)) i k M n fs env)).All R):(jK O b (fL K (lim K) (aOq S args ((lim K).call f a [])) i k M n fs env)).All R:=by
 have e:∀Y:Out (TV×aA),(Y.All fun r=>∃v,resolve r.2 r.1=some v/\Q v)->(rnd O b (opC K (lim K) (cpR S args Y) i k M n fs env)).All R:=by
  intro Y;induction Y with
  |ret r =>intro⟨v,d,o⟩;have h3:=h v o;unfold jK fL aOp at h3;simp only[cpR,er,Out.bind,d];exact h3
  |fail s=>intro c;exact c.elim
  |pick m q ih=>intro c j g;exact ih j (c j g)
 unfold jK fL aOq;exact e _ l
theorem fE{a:aL}{P:aW×Env×aA->Prop}(c:b=a)(h:(jK (lim K) b (go' K (lim K) a [] env S)).All P):(lp' (lim K) b env S).All P:=by
 subst c;unfold lp';refine aKv (aKw ?_);unfold jK go' at h;have d:er (jS K (lim K) b env S)=rnd (lim K) b (go K (lim K) b [] env S):=by simp only[jS,rnd,go];rw[gJ];have e:=oW.bind_back K (lim K) (eV K (lim K) b env S);rw[e];refine Out.bind_congr fun r=>?_;obtain⟨j,e,S'⟩:=r;cases j<;>rfl
 rw[d];exact h
end
end Go.TM
