/- A part of the evaluator TM, and of the proof that what it computes the model does. Condition: none. -/
import Derived.Test.YtehlgnfhkidgoaaGreatDoorTmD
set_option linter.unusedVariables false
set_option linter.unusedSimpArgs false
set_option maxRecDepth 100000
namespace Go.TM
section
variable (K:bD)(O:Orc)(i:Nat)(k:Kt)(M:List (Nat×TV))(n:Nat)(fs:List Fr)(env:Env)(S:aA)
theorem iR{o:TOp}(h:cA o=0):op1 K O o i k M n fs env S=opV K O (aU o (opv K n env M)) i k M n fs env S:=by
 have e:(fun x=>aX K env (dA M n) x)=opv K n env M:=rfl;simp only[op1,ec0 K O env _ S o h];show er ((Out.need _ (aU o (opv K n env M)) _).bind _)=_;cases aU o (opv K n env M)with
 |some v=>simp only[Out.need,Out.bind,opV];cases k<;>simp only[iI,rgR,fls,chk,wE]<;>(try split)<;>simp only[wE,er]
 |none=>rfl
theorem jZ:er (iI K O k M n fs env S)=iI K O k M n fs env S:=by cases k<;>simp only[iI,rgR,fls,chk,wE]<;>(try split)<;>simp only[wE,er]
theorem aAj{o:TOp}(h:cA o=1):op1 K O o i k M n fs env S=opV K O (aO o (opv K n env M) env S) i k M n fs env S:=by
 simp only[op1,ec1 K O env _ S o h];show er ((Out.need _ (aO o (opv K n env M) env S) _).bind _)=_;cases aO o (opv K n env M) env S with
 |some v=>simp only[Out.need,Out.bind,opV,jZ]
 |none=>rfl
theorem aKx{o:TOp}(h:cA o=2):op1 K O o i k M n fs env S=opA K O (bP o (opv K n env M) S.length) i k M n fs env S:=by
 simp only[op1,mR K O env _ S o A_];have p:∀e,aU o e=none:=by intro e;cases o<;>first|rfl|simp[cA]at h
 have r:∀e,aO o e env S=none:=by intro e;cases o<;>first|rfl|simp[cA]at h
 have s:∀e rs,gM o e rs env S=none:=by intro e rs;cases o<;>first|rfl|simp[cA]at h
 simp only[jN,iZ,p,r,s];show er ((Out.ofOpt _ (match bP o (opv K n env M) S.length with|some (v,b)=>some (v,env,S++[b])|none=>none)).bind _)=_;cases bP o (opv K n env M) S.length with
 |some v=>simp only[Out.ofOpt,Out.bind,opA,jZ]
 |none=>rfl
theorem lQ{o:TOp}(h:cA o=3)(a:o≠.bad):op1 K O o i k M n fs env S=opE K O (gM o (opv K n env M) (dA M n) env S) i k M n fs:=by
 simp only[op1,mR K O env _ S o A_];have p:∀e,aU o e=none:=by intro e;cases o<;>first|rfl|simp[cA]at h
 have r:∀e,aO o e env S=none:=by intro e;cases o<;>first|rfl|simp[cA]at h
 have s:∀e n,bP o e n=none:=by intro e n;cases o<;>first|rfl|simp[cA]at h
 simp only[jN,iZ,p,r,s];show er ((Out.ofOpt _ (gM o (opv K n env M) (dA M n) env S)).bind _)=_;cases gM o (opv K n env M) (dA M n) env S with
 |some v=>simp only[Out.ofOpt,Out.bind,opE,jZ]
 |none=>rfl
def xtr(j:Nat):TV->Option TV
 |.tup vs=>vs[j]?
 |_=>none
theorem bNu(j:Nat)(vs:Tn_):xtr j (.tup vs)=vs[j]? := id rfl
def bNv(v:TV):Option TV:=if aAz v then some v else none
theorem bGt(a b c:Nat):bNv (.ptr a b c)=some (.ptr a b c):=id rfl
def ivO(x:Option IV):Option TV:=x.map .iv
theorem bGu(x:IV):ivO (some x)=some (.iv x):=id rfl
def eqV(neg:Bool)(x:Option Bool):Option TV:=x.map fun b=>.iv (.bool (if neg then !b else b))
theorem bVn(x:Bool):eqV false (some x)=some (.iv (.bool x)):=id rfl
def aYs(x:Option Nat):Option TV:=x.map fun(m:Nat)=>.iv (.int .i64 m)
def oM(ag:Bool)(x:Option (List TV)):Option TV:=match x with
 |some cs=>gJ ag cs
 |none=>none
theorem aRo(a:Bool)(l:Tn_):oM a (some l)=gJ a l:=id rfl
theorem aRp(v:TV):gJ false [v]=some v:=id rfl
theorem aRq(l:Tn_):gJ true l=some (rY l):=id rfl
def aYt(off n:Nat)(x:Option (List TV)):Option (List TV):=match x with
 |some all=>sub all off n
 |none=>none
theorem aYu(off n:Nat)(l:Tn_):aYt off n (some l)=sub l off n:=id rfl
def ixS(es:Nat)(x i:TV):Option TV:=match eX i with
 |some n=>indexAddrS es x n
 |none=>none
theorem bNw(es:Nat)(x:TV)(a:IntKind)(m:Int):ixS es x (.iv (.int a m))=indexAddrS es x m:=id rfl
def ixA(len es:Nat)(x i:TV):Option TV:=match eX i with
 |some n=>if 0<=n/\n<len then iX x (n.toNat*es)else none
 |none=>none
theorem aV9(a es:Nat)(x:TV)(b:IntKind)(m:Int):ixA a es x (.iv (.int b m))=if 0<=m/\m<a then iX x (m.toNat*es)else none:=id rfl
def bQh(x i:TV):Option TV:=match x,eX i with
 |.iv (.str s),some n=>if 0<=n then(s[n.toNat]?).map fun b=>.iv (.int .u8 b.toNat)else none
 |_,_=>none
def oI:Option TV->Option (Option Int)
 |none=>some none
 |some x=>(eX x).map some
theorem bNx:oI none=some none:=id rfl
theorem bNy(a:IntKind)(m:Int):oI (some (.iv (.int a m)))=some (some m):=id rfl
def slV(S:aA)(sk:SK)(x:TV)(lo hi mx:Option (Option Int)):Option TV:=match lo,hi,mx with
 |some lo,some hi,some mx=>fA S sk x lo hi mx
 |_,_,_=>none
theorem bGv(a:SK)(x:TV)(b c d:Option Int):slV S a x (some b) (some c) (some d)=fA S a x b c d:=id rfl
def sI(kd:NK)(S:aA)(v:TV):Option TV:=if zS v=kd then aYs (lenOf S v)else none
theorem aWa(t:Tag)(l:Tp_):sI .sl S (.iv (.sl t l))=some (.iv (.int .i64 l.length)):=id rfl
theorem aNw(j:Nat)(l:Tp_):sI .sl S (.tsl j l)=some (.iv (.int .i64 l.length)):=id rfl
theorem bGw(a b c d e f:Nat):sI .sl S (.msl a b c d e f)=some (.iv (.int .i64 d)):=id rfl
def bsV(x:Option (List (List IV))):Option TV:=match x with
 |some l=>(oW l).map fun b=>.iv (.str b)
 |none=>none
def mkV(z:List IV)(bytes m:Nat)(l c:TV):Option (TV×aG):=match eX l,eX c with
 |some l,some c =>
  if 0<=l/\l<=c/\dY c.toNat bytes=true then
   some (.msl m 0 0 l.toNat c.toNat z.length,.cells 0 false (bE (List.replicate c.toNat (z.map .iv))))
  else none
 |_,_=>none
theorem bNz(z:Tq_)(bytes m:Nat)(a b:IntKind)(l c:Int)(h:0<=l/\l<=c/\dY c.toNat bytes=true):mkV z bytes m (.iv (.int a l)) (.iv (.int b c))=some (.msl m 0 0 l.toNat c.toNat z.length,.cells 0 false (bE (List.replicate c.toNat (z.map .iv)))):=by simp only[mkV,eX,h,X3,↓reduceIte]
def bGx(x:Option (List (List TV))):Option TV:=match x with
 |some es=>(kB es).map fun l=>.iv (.sl .full l)
 |none=>none
def aGl(m w:Nat)(x:Option (List (List TV))):Option (TV×aG):=match x with
 |some es=>some (.msl m 0 0 es.length es.length w,.cells 0 false (bE es))
 |none=>none
theorem aYv(m w:Nat)(es:List (List TV)):aGl m w (some es)=some (.msl m 0 0 es.length es.length w,.cells 0 false (bE es)):=id rfl
def mmV(mx:Bool)(l:List TV):Option TV:=match l with
 |.iv a::r=>(minmax mx a r).map .iv
 |_=>none
theorem bGy(b:Bool)(a:IV)(r:Tn_):mmV b (.iv a::r)=ivO (minmax b a r):=id rfl
def aAk(w:Nat)(env:Env)(S:aA)(a v:TV):Option (TV×Env×aA) :=
 if(cellsOf v).length=w then match setCells env S a (cellsOf v)with
   |some (env,S)=>some (undef,env,S)
   |none=>none
  else none
def aE6(x:Option (Env×aA)):Option (TV×Env×aA):=match x with
 |some (env,S)=>some (undef,env,S)
 |none=>none
theorem aNx:aE6 (some (env,S))=some (undef,env,S):=id rfl
theorem bS7{α:Type}{p:Prop}[Decidable p]{x y z:Out α}(h:p->x=z)(g:¬p->y=z):br (decide p) x y=z:=by
 by_cases hp:p;.simp only[hp,V7,vH];exact h hp
 .simp only[hp,Z9,qN];exact g hp
theorem bS8{α:Type}{a b:Int}{x y z:Out α}(h:a=b->x=z)(g:a≠b->y=z):br (a==b) x y=z:=by
 by_cases hp:a=b;.simp only[hp,beq_self_eq_true,vH];exact h hp
 .simp only[M8.2 hp,qN];exact g hp
theorem bS9{α:Type}{a b:Int}{x y z:Out α}(h:a≠b->x=z)(g:a=b->y=z):br (a != b) x y=z:=by
 by_cases hp:a=b;.simp only[hp,bne_self_eq_false,qN];exact g hp
 .simp only[Z8.2 hp,vH];exact h hp
theorem aYw(w:Nat)(a v:TV)(h:(cellsOf v).length=w):aAk w env S a v=aE6 (setCells env S a (cellsOf v)):=by simp only[aAk,h,↓reduceIte,aE6]
def bWs(env:Env)(x:Option (TV×aA)):Option (TV×Env×aA):=match x with
 |some (v,S)=>some (v,env,S)
 |none=>none
theorem aNy(x:Option (TV×aA)):opE K O (bWs env x) i k M n fs=opS K O x i k M n fs env:=by cases x<;>rfl
def aWb(f:Nat)(a b:List TV):Option TV:=if(a++b).any bY then none else some (.fn f a b)
def bVo(env:Env)(S:aA)(v:TV):Option (TV×Env×aA):=match v with
  |.it j=>match S[j]? with
   |some (.sit s pos) =>
    if pos<s.length then
     let (c,width):=Utf8.decode ⟨s.toArray⟩ pos
     some (.tup [.iv (.bool true),.iv (.int .i64 pos),.iv (.int .i32 c)],env,S.set j (.sit s (pos+width)))
    else some (.tup [.iv (.bool false)],env,S)
   |_=>none
  |_=>none
def aKy(str:Bool)(env:Env)(S:aA)(v:TV):Option (TV×Env×aA):=match str,v with
  |true,.iv (.str s)=>some (.it S.length,env,S++[.sit s 0])
  |false,.iv .nilm=>some (.it S.length,env,S++[.mit none 0 [] 0])
  |false,.map j=>match S[j]? with
   |some (.mp _ clock)=>some (.it S.length,env,S++[.mit (some j) clock [] clock])
   |_=>none
  |_,_=>none
theorem bN0(x:aH):op1 K O (.mov x) i k M n fs env S=opV K O (some (opv K n env M x)) i k M n fs env S:=iR K O i k M n fs env S (id rfl)
theorem bGz(c a b:aH):op1 K O (.pick c a b) i k M n fs env S=opP K O (opv K n env M c) (opv K n env M a) (opv K n env M b) i k M n fs env S:=by
 rw[iR K O i k M n fs env S rfl];simp only[aU,opP];cases opv K n env M c with
 |iv v =>
  cases v with
  |bool t=>cases t<;>rfl
  |_=>rfl
 |_=>rfl
theorem aYx(z:Tq_)(ps:List (Nat×Nat×aH)):op1 K O (.build z ps) i k M n fs env S=opV K O ((fill (z.map .iv) (opv K n env M) ps).map rY) i k M n fs env S:=iR K O i k M n fs env S (id rfl)
theorem aKz(x:aH):op1 K O (.nilCheck x) i k M n fs env S=opV K O (bNv (opv K n env M x)) i k M n fs env S:=iR K O i k M n fs env S (id rfl)
theorem bN1(op:BinOp)(x y:aH):op1 K O (.bin op x y) i k M n fs env S=opV K O (ivO (binOp op (opv K n env M x) (opv K n env M y))) i k M n fs env S:=iR K O i k M n fs env S (id rfl)
theorem bN2(a:Bool)(b:EK)(x y:aH):op1 K O (.eqB a b x y) i k M n fs env S=opV K O (eqV a (eqB b (opv K n env M x) (opv K n env M y))) i k M n fs env S:=iR K O i k M n fs env S (id rfl)
theorem aYy(a:Bool)(cK:List (Nat×LK))(x y:aH):op1 K O (.eqAgg a cK x y) i k M n fs env S=opV K O (ivO (eqAgg a cK (opv K n env M x) (opv K n env M y))) i k M n fs env S:=iR K O i k M n fs env S (id rfl)
theorem bTa(op:UnOp)(x:aH):op1 K O (.un op x) i k M n fs env S=opV K O (ivO (unOp op (opv K n env M x))) i k M n fs env S:=iR K O i k M n fs env S (id rfl)
theorem bG0(f:Nat)(a b:List aH):op1 K O (.mkFn f a b) i k M n fs env S=opV K O (aWb f (a.map (opv K n env M)) (b.map (opv K n env M))) i k M n fs env S:=iR K O i k M n fs env S (id rfl)
theorem aGm(off:Nat)(x:aH):op1 K O (.fieldAddr off x) i k M n fs env S=opV K O (iX (opv K n env M x) off) i k M n fs env S:=iR K O i k M n fs env S (id rfl)
theorem aYz(off w:Nat)(a:Bool)(x:aH):op1 K O (.field off w a x) i k M n fs env S=opV K O (oM a (aYt off w (iG (opv K n env M x)))) i k M n fs env S:=by
 rw[iR K O i k M n fs env S rfl];simp only[aU];cases iG (opv K n env M x)with
 |none=>rfl
 |some l=>simp only[aYt,oM];cases sub l off w<;>rfl
theorem aE7(es:Nat)(x y:aH):op1 K O (.indexAddrS es x y) i k M n fs env S=opV K O (ixS es (opv K n env M x) (opv K n env M y)) i k M n fs env S:=iR K O i k M n fs env S (id rfl)
theorem aE8(a es:Nat)(x y:aH):op1 K O (.indexAddrA a es x y) i k M n fs env S=opV K O (ixA a es (opv K n env M x) (opv K n env M y)) i k M n fs env S:=iR K O i k M n fs env S (id rfl)
theorem bTb(x y:aH):op1 K O (.indexS x y) i k M n fs env S=opV K O (bQh (opv K n env M x) (opv K n env M y)) i k M n fs env S:=iR K O i k M n fs env S (id rfl)
theorem aNz(j:Nat)(x:aH):op1 K O (.extract j x) i k M n fs env S=opV K O (xtr j (opv K n env M x)) i k M n fs env S:=iR K O i k M n fs env S (id rfl)
theorem bN3(x:aH):op1 K O (.cap x) i k M n fs env S=opV K O (aYs (aA0 (opv K n env M x))) i k M n fs env S:=iR K O i k M n fs env S (id rfl)
theorem bVp(m:Nat):op1 K O (.lenC m) i k M n fs env S=opV K O (some (.iv (.int .i64 m))) i k M n fs env S:=iR K O i k M n fs env S (id rfl)
theorem aRr(a:Bool)(xs:List aH):op1 K O (.minmax a xs) i k M n fs env S=opV K O (mmV a (xs.map (opv K n env M))) i k M n fs env S:=iR K O i k M n fs env S (id rfl)
theorem aY0(a:aH):op1 K O (.load1 a) i k M n fs env S=opV K O (oM false (bQ env S (opv K n env M a) 1)) i k M n fs env S:=aAj K O i k M n fs env S (id rfl)
theorem aY1(w:Nat)(a:aH):op1 K O (.loadN w a) i k M n fs env S=opV K O (oM true (bQ env S (opv K n env M a) w)) i k M n fs env S:=aAj K O i k M n fs env S (id rfl)
theorem aY2(d:SK)(x:aH)(a b c:Option aH):op1 K O (.slice d x a b c) i k M n fs env S=opV K O (slV S d (opv K n env M x) (oI (a.map (opv K n env M))) (oI (b.map (opv K n env M))) (oI (c.map (opv K n env M)))) i k M n fs env S:=by rw[aAj K O i k M n fs env S rfl];simp only[aO,slV];cases a<;>cases b<;>cases c<;>rfl
theorem aRs(kk:KK)(z:IV)(a:Bool)(m y:aH):op1 K O (.lookup kk z a m y) i k M n fs env S=opV K O (aO (.lookup kk z a m y) (opv K n env M) env S) i k M n fs env S:=aAj K O i k M n fs env S (id rfl)
theorem aRt(x:aH):op1 K O (.entryM x) i k M n fs env S=opV K O (aO (.entryM x) (opv K n env M) env S) i k M n fs env S:=aAj K O i k M n fs env S (id rfl)
theorem bN4(a:NK)(x:aH):op1 K O (.len a x) i k M n fs env S=opV K O (sI a S (opv K n env M x)) i k M n fs env S:=aAj K O i k M n fs env S (id rfl)
theorem yY(c:CK)(a:c≠.bytesStr)(x:aH):op1 K O (.conv c x) i k M n fs env S=opV K O (ivO (dB c (opv K n env M x))) i k M n fs env S:=by
 simp only[op1,ec4];show er ((Out.need _ (match(dB c (opv K n env M x)).map TV.iv with|some v=>some v|none=>aO (.conv c x) (opv K n env M) env S) _).bind _)=_;cases h:dB c (opv K n env M x)with
 |some v=>simp only[Option.map,Out.need,Out.bind,ivO,opV,jZ]
 |none =>
  have:aO (.conv c x) (opv K n env M) env S=none:=by cases c<;>first|rfl|exact absurd rfl a
  simp only[this,Option.map,Out.need,Out.bind,ivO,opV,er]
theorem aY3(a:IntKind)(x:aH):op1 K O (.conv (.toInt a) x) i k M n fs env S=opV K O (ivO (dB (.toInt a) (opv K n env M x))) i k M n fs env S:=yY K O i k M n fs env S _ B_ x
theorem bTc(x:aH):op1 K O (.conv .intStr x) i k M n fs env S=opV K O (ivO (dB .intStr (opv K n env M x))) i k M n fs env S:=yY K O i k M n fs env S _ B_ x
theorem bTd(x:aH):op1 K O (.conv .strStr x) i k M n fs env S=opV K O (ivO (dB .strStr (opv K n env M x))) i k M n fs env S:=yY K O i k M n fs env S _ B_ x
theorem bN5(x:aH):op1 K O (.conv .strBytes x) i k M n fs env S=opV K O (ivO (dB .strBytes (opv K n env M x))) i k M n fs env S:=yY K O i k M n fs env S _ B_ x
theorem bN6(x:aH):op1 K O (.conv .bytesStr x) i k M n fs env S=opV K O (bsV (cH S (opv K n env M x))) i k M n fs env S:=by
 simp only[op1,ec4];have a:dB .bytesStr (aX K env (dA M n) x)=none:=by
  unfold dB;cases aX K env (dA M n) x with
  |iv v=>cases v<;>rfl
  |_=>rfl
 simp only[a,Option.map];show er ((Out.need _ (bsV (cH S (opv K n env M x))) _).bind _)=_;cases bsV (cH S (opv K n env M x))with
 |some v=>simp only[Out.need,Out.bind,opV,jZ]
 |none=>rfl
def aN0(w:Nat)(x:Option (List (List IV)))(es:Option (List (List TV)))(i:Nat)(k:Kt)(M:List (Nat×TV))(n:Nat)(fs:List Fr)(env:Env)(S:aA):Out (aV×Env×aA) :=
 match x with
 |some l=>opV K O (some (.iv (.sl .full l))) i k M n fs env S
 |none=>opA K O (aGl S.length w es) i k M n fs env S
@[congr] theorem litQ_congr (w:Nat) {x x':Option (List (List IV))} (h:x=x') {es es':Option (List (List TV))} (h2:es=es'):aN0 K O w x es i k M n fs env S=aN0 K O w x' es' i k M n fs env S:=by rw[h,h2]
theorem aY4(w:Nat)(l:Tp_)(es:Option (List (List TV))):aN0 K O w (some l) es i k M n fs env S=iI K O k ((i,.iv (.sl .full l))::M) n fs env S:=id rfl
theorem aY5(w:Nat)(es:Option (List (List TV))):aN0 K O w none es i k M n fs env S=opA K O (aGl S.length w es) i k M n fs env S:=id rfl
def bN7(x:Option (List (List TV))):Option (List (List IV)):=match x with
 |some es=>kB es
 |none=>none
theorem aY6(l:List (List TV)):bN7 (some l)=kB l:=id rfl
theorem bN8(z:Tq_)(b:Nat)(ps:List (Nat×aH)):op1 K O (.lit false z b ps) i k M n fs env S=aN0 K O z.length (bN7 (dX (List.replicate b (z.map .iv)) z.length (opv K n env M) ps)) (dX (List.replicate b (z.map .iv)) z.length (opv K n env M) ps) i k M n fs env S:=by
 simp only[op1,mR K O env _ S _ (show cA (.lit false z b ps)≠5 by simp[cA])];have p:aU (.lit false z b ps) (aX K env (dA M n))=bGx (dX (List.replicate b (z.map .iv)) z.length (opv K n env M) ps):=rfl;have r:aO (.lit false z b ps) (aX K env (dA M n)) env S=none:=rfl;have a:bP (.lit false z b ps) (aX K env (dA M n)) S.length=aGl S.length z.length (dX (List.replicate b (z.map .iv)) z.length (opv K n env M) ps):=rfl;have s:gM (.lit false z b ps) (aX K env (dA M n)) (dA M n) env S=none:=rfl;simp only[jN,iZ,p,r,a,s];cases dX (List.replicate b (z.map .iv)) z.length (opv K n env M) ps with
 |none=>rfl
 |some es =>
  simp only[bGx,bN7];cases kB es with
  |some l=>simp only[Option.map,Out.ofOpt,Out.bind,aN0,opV,jZ]
  |none=>simp only[Option.map,Out.ofOpt,Out.bind,aN0,aGl,opA,jZ]
theorem bG1(z:Tq_)(b:Nat)(ps:List (Nat×aH)):op1 K O (.lit true z b ps) i k M n fs env S=opA K O (aGl S.length z.length (dX (List.replicate b (z.map .iv)) z.length (opv K n env M) ps)) i k M n fs env S:=by
 simp only[op1,mR K O env _ S _ (show cA (.lit true z b ps)≠5 by simp[cA])];have p:aU (.lit true z b ps) (aX K env (dA M n))=none:=rfl;have r:aO (.lit true z b ps) (aX K env (dA M n)) env S=none:=rfl;have a:bP (.lit true z b ps) (aX K env (dA M n)) S.length=aGl S.length z.length (dX (List.replicate b (z.map .iv)) z.length (opv K n env M) ps):=rfl;have s:gM (.lit true z b ps) (aX K env (dA M n)) (dA M n) env S=none:=rfl;simp only[jN,iZ,p,r,a,s];cases aGl S.length z.length (dX (List.replicate b (z.map .iv)) z.length (opv K n env M) ps)with
 |some v=>simp only[Out.ofOpt,Out.bind,opA,jZ]
 |none=>rfl
theorem aRu(t:Nat)(z:Tq_):op1 K O (.allocH t z) i k M n fs env S=opS K O (some (.ptr S.length t 0,S++[.cells t false (z.map .iv)])) i k M n fs env:=aKx K O i k M n fs env S (id rfl)
theorem aY7:op1 K O .mkMap i k M n fs env S=opS K O (some (.map S.length,S++[.mp [] 0])) i k M n fs env:=aKx K O i k M n fs env S (id rfl)
theorem aN1(z:Tq_)(bytes:Nat)(l c:aH):op1 K O (.mkSlice z bytes l c) i k M n fs env S=opA K O (mkV z bytes S.length (opv K n env M l) (opv K n env M c)) i k M n fs env S:=aKx K O i k M n fs env S (id rfl)
def bTe(t m:Nat)(v:TV):Option (TV×aG):=if(cellsOf v).any bH then none else some (.ptr m t 0,.cells t false (cellsOf v))
theorem bG2(t:Nat)(x:aH):op1 K O (.boxH t x) i k M n fs env S=opA K O (bTe t S.length (opv K n env M x)) i k M n fs env S:=aKx K O i k M n fs env S (id rfl)
def aN2(j:Nat):List (Nat×TV)->Bool
 |[]=>true
 |(_,v)::M=>!(qJ j v)&&aN2 j M
theorem aN3{j:Nat}:∀ {M:To_},aN2 j M=true->∀m,qJ j (reg M m)=false
 |[],_,m=>rfl
 |(a,v)::M,h,m=>by
  simp only[aN2,O_,D5]at h;simp only[reg];split;.exact h.1
  .exact aN3 h.2 m
theorem aH6{j:Nat}{M:To_}(h:aN2 j M=true):(dA M n).any (qJ j)=false:=by rw[q_];intro x a;simp only[dA,r_]at a;obtain⟨m,_,rfl⟩:=a;simp[aN3 h m]
def alB(c:Bool)(x y:Out (aV×Env×aA)):Out (aV×Env×aA):=bif c then x else y
@[congr] theorem alB_congr {c c':Bool} (h:c=c') (x y:Out (aV×Env×aA)):alB c x y=alB c' x y:=by rw[h]
theorem aE9(x y:Out (aV×Env×aA)):alB true x y=x:=id rfl
theorem aN4(j:Nat)(z:Tq_)(h:aN2 j M=true)(a:j<env.length):op1 K O (.allocL j z) i k M n fs env S=opE K O (some (.lp j 0,env.set j (.lb (z.map .iv)),S)) i k M n fs:=by rw[lQ K O i k M n fs env S (id rfl) B_];simp only[gM,aH6 n h,a,V7,E4,Bool.or_self,Y_,↓reduceIte]
theorem aY8(j:Nat)(x:aH)(h:aN2 j M=true)(a:j<env.length):op1 K O (.boxL j x) i k M n fs env S=opE K O (if(cellsOf (opv K n env M x)).any bH then none else some (.lp j 0,env.set j (.lb (cellsOf (opv K n env M x))),S)) i k M n fs:=by rw[lQ K O i k M n fs env S (id rfl) B_];simp only[gM,aH6 n h,a,V7,E4,O5]
def okL(j:Nat)(M:List (Nat×TV))(env:Env):Bool:=aN2 j M&&decide (j<env.length)
theorem aRv(j:Nat)(z:Tq_):op1 K O (.allocL j z) i k M n fs env S=alB (okL j M env) (opE K O (some (.lp j 0,env.set j (.lb (z.map .iv)),S)) i k M n fs) (op1 K O (.allocL j z) i k M n fs env S):=by
 cases h:okL j M env with
 |false=>rfl
 |true =>simp only[okL,O_,p_]at h;rw[aE9,aN4 K O i k M n fs env S j z h.1 h.2]
theorem bG3(j:Nat)(x:aH):op1 K O (.boxL j x) i k M n fs env S=alB (okL j M env) (opE K O (if(cellsOf (opv K n env M x)).any bH then none else some (.lp j 0,env.set j (.lb (cellsOf (opv K n env M x))),S)) i k M n fs) (op1 K O (.boxL j x) i k M n fs env S):=by
 cases h:okL j M env with
 |false=>rfl
 |true =>simp only[okL,O_,p_]at h;rw[aE9,aY8 K O i k M n fs env S j x h.1 h.2]
theorem aY9(w:Nat)(a v:aH):op1 K O (.store w a v) i k M n fs env S=opE K O (aAk w env S (opv K n env M a) (opv K n env M v)) i k M n fs:=lQ K O i k M n fs env S rfl B_
theorem aRw(kk:KK)(m y x:aH):op1 K O (.update kk m y x) i k M n fs env S=opE K O (gM (.update kk m y x) (opv K n env M) (dA M n) env S) i k M n fs:=lQ K O i k M n fs env S rfl B_
theorem aZa(a:Bool)(x:aH):op1 K O (.range a x) i k M n fs env S=opE K O (aKy a env S (opv K n env M x)) i k M n fs:=lQ K O i k M n fs env S rfl B_
theorem bTy(x:aH):op1 K O (.nextS x) i k M n fs env S=opE K O (bVo env S (opv K n env M x)) i k M n fs:=lQ K O i k M n fs env S rfl B_
theorem aRx(mu:Bool)(es bytes el:Nat)(s x:aH):op1 K O (.append mu es bytes el s x) i k M n fs env S=opS K O (bA mu es bytes el S (opv K n env M s) (opv K n env M x)) i k M n fs env:=by rw[lQ K O i k M n fs env S rfl B_,<-aNy];rfl
theorem bVq(es:Nat)(d s:aH):op1 K O (.copy es d s) i k M n fs env S=opS K O (aJ5 es S (opv K n env M d) (opv K n env M s)) i k M n fs env:=by rw[lQ K O i k M n fs env S rfl B_,<-aNy];rfl
def cpV(S:aA)(args:List TV)(v:Option TV):Out (TV×aA) :=
 match v with
 | none => .fail ""
 |some v =>
  if args.any mI&&!(eY v)then
   match bW S args with
   |some S=>.ret (v,S)
   | none => .fail ""
  else .ret (v,S)
def cpR(S:aA)(args:List TV)(x:Out (TV×aA)):Out (TV×aA):=(er x).bind fun r=>cpV S args (resolve r.2 r.1)
def cpA(S:aA)(args:List TV)(f:Nat)(ags:Option (List TV)):Out (TV×aA) :=
 match ags with
 | none => .fail ""
 |some ags=>cpR S args (O.call f ags [])
@[congr] theorem cpV_congr (args:List TV) {v v':Option TV} (h:v=v'):cpV S args v=cpV S args v':=by rw[h]
@[congr] theorem cpR_congr (args:List TV) {v v':Out (TV×aA)} (h:v=v'):cpR S args v=cpR S args v':=by rw[h]
@[congr] theorem cpA_congr (args:List TV) (f:Nat) {v v':Option (List TV)} (h:v=v'):cpA O S args f v=cpA O S args f v':=by rw[h]
theorem bG4(args a:Tn_)(f:Nat):cpA O S args f (some a)=cpR S args (O.call f a []):=id rfl
theorem bN9(args:Tn_)(v:TV)(S':aA):cpR S args (.ret (v,S'))=cpV S args (resolve S' v):=id rfl
def cpB(c:Bool)(S:aA)(args:List TV)(v:TV):Out (TV×aA) :=
 if c then match bW S args with
   |some S=>.ret (v,S)
   | none => .fail ""
  else .ret (v,S)
@[congr] theorem cpB_congr {c c':Bool} (h:c=c') (args:List TV) (v:TV):cpB c S args v=cpB c' S args v:=by rw[h]
theorem bG5(args:Tn_)(v:TV):cpV S args (some v)=cpB (args.any mI&&!(eY v)) S args v:=id rfl
theorem aZb(args:Tn_)(v:TV):cpB false S args v=.ret (v,S):=id rfl
def bOa(v:TV)(x:Option aA):Out (TV×aA):=match x with
 |some S=>.ret (v,S)
 | none => .fail ""
theorem aZc(v:TV):bOa v (some S)=.ret (v,S):=id rfl
theorem bG6(args:Tn_)(v:TV):cpB true S args v=bOa v (bW S args):=by simp only[cpB,↓reduceIte,bOa]
theorem aBs(f:Nat)(args:Tn_):er (eZ O f args S)=cpA O S args f (cG S args):=by
 unfold eZ cpA;cases cG S args with
 |none=>rfl
 |some ags =>
  simp only[cpR,gF];refine Out.bind_congr fun r=>?_;cases resolve r.2 r.1 with
  |none=>rfl
  |some v =>
   simp only[cpV];split;.cases bW S args<;>rfl
   .rfl
theorem aFa(x:Out (TV×aA)):er (x.bind fun r=>iI K O k ((i,r.1)::M) n fs env r.2)=opC K O (er x) i k M n fs env:=by rw[gF];simp only[opC,jZ]
theorem aZd(t:Bool)(f:Nat)(args:List aH):op1 K O (.call true t f args) i k M n fs env S=opC K O (cpA O S (args.map (opv K n env M)) f (cG S (args.map (opv K n env M)))) i k M n fs env:=by rw[<-aBs,<-aFa];simp only[op1,bV,Out.bind_assoc,Out.bind,↓reduceIte];rfl
def csR(t:Bool)(S:aA)(x:Out (TV×aA)):Out (TV×aA):=(er x).bind fun r =>
 if t then match zT r.1 r.2 with
  |some q=>.ret q
  | none => .fail ""
 else .ret r
def csA (t : Bool) (S : aA) (f : Nat) (lp : Bool) (args : List TV) : Out (TV × aA) := if lp then .fail "" else csR t S (O.call f args S)
@[congr] theorem csR_congr (t:Bool) {v v':Out (TV×aA)} (h:v=v'):csR t S v=csR t S v':=by rw[h]
theorem bTf(t:Bool)(f:Nat)(args:Tn_):csA O t S f false args=csR t S (O.call f args S):=id rfl
theorem bVr(v:TV)(S':aA):csR false S (.ret (v,S'))=.ret (v,S'):=id rfl
def trV(_v:TV)(x:Option (TV×aA)):Out (TV×aA):=match x with
 |some q=>.ret q
 | none => .fail ""
theorem bG7(v:TV)(q:TV×aA):trV v (some q)=.ret q:=id rfl
theorem bVs(v:TV)(S':aA):csR true S (.ret (v,S'))=trV v (zT v S'):=by simp only[csR,er,Out.bind,↓reduceIte,trV]
theorem aH7(t:Bool)(f:Nat)(args:Tn_):er (jO O t f args S)=csA O t S f (args.any bY) args:=by
 unfold jO csA;split;.rfl
 .simp only[csR,gF];refine Out.bind_congr fun r=>?_;cases t
  .rfl
  .simp only[↓reduceIte];cases zT r.1 r.2<;>rfl
theorem aZe(t:Bool)(f:Nat)(args:List aH):op1 K O (.call false t f args) i k M n fs env S=opC K O (csA O t S f ((args.map (opv K n env M)).any bY) (args.map (opv K n env M))) i k M n fs env:=by rw[<-aH7,<-aFa];simp only[op1,bV,Out.bind_assoc,Out.bind,Y_,↓reduceIte];rfl
def prV(S:aA)(p:Option aF9)(args:List TV):Option (TV×aA):=match p with
 |some p=>if args.any bY then none else p args S
 |none=>none
theorem bG8(f:Nat)(args:List aH):op1 K O (.prim f args) i k M n fs env S=opS K O (prV S (K.prim f) (args.map (opv K n env M))) i k M n fs env:=by
 simp only[op1,bV];show er (Out.bind (match K.prim f with | some p => if (args.map (opv K n env M)).any bY = true then .fail "prim: a local's address" else Out.bind (Out.ofOpt "prim" (p (args.map (opv K n env M)) S)) fun r => .ret (r.1, env, r.2) | none => .fail "prim") _) = _;cases K.prim f with
 |none=>rfl
 |some p =>
  simp only[prV];split;.rfl
  .cases p (args.map (opv K n env M)) S with
   |none=>rfl
   |some q=>simp only[Out.ofOpt,Out.bind,opS,jZ]
def fin(rs:List mW)(x:Out (aV×Env×aA)):Out (TV×aA) :=
 x.bind fun r=>match r.1 with
  | .exit _ => .fail ""
  |_=>match kV rs r.2.1 r.2.2 with
   |some v=>.ret (v,r.2.2)
   | none => .fail ""
@[congr] theorem fin_congr (rs:List mW) {x x':Out (aV×Env×aA)} (h:x=x'):fin rs x=fin rs x':=by rw[h]
def aZf(S:aA)(v:Option TV):Out (TV×aA):=match v with
 |some v=>.ret (v,S)
 | none => .fail ""
theorem aZg(v:TV):aZf S (some v)=.ret (v,S):=id rfl
theorem bOb(rs:List mW):fin rs (.ret (.ret,env,S))=aZf S (kV rs env S):=by simp only[fin,Out.bind,aZf]
theorem aRy(rs:List mW):fin rs (.ret (.normal,env,S))=aZf S (kV rs env S):=by simp only[fin,Out.bind,aZf]
theorem bTg(rs:List mW)(B:Bool)(x y:Out (aV×Env×aA)):fin rs (br B x y)=br B (fin rs x) (fin rs y):=by cases B<;>rfl
theorem pB(f:Nat)(args:Tn_)(fn:aS)(c:K.funcs f=some fn)(b:args.length=fn.nparams):er (eJ K O f args S)=fin fn.results (go K O fn.body [] (args++List.replicate (fn.nlocs-fn.nparams) undef) S):=by
 simp only[eJ,c,b,ne_eq,C8,↓reduceIte,go,fin]
 rw[gF]
 have e:(eS K O fn.body (args++List.replicate (fn.nlocs-fn.nparams) undef) S).bind (fun r=>back K O [] r.1 r.2.1 r.2.2)=eS K O fn.body (args++List.replicate (fn.nlocs-fn.nparams) undef) S:=by
  cases eS K O fn.body (args++List.replicate (fn.nlocs-fn.nparams) undef) S with
  |ret a=>rfl
  |fail s=>rfl
  |pick n k=>simp only[Out.bind];congr;funext i;exact bind_back (k i)
 rw[e]
 refine Out.bind_congr fun r=>?_
 obtain⟨j,e,S'⟩:=r
 cases j with
 |exit i=>rfl
 |_=>simp only;cases kV fn.results e S'<;>rfl
where
 bind_back:∀x:Out (aV×Env×aA),(x.bind fun r=>back K O [] r.1 r.2.1 r.2.2)=x
  |.ret a=>rfl
  |.fail s=>rfl
  |.pick n k=>by simp only[Out.bind];congr;funext i;exact bind_back (k i)
theorem bG9{f:Nat}{args:Tn_}{fn:aS}{r:TV×aA}(b:K.funcs f=some fn)(a:args.length=fn.nparams)(h:fin fn.results (go K (lim K) fn.body [] (args++List.replicate (fn.nlocs-fn.nparams) undef) S)=.ret r):(lim K).call f args S=.ret r :=
 bF2 (bF4 ((pB K (lim K) S f args fn b a).trans h))
theorem bHa{f:Nat}{args:Tn_}{fn:aS}{Q:TV×aA->Prop}(b:K.funcs f=some fn)(a:args.length=fn.nparams)(h:(fin fn.results (go K (lim K) fn.body [] (args++List.replicate (fn.nlocs-fn.nparams) undef) S)).All Q):((lim K).call f args S).All Q :=
 aKs (aKu (by rw[pB K (lim K) S f args fn b a];exact h))
def rnd(b:aL)(x:Out (aV×Env×aA)):Out (aV×Env×aA) :=
 x.bind fun r=>match r.1 with
  |.normal=>er (lp O b r.2.1 r.2.2)
  |j=>.ret (j,r.2.1,r.2.2)
@[congr] theorem rnd_congr (b:aL) {x x':Out (aV×Env×aA)} (h:x=x'):rnd O b x=rnd O b x':=by rw[h]
theorem aRz(b:aL):rnd O b (.ret (.normal,env,S))=er (lp O b env S):=id rfl
theorem bOc(b:aL):rnd O b (.ret (.ret,env,S))=.ret (.ret,env,S):=id rfl
theorem bHb(b:aL)(id:Nat):rnd O b (.ret (.exit id,env,S))=.ret (.exit id,env,S):=by simp only[rnd,Out.bind]
theorem bTh(b:aL)(B:Bool)(x y:Out (aV×Env×aA)):rnd O b (br B x y)=br B (rnd O b x) (rnd O b y):=by cases B<;>rfl
theorem bHc{b:aL}{r:aV×Env×aA}(h:rnd (lim K) b (go K (lim K) b [] env S)=.ret r):lp (lim K) b env S=.ret r:=by refine bF3 (bF4 ?_);rw[<-h];simp only[jV,rnd,go];rw[gF];have e:=pB.bind_back K (lim K) (eS K (lim K) b env S);rw[e];refine Out.bind_congr fun r=>?_;obtain⟨j,e,S'⟩:=r;cases j<;>rfl
end
end Go.TM
namespace Go.TM
section
variable (K:bD)(O:Orc)(i:Nat)(k:Kt)(M:List (Nat×TV))(n:Nat)(fs:List Fr)(env:Env)(S:aA)
def flM(o:TOp):Option TV:=iZ K o env (dA M n) S
theorem lC{o:TOp}(h:cA o=0):flM K M n env S o=aU o (opv K n env M):=by
 have r:∀e,aO o e env S=none:=by intro e;cases o<;>first|rfl|simp[cA]at h
 simp only[flM,iZ,r];show(match aU o (opv K n env M)with|some v=>some v|none=>none)=_;cases aU o (opv K n env M)<;>rfl
theorem aN5{o:TOp}(h:cA o=1):flM K M n env S o=aO o (opv K n env M) env S:=by
 have p:∀e,aU o e=none:=by intro e;cases o<;>first|rfl|simp[cA]at h
 simp only[flM,iZ,p];rfl
theorem aCr(c:CK)(a:c≠.bytesStr)(x:aH):flM K M n env S (.conv c x)=ivO (dB c (opv K n env M x)):=by
 have r:aO (.conv c x) (opv K n env M) env S=none:=by cases c<;>first|rfl|exact absurd rfl a
 show(match((dB c (opv K n env M x)).map TV.iv)with|some v=>some v|none=>aO (.conv c x) (opv K n env M) env S)=_;rw[r];cases dB c (opv K n env M x)<;>rfl
theorem bQi(x:aH):flM K M n env S (.conv .bytesStr x)=bsV (cH S (opv K n env M x)):=by
 have a:dB .bytesStr (opv K n env M x)=none:=by
  unfold dB;cases opv K n env M x with
  |iv v=>cases v<;>rfl
  |_=>rfl
 show(match((dB .bytesStr (opv K n env M x)).map TV.iv)with|some v=>some v|none=>aO (.conv .bytesStr x) (opv K n env M) env S)=_;rw[a];rfl
theorem bWt(z:Tq_)(a:Nat)(ps:List (Nat×aH)):flM K M n env S (.lit false z a ps)=bGx (dX (List.replicate a (z.map .iv)) z.length (opv K n env M) ps):=by have r:aO (.lit false z a ps) (opv K n env M) env S=none:=rfl;show(match bGx (dX (List.replicate a (z.map .iv)) z.length (opv K n env M) ps)with|some v=>some v|none=>none)=_;cases bGx (dX (List.replicate a (z.map .iv)) z.length (opv K n env M) ps)<;>rfl
def bVt(c a b:TV):Option TV:=match zR c with
  |some t=>some (if t then a else b)
  |none=>none
theorem bV8(c a b:aH):flM K M n env S (.pick c a b)=bVt (opv K n env M c) (opv K n env M a) (opv K n env M b):=lC K M n env S (id rfl)
theorem bWu(x:aH):flM K M n env S (.mov x)=some (opv K n env M x):=lC K M n env S (id rfl)
theorem bVu(z:Tq_)(ps:List (Nat×Nat×aH)):flM K M n env S (.build z ps)=(fill (z.map .iv) (opv K n env M) ps).map rY:=lC K M n env S (id rfl)
theorem bQj(x:aH):flM K M n env S (.nilCheck x)=bNv (opv K n env M x):=lC K M n env S (id rfl)
theorem bWv(op:BinOp)(x y:aH):flM K M n env S (.bin op x y)=ivO (binOp op (opv K n env M x) (opv K n env M y)):=lC K M n env S (id rfl)
theorem bWw(a:Bool)(b:EK)(x y:aH):flM K M n env S (.eqB a b x y)=eqV a (eqB b (opv K n env M x) (opv K n env M y)):=lC K M n env S (id rfl)
theorem bVv(a:Bool)(cK:List (Nat×LK))(x y:aH):flM K M n env S (.eqAgg a cK x y)=ivO (eqAgg a cK (opv K n env M x) (opv K n env M y)):=lC K M n env S (id rfl)
theorem bXb(op:UnOp)(x:aH):flM K M n env S (.un op x)=ivO (unOp op (opv K n env M x)):=lC K M n env S (id rfl)
theorem bV9(f:Nat)(a b:List aH):flM K M n env S (.mkFn f a b)=aWb f (a.map (opv K n env M)) (b.map (opv K n env M)):=lC K M n env S (id rfl)
theorem bOd(off:Nat)(x:aH):flM K M n env S (.fieldAddr off x)=iX (opv K n env M x) off:=lC K M n env S (id rfl)
theorem bVw(off w:Nat)(a:Bool)(x:aH):flM K M n env S (.field off w a x)=oM a (aYt off w (iG (opv K n env M x))):=by
 rw[lC K M n env S rfl];simp only[aU];cases iG (opv K n env M x)with
 |none=>rfl
 |some l=>simp only[aYt,oM];cases sub l off w<;>rfl
theorem bJw(es:Nat)(x y:aH):flM K M n env S (.indexAddrS es x y)=ixS es (opv K n env M x) (opv K n env M y):=lC K M n env S (id rfl)
theorem bJx(a es:Nat)(x y:aH):flM K M n env S (.indexAddrA a es x y)=ixA a es (opv K n env M x) (opv K n env M y):=lC K M n env S (id rfl)
theorem bTz(x y:aH):flM K M n env S (.indexS x y)=bQh (opv K n env M x) (opv K n env M y):=lC K M n env S (id rfl)
theorem bTi(j:Nat)(x:aH):flM K M n env S (.extract j x)=xtr j (opv K n env M x):=lC K M n env S (id rfl)
theorem bWx(x:aH):flM K M n env S (.cap x)=aYs (aA0 (opv K n env M x)):=lC K M n env S (id rfl)
theorem bWa(m:Nat):flM K M n env S (.lenC m)=some (.iv (.int .i64 m)):=lC K M n env S (id rfl)
theorem bT0(a:Bool)(xs:List aH):flM K M n env S (.minmax a xs)=mmV a (xs.map (opv K n env M)):=lC K M n env S (id rfl)
theorem bHd(a:aH):flM K M n env S (.load1 a)=oM false (bQ env S (opv K n env M a) 1):=aN5 K M n env S (id rfl)
theorem bHe(w:Nat)(a:aH):flM K M n env S (.loadN w a)=oM true (bQ env S (opv K n env M a) w):=aN5 K M n env S (id rfl)
theorem bVx(d:SK)(x:aH)(a b c:Option aH):flM K M n env S (.slice d x a b c)=slV S d (opv K n env M x) (oI (a.map (opv K n env M))) (oI (b.map (opv K n env M))) (oI (c.map (opv K n env M))):=by rw[aN5 K M n env S rfl];simp only[aO,slV];cases a<;>cases b<;>cases c<;>rfl
theorem bWy(a:NK)(x:aH):flM K M n env S (.len a x)=sI a S (opv K n env M x):=aN5 K M n env S (id rfl)
theorem bVy(a:IntKind)(x:aH):flM K M n env S (.conv (.toInt a) x)=ivO (dB (.toInt a) (opv K n env M x)):=aCr K M n env S _ B_ x
theorem bT1(x:aH):flM K M n env S (.conv .intStr x)=ivO (dB .intStr (opv K n env M x)):=aCr K M n env S _ B_ x
theorem bT2(x:aH):flM K M n env S (.conv .strStr x)=ivO (dB .strStr (opv K n env M x)):=aCr K M n env S _ B_ x
theorem bQk(x:aH):flM K M n env S (.conv .strBytes x)=ivO (dB .strBytes (opv K n env M x)):=aCr K M n env S _ B_ x
mutual
theorem aBt:∀(a:IV),gL a a=true
 |.bool b=>by simp[gL]
 |.int k n=>by simp[gL]
 |.str s=>by simp[gL]
 |.sl t l=>by simp[gL,wF l]
 |.agg l=>by simp[gL,nQ l]
 |.cp l=>by simp[gL,nQ l]
 |.nilp=>rfl
 |.nilm=>rfl
 |.nilf=>rfl
 |.nili=>rfl
theorem nQ:∀(l:Tq_),lZ l l=true
 |[]=>rfl
 |a::l=>by simp[lZ,aBt a,nQ l]
theorem wF:∀(l:Tp_),kR l l=true
 |[]=>rfl
 |a::l=>by simp[kR,nQ a,wF l]
end
theorem bOe(a:IV):same (.iv a) (.iv a)=true:=aBt a
theorem bHf(a b c:Nat):same (.ptr a b c) (.ptr a b c)=true:=by simp[same,aHe]
theorem bHg(a b c d e f:Nat):same (.msl a b c d e f) (.msl a b c d e f)=true:=by simp[same,aHe]
def rck(ops:List aK)(M:List (Nat×TV))(n:Nat)(env:Env)(S:aA)(c:List Nat):Bool:=nM K ops (dA M n) env S c
def rcS(v:Option TV)(w:TV):Bool:=match v with
 |some v=>same v w
 |none=>false
theorem bHh(v w:TV):rcS (some v) w=same v w:=id rfl
def rcG(g:TV)(want:Bool)(j:Nat)(M:List (Nat×TV))(n:Nat)(env:Env)(S:aA)(o:TOp):Bool:=match g with
 |.iv (.bool b)=>if b==want then rcS (flM K M n env S o) (opv K n env M (.reg j))else true
 |.tup []=>true
 |_=>false
theorem aZh(a:Bool)(j:Nat)(o:TOp):rcG K (.tup []) a j M n env S o=true:=id rfl
theorem bHi(b a:Bool)(j:Nat)(o:TOp):rcG K (.iv (.bool b)) a j M n env S o=if b==a then rcS (flM K M n env S o) (opv K n env M (.reg j))else true:=id rfl
def rcO(x:Option aK)(j:Nat)(M:List (Nat×TV))(n:Nat)(env:Env)(S:aA):Bool:=match x with
 |some ⟨o,_,none⟩=>rcS (flM K M n env S o) (opv K n env M (.reg j))
 |some ⟨o,_,some (g,want)⟩=>rcG K (opv K n env M (.reg g)) want j M n env S o
 |none=>false
theorem bHj(o:TOp)(l:Option Nat)(j:Nat):rcO K (some ⟨o,l,none⟩) j M n env S=rcS (flM K M n env S o) (opv K n env M (.reg j)):=id rfl
theorem aZi(o:TOp)(l:Option Nat)(g:Nat)(a:Bool)(j:Nat):rcO K (some ⟨o,l,some (g,a)⟩) j M n env S=rcG K (opv K n env M (.reg g)) a j M n env S o:=id rfl
theorem bOf(ops:List aK):rck K ops M n env S []=true:=id rfl
theorem bHk(ops:List aK)(j:Nat)(c:Tc_):rck K ops M n env S (j::c)=(rcO K (aAi ops j) j M n env S&&rck K ops M n env S c):=by
 simp only[rck,nM,aAi];congr 1;cases ops[j]? with
 |none=>rfl
 |some x =>
  obtain⟨o,l,g⟩:=x;cases g with
  |none =>simp only[dT,rcO];show(match flM K M n env S o with|some v=>same v (opv K n env M (.reg j))|none=>false)=_;cases flM K M n env S o<;>rfl
  |some q =>
   obtain⟨g,a⟩:=q;simp only[dT,rcO];show(match(match opv K n env M (.reg g)with | .iv (.bool b)=>some (b==a) | .tup []=>some false|_=>none)with|some true=>(match flM K M n env S o with|some v=>same v (opv K n env M (.reg j))|none=>false)|some false=>true|none=>false)=_;unfold rcG;cases opv K n env M (.reg g)with
   |iv v =>
    cases v with
    |bool b =>
     simp only;cases b==a
     .rfl
     .simp only[↓reduceIte];cases flM K M n env S o<;>rfl
    |_=>rfl
   |tup vs=>cases vs<;>rfl
   |_=>rfl
theorem bHl(ops:List aK)(ps:Tl_)(c a:Tc_):iI K O (.ph ops c a ps) M n fs env S=chk K O (rck K ops M n env S c) ops a ps M n fs env S:=id rfl
end
end Go.TM
namespace Go.TM
attribute [go_sem] bNc bF5 bNd bNe bF6 bF7 bF8 bF9 bNf bNg bGa
attribute [go_sem] aYp aYq okL aN2 qJ
attribute [go_sem] bNu bGt bGu bVn aRo aRp aRq aYu bNw aV9 bNx bNy bGv aWa aNw bGw aYv bGy aNx
attribute [go_sem] aY6
theorem go_region(K:bD)(O:Orc)(ops:List aK)(a:List Fr)(env:Env)(S:aA):go K O (.region ops) a env S=rgN K O (aB7 ops 0) ops a env S:=by rw[go_region0,bGl,aKw];rfl
def bHm(K:bD)(O:Orc)(n:Nat)(f0:List Nat)(ph:List (Nat×List Nat×List Nat))(ops:List aK)(fs:List Fr)(env:Env)(S:aA):Out (aV×Env×aA):=fls K O ops f0 ph [] n fs env S
@[congr] theorem flsN_congr (K:bD) (O:Orc) {n n':Nat} (h:n=n') (f0:List Nat) (ph:List (Nat×List Nat×List Nat)) (ops:List aK) (fs:List Fr) (env:Env) (S:aA):bHm K O n f0 ph ops fs env S=bHm K O n' f0 ph ops fs env S:=by rw[h]
theorem aWc(K:bD)(O:Orc)(n:Nat)(a:Tc_)(c:Tl_)(ops:List aK)(b:List Fr)(env:Env)(S:aA):bHm K O n a c ops b env S=fls K O ops a c [] n b env S:=id rfl
theorem go_draw(K:bD)(O:Orc)(a:Tc_)(c:Tl_)(ops:List aK)(b:List Fr)(env:Env)(S:aA):go K O (.draw a c ops) b env S=bHm K O (aB7 ops 0) a c ops b env S:=by rw[go_draw0,aWc,aKw];rfl
theorem bHn(n:Nat):aB7 [] n=n:=id rfl
theorem aZj(a:aK)(l:List aK)(n:Nat):aB7 (a::l) n=aB7 l (n+1):=id rfl
@[congr] theorem lenT_congr (l:List aK) {n n':Nat} (h:n=n'):aB7 l n=aB7 l n':=by rw[h]
theorem aZk(a:TV)(l:Tn_)(d:TV):List.getD (a::l) 0 d=a:=id rfl
theorem aZl(a:TV)(l:Tn_)(j:Nat)(d:TV):List.getD (a::l) (j+1) d=List.getD l j d:=by simp[List.getD]
attribute [go_sem] aZk aZl List.map_cons List.map_nil List.getElem?_cons_zero List.getElem?_cons_succ Option.map_some Option.map_none
theorem bOg(v:IV):bY (.iv v)=false:=id rfl
theorem bHo(a b c:Nat):bY (.ptr a b c)=false:=id rfl
theorem bHp(a b c d e f:Nat):bY (.msl a b c d e f)=false:=id rfl
theorem bHq(a:Nat)(l:Tp_):bY (.tsl a l)=false:=id rfl
theorem bHr(a:Nat):bY (.map a)=false:=id rfl
theorem bOh(f:Nat)(a b:Tn_):bY (.fn f a b)=false:=id rfl
theorem bHs(v:IV):mI (.iv v)=false:=id rfl
theorem aZm(a b c d e f:Nat):mI (.msl a b c d e f)=true:=id rfl
theorem aN6(v:IV):eY (.iv v)=iA v:=id rfl
theorem aK0(b:Bool):iA (.bool b)=true:=id rfl
theorem aN7(k:IntKind)(m:Int):iA (.int k m)=true:=id rfl
theorem aR0(a:Tag)(l:Tp_):iA (.sl a l)=false:=id rfl
theorem aGn(S:aA):cG S []=some []:=id rfl
def aFb{α:Type}:Option α->Option (List α)->Option (List α)
 |some a,some l=>some (a::l)
 |_,_=>none
theorem aFc{α:Type}(a:α)(l:List α):aFb (some a) (some l)=some (a::l):=id rfl
theorem aFd(S:aA)(v:TV)(r:Tn_):cG S (v::r)=aFb (iY S v) (cG S r):=by rw[cG];cases iY S v<;>cases cG S r<;>rfl
theorem aN8(S:aA)(v:IV):iY S (.iv v)=some (.iv v):=id rfl
theorem bOi(S:aA)(v:IV):aDy S (.iv v)=some v:=id rfl
def slO(x:Option (List (List IV))):Option IV:=match x with
 |some l=>some (.sl .no l)
 |none=>none
theorem bHt(l:Tp_):slO (some l)=some (.sl .no l):=id rfl
theorem bHu(S:aA)(a b c d e f:Nat):aDy S (.msl a b c d e f)=slO (cH S (.msl a b c d e f)):=id rfl
theorem bHv(S:aA):xU S []=some []:=id rfl
theorem aZn(S:aA)(v:TV)(r:Tn_):xU S (v::r)=aFb (aDy S v) (xU S r):=by rw[xU];cases aDy S v<;>cases xU S r<;>rfl
theorem bOj(S:aA)(v:IV):wO S (.iv v)=some v:=id rfl
theorem bHw(S:aA)(c:Tn_):wO S (.agg c)=(xU S c).map .agg:=id rfl
theorem aZo(S:aA):vQ S []=some []:=id rfl
def ivC:Option IV->Option (List TV)->Option (List TV)
 |some a,some l=>some (.iv a::l)
 |_,_=>none
theorem bHx(a:IV)(l:Tn_):ivC (some a) (some l)=some (.iv a::l):=id rfl
theorem aR1(S:aA)(v:TV)(r:Tn_):vQ S (v::r)=ivC (wO S v) (vQ S r):=id rfl
theorem aBu(S:aA)(c:Tn_):resolve S (.tup c)=(vQ S c).map .tup:=id rfl
theorem oN(S:aA)(v:IV):resolve S (.iv v)=some (.iv v):=id rfl
theorem aBv(S:aA)(a b c d e f:Nat):resolve S (.msl a b c d e f)=ivO (slO (cH S (.msl a b c d e f))):=id rfl
def aR2:TV->Option TV
 |.lb _=>none
 |.lp ..=>none
 |v=>some v
theorem bOk(v:IV):aR2 (.iv v)=some (.iv v):=id rfl
theorem bHy(a b c:Nat):aR2 (.ptr a b c)=some (.ptr a b c):=id rfl
theorem bHz(a b c d e f:Nat):aR2 (.msl a b c d e f)=some (.msl a b c d e f):=id rfl
theorem bH0(a:Nat)(l:Tp_):aR2 (.tsl a l)=some (.tsl a l):=id rfl
theorem bOl(f:Nat)(a b:Tn_):aR2 (.fn f a b)=some (.fn f a b):=id rfl
theorem aK1(env:Env)(S:aA)(j:Nat):jT env S (.loc j)=aR2 (env.getD j .hole):=by simp only[jT];cases env.getD j .hole<;>rfl
theorem aGo(env:Env)(S:aA)(j m:Nat)(a:Bool):jT env S (.cell j m a)=oM a (bQ env S (mZ j (env.getD j .hole)) m):=by simp only[jT,aX];cases env.getD j .hole<;>rfl
theorem aGp(env:Env)(S:aA):fJ env S []=some []:=id rfl
theorem aFe(env:Env)(S:aA)(r:mW)(rs:List mW):fJ env S (r::rs)=aFb (jT env S r) (fJ env S rs):=by rw[fJ];cases jT env S r<;>cases fJ env S rs<;>rfl
def bOm:Option (List TV)->Option TV
 |some [v]=>some v
 |some vs=>some (.tup vs)
 |none=>none
theorem bH1(v:TV):bOm (some [v])=some v:=id rfl
theorem bH2(v w:TV)(l:Tn_):bOm (some (v::w::l))=some (.tup (v::w::l)):=id rfl
theorem bH3:bOm (some [])=some (.tup []):=id rfl
theorem aZp(rs:List mW)(env:Env)(S:aA):kV rs env S=bOm (fJ env S rs):=by simp only[kV];cases fJ env S rs with|none=>rfl|some l=>cases l with|nil=>rfl|cons a r=>cases r<;>rfl
theorem aZq(k:IntKind)(a b:Int):TM.binOp .add (.iv (.int k a)) (.iv (.int k b))=some (.int k (k.wrap (a+b))):=by simp[TM.binOp,jS]
theorem aH8(k:IntKind)(a b:Int):TM.binOp .sub (.iv (.int k a)) (.iv (.int k b))=some (.int k (k.wrap (a-b))):=by simp[TM.binOp,jS]
theorem aH9(k:IntKind)(a b:Int):TM.binOp .mul (.iv (.int k a)) (.iv (.int k b))=some (.int k (k.wrap (a*b))):=by simp[TM.binOp,jS]
theorem aZr(k:IntKind)(a b:Int):TM.binOp .quo (.iv (.int k a)) (.iv (.int k b))=if b=0 then none else some (.int k (k.wrap (a.tdiv b))):=by simp[TM.binOp,jS]
theorem aZs(k:IntKind)(a b:Int):TM.binOp .rem (.iv (.int k a)) (.iv (.int k b))=if b=0 then none else some (.int k (a.tmod b)):=by simp[TM.binOp,jS]
theorem aZt(k:IntKind)(a b:Int):TM.binOp .eql (.iv (.int k a)) (.iv (.int k b))=some (.bool (a==b)):=by simp[TM.binOp,jS]
theorem aZu(k:IntKind)(a b:Int):TM.binOp .neq (.iv (.int k a)) (.iv (.int k b))=some (.bool (a != b)):=by simp[TM.binOp,jS]
theorem aZv(k:IntKind)(a b:Int):TM.binOp .lss (.iv (.int k a)) (.iv (.int k b))=some (.bool (decide (a<b))):=by simp[TM.binOp,jS]
theorem aZw(k:IntKind)(a b:Int):TM.binOp .leq (.iv (.int k a)) (.iv (.int k b))=some (.bool (decide (a<=b))):=by simp[TM.binOp,jS]
theorem aZx(k:IntKind)(a b:Int):TM.binOp .gtr (.iv (.int k a)) (.iv (.int k b))=some (.bool (decide (b<a))):=by simp[TM.binOp,jS]
theorem aZy(k:IntKind)(a b:Int):TM.binOp .geq (.iv (.int k a)) (.iv (.int k b))=some (.bool (decide (b<=a))):=by simp[TM.binOp,jS]
def bVz(w:Nat)(a b:Int):Int:=((BitVec.ofInt w a &&& BitVec.ofInt w b).toNat:Nat)
def bOr(w:Nat)(a b:Int):Int:=((BitVec.ofInt w a ||| BitVec.ofInt w b).toNat:Nat)
def aCs(w:Nat)(a b:Int):Int:=((BitVec.ofInt w a &&& ~~~ BitVec.ofInt w b).toNat:Nat)
theorem aAl(k:IntKind)(a b:Int):TM.binOp .and (.iv (.int k a)) (.iv (.int k b))=some (.int k (k.wrap (bVz k.bits a b))):=by simp[TM.binOp,jS,bVz]
theorem bH4(k:IntKind)(a b:Int):TM.binOp .or (.iv (.int k a)) (.iv (.int k b))=some (.int k (k.wrap (bOr k.bits a b))):=by simp[TM.binOp,jS,bOr]
theorem aK2(k:IntKind)(a b:Int):TM.binOp .andNot (.iv (.int k a)) (.iv (.int k b))=some (.int k (k.wrap (aCs k.bits a b))):=by simp[TM.binOp,jS,aCs]
theorem aIa(k k':IntKind)(a b:Int):TM.binOp .shl (.iv (.int k a)) (.iv (.int k' b))=if b<0 then none else some (.int k (k.wrap (a*2 ^ (if b.toNat<=k.bits then b.toNat else k.bits)))):=by simp[TM.binOp,xT,Nat.min_def]
theorem aIb(k k':IntKind)(a b:Int):TM.binOp .shr (.iv (.int k a)) (.iv (.int k' b))=if b<0 then none else some (.int k (a.fdiv (2 ^ (if b.toNat<=k.bits then b.toNat else k.bits)))):=by simp[TM.binOp,xT,Nat.min_def]
theorem aN9(k:IntKind)(a:Int):TM.unOp .neg (.iv (.int k a))=some (.int k (k.wrap (0-a))):=id rfl
theorem bH5(b:Bool):TM.unOp .not (.iv (.bool b))=some (.bool (!b)):=id rfl
theorem aK3(k k':IntKind)(a:Int):dB (.toInt k) (.iv (.int k' a))=some (.int k (k.wrap a)):=id rfl
theorem bH6(o:TOp):floats o=(cA o==0||cA o==1||cA o==2||cA o==4||cA o==6):=id rfl
attribute [go_sem] bOg bHo bHp bHq bHr bOh
attribute [go_sem] bHs aZm aN6
attribute [go_sem] aK0 aN7 aR0 aGn aFc aFd
attribute [go_sem] aN8 bOi bHt bHu bHv aZn bOj bHw
attribute [go_sem] aZo bHx aR1 aBu oN aBv bOk bHy bHz bH0
attribute [go_sem] bOl aK1 aGo aGp aFe
attribute [go_sem] bH1 bH2 bH3 aZp aZq aH8 aH9 aZr aZs aZt aZu aZv
attribute [go_sem] aZw aZx aZy aAl bH4 aK2 aIa aIb
attribute [go_sem] aN9 bH5 aK3
attribute [go_sem] bH6
theorem bWz(b:Bool):(b==true)=b:=by cases b<;>rfl
theorem bW0(b:Bool):(b==false)=!b:=by cases b<;>rfl
theorem aK4(b:Bool):cellsOf (.iv (.bool b))=[.iv (.bool b)]:=id rfl
theorem aOa(b:Bool):bH (.iv (.bool b))=false:=id rfl
theorem aOb(k:IntKind)(m:Int):cellsOf (.iv (.int k m))=[.iv (.int k m)]:=id rfl
theorem aR3(k:IntKind)(m:Int):bH (.iv (.int k m))=false:=id rfl
theorem aR4(a:Tag)(l:Tp_):cellsOf (.iv (.sl a l))=[.iv (.sl a l)]:=id rfl
theorem aZz(a:Tag)(l:Tp_):bH (.iv (.sl a l))=false:=id rfl
theorem aK5(l:Tq_):cellsOf (.iv (.agg l))=l.map .iv:=id rfl
theorem aOc(a b c:Nat):cellsOf (.ptr a b c)=[.ptr a b c]:=id rfl
theorem aR5(a b c:Nat):bH (.ptr a b c)=false:=id rfl
theorem aOd(a b c d e f:Nat):cellsOf (.msl a b c d e f)=[.msl a b c d e f]:=id rfl
theorem aR6(a b c d e f:Nat):bH (.msl a b c d e f)=false:=id rfl
theorem aR7(a b c d e f:Nat):mX (.msl a b c d e f)=.msl a b c d e f:=id rfl
theorem aOe(a:Nat)(l:Tp_):cellsOf (.tsl a l)=[.tsl a l]:=id rfl
theorem aR8(a:Nat)(l:Tp_):bH (.tsl a l)=false:=id rfl
theorem aOf(a:Nat):cellsOf (.map a)=[.map a]:=id rfl
theorem aR9(a:Nat):bH (.map a)=false:=id rfl
theorem aSa(a:Nat):mX (.map a)=.map a:=id rfl
theorem aOg(l:Tn_):cellsOf (.agg l)=l:=id rfl
theorem aZ0(v:IV):mX (.iv v)=.iv v:=id rfl
theorem aFf(v:TV)(r:Tn_):toIVs (v::r)=aFb (oV v) (toIVs r):=by rw[toIVs];cases oV v<;>cases toIVs r<;>rfl
theorem aOh(v:IV):oV (.iv v)=some v:=id rfl
theorem aOi{α:Type}(l:Option (List α)):aFb none l=none:=id rfl
def bH7(vs:List TV)(es:List (List TV))(n i:Nat)(e:aH->TV)(r:List (Nat×aH)):Option (List (List TV)) :=
 if vs.length=n/\i<es.length/\vs.any bH=false then dX (es.set i vs) n e r else none
theorem aOj(es:List (List TV))(n i:Nat)(e:aH->TV)(x:aH)(r:List (Nat×aH)):dX es n e ((i,x)::r)=bH7 (cellsOf (mX (e x))) es n i e r:=id rfl
theorem aSb(es:List (List TV))(n:Nat)(e:aH->TV):dX es n e []=some es:=id rfl
theorem aZ1(vs:Tn_)(es:List (List TV))(n i:Nat)(e:aH->TV)(r:List (Nat×aH)):bH7 vs es n i e r=if vs.length=n/\i<es.length/\vs.any bH=false then dX (es.set i vs) n e r else none:=id rfl
def bQl(vs:List TV)(cs:List TV)(off n:Nat)(e:aH->TV)(r:List (Nat×Nat×aH)):Option (List TV) :=
 if vs.length=n/\off+n<=cs.length/\vs.any bH=false then fill (put cs off vs) e r else none
theorem aZ2(cs:Tn_)(off n:Nat)(e:aH->TV)(x:aH)(r:List (Nat×Nat×aH)):fill cs e ((off,n,x)::r)=bQl (cellsOf (mX (e x))) cs off n e r:=id rfl
theorem bH8(cs:Tn_)(e:aH->TV):fill cs e []=some cs:=id rfl
theorem bH9(vs:Tn_)(cs:Tn_)(off n:Nat)(e:aH->TV)(r:List (Nat×Nat×aH)):bQl vs cs off n e r=if vs.length=n/\off+n<=cs.length/\vs.any bH=false then fill (put cs off vs) e r else none:=id rfl
def mkG(x:Option (List IV))(cs:List TV):TV:=match x with
 |some l=>.iv (.agg l)
 |none=>.agg cs
theorem bIa(cs:Tn_):rY cs=mkG (mH cs) cs:=by simp only[rY];cases mH cs<;>rfl
theorem bIb(l:Tq_)(cs:Tn_):mkG (some l) cs=.iv (.agg l):=id rfl
theorem bIc(cs:Tn_):mkG none cs=.agg cs:=id rfl
def bId(v:IV)(x:Option (List IV)):Option (List IV):=x.map (v::·)
theorem aSc(v:IV)(l:Tq_):bId v (some l)=some (v::l):=id rfl
theorem aSd(v:IV):bId v none=none:=id rfl
theorem aSe(v:IV)(r:Tn_):mH (.iv v::r)=bId v (mH r):=id rfl
theorem aZ3:mH []=some []:=id rfl
theorem aSf:kB []=some []:=id rfl
theorem aOk(c:Tn_)(r:List (List TV)):kB (c::r)=aFb (mH c) (kB r):=by rw[kB];cases mH c<;>cases kB r<;>rfl
theorem aZ4{α:Type}(a:α)(l:List α)(v:α):List.set (a::l) 0 v=v::l:=id rfl
theorem aZ5{α:Type}(a:α)(l:List α)(j:Nat)(v:α):List.set (a::l) (j+1) v=a::List.set l j v:=id rfl
theorem bTj{α:Type}(cs:List α)(off n:Nat):sub cs off n=if off+n<=cs.length then some ((cs.drop off).take n)else none:=id rfl
theorem bTk{α:Type}(cs:List α)(off:Nat)(vs:List α):put cs off vs=cs.take off++vs++cs.drop (off+vs.length):=id rfl
theorem aOl(l:Tq_):iG (.iv (.agg l))=some (l.map .iv):=id rfl
theorem aZ6(a b c d e f:Nat)(r:Tn_):mH (.msl a b c d e f::r)=none:=id rfl
theorem aZ7(a:Nat)(l:Tp_)(r:Tn_):mH (.tsl a l::r)=none:=id rfl
theorem aIc(a:Nat)(r:Tn_):mH (.map a::r)=none:=id rfl
attribute [go_sem] aK4 aOa aOb aR3 aR4 aZz
attribute [go_sem] aK5 aOc aR5 aOd aR6
attribute [go_sem] aR7 aOe aR8 aOf aR9 aSa
attribute [go_sem] aOg aZ0
attribute [go_sem] aFf aOh
attribute [go_sem] aOi aOj aSb aZ1 aZ2 bH8 bH9 bIa bIb bIc aSc
attribute [go_sem] aSd aSe aZ3 aIc aSf aOk aZ4 aZ5 bTj bTk aOl
attribute [go_sem] List.length_cons List.length_nil List.take_succ_cons List.drop_succ_cons List.take_zero List.drop_zero List.take_nil List.drop_nil and_self and_true true_and
attribute [go_sem] aZ6 aZ7 aIc
def aSg(w:Nat)(env:Env)(S:aA)(a:TV)(vs:List TV):Option (TV×Env×aA):=if vs.length=w then aE6 (setCells env S a vs)else none
theorem bIe(w:Nat)(env:Env)(S:aA)(a v:TV):aAk w env S a v=aSg w env S a (cellsOf v):=by
 unfold aSg;split;.rename_i h;exact aYw env S w a v h
 .rename_i h;simp only[aAk,h,↓reduceIte]
theorem aZ8(w:Nat)(env:Env)(S:aA)(a:TV)(vs:Tn_):aSg w env S a vs=if vs.length=w then aE6 (setCells env S a vs)else none:=id rfl
def lbK(off n:Nat):TV->Option (List TV)
 |.lb cs=>sub cs off n
 |_=>none
theorem bTl(off n:Nat)(cs:Tn_):lbK off n (.lb cs)=sub cs off n:=id rfl
theorem aOm(env:Env)(S:aA)(j off n:Nat):bQ env S (.lp j off) n=lbK off n (env.getD j .hole):=by
 simp only[bQ,List.getD];cases env[j]? with
 |none=>rfl
 |some v=>cases v<;>rfl
def blK(v off n:Nat):Option aG->Option (List TV)
 |some (.cells v' _ cs)=>if v'=v then sub cs off n else none
 |some (.frz v' cs)=>if v'=v then(sub cs off n).map (·.map .iv)else none
 |_=>none
theorem aZ9(v off n v':Nat)(l:Bool)(cs:Tn_):blK v off n (some (.cells v' l cs))=if v'=v then sub cs off n else none:=id rfl
theorem aK6(env:Env)(S:aA)(i v off n:Nat):bQ env S (.ptr i v off) n=blK v off n (S[i]?):=by
 simp only[bQ];cases S[i]? with
 |none=>rfl
 |some b=>cases b<;>rfl
def bQm(env:Env)(S:aA)(j off:Nat)(vs:List TV):TV->Option (Env×aA)
 |.lb cs=>if off+vs.length<=cs.length then some (env.set j (.lb (put cs off vs)),S)else none
 |_=>none
theorem bIf(env:Env)(S:aA)(j off:Nat)(vs cs:Tn_):bQm env S j off vs (.lb cs)=if off+vs.length<=cs.length then some (env.set j (.lb (put cs off vs)),S)else none:=id rfl
theorem aOn(env:Env)(S:aA)(j off:Nat)(vs:Tn_):setCells env S (.lp j off) vs=if vs.any bH then none else bQm env S j off vs (env.getD j .hole):=by
 simp only[setCells,List.getD];split;.rfl
 .cases env[j]? with
  |none=>rfl
  |some v=>cases v<;>rfl
def bQn(env:Env)(S:aA)(i v off:Nat)(vs:List TV):Option aG->Option (Env×aA)
 |some (.cells v' l cs)=>if v'=v/\off+vs.length<=cs.length then some (env,S.set i (.cells v' l (put cs off vs)))else none
 |_=>none
theorem aOo(env:Env)(S:aA)(i v off:Nat)(vs:Tn_)(v':Nat)(l:Bool)(cs:Tn_):bQn env S i v off vs (some (.cells v' l cs))=if v'=v/\off+vs.length<=cs.length then some (env,S.set i (.cells v' l (put cs off vs)))else none:=id rfl
theorem aK7(env:Env)(S:aA)(i v off:Nat)(vs:Tn_):setCells env S (.ptr i v off) vs=if vs.any bH then none else bQn env S i v off vs (S[i]?):=by
 simp only[setCells];split;.rfl
 .cases S[i]? with
  |none=>rfl
  |some b=>cases b<;>rfl
theorem bAa(j off n:Nat):iX (.lp j off) n=some (.lp j (off+n)):=id rfl
theorem aSh(i v off n:Nat):iX (.ptr i v off) n=some (.ptr i v (off+n)):=id rfl
theorem bV0:(false=true)=False:=B_
attribute [go_sem] bIe aZ8 bTl aOm aZ9 aK6 bIf aOn aOo aK7 bAa aSh bV0
attribute [go_sem] bOe bHf bHg
attribute [go_sem] bHh
attribute [go_sem] eq_self bWz bW0 List.any_cons List.any_nil List.all_cons List.all_nil TM.undef cA Bool.true_and Bool.and_true Bool.false_and Bool.and_false Bool.or_false Bool.false_or Bool.true_or Bool.or_true Bool.not_true Bool.not_false ite_true ite_false
end Go.TM
namespace Go.TM
@[reducible] def TT {β:Type} (α:Type) (a:β):Type:=α
def br'{α:Type}(B:Bool)(x y:Out α):TT (Out α) (x,y):=br B x y
def bk'(K:bD)(O:Orc)(fs:List Fr)(j:aV)(e:Env)(S:aA):TT (Out (aV×Env×aA)) (fs,j,e,S):=bk K O fs j e S
def go'(K:bD)(O:Orc)(c:aL)(fs:List Fr)(e:Env)(S:aA):TT (Out (aV×Env×aA)) (c,fs,e,S):=go K O c fs e S
def bT(K:bD)(n:Nat)(env:Env)(M:List (Nat×TV))(x:aH):TT (TV) (n,env,M,x):=opv K n env M x
def sJ(K:bD)(O:Orc)(ops:List aK)(i:Nat)(M:List (Nat×TV))(n:Nat)(fs:List Fr)(env:Env)(S:aA):TT (Out (aV×Env×aA)) (ops,M,n,fs,S):=wbk K O ops i M n fs env S
def bAb(K:bD)(O:Orc)(all ops:List aK)(i:Nat)(M:List (Nat×TV))(n:Nat)(fs:List Fr)(env:Env)(S:aA):TT (Out (aV×Env×aA)) (all,ops,M,n,fs,env,S):=rgR K O all ops i M n fs env S
def bOn(K:bD)(O:Orc)(ops:List aK)(ps:List (Nat×List Nat×List Nat))(M:List (Nat×TV))(n:Nat)(fs:List Fr)(env:Env)(S:aA):TT (Out (aV×Env×aA)) (ops,ps,M,n,fs,env,S):=phs K O ops ps M n fs env S
def aOp(K:bD)(O:Orc)(ops:List aK)(is:List Nat)(ps:List (Nat×List Nat×List Nat))(M:List (Nat×TV))(n:Nat)(fs:List Fr)(env:Env)(S:aA):TT (Out (aV×Env×aA)) (ops,is,ps,M,n,fs,env,S):=fls K O ops is ps M n fs env S
def bTm(K:bD)(O:Orc)(c:Bool)(ops:List aK)(is:List Nat)(ps:List (Nat×List Nat×List Nat))(M:List (Nat×TV))(n:Nat)(fs:List Fr)(env:Env)(S:aA):TT (Out (aV×Env×aA)) (ops,is,ps,M,n,fs,env,S):=chk K O c ops is ps M n fs env S
def qO(K:bD)(O:Orc)(k:Kt)(M:List (Nat×TV))(n:Nat)(fs:List Fr)(env:Env)(S:aA):TT (Out (aV×Env×aA)) (k,M,n,fs,env,S):=iI K O k M n fs env S
def dW(K:bD)(O:Orc)(o:TOp)(i:Nat)(k:Kt)(M:List (Nat×TV))(n:Nat)(fs:List Fr)(env:Env)(S:aA):TT (Out (aV×Env×aA)) (o,i,k,M,n,fs,env,S):=op1 K O o i k M n fs env S
def bAc(K:bD)(O:Orc)(g:TV)(want:Bool)(j:Nat)(o:TOp)(i:Nat)(k:Kt)(M:List (Nat×TV))(n:Nat)(fs:List Fr)(env:Env)(S:aA):TT (Out (aV×Env×aA)) (want,j,o,i,k,M,n,fs,env,S):=opG K O g want j o i k M n fs env S
def nR(K:bD)(O:Orc)(v:Option TV)(i:Nat)(k:Kt)(M:List (Nat×TV))(n:Nat)(fs:List Fr)(env:Env)(S:aA):TT (Out (aV×Env×aA)) (i,k,M,n,fs,env,S):=opV K O v i k M n fs env S
def bAd(K:bD)(O:Orc)(v:Option (TV×aG))(i:Nat)(k:Kt)(M:List (Nat×TV))(n:Nat)(fs:List Fr)(env:Env)(S:aA):TT (Out (aV×Env×aA)) (i,k,M,n,fs,env,S):=opA K O v i k M n fs env S
def aSi(K:bD)(O:Orc)(v:Option (TV×aA))(i:Nat)(k:Kt)(M:List (Nat×TV))(n:Nat)(fs:List Fr)(env:Env):TT (Out (aV×Env×aA)) (i,k,M,n,fs,env):=opS K O v i k M n fs env
def uC(K:bD)(O:Orc)(v:Option (TV×Env×aA))(i:Nat)(k:Kt)(M:List (Nat×TV))(n:Nat)(fs:List Fr):TT (Out (aV×Env×aA)) (i,k,M,n,fs):=opE K O v i k M n fs
def fK(K:bD)(O:Orc)(x:Out (TV×aA))(i:Nat)(k:Kt)(M:List (Nat×TV))(n:Nat)(fs:List Fr)(env:Env):TT (Out (aV×Env×aA)) (i,k,M,n,fs,env):=opC K O x i k M n fs env
def bTn(K:bD)(O:Orc)(c a b:TV)(i:Nat)(k:Kt)(M:List (Nat×TV))(n:Nat)(fs:List Fr)(env:Env)(S:aA):TT (Out (aV×Env×aA)) (i,k,M,n,fs,env,S):=opP K O c a b i k M n fs env S
def bTo(K:bD)(O:Orc)(c:TV)(a b:aL)(fs:List Fr)(env:Env)(S:aA):TT (Out (aV×Env×aA)) (a,b,fs,env,S):=goC K O c a b fs env S
def lp'(O:Orc)(b:aL)(env:Env)(S:aA):TT (Out (aV×Env×aA)) (b,env,S):=lp O b env S
def aFg(K:bD)(O:Orc)(x:Out (aV×Env×aA))(fs:List Fr):TT (Out (aV×Env×aA)) (fs):=goL K O x fs
def bTp(K:bD)(O:Orc)(n:Nat)(ops:List aK)(fs:List Fr)(env:Env)(S:aA):TT (Out (aV×Env×aA)) (ops,fs,env,S):=rgN K O n ops fs env S
def aId(l:List aK)(n:Nat):TT Nat l:=aB7 l n
def bOo(c:Bool)(x y:Out (aV×Env×aA)):TT (Out (aV×Env×aA)) (x,y):=flB c x y
def bOp(K:bD)(O:Orc)(o:Option aK)(i:Nat)(ops:List aK)(is:List Nat)(ps:List (Nat×List Nat×List Nat))(M:List (Nat×TV))(n:Nat)(fs:List Fr)(env:Env)(S:aA):TT (Out (aV×Env×aA)) (i,ops,is,ps,M,n,fs,env,S):=flO K O o i ops is ps M n fs env S
def bOq(K:bD)(O:Orc)(o:Option aK)(i:Nat)(ops:List aK)(c fl:List Nat)(ps:List (Nat×List Nat×List Nat))(M:List (Nat×TV))(n:Nat)(fs:List Fr)(env:Env)(S:aA):TT (Out (aV×Env×aA)) (i,ops,c,fl,ps,M,n,fs,env,S):=phO K O o i ops c fl ps M n fs env S
def aAm(K:bD)(O:Orc)(v:TV)(j:Nat)(ops:List aK)(i:Nat)(M:List (Nat×TV))(n:Nat)(fs:List Fr)(env:Env)(S:aA):TT (Out (aV×Env×aA)) (j,ops,i,M,n,fs,env,S):=wbV K O v j ops i M n fs env S
def aWd(K:bD)(O:Orc)(w:Nat)(x:Option (List (List IV)))(es:Option (List (List TV)))(i:Nat)(k:Kt)(M:List (Nat×TV))(n:Nat)(fs:List Fr)(env:Env)(S:aA):TT (Out (aV×Env×aA)) (w,i,k,M,n,fs,env,S):=aN0 K O w x es i k M n fs env S
def bOs(c:Bool)(x y:Out (aV×Env×aA)):TT (Out (aV×Env×aA)) (x,y):=alB c x y
def aOq(S:aA)(args:List TV)(v:Option TV):TT (Out (TV×aA)) (S,args):=cpV S args v
def aOr(S:aA)(args:List TV)(x:Out (TV×aA)):TT (Out (TV×aA)) (S,args):=cpR S args x
def bAe(O:Orc)(S:aA)(args:List TV)(f:Nat)(ags:Option (List TV)):TT (Out (TV×aA)) (S,args,f):=cpA O S args f ags
def bOt(c:Bool)(S:aA)(args:List TV)(v:TV):TT (Out (TV×aA)) (S,args,v):=cpB c S args v
def bIg(v:TV)(x:Option aA):TT (Out (TV×aA)) (v):=bOa v x
def aFh(t:Bool)(S:aA)(x:Out (TV×aA)):TT (Out (TV×aA)) (t,S):=csR t S x
def bAf(O:Orc)(t:Bool)(S:aA)(f:Nat)(lp:Bool)(args:List TV):TT (Out (TV×aA)) (t,S,f):=csA O t S f lp args
def bTq(v:TV)(x:Option (TV×aA)):TT (Out (TV×aA)) (v):=trV v x
def jW(rs:List mW)(x:Out (aV×Env×aA)):TT (Out (TV×aA)) (rs):=fin rs x
def aWe(S:aA)(v:Option TV):TT (Out (TV×aA)) (S):=aZf S v
def jP(O:Orc)(b:aL)(x:Out (aV×Env×aA)):TT (Out (aV×Env×aA)) (b):=rnd O b x
def aSj(K:bD)(M:List (Nat×TV))(n:Nat)(env:Env)(S:aA)(o:TOp):TT (Option TV) (M,n,env,S,o):=flM K M n env S o
def bIh(K:bD)(ops:List aK)(M:List (Nat×TV))(n:Nat)(env:Env)(S:aA)(c:List Nat):TT (Bool) (ops,M,n,env,S,c):=rck K ops M n env S c
def bOu(K:bD)(g:TV)(want:Bool)(j:Nat)(M:List (Nat×TV))(n:Nat)(env:Env)(S:aA)(o:TOp):TT (Bool) (want,j,M,n,env,S,o):=rcG K g want j M n env S o
def bOv(K:bD)(x:Option aK)(j:Nat)(M:List (Nat×TV))(n:Nat)(env:Env)(S:aA):TT (Bool) (j,M,n,env,S):=rcO K x j M n env S
def bIi(K:bD)(O:Orc)(n:Nat)(f0:List Nat)(ph:List (Nat×List Nat×List Nat))(ops:List aK)(fs:List Fr)(env:Env)(S:aA):TT (Out (aV×Env×aA)) (f0,ph,ops,fs,env,S):=bHm K O n f0 ph ops fs env S
section
variable (K:bD)(O:Orc)(ops:List aK)(is:List Nat)(ps:List (Nat×List Nat×List Nat))(i:Nat)(k:Kt)(M:List (Nat×TV))(n:Nat)(fs:List Fr)(env:Env)(S:aA)
theorem bIj{α:Type}(x y:Out α):br' true x y=x:=_root_.id (vH ..)
theorem bAg{α:Type}(x y:Out α):br' false x y=y:=_root_.id (qN ..)
theorem bOw{α:Type}(B:Bool)(x y:Out α):br' (!B) x y=br' B y x:=_root_.id (bSz ..)
theorem aSk{α:Type}{B:Bool}{x y z:Out α}(h:B=true->x=z)(g:B=false->y=z):br' B x y=z:=bVm h g
theorem bIk(n:Nat)(env:Env)(M:To_)(j:Nat):bT K n env M (.reg j)=if j<n then reg M j else .hole:=_root_.id (aKv ..)
theorem bIl(n:Nat)(env:Env)(M:To_)(j:Nat):bT K n env M (.loc j)=mZ j (env.getD j .hole):=_root_.id (bNh ..)
theorem bIm(n:Nat)(env:Env)(M:To_)(v:IV):bT K n env M (.cst v)=.iv v:=_root_.id (bNi ..)
theorem bOx(n:Nat)(env:Env)(M:To_)(f:Nat):bT K n env M (.fn f)=.fn f [] []:=_root_.id (bS0 ..)
theorem bAh(n:Nat)(env:Env)(M:To_)(g:Nat):bT K n env M (.glob g)=bGb (K.glob g):=_root_.id (bGc ..)
theorem bAi(v:TV):nR K O (some v) i k M n fs env S=qO K O k ((i,v)::M) n fs env S:=_root_.id (bGd ..)
theorem bAj(v:TV)(b:aG):bAd K O (some (v,b)) i k M n fs env S=aSi K O (some (v,S++[b])) i k M n fs env:=_root_.id (bGe ..)
theorem bAk(v:TV):aSi K O (some (v,S)) i k M n fs env=qO K O k ((i,v)::M) n fs env S:=_root_.id (bGf ..)
theorem bAl(v:TV):uC K O (some (v,env,S)) i k M n fs=qO K O k ((i,v)::M) n fs env S:=_root_.id (bGg ..)
theorem bIn(v:TV):fK K O (.ret (v,S)) i k M n fs env=qO K O k ((i,v)::M) n fs env S:=_root_.id (bNj ..)
theorem bAm(t:Bool)(a b:TV):bTn K O (.iv (.bool t)) a b i k M n fs env S=br' t (qO K O k ((i,a)::M) n fs env S) (qO K O k ((i,b)::M) n fs env S):=_root_.id (bGh ..)
theorem bAn(b a:Bool)(j:Nat)(o:TOp):bAc K O (.iv (.bool b)) a j o i k M n fs env S=br' (b==a) (dW K O o i k ((j,.iv (.bool a))::M) n fs env S) (qO K O k ((i,undef)::(j,.iv (.bool (!a)))::M) n fs env S):=_root_.id (bGi ..)
theorem aSl(a:Bool)(j:Nat)(o:TOp):bAc K O (.tup []) a j o i k M n fs env S=qO K O k ((i,undef)::M) n fs env S:=_root_.id (aYn ..)
theorem bAo:bTm K O true ops is ps M n fs env S=aOp K O ops is ps M n fs env S:=_root_.id (bGj ..)
theorem bOy(j:aV):bk' K O [] j env S=.ret (j,env,S):=_root_.id (bS1 ..)
theorem bOz(b:aL):bk' K O (.seq b::fs) .normal env S=go' K O b fs env S:=_root_.id (bS2 ..)
theorem aOs(b:aL):bk' K O (.seq b::fs) .ret env S=bk' K O fs .ret env S:=_root_.id (aRl ..)
theorem aK8(b:aL)(id:Nat):bk' K O (.seq b::fs) (.exit id) env S=bk' K O fs (.exit id) env S:=_root_.id (aNs ..)
theorem bO0(id:Nat):bk' K O (.blk id::fs) .normal env S=bk' K O fs .normal env S:=_root_.id (bS3 ..)
theorem aOt(id:Nat):bk' K O (.blk id::fs) .ret env S=bk' K O fs .ret env S:=_root_.id (aRm ..)
theorem aK9(id a:Nat):bk' K O (.blk id::fs) (.exit a) env S=if a=id then bk' K O fs .normal env S else bk' K O fs (.exit a) env S:=_root_.id (aNt ..)
theorem go_skip':go' K O .skip fs env S=bk' K O fs .normal env S:=_root_.id (go_skip ..)
theorem go_ret':go' K O .ret fs env S=bk' K O fs .ret env S:=_root_.id (go_ret ..)
theorem go_exit'(id:Nat):go' K O (.exit id) fs env S=bk' K O fs (.exit id) env S:=_root_.id (go_exit ..)
theorem go_seq'(a b:aL):go' K O (.seq a b) fs env S=go' K O a (.seq b::fs) env S:=_root_.id (go_seq ..)
theorem go_block'(id:Nat)(b:aL):go' K O (.block id b) fs env S=go' K O b (.blk id::fs) env S:=_root_.id (go_block ..)
theorem bAp(t:Bool)(a b:aL):bTo K O (.iv (.bool t)) a b fs env S=br' t (go' K O a fs env S) (go' K O b fs env S):=_root_.id (bGk ..)
theorem go_cond'(c:aH)(a b:aL):go' K O (.cond c a b) fs env S=bTo K O (bT K 0 env [] c) a b fs env S:=_root_.id (go_cond ..)
theorem bIo(j:aV):aFg K O (.ret (j,env,S)) fs=bk' K O fs j env S:=_root_.id (bNk ..)
theorem go_loop'(b:aL):go' K O (.loop b) fs env S=aFg K O (lp' O b env S) fs:=_root_.id (go_loop ..)
theorem bO1:bTp K O n ops fs env S=bAb K O ops ops 0 [] n fs env S:=_root_.id (bGl ..)
theorem bIp(a:List aK):qO K O (.rg a ops i) M n fs env S=bAb K O a ops (i+1) M n fs env S:=_root_.id (bNl ..)
theorem bIq:qO K O (.fl ops is ps) M n fs env S=aOp K O ops is ps M n fs env S:=_root_.id (aV7 ..)
theorem bIr(a:List aK):bAb K O a [] i M n fs env S=sJ K O a 0 M n fs env S:=_root_.id (bNm ..)
theorem bAq(a:List aK)(o:TOp)(l:Option Nat):bAb K O a (⟨o,l,none⟩::ops) i M n fs env S=dW K O o i (.rg a ops i) M n fs env S:=_root_.id (bGm ..)
theorem aSm(b:List aK)(o:TOp)(l:Option Nat)(j:Nat)(a:Bool):bAb K O b (⟨o,l,some (j,a)⟩::ops) i M n fs env S=bAc K O (bT K n env M (.reg j)) a j o i (.rg b ops i) M n fs env S:=_root_.id (aYo ..)
theorem bAr(x y:Out (aV×Env×aA)):bOo true x y=x:=_root_.id (aE4 ..)
theorem bAs(o:TOp)(l:Option Nat):bOp K O (some ⟨o,l,none⟩) i ops is ps M n fs env S=bOo (floats o) (dW K O o i (.fl ops is ps) M n fs env S) (aOp K O ops (i::is) ps M n fs env S):=_root_.id (aNu ..)
theorem aSn(o:TOp)(l:Option Nat)(j:Nat)(a:Bool):bOp K O (some ⟨o,l,some (j,a)⟩) i ops is ps M n fs env S=bOo (floats o) (bAc K O (bT K n env M (.reg j)) a j o i (.fl ops is ps) M n fs env S) (aOp K O ops (i::is) ps M n fs env S):=_root_.id (aH4 ..)
theorem bIs:aOp K O ops [] ps M n fs env S=bOn K O ops ps M n fs env S:=_root_.id (bNn ..)
theorem bAt:aOp K O ops (i::is) ps M n fs env S=bOp K O (aAi ops i) i ops is ps M n fs env S:=_root_.id (bGo ..)
theorem bIt:bOn K O ops [] M n fs env S=sJ K O ops 0 M n fs env S:=_root_.id (bNo ..)
theorem bAu(c a:Tc_)(o:TOp)(l:Option Nat):bOq K O (some ⟨o,l,none⟩) i ops c a ps M n fs env S=dW K O o i (.ph ops c a ps) M n fs env S:=_root_.id (aNv ..)
theorem aSo(c b:Tc_)(o:TOp)(l:Option Nat)(j:Nat)(a:Bool):bOq K O (some ⟨o,l,some (j,a)⟩) i ops c b ps M n fs env S=bAc K O (bT K n env M (.reg j)) a j o i (.ph ops c b ps) M n fs env S:=_root_.id (aH5 ..)
theorem bAv(c a:Tc_):bOn K O ops ((i,c,a)::ps) M n fs env S=bOq K O (aAi ops i) i ops c a ps M n fs env S:=_root_.id (bGp ..)
theorem bIu:sJ K O [] i M n fs env S=bk' K O fs .normal env S:=_root_.id (bNp ..)
theorem bAw(o:TOp)(g:Option (Nat×Bool)):sJ K O (⟨o,none,g⟩::ops) i M n fs env S=sJ K O ops (i+1) M n fs env S:=_root_.id (bGq ..)
theorem bAx(o:TOp)(j:Nat)(g:Option (Nat×Bool)):sJ K O (⟨o,some j,g⟩::ops) i M n fs env S=aAm K O (bT K n env M (.reg i)) j ops i M n fs env S:=_root_.id (bGr ..)
theorem aCt(v:IV)(j:Nat):aAm K O (.iv v) j ops i M n fs env S=sJ K O ops (i+1) M n fs (env.set j (.iv v)) S:=_root_.id (bS4 ..)
theorem bIv(a b c:Nat)(j:Nat):aAm K O (.ptr a b c) j ops i M n fs env S=sJ K O ops (i+1) M n fs (env.set j (.ptr a b c)) S:=_root_.id (bNq ..)
theorem aOu(a b c d e f:Nat)(j:Nat):aAm K O (.msl a b c d e f) j ops i M n fs env S=sJ K O ops (i+1) M n fs (env.set j (.msl a b c d e f)) S:=_root_.id (bNr ..)
theorem aFi(a:Nat)(l:Tp_)(j:Nat):aAm K O (.tsl a l) j ops i M n fs env S=sJ K O ops (i+1) M n fs (env.set j (.tsl a l)) S:=_root_.id (bNs ..)
theorem bIw(a:Nat)(j:Nat):aAm K O (.map a) j ops i M n fs env S=sJ K O ops (i+1) M n fs (env.set j (.map a)) S:=_root_.id (bNt ..)
theorem bO2(a:Nat)(j:Nat):aAm K O (.it a) j ops i M n fs env S=sJ K O ops (i+1) M n fs (env.set j (.it a)) S:=_root_.id (bS5 ..)
theorem bO3(f:Nat)(a b:Tn_)(j:Nat):aAm K O (.fn f a b) j ops i M n fs env S=sJ K O ops (i+1) M n fs (env.set j (.fn f a b)) S:=_root_.id (bS6 ..)
theorem bAy  (j:Nat):aAm K O (.hole) j ops i M n fs env S=sJ K O ops (i+1) M n fs (env.set j (.hole)) S:=_root_.id (bGs ..)
theorem aLa{α:Type}{p:Prop}[Decidable p]{x y z:Out α}(h:p->x=z)(g:¬p->y=z):br' (decide p) x y=z:=bS7 h g
theorem aLb{α:Type}{a b:Int}{x y z:Out α}(h:a=b->x=z)(g:a≠b->y=z):br' (a==b) x y=z:=bS8 h g
theorem aLc{α:Type}{a b:Int}{x y z:Out α}(h:a≠b->x=z)(g:a=b->y=z):br' (a != b) x y=z:=bS9 h g
theorem bIx(x:aH):dW K O (.mov x) i k M n fs env S=nR K O (some (bT K n env M x)) i k M n fs env S:=_root_.id (bN0 ..)
theorem bAz(c a b:aH):dW K O (.pick c a b) i k M n fs env S=bTn K O (bT K n env M c) (bT K n env M a) (bT K n env M b) i k M n fs env S:=_root_.id (bGz ..)
theorem aSp(z:Tq_)(ps:List (Nat×Nat×aH)):dW K O (.build z ps) i k M n fs env S=nR K O ((fill (z.map .iv) (bT K n env M) ps).map rY) i k M n fs env S:=_root_.id (aYx ..)
theorem aGq(x:aH):dW K O (.nilCheck x) i k M n fs env S=nR K O (bNv (bT K n env M x)) i k M n fs env S:=_root_.id (aKz ..)
theorem bIy(op:BinOp)(x y:aH):dW K O (.bin op x y) i k M n fs env S=nR K O (ivO (binOp op (bT K n env M x) (bT K n env M y))) i k M n fs env S:=_root_.id (bN1 ..)
theorem bIz(a:Bool)(b:EK)(x y:aH):dW K O (.eqB a b x y) i k M n fs env S=nR K O (eqV a (eqB b (bT K n env M x) (bT K n env M y))) i k M n fs env S:=_root_.id (bN2 ..)
theorem aSq(a:Bool)(cK:List (Nat×LK))(x y:aH):dW K O (.eqAgg a cK x y) i k M n fs env S=nR K O (ivO (eqAgg a cK (bT K n env M x) (bT K n env M y))) i k M n fs env S:=_root_.id (aYy ..)
theorem bO4(op:UnOp)(x:aH):dW K O (.un op x) i k M n fs env S=nR K O (ivO (unOp op (bT K n env M x))) i k M n fs env S:=_root_.id (bTa ..)
theorem bA0(f:Nat)(a b:List aH):dW K O (.mkFn f a b) i k M n fs env S=nR K O (aWb f (a.map (bT K n env M)) (b.map (bT K n env M))) i k M n fs env S:=_root_.id (bG0 ..)
theorem aFj(off:Nat)(x:aH):dW K O (.fieldAddr off x) i k M n fs env S=nR K O (iX (bT K n env M x) off) i k M n fs env S:=_root_.id (aGm ..)
theorem aSr(off w:Nat)(a:Bool)(x:aH):dW K O (.field off w a x) i k M n fs env S=nR K O (oM a (aYt off w (iG (bT K n env M x)))) i k M n fs env S:=_root_.id (aYz ..)
theorem aB9(es:Nat)(x y:aH):dW K O (.indexAddrS es x y) i k M n fs env S=nR K O (ixS es (bT K n env M x) (bT K n env M y)) i k M n fs env S:=_root_.id (aE7 ..)
theorem aCa(a es:Nat)(x y:aH):dW K O (.indexAddrA a es x y) i k M n fs env S=nR K O (ixA a es (bT K n env M x) (bT K n env M y)) i k M n fs env S:=_root_.id (aE8 ..)
theorem aLd(j:Nat)(x:aH):dW K O (.extract j x) i k M n fs env S=nR K O (xtr j (bT K n env M x)) i k M n fs env S:=_root_.id (aNz ..)
theorem bI0(x:aH):dW K O (.cap x) i k M n fs env S=nR K O (aYs (aA0 (bT K n env M x))) i k M n fs env S:=_root_.id (bN3 ..)
theorem aOv(a:Bool)(xs:List aH):dW K O (.minmax a xs) i k M n fs env S=nR K O (mmV a (xs.map (bT K n env M))) i k M n fs env S:=_root_.id (aRr ..)
theorem aSs(a:aH):dW K O (.load1 a) i k M n fs env S=nR K O (oM false (bQ env S (bT K n env M a) 1)) i k M n fs env S:=_root_.id (aY0 ..)
theorem aSt(w:Nat)(a:aH):dW K O (.loadN w a) i k M n fs env S=nR K O (oM true (bQ env S (bT K n env M a) w)) i k M n fs env S:=_root_.id (aY1 ..)
theorem aSu(a:SK)(x:aH)(b c d:Option aH):dW K O (.slice a x b c d) i k M n fs env S=nR K O (slV S a (bT K n env M x) (oI (b.map (bT K n env M))) (oI (c.map (bT K n env M))) (oI (d.map (bT K n env M)))) i k M n fs env S:=_root_.id (aY2 ..)
theorem aOw(kk:KK)(z:IV)(a:Bool)(m y:aH):dW K O (.lookup kk z a m y) i k M n fs env S=nR K O (aO (.lookup kk z a m y) (bT K n env M) env S) i k M n fs env S:=_root_.id (aRs ..)
theorem aOx(x:aH):dW K O (.entryM x) i k M n fs env S=nR K O (aO (.entryM x) (bT K n env M) env S) i k M n fs env S:=_root_.id (aRt ..)
theorem bI1(a:NK)(x:aH):dW K O (.len a x) i k M n fs env S=nR K O (sI a S (bT K n env M x)) i k M n fs env S:=_root_.id (bN4 ..)
theorem aSv(a:IntKind)(x:aH):dW K O (.conv (.toInt a) x) i k M n fs env S=nR K O (ivO (dB (.toInt a) (bT K n env M x))) i k M n fs env S:=_root_.id (aY3 ..)
theorem aSw(w:Nat)(l:Tp_)(es:Option (List (List TV))):aWd K O w (some l) es i k M n fs env S=qO K O k ((i,.iv (.sl .full l))::M) n fs env S:=_root_.id (aY4 ..)
theorem aSx(w:Nat)(es:Option (List (List TV))):aWd K O w none es i k M n fs env S=bAd K O (aGl S.length w es) i k M n fs env S:=_root_.id (aY5 ..)
theorem bI2(z:Tq_)(a:Nat)(ps:List (Nat×aH)):dW K O (.lit false z a ps) i k M n fs env S=aWd K O z.length (bN7 (dX (List.replicate a (z.map .iv)) z.length (bT K n env M) ps)) (dX (List.replicate a (z.map .iv)) z.length (bT K n env M) ps) i k M n fs env S:=_root_.id (bN8 ..)
theorem bA1(z:Tq_)(a:Nat)(ps:List (Nat×aH)):dW K O (.lit true z a ps) i k M n fs env S=bAd K O (aGl S.length z.length (dX (List.replicate a (z.map .iv)) z.length (bT K n env M) ps)) i k M n fs env S:=_root_.id (bG1 ..)
theorem aOy(t:Nat)(z:Tq_):dW K O (.allocH t z) i k M n fs env S=aSi K O (some (.ptr S.length t 0,S++[.cells t false (z.map .iv)])) i k M n fs env:=_root_.id (aRu ..)
theorem aSy:dW K O .mkMap i k M n fs env S=aSi K O (some (.map S.length,S++[.mp [] 0])) i k M n fs env:=_root_.id (aY7 ..)
theorem aLe(z:Tq_)(bytes:Nat)(l c:aH):dW K O (.mkSlice z bytes l c) i k M n fs env S=bAd K O (mkV z bytes S.length (bT K n env M l) (bT K n env M c)) i k M n fs env S:=_root_.id (aN1 ..)
theorem bA2(t:Nat)(x:aH):dW K O (.boxH t x) i k M n fs env S=bAd K O (bTe t S.length (bT K n env M x)) i k M n fs env S:=_root_.id (bG2 ..)
theorem bA3(x y:Out (aV×Env×aA)):bOs true x y=x:=_root_.id (aE9 ..)
theorem aOz(j:Nat)(z:Tq_):dW K O (.allocL j z) i k M n fs env S=bOs (okL j M env) (uC K O (some (.lp j 0,env.set j (.lb (z.map .iv)),S)) i k M n fs) (dW K O (.allocL j z) i k M n fs env S):=_root_.id (aRv ..)
theorem bA4(j:Nat)(x:aH):dW K O (.boxL j x) i k M n fs env S=bOs (okL j M env) (uC K O (if(cellsOf (bT K n env M x)).any bH then none else some (.lp j 0,env.set j (.lb (cellsOf (bT K n env M x))),S)) i k M n fs) (dW K O (.boxL j x) i k M n fs env S):=_root_.id (bG3 ..)
theorem aSz(w:Nat)(a v:aH):dW K O (.store w a v) i k M n fs env S=uC K O (aAk w env S (bT K n env M a) (bT K n env M v)) i k M n fs:=_root_.id (aY9 ..)
theorem aO0(kk:KK)(m y x:aH):dW K O (.update kk m y x) i k M n fs env S=uC K O (gM (.update kk m y x) (bT K n env M) (dA M n) env S) i k M n fs:=_root_.id (aRw ..)
theorem aS0(a:Bool)(x:aH):dW K O (.range a x) i k M n fs env S=uC K O (aKy a env S (bT K n env M x)) i k M n fs:=_root_.id (aZa ..)
theorem aO1(mu:Bool)(es bytes el:Nat)(s x:aH):dW K O (.append mu es bytes el s x) i k M n fs env S=aSi K O (bA mu es bytes el S (bT K n env M s) (bT K n env M x)) i k M n fs env:=_root_.id (aRx ..)
theorem bA5(args a:Tn_)(f:Nat):bAe O S args f (some a)=aOr S args (O.call f a []):=_root_.id (bG4 ..)
theorem aO2(args:Tn_)(v:TV)(S':aA):aOr S args (.ret (v,S'))=aOq S args (resolve S' v):=_root_.id (bN9 ..)
theorem bA6(args:Tn_)(v:TV):aOq S args (some v)=bOt (args.any mI&&!(eY v)) S args v:=_root_.id (bG5 ..)
theorem aS1(args:Tn_)(v:TV):bOt false S args v=.ret (v,S):=_root_.id (aZb ..)
theorem aS2(v:TV):bIg v (some S)=.ret (v,S):=_root_.id (aZc ..)
theorem bA7(args:Tn_)(v:TV):bOt true S args v=bIg v (bW S args):=_root_.id (bG6 ..)
theorem aS3(t:Bool)(f:Nat)(args:List aH):dW K O (.call true t f args) i k M n fs env S=fK K O (bAe O S (args.map (bT K n env M)) f (cG S (args.map (bT K n env M)))) i k M n fs env:=_root_.id (aZd ..)
theorem bO5(t:Bool)(f:Nat)(args:Tn_):bAf O t S f false args=aFh t S (O.call f args S):=_root_.id (bTf ..)
theorem aFk(v:TV)(S':aA):aFh false S (.ret (v,S'))=.ret (v,S'):=_root_.id (bVr ..)
theorem bA8(v:TV)(q:TV×aA):bTq v (some q)=.ret q:=_root_.id (bG7 ..)
theorem bTr(v:TV)(S':aA):aFh true S (.ret (v,S'))=bTq v (zT v S'):=_root_.id (bVs ..)
theorem aS4(t:Bool)(f:Nat)(args:List aH):dW K O (.call false t f args) i k M n fs env S=fK K O (bAf O t S f ((args.map (bT K n env M)).any bY) (args.map (bT K n env M))) i k M n fs env:=_root_.id (aZe ..)
theorem bA9(f:Nat)(args:List aH):dW K O (.prim f args) i k M n fs env S=aSi K O (prV S (K.prim f) (args.map (bT K n env M))) i k M n fs env:=_root_.id (bG8 ..)
theorem aS5(v:TV):aWe S (some v)=.ret (v,S):=_root_.id (aZg ..)
theorem bI3(rs:List mW):jW rs (.ret (.ret,env,S))=aWe S (kV rs env S):=_root_.id (bOb ..)
theorem aO3(rs:List mW):jW rs (.ret (.normal,env,S))=aWe S (kV rs env S):=_root_.id (aRy ..)
theorem bO6(rs:List mW)(B:Bool)(x y:Out (aV×Env×aA)):jW rs (br' B x y)=br' B (jW rs x) (jW rs y):=_root_.id (bTg ..)
theorem aI{f:Nat}{args:Tn_}{fn:aS}{r:TV×aA}(b:K.funcs f=some fn)(a:args.length=fn.nparams)(h:jW fn.results (go' K (lim K) fn.body [] (args++List.replicate (fn.nlocs-fn.nparams) undef) S)=.ret r):(lim K).call f args S=.ret r:=bG9 K S b a h
theorem dG{f:Nat}{args:Tn_}{fn:aS}{Q:TV×aA->Prop}(b:K.funcs f=some fn)(a:args.length=fn.nparams)(h:(jW fn.results (go' K (lim K) fn.body [] (args++List.replicate (fn.nlocs-fn.nparams) undef) S)).All Q):((lim K).call f args S).All Q:=bHa K S b a h
theorem aO4(b:aL):jP O b (.ret (.normal,env,S))=er (lp' O b env S):=_root_.id (aRz ..)
theorem bI4(b:aL):jP O b (.ret (.ret,env,S))=.ret (.ret,env,S):=_root_.id (bOc ..)
theorem bBa(b:aL)(id:Nat):jP O b (.ret (.exit id,env,S))=.ret (.exit id,env,S):=_root_.id (bHb ..)
theorem bO7(b:aL)(B:Bool)(x y:Out (aV×Env×aA)):jP O b (br' B x y)=br' B (jP O b x) (jP O b y):=_root_.id (bTh ..)
theorem bBb{b:aL}{r:aV×Env×aA}(h:jP (lim K) b (go' K (lim K) b [] env S)=.ret r):lp' (lim K) b env S=.ret r:=bHc K env S h
theorem bBc(a:aH):aSj K M n env S (.load1 a)=oM false (bQ env S (bT K n env M a) 1):=_root_.id (bHd ..)
theorem bBd(w:Nat)(a:aH):aSj K M n env S (.loadN w a)=oM true (bQ env S (bT K n env M a) w):=_root_.id (bHe ..)
theorem aS6(a:Bool)(j:Nat)(o:TOp):bOu K (.tup []) a j M n env S o=true:=_root_.id (aZh ..)
theorem bBe(b a:Bool)(j:Nat)(o:TOp):bOu K (.iv (.bool b)) a j M n env S o=if b==a then rcS (aSj K M n env S o) (bT K n env M (.reg j))else true:=_root_.id (bHi ..)
theorem bBf(o:TOp)(l:Option Nat)(j:Nat):bOv K (some ⟨o,l,none⟩) j M n env S=rcS (aSj K M n env S o) (bT K n env M (.reg j)):=_root_.id (bHj ..)
theorem aS7(o:TOp)(l:Option Nat)(g:Nat)(a:Bool)(j:Nat):bOv K (some ⟨o,l,some (g,a)⟩) j M n env S=bOu K (bT K n env M (.reg g)) a j M n env S o:=_root_.id (aZi ..)
theorem bI5(ops:List aK):bIh K ops M n env S []=true:=_root_.id (bOf ..)
theorem bBg(ops:List aK)(j:Nat)(c:Tc_):bIh K ops M n env S (j::c)=(bOv K (aAi ops j) j M n env S&&bIh K ops M n env S c):=_root_.id (bHk ..)
theorem bBh(ops:List aK)(ps:Tl_)(c a:Tc_):qO K O (.ph ops c a ps) M n fs env S=bTm K O (bIh K ops M n env S c) ops a ps M n fs env S:=_root_.id (bHl ..)
theorem go_region'(K:bD)(O:Orc)(ops:List aK)(a:List Fr)(env:Env)(S:aA):go' K O (.region ops) a env S=bTp K O (aId ops 0) ops a env S:=_root_.id (go_region ..)
theorem bI6(K:bD)(O:Orc)(n:Nat)(a:Tc_)(c:Tl_)(ops:List aK)(b:List Fr)(env:Env)(S:aA):bIi K O n a c ops b env S=aOp K O ops a c [] n b env S:=_root_.id (aWc ..)
theorem go_draw'(K:bD)(O:Orc)(a:Tc_)(c:Tl_)(ops:List aK)(b:List Fr)(env:Env)(S:aA):go' K O (.draw a c ops) b env S=bIi K O (aId ops 0) a c ops b env S:=_root_.id (go_draw ..)
theorem bBi(n:Nat):aId [] n=n:=_root_.id (bHn ..)
theorem aS8(a:aK)(l:List aK)(n:Nat):aId (a::l) n=aId l (n+1):=_root_.id (aZj ..)
attribute [go_sem] bIj bAg bOw bIk bIl bIm bOx bAh bAi bAj bAk bAl
attribute [go_sem] bIn bAm bAn aSl bAo bOy bOz aOs aK8 bO0 aOt aK9
attribute [go_sem] go_skip' go_ret' go_exit' go_seq' go_block' bAp go_cond' bIo go_loop' bO1 bIp bIq
attribute [go_sem] bIr bAq aSm bAr bAs aSn bIs bAt bIt bAu aSo bAv
attribute [go_sem] bIu bAw bAx aCt bIv aOu aFi bIw bO2 bO3
attribute [go_sem] bAy bIx bAz aSp aGq bIy bIz aSq bO4 bA0
attribute [go_sem] aFj aSr aB9 aCa aLd bI0 aOv aSs aSt aSu
attribute [go_sem] aOw aOx bI1 aSv aSw aSx bI2 bA1
attribute [go_sem] aOy aSy aLe bA2 bA3 aOz bA4 aSz aO0 aS0 aO1
attribute [go_sem] bA5 aO2 bA6 aS1 aS2 bA7 aS3 bO5 aFk bA8 bTr
attribute [go_sem] aS4 bA9 aS5 bI3 aO3 bO6 aO4 bI4 bBa bO7
attribute [go_sem] bBc bBd
attribute [go_sem] aS6 bBe bBf aS7 bI5 bBg bBh go_region' bI6 go_draw'
attribute [go_sem] bBi aS8
theorem aE{b a:aL}{r:aV×Env×aA}(c:b=a)(h:jP (lim K) b (go' K (lim K) a [] env S)=.ret r):lp' (lim K) b env S=.ret r:=by subst c;exact bBb K env S h
end
attribute [irreducible] br' bk' go' bAb bOn aOp bTm qO dW bAc nR bAd aSi uC fK bTn sJ aAm bTo aFg bTp bIi bOp bOq bOo bOs aWd lp' aOq aOr bAe bOt aFh bAf jW jP bTq bIg aWe bT aId aSj bIh bOv bOu
end Go.TM
namespace Go.TM
theorem aC{m:Int}(h:-9223372036854775808<=m/\m<=9223372036854775807):IntKind.i64.wrap m=m:=by unfold IntKind.wrap;simp[IntKind.bits,IntKind.signed];omega
theorem qP{m:Int}(h:0<=m/\m<=18446744073709551615):IntKind.u64.wrap m=m:=by unfold IntKind.wrap;simp[IntKind.bits,IntKind.signed];omega
theorem bW1{p:Prop}[Decidable p](h:p):decide p=true:=V_ h
theorem bW2{p:Prop}[Decidable p](h:¬p):decide p=false:=Z_ h
theorem ifT{α:Type}{p:Prop}[Decidable p]{a b:α}(h:p):(if p then a else b)=a:=K_ h
theorem ifF{α:Type}{p:Prop}[Decidable p]{a b:α}(h:¬p):(if p then a else b)=b:=I_ h
theorem eqT{a b:Int}(h:a=b):(a==b)=true:=by simp[h]
theorem eqF{a b:Int}(h:a≠b):(a==b)=false:=by simp[h]
theorem neT{a b:Int}(h:a≠b):(a != b)=true:=by simp[h]
theorem neF{a b:Int}(h:a=b):(a != b)=false:=by simp[h]
theorem yZ{α:Type}(f:α->IV):∀(l:List α),bE (l.map fun a=>[f a])=l.map f
 |[]=>rfl
 |a::l=>by simp only[Q_,bE,yZ f l];rfl
def one{α:Type}(f:α->IV)(l:List α):List (List IV):=l.map fun a=>[f a]
theorem lR{α:Type}(f:α->IV)(l:List α):(one f l).length=l.length:=by simp[one]
def cY{α:Type}(t:Tag)(l:List α):Prop:=t=.nil->l=[]
theorem cY.nil{α:Type}:cY .nil ([]:List α):=fun _=>rfl
theorem aO5{w:Nat}{t:Tag}{l:Tp_}{i:Int}{c:Tq_}(h:0<=i)(b:l[i.toNat]?=some c)(a:c.length=w):indexAddrS w (.iv (.sl t l)) i=some (.iv (.cp c)):=by have:¬i<0:=A_;simp only[indexAddrS,this,↓reduceIte,b,a]
theorem bO8{α:Type}(f:α->IV)(l:List α)(n:Nat):(one f l)[n]?=(l[n]?).map fun a=>[f a]:=by simp[one]
theorem pO{α:Type}[Inhabited α](f:α->IV){t:Tag}{l:List α}{i:Int}(h:0<=i/\i<l.length):indexAddrS 1 (.iv (.sl t (one f l))) i=some (.iv (.cp [f (l.getD i.toNat default)])):=by refine aO5 h.1 ?_ rfl;have:i.toNat<l.length:=A_;rw[bO8,D_ this];simp[List.getD,D_ this]
theorem bO9(env:Env)(S:aA)(x:IV)(l:Tq_):bQ env S (.iv (.cp (x::l))) 1=some [.iv x]:=by simp[bQ,sub]
end Go.TM
namespace Go.TM
theorem kJ{w:Nat}{a:Int}(h:0<=a/\a<2 ^ w):(BitVec.ofInt w a).toNat=a.toNat:=by rw[BitVec.toNat_ofInt];have:a % ((2 ^ w:Nat):Int)=a:=Int.emod_eq_of_lt h.1 (by push_cast;exact h.2);rw[this]
end Go.TM
namespace Go.TM
theorem aFl{α:Type}{w:Nat}:∀ {l:List (List α)},(∀y∈l,y.length=w)->(bE l).length=l.length*w
 |[],_=>by simp[bE]
 |a::l,h=>by have d:=h a B_;have c:=aFl (l:=l) (fun y b=>h y (by simp[b]));simp only[bE,H_,List.length_cons,d,c,D8];omega
theorem uD{α:Type}{w:Nat}:∀ {l:List (List α)},(∀y∈l,y.length=w)->cN w l.length (bE l)=l
 |[],_=>rfl
 |a::l,h=>by have b:=h a B_;have d:=uD (l:=l) (fun y c=>h y (by simp[c]));simp only[bE,List.length_cons,cN];rw[<-b,K1,K6,b,d]<;>rfl
theorem fL:∀(l:Tq_),toIVs (l.map .iv)=some l
 |[]=>rfl
 |a::l=>by rw[Q_,aFf,aOh,fL l,aFc]
def nB:IV->Bool
 |.agg _=>false
 |_=>true
theorem aLf:∀ {l:Tq_},l.all nB=true->(l.map TV.iv).any bH=false
 |[],_=>rfl
 |a::l,h=>by simp only[List.all_cons,O_]at h;simp only[Q_,List.any_cons,aLf h.2,O5];cases a<;>first|rfl|simp[nB]at h
theorem aFm:∀ {l:Tp_},(∀y∈l,y.all nB=true)->(bE l).all nB=true
 |[],_=>rfl
 |a::l,h=>by simp only[bE,List.all_append,O_];exact⟨h a B_,aFm (fun y b=>h y (by simp[b]))⟩
theorem aO6{w:Nat}:∀ {l:Tp_},(∀y∈l,y.length=w)->oR w l=true
 |[],_=>rfl
 |a::l,h=>by simp[oR,h a B_]
theorem jF{α:Type}[Inhabited α]{w:Nat}{f:α->List IV}(b:∀a,(f a).length=w){t:Tag}{l:List α}{i:Int}(h:0<=i/\i<l.length):indexAddrS w (.iv (.sl t (l.map f))) i=some (.iv (.cp (f (l.getD i.toNat default)))):=by refine aO5 h.1 ?_ (b _);have:i.toNat<l.length:=A_;rw[l_,D_ this];simp[List.getD,D_ this]
theorem aO7(env:Env)(S:aA)(cs:Tq_)(n:Nat):bQ env S (.iv (.cp cs)) n=(sub cs 0 n).map (·.map .iv):=id rfl
def Pure(K:bD)(f:Nat)(ags:List TV)(v:TV):Prop:=∃r S,(lim K).call f ags []=.ret (r,S)/\resolve S r=some v
theorem gO{K:bD}{f:Nat}{a:Tn_}{v r:TV}{S:aA}(h:(lim K).call f a []=.ret (r,S))(b:resolve S r=some v):Pure K f a v:=⟨r,S,h,b⟩
theorem aD{K:bD}{f:Nat}{a:Tn_}{v:TV}(h:Pure K f a v)(S:aA)(args:Tn_):aOr S args ((lim K).call f a [])=aOq S args (some v):=by obtain⟨r,S',b,c⟩:=h;rw[b,aO2,c]
def bPa(v:Option TV):Out TV:=match v with
 |some v=>.ret v
 | none => .fail ""
theorem bBj(v:TV):bPa (some v)=.ret v:=id rfl
def bBk(x:Out (TV×aA)):Out TV:=x.bind fun r=>bPa (resolve r.2 r.1)
theorem bI7(r:TV)(S:aA):bBk (.ret (r,S))=bPa (resolve S r):=id rfl
theorem bPb(B:Bool)(x y:Out (TV×aA)):bBk (br' B x y)=br' B (bBk x) (bBk y):=by unfold br';cases B<;>rfl
attribute [go_sem] bBj bI7 bPb
theorem aT{K:bD}{f:Nat}{args:Tn_}(fn:aS){v:TV}(b:K.funcs f=some fn)(a:args.length=fn.nparams)(h:bBk (jW fn.results (go' K (lim K) fn.body [] (args++List.replicate (fn.nlocs-fn.nparams) undef) []))=.ret v):Pure K f args v:=by
 generalize hx:jW fn.results (go' K (lim K) fn.body [] (args++List.replicate (fn.nlocs-fn.nparams) undef) [])=x at h;cases x with
 |ret r =>
  obtain⟨r,S⟩:=r;refine⟨r,S,aI K [] b a hx,?_⟩;simp only[bBk,Out.bind,bPa]at h;cases hr:resolve S r with
  |none=>rw[hr]at h;cases h
  |some u=>rw[hr]at h;cases h;rfl
 |fail s=>cases h
 |pick n k=>cases h
def jL(w:Nat)(l:List (List IV)):Prop:=∀y∈l,y.length=w/\y.all nB=true
theorem jL.map{α:Type}{w:Nat}{f:α->List IV}(h:∀a,(f a).length=w/\(f a).all nB=true)(l:List α):jL w (l.map f):=by intro y b;obtain⟨a,_,rfl⟩:=r_.1 b;exact h a
theorem jL.one{α:Type}{f:α->IV}(h:∀a,nB (f a)=true)(l:List α):jL 1 (one f l) :=
 jL.map (f:=fun a=>[f a]) (fun a=>⟨rfl,by simp[h a]⟩) l
def qQ(S:aA)(x:TV)(ys:List (List IV)):Prop:=dS S x=some ((bE ys).map .iv)/\lenOf S x=some ys.length
theorem qQ.sl(S:aA)(t:Tag)(ys:Tp_):qQ S (.iv (.sl t ys)) ys:=⟨rfl,rfl⟩
theorem bR{n b:Nat}(h:n*b<=35184372088832/\b<=1048576/\n<=35184372088832):dY n b=true:=by simp[dY,h]
theorem aFn{w b el i:Nat}{S:aA}{l ys:Tp_}{x:TV}(m:qQ S x ys)(d:jL w ys)(n:jL w l)(c:S[i]?=some (.tok l.length w el))(j:dY (l.length+ys.length) b=true): bA false w b el S (.tsl i l) x=some (.tsl i (l++ys),S.set i (.tok (l.length+ys.length) w el)):=by
 obtain⟨o,p⟩:=m;have k:=aFl (w:=w) (fun y a=>(d y a).1);have h:=aLf (aFm (fun y a=>(d y a).2));simp only[bA,o,p,P_,k,ne_eq,C8,h,Y_,or_self,↓reduceIte];by_cases hm:ys.length=0
 .have:ys=[]:=a_ hm;subst this;simp only[hm,↓reduceIte,aQu,A0,Nat.add_zero];have g:i<S.length:=by
   rcases D2 i S.length with f|f;.exact f
   .rw[B7 f]at c;cases c
  rw[D_ g]at c;have e:S.set i (.tok l.length w el)=S:=by rw[<-D9 c];exact J6 g
  simp[e]
 .simp only[hm,↓reduceIte,c,fL,aO6 (fun y a=>(n y a).1),j,V7,Bool.and_self,uD (fun y a=>(d y a).1)]
theorem aLg{w b el:Nat}{S:aA}{t:Tag}{l ys:Tp_}{x:TV}(p:t≠.no)(k:qQ S x ys)(d:jL w ys)(m:jL w l)(g:ys≠[])(i:dY (l.length+ys.length) b=true): bA false w b el S (.iv (.sl t l)) x=some (.tsl S.length (l++ys),S++[.tok (l.length+ys.length) w el]):=by
 obtain⟨n,o⟩:=k;have j:=aFl (w:=w) (fun y a=>(d y a).1);have f:=aLf (aFm (fun y a=>(d y a).2));have h:¬ys.length=0:=fun e=>g (a_ e);have c:(t==.no)=false:=by cases t<;>first|rfl|exact absurd rfl p
 simp only[bA,n,o,P_,j,ne_eq,C8,f,Y_,or_self,↓reduceIte,h,c,aO6 (fun y a=>(m y a).1),i,E4,Bool.or_self,fL,uD (fun y a=>(d y a).1)]
theorem aS9{mu:Bool}{w b el:Nat}{S:aA}{s x:TV}(a:aQu s=true)(c:qQ S x []):bA mu w b el S s x=some (s,S):=by obtain⟨d,e⟩:=c;simp[bA,d,e,bE,a]
def acc(i:Nat)(l:List (List IV)):TV:=if l=[]then .iv (.sl .nil [])else .tsl i l
theorem mD(i:Nat):acc i []=.iv (.sl .nil []):=by simp[acc]
theorem aO8(i:Nat)(a:Tq_)(l:Tp_):acc i (a::l)=.tsl i (a::l):=by simp[acc]
theorem jQ(i:Nat){l:Tp_}(h:l≠[]):acc i l=.tsl i l:=by simp[acc,h]
def vN(w el:Nat)(l:List (List IV)):aA:=if l=[]then []else [.tok l.length w el]
theorem aFo(w el:Nat):vN w el []=[]:=by simp[vN]
theorem aLh(w el:Nat){l:Tp_}(h:l≠[]):vN w el l=[.tok l.length w el]:=by simp[vN,h]
theorem bI8{w b el:Nat}{l ys:Tp_}{x:TV}(a:∀S,qQ S x ys)(d:jL w ys)(c:jL w l)(f:dY (l.length+ys.length) b=true): bA false w b el (vN w el l) (acc 0 l) x=some (acc 0 (l++ys),vN w el (l++ys)):=by
 by_cases h:l=[]
 .subst h;by_cases h0:ys=[]
  .subst h0;rw[mD,aFo,aS9 rfl (a _)];rfl
  .rw[mD,aFo,aLg C_ (a _) d c h0 f,List.nil_append,jQ _ h0,aLh _ _ h0];simp
 .have e:l++ys≠[]:=by simp[h]
  rw[jQ _ h,aLh _ _ h,aFn (a _) d c rfl f,jQ _ e,aLh _ _ e];simp
theorem aFp(S:aA)(i:Nat)(l:Tp_):sI .sl S (acc i l)=some (.iv (.int .i64 l.length)):=by
 unfold acc;split;.rename_i h;subst h;rfl
 .rfl
def iJ{α:Type}(l:List α):Tag:=match l with
 |[]=>.nil
 |_=>.no
theorem aJj{α:Type}(l:List α):cY (iJ l) l:=by
 cases l with
 |nil=>exact fun _=>rfl
 |cons a l=>intro h;cases h
theorem aIe(S:aA)(i:Nat)(l:Tp_):wO S (acc i l)=some (.sl (iJ l) l):=by cases l<;>rfl
theorem aBw(S:aA)(i:Nat)(l:Tp_):resolve S (acc i l)=some (.iv (.sl (iJ l) l)):=by cases l<;>rfl
theorem bPc(K:bD)(O:Orc)(j b:Nat)(l:Tp_)(ops:List aK)(i:Nat)(M:To_)(n:Nat)(a:List Fr)(env:Env)(S:aA):aAm K O (acc b l) j ops i M n a env S=sJ K O ops (i+1) M n a (env.set j (acc b l)) S:=by
 unfold acc;split;.exact aCt K O ops i M n a env S _ j
 .exact aFi K O ops i M n a env S _ _ j
theorem qR(j i:Nat)(l:Tp_):mZ j (acc i l)=acc i l:=by unfold acc;split<;>rfl
theorem bI9(i:Nat)(l:Tp_):aR2 (acc i l)=some (acc i l):=by unfold acc;split<;>rfl
attribute [go_sem] aIe aBw bPc qR bI9 aFp
end Go.TM
namespace Go.TM
open Go Go.ChangeShapes Go.WideShapes Go.RowKit
variable {P:Program}{H:Type}{enc:TypeId×Value->H}{W:World}
def aO9(P:Program){H:Type}:List TypeId->List (DataW H)->List (List IV)->Prop
 |[],[],[]=>True
 |t::ts,d::ds,l::ls=>Ty P t d l/\aO9 P ts ds ls
 |_,_,_=>False
def aLi(P:Program):List TypeId->List (List IV)->List TV
 |t::ts,l::ls=>bF1 P t l::aLi P ts ls
 |_,_=>[]
theorem aWf{ts:List TypeId}(c:aYj P ts=true){r:Reach}{b base:Nat}{a:Bool}:∀ {params:List TypeId} {vals:List Value} {ds:List (DataW H)} {ps:List MemPlace},(∀t∈params,t∈ts)->(∀(j:Nat) t v,params[j]?=some t->vals[j]?=some v->Value.okWide P W r b t v) ->DataW.TrodAll enc P W base (fun _=>true) a params vals ds ps->∃ls,aO9 P params ds ls/\VRs (eU W) [] [] (aLi P params ls) vals
 |[],vals,ds,ps,_,_,h=>by obtain⟨rfl,rfl,rfl⟩:=trodAll_nil h;exact⟨[],trivial,VRs.nil⟩
 |t::params,vals,ds,ps,hp,hv,h=>by obtain⟨v,i,d,g,p,q,rfl,rfl,rfl,n,s⟩:=trodAll_cons h;obtain⟨l,f,o⟩:=bSy c (hp t B_) (hv 0 t v rfl rfl) n;obtain⟨ls,m,x⟩:=aWf c (fun u e=>hp u (by simp[e])) (fun j u w e k=>hv (j+1) u w (by simpa using e) (by simpa using k)) s;exact⟨l::ls,⟨f,m⟩,VRs.cons o x⟩
theorem bBl{ds:List (DataW H)}{ls:Tp_}(h:aO9 P [] ds ls):ls=[]:=by cases ds<;>cases ls<;>first|rfl|exact h.elim
theorem aTa{P:Program}{ts:Array TypeId}{q:TypeId->Bool}(h:ts.toList.all (fun t=>!(q t))=true)(j:Nat)(t:TypeId)(a:ts[j]?=some t):q t=false:=by have:=C1.1 h t (Y2.2 (Array.mem_of_getElem? a));simpa using this
theorem aTb{ds:List (DataW H)}{ls:Tp_}(h:aO9 P [] ds ls):ds=[]:=by cases ds<;>cases ls<;>first|rfl|exact h.elim
theorem aFq{O:dE}{K:TM.bD}(c:KOK P O K){f:Nat}{args:Tn_}(h:((lim K).call f args []).All fun r=>r.1=.iv (.bool true)){vals:Array Value}(d:VRs (eU W) [] [] args vals.toList)(g:rO K (eU W)): Calls P f vals W fun e W'=>e=.returned (.bool true)/\Below W.heap.size W W':=by obtain⟨n,b⟩:=bNb (K:=K) (f:=f) (a:=args) (S:=[]) h;exact aYl c b d g
end Go.TM
namespace Go.TM
section
variable (K:bD)(O:Orc)(i:Nat)(k:Kt)(M:List (Nat×TV))(n:Nat)(fs:List Fr)(env:Env)(S:aA)
def cvA(O:Orc)(c:Bool)(S:aA)(g:Nat)(ags:List TV):Out (TV×aA):=if c then bAe O S ags g (cG S ags)else bAf O false S g (ags.any bY) ags
theorem bJa(g:Nat)(a:Tn_):cvA O true S g a=bAe O S a g (cG S a):=by simp only[cvA,↓reduceIte]
theorem bBm(g:Nat)(a:Tn_):cvA O false S g a=bAf O false S g (a.any bY) a:=by simp only[cvA,Y_,↓reduceIte]
def bJb (O : Orc) (S : aA) (j : Nat) (lp : Bool) (ags : List TV) : Out (TV × aA) := if lp then .fail "" else er (O.yld j ags S)
theorem bPd(j:Nat)(a:Tn_):bJb O S j false a=er (O.yld j a S):=by simp only[bJb,Y_,↓reduceIte]
def opF(f:TV)(ags:List TV)(i:Nat)(k:Kt)(M:List (Nat×TV))(n:Nat)(fs:List Fr)(env:Env)(S:aA):TT (Out (aV×Env×aA)) (i,k,M,n,fs,env,S) :=
 match f with
 |.fn g a b=>fK K O (cvA O ((a++ags++b).all kQ) S g (a++ags++b)) i k M n fs env
 |.yld j=>fK K O (bJb O S j (ags.any bY) ags) i k M n fs env
 | _ => (.fail "" : Out (aV × Env × aA))
theorem bTs(g:Nat)(a b c:Tn_):opF K O (.fn g a b) c i k M n fs env S=fK K O (cvA O ((a++c++b).all kQ) S g (a++c++b)) i k M n fs env:=rfl
theorem bPe(j:Nat)(a:Tn_):opF K O (.yld j) a i k M n fs env S=fK K O (bJb O S j (a.any bY) a) i k M n fs env:=rfl
theorem bBn(f:aH)(args:List aH):dW K O (.callv f args) i k M n fs env S=opF K O (bT K n env M f) (args.map (bT K n env M)) i k M n fs env S:=by
 unfold dW bT;simp only[op1,bV];show er (Out.bind (match opv K n env M f with
  |.fn g a b=>Out.bind (if(a++args.map (opv K n env M)++b).all kQ then eZ O g (a++args.map (opv K n env M)++b) S else jO O false g (a++args.map (opv K n env M)++b) S) fun r=>.ret (r.1,env,r.2)
  | .yld j => if (args.map (opv K n env M)).any bY then .fail "yield: a local's address" else Out.bind (O.yld j (args.map (opv K n env M)) S) fun r => .ret (r.1, env, r.2)
  | _ => .fail "callv") _) = _
 cases opv K n env M f with
 |fn g a b =>
  simp only[opF,cvA,Out.bind_assoc,Out.bind];split;.unfold fK bAe;rw[<-aBs,<-aFa]
  .unfold fK bAf;rw[<-aH7,<-aFa]
 |yld j =>
  simp only[opF,bJb];split;.unfold fK;rfl
  .unfold fK;rw[<-aFa];simp only[Out.bind_assoc,Out.bind]
 |_=>rfl
end
theorem bPf(v:IV):kQ (.iv v)=true:=id rfl
theorem bJc(a b c:Nat):kQ (.ptr a b c)=false:=id rfl
theorem bJd(f:Nat)(a b:Tn_):aWb f a b=if(a++b).any bY=true then none else some (.fn f a b):=id rfl
theorem bPg(t m:Nat)(v:TV):bTe t m v=if(cellsOf v).any bH=true then none else some (.ptr m t 0,.cells t false (cellsOf v)):=id rfl
attribute [go_sem] bJa bBm bPd bTs bPe bBn bPf bJc bJd bPg
theorem aLj(S:aA)(a b c d e f:Nat):iY S (.msl a b c d e f)=ivO (slO (cH S (.msl a b c d e f))):=id rfl
attribute [go_sem] aLj
end Go.TM
namespace Go.TM
open Go
def aFr(f:Int->IV)(C:List Int):List TV:=C.map fun n=>.iv (f n)
theorem aTc(f:Int->IV)(C:Ta_):(aFr f C).length=C.length:=by simp[aFr]
theorem aLk{j v off a cap:Nat}{i:Int}(h:0<=i/\i<a):indexAddrS 1 (.msl j v off a cap 1) i=some (.ptr j v (off+i.toNat)):=by simp only[indexAddrS,show ¬i<0 by omega,h.2,X3,↓reduceIte,H9]
theorem aLl(f:Int->IV)(l:Ta_):bE (one f l)=l.map f:=yZ f l
theorem aPa(f:Int->IV)(n:Nat):bE (List.replicate n ([f 0].map TV.iv))=aFr f (List.replicate n 0):=by
 have:List.replicate n ([f 0].map TV.iv)=(List.replicate n (0:Int)).map fun a=>[TV.iv (f a)]:=B_;rw[this];generalize List.replicate n (0:Int)=l;induction l with
 |nil=>rfl
 |cons a l ih=>simp only[Q_,bE,List.flatMap_cons,aFr]at ih |-;simpa using ih
end Go.TM
namespace Go.TM
section
variable (K:bD)(O:Orc)(fs:List Fr)(env:Env)(S:aA)
def rfB(K:bD)(O:Orc)(n:Nat)(env:Env)(fs:List Fr)(S:aA):Option aG->Out (aV×Env×aA)
 | some (.lp .busy ..) => .fail ""
 |some (.lp _ pend env' ps a b)=>bk K O fs (pend.getD .normal) env (S.set n (.lp .exhausted pend env' ps a b))
 | _ => .fail ""
def rfR(K:bD)(O:Orc)(n:Nat)(env:Env)(fs:List Fr)(x:Out (TV×aA)):TT (Out (aV×Env×aA)) (n,env,fs) :=
 (er x).bind fun r=>rfB K O n env fs r.2 (r.2[n]?)
def rfF(K:bD)(O:Orc)(v:TV)(ps:List Nat)(a b:aL)(fs:List Fr)(env:Env)(S:aA):TT (Out (aV×Env×aA)) (ps,a,b,fs,env,S) :=
 match v with
 |.fn k fst cap=>rfR K O S.length env fs (O.call k (fst++.yld S.length::cap) (S++[.lp .ready none (env.map noLb) ps a b]))
 | _ => (.fail "" : Out (aV × Env × aA))
theorem bTt(k:Nat)(c cap:Tn_)(ps:Tc_)(a b:aL):rfF K O (.fn k c cap) ps a b fs env S=rfR K O S.length env fs (O.call k (c++.yld S.length::cap) (S++[.lp .ready none (env.map noLb) ps a b])):=id rfl
theorem aWg(n:Nat)(v:TV)(S':aA):rfR K O n env fs (.ret (v,S'))=rfB K O n env fs S' (S'[n]?):=id rfl
theorem bBo(n:Nat)(e':Env)(ps:Tc_)(a b:aL):rfB K O n env fs S (some (.lp .ready none e' ps a b))=bk' K O fs .normal env (S.set n (.lp .exhausted none e' ps a b)):=by unfold bk';exact id rfl
theorem go_rangeFunc(f:aH)(ps:Tc_)(a b:aL):go' K O (.rangeFunc f ps a b) fs env S=rfF K O (bT K 0 env [] f) ps a b fs env S:=by
 unfold go' bT;simp only[go,eS,rfF,opv,dA,List.range_zero,C3];cases aX K env [] f with
 |fn k fst cap =>
  simp only[Out.bind_assoc];unfold rfR;rw[gF];refine Out.bind_congr fun r=>?_;cases hx:r.2[S.length]? with
  |none=>rfl
  |some B =>
   cases B with
   |lp st pend e' ps' a' b'=>cases st<;>rfl
   |_=>rfl
 |_=>rfl
end
theorem bPh(cs:Tn_):noLb (.lb cs)=.hole:=id rfl
theorem bPi(v:IV):noLb (.iv v)=.iv v:=id rfl
theorem bJe(a b c:Nat):noLb (.ptr a b c)=.ptr a b c:=id rfl
theorem bJf(a b c d e f:Nat):noLb (.msl a b c d e f)=.msl a b c d e f:=id rfl
theorem bPj(f:Nat)(a b:Tn_):noLb (.fn f a b)=.fn f a b:=id rfl
theorem bJg(l:Tn_):noLb (.tup l)=.tup l:=id rfl
attribute [go_sem] bTt aWg bBo go_rangeFunc bPh bPi bJe bJf bPj bJg
attribute [irreducible] rfR rfF
theorem go_exec{K:bD}{O:Orc}{c:aL}{env:Env}{S:aA}{r:aV×Env×aA}(h:go' K O c [] env S=.ret r):eS K O c env S=.ret r:=by
 unfold go' at h;simp only[go]at h;have a:=bF4 h;cases hx:eS K O c env S with
 |ret q=>rw[hx]at a;simpa[Out.bind,back] using a
 |fail s=>rw[hx]at a;cases a
 |pick n k=>rw[hx]at a;cases a
theorem aPb{K:bD}{i:Nat}{args:Tn_}{S S1 S2:aA}{st:LoopState}{p p2 p3:Option aV}{st3:LoopState}{env env1 env2 env3 e2 e3:Env}{ps ps2 ps3:Tc_}{a b a2 b2 a3 b3:aL} (h:S[i]?=some (.lp st p env ps a b)) (c:rH env ps args=some env1) (d:go' K (lim K) a [] env1 S=.ret (.normal,env2,S1)) (g:S1[i]?=some (.lp .ready p2 e2 ps2 a2 b2)) (j:go' K (lim K) b [] env2 (S1.set i (.lp .busy p2 e2 ps2 a2 b2))=.ret (.normal,env3,S2)) (f:S2[i]?=some (.lp st3 p3 e3 ps3 a3 b3)): (lim K).yld i args S=.ret (.iv (.bool true),S2.set i (.lp .ready none e3 ps3 a3 b3)):=by refine bNa ?_;have e:=go_exec d;have e3:=go_exec j;simp only[iB,h,c,e,Out.bind,g,e3,f]
end Go.TM
namespace Go.TM
theorem aPc{α c:Type}{P:α->Prop}{R:c->Prop}{f:α->Out c}:∀ {x:Out α},x.All P->(∀a,P a->(f a).All R)->(x.bind f).All R
 |.ret a,h,g=>g a h
 |.fail s,h,g=>h.elim
 |.pick n k,h,g=>fun i b=>aPc (h i b) g
theorem cP{α:Type}{R:α->Prop}:∀ {x:Out α},x.All R->(er x).All R
 |.ret a,h=>h
 |.fail s,h=>h.elim
 |.pick n k,h=>fun i b=>cP (h i b)
theorem bG{α:Type}{R:α->Prop}{a:α}(h:R a):(Out.ret a).All R:=h
section
variable {K:bD}{O:Orc}{i:Nat}{k:Kt}{M:List (Nat×TV)}{n:Nat}{fs:List Fr}{env:Env}{S:aA}{rs:List mW}{b:aL}
theorem aBx{P R:TV×aA->Prop}{X:Out (TV×aA)}(b:X.All P)(h:∀v S,P (v,S)->(jW rs (fK K O (.ret (v,S)) i k M n fs env)).All R):(jW rs (fK K O X i k M n fs env)).All R:=by
 have e:∀Y:Out (TV×aA),Y.All P->(fin rs (opC K O Y i k M n fs env)).All R:=by
  intro Y;induction Y with
  |ret r=>intro a;have:=h r.1 r.2 a;unfold jW fK at this;exact this
  |fail s=>intro a;exact a.elim
  |pick m q ih=>intro a j c;exact ih j (a j c)
 unfold jW fK;exact e X b
theorem pC{P:TV×aA->Prop}{R:aV×Env×aA->Prop}{X:Out (TV×aA)}(c:X.All P)(h:∀v S,P (v,S)->(jP O b (fK K O (.ret (v,S)) i k M n fs env)).All R):(jP O b (fK K O X i k M n fs env)).All R:=by
 have e:∀Y:Out (TV×aA),Y.All P->(rnd O b (opC K O Y i k M n fs env)).All R:=by
  intro Y;induction Y with
  |ret r=>intro a;have:=h r.1 r.2 a;unfold jP fK at this;exact this
  |fail s=>intro a;exact a.elim
  |pick m q ih=>intro a j d;exact ih j (a j d)
 unfold jP fK;exact e X c
theorem bPk{P:TV×aA->Prop}{R:aV×Env×aA->Prop}{X:Out (TV×aA)}(b:X.All P)(h:∀v S,P (v,S)->Out.All R (fK K O (.ret (v,S)) i k M n fs env)):Out.All R (fK K O X i k M n fs env):=by
 have e:∀Y:Out (TV×aA),Y.All P->(opC K O Y i k M n fs env).All R:=by
  intro Y;induction Y with
  |ret r=>intro a;have:=h r.1 r.2 a;unfold fK at this;exact this
  |fail s=>intro a;exact a.elim
  |pick m q ih=>intro a j c;exact ih j (a j c)
 unfold fK;exact e X b
theorem dJ{P:aV×Env×aA->Prop}{R:TV×aA->Prop}{X:Out (aV×Env×aA)}(b:X.All P)(h:∀j e S,P (j,e,S)->(jW rs (aFg K O (.ret (j,e,S)) fs)).All R):(jW rs (aFg K O X fs)).All R:=by
 have e:∀Y:Out (aV×Env×aA),Y.All P->(fin rs (goL K O Y fs)).All R:=by
  intro Y;induction Y with
  |ret r=>intro a;have:=h r.1 r.2.1 r.2.2 a;unfold jW aFg at this;exact this
  |fail s=>intro a;exact a.elim
  |pick m q ih=>intro a j c;exact ih j (a j c)
 unfold jW aFg;exact e X b
theorem mS{P R:aV×Env×aA->Prop}{X:Out (aV×Env×aA)}(c:X.All P)(h:∀j e S,P (j,e,S)->(jP O b (aFg K O (.ret (j,e,S)) fs)).All R):(jP O b (aFg K O X fs)).All R:=by
 have e:∀Y:Out (aV×Env×aA),Y.All P->(rnd O b (goL K O Y fs)).All R:=by
  intro Y;induction Y with
  |ret r=>intro a;have:=h r.1 r.2.1 r.2.2 a;unfold jP aFg at this;exact this
  |fail s=>intro a;exact a.elim
  |pick m q ih=>intro a j d;exact ih j (a j d)
 unfold jP aFg;exact e X c
theorem aCu{P Q:TV×aA->Prop}{t:Bool}{S:aA}{X:Out (TV×aA)}(b:X.All P)(h:∀v S',P (v,S')->(aFh t S (.ret (v,S'))).All Q):(aFh t S X).All Q:=by
 have e:∀Y:Out (TV×aA),Y.All P->(csR t S Y).All Q:=by
  intro Y;induction Y with
  |ret r=>intro a;have:=h r.1 r.2 a;unfold aFh at this;exact this
  |fail s=>intro a;exact a.elim
  |pick m q ih=>intro a j c;exact ih j (a j c)
 unfold aFh;exact e X b
def gP(K:bD)(f:Nat)(ags:List TV)(Q:TV->Prop):Prop:=((lim K).call f ags []).All fun r=>∃v,resolve r.2 r.1=some v/\Q v
theorem gP.of{f:Nat}{a:Tn_}{v:TV}{Q:TV->Prop}(h:Pure K f a v)(d:Q v):gP K f a Q:=by obtain⟨r,S,b,c⟩:=h;unfold gP;rw[b];exact⟨v,c,d⟩
theorem gP.mono{f:Nat}{a:Tn_}{P Q:TV->Prop}(h:gP K f a P)(d:∀v,P v->Q v):gP K f a Q :=
 Out.all_mono (fun r ⟨v,b,c⟩=>⟨v,b,d v c⟩) h
theorem lS{f:Nat}{a args:Tn_}{Q:TV->Prop}{R:TV×aA->Prop}(d:gP K f a Q)(h:∀v,Q v->(jW rs (fK K (lim K) (aOq S args (some v)) i k M n fs env)).All R):(jW rs (fK K (lim K) (aOr S args ((lim K).call f a [])) i k M n fs env)).All R:=by
 have e:∀Y:Out (TV×aA),(Y.All fun r=>∃v,resolve r.2 r.1=some v/\Q v)->(fin rs (opC K (lim K) (cpR S args Y) i k M n fs env)).All R:=by
  intro Y;induction Y with
  |ret r =>intro⟨v,g,l⟩;have c:=h v l;unfold jW fK aOq at c;simp only[cpR,er,Out.bind,g];exact c
  |fail s=>intro b;exact b.elim
  |pick m q ih=>intro b j o;exact ih j (b j o)
 unfold jW fK aOr;exact e _ d
theorem aIf{f:Nat}{a args:Tn_}{Q:TV->Prop}{R:aV×Env×aA->Prop}(g:gP K f a Q)(h:∀v,Q v->(jP O b (fK K (lim K) (aOq S args (some v)) i k M n fs env)).All R):(jP O b (fK K (lim K) (aOr S args ((lim K).call f a [])) i k M n fs env)).All R:=by
 have e:∀Y:Out (TV×aA),(Y.All fun r=>∃v,resolve r.2 r.1=some v/\Q v)->(rnd O b (opC K (lim K) (cpR S args Y) i k M n fs env)).All R:=by
  intro Y;induction Y with
  |ret r =>intro⟨v,l,o⟩;have d:=h v o;unfold jP fK aOq at d;simp only[cpR,er,Out.bind,l];exact d
  |fail s=>intro c;exact c.elim
  |pick m q ih=>intro c j p;exact ih j (c j p)
 unfold jP fK aOr;exact e _ g
theorem fC{a:aL}{P:aV×Env×aA->Prop}(d:b=a)(h:(jP (lim K) b (go' K (lim K) a [] env S)).All P):(lp' (lim K) b env S).All P:=by
 subst d;unfold lp';refine aKt (aKu ?_);unfold jP go' at h;have c:er (jV K (lim K) b env S)=rnd (lim K) b (go K (lim K) b [] env S):=by simp only[jV,rnd,go];rw[gF];have e:=pB.bind_back K (lim K) (eS K (lim K) b env S);rw[e];refine Out.bind_congr fun r=>?_;obtain⟨j,e,S'⟩:=r;cases j<;>rfl
 rw[c];exact h
end
end Go.TM
