/- A part of the evaluator TM, and of the proof that what it computes the model does. Condition: none. -/
import GoSem.Step
import Derived.Laws.World
import Derived.Laws.Sem
import Derived.RangeFuncLeaves
import Derived.RangeFuncRecord
import Derived.Laws.Cells
import Derived.Laws.IdiomCopy
import Derived.Laws.Entries
import Derived.Laws.Strings
import Derived.Laws.StructEq
import Derived.ChangeKeysEq
import Derived.Laws.BytesString
import Derived.Laws.Append
namespace Go.TM
inductive Tag where
 | nil
 | full
 | no
 deriving DecidableEq
inductive IV where
 | bool (b:Bool)
 | int (k:IntKind) (n:Int)
 | str (s:List UInt8)
 | sl (t:Tag) (es:List (List IV))
 | agg (cs:List IV)
 | cp (cs:List IV)
 | nilp
 | nilm
 | nilf
 | nili
inductive TV where
 | iv (v:IV)
 | lp (j off:Nat)
 | ptr (i ver off:Nat)
 | msl (i ver off len cap es:Nat)
 | tsl (i:Nat) (es:List (List IV))
 | rsv (i:Nat) (es:List (List IV)) (n:Nat)
 | map (i:Nat)
 | it (i:Nat)
 | fn (f:Nat) (fst cap:List TV)
 | yld (i:Nat)
 | lb (cs:List TV)
 | agg (cs:List TV)
 | tup (vs:List TV)
 | hole
def undef:TV:=.tup []
inductive aC where
 | reg (i:Nat)
 | loc (j:Nat)
 | cst (v:IV)
 | fn (f:Nat)
 | glob (g:Nat)
inductive CK where
 | toInt (k:IntKind)
 | intStr
 | strStr
 | strBytes
 | bytesStr
inductive SK where
 | str
 | sl (es:Nat)
 | arr (n es:Nat)
inductive EK where
 | bool
 | ptr
 | sl
 | mp
 | fn
inductive NK where
 | str
 | sl
 | mp
 deriving DecidableEq
inductive LK where
 | bool
 | int
 | str
inductive KK where
 | leaf (k:LK)
 | agg (offs:List (Nat×LK))
inductive TOp where
 | mov (x:aC)
 | pick (c a b:aC)
 | allocL (j:Nat) (z:List IV)
 | allocH (tag:Nat) (z:List IV)
 | boxL (j:Nat) (x:aC)
 | boxH (tag:Nat) (x:aC)
 | build (z:List IV) (ps:List (Nat×Nat×aC))
 | lit (mu:Bool) (z:List IV) (len:Nat) (ps:List (Nat×aC))
 | load1 (a:aC)
 | loadN (n:Nat) (a:aC)
 | store (n:Nat) (a v:aC)
 | nilCheck (x:aC)
 | bin (op:BinOp) (x y:aC)
 | eqB (neg:Bool) (k:EK) (x y:aC)
 | eqAgg (neg:Bool) (offs:List (Nat×LK)) (x y:aC)
 | un (op:UnOp) (x:aC)
 | conv (k:CK) (x:aC)
 | mkFn (f:Nat) (fst cap:List aC)
 | mkMap
 | mkSlice (z:List IV) (bytes:Nat) (l c:aC)
 | slice (k:SK) (x:aC) (lo hi mx:Option aC)
 | fieldAddr (off:Nat) (x:aC)
 | field (off n:Nat) (ag:Bool) (x:aC)
 | indexAddrS (es:Nat) (x i:aC)
 | indexAddrA (len es:Nat) (x i:aC)
 | indexA (len es:Nat) (ag:Bool) (x i:aC)
 | indexS (x i:aC)
 | lookup (kk:KK) (z:IV) (ok:Bool) (m k:aC)
 | update (kk:KK) (m k v:aC)
 | entry (kk:KK) (z:IV) (m k:aC)
 | entryStore (m s v:aC)
 | range (str:Bool) (x:aC)
 | nextS (i:aC)
 | nextM (i:aC)
 | entryM (i:aC)
 | extract (i:Nat) (x:aC)
 | append (mu:Bool) (es bytes el:Nat) (s x:aC)
 | copy (es:Nat) (d s:aC)
 | grow (es bytes el:Nat) (s n:aC)
 | clear (z:List IV) (x:aC)
 | len (k:NK) (x:aC)
 | cap (x:aC)
 | lenC (n:Nat)
 | delete (kk:KK) (m k:aC)
 | minmax (mx:Bool) (xs:List aC)
 | call (pure trunc:Bool) (f:Nat) (args:List aC)
 | callv (f:aC) (args:List aC)
 | prim (f:Nat) (args:List aC)
 | bad
structure aG where
 op:TOp
 loc:Option Nat
 guard:Option (Nat×Bool)
inductive bF where
 | normal
 | exit (id:Nat)
 | ret
inductive aL where
 | skip
 | region (ops:List aG)
 | draw (f0:List Nat) (ph:List (Nat×List Nat×List Nat)) (ops:List aG)
 | seq (a b:aL)
 | cond (c:aC) (a b:aL)
 | block (id:Nat) (b:aL)
 | loop (b:aL)
 | rangeFunc (f:aC) (ps:List Nat) (assign body:aL)
 | exit (id:Nat)
 | ret
 | bad
inductive kN where
 | loc (j:Nat)
 | cell (j n:Nat) (ag:Bool)
structure aN where
 nparams:Nat
 nlocs:Nat
 results:List kN
 body:aL
inductive aW where
 | cells (ver:Nat) (loose:Bool) (cs:List TV)
 | frz (ver:Nat) (cs:List IV)
 | tok (n es el:Nat)
 | mp (es:List (Nat×IV×TV)) (clock:Nat)
 | sit (s:List UInt8) (pos:Nat)
 | mit (m:Option Nat) (since:Nat) (seen:List Nat) (last:Nat)
 | lp (st:LoopState) (pend:Option bF) (env:List TV) (ps:List Nat) (assign body:aL)
inductive Out (α:Type) where
 | ret (a:α)
 | fail (why:String)
 | pick (n:Nat) (k:Nat→Out α)
def Out.bind {α β:Type}:Out α→(α→Out β)→Out β
 | .ret a,f=>f a
 | .fail s,_=>.fail s
 | .pick n k,f=>.pick n fun i=>(k i).bind f
def Out.ofOpt {α:Type}(why:String):Option α→Out α
 | some a=>.ret a
 | none=>.fail why
abbrev aA:=List aW
abbrev Env:=List TV
def kO:List TV→Option (List IV)
 | []=>some []
 | .iv v::r=>(kO r).map (v::·)
 | _::_=>none
def cellsOf:TV→List TV
 | .iv (.agg cs)=>cs.map .iv
 | .agg cs=>cs
 | v=>[v]
def gK:TV→Option (List TV)
 | .iv (.agg cs)=>some (cs.map .iv)
 | .agg cs=>some cs
 | _=>none
def nJ (cs:List TV):TV :=
 match kO cs with
 | some l=>.iv (.agg l)
 | none=>.agg cs
def eZ (ag:Bool)(cs:List TV):Option TV :=
 if ag then some (nJ cs) else match cs with
  | [c]=>some c
  | _=>none
def nT:TV→Option IV
 | .iv v=>some v
 | .tsl _ es=>some (.sl .no es)
 | _=>none
def toIVs:List TV→Option (List IV)
 | []=>some []
 | v::r=>match nT v,toIVs r with
  | some a,some l=>some (a::l)
  | _,_=>none
def mC:TV→Option IV
 | .agg cs=>(toIVs cs).map .agg
 | v=>nT v
def kP (v:TV):TV :=
 match mC v with
 | some a=>.iv a
 | none=>v
def sub {α:Type}(cs:List α)(off n:Nat):Option (List α) :=
 if off+n≤cs.length then some ((cs.drop off).take n) else none
def put {α:Type}(cs:List α)(off:Nat)(vs:List α):List α :=
 cs.take off++vs++cs.drop (off+vs.length)
def dI {α:Type}(es:Nat):Nat→List α→List (List α)
 | 0,_=>[]
 | n+1,cs=>cs.take es::dI es n (cs.drop es)
def lK (k:LK)(x y:IV):Option Bool :=
 match k,x,y with
 | .bool,.bool a,.bool b=>some (a==b)
 | .int,.int k a,.int k' b=>if k=k' then some (a==b) else none
 | .str,.str a,.str b=>some (a==b)
 | _,_,_=>none
def gL (a b:List IV):List (Nat×LK)→Option Bool
 | []=>some true
 | o::os=>match a[o.1]?,b[o.1]? with
  | some x,some y=>match lK o.2 x y with
   | some true=>gL a b os
   | some false=>some false
   | none=>none
  | _,_=>none
def aBc (kk:KK)(a b:IV):Option Bool :=
 match kk with
 | .leaf k=>lK k a b
 | .agg offs=>match a,b with
  | .agg x,.agg y=>gL x y offs
  | _,_=>none
def nU:IV→IV→Bool
 | .bool a,.bool b=>a==b
 | .int k a,.int k' b=>k==k'&&a==b
 | .str a,.str b=>a==b
 | _,_=>false
def iS:List IV→List IV→Bool
 | [],[]=>true
 | a::as,b::bs=>nU a b&&iS as bs
 | _,_=>false
def hO:IV→IV→Bool
 | .agg a,.agg b=>iS a b
 | a,b=>nU a b
def iO (kk:KK)(a:IV):Bool :=
 match kk,a with
 | .agg offs,.agg cs=>offs.all fun o=>decide (o.1<cs.length)
 | .agg _,_=>false
 | .leaf _,_=>true
def findKey (kk:KK)(k:IV):List (Nat×IV×TV)→Nat→Option (Option (Nat×TV))
 | [],_=>some none
 | e::es,i=>match aBc kk k e.2.1 with
  | some true=>some (some (i,e.2.2))
  | some false=>findKey kk k es (i+1)
  | none=>none
def aF (l:List UInt8):List (List IV):=l.map fun b=>[.int .u8 b.toNat]
def aIi:List IV→Option UInt8
 | [.int .u8 n]=>some (UInt8.ofNat n.toNat)
 | _=>none
def gT:List (List IV)→Option (List UInt8)
 | []=>some []
 | c::r=>match aIi c,gT r with
  | some b,some l=>some (b::l)
  | _,_=>none
def bM {α:Type}:List (List α)→List α
 | []=>[]
 | a::r=>a++bM r
def fN:TV→Option Int
 | .iv (.int _ n)=>some n
 | _=>none
def tN:TV→Option Bool
 | .iv (.bool b)=>some b
 | _=>none
def hP (op:BinOp)(k:IntKind)(a b:Int):Option IV :=
 match op with
 | .add=>some (.int k (k.wrap (a+b)))
 | .sub=>some (.int k (k.wrap (a-b)))
 | .mul=>some (.int k (k.wrap (a*b)))
 | .quo=>if b=0 then none else some (.int k (k.wrap (a.tdiv b)))
 | .rem=>if b=0 then none else some (.int k (a.tmod b))
 | .and=>some (.int k (k.wrap (BitVec.ofInt k.bits a &&& BitVec.ofInt k.bits b).toNat))
 | .or=>some (.int k (k.wrap (BitVec.ofInt k.bits a ||| BitVec.ofInt k.bits b).toNat))
 | .xor=>some (.int k (k.wrap (BitVec.ofInt k.bits a ^^^ BitVec.ofInt k.bits b).toNat))
 | .andNot=>some (.int k (k.wrap (BitVec.ofInt k.bits a &&& ~~~ BitVec.ofInt k.bits b).toNat))
 | .eql=>some (.bool (a==b))
 | .neq=>some (.bool (a != b))
 | .lss=>some (.bool (a<b))
 | .leq=>some (.bool (a≤b))
 | .gtr=>some (.bool (a>b))
 | .geq=>some (.bool (a≥b))
 | _=>none
def rP (op:BinOp)(k:IntKind)(a b:Int):Option IV :=
 if b<0 then none else
 match op with
 | .shl=>some (.int k (k.wrap (a*2 ^ min b.toNat k.bits)))
 | .shr=>some (.int k (a.fdiv (2 ^ min b.toNat k.bits)))
 | _=>none
def aLv (op:BinOp)(x y:List UInt8):Option IV :=
 match op with
 | .add=>if x.length+y.length≤4611686018427387904 then some (.str (x++y)) else none
 | .eql=>some (.bool (x==y))
 | .neq=>some (.bool (!(x==y)))
 | .lss=>some (.bool (Op.bytesLess x y))
 | .leq=>some (.bool (Op.bytesLess x y||x==y))
 | .gtr=>some (.bool (!(Op.bytesLess x y||x==y)))
 | .geq=>some (.bool (!(Op.bytesLess x y)))
 | _=>none
def uL:TV→Bool
 | .ptr .. | .lp .. | .iv (.cp _)=>true
 | _=>false
def eqB (k:EK)(x y:TV):Option Bool :=
 match k with
 | .bool=>match x,y with
  | .iv (.bool a),.iv (.bool b)=>some (a==b)
  | _,_=>none
 | .ptr=>match x,y with
  | .iv .nilp,.iv .nilp=>some true
  | .iv .nilp,y=>if uL y then some false else none
  | x,.iv .nilp=>if uL x then some false else none
  | _,_=>none
 | .sl=>match x,y with
  | .iv (.sl .nil _),.iv (.sl t _)=>some (t==.nil)
  | .iv (.sl t _),.iv (.sl .nil _)=>some (t==.nil)
  | .iv (.sl .nil _),.msl ..=>some false
  | .msl ..,.iv (.sl .nil _)=>some false
  | .iv (.sl .nil _),.tsl ..=>some false
  | .tsl ..,.iv (.sl .nil _)=>some false
  | _,_=>none
 | .mp=>match x,y with
  | .iv .nilm,.iv .nilm=>some true
  | .iv .nilm,.map _=>some false
  | .map _,.iv .nilm=>some false
  | _,_=>none
 | .fn=>match x,y with
  | .iv .nilf,.iv .nilf=>some true
  | .iv .nilf,.fn ..=>some false
  | .fn ..,.iv .nilf=>some false
  | _,_=>none
def binOp (op:BinOp)(x y:TV):Option IV :=
 match x,y with
 | .iv (.int k a),.iv (.int k' b) =>
  match op with
  | .shl | .shr=>rP op k a b
  | _=>if k=k' then hP op k a b else none
 | .iv (.str a),.iv (.str b)=>aLv op a b
 | _,_=>none
def eqAgg (neg:Bool)(offs:List (Nat×LK))(x y:TV):Option IV :=
 match x,y with
 | .iv (.agg a),.iv (.agg b)=>(gL a b offs).map fun r=>.bool (if neg then !r else r)
 | _,_=>none
def unOp (op:UnOp)(x:TV):Option IV :=
 match op,x with
 | .neg,.iv (.int k n)=>hP .sub k 0 n
 | .xor,.iv (.int k n)=>hP .xor k (if k.signed then -1 else k.max) n
 | .not,.iv (.bool b)=>some (.bool !b)
 | _,_=>none
def cH (k:CK)(x:TV):Option IV :=
 match k,x with
 | .toInt k,.iv (.int _ n)=>some (.int k (k.wrap n))
 | .intStr,.iv (.int _ n)=>some (.str (Utf8.encode n).data.toList)
 | .strStr,.iv (.str s)=>some (.str s)
 | .strBytes,.iv (.str s)=>if s.length≤70368744177664 then some (.sl .no (aF s)) else none
 | _,_=>none
def min2 (mx:Bool):IV→IV→Option IV
 | .int k a,.int k' b=>if k=k' then some (.int k (if mx then (if b>a then b else a) else (if b<a then b else a))) else none
 | _,_=>none
def minmax (mx:Bool):IV→List TV→Option IV
 | a,[]=>some a
 | a,.iv b::r=>match min2 mx a b with
  | some c=>minmax mx c r
  | none=>none
 | _,_::_=>none
def bH (env:Env)(S:aA)(a:TV)(n:Nat):Option (List TV) :=
 match a with
 | .lp j off=>match env[j]? with
  | some (.lb cs)=>sub cs off n
  | _=>none
 | .ptr i v off=>match S[i]? with
  | some (.cells v' _ cs)=>if v'=v then sub cs off n else none
  | some (.frz v' cs)=>if v'=v then (sub cs off n).map (·.map .iv) else none
  | _=>none
 | .iv (.cp cs)=>(sub cs 0 n).map (·.map .iv)
 | _=>none
def bL:TV→Bool
 | .lp .. | .lb _ | .tup _ | .hole | .agg _ | .iv (.agg _)=>true
 | _=>false
def setCells (env:Env)(S:aA)(a:TV)(vs:List TV):Option (Env×aA) :=
 if vs.any bL then none else
 match a with
 | .lp j off=>match env[j]? with
  | some (.lb cs)=>if off+vs.length≤cs.length then some (env.set j (.lb (put cs off vs)),S) else none
  | _=>none
 | .ptr i v off=>match S[i]? with
  | some (.cells v' l cs)=>if v'=v∧off+vs.length≤cs.length then some (env,S.set i (.cells v' l (put cs off vs))) else none
  | _=>none
 | _=>none
def fH (S:aA):TV→Option (List (List IV))
 | .iv (.sl _ l)=>some l
 | .tsl _ l=>some l
 | .msl i v off len _ es=>match S[i]? with
  | some (.cells v' _ cs)=>if v'≠v then none else match sub cs off (len*es) with
   | some l=>(toIVs l).map (dI es len)
   | none=>none
  | some (.frz v' cs)=>if v'≠v then none else (sub cs off (len*es)).map (dI es len)
  | _=>none
 | _=>none
def hU (S:aA)(v:TV):Option (List TV) :=
 match v with
 | .iv (.sl _ l)=>some ((bM l).map .iv)
 | .tsl _ l=>some ((bM l).map .iv)
 | .iv (.str s)=>some (s.map fun b=>.iv (.int .u8 b.toNat))
 | .msl i v off len _ es=>match S[i]? with
  | some (.cells v' _ cs)=>if v'=v then sub cs off (len*es) else none
  | some (.frz v' cs)=>if v'=v then (sub cs off (len*es)).map (·.map .iv) else none
  | _=>none
 | _=>none
def lenOf (S:aA):TV→Option Nat
 | .iv (.str s)=>some s.length
 | .iv (.sl _ l)=>some l.length
 | .tsl _ l=>some l.length
 | .msl _ _ _ n _ _=>some n
 | .iv .nilm=>some 0
 | .map i=>match S[i]? with
  | some (.mp es _)=>some es.length
  | _=>none
 | _=>none
def aCt:TV→NK
 | .iv (.str _)=>.str
 | .iv .nilm=>.mp
 | .map _=>.mp
 | _=>.sl
def aFd:TV→Option Nat
 | .iv (.sl .nil _)=>some 0
 | .iv (.sl .full l)=>some l.length
 | _=>none
def dJ (a:TV)(n:Nat):Option TV :=
 match a with
 | .lp j off=>some (.lp j (off+n))
 | .ptr i v off=>some (.ptr i v (off+n))
 | .iv (.cp cs)=>if n≤cs.length then some (.iv (.cp (cs.drop n))) else none
 | _=>none
def indexAddrS (es:Nat)(x:TV)(i:Int):Option TV :=
 if i<0 then none else
 match x with
 | .iv (.sl _ l)=>match l[i.toNat]? with
  | some c=>if c.length=es then some (.iv (.cp c)) else none
  | none=>none
 | .tsl _ l=>match l[i.toNat]? with
  | some c=>if c.length=es then some (.iv (.cp c)) else none
  | none=>none
 | .msl b v off len _ e=>if i<len∧e=es then some (.ptr b v (off+i.toNat*es)) else none
 | _=>none
def nN {α:Type}(es:Nat):List (List α)→Bool
 | []=>true
 | c::_=>c.length==es
def kQ (x:Option Int)(dflt y:Nat):Option Nat :=
 match x with
 | none=>some dflt
 | some i=>if 0≤i∧i≤y then some i.toNat else none
def eL (len cap:Nat)(lo hi mx:Option Int):Option (Nat×Nat×Nat) :=
 match mx,hi with
 | some _,none=>none
 | _,_ =>
  match kQ mx cap cap with
  | none=>none
  | some m=>match kQ hi len m with
   | none=>none
   | some h=>match kQ lo 0 h with
    | none=>none
    | some l=>some (l,h,m)
def eY (t:Tag)(l:List (List IV))(lo hi mx:Option Int):Option IV :=
 match t with
 | .no =>
  match mx with
  | some _ =>
   -- its capacity is not known: only a full slice expression that stays within what is known
   match eL l.length l.length lo hi mx with
   | some (a,b,m)=>some (.sl (if m=b then .full else .no) ((l.drop a).take (b-a)))
   | none=>none
  | none =>
   match eL l.length l.length lo hi none with
   | some (a,b,_)=>some (.sl .no ((l.drop a).take (b-a)))
   | none=>none
 | .nil =>
  match eL 0 0 lo hi mx with
  | some _=>some (.sl .nil [])
  | none=>none
 | .full =>
  match eL l.length l.length lo hi mx with
  | some (a,b,m)=>some (.sl (if m=b then .full else .no) ((l.drop a).take (b-a)))
  | none=>none
def uM (S:aA)(b v:Nat):Bool :=
 match S[b]? with
 | some (.cells v' _ _)=>v'==v
 | some (.frz v' _)=>v'==v
 | _=>false
def cZ (S:aA)(k:SK)(x:TV)(lo hi mx:Option Int):Option TV :=
 match k,x with
 | .str,.iv (.str s) =>
  match mx with
  | some _=>none
  | none=>match eL s.length s.length lo hi none with
   | some (a,b,_)=>some (.iv (.str ((s.drop a).take (b-a))))
   | none=>none
 | .sl es,.iv (.sl t l)=>if nN es l then (eY t l lo hi mx).map .iv else none
 | .sl _,.rsv i l _=>if lo=none∧mx=none∧hi=some (l.length:Int) then some (.tsl i l) else none
 | .sl es,.tsl _ l=>if nN es l then (eY .no l lo hi mx).map .iv else none
 | .sl es,.msl b v off len cap e =>
  if e≠es∨uM S b v=false then none else
  match eL len cap lo hi mx with
  | some (l,h,m)=>some (.msl b v (if m=l then off else off+l*es) (h-l) (m-l) es)
  | none=>none
 | .arr n e,a =>
  match a with
  | .ptr b v off=>match S[b]? with
   | some (.cells v' _ cs)=>if v'=v∧off+n*e≤cs.length then match eL n n lo hi mx with
     | some (l,h,m)=>some (.msl b v (if m=l then off else off+l*e) (h-l) (m-l) e)
     | none=>none
    else none
   | _=>none
  | .iv (.cp cs)=>if cs.length<n*e then none else match eL n n lo hi mx with
   | some (l,h,m)=>some (.iv (.sl (if m=h then .full else .no) (((dI e n cs).drop l).take (h-l))))
   | none=>none
  | _=>none
 | _,_=>none
def fF (n bytes:Nat):Bool:=n*bytes≤35184372088832&&bytes≤1048576&&n≤35184372088832
def aFe:TV→Bool
 | .iv (.sl _ _) | .msl .. | .tsl ..=>true
 | _=>false
def bR (mu:Bool)(es bytes el:Nat)(S:aA)(s:TV)(x:TV):Option (TV×aA) :=
 match hU S x,lenOf S x with
 | some xs,some m =>
  if xs.length≠m*es∨xs.any bL=true then none else
  if m=0 then (if aFe s then some (s,S) else none) else
  match s with
  | .iv (.sl t l) =>
   if t==.no||!(nN es l) then none else
   if !(fF (l.length+m) bytes) then none else
   if mu then
    some (.msl S.length 0 0 (l.length+m) (l.length+m) es,S++[.cells 0 true ((bM l).map .iv++xs)])
   else match toIVs xs with
    | some ys=>some (.tsl S.length (l++dI es m ys),S++[.tok (l.length+m) es el])
    | none=>if l=[] then some (.msl S.length 0 0 m m es,S++[.cells 0 true xs]) else none
  | .tsl i l =>
   match S[i]?,toIVs xs with
   | some (.tok n e t),some ys =>
    if n=l.length&&e=es&&t=el&&nN es l&&fF (l.length+m) bytes then some (.tsl i (l++dI es m ys),S.set i (.tok (l.length+m) es el)) else none
   | _,_=>none
  | .msl b v off len cap e =>
   match S[b]? with
   | some (.cells v' loose cs) =>
    if e≠es∨v'≠v then none else
    if len+m≤cap then
     if off+(len+m)*es≤cs.length then some (.msl b v off (len+m) cap es,S.set b (.cells v loose (put cs (off+len*es) xs))) else none
    else if !(fF (len+m) bytes) then none else
     match sub cs off (len*es) with
     | some old =>
      if loose then some (.msl b (v+1) 0 (len+m) (len+m) es,S.set b (.cells (v+1) true (old++xs)))
      else some (.msl S.length 0 0 (len+m) (len+m) es,S++[.cells 0 true (old++xs)])
     | none=>none
   | _=>none
  | _=>none
 | _,_=>none
def aIj (es bytes el:Nat)(S:aA)(s:TV)(n:Int):Option (TV×aA) :=
 match s with
 | .iv (.sl t l) =>
  if t==.no||!(nN es l)||n≤0 then none else
  if fF (l.length+n.toNat) bytes then some (.rsv S.length l n.toNat,S++[.tok l.length es el]) else none
 | _=>none
def aCu (z:List IV)(S:aA)(x:TV):Option aA :=
 match x with
 | .iv (.sl _ [])=>some S
 | .msl b v off len _ e =>
  if len=0 then some S else
  match S[b]? with
  | some (.cells v' loose cs) =>
   if e=z.length∧v'=v∧off+len*e≤cs.length then some (S.set b (.cells v loose (put cs off (bM (List.replicate len (z.map .iv)))))) else none
  | _=>none
 | _=>none
def aCv (es:Nat)(S:aA)(d s:TV):Option (TV×aA) :=
 match d,hU S s,lenOf S s with
 | .msl b v off len _ e,some xs,some m =>
  if e≠es∨xs.length≠m*es then none else
  let n:=min m len
  if n=0 then some (.iv (.int .i64 0),S) else
  match S[b]? with
  | some (.cells v' loose cs) =>
   if v'=v∧off+n*es≤cs.length∧xs.any bL=false then some (.iv (.int .i64 n),S.set b (.cells v loose (put cs off (xs.take (n*es))))) else none
  | _=>none
 | .iv (.sl _ []),some xs,some m=>if xs.length=m*es then some (.iv (.int .i64 0),S) else none
 | .tsl _ [],some xs,some m=>if xs.length=m*es then some (.iv (.int .i64 0),S) else none
 | _,_,_=>none
def aYt (S:aA):TV→Option IV
 | .iv v=>some v
 | .tsl _ l=>some (.sl .no l)
 | .msl i v off len cap es=>match fH S (.msl i v off len cap es) with
  | some l=>some (.sl .no l)
  | none=>none
 | _=>none
def aSl (S:aA):List TV→Option (List IV)
 | []=>some []
 | v::r=>match aYt S v,aSl S r with
  | some a,some l=>some (a::l)
  | _,_=>none
def aFf (S:aA):TV→Option IV
 | .agg cs=>(aSl S cs).map .agg
 | v=>aYt S v
def rQ (S:aA):List TV→Option (List TV)
 | []=>some []
 | v::r=>match aFf S v,rQ S r with
  | some a,some l=>some (.iv a::l)
  | _,_=>none
def resolve (S:aA):TV→Option TV
 | .tup vs=>(rQ S vs).map .tup
 | v=>(aFf S v).map .iv
def aAe:TV→Bool
 | .iv _=>true
 | _=>false
def mD (S:aA):TV→Option TV
 | .fn f fst cap=>if fst.all aAe&&cap.all aAe then some (.fn f fst cap) else none
 | v=>(aFf S v).map .iv
def dD (S:aA):List TV→Option (List TV)
 | []=>some []
 | v::r=>match mD S v,dD S r with
  | some a,some l=>some (a::l)
  | _,_=>none
def rR:TV→Bool
 | .msl ..=>true
 | .agg cs=>cs.any fun | .msl ..=>true|_=>false
 | _=>false
def gF:IV→Bool
 | .bool _ | .int _ _ | .str _ | .nilp | .nilm | .nilf | .nili=>true
 | .agg cs=>cs.all fun | .bool _ | .int _ _ | .str _=>true|_=>false
 | _=>false
def gM:TV→Bool
 | .iv v=>gF v
 | .tup vs=>vs.all fun | .iv v=>gF v|_=>false
 | _=>false
mutual
def fA:IV→IV→Bool
 | .bool a,.bool b=>a==b
 | .int k a,.int k' b=>k==k'&&a==b
 | .str a,.str b=>a==b
 | .sl t a,.sl u b=>t==u&&fY a b
 | .agg a,.agg b=>jH a b
 | .cp a,.cp b=>jH a b
 | .nilp,.nilp=>true
 | .nilm,.nilm=>true
 | .nilf,.nilf=>true
 | .nili,.nili=>true
 | _,_=>false
def jH:List IV→List IV→Bool
 | [],[]=>true
 | a::as,b::bs=>fA a b&&jH as bs
 | _,_=>false
def fY:List (List IV)→List (List IV)→Bool
 | [],[]=>true
 | a::as,b::bs=>jH a b&&fY as bs
 | _,_=>false
end
def aFg:TV→TV→Bool
 | .iv a,.iv b=>fA a b
 | .lp j o,.lp j' o'=>j==j'&&o==o'
 | .ptr j v o,.ptr j' v' o'=>j==j'&&v==v'&&o==o'
 | .msl a v b c d e,.msl a' v' b' c' d' e'=>a==a'&&v==v'&&b==b'&&c==c'&&d==d'&&e==e'
 | .tsl i a,.tsl j b=>i==j&&fY a b
 | .map i,.map j=>i==j
 | _,_=>false
def rS:List TV→List TV→Bool
 | [],[]=>true
 | a::as,b::bs=>aFg a b&&rS as bs
 | _,_=>false
def same:TV→TV→Bool
 | .fn f a b,.fn g c d=>f==g&&rS a c&&rS b d
 | .agg a,.agg b=>rS a b
 | .tup a,.tup b=>rS a b
 | a,b=>aFg a b
end Go.TM
namespace Go.TM
abbrev vU:=List TV→aA→Option (TV×aA)
structure bG where
 funcs:Nat→Option aN
 glob:Nat→Option (List IV)
 prim:Nat→Option vU
variable (K:bG)
def aX (env rs:List TV):aC→TV
 | .reg i=>rs.getD i .hole
 | .loc j=>match env.getD j .hole with
  | .lb _=>.lp j 0
  | v=>v
 | .cst v=>.iv v
 | .fn f=>.fn f [] []
 | .glob g=>match K.glob g with
  | some cs=>.iv (.cp cs)
  | none=>.hole
def kD (e:aC→TV)(x:Option aC):Option (Option Int) :=
 match x with
 | none=>some none
 | some x=>(fN (e x)).map some
def fill (cs:List TV)(e:aC→TV):List (Nat×Nat×aC)→Option (List TV)
 | []=>some cs
 | (off,n,x)::r =>
  let vs:=cellsOf (kP (e x))
  if vs.length=n∧off+n≤cs.length∧vs.any bL=false then fill (put cs off vs) e r else none
def dG (es:List (List TV))(n:Nat)(e:aC→TV):List (Nat×aC)→Option (List (List TV))
 | []=>some es
 | (i,x)::r =>
  let vs:=cellsOf (kP (e x))
  if vs.length=n∧i<es.length∧vs.any bL=false then dG (es.set i vs) n e r else none
def gV:List (List TV)→Option (List (List IV))
 | []=>some []
 | c::r=>match kO c,gV r with
  | some a,some l=>some (a::l)
  | _,_=>none
def pO (j:Nat):TV→Bool
 | .lp k _=>k==j
 | _=>false
def dK:TV→Bool
 | .lp .. | .lb _=>true
 | _=>false
def aQ (o:TOp)(e:aC→TV):Option TV :=
 match o with
 | .mov x=>some (e x)
 | .pick c a b=>match tN (e c) with
  | some t=>some (if t then e a else e b)
  | none=>none
 | .build z ps=>(fill (z.map .iv) e ps).map nJ
 | .lit false z len ps=>match dG (List.replicate len (z.map .iv)) z.length e ps with
  | some es=>(gV es).map fun l=>.iv (.sl .full l)
  | none=>none
 | .nilCheck x=>if uL (e x) then some (e x) else none
 | .bin op x y=>(binOp op (e x) (e y)).map .iv
 | .eqB neg k x y=>(eqB k (e x) (e y)).map fun b=>.iv (.bool (if neg then !b else b))
 | .eqAgg neg offs x y=>(eqAgg neg offs (e x) (e y)).map .iv
 | .un op x=>(unOp op (e x)).map .iv
 | .conv k x=>(cH k (e x)).map .iv
 | .mkFn f fst cap=>if (fst.map e++cap.map e).any dK then none else some (.fn f (fst.map e) (cap.map e))
 | .fieldAddr off x=>dJ (e x) off
 | .field off n ag x=>match gK (e x) with
  | some all=>match sub all off n with
   | some cs=>eZ ag cs
   | none=>none
  | none=>none
 | .indexAddrS es x k=>match fN (e k) with
  | some n=>indexAddrS es (e x) n
  | none=>none
 | .indexAddrA len es x k=>match fN (e k) with
  | some n=>if 0≤n∧n<len then dJ (e x) (n.toNat*es) else none
  | none=>none
 | .indexA len es ag x k=>match fN (e k) with
  | some n=>if 0≤n∧n<len then match gK (e x) with
    | some all=>match sub all (n.toNat*es) es with
     | some cs=>eZ ag cs
     | none=>none
    | none=>none
   else none
  | none=>none
 | .indexS x k=>match e x,fN (e k) with
  | .iv (.str s),some n=>if 0≤n then (s[n.toNat]?).map fun b=>.iv (.int .u8 b.toNat) else none
  | _,_=>none
 | .extract n x=>match e x with
  | .tup vs=>vs[n]?
  | _=>none
 | .cap x=>(aFd (e x)).map fun (n:Nat)=>.iv (.int .i64 n)
 | .lenC n=>some (.iv (.int .i64 n))
 | .minmax mx xs=>match xs.map e with
  | .iv a::r=>(minmax mx a r).map .iv
  | _=>none
 | _=>none
def nV (kk:KK)(S:aA)(m:TV)(k:IV):Option (Option (Nat×TV)) :=
 match m with
 | .iv .nilm=>some none
 | .map j=>match S[j]? with
  | some (.mp es _)=>findKey kk k es 0
  | _=>none
 | _=>none
def aK (o:TOp)(e:aC→TV)(env:Env)(S:aA):Option TV :=
 match o with
 | .load1 a=>match bH env S (e a) 1 with
  | some cs=>eZ false cs
  | none=>none
 | .loadN n a=>match bH env S (e a) n with
  | some cs=>eZ true cs
  | none=>none
 | .conv .bytesStr x=>match fH S (e x) with
  | some l=>(gT l).map fun b=>.iv (.str b)
  | none=>none
 | .slice k x lo hi mx=>match kD e lo,kD e hi,kD e mx with
  | some lo,some hi,some mx=>cZ S k (e x) lo hi mx
  | _,_,_=>none
 | .lookup kk z ok m k=>match mC (e k) with
  | some k =>
   if !(iO kk k) then none else
   match nV kk S (e m) k with
   | some (some (_,x))=>some (if ok then .tup [x,.iv (.bool true)] else x)
   | some none=>some (if ok then .tup [.iv z,.iv (.bool false)] else .iv z)
   | none=>none
  | none=>none
 | .entryM x=>match e x with
  | .it j=>match S[j]? with
   | some (.mit (some m) _ seen last)=>match S[m]?,seen.getLast? with
    | some (.mp es clock),some stamp=>if clock≠last then none else match es.find? (·.1==stamp) with
     | some y=>some (.tup [.iv y.2.1,y.2.2])
     | none=>none
    | _,_=>none
   | _=>none
  | _=>none
 | .len k x=>if aCt (e x)=k then (lenOf S (e x)).map fun (n:Nat)=>.iv (.int .i64 n) else none
 | _=>none
def bK (o:TOp)(e:aC→TV)(n:Nat):Option (TV×aW) :=
 match o with
 | .allocH t z=>some (.ptr n t 0,.cells t false (z.map .iv))
 | .boxH t x=>if (cellsOf (e x)).any bL then none else some (.ptr n t 0,.cells t false (cellsOf (e x)))
 | .lit _ z len ps=>match dG (List.replicate len (z.map .iv)) z.length e ps with
  | some es=>some (.msl n 0 0 es.length es.length z.length,.cells 0 false (bM es))
  | none=>none
 | .mkMap=>some (.map n,.mp [] 0)
 | .mkSlice z bytes l c=>match fN (e l),fN (e c) with
  | some l,some c =>
   if 0≤l∧l≤c∧fF c.toNat bytes=true then
    some (.msl n 0 0 l.toNat c.toNat z.length,.cells 0 false (bM (List.replicate c.toNat (z.map .iv))))
   else none
  | _,_=>none
 | _=>none
def fB (o:TOp)(e:aC→TV)(rs:List TV)(env:Env)(S:aA):Option (TV×Env×aA) :=
 match o with
 | .allocL j z=>if rs.any (pO j)||!(decide (j<env.length)) then none else some (.lp j 0,env.set j (.lb (z.map .iv)),S)
 | .boxL j x=>if (cellsOf (e x)).any bL||rs.any (pO j)||!(decide (j<env.length)) then none else some (.lp j 0,env.set j (.lb (cellsOf (e x))),S)
 | .store n a x =>
  let vs:=cellsOf (e x)
  if vs.length=n then match setCells env S (e a) vs with
   | some (env,S)=>some (undef,env,S)
   | none=>none
  else none
 | .update kk m k x=>match mC (e k),e m with
  | some k,.map j=>if !(iO kk k) then none else match S[j]? with
   | some (.mp es clock)=>if dK (e x) then none else match findKey kk k es 0 with
    | some (some (n,_))=>if !(((es[n]?).map fun y=>hO y.2.1 k).getD false) then none else some (undef,env,S.set j (.mp (es.modify n fun y=>(y.1,k,e x)) clock))
    | some none=>some (undef,env,S.set j (.mp (es++[(clock,k,e x)]) (clock+1)))
    | none=>none
   | _=>none
  | _,_=>none
 | .entry kk z m k=>match mC (e k),e m with
  | some k,.map j=>if !(iO kk k) then none else match S[j]? with
   | some (.mp es clock)=>match findKey kk k es 0 with
    | some (some (n,x))=>if !(((es[n]?).map fun y=>hO y.2.1 k).getD false) then none else some (.tup [x,.iv (.int .i64 (((es[n]?).map (·.1)).getD 0:Nat))],env,S.set j (.mp (es.modify n fun y=>(y.1,k,y.2.2)) clock))
    | some none=>some (.tup [.iv z,.iv (.int .i64 clock)],env,S.set j (.mp (es++[(clock,k,.iv z)]) (clock+1)))
    | none=>none
   | _=>none
  | _,_=>none
 | .entryStore m s x=>match e m,fN (e s) with
  | .map j,some born=>match S[j]? with
   | some (.mp es clock)=>if dK (e x) then none else match es.findIdx? (fun y=>(y.1:Int)==born) with
    | some n=>some (undef,env,S.set j (.mp (es.modify n fun y=>(y.1,y.2.1,e x)) clock))
    | none=>none
   | _=>none
  | _,_=>none
 | .range str x=>match str,e x with
  | true,.iv (.str s)=>some (.it S.length,env,S++[.sit s 0])
  | false,.iv .nilm=>some (.it S.length,env,S++[.mit none 0 [] 0])
  | false,.map j=>match S[j]? with
   | some (.mp _ clock)=>some (.it S.length,env,S++[.mit (some j) clock [] clock])
   | _=>none
  | _,_=>none
 | .nextS x=>match e x with
  | .it j=>match S[j]? with
   | some (.sit s pos) =>
    if pos<s.length then
     let (c,width):=Utf8.decode ⟨s.toArray⟩ pos
     some (.tup [.iv (.bool true),.iv (.int .i64 pos),.iv (.int .i32 c)],env,S.set j (.sit s (pos+width)))
    else some (.tup [.iv (.bool false)],env,S)
   | _=>none
  | _=>none
 | .append mu es bytes el s x=>match bR mu es bytes el S (e s) (e x) with
  | some (x,S)=>some (x,env,S)
  | none=>none
 | .copy es d s=>match aCv es S (e d) (e s) with
  | some (x,S)=>some (x,env,S)
  | none=>none
 | .grow es bytes el s n=>match fN (e n) with
  | some n=>match aIj es bytes el S (e s) n with
   | some (x,S)=>some (x,env,S)
   | none=>none
  | none=>none
 | .clear z x=>match aCu z S (e x) with
  | some S=>some (undef,env,S)
  | none=>none
 | .delete kk m k=>match mC (e k),e m with
  | some k,.iv .nilm=>if iO kk k then some (undef,env,S) else none
  | some k,.map j=>if !(iO kk k) then none else match S[j]? with
   | some (.mp es clock)=>match findKey kk k es 0 with
    | some (some (n,_))=>some (undef,env,S.set j (.mp (es.eraseIdx n) clock))
    | some none=>some (undef,env,S)
    | none=>none
   | _=>none
  | _,_=>none
 | _=>none
def fZ (o:TOp)(env rs:List TV)(S:aA):Option TV :=
 match aQ o (aX K env rs) with
 | some v=>some v
 | none=>aK o (aX K env rs) env S
def gH (o:TOp)(env rs:List TV)(S:aA):Option (TV×Env×aA) :=
 match fZ K o env rs S with
 | some v=>some (v,env,S)
 | none=>match bK o (aX K env rs) S.length with
  | some (v,b)=>some (v,env,S++[b])
  | none=>fB o (aX K env rs) rs env S
def nW:TOp→String
 | .mov _ => "mov" | .pick .. => "pick" | .allocL .. => "allocL" | .allocH .. => "allocH" | .boxL .. => "boxL" | .boxH .. => "boxH" | .build .. => "build" | .lit .. => "lit"
 | .load1 _ => "load1" | .loadN .. => "loadN" | .store .. => "store" | .nilCheck _ => "nilCheck" | .bin .. => "bin" | .eqB .. => "eqB" | .eqAgg .. => "eqAgg" | .un .. => "un" | .conv .. => "conv"
 | .mkFn .. => "mkFn" | .mkMap => "mkMap" | .mkSlice .. => "mkSlice" | .slice .. => "slice" | .fieldAddr .. => "fieldAddr" | .field .. => "field" | .indexAddrS .. => "indexAddrS"
 | .indexAddrA .. => "indexAddrA" | .indexA .. => "indexA" | .indexS .. => "indexS" | .lookup .. => "lookup" | .update .. => "update" | .entry .. => "entry" | .entryStore .. => "entryStore"
 | .range .. => "range" | .nextS _ => "nextS" | .nextM _ => "nextM" | .entryM _ => "entryM" | .extract .. => "extract" | .append .. => "append" | .copy .. => "copy" | .grow .. => "grow"
 | .clear .. => "clear" | .len .. => "len" | .cap _ => "cap" | .lenC _ => "lenC" | .delete .. => "delete" | .minmax .. => "minmax" | .call .. => "call" | .callv .. => "callv" | .prim .. => "prim" | .bad => "bad"
structure Orc where
 call:Nat→List TV→aA→Out (TV×aA)
 yld:Nat→List TV→aA→Out (TV×aA)
 loop:aL→Env→aA→Out (bF×Env×aA)
def fC (n:Nat):TV→Bool
 | .iv _=>true
 | .ptr i _ _=>i<n
 | .msl i _ _ _ _ _=>i<n
 | .tsl i _=>i<n
 | .map i=>i<n
 | _=>false
def iT (n:Nat):aW→Bool
 | .cells _ _ cs=>cs.all (fC n)
 | .frz ..=>true
 | .tok ..=>true
 | .mp es _=>es.all fun y=>fC n y.2.2
 | .sit ..=>true
 | .mit m ..=>match m with|some i=>i<n|none=>true
 | .lp ..=>false
def nX (n:Nat)(v:TV)(S:aA):Option aA :=
 if S.length≤n then some S
 else if refAll n v&&(S.take n).all (iT n) then some (S.take n) else none
where
 refAll (n:Nat):TV→Bool
  | .tup vs=>vs.all (fC n)
  | .agg cs=>cs.all (fC n)
  | v=>fC n v
def rT (S:aA)(i:Nat):Option aA :=
 match S[i]? with
 | some (.cells v _ cs)=>(toIVs cs).map fun l=>S.set i (.frz v l)
 | some (.frz ..)=>some S
 | _=>none
def eP (S:aA):List TV→Option aA
 | []=>some S
 | .msl i _ _ _ _ _::r=>match rT S i with
  | some S=>eP S r
  | none=>none
 | .agg cs::r=>match freezeC S cs with
  | some S=>eP S r
  | none=>none
 | _::r=>eP S r
where
 freezeC (S:aA):List TV→Option aA
  | []=>some S
  | .msl i _ _ _ _ _::r=>match rT S i with
   | some S=>freezeC S r
   | none=>none
  | _::r=>freezeC S r
def dZ (orc:Orc)(f:Nat)(args:List TV)(S:aA):Out (TV×aA) :=
 match dD S args with
 | none => .fail "pure call: an argument"
 | some as=>(orc.call f as []).bind fun r =>
  match resolve r.2 r.1 with
  | none => .fail "pure call: the result"
  | some v =>
   if args.any rR&&!(gM v) then
    match eP S args with
    | some S=>.ret (v,S)
    | none => .fail "pure call: freeze"
   else .ret (v,S)
def gI (orc:Orc)(trunc:Bool)(f:Nat)(args:List TV)(S:aA):Out (TV×aA) :=
 if args.any dK then .fail "call: a local's address" else
 (orc.call f args S).bind fun r =>
  if trunc then match nX S.length r.1 r.2 with
   | some S'=>.ret (r.1,S')
   | none => .fail "call: trunc"
  else .ret r
def bS (orc:Orc)(o:TOp)(env rs:List TV)(S:aA):Out (TV×Env×aA) :=
 let e:=aX K env rs
 let w (x:Out (TV×aA)):Out (TV×Env×aA):=x.bind fun r=>.ret (r.1,env,r.2)
 match o with
 | .call pure trunc f args =>
  w (if pure then dZ orc f (args.map e) S else gI orc trunc f (args.map e) S)
 | .callv f args=>match e f with
  | .fn k fst cap=>w (if (fst++args.map e++cap).all aAe then dZ orc k (fst++args.map e++cap) S else gI orc false k (fst++args.map e++cap) S)
  | .yld i => if (args.map e).any dK then .fail "yield: a local's address" else w (orc.yld i (args.map e) S)
  | _ => .fail "callv"
 | .prim f args=>match K.prim f with
  | some p => if (args.map e).any dK then .fail "prim: a local's address" else w (Out.ofOpt "prim" (p (args.map e) S))
  | none => .fail "prim"
 | .nextM x=>match e x with
  | .it j=>match S[j]? with
   | some (.mit none _ _ _)=>.ret (.tup [.iv (.bool false)],env,S)
   | some (.mit (some m) since seen last)=>match S[m]? with
    | some (.mp es clock) =>
     if !seen.isEmpty && !es.isEmpty && es.all (fun y => decide (y.1 ≥ last)) then .fail "next" else
     let left:=es.filter fun y=>!seen.contains y.1
     let old:=left.filter (·.1<since)
     let new:=left.filter (·.1≥since)
     let cands:List (Option (Nat×IV×TV)):=(if old.isEmpty then [none] else [])++(old++new).map some
     .pick cands.length fun c=>match cands[c]? with
      | some (some y)=>.ret (.tup [.iv (.bool true),.iv y.2.1,y.2.2],env,S.set j (.mit (some m) since (seen++[y.1]) clock))
      | some none=>.ret (.tup [.iv (.bool false)],env,S)
      | none => .fail "next"
    | _ => .fail "next"
   | _ => .fail "next"
  | _ => .fail "next"
 | o=>Out.ofOpt (nW o) (gH K o env rs S)
def dA (g:Option (Nat×Bool))(rs:List TV):Option Bool :=
 match g with
 | none=>some true
 | some (i,want)=>match rs.getD i .hole with
  | .iv (.bool b)=>some (b==want)
  | .tup []=>some false
  | _=>none
def gW (orc:Orc)(o:aG)(i:Nat)(rs:List TV)(env:Env)(S:aA):Out (List TV×Env×aA) :=
 match dA o.guard rs with
 | none => .fail "guard"
 | some false=>.ret (rs.set i undef,env,S)
 | some true=>(bS K orc o.op env rs S).bind fun r=>.ret (rs.set i r.1,r.2.1,r.2.2)
def iA (orc:Orc):List aG→Nat→List TV→Env→aA→Out (List TV×Env×aA)
 | [],_,rs,env,S=>.ret (rs,env,S)
 | o::os,i,rs,env,S=>(gW K orc o i rs env S).bind fun r=>iA orc os (i+1) r.1 r.2.1 r.2.2
def eH:List aG→Nat→List TV→Env→Option Env
 | [],_,_,env=>some env
 | o::os,i,rs,env=>match o.loc with
  | none=>eH os (i+1) rs env
  | some j=>if dK (rs.getD i .hole) then none else eH os (i+1) rs (env.set j (rs.getD i .hole))
def dL (ops:List aG):List Nat→List TV→Env→aA→Option (List TV×aA)
 | [],rs,_,S=>some (rs,S)
 | i::is,rs,env,S=>match ops[i]? with
  | none=>none
  | some o=>match dA o.guard rs with
   | none=>none
   | some false=>dL ops is (rs.set i undef) env S
   | some true=>match fZ K o.op env rs S with
    | some v=>dL ops is (rs.set i v) env S
    | none=>match bK o.op (aX K env rs) S.length with
     | some (v,b)=>dL ops is (rs.set i v) env (S++[b])
     | none=>none
def kE (ops:List aG)(rs:List TV)(env:Env)(S:aA):List Nat→Bool
 | []=>true
 | i::is=>(match ops[i]? with
  | some o=>match dA o.guard rs with
   | some true=>match fZ K o.op env rs S with
    | some v=>same v (rs.getD i .hole)
    | none=>false
   | some false=>true
   | none=>false
  | none=>false)&&kE ops rs env S is
def dM (orc:Orc)(ops:List aG):List (Nat×List Nat×List Nat)→List TV→Env→aA→Out (List TV×Env×aA)
 | [],rs,env,S=>.ret (rs,env,S)
 | (i,chk,fl)::ps,rs,env,S=>match ops[i]? with
  | none => .fail "draw"
  | some o=>(gW K orc o i rs env S).bind fun r =>
   if kE K ops r.1 r.2.1 r.2.2 chk then
    match dL K ops fl r.1 r.2.1 r.2.2 with
    | some q=>dM orc ops ps q.1 r.2.1 q.2
    | none => .fail "draw: float"
   else .fail "draw: read anew"
def pT (n:Nat):List TV:=List.replicate n .hole
def noLb:TV→TV
 | .lb _=>.hole
 | v=>v
def eD (orc:Orc):aL→Env→aA→Out (bF×Env×aA)
 | .skip,env,S=>.ret (.normal,env,S)
 | .region ops,env,S=>(iA K orc ops 0 (pT ops.length) env S).bind fun r=>match eH ops 0 r.1 r.2.1 with
  | some env=>.ret (.normal,env,r.2.2)
  | none => .fail "local"
 | .draw f0 ph ops,env,S=>match dL K ops f0 (pT ops.length) env S with
  | none => .fail "draw: float"
  | some q=>(dM K orc ops ph q.1 env q.2).bind fun r=>match eH ops 0 r.1 r.2.1 with
   | some env=>.ret (.normal,env,r.2.2)
   | none => .fail "local"
 | .seq a b,env,S=>(eD orc a env S).bind fun r=>match r.1 with
  | .normal=>eD orc b r.2.1 r.2.2
  | j=>.ret (j,r.2.1,r.2.2)
 | .cond c a b,env,S=>match tN (aX K env [] c) with
  | some true=>eD orc a env S
  | some false=>eD orc b env S
  | none => .fail "cond"
 | .block id b,env,S=>(eD orc b env S).bind fun r=>match r.1 with
  | .exit id'=>if id'=id then .ret (.normal,r.2.1,r.2.2) else .ret (.exit id',r.2.1,r.2.2)
  | j=>.ret (j,r.2.1,r.2.2)
 | .loop b,env,S=>orc.loop b env S
 | .rangeFunc f ps assign body,env,S=>match aX K env [] f with
  | .fn k fst cap =>
   (orc.call k (fst++.yld S.length::cap) (S++[.lp .ready none (env.map noLb) ps assign body])).bind fun r =>
    match r.2[S.length]? with
    | some (.lp .busy ..) => .fail "range: busy"
    | some (.lp _ pend env' ps assign body) =>
     .ret (pend.getD .normal,env,r.2.set S.length (.lp .exhausted pend env' ps assign body))
    | _ => .fail "range"
  | _ => .fail "range"
 | .exit id,env,S=>.ret (.exit id,env,S)
 | .ret,env,S=>.ret (.ret,env,S)
 | .bad, _, _ => .fail "bad"
def gN (env:Env)(S:aA):kN→Option TV
 | .loc j=>match env.getD j .hole with
  | .lb _=>none
  | .lp ..=>none
  | v=>some v
 | .cell j n ag=>match bH env S (aX ⟨fun _=>none,fun _=>none,fun _=>none⟩ env [] (.loc j)) n with
  | some cs=>eZ ag cs
  | none=>none
def eI (env:Env)(S:aA):List kN→Option (List TV)
 | []=>some []
 | r::rs=>match gN env S r,eI env S rs with
  | some v,some l=>some (v::l)
  | _,_=>none
def jW (rs:List kN)(env:Env)(S:aA):Option TV :=
 match eI env S rs with
 | some [v]=>some v
 | some vs=>some (.tup vs)
 | none=>none
def eA (orc:Orc)(f:Nat)(args:List TV)(S:aA):Out (TV×aA) :=
 match K.funcs f with
 | none => .fail "no function"
 | some fn =>
  if args.length ≠ fn.nparams then .fail "arguments" else
  (eD K orc fn.body (args++List.replicate (fn.nlocs-fn.nparams) undef) S).bind fun r =>
   match r.1 with
   | .exit _ => .fail "exit"
   | _=>match jW fn.results r.2.1 r.2.2 with
    | some v=>.ret (v,r.2.2)
    | none => .fail "results"
def nY (env:Env):List Nat→List TV→Option Env
 | [],[]=>some env
 | j::js,v::vs=>if dK v then none else nY (env.set j v) js vs
 | _,_=>none
def dB:aL→Bool
 | .seq a b=>dB a&&dB b
 | .cond _ a b=>dB a&&dB b
 | .block _ b=>dB b
 | .loop b=>dB b
 | .rangeFunc ..=>false
 | _=>true
def gG (orc:Orc)(i:Nat)(args:List TV)(S:aA):Out (TV×aA) :=
 match S[i]? with
 | some (.lp _ _ env ps assign body) =>
  match nY env ps args with
  | none => .fail "yield: arguments"
  | some env1 =>
   (eD K orc assign env1 S).bind fun r =>
    match r.1,r.2.2[i]? with
    | .normal,some (.lp .ready p2 e2 ps2 a2 b2) =>
     (eD K orc body r.2.1 (r.2.2.set i (.lp .busy p2 e2 ps2 a2 b2))).bind fun q =>
      match q.2.2[i]? with
      | some (.lp _ _ e3 ps3 a3 b3)=>match q.1 with
       | .normal=>.ret (.iv (.bool true),q.2.2.set i (.lp .ready none e3 ps3 a3 b3))
       | j=>.ret (.iv (.bool false),q.2.2.set i (.lp .done (some j) e3 ps3 a3 b3))
      | _ => .fail "yield: record"
    | _, _ => .fail "yield: state"
 | _ => .fail "yield"
def ex:Nat→Orc
 | 0 => ⟨fun _ _ _ => .fail "fuel", fun _ _ _ => .fail "fuel", fun _ _ _ => .fail "fuel"⟩
 | n+1 =>
  {call:=eA K (ex n)
   yld:=gG K (ex n)
   loop:=fun b env S=>(eD K (ex n) b env S).bind fun r=>match r.1 with
    | .normal=>(ex n).loop b r.2.1 r.2.2
    | j=>.ret (j,r.2.1,r.2.2)}
end Go.TM
namespace Go.TM
structure aSm where
 bef:List Nat
 f0:List Nat
 ph:List (Nat×List Nat×List Nat)
structure Ann where
 slots:List Nat
 lb:List Nat:=[]
 mu:List (Nat×Nat):=[]
 trunc:List (Nat×Nat):=[]
 draws:List (Nat×aSm):=[]
structure cW where
 st:Nat→Bool
 prim:Nat→Bool
def aBd:Value→Option IV
 | .bool b=>some (.bool b)
 | .int k n=>some (.int k n)
 | .string s=>some (.str s.data.toList)
 | .pointer none=>some .nilp
 | .slice none 0 0=>some (.sl .nil [])
 | .map none=>some .nilm
 | .nilFunc=>some .nilf
 | .nilIface=>some .nili
 | _=>none
def rU:List Value→Option (List IV)
 | []=>some []
 | v::r=>match aBd v,rU r with
  | some a,some l=>some (a::l)
  | _,_=>none
def aYu:Value→Option IV
 | .agg cs=>(rU cs.toList).map .agg
 | v=>aBd v
def dX (P:Program)(t:TypeId):Option (List IV) :=
 match P.info? t with
 | some i=>match i.zero with
  | some z=>if z.cells.size=i.size then rU z.cells.toList else none
  | none=>none
 | none=>none
def uN (P:Program)(t:TypeId):Option IV :=
 match P.info? t with
 | some i=>match i.zero with
  | some z=>aYu z
  | none=>none
 | none=>none
def sizeOf? (P:Program)(t:TypeId):Option Nat:=(P.info? t).map (·.size)
def bytesOf? (P:Program)(t:TypeId):Option Nat:=(P.info? t).map (·.bytes)
def isAgg? (P:Program)(t:TypeId):Option Bool :=
 match P.underlying t with
 | some (.struct _)|some (.array _ _)=>some true
 | some _=>some false
 | none=>none
def pU (P:Program)(t:TypeId):Option LK :=
 match P.underlying t with
 | some (.bool)=>some .bool
 | some (.int _)=>some .int
 | some (.string)=>some .str
 | _=>none
def qP (P:Program):List Field→Option (List (Nat×LK))
 | []=>some []
 | f :: fs => if f.name ≠ "_" then match pU P f.type, qP P fs with
   | some k,some l=>some ((f.offset,k)::l)
   | _,_=>none
  else none
def jL (P:Program)(t:TypeId):Option (List (Nat×LK)) :=
 match P.underlying t with
 | some (.struct fs)=>if P.stoodInHeld t then none else qP P fs.toList
 | some (.array n e)=>match pU P e with
  | some k=>if sizeOf? P e=some 1 then some ((List.range n).map fun i=>(i,k)) else none
  | none=>none
 | _=>none
inductive QK where
 | plain
 | b (k:EK)
 | agg (offs:List (Nat×LK))
def mS (P:Program)(t:TypeId):Option QK :=
 match P.underlying t with
 | some (.int _)|some (.string)=>some .plain
 | some (.bool)=>some (.b .bool)
 | some (.pointer _)=>some (.b .ptr)
 | some (.slice _)=>some (.b .sl)
 | some (.map _ _)=>some (.b .mp)
 | some (.func _ _ _)=>some (.b .fn)
 | some (.struct _)|some (.array _ _)=>if P.eqGuardType P.depth t then none else (jL P t).map .agg
 | _=>none
def fI (P:Program)(t:TypeId):Option KK :=
 match P.underlying t with
 | some (.int _)=>some (.leaf .int)
 | some (.string)=>some (.leaf .str)
 | some (.bool)=>some (.leaf .bool)
 | some (.array _ _)|some (.struct _)=>(jL P t).map .agg
 | _=>none
section
variable (P:Program)(O:cW)(A:Ann)
def uO (t:Nat):List (Option Nat)→Nat→Option Nat
 | [],_=>none
 | d::r,i=>if d=some t then some i else uO t r (i+1)
def dN (t:Nat):List Nat→Nat→Option Nat
 | [],_=>none
 | d::r,i=>if d=t then some i else dN t r (i+1)
def opd (dsts:List (Option Nat)):Operand→Option aC
 | .tmp t=>match uO t dsts 0 with
  | some i=>some (.reg i)
  | none=>(dN t A.slots 0).map .loc
 | .const v=>(aYu v).map .cst
 | .global g=>some (.glob g)
 | .func f=>some (.fn f)
def qQ (dsts:List (Option Nat)):List Operand→Option (List aC)
 | []=>some []
 | x::r=>match opd A dsts x,qQ dsts r with
  | some a,some l=>some (a::l)
  | _,_=>none
def aCw (dsts:List (Option Nat)):Option Operand→Option (Option aC)
 | none=>some none
 | some x=>(opd A dsts x).map some
def aBe (dsts:List (Option Nat))(fs:Array Field):List (Nat×Operand)→Option (List (Nat×Nat×aC))
 | []=>some []
 | (i,x)::r=>match fs[i]?,opd A dsts x,aBe dsts fs r with
  | some f,some a,some l=>match sizeOf? P f.type with
   | some n=>some ((f.offset,n,a)::l)
   | none=>none
  | _,_,_=>none
def tO (dsts:List (Option Nat))(n:Nat):List (Nat×Operand)→Option (List (Nat×Nat×aC))
 | []=>some []
 | (i,x)::r=>match opd A dsts x,tO dsts n r with
  | some a,some l=>some ((i*n,n,a)::l)
  | _,_=>none
def tP (dsts:List (Option Nat)):List (Nat×Operand)→Option (List (Nat×aC))
 | []=>some []
 | (i,x)::r=>match opd A dsts x,tP dsts r with
  | some a,some l=>some ((i,a)::l)
  | _,_=>none
def xP (fs:Array Field):Option (List (Nat×Nat)):=fs.toList.mapM fun f=>(P.info? f.type).map fun i=>(f.offset,i.size)
def eO (mu:Bool)(dsts:List (Option Nat))(b:Builtin)(ts:List TypeId)(args:List Operand):Option TOp :=
 match b,ts,args with
 | .append,t::u::_,[s,x]=>match P.underlying t,P.underlying u with
  | some (.slice e),some (.int _)=>match dX P e,bytesOf? P e,opd A dsts s,opd A dsts x with
   | some n,some b,some s,some x=>if n.length=0∨b=0 then none else some (.grow n.length b e s x)
   | _,_,_,_=>none
  | some (.slice e),some (.slice _)|some (.slice e),some .string=>match dX P e,bytesOf? P e,opd A dsts s,opd A dsts x with
   | some n,some b,some s,some x=>if n.length=0∨b=0 then none else some (.append mu n.length b e s x)
   | _,_,_,_=>none
  | _,_=>none
 | .copy,t::_,[d,s]=>match P.underlying t with
  | some (.slice e)=>match sizeOf? P e,opd A dsts d,opd A dsts s with
   | some n,some d,some s=>if n=0 then none else some (.copy n d s)
   | _,_,_=>none
  | _=>none
 | .clear,t::_,[x]=>match P.underlying t with
  | some (.slice e)=>match dX P e,opd A dsts x with
   | some z,some x=>if z.length=0 then none else some (.clear z x)
   | _,_=>none
  | _=>none
 | .cap,t::_,[x]=>match P.underlying t with
  | some (.slice _)=>(opd A dsts x).map .cap
  | _=>none
 | .len,t::_,[x]=>match P.underlying t with
  | some .string=>(opd A dsts x).map (.len .str)
  | some (.slice _)=>(opd A dsts x).map (.len .sl)
  | some (.map _ _)=>(opd A dsts x).map (.len .mp)
  | some (.array n _)=>some (.lenC n)
  | some (.pointer a)=>match P.underlying a with
   | some (.array n _)=>some (.lenC n)
   | _=>none
  | _=>none
 | .delete,t::_,[m,k]=>match P.underlying t with
  | some (.map kt _)=>match fI P kt,opd A dsts m,opd A dsts k with
   | some kk,some m,some k=>some (.delete kk m k)
   | _,_,_=>none
  | _=>none
 | .min,_,xs=>(qQ A dsts xs).map (.minmax false)
 | .max,_,xs=>(qQ A dsts xs).map (.minmax true)
 | _,_,_=>none
def aIk (mu trunc:Bool)(dsts:List (Option Nat))(c:Call):Option TOp :=
 match c.callee with
 | .builtin b=>eO P A mu dsts b c.argTypes.toList c.args.toList
 | .value (.func f)=>match qQ A dsts c.args.toList with
  | some args =>
   if O.prim f then some (.prim f args)
   else match P.funcs[f]? with
    | some fn => if fn.body.isSome && fn.name != "runtime.NumGoroutine" then some (.call (!(O.st f)) trunc f args) else none
    | none=>none
  | none=>none
 | .value x=>match opd A dsts x,qQ A dsts c.args.toList with
  | some x,some args=>some (.callv x args)
  | _,_=>none
 | .invoke _ _=>none
def qR (mu trunc isLb:Bool)(dsts:List (Option Nat))(o:Oper):Option TOp :=
 let e:=opd A dsts
 let slot:=o.dst.bind fun t=>dN t A.slots 0
 match o.op with
 | .move x | .assign x=>(e x).map .mov
 | .pick c a b=>match e c,e a,e b with
  | some c,some a,some b=>some (.pick c a b)
  | _,_,_=>none
 | .alloc t=>match dX P t with
  | some z=>if isLb then slot.map fun j=>.allocL j z else some (.allocH (t+1) z)
  | none=>none
 | .box t x=>match e x with
  | some x=>if isLb then slot.map fun j=>.boxL j x else some (.boxH (t+1) x)
  | none=>none
 | .build t ps=>match dX P t,P.underlying t with
  | some z,some (.struct fs)=>if (xP P fs).isSome then (aBe P A dsts fs ps.toList).map (.build z) else none
  | some z,some (.array _ el)=>match sizeOf? P el with
   | some n=>(tO A dsts n ps.toList).map (.build z)
   | none=>none
  | _,_=>none
 | .buildSlice t len ps=>match P.underlying t with
  | some (.slice el)=>match dX P el,tP A dsts ps.toList with
   | some z,some ps=>if z.length=0∨len*z.length>16777216 then none else some (.lit mu z len ps)
   | _,_=>none
  | _=>none
 | .load t a=>match isAgg? P t,sizeOf? P t,e a with
  | some true,some n,some a=>some (.loadN n a)
  | some false,some _,some a=>some (.load1 a)
  | _,_,_=>none
 | .store t a v=>match sizeOf? P t,e a,e v with
  | some n,some a,some v=>some (.store n a v)
  | _,_,_=>none
 | .nilCheck x=>(e x).map .nilCheck
 | .binOp op t x y _=>match e x,e y with
  | some a,some b=>match op with
   | .eql | .neq=>match mS P t with
    | some .plain=>some (.bin op a b)
    | some (.b k)=>some (.eqB (op==.neq) k a b)
    | some (.agg offs)=>some (.eqAgg (op==.neq) offs a b)
    | none=>none
   | _=>some (.bin op a b)
  | _,_=>none
 | .unOp op _ x=>(e x).map (.un op)
 | .convert s d x=>match P.underlying s,P.underlying d,e x with
  | some (.int _),some (.int k),some x=>some (.conv (.toInt k) x)
  | some (.int _),some .string,some x=>some (.conv .intStr x)
  | some .string,some .string,some x=>some (.conv .strStr x)
  | some .string,some (.slice t),some x=>match P.underlying t with
   | some (.int .u8)=>some (.conv .strBytes x)
   | _=>none
  | some (.slice t),some .string,some x=>match P.underlying t with
   | some (.int .u8)=>some (.conv .bytesStr x)
   | _=>none
  | _,_,_=>none
 | .makeFunc (.func f) first cap=>match qQ A dsts first.toList,qQ A dsts cap.toList with
  | some a,some b=>some (.mkFn f a b)
  | _,_=>none
 | .makeMap t r=>match P.underlying t,r with
  | some (.map _ _),none=>some .mkMap
  | _,_=>none
 | .makeSlice t l c=>match P.underlying t with
  | some (.slice el)=>match dX P el,bytesOf? P el,e l,e c with
   | some z,some b,some l,some c=>if z.length=0 then none else some (.mkSlice z b l c)
   | _,_,_,_=>none
  | _=>none
 | .slice t x lo hi mx=>match e x,aCw A dsts lo,aCw A dsts hi,aCw A dsts mx with
  | some x,some lo,some hi,some mx=>match P.underlying t with
   | some .string=>some (.slice .str x lo hi mx)
   | some (.slice el)=>match sizeOf? P el with
    | some n=>if n=0 then none else some (.slice (.sl n) x lo hi mx)
    | none=>none
   | some (.array n el)=>match sizeOf? P el with
    | some k=>if k=0 then none else some (.slice (.arr n k) x lo hi mx)
    | none=>none
   | some (.pointer a)=>match P.underlying a with
    | some (.array n el)=>match sizeOf? P el with
     | some k=>if k=0 then none else some (.slice (.arr n k) x lo hi mx)
     | none=>none
    | _=>none
   | _=>none
  | _,_,_,_=>none
 | .fieldAddr t x f=>match P.underlying t,e x with
  | some (.struct fs),some x=>match fs[f]? with
   | some fd=>match sizeOf? P fd.type with
    | some n=>if n=0 then none else some (.fieldAddr fd.offset x)
    | none=>none
   | none=>none
  | _,_=>none
 | .field t x f=>match P.underlying t,e x with
  | some (.struct fs),some x=>match fs[f]? with
   | some fd=>match sizeOf? P fd.type,isAgg? P fd.type with
    | some n,some ag=>some (.field fd.offset (if ag then n else 1) ag x)
    | _,_=>none
   | none=>none
  | _,_=>none
 | .indexAddr t x i=>match P.underlying t,e x,e i with
  | some (.slice el),some x,some i=>match sizeOf? P el with
   | some n=>if n=0 then none else some (.indexAddrS n x i)
   | none=>none
  | some (.array len el),some x,some i=>match sizeOf? P el with
   | some n=>if n=0 then none else some (.indexAddrA len n x i)
   | none=>none
  | _,_,_=>none
 | .index t x i=>match P.underlying t,e x,e i with
  | some .string,some x,some i=>some (.indexS x i)
  | some (.array len el),some x,some i=>match sizeOf? P el,isAgg? P el with
   | some n,some ag=>if n=0 then none else some (.indexA len n ag x i)
   | _,_=>none
  | _,_,_=>none
 | .lookup t m k ok=>match P.underlying t,e m,e k with
  | some (.map kt el),some m,some k=>match fI P kt,uN P el with
   | some kk,some z=>some (.lookup kk z ok m k)
   | _,_=>none
  | _,_,_=>none
 | .mapUpdate t m k v=>match P.underlying t,e m,e k,e v with
  | some (.map kt _),some m,some k,some v=>(fI P kt).map fun kk=>.update kk m k v
  | _,_,_,_=>none
 | .mapEntry t m k=>match P.underlying t,e m,e k with
  | some (.map kt el),some m,some k=>match fI P kt,uN P el with
   | some kk,some z=>some (.entry kk z m k)
   | _,_=>none
  | _,_,_=>none
 | .entryStore _ m s v=>match e m,e s,e v with
  | some m,some s,some v=>some (.entryStore m s v)
  | _,_,_=>none
 | .range t x=>match P.underlying t with
  | some .string=>(e x).map (.range true)
  | some (.map _ _)=>(e x).map (.range false)
  | _=>none
 | .next it isStr=>(e it).map fun x=>if isStr then .nextS x else .nextM x
 | .entry it=>(e it).map .entryM
 | .extract x i=>(e x).map (.extract i)
 | .call c=>aIk P O A mu trunc dsts c
 | _=>none
def cR (id:Nat)(draw:Bool):List Oper→Nat→List (Option Nat)→List aG
 | [],_,_=>[]
 | o::os,i,dsts =>
  let isLb:=!draw&&o.guard.isNone&&(match o.dst with
   | some t=>A.lb.contains t
   | none=>false)
  let op:=(qR P O A (A.mu.contains (id,i)) (A.trunc.contains (id,i)) isLb dsts o).getD .bad
  let loc:=if isLb then (match op with
   | .allocL .. | .boxL ..=>none
   | _=>o.dst.bind fun t=>dN t A.slots 0) else o.dst.bind fun t=>dN t A.slots 0
  {op,loc,guard:=o.guard}::cR id draw os (i+1) (dsts++[o.dst])
def aM:TOp→List aC
 | .mov x | .boxL _ x | .boxH _ x | .load1 x | .loadN _ x | .nilCheck x | .un _ x | .conv _ x | .fieldAddr _ x | .field _ _ _ x | .range _ x | .nextS x | .nextM x | .entryM x | .extract _ x | .clear _ x | .len _ x | .cap x=>[x]
 | .pick a b c=>[a,b,c]
 | .build _ ps=>ps.map (·.2.2)
 | .lit _ _ _ ps=>ps.map (·.2)
 | .store _ a b | .bin _ a b | .eqB _ _ a b | .eqAgg _ _ a b | .mkSlice _ _ a b | .indexAddrS _ a b | .indexAddrA _ _ a b | .indexA _ _ _ a b | .indexS a b | .lookup _ _ _ a b | .entry _ _ a b | .append _ _ _ _ a b | .copy _ a b | .grow _ _ _ a b | .delete _ a b=>[a,b]
 | .update _ a b c | .entryStore a b c=>[a,b,c]
 | .mkFn _ a b=>a++b
 | .slice _ x a b c=>x::(a.toList++b.toList++c.toList)
 | .minmax _ xs | .call _ _ _ xs | .prim _ xs=>xs
 | .callv f xs=>f::xs
 | _=>[]
def rV:TOp→Bool
 | .load1 _ | .loadN .. | .lookup .. | .len .. | .slice .. | .conv .bytesStr _ | .entryM _=>true
 | _=>false
def nZ:List Nat→Bool
 | []=>true
 | a::r=>!(r.contains a)&&nZ r
def tQ (nt:Nat)(ops:List Oper):Bool:=nZ (ops.filterMap (·.dst))&&(ops.filterMap (·.dst)).all fun t=>decide (t<nt)
def aBf (ops:List Oper):Nat→List Oper→Bool
 | _,[]=>true
 | i,o::os=>(match o.guard with
   | none=>true
   | some (g,_)=>decide (g<i)&&(match ops[g]? with|some o=>o.dst.isSome|none=>false))&&aBf ops (i+1) os
def xQ (bef:List Nat):Nat→List Oper→Bool
 | _,[]=>true
 | i,o::os=>o.after.toList.all (fun e=>!(Region.binds .any e)||decide (e.on<i)) &&
   (List.range i).all (fun j=>!((bef.getD i 0).testBit j)||o.after.toList.any fun e=>Region.binds .any e&&(e.on==j||(bef.getD e.on 0).testBit j)) &&
   decide (bef.getD i 0<2 ^ i)&&xQ bef (i+1) os
def aSn (bef:List Nat)(ws:List (Option Nat))(i:Nat):aC→Bool
 | .reg r=>(bef.getD i 0).testBit r
 | .loc j=>(List.range ws.length).all fun w=>!(ws.getD w none==some j)||(bef.getD w 0).testBit i
 | _=>true
def isL:TOp→Bool
 | .allocL .. | .boxL ..=>true
 | _=>false
def aFh (bef:List Nat)(ws:List (Option Nat))(ops:List Oper):Nat→List aG→Bool
 | _,[]=>true
 | i,o::os=>(aM o.op).all (aSn bef ws i)&&!(isL o.op)&&(match o.guard with
   | none=>true
   | some (g,_)=>(bef.getD i 0).testBit g&&(match ops[g]? with|some o=>o.dst.isSome|none=>false))&&aFh bef ws ops (i+1) os
def iU (bef:List Nat):List Nat→Nat→Option Nat
 | [],run=>some run
 | i::is,run=>if !(run.testBit i)&&(bef.getD i 0 &&& run==bef.getD i 0) then iU bef is (run ||| 2 ^ i) else none
def gA (bef:List Nat)(tops:List aG):List (Nat×List Nat×List Nat)→(last:Option Nat)→(run floats:Nat)→Option Nat
  | [],_,run,_=>some run
  | (e,chk,fl)::ps,last,run,floats =>
    if (match last with|some l=>(bef.getD e 0).testBit l|none=>true) &&
       (List.range tops.length).all (fun i=>!(floats.testBit i)||(bef.getD e 0).testBit i||chk.contains i||!(match tops[i]? with|some o=>rV o.op|none=>true)) &&
       fl.all (fun i=>(bef.getD i 0).testBit e) then
      match iU bef (e::fl) run with
      | some run'=>gA bef tops ps (some e) run' (floats ||| fl.foldl (fun m i=>m ||| 2 ^ i) 0)
      | none=>none
    else none
def aIl (c:aSm)(ops:List Oper)(tops:List aG):Bool :=
  xQ c.bef 0 ops&&aFh c.bef (ops.map fun o=>o.dst.bind fun t=>dN t A.slots 0) ops 0 tops &&
  (match iU c.bef c.f0 0 with
   | some run=>match gA c.bef tops c.ph none run run with
     | some all=>(List.range ops.length).all fun i=>all.testBit i
     | none=>false
   | none=>false)
def aSo (id:Nat):List (Nat×aSm)→Option aSm
 | []=>none
 | c::r=>if c.1=id then some c.2 else aSo id r
variable (nt:Nat)
def xR (id:Nat)(ops:Array Oper)(draw:Bool):aL :=
 if !(tQ nt ops.toList) then .bad else
 if !draw then (if aBf ops.toList 0 ops.toList then .region (cR P O A id false ops.toList 0 []) else .bad)
 else match aSo id A.draws with
  | some c=>if aIl A c ops.toList (cR P O A id true ops.toList 0 []) then .draw c.f0 c.ph (cR P O A id true ops.toList 0 []) else .bad
  | none=>.bad
def mT:List Nat→Option (List Nat)
 | []=>some []
 | t::r=>match dN t A.slots 0,mT r with
  | some j,some l=>some (j::l)
  | _,_=>none
def aZ:Code→aL
 | .skip=>.skip
 | .region id ops draw=>xR P O A nt id ops draw
 | .seq a b=>.seq (aZ a) (aZ b)
 | .cond c a b=>match opd A [] c with
  | some c=>.cond c (aZ a) (aZ b)
  | none=>.bad
 | .block id b=>.block id (aZ b)
 | .loop b=>.loop (aZ b)
 | .rangeFunc f ps assign body=>match opd A [] f,mT A ps.toList with
  | some f,some ps=>if dB (aZ assign)&&dB (aZ body) then .rangeFunc f ps (aZ assign) (aZ body) else .bad
  | _,_=>.bad
 | .exit id=>.exit id
 | .label _=>.skip
 | .ret=>.ret
 | _=>.bad
def wP:ResultVar→Option kN
 | .tmp t=>(dN t A.slots 0).map .loc
 | .cell a t=>match dN a A.slots 0,sizeOf? P t,isAgg? P t with
  | some j,some n,some ag=>some (.cell j (if ag then n else 1) ag)
  | _,_,_=>none
def mE:List ResultVar→Option (List kN)
 | []=>some []
 | r::rs=>match wP P A r,mE rs with
  | some a,some l=>some (a::l)
  | _,_=>none
def oA (fn:Func):Option aN :=
 match fn.body,mE P A fn.results.toList with
 | some c,some rs =>
  if A.slots.take (fn.params.size+fn.nfree)=List.range (fn.params.size+fn.nfree)∧fn.params.size+fn.nfree≤fn.ntmps∧nZ A.slots=true∧A.slots.all (fun t=>decide (t<fn.ntmps))=true then
   some {nparams:=fn.params.size+fn.nfree,nlocs:=A.slots.length,results:=rs,body:=aZ P O A fn.ntmps c}
  else none
 | _,_=>none
end
end Go.TM
namespace Go.TM
open Go
abbrev Mem:=Nat→Nat→Option Value
inductive IR (M:Mem):IV→Value→Prop
 | bool (b:Bool):IR M (.bool b) (.bool b)
 | int (k:IntKind) (n:Int):IR M (.int k n) (.int k n)
 | str (s:List UInt8):IR M (.str s) (.string ⟨s.toArray⟩)
 | nilp:IR M .nilp (.pointer none)
 | nilm:IR M .nilm (.map none)
 | nilf:IR M .nilf .nilFunc
 | nili:IR M .nili .nilIface
 | slNil:IR M (.sl .nil []) (.slice none 0 0)
 | sl (t:Tag) (l:List (List IV)) (b off cap es:Nat) (vals:Nat→Nat→Value) (ht:t≠.nil) (hes:∀c∈l,c.length=es) (hcap:l.length≤cap) (hfull:t=.full→cap=l.length)
   (hm:∀(i:Nat) (c:List IV) (j:Nat) (x:IV),l[i]? = some c→c[j]? = some x→M b (off+i*es+j)=some (vals i j)) (hv:∀(i:Nat) (c:List IV) (j:Nat) (x:IV),l[i]? = some c→c[j]? = some x→IR M x (vals i j)) :
   IR M (.sl t l) (.slice (some ⟨b,off,none⟩) l.length cap)
 | slE (t:Tag) (a:Addr) (ht:t≠.nil):IR M (.sl t []) (.slice (some a) 0 0)
 | agg (cs:List IV) (vs:Array Value) (hs:vs.size=cs.length) (hv:∀(i:Nat) (x:IV) (v:Value),cs[i]? = some x→vs[i]? = some v→IR M x v):IR M (.agg cs) (.agg vs)
 | cp (cs:List IV) (b off:Nat) (vals:Nat→Value) (hm:∀(i:Nat) (x:IV),cs[i]? = some x→M b (off+i)=some (vals i)) (hv:∀(i:Nat) (x:IV),cs[i]? = some x→IR M x (vals i)) :
   IR M (.cp cs) (.pointer (some ⟨b,off,none⟩))
def MLe (M M':Mem):Prop:=∀b o v,M b o=some v→M' b o=some v
theorem MLe.refl (M:Mem):MLe M M:=fun _ _ _ h=>h
theorem MLe.trans {M M' M'':Mem}(h:MLe M M')(h':MLe M' M''):MLe M M'':=fun b o v k=>h' b o v (h b o v k)
theorem IR.mono {M M':Mem}(h:MLe M M'){a:IV}{v:Value}(r:IR M a v):IR M' a v:=by
 induction r with
 | bool b=>exact .bool b
 | int k n=>exact .int k n
 | str s=>exact .str s
 | nilp=>exact .nilp
 | nilm=>exact .nilm
 | nilf=>exact .nilf
 | nili=>exact .nili
 | slNil=>exact .slNil
 | sl t l b off cap es vals ht hes hcap hfull hm hv ih=>exact .sl t l b off cap es vals ht hes hcap hfull (fun i c j x h1 h2=>h _ _ _ (hm i c j x h1 h2)) ih
 | slE t a ht=>exact .slE t a ht
 | agg cs vs hs hv ih=>exact .agg cs vs hs ih
 | cp cs b off vals hm hv ih=>exact .cp cs b off vals (fun i x h1=>h _ _ _ (hm i x h1)) ih
structure Loc where
 cb:Nat
 d:Nat
 ver:Nat
 cap:Nat
 es:Nat
 size:Nat
 loose:Bool
 ty:Nat:=0
abbrev aB:=List (Option Loc)
def aB.at (J:aB)(i:Nat)(l:Loc):Prop:=J[i]? = some (some l)
def aB.has (J:aB)(b:Nat):Prop:=∃i l,J.at i l∧l.cb=b
inductive VR (M:Mem) (J:aB):(L:List (Option Nat))→TV→Value→Prop
 | hole (L:List (Option Nat)) (v:Value):VR M J L .hole v
 | iv (L:List (Option Nat)) {a:IV} {v:Value} (h:IR M a v):VR M J L (.iv a) v
 | lp (L:List (Option Nat)) (j off cb:Nat) (h:L[j]? = some (some cb)):VR M J L (.lp j off) (.pointer (some ⟨cb,off,none⟩))
 | ptr (L:List (Option Nat)) (i ver off:Nat) (l:Loc) (b o:Nat) (h:J.at i l) (hv:ver≤l.ver) (ha:ver=l.ver→b=l.cb∧o=l.d+off) :
   VR M J L (.ptr i ver off) (.pointer (some ⟨b,o,none⟩))
 | msl (L:List (Option Nat)) (i ver off len cap es:Nat) (l:Loc) (b o c:Nat) (h:J.at i l) (hv:ver≤l.ver)
   (ha:ver=l.ver→b=l.cb∧(cap≠0→o=l.d+off)∧cap≤c∧(l.loose=false→c=cap)∧o+c*es≤l.size) (hl:len≤cap) (hlc:len≤c) :
   VR M J L (.msl i ver off len cap es) (.slice (some ⟨b,o,none⟩) len c)
 | tsl (L:List (Option Nat)) (i:Nat) (es:List (List IV)) (l:Loc) (b o c:Nat) (h:J.at i l) (hl:l.loose=true) (hv:es.length≤l.ver)
   (ha:es.length=l.ver→b=l.cb∧o=l.d∧c=l.cap∧∀x∈es,x.length=l.es) (hr:IR M (.sl .no es) (.slice (some ⟨b,o,none⟩) es.length c)) :
   VR M J L (.tsl i es) (.slice (some ⟨b,o,none⟩) es.length c)
 | rsv (L:List (Option Nat)) (i:Nat) (es:List (List IV)) (n:Nat) (l:Loc) (b o c:Nat) (h:J.at i l) (hl:l.loose=true) (hv:es.length≤l.ver)
   (ha:es.length=l.ver→b=l.cb∧o=l.d∧c=l.cap∧∀x∈es,x.length=l.es) (hc:es.length+n≤c) (hr:IR M (.sl .no es) (.slice (some ⟨b,o,none⟩) es.length c)) :
   VR M J L (.rsv i es n) (.slice (some ⟨b,o,none⟩) (es.length+n) c)
 | map (L:List (Option Nat)) (i:Nat) (l:Loc) (h:J.at i l) (hl:l.loose=false):VR M J L (.map i) (.map (some l.cb))
 | it (L:List (Option Nat)) (i:Nat) (l:Loc) (h:J.at i l) (hl:l.loose=false):VR M J L (.it i) (.pointer (some ⟨l.cb,0,none⟩))
 | yld (L:List (Option Nat)) (i:Nat) (l:Loc) (h:J.at i l) (hl:l.loose=false):VR M J L (.yld i) (.func (.yield l.cb) #[] #[])
 | fn (L:List (Option Nat)) (f:Nat) (fst cap:List TV) (fst' cap':Array Value) (h1:fst'.size=fst.length) (h2:cap'.size=cap.length)
   (hf:∀(i:Nat) (x:TV) (v:Value),fst[i]? = some x→fst'[i]? = some v→VR M J [] x v) (hc:∀(i:Nat) (x:TV) (v:Value),cap[i]? = some x→cap'[i]? = some v→VR M J [] x v) :
   VR M J L (.fn f fst cap) (.func (.func f) fst' cap')
 | agg (L:List (Option Nat)) (cs:List TV) (vs:Array Value) (hs:vs.size=cs.length) (hv:∀(i:Nat) (x:TV) (v:Value),cs[i]? = some x→vs[i]? = some v→VR M J [] x v):VR M J L (.agg cs) (.agg vs)
 | tup (L:List (Option Nat)) (cs:List TV) (vs:Array Value) (hs:vs.size=cs.length) (hv:∀(i:Nat) (x:TV) (v:Value),cs[i]? = some x→vs[i]? = some v→VR M J [] x v):VR M J L (.tup cs) (.tuple vs)
def JLe (J J':aB):Prop :=
 J.length≤J'.length∧∀i l,J.at i l→∃l',J'.at i l'∧(l'=l∨(l.loose=true∧l'.loose=true∧l.ver<l'.ver))
theorem JLe.refl (J:aB):JLe J J:=⟨Nat.le_refl _,fun _ l h=>⟨l,h,.inl rfl⟩⟩
theorem JLe.trans {J J' J'':aB}(h:JLe J J')(h':JLe J' J''):JLe J J'':=by
 refine⟨Nat.le_trans h.1 h'.1,fun i l hl=>?_⟩
 obtain⟨l1,h1,r1⟩:=h.2 i l hl
 obtain⟨l2,h2,r2⟩:=h'.2 i l1 h1
 refine⟨l2,h2,?_⟩
 rcases r1 with rfl|⟨a,b,c⟩
 ·exact r2
 ·rcases r2 with rfl|⟨a',b',c'⟩
  ·exact .inr ⟨a,b,c⟩
  ·exact .inr ⟨a,b',Nat.lt_trans c c'⟩
theorem VR.mono {M M':Mem}{J J':aB}(hM:MLe M M')(hJ:JLe J J'){L:List (Option Nat)}{x:TV}{v:Value}(r:VR M J L x v):VR M' J' L x v:=by
 induction r with
 | hole L v=>exact .hole L v
 | iv L h=>exact .iv L (h.mono hM)
 | lp L j off cb h=>exact .lp L j off cb h
 | ptr L i ver off l b o h hv ha =>
  obtain⟨l',h',e⟩:=hJ.2 i l h
  rcases e with rfl|⟨_,_,c⟩
  ·exact .ptr L i ver off l' b o h' hv ha
  ·exact .ptr L i ver off l' b o h' (by omega) (fun e=>by omega)
 | msl L i ver off len cap es l b o c h hv ha hl hlc =>
  obtain⟨l',h',e⟩:=hJ.2 i l h
  rcases e with rfl|⟨_,_,k⟩
  ·exact .msl L i ver off len cap es l' b o c h' hv ha hl hlc
  ·exact .msl L i ver off len cap es l' b o c h' (by omega) (fun e=>by omega) hl hlc
 | tsl L i es l b o c h hl hv ha hr =>
  obtain⟨l',h',e⟩:=hJ.2 i l h
  rcases e with rfl|⟨_,k',k⟩
  ·exact .tsl L i es l' b o c h' hl hv ha (hr.mono hM)
  ·exact .tsl L i es l' b o c h' k' (by omega) (fun e=>by omega) (hr.mono hM)
 | rsv L i es n l b o c h hl hv ha hc hr =>
  obtain⟨l',h',e⟩:=hJ.2 i l h
  rcases e with rfl|⟨_,k',k⟩
  ·exact .rsv L i es n l' b o c h' hl hv ha hc (hr.mono hM)
  ·exact .rsv L i es n l' b o c h' k' (by omega) (fun e=>by omega) hc (hr.mono hM)
 | map L i l h hl =>
  obtain⟨l',h',e⟩:=hJ.2 i l h
  rcases e with rfl|⟨a,_,_⟩
  ·exact .map L i l' h' hl
  ·simp[hl]at a
 | it L i l h hl =>
  obtain⟨l',h',e⟩:=hJ.2 i l h
  rcases e with rfl|⟨a,_,_⟩
  ·exact .it L i l' h' hl
  ·simp[hl]at a
 | yld L i l h hl =>
  obtain⟨l',h',e⟩:=hJ.2 i l h
  rcases e with rfl|⟨a,_,_⟩
  ·exact .yld L i l' h' hl
  ·simp[hl]at a
 | fn L f fst cap fst' cap' h1 h2 hf hc ihf ihc=>exact .fn L f fst cap fst' cap' h1 h2 ihf ihc
 | agg L cs vs hs hv ih=>exact .agg L cs vs hs ih
 | tup L cs vs hs hv ih=>exact .tup L cs vs hs ih
theorem VR.frame {M:Mem}{J:aB}{L L':List (Option Nat)}{x:TV}{v:Value}(r:VR M J L x v)(hx:dK x=false):VR M J L' x v:=by
 cases r with
 | hole L v=>exact .hole _ v
 | iv L h=>exact .iv _ h
 | lp L j off cb h'=>simp[dK]at hx
 | ptr L i ver off l b o h hv ha=>exact .ptr _ i ver off l b o h hv ha
 | msl L i ver off len cap es l b o c h hv ha hl hlc=>exact .msl _ i ver off len cap es l b o c h hv ha hl hlc
 | tsl L i es l b o c h hl hv ha hr=>exact .tsl _ i es l b o c h hl hv ha hr
 | rsv L i es n l b o c h hl hv ha hc hr=>exact .rsv _ i es n l b o c h hl hv ha hc hr
 | map L i l h hl=>exact .map _ i l h hl
 | it L i l h hl=>exact .it _ i l h hl
 | yld L i l h hl=>exact .yld _ i l h hl
 | fn L f fst cap fst' cap' h1 h2 hf hc=>exact .fn _ f fst cap fst' cap' h1 h2 hf hc
 | agg L cs vs hs hv=>exact .agg _ cs vs hs hv
 | tup L cs vs hs hv=>exact .tup _ cs vs hs hv
def VRs (M:Mem)(J:aB)(L:List (Option Nat))(xs:List TV)(vs:List Value):Prop :=
 vs.length=xs.length∧∀(i:Nat) (x:TV) (v:Value),xs[i]? = some x→vs[i]? = some v→VR M J L x v
theorem VRs.mono {M M':Mem}{J J':aB}(hM:MLe M M')(hJ:JLe J J'){L:List (Option Nat)}{xs:List TV}{vs:List Value}(h:VRs M J L xs vs):VRs M' J' L xs vs :=
 ⟨h.1,fun i x v hx hv=>(h.2 i x v hx hv).mono hM hJ⟩
theorem VRs.nil {M:Mem}{J:aB}{L:List (Option Nat)}:VRs M J L [] []:=⟨rfl,fun i x v h=>by simp at h⟩
theorem VRs.cons {M:Mem}{J:aB}{L:List (Option Nat)}{x:TV}{v:Value}{xs:List TV}{vs:List Value}(h:VR M J L x v)(t:VRs M J L xs vs):VRs M J L (x::xs) (v::vs):=by
 refine⟨by simp[t.1],fun i y u hy hu=>?_⟩
 cases i with
 | zero=>simp at hy hu; subst hy; subst hu; exact h
 | succ i=>simp at hy hu; exact t.2 i y u hy hu
theorem VRs.cons_inv {M:Mem}{J:aB}{L:List (Option Nat)}{x:TV}{xs:List TV}{vs:List Value}(h:VRs M J L (x::xs) vs):∃v us,vs=v::us∧VR M J L x v∧VRs M J L xs us:=by
 cases vs with
 | nil=>simp[VRs]at h
 | cons v us =>
  refine⟨v,us,rfl,h.2 0 x v rfl rfl,by simpa using h.1,fun i y u hy hu=>h.2 (i+1) y u (by simpa using hy) (by simpa using hu)⟩
theorem VRs.nil_inv {M:Mem}{J:aB}{L:List (Option Nat)}{vs:List Value}(h:VRs M J L [] vs):vs=[]:=List.eq_nil_of_length_eq_zero (by simpa using h.1)
theorem VRs.append {M:Mem}{J:aB}{L:List (Option Nat)}{xs ys:List TV}{vs us:List Value}(h:VRs M J L xs vs)(k:VRs M J L ys us):VRs M J L (xs++ys) (vs++us):=by
 induction xs generalizing vs with
 | nil=>rw[h.nil_inv]; simpa using k
 | cons x xs ih =>
  obtain⟨v,vs',rfl,hv,ht⟩:=h.cons_inv
  exact .cons hv (ih ht)
theorem VRs.drop {M:Mem}{J:aB}{L:List (Option Nat)}{xs:List TV}{vs:List Value}(h:VRs M J L xs vs)(n:Nat):VRs M J L (xs.drop n) (vs.drop n) :=
 ⟨by simp[h.1],fun i x v hx hv=>h.2 (n+i) x v (by simpa using hx) (by simpa using hv)⟩
theorem VRs.take {M:Mem}{J:aB}{L:List (Option Nat)}{xs:List TV}{vs:List Value}(h:VRs M J L xs vs)(n:Nat):VRs M J L (xs.take n) (vs.take n):=by
 refine⟨by simp[h.1],fun i x v hx hv=>?_⟩
 rw[List.getElem?_take]at hx hv
 split at hx
 ·rename_i hi; simp[hi]at hv; exact h.2 i x v hx hv
 ·simp at hx
theorem VRs.frame {M:Mem}{J:aB}{L L':List (Option Nat)}{xs:List TV}{vs:List Value}(h:VRs M J L xs vs)(hl:xs.any dK=false):VRs M J L' xs vs:=by
 refine⟨h.1,fun i x v hx hv=>(h.2 i x v hx hv).frame ?_⟩
 have:=List.any_eq_false.1 hl x (List.mem_of_getElem? hx)
 simpa using this
def eE (A:Ann)(n:Nat):Prop:=A.slots.Nodup∧∀t∈A.slots,t<n
inductive PR:Option bF→Option Code→Prop
 | none:PR none none
 | ret:PR (some .ret) (some .ret)
 | exit (id:Nat):PR (some (.exit id)) (some (.exit id))
section
variable (P:Program)(O:cW)
structure LpR (M:Mem) (J:aB) (env:List TV) (ps:List Nat) (assign body:aL) (r:Loop):Prop where
 ex:∃A:Ann,eE A r.tmps.size∧env.length=A.slots.length∧(∀(j t:Nat) (x:TV),A.slots[j]? = some t→env[j]? = some x→VR M J [] x (r.tmps.getD t Go.undef)) ∧
  r.params.toList.map (dN · A.slots 0)=ps.map some∧assign=aZ P O A r.tmps.size r.assign∧body=aZ P O A r.tmps.size r.body∧dB assign=true∧dB body=true
theorem LpR.mono {M M':Mem}{J J':aB}(hM:MLe M M')(hJ:JLe J J'){env:List TV}{ps:List Nat}{assign body:aL}{r:Loop}
  (h:LpR P O M J env ps assign body r):LpR P O M' J' env ps assign body r:=by
 obtain⟨A,a,b,c,d⟩:=h.ex
 exact⟨A,a,b,fun j t x h1 h2=>(c j t x h1 h2).mono hM hJ,d⟩
inductive BR (M:Mem) (J:aB) (w:World) (l:Loc):aW→Prop
 | cells (loose:Bool) (cs:List TV) (cs':Array Value) (e:TypeId) (fz:Nat×Nat) (hl:l.loose=loose) (hb:w.heap[l.cb]? = some (.cells cs' e fz)) (hsz:cs'.size=l.size)
   (hfit:l.d+cs.length≤cs'.size) (hv:∀(k:Nat) (x:TV),cs[k]? = some x→∃u,cs'[l.d+k]? = some u∧VR M J [] x u)
   (hfz:∀o,o<cs'.size→w.frozen? ⟨l.cb,o,none⟩=false) (hm:∀o,M l.cb o=none)
   (ht:l.loose=false→l.ver≠0→l.ver=e+1∧l.d=0∧cs'.size=cs.length):BR M J w l (.cells l.ver loose cs)
 | frz (cs:List IV) (hv:∀(k:Nat) (x:IV),cs[k]? = some x→∃u,M l.cb (l.d+k)=some u∧IR M x u):BR M J w l (.frz l.ver cs)
 | tok (n:Nat) (cs':Array Value) (e:TypeId) (fz:Nat×Nat) (hl:l.loose=true) (hn:l.ver=n) (hb:w.heap[l.cb]? = some (.cells cs' e fz)) (hsz:cs'.size=l.size) (hc:n≤l.cap)
   (hes:0<l.es) (hfit:l.d+l.cap*l.es≤cs'.size) (hsp:∀o,l.d+n*l.es≤o→o<cs'.size→M l.cb o=none)
   (hfz:∀o,l.d+n*l.es≤o→o<cs'.size→w.frozen? ⟨l.cb,o,none⟩=false) (ht:l.ty=e∧l.d=0∧fz.2≤n*l.es):BR M J w l (.tok n l.es l.ty)
 | mp (es:List (Nat×IV×TV)) (clock:Nat) (es':Array MapEntry) (hl:l.loose=false) (hb:w.heap[l.cb]? = some (.map es' clock)) (hs:es'.size=es.length)
   (hv:∀(k:Nat) (x:Nat×IV×TV) (y:MapEntry),es[k]? = some x→es'[k]? = some y→y.born=x.1∧IR M x.2.1 y.key∧VR M J [] x.2.2 y.val):BR M J w l (.mp es clock)
 | sit (s:List UInt8) (pos:Nat) (hl:l.loose=false) (hb:w.heap[l.cb]? = some (.stringIter ⟨s.toArray⟩ pos)):BR M J w l (.sit s pos)
 | mitN (since:Nat) (seen:List Nat) (last:Nat) (hl:l.loose=false) (hb:w.heap[l.cb]? = some (.mapIter none since seen.toArray last)):BR M J w l (.mit none since seen last)
 | mit (m:Nat) (lm:Loc) (since:Nat) (seen:List Nat) (last:Nat) (hl:l.loose=false) (hm:J.at m lm) (hlm:lm.loose=false) (hb:w.heap[l.cb]? = some (.mapIter (some lm.cb) since seen.toArray last)) :
   BR M J w l (.mit (some m) since seen last)
 | lp (st:LoopState) (pend:Option bF) (env:List TV) (ps:List Nat) (assign body:aL) (r:Loop) (hl:l.loose=false) (hb:w.heap[l.cb]? = some (.loop r)) (hst:r.state=st) (hp:PR pend r.pending)
   (hr:LpR P O M J env ps assign body r):BR M J w l (.lp st pend env ps assign body)
variable {P O}
theorem JLe.fixed {J J':aB}(h:JLe J J'){i:Nat}{l:Loc}(hl:J.at i l)(hf:l.loose=false):J'.at i l:=by
 obtain⟨l',h',e⟩:=h.2 i l hl
 rcases e with rfl|⟨a,_,_⟩
 ·exact h'
 ·simp[hf]at a
theorem jX {w w':World}{b o:Nat}(h:w'.heap[b]? = w.heap[b]?):w'.frozen? ⟨b,o,none⟩=w.frozen? ⟨b,o,none⟩:=by
 simp[World.frozen?,h]
theorem eF {w w':World}{b o:Nat}(h:w'.heap[b]? = w.heap[b]?):w'.cell? ⟨b,o,none⟩=w.cell? ⟨b,o,none⟩:=by
 simp[World.cell?,h]
theorem BR.step {M M':Mem}{J J':aB}{w w':World}{l:Loc}{s:aW}(h:BR P O M J w l s)(hb:w'.heap[l.cb]? = w.heap[l.cb]?)(hM:MLe M M')(hMl:∀o,M' l.cb o=M l.cb o)
  (hJ:JLe J J'):BR P O M' J' w' l s:=by
 cases h with
 | cells loose cs cs' e fz hl hb' hsz hfit hv hfz hm ht =>
  exact .cells loose cs cs' e fz hl (hb.trans hb') hsz hfit (fun k x hx=>let ⟨u,h1,h2⟩:=hv k x hx; ⟨u,h1,h2.mono hM hJ⟩) (fun o ho=>(jX hb).trans (hfz o ho)) (fun o=>(hMl o).trans (hm o)) ht
 | frz cs hv=>exact .frz cs fun k x hx=>let ⟨u,h1,h2⟩:=hv k x hx; ⟨u,hM _ _ _ h1,h2.mono hM⟩
 | tok n cs' e fz hl hn hb' hsz hc hes hfit hsp hfz ht =>
  exact .tok n cs' e fz hl hn (hb.trans hb') hsz hc hes hfit (fun o h1 h2=>(hMl o).trans (hsp o h1 h2)) (fun o h1 h2=>(jX hb).trans (hfz o h1 h2)) ht
 | mp es clock es' hl hb' hs hv=>exact .mp es clock es' hl (hb.trans hb') hs (fun k x y hx hy=>let ⟨a,b,c⟩:=hv k x y hx hy; ⟨a,b.mono hM,c.mono hM hJ⟩)
 | sit s pos hl hb'=>exact .sit s pos hl (hb.trans hb')
 | mitN since seen last hl hb'=>exact .mitN since seen last hl (hb.trans hb')
 | mit m lm since seen last hl hm hlm hb'=>exact .mit m lm since seen last hl (hJ.fixed hm hlm) hlm (hb.trans hb')
 | lp st pend env ps assign body r hl hb' hst hp hr=>exact .lp st pend env ps assign body r hl (hb.trans hb') hst hp (hr.mono _ _ hM hJ)
variable (P O)
structure WR (M:Mem) (J:aB) (S:aA) (w:World):Prop where
 len:J.length=S.length
 imm:∀b o v,M b o=some v→w.cell? ⟨b,o,none⟩=some v
 blk:∀i l s,J.at i l→S[i]? = some s→BR P O M J w l s
 inj:∀i k l l',J.at i l→J.at k l'→l.cb=l'.cb→i=k
 lt:∀i l,J.at i l→l.cb<w.heap.size
variable {P O}
theorem aYv {w:World}{b o:Nat}{v:Value}(h:w.cell? ⟨b,o,none⟩=some v):b<w.heap.size:=World.block_lt_of_cell? w ⟨b,o,none⟩ h
theorem WR.mlt {M:Mem}{J:aB}{S:aA}{w:World}(h:WR P O M J S w){b o:Nat}{v:Value}(hm:M b o=some v):b<w.heap.size:=aYv (h.imm b o v hm)
theorem WR.step {M M':Mem}{J J':aB}{S S':aA}{w w':World}(h:WR P O M J S w)(hlen:J'.length=S'.length)(hM:MLe M M')(hJ:JLe J J')
  (himm:∀b o v,M' b o=some v→w'.cell? ⟨b,o,none⟩=some v)
  (hblk:∀i l s,J'.at i l→S'[i]? = some s→BR P O M' J' w' l s∨(J.at i l∧S[i]? = some s∧w'.heap[l.cb]? = w.heap[l.cb]? ∧ ∀o,M' l.cb o=M l.cb o))
  (hinj:∀i k l l',J'.at i l→J'.at k l'→l.cb=l'.cb→i=k) (hlt:∀i l,J'.at i l→l.cb<w'.heap.size):WR P O M' J' S' w':=by
 refine⟨hlen,himm,fun i l s hl hs=>?_,hinj,hlt⟩
 rcases hblk i l s hl hs with hb|⟨h1,h2,h3,h4⟩
 ·exact hb
 ·exact (h.blk i l s h1 h2).step h3 hM h4 hJ
structure Tr (own:Nat→Prop) (M:Mem) (J:aB) (S:aA) (w:World) (M':Mem) (J':aB) (S':aA) (w':World):Prop where
 os:w'.os=w.os
 tape:w'.tape=w.tape
 output:w'.output=w.output
 size:w.heap.size≤w'.heap.size
 mle:MLe M M'
 mnew:∀b o,b<w.heap.size→¬J.has b→M' b o=M b o
 jle:JLe J J'
 jnew:∀i l,J'.at i l→w.heap.size≤l.cb∨∃l0,J.at i l0∧l0.cb=l.cb
 ph:∀i:Nat,J[i]? = some none→J'[i]? = some none∧S'[i]? = S[i]?
 frame:∀b,b<w.heap.size→¬J.has b→¬own b→w'.heap[b]? = w.heap[b]?
theorem Tr.refl (own:Nat→Prop)(M:Mem)(J:aB)(S:aA)(w:World):Tr own M J S w M J S w :=
 ⟨rfl,rfl,rfl,Nat.le_refl _,.refl _,fun _ _ _ _=>rfl,.refl _,fun _ l h=>.inr ⟨l,h,rfl⟩,fun _ h=>⟨h,rfl⟩,fun _ _ _ _=>rfl⟩
theorem Tr.has {own:Nat→Prop}{M:Mem}{J:aB}{S:aA}{w:World}{M':Mem}{J':aB}{S':aA}{w':World}(h:Tr own M J S w M' J' S' w'){b:Nat}(hb:b<w.heap.size)(hn:¬J.has b):¬J'.has b:=by
 rintro⟨i,l,hl,rfl⟩
 rcases h.jnew i l hl with h1|⟨l0,h1,h2⟩
 ·omega
 ·exact hn ⟨i,l0,h1,h2⟩
theorem Tr.trans {own own':Nat→Prop}{M M' M'':Mem}{J J' J'':aB}{S S' S'':aA}{w w' w'':World}(h:Tr own M J S w M' J' S' w')(k:Tr own' M' J' S' w' M'' J'' S'' w'')
  (ho:∀b,own' b→own b∨w.heap.size≤b):Tr own M J S w M'' J'' S'' w'':=by
 refine⟨k.os.trans h.os,k.tape.trans h.tape,k.output.trans h.output,Nat.le_trans h.size k.size,h.mle.trans k.mle,?_,h.jle.trans k.jle,?_,?_,?_⟩
 ·intro b o hb hn
  exact (k.mnew b o (Nat.lt_of_lt_of_le hb h.size) (h.has hb hn)).trans (h.mnew b o hb hn)
 ·intro i l hl
  rcases k.jnew i l hl with h1|⟨l0,h1,h2⟩
  ·exact .inl (Nat.le_trans h.size h1)
  ·rcases h.jnew i l0 h1 with h3|⟨l1,h3,h4⟩
   ·exact .inl (by omega)
   ·exact .inr ⟨l1,h3,h4.trans h2⟩
 ·intro i hi
  obtain⟨a,b⟩:=h.ph i hi
  obtain⟨c,d⟩:=k.ph i a
  exact⟨c,d.trans b⟩
 ·intro b hb hn hno
  refine (k.frame b (Nat.lt_of_lt_of_le hb h.size) (h.has hb hn) (fun hb'=>?_)).trans (h.frame b hb hn hno)
  rcases ho b hb' with h1|h1
  ·exact hno h1
  ·omega
theorem Tr.weaken {own own':Nat→Prop}{M M':Mem}{J J':aB}{S S':aA}{w w':World}(h:Tr own M J S w M' J' S' w')(ho:∀b,own b→own' b):Tr own' M J S w M' J' S' w' :=
 ⟨h.os,h.tape,h.output,h.size,h.mle,h.mnew,h.jle,h.jnew,h.ph,fun b hb hn hno=>h.frame b hb hn (fun h'=>hno (ho b h'))⟩
end
end Go.TM
namespace Go.TM
open Go
section
variable {P:Program}{O:cW}
theorem gB (b o n:Nat):(⟨b,o,none⟩:Addr).add n=⟨b,o+n,none⟩:=by
 unfold Addr.add; split<;>simp_all
theorem kR {w:World}(b o:Nat)(vs:List Value)(h:∀i v,vs[i]? = some v→w.cell? ⟨b,o+i,none⟩=some v) :
  (loadCells ⟨b,o,none⟩ vs.length).run P w=.ok vs.toArray w :=
 run_loadCells_list w ⟨b,o,none⟩ vs (fun j v hj=>by rw[gB]; exact h j v hj)
def nO (cs:Array Value):Nat→List Value→Array Value
 | _,[]=>cs
 | o,v::r=>nO (cs.setIfInBounds o v) (o+1) r
theorem dV:∀(vs:List Value) (o:Nat) (cs:Array Value),(nO cs o vs).size=cs.size
 | [],_,_=>rfl
 | _::r,o,cs=>by rw[nO,dV r]; simp
theorem oB:∀(vs:List Value) (o:Nat) (cs:Array Value) (k:Nat),o+vs.length≤cs.size →
  (nO cs o vs)[k]? = if o≤k∧k<o+vs.length then vs[k-o]? else cs[k]?
 | [],o,cs,k,_=>by
  have:¬(o≤k∧k<o+([]:List Value).length):=by simp
  rw[if_neg this]; rfl
 | v::r,o,cs,k,h=>by
  simp only[List.length_cons]at h ⊢
  rw[nO,oB r (o+1) _ k (by simp; omega)]
  by_cases h1:o+1≤k∧k<o+1+r.length
  ·rw[if_pos h1,if_pos (by omega),show k-o=(k-(o+1))+1 by omega,List.getElem?_cons_succ]
  ·rw[if_neg h1]
   by_cases h2:k=o
   ·subst h2
    rw[if_pos (by omega)]
    have hk:k<cs.size:=by omega
    rw[Array.getElem?_setIfInBounds_self_of_lt hk]; simp
   ·rw[if_neg (by omega),Array.getElem?_setIfInBounds_ne (by omega)]
theorem gO (b:Nat):∀(vs:List Value) (o:Nat) (w:World) (cs:Array Value) (e:TypeId) (fz:Nat×Nat),w.heap[b]? = some (.cells cs e fz) →
  (w.setCells b o vs).heap[b]? = some (.cells (nO cs o vs) e fz)
 | [],_,_,_,_,_,h=>h
 | v::r,o,w,cs,e,fz,h=>by
  rw[World.setCells,nO]
  refine gO b r (o+1) _ _ e fz ?_
  simp only[World.setCell,Array.getElem?_modify]
  simp[h]
theorem gC (b:Nat):∀(vs:List Value) (o:Nat) (w:World) (b':Nat),b'≠b→(w.setCells b o vs).heap[b']? = w.heap[b']?
 | [],_,_,_,_=>rfl
 | v::r,o,w,b',h=>by
  rw[World.setCells,gC b r (o+1) _ b' h]
  simp only[World.setCell,Array.getElem?_modify]
  rw[if_neg (by omega)]
theorem fR (b:Nat):∀(vs:List Value) (o:Nat) (w:World),(w.setCells b o vs).heap.size=w.heap.size
 | [],_,_=>rfl
 | v::r,o,w=>by rw[World.setCells,fR b r]; simp[World.setCell]
theorem jM (b:Nat):∀(vs:List Value) (o:Nat) (w:World),(w.setCells b o vs).os=w.os∧(w.setCells b o vs).tape=w.tape∧(w.setCells b o vs).output=w.output
 | [],_,_=>⟨rfl,rfl,rfl⟩
 | v::r,o,w=>by rw[World.setCells]; exact jM b r (o+1) _
theorem cK {w:World}{b:Nat}{cs:Array Value}{e:TypeId}{fz:Nat×Nat}(h:w.heap[b]? = some (.cells cs e fz))(o:Nat):w.cell? ⟨b,o,none⟩=cs[o]? := by
 simp[World.cell?,h]
theorem eT {w:World}{b:Nat}{o:Obj}(h:w.heap[b]? = some o):b<w.heap.size:=by
 rcases Nat.lt_or_ge b w.heap.size with h'|h'
 ·exact h'
 ·simp[Array.getElem?_eq_none h']at h
theorem kF {w:World}{b o:Nat}{vs:List Value}{cs:Array Value}{e:TypeId}{fz:Nat×Nat}(h:w.heap[b]? = some (.cells cs e fz))(hfit:o+vs.length≤cs.size)
  (hfz:∀k,o≤k→k<o+vs.length→w.frozen? ⟨b,k,none⟩=false) (h1:∀v∈vs,v.oneCell'=true) :
  (storeCells ⟨b,o,none⟩ vs).run P w=.ok () (w.setCells b o vs):=by
 have:=run_storeCells_cells (P:=P) b o vs 0 w (fun j hj=>by
  rw[cK h]
  simp; omega) (fun j hj=>hfz _ (by omega) (by omega)) h1
 simpa using this
theorem VR.iv_inv {M:Mem}{J:aB}{L:List (Option Nat)}{a:IV}{v:Value}(h:VR M J L (.iv a) v):IR M a v:=by
 cases h; assumption
theorem VR.isLp_nil {M:Mem}{J:aB}{x:TV}{v:Value}(h:VR M J [] x v):dK x=false:=by
 cases h<;>first|rfl|(rename_i h; simp at h)
theorem VR.ofNil {M:Mem}{J:aB}{L:List (Option Nat)}{x:TV}{v:Value}(h:VR M J [] x v):VR M J L x v:=h.frame h.isLp_nil
theorem VRs.ofNil {M:Mem}{J:aB}{L:List (Option Nat)}{xs:List TV}{vs:List Value}(h:VRs M J [] xs vs):VRs M J L xs vs:=⟨h.1,fun i x v h1 h2=>(h.2 i x v h1 h2).ofNil⟩
theorem IR.agg_inv {M:Mem}{cs:List IV}{v:Value}(h:IR M (.agg cs) v):∃vs,v=.agg vs∧vs.size=cs.length∧∀(i:Nat) (x:IV) (u:Value),cs[i]? = some x→vs[i]? = some u→IR M x u:=by
 cases h with
 | agg cs vs hs hv=>exact⟨vs,rfl,hs,hv⟩
theorem IR.oneCell {M:Mem}{a:IV}{v:Value}(h:IR M a v)(hn:bL (.iv a)=false):v.oneCell'=true:=by
 cases h<;>first|rfl|simp[bL]at hn
theorem VR.oneCell {M:Mem}{J:aB}{L:List (Option Nat)}{x:TV}{v:Value}(h:VR M J L x v)(hn:bL x=false):v.oneCell'=true:=by
 cases h with
 | iv L h=>exact h.oneCell hn
 | hole L v=>simp[bL]at hn
 | agg L cs vs hs hv=>simp[bL]at hn
 | tup L cs vs hs hv=>simp[bL]at hn
 | _=>rfl
theorem VRs.oneCell {M:Mem}{J:aB}{L:List (Option Nat)}{xs:List TV}{vs:List Value}(h:VRs M J L xs vs)(hn:xs.any bL=false):∀v∈vs,v.oneCell'=true:=by
 intro v hv
 obtain⟨i,hi⟩:=List.getElem?_of_mem hv
 have hlt:i<xs.length:=by rw[←h.1]; exact (List.getElem?_eq_some_iff.1 hi).1
 have hx:xs[i]? = some xs[i]:=List.getElem?_eq_getElem hlt
 refine (h.2 i _ v hx hi).oneCell ?_
 have:=List.any_eq_false.1 hn xs[i] (List.getElem_mem hlt)
 simpa using this
theorem VRs.ofAgg {M:Mem}{J:aB}{cs:List TV}{vs:Array Value}(hs:vs.size=cs.length)(hv:∀(i:Nat) (x:TV) (v:Value),cs[i]? = some x→vs[i]? = some v→VR M J [] x v):VRs M J [] cs vs.toList :=
 ⟨by simpa using hs,fun i x v h1 h2=>hv i x v h1 (by simpa using h2)⟩
theorem VRs.ofIVs {M:Mem}{J:aB}{L:List (Option Nat)}{cs:List IV}{vs:List Value}(hs:vs.length=cs.length)(hv:∀(i:Nat) (x:IV) (v:Value),cs[i]? = some x→vs[i]? = some v→IR M x v) :
  VRs M J L (cs.map .iv) vs :=
 ⟨by simpa using hs,fun i x v h1 h2=>by
  simp only[List.getElem?_map,Option.map_eq_some_iff]at h1
  obtain⟨a,ha,rfl⟩:=h1
  exact .iv _ (hv i a v ha h2)⟩
theorem VRs.toIVs {M:Mem}{J:aB}{L:List (Option Nat)}{cs:List IV}{vs:List Value}(h:VRs M J L (cs.map .iv) vs):vs.length=cs.length∧∀(i:Nat) (x:IV) (v:Value),cs[i]? = some x→vs[i]? = some v→IR M x v :=
 ⟨by simpa using h.1,fun i x v h1 h2=>(h.2 i (.iv x) v (by simp[h1]) h2).iv_inv⟩
theorem oC {M:Mem}{J:aB}{L:List (Option Nat)}{x:TV}{v:Value}(h:VR M J L x v)(hn:(cellsOf x).any bL=false):VRs M J [] (cellsOf x) v.cells.toList:=by
 cases h with
 | hole L v=>simp[cellsOf,bL]at hn
 | iv L h =>
  cases h with
  | agg cs vs hs hv=>exact VRs.ofIVs (by simpa[Value.cells] using hs) (fun i x v h1 h2=>hv i x v h1 (by simpa[Value.cells] using h2))
  | _=>exact .cons (.iv _ (by constructor<;>assumption)) .nil
 | agg L cs vs hs hv=>exact .ofAgg hs hv
 | lp L j off cb h=>simp[cellsOf,bL]at hn
 | tup L cs vs hs hv=>simp[cellsOf,bL]at hn
 | ptr L i ver off l b o h hv ha=>exact .cons (.ptr _ i ver off l b o h hv ha) .nil
 | msl L i ver off len cap es l b o c h hv ha hl hlc=>exact .cons (.msl _ i ver off len cap es l b o c h hv ha hl hlc) .nil
 | tsl L i es l b o c h hl hv ha hr=>exact .cons (.tsl _ i es l b o c h hl hv ha hr) .nil
 | rsv L i es n l b o c h hl hv ha hc hr=>exact .cons (.rsv _ i es n l b o c h hl hv ha hc hr) .nil
 | map L i l h hl=>exact .cons (.map _ i l h hl) .nil
 | it L i l h hl=>exact .cons (.it _ i l h hl) .nil
 | yld L i l h hl=>exact .cons (.yld _ i l h hl) .nil
 | fn L f fst cap fst' cap' h1 h2 hf hc=>exact .cons (.fn _ f fst cap fst' cap' h1 h2 hf hc) .nil
theorem qS:∀ {cs:List TV} {l:List IV},kO cs=some l→cs=l.map .iv
 | [],l,h=>by simp[kO]at h; subst h; rfl
 | x::r,l,h=>by
  cases x with
  | iv a =>
   simp only[kO,Option.map_eq_some_iff]at h
   obtain⟨l',h1,rfl⟩:=h
   rw[qS h1]; rfl
  | _=>simp[kO]at h
theorem rW {M:Mem}{J:aB}{L:List (Option Nat)}{cs:List TV}{vs:List Value}(h:VRs M J [] cs vs):VR M J L (nJ cs) (.agg vs.toArray):=by
 unfold nJ
 split
 ·rename_i l hl
  have:=qS hl
  subst this
  obtain⟨h1,h2⟩:=h.toIVs
  exact .iv _ (.agg _ _ (by simpa using h1) (fun i x v hx hv=>h2 i x v hx (by simpa using hv)))
 ·exact .agg _ _ _ (by simpa using h.1) (fun i x v hx hv=>h.2 i x v hx (by simpa using hv))
theorem fO {α:Type}{cs:List α}{off n:Nat}{l:List α}(h:sub cs off n=some l):off+n≤cs.length∧l=(cs.drop off).take n∧l.length=n:=by
 unfold sub at h
 split at h
 ·rename_i hle
  simp at h
  subst h
  exact⟨hle,rfl,by simp; omega⟩
 ·simp at h
theorem pB {α:Type}{cs:List α}{off n:Nat}{l:List α}(h:sub cs off n=some l){i:Nat}{x:α}(hx:l[i]? = some x):cs[off+i]? = some x:=by
 obtain⟨_,rfl,_⟩:=fO h
 rw[List.getElem?_take]at hx
 split at hx
 ·simpa using hx
 ·simp at hx
def aM6 (M:Mem)(J:aB)(w:World)(cb:Nat)(cs:List TV):Prop :=
 ¬J.has cb∧(∀o,M cb o=none)∧∃(cs':Array Value) (e:TypeId) (fz:Nat×Nat),w.heap[cb]? = some (.cells cs' e fz)∧VRs M J [] cs cs'.toList∧∀o,o<cs'.size→w.frozen? ⟨cb,o,none⟩=false
structure LbR (M:Mem) (J:aB) (L:List (Option Nat)) (env:Env) (w:World):Prop where
 len:L.length=env.length
 box:∀(j:Nat) (cs:List TV),env[j]? = some (TV.lb cs)→∃cb,L[j]? = some (some cb)∧aM6 M J w cb cs
 inj:∀(j k:Nat) (cs cs':List TV) (cb:Nat),env[j]? = some (TV.lb cs)→env[k]? = some (TV.lb cs')→L[j]? = some (some cb)→L[k]? = some (some cb)→j=k
def bX (L:List (Option Nat))(b:Nat):Prop:=∃j:Nat,L[j]? = some (some b)
variable (P O) in
structure MS (K:TM.bG) (M:Mem) (J:aB) (L:List (Option Nat)) (S:aA) (env:Env) (w:World):Prop where
 wr:WR P O M J S w
 lb:LbR M J L env w
 gl:∀g cs,K.glob g=some cs→IR M (.cp cs) (.pointer (some ⟨g,0,none⟩))
variable {K:TM.bG}
theorem aM6.step {M M':Mem}{J J':aB}{w w':World}{cb:Nat}{cs:List TV}(h:aM6 M J w cb cs)(hb:w'.heap[cb]? = w.heap[cb]?)(hM:MLe M M')(hMl:∀o,M' cb o=M cb o)(hJ:JLe J J')
  (hn:¬J'.has cb):aM6 M' J' w' cb cs:=by
 obtain⟨_,h2,cs',e,fz,h3,h4,h5⟩:=h
 exact⟨hn,fun o=>(hMl o).trans (h2 o),cs',e,fz,hb.trans h3,h4.mono hM hJ,fun o ho=>(jX hb).trans (h5 o ho)⟩
theorem aM6.lt {M:Mem}{J:aB}{w:World}{cb:Nat}{cs:List TV}(h:aM6 M J w cb cs):cb<w.heap.size:=by
 obtain⟨_,_,_,_,_,h3,_⟩:=h
 exact eT h3
theorem LbR.step {own:Nat→Prop}{M M':Mem}{J J':aB}{S S':aA}{L:List (Option Nat)}{env:Env}{w w':World}(h:LbR M J L env w)(t:Tr own M J S w M' J' S' w')(ho:∀b,bX L b→¬own b) :
  LbR M' J' L env w':=by
 refine⟨h.len,fun j cs hj=>?_,h.inj⟩
 obtain⟨cb,h1,h2⟩:=h.box j cs hj
 have hlt:=h2.lt
 exact⟨cb,h1,h2.step (t.frame cb hlt h2.1 (ho cb ⟨j,h1⟩)) t.mle (fun o=>t.mnew cb o hlt h2.1) t.jle (t.has hlt h2.1)⟩
theorem MS.step {own:Nat→Prop}{M M':Mem}{J J':aB}{S S':aA}{L:List (Option Nat)}{env:Env}{w w':World}(h:MS P O K M J L S env w)(hw:WR P O M' J' S' w')(t:Tr own M J S w M' J' S' w')
  (ho:∀b,bX L b→¬own b):MS P O K M' J' L S' env w' :=
 ⟨hw,h.lb.step t ho,fun g cs hg=>(h.gl g cs hg).mono t.mle⟩
theorem rX {M:Mem}{J:aB}{L:List (Option Nat)}{S:aA}{env:Env}{w:World}(h:MS P O K M J L S env w){a:TV}{n:Nat}{cs:List TV}{va:Value}
  (hg:bH env S a n=some cs) (ha:VR M J L a va):∃b o vs,va=.pointer (some ⟨b,o,none⟩)∧VRs M J [] cs vs∧vs.length=n∧∀(i:Nat) (v:Value),vs[i]? = some v→w.cell? ⟨b,o+i,none⟩=some v:=by
 unfold bH at hg
 split at hg
 ·rename_i j off
  cases ha with
  | lp L j off cb hj =>
   split at hg
   ·rename_i cs0 he
    obtain⟨cb',h1,_,_,cs',e,fz,hb,hv,_⟩:=h.lb.box j cs0 he
    obtain rfl:cb=cb':=by rw[hj]at h1; simpa using h1
    obtain⟨hle,rfl,hlen⟩:=fO hg
    refine⟨cb,off,(cs'.toList.drop off).take n,rfl,(hv.drop off).take n,?_,fun i v hi=>?_⟩
    ·have:=((hv.drop off).take n).1; rw[hlen]at this; exact this
    ·rw[cK hb]
     rw[List.getElem?_take]at hi
     split at hi
     ·simpa using hi
     ·simp at hi
   ·simp at hg
 ·rename_i i v off
  cases ha with
  | ptr L i ver off l b o hl hv ha =>
   split at hg
   ·rename_i v' lo cs0 hs
    split at hg
    ·rename_i hvv
     subst hvv
     have hbr:=h.wr.blk i l _ hl hs
     cases hbr with
     | cells loose cs cs' e fz hlo hb hsz hfit hvals hfz hm =>
      obtain⟨rfl,rfl⟩:=ha rfl
      obtain⟨hle,rfl,hlen⟩:=fO hg
      have key:∀k x,((cs0.drop off).take n)[k]? = some x→∃u,cs'[l.d+off+k]? = some u∧VR M J [] x u:=by
       intro k x hx
       have:=pB hg hx
       obtain⟨u,h1,h2⟩:=hvals _ _ this
       exact⟨u,by rw[Nat.add_assoc]; exact h1,h2⟩
      refine⟨l.cb,l.d+off,(cs'.toList.drop (l.d+off)).take n,rfl,⟨?_,?_⟩,?_,?_⟩
      ·simp; omega
      ·intro k x u hx hu
       obtain⟨u',h1,h2⟩:=key k x hx
       rw[List.getElem?_take]at hu
       split at hu
       ·rw[List.getElem?_drop,Array.getElem?_toList,h1]at hu
        simp at hu; subst hu; exact h2
       ·simp at hu
      ·simp; omega
      ·intro k u hu
       rw[cK hb]
       rw[List.getElem?_take]at hu
       split at hu
       ·simpa using hu
       ·simp at hu
    ·simp at hg
   ·rename_i v' cs0 hs
    split at hg
    ·rename_i hvv
     subst hvv
     have hbr:=h.wr.blk i l _ hl hs
     cases hbr with
     | frz cs hvals =>
      obtain⟨rfl,rfl⟩:=ha rfl
      simp only[Option.map_eq_some_iff]at hg
      obtain⟨l0,hsub,rfl⟩:=hg
      obtain⟨hle,_,hlen⟩:=fO hsub
      have key:∀(k:Nat) (x:IV),l0[k]? = some x→∃u,M l.cb (l.d+off+k)=some u∧IR M x u:=by
       intro k x hx
       obtain⟨u,h1,h2⟩:=hvals _ _ (pB hsub hx)
       exact⟨u,by rw[Nat.add_assoc]; exact h1,h2⟩
      refine⟨l.cb,l.d+off,(List.range n).map fun k=>(M l.cb (l.d+off+k)).getD Go.undef,rfl,⟨?_,?_⟩,by simp,?_⟩
      ·simp[hlen]
      ·intro k x u hx hu
       simp only[List.getElem?_map,Option.map_eq_some_iff]at hx hu
       obtain⟨x0,hx0,rfl⟩:=hx
       obtain⟨k',hk',rfl⟩:=hu
       obtain⟨rfl⟩:k'=k:=by
        rw[List.getElem?_range (by rw[←hlen]; exact (List.getElem?_eq_some_iff.1 hx0).1)]at hk'; simpa using hk'.symm
       obtain⟨u,h1,h2⟩:=key _ x0 hx0
       rw[h1]; exact .iv _ h2
      ·intro k u hu
       simp only[List.getElem?_map,Option.map_eq_some_iff]at hu
       obtain⟨k',hk',rfl⟩:=hu
       have hkn:k<n:=by
        rcases Nat.lt_or_ge k n with h'|h'
        ·exact h'
        ·rw[List.getElem?_eq_none (by simpa using h')]at hk'; simp at hk'
       obtain rfl:k'=k:=by rw[List.getElem?_range hkn]at hk'; simpa using hk'.symm
       obtain⟨u,h1,h2⟩:=key k' l0[k'] (List.getElem?_eq_getElem (by omega))
       rw[h1]; exact h.wr.imm _ _ _ h1
    ·simp at hg
   ·simp at hg
 ·rename_i cs0
  cases ha with
  | iv L hr =>
   cases hr with
   | cp cs b off vals hm hv =>
    simp only[Option.map_eq_some_iff]at hg
    obtain⟨l0,hsub,rfl⟩:=hg
    obtain⟨hle,_,hlen⟩:=fO hsub
    have key:∀(k:Nat) (x:IV),l0[k]? = some x→M b (off+k)=some (vals k)∧IR M x (vals k):=by
     intro k x hx
     have:=pB hsub hx
     rw[Nat.zero_add]at this
     exact⟨hm _ _ this,hv _ _ this⟩
    refine⟨b,off,(List.range n).map vals,rfl,⟨by simp[hlen],?_⟩,by simp,?_⟩
    ·intro k x u hx hu
     simp only[List.getElem?_map,Option.map_eq_some_iff]at hx hu
     obtain⟨x0,hx0,rfl⟩:=hx
     obtain⟨k',hk',rfl⟩:=hu
     obtain⟨rfl⟩:k'=k:=by
      rw[List.getElem?_range (by rw[←hlen]; exact (List.getElem?_eq_some_iff.1 hx0).1)]at hk'; simpa using hk'.symm
     exact .iv _ (key _ x0 hx0).2
    ·intro k u hu
     simp only[List.getElem?_map,Option.map_eq_some_iff]at hu
     obtain⟨k',hk',rfl⟩:=hu
     have hkn:k<n:=by
      rcases Nat.lt_or_ge k n with h'|h'
      ·exact h'
      ·rw[List.getElem?_eq_none (by simpa using h')]at hk'; simp at hk'
     obtain rfl:k'=k:=by rw[List.getElem?_range hkn]at hk'; simpa using hk'.symm
     exact h.wr.imm _ _ _ (key k' l0[k'] (List.getElem?_eq_getElem (by omega))).1
 ·simp at hg
end
end Go.TM
namespace Go.TM
open Go
section
variable {P:Program}{O:cW}{K:TM.bG}
theorem aLw {α:Type}{cs vs:List α}{off:Nat}(h:off+vs.length≤cs.length)(k:Nat):(put cs off vs)[k]? = if off≤k∧k<off+vs.length then vs[k-off]? else cs[k]? := by
 unfold put
 have h0:(cs.take off).length=off:=by simp; omega
 by_cases h1:k<off
 ·rw[if_neg (by omega),List.append_assoc,List.getElem?_append_left (by omega),List.getElem?_take,if_pos h1]
 ·by_cases h2:k<off+vs.length
  ·rw[if_pos (by omega),List.append_assoc,List.getElem?_append_right (by omega),h0,List.getElem?_append_left (by omega)]
  ·rw[if_neg (by omega),List.getElem?_append_right (by simp; omega),List.length_append,h0,List.getElem?_drop]
   congr 1; omega
theorem qT {α:Type}{cs vs:List α}{off:Nat}(h:off+vs.length≤cs.length):(put cs off vs).length=cs.length:=by
 unfold put; simp; omega
def pC (env env':Env):Prop :=
 env'.length=env.length∧∀j:Nat,env'[j]? = env[j]? ∨ ∃cs cs':List TV,env[j]? = some (TV.lb cs)∧env'[j]? = some (TV.lb cs')
theorem pC.refl (env:Env):pC env env:=⟨rfl,fun _=>.inl rfl⟩
theorem VRs.put {M:Mem}{J:aB}{cs vs:List TV}{cs':Array Value}{vals:List Value}{off:Nat}(h:VRs M J [] cs cs'.toList)(k:VRs M J [] vs vals)(hfit:off+vs.length≤cs.length) :
  VRs M J [] (put cs off vs) (nO cs' off vals).toList:=by
 have hs:cs'.size=cs.length:=by simpa using h.1
 refine⟨by rw[qT hfit,Array.length_toList,dV,hs],fun i x v hx hv=>?_⟩
 rw[aLw hfit]at hx
 rw[Array.getElem?_toList,oB _ _ _ _ (by rw[k.1]; omega),k.1]at hv
 split at hx
 ·rename_i hc
  rw[if_pos hc]at hv
  exact k.2 _ x v hx hv
 ·rename_i hc
  rw[if_neg hc]at hv
  exact h.2 _ x v hx (by simpa using hv)
theorem WR.write {M:Mem}{J:aB}{S:aA}{w:World}(h:WR P O M J S w)(own:Nat→Prop){i:Nat}{l:Loc}(hl:J.at i l){w':World}{s':aW}(hbr:BR P O M J w' l s')
  (hsz:w'.heap.size=w.heap.size) (hot:∀b,b≠l.cb→w'.heap[b]? = w.heap[b]?) (hos:w'.os=w.os∧w'.tape=w.tape∧w'.output=w.output) (him:∀o v,M l.cb o=some v→w'.cell? ⟨l.cb,o,none⟩=some v) :
  WR P O M J (S.set i s') w'∧Tr own M J S w M J (S.set i s') w':=by
 refine⟨h.step (by simpa using h.len) (.refl _) (.refl _) ?_ ?_ h.inj (fun k lk hk=>by rw[hsz]; exact h.lt k lk hk),?_⟩
 ·intro b o v hm
  by_cases hb:b=l.cb
  ·subst hb; exact him o v hm
  ·rw[eF (hot b hb)]; exact h.imm b o v hm
 ·intro k lk s hk hs
  by_cases hki:k=i
  ·subst hki
   left
   rw[List.getElem?_set]at hs
   split at hs
   ·split at hs
    ·simp at hs; subst hs
     obtain rfl:lk=l:=by unfold aB.at at hk hl; rw[hl]at hk; simpa using hk.symm
     exact hbr
    ·simp at hs
   ·contradiction
  ·right
   refine⟨hk,?_,hot _ (fun e=>hki (h.inj k i lk l hk hl e)),fun _=>rfl⟩
   rwa [List.getElem?_set_ne (by omega)]at hs
 ·refine⟨hos.1,hos.2.1,hos.2.2,by omega,.refl _,fun _ _ _ _=>rfl,.refl _,fun k lk hk=>.inr ⟨lk,hk,rfl⟩,fun k hk=>⟨hk,?_⟩,fun b hb hn _=>hot b (fun e=>hn ⟨i,l,hl,e.symm⟩)⟩
  rw[List.getElem?_set_ne]
  rintro rfl
  unfold aB.at at hl
  rw[hl]at hk
  simp at hk
theorem kG {M:Mem}{J:aB}{L:List (Option Nat)}{S S':aA}{env env':Env}{w:World}(h:MS P O K M J L S env w){a:TV}{vs:List TV}{va:Value}{vals:List Value}
  (hg:setCells env S a vs=some (env',S')) (ha:VR M J L a va) (hv:VRs M J [] vs vals) :
  ∃b o w',va=.pointer (some ⟨b,o,none⟩)∧(storeCells ⟨b,o,none⟩ vals).run P w=.ok () w'∧MS P O K M J L S' env' w'∧Tr (bX L) M J S w M J S' w'∧pC env env':=by
 unfold setCells at hg
 split at hg
 ·simp at hg
 rename_i href
 have href:vs.any bL=false:=by simpa using href
 have h1:=hv.oneCell href
 split at hg
 ·rename_i j off
  cases ha with
  | lp L j off cb hj =>
   split at hg
   ·rename_i cs0 he
    split at hg
    ·rename_i hfit
     simp only[Option.some.injEq,Prod.mk.injEq]at hg
     obtain⟨rfl,rfl⟩:=hg
     obtain⟨cb',hj',hnj,hmn,cs',e,fz,hb,hvals,hfz⟩:=h.lb.box j cs0 he
     obtain rfl:cb=cb':=by rw[hj]at hj'; simpa using hj'
     have hsz:cs'.size=cs0.length:=by simpa using hvals.1
     have hrun:=kF (P:=P) (o:=off) (vs:=vals) hb (by rw[hv.1]; omega) (fun k _ hk=>hfz k (by rw[hv.1]at hk; omega)) h1
     have hoth:∀b,b≠cb→(w.setCells cb off vals).heap[b]? = w.heap[b]? := fun b hb'=>gC cb vals off w b hb'
     have hos:=jM cb vals off w
     have hlt:=eT hb
     have tr:Tr (bX L) M J S w M J S (w.setCells cb off vals):=by
      refine⟨hos.1,hos.2.1,hos.2.2,by rw[fR]; exact Nat.le_refl _,.refl _,fun _ _ _ _=>rfl,.refl _,fun k lk hk=>.inr ⟨lk,hk,rfl⟩,fun k hk=>⟨hk,rfl⟩,fun b _ _ ho=>hoth b (fun e=>ho ?_)⟩
      subst e; exact⟨j,hj⟩
     refine⟨cb,off,_,rfl,hrun,⟨?_,?_,h.gl⟩,tr,?_⟩
     ·refine h.wr.step h.wr.len (.refl _) (.refl _) (fun b o v hm=>?_) (fun i l s hl hs=>.inr ⟨hl,hs,hoth _ (fun e=>hnj ⟨i,l,hl,e⟩),fun _=>rfl⟩) h.wr.inj (fun i l hl=>by rw[fR]; exact h.wr.lt i l hl)
      rw[eF (hoth b (fun e=>by subst e; rw[hmn]at hm; simp at hm))]
      exact h.wr.imm b o v hm
     ·refine⟨by rw[List.length_set]; exact h.lb.len,fun k cs hk=>?_,fun k k' cs cs'' cb' hk hk'=>?_⟩
      ·by_cases hkj:k=j
       ·subst hkj
        have hjl:k<env.length:=(List.getElem?_eq_some_iff.1 he).1
        rw[List.getElem?_set_self hjl]at hk
        simp at hk; subst hk
        refine⟨cb,hj,hnj,hmn,nO cs' off vals,e,fz,gO cb vals off w cs' e fz hb,hvals.put hv hfit,fun o ho=>?_⟩
        rw[World.frozen?_setCells]
        exact hfz o (by rwa [dV]at ho)
       ·rw[List.getElem?_set_ne (by omega)]at hk
        obtain⟨cb2,h2,h3⟩:=h.lb.box k cs hk
        exact⟨cb2,h2,h3.step (hoth _ (fun e=>hkj (h.lb.inj k j cs cs0 cb hk he (e▸h2) hj))) (.refl _) (fun _=>rfl) (.refl _) h3.1⟩
      ·have key:∀(m:Nat) (cs1:List TV),(env.set j (TV.lb (put cs0 off vs)))[m]? = some (TV.lb cs1)→∃cs2:List TV,env[m]? = some (TV.lb cs2):=by
        intro m cs1 hm
        by_cases hmj:m=j
        ·subst hmj; exact⟨cs0,he⟩
        ·rw[List.getElem?_set_ne (by omega)]at hm; exact⟨cs1,hm⟩
       obtain⟨c1,e1⟩:=key k cs hk
       obtain⟨c2,e2⟩:=key k' cs'' hk'
       exact h.lb.inj k k' c1 c2 cb' e1 e2
     ·refine⟨List.length_set,fun k=>?_⟩
      by_cases hkj:k=j
      ·subst hkj
       exact .inr ⟨cs0,_,he,List.getElem?_set_self (List.getElem?_eq_some_iff.1 he).1⟩
      ·exact .inl (List.getElem?_set_ne (by omega))
    ·simp at hg
   ·simp at hg
 ·rename_i i v off
  cases ha with
  | ptr L i ver off l b o hl hv' ha =>
   split at hg
   ·rename_i v' lo cs0 hs
    split at hg
    ·rename_i hc
     obtain⟨rfl,hfit⟩:=hc
     simp only[Option.some.injEq,Prod.mk.injEq]at hg
     obtain⟨rfl,rfl⟩:=hg
     have hbr:=h.wr.blk i l _ hl hs
     cases hbr with
     | cells loose cs cs' e fz hlo hb hsz hfit' hvals hfz hm htt =>
      obtain⟨rfl,rfl⟩:=ha rfl
      have hrun:=kF (P:=P) (o:=l.d+off) (vs:=vals) hb (by rw[hv.1]; omega) (fun k _ hk=>hfz k (by rw[hv.1]at hk; omega)) h1
      have hoth:∀b,b≠l.cb→(w.setCells l.cb (l.d+off) vals).heap[b]? = w.heap[b]? := fun b hb'=>gC l.cb vals _ w b hb'
      obtain⟨wr',tr⟩:=h.wr.write (bX L) hl (w':=w.setCells l.cb (l.d+off) vals) (s':=.cells l.ver lo (put cs0 off vs)) (by
       refine .cells lo _ (nO cs' (l.d+off) vals) e fz hlo (gO _ _ _ _ _ _ _ hb) (by rw[dV]; exact hsz) (by rw[dV,qT hfit]; exact hfit') (fun k x hx=>?_) (fun o ho=>?_) hm (fun q1 q2=>by rw[dV,qT hfit]; exact htt q1 q2)
       ·rw[oB _ _ _ _ (by rw[hv.1]; omega)]
        rw[aLw hfit]at hx
        split at hx
        ·rename_i hc
         rw[if_pos (by rw[hv.1]; omega),show l.d+k-(l.d+off)=k-off by omega]
         have hlt:k-off<vals.length:=by rw[hv.1]; omega
         exact⟨vals[k-off],List.getElem?_eq_getElem hlt,hv.2 _ x _ hx (List.getElem?_eq_getElem hlt)⟩
        ·rename_i hc
         rw[if_neg (by rw[hv.1]; omega)]
         exact hvals k x hx
       ·rw[World.frozen?_setCells]; exact hfz o (by rwa [dV]at ho)) (fR _ _ _ _) hoth (jM _ _ _ _) (fun o v hm'=>by rw[hm]at hm'; simp at hm')
      refine⟨l.cb,l.d+off,_,rfl,hrun,?_,tr,.refl _⟩
      refine⟨wr',?_,h.gl⟩
      refine⟨h.lb.len,fun k cs hk=>?_,h.lb.inj⟩
      obtain⟨cb2,h2,h3⟩:=h.lb.box k cs hk
      exact⟨cb2,h2,h3.step (hoth _ (fun e=>h3.1 ⟨i,l,hl,e.symm⟩)) (.refl _) (fun _=>rfl) (.refl _) h3.1⟩
    ·simp at hg
   ·simp at hg
 ·simp at hg
def Mem.ext (M:Mem)(n:Nat)(N:Nat→Option Value):Mem:=fun b o=>if b=n then N o else M b o
theorem WR.none_at {M:Mem}{J:aB}{S:aA}{w:World}(h:WR P O M J S w)(o:Nat):M w.heap.size o=none:=by
 cases hm:M w.heap.size o with
 | none=>rfl
 | some v=>exact absurd (h.mlt hm) (by omega)
theorem WR.mle_ext {M:Mem}{J:aB}{S:aA}{w:World}(h:WR P O M J S w)(N:Nat→Option Value):MLe M (M.ext w.heap.size N):=by
 intro b o v hm
 unfold Mem.ext
 rw[if_neg (by have:=h.mlt hm; omega)]
 exact hm
theorem WR.has_lt {M:Mem}{J:aB}{S:aA}{w:World}(h:WR P O M J S w){b:Nat}(hb:J.has b):b<w.heap.size:=by
 obtain⟨i,l,hl,rfl⟩:=hb
 exact h.lt i l hl
theorem bZ (w:World)(o:Obj){b:Nat}(h:b≠w.heap.size):(w.alloc o).heap[b]? = w.heap[b]? := by
 show (w.heap.push o)[b]? = _
 rw[Array.getElem?_push,if_neg (by omega)]
theorem cI (w:World)(o:Obj):(w.alloc o).heap[w.heap.size]? = some o:=by
 show (w.heap.push o)[w.heap.size]? = _
 simp
theorem WR.alloc {M:Mem}{J:aB}{S:aA}{w:World}(h:WR P O M J S w)(own:Nat→Prop)(ob:Obj)(N:Nat→Option Value)
  (hN:∀o v,N o=some v→(w.alloc ob).cell? ⟨w.heap.size,o,none⟩=some v) :
  WR P O (M.ext w.heap.size N) J S (w.alloc ob)∧Tr own M J S w (M.ext w.heap.size N) J S (w.alloc ob):=by
 have hmle:=h.mle_ext N
 refine⟨h.step h.len hmle (.refl _) ?_ ?_ h.inj (fun i l hl=>by have:=h.lt i l hl; simp; omega),?_⟩
 ·intro b o v hm
  unfold Mem.ext at hm
  split at hm
  ·rename_i hb; subst hb; exact hN o v hm
  ·rename_i hb
   rw[eF (bZ w ob hb)]
   exact h.imm b o v hm
 ·intro i l s hl hs
  refine .inr ⟨hl,hs,bZ w ob (by have:=h.lt i l hl; omega),fun o=>?_⟩
  unfold Mem.ext
  rw[if_neg (by have:=h.lt i l hl; omega)]
 ·refine⟨rfl,rfl,rfl,by simp,hmle,fun b o hb _=>?_,.refl _,fun i l hl=>.inr ⟨l,hl,rfl⟩,fun i hi=>⟨hi,rfl⟩,fun b hb _ _=>bZ w ob (by omega)⟩
  unfold Mem.ext
  rw[if_neg (by omega)]
theorem oD {M:Mem}{n:Nat}(h:∀o,M n o=none):M.ext n (fun _=>none)=M:=by
 funext b o
 unfold Mem.ext
 split
 ·rename_i hb; subst hb; exact (h o).symm
 ·rfl
theorem WR.drew {M:Mem}{J:aB}{S:aA}{w:World}(h:WR P O M J S w)(own:Nat→Prop):WR P O M J S w.drew∧Tr own M J S w M J S w.drew :=
  ⟨h.step h.len (.refl _) (.refl _) h.imm (fun _ _ _ hl hs=>.inr ⟨hl,hs,rfl,fun _=>rfl⟩) h.inj h.lt,
   ⟨rfl,rfl,rfl,Nat.le_refl _,.refl _,fun _ _ _ _=>rfl,.refl _,fun _ l hl=>.inr ⟨l,hl,rfl⟩,fun _ hi=>⟨hi,rfl⟩,fun _ _ _ _=>rfl⟩⟩
theorem jI {J:aB}{x:Option Loc}{i:Nat}{l:Loc}(h:aB.at (J++[x]) i l):J.at i l∨(i=J.length∧x=some l):=by
 unfold aB.at at h ⊢
 rw[List.getElem?_append]at h
 split at h
 ·exact .inl h
 ·rename_i hn
  right
  have:i-J.length=0:=by
   rcases Nat.eq_zero_or_pos (i-J.length) with h'|h'
   ·exact h'
   ·rw[List.getElem?_eq_none (by simp; omega)]at h; simp at h
  rw[this]at h
  simp at h
  exact⟨by omega,h⟩
theorem aFi {J:aB}(x:Option Loc){i:Nat}{l:Loc}(h:J.at i l):aB.at (J++[x]) i l:=by
 unfold aB.at at h ⊢
 rw[List.getElem?_append_left (List.getElem?_eq_some_iff.1 h).1]
 exact h
theorem JLe.push (J:aB)(x:Option Loc):JLe J (J++[x]):=⟨by simp,fun i l h=>⟨l,aFi x h,.inl rfl⟩⟩
theorem WR.push {M:Mem}{J:aB}{S:aA}{w:World}(h:WR P O M J S w)(own:Nat→Prop)(ob:Obj)(N:Nat→Option Value)(l:Loc)(s:aW)(hl:l.cb=w.heap.size)
  (hN:∀o v,N o=some v→(w.alloc ob).cell? ⟨w.heap.size,o,none⟩=some v) (hbr:BR P O (M.ext w.heap.size N) (J++[some l]) (w.alloc ob) l s) :
  WR P O (M.ext w.heap.size N) (J++[some l]) (S++[s]) (w.alloc ob)∧Tr own M J S w (M.ext w.heap.size N) (J++[some l]) (S++[s]) (w.alloc ob):=by
 have hmle:=h.mle_ext N
 refine⟨h.step (by simp[h.len]) hmle (.push _ _) ?_ ?_ ?_ ?_,?_⟩
 ·intro b o v hm
  unfold Mem.ext at hm
  split at hm
  ·rename_i hb; subst hb; exact hN o v hm
  ·rename_i hb
   rw[eF (bZ w ob hb)]
   exact h.imm b o v hm
 ·intro i li t hi ht
  rcases jI hi with hi|⟨rfl,hx⟩
  ·right
   have hlt:=h.lt i li hi
   refine⟨hi,?_,bZ w ob (by omega),fun o=>?_⟩
   ·rwa [List.getElem?_append_left (by rw[←h.len]; exact (List.getElem?_eq_some_iff.1 hi).1)]at ht
   ·unfold Mem.ext; rw[if_neg (by omega)]
  ·left
   simp at hx; subst hx
   rw[h.len]at ht
   simp at ht; subst ht
   exact hbr
 ·intro i k li lk hi hk e
  rcases jI hi with hi|⟨rfl,hx⟩<;>rcases jI hk with hk|⟨rfl,hy⟩
  ·exact h.inj i k li lk hi hk e
  ·simp at hy; subst hy; have:=h.lt i li hi; omega
  ·simp at hx; subst hx; have:=h.lt k lk hk; omega
  ·rfl
 ·intro i li hi
  rcases jI hi with hi|⟨rfl,hx⟩
  ·have:=h.lt i li hi; simp; omega
  ·simp at hx; subst hx; simp; omega
 ·refine⟨rfl,rfl,rfl,by simp,hmle,fun b o hb _=>?_,.push _ _,fun i li hi=>?_,fun i hi=>?_,fun b hb _ _=>bZ w ob (by omega)⟩
  ·unfold Mem.ext; rw[if_neg (by omega)]
  ·rcases jI hi with hi|⟨rfl,hx⟩
   ·exact .inr ⟨li,hi,rfl⟩
   ·simp at hx; subst hx; exact .inl (by omega)
  ·have hlt:=(List.getElem?_eq_some_iff.1 hi).1
   exact⟨by rw[List.getElem?_append_left hlt]; exact hi,by rw[List.getElem?_append_left (by rw[←h.len]; exact hlt)]⟩
def bB7 (M:Mem)(J:aB)(L:List (Option Nat))(r:Next)(v:TV):Prop:=(∃v',r=.value v'∧VR M J L v v')∨(r=.skip∧v=undef)
def EL (w:World)(jx:Option Nat)(env env':Env)(L L':List (Option Nat)):Prop :=
 match jx with
 | none=>L'=L∧pC env env'
 | some j=>∃cs cb,env'=env.set j (.lb cs)∧L'=L.set j (some cb)∧w.heap.size≤cb
def aI:TOp→Option Nat
 | .allocL j _ | .boxL j _=>some j
 | _=>none
variable (P O K) in
def bU (top:TOp)(M:Mem)(J:aB)(L:List (Option Nat))(S:aA)(env:Env)(w:World)(s:Sem Next)(v:TV)(env':Env)(S':aA):Prop :=
 ∃M' J' L' w' r,s.run P w=.ok r w'∧bB7 M' J' L' r v∧MS P O K M' J' L' S' env' w'∧Tr (bX L) M J S w M' J' S' w'∧EL w (aI top) env env' L L'
variable {M:Mem}{J:aB}{L:List (Option Nat)}{S S':aA}{env env':Env}{w:World}
theorem bU.pure {top:TOp}(ht:aI top=none)(h:MS P O K M J L S env w){s:Sem Next}{v:TV}{v':Value}(hr:s.run P w=.ok (.value v') w)(hv:VR M J L v v'):bU P O K top M J L S env w s v env S :=
 ⟨M,J,L,w,.value v',hr,.inl ⟨v',rfl,hv⟩,h,.refl _ _ _ _ _,by rw[ht]; exact⟨rfl,.refl _⟩⟩
theorem VR.int_inv {k:IntKind}{n:Int}{v:Value}(h:VR M J L (.iv (.int k n)) v):v=.int k n:=by cases h.iv_inv; rfl
theorem VR.bool_inv {b:Bool}{v:Value}(h:VR M J L (.iv (.bool b)) v):v=.bool b:=by cases h.iv_inv; rfl
theorem VR.str_inv {s:List UInt8}{v:Value}(h:VR M J L (.iv (.str s)) v):v=.string ⟨s.toArray⟩:=by cases h.iv_inv; rfl
theorem iB {x:TV}{n:Int}{v:Value}(h:fN x=some n)(hv:VR M J L x v):∃k,v=.int k n:=by
 unfold fN at h
 split at h
 ·simp at h; subst h; exact⟨_,hv.int_inv⟩
 ·simp at h
theorem tR {x:TV}{b:Bool}{v:Value}(h:tN x=some b)(hv:VR M J L x v):v=.bool b:=by
 unfold tN at h
 split at h
 ·simp at h; subst h; exact hv.bool_inv
 ·simp at h
theorem aFj {v:Value}{a:IV}(h:aBd v=some a):IR M a v:=by
 unfold aBd at h
 split at h<;>simp at h<;>subst h
 ·exact .bool _
 ·exact .int _ _
 ·rename_i s
  have:(⟨s.data.toList.toArray⟩:ByteArray)=s:=by simp
  rw[show Value.string s=Value.string ⟨s.data.toList.toArray⟩ by rw[this]]
  exact .str _
 ·exact .nilp
 ·exact .slNil
 ·exact .nilm
 ·exact .nilf
 ·exact .nili
theorem rY:∀ {vs:List Value} {l:List IV},rU vs=some l→l.length=vs.length∧∀(i:Nat) (x:IV) (v:Value),l[i]? = some x→vs[i]? = some v→IR M x v
 | [],l,h=>by simp[rU]at h; subst h; exact⟨rfl,fun i x v h=>by simp at h⟩
 | v::r,l,h=>by
  simp only[rU]at h
  split at h
  ·rename_i a l' h1 h2
   simp at h; subst h
   obtain⟨h3,h4⟩:=rY h2
   refine⟨by simp[h3],fun i x u hx hu=>?_⟩
   cases i with
   | zero=>simp at hx hu; subst hx; subst hu; exact aFj h1
   | succ i=>exact h4 i x u (by simpa using hx) (by simpa using hu)
  ·simp at h
theorem aLx {v:Value}{a:IV}(h:aYu v=some a):IR M a v:=by
 unfold aYu at h
 split at h
 ·rename_i cs
  simp only[Option.map_eq_some_iff]at h
  obtain⟨l,h1,rfl⟩:=h
  obtain⟨h2,h3⟩:=rY (M:=M) h1
  exact .agg _ _ (by simpa using h2.symm) (fun i x u hx hu=>h3 i x u hx (by simpa using hu))
 ·exact aFj h
theorem aLy {o:Oper}{x:Operand}(hop:o.op=.move x∨o.op=.assign x)(a:Act)(h:MS P O K M J L S env w){e:TV}(hx:VR M J L e (a.eval x)){x':aC}:bU P O K (.mov x') M J L S env w (execOp a.eval o) e env S:=by
 refine .pure rfl h ?_ hx
 rcases hop with hop|hop<;>simp[execOp,hop]
theorem aSp {o:Oper}{c x y:Operand}(hop:o.op=.pick c x y)(a:Act)(h:MS P O K M J L S env w){e1 e2 e3:TV}{t:Bool}(h1:VR M J L e1 (a.eval c))(h2:VR M J L e2 (a.eval x))(h3:VR M J L e3 (a.eval y))
  (hb:tN e1=some t) {c' x' y':aC}:bU P O K (.pick c' x' y') M J L S env w (execOp a.eval o) (if t then e2 else e3) env S:=by
 have:=tR hb h1
 refine .pure rfl h (v':=if t then a.eval x else a.eval y) ?_ ?_
 ·simp only[execOp,hop,this,asBool]
  cases t<;>simp
 ·cases t<;>simpa
theorem xS {x:TV}{v:Value}(h:uL x=true)(hv:VR M J L x v):∃p,v=.pointer (some p):=by
 cases hv with
 | iv L hr=>cases hr<;>first|exact⟨_,rfl⟩|simp[uL]at h
 | lp=>exact⟨_,rfl⟩
 | ptr=>exact⟨_,rfl⟩
 | _=>simp[uL]at h
theorem aCx {o:Oper}{x:Operand}(hop:o.op=.nilCheck x)(a:Act)(h:MS P O K M J L S env w){e:TV}(hx:VR M J L e (a.eval x))(hp:uL e=true){x':aC} :
  bU P O K (.nilCheck x') M J L S env w (execOp a.eval o) e env S:=by
 obtain⟨p,hp'⟩:=xS hp hx
 refine .pure rfl h (v':=.pointer (some p)) ?_ (hp'▸hx)
 simp[execOp,hop,hp']
theorem aM7 {op:BinOp}{k:IntKind}{x y:Int}{r:IV}(h:hP op k x y=some r)(hs:op≠.shl∧op≠.shr)(t:TypeId):∃v,(Go.binOp op t (.int k x) (.int k y)).run P w=.ok v w∧IR M r v:=by
 cases op<;>simp[hP]at h<;>first
  | (exact absurd rfl hs.1; done)
  | (exact absurd rfl hs.2; done)
  | (subst h; exact⟨_,by simp[Go.binOp,Go.Op.intArith,Go.Op.intBits,Go.Op.intCmp]; rfl,by constructor⟩)
  | (obtain⟨h0,rfl⟩:=h; exact⟨_,by simp[Go.binOp,Go.Op.intDiv,h0]; rfl,by constructor⟩)
theorem uP {op:BinOp}{k k':IntKind}{x y:Int}{r:IV}(h:rP op k x y=some r)(t:TypeId):∃v,(Go.binOp op t (.int k x) (.int k' y)).run P w=.ok v w∧IR M r v:=by
 unfold rP at h
 split at h
 ·simp at h
 ·rename_i hy
  split at h
  ·simp at h; subst h
   exact⟨_,by simp[Go.binOp,Go.Op.shift,hy]; rfl,by constructor⟩
  ·simp at h; subst h
   exact⟨_,by simp[Go.binOp,Go.Op.shift,hy]; rfl,by constructor⟩
  ·simp at h
theorem lD (l:List UInt8):(⟨l.toArray⟩:ByteArray).size=l.length:=by simp[ByteArray.size]
theorem aM8 (x y:List UInt8):(⟨x.toArray⟩++⟨y.toArray⟩:ByteArray)=⟨(x++y).toArray⟩:=by
 apply ByteArray.ext
 apply Array.ext'
 rw[ByteArray.toList_data_append]
theorem aM9 {op:BinOp}{x y:List UInt8}{r:IV}(h:aLv op x y=some r)(t:TypeId):∃v,(Go.binOp op t (.string ⟨x.toArray⟩) (.string ⟨y.toArray⟩)).run P w=.ok v w∧IR M r v:=by
 by_cases hadd:op=.add
 ·subst hadd
  unfold aLv at h
  simp only at h
  split at h
  ·rename_i hle
   simp at h; subst h
   refine⟨.string ⟨(x++y).toArray⟩,?_,.str _⟩
   have:¬(((x.length+y.length:Nat):Int)>IntKind.i64.max):=by
    have:IntKind.i64.max=9223372036854775807:=rfl
    rw[this]; omega
   simp only[Go.binOp,Go.Op.stringOp,lD]
   rw[if_neg this,aM8]
   rfl
  ·simp at h
 ·cases op<;>simp[aLv]at h<;>first
   | (subst h; exact⟨_,by simp[Go.binOp,Go.Op.stringOp]; rfl,by constructor⟩)
   | (exact absurd rfl hadd)
def aCy:Value→Bool
 | .agg _ | .nilIface=>false
 | _=>true
theorem lE (op:BinOp)(t:TypeId)(x y:Operand){a b:Value}(h:aCy a=true):(eqGuard op t x y a b).run P w=.ok () w:=by
 unfold eqGuard
 cases op<;>try rfl
 all_goals (cases a<;>first|rfl|simp[aCy]at h)
theorem aNa {op:BinOp}{x y:TV}{r:IV}(h:binOp op x y=some r){a b:Value}(ha:VR M J L x a)(hb:VR M J L y b)(t:TypeId):aCy a=true∧∃v,(Go.binOp op t a b).run P w=.ok v w∧IR M r v:=by
 unfold binOp at h
 split at h
 ·rename_i k n k' n'
  rw[ha.int_inv,hb.int_inv]
  refine⟨rfl,?_⟩
  split at h
  ·exact uP h t
  ·exact uP h t
  ·rename_i h1 h2
   split at h
   ·rename_i hk; subst hk
    exact aM7 h ⟨h1,h2⟩ t
   ·simp at h
 ·rw[ha.str_inv,hb.str_inv]
  exact⟨rfl,aM9 h t⟩
 ·simp at h
theorem aYw {o:Oper}{op:BinOp}{t u:TypeId}{x y:Operand}(hop:o.op=.binOp op t x y u)(a:Act)(h:MS P O K M J L S env w){e1 e2:TV}(h1:VR M J L e1 (a.eval x))(h2:VR M J L e2 (a.eval y)){r:IV}
  (hr:binOp op e1 e2=some r) {x' y':aC}:bU P O K (.bin op x' y') M J L S env w (execOp a.eval o) (.iv r) env S:=by
 obtain⟨hp,v,hv,hi⟩:=aNa (P:=P) (w:=w) hr h1 h2 t
 refine .pure rfl h (v':=v) ?_ (.iv _ hi)
 simp[execOp,hop,lE op t x y hp,hv]
theorem jN (t:TypeId)(x y:Value):Go.Op.equal t x y=Go.Op.equalIn (9999+1) t x y:=rfl
def bDr (P:Program)(t:TypeId):EK→Prop
 | .bool=>P.underlying t=some .bool
 | .ptr=>∃e,P.underlying t=some (.pointer e)
 | .sl=>∃e,P.underlying t=some (.slice e)
 | .mp=>∃k e,P.underlying t=some (.map k e)
 | .fn=>∃a b c,P.underlying t=some (.func a b c)
theorem aSq {t:TypeId}{k:EK}(h:mS P t=some (.b k)):bDr P t k:=by
 unfold mS at h
 split at h<;>try (simp at h; done)
 all_goals first
  | (simp at h; subst h; simp[bDr, *]; done)
  | (split at h<;>simp at h)
theorem aFk {k:EK}{x y:TV}{b:Bool}(h:eqB k x y=some b){t:TypeId}(ht:bDr P t k){u v:Value}(hu:VR M J L x u)(hv:VR M J L y v):aCy u=true∧(Go.Op.equal t u v).run P w=.ok b w ∧
  (∀op,(op=.eql∨op=.neq)→Go.binOp op t u v=(do let b ←Go.Op.equal t u v; Pure.pure (Value.bool (if op=.neq then !b else b)))):=by
 have hun:∀d,P.underlying t=some d→(Go.underlying t).run P w=.ok d w:=fun d hd=>run_underlying hd w
 unfold eqB at h
 split at h
 ·split at h
  ·simp at h; subst h
   rw[hu.bool_inv,hv.bool_inv]
   refine⟨rfl,?_,fun op ho=>?_⟩
   ·rw[jN,Go.Op.equalIn]; simp only[Sem.run_bind,hun _ ht]; rfl
   ·rcases ho with rfl|rfl<;>simp[Go.binOp]
  ·simp at h
 ·obtain⟨e,ht⟩:=ht
  have key:∀p q:Option Addr,(p=none∨q=none)→(Go.Op.equal t (.pointer p) (.pointer q)).run P w=.ok (p.isNone&&q.isNone) w:=by
   intro p q hpq
   rw[jN,Go.Op.equalIn]
   simp only[Sem.run_bind,hun _ ht]
   cases p<;>cases q<;>first|rfl|(simp at hpq; done)
  have kb:∀(p q:Option Addr) op,(op=.eql∨op=.neq)→Go.binOp op t (.pointer p) (.pointer q)=(do let b ←Go.Op.equal t (.pointer p) (.pointer q); Pure.pure (Value.bool (if op=.neq then !b else b))):=by
   intro p q op ho; rcases ho with rfl|rfl<;>simp[Go.binOp]
  split at h
  ·simp at h; subst h
   cases hu.iv_inv; cases hv.iv_inv
   exact⟨rfl,key none none (.inl rfl),kb _ _⟩
  ·split at h
   ·rename_i hp
    simp at h; subst h
    cases hu.iv_inv
    obtain⟨p,rfl⟩:=xS hp hv
    exact⟨rfl,by simpa using key none (some p) (.inl rfl),kb _ _⟩
   ·simp at h
  ·split at h
   ·rename_i hp
    simp at h; subst h
    cases hv.iv_inv
    obtain⟨p,rfl⟩:=xS hp hu
    exact⟨rfl,by simpa using key (some p) none (.inr rfl),kb _ _⟩
   ·simp at h
  ·simp at h
 ·obtain⟨e,ht⟩:=ht
  have key:∀(p q:Option Addr) (a b c d:Nat),(p=none∨q=none)→(Go.Op.equal t (.slice p a b) (.slice q c d)).run P w=.ok (p.isNone&&q.isNone) w:=by
   intro p q a b c d hpq
   rw[jN,Go.Op.equalIn]
   simp only[Sem.run_bind,hun _ ht]
   cases p<;>cases q<;>first|rfl|(simp at hpq; done)
  have kb:∀(p q:Option Addr) (a b c d:Nat) op,(op=.eql∨op=.neq)→Go.binOp op t (.slice p a b) (.slice q c d)=(do let e ←Go.Op.equal t (.slice p a b) (.slice q c d); Pure.pure (Value.bool (if op=.neq then !e else e))):=by
   intro p q a b c d op ho; rcases ho with rfl|rfl<;>simp[Go.binOp]
  have nilS:∀ {l:List (List IV)} {u:Value},VR M J L (.iv (.sl .nil l)) u→u=.slice none 0 0:=by
   intro l u hu
   cases hu.iv_inv with
   | slNil=>rfl
   | sl t l b off cap es vals ht hes hcap hfull hm hv=>exact absurd rfl ht
   | slE t a ht=>exact absurd rfl ht
  have anyS:∀ {tg:Tag} {l:List (List IV)} {u:Value},VR M J L (.iv (.sl tg l)) u→∃p a b,u=.slice p a b∧p.isNone=(tg==.nil):=by
   intro tg l u hu
   cases hu.iv_inv with
   | slNil=>exact⟨_,_,_,rfl,rfl⟩
   | sl t l b off cap es vals ht hes hcap hfull hm hv=>exact⟨_,_,_,rfl,by cases tg<;>first|rfl|exact absurd rfl ht⟩
   | slE t a ht=>exact⟨_,_,_,rfl,by cases tg<;>first|rfl|exact absurd rfl ht⟩
  split at h
  ·simp at h; subst h
   rw[nilS hu]
   obtain⟨p,a,b,rfl,hp⟩:=anyS hv
   exact⟨rfl,by rw[key _ _ _ _ _ _ (.inl rfl),hp]; rfl,kb _ _ _ _ _ _⟩
  ·simp at h; subst h
   rw[nilS hv]
   obtain⟨p,a,b,rfl,hp⟩:=anyS hu
   exact⟨rfl,by rw[key _ _ _ _ _ _ (.inr rfl),hp]; simp,kb _ _ _ _ _ _⟩
  ·simp at h; subst h
   rw[nilS hu]
   cases hv
   exact⟨rfl,by rw[key _ _ _ _ _ _ (.inl rfl)]; rfl,kb _ _ _ _ _ _⟩
  ·simp at h; subst h
   rw[nilS hv]
   cases hu
   exact⟨rfl,by rw[key _ _ _ _ _ _ (.inr rfl)]; rfl,kb _ _ _ _ _ _⟩
  ·simp at h; subst h
   rw[nilS hu]
   cases hv
   exact⟨rfl,by rw[key _ _ _ _ _ _ (.inl rfl)]; rfl,kb _ _ _ _ _ _⟩
  ·simp at h; subst h
   rw[nilS hv]
   cases hu
   exact⟨rfl,by rw[key _ _ _ _ _ _ (.inr rfl)]; rfl,kb _ _ _ _ _ _⟩
  ·simp at h
 ·obtain⟨k,e,ht⟩:=ht
  have kb:∀(p q:Option Nat) op,(op=.eql∨op=.neq)→Go.binOp op t (.map p) (.map q)=(do let e ←Go.Op.equal t (.map p) (.map q); Pure.pure (Value.bool (if op=.neq then !e else e))):=by
   intro p q op ho; rcases ho with rfl|rfl<;>simp[Go.binOp]
  have key:∀(p q:Option Nat),(p=none∨q=none)→(Go.Op.equal t (.map p) (.map q)).run P w=.ok (p.isNone&&q.isNone) w:=by
   intro p q hpq
   rw[jN,Go.Op.equalIn]
   simp only[Sem.run_bind,hun _ ht]
   cases p<;>cases q<;>first|rfl|(simp at hpq; done)
  split at h
  ·simp at h; subst h
   cases hu.iv_inv; cases hv.iv_inv
   exact⟨rfl,key _ _ (.inl rfl),kb _ _⟩
  ·simp at h; subst h
   cases hu.iv_inv; cases hv
   exact⟨rfl,key _ _ (.inl rfl),kb _ _⟩
  ·simp at h; subst h
   cases hv.iv_inv; cases hu
   exact⟨rfl,key _ _ (.inr rfl),kb _ _⟩
  ·simp at h
 ·obtain⟨c1,c2,c3,ht⟩:=ht
  split at h
  ·simp at h; subst h
   cases hu.iv_inv; cases hv.iv_inv
   refine⟨rfl,?_,fun op ho=>?_⟩
   ·rw[jN,Go.Op.equalIn]; simp only[Sem.run_bind,hun _ ht]; rfl
   ·rcases ho with rfl|rfl<;>simp[Go.binOp]
  ·simp at h; subst h
   cases hu.iv_inv; cases hv
   refine⟨rfl,?_,fun op ho=>?_⟩
   ·rw[jN,Go.Op.equalIn]; simp only[Sem.run_bind,hun _ ht]; rfl
   ·rcases ho with rfl|rfl<;>simp[Go.binOp]
  ·simp at h; subst h
   cases hv.iv_inv; cases hu
   refine⟨rfl,?_,fun op ho=>?_⟩
   ·rw[jN,Go.Op.equalIn]; simp only[Sem.run_bind,hun _ ht]; rfl
   ·rcases ho with rfl|rfl<;>simp[Go.binOp]
  ·simp at h
theorem aYx {o:Oper}{op:BinOp}{t u:TypeId}{x y:Operand}(hop:o.op=.binOp op t x y u)(ho:op=.eql∨op=.neq){k:EK}(hk:mS P t=some (.b k))(a:Act)(h:MS P O K M J L S env w){e1 e2:TV}
  (h1:VR M J L e1 (a.eval x)) (h2:VR M J L e2 (a.eval y)) {b:Bool} (hr:eqB k e1 e2=some b) {x' y':aC} :
  bU P O K (.eqB (op==.neq) k x' y') M J L S env w (execOp a.eval o) (.iv (.bool (if (op==.neq)=true then !b else b))) env S:=by
 obtain⟨hp,hq,hb⟩:=aFk (P:=P) (w:=w) hr (aSq hk) h1 h2
 refine .pure rfl h (v':=.bool (if (op==.neq)=true then !b else b)) ?_ (.iv _ (.bool _))
 simp only[execOp,hop,Sem.run_bind,lE op t x y hp,Result.andThen_ok,hb op ho,hq]
 rcases ho with rfl|rfl<;>rfl
end
end Go.TM
namespace Go.TM
open Go
section
variable {P:Program}{O:cW}{K:TM.bG}
variable {M:Mem}{J:aB}{L:List (Option Nat)}{S S':aA}{env env':Env}{w:World}
theorem und {t:TypeId}{d:TypeDesc}(h:P.underlying t=some d)(w:World):(underlying t).run P w=.ok d w:=run_underlying h w
theorem mU {t:TypeId}{k:LK}(ht:pU P t=some k){x y:IV}{r:Bool}(h:lK k x y=some r){u v:Value}(hu:IR M x u)(hv:IR M y v)(d:Nat):(Go.Op.equalIn (d+1) t u v).run P w=.ok r w:=by
 unfold pU at ht
 unfold lK at h
 split at h
 ·cases hu; cases hv
  simp at h; subst h
  split at ht<;>simp at ht
  rename_i hd
  exact run_equalIn_bool' w d t _ _ hd
 ·cases hu; cases hv
  split at h
  ·rename_i hk; subst hk
   simp at h; subst h
   split at ht<;>simp at ht
   rename_i hd
   exact run_equalIn_int w d t _ _ _ _ hd
  ·simp at h
 ·cases hu; cases hv
  simp at h; subst h
  split at ht<;>simp at ht
  rename_i hd
  rw[run_equalIn_string w d t _ _ hd]
  simp
 ·simp at h
theorem xT {t:TypeId}{k:LK}(ht:pU P t=some k)(w:World):(isAgg t).run P w=.ok false w:=by
 unfold pU at ht
 unfold isAgg
 split at ht<;>simp at ht<;>(rename_i hd; simp only[Sem.run_bind,und hd w]; rfl)
theorem fS {t:TypeId}{k:LK}(ht:pU P t=some k){cs:Array Value}{off:Nat}{v:Value}(h:cs[off]? = some v):(part t cs off).run P w=.ok v w:=by
 unfold part
 simp only[Sem.run_bind,xT ht,Result.andThen_ok]
 simp[h]
theorem wQ {cs:List IV}{vs:Array Value}(hs:vs.size=cs.length)(hv:∀(i:Nat) (x:IV) (u:Value),cs[i]? = some x→vs[i]? = some u→IR M x u){i:Nat}{x:IV}(h:cs[i]? = some x):∃u,vs[i]? = some u∧IR M x u:=by
 have hlt:i<vs.size:=by rw[hs]; exact (List.getElem?_eq_some_iff.1 h).1
 exact⟨vs[i],Array.getElem?_eq_getElem hlt,hv i x _ h (Array.getElem?_eq_getElem hlt)⟩
theorem pV (d:Nat){cs ds:List IV}{xs ys:Array Value}(hs:xs.size=cs.length)(hv:∀(i:Nat) (x:IV) (u:Value),cs[i]? = some x→xs[i]? = some u→IR M x u)
  (hs':ys.size=ds.length) (hv':∀(i:Nat) (x:IV) (u:Value),ds[i]? = some x→ys[i]? = some u→IR M x u):∀ {fs:List Field} {offs:List (Nat×LK)} {r:Bool},qP P fs=some offs→gL cs ds offs=some r →
  (Go.Op.eqFields (d+1) xs ys fs).run P w=.ok r w
 | [],offs,r,h1,h2=>by
  simp[qP]at h1; subst h1
  simp[gL]at h2; subst h2
  simp[Go.Op.eqFields]
 | f::fs,offs,r,h1,h2=>by
  simp only[qP]at h1
  split at h1
  ·rename_i hn
   split at h1
   ·rename_i k l hk hl
    simp at h1; subst h1
    simp only[gL]at h2
    split at h2
    ·rename_i x y hx hy
     obtain⟨u,hu,hxu⟩:=wQ hs hv hx
     obtain⟨v,hv0,hyv⟩:=wQ hs' hv' hy
     simp only[Go.Op.eqFields,if_pos hn,Sem.run_bind,fS hk hu,fS hk hv0,Result.andThen_ok]
     split at h2
     ·rename_i he
      rw[mU hk he hxu hyv]
      simp only[Result.andThen_ok,Bool.not_true,Bool.false_eq_true,if_false]
      exact pV d hs hv hs' hv' hl h2
     ·rename_i he
      simp at h2; subst h2
      rw[mU hk he hxu hyv]
      simp
     ·simp at h2
    ·simp at h2
   ·simp at h1
  ·simp at h1
theorem rZ (d:Nat){e:TypeId}{k:LK}(hk:pU P e=some k)(hc:P.cellsOf e=1){cs ds:List IV}{xs ys:Array Value}(hs:xs.size=cs.length)(hv:∀(i:Nat) (x:IV) (u:Value),cs[i]? = some x→xs[i]? = some u→IR M x u)
  (hs':ys.size=ds.length) (hv':∀(i:Nat) (x:IV) (u:Value),ds[i]? = some x→ys[i]? = some u→IR M x u):∀ {is:List Nat} {r:Bool},gL cs ds (is.map fun i=>(i,k))=some r →
  (Go.Op.eqItems (d+1) e (P.cellsOf e) xs ys is).run P w=.ok r w
 | [],r,h2=>by
  simp[gL]at h2; subst h2
  simp[Go.Op.eqItems]
 | i::is,r,h2=>by
  simp only[List.map_cons,gL]at h2
  split at h2
  ·rename_i x y hx hy
   obtain⟨u,hu,hxu⟩:=wQ hs hv hx
   obtain⟨v,hv0,hyv⟩:=wQ hs' hv' hy
   have e1:(part e xs (i*P.cellsOf e)).run P w=.ok u w:=by rw[hc,Nat.mul_one]; exact fS hk hu
   have e2:(part e ys (i*P.cellsOf e)).run P w=.ok v w:=by rw[hc,Nat.mul_one]; exact fS hk hv0
   simp only[Go.Op.eqItems,Sem.run_bind,e1,e2,Result.andThen_ok]
   split at h2
   ·rename_i he
    rw[mU hk he hxu hyv]
    simp only[Result.andThen_ok,Bool.not_true,Bool.false_eq_true,if_false]
    exact rZ d hk hc hs hv hs' hv' h2
   ·rename_i he
    simp at h2; subst h2
    rw[mU hk he hxu hyv]
    simp
   ·simp at h2
  ·simp at h2
theorem uQ {t:TypeId}{fs:Array Field}(h:P.underlying t=some (.struct fs)):P.fieldsOf t=fs:=by simp[Program.fieldsOf,h]
theorem cellsOf_size? {t:TypeId}{n:Nat}(h:sizeOf? P t=some n):P.cellsOf t=n∧∃i,P.info? t=some i∧i.size=n:=by
 unfold sizeOf? at h
 simp only[Option.map_eq_some_iff]at h
 obtain⟨i,h1,h2⟩:=h
 exact⟨by simp[Program.cellsOf,h1,h2],i,h1,h2⟩
theorem run_size? {t:TypeId}{n:Nat}(h:sizeOf? P t=some n)(w:World):(sizeOf t).run P w=.ok n w:=by
 obtain⟨h1,i,h2,_⟩:=cellsOf_size? h
 rw[run_sizeOf w h2,h1]
theorem oE {t:TypeId}{offs:List (Nat×LK)}(ht:jL P t=some offs){cs ds:List IV}{xs ys:Array Value}(hs:xs.size=cs.length)(hv:∀(i:Nat) (x:IV) (u:Value),cs[i]? = some x→xs[i]? = some u→IR M x u)
  (hs':ys.size=ds.length) (hv':∀(i:Nat) (x:IV) (u:Value),ds[i]? = some x→ys[i]? = some u→IR M x u) {r:Bool} (h:gL cs ds offs=some r):(Go.Op.equal t (.agg xs) (.agg ys)).run P w=.ok r w:=by
 rw[jN]
 unfold jL at ht
 split at ht
 ·rename_i fs hu
  split at ht
  ·simp at ht
  ·rename_i hsi
   rw[run_equalIn_struct w 9999 t xs ys (by rw[uQ hu]; exact hu) (by simpa using hsi),uQ hu]
   exact pV 9998 hs hv hs' hv' ht h
 ·rename_i n e hu
  split at ht
  ·rename_i k hk
   split at ht
   ·rename_i hsz
    simp at ht; subst ht
    obtain⟨hc,i,hi,_⟩:=cellsOf_size? hsz
    rw[run_equalIn_array w 9999 xs ys hu hi]
    exact rZ 9998 hk hc hs hv hs' hv' h
   ·simp at ht
  ·simp at ht
 ·simp at ht
theorem aIm {t:TypeId}{offs:List (Nat×LK)}(h:mS P t=some (.agg offs)):jL P t=some offs∧P.eqGuardType P.depth t=false:=by
 unfold mS at h
 split at h<;>try (simp at h; done)
 all_goals
  split at h
  ·simp at h
  ·rename_i hg
   simp only[Option.map_eq_some_iff]at h
   obtain⟨o,h1,h2⟩:=h
   simp at h2; subst h2
   exact⟨h1,by simpa using hg⟩
theorem aNb {o:Oper}{op:BinOp}{t u:TypeId}{x y:Operand}(hop:o.op=.binOp op t x y u)(ho:op=.eql∨op=.neq){offs:List (Nat×LK)}(hk:mS P t=some (.agg offs))(a:Act)(h:MS P O K M J L S env w)
  {e1 e2:TV} (h1:VR M J L e1 (a.eval x)) (h2:VR M J L e2 (a.eval y)) {r:IV} (hr:eqAgg (op==.neq) offs e1 e2=some r) {x' y':aC} :
  bU P O K (.eqAgg (op==.neq) offs x' y') M J L S env w (execOp a.eval o) (.iv r) env S:=by
 obtain⟨hl,hg⟩:=aIm hk
 unfold eqAgg at hr
 split at hr
 ·rename_i cs ds
  simp only[Option.map_eq_some_iff]at hr
  obtain⟨b,hb,rfl⟩:=hr
  obtain⟨xs,hxs,hs,hv⟩:=h1.iv_inv.agg_inv
  obtain⟨ys,hys,hs',hv'⟩:=h2.iv_inv.agg_inv
  have he:=oE (P:=P) (w:=w) hl hs hv hs' hv' hb
  refine .pure rfl h (v':=.bool (if (op==.neq)=true then !b else b)) ?_ (.iv _ (.bool _))
  simp only[execOp,hop,hxs,hys,Sem.run_bind,run_eqGuard_agg w op t x y xs ys hg,Result.andThen_ok]
  rcases ho with rfl|rfl<;>simp[Go.binOp,he]<;>rfl
 ·simp at hr
theorem bDs {o:Oper}{op:UnOp}{t:TypeId}{x:Operand}(hop:o.op=.unOp op t x)(a:Act)(h:MS P O K M J L S env w){e:TV}(hx:VR M J L e (a.eval x)){r:IV}(hr:unOp op e=some r){x':aC} :
  bU P O K (.un op x') M J L S env w (execOp a.eval o) (.iv r) env S:=by
 unfold unOp at hr
 split at hr
 ·rw[show hP .sub _ 0 _=some _ from rfl]at hr
  rw[Option.some.injEq]at hr; subst hr
  refine .pure rfl h (v':=.int _ _) ?_ (.iv _ (.int _ _))
  simp only[execOp,hop,hx.int_inv,Go.Op.unary,Go.Op.intArith]; rfl
 ·rw[show hP .xor _ _ _=some _ from rfl]at hr
  simp at hr; subst hr
  refine .pure rfl h (v':=.int _ _) ?_ (.iv _ (.int _ _))
  simp only[execOp,hop,hx.int_inv,Go.Op.unary,Go.Op.intBits]; rfl
 ·simp at hr; subst hr
  refine .pure rfl h (v':=.bool _) ?_ (.iv _ (.bool _))
  simp only[execOp,hop,hx.bool_inv,Go.Op.unary]; rfl
 ·simp at hr
theorem xU {o:Oper}{s d:TypeId}{x:Operand}(hop:o.op=.convert s d x){k0 k:IntKind}(hs:P.underlying s=some (.int k0))(hd:P.underlying d=some (.int k))(a:Act)(h:MS P O K M J L S env w)
  {e:TV} (hx:VR M J L e (a.eval x)) {r:IV} (hr:cH (.toInt k) e=some r) {x':aC}:bU P O K (.conv (.toInt k) x') M J L S env w (execOp a.eval o) (.iv r) env S:=by
 unfold cH at hr
 split at hr<;>simp_all
 subst hr
 refine .pure rfl h (v':=.int _ _) ?_ (.iv _ (.int _ _))
 simp[execOp,hop,hx.int_inv,Go.convert,und hs,und hd,Go.Conv.intToInt]
theorem vV {o:Oper}{s d:TypeId}{x:Operand}(hop:o.op=.convert s d x){k0:IntKind}(hs:P.underlying s=some (.int k0))(hd:P.underlying d=some .string)(a:Act)(h:MS P O K M J L S env w)
  {e:TV} (hx:VR M J L e (a.eval x)) {r:IV} (hr:cH .intStr e=some r) {x':aC}:bU P O K (.conv .intStr x') M J L S env w (execOp a.eval o) (.iv r) env S:=by
 unfold cH at hr
 split at hr<;>simp_all
 subst hr
 refine .pure rfl h (v':=.string _) ?_ (.iv _ (.str _))
 simp[execOp,hop,hx.int_inv,Go.convert,und hs,und hd,Go.Conv.intToString]
theorem vW {o:Oper}{s d:TypeId}{x:Operand}(hop:o.op=.convert s d x)(hs:P.underlying s=some .string)(hd:P.underlying d=some .string)(a:Act)(h:MS P O K M J L S env w)
  {e:TV} (hx:VR M J L e (a.eval x)) {r:IV} (hr:cH .strStr e=some r) {x':aC}:bU P O K (.conv .strStr x') M J L S env w (execOp a.eval o) (.iv r) env S:=by
 unfold cH at hr
 split at hr<;>simp_all
 subst hr
 refine .pure rfl h (v':=.string _) ?_ (.iv _ (.str _))
 simp[execOp,hop,hx.str_inv,Go.convert,und hs,und hd]
theorem aFl {o:Oper}{x:Operand}{i:Nat}(hop:o.op=.extract x i)(a:Act)(h:MS P O K M J L S env w){vs:List TV}(hx:VR M J L (.tup vs) (a.eval x)){r:TV}(hr:vs[i]? = some r){x':aC} :
  bU P O K (.extract i x') M J L S env w (execOp a.eval o) r env S:=by
 generalize hva:a.eval x=va at hx
 cases hx with
 | tup L cs vs' hs hv =>
  have hlt:i<vs'.size:=by rw[hs]; exact (List.getElem?_eq_some_iff.1 hr).1
  refine .pure rfl h (v':=vs'[i]) ?_ (hv i r _ hr (Array.getElem?_eq_getElem hlt)).ofNil
  simp[execOp,hop,hva,Go.Instr.extract,hlt]
theorem aBg {e r:TV}{n:Nat}{v:Value}(hv:VR M J L e v)(h:dJ e n=some r):∃b o,v=.pointer (some ⟨b,o,none⟩)∧VR M J L r (.pointer (some ⟨b,o+n,none⟩)):=by
 unfold dJ at h
 split at h
 ·simp at h; subst h
  cases hv with
  | lp L j off cb hj=>exact⟨_,_,rfl,.lp _ _ _ _ hj⟩
 ·simp at h; subst h
  cases hv with
  | ptr L i ver off l b o hl hv ha=>exact⟨_,_,rfl,.ptr _ _ _ _ l b (o+n) hl hv (fun e=>by obtain⟨a,b⟩:=ha e; exact⟨a,by omega⟩)⟩
 ·split at h
  ·simp at h; subst h
   cases hv with
   | iv L hr =>
    cases hr with
    | cp cs b off vals hm hvv =>
     refine⟨_,_,rfl,.iv _ (.cp _ b (off+n) (fun i=>vals (n+i)) (fun i x hx=>?_) (fun i x hx=>hvv _ _ (by simpa using hx)))⟩
     rw[Nat.add_assoc]
     exact hm _ _ (by simpa using hx)
  ·simp at h
 ·simp at h
theorem aAf {o:Oper}{t:TypeId}{x:Operand}{f:Nat}(hop:o.op=.fieldAddr t x f){fs:Array Field}{fd:Field}(ht:P.underlying t=some (.struct fs))(hf:fs[f]? = some fd){n:Nat}(hn:sizeOf? P fd.type=some n)(hn0:n≠0)
  (a:Act) (h:MS P O K M J L S env w) {e r:TV} (hx:VR M J L e (a.eval x)) (hr:dJ e fd.offset=some r) {x':aC}:bU P O K (.fieldAddr fd.offset x') M J L S env w (execOp a.eval o) r env S:=by
 obtain⟨b,off,hv,hrv⟩:=aBg hx hr
 refine .pure rfl h ?_ hrv
 simp[execOp,hop,hv,Go.Instr.fieldAt,und ht,hf,Go.Instr.sureAddr,fieldPlace,run_size? hn,hn0,gB]
theorem xV {o:Oper}{t:TypeId}{x i:Operand}(hop:o.op=.indexAddr t x i){len:Nat}{el:TypeId}(ht:P.underlying t=some (.array len el)){n:Nat}(hn:sizeOf? P el=some n)
  (a:Act) (h:MS P O K M J L S env w) {e r ei:TV} (hx:VR M J L e (a.eval x)) (hi:VR M J L ei (a.eval i)) {k:Int} (hk:fN ei=some k) (hb:0≤k∧k<len) (hr:dJ e (k.toNat*n)=some r) {x' i':aC} :
  bU P O K (.indexAddrA len n x' i') M J L S env w (execOp a.eval o) r env S:=by
 obtain⟨b,off,hv,hrv⟩:=aBg hx hr
 obtain⟨kk,hki⟩:=iB hk hi
 refine .pure rfl h ?_ hrv
 simp[execOp,hop,hv,hki,Go.Instr.indexAt,asIntOf,und ht,Go.Instr.sureAddr,hb,run_size? hn,gB]
theorem aAg {es:Nat}{e r:TV}{k:Int}{v:Value}(hv:VR M J L e v)(h:indexAddrS es e k=some r):∃b o len cap,v=.slice (some ⟨b,o,none⟩) len cap∧0≤k∧k<len∧VR M J L r (.pointer (some ⟨b,o+k.toNat*es,none⟩)):=by
 have key:∀ {tg:Tag} {l:List (List IV)} {c:List IV} {v:Value},IR M (.sl tg l) v→l[k.toNat]? = some c→c.length=es→¬k<0→∃b o len cap,v=.slice (some ⟨b,o,none⟩) len cap∧0≤k∧k<len∧len=l.length∧VR M J L (.iv (.cp c)) (.pointer (some ⟨b,o+k.toNat*es,none⟩)):=by
  intro tg l c v hv hc hl hk
  cases hv with
  | slNil=>simp at hc
  | slE t a ht=>simp at hc
  | sl t l b off cap es' vals ht hes hcap hfull hm hvv =>
   have hlt:=(List.getElem?_eq_some_iff.1 hc).1
   have:es'=es:=by rw[←hl]; exact (hes c (List.mem_of_getElem? hc)).symm
   subst this
   exact⟨b,off,_,cap,rfl,by omega,by omega,rfl,.iv _ (.cp _ _ _ (vals k.toNat) (fun i x hx=>hm _ _ _ _ hc hx) (fun i x hx=>hvv _ _ _ _ hc hx))⟩
 unfold indexAddrS at h
 split at h
 ·simp at h
 rename_i hk
 split at h
 ·split at h
  ·rename_i c hc
   split at h
   ·rename_i hl
    simp at h; subst h
    obtain⟨b,o,len,cap,h1,h2,h3,_,h4⟩:=key hv.iv_inv hc hl hk
    exact⟨b,o,len,cap,h1,h2,h3,h4⟩
   ·simp at h
  ·simp at h
 ·split at h
  ·rename_i c hc
   split at h
   ·rename_i hl
    simp at h; subst h
    cases hv with
    | tsl L i es l b o c' hJ hlo hvv ha hr' =>
     obtain⟨b',o',len,cap,h1,h2,h3,h4,h5⟩:=key hr' hc hl hk
     simp at h1
     obtain⟨⟨rfl,rfl⟩,rfl,rfl⟩:=h1
     exact⟨b,o,_,c',rfl,h2,h3,h5⟩
   ·simp at h
  ·simp at h
 ·split at h
  ·rename_i hc
   simp at h; subst h
   obtain⟨hc1,rfl⟩:=hc
   cases hv with
   | msl L i ver off len cap es l b o c hJ hvv ha hl hlc =>
    refine⟨b,o,_,c,rfl,by omega,hc1,.ptr _ _ _ _ l b _ hJ hvv (fun e=>?_)⟩
    obtain⟨a1,a2,_⟩:=ha e
    have:=a2 (by omega)
    exact⟨a1,by omega⟩
  ·simp at h
 ·simp at h
theorem xW {o:Oper}{t:TypeId}{x i:Operand}(hop:o.op=.indexAddr t x i){el:TypeId}(ht:P.underlying t=some (.slice el)){n:Nat}(hn:sizeOf? P el=some n)
  (a:Act) (h:MS P O K M J L S env w) {e r ei:TV} (hx:VR M J L e (a.eval x)) (hi:VR M J L ei (a.eval i)) {k:Int} (hk:fN ei=some k) (hr:indexAddrS n e k=some r) {x' i':aC} :
  bU P O K (.indexAddrS n x' i') M J L S env w (execOp a.eval o) r env S:=by
 obtain⟨b,off,len,cap,hv,h1,h2,hrv⟩:=aAg hx hr
 obtain⟨kk,hki⟩:=iB hk hi
 refine .pure rfl h ?_ hrv
 simp[execOp,hop,hv,hki,Go.Instr.indexAt,asIntOf,und ht,h1,h2,run_size? hn,gB]
theorem aIn {o:Oper}{t:TypeId}{x i:Operand}(hop:o.op=.index t x i)(ht:P.underlying t=some .string)(a:Act)(h:MS P O K M J L S env w){s:List UInt8}{ei:TV}
  (hx:VR M J L (.iv (.str s)) (a.eval x)) (hi:VR M J L ei (a.eval i)) {k:Int} (hk:fN ei=some k) (h0:0≤k) {b:UInt8} (hb:s[k.toNat]? = some b) {x' i':aC} :
  bU P O K (.indexS x' i') M J L S env w (execOp a.eval o) (.iv (.int .u8 b.toNat)) env S:=by
 obtain⟨kk,hki⟩:=iB hk hi
 refine .pure rfl h (v':=.int .u8 b.toNat) ?_ (.iv _ (.int _ _))
 have hlt:=(List.getElem?_eq_some_iff.1 hb).1
 have hg:(⟨s.toArray⟩:ByteArray)[k.toNat]? = some b:=by
  rw[getElem?_pos _ _ (by simpa[ByteArray.size] using hlt)]
  have:=(List.getElem?_eq_some_iff.1 hb).2
  simp[ByteArray.getElem_eq_getElem_data,this]
 simp[execOp,hop,hx.str_inv,hki,Go.Instr.index,asIntOf,und ht,h0,hg]
theorem isAgg?_run {t:TypeId}{b:Bool}(h:isAgg? P t=some b)(w:World):(isAgg t).run P w=.ok b w:=by
 unfold isAgg? at h
 unfold isAgg
 split at h<;>simp at h<;>subst h
 ·rename_i hd; simp only[Sem.run_bind,und hd w]; rfl
 ·rename_i hd; simp only[Sem.run_bind,und hd w]; rfl
 ·rename_i d hn1 hn2 hd
  simp only[Sem.run_bind,und hd w,Result.andThen_ok]
  cases d<;>first|rfl|(exact absurd rfl (hn1 _))|(exact absurd rfl (hn2 _ _))
theorem uR {M:Mem}{J:aB}{L:List (Option Nat)}{x:TV}{v:Value}(h:VR M J L x v){cs:List TV}(hn:gK x=some cs):∃vs,v=.agg vs∧VRs M J [] cs vs.toList:=by
 unfold gK at hn
 split at hn
 ·simp at hn; subst hn
  obtain⟨vs,rfl,hs,hv⟩:=h.iv_inv.agg_inv
  exact⟨vs,rfl,.ofIVs (by simpa using hs) (fun i x u h1 h2=>hv i x u h1 (by simpa using h2))⟩
 ·simp at hn; subst hn
  cases h with
  | agg L cs vs hs hv=>exact⟨vs,rfl,.ofAgg hs hv⟩
 ·simp at hn
theorem aFm {t:TypeId}{n:Nat}{ag:Bool}(hag:isAgg? P t=some ag)(hn:sizeOf? P t=some n){all:List TV}{va:Array Value}(hc:VRs M J [] all va.toList){off:Nat}{cs:List TV}
  (hs:sub all off (if ag then n else 1)=some cs) {r:TV} (hr:eZ ag cs=some r):∃u,(part t va off).run P w=.ok u w∧VR M J L r u:=by
 obtain⟨hle,hcs,hlen⟩:=fO hs
 have hsz:va.size=all.length:=by simpa using hc.1
 unfold part
 simp only[Sem.run_bind,isAgg?_run hag,Result.andThen_ok]
 cases ag with
 | true =>
  simp[eZ]at hr; subst hr
  simp only[if_true]at hs hle hcs hlen ⊢
  refine⟨.agg (va.extract off (off+n)),by simp[run_size? hn],?_⟩
  have he:va.extract off (off+n)=((va.toList.drop off).take n).toArray:=by
   apply Array.ext'
   simp[List.extract_eq_take_drop]
  have:=(hc.drop off).take n
  rw[←hcs]at this
  rw[he]
  exact rW (L:=L) this
 | false =>
  simp only[eZ,Bool.false_eq_true,if_false]at hr hs hle hcs hlen ⊢
  split at hr
  ·rename_i c
   simp at hr; subst hr
   have h0:all[off+0]? = some c:=pB (show sub all off 1=some [c] from hs) rfl
   have hlt:off<va.size:=by rw[hsz]; omega
   refine⟨va[off],?_,(hc.2 off c _ (by simpa using h0) (by simp)).ofNil⟩
   simp[hlt]
  ·simp at hr
theorem aNc {o:Oper}{t:TypeId}{x:Operand}{f:Nat}(hop:o.op=.field t x f){fs:Array Field}{fd:Field}(ht:P.underlying t=some (.struct fs))(hf:fs[f]? = some fd){n:Nat}{ag:Bool}(hn:sizeOf? P fd.type=some n)
  (hag:isAgg? P fd.type=some ag) (a:Act) (h:MS P O K M J L S env w) {e r:TV} (hx:VR M J L e (a.eval x)) {all cs:List TV} (hall:gK e=some all) (hs:sub all fd.offset (if ag then n else 1)=some cs)
  (hr:eZ ag cs=some r) {x':aC}:bU P O K (.field fd.offset (if ag then n else 1) ag x') M J L S env w (execOp a.eval o) r env S:=by
 obtain⟨vs,hv,hc⟩:=uR hx hall
 obtain⟨u,h1,h2⟩:=aFm (P:=P) (w:=w) (L:=L) hag hn hc hs hr
 refine .pure rfl h (v':=u) ?_ h2
 simp[execOp,hop,hv,Go.Instr.field,und ht,hf,asAgg,h1]
theorem aIo {o:Oper}{t:TypeId}{x i:Operand}(hop:o.op=.index t x i){len:Nat}{el:TypeId}(ht:P.underlying t=some (.array len el)){n:Nat}{ag:Bool}(hn:sizeOf? P el=some n)(hag:isAgg? P el=some ag)
  (a:Act) (h:MS P O K M J L S env w) {e r ei:TV} (hx:VR M J L e (a.eval x)) (hi:VR M J L ei (a.eval i)) {k:Int} (hk:fN ei=some k) (hb:0≤k∧k<len) {all cs:List TV} (hall:gK e=some all)
  (hs:sub all (k.toNat*n) n=some cs) (hr:eZ ag cs=some r) {x' i':aC}:bU P O K (.indexA len n ag x' i') M J L S env w (execOp a.eval o) r env S:=by
 obtain⟨vs,hv,hc⟩:=uR hx hall
 obtain⟨kk,hki⟩:=iB hk hi
 have hs':sub all (k.toNat*n) (if ag then n else 1)=some cs:=by
  cases ag with
  | true=>simpa using hs
  | false =>
   simp only[eZ,Bool.false_eq_true,if_false]at hr ⊢
   split at hr
   ·rename_i c
    obtain⟨_,_,hl⟩:=fO hs
    simp at hl; subst hl; exact hs
   ·simp at hr
 obtain⟨u,h1,h2⟩:=aFm (P:=P) (w:=w) (L:=L) hag hn hc hs' hr
 refine .pure rfl h (v':=u) ?_ h2
 simp[execOp,hop,hv,hki,Go.Instr.index,asIntOf,und ht,hb,run_size? hn,h1]
def OI (x:Option Int)(v:Option Value):Prop:=match x,v with
 | none,none=>True
 | some i,some v=>∃k,v=.int k i
 | _,_=>False
theorem cC {i:Int}{y:Nat}{k:IntKind}(code:BoundsCode)(h:0≤i∧i≤y):(Instr.sliceBound (.int k i) y code).run P w=.ok i.toNat w:=by
 simp[Instr.sliceBound,asIntOf,h]
theorem iV {x:Option Int}{d y r:Nat}(h:kQ x d y=some r):(x=none∧r=d)∨∃i,x=some i∧0≤i∧i≤y∧r=i.toNat:=by
 unfold kQ at h
 split at h
 ·simp at h; exact .inl ⟨rfl,h.symm⟩
 ·split at h
  ·rename_i i hi
   simp at h; exact .inr ⟨i,rfl,hi.1,hi.2,h.symm⟩
  ·simp at h
theorem eU {isS:Bool}{len cap cap':Nat}{lo hi mx:Option Int}{l h m:Nat}(hb:eL len cap lo hi mx=some (l,h,m))(hc:cap≤cap'){lv hv mv:Option Value}(h1:OI lo lv)(h2:OI hi hv)(h3:OI mx mv) :
  (Instr.sliceBounds isS len cap' lv hv mv).run P w=.ok (l,h,if mx=none then cap' else m) w∧m≤cap∧(mx=none→m=cap)∧l≤h∧(hi≠none∨len≤cap→h≤m)∧(hi=none→h=len):=by
 unfold eL at hb
 split at hb
 ·simp at hb
 rename_i hnn
 split at hb
 ·simp at hb
 rename_i m' hm
 split at hb
 ·simp at hb
 rename_i h' hh
 split at hb
 ·simp at hb
 rename_i l' hl
 simp at hb
 obtain⟨rfl,rfl,rfl⟩:=hb
 have key:∀ {x:Option Int} {v:Option Value} {i:Int},x=some i→OI x v→∃k,v=some (.int k i):=by
  intro x v i hx ho
  subst hx
  unfold OI at ho
  split at ho<;>simp_all
 have kn:∀ {x:Option Int} {v:Option Value},x=none→OI x v→v=none:=by
  intro x v hx ho
  subst hx
  unfold OI at ho
  split at ho<;>simp_all
 rcases iV hm with⟨rfl,rfl⟩|⟨im,rfl,hm1,hm2,rfl⟩
 ·obtain rfl:=kn rfl h3
  rcases iV hh with⟨rfl,rfl⟩|⟨ih,rfl,hh1,hh2,rfl⟩
  ·obtain rfl:=kn rfl h2
   rcases iV hl with⟨rfl,rfl⟩|⟨il,rfl,hl1,hl2,rfl⟩
   ·obtain rfl:=kn rfl h1
    refine⟨by simp[Instr.sliceBounds],Nat.le_refl _,fun _=>rfl,by omega,fun q=>by simpa using q,fun _=>rfl⟩
   ·obtain⟨kl,rfl⟩:=key rfl h1
    refine⟨by simp[Instr.sliceBounds,cC _ (And.intro hl1 hl2)],Nat.le_refl _,fun _=>rfl,by omega,fun q=>by simpa using q,fun _=>rfl⟩
  ·obtain⟨kh,rfl⟩:=key rfl h2
   have hh3:0≤ih∧ih≤(cap':Int):=by omega
   rcases iV hl with⟨rfl,rfl⟩|⟨il,rfl,hl1,hl2,rfl⟩
   ·obtain rfl:=kn rfl h1
    refine⟨by simp[Instr.sliceBounds,cC _ hh3],Nat.le_refl _,fun _=>rfl,by omega,fun _=>by omega,fun q=>by simp at q⟩
   ·obtain⟨kl,rfl⟩:=key rfl h1
    refine⟨by simp[Instr.sliceBounds,cC _ hh3,cC _ (And.intro hl1 hl2)],Nat.le_refl _,fun _=>rfl,by omega,fun _=>by omega,fun q=>by simp at q⟩
 ·obtain⟨km,rfl⟩:=key rfl h3
  have hm3:0≤im∧im≤(cap':Int):=by omega
  rcases iV hh with⟨rfl,rfl⟩|⟨ih,rfl,hh1,hh2,rfl⟩
  ·exact absurd rfl (hnn im rfl)
  ·obtain⟨kh,rfl⟩:=key rfl h2
   have hh3:0≤ih∧ih≤(im.toNat:Int):=by omega
   rcases iV hl with⟨rfl,rfl⟩|⟨il,rfl,hl1,hl2,rfl⟩
   ·obtain rfl:=kn rfl h1
    refine⟨by simp[Instr.sliceBounds,cC _ hm3,cC _ hh3],by omega,fun q=>by simp at q,by omega,fun _=>by omega,fun q=>by simp at q⟩
   ·obtain⟨kl,rfl⟩:=key rfl h1
    refine⟨by simp[Instr.sliceBounds,cC _ hm3,cC _ hh3,cC _ (And.intro hl1 hl2)],by omega,fun q=>by simp at q,by omega,fun _=>by omega,fun q=>by simp at q⟩
theorem IR.sl_any {M:Mem}{t:Tag}{l:List (List IV)}{v:Value}(h:IR M (.sl t l) v):(t=.nil∧l=[]∧v=.slice none 0 0) ∨
  (∃(b off cap es:Nat) (vals:Nat→Nat→Value),v=.slice (some ⟨b,off,none⟩) l.length cap∧t≠.nil∧(∀c∈l,c.length=es)∧l.length≤cap∧(t=.full→cap=l.length) ∧
   (∀(i:Nat) (c:List IV) (j:Nat) (x:IV),l[i]? = some c→c[j]? = some x→M b (off+i*es+j)=some (vals i j))∧(∀(i:Nat) (c:List IV) (j:Nat) (x:IV),l[i]? = some c→c[j]? = some x→IR M x (vals i j)))∨∃a,v=.slice (some a) 0 0∧l=[]∧t≠.nil:=by
 cases h with
 | slNil=>exact .inl ⟨rfl,rfl,rfl⟩
 | sl t l b off cap es vals ht hes hcap hfull hm hv=>exact .inr (.inl ⟨b,off,cap,es,vals,rfl,ht,hes,hcap,hfull,hm,hv⟩)
 | slE t a ht=>exact .inr (.inr ⟨a,rfl,rfl,ht⟩)
theorem aCz {l:List (List IV)}{es es':Nat}(hf:nN es l=true)(h:∀c∈l,c.length=es'):∀c∈l,c.length=es:=by
 cases l with
 | nil=>intro c hc; simp at hc
 | cons a r =>
  simp[nN]at hf
  have:=h a (by simp)
  intro c hc
  rw[h c hc,←this,hf]
theorem wR {M:Mem}{l:List (List IV)}{b off es es':Nat}{vals:Nat→Nat→Value}(hes:∀c∈l,c.length=es')(hf:nN es l=true)
  (hm:∀(i:Nat) (c:List IV) (j:Nat) (x:IV),l[i]? = some c→c[j]? = some x→M b (off+i*es'+j)=some (vals i j)) (hv:∀(i:Nat) (c:List IV) (j:Nat) (x:IV),l[i]? = some c→c[j]? = some x→IR M x (vals i j))
  {lo hi cap o':Nat} {t:Tag} (ht:t≠.nil) (hlh:lo≤hi) (hhi:hi≤l.length) (hcap:hi-lo≤cap) (hfull:t=.full→cap=hi-lo) (ho:lo<hi→o'=off+lo*es) :
  IR M (.sl t ((l.drop lo).take (hi-lo))) (.slice (some ⟨b,o',none⟩) (hi-lo) cap):=by
 have hlen:((l.drop lo).take (hi-lo)).length=hi-lo:=by simp; omega
 have hes2:=aCz hf hes
 have hget:∀(i:Nat) (c:List IV),((l.drop lo).take (hi-lo))[i]? = some c→l[lo+i]? = some c∧i<hi-lo:=by
  intro i c hc
  rw[List.getElem?_take]at hc
  split at hc
  ·rename_i hi'; exact⟨by simpa using hc,hi'⟩
  ·simp at hc
 have:=IR.sl (M:=M) t ((l.drop lo).take (hi-lo)) b o' cap es (fun i j=>vals (lo+i) j) ht
  (fun c hc=>hes2 c (List.mem_of_mem_drop (List.mem_of_mem_take hc))) (by omega) (fun e=>by rw[hlen]; exact hfull e)
  (fun i c j x hc hx=>by
   obtain⟨h1,h2⟩:=hget i c hc
   have:=hm _ _ _ _ h1 hx
   have e1:es'=es:=by rw[←hes c (List.mem_of_getElem? h1),hes2 c (List.mem_of_getElem? h1)]
   rw[ho (by omega)]
   subst e1
   rw[show off+lo*es'+i*es'+j=off+(lo+i)*es'+j by rw[Nat.add_mul]; omega]
   exact this)
  (fun i c j x hc hx=>hv _ _ _ _ (hget i c hc).1 hx)
 rw[hlen]at this
 exact this
theorem uS {M:Mem}{t:Tag}{l:List (List IV)}{v:Value}(hir:IR M (.sl t l) v){es:Nat}(hf:nN es l=true){lo hi mx:Option Int}{r:IV}(hr:eY t l lo hi mx=some r){tt:TypeId}{el:TypeId}
  (ht:P.underlying tt=some (.slice el)) (hn:sizeOf? P el=some es) {lv hv mv:Option Value} (h1:OI lo lv) (h2:OI hi hv) (h3:OI mx mv):∃u,(Instr.slice tt v lv hv mv).run P w=.ok u w∧IR M r u:=by
 rcases hir.sl_any with⟨rfl,rfl,rfl⟩|⟨b,off,cap,es',vals,rfl,htn,hes,hcap,hfull,hm,hvv⟩|⟨a0,rfl,rfl,htn⟩
 ·unfold eY at hr
  simp only at hr
  split at hr
  ·rename_i q hq
   obtain⟨ql,qh,qm⟩:=q
   simp at hr; subst hr
   obtain⟨e1,e2,e3,e4,e5,e6⟩:=eU (P:=P) (w:=w) (isS:=true) hq (Nat.le_refl _) h1 h2 h3
   have hm0:(if mx=none then 0 else qm)=0:=by split<;>omega
   have hh0:qh=0:=by have:=e5 (.inr (Nat.le_refl _)); omega
   have hl0:ql=0:=by omega
   rw[hm0,hh0,hl0]at e1
   exact⟨.slice none 0 0,by simp[Instr.slice,und ht,e1,run_size? hn],.slNil⟩
  ·simp at hr
 ·have hrun:∀ {l' h' m':Nat},(Instr.sliceBounds true l.length cap lv hv mv).run P w=.ok (l',h',m') w→∃o',(Instr.slice tt (.slice (some ⟨b,off,none⟩) l.length cap) lv hv mv).run P w=.ok (.slice (some ⟨b,o',none⟩) (h'-l') (m'-l')) w∧(m'≠l'→o'=off+l'*es):=by
   intro l' h' m' hb
   refine⟨if m'=l' then off else off+l'*es,?_,fun hne=>by rw[if_neg hne]⟩
   simp only[Instr.slice,Sem.run_bind,und ht,Result.andThen_ok,hb,run_size? hn]
   split<;>simp[gB]
  unfold eY at hr
  cases t with
  | nil=>exact absurd rfl htn
  | no =>
   simp only at hr
   cases mx with
   | none =>
    simp only at hr
    split at hr
    ·rename_i a b' m hb
     simp at hr; subst hr
     obtain⟨e1,e2,e3,e4,e5,e6⟩:=eU (P:=P) (w:=w) (isS:=true) hb hcap h1 h2 h3
     simp at e1
     have hh:=e5 (.inr (Nat.le_refl _))
     obtain⟨o',h4,h5⟩:=hrun e1
     exact⟨_,h4,wR hes hf hm hvv (by simp) e4 (by omega) (by omega) (by simp) (fun hlt=>h5 (by omega))⟩
    ·simp at hr
   | some i =>
    simp only at hr
    split at hr
    ·rename_i a b' m hb
     simp at hr; subst hr
     obtain⟨e1,e2,e3,e4,e5,e6⟩:=eU (P:=P) (w:=w) (isS:=true) hb hcap h1 h2 h3
     simp at e1
     have hh:=e5 (.inr (Nat.le_refl _))
     obtain⟨o',h4,h5⟩:=hrun e1
     refine⟨_,h4,wR hes hf hm hvv (by split<;>simp) e4 (by omega) (by omega) (fun e=>?_) (fun hlt=>h5 (by omega))⟩
     split at e
     ·rename_i hmb; rw[hmb]
     ·simp at e
    ·simp at hr
  | full =>
   simp only at hr
   obtain rfl:=hfull rfl
   split at hr
   ·rename_i a b' m hb
    simp at hr; subst hr
    obtain⟨e1,e2,e3,e4,e5,e6⟩:=eU (P:=P) (w:=w) (isS:=true) hb (Nat.le_refl _) h1 h2 h3
    have hm':(if mx=none then l.length else m)=m:=by
     split
     ·rename_i hx; exact (e3 hx).symm
     ·rfl
    rw[hm']at e1
    have hh:=e5 (.inr (Nat.le_refl _))
    obtain⟨o',h4,h5⟩:=hrun e1
    refine⟨_,h4,wR hes hf hm hvv (by split<;>simp) e4 (by omega) (by omega) (fun e=>?_) (fun hlt=>h5 (by omega))⟩
    split at e
    ·rename_i hmb; rw[hmb]
    ·simp at e
   ·simp at hr
 ·have run0:∀ {q:Nat×Nat×Nat},eL 0 0 lo hi mx=some q→q=(0,0,0)∧(Instr.slice tt (.slice (some a0) 0 0) lv hv mv).run P w=.ok (.slice (some a0) 0 0) w:=by
   intro q hq
   obtain⟨ql,qh,qm⟩:=q
   obtain⟨e1,e2,e3,e4,e5,e6⟩:=eU (P:=P) (w:=w) (isS:=true) hq (Nat.le_refl _) h1 h2 h3
   have hm0:(if mx=none then 0 else qm)=0:=by split<;>omega
   have hh0:qh=0:=by have:=e5 (.inr (Nat.le_refl _)); omega
   have hl0:ql=0:=by omega
   have hqm:qm=0:=by omega
   rw[hm0,hh0,hl0]at e1
   subst hh0; subst hl0; subst hqm
   exact⟨rfl,by simp[Instr.slice,und ht,e1,run_size? hn]⟩
  unfold eY at hr
  cases t with
  | nil=>exact absurd rfl htn
  | no =>
   simp only[List.length_nil]at hr
   cases mx with
   | none =>
    simp only at hr
    split at hr
    ·rename_i a b' m hb
     obtain⟨e1,e2⟩:=run0 hb
     simp at e1 hr; subst hr
     exact⟨_,e2,.slE _ _ (by simp)⟩
    ·simp at hr
   | some i =>
    simp only at hr
    split at hr
    ·rename_i a b' m hb
     obtain⟨e1,e2⟩:=run0 hb
     simp at e1 hr; subst hr
     exact⟨_,e2,.slE _ _ (by split<;>simp)⟩
    ·simp at hr
  | full =>
   simp only[List.length_nil]at hr
   split at hr
   ·rename_i a b' m hb
    obtain⟨e1,e2⟩:=run0 hb
    simp at e1 hr; subst hr
    exact⟨_,e2,.slE _ _ (by split<;>simp)⟩
   ·simp at hr
theorem xX (s:List UInt8)(a b:Nat):(⟨s.toArray⟩:ByteArray).extract a b=⟨((s.drop a).take (b-a)).toArray⟩:=by
 apply ByteArray.ext
 rw[ByteArray.data_extract]
 apply Array.ext'
 simp[List.extract_eq_take_drop]
theorem mV {α:Type}(es:Nat):∀(n:Nat) (cs:List α),n*es≤cs.length→∀(i:Nat) (c:List α),(dI es n cs)[i]? = some c→i<n∧c=(cs.drop (i*es)).take es
 | 0,_,_,i,c,h=>by simp[dI]at h
 | n+1,cs,hl,i,c,h=>by
  rw[Nat.add_mul]at hl
  cases i with
  | zero=>simp[dI]at h; exact⟨by omega,by simp[h]⟩
  | succ i =>
   simp[dI]at h
   obtain⟨h1,h2⟩:=mV es n (cs.drop es) (by simp; omega) i c h
   refine⟨by omega,?_⟩
   rw[h2,List.drop_drop,Nat.add_mul]
   congr 2; omega
theorem eV {α:Type}(es:Nat):∀(n:Nat) (cs:List α),(dI es n cs).length=n
 | 0,_=>rfl
 | n+1,cs=>by simp[dI,eV es n]
theorem mW {α:Type}(es:Nat)(n:Nat)(cs:List α)(hl:n*es≤cs.length):∀c∈dI es n cs,c.length=es:=by
 intro c hc
 obtain⟨i,hi⟩:=List.getElem?_of_mem hc
 obtain⟨h1,rfl⟩:=mV es n cs hl i c hi
 have:(i+1)*es≤n*es:=Nat.mul_le_mul_right _ h1
 rw[Nat.add_mul]at this
 simp; omega
theorem aYy {α:Type}{es:Nat}{l:List (List α)}(h:∀c∈l,c.length=es):nN es l=true:=by
 cases l with
 | nil=>rfl
 | cons a r=>simp[nN,h a (by simp)]
end
end Go.TM
