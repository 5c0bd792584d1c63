/- A part of the evaluator TM, and of the proof that what it computes the model does. Condition: none. -/
import Derived.Test.YtehlgnfhkidgoaaGreatDoorTmB
import Derived.RangeFuncIn
import Derived.OrdersIn
import Derived.RangeFuncRecord
namespace Go.TM
open Go
inductive bX (P:Program) (O:dE) (A:Ann) (dsts:List (Option Nat)) (slot:Option Nat):Op->TOp->Prop
 |mov (x:Operand) (tx:aH) (hx:opd A dsts x=some tx):bX P O A dsts slot (.move x) (.mov tx)
 |assign (x:Operand) (tx:aH) (hx:opd A dsts x=some tx):bX P O A dsts slot (.assign x) (.mov tx)
 |pick (c x y:Operand) (tc tx ty:aH) (hc:opd A dsts c=some tc) (hx:opd A dsts x=some tx) (hy:opd A dsts y=some ty):bX P O A dsts slot (.pick c x y) (.pick tc tx ty)
 |allocL (t:TypeId) (z:List IV) (j:Nat) (hz:eT P t=some z) (hj:slot=some j):bX P O A dsts slot (.alloc t) (.allocL j z)
 |allocH (t:TypeId) (z:List IV) (hz:eT P t=some z):bX P O A dsts slot (.alloc t) (.allocH (t+1) z)
 |boxL (t:TypeId) (x:Operand) (tx:aH) (j:Nat) (hx:opd A dsts x=some tx) (hj:slot=some j):bX P O A dsts slot (.box t x) (.boxL j tx)
 |boxH (t:TypeId) (x:Operand) (tx:aH) (hx:opd A dsts x=some tx):bX P O A dsts slot (.box t x) (.boxH (t+1) tx)
 |buildS (t:TypeId) (ps:Array (Nat×Operand)) (z:List IV) (fs:Array Field) (tps:List (Nat×Nat×aH)) (hz:eT P t=some z) (ht:P.underlying t=some (.struct fs)) (hpl:(aJ7 P fs).isSome=true)
   (hps:aHg P A dsts fs ps.toList=some tps):bX P O A dsts slot (.build t ps) (.build z tps)
 |buildA (t el:TypeId) (k n:Nat) (ps:Array (Nat×Operand)) (z:List IV) (tps:List (Nat×Nat×aH)) (hz:eT P t=some z) (ht:P.underlying t=some (.array k el)) (hn:sizeOf? P el=some n)
   (hps:zU A dsts n ps.toList=some tps):bX P O A dsts slot (.build t ps) (.build z tps)
 |lit (mu:Bool) (t el:TypeId) (len:Nat) (ps:Array (Nat×Operand)) (z:List IV) (tps:List (Nat×aH)) (ht:P.underlying t=some (.slice el)) (hz:eT P el=some z) (hz0:z.length≠0) (hbig:len*z.length<=16777216)
   (hps:zV A dsts ps.toList=some tps):bX P O A dsts slot (.buildSlice t len ps) (.lit mu z len tps)
 |load1 (t:TypeId) (x:Operand) (tx:aH) (n:Nat) (hag:isAgg? P t=some false) (hn:sizeOf? P t=some n) (hx:opd A dsts x=some tx):bX P O A dsts slot (.load t x) (.load1 tx)
 |loadN (t:TypeId) (x:Operand) (tx:aH) (n:Nat) (hag:isAgg? P t=some true) (hn:sizeOf? P t=some n) (hx:opd A dsts x=some tx):bX P O A dsts slot (.load t x) (.loadN n tx)
 |store (t:TypeId) (x y:Operand) (tx ty:aH) (n:Nat) (hn:sizeOf? P t=some n) (hx:opd A dsts x=some tx) (hy:opd A dsts y=some ty):bX P O A dsts slot (.store t x y) (.store n tx ty)
 |nilCheck (x:Operand) (tx:aH) (hx:opd A dsts x=some tx):bX P O A dsts slot (.nilCheck x) (.nilCheck tx)
 |bin (op:BinOp) (t u:TypeId) (x y:Operand) (tx ty:aH) (hx:opd A dsts x=some tx) (hy:opd A dsts y=some ty):bX P O A dsts slot (.binOp op t x y u) (.bin op tx ty)
 |eqB (op:BinOp) (t u:TypeId) (x y:Operand) (tx ty:aH) (k:EK) (ho:op=.eql\/op=.neq) (hk:rI P t=some (.b k)) (hx:opd A dsts x=some tx) (hy:opd A dsts y=some ty):
   bX P O A dsts slot (.binOp op t x y u) (.eqB (op==.neq) k tx ty)
 |eqAgg (op:BinOp) (t u:TypeId) (x y:Operand) (tx ty:aH) (cK:List (Nat×LK)) (ho:op=.eql\/op=.neq) (hk:rI P t=some (.agg cK)) (hx:opd A dsts x=some tx) (hy:opd A dsts y=some ty):
   bX P O A dsts slot (.binOp op t x y u) (.eqAgg (op==.neq) cK tx ty)
 |un (op:UnOp) (t:TypeId) (x:Operand) (tx:aH) (hx:opd A dsts x=some tx):bX P O A dsts slot (.unOp op t x) (.un op tx)
 |toInt (s d:TypeId) (x:Operand) (tx:aH) (k0 k:IntKind) (hs:P.underlying s=some (.int k0)) (hd:P.underlying d=some (.int k)) (hx:opd A dsts x=some tx):bX P O A dsts slot (.convert s d x) (.conv (.toInt k) tx)
 |intStr (s d:TypeId) (x:Operand) (tx:aH) (k0:IntKind) (hs:P.underlying s=some (.int k0)) (hd:P.underlying d=some .string) (hx:opd A dsts x=some tx):bX P O A dsts slot (.convert s d x) (.conv .intStr tx)
 |strStr (s d:TypeId) (x:Operand) (tx:aH) (hs:P.underlying s=some .string) (hd:P.underlying d=some .string) (hx:opd A dsts x=some tx):bX P O A dsts slot (.convert s d x) (.conv .strStr tx)
 |strBytes (s d e:TypeId) (x:Operand) (tx:aH) (hs:P.underlying s=some .string) (hd:P.underlying d=some (.slice e)) (he:P.underlying e=some (.int .u8)) (hx:opd A dsts x=some tx):bX P O A dsts slot (.convert s d x) (.conv .strBytes tx)
 |bytesStr (s d e:TypeId) (x:Operand) (tx:aH) (hs:P.underlying s=some (.slice e)) (hd:P.underlying d=some .string) (he:P.underlying e=some (.int .u8)) (hx:opd A dsts x=some tx):bX P O A dsts slot (.convert s d x) (.conv .bytesStr tx)
 |mkFn (f:FuncId) (first cap:Array Operand) (xs ys:List aH) (hx:wQ A dsts first.toList=some xs) (hy:wQ A dsts cap.toList=some ys):bX P O A dsts slot (.makeFunc (.func f) first cap) (.mkFn f xs ys)
 |mkMap (t kt el:TypeId) (ht:P.underlying t=some (.map kt el)):bX P O A dsts slot (.makeMap t none) .mkMap
 |mkSlice (t el:TypeId) (x y:Operand) (tx ty:aH) (z:List IV) (b:Nat) (ht:P.underlying t=some (.slice el)) (hz:eT P el=some z) (hb:bytesOf? P el=some b) (hx:opd A dsts x=some tx) (hy:opd A dsts y=some ty):
   bX P O A dsts slot (.makeSlice t x y) (.mkSlice z b tx ty)
 |slice (t:TypeId) (k:SK) (x:Operand) (lo hi mx:Option Operand) (tx:aH) (tlo thi tmx:Option aH) (ht:bMw P t k) (hx:opd A dsts x=some tx) (h1:aJ6 A dsts lo=some tlo) (h2:aJ6 A dsts hi=some thi) (h3:aJ6 A dsts mx=some tmx):
   bX P O A dsts slot (.slice t x lo hi mx) (.slice k tx tlo thi tmx)
 |fieldAddr (t:TypeId) (x:Operand) (f:Nat) (fs:Array Field) (fd:Field) (n:Nat) (tx:aH) (ht:P.underlying t=some (.struct fs)) (hf:fs[f]?=some fd) (hn:sizeOf? P fd.type=some n) (hn0:n≠0) (hx:opd A dsts x=some tx):
   bX P O A dsts slot (.fieldAddr t x f) (.fieldAddr fd.offset tx)
 |field (t:TypeId) (x:Operand) (f:Nat) (fs:Array Field) (fd:Field) (n:Nat) (ag:Bool) (tx:aH) (ht:P.underlying t=some (.struct fs)) (hf:fs[f]?=some fd) (hn:sizeOf? P fd.type=some n) (hag:isAgg? P fd.type=some ag)
   (hx:opd A dsts x=some tx):bX P O A dsts slot (.field t x f) (.field fd.offset (if ag then n else 1) ag tx)
 |indexAddrS (t el:TypeId) (x i:Operand) (n:Nat) (tx ti:aH) (ht:P.underlying t=some (.slice el)) (hn:sizeOf? P el=some n) (hx:opd A dsts x=some tx) (hi:opd A dsts i=some ti):bX P O A dsts slot (.indexAddr t x i) (.indexAddrS n tx ti)
 |indexAddrA (t el:TypeId) (x i:Operand) (len n:Nat) (tx ti:aH) (ht:P.underlying t=some (.array len el)) (hn:sizeOf? P el=some n) (hx:opd A dsts x=some tx) (hi:opd A dsts i=some ti):
   bX P O A dsts slot (.indexAddr t x i) (.indexAddrA len n tx ti)
 |indexS (t:TypeId) (x i:Operand) (tx ti:aH) (ht:P.underlying t=some .string) (hx:opd A dsts x=some tx) (hi:opd A dsts i=some ti):bX P O A dsts slot (.index t x i) (.indexS tx ti)
 |indexA (t el:TypeId) (x i:Operand) (len n:Nat) (ag:Bool) (tx ti:aH) (ht:P.underlying t=some (.array len el)) (hn:sizeOf? P el=some n) (hag:isAgg? P el=some ag) (hx:opd A dsts x=some tx) (hi:opd A dsts i=some ti):
   bX P O A dsts slot (.index t x i) (.indexA len n ag tx ti)
 |lookup (t kt el:TypeId) (m k:Operand) (ok:Bool) (kk:KK) (zi:IV) (tm tk:aH) (ht:P.underlying t=some (.map kt el)) (hkk:iC P kt=some kk) (hz:aA1 P el=some zi) (hm:opd A dsts m=some tm) (hk:opd A dsts k=some tk):bX P O A dsts slot (.lookup t m k ok) (.lookup kk zi ok tm tk)
 |update (t kt el:TypeId) (m k v:Operand) (kk:KK) (tm tk tv:aH) (ht:P.underlying t=some (.map kt el)) (hkk:iC P kt=some kk) (hm:opd A dsts m=some tm) (hk:opd A dsts k=some tk) (hv:opd A dsts v=some tv):
   bX P O A dsts slot (.mapUpdate t m k v) (.update kk tm tk tv)
 |entry (t kt el:TypeId) (m k:Operand) (kk:KK) (zi:IV) (tm tk:aH) (ht:P.underlying t=some (.map kt el)) (hkk:iC P kt=some kk) (hz:aA1 P el=some zi) (hm:opd A dsts m=some tm) (hk:opd A dsts k=some tk):bX P O A dsts slot (.mapEntry t m k) (.entry kk zi tm tk)
 |entryStore (t:TypeId) (m s v:Operand) (tm ts tv:aH) (hm:opd A dsts m=some tm) (hs:opd A dsts s=some ts) (hv:opd A dsts v=some tv):bX P O A dsts slot (.entryStore t m s v) (.entryStore tm ts tv)
 |rangeS (t:TypeId) (x:Operand) (tx:aH) (ht:P.underlying t=some .string) (hx:opd A dsts x=some tx):bX P O A dsts slot (.range t x) (.range true tx)
 |rangeM (t kt el:TypeId) (x:Operand) (tx:aH) (ht:P.underlying t=some (.map kt el)) (hx:opd A dsts x=some tx):bX P O A dsts slot (.range t x) (.range false tx)
 |nextS (x:Operand) (tx:aH) (hx:opd A dsts x=some tx):bX P O A dsts slot (.next x true) (.nextS tx)
 |nextM (x:Operand) (tx:aH) (hx:opd A dsts x=some tx):bX P O A dsts slot (.next x false) (.nextM tx)
 |entryM (x:Operand) (tx:aH) (hx:opd A dsts x=some tx):bX P O A dsts slot (.entry x) (.entryM tx)
 |extract (x:Operand) (tx:aH) (i:Nat) (hx:opd A dsts x=some tx):bX P O A dsts slot (.extract x i) (.extract i tx)
 |builtin (mu:Bool) (c:Call) (b:Builtin) (top:TOp) (hc:c.callee=.builtin b) (h:fV P A mu dsts b c.argTypes.toList c.args.toList=some top):bX P O A dsts slot (.call c) top
 | call (pure trunc : Bool) (c : Call) (f : FuncId) (fn : Func) (args : List aH) (hc : c.callee = .value (.func f)) (hfn : P.funcs[f]? = some fn) (hb : fn.body.isSome = true) (hng : fn.name ≠ "runtime.NumGoroutine") (ha : wQ A dsts c.args.toList = some args) :
   bX P O A dsts slot (.call c) (.call pure trunc f args)
 |prim (c:Call) (f:FuncId) (args:List aH) (hc:c.callee=.value (.func f)) (ha:wQ A dsts c.args.toList=some args):bX P O A dsts slot (.call c) (.prim f args)
 |callv (c:Call) (x:Operand) (tx:aH) (args:List aH) (hc:c.callee=.value x) (hx:opd A dsts x=some tx) (ha:wQ A dsts c.args.toList=some args):bX P O A dsts slot (.call c) (.callv tx args)
section
variable {P:Program}{O:dE}{A:Ann}{dsts:List (Option Nat)}
theorem aYc{mu a:Bool}{d:Option Nat}{c:Call}{top:TOp}(h:aQv P O A mu a dsts c=some top):bX P O A dsts d (.call c) top:=by
 unfold aQv at h;split at h;.rename_i b hc;exact .builtin mu c b top hc h
 .rename_i f hc;split at h
  .rename_i args ha;split at h;.simp at h;subst h;exact .prim c f args hc ha
   .split at h
    .rename_i fn hfn;split at h;.rename_i hb;simp at h;subst h;simp at hb;exact .call _ _ c f fn args hc hfn hb.1 hb.2 ha
     .simp at h
    .simp at h
  .simp at h
 .rename_i x hx0 hc;split at h;.rename_i tx args hx ha;simp at h;subst h;exact .callv c x tx args hc hx ha
  .simp at h
 .simp at h
theorem aM8{mu q w:Bool}{o:Oper}{top:TOp}(h:wR P O A mu q w dsts o=some top):bX P O A dsts (o.dst.bind fun t=>eC t A.slots 0) o.op top:=by
 unfold wR at h;simp only at h;split at h;.rename_i x hop;rw[hop];simp only[G_]at h;obtain⟨tx,g,rfl⟩:=h;exact .mov x tx g
 .rename_i x hop;rw[hop];simp only[G_]at h;obtain⟨tx,g,rfl⟩:=h;exact .assign x tx g
 .rename_i c x y hop;rw[hop];split at h;.rename_i tc tx ty hc g hy;simp at h;subst h;exact .pick c x y tc tx ty hc g hy
  .simp at h
 .rename_i t hop;rw[hop];split at h
  .rename_i z hz;split at h;.simp only[G_]at h;obtain⟨j,C,rfl⟩:=h;exact .allocL t z j hz C
   .simp at h;subst h;exact .allocH t z hz
  .simp at h
 .rename_i t x hop;rw[hop];split at h
  .rename_i tx g;split at h;.simp only[G_]at h;obtain⟨j,C,rfl⟩:=h;exact .boxL t x tx j g C
   .simp at h;subst h;exact .boxH t x tx g
  .simp at h
 .rename_i t ps hop;rw[hop];split at h
  .rename_i z fs hz ht;split at h;.rename_i hpl;simp only[G_]at h;obtain⟨tps,p,rfl⟩:=h;exact .buildS t ps z fs tps hz ht hpl p
   .simp at h
  .rename_i z k el hz ht;split at h;.rename_i n hn;simp only[G_]at h;obtain⟨tps,p,rfl⟩:=h;exact .buildA t el k n ps z tps hz ht hn p
   .simp at h
  .simp at h
 .rename_i t len ps hop;rw[hop];split at h
  .rename_i el ht;split at h
   .rename_i z tps hz p;split at h;.simp at h
    .rename_i hc;rw[G6]at hc;simp at h;subst h;exact .lit mu t el len ps z tps ht hz hc.1 A_ p
   .simp at h
  .simp at h
 .rename_i t x hop;rw[hop];split at h;.rename_i n tx hag hn g;simp at h;subst h;exact .loadN t x tx n hag hn g
  .rename_i n tx hag hn g;simp at h;subst h;exact .load1 t x tx n hag hn g
  .simp at h
 .rename_i t x y hop;rw[hop];split at h;.rename_i n tx ty hn g hy;simp at h;subst h;exact .store t x y tx ty n hn g hy
  .simp at h
 .rename_i x hop;rw[hop];simp only[G_]at h;obtain⟨tx,g,rfl⟩:=h;exact .nilCheck x tx g
 .rename_i op t x y u hop;rw[hop];split at h
  .rename_i tx ty g hy;split at h
   .split at h;.simp at h;subst h;exact .bin _ t u x y tx ty g hy
    .rename_i k hk;simp at h;subst h;exact .eqB _ t u x y tx ty k (.inl rfl) hk g hy
    .rename_i cK hk;simp at h;subst h;exact .eqAgg _ t u x y tx ty cK (.inl rfl) hk g hy
    .simp at h
   .split at h;.simp at h;subst h;exact .bin _ t u x y tx ty g hy
    .rename_i k hk;simp at h;subst h;exact .eqB _ t u x y tx ty k (.inr rfl) hk g hy
    .rename_i cK hk;simp at h;subst h;exact .eqAgg _ t u x y tx ty cK (.inr rfl) hk g hy
    .simp at h
   .simp at h;subst h;exact .bin _ t u x y tx ty g hy
  .simp at h
 .rename_i op t x hop;rw[hop];simp only[G_]at h;obtain⟨tx,g,rfl⟩:=h;exact .un op t x tx g
 .rename_i s d x hop;rw[hop];split at h;.rename_i k0 k tx hs hd g;simp at h;subst h;exact .toInt s d x tx k0 k hs hd g
  .rename_i k0 tx hs hd g;simp at h;subst h;exact .intStr s d x tx k0 hs hd g
  .rename_i tx hs hd g;simp at h;subst h;exact .strStr s d x tx hs hd g
  .rename_i e tx hs hd g;split at h;.rename_i he;simp at h;subst h;exact .strBytes s d e x tx hs hd he g
   .simp at h
  .rename_i e tx hs hd g;split at h;.rename_i he;simp at h;subst h;exact .bytesStr s d e x tx hs hd he g
   .simp at h
  .simp at h
 .rename_i f first cap hop;rw[hop]
  split at h;.rename_i xs ys g hy;simp at h;subst h;exact .mkFn f first cap xs ys g hy
  .simp at h
 .rename_i t r hop;rw[hop];split at h;.rename_i kt el ht;simp at h;subst h;exact .mkMap t kt el ht
  .simp at h
 .rename_i t x y hop;rw[hop];split at h
  .rename_i el ht;split at h
   .rename_i z b tx ty hz hb g hy;split at h;.simp at h
    .simp at h;subst h;exact .mkSlice t el x y tx ty z b ht hz hb g hy
   .simp at h
  .simp at h
 .rename_i t x lo hi mx hop;rw[hop];split at h
  .rename_i tx tlo thi tmx g h1 h2 h3;split at h;.rename_i ht;simp at h;subst h;exact .slice t .str x lo hi mx tx tlo thi tmx ht g h1 h2 h3
   .rename_i el ht;split at h
    .rename_i n hn;split at h;.simp at h
     .simp at h;subst h;exact .slice t (.sl n) x lo hi mx tx tlo thi tmx ⟨el,ht,hn⟩ g h1 h2 h3
    .simp at h
   .rename_i n el ht;split at h
    .rename_i k hk;split at h;.simp at h
     .simp at h;subst h;exact .slice t (.arr n k) x lo hi mx tx tlo thi tmx (.inl ⟨el,ht,hk⟩) g h1 h2 h3
    .simp at h
   .rename_i a ht;split at h
    .rename_i n el ha;split at h
     .rename_i k hk;split at h;.simp at h
      .simp at h;subst h;exact .slice t (.arr n k) x lo hi mx tx tlo thi tmx (.inr ⟨a,el,ht,ha,hk⟩) g h1 h2 h3
     .simp at h
    .simp at h
   .simp at h
  .simp at h
 .rename_i t x f hop;rw[hop];split at h
  .rename_i fs tx ht g;split at h
   .rename_i fd hf;split at h
    .rename_i n hn;split at h;.simp at h
     .rename_i hn0;simp at h;subst h;exact .fieldAddr t x f fs fd n tx ht hf hn hn0 g
    .simp at h
   .simp at h
  .simp at h
 .rename_i t x f hop;rw[hop];split at h
  .rename_i fs tx ht g;split at h
   .rename_i fd hf;split at h;.rename_i n ag hn hag;simp only[R_]at h;subst h;exact .field t x f fs fd n ag tx ht hf hn hag g
    .simp at h
   .simp at h
  .simp at h
 .rename_i t x i hop;rw[hop];split at h
  .rename_i el tx ti ht g hi;split at h
   .rename_i n hn;split at h;.simp at h
    .simp at h;subst h;exact .indexAddrS t el x i n tx ti ht hn g hi
   .simp at h
  .rename_i len el tx ti ht g hi;split at h
   .rename_i n hn;split at h;.simp at h
    .simp at h;subst h;exact .indexAddrA t el x i len n tx ti ht hn g hi
   .simp at h
  .simp at h
 .rename_i t x i hop;rw[hop];split at h;.rename_i tx ti ht g hi;simp at h;subst h;exact .indexS t x i tx ti ht g hi
  .rename_i len el tx ti ht g hi;split at h
   .rename_i n ag hn hag;split at h;.simp at h
    .simp at h;subst h;exact .indexA t el x i len n ag tx ti ht hn hag g hi
   .simp at h
  .simp at h
 .rename_i t m k ok hop;rw[hop];split at h
  .rename_i kt el tm tk ht hm hk;split at h;.rename_i kk zi l hz;simp at h;subst h;exact .lookup t kt el m k ok kk zi tm tk ht l hz hm hk
   .simp at h
  .simp at h
 .rename_i t m k v hop;rw[hop];split at h;.rename_i kt el tm tk tv ht hm hk hv;simp only[G_]at h;obtain⟨kk,l,rfl⟩:=h;exact .update t kt _ m k v kk tm tk tv ht l hm hk hv
  .simp at h
 .rename_i t m k hop;rw[hop];split at h
  .rename_i kt el tm tk ht hm hk;split at h;.rename_i kk zi l hz;simp at h;subst h;exact .entry t kt el m k kk zi tm tk ht l hz hm hk
   .simp at h
  .simp at h
 .rename_i t m s v hop;rw[hop];split at h;.rename_i tm ts tv hm hs hv;simp at h;subst h;exact .entryStore t m s v tm ts tv hm hs hv
  .simp at h
 .rename_i t x hop;rw[hop];split at h;.rename_i ht;simp only[G_]at h;obtain⟨tx,g,rfl⟩:=h;exact .rangeS t x tx ht g
  .rename_i kt el ht;simp only[G_]at h;obtain⟨tx,g,rfl⟩:=h;exact .rangeM t kt el x tx ht g
  .simp at h
 .rename_i x isStr hop;rw[hop];simp only[G_]at h;obtain⟨tx,g,rfl⟩:=h;cases isStr with
  |true=>exact .nextS x tx g
  |false=>exact .nextM x tx g
 .rename_i x hop;rw[hop];simp only[G_]at h;obtain⟨tx,g,rfl⟩:=h;exact .entryM x tx g
 .rename_i x i hop;rw[hop];simp only[G_]at h;obtain⟨tx,g,rfl⟩:=h;exact .extract x tx i g
 .rename_i c hop;rw[hop];exact aYc h
 .simp at h
end
end Go.TM
namespace Go.TM
open Go
section
variable {P:Program}{O:dE}{K:TM.bD}{A:Ann}{dsts:List (Option Nat)}{slot:Option Nat}
variable {M:Mem}{J:aF}{L:List (Option Nat)}{S S':aA}{env env':Env}{w:World}
def aKh(A:Ann)(dsts:List (Option Nat))(M:Mem)(J:aF)(L:List (Option Nat))(ev:aH->TV)(a:Act)(top:TOp):Prop :=
 ∀(x:Operand) (tx:aH),tx∈aQ top->opd A dsts x=some tx->VR M J L (ev tx) (a.eval x)
theorem mN{a:Act}{ev:aH->TV}:∀ {xs:List Operand} {b:List aH},wQ A dsts xs=some b->(∀x tx,tx∈b->opd A dsts x=some tx->VR M J L (ev tx) (a.eval x))->VRs M J L (b.map ev) (xs.map a.eval)
 |[],b,h,_=>by simp[wQ]at h;subst h;exact .nil
 |x::r,b,h,hv=>by
  simp only[wQ]at h;split at h;.rename_i tx l h1 h2;simp at h;subst h;exact .cons (hv x tx B_ h1) (mN h2 fun y ty c=>hv y ty (by simp[c]))
  .simp at h
theorem aHr{c:Array Field}:∀ {ps:List (Nat×Operand)} {tps:List (Nat×Nat×aH)},aHg P A dsts c ps=some tps->ps.length=tps.length/\∀(k:Nat) (p:Nat×Nat×aH) (u:Nat×Operand),tps[k]?=some p->ps[k]?=some u ->opd A dsts u.2=some p.2.2/\∃f,c[u.1]?=some f/\p.1=f.offset/\sizeOf? P f.type=some p.2.1
 |[],tps,h=>by simp[aHg]at h;subst h;exact⟨rfl,fun k p u a=>by simp at a⟩
 |(i,x)::r,tps,h=>by
  simp only[aHg]at h;split at h
  .rename_i f tx l h1 h2 h3;split at h
   .rename_i n hn;simp at h;subst h;obtain⟨d,e2⟩:=aHr h3;refine⟨by simp[d],fun k p u a b=>?_⟩;cases k with
    |zero=>simp at a b;subst a;subst b;exact⟨h2,f,h1,rfl,hn⟩
    |succ k=>exact e2 k p u (by simpa using a) (by simpa using b)
   .simp at h
  .simp at h
theorem aEm{n:Nat}:∀ {ps:List (Nat×Operand)} {tps:List (Nat×Nat×aH)},zU A dsts n ps=some tps->ps.length=tps.length/\∀(k:Nat) (p:Nat×Nat×aH) (u:Nat×Operand),tps[k]?=some p->ps[k]?=some u ->opd A dsts u.2=some p.2.2/\p.2.1=n/\p.1=u.1*n
 |[],tps,h=>by simp[zU]at h;subst h;exact⟨rfl,fun k p u a=>by simp at a⟩
 |(i,x)::r,tps,h=>by
  simp only[zU]at h;split at h
  .rename_i tx l h1 h2;simp at h;subst h;obtain⟨c,e2⟩:=aEm h2;refine⟨by simp[c],fun k p u a b=>?_⟩;cases k with
   |zero=>simp at a b;subst a;subst b;exact⟨h1,rfl,rfl⟩
   |succ k=>exact e2 k p u (by simpa using a) (by simpa using b)
  .simp at h
theorem wW:∀ {ps:List (Nat×Operand)} {tps:List (Nat×aH)},zV A dsts ps=some tps->ps.length=tps.length/\∀(k:Nat) (p:Nat×aH) (u:Nat×Operand),tps[k]?=some p->ps[k]?=some u->opd A dsts u.2=some p.2/\u.1=p.1
 |[],tps,h=>by simp[zV]at h;subst h;exact⟨rfl,fun k p u a=>by simp at a⟩
 |(i,x)::r,tps,h=>by
  simp only[zV]at h;split at h
  .rename_i tx l h1 h2;simp at h;subst h;obtain⟨c,e2⟩:=wW h2;refine⟨by simp[c],fun k p u a b=>?_⟩;cases k with
   |zero=>simp at a b;subst a;subst b;exact⟨h1,rfl⟩
   |succ k=>exact e2 k p u (by simpa using a) (by simpa using b)
  .simp at h
theorem aKi{x:Option Operand}{tx:Option aH}(h:aJ6 A dsts x=some tx){ev:aH->TV}{a:Act}(e:∀y ty,ty∈tx.toList->opd A dsts y=some ty->VR M J L (ev ty) (a.eval y)){n:Option Int}(b:nL ev tx=some n):OI n (x.map a.eval):=by
 cases x with
 |none =>simp[aJ6]at h;subst h;simp[nL]at b;subst b;trivial
 |some x =>simp only[aJ6,G_]at h;obtain⟨t,c,rfl⟩:=h;simp only[nL,G_]at b;obtain⟨i,f,rfl⟩:=b;obtain⟨k,d⟩:=kW f (e x t B_ c);exact⟨k,by simp[d]⟩
theorem aBd{o:Oper}{c:Call}{b:Builtin}(e:o.op=.call c)(f:c.callee=.builtin b)(a:Act):∃ty d,execOp a.eval o=Go.builtin b c.argTypes ty d (c.args.map a.eval):=by simp only[execOp,e,Go.resolve,f,invoke,pure_bind];exact⟨_,_,rfl⟩
theorem bFm{c:Call}{x y:Operand}(h:c.args.toList=[x,y])(a:Act):c.args.map a.eval=#[a.eval x,a.eval y]:=by apply M5;simp[h]
theorem bFn{c:Call}{x:Operand}(h:c.args.toList=[x])(a:Act):c.args.map a.eval=#[a.eval x]:=by apply M5;simp[h]
theorem rN{c:Call}{t:TypeId}{r:List TypeId}(h:c.argTypes.toList=t::r):c.argTypes[0]?=some t:=by rw[<-K3,h];rfl
theorem bSu{c:Call}{t u:TypeId}{r:List TypeId}(h:c.argTypes.toList=t::u::r):c.argTypes[1]?=some u:=by rw[<-K3,h];rfl
theorem bM2{o:Oper}{c:Call}{b:Builtin}{mu:Bool}{top:TOp}(V:o.op=.call c)(hc:c.callee=.builtin b)(h:fV P A mu dsts b c.argTypes.toList c.args.toList=some top)(a:Act)(G:MS P O K M J L S env w){ev:aH->TV} (Q:aKh A dsts M J L ev a top) {v:TV} (d:aU top ev=some v\/aO top ev env S=some v):aP top=none/\cJ P O K top M J L S env w (execOp a.eval o) v env S:=by
 obtain⟨ty,g,I⟩:=aBd V hc a;rw[I];unfold fV at h;split at h
 .rename_i t u r s x hts has;split at h
  .split at h
   .split at h;.simp at h
    .simp at h;subst h;simp[aU,aO]at d
   .simp at h
  .split at h
   .split at h;.simp at h
    .simp at h;subst h;simp[aU,aO]at d
   .simp at h
  .split at h
   .split at h;.simp at h
    .simp at h;subst h;simp[aU,aO]at d
   .simp at h
  .simp at h
 .split at h
  .split at h
   .split at h;.simp at h
    .simp at h;subst h;simp[aU,aO]at d
   .simp at h
  .simp at h
 .split at h
  .split at h
   .split at h;.simp at h
    .simp at h;subst h;simp[aU,aO]at d
   .simp at h
  .simp at h
 .rename_i t r x hts has;split at h
  .rename_i e f;simp only[G_]at h;obtain⟨tx,l,rfl⟩:=h;refine⟨rfl,?_⟩;rcases d with d|d
   .simp only[aU,G_]at d;obtain⟨n,U,rfl⟩:=d;have C:=Q x tx (by simp[aQ]) l;refine .pure rfl G (v':=.int .i64 n) ?_ (.iv _ (.int _ _));have H:=bFn has a;have E:(Builtin.cap_ c.argTypes ty #[a.eval x]).run P w=.ok (.int .i64 n) w:=by have:=bMv (P:=P) (w:=w) (ty:=ty) C U f;simp only[Builtin.cap_]at this |-;rw[rN hts];simpa using this
    simp[Go.builtin,H,E]
   .simp[aO]at d
  .simp at h
 .rename_i t r x hts has;have H:=bFn has a;have key:∀ {tx:aH} {k:NK},opd A dsts x=some tx->(match k with | .str=>P.underlying t=some .string | .sl=>∃e,P.underlying t=some (.slice e) | .mp=>∃k e,P.underlying t=some (.map k e))->top=.len k tx ->
    aP top=none/\cJ P O K top M J L S env w (Go.builtin .len c.argTypes ty g (c.args.map a.eval)) v env S:=by
   intro tx k l f i
   subst i
   refine⟨rfl,?_⟩
   rcases d with d|d
   .simp[aU]at d
   .simp only[aO]at d
    split at d
    .rename_i hk
     simp only[G_]at d
     obtain⟨n,U,rfl⟩:=d
     have C:=Q x tx (by simp[aQ]) l
     refine .pure rfl G (v':=.int .i64 n) ?_ (.iv _ (.int _ _))
     have E:(Builtin.len_ c.argTypes ty #[a.eval x]).run P w=.ok (.int .i64 n) w:=by have:=bMu (P:=P) (ty:=ty) (t:=t) G C U (by rw[hk];exact f);simp only[Builtin.len_]at this |-;rw[rN hts];simpa using this
     simp[Go.builtin,H,E]
    .simp at d
  have y:∀ {n:Nat},(P.underlying t=some (.array n (0:TypeId))\/(∃e,P.underlying t=some (.array n e))\/∃p e,P.underlying t=some (.pointer p)/\P.underlying p=some (.array n e))->top=.lenC n ->
    aP top=none/\cJ P O K top M J L S env w (Go.builtin .len c.argTypes ty g (c.args.map a.eval)) v env S:=by
   intro n f i
   subst i
   refine⟨rfl,?_⟩
   have R:v=.iv (.int .i64 n):=by
    rcases d with d|d;.simp[aU]at d;exact d.symm
    .simp[aO]at d
   subst R
   refine .pure rfl G (v':=.int .i64 n) ?_ (.iv _ (.int _ _))
   rcases f with f|⟨e,f⟩|⟨p,e,f,T⟩
   .simp[Go.builtin,H,Builtin.len_,rN hts,und f,goInt]
   .simp[Go.builtin,H,Builtin.len_,rN hts,und f,goInt]
   .simp[Go.builtin,H,Builtin.len_,rN hts,und f,und T,goInt]
  split at h;.rename_i f;simp only[G_]at h;obtain⟨tx,l,rfl⟩:=h;exact key (k:=.str) l f rfl
  .rename_i e f;simp only[G_]at h;obtain⟨tx,l,rfl⟩:=h;exact key (k:=.sl) l ⟨e,f⟩ rfl
  .rename_i kt e f;simp only[G_]at h;obtain⟨tx,l,rfl⟩:=h;exact key (k:=.mp) l ⟨kt,e,f⟩ rfl
  .rename_i n e f;simp at h;subst h;exact y (.inr (.inl ⟨e,f⟩)) rfl
  .rename_i p f;split at h;.rename_i n e T;simp at h;subst h;exact y (.inr (.inr ⟨p,e,f,T⟩)) rfl
   .simp at h
  .simp at h
 .split at h
  .split at h;.simp at h;subst h;simp[aU,aO]at d
   .simp at h
  .simp at h
 .simp only[G_]at h;obtain⟨Z,F,rfl⟩:=h;refine⟨rfl,?_⟩;have j:=mN F (fun x tx D=>Q x tx (by simpa[aQ] using D));rcases d with d|d
  .simp only[aU]at d;split at d;.rename_i a0 r hr;simp only[G_]at d;obtain⟨m,D,rfl⟩:=d;rw[hr]at j;obtain⟨u,us,z,C,Y⟩:=j.cons_inv;obtain⟨q,N,W⟩:=wU (P:=P) (w:=w) false D C.iv_inv Y;refine .pure rfl G (v':=q) ?_ (.iv _ W);simp only[Y_,I5]at N;simp[Go.builtin,Builtin.min_,z,N]
   .simp at d
  .simp[aO]at d
 .simp only[G_]at h;obtain⟨Z,F,rfl⟩:=h;refine⟨rfl,?_⟩;have j:=mN F (fun x tx D=>Q x tx (by simpa[aQ] using D));rcases d with d|d
  .simp only[aU]at d;split at d;.rename_i a0 r hr;simp only[G_]at d;obtain⟨m,D,rfl⟩:=d;rw[hr]at j;obtain⟨u,us,z,C,Y⟩:=j.cons_inv;obtain⟨q,N,W⟩:=wU (P:=P) (w:=w) true D C.iv_inv Y;refine .pure rfl G (v':=q) ?_ (.iv _ W);simp only[N6]at N;simp[Go.builtin,Builtin.max_,z,N]
   .simp at d
  .simp[aO]at d
 .simp at h
theorem bFo{o:Oper}{top:TOp}(Q:bX P O A dsts slot o.op top)(a:Act)(h:MS P O K M J L S env w){ev:aH->TV}(q:aKh A dsts M J L ev a top){v:TV} (g:aU top ev=some v\/aO top ev env S=some v):aP top=none/\cJ P O K top M J L S env w (execOp a.eval o) v env S:=by
 generalize hop:o.op=op at Q;cases Q with
 |mov x tx hx =>refine⟨rfl,?_⟩;simp[aU,aO]at g;subst g;exact aVq (.inl hop) a h (q x tx (by simp[aQ]) hx)
 |assign x tx hx =>refine⟨rfl,?_⟩;simp[aU,aO]at g;subst g;exact aVq (.inr hop) a h (q x tx (by simp[aQ]) hx)
 |pick c x y tc tx ty Q hx hy =>
  refine⟨rfl,?_⟩;rcases g with g|g
  .simp only[aU]at g;split at g;.rename_i t ht;simp at g;subst g;exact bE6 hop a h (q c tc (by simp[aQ]) Q) (q x tx (by simp[aQ]) hx) (q y ty (by simp[aQ]) hy) ht
   .simp at g
  .simp[aO]at g
 |allocL t z j hz hj=>simp[aU,aO]at g
 |allocH t z hz=>simp[aU,aO]at g
 |boxL t x tx j hx hj=>simp[aU,aO]at g
 |boxH t x tx hx=>simp[aU,aO]at g
 |buildS t ps z fs tps hz ht hpl hps =>
  refine⟨rfl,?_⟩;rcases g with g|g;.simp only[aU,G_]at g;obtain⟨cs,C,rfl⟩:=g;obtain⟨D,W⟩:=aHr hps;refine aHn hop hz (ev:=ev) (tps:=tps) a h (by simpa using D) (fun k p u I U=>?_) (.inl ⟨fs,ht,hpl⟩) C rfl;obtain⟨V,f,e2,e3,e4⟩:=W k p u I (by simpa using U);exact⟨q u.2 p.2.2 (by simp only[aQ,r_];exact⟨p,B9 I,rfl⟩) V,.inl ⟨fs,f,ht,hpl,e2,e3,e4⟩⟩
  .simp[aO]at g
 |buildA t el k n ps z tps hz ht hn hps =>
  refine⟨rfl,?_⟩;rcases g with g|g;.simp only[aU,G_]at g;obtain⟨cs,C,rfl⟩:=g;obtain⟨D,W⟩:=aEm hps;refine aHn hop hz (ev:=ev) (tps:=tps) a h (by simpa using D) (fun i p u I U=>?_) (.inr ⟨k,el,n,ht,hn⟩) C rfl;obtain⟨V,e2,e3⟩:=W i p u I (by simpa using U);exact⟨q u.2 p.2.2 (by simp only[aQ,r_];exact⟨p,B9 I,rfl⟩) V,.inr ⟨k,el,ht,by rw[e2];exact hn,by rw[e2];exact e3⟩⟩
  .simp[aO]at g
 |lit mu t el len ps z tps ht hz hz0 hbig hps =>
  refine⟨rfl,?_⟩;rcases g with g|g
  .cases mu with
   |true=>simp[aU]at g
   |false =>
    simp only[aU]at g;split at g;.rename_i es hes;simp only[G_]at g;obtain⟨l,D,rfl⟩:=g;obtain⟨Z,W⟩:=wW hps;obtain⟨cells,G,T,h3,h4⟩:=aVt (P:=P) (w:=w) (M:=M) (J:=J) (L:=L) hop ht hz hz0 hbig (ev:=ev) (tps:=tps) a (by simpa using Z) (fun k p u I U=>by obtain⟨V,e2⟩:=W k p u I (by simpa using U);exact⟨e2,q u.2 p.2 (by simp only[aQ,r_];exact⟨p,B9 I,rfl⟩) V⟩) hes;obtain⟨M',h5,h6,h7⟩:=bFg h el G T D;exact .mk0 rfl h4 (.inl ⟨_,rfl,h5⟩) h6 h7 (.refl _)
    .simp at g
  .simp[aO]at g
 |load1 t x tx n hag hn hx =>
  refine⟨rfl,?_⟩;rcases g with g|g;.simp[aU]at g
  .simp only[aO]at g;split at g;.rename_i cs C;exact aM0 hop hag hn a h (q x tx (by simp[aQ]) hx) (by simpa using C) g rfl
   .simp at g
 |loadN t x tx n hag hn hx =>
  refine⟨rfl,?_⟩;rcases g with g|g;.simp[aU]at g
  .simp only[aO]at g;split at g;.rename_i cs C;exact aM0 hop hag hn a h (q x tx (by simp[aQ]) hx) (by simpa using C) g rfl
   .simp at g
 |store t x y tx ty n hn hx hy=>simp[aU,aO]at g
 |nilCheck x tx hx =>
  refine⟨rfl,?_⟩;rcases g with g|g
  .simp only[aU]at g;split at g;.rename_i I;simp at g;subst g;exact aJ8 hop a h (q x tx (by simp[aQ]) hx) I
   .simp at g
  .simp[aO]at g
 |bin op t u x y tx ty hx hy =>
  refine⟨rfl,?_⟩;rcases g with g|g;.simp only[aU,G_]at g;obtain⟨r,E,rfl⟩:=g;exact bMr hop a h (q x tx (by simp[aQ]) hx) (q y ty (by simp[aQ]) hy) E
  .simp[aO]at g
 |eqB op t u x y tx ty k ho hk hx hy =>
  refine⟨rfl,?_⟩;rcases g with g|g;.simp only[aU,G_]at g;obtain⟨r,E,rfl⟩:=g;exact bMs hop ho hk a h (q x tx (by simp[aQ]) hx) (q y ty (by simp[aQ]) hy) E
  .simp[aO]at g
 |eqAgg op t u x y tx ty cK ho hk hx hy =>
  refine⟨rfl,?_⟩;rcases g with g|g;.simp only[aU,G_]at g;obtain⟨r,E,rfl⟩:=g;exact aX4 hop ho hk a h (q x tx (by simp[aQ]) hx) (q y ty (by simp[aQ]) hy) E
  .simp[aO]at g
 |un op t x tx hx =>
  refine⟨rfl,?_⟩;rcases g with g|g;.simp only[aU,G_]at g;obtain⟨r,E,rfl⟩:=g;exact bSt hop a h (q x tx (by simp[aQ]) hx) E
  .simp[aO]at g
 |toInt s d x tx k0 k hs hd hx =>
  refine⟨rfl,?_⟩;rcases g with g|g;.simp only[aU,G_]at g;obtain⟨r,E,rfl⟩:=g;exact aD3 hop hs hd a h (q x tx (by simp[aQ]) hx) E
  .simp[aO]at g
 |intStr s d x tx k0 hs hd hx =>
  refine⟨rfl,?_⟩;rcases g with g|g;.simp only[aU,G_]at g;obtain⟨r,E,rfl⟩:=g;exact aB4 hop hs hd a h (q x tx (by simp[aQ]) hx) E
  .simp[aO]at g
 |strStr s d x tx hs hd hx =>
  refine⟨rfl,?_⟩;rcases g with g|g;.simp only[aU,G_]at g;obtain⟨r,E,rfl⟩:=g;exact aB5 hop hs hd a h (q x tx (by simp[aQ]) hx) E
  .simp[aO]at g
 |strBytes s d e x tx hs hd hee hx =>
  refine⟨rfl,?_⟩;rcases g with g|g;.simp only[aU,G_]at g;obtain⟨r,E,rfl⟩:=g;exact aKf hop hs hd hee a h (q x tx (by simp[aQ]) hx) E rfl
  .simp[aO]at g
 |bytesStr s d e x tx hs hd hee hx =>
  refine⟨rfl,?_⟩;rcases g with g|g;.simp[aU,dB]at g
  .simp only[aO]at g;split at g;.rename_i l D;simp only[G_]at g;obtain⟨b,H,rfl⟩:=g;exact aKb hop hs hd hee a h (q x tx (by simp[aQ]) hx) D H rfl
   .simp at g
 |mkFn f first cap xs ys hx hy =>
  refine⟨rfl,?_⟩;rcases g with g|g
  .simp only[aU]at g;split at g;.simp at g
   .rename_i hn;simp at g;subst g;have G:=mN hx (L:=L) (M:=M) (J:=J) (a:=a) (ev:=ev) (fun x tx F=>q x tx (by simp[aQ,F]));have T:=mN hy (L:=L) (M:=M) (J:=J) (a:=a) (ev:=ev) (fun x tx F=>q x tx (by simp[aQ,F]));exact bFl hop a h (by simpa using G) (by simpa using T) (by simpa using hn) rfl
  .simp[aO]at g
 |mkMap t kt el ht=>simp[aU,aO]at g
 |mkSlice t el x y tx ty z b ht hz H hx hy=>simp[aU,aO]at g
 |slice t k x lo hi mx tx tlo thi tmx ht hx G T h3 =>
  refine⟨rfl,?_⟩;rcases g with g|g;.simp[aU]at g
  .simp only[aO]at g;split at g;.rename_i lo' hi' mx' V e2 e3;have o1:=aKi (M:=M) (J:=J) (L:=L) G (a:=a) (fun y ty F=>q y ty (by simp only[aQ,J_,U_];right;left;left;exact F)) V;have o2:=aKi (M:=M) (J:=J) (L:=L) T (a:=a) (fun y ty F=>q y ty (by simp only[aQ,J_,U_];right;left;right;exact F)) e2;have o3:=aKi (M:=M) (J:=J) (L:=L) h3 (a:=a) (fun y ty F=>q y ty (by simp only[aQ,J_,U_];right;right;exact F)) e3;obtain⟨u,E,U⟩:=bFb h ht (q x tx (by simp[aQ]) hx) g o1 o2 o3;refine .pure rfl h (v':=u) ?_ U;simp[execOp,hop,E]
   .simp at g
 |fieldAddr t x f fs fd n tx ht hf hn hn0 hx =>
  refine⟨rfl,?_⟩;rcases g with g|g;.exact aGa hop ht hf hn hn0 a h (q x tx (by simp[aQ]) hx) g
  .simp[aO]at g
 |field t x f fs fd n ag tx ht hf hn hag hx =>
  refine⟨rfl,?_⟩;rcases g with g|g
  .simp only[aU]at g;split at g
   .rename_i all hall;split at g;.rename_i cs C;exact aX5 hop ht hf hn hag a h (q x tx (by simp[aQ]) hx) hall C g
    .simp at g
   .simp at g
  .simp[aO]at g
 |indexAddrS t el x i n tx ti ht hn hx hi =>
  refine⟨rfl,?_⟩;rcases g with g|g
  .simp only[aU]at g;split at g;.rename_i k hk;exact aD5 hop ht hn a h (q x tx (by simp[aQ]) hx) (q i ti (by simp[aQ]) hi) hk g
   .simp at g
  .simp[aO]at g
 |indexAddrA t el x i len n tx ti ht hn hx hi =>
  refine⟨rfl,?_⟩;rcases g with g|g
  .simp only[aU]at g;split at g
   .rename_i k hk;split at g;.rename_i H;exact aD4 hop ht hn a h (q x tx (by simp[aQ]) hx) (q i ti (by simp[aQ]) hi) hk H g
    .simp at g
   .simp at g
  .simp[aO]at g
 |indexS t x i tx ti ht hx hi =>
  refine⟨rfl,?_⟩;rcases g with g|g
  .simp only[aU]at g;split at g
   .rename_i s k hs hk;split at g;.rename_i h0;simp only[G_]at g;obtain⟨b,H,rfl⟩:=g;have Y:=q x tx (by simp[aQ]) hx;rw[hs]at Y;exact aQy hop ht a h Y (q i ti (by simp[aQ]) hi) hk h0 H
    .simp at g
   .simp at g
  .simp[aO]at g
 |indexA t el x i len n ag tx ti ht hn hag hx hi =>
  refine⟨rfl,?_⟩;rcases g with g|g
  .simp only[aU]at g;split at g
   .rename_i k hk;split at g
    .rename_i H;split at g
     .rename_i all hall;split at g;.rename_i cs C;exact aQz hop ht hn hag a h (q x tx (by simp[aQ]) hx) (q i ti (by simp[aQ]) hi) hk H hall C g
      .simp at g
     .simp at g
    .simp at g
   .simp at g
  .simp[aO]at g
 |lookup t kt el m k ok kk zi tm tk ht hkk hz F hk =>
  refine⟨rfl,?_⟩;rcases g with g|g;.simp[aU]at g
  .simp only[aO]at g;split at g
   .rename_i ki hki;split at g;.simp at g
    .rename_i hko;have G:=q m tm (by simp[aQ]) F;have T:=q k tk (by simp[aQ]) hk;have R:∀ {N:Option (Nat×TV)},rG kk S (ev tm) ki=some N->(ev tm=.iv .nilm/\N=none)\/∃j es clock,ev tm=.map j/\S[j]?=some (.mp es clock)/\findKey kk ki es 0=some N:=by
      intro N D;unfold rG at D;split at D;.rename_i e;simp at D;exact .inl ⟨e,D.symm⟩
      .rename_i j e;split at D;.rename_i es clock hs;exact .inr ⟨j,es,clock,e,hs,D⟩
       .simp at D
      .simp at D
     split at g;.rename_i n x D;exact aEh hop ht hkk hz a h G T hki (by simpa using hko) (R D) (by simpa using g.symm) rfl
     .rename_i D;exact aEh hop ht hkk hz a h G T hki (by simpa using hko) (R D) (by simpa using g.symm) rfl
     .simp at g
   .simp at g
 |update t kt el m k v kk tm tk tv ht hkk F hk hv'=>simp[aU,aO]at g
 |entry t kt el m k kk zi tm tk ht hkk hz F hk=>simp[aU,aO]at g
 |entryStore t m s v tm ts tv F hs hv'=>simp[aU,aO]at g
 |rangeS t x tx ht hx=>simp[aU,aO]at g
 |rangeM t kt el x tx ht hx=>simp[aU,aO]at g
 |nextS x tx hx=>simp[aU,aO]at g
 |nextM x tx hx=>simp[aU,aO]at g
 |entryM x tx hx =>
  refine⟨rfl,?_⟩;rcases g with g|g;.simp[aU]at g
  .simp only[aO]at g;split at g
   .rename_i j hj;have G:=q x tx (by simp[aQ]) hx;rw[hj]at G;split at g
    .rename_i m since seen last hs;split at g
     .rename_i es clock stamp F hst;split at g;.simp at g
      .rename_i hcl;split at g;.rename_i y hf;simp at g;subst g;exact aQ7 hop a h G hs F hst (by simpa using hcl) hf rfl
       .simp at g
     .simp at g
    .simp at g
   .simp at g
 |extract x tx i hx =>
  refine⟨rfl,?_⟩;rcases g with g|g
  .simp only[aU]at g;split at g;.rename_i vs hvs;have G:=q x tx (by simp[aQ]) hx;rw[hvs]at G;exact aMx hop a h G g
   .simp at g
  .simp[aO]at g
 |builtin mu c b top Q H=>exact bM2 hop Q H a h q g
 |call pure trunc c f fn args Q hfn H hng ha=>simp[aU,aO]at g
 |prim c f args Q ha=>simp[aU,aO]at g
 |callv c x tx args Q hx ha=>simp[aU,aO]at g
theorem yN{mu:Bool}{b:Builtin}{ts:List TypeId}{xs:List Operand}{top:TOp}(h:fV P A mu dsts b ts xs=some top)(ev:aH->TV)(n:Nat):bP top ev n=none:=by
 unfold fV at h;repeat' split at h
 all_goals first
  |(simp at h;done)
  |(simp at h;subst h;simp[bP];done)
  |(simp only[G_]at h;obtain⟨q,_,rfl⟩:=h;simp[bP];done)
theorem aM9{o:Oper}{t:TypeId}{x y:Operand}(A:o.op=.makeSlice t x y){el:TypeId}(V:P.underlying t=some (.slice el)){z:Tq_}(N:eT P el=some z){bytes:Nat}(d:bytesOf? P el=some bytes) (a:Act) (h:MS P O K M J L S env w) {j e2:TV} (T:VR M J L j (a.eval x)) (h2:VR M J L e2 (a.eval y)) {l c:Int} (hl:eX j=some l) (D:eX e2=some c) (W:0<=l) (q:l<=c) (Q:dY c.toNat bytes=true): ∃I U loc,aQ8 P O M J w ((execOp a.eval o).run P w) (fun m=>.msl m 0 0 l.toNat c.toNat z.length) (.cells 0 false (bE (List.replicate c.toNat (z.map .iv)))) I U loc:=by
 obtain⟨i,C,E,n,b,p,Z,r⟩:=iD N;obtain⟨kl,s⟩:=kW hl T;obtain⟨G,v⟩:=kW D h2;obtain⟨F,r2,r3⟩:=aEb Q;have H:i.bytes=bytes:=by unfold bytesOf? at d;rw[E]at d;simpa using d
 have u:(i.bytes:Int)*c<=281474976710656:=by rw[H];have j:(c.toNat:Int)=c:=A_;have Y:((c.toNat*bytes:Nat):Int)<=((35184372088832:Nat):Int):=Int.ofNat_le.2 F;rw[Int.natCast_mul,j,Int.mul_comm]at Y;omega
 have e:=run_make (P:=P) w t el i C V E n kl G l c W q u A_;have f:=size_madeCells C.cells (c.toNat*i.size);have g:(bE (List.replicate c.toNat (z.map TV.iv))).length=c.toNat*z.length:=by rw[dD (es:=z.length) (fun c D=>by rw[J8 D];simp)];simp
 refine yM h.wr (cs:=madeCells C.cells (c.toNat*i.size)) el (by rw[g,f,b];exact L_ _) (fun k x R=>?_) A_ (by rw[f,b];exact L_ _) ?_;.obtain⟨p1,y,p2,rfl⟩:=kX R;exact⟨_,aGc (by rw[b];exact p1),.iv _ (aKc p (r M) p2)⟩
 .simp[execOp,A,s,v,e]
theorem aVv{o:Oper}{top:TOp}(e:bX P O A dsts slot o.op top)(a:Act)(h:MS P O K M J L S env w){ev:aH->TV}(j:aKh A dsts M J L ev a top){n:Nat}{v:TV}{b:aG} (d:bP top ev n=some (v,b)):aP top=none/\∃E:Nat->TV,(∀m,bP top ev m=some (E m,b))/\∃G R l,aQ8 P O M J w ((execOp a.eval o).run P w) E b G R l:=by
 generalize hop:o.op=op at e;cases e with
 |allocH t z hz =>simp only[bP,R_,B4]at d;obtain⟨rfl,rfl⟩:=d;obtain⟨i,Y,_,_,_,s,Q,I⟩:=iD hz;exact⟨rfl,fun m=>.ptr m (t+1) 0,fun m=>rfl,aEl h.wr t (t+1) (fun _=>rfl) (aD9 s I) (aHj hop Q a)⟩
 |boxH t x tx hx =>
  simp only[bP]at d;split at d;.simp at d
  .rename_i f;simp only[R_,B4]at d;obtain⟨rfl,rfl⟩:=d;exact⟨rfl,fun m=>.ptr m (t+1) 0,fun m=>by simp[bP,f],aEl h.wr t (t+1) (fun _=>rfl) (tH (j x tx (by simp[aQ]) hx) (by simpa using f)) (aVr hop a)⟩
 |lit mu t el len ps z tps ht hz hz0 hbig hps =>
  simp only[bP]at d;split at d
  .rename_i es hes;simp only[R_,B4]at d;obtain⟨rfl,rfl⟩:=d;obtain⟨r,W⟩:=wW hps;obtain⟨cells,N,F,Z,s⟩:=aVt (P:=P) (w:=w) (M:=M) (J:=J) (L:=L) hop ht hz hz0 hbig (ev:=ev) (tps:=tps) a (by simpa using r) (fun k p u D H=>by obtain⟨q,e2⟩:=W k p u D (by simpa using H);exact⟨e2,j u.2 p.2 (by simp only[aQ,r_];exact⟨p,B9 D,rfl⟩) q⟩) hes;have T:cells.size=es.length*z.length:=by have:=F.1;rw[dD N]at this;simpa using this
   obtain⟨q,e2⟩:=F.ex;exact⟨rfl,fun m=>.msl m 0 0 es.length es.length z.length,fun m=>by simp[bP,hes],yM h.wr el q e2 (L_ _) A_ s⟩
  .simp at d
 |mkMap t kt el ht =>simp only[bP,R_,B4]at d;obtain⟨rfl,rfl⟩:=d;exact⟨rfl,fun m=>.map m,fun m=>rfl,bM1 hop a⟩
 |mkSlice t el x y tx ty z bytes ht hz hby hx hy =>
  simp only[bP]at d;split at d
  .rename_i l c hl e;split at d;.rename_i hcond;obtain⟨C,g,f⟩:=hcond;simp only[R_,B4]at d;obtain⟨rfl,rfl⟩:=d;obtain⟨V,U⟩:=aM9 hop ht hz hby a h (j x tx (by simp[aQ]) hx) (j y ty (by simp[aQ]) hy) hl e C g f;exact⟨rfl,fun m=>.msl m 0 0 l.toNat c.toNat z.length,fun m=>by simp[bP,hl,e,C,g,f],V,U⟩
   .simp at d
  .simp at d
 |builtin mu c b top e hb=>rw[yN hb]at d;simp at d
 |_=>simp[bP]at d
theorem nW:VR M J L undef (.tuple #[]):=.tup _ [] #[] rfl (fun i x v a=>by simp at a)
theorem bVh{o:Oper}{c:Call}{b:Builtin}{mu:Bool}{top:TOp}(V:o.op=.call c)(hc:c.callee=.builtin b)(h:fV P A mu dsts b c.argTypes.toList c.args.toList=some top)(a:Act)(Q:MS P O K M J L S env w){ev:aH->TV} (D:aKh A dsts M J L ev a top) {rs:Tn_} {v:TV} (f:gM top ev rs env S=some (v,env',S')):cJ P O K top M J L S env w (execOp a.eval o) v env' S':=by
 obtain⟨ty,E,T⟩:=aBd V hc a;rw[T];unfold fV at h;split at h
 .rename_i t u r s x hts has;have G:=bFm has a;have F:=rN hts;have t1:=bSu hts;split at h
  .rename_i e k ht hu;split at h
   .rename_i z bytes ts' tx' hz hby hs hx;split at h;.simp at h
    .rename_i hne;rw[G6]at hne;simp at h;subst h;simp only[gM]at f;split at f
     .rename_i n hn;split at f;.rename_i r' S2 hg;simp only[R_,B4]at f;obtain⟨rfl,rfl,rfl⟩:=f;obtain⟨k',U⟩:=kW hn (D x tx' (by simp[aQ]) hx);obtain⟨p,w',M',J',l,C,H,N⟩:=bMy (ty:=ty) (k':=k') Q F t1 ht hu hz hne.1 hby hne.2 (D s ts' (by simp[aQ]) hs) hg;refine .mk0 rfl (r:=.value p) ?_ (.inl ⟨p,rfl,C⟩) H N (.refl _);rw[<-U]at l;simp[Go.builtin,G,l]
      .simp at f
     .simp at f
   .simp at h
  .rename_i e e2 ht hu;split at h
   .rename_i z bytes ts' tx' hz hby hs hx;split at h;.simp at h
    .rename_i hne;rw[G6]at hne;simp at h;subst h;simp only[gM]at f;split at f;.rename_i r' S2 hg;simp only[R_,B4]at f;obtain⟨rfl,rfl,rfl⟩:=f;obtain⟨p,w',M',J',l,C,H,N⟩:=aHk (ty:=ty) Q F t1 ht (.inl ⟨e2,hu⟩) hz hne.1 hby hne.2 (D s ts' (by simp[aQ]) hs) (D x tx' (by simp[aQ]) hx) hg;refine .mk0 rfl (r:=.value p) ?_ (.inl ⟨p,rfl,C⟩) H N (.refl _);simp[Go.builtin,G,l]
     .simp at f
   .simp at h
  .rename_i e ht hu;split at h
   .rename_i z bytes ts' tx' hz hby hs hx;split at h;.simp at h
    .rename_i hne;rw[G6]at hne;simp at h;subst h;simp only[gM]at f;split at f;.rename_i r' S2 hg;simp only[R_,B4]at f;obtain⟨rfl,rfl,rfl⟩:=f;obtain⟨p,w',M',J',l,C,H,N⟩:=aHk (ty:=ty) Q F t1 ht (.inr hu) hz hne.1 hby hne.2 (D s ts' (by simp[aQ]) hs) (D x tx' (by simp[aQ]) hx) hg;refine .mk0 rfl (r:=.value p) ?_ (.inl ⟨p,rfl,C⟩) H N (.refl _);simp[Go.builtin,G,l]
     .simp at f
   .simp at h
  .simp at h
 .rename_i t r d s hts has;have G:=bFm has a;have F:=rN hts;split at h
  .rename_i e ht;split at h
   .rename_i n td ts' hn hd hs;split at h;.simp at h
    .simp at h;subst h;simp only[gM]at f;split at f;.rename_i r' S2 hg;simp only[R_,B4]at f;obtain⟨rfl,rfl,rfl⟩:=f;obtain⟨p,w',l,C,H,N⟩:=bMz (ty:=ty) Q F ht hn (D d td (by simp[aQ]) hd) (D s ts' (by simp[aQ]) hs) hg;refine .mk0 rfl (r:=.value p) ?_ (.inl ⟨p,rfl,C⟩) H N (.refl _);simp[Go.builtin,G,l]
     .simp at f
   .simp at h
  .simp at h
 .rename_i t r x hts has;have G:=bFn has a;have F:=rN hts;split at h
  .rename_i e ht;split at h
   .rename_i z tx' hz hx;split at h;.simp at h
    .simp at h;subst h;simp only[gM]at f;split at f;.rename_i S2 hg;simp only[R_,B4]at f;obtain⟨rfl,rfl,rfl⟩:=f;obtain⟨w',l,C,H⟩:=bFf (ty:=ty) Q F ht hz (D x tx' (by simp[aQ]) hx) hg;refine .mk0 rfl (r:=.value (.tuple #[])) ?_ (.inl ⟨_,rfl,nW⟩) C H (.refl _);simp[Go.builtin,G,l]
     .simp at f
   .simp at h
  .simp at h
 .split at h;.simp only[G_]at h;obtain⟨q,_,rfl⟩:=h;simp[gM]at f
  .simp at h
 .repeat' split at h
  all_goals first
   |(simp at h;done)
   |(simp at h;subst h;simp[gM]at f;done)
   |(simp only[G_]at h;obtain⟨q,_,rfl⟩:=h;simp[gM]at f;done)
 .rename_i t r m k hts has;have G:=bFm has a;have F:=rN hts;split at h
  .rename_i kt el ht;split at h
   .rename_i kk tm tk hkk hm hk;simp at h;subst h;have l:=D m tm (by simp[aQ]) hm;have C:=D k tk (by simp[aQ]) hk;have fin:∀ {S2:aA} {R:IV},lK (ev tk)=some R->gW kk R=true->v=undef->env'=env->S'=S2->((ev tm=.iv .nilm/\S2=S)\/∃j es clock res,ev tm=.map j/\S[j]?=some (.mp es clock)/\findKey kk R es 0=some res/\S2=(match res with|some (n,_)=>S.set j (.mp (es.eraseIdx n) clock)|none=>S)) ->
      cJ P O K (.delete kk tm tk) M J L S env w (Go.builtin .delete c.argTypes ty E (c.args.map a.eval)) v env' S':=by
     intro S2 R g i I e2 e3 W
     subst I;subst e2;subst e3
     obtain⟨w',Z,Y,q3⟩:=aX8 (ty:=ty) F ht hkk Q l C g i W
     refine .mk0 rfl (r:=.value (.tuple #[])) ?_ (.inl ⟨_,rfl,nW⟩) Y q3 (.refl _)
     simp[Go.builtin,G,Z]
    simp only[gM]at f;split at f
    .rename_i R g hnil;split at f;.rename_i i;simp only[R_,B4]at f;obtain⟨I,e2,e3⟩:=f;exact fin g i I.symm e2.symm e3.symm (.inl ⟨hnil,rfl⟩)
     .simp at f
    .rename_i R j g hj;split at f;.simp at f
     .rename_i i;split at f
      .rename_i es clock hs;split at f;.rename_i n y hf;simp only[R_,B4]at f;obtain⟨I,e2,e3⟩:=f;exact fin g (by simpa using i) I.symm e2.symm e3.symm (.inr ⟨j,es,clock,_,hj,hs,hf,rfl⟩)
       .rename_i hf;simp only[R_,B4]at f;obtain⟨I,e2,e3⟩:=f;exact fin g (by simpa using i) I.symm e2.symm e3.symm (.inr ⟨j,es,clock,_,hj,hs,hf,rfl⟩)
       .simp at f
      .simp at f
    .simp at f
   .simp at h
  .simp at h
 .simp only[G_]at h;obtain⟨q,_,rfl⟩:=h;simp[gM]at f
 .simp only[G_]at h;obtain⟨q,_,rfl⟩:=h;simp[gM]at f
 .simp at h
theorem bSv{o:Oper}{top:TOp}(p:bX P O A dsts slot o.op top)(a:Act)(h:MS P O K M J L S env w){ev:aH->TV}(f:aKh A dsts M J L ev a top){rs:Tn_}{v:TV} (d:gM top ev rs env S=some (v,env',S')):cJ P O K top M J L S env w (execOp a.eval o) v env' S':=by
 generalize hop:o.op=op at p;cases p with
 |allocL t z j hz hj =>
  simp only[gM]at d;split at d;.simp at d
  .rename_i hcond;simp only[R_,B4]at d;obtain⟨rfl,rfl,rfl⟩:=d;obtain⟨i,F,_,_,_,D,E,C⟩:=iD hz;have g:j<env.length:=by simp at hcond;exact hcond.2
   exact aEa h t (aD9 D C) g rfl (aHj hop E a)
 |boxL t x tx j hx hj =>
  simp only[gM]at d;split at d;.simp at d
  .rename_i hcond;simp only[R_,B4]at d;obtain⟨rfl,rfl,rfl⟩:=d;simp only[D3,G6]at hcond;have g:j<env.length:=by simpa using hcond.2
   exact aEa h t (tH (f x tx (by simp[aQ]) hx) (by simpa using hcond.1.1)) g rfl (aVr hop a)
 |store t x y tx ty n hn hx hy =>
  simp only[gM]at d;split at d
  .rename_i hl;split at d;.rename_i env2 S2 hs;simp only[R_,B4]at d;obtain⟨rfl,rfl,rfl⟩:=d;exact aX6 hop hn a h (f x tx (by simp[aQ]) hx) (f y ty (by simp[aQ]) hy) hl hs rfl
   .simp at d
  .simp at d
 |update t kt el m k v' kk tm tk tv ht hkk hm hk hv' =>
  have l:=f k tk (by simp[aQ]) hk;have q:=f v' tv (by simp[aQ]) hv';have e:=f m tm (by simp[aQ]) hm;simp only[gM]at d;split at d
  .rename_i ki j hki hj;rw[hj]at e;split at d;.simp at d
   .rename_i hko;split at d
    .rename_i es clock hs;split at d;.simp at d
     .rename_i hlp;split at d
      .rename_i n y hf;split at d;.simp at d
       .rename_i hsame;simp only[R_,B4]at d;obtain⟨rfl,rfl,rfl⟩:=d;exact aEi (.inl hop) ht hkk a h e l q (by simpa using hlp) hki (by simpa using hko) hs hf ⟨by simpa using hsame,rfl⟩ rfl
      .rename_i hf;simp only[R_,B4]at d;obtain⟨rfl,rfl,rfl⟩:=d;exact aEi (.inl hop) ht hkk a h e l q (by simpa using hlp) hki (by simpa using hko) hs hf rfl rfl
      .simp at d
    .simp at d
  .simp at d
 |entry t kt el m k kk zi tm tk ht hkk hz hm hk =>
  have l:=f k tk (by simp[aQ]) hk;have e:=f m tm (by simp[aQ]) hm;simp only[gM]at d;split at d
  .rename_i ki j hki hj;rw[hj]at e;split at d;.simp at d
   .rename_i hko;split at d
    .rename_i es clock hs;split at d
     .rename_i n y hf;split at d;.simp at d
      .rename_i hsame;simp only[R_,B4]at d;obtain⟨rfl,rfl,rfl⟩:=d;exact aHp hop ht hkk hz a h e l hki (by simpa using hko) hs hf ⟨by simpa using hsame,rfl,rfl⟩ rfl
     .rename_i hf;simp only[R_,B4]at d;obtain⟨rfl,rfl,rfl⟩:=d;exact aHp hop ht hkk hz a h e l hki (by simpa using hko) hs hf ⟨rfl,rfl⟩ rfl
     .simp at d
    .simp at d
  .simp at d
 |entryStore t m s v' tm ts tv hm hs hv' =>
  have e:=f m tm (by simp[aQ]) hm;have l:=f s ts (by simp[aQ]) hs;have q:=f v' tv (by simp[aQ]) hv';simp only[gM]at d;split at d
  .rename_i j born hj hborn;rw[hj]at e;split at d
   .rename_i es clock hs;split at d;.simp at d
    .rename_i hlp;split at d;.rename_i n hn;simp only[R_,B4]at d;obtain⟨rfl,rfl,rfl⟩:=d;exact aEj hop a h e l q (by simpa using hlp) hborn hs hn rfl
     .simp at d
   .simp at d
  .simp at d
 |rangeS t x tx ht hx =>
  have e:=f x tx (by simp[aQ]) hx;simp only[gM]at d;split at d;.rename_i s _ hs;rw[hs]at e;simp only[R_,B4]at d;obtain⟨rfl,rfl,rfl⟩:=d;exact aQ4 hop ht a h e rfl
  .contradiction
  .contradiction
  .simp at d
 |rangeM t kt el x tx ht hx =>
  have e:=f x tx (by simp[aQ]) hx;simp only[gM]at d;split at d;.contradiction
  .rename_i _ hs;rw[hs]at e;simp only[R_,B4]at d;obtain⟨rfl,rfl,rfl⟩:=d;exact aQ5 hop ht a h e rfl
  .rename_i j _ hs;rw[hs]at e;split at d;.rename_i es clock hss;simp only[R_,B4]at d;obtain⟨rfl,rfl,rfl⟩:=d;exact aQ6 hop ht a h e hss rfl
   .simp at d
  .simp at d
 |nextS x tx hx =>
  have e:=f x tx (by simp[aQ]) hx;simp only[gM]at d;split at d
  .rename_i j hj;rw[hj]at e;split at d
   .rename_i s pos hs;obtain⟨u,r⟩:=aX9 (top:=.nextS tx) hop a h e hs rfl;split at d;.rename_i hlt;simp only[R_,B4]at d;obtain⟨rfl,rfl,rfl⟩:=d;exact u hlt
    .rename_i hlt;simp only[R_,B4]at d;obtain⟨rfl,rfl,rfl⟩:=d;exact r hlt
   .simp at d
  .simp at d
 |builtin mu c b top p hb=>exact bVh hop p hb a h f d
 |_=>simp[gM]at d
end
end Go.TM
namespace Go.TM
open Go
def Out.All{α:Type}(Q:α->Prop):Out α->Prop
 |.ret a=>Q a
 |.fail _=>False
 |.pick n k=>∀i,i<n->(k i).All Q
theorem Out.all_bind{α c:Type}{Q:c->Prop}{f:α->Out c}:∀ {x:Out α},(x.bind f).All Q↔x.All (fun a=>(f a).All Q)
 |.ret _=>Iff.rfl
 |.fail _=>Iff.rfl
 |.pick _ k=>⟨fun h i b=>(Out.all_bind (x:=k i)).1 (h i b),fun h i b=>(Out.all_bind (x:=k i)).2 (h i b)⟩
theorem Out.all_mono{α:Type}{Q Q':α->Prop}(h:∀a,Q a->Q' a):∀ {x:Out α},x.All Q->x.All Q'
 |.ret _,hx=>h _ hx
 |.fail _,hx=>hx.elim
 |.pick _ _,hx=>fun i b=>Out.all_mono h (hx i b)
theorem Out.all_ofOpt{α:Type}{Q:α->Prop}{s:String}{x:Option α}(h:(Out.ofOpt s x).All Q):∃a,x=some a/\Q a:=by
 cases x with
 |none=>exact h.elim
 |some a=>exact⟨a,rfl,h⟩
section
variable (P:Program)(O:dE)(K:TM.bD)
structure cW (F:Fence):Prop where
 fn:∀f,F.fn f
 depth:F.depth=none
 alive:F.alive=false
theorem cW.wide:cW Fence.wide:=⟨fun _=>trivial,rfl,rfl⟩
def gN(M:Mem)(J:aF)(S:aA)(w:World)(Q:TV×aA->Prop):Ending->World->Prop
 |.returned v',w'=>∃v S' M' J',Q (v,S')/\VR M' J' [] v v'/\WR P O M' J' S' w'/\Tr (fun _=>False) M J S w M' J' S' w'
 |_,_=>False
def rO(M:Mem):Prop:=∀g cs,K.glob g=some cs->IR M (.cp cs) (.pointer (some ⟨g,0,none⟩))
def aKj(f:Nat)(call:List TV->aA->Out (TV×aA)):Prop :=
 ∀(F:Fence),cW F->∀(n:Nat) (args:List TV) (S:aA) (Q:TV×aA->Prop),(call args S).All Q->∀(M:Mem) (J:aF) (w:World) (vals:List Value),VRs M J [] args vals->WR P O M J S w->rO K M ->
  CallsIn F n P f vals.toArray w (gN P O M J S w Q)
def bQf(i:Nat)(yld:List TV->aA->Out (TV×aA)):Prop :=
 ∀(F:Fence),cW F->∀(n:Nat) (args:List TV) (S:aA) (Q:TV×aA->Prop),(yld args S).All Q->∀(M:Mem) (J:aF) (w:World) (vals:List Value),VRs M J [] args vals->WR P O M J S w->rO K M ->
  ∀l,J.at i l->∃r:Loop,w.heap[l.cb]?=some (.loop r)/\vals.length=r.params.size /\
   RoundIn F n P l.cb r.fn ((r.params.zip vals.toArray).foldl (fun tmps (t,a)=>tmps.setIfInBounds t a) r.tmps) r.assign r.body w (gN P O M J S w Q)
end
section
variable {P:Program}{O:dE}{K:TM.bD}
variable {M:Mem}{J:aF}{L:List (Option Nat)}{S S':aA}{env env':Env}{w:World}
def Mem.tell(M:Mem)(Z:Nat->Prop)[DecidablePred Z](w:World):Mem:=fun b o=>if Z b then w.cell? ⟨b,o,none⟩else M b o
theorem Mem.le_tell{Z:Tm_}[DecidablePred Z](h:∀b o v,M b o=some v->w.cell? ⟨b,o,none⟩=some v):MLe M (M.tell Z w):=by
 intro b o v a;unfold Mem.tell;split;.exact h b o v a
 .exact a
theorem Mem.tell_cell{Z:Tm_}[DecidablePred Z](h:∀b o v,M b o=some v->w.cell? ⟨b,o,none⟩=some v):∀b o v,M.tell Z w b o=some v->w.cell? ⟨b,o,none⟩=some v:=by
 intro b o v a;unfold Mem.tell at a;split at a;.exact a
 .exact h b o v a
def pI:TV->List Nat
 |.msl i _ _ _ _ _=>[i]
 |_=>[]
def kD:TV->List Nat
 |.agg cs=>cs.flatMap pI
 |v=>pI v
theorem aVw{Z:Tm_}[DecidablePred Z](h:WR P O M J S w){x:TV}{v:Value}(r:VR M J L x v){a:IV}(d:aDy S x=some a)(t:∀i∈pI x,∀l,J.at i l->Z l.cb):IR (M.tell Z w) a v:=by
 have m:MLe M (M.tell Z w):=Mem.le_tell h.imm;have D:MS P O (⟨fun _=>none,fun _=>none,fun _=>none⟩:TM.bD) M J [] S [] w:=⟨h,⟨rfl,fun j cs e=>by simp at e,fun j k cs y cb e=>by simp at e⟩,fun g cs F=>by simp at F⟩
 unfold aDy at d;split at d;.rename_i a0;simp at d;subst d;exact r.iv_inv.mono m
 .rename_i i es;simp at d;subst d;cases r with
  |tsl L i es l b o c e hl p ha d=>exact d.mono m
 .rename_i i ver off len cap es;split at d
  .rename_i l hl;simp at d;subst d;have p:VR M J [] (.msl i ver off len cap es) v:=r.frame rfl;cases r with
   |msl L i ver off len cap es loc b o c e hver ha hlen hlc =>
    have C:=t i (by simp[pI]) loc e;have f:=hl;rcases aA7 D p hl with⟨N,q,e9⟩|⟨I,o',c',es',q,e2,e3,E⟩;.simp only[Value.slice.injEq]at q;obtain⟨rfl,rfl,rfl⟩:=q;subst e9;exact .slE _ _ B_
    .simp only[Value.slice.injEq,R_,Addr.mk.injEq]at q;obtain⟨⟨rfl,rfl,_⟩,rfl,rfl⟩:=q;have s:b=loc.cb:=by
      simp only[cH]at f;split at f
      .rename_i v' lo cs hs;split at f;.simp at f
       .rename_i hvv;have n:=h.blk i loc _ e hs;cases n with
        |cells=>exact(ha A_).1
      .rename_i v' cs hs;split at f;.simp at f
       .rename_i hvv;have n:=h.blk i loc _ e hs;cases n with
        |frz=>exact(ha A_).1
      .simp at f
     subst s;refine aM2 B_ e3 e2 (fun z=>by simp at z) (fun k a G=>?_);obtain⟨u,A,H⟩:=E k a G;exact⟨u,by unfold Mem.tell;rw[K_ C];exact A,H.mono m⟩
  .simp at d
 .simp at d
theorem aNa{Z:Tm_}[DecidablePred Z](h:WR P O M J S w):∀ {xs:Tn_} {vs:List Value} {l:Tq_},VRs M J L xs vs->xU S xs=some l->(∀x∈xs,∀i∈pI x,∀c,J.at i c->Z c.cb) ->l.length=vs.length/\∀(i:Nat) (a:IV) (v:Value),l[i]?=some a->vs[i]?=some v->IR (M.tell Z w) a v
 |[],vs,l,d,hr,_=>by rw[d.nil_inv];simp[xU]at hr;subst hr;exact⟨rfl,fun i a v h=>by simp at h⟩
 |x::xs,vs,l,d,hr,hz=>by
  obtain⟨u,us,rfl,j,k⟩:=d.cons_inv;simp only[xU]at hr;split at hr
  .rename_i a l' e1 e2;simp at hr;subst hr;obtain⟨e3,f⟩:=aNa h k e2 (fun y g=>hz y (by simp[g]));refine⟨by simp[e3],fun i b v e d=>?_⟩;cases i with
   |zero=>simp at e d;subst e;subst d;exact aVw h j e1 (hz x B_)
   |succ i=>exact f i b v (by simpa using e) (by simpa using d)
  .simp at hr
theorem aCn{Z:Tm_}[DecidablePred Z](h:WR P O M J S w){x:TV}{v:Value}(b:VR M J L x v){a:IV}(c:wO S x=some a)(g:∀i∈kD x,∀l,J.at i l->Z l.cb):IR (M.tell Z w) a v:=by
 unfold wO at c;split at c
 .rename_i cs;simp only[G_]at c;obtain⟨l,j,rfl⟩:=c;cases b with
  |agg L cs vs hs b =>have d:VRs M J [] cs vs.toList:=.ofAgg hs b;obtain⟨k,e2⟩:=aNa (Z:=Z) h d j (fun x e i f=>g i (G2.2 ⟨x,e,f⟩));exact .agg _ _ (by simpa using k.symm) (fun i x v e b=>e2 i x v e (by simpa using b))
 .rename_i hna;refine aVw h b c (fun i f=>g i ?_);cases x<;>first|exact f|exact absurd rfl (hna _)
theorem aNb{Z:Tm_}[DecidablePred Z](h:WR P O M J S w){x:TV}{v:Value}(e:VR M J L x v){a:TV}(c:iY S x=some a)(j:∀i∈kD x,∀l,J.at i l->Z l.cb):VR (M.tell Z w) [] [] a v:=by
 unfold iY at c;split at c
 .rename_i f fst cap;split at c
  .rename_i hc;simp at c;subst c;simp only[O_,C1]at hc;cases e with
   |fn L f fst cap fst' cap' h1 h2 hf hcp =>
    have key:∀ {x:TV} {v:Value},kQ x=true->VR M J [] x v->VR (M.tell Z w) [] [] x v:=by
     intro x v k d;cases x<;>simp[kQ]at k
     exact .iv _ (d.iv_inv.mono (Mem.le_tell h.imm))
    exact .fn _ f fst cap fst' cap' h1 h2 (fun i x v d e=>key (hc.1 x (B9 d)) (hf i x v d e)) (fun i x v d e=>key (hc.2 x (B9 d)) (hcp i x v d e))
  .simp at c
 .simp only[G_]at c;obtain⟨b,g,rfl⟩:=c;exact .iv _ (aCn h e g j)
theorem pJ{Z:Tm_}[DecidablePred Z](h:WR P O M J S w):∀ {xs:Tn_} {vs:List Value} {b:Tn_},VRs M J L xs vs->cG S xs=some b->(∀x∈xs,∀i∈kD x,∀c,J.at i c->Z c.cb) ->VRs (M.tell Z w) [] [] b vs
 |[],vs,b,hv,hr,_=>by rw[hv.nil_inv];simp[cG]at hr;subst hr;exact .nil
 |x::xs,vs,b,hv,hr,hz=>by
  obtain⟨u,us,rfl,e,f⟩:=hv.cons_inv;simp only[cG]at hr;split at hr;.rename_i a l' e1 e2;simp at hr;subst hr;exact .cons (aNb h e e1 (hz x B_)) (pJ h f e2 (fun y d=>hz y (by simp[d])))
  .simp at hr
theorem WR.empty{M:Mem}{w:World}(h:∀b o v,M b o=some v->w.cell? ⟨b,o,none⟩=some v):WR P O M [] [] w :=
 ⟨rfl,h,fun i l s a=>by simp[aF.at]at a,fun i k l l' a=>by simp[aF.at]at a,fun i l a=>by simp[aF.at]at a⟩
theorem aHs{Z:Tm_}[DecidablePred Z](h:WR P O M J S w)(c:∀i l,J.at i l->Z l.cb):∀ {xs:Tn_} {vs:List Value} {b:Tn_},VRs M J L xs vs->vQ S xs=some b->VRs (M.tell Z w) [] [] b vs
 |[],vs,b,hv,hr=>by rw[hv.nil_inv];simp[vQ]at hr;subst hr;exact .nil
 |x::xs,vs,b,hv,hr=>by
  obtain⟨u,us,rfl,e,f⟩:=hv.cons_inv;simp only[vQ]at hr;split at hr;.rename_i a l' e1 e2;simp at hr;subst hr;exact .cons (.iv _ (aCn h e e1 (fun i _ l d=>c i l d))) (aHs h c f e2)
  .simp at hr
theorem aEn{Z:Tm_}[DecidablePred Z](h:WR P O M J S w)(e:∀i l,J.at i l->Z l.cb){x r:TV}{v:Value}(c:VR M J [] x v)(a:resolve S x=some r):VR (M.tell Z w) [] [] r v:=by
 unfold resolve at a;split at a
 .rename_i vs;simp only[G_]at a;obtain⟨k,d,rfl⟩:=a;cases c with
  |tup L cs vs hs c =>have:=aHs h e (.ofAgg hs c) d;exact .tup _ _ _ (by simpa using this.1) (fun i x v g c=>this.2 i x v g (by simpa using c))
 .simp only[G_]at a;obtain⟨b,f,rfl⟩:=a;exact .iv _ (aCn h c f (fun i _ l j=>e i l j))
theorem IR.scalar{M M':Mem}{a:IV}{v:Value}(h:IR M a v)(c:iA a=true):IR M' a v:=by
 cases h with
 |bool b=>exact .bool b
 |int k n=>exact .int k n
 |str s=>exact .str s
 |nilp=>exact .nilp
 |nilm=>exact .nilm
 |nilf=>exact .nilf
 |nili=>exact .nili
 |slNil=>simp[iA]at c
 |slE t a ht=>simp[iA]at c
 |sl t l b off cap es vals ht hes hcap hfull hm hv=>simp[iA]at c
 |cp cs b off vals hm hv=>simp[iA]at c
 |agg cs vs hsz hv =>
  refine .agg cs vs hsz (fun i x u d f=>?_);have e:=hv i x u d f;simp only[iA,C1]at c;have g:=c x (B9 d);cases e with
  |bool b=>exact .bool b
  |int k n=>exact .int k n
  |str s=>exact .str s
  |_=>simp at g
theorem VR.scalar{M M':Mem}{J J':aF}{L L':Tk_}{x:TV}{v:Value}(h:VR M J L x v)(a:eY x=true):VR M' J' L' x v:=by
 cases h with
 |iv L h=>exact .iv _ (h.scalar (by simpa[eY] using a))
 |tup L cs vs hsz hv =>
  refine .tup _ cs vs hsz (fun i x u b d=>?_);simp only[eY,C1]at a;have c:=a x (B9 b);have e:=hv i x u b d;cases e with
  |iv L h=>exact .iv _ (h.scalar (by simpa using c))
  |_=>simp at c
 |_=>simp[eY]at a
end
end Go.TM
namespace Go.TM
open Go
section
variable {P:Program}{O:dE}{K:TM.bD}
variable {M:Mem}{J:aF}{L:List (Option Nat)}{S S':aA}{env env':Env}{w:World}
theorem aKk{S2:aA}{i:Nat}(h:mA S i=some S2):S2.length=S.length/\(∀k,k≠i->S2[k]?=S[k]?) /\∃v l,S2[i]?=some (.frz v l)/\((∃a cs,S[i]?=some (.cells v a cs)/\toIVs cs=some l)\/S[i]?=some (.frz v l)):=by
 unfold mA at h;split at h;.rename_i v a cs hs;simp only[G_]at h;obtain⟨l,b,rfl⟩:=h;exact⟨by simp,fun k c=>by rw[B3 A_],v,l,C6 (E_.1 hs).1,.inl ⟨a,cs,hs,b⟩⟩
 .rename_i v l hs;simp at h;subst h;exact⟨rfl,fun k _=>rfl,v,l,hs,.inr hs⟩
 .simp at h
def pK(S S2:aA)(is:List Nat):Prop :=
 S2.length=S.length/\∀k,(k∉is->S2[k]?=S[k]?)/\(k∈is->∃v l,S2[k]?=some (.frz v l)/\((∃lo cs,S[k]?=some (.cells v lo cs)/\toIVs cs=some l)\/S[k]?=some (.frz v l)))
theorem pK.nil:pK S S []:=⟨rfl,fun k=>⟨fun _=>rfl,fun h=>by simp at h⟩⟩
theorem pK.trans{S2 S3:aA}{c e:Tc_}(h:pK S S2 c)(k:pK S2 S3 e):pK S S3 (c++e):=by
 refine⟨k.1.trans h.1,fun m=>⟨fun a=>?_,fun a=>?_⟩⟩;.simp only[U_,G6]at a;exact((k.2 m).1 a.2).trans ((h.2 m).1 a.1)
 .by_cases hj:m∈e
  .obtain⟨v,l,i,f⟩:=(k.2 m).2 hj;refine⟨v,l,i,?_⟩;by_cases d:m∈c
   .obtain⟨v',l',g,j⟩:=(h.2 m).2 d;rcases f with⟨n,cs,b,_⟩|b;.rw[g]at b;simp at b
    .rw[g]at b;simp at b;obtain⟨rfl,rfl⟩:=b;exact j
   .rw[(h.2 m).1 d]at f;exact f
  .have d:m∈c:=by simp at a;rcases a with a|a;exact a;exact absurd a hj
   rw[(k.2 m).1 hj];exact(h.2 m).2 d
theorem tR{S2:aA}{i:Nat}(h:mA S i=some S2):pK S S2 [i]:=by obtain⟨c,b,d⟩:=aKk h;exact⟨c,fun k=>⟨fun a=>b k (by simpa using a),fun a=>by simp at a;subst a;exact d⟩⟩
theorem oJ:∀ {cs:Tn_} {S S2:aA},bW.freezeC S cs=some S2->pK S S2 (cs.flatMap pI)
 |[],S,S2,h=>by simp[bW.freezeC]at h;subst h;exact .nil
 |c::r,S,S2,h=>by
  cases c with
  |msl i ver off len cap es =>
   simp only[bW.freezeC]at h;split at h;.rename_i S1 h1;exact(tR h1).trans (oJ h)
   .simp at h
  |_=>simp only[bW.freezeC]at h;exact oJ (cs:=r) h
theorem jD:∀ {xs:Tn_} {S S2:aA},bW S xs=some S2->pK S S2 (xs.flatMap kD)
 |[],S,S2,h=>by simp[bW]at h;subst h;exact .nil
 |c::r,S,S2,h=>by
  cases c with
  |msl i ver off len cap es =>
   simp only[bW]at h;split at h;.rename_i S1 h1;exact(tR h1).trans (jD h)
   .simp at h
  |agg cs =>
   simp only[bW]at h;split at h;.rename_i S1 h1;exact(oJ h1).trans (jD h)
   .simp at h
  |_=>simp only[bW]at h;exact jD (xs:=r) h
theorem bM3{x:TV}{v:Value}(h:VR M J L x v){i:Nat}(a:i∈pI x):∃l,J.at i l:=by
 cases h<;>simp[pI]at a
 subst a;exact⟨_,by assumption⟩
theorem aVx{x:TV}{v:Value}(h:VR M J L x v){i:Nat}(a:i∈kD x):∃l,J.at i l:=by
 cases h with
 |agg L cs vs hs hv =>
  simp only[kD,G2]at a;obtain⟨c,f,a⟩:=a;obtain⟨k,e⟩:=H7 f;have d:k<vs.size:=by rw[hs];exact(E_.1 e).1
  exact bM3 (hv k c _ e (A4 d)) a
 |msl L i' ver off len cap es l b o c h =>simp[kD,pI]at a;subst a;exact⟨_,h⟩
 |_=>simp[kD,pI]at a
theorem bFp{xs:Tn_}{vs:List Value}(h:VRs M J L xs vs){i:Nat}(a:i∈xs.flatMap kD):∃l,J.at i l:=by
 simp only[G2]at a;obtain⟨c,e,a⟩:=a;obtain⟨k,d⟩:=H7 e;have b:k<vs.length:=by rw[h.1];exact(E_.1 d).1
 exact aVx (h.2 k c _ d (D_ b)) a
def aYd(J:aF)(is:List Nat)(b:Nat):Prop:=∃i∈is,∃l,J.at i l/\l.cb=b
theorem WR.freeze(h:WR P O M J S w){S2:aA}{d:Tc_}(n:pK S S2 d)[DecidablePred (aYd J d)]:WR P O (M.tell (aYd J d) w) J S2 w:=by
 have b:MLe M (M.tell (aYd J d) w):=Mem.le_tell h.imm;refine⟨h.len.trans n.1.symm,Mem.tell_cell h.imm,fun i l s j f=>?_,h.inj,h.lt⟩;by_cases hi:i∈d
 .obtain⟨v,g,p,q⟩:=(n.2 i).2 hi;rw[p]at f;simp at f;subst f;have y:aYd J d l.cb:=⟨i,hi,l,j,rfl⟩
  rcases q with⟨H,cs,r,D⟩|r
  .have c:=h.blk i l _ j r;cases c with
   |cells loose cs cs' e fz hlo hb hsz hfit hv hfz hm =>refine .frz g (fun k a t=>?_);obtain⟨x,G,z⟩:=(iO D).2 k a t;obtain⟨u,F,E⟩:=hv k x G;refine⟨u,?_,(qL z E).mono b⟩;unfold Mem.tell;rw[K_ y,dV hb];exact F
  .have c:=h.blk i l _ j r;cases c with
   |frz cs hv=>exact .frz g (fun k x A=>let ⟨u,p,q⟩:=hv k x A;⟨u,b _ _ _ p,q.mono b⟩)
 .rw[(n.2 i).1 hi]at f;refine(h.blk i l s j f).step rfl b (fun o=>?_) (.refl _);unfold Mem.tell;rw[I_];rintro⟨k,C,l',m,e⟩;exact hi (h.inj k i l' l m j e▸C)
end
section
variable {P:Program}{O:dE}{K:TM.bD}
variable {M:Mem}{J:aF}{L:List (Option Nat)}{S S':aA}{env env':Env}{w:World}
theorem zZ{w':World}{N M1' M2:Mem}{J1':aF}{S1' S2:aA}{Mx:Mem}(f:WR P O N J S2 w)(t:MLe M N)(m:∀b o,¬J.has b->N b o=M b o)(u:∀i:Nat,J[i]?=some none->S2[i]?=S[i]?) (g:Tr (fun _=>False) Mx [] [] w M1' J1' S1' w') (x:∀b o v,M2 b o=some v->w'.cell? ⟨b,o,none⟩=some v): let M':Mem:=fun b o=>if b<w.heap.size then N b o else M2 b o
  WR P O M' J S2 w'/\Tr (fun _=>False) M J S w M' J S2 w':=by
 intro M';have a:∀b,b<w.heap.size->w'.heap[b]?=w.heap[b]? := fun b c=>g.frame b c (by rintro⟨i,l,e,_⟩;simp[aF.at]at e) (fun h=>h);have j:MLe N M':=by intro b o v p;show(if b<w.heap.size then N b o else M2 b o)=some v;rw[K_ (f.mlt p)];exact p
 have d:∀b o,b<w.heap.size->M' b o=N b o:=fun b o c=>K_ c;refine⟨f.step f.len j (.refl _) (fun b o v k=>?_) (fun i l s e q=>.inr ⟨e,q,a _ (f.lt i l e),fun o=>d _ _ (f.lt i l e)⟩) f.inj (fun i l e=>E7 (f.lt i l e) g.size),?_⟩
 .by_cases c:b<w.heap.size;.rw[d b o c]at k;rw[dM (a b c)];exact f.imm b o v k
  .have:M' b o=M2 b o:=I_ c;rw[this]at k;exact x b o v k
 .exact⟨g.os,g.tape,g.output,g.size,t.trans j,fun b o c r=>(d b o c).trans (m b o r),.refl _,fun i l e=>.inr ⟨l,e,rfl⟩,fun i n=>⟨n,u i n⟩,fun b c _ _=>a b c⟩
open Classical in
theorem yO{E:Orc}{f:Nat}(hc:aKj P O K f (E.call f)){F:Fence}(Y:cW F)(n:Nat){args:Tn_}{Q:TV×aA->Prop}(h:(eZ E f args S).All Q){vals:List Value} (W:VRs M J L args vals) (s:WR P O M J S w) (hg:rO K M):CallsIn F n P f vals.toArray w (gN P O M J S w Q):=by
 unfold eZ at h;split at h;.exact h.elim
 rename_i as has;rw[Out.all_bind]at h;by_cases hms:args.any mI=true
 .have key:=hc F Y n as [] _ h (M.tell (aYd J (args.flatMap kD)) w) [] w vals (pJ s W has (fun x C i y l d=>⟨i,G2.2 ⟨x,C,y⟩,l,d,rfl⟩)) (.empty (Mem.tell_cell s.imm))
   (fun g cs V=>(hg g cs V).mono (Mem.le_tell s.imm))
  refine key.mono (fun e w' u=>?_);cases e with
  |returned v' =>
   obtain⟨v,S1',M1',J1',j,A,p,t⟩:=u;have m:∀b,b<w.heap.size->¬J1'.has b:=by
    rintro b k ⟨i,l,d,rfl⟩;rcases t.jnew i l d with D|⟨l0,D,_⟩;.omega
    .simp[aF.at]at D
   simp only at j;split at j;.exact j.elim
   rename_i v2 a;have a:=aEn (Z:=J1'.has) p (fun i l d=>⟨i,l,d,rfl⟩) A a;have r:∀b o v,M1'.tell J1'.has w' b o=some v->w'.cell? ⟨b,o,none⟩=some v:=Mem.tell_cell p.imm;split at j
   .rename_i hcnd;split at j
    .rename_i S2 hfz;have I:=jD hfz;obtain⟨H,G⟩:=zZ (M:=M) (S:=S) (J:=J) (M2:=M1'.tell J1'.has w') (s.freeze I) (Mem.le_tell s.imm) (fun b o k=>by unfold Mem.tell;rw[I_];rintro⟨i,_,l,d,e⟩;exact k ⟨i,l,d,e⟩) (fun i y=>(I.2 i).1 (fun q=>by obtain⟨l,d⟩:=bFp W q;unfold aF.at at d;rw[y]at d;simp at d)) t r;refine⟨v2,S2,_,J,j,?_,H,G⟩;refine a.mono (fun b o v q=>?_) ⟨by simp,fun i l d=>by simp[aF.at]at d⟩;split;.rename_i k;unfold Mem.tell at q;rw[I_ (m b k),t.mnew b o k (by rintro⟨i,l,d,_⟩;simp[aF.at]at d)]at q;exact q
     .exact q
    .exact j.elim
   .rename_i hcnd;have U:eY v2=true:=by simpa[hms] using hcnd
    obtain⟨H,G⟩:=zZ (M:=M) (S:=S) (J:=J) (N:=M) (M2:=M1'.tell J1'.has w') s (.refl _) (fun b o k=>rfl) (fun i y=>rfl) t r;exact⟨v2,S,_,J,j,a.scalar U,H,G⟩
  |panicked c=>exact u.elim
  |outgrown=>exact u.elim
 .have T:args.flatMap kD=[]:=by
   rw[W4];intro x C;have z:mI x=false:=by have:=q_.1 (by simpa using hms) x C;simpa using this
   cases x with
   |msl=>simp[mI]at z
   |agg cs =>simp only[mI]at z;simp only[kD,W4];intro c R;have:=q_.1 z c R;cases c<;>first|rfl|simp at this
   |_=>rfl
  have hZ:M.tell (fun _=>False) w=M:=by funext b o;simp[Mem.tell]
  have key:=hc F Y n as [] _ h M [] w vals (by have:=pJ (Z:=fun _=>False) s W has (fun x C i y l d=>by have:i∈args.flatMap kD:=G2.2 ⟨x,C,y⟩;rw[T]at this;simp at this);rwa [hZ]at this) (.empty s.imm) hg;refine key.mono (fun e w' u=>?_);cases e with
  |returned v' =>
   obtain⟨v,S1',M1',J1',j,A,p,t⟩:=u;have m:∀b,b<w.heap.size->¬J1'.has b:=by
    rintro b k ⟨i,l,d,rfl⟩;rcases t.jnew i l d with D|⟨l0,D,_⟩;.omega
    .simp[aF.at]at D
   simp only at j;split at j;.exact j.elim
   rename_i v2 a;have a:=aEn (Z:=J1'.has) p (fun i l d=>⟨i,l,d,rfl⟩) A a;have r:∀b o v,M1'.tell J1'.has w' b o=some v->w'.cell? ⟨b,o,none⟩=some v:=Mem.tell_cell p.imm;split at j;.rename_i hcnd;simp[hms]at hcnd
   .obtain⟨H,G⟩:=zZ (M:=M) (S:=S) (J:=J) (N:=M) (M2:=M1'.tell J1'.has w') s (.refl _) (fun b o k=>rfl) (fun i y=>rfl) t r;refine⟨v2,S,_,J,j,?_,H,G⟩;refine a.mono (fun b o v q=>?_) ⟨by simp,fun i l d=>by simp[aF.at]at d⟩;split;.rename_i k;unfold Mem.tell at q;rw[I_ (m b k),t.mnew b o k (by rintro⟨i,l,d,_⟩;simp[aF.at]at d)]at q;exact q
    .exact q
  |panicked c=>exact u.elim
  |outgrown=>exact u.elim
end
end Go.TM
namespace Go.TM
open Go
section
variable {P:Program}{O:dE}{K:TM.bD}
variable {M:Mem}{J:aF}{L:List (Option Nat)}{S S':aA}{env env':Env}{w:World}
open Classical in
theorem bM4{own:Tm_}{M':Mem}{J':aF}{S2:aA}{w':World}{v q:TV}{v':Value}(r:VR M' J' [] v v')(m:WR P O M' J' S' w')(c:Tr own M J S w M' J' S' w')(h:zT v S'=some (q,S2)): ∃M2,VR M2 J' [] q v'/\WR P O M2 J' S2 w'/\Tr own M J S w M2 J' S2 w':=by
 unfold zT at h;split at h
 .rename_i a S1 ha hf;simp at h;obtain⟨rfl,rfl⟩:=h;have f:=jD hf;have k:∀i∈[v].flatMap kD,∃l,J'.at i l:=fun i j=>aVx r (by simpa using j);refine⟨M'.tell (aYd J' ([v].flatMap kD)) w',.iv _ (aCn m r ha (fun i j l d=>⟨i,by simpa using j,l,d,rfl⟩)),m.freeze f,
   ⟨c.os,c.tape,c.output,c.size,c.mle.trans (Mem.le_tell m.imm),fun b o s p=>?_,c.jle,c.jnew,fun i j=>?_,c.frame⟩⟩
  .rw[<-c.mnew b o s p];unfold Mem.tell;rw[I_];rintro⟨i,_,l,d,e⟩;rcases c.jnew i l d with g|⟨u,g,n⟩;.omega
   .exact p ⟨i,u,g,n.trans e⟩
  .obtain⟨g,n⟩:=c.ph i j;refine⟨g,(((f.2 i).1 (fun t=>?_)).trans n)⟩;obtain⟨l,d⟩:=k i t;unfold aF.at at d;rw[g]at d;simp at d
 .simp at h
theorem aEo{g:Orc}{f:Nat}(u:aKj P O K f (g.call f)){F:Fence}(o:cW F)(n:Nat){l:Bool}{args:Tn_}{Q:TV×aA->Prop}(h:(jO g l f args S).All Q){vals:List Value} (t:VRs M J L args vals) (p:WR P O M J S w) (r:rO K M):CallsIn F n P f vals.toArray w (gN P O M J S w Q):=by
 unfold jO at h;split at h;.exact h.elim
 rename_i hlp;rw[Out.all_bind]at h;refine(u F o n args S _ h M J w vals (t.frame (by simpa using hlp)) p r).mono (fun e w' k=>?_);cases e with
 |returned v' =>
  obtain⟨v,S1,M',J',d,j,i,m⟩:=k;simp only at d;split at d
  .split at d;.rename_i q ht;obtain⟨s,S2⟩:=q;obtain⟨M2,a,b,c⟩:=bM4 j i m ht;exact⟨s,S2,M2,J',d,a,b,c⟩
   .exact d.elim
  .exact⟨v,S1,M',J',d,j,i,m⟩
 |panicked c=>exact k.elim
 |outgrown=>exact k.elim
end
end Go.TM
namespace Go.TM
open Go
section
variable {P:Program}{O:dE}{K:TM.bD}{A:Ann}{dsts:List (Option Nat)}{slot:Option Nat}
variable {M:Mem}{J:aF}{L:List (Option Nat)}{S S':aA}{env env':Env}{w:World}
def rP(P:Program)(O:dE)(K:TM.bD)(f:Nat)(p:aF9):Prop :=
 ∀(args:List TV) (S:aA) (v:TV) (S':aA),p args S=some (v,S')->∀(M:Mem) (J:aF) (w:World) (vals:List Value),VRs M J [] args vals->WR P O M J S w->rO K M ->
  (∃ fn, P.funcs[f]? = some fn ∧ fn.body.isSome = true ∧ fn.name ≠ "runtime.NumGoroutine" ∧ ∀ (F : Fence), cW F → ∀ n, CallsIn F n P f vals.toArray w (gN P O M J S w fun r => r = (v, S'))) ∨
  ∃v' w' M' J',(callFunc f vals.toArray).run P w=.ok (.value v') w'/\VR M' J' [] v v'/\WR P O M' J' S' w'/\Tr (fun _=>False) M J S w M' J' S' w'
structure bFq (P:Program) (O:dE) (K:TM.bD) (orc:Orc):Prop where
 call:∀f,aKj P O K f (orc.call f)
 yld:∀i,bQf P O K i (orc.yld i)
 prim:∀f p,K.prim f=some p->rP P O K f p
theorem bX.notDefer{op:Op}{top:TOp}(h:bX P O A dsts slot op top)(c:Call):op≠.defer c:=by cases h<;>simp
theorem aQ9{o:Oper}{top:TOp}(g:bX P O A dsts slot o.op top)(a:Act)(h:MS P O K M J L S env w){rs:Tn_}(f:aKh A dsts M J L (aX K env rs) a top){v:TV} (c:jN K top env rs S=some (v,env',S')):cJ P O K top M J L S env w (execOp a.eval o) v env' S':=by
 unfold jN iZ at c;split at c
 .rename_i v' hfl;simp only[R_,B4]at c;obtain⟨rfl,rfl,rfl⟩:=c;refine(bFo g a h f ?_).2;split at hfl;.rename_i v2 hp;simp at hfl;subst hfl;exact .inl hp
  .exact .inr hfl
 .split at c;.rename_i v' b hal;simp only[R_,B4]at c;obtain⟨rfl,rfl,rfl⟩:=c;obtain⟨d,j,e,k,m,l,i⟩:=aVv g a h f hal;have:=e S.length;rw[hal]at this;simp at this;rw[this];exact i.push h d
  .exact bSv g a h f c
def bFr(P:Program)(O:dE)(K:TM.bD)(top:TOp)(M:Mem)(J:aF)(L:List (Option Nat))(S:aA)(env:Env)(w:World)(Q:TV×Env×aA->Prop)(o:Oper)(a:Act)(next:Act->World->Prop):Prop :=
 ∀(v:TV) (env':Env) (S':aA) (M':Mem) (J':aF) (L':List (Option Nat)) (w':World) (v':Value),Q (v,env',S')->VR M' J' L' v v'->MS P O K M' J' L' S' env' w'->Tr (cR L) M J S w M' J' S' w'->EL w (aP top) env env' L L' ->
  next (a.put o.dst v') w'
theorem tS{F:Fence}(l:cW F)(n:Nat){o:Oper}{top:TOp}{a:Act}{v:TV}(g:∀c,o.op≠.defer c)(h:cJ P O K top M J L S env w (execOp a.eval o) v env' S'){Q:TV×Env×aA->Prop}(j:Q (v,env',S')) {next:Act->World->Prop} (k:bFr P O K top M J L S env w Q o a next) {X:Exit->Act->World->Prop}:o.wpIn F n P a w next X:=by
 obtain⟨M',J',L',w',r,e,m,b,i,d⟩:=h;unfold Oper.wpIn;refine⟨fun f _=>l.fn f,?_⟩;rw[Oper.semAt_eq _ _ _ g,e];rcases m with⟨v',rfl,p⟩|⟨rfl,rfl⟩;.exact k _ _ _ _ _ _ _ _ j p b i d
 .exact k _ _ _ _ _ _ _ _ j nW b i d
theorem nP {f : Nat} {fn : Func} (b : P.funcs[f]? = some fn) (d : fn.body.isSome = true) (a : fn.name ≠ "runtime.NumGoroutine") (vals : Array Value) (w : World) : (callFunc f vals).run P w = .ok (.enter f vals) w := by
 cases h:fn.body with
 |none=>simp[h]at d
 |some c=>simp[callFunc,b,a,h]
theorem aAa{o:Oper}{c:Call}{x:Operand}(d:o.op=.call c)(g:c.callee=.value x)(a:Act){f:FuncId}{b cap:Array Value}(e:a.eval x=.func (.func f) b cap): execOp a.eval o=callFunc f (b++c.args.map a.eval++cap):=by simp only[execOp,d,Go.resolve,g,e,Deferred.ofValue,invoke,pure_bind]
theorem gN.kont{top:TOp}(b:aP top=none)(h:MS P O K M J L S env w){Q:TV×Env×aA->Prop}{o:Oper}{a:Act}{next:Act->World->Prop}(k:bFr P O K top M J L S env w Q o a next){e:Ending}{w':World} (d:gN P O M J S w (fun r=>Q (r.1,env,r.2)) e w'):∃v',e=.returned v'/\next (a.put o.dst v') w':=by
 cases e with
 |returned v' =>obtain⟨v,S',M',J',i,m,f,g⟩:=d;obtain⟨j,l⟩:=h.step' f g;exact⟨v',rfl,k v env S' M' J' L w' v' i m.ofNil j l (by rw[b];exact⟨rfl,.refl _⟩)⟩
 |panicked c=>exact d.elim
 |outgrown=>exact d.elim
theorem aEp{F:Fence}(i:cW F)(n:Nat){top:TOp}(d:aP top=none)(h:MS P O K M J L S env w){Q:TV×Env×aA->Prop}{o:Oper}{a:Act}{next:Act->World->Prop}(g:∀c,o.op≠.defer c) (m:bFr P O K top M J L S env w Q o a next) {f:Nat} {vals:Array Value} (b:(execOp a.eval o).run P w=.ok (.enter f vals) w) (p:CallsIn F (n-1) P f vals w (gN P O M J S w (fun r=>Q (r.1,env,r.2)))) {X:Exit->Act->World->Prop}: o.wpIn F n P a w next X:=by unfold Oper.wpIn;refine⟨fun f _=>i.fn f,?_⟩;rw[Oper.semAt_eq _ _ _ g,b,Oper.uponIn_enter];refine⟨fun j=>by rw[i.depth]at j;simp at j,p.mono (fun e w' k=>?_)⟩;obtain⟨v',rfl,l⟩:=k.kont d h m;exact l
theorem mO{o:Oper}{c:Call}(a:o.op=.call c)(d:Call):o.op≠.defer d:=by rw[a];simp
theorem aKl{mu:Bool}{b:Builtin}{ts:List TypeId}{xs:List Operand}{top:TOp}(h:fV P A mu dsts b ts xs=some top)(a:Orc)(env rs:Tn_)(S:aA): bV K a top env rs S=Out.ofOpt (tB top) (jN K top env rs S):=by
 unfold fV at h;repeat' split at h
 all_goals first
  |(simp at h;done)
  |(simp at h;subst h;rfl)
  |(simp only[G_]at h;obtain⟨q,_,rfl⟩:=h;rfl)
theorem bFs{i:Orc}(v:bFq P O K i){F:Fence}(p:cW F)(n:Nat){top:TOp}(j:aP top=none)(h:MS P O K M J L S env w){Q:TV×Env×aA->Prop}{o:Oper}{c:Call}{x:Operand}(m:o.op=.call c)
  (C:c.callee=.value x) {a:Act} {next:Act->World->Prop} (A:bFr P O K top M J L S env w Q o a next) {k:Nat} {b cap args:Tn_} (u:VR M J L (.fn k b cap) (a.eval x)) (z:VRs M J L args (c.args.toList.map a.eval))
  (g : ∃ fn, P.funcs[k]? = some fn ∧ fn.body.isSome = true ∧ fn.name ≠ "runtime.NumGoroutine")
  (q:(if(b++args++cap).all kQ then eZ i k (b++args++cap) S else jO i false k (b++args++cap) S).All (fun r=>Q (r.1,env,r.2))) {X:Exit->Act->World->Prop}:
  o.wpIn F n P a w next X:=by
 obtain⟨fn,t,y,s⟩:=g;generalize hv:a.eval x=xv at u;cases u with
 |fn L f b cap fst' cap' h1 h2 hf hcp =>
  have l:VRs M J L (b++args++cap) (fst'++c.args.map a.eval++cap').toList:=by simp only[Z0,Q5];exact((VRs.ofAgg h1 hf).ofNil.append z).append (VRs.ofAgg h2 hcp).ofNil
  have d:=nP t y s (fst'++c.args.map a.eval++cap') w;rw[<-aAa m C a hv]at d;refine aEp p n j h (mO m) A d ?_;have e:fst'++c.args.map a.eval++cap'=(fst'++c.args.map a.eval++cap').toList.toArray:=B_;rw[e];split at q;.exact yO (v.call k) p _ q l h.wr h.gl
  .exact aEo (v.call k) p _ q l h.wr h.gl
theorem aVy(a:Act)(f:FuncId):a.eval (.func f)=.func (.func f) #[] #[]:=rfl
theorem aBe {s : Orc} (Y : bFq P O K s) (hK : ∀ k, (∃ fn, K.funcs k = some fn) → ∃ fn, P.funcs[k]? = some fn ∧ fn.body.isSome = true ∧ fn.name ≠ "runtime.NumGoroutine")
  (V:∀k args S Q,(s.call k args S).All Q->∃fn,K.funcs k=some fn) {F:Fence} (z:cW F) (n:Nat) {o:Oper} {top:TOp} (hc:bX P O A dsts slot o.op top) {a:Act}
  (h:MS P O K M J L S env w) {rs:Tn_} (R:aKh A dsts M J L (aX K env rs) a top) {Q:TV×Env×aA->Prop} (d:(bV K s top env rs S).All Q) {next:Act->World->Prop}
  (G:bFr P O K top M J L S env w Q o a next) {X:Exit->Act->World->Prop}:o.wpIn F n P a w next X:=by
 have h0:=hc.notDefer;have C:bV K s top env rs S=Out.ofOpt (tB top) (jN K top env rs S)->o.wpIn F n P a w next X:=by intro e;rw[e]at d;obtain⟨r,hr,hQ⟩:=Out.all_ofOpt d;exact tS z n h0 (aQ9 hc a h R hr) hQ G
 generalize hop:o.op=op at hc;have body : ∀ {k : Nat} {as : List TV} {S0 : aA} {Q0 : TV × aA → Prop}, (eZ s k as S0).All Q0 ∨ (∃ b, (jO s b k as S0).All Q0) → ∃ fn, P.funcs[k]? = some fn ∧ fn.body.isSome = true ∧ fn.name ≠ "runtime.NumGoroutine" := by
  intro k as S0 Q0 D;refine hK k ?_;rcases D with D|⟨b,D⟩
  .unfold eZ at D;split at D;.exact D.elim
   .rw[Out.all_bind]at D;exact V _ _ _ _ D
  .unfold jO at D;split at D;.exact D.elim
   .rw[Out.all_bind]at D;exact V _ _ _ _ D
 cases hc with
 |builtin mu c b top hcc hb=>exact C (aKl hb s env rs S)
 |call pure trunc c f fn args hcc hfn hb hng ha =>
  have u:=mN ha (L:=L) (M:=M) (J:=J) (a:=a) (ev:=aX K env rs) (fun x tx I=>R x tx (by simpa[aQ] using I));simp only[bV]at d;rw[Out.all_bind]at d;have g:=nP hfn hb hng (#[]++c.args.map a.eval++#[]) w;rw[<-aAa hop hcc a (aVy a f)]at g;refine aEp z n rfl h (mO hop) G g ?_;have e:#[]++c.args.map a.eval++#[]=(c.args.toList.map a.eval).toArray:=by apply M5;simp
  rw[e];split at d;.exact yO (Y.call f) z _ d u h.wr h.gl
  .exact aEo (Y.call f) z _ d u h.wr h.gl
 |prim c f args hcc ha =>
  have u:=mN ha (L:=L) (M:=M) (J:=J) (a:=a) (ev:=aX K env rs) (fun x tx I=>R x tx (by simpa[aQ] using I));simp only[bV]at d;split at d
  .rename_i p hp;split at d;.exact d.elim
   rename_i hlp;rw[Out.all_bind]at d;obtain⟨⟨v,S1⟩,hr,hQ⟩:=Out.all_ofOpt d;have e:#[]++c.args.map a.eval++#[]=(c.args.toList.map a.eval).toArray:=by apply M5;simp
   have H:=aAa hop hcc a (aVy a f);rw[e]at H;rcases Y.prim f p hp _ S v S1 hr M J w _ (u.frame (by simpa using hlp)) h.wr h.gl with⟨fn,U,W,Z,h4⟩|⟨v',w',M',J',U,W,Z,h4⟩
   .have g:=nP U W Z (c.args.toList.map a.eval).toArray w;rw[<-H]at g;refine aEp z n rfl h (mO hop) G g ((h4 F z _).mono (fun e w' T=>?_));cases e with
    |returned v' =>obtain⟨v2,S2,M',J',q1,q2⟩:=T;simp at q1;obtain⟨rfl,rfl⟩:=q1;exact⟨_,_,M',J',hQ,q2⟩
    |panicked c=>exact T.elim
    |outgrown=>exact T.elim
   .obtain⟨q1,q2⟩:=h.step' Z h4;unfold Oper.wpIn;refine⟨fun f _=>z.fn f,?_⟩;rw[Oper.semAt_eq _ _ _ (mO hop),H,U];exact G v env S1 M' J' L w' v' hQ W.ofNil q1 q2 ⟨rfl,.refl _⟩
  .exact d.elim
 |callv c x tx args hcc hx ha =>
  have u:=mN ha (L:=L) (M:=M) (J:=J) (a:=a) (ev:=aX K env rs) (fun x tx I=>R x tx (by simp[aQ,I]));have q:=R x tx (by simp[aQ]) hx;simp only[bV]at d;split at d
  .rename_i k fst cap hf;rw[hf]at q;rw[Out.all_bind]at d;refine bFs Y z n rfl h hop hcc G q u ?_ d;split at d;.exact body (.inl d)
   .exact body (.inr ⟨_,d⟩)
  .rename_i i hf;rw[hf]at q;split at d;.exact d.elim
   rename_i hlp;rw[Out.all_bind]at d;generalize hxe:a.eval x=xv at q;cases q with
   |yld L i l hj hlo =>
    obtain⟨r,U,W,Z⟩:=Y.yld i F z (n-1) _ S _ d M J w _ (u.frame (by simpa using hlp)) h.wr h.gl l hj;have g:(execOp a.eval o).run P w=.ok (.round l.cb r.fn ((r.params.zip (c.args.toList.map a.eval).toArray).foldl (fun tmps (t,a)=>tmps.setIfInBounds t a) r.tmps) r.assign r.body) w:=by
     have:execOp a.eval o=Instr.yield l.cb (#[]++c.args.map a.eval):=by simp only[execOp,hop,Go.resolve,hcc,hxe,Deferred.ofValue,invoke,pure_bind]
     rw[this];have e:#[]++c.args.map a.eval=(c.args.toList.map a.eval).toArray:=by apply M5;simp
     rw[e];exact run_yield U (by simpa using W)
    unfold Oper.wpIn;refine⟨fun f _=>z.fn f,?_⟩;rw[Oper.semAt_eq _ _ _ (mO hop),g,Oper.uponIn_round];refine⟨fun hd=>by rw[z.depth]at hd;simp at hd,Z.mono (fun e w' T=>?_)⟩;obtain⟨v',rfl,hn⟩:=T.kont rfl h G;exact hn
  .exact d.elim
 |nextM x tx hx =>
  have q:=R x tx (by simp[aQ]) hx;simp only[bV]at d;split at d
  .rename_i j hj;rw[hj]at q;split at d;.rename_i since seen last hs;exact tS z n (by rw[hop];simp) (aYb (top:=.nextM tx) hop a h q hs rfl) d G
   .rename_i m since seen last hs;split at d
    .rename_i es clock I;split at d;.exact d.elim
     rename_i hg;obtain⟨c,h5,N⟩:=aYa (top:=.nextM tx) hop a h q hs I (by simpa using hg) rfl rfl;have d:=d c h5;rcases N with⟨y,hy,E⟩|⟨hy,E⟩;.simp only at d;rw[hy]at d;exact tS z n (by rw[hop];simp) E d G
     .simp only at d;rw[hy]at d;exact tS z n (by rw[hop];simp) E d G
    .exact d.elim
   .exact d.elim
  .exact d.elim
 |_=>exact C rfl
end
end Go.TM
namespace Go.TM
open Go
section
variable {P:Program}{O:dE}{K:TM.bD}{A:Ann}
variable {M:Mem}{J:aF}{L:List (Option Nat)}{S S':aA}{env env':Env}{w:World}
def eK(env:Env)(j:Nat):TV :=
 match env.getD j .hole with
 |.lb _=>.lp j 0
 |v=>v
structure FR (A:Ann) (nt:Nat) (M:Mem) (J:aF) (L:List (Option Nat)) (env:Env) (a:Act):Prop where
 sz:a.tmps.size=nt
 len:env.length=A.slots.length
 nlp:∀(j:Nat) (x:TV),env[j]?=some x->bY x=true->∃cs,x=.lb cs
 val:∀(j t:Nat),A.slots[j]?=some t->VR M J L (eK env j) (a.tmps.getD t Go.undef)
structure RR (A:Ann) (nt:Nat) (ops:List Oper) (tops:List aK) (D:Nat->Prop) (M:Mem) (J:aF) (L:List (Option Nat)) (env:Env) (rs:List TV) (a:Act):Prop where
 sz:a.tmps.size=nt
 len:env.length=A.slots.length
 nlp:∀(j:Nat) (x:TV),env[j]?=some x->bY x=true->∃cs,x=.lb cs
 rl:rs.length=ops.length
 reg:∀(k:Nat) (o:Oper) (t:Nat),D k->ops[k]?=some o->o.dst=some t->VR M J L (rs.getD k .hole) (a.tmps.getD t Go.undef)
 val:∀(j t:Nat),A.slots[j]?=some t->(∀(k:Nat) (o:Oper),D k->ops[k]?=some o->o.dst≠some t)->VR M J L (eK env j) (a.tmps.getD t Go.undef)
 lbs:∀(k:Nat) (o:Oper) (to:aK) (j t:Nat),D k->ops[k]?=some o->tops[k]?=some to->to.loc=none->o.dst=some t->A.slots[j]?=some t->VR M J L (eK env j) (a.tmps.getD t Go.undef)
theorem aRa{j k:Nat}(b:∀(j:Nat) (x:TV),env[j]?=some x->bY x=true->∃cs,x=.lb cs)(a:k≠j):qJ j (eK env k)=false:=by
 unfold eK;cases hx:env[k]? with
 |none=>simp[List.getD,hx,qJ]
 |some x =>
  have e:env.getD k .hole=x:=by simp[List.getD,hx]
  rw[e];by_cases hl:bY x=true;.obtain⟨cs,rfl⟩:=b k x hx hl;simp[qJ,a]
  .cases x<;>simp[bY]at hl<;>rfl
theorem VR.setL{x:TV}{v:Value}(h:VR M J L x v){j:Nat}(a:qJ j x=false)(c:Option Nat):VR M J (L.set j c) x v:=by
 cases h with
 |lp L k off cb hk =>
  have:k≠j:=by simpa[qJ] using a
  exact .lp _ k off cb (by rw[B3 A_];exact hk)
 |hole L v=>exact .hole _ v
 |iv L h=>exact .iv _ h
 |ptr L i ver off l b o h hv ha=>exact .ptr _ i ver off l b o h hv ha
 |msl L i ver off len cap es l b o c h hv ha hl hlc=>exact .msl _ i ver off len cap es l b o c h hv ha hl hlc
 |tsl L i es l b o c h hl hv ha hr=>exact .tsl _ i es l b o c h hl hv ha hr
 |rsv L i es n l b o c h hl hv ha hc hr=>exact .rsv _ i es n l b o c h hl hv ha hc hr
 |map L i l h hl=>exact .map _ i l h hl
 |it L i l h hl=>exact .it _ i l h hl
 |yld L i l h hl=>exact .yld _ i l h hl
 |fn L f fst cap fst' cap' h1 h2 hf hc=>exact .fn _ f fst cap fst' cap' h1 h2 hf hc
 |agg L cs vs hs hv=>exact .agg _ cs vs hs hv
 |tup L cs vs hs hv=>exact .tup _ cs vs hs hv
theorem VR.over{own:Tm_}{M':Mem}{J':aF}{L':Tk_}{w':World}{a:Option Nat}{x:TV}{v:Value}(h:VR M J L x v)(b:Tr own M J S w M' J' S' w')(el:EL w a env env' L L')(c:∀j,a=some j->qJ j x=false): VR M' J' L' x v:=by
 have h:=h.mono b.mle b.jle;cases a with
 |none=>obtain⟨rfl,_⟩:=el;exact h
 |some j=>obtain⟨cs,cb,_,rfl,_⟩:=el;exact h.setL (c j rfl) _
theorem aEq(h:vB env env')(j:Nat):eK env' j=eK env j:=by
 unfold eK;rcases h.2 j with e|⟨cs,a,b,e2⟩;.simp[List.getD,e]
 .simp[List.getD,b,e2]
theorem aYe{j k:Nat}{x:TV}(h:k≠j):eK (env.set j x) k=eK env k:=by unfold eK;simp[List.getD,B3 (B0 h)]
theorem aRb{a:Option Nat}{L':Tk_}(el:EL w a env env' L L'){k:Nat}(b:a≠some k):eK env' k=eK env k:=by
 cases a with
 |none=>exact aEq el.2 k
 |some j=>obtain⟨cs,cb,rfl,_,_⟩:=el;exact aYe (fun e=>b (by rw[e]))
theorem EL.len{a:Option Nat}{L':Tk_}(el:EL w a env env' L L'):env'.length=env.length:=by
 cases a with
 |none=>exact el.2.1
 |some j=>obtain⟨cs,cb,rfl,_,_⟩:=el;simp
theorem EL.nlp{d:Option Nat}{L':Tk_}(el:EL w d env env' L L')(h:∀(j:Nat) (x:TV),env[j]?=some x->bY x=true->∃cs,x=.lb cs): ∀(j:Nat) (x:TV),env'[j]?=some x->bY x=true->∃cs,x=.lb cs:=by
 intro k x a c;cases d with
 |none =>
  rcases el.2.2 k with e|⟨cs,f,g,e2⟩;.exact h k x (by rw[<-e];exact a) c
  .rw[a]at e2;simp at e2;exact⟨_,e2⟩
 |some j =>
  obtain⟨cs,cb,rfl,_,_⟩:=el;by_cases hkj:k=j
  .subst hkj;have b:k<env.length:=by have:=(E_.1 a).1;simpa using this
   rw[C6 b]at a;simp at a;exact⟨cs,a.symm⟩
  .rw[B3 A_]at a;exact h k x a c
theorem aNc{a:Act}{d:Option Nat}{v:Value}{t:Nat}(h:d≠some t):(a.put d v).tmps.getD t Go.undef=a.tmps.getD t Go.undef:=by
 cases d with
 |none=>rfl
 |some d =>have:d≠t:=fun e=>h (by rw[e]);simp only[Act.put,B2];rw[I9 this]
theorem aNd{a:Act}{v:Value}{t:Nat}(h:t<a.tmps.size):(a.put (some t) v).tmps.getD t Go.undef=v:=by simp only[Act.put,B2];rw[G5 h];rfl
theorem bFt{a:Act}{d:Option Nat}{v:Value}:(a.put d v).tmps.size=a.tmps.size:=by cases d<;>simp[Act.put]
theorem oK{a:Act}{d:Option Nat}{v:Value}:(a.put d v).defers=a.defers:=by cases d<;>rfl
def tT(nt:Nat)(ops:List Oper):Prop :=
 (∀(k k':Nat) (o o':Oper) (t:Nat),ops[k]?=some o->ops[k']?=some o'->o.dst=some t->o'.dst=some t->k=k')/\∀(k:Nat) (o:Oper) (t:Nat),ops[k]?=some o->o.dst=some t->t<nt
theorem RR.step{H:Nat}{ops:List Oper}{tops:List aK}{D:Tm_}{rs q:Tn_}{a:Act}(h:RR A H ops tops D M J L env rs a)(P:tT H ops)(hs:fB A H){i:Nat}{o:Oper}{to:aK}(z:ops[i]?=some o)(N:tops[i]?=some to)(F:¬D i) {own:Tm_} {M':Mem} {J':aF} {L':Tk_} {w':World} (U:Tr own M J S w M' J' S' w') (el:EL w (aP to.op) env env' L L') {v:TV} {v':Value} (Y:VR M' J' L' v v') (u:q.length=rs.length/\q.getD i .hole=v/\∀k,D k->q.getD k .hole=rs.getD k .hole) (y:∀j,aP to.op=some j->rs.any (qJ j)=false/\v=.lp j 0/\(∃d,o.dst=some d/\A.slots[j]?=some d)/\(∃cs,env'=env.set j (.lb cs))/\j<env.length) (E:aP to.op=none->to.loc=none->∀(j t:Nat),o.dst=some t->A.slots[j]? ≠ some t): RR A H ops tops (fun k=>D k\/k=i) M' J' L' env' q (a.put o.dst v'):=by
 have r:∀t,o.dst=some t->t<a.tmps.size:=fun t f=>by rw[h.sz];exact P.2 i o t z f
 have c:∀(j t:Nat),A.slots[j]?=some t->o.dst≠some t->VR M J L (eK env j) (a.tmps.getD t Go.undef)->VR M' J' L' (eK env' j) ((a.put o.dst v').tmps.getD t Go.undef):=by
  intro j t p f R;rw[aNc f];have G:aP to.op≠some j:=by intro e;obtain⟨_,_,⟨d,m,n⟩,_,V⟩:=y j e;rw[p]at n;simp at n;exact f (by rw[m,n])
  rw[aRb el G];exact R.over U el (fun I e=>aRa h.nlp (fun Z=>G (by rw[e,Z])))
 refine⟨by rw[bFt];exact h.sz,by rw[el.len];exact h.len,el.nlp h.nlp,by rw[u.1];exact h.rl,?_,?_,?_⟩
 .intro k x t l b f;rcases l with l|rfl
  .have s:k≠i:=fun e=>F (e▸l);rw[u.2.2 k l,aNc (fun e=>s (P.1 k i x o t b z f e))];refine(h.reg k x t l b f).over U el (fun j e=>?_);obtain⟨h1,_⟩:=y j e;by_cases hkl:k<rs.length;.have:=q_.1 h1 rs[k] (B8 hkl);simpa[List.getD,D_ hkl] using this
   .simp[List.getD,B7 (Nat.le_of_not_lt hkl),qJ]
  .rw[z]at b;simp at b;subst b;rw[u.2.1,f,aNd (r t f)];exact Y
 .intro j t p C;have f:o.dst≠some t:=C i o (.inr rfl) z;exact c j t p f (h.val j t p (fun k x l=>C k x (.inl l)))
 .intro k x T j t l b g W f p;rcases l with l|rfl;.have s:k≠i:=fun e=>F (e▸l);exact c j t p (fun e=>s (P.1 k i x o t b z f e)) (h.lbs k x T j t l b g W f p)
  .rw[z]at b;simp at b;subst b;rw[N]at g;simp at g;subst g;cases htg:aP to.op with
   |none=>exact absurd p (E htg W j t f)
   |some I =>
    obtain⟨_,h2,⟨d,m,n⟩,⟨cs,h4⟩,V⟩:=y I htg;have Q:j=I:=by
     have e1:A.slots[I]?=some t:=by rw[f]at m;simp at m;rw[m];exact n
     exact(P6 (by exact(E_.1 p).1) hs.1).1 (by rw[p,e1])
    subst Q;have:eK env' j=.lp j 0:=by rw[h4];unfold eK;simp[List.getD,C6 V]
    rw[this,f,aNd (r t f),<-h2];exact Y
theorem aBf{t:Nat}:∀ {l:Tc_} {i j:Nat},eC t l i=some j->i<=j/\l[j-i]?=some t
 |[],i,j,h=>by simp[eC]at h
 |d::r,i,j,h=>by
  simp only[eC]at h;split at h;.rename_i e;simp at h;subst h;simp[e]
  .obtain⟨b,a⟩:=aBf h;refine⟨by omega,?_⟩;rw[show j-i=(j-(i+1))+1 by omega,List.getElem?_cons_succ];exact a
theorem lN{t j:Nat}(h:eC t A.slots 0=some j):A.slots[j]?=some t:=(aBf h).2
theorem aHt{t:Nat}:∀ {l:Tc_} {i j:Nat},l.Nodup->l[j]?=some t->eC t l i=some (i+j)
 |[],i,j,_,h=>by simp at h
 |d::r,i,j,hn,h=>by
  simp only[eC];cases j with
  |zero=>simp at h;simp[h]
  |succ j =>
   simp at h;have a:d≠t:=by rintro rfl;exact(C7.1 hn).1 (B9 h)
   rw[I_ a,aHt (C7.1 hn).2 h];congr 1;omega
theorem aVz{t j b:Nat}(a:fB A b)(h:A.slots[j]?=some t):eC t A.slots 0=some j:=by have:=aHt (i:=0) a.1 h;simpa using this
theorem wX{t:Nat}:∀ {l:Tk_} {i j:Nat},aA2 t l i=some j->i<=j/\l[j-i]?=some (some t)
 |[],i,j,h=>by simp[aA2]at h
 |d::r,i,j,h=>by
  simp only[aA2]at h;split at h;.rename_i e;simp at h;subst h;simp[e]
  .obtain⟨b,a⟩:=wX h;refine⟨by omega,?_⟩;rw[show j-i=(j-(i+1))+1 by omega,List.getElem?_cons_succ];exact a
theorem aEr{t:Nat}:∀ {l:Tk_} {i:Nat},aA2 t l i=none->∀(k:Nat),l[k]? ≠ some (some t)
 |[],i,_,k=>B_
 |d::r,i,h,k=>by
  simp only[aA2]at h;split at h;.simp at h
  .rename_i e;cases k with
   |zero=>simpa using e
   |succ k=>simpa using aEr h k
structure aEs (P:Program) (O:dE) (A:Ann) (dsts:List (Option Nat)) (o:Oper) (to:aK):Prop where
 guard:to.guard=o.guard
 op:to.op=.bad\/bX P O A dsts (o.dst.bind fun t=>eC t A.slots 0) o.op to.op
 loc:aP to.op=none->to.loc=o.dst.bind fun t=>eC t A.slots 0
 tgt:∀j,aP to.op=some j->to.loc=none/\(o.dst.bind fun t=>eC t A.slots 0)=some j/\o.guard=none
theorem bVi{mu a:Bool}{dsts:Tk_}{o:Oper}{top:TOp}(h:wR P O A mu a false dsts o=some top):aP top=none:=by
 have d:=aM8 h;generalize hop:o.op=op at d;cases d with
 |allocL t z j hz hj=>simp[wR,hop,hz]at h
 |boxL t x tx j hx hj=>simp[wR,hop,hx]at h
 |builtin mu c b top hcc hb =>
  unfold fV at hb;repeat' split at hb
  all_goals first
   |(simp at hb;done)
   |(simp at hb;subst hb;rfl)
   |(simp only[G_]at hb;obtain⟨q,_,rfl⟩:=hb;rfl)
 |_=>rfl
theorem aNe{dsts:Tk_}{a:Option Nat}{op:Op}{top:TOp}(h:bX P O A dsts a op top){j:Nat}(d:aP top=some j):a=some j:=by
 cases h with
 |allocL t z j' hz hj'=>simp[aP]at d;subst d;exact hj'
 |boxL t x tx j' hx hj'=>simp[aP]at d;subst d;exact hj'
 |builtin mu c b top hcc hb =>
  unfold fV at hb;repeat' split at hb
  all_goals first
   |(simp at hb;done)
   |(simp at hb;subst hb;simp[aP]at d;done)
   |(simp only[G_]at hb;obtain⟨q,_,rfl⟩:=hb;simp[aP]at d;done)
 |_=>simp[aP]at d
theorem mP{id:Nat}{draw:Bool}:∀ {os:List Oper} {i:Nat} {dsts:Tk_} {k:Nat} {o:Oper},os[k]?=some o->∃to,(dC P O A id draw os i dsts)[k]?=some to/\aEs P O A (dsts++(os.take k).map (·.dst)) o to
 |[],i,dsts,k,o,h=>by simp at h
 |o0::os,i,dsts,k,o,h=>by
  cases k with
  |zero =>
   simp at h;subst h;simp only[dC,List.getElem?_cons_zero,List.take_zero,C3,A0];refine⟨_,rfl,?_⟩;generalize hlb:(!draw&&o0.guard.isNone&&(match o0.dst with
    |some t=>A.lb.contains t
    |none=>false))=isLb
   cases hcp:wR P O A (A.mu.contains (id,i)) (A.trunc.contains (id,i)) isLb dsts o0 with
   |none =>refine⟨rfl,.inl B_,fun _=>?_,fun j a=>by simp[aP]at a⟩;simp
   |some top =>
    simp only[Option.getD_some];have b:=aM8 hcp;refine⟨rfl,.inr b,fun e=>?_,fun j a=>?_⟩
    .cases isLb with
     |false=>simp
     |true =>simp only[N6];cases top<;>first|rfl|simp[aP]at e
    .cases isLb with
     |false=>rw[bVi hcp]at a;simp at a
     |true =>
      refine⟨?_,aNe b a,?_⟩;.simp only[N6];cases top<;>first|rfl|simp[aP]at a
      .have:o0.guard.isNone=true:=by revert hlb;cases o0.guard<;>simp
       simpa using this
  |succ k =>simp at h;obtain⟨to,c,d⟩:=mP (id:=id) (draw:=draw) (i:=i+1) (dsts:=dsts++[o0.dst]) h;refine⟨to,by simpa[dC] using c,?_⟩;simpa using d
theorem eL{id:Nat}{draw:Bool}:∀ {os:List Oper} {i:Nat} {dsts:Tk_},(dC P O A id draw os i dsts).length=os.length
 |[],i,dsts=>rfl
 |o::os,i,dsts=>by simp[dC,eL]
def bFu(A:Ann)(ops:List Oper)(D:Nat->Prop):aH->Prop
 |.reg r=>D r
 |.loc j=>∀(k:Nat) (o:Oper),D k->ops[k]?=some o->∀t,o.dst=some t->A.slots[j]? ≠ some t
 |_=>True
theorem aRc(h:MS P O K M J L S env w){s:Nat}{ops:List Oper}{tops:List aK}{D:Tm_}{rs:Tn_}{a:Act}(m:RR A s ops tops D M J L env rs a){i:Nat}{x:Operand}{tx:aH} (b:opd A ((ops.take i).map (·.dst)) x=some tx) (p:bFu A ops D tx):VR M J L (aX K env rs tx) (a.eval x):=by
 cases x with
 |tmp t =>
  simp only[opd]at b;split at b
  .rename_i r hi;simp at b;subst b;have n:=(wX hi).2;simp only[Nat.sub_zero,l_,G_]at n;obtain⟨o,l,y⟩:=n;rw[D6]at l;split at l;.exact m.reg r o t p l y
   .simp at l
  .rename_i hi;simp only[G_]at b;obtain⟨j,q,rfl⟩:=b;have d:=lN q;exact m.val j t d (fun k o u z e=>p k o u z t e d)
 |const v =>simp only[opd,G_]at b;obtain⟨c,C,rfl⟩:=b;exact .iv _ (aVp C)
 |global g =>
  simp only[opd,R_]at b;subst b;simp only[aX];split;.rename_i cs hcs;exact .iv _ (h.gl g cs hcs)
  .exact .hole _ _
 |func f =>simp only[opd,R_]at b;subst b;exact .fn _ f [] [] #[] #[] rfl rfl (fun i x v b=>by simp at b) (fun i x v b=>by simp at b)
theorem kZ{m:Nat}{ops:List Oper}{tops:List aK}{D:Tm_}{rs:Tn_}{a:Act}(l:RR A m ops tops D M J L env rs a)(q:tT m ops){o:Oper}{b:Bool}(e:dT o.guard rs=some b) (i:∀g c,o.guard=some (g,c)->D g/\∃h t,ops[g]?=some h/\h.dst=some t):Region.wanted o (yielded ops.toArray a.tmps)=b:=by
 unfold dT at e;unfold Region.wanted;split at e;.rename_i hn;simp at e;rw[hn];simpa using e
 .rename_i g c hgs;obtain⟨p,h,t,j,k⟩:=i g c hgs;rw[hgs];simp only;have d:=l.reg g h t p j k;have f:t<a.tmps.size:=by rw[l.sz];exact q.2 g h t j k
  have n:yielded ops.toArray a.tmps g=(match a.tmps.getD t Go.undef with | .bool b=>some b|_=>none):=by unfold yielded;simp only[K4,j,Option.bind_some,k];rw[A4 f];simp only[B2,A4 f,Option.getD_some];cases a.tmps[t]<;>rfl
  rw[n];generalize a.tmps.getD t Go.undef=tv at d;split at e;.rename_i bb hb;rw[hb]at d;rw[d.bool_inv];simp at e;rw[<-e];simp
  .rename_i hb;rw[hb]at d;simp at e;subst e;cases d with
   |tup L cs vs hs hv=>rfl
  .simp at e
structure oL (P:Program) (O:dE) (K:TM.bD) (orc:Orc):Prop where
 ok:bFq P O K orc
 body : ∀ k, (∃ fn, K.funcs k = some fn) → ∃ fn, P.funcs[k]? = some fn ∧ fn.body.isSome = true ∧ fn.name ≠ "runtime.NumGoroutine"
 known:∀k args S Q,(orc.call k args S).All Q->∃fn,K.funcs k=some fn
 mixed:P.follows .mixedOrders=true
theorem aB6{a:Orc}{rs:Tn_}{top:TOp}{j:Nat}(b:aP top=some j){Q:TV×Env×aA->Prop}(h:(bV K a top env rs S).All Q): rs.any (qJ j)=false/\j<env.length/\(bV K a top env rs S).All (fun r=>Q r/\r.1=.lp j 0/\∃cs,r.2.1=env.set j (.lb cs)):=by
 cases top with
 |allocL j' z =>
  simp only[aP,R_]at b;subst b;simp only[bV,jN,iZ,aU,aO,bP,gM]at h |-;split at h;.exact h.elim
  .rename_i hc;simp only[D3,G6]at hc;rw[I_ (by simp only[D3,G6];exact hc)];exact⟨by simpa using hc.1,by simpa using hc.2,h,rfl,_,rfl⟩
 |boxL j' x =>
  simp only[aP,R_]at b;subst b;simp only[bV,jN,iZ,aU,aO,bP,gM]at h |-;split at h;.exact h.elim
  .rename_i hc;simp only[D3,G6]at hc;rw[I_ (by simp only[D3,G6];exact hc)];exact⟨by simpa using hc.1.2,by simpa using hc.2,h,rfl,_,rfl⟩
 |_=>simp[aP]at b
def OG(L L':List (Option Nat))(w w':World):Prop:=∀b,cR L' b->cR L b\/(w.heap.size<=b/\b<w'.heap.size)
theorem OG.refl(L:Tk_)(w w':World):OG L L w w':=fun _ h=>.inl h
theorem OG.trans{L1 L2 L3:Tk_}{e c d:World}(h:OG L1 L2 e c)(k:OG L2 L3 c d)(g:e.heap.size<=c.heap.size)(i:c.heap.size<=d.heap.size):OG L1 L3 e d:=by
 intro b a;rcases k b a with a|⟨l,f⟩
 .rcases h b a with a|⟨j,m⟩;.exact .inl a
  .exact .inr ⟨j,by omega⟩
 .exact .inr ⟨by omega,f⟩
theorem OG.weak{L1 L2:Tk_}{a d:World}(h:OG L1 L2 a d)(b:Nat)(c:cR L2 b):cR L1 b\/a.heap.size<=b:=(h b c).imp id And.left
theorem EL.own{f:Option Nat}{L':Tk_}{M':Mem}{J':aF}{w':World}(el:EL w f env env' L L')(h:MS P O K M J L S env w)(g:MS P O K M' J' L' S' env' w'):OG L L' w w':=by
 intro b e;cases f with
 |none=>obtain⟨rfl,_⟩:=el;exact .inl e
 |some j =>
  obtain⟨cs,cb,rfl,rfl,c⟩:=el;obtain⟨k,a⟩:=e;by_cases hj:j<env.length
  .rw[V5]at a;split at a
   .rename_i hjk;split at a;.simp at a;subst a;obtain⟨i,d,l⟩:=g.lb.box j cs (C6 hj);rw[C6 (by rw[h.lb.len];exact hj)]at d;simp at d;subst d;exact .inr ⟨c,l.lt⟩
    .simp at a
   .exact .inl ⟨k,a⟩
  .rw[List.set_eq_of_length_le (by rw[h.lb.len];omega)]at a;exact .inl ⟨k,a⟩
theorem aEt{dsts:Tk_}{c:Nat}(b:fB A c){o:Oper}{to:aK}(a:aEs P O A dsts o to)(g:aP to.op=none)(d:to.loc=none)(j t:Nat)(e:o.dst=some t):A.slots[j]? ≠ some t:=by intro f;have:=a.loc g;rw[d,e]at this;simp only[Option.bind_some]at this;rw[aVz b f]at this;simp at this
theorem jH{rs:Tn_}{i:Nat}(a:i<rs.length)(v:TV):(rs.set i v).length=rs.length/\(rs.set i v).getD i .hole=v/\∀k,k≠i->(rs.set i v).getD k .hole=rs.getD k .hole :=
 ⟨by simp,by simp[List.getD,C6 a],fun k b=>by simp[List.getD,B3 (B0 b)]⟩
def bVj(P:Program)(O:dE)(K:TM.bD)(A:Ann)(nt:Nat)(ops:List Oper)(tops:List aK)(D:Nat->Prop)(M:Mem)(J:aF)(L:List (Option Nat))(S:aA)(env:Env)(w:World)(a:Act)(rs:List TV)(i:Nat)(to:aK)
  (Q:List TV×Env×aA->Prop) (next:Act->World->Prop):Prop :=
 ∀(v:TV) (env':Env) (S':aA) (M':Mem) (J':aF) (L':List (Option Nat)) (w':World) (a':Act),Q (rs.set i v,env',S')->RR A nt ops tops (fun k=>D k\/k=i) M' J' L' env' (rs.set i v) a'->a'.defers=a.defers ->
  MS P O K M' J' L' S' env' w'->Tr (cR L) M J S w M' J' S' w'->OG L L' w w'->EL w (aP to.op) env env' L L'->next a' w'
theorem aHu{h4:Orc}(E:oL P O K h4){F:Fence}(hF:cW F)(n:Nat){nt:Nat}{ops:List Oper}{tops:List aK}(Y:tT nt ops)(hs:fB A nt){D:Tm_}{i:Nat}{o:Oper}{to:aK}(H:ops[i]?=some o) (p:tops[i]?=some to) (c:aEs P O A ((ops.take i).map (·.dst)) o to) {rs:Tn_} {a:Act} (y:RR A nt ops tops D M J L env rs a) (C:MS P O K M J L S env w) (h0:∀(x:Operand) (tx:aH),tx∈aQ to.op->opd A ((ops.take i).map (·.dst)) x=some tx->bFu A ops D tx) (G:∀g W,o.guard=some (g,W)->D g/\∃og t,ops[g]?=some og/\og.dst=some t) (b:¬D i) {Q:List TV×Env×aA->Prop} (m:(kC K h4 to i rs env S).All Q) {next:Act->World->Prop} (hk:bVj P O K A nt ops tops D M J L S env w a rs i to Q next) {X:Exit->Act->World->Prop}:wpOpIn F n P ops.toArray X i next a w:=by
 have s:i<rs.length:=by rw[y.rl];exact(E_.1 H).1
 unfold wpOpIn;simp only[K4,H];unfold kC at m;rw[c.guard]at m;split at m;.exact m.elim
 .rename_i hg;have hw:=kZ y Y hg G;rw[hw];simp only[Y_,I5];refine⟨fun f _=>hF.fn f,?_⟩;have q:aP to.op=none:=by
   cases ht:aP to.op with
   |none=>rfl
   |some j =>have:=(c.tgt j ht).2.2;rw[this]at hg;simp[dT]at hg
  have el:EL w (aP to.op) env env L L:=by rw[q];exact⟨rfl,.refl _⟩
  obtain⟨T,Z,s3⟩:=jH s undef;refine hk undef env S M J L w _ m (y.step Y hs H p b (.refl (cR L) M J S w) el nW ⟨T,Z,fun k h=>s3 k (fun e=>b (e▸h))⟩ (fun j hj=>by rw[q]at hj;simp at hj) (fun _ hl j t u=>aEt hs c q hl j t u))
   oK C (.refl _ _ _ _ _) (.refl _ _ _) el
 .rename_i hg;have hw:=kZ y Y hg G;rw[hw];simp only[N6];rw[Out.all_bind]at m;rcases c.op with V|U;.rw[V]at m;exact m.elim
  .have hv:aKh A ((ops.take i).map (·.dst)) M J L (aX K env rs) a to.op:=fun x tx hm hx=>aRc C y hx (h0 x tx hm hx);cases ht:aP to.op with
   |none =>
    refine aBe E.ok E.body E.known hF n U C hv m (fun v env' S' M' J' L' w' v' I r l N el=>?_);obtain⟨T,Z,s3⟩:=jH s v;exact hk v env' S' M' J' L' w' _ I (y.step Y hs H p b N el r ⟨T,Z,fun k h=>s3 k (fun e=>b (e▸h))⟩ (fun j hj=>by rw[ht]at hj;simp at hj) (fun _ hl j t u=>aEt hs c ht hl j t u))
     oK l N (el.own C l) el
   |some j =>obtain⟨h1,h2,h3⟩:=aB6 ht m;refine aBe E.ok E.body E.known hF n U C hv h3 (fun v env' S' M' J' L' w' v' I r l N el=>?_);obtain⟨I,h6,h7⟩:=I;obtain⟨T,Z,s3⟩:=jH s v;refine hk v env' S' M' J' L' w' _ I (y.step Y hs H p b N el r ⟨T,Z,fun k h=>s3 k (fun e=>b (e▸h))⟩ (fun j' z=>?_) (fun hn=>by rw[ht]at hn;simp at hn)) oK l N (el.own C l) el;rw[ht]at z;simp at z;subst z;have R:=(c.tgt j ht).2.1;simp only[N0]at R;obtain⟨d,h5,h8⟩:=R;exact⟨h1,h6,⟨d,h5,lN h8⟩,h7,h2⟩
theorem RR.congr{e:Nat}{ops:List Oper}{tops:List aK}{D D':Tm_}{rs:Tn_}{a:Act}(h:RR A e ops tops D M J L env rs a)(d:∀k,D k↔D' k):RR A e ops tops D' M J L env rs a :=
 ⟨h.sz,h.len,h.nlp,h.rl,fun k o t b=>h.reg k o t ((d k).2 b),fun j t f c=>h.val j t f (fun k o b=>c k o ((d k).1 b)),fun k o to j t b=>h.lbs k o to j t ((d k).2 b)⟩
theorem FR.rr{c:Nat}{a:Act}(h:FR A c M J L env a)(ops:List Oper)(tops:List aK):RR A c ops tops (fun _=>False) M J L env (vS ops.length) a :=
 ⟨h.sz,h.len,h.nlp,by simp[vS],fun _ _ _ b=>b.elim,fun j t d _=>h.val j t d,fun _ _ _ _ _ b=>b.elim⟩
theorem aHv{p:Nat}{ops:List Oper}(h:zW p ops=true):tT p ops:=by
 unfold zW at h;simp only[O_,C1]at h;have nd:∀ {l:Tc_},tC l=true->l.Nodup:=by
  intro l;induction l with
  |nil=>intro _;exact .nil
  |cons a r ih =>intro i;simp only[tC,O_,D5]at i;exact C7.2 ⟨by simpa using i.1,ih i.2⟩
 refine⟨?_,fun k o t c f=>?_⟩
 .have n:=nd h.1;clear h;induction ops with
  |nil=>intro k k' o o' t c;simp at c
  |cons o0 r ih =>
   intro k k' o o' t c b f e;have u:(r.filterMap (·.dst)).Nodup:=by
    cases hd:o0.dst with
    |none=>simpa[List.filterMap_cons,hd] using n
    |some d=>exact(C7.1 (by simpa[List.filterMap_cons,hd] using n)).2
   have key:∀ {m:Nat} {g:Oper},o0.dst=some t->r[m]?=some g->g.dst=some t->False:=by
    intro m g q s j;have v:(t::r.filterMap (·.dst)).Nodup:=by simpa[List.filterMap_cons,q] using n
    exact(C7.1 v).1 (List.mem_filterMap.2 ⟨g,B9 s,j⟩)
   cases k with
   |zero =>
    cases k' with
    |zero=>rfl
    |succ k'=>simp at c b;subst c;exact(key f b e).elim
   |succ k =>
    cases k' with
    |zero=>simp at c b;subst b;exact(key e c f).elim
    |succ k'=>simp at c b;rw[ih u k k' o o' t c b f e]
 .have:=h.2 t (List.mem_filterMap.2 ⟨o,B9 c,f⟩);simpa using this
theorem aHw{b:List Oper}:∀ {os:List Oper} {i:Nat},aHh b i os=true->∀ {k:Nat} {o:Oper},os[k]?=some o->∀g a,o.guard=some (g,a)->g<i+k/\∃e t,b[g]?=some e/\e.dst=some t
 |[],i,_,k,o,hk=>by simp at hk
 |o0::os,i,h,k,o,hk=>by
  simp only[aHh,O_]at h;intro g a f;cases k with
  |zero =>
   simp at hk;subst hk;have d:=h.1;rw[f]at d;simp only[O_,p_]at d;refine⟨by omega,?_⟩;have c:=d.2;split at c;.rename_i e hog;obtain⟨t,j⟩:=O7.1 c;exact⟨e,t,hog,j⟩
   .simp at c
  |succ k =>simp at hk;obtain⟨d,c⟩:=aHw h.2 hk g a f;exact⟨by omega,c⟩
def aV0(P:Program)(O:dE)(K:TM.bD)(A:Ann)(nt:Nat)(ops:List Oper)(tops:List aK)(M:Mem)(J:aF)(L:List (Option Nat))(S:aA)(w:World)(a:Act)(Q:List TV×Env×aA->Prop)(next:Act->World->Prop):Prop :=
 ∀(rs':List TV) (env':Env) (S':aA) (M':Mem) (J':aF) (L':List (Option Nat)) (w':World) (a':Act),Q (rs',env',S')->RR A nt ops tops (·<ops.length) M' J' L' env' rs' a'->a'.defers=a.defers ->
  MS P O K M' J' L' S' env' w'->Tr (cR L) M J S w M' J' S' w'->OG L L' w w'->next a' w'
theorem bSw{G:Orc}(ha:oL P O K G){F:Fence}(hF:cW F)(n:Nat){H id:Nat}{ops:List Oper}(hd:tT H ops)(hs:fB A H)(U:aHh ops 0 ops=true){X:Exit->Act->World->Prop}{Q:List TV×Env×aA->Prop}: ∀(m i:Nat) (rs:Tn_) (env:Env) (S:aA) (M:Mem) (J:aF) (L:Tk_) (w:World) (a:Act),i+m=ops.length->RR A H ops (dC P O A id false ops 0 []) (·<i) M J L env rs a->MS P O K M J L S env w ->(kU K G ((dC P O A id false ops 0 []).drop i) i rs env S).All Q->aV0 P O K A H ops (dC P O A id false ops 0 []) M J L S w a Q (X .normal)->wpOpsIn F n P ops.toArray X (List.range' i m) a w:=by
 intro m;induction m with
 |zero =>intro i rs env S M J L w a I W ms q z;have b:(dC P O A id false ops 0 []).drop i=[]:=F8 (by rw[eL];omega);rw[b]at q;simp only[List.range'_zero,wpOpsIn];exact z rs env S M J L w a q (W.congr (fun k=>by constructor<;>intro h<;>omega)) rfl ms (.refl _ _ _ _ _) (.refl _ _ _)
 |succ m ih =>
  intro i rs env S M J L w a I W ms q z;have D:i<ops.length:=A_;have T:ops[i]?=some ops[i]:=D_ D;obtain⟨to,e,Y⟩:=mP (P:=P) (O:=O) (A:=A) (id:=id) (draw:=false) (i:=0) (dsts:=[]) T;have b:(dC P O A id false ops 0 []).drop i=to::(dC P O A id false ops 0 []).drop (i+1):=by
   have u:i<(dC P O A id false ops 0 []).length:=by rw[eL];exact D
   rw[A7 u];rw[D_ u]at e;simp at e;rw[e]
  rw[b]at q;simp only[kU]at q;rw[Out.all_bind]at q;rw[X1,wpOpsIn_cons];refine aHu ha hF n hd hs T e (by simpa using Y) W ms (fun x tx _ d=>?_) (fun g C hg=>?_) A_ q ?_
  .cases x with
   |tmp t =>
    simp only[opd]at d;split at d;.rename_i r hidx;simp at d;subst d;have h1:=(E_.1 (wX hidx).2).1;simp at h1;show r<i;omega
    .rename_i hidx;simp only[G_]at d;obtain⟨j,hj,rfl⟩:=d;intro k o z ho t' V s;rw[lN hj]at s;simp at s;subst s;refine aEr hidx k ?_;simp only[l_,D6,K_ z,ho,Option.map_some,V]
   |const v =>simp only[opd,G_]at d;obtain⟨c,_,rfl⟩:=d;trivial
   |global g=>simp[opd]at d;subst d;trivial
   |func f=>simp[opd]at d;subst d;trivial
  .obtain⟨h1,h2⟩:=aHw U T g C hg;exact⟨by omega,h2⟩
  .intro v env' S' M' J' L' w' a' hQ h5 h3 Z tr l _;refine ih (i+1) _ env' S' M' J' L' w' a' A_ (h5.congr (fun k=>by constructor<;>intro h<;>omega)) Z hQ ?_;intro h0 env2 S2 M2 J2 L2 w2 a2 R N y h4 E p;refine z h0 env2 S2 M2 J2 L2 w2 a2 R N (y.trans h3) h4 (tr.trans E l.weak) (l.trans p tr.size E.size)
theorem jE:∀ {os:List aK} {i:Nat} {rs:Tn_} {env env2:Env},fI os i rs env=some env2 ->env2.length=env.length/\(∀(j:Nat),(∀(k:Nat) (o:aK),os[k]?=some o->o.loc≠some j)->env2[j]?=env[j]?) /\(∀(k:Nat) (o:aK) (j:Nat),os[k]?=some o->o.loc=some j->bY (rs.getD (i+k) .hole)=false /\((∀(k':Nat) (o':aK),os[k']?=some o'->o'.loc=some j->k'=k)->j<env.length->env2[j]?=some (rs.getD (i+k) .hole)))
 |[],i,rs,env,env2,h=>by simp[fI]at h;subst h;exact⟨rfl,fun _ _=>rfl,fun k o j a=>by simp at a⟩
 |o0::os,i,rs,env,env2,h=>by
  simp only[fI]at h;split at h
  .rename_i hl0;obtain⟨n,m,p⟩:=jE h;refine⟨n,fun j l=>m j (fun k o a=>l (k+1) o (by simpa using a)),fun k o j a b=>?_⟩;cases k with
   |zero=>simp at a;subst a;rw[hl0]at b;simp at b
   |succ k =>have:=p k o j (by simpa using a) b;rw[show i+1+k=i+(k+1) by omega]at this;exact⟨this.1,fun g=>this.2 (fun k' o' f d=>by have:=g (k'+1) o' (by simpa using f) d;omega)⟩
  .rename_i j0 hl0;split at h;.simp at h
   .rename_i hlp;obtain⟨n,m,p⟩:=jE h;refine⟨by rw[n];simp,fun j l=>?_,fun k o j a b=>?_⟩;.rw[m j (fun k o a=>l (k+1) o (by simpa using a))];have:j0≠j:=fun e=>l 0 o0 rfl (by rw[hl0,e]);rw[B3 this]
    .cases k with
     |zero =>simp at a;subst a;rw[hl0]at b;simp at b;subst b;refine⟨by simpa using hlp,fun g c=>?_⟩;rw[m j0 (fun k o a b=>by have:=g (k+1) o (by simpa using a) b;omega)];rw[C6 c];simp
     |succ k =>have:=p k o j (by simpa using a) b;rw[show i+1+k=i+(k+1) by omega]at this;exact⟨this.1,fun g c=>this.2 (fun k' o' f d=>by have:=g (k'+1) o' (by simpa using f) d;omega) (by simpa using c)⟩
theorem RR.back{E:Nat}{ops:List Oper}{tops:List aK}{rs:Tn_}{a:Act}(h:RR A E ops tops (·<ops.length) M J L env rs a)(hd:tT E ops)(Y:fB A E)(D:tops.length=ops.length) (F:∀(k:Nat) (o:Oper) (to:aK),ops[k]?=some o->tops[k]?=some to->∃dsts,aEs P O A dsts o to) {env2:Env} (Z:fI tops 0 rs env=some env2): FR A E M J L env2 a/\(∀(j:Nat) (cs:Tn_),env2[j]?=some (.lb cs)->env[j]?=some (.lb cs)):=by
 obtain⟨G,h2,h3⟩:=jE Z;have c:∀(k:Nat) (o:Oper) (to:aK) (j:Nat),ops[k]?=some o->tops[k]?=some to->to.loc=some j->∃t,o.dst=some t/\A.slots[j]?=some t:=by
  intro k o to j hk b d;obtain⟨dsts,W⟩:=F k o to hk b;have y:aP to.op=none:=by
   cases y:aP to.op with
   |none=>rfl
   |some j'=>rw[(W.tgt j' y).1]at d;simp at d
  have:=W.loc y;rw[d]at this;obtain⟨t,I,Q⟩:=N0.1 this.symm;exact⟨t,I,lN Q⟩
 have p:∀(k:Nat) (to:aK),tops[k]?=some to->∃o,ops[k]?=some o:=by
  intro k to b;have f:k<ops.length:=by rw[<-D];exact(E_.1 b).1
  exact⟨_,D_ f⟩
 have C:∀(k k':Nat) (to n:aK) (j:Nat),tops[k]?=some to->tops[k']?=some n->to.loc=some j->n.loc=some j->k'=k:=by intro k k' to n j b s d u;obtain⟨o,i⟩:=p k to b;obtain⟨o',z⟩:=p k' n s;obtain⟨t,w,e2⟩:=c k o to j i b d;obtain⟨V,e3,H⟩:=c k' o' n j z s u;rw[e2]at H;simp at H;subst H;exact hd.1 k' k o' o t z i e3 w
 have g:∀j,(∃k o to,tops[k]?=some to/\ops[k]?=some o/\to.loc=some j/\(j<env.length->env2[j]?=some (rs.getD k .hole))/\bY (rs.getD k .hole)=false)\/((∀(k:Nat) (to:aK),tops[k]?=some to->to.loc≠some j)/\env2[j]?=env[j]?):=by
  intro j;by_cases hex:∃(k:Nat) (to:aK),tops[k]?=some to/\to.loc=some j;.obtain⟨k,to,b,d⟩:=hex;obtain⟨o,i⟩:=p k to b;have:=h3 k to j b d;rw[A9]at this;exact .inl ⟨k,o,to,b,i,d,this.2 (fun k' o' R u=>C k k' to o' j b R d u),this.1⟩
  .have q:∀(k:Nat) (to:aK),tops[k]?=some to->to.loc≠some j:=fun k to b d=>hex ⟨k,to,b,d⟩;exact .inr ⟨q,h2 j q⟩
 refine⟨⟨h.sz,G.trans h.len,fun j x r d=>?_,fun j t l=>?_⟩,fun j cs l=>?_⟩
 .rcases g j with⟨k,o,to,_,_,_,m,v⟩|⟨_,m⟩
  .have f:j<env.length:=by rw[<-G];exact(E_.1 r).1
   rw[m f]at r;have r:=D9 r;rw[<-r,v]at d;simp at d
  .exact h.nlp j x (by rw[<-m];exact r) d
 .have f:j<env.length:=by rw[h.len];exact(E_.1 l).1
  rcases g j with⟨k,o,to,b,i,d,m,v⟩|⟨q,m⟩
  .obtain⟨V,w,e2⟩:=c k o to j i b d;rw[l]at e2;simp at e2;subst e2;have U:=h.reg k o t (by show k<ops.length;exact(E_.1 i).1) i w;have:eK env2 j=rs.getD k .hole:=by
    have h5:env2.getD j .hole=rs.getD k .hole:=by simp[List.getD,m f]
    unfold eK;rw[h5];cases r:rs.getD k .hole<;>first|rfl|(rw[r]at v;simp[bY]at v)
   rw[this];exact U
  .have:eK env2 j=eK env j:=by unfold eK;simp[List.getD,m]
   rw[this];by_cases hw:∃(k:Nat) (o:Oper),ops[k]?=some o/\o.dst=some t
   .obtain⟨k,o,i,y⟩:=hw;have N:k<tops.length:=by rw[D];exact(E_.1 i).1
    have b:tops[k]?=some tops[k]:=D_ N;have T:tops[k].loc=none:=by
     cases d:tops[k].loc with
     |none=>rfl
     |some j' =>obtain⟨V,w,e2⟩:=c k o _ j' i b d;rw[y]at w;simp at w;subst w;have:j'=j:=(P6 (by exact(E_.1 e2).1) Y.1).1 (by rw[e2,l]);subst this;exact absurd d (q k _ b)
    exact h.lbs k o _ j t (by show k<ops.length;exact(E_.1 i).1) i b T y l
   .exact h.val j t l (fun k o _ i e=>hw ⟨k,o,i,e⟩)
 .rcases g j with⟨k,o,to,_,_,_,m,v⟩|⟨_,m⟩
  .have f:j<env.length:=by rw[<-G];exact(E_.1 l).1
   rw[m f]at l;have l:=D9 l;rw[l]at v;simp[bY]at v
  .rw[<-m];exact l
def JR:aV->Exit->Prop
 |.normal,.normal=>True
 |.exit id,.exit id'=>id=id'
 |.ret,.ret=>True
 |_,_=>False
def aNf(base:Nat)(J:aF)(L:List (Option Nat))(w:World)(ds:List Deferred):Prop :=
 ∃bs:List Nat,ds=bs.map (fun b=>({target:=.collected b,args:=#[]}:Deferred))/\bs.Nodup/\∀b∈bs,base<=b/\w.heap[b]?=some (.deferred (some []))/\¬J.has b/\¬cR L b
theorem aNf.step{base:Nat}{ds:List Deferred}{M':Mem}{J':aF}{L':Tk_}{w':World}(h:aNf base J L w ds)(d:Tr (cR L) M J S w M' J' S' w')(i:OG L L' w w'):aNf base J' L' w' ds:=by
 obtain⟨g,j,l,n⟩:=h;refine⟨g,j,l,fun b f=>?_⟩;obtain⟨k,e2,e3,c⟩:=n b f;have a:=fY e2;refine⟨k,(d.frame b a e3 c).trans e2,d.has a e3,fun m=>?_⟩;rcases i b m with e|⟨e,_⟩;.exact c e
 .omega
variable (P O K A) in
structure CS (base nt:Nat) (M:Mem) (J:aF) (L:List (Option Nat)) (S:aA) (env:Env) (w:World) (a:Act):Prop where
 fr:FR A nt M J L env a
 ms:MS P O K M J L S env w
 mks:aNf base J L w a.defers
 lt:∀b,cR L b->b<w.heap.size
 ba:base<=w.heap.size
variable (P O K A) in
def tV(base nt:Nat)(M:Mem)(J:aF)(L:List (Option Nat))(S:aA)(w:World)(Q:aV×Env×aA->Prop)(X:Exit->Act->World->Prop):Prop :=
 ∀(j:aV) (env':Env) (S':aA) (M':Mem) (J':aF) (L':List (Option Nat)) (w':World) (a':Act) (e:Exit),Q (j,env',S')->JR j e->CS P O K A base nt M' J' L' S' env' w' a'->Tr (cR L) M J S w M' J' S' w'->OG L L' w w'->X e a' w'
theorem tV.next{base f:Nat}{Q:aV×Env×aA->Prop}{X:Exit->Act->World->Prop}(h:tV P O K A base f M J L S w Q X){M':Mem}{J':aF}{L':Tk_}{w':World}(c:Tr (cR L) M J S w M' J' S' w')(d:OG L L' w w'): tV P O K A base f M' J' L' S' w' Q X:=fun j env2 S2 M2 J2 L2 k a2 e i g cs a b =>
 h j env2 S2 M2 J2 L2 k a2 e i g cs (c.trans a d.weak) (d.trans b c.size a.size)
theorem OG.lt{L':Tk_}{w':World}(e:OG L L' w w')(h:∀b,cR L b->b<w.heap.size)(c:w.heap.size<=w'.heap.size)(b:Nat)(d:cR L' b):b<w'.heap.size:=by
 rcases e b d with a|⟨_,a⟩;.exact E7 (h b a) c
 .exact a
theorem MS.back(h:MS P O K M J L S env w){env2:Env}(d:env2.length=env.length)(b:∀(j:Nat) (cs:Tn_),env2[j]?=some (.lb cs)->env[j]?=some (.lb cs)):MS P O K M J L S env2 w :=
 ⟨h.wr,⟨by rw[d];exact h.lb.len,fun j cs c=>h.lb.box j cs (b j cs c),fun j k cs a cb c e=>h.lb.inj j k cs a cb (b j cs c) (b k a e)⟩,h.gl⟩
variable (P O K) in
def aAb(orc:Orc):Prop :=
 ∀(A:Ann) (nt:Nat),fB A nt->∀(F:Fence),cW F->∀(n:Nat) (c:Code) (env:Env) (S:aA) (Q:aV×Env×aA->Prop),(orc.loop (bC P O A nt c) env S).All Q->(F.round=none\/dU (bC P O A nt c)=true) ->
  ∀(base:Nat) (M:Mem) (J:aF) (L:List (Option Nat)) (w:World) (a:Act) (X:Exit->Act->World->Prop),CS P O K A base nt M J L S env w a->tV P O K A base nt M J L S w Q X->(Code.loop c).wpIn F n P X a w
theorem FR.opd{c:Nat}{a:Act}(h:FR A c M J L env a)(e:MS P O K M J L S env w){x:Operand}{tx:aH}(b:opd A [] x=some tx):VR M J L (aX K env [] tx) (a.eval x):=by
 have:=aRc (ops:=[]) (tops:=[]) (D:=fun _=>False) (i:=0) e (h.rr [] []) (x:=x) (tx:=tx) (by simpa using b) (by
  cases tx with
  |reg r =>
   cases x with
   |tmp t =>simp only[TM.opd,aA2]at b;simp at b
   |const v=>simp[TM.opd]at b
   |global g=>simp[TM.opd]at b
   |func f=>simp[TM.opd]at b
  |loc j=>intro k o d;exact d.elim
  |cst v=>trivial
  |fn f=>trivial
  |glob g=>trivial)
 exact this
theorem aYf{b:Orc}(D:oL P O K b){F:Fence}(u:cW F)(n:Nat){base d id:Nat}(t:fB A d){ops:Array Oper}(G:zW d ops.toList=true)(r:aHh ops.toList 0 ops.toList=true) {Q:aV×Env×aA->Prop} (l:(eS K b (.region (dC P O A id false ops.toList 0 [])) env S).All Q) {a:Act} {X:Exit->Act->World->Prop} (cs:CS P O K A base d M J L S env w a) (E:tV P O K A base d M J L S w Q X): (Code.region id ops false).wpIn F n P X a w:=by
 simp only[eS]at l;rw[Out.all_bind]at l;refine wpIn_region ?_;have c:=aHv G;have:=bSw D u n (id:=id) c t r (X:=X) ops.toList.length 0 (vS (dC P O A id false ops.toList 0 []).length) env S M J L w a A_ (by
  rw[eL];exact(cs.fr.rr ops.toList _).congr (fun k=>by constructor;exact fun h=>h.elim;intro h;omega)) cs.ms (by simpa using l) (by
  intro v env' S' M' J' L' w' z e x q C f m;simp only at e;split at e;.rename_i env2 hwb;obtain⟨p,s⟩:=x.back (P:=P) (O:=O) c t eL (fun k o to I j=>by obtain⟨y,g,H⟩:=mP (P:=P) (O:=O) (A:=A) (id:=id) (draw:=false) (i:=0) (dsts:=[]) I;rw[j]at g;simp at g;subst g;exact⟨_,H⟩) hwb;exact E _ env2 S' M' J' L' w' z .normal e trivial ⟨p,C.back (jE hwb).1 s,by rw[q];exact cs.mks.step f m,m.lt cs.lt f.size,C0 cs.ba f.size⟩ f m
  .exact e.elim)
 rw[List.range_eq_range'];simpa using this
end
end Go.TM
namespace Go.TM
open Go
section
variable {K:TM.bD}
mutual
theorem aHx:∀ {a b:IV},gL a b=true->a=b
 |.bool a,b,h=>by cases b<;>simp[gL]at h;subst h;rfl
 |.int k n,b,h=>by cases b<;>simp[gL]at h;obtain⟨rfl,rfl⟩:=h;rfl
 |.str s,b,h=>by cases b<;>simp[gL]at h;subst h;rfl
 |.sl t l,b,h=>by
  cases b<;>simp only[gL,O_,O4,Y_]at h
  obtain⟨rfl,c⟩:=h;rw[tW c]
 |.agg l,b,h=>by
  cases b<;>simp only[gL,Y_]at h
  rw[rQ h]
 |.cp l,b,h=>by
  cases b<;>simp only[gL,Y_]at h
  rw[rQ h]
 |.nilp,b,h=>by cases b<;>simp[gL]at h;rfl
 |.nilm,b,h=>by cases b<;>simp[gL]at h;rfl
 |.nilf,b,h=>by cases b<;>simp[gL]at h;rfl
 |.nili,b,h=>by cases b<;>simp[gL]at h;rfl
theorem rQ:∀ {a b:Tq_},lZ a b=true->a=b
 |[],b,h=>by cases b<;>simp[lZ]at h;rfl
 |a::as,b,h=>by
  cases b with
  |nil=>simp[lZ]at h
  |cons b bs =>simp only[lZ,O_]at h;rw[aHx h.1,rQ h.2]
theorem tW:∀ {a b:Tp_},kR a b=true->a=b
 |[],b,h=>by cases b<;>simp[kR]at h;rfl
 |a::as,b,h=>by
  cases b with
  |nil=>simp[kR]at h
  |cons b bs =>simp only[kR,O_]at h;rw[rQ h.1,tW h.2]
end
theorem aNg{a b:TV}(h:aHe a b=true):a=b:=by
 cases a<;>cases b<;>simp only[aHe,O_,O4,Y_]at h
 .rw[aHx h]
 .obtain⟨rfl,rfl⟩:=h;rfl
 .obtain⟨⟨rfl,rfl⟩,rfl⟩:=h;rfl
 .obtain⟨⟨⟨⟨⟨rfl,rfl⟩,rfl⟩,rfl⟩,rfl⟩,rfl⟩:=h;rfl
 .obtain⟨rfl,h⟩:=h;rw[tW h]
 .subst h;rfl
theorem tX:∀ {a b:Tn_},xV a b=true->a=b
 |[],b,h=>by cases b<;>simp[xV]at h;rfl
 |a::as,b,h=>by
  cases b with
  |nil=>simp[xV]at h
  |cons b bs =>simp only[xV,O_]at h;rw[aNg h.1,tX h.2]
theorem bM5{a b:TV}(h:same a b=true):a=b:=by
 unfold same at h;split at h;.simp only[O_,O4]at h;obtain⟨⟨rfl,d⟩,c⟩:=h;rw[tX d,tX c]
 .rw[tX h]
 .rw[tX h]
 .exact aNg h
theorem aEu{e e':aH->TV}:∀ {ps:List (Nat×Nat×aH)} {cs:Tn_},(∀x∈ps.map (·.2.2),e x=e' x)->fill cs e ps=fill cs e' ps
 |[],_,_=>rfl
 |(off,n,x)::r,cs,h=>by
  simp only[fill];rw[h x B_];split;.exact aEu (fun y a=>h y (by simp at a |-;exact .inr a))
  .rfl
theorem rR{e e':aH->TV}{n:Nat}:∀ {ps:List (Nat×aH)} {es:List (List TV)},(∀x∈ps.map (·.2),e x=e' x)->dX es n e ps=dX es n e' ps
 |[],_,_=>rfl
 |(i,x)::r,es,h=>by
  simp only[dX];rw[h x B_];split;.exact rR (fun y a=>h y (by simp at a |-;exact .inr a))
  .rfl
theorem aAc{e e':aH->TV}{xs:List aH}(h:∀x∈xs,e x=e' x):xs.map e=xs.map e':=R9 h
theorem pL{e e':aH->TV}{x:Option aH}(h:∀y∈x.toList,e y=e' y):nL e x=nL e' x:=by
 cases x with
 |none=>rfl
 |some x=>simp only[nL];rw[h x B_]
theorem yP{op:TOp}{e e':aH->TV}(h:∀x∈aQ op,e x=e' x):aU op e=aU op e':=by
 cases op<;>simp only[aQ,J_,W8,U_,H2,X4,forall_eq]at h<;>simp only[aU]
 case mov=>rw[h]
 case pick=>rw[h.1,h.2.1,h.2.2]
 case build=>rw[aEu h]
 case lit mu z len ps =>
  cases mu
  .simp only;rw[rR h]
  .rfl
 case nilCheck=>rw[h]
 case bin=>rw[h.1,h.2]
 case eqB=>rw[h.1,h.2]
 case eqAgg=>rw[h.1,h.2]
 case un=>rw[h]
 case conv=>rw[h]
 case mkFn f xs ys =>rw[aAc (fun x a=>h x (.inl a)),aAc (fun x a=>h x (.inr a))]
 case fieldAddr=>rw[h]
 case field=>rw[h]
 case indexAddrS=>rw[h.1,h.2]
 case indexAddrA=>rw[h.1,h.2]
 case indexA=>rw[h.1,h.2]
 case indexS=>rw[h.1,h.2]
 case extract=>rw[h]
 case cap=>rw[h]
 case minmax=>rw[aAc h]
theorem aKm{op:TOp}{e e':aH->TV}(env:Env)(S:aA)(h:∀x∈aQ op,e x=e' x):aO op e env S=aO op e' env S:=by
 cases op<;>simp only[aQ,J_,W8,U_,H2,X4,forall_eq]at h<;>simp only[aO]
 case load1=>rw[h]
 case loadN=>rw[h]
 case conv k x=>cases k<;>simp only<;>rw[h]
 case slice k x lo hi mx =>rw[h.1,pL (fun y a=>h.2 y (.inl (.inl a))),pL (fun y a=>h.2 y (.inl (.inr a))),pL (fun y a=>h.2 y (.inr a))]
 case lookup=>rw[h.1,h.2]
 case entryM=>rw[h]
 case len=>rw[h]
theorem pM{op:TOp}{e e':aH->TV}(n:Nat)(h:∀x∈aQ op,e x=e' x):bP op e n=bP op e' n:=by
 cases op<;>simp only[aQ,J_,W8,U_,H2,X4,forall_eq]at h<;>simp only[bP]
 case boxH=>rw[h]
 case lit=>rw[rR h]
 case mkSlice=>rw[h.1,h.2]
theorem aNh{op:TOp}{e:aH->TV}{n:Nat}{v:TV}{b:aG}(h:bP op e n=some (v,b)):∃a:Nat->TV,a n=v/\∀m,bP op e m=some (a m,b):=by
 cases op<;>simp only[bP]at h |-<;>try (simp at h;done)
 case allocH t z=>simp at h;obtain⟨rfl,rfl⟩:=h;exact⟨fun m=>.ptr m t 0,rfl,fun m=>rfl⟩
 case boxH t x =>
  split at h;.simp at h
  .rename_i hc;simp at h;obtain⟨rfl,rfl⟩:=h;exact⟨fun m=>.ptr m t 0,rfl,fun m=>by simp only[I_ hc]⟩
 case lit mu z len ps =>
  split at h;.rename_i es hes;simp at h;obtain⟨rfl,rfl⟩:=h;exact⟨fun m=>.msl m 0 0 es.length es.length z.length,rfl,fun m=>rfl⟩
  .simp at h
 case mkMap=>simp at h;obtain⟨rfl,rfl⟩:=h;exact⟨fun m=>.map m,rfl,fun m=>rfl⟩
 case mkSlice z bytes l c =>
  split at h
  .rename_i l' c' _ _;split at h;.rename_i hc;simp at h;obtain⟨rfl,rfl⟩:=h;refine⟨fun m=>.msl m 0 0 l'.toNat c'.toNat z.length,rfl,fun m=>?_⟩;simp only[K_ hc]
   .simp at h
  .simp at h
theorem aNi{op:TOp}{e:aH->TV}{env:Env}{S:aA}(h:xX op=false):aO op e env S=none:=by
 cases op<;>simp only[xX,Bool.true_eq_false]at h<;>simp only[aO]
 case conv k x=>cases k<;>simp only[Bool.true_eq_false]at h<;>simp only
theorem eD{α:Type}{l:List α}{i:Nat}{x:α}(t:List α)(h:l[i]?=some x):(l++t)[i]?=some x:=by rw[W_ (E_.1 h).1];exact h
theorem wA{env:Env}{S:aA}(T:aA){a:TV}{n:Nat}{cs:Tn_}(h:bQ env S a n=some cs):bQ env (S++T) a n=some cs:=by
 unfold bQ at h |-;split at h;.exact h
 .split at h;.rename_i hs;simp only[eD T hs];exact h
  .rename_i hs;simp only[eD T hs];exact h
  .simp at h
 .exact h
 .simp at h
theorem aKn{S:aA}(T:aA){a:TV}{l:Tp_}(h:cH S a=some l):cH (S++T) a=some l:=by
 unfold cH at h |-;split at h;.exact h
 .exact h
 .split at h;.rename_i hs;simp only[eD T hs];exact h
  .rename_i hs;simp only[eD T hs];exact h
  .simp at h
 .simp at h
theorem aRd{S:aA}(T:aA){a:TV}{n:Nat}(h:lenOf S a=some n):lenOf (S++T) a=some n:=by
 unfold lenOf at h |-;split at h;all_goals first
  |exact h
  |skip
 split at h;.rename_i hs;simp only[eD T hs];exact h
 .simp at h
theorem aRe{S:aA}(T:aA){b v:Nat}(h:rZ S b v=true):rZ (S++T) b v=true:=by
 unfold rZ at h |-;split at h;.rename_i hs;simp only[eD T hs];exact h
 .rename_i hs;simp only[eD T hs];exact h
 .simp at h
theorem aKo{S:aA}(T:aA){k:SK}{x r:TV}{a c b:Option Int}(h:fA S k x a c b=some r):fA (S++T) k x a c b=some r:=by
 unfold fA at h |-;split at h;.exact h
 .exact h
 .exact h
 .exact h
 .split at h;.simp at h
  .rename_i hc;rw[G6]at hc;have d:rZ (S++T) _ _=true:=aRe T (by simpa using hc.2);rw[I_ (by rw[G6];exact⟨hc.1,by rw[d];simp⟩)];exact h
 .split at h
  .split at h;.rename_i hs;simp only[eD T hs];exact h
   .simp at h
  .exact h
  .simp at h
 .simp at h
theorem aBg{kk:KK}{S:aA}(T:aA){m:TV}{k:IV}{r:Option (Nat×TV)}(h:rG kk S m k=some r):rG kk (S++T) m k=some r:=by
 unfold rG at h |-;split at h;.exact h
 .split at h;.rename_i hs;simp only[eD T hs];exact h
  .simp at h
 .simp at h
theorem aNj{op:TOp}{e:aH->TV}{env:Env}{S:aA}(T:aA){v:TV}(h:aO op e env S=some v):aO op e env (S++T)=some v:=by
 cases op<;>simp only[aO]at h |-<;>try (simp at h;done)
 case load1 =>
  split at h;.rename_i cs hg;rw[wA T hg];exact h
  .simp at h
 case loadN =>
  split at h;.rename_i cs hg;rw[wA T hg];exact h
  .simp at h
 case conv k x =>
  cases k<;>simp only at h |-<;>try (simp at h;done)
  split at h;.rename_i l hl;rw[aKn T hl];exact h
  .simp at h
 case slice =>
  split at h;.rename_i h1 h2 h3;exact aKo T h
  .simp at h
 case lookup =>
  split at h
  .split at h;.simp at h
   .rename_i hk;rw[I_ hk];split at h;.rename_i hl;rw[aBg T hl];exact h
    .rename_i hl;rw[aBg T hl];exact h
    .simp at h
  .simp at h
 case entryM =>
  split at h
  .split at h
   .rename_i hs;simp only[eD T hs];split at h;.rename_i hm hst;simp only[eD T hm,hst];exact h
    .simp at h
   .simp at h
  .simp at h
 case len =>
  split at h;.rename_i hk;rw[K_ hk];simp only[G_]at h |-;obtain⟨n,a,rfl⟩:=h;exact⟨n,aRd T a,rfl⟩
  .simp at h
theorem aYg{op:TOp}{env rs:Tn_}{S:aA}(T:aA){v:TV}(h:iZ K op env rs S=some v):iZ K op env rs (S++T)=some v:=by
 unfold iZ at h |-;split at h;.exact h
 .exact aNj T h
theorem aEv{op:TOp}{env rs a:Tn_}{S:aA}(h:∀x∈aQ op,aX K env rs x=aX K env a x):iZ K op env rs S=iZ K op env a S:=by unfold iZ;rw[yP h,aKm env S h]
end
end Go.TM
namespace Go.TM
open Go
section
variable {P:Program}{O:dE}{K:TM.bD}{A:Ann}
variable {M:Mem}{J:aF}{L:List (Option Nat)}{S S':aA}{env env':Env}{w:World}
def B(bef:List Nat)(i j:Nat):Prop:=(bef.getD i 0).testBit j=true
def aV1(K:TM.bD)(tops:List aK)(env rs:List TV)(S:aA)(y:Nat):Prop :=
 ∃to,tops[y]?=some to/\((dT to.guard rs=some false/\rs.getD y .hole=undef)\/(dT to.guard rs=some true/\iZ K to.op env rs S=some (rs.getD y .hole)))
def aV2(K:TM.bD)(tops:List aK)(env rs:List TV)(S:aA)(J:aF)(y i:Nat):Prop :=
 ∃(to:aK) (vf:Nat->TV) (b:aG),tops[y]?=some to/\dT to.guard rs=some true/\rs.getD y .hole=vf i/\(∀m,bP to.op (aX K env rs) m=some (vf m,b))/\J[i]?=some none/\S[i]?=some b
structure yQ (P:Program) (O:dE) (A:Ann) (nt:Nat) (bef:List Nat) (ops:List Oper) (tops:List aK):Prop where
 hs:fB A nt
 hd:tT nt ops
 ca:∀(k:Nat) (o:Oper),ops[k]?=some o->∃to,tops[k]?=some to/\aEs P O A ((ops.take k).map (·.dst)) o to
 tl:tops.length=ops.length
 opd:∀(k:Nat) (to:aK),tops[k]?=some to->∀tx∈aQ to.op,(∀r,tx=.reg r->B bef k r)/\(∀j,tx=.loc j->∀(w:Nat) (o:Oper) (t:Nat),ops[w]?=some o->o.dst=some t->A.slots[j]?=some t->B bef w k)
 nl:∀(k:Nat) (to:aK),tops[k]?=some to->isL to.op=false
 gd:∀(k:Nat) (to:aK),tops[k]?=some to->∀g want,to.guard=some (g,want)->B bef k g/\∃og t,ops[g]?=some og/\og.dst=some t
variable (P O K A) in
structure DS (nt n0 fm:Nat) (bef:List Nat) (ops:List Oper) (tops:List aK) (X:Nat->Prop) (run:Nat) (al:List (Nat×Nat)) (M:Mem) (J:aF) (L:List (Option Nat)) (S:aA) (env:Env) (w:World) (rs:List TV) (a:Act):Prop where
 rr:RR A nt ops tops X M J L env rs a
 ms:MS P O K M J L S env w
 sub:∀i,X i->run.testBit i=true
 cl:∀i,run.testBit i=true->∀j,B bef i j->run.testBit j=true
 xc:∀i,X i->∀j,B bef i j->X j
 pend:∀y,run.testBit y=true->¬X y->aV1 K tops env rs S y\/∃i,(y,i)∈al
 al1:∀y i,(y,i)∈al->run.testBit y=true/\¬X y/\aV2 K tops env rs S J y i
 al2:∀p q,p∈al->q∈al->(p.1=q.1\/p.2=q.2)->p=q
 rn:∀i,run.testBit i=true->i<ops.length
 al3:∀p∈al,n0<=p.2
 nj:n0<=J.length
 fx:∀y,run.testBit y=true->fm.testBit y=true\/X y
theorem aEw{op:TOp}(h:isL op=false):aP op=none:=by cases op<;>first|rfl|simp[isL]at h
theorem tY{i:Nat}{b:Tc_}{ops:List Oper}{tops:List aK}(h:yQ P O A i b ops tops){y:Nat}{to:aK}(c:tops[y]?=some to){env env' rs a:Tn_}(d:∀j,eK env' j=eK env j)(e:∀r,B b y r->a.getD r .hole=rs.getD r .hole): ∀x∈aQ to.op,aX K env rs x=aX K env' a x:=by
 intro x k;cases x with
 |reg r=>exact(e r ((h.opd y to c _ k).1 r rfl)).symm
 |loc j=>exact(d j).symm
 |cst v=>rfl
 |fn f=>rfl
 |glob g=>rfl
theorem rS{f:Nat}{b:Tc_}{ops:List Oper}{tops:List aK}(e:yQ P O A f b ops tops){y:Nat}{to:aK}(d:tops[y]?=some to){rs a:Tn_}(h:∀r,B b y r->a.getD r .hole=rs.getD r .hole):dT to.guard a=dT to.guard rs:=by
 unfold dT;cases hg:to.guard with
 |none=>rfl
 |some g =>obtain⟨g,c⟩:=g;simp only;rw[h g (e.gd y to d g c hg).1]
theorem WR.phantom(h:WR P O M J S w)(b:aG):WR P O M (J++[none]) (S++[b]) w:=by
 have c:∀ {i:Nat} {l:Loc},aF.at (J++[none]) i l->J.at i l:=by
  intro i l a;rcases mB a with a|⟨_,a⟩;.exact a
  .simp at a
 refine h.step (by simp[h.len]) (.refl _) (.push _ _) h.imm (fun i l s a f=>?_) (fun i k l l' a g e=>h.inj i k l l' (c a) (c g) e) (fun i l a=>h.lt i l (c a));refine .inr ⟨c a,?_,rfl,fun _=>rfl⟩;have d:i<S.length:=by rw[<-h.len];exact(E_.1 (c a)).1
 rwa [W_ d]at f
theorem aNk{b:Nat}(h:aF.has (J++[none]) b):J.has b:=by
 obtain⟨i,l,a,e⟩:=h;rcases mB a with a|⟨_,a⟩;.exact⟨i,l,a,e⟩
 .simp at a
theorem MS.phantom(h:MS P O K M J L S env w)(b:aG):MS P O K M (J++[none]) L (S++[b]) env w:=by refine⟨h.wr.phantom b,⟨h.lb.len,fun j cs e=>?_,h.lb.inj⟩,h.gl⟩;obtain⟨cb,d,a⟩:=h.lb.box j cs e;exact⟨cb,d,a.step rfl (.refl _) (fun _=>rfl) (.push _ _) (fun c=>a.1 (aNk c))⟩
theorem TrN.phantom{n:Nat}{own:Tm_}(h:MS P O K M J L S env w)(b:aG)(e:n<=J.length):TrN n own M J S w M (J++[none]) (S++[b]) w:=by
 refine⟨rfl,rfl,rfl,L_ _,.refl _,fun _ _ _ _=>rfl,.push _ _,fun i l a=>?_,fun i f d=>?_,fun _ _ _ _=>rfl⟩
 .rcases mB a with a|⟨_,a⟩;.exact .inr ⟨l,a,rfl⟩
  .simp at a
 .have c:i<J.length:=A_;exact⟨by rw[W_ c];exact d,by rw[W_ (by rw[<-h.wr.len];exact c)]⟩
theorem RR.mono{m:Nat}{ops:List Oper}{tops:List aK}{D:Tm_}{rs:Tn_}{a:Act}(h:RR A m ops tops D M J L env rs a){M':Mem}{J':aF}(d:MLe M M')(g:JLe J J'):RR A m ops tops D M' J' L env rs a :=
 ⟨h.sz,h.len,h.nlp,h.rl,fun k o t e i l=>(h.reg k o t e i l).mono d g,fun j t b c=>(h.val j t b c).mono d g,fun k o to j t e i f n l b=>(h.lbs k o to j t e i f n l b).mono d g⟩
theorem RR.regs{c:Nat}{ops:List Oper}{tops:List aK}{D:Tm_}{rs b:Tn_}{a:Act}(h:RR A c ops tops D M J L env rs a)(f:b.length=rs.length)(e:∀k,D k->b.getD k .hole=rs.getD k .hole):RR A c ops tops D M J L env b a :=
 ⟨h.sz,h.len,h.nlp,f.trans h.rl,fun k o t d g i=>by rw[e k d];exact h.reg k o t d g i,h.val,h.lbs⟩
theorem eE{m i y:Nat}:(m ||| 2 ^ i).testBit y=true↔m.testBit y=true\/y=i:=by rw[O3,D3,T0,p_];exact or_congr Iff.rfl eq_comm
theorem bM6{a b:Nat}(h:(a &&& b==a)=true){j:Nat}(c:a.testBit j=true):b.testBit j=true:=by
 have h:=eq_of_beq h;have:(a &&& b).testBit j=true:=by rw[h];exact c
 rw[Y0,O_]at this;exact this.2
theorem mQ{c:Tc_}{i a b:Nat}{d:Tc_}(h:lL c (i::d) a=some b):a.testBit i=false/\(∀j,B c i j->a.testBit j=true)/\lL c d (a ||| 2 ^ i)=some b:=by
 simp only[lL]at h;split at h;.rename_i hc;simp only[O_,D5]at hc;exact⟨hc.1,fun j e=>bM6 hc.2 e,h⟩
 .simp at h
theorem DS.floats{nt n fm:Nat}{s:Tc_}{ops:List Oper}{tops:List aK}(N:yQ P O A nt s ops tops){X:Tm_}{a:Act}{own:Tm_}:∀ {is:Tc_} {f C:Nat} {al:List (Nat×Nat)} {J:aF} {S S':aA} {rs Q:Tn_},(∀i∈is,i<ops.length/\fm.testBit i=true)->DS P O K A nt n fm s ops tops X f al M J L S env w rs a->lL s is f=some C->dZ K tops is rs env S=some (Q,S') ->∃F J',DS P O K A nt n fm s ops tops X C F M J' L S' env w Q a/\TrN n own M J S w M J' S' w
 |[],f,C,al,J,S,S',rs,Q,_,h,Z,z=>by simp[lL]at Z;subst Z;simp[dZ]at z;obtain⟨rfl,rfl⟩:=z;exact⟨al,J,h,(Tr.refl own M J S w).trN n⟩
 |i::is,f,C,al,J,S,S',rs,Q,hil,h,Z,z=>by
  obtain⟨h1,h2,h3⟩:=mQ Z;have G:i<ops.length:=(hil i B_).1;obtain⟨to,D,ho⟩:=N.ca i ops[i] (D_ G);have hh:i<rs.length:=by rw[h.rr.rl];exact G
  have h5:¬X i:=fun hx=>by rw[h.sub i hx]at h1;simp at h1
  have d:∀(v:TV),(rs.set i v).length=rs.length/\(rs.set i v).getD i .hole=v/\∀k,k≠i->(rs.set i v).getD k .hole=rs.getD k .hole:=fun v=>jH hh v;have U:∀(v:TV) (y:Nat),f.testBit y=true->∀r,B s y r->(rs.set i v).getD r .hole=rs.getD r .hole:=fun v y c r Z=>(d v).2.2 r (fun e=>by have:=h.cl y c r Z;rw[e,h1]at this;simp at this);have h0:∀y,f.testBit y=true->y≠i:=fun y c e=>by rw[e,h1]at c;simp at c
  have l:∀(v:TV) (T:aA) (J':aF),J'=J++T.map (fun _=>none)->(aV1 K tops env (rs.set i v) (S++T) i\/∃k,k=S.length/\T≠[]/\aV2 K tops env (rs.set i v) (S++T) J' i k)->MS P O K M J' L (S++T) env w->JLe J J' ->
    ∃F,DS P O K A nt n fm s ops tops X (f ||| 2 ^ i) F M J' L (S++T) env w (rs.set i v) a:=by
   intro v T J' hn hp ha Y
   have W:∀y,X y->(f ||| 2 ^ i).testBit y=true:=fun y c=>eE.2 (.inl (h.sub y c))
   have h8:∀y,(f ||| 2 ^ i).testBit y=true->∀j,B s y j->(f ||| 2 ^ i).testBit j=true:=by
    intro y c j hj;rcases eE.1 c with c|rfl;.exact eE.2 (.inl (h.cl y c j hj))
    .exact eE.2 (.inl (h2 j hj))
   have hi:RR A nt ops tops X M J' L env (rs.set i v) a:=(h.rr.mono (.refl _) Y).regs (d v).1 (fun k V=>(d v).2.2 k (fun e=>h5 (e▸V)))
   have p1:∀y,f.testBit y=true->aV1 K tops env rs S y->aV1 K tops env (rs.set i v) (S++T) y:=by
    rintro y c ⟨ty,u,hc⟩;refine⟨ty,u,?_⟩;rw[rS N u (U v y c),(d v).2.2 y (h0 y c)];rcases hc with hc|⟨g,hc⟩;.exact .inl hc
    .refine .inr ⟨g,?_⟩;rw[<-aEv (tY N u (fun _=>rfl) (U v y c))];exact aYg T hc
   have pa:∀y k,f.testBit y=true->aV2 K tops env rs S J y k->aV2 K tops env (rs.set i v) (S++T) J' y k:=by
    rintro y k c ⟨ty,vf,b,u,g,E,e2,e3,e4⟩;refine⟨ty,vf,b,u,?_,?_,fun m=>?_,?_,eD T e4⟩;.rw[rS N u (U v y c)];exact g
    .rw[(d v).2.2 y (h0 y c)];exact E
    .rw[<-pM m (tY N u (fun _=>rfl) (U v y c))];exact e2 m
    .rw[hn];exact eD _ e3
   have he:∀y,(f ||| 2 ^ i).testBit y=true->y<ops.length:=fun y c=>by
    rcases eE.1 c with c|rfl;.exact h.rn y c
    .exact G
   have h9:∀y,(f ||| 2 ^ i).testBit y=true->fm.testBit y=true\/X y:=fun y c=>by
    rcases eE.1 c with c|rfl;.exact h.fx y c
    .exact .inl (hil y B_).2
   have h6:n<=J'.length:=C0 h.nj Y.1
   rcases hp with hp|⟨k,V,hT,hp⟩
   .refine⟨al,hi,ha,W,h8,h.xc,fun y c hX=>?_,fun y k H=>?_,h.al2,he,h.al3,h6,h9⟩
    .rcases eE.1 c with c|rfl
     .rcases h.pend y c hX with h'|h'
      .exact .inl (p1 y c h')
      .exact .inr h'
     .exact .inl hp
    .obtain⟨E,e2,e3⟩:=h.al1 y k H
     exact⟨eE.2 (.inl E),e2,pa y k E e3⟩
   .refine⟨(i,k)::al,hi,ha,W,h8,h.xc,fun y c hX=>?_,fun y k' H=>?_,fun p q o R h4=>?_,he,fun p o=>?_,h6,h9⟩
    .rcases eE.1 c with c|rfl
     .rcases h.pend y c hX with h'|⟨k',h'⟩
      .exact .inl (p1 y c h')
      .exact .inr ⟨k',by simp[h']⟩
     .exact .inr ⟨k,by simp⟩
    .rcases J_.1 H with e|H
     .simp at e;obtain⟨rfl,rfl⟩:=e
      exact⟨eE.2 (.inr rfl),h5,hp⟩
     .obtain⟨E,e2,e3⟩:=h.al1 y k' H
      exact⟨eE.2 (.inl E),e2,pa y k' E e3⟩
    .have I:∀q:Nat×Nat,q∈al->q.1≠i/\q.2≠k:=by
      intro q z
      obtain⟨E,_,_,_,_,_,_,_,_,_,e4⟩:=h.al1 q.1 q.2 z
      exact⟨h0 q.1 E,fun e=>by have:=(E_.1 e4).1;omega⟩
     rcases J_.1 o with rfl|o<;>rcases J_.1 R with rfl|R
     .rfl
     .obtain⟨E,e2⟩:=I q R
      rcases h4 with e|e
      .exact absurd e.symm E
      .exact absurd e.symm e2
     .obtain⟨E,e2⟩:=I p o
      rcases h4 with e|e
      .exact absurd e E
      .exact absurd e e2
     .exact h.al2 p q o R h4
    .rcases J_.1 o with rfl|o
     .show n<=k
      rw[V,<-h.ms.wr.len];exact h.nj
     .exact h.al3 p o
  simp only[dZ,D]at z;have gs:∀v,dT to.guard (rs.set i v)=dT to.guard rs:=fun v=>by
   unfold dT;cases hg:to.guard with
   |none=>rfl
   |some g =>obtain⟨g,h7⟩:=g;simp only;rw[(d v).2.2 g (fun e=>by have:=h2 g (N.gd i to D g h7 hg).1;rw[e,h1]at this;simp at this)]
  have os:∀v,∀x∈aQ to.op,aX K env rs x=aX K env (rs.set i v) x:=fun v=>tY N D (fun _=>rfl) (fun r Z=>(d v).2.2 r (fun e=>by have:=h2 r Z;rw[e,h1]at this;simp at this));split at z;.simp at z
  .rename_i hg;obtain⟨F,t⟩:=l undef [] J B_ (.inl ⟨to,D,.inl ⟨by rw[gs];exact hg,(d undef).2.1⟩⟩) (by simpa using h.ms) (.refl _);rw[A0]at t;exact DS.floats N (fun k V=>hil k (by simp[V])) t h3 z
  .rename_i hg;split at z;.rename_i v hv;obtain⟨F,t⟩:=l v [] J B_ (.inl ⟨to,D,.inr ⟨by rw[gs];exact hg,by rw[(d v).2.1,A0,<-aEv (os v)];exact hv⟩⟩) (by simpa using h.ms) (.refl _);rw[A0]at t;exact DS.floats N (fun k V=>hil k (by simp[V])) t h3 z
   .split at z;.rename_i v b hv;obtain⟨vf,hm,hd⟩:=aNh hv;obtain⟨F,t⟩:=l v [b] (J++[none]) B_ (.inr ⟨S.length,rfl,by simp,to,vf,b,D,by rw[gs];exact hg,by rw[(d v).2.1,hm],fun m=>by rw[<-pM m (os v)];exact hd m,by rw[<-h.ms.wr.len];simp,by simp⟩) (h.ms.phantom b) (.push _ _);obtain⟨hl,J2,r1,r2⟩:=DS.floats (own:=own) N (fun k V=>hil k (by simp[V])) t h3 z;exact⟨hl,J2,r1,(TrN.phantom h.ms b h.nj).trans r2 (fun b hb=>.inl hb)⟩
    .simp at z
end
end Go.TM
