/- A part of the evaluator TM, and of the proof that what it computes the model does. Condition: none. -/
import Derived.Test.YtehlgnfhkidgoaaGreatDoorTmB
import Derived.RangeFuncIn
import Derived.OrdersIn
import Derived.RangeFuncRecord
namespace Go.TM
open Go
inductive bY (P:Program) (O:dH) (A:Ann) (dsts:List (Option Nat)) (slot:Option Nat):Op->TOp->Prop
 |mov (x:Operand) (tx:aH) (hx:opd A dsts x=some tx):bY P O A dsts slot (.move x) (.mov tx)
 |assign (x:Operand) (tx:aH) (hx:opd A dsts x=some tx):bY P O A dsts slot (.assign x) (.mov tx)
 |pick (c x y:Operand) (tc tx ty:aH) (hc:opd A dsts c=some tc) (hx:opd A dsts x=some tx) (hy:opd A dsts y=some ty):bY P O A dsts slot (.pick c x y) (.pick tc tx ty)
 |allocL (t:TypeId) (z:List IV) (j:Nat) (hz:eX P t=some z) (hj:slot=some j):bY P O A dsts slot (.alloc t) (.allocL j z)
 |allocH (t:TypeId) (z:List IV) (hz:eX P t=some z):bY P O A dsts slot (.alloc t) (.allocH (t+1) z)
 |boxL (t:TypeId) (x:Operand) (tx:aH) (j:Nat) (hx:opd A dsts x=some tx) (hj:slot=some j):bY P O A dsts slot (.box t x) (.boxL j tx)
 |boxH (t:TypeId) (x:Operand) (tx:aH) (hx:opd A dsts x=some tx):bY P O A dsts slot (.box t x) (.boxH (t+1) tx)
 |buildS (t:TypeId) (ps:Array (Nat×Operand)) (z:List IV) (fs:Array Field) (tps:List (Nat×Nat×aH)) (hz:eX P t=some z) (ht:P.underlying t=some (.struct fs)) (hpl:(aJ9 P fs).isSome=true)
   (hps:aHf P A dsts fs ps.toList=some tps):bY P O A dsts slot (.build t ps) (.build z tps)
 |buildA (t el:TypeId) (k n:Nat) (ps:Array (Nat×Operand)) (z:List IV) (tps:List (Nat×Nat×aH)) (hz:eX P t=some z) (ht:P.underlying t=some (.array k el)) (hn:sizeOf? P el=some n)
   (hps:zO A dsts n ps.toList=some tps):bY P O A dsts slot (.build t ps) (.build z tps)
 |lit (mu:Bool) (t el:TypeId) (len:Nat) (ps:Array (Nat×Operand)) (z:List IV) (tps:List (Nat×aH)) (ht:P.underlying t=some (.slice el)) (hz:eX P el=some z) (hz0:z.length≠0) (hbig:len*z.length<=16777216)
   (hps:zP A dsts ps.toList=some tps):bY P O A dsts slot (.buildSlice t len ps) (.lit mu z len tps)
 |load1 (t:TypeId) (x:Operand) (tx:aH) (n:Nat) (hag:isAgg? P t=some false) (hn:sizeOf? P t=some n) (hx:opd A dsts x=some tx):bY P O A dsts slot (.load t x) (.load1 tx)
 |loadN (t:TypeId) (x:Operand) (tx:aH) (n:Nat) (hag:isAgg? P t=some true) (hn:sizeOf? P t=some n) (hx:opd A dsts x=some tx):bY P O A dsts slot (.load t x) (.loadN n tx)
 |store (t:TypeId) (x y:Operand) (tx ty:aH) (n:Nat) (hn:sizeOf? P t=some n) (hx:opd A dsts x=some tx) (hy:opd A dsts y=some ty):bY P O A dsts slot (.store t x y) (.store n tx ty)
 |nilCheck (x:Operand) (tx:aH) (hx:opd A dsts x=some tx):bY P O A dsts slot (.nilCheck x) (.nilCheck tx)
 |bin (op:BinOp) (t u:TypeId) (x y:Operand) (tx ty:aH) (hx:opd A dsts x=some tx) (hy:opd A dsts y=some ty):bY P O A dsts slot (.binOp op t x y u) (.bin op tx ty)
 |eqB (op:BinOp) (t u:TypeId) (x y:Operand) (tx ty:aH) (k:EK) (ho:op=.eql\/op=.neq) (hk:qX P t=some (.b k)) (hx:opd A dsts x=some tx) (hy:opd A dsts y=some ty):
   bY P O A dsts slot (.binOp op t x y u) (.eqB (op==.neq) k tx ty)
 |eqAgg (op:BinOp) (t u:TypeId) (x y:Operand) (tx ty:aH) (cL:List (Nat×LK)) (ho:op=.eql\/op=.neq) (hk:qX P t=some (.agg cL)) (hx:opd A dsts x=some tx) (hy:opd A dsts y=some ty):
   bY P O A dsts slot (.binOp op t x y u) (.eqAgg (op==.neq) cL tx ty)
 |un (op:UnOp) (t:TypeId) (x:Operand) (tx:aH) (hx:opd A dsts x=some tx):bY P O A dsts slot (.unOp op t x) (.un op tx)
 |toInt (s d:TypeId) (x:Operand) (tx:aH) (k0 k:IntKind) (hs:P.underlying s=some (.int k0)) (hd:P.underlying d=some (.int k)) (hx:opd A dsts x=some tx):bY P O A dsts slot (.convert s d x) (.conv (.toInt k) tx)
 |intStr (s d:TypeId) (x:Operand) (tx:aH) (k0:IntKind) (hs:P.underlying s=some (.int k0)) (hd:P.underlying d=some .string) (hx:opd A dsts x=some tx):bY P O A dsts slot (.convert s d x) (.conv .intStr tx)
 |strStr (s d:TypeId) (x:Operand) (tx:aH) (hs:P.underlying s=some .string) (hd:P.underlying d=some .string) (hx:opd A dsts x=some tx):bY P O A dsts slot (.convert s d x) (.conv .strStr tx)
 |strBytes (s d e:TypeId) (x:Operand) (tx:aH) (hs:P.underlying s=some .string) (hd:P.underlying d=some (.slice e)) (he:P.underlying e=some (.int .u8)) (hx:opd A dsts x=some tx):bY P O A dsts slot (.convert s d x) (.conv .strBytes tx)
 |bytesStr (s d e:TypeId) (x:Operand) (tx:aH) (hs:P.underlying s=some (.slice e)) (hd:P.underlying d=some .string) (he:P.underlying e=some (.int .u8)) (hx:opd A dsts x=some tx):bY P O A dsts slot (.convert s d x) (.conv .bytesStr tx)
 |mkFn (f:FuncId) (first cap:Array Operand) (xs ys:List aH) (hx:wK A dsts first.toList=some xs) (hy:wK A dsts cap.toList=some ys):bY P O A dsts slot (.makeFunc (.func f) first cap) (.mkFn f xs ys)
 |mkMap (t kt el:TypeId) (ht:P.underlying t=some (.map kt el)):bY P O A dsts slot (.makeMap t none) .mkMap
 |mkSlice (t el:TypeId) (x y:Operand) (tx ty:aH) (z:List IV) (b:Nat) (ht:P.underlying t=some (.slice el)) (hz:eX P el=some z) (hb:bytesOf? P el=some b) (hx:opd A dsts x=some tx) (hy:opd A dsts y=some ty):
   bY P O A dsts slot (.makeSlice t x y) (.mkSlice z b tx ty)
 |slice (t:TypeId) (k:SK) (x:Operand) (lo hi mx:Option Operand) (tx:aH) (tlo thi tmx:Option aH) (ht:bMl P t k) (hx:opd A dsts x=some tx) (h1:aJ8 A dsts lo=some tlo) (h2:aJ8 A dsts hi=some thi) (h3:aJ8 A dsts mx=some tmx):
   bY P O A dsts slot (.slice t x lo hi mx) (.slice k tx tlo thi tmx)
 |fieldAddr (t:TypeId) (x:Operand) (f:Nat) (fs:Array Field) (fd:Field) (n:Nat) (tx:aH) (ht:P.underlying t=some (.struct fs)) (hf:fs[f]?=some fd) (hn:sizeOf? P fd.type=some n) (hn0:n≠0) (hx:opd A dsts x=some tx):
   bY P O A dsts slot (.fieldAddr t x f) (.fieldAddr fd.offset tx)
 |field (t:TypeId) (x:Operand) (f:Nat) (fs:Array Field) (fd:Field) (n:Nat) (ag:Bool) (tx:aH) (ht:P.underlying t=some (.struct fs)) (hf:fs[f]?=some fd) (hn:sizeOf? P fd.type=some n) (hag:isAgg? P fd.type=some ag)
   (hx:opd A dsts x=some tx):bY P O A dsts slot (.field t x f) (.field fd.offset (if ag then n else 1) ag tx)
 |indexAddrS (t el:TypeId) (x i:Operand) (n:Nat) (tx ti:aH) (ht:P.underlying t=some (.slice el)) (hn:sizeOf? P el=some n) (hx:opd A dsts x=some tx) (hi:opd A dsts i=some ti):bY P O A dsts slot (.indexAddr t x i) (.indexAddrS n tx ti)
 |indexAddrA (t el:TypeId) (x i:Operand) (len n:Nat) (tx ti:aH) (ht:P.underlying t=some (.array len el)) (hn:sizeOf? P el=some n) (hx:opd A dsts x=some tx) (hi:opd A dsts i=some ti):
   bY P O A dsts slot (.indexAddr t x i) (.indexAddrA len n tx ti)
 |indexS (t:TypeId) (x i:Operand) (tx ti:aH) (ht:P.underlying t=some .string) (hx:opd A dsts x=some tx) (hi:opd A dsts i=some ti):bY P O A dsts slot (.index t x i) (.indexS tx ti)
 |indexA (t el:TypeId) (x i:Operand) (len n:Nat) (ag:Bool) (tx ti:aH) (ht:P.underlying t=some (.array len el)) (hn:sizeOf? P el=some n) (hag:isAgg? P el=some ag) (hx:opd A dsts x=some tx) (hi:opd A dsts i=some ti):
   bY P O A dsts slot (.index t x i) (.indexA len n ag tx ti)
 |lookup (t kt el:TypeId) (m k:Operand) (ok:Bool) (kk:KK) (zi:IV) (tm tk:aH) (ht:P.underlying t=some (.map kt el)) (hkk:iB P kt=some kk) (hz:aAv P el=some zi) (hm:opd A dsts m=some tm) (hk:opd A dsts k=some tk):bY P O A dsts slot (.lookup t m k ok) (.lookup kk zi ok tm tk)
 |update (t kt el:TypeId) (m k v:Operand) (kk:KK) (tm tk tv:aH) (ht:P.underlying t=some (.map kt el)) (hkk:iB P kt=some kk) (hm:opd A dsts m=some tm) (hk:opd A dsts k=some tk) (hv:opd A dsts v=some tv):
   bY P O A dsts slot (.mapUpdate t m k v) (.update kk tm tk tv)
 |entry (t kt el:TypeId) (m k:Operand) (kk:KK) (zi:IV) (tm tk:aH) (ht:P.underlying t=some (.map kt el)) (hkk:iB P kt=some kk) (hz:aAv P el=some zi) (hm:opd A dsts m=some tm) (hk:opd A dsts k=some tk):bY P O A dsts slot (.mapEntry t m k) (.entry kk zi tm tk)
 |entryStore (t:TypeId) (m s v:Operand) (tm ts tv:aH) (hm:opd A dsts m=some tm) (hs:opd A dsts s=some ts) (hv:opd A dsts v=some tv):bY P O A dsts slot (.entryStore t m s v) (.entryStore tm ts tv)
 |rangeS (t:TypeId) (x:Operand) (tx:aH) (ht:P.underlying t=some .string) (hx:opd A dsts x=some tx):bY P O A dsts slot (.range t x) (.range true tx)
 |rangeM (t kt el:TypeId) (x:Operand) (tx:aH) (ht:P.underlying t=some (.map kt el)) (hx:opd A dsts x=some tx):bY P O A dsts slot (.range t x) (.range false tx)
 |nextS (x:Operand) (tx:aH) (hx:opd A dsts x=some tx):bY P O A dsts slot (.next x true) (.nextS tx)
 |nextM (x:Operand) (tx:aH) (hx:opd A dsts x=some tx):bY P O A dsts slot (.next x false) (.nextM tx)
 |entryM (x:Operand) (tx:aH) (hx:opd A dsts x=some tx):bY P O A dsts slot (.entry x) (.entryM tx)
 |extract (x:Operand) (tx:aH) (i:Nat) (hx:opd A dsts x=some tx):bY P O A dsts slot (.extract x i) (.extract i tx)
 |builtin (mu:Bool) (c:Call) (b:Builtin) (top:TOp) (hc:c.callee=.builtin b) (h:fV P A mu dsts b c.argTypes.toList c.args.toList=some top):bY P O A dsts slot (.call c) top
 | call (pure trunc : Bool) (c : Call) (f : FuncId) (fn : Func) (args : List aH) (hc : c.callee = .value (.func f)) (hfn : P.funcs[f]? = some fn) (hb : fn.body.isSome = true) (hng : fn.name ≠ "runtime.NumGoroutine") (ha : wK A dsts c.args.toList = some args) :
   bY P O A dsts slot (.call c) (.call pure trunc f args)
 |prim (c:Call) (f:FuncId) (args:List aH) (hc:c.callee=.value (.func f)) (ha:wK A dsts c.args.toList=some args):bY P O A dsts slot (.call c) (.prim f args)
 |callv (c:Call) (x:Operand) (tx:aH) (args:List aH) (hc:c.callee=.value x) (hx:opd A dsts x=some tx) (ha:wK A dsts c.args.toList=some args):bY P O A dsts slot (.call c) (.callv tx args)
section
variable {P:Program}{O:dH}{A:Ann}{dsts:List (Option Nat)}
theorem aYf{mu a:Bool}{d:Option Nat}{c:Call}{top:TOp}(h:aQ0 P O A mu a dsts c=some top):bY P O A dsts d (.call c) top:=by
 unfold aQ0 at h;split at h;.rename_i b hc;exact .builtin mu c b top hc h
 .rename_i f hc;split at h
  .rename_i args ha;split at h;.simp at h;subst h;exact .prim c f args hc ha
   .split at h
    .rename_i fn hfn;split at h;.rename_i hb;simp at h;subst h;simp at hb;exact .call _ _ c f fn args hc hfn hb.1 hb.2 ha
     .simp at h
    .simp at h
  .simp at h
 .rename_i x hx0 hc;split at h;.rename_i tx args hx ha;simp at h;subst h;exact .callv c x tx args hc hx ha
  .simp at h
 .simp at h
theorem aM8{mu q w:Bool}{o:Oper}{top:TOp}(h:wL P O A mu q w dsts o=some top):bY P O A dsts (o.dst.bind fun t=>eE t A.slots 0) o.op top:=by
 unfold wL at h;simp only at h;split at h;.rename_i x hop;rw[hop];simp only[G_]at h;obtain⟨tx,g,rfl⟩:=h;exact .mov x tx g
 .rename_i x hop;rw[hop];simp only[G_]at h;obtain⟨tx,g,rfl⟩:=h;exact .assign x tx g
 .rename_i c x y hop;rw[hop];split at h;.rename_i tc tx ty hc g hy;simp at h;subst h;exact .pick c x y tc tx ty hc g hy
  .simp at h
 .rename_i t hop;rw[hop];split at h
  .rename_i z hz;split at h;.simp only[G_]at h;obtain⟨j,C,rfl⟩:=h;exact .allocL t z j hz C
   .simp at h;subst h;exact .allocH t z hz
  .simp at h
 .rename_i t x hop;rw[hop];split at h
  .rename_i tx g;split at h;.simp only[G_]at h;obtain⟨j,C,rfl⟩:=h;exact .boxL t x tx j g C
   .simp at h;subst h;exact .boxH t x tx g
  .simp at h
 .rename_i t ps hop;rw[hop];split at h
  .rename_i z fs hz ht;split at h;.rename_i hpl;simp only[G_]at h;obtain⟨tps,l,rfl⟩:=h;exact .buildS t ps z fs tps hz ht hpl l
   .simp at h
  .rename_i z k el hz ht;split at h;.rename_i n hn;simp only[G_]at h;obtain⟨tps,l,rfl⟩:=h;exact .buildA t el k n ps z tps hz ht hn l
   .simp at h
  .simp at h
 .rename_i t len ps hop;rw[hop];split at h
  .rename_i el ht;split at h
   .rename_i z tps hz l;split at h;.simp at h
    .rename_i hc;rw[H2]at hc;simp at h;subst h;exact .lit mu t el len ps z tps ht hz hc.1 A_ l
   .simp at h
  .simp at h
 .rename_i t x hop;rw[hop];split at h;.rename_i n tx hag hn g;simp at h;subst h;exact .loadN t x tx n hag hn g
  .rename_i n tx hag hn g;simp at h;subst h;exact .load1 t x tx n hag hn g
  .simp at h
 .rename_i t x y hop;rw[hop];split at h;.rename_i n tx ty hn g hy;simp at h;subst h;exact .store t x y tx ty n hn g hy
  .simp at h
 .rename_i x hop;rw[hop];simp only[G_]at h;obtain⟨tx,g,rfl⟩:=h;exact .nilCheck x tx g
 .rename_i op t x y u hop;rw[hop];split at h
  .rename_i tx ty g hy;split at h
   .split at h;.simp at h;subst h;exact .bin _ t u x y tx ty g hy
    .rename_i k hk;simp at h;subst h;exact .eqB _ t u x y tx ty k (.inl rfl) hk g hy
    .rename_i cL hk;simp at h;subst h;exact .eqAgg _ t u x y tx ty cL (.inl rfl) hk g hy
    .simp at h
   .split at h;.simp at h;subst h;exact .bin _ t u x y tx ty g hy
    .rename_i k hk;simp at h;subst h;exact .eqB _ t u x y tx ty k (.inr rfl) hk g hy
    .rename_i cL hk;simp at h;subst h;exact .eqAgg _ t u x y tx ty cL (.inr rfl) hk g hy
    .simp at h
   .simp at h;subst h;exact .bin _ t u x y tx ty g hy
  .simp at h
 .rename_i op t x hop;rw[hop];simp only[G_]at h;obtain⟨tx,g,rfl⟩:=h;exact .un op t x tx g
 .rename_i s d x hop;rw[hop];split at h;.rename_i k0 k tx hs hd g;simp at h;subst h;exact .toInt s d x tx k0 k hs hd g
  .rename_i k0 tx hs hd g;simp at h;subst h;exact .intStr s d x tx k0 hs hd g
  .rename_i tx hs hd g;simp at h;subst h;exact .strStr s d x tx hs hd g
  .rename_i e tx hs hd g;split at h;.rename_i he;simp at h;subst h;exact .strBytes s d e x tx hs hd he g
   .simp at h
  .rename_i e tx hs hd g;split at h;.rename_i he;simp at h;subst h;exact .bytesStr s d e x tx hs hd he g
   .simp at h
  .simp at h
 .rename_i f first cap hop;rw[hop]
  split at h;.rename_i xs ys g hy;simp at h;subst h;exact .mkFn f first cap xs ys g hy
  .simp at h
 .rename_i t r hop;rw[hop];split at h;.rename_i kt el ht;simp at h;subst h;exact .mkMap t kt el ht
  .simp at h
 .rename_i t x y hop;rw[hop];split at h
  .rename_i el ht;split at h
   .rename_i z b tx ty hz hb g hy;split at h;.simp at h
    .simp at h;subst h;exact .mkSlice t el x y tx ty z b ht hz hb g hy
   .simp at h
  .simp at h
 .rename_i t x lo hi mx hop;rw[hop];split at h
  .rename_i tx tlo thi tmx g h1 h2 h3;split at h;.rename_i ht;simp at h;subst h;exact .slice t .str x lo hi mx tx tlo thi tmx ht g h1 h2 h3
   .rename_i el ht;split at h
    .rename_i n hn;split at h;.simp at h
     .simp at h;subst h;exact .slice t (.sl n) x lo hi mx tx tlo thi tmx ⟨el,ht,hn⟩ g h1 h2 h3
    .simp at h
   .rename_i n el ht;split at h
    .rename_i k hk;split at h;.simp at h
     .simp at h;subst h;exact .slice t (.arr n k) x lo hi mx tx tlo thi tmx (.inl ⟨el,ht,hk⟩) g h1 h2 h3
    .simp at h
   .rename_i a ht;split at h
    .rename_i n el ha;split at h
     .rename_i k hk;split at h;.simp at h
      .simp at h;subst h;exact .slice t (.arr n k) x lo hi mx tx tlo thi tmx (.inr ⟨a,el,ht,ha,hk⟩) g h1 h2 h3
     .simp at h
    .simp at h
   .simp at h
  .simp at h
 .rename_i t x f hop;rw[hop];split at h
  .rename_i fs tx ht g;split at h
   .rename_i fd hf;split at h
    .rename_i n hn;split at h;.simp at h
     .rename_i hn0;simp at h;subst h;exact .fieldAddr t x f fs fd n tx ht hf hn hn0 g
    .simp at h
   .simp at h
  .simp at h
 .rename_i t x f hop;rw[hop];split at h
  .rename_i fs tx ht g;split at h
   .rename_i fd hf;split at h;.rename_i n ag hn hag;simp only[R_]at h;subst h;exact .field t x f fs fd n ag tx ht hf hn hag g
    .simp at h
   .simp at h
  .simp at h
 .rename_i t x i hop;rw[hop];split at h
  .rename_i el tx ti ht g hi;split at h
   .rename_i n hn;split at h;.simp at h
    .simp at h;subst h;exact .indexAddrS t el x i n tx ti ht hn g hi
   .simp at h
  .rename_i len el tx ti ht g hi;split at h
   .rename_i n hn;split at h;.simp at h
    .simp at h;subst h;exact .indexAddrA t el x i len n tx ti ht hn g hi
   .simp at h
  .simp at h
 .rename_i t x i hop;rw[hop];split at h;.rename_i tx ti ht g hi;simp at h;subst h;exact .indexS t x i tx ti ht g hi
  .rename_i len el tx ti ht g hi;split at h
   .rename_i n ag hn hag;split at h;.simp at h
    .simp at h;subst h;exact .indexA t el x i len n ag tx ti ht hn hag g hi
   .simp at h
  .simp at h
 .rename_i t m k ok hop;rw[hop];split at h
  .rename_i kt el tm tk ht hm hk;split at h;.rename_i kk zi p hz;simp at h;subst h;exact .lookup t kt el m k ok kk zi tm tk ht p hz hm hk
   .simp at h
  .simp at h
 .rename_i t m k v hop;rw[hop];split at h;.rename_i kt el tm tk tv ht hm hk hv;simp only[G_]at h;obtain⟨kk,p,rfl⟩:=h;exact .update t kt _ m k v kk tm tk tv ht p hm hk hv
  .simp at h
 .rename_i t m k hop;rw[hop];split at h
  .rename_i kt el tm tk ht hm hk;split at h;.rename_i kk zi p hz;simp at h;subst h;exact .entry t kt el m k kk zi tm tk ht p hz hm hk
   .simp at h
  .simp at h
 .rename_i t m s v hop;rw[hop];split at h;.rename_i tm ts tv hm hs hv;simp at h;subst h;exact .entryStore t m s v tm ts tv hm hs hv
  .simp at h
 .rename_i t x hop;rw[hop];split at h;.rename_i ht;simp only[G_]at h;obtain⟨tx,g,rfl⟩:=h;exact .rangeS t x tx ht g
  .rename_i kt el ht;simp only[G_]at h;obtain⟨tx,g,rfl⟩:=h;exact .rangeM t kt el x tx ht g
  .simp at h
 .rename_i x isStr hop;rw[hop];simp only[G_]at h;obtain⟨tx,g,rfl⟩:=h;cases isStr with
  |true=>exact .nextS x tx g
  |false=>exact .nextM x tx g
 .rename_i x hop;rw[hop];simp only[G_]at h;obtain⟨tx,g,rfl⟩:=h;exact .entryM x tx g
 .rename_i x i hop;rw[hop];simp only[G_]at h;obtain⟨tx,g,rfl⟩:=h;exact .extract x tx i g
 .rename_i c hop;rw[hop];exact aYf h
 .simp at h
end
end Go.TM
namespace Go.TM
open Go
section
variable {P:Program}{O:dH}{K:TM.bD}{A:Ann}{dsts:List (Option Nat)}{slot:Option Nat}
variable {M:Mem}{J:aF}{L:List (Option Nat)}{S S':aA}{env env':Env}{w:World}
def aKj(A:Ann)(dsts:List (Option Nat))(M:Mem)(J:aF)(L:List (Option Nat))(ev:aH->TV)(a:Act)(top:TOp):Prop :=
 ∀(x:Operand) (tx:aH),tx∈aQ top->opd A dsts x=some tx->VR M J L (ev tx) (a.eval x)
theorem mL{a:Act}{ev:aH->TV}:∀ {xs:List Operand} {b:List aH},wK A dsts xs=some b->(∀x tx,tx∈b->opd A dsts x=some tx->VR M J L (ev tx) (a.eval x))->VRs M J L (b.map ev) (xs.map a.eval)
 |[],b,h,_=>by simp[wK]at h;subst h;exact .nil
 |x::r,b,h,hv=>by
  simp only[wK]at h;split at h;.rename_i tx l h1 h2;simp at h;subst h;exact .cons (hv x tx B_ h1) (mL h2 fun y ty c=>hv y ty (by simp[c]))
  .simp at h
theorem aHq{c:Array Field}:∀ {ps:List (Nat×Operand)} {tps:List (Nat×Nat×aH)},aHf P A dsts c ps=some tps->ps.length=tps.length/\∀(k:Nat) (p:Nat×Nat×aH) (u:Nat×Operand),tps[k]?=some p->ps[k]?=some u ->opd A dsts u.2=some p.2.2/\∃f,c[u.1]?=some f/\p.1=f.offset/\sizeOf? P f.type=some p.2.1
 |[],tps,h=>by simp[aHf]at h;subst h;exact⟨rfl,fun k p u a=>by simp at a⟩
 |(i,x)::r,tps,h=>by
  simp only[aHf]at h;split at h
  .rename_i f tx l h1 h2 h3;split at h
   .rename_i n hn;simp at h;subst h;obtain⟨d,e2⟩:=aHq h3;refine⟨by simp[d],fun k p u a b=>?_⟩;cases k with
    |zero=>simp at a b;subst a;subst b;exact⟨h2,f,h1,rfl,hn⟩
    |succ k=>exact e2 k p u (by simpa using a) (by simpa using b)
   .simp at h
  .simp at h
theorem aEk{n:Nat}:∀ {ps:List (Nat×Operand)} {tps:List (Nat×Nat×aH)},zO A dsts n ps=some tps->ps.length=tps.length/\∀(k:Nat) (p:Nat×Nat×aH) (u:Nat×Operand),tps[k]?=some p->ps[k]?=some u ->opd A dsts u.2=some p.2.2/\p.2.1=n/\p.1=u.1*n
 |[],tps,h=>by simp[zO]at h;subst h;exact⟨rfl,fun k p u a=>by simp at a⟩
 |(i,x)::r,tps,h=>by
  simp only[zO]at h;split at h
  .rename_i tx l h1 h2;simp at h;subst h;obtain⟨c,e2⟩:=aEk h2;refine⟨by simp[c],fun k p u a b=>?_⟩;cases k with
   |zero=>simp at a b;subst a;subst b;exact⟨h1,rfl,rfl⟩
   |succ k=>exact e2 k p u (by simpa using a) (by simpa using b)
  .simp at h
theorem wQ:∀ {ps:List (Nat×Operand)} {tps:List (Nat×aH)},zP A dsts ps=some tps->ps.length=tps.length/\∀(k:Nat) (p:Nat×aH) (u:Nat×Operand),tps[k]?=some p->ps[k]?=some u->opd A dsts u.2=some p.2/\u.1=p.1
 |[],tps,h=>by simp[zP]at h;subst h;exact⟨rfl,fun k p u a=>by simp at a⟩
 |(i,x)::r,tps,h=>by
  simp only[zP]at h;split at h
  .rename_i tx l h1 h2;simp at h;subst h;obtain⟨c,e2⟩:=wQ h2;refine⟨by simp[c],fun k p u a b=>?_⟩;cases k with
   |zero=>simp at a b;subst a;subst b;exact⟨h1,rfl⟩
   |succ k=>exact e2 k p u (by simpa using a) (by simpa using b)
  .simp at h
theorem aKk{x:Option Operand}{tx:Option aH}(h:aJ8 A dsts x=some tx){ev:aH->TV}{a:Act}(c:∀y ty,ty∈tx.toList->opd A dsts y=some ty->VR M J L (ev ty) (a.eval y)){n:Option Int}(b:nG ev tx=some n):OI n (x.map a.eval):=by
 cases x with
 |none =>simp[aJ8]at h;subst h;simp[nG]at b;subst b;trivial
 |some x =>simp only[aJ8,G_]at h;obtain⟨t,d,rfl⟩:=h;simp only[nG,G_]at b;obtain⟨i,f,rfl⟩:=b;obtain⟨k,e⟩:=kQ f (c x t B_ d);exact⟨k,by simp[e]⟩
theorem aA7{o:Oper}{c:Call}{b:Builtin}(e:o.op=.call c)(f:c.callee=.builtin b)(a:Act):∃ty d,execOp a.eval o=Go.builtin b c.argTypes ty d (c.args.map a.eval):=by simp only[execOp,e,Go.resolve,f,invoke,pure_bind];exact⟨_,_,rfl⟩
theorem bFf{c:Call}{x y:Operand}(h:c.args.toList=[x,y])(a:Act):c.args.map a.eval=#[a.eval x,a.eval y]:=by apply N0;simp[h]
theorem bFg{c:Call}{x:Operand}(h:c.args.toList=[x])(a:Act):c.args.map a.eval=#[a.eval x]:=by apply N0;simp[h]
theorem rG{c:Call}{t:TypeId}{r:List TypeId}(h:c.argTypes.toList=t::r):c.argTypes[0]?=some t:=by rw[<-K7,h];rfl
theorem bSn{c:Call}{t u:TypeId}{r:List TypeId}(h:c.argTypes.toList=t::u::r):c.argTypes[1]?=some u:=by rw[<-K7,h];rfl
theorem bMr{o:Oper}{c:Call}{b:Builtin}{mu:Bool}{top:TOp}(U:o.op=.call c)(Z:c.callee=.builtin b)(h:fV P A mu dsts b c.argTypes.toList c.args.toList=some top)(a:Act)(G:MS P O K M J L S env w){ev:aH->TV} (N:aKj A dsts M J L ev a top) {v:TV} (d:aV top ev=some v\/aO top ev env S=some v):aP top=none/\cK P O K top M J L S env w (execOp a.eval o) v env S:=by
 obtain⟨ty,g,I⟩:=aA7 U Z a;rw[I];unfold fV at h;split at h
 .rename_i t u r s x hts has;split at h
  .split at h
   .split at h;.simp at h
    .simp at h;subst h;simp[aV,aO]at d
   .simp at h
  .split at h
   .split at h;.simp at h
    .simp at h;subst h;simp[aV,aO]at d
   .simp at h
  .split at h
   .split at h;.simp at h
    .simp at h;subst h;simp[aV,aO]at d
   .simp at h
  .simp at h
 .split at h
  .split at h
   .split at h;.simp at h
    .simp at h;subst h;simp[aV,aO]at d
   .simp at h
  .simp at h
 .split at h
  .split at h
   .split at h;.simp at h
    .simp at h;subst h;simp[aV,aO]at d
   .simp at h
  .simp at h
 .rename_i t r x hts has;split at h
  .rename_i e f;simp only[G_]at h;obtain⟨tx,l,rfl⟩:=h;refine⟨rfl,?_⟩;rcases d with d|d
   .simp only[aV,G_]at d;obtain⟨n,V,rfl⟩:=d;have z:=N x tx (by simp[aQ]) l;refine .pure rfl G (v':=.int .i64 n) ?_ (.iv _ (.int _ _));have H:=bFg has a;have F:(Builtin.cap_ c.argTypes ty #[a.eval x]).run P w=.ok (.int .i64 n) w:=by have:=bMk (P:=P) (w:=w) (ty:=ty) z V f;simp only[Builtin.cap_]at this |-;rw[rG hts];simpa using this
    simp[Go.builtin,H,F]
   .simp[aO]at d
  .simp at h
 .rename_i t r x hts has;have H:=bFg has a;have key:∀ {tx:aH} {k:NK},opd A dsts x=some tx->(match k with | .str=>P.underlying t=some .string | .sl=>∃e,P.underlying t=some (.slice e) | .mp=>∃k e,P.underlying t=some (.map k e))->top=.len k tx ->
    aP top=none/\cK P O K top M J L S env w (Go.builtin .len c.argTypes ty g (c.args.map a.eval)) v env S:=by
   intro tx k l f i
   subst i
   refine⟨rfl,?_⟩
   rcases d with d|d
   .simp[aV]at d
   .simp only[aO]at d
    split at d
    .rename_i hk
     simp only[G_]at d
     obtain⟨n,V,rfl⟩:=d
     have z:=N x tx (by simp[aQ]) l
     refine .pure rfl G (v':=.int .i64 n) ?_ (.iv _ (.int _ _))
     have F:(Builtin.len_ c.argTypes ty #[a.eval x]).run P w=.ok (.int .i64 n) w:=by have:=bMj (P:=P) (ty:=ty) (t:=t) G z V (by rw[hk];exact f);simp only[Builtin.len_]at this |-;rw[rG hts];simpa using this
     simp[Go.builtin,H,F]
    .simp at d
  have y:∀ {n:Nat},(P.underlying t=some (.array n (0:TypeId))\/(∃e,P.underlying t=some (.array n e))\/∃p e,P.underlying t=some (.pointer p)/\P.underlying p=some (.array n e))->top=.lenC n ->
    aP top=none/\cK P O K top M J L S env w (Go.builtin .len c.argTypes ty g (c.args.map a.eval)) v env S:=by
   intro n f i
   subst i
   refine⟨rfl,?_⟩
   have Y:v=.iv (.int .i64 n):=by
    rcases d with d|d;.simp[aV]at d;exact d.symm
    .simp[aO]at d
   subst Y
   refine .pure rfl G (v':=.int .i64 n) ?_ (.iv _ (.int _ _))
   rcases f with f|⟨e,f⟩|⟨p,e,f,T⟩
   .simp[Go.builtin,H,Builtin.len_,rG hts,und f,goInt]
   .simp[Go.builtin,H,Builtin.len_,rG hts,und f,goInt]
   .simp[Go.builtin,H,Builtin.len_,rG hts,und f,und T,goInt]
  split at h;.rename_i f;simp only[G_]at h;obtain⟨tx,l,rfl⟩:=h;exact key (k:=.str) l f rfl
  .rename_i e f;simp only[G_]at h;obtain⟨tx,l,rfl⟩:=h;exact key (k:=.sl) l ⟨e,f⟩ rfl
  .rename_i kt e f;simp only[G_]at h;obtain⟨tx,l,rfl⟩:=h;exact key (k:=.mp) l ⟨kt,e,f⟩ rfl
  .rename_i n e f;simp at h;subst h;exact y (.inr (.inl ⟨e,f⟩)) rfl
  .rename_i p f;split at h;.rename_i n e T;simp at h;subst h;exact y (.inr (.inr ⟨p,e,f,T⟩)) rfl
   .simp at h
  .simp at h
 .split at h
  .split at h;.simp at h;subst h;simp[aV,aO]at d
   .simp at h
  .simp at h
 .simp only[G_]at h;obtain⟨W,E,rfl⟩:=h;refine⟨rfl,?_⟩;have j:=mL E (fun x tx C=>N x tx (by simpa[aQ] using C));rcases d with d|d
  .simp only[aV]at d;split at d;.rename_i a0 r hr;simp only[G_]at d;obtain⟨m,C,rfl⟩:=d;rw[hr]at j;obtain⟨u,us,D,z,Q⟩:=j.cons_inv;obtain⟨q,h3,R⟩:=wO (P:=P) (w:=w) false C z.iv_inv Q;refine .pure rfl G (v':=q) ?_ (.iv _ R);simp only[b_,J3]at h3;simp[Go.builtin,Builtin.min_,D,h3]
   .simp at d
  .simp[aO]at d
 .simp only[G_]at h;obtain⟨W,E,rfl⟩:=h;refine⟨rfl,?_⟩;have j:=mL E (fun x tx C=>N x tx (by simpa[aQ] using C));rcases d with d|d
  .simp only[aV]at d;split at d;.rename_i a0 r hr;simp only[G_]at d;obtain⟨m,C,rfl⟩:=d;rw[hr]at j;obtain⟨u,us,D,z,Q⟩:=j.cons_inv;obtain⟨q,h3,R⟩:=wO (P:=P) (w:=w) true C z.iv_inv Q;refine .pure rfl G (v':=q) ?_ (.iv _ R);simp only[N8]at h3;simp[Go.builtin,Builtin.max_,D,h3]
   .simp at d
  .simp[aO]at d
 .simp at h
theorem bFh{o:Oper}{top:TOp}(N:bY P O A dsts slot o.op top)(a:Act)(h:MS P O K M J L S env w){ev:aH->TV}(q:aKj A dsts M J L ev a top){v:TV} (g:aV top ev=some v\/aO top ev env S=some v):aP top=none/\cK P O K top M J L S env w (execOp a.eval o) v env S:=by
 generalize hop:o.op=op at N;cases N with
 |mov x tx hx =>refine⟨rfl,?_⟩;simp[aV,aO]at g;subst g;exact aVr (.inl hop) a h (q x tx (by simp[aQ]) hx)
 |assign x tx hx =>refine⟨rfl,?_⟩;simp[aV,aO]at g;subst g;exact aVr (.inr hop) a h (q x tx (by simp[aQ]) hx)
 |pick c x y tc tx ty N hx hy =>
  refine⟨rfl,?_⟩;rcases g with g|g
  .simp only[aV]at g;split at g;.rename_i t ht;simp at g;subst g;exact bEz hop a h (q c tc (by simp[aQ]) N) (q x tx (by simp[aQ]) hx) (q y ty (by simp[aQ]) hy) ht
   .simp at g
  .simp[aO]at g
 |allocL t z j hz hj=>simp[aV,aO]at g
 |allocH t z hz=>simp[aV,aO]at g
 |boxL t x tx j hx hj=>simp[aV,aO]at g
 |boxH t x tx hx=>simp[aV,aO]at g
 |buildS t ps z fs tps hz ht hpl hps =>
  refine⟨rfl,?_⟩;rcases g with g|g;.simp only[aV,G_]at g;obtain⟨cs,C,rfl⟩:=g;obtain⟨D,W⟩:=aHq hps;refine aHm hop hz (ev:=ev) (tps:=tps) a h (by simpa using D) (fun k p u I U=>?_) (.inl ⟨fs,ht,hpl⟩) C rfl;obtain⟨V,f,e2,e3,e4⟩:=W k p u I (by simpa using U);exact⟨q u.2 p.2.2 (by simp only[aQ,A0];exact⟨p,B4 I,rfl⟩) V,.inl ⟨fs,f,ht,hpl,e2,e3,e4⟩⟩
  .simp[aO]at g
 |buildA t el k n ps z tps hz ht hn hps =>
  refine⟨rfl,?_⟩;rcases g with g|g;.simp only[aV,G_]at g;obtain⟨cs,C,rfl⟩:=g;obtain⟨D,W⟩:=aEk hps;refine aHm hop hz (ev:=ev) (tps:=tps) a h (by simpa using D) (fun i p u I U=>?_) (.inr ⟨k,el,n,ht,hn⟩) C rfl;obtain⟨V,e2,e3⟩:=W i p u I (by simpa using U);exact⟨q u.2 p.2.2 (by simp only[aQ,A0];exact⟨p,B4 I,rfl⟩) V,.inr ⟨k,el,ht,by rw[e2];exact hn,by rw[e2];exact e3⟩⟩
  .simp[aO]at g
 |lit mu t el len ps z tps ht hz hz0 hbig hps =>
  refine⟨rfl,?_⟩;rcases g with g|g
  .cases mu with
   |true=>simp[aV]at g
   |false =>
    simp only[aV]at g;split at g;.rename_i es hes;simp only[G_]at g;obtain⟨l,D,rfl⟩:=g;obtain⟨Z,W⟩:=wQ hps;obtain⟨cells,G,R,h3,h4⟩:=aVu (P:=P) (w:=w) (M:=M) (J:=J) (L:=L) hop ht hz hz0 hbig (ev:=ev) (tps:=tps) a (by simpa using Z) (fun k p u I U=>by obtain⟨V,e2⟩:=W k p u I (by simpa using U);exact⟨e2,q u.2 p.2 (by simp only[aQ,A0];exact⟨p,B4 I,rfl⟩) V⟩) hes;obtain⟨M',h5,h6,h7⟩:=bE9 h el G R D;exact .mk0 rfl h4 (.inl ⟨_,rfl,h5⟩) h6 h7 (.refl _)
    .simp at g
  .simp[aO]at g
 |load1 t x tx n hag hn hx =>
  refine⟨rfl,?_⟩;rcases g with g|g;.simp[aV]at g
  .simp only[aO]at g;split at g;.rename_i cs C;exact aM0 hop hag hn a h (q x tx (by simp[aQ]) hx) (by simpa using C) g rfl
   .simp at g
 |loadN t x tx n hag hn hx =>
  refine⟨rfl,?_⟩;rcases g with g|g;.simp[aV]at g
  .simp only[aO]at g;split at g;.rename_i cs C;exact aM0 hop hag hn a h (q x tx (by simp[aQ]) hx) (by simpa using C) g rfl
   .simp at g
 |store t x y tx ty n hn hx hy=>simp[aV,aO]at g
 |nilCheck x tx hx =>
  refine⟨rfl,?_⟩;rcases g with g|g
  .simp only[aV]at g;split at g;.rename_i I;simp at g;subst g;exact aKa hop a h (q x tx (by simp[aQ]) hx) I
   .simp at g
  .simp[aO]at g
 |bin op t u x y tx ty hx hy =>
  refine⟨rfl,?_⟩;rcases g with g|g;.simp only[aV,G_]at g;obtain⟨r,E,rfl⟩:=g;exact bMg hop a h (q x tx (by simp[aQ]) hx) (q y ty (by simp[aQ]) hy) E
  .simp[aO]at g
 |eqB op t u x y tx ty k ho hk hx hy =>
  refine⟨rfl,?_⟩;rcases g with g|g;.simp only[aV,G_]at g;obtain⟨r,E,rfl⟩:=g;exact bMh hop ho hk a h (q x tx (by simp[aQ]) hx) (q y ty (by simp[aQ]) hy) E
  .simp[aO]at g
 |eqAgg op t u x y tx ty cL ho hk hx hy =>
  refine⟨rfl,?_⟩;rcases g with g|g;.simp only[aV,G_]at g;obtain⟨r,E,rfl⟩:=g;exact aX7 hop ho hk a h (q x tx (by simp[aQ]) hx) (q y ty (by simp[aQ]) hy) E
  .simp[aO]at g
 |un op t x tx hx =>
  refine⟨rfl,?_⟩;rcases g with g|g;.simp only[aV,G_]at g;obtain⟨r,E,rfl⟩:=g;exact bSm hop a h (q x tx (by simp[aQ]) hx) E
  .simp[aO]at g
 |toInt s d x tx k0 k hs hd hx =>
  refine⟨rfl,?_⟩;rcases g with g|g;.simp only[aV,G_]at g;obtain⟨r,E,rfl⟩:=g;exact aD1 hop hs hd a h (q x tx (by simp[aQ]) hx) E
  .simp[aO]at g
 |intStr s d x tx k0 hs hd hx =>
  refine⟨rfl,?_⟩;rcases g with g|g;.simp only[aV,G_]at g;obtain⟨r,E,rfl⟩:=g;exact aB1 hop hs hd a h (q x tx (by simp[aQ]) hx) E
  .simp[aO]at g
 |strStr s d x tx hs hd hx =>
  refine⟨rfl,?_⟩;rcases g with g|g;.simp only[aV,G_]at g;obtain⟨r,E,rfl⟩:=g;exact aB2 hop hs hd a h (q x tx (by simp[aQ]) hx) E
  .simp[aO]at g
 |strBytes s d e x tx hs hd hee hx =>
  refine⟨rfl,?_⟩;rcases g with g|g;.simp only[aV,G_]at g;obtain⟨r,E,rfl⟩:=g;exact aKh hop hs hd hee a h (q x tx (by simp[aQ]) hx) E rfl
  .simp[aO]at g
 |bytesStr s d e x tx hs hd hee hx =>
  refine⟨rfl,?_⟩;rcases g with g|g;.simp[aV,dD]at g
  .simp only[aO]at g;split at g;.rename_i l D;simp only[G_]at g;obtain⟨b,H,rfl⟩:=g;exact aKd hop hs hd hee a h (q x tx (by simp[aQ]) hx) D H rfl
   .simp at g
 |mkFn f first cap xs ys hx hy =>
  refine⟨rfl,?_⟩;rcases g with g|g
  .simp only[aV]at g;split at g;.simp at g
   .rename_i hn;simp at g;subst g;have G:=mL hx (L:=L) (M:=M) (J:=J) (a:=a) (ev:=ev) (fun x tx F=>q x tx (by simp[aQ,F]));have R:=mL hy (L:=L) (M:=M) (J:=J) (a:=a) (ev:=ev) (fun x tx F=>q x tx (by simp[aQ,F]));exact bFe hop a h (by simpa using G) (by simpa using R) (by simpa using hn) rfl
  .simp[aO]at g
 |mkMap t kt el ht=>simp[aV,aO]at g
 |mkSlice t el x y tx ty z b ht hz H hx hy=>simp[aV,aO]at g
 |slice t k x lo hi mx tx tlo thi tmx ht hx G R h3 =>
  refine⟨rfl,?_⟩;rcases g with g|g;.simp[aV]at g
  .simp only[aO]at g;split at g;.rename_i lo' hi' mx' V e2 e3;have o1:=aKk (M:=M) (J:=J) (L:=L) G (a:=a) (fun y ty F=>q y ty (by simp only[aQ,J_,a_];right;left;left;exact F)) V;have o2:=aKk (M:=M) (J:=J) (L:=L) R (a:=a) (fun y ty F=>q y ty (by simp only[aQ,J_,a_];right;left;right;exact F)) e2;have o3:=aKk (M:=M) (J:=J) (L:=L) h3 (a:=a) (fun y ty F=>q y ty (by simp only[aQ,J_,a_];right;right;exact F)) e3;obtain⟨u,E,U⟩:=bE4 h ht (q x tx (by simp[aQ]) hx) g o1 o2 o3;refine .pure rfl h (v':=u) ?_ U;simp[execOp,hop,E]
   .simp at g
 |fieldAddr t x f fs fd n tx ht hf hn hn0 hx =>
  refine⟨rfl,?_⟩;rcases g with g|g;.exact aF6 hop ht hf hn hn0 a h (q x tx (by simp[aQ]) hx) g
  .simp[aO]at g
 |field t x f fs fd n ag tx ht hf hn hag hx =>
  refine⟨rfl,?_⟩;rcases g with g|g
  .simp only[aV]at g;split at g
   .rename_i all hall;split at g;.rename_i cs C;exact aX8 hop ht hf hn hag a h (q x tx (by simp[aQ]) hx) hall C g
    .simp at g
   .simp at g
  .simp[aO]at g
 |indexAddrS t el x i n tx ti ht hn hx hi =>
  refine⟨rfl,?_⟩;rcases g with g|g
  .simp only[aV]at g;split at g;.rename_i k hk;exact aD3 hop ht hn a h (q x tx (by simp[aQ]) hx) (q i ti (by simp[aQ]) hi) hk g
   .simp at g
  .simp[aO]at g
 |indexAddrA t el x i len n tx ti ht hn hx hi =>
  refine⟨rfl,?_⟩;rcases g with g|g
  .simp only[aV]at g;split at g
   .rename_i k hk;split at g;.rename_i H;exact aD2 hop ht hn a h (q x tx (by simp[aQ]) hx) (q i ti (by simp[aQ]) hi) hk H g
    .simp at g
   .simp at g
  .simp[aO]at g
 |indexS t x i tx ti ht hx hi =>
  refine⟨rfl,?_⟩;rcases g with g|g
  .simp only[aV]at g;split at g
   .rename_i s k hs hk;split at g;.rename_i h0;simp only[G_]at g;obtain⟨b,H,rfl⟩:=g;have Y:=q x tx (by simp[aQ]) hx;rw[hs]at Y;exact aQ3 hop ht a h Y (q i ti (by simp[aQ]) hi) hk h0 H
    .simp at g
   .simp at g
  .simp[aO]at g
 |indexA t el x i len n ag tx ti ht hn hag hx hi =>
  refine⟨rfl,?_⟩;rcases g with g|g
  .simp only[aV]at g;split at g
   .rename_i k hk;split at g
    .rename_i H;split at g
     .rename_i all hall;split at g;.rename_i cs C;exact aQ4 hop ht hn hag a h (q x tx (by simp[aQ]) hx) (q i ti (by simp[aQ]) hi) hk H hall C g
      .simp at g
     .simp at g
    .simp at g
   .simp at g
  .simp[aO]at g
 |lookup t kt el m k ok kk zi tm tk ht hkk hz F hk =>
  refine⟨rfl,?_⟩;rcases g with g|g;.simp[aV]at g
  .simp only[aO]at g;split at g
   .rename_i ki hki;split at g;.simp at g
    .rename_i hko;have G:=q m tm (by simp[aQ]) F;have R:=q k tk (by simp[aQ]) hk;have T:∀ {Q:Option (Nat×TV)},qV kk S (ev tm) ki=some Q->(ev tm=.iv .nilm/\Q=none)\/∃j es clock,ev tm=.map j/\S[j]?=some (.mp es clock)/\findKey kk ki es 0=some Q:=by
      intro Q D;unfold qV at D;split at D;.rename_i e;simp at D;exact .inl ⟨e,D.symm⟩
      .rename_i j e;split at D;.rename_i es clock hs;exact .inr ⟨j,es,clock,e,hs,D⟩
       .simp at D
      .simp at D
     split at g;.rename_i n x D;exact aEf hop ht hkk hz a h G R hki (by simpa using hko) (T D) (by simpa using g.symm) rfl
     .rename_i D;exact aEf hop ht hkk hz a h G R hki (by simpa using hko) (T D) (by simpa using g.symm) rfl
     .simp at g
   .simp at g
 |update t kt el m k v kk tm tk tv ht hkk F hk hv'=>simp[aV,aO]at g
 |entry t kt el m k kk zi tm tk ht hkk hz F hk=>simp[aV,aO]at g
 |entryStore t m s v tm ts tv F hs hv'=>simp[aV,aO]at g
 |rangeS t x tx ht hx=>simp[aV,aO]at g
 |rangeM t kt el x tx ht hx=>simp[aV,aO]at g
 |nextS x tx hx=>simp[aV,aO]at g
 |nextM x tx hx=>simp[aV,aO]at g
 |entryM x tx hx =>
  refine⟨rfl,?_⟩;rcases g with g|g;.simp[aV]at g
  .simp only[aO]at g;split at g
   .rename_i j hj;have G:=q x tx (by simp[aQ]) hx;rw[hj]at G;split at g
    .rename_i m since seen last hs;split at g
     .rename_i es clock stamp F hst;split at g;.simp at g
      .rename_i hcl;split at g;.rename_i y hf;simp at g;subst g;exact aRc hop a h G hs F hst (by simpa using hcl) hf rfl
       .simp at g
     .simp at g
    .simp at g
   .simp at g
 |extract x tx i hx =>
  refine⟨rfl,?_⟩;rcases g with g|g
  .simp only[aV]at g;split at g;.rename_i vs hvs;have G:=q x tx (by simp[aQ]) hx;rw[hvs]at G;exact aMx hop a h G g
   .simp at g
  .simp[aO]at g
 |builtin mu c b top N H=>exact bMr hop N H a h q g
 |call pure trunc c f fn args N hfn H hng ha=>simp[aV,aO]at g
 |prim c f args N ha=>simp[aV,aO]at g
 |callv c x tx args N hx ha=>simp[aV,aO]at g
theorem yI{mu:Bool}{b:Builtin}{ts:List TypeId}{xs:List Operand}{top:TOp}(h:fV P A mu dsts b ts xs=some top)(ev:aH->TV)(n:Nat):bO top ev n=none:=by
 unfold fV at h;repeat' split at h
 all_goals first
  |(simp at h;done)
  |(simp at h;subst h;simp[bO];done)
  |(simp only[G_]at h;obtain⟨q,_,rfl⟩:=h;simp[bO];done)
theorem aM9{o:Oper}{t:TypeId}{x y:Operand}(r:o.op=.makeSlice t x y){el:TypeId}(W:P.underlying t=some (.slice el)){z:Tq_}(N:eX P el=some z){bytes:Nat}(b:bytesOf? P el=some bytes) (a:Act) (h:MS P O K M J L S env w) {j e2:TV} (H:VR M J L j (a.eval x)) (F:VR M J L e2 (a.eval y)) {l c:Int} (R:fB j=some l) (p:fB e2=some c) (h0:0<=l) (A:l<=c) (T:eA c.toNat bytes=true): ∃Y U loc,aRd P O M J w ((execOp a.eval o).run P w) (fun m=>.msl m 0 0 l.toNat c.toNat z.length) (.cells 0 false (bC (List.replicate c.toNat (z.map .iv)))) Y U loc:=by
 obtain⟨i,D,E,v,d,s,V,u⟩:=iC N;obtain⟨Z,n⟩:=kQ R H;obtain⟨kc,q⟩:=kQ p F;obtain⟨r1,r2,r3⟩:=aD9 T;have G:i.bytes=bytes:=by unfold bytesOf? at b;rw[E]at b;simpa using b
 have C:(i.bytes:Int)*c<=281474976710656:=by rw[G];have j:(c.toNat:Int)=c:=A_;have I:((c.toNat*bytes:Nat):Int)<=((35184372088832:Nat):Int):=Int.ofNat_le.2 r1;rw[Int.natCast_mul,j,Int.mul_comm]at I;omega
 have e:=run_make (P:=P) w t el i D W E v Z kc l c h0 A C A_;have g:=size_madeCells D.cells (c.toNat*i.size);have f:(bC (List.replicate c.toNat (z.map TV.iv))).length=c.toNat*z.length:=by rw[dG (es:=z.length) (fun c p=>by rw[K1 p];simp)];simp
 refine yH h.wr (cs:=madeCells D.cells (c.toNat*i.size)) el (by rw[f,g,d];exact O_ _) (fun k x hx=>?_) A_ (by rw[g,d];exact O_ _) ?_;.obtain⟨Q,y,p2,rfl⟩:=kR hx;exact⟨_,aF8 (by rw[d];exact Q),.iv _ (aKe s (u M) p2)⟩
 .simp[execOp,r,n,q,e]
theorem aVw{o:Oper}{top:TOp}(e:bY P O A dsts slot o.op top)(a:Act)(h:MS P O K M J L S env w){ev:aH->TV}(j:aKj A dsts M J L ev a top){n:Nat}{v:TV}{b:aG} (d:bO top ev n=some (v,b)):aP top=none/\∃F:Nat->TV,(∀m,bO top ev m=some (F m,b))/\∃R N l,aRd P O M J w ((execOp a.eval o).run P w) F b R N l:=by
 generalize hop:o.op=op at e;cases e with
 |allocH t z hz =>simp only[bO,R_,B7]at d;obtain⟨rfl,rfl⟩:=d;obtain⟨i,Y,_,_,_,r,H,V⟩:=iC hz;exact⟨rfl,fun m=>.ptr m (t+1) 0,fun m=>rfl,aEj h.wr t (t+1) (fun _=>rfl) (aD7 r V) (aHi hop H a)⟩
 |boxH t x tx hx =>
  simp only[bO]at d;split at d;.simp at d
  .rename_i f;simp only[R_,B7]at d;obtain⟨rfl,rfl⟩:=d;exact⟨rfl,fun m=>.ptr m (t+1) 0,fun m=>by simp[bO,f],aEj h.wr t (t+1) (fun _=>rfl) (tA (j x tx (by simp[aQ]) hx) (by simpa using f)) (aVs hop a)⟩
 |lit mu t el len ps z tps ht hz hz0 hbig hps =>
  simp only[bO]at d;split at d
  .rename_i es hes;simp only[R_,B7]at d;obtain⟨rfl,rfl⟩:=d;obtain⟨q,T⟩:=wQ hps;obtain⟨cells,I,C,h3,r⟩:=aVu (P:=P) (w:=w) (M:=M) (J:=J) (L:=L) hop ht hz hz0 hbig (ev:=ev) (tps:=tps) a (by simpa using q) (fun k p u D G=>by obtain⟨s,e2⟩:=T k p u D (by simpa using G);exact⟨e2,j u.2 p.2 (by simp only[aQ,A0];exact⟨p,B4 D,rfl⟩) s⟩) hes;have U:cells.size=es.length*z.length:=by have:=C.1;rw[dG I]at this;simpa using this
   obtain⟨s,e2⟩:=C.ex;exact⟨rfl,fun m=>.msl m 0 0 es.length es.length z.length,fun m=>by simp[bO,hes],yH h.wr el s e2 (O_ _) A_ r⟩
  .simp at d
 |mkMap t kt el ht =>simp only[bO,R_,B7]at d;obtain⟨rfl,rfl⟩:=d;exact⟨rfl,fun m=>.map m,fun m=>rfl,bMq hop a⟩
 |mkSlice t el x y tx ty z bytes ht hz hby hx hy =>
  simp only[bO]at d;split at d
  .rename_i l c hl e;split at d;.rename_i hcond;obtain⟨E,g,f⟩:=hcond;simp only[R_,B7]at d;obtain⟨rfl,rfl⟩:=d;obtain⟨W,Q⟩:=aM9 hop ht hz hby a h (j x tx (by simp[aQ]) hx) (j y ty (by simp[aQ]) hy) hl e E g f;exact⟨rfl,fun m=>.msl m 0 0 l.toNat c.toNat z.length,fun m=>by simp[bO,hl,e,E,g,f],W,Q⟩
   .simp at d
  .simp at d
 |builtin mu c b top e hb=>rw[yI hb]at d;simp at d
 |_=>simp[bO]at d
theorem nR:VR M J L undef (.tuple #[]):=.tup _ [] #[] rfl (fun i x v a=>by simp at a)
theorem bU4{o:Oper}{c:Call}{b:Builtin}{mu:Bool}{top:TOp}(U:o.op=.call c)(V:c.callee=.builtin b)(h:fV P A mu dsts b c.argTypes.toList c.args.toList=some top)(a:Act)(N:MS P O K M J L S env w){ev:aH->TV} (D:aKj A dsts M J L ev a top) {rs:Tn_} {v:TV} (f:gO top ev rs env S=some (v,env',S')):cK P O K top M J L S env w (execOp a.eval o) v env' S':=by
 obtain⟨ty,F,R⟩:=aA7 U V a;rw[R];unfold fV at h;split at h
 .rename_i t u r s x hts has;have E:=bFf has a;have G:=rG hts;have t1:=bSn hts;split at h
  .rename_i e k ht hu;split at h
   .rename_i z bytes ts' tx' hz hby hs hx;split at h;.simp at h
    .rename_i hne;rw[H2]at hne;simp at h;subst h;simp only[gO]at f;split at f
     .rename_i n hn;split at f;.rename_i r' S2 hg;simp only[R_,B7]at f;obtain⟨rfl,rfl,rfl⟩:=f;obtain⟨k',T⟩:=kQ hn (D x tx' (by simp[aQ]) hx);obtain⟨C,w',M',J',l,p,h3,H⟩:=bMn (ty:=ty) (k':=k') N G t1 ht hu hz hne.1 hby hne.2 (D s ts' (by simp[aQ]) hs) hg;refine .mk0 rfl (r:=.value C) ?_ (.inl ⟨C,rfl,p⟩) h3 H (.refl _);rw[<-T]at l;simp[Go.builtin,E,l]
      .simp at f
     .simp at f
   .simp at h
  .rename_i e e2 ht hu;split at h
   .rename_i z bytes ts' tx' hz hby hs hx;split at h;.simp at h
    .rename_i hne;rw[H2]at hne;simp at h;subst h;simp only[gO]at f;split at f;.rename_i r' S2 hg;simp only[R_,B7]at f;obtain⟨rfl,rfl,rfl⟩:=f;obtain⟨C,w',M',J',l,p,h3,H⟩:=aHj (ty:=ty) N G t1 ht (.inl ⟨e2,hu⟩) hz hne.1 hby hne.2 (D s ts' (by simp[aQ]) hs) (D x tx' (by simp[aQ]) hx) hg;refine .mk0 rfl (r:=.value C) ?_ (.inl ⟨C,rfl,p⟩) h3 H (.refl _);simp[Go.builtin,E,l]
     .simp at f
   .simp at h
  .rename_i e ht hu;split at h
   .rename_i z bytes ts' tx' hz hby hs hx;split at h;.simp at h
    .rename_i hne;rw[H2]at hne;simp at h;subst h;simp only[gO]at f;split at f;.rename_i r' S2 hg;simp only[R_,B7]at f;obtain⟨rfl,rfl,rfl⟩:=f;obtain⟨C,w',M',J',l,p,h3,H⟩:=aHj (ty:=ty) N G t1 ht (.inr hu) hz hne.1 hby hne.2 (D s ts' (by simp[aQ]) hs) (D x tx' (by simp[aQ]) hx) hg;refine .mk0 rfl (r:=.value C) ?_ (.inl ⟨C,rfl,p⟩) h3 H (.refl _);simp[Go.builtin,E,l]
     .simp at f
   .simp at h
  .simp at h
 .rename_i t r d s hts has;have E:=bFf has a;have G:=rG hts;split at h
  .rename_i e ht;split at h
   .rename_i n td ts' hn hd hs;split at h;.simp at h
    .simp at h;subst h;simp only[gO]at f;split at f;.rename_i r' S2 hg;simp only[R_,B7]at f;obtain⟨rfl,rfl,rfl⟩:=f;obtain⟨C,w',l,p,h3,H⟩:=bMo (ty:=ty) N G ht hn (D d td (by simp[aQ]) hd) (D s ts' (by simp[aQ]) hs) hg;refine .mk0 rfl (r:=.value C) ?_ (.inl ⟨C,rfl,p⟩) h3 H (.refl _);simp[Go.builtin,E,l]
     .simp at f
   .simp at h
  .simp at h
 .rename_i t r x hts has;have E:=bFg has a;have G:=rG hts;split at h
  .rename_i e ht;split at h
   .rename_i z tx' hz hx;split at h;.simp at h
    .simp at h;subst h;simp only[gO]at f;split at f;.rename_i S2 hg;simp only[R_,B7]at f;obtain⟨rfl,rfl,rfl⟩:=f;obtain⟨w',l,p,h3⟩:=bE8 (ty:=ty) N G ht hz (D x tx' (by simp[aQ]) hx) hg;refine .mk0 rfl (r:=.value (.tuple #[])) ?_ (.inl ⟨_,rfl,nR⟩) p h3 (.refl _);simp[Go.builtin,E,l]
     .simp at f
   .simp at h
  .simp at h
 .split at h;.simp only[G_]at h;obtain⟨q,_,rfl⟩:=h;simp[gO]at f
  .simp at h
 .repeat' split at h
  all_goals first
   |(simp at h;done)
   |(simp at h;subst h;simp[gO]at f;done)
   |(simp only[G_]at h;obtain⟨q,_,rfl⟩:=h;simp[gO]at f;done)
 .rename_i t r m k hts has;have E:=bFf has a;have G:=rG hts;split at h
  .rename_i kt el ht;split at h
   .rename_i kk tm tk hkk hm hk;simp at h;subst h;have l:=D m tm (by simp[aQ]) hm;have p:=D k tk (by simp[aQ]) hk;have fin:∀ {S2:aA} {Q:IV},lH (ev tk)=some Q->gX kk Q=true->v=undef->env'=env->S'=S2->((ev tm=.iv .nilm/\S2=S)\/∃j es clock res,ev tm=.map j/\S[j]?=some (.mp es clock)/\findKey kk Q es 0=some res/\S2=(match res with|some (n,_)=>S.set j (.mp (es.eraseIdx n) clock)|none=>S)) ->
      cK P O K (.delete kk tm tk) M J L S env w (Go.builtin .delete c.argTypes ty F (c.args.map a.eval)) v env' S':=by
     intro S2 Q g i I e2 e3 W
     subst I;subst e2;subst e3
     obtain⟨w',q1,Y,Z⟩:=aYb (ty:=ty) G ht hkk N l p g i W
     refine .mk0 rfl (r:=.value (.tuple #[])) ?_ (.inl ⟨_,rfl,nR⟩) Y Z (.refl _)
     simp[Go.builtin,E,q1]
    simp only[gO]at f;split at f
    .rename_i Q g hnil;split at f;.rename_i i;simp only[R_,B7]at f;obtain⟨I,e2,e3⟩:=f;exact fin g i I.symm e2.symm e3.symm (.inl ⟨hnil,rfl⟩)
     .simp at f
    .rename_i Q j g hj;split at f;.simp at f
     .rename_i i;split at f
      .rename_i es clock hs;split at f;.rename_i n y hf;simp only[R_,B7]at f;obtain⟨I,e2,e3⟩:=f;exact fin g (by simpa using i) I.symm e2.symm e3.symm (.inr ⟨j,es,clock,_,hj,hs,hf,rfl⟩)
       .rename_i hf;simp only[R_,B7]at f;obtain⟨I,e2,e3⟩:=f;exact fin g (by simpa using i) I.symm e2.symm e3.symm (.inr ⟨j,es,clock,_,hj,hs,hf,rfl⟩)
       .simp at f
      .simp at f
    .simp at f
   .simp at h
  .simp at h
 .simp only[G_]at h;obtain⟨q,_,rfl⟩:=h;simp[gO]at f
 .simp only[G_]at h;obtain⟨q,_,rfl⟩:=h;simp[gO]at f
 .simp at h
theorem bSo{o:Oper}{top:TOp}(p:bY P O A dsts slot o.op top)(a:Act)(h:MS P O K M J L S env w){ev:aH->TV}(f:aKj A dsts M J L ev a top){rs:Tn_}{v:TV} (d:gO top ev rs env S=some (v,env',S')):cK P O K top M J L S env w (execOp a.eval o) v env' S':=by
 generalize hop:o.op=op at p;cases p with
 |allocL t z j hz hj =>
  simp only[gO]at d;split at d;.simp at d
  .rename_i hcond;simp only[R_,B7]at d;obtain⟨rfl,rfl,rfl⟩:=d;obtain⟨i,E,_,_,_,u,r,C⟩:=iC hz;have g:j<env.length:=by simp at hcond;exact hcond.2
   exact aD8 h t (aD7 u C) g rfl (aHi hop r a)
 |boxL t x tx j hx hj =>
  simp only[gO]at d;split at d;.simp at d
  .rename_i hcond;simp only[R_,B7]at d;obtain⟨rfl,rfl,rfl⟩:=d;simp only[D3,H2]at hcond;have g:j<env.length:=by simpa using hcond.2
   exact aD8 h t (tA (f x tx (by simp[aQ]) hx) (by simpa using hcond.1.1)) g rfl (aVs hop a)
 |store t x y tx ty n hn hx hy =>
  simp only[gO]at d;split at d
  .rename_i hl;split at d;.rename_i env2 S2 hs;simp only[R_,B7]at d;obtain⟨rfl,rfl,rfl⟩:=d;exact aX9 hop hn a h (f x tx (by simp[aQ]) hx) (f y ty (by simp[aQ]) hy) hl hs rfl
   .simp at d
  .simp at d
 |update t kt el m k v' kk tm tk tv ht hkk hm hk hv' =>
  have l:=f k tk (by simp[aQ]) hk;have h3:=f v' tv (by simp[aQ]) hv';have e:=f m tm (by simp[aQ]) hm;simp only[gO]at d;split at d
  .rename_i ki j hki hj;rw[hj]at e;split at d;.simp at d
   .rename_i hko;split at d
    .rename_i es clock hs;split at d;.simp at d
     .rename_i hlp;split at d
      .rename_i n y hf;split at d;.simp at d
       .rename_i hsame;simp only[R_,B7]at d;obtain⟨rfl,rfl,rfl⟩:=d;exact aEg (.inl hop) ht hkk a h e l h3 (by simpa using hlp) hki (by simpa using hko) hs hf ⟨by simpa using hsame,rfl⟩ rfl
      .rename_i hf;simp only[R_,B7]at d;obtain⟨rfl,rfl,rfl⟩:=d;exact aEg (.inl hop) ht hkk a h e l h3 (by simpa using hlp) hki (by simpa using hko) hs hf rfl rfl
      .simp at d
    .simp at d
  .simp at d
 |entry t kt el m k kk zi tm tk ht hkk hz hm hk =>
  have l:=f k tk (by simp[aQ]) hk;have e:=f m tm (by simp[aQ]) hm;simp only[gO]at d;split at d
  .rename_i ki j hki hj;rw[hj]at e;split at d;.simp at d
   .rename_i hko;split at d
    .rename_i es clock hs;split at d
     .rename_i n y hf;split at d;.simp at d
      .rename_i hsame;simp only[R_,B7]at d;obtain⟨rfl,rfl,rfl⟩:=d;exact aHo hop ht hkk hz a h e l hki (by simpa using hko) hs hf ⟨by simpa using hsame,rfl,rfl⟩ rfl
     .rename_i hf;simp only[R_,B7]at d;obtain⟨rfl,rfl,rfl⟩:=d;exact aHo hop ht hkk hz a h e l hki (by simpa using hko) hs hf ⟨rfl,rfl⟩ rfl
     .simp at d
    .simp at d
  .simp at d
 |entryStore t m s v' tm ts tv hm hs hv' =>
  have e:=f m tm (by simp[aQ]) hm;have l:=f s ts (by simp[aQ]) hs;have h3:=f v' tv (by simp[aQ]) hv';simp only[gO]at d;split at d
  .rename_i j born hj hborn;rw[hj]at e;split at d
   .rename_i es clock hs;split at d;.simp at d
    .rename_i hlp;split at d;.rename_i n hn;simp only[R_,B7]at d;obtain⟨rfl,rfl,rfl⟩:=d;exact aEh hop a h e l h3 (by simpa using hlp) hborn hs hn rfl
     .simp at d
   .simp at d
  .simp at d
 |rangeS t x tx ht hx =>
  have e:=f x tx (by simp[aQ]) hx;simp only[gO]at d;split at d;.rename_i s _ hs;rw[hs]at e;simp only[R_,B7]at d;obtain⟨rfl,rfl,rfl⟩:=d;exact aQ9 hop ht a h e rfl
  .contradiction
  .contradiction
  .simp at d
 |rangeM t kt el x tx ht hx =>
  have e:=f x tx (by simp[aQ]) hx;simp only[gO]at d;split at d;.contradiction
  .rename_i _ hs;rw[hs]at e;simp only[R_,B7]at d;obtain⟨rfl,rfl,rfl⟩:=d;exact aRa hop ht a h e rfl
  .rename_i j _ hs;rw[hs]at e;split at d;.rename_i es clock hss;simp only[R_,B7]at d;obtain⟨rfl,rfl,rfl⟩:=d;exact aRb hop ht a h e hss rfl
   .simp at d
  .simp at d
 |nextS x tx hx =>
  have e:=f x tx (by simp[aQ]) hx;simp only[gO]at d;split at d
  .rename_i j hj;rw[hj]at e;split at d
   .rename_i s pos hs;obtain⟨D,q⟩:=aYc (top:=.nextS tx) hop a h e hs rfl;split at d;.rename_i hlt;simp only[R_,B7]at d;obtain⟨rfl,rfl,rfl⟩:=d;exact D hlt
    .rename_i hlt;simp only[R_,B7]at d;obtain⟨rfl,rfl,rfl⟩:=d;exact q hlt
   .simp at d
  .simp at d
 |builtin mu c b top p hb=>exact bU4 hop p hb a h f d
 |_=>simp[gO]at d
end
end Go.TM
namespace Go.TM
open Go
def Out.All{α:Type}(Q:α->Prop):Out α->Prop
 |.ret a=>Q a
 |.fail _=>False
 |.pick n k=>∀i,i<n->(k i).All Q
theorem Out.all_bind{α c:Type}{Q:c->Prop}{f:α->Out c}:∀ {x:Out α},(x.bind f).All Q↔x.All (fun a=>(f a).All Q)
 |.ret _=>Iff.rfl
 |.fail _=>Iff.rfl
 |.pick _ k=>⟨fun h i b=>(Out.all_bind (x:=k i)).1 (h i b),fun h i b=>(Out.all_bind (x:=k i)).2 (h i b)⟩
theorem Out.all_mono{α:Type}{Q Q':α->Prop}(h:∀a,Q a->Q' a):∀ {x:Out α},x.All Q->x.All Q'
 |.ret _,hx=>h _ hx
 |.fail _,hx=>hx.elim
 |.pick _ _,hx=>fun i b=>Out.all_mono h (hx i b)
theorem Out.all_ofOpt{α:Type}{Q:α->Prop}{s:String}{x:Option α}(h:(Out.ofOpt s x).All Q):∃a,x=some a/\Q a:=by
 cases x with
 |none=>exact h.elim
 |some a=>exact⟨a,rfl,h⟩
section
variable (P:Program)(O:dH)(K:TM.bD)
structure cZ (F:Fence):Prop where
 fn:∀f,F.fn f
 depth:F.depth=none
 alive:F.alive=false
theorem cZ.wide:cZ Fence.wide:=⟨fun _=>trivial,rfl,rfl⟩
def gP(M:Mem)(J:aF)(S:aA)(w:World)(Q:TV×aA->Prop):Ending->World->Prop
 |.returned v',w'=>∃v S' M' J',Q (v,S')/\VR M' J' [] v v'/\WR P O M' J' S' w'/\Tr (fun _=>False) M J S w M' J' S' w'
 |_,_=>False
def rH(M:Mem):Prop:=∀g cs,K.glob g=some cs->IR M (.cp cs) (.pointer (some ⟨g,0,none⟩))
def aKl(f:Nat)(call:List TV->aA->Out (TV×aA)):Prop :=
 ∀(F:Fence),cZ F->∀(n:Nat) (args:List TV) (S:aA) (Q:TV×aA->Prop),(call args S).All Q->∀(M:Mem) (J:aF) (w:World) (vals:List Value),VRs M J [] args vals->WR P O M J S w->rH K M ->
  CallsIn F n P f vals.toArray w (gP P O M J S w Q)
def bP1(i:Nat)(yld:List TV->aA->Out (TV×aA)):Prop :=
 ∀(F:Fence),cZ F->∀(n:Nat) (args:List TV) (S:aA) (Q:TV×aA->Prop),(yld args S).All Q->∀(M:Mem) (J:aF) (w:World) (vals:List Value),VRs M J [] args vals->WR P O M J S w->rH K M ->
  ∀l,J.at i l->∃r:Loop,w.heap[l.cb]?=some (.loop r)/\vals.length=r.params.size /\
   RoundIn F n P l.cb r.fn ((r.params.zip vals.toArray).foldl (fun tmps (t,a)=>tmps.setIfInBounds t a) r.tmps) r.assign r.body w (gP P O M J S w Q)
end
section
variable {P:Program}{O:dH}{K:TM.bD}
variable {M:Mem}{J:aF}{L:List (Option Nat)}{S S':aA}{env env':Env}{w:World}
def Mem.tell(M:Mem)(Z:Nat->Prop)[DecidablePred Z](w:World):Mem:=fun b o=>if Z b then w.cell? ⟨b,o,none⟩else M b o
theorem Mem.le_tell{Z:Tm_}[DecidablePred Z](h:∀b o v,M b o=some v->w.cell? ⟨b,o,none⟩=some v):MLe M (M.tell Z w):=by
 intro b o v a;unfold Mem.tell;split;.exact h b o v a
 .exact a
theorem Mem.tell_cell{Z:Tm_}[DecidablePred Z](h:∀b o v,M b o=some v->w.cell? ⟨b,o,none⟩=some v):∀b o v,M.tell Z w b o=some v->w.cell? ⟨b,o,none⟩=some v:=by
 intro b o v a;unfold Mem.tell at a;split at a;.exact a
 .exact h b o v a
def pB:TV->List Nat
 |.msl i _ _ _ _ _=>[i]
 |_=>[]
def kA:TV->List Nat
 |.agg cs=>cs.flatMap pB
 |v=>pB v
theorem aVx{Z:Tm_}[DecidablePred Z](h:WR P O M J S w){x:TV}{v:Value}(r:VR M J L x v){a:IV}(d:aDw S x=some a)(D:∀i∈pB x,∀l,J.at i l->Z l.cb):IR (M.tell Z w) a v:=by
 have m:MLe M (M.tell Z w):=Mem.le_tell h.imm;have G:MS P O (⟨fun _=>none,fun _=>none,fun _=>none⟩:TM.bD) M J [] S [] w:=⟨h,⟨rfl,fun j cs e=>by simp at e,fun j k cs F cb e=>by simp at e⟩,fun g cs H=>by simp at H⟩
 unfold aDw at d;split at d;.rename_i a0;simp at d;subst d;exact r.iv_inv.mono m
 .rename_i i es;simp at d;subst d;cases r with
  |tsl L i es l b o c e hl p ha d=>exact d.mono m
 .rename_i i ver off len cap es;split at d
  .rename_i l hl;simp at d;subst d;have p:VR M J [] (.msl i ver off len cap es) v:=r.frame rfl;cases r with
   |msl L i ver off len cap es loc b o c e hver ha hlen hlc =>
    have s:=D i (by simp[pB]) loc e;have n:=hl;rcases aA1 G p hl with⟨I,q,e9⟩|⟨N,o',c',es',q,e2,e3,z⟩;.simp only[Value.slice.injEq]at q;obtain⟨rfl,rfl,rfl⟩:=q;subst e9;exact .slE _ _ B_
    .simp only[Value.slice.injEq,R_,Addr.mk.injEq]at q;obtain⟨⟨rfl,rfl,_⟩,rfl,rfl⟩:=q;have y:b=loc.cb:=by
      simp only[cH]at n;split at n
      .rename_i v' lo cs hs;split at n;.simp at n
       .rename_i hvv;have f:=h.blk i loc _ e hs;cases f with
        |cells=>exact(ha A_).1
      .rename_i v' cs hs;split at n;.simp at n
       .rename_i hvv;have f:=h.blk i loc _ e hs;cases f with
        |frz=>exact(ha A_).1
      .simp at n
     subst y;refine aM2 B_ e3 e2 (fun E=>by simp at E) (fun k a C=>?_);obtain⟨u,A,t⟩:=z k a C;exact⟨u,by unfold Mem.tell;rw[K_ s];exact A,t.mono m⟩
  .simp at d
 .simp at d
theorem aNa{Z:Tm_}[DecidablePred Z](h:WR P O M J S w):∀ {xs:Tn_} {vs:List Value} {l:Tq_},VRs M J L xs vs->xP S xs=some l->(∀x∈xs,∀i∈pB x,∀c,J.at i c->Z c.cb) ->l.length=vs.length/\∀(i:Nat) (a:IV) (v:Value),l[i]?=some a->vs[i]?=some v->IR (M.tell Z w) a v
 |[],vs,l,d,hr,_=>by rw[d.nil_inv];simp[xP]at hr;subst hr;exact⟨rfl,fun i a v h=>by simp at h⟩
 |x::xs,vs,l,d,hr,hz=>by
  obtain⟨u,us,rfl,k,f⟩:=d.cons_inv;simp only[xP]at hr;split at hr
  .rename_i a l' e1 e2;simp at hr;subst hr;obtain⟨e3,j⟩:=aNa h f e2 (fun y g=>hz y (by simp[g]));refine⟨by simp[e3],fun i b v e d=>?_⟩;cases i with
   |zero=>simp at e d;subst e;subst d;exact aVx h k e1 (hz x B_)
   |succ i=>exact j i b v (by simpa using e) (by simpa using d)
  .simp at hr
theorem aCo{Z:Tm_}[DecidablePred Z](h:WR P O M J S w){x:TV}{v:Value}(b:VR M J L x v){a:IV}(c:wI S x=some a)(g:∀i∈kA x,∀l,J.at i l->Z l.cb):IR (M.tell Z w) a v:=by
 unfold wI at c;split at c
 .rename_i cs;simp only[G_]at c;obtain⟨l,k,rfl⟩:=c;cases b with
  |agg L cs vs hs b =>have e:VRs M J [] cs vs.toList:=.ofAgg hs b;obtain⟨j,e2⟩:=aNa (Z:=Z) h e k (fun x d i f=>g i (H7.2 ⟨x,d,f⟩));exact .agg _ _ (by simpa using j.symm) (fun i x v d b=>e2 i x v d (by simpa using b))
 .rename_i hna;refine aVx h b c (fun i f=>g i ?_);cases x<;>first|exact f|exact absurd rfl (hna _)
theorem aNb{Z:Tm_}[DecidablePred Z](h:WR P O M J S w){x:TV}{v:Value}(e:VR M J L x v){a:TV}(c:jP S x=some a)(j:∀i∈kA x,∀l,J.at i l->Z l.cb):VR (M.tell Z w) [] [] a v:=by
 unfold jP at c;split at c
 .rename_i f fst cap;split at c
  .rename_i hc;simp at c;subst c;simp only[P_,C6]at hc;cases e with
   |fn L f fst cap fst' cap' h1 h2 hf hcp =>
    have key:∀ {x:TV} {v:Value},kM x=true->VR M J [] x v->VR (M.tell Z w) [] [] x v:=by
     intro x v k d;cases x<;>simp[kM]at k
     exact .iv _ (d.iv_inv.mono (Mem.le_tell h.imm))
    exact .fn _ f fst cap fst' cap' h1 h2 (fun i x v d e=>key (hc.1 x (B4 d)) (hf i x v d e)) (fun i x v d e=>key (hc.2 x (B4 d)) (hcp i x v d e))
  .simp at c
 .simp only[G_]at c;obtain⟨b,g,rfl⟩:=c;exact .iv _ (aCo h e g j)
theorem pC{Z:Tm_}[DecidablePred Z](h:WR P O M J S w):∀ {xs:Tn_} {vs:List Value} {b:Tn_},VRs M J L xs vs->cY S xs=some b->(∀x∈xs,∀i∈kA x,∀c,J.at i c->Z c.cb) ->VRs (M.tell Z w) [] [] b vs
 |[],vs,b,hv,hr,_=>by rw[hv.nil_inv];simp[cY]at hr;subst hr;exact .nil
 |x::xs,vs,b,hv,hr,hz=>by
  obtain⟨u,us,rfl,d,e⟩:=hv.cons_inv;simp only[cY]at hr;split at hr;.rename_i a l' e1 e2;simp at hr;subst hr;exact .cons (aNb h d e1 (hz x B_)) (pC h e e2 (fun y f=>hz y (by simp[f])))
  .simp at hr
theorem WR.empty{M:Mem}{w:World}(h:∀b o v,M b o=some v->w.cell? ⟨b,o,none⟩=some v):WR P O M [] [] w :=
 ⟨rfl,h,fun i l s a=>by simp[aF.at]at a,fun i k l l' a=>by simp[aF.at]at a,fun i l a=>by simp[aF.at]at a⟩
theorem aHr{Z:Tm_}[DecidablePred Z](h:WR P O M J S w)(c:∀i l,J.at i l->Z l.cb):∀ {xs:Tn_} {vs:List Value} {b:Tn_},VRs M J L xs vs->vL S xs=some b->VRs (M.tell Z w) [] [] b vs
 |[],vs,b,hv,hr=>by rw[hv.nil_inv];simp[vL]at hr;subst hr;exact .nil
 |x::xs,vs,b,hv,hr=>by
  obtain⟨u,us,rfl,d,e⟩:=hv.cons_inv;simp only[vL]at hr;split at hr;.rename_i a l' e1 e2;simp at hr;subst hr;exact .cons (.iv _ (aCo h d e1 (fun i _ l f=>c i l f))) (aHr h c e e2)
  .simp at hr
theorem aEl{Z:Tm_}[DecidablePred Z](h:WR P O M J S w)(e:∀i l,J.at i l->Z l.cb){x r:TV}{v:Value}(c:VR M J [] x v)(a:resolve S x=some r):VR (M.tell Z w) [] [] r v:=by
 unfold resolve at a;split at a
 .rename_i vs;simp only[G_]at a;obtain⟨k,d,rfl⟩:=a;cases c with
  |tup L cs vs hs c =>have:=aHr h e (.ofAgg hs c) d;exact .tup _ _ _ (by simpa using this.1) (fun i x v g c=>this.2 i x v g (by simpa using c))
 .simp only[G_]at a;obtain⟨b,f,rfl⟩:=a;exact .iv _ (aCo h c f (fun i _ l j=>e i l j))
theorem IR.scalar{M M':Mem}{a:IV}{v:Value}(h:IR M a v)(c:iP a=true):IR M' a v:=by
 cases h with
 |bool b=>exact .bool b
 |int k n=>exact .int k n
 |str s=>exact .str s
 |nilp=>exact .nilp
 |nilm=>exact .nilm
 |nilf=>exact .nilf
 |nili=>exact .nili
 |slNil=>simp[iP]at c
 |slE t a ht=>simp[iP]at c
 |sl t l b off cap es vals ht hes hcap hfull hm hv=>simp[iP]at c
 |cp cs b off vals hm hv=>simp[iP]at c
 |agg cs vs hsz hv =>
  refine .agg cs vs hsz (fun i x u d f=>?_);have e:=hv i x u d f;simp only[iP,C6]at c;have g:=c x (B4 d);cases e with
  |bool b=>exact .bool b
  |int k n=>exact .int k n
  |str s=>exact .str s
  |_=>simp at g
theorem VR.scalar{M M':Mem}{J J':aF}{L L':Tk_}{x:TV}{v:Value}(h:VR M J L x v)(a:fW x=true):VR M' J' L' x v:=by
 cases h with
 |iv L h=>exact .iv _ (h.scalar (by simpa[fW] using a))
 |tup L cs vs hsz hv =>
  refine .tup _ cs vs hsz (fun i x u c d=>?_);simp only[fW,C6]at a;have b:=a x (B4 c);have e:=hv i x u c d;cases e with
  |iv L h=>exact .iv _ (h.scalar (by simpa using b))
  |_=>simp at b
 |_=>simp[fW]at a
end
end Go.TM
namespace Go.TM
open Go
section
variable {P:Program}{O:dH}{K:TM.bD}
variable {M:Mem}{J:aF}{L:List (Option Nat)}{S S':aA}{env env':Env}{w:World}
theorem aKm{S2:aA}{i:Nat}(h:lY S i=some S2):S2.length=S.length/\(∀k,k≠i->S2[k]?=S[k]?) /\∃v l,S2[i]?=some (.frz v l)/\((∃lo cs,S[i]?=some (.cells v lo cs)/\toIVs cs=some l)\/S[i]?=some (.frz v l)):=by
 unfold lY at h;split at h;.rename_i v lo cs hs;simp only[G_]at h;obtain⟨l,a,rfl⟩:=h;exact⟨by simp,fun k b=>by rw[B3 A_],v,l,C7 (E_.1 hs).1,.inl ⟨lo,cs,hs,a⟩⟩
 .rename_i v l hs;simp at h;subst h;exact⟨rfl,fun k _=>rfl,v,l,hs,.inr hs⟩
 .simp at h
def pE(S S2:aA)(is:List Nat):Prop :=
 S2.length=S.length/\∀k,(k∉is->S2[k]?=S[k]?)/\(k∈is->∃v l,S2[k]?=some (.frz v l)/\((∃lo cs,S[k]?=some (.cells v lo cs)/\toIVs cs=some l)\/S[k]?=some (.frz v l)))
theorem pE.nil:pE S S []:=⟨rfl,fun k=>⟨fun _=>rfl,fun h=>by simp at h⟩⟩
theorem pE.trans{S2 S3:aA}{c e:Tc_}(h:pE S S2 c)(k:pE S2 S3 e):pE S S3 (c++e):=by
 refine⟨k.1.trans h.1,fun m=>⟨fun a=>?_,fun a=>?_⟩⟩;.simp only[a_,H2]at a;exact((k.2 m).1 a.2).trans ((h.2 m).1 a.1)
 .by_cases hj:m∈e
  .obtain⟨v,l,g,f⟩:=(k.2 m).2 hj;refine⟨v,l,g,?_⟩;by_cases d:m∈c
   .obtain⟨v',l',h3,i⟩:=(h.2 m).2 d;rcases f with⟨lo,cs,b,_⟩|b;.rw[h3]at b;simp at b
    .rw[h3]at b;simp at b;obtain⟨rfl,rfl⟩:=b;exact i
   .rw[(h.2 m).1 d]at f;exact f
  .have d:m∈c:=by simp at a;rcases a with a|a;exact a;exact absurd a hj
   rw[(k.2 m).1 hj];exact(h.2 m).2 d
theorem tK{S2:aA}{i:Nat}(h:lY S i=some S2):pE S S2 [i]:=by obtain⟨b,c,h3⟩:=aKm h;exact⟨b,fun k=>⟨fun a=>c k (by simpa using a),fun a=>by simp at a;subst a;exact h3⟩⟩
theorem oD:∀ {cs:Tn_} {S S2:aA},cJ.freezeC S cs=some S2->pE S S2 (cs.flatMap pB)
 |[],S,S2,h=>by simp[cJ.freezeC]at h;subst h;exact .nil
 |c::r,S,S2,h=>by
  cases c with
  |msl i ver off len cap es =>
   simp only[cJ.freezeC]at h;split at h;.rename_i S1 h1;exact(tK h1).trans (oD h)
   .simp at h
  |_=>simp only[cJ.freezeC]at h;exact oD (cs:=r) h
theorem iY:∀ {xs:Tn_} {S S2:aA},cJ S xs=some S2->pE S S2 (xs.flatMap kA)
 |[],S,S2,h=>by simp[cJ]at h;subst h;exact .nil
 |c::r,S,S2,h=>by
  cases c with
  |msl i ver off len cap es =>
   simp only[cJ]at h;split at h;.rename_i S1 h1;exact(tK h1).trans (iY h)
   .simp at h
  |agg cs =>
   simp only[cJ]at h;split at h;.rename_i S1 h1;exact(oD h1).trans (iY h)
   .simp at h
  |_=>simp only[cJ]at h;exact iY (xs:=r) h
theorem bMs{x:TV}{v:Value}(h:VR M J L x v){i:Nat}(a:i∈pB x):∃l,J.at i l:=by
 cases h<;>simp[pB]at a
 subst a;exact⟨_,by assumption⟩
theorem aVy{x:TV}{v:Value}(h:VR M J L x v){i:Nat}(a:i∈kA x):∃l,J.at i l:=by
 cases h with
 |agg L cs vs hs hv =>
  simp only[kA,H7]at a;obtain⟨c,f,a⟩:=a;obtain⟨k,e⟩:=I6 f;have d:k<vs.size:=by rw[hs];exact(E_.1 e).1
  exact bMs (hv k c _ e (A8 d)) a
 |msl L i' ver off len cap es l b o c h =>simp[kA,pB]at a;subst a;exact⟨_,h⟩
 |_=>simp[kA,pB]at a
theorem bFi{xs:Tn_}{vs:List Value}(h:VRs M J L xs vs){i:Nat}(a:i∈xs.flatMap kA):∃l,J.at i l:=by
 simp only[H7]at a;obtain⟨c,e,a⟩:=a;obtain⟨k,d⟩:=I6 e;have b:k<vs.length:=by rw[h.1];exact(E_.1 d).1
 exact aVy (h.2 k c _ d (D_ b)) a
def aYg(J:aF)(is:List Nat)(b:Nat):Prop:=∃i∈is,∃l,J.at i l/\l.cb=b
theorem WR.freeze(h:WR P O M J S w){S2:aA}{d:Tc_}(q:pE S S2 d)[DecidablePred (aYg J d)]:WR P O (M.tell (aYg J d) w) J S2 w:=by
 have b:MLe M (M.tell (aYg J d) w):=Mem.le_tell h.imm;refine⟨h.len.trans q.1.symm,Mem.tell_cell h.imm,fun i l s f g=>?_,h.inj,h.lt⟩;by_cases hi:i∈d
 .obtain⟨v,j,n,m⟩:=(q.2 i).2 hi;rw[n]at g;simp at g;subst g;have F:aYg J d l.cb:=⟨i,hi,l,f,rfl⟩
  rcases m with⟨lo,cs,h3,z⟩|h3
  .have c:=h.blk i l _ f h3;cases c with
   |cells loose cs cs' e fz hlo hb hsz hfit hv hfz hm =>refine .frz j (fun k a t=>?_);obtain⟨x,y,A⟩:=(iK z).2 k a t;obtain⟨u,E,r⟩:=hv k x y;refine⟨u,?_,(qC A r).mono b⟩;unfold Mem.tell;rw[K_ F,dX hb];exact E
  .have c:=h.blk i l _ f h3;cases c with
   |frz cs hv=>exact .frz j (fun k x D=>let ⟨u,n,m⟩:=hv k x D;⟨u,b _ _ _ n,m.mono b⟩)
 .rw[(q.2 i).1 hi]at g;refine(h.blk i l s f g).step rfl b (fun o=>?_) (.refl _);unfold Mem.tell;rw[I_];rintro⟨k,C,l',p,e⟩;exact hi (h.inj k i l' l p f e▸C)
end
section
variable {P:Program}{O:dH}{K:TM.bD}
variable {M:Mem}{J:aF}{L:List (Option Nat)}{S S':aA}{env env':Env}{w:World}
theorem zT{w':World}{N M1' M2:Mem}{J1':aF}{S1' S2:aA}{Mx:Mem}(f:WR P O N J S2 w)(t:MLe M N)(m:∀b o,¬J.has b->N b o=M b o)(u:∀i:Nat,J[i]?=some none->S2[i]?=S[i]?) (g:Tr (fun _=>False) Mx [] [] w M1' J1' S1' w') (q:∀b o v,M2 b o=some v->w'.cell? ⟨b,o,none⟩=some v): let M':Mem:=fun b o=>if b<w.heap.size then N b o else M2 b o
  WR P O M' J S2 w'/\Tr (fun _=>False) M J S w M' J S2 w':=by
 intro M';have a:∀b,b<w.heap.size->w'.heap[b]?=w.heap[b]? := fun b c=>g.frame b c (by rintro⟨i,l,e,_⟩;simp[aF.at]at e) (fun h=>h);have j:MLe N M':=by intro b o v p;show(if b<w.heap.size then N b o else M2 b o)=some v;rw[K_ (f.mlt p)];exact p
 have d:∀b o,b<w.heap.size->M' b o=N b o:=fun b o c=>K_ c;refine⟨f.step f.len j (.refl _) (fun b o v k=>?_) (fun i l s e r=>.inr ⟨e,r,a _ (f.lt i l e),fun o=>d _ _ (f.lt i l e)⟩) f.inj (fun i l e=>E9 (f.lt i l e) g.size),?_⟩
 .by_cases c:b<w.heap.size;.rw[d b o c]at k;rw[dR (a b c)];exact f.imm b o v k
  .have:M' b o=M2 b o:=I_ c;rw[this]at k;exact q b o v k
 .exact⟨g.os,g.tape,g.output,g.size,t.trans j,fun b o c x=>(d b o c).trans (m b o x),.refl _,fun i l e=>.inr ⟨l,e,rfl⟩,fun i n=>⟨n,u i n⟩,fun b c _ _=>a b c⟩
open Classical in
theorem yJ{D:Orc}{f:Nat}(Y:aKl P O K f (D.call f)){F:Fence}(hF:cZ F)(n:Nat){args:Tn_}{Q:TV×aA->Prop}(h:(fC D f args S).All Q){vals:List Value} (U:VRs M J L args vals) (s:WR P O M J S w) (hg:rH K M):CallsIn F n P f vals.toArray w (gP P O M J S w Q):=by
 unfold fC at h;split at h;.exact h.elim
 rename_i as has;rw[Out.all_bind]at h;by_cases hms:args.any pZ=true
 .have key:=Y F hF n as [] _ h (M.tell (aYg J (args.flatMap kA)) w) [] w vals (pC s U has (fun x H i u l d=>⟨i,H7.2 ⟨x,H,u⟩,l,d,rfl⟩)) (.empty (Mem.tell_cell s.imm))
   (fun g cs W=>(hg g cs W).mono (Mem.le_tell s.imm))
  refine key.mono (fun e w' y=>?_);cases e with
  |returned v' =>
   obtain⟨v,S1',M1',J1',j,z,k,t⟩:=y;have q:∀b,b<w.heap.size->¬J1'.has b:=by
    rintro b m ⟨i,l,d,rfl⟩;rcases t.jnew i l d with C|⟨l0,C,_⟩;.omega
    .simp[aF.at]at C
   simp only at j;split at j;.exact j.elim
   rename_i v2 a;have a:=aEl (Z:=J1'.has) k (fun i l d=>⟨i,l,d,rfl⟩) z a;have r:∀b o v,M1'.tell J1'.has w' b o=some v->w'.cell? ⟨b,o,none⟩=some v:=Mem.tell_cell k.imm;split at j
   .rename_i hcnd;split at j
    .rename_i S2 hfz;have E:=iY hfz;obtain⟨I,G⟩:=zT (M:=M) (S:=S) (J:=J) (M2:=M1'.tell J1'.has w') (s.freeze E) (Mem.le_tell s.imm) (fun b o m=>by unfold Mem.tell;rw[I_];rintro⟨i,_,l,d,e⟩;exact m ⟨i,l,d,e⟩) (fun i u=>(E.2 i).1 (fun p=>by obtain⟨l,d⟩:=bFi U p;unfold aF.at at d;rw[u]at d;simp at d)) t r;refine⟨v2,S2,_,J,j,?_,I,G⟩;refine a.mono (fun b o v p=>?_) ⟨by simp,fun i l d=>by simp[aF.at]at d⟩;split;.rename_i m;unfold Mem.tell at p;rw[I_ (q b m),t.mnew b o m (by rintro⟨i,l,d,_⟩;simp[aF.at]at d)]at p;exact p
     .exact p
    .exact j.elim
   .rename_i hcnd;have V:fW v2=true:=by simpa[hms] using hcnd
    obtain⟨I,G⟩:=zT (M:=M) (S:=S) (J:=J) (N:=M) (M2:=M1'.tell J1'.has w') s (.refl _) (fun b o m=>rfl) (fun i u=>rfl) t r;exact⟨v2,S,_,J,j,a.scalar V,I,G⟩
  |panicked c=>exact y.elim
  |outgrown=>exact y.elim
 .have R:args.flatMap kA=[]:=by
   rw[W3];intro x H;have A:pZ x=false:=by have:=t_.1 (by simpa using hms) x H;simpa using this
   cases x with
   |msl=>simp[pZ]at A
   |agg cs =>simp only[pZ]at A;simp only[kA,W3];intro c T;have:=t_.1 A c T;cases c<;>first|rfl|simp at this
   |_=>rfl
  have hZ:M.tell (fun _=>False) w=M:=by funext b o;simp[Mem.tell]
  have key:=Y F hF n as [] _ h M [] w vals (by have:=pC (Z:=fun _=>False) s U has (fun x H i u l d=>by have:i∈args.flatMap kA:=H7.2 ⟨x,H,u⟩;rw[R]at this;simp at this);rwa [hZ]at this) (.empty s.imm) hg;refine key.mono (fun e w' y=>?_);cases e with
  |returned v' =>
   obtain⟨v,S1',M1',J1',j,z,k,t⟩:=y;have q:∀b,b<w.heap.size->¬J1'.has b:=by
    rintro b m ⟨i,l,d,rfl⟩;rcases t.jnew i l d with C|⟨l0,C,_⟩;.omega
    .simp[aF.at]at C
   simp only at j;split at j;.exact j.elim
   rename_i v2 a;have a:=aEl (Z:=J1'.has) k (fun i l d=>⟨i,l,d,rfl⟩) z a;have r:∀b o v,M1'.tell J1'.has w' b o=some v->w'.cell? ⟨b,o,none⟩=some v:=Mem.tell_cell k.imm;split at j;.rename_i hcnd;simp[hms]at hcnd
   .obtain⟨I,G⟩:=zT (M:=M) (S:=S) (J:=J) (N:=M) (M2:=M1'.tell J1'.has w') s (.refl _) (fun b o m=>rfl) (fun i u=>rfl) t r;refine⟨v2,S,_,J,j,?_,I,G⟩;refine a.mono (fun b o v p=>?_) ⟨by simp,fun i l d=>by simp[aF.at]at d⟩;split;.rename_i m;unfold Mem.tell at p;rw[I_ (q b m),t.mnew b o m (by rintro⟨i,l,d,_⟩;simp[aF.at]at d)]at p;exact p
    .exact p
  |panicked c=>exact y.elim
  |outgrown=>exact y.elim
end
end Go.TM
namespace Go.TM
open Go
section
variable {P:Program}{O:dH}{K:TM.bD}
variable {M:Mem}{J:aF}{L:List (Option Nat)}{S S':aA}{env env':Env}{w:World}
open Classical in
theorem bMt{own:Tm_}{M':Mem}{J':aF}{S2:aA}{w':World}{v r:TV}{v':Value}(p:VR M' J' [] v v')(n:WR P O M' J' S' w')(c:Tr own M J S w M' J' S' w')(h:zN v S'=some (r,S2)): ∃M2,VR M2 J' [] r v'/\WR P O M2 J' S2 w'/\Tr own M J S w M2 J' S2 w':=by
 unfold zN at h;split at h
 .rename_i a S1 ha hf;simp at h;obtain⟨rfl,rfl⟩:=h;have f:=iY hf;have k:∀i∈[v].flatMap kA,∃l,J'.at i l:=fun i j=>aVy p (by simpa using j);refine⟨M'.tell (aYg J' ([v].flatMap kA)) w',.iv _ (aCo n p ha (fun i j l d=>⟨i,by simpa using j,l,d,rfl⟩)),n.freeze f,
   ⟨c.os,c.tape,c.output,c.size,c.mle.trans (Mem.le_tell n.imm),fun b o t q=>?_,c.jle,c.jnew,fun i j=>?_,c.frame⟩⟩
  .rw[<-c.mnew b o t q];unfold Mem.tell;rw[I_];rintro⟨i,_,l,d,e⟩;rcases c.jnew i l d with g|⟨s,g,m⟩;.omega
   .exact q ⟨i,s,g,m.trans e⟩
  .obtain⟨g,m⟩:=c.ph i j;refine⟨g,(((f.2 i).1 (fun u=>?_)).trans m)⟩;obtain⟨l,d⟩:=k i u;unfold aF.at at d;rw[g]at d;simp at d
 .simp at h
theorem aEm{j:Orc}{f:Nat}(o:aKl P O K f (j.call f)){F:Fence}(s:cZ F)(n:Nat){l:Bool}{args:Tn_}{Q:TV×aA->Prop}(h:(jJ j l f args S).All Q){vals:List Value} (p:VRs M J L args vals) (t:WR P O M J S w) (r:rH K M):CallsIn F n P f vals.toArray w (gP P O M J S w Q):=by
 unfold jJ at h;split at h;.exact h.elim
 rename_i hlp;rw[Out.all_bind]at h;refine(o F s n args S _ h M J w vals (p.frame (by simpa using hlp)) t r).mono (fun e w' k=>?_);cases e with
 |returned v' =>
  obtain⟨v,S1,M',J',d,i,g,m⟩:=k;simp only at d;split at d
  .split at d;.rename_i q ht;obtain⟨u,S2⟩:=q;obtain⟨M2,a,b,c⟩:=bMt i g m ht;exact⟨u,S2,M2,J',d,a,b,c⟩
   .exact d.elim
  .exact⟨v,S1,M',J',d,i,g,m⟩
 |panicked c=>exact k.elim
 |outgrown=>exact k.elim
end
end Go.TM
namespace Go.TM
open Go
section
variable {P:Program}{O:dH}{K:TM.bD}{A:Ann}{dsts:List (Option Nat)}{slot:Option Nat}
variable {M:Mem}{J:aF}{L:List (Option Nat)}{S S':aA}{env env':Env}{w:World}
def rI(P:Program)(O:dH)(K:TM.bD)(f:Nat)(p:aF5):Prop :=
 ∀(args:List TV) (S:aA) (v:TV) (S':aA),p args S=some (v,S')->∀(M:Mem) (J:aF) (w:World) (vals:List Value),VRs M J [] args vals->WR P O M J S w->rH K M ->
  (∃ fn, P.funcs[f]? = some fn ∧ fn.body.isSome = true ∧ fn.name ≠ "runtime.NumGoroutine" ∧ ∀ (F : Fence), cZ F → ∀ n, CallsIn F n P f vals.toArray w (gP P O M J S w fun r => r = (v, S'))) ∨
  ∃v' w' M' J',(callFunc f vals.toArray).run P w=.ok (.value v') w'/\VR M' J' [] v v'/\WR P O M' J' S' w'/\Tr (fun _=>False) M J S w M' J' S' w'
structure bFj (P:Program) (O:dH) (K:TM.bD) (orc:Orc):Prop where
 call:∀f,aKl P O K f (orc.call f)
 yld:∀i,bP1 P O K i (orc.yld i)
 prim:∀f p,K.prim f=some p->rI P O K f p
theorem bY.notDefer{op:Op}{top:TOp}(h:bY P O A dsts slot op top)(c:Call):op≠.defer c:=by cases h<;>simp
theorem aRe{o:Oper}{top:TOp}(e:bY P O A dsts slot o.op top)(a:Act)(h:MS P O K M J L S env w){rs:Tn_}(f:aKj A dsts M J L (aX K env rs) a top){v:TV} (c:jI K top env rs S=some (v,env',S')):cK P O K top M J L S env w (execOp a.eval o) v env' S':=by
 unfold jI iU at c;split at c
 .rename_i v' hfl;simp only[R_,B7]at c;obtain⟨rfl,rfl,rfl⟩:=c;refine(bFh e a h f ?_).2;split at hfl;.rename_i v2 hp;simp at hfl;subst hfl;exact .inl hp
  .exact .inr hfl
 .split at c;.rename_i v' b hal;simp only[R_,B7]at c;obtain⟨rfl,rfl,rfl⟩:=c;obtain⟨d,m,g,k,j,l,i⟩:=aVw e a h f hal;have:=g S.length;rw[hal]at this;simp at this;rw[this];exact i.push h d
  .exact bSo e a h f c
def bFk(P:Program)(O:dH)(K:TM.bD)(top:TOp)(M:Mem)(J:aF)(L:List (Option Nat))(S:aA)(env:Env)(w:World)(Q:TV×Env×aA->Prop)(o:Oper)(a:Act)(next:Act->World->Prop):Prop :=
 ∀(v:TV) (env':Env) (S':aA) (M':Mem) (J':aF) (L':List (Option Nat)) (w':World) (v':Value),Q (v,env',S')->VR M' J' L' v v'->MS P O K M' J' L' S' env' w'->Tr (cS L) M J S w M' J' S' w'->EL w (aP top) env env' L L' ->
  next (a.put o.dst v') w'
theorem tL{F:Fence}(p:cZ F)(n:Nat){o:Oper}{top:TOp}{a:Act}{v:TV}(g:∀c,o.op≠.defer c)(h:cK P O K top M J L S env w (execOp a.eval o) v env' S'){Q:TV×Env×aA->Prop}(j:Q (v,env',S')) {next:Act->World->Prop} (i:bFk P O K top M J L S env w Q o a next) {X:Exit->Act->World->Prop}:o.wpIn F n P a w next X:=by
 obtain⟨M',J',L',w',r,b,l,e,k,d⟩:=h;unfold Oper.wpIn;refine⟨fun f _=>p.fn f,?_⟩;rw[Oper.semAt_eq _ _ _ g,b];rcases l with⟨v',rfl,m⟩|⟨rfl,rfl⟩;.exact i _ _ _ _ _ _ _ _ j m e k d
 .exact i _ _ _ _ _ _ _ _ j nR e k d
theorem nL {f : Nat} {fn : Func} (a : P.funcs[f]? = some fn) (d : fn.body.isSome = true) (b : fn.name ≠ "runtime.NumGoroutine") (vals : Array Value) (w : World) : (callFunc f vals).run P w = .ok (.enter f vals) w := by
 cases h:fn.body with
 |none=>simp[h]at d
 |some c=>simp[callFunc,a,b,h]
theorem zU{o:Oper}{c:Call}{x:Operand}(d:o.op=.call c)(g:c.callee=.value x)(a:Act){f:FuncId}{b cap:Array Value}(e:a.eval x=.func (.func f) b cap): execOp a.eval o=callFunc f (b++c.args.map a.eval++cap):=by simp only[execOp,d,Go.resolve,g,e,Deferred.ofValue,invoke,pure_bind]
theorem gP.kont{top:TOp}(b:aP top=none)(h:MS P O K M J L S env w){Q:TV×Env×aA->Prop}{o:Oper}{a:Act}{next:Act->World->Prop}(j:bFk P O K top M J L S env w Q o a next){e:Ending}{w':World} (d:gP P O M J S w (fun r=>Q (r.1,env,r.2)) e w'):∃v',e=.returned v'/\next (a.put o.dst v') w':=by
 cases e with
 |returned v' =>obtain⟨v,S',M',J',l,f,k,m⟩:=d;obtain⟨i,g⟩:=h.step' k m;exact⟨v',rfl,j v env S' M' J' L w' v' l f.ofNil i g (by rw[b];exact⟨rfl,.refl _⟩)⟩
 |panicked c=>exact d.elim
 |outgrown=>exact d.elim
theorem aEn{F:Fence}(j:cZ F)(n:Nat){top:TOp}(b:aP top=none)(h:MS P O K M J L S env w){Q:TV×Env×aA->Prop}{o:Oper}{a:Act}{next:Act->World->Prop}(g:∀c,o.op≠.defer c) (p:bFk P O K top M J L S env w Q o a next) {f:Nat} {vals:Array Value} (d:(execOp a.eval o).run P w=.ok (.enter f vals) w) (l:CallsIn F (n-1) P f vals w (gP P O M J S w (fun r=>Q (r.1,env,r.2)))) {X:Exit->Act->World->Prop}: o.wpIn F n P a w next X:=by unfold Oper.wpIn;refine⟨fun f _=>j.fn f,?_⟩;rw[Oper.semAt_eq _ _ _ g,d,Oper.uponIn_enter];refine⟨fun i=>by rw[j.depth]at i;simp at i,l.mono (fun e w' k=>?_)⟩;obtain⟨v',rfl,m⟩:=k.kont b h p;exact m
theorem mM{o:Oper}{c:Call}(a:o.op=.call c)(d:Call):o.op≠.defer d:=by rw[a];simp
theorem aKn{mu:Bool}{b:Builtin}{ts:List TypeId}{xs:List Operand}{top:TOp}(h:fV P A mu dsts b ts xs=some top)(a:Orc)(env rs:Tn_)(S:aA): bW K a top env rs S=Out.ofOpt (sW top) (jI K top env rs S):=by
 unfold fV at h;repeat' split at h
 all_goals first
  |(simp at h;done)
  |(simp at h;subst h;rfl)
  |(simp only[G_]at h;obtain⟨q,_,rfl⟩:=h;rfl)
theorem bFl{i:Orc}(u:bFj P O K i){F:Fence}(q:cZ F)(n:Nat){top:TOp}(j:aP top=none)(h:MS P O K M J L S env w){Q:TV×Env×aA->Prop}{o:Oper}{c:Call}{x:Operand}(m:o.op=.call c)
  (y:c.callee=.value x) {a:Act} {next:Act->World->Prop} (A:bFk P O K top M J L S env w Q o a next) {k:Nat} {b cap args:Tn_} (v:VR M J L (.fn k b cap) (a.eval x)) (C:VRs M J L args (c.args.toList.map a.eval))
  (g : ∃ fn, P.funcs[k]? = some fn ∧ fn.body.isSome = true ∧ fn.name ≠ "runtime.NumGoroutine")
  (t:(if(b++args++cap).all kM then fC i k (b++args++cap) S else jJ i false k (b++args++cap) S).All (fun r=>Q (r.1,env,r.2))) {X:Exit->Act->World->Prop}:
  o.wpIn F n P a w next X:=by
 obtain⟨fn,s,z,p⟩:=g;generalize hv:a.eval x=xv at v;cases v with
 |fn L f b cap fst' cap' h1 h2 hf hcp =>
  have l:VRs M J L (b++args++cap) (fst'++c.args.map a.eval++cap').toList:=by simp only[Y7,Q4];exact((VRs.ofAgg h1 hf).ofNil.append C).append (VRs.ofAgg h2 hcp).ofNil
  have d:=nL s z p (fst'++c.args.map a.eval++cap') w;rw[<-zU m y a hv]at d;refine aEn q n j h (mM m) A d ?_;have e:fst'++c.args.map a.eval++cap'=(fst'++c.args.map a.eval++cap').toList.toArray:=B_;rw[e];split at t;.exact yJ (u.call k) q _ t l h.wr h.gl
  .exact aEm (u.call k) q _ t l h.wr h.gl
theorem aVz(a:Act)(f:FuncId):a.eval (.func f)=.func (.func f) #[] #[]:=rfl
theorem aA8 {u : Orc} (Y : bFj P O K u) (hK : ∀ k, (∃ fn, K.funcs k = some fn) → ∃ fn, P.funcs[k]? = some fn ∧ fn.body.isSome = true ∧ fn.name ≠ "runtime.NumGoroutine")
  (T:∀k args S Q,(u.call k args S).All Q->∃fn,K.funcs k=some fn) {F:Fence} (C:cZ F) (n:Nat) {o:Oper} {top:TOp} (Z:bY P O A dsts slot o.op top) {a:Act}
  (h:MS P O K M J L S env w) {rs:Tn_} (R:aKj A dsts M J L (aX K env rs) a top) {Q:TV×Env×aA->Prop} (d:(bW K u top env rs S).All Q) {next:Act->World->Prop}
  (G:bFk P O K top M J L S env w Q o a next) {X:Exit->Act->World->Prop}:o.wpIn F n P a w next X:=by
 have h5:=Z.notDefer;have z:bW K u top env rs S=Out.ofOpt (sW top) (jI K top env rs S)->o.wpIn F n P a w next X:=by intro e;rw[e]at d;obtain⟨r,hr,hQ⟩:=Out.all_ofOpt d;exact tL C n h5 (aRe Z a h R hr) hQ G
 generalize hop:o.op=op at Z;have body : ∀ {k : Nat} {as : List TV} {S0 : aA} {Q0 : TV × aA → Prop}, (fC u k as S0).All Q0 ∨ (∃ b, (jJ u b k as S0).All Q0) → ∃ fn, P.funcs[k]? = some fn ∧ fn.body.isSome = true ∧ fn.name ≠ "runtime.NumGoroutine" := by
  intro k as S0 Q0 D;refine hK k ?_;rcases D with D|⟨b,D⟩
  .unfold fC at D;split at D;.exact D.elim
   .rw[Out.all_bind]at D;exact T _ _ _ _ D
  .unfold jJ at D;split at D;.exact D.elim
   .rw[Out.all_bind]at D;exact T _ _ _ _ D
 cases Z with
 |builtin mu c b top hcc hb=>exact z (aKn hb u env rs S)
 |call pure trunc c f fn args hcc hfn hb hng ha =>
  have s:=mL ha (L:=L) (M:=M) (J:=J) (a:=a) (ev:=aX K env rs) (fun x tx H=>R x tx (by simpa[aQ] using H));simp only[bW]at d;rw[Out.all_bind]at d;have g:=nL hfn hb hng (#[]++c.args.map a.eval++#[]) w;rw[<-zU hop hcc a (aVz a f)]at g;refine aEn C n rfl h (mM hop) G g ?_;have e:#[]++c.args.map a.eval++#[]=(c.args.toList.map a.eval).toArray:=by apply N0;simp
  rw[e];split at d;.exact yJ (Y.call f) C _ d s h.wr h.gl
  .exact aEm (Y.call f) C _ d s h.wr h.gl
 |prim c f args hcc ha =>
  have s:=mL ha (L:=L) (M:=M) (J:=J) (a:=a) (ev:=aX K env rs) (fun x tx H=>R x tx (by simpa[aQ] using H));simp only[bW]at d;split at d
  .rename_i p hp;split at d;.exact d.elim
   rename_i hlp;rw[Out.all_bind]at d;obtain⟨⟨v,S1⟩,hr,hQ⟩:=Out.all_ofOpt d;have e:#[]++c.args.map a.eval++#[]=(c.args.toList.map a.eval).toArray:=by apply N0;simp
   have I:=zU hop hcc a (aVz a f);rw[e]at I;rcases Y.prim f p hp _ S v S1 hr M J w _ (s.frame (by simpa using hlp)) h.wr h.gl with⟨fn,V,U,h3,h4⟩|⟨v',w',M',J',V,U,h3,h4⟩
   .have g:=nL V U h3 (c.args.toList.map a.eval).toArray w;rw[<-I]at g;refine aEn C n rfl h (mM hop) G g ((h4 F C _).mono (fun e w' W=>?_));cases e with
    |returned v' =>obtain⟨v2,S2,M',J',q1,q2⟩:=W;simp at q1;obtain⟨rfl,rfl⟩:=q1;exact⟨_,_,M',J',hQ,q2⟩
    |panicked c=>exact W.elim
    |outgrown=>exact W.elim
   .obtain⟨q1,q2⟩:=h.step' h3 h4;unfold Oper.wpIn;refine⟨fun f _=>C.fn f,?_⟩;rw[Oper.semAt_eq _ _ _ (mM hop),I,V];exact G v env S1 M' J' L w' v' hQ U.ofNil q1 q2 ⟨rfl,.refl _⟩
  .exact d.elim
 |callv c x tx args hcc hx ha =>
  have s:=mL ha (L:=L) (M:=M) (J:=J) (a:=a) (ev:=aX K env rs) (fun x tx H=>R x tx (by simp[aQ,H]));have q:=R x tx (by simp[aQ]) hx;simp only[bW]at d;split at d
  .rename_i k fst cap hf;rw[hf]at q;rw[Out.all_bind]at d;refine bFl Y C n rfl h hop hcc G q s ?_ d;split at d;.exact body (.inl d)
   .exact body (.inr ⟨_,d⟩)
  .rename_i i hf;rw[hf]at q;split at d;.exact d.elim
   rename_i hlp;rw[Out.all_bind]at d;generalize hxe:a.eval x=xv at q;cases q with
   |yld L i l hj hlo =>
    obtain⟨r,V,U,h3⟩:=Y.yld i F C (n-1) _ S _ d M J w _ (s.frame (by simpa using hlp)) h.wr h.gl l hj;have g:(execOp a.eval o).run P w=.ok (.round l.cb r.fn ((r.params.zip (c.args.toList.map a.eval).toArray).foldl (fun tmps (t,a)=>tmps.setIfInBounds t a) r.tmps) r.assign r.body) w:=by
     have:execOp a.eval o=Instr.yield l.cb (#[]++c.args.map a.eval):=by simp only[execOp,hop,Go.resolve,hcc,hxe,Deferred.ofValue,invoke,pure_bind]
     rw[this];have e:#[]++c.args.map a.eval=(c.args.toList.map a.eval).toArray:=by apply N0;simp
     rw[e];exact run_yield V (by simpa using U)
    unfold Oper.wpIn;refine⟨fun f _=>C.fn f,?_⟩;rw[Oper.semAt_eq _ _ _ (mM hop),g,Oper.uponIn_round];refine⟨fun hd=>by rw[C.depth]at hd;simp at hd,h3.mono (fun e w' W=>?_)⟩;obtain⟨v',rfl,hn⟩:=W.kont rfl h G;exact hn
  .exact d.elim
 |nextM x tx hx =>
  have q:=R x tx (by simp[aQ]) hx;simp only[bW]at d;split at d
  .rename_i j hj;rw[hj]at q;split at d;.rename_i since seen last hs;exact tL C n (by rw[hop];simp) (aYe (top:=.nextM tx) hop a h q hs rfl) d G
   .rename_i m since seen last hs;split at d
    .rename_i es clock H;split at d;.exact d.elim
     rename_i hg;obtain⟨c,h0,N⟩:=aYd (top:=.nextM tx) hop a h q hs H (by simpa using hg) rfl rfl;have d:=d c h0;rcases N with⟨y,hy,E⟩|⟨hy,E⟩;.simp only at d;rw[hy]at d;exact tL C n (by rw[hop];simp) E d G
     .simp only at d;rw[hy]at d;exact tL C n (by rw[hop];simp) E d G
    .exact d.elim
   .exact d.elim
  .exact d.elim
 |_=>exact z rfl
end
end Go.TM
namespace Go.TM
open Go
section
variable {P:Program}{O:dH}{K:TM.bD}{A:Ann}
variable {M:Mem}{J:aF}{L:List (Option Nat)}{S S':aA}{env env':Env}{w:World}
def eP(env:Env)(j:Nat):TV :=
 match env.getD j .hole with
 |.lb _=>.lp j 0
 |v=>v
structure FR (A:Ann) (nt:Nat) (M:Mem) (J:aF) (L:List (Option Nat)) (env:Env) (a:Act):Prop where
 sz:a.tmps.size=nt
 len:env.length=A.slots.length
 nlp:∀(j:Nat) (x:TV),env[j]?=some x->cA x=true->∃cs,x=.lb cs
 val:∀(j t:Nat),A.slots[j]?=some t->VR M J L (eP env j) (a.tmps.getD t Go.undef)
structure RR (A:Ann) (nt:Nat) (ops:List Oper) (tops:List aK) (D:Nat->Prop) (M:Mem) (J:aF) (L:List (Option Nat)) (env:Env) (rs:List TV) (a:Act):Prop where
 sz:a.tmps.size=nt
 len:env.length=A.slots.length
 nlp:∀(j:Nat) (x:TV),env[j]?=some x->cA x=true->∃cs,x=.lb cs
 rl:rs.length=ops.length
 reg:∀(k:Nat) (o:Oper) (t:Nat),D k->ops[k]?=some o->o.dst=some t->VR M J L (rs.getD k .hole) (a.tmps.getD t Go.undef)
 val:∀(j t:Nat),A.slots[j]?=some t->(∀(k:Nat) (o:Oper),D k->ops[k]?=some o->o.dst≠some t)->VR M J L (eP env j) (a.tmps.getD t Go.undef)
 lbs:∀(k:Nat) (o:Oper) (to:aK) (j t:Nat),D k->ops[k]?=some o->tops[k]?=some to->to.loc=none->o.dst=some t->A.slots[j]?=some t->VR M J L (eP env j) (a.tmps.getD t Go.undef)
theorem aRf{j k:Nat}(b:∀(j:Nat) (x:TV),env[j]?=some x->cA x=true->∃cs,x=.lb cs)(a:k≠j):qA j (eP env k)=false:=by
 unfold eP;cases hx:env[k]? with
 |none=>simp[List.getD,hx,qA]
 |some x =>
  have e:env.getD k .hole=x:=by simp[List.getD,hx]
  rw[e];by_cases hl:cA x=true;.obtain⟨cs,rfl⟩:=b k x hx hl;simp[qA,a]
  .cases x<;>simp[cA]at hl<;>rfl
theorem VR.setL{x:TV}{v:Value}(h:VR M J L x v){j:Nat}(a:qA j x=false)(c:Option Nat):VR M J (L.set j c) x v:=by
 cases h with
 |lp L k off cb hk =>
  have:k≠j:=by simpa[qA] using a
  exact .lp _ k off cb (by rw[B3 A_];exact hk)
 |hole L v=>exact .hole _ v
 |iv L h=>exact .iv _ h
 |ptr L i ver off l b o h hv ha=>exact .ptr _ i ver off l b o h hv ha
 |msl L i ver off len cap es l b o c h hv ha hl hlc=>exact .msl _ i ver off len cap es l b o c h hv ha hl hlc
 |tsl L i es l b o c h hl hv ha hr=>exact .tsl _ i es l b o c h hl hv ha hr
 |rsv L i es n l b o c h hl hv ha hc hr=>exact .rsv _ i es n l b o c h hl hv ha hc hr
 |map L i l h hl=>exact .map _ i l h hl
 |it L i l h hl=>exact .it _ i l h hl
 |yld L i l h hl=>exact .yld _ i l h hl
 |fn L f fst cap fst' cap' h1 h2 hf hc=>exact .fn _ f fst cap fst' cap' h1 h2 hf hc
 |agg L cs vs hs hv=>exact .agg _ cs vs hs hv
 |tup L cs vs hs hv=>exact .tup _ cs vs hs hv
theorem VR.over{own:Tm_}{M':Mem}{J':aF}{L':Tk_}{w':World}{a:Option Nat}{x:TV}{v:Value}(h:VR M J L x v)(b:Tr own M J S w M' J' S' w')(el:EL w a env env' L L')(c:∀j,a=some j->qA j x=false): VR M' J' L' x v:=by
 have h:=h.mono b.mle b.jle;cases a with
 |none=>obtain⟨rfl,_⟩:=el;exact h
 |some j=>obtain⟨cs,cb,_,rfl,_⟩:=el;exact h.setL (c j rfl) _
theorem aEo(h:uX env env')(j:Nat):eP env' j=eP env j:=by
 unfold eP;rcases h.2 j with e|⟨cs,b,a,e2⟩;.simp[List.getD,e]
 .simp[List.getD,a,e2]
theorem aYh{j k:Nat}{x:TV}(h:k≠j):eP (env.set j x) k=eP env k:=by unfold eP;simp[List.getD,B3 (B0 h)]
theorem aRg{a:Option Nat}{L':Tk_}(el:EL w a env env' L L'){k:Nat}(b:a≠some k):eP env' k=eP env k:=by
 cases a with
 |none=>exact aEo el.2 k
 |some j=>obtain⟨cs,cb,rfl,_,_⟩:=el;exact aYh (fun e=>b (by rw[e]))
theorem EL.len{a:Option Nat}{L':Tk_}(el:EL w a env env' L L'):env'.length=env.length:=by
 cases a with
 |none=>exact el.2.1
 |some j=>obtain⟨cs,cb,rfl,_,_⟩:=el;simp
theorem EL.nlp{c:Option Nat}{L':Tk_}(el:EL w c env env' L L')(h:∀(j:Nat) (x:TV),env[j]?=some x->cA x=true->∃cs,x=.lb cs): ∀(j:Nat) (x:TV),env'[j]?=some x->cA x=true->∃cs,x=.lb cs:=by
 intro k x a d;cases c with
 |none =>
  rcases el.2.2 k with e|⟨cs,f,g,e2⟩;.exact h k x (by rw[<-e];exact a) d
  .rw[a]at e2;simp at e2;exact⟨_,e2⟩
 |some j =>
  obtain⟨cs,cb,rfl,_,_⟩:=el;by_cases hkj:k=j
  .subst hkj;have b:k<env.length:=by have:=(E_.1 a).1;simpa using this
   rw[C7 b]at a;simp at a;exact⟨cs,a.symm⟩
  .rw[B3 A_]at a;exact h k x a d
theorem aNc{a:Act}{d:Option Nat}{v:Value}{t:Nat}(h:d≠some t):(a.put d v).tmps.getD t Go.undef=a.tmps.getD t Go.undef:=by
 cases d with
 |none=>rfl
 |some d =>have:d≠t:=fun e=>h (by rw[e]);simp only[Act.put,B2];rw[J6 this]
theorem aNd{a:Act}{v:Value}{t:Nat}(h:t<a.tmps.size):(a.put (some t) v).tmps.getD t Go.undef=v:=by simp only[Act.put,B2];rw[H1 h];rfl
theorem bFm{a:Act}{d:Option Nat}{v:Value}:(a.put d v).tmps.size=a.tmps.size:=by cases d<;>simp[Act.put]
theorem oE{a:Act}{d:Option Nat}{v:Value}:(a.put d v).defers=a.defers:=by cases d<;>rfl
def tN(nt:Nat)(ops:List Oper):Prop :=
 (∀(k k':Nat) (o o':Oper) (t:Nat),ops[k]?=some o->ops[k']?=some o'->o.dst=some t->o'.dst=some t->k=k')/\∀(k:Nat) (o:Oper) (t:Nat),ops[k]?=some o->o.dst=some t->t<nt
theorem RR.step{H:Nat}{ops:List Oper}{tops:List aK}{D:Tm_}{rs q:Tn_}{a:Act}(h:RR A H ops tops D M J L env rs a)(R:tN H ops)(hs:fD A H){i:Nat}{o:Oper}{to:aK}(z:ops[i]?=some o)(Q:tops[i]?=some to)(C:¬D i) {own:Tm_} {M':Mem} {J':aF} {L':Tk_} {w':World} (W:Tr own M J S w M' J' S' w') (el:EL w (aP to.op) env env' L L') {v:TV} {v':Value} (V:VR M' J' L' v v') (s:q.length=rs.length/\q.getD i .hole=v/\∀k,D k->q.getD k .hole=rs.getD k .hole) (u:∀j,aP to.op=some j->rs.any (qA j)=false/\v=.lp j 0/\(∃d,o.dst=some d/\A.slots[j]?=some d)/\(∃cs,env'=env.set j (.lb cs))/\j<env.length) (E:aP to.op=none->to.loc=none->∀(j t:Nat),o.dst=some t->A.slots[j]? ≠ some t): RR A H ops tops (fun k=>D k\/k=i) M' J' L' env' q (a.put o.dst v'):=by
 have r:∀t,o.dst=some t->t<a.tmps.size:=fun t f=>by rw[h.sz];exact R.2 i o t z f
 have c:∀(j t:Nat),A.slots[j]?=some t->o.dst≠some t->VR M J L (eP env j) (a.tmps.getD t Go.undef)->VR M' J' L' (eP env' j) ((a.put o.dst v').tmps.getD t Go.undef):=by
  intro j t p f T;rw[aNc f];have G:aP to.op≠some j:=by intro e;obtain⟨_,_,⟨d,n,m⟩,_,U⟩:=u j e;rw[p]at m;simp at m;exact f (by rw[n,m])
  rw[aRg el G];exact T.over W el (fun I e=>aRf h.nlp (fun ee=>G (by rw[e,ee])))
 refine⟨by rw[bFm];exact h.sz,by rw[el.len];exact h.len,el.nlp h.nlp,by rw[s.1];exact h.rl,?_,?_,?_⟩
 .intro k x t l b f;rcases l with l|rfl
  .have y:k≠i:=fun e=>C (e▸l);rw[s.2.2 k l,aNc (fun e=>y (R.1 k i x o t b z f e))];refine(h.reg k x t l b f).over W el (fun j e=>?_);obtain⟨h1,_⟩:=u j e;by_cases hkl:k<rs.length;.have:=t_.1 h1 rs[k] (B8 hkl);simpa[List.getD,D_ hkl] using this
   .simp[List.getD,B5 (Nat.le_of_not_lt hkl),qA]
  .rw[z]at b;simp at b;subst b;rw[s.2.1,f,aNd (r t f)];exact V
 .intro j t p F;have f:o.dst≠some t:=F i o (.inr rfl) z;exact c j t p f (h.val j t p (fun k x l=>F k x (.inl l)))
 .intro k x N j t l b g Y f p;rcases l with l|rfl;.have y:k≠i:=fun e=>C (e▸l);exact c j t p (fun e=>y (R.1 k i x o t b z f e)) (h.lbs k x N j t l b g Y f p)
  .rw[z]at b;simp at b;subst b;rw[Q]at g;simp at g;subst g;cases htg:aP to.op with
   |none=>exact absurd p (E htg Y j t f)
   |some I =>
    obtain⟨_,Z,⟨d,n,m⟩,⟨cs,h4⟩,U⟩:=u I htg;have P:j=I:=by
     have e1:A.slots[I]?=some t:=by rw[f]at n;simp at n;rw[n];exact m
     exact(P6 (by exact(E_.1 p).1) hs.1).1 (by rw[p,e1])
    subst P;have:eP env' j=.lp j 0:=by rw[h4];unfold eP;simp[List.getD,C7 U]
    rw[this,f,aNd (r t f),<-Z];exact V
theorem aA9{t:Nat}:∀ {l:Tc_} {i j:Nat},eE t l i=some j->i<=j/\l[j-i]?=some t
 |[],i,j,h=>by simp[eE]at h
 |d::r,i,j,h=>by
  simp only[eE]at h;split at h;.rename_i e;simp at h;subst h;simp[e]
  .obtain⟨b,a⟩:=aA9 h;refine⟨by omega,?_⟩;rw[show j-i=(j-(i+1))+1 by omega,List.getElem?_cons_succ];exact a
theorem lK{t j:Nat}(h:eE t A.slots 0=some j):A.slots[j]?=some t:=(aA9 h).2
theorem aHs{t:Nat}:∀ {l:Tc_} {i j:Nat},l.Nodup->l[j]?=some t->eE t l i=some (i+j)
 |[],i,j,_,h=>by simp at h
 |d::r,i,j,hn,h=>by
  simp only[eE];cases j with
  |zero=>simp at h;simp[h]
  |succ j =>
   simp at h;have a:d≠t:=by rintro rfl;exact(C8.1 hn).1 (B4 h)
   rw[I_ a,aHs (C8.1 hn).2 h];congr 1;omega
theorem aCk{t j a:Nat}(b:fD A a)(h:A.slots[j]?=some t):eE t A.slots 0=some j:=by have:=aHs (i:=0) b.1 h;simpa using this
theorem wR{t:Nat}:∀ {l:Tk_} {i j:Nat},aAw t l i=some j->i<=j/\l[j-i]?=some (some t)
 |[],i,j,h=>by simp[aAw]at h
 |d::r,i,j,h=>by
  simp only[aAw]at h;split at h;.rename_i e;simp at h;subst h;simp[e]
  .obtain⟨b,a⟩:=wR h;refine⟨by omega,?_⟩;rw[show j-i=(j-(i+1))+1 by omega,List.getElem?_cons_succ];exact a
theorem aEp{t:Nat}:∀ {l:Tk_} {i:Nat},aAw t l i=none->∀(k:Nat),l[k]? ≠ some (some t)
 |[],i,_,k=>B_
 |d::r,i,h,k=>by
  simp only[aAw]at h;split at h;.simp at h
  .rename_i e;cases k with
   |zero=>simpa using e
   |succ k=>simpa using aEp h k
structure aEq (P:Program) (O:dH) (A:Ann) (dsts:List (Option Nat)) (o:Oper) (to:aK):Prop where
 guard:to.guard=o.guard
 op:to.op=.bad\/bY P O A dsts (o.dst.bind fun t=>eE t A.slots 0) o.op to.op
 loc:aP to.op=none->to.loc=o.dst.bind fun t=>eE t A.slots 0
 tgt:∀j,aP to.op=some j->to.loc=none/\(o.dst.bind fun t=>eE t A.slots 0)=some j/\o.guard=none
theorem bU5{mu a:Bool}{dsts:Tk_}{o:Oper}{top:TOp}(h:wL P O A mu a false dsts o=some top):aP top=none:=by
 have d:=aM8 h;generalize hop:o.op=op at d;cases d with
 |allocL t z j hz hj=>simp[wL,hop,hz]at h
 |boxL t x tx j hx hj=>simp[wL,hop,hx]at h
 |builtin mu c b top hcc hb =>
  unfold fV at hb;repeat' split at hb
  all_goals first
   |(simp at hb;done)
   |(simp at hb;subst hb;rfl)
   |(simp only[G_]at hb;obtain⟨q,_,rfl⟩:=hb;rfl)
 |_=>rfl
theorem aNe{dsts:Tk_}{a:Option Nat}{op:Op}{top:TOp}(h:bY P O A dsts a op top){j:Nat}(d:aP top=some j):a=some j:=by
 cases h with
 |allocL t z j' hz hj'=>simp[aP]at d;subst d;exact hj'
 |boxL t x tx j' hx hj'=>simp[aP]at d;subst d;exact hj'
 |builtin mu c b top hcc hb =>
  unfold fV at hb;repeat' split at hb
  all_goals first
   |(simp at hb;done)
   |(simp at hb;subst hb;simp[aP]at d;done)
   |(simp only[G_]at hb;obtain⟨q,_,rfl⟩:=hb;simp[aP]at d;done)
 |_=>simp[aP]at d
theorem mN{id:Nat}{draw:Bool}:∀ {os:List Oper} {i:Nat} {dsts:Tk_} {k:Nat} {o:Oper},os[k]?=some o->∃to,(dF P O A id draw os i dsts)[k]?=some to/\aEq P O A (dsts++(os.take k).map (·.dst)) o to
 |[],i,dsts,k,o,h=>by simp at h
 |o0::os,i,dsts,k,o,h=>by
  cases k with
  |zero =>
   simp at h;subst h;simp only[dF,List.getElem?_cons_zero,List.take_zero,C3,A4];refine⟨_,rfl,?_⟩;generalize hlb:(!draw&&o0.guard.isNone&&(match o0.dst with
    |some t=>A.lb.contains t
    |none=>false))=isLb
   cases hcp:wL P O A (A.mu.contains (id,i)) (A.trunc.contains (id,i)) isLb dsts o0 with
   |none =>refine⟨rfl,.inl B_,fun _=>?_,fun j a=>by simp[aP]at a⟩;simp
   |some top =>
    simp only[Option.getD_some];have b:=aM8 hcp;refine⟨rfl,.inr b,fun d=>?_,fun j a=>?_⟩
    .cases isLb with
     |false=>simp
     |true =>simp only[N8];cases top<;>first|rfl|simp[aP]at d
    .cases isLb with
     |false=>rw[bU5 hcp]at a;simp at a
     |true =>
      refine⟨?_,aNe b a,?_⟩;.simp only[N8];cases top<;>first|rfl|simp[aP]at a
      .have:o0.guard.isNone=true:=by revert hlb;cases o0.guard<;>simp
       simpa using this
  |succ k =>simp at h;obtain⟨to,c,e⟩:=mN (id:=id) (draw:=draw) (i:=i+1) (dsts:=dsts++[o0.dst]) h;refine⟨to,by simpa[dF] using c,?_⟩;simpa using e
theorem eQ{id:Nat}{draw:Bool}:∀ {os:List Oper} {i:Nat} {dsts:Tk_},(dF P O A id draw os i dsts).length=os.length
 |[],i,dsts=>rfl
 |o::os,i,dsts=>by simp[dF,eQ]
def bFn(A:Ann)(ops:List Oper)(D:Nat->Prop):aH->Prop
 |.reg r=>D r
 |.loc j=>∀(k:Nat) (o:Oper),D k->ops[k]?=some o->∀t,o.dst=some t->A.slots[j]? ≠ some t
 |_=>True
theorem aRh(h:MS P O K M J L S env w){y:Nat}{ops:List Oper}{tops:List aK}{D:Tm_}{rs:Tn_}{a:Act}(m:RR A y ops tops D M J L env rs a){i:Nat}{x:Operand}{tx:aH} (b:opd A ((ops.take i).map (·.dst)) x=some tx) (n:bFn A ops D tx):VR M J L (aX K env rs tx) (a.eval x):=by
 cases x with
 |tmp t =>
  simp only[opd]at b;split at b
  .rename_i r hi;simp at b;subst b;have p:=(wR hi).2;simp only[Nat.sub_zero,p_,G_]at p;obtain⟨o,l,h3⟩:=p;rw[D9]at l;split at l;.exact m.reg r o t n l h3
   .simp at l
  .rename_i hi;simp only[G_]at b;obtain⟨j,q,rfl⟩:=b;have d:=lK q;exact m.val j t d (fun k o z u e=>n k o z u t e d)
 |const v =>simp only[opd,G_]at b;obtain⟨c,s,rfl⟩:=b;exact .iv _ (aVq s)
 |global g =>
  simp only[opd,R_]at b;subst b;simp only[aX];split;.rename_i cs hcs;exact .iv _ (h.gl g cs hcs)
  .exact .hole _ _
 |func f =>simp only[opd,R_]at b;subst b;exact .fn _ f [] [] #[] #[] rfl rfl (fun i x v b=>by simp at b) (fun i x v b=>by simp at b)
theorem kV{l:Nat}{ops:List Oper}{tops:List aK}{D:Tm_}{rs:Tn_}{a:Act}(k:RR A l ops tops D M J L env rs a)(m:tN l ops){o:Oper}{b:Bool}(e:dV o.guard rs=some b) (i:∀g c,o.guard=some (g,c)->D g/\∃f t,ops[g]?=some f/\f.dst=some t):Region.wanted o (yielded ops.toArray a.tmps)=b:=by
 unfold dV at e;unfold Region.wanted;split at e;.rename_i hn;simp at e;rw[hn];simpa using e
 .rename_i g c hgs;obtain⟨p,f,t,j,h3⟩:=i g c hgs;rw[hgs];simp only;have d:=k.reg g f t p j h3;have h:t<a.tmps.size:=by rw[k.sz];exact m.2 g f t j h3
  have n:yielded ops.toArray a.tmps g=(match a.tmps.getD t Go.undef with | .bool b=>some b|_=>none):=by unfold yielded;simp only[K8,j,Option.bind_some,h3];rw[A8 h];simp only[B2,A8 h,Option.getD_some];cases a.tmps[t]<;>rfl
  rw[n];generalize a.tmps.getD t Go.undef=tv at d;split at e;.rename_i bb hb;rw[hb]at d;rw[d.bool_inv];simp at e;rw[<-e];simp
  .rename_i hb;rw[hb]at d;simp at e;subst e;cases d with
   |tup L cs vs hs hv=>rfl
  .simp at e
structure oF (P:Program) (O:dH) (K:TM.bD) (orc:Orc):Prop where
 ok:bFj P O K orc
 body : ∀ k, (∃ fn, K.funcs k = some fn) → ∃ fn, P.funcs[k]? = some fn ∧ fn.body.isSome = true ∧ fn.name ≠ "runtime.NumGoroutine"
 known:∀k args S Q,(orc.call k args S).All Q->∃fn,K.funcs k=some fn
 mixed:P.follows .mixedOrders=true
theorem aB3{b:Orc}{rs:Tn_}{top:TOp}{j:Nat}(a:aP top=some j){Q:TV×Env×aA->Prop}(h:(bW K b top env rs S).All Q): rs.any (qA j)=false/\j<env.length/\(bW K b top env rs S).All (fun r=>Q r/\r.1=.lp j 0/\∃cs,r.2.1=env.set j (.lb cs)):=by
 cases top with
 |allocL j' z =>
  simp only[aP,R_]at a;subst a;simp only[bW,jI,iU,aV,aO,bO,gO]at h |-;split at h;.exact h.elim
  .rename_i hc;simp only[D3,H2]at hc;rw[I_ (by simp only[D3,H2];exact hc)];exact⟨by simpa using hc.1,by simpa using hc.2,h,rfl,_,rfl⟩
 |boxL j' x =>
  simp only[aP,R_]at a;subst a;simp only[bW,jI,iU,aV,aO,bO,gO]at h |-;split at h;.exact h.elim
  .rename_i hc;simp only[D3,H2]at hc;rw[I_ (by simp only[D3,H2];exact hc)];exact⟨by simpa using hc.1.2,by simpa using hc.2,h,rfl,_,rfl⟩
 |_=>simp[aP]at a
def OG(L L':List (Option Nat))(w w':World):Prop:=∀b,cS L' b->cS L b\/(w.heap.size<=b/\b<w'.heap.size)
theorem OG.refl(L:Tk_)(w w':World):OG L L w w':=fun _ h=>.inl h
theorem OG.trans{L1 L2 L3:Tk_}{e c d:World}(h:OG L1 L2 e c)(k:OG L2 L3 c d)(g:e.heap.size<=c.heap.size)(i:c.heap.size<=d.heap.size):OG L1 L3 e d:=by
 intro b a;rcases k b a with a|⟨j,f⟩
 .rcases h b a with a|⟨h3,l⟩;.exact .inl a
  .exact .inr ⟨h3,by omega⟩
 .exact .inr ⟨by omega,f⟩
theorem OG.weak{L1 L2:Tk_}{a d:World}(h:OG L1 L2 a d)(b:Nat)(c:cS L2 b):cS L1 b\/a.heap.size<=b:=(h b c).imp id And.left
theorem EL.own{f:Option Nat}{L':Tk_}{M':Mem}{J':aF}{w':World}(el:EL w f env env' L L')(h:MS P O K M J L S env w)(i:MS P O K M' J' L' S' env' w'):OG L L' w w':=by
 intro b e;cases f with
 |none=>obtain⟨rfl,_⟩:=el;exact .inl e
 |some j =>
  obtain⟨cs,cb,rfl,rfl,d⟩:=el;obtain⟨k,a⟩:=e;by_cases hj:j<env.length
  .rw[V5]at a;split at a
   .rename_i hjk;split at a;.simp at a;subst a;obtain⟨l,c,g⟩:=i.lb.box j cs (C7 hj);rw[C7 (by rw[h.lb.len];exact hj)]at c;simp at c;subst c;exact .inr ⟨d,g.lt⟩
    .simp at a
   .exact .inl ⟨k,a⟩
  .rw[List.set_eq_of_length_le (by rw[h.lb.len];omega)]at a;exact .inl ⟨k,a⟩
theorem aEr{dsts:Tk_}{c:Nat}(f:fD A c){o:Oper}{to:aK}(a:aEq P O A dsts o to)(e:aP to.op=none)(g:to.loc=none)(j t:Nat)(d:o.dst=some t):A.slots[j]? ≠ some t:=by intro b;have:=a.loc e;rw[g,d]at this;simp only[Option.bind_some]at this;rw[aCk f b]at this;simp at this
theorem jB{rs:Tn_}{i:Nat}(b:i<rs.length)(v:TV):(rs.set i v).length=rs.length/\(rs.set i v).getD i .hole=v/\∀k,k≠i->(rs.set i v).getD k .hole=rs.getD k .hole :=
 ⟨by simp,by simp[List.getD,C7 b],fun k a=>by simp[List.getD,B3 (B0 a)]⟩
def bU6(P:Program)(O:dH)(K:TM.bD)(A:Ann)(nt:Nat)(ops:List Oper)(tops:List aK)(D:Nat->Prop)(M:Mem)(J:aF)(L:List (Option Nat))(S:aA)(env:Env)(w:World)(a:Act)(rs:List TV)(i:Nat)(to:aK)
  (Q:List TV×Env×aA->Prop) (next:Act->World->Prop):Prop :=
 ∀(v:TV) (env':Env) (S':aA) (M':Mem) (J':aF) (L':List (Option Nat)) (w':World) (a':Act),Q (rs.set i v,env',S')->RR A nt ops tops (fun k=>D k\/k=i) M' J' L' env' (rs.set i v) a'->a'.defers=a.defers ->
  MS P O K M' J' L' S' env' w'->Tr (cS L) M J S w M' J' S' w'->OG L L' w w'->EL w (aP to.op) env env' L L'->next a' w'
theorem aHt{Z:Orc}(E:oF P O K Z){F:Fence}(hF:cZ F)(n:Nat){nt:Nat}{ops:List Oper}{tops:List aK}(W:tN nt ops)(G:fD A nt){D:Tm_}{i:Nat}{o:Oper}{to:aK}(hi:ops[i]?=some o) (q:tops[i]?=some to) (c:aEq P O A ((ops.take i).map (·.dst)) o to) {rs:Tn_} {a:Act} (s:RR A nt ops tops D M J L env rs a) (C:MS P O K M J L S env w) (N:∀(x:Operand) (tx:aH),tx∈aQ to.op->opd A ((ops.take i).map (·.dst)) x=some tx->bFn A ops D tx) (R:∀g h0,o.guard=some (g,h0)->D g/\∃og t,ops[g]?=some og/\og.dst=some t) (b:¬D i) {Q:List TV×Env×aA->Prop} (m:(jZ K Z to i rs env S).All Q) {next:Act->World->Prop} (hk:bU6 P O K A nt ops tops D M J L S env w a rs i to Q next) {X:Exit->Act->World->Prop}:wpOpIn F n P ops.toArray X i next a w:=by
 have p:i<rs.length:=by rw[s.rl];exact(E_.1 hi).1
 unfold wpOpIn;simp only[K8,hi];unfold jZ at m;rw[c.guard]at m;split at m;.exact m.elim
 .rename_i hg;have hw:=kV s W hg R;rw[hw];simp only[b_,J3];refine⟨fun f _=>hF.fn f,?_⟩;have r:aP to.op=none:=by
   cases ht:aP to.op with
   |none=>rfl
   |some j =>have:=(c.tgt j ht).2.2;rw[this]at hg;simp[dV]at hg
  have el:EL w (aP to.op) env env L L:=by rw[r];exact⟨rfl,.refl _⟩
  obtain⟨s1,s2,Y⟩:=jB p undef;refine hk undef env S M J L w _ m (s.step W G hi q b (.refl (cS L) M J S w) el nR ⟨s1,s2,fun k l=>Y k (fun e=>b (e▸l))⟩ (fun j V=>by rw[r]at V;simp at V) (fun _ hl j t u=>aEr G c r hl j t u))
   oE C (.refl _ _ _ _ _) (.refl _ _ _) el
 .rename_i hg;have hw:=kV s W hg R;rw[hw];simp only[N8];rw[Out.all_bind]at m;rcases c.op with I|U;.rw[I]at m;exact m.elim
  .have hv:aKj A ((ops.take i).map (·.dst)) M J L (aX K env rs) a to.op:=fun x tx hm hx=>aRh C s hx (N x tx hm hx);cases ht:aP to.op with
   |none =>
    refine aA8 E.ok E.body E.known hF n U C hv m (fun v env' S' M' J' L' w' v' hQ y h T el=>?_);obtain⟨s1,s2,Y⟩:=jB p v;exact hk v env' S' M' J' L' w' _ hQ (s.step W G hi q b T el y ⟨s1,s2,fun k l=>Y k (fun e=>b (e▸l))⟩ (fun j V=>by rw[ht]at V;simp at V) (fun _ hl j t u=>aEr G c ht hl j t u))
     oE h T (el.own C h) el
   |some j =>obtain⟨h1,h2,h3⟩:=aB3 ht m;refine aA8 E.ok E.body E.known hF n U C hv h3 (fun v env' S' M' J' L' w' v' hQ y h T el=>?_);obtain⟨hQ,h5,h7⟩:=hQ;obtain⟨s1,s2,Y⟩:=jB p v;refine hk v env' S' M' J' L' w' _ hQ (s.step W G hi q b T el y ⟨s1,s2,fun k l=>Y k (fun e=>b (e▸l))⟩ (fun j' z=>?_) (fun hn=>by rw[ht]at hn;simp at hn)) oE h T (el.own C h) el;rw[ht]at z;simp at z;subst z;have H:=(c.tgt j ht).2.1;simp only[N4]at H;obtain⟨d,h6,h4⟩:=H;exact⟨h1,h5,⟨d,h6,lK h4⟩,h7,h2⟩
theorem RR.congr{e:Nat}{ops:List Oper}{tops:List aK}{D D':Tm_}{rs:Tn_}{a:Act}(h:RR A e ops tops D M J L env rs a)(d:∀k,D k↔D' k):RR A e ops tops D' M J L env rs a :=
 ⟨h.sz,h.len,h.nlp,h.rl,fun k o t b=>h.reg k o t ((d k).2 b),fun j t f c=>h.val j t f (fun k o b=>c k o ((d k).1 b)),fun k o to j t b=>h.lbs k o to j t ((d k).2 b)⟩
theorem FR.rr{c:Nat}{a:Act}(h:FR A c M J L env a)(ops:List Oper)(tops:List aK):RR A c ops tops (fun _=>False) M J L env (vM ops.length) a :=
 ⟨h.sz,h.len,h.nlp,by simp[vM],fun _ _ _ b=>b.elim,fun j t d _=>h.val j t d,fun _ _ _ _ _ b=>b.elim⟩
theorem aHu{p:Nat}{ops:List Oper}(h:zQ p ops=true):tN p ops:=by
 unfold zQ at h;simp only[P_,C6]at h;have nd:∀ {l:Tc_},sX l=true->l.Nodup:=by
  intro l;induction l with
  |nil=>intro _;exact .nil
  |cons a r ih =>intro n;simp only[sX,P_,D7]at n;exact C8.2 ⟨by simpa using n.1,ih n.2⟩
 refine⟨?_,fun k o t c f=>?_⟩
 .have i:=nd h.1;clear h;induction ops with
  |nil=>intro k k' o o' t c;simp at c
  |cons o0 r ih =>
   intro k k' o o' t c b f e;have q:(r.filterMap (·.dst)).Nodup:=by
    cases hd:o0.dst with
    |none=>simpa[List.filterMap_cons,hd] using i
    |some d=>exact(C8.1 (by simpa[List.filterMap_cons,hd] using i)).2
   have key:∀ {m:Nat} {g:Oper},o0.dst=some t->r[m]?=some g->g.dst=some t->False:=by
    intro m g v u j;have s:(t::r.filterMap (·.dst)).Nodup:=by simpa[List.filterMap_cons,v] using i
    exact(C8.1 s).1 (U1.2 ⟨g,B4 u,j⟩)
   cases k with
   |zero =>
    cases k' with
    |zero=>rfl
    |succ k'=>simp at c b;subst c;exact(key f b e).elim
   |succ k =>
    cases k' with
    |zero=>simp at c b;subst b;exact(key e c f).elim
    |succ k'=>simp at c b;rw[ih q k k' o o' t c b f e]
 .have:=h.2 t (U1.2 ⟨o,B4 c,f⟩);simpa using this
theorem aHv{c:List Oper}:∀ {os:List Oper} {i:Nat},aHg c i os=true->∀ {k:Nat} {o:Oper},os[k]?=some o->∀g a,o.guard=some (g,a)->g<i+k/\∃e t,c[g]?=some e/\e.dst=some t
 |[],i,_,k,o,hk=>by simp at hk
 |o0::os,i,h,k,o,hk=>by
  simp only[aHg,P_]at h;intro g a f;cases k with
  |zero =>
   simp at hk;subst hk;have d:=h.1;rw[f]at d;simp only[P_,q_]at d;refine⟨by omega,?_⟩;have b:=d.2;split at b;.rename_i e hog;obtain⟨t,j⟩:=O9.1 b;exact⟨e,t,hog,j⟩
   .simp at b
  |succ k =>simp at hk;obtain⟨d,b⟩:=aHv h.2 hk g a f;exact⟨by omega,b⟩
def aV0(P:Program)(O:dH)(K:TM.bD)(A:Ann)(nt:Nat)(ops:List Oper)(tops:List aK)(M:Mem)(J:aF)(L:List (Option Nat))(S:aA)(w:World)(a:Act)(Q:List TV×Env×aA->Prop)(next:Act->World->Prop):Prop :=
 ∀(rs':List TV) (env':Env) (S':aA) (M':Mem) (J':aF) (L':List (Option Nat)) (w':World) (a':Act),Q (rs',env',S')->RR A nt ops tops (·<ops.length) M' J' L' env' rs' a'->a'.defers=a.defers ->
  MS P O K M' J' L' S' env' w'->Tr (cS L) M J S w M' J' S' w'->OG L L' w w'->next a' w'
theorem bSp{E:Orc}(ha:oF P O K E){F:Fence}(hF:cZ F)(n:Nat){H id:Nat}{ops:List Oper}(hd:tN H ops)(hs:fD A H)(h0:aHg ops 0 ops=true){X:Exit->Act->World->Prop}{Q:List TV×Env×aA->Prop}: ∀(m i:Nat) (rs:Tn_) (env:Env) (S:aA) (M:Mem) (J:aF) (L:Tk_) (w:World) (a:Act),i+m=ops.length->RR A H ops (dF P O A id false ops 0 []) (·<i) M J L env rs a->MS P O K M J L S env w ->(kO K E ((dF P O A id false ops 0 []).drop i) i rs env S).All Q->aV0 P O K A H ops (dF P O A id false ops 0 []) M J L S w a Q (X .normal)->wpOpsIn F n P ops.toArray X (List.range' i m) a w:=by
 intro m;induction m with
 |zero =>intro i rs env S M J L w a T hr ms s y;have b:(dF P O A id false ops 0 []).drop i=[]:=G5 (by rw[eQ];omega);rw[b]at s;simp only[List.range'_zero,wpOpsIn];exact y rs env S M J L w a s (hr.congr (fun k=>by constructor<;>intro h<;>omega)) rfl ms (.refl _ _ _ _ _) (.refl _ _ _)
 |succ m ih =>
  intro i rs env S M J L w a T hr ms s y;have u:i<ops.length:=A_;have Z:ops[i]?=some ops[i]:=D_ u;obtain⟨to,e,Y⟩:=mN (P:=P) (O:=O) (A:=A) (id:=id) (draw:=false) (i:=0) (dsts:=[]) Z;have b:(dF P O A id false ops 0 []).drop i=to::(dF P O A id false ops 0 []).drop (i+1):=by
   have D:i<(dF P O A id false ops 0 []).length:=by rw[eQ];exact u
   rw[A6 D];rw[D_ D]at e;simp at e;rw[e]
  rw[b]at s;simp only[kO]at s;rw[Out.all_bind]at s;rw[W9,wpOpsIn_cons];refine aHt ha hF n hd hs Z e (by simpa using Y) hr ms (fun x tx _ d=>?_) (fun g G hg=>?_) A_ s ?_
  .cases x with
   |tmp t =>
    simp only[opd]at d;split at d;.rename_i r hidx;simp at d;subst d;have h1:=(E_.1 (wR hidx).2).1;simp at h1;show r<i;omega
    .rename_i hidx;simp only[G_]at d;obtain⟨j,hj,rfl⟩:=d;intro k o y ho t' U q;rw[lK hj]at q;simp at q;subst q;refine aEp hidx k ?_;simp only[p_,D9,K_ y,ho,Option.map_some,U]
   |const v =>simp only[opd,G_]at d;obtain⟨c,_,rfl⟩:=d;trivial
   |global g=>simp[opd]at d;subst d;trivial
   |func f=>simp[opd]at d;subst d;trivial
  .obtain⟨h1,h2⟩:=aHv h0 Z g G hg;exact⟨by omega,h2⟩
  .intro v env' S' M' J' L' w' a' hQ N W V tr l _;refine ih (i+1) _ env' S' M' J' L' w' a' A_ (N.congr (fun k=>by constructor<;>intro h<;>omega)) V hQ ?_;intro h5 env2 S2 M2 J2 L2 w2 a2 R h4 C I z p;refine y h5 env2 S2 M2 J2 L2 w2 a2 R h4 (C.trans W) I (tr.trans z l.weak) (l.trans p tr.size z.size)
theorem iZ:∀ {os:List aK} {i:Nat} {rs:Tn_} {env env2:Env},fJ os i rs env=some env2 ->env2.length=env.length/\(∀(j:Nat),(∀(k:Nat) (o:aK),os[k]?=some o->o.loc≠some j)->env2[j]?=env[j]?) /\(∀(k:Nat) (o:aK) (j:Nat),os[k]?=some o->o.loc=some j->cA (rs.getD (i+k) .hole)=false /\((∀(k':Nat) (o':aK),os[k']?=some o'->o'.loc=some j->k'=k)->j<env.length->env2[j]?=some (rs.getD (i+k) .hole)))
 |[],i,rs,env,env2,h=>by simp[fJ]at h;subst h;exact⟨rfl,fun _ _=>rfl,fun k o j a=>by simp at a⟩
 |o0::os,i,rs,env,env2,h=>by
  simp only[fJ]at h;split at h
  .rename_i hl0;obtain⟨n,m,h3⟩:=iZ h;refine⟨n,fun j l=>m j (fun k o a=>l (k+1) o (by simpa using a)),fun k o j a b=>?_⟩;cases k with
   |zero=>simp at a;subst a;rw[hl0]at b;simp at b
   |succ k =>have:=h3 k o j (by simpa using a) b;rw[show i+1+k=i+(k+1) by omega]at this;exact⟨this.1,fun g=>this.2 (fun k' o' f d=>by have:=g (k'+1) o' (by simpa using f) d;omega)⟩
  .rename_i j0 hl0;split at h;.simp at h
   .rename_i hlp;obtain⟨n,m,h3⟩:=iZ h;refine⟨by rw[n];simp,fun j l=>?_,fun k o j a b=>?_⟩;.rw[m j (fun k o a=>l (k+1) o (by simpa using a))];have:j0≠j:=fun e=>l 0 o0 rfl (by rw[hl0,e]);rw[B3 this]
    .cases k with
     |zero =>simp at a;subst a;rw[hl0]at b;simp at b;subst b;refine⟨by simpa using hlp,fun g c=>?_⟩;rw[m j0 (fun k o a b=>by have:=g (k+1) o (by simpa using a) b;omega)];rw[C7 c];simp
     |succ k =>have:=h3 k o j (by simpa using a) b;rw[show i+1+k=i+(k+1) by omega]at this;exact⟨this.1,fun g c=>this.2 (fun k' o' f d=>by have:=g (k'+1) o' (by simpa using f) d;omega) (by simpa using c)⟩
theorem RR.back{E:Nat}{ops:List Oper}{tops:List aK}{rs:Tn_}{a:Act}(h:RR A E ops tops (·<ops.length) M J L env rs a)(Y:tN E ops)(hs:fD A E)(D:tops.length=ops.length) (H:∀(k:Nat) (o:Oper) (to:aK),ops[k]?=some o->tops[k]?=some to->∃dsts,aEq P O A dsts o to) {env2:Env} (hb:fJ tops 0 rs env=some env2): FR A E M J L env2 a/\(∀(j:Nat) (cs:Tn_),env2[j]?=some (.lb cs)->env[j]?=some (.lb cs)):=by
 obtain⟨I,h2,h3⟩:=iZ hb;have c:∀(k:Nat) (o:Oper) (to:aK) (j:Nat),ops[k]?=some o->tops[k]?=some to->to.loc=some j->∃t,o.dst=some t/\A.slots[j]?=some t:=by
  intro k o to j hk b d;obtain⟨dsts,V⟩:=H k o to hk b;have y:aP to.op=none:=by
   cases y:aP to.op with
   |none=>rfl
   |some j'=>rw[(V.tgt j' y).1]at d;simp at d
  have:=V.loc y;rw[d]at this;obtain⟨t,F,T⟩:=N4.1 this.symm;exact⟨t,F,lK T⟩
 have m:∀(k:Nat) (to:aK),tops[k]?=some to->∃o,ops[k]?=some o:=by
  intro k to b;have f:k<ops.length:=by rw[<-D];exact(E_.1 b).1
  exact⟨_,D_ f⟩
 have z:∀(k k':Nat) (to n:aK) (j:Nat),tops[k]?=some to->tops[k']?=some n->to.loc=some j->n.loc=some j->k'=k:=by intro k k' to n j b r d u;obtain⟨o,i⟩:=m k to b;obtain⟨o',C⟩:=m k' n r;obtain⟨t,w,e2⟩:=c k o to j i b d;obtain⟨W,e3,N⟩:=c k' o' n j C r u;rw[e2]at N;simp at N;subst N;exact Y.1 k' k o' o t C i e3 w
 have g:∀j,(∃k o to,tops[k]?=some to/\ops[k]?=some o/\to.loc=some j/\(j<env.length->env2[j]?=some (rs.getD k .hole))/\cA (rs.getD k .hole)=false)\/((∀(k:Nat) (to:aK),tops[k]?=some to->to.loc≠some j)/\env2[j]?=env[j]?):=by
  intro j;by_cases hex:∃(k:Nat) (to:aK),tops[k]?=some to/\to.loc=some j;.obtain⟨k,to,b,d⟩:=hex;obtain⟨o,i⟩:=m k to b;have:=h3 k to j b d;rw[A7]at this;exact .inl ⟨k,o,to,b,i,d,this.2 (fun k' o' Q u=>z k k' to o' j b Q d u),this.1⟩
  .have q:∀(k:Nat) (to:aK),tops[k]?=some to->to.loc≠some j:=fun k to b d=>hex ⟨k,to,b,d⟩;exact .inr ⟨q,h2 j q⟩
 refine⟨⟨h.sz,I.trans h.len,fun j x s d=>?_,fun j t l=>?_⟩,fun j cs l=>?_⟩
 .rcases g j with⟨k,o,to,_,_,_,p,v⟩|⟨_,p⟩
  .have f:j<env.length:=by rw[<-I];exact(E_.1 s).1
   rw[p f]at s;have s:=D6 s;rw[<-s,v]at d;simp at d
  .exact h.nlp j x (by rw[<-p];exact s) d
 .have f:j<env.length:=by rw[h.len];exact(E_.1 l).1
  rcases g j with⟨k,o,to,b,i,d,p,v⟩|⟨q,p⟩
  .obtain⟨W,w,e2⟩:=c k o to j i b d;rw[l]at e2;simp at e2;subst e2;have R:=h.reg k o t (by show k<ops.length;exact(E_.1 i).1) i w;have:eP env2 j=rs.getD k .hole:=by
    have Z:env2.getD j .hole=rs.getD k .hole:=by simp[List.getD,p f]
    unfold eP;rw[Z];cases s:rs.getD k .hole<;>first|rfl|(rw[s]at v;simp[cA]at v)
   rw[this];exact R
  .have:eP env2 j=eP env j:=by unfold eP;simp[List.getD,p]
   rw[this];by_cases hw:∃(k:Nat) (o:Oper),ops[k]?=some o/\o.dst=some t
   .obtain⟨k,o,i,y⟩:=hw;have G:k<tops.length:=by rw[D];exact(E_.1 i).1
    have b:tops[k]?=some tops[k]:=D_ G;have U:tops[k].loc=none:=by
     cases d:tops[k].loc with
     |none=>rfl
     |some j' =>obtain⟨W,w,e2⟩:=c k o _ j' i b d;rw[y]at w;simp at w;subst w;have:j'=j:=(P6 (by exact(E_.1 e2).1) hs.1).1 (by rw[e2,l]);subst this;exact absurd d (q k _ b)
    exact h.lbs k o _ j t (by show k<ops.length;exact(E_.1 i).1) i b U y l
   .exact h.val j t l (fun k o _ i e=>hw ⟨k,o,i,e⟩)
 .rcases g j with⟨k,o,to,_,_,_,p,v⟩|⟨_,p⟩
  .have f:j<env.length:=by rw[<-I];exact(E_.1 l).1
   rw[p f]at l;have l:=D6 l;rw[l]at v;simp[cA]at v
  .rw[<-p];exact l
def JR:aW->Exit->Prop
 |.normal,.normal=>True
 |.exit id,.exit id'=>id=id'
 |.ret,.ret=>True
 |_,_=>False
def aNf(base:Nat)(J:aF)(L:List (Option Nat))(w:World)(ds:List Deferred):Prop :=
 ∃bs:List Nat,ds=bs.map (fun b=>({target:=.collected b,args:=#[]}:Deferred))/\bs.Nodup/\∀b∈bs,base<=b/\w.heap[b]?=some (.deferred (some []))/\¬J.has b/\¬cS L b
theorem aNf.step{base:Nat}{ds:List Deferred}{M':Mem}{J':aF}{L':Tk_}{w':World}(h:aNf base J L w ds)(e:Tr (cS L) M J S w M' J' S' w')(g:OG L L' w w'):aNf base J' L' w' ds:=by
 obtain⟨f,l,i,h3⟩:=h;refine⟨f,l,i,fun b k=>?_⟩;obtain⟨m,e2,e3,c⟩:=h3 b k;have a:=fZ e2;refine⟨m,(e.frame b a e3 c).trans e2,e.has a e3,fun j=>?_⟩;rcases g b j with d|⟨d,_⟩;.exact c d
 .omega
variable (P O K A) in
structure CS (base nt:Nat) (M:Mem) (J:aF) (L:List (Option Nat)) (S:aA) (env:Env) (w:World) (a:Act):Prop where
 fr:FR A nt M J L env a
 ms:MS P O K M J L S env w
 mks:aNf base J L w a.defers
 lt:∀b,cS L b->b<w.heap.size
 ba:base<=w.heap.size
variable (P O K A) in
def tP(base nt:Nat)(M:Mem)(J:aF)(L:List (Option Nat))(S:aA)(w:World)(Q:aW×Env×aA->Prop)(X:Exit->Act->World->Prop):Prop :=
 ∀(j:aW) (env':Env) (S':aA) (M':Mem) (J':aF) (L':List (Option Nat)) (w':World) (a':Act) (e:Exit),Q (j,env',S')->JR j e->CS P O K A base nt M' J' L' S' env' w' a'->Tr (cS L) M J S w M' J' S' w'->OG L L' w w'->X e a' w'
theorem tP.next{base d:Nat}{Q:aW×Env×aA->Prop}{X:Exit->Act->World->Prop}(h:tP P O K A base d M J L S w Q X){M':Mem}{J':aF}{L':Tk_}{w':World}(f:Tr (cS L) M J S w M' J' S' w')(c:OG L L' w w'): tP P O K A base d M' J' L' S' w' Q X:=fun j env2 S2 M2 J2 L2 i a2 e k g cs a b =>
 h j env2 S2 M2 J2 L2 i a2 e k g cs (f.trans a c.weak) (c.trans b f.size a.size)
theorem OG.lt{L':Tk_}{w':World}(c:OG L L' w w')(h:∀b,cS L b->b<w.heap.size)(e:w.heap.size<=w'.heap.size)(b:Nat)(d:cS L' b):b<w'.heap.size:=by
 rcases c b d with a|⟨_,a⟩;.exact E9 (h b a) e
 .exact a
theorem MS.back(h:MS P O K M J L S env w){env2:Env}(e:env2.length=env.length)(c:∀(j:Nat) (cs:Tn_),env2[j]?=some (.lb cs)->env[j]?=some (.lb cs)):MS P O K M J L S env2 w :=
 ⟨h.wr,⟨by rw[e];exact h.lb.len,fun j cs b=>h.lb.box j cs (c j cs b),fun j k cs a cb b d=>h.lb.inj j k cs a cb (c j cs b) (c k a d)⟩,h.gl⟩
variable (P O K) in
def zV(orc:Orc):Prop :=
 ∀(A:Ann) (nt:Nat),fD A nt->∀(F:Fence),cZ F->∀(n:Nat) (c:Code) (env:Env) (S:aA) (Q:aW×Env×aA->Prop),(orc.loop (bB P O A nt c) env S).All Q->(F.round=none\/dW (bB P O A nt c)=true) ->
  ∀(base:Nat) (M:Mem) (J:aF) (L:List (Option Nat)) (w:World) (a:Act) (X:Exit->Act->World->Prop),CS P O K A base nt M J L S env w a->tP P O K A base nt M J L S w Q X->(Code.loop c).wpIn F n P X a w
theorem FR.opd{d:Nat}{a:Act}(h:FR A d M J L env a)(c:MS P O K M J L S env w){x:Operand}{tx:aH}(b:opd A [] x=some tx):VR M J L (aX K env [] tx) (a.eval x):=by
 have:=aRh (ops:=[]) (tops:=[]) (D:=fun _=>False) (i:=0) c (h.rr [] []) (x:=x) (tx:=tx) (by simpa using b) (by
  cases tx with
  |reg r =>
   cases x with
   |tmp t =>simp only[TM.opd,aAw]at b;simp at b
   |const v=>simp[TM.opd]at b
   |global g=>simp[TM.opd]at b
   |func f=>simp[TM.opd]at b
  |loc j=>intro k o e;exact e.elim
  |cst v=>trivial
  |fn f=>trivial
  |glob g=>trivial)
 exact this
theorem aYi{b:Orc}(E:oF P O K b){F:Fence}(H:cZ F)(n:Nat){base d id:Nat}(t:fD A d){ops:Array Oper}(u:zQ d ops.toList=true)(m:aHg ops.toList 0 ops.toList=true) {Q:aW×Env×aA->Prop} (s:(eV K b (.region (dF P O A id false ops.toList 0 [])) env S).All Q) {a:Act} {X:Exit->Act->World->Prop} (cs:CS P O K A base d M J L S env w a) (y:tP P O K A base d M J L S w Q X): (Code.region id ops false).wpIn F n P X a w:=by
 simp only[eV]at s;rw[Out.all_bind]at s;refine wpIn_region ?_;have c:=aHu u;have:=bSp E H n (id:=id) c t m (X:=X) ops.toList.length 0 (vM (dF P O A id false ops.toList 0 []).length) env S M J L w a A_ (by
  rw[eQ];exact(cs.fr.rr ops.toList _).congr (fun k=>by constructor;exact fun h=>h.elim;intro h;omega)) cs.ms (by simpa using s) (by
  intro D env' S' M' J' L' w' I e z g C f r;simp only at e;split at e;.rename_i env2 hwb;obtain⟨p,j⟩:=z.back (P:=P) (O:=O) c t eQ (fun k o to G q=>by obtain⟨v,l,x⟩:=mN (P:=P) (O:=O) (A:=A) (id:=id) (draw:=false) (i:=0) (dsts:=[]) G;rw[q]at l;simp at l;subst l;exact⟨_,x⟩) hwb;exact y _ env2 S' M' J' L' w' I .normal e trivial ⟨p,C.back (iZ hwb).1 j,by rw[g];exact cs.mks.step f r,r.lt cs.lt f.size,C0 cs.ba f.size⟩ f r
  .exact e.elim)
 rw[List.range_eq_range'];simpa using this
end
end Go.TM
namespace Go.TM
open Go
section
variable {K:TM.bD}
mutual
theorem aHw:∀ {a b:IV},gN a b=true->a=b
 |.bool a,b,h=>by cases b<;>simp[gN]at h;subst h;rfl
 |.int k n,b,h=>by cases b<;>simp[gN]at h;obtain⟨rfl,rfl⟩:=h;rfl
 |.str s,b,h=>by cases b<;>simp[gN]at h;subst h;rfl
 |.sl t l,b,h=>by
  cases b<;>simp only[gN,P_,F5,b_]at h
  obtain⟨rfl,c⟩:=h;rw[tQ c]
 |.agg l,b,h=>by
  cases b<;>simp only[gN,b_]at h
  rw[rJ h]
 |.cp l,b,h=>by
  cases b<;>simp only[gN,b_]at h
  rw[rJ h]
 |.nilp,b,h=>by cases b<;>simp[gN]at h;rfl
 |.nilm,b,h=>by cases b<;>simp[gN]at h;rfl
 |.nilf,b,h=>by cases b<;>simp[gN]at h;rfl
 |.nili,b,h=>by cases b<;>simp[gN]at h;rfl
theorem rJ:∀ {a b:Tq_},lX a b=true->a=b
 |[],b,h=>by cases b<;>simp[lX]at h;rfl
 |a::as,b,h=>by
  cases b with
  |nil=>simp[lX]at h
  |cons b bs =>simp only[lX,P_]at h;rw[aHw h.1,rJ h.2]
theorem tQ:∀ {a b:Tp_},kN a b=true->a=b
 |[],b,h=>by cases b<;>simp[kN]at h;rfl
 |a::as,b,h=>by
  cases b with
  |nil=>simp[kN]at h
  |cons b bs =>simp only[kN,P_]at h;rw[rJ h.1,tQ h.2]
end
theorem aNg{a b:TV}(h:aHd a b=true):a=b:=by
 cases a<;>cases b<;>simp only[aHd,P_,F5,b_]at h
 .rw[aHw h]
 .obtain⟨rfl,rfl⟩:=h;rfl
 .obtain⟨⟨rfl,rfl⟩,rfl⟩:=h;rfl
 .obtain⟨⟨⟨⟨⟨rfl,rfl⟩,rfl⟩,rfl⟩,rfl⟩,rfl⟩:=h;rfl
 .obtain⟨rfl,h⟩:=h;rw[tQ h]
 .subst h;rfl
theorem tR:∀ {a b:Tn_},xQ a b=true->a=b
 |[],b,h=>by cases b<;>simp[xQ]at h;rfl
 |a::as,b,h=>by
  cases b with
  |nil=>simp[xQ]at h
  |cons b bs =>simp only[xQ,P_]at h;rw[aNg h.1,tR h.2]
theorem bMu{a b:TV}(h:same a b=true):a=b:=by
 unfold same at h;split at h;.simp only[P_,F5]at h;obtain⟨⟨rfl,c⟩,d⟩:=h;rw[tR c,tR d]
 .rw[tR h]
 .rw[tR h]
 .exact aNg h
theorem aEs{e e':aH->TV}:∀ {ps:List (Nat×Nat×aH)} {cs:Tn_},(∀x∈ps.map (·.2.2),e x=e' x)->fill cs e ps=fill cs e' ps
 |[],_,_=>rfl
 |(off,n,x)::r,cs,h=>by
  simp only[fill];rw[h x B_];split;.exact aEs (fun y a=>h y (by simp at a |-;exact .inr a))
  .rfl
theorem rK{e e':aH->TV}{n:Nat}:∀ {ps:List (Nat×aH)} {es:List (List TV)},(∀x∈ps.map (·.2),e x=e' x)->dZ es n e ps=dZ es n e' ps
 |[],_,_=>rfl
 |(i,x)::r,es,h=>by
  simp only[dZ];rw[h x B_];split;.exact rK (fun y a=>h y (by simp at a |-;exact .inr a))
  .rfl
theorem zW{e e':aH->TV}{xs:List aH}(h:∀x∈xs,e x=e' x):xs.map e=xs.map e':=R9 h
theorem pF{e e':aH->TV}{x:Option aH}(h:∀y∈x.toList,e y=e' y):nG e x=nG e' x:=by
 cases x with
 |none=>rfl
 |some x=>simp only[nG];rw[h x B_]
theorem yK{op:TOp}{e e':aH->TV}(h:∀x∈aQ op,e x=e' x):aV op e=aV op e':=by
 cases op<;>simp only[aQ,J_,W7,a_,I4,X2,forall_eq]at h<;>simp only[aV]
 case mov=>rw[h]
 case pick=>rw[h.1,h.2.1,h.2.2]
 case build=>rw[aEs h]
 case lit mu z len ps =>
  cases mu
  .simp only;rw[rK h]
  .rfl
 case nilCheck=>rw[h]
 case bin=>rw[h.1,h.2]
 case eqB=>rw[h.1,h.2]
 case eqAgg=>rw[h.1,h.2]
 case un=>rw[h]
 case conv=>rw[h]
 case mkFn f xs ys =>rw[zW (fun x a=>h x (.inl a)),zW (fun x a=>h x (.inr a))]
 case fieldAddr=>rw[h]
 case field=>rw[h]
 case indexAddrS=>rw[h.1,h.2]
 case indexAddrA=>rw[h.1,h.2]
 case indexA=>rw[h.1,h.2]
 case indexS=>rw[h.1,h.2]
 case extract=>rw[h]
 case cap=>rw[h]
 case minmax=>rw[zW h]
theorem aKo{op:TOp}{e e':aH->TV}(env:Env)(S:aA)(h:∀x∈aQ op,e x=e' x):aO op e env S=aO op e' env S:=by
 cases op<;>simp only[aQ,J_,W7,a_,I4,X2,forall_eq]at h<;>simp only[aO]
 case load1=>rw[h]
 case loadN=>rw[h]
 case conv k x=>cases k<;>simp only<;>rw[h]
 case slice k x lo hi mx =>rw[h.1,pF (fun y a=>h.2 y (.inl (.inl a))),pF (fun y a=>h.2 y (.inl (.inr a))),pF (fun y a=>h.2 y (.inr a))]
 case lookup=>rw[h.1,h.2]
 case entryM=>rw[h]
 case len=>rw[h]
theorem pG{op:TOp}{e e':aH->TV}(n:Nat)(h:∀x∈aQ op,e x=e' x):bO op e n=bO op e' n:=by
 cases op<;>simp only[aQ,J_,W7,a_,I4,X2,forall_eq]at h<;>simp only[bO]
 case boxH=>rw[h]
 case lit=>rw[rK h]
 case mkSlice=>rw[h.1,h.2]
theorem aNh{op:TOp}{e:aH->TV}{n:Nat}{v:TV}{b:aG}(h:bO op e n=some (v,b)):∃a:Nat->TV,a n=v/\∀m,bO op e m=some (a m,b):=by
 cases op<;>simp only[bO]at h |-<;>try (simp at h;done)
 case allocH t z=>simp at h;obtain⟨rfl,rfl⟩:=h;exact⟨fun m=>.ptr m t 0,rfl,fun m=>rfl⟩
 case boxH t x =>
  split at h;.simp at h
  .rename_i hc;simp at h;obtain⟨rfl,rfl⟩:=h;exact⟨fun m=>.ptr m t 0,rfl,fun m=>by simp only[I_ hc]⟩
 case lit mu z len ps =>
  split at h;.rename_i es hes;simp at h;obtain⟨rfl,rfl⟩:=h;exact⟨fun m=>.msl m 0 0 es.length es.length z.length,rfl,fun m=>rfl⟩
  .simp at h
 case mkMap=>simp at h;obtain⟨rfl,rfl⟩:=h;exact⟨fun m=>.map m,rfl,fun m=>rfl⟩
 case mkSlice z bytes l c =>
  split at h
  .rename_i l' c' _ _;split at h;.rename_i hc;simp at h;obtain⟨rfl,rfl⟩:=h;refine⟨fun m=>.msl m 0 0 l'.toNat c'.toNat z.length,rfl,fun m=>?_⟩;simp only[K_ hc]
   .simp at h
  .simp at h
theorem aNi{op:TOp}{e:aH->TV}{env:Env}{S:aA}(h:xS op=false):aO op e env S=none:=by
 cases op<;>simp only[xS,Bool.true_eq_false]at h<;>simp only[aO]
 case conv k x=>cases k<;>simp only[Bool.true_eq_false]at h<;>simp only
theorem eF{α:Type}{l:List α}{i:Nat}{x:α}(t:List α)(h:l[i]?=some x):(l++t)[i]?=some x:=by rw[Y_ (E_.1 h).1];exact h
theorem vV{env:Env}{S:aA}(T:aA){a:TV}{n:Nat}{cs:Tn_}(h:bP env S a n=some cs):bP env (S++T) a n=some cs:=by
 unfold bP at h |-;split at h;.exact h
 .split at h;.rename_i hs;simp only[eF T hs];exact h
  .rename_i hs;simp only[eF T hs];exact h
  .simp at h
 .exact h
 .simp at h
theorem aKp{S:aA}(T:aA){a:TV}{l:Tp_}(h:cH S a=some l):cH (S++T) a=some l:=by
 unfold cH at h |-;split at h;.exact h
 .exact h
 .split at h;.rename_i hs;simp only[eF T hs];exact h
  .rename_i hs;simp only[eF T hs];exact h
  .simp at h
 .simp at h
theorem aRi{S:aA}(T:aA){a:TV}{n:Nat}(h:lenOf S a=some n):lenOf (S++T) a=some n:=by
 unfold lenOf at h |-;split at h;all_goals first
  |exact h
  |skip
 split at h;.rename_i hs;simp only[eF T hs];exact h
 .simp at h
theorem aRj{S:aA}(T:aA){b v:Nat}(h:rU S b v=true):rU (S++T) b v=true:=by
 unfold rU at h |-;split at h;.rename_i hs;simp only[eF T hs];exact h
 .rename_i hs;simp only[eF T hs];exact h
 .simp at h
theorem aKq{S:aA}(T:aA){k:SK}{x r:TV}{lo a b:Option Int}(h:fQ S k x lo a b=some r):fQ (S++T) k x lo a b=some r:=by
 unfold fQ at h |-;split at h;.exact h
 .exact h
 .exact h
 .exact h
 .split at h;.simp at h
  .rename_i hc;rw[H2]at hc;have c:rU (S++T) _ _=true:=aRj T (by simpa using hc.2);rw[I_ (by rw[H2];exact⟨hc.1,by rw[c];simp⟩)];exact h
 .split at h
  .split at h;.rename_i hs;simp only[eF T hs];exact h
   .simp at h
  .exact h
  .simp at h
 .simp at h
theorem aBa{kk:KK}{S:aA}(T:aA){m:TV}{k:IV}{r:Option (Nat×TV)}(h:qV kk S m k=some r):qV kk (S++T) m k=some r:=by
 unfold qV at h |-;split at h;.exact h
 .split at h;.rename_i hs;simp only[eF T hs];exact h
  .simp at h
 .simp at h
theorem aNj{op:TOp}{e:aH->TV}{env:Env}{S:aA}(T:aA){v:TV}(h:aO op e env S=some v):aO op e env (S++T)=some v:=by
 cases op<;>simp only[aO]at h |-<;>try (simp at h;done)
 case load1 =>
  split at h;.rename_i cs hg;rw[vV T hg];exact h
  .simp at h
 case loadN =>
  split at h;.rename_i cs hg;rw[vV T hg];exact h
  .simp at h
 case conv k x =>
  cases k<;>simp only at h |-<;>try (simp at h;done)
  split at h;.rename_i l hl;rw[aKp T hl];exact h
  .simp at h
 case slice =>
  split at h;.rename_i h1 h2 h3;exact aKq T h
  .simp at h
 case lookup =>
  split at h
  .split at h;.simp at h
   .rename_i hk;rw[I_ hk];split at h;.rename_i hl;rw[aBa T hl];exact h
    .rename_i hl;rw[aBa T hl];exact h
    .simp at h
  .simp at h
 case entryM =>
  split at h
  .split at h
   .rename_i hs;simp only[eF T hs];split at h;.rename_i hm hst;simp only[eF T hm,hst];exact h
    .simp at h
   .simp at h
  .simp at h
 case len =>
  split at h;.rename_i hk;rw[K_ hk];simp only[G_]at h |-;obtain⟨n,a,rfl⟩:=h;exact⟨n,aRi T a,rfl⟩
  .simp at h
theorem aYj{op:TOp}{env rs:Tn_}{S:aA}(T:aA){v:TV}(h:iU K op env rs S=some v):iU K op env rs (S++T)=some v:=by
 unfold iU at h |-;split at h;.exact h
 .exact aNj T h
theorem aEt{op:TOp}{env rs a:Tn_}{S:aA}(h:∀x∈aQ op,aX K env rs x=aX K env a x):iU K op env rs S=iU K op env a S:=by unfold iU;rw[yK h,aKo env S h]
end
end Go.TM
namespace Go.TM
open Go
section
variable {P:Program}{O:dH}{K:TM.bD}{A:Ann}
variable {M:Mem}{J:aF}{L:List (Option Nat)}{S S':aA}{env env':Env}{w:World}
def B(bef:List Nat)(i j:Nat):Prop:=(bef.getD i 0).testBit j=true
def aV1(K:TM.bD)(tops:List aK)(env rs:List TV)(S:aA)(y:Nat):Prop :=
 ∃to,tops[y]?=some to/\((dV to.guard rs=some false/\rs.getD y .hole=undef)\/(dV to.guard rs=some true/\iU K to.op env rs S=some (rs.getD y .hole)))
def aV2(K:TM.bD)(tops:List aK)(env rs:List TV)(S:aA)(J:aF)(y i:Nat):Prop :=
 ∃(to:aK) (vf:Nat->TV) (b:aG),tops[y]?=some to/\dV to.guard rs=some true/\rs.getD y .hole=vf i/\(∀m,bO to.op (aX K env rs) m=some (vf m,b))/\J[i]?=some none/\S[i]?=some b
structure yL (P:Program) (O:dH) (A:Ann) (nt:Nat) (bef:List Nat) (ops:List Oper) (tops:List aK):Prop where
 hs:fD A nt
 hd:tN nt ops
 ca:∀(k:Nat) (o:Oper),ops[k]?=some o->∃to,tops[k]?=some to/\aEq P O A ((ops.take k).map (·.dst)) o to
 tl:tops.length=ops.length
 opd:∀(k:Nat) (to:aK),tops[k]?=some to->∀tx∈aQ to.op,(∀r,tx=.reg r->B bef k r)/\(∀j,tx=.loc j->∀(w:Nat) (o:Oper) (t:Nat),ops[w]?=some o->o.dst=some t->A.slots[j]?=some t->B bef w k)
 nl:∀(k:Nat) (to:aK),tops[k]?=some to->isL to.op=false
 gd:∀(k:Nat) (to:aK),tops[k]?=some to->∀g want,to.guard=some (g,want)->B bef k g/\∃og t,ops[g]?=some og/\og.dst=some t
variable (P O K A) in
structure DS (nt n0 fm:Nat) (bef:List Nat) (ops:List Oper) (tops:List aK) (X:Nat->Prop) (run:Nat) (al:List (Nat×Nat)) (M:Mem) (J:aF) (L:List (Option Nat)) (S:aA) (env:Env) (w:World) (rs:List TV) (a:Act):Prop where
 rr:RR A nt ops tops X M J L env rs a
 ms:MS P O K M J L S env w
 sub:∀i,X i->run.testBit i=true
 cl:∀i,run.testBit i=true->∀j,B bef i j->run.testBit j=true
 xc:∀i,X i->∀j,B bef i j->X j
 pend:∀y,run.testBit y=true->¬X y->aV1 K tops env rs S y\/∃i,(y,i)∈al
 al1:∀y i,(y,i)∈al->run.testBit y=true/\¬X y/\aV2 K tops env rs S J y i
 al2:∀p q,p∈al->q∈al->(p.1=q.1\/p.2=q.2)->p=q
 rn:∀i,run.testBit i=true->i<ops.length
 al3:∀p∈al,n0<=p.2
 nj:n0<=J.length
 fx:∀y,run.testBit y=true->fm.testBit y=true\/X y
theorem aEu{op:TOp}(h:isL op=false):aP op=none:=by cases op<;>first|rfl|simp[isL]at h
theorem tS{h:Nat}{b:Tc_}{ops:List Oper}{tops:List aK}(k:yL P O A h b ops tops){y:Nat}{to:aK}(c:tops[y]?=some to){env env' rs a:Tn_}(e:∀j,eP env' j=eP env j)(d:∀r,B b y r->a.getD r .hole=rs.getD r .hole): ∀x∈aQ to.op,aX K env rs x=aX K env' a x:=by
 intro x i;cases x with
 |reg r=>exact(d r ((k.opd y to c _ i).1 r rfl)).symm
 |loc j=>exact(e j).symm
 |cst v=>rfl
 |fn f=>rfl
 |glob g=>rfl
theorem rL{f:Nat}{c:Tc_}{ops:List Oper}{tops:List aK}(h:yL P O A f c ops tops){y:Nat}{to:aK}(d:tops[y]?=some to){rs a:Tn_}(e:∀r,B c y r->a.getD r .hole=rs.getD r .hole):dV to.guard a=dV to.guard rs:=by
 unfold dV;cases hg:to.guard with
 |none=>rfl
 |some g =>obtain⟨g,b⟩:=g;simp only;rw[e g (h.gd y to d g b hg).1]
theorem WR.phantom(h:WR P O M J S w)(b:aG):WR P O M (J++[none]) (S++[b]) w:=by
 have c:∀ {i:Nat} {l:Loc},aF.at (J++[none]) i l->J.at i l:=by
  intro i l a;rcases lZ a with a|⟨_,a⟩;.exact a
  .simp at a
 refine h.step (by simp[h.len]) (.refl _) (.push _ _) h.imm (fun i l s a g=>?_) (fun i k l l' a f e=>h.inj i k l l' (c a) (c f) e) (fun i l a=>h.lt i l (c a));refine .inr ⟨c a,?_,rfl,fun _=>rfl⟩;have d:i<S.length:=by rw[<-h.len];exact(E_.1 (c a)).1
 rwa [Y_ d]at g
theorem aNk{b:Nat}(h:aF.has (J++[none]) b):J.has b:=by
 obtain⟨i,l,a,e⟩:=h;rcases lZ a with a|⟨_,a⟩;.exact⟨i,l,a,e⟩
 .simp at a
theorem MS.phantom(h:MS P O K M J L S env w)(b:aG):MS P O K M (J++[none]) L (S++[b]) env w:=by refine⟨h.wr.phantom b,⟨h.lb.len,fun j cs d=>?_,h.lb.inj⟩,h.gl⟩;obtain⟨cb,c,a⟩:=h.lb.box j cs d;exact⟨cb,c,a.step rfl (.refl _) (fun _=>rfl) (.push _ _) (fun e=>a.1 (aNk e))⟩
theorem TrN.phantom{n:Nat}{own:Tm_}(h:MS P O K M J L S env w)(b:aG)(f:n<=J.length):TrN n own M J S w M (J++[none]) (S++[b]) w:=by
 refine⟨rfl,rfl,rfl,O_ _,.refl _,fun _ _ _ _=>rfl,.push _ _,fun i l c=>?_,fun i e d=>?_,fun _ _ _ _=>rfl⟩
 .rcases lZ c with c|⟨_,c⟩;.exact .inr ⟨l,c,rfl⟩
  .simp at c
 .have a:i<J.length:=A_;exact⟨by rw[Y_ a];exact d,by rw[Y_ (by rw[<-h.wr.len];exact a)]⟩
theorem RR.mono{m:Nat}{ops:List Oper}{tops:List aK}{D:Tm_}{rs:Tn_}{a:Act}(h:RR A m ops tops D M J L env rs a){M':Mem}{J':aF}(g:MLe M M')(l:JLe J J'):RR A m ops tops D M' J' L env rs a :=
 ⟨h.sz,h.len,h.nlp,h.rl,fun k o t i f e=>(h.reg k o t i f e).mono g l,fun j t b c=>(h.val j t b c).mono g l,fun k o to j t i f d n e b=>(h.lbs k o to j t i f d n e b).mono g l⟩
theorem RR.regs{c:Nat}{ops:List Oper}{tops:List aK}{D:Tm_}{rs b:Tn_}{a:Act}(h:RR A c ops tops D M J L env rs a)(i:b.length=rs.length)(e:∀k,D k->b.getD k .hole=rs.getD k .hole):RR A c ops tops D M J L env b a :=
 ⟨h.sz,h.len,h.nlp,i.trans h.rl,fun k o t d g f=>by rw[e k d];exact h.reg k o t d g f,h.val,h.lbs⟩
theorem eH{m i y:Nat}:(m ||| 2 ^ i).testBit y=true↔m.testBit y=true\/y=i:=by rw[O5,D3,S9,q_];exact or_congr Iff.rfl eq_comm
theorem bMv{a b:Nat}(h:(a &&& b==a)=true){j:Nat}(c:a.testBit j=true):b.testBit j=true:=by
 have h:=eq_of_beq h;have:(a &&& b).testBit j=true:=by rw[h];exact c
 rw[X7,P_]at this;exact this.2
theorem mO{c:Tc_}{i a b:Nat}{d:Tc_}(h:lI c (i::d) a=some b):a.testBit i=false/\(∀j,B c i j->a.testBit j=true)/\lI c d (a ||| 2 ^ i)=some b:=by
 simp only[lI]at h;split at h;.rename_i hc;simp only[P_,D7]at hc;exact⟨hc.1,fun j e=>bMv hc.2 e,h⟩
 .simp at h
theorem DS.floats{nt n fm:Nat}{t:Tc_}{ops:List Oper}{tops:List aK}(N:yL P O A nt t ops tops){X:Tm_}{a:Act}{own:Tm_}:∀ {is:Tc_} {f z:Nat} {al:List (Nat×Nat)} {J:aF} {S S':aA} {rs R:Tn_},(∀i∈is,i<ops.length/\fm.testBit i=true)->DS P O K A nt n fm t ops tops X f al M J L S env w rs a->lI t is f=some z->eC K tops is rs env S=some (R,S') ->∃F J',DS P O K A nt n fm t ops tops X z F M J' L S' env w R a/\TrN n own M J S w M J' S' w
 |[],f,z,al,J,S,S',rs,R,_,h,Z,C=>by simp[lI]at Z;subst Z;simp[eC]at C;obtain⟨rfl,rfl⟩:=C;exact⟨al,J,h,(Tr.refl own M J S w).trN n⟩
 |i::is,f,z,al,J,S,S',rs,R,hil,h,Z,C=>by
  obtain⟨h1,h2,h3⟩:=mO Z;have H:i<ops.length:=(hil i B_).1;obtain⟨to,D,ho⟩:=N.ca i ops[i] (D_ H);have hd:i<rs.length:=by rw[h.rr.rl];exact H
  have hi:¬X i:=fun hx=>by rw[h.sub i hx]at h1;simp at h1
  have d:∀(v:TV),(rs.set i v).length=rs.length/\(rs.set i v).getD i .hole=v/\∀k,k≠i->(rs.set i v).getD k .hole=rs.getD k .hole:=fun v=>jB hd v;have V:∀(v:TV) (y:Nat),f.testBit y=true->∀r,B t y r->(rs.set i v).getD r .hole=rs.getD r .hole:=fun v y c r Z=>(d v).2.2 r (fun e=>by have:=h.cl y c r Z;rw[e,h1]at this;simp at this);have h4:∀y,f.testBit y=true->y≠i:=fun y c e=>by rw[e,h1]at c;simp at c
  have l:∀(v:TV) (T:aA) (J':aF),J'=J++T.map (fun _=>none)->(aV1 K tops env (rs.set i v) (S++T) i\/∃k,k=S.length/\T≠[]/\aV2 K tops env (rs.set i v) (S++T) J' i k)->MS P O K M J' L (S++T) env w->JLe J J' ->
    ∃F,DS P O K A nt n fm t ops tops X (f ||| 2 ^ i) F M J' L (S++T) env w (rs.set i v) a:=by
   intro v T J' hn hp h7 Y
   have W:∀y,X y->(f ||| 2 ^ i).testBit y=true:=fun y c=>eH.2 (.inl (h.sub y c))
   have h5:∀y,(f ||| 2 ^ i).testBit y=true->∀j,B t y j->(f ||| 2 ^ i).testBit j=true:=by
    intro y c j hj;rcases eH.1 c with c|rfl;.exact eH.2 (.inl (h.cl y c j hj))
    .exact eH.2 (.inl (h2 j hj))
   have hh:RR A nt ops tops X M J' L env (rs.set i v) a:=(h.rr.mono (.refl _) Y).regs (d v).1 (fun k Q=>(d v).2.2 k (fun e=>hi (e▸Q)))
   have p1:∀y,f.testBit y=true->aV1 K tops env rs S y->aV1 K tops env (rs.set i v) (S++T) y:=by
    rintro y c ⟨ty,u,hc⟩;refine⟨ty,u,?_⟩;rw[rL N u (V v y c),(d v).2.2 y (h4 y c)];rcases hc with hc|⟨g,hc⟩;.exact .inl hc
    .refine .inr ⟨g,?_⟩;rw[<-aEt (tS N u (fun _=>rfl) (V v y c))];exact aYj T hc
   have pa:∀y k,f.testBit y=true->aV2 K tops env rs S J y k->aV2 K tops env (rs.set i v) (S++T) J' y k:=by
    rintro y k c ⟨ty,vf,b,u,g,E,e2,e3,e4⟩;refine⟨ty,vf,b,u,?_,?_,fun m=>?_,?_,eF T e4⟩;.rw[rL N u (V v y c)];exact g
    .rw[(d v).2.2 y (h4 y c)];exact E
    .rw[<-pG m (tS N u (fun _=>rfl) (V v y c))];exact e2 m
    .rw[hn];exact eF _ e3
   have h6:∀y,(f ||| 2 ^ i).testBit y=true->y<ops.length:=fun y c=>by
    rcases eH.1 c with c|rfl;.exact h.rn y c
    .exact H
   have h9:∀y,(f ||| 2 ^ i).testBit y=true->fm.testBit y=true\/X y:=fun y c=>by
    rcases eH.1 c with c|rfl;.exact h.fx y c
    .exact .inl (hil y B_).2
   have ha:n<=J'.length:=C0 h.nj Y.1
   rcases hp with hp|⟨k,Q,hT,hp⟩
   .refine⟨al,hh,h7,W,h5,h.xc,fun y c hX=>?_,fun y k G=>?_,h.al2,h6,h.al3,ha,h9⟩
    .rcases eH.1 c with c|rfl
     .rcases h.pend y c hX with h'|h'
      .exact .inl (p1 y c h')
      .exact .inr h'
     .exact .inl hp
    .obtain⟨E,e2,e3⟩:=h.al1 y k G
     exact⟨eH.2 (.inl E),e2,pa y k E e3⟩
   .refine⟨(i,k)::al,hh,h7,W,h5,h.xc,fun y c hX=>?_,fun y k' G=>?_,fun p q o U h0=>?_,h6,fun p o=>?_,ha,h9⟩
    .rcases eH.1 c with c|rfl
     .rcases h.pend y c hX with h'|⟨k',h'⟩
      .exact .inl (p1 y c h')
      .exact .inr ⟨k',by simp[h']⟩
     .exact .inr ⟨k,by simp⟩
    .rcases J_.1 G with e|G
     .simp at e;obtain⟨rfl,rfl⟩:=e
      exact⟨eH.2 (.inr rfl),hi,hp⟩
     .obtain⟨E,e2,e3⟩:=h.al1 y k' G
      exact⟨eH.2 (.inl E),e2,pa y k' E e3⟩
    .have I:∀q:Nat×Nat,q∈al->q.1≠i/\q.2≠k:=by
      intro q C
      obtain⟨E,_,_,_,_,_,_,_,_,_,e4⟩:=h.al1 q.1 q.2 C
      exact⟨h4 q.1 E,fun e=>by have:=(E_.1 e4).1;omega⟩
     rcases J_.1 o with rfl|o<;>rcases J_.1 U with rfl|U
     .rfl
     .obtain⟨E,e2⟩:=I q U
      rcases h0 with e|e
      .exact absurd e.symm E
      .exact absurd e.symm e2
     .obtain⟨E,e2⟩:=I p o
      rcases h0 with e|e
      .exact absurd e E
      .exact absurd e e2
     .exact h.al2 p q o U h0
    .rcases J_.1 o with rfl|o
     .show n<=k
      rw[Q,<-h.ms.wr.len];exact h.nj
     .exact h.al3 p o
  simp only[eC,D]at C;have gs:∀v,dV to.guard (rs.set i v)=dV to.guard rs:=fun v=>by
   unfold dV;cases hg:to.guard with
   |none=>rfl
   |some g =>obtain⟨g,he⟩:=g;simp only;rw[(d v).2.2 g (fun e=>by have:=h2 g (N.gd i to D g he hg).1;rw[e,h1]at this;simp at this)]
  have os:∀v,∀x∈aQ to.op,aX K env rs x=aX K env (rs.set i v) x:=fun v=>tS N D (fun _=>rfl) (fun r Z=>(d v).2.2 r (fun e=>by have:=h2 r Z;rw[e,h1]at this;simp at this));split at C;.simp at C
  .rename_i hg;obtain⟨F,s⟩:=l undef [] J B_ (.inl ⟨to,D,.inl ⟨by rw[gs];exact hg,(d undef).2.1⟩⟩) (by simpa using h.ms) (.refl _);rw[A4]at s;exact DS.floats N (fun k Q=>hil k (by simp[Q])) s h3 C
  .rename_i hg;split at C;.rename_i v hv;obtain⟨F,s⟩:=l v [] J B_ (.inl ⟨to,D,.inr ⟨by rw[gs];exact hg,by rw[(d v).2.1,A4,<-aEt (os v)];exact hv⟩⟩) (by simpa using h.ms) (.refl _);rw[A4]at s;exact DS.floats N (fun k Q=>hil k (by simp[Q])) s h3 C
   .split at C;.rename_i v b hv;obtain⟨vf,hm,h8⟩:=aNh hv;obtain⟨F,s⟩:=l v [b] (J++[none]) B_ (.inr ⟨S.length,rfl,by simp,to,vf,b,D,by rw[gs];exact hg,by rw[(d v).2.1,hm],fun m=>by rw[<-pG m (os v)];exact h8 m,by rw[<-h.ms.wr.len];simp,by simp⟩) (h.ms.phantom b) (.push _ _);obtain⟨hl,J2,r1,r2⟩:=DS.floats (own:=own) N (fun k Q=>hil k (by simp[Q])) s h3 C;exact⟨hl,J2,r1,(TrN.phantom h.ms b h.nj).trans r2 (fun b hb=>.inl hb)⟩
    .simp at C
end
end Go.TM
