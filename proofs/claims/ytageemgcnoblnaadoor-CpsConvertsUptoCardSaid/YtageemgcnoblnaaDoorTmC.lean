/- A part of the evaluator TM, and of the proof that what it computes the model does. Condition: none. -/
import Derived.Test.YtageemgcnoblnaaDoorTmB
import Derived.RangeFuncIn
import Derived.OrdersIn
import Derived.RangeFuncRecord
namespace Go.TM
open Go
inductive cP (P:Program) (O:dM) (A:Ann) (dsts:List (Option Nat)) (slot:Option Nat):Op->TOp->Prop
 | mov (x:Operand) (tx:aE) (hx:opd A dsts x=some tx):cP P O A dsts slot (.move x) (.mov tx)
 | assign (x:Operand) (tx:aE) (hx:opd A dsts x=some tx):cP P O A dsts slot (.assign x) (.mov tx)
 | pick (c x y:Operand) (tc tx ty:aE) (hc:opd A dsts c=some tc) (hx:opd A dsts x=some tx) (hy:opd A dsts y=some ty):cP P O A dsts slot (.pick c x y) (.pick tc tx ty)
 | allocL (t:TypeId) (z:List IV) (j:Nat) (hz:hO P t=some z) (hj:slot=some j):cP P O A dsts slot (.alloc t) (.allocL j z)
 | allocH (t:TypeId) (z:List IV) (hz:hO P t=some z):cP P O A dsts slot (.alloc t) (.allocH (t+1) z)
 | boxL (t:TypeId) (x:Operand) (tx:aE) (j:Nat) (hx:opd A dsts x=some tx) (hj:slot=some j):cP P O A dsts slot (.box t x) (.boxL j tx)
 | boxH (t:TypeId) (x:Operand) (tx:aE) (hx:opd A dsts x=some tx):cP P O A dsts slot (.box t x) (.boxH (t+1) tx)
 | buildS (t:TypeId) (ps:Array (Nat×Operand)) (z:List IV) (fs:Array Field) (tps:List (Nat×Nat×aE)) (hz:hO P t=some z) (ht:P.underlying t=some (.struct fs)) (hpl:(aBy P fs).isSome=true)
   (hps:parts P A dsts fs ps.toList=some tps):cP P O A dsts slot (.build t ps) (.build z tps)
 | buildA (t el:TypeId) (k n:Nat) (ps:Array (Nat×Operand)) (z:List IV) (tps:List (Nat×Nat×aE)) (hz:hO P t=some z) (ht:P.underlying t=some (.array k el)) (hn:sizeOf? P el=some n)
   (hps:xU A dsts n ps.toList=some tps):cP P O A dsts slot (.build t ps) (.build z tps)
 | lit (mu:Bool) (t el:TypeId) (len:Nat) (ps:Array (Nat×Operand)) (z:List IV) (tps:List (Nat×aE)) (ht:P.underlying t=some (.slice el)) (hz:hO P el=some z) (hz0:z.length≠0) (hbig:len*z.length<=16777216)
   (hps:xV A dsts ps.toList=some tps):cP P O A dsts slot (.buildSlice t len ps) (.lit mu z len tps)
 | load1 (t:TypeId) (x:Operand) (tx:aE) (n:Nat) (hag:isAgg? P t=some false) (hn:sizeOf? P t=some n) (hx:opd A dsts x=some tx):cP P O A dsts slot (.load t x) (.load1 tx)
 | loadN (t:TypeId) (x:Operand) (tx:aE) (n:Nat) (hag:isAgg? P t=some true) (hn:sizeOf? P t=some n) (hx:opd A dsts x=some tx):cP P O A dsts slot (.load t x) (.loadN n tx)
 | store (t:TypeId) (x y:Operand) (tx ty:aE) (n:Nat) (hn:sizeOf? P t=some n) (hx:opd A dsts x=some tx) (hy:opd A dsts y=some ty):cP P O A dsts slot (.store t x y) (.store n tx ty)
 | nilCheck (x:Operand) (tx:aE) (hx:opd A dsts x=some tx):cP P O A dsts slot (.nilCheck x) (.nilCheck tx)
 | bin (op:BinOp) (t u:TypeId) (x y:Operand) (tx ty:aE) (hx:opd A dsts x=some tx) (hy:opd A dsts y=some ty):cP P O A dsts slot (.binOp op t x y u) (.bin op tx ty)
 | eqB (op:BinOp) (t u:TypeId) (x y:Operand) (tx ty:aE) (k:EK) (ho:op=.eql∨op=.neq) (hk:qJ P t=some (.b k)) (hx:opd A dsts x=some tx) (hy:opd A dsts y=some ty):
   cP P O A dsts slot (.binOp op t x y u) (.eqB (op==.neq) k tx ty)
 | eqAgg (op:BinOp) (t u:TypeId) (x y:Operand) (tx ty:aE) (offs:List (Nat×LK)) (ho:op=.eql∨op=.neq) (hk:qJ P t=some (.agg offs)) (hx:opd A dsts x=some tx) (hy:opd A dsts y=some ty):
   cP P O A dsts slot (.binOp op t x y u) (.eqAgg (op==.neq) offs tx ty)
 | un (op:UnOp) (t:TypeId) (x:Operand) (tx:aE) (hx:opd A dsts x=some tx):cP P O A dsts slot (.unOp op t x) (.un op tx)
 | toInt (s d:TypeId) (x:Operand) (tx:aE) (k0 k:IntKind) (hs:P.underlying s=some (.int k0)) (hd:P.underlying d=some (.int k)) (hx:opd A dsts x=some tx):cP P O A dsts slot (.convert s d x) (.conv (.toInt k) tx)
 | intStr (s d:TypeId) (x:Operand) (tx:aE) (k0:IntKind) (hs:P.underlying s=some (.int k0)) (hd:P.underlying d=some .string) (hx:opd A dsts x=some tx):cP P O A dsts slot (.convert s d x) (.conv .intStr tx)
 | strStr (s d:TypeId) (x:Operand) (tx:aE) (hs:P.underlying s=some .string) (hd:P.underlying d=some .string) (hx:opd A dsts x=some tx):cP P O A dsts slot (.convert s d x) (.conv .strStr tx)
 | strBytes (s d e:TypeId) (x:Operand) (tx:aE) (hs:P.underlying s=some .string) (hd:P.underlying d=some (.slice e)) (he:P.underlying e=some (.int .u8)) (hx:opd A dsts x=some tx):cP P O A dsts slot (.convert s d x) (.conv .strBytes tx)
 | bytesStr (s d e:TypeId) (x:Operand) (tx:aE) (hs:P.underlying s=some (.slice e)) (hd:P.underlying d=some .string) (he:P.underlying e=some (.int .u8)) (hx:opd A dsts x=some tx):cP P O A dsts slot (.convert s d x) (.conv .bytesStr tx)
 | mkFn (f:FuncId) (first cap:Array Operand) (xs ys:List aE) (hx:vC A dsts first.toList=some xs) (hy:vC A dsts cap.toList=some ys):cP P O A dsts slot (.makeFunc (.func f) first cap) (.mkFn f xs ys)
 | mkMap (t kt el:TypeId) (ht:P.underlying t=some (.map kt el)):cP P O A dsts slot (.makeMap t none) .mkMap
 | slice (t:TypeId) (k:SK) (x:Operand) (lo hi mx:Option Operand) (tx:aE) (tlo thi tmx:Option aE) (ht:bDs P t k) (hx:opd A dsts x=some tx) (h1:aGq A dsts lo=some tlo) (h2:aGq A dsts hi=some thi) (h3:aGq A dsts mx=some tmx):
   cP P O A dsts slot (.slice t x lo hi mx) (.slice k tx tlo thi tmx)
 | fieldAddr (t:TypeId) (x:Operand) (f:Nat) (fs:Array Field) (fd:Field) (n:Nat) (tx:aE) (ht:P.underlying t=some (.struct fs)) (hf:fs[f]? = some fd) (hn:sizeOf? P fd.type=some n) (hn0:n≠0) (hx:opd A dsts x=some tx):
   cP P O A dsts slot (.fieldAddr t x f) (.fieldAddr fd.offset tx)
 | field (t:TypeId) (x:Operand) (f:Nat) (fs:Array Field) (fd:Field) (n:Nat) (ag:Bool) (tx:aE) (ht:P.underlying t=some (.struct fs)) (hf:fs[f]? = some fd) (hn:sizeOf? P fd.type=some n) (hag:isAgg? P fd.type=some ag)
   (hx:opd A dsts x=some tx):cP P O A dsts slot (.field t x f) (.field fd.offset (if ag then n else 1) ag tx)
 | indexAddrS (t el:TypeId) (x i:Operand) (n:Nat) (tx ti:aE) (ht:P.underlying t=some (.slice el)) (hn:sizeOf? P el=some n) (hx:opd A dsts x=some tx) (hi:opd A dsts i=some ti):cP P O A dsts slot (.indexAddr t x i) (.indexAddrS n tx ti)
 | indexAddrA (t el:TypeId) (x i:Operand) (len n:Nat) (tx ti:aE) (ht:P.underlying t=some (.array len el)) (hn:sizeOf? P el=some n) (hx:opd A dsts x=some tx) (hi:opd A dsts i=some ti):
   cP P O A dsts slot (.indexAddr t x i) (.indexAddrA len n tx ti)
 | indexS (t:TypeId) (x i:Operand) (tx ti:aE) (ht:P.underlying t=some .string) (hx:opd A dsts x=some tx) (hi:opd A dsts i=some ti):cP P O A dsts slot (.index t x i) (.indexS tx ti)
 | indexA (t el:TypeId) (x i:Operand) (len n:Nat) (ag:Bool) (tx ti:aE) (ht:P.underlying t=some (.array len el)) (hn:sizeOf? P el=some n) (hag:isAgg? P el=some ag) (hx:opd A dsts x=some tx) (hi:opd A dsts i=some ti):
   cP P O A dsts slot (.index t x i) (.indexA len n ag tx ti)
 | lookup (t kt el:TypeId) (m k:Operand) (ok:Bool) (kk:KK) (zi:IV) (tm tk:aE) (ht:P.underlying t=some (.map kt el)) (hkk:lP P kt=some kk) (hz:aI1 P el=some zi) (hm:opd A dsts m=some tm) (hk:opd A dsts k=some tk):cP P O A dsts slot (.lookup t m k ok) (.lookup kk zi ok tm tk)
 | update (t kt el:TypeId) (m k v:Operand) (kk:KK) (tm tk tv:aE) (ht:P.underlying t=some (.map kt el)) (hkk:lP P kt=some kk) (hm:opd A dsts m=some tm) (hk:opd A dsts k=some tk) (hv:opd A dsts v=some tv):
   cP P O A dsts slot (.mapUpdate t m k v) (.update kk tm tk tv)
 | rangeS (t:TypeId) (x:Operand) (tx:aE) (ht:P.underlying t=some .string) (hx:opd A dsts x=some tx):cP P O A dsts slot (.range t x) (.range true tx)
 | nextS (x:Operand) (tx:aE) (hx:opd A dsts x=some tx):cP P O A dsts slot (.next x true) (.nextS tx)
 | extract (x:Operand) (tx:aE) (i:Nat) (hx:opd A dsts x=some tx):cP P O A dsts slot (.extract x i) (.extract i tx)
 | builtin (mu:Bool) (c:Call) (b:Builtin) (top:TOp) (hc:c.callee=.builtin b) (h:fO P A mu dsts b c.argTypes.toList c.args.toList=some top):cP P O A dsts slot (.call c) top
 | call (pure trunc : Bool) (c : Call) (f : FuncId) (fn : Func) (args : List aE) (hc : c.callee = .value (.func f)) (hfn : P.funcs[f]? = some fn) (hb : fn.body.isSome = true) (hng : fn.name ≠ "runtime.NumGoroutine") (ha : vC A dsts c.args.toList = some args) :
   cP P O A dsts slot (.call c) (.call pure trunc f args)
 | prim (c:Call) (f:FuncId) (args:List aE) (hc:c.callee=.value (.func f)) (ha:vC A dsts c.args.toList=some args):cP P O A dsts slot (.call c) (.prim f args)
 | callv (c:Call) (x:Operand) (tx:aE) (args:List aE) (hc:c.callee=.value x) (hx:opd A dsts x=some tx) (ha:vC A dsts c.args.toList=some args):cP P O A dsts slot (.call c) (.callv tx args)
section
variable {P:Program}{O:dM}{A:Ann}{dsts:List (Option Nat)}
theorem aR3 {mu trunc:Bool}{slot:Option Nat}{c:Call}{top:TOp}(h:aMo P O A mu trunc dsts c=some top):cP P O A dsts slot (.call c) top:=by
 unfold aMo at h
 split at h
 ·rename_i b hc
  exact .builtin mu c b top hc h
 ·rename_i f hc
  split at h
  ·rename_i args ha
   split at h
   ·simp at h;subst h
    exact .prim c f args hc ha
   ·split at h
    ·rename_i fn hfn
     split at h
     ·rename_i hb
      simp at h;subst h
      simp at hb
      exact .call _ _ c f fn args hc hfn hb.1 hb.2 ha
     ·simp at h
    ·simp at h
  ·simp at h
 ·rename_i x hx0 hc
  split at h
  ·rename_i tx args hx ha
   simp at h;subst h
   exact .callv c x tx args hc hx ha
  ·simp at h
 ·simp at h
theorem aJi {mu trunc isLb:Bool}{o:Oper}{top:TOp}(h:vD P O A mu trunc isLb dsts o=some top):cP P O A dsts (o.dst.bind fun t=>eK t A.slots 0) o.op top:=by
 unfold vD at h
 simp only at h
 split at h
 ·rename_i x hop;rw[hop]
  simp only[Option.map_eq_some_iff]at h
  obtain⟨tx,hx,rfl⟩:=h
  exact .mov x tx hx
 ·rename_i x hop;rw[hop]
  simp only[Option.map_eq_some_iff]at h
  obtain⟨tx,hx,rfl⟩:=h
  exact .assign x tx hx
 ·rename_i c x y hop;rw[hop]
  split at h
  ·rename_i tc tx ty hc hx hy
   simp at h;subst h
   exact .pick c x y tc tx ty hc hx hy
  ·simp at h
 ·rename_i t hop;rw[hop]
  split at h
  ·rename_i z hz
   split at h
   ·simp only[Option.map_eq_some_iff]at h
    obtain⟨j,hj,rfl⟩:=h
    exact .allocL t z j hz hj
   ·simp at h;subst h
    exact .allocH t z hz
  ·simp at h
 ·rename_i t x hop;rw[hop]
  split at h
  ·rename_i tx hx
   split at h
   ·simp only[Option.map_eq_some_iff]at h
    obtain⟨j,hj,rfl⟩:=h
    exact .boxL t x tx j hx hj
   ·simp at h;subst h
    exact .boxH t x tx hx
  ·simp at h
 ·rename_i t ps hop;rw[hop]
  split at h
  ·rename_i z fs hz ht
   split at h
   ·rename_i hpl
    simp only[Option.map_eq_some_iff]at h
    obtain⟨tps,hps,rfl⟩:=h
    exact .buildS t ps z fs tps hz ht hpl hps
   ·simp at h
  ·rename_i z k el hz ht
   split at h
   ·rename_i n hn
    simp only[Option.map_eq_some_iff]at h
    obtain⟨tps,hps,rfl⟩:=h
    exact .buildA t el k n ps z tps hz ht hn hps
   ·simp at h
  ·simp at h
 ·rename_i t len ps hop;rw[hop]
  split at h
  ·rename_i el ht
   split at h
   ·rename_i z tps hz hps
    split at h
    ·simp at h
    ·rename_i hc
     rw[not_or]at hc
     simp at h;subst h
     exact .lit mu t el len ps z tps ht hz hc.1 (by omega) hps
   ·simp at h
  ·simp at h
 ·rename_i t x hop;rw[hop]
  split at h
  ·rename_i n tx hag hn hx
   simp at h;subst h
   exact .loadN t x tx n hag hn hx
  ·rename_i n tx hag hn hx
   simp at h;subst h
   exact .load1 t x tx n hag hn hx
  ·simp at h
 ·rename_i t x y hop;rw[hop]
  split at h
  ·rename_i n tx ty hn hx hy
   simp at h;subst h
   exact .store t x y tx ty n hn hx hy
  ·simp at h
 ·rename_i x hop;rw[hop]
  simp only[Option.map_eq_some_iff]at h
  obtain⟨tx,hx,rfl⟩:=h
  exact .nilCheck x tx hx
 ·rename_i op t x y u hop;rw[hop]
  split at h
  ·rename_i tx ty hx hy
   split at h
   ·split at h
    ·simp at h;subst h;exact .bin _ t u x y tx ty hx hy
    ·rename_i k hk;simp at h;subst h;exact .eqB _ t u x y tx ty k (.inl rfl) hk hx hy
    ·rename_i offs hk;simp at h;subst h;exact .eqAgg _ t u x y tx ty offs (.inl rfl) hk hx hy
    ·simp at h
   ·split at h
    ·simp at h;subst h;exact .bin _ t u x y tx ty hx hy
    ·rename_i k hk;simp at h;subst h;exact .eqB _ t u x y tx ty k (.inr rfl) hk hx hy
    ·rename_i offs hk;simp at h;subst h;exact .eqAgg _ t u x y tx ty offs (.inr rfl) hk hx hy
    ·simp at h
   ·simp at h;subst h;exact .bin _ t u x y tx ty hx hy
  ·simp at h
 ·rename_i op t x hop;rw[hop]
  simp only[Option.map_eq_some_iff]at h
  obtain⟨tx,hx,rfl⟩:=h
  exact .un op t x tx hx
 ·rename_i s d x hop;rw[hop]
  split at h
  ·rename_i k0 k tx hs hd hx
   simp at h;subst h;exact .toInt s d x tx k0 k hs hd hx
  ·rename_i k0 tx hs hd hx
   simp at h;subst h;exact .intStr s d x tx k0 hs hd hx
  ·rename_i tx hs hd hx
   simp at h;subst h;exact .strStr s d x tx hs hd hx
  ·rename_i e tx hs hd hx
   split at h
   ·rename_i he
    simp at h;subst h;exact .strBytes s d e x tx hs hd he hx
   ·simp at h
  ·rename_i e tx hs hd hx
   split at h
   ·rename_i he
    simp at h;subst h;exact .bytesStr s d e x tx hs hd he hx
   ·simp at h
  ·simp at h
 ·rename_i f first cap hop;rw[hop]
  split at h
  ·rename_i xs ys hx hy
   simp at h;subst h;exact .mkFn f first cap xs ys hx hy
  ·simp at h
 ·rename_i t r hop;rw[hop]
  split at h
  ·rename_i kt el ht
   simp at h;subst h;exact .mkMap t kt el ht
  ·simp at h
 ·rename_i t x lo hi mx hop;rw[hop]
  split at h
  ·rename_i tx tlo thi tmx hx h1 h2 h3
   split at h
   ·rename_i ht
    simp at h;subst h;exact .slice t .str x lo hi mx tx tlo thi tmx ht hx h1 h2 h3
   ·rename_i el ht
    split at h
    ·rename_i n hn
     split at h
     ·simp at h
     ·simp at h;subst h;exact .slice t (.sl n) x lo hi mx tx tlo thi tmx ⟨el,ht,hn⟩ hx h1 h2 h3
    ·simp at h
   ·rename_i n el ht
    split at h
    ·rename_i k hk
     split at h
     ·simp at h
     ·simp at h;subst h;exact .slice t (.arr n k) x lo hi mx tx tlo thi tmx (.inl ⟨el,ht,hk⟩) hx h1 h2 h3
    ·simp at h
   ·rename_i a ht
    split at h
    ·rename_i n el ha
     split at h
     ·rename_i k hk
      split at h
      ·simp at h
      ·simp at h;subst h;exact .slice t (.arr n k) x lo hi mx tx tlo thi tmx (.inr ⟨a,el,ht,ha,hk⟩) hx h1 h2 h3
     ·simp at h
    ·simp at h
   ·simp at h
  ·simp at h
 ·rename_i t x f hop;rw[hop]
  split at h
  ·rename_i fs tx ht hx
   split at h
   ·rename_i fd hf
    split at h
    ·rename_i n hn
     split at h
     ·simp at h
     ·rename_i hn0
      simp at h;subst h;exact .fieldAddr t x f fs fd n tx ht hf hn hn0 hx
    ·simp at h
   ·simp at h
  ·simp at h
 ·rename_i t x f hop;rw[hop]
  split at h
  ·rename_i fs tx ht hx
   split at h
   ·rename_i fd hf
    split at h
    ·rename_i n ag hn hag
     simp only[Option.some.injEq]at h;subst h;exact .field t x f fs fd n ag tx ht hf hn hag hx
    ·simp at h
   ·simp at h
  ·simp at h
 ·rename_i t x i hop;rw[hop]
  split at h
  ·rename_i el tx ti ht hx hi
   split at h
   ·rename_i n hn
    split at h
    ·simp at h
    ·simp at h;subst h;exact .indexAddrS t el x i n tx ti ht hn hx hi
   ·simp at h
  ·rename_i len el tx ti ht hx hi
   split at h
   ·rename_i n hn
    split at h
    ·simp at h
    ·simp at h;subst h;exact .indexAddrA t el x i len n tx ti ht hn hx hi
   ·simp at h
  ·simp at h
 ·rename_i t x i hop;rw[hop]
  split at h
  ·rename_i tx ti ht hx hi
   simp at h;subst h;exact .indexS t x i tx ti ht hx hi
  ·rename_i len el tx ti ht hx hi
   split at h
   ·rename_i n ag hn hag
    split at h
    ·simp at h
    ·simp at h;subst h;exact .indexA t el x i len n ag tx ti ht hn hag hx hi
   ·simp at h
  ·simp at h
 ·rename_i t m k ok hop;rw[hop]
  split at h
  ·rename_i kt el tm tk ht hm hk
   split at h
   ·rename_i kk zi hkk hz
    simp at h;subst h;exact .lookup t kt el m k ok kk zi tm tk ht hkk hz hm hk
   ·simp at h
  ·simp at h
 ·rename_i t m k v hop;rw[hop]
  split at h
  ·rename_i kt el tm tk tv ht hm hk hv
   simp only[Option.map_eq_some_iff]at h
   obtain⟨kk,hkk,rfl⟩:=h
   exact .update t kt _ m k v kk tm tk tv ht hkk hm hk hv
  ·simp at h
 ·rename_i t x hop;rw[hop]
  split at h
  ·rename_i ht
   simp only[Option.map_eq_some_iff]at h
   obtain⟨tx,hx,rfl⟩:=h
   exact .rangeS t x tx ht hx
  ·simp at h
 ·rename_i x hop;rw[hop]
  simp only[Option.map_eq_some_iff]at h
  obtain⟨tx,hx,rfl⟩:=h
  exact .nextS x tx hx
 ·rename_i x i hop;rw[hop]
  simp only[Option.map_eq_some_iff]at h
  obtain⟨tx,hx,rfl⟩:=h
  exact .extract x tx i hx
 ·rename_i c hop;rw[hop]
  exact aR3 h
 ·simp at h
end
end Go.TM
namespace Go.TM
open Go
section
variable {P:Program}{O:dM}{K:TM.bV}{A:Ann}{dsts:List (Option Nat)}{slot:Option Nat}
variable {M:Mem}{J:aD}{L:List (Option Nat)}{S S':aA}{env env':Env}{w:World}
def aG2 (A:Ann)(dsts:List (Option Nat))(M:Mem)(J:aD)(L:List (Option Nat))(ev:aE->TV)(a:Act)(top:TOp):Prop :=
 ∀(x:Operand) (tx:aE),tx∈bC top->opd A dsts x=some tx->VR M J L (ev tx) (a.eval x)
theorem mD {a:Act}{ev:aE->TV}:∀ {xs:List Operand} {txs:List aE},vC A dsts xs=some txs->(∀x tx,tx∈txs->opd A dsts x=some tx->VR M J L (ev tx) (a.eval x))->VRs M J L (txs.map ev) (xs.map a.eval)
 | [],txs,h,_=>by simp[vC]at h;subst h;exact .nil
 | x::r,txs,h,hv=>by
  simp only[vC]at h
  split at h
  ·rename_i tx l h1 h2
   simp at h;subst h
   exact .cons (hv x tx (by simp) h1) (mD h2 fun y ty hy=>hv y ty (by simp[hy]))
  ·simp at h
theorem aFa {fs:Array Field}:∀ {ps:List (Nat×Operand)} {tps:List (Nat×Nat×aE)},parts P A dsts fs ps=some tps->ps.length=tps.length∧∀(k:Nat) (p:Nat×Nat×aE) (u:Nat×Operand),tps[k]? = some p->ps[k]? = some u ->
  opd A dsts u.2=some p.2.2∧∃f,fs[u.1]? = some f∧p.1=f.offset∧sizeOf? P f.type=some p.2.1
 | [],tps,h=>by simp[parts]at h;subst h;exact⟨rfl,fun k p u hp=>by simp at hp⟩
 | (i,x)::r,tps,h=>by
  simp only[parts]at h
  split at h
  ·rename_i f tx l h1 h2 h3
   split at h
   ·rename_i n hn
    simp at h;subst h
    obtain⟨e1,e2⟩:=aFa h3
    refine⟨by simp[e1],fun k p u hp hu=>?_⟩
    cases k with
    | zero=>simp at hp hu;subst hp;subst hu;exact⟨h2,f,h1,rfl,hn⟩
    | succ k=>exact e2 k p u (by simpa using hp) (by simpa using hu)
   ·simp at h
  ·simp at h
theorem aCi {n:Nat}:∀ {ps:List (Nat×Operand)} {tps:List (Nat×Nat×aE)},xU A dsts n ps=some tps->ps.length=tps.length∧∀(k:Nat) (p:Nat×Nat×aE) (u:Nat×Operand),tps[k]? = some p->ps[k]? = some u ->
  opd A dsts u.2=some p.2.2∧p.2.1=n∧p.1=u.1*n
 | [],tps,h=>by simp[xU]at h;subst h;exact⟨rfl,fun k p u hp=>by simp at hp⟩
 | (i,x)::r,tps,h=>by
  simp only[xU]at h
  split at h
  ·rename_i tx l h1 h2
   simp at h;subst h
   obtain⟨e1,e2⟩:=aCi h2
   refine⟨by simp[e1],fun k p u hp hu=>?_⟩
   cases k with
   | zero=>simp at hp hu;subst hp;subst hu;exact⟨h1,rfl,rfl⟩
   | succ k=>exact e2 k p u (by simpa using hp) (by simpa using hu)
  ·simp at h
theorem vI:∀ {ps:List (Nat×Operand)} {tps:List (Nat×aE)},xV A dsts ps=some tps->ps.length=tps.length∧∀(k:Nat) (p:Nat×aE) (u:Nat×Operand),tps[k]? = some p->ps[k]? = some u->opd A dsts u.2=some p.2∧u.1=p.1
 | [],tps,h=>by simp[xV]at h;subst h;exact⟨rfl,fun k p u hp=>by simp at hp⟩
 | (i,x)::r,tps,h=>by
  simp only[xV]at h
  split at h
  ·rename_i tx l h1 h2
   simp at h;subst h
   obtain⟨e1,e2⟩:=vI h2
   refine⟨by simp[e1],fun k p u hp hu=>?_⟩
   cases k with
   | zero=>simp at hp hu;subst hp;subst hu;exact⟨h1,rfl⟩
   | succ k=>exact e2 k p u (by simpa using hp) (by simpa using hu)
  ·simp at h
theorem aG3 {x:Option Operand}{tx:Option aE}(h:aGq A dsts x=some tx){ev:aE->TV}{a:Act}(hv:∀y ty,ty∈tx.toList->opd A dsts y=some ty->VR M J L (ev ty) (a.eval y)){n:Option Int}(hn:nB ev tx=some n):OI n (x.map a.eval):=by
 cases x with
 | none =>
  simp[aGq]at h;subst h
  simp[nB]at hn;subst hn
  trivial
 | some x =>
  simp only[aGq,Option.map_eq_some_iff]at h
  obtain⟨t,h1,rfl⟩:=h
  simp only[nB,Option.map_eq_some_iff]at hn
  obtain⟨i,hi,rfl⟩:=hn
  obtain⟨k,hk⟩:=pS hi (hv x t (by simp) h1)
  exact⟨k,by simp[hk]⟩
theorem zI {o:Oper}{c:Call}{b:Builtin}(hop:o.op=.call c)(hc:c.callee=.builtin b)(a:Act):∃ty consts,execOp a.eval o=Go.builtin b c.argTypes ty consts (c.args.map a.eval):=by
 simp only[execOp,hop,Go.resolve,hc,invoke,pure_bind]
 exact⟨_,_,rfl⟩
theorem bLb {c:Call}{x y:Operand}(h:c.args.toList=[x,y])(a:Act):c.args.map a.eval=#[a.eval x,a.eval y]:=by
 apply Array.ext'
 simp[h]
theorem bGu {c:Call}{x:Operand}(h:c.args.toList=[x])(a:Act):c.args.map a.eval=#[a.eval x]:=by
 apply Array.ext'
 simp[h]
theorem xZ {c:Call}{t:TypeId}{r:List TypeId}(h:c.argTypes.toList=t::r):c.argTypes[0]? = some t:=by
 rw[<-Array.getElem?_toList,h];rfl
theorem bIt {c:Call}{t u:TypeId}{r:List TypeId}(h:c.argTypes.toList=t::u::r):c.argTypes[1]? = some u:=by
 rw[<-Array.getElem?_toList,h];rfl
theorem bDz {o:Oper}{c:Call}{b:Builtin}{mu:Bool}{top:TOp}(hop:o.op=.call c)(hc:c.callee=.builtin b)(h:fO P A mu dsts b c.argTypes.toList c.args.toList=some top)(a:Act)(ms:MS P O K M J L S env w){ev:aE->TV}
  (hv:aG2 A dsts M J L ev a top) {v:TV} (he:bG top ev=some v∨aR top ev env S=some v):aS top=none∧dF P O K top M J L S env w (execOp a.eval o) v env S:=by
 obtain⟨ty,consts,hrun⟩:=zI hop hc a
 rw[hrun]
 unfold fO at h
 split at h
 · -- append
  rename_i t u r s x hts has
  split at h
  ·split at h
   ·split at h
    ·simp at h
    ·simp at h;subst h;simp[bG,aR]at he
   ·simp at h
  ·split at h
   ·split at h
    ·simp at h
    ·simp at h;subst h;simp[bG,aR]at he
   ·simp at h
  ·split at h
   ·split at h
    ·simp at h
    ·simp at h;subst h;simp[bG,aR]at he
   ·simp at h
  ·simp at h
 · -- cap
  rename_i t r x hts has
  split at h
  ·rename_i e ht
   simp only[Option.map_eq_some_iff]at h
   obtain⟨tx,hx,rfl⟩:=h
   refine⟨rfl,?_⟩
   rcases he with he|he
   ·simp only[bG,Option.map_eq_some_iff]at he
    obtain⟨n,hn,rfl⟩:=he
    have h1:=hv x tx (by simp[bC]) hx
    refine .pure rfl ms (v':=.int .i64 n) ?_ (.iv _ (.int _ _))
    have ha:=bGu has a
    have hcr:(Builtin.cap_ c.argTypes ty #[a.eval x]).run P w=.ok (.int .i64 n) w:=by
     have:=bDr (P:=P) (w:=w) (ty:=ty) h1 hn ht
     simp only[Builtin.cap_]at this ⊢
     rw[xZ hts]
     simpa using this
    simp[Go.builtin,ha,hcr]
   ·simp[aR]at he
  ·simp at h
 · -- len
  rename_i t r x hts has
  have ha:=bGu has a
  have key:∀ {tx:aE} {k:NK},opd A dsts x=some tx->(match k with | .str=>P.underlying t=some .string | .sl=>∃e,P.underlying t=some (.slice e) | .mp=>∃k e,P.underlying t=some (.map k e))->top=.len k tx ->
    aS top=none∧dF P O K top M J L S env w (Go.builtin .len c.argTypes ty consts (c.args.map a.eval)) v env S:=by
   intro tx k hx ht htop
   subst htop
   refine⟨rfl,?_⟩
   rcases he with he|he
   ·simp[bG]at he
   ·simp only[aR]at he
    split at he
    ·rename_i hk
     simp only[Option.map_eq_some_iff]at he
     obtain⟨n,hn,rfl⟩:=he
     have h1:=hv x tx (by simp[bC]) hx
     refine .pure rfl ms (v':=.int .i64 n) ?_ (.iv _ (.int _ _))
     have hcr:(Builtin.len_ c.argTypes ty #[a.eval x]).run P w=.ok (.int .i64 n) w:=by
      have:=bDq (P:=P) (ty:=ty) (t:=t) ms h1 hn (by rw[hk];exact ht)
      simp only[Builtin.len_]at this ⊢
      rw[xZ hts]
      simpa using this
     simp[Go.builtin,ha,hcr]
    ·simp at he
  have keyC:∀ {n:Nat},(P.underlying t=some (.array n (0:TypeId))∨(∃e,P.underlying t=some (.array n e))∨∃p e,P.underlying t=some (.pointer p)∧P.underlying p=some (.array n e))->top=.lenC n ->
    aS top=none∧dF P O K top M J L S env w (Go.builtin .len c.argTypes ty consts (c.args.map a.eval)) v env S:=by
   intro n ht htop
   subst htop
   refine⟨rfl,?_⟩
   have hvv:v=.iv (.int .i64 n):=by
    rcases he with he|he
    ·simp[bG]at he;exact he.symm
    ·simp[aR]at he
   subst hvv
   refine .pure rfl ms (v':=.int .i64 n) ?_ (.iv _ (.int _ _))
   rcases ht with ht|⟨e,ht⟩|⟨p,e,ht,hp⟩
   ·simp[Go.builtin,ha,Builtin.len_,xZ hts,und ht,goInt]
   ·simp[Go.builtin,ha,Builtin.len_,xZ hts,und ht,goInt]
   ·simp[Go.builtin,ha,Builtin.len_,xZ hts,und ht,und hp,goInt]
  split at h
  ·rename_i ht
   simp only[Option.map_eq_some_iff]at h
   obtain⟨tx,hx,rfl⟩:=h
   exact key (k:=.str) hx ht rfl
  ·rename_i e ht
   simp only[Option.map_eq_some_iff]at h
   obtain⟨tx,hx,rfl⟩:=h
   exact key (k:=.sl) hx ⟨e,ht⟩ rfl
  ·rename_i kt e ht
   simp only[Option.map_eq_some_iff]at h
   obtain⟨tx,hx,rfl⟩:=h
   exact key (k:=.mp) hx ⟨kt,e,ht⟩ rfl
  ·rename_i n e ht
   simp at h;subst h
   exact keyC (.inr (.inl ⟨e,ht⟩)) rfl
  ·rename_i p ht
   split at h
   ·rename_i n e hp
    simp at h;subst h
    exact keyC (.inr (.inr ⟨p,e,ht,hp⟩)) rfl
   ·simp at h
  ·simp at h
 · -- min
  simp only[Option.map_eq_some_iff]at h
  obtain⟨txs,hxs,rfl⟩:=h
  refine⟨rfl,?_⟩
  have hvs:=mD hxs (fun x tx hm=>hv x tx (by simpa[bC] using hm))
  rcases he with he|he
  ·simp only[bG]at he
   split at he
   ·rename_i a0 r hr
    simp only[Option.map_eq_some_iff]at he
    obtain⟨m,hm,rfl⟩:=he
    rw[hr]at hvs
    obtain⟨u,us,hus,h1,h2⟩:=hvs.cons_inv
    obtain⟨q,h3,h4⟩:=vG (P:=P) (w:=w) false hm h1.iv_inv h2
    refine .pure rfl ms (v':=q) ?_ (.iv _ h4)
    simp only[Bool.false_eq_true,if_false]at h3
    simp[Go.builtin,Builtin.min_,hus,h3]
   ·simp at he
  ·simp[aR]at he
 · -- max
  simp only[Option.map_eq_some_iff]at h
  obtain⟨txs,hxs,rfl⟩:=h
  refine⟨rfl,?_⟩
  have hvs:=mD hxs (fun x tx hm=>hv x tx (by simpa[bC] using hm))
  rcases he with he|he
  ·simp only[bG]at he
   split at he
   ·rename_i a0 r hr
    simp only[Option.map_eq_some_iff]at he
    obtain⟨m,hm,rfl⟩:=he
    rw[hr]at hvs
    obtain⟨u,us,hus,h1,h2⟩:=hvs.cons_inv
    obtain⟨q,h3,h4⟩:=vG (P:=P) (w:=w) true hm h1.iv_inv h2
    refine .pure rfl ms (v':=q) ?_ (.iv _ h4)
    simp only[if_true]at h3
    simp[Go.builtin,Builtin.max_,hus,h3]
   ·simp at he
  ·simp[aR]at he
 ·simp at h
theorem aYa {o:Oper}{top:TOp}(hc:cP P O A dsts slot o.op top)(a:Act)(h:MS P O K M J L S env w){ev:aE->TV}(hv:aG2 A dsts M J L ev a top){v:TV}
  (he:bG top ev=some v∨aR top ev env S=some v):aS top=none∧dF P O K top M J L S env w (execOp a.eval o) v env S:=by
 generalize hop:o.op=op at hc
 cases hc with
 | mov x tx hx =>
  refine⟨rfl,?_⟩
  simp[bG,aR]at he;subst he
  exact aQh (.inl hop) a h (hv x tx (by simp[bC]) hx)
 | assign x tx hx =>
  refine⟨rfl,?_⟩
  simp[bG,aR]at he;subst he
  exact aQh (.inr hop) a h (hv x tx (by simp[bC]) hx)
 | pick c x y tc tx ty hc hx hy =>
  refine⟨rfl,?_⟩
  rcases he with he|he
  ·simp only[bG]at he
   split at he
   ·rename_i t ht
    simp at he;subst he
    exact aXw hop a h (hv c tc (by simp[bC]) hc) (hv x tx (by simp[bC]) hx) (hv y ty (by simp[bC]) hy) ht
   ·simp at he
  ·simp[aR]at he
 | allocL t z j hz hj=>simp[bG,aR]at he
 | allocH t z hz=>simp[bG,aR]at he
 | boxL t x tx j hx hj=>simp[bG,aR]at he
 | boxH t x tx hx=>simp[bG,aR]at he
 | buildS t ps z fs tps hz ht hpl hps =>
  refine⟨rfl,?_⟩
  rcases he with he|he
  ·simp only[bG,Option.map_eq_some_iff]at he
   obtain⟨cs,hcs,rfl⟩:=he
   obtain⟨hl,hg⟩:=aFa hps
   refine aE9 hop hz (ev:=ev) (tps:=tps) a h (by simpa using hl) (fun k p u hp hu=>?_) (.inl ⟨fs,ht,hpl⟩) hcs rfl
   obtain⟨e1,f,e2,e3,e4⟩:=hg k p u hp (by simpa using hu)
   exact⟨hv u.2 p.2.2 (by simp only[bC,List.mem_map];exact⟨p,List.mem_of_getElem? hp,rfl⟩) e1,.inl ⟨fs,f,ht,hpl,e2,e3,e4⟩⟩
  ·simp[aR]at he
 | buildA t el k n ps z tps hz ht hn hps =>
  refine⟨rfl,?_⟩
  rcases he with he|he
  ·simp only[bG,Option.map_eq_some_iff]at he
   obtain⟨cs,hcs,rfl⟩:=he
   obtain⟨hl,hg⟩:=aCi hps
   refine aE9 hop hz (ev:=ev) (tps:=tps) a h (by simpa using hl) (fun i p u hp hu=>?_) (.inr ⟨k,el,n,ht,hn⟩) hcs rfl
   obtain⟨e1,e2,e3⟩:=hg i p u hp (by simpa using hu)
   exact⟨hv u.2 p.2.2 (by simp only[bC,List.mem_map];exact⟨p,List.mem_of_getElem? hp,rfl⟩) e1,.inr ⟨k,el,ht,by rw[e2];exact hn,by rw[e2];exact e3⟩⟩
  ·simp[aR]at he
 | lit mu t el len ps z tps ht hz hz0 hbig hps =>
  refine⟨rfl,?_⟩
  rcases he with he|he
  ·cases mu with
   | true=>simp[bG]at he
   | false =>
    simp only[bG]at he
    split at he
    ·rename_i es hes
     simp only[Option.map_eq_some_iff]at he
     obtain⟨l,hl,rfl⟩:=he
     obtain⟨hln,hg⟩:=vI hps
     obtain⟨cells,h1,h2,h3,h4⟩:=aQk (P:=P) (w:=w) (M:=M) (J:=J) (L:=L) hop ht hz hz0 hbig (ev:=ev) (tps:=tps) a (by simpa using hln) (fun k p u hp hu=>by
      obtain⟨e1,e2⟩:=hg k p u hp (by simpa using hu)
      exact⟨e2,hv u.2 p.2 (by simp only[bC,List.mem_map];exact⟨p,List.mem_of_getElem? hp,rfl⟩) e1⟩) hes
     obtain⟨M',h5,h6,h7⟩:=aX5 h el h1 h2 hl
     exact .mk0 rfl h4 (.inl ⟨_,rfl,h5⟩) h6 h7 (.refl _)
    ·simp at he
  ·simp[aR]at he
 | load1 t x tx n hag hn hx =>
  refine⟨rfl,?_⟩
  rcases he with he|he
  ·simp[bG]at he
  ·simp only[aR]at he
   split at he
   ·rename_i cs hcs
    exact aI9 hop hag hn a h (hv x tx (by simp[bC]) hx) (by simpa using hcs) he rfl
   ·simp at he
 | loadN t x tx n hag hn hx =>
  refine⟨rfl,?_⟩
  rcases he with he|he
  ·simp[bG]at he
  ·simp only[aR]at he
   split at he
   ·rename_i cs hcs
    exact aI9 hop hag hn a h (hv x tx (by simp[bC]) hx) (by simpa using hcs) he rfl
   ·simp at he
 | store t x y tx ty n hn hx hy=>simp[bG,aR]at he
 | nilCheck x tx hx =>
  refine⟨rfl,?_⟩
  rcases he with he|he
  ·simp only[bG]at he
   split at he
   ·rename_i hp
    simp at he;subst he
    exact aGr hop a h (hv x tx (by simp[bC]) hx) hp
   ·simp at he
  ·simp[aR]at he
 | bin op t u x y tx ty hx hy =>
  refine⟨rfl,?_⟩
  rcases he with he|he
  ·simp only[bG,Option.map_eq_some_iff]at he
   obtain⟨r,hr,rfl⟩:=he
   exact bDn hop a h (hv x tx (by simp[bC]) hx) (hv y ty (by simp[bC]) hy) hr
  ·simp[aR]at he
 | eqB op t u x y tx ty k ho hk hx hy =>
  refine⟨rfl,?_⟩
  rcases he with he|he
  ·simp only[bG,Option.map_eq_some_iff]at he
   obtain⟨r,hr,rfl⟩:=he
   exact bDo hop ho hk a h (hv x tx (by simp[bC]) hx) (hv y ty (by simp[bC]) hy) hr
  ·simp[aR]at he
 | eqAgg op t u x y tx ty offs ho hk hx hy =>
  refine⟨rfl,?_⟩
  rcases he with he|he
  ·simp only[bG,Option.map_eq_some_iff]at he
   obtain⟨r,hr,rfl⟩:=he
   exact aRx hop ho hk a h (hv x tx (by simp[bC]) hx) (hv y ty (by simp[bC]) hy) hr
  ·simp[aR]at he
 | un op t x tx hx =>
  refine⟨rfl,?_⟩
  rcases he with he|he
  ·simp only[bG,Option.map_eq_some_iff]at he
   obtain⟨r,hr,rfl⟩:=he
   exact bIs hop a h (hv x tx (by simp[bC]) hx) hr
  ·simp[aR]at he
 | toInt s d x tx k0 k hs hd hx =>
  refine⟨rfl,?_⟩
  rcases he with he|he
  ·simp only[bG,Option.map_eq_some_iff]at he
   obtain⟨r,hr,rfl⟩:=he
   exact aB3 hop hs hd a h (hv x tx (by simp[bC]) hx) hr
  ·simp[aR]at he
 | intStr s d x tx k0 hs hd hx =>
  refine⟨rfl,?_⟩
  rcases he with he|he
  ·simp only[bG,Option.map_eq_some_iff]at he
   obtain⟨r,hr,rfl⟩:=he
   exact aAd hop hs hd a h (hv x tx (by simp[bC]) hx) hr
  ·simp[aR]at he
 | strStr s d x tx hs hd hx =>
  refine⟨rfl,?_⟩
  rcases he with he|he
  ·simp only[bG,Option.map_eq_some_iff]at he
   obtain⟨r,hr,rfl⟩:=he
   exact aAe hop hs hd a h (hv x tx (by simp[bC]) hx) hr
  ·simp[aR]at he
 | strBytes s d e x tx hs hd hee hx =>
  refine⟨rfl,?_⟩
  rcases he with he|he
  ·simp only[bG,Option.map_eq_some_iff]at he
   obtain⟨r,hr,rfl⟩:=he
   exact aGz hop hs hd hee a h (hv x tx (by simp[bC]) hx) hr rfl
  ·simp[aR]at he
 | bytesStr s d e x tx hs hd hee hx =>
  refine⟨rfl,?_⟩
  rcases he with he|he
  ·simp[bG,dB]at he
  ·simp only[aR]at he
   split at he
   ·rename_i l hl
    simp only[Option.map_eq_some_iff]at he
    obtain⟨b,hb,rfl⟩:=he
    exact aGv hop hs hd hee a h (hv x tx (by simp[bC]) hx) hl hb rfl
   ·simp at he
 | mkFn f first cap xs ys hx hy =>
  refine⟨rfl,?_⟩
  rcases he with he|he
  ·simp only[bG]at he
   split at he
   ·simp at he
   ·rename_i hn
    simp at he;subst he
    have h1:=mD hx (L:=L) (M:=M) (J:=J) (a:=a) (ev:=ev) (fun x tx hm=>hv x tx (by simp[bC,hm]))
    have h2:=mD hy (L:=L) (M:=M) (J:=J) (a:=a) (ev:=ev) (fun x tx hm=>hv x tx (by simp[bC,hm]))
    exact aX9 hop a h (by simpa using h1) (by simpa using h2) (by simpa using hn) rfl
  ·simp[aR]at he
 | mkMap t kt el ht=>simp[bG,aR]at he
 | slice t k x lo hi mx tx tlo thi tmx ht hx h1 h2 h3 =>
  refine⟨rfl,?_⟩
  rcases he with he|he
  ·simp[bG]at he
  ·simp only[aR]at he
   split at he
   ·rename_i lo' hi' mx' e1 e2 e3
    have o1:=aG3 (M:=M) (J:=J) (L:=L) h1 (a:=a) (fun y ty hm=>hv y ty (by simp only[bC,List.mem_cons,List.mem_append];right;left;left;exact hm)) e1
    have o2:=aG3 (M:=M) (J:=J) (L:=L) h2 (a:=a) (fun y ty hm=>hv y ty (by simp only[bC,List.mem_cons,List.mem_append];right;left;right;exact hm)) e2
    have o3:=aG3 (M:=M) (J:=J) (L:=L) h3 (a:=a) (fun y ty hm=>hv y ty (by simp only[bC,List.mem_cons,List.mem_append];right;right;exact hm)) e3
    obtain⟨u,hr,hu⟩:=aX1 h ht (hv x tx (by simp[bC]) hx) he o1 o2 o3
    refine .pure rfl h (v':=u) ?_ hu
    simp[execOp,hop,hr]
   ·simp at he
 | fieldAddr t x f fs fd n tx ht hf hn hn0 hx =>
  refine⟨rfl,?_⟩
  rcases he with he|he
  ·exact aDv hop ht hf hn hn0 a h (hv x tx (by simp[bC]) hx) he
  ·simp[aR]at he
 | field t x f fs fd n ag tx ht hf hn hag hx =>
  refine⟨rfl,?_⟩
  rcases he with he|he
  ·simp only[bG]at he
   split at he
   ·rename_i all hall
    split at he
    ·rename_i cs hcs
     exact aRy hop ht hf hn hag a h (hv x tx (by simp[bC]) hx) hall hcs he
    ·simp at he
   ·simp at he
  ·simp[aR]at he
 | indexAddrS t el x i n tx ti ht hn hx hi =>
  refine⟨rfl,?_⟩
  rcases he with he|he
  ·simp only[bG]at he
   split at he
   ·rename_i k hk
    exact aB5 hop ht hn a h (hv x tx (by simp[bC]) hx) (hv i ti (by simp[bC]) hi) hk he
   ·simp at he
  ·simp[aR]at he
 | indexAddrA t el x i len n tx ti ht hn hx hi =>
  refine⟨rfl,?_⟩
  rcases he with he|he
  ·simp only[bG]at he
   split at he
   ·rename_i k hk
    split at he
    ·rename_i hb
     exact aB4 hop ht hn a h (hv x tx (by simp[bC]) hx) (hv i ti (by simp[bC]) hi) hk hb he
    ·simp at he
   ·simp at he
  ·simp[aR]at he
 | indexS t x i tx ti ht hx hi =>
  refine⟨rfl,?_⟩
  rcases he with he|he
  ·simp only[bG]at he
   split at he
   ·rename_i s k hs hk
    split at he
    ·rename_i h0
     simp only[Option.map_eq_some_iff]at he
     obtain⟨b,hb,rfl⟩:=he
     have hx':=hv x tx (by simp[bC]) hx
     rw[hs]at hx'
     exact aMr hop ht a h hx' (hv i ti (by simp[bC]) hi) hk h0 hb
    ·simp at he
   ·simp at he
  ·simp[aR]at he
 | indexA t el x i len n ag tx ti ht hn hag hx hi =>
  refine⟨rfl,?_⟩
  rcases he with he|he
  ·simp only[bG]at he
   split at he
   ·rename_i k hk
    split at he
    ·rename_i hb
     split at he
     ·rename_i all hall
      split at he
      ·rename_i cs hcs
       exact aMs hop ht hn hag a h (hv x tx (by simp[bC]) hx) (hv i ti (by simp[bC]) hi) hk hb hall hcs he
      ·simp at he
     ·simp at he
    ·simp at he
   ·simp at he
  ·simp[aR]at he
 | lookup t kt el m k ok kk zi tm tk ht hkk hz hm hk =>
  refine⟨rfl,?_⟩
  rcases he with he|he
  ·simp[bG]at he
  ·simp only[aR]at he
   split at he
   ·rename_i ki hki
    split at he
    ·simp at he
    ·rename_i hko
     have h1:=hv m tm (by simp[bC]) hm
     have h2:=hv k tk (by simp[bC]) hk
     have look:∀ {res:Option (Nat×TV)},qI kk S (ev tm) ki=some res->(ev tm=.iv .nilm∧res=none)∨∃j es clock,ev tm=.map j∧S[j]? = some (.mp es clock)∧findKey kk ki es 0=some res:=by
      intro res hl
      unfold qI at hl
      split at hl
      ·rename_i e
       simp at hl
       exact .inl ⟨e,hl.symm⟩
      ·rename_i j e
       split at hl
       ·rename_i es clock hs
        exact .inr ⟨j,es,clock,e,hs,hl⟩
       ·simp at hl
      ·simp at hl
     split at he
     ·rename_i n x hl
      exact aCf hop ht hkk hz a h h1 h2 hki (by simpa using hko) (look hl) (by simpa using he.symm) rfl
     ·rename_i hl
      exact aCf hop ht hkk hz a h h1 h2 hki (by simpa using hko) (look hl) (by simpa using he.symm) rfl
     ·simp at he
   ·simp at he
 | update t kt el m k v kk tm tk tv ht hkk hm hk hv'=>simp[bG,aR]at he
 | rangeS t x tx ht hx=>simp[bG,aR]at he
 | nextS x tx hx=>simp[bG,aR]at he
 | extract x tx i hx =>
  refine⟨rfl,?_⟩
  rcases he with he|he
  ·simp only[bG]at he
   split at he
   ·rename_i vs hvs
    have h1:=hv x tx (by simp[bC]) hx
    rw[hvs]at h1
    exact aI6 hop a h h1 he
   ·simp at he
  ·simp[aR]at he
 | builtin mu c b top hc hb=>exact bDz hop hc hb a h hv he
 | call pure trunc c f fn args hc hfn hb hng ha=>simp[bG,aR]at he
 | prim c f args hc ha=>simp[bG,aR]at he
 | callv c x tx args hc hx ha=>simp[bG,aR]at he
theorem wT {mu:Bool}{b:Builtin}{ts:List TypeId}{xs:List Operand}{top:TOp}(h:fO P A mu dsts b ts xs=some top)(ev:aE->TV)(n:Nat):bZ top ev n=none:=by
 unfold fO at h
 repeat' split at h
 all_goals first
  | (simp at h;done)
  | (simp at h;subst h;simp[bZ];done)
  | (simp only[Option.map_eq_some_iff]at h;obtain⟨q,_,rfl⟩:=h;simp[bZ];done)
theorem aQl {o:Oper}{top:TOp}(hc:cP P O A dsts slot o.op top)(a:Act)(h:MS P O K M J L S env w){ev:aE->TV}(hv:aG2 A dsts M J L ev a top){n:Nat}{v:TV}{b:aP}
  (he:bZ top ev n=some (v,b)):aS top=none∧∃vf:Nat->TV,(∀m,bZ top ev m=some (vf m,b))∧∃ob vm l,aR2 P O M J w ((execOp a.eval o).run P w) vf b ob vm l:=by
 generalize hop:o.op=op at hc
 cases hc with
 | allocH t z hz =>
  simp only[bZ,Option.some.injEq,Prod.mk.injEq]at he
  obtain⟨rfl,rfl⟩:=he
  obtain⟨i,zv,_,_,_,h4,h5,h6⟩:=jO hz
  exact⟨rfl,fun m=>.ptr m (t+1) 0,fun m=>rfl,aCh h.wr t (t+1) (fun _=>rfl) (aB8 h4 h6) (aE4 hop h5 a)⟩
 | boxH t x tx hx =>
  simp only[bZ]at he
  split at he
  ·simp at he
  ·rename_i hr
   simp only[Option.some.injEq,Prod.mk.injEq]at he
   obtain⟨rfl,rfl⟩:=he
   exact⟨rfl,fun m=>.ptr m (t+1) 0,fun m=>by simp[bZ,hr],aCh h.wr t (t+1) (fun _=>rfl) (sB (hv x tx (by simp[bC]) hx) (by simpa using hr)) (aQi hop a)⟩
 | lit mu t el len ps z tps ht hz hz0 hbig hps =>
  simp only[bZ]at he
  split at he
  ·rename_i es hes
   simp only[Option.some.injEq,Prod.mk.injEq]at he
   obtain⟨rfl,rfl⟩:=he
   obtain⟨hln,hg⟩:=vI hps
   obtain⟨cells,h1,h2,h3,h4⟩:=aQk (P:=P) (w:=w) (M:=M) (J:=J) (L:=L) hop ht hz hz0 hbig (ev:=ev) (tps:=tps) a (by simpa using hln) (fun k p u hp hu=>by
    obtain⟨e1,e2⟩:=hg k p u hp (by simpa using hu)
    exact⟨e2,hv u.2 p.2 (by simp only[bC,List.mem_map];exact⟨p,List.mem_of_getElem? hp,rfl⟩) e1⟩) hes
   have hsz:cells.size=es.length*z.length:=by
    have:=h2.1
    rw[dX h1]at this
    simpa using this
   obtain⟨e1,e2⟩:=h2.ex
   exact⟨rfl,fun m=>.msl m 0 0 es.length es.length z.length,fun m=>by simp[bZ,hes],aG1 h.wr el e1 e2 (Nat.le_refl _) (by omega) h4⟩
  ·simp at he
 | mkMap t kt el ht =>
  simp only[bZ,Option.some.injEq,Prod.mk.injEq]at he
  obtain⟨rfl,rfl⟩:=he
  exact⟨rfl,fun m=>.map m,fun m=>rfl,bDy hop a⟩
 | builtin mu c b top hc hb=>rw[wT hb]at he;simp at he
 | _=>simp[bZ]at he
theorem tO:VR M J L undef (.tuple #[]):=.tup _ [] #[] rfl (fun i x v hx=>by simp at hx)
theorem bLc {o:Oper}{c:Call}{b:Builtin}{mu:Bool}{top:TOp}(hop:o.op=.call c)(hc:c.callee=.builtin b)(h:fO P A mu dsts b c.argTypes.toList c.args.toList=some top)(a:Act)(ms:MS P O K M J L S env w){ev:aE->TV}
  (hv:aG2 A dsts M J L ev a top) {rs:List TV} {v:TV} (he:iI top ev rs env S=some (v,env',S')):dF P O K top M J L S env w (execOp a.eval o) v env' S':=by
 obtain⟨ty,consts,hrun⟩:=zI hop hc a
 rw[hrun]
 unfold fO at h
 split at h
 · -- append
  rename_i t u r s x hts has
  have ha:=bLb has a
  have t0:=xZ hts
  have t1:=bIt hts
  split at h
  ·rename_i e k ht hu
   split at h
   ·rename_i z bytes ts' tx' hz hby hs hx
    split at h
    ·simp at h
    ·rename_i hne
     rw[not_or]at hne
     simp at h;subst h
     simp only[iI]at he
     split at he
     ·rename_i n hn
      split at he
      ·rename_i r' S2 hg
       simp only[Option.some.injEq,Prod.mk.injEq]at he
       obtain⟨rfl,rfl,rfl⟩:=he
       obtain⟨k',hk'⟩:=pS hn (hv x tx' (by simp[bC]) hx)
       obtain⟨rv,w',M',J',h1,h2,h3,h4⟩:=bDv (ty:=ty) (k':=k') ms t0 t1 ht hu hz hne.1 hby hne.2 (hv s ts' (by simp[bC]) hs) hg
       refine .mk0 rfl (r:=.value rv) ?_ (.inl ⟨rv,rfl,h2⟩) h3 h4 (.refl _)
       rw[<-hk']at h1
       simp[Go.builtin,ha,h1]
      ·simp at he
     ·simp at he
   ·simp at h
  ·rename_i e e2 ht hu
   split at h
   ·rename_i z bytes ts' tx' hz hby hs hx
    split at h
    ·simp at h
    ·rename_i hne
     rw[not_or]at hne
     simp at h;subst h
     simp only[iI]at he
     split at he
     ·rename_i r' S2 hg
      simp only[Option.some.injEq,Prod.mk.injEq]at he
      obtain⟨rfl,rfl,rfl⟩:=he
      obtain⟨rv,w',M',J',h1,h2,h3,h4⟩:=aE6 (ty:=ty) ms t0 t1 ht (.inl ⟨e2,hu⟩) hz hne.1 hby hne.2 (hv s ts' (by simp[bC]) hs) (hv x tx' (by simp[bC]) hx) hg
      refine .mk0 rfl (r:=.value rv) ?_ (.inl ⟨rv,rfl,h2⟩) h3 h4 (.refl _)
      simp[Go.builtin,ha,h1]
     ·simp at he
   ·simp at h
  ·rename_i e ht hu
   split at h
   ·rename_i z bytes ts' tx' hz hby hs hx
    split at h
    ·simp at h
    ·rename_i hne
     rw[not_or]at hne
     simp at h;subst h
     simp only[iI]at he
     split at he
     ·rename_i r' S2 hg
      simp only[Option.some.injEq,Prod.mk.injEq]at he
      obtain⟨rfl,rfl,rfl⟩:=he
      obtain⟨rv,w',M',J',h1,h2,h3,h4⟩:=aE6 (ty:=ty) ms t0 t1 ht (.inr hu) hz hne.1 hby hne.2 (hv s ts' (by simp[bC]) hs) (hv x tx' (by simp[bC]) hx) hg
      refine .mk0 rfl (r:=.value rv) ?_ (.inl ⟨rv,rfl,h2⟩) h3 h4 (.refl _)
      simp[Go.builtin,ha,h1]
     ·simp at he
   ·simp at h
  ·simp at h
 · -- cap
  split at h
  ·simp only[Option.map_eq_some_iff]at h
   obtain⟨q,_,rfl⟩:=h
   simp[iI]at he
  ·simp at h
 · -- len
  repeat' split at h
  all_goals first
   | (simp at h;done)
   | (simp at h;subst h;simp[iI]at he;done)
   | (simp only[Option.map_eq_some_iff]at h;obtain⟨q,_,rfl⟩:=h;simp[iI]at he;done)
 ·simp only[Option.map_eq_some_iff]at h
  obtain⟨q,_,rfl⟩:=h
  simp[iI]at he
 ·simp only[Option.map_eq_some_iff]at h
  obtain⟨q,_,rfl⟩:=h
  simp[iI]at he
 ·simp at h
theorem bIu {o:Oper}{top:TOp}(hc:cP P O A dsts slot o.op top)(a:Act)(h:MS P O K M J L S env w){ev:aE->TV}(hv:aG2 A dsts M J L ev a top){rs:List TV}{v:TV}
  (he:iI top ev rs env S=some (v,env',S')):dF P O K top M J L S env w (execOp a.eval o) v env' S':=by
 generalize hop:o.op=op at hc
 cases hc with
 | allocL t z j hz hj =>
  simp only[iI]at he
  split at he
  ·simp at he
  ·rename_i hcond
   simp only[Option.some.injEq,Prod.mk.injEq]at he
   obtain⟨rfl,rfl,rfl⟩:=he
   obtain⟨i,zv,_,_,_,h4,h5,h6⟩:=jO hz
   have hjl:j<env.length:=by simp at hcond;exact hcond.2
   exact aB9 h t (aB8 h4 h6) hjl rfl (aE4 hop h5 a)
 | boxL t x tx j hx hj =>
  simp only[iI]at he
  split at he
  ·simp at he
  ·rename_i hcond
   simp only[Option.some.injEq,Prod.mk.injEq]at he
   obtain⟨rfl,rfl,rfl⟩:=he
   simp only[Bool.or_eq_true,not_or]at hcond
   have hjl:j<env.length:=by simpa using hcond.2
   exact aB9 h t (sB (hv x tx (by simp[bC]) hx) (by simpa using hcond.1.1)) hjl rfl (aQi hop a)
 | store t x y tx ty n hn hx hy =>
  simp only[iI]at he
  split at he
  ·rename_i hl
   split at he
   ·rename_i env2 S2 hs
    simp only[Option.some.injEq,Prod.mk.injEq]at he
    obtain⟨rfl,rfl,rfl⟩:=he
    exact aRz hop hn a h (hv x tx (by simp[bC]) hx) (hv y ty (by simp[bC]) hy) hl hs rfl
   ·simp at he
  ·simp at he
 | update t kt el m k v' kk tm tk tv ht hkk hm hk hv' =>
  have h2:=hv k tk (by simp[bC]) hk
  have h3:=hv v' tv (by simp[bC]) hv'
  have h1:=hv m tm (by simp[bC]) hm
  simp only[iI]at he
  split at he
  ·rename_i ki j hki hj
   rw[hj]at h1
   split at he
   ·simp at he
   ·rename_i hko
    split at he
    ·rename_i es clock hs
     split at he
     ·simp at he
     ·rename_i hlp
      split at he
      ·rename_i n y hf
       split at he
       ·simp at he
       ·rename_i hsame
        simp only[Option.some.injEq,Prod.mk.injEq]at he
        obtain⟨rfl,rfl,rfl⟩:=he
        exact aCg (.inl hop) ht hkk a h h1 h2 h3 (by simpa using hlp) hki (by simpa using hko) hs hf ⟨by simpa using hsame,rfl⟩ rfl
      ·rename_i hf
       simp only[Option.some.injEq,Prod.mk.injEq]at he
       obtain⟨rfl,rfl,rfl⟩:=he
       exact aCg (.inl hop) ht hkk a h h1 h2 h3 (by simpa using hlp) hki (by simpa using hko) hs hf rfl rfl
      ·simp at he
    ·simp at he
  ·simp at he
 | rangeS t x tx ht hx =>
  have h1:=hv x tx (by simp[bC]) hx
  simp only[iI]at he
  split at he
  ·rename_i s _ hs
   rw[hs]at h1
   simp only[Option.some.injEq,Prod.mk.injEq]at he
   obtain⟨rfl,rfl,rfl⟩:=he
   exact aMw hop ht a h h1 rfl
  ·contradiction
  ·contradiction
  ·simp at he
 | nextS x tx hx =>
  have h1:=hv x tx (by simp[bC]) hx
  simp only[iI]at he
  split at he
  ·rename_i j hj
   rw[hj]at h1
   split at he
   ·rename_i s pos hs
    obtain⟨q1,q2⟩:=aR1 (top:=.nextS tx) hop a h h1 hs rfl
    split at he
    ·rename_i hlt
     simp only[Option.some.injEq,Prod.mk.injEq]at he
     obtain⟨rfl,rfl,rfl⟩:=he
     exact q1 hlt
    ·rename_i hlt
     simp only[Option.some.injEq,Prod.mk.injEq]at he
     obtain⟨rfl,rfl,rfl⟩:=he
     exact q2 hlt
   ·simp at he
  ·simp at he
 | builtin mu c b top hc hb=>exact bLc hop hc hb a h hv he
 | _=>simp[iI]at he
end
end Go.TM
namespace Go.TM
open Go
def Out.All {α:Type}(Q:α->Prop):Out α->Prop
 | .ret a=>Q a
 | .fail _=>False
 | .pick n k=>∀i,i<n->(k i).All Q
theorem Out.all_bind {α β:Type}{Q:β->Prop}{f:α->Out β}:∀ {x:Out α},(x.bind f).All Q↔x.All (fun a=>(f a).All Q)
 | .ret _=>Iff.rfl
 | .fail _=>Iff.rfl
 | .pick _ k=>⟨fun h i hi=>(Out.all_bind (x:=k i)).1 (h i hi),fun h i hi=>(Out.all_bind (x:=k i)).2 (h i hi)⟩
theorem Out.all_mono {α:Type}{Q Q':α->Prop}(h:∀a,Q a->Q' a):∀ {x:Out α},x.All Q->x.All Q'
 | .ret _,hx=>h _ hx
 | .fail _,hx=>hx.elim
 | .pick _ _,hx=>fun i hi=>Out.all_mono h (hx i hi)
theorem Out.all_ofOpt {α:Type}{Q:α->Prop}{s:String}{x:Option α}(h:(Out.ofOpt s x).All Q):∃a,x=some a∧Q a:=by
 cases x with
 | none=>exact h.elim
 | some a=>exact⟨a,rfl,h⟩
section
variable (P:Program)(O:dM)(K:TM.bV)
structure dJ (F:Fence):Prop where
 fn:∀f,F.fn f
 depth:F.depth=none
 alive:F.alive=false
theorem dJ.wide:dJ Fence.wide:=⟨fun _=>trivial,rfl,rfl⟩
def iN (M:Mem)(J:aD)(S:aA)(w:World)(Q:TV×aA->Prop):Ending->World->Prop
 | .returned v',w'=>∃v S' M' J',Q (v,S')∧VR M' J' [] v v'∧WR P O M' J' S' w'∧Tr (fun _=>False) M J S w M' J' S' w'
 | _,_=>False
def qO (M:Mem):Prop:=∀g cs,K.glob g=some cs->IR M (.cp cs) (.pointer (some ⟨g,0,none⟩))
def aG4 (f:Nat)(call:List TV->aA->Out (TV×aA)):Prop :=
 ∀(F:Fence),dJ F->∀(n:Nat) (args:List TV) (S:aA) (Q:TV×aA->Prop),(call args S).All Q->∀(M:Mem) (J:aD) (w:World) (vals:List Value),VRs M J [] args vals->WR P O M J S w->qO K M ->
  CallsIn F n P f vals.toArray w (iN P O M J S w Q)
def bGv (i:Nat)(yld:List TV->aA->Out (TV×aA)):Prop :=
 ∀(F:Fence),dJ F->∀(n:Nat) (args:List TV) (S:aA) (Q:TV×aA->Prop),(yld args S).All Q->∀(M:Mem) (J:aD) (w:World) (vals:List Value),VRs M J [] args vals->WR P O M J S w->qO K M ->
  ∀l,J.at i l->∃r:Loop,w.heap[l.cb]? = some (.loop r)∧vals.length=r.params.size ∧
   RoundIn F n P l.cb r.fn ((r.params.zip vals.toArray).foldl (fun tmps (t,a)=>tmps.setIfInBounds t a) r.tmps) r.assign r.body w (iN P O M J S w Q)
end
section
variable {P:Program}{O:dM}{K:TM.bV}
variable {M:Mem}{J:aD}{L:List (Option Nat)}{S S':aA}{env env':Env}{w:World}
def Mem.tell (M:Mem)(Z:Nat->Prop)[DecidablePred Z](w:World):Mem:=fun b o=>if Z b then w.cell? ⟨b,o,none⟩else M b o
theorem Mem.le_tell {Z:Nat->Prop}[DecidablePred Z](h:∀b o v,M b o=some v->w.cell? ⟨b,o,none⟩=some v):MLe M (M.tell Z w):=by
 intro b o v hm
 unfold Mem.tell
 split
 ·exact h b o v hm
 ·exact hm
theorem Mem.tell_cell {Z:Nat->Prop}[DecidablePred Z](h:∀b o v,M b o=some v->w.cell? ⟨b,o,none⟩=some v):∀b o v,M.tell Z w b o=some v->w.cell? ⟨b,o,none⟩=some v:=by
 intro b o v hm
 unfold Mem.tell at hm
 split at hm
 ·exact hm
 ·exact h b o v hm
def oY:TV->List Nat
 | .msl i _ _ _ _ _=>[i]
 | _=>[]
def lG:TV->List Nat
 | .agg cs=>cs.flatMap oY
 | v=>oY v
theorem aQm {Z:Nat->Prop}[DecidablePred Z](h:WR P O M J S w){x:TV}{v:Value}(hv:VR M J L x v){a:IV}(hr:aIy S x=some a)(hz:∀i∈oY x,∀l,J.at i l->Z l.cb):IR (M.tell Z w) a v:=by
 have hle:MLe M (M.tell Z w):=Mem.le_tell h.imm
 have ms:MS P O (⟨fun _=>none,fun _=>none,fun _=>none⟩:TM.bV) M J [] S [] w:=⟨h,⟨rfl,fun j cs hj=>by simp at hj,fun j k cs cs' cb hj=>by simp at hj⟩,fun g cs hg=>by simp at hg⟩
 unfold aIy at hr
 split at hr
 ·rename_i a0
  simp at hr;subst hr
  exact hv.iv_inv.mono hle
 ·rename_i i es
  simp at hr;subst hr
  cases hv with
  | tsl L i es l b o c hj hl hv' ha hr=>exact hr.mono hle
 ·rename_i i ver off len cap es
  split at hr
  ·rename_i l hl
   simp at hr;subst hr
   have hv':VR M J [] (.msl i ver off len cap es) v:=hv.frame rfl
   cases hv with
   | msl L i ver off len cap es loc b o c hj hver ha hlen hlc =>
    have hZ:=hz i (by simp[oY]) loc hj
    have hE:=hl
    rcases zC ms hv' hl with⟨p0,e1,e9⟩|⟨b',o',c',es',e1,e2,e3,e4⟩
    ·simp only[Value.slice.injEq]at e1
     obtain⟨rfl,rfl,rfl⟩:=e1
     subst e9
     exact .slE _ _ (by simp)
    ·simp only[Value.slice.injEq,Option.some.injEq,Addr.mk.injEq]at e1
     obtain⟨⟨rfl,rfl,_⟩,rfl,rfl⟩:=e1
     have hb:b=loc.cb:=by
      simp only[fB]at hE
      split at hE
      ·rename_i v' lo cs hs
       split at hE
       ·simp at hE
       ·rename_i hvv
        have hbr:=h.blk i loc _ hj hs
        cases hbr with
        | cells=>exact(ha (by omega)).1
      ·rename_i v' cs hs
       split at hE
       ·simp at hE
       ·rename_i hvv
        have hbr:=h.blk i loc _ hj hs
        cases hbr with
        | frz=>exact(ha (by omega)).1
      ·simp at hE
     subst hb
     refine aJb (by simp) e3 e2 (fun hf=>by simp at hf) (fun k a hk=>?_)
     obtain⟨u,h1,h2⟩:=e4 k a hk
     exact⟨u,by unfold Mem.tell;rw[if_pos hZ];exact h1,h2.mono hle⟩
  ·simp at hr
 ·simp at hr
theorem aJj {Z:Nat->Prop}[DecidablePred Z](h:WR P O M J S w):∀ {xs:List TV} {vs:List Value} {l:List IV},VRs M J L xs vs->aBw S xs=some l->(∀x∈xs,∀i∈oY x,∀c,J.at i c->Z c.cb) ->
  l.length=vs.length∧∀(i:Nat) (a:IV) (v:Value),l[i]? = some a->vs[i]? = some v->IR (M.tell Z w) a v
 | [],vs,l,hv,hr,_=>by
  rw[hv.nil_inv]
  simp[aBw]at hr;subst hr
  exact⟨rfl,fun i a v h=>by simp at h⟩
 | x::xs,vs,l,hv,hr,hz=>by
  obtain⟨u,us,rfl,h1,h2⟩:=hv.cons_inv
  simp only[aBw]at hr
  split at hr
  ·rename_i a l' e1 e2
   simp at hr;subst hr
   obtain⟨e3,e4⟩:=aJj h h2 e2 (fun y hy=>hz y (by simp[hy]))
   refine⟨by simp[e3],fun i b v hb hv=>?_⟩
   cases i with
   | zero=>simp at hb hv;subst hb;subst hv;exact aQm h h1 e1 (hz x (by simp))
   | succ i=>exact e4 i b v (by simpa using hb) (by simpa using hv)
  ·simp at hr
theorem aG5 {Z:Nat->Prop}[DecidablePred Z](h:WR P O M J S w){x:TV}{v:Value}(hv:VR M J L x v){a:IV}(hr:aGp S x=some a)(hz:∀i∈lG x,∀l,J.at i l->Z l.cb):IR (M.tell Z w) a v:=by
 unfold aGp at hr
 split at hr
 ·rename_i cs
  simp only[Option.map_eq_some_iff]at hr
  obtain⟨l,hl,rfl⟩:=hr
  cases hv with
  | agg L cs vs hs hv =>
   have hvs:VRs M J [] cs vs.toList:=.ofAgg hs hv
   obtain⟨e1,e2⟩:=aJj (Z:=Z) h hvs hl (fun x hx i hi=>hz i (List.mem_flatMap.2 ⟨x,hx,hi⟩))
   exact .agg _ _ (by simpa using e1.symm) (fun i x v hx hv=>e2 i x v hx (by simpa using hv))
 ·rename_i hna
  refine aQm h hv hr (fun i hi=>hz i ?_)
  cases x<;>first|exact hi|exact absurd rfl (hna _)
theorem aJk {Z:Nat->Prop}[DecidablePred Z](h:WR P O M J S w){x:TV}{v:Value}(hv:VR M J L x v){a:TV}(hr:lZ S x=some a)(hz:∀i∈lG x,∀l,J.at i l->Z l.cb):VR (M.tell Z w) [] [] a v:=by
 unfold lZ at hr
 split at hr
 ·rename_i f fst cap
  split at hr
  ·rename_i hc
   simp at hr;subst hr
   simp only[Bool.and_eq_true,List.all_eq_true]at hc
   cases hv with
   | fn L f fst cap fst' cap' h1 h2 hf hcp =>
    have key:∀ {x:TV} {v:Value},aBx x=true->VR M J [] x v->VR (M.tell Z w) [] [] x v:=by
     intro x v hi hx
     cases x<;>simp[aBx]at hi
     exact .iv _ (hx.iv_inv.mono (Mem.le_tell h.imm))
    exact .fn _ f fst cap fst' cap' h1 h2 (fun i x v hx hv=>key (hc.1 x (List.mem_of_getElem? hx)) (hf i x v hx hv)) (fun i x v hx hv=>key (hc.2 x (List.mem_of_getElem? hx)) (hcp i x v hx hv))
  ·simp at hr
 ·simp only[Option.map_eq_some_iff]at hr
  obtain⟨b,hb,rfl⟩:=hr
  exact .iv _ (aG5 h hv hb hz)
theorem oZ {Z:Nat->Prop}[DecidablePred Z](h:WR P O M J S w):∀ {xs:List TV} {vs:List Value} {as:List TV},VRs M J L xs vs->dV S xs=some as->(∀x∈xs,∀i∈lG x,∀c,J.at i c->Z c.cb) ->
  VRs (M.tell Z w) [] [] as vs
 | [],vs,as,hv,hr,_=>by
  rw[hv.nil_inv]
  simp[dV]at hr;subst hr
  exact .nil
 | x::xs,vs,as,hv,hr,hz=>by
  obtain⟨u,us,rfl,h1,h2⟩:=hv.cons_inv
  simp only[dV]at hr
  split at hr
  ·rename_i a l' e1 e2
   simp at hr;subst hr
   exact .cons (aJk h h1 e1 (hz x (by simp))) (oZ h h2 e2 (fun y hy=>hz y (by simp[hy])))
  ·simp at hr
theorem WR.empty {M:Mem}{w:World}(h:∀b o v,M b o=some v->w.cell? ⟨b,o,none⟩=some v):WR P O M [] [] w :=
 ⟨rfl,h,fun i l s hl=>by simp[aD.at]at hl,fun i k l l' hl=>by simp[aD.at]at hl,fun i l hl=>by simp[aD.at]at hl⟩
theorem aFb {Z:Nat->Prop}[DecidablePred Z](h:WR P O M J S w)(hz:∀i l,J.at i l->Z l.cb):∀ {xs:List TV} {vs:List Value} {as:List TV},VRs M J L xs vs->wC S xs=some as->VRs (M.tell Z w) [] [] as vs
 | [],vs,as,hv,hr=>by
  rw[hv.nil_inv]
  simp[wC]at hr;subst hr
  exact .nil
 | x::xs,vs,as,hv,hr=>by
  obtain⟨u,us,rfl,h1,h2⟩:=hv.cons_inv
  simp only[wC]at hr
  split at hr
  ·rename_i a l' e1 e2
   simp at hr;subst hr
   exact .cons (.iv _ (aG5 h h1 e1 (fun i _ l hl=>hz i l hl))) (aFb h hz h2 e2)
  ·simp at hr
theorem aCj {Z:Nat->Prop}[DecidablePred Z](h:WR P O M J S w)(hz:∀i l,J.at i l->Z l.cb){x r:TV}{v:Value}(hv:VR M J [] x v)(hr:resolve S x=some r):VR (M.tell Z w) [] [] r v:=by
 unfold resolve at hr
 split at hr
 ·rename_i vs
  simp only[Option.map_eq_some_iff]at hr
  obtain⟨as,has,rfl⟩:=hr
  cases hv with
  | tup L cs vs hs hv =>
   have:=aFb h hz (.ofAgg hs hv) has
   exact .tup _ _ _ (by simpa using this.1) (fun i x v hx hv=>this.2 i x v hx (by simpa using hv))
 ·simp only[Option.map_eq_some_iff]at hr
  obtain⟨b,hb,rfl⟩:=hr
  exact .iv _ (aG5 h hv hb (fun i _ l hl=>hz i l hl))
theorem IR.scalar {M M':Mem}{a:IV}{v:Value}(h:IR M a v)(hs:iS a=true):IR M' a v:=by
 cases h with
 | bool b=>exact .bool b
 | int k n=>exact .int k n
 | str s=>exact .str s
 | nilp=>exact .nilp
 | nilm=>exact .nilm
 | nilf=>exact .nilf
 | nili=>exact .nili
 | slNil=>simp[iS]at hs
 | slE t a ht=>simp[iS]at hs
 | sl t l b off cap es vals ht hes hcap hfull hm hv=>simp[iS]at hs
 | cp cs b off vals hm hv=>simp[iS]at hs
 | agg cs vs hsz hv =>
  refine .agg cs vs hsz (fun i x u hx hu=>?_)
  have h1:=hv i x u hx hu
  simp only[iS,List.all_eq_true]at hs
  have h2:=hs x (List.mem_of_getElem? hx)
  cases h1 with
  | bool b=>exact .bool b
  | int k n=>exact .int k n
  | str s=>exact .str s
  | _=>simp at h2
theorem VR.scalar {M M':Mem}{J J':aD}{L L':List (Option Nat)}{x:TV}{v:Value}(h:VR M J L x v)(hs:jG x=true):VR M' J' L' x v:=by
 cases h with
 | iv L h=>exact .iv _ (h.scalar (by simpa[jG] using hs))
 | tup L cs vs hsz hv =>
  refine .tup _ cs vs hsz (fun i x u hx hu=>?_)
  simp only[jG,List.all_eq_true]at hs
  have h2:=hs x (List.mem_of_getElem? hx)
  have h1:=hv i x u hx hu
  cases h1 with
  | iv L h=>exact .iv _ (h.scalar (by simpa using h2))
  | _=>simp at h2
 | _=>simp[jG]at hs
end
end Go.TM
namespace Go.TM
open Go
section
variable {P:Program}{O:dM}{K:TM.bV}
variable {M:Mem}{J:aD}{L:List (Option Nat)}{S S':aA}{env env':Env}{w:World}
theorem aG6 {S2:aA}{i:Nat}(h:wE S i=some S2):S2.length=S.length∧(∀k,k≠i->S2[k]? = S[k]?) ∧
  ∃v l,S2[i]? = some (.frz v l)∧((∃lo cs,S[i]? = some (.cells v lo cs)∧toIVs cs=some l)∨S[i]? = some (.frz v l)):=by
 unfold wE at h
 split at h
 ·rename_i v lo cs hs
  simp only[Option.map_eq_some_iff]at h
  obtain⟨l,hl,rfl⟩:=h
  exact⟨by simp,fun k hk=>by rw[List.getElem?_set_ne (by omega)],v,l,List.getElem?_set_self (List.getElem?_eq_some_iff.1 hs).1,.inl ⟨lo,cs,hs,hl⟩⟩
 ·rename_i v l hs
  simp at h;subst h
  exact⟨rfl,fun k _=>rfl,v,l,hs,.inr hs⟩
 ·simp at h
def pA (S S2:aA)(is:List Nat):Prop :=
 S2.length=S.length∧∀k,(k∉is->S2[k]? = S[k]?)∧(k∈is->∃v l,S2[k]? = some (.frz v l)∧((∃lo cs,S[k]? = some (.cells v lo cs)∧toIVs cs=some l)∨S[k]? = some (.frz v l)))
theorem pA.nil:pA S S []:=⟨rfl,fun k=>⟨fun _=>rfl,fun h=>by simp at h⟩⟩
theorem pA.trans {S2 S3:aA}{is js:List Nat}(h:pA S S2 is)(k:pA S2 S3 js):pA S S3 (is++js):=by
 refine⟨k.1.trans h.1,fun m=>⟨fun hm=>?_,fun hm=>?_⟩⟩
 ·simp only[List.mem_append,not_or]at hm
  exact((k.2 m).1 hm.2).trans ((h.2 m).1 hm.1)
 ·by_cases hj:m∈js
  ·obtain⟨v,l,h1,h2⟩:=(k.2 m).2 hj
   refine⟨v,l,h1,?_⟩
   by_cases hi:m∈is
   ·obtain⟨v',l',h3,h4⟩:=(h.2 m).2 hi
    rcases h2 with⟨lo,cs,h5,_⟩|h5
    ·rw[h3]at h5;simp at h5
    ·rw[h3]at h5
     simp at h5
     obtain⟨rfl,rfl⟩:=h5
     exact h4
   ·rw[(h.2 m).1 hi]at h2
    exact h2
  ·have hi:m∈is:=by simp at hm;rcases hm with hm|hm;exact hm;exact absurd hm hj
   rw[(k.2 m).1 hj]
   exact(h.2 m).2 hi
theorem sJ {S2:aA}{i:Nat}(h:wE S i=some S2):pA S S2 [i]:=by
 obtain⟨h1,h2,h3⟩:=aG6 h
 exact⟨h1,fun k=>⟨fun hk=>h2 k (by simpa using hk),fun hk=>by simp at hk;subst hk;exact h3⟩⟩
theorem nW:∀ {cs:List TV} {S S2:aA},fR.freezeC S cs=some S2->pA S S2 (cs.flatMap oY)
 | [],S,S2,h=>by simp[fR.freezeC]at h;subst h;exact .nil
 | c::r,S,S2,h=>by
  cases c with
  | msl i ver off len cap es =>
   simp only[fR.freezeC]at h
   split at h
   ·rename_i S1 h1
    exact(sJ h1).trans (nW h)
   ·simp at h
  | _=>simp only[fR.freezeC]at h;exact nW (cs:=r) h
theorem kK:∀ {xs:List TV} {S S2:aA},fR S xs=some S2->pA S S2 (xs.flatMap lG)
 | [],S,S2,h=>by simp[fR]at h;subst h;exact .nil
 | c::r,S,S2,h=>by
  cases c with
  | msl i ver off len cap es =>
   simp only[fR]at h
   split at h
   ·rename_i S1 h1
    exact(sJ h1).trans (kK h)
   ·simp at h
  | agg cs =>
   simp only[fR]at h
   split at h
   ·rename_i S1 h1
    exact(nW h1).trans (kK h)
   ·simp at h
  | _=>simp only[fR]at h;exact kK (xs:=r) h
theorem bD0 {x:TV}{v:Value}(h:VR M J L x v){i:Nat}(hi:i∈oY x):∃l,J.at i l:=by
 cases h<;>simp[oY]at hi
 subst hi
 exact⟨_,by assumption⟩
theorem bD1 {x:TV}{v:Value}(h:VR M J L x v){i:Nat}(hi:i∈lG x):∃l,J.at i l:=by
 cases h with
 | agg L cs vs hs hv =>
  simp only[lG,List.mem_flatMap]at hi
  obtain⟨c,hc,hi⟩:=hi
  obtain⟨k,hk⟩:=List.getElem?_of_mem hc
  have hlt:k<vs.size:=by rw[hs];exact(List.getElem?_eq_some_iff.1 hk).1
  exact bD0 (hv k c _ hk (Array.getElem?_eq_getElem hlt)) hi
 | msl L i' ver off len cap es l b o c h =>
  simp[lG,oY]at hi
  subst hi
  exact⟨_,h⟩
 | _=>simp[lG,oY]at hi
theorem aYb {xs:List TV}{vs:List Value}(h:VRs M J L xs vs){i:Nat}(hi:i∈xs.flatMap lG):∃l,J.at i l:=by
 simp only[List.mem_flatMap]at hi
 obtain⟨c,hc,hi⟩:=hi
 obtain⟨k,hk⟩:=List.getElem?_of_mem hc
 have hlt:k<vs.length:=by rw[h.1];exact(List.getElem?_eq_some_iff.1 hk).1
 exact bD1 (h.2 k c _ hk (List.getElem?_eq_getElem hlt)) hi
def aR4 (J:aD)(is:List Nat)(b:Nat):Prop:=∃i∈is,∃l,J.at i l∧l.cb=b
theorem WR.freeze (h:WR P O M J S w){S2:aA}{is:List Nat}(hf:pA S S2 is)[DecidablePred (aR4 J is)]:WR P O (M.tell (aR4 J is) w) J S2 w:=by
 have hle:MLe M (M.tell (aR4 J is) w):=Mem.le_tell h.imm
 refine⟨h.len.trans hf.1.symm,Mem.tell_cell h.imm,fun i l s hl hs=>?_,h.inj,h.lt⟩
 by_cases hi:i∈is
 ·obtain⟨v,lst,h1,h2⟩:=(hf.2 i).2 hi
  rw[h1]at hs
  simp at hs;subst hs
  have hz:aR4 J is l.cb:=⟨i,hi,l,hl,rfl⟩
  rcases h2 with⟨lo,cs,h3,h4⟩|h3
  ·have hbr:=h.blk i l _ hl h3
   cases hbr with
   | cells loose cs cs' e fz hlo hb hsz hfit hv hfz hm =>
    refine .frz lst (fun k a ha=>?_)
    obtain⟨x,h5,h6⟩:=(gZ h4).2 k a ha
    obtain⟨u,h7,h8⟩:=hv k x h5
    refine⟨u,?_,(pT h6 h8).mono hle⟩
    unfold Mem.tell
    rw[if_pos hz,fF hb]
    exact h7
  ·have hbr:=h.blk i l _ hl h3
   cases hbr with
   | frz cs hv=>exact .frz lst (fun k x hx=>let ⟨u,h1,h2⟩:=hv k x hx;⟨u,hle _ _ _ h1,h2.mono hle⟩)
 ·rw[(hf.2 i).1 hi]at hs
  refine(h.blk i l s hl hs).step rfl hle (fun o=>?_) (.refl _)
  unfold Mem.tell
  rw[if_neg]
  rintro⟨k,hk,l',hl',e⟩
  exact hi (h.inj k i l' l hl' hl e▸hk)
end
section
variable {P:Program}{O:dM}{K:TM.bV}
variable {M:Mem}{J:aD}{L:List (Option Nat)}{S S':aA}{env env':Env}{w:World}
theorem yA {w':World}{N M1' M2:Mem}{J1':aD}{S1' S2:aA}{Mx:Mem}(hw:WR P O N J S2 w)(hN:MLe M N)(hNo:∀b o,¬J.has b->N b o=M b o)(hS:∀i:Nat,J[i]? = some none->S2[i]? = S[i]?) 
  (tr:Tr (fun _=>False) Mx [] [] w M1' J1' S1' w') (h2:∀b o v,M2 b o=some v->w'.cell? ⟨b,o,none⟩=some v):
  let M':Mem:=fun b o=>if b<w.heap.size then N b o else M2 b o
  WR P O M' J S2 w'∧Tr (fun _=>False) M J S w M' J S2 w':=by
 intro M'
 have hframe:∀b,b<w.heap.size->w'.heap[b]? = w.heap[b]? := fun b hb=>tr.frame b hb (by rintro⟨i,l,hl,_⟩;simp[aD.at]at hl) (fun h=>h)
 have hNM:MLe N M':=by
  intro b o v hv
  show(if b<w.heap.size then N b o else M2 b o)=some v
  rw[if_pos (hw.mlt hv)];exact hv
 have hold:∀b o,b<w.heap.size->M' b o=N b o:=fun b o hb=>if_pos hb
 refine⟨hw.step hw.len hNM (.refl _) (fun b o v hm=>?_) (fun i l s hl hs=>.inr ⟨hl,hs,hframe _ (hw.lt i l hl),fun o=>hold _ _ (hw.lt i l hl)⟩) hw.inj (fun i l hl=>Nat.lt_of_lt_of_le (hw.lt i l hl) tr.size),?_⟩
 ·by_cases hb:b<w.heap.size
  ·rw[hold b o hb]at hm
   rw[fH (hframe b hb)]
   exact hw.imm b o v hm
  ·have:M' b o=M2 b o:=if_neg hb
   rw[this]at hm
   exact h2 b o v hm
 ·exact⟨tr.os,tr.tape,tr.output,tr.size,hN.trans hNM,fun b o hb hn=>(hold b o hb).trans (hNo b o hn),.refl _,fun i l hl=>.inr ⟨l,hl,rfl⟩,fun i hi=>⟨hi,hS i hi⟩,fun b hb _ _=>hframe b hb⟩
open Classical in
theorem wU {orc:Orc}{f:Nat}(hc:aG4 P O K f (orc.call f)){F:Fence}(hF:dJ F)(n:Nat){args:List TV}{Q:TV×aA->Prop}(h:(eX orc f args S).All Q){vals:List Value}
  (hv:VRs M J L args vals) (hw:WR P O M J S w) (hg:qO K M):CallsIn F n P f vals.toArray w (iN P O M J S w Q):=by
 unfold eX at h
 split at h
 ·exact h.elim
 rename_i as has
 rw[Out.all_bind]at h
 -- which blocks are aR4
 by_cases hms:args.any uF=true
 ·have key:=hc F hF n as [] _ h (M.tell (aR4 J (args.flatMap lG)) w) [] w vals (oZ hw hv has (fun x hx i hi l hl=>⟨i,List.mem_flatMap.2 ⟨x,hx,hi⟩,l,hl,rfl⟩)) (.empty (Mem.tell_cell hw.imm))
   (fun g cs hgg=>(hg g cs hgg).mono (Mem.le_tell hw.imm))
  refine key.mono (fun e w' he=>?_)
  cases e with
  | returned v' =>
   obtain⟨v,S1',M1',J1',hq,hvr,hwr,tr⟩:=he
   have hnew:∀b,b<w.heap.size->¬J1'.has b:=by
    rintro b hb ⟨i,l,hl,rfl⟩
    rcases tr.jnew i l hl with h1|⟨l0,h1,_⟩
    ·omega
    ·simp[aD.at]at h1
   simp only at hq
   split at hq
   ·exact hq.elim
   rename_i v2 hres
   have hres:=aCj (Z:=J1'.has) hwr (fun i l hl=>⟨i,l,hl,rfl⟩) hvr hres
   have htl:∀b o v,M1'.tell J1'.has w' b o=some v->w'.cell? ⟨b,o,none⟩=some v:=Mem.tell_cell hwr.imm
   split at hq
   ·rename_i hcnd
    split at hq
    ·rename_i S2 hfz
     have hfr:=kK hfz
     obtain⟨q1,q2⟩:=yA (M:=M) (S:=S) (J:=J) (M2:=M1'.tell J1'.has w') (hw.freeze hfr) (Mem.le_tell hw.imm) (fun b o hb=>by
      unfold Mem.tell
      rw[if_neg]
      rintro⟨i,_,l,hl,e⟩
      exact hb ⟨i,l,hl,e⟩) (fun i hi=>(hfr.2 i).1 (fun hm=>by
       obtain⟨l,hl⟩:=aYb hv hm
       unfold aD.at at hl
       rw[hi]at hl;simp at hl)) tr htl
     refine⟨v2,S2,_,J,hq,?_,q1,q2⟩
     refine hres.mono (fun b o v hm=>?_) ⟨by simp,fun i l hl=>by simp[aD.at]at hl⟩
     split
     ·rename_i hb
      unfold Mem.tell at hm
      rw[if_neg (hnew b hb),tr.mnew b o hb (by rintro⟨i,l,hl,_⟩;simp[aD.at]at hl)]at hm
      exact hm
     ·exact hm
    ·exact hq.elim
   ·rename_i hcnd
    have hsc:jG v2=true:=by simpa[hms] using hcnd
    obtain⟨q1,q2⟩:=yA (M:=M) (S:=S) (J:=J) (N:=M) (M2:=M1'.tell J1'.has w') hw (.refl _) (fun b o hb=>rfl) (fun i hi=>rfl) tr htl
    exact⟨v2,S,_,J,hq,hres.scalar hsc,q1,q2⟩
  | panicked c=>exact he.elim
  | outgrown=>exact he.elim
 ·have hno:args.flatMap lG=[]:=by
   rw[List.flatMap_eq_nil_iff]
   intro x hx
   have hx':uF x=false:=by
    have:=List.any_eq_false.1 (by simpa using hms) x hx
    simpa using this
   cases x with
   | msl=>simp[uF]at hx'
   | agg cs =>
    simp only[uF]at hx'
    simp only[lG,List.flatMap_eq_nil_iff]
    intro c hc'
    have:=List.any_eq_false.1 hx' c hc'
    cases c<;>first|rfl|simp at this
   | _=>rfl
  have hZ:M.tell (fun _=>False) w=M:=by funext b o;simp[Mem.tell]
  have key:=hc F hF n as [] _ h M [] w vals (by
   have:=oZ (Z:=fun _=>False) hw hv has (fun x hx i hi l hl=>by
    have:i∈args.flatMap lG:=List.mem_flatMap.2 ⟨x,hx,hi⟩
    rw[hno]at this;simp at this)
   rwa [hZ]at this) (.empty hw.imm) hg
  refine key.mono (fun e w' he=>?_)
  cases e with
  | returned v' =>
   obtain⟨v,S1',M1',J1',hq,hvr,hwr,tr⟩:=he
   have hnew:∀b,b<w.heap.size->¬J1'.has b:=by
    rintro b hb ⟨i,l,hl,rfl⟩
    rcases tr.jnew i l hl with h1|⟨l0,h1,_⟩
    ·omega
    ·simp[aD.at]at h1
   simp only at hq
   split at hq
   ·exact hq.elim
   rename_i v2 hres
   have hres:=aCj (Z:=J1'.has) hwr (fun i l hl=>⟨i,l,hl,rfl⟩) hvr hres
   have htl:∀b o v,M1'.tell J1'.has w' b o=some v->w'.cell? ⟨b,o,none⟩=some v:=Mem.tell_cell hwr.imm
   split at hq
   ·rename_i hcnd
    simp[hms]at hcnd
   ·obtain⟨q1,q2⟩:=yA (M:=M) (S:=S) (J:=J) (N:=M) (M2:=M1'.tell J1'.has w') hw (.refl _) (fun b o hb=>rfl) (fun i hi=>rfl) tr htl
    refine⟨v2,S,_,J,hq,?_,q1,q2⟩
    refine hres.mono (fun b o v hm=>?_) ⟨by simp,fun i l hl=>by simp[aD.at]at hl⟩
    split
    ·rename_i hb
     unfold Mem.tell at hm
     rw[if_neg (hnew b hb),tr.mnew b o hb (by rintro⟨i,l,hl,_⟩;simp[aD.at]at hl)]at hm
     exact hm
    ·exact hm
  | panicked c=>exact he.elim
  | outgrown=>exact he.elim
end
end Go.TM
namespace Go.TM
open Go
section
variable {P:Program}{O:dM}{K:TM.bV}
variable {M:Mem}{J:aD}{L:List (Option Nat)}{S S':aA}{env env':Env}{w:World}
theorem kM {n i:Nat}{l:Loc}:aD.at (J.take n) i l↔i<n∧J.at i l:=by
 unfold aD.at
 rw[List.getElem?_take]
 split
 ·simp_all
 ·simp;intro h;omega
theorem VR.take {n:Nat}{x:TV}{v:Value}(h:VR M J L x v)(hb:gJ n x=true):VR M (J.take n) L x v:=by
 cases h with
 | iv L h=>exact .iv _ h
 | ptr L i ver off l b o h hv ha=>exact .ptr _ i ver off l b o (kM.2 ⟨by simpa[gJ] using hb,h⟩) hv ha
 | msl L i ver off len cap es l b o c h hv ha hl hlc=>exact .msl _ i ver off len cap es l b o c (kM.2 ⟨by simpa[gJ] using hb,h⟩) hv ha hl hlc
 | tsl L i es l b o c h hl hv ha hr=>exact .tsl _ i es l b o c (kM.2 ⟨by simpa[gJ] using hb,h⟩) hl hv ha hr
 | map L i l h hl=>exact .map _ i l (kM.2 ⟨by simpa[gJ] using hb,h⟩) hl
 | _=>simp[gJ]at hb
theorem VRs.take' {n:Nat}{xs:List TV}{vs:List Value}(h:VRs M J L xs vs)(hb:xs.all (gJ n)=true):VRs M (J.take n) L xs vs:=by
 refine⟨h.1,fun i x v hx hv=>(h.2 i x v hx hv).take ?_⟩
 rw[List.all_eq_true]at hb
 exact hb x (List.mem_of_getElem? hx)
theorem VR.takeAll {n:Nat}{x:TV}{v:Value}(h:VR M J L x v)(hb:rW.refAll n x=true):VR M (J.take n) L x v:=by
 cases h with
 | tup L cs vs hs hv =>
  have:=(VRs.ofAgg hs hv).take' (n:=n) hb
  exact .tup _ cs vs hs (fun i x v hx hv=>this.2 i x v hx (by simpa using hv))
 | agg L cs vs hs hv =>
  have:=(VRs.ofAgg hs hv).take' (n:=n) hb
  exact .agg _ cs vs hs (fun i x v hx hv=>this.2 i x v hx (by simpa using hv))
 | iv L h=>exact .iv _ h
 | ptr L i ver off l b o h hv ha=>exact VR.take (.ptr _ i ver off l b o h hv ha) hb
 | msl L i ver off len cap es l b o c h hv ha hl hlc=>exact VR.take (.msl _ i ver off len cap es l b o c h hv ha hl hlc) hb
 | tsl L i es l b o c h hl hv ha hr=>exact VR.take (.tsl _ i es l b o c h hl hv ha hr) hb
 | map L i l h hl=>exact VR.take (.map _ i l h hl) hb
 | _=>simp[rW.refAll,gJ]at hb
theorem BR.take {n:Nat}{l:Loc}{s:aP}(h:BR P O M J w l s)(hb:lD n s=true):BR P O M (J.take n) w l s:=by
 cases h with
 | cells loose cs cs' e fz hl hb' hsz hfit hv hfz hm ht =>
  simp only[lD,List.all_eq_true]at hb
  exact .cells loose cs cs' e fz hl hb' hsz hfit (fun k x hx=>let ⟨u,h1,h2⟩:=hv k x hx;⟨u,h1,h2.take (hb x (List.mem_of_getElem? hx))⟩) hfz hm ht
 | frz cs hv=>exact .frz cs hv
 | tok n cs' e fz hl hn hb' hsz hc hes hfit hsp hfz ht=>exact .tok n cs' e fz hl hn hb' hsz hc hes hfit hsp hfz ht
 | mp es clock es' hl hb' hs hv =>
  simp only[lD,List.all_eq_true]at hb
  exact .mp es clock es' hl hb' hs (fun k x y hx hy=>let ⟨a,b,c⟩:=hv k x y hx hy;⟨a,b,c.take (hb x (List.mem_of_getElem? hx))⟩)
 | sit s pos hl hb'=>exact .sit s pos hl hb'
 | mitN since seen last hl hb'=>exact .mitN since seen last hl hb'
 | mit m lm since seen last hl hm hlm hb'=>exact .mit m lm since seen last hl (kM.2 ⟨by simpa[lD] using hb,hm⟩) hlm hb'
 | lp st pend env ps assign body r hl hb' hst hp hr=>simp[lD]at hb
theorem aR5 {own:Nat->Prop}{M':Mem}{J':aD}{S2:aA}{w':World}{v:TV}{v':Value}(hlen:J.length=S.length)(hv:VR M' J' [] v v')(hw:WR P O M' J' S' w')(tr:Tr own M J S w M' J' S' w')(h:rW S.length v S'=some S2):
  ∃J2,VR M' J2 [] v v'∧WR P O M' J2 S2 w'∧Tr own M J S w M' J2 S2 w':=by
 unfold rW at h
 split at h
 ·simp at h;subst h
  exact⟨J',hv,hw,tr⟩
 ·rename_i hlt
  split at h
  ·rename_i hc
   simp at h;subst h
   simp only[Bool.and_eq_true,List.all_eq_true]at hc
   have hJ:=hw.len
   refine⟨J'.take S.length,hv.takeAll hc.1,⟨by simp[hJ],hw.imm,fun i l s hl hs=>?_,fun i k l l' hl hl' e=>hw.inj i k l l' (kM.1 hl).2 (kM.1 hl').2 e,fun i l hl=>hw.lt i l (kM.1 hl).2⟩,
    ⟨tr.os,tr.tape,tr.output,tr.size,tr.mle,tr.mnew,⟨by simp;omega,fun i l hl=>?_⟩,fun i l hl=>tr.jnew i l (kM.1 hl).2,fun i hi=>?_,tr.frame⟩⟩
   ·obtain⟨h1,h2⟩:=kM.1 hl
    rw[List.getElem?_take,if_pos h1]at hs
    refine(hw.blk i l s h2 hs).take (hc.2 s ?_)
    exact List.mem_of_getElem? (i:=i) (by rw[List.getElem?_take,if_pos h1];exact hs)
   ·obtain⟨l',h1,h2⟩:=tr.jle.2 i l hl
    exact⟨l',kM.2 ⟨by rw[<-hlen];exact(List.getElem?_eq_some_iff.1 hl).1,h1⟩,h2⟩
   ·have hil:i<S.length:=by rw[<-hlen];exact(List.getElem?_eq_some_iff.1 hi).1
    obtain⟨h1,h2⟩:=tr.ph i hi
    exact⟨by rw[List.getElem?_take,if_pos hil];exact h1,by rw[List.getElem?_take,if_pos hil];exact h2⟩
  ·simp at h
theorem aCk {orc:Orc}{f:Nat}(hc:aG4 P O K f (orc.call f)){F:Fence}(hF:dJ F)(n:Nat){trunc:Bool}{args:List TV}{Q:TV×aA->Prop}(h:(iZ orc trunc f args S).All Q){vals:List Value}
  (hv:VRs M J L args vals) (hw:WR P O M J S w) (hg:qO K M):CallsIn F n P f vals.toArray w (iN P O M J S w Q):=by
 unfold iZ at h
 split at h
 ·exact h.elim
 rename_i hlp
 rw[Out.all_bind]at h
 refine(hc F hF n args S _ h M J w vals (hv.frame (by simpa using hlp)) hw hg).mono (fun e w' he=>?_)
 cases e with
 | returned v' =>
  obtain⟨v,S1,M',J',hq,hvr,hwr,tr⟩:=he
  simp only at hq
  split at hq
  ·split at hq
   ·rename_i S2 ht
    obtain⟨J2,a,b,c⟩:=aR5 hw.len hvr hwr tr ht
    exact⟨v,S2,M',J2,hq,a,b,c⟩
   ·exact hq.elim
  ·exact⟨v,S1,M',J',hq,hvr,hwr,tr⟩
 | panicked c=>exact he.elim
 | outgrown=>exact he.elim
end
end Go.TM
namespace Go.TM
open Go
section
variable {P:Program}{O:dM}{K:TM.bV}{A:Ann}{dsts:List (Option Nat)}{slot:Option Nat}
variable {M:Mem}{J:aD}{L:List (Option Nat)}{S S':aA}{env env':Env}{w:World}
def aCl (P:Program)(O:dM)(K:TM.bV)(f:Nat)(p:aI0):Prop :=
 ∀(args:List TV) (S:aA) (v:TV) (S':aA),p args S=some (v,S')->∀(M:Mem) (J:aD) (w:World) (vals:List Value),VRs M J [] args vals->WR P O M J S w->qO K M ->
  (∃ fn, P.funcs[f]? = some fn ∧ fn.body.isSome = true ∧ fn.name ≠ "runtime.NumGoroutine" ∧ ∀ (F : Fence), dJ F → ∀ n, CallsIn F n P f vals.toArray w (iN P O M J S w fun r => r = (v, S'))) ∨
  ∃v' w' M' J',(callFunc f vals.toArray).run P w=.ok (.value v') w'∧VR M' J' [] v v'∧WR P O M' J' S' w'∧Tr (fun _=>False) M J S w M' J' S' w'
structure aYc (P:Program) (O:dM) (K:TM.bV) (orc:Orc):Prop where
 call:∀f,aG4 P O K f (orc.call f)
 yld:∀i,bGv P O K i (orc.yld i)
 prim:∀f p,K.prim f=some p->aCl P O K f p
theorem cP.notDefer {op:Op}{top:TOp}(h:cP P O A dsts slot op top)(c:Call):op≠.defer c:=by
 cases h<;>simp
theorem aMx {o:Oper}{top:TOp}(hc:cP P O A dsts slot o.op top)(a:Act)(h:MS P O K M J L S env w){rs:List TV}(hv:aG2 A dsts M J L (bH K env rs) a top){v:TV}
  (he:iY K top env rs S=some (v,env',S')):dF P O K top M J L S env w (execOp a.eval o) v env' S':=by
 unfold iY iJ at he
 split at he
 ·rename_i v' hfl
  simp only[Option.some.injEq,Prod.mk.injEq]at he
  obtain⟨rfl,rfl,rfl⟩:=he
  refine(aYa hc a h hv ?_).2
  split at hfl
  ·rename_i v2 hp
   simp at hfl;subst hfl
   exact .inl hp
  ·exact .inr hfl
 ·split at he
  ·rename_i v' b hal
   simp only[Option.some.injEq,Prod.mk.injEq]at he
   obtain⟨rfl,rfl,rfl⟩:=he
   obtain⟨htop,vf,hvf,ob,vm,l,hl⟩:=aQl hc a h hv hal
   have:=hvf S.length
   rw[hal]at this
   simp at this
   rw[this]
   exact hl.push h htop
  ·exact bIu hc a h hv he
def aYd (P:Program)(O:dM)(K:TM.bV)(top:TOp)(M:Mem)(J:aD)(L:List (Option Nat))(S:aA)(env:Env)(w:World)(Q:TV×Env×aA->Prop)(o:Oper)(a:Act)(next:Act->World->Prop):Prop :=
 ∀(v:TV) (env':Env) (S':aA) (M':Mem) (J':aD) (L':List (Option Nat)) (w':World) (v':Value),Q (v,env',S')->VR M' J' L' v v'->MS P O K M' J' L' S' env' w'->Tr (dC L) M J S w M' J' S' w'->EL w (aS top) env env' L L' ->
  next (a.put o.dst v') w'
theorem aJl {F:Fence}(hF:dJ F)(n:Nat){o:Oper}{top:TOp}{a:Act}{v:TV}(hnd:∀c,o.op≠.defer c)(h:dF P O K top M J L S env w (execOp a.eval o) v env' S'){Q:TV×Env×aA->Prop}(hq:Q (v,env',S'))
  {next:Act->World->Prop} (hk:aYd P O K top M J L S env w Q o a next) {X:Exit->Act->World->Prop}:o.wpIn F n P a w next X:=by
 obtain⟨M',J',L',w',r,hrun,hr,hms,tr,hel⟩:=h
 unfold Oper.wpIn
 refine⟨fun f _=>hF.fn f,?_⟩
 rw[Oper.semAt_eq _ _ _ hnd,hrun]
 rcases hr with⟨v',rfl,hv⟩|⟨rfl,rfl⟩
 ·exact hk _ _ _ _ _ _ _ _ hq hv hms tr hel
 ·exact hk _ _ _ _ _ _ _ _ hq tO hms tr hel
theorem nE {f : Nat} {fn : Func} (hfn : P.funcs[f]? = some fn) (hb : fn.body.isSome = true) (hng : fn.name ≠ "runtime.NumGoroutine") (vals : Array Value) (w : World) : (callFunc f vals).run P w = .ok (.enter f vals) w := by
 cases h:fn.body with
 | none=>simp[h]at hb
 | some c=>simp[callFunc,hfn,hng,h]
theorem yB {o:Oper}{c:Call}{x:Operand}(hop:o.op=.call c)(hc:c.callee=.value x)(a:Act){f:FuncId}{fst cap:Array Value}(hx:a.eval x=.func (.func f) fst cap):
  execOp a.eval o=callFunc f (fst++c.args.map a.eval++cap):=by
 simp only[execOp,hop,Go.resolve,hc,hx,Deferred.ofValue,invoke,pure_bind]
theorem iN.kont {top:TOp}(htop:aS top=none)(h:MS P O K M J L S env w){Q:TV×Env×aA->Prop}{o:Oper}{a:Act}{next:Act->World->Prop}(hk:aYd P O K top M J L S env w Q o a next){e:Ending}{w':World}
  (he:iN P O M J S w (fun r=>Q (r.1,env,r.2)) e w'):∃v',e=.returned v'∧next (a.put o.dst v') w':=by
 cases e with
 | returned v' =>
  obtain⟨v,S',M',J',hq,hv,hw,tr⟩:=he
  obtain⟨h1,h2⟩:=h.step' hw tr
  exact⟨v',rfl,hk v env S' M' J' L w' v' hq hv.ofNil h1 h2 (by rw[htop];exact⟨rfl,.refl _⟩)⟩
 | panicked c=>exact he.elim
 | outgrown=>exact he.elim
theorem aCm {F:Fence}(hF:dJ F)(n:Nat){top:TOp}(htop:aS top=none)(h:MS P O K M J L S env w){Q:TV×Env×aA->Prop}{o:Oper}{a:Act}{next:Act->World->Prop}(hnd:∀c,o.op≠.defer c)
  (hk:aYd P O K top M J L S env w Q o a next) {f:Nat} {vals:Array Value} (hrun:(execOp a.eval o).run P w=.ok (.enter f vals) w) (hc:CallsIn F (n-1) P f vals w (iN P O M J S w (fun r=>Q (r.1,env,r.2)))) {X:Exit->Act->World->Prop}:
  o.wpIn F n P a w next X:=by
 unfold Oper.wpIn
 refine⟨fun f _=>hF.fn f,?_⟩
 rw[Oper.semAt_eq _ _ _ hnd,hrun,Oper.uponIn_enter]
 refine⟨fun hd=>by rw[hF.depth]at hd;simp at hd,hc.mono (fun e w' he=>?_)⟩
 obtain⟨v',rfl,hn⟩:=he.kont htop h hk
 exact hn
theorem mE {o:Oper}{c:Call}(hop:o.op=.call c)(d:Call):o.op≠.defer d:=by rw[hop];simp
theorem aG7 {mu:Bool}{b:Builtin}{ts:List TypeId}{xs:List Operand}{top:TOp}(h:fO P A mu dsts b ts xs=some top)(orc:Orc)(env rs:List TV)(S:aA):
  cN K orc top env rs S=Out.ofOpt (rV top) (iY K top env rs S):=by
 unfold fO at h
 repeat' split at h
 all_goals first
  | (simp at h;done)
  | (simp at h;subst h;rfl)
  | (simp only[Option.map_eq_some_iff]at h;obtain⟨q,_,rfl⟩:=h;rfl)
theorem aYe {orc:Orc}(ho:aYc P O K orc){F:Fence}(hF:dJ F)(n:Nat){top:TOp}(htop:aS top=none)(h:MS P O K M J L S env w){Q:TV×Env×aA->Prop}{o:Oper}{c:Call}{x:Operand}(hop:o.op=.call c)
  (hc:c.callee=.value x) {a:Act} {next:Act->World->Prop} (hk:aYd P O K top M J L S env w Q o a next) {k:Nat} {fst cap args:List TV} (hx:VR M J L (.fn k fst cap) (a.eval x)) (ha:VRs M J L args (c.args.toList.map a.eval))
  (hbody : ∃ fn, P.funcs[k]? = some fn ∧ fn.body.isSome = true ∧ fn.name ≠ "runtime.NumGoroutine")
  (hq:(if(fst++args++cap).all aBx then eX orc k (fst++args++cap) S else iZ orc false k (fst++args++cap) S).All (fun r=>Q (r.1,env,r.2))) {X:Exit->Act->World->Prop}:
  o.wpIn F n P a w next X:=by
 obtain⟨fn,hfn,hb,hng⟩:=hbody
 generalize hv:a.eval x=xv at hx
 cases hx with
 | fn L f fst cap fst' cap' h1 h2 hf hcp =>
  have hvs:VRs M J L (fst++args++cap) (fst'++c.args.map a.eval++cap').toList:=by
   simp only[Array.toList_append,Array.toList_map]
   exact((VRs.ofAgg h1 hf).ofNil.append ha).append (VRs.ofAgg h2 hcp).ofNil
  have hrun:=nE hfn hb hng (fst'++c.args.map a.eval++cap') w
  rw[<-yB hop hc a hv]at hrun
  refine aCm hF n htop h (mE hop) hk hrun ?_
  have e:fst'++c.args.map a.eval++cap'=(fst'++c.args.map a.eval++cap').toList.toArray:=by simp
  rw[e]
  split at hq
  ·exact wU (ho.call k) hF _ hq hvs h.wr h.gl
  ·exact aCk (ho.call k) hF _ hq hvs h.wr h.gl
theorem aQn (a:Act)(f:FuncId):a.eval (.func f)=.func (.func f) #[] #[]:=rfl
theorem zJ {orc : Orc} (ho : aYc P O K orc) (hK : ∀ k, (∃ fn, K.funcs k = some fn) → ∃ fn, P.funcs[k]? = some fn ∧ fn.body.isSome = true ∧ fn.name ≠ "runtime.NumGoroutine")
  (hKo:∀k args S Q,(orc.call k args S).All Q->∃fn,K.funcs k=some fn) {F:Fence} (hF:dJ F) (n:Nat) {o:Oper} {top:TOp} (hc:cP P O A dsts slot o.op top) {a:Act}
  (h:MS P O K M J L S env w) {rs:List TV} (hv:aG2 A dsts M J L (bH K env rs) a top) {Q:TV×Env×aA->Prop} (hq:(cN K orc top env rs S).All Q) {next:Act->World->Prop}
  (hk:aYd P O K top M J L S env w Q o a next) {X:Exit->Act->World->Prop}:o.wpIn F n P a w next X:=by
 have hnd:=hc.notDefer
 have simple:cN K orc top env rs S=Out.ofOpt (rV top) (iY K top env rs S)->o.wpIn F n P a w next X:=by
  intro e
  rw[e]at hq
  obtain⟨r,hr,hQ⟩:=Out.all_ofOpt hq
  exact aJl hF n hnd (aMx hc a h hv hr) hQ hk
 generalize hop:o.op=op at hc
 have body : ∀ {k : Nat} {as : List TV} {S0 : aA} {Q0 : TV × aA → Prop}, (eX orc k as S0).All Q0 ∨ (∃ b, (iZ orc b k as S0).All Q0) → ∃ fn, P.funcs[k]? = some fn ∧ fn.body.isSome = true ∧ fn.name ≠ "runtime.NumGoroutine" := by
  intro k as S0 Q0 hh
  refine hK k ?_
  rcases hh with hh|⟨b,hh⟩
  ·unfold eX at hh
   split at hh
   ·exact hh.elim
   ·rw[Out.all_bind]at hh;exact hKo _ _ _ _ hh
  ·unfold iZ at hh
   split at hh
   ·exact hh.elim
   ·rw[Out.all_bind]at hh;exact hKo _ _ _ _ hh
 cases hc with
 | builtin mu c b top hcc hb=>exact simple (aG7 hb orc env rs S)
 | call pure trunc c f fn args hcc hfn hb hng ha =>
  have hvs:=mD ha (L:=L) (M:=M) (J:=J) (a:=a) (ev:=bH K env rs) (fun x tx hm=>hv x tx (by simpa[bC] using hm))
  simp only[cN]at hq
  rw[Out.all_bind]at hq
  have hrun:=nE hfn hb hng (#[]++c.args.map a.eval++#[]) w
  rw[<-yB hop hcc a (aQn a f)]at hrun
  refine aCm hF n rfl h (mE hop) hk hrun ?_
  have e:#[]++c.args.map a.eval++#[]=(c.args.toList.map a.eval).toArray:=by apply Array.ext';simp
  rw[e]
  split at hq
  ·exact wU (ho.call f) hF _ hq hvs h.wr h.gl
  ·exact aCk (ho.call f) hF _ hq hvs h.wr h.gl
 | prim c f args hcc ha =>
  have hvs:=mD ha (L:=L) (M:=M) (J:=J) (a:=a) (ev:=bH K env rs) (fun x tx hm=>hv x tx (by simpa[bC] using hm))
  simp only[cN]at hq
  split at hq
  ·rename_i p hp
   split at hq
   ·exact hq.elim
   rename_i hlp
   rw[Out.all_bind]at hq
   obtain⟨⟨v,S1⟩,hr,hQ⟩:=Out.all_ofOpt hq
   have e:#[]++c.args.map a.eval++#[]=(c.args.toList.map a.eval).toArray:=by apply Array.ext';simp
   have hex:=yB hop hcc a (aQn a f)
   rw[e]at hex
   rcases ho.prim f p hp _ S v S1 hr M J w _ (hvs.frame (by simpa using hlp)) h.wr h.gl with⟨fn,h1,h2,h3,h4⟩|⟨v',w',M',J',h1,h2,h3,h4⟩
   ·have hrun:=nE h1 h2 h3 (c.args.toList.map a.eval).toArray w
    rw[<-hex]at hrun
    refine aCm hF n rfl h (mE hop) hk hrun ((h4 F hF _).mono (fun e w' he=>?_))
    cases e with
    | returned v' =>
     obtain⟨v2,S2,M',J',q1,q2⟩:=he
     simp at q1
     obtain⟨rfl,rfl⟩:=q1
     exact⟨_,_,M',J',hQ,q2⟩
    | panicked c=>exact he.elim
    | outgrown=>exact he.elim
   ·obtain⟨q1,q2⟩:=h.step' h3 h4
    unfold Oper.wpIn
    refine⟨fun f _=>hF.fn f,?_⟩
    rw[Oper.semAt_eq _ _ _ (mE hop),hex,h1]
    exact hk v env S1 M' J' L w' v' hQ h2.ofNil q1 q2 ⟨rfl,.refl _⟩
  ·exact hq.elim
 | callv c x tx args hcc hx ha =>
  have hvs:=mD ha (L:=L) (M:=M) (J:=J) (a:=a) (ev:=bH K env rs) (fun x tx hm=>hv x tx (by simp[bC,hm]))
  have hxv:=hv x tx (by simp[bC]) hx
  simp only[cN]at hq
  split at hq
  ·rename_i k fst cap hf
   rw[hf]at hxv
   rw[Out.all_bind]at hq
   refine aYe ho hF n rfl h hop hcc hk hxv hvs ?_ hq
   split at hq
   ·exact body (.inl hq)
   ·exact body (.inr ⟨_,hq⟩)
  ·rename_i i hf
   rw[hf]at hxv
   split at hq
   ·exact hq.elim
   rename_i hlp
   rw[Out.all_bind]at hq
   generalize hxe:a.eval x=xv at hxv
   cases hxv with
   | yld L i l hj hlo =>
    obtain⟨r,h1,h2,h3⟩:=ho.yld i F hF (n-1) _ S _ hq M J w _ (hvs.frame (by simpa using hlp)) h.wr h.gl l hj
    have hrun:(execOp a.eval o).run P w=.ok (.round l.cb r.fn ((r.params.zip (c.args.toList.map a.eval).toArray).foldl (fun tmps (t,a)=>tmps.setIfInBounds t a) r.tmps) r.assign r.body) w:=by
     have:execOp a.eval o=Instr.yield l.cb (#[]++c.args.map a.eval):=by
      simp only[execOp,hop,Go.resolve,hcc,hxe,Deferred.ofValue,invoke,pure_bind]
     rw[this]
     have e:#[]++c.args.map a.eval=(c.args.toList.map a.eval).toArray:=by apply Array.ext';simp
     rw[e]
     exact run_yield h1 (by simpa using h2)
    unfold Oper.wpIn
    refine⟨fun f _=>hF.fn f,?_⟩
    rw[Oper.semAt_eq _ _ _ (mE hop),hrun,Oper.uponIn_round]
    refine⟨fun hd=>by rw[hF.depth]at hd;simp at hd,h3.mono (fun e w' he=>?_)⟩
    obtain⟨v',rfl,hn⟩:=he.kont rfl h hk
    exact hn
  ·exact hq.elim
 | _=>exact simple rfl
end
end Go.TM
namespace Go.TM
open Go
section
variable {P:Program}{O:dM}{K:TM.bV}{A:Ann}
variable {M:Mem}{J:aD}{L:List (Option Nat)}{S S':aA}{env env':Env}{w:World}
def eR (env:Env)(j:Nat):TV :=
 match env.getD j .hole with
 | .lb _=>.lp j 0
 | v=>v
structure FR (A:Ann) (nt:Nat) (M:Mem) (J:aD) (L:List (Option Nat)) (env:Env) (a:Act):Prop where
 sz:a.tmps.size=nt
 len:env.length=A.slots.length
 nlp:∀(j:Nat) (x:TV),env[j]? = some x->eE x=true->∃cs,x=.lb cs
 val:∀(j t:Nat),A.slots[j]? = some t->VR M J L (eR env j) (a.tmps.getD t Go.undef)
structure RR (A:Ann) (nt:Nat) (ops:List Oper) (tops:List aM) (D:Nat->Prop) (M:Mem) (J:aD) (L:List (Option Nat)) (env:Env) (rs:List TV) (a:Act):Prop where
 sz:a.tmps.size=nt
 len:env.length=A.slots.length
 nlp:∀(j:Nat) (x:TV),env[j]? = some x->eE x=true->∃cs,x=.lb cs
 rl:rs.length=ops.length
 reg:∀(k:Nat) (o:Oper) (t:Nat),D k->ops[k]? = some o->o.dst=some t->VR M J L (rs.getD k .hole) (a.tmps.getD t Go.undef)
 val:∀(j t:Nat),A.slots[j]? = some t->(∀(k:Nat) (o:Oper),D k->ops[k]? = some o->o.dst≠some t)->VR M J L (eR env j) (a.tmps.getD t Go.undef)
 lbs:∀(k:Nat) (o:Oper) (to:aM) (j t:Nat),D k->ops[k]? = some o->tops[k]? = some to->to.loc=none->o.dst=some t->A.slots[j]? = some t->VR M J L (eR env j) (a.tmps.getD t Go.undef)
theorem aMy {j k:Nat}(hn:∀(j:Nat) (x:TV),env[j]? = some x->eE x=true->∃cs,x=.lb cs)(hjk:k≠j):uB j (eR env k)=false:=by
 unfold eR
 cases hx:env[k]? with
 | none=>simp[List.getD,hx,uB]
 | some x =>
  have e:env.getD k .hole=x:=by simp[List.getD,hx]
  rw[e]
  by_cases hl:eE x=true
  ·obtain⟨cs,rfl⟩:=hn k x hx hl
   simp[uB,hjk]
  ·cases x<;>simp[eE]at hl<;>rfl
theorem VR.setL {x:TV}{v:Value}(h:VR M J L x v){j:Nat}(hx:uB j x=false)(c:Option Nat):VR M J (L.set j c) x v:=by
 cases h with
 | lp L k off cb hk =>
  have:k≠j:=by simpa[uB] using hx
  exact .lp _ k off cb (by rw[List.getElem?_set_ne (by omega)];exact hk)
 | hole L v=>exact .hole _ v
 | iv L h=>exact .iv _ h
 | ptr L i ver off l b o h hv ha=>exact .ptr _ i ver off l b o h hv ha
 | msl L i ver off len cap es l b o c h hv ha hl hlc=>exact .msl _ i ver off len cap es l b o c h hv ha hl hlc
 | tsl L i es l b o c h hl hv ha hr=>exact .tsl _ i es l b o c h hl hv ha hr
 | rsv L i es n l b o c h hl hv ha hc hr=>exact .rsv _ i es n l b o c h hl hv ha hc hr
 | map L i l h hl=>exact .map _ i l h hl
 | it L i l h hl=>exact .it _ i l h hl
 | yld L i l h hl=>exact .yld _ i l h hl
 | fn L f fst cap fst' cap' h1 h2 hf hc=>exact .fn _ f fst cap fst' cap' h1 h2 hf hc
 | agg L cs vs hs hv=>exact .agg _ cs vs hs hv
 | tup L cs vs hs hv=>exact .tup _ cs vs hs hv
theorem VR.over {own:Nat->Prop}{M':Mem}{J':aD}{L':List (Option Nat)}{w':World}{jx:Option Nat}{x:TV}{v:Value}(h:VR M J L x v)(tr:Tr own M J S w M' J' S' w')(el:EL w jx env env' L L')(hx:∀j,jx=some j->uB j x=false):
  VR M' J' L' x v:=by
 have h:=h.mono tr.mle tr.jle
 cases jx with
 | none=>obtain⟨rfl,_⟩:=el;exact h
 | some j=>obtain⟨cs,cb,_,rfl,_⟩:=el;exact h.setL (hx j rfl) _
theorem aCn (h:tN env env')(j:Nat):eR env' j=eR env j:=by
 unfold eR
 rcases h.2 j with e|⟨cs,cs',e1,e2⟩
 ·simp[List.getD,e]
 ·simp[List.getD,e1,e2]
theorem aR6 {j k:Nat}{x:TV}(h:k≠j):eR (env.set j x) k=eR env k:=by
 unfold eR
 simp[List.getD,List.getElem?_set_ne (Ne.symm h)]
theorem aMz {jx:Option Nat}{L':List (Option Nat)}(el:EL w jx env env' L L'){k:Nat}(hk:jx≠some k):eR env' k=eR env k:=by
 cases jx with
 | none=>exact aCn el.2 k
 | some j=>obtain⟨cs,cb,rfl,_,_⟩:=el;exact aR6 (fun e=>hk (by rw[e]))
theorem EL.len {jx:Option Nat}{L':List (Option Nat)}(el:EL w jx env env' L L'):env'.length=env.length:=by
 cases jx with
 | none=>exact el.2.1
 | some j=>obtain⟨cs,cb,rfl,_,_⟩:=el;simp
theorem EL.nlp {jx:Option Nat}{L':List (Option Nat)}(el:EL w jx env env' L L')(h:∀(j:Nat) (x:TV),env[j]? = some x->eE x=true->∃cs,x=.lb cs):
  ∀(j:Nat) (x:TV),env'[j]? = some x->eE x=true->∃cs,x=.lb cs:=by
 intro k x hx hl
 cases jx with
 | none =>
  rcases el.2.2 k with e|⟨cs,cs',e1,e2⟩
  ·exact h k x (by rw[<-e];exact hx) hl
  ·rw[hx]at e2;simp at e2;exact⟨_,e2⟩
 | some j =>
  obtain⟨cs,cb,rfl,_,_⟩:=el
  by_cases hkj:k=j
  ·subst hkj
   have hlt:k<env.length:=by
    have:=(List.getElem?_eq_some_iff.1 hx).1
    simpa using this
   rw[List.getElem?_set_self hlt]at hx
   simp at hx;exact⟨cs,hx.symm⟩
  ·rw[List.getElem?_set_ne (by omega)]at hx
   exact h k x hx hl
theorem aJm {a:Act}{d:Option Nat}{v:Value}{t:Nat}(h:d≠some t):(a.put d v).tmps.getD t Go.undef=a.tmps.getD t Go.undef:=by
 cases d with
 | none=>rfl
 | some d =>
  have:d≠t:=fun e=>h (by rw[e])
  simp only[Act.put,Array.getD_eq_getD_getElem?]
  rw[Array.getElem?_setIfInBounds_ne this]
theorem aJn {a:Act}{v:Value}{t:Nat}(h:t<a.tmps.size):(a.put (some t) v).tmps.getD t Go.undef=v:=by
 simp only[Act.put,Array.getD_eq_getD_getElem?]
 rw[Array.getElem?_setIfInBounds_self_of_lt h];rfl
theorem aYf {a:Act}{d:Option Nat}{v:Value}:(a.put d v).tmps.size=a.tmps.size:=by
 cases d<;>simp[Act.put]
theorem nX {a:Act}{d:Option Nat}{v:Value}:(a.put d v).defers=a.defers:=by
 cases d<;>rfl
def sK (nt:Nat)(ops:List Oper):Prop :=
 (∀(k k':Nat) (o o':Oper) (t:Nat),ops[k]? = some o->ops[k']? = some o'->o.dst=some t->o'.dst=some t->k=k')∧∀(k:Nat) (o:Oper) (t:Nat),ops[k]? = some o->o.dst=some t->t<nt
theorem RR.step {nt:Nat}{ops:List Oper}{tops:List aM}{D:Nat->Prop}{rs rs':List TV}{a:Act}(h:RR A nt ops tops D M J L env rs a)(hd:sK nt ops)(hs:fE A nt){i:Nat}{o:Oper}{to:aM}(hi:ops[i]? = some o)(hto:tops[i]? = some to)(hnD:¬D i)
  {own:Nat->Prop} {M':Mem} {J':aD} {L':List (Option Nat)} {w':World} (tr:Tr own M J S w M' J' S' w') (el:EL w (aS to.op) env env' L L') {v:TV} {v':Value} (hv:VR M' J' L' v v')
  (hrs:rs'.length=rs.length∧rs'.getD i .hole=v∧∀k,D k->rs'.getD k .hole=rs.getD k .hole)
  (hlp:∀j,aS to.op=some j->rs.any (uB j)=false∧v=.lp j 0∧(∃d,o.dst=some d∧A.slots[j]? = some d)∧(∃cs,env'=env.set j (.lb cs))∧j<env.length)
  (hloc:aS to.op=none->to.loc=none->∀(j t:Nat),o.dst=some t->A.slots[j]? ≠ some t):
  RR A nt ops tops (fun k=>D k∨k=i) M' J' L' env' rs' (a.put o.dst v'):=by
 have hdlt:∀t,o.dst=some t->t<a.tmps.size:=fun t ht=>by rw[h.sz];exact hd.2 i o t hi ht
 -- a slot whose temporary is not this operation's
 have slotKeep:∀(j t:Nat),A.slots[j]? = some t->o.dst≠some t->VR M J L (eR env j) (a.tmps.getD t Go.undef)->VR M' J' L' (eR env' j) ((a.put o.dst v').tmps.getD t Go.undef):=by
  intro j t hj ht hvr
  rw[aJm ht]
  have hne:aS to.op≠some j:=by
   intro e
   obtain⟨_,_,⟨d,hd1,hd2⟩,_,h5⟩:=hlp j e
   rw[hj]at hd2
   simp at hd2
   exact ht (by rw[hd1,hd2])
  rw[aMz el hne]
  exact hvr.over tr el (fun j' e=>aMy h.nlp (fun ee=>hne (by rw[e,ee])))
 refine⟨by rw[aYf];exact h.sz,by rw[el.len];exact h.len,el.nlp h.nlp,by rw[hrs.1];exact h.rl,?_,?_,?_⟩
 ·intro k ok t hk hok ht
  rcases hk with hk|rfl
  ·have hki:k≠i:=fun e=>hnD (e▸hk)
   rw[hrs.2.2 k hk,aJm (fun e=>hki (hd.1 k i ok o t hok hi ht e))]
   refine(h.reg k ok t hk hok ht).over tr el (fun j e=>?_)
   obtain⟨h1,_⟩:=hlp j e
   by_cases hkl:k<rs.length
   ·have:=List.any_eq_false.1 h1 rs[k] (List.getElem_mem hkl)
    simpa[List.getD,List.getElem?_eq_getElem hkl] using this
   ·simp[List.getD,List.getElem?_eq_none (Nat.le_of_not_lt hkl),uB]
  ·rw[hi]at hok
   simp at hok;subst hok
   rw[hrs.2.1,ht,aJn (hdlt t ht)]
   exact hv
 ·intro j t hj hno
  have ht:o.dst≠some t:=hno i o (.inr rfl) hi
  exact slotKeep j t hj ht (h.val j t hj (fun k ok hk=>hno k ok (.inl hk)))
 ·intro k ok tok j t hk hok htok hl ht hj
  rcases hk with hk|rfl
  ·have hki:k≠i:=fun e=>hnD (e▸hk)
   exact slotKeep j t hj (fun e=>hki (hd.1 k i ok o t hok hi ht e)) (h.lbs k ok tok j t hk hok htok hl ht hj)
  ·rw[hi]at hok
   simp at hok;subst hok
   rw[hto]at htok
   simp at htok;subst htok
   cases htg:aS to.op with
   | none=>exact absurd hj (hloc htg hl j t ht)
   | some j' =>
    obtain⟨_,h2,⟨d,hd1,hd2⟩,⟨cs,h4⟩,h5⟩:=hlp j' htg
    have hjj:j=j':=by
     have e1:A.slots[j']? = some t:=by rw[ht]at hd1;simp at hd1;rw[hd1];exact hd2
     exact(List.getElem?_inj (by exact(List.getElem?_eq_some_iff.1 hj).1) hs.1).1 (by rw[hj,e1])
    subst hjj
    have:eR env' j=.lp j 0:=by
     rw[h4]
     unfold eR
     simp[List.getD,List.getElem?_set_self h5]
    rw[this,ht,aJn (hdlt t ht),<-h2]
    exact hv
theorem zK {t:Nat}:∀ {l:List Nat} {i j:Nat},eK t l i=some j->i<=j∧l[j-i]? = some t
 | [],i,j,h=>by simp[eK]at h
 | d::r,i,j,h=>by
  simp only[eK]at h
  split at h
  ·rename_i e
   simp at h;subst h
   simp[e]
  ·obtain⟨h1,h2⟩:=zK h
   refine⟨by omega,?_⟩
   rw[show j-i=(j-(i+1))+1 by omega,List.getElem?_cons_succ]
   exact h2
theorem lH {t j:Nat}(h:eK t A.slots 0=some j):A.slots[j]? = some t:=(zK h).2
theorem aFc {t:Nat}:∀ {l:List Nat} {i j:Nat},l.Nodup->l[j]? = some t->eK t l i=some (i+j)
 | [],i,j,_,h=>by simp at h
 | d::r,i,j,hn,h=>by
  simp only[eK]
  cases j with
  | zero=>simp at h;simp[h]
  | succ j =>
   simp at h
   have hd:d≠t:=by
    rintro rfl
    exact(List.nodup_cons.1 hn).1 (List.mem_of_getElem? h)
   rw[if_neg hd,aFc (List.nodup_cons.1 hn).2 h]
   congr 1;omega
theorem aQo {t j nt:Nat}(hs:fE A nt)(h:A.slots[j]? = some t):eK t A.slots 0=some j:=by
 have:=aFc (i:=0) hs.1 h
 simpa using this
theorem vJ {t:Nat}:∀ {l:List (Option Nat)} {i j:Nat},yX t l i=some j->i<=j∧l[j-i]? = some (some t)
 | [],i,j,h=>by simp[yX]at h
 | d::r,i,j,h=>by
  simp only[yX]at h
  split at h
  ·rename_i e
   simp at h;subst h
   simp[e]
  ·obtain⟨h1,h2⟩:=vJ h
   refine⟨by omega,?_⟩
   rw[show j-i=(j-(i+1))+1 by omega,List.getElem?_cons_succ]
   exact h2
theorem aCo {t:Nat}:∀ {l:List (Option Nat)} {i:Nat},yX t l i=none->∀(k:Nat),l[k]? ≠ some (some t)
 | [],i,_,k=>by simp
 | d::r,i,h,k=>by
  simp only[yX]at h
  split at h
  ·simp at h
  ·rename_i e
   cases k with
   | zero=>simpa using e
   | succ k=>simpa using aCo h k
structure aCp (P:Program) (O:dM) (A:Ann) (dsts:List (Option Nat)) (o:Oper) (to:aM):Prop where
 guard:to.guard=o.guard
 op:to.op=.bad∨cP P O A dsts (o.dst.bind fun t=>eK t A.slots 0) o.op to.op
 loc:aS to.op=none->to.loc=o.dst.bind fun t=>eK t A.slots 0
 tgt:∀j,aS to.op=some j->to.loc=none∧(o.dst.bind fun t=>eK t A.slots 0)=some j∧o.guard=none
theorem bLd {mu trunc:Bool}{dsts:List (Option Nat)}{o:Oper}{top:TOp}(h:vD P O A mu trunc false dsts o=some top):aS top=none:=by
 have hc:=aJi h
 generalize hop:o.op=op at hc
 cases hc with
 | allocL t z j hz hj=>simp[vD,hop,hz]at h
 | boxL t x tx j hx hj=>simp[vD,hop,hx]at h
 | builtin mu c b top hcc hb =>
  unfold fO at hb
  repeat' split at hb
  all_goals first
   | (simp at hb;done)
   | (simp at hb;subst hb;rfl)
   | (simp only[Option.map_eq_some_iff]at hb;obtain⟨q,_,rfl⟩:=hb;rfl)
 | _=>rfl
theorem aJo {dsts:List (Option Nat)}{slot:Option Nat}{op:Op}{top:TOp}(h:cP P O A dsts slot op top){j:Nat}(hj:aS top=some j):slot=some j:=by
 cases h with
 | allocL t z j' hz hj'=>simp[aS]at hj;subst hj;exact hj'
 | boxL t x tx j' hx hj'=>simp[aS]at hj;subst hj;exact hj'
 | builtin mu c b top hcc hb =>
  unfold fO at hb
  repeat' split at hb
  all_goals first
   | (simp at hb;done)
   | (simp at hb;subst hb;simp[aS]at hj;done)
   | (simp only[Option.map_eq_some_iff]at hb;obtain⟨q,_,rfl⟩:=hb;simp[aS]at hj;done)
 | _=>simp[aS]at hj
theorem mF {id:Nat}{draw:Bool}:∀ {os:List Oper} {i:Nat} {dsts:List (Option Nat)} {k:Nat} {o:Oper},os[k]? = some o->∃to,(dI P O A id draw os i dsts)[k]? = some to∧aCp P O A (dsts++(os.take k).map (·.dst)) o to
 | [],i,dsts,k,o,h=>by simp at h
 | o0::os,i,dsts,k,o,h=>by
  cases k with
  | zero =>
   simp at h;subst h
   simp only[dI,List.getElem?_cons_zero,List.take_zero,List.map_nil,List.append_nil]
   refine⟨_,rfl,?_⟩
   generalize hlb:(!draw&&o0.guard.isNone&&(match o0.dst with
    | some t=>A.lb.contains t
    | none=>false))=isLb
   cases hcp:vD P O A (A.mu.contains (id,i)) (A.trunc.contains (id,i)) isLb dsts o0 with
   | none =>
    refine⟨rfl,.inl (by simp),fun _=>?_,fun j hj=>by simp[aS]at hj⟩
    simp
   | some top =>
    simp only[Option.getD_some]
    have hr:=aJi hcp
    refine⟨rfl,.inr hr,fun ht=>?_,fun j hj=>?_⟩
    ·cases isLb with
     | false=>simp
     | true =>
      simp only[if_true]
      cases top<;>first|rfl|simp[aS]at ht
    ·cases isLb with
     | false=>rw[bLd hcp]at hj;simp at hj
     | true =>
      refine⟨?_,aJo hr hj,?_⟩
      ·simp only[if_true]
       cases top<;>first|rfl|simp[aS]at hj
      ·have:o0.guard.isNone=true:=by
        revert hlb
        cases o0.guard<;>simp
       simpa using this
  | succ k =>
   simp at h
   obtain⟨to,h1,h2⟩:=mF (id:=id) (draw:=draw) (i:=i+1) (dsts:=dsts++[o0.dst]) h
   refine⟨to,by simpa[dI] using h1,?_⟩
   simpa using h2
theorem eS {id:Nat}{draw:Bool}:∀ {os:List Oper} {i:Nat} {dsts:List (Option Nat)},(dI P O A id draw os i dsts).length=os.length
 | [],i,dsts=>rfl
 | o::os,i,dsts=>by simp[dI,eS]
def aYg (A:Ann)(ops:List Oper)(D:Nat->Prop):aE->Prop
 | .reg r=>D r
 | .loc j=>∀(k:Nat) (o:Oper),D k->ops[k]? = some o->∀t,o.dst=some t->A.slots[j]? ≠ some t
 | _=>True
theorem aM0 (h:MS P O K M J L S env w){nt:Nat}{ops:List Oper}{tops:List aM}{D:Nat->Prop}{rs:List TV}{a:Act}(hr:RR A nt ops tops D M J L env rs a){i:Nat}{x:Operand}{tx:aE}
  (hx:opd A ((ops.take i).map (·.dst)) x=some tx) (hd:aYg A ops D tx):VR M J L (bH K env rs tx) (a.eval x):=by
 cases x with
 | tmp t =>
  simp only[opd]at hx
  split at hx
  ·rename_i r hi
   simp at hx;subst hx
   have h1:=(vJ hi).2
   simp only[Nat.sub_zero,List.getElem?_map,Option.map_eq_some_iff]at h1
   obtain⟨o,h2,h3⟩:=h1
   rw[List.getElem?_take]at h2
   split at h2
   ·exact hr.reg r o t hd h2 h3
   ·simp at h2
  ·rename_i hi
   simp only[Option.map_eq_some_iff]at hx
   obtain⟨j,hj,rfl⟩:=hx
   have hjs:=lH hj
   exact hr.val j t hjs (fun k o hk ho e=>hd k o hk ho t e hjs)
 | const v =>
  simp only[opd,Option.map_eq_some_iff]at hx
  obtain⟨c,hc,rfl⟩:=hx
  exact .iv _ (aQg hc)
 | global g =>
  simp only[opd,Option.some.injEq]at hx
  subst hx
  simp only[bH]
  split
  ·rename_i cs hcs
   exact .iv _ (h.gl g cs hcs)
  ·exact .hole _ _
 | func f =>
  simp only[opd,Option.some.injEq]at hx
  subst hx
  exact .fn _ f [] [] #[] #[] rfl rfl (fun i x v hx=>by simp at hx) (fun i x v hx=>by simp at hx)
theorem kN {nt:Nat}{ops:List Oper}{tops:List aM}{D:Nat->Prop}{rs:List TV}{a:Act}(hr:RR A nt ops tops D M J L env rs a)(hd:sK nt ops){o:Oper}{b:Bool}(hg:dS o.guard rs=some b)
  (hgd:∀g want,o.guard=some (g,want)->D g∧∃og t,ops[g]? = some og∧og.dst=some t):Region.wanted o (yielded ops.toArray a.tmps)=b:=by
 unfold dS at hg
 unfold Region.wanted
 split at hg
 ·rename_i hn
  simp at hg
  rw[hn];simpa using hg
 ·rename_i g want hgs
  obtain⟨h1,og,t,h2,h3⟩:=hgd g want hgs
  rw[hgs]
  simp only
  have hvr:=hr.reg g og t h1 h2 h3
  have htl:t<a.tmps.size:=by rw[hr.sz];exact hd.2 g og t h2 h3
  have hy:yielded ops.toArray a.tmps g=(match a.tmps.getD t Go.undef with | .bool b=>some b|_=>none):=by
   unfold yielded
   simp only[List.getElem?_toArray,h2,Option.bind_some,h3]
   rw[Array.getElem?_eq_getElem htl]
   simp only[Array.getD_eq_getD_getElem?,Array.getElem?_eq_getElem htl,Option.getD_some]
   cases a.tmps[t]<;>rfl
  rw[hy]
  generalize a.tmps.getD t Go.undef=tv at hvr
  split at hg
  ·rename_i bb hb
   rw[hb]at hvr
   rw[hvr.bool_inv]
   simp at hg
   rw[<-hg]
   simp
  ·rename_i hb
   rw[hb]at hvr
   simp at hg;subst hg
   cases hvr with
   | tup L cs vs hs hv=>rfl
  ·simp at hg
structure nY (P:Program) (O:dM) (K:TM.bV) (orc:Orc):Prop where
 ok:aYc P O K orc
 body : ∀ k, (∃ fn, K.funcs k = some fn) → ∃ fn, P.funcs[k]? = some fn ∧ fn.body.isSome = true ∧ fn.name ≠ "runtime.NumGoroutine"
 known:∀k args S Q,(orc.call k args S).All Q->∃fn,K.funcs k=some fn
 mixed:P.follows .mixedOrders=true
theorem aAf {orc:Orc}{rs:List TV}{top:TOp}{j:Nat}(ht:aS top=some j){Q:TV×Env×aA->Prop}(h:(cN K orc top env rs S).All Q):
  rs.any (uB j)=false∧j<env.length∧(cN K orc top env rs S).All (fun r=>Q r∧r.1=.lp j 0∧∃cs,r.2.1=env.set j (.lb cs)):=by
 cases top with
 | allocL j' z =>
  simp only[aS,Option.some.injEq]at ht;subst ht
  simp only[cN,iY,iJ,bG,aR,bZ,iI]at h ⊢
  split at h
  ·exact h.elim
  ·rename_i hc
   simp only[Bool.or_eq_true,not_or]at hc
   rw[if_neg (by simp only[Bool.or_eq_true,not_or];exact hc)]
   exact⟨by simpa using hc.1,by simpa using hc.2,h,rfl,_,rfl⟩
 | boxL j' x =>
  simp only[aS,Option.some.injEq]at ht;subst ht
  simp only[cN,iY,iJ,bG,aR,bZ,iI]at h ⊢
  split at h
  ·exact h.elim
  ·rename_i hc
   simp only[Bool.or_eq_true,not_or]at hc
   rw[if_neg (by simp only[Bool.or_eq_true,not_or];exact hc)]
   exact⟨by simpa using hc.1.2,by simpa using hc.2,h,rfl,_,rfl⟩
 | _=>simp[aS]at ht
def OG (L L':List (Option Nat))(w w':World):Prop:=∀b,dC L' b->dC L b∨(w.heap.size<=b∧b<w'.heap.size)
theorem OG.refl (L:List (Option Nat))(w w':World):OG L L w w':=fun _ h=>.inl h
theorem OG.trans {L1 L2 L3:List (Option Nat)}{w1 w2 w3:World}(h:OG L1 L2 w1 w2)(k:OG L2 L3 w2 w3)(h12:w1.heap.size<=w2.heap.size)(h23:w2.heap.size<=w3.heap.size):OG L1 L3 w1 w3:=by
 intro b hb
 rcases k b hb with hb|⟨h1,h2⟩
 ·rcases h b hb with hb|⟨h3,h4⟩
  ·exact .inl hb
  ·exact .inr ⟨h3,by omega⟩
 ·exact .inr ⟨by omega,h2⟩
theorem OG.weak {L1 L2:List (Option Nat)}{w1 w2:World}(h:OG L1 L2 w1 w2)(b:Nat)(hb:dC L2 b):dC L1 b∨w1.heap.size<=b:=(h b hb).imp id And.left
theorem EL.own {jx:Option Nat}{L':List (Option Nat)}{M':Mem}{J':aD}{w':World}(el:EL w jx env env' L L')(h:MS P O K M J L S env w)(h':MS P O K M' J' L' S' env' w'):OG L L' w w':=by
 intro b hb
 cases jx with
 | none=>obtain⟨rfl,_⟩:=el;exact .inl hb
 | some j =>
  obtain⟨cs,cb,rfl,rfl,hle⟩:=el
  obtain⟨k,hk⟩:=hb
  by_cases hj:j<env.length
  ·rw[List.getElem?_set]at hk
   split at hk
   ·rename_i hjk
    split at hk
    ·simp at hk;subst hk
     obtain⟨cb',h1,h2⟩:=h'.lb.box j cs (List.getElem?_set_self hj)
     rw[List.getElem?_set_self (by rw[h.lb.len];exact hj)]at h1
     simp at h1;subst h1
     exact .inr ⟨hle,h2.lt⟩
    ·simp at hk
   ·exact .inl ⟨k,hk⟩
  ·rw[List.set_eq_of_length_le (by rw[h.lb.len];omega)]at hk
   exact .inl ⟨k,hk⟩
theorem aCq {dsts:List (Option Nat)}{nt:Nat}(hs:fE A nt){o:Oper}{to:aM}(hca:aCp P O A dsts o to)(ht:aS to.op=none)(hl:to.loc=none)(j t:Nat)(hd:o.dst=some t):A.slots[j]? ≠ some t:=by
 intro hj
 have:=hca.loc ht
 rw[hl,hd]at this
 simp only[Option.bind_some]at this
 rw[aQo hs hj]at this
 simp at this
theorem wV {rs:List TV}{i:Nat}(hi:i<rs.length)(v:TV):(rs.set i v).length=rs.length∧(rs.set i v).getD i .hole=v∧∀k,k≠i->(rs.set i v).getD k .hole=rs.getD k .hole :=
 ⟨by simp,by simp[List.getD,List.getElem?_set_self hi],fun k hk=>by simp[List.getD,List.getElem?_set_ne (Ne.symm hk)]⟩
def bLe (P:Program)(O:dM)(K:TM.bV)(A:Ann)(nt:Nat)(ops:List Oper)(tops:List aM)(D:Nat->Prop)(M:Mem)(J:aD)(L:List (Option Nat))(S:aA)(env:Env)(w:World)(a:Act)(rs:List TV)(i:Nat)(to:aM)
  (Q:List TV×Env×aA->Prop) (next:Act->World->Prop):Prop :=
 ∀(v:TV) (env':Env) (S':aA) (M':Mem) (J':aD) (L':List (Option Nat)) (w':World) (a':Act),Q (rs.set i v,env',S')->RR A nt ops tops (fun k=>D k∨k=i) M' J' L' env' (rs.set i v) a'->a'.defers=a.defers ->
  MS P O K M' J' L' S' env' w'->Tr (dC L) M J S w M' J' S' w'->OG L L' w w'->EL w (aS to.op) env env' L L'->next a' w'
theorem aFd {orc:Orc}(ha:nY P O K orc){F:Fence}(hF:dJ F)(n:Nat){nt:Nat}{ops:List Oper}{tops:List aM}(hd:sK nt ops)(hs:fE A nt){D:Nat->Prop}{i:Nat}{o:Oper}{to:aM}(hi:ops[i]? = some o)
  (hto:tops[i]? = some to) (hca:aCp P O A ((ops.take i).map (·.dst)) o to) {rs:List TV} {a:Act} (hr:RR A nt ops tops D M J L env rs a) (ms:MS P O K M J L S env w) (hopd:∀(x:Operand) (tx:aE),tx∈bC to.op->opd A ((ops.take i).map (·.dst)) x=some tx->aYg A ops D tx)
  (hgd:∀g want,o.guard=some (g,want)->D g∧∃og t,ops[g]? = some og∧og.dst=some t) (hnD:¬D i) {Q:List TV×Env×aA->Prop} (hq:(jN K orc to i rs env S).All Q) {next:Act->World->Prop}
  (hk:bLe P O K A nt ops tops D M J L S env w a rs i to Q next) {X:Exit->Act->World->Prop}:wpOpIn F n P ops.toArray X i next a w:=by
 have hil:i<rs.length:=by rw[hr.rl];exact(List.getElem?_eq_some_iff.1 hi).1
 unfold wpOpIn
 simp only[List.getElem?_toArray,hi]
 unfold jN at hq
 rw[hca.guard]at hq
 split at hq
 ·exact hq.elim
 ·rename_i hg
  have hw:=kN hr hd hg hgd
  rw[hw]
  simp only[Bool.false_eq_true,if_false]
  refine⟨fun f _=>hF.fn f,?_⟩
  have htn:aS to.op=none:=by
   cases ht:aS to.op with
   | none=>rfl
   | some j =>
    have:=(hca.tgt j ht).2.2
    rw[this]at hg
    simp[dS]at hg
  have el:EL w (aS to.op) env env L L:=by rw[htn];exact⟨rfl,.refl _⟩
  obtain⟨s1,s2,s3⟩:=wV hil undef
  refine hk undef env S M J L w _ hq (hr.step hd hs hi hto hnD (.refl (dC L) M J S w) el tO ⟨s1,s2,fun k hkD=>s3 k (fun e=>hnD (e▸hkD))⟩ (fun j hj=>by rw[htn]at hj;simp at hj) (fun _ hl j t hdt=>aCq hs hca htn hl j t hdt))
   nX ms (.refl _ _ _ _ _) (.refl _ _ _) el
 ·rename_i hg
  have hw:=kN hr hd hg hgd
  rw[hw]
  simp only[if_true]
  rw[Out.all_bind]at hq
  rcases hca.op with hbad|hcr
  ·rw[hbad]at hq;exact hq.elim
  ·have hv:aG2 A ((ops.take i).map (·.dst)) M J L (bH K env rs) a to.op:=fun x tx hm hx=>aM0 ms hr hx (hopd x tx hm hx)
   cases ht:aS to.op with
   | none =>
    refine zJ ha.ok ha.body ha.known hF n hcr ms hv hq (fun v env' S' M' J' L' w' v' hQ hvr hms tr el=>?_)
    obtain⟨s1,s2,s3⟩:=wV hil v
    exact hk v env' S' M' J' L' w' _ hQ (hr.step hd hs hi hto hnD tr el hvr ⟨s1,s2,fun k hkD=>s3 k (fun e=>hnD (e▸hkD))⟩ (fun j hj=>by rw[ht]at hj;simp at hj) (fun _ hl j t hdt=>aCq hs hca ht hl j t hdt))
     nX hms tr (el.own ms hms) el
   | some j =>
    obtain⟨h1,h2,h3⟩:=aAf ht hq
    refine zJ ha.ok ha.body ha.known hF n hcr ms hv h3 (fun v env' S' M' J' L' w' v' hQ hvr hms tr el=>?_)
    obtain⟨hQ,hv1,hv2⟩:=hQ
    obtain⟨s1,s2,s3⟩:=wV hil v
    refine hk v env' S' M' J' L' w' _ hQ (hr.step hd hs hi hto hnD tr el hvr ⟨s1,s2,fun k hkD=>s3 k (fun e=>hnD (e▸hkD))⟩ (fun j' hj'=>?_) (fun hn=>by rw[ht]at hn;simp at hn)) nX hms tr (el.own ms hms) el
    rw[ht]at hj'
    simp at hj';subst hj'
    have hsl:=(hca.tgt j ht).2.1
    simp only[Option.bind_eq_some_iff]at hsl
    obtain⟨d,hd1,hd2⟩:=hsl
    exact⟨h1,hv1,⟨d,hd1,lH hd2⟩,hv2,h2⟩
theorem RR.congr {nt:Nat}{ops:List Oper}{tops:List aM}{D D':Nat->Prop}{rs:List TV}{a:Act}(h:RR A nt ops tops D M J L env rs a)(hD:∀k,D k↔D' k):RR A nt ops tops D' M J L env rs a :=
 ⟨h.sz,h.len,h.nlp,h.rl,fun k o t hk=>h.reg k o t ((hD k).2 hk),fun j t hj hno=>h.val j t hj (fun k o hk=>hno k o ((hD k).1 hk)),fun k o to j t hk=>h.lbs k o to j t ((hD k).2 hk)⟩
theorem FR.rr {nt:Nat}{a:Act}(h:FR A nt M J L env a)(ops:List Oper)(tops:List aM):RR A nt ops tops (fun _=>False) M J L env (uG ops.length) a :=
 ⟨h.sz,h.len,h.nlp,by simp[uG],fun _ _ _ hk=>hk.elim,fun j t hj _=>h.val j t hj,fun _ _ _ _ _ hk=>hk.elim⟩
theorem aFe {nt:Nat}{ops:List Oper}(h:xW nt ops=true):sK nt ops:=by
 unfold xW at h
 simp only[Bool.and_eq_true,List.all_eq_true]at h
 have nd:∀ {l:List Nat},rY l=true->l.Nodup:=by
  intro l
  induction l with
  | nil=>intro _;exact .nil
  | cons a r ih =>
   intro hh
   simp only[rY,Bool.and_eq_true,Bool.not_eq_true']at hh
   exact List.nodup_cons.2 ⟨by simpa using hh.1,ih hh.2⟩
 refine⟨?_,fun k o t hk ht=>?_⟩
 ·have h1:=nd h.1
  clear h
  induction ops with
  | nil=>intro k k' o o' t hk;simp at hk
  | cons o0 r ih =>
   intro k k' o o' t hk hk' ht ht'
   have hr:(r.filterMap (·.dst)).Nodup:=by
    cases hd:o0.dst with
    | none=>simpa[List.filterMap_cons,hd] using h1
    | some d=>exact(List.nodup_cons.1 (by simpa[List.filterMap_cons,hd] using h1)).2
   have key:∀ {m:Nat} {om:Oper},o0.dst=some t->r[m]? = some om->om.dst=some t->False:=by
    intro m om h0 hm htm
    have h2:(t::r.filterMap (·.dst)).Nodup:=by simpa[List.filterMap_cons,h0] using h1
    exact(List.nodup_cons.1 h2).1 (List.mem_filterMap.2 ⟨om,List.mem_of_getElem? hm,htm⟩)
   cases k with
   | zero =>
    cases k' with
    | zero=>rfl
    | succ k'=>simp at hk hk';subst hk;exact(key ht hk' ht').elim
   | succ k =>
    cases k' with
    | zero=>simp at hk hk';subst hk';exact(key ht' hk ht).elim
    | succ k'=>simp at hk hk';rw[ih hr k k' o o' t hk hk' ht ht']
 ·have:=h.2 t (List.mem_filterMap.2 ⟨o,List.mem_of_getElem? hk,ht⟩)
  simpa using this
theorem aFf {all:List Oper}:∀ {os:List Oper} {i:Nat},aE2 all i os=true->∀ {k:Nat} {o:Oper},os[k]? = some o->∀g want,o.guard=some (g,want)->g<i+k∧∃og t,all[g]? = some og∧og.dst=some t
 | [],i,_,k,o,hk=>by simp at hk
 | o0::os,i,h,k,o,hk=>by
  simp only[aE2,Bool.and_eq_true]at h
  intro g want hg
  cases k with
  | zero =>
   simp at hk;subst hk
   have h1:=h.1
   rw[hg]at h1
   simp only[Bool.and_eq_true,decide_eq_true_eq]at h1
   refine⟨by omega,?_⟩
   have h2:=h1.2
   split at h2
   ·rename_i og hog
    obtain⟨t,ht⟩:=Option.isSome_iff_exists.1 h2
    exact⟨og,t,hog,ht⟩
   ·simp at h2
  | succ k =>
   simp at hk
   obtain⟨h1,h2⟩:=aFf h.2 hk g want hg
   exact⟨by omega,h2⟩
def aQp (P:Program)(O:dM)(K:TM.bV)(A:Ann)(nt:Nat)(ops:List Oper)(tops:List aM)(M:Mem)(J:aD)(L:List (Option Nat))(S:aA)(w:World)(a:Act)(Q:List TV×Env×aA->Prop)(next:Act->World->Prop):Prop :=
 ∀(rs':List TV) (env':Env) (S':aA) (M':Mem) (J':aD) (L':List (Option Nat)) (w':World) (a':Act),Q (rs',env',S')->RR A nt ops tops (·<ops.length) M' J' L' env' rs' a'->a'.defers=a.defers ->
  MS P O K M' J' L' S' env' w'->Tr (dC L) M J S w M' J' S' w'->OG L L' w w'->next a' w'
theorem bIv {orc:Orc}(ha:nY P O K orc){F:Fence}(hF:dJ F)(n:Nat){nt id:Nat}{ops:List Oper}(hd:sK nt ops)(hs:fE A nt)(hsq:aE2 ops 0 ops=true){X:Exit->Act->World->Prop}{Q:List TV×Env×aA->Prop}:
  ∀(m i:Nat) (rs:List TV) (env:Env) (S:aA) (M:Mem) (J:aD) (L:List (Option Nat)) (w:World) (a:Act),i+m=ops.length->RR A nt ops (dI P O A id false ops 0 []) (·<i) M J L env rs a->MS P O K M J L S env w ->
   (kI K orc ((dI P O A id false ops 0 []).drop i) i rs env S).All Q->aQp P O K A nt ops (dI P O A id false ops 0 []) M J L S w a Q (X .normal)->wpOpsIn F n P ops.toArray X (List.range' i m) a w:=by
 intro m
 induction m with
 | zero =>
  intro i rs env S M J L w a him hr ms hq hk
  have hdrop:(dI P O A id false ops 0 []).drop i=[]:=List.drop_eq_nil_of_le (by rw[eS];omega)
  rw[hdrop]at hq
  simp only[List.range'_zero,wpOpsIn]
  exact hk rs env S M J L w a hq (hr.congr (fun k=>by constructor<;>intro h<;>omega)) rfl ms (.refl _ _ _ _ _) (.refl _ _ _)
 | succ m ih =>
  intro i rs env S M J L w a him hr ms hq hk
  have hil:i<ops.length:=by omega
  have hi:ops[i]? = some ops[i]:=List.getElem?_eq_getElem hil
  obtain⟨to,hto,hca⟩:=mF (P:=P) (O:=O) (A:=A) (id:=id) (draw:=false) (i:=0) (dsts:=[]) hi
  have hdrop:(dI P O A id false ops 0 []).drop i=to::(dI P O A id false ops 0 []).drop (i+1):=by
   have hlt:i<(dI P O A id false ops 0 []).length:=by rw[eS];exact hil
   rw[List.drop_eq_getElem_cons hlt]
   rw[List.getElem?_eq_getElem hlt]at hto
   simp at hto
   rw[hto]
  rw[hdrop]at hq
  simp only[kI]at hq
  rw[Out.all_bind]at hq
  rw[List.range'_succ,wpOpsIn_cons]
  refine aFd ha hF n hd hs hi hto (by simpa using hca) hr ms (fun x tx _ hx=>?_) (fun g want hg=>?_) (by omega) hq ?_
  ·cases x with
   | tmp t =>
    simp only[opd]at hx
    split at hx
    ·rename_i r hidx
     simp at hx;subst hx
     have h1:=(List.getElem?_eq_some_iff.1 (vJ hidx).2).1
     simp at h1
     show r<i
     omega
    ·rename_i hidx
     simp only[Option.map_eq_some_iff]at hx
     obtain⟨j,hj,rfl⟩:=hx
     intro k o hk ho t' ht' hjt
     rw[lH hj]at hjt
     simp at hjt;subst hjt
     refine aCo hidx k ?_
     simp only[List.getElem?_map,List.getElem?_take,if_pos hk,ho,Option.map_some,ht']
   | const v =>
    simp only[opd,Option.map_eq_some_iff]at hx
    obtain⟨c,_,rfl⟩:=hx
    trivial
   | global g=>simp[opd]at hx;subst hx;trivial
   | func f=>simp[opd]at hx;subst hx;trivial
  ·obtain⟨h1,h2⟩:=aFf hsq hi g want hg
   exact⟨by omega,h2⟩
  ·intro v env' S' M' J' L' w' a' hQ hr' hdf ms' tr hown _
   refine ih (i+1) _ env' S' M' J' L' w' a' (by omega) (hr'.congr (fun k=>by constructor<;>intro h<;>omega)) ms' hQ ?_
   intro rs2 env2 S2 M2 J2 L2 w2 a2 hQ2 hr2 hdf2 ms2 tr2 hown2
   refine hk rs2 env2 S2 M2 J2 L2 w2 a2 hQ2 hr2 (hdf2.trans hdf) ms2 (tr.trans tr2 hown.weak) (hown.trans hown2 tr.size tr2.size)
theorem iO:∀ {os:List aM} {i:Nat} {rs:List TV} {env env2:Env},fJ os i rs env=some env2 ->
  env2.length=env.length∧(∀(j:Nat),(∀(k:Nat) (o:aM),os[k]? = some o->o.loc≠some j)->env2[j]? = env[j]?) ∧
  (∀(k:Nat) (o:aM) (j:Nat),os[k]? = some o->o.loc=some j->eE (rs.getD (i+k) .hole)=false ∧
   ((∀(k':Nat) (o':aM),os[k']? = some o'->o'.loc=some j->k'=k)->j<env.length->env2[j]? = some (rs.getD (i+k) .hole)))
 | [],i,rs,env,env2,h=>by
  simp[fJ]at h;subst h
  exact⟨rfl,fun _ _=>rfl,fun k o j hk=>by simp at hk⟩
 | o0::os,i,rs,env,env2,h=>by
  simp only[fJ]at h
  split at h
  ·rename_i hl0
   obtain⟨h1,h2,h3⟩:=iO h
   refine⟨h1,fun j hj=>h2 j (fun k o hk=>hj (k+1) o (by simpa using hk)),fun k o j hk hl=>?_⟩
   cases k with
   | zero=>simp at hk;subst hk;rw[hl0]at hl;simp at hl
   | succ k =>
    have:=h3 k o j (by simpa using hk) hl
    rw[show i+1+k=i+(k+1) by omega]at this
    exact⟨this.1,fun hu=>this.2 (fun k' o' hk' hl'=>by have:=hu (k'+1) o' (by simpa using hk') hl';omega)⟩
  ·rename_i j0 hl0
   split at h
   ·simp at h
   ·rename_i hlp
    obtain⟨h1,h2,h3⟩:=iO h
    refine⟨by rw[h1];simp,fun j hj=>?_,fun k o j hk hl=>?_⟩
    ·rw[h2 j (fun k o hk=>hj (k+1) o (by simpa using hk))]
     have:j0≠j:=fun e=>hj 0 o0 rfl (by rw[hl0,e])
     rw[List.getElem?_set_ne this]
    ·cases k with
     | zero =>
      simp at hk;subst hk
      rw[hl0]at hl
      simp at hl;subst hl
      refine⟨by simpa using hlp,fun hu hlt=>?_⟩
      rw[h2 j0 (fun k o hk hl=>by have:=hu (k+1) o (by simpa using hk) hl;omega)]
      rw[List.getElem?_set_self hlt];simp
     | succ k =>
      have:=h3 k o j (by simpa using hk) hl
      rw[show i+1+k=i+(k+1) by omega]at this
      exact⟨this.1,fun hu hlt=>this.2 (fun k' o' hk' hl'=>by have:=hu (k'+1) o' (by simpa using hk') hl';omega) (by simpa using hlt)⟩
theorem RR.back {nt:Nat}{ops:List Oper}{tops:List aM}{rs:List TV}{a:Act}(h:RR A nt ops tops (·<ops.length) M J L env rs a)(hd:sK nt ops)(hs:fE A nt)(htl:tops.length=ops.length)
  (hca:∀(k:Nat) (o:Oper) (to:aM),ops[k]? = some o->tops[k]? = some to->∃dsts,aCp P O A dsts o to) {env2:Env} (hb:fJ tops 0 rs env=some env2):
  FR A nt M J L env2 a∧(∀(j:Nat) (cs:List TV),env2[j]? = some (.lb cs)->env[j]? = some (.lb cs)):=by
 obtain⟨h1,h2,h3⟩:=iO hb
 have locSlot:∀(k:Nat) (o:Oper) (to:aM) (j:Nat),ops[k]? = some o->tops[k]? = some to->to.loc=some j->∃t,o.dst=some t∧A.slots[j]? = some t:=by
  intro k o to j hk hto hl
  obtain⟨dsts,hc⟩:=hca k o to hk hto
  have ht:aS to.op=none:=by
   cases ht:aS to.op with
   | none=>rfl
   | some j'=>rw[(hc.tgt j' ht).1]at hl;simp at hl
  have:=hc.loc ht
  rw[hl]at this
  obtain⟨t,ht1,ht2⟩:=Option.bind_eq_some_iff.1 this.symm
  exact⟨t,ht1,lH ht2⟩
 have opOf:∀(k:Nat) (to:aM),tops[k]? = some to->∃o,ops[k]? = some o:=by
  intro k to hto
  have hlt:k<ops.length:=by rw[<-htl];exact(List.getElem?_eq_some_iff.1 hto).1
  exact⟨_,List.getElem?_eq_getElem hlt⟩
 have uniq:∀(k k':Nat) (to to':aM) (j:Nat),tops[k]? = some to->tops[k']? = some to'->to.loc=some j->to'.loc=some j->k'=k:=by
  intro k k' to to' j hto hto' hl hl'
  obtain⟨o,ho⟩:=opOf k to hto
  obtain⟨o',ho'⟩:=opOf k' to' hto'
  obtain⟨t,e1,e2⟩:=locSlot k o to j ho hto hl
  obtain⟨t',e3,e4⟩:=locSlot k' o' to' j ho' hto' hl'
  rw[e2]at e4
  simp at e4;subst e4
  exact hd.1 k' k o' o t ho' ho e3 e1
 -- each slot: written back,or as it was
 have slots:∀j,(∃k o to,tops[k]? = some to∧ops[k]? = some o∧to.loc=some j∧(j<env.length->env2[j]? = some (rs.getD k .hole))∧eE (rs.getD k .hole)=false)∨((∀(k:Nat) (to:aM),tops[k]? = some to->to.loc≠some j)∧env2[j]? = env[j]?):=by
  intro j
  by_cases hex:∃(k:Nat) (to:aM),tops[k]? = some to∧to.loc=some j
  ·obtain⟨k,to,hto,hl⟩:=hex
   obtain⟨o,ho⟩:=opOf k to hto
   have:=h3 k to j hto hl
   rw[Nat.zero_add]at this
   exact .inl ⟨k,o,to,hto,ho,hl,this.2 (fun k' o' hk' hl'=>uniq k k' to o' j hto hk' hl hl'),this.1⟩
  ·have hno:∀(k:Nat) (to:aM),tops[k]? = some to->to.loc≠some j:=fun k to hto hl=>hex ⟨k,to,hto,hl⟩
   exact .inr ⟨hno,h2 j hno⟩
 refine⟨⟨h.sz,h1.trans h.len,fun j x hx hl=>?_,fun j t hj=>?_⟩,fun j cs hj=>?_⟩
 ·rcases slots j with⟨k,o,to,_,_,_,he,hn⟩|⟨_,he⟩
  ·have hlt:j<env.length:=by rw[<-h1];exact(List.getElem?_eq_some_iff.1 hx).1
   rw[he hlt]at hx
   have hx:=Option.some.inj hx
   rw[<-hx,hn]at hl;simp at hl
  ·exact h.nlp j x (by rw[<-he];exact hx) hl
 ·have hlt:j<env.length:=by rw[h.len];exact(List.getElem?_eq_some_iff.1 hj).1
  rcases slots j with⟨k,o,to,hto,ho,hl,he,hn⟩|⟨hno,he⟩
  ·obtain⟨t',e1,e2⟩:=locSlot k o to j ho hto hl
   rw[hj]at e2
   simp at e2;subst e2
   have hvr:=h.reg k o t (by show k<ops.length;exact(List.getElem?_eq_some_iff.1 ho).1) ho e1
   have:eR env2 j=rs.getD k .hole:=by
    have h5:env2.getD j .hole=rs.getD k .hole:=by simp[List.getD,he hlt]
    unfold eR
    rw[h5]
    cases hx:rs.getD k .hole<;>first|rfl|(rw[hx]at hn;simp[eE]at hn)
   rw[this];exact hvr
  ·have:eR env2 j=eR env j:=by unfold eR;simp[List.getD,he]
   rw[this]
   by_cases hw:∃(k:Nat) (o:Oper),ops[k]? = some o∧o.dst=some t
   ·obtain⟨k,o,ho,ht⟩:=hw
    have hkl:k<tops.length:=by rw[htl];exact(List.getElem?_eq_some_iff.1 ho).1
    have hto:tops[k]? = some tops[k]:=List.getElem?_eq_getElem hkl
    have hl0:tops[k].loc=none:=by
     cases hl:tops[k].loc with
     | none=>rfl
     | some j' =>
      obtain⟨t',e1,e2⟩:=locSlot k o _ j' ho hto hl
      rw[ht]at e1
      simp at e1;subst e1
      have:j'=j:=(List.getElem?_inj (by exact(List.getElem?_eq_some_iff.1 e2).1) hs.1).1 (by rw[e2,hj])
      subst this
      exact absurd hl (hno k _ hto)
    exact h.lbs k o _ j t (by show k<ops.length;exact(List.getElem?_eq_some_iff.1 ho).1) ho hto hl0 ht hj
   ·exact h.val j t hj (fun k o _ ho e=>hw ⟨k,o,ho,e⟩)
 ·rcases slots j with⟨k,o,to,_,_,_,he,hn⟩|⟨_,he⟩
  ·have hlt:j<env.length:=by rw[<-h1];exact(List.getElem?_eq_some_iff.1 hj).1
   rw[he hlt]at hj
   have hj:=Option.some.inj hj
   rw[hj]at hn;simp[eE]at hn
  ·rw[<-he];exact hj
def JR:bR->Exit->Prop
 | .normal,.normal=>True
 | .exit id,.exit id'=>id=id'
 | .ret,.ret=>True
 | _,_=>False
def aJp (base:Nat)(J:aD)(L:List (Option Nat))(w:World)(ds:List Deferred):Prop :=
 ∃bs:List Nat,ds=bs.map (fun b=>({target:=.collected b,args:=#[]}:Deferred))∧bs.Nodup∧∀b∈bs,base<=b∧w.heap[b]? = some (.deferred (some []))∧¬J.has b∧¬dC L b
theorem aJp.step {base:Nat}{ds:List Deferred}{M':Mem}{J':aD}{L':List (Option Nat)}{w':World}(h:aJp base J L w ds)(tr:Tr (dC L) M J S w M' J' S' w')(og:OG L L' w w'):aJp base J' L' w' ds:=by
 obtain⟨bs,h1,h2,h3⟩:=h
 refine⟨bs,h1,h2,fun b hb=>?_⟩
 obtain⟨e1,e2,e3,e4⟩:=h3 b hb
 have hlt:=fV e2
 refine⟨e1,(tr.frame b hlt e3 e4).trans e2,tr.has hlt e3,fun ho=>?_⟩
 rcases og b ho with h4|⟨h4,_⟩
 ·exact e4 h4
 ·omega
variable (P O K A) in
structure CS (base nt:Nat) (M:Mem) (J:aD) (L:List (Option Nat)) (S:aA) (env:Env) (w:World) (a:Act):Prop where
 fr:FR A nt M J L env a
 ms:MS P O K M J L S env w
 mks:aJp base J L w a.defers
 lt:∀b,dC L b->b<w.heap.size
 ba:base<=w.heap.size
variable (P O K A) in
def sL (base nt:Nat)(M:Mem)(J:aD)(L:List (Option Nat))(S:aA)(w:World)(Q:bR×Env×aA->Prop)(X:Exit->Act->World->Prop):Prop :=
 ∀(j:bR) (env':Env) (S':aA) (M':Mem) (J':aD) (L':List (Option Nat)) (w':World) (a':Act) (e:Exit),Q (j,env',S')->JR j e->CS P O K A base nt M' J' L' S' env' w' a'->Tr (dC L) M J S w M' J' S' w'->OG L L' w w'->X e a' w'
theorem sL.next {base nt:Nat}{Q:bR×Env×aA->Prop}{X:Exit->Act->World->Prop}(h:sL P O K A base nt M J L S w Q X){M':Mem}{J':aD}{L':List (Option Nat)}{w':World}(tr:Tr (dC L) M J S w M' J' S' w')(og:OG L L' w w'):
  sL P O K A base nt M' J' L' S' w' Q X:=fun j env2 S2 M2 J2 L2 w2 a2 e hq hj cs tr2 og2 =>
 h j env2 S2 M2 J2 L2 w2 a2 e hq hj cs (tr.trans tr2 og.weak) (og.trans og2 tr.size tr2.size)
theorem OG.lt {L':List (Option Nat)}{w':World}(og:OG L L' w w')(h:∀b,dC L b->b<w.heap.size)(hs:w.heap.size<=w'.heap.size)(b:Nat)(hb:dC L' b):b<w'.heap.size:=by
 rcases og b hb with h1|⟨_,h1⟩
 ·exact Nat.lt_of_lt_of_le (h b h1) hs
 ·exact h1
theorem MS.back (h:MS P O K M J L S env w){env2:Env}(hl:env2.length=env.length)(hb:∀(j:Nat) (cs:List TV),env2[j]? = some (.lb cs)->env[j]? = some (.lb cs)):MS P O K M J L S env2 w :=
 ⟨h.wr,⟨by rw[hl];exact h.lb.len,fun j cs hj=>h.lb.box j cs (hb j cs hj),fun j k cs cs' cb hj hk=>h.lb.inj j k cs cs' cb (hb j cs hj) (hb k cs' hk)⟩,h.gl⟩
variable (P O K) in
def yC (orc:Orc):Prop :=
 ∀(A:Ann) (nt:Nat),fE A nt->∀(F:Fence),dJ F->∀(n:Nat) (c:Code) (env:Env) (S:aA) (Q:bR×Env×aA->Prop),(orc.loop (bI P O A nt c) env S).All Q->(F.round=none∨dT (bI P O A nt c)=true) ->
  ∀(base:Nat) (M:Mem) (J:aD) (L:List (Option Nat)) (w:World) (a:Act) (X:Exit->Act->World->Prop),CS P O K A base nt M J L S env w a->sL P O K A base nt M J L S w Q X->(Code.loop c).wpIn F n P X a w
theorem FR.opd {nt:Nat}{a:Act}(h:FR A nt M J L env a)(ms:MS P O K M J L S env w){x:Operand}{tx:aE}(hx:opd A [] x=some tx):VR M J L (bH K env [] tx) (a.eval x):=by
 have:=aM0 (ops:=[]) (tops:=[]) (D:=fun _=>False) (i:=0) ms (h.rr [] []) (x:=x) (tx:=tx) (by simpa using hx) (by
  cases tx with
  | reg r =>
   cases x with
   | tmp t =>
    simp only[TM.opd,yX]at hx
    simp at hx
   | const v=>simp[TM.opd]at hx
   | global g=>simp[TM.opd]at hx
   | func f=>simp[TM.opd]at hx
  | loc j=>intro k o hk;exact hk.elim
  | cst v=>trivial
  | fn f=>trivial
  | glob g=>trivial)
 exact this
theorem aR7 {orc:Orc}(ha:nY P O K orc){F:Fence}(hF:dJ F)(n:Nat){base nt id:Nat}(hs:fE A nt){ops:Array Oper}(hd:xW nt ops.toList=true)(hsq:aE2 ops.toList 0 ops.toList=true)
  {Q:bR×Env×aA->Prop} (hq:(fD K orc (.region (dI P O A id false ops.toList 0 [])) env S).All Q) {a:Act} {X:Exit->Act->World->Prop} (cs:CS P O K A base nt M J L S env w a) (hk:sL P O K A base nt M J L S w Q X):
  (Code.region id ops false).wpIn F n P X a w:=by
 simp only[fD]at hq
 rw[Out.all_bind]at hq
 refine wpIn_region ?_
 have hd':=aFe hd
 have:=bIv ha hF n (id:=id) hd' hs hsq (X:=X) ops.toList.length 0 (uG (dI P O A id false ops.toList 0 []).length) env S M J L w a (by omega) (by
  rw[eS]
  exact(cs.fr.rr ops.toList _).congr (fun k=>by constructor;exact fun h=>h.elim;intro h;omega)) cs.ms (by simpa using hq) (by
  intro rs' env' S' M' J' L' w' a' hQ hr hdf ms tr og
  simp only at hQ
  split at hQ
  ·rename_i env2 hwb
   obtain⟨hfr,hlb⟩:=hr.back (P:=P) (O:=O) hd' hs eS (fun k o to ho hto=>by
    obtain⟨to',h1,h2⟩:=mF (P:=P) (O:=O) (A:=A) (id:=id) (draw:=false) (i:=0) (dsts:=[]) ho
    rw[hto]at h1
    simp at h1;subst h1
    exact⟨_,h2⟩) hwb
   exact hk _ env2 S' M' J' L' w' a' .normal hQ trivial ⟨hfr,ms.back (iO hwb).1 hlb,by rw[hdf];exact cs.mks.step tr og,og.lt cs.lt tr.size,Nat.le_trans cs.ba tr.size⟩ tr og
  ·exact hQ.elim)
 rw[List.range_eq_range']
 simpa using this
end
end Go.TM
namespace Go.TM
open Go
section
variable {K:TM.bV}
mutual
theorem aFg:∀ {a b:IV},gH a b=true->a=b
 | .bool a,b,h=>by cases b<;>simp[gH]at h;subst h;rfl
 | .int k n,b,h=>by cases b<;>simp[gH]at h;obtain⟨rfl,rfl⟩:=h;rfl
 | .str s,b,h=>by cases b<;>simp[gH]at h;subst h;rfl
 | .sl t l,b,h=>by
  cases b<;>simp only[gH,Bool.and_eq_true,beq_iff_eq,Bool.false_eq_true]at h
  obtain⟨rfl,h2⟩:=h;rw[sM h2]
 | .agg l,b,h=>by
  cases b<;>simp only[gH,Bool.false_eq_true]at h
  rw[qP h]
 | .cp l,b,h=>by
  cases b<;>simp only[gH,Bool.false_eq_true]at h
  rw[qP h]
 | .nilp,b,h=>by cases b<;>simp[gH]at h;rfl
 | .nilm,b,h=>by cases b<;>simp[gH]at h;rfl
 | .nilf,b,h=>by cases b<;>simp[gH]at h;rfl
 | .nili,b,h=>by cases b<;>simp[gH]at h;rfl
theorem qP:∀ {a b:List IV},lO a b=true->a=b
 | [],b,h=>by cases b<;>simp[lO]at h;rfl
 | a::as,b,h=>by
  cases b with
  | nil=>simp[lO]at h
  | cons b bs =>
   simp only[lO,Bool.and_eq_true]at h
   rw[aFg h.1,qP h.2]
theorem sM:∀ {a b:List (List IV)},kH a b=true->a=b
 | [],b,h=>by cases b<;>simp[kH]at h;rfl
 | a::as,b,h=>by
  cases b with
  | nil=>simp[kH]at h
  | cons b bs =>
   simp only[kH,Bool.and_eq_true]at h
   rw[qP h.1,sM h.2]
end
theorem aJq {a b:TV}(h:aIz a b=true):a=b:=by
 cases a<;>cases b<;>simp only[aIz,Bool.and_eq_true,beq_iff_eq,Bool.false_eq_true]at h
 ·rw[aFg h]
 ·obtain⟨rfl,rfl⟩:=h;rfl
 ·obtain⟨⟨rfl,rfl⟩,rfl⟩:=h;rfl
 ·obtain⟨⟨⟨⟨⟨rfl,rfl⟩,rfl⟩,rfl⟩,rfl⟩,rfl⟩:=h;rfl
 ·obtain⟨rfl,h⟩:=h;rw[sM h]
 ·subst h;rfl
theorem sN:∀ {a b:List TV},wD a b=true->a=b
 | [],b,h=>by cases b<;>simp[wD]at h;rfl
 | a::as,b,h=>by
  cases b with
  | nil=>simp[wD]at h
  | cons b bs =>
   simp only[wD,Bool.and_eq_true]at h
   rw[aJq h.1,sN h.2]
theorem aP7 {a b:TV}(h:same a b=true):a=b:=by
 unfold same at h
 split at h
 ·simp only[Bool.and_eq_true,beq_iff_eq]at h
  obtain⟨⟨rfl,h1⟩,h2⟩:=h
  rw[sN h1,sN h2]
 ·rw[sN h]
 ·rw[sN h]
 ·exact aJq h
theorem aCr {e e':aE->TV}:∀ {ps:List (Nat×Nat×aE)} {cs:List TV},(∀x∈ps.map (·.2.2),e x=e' x)->fill cs e ps=fill cs e' ps
 | [],_,_=>rfl
 | (off,n,x)::r,cs,h=>by
  simp only[fill]
  rw[h x (by simp)]
  split
  ·exact aCr (fun y hy=>h y (by simp at hy ⊢;exact .inr hy))
  ·rfl
theorem qQ {e e':aE->TV}{n:Nat}:∀ {ps:List (Nat×aE)} {es:List (List TV)},(∀x∈ps.map (·.2),e x=e' x)->dZ es n e ps=dZ es n e' ps
 | [],_,_=>rfl
 | (i,x)::r,es,h=>by
  simp only[dZ]
  rw[h x (by simp)]
  split
  ·exact qQ (fun y hy=>h y (by simp at hy ⊢;exact .inr hy))
  ·rfl
theorem yD {e e':aE->TV}{xs:List aE}(h:∀x∈xs,e x=e' x):xs.map e=xs.map e':=List.map_congr_left h
theorem pB {e e':aE->TV}{x:Option aE}(h:∀y∈x.toList,e y=e' y):nB e x=nB e' x:=by
 cases x with
 | none=>rfl
 | some x=>simp only[nB];rw[h x (by simp)]
theorem wW {op:TOp}{e e':aE->TV}(h:∀x∈bC op,e x=e' x):bG op e=bG op e':=by
 cases op<;>simp only[bC,List.mem_cons,List.mem_nil_iff,List.mem_append,or_false,forall_eq_or_imp,forall_eq]at h<;>simp only[bG]
 case mov=>rw[h]
 case pick=>rw[h.1,h.2.1,h.2.2]
 case build=>rw[aCr h]
 case lit mu z len ps =>
  cases mu
  ·simp only;rw[qQ h]
  ·rfl
 case nilCheck=>rw[h]
 case bin=>rw[h.1,h.2]
 case eqB=>rw[h.1,h.2]
 case eqAgg=>rw[h.1,h.2]
 case un=>rw[h]
 case conv=>rw[h]
 case mkFn f xs ys =>
  rw[yD (fun x hx=>h x (.inl hx)),yD (fun x hx=>h x (.inr hx))]
 case fieldAddr=>rw[h]
 case field=>rw[h]
 case indexAddrS=>rw[h.1,h.2]
 case indexAddrA=>rw[h.1,h.2]
 case indexA=>rw[h.1,h.2]
 case indexS=>rw[h.1,h.2]
 case extract=>rw[h]
 case cap=>rw[h]
 case minmax=>rw[yD h]
theorem aG8 {op:TOp}{e e':aE->TV}(env:Env)(S:aA)(h:∀x∈bC op,e x=e' x):aR op e env S=aR op e' env S:=by
 cases op<;>simp only[bC,List.mem_cons,List.mem_nil_iff,List.mem_append,or_false,forall_eq_or_imp,forall_eq]at h<;>simp only[aR]
 case load1=>rw[h]
 case loadN=>rw[h]
 case conv k x=>cases k<;>simp only<;>rw[h]
 case slice k x lo hi mx =>
  rw[h.1,pB (fun y hy=>h.2 y (.inl (.inl hy))),pB (fun y hy=>h.2 y (.inl (.inr hy))),pB (fun y hy=>h.2 y (.inr hy))]
 case lookup=>rw[h.1,h.2]
 case entryM=>rw[h]
 case len=>rw[h]
theorem pC {op:TOp}{e e':aE->TV}(n:Nat)(h:∀x∈bC op,e x=e' x):bZ op e n=bZ op e' n:=by
 cases op<;>simp only[bC,List.mem_cons,List.mem_nil_iff,List.mem_append,or_false,forall_eq_or_imp,forall_eq]at h<;>simp only[bZ]
 case boxH=>rw[h]
 case lit=>rw[qQ h]
 case mkSlice=>rw[h.1,h.2]
theorem aJr {op:TOp}{e:aE->TV}{n:Nat}{v:TV}{b:aP}(h:bZ op e n=some (v,b)):∃vf:Nat->TV,vf n=v∧∀m,bZ op e m=some (vf m,b):=by
 cases op<;>simp only[bZ]at h ⊢<;>try (simp at h;done)
 case allocH t z=>simp at h;obtain⟨rfl,rfl⟩:=h;exact⟨fun m=>.ptr m t 0,rfl,fun m=>rfl⟩
 case boxH t x =>
  split at h
  ·simp at h
  ·rename_i hc
   simp at h;obtain⟨rfl,rfl⟩:=h;exact⟨fun m=>.ptr m t 0,rfl,fun m=>by simp only[if_neg hc]⟩
 case lit mu z len ps =>
  split at h
  ·rename_i es hes
   simp at h;obtain⟨rfl,rfl⟩:=h
   exact⟨fun m=>.msl m 0 0 es.length es.length z.length,rfl,fun m=>rfl⟩
  ·simp at h
 case mkMap=>simp at h;obtain⟨rfl,rfl⟩:=h;exact⟨fun m=>.map m,rfl,fun m=>rfl⟩
 case mkSlice z bytes l c =>
  split at h
  ·rename_i l' c' _ _
   split at h
   ·rename_i hc
    simp at h;obtain⟨rfl,rfl⟩:=h
    refine⟨fun m=>.msl m 0 0 l'.toNat c'.toNat z.length,rfl,fun m=>?_⟩
    simp only[if_pos hc]
   ·simp at h
  ·simp at h
theorem aJs {op:TOp}{e:aE->TV}{env:Env}{S:aA}(h:wF op=false):aR op e env S=none:=by
 cases op<;>simp only[wF,Bool.true_eq_false]at h<;>simp only[aR]
 case conv k x=>cases k<;>simp only[Bool.true_eq_false]at h<;>simp only
theorem eL {α:Type}{l:List α}{i:Nat}{x:α}(t:List α)(h:l[i]? = some x):(l++t)[i]? = some x:=by
 rw[List.getElem?_append_left (List.getElem?_eq_some_iff.1 h).1];exact h
theorem uO {env:Env}{S:aA}(T:aA){a:TV}{n:Nat}{cs:List TV}(h:bL env S a n=some cs):bL env (S++T) a n=some cs:=by
 unfold bL at h ⊢
 split at h
 ·exact h
 ·split at h
  ·rename_i hs;simp only[eL T hs];exact h
  ·rename_i hs;simp only[eL T hs];exact h
  ·simp at h
 ·exact h
 ·simp at h
theorem aG9 {S:aA}(T:aA){a:TV}{l:List (List IV)}(h:fB S a=some l):fB (S++T) a=some l:=by
 unfold fB at h ⊢
 split at h
 ·exact h
 ·exact h
 ·split at h
  ·rename_i hs;simp only[eL T hs];exact h
  ·rename_i hs;simp only[eL T hs];exact h
  ·simp at h
 ·simp at h
theorem aM1 {S:aA}(T:aA){a:TV}{n:Nat}(h:lenOf S a=some n):lenOf (S++T) a=some n:=by
 unfold lenOf at h ⊢
 split at h
 all_goals first
  | exact h
  | skip
 split at h
 ·rename_i hs;simp only[eL T hs];exact h
 ·simp at h
theorem aM2 {S:aA}(T:aA){b v:Nat}(h:yW S b v=true):yW (S++T) b v=true:=by
 unfold yW at h ⊢
 split at h
 ·rename_i hs;simp only[eL T hs];exact h
 ·rename_i hs;simp only[eL T hs];exact h
 ·simp at h
theorem aHa {S:aA}(T:aA){k:SK}{x r:TV}{lo hi mx:Option Int}(h:cH S k x lo hi mx=some r):cH (S++T) k x lo hi mx=some r:=by
 unfold cH at h ⊢
 split at h
 ·exact h
 ·exact h
 ·exact h
 ·exact h
 ·split at h
  ·simp at h
  ·rename_i hc
   rw[not_or]at hc
   have hv:yW (S++T) _ _=true:=aM2 T (by simpa using hc.2)
   rw[if_neg (by rw[not_or];exact⟨hc.1,by rw[hv];simp⟩)]
   exact h
 ·split at h
  ·split at h
   ·rename_i hs;simp only[eL T hs];exact h
   ·simp at h
  ·exact h
  ·simp at h
 ·simp at h
theorem zL {kk:KK}{S:aA}(T:aA){m:TV}{k:IV}{r:Option (Nat×TV)}(h:qI kk S m k=some r):qI kk (S++T) m k=some r:=by
 unfold qI at h ⊢
 split at h
 ·exact h
 ·split at h
  ·rename_i hs;simp only[eL T hs];exact h
  ·simp at h
 ·simp at h
theorem aJt {op:TOp}{e:aE->TV}{env:Env}{S:aA}(T:aA){v:TV}(h:aR op e env S=some v):aR op e env (S++T)=some v:=by
 cases op<;>simp only[aR]at h ⊢<;>try (simp at h;done)
 case load1 =>
  split at h
  ·rename_i cs hg;rw[uO T hg];exact h
  ·simp at h
 case loadN =>
  split at h
  ·rename_i cs hg;rw[uO T hg];exact h
  ·simp at h
 case conv k x =>
  cases k<;>simp only at h ⊢<;>try (simp at h;done)
  split at h
  ·rename_i l hl;rw[aG9 T hl];exact h
  ·simp at h
 case slice =>
  split at h
  ·rename_i h1 h2 h3
   exact aHa T h
  ·simp at h
 case lookup =>
  split at h
  ·split at h
   ·simp at h
   ·rename_i hk
    rw[if_neg hk]
    split at h
    ·rename_i hl;rw[zL T hl];exact h
    ·rename_i hl;rw[zL T hl];exact h
    ·simp at h
  ·simp at h
 case entryM =>
  split at h
  ·split at h
   ·rename_i hs
    simp only[eL T hs]
    split at h
    ·rename_i hm hst
     simp only[eL T hm,hst]
     exact h
    ·simp at h
   ·simp at h
  ·simp at h
 case len =>
  split at h
  ·rename_i hk
   rw[if_pos hk]
   simp only[Option.map_eq_some_iff]at h ⊢
   obtain⟨n,hn,rfl⟩:=h
   exact⟨n,aM1 T hn,rfl⟩
  ·simp at h
theorem aR8 {op:TOp}{env rs:List TV}{S:aA}(T:aA){v:TV}(h:iJ K op env rs S=some v):iJ K op env rs (S++T)=some v:=by
 unfold iJ at h ⊢
 split at h
 ·exact h
 ·exact aJt T h
theorem aCs {op:TOp}{env rs rs':List TV}{S:aA}(h:∀x∈bC op,bH K env rs x=bH K env rs' x):iJ K op env rs S=iJ K op env rs' S:=by
 unfold iJ
 rw[wW h,aG8 env S h]
end
end Go.TM
namespace Go.TM
open Go
section
variable {P:Program}{O:dM}{K:TM.bV}{A:Ann}
variable {M:Mem}{J:aD}{L:List (Option Nat)}{S S':aA}{env env':Env}{w:World}
def B (bef:List Nat)(i j:Nat):Prop:=(bef.getD i 0).testBit j=true
def aQq (K:TM.bV)(tops:List aM)(env rs:List TV)(S:aA)(y:Nat):Prop :=
 ∃to,tops[y]? = some to∧((dS to.guard rs=some false∧rs.getD y .hole=undef)∨(dS to.guard rs=some true∧iJ K to.op env rs S=some (rs.getD y .hole)))
def aQr (K:TM.bV)(tops:List aM)(env rs:List TV)(S:aA)(J:aD)(y i:Nat):Prop :=
 ∃(to:aM) (vf:Nat->TV) (b:aP),tops[y]? = some to∧dS to.guard rs=some true∧rs.getD y .hole=vf i∧(∀m,bZ to.op (bH K env rs) m=some (vf m,b))∧J[i]? = some none∧S[i]? = some b
structure wX (P:Program) (O:dM) (A:Ann) (nt:Nat) (bef:List Nat) (ops:List Oper) (tops:List aM):Prop where
 hs:fE A nt
 hd:sK nt ops
 ca:∀(k:Nat) (o:Oper),ops[k]? = some o->∃to,tops[k]? = some to∧aCp P O A ((ops.take k).map (·.dst)) o to
 tl:tops.length=ops.length
 opd:∀(k:Nat) (to:aM),tops[k]? = some to->∀tx∈bC to.op,(∀r,tx=.reg r->B bef k r)∧(∀j,tx=.loc j->∀(w:Nat) (o:Oper) (t:Nat),ops[w]? = some o->o.dst=some t->A.slots[j]? = some t->B bef w k)
 nl:∀(k:Nat) (to:aM),tops[k]? = some to->isL to.op=false
 gd:∀(k:Nat) (to:aM),tops[k]? = some to->∀g want,to.guard=some (g,want)->B bef k g∧∃og t,ops[g]? = some og∧og.dst=some t
variable (P O K A) in
structure DS (nt n0 fm:Nat) (bef:List Nat) (ops:List Oper) (tops:List aM) (X:Nat->Prop) (run:Nat) (al:List (Nat×Nat)) (M:Mem) (J:aD) (L:List (Option Nat)) (S:aA) (env:Env) (w:World) (rs:List TV) (a:Act):Prop where
 rr:RR A nt ops tops X M J L env rs a
 ms:MS P O K M J L S env w
 sub:∀i,X i->run.testBit i=true
 cl:∀i,run.testBit i=true->∀j,B bef i j->run.testBit j=true
 xc:∀i,X i->∀j,B bef i j->X j
 pend:∀y,run.testBit y=true->¬X y->aQq K tops env rs S y∨∃i,(y,i)∈al
 al1:∀y i,(y,i)∈al->run.testBit y=true∧¬X y∧aQr K tops env rs S J y i
 al2:∀p q,p∈al->q∈al->(p.1=q.1∨p.2=q.2)->p=q
 rn:∀i,run.testBit i=true->i<ops.length
 al3:∀p∈al,n0<=p.2
 nj:n0<=J.length
 fx:∀y,run.testBit y=true->fm.testBit y=true∨X y
theorem aCt {op:TOp}(h:isL op=false):aS op=none:=by
 cases op<;>first|rfl|simp[isL]at h
theorem sO {nt:Nat}{bef:List Nat}{ops:List Oper}{tops:List aM}(hf:wX P O A nt bef ops tops){y:Nat}{to:aM}(hto:tops[y]? = some to){env env' rs rs':List TV}(he:∀j,eR env' j=eR env j)(hr:∀r,B bef y r->rs'.getD r .hole=rs.getD r .hole):
  ∀x∈bC to.op,bH K env rs x=bH K env' rs' x:=by
 intro x hx
 cases x with
 | reg r=>exact(hr r ((hf.opd y to hto _ hx).1 r rfl)).symm
 | loc j=>exact(he j).symm
 | cst v=>rfl
 | fn f=>rfl
 | glob g=>rfl
theorem qR {nt:Nat}{bef:List Nat}{ops:List Oper}{tops:List aM}(hf:wX P O A nt bef ops tops){y:Nat}{to:aM}(hto:tops[y]? = some to){rs rs':List TV}(hr:∀r,B bef y r->rs'.getD r .hole=rs.getD r .hole):dS to.guard rs'=dS to.guard rs:=by
 unfold dS
 cases hg:to.guard with
 | none=>rfl
 | some g =>
  obtain⟨g,want⟩:=g
  simp only
  rw[hr g (hf.gd y to hto g want hg).1]
theorem WR.phantom (h:WR P O M J S w)(b:aP):WR P O M (J++[none]) (S++[b]) w:=by
 have at_:∀ {i:Nat} {l:Loc},aD.at (J++[none]) i l->J.at i l:=by
  intro i l hl
  rcases lQ hl with hl|⟨_,hl⟩
  ·exact hl
  ·simp at hl
 refine h.step (by simp[h.len]) (.refl _) (.push _ _) h.imm (fun i l s hl hs=>?_) (fun i k l l' hl hk e=>h.inj i k l l' (at_ hl) (at_ hk) e) (fun i l hl=>h.lt i l (at_ hl))
 refine .inr ⟨at_ hl,?_,rfl,fun _=>rfl⟩
 have hlt:i<S.length:=by rw[<-h.len];exact(List.getElem?_eq_some_iff.1 (at_ hl)).1
 rwa [List.getElem?_append_left hlt]at hs
theorem aJu {b:Nat}(h:aD.has (J++[none]) b):J.has b:=by
 obtain⟨i,l,hl,e⟩:=h
 rcases lQ hl with hl|⟨_,hl⟩
 ·exact⟨i,l,hl,e⟩
 ·simp at hl
theorem MS.phantom (h:MS P O K M J L S env w)(b:aP):MS P O K M (J++[none]) L (S++[b]) env w:=by
 refine⟨h.wr.phantom b,⟨h.lb.len,fun j cs hj=>?_,h.lb.inj⟩,h.gl⟩
 obtain⟨cb,h1,h2⟩:=h.lb.box j cs hj
 exact⟨cb,h1,h2.step rfl (.refl _) (fun _=>rfl) (.push _ _) (fun hh=>h2.1 (aJu hh))⟩
theorem TrN.phantom {n:Nat}{own:Nat->Prop}(h:MS P O K M J L S env w)(b:aP)(hn:n<=J.length):TrN n own M J S w M (J++[none]) (S++[b]) w:=by
 refine⟨rfl,rfl,rfl,Nat.le_refl _,.refl _,fun _ _ _ _=>rfl,.push _ _,fun i l hl=>?_,fun i hi hj=>?_,fun _ _ _ _=>rfl⟩
 ·rcases lQ hl with hl|⟨_,hl⟩
  ·exact .inr ⟨l,hl,rfl⟩
  ·simp at hl
 ·have hlt:i<J.length:=by omega
  exact⟨by rw[List.getElem?_append_left hlt];exact hj,by rw[List.getElem?_append_left (by rw[<-h.wr.len];exact hlt)]⟩
theorem RR.mono {nt:Nat}{ops:List Oper}{tops:List aM}{D:Nat->Prop}{rs:List TV}{a:Act}(h:RR A nt ops tops D M J L env rs a){M':Mem}{J':aD}(hM:MLe M M')(hJ:JLe J J'):RR A nt ops tops D M' J' L env rs a :=
 ⟨h.sz,h.len,h.nlp,h.rl,fun k o t hk ho ht=>(h.reg k o t hk ho ht).mono hM hJ,fun j t hj hno=>(h.val j t hj hno).mono hM hJ,fun k o to j t hk ho hto hl ht hj=>(h.lbs k o to j t hk ho hto hl ht hj).mono hM hJ⟩
theorem RR.regs {nt:Nat}{ops:List Oper}{tops:List aM}{D:Nat->Prop}{rs rs':List TV}{a:Act}(h:RR A nt ops tops D M J L env rs a)(hl:rs'.length=rs.length)(hr:∀k,D k->rs'.getD k .hole=rs.getD k .hole):RR A nt ops tops D M J L env rs' a :=
 ⟨h.sz,h.len,h.nlp,hl.trans h.rl,fun k o t hk ho ht=>by rw[hr k hk];exact h.reg k o t hk ho ht,h.val,h.lbs⟩
theorem eP {m i y:Nat}:(m ||| 2 ^ i).testBit y=true↔m.testBit y=true∨y=i:=by
 rw[Nat.testBit_or,Bool.or_eq_true,Nat.testBit_two_pow,decide_eq_true_eq]
 exact or_congr Iff.rfl eq_comm
theorem bD2 {a b:Nat}(h:(a &&& b==a)=true){j:Nat}(hj:a.testBit j=true):b.testBit j=true:=by
 have h:=eq_of_beq h
 have:(a &&& b).testBit j=true:=by rw[h];exact hj
 rw[Nat.testBit_and,Bool.and_eq_true]at this
 exact this.2
theorem mG {bef:List Nat}{i run run':Nat}{is:List Nat}(h:lE bef (i::is) run=some run'):run.testBit i=false∧(∀j,B bef i j->run.testBit j=true)∧lE bef is (run ||| 2 ^ i)=some run':=by
 simp only[lE]at h
 split at h
 ·rename_i hc
  simp only[Bool.and_eq_true,Bool.not_eq_true']at hc
  exact⟨hc.1,fun j hj=>bD2 hc.2 hj,h⟩
 ·simp at h
theorem DS.floats {nt n fm:Nat}{bef:List Nat}{ops:List Oper}{tops:List aM}(hf:wX P O A nt bef ops tops){X:Nat->Prop}{a:Act}{own:Nat->Prop}:∀ {is:List Nat} {run run':Nat} {al:List (Nat×Nat)} {J:aD} {S S':aA} {rs rs':List TV},
  (∀i∈is,i<ops.length∧fm.testBit i=true)->DS P O K A nt n fm bef ops tops X run al M J L S env w rs a->lE bef is run=some run'->eI K tops is rs env S=some (rs',S') ->
  ∃al' J',DS P O K A nt n fm bef ops tops X run' al' M J' L S' env w rs' a∧TrN n own M J S w M J' S' w
 | [],run,run',al,J,S,S',rs,rs',_,h,hr,hq=>by
  simp[lE]at hr;subst hr
  simp[eI]at hq;obtain⟨rfl,rfl⟩:=hq
  exact⟨al,J,h,(Tr.refl own M J S w).trN n⟩
 | i::is,run,run',al,J,S,S',rs,rs',hil,h,hr,hq=>by
  obtain⟨h1,h2,h3⟩:=mG hr
  have hilt:i<ops.length:=(hil i (by simp)).1
  obtain⟨to,hto,hca⟩:=hf.ca i ops[i] (List.getElem?_eq_getElem hilt)
  have hirs:i<rs.length:=by rw[h.rr.rl];exact hilt
  have hXi:¬X i:=fun hx=>by rw[h.sub i hx]at h1;simp at h1
  -- what stays
  have keep:∀(v:TV),(rs.set i v).length=rs.length∧(rs.set i v).getD i .hole=v∧∀k,k≠i->(rs.set i v).getD k .hole=rs.getD k .hole:=fun v=>wV hirs v
  have old:∀(v:TV) (y:Nat),run.testBit y=true->∀r,B bef y r->(rs.set i v).getD r .hole=rs.getD r .hole:=fun v y hy r hr=>(keep v).2.2 r (fun e=>by have:=h.cl y hy r hr;rw[e,h1]at this;simp at this)
  have hne:∀y,run.testBit y=true->y≠i:=fun y hy e=>by rw[e,h1]at hy;simp at hy
  have simple:∀(v:TV) (T:aA) (J':aD),J'=J++T.map (fun _=>none)->(aQq K tops env (rs.set i v) (S++T) i∨∃k,k=S.length∧T≠[]∧aQr K tops env (rs.set i v) (S++T) J' i k)->MS P O K M J' L (S++T) env w->JLe J J' ->
    ∃al',DS P O K A nt n fm bef ops tops X (run ||| 2 ^ i) al' M J' L (S++T) env w (rs.set i v) a:=by
   intro v T J' hJ' hp hms hjle
   have hsub:∀y,X y->(run ||| 2 ^ i).testBit y=true:=fun y hy=>eP.2 (.inl (h.sub y hy))
   have hcl:∀y,(run ||| 2 ^ i).testBit y=true->∀j,B bef y j->(run ||| 2 ^ i).testBit j=true:=by
    intro y hy j hj
    rcases eP.1 hy with hy|rfl
    ·exact eP.2 (.inl (h.cl y hy j hj))
    ·exact eP.2 (.inl (h2 j hj))
   have hrr:RR A nt ops tops X M J' L env (rs.set i v) a:=(h.rr.mono (.refl _) hjle).regs (keep v).1 (fun k hk=>(keep v).2.2 k (fun e=>hXi (e▸hk)))
   have p1:∀y,run.testBit y=true->aQq K tops env rs S y->aQq K tops env (rs.set i v) (S++T) y:=by
    rintro y hy ⟨ty,hty,hc⟩
    refine⟨ty,hty,?_⟩
    rw[qR hf hty (old v y hy),(keep v).2.2 y (hne y hy)]
    rcases hc with hc|⟨g,hc⟩
    ·exact .inl hc
    ·refine .inr ⟨g,?_⟩
     rw[<-aCs (sO hf hty (fun _=>rfl) (old v y hy))]
     exact aR8 T hc
   have pa:∀y k,run.testBit y=true->aQr K tops env rs S J y k->aQr K tops env (rs.set i v) (S++T) J' y k:=by
    rintro y k hy ⟨ty,vf,b,hty,g,e1,e2,e3,e4⟩
    refine⟨ty,vf,b,hty,?_,?_,fun m=>?_,?_,eL T e4⟩
    ·rw[qR hf hty (old v y hy)];exact g
    ·rw[(keep v).2.2 y (hne y hy)];exact e1
    ·rw[<-pC m (sO hf hty (fun _=>rfl) (old v y hy))];exact e2 m
    ·rw[hJ'];exact eL _ e3
   have hrn:∀y,(run ||| 2 ^ i).testBit y=true->y<ops.length:=fun y hy=>by
    rcases eP.1 hy with hy|rfl
    ·exact h.rn y hy
    ·exact hilt
   have hfx:∀y,(run ||| 2 ^ i).testBit y=true->fm.testBit y=true∨X y:=fun y hy=>by
    rcases eP.1 hy with hy|rfl
    ·exact h.fx y hy
    ·exact .inl (hil y (by simp)).2
   have hnj:n<=J'.length:=Nat.le_trans h.nj hjle.1
   rcases hp with hp|⟨k,hk,hT,hp⟩
   ·refine⟨al,hrr,hms,hsub,hcl,h.xc,fun y hy hX=>?_,fun y k hyk=>?_,h.al2,hrn,h.al3,hnj,hfx⟩
    ·rcases eP.1 hy with hy|rfl
     ·rcases h.pend y hy hX with h'|h'
      ·exact .inl (p1 y hy h')
      ·exact .inr h'
     ·exact .inl hp
    ·obtain⟨e1,e2,e3⟩:=h.al1 y k hyk
     exact⟨eP.2 (.inl e1),e2,pa y k e1 e3⟩
   ·refine⟨(i,k)::al,hrr,hms,hsub,hcl,h.xc,fun y hy hX=>?_,fun y k' hyk=>?_,fun p q hp' hq' hpq=>?_,hrn,fun p hp'=>?_,hnj,hfx⟩
    ·rcases eP.1 hy with hy|rfl
     ·rcases h.pend y hy hX with h'|⟨k',h'⟩
      ·exact .inl (p1 y hy h')
      ·exact .inr ⟨k',by simp[h']⟩
     ·exact .inr ⟨k,by simp⟩
    ·rcases List.mem_cons.1 hyk with e|hyk
     ·simp at e;obtain⟨rfl,rfl⟩:=e
      exact⟨eP.2 (.inr rfl),hXi,hp⟩
     ·obtain⟨e1,e2,e3⟩:=h.al1 y k' hyk
      exact⟨eP.2 (.inl e1),e2,pa y k' e1 e3⟩
    ·have fresh:∀q:Nat×Nat,q∈al->q.1≠i∧q.2≠k:=by
      intro q hq
      obtain⟨e1,_,_,_,_,_,_,_,_,_,e4⟩:=h.al1 q.1 q.2 hq
      exact⟨hne q.1 e1,fun e=>by have:=(List.getElem?_eq_some_iff.1 e4).1;omega⟩
     rcases List.mem_cons.1 hp' with rfl|hp'<;>rcases List.mem_cons.1 hq' with rfl|hq'
     ·rfl
     ·obtain⟨e1,e2⟩:=fresh q hq'
      rcases hpq with e|e
      ·exact absurd e.symm e1
      ·exact absurd e.symm e2
     ·obtain⟨e1,e2⟩:=fresh p hp'
      rcases hpq with e|e
      ·exact absurd e e1
      ·exact absurd e e2
     ·exact h.al2 p q hp' hq' hpq
    ·rcases List.mem_cons.1 hp' with rfl|hp'
     ·show n<=k
      rw[hk,<-h.ms.wr.len];exact h.nj
     ·exact h.al3 p hp'
  simp only[eI,hto]at hq
  have gs:∀v,dS to.guard (rs.set i v)=dS to.guard rs:=fun v=>by
   unfold dS
   cases hg:to.guard with
   | none=>rfl
   | some g =>
    obtain⟨g,want⟩:=g
    simp only
    rw[(keep v).2.2 g (fun e=>by have:=h2 g (hf.gd i to hto g want hg).1;rw[e,h1]at this;simp at this)]
  have os:∀v,∀x∈bC to.op,bH K env rs x=bH K env (rs.set i v) x:=fun v=>sO hf hto (fun _=>rfl) (fun r hr=>(keep v).2.2 r (fun e=>by have:=h2 r hr;rw[e,h1]at this;simp at this))
  split at hq
  ·simp at hq
  ·rename_i hg
   obtain⟨al',hds⟩:=simple undef [] J (by simp) (.inl ⟨to,hto,.inl ⟨by rw[gs];exact hg,(keep undef).2.1⟩⟩) (by simpa using h.ms) (.refl _)
   rw[List.append_nil]at hds
   exact DS.floats hf (fun k hk=>hil k (by simp[hk])) hds h3 hq
  ·rename_i hg
   split at hq
   ·rename_i v hv
    obtain⟨al',hds⟩:=simple v [] J (by simp) (.inl ⟨to,hto,.inr ⟨by rw[gs];exact hg,by rw[(keep v).2.1,List.append_nil,<-aCs (os v)];exact hv⟩⟩) (by simpa using h.ms) (.refl _)
    rw[List.append_nil]at hds
    exact DS.floats hf (fun k hk=>hil k (by simp[hk])) hds h3 hq
   ·split at hq
    ·rename_i v b hv
     obtain⟨vf,hvf,hall⟩:=aJr hv
     obtain⟨al',hds⟩:=simple v [b] (J++[none]) (by simp) (.inr ⟨S.length,rfl,by simp,to,vf,b,hto,by rw[gs];exact hg,by rw[(keep v).2.1,hvf],fun m=>by rw[<-pC m (os v)];exact hall m,by
      rw[<-h.ms.wr.len];simp,by simp⟩) (h.ms.phantom b) (.push _ _)
     obtain⟨al2,J2,r1,r2⟩:=DS.floats (own:=own) hf (fun k hk=>hil k (by simp[hk])) hds h3 hq
     exact⟨al2,J2,r1,(TrN.phantom h.ms b h.nj).trans r2 (fun b hb=>.inl hb)⟩
    ·simp at hq
end
end Go.TM
