/- A part of the evaluator TM, and of the proof that what it computes the model does. Condition: none. -/
import GoSem.Step
import Derived.Laws.World
import Derived.Laws.Sem
import Derived.RangeFuncLeaves
import Derived.RangeFuncRecord
import Derived.Laws.Cells
import Derived.Laws.IdiomCopy
import Derived.Laws.Entries
import Derived.Laws.Strings
import Derived.Laws.StructEq
import Derived.ChangeKeysEq
import Derived.Laws.BytesString
import Derived.Laws.Append
namespace Go.TM
set_option linter.defProp false
theorem A_{p:Prop}(h:p:=by omega):p:=h
theorem B_{p:Prop}(h:p:=by simp):p:=h
theorem C_{p:Prop}(h:p:=by decide):p:=h
def D_:=@List.getElem?_eq_getElem
def E_:=@List.getElem?_eq_some_iff
def G_:=@Option.map_eq_some_iff
def H_:=@List.length_append
def I_:=@if_neg
def J_:=@List.mem_cons
def K_:=@if_pos
def L_:=@List.length_map
def O_:=@Nat.le_refl
def P_:=@Bool.and_eq_true
def Q_:=@List.map_cons
def R_:=@Option.some.injEq
def S_:=@beq_eq_false_iff_ne
def U_:=@List.mem_singleton
def V_:=@decide_eq_true
def W_:=@List.getD_eq_getElem?_getD
def X_:=@congrArg
def Y_:=@List.getElem?_append_left
def Z_:=@List.eq_nil_of_length_eq_zero
def a_:=@List.mem_append
def b_:=@Bool.false_eq_true
def l_:=@decide_eq_false
def p_:=@List.getElem?_map
def q_:=@decide_eq_true_eq
def r_:=@List.getElem?_append_right
def t_:=@List.any_eq_false
def A0:=@List.mem_map
def A4:=@List.append_nil
def A6:=@List.drop_eq_getElem_cons
def A7:=@Nat.zero_add
def A8:=@Array.getElem?_eq_getElem
def A9:=@List.append_assoc
def B0:=@Ne.symm
def B2:=@Array.getD_eq_getD_getElem?
def B3:=@List.getElem?_set_ne
def B4:=@List.mem_of_getElem?
def B5:=@List.getElem?_eq_none
def B7:=@Prod.mk.injEq
def B8:=@List.getElem_mem
def B9:=@List.take_length
def C0:=@Nat.le_trans
def C3:=@List.map_nil
def C4:=@List.drop_zero
def C5:=@List.mem_range
def C6:=@List.all_eq_true
def C7:=@List.getElem?_set_self
def C8:=@List.nodup_cons
def C9:=@not_true_eq_false
def D0:=@List.filter_cons_of_pos
def D1:=@List.mem_filter
def D2:=@Nat.lt_or_ge
def D3:=@Bool.or_eq_true
def D4:=@Nat.mul_le_mul_right
def D5:=@List.not_mem_nil
def D6:=@Option.some.inj
def D7:=@Bool.not_eq_true'
def D8:=@List.length_filter_le
def D9:=@List.getElem?_take
def E0:=@List.drop_length
def E1:=@List.map_append
def E2:=@Nat.add_mul
def E3:=@List.set_append_right
def E4:=@List.filter_cons
def E5:=@List.filter_cons_of_neg
def E6:=@List.pairwise_cons
def E7:=@Bool.not_true
def E8:=@List.any_eq_true
def E9:=@Nat.lt_of_lt_of_le
def F0:=@List.getElem?_range
def F3:=@List.mem_map_of_mem
def F4:=@List.findIdx?_eq_some_iff_getElem
def F5:=@beq_iff_eq
def F6:=@List.length_set
def F7:=@List.getElem?_append
def F8:=@List.length_range
def F9:=@List.length_replicate
def G0:=@List.mem_append_right
def G1:=@List.take_append_drop
def G2:=@Bool.true_or
def G3:=@Nat.add_assoc
def G4:=@List.mem_append_left
def G5:=@List.drop_eq_nil_of_le
def G6:=@List.getElem?_drop
def G7:=@Bool.false_or
def G8:=@List.getElem?_take_of_lt
def G9:=@List.set_set
def H0:=@List.take_add_one
def H1:=@Array.getElem?_setIfInBounds_self_of_lt
def H2:=@not_or
def H3:=@Int.eq_ofNat_of_zero_le
def H4:=@List.length_eq_zero_iff
def H5:=@Array.getElem?_append_left
def H6:=@List.filter_eq_nil_iff
def H7:=@List.mem_flatMap
def H8:=@List.getElem_of_mem
def H9:=@List.nodup_append
def I3:=@Nat.zero_le
def I4:=@or_false
def I5:=@List.filter_append
def I6:=@List.getElem?_of_mem
def I7:=@List.getElem?_replicate
def I8:=@Nat.mul_one
def I9:=@List.size_toArray
def J3:=@if_false
def J5:=@List.drop_succ_cons
def J6:=@Array.getElem?_setIfInBounds_ne
def J7:=@Classical.byContradiction
def J8:=@Array.getElem?_modify
def J9:=@List.set_getElem_self
def K0:=@List.length_take
def K1:=@List.eq_of_mem_replicate
def K2:=@List.drop_append_of_le_length
def K3:=@List.take_append_of_le_length
def K4:=@List.take_left'
def K5:=@List.take_of_length_le
def K6:=@Bool.false_and
def K7:=@Array.getElem?_toList
def K8:=@List.getElem?_toArray
def K9:=@List.set_eq_take_append_cons_drop
def L6:=@List.drop_left'
def L7:=@Array.size_append
def L8:=@Bool.or_eq_false_iff
def L9:=@Bool.or_true
def M3:=@List.map_map
def M5:=@List.mem_cons_of_mem
def M6:=@List.take_succ_eq_append_getElem
def M7:=@Nat.lt_trichotomy
def M8:=@Nat.sub_self
def M9:=@of_decide_eq_true
def N0:=@Array.ext'
def N1:=@List.replicate_append_replicate
def N2:=@List.length_pos_iff
def N3:=@List.ext_getElem
def N4:=@Option.bind_eq_some_iff
def N5:=@List.mem_cons_self
def N6:=@Nat.add_sub_cancel
def N7:=@List.contains_iff_mem
def N8:=@if_true
def N9:=@List.pairwise_append
def O3:=@List.set_append_left
def O4:=@Nat.pow_le_pow_right
def O5:=@Nat.testBit_or
def O6:=@List.pairwise_iff_getElem
def O7:=@Bool.or_false
def O8:=@List.getElem_append_left
def O9:=@Option.isSome_iff_exists
def P0:=@List.findIdx?_cons
def P1:=@List.getElem_range
def P2:=@decide_eq_false_iff_not
def P3:=@ge_iff_le
def P4:=@Array.getElem?_eq_none
def P5:=@Bool.not_false
def P6:=@List.getElem?_inj
def P7:=@Nat.testBit_lt_two_pow
def P8:=@Nat.zero_mul
def P9:=@not_false_eq_true
def Q1:=@List.eraseIdx_eq_take_drop_succ
def Q2:=@Array.getElem?_mapIdx
def Q3:=@Array.eq_empty_of_size_eq_zero
def Q4:=@Array.toList_map
def Q5:=@List.nodup_range
def Q6:=@Nat.lt_succ_self
def Q7:=@Nat.zero_testBit
def Q8:=@Bool.true_and
def Q9:=@List.length_eraseIdx
def R0:=@List.any_append
def R2:=@List.range_succ
def R4:=@Nat.not_lt_zero
def R5:=@Nat.two_pow_pos
def R6:=@Array.toList_modify
def R7:=@Int.toNat_of_nonneg
def R8:=@List.filter_eq_self
def R9:=@List.map_congr_left
def S9:=@Nat.testBit_two_pow
def T0:=@Nat.testBit_two_pow_mul_add
def T8:=@Array.getElem?_eq_some_iff
def T9:=@Bool.not_eq_false'
def U0:=@List.drop_drop
def U1:=@List.mem_filterMap
def U2:=@List.perm_ext_iff_of_nodup
def U3:=@Nat.eq_zero_or_pos
def U4:=@of_decide_eq_false
def U5:=@Decidable.byContradiction
def U6:=@List.findIdx?_eq_none_iff
def U7:=@List.getElem?_eq_none_iff
def U8:=@List.getElem_append_right
def U9:=@List.mem_drop_iff_getElem
def V1:=@List.mem_or_eq_of_mem_set
def V2:=@List.Pairwise.map
def V3:=@List.drop_sublist
def V4:=@List.filter_congr
def V5:=@List.getElem?_set
def V6:=@decide_true
def V7:=@Array.getElem?_replicate
def V8:=@List.Perm.eq_of_pairwise
def V9:=@Array.all_toList
def W3:=@List.flatMap_eq_nil_iff
def W4:=@List.getElem_map
def W5:=@List.isEmpty_iff
def W6:=@List.length_drop
def W7:=@List.mem_nil_iff
def W8:=@List.pairwise_mergeSort
def W9:=@List.range'_succ
def X0:=@List.take_append
def X1:=@and_self
def X2:=@forall_eq_or_imp
def X3:=@List.find?_cons_of_neg
def X4:=@List.findIdx_lt_length
def X5:=@List.length_pos_of_mem
def X6:=@Nat.mod_lt
def X7:=@Nat.testBit_and
def X8:=@List.Pairwise.sublist
def X9:=@Array.mem_toList_iff
def Y0:=@BitVec.getLsbD_ofNat
def Y1:=@List.findIdx?_append
def Y2:=@List.getLast?_append
def Y3:=@List.mem_of_mem_take
def Y4:=@List.nodup_nil
def Y5:=@Nat.eq_of_testBit_eq
def Y6:=@Nat.pow_lt_pow_right
def Y7:=@Array.toList_append
def Y8:=@Array.toList_filter
def Y9:=@List.getElem_append
def Z0:=@List.mergeSort_perm
def Z1:=@Nat.mul_le_mul_left
def Z2:=@Bool.and_true
def Z3:=@ByteArray.ext
def Z4:=@List.cons.inj
def Z5:=@decide_false
def Z6:=@Int.le_refl
def Z7:=@or_assoc
def Z8:=@true_and
abbrev Ta_:Type:=List Int
abbrev Tb_:Type:=List (Int×Int)
abbrev Tc_:Type:=List Nat
abbrev Td_:Type:=List (Nat×Int×Int)
abbrev Te_:Type:=Nat->List Nat
abbrev Tf_:Type:=List (Nat×(Int×Int)×Int)
abbrev Tg_:Type:=Nat->Int
abbrev Th_:Type:=Nat->Nat
abbrev Ti_:Type:=Nat->Nat->Bool
abbrev Tj_:Type:=Nat->Bool
abbrev Tk_:Type:=List (Option Nat)
abbrev Tl_:Type:=List (Nat×List Nat×List Nat)
abbrev Tm_:Type:=Nat->Prop
inductive Tag where
 |nil
 |full
 |no
 deriving DecidableEq
inductive IV where
 |bool (b:Bool)
 |int (k:IntKind) (n:Int)
 |str (s:List UInt8)
 |sl (t:Tag) (es:List (List IV))
 |agg (cs:List IV)
 |cp (cs:List IV)
 |nilp
 |nilm
 |nilf
 |nili
inductive TV where
 |iv (v:IV)
 |lp (j off:Nat)
 |ptr (i ver off:Nat)
 |msl (i ver off len cap es:Nat)
 |tsl (i:Nat) (es:List (List IV))
 |rsv (i:Nat) (es:List (List IV)) (n:Nat)
 |map (i:Nat)
 |it (i:Nat)
 |fn (f:Nat) (fst cap:List TV)
 |yld (i:Nat)
 |lb (cs:List TV)
 |agg (cs:List TV)
 |tup (vs:List TV)
 |hole
abbrev Tn_:Type:=List TV
abbrev To_:Type:=List (Nat×TV)
abbrev Tp_:Type:=List (List IV)
abbrev Tq_:Type:=List IV
abbrev Tr_:Type:=List (Nat×IV×TV)
def undef:TV:=.tup []
inductive aH where
 |reg (i:Nat)
 |loc (j:Nat)
 |cst (v:IV)
 |fn (f:Nat)
 |glob (g:Nat)
inductive CK where
 |toInt (k:IntKind)
 |intStr
 |strStr
 |strBytes
 |bytesStr
inductive SK where
 |str
 |sl (es:Nat)
 |arr (n es:Nat)
inductive EK where
 |bool
 |ptr
 |sl
 |mp
 |fn
inductive NK where
 |str
 |sl
 |mp
 deriving DecidableEq
inductive LK where
 |bool
 |int
 |str
inductive KK where
 |leaf (k:LK)
 |agg (cL:List (Nat×LK))
inductive TOp where
 |mov (x:aH)
 |pick (c a b:aH)
 |allocL (j:Nat) (z:List IV)
 |allocH (tag:Nat) (z:List IV)
 |boxL (j:Nat) (x:aH)
 |boxH (tag:Nat) (x:aH)
 |build (z:List IV) (ps:List (Nat×Nat×aH))
 |lit (mu:Bool) (z:List IV) (len:Nat) (ps:List (Nat×aH))
 |load1 (a:aH)
 |loadN (n:Nat) (a:aH)
 |store (n:Nat) (a v:aH)
 |nilCheck (x:aH)
 |bin (op:BinOp) (x y:aH)
 |eqB (neg:Bool) (k:EK) (x y:aH)
 |eqAgg (neg:Bool) (cL:List (Nat×LK)) (x y:aH)
 |un (op:UnOp) (x:aH)
 |conv (k:CK) (x:aH)
 |mkFn (f:Nat) (fst cap:List aH)
 |mkMap
 |mkSlice (z:List IV) (bytes:Nat) (l c:aH)
 |slice (k:SK) (x:aH) (lo hi mx:Option aH)
 |fieldAddr (off:Nat) (x:aH)
 |field (off n:Nat) (ag:Bool) (x:aH)
 |indexAddrS (es:Nat) (x i:aH)
 |indexAddrA (len es:Nat) (x i:aH)
 |indexA (len es:Nat) (ag:Bool) (x i:aH)
 |indexS (x i:aH)
 |lookup (kk:KK) (z:IV) (ok:Bool) (m k:aH)
 |update (kk:KK) (m k v:aH)
 |entry (kk:KK) (z:IV) (m k:aH)
 |entryStore (m s v:aH)
 |range (str:Bool) (x:aH)
 |nextS (i:aH)
 |nextM (i:aH)
 |entryM (i:aH)
 |extract (i:Nat) (x:aH)
 |append (mu:Bool) (es bytes el:Nat) (s x:aH)
 |copy (es:Nat) (d s:aH)
 |grow (es bytes el:Nat) (s n:aH)
 |clear (z:List IV) (x:aH)
 |len (k:NK) (x:aH)
 |cap (x:aH)
 |lenC (n:Nat)
 |delete (kk:KK) (m k:aH)
 |minmax (mx:Bool) (xs:List aH)
 |call (pure trunc:Bool) (f:Nat) (args:List aH)
 |callv (f:aH) (args:List aH)
 |prim (f:Nat) (args:List aH)
 |bad
structure aK where
 op:TOp
 loc:Option Nat
 guard:Option (Nat×Bool)
inductive aW where
 |normal
 |exit (id:Nat)
 |ret
inductive aL where
 |skip
 |region (ops:List aK)
 |draw (f0:List Nat) (ph:List (Nat×List Nat×List Nat)) (ops:List aK)
 |seq (a b:aL)
 |cond (c:aH) (a b:aL)
 |block (id:Nat) (b:aL)
 |loop (b:aL)
 |rangeFunc (f:aH) (ps:List Nat) (assign body:aL)
 |exit (id:Nat)
 |ret
 |bad
inductive mU where
 |loc (j:Nat)
 |cell (j n:Nat) (ag:Bool)
structure aU where
 nparams:Nat
 nlocs:Nat
 results:List mU
 body:aL
inductive aG where
 |cells (ver:Nat) (loose:Bool) (cs:List TV)
 |frz (ver:Nat) (cs:List IV)
 |tok (n es el:Nat)
 |mp (es:List (Nat×IV×TV)) (clock:Nat)
 |sit (s:List UInt8) (pos:Nat)
 |mit (m:Option Nat) (since:Nat) (seen:List Nat) (last:Nat)
 |lp (st:LoopState) (pend:Option aW) (env:List TV) (ps:List Nat) (assign body:aL)
inductive Out (α:Type) where
 |ret (a:α)
 |fail (why:String)
 |pick (n:Nat) (k:Nat->Out α)
def Out.bind{α β:Type}:Out α->(α->Out β)->Out β
 |.ret a,f=>f a
 |.fail s,_=>.fail s
 |.pick n k,f=>.pick n fun i=>(k i).bind f
def Out.ofOpt{α:Type}(why:String):Option α->Out α
 |some a=>.ret a
 |none=>.fail why
abbrev aA:=List aG
abbrev Env:=List TV
def mG:List TV->Option (List IV)
 |[]=>some []
 |.iv v::r=>(mG r).map (v::·)
 |_::_=>none
def cellsOf:TV->List TV
 |.iv (.agg cs)=>cs.map .iv
 |.agg cs=>cs
 |v=>[v]
def iE:TV->Option (List TV)
 |.iv (.agg cs)=>some (cs.map .iv)
 |.agg cs=>some cs
 |_=>none
def rT(cs:List TV):TV :=
 match mG cs with
 |some l=>.iv (.agg l)
 |none=>.agg cs
def gL(ag:Bool)(cs:List TV):Option TV :=
 if ag then some (rT cs)else match cs with
  |[c]=>some c
  |_=>none
def oQ:TV->Option IV
 |.iv v=>some v
 |.tsl _ es=>some (.sl .no es)
 |_=>none
def toIVs:List TV->Option (List IV)
 |[]=>some []
 |v::r=>match oQ v,toIVs r with
  |some a,some l=>some (a::l)
  |_,_=>none
def lH:TV->Option IV
 |.agg cs=>(toIVs cs).map .agg
 |v=>oQ v
def mV(v:TV):TV :=
 match lH v with
 |some a=>.iv a
 |none=>v
def sub{α:Type}(cs:List α)(off n:Nat):Option (List α) :=
 if off+n<=cs.length then some ((cs.drop off).take n)else none
def put{α:Type}(cs:List α)(off:Nat)(vs:List α):List α :=
 cs.take off++vs++cs.drop (off+vs.length)
def cP{α:Type}(es:Nat):Nat->List α->List (List α)
 |0,_=>[]
 |n+1,cs=>cs.take es::cP es n (cs.drop es)
def gM(k:LK)(x y:IV):Option Bool :=
 match k,x,y with
 |.bool,.bool a,.bool b=>some (a==b)
 |.int,.int k a,.int k' b=>if k=k' then some (a==b)else none
 |.str,.str a,.str b=>some (a==b)
 |_,_,_=>none
def fA(a b:List IV):List (Nat×LK)->Option Bool
 |[]=>some true
 |o::os=>match a[o.1]?,b[o.1]? with
  |some x,some y=>match gM o.2 x y with
   |some true=>fA a b os
   |some false=>some false
   |none=>none
  |_,_=>none
def pW(kk:KK)(a b:IV):Option Bool :=
 match kk with
 |.leaf k=>gM k a b
 |.agg cL=>match a,b with
  |.agg x,.agg y=>fA x y cL
  |_,_=>none
def pX:IV->IV->Bool
 |.bool a,.bool b=>a==b
 |.int k a,.int k' b=>k==k'&&a==b
 |.str a,.str b=>a==b
 |_,_=>false
def jX:List IV->List IV->Bool
 |[],[]=>true
 |a::as,b::bs=>pX a b&&jX as bs
 |_,_=>false
def gZ:IV->IV->Bool
 |.agg a,.agg b=>jX a b
 |a,b=>pX a b
def gX(kk:KK)(a:IV):Bool :=
 match kk,a with
 |.agg cL,.agg cs=>cL.all fun o=>decide (o.1<cs.length)
 |.agg _,_=>false
 |.leaf _,_=>true
def findKey(kk:KK)(k:IV):List (Nat×IV×TV)->Nat->Option (Option (Nat×TV))
 |[],_=>some none
 |e::es,i=>match pW kk k e.2.1 with
  |some true=>some (some (i,e.2.2))
  |some false=>findKey kk k es (i+1)
  |none=>none
def qT(l:List UInt8):List (List IV):=l.map fun b=>[.int .u8 b.toNat]
def bEv:List IV->Option UInt8
 |[.int .u8 n]=>some (UInt8.ofNat n.toNat)
 |_=>none
def oR:List (List IV)->Option (List UInt8)
 |[]=>some []
 |c::r=>match bEv c,oR r with
  |some b,some l=>some (b::l)
  |_,_=>none
def bC{α:Type}:List (List α)->List α
 |[]=>[]
 |a::r=>a++bC r
def fB:TV->Option Int
 |.iv (.int _ n)=>some n
 |_=>none
def zL:TV->Option Bool
 |.iv (.bool b)=>some b
 |_=>none
def jO(op:BinOp)(k:IntKind)(a b:Int):Option IV :=
 match op with
 |.add=>some (.int k (k.wrap (a+b)))
 |.sub=>some (.int k (k.wrap (a-b)))
 |.mul=>some (.int k (k.wrap (a*b)))
 |.quo=>if b=0 then none else some (.int k (k.wrap (a.tdiv b)))
 |.rem=>if b=0 then none else some (.int k (a.tmod b))
 |.and=>some (.int k (k.wrap (BitVec.ofInt k.bits a &&& BitVec.ofInt k.bits b).toNat))
 |.or=>some (.int k (k.wrap (BitVec.ofInt k.bits a ||| BitVec.ofInt k.bits b).toNat))
 |.xor=>some (.int k (k.wrap (BitVec.ofInt k.bits a ^^^ BitVec.ofInt k.bits b).toNat))
 |.andNot=>some (.int k (k.wrap (BitVec.ofInt k.bits a &&& ~~~ BitVec.ofInt k.bits b).toNat))
 |.eql=>some (.bool (a==b))
 |.neq=>some (.bool (a != b))
 |.lss=>some (.bool (a<b))
 |.leq=>some (.bool (a<=b))
 |.gtr=>some (.bool (a>b))
 |.geq=>some (.bool (a≥b))
 |_=>none
def xO(op:BinOp)(k:IntKind)(a b:Int):Option IV :=
 if b<0 then none else
 match op with
 |.shl=>some (.int k (k.wrap (a*2 ^ min b.toNat k.bits)))
 |.shr=>some (.int k (a.fdiv (2 ^ min b.toNat k.bits)))
 |_=>none
def aVo(op:BinOp)(x y:List UInt8):Option IV :=
 match op with
 |.add=>if x.length+y.length<=4611686018427387904 then some (.str (x++y))else none
 |.eql=>some (.bool (x==y))
 |.neq=>some (.bool (!(x==y)))
 |.lss=>some (.bool (Op.bytesLess x y))
 |.leq=>some (.bool (Op.bytesLess x y||x==y))
 |.gtr=>some (.bool (!(Op.bytesLess x y||x==y)))
 |.geq=>some (.bool (!(Op.bytesLess x y)))
 |_=>none
def aAt:TV->Bool
 |.ptr .. | .lp .. | .iv (.cp _)=>true
 |_=>false
def eqB(k:EK)(x y:TV):Option Bool :=
 match k with
 |.bool=>match x,y with
  |.iv (.bool a),.iv (.bool b)=>some (a==b)
  |_,_=>none
 |.ptr=>match x,y with
  |.iv .nilp,.iv .nilp=>some true
  |.iv .nilp,y=>if aAt y then some false else none
  |x,.iv .nilp=>if aAt x then some false else none
  |_,_=>none
 |.sl=>match x,y with
  |.iv (.sl .nil _),.iv (.sl t _)=>some (t==.nil)
  |.iv (.sl t _),.iv (.sl .nil _)=>some (t==.nil)
  |.iv (.sl .nil _),.msl ..=>some false
  |.msl ..,.iv (.sl .nil _)=>some false
  |.iv (.sl .nil _),.tsl ..=>some false
  |.tsl ..,.iv (.sl .nil _)=>some false
  |_,_=>none
 |.mp=>match x,y with
  |.iv .nilm,.iv .nilm=>some true
  |.iv .nilm,.map _=>some false
  |.map _,.iv .nilm=>some false
  |_,_=>none
 |.fn=>match x,y with
  |.iv .nilf,.iv .nilf=>some true
  |.iv .nilf,.fn ..=>some false
  |.fn ..,.iv .nilf=>some false
  |_,_=>none
def binOp(op:BinOp)(x y:TV):Option IV :=
 match x,y with
 |.iv (.int k a),.iv (.int k' b) =>
  match op with
  |.shl | .shr=>xO op k a b
  |_=>if k=k' then jO op k a b else none
 |.iv (.str a),.iv (.str b)=>aVo op a b
 |_,_=>none
def eqAgg(neg:Bool)(cL:List (Nat×LK))(x y:TV):Option IV :=
 match x,y with
 |.iv (.agg a),.iv (.agg b)=>(fA a b cL).map fun r=>.bool (if neg then !r else r)
 |_,_=>none
def unOp(op:UnOp)(x:TV):Option IV :=
 match op,x with
 |.neg,.iv (.int k n)=>jO .sub k 0 n
 |.xor,.iv (.int k n)=>jO .xor k (if k.signed then -1 else k.max) n
 |.not,.iv (.bool b)=>some (.bool !b)
 |_,_=>none
def dD(k:CK)(x:TV):Option IV :=
 match k,x with
 |.toInt k,.iv (.int _ n)=>some (.int k (k.wrap n))
 |.intStr,.iv (.int _ n)=>some (.str (Utf8.encode n).data.toList)
 |.strStr,.iv (.str s)=>some (.str s)
 |.strBytes,.iv (.str s)=>if s.length<=70368744177664 then some (.sl .no (qT s))else none
 |_,_=>none
def min2(mx:Bool):IV->IV->Option IV
 |.int k a,.int k' b=>if k=k' then some (.int k (if mx then(if b>a then b else a)else(if b<a then b else a)))else none
 |_,_=>none
def minmax(mx:Bool):IV->List TV->Option IV
 |a,[]=>some a
 |a,.iv b::r=>match min2 mx a b with
  |some c=>minmax mx c r
  |none=>none
 |_,_::_=>none
def bP(env:Env)(S:aA)(a:TV)(n:Nat):Option (List TV) :=
 match a with
 |.lp j off=>match env[j]? with
  |some (.lb cs)=>sub cs off n
  |_=>none
 |.ptr i v off=>match S[i]? with
  |some (.cells v' _ cs)=>if v'=v then sub cs off n else none
  |some (.frz v' cs)=>if v'=v then(sub cs off n).map (·.map .iv)else none
  |_=>none
 |.iv (.cp cs)=>(sub cs 0 n).map (·.map .iv)
 |_=>none
def bJ:TV->Bool
 |.lp .. | .lb _ | .tup _ | .hole | .agg _ | .iv (.agg _)=>true
 |_=>false
def setCells(env:Env)(S:aA)(a:TV)(vs:List TV):Option (Env×aA) :=
 if vs.any bJ then none else
 match a with
 |.lp j off=>match env[j]? with
  |some (.lb cs)=>if off+vs.length<=cs.length then some (env.set j (.lb (put cs off vs)),S)else none
  |_=>none
 |.ptr i v off=>match S[i]? with
  |some (.cells v' l cs)=>if v'=v/\off+vs.length<=cs.length then some (env,S.set i (.cells v' l (put cs off vs)))else none
  |_=>none
 |_=>none
def cH(S:aA):TV->Option (List (List IV))
 |.iv (.sl _ l)=>some l
 |.tsl _ l=>some l
 |.msl i v off len _ es=>match S[i]? with
  |some (.cells v' _ cs)=>if v'≠v then none else match sub cs off (len*es)with
   |some l=>(toIVs l).map (cP es len)
   |none=>none
  |some (.frz v' cs)=>if v'≠v then none else(sub cs off (len*es)).map (cP es len)
  |_=>none
 |_=>none
def dU(S:aA)(v:TV):Option (List TV) :=
 match v with
 |.iv (.sl _ l)=>some ((bC l).map .iv)
 |.tsl _ l=>some ((bC l).map .iv)
 |.iv (.str s)=>some (s.map fun b=>.iv (.int .u8 b.toNat))
 |.msl i v off len _ es=>match S[i]? with
  |some (.cells v' _ cs)=>if v'=v then sub cs off (len*es)else none
  |some (.frz v' cs)=>if v'=v then(sub cs off (len*es)).map (·.map .iv)else none
  |_=>none
 |_=>none
def lenOf(S:aA):TV->Option Nat
 |.iv (.str s)=>some s.length
 |.iv (.sl _ l)=>some l.length
 |.tsl _ l=>some l.length
 |.msl _ _ _ n _ _=>some n
 |.iv .nilm=>some 0
 |.map i=>match S[i]? with
  |some (.mp es _)=>some es.length
  |_=>none
 |_=>none
def zM:TV->NK
 |.iv (.str _)=>.str
 |.iv .nilm=>.mp
 |.map _=>.mp
 |_=>.sl
def aAu:TV->Option Nat
 |.iv (.sl .nil _)=>some 0
 |.iv (.sl .full l)=>some l.length
 |_=>none
def fY(a:TV)(n:Nat):Option TV :=
 match a with
 |.lp j off=>some (.lp j (off+n))
 |.ptr i v off=>some (.ptr i v (off+n))
 |.iv (.cp cs)=>if n<=cs.length then some (.iv (.cp (cs.drop n)))else none
 |_=>none
def indexAddrS(es:Nat)(x:TV)(i:Int):Option TV :=
 if i<0 then none else
 match x with
 |.iv (.sl _ l)=>match l[i.toNat]? with
  |some c=>if c.length=es then some (.iv (.cp c))else none
  |none=>none
 |.tsl _ l=>match l[i.toNat]? with
  |some c=>if c.length=es then some (.iv (.cp c))else none
  |none=>none
 |.msl b v off len _ e=>if i<len/\e=es then some (.ptr b v (off+i.toNat*es))else none
 |_=>none
def oL{α:Type}(es:Nat):List (List α)->Bool
 |[]=>true
 |c::_=>c.length==es
def pY(x:Option Int)(dflt y:Nat):Option Nat :=
 match x with
 |none=>some dflt
 |some i=>if 0<=i/\i<=y then some i.toNat else none
def fN(len cap:Nat)(lo hi mx:Option Int):Option (Nat×Nat×Nat) :=
 match mx,hi with
 |some _,none=>none
 |_,_ =>
  match pY mx cap cap with
  |none=>none
  |some m=>match pY hi len m with
   |none=>none
   |some h=>match pY lo 0 h with
    |none=>none
    |some l=>some (l,h,m)
def uU(t:Tag)(l:List (List IV))(lo hi mx:Option Int):Option IV :=
 match t with
 |.no =>
  match mx with
  |some _ =>
   match fN l.length l.length lo hi mx with
   |some (a,b,m)=>some (.sl (if m=b then .full else .no) ((l.drop a).take (b-a)))
   |none=>none
  |none =>
   match fN l.length l.length lo hi none with
   |some (a,b,_)=>some (.sl .no ((l.drop a).take (b-a)))
   |none=>none
 |.nil =>
  match fN 0 0 lo hi mx with
  |some _=>some (.sl .nil [])
  |none=>none
 |.full =>
  match fN l.length l.length lo hi mx with
  |some (a,b,m)=>some (.sl (if m=b then .full else .no) ((l.drop a).take (b-a)))
  |none=>none
def rU(S:aA)(b v:Nat):Bool :=
 match S[b]? with
 |some (.cells v' _ _)=>v'==v
 |some (.frz v' _)=>v'==v
 |_=>false
def fQ(S:aA)(k:SK)(x:TV)(lo hi mx:Option Int):Option TV :=
 match k,x with
 |.str,.iv (.str s) =>
  match mx with
  |some _=>none
  |none=>match fN s.length s.length lo hi none with
   |some (a,b,_)=>some (.iv (.str ((s.drop a).take (b-a))))
   |none=>none
 |.sl es,.iv (.sl t l)=>if oL es l then(uU t l lo hi mx).map .iv else none
 |.sl _,.rsv i l _=>if lo=none/\mx=none/\hi=some (l.length:Int)then some (.tsl i l)else none
 |.sl es,.tsl _ l=>if oL es l then(uU .no l lo hi mx).map .iv else none
 |.sl es,.msl b v off len cap e =>
  if e≠es\/rU S b v=false then none else
  match fN len cap lo hi mx with
  |some (l,h,m)=>some (.msl b v (if m=l then off else off+l*es) (h-l) (m-l) es)
  |none=>none
 |.arr n e,a =>
  match a with
  |.ptr b v off=>match S[b]? with
   |some (.cells v' _ cs)=>if v'=v/\off+n*e<=cs.length then match fN n n lo hi mx with
     |some (l,h,m)=>some (.msl b v (if m=l then off else off+l*e) (h-l) (m-l) e)
     |none=>none
    else none
   |_=>none
  |.iv (.cp cs)=>if cs.length<n*e then none else match fN n n lo hi mx with
   |some (l,h,m)=>some (.iv (.sl (if m=h then .full else .no) (((cP e n cs).drop l).take (h-l))))
   |none=>none
  |_=>none
 |_,_=>none
def eA(n bytes:Nat):Bool:=n*bytes<=35184372088832&&bytes<=1048576&&n<=35184372088832
def aQz:TV->Bool
 |.iv (.sl _ _) | .msl .. | .tsl ..=>true
 |_=>false
def bA(mu:Bool)(es bytes el:Nat)(S:aA)(s:TV)(x:TV):Option (TV×aA) :=
 match dU S x,lenOf S x with
 |some xs,some m =>
  if xs.length≠m*es\/xs.any bJ=true then none else
  if m=0 then(if aQz s then some (s,S)else none)else
  match s with
  |.iv (.sl t l) =>
   if t==.no||!(oL es l)then none else
   if !(eA (l.length+m) bytes)then none else
   if mu then
    some (.msl S.length 0 0 (l.length+m) (l.length+m) es,S++[.cells 0 true ((bC l).map .iv++xs)])
   else match toIVs xs with
    |some ys=>some (.tsl S.length (l++cP es m ys),S++[.tok (l.length+m) es el])
    |none=>if l=[]then some (.msl S.length 0 0 m m es,S++[.cells 0 true xs])else none
  |.tsl i l =>
   match S[i]?,toIVs xs with
   |some (.tok n e t),some ys =>
    if n=l.length&&e=es&&t=el&&oL es l&&eA (l.length+m) bytes then some (.tsl i (l++cP es m ys),S.set i (.tok (l.length+m) es el))else none
   |_,_=>none
  |.msl b v off len cap e =>
   match S[b]? with
   |some (.cells v' loose cs) =>
    if e≠es\/v'≠v then none else
    if len+m<=cap then
     if off+(len+m)*es<=cs.length then some (.msl b v off (len+m) cap es,S.set b (.cells v loose (put cs (off+len*es) xs)))else none
    else if !(eA (len+m) bytes)then none else
     match sub cs off (len*es)with
     |some old =>
      if loose then some (.msl b (v+1) 0 (len+m) (len+m) es,S.set b (.cells (v+1) true (old++xs)))
      else some (.msl S.length 0 0 (len+m) (len+m) es,S++[.cells 0 true (old++xs)])
     |none=>none
   |_=>none
  |_=>none
 |_,_=>none
def qU(es bytes el:Nat)(S:aA)(s:TV)(n:Int):Option (TV×aA) :=
 match s with
 |.iv (.sl t l) =>
  if t==.no||!(oL es l)||n<=0 then none else
  if eA (l.length+n.toNat) bytes then some (.rsv S.length l n.toNat,S++[.tok l.length es el])else none
 |_=>none
def lW(z:List IV)(S:aA)(x:TV):Option aA :=
 match x with
 |.iv (.sl _ [])=>some S
 |.msl b v off len _ e =>
  if len=0 then some S else
  match S[b]? with
  |some (.cells v' loose cs) =>
   if e=z.length/\v'=v/\off+len*e<=cs.length then some (S.set b (.cells v loose (put cs off (bC (List.replicate len (z.map .iv))))))else none
  |_=>none
 |_=>none
def aJ7(es:Nat)(S:aA)(d s:TV):Option (TV×aA) :=
 match d,dU S s,lenOf S s with
 |.msl b v off len _ e,some xs,some m =>
  if e≠es\/xs.length≠m*es then none else
  let n:=min m len
  if n=0 then some (.iv (.int .i64 0),S)else
  match S[b]? with
  |some (.cells v' loose cs) =>
   if v'=v/\off+n*es<=cs.length/\xs.any bJ=false then some (.iv (.int .i64 n),S.set b (.cells v loose (put cs off (xs.take (n*es)))))else none
  |_=>none
 |.iv (.sl _ []),some xs,some m=>if xs.length=m*es then some (.iv (.int .i64 0),S)else none
 |.tsl _ [],some xs,some m=>if xs.length=m*es then some (.iv (.int .i64 0),S)else none
 |_,_,_=>none
def aDw(S:aA):TV->Option IV
 |.iv v=>some v
 |.tsl _ l=>some (.sl .no l)
 |.msl i v off len cap es=>match cH S (.msl i v off len cap es)with
  |some l=>some (.sl .no l)
  |none=>none
 |_=>none
def xP(S:aA):List TV->Option (List IV)
 |[]=>some []
 |v::r=>match aDw S v,xP S r with
  |some a,some l=>some (a::l)
  |_,_=>none
def wI(S:aA):TV->Option IV
 |.agg cs=>(xP S cs).map .agg
 |v=>aDw S v
def vL(S:aA):List TV->Option (List TV)
 |[]=>some []
 |v::r=>match wI S v,vL S r with
  |some a,some l=>some (.iv a::l)
  |_,_=>none
def resolve(S:aA):TV->Option TV
 |.tup vs=>(vL S vs).map .tup
 |v=>(wI S v).map .iv
def kM:TV->Bool
 |.iv _=>true
 |_=>false
def jP(S:aA):TV->Option TV
 |.fn f fst cap=>if fst.all kM&&cap.all kM then some (.fn f fst cap)else none
 |v=>(wI S v).map .iv
def cY(S:aA):List TV->Option (List TV)
 |[]=>some []
 |v::r=>match jP S v,cY S r with
  |some a,some l=>some (a::l)
  |_,_=>none
def pZ:TV->Bool
 |.msl ..=>true
 |.agg cs=>cs.any fun | .msl ..=>true|_=>false
 |_=>false
def iP:IV->Bool
 |.bool _ | .int _ _ | .str _ | .nilp | .nilm | .nilf | .nili=>true
 |.agg cs=>cs.all fun | .bool _ | .int _ _ | .str _=>true|_=>false
 |_=>false
def fW:TV->Bool
 |.iv v=>iP v
 |.tup vs=>vs.all fun | .iv v=>iP v|_=>false
 |_=>false
mutual
def gN:IV->IV->Bool
 |.bool a,.bool b=>a==b
 |.int k a,.int k' b=>k==k'&&a==b
 |.str a,.str b=>a==b
 |.sl t a,.sl u b=>t==u&&kN a b
 |.agg a,.agg b=>lX a b
 |.cp a,.cp b=>lX a b
 |.nilp,.nilp=>true
 |.nilm,.nilm=>true
 |.nilf,.nilf=>true
 |.nili,.nili=>true
 |_,_=>false
def lX:List IV->List IV->Bool
 |[],[]=>true
 |a::as,b::bs=>gN a b&&lX as bs
 |_,_=>false
def kN:List (List IV)->List (List IV)->Bool
 |[],[]=>true
 |a::as,b::bs=>lX a b&&kN as bs
 |_,_=>false
end
def aHd:TV->TV->Bool
 |.iv a,.iv b=>gN a b
 |.lp j o,.lp j' o'=>j==j'&&o==o'
 |.ptr j v o,.ptr j' v' o'=>j==j'&&v==v'&&o==o'
 |.msl a v b c d e,.msl a' v' b' c' d' e'=>a==a'&&v==v'&&b==b'&&c==c'&&d==d'&&e==e'
 |.tsl i a,.tsl j b=>i==j&&kN a b
 |.map i,.map j=>i==j
 |_,_=>false
def xQ:List TV->List TV->Bool
 |[],[]=>true
 |a::as,b::bs=>aHd a b&&xQ as bs
 |_,_=>false
def same:TV->TV->Bool
 |.fn f a b,.fn g c d=>f==g&&xQ a c&&xQ b d
 |.agg a,.agg b=>xQ a b
 |.tup a,.tup b=>xQ a b
 |a,b=>aHd a b
end Go.TM
namespace Go.TM
abbrev aF5:=List TV->aA->Option (TV×aA)
structure bD where
 funcs:Nat->Option aU
 glob:Nat->Option (List IV)
 prim:Nat->Option aF5
variable (K:bD)
def aX(env rs:List TV):aH->TV
 |.reg i=>rs.getD i .hole
 |.loc j=>match env.getD j .hole with
  |.lb _=>.lp j 0
  |v=>v
 |.cst v=>.iv v
 |.fn f=>.fn f [] []
 |.glob g=>match K.glob g with
  |some cs=>.iv (.cp cs)
  |none=>.hole
def nG(e:aH->TV)(x:Option aH):Option (Option Int) :=
 match x with
 |none=>some none
 |some x=>(fB (e x)).map some
def fill(cs:List TV)(e:aH->TV):List (Nat×Nat×aH)->Option (List TV)
 |[]=>some cs
 |(off,n,x)::r =>
  let vs:=cellsOf (mV (e x))
  if vs.length=n/\off+n<=cs.length/\vs.any bJ=false then fill (put cs off vs) e r else none
def dZ(es:List (List TV))(n:Nat)(e:aH->TV):List (Nat×aH)->Option (List (List TV))
 |[]=>some es
 |(i,x)::r =>
  let vs:=cellsOf (mV (e x))
  if vs.length=n/\i<es.length/\vs.any bJ=false then dZ (es.set i vs) n e r else none
def jY:List (List TV)->Option (List (List IV))
 |[]=>some []
 |c::r=>match mG c,jY r with
  |some a,some l=>some (a::l)
  |_,_=>none
def qA(j:Nat):TV->Bool
 |.lp k _=>k==j
 |_=>false
def cA:TV->Bool
 |.lp .. | .lb _=>true
 |_=>false
def aV(o:TOp)(e:aH->TV):Option TV :=
 match o with
 |.mov x=>some (e x)
 |.pick c a b=>match zL (e c)with
  |some t=>some (if t then e a else e b)
  |none=>none
 |.build z ps=>(fill (z.map .iv) e ps).map rT
 |.lit false z len ps=>match dZ (List.replicate len (z.map .iv)) z.length e ps with
  |some es=>(jY es).map fun l=>.iv (.sl .full l)
  |none=>none
 |.nilCheck x=>if aAt (e x)then some (e x)else none
 |.bin op x y=>(binOp op (e x) (e y)).map .iv
 |.eqB neg k x y=>(eqB k (e x) (e y)).map fun b=>.iv (.bool (if neg then !b else b))
 |.eqAgg neg cL x y=>(eqAgg neg cL (e x) (e y)).map .iv
 |.un op x=>(unOp op (e x)).map .iv
 |.conv k x=>(dD k (e x)).map .iv
 |.mkFn f fst cap=>if(fst.map e++cap.map e).any cA then none else some (.fn f (fst.map e) (cap.map e))
 |.fieldAddr off x=>fY (e x) off
 |.field off n ag x=>match iE (e x)with
  |some all=>match sub all off n with
   |some cs=>gL ag cs
   |none=>none
  |none=>none
 |.indexAddrS es x k=>match fB (e k)with
  |some n=>indexAddrS es (e x) n
  |none=>none
 |.indexAddrA len es x k=>match fB (e k)with
  |some n=>if 0<=n/\n<len then fY (e x) (n.toNat*es)else none
  |none=>none
 |.indexA len es ag x k=>match fB (e k)with
  |some n=>if 0<=n/\n<len then match iE (e x)with
    |some all=>match sub all (n.toNat*es) es with
     |some cs=>gL ag cs
     |none=>none
    |none=>none
   else none
  |none=>none
 |.indexS x k=>match e x,fB (e k)with
  |.iv (.str s),some n=>if 0<=n then(s[n.toNat]?).map fun b=>.iv (.int .u8 b.toNat)else none
  |_,_=>none
 |.extract n x=>match e x with
  |.tup vs=>vs[n]?
  |_=>none
 |.cap x=>(aAu (e x)).map fun(n:Nat)=>.iv (.int .i64 n)
 |.lenC n=>some (.iv (.int .i64 n))
 |.minmax mx xs=>match xs.map e with
  |.iv a::r=>(minmax mx a r).map .iv
  |_=>none
 |_=>none
def qV(kk:KK)(S:aA)(m:TV)(k:IV):Option (Option (Nat×TV)) :=
 match m with
 |.iv .nilm=>some none
 |.map j=>match S[j]? with
  |some (.mp es _)=>findKey kk k es 0
  |_=>none
 |_=>none
def aO(o:TOp)(e:aH->TV)(env:Env)(S:aA):Option TV :=
 match o with
 |.load1 a=>match bP env S (e a) 1 with
  |some cs=>gL false cs
  |none=>none
 |.loadN n a=>match bP env S (e a) n with
  |some cs=>gL true cs
  |none=>none
 |.conv .bytesStr x=>match cH S (e x)with
  |some l=>(oR l).map fun b=>.iv (.str b)
  |none=>none
 |.slice k x lo hi mx=>match nG e lo,nG e hi,nG e mx with
  |some lo,some hi,some mx=>fQ S k (e x) lo hi mx
  |_,_,_=>none
 |.lookup kk z ok m k=>match lH (e k)with
  |some k =>
   if !(gX kk k)then none else
   match qV kk S (e m) k with
   |some (some (_,x))=>some (if ok then .tup [x,.iv (.bool true)]else x)
   |some none=>some (if ok then .tup [.iv z,.iv (.bool false)]else .iv z)
   |none=>none
  |none=>none
 |.entryM x=>match e x with
  |.it j=>match S[j]? with
   |some (.mit (some m) _ seen last)=>match S[m]?,seen.getLast? with
    |some (.mp es clock),some stamp=>if clock≠last then none else match es.find? (·.1==stamp)with
     |some y=>some (.tup [.iv y.2.1,y.2.2])
     |none=>none
    |_,_=>none
   |_=>none
  |_=>none
 |.len k x=>if zM (e x)=k then(lenOf S (e x)).map fun(n:Nat)=>.iv (.int .i64 n)else none
 |_=>none
def bO(o:TOp)(e:aH->TV)(n:Nat):Option (TV×aG) :=
 match o with
 |.allocH t z=>some (.ptr n t 0,.cells t false (z.map .iv))
 |.boxH t x=>if(cellsOf (e x)).any bJ then none else some (.ptr n t 0,.cells t false (cellsOf (e x)))
 |.lit _ z len ps=>match dZ (List.replicate len (z.map .iv)) z.length e ps with
  |some es=>some (.msl n 0 0 es.length es.length z.length,.cells 0 false (bC es))
  |none=>none
 |.mkMap=>some (.map n,.mp [] 0)
 |.mkSlice z bytes l c=>match fB (e l),fB (e c)with
  |some l,some c =>
   if 0<=l/\l<=c/\eA c.toNat bytes=true then
    some (.msl n 0 0 l.toNat c.toNat z.length,.cells 0 false (bC (List.replicate c.toNat (z.map .iv))))
   else none
  |_,_=>none
 |_=>none
def gO(o:TOp)(e:aH->TV)(rs:List TV)(env:Env)(S:aA):Option (TV×Env×aA) :=
 match o with
 |.allocL j z=>if rs.any (qA j)||!(decide (j<env.length))then none else some (.lp j 0,env.set j (.lb (z.map .iv)),S)
 |.boxL j x=>if(cellsOf (e x)).any bJ||rs.any (qA j)||!(decide (j<env.length))then none else some (.lp j 0,env.set j (.lb (cellsOf (e x))),S)
 |.store n a x =>
  let vs:=cellsOf (e x)
  if vs.length=n then match setCells env S (e a) vs with
   |some (env,S)=>some (undef,env,S)
   |none=>none
  else none
 |.update kk m k x=>match lH (e k),e m with
  |some k,.map j=>if !(gX kk k)then none else match S[j]? with
   |some (.mp es clock)=>if cA (e x)then none else match findKey kk k es 0 with
    |some (some (n,_))=>if !(((es[n]?).map fun y=>gZ y.2.1 k).getD false)then none else some (undef,env,S.set j (.mp (es.modify n fun y=>(y.1,k,e x)) clock))
    |some none=>some (undef,env,S.set j (.mp (es++[(clock,k,e x)]) (clock+1)))
    |none=>none
   |_=>none
  |_,_=>none
 |.entry kk z m k=>match lH (e k),e m with
  |some k,.map j=>if !(gX kk k)then none else match S[j]? with
   |some (.mp es clock)=>match findKey kk k es 0 with
    |some (some (n,x))=>if !(((es[n]?).map fun y=>gZ y.2.1 k).getD false)then none else some (.tup [x,.iv (.int .i64 (((es[n]?).map (·.1)).getD 0:Nat))],env,S.set j (.mp (es.modify n fun y=>(y.1,k,y.2.2)) clock))
    |some none=>some (.tup [.iv z,.iv (.int .i64 clock)],env,S.set j (.mp (es++[(clock,k,.iv z)]) (clock+1)))
    |none=>none
   |_=>none
  |_,_=>none
 |.entryStore m s x=>match e m,fB (e s)with
  |.map j,some born=>match S[j]? with
   |some (.mp es clock)=>if cA (e x)then none else match es.findIdx? (fun y=>(y.1:Int)==born)with
    |some n=>some (undef,env,S.set j (.mp (es.modify n fun y=>(y.1,y.2.1,e x)) clock))
    |none=>none
   |_=>none
  |_,_=>none
 |.range str x=>match str,e x with
  |true,.iv (.str s)=>some (.it S.length,env,S++[.sit s 0])
  |false,.iv .nilm=>some (.it S.length,env,S++[.mit none 0 [] 0])
  |false,.map j=>match S[j]? with
   |some (.mp _ clock)=>some (.it S.length,env,S++[.mit (some j) clock [] clock])
   |_=>none
  |_,_=>none
 |.nextS x=>match e x with
  |.it j=>match S[j]? with
   |some (.sit s pos) =>
    if pos<s.length then
     let (c,width):=Utf8.decode ⟨s.toArray⟩ pos
     some (.tup [.iv (.bool true),.iv (.int .i64 pos),.iv (.int .i32 c)],env,S.set j (.sit s (pos+width)))
    else some (.tup [.iv (.bool false)],env,S)
   |_=>none
  |_=>none
 |.append mu es bytes el s x=>match bA mu es bytes el S (e s) (e x)with
  |some (x,S)=>some (x,env,S)
  |none=>none
 |.copy es d s=>match aJ7 es S (e d) (e s)with
  |some (x,S)=>some (x,env,S)
  |none=>none
 |.grow es bytes el s n=>match fB (e n)with
  |some n=>match qU es bytes el S (e s) n with
   |some (x,S)=>some (x,env,S)
   |none=>none
  |none=>none
 |.clear z x=>match lW z S (e x)with
  |some S=>some (undef,env,S)
  |none=>none
 |.delete kk m k=>match lH (e k),e m with
  |some k,.iv .nilm=>if gX kk k then some (undef,env,S)else none
  |some k,.map j=>if !(gX kk k)then none else match S[j]? with
   |some (.mp es clock)=>match findKey kk k es 0 with
    |some (some (n,_))=>some (undef,env,S.set j (.mp (es.eraseIdx n) clock))
    |some none=>some (undef,env,S)
    |none=>none
   |_=>none
  |_,_=>none
 |_=>none
def iU(o:TOp)(env rs:List TV)(S:aA):Option TV :=
 match aV o (aX K env rs)with
 |some v=>some v
 |none=>aO o (aX K env rs) env S
def jI(o:TOp)(env rs:List TV)(S:aA):Option (TV×Env×aA) :=
 match iU K o env rs S with
 |some v=>some (v,env,S)
 |none=>match bO o (aX K env rs) S.length with
  |some (v,b)=>some (v,env,S++[b])
  |none=>gO o (aX K env rs) rs env S
def sW:TOp->String
 | .mov _ => "mov" | .pick .. => "pick" | .allocL .. => "allocL" | .allocH .. => "allocH" | .boxL .. => "boxL" | .boxH .. => "boxH" | .build .. => "build" | .lit .. => "lit"
 | .load1 _ => "load1" | .loadN .. => "loadN" | .store .. => "store" | .nilCheck _ => "nilCheck" | .bin .. => "bin" | .eqB .. => "eqB" | .eqAgg .. => "eqAgg" | .un .. => "un" | .conv .. => "conv"
 | .mkFn .. => "mkFn" | .mkMap => "mkMap" | .mkSlice .. => "mkSlice" | .slice .. => "slice" | .fieldAddr .. => "fieldAddr" | .field .. => "field" | .indexAddrS .. => "indexAddrS"
 | .indexAddrA .. => "indexAddrA" | .indexA .. => "indexA" | .indexS .. => "indexS" | .lookup .. => "lookup" | .update .. => "update" | .entry .. => "entry" | .entryStore .. => "entryStore"
 | .range .. => "range" | .nextS _ => "nextS" | .nextM _ => "nextM" | .entryM _ => "entryM" | .extract .. => "extract" | .append .. => "append" | .copy .. => "copy" | .grow .. => "grow"
 | .clear .. => "clear" | .len .. => "len" | .cap _ => "cap" | .lenC _ => "lenC" | .delete .. => "delete" | .minmax .. => "minmax" | .call .. => "call" | .callv .. => "callv" | .prim .. => "prim" | .bad => "bad"
structure Orc where
 call:Nat->List TV->aA->Out (TV×aA)
 yld:Nat->List TV->aA->Out (TV×aA)
 loop:aL->Env->aA->Out (aW×Env×aA)
def lY(S:aA)(i:Nat):Option aA :=
 match S[i]? with
 |some (.cells v _ cs)=>(toIVs cs).map fun l=>S.set i (.frz v l)
 |some (.frz ..)=>some S
 |_=>none
def cJ(S:aA):List TV->Option aA
 |[]=>some S
 |.msl i _ _ _ _ _::r=>match lY S i with
  |some S=>cJ S r
  |none=>none
 |.agg cs::r=>match freezeC S cs with
  |some S=>cJ S r
  |none=>none
 |_::r=>cJ S r
where
 freezeC (S:aA):List TV->Option aA
  |[]=>some S
  |.msl i _ _ _ _ _::r=>match lY S i with
   |some S=>freezeC S r
   |none=>none
  |_::r=>freezeC S r
def fC(orc:Orc)(f:Nat)(args:List TV)(S:aA):Out (TV×aA) :=
 match cY S args with
 | none => .fail "pure call: an argument"
 |some as=>(orc.call f as []).bind fun r =>
  match resolve r.2 r.1 with
  | none => .fail "pure call: the result"
  |some v =>
   if args.any pZ&&!(fW v)then
    match cJ S args with
    |some S=>.ret (v,S)
    | none => .fail "pure call: freeze"
   else .ret (v,S)
def zN(v:TV)(S:aA):Option (TV×aA) :=
 match wI S v,cJ S [v]with
 |some a,some S'=>some (.iv a,S')
 |_,_=>none
def jJ(orc:Orc)(frz:Bool)(f:Nat)(args:List TV)(S:aA):Out (TV×aA) :=
 if args.any cA then .fail "call: a local's address" else
 (orc.call f args S).bind fun r =>
  if frz then match zN r.1 r.2 with
   |some q=>.ret q
   | none => .fail "call: freeze"
  else .ret r
def bW(orc:Orc)(o:TOp)(env rs:List TV)(S:aA):Out (TV×Env×aA) :=
 let e:=aX K env rs
 let w (x:Out (TV×aA)):Out (TV×Env×aA):=x.bind fun r=>.ret (r.1,env,r.2)
 match o with
 |.call pure trunc f args =>
  w (if pure then fC orc f (args.map e) S else jJ orc trunc f (args.map e) S)
 |.callv f args=>match e f with
  |.fn k fst cap=>w (if(fst++args.map e++cap).all kM then fC orc k (fst++args.map e++cap) S else jJ orc false k (fst++args.map e++cap) S)
  | .yld i => if (args.map e).any cA then .fail "yield: a local's address" else w (orc.yld i (args.map e) S)
  | _ => .fail "callv"
 |.prim f args=>match K.prim f with
  | some p => if (args.map e).any cA then .fail "prim: a local's address" else w (Out.ofOpt "prim" (p (args.map e) S))
  | none => .fail "prim"
 |.nextM x=>match e x with
  |.it j=>match S[j]? with
   |some (.mit none _ _ _)=>.ret (.tup [.iv (.bool false)],env,S)
   |some (.mit (some m) since seen last)=>match S[m]? with
    |some (.mp es clock) =>
     if !seen.isEmpty && !es.isEmpty && es.all (fun y => decide (y.1 ≥ last)) then .fail "next" else
     let left:=es.filter fun y=>!seen.contains y.1
     let old:=left.filter (·.1<since)
     let new:=left.filter (·.1≥since)
     let cands:List (Option (Nat×IV×TV)):=(if old.isEmpty then [none]else [])++(old++new).map some
     .pick cands.length fun c=>match cands[c]? with
      |some (some y)=>.ret (.tup [.iv (.bool true),.iv y.2.1,y.2.2],env,S.set j (.mit (some m) since (seen++[y.1]) clock))
      |some none=>.ret (.tup [.iv (.bool false)],env,S)
      | none => .fail "next"
    | _ => .fail "next"
   | _ => .fail "next"
  | _ => .fail "next"
 |o=>Out.ofOpt (sW o) (jI K o env rs S)
def dV(g:Option (Nat×Bool))(rs:List TV):Option Bool :=
 match g with
 |none=>some true
 |some (i,want)=>match rs.getD i .hole with
  |.iv (.bool b)=>some (b==want)
  |.tup []=>some false
  |_=>none
def jZ(orc:Orc)(o:aK)(i:Nat)(rs:List TV)(env:Env)(S:aA):Out (List TV×Env×aA) :=
 match dV o.guard rs with
 | none => .fail "guard"
 |some false=>.ret (rs.set i undef,env,S)
 |some true=>(bW K orc o.op env rs S).bind fun r=>.ret (rs.set i r.1,r.2.1,r.2.2)
def kO(orc:Orc):List aK->Nat->List TV->Env->aA->Out (List TV×Env×aA)
 |[],_,rs,env,S=>.ret (rs,env,S)
 |o::os,i,rs,env,S=>(jZ K orc o i rs env S).bind fun r=>kO orc os (i+1) r.1 r.2.1 r.2.2
def fJ:List aK->Nat->List TV->Env->Option Env
 |[],_,_,env=>some env
 |o::os,i,rs,env=>match o.loc with
  |none=>fJ os (i+1) rs env
  |some j=>if cA (rs.getD i .hole)then none else fJ os (i+1) rs (env.set j (rs.getD i .hole))
def eC(ops:List aK):List Nat->List TV->Env->aA->Option (List TV×aA)
 |[],rs,_,S=>some (rs,S)
 |i::is,rs,env,S=>match ops[i]? with
  |none=>none
  |some o=>match dV o.guard rs with
   |none=>none
   |some false=>eC ops is (rs.set i undef) env S
   |some true=>match iU K o.op env rs S with
    |some v=>eC ops is (rs.set i v) env S
    |none=>match bO o.op (aX K env rs) S.length with
     |some (v,b)=>eC ops is (rs.set i v) env (S++[b])
     |none=>none
def nH(ops:List aK)(rs:List TV)(env:Env)(S:aA):List Nat->Bool
 |[]=>true
 |i::is=>(match ops[i]? with
  |some o=>match dV o.guard rs with
   |some true=>match iU K o.op env rs S with
    |some v=>same v (rs.getD i .hole)
    |none=>false
   |some false=>true
   |none=>false
  |none=>false)&&nH ops rs env S is
def eD(orc:Orc)(ops:List aK):List (Nat×List Nat×List Nat)->List TV->Env->aA->Out (List TV×Env×aA)
 |[],rs,env,S=>.ret (rs,env,S)
 |(i,chk,fl)::ps,rs,env,S=>match ops[i]? with
  | none => .fail "draw"
  |some o=>(jZ K orc o i rs env S).bind fun r =>
   if nH K ops r.1 r.2.1 r.2.2 chk then
    match eC K ops fl r.1 r.2.1 r.2.2 with
    |some q=>eD orc ops ps q.1 r.2.1 q.2
    | none => .fail "draw: float"
   else .fail "draw: read anew"
def vM(n:Nat):List TV:=List.replicate n .hole
def noLb:TV->TV
 |.lb _=>.hole
 |v=>v
def eV(orc:Orc):aL->Env->aA->Out (aW×Env×aA)
 |.skip,env,S=>.ret (.normal,env,S)
 |.region ops,env,S=>(kO K orc ops 0 (vM ops.length) env S).bind fun r=>match fJ ops 0 r.1 r.2.1 with
  |some env=>.ret (.normal,env,r.2.2)
  | none => .fail "local"
 |.draw f0 ph ops,env,S=>match eC K ops f0 (vM ops.length) env S with
  | none => .fail "draw: float"
  |some q=>(eD K orc ops ph q.1 env q.2).bind fun r=>match fJ ops 0 r.1 r.2.1 with
   |some env=>.ret (.normal,env,r.2.2)
   | none => .fail "local"
 |.seq a b,env,S=>(eV orc a env S).bind fun r=>match r.1 with
  |.normal=>eV orc b r.2.1 r.2.2
  |j=>.ret (j,r.2.1,r.2.2)
 |.cond c a b,env,S=>match zL (aX K env [] c)with
  |some true=>eV orc a env S
  |some false=>eV orc b env S
  | none => .fail "cond"
 |.block id b,env,S=>(eV orc b env S).bind fun r=>match r.1 with
  |.exit id'=>if id'=id then .ret (.normal,r.2.1,r.2.2)else .ret (.exit id',r.2.1,r.2.2)
  |j=>.ret (j,r.2.1,r.2.2)
 |.loop b,env,S=>orc.loop b env S
 |.rangeFunc f ps assign body,env,S=>match aX K env [] f with
  |.fn k fst cap =>
   (orc.call k (fst++.yld S.length::cap) (S++[.lp .ready none (env.map noLb) ps assign body])).bind fun r =>
    match r.2[S.length]? with
    | some (.lp .busy ..) => .fail "range: busy"
    |some (.lp _ pend env' ps assign body) =>
     .ret (pend.getD .normal,env,r.2.set S.length (.lp .exhausted pend env' ps assign body))
    | _ => .fail "range"
  | _ => .fail "range"
 |.exit id,env,S=>.ret (.exit id,env,S)
 |.ret,env,S=>.ret (.ret,env,S)
 | .bad, _, _ => .fail "bad"
def jQ(env:Env)(S:aA):mU->Option TV
 |.loc j=>match env.getD j .hole with
  |.lb _=>none
  |.lp ..=>none
  |v=>some v
 |.cell j n ag=>match bP env S (aX ⟨fun _=>none,fun _=>none,fun _=>none⟩ env [] (.loc j)) n with
  |some cs=>gL ag cs
  |none=>none
def fK(env:Env)(S:aA):List mU->Option (List TV)
 |[]=>some []
 |r::rs=>match jQ env S r,fK env S rs with
  |some v,some l=>some (v::l)
  |_,_=>none
def kP(rs:List mU)(env:Env)(S:aA):Option TV :=
 match fK env S rs with
 |some [v]=>some v
 |some vs=>some (.tup vs)
 |none=>none
def eM(orc:Orc)(f:Nat)(args:List TV)(S:aA):Out (TV×aA) :=
 match K.funcs f with
 | none => .fail "no function"
 |some fn =>
  if args.length ≠ fn.nparams then .fail "arguments" else
  (eV K orc fn.body (args++List.replicate (fn.nlocs-fn.nparams) undef) S).bind fun r =>
   match r.1 with
   | .exit _ => .fail "exit"
   |_=>match kP fn.results r.2.1 r.2.2 with
    |some v=>.ret (v,r.2.2)
    | none => .fail "results"
def qW(env:Env):List Nat->List TV->Option Env
 |[],[]=>some env
 |j::js,v::vs=>if cA v then none else qW (env.set j v) js vs
 |_,_=>none
def dW:aL->Bool
 |.seq a b=>dW a&&dW b
 |.cond _ a b=>dW a&&dW b
 |.block _ b=>dW b
 |.loop b=>dW b
 |.rangeFunc ..=>false
 |_=>true
def iA(orc:Orc)(i:Nat)(args:List TV)(S:aA):Out (TV×aA) :=
 match S[i]? with
 |some (.lp _ _ env ps assign body) =>
  match qW env ps args with
  | none => .fail "yield: arguments"
  |some env1 =>
   (eV K orc assign env1 S).bind fun r =>
    match r.1,r.2.2[i]? with
    |.normal,some (.lp .ready p2 e2 ps2 a2 b2) =>
     (eV K orc body r.2.1 (r.2.2.set i (.lp .busy p2 e2 ps2 a2 b2))).bind fun q =>
      match q.2.2[i]? with
      |some (.lp _ _ e3 ps3 a3 b3)=>match q.1 with
       |.normal=>.ret (.iv (.bool true),q.2.2.set i (.lp .ready none e3 ps3 a3 b3))
       |j=>.ret (.iv (.bool false),q.2.2.set i (.lp .done (some j) e3 ps3 a3 b3))
      | _ => .fail "yield: record"
    | _, _ => .fail "yield: state"
 | _ => .fail "yield"
def ex:Nat->Orc
 | 0 => ⟨fun _ _ _ => .fail "fuel", fun _ _ _ => .fail "fuel", fun _ _ _ => .fail "fuel"⟩
 |n+1 =>
  {call:=eM K (ex n)
   yld:=iA K (ex n)
   loop:=fun b env S=>(eV K (ex n) b env S).bind fun r=>match r.1 with
    |.normal=>(ex n).loop b r.2.1 r.2.2
    |j=>.ret (j,r.2.1,r.2.2)}
end Go.TM
namespace Go.TM
structure bEw where
 bef:List Nat
 f0:List Nat
 ph:List (Nat×List Nat×List Nat)
structure Ann where
 slots:List Nat
 lb:List Nat:=[]
 mu:List (Nat×Nat):=[]
 trunc:List (Nat×Nat):=[]
 draws:List (Nat×bEw):=[]
structure dH where
 st:Nat->Bool
 prim:Nat->Bool
def aHe:Value->Option IV
 |.bool b=>some (.bool b)
 |.int k n=>some (.int k n)
 |.string s=>some (.str s.data.toList)
 |.pointer none=>some .nilp
 |.slice none 0 0=>some (.sl .nil [])
 |.map none=>some .nilm
 |.nilFunc=>some .nilf
 |.nilIface=>some .nili
 |_=>none
def xR:List Value->Option (List IV)
 |[]=>some []
 |v::r=>match aHe v,xR r with
  |some a,some l=>some (a::l)
  |_,_=>none
def bMe:Value->Option IV
 |.agg cs=>(xR cs.toList).map .agg
 |v=>aHe v
def eX(P:Program)(t:TypeId):Option (List IV) :=
 match P.info? t with
 |some i=>match i.zero with
  |some z=>if z.cells.size=i.size then xR z.cells.toList else none
  |none=>none
 |none=>none
def aAv(P:Program)(t:TypeId):Option IV :=
 match P.info? t with
 |some i=>match i.zero with
  |some z=>bMe z
  |none=>none
 |none=>none
def sizeOf?(P:Program)(t:TypeId):Option Nat:=(P.info? t).map (·.size)
def bytesOf?(P:Program)(t:TypeId):Option Nat:=(P.info? t).map (·.bytes)
def isAgg?(P:Program)(t:TypeId):Option Bool :=
 match P.underlying t with
 |some (.struct _)|some (.array _ _)=>some true
 |some _=>some false
 |none=>none
def vN(P:Program)(t:TypeId):Option LK :=
 match P.underlying t with
 |some (.bool)=>some .bool
 |some (.int _)=>some .int
 |some (.string)=>some .str
 |_=>none
def wJ(P:Program):List Field->Option (List (Nat×LK))
 |[]=>some []
 | f :: fs => if f.name ≠ "_" then match vN P f.type, wJ P fs with
   |some k,some l=>some ((f.offset,k)::l)
   |_,_=>none
  else none
def mH(P:Program)(t:TypeId):Option (List (Nat×LK)) :=
 match P.underlying t with
 |some (.struct fs)=>if P.stoodInHeld t then none else wJ P fs.toList
 |some (.array n e)=>match vN P e with
  |some k=>if sizeOf? P e=some 1 then some ((List.range n).map fun i=>(i,k))else none
  |none=>none
 |_=>none
inductive QK where
 |plain
 |b (k:EK)
 |agg (cL:List (Nat×LK))
def qX(P:Program)(t:TypeId):Option QK :=
 match P.underlying t with
 |some (.int _)|some (.string)=>some .plain
 |some (.bool)=>some (.b .bool)
 |some (.pointer _)=>some (.b .ptr)
 |some (.slice _)=>some (.b .sl)
 |some (.map _ _)=>some (.b .mp)
 |some (.func _ _ _)=>some (.b .fn)
 |some (.struct _)|some (.array _ _)=>if P.eqGuardType P.depth t then none else(mH P t).map .agg
 |_=>none
def iB(P:Program)(t:TypeId):Option KK :=
 match P.underlying t with
 |some (.int _)=>some (.leaf .int)
 |some (.string)=>some (.leaf .str)
 |some (.bool)=>some (.leaf .bool)
 |some (.array _ _)|some (.struct _)=>(mH P t).map .agg
 |_=>none
section
variable (P:Program)(O:dH)(A:Ann)
def aAw(t:Nat):List (Option Nat)->Nat->Option Nat
 |[],_=>none
 |d::r,i=>if d=some t then some i else aAw t r (i+1)
def eE(t:Nat):List Nat->Nat->Option Nat
 |[],_=>none
 |d::r,i=>if d=t then some i else eE t r (i+1)
def opd(dsts:List (Option Nat)):Operand->Option aH
 |.tmp t=>match aAw t dsts 0 with
  |some i=>some (.reg i)
  |none=>(eE t A.slots 0).map .loc
 |.const v=>(bMe v).map .cst
 |.global g=>some (.glob g)
 |.func f=>some (.fn f)
def wK(dsts:List (Option Nat)):List Operand->Option (List aH)
 |[]=>some []
 |x::r=>match opd A dsts x,wK dsts r with
  |some a,some l=>some (a::l)
  |_,_=>none
def aJ8(dsts:List (Option Nat)):Option Operand->Option (Option aH)
 |none=>some none
 |some x=>(opd A dsts x).map some
def aHf(dsts:List (Option Nat))(fs:Array Field):List (Nat×Operand)->Option (List (Nat×Nat×aH))
 |[]=>some []
 |(i,x)::r=>match fs[i]?,opd A dsts x,aHf dsts fs r with
  |some f,some a,some l=>match sizeOf? P f.type with
   |some n=>some ((f.offset,n,a)::l)
   |none=>none
  |_,_,_=>none
def zO(dsts:List (Option Nat))(n:Nat):List (Nat×Operand)->Option (List (Nat×Nat×aH))
 |[]=>some []
 |(i,x)::r=>match opd A dsts x,zO dsts n r with
  |some a,some l=>some ((i*n,n,a)::l)
  |_,_=>none
def zP(dsts:List (Option Nat)):List (Nat×Operand)->Option (List (Nat×aH))
 |[]=>some []
 |(i,x)::r=>match opd A dsts x,zP dsts r with
  |some a,some l=>some ((i,a)::l)
  |_,_=>none
def aJ9(fs:Array Field):Option (List (Nat×Nat)):=fs.toList.mapM fun f=>(P.info? f.type).map fun i=>(f.offset,i.size)
def fV(mu:Bool)(dsts:List (Option Nat))(b:Builtin)(ts:List TypeId)(args:List Operand):Option TOp :=
 match b,ts,args with
 |.append,t::u::_,[s,x]=>match P.underlying t,P.underlying u with
  |some (.slice e),some (.int _)=>match eX P e,bytesOf? P e,opd A dsts s,opd A dsts x with
   |some n,some b,some s,some x=>if n.length=0\/b=0 then none else some (.grow n.length b e s x)
   |_,_,_,_=>none
  |some (.slice e),some (.slice _)|some (.slice e),some .string=>match eX P e,bytesOf? P e,opd A dsts s,opd A dsts x with
   |some n,some b,some s,some x=>if n.length=0\/b=0 then none else some (.append mu n.length b e s x)
   |_,_,_,_=>none
  |_,_=>none
 |.copy,t::_,[d,s]=>match P.underlying t with
  |some (.slice e)=>match sizeOf? P e,opd A dsts d,opd A dsts s with
   |some n,some d,some s=>if n=0 then none else some (.copy n d s)
   |_,_,_=>none
  |_=>none
 |.clear,t::_,[x]=>match P.underlying t with
  |some (.slice e)=>match eX P e,opd A dsts x with
   |some z,some x=>if z.length=0 then none else some (.clear z x)
   |_,_=>none
  |_=>none
 |.cap,t::_,[x]=>match P.underlying t with
  |some (.slice _)=>(opd A dsts x).map .cap
  |_=>none
 |.len,t::_,[x]=>match P.underlying t with
  |some .string=>(opd A dsts x).map (.len .str)
  |some (.slice _)=>(opd A dsts x).map (.len .sl)
  |some (.map _ _)=>(opd A dsts x).map (.len .mp)
  |some (.array n _)=>some (.lenC n)
  |some (.pointer a)=>match P.underlying a with
   |some (.array n _)=>some (.lenC n)
   |_=>none
  |_=>none
 |.delete,t::_,[m,k]=>match P.underlying t with
  |some (.map kt _)=>match iB P kt,opd A dsts m,opd A dsts k with
   |some kk,some m,some k=>some (.delete kk m k)
   |_,_,_=>none
  |_=>none
 |.min,_,xs=>(wK A dsts xs).map (.minmax false)
 |.max,_,xs=>(wK A dsts xs).map (.minmax true)
 |_,_,_=>none
def aQ0(mu trunc:Bool)(dsts:List (Option Nat))(c:Call):Option TOp :=
 match c.callee with
 |.builtin b=>fV P A mu dsts b c.argTypes.toList c.args.toList
 |.value (.func f)=>match wK A dsts c.args.toList with
  |some args =>
   if O.prim f then some (.prim f args)
   else match P.funcs[f]? with
    | some fn => if fn.body.isSome && fn.name != "runtime.NumGoroutine" then some (.call (!(O.st f)) trunc f args) else none
    |none=>none
  |none=>none
 |.value x=>match opd A dsts x,wK A dsts c.args.toList with
  |some x,some args=>some (.callv x args)
  |_,_=>none
 |.invoke _ _=>none
def wL(mu trunc isLb:Bool)(dsts:List (Option Nat))(o:Oper):Option TOp :=
 let e:=opd A dsts
 let slot:=o.dst.bind fun t=>eE t A.slots 0
 match o.op with
 |.move x | .assign x=>(e x).map .mov
 |.pick c a b=>match e c,e a,e b with
  |some c,some a,some b=>some (.pick c a b)
  |_,_,_=>none
 |.alloc t=>match eX P t with
  |some z=>if isLb then slot.map fun j=>.allocL j z else some (.allocH (t+1) z)
  |none=>none
 |.box t x=>match e x with
  |some x=>if isLb then slot.map fun j=>.boxL j x else some (.boxH (t+1) x)
  |none=>none
 |.build t ps=>match eX P t,P.underlying t with
  |some z,some (.struct fs)=>if(aJ9 P fs).isSome then(aHf P A dsts fs ps.toList).map (.build z)else none
  |some z,some (.array _ el)=>match sizeOf? P el with
   |some n=>(zO A dsts n ps.toList).map (.build z)
   |none=>none
  |_,_=>none
 |.buildSlice t len ps=>match P.underlying t with
  |some (.slice el)=>match eX P el,zP A dsts ps.toList with
   |some z,some ps=>if z.length=0\/len*z.length>16777216 then none else some (.lit mu z len ps)
   |_,_=>none
  |_=>none
 |.load t a=>match isAgg? P t,sizeOf? P t,e a with
  |some true,some n,some a=>some (.loadN n a)
  |some false,some _,some a=>some (.load1 a)
  |_,_,_=>none
 |.store t a v=>match sizeOf? P t,e a,e v with
  |some n,some a,some v=>some (.store n a v)
  |_,_,_=>none
 |.nilCheck x=>(e x).map .nilCheck
 |.binOp op t x y _=>match e x,e y with
  |some a,some b=>match op with
   |.eql | .neq=>match qX P t with
    |some .plain=>some (.bin op a b)
    |some (.b k)=>some (.eqB (op==.neq) k a b)
    |some (.agg cL)=>some (.eqAgg (op==.neq) cL a b)
    |none=>none
   |_=>some (.bin op a b)
  |_,_=>none
 |.unOp op _ x=>(e x).map (.un op)
 |.convert s d x=>match P.underlying s,P.underlying d,e x with
  |some (.int _),some (.int k),some x=>some (.conv (.toInt k) x)
  |some (.int _),some .string,some x=>some (.conv .intStr x)
  |some .string,some .string,some x=>some (.conv .strStr x)
  |some .string,some (.slice t),some x=>match P.underlying t with
   |some (.int .u8)=>some (.conv .strBytes x)
   |_=>none
  |some (.slice t),some .string,some x=>match P.underlying t with
   |some (.int .u8)=>some (.conv .bytesStr x)
   |_=>none
  |_,_,_=>none
 |.makeFunc (.func f) first cap=>match wK A dsts first.toList,wK A dsts cap.toList with
  |some a,some b=>some (.mkFn f a b)
  |_,_=>none
 |.makeMap t r=>match P.underlying t,r with
  |some (.map _ _),none=>some .mkMap
  |_,_=>none
 |.makeSlice t l c=>match P.underlying t with
  |some (.slice el)=>match eX P el,bytesOf? P el,e l,e c with
   |some z,some b,some l,some c=>if z.length=0 then none else some (.mkSlice z b l c)
   |_,_,_,_=>none
  |_=>none
 |.slice t x lo hi mx=>match e x,aJ8 A dsts lo,aJ8 A dsts hi,aJ8 A dsts mx with
  |some x,some lo,some hi,some mx=>match P.underlying t with
   |some .string=>some (.slice .str x lo hi mx)
   |some (.slice el)=>match sizeOf? P el with
    |some n=>if n=0 then none else some (.slice (.sl n) x lo hi mx)
    |none=>none
   |some (.array n el)=>match sizeOf? P el with
    |some k=>if k=0 then none else some (.slice (.arr n k) x lo hi mx)
    |none=>none
   |some (.pointer a)=>match P.underlying a with
    |some (.array n el)=>match sizeOf? P el with
     |some k=>if k=0 then none else some (.slice (.arr n k) x lo hi mx)
     |none=>none
    |_=>none
   |_=>none
  |_,_,_,_=>none
 |.fieldAddr t x f=>match P.underlying t,e x with
  |some (.struct fs),some x=>match fs[f]? with
   |some fd=>match sizeOf? P fd.type with
    |some n=>if n=0 then none else some (.fieldAddr fd.offset x)
    |none=>none
   |none=>none
  |_,_=>none
 |.field t x f=>match P.underlying t,e x with
  |some (.struct fs),some x=>match fs[f]? with
   |some fd=>match sizeOf? P fd.type,isAgg? P fd.type with
    |some n,some ag=>some (.field fd.offset (if ag then n else 1) ag x)
    |_,_=>none
   |none=>none
  |_,_=>none
 |.indexAddr t x i=>match P.underlying t,e x,e i with
  |some (.slice el),some x,some i=>match sizeOf? P el with
   |some n=>if n=0 then none else some (.indexAddrS n x i)
   |none=>none
  |some (.array len el),some x,some i=>match sizeOf? P el with
   |some n=>if n=0 then none else some (.indexAddrA len n x i)
   |none=>none
  |_,_,_=>none
 |.index t x i=>match P.underlying t,e x,e i with
  |some .string,some x,some i=>some (.indexS x i)
  |some (.array len el),some x,some i=>match sizeOf? P el,isAgg? P el with
   |some n,some ag=>if n=0 then none else some (.indexA len n ag x i)
   |_,_=>none
  |_,_,_=>none
 |.lookup t m k ok=>match P.underlying t,e m,e k with
  |some (.map kt el),some m,some k=>match iB P kt,aAv P el with
   |some kk,some z=>some (.lookup kk z ok m k)
   |_,_=>none
  |_,_,_=>none
 |.mapUpdate t m k v=>match P.underlying t,e m,e k,e v with
  |some (.map kt _),some m,some k,some v=>(iB P kt).map fun kk=>.update kk m k v
  |_,_,_,_=>none
 |.mapEntry t m k=>match P.underlying t,e m,e k with
  |some (.map kt el),some m,some k=>match iB P kt,aAv P el with
   |some kk,some z=>some (.entry kk z m k)
   |_,_=>none
  |_,_,_=>none
 |.entryStore _ m s v=>match e m,e s,e v with
  |some m,some s,some v=>some (.entryStore m s v)
  |_,_,_=>none
 |.range t x=>match P.underlying t with
  |some .string=>(e x).map (.range true)
  |some (.map _ _)=>(e x).map (.range false)
  |_=>none
 |.next it isStr=>(e it).map fun x=>if isStr then .nextS x else .nextM x
 |.entry it=>(e it).map .entryM
 |.extract x i=>(e x).map (.extract i)
 |.call c=>aQ0 P O A mu trunc dsts c
 |_=>none
def dF(id:Nat)(draw:Bool):List Oper->Nat->List (Option Nat)->List aK
 |[],_,_=>[]
 |o::os,i,dsts =>
  let isLb:=!draw&&o.guard.isNone&&(match o.dst with
   |some t=>A.lb.contains t
   |none=>false)
  let op:=(wL P O A (A.mu.contains (id,i)) (A.trunc.contains (id,i)) isLb dsts o).getD .bad
  let loc:=if isLb then(match op with
   |.allocL .. | .boxL ..=>none
   |_=>o.dst.bind fun t=>eE t A.slots 0)else o.dst.bind fun t=>eE t A.slots 0
  {op,loc,guard:=o.guard}::dF id draw os (i+1) (dsts++[o.dst])
def aQ:TOp->List aH
 |.mov x | .boxL _ x | .boxH _ x | .load1 x | .loadN _ x | .nilCheck x | .un _ x | .conv _ x | .fieldAddr _ x | .field _ _ _ x | .range _ x | .nextS x | .nextM x | .entryM x | .extract _ x | .clear _ x | .len _ x | .cap x=>[x]
 |.pick a b c=>[a,b,c]
 |.build _ ps=>ps.map (·.2.2)
 |.lit _ _ _ ps=>ps.map (·.2)
 |.store _ a b | .bin _ a b | .eqB _ _ a b | .eqAgg _ _ a b | .mkSlice _ _ a b | .indexAddrS _ a b | .indexAddrA _ _ a b | .indexA _ _ _ a b | .indexS a b | .lookup _ _ _ a b | .entry _ _ a b | .append _ _ _ _ a b | .copy _ a b | .grow _ _ _ a b | .delete _ a b=>[a,b]
 |.update _ a b c | .entryStore a b c=>[a,b,c]
 |.mkFn _ a b=>a++b
 |.slice _ x a b c=>x::(a.toList++b.toList++c.toList)
 |.minmax _ xs | .call _ _ _ xs | .prim _ xs=>xs
 |.callv f xs=>f::xs
 |_=>[]
def xS:TOp->Bool
 |.load1 _ | .loadN .. | .lookup .. | .len .. | .slice .. | .conv .bytesStr _ | .entryM _=>true
 |_=>false
def sX:List Nat->Bool
 |[]=>true
 |a::r=>!(r.contains a)&&sX r
def zQ(nt:Nat)(ops:List Oper):Bool:=sX (ops.filterMap (·.dst))&&(ops.filterMap (·.dst)).all fun t=>decide (t<nt)
def aHg(ops:List Oper):Nat->List Oper->Bool
 |_,[]=>true
 |i,o::os=>(match o.guard with
   |none=>true
   |some (g,_)=>decide (g<i)&&(match ops[g]? with|some o=>o.dst.isSome|none=>false))&&aHg ops (i+1) os
def aDx(bef:List Nat):Nat->List Oper->Bool
 |_,[]=>true
 |i,o::os=>o.after.toList.all (fun e=>!(Region.binds .any e)||decide (e.on<i)) &&
   (List.range i).all (fun j=>!((bef.getD i 0).testBit j)||o.after.toList.any fun e=>Region.binds .any e&&(e.on==j||(bef.getD e.on 0).testBit j)) &&
   decide (bef.getD i 0<2 ^ i)&&aDx bef (i+1) os
def bEx(bef:List Nat)(ws:List (Option Nat))(i:Nat):aH->Bool
 |.reg r=>(bef.getD i 0).testBit r
 |.loc j=>(List.range ws.length).all fun w=>!(ws.getD w none==some j)||(bef.getD w 0).testBit i
 |_=>true
def isL:TOp->Bool
 |.allocL .. | .boxL ..=>true
 |_=>false
def aMt(bef:List Nat)(ws:List (Option Nat))(ops:List Oper):Nat->List aK->Bool
 |_,[]=>true
 |i,o::os=>(aQ o.op).all (bEx bef ws i)&&!(isL o.op)&&(match o.guard with
   |none=>true
   |some (g,_)=>(bef.getD i 0).testBit g&&(match ops[g]? with|some o=>o.dst.isSome|none=>false))&&aMt bef ws ops (i+1) os
def lI(bef:List Nat):List Nat->Nat->Option Nat
 |[],run=>some run
 |i::is,run=>if !(run.testBit i)&&(bef.getD i 0 &&& run==bef.getD i 0)then lI bef is (run ||| 2 ^ i)else none
def iV(bef:List Nat)(tops:List aK):List (Nat×List Nat×List Nat)->(last:Option Nat)->(run floats:Nat)->Option Nat
  |[],_,run,_=>some run
  |(e,chk,fl)::ps,last,run,floats =>
    if(match last with|some l=>(bef.getD e 0).testBit l|none=>true) &&
       (List.range tops.length).all (fun i=>!(floats.testBit i)||(bef.getD e 0).testBit i||chk.contains i||!(match tops[i]? with|some o=>xS o.op|none=>true)) &&
       fl.all (fun i=>(bef.getD i 0).testBit e)then
      match lI bef (e::fl) run with
      |some run'=>iV bef tops ps (some e) run' (floats ||| fl.foldl (fun m i=>m ||| 2 ^ i) 0)
      |none=>none
    else none
def aQ1(c:bEw)(ops:List Oper)(tops:List aK):Bool :=
  aDx c.bef 0 ops&&aMt c.bef (ops.map fun o=>o.dst.bind fun t=>eE t A.slots 0) ops 0 tops &&
  (match lI c.bef c.f0 0 with
   |some run=>match iV c.bef tops c.ph none run run with
     |some all=>(List.range ops.length).all fun i=>all.testBit i
     |none=>false
   |none=>false)
def bEy(id:Nat):List (Nat×bEw)->Option bEw
 |[]=>none
 |c::r=>if c.1=id then some c.2 else bEy id r
variable (nt:Nat)
def aDy(id:Nat)(ops:Array Oper)(draw:Bool):aL :=
 if !(zQ nt ops.toList)then .bad else
 if !draw then(if aHg ops.toList 0 ops.toList then .region (dF P O A id false ops.toList 0 [])else .bad)
 else match bEy id A.draws with
  |some c=>if aQ1 A c ops.toList (dF P O A id true ops.toList 0 [])then .draw c.f0 c.ph (dF P O A id true ops.toList 0 [])else .bad
  |none=>.bad
def qY:List Nat->Option (List Nat)
 |[]=>some []
 |t::r=>match eE t A.slots 0,qY r with
  |some j,some l=>some (j::l)
  |_,_=>none
def bB:Code->aL
 |.skip=>.skip
 |.region id ops draw=>aDy P O A nt id ops draw
 |.seq a b=>.seq (bB a) (bB b)
 |.cond c a b=>match opd A [] c with
  |some c=>.cond c (bB a) (bB b)
  |none=>.bad
 |.block id b=>.block id (bB b)
 |.loop b=>.loop (bB b)
 |.rangeFunc f ps assign body=>match opd A [] f,qY A ps.toList with
  |some f,some ps=>if dW (bB assign)&&dW (bB body)then .rangeFunc f ps (bB assign) (bB body)else .bad
  |_,_=>.bad
 |.exit id=>.exit id
 |.label _=>.skip
 |.ret=>.ret
 |_=>.bad
def aCl:ResultVar->Option mU
 |.tmp t=>(eE t A.slots 0).map .loc
 |.cell a t=>match eE a A.slots 0,sizeOf? P t,isAgg? P t with
  |some j,some n,some ag=>some (.cell j (if ag then n else 1) ag)
  |_,_,_=>none
def qB:List ResultVar->Option (List mU)
 |[]=>some []
 |r::rs=>match aCl P A r,qB rs with
  |some a,some l=>some (a::l)
  |_,_=>none
def sY(fn:Func):Option aU :=
 match fn.body,qB P A fn.results.toList with
 |some c,some rs =>
  if A.slots.take (fn.params.size+fn.nfree)=List.range (fn.params.size+fn.nfree)/\fn.params.size+fn.nfree<=fn.ntmps/\sX A.slots=true/\A.slots.all (fun t=>decide (t<fn.ntmps))=true then
   some {nparams:=fn.params.size+fn.nfree,nlocs:=A.slots.length,results:=rs,body:=bB P O A fn.ntmps c}
  else none
 |_,_=>none
end
end Go.TM
namespace Go.TM
open Go
abbrev Mem:=Nat->Nat->Option Value
inductive IR (M:Mem):IV->Value->Prop
 |bool (b:Bool):IR M (.bool b) (.bool b)
 |int (k:IntKind) (n:Int):IR M (.int k n) (.int k n)
 |str (s:List UInt8):IR M (.str s) (.string ⟨s.toArray⟩)
 |nilp:IR M .nilp (.pointer none)
 |nilm:IR M .nilm (.map none)
 |nilf:IR M .nilf .nilFunc
 |nili:IR M .nili .nilIface
 |slNil:IR M (.sl .nil []) (.slice none 0 0)
 |sl (t:Tag) (l:List (List IV)) (b off cap es:Nat) (vals:Nat->Nat->Value) (ht:t≠.nil) (hes:∀c∈l,c.length=es) (hcap:l.length<=cap) (hfull:t=.full->cap=l.length)
   (hm:∀(i:Nat) (c:List IV) (j:Nat) (x:IV),l[i]?=some c->c[j]?=some x->M b (off+i*es+j)=some (vals i j)) (hv:∀(i:Nat) (c:List IV) (j:Nat) (x:IV),l[i]?=some c->c[j]?=some x->IR M x (vals i j)):
   IR M (.sl t l) (.slice (some ⟨b,off,none⟩) l.length cap)
 |slE (t:Tag) (a:Addr) (ht:t≠.nil):IR M (.sl t []) (.slice (some a) 0 0)
 |agg (cs:List IV) (vs:Array Value) (hs:vs.size=cs.length) (hv:∀(i:Nat) (x:IV) (v:Value),cs[i]?=some x->vs[i]?=some v->IR M x v):IR M (.agg cs) (.agg vs)
 |cp (cs:List IV) (b off:Nat) (vals:Nat->Value) (hm:∀(i:Nat) (x:IV),cs[i]?=some x->M b (off+i)=some (vals i)) (hv:∀(i:Nat) (x:IV),cs[i]?=some x->IR M x (vals i)):
   IR M (.cp cs) (.pointer (some ⟨b,off,none⟩))
def MLe(M M':Mem):Prop:=∀b o v,M b o=some v->M' b o=some v
theorem MLe.refl(M:Mem):MLe M M:=fun _ _ _ h=>h
theorem MLe.trans{M M' M'':Mem}(h:MLe M M')(a:MLe M' M''):MLe M M'':=fun b o v k=>a b o v (h b o v k)
theorem IR.mono{M M':Mem}(h:MLe M M'){a:IV}{v:Value}(r:IR M a v):IR M' a v:=by
 induction r with
 |bool b=>exact .bool b
 |int k n=>exact .int k n
 |str s=>exact .str s
 |nilp=>exact .nilp
 |nilm=>exact .nilm
 |nilf=>exact .nilf
 |nili=>exact .nili
 |slNil=>exact .slNil
 |sl t l b off cap es vals ht hes hcap hfull hm hv ih=>exact .sl t l b off cap es vals ht hes hcap hfull (fun i c j x d e=>h _ _ _ (hm i c j x d e)) ih
 |slE t a ht=>exact .slE t a ht
 |agg cs vs hs hv ih=>exact .agg cs vs hs ih
 |cp cs b off vals hm hv ih=>exact .cp cs b off vals (fun i x d=>h _ _ _ (hm i x d)) ih
structure Loc where
 cb:Nat
 d:Nat
 ver:Nat
 cap:Nat
 es:Nat
 size:Nat
 loose:Bool
 ty:Nat:=0
abbrev aF:=List (Option Loc)
def aF.at(J:aF)(i:Nat)(l:Loc):Prop:=J[i]?=some (some l)
def aF.has(J:aF)(b:Nat):Prop:=∃i l,J.at i l/\l.cb=b
inductive VR (M:Mem) (J:aF):(L:List (Option Nat))->TV->Value->Prop
 |hole (L:List (Option Nat)) (v:Value):VR M J L .hole v
 |iv (L:List (Option Nat)) {a:IV} {v:Value} (h:IR M a v):VR M J L (.iv a) v
 |lp (L:List (Option Nat)) (j off cb:Nat) (h:L[j]?=some (some cb)):VR M J L (.lp j off) (.pointer (some ⟨cb,off,none⟩))
 |ptr (L:List (Option Nat)) (i ver off:Nat) (l:Loc) (b o:Nat) (h:J.at i l) (hv:ver<=l.ver) (ha:ver=l.ver->b=l.cb/\o=l.d+off):
   VR M J L (.ptr i ver off) (.pointer (some ⟨b,o,none⟩))
 |msl (L:List (Option Nat)) (i ver off len cap es:Nat) (l:Loc) (b o c:Nat) (h:J.at i l) (hv:ver<=l.ver)
   (ha:ver=l.ver->b=l.cb/\(cap≠0->o=l.d+off)/\cap<=c/\(l.loose=false->c=cap)/\o+c*es<=l.size) (hl:len<=cap) (hlc:len<=c):
   VR M J L (.msl i ver off len cap es) (.slice (some ⟨b,o,none⟩) len c)
 |tsl (L:List (Option Nat)) (i:Nat) (es:List (List IV)) (l:Loc) (b o c:Nat) (h:J.at i l) (hl:l.loose=true) (hv:es.length<=l.ver)
   (ha:es.length=l.ver->b=l.cb/\o=l.d/\c=l.cap/\∀x∈es,x.length=l.es) (hr:IR M (.sl .no es) (.slice (some ⟨b,o,none⟩) es.length c)):
   VR M J L (.tsl i es) (.slice (some ⟨b,o,none⟩) es.length c)
 |rsv (L:List (Option Nat)) (i:Nat) (es:List (List IV)) (n:Nat) (l:Loc) (b o c:Nat) (h:J.at i l) (hl:l.loose=true) (hv:es.length<=l.ver)
   (ha:es.length=l.ver->b=l.cb/\o=l.d/\c=l.cap/\∀x∈es,x.length=l.es) (hc:es.length+n<=c) (hr:IR M (.sl .no es) (.slice (some ⟨b,o,none⟩) es.length c)):
   VR M J L (.rsv i es n) (.slice (some ⟨b,o,none⟩) (es.length+n) c)
 |map (L:List (Option Nat)) (i:Nat) (l:Loc) (h:J.at i l) (hl:l.loose=false):VR M J L (.map i) (.map (some l.cb))
 |it (L:List (Option Nat)) (i:Nat) (l:Loc) (h:J.at i l) (hl:l.loose=false):VR M J L (.it i) (.pointer (some ⟨l.cb,0,none⟩))
 |yld (L:List (Option Nat)) (i:Nat) (l:Loc) (h:J.at i l) (hl:l.loose=false):VR M J L (.yld i) (.func (.yield l.cb) #[] #[])
 |fn (L:List (Option Nat)) (f:Nat) (fst cap:List TV) (fst' cap':Array Value) (h1:fst'.size=fst.length) (h2:cap'.size=cap.length)
   (hf:∀(i:Nat) (x:TV) (v:Value),fst[i]?=some x->fst'[i]?=some v->VR M J [] x v) (hc:∀(i:Nat) (x:TV) (v:Value),cap[i]?=some x->cap'[i]?=some v->VR M J [] x v):
   VR M J L (.fn f fst cap) (.func (.func f) fst' cap')
 |agg (L:List (Option Nat)) (cs:List TV) (vs:Array Value) (hs:vs.size=cs.length) (hv:∀(i:Nat) (x:TV) (v:Value),cs[i]?=some x->vs[i]?=some v->VR M J [] x v):VR M J L (.agg cs) (.agg vs)
 |tup (L:List (Option Nat)) (cs:List TV) (vs:Array Value) (hs:vs.size=cs.length) (hv:∀(i:Nat) (x:TV) (v:Value),cs[i]?=some x->vs[i]?=some v->VR M J [] x v):VR M J L (.tup cs) (.tuple vs)
def JLe(J J':aF):Prop :=
 J.length<=J'.length/\∀i l,J.at i l->∃l',J'.at i l'/\(l'=l\/(l.loose=true/\l'.loose=true/\l.ver<l'.ver))
theorem JLe.refl(J:aF):JLe J J:=⟨O_ _,fun _ l h=>⟨l,h,.inl rfl⟩⟩
theorem JLe.trans{J J' J'':aF}(h:JLe J J')(d:JLe J' J''):JLe J J'':=by
 refine⟨C0 h.1 d.1,fun i l m=>?_⟩;obtain⟨j,g,n⟩:=h.2 i l m;obtain⟨l2,f,e⟩:=d.2 i j g;refine⟨l2,f,?_⟩;rcases n with rfl|⟨a,b,c⟩;.exact e
 .rcases e with rfl|⟨o,k,c'⟩;.exact .inr ⟨a,b,c⟩
  .exact .inr ⟨a,k,Nat.lt_trans c c'⟩
theorem VR.mono{M M':Mem}{J J':aF}(m:MLe M M')(g:JLe J J'){L:Tk_}{x:TV}{v:Value}(r:VR M J L x v):VR M' J' L x v:=by
 induction r with
 |hole L v=>exact .hole L v
 |iv L h=>exact .iv L (h.mono m)
 |lp L j off cb h=>exact .lp L j off cb h
 |ptr L i ver off l b o h hv ha =>
  obtain⟨l',d,e⟩:=g.2 i l h;rcases e with rfl|⟨_,_,c⟩;.exact .ptr L i ver off l' b o d hv ha
  .exact .ptr L i ver off l' b o d A_ (fun e=>A_)
 |msl L i ver off len cap es l b o c h hv ha hl hlc =>
  obtain⟨l',d,e⟩:=g.2 i l h;rcases e with rfl|⟨_,_,k⟩;.exact .msl L i ver off len cap es l' b o c d hv ha hl hlc
  .exact .msl L i ver off len cap es l' b o c d A_ (fun e=>A_) hl hlc
 |tsl L i es l b o c h hl hv ha hr =>
  obtain⟨l',d,e⟩:=g.2 i l h;rcases e with rfl|⟨_,k',k⟩;.exact .tsl L i es l' b o c d hl hv ha (hr.mono m)
  .exact .tsl L i es l' b o c d k' A_ (fun e=>A_) (hr.mono m)
 |rsv L i es n l b o c h hl hv ha hc hr =>
  obtain⟨l',d,e⟩:=g.2 i l h;rcases e with rfl|⟨_,k',k⟩;.exact .rsv L i es n l' b o c d hl hv ha hc (hr.mono m)
  .exact .rsv L i es n l' b o c d k' A_ (fun e=>A_) hc (hr.mono m)
 |map L i l h hl =>
  obtain⟨l',d,e⟩:=g.2 i l h;rcases e with rfl|⟨a,_,_⟩;.exact .map L i l' d hl
  .simp[hl]at a
 |it L i l h hl =>
  obtain⟨l',d,e⟩:=g.2 i l h;rcases e with rfl|⟨a,_,_⟩;.exact .it L i l' d hl
  .simp[hl]at a
 |yld L i l h hl =>
  obtain⟨l',d,e⟩:=g.2 i l h;rcases e with rfl|⟨a,_,_⟩;.exact .yld L i l' d hl
  .simp[hl]at a
 |fn L f fst cap fst' cap' h1 h2 hf hc ihf ihc=>exact .fn L f fst cap fst' cap' h1 h2 ihf ihc
 |agg L cs vs hs hv ih=>exact .agg L cs vs hs ih
 |tup L cs vs hs hv ih=>exact .tup L cs vs hs ih
theorem VR.frame{M:Mem}{J:aF}{L L':Tk_}{x:TV}{v:Value}(r:VR M J L x v)(a:cA x=false):VR M J L' x v:=by
 cases r with
 |hole L v=>exact .hole _ v
 |iv L h=>exact .iv _ h
 |lp L j off cb h'=>simp[cA]at a
 |ptr L i ver off l b o h hv ha=>exact .ptr _ i ver off l b o h hv ha
 |msl L i ver off len cap es l b o c h hv ha hl hlc=>exact .msl _ i ver off len cap es l b o c h hv ha hl hlc
 |tsl L i es l b o c h hl hv ha hr=>exact .tsl _ i es l b o c h hl hv ha hr
 |rsv L i es n l b o c h hl hv ha hc hr=>exact .rsv _ i es n l b o c h hl hv ha hc hr
 |map L i l h hl=>exact .map _ i l h hl
 |it L i l h hl=>exact .it _ i l h hl
 |yld L i l h hl=>exact .yld _ i l h hl
 |fn L f fst cap fst' cap' h1 h2 hf hc=>exact .fn _ f fst cap fst' cap' h1 h2 hf hc
 |agg L cs vs hs hv=>exact .agg _ cs vs hs hv
 |tup L cs vs hs hv=>exact .tup _ cs vs hs hv
def VRs(M:Mem)(J:aF)(L:List (Option Nat))(xs:List TV)(vs:List Value):Prop :=
 vs.length=xs.length/\∀(i:Nat) (x:TV) (v:Value),xs[i]?=some x->vs[i]?=some v->VR M J L x v
theorem VRs.mono{M M':Mem}{J J':aF}(a:MLe M M')(d:JLe J J'){L:Tk_}{xs:Tn_}{vs:List Value}(h:VRs M J L xs vs):VRs M' J' L xs vs :=
 ⟨h.1,fun i x v b c=>(h.2 i x v b c).mono a d⟩
theorem VRs.nil{M:Mem}{J:aF}{L:Tk_}:VRs M J L [] []:=⟨rfl,fun i x v h=>by simp at h⟩
theorem VRs.cons{M:Mem}{J:aF}{L:Tk_}{x:TV}{v:Value}{xs:Tn_}{vs:List Value}(h:VR M J L x v)(t:VRs M J L xs vs):VRs M J L (x::xs) (v::vs):=by
 refine⟨by simp[t.1],fun i y u b a=>?_⟩;cases i with
 |zero=>simp at b a;subst b;subst a;exact h
 |succ i=>simp at b a;exact t.2 i y u b a
theorem VRs.cons_inv{M:Mem}{J:aF}{L:Tk_}{x:TV}{xs:Tn_}{vs:List Value}(h:VRs M J L (x::xs) vs):∃v us,vs=v::us/\VR M J L x v/\VRs M J L xs us:=by
 cases vs with
 |nil=>simp[VRs]at h
 |cons v us =>refine⟨v,us,rfl,h.2 0 x v rfl rfl,by simpa using h.1,fun i y u b a=>h.2 (i+1) y u (by simpa using b) (by simpa using a)⟩
theorem VRs.nil_inv{M:Mem}{J:aF}{L:Tk_}{vs:List Value}(h:VRs M J L [] vs):vs=[]:=Z_ (by simpa using h.1)
theorem VRs.append{M:Mem}{J:aF}{L:Tk_}{xs ys:Tn_}{vs us:List Value}(h:VRs M J L xs vs)(k:VRs M J L ys us):VRs M J L (xs++ys) (vs++us):=by
 induction xs generalizing vs with
 |nil=>rw[h.nil_inv];simpa using k
 |cons x xs ih =>obtain⟨v,c,rfl,b,a⟩:=h.cons_inv;exact .cons b (ih a)
theorem VRs.drop{M:Mem}{J:aF}{L:Tk_}{xs:Tn_}{vs:List Value}(h:VRs M J L xs vs)(n:Nat):VRs M J L (xs.drop n) (vs.drop n) :=
 ⟨by simp[h.1],fun i x v a b=>h.2 (n+i) x v (by simpa using a) (by simpa using b)⟩
theorem VRs.take{M:Mem}{J:aF}{L:Tk_}{xs:Tn_}{vs:List Value}(h:VRs M J L xs vs)(n:Nat):VRs M J L (xs.take n) (vs.take n):=by
 refine⟨by simp[h.1],fun i x v a b=>?_⟩;rw[D9]at a b;split at a;.rename_i hi;simp[hi]at b;exact h.2 i x v a b
 .simp at a
theorem VRs.frame{M:Mem}{J:aF}{L L':Tk_}{xs:Tn_}{vs:List Value}(h:VRs M J L xs vs)(c:xs.any cA=false):VRs M J L' xs vs:=by refine⟨h.1,fun i x v a b=>(h.2 i x v a b).frame ?_⟩;have:=t_.1 c x (B4 a);simpa using this
def fD(A:Ann)(n:Nat):Prop:=A.slots.Nodup/\∀t∈A.slots,t<n
inductive PR:Option aW->Option Code->Prop
 |none:PR none none
 |ret:PR (some .ret) (some .ret)
 |exit (id:Nat):PR (some (.exit id)) (some (.exit id))
section
variable (P:Program)(O:dH)
structure LpR (M:Mem) (J:aF) (env:List TV) (ps:List Nat) (assign body:aL) (r:Loop):Prop where
 ex:∃A:Ann,fD A r.tmps.size/\env.length=A.slots.length/\(∀(j t:Nat) (x:TV),A.slots[j]?=some t->env[j]?=some x->VR M J [] x (r.tmps.getD t Go.undef)) /\
  r.params.toList.map (eE · A.slots 0)=ps.map some/\assign=bB P O A r.tmps.size r.assign/\body=bB P O A r.tmps.size r.body/\dW assign=true/\dW body=true
theorem LpR.mono{M M':Mem}{J J':aF}(g:MLe M M')(i:JLe J J'){env:Tn_}{ps:Tc_}{assign body:aL}{r:Loop} (h:LpR P O M J env ps assign body r):LpR P O M' J' env ps assign body r:=by obtain⟨A,a,b,c,d⟩:=h.ex;exact⟨A,a,b,fun j t x f e=>(c j t x f e).mono g i,d⟩
inductive BR (M:Mem) (J:aF) (w:World) (l:Loc):aG->Prop
 |cells (loose:Bool) (cs:List TV) (cs':Array Value) (e:TypeId) (fz:Nat×Nat) (hl:l.loose=loose) (hb:w.heap[l.cb]?=some (.cells cs' e fz)) (hsz:cs'.size=l.size)
   (hfit:l.d+cs.length<=cs'.size) (hv:∀(k:Nat) (x:TV),cs[k]?=some x->∃u,cs'[l.d+k]?=some u/\VR M J [] x u)
   (hfz:∀o,o<cs'.size->w.frozen? ⟨l.cb,o,none⟩=false) (hm:∀o,M l.cb o=none)
   (ht:l.loose=false->l.ver≠0->l.ver=e+1/\l.d=0/\cs'.size=cs.length):BR M J w l (.cells l.ver loose cs)
 |frz (cs:List IV) (hv:∀(k:Nat) (x:IV),cs[k]?=some x->∃u,M l.cb (l.d+k)=some u/\IR M x u):BR M J w l (.frz l.ver cs)
 |tok (n:Nat) (cs':Array Value) (e:TypeId) (fz:Nat×Nat) (hl:l.loose=true) (hn:l.ver=n) (hb:w.heap[l.cb]?=some (.cells cs' e fz)) (hsz:cs'.size=l.size) (hc:n<=l.cap)
   (hes:0<l.es) (hfit:l.d+l.cap*l.es<=cs'.size) (hsp:∀o,l.d+n*l.es<=o->o<cs'.size->M l.cb o=none)
   (hfz:∀o,l.d+n*l.es<=o->o<cs'.size->w.frozen? ⟨l.cb,o,none⟩=false) (ht:l.ty=e/\l.d=0/\fz.2<=n*l.es):BR M J w l (.tok n l.es l.ty)
 |mp (es:List (Nat×IV×TV)) (clock:Nat) (es':Array MapEntry) (hl:l.loose=false) (hb:w.heap[l.cb]?=some (.map es' clock)) (hs:es'.size=es.length)
   (hv:∀(k:Nat) (x:Nat×IV×TV) (y:MapEntry),es[k]?=some x->es'[k]?=some y->y.born=x.1/\IR M x.2.1 y.key/\VR M J [] x.2.2 y.val):BR M J w l (.mp es clock)
 |sit (s:List UInt8) (pos:Nat) (hl:l.loose=false) (hb:w.heap[l.cb]?=some (.stringIter ⟨s.toArray⟩ pos)):BR M J w l (.sit s pos)
 |mitN (since:Nat) (seen:List Nat) (last:Nat) (hl:l.loose=false) (hb:w.heap[l.cb]?=some (.mapIter none since seen.toArray last)):BR M J w l (.mit none since seen last)
 |mit (m:Nat) (lm:Loc) (since:Nat) (seen:List Nat) (last:Nat) (hl:l.loose=false) (hm:J.at m lm) (hlm:lm.loose=false) (hb:w.heap[l.cb]?=some (.mapIter (some lm.cb) since seen.toArray last)):
   BR M J w l (.mit (some m) since seen last)
 |lp (st:LoopState) (pend:Option aW) (env:List TV) (ps:List Nat) (assign body:aL) (r:Loop) (hl:l.loose=false) (hb:w.heap[l.cb]?=some (.loop r)) (hst:r.state=st) (hp:PR pend r.pending)
   (hr:LpR P O M J env ps assign body r):BR M J w l (.lp st pend env ps assign body)
variable {P O}
theorem JLe.fixed{J J':aF}(h:JLe J J'){i:Nat}{l:Loc}(d:J.at i l)(c:l.loose=false):J'.at i l:=by
 obtain⟨l',b,e⟩:=h.2 i l d;rcases e with rfl|⟨a,_,_⟩;.exact b
 .simp[c]at a
theorem mW{w w':World}{b o:Nat}(h:w'.heap[b]?=w.heap[b]?):w'.frozen? ⟨b,o,none⟩=w.frozen? ⟨b,o,none⟩:=by simp[World.frozen?,h]
theorem dR{w w':World}{b o:Nat}(h:w'.heap[b]?=w.heap[b]?):w'.cell? ⟨b,o,none⟩=w.cell? ⟨b,o,none⟩:=by simp[World.cell?,h]
theorem BR.step{M M':Mem}{J J':aF}{w w':World}{l:Loc}{s:aG}(h:BR P O M J w l s)(d:w'.heap[l.cb]?=w.heap[l.cb]?)(i:MLe M M')(j:∀o,M' l.cb o=M l.cb o) (q:JLe J J'):BR P O M' J' w' l s:=by
 cases h with
 |cells loose cs cs' e fz hl hb' hsz hfit hv hfz hm ht =>exact .cells loose cs cs' e fz hl (d.trans hb') hsz hfit (fun k x p=>let ⟨u,g,f⟩:=hv k x p;⟨u,g,f.mono i q⟩) (fun o t=>(mW d).trans (hfz o t)) (fun o=>(j o).trans (hm o)) ht
 |frz cs hv=>exact .frz cs fun k x p=>let ⟨u,g,f⟩:=hv k x p;⟨u,i _ _ _ g,f.mono i⟩
 |tok n cs' e fz hl hn hb' hsz hc hes hfit hsp hfz ht =>exact .tok n cs' e fz hl hn (d.trans hb') hsz hc hes hfit (fun o g f=>(j o).trans (hsp o g f)) (fun o g f=>(mW d).trans (hfz o g f)) ht
 |mp es clock es' hl hb' hs hv=>exact .mp es clock es' hl (d.trans hb') hs (fun k x y p v=>let ⟨a,b,c⟩:=hv k x y p v;⟨a,b.mono i,c.mono i q⟩)
 |sit s pos hl hb'=>exact .sit s pos hl (d.trans hb')
 |mitN since seen last hl hb'=>exact .mitN since seen last hl (d.trans hb')
 |mit m lm since seen last hl hm hlm hb'=>exact .mit m lm since seen last hl (q.fixed hm hlm) hlm (d.trans hb')
 |lp st pend env ps assign body r hl hb' hst hp hr=>exact .lp st pend env ps assign body r hl (d.trans hb') hst hp (hr.mono _ _ i q)
variable (P O)
structure WR (M:Mem) (J:aF) (S:aA) (w:World):Prop where
 len:J.length=S.length
 imm:∀b o v,M b o=some v->w.cell? ⟨b,o,none⟩=some v
 blk:∀i l s,J.at i l->S[i]?=some s->BR P O M J w l s
 inj:∀i k l l',J.at i l->J.at k l'->l.cb=l'.cb->i=k
 lt:∀i l,J.at i l->l.cb<w.heap.size
variable {P O}
theorem bMf{w:World}{b o:Nat}{v:Value}(h:w.cell? ⟨b,o,none⟩=some v):b<w.heap.size:=World.block_lt_of_cell? w ⟨b,o,none⟩ h
theorem WR.mlt{M:Mem}{J:aF}{S:aA}{w:World}(h:WR P O M J S w){b o:Nat}{v:Value}(a:M b o=some v):b<w.heap.size:=bMf (h.imm b o v a)
theorem WR.step{M M':Mem}{J J':aF}{S S':aA}{w w':World}(h:WR P O M J S w)(d:J'.length=S'.length)(q:MLe M M')(r:JLe J J') (a:∀b o v,M' b o=some v->w'.cell? ⟨b,o,none⟩=some v) (e:∀i l s,J'.at i l->S'[i]?=some s->BR P O M' J' w' l s\/(J.at i l/\S[i]?=some s/\w'.heap[l.cb]?=w.heap[l.cb]? /\ ∀o,M' l.cb o=M l.cb o)) (c:∀i k l l',J'.at i l->J'.at k l'->l.cb=l'.cb->i=k) (f:∀i l,J'.at i l->l.cb<w'.heap.size):WR P O M' J' S' w':=by
 refine⟨d,a,fun i l s t m=>?_,c,f⟩;rcases e i l s t m with j|⟨n,g,h3,p⟩;.exact j
 .exact(h.blk i l s n g).step h3 q p r
structure Tr (own:Nat->Prop) (M:Mem) (J:aF) (S:aA) (w:World) (M':Mem) (J':aF) (S':aA) (w':World):Prop where
 os:w'.os=w.os
 tape:w'.tape=w.tape
 output:w'.output=w.output
 size:w.heap.size<=w'.heap.size
 mle:MLe M M'
 mnew:∀b o,b<w.heap.size->¬J.has b->M' b o=M b o
 jle:JLe J J'
 jnew:∀i l,J'.at i l->w.heap.size<=l.cb\/∃l0,J.at i l0/\l0.cb=l.cb
 ph:∀i:Nat,J[i]?=some none->J'[i]?=some none/\S'[i]?=S[i]?
 frame:∀b,b<w.heap.size->¬J.has b->¬own b->w'.heap[b]?=w.heap[b]?
theorem Tr.refl(own:Tm_)(M:Mem)(J:aF)(S:aA)(w:World):Tr own M J S w M J S w :=
 ⟨rfl,rfl,rfl,O_ _,.refl _,fun _ _ _ _=>rfl,.refl _,fun _ l h=>.inr ⟨l,h,rfl⟩,fun _ h=>⟨h,rfl⟩,fun _ _ _ _=>rfl⟩
theorem Tr.has{own:Tm_}{M:Mem}{J:aF}{S:aA}{w:World}{M':Mem}{J':aF}{S':aA}{w':World}(h:Tr own M J S w M' J' S' w'){b:Nat}(g:b<w.heap.size)(e:¬J.has b):¬J'.has b:=by
 rintro⟨i,l,f,rfl⟩;rcases h.jnew i l f with a|⟨c,a,d⟩;.omega
 .exact e ⟨i,c,a,d⟩
theorem Tr.trans{own own':Tm_}{M M' M'':Mem}{J J' J'':aF}{S S' S'':aA}{w w' m:World}(h:Tr own M J S w M' J' S' w')(k:Tr own' M' J' S' w' M'' J'' S'' m) (r:∀b,own' b->own b\/w.heap.size<=b):Tr own M J S w M'' J'' S'' m:=by
 refine⟨k.os.trans h.os,k.tape.trans h.tape,k.output.trans h.output,C0 h.size k.size,h.mle.trans k.mle,?_,h.jle.trans k.jle,?_,?_,?_⟩;.intro b o e j;exact(k.mnew b o (E9 e h.size) (h.has e j)).trans (h.mnew b o e j)
 .intro i l v;rcases k.jnew i l v with f|⟨p,f,q⟩;.exact .inl (C0 h.size f)
  .rcases h.jnew i p f with h3|⟨t,h3,s⟩;.exact .inl A_
   .exact .inr ⟨t,h3,s.trans q⟩
 .intro i u;obtain⟨a,b⟩:=h.ph i u;obtain⟨c,d⟩:=k.ph i a;exact⟨c,d.trans b⟩
 .intro b e j g;refine(k.frame b (E9 e h.size) (h.has e j) (fun n=>?_)).trans (h.frame b e j g);rcases r b n with f|f;.exact g f
  .omega
theorem Tr.weaken{own own':Tm_}{M M':Mem}{J J':aF}{S S':aA}{w w':World}(h:Tr own M J S w M' J' S' w')(c:∀b,own b->own' b):Tr own' M J S w M' J' S' w' :=
 ⟨h.os,h.tape,h.output,h.size,h.mle,h.mnew,h.jle,h.jnew,h.ph,fun b e f a=>h.frame b e f (fun d=>a (c b d))⟩
end
end Go.TM
namespace Go.TM
open Go
section
variable {P:Program}{O:dH}
theorem iW(b o n:Nat):(⟨b,o,none⟩:Addr).add n=⟨b,o+n,none⟩:=by unfold Addr.add;split<;>simp_all
theorem oA{w:World}(b o:Nat)(vs:List Value)(h:∀i v,vs[i]?=some v->w.cell? ⟨b,o+i,none⟩=some v): (loadCells ⟨b,o,none⟩ vs.length).run P w=.ok vs.toArray w :=
 run_loadCells_list w ⟨b,o,none⟩ vs (fun j v a=>by rw[iW];exact h j v a)
def rY(cs:Array Value):Nat->List Value->Array Value
 |_,[]=>cs
 |o,v::r=>rY (cs.setIfInBounds o v) (o+1) r
theorem eT:∀(vs:List Value) (o:Nat) (cs:Array Value),(rY cs o vs).size=cs.size
 |[],_,_=>rfl
 |_::r,o,cs=>by rw[rY,eT r];simp
theorem sZ:∀(vs:List Value) (o:Nat) (cs:Array Value) (k:Nat),o+vs.length<=cs.size ->(rY cs o vs)[k]?=if o<=k/\k<o+vs.length then vs[k-o]? else cs[k]?
 |[],o,cs,k,_=>by have:¬(o<=k/\k<o+([]:List Value).length):=B_;rw[I_ this];rfl
 |v::r,o,cs,k,h=>by
  simp only[List.length_cons]at h |-;rw[rY,sZ r (o+1) _ k (by simp;omega)];by_cases h1:o+1<=k/\k<o+1+r.length;.rw[K_ h1,K_ A_,show k-o=(k-(o+1))+1 by omega,List.getElem?_cons_succ]
  .rw[I_ h1];by_cases h2:k=o;.subst h2;rw[K_ A_];have a:k<cs.size:=A_;rw[H1 a];simp
   .rw[I_ A_,J6 A_]
theorem jR(b:Nat):∀(vs:List Value) (o:Nat) (w:World) (cs:Array Value) (e:TypeId) (a:Nat×Nat),w.heap[b]?=some (.cells cs e a) ->(w.setCells b o vs).heap[b]?=some (.cells (rY cs o vs) e a)
 |[],_,_,_,_,_,h=>h
 |v::r,o,w,cs,e,a,h=>by rw[World.setCells,rY];refine jR b r (o+1) _ _ e a ?_;simp only[World.setCell,J8];simp[h]
theorem iX(b:Nat):∀(vs:List Value) (o:Nat) (w:World) (a:Nat),a≠b->(w.setCells b o vs).heap[a]?=w.heap[a]?
 |[],_,_,_,_=>rfl
 |v::r,o,w,a,h=>by rw[World.setCells,iX b r (o+1) _ a h];simp only[World.setCell,J8];rw[I_ A_]
theorem iI(b:Nat):∀(vs:List Value) (o:Nat) (w:World),(w.setCells b o vs).heap.size=w.heap.size
 |[],_,_=>rfl
 |v::r,o,w=>by rw[World.setCells,iI b r];simp[World.setCell]
theorem mI(b:Nat):∀(vs:List Value) (o:Nat) (w:World),(w.setCells b o vs).os=w.os/\(w.setCells b o vs).tape=w.tape/\(w.setCells b o vs).output=w.output
 |[],_,_=>⟨rfl,rfl,rfl⟩
 |v::r,o,w=>by rw[World.setCells];exact mI b r (o+1) _
theorem dX{w:World}{b:Nat}{cs:Array Value}{e:TypeId}{a:Nat×Nat}(h:w.heap[b]?=some (.cells cs e a))(o:Nat):w.cell? ⟨b,o,none⟩=cs[o]? := by simp[World.cell?,h]
theorem fZ{w:World}{b:Nat}{o:Obj}(h:w.heap[b]?=some o):b<w.heap.size:=by
 rcases D2 b w.heap.size with a|a;.exact a
 .simp[P4 a]at h
theorem nJ{w:World}{b o:Nat}{vs:List Value}{cs:Array Value}{e:TypeId}{g:Nat×Nat}(h:w.heap[b]?=some (.cells cs e g))(c:o+vs.length<=cs.size) (a:∀k,o<=k->k<o+vs.length->w.frozen? ⟨b,k,none⟩=false) (f:∀v∈vs,v.oneCell'=true): (storeCells ⟨b,o,none⟩ vs).run P w=.ok () (w.setCells b o vs):=by have:=run_storeCells_cells (P:=P) b o vs 0 w (fun j d=>by rw[dX h];simp;omega) (fun j d=>a _ A_ A_) f;simpa using this
theorem VR.iv_inv{M:Mem}{J:aF}{L:Tk_}{a:IV}{v:Value}(h:VR M J L (.iv a) v):IR M a v:=by cases h;assumption
theorem VR.isLp_nil{M:Mem}{J:aF}{x:TV}{v:Value}(h:VR M J [] x v):cA x=false:=by cases h<;>first|rfl|(rename_i h;simp at h)
theorem VR.ofNil{M:Mem}{J:aF}{L:Tk_}{x:TV}{v:Value}(h:VR M J [] x v):VR M J L x v:=h.frame h.isLp_nil
theorem VRs.ofNil{M:Mem}{J:aF}{L:Tk_}{xs:Tn_}{vs:List Value}(h:VRs M J [] xs vs):VRs M J L xs vs:=⟨h.1,fun i x v a b=>(h.2 i x v a b).ofNil⟩
theorem IR.agg_inv{M:Mem}{cs:Tq_}{v:Value}(h:IR M (.agg cs) v):∃vs,v=.agg vs/\vs.size=cs.length/\∀(i:Nat) (x:IV) (u:Value),cs[i]?=some x->vs[i]?=some u->IR M x u:=by
 cases h with
 |agg cs vs hs hv=>exact⟨vs,rfl,hs,hv⟩
theorem IR.oneCell{M:Mem}{a:IV}{v:Value}(h:IR M a v)(b:bJ (.iv a)=false):v.oneCell'=true:=by cases h<;>first|rfl|simp[bJ]at b
theorem VR.oneCell{M:Mem}{J:aF}{L:Tk_}{x:TV}{v:Value}(h:VR M J L x v)(a:bJ x=false):v.oneCell'=true:=by
 cases h with
 |iv L h=>exact h.oneCell a
 |hole L v=>simp[bJ]at a
 |agg L cs vs hs hv=>simp[bJ]at a
 |tup L cs vs hs hv=>simp[bJ]at a
 |_=>rfl
theorem VRs.oneCell{M:Mem}{J:aF}{L:Tk_}{xs:Tn_}{vs:List Value}(h:VRs M J L xs vs)(e:xs.any bJ=false):∀v∈vs,v.oneCell'=true:=by
 intro v d;obtain⟨i,b⟩:=I6 d;have a:i<xs.length:=by rw[<-h.1];exact(E_.1 b).1
 have c:xs[i]?=some xs[i]:=D_ a;refine(h.2 i _ v c b).oneCell ?_;have:=t_.1 e xs[i] (B8 a);simpa using this
theorem VRs.ofAgg{M:Mem}{J:aF}{cs:Tn_}{vs:Array Value}(d:vs.size=cs.length)(b:∀(i:Nat) (x:TV) (v:Value),cs[i]?=some x->vs[i]?=some v->VR M J [] x v):VRs M J [] cs vs.toList :=
 ⟨by simpa using d,fun i x v a c=>b i x v a (by simpa using c)⟩
theorem VRs.ofIVs{M:Mem}{J:aF}{L:Tk_}{cs:Tq_}{vs:List Value}(f:vs.length=cs.length)(d:∀(i:Nat) (x:IV) (v:Value),cs[i]?=some x->vs[i]?=some v->IR M x v): VRs M J L (cs.map .iv) vs :=
 ⟨by simpa using f,fun i x v b e=>by simp only[p_,G_]at b;obtain⟨a,c,rfl⟩:=b;exact .iv _ (d i a v c e)⟩
theorem VRs.toIVs{M:Mem}{J:aF}{L:Tk_}{cs:Tq_}{vs:List Value}(h:VRs M J L (cs.map .iv) vs):vs.length=cs.length/\∀(i:Nat) (x:IV) (v:Value),cs[i]?=some x->vs[i]?=some v->IR M x v :=
 ⟨by simpa using h.1,fun i x v a b=>(h.2 i (.iv x) v (by simp[a]) b).iv_inv⟩
theorem tA{M:Mem}{J:aF}{L:Tk_}{x:TV}{v:Value}(h:VR M J L x v)(e:(cellsOf x).any bJ=false):VRs M J [] (cellsOf x) v.cells.toList:=by
 cases h with
 |hole L v=>simp[cellsOf,bJ]at e
 |iv L h =>
  cases h with
  |agg cs vs hs hv=>exact VRs.ofIVs (by simpa[Value.cells] using hs) (fun i x v a d=>hv i x v a (by simpa[Value.cells] using d))
  |_=>exact .cons (.iv _ (by constructor<;>assumption)) .nil
 |agg L cs vs hs hv=>exact .ofAgg hs hv
 |lp L j off cb h=>simp[cellsOf,bJ]at e
 |tup L cs vs hs hv=>simp[cellsOf,bJ]at e
 |ptr L i ver off l b o h hv ha=>exact .cons (.ptr _ i ver off l b o h hv ha) .nil
 |msl L i ver off len cap es l b o c h hv ha hl hlc=>exact .cons (.msl _ i ver off len cap es l b o c h hv ha hl hlc) .nil
 |tsl L i es l b o c h hl hv ha hr=>exact .cons (.tsl _ i es l b o c h hl hv ha hr) .nil
 |rsv L i es n l b o c h hl hv ha hc hr=>exact .cons (.rsv _ i es n l b o c h hl hv ha hc hr) .nil
 |map L i l h hl=>exact .cons (.map _ i l h hl) .nil
 |it L i l h hl=>exact .cons (.it _ i l h hl) .nil
 |yld L i l h hl=>exact .cons (.yld _ i l h hl) .nil
 |fn L f fst cap fst' cap' a d hf hc=>exact .cons (.fn _ f fst cap fst' cap' a d hf hc) .nil
theorem wM:∀ {cs:Tn_} {l:Tq_},mG cs=some l->cs=l.map .iv
 |[],l,h=>by simp[mG]at h;subst h;rfl
 |x::r,l,h=>by
  cases x with
  |iv a =>simp only[mG,G_]at h;obtain⟨l',b,rfl⟩:=h;rw[wM b];rfl
  |_=>simp[mG]at h
theorem xT{M:Mem}{J:aF}{L:Tk_}{cs:Tn_}{vs:List Value}(h:VRs M J [] cs vs):VR M J L (rT cs) (.agg vs.toArray):=by
 unfold rT;split;.rename_i l hl;have:=wM hl;subst this;obtain⟨c,d⟩:=h.toIVs;exact .iv _ (.agg _ _ (by simpa using c) (fun i x v a b=>d i x v a (by simpa using b)))
 .exact .agg _ _ _ (by simpa using h.1) (fun i x v a b=>h.2 i x v a (by simpa using b))
theorem iF{α:Type}{cs:List α}{off n:Nat}{l:List α}(h:sub cs off n=some l):off+n<=cs.length/\l=(cs.drop off).take n/\l.length=n:=by
 unfold sub at h;split at h;.rename_i hle;simp at h;subst h;exact⟨hle,rfl,by simp;omega⟩
 .simp at h
theorem uW{α:Type}{cs:List α}{off n:Nat}{l:List α}(h:sub cs off n=some l){i:Nat}{x:α}(a:l[i]?=some x):cs[off+i]?=some x:=by
 obtain⟨_,rfl,_⟩:=iF h;rw[D9]at a;split at a;.simpa using a
 .simp at a
def aX2(M:Mem)(J:aF)(w:World)(cb:Nat)(cs:List TV):Prop :=
 ¬J.has cb/\(∀o,M cb o=none)/\∃(cs':Array Value) (e:TypeId) (fz:Nat×Nat),w.heap[cb]?=some (.cells cs' e fz)/\VRs M J [] cs cs'.toList/\∀o,o<cs'.size->w.frozen? ⟨cb,o,none⟩=false
structure LbR (M:Mem) (J:aF) (L:List (Option Nat)) (env:Env) (w:World):Prop where
 len:L.length=env.length
 box:∀(j:Nat) (cs:List TV),env[j]?=some (TV.lb cs)->∃cb,L[j]?=some (some cb)/\aX2 M J w cb cs
 inj:∀(j k:Nat) (cs cs':List TV) (cb:Nat),env[j]?=some (TV.lb cs)->env[k]?=some (TV.lb cs')->L[j]?=some (some cb)->L[k]?=some (some cb)->j=k
def cS(L:List (Option Nat))(b:Nat):Prop:=∃j:Nat,L[j]?=some (some b)
variable (P O) in
structure MS (K:TM.bD) (M:Mem) (J:aF) (L:List (Option Nat)) (S:aA) (env:Env) (w:World):Prop where
 wr:WR P O M J S w
 lb:LbR M J L env w
 gl:∀g cs,K.glob g=some cs->IR M (.cp cs) (.pointer (some ⟨g,0,none⟩))
variable {K:TM.bD}
theorem aX2.step{M M':Mem}{J J':aF}{w w':World}{cb:Nat}{cs:Tn_}(h:aX2 M J w cb cs)(c:w'.heap[cb]?=w.heap[cb]?)(m:MLe M M')(a:∀o,M' cb o=M cb o)(k:JLe J J') (j:¬J'.has cb):aX2 M' J' w' cb cs:=by obtain⟨_,f,b,e,d,h3,l,g⟩:=h;exact⟨j,fun o=>(a o).trans (f o),b,e,d,c.trans h3,l.mono m k,fun o i=>(mW c).trans (g o i)⟩
theorem aX2.lt{M:Mem}{J:aF}{w:World}{cb:Nat}{cs:Tn_}(h:aX2 M J w cb cs):cb<w.heap.size:=by obtain⟨_,_,_,_,_,h3,_⟩:=h;exact fZ h3
theorem LbR.step{own:Tm_}{M M':Mem}{J J':aF}{S S':aA}{L:Tk_}{env:Env}{w w':World}(h:LbR M J L env w)(t:Tr own M J S w M' J' S' w')(f:∀b,cS L b->¬own b): LbR M' J' L env w':=by refine⟨h.len,fun j cs e=>?_,h.inj⟩;obtain⟨cb,d,c⟩:=h.box j cs e;have a:=c.lt;exact⟨cb,d,c.step (t.frame cb a c.1 (f cb ⟨j,d⟩)) t.mle (fun o=>t.mnew cb o a c.1) t.jle (t.has a c.1)⟩
theorem MS.step{own:Tm_}{M M':Mem}{J J':aF}{S S':aA}{L:Tk_}{env:Env}{w w':World}(h:MS P O K M J L S env w)(d:WR P O M' J' S' w')(t:Tr own M J S w M' J' S' w') (c:∀b,cS L b->¬own b):MS P O K M' J' L S' env w' :=
 ⟨d,h.lb.step t c,fun g cs a=>(h.gl g cs a).mono t.mle⟩
theorem xU{M:Mem}{J:aF}{L:Tk_}{S:aA}{env:Env}{w:World}(h:MS P O K M J L S env w){a:TV}{n:Nat}{cs:Tn_}{va:Value} (m:bP env S a n=some cs) (E:VR M J L a va):∃b o vs,va=.pointer (some ⟨b,o,none⟩)/\VRs M J [] cs vs/\vs.length=n/\∀(i:Nat) (v:Value),vs[i]?=some v->w.cell? ⟨b,o+i,none⟩=some v:=by
 unfold bP at m;split at m
 .rename_i j off;cases E with
  |lp L j off cb hj =>
   split at m
   .rename_i cs0 he;obtain⟨N,q,_,_,t,e,Q,I,G,_⟩:=h.lb.box j cs0 he;obtain rfl:cb=N:=by rw[hj]at q;simpa using q
    obtain⟨C,rfl,f⟩:=iF m;refine⟨cb,off,(t.toList.drop off).take n,rfl,(G.drop off).take n,?_,fun i v H=>?_⟩;.have:=((G.drop off).take n).1;rw[f]at this;exact this
    .rw[dX I];rw[D9]at H;split at H;.simpa using H
     .simp at H
   .simp at m
 .rename_i i v off;cases E with
  |ptr L i ver off l b o hl G E =>
   split at m
   .rename_i v' lo cs0 hs;split at m
    .rename_i hvv;subst hvv;have A:=h.wr.blk i l _ hl hs;cases A with
     |cells loose cs t e Q hlo I hsz hfit hvals hfz hm =>
      obtain⟨rfl,rfl⟩:=E rfl;obtain⟨C,rfl,f⟩:=iF m;have key:∀k x,((cs0.drop off).take n)[k]?=some x->∃u,t[l.d+off+k]?=some u/\VR M J [] x u:=by intro k x r;have:=uW m r;obtain⟨u,q,y⟩:=hvals _ _ this;exact⟨u,by rw[G3];exact q,y⟩
      refine⟨l.cb,l.d+off,(t.toList.drop (l.d+off)).take n,rfl,⟨?_,?_⟩,?_,?_⟩;.simp;omega
      .intro k x u r g;obtain⟨R,q,y⟩:=key k x r;rw[D9]at g;split at g;.rw[G6,K7,q]at g;simp at g;subst g;exact y
       .simp at g
      .simp;omega
      .intro k u g;rw[dX I];rw[D9]at g;split at g;.simpa using g
       .simp at g
    .simp at m
   .rename_i v' cs0 hs;split at m
    .rename_i hvv;subst hvv;have A:=h.wr.blk i l _ hl hs;cases A with
     |frz cs hvals =>
      obtain⟨rfl,rfl⟩:=E rfl;simp only[G_]at m;obtain⟨F,p,rfl⟩:=m;obtain⟨C,_,f⟩:=iF p;have key:∀(k:Nat) (x:IV),F[k]?=some x->∃u,M l.cb (l.d+off+k)=some u/\IR M x u:=by intro k x r;obtain⟨u,q,y⟩:=hvals _ _ (uW p r);exact⟨u,by rw[G3];exact q,y⟩
      refine⟨l.cb,l.d+off,(List.range n).map fun k=>(M l.cb (l.d+off+k)).getD Go.undef,rfl,⟨?_,?_⟩,by simp,?_⟩;.simp[f]
      .intro k x u r g;simp only[p_,G_]at r g;obtain⟨x0,s,rfl⟩:=r;obtain⟨k',c,rfl⟩:=g;obtain⟨rfl⟩:k'=k:=by rw[F0 (by rw[<-f];exact(E_.1 s).1)]at c;simpa using c.symm
       obtain⟨u,q,y⟩:=key _ x0 s;rw[q];exact .iv _ y
      .intro k u g;simp only[p_,G_]at g;obtain⟨k',c,rfl⟩:=g;have D:k<n:=by
        rcases D2 k n with z|z;.exact z
        .rw[B5 (by simpa using z)]at c;simp at c
       obtain rfl:k'=k:=by rw[F0 D]at c;simpa using c.symm
       obtain⟨u,q,y⟩:=key k' F[k'] (D_ A_);rw[q];exact h.wr.imm _ _ _ q
    .simp at m
   .simp at m
 .rename_i cs0;cases E with
  |iv L hr =>
   cases hr with
   |cp cs b off vals hm G =>
    simp only[G_]at m;obtain⟨F,p,rfl⟩:=m;obtain⟨C,_,f⟩:=iF p;have key:∀(k:Nat) (x:IV),F[k]?=some x->M b (off+k)=some (vals k)/\IR M x (vals k):=by intro k x r;have:=uW p r;rw[A7]at this;exact⟨hm _ _ this,G _ _ this⟩
    refine⟨b,off,(List.range n).map vals,rfl,⟨by simp[f],?_⟩,by simp,?_⟩
    .intro k x u r g;simp only[p_,G_]at r g;obtain⟨x0,s,rfl⟩:=r;obtain⟨k',c,rfl⟩:=g;obtain⟨rfl⟩:k'=k:=by rw[F0 (by rw[<-f];exact(E_.1 s).1)]at c;simpa using c.symm
     exact .iv _ (key _ x0 s).2
    .intro k u g;simp only[p_,G_]at g;obtain⟨k',c,rfl⟩:=g;have D:k<n:=by
      rcases D2 k n with z|z;.exact z
      .rw[B5 (by simpa using z)]at c;simp at c
     obtain rfl:k'=k:=by rw[F0 D]at c;simpa using c.symm
     exact h.wr.imm _ _ _ (key k' F[k'] (D_ A_)).1
 .simp at m
end
end Go.TM
namespace Go.TM
open Go
section
variable {P:Program}{O:dH}{K:TM.bD}
theorem aVp{α:Type}{cs vs:List α}{off:Nat}(h:off+vs.length<=cs.length)(k:Nat):(put cs off vs)[k]?=if off<=k/\k<off+vs.length then vs[k-off]? else cs[k]? := by
 unfold put;have a:(cs.take off).length=off:=by simp;omega
 by_cases h1:k<off;.rw[I_ A_,A9,Y_ A_,D9,K_ h1]
 .by_cases h2:k<off+vs.length;.rw[K_ A_,A9,r_ A_,a,Y_ A_]
  .rw[I_ A_,r_ (by simp;omega),H_,a,G6];congr 1;omega
theorem wN{α:Type}{cs vs:List α}{off:Nat}(h:off+vs.length<=cs.length):(put cs off vs).length=cs.length:=by unfold put;simp;omega
def uX(env env':Env):Prop :=
 env'.length=env.length/\∀j:Nat,env'[j]?=env[j]? \/ ∃cs cs':List TV,env[j]?=some (TV.lb cs)/\env'[j]?=some (TV.lb cs')
theorem uX.refl(env:Env):uX env env:=⟨rfl,fun _=>.inl rfl⟩
theorem VRs.put{M:Mem}{J:aF}{cs vs:Tn_}{b:Array Value}{vals:List Value}{off:Nat}(h:VRs M J [] cs b.toList)(k:VRs M J [] vs vals)(a:off+vs.length<=cs.length): VRs M J [] (put cs off vs) (rY b off vals).toList:=by
 have e:b.size=cs.length:=by simpa using h.1
 refine⟨by rw[wN a,Array.length_toList,eT,e],fun i x v d c=>?_⟩;rw[aVp a]at d;rw[K7,sZ _ _ _ _ (by rw[k.1];omega),k.1]at c;split at d;.rename_i hc;rw[K_ hc]at c;exact k.2 _ x v d c
 .rename_i hc;rw[I_ hc]at c;exact h.2 _ x v d (by simpa using c)
theorem WR.write{M:Mem}{J:aF}{S:aA}{w:World}(h:WR P O M J S w)(own:Tm_){i:Nat}{l:Loc}(j:J.at i l){w':World}{s':aG}(n:BR P O M J w' l s') (p:w'.heap.size=w.heap.size) (f:∀b,b≠l.cb->w'.heap[b]?=w.heap[b]?) (d:w'.os=w.os/\w'.tape=w.tape/\w'.output=w.output) (q:∀o v,M l.cb o=some v->w'.cell? ⟨l.cb,o,none⟩=some v): WR P O M J (S.set i s') w'/\Tr own M J S w M J (S.set i s') w':=by
 refine⟨h.step (by simpa using h.len) (.refl _) (.refl _) ?_ ?_ h.inj (fun k g a=>by rw[p];exact h.lt k g a),?_⟩
 .intro b o v r;by_cases m:b=l.cb;.subst m;exact q o v r
  .rw[dR (f b m)];exact h.imm b o v r
 .intro k g s a c;by_cases hki:k=i
  .subst hki;left;rw[V5]at c;split at c
   .split at c
    .simp at c;subst c;obtain rfl:g=l:=by unfold aF.at at a j;rw[j]at a;simpa using a.symm
     exact n
    .simp at c
   .contradiction
  .right;refine⟨a,?_,f _ (fun e=>hki (h.inj k i g l a j e)),fun _=>rfl⟩;rwa [B3 A_]at c
 .refine⟨d.1,d.2.1,d.2.2,by omega,.refl _,fun _ _ _ _=>rfl,.refl _,fun k g a=>.inr ⟨g,a,rfl⟩,fun k a=>⟨a,?_⟩,fun b m t _=>f b (fun e=>t ⟨i,l,j,e.symm⟩)⟩;rw[B3];rintro rfl;unfold aF.at at j;rw[j]at a;simp at a
theorem nK{M:Mem}{J:aF}{L:Tk_}{S S':aA}{env env':Env}{w:World}(h:MS P O K M J L S env w){a:TV}{vs:Tn_}{va:Value}{vals:List Value} (p:setCells env S a vs=some (env',S')) (ha:VR M J L a va) (q:VRs M J [] vs vals): ∃b o w',va=.pointer (some ⟨b,o,none⟩)/\(storeCells ⟨b,o,none⟩ vals).run P w=.ok () w'/\MS P O K M J L S' env' w'/\Tr (cS L) M J S w M J S' w'/\uX env env':=by
 unfold setCells at p;split at p;.simp at p
 rename_i r;have r:vs.any bJ=false:=by simpa using r
 have h1:=q.oneCell r;split at p
 .rename_i j off;cases ha with
  |lp L j off cb hj =>
   split at p
   .rename_i cs0 he;split at p
    .rename_i n;simp only[R_,B7]at p;obtain⟨rfl,rfl⟩:=p;obtain⟨D,W,T,Q,u,e,Z,I,f,t⟩:=h.lb.box j cs0 he;obtain rfl:cb=D:=by rw[hj]at W;simpa using W
     have R:u.size=cs0.length:=by simpa using f.1
     have y:=nJ (P:=P) (o:=off) (vs:=vals) I (by rw[q.1];omega) (fun k _ g=>t k (by rw[q.1]at g;omega)) h1;have c:∀b,b≠cb->(w.setCells cb off vals).heap[b]?=w.heap[b]? := fun b E=>iX cb vals off w b E;have C:=mI cb vals off w;have F:=fZ I;have tr:Tr (cS L) M J S w M J S (w.setCells cb off vals):=by refine⟨C.1,C.2.1,C.2.2,by rw[iI];exact O_ _,.refl _,fun _ _ _ _=>rfl,.refl _,fun k lk g=>.inr ⟨lk,g,rfl⟩,fun k g=>⟨g,rfl⟩,fun b _ _ V=>c b (fun e=>V ?_)⟩;subst e;exact⟨j,hj⟩
     refine⟨cb,off,_,rfl,y,⟨?_,?_,h.gl⟩,tr,?_⟩;.refine h.wr.step h.wr.len (.refl _) (.refl _) (fun b o v z=>?_) (fun i l s A hs=>.inr ⟨A,hs,c _ (fun e=>T ⟨i,l,A,e⟩),fun _=>rfl⟩) h.wr.inj (fun i l A=>by rw[iI];exact h.wr.lt i l A);rw[dR (c b (fun e=>by subst e;rw[Q]at z;simp at z))];exact h.wr.imm b o v z
     .refine⟨by rw[F6];exact h.lb.len,fun k cs g=>?_,fun k k' cs U D g h6=>?_⟩
      .by_cases hkj:k=j;.subst hkj;have h4:k<env.length:=(E_.1 he).1;rw[C7 h4]at g;simp at g;subst g;refine⟨cb,hj,T,Q,rY u off vals,e,Z,jR cb vals off w u e Z I,f.put q n,fun o V=>?_⟩;rw[World.frozen?_setCells];exact t o (by rwa [eT]at V)
       .rw[B3 A_]at g;obtain⟨H,Y,h3⟩:=h.lb.box k cs g;exact⟨H,Y,h3.step (c _ (fun e=>hkj (h.lb.inj k j cs cs0 cb g he (e▸Y) hj))) (.refl _) (fun _=>rfl) (.refl _) h3.1⟩
      .have key:∀(m:Nat) (G:Tn_),(env.set j (TV.lb (put cs0 off vs)))[m]?=some (TV.lb G)->∃cs2:List TV,env[m]?=some (TV.lb cs2):=by
        intro m G z;by_cases hmj:m=j;.subst hmj;exact⟨cs0,he⟩
        .rw[B3 A_]at z;exact⟨G,z⟩
       obtain⟨c1,e1⟩:=key k cs g;obtain⟨c2,e2⟩:=key k' U h6;exact h.lb.inj k k' c1 c2 D e1 e2
     .refine⟨F6,fun k=>?_⟩;by_cases hkj:k=j;.subst hkj;exact .inr ⟨cs0,_,he,C7 (E_.1 he).1⟩
      .exact .inl (B3 A_)
    .simp at p
   .simp at p
 .rename_i i v off;cases ha with
  |ptr L i ver off l b o A hv' ha =>
   split at p
   .rename_i v' lo cs0 hs;split at p
    .rename_i hc;obtain⟨rfl,n⟩:=hc;simp only[R_,B7]at p;obtain⟨rfl,rfl⟩:=p;have h5:=h.wr.blk i l _ A hs;cases h5 with
     |cells loose cs u e Z hlo I R hfit' f t z htt =>
      obtain⟨rfl,rfl⟩:=ha rfl;have y:=nJ (P:=P) (o:=l.d+off) (vs:=vals) I (by rw[q.1];omega) (fun k _ g=>t k (by rw[q.1]at g;omega)) h1;have c:∀b,b≠l.cb->(w.setCells l.cb (l.d+off) vals).heap[b]?=w.heap[b]? := fun b E=>iX l.cb vals _ w b E;obtain⟨h0,tr⟩:=h.wr.write (cS L) A (w':=w.setCells l.cb (l.d+off) vals) (s':=.cells l.ver lo (put cs0 off vs)) (by
       refine .cells lo _ (rY u (l.d+off) vals) e Z hlo (jR _ _ _ _ _ _ _ I) (by rw[eT];exact R) (by rw[eT,wN n];exact hfit') (fun k x hx=>?_) (fun o V=>?_) z (fun q1 q2=>by rw[eT,wN n];exact htt q1 q2)
       .rw[sZ _ _ _ _ (by rw[q.1];omega)];rw[aVp n]at hx;split at hx
        .rename_i hc;rw[K_ (by rw[q.1];omega),show l.d+k-(l.d+off)=k-off by omega];have F:k-off<vals.length:=by rw[q.1];omega
         exact⟨vals[k-off],D_ F,q.2 _ x _ hx (D_ F)⟩
        .rename_i hc;rw[I_ (by rw[q.1];omega)];exact f k x hx
       .rw[World.frozen?_setCells];exact t o (by rwa [eT]at V)) (iI _ _ _ _) c (mI _ _ _ _) (fun o v N=>by rw[z]at N;simp at N)
      refine⟨l.cb,l.d+off,_,rfl,y,?_,tr,.refl _⟩;refine⟨h0,?_,h.gl⟩;refine⟨h.lb.len,fun k cs g=>?_,h.lb.inj⟩;obtain⟨H,Y,h3⟩:=h.lb.box k cs g;exact⟨H,Y,h3.step (c _ (fun e=>h3.1 ⟨i,l,A,e.symm⟩)) (.refl _) (fun _=>rfl) (.refl _) h3.1⟩
    .simp at p
   .simp at p
 .simp at p
def Mem.ext(M:Mem)(n:Nat)(N:Nat->Option Value):Mem:=fun b o=>if b=n then N o else M b o
theorem WR.none_at{M:Mem}{J:aF}{S:aA}{w:World}(h:WR P O M J S w)(o:Nat):M w.heap.size o=none:=by
 cases hm:M w.heap.size o with
 |none=>rfl
 |some v=>exact absurd (h.mlt hm) A_
theorem WR.mle_ext{M:Mem}{J:aF}{S:aA}{w:World}(h:WR P O M J S w)(N:Nat->Option Value):MLe M (M.ext w.heap.size N):=by intro b o v a;unfold Mem.ext;rw[I_ (by have:=h.mlt a;omega)];exact a
theorem WR.has_lt{M:Mem}{J:aF}{S:aA}{w:World}(h:WR P O M J S w){b:Nat}(a:J.has b):b<w.heap.size:=by obtain⟨i,l,c,rfl⟩:=a;exact h.lt i l c
theorem cT(w:World)(o:Obj){b:Nat}(h:b≠w.heap.size):(w.alloc o).heap[b]?=w.heap[b]? := by show(w.heap.push o)[b]?=_;rw[Array.getElem?_push,I_ A_]
theorem dA(w:World)(o:Obj):(w.alloc o).heap[w.heap.size]?=some o:=by show(w.heap.push o)[w.heap.size]?=_;simp
theorem WR.alloc{M:Mem}{J:aF}{S:aA}{w:World}(h:WR P O M J S w)(own:Tm_)(d:Obj)(N:Nat->Option Value) (k:∀o v,N o=some v->(w.alloc d).cell? ⟨w.heap.size,o,none⟩=some v): WR P O (M.ext w.heap.size N) J S (w.alloc d)/\Tr own M J S w (M.ext w.heap.size N) J S (w.alloc d):=by
 have a:=h.mle_ext N;refine⟨h.step h.len a (.refl _) ?_ ?_ h.inj (fun i l c=>by have:=h.lt i l c;simp;omega),?_⟩
 .intro b o v f;unfold Mem.ext at f;split at f;.rename_i e;subst e;exact k o v f
  .rename_i e;rw[dR (cT w d e)];exact h.imm b o v f
 .intro i l s c g;refine .inr ⟨c,g,cT w d (by have:=h.lt i l c;omega),fun o=>?_⟩;unfold Mem.ext;rw[I_ (by have:=h.lt i l c;omega)]
 .refine⟨rfl,rfl,rfl,by simp,a,fun b o e _=>?_,.refl _,fun i l c=>.inr ⟨l,c,rfl⟩,fun i j=>⟨j,rfl⟩,fun b e _ _=>cT w d A_⟩;unfold Mem.ext;rw[I_ A_]
theorem tB{M:Mem}{n:Nat}(h:∀o,M n o=none):M.ext n (fun _=>none)=M:=by
 funext b o;unfold Mem.ext;split;.rename_i hb;subst hb;exact(h o).symm
 .rfl
theorem WR.drew{M:Mem}{J:aF}{S:aA}{w:World}(h:WR P O M J S w)(own:Tm_):WR P O M J S w.drew/\Tr own M J S w M J S w.drew :=
  ⟨h.step h.len (.refl _) (.refl _) h.imm (fun _ _ _ a b=>.inr ⟨a,b,rfl,fun _=>rfl⟩) h.inj h.lt,
   ⟨rfl,rfl,rfl,O_ _,.refl _,fun _ _ _ _=>rfl,.refl _,fun _ l a=>.inr ⟨l,a,rfl⟩,fun _ c=>⟨c,rfl⟩,fun _ _ _ _=>rfl⟩⟩
theorem lZ{J:aF}{x:Option Loc}{i:Nat}{l:Loc}(h:aF.at (J++[x]) i l):J.at i l\/(i=J.length/\x=some l):=by
 unfold aF.at at h |-;rw[F7]at h;split at h;.exact .inl h
 .rename_i hn;right;have:i-J.length=0:=by
   rcases U3 (i-J.length)with h'|h';.exact h'
   .rw[B5 (by simp;omega)]at h;simp at h
  rw[this]at h;simp at h;exact⟨by omega,h⟩
theorem aMu{J:aF}(x:Option Loc){i:Nat}{l:Loc}(h:J.at i l):aF.at (J++[x]) i l:=by unfold aF.at at h |-;rw[Y_ (E_.1 h).1];exact h
theorem JLe.push(J:aF)(x:Option Loc):JLe J (J++[x]):=⟨by simp,fun i l h=>⟨l,aMu x h,.inl rfl⟩⟩
theorem WR.push{M:Mem}{J:aF}{S:aA}{w:World}(h:WR P O M J S w)(own:Tm_)(j:Obj)(N:Nat->Option Value)(l:Loc)(s:aG)(z:l.cb=w.heap.size) (y:∀o v,N o=some v->(w.alloc j).cell? ⟨w.heap.size,o,none⟩=some v) (r:BR P O (M.ext w.heap.size N) (J++[some l]) (w.alloc j) l s): WR P O (M.ext w.heap.size N) (J++[some l]) (S++[s]) (w.alloc j)/\Tr own M J S w (M.ext w.heap.size N) (J++[some l]) (S++[s]) (w.alloc j):=by
 have d:=h.mle_ext N;refine⟨h.step (by simp[h.len]) d (.push _ _) ?_ ?_ ?_ ?_,?_⟩
 .intro b o v p;unfold Mem.ext at p;split at p;.rename_i m;subst m;exact y o v p
  .rename_i m;rw[dR (cT w j m)];exact h.imm b o v p
 .intro i f t a n;rcases lZ a with a|⟨rfl,c⟩
  .right;have g:=h.lt i f a;refine⟨a,?_,cT w j A_,fun o=>?_⟩;.rwa [Y_ (by rw[<-h.len];exact(E_.1 a).1)]at n
   .unfold Mem.ext;rw[I_ A_]
  .left;simp at c;subst c;rw[h.len]at n;simp at n;subst n;exact r
 .intro i k f u a q e;rcases lZ a with a|⟨rfl,c⟩<;>rcases lZ q with q|⟨rfl,x⟩;.exact h.inj i k f u a q e
  .simp at x;subst x;have:=h.lt i f a;omega
  .simp at c;subst c;have:=h.lt k u q;omega
  .rfl
 .intro i f a;rcases lZ a with a|⟨rfl,c⟩;.have:=h.lt i f a;simp;omega
  .simp at c;subst c;simp;omega
 .refine⟨rfl,rfl,rfl,by simp,d,fun b o m _=>?_,.push _ _,fun i f a=>?_,fun i a=>?_,fun b m _ _=>cT w j A_⟩;.unfold Mem.ext;rw[I_ A_]
  .rcases lZ a with a|⟨rfl,c⟩;.exact .inr ⟨f,a,rfl⟩
   .simp at c;subst c;exact .inl A_
  .have g:=(E_.1 a).1;exact⟨by rw[Y_ g];exact a,by rw[Y_ (by rw[<-h.len];exact g)]⟩
def bP0(M:Mem)(J:aF)(L:List (Option Nat))(r:Next)(v:TV):Prop:=(∃v',r=.value v'/\VR M J L v v')\/(r=.skip/\v=undef)
def EL(w:World)(jx:Option Nat)(env env':Env)(L L':List (Option Nat)):Prop :=
 match jx with
 |none=>L'=L/\uX env env'
 |some j=>∃cs cb,env'=env.set j (.lb cs)/\L'=L.set j (some cb)/\w.heap.size<=cb
def aP:TOp->Option Nat
 |.allocL j _ | .boxL j _=>some j
 |_=>none
variable (P O K) in
def cK(top:TOp)(M:Mem)(J:aF)(L:List (Option Nat))(S:aA)(env:Env)(w:World)(s:Sem Next)(v:TV)(env':Env)(S':aA):Prop :=
 ∃M' J' L' w' r,s.run P w=.ok r w'/\bP0 M' J' L' r v/\MS P O K M' J' L' S' env' w'/\Tr (cS L) M J S w M' J' S' w'/\EL w (aP top) env env' L L'
variable {M:Mem}{J:aF}{L:List (Option Nat)}{S S':aA}{env env':Env}{w:World}
theorem cK.pure{top:TOp}(b:aP top=none)(h:MS P O K M J L S env w){s:Sem Next}{v:TV}{v':Value}(a:s.run P w=.ok (.value v') w)(c:VR M J L v v'):cK P O K top M J L S env w s v env S :=
 ⟨M,J,L,w,.value v',a,.inl ⟨v',rfl,c⟩,h,.refl _ _ _ _ _,by rw[b];exact⟨rfl,.refl _⟩⟩
theorem VR.int_inv{k:IntKind}{n:Int}{v:Value}(h:VR M J L (.iv (.int k n)) v):v=.int k n:=by cases h.iv_inv;rfl
theorem VR.bool_inv{b:Bool}{v:Value}(h:VR M J L (.iv (.bool b)) v):v=.bool b:=by cases h.iv_inv;rfl
theorem VR.str_inv{s:List UInt8}{v:Value}(h:VR M J L (.iv (.str s)) v):v=.string ⟨s.toArray⟩:=by cases h.iv_inv;rfl
theorem kQ{x:TV}{n:Int}{v:Value}(h:fB x=some n)(a:VR M J L x v):∃k,v=.int k n:=by
 unfold fB at h;split at h;.simp at h;subst h;exact⟨_,a.int_inv⟩
 .simp at h
theorem zR{x:TV}{b:Bool}{v:Value}(h:zL x=some b)(a:VR M J L x v):v=.bool b:=by
 unfold zL at h;split at h;.simp at h;subst h;exact a.bool_inv
 .simp at h
theorem aMv{v:Value}{a:IV}(h:aHe v=some a):IR M a v:=by
 unfold aHe at h;split at h<;>simp at h<;>subst h;.exact .bool _
 .exact .int _ _
 .rename_i s;have:(⟨s.data.toList.toArray⟩:ByteArray)=s:=B_;rw[show Value.string s=Value.string ⟨s.data.toList.toArray⟩ by rw[this]];exact .str _
 .exact .nilp
 .exact .slNil
 .exact .nilm
 .exact .nilf
 .exact .nili
theorem xV:∀ {vs:List Value} {l:Tq_},xR vs=some l->l.length=vs.length/\∀(i:Nat) (x:IV) (v:Value),l[i]?=some x->vs[i]?=some v->IR M x v
 |[],l,h=>by simp[xR]at h;subst h;exact⟨rfl,fun i x v h=>by simp at h⟩
 |v::r,l,h=>by
  simp only[xR]at h;split at h
  .rename_i a l' h1 h2;simp at h;subst h;obtain⟨h3,d⟩:=xV h2;refine⟨by simp[h3],fun i x u b c=>?_⟩;cases i with
   |zero=>simp at b c;subst b;subst c;exact aMv h1
   |succ i=>exact d i x u (by simpa using b) (by simpa using c)
  .simp at h
theorem aVq{v:Value}{a:IV}(h:bMe v=some a):IR M a v:=by
 unfold bMe at h;split at h;.rename_i cs;simp only[G_]at h;obtain⟨l,b,rfl⟩:=h;obtain⟨e,h3⟩:=xV (M:=M) b;exact .agg _ _ (by simpa using e.symm) (fun i x u c d=>h3 i x u c (by simpa using d))
 .exact aMv h
theorem aVr{o:Oper}{x:Operand}(b:o.op=.move x\/o.op=.assign x)(a:Act)(h:MS P O K M J L S env w){e:TV}(c:VR M J L e (a.eval x)){d:aH}:cK P O K (.mov d) M J L S env w (execOp a.eval o) e env S:=by refine .pure rfl h ?_ c;rcases b with b|b<;>simp[execOp,b]
theorem bEz{o:Oper}{c x y:Operand}(b:o.op=.pick c x y)(a:Act)(h:MS P O K M J L S env w){d e2 e3:TV}{t:Bool}(g:VR M J L d (a.eval c))(j:VR M J L e2 (a.eval x))(h3:VR M J L e3 (a.eval y)) (f:zL d=some t) {c' i e:aH}:cK P O K (.pick c' i e) M J L S env w (execOp a.eval o) (if t then e2 else e3) env S:=by
 have:=zR f g;refine .pure rfl h (v':=if t then a.eval x else a.eval y) ?_ ?_;.simp only[execOp,b,this,asBool];cases t<;>simp
 .cases t<;>simpa
theorem aDz{x:TV}{v:Value}(h:aAt x=true)(a:VR M J L x v):∃p,v=.pointer (some p):=by
 cases a with
 |iv L hr=>cases hr<;>first|exact⟨_,rfl⟩|simp[aAt]at h
 |lp=>exact⟨_,rfl⟩
 |ptr=>exact⟨_,rfl⟩
 |_=>simp[aAt]at h
theorem aKa{o:Oper}{x:Operand}(c:o.op=.nilCheck x)(a:Act)(h:MS P O K M J L S env w){e:TV}(d:VR M J L e (a.eval x))(f:aAt e=true){g:aH}: cK P O K (.nilCheck g) M J L S env w (execOp a.eval o) e env S:=by obtain⟨p,b⟩:=aDz f d;refine .pure rfl h (v':=.pointer (some p)) ?_ (b▸d);simp[execOp,c,b]
theorem aX3{op:BinOp}{k:IntKind}{x y:Int}{r:IV}(h:jO op k x y=some r)(a:op≠.shl/\op≠.shr)(t:TypeId):∃v,(Go.binOp op t (.int k x) (.int k y)).run P w=.ok v w/\IR M r v:=by
 cases op<;>simp[jO]at h<;>first
  |(exact absurd rfl a.1;done)
  |(exact absurd rfl a.2;done)
  |(subst h;exact⟨_,by simp[Go.binOp,Go.Op.intArith,Go.Op.intBits,Go.Op.intCmp];rfl,by constructor⟩)
  |(obtain⟨b,rfl⟩:=h;exact⟨_,by simp[Go.binOp,Go.Op.intDiv,b];rfl,by constructor⟩)
theorem aAx{op:BinOp}{k k':IntKind}{x y:Int}{r:IV}(h:xO op k x y=some r)(t:TypeId):∃v,(Go.binOp op t (.int k x) (.int k' y)).run P w=.ok v w/\IR M r v:=by
 unfold xO at h;split at h;.simp at h
 .rename_i hy;split at h;.simp at h;subst h;exact⟨_,by simp[Go.binOp,Go.Op.shift,hy];rfl,by constructor⟩
  .simp at h;subst h;exact⟨_,by simp[Go.binOp,Go.Op.shift,hy];rfl,by constructor⟩
  .simp at h
theorem oS(l:List UInt8):(⟨l.toArray⟩:ByteArray).size=l.length:=by simp[ByteArray.size]
theorem aX4(x y:List UInt8):(⟨x.toArray⟩++⟨y.toArray⟩:ByteArray)=⟨(x++y).toArray⟩:=by apply Z3;apply N0;rw[ByteArray.toList_data_append]
theorem aX5{op:BinOp}{x y:List UInt8}{r:IV}(h:aVo op x y=some r)(t:TypeId):∃v,(Go.binOp op t (.string ⟨x.toArray⟩) (.string ⟨y.toArray⟩)).run P w=.ok v w/\IR M r v:=by
 by_cases hadd:op=.add
 .subst hadd;unfold aVo at h;simp only at h;split at h
  .rename_i hle;simp at h;subst h;refine⟨.string ⟨(x++y).toArray⟩,?_,.str _⟩;have:¬(((x.length+y.length:Nat):Int)>IntKind.i64.max):=by have:IntKind.i64.max=9223372036854775807:=rfl;rw[this];omega
   simp only[Go.binOp,Go.Op.stringOp,oS];rw[I_ this,aX4];rfl
  .simp at h
 .cases op<;>simp[aVo]at h<;>first
   |(subst h;exact⟨_,by simp[Go.binOp,Go.Op.stringOp];rfl,by constructor⟩)
   |(exact absurd rfl hadd)
def aKb:Value->Bool
 |.agg _ | .nilIface=>false
 |_=>true
theorem oT(op:BinOp)(t:TypeId)(x y:Operand){a b:Value}(h:aKb a=true):(eqGuard op t x y a b).run P w=.ok () w:=by
 unfold eqGuard;cases op<;>try rfl
 all_goals (cases a<;>first|rfl|simp[aKb]at h)
theorem aX6{op:BinOp}{x y:TV}{r:IV}(h:binOp op x y=some r){a b:Value}(c:VR M J L x a)(d:VR M J L y b)(t:TypeId):aKb a=true/\∃v,(Go.binOp op t a b).run P w=.ok v w/\IR M r v:=by
 unfold binOp at h;split at h
 .rename_i k n k' n';rw[c.int_inv,d.int_inv];refine⟨rfl,?_⟩;split at h;.exact aAx h t
  .exact aAx h t
  .rename_i h1 h2;split at h;.rename_i hk;subst hk;exact aX3 h ⟨h1,h2⟩ t
   .simp at h
 .rw[c.str_inv,d.str_inv];exact⟨rfl,aX5 h t⟩
 .simp at h
theorem bMg{o:Oper}{op:BinOp}{t u:TypeId}{x y:Operand}(b:o.op=.binOp op t x y u)(a:Act)(h:MS P O K M J L S env w){c e2:TV}(i:VR M J L c (a.eval x))(g:VR M J L e2 (a.eval y)){r:IV} (d:binOp op c e2=some r) {k e:aH}:cK P O K (.bin op k e) M J L S env w (execOp a.eval o) (.iv r) env S:=by obtain⟨j,v,f,l⟩:=aX6 (P:=P) (w:=w) d i g t;refine .pure rfl h (v':=v) ?_ (.iv _ l);simp[execOp,b,oT op t x y j,f]
theorem mJ(t:TypeId)(x y:Value):Go.Op.equal t x y=Go.Op.equalIn (9999+1) t x y:=rfl
def bSl(P:Program)(t:TypeId):EK->Prop
 |.bool=>P.underlying t=some .bool
 |.ptr=>∃e,P.underlying t=some (.pointer e)
 |.sl=>∃e,P.underlying t=some (.slice e)
 |.mp=>∃k e,P.underlying t=some (.map k e)
 |.fn=>∃a b c,P.underlying t=some (.func a b c)
theorem bE0{t:TypeId}{k:EK}(h:qX P t=some (.b k)):bSl P t k:=by
 unfold qX at h;split at h<;>try (simp at h;done)
 all_goals first
  |(simp at h;subst h;simp[bSl, *];done)
  |(split at h<;>simp at h)
theorem aMw{k:EK}{x y:TV}{b:Bool}(h:eqB k x y=some b){t:TypeId}(f:bSl P t k){u v:Value}(g:VR M J L x u)(j:VR M J L y v):aKb u=true/\(Go.Op.equal t u v).run P w=.ok b w /\(∀op,(op=.eql\/op=.neq)->Go.binOp op t u v=(do let b <-Go.Op.equal t u v;Pure.pure (Value.bool (if op=.neq then !b else b)))):=by
 have m:∀d,P.underlying t=some d->(Go.underlying t).run P w=.ok d w:=fun d C=>run_underlying C w;unfold eqB at h;split at h
 .split at h
  .simp at h;subst h;rw[g.bool_inv,j.bool_inv];refine⟨rfl,?_,fun op o=>?_⟩;.rw[mJ,Go.Op.equalIn];simp only[Sem.run_bind,m _ f];rfl
   .rcases o with rfl|rfl<;>simp[Go.binOp]
  .simp at h
 .obtain⟨e,f⟩:=f;have key:∀p q:Option Addr,(p=none\/q=none)->(Go.Op.equal t (.pointer p) (.pointer q)).run P w=.ok (p.isNone&&q.isNone) w:=by intro p q r;rw[mJ,Go.Op.equalIn];simp only[Sem.run_bind,m _ f];cases p<;>cases q<;>first|rfl|(simp at r;done)
  have n:∀(p q:Option Addr) op,(op=.eql\/op=.neq)->Go.binOp op t (.pointer p) (.pointer q)=(do let b <-Go.Op.equal t (.pointer p) (.pointer q);Pure.pure (Value.bool (if op=.neq then !b else b))):=by intro p q op o;rcases o with rfl|rfl<;>simp[Go.binOp]
  split at h
  .simp at h;subst h;cases g.iv_inv;cases j.iv_inv
   exact⟨rfl,key none none (.inl rfl),n _ _⟩
  .split at h
   .rename_i z;simp at h;subst h;cases g.iv_inv
    obtain⟨p,rfl⟩:=aDz z j;exact⟨rfl,by simpa using key none (some p) (.inl rfl),n _ _⟩
   .simp at h
  .split at h
   .rename_i z;simp at h;subst h;cases j.iv_inv
    obtain⟨p,rfl⟩:=aDz z g;exact⟨rfl,by simpa using key (some p) none (.inr rfl),n _ _⟩
   .simp at h
  .simp at h
 .obtain⟨e,f⟩:=f;have key:∀(p q:Option Addr) (a b c d:Nat),(p=none\/q=none)->(Go.Op.equal t (.slice p a b) (.slice q c d)).run P w=.ok (p.isNone&&q.isNone) w:=by intro p q a b c d r;rw[mJ,Go.Op.equalIn];simp only[Sem.run_bind,m _ f];cases p<;>cases q<;>first|rfl|(simp at r;done)
  have n:∀(p q:Option Addr) (a b c d:Nat) op,(op=.eql\/op=.neq)->Go.binOp op t (.slice p a b) (.slice q c d)=(do let e <-Go.Op.equal t (.slice p a b) (.slice q c d);Pure.pure (Value.bool (if op=.neq then !e else e))):=by intro p q a b c d op o;rcases o with rfl|rfl<;>simp[Go.binOp]
  have i:∀ {l:Tp_} {u:Value},VR M J L (.iv (.sl .nil l)) u->u=.slice none 0 0:=by
   intro l u g;cases g.iv_inv with
   |slNil=>rfl
   |sl t l b off cap es vals f hes hcap hfull hm j=>exact absurd rfl f
   |slE t a f=>exact absurd rfl f
  have s:∀ {A:Tag} {l:Tp_} {u:Value},VR M J L (.iv (.sl A l)) u->∃p a b,u=.slice p a b/\p.isNone=(A==.nil):=by
   intro A l u g;cases g.iv_inv with
   |slNil=>exact⟨_,_,_,rfl,rfl⟩
   |sl t l b off cap es vals f hes hcap hfull hm j=>exact⟨_,_,_,rfl,by cases A<;>first|rfl|exact absurd rfl f⟩
   |slE t a f=>exact⟨_,_,_,rfl,by cases A<;>first|rfl|exact absurd rfl f⟩
  split at h;.simp at h;subst h;rw[i g];obtain⟨p,a,b,rfl,z⟩:=s j;exact⟨rfl,by rw[key _ _ _ _ _ _ (.inl rfl),z];rfl,n _ _ _ _ _ _⟩
  .simp at h;subst h;rw[i j];obtain⟨p,a,b,rfl,z⟩:=s g;exact⟨rfl,by rw[key _ _ _ _ _ _ (.inr rfl),z];simp,n _ _ _ _ _ _⟩
  .simp at h;subst h;rw[i g];cases j
   exact⟨rfl,by rw[key _ _ _ _ _ _ (.inl rfl)];rfl,n _ _ _ _ _ _⟩
  .simp at h;subst h;rw[i j];cases g
   exact⟨rfl,by rw[key _ _ _ _ _ _ (.inr rfl)];rfl,n _ _ _ _ _ _⟩
  .simp at h;subst h;rw[i g];cases j
   exact⟨rfl,by rw[key _ _ _ _ _ _ (.inl rfl)];rfl,n _ _ _ _ _ _⟩
  .simp at h;subst h;rw[i j];cases g
   exact⟨rfl,by rw[key _ _ _ _ _ _ (.inr rfl)];rfl,n _ _ _ _ _ _⟩
  .simp at h
 .obtain⟨k,e,f⟩:=f;have n:∀(p q:Option Nat) op,(op=.eql\/op=.neq)->Go.binOp op t (.map p) (.map q)=(do let e <-Go.Op.equal t (.map p) (.map q);Pure.pure (Value.bool (if op=.neq then !e else e))):=by intro p q op o;rcases o with rfl|rfl<;>simp[Go.binOp]
  have key:∀(p q:Option Nat),(p=none\/q=none)->(Go.Op.equal t (.map p) (.map q)).run P w=.ok (p.isNone&&q.isNone) w:=by intro p q r;rw[mJ,Go.Op.equalIn];simp only[Sem.run_bind,m _ f];cases p<;>cases q<;>first|rfl|(simp at r;done)
  split at h
  .simp at h;subst h;cases g.iv_inv;cases j.iv_inv
   exact⟨rfl,key _ _ (.inl rfl),n _ _⟩
  .simp at h;subst h;cases g.iv_inv;cases j
   exact⟨rfl,key _ _ (.inl rfl),n _ _⟩
  .simp at h;subst h;cases j.iv_inv;cases g
   exact⟨rfl,key _ _ (.inr rfl),n _ _⟩
  .simp at h
 .obtain⟨D,E,F,f⟩:=f;split at h
  .simp at h;subst h;cases g.iv_inv;cases j.iv_inv
   refine⟨rfl,?_,fun op o=>?_⟩;.rw[mJ,Go.Op.equalIn];simp only[Sem.run_bind,m _ f];rfl
   .rcases o with rfl|rfl<;>simp[Go.binOp]
  .simp at h;subst h;cases g.iv_inv;cases j
   refine⟨rfl,?_,fun op o=>?_⟩;.rw[mJ,Go.Op.equalIn];simp only[Sem.run_bind,m _ f];rfl
   .rcases o with rfl|rfl<;>simp[Go.binOp]
  .simp at h;subst h;cases j.iv_inv;cases g
   refine⟨rfl,?_,fun op o=>?_⟩;.rw[mJ,Go.Op.equalIn];simp only[Sem.run_bind,m _ f];rfl
   .rcases o with rfl|rfl<;>simp[Go.binOp]
  .simp at h
theorem bMh{o:Oper}{op:BinOp}{t u:TypeId}{x y:Operand}(c:o.op=.binOp op t x y u)(d:op=.eql\/op=.neq){k:EK}(m:qX P t=some (.b k))(a:Act)(h:MS P O K M J L S env w){e e2:TV} (l:VR M J L e (a.eval x)) (i:VR M J L e2 (a.eval y)) {b:Bool} (f:eqB k e e2=some b) {q g:aH}: cK P O K (.eqB (op==.neq) k q g) M J L S env w (execOp a.eval o) (.iv (.bool (if(op==.neq)=true then !b else b))) env S:=by obtain⟨p,n,j⟩:=aMw (P:=P) (w:=w) f (bE0 m) l i;refine .pure rfl h (v':=.bool (if(op==.neq)=true then !b else b)) ?_ (.iv _ (.bool _));simp only[execOp,c,Sem.run_bind,oT op t x y p,Result.andThen_ok,j op d,n];rcases d with rfl|rfl<;>rfl
end
end Go.TM
namespace Go.TM
open Go
section
variable {P:Program}{O:dH}{K:TM.bD}
variable {M:Mem}{J:aF}{L:List (Option Nat)}{S S':aA}{env env':Env}{w:World}
theorem und{t:TypeId}{d:TypeDesc}(h:P.underlying t=some d)(w:World):(underlying t).run P w=.ok d w:=run_underlying h w
theorem qZ{t:TypeId}{k:LK}(a:vN P t=some k){x y:IV}{r:Bool}(h:gM k x y=some r){u v:Value}(b:IR M x u)(c:IR M y v)(d:Nat):(Go.Op.equalIn (d+1) t u v).run P w=.ok r w:=by
 unfold vN at a;unfold gM at h;split at h
 .cases b;cases c
  simp at h;subst h;split at a<;>simp at a;rename_i hd;exact run_equalIn_bool' w d t _ _ hd
 .cases b;cases c
  split at h;.rename_i hk;subst hk;simp at h;subst h;split at a<;>simp at a;rename_i hd;exact run_equalIn_int w d t _ _ _ _ hd
  .simp at h
 .cases b;cases c
  simp at h;subst h;split at a<;>simp at a;rename_i hd;rw[run_equalIn_string w d t _ _ hd];simp
 .simp at h
theorem aD0{t:TypeId}{k:LK}(a:vN P t=some k)(w:World):(isAgg t).run P w=.ok false w:=by unfold vN at a;unfold isAgg;split at a<;>simp at a<;>(rename_i hd;simp only[Sem.run_bind,und hd w];rfl)
theorem iJ{t:TypeId}{k:LK}(a:vN P t=some k){cs:Array Value}{off:Nat}{v:Value}(h:cs[off]?=some v):(part t cs off).run P w=.ok v w:=by unfold part;simp only[Sem.run_bind,aD0 a,Result.andThen_ok];simp[h]
theorem aCm{cs:Tq_}{vs:Array Value}(c:vs.size=cs.length)(b:∀(i:Nat) (x:IV) (u:Value),cs[i]?=some x->vs[i]?=some u->IR M x u){i:Nat}{x:IV}(h:cs[i]?=some x):∃u,vs[i]?=some u/\IR M x u:=by
 have a:i<vs.size:=by rw[c];exact(E_.1 h).1
 exact⟨vs[i],A8 a,b i x _ h (A8 a)⟩
theorem vO(d:Nat){cs ds:Tq_}{xs ys:Array Value}(m:xs.size=cs.length)(j:∀(i:Nat) (x:IV) (u:Value),cs[i]?=some x->xs[i]?=some u->IR M x u) (c:ys.size=ds.length) (b:∀(i:Nat) (x:IV) (u:Value),ds[i]?=some x->ys[i]?=some u->IR M x u):∀ {h:List Field} {cL:List (Nat×LK)} {r:Bool},wJ P h=some cL->fA cs ds cL=some r ->(Go.Op.eqFields (d+1) xs ys h).run P w=.ok r w
 |[],cL,r,h1,h2=>by simp[wJ]at h1;subst h1;simp[fA]at h2;subst h2;simp[Go.Op.eqFields]
 |f::h,cL,r,h1,h2=>by
  simp only[wJ]at h1;split at h1
  .rename_i hn;split at h1
   .rename_i k l hk hl;simp at h1;subst h1;simp only[fA]at h2;split at h2
    .rename_i x y hx hy;obtain⟨u,n,e⟩:=aCm m j hx;obtain⟨v,g,a⟩:=aCm c b hy;simp only[Go.Op.eqFields,K_ hn,Sem.run_bind,iJ hk n,iJ hk g,Result.andThen_ok];split at h2;.rename_i he;rw[qZ hk he e a];simp only[Result.andThen_ok,E7,b_,J3];exact vO d m j c b hl h2
     .rename_i he;simp at h2;subst h2;rw[qZ hk he e a];simp
     .simp at h2
    .simp at h2
   .simp at h1
  .simp at h1
theorem xW(d:Nat){e:TypeId}{k:LK}(c:vN P e=some k)(h:P.cellsOf e=1){cs ds:Tq_}{xs ys:Array Value}(n:xs.size=cs.length)(m:∀(i:Nat) (x:IV) (u:Value),cs[i]?=some x->xs[i]?=some u->IR M x u) (f:ys.size=ds.length) (b:∀(i:Nat) (x:IV) (u:Value),ds[i]?=some x->ys[i]?=some u->IR M x u):∀ {l:Tc_} {r:Bool},fA cs ds (l.map fun i=>(i,k))=some r ->(Go.Op.eqItems (d+1) e (P.cellsOf e) xs ys l).run P w=.ok r w
 |[],r,h2=>by simp[fA]at h2;subst h2;simp[Go.Op.eqItems]
 |i::l,r,h2=>by
  simp only[Q_,fA]at h2;split at h2
  .rename_i x y hx hy;obtain⟨u,o,g⟩:=aCm n m hx;obtain⟨v,j,a⟩:=aCm f b hy;have p:(part e xs (i*P.cellsOf e)).run P w=.ok u w:=by rw[h,I8];exact iJ c o
   have e2:(part e ys (i*P.cellsOf e)).run P w=.ok v w:=by rw[h,I8];exact iJ c j
   simp only[Go.Op.eqItems,Sem.run_bind,p,e2,Result.andThen_ok];split at h2;.rename_i he;rw[qZ c he g a];simp only[Result.andThen_ok,E7,b_,J3];exact xW d c h n m f b h2
   .rename_i he;simp at h2;subst h2;rw[qZ c he g a];simp
   .simp at h2
  .simp at h2
theorem aAy{t:TypeId}{a:Array Field}(h:P.underlying t=some (.struct a)):P.fieldsOf t=a:=by simp[Program.fieldsOf,h]
theorem cellsOf_size?{t:TypeId}{n:Nat}(h:sizeOf? P t=some n):P.cellsOf t=n/\∃i,P.info? t=some i/\i.size=n:=by unfold sizeOf? at h;simp only[G_]at h;obtain⟨i,a,b⟩:=h;exact⟨by simp[Program.cellsOf,a,b],i,a,b⟩
theorem run_size?{t:TypeId}{n:Nat}(h:sizeOf? P t=some n)(w:World):(sizeOf t).run P w=.ok n w:=by obtain⟨a,i,b,_⟩:=cellsOf_size? h;rw[run_sizeOf w b,a]
theorem tC{t:TypeId}{cL:List (Nat×LK)}(a:mH P t=some cL){cs ds:Tq_}{xs ys:Array Value}(f:xs.size=cs.length)(d:∀(i:Nat) (x:IV) (u:Value),cs[i]?=some x->xs[i]?=some u->IR M x u) (c:ys.size=ds.length) (b:∀(i:Nat) (x:IV) (u:Value),ds[i]?=some x->ys[i]?=some u->IR M x u) {r:Bool} (h:fA cs ds cL=some r):(Go.Op.equal t (.agg xs) (.agg ys)).run P w=.ok r w:=by
 rw[mJ];unfold mH at a;split at a
 .rename_i fs hu;split at a;.simp at a
  .rename_i hsi;rw[run_equalIn_struct w 9999 t xs ys (by rw[aAy hu];exact hu) (by simpa using hsi),aAy hu];exact vO 9998 f d c b a h
 .rename_i n e hu;split at a
  .rename_i k hk;split at a;.rename_i hsz;simp at a;subst a;obtain⟨g,i,j,_⟩:=cellsOf_size? hsz;rw[run_equalIn_array w 9999 xs ys hu j];exact xW 9998 hk g f d c b h
   .simp at a
  .simp at a
 .simp at a
theorem aQ2{t:TypeId}{cL:List (Nat×LK)}(h:qX P t=some (.agg cL)):mH P t=some cL/\P.eqGuardType P.depth t=false:=by
 unfold qX at h;split at h<;>try (simp at h;done)
 all_goals
  split at h
  .simp at h
  .rename_i hg
   simp only[G_]at h
   obtain⟨o,b,a⟩:=h
   simp at a;subst a
   exact⟨b,by simpa using hg⟩
theorem aX7{o:Oper}{op:BinOp}{t u:TypeId}{x y:Operand}(e:o.op=.binOp op t x y u)(E:op=.eql\/op=.neq){cL:List (Nat×LK)}(p:qX P t=some (.agg cL))(a:Act)(h:MS P O K M J L S env w) {j e2:TV} (n:VR M J L j (a.eval x)) (k:VR M J L e2 (a.eval y)) {r:IV} (c:eqAgg (op==.neq) cL j e2=some r) {q D:aH}: cK P O K (.eqAgg (op==.neq) cL q D) M J L S env w (execOp a.eval o) (.iv r) env S:=by
 obtain⟨s,A⟩:=aQ2 p;unfold eqAgg at c;split at c;.rename_i cs ds;simp only[G_]at c;obtain⟨b,l,rfl⟩:=c;obtain⟨xs,g,m,C⟩:=n.iv_inv.agg_inv;obtain⟨ys,d,i,f⟩:=k.iv_inv.agg_inv;have z:=tC (P:=P) (w:=w) s m C i f l;refine .pure rfl h (v':=.bool (if(op==.neq)=true then !b else b)) ?_ (.iv _ (.bool _));simp only[execOp,e,g,d,Sem.run_bind,run_eqGuard_agg w op t x y xs ys A,Result.andThen_ok];rcases E with rfl|rfl<;>simp[Go.binOp,z]<;>rfl
 .simp at c
theorem bSm{o:Oper}{op:UnOp}{t:TypeId}{x:Operand}(c:o.op=.unOp op t x)(a:Act)(h:MS P O K M J L S env w){e:TV}(d:VR M J L e (a.eval x)){r:IV}(b:unOp op e=some r){f:aH}: cK P O K (.un op f) M J L S env w (execOp a.eval o) (.iv r) env S:=by
 unfold unOp at b;split at b;.rw[show jO .sub _ 0 _=some _ from rfl]at b;rw[R_]at b;subst b;refine .pure rfl h (v':=.int _ _) ?_ (.iv _ (.int _ _));simp only[execOp,c,d.int_inv,Go.Op.unary,Go.Op.intArith];rfl
 .rw[show jO .xor _ _ _=some _ from rfl]at b;simp at b;subst b;refine .pure rfl h (v':=.int _ _) ?_ (.iv _ (.int _ _));simp only[execOp,c,d.int_inv,Go.Op.unary,Go.Op.intBits];rfl
 .simp at b;subst b;refine .pure rfl h (v':=.bool _) ?_ (.iv _ (.bool _));simp only[execOp,c,d.bool_inv,Go.Op.unary];rfl
 .simp at b
theorem aD1{o:Oper}{s d:TypeId}{x:Operand}(c:o.op=.convert s d x){k0 k:IntKind}(g:P.underlying s=some (.int k0))(f:P.underlying d=some (.int k))(a:Act)(h:MS P O K M J L S env w) {e:TV} (i:VR M J L e (a.eval x)) {r:IV} (b:dD (.toInt k) e=some r) {j:aH}:cK P O K (.conv (.toInt k) j) M J L S env w (execOp a.eval o) (.iv r) env S:=by unfold dD at b;split at b<;>simp_all;subst b;refine .pure rfl h (v':=.int _ _) ?_ (.iv _ (.int _ _));simp[execOp,c,i.int_inv,Go.convert,und g,und f,Go.Conv.intToInt]
theorem aB1{o:Oper}{s d:TypeId}{x:Operand}(c:o.op=.convert s d x){k0:IntKind}(j:P.underlying s=some (.int k0))(f:P.underlying d=some .string)(a:Act)(h:MS P O K M J L S env w) {e:TV} (g:VR M J L e (a.eval x)) {r:IV} (b:dD .intStr e=some r) {i:aH}:cK P O K (.conv .intStr i) M J L S env w (execOp a.eval o) (.iv r) env S:=by unfold dD at b;split at b<;>simp_all;subst b;refine .pure rfl h (v':=.string _) ?_ (.iv _ (.str _));simp[execOp,c,g.int_inv,Go.convert,und j,und f,Go.Conv.intToString]
theorem aB2{o:Oper}{s d:TypeId}{x:Operand}(c:o.op=.convert s d x)(j:P.underlying s=some .string)(f:P.underlying d=some .string)(a:Act)(h:MS P O K M J L S env w) {e:TV} (g:VR M J L e (a.eval x)) {r:IV} (b:dD .strStr e=some r) {i:aH}:cK P O K (.conv .strStr i) M J L S env w (execOp a.eval o) (.iv r) env S:=by unfold dD at b;split at b<;>simp_all;subst b;refine .pure rfl h (v':=.string _) ?_ (.iv _ (.str _));simp[execOp,c,g.str_inv,Go.convert,und j,und f]
theorem aMx{o:Oper}{x:Operand}{i:Nat}(c:o.op=.extract x i)(a:Act)(h:MS P O K M J L S env w){vs:Tn_}(e:VR M J L (.tup vs) (a.eval x)){r:TV}(d:vs[i]?=some r){f:aH}: cK P O K (.extract i f) M J L S env w (execOp a.eval o) r env S:=by
 generalize hva:a.eval x=va at e;cases e with
 |tup L cs vs' hs hv =>
  have b:i<vs'.size:=by rw[hs];exact(E_.1 d).1
  refine .pure rfl h (v':=vs'[i]) ?_ (hv i r _ d (A8 b)).ofNil;simp[execOp,c,hva,Go.Instr.extract,b]
theorem aHh{e r:TV}{n:Nat}{v:Value}(c:VR M J L e v)(h:fY e n=some r):∃b o,v=.pointer (some ⟨b,o,none⟩)/\VR M J L r (.pointer (some ⟨b,o+n,none⟩)):=by
 unfold fY at h;split at h
 .simp at h;subst h;cases c with
  |lp L j off cb hj=>exact⟨_,_,rfl,.lp _ _ _ _ hj⟩
 .simp at h;subst h;cases c with
  |ptr L i ver off l b o hl c ha=>exact⟨_,_,rfl,.ptr _ _ _ _ l b (o+n) hl c (fun e=>by obtain⟨a,b⟩:=ha e;exact⟨a,by omega⟩)⟩
 .split at h
  .simp at h;subst h;cases c with
   |iv L hr =>
    cases hr with
    |cp cs b off vals hm hvv =>refine⟨_,_,rfl,.iv _ (.cp _ b (off+n) (fun i=>vals (n+i)) (fun i x d=>?_) (fun i x d=>hvv _ _ (by simpa using d)))⟩;rw[G3];exact hm _ _ (by simpa using d)
  .simp at h
 .simp at h
theorem aF6{o:Oper}{t:TypeId}{x:Operand}{f:Nat}(g:o.op=.fieldAddr t x f){i:Array Field}{fd:Field}(k:P.underlying t=some (.struct i))(s:i[f]?=some fd){n:Nat}(m:sizeOf? P fd.type=some n)(c:n≠0) (a:Act) (h:MS P O K M J L S env w) {e r:TV} (p:VR M J L e (a.eval x)) (j:fY e fd.offset=some r) {q:aH}:cK P O K (.fieldAddr fd.offset q) M J L S env w (execOp a.eval o) r env S:=by obtain⟨b,off,l,d⟩:=aHh p j;refine .pure rfl h ?_ d;simp[execOp,g,l,Go.Instr.fieldAt,und k,s,Go.Instr.sureAddr,fieldPlace,run_size? m,c,iW]
theorem aD2{o:Oper}{t:TypeId}{x i:Operand}(g:o.op=.indexAddr t x i){c:Nat}{el:TypeId}(p:P.underlying t=some (.array c el)){n:Nat}(u:sizeOf? P el=some n) (a:Act) (h:MS P O K M J L S env w) {e r j:TV} (v:VR M J L e (a.eval x)) (A:VR M J L j (a.eval i)) {k:Int} (y:fB j=some k) (s:0<=k/\k<c) (l:fY e (k.toNat*n)=some r) {z m:aH}: cK P O K (.indexAddrA c n z m) M J L S env w (execOp a.eval o) r env S:=by obtain⟨b,off,q,f⟩:=aHh v l;obtain⟨kk,d⟩:=kQ y A;refine .pure rfl h ?_ f;simp[execOp,g,q,d,Go.Instr.indexAt,asIntOf,und p,Go.Instr.sureAddr,s,run_size? u,iW]
theorem aF7{es:Nat}{e r:TV}{k:Int}{v:Value}(j:VR M J L e v)(h:indexAddrS es e k=some r):∃b o d cap,v=.slice (some ⟨b,o,none⟩) d cap/\0<=k/\k<d/\VR M J L r (.pointer (some ⟨b,o+k.toNat*es,none⟩)):=by
 have key:∀ {w:Tag} {l:Tp_} {c:Tq_} {v:Value},IR M (.sl w l) v->l[k.toNat]?=some c->c.length=es->¬k<0->∃b o d cap,v=.slice (some ⟨b,o,none⟩) d cap/\0<=k/\k<d/\d=l.length/\VR M J L (.iv (.cp c)) (.pointer (some ⟨b,o+k.toNat*es,none⟩)):=by
  intro w l c v j f g p;cases j with
  |slNil=>simp at f
  |slE t a ht=>simp at f
  |sl t l b off cap es' vals ht hes hcap hfull hm hvv =>
   have y:=(E_.1 f).1;have:es'=es:=by rw[<-g];exact(hes c (B4 f)).symm
   subst this;exact⟨b,off,_,cap,rfl,by omega,by omega,rfl,.iv _ (.cp _ _ _ (vals k.toNat) (fun i x q=>hm _ _ _ _ f q) (fun i x q=>hvv _ _ _ _ f q))⟩
 unfold indexAddrS at h;split at h;.simp at h
 rename_i p;split at h
 .split at h
  .rename_i c f;split at h;.rename_i g;simp at h;subst h;obtain⟨b,o,d,cap,m,n,h3,_,u⟩:=key j.iv_inv f g p;exact⟨b,o,d,cap,m,n,h3,u⟩
   .simp at h
  .simp at h
 .split at h
  .rename_i c f;split at h
   .rename_i g;simp at h;subst h;cases j with
    |tsl L i es l b o c' hJ hlo hvv ha hr' =>obtain⟨C,o',d,cap,m,n,h3,u,z⟩:=key hr' f g p;simp at m;obtain⟨⟨rfl,rfl⟩,rfl,rfl⟩:=m;exact⟨b,o,_,c',rfl,n,h3,z⟩
   .simp at h
  .simp at h
 .split at h
  .rename_i f;simp at h;subst h;obtain⟨s,rfl⟩:=f;cases j with
   |msl L i ver off d cap es l b o c hJ hvv ha g hlc =>refine⟨b,o,_,c,rfl,by omega,s,.ptr _ _ _ _ l b _ hJ hvv (fun e=>?_)⟩;obtain⟨A,a2,_⟩:=ha e;have:=a2 A_;exact⟨A,by omega⟩
  .simp at h
 .simp at h
theorem aD3{o:Oper}{t:TypeId}{x i:Operand}(f:o.op=.indexAddr t x i){el:TypeId}(m:P.underlying t=some (.slice el)){n:Nat}(u:sizeOf? P el=some n) (a:Act) (h:MS P O K M J L S env w) {e r g:TV} (y:VR M J L e (a.eval x)) (C:VR M J L g (a.eval i)) {k:Int} (z:fB g=some k) (j:indexAddrS n e k=some r) {A l:aH}: cK P O K (.indexAddrS n A l) M J L S env w (execOp a.eval o) r env S:=by obtain⟨b,off,s,cap,p,v,q,d⟩:=aF7 y j;obtain⟨kk,c⟩:=kQ z C;refine .pure rfl h ?_ d;simp[execOp,f,p,c,Go.Instr.indexAt,asIntOf,und m,v,q,run_size? u,iW]
theorem aQ3{o:Oper}{t:TypeId}{x i:Operand}(e:o.op=.index t x i)(l:P.underlying t=some .string)(a:Act)(h:MS P O K M J L S env w){s:List UInt8}{g:TV} (p:VR M J L (.iv (.str s)) (a.eval x)) (u:VR M J L g (a.eval i)) {k:Int} (q:fB g=some k) (n:0<=k) {b:UInt8} (f:s[k.toNat]?=some b) {r j:aH}: cK P O K (.indexS r j) M J L S env w (execOp a.eval o) (.iv (.int .u8 b.toNat)) env S:=by
 obtain⟨kk,d⟩:=kQ q u;refine .pure rfl h (v':=.int .u8 b.toNat) ?_ (.iv _ (.int _ _));have c:=(E_.1 f).1;have m:(⟨s.toArray⟩:ByteArray)[k.toNat]?=some b:=by rw[getElem?_pos _ _ (by simpa[ByteArray.size] using c)];have:=(E_.1 f).2;simp[ByteArray.getElem_eq_getElem_data,this]
 simp[execOp,e,p.str_inv,d,Go.Instr.index,asIntOf,und l,n,m]
theorem isAgg?_run{t:TypeId}{b:Bool}(h:isAgg? P t=some b)(w:World):(isAgg t).run P w=.ok b w:=by
 unfold isAgg? at h;unfold isAgg;split at h<;>simp at h<;>subst h;.rename_i hd;simp only[Sem.run_bind,und hd w];rfl
 .rename_i hd;simp only[Sem.run_bind,und hd w];rfl
 .rename_i d hn1 hn2 hd;simp only[Sem.run_bind,und hd w,Result.andThen_ok];cases d<;>first|rfl|(exact absurd rfl (hn1 _))|(exact absurd rfl (hn2 _ _))
theorem aAz{M:Mem}{J:aF}{L:Tk_}{x:TV}{v:Value}(h:VR M J L x v){cs:Tn_}(a:iE x=some cs):∃vs,v=.agg vs/\VRs M J [] cs vs.toList:=by
 unfold iE at a;split at a;.simp at a;subst a;obtain⟨vs,rfl,c,b⟩:=h.iv_inv.agg_inv;exact⟨vs,rfl,.ofIVs (by simpa using c) (fun i x u d e=>b i x u d (by simpa using e))⟩
 .simp at a;subst a;cases h with
  |agg L cs vs c b=>exact⟨vs,rfl,.ofAgg c b⟩
 .simp at a
theorem aMy{t:TypeId}{n:Nat}{g:Bool}(k:isAgg? P t=some g)(o:sizeOf? P t=some n){a:Tn_}{va:Array Value}(j:VRs M J [] a va.toList){off:Nat}{cs:Tn_} (h:sub a off (if g then n else 1)=some cs) {r:TV} (e:gL g cs=some r):∃u,(part t va off).run P w=.ok u w/\VR M J L r u:=by
 obtain⟨f,d,b⟩:=iF h;have l:va.size=a.length:=by simpa using j.1
 unfold part;simp only[Sem.run_bind,isAgg?_run k,Result.andThen_ok];cases g with
 |true =>
  simp[gL]at e;subst e;simp only[N8]at h f d b |-;refine⟨.agg (va.extract off (off+n)),by simp[run_size? o],?_⟩;have m:va.extract off (off+n)=((va.toList.drop off).take n).toArray:=by apply N0;simp[List.extract_eq_take_drop]
  have:=(j.drop off).take n;rw[<-d]at this;rw[m];exact xT (L:=L) this
 |false =>
  simp only[gL,b_,J3]at e h f d b |-;split at e
  .rename_i c;simp at e;subst e;have p:a[off+0]?=some c:=uW (show sub a off 1=some [c] from h) rfl;have i:off<va.size:=by rw[l];omega
   refine⟨va[off],?_,(j.2 off c _ (by simpa using p) B_).ofNil⟩;simp[i]
  .simp at e
theorem aX8{o:Oper}{t:TypeId}{x:Operand}{f:Nat}(i:o.op=.field t x f){j:Array Field}{fd:Field}(l:P.underlying t=some (.struct j))(D:j[f]?=some fd){n:Nat}{c:Bool}(y:sizeOf? P fd.type=some n) (g:isAgg? P fd.type=some c) (a:Act) (h:MS P O K M J L S env w) {e r:TV} (A:VR M J L e (a.eval x)) {d cs:Tn_} (b:iE e=some d) (s:sub d fd.offset (if c then n else 1)=some cs) (k:gL c cs=some r) {C:aH}:cK P O K (.field fd.offset (if c then n else 1) c C) M J L S env w (execOp a.eval o) r env S:=by obtain⟨vs,p,m⟩:=aAz A b;obtain⟨u,z,q⟩:=aMy (P:=P) (w:=w) (L:=L) g y m s k;refine .pure rfl h (v':=u) ?_ q;simp[execOp,i,p,Go.Instr.field,und l,D,asAgg,z]
theorem aQ4{o:Oper}{t:TypeId}{x i:Operand}(p:o.op=.index t x i){b:Nat}{el:TypeId}(Q:P.underlying t=some (.array b el)){n:Nat}{g:Bool}(z:sizeOf? P el=some n)(q:isAgg? P el=some g) (a:Act) (h:MS P O K M J L S env w) {e r A:TV} (T:VR M J L e (a.eval x)) (N:VR M J L A (a.eval i)) {k:Int} (H:fB A=some k) (F:0<=k/\k<b) {d cs:Tn_} (f:iE e=some d) (m:sub d (k.toNat*n) n=some cs) (j:gL g cs=some r) {I C:aH}:cK P O K (.indexA b n g I C) M J L S env w (execOp a.eval o) r env S:=by
 obtain⟨vs,R,D⟩:=aAz T f;obtain⟨kk,l⟩:=kQ H N;have s:sub d (k.toNat*n) (if g then n else 1)=some cs:=by
  cases g with
  |true=>simpa using m
  |false =>
   simp only[gL,b_,J3]at j |-;split at j;.rename_i c;obtain⟨_,_,y⟩:=iF m;simp at y;subst y;exact m
   .simp at j
 obtain⟨u,G,E⟩:=aMy (P:=P) (w:=w) (L:=L) q z D s j;refine .pure rfl h (v':=u) ?_ E;simp[execOp,p,R,l,Go.Instr.index,asIntOf,und Q,F,run_size? z,G]
def OI(x:Option Int)(v:Option Value):Prop:=match x,v with
 |none,none=>True
 |some i,some v=>∃k,v=.int k i
 |_,_=>False
theorem cX{i:Int}{y:Nat}{k:IntKind}(a:BoundsCode)(h:0<=i/\i<=y):(Instr.sliceBound (.int k i) y a).run P w=.ok i.toNat w:=by simp[Instr.sliceBound,asIntOf,h]
theorem lJ{x:Option Int}{d y r:Nat}(h:pY x d y=some r):(x=none/\r=d)\/∃i,x=some i/\0<=i/\i<=y/\r=i.toNat:=by
 unfold pY at h;split at h;.simp at h;exact .inl ⟨rfl,h.symm⟩
 .split at h;.rename_i i hi;simp at h;exact .inr ⟨i,rfl,hi.1,hi.2,h.symm⟩
  .simp at h
theorem gA{isS:Bool}{f cap a:Nat}{lo r t:Option Int}{l h m:Nat}(b:fN f cap lo r t=some (l,h,m))(J:cap<=a){lv D F:Option Value}(g:OI lo lv)(u:OI r D)(h3:OI t F): (Instr.sliceBounds isS f a lv D F).run P w=.ok (l,h,if t=none then a else m) w/\m<=cap/\(t=none->m=cap)/\l<=h/\(r≠none\/f<=cap->h<=m)/\(r=none->h=f):=by
 unfold fN at b;split at b;.simp at b
 rename_i hnn;split at b;.simp at b
 rename_i m' hm;split at b;.simp at b
 rename_i h' hh;split at b;.simp at b
 rename_i l' hl;simp at b;obtain⟨rfl,rfl,rfl⟩:=b;have key:∀ {x:Option Int} {v:Option Value} {i:Int},x=some i->OI x v->∃k,v=some (.int k i):=by intro x v i A o;subst A;unfold OI at o;split at o<;>simp_all
 have j:∀ {x:Option Int} {v:Option Value},x=none->OI x v->v=none:=by intro x v A o;subst A;unfold OI at o;split at o<;>simp_all
 rcases lJ hm with⟨rfl,rfl⟩|⟨s,rfl,I,G,rfl⟩
 .obtain rfl:=j rfl h3;rcases lJ hh with⟨rfl,rfl⟩|⟨p,rfl,y,z,rfl⟩
  .obtain rfl:=j rfl u;rcases lJ hl with⟨rfl,rfl⟩|⟨C,rfl,e,c,rfl⟩;.obtain rfl:=j rfl g;refine⟨by simp[Instr.sliceBounds],O_ _,fun _=>rfl,by omega,fun q=>by simpa using q,fun _=>rfl⟩
   .obtain⟨E,rfl⟩:=key rfl g;refine⟨by simp[Instr.sliceBounds,cX _ (And.intro e c)],O_ _,fun _=>rfl,by omega,fun q=>by simpa using q,fun _=>rfl⟩
  .obtain⟨H,rfl⟩:=key rfl u;have d:0<=p/\p<=(a:Int):=A_;rcases lJ hl with⟨rfl,rfl⟩|⟨C,rfl,e,c,rfl⟩;.obtain rfl:=j rfl g;refine⟨by simp[Instr.sliceBounds,cX _ d],O_ _,fun _=>rfl,by omega,fun _=>A_,fun q=>by simp at q⟩
   .obtain⟨E,rfl⟩:=key rfl g;refine⟨by simp[Instr.sliceBounds,cX _ d,cX _ (And.intro e c)],O_ _,fun _=>rfl,by omega,fun _=>A_,fun q=>by simp at q⟩
 .obtain⟨L,rfl⟩:=key rfl h3;have n:0<=s/\s<=(a:Int):=A_;rcases lJ hh with⟨rfl,rfl⟩|⟨p,rfl,y,z,rfl⟩;.exact absurd rfl (hnn s rfl)
  .obtain⟨H,rfl⟩:=key rfl u;have d:0<=p/\p<=(s.toNat:Int):=A_;rcases lJ hl with⟨rfl,rfl⟩|⟨C,rfl,e,c,rfl⟩;.obtain rfl:=j rfl g;refine⟨by simp[Instr.sliceBounds,cX _ n,cX _ d],by omega,fun q=>by simp at q,by omega,fun _=>A_,fun q=>by simp at q⟩
   .obtain⟨E,rfl⟩:=key rfl g;refine⟨by simp[Instr.sliceBounds,cX _ n,cX _ d,cX _ (And.intro e c)],by omega,fun q=>by simp at q,by omega,fun _=>A_,fun q=>by simp at q⟩
theorem IR.sl_any{M:Mem}{t:Tag}{l:Tp_}{v:Value}(h:IR M (.sl t l) v):(t=.nil/\l=[]/\v=.slice none 0 0) \/(∃(b off cap es:Nat) (vals:Nat->Nat->Value),v=.slice (some ⟨b,off,none⟩) l.length cap/\t≠.nil/\(∀c∈l,c.length=es)/\l.length<=cap/\(t=.full->cap=l.length) /\(∀(i:Nat) (c:Tq_) (j:Nat) (x:IV),l[i]?=some c->c[j]?=some x->M b (off+i*es+j)=some (vals i j))/\(∀(i:Nat) (c:Tq_) (j:Nat) (x:IV),l[i]?=some c->c[j]?=some x->IR M x (vals i j)))\/∃a,v=.slice (some a) 0 0/\l=[]/\t≠.nil:=by
 cases h with
 |slNil=>exact .inl ⟨rfl,rfl,rfl⟩
 |sl t l b off cap es vals ht hes hcap hfull hm hv=>exact .inr (.inl ⟨b,off,cap,es,vals,rfl,ht,hes,hcap,hfull,hm,hv⟩)
 |slE t a ht=>exact .inr (.inr ⟨a,rfl,rfl,ht⟩)
theorem aKc{l:Tp_}{es es':Nat}(d:oL es l=true)(h:∀c∈l,c.length=es'):∀c∈l,c.length=es:=by
 cases l with
 |nil=>intro c b;simp at b
 |cons a r =>simp[oL]at d;have:=h a B_;intro c b;rw[h c b,<-this,d]
theorem aCn{M:Mem}{l:Tp_}{b off es es':Nat}{vals:Nat->Nat->Value}(m:∀c∈l,c.length=es')(s:oL es l=true) (r:∀(i:Nat) (c:Tq_) (j:Nat) (x:IV),l[i]?=some c->c[j]?=some x->M b (off+i*es'+j)=some (vals i j)) (w:∀(i:Nat) (c:Tq_) (j:Nat) (x:IV),l[i]?=some c->c[j]?=some x->IR M x (vals i j)) {lo a cap o':Nat} {t:Tag} (v:t≠.nil) (A:lo<=a) (u:a<=l.length) (q:a-lo<=cap) (k:t=.full->cap=a-lo) (y:lo<a->o'=off+lo*es): IR M (.sl t ((l.drop lo).take (a-lo))) (.slice (some ⟨b,o',none⟩) (a-lo) cap):=by
 have h:((l.drop lo).take (a-lo)).length=a-lo:=by simp;omega
 have g:=aKc s m;have f:∀(i:Nat) (c:Tq_),((l.drop lo).take (a-lo))[i]?=some c->l[lo+i]?=some c/\i<a-lo:=by
  intro i c d;rw[D9]at d;split at d;.rename_i hi';exact⟨by simpa using d,hi'⟩
  .simp at d
 have:=IR.sl (M:=M) t ((l.drop lo).take (a-lo)) b o' cap es (fun i j=>vals (lo+i) j) v
  (fun c d=>g c (List.mem_of_mem_drop (Y3 d))) A_ (fun e=>by rw[h];exact k e)
  (fun i c j x d p=>by
   obtain⟨n,C⟩:=f i c d;have:=r _ _ _ _ n p;have z:es'=es:=by rw[<-m c (B4 n),g c (B4 n)]
   rw[y A_];subst z;rw[show off+lo*es'+i*es'+j=off+(lo+i)*es'+j by rw[E2];omega];exact this)
  (fun i c j x d p=>w _ _ _ _ (f i c d).1 p)
 rw[h]at this;exact this
theorem aA0{M:Mem}{t:Tag}{l:Tp_}{v:Value}(W:IR M (.sl t l) v){es:Nat}(hf:oL es l=true){lo Z x:Option Int}{r:IV}(c:uU t l lo Z x=some r){tt:TypeId}{el:TypeId} (ht:P.underlying tt=some (.slice el)) (hn:sizeOf? P el=some es) {lv N Q:Option Value} (I:OI lo lv) (H:OI Z N) (h3:OI x Q):∃u,(Instr.slice tt v lv N Q).run P w=.ok u w/\IR M r u:=by
 rcases W.sl_any with⟨rfl,rfl,rfl⟩|⟨b,off,cap,es',vals,rfl,C,y,s,D,V,A⟩|⟨a0,rfl,rfl,C⟩
 .unfold uU at c;simp only at c;split at c
  .rename_i q hq;obtain⟨ql,qh,T⟩:=q;simp at c;subst c;obtain⟨d,e2,e3,z,n,R⟩:=gA (P:=P) (w:=w) (isS:=true) hq (O_ _) I H h3;have E:(if x=none then 0 else T)=0:=by split<;>omega
   have k:qh=0:=by have:=n (.inr (O_ _));omega
   have p:ql=0:=A_;rw[E,k,p]at d;exact⟨.slice none 0 0,by simp[Instr.slice,und ht,d,run_size? hn],.slNil⟩
  .simp at c
 .have g:∀ {l' U L:Nat},(Instr.sliceBounds true l.length cap lv N Q).run P w=.ok (l',U,L) w->∃o',(Instr.slice tt (.slice (some ⟨b,off,none⟩) l.length cap) lv N Q).run P w=.ok (.slice (some ⟨b,o',none⟩) (U-l') (L-l')) w/\(L≠l'->o'=off+l'*es):=by intro l' U L f;refine⟨if L=l' then off else off+l'*es,?_,fun h0=>by rw[I_ h0]⟩;simp only[Instr.slice,Sem.run_bind,und ht,Result.andThen_ok,f,run_size? hn];split<;>simp[iW]
  unfold uU at c;cases t with
  |nil=>exact absurd rfl C
  |no =>
   simp only at c;cases x with
   |none =>
    simp only at c;split at c;.rename_i a b' m f;simp at c;subst c;obtain⟨d,e2,e3,z,n,R⟩:=gA (P:=P) (w:=w) (isS:=true) f s I H h3;simp at d;have hh:=n (.inr (O_ _));obtain⟨o',J,G⟩:=g d;exact⟨_,J,aCn y hf V A B_ z A_ A_ B_ (fun F=>G A_)⟩
    .simp at c
   |some i =>
    simp only at c;split at c
    .rename_i a b' m f;simp at c;subst c;obtain⟨d,e2,e3,z,n,R⟩:=gA (P:=P) (w:=w) (isS:=true) f s I H h3;simp at d;have hh:=n (.inr (O_ _));obtain⟨o',J,G⟩:=g d;refine⟨_,J,aCn y hf V A (by split<;>simp) z A_ A_ (fun e=>?_) (fun F=>G A_)⟩;split at e;.rename_i hmb;rw[hmb]
     .simp at e
    .simp at c
  |full =>
   simp only at c;obtain rfl:=D rfl;split at c
   .rename_i a b' m f;simp at c;subst c;obtain⟨d,e2,e3,z,n,R⟩:=gA (P:=P) (w:=w) (isS:=true) f (O_ _) I H h3;have Y:(if x=none then l.length else m)=m:=by
     split;.rename_i hx;exact(e3 hx).symm
     .rfl
    rw[Y]at d;have hh:=n (.inr (O_ _));obtain⟨o',J,G⟩:=g d;refine⟨_,J,aCn y hf V A (by split<;>simp) z A_ A_ (fun e=>?_) (fun F=>G A_)⟩;split at e;.rename_i hmb;rw[hmb]
    .simp at e
   .simp at c
 .have j:∀ {q:Nat×Nat×Nat},fN 0 0 lo Z x=some q->q=(0,0,0)/\(Instr.slice tt (.slice (some a0) 0 0) lv N Q).run P w=.ok (.slice (some a0) 0 0) w:=by
   intro q hq;obtain⟨ql,qh,T⟩:=q;obtain⟨d,e2,e3,z,n,R⟩:=gA (P:=P) (w:=w) (isS:=true) hq (O_ _) I H h3;have E:(if x=none then 0 else T)=0:=by split<;>omega
   have k:qh=0:=by have:=n (.inr (O_ _));omega
   have p:ql=0:=A_;have h6:T=0:=A_;rw[E,k,p]at d;subst k;subst p;subst h6;exact⟨rfl,by simp[Instr.slice,und ht,d,run_size? hn]⟩
  unfold uU at c;cases t with
  |nil=>exact absurd rfl C
  |no =>
   simp only[List.length_nil]at c;cases x with
   |none =>
    simp only at c;split at c;.rename_i a b' m f;obtain⟨d,e2⟩:=j f;simp at d c;subst c;exact⟨_,e2,.slE _ _ B_⟩
    .simp at c
   |some i =>
    simp only at c;split at c;.rename_i a b' m f;obtain⟨d,e2⟩:=j f;simp at d c;subst c;exact⟨_,e2,.slE _ _ (by split<;>simp)⟩
    .simp at c
  |full =>
   simp only[List.length_nil]at c;split at c;.rename_i a b' m f;obtain⟨d,e2⟩:=j f;simp at d c;subst c;exact⟨_,e2,.slE _ _ (by split<;>simp)⟩
   .simp at c
theorem aD4(s:List UInt8)(a b:Nat):(⟨s.toArray⟩:ByteArray).extract a b=⟨((s.drop a).take (b-a)).toArray⟩:=by apply Z3;rw[ByteArray.data_extract];apply N0;simp[List.extract_eq_take_drop]
theorem rC{α:Type}(es:Nat):∀(n:Nat) (cs:List α),n*es<=cs.length->∀(i:Nat) (c:List α),(cP es n cs)[i]?=some c->i<n/\c=(cs.drop (i*es)).take es
 |0,_,_,i,c,h=>by simp[cP]at h
 |n+1,cs,hl,i,c,h=>by
  rw[E2]at hl;cases i with
  |zero=>simp[cP]at h;exact⟨by omega,by simp[h]⟩
  |succ i =>simp[cP]at h;obtain⟨b,a⟩:=rC es n (cs.drop es) (by simp;omega) i c h;refine⟨by omega,?_⟩;rw[a,U0,E2];congr 2;omega
theorem gB{α:Type}(es:Nat):∀(n:Nat) (cs:List α),(cP es n cs).length=n
 |0,_=>rfl
 |n+1,cs=>by simp[cP,gB es n]
theorem rF{α:Type}(es:Nat)(n:Nat)(cs:List α)(e:n*es<=cs.length):∀c∈cP es n cs,c.length=es:=by intro c b;obtain⟨i,d⟩:=I6 b;obtain⟨a,rfl⟩:=rC es n cs e i c d;have:(i+1)*es<=n*es:=D4 _ a;rw[E2]at this;simp;omega
theorem bMi{α:Type}{es:Nat}{l:List (List α)}(h:∀c∈l,c.length=es):oL es l=true:=by
 cases l with
 |nil=>rfl
 |cons a r=>simp[oL,h a B_]
end
end Go.TM
