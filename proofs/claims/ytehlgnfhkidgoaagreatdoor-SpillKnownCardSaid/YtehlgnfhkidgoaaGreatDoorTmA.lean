/- A part of the evaluator TM, and of the proof that what it computes the model does. Condition: none. -/
import GoSem.Step
import Derived.Laws.World
import Derived.Laws.Sem
import Derived.RangeFuncLeaves
import Derived.RangeFuncRecord
import Derived.Laws.Cells
import Derived.Laws.IdiomCopy
import Derived.Laws.Entries
import Derived.Laws.Strings
import Derived.Laws.StructEq
import Derived.ChangeKeysEq
import Derived.Laws.BytesString
import Derived.Laws.Append
namespace Go.TM
set_option linter.defProp false
theorem A_{p:Prop}(h:p:=by omega):p:=h
theorem B_{p:Prop}(h:p:=by simp):p:=h
theorem C_{p:Prop}(h:p:=by decide):p:=h
def D_:=@List.getElem?_eq_getElem
def E_:=@List.getElem?_eq_some_iff
def G_:=@Option.map_eq_some_iff
def H_:=@List.length_append
def I_:=@if_neg
def J_:=@List.mem_cons
def K_:=@if_pos
def L_:=@Nat.le_refl
def O_:=@Bool.and_eq_true
def P_:=@List.length_map
def Q_:=@List.map_cons
def R_:=@Option.some.injEq
def S_:=@List.mem_singleton
def U_:=@List.mem_append
def V_:=@decide_eq_true
def W_:=@List.getElem?_append_left
def X_:=@congrArg
def Y_:=@Bool.false_eq_true
def Z_:=@decide_eq_false
def a_:=@List.eq_nil_of_length_eq_zero
def b_:=@List.getD_eq_getElem?_getD
def l_:=@List.getElem?_map
def p_:=@decide_eq_true_eq
def q_:=@List.any_eq_false
def r_:=@List.mem_map
def t_:=@List.getElem?_append_right
def A0:=@List.append_nil
def A4:=@Array.getElem?_eq_getElem
def A7:=@List.drop_eq_getElem_cons
def A8:=@List.append_assoc
def A9:=@Nat.zero_add
def B0:=@Ne.symm
def B2:=@Array.getD_eq_getD_getElem?
def B3:=@List.getElem?_set_ne
def B4:=@Prod.mk.injEq
def B5:=@List.mem_filter
def B7:=@List.getElem?_eq_none
def B8:=@List.getElem_mem
def B9:=@List.mem_of_getElem?
def C0:=@Nat.le_trans
def C1:=@List.all_eq_true
def C2:=@List.mem_range
def C3:=@List.map_nil
def C4:=@List.drop_zero
def C5:=@List.take_length
def C6:=@List.getElem?_set_self
def C7:=@List.nodup_cons
def C8:=@not_true_eq_false
def C9:=@List.filter_cons_of_pos
def D0:=@List.map_append
def D1:=@List.not_mem_nil
def D2:=@Nat.lt_or_ge
def D3:=@Bool.or_eq_true
def D4:=@Nat.mul_le_mul_right
def D5:=@Bool.not_eq_true'
def D6:=@List.getElem?_take
def D7:=@List.drop_length
def D8:=@Nat.add_mul
def D9:=@Option.some.inj
def E0:=@List.length_filter_le
def E1:=@List.set_append_right
def E2:=@List.filter_cons_of_neg
def E3:=@List.pairwise_cons
def E4:=@Bool.not_true
def E5:=@List.any_eq_true
def E6:=@List.filter_cons
def E7:=@Nat.lt_of_lt_of_le
def E8:=@List.getElem?_range
def E9:=@List.mem_map_of_mem
def F0:=@List.getElem?_append
def F3:=@List.take_append_drop
def F4:=@Bool.true_or
def F5:=@List.length_set
def F6:=@List.length_range
def F7:=@Nat.add_assoc
def F8:=@List.drop_eq_nil_of_le
def F9:=@List.getElem?_drop
def G0:=@Bool.false_or
def G1:=@List.getElem?_take_of_lt
def G2:=@List.mem_flatMap
def G3:=@List.length_replicate
def G4:=@List.take_add_one
def G5:=@Array.getElem?_setIfInBounds_self_of_lt
def G6:=@not_or
def G7:=@List.length_eq_zero_iff
def G8:=@Array.getElem?_append_left
def G9:=@List.mem_append_left
def H0:=@List.filter_eq_nil_iff
def H1:=@List.set_set
def H2:=@or_false
def H3:=@List.getElem_of_mem
def H4:=@List.nodup_append
def H5:=@List.filter_append
def H6:=@Int.eq_ofNat_of_zero_le
def H7:=@List.getElem?_of_mem
def H8:=@List.getElem?_replicate
def H9:=@Nat.mul_one
def I3:=@List.findIdx?_eq_some_iff_getElem
def I4:=@List.size_toArray
def I5:=@if_false
def I6:=@of_decide_eq_true
def I7:=@List.drop_succ_cons
def I8:=@Nat.zero_le
def I9:=@Array.getElem?_setIfInBounds_ne
def J3:=@Array.getElem?_modify
def J5:=@List.mem_append_right
def J6:=@List.set_getElem_self
def J7:=@List.length_take
def J8:=@List.eq_of_mem_replicate
def J9:=@List.drop_append_of_le_length
def K0:=@List.take_append_of_le_length
def K1:=@List.take_left'
def K2:=@Bool.false_and
def K3:=@Array.getElem?_toList
def K4:=@List.getElem?_toArray
def K5:=@Classical.byContradiction
def K6:=@List.drop_left'
def K7:=@Array.size_append
def K8:=@Bool.or_eq_false_iff
def K9:=@Bool.or_true
def L6:=@List.map_map
def L7:=@List.mem_cons_of_mem
def L8:=@List.mem_range'_1
def L9:=@Nat.lt_trichotomy
def M3:=@Nat.sub_self
def M5:=@Array.ext'
def M6:=@List.replicate_append_replicate
def M7:=@List.length_pos_iff
def M8:=@beq_eq_false_iff_ne
def M9:=@List.ext_getElem
def N0:=@Option.bind_eq_some_iff
def N1:=@List.mem_cons_self
def N2:=@List.take_of_length_le
def N3:=@Nat.add_sub_cancel
def N4:=@List.range_succ
def N5:=@List.contains_iff_mem
def N6:=@if_true
def N7:=@List.pairwise_append
def N8:=@List.set_append_left
def N9:=@Nat.pow_le_pow_right
def O3:=@Nat.testBit_or
def O4:=@beq_iff_eq
def O5:=@Bool.or_false
def O6:=@List.getElem_append_left
def O7:=@Option.isSome_iff_exists
def O8:=@List.findIdx?_cons
def O9:=@List.getElem_range
def P0:=@decide_eq_false_iff_not
def P1:=@ge_iff_le
def P2:=@List.set_eq_take_append_cons_drop
def P3:=@Array.getElem?_eq_none
def P4:=@Bool.not_false
def P5:=@List.filter_congr
def P6:=@List.getElem?_inj
def P7:=@List.take_succ_eq_append_getElem
def P8:=@Nat.testBit_lt_two_pow
def P9:=@Nat.zero_mul
def Q1:=@not_false_eq_true
def Q2:=@List.eraseIdx_eq_take_drop_succ
def Q3:=@Array.getElem?_mapIdx
def Q4:=@Array.eq_empty_of_size_eq_zero
def Q5:=@Array.toList_map
def Q6:=@List.nodup_range
def Q7:=@Nat.lt_succ_self
def Q8:=@Nat.zero_testBit
def Q9:=@Bool.true_and
def R0:=@List.length_eraseIdx
def R2:=@List.any_append
def R4:=@Nat.not_lt_zero
def R5:=@Nat.two_pow_pos
def R6:=@Array.toList_modify
def R7:=@Int.toNat_of_nonneg
def R8:=@List.filter_eq_self
def R9:=@List.map_congr_left
def T0:=@Nat.testBit_two_pow
def T8:=@Nat.testBit_two_pow_mul_add
def T9:=@Array.getElem?_eq_some_iff
def U0:=@Bool.not_eq_false'
def U1:=@Int.tmod_eq_emod_of_nonneg
def U2:=@List.drop_drop
def U3:=@List.perm_ext_iff_of_nodup
def U4:=@Nat.eq_zero_or_pos
def U5:=@of_decide_eq_false
def U6:=@List.findIdx?_eq_none_iff
def U7:=@List.getElem?_eq_none_iff
def U8:=@List.getElem_append_right
def U9:=@List.mem_drop_iff_getElem
def V1:=@List.mem_or_eq_of_mem_set
def V2:=@List.pairwise_iff_getElem
def V3:=@List.Pairwise.map
def V4:=@List.drop_sublist
def V5:=@List.getElem?_set
def V6:=@List.pairwise_map
def V7:=@decide_true
def V8:=@Array.getElem?_replicate
def V9:=@List.Perm.eq_of_pairwise
def W3:=@Array.all_toList
def W4:=@List.flatMap_eq_nil_iff
def W5:=@List.getElem_map
def W6:=@List.isEmpty_iff
def W7:=@List.length_drop
def W8:=@List.mem_nil_iff
def W9:=@List.pairwise_lt_range'
def X0:=@List.pairwise_mergeSort
def X1:=@List.range'_succ
def X2:=@List.take_append
def X3:=@and_self
def X4:=@forall_eq_or_imp
def X5:=@List.find?_cons_of_neg
def X6:=@List.findIdx_lt_length
def X7:=@List.length_pos_of_mem
def X8:=@List.pairwise_lt_range
def X9:=@Nat.mod_lt
def Y0:=@Nat.testBit_and
def Y1:=@List.Pairwise.sublist
def Y2:=@Array.mem_toList_iff
def Y3:=@BitVec.getLsbD_ofNat
def Y4:=@List.findIdx?_append
def Y5:=@List.getLast?_append
def Y6:=@List.mem_of_mem_take
def Y7:=@List.nodup_nil
def Y8:=@Nat.eq_of_testBit_eq
def Y9:=@Nat.pow_lt_pow_right
def Z0:=@Array.toList_append
def Z1:=@Array.toList_filter
def Z2:=@List.getElem_append
def Z3:=@List.mergeSort_perm
def Z4:=@Nat.mul_le_mul_left
def Z5:=@Bool.and_true
def Z6:=@ByteArray.ext
def Z7:=@List.cons.inj
def Z8:=@bne_iff_ne
def Z9:=@decide_false
def AA:=@Int.le_refl
def AB:=@or_assoc
def AD:=@true_and
abbrev Ta_:Type:=List Int
abbrev Tb_:Type:=List (Int×Int)
abbrev Tc_:Type:=List Nat
abbrev Td_:Type:=List (Nat×Int×Int)
abbrev Te_:Type:=Nat->List Nat
abbrev Tf_:Type:=List (Nat×(Int×Int)×Int)
abbrev Tg_:Type:=Nat->Int
abbrev Th_:Type:=Nat->Nat
abbrev Ti_:Type:=Nat->Nat->Bool
abbrev Tj_:Type:=Nat->Bool
abbrev Tk_:Type:=List (Option Nat)
abbrev Tl_:Type:=List (Nat×List Nat×List Nat)
abbrev Tm_:Type:=Nat->Prop
inductive Tag where
 |nil
 |full
 |no
 deriving DecidableEq
inductive IV where
 |bool (b:Bool)
 |int (k:IntKind) (n:Int)
 |str (s:List UInt8)
 |sl (t:Tag) (es:List (List IV))
 |agg (cs:List IV)
 |cp (cs:List IV)
 |nilp
 |nilm
 |nilf
 |nili
inductive TV where
 |iv (v:IV)
 |lp (j off:Nat)
 |ptr (i ver off:Nat)
 |msl (i ver off len cap es:Nat)
 |tsl (i:Nat) (es:List (List IV))
 |rsv (i:Nat) (es:List (List IV)) (n:Nat)
 |map (i:Nat)
 |it (i:Nat)
 |fn (f:Nat) (fst cap:List TV)
 |yld (i:Nat)
 |lb (cs:List TV)
 |agg (cs:List TV)
 |tup (vs:List TV)
 |hole
abbrev Tn_:Type:=List TV
abbrev To_:Type:=List (Nat×TV)
abbrev Tp_:Type:=List (List IV)
abbrev Tq_:Type:=List IV
abbrev Tr_:Type:=List (Nat×IV×TV)
def undef:TV:=.tup []
inductive aH where
 |reg (i:Nat)
 |loc (j:Nat)
 |cst (v:IV)
 |fn (f:Nat)
 |glob (g:Nat)
inductive CK where
 |toInt (k:IntKind)
 |intStr
 |strStr
 |strBytes
 |bytesStr
inductive SK where
 |str
 |sl (es:Nat)
 |arr (n es:Nat)
inductive EK where
 |bool
 |ptr
 |sl
 |mp
 |fn
inductive NK where
 |str
 |sl
 |mp
 deriving DecidableEq
inductive LK where
 |bool
 |int
 |str
inductive KK where
 |leaf (k:LK)
 |agg (cK:List (Nat×LK))
inductive TOp where
 |mov (x:aH)
 |pick (c a b:aH)
 |allocL (j:Nat) (z:List IV)
 |allocH (tag:Nat) (z:List IV)
 |boxL (j:Nat) (x:aH)
 |boxH (tag:Nat) (x:aH)
 |build (z:List IV) (ps:List (Nat×Nat×aH))
 |lit (mu:Bool) (z:List IV) (len:Nat) (ps:List (Nat×aH))
 |load1 (a:aH)
 |loadN (n:Nat) (a:aH)
 |store (n:Nat) (a v:aH)
 |nilCheck (x:aH)
 |bin (op:BinOp) (x y:aH)
 |eqB (neg:Bool) (k:EK) (x y:aH)
 |eqAgg (neg:Bool) (cK:List (Nat×LK)) (x y:aH)
 |un (op:UnOp) (x:aH)
 |conv (k:CK) (x:aH)
 |mkFn (f:Nat) (fst cap:List aH)
 |mkMap
 |mkSlice (z:List IV) (bytes:Nat) (l c:aH)
 |slice (k:SK) (x:aH) (lo hi mx:Option aH)
 |fieldAddr (off:Nat) (x:aH)
 |field (off n:Nat) (ag:Bool) (x:aH)
 |indexAddrS (es:Nat) (x i:aH)
 |indexAddrA (len es:Nat) (x i:aH)
 |indexA (len es:Nat) (ag:Bool) (x i:aH)
 |indexS (x i:aH)
 |lookup (kk:KK) (z:IV) (ok:Bool) (m k:aH)
 |update (kk:KK) (m k v:aH)
 |entry (kk:KK) (z:IV) (m k:aH)
 |entryStore (m s v:aH)
 |range (str:Bool) (x:aH)
 |nextS (i:aH)
 |nextM (i:aH)
 |entryM (i:aH)
 |extract (i:Nat) (x:aH)
 |append (mu:Bool) (es bytes el:Nat) (s x:aH)
 |copy (es:Nat) (d s:aH)
 |grow (es bytes el:Nat) (s n:aH)
 |clear (z:List IV) (x:aH)
 |len (k:NK) (x:aH)
 |cap (x:aH)
 |lenC (n:Nat)
 |delete (kk:KK) (m k:aH)
 |minmax (mx:Bool) (xs:List aH)
 |call (pure trunc:Bool) (f:Nat) (args:List aH)
 |callv (f:aH) (args:List aH)
 |prim (f:Nat) (args:List aH)
 |bad
structure aK where
 op:TOp
 loc:Option Nat
 guard:Option (Nat×Bool)
inductive aV where
 |normal
 |exit (id:Nat)
 |ret
inductive aL where
 |skip
 |region (ops:List aK)
 |draw (f0:List Nat) (ph:List (Nat×List Nat×List Nat)) (ops:List aK)
 |seq (a b:aL)
 |cond (c:aH) (a b:aL)
 |block (id:Nat) (b:aL)
 |loop (b:aL)
 |rangeFunc (f:aH) (ps:List Nat) (assign body:aL)
 |exit (id:Nat)
 |ret
 |bad
inductive mW where
 |loc (j:Nat)
 |cell (j n:Nat) (ag:Bool)
structure aS where
 nparams:Nat
 nlocs:Nat
 results:List mW
 body:aL
inductive aG where
 |cells (ver:Nat) (loose:Bool) (cs:List TV)
 |frz (ver:Nat) (cs:List IV)
 |tok (n es el:Nat)
 |mp (es:List (Nat×IV×TV)) (clock:Nat)
 |sit (s:List UInt8) (pos:Nat)
 |mit (m:Option Nat) (since:Nat) (seen:List Nat) (last:Nat)
 |lp (st:LoopState) (pend:Option aV) (env:List TV) (ps:List Nat) (assign body:aL)
inductive Out (α:Type) where
 |ret (a:α)
 |fail (why:String)
 |pick (n:Nat) (k:Nat->Out α)
def Out.bind{α β:Type}:Out α->(α->Out β)->Out β
 |.ret a,f=>f a
 |.fail s,_=>.fail s
 |.pick n k,f=>.pick n fun i=>(k i).bind f
def Out.ofOpt{α:Type}(why:String):Option α->Out α
 |some a=>.ret a
 |none=>.fail why
abbrev aA:=List aG
abbrev Env:=List TV
def mH:List TV->Option (List IV)
 |[]=>some []
 |.iv v::r=>(mH r).map (v::·)
 |_::_=>none
def cellsOf:TV->List TV
 |.iv (.agg cs)=>cs.map .iv
 |.agg cs=>cs
 |v=>[v]
def iG:TV->Option (List TV)
 |.iv (.agg cs)=>some (cs.map .iv)
 |.agg cs=>some cs
 |_=>none
def rY(cs:List TV):TV :=
 match mH cs with
 |some l=>.iv (.agg l)
 |none=>.agg cs
def gJ(ag:Bool)(cs:List TV):Option TV :=
 if ag then some (rY cs)else match cs with
  |[c]=>some c
  |_=>none
def oV:TV->Option IV
 |.iv v=>some v
 |.tsl _ es=>some (.sl .no es)
 |_=>none
def toIVs:List TV->Option (List IV)
 |[]=>some []
 |v::r=>match oV v,toIVs r with
  |some a,some l=>some (a::l)
  |_,_=>none
def lK:TV->Option IV
 |.agg cs=>(toIVs cs).map .agg
 |v=>oV v
def mX(v:TV):TV :=
 match lK v with
 |some a=>.iv a
 |none=>v
def sub{α:Type}(cs:List α)(off n:Nat):Option (List α) :=
 if off+n<=cs.length then some ((cs.drop off).take n)else none
def put{α:Type}(cs:List α)(off:Nat)(vs:List α):List α :=
 cs.take off++vs++cs.drop (off+vs.length)
def cN{α:Type}(es:Nat):Nat->List α->List (List α)
 |0,_=>[]
 |n+1,cs=>cs.take es::cN es n (cs.drop es)
def gK(k:LK)(x y:IV):Option Bool :=
 match k,x,y with
 |.bool,.bool a,.bool b=>some (a==b)
 |.int,.int k a,.int k' b=>if k=k' then some (a==b)else none
 |.str,.str a,.str b=>some (a==b)
 |_,_,_=>none
def eV(a b:List IV):List (Nat×LK)->Option Bool
 |[]=>some true
 |o::os=>match a[o.1]?,b[o.1]? with
  |some x,some y=>match gK o.2 x y with
   |some true=>eV a b os
   |some false=>some false
   |none=>none
  |_,_=>none
def qG(kk:KK)(a b:IV):Option Bool :=
 match kk with
 |.leaf k=>gK k a b
 |.agg cK=>match a,b with
  |.agg x,.agg y=>eV x y cK
  |_,_=>none
def qH:IV->IV->Bool
 |.bool a,.bool b=>a==b
 |.int k a,.int k' b=>k==k'&&a==b
 |.str a,.str b=>a==b
 |_,_=>false
def kA:List IV->List IV->Bool
 |[],[]=>true
 |a::as,b::bs=>qH a b&&kA as bs
 |_,_=>false
def gZ:IV->IV->Bool
 |.agg a,.agg b=>kA a b
 |a,b=>qH a b
def gW(kk:KK)(a:IV):Bool :=
 match kk,a with
 |.agg cK,.agg cs=>cK.all fun o=>decide (o.1<cs.length)
 |.agg _,_=>false
 |.leaf _,_=>true
def findKey(kk:KK)(k:IV):List (Nat×IV×TV)->Nat->Option (Option (Nat×TV))
 |[],_=>some none
 |e::es,i=>match qG kk k e.2.1 with
  |some true=>some (some (i,e.2.2))
  |some false=>findKey kk k es (i+1)
  |none=>none
def rC(l:List UInt8):List (List IV):=l.map fun b=>[.int .u8 b.toNat]
def bE2:List IV->Option UInt8
 |[.int .u8 n]=>some (UInt8.ofNat n.toNat)
 |_=>none
def oW:List (List IV)->Option (List UInt8)
 |[]=>some []
 |c::r=>match bE2 c,oW r with
  |some b,some l=>some (b::l)
  |_,_=>none
def bE{α:Type}:List (List α)->List α
 |[]=>[]
 |a::r=>a++bE r
def eX:TV->Option Int
 |.iv (.int _ n)=>some n
 |_=>none
def zR:TV->Option Bool
 |.iv (.bool b)=>some b
 |_=>none
def jS(op:BinOp)(k:IntKind)(a b:Int):Option IV :=
 match op with
 |.add=>some (.int k (k.wrap (a+b)))
 |.sub=>some (.int k (k.wrap (a-b)))
 |.mul=>some (.int k (k.wrap (a*b)))
 |.quo=>if b=0 then none else some (.int k (k.wrap (a.tdiv b)))
 |.rem=>if b=0 then none else some (.int k (a.tmod b))
 |.and=>some (.int k (k.wrap (BitVec.ofInt k.bits a &&& BitVec.ofInt k.bits b).toNat))
 |.or=>some (.int k (k.wrap (BitVec.ofInt k.bits a ||| BitVec.ofInt k.bits b).toNat))
 |.xor=>some (.int k (k.wrap (BitVec.ofInt k.bits a ^^^ BitVec.ofInt k.bits b).toNat))
 |.andNot=>some (.int k (k.wrap (BitVec.ofInt k.bits a &&& ~~~ BitVec.ofInt k.bits b).toNat))
 |.eql=>some (.bool (a==b))
 |.neq=>some (.bool (a != b))
 |.lss=>some (.bool (a<b))
 |.leq=>some (.bool (a<=b))
 |.gtr=>some (.bool (a>b))
 |.geq=>some (.bool (a≥b))
 |_=>none
def xT(op:BinOp)(k:IntKind)(a b:Int):Option IV :=
 if b<0 then none else
 match op with
 |.shl=>some (.int k (k.wrap (a*2 ^ min b.toNat k.bits)))
 |.shr=>some (.int k (a.fdiv (2 ^ min b.toNat k.bits)))
 |_=>none
def aVn(op:BinOp)(x y:List UInt8):Option IV :=
 match op with
 |.add=>if x.length+y.length<=4611686018427387904 then some (.str (x++y))else none
 |.eql=>some (.bool (x==y))
 |.neq=>some (.bool (!(x==y)))
 |.lss=>some (.bool (Op.bytesLess x y))
 |.leq=>some (.bool (Op.bytesLess x y||x==y))
 |.gtr=>some (.bool (!(Op.bytesLess x y||x==y)))
 |.geq=>some (.bool (!(Op.bytesLess x y)))
 |_=>none
def aAz:TV->Bool
 |.ptr .. | .lp .. | .iv (.cp _)=>true
 |_=>false
def eqB(k:EK)(x y:TV):Option Bool :=
 match k with
 |.bool=>match x,y with
  |.iv (.bool a),.iv (.bool b)=>some (a==b)
  |_,_=>none
 |.ptr=>match x,y with
  |.iv .nilp,.iv .nilp=>some true
  |.iv .nilp,y=>if aAz y then some false else none
  |x,.iv .nilp=>if aAz x then some false else none
  |_,_=>none
 |.sl=>match x,y with
  |.iv (.sl .nil _),.iv (.sl t _)=>some (t==.nil)
  |.iv (.sl t _),.iv (.sl .nil _)=>some (t==.nil)
  |.iv (.sl .nil _),.msl ..=>some false
  |.msl ..,.iv (.sl .nil _)=>some false
  |.iv (.sl .nil _),.tsl ..=>some false
  |.tsl ..,.iv (.sl .nil _)=>some false
  |_,_=>none
 |.mp=>match x,y with
  |.iv .nilm,.iv .nilm=>some true
  |.iv .nilm,.map _=>some false
  |.map _,.iv .nilm=>some false
  |_,_=>none
 |.fn=>match x,y with
  |.iv .nilf,.iv .nilf=>some true
  |.iv .nilf,.fn ..=>some false
  |.fn ..,.iv .nilf=>some false
  |_,_=>none
def binOp(op:BinOp)(x y:TV):Option IV :=
 match x,y with
 |.iv (.int k a),.iv (.int k' b) =>
  match op with
  |.shl | .shr=>xT op k a b
  |_=>if k=k' then jS op k a b else none
 |.iv (.str a),.iv (.str b)=>aVn op a b
 |_,_=>none
def eqAgg(neg:Bool)(cK:List (Nat×LK))(x y:TV):Option IV :=
 match x,y with
 |.iv (.agg a),.iv (.agg b)=>(eV a b cK).map fun r=>.bool (if neg then !r else r)
 |_,_=>none
def unOp(op:UnOp)(x:TV):Option IV :=
 match op,x with
 |.neg,.iv (.int k n)=>jS .sub k 0 n
 |.xor,.iv (.int k n)=>jS .xor k (if k.signed then -1 else k.max) n
 |.not,.iv (.bool b)=>some (.bool !b)
 |_,_=>none
def dB(k:CK)(x:TV):Option IV :=
 match k,x with
 |.toInt k,.iv (.int _ n)=>some (.int k (k.wrap n))
 |.intStr,.iv (.int _ n)=>some (.str (Utf8.encode n).data.toList)
 |.strStr,.iv (.str s)=>some (.str s)
 |.strBytes,.iv (.str s)=>if s.length<=70368744177664 then some (.sl .no (rC s))else none
 |_,_=>none
def min2(mx:Bool):IV->IV->Option IV
 |.int k a,.int k' b=>if k=k' then some (.int k (if mx then(if b>a then b else a)else(if b<a then b else a)))else none
 |_,_=>none
def minmax(mx:Bool):IV->List TV->Option IV
 |a,[]=>some a
 |a,.iv b::r=>match min2 mx a b with
  |some c=>minmax mx c r
  |none=>none
 |_,_::_=>none
def bQ(env:Env)(S:aA)(a:TV)(n:Nat):Option (List TV) :=
 match a with
 |.lp j off=>match env[j]? with
  |some (.lb cs)=>sub cs off n
  |_=>none
 |.ptr i v off=>match S[i]? with
  |some (.cells v' _ cs)=>if v'=v then sub cs off n else none
  |some (.frz v' cs)=>if v'=v then(sub cs off n).map (·.map .iv)else none
  |_=>none
 |.iv (.cp cs)=>(sub cs 0 n).map (·.map .iv)
 |_=>none
def bH:TV->Bool
 |.lp .. | .lb _ | .tup _ | .hole | .agg _ | .iv (.agg _)=>true
 |_=>false
def setCells(env:Env)(S:aA)(a:TV)(vs:List TV):Option (Env×aA) :=
 if vs.any bH then none else
 match a with
 |.lp j off=>match env[j]? with
  |some (.lb cs)=>if off+vs.length<=cs.length then some (env.set j (.lb (put cs off vs)),S)else none
  |_=>none
 |.ptr i v off=>match S[i]? with
  |some (.cells v' l cs)=>if v'=v/\off+vs.length<=cs.length then some (env,S.set i (.cells v' l (put cs off vs)))else none
  |_=>none
 |_=>none
def cH(S:aA):TV->Option (List (List IV))
 |.iv (.sl _ l)=>some l
 |.tsl _ l=>some l
 |.msl i v off len _ es=>match S[i]? with
  |some (.cells v' _ cs)=>if v'≠v then none else match sub cs off (len*es)with
   |some l=>(toIVs l).map (cN es len)
   |none=>none
  |some (.frz v' cs)=>if v'≠v then none else(sub cs off (len*es)).map (cN es len)
  |_=>none
 |_=>none
def dS(S:aA)(v:TV):Option (List TV) :=
 match v with
 |.iv (.sl _ l)=>some ((bE l).map .iv)
 |.tsl _ l=>some ((bE l).map .iv)
 |.iv (.str s)=>some (s.map fun b=>.iv (.int .u8 b.toNat))
 |.msl i v off len _ es=>match S[i]? with
  |some (.cells v' _ cs)=>if v'=v then sub cs off (len*es)else none
  |some (.frz v' cs)=>if v'=v then(sub cs off (len*es)).map (·.map .iv)else none
  |_=>none
 |_=>none
def lenOf(S:aA):TV->Option Nat
 |.iv (.str s)=>some s.length
 |.iv (.sl _ l)=>some l.length
 |.tsl _ l=>some l.length
 |.msl _ _ _ n _ _=>some n
 |.iv .nilm=>some 0
 |.map i=>match S[i]? with
  |some (.mp es _)=>some es.length
  |_=>none
 |_=>none
def zS:TV->NK
 |.iv (.str _)=>.str
 |.iv .nilm=>.mp
 |.map _=>.mp
 |_=>.sl
def aA0:TV->Option Nat
 |.iv (.sl .nil _)=>some 0
 |.iv (.sl .full l)=>some l.length
 |_=>none
def iX(a:TV)(n:Nat):Option TV :=
 match a with
 |.lp j off=>some (.lp j (off+n))
 |.ptr i v off=>some (.ptr i v (off+n))
 |.iv (.cp cs)=>if n<=cs.length then some (.iv (.cp (cs.drop n)))else none
 |_=>none
def indexAddrS(es:Nat)(x:TV)(i:Int):Option TV :=
 if i<0 then none else
 match x with
 |.iv (.sl _ l)=>match l[i.toNat]? with
  |some c=>if c.length=es then some (.iv (.cp c))else none
  |none=>none
 |.tsl _ l=>match l[i.toNat]? with
  |some c=>if c.length=es then some (.iv (.cp c))else none
  |none=>none
 |.msl b v off len _ e=>if i<len/\e=es then some (.ptr b v (off+i.toNat*es))else none
 |_=>none
def oR{α:Type}(es:Nat):List (List α)->Bool
 |[]=>true
 |c::_=>c.length==es
def qI(x:Option Int)(dflt y:Nat):Option Nat :=
 match x with
 |none=>some dflt
 |some i=>if 0<=i/\i<=y then some i.toNat else none
def fO(len cap:Nat)(lo hi mx:Option Int):Option (Nat×Nat×Nat) :=
 match mx,hi with
 |some _,none=>none
 |_,_ =>
  match qI mx cap cap with
  |none=>none
  |some m=>match qI hi len m with
   |none=>none
   |some h=>match qI lo 0 h with
    |none=>none
    |some l=>some (l,h,m)
def uZ(t:Tag)(l:List (List IV))(lo hi mx:Option Int):Option IV :=
 match t with
 |.no =>
  match mx with
  |some _ =>
   match fO l.length l.length lo hi mx with
   |some (a,b,m)=>some (.sl (if m=b then .full else .no) ((l.drop a).take (b-a)))
   |none=>none
  |none =>
   match fO l.length l.length lo hi none with
   |some (a,b,_)=>some (.sl .no ((l.drop a).take (b-a)))
   |none=>none
 |.nil =>
  match fO 0 0 lo hi mx with
  |some _=>some (.sl .nil [])
  |none=>none
 |.full =>
  match fO l.length l.length lo hi mx with
  |some (a,b,m)=>some (.sl (if m=b then .full else .no) ((l.drop a).take (b-a)))
  |none=>none
def rZ(S:aA)(b v:Nat):Bool :=
 match S[b]? with
 |some (.cells v' _ _)=>v'==v
 |some (.frz v' _)=>v'==v
 |_=>false
def fA(S:aA)(k:SK)(x:TV)(lo hi mx:Option Int):Option TV :=
 match k,x with
 |.str,.iv (.str s) =>
  match mx with
  |some _=>none
  |none=>match fO s.length s.length lo hi none with
   |some (a,b,_)=>some (.iv (.str ((s.drop a).take (b-a))))
   |none=>none
 |.sl es,.iv (.sl t l)=>if oR es l then(uZ t l lo hi mx).map .iv else none
 |.sl _,.rsv i l _=>if lo=none/\mx=none/\hi=some (l.length:Int)then some (.tsl i l)else none
 |.sl es,.tsl _ l=>if oR es l then(uZ .no l lo hi mx).map .iv else none
 |.sl es,.msl b v off len cap e =>
  if e≠es\/rZ S b v=false then none else
  match fO len cap lo hi mx with
  |some (l,h,m)=>some (.msl b v (if m=l then off else off+l*es) (h-l) (m-l) es)
  |none=>none
 |.arr n e,a =>
  match a with
  |.ptr b v off=>match S[b]? with
   |some (.cells v' _ cs)=>if v'=v/\off+n*e<=cs.length then match fO n n lo hi mx with
     |some (l,h,m)=>some (.msl b v (if m=l then off else off+l*e) (h-l) (m-l) e)
     |none=>none
    else none
   |_=>none
  |.iv (.cp cs)=>if cs.length<n*e then none else match fO n n lo hi mx with
   |some (l,h,m)=>some (.iv (.sl (if m=h then .full else .no) (((cN e n cs).drop l).take (h-l))))
   |none=>none
  |_=>none
 |_,_=>none
def dY(n bytes:Nat):Bool:=n*bytes<=35184372088832&&bytes<=1048576&&n<=35184372088832
def aQu:TV->Bool
 |.iv (.sl _ _) | .msl .. | .tsl ..=>true
 |_=>false
def bA(mu:Bool)(es bytes el:Nat)(S:aA)(s:TV)(x:TV):Option (TV×aA) :=
 match dS S x,lenOf S x with
 |some xs,some m =>
  if xs.length≠m*es\/xs.any bH=true then none else
  if m=0 then(if aQu s then some (s,S)else none)else
  match s with
  |.iv (.sl t l) =>
   if t==.no||!(oR es l)then none else
   if !(dY (l.length+m) bytes)then none else
   if mu then
    some (.msl S.length 0 0 (l.length+m) (l.length+m) es,S++[.cells 0 true ((bE l).map .iv++xs)])
   else match toIVs xs with
    |some ys=>some (.tsl S.length (l++cN es m ys),S++[.tok (l.length+m) es el])
    |none=>if l=[]then some (.msl S.length 0 0 m m es,S++[.cells 0 true xs])else none
  |.tsl i l =>
   match S[i]?,toIVs xs with
   |some (.tok n e t),some ys =>
    if n=l.length&&e=es&&t=el&&oR es l&&dY (l.length+m) bytes then some (.tsl i (l++cN es m ys),S.set i (.tok (l.length+m) es el))else none
   |_,_=>none
  |.msl b v off len cap e =>
   match S[b]? with
   |some (.cells v' loose cs) =>
    if e≠es\/v'≠v then none else
    if len+m<=cap then
     if off+(len+m)*es<=cs.length then some (.msl b v off (len+m) cap es,S.set b (.cells v loose (put cs (off+len*es) xs)))else none
    else if !(dY (len+m) bytes)then none else
     match sub cs off (len*es)with
     |some old =>
      if loose then some (.msl b (v+1) 0 (len+m) (len+m) es,S.set b (.cells (v+1) true (old++xs)))
      else some (.msl S.length 0 0 (len+m) (len+m) es,S++[.cells 0 true (old++xs)])
     |none=>none
   |_=>none
  |_=>none
 |_,_=>none
def rF(es bytes el:Nat)(S:aA)(s:TV)(n:Int):Option (TV×aA) :=
 match s with
 |.iv (.sl t l) =>
  if t==.no||!(oR es l)||n<=0 then none else
  if dY (l.length+n.toNat) bytes then some (.rsv S.length l n.toNat,S++[.tok l.length es el])else none
 |_=>none
def lY(z:List IV)(S:aA)(x:TV):Option aA :=
 match x with
 |.iv (.sl _ [])=>some S
 |.msl b v off len _ e =>
  if len=0 then some S else
  match S[b]? with
  |some (.cells v' loose cs) =>
   if e=z.length/\v'=v/\off+len*e<=cs.length then some (S.set b (.cells v loose (put cs off (bE (List.replicate len (z.map .iv))))))else none
  |_=>none
 |_=>none
def aJ5(es:Nat)(S:aA)(d s:TV):Option (TV×aA) :=
 match d,dS S s,lenOf S s with
 |.msl b v off len _ e,some xs,some m =>
  if e≠es\/xs.length≠m*es then none else
  let n:=min m len
  if n=0 then some (.iv (.int .i64 0),S)else
  match S[b]? with
  |some (.cells v' loose cs) =>
   if v'=v/\off+n*es<=cs.length/\xs.any bH=false then some (.iv (.int .i64 n),S.set b (.cells v loose (put cs off (xs.take (n*es)))))else none
  |_=>none
 |.iv (.sl _ []),some xs,some m=>if xs.length=m*es then some (.iv (.int .i64 0),S)else none
 |.tsl _ [],some xs,some m=>if xs.length=m*es then some (.iv (.int .i64 0),S)else none
 |_,_,_=>none
def aDy(S:aA):TV->Option IV
 |.iv v=>some v
 |.tsl _ l=>some (.sl .no l)
 |.msl i v off len cap es=>match cH S (.msl i v off len cap es)with
  |some l=>some (.sl .no l)
  |none=>none
 |_=>none
def xU(S:aA):List TV->Option (List IV)
 |[]=>some []
 |v::r=>match aDy S v,xU S r with
  |some a,some l=>some (a::l)
  |_,_=>none
def wO(S:aA):TV->Option IV
 |.agg cs=>(xU S cs).map .agg
 |v=>aDy S v
def vQ(S:aA):List TV->Option (List TV)
 |[]=>some []
 |v::r=>match wO S v,vQ S r with
  |some a,some l=>some (.iv a::l)
  |_,_=>none
def resolve(S:aA):TV->Option TV
 |.tup vs=>(vQ S vs).map .tup
 |v=>(wO S v).map .iv
def kQ:TV->Bool
 |.iv _=>true
 |_=>false
def iY(S:aA):TV->Option TV
 |.fn f fst cap=>if fst.all kQ&&cap.all kQ then some (.fn f fst cap)else none
 |v=>(wO S v).map .iv
def cG(S:aA):List TV->Option (List TV)
 |[]=>some []
 |v::r=>match iY S v,cG S r with
  |some a,some l=>some (a::l)
  |_,_=>none
def mI:TV->Bool
 |.msl ..=>true
 |.agg cs=>cs.any fun | .msl ..=>true|_=>false
 |_=>false
def iA:IV->Bool
 |.bool _ | .int _ _ | .str _ | .nilp | .nilm | .nilf | .nili=>true
 |.agg cs=>cs.all fun | .bool _ | .int _ _ | .str _=>true|_=>false
 |_=>false
def eY:TV->Bool
 |.iv v=>iA v
 |.tup vs=>vs.all fun | .iv v=>iA v|_=>false
 |_=>false
mutual
def gL:IV->IV->Bool
 |.bool a,.bool b=>a==b
 |.int k a,.int k' b=>k==k'&&a==b
 |.str a,.str b=>a==b
 |.sl t a,.sl u b=>t==u&&kR a b
 |.agg a,.agg b=>lZ a b
 |.cp a,.cp b=>lZ a b
 |.nilp,.nilp=>true
 |.nilm,.nilm=>true
 |.nilf,.nilf=>true
 |.nili,.nili=>true
 |_,_=>false
def lZ:List IV->List IV->Bool
 |[],[]=>true
 |a::as,b::bs=>gL a b&&lZ as bs
 |_,_=>false
def kR:List (List IV)->List (List IV)->Bool
 |[],[]=>true
 |a::as,b::bs=>lZ a b&&kR as bs
 |_,_=>false
end
def aHe:TV->TV->Bool
 |.iv a,.iv b=>gL a b
 |.lp j o,.lp j' o'=>j==j'&&o==o'
 |.ptr j v o,.ptr j' v' o'=>j==j'&&v==v'&&o==o'
 |.msl a v b c d e,.msl a' v' b' c' d' e'=>a==a'&&v==v'&&b==b'&&c==c'&&d==d'&&e==e'
 |.tsl i a,.tsl j b=>i==j&&kR a b
 |.map i,.map j=>i==j
 |_,_=>false
def xV:List TV->List TV->Bool
 |[],[]=>true
 |a::as,b::bs=>aHe a b&&xV as bs
 |_,_=>false
def same:TV->TV->Bool
 |.fn f a b,.fn g c d=>f==g&&xV a c&&xV b d
 |.agg a,.agg b=>xV a b
 |.tup a,.tup b=>xV a b
 |a,b=>aHe a b
end Go.TM
namespace Go.TM
abbrev aF9:=List TV->aA->Option (TV×aA)
structure bD where
 funcs:Nat->Option aS
 glob:Nat->Option (List IV)
 prim:Nat->Option aF9
variable (K:bD)
def aX(env rs:List TV):aH->TV
 |.reg i=>rs.getD i .hole
 |.loc j=>match env.getD j .hole with
  |.lb _=>.lp j 0
  |v=>v
 |.cst v=>.iv v
 |.fn f=>.fn f [] []
 |.glob g=>match K.glob g with
  |some cs=>.iv (.cp cs)
  |none=>.hole
def nL(e:aH->TV)(x:Option aH):Option (Option Int) :=
 match x with
 |none=>some none
 |some x=>(eX (e x)).map some
def fill(cs:List TV)(e:aH->TV):List (Nat×Nat×aH)->Option (List TV)
 |[]=>some cs
 |(off,n,x)::r =>
  let vs:=cellsOf (mX (e x))
  if vs.length=n/\off+n<=cs.length/\vs.any bH=false then fill (put cs off vs) e r else none
def dX(es:List (List TV))(n:Nat)(e:aH->TV):List (Nat×aH)->Option (List (List TV))
 |[]=>some es
 |(i,x)::r =>
  let vs:=cellsOf (mX (e x))
  if vs.length=n/\i<es.length/\vs.any bH=false then dX (es.set i vs) n e r else none
def kB:List (List TV)->Option (List (List IV))
 |[]=>some []
 |c::r=>match mH c,kB r with
  |some a,some l=>some (a::l)
  |_,_=>none
def qJ(j:Nat):TV->Bool
 |.lp k _=>k==j
 |_=>false
def bY:TV->Bool
 |.lp .. | .lb _=>true
 |_=>false
def aU(o:TOp)(e:aH->TV):Option TV :=
 match o with
 |.mov x=>some (e x)
 |.pick c a b=>match zR (e c)with
  |some t=>some (if t then e a else e b)
  |none=>none
 |.build z ps=>(fill (z.map .iv) e ps).map rY
 |.lit false z len ps=>match dX (List.replicate len (z.map .iv)) z.length e ps with
  |some es=>(kB es).map fun l=>.iv (.sl .full l)
  |none=>none
 |.nilCheck x=>if aAz (e x)then some (e x)else none
 |.bin op x y=>(binOp op (e x) (e y)).map .iv
 |.eqB neg k x y=>(eqB k (e x) (e y)).map fun b=>.iv (.bool (if neg then !b else b))
 |.eqAgg neg cK x y=>(eqAgg neg cK (e x) (e y)).map .iv
 |.un op x=>(unOp op (e x)).map .iv
 |.conv k x=>(dB k (e x)).map .iv
 |.mkFn f fst cap=>if(fst.map e++cap.map e).any bY then none else some (.fn f (fst.map e) (cap.map e))
 |.fieldAddr off x=>iX (e x) off
 |.field off n ag x=>match iG (e x)with
  |some all=>match sub all off n with
   |some cs=>gJ ag cs
   |none=>none
  |none=>none
 |.indexAddrS es x k=>match eX (e k)with
  |some n=>indexAddrS es (e x) n
  |none=>none
 |.indexAddrA len es x k=>match eX (e k)with
  |some n=>if 0<=n/\n<len then iX (e x) (n.toNat*es)else none
  |none=>none
 |.indexA len es ag x k=>match eX (e k)with
  |some n=>if 0<=n/\n<len then match iG (e x)with
    |some all=>match sub all (n.toNat*es) es with
     |some cs=>gJ ag cs
     |none=>none
    |none=>none
   else none
  |none=>none
 |.indexS x k=>match e x,eX (e k)with
  |.iv (.str s),some n=>if 0<=n then(s[n.toNat]?).map fun b=>.iv (.int .u8 b.toNat)else none
  |_,_=>none
 |.extract n x=>match e x with
  |.tup vs=>vs[n]?
  |_=>none
 |.cap x=>(aA0 (e x)).map fun(n:Nat)=>.iv (.int .i64 n)
 |.lenC n=>some (.iv (.int .i64 n))
 |.minmax mx xs=>match xs.map e with
  |.iv a::r=>(minmax mx a r).map .iv
  |_=>none
 |_=>none
def rG(kk:KK)(S:aA)(m:TV)(k:IV):Option (Option (Nat×TV)) :=
 match m with
 |.iv .nilm=>some none
 |.map j=>match S[j]? with
  |some (.mp es _)=>findKey kk k es 0
  |_=>none
 |_=>none
def aO(o:TOp)(e:aH->TV)(env:Env)(S:aA):Option TV :=
 match o with
 |.load1 a=>match bQ env S (e a) 1 with
  |some cs=>gJ false cs
  |none=>none
 |.loadN n a=>match bQ env S (e a) n with
  |some cs=>gJ true cs
  |none=>none
 |.conv .bytesStr x=>match cH S (e x)with
  |some l=>(oW l).map fun b=>.iv (.str b)
  |none=>none
 |.slice k x lo hi mx=>match nL e lo,nL e hi,nL e mx with
  |some lo,some hi,some mx=>fA S k (e x) lo hi mx
  |_,_,_=>none
 |.lookup kk z ok m k=>match lK (e k)with
  |some k =>
   if !(gW kk k)then none else
   match rG kk S (e m) k with
   |some (some (_,x))=>some (if ok then .tup [x,.iv (.bool true)]else x)
   |some none=>some (if ok then .tup [.iv z,.iv (.bool false)]else .iv z)
   |none=>none
  |none=>none
 |.entryM x=>match e x with
  |.it j=>match S[j]? with
   |some (.mit (some m) _ seen last)=>match S[m]?,seen.getLast? with
    |some (.mp es clock),some stamp=>if clock≠last then none else match es.find? (·.1==stamp)with
     |some y=>some (.tup [.iv y.2.1,y.2.2])
     |none=>none
    |_,_=>none
   |_=>none
  |_=>none
 |.len k x=>if zS (e x)=k then(lenOf S (e x)).map fun(n:Nat)=>.iv (.int .i64 n)else none
 |_=>none
def bP(o:TOp)(e:aH->TV)(n:Nat):Option (TV×aG) :=
 match o with
 |.allocH t z=>some (.ptr n t 0,.cells t false (z.map .iv))
 |.boxH t x=>if(cellsOf (e x)).any bH then none else some (.ptr n t 0,.cells t false (cellsOf (e x)))
 |.lit _ z len ps=>match dX (List.replicate len (z.map .iv)) z.length e ps with
  |some es=>some (.msl n 0 0 es.length es.length z.length,.cells 0 false (bE es))
  |none=>none
 |.mkMap=>some (.map n,.mp [] 0)
 |.mkSlice z bytes l c=>match eX (e l),eX (e c)with
  |some l,some c =>
   if 0<=l/\l<=c/\dY c.toNat bytes=true then
    some (.msl n 0 0 l.toNat c.toNat z.length,.cells 0 false (bE (List.replicate c.toNat (z.map .iv))))
   else none
  |_,_=>none
 |_=>none
def gM(o:TOp)(e:aH->TV)(rs:List TV)(env:Env)(S:aA):Option (TV×Env×aA) :=
 match o with
 |.allocL j z=>if rs.any (qJ j)||!(decide (j<env.length))then none else some (.lp j 0,env.set j (.lb (z.map .iv)),S)
 |.boxL j x=>if(cellsOf (e x)).any bH||rs.any (qJ j)||!(decide (j<env.length))then none else some (.lp j 0,env.set j (.lb (cellsOf (e x))),S)
 |.store n a x =>
  let vs:=cellsOf (e x)
  if vs.length=n then match setCells env S (e a) vs with
   |some (env,S)=>some (undef,env,S)
   |none=>none
  else none
 |.update kk m k x=>match lK (e k),e m with
  |some k,.map j=>if !(gW kk k)then none else match S[j]? with
   |some (.mp es clock)=>if bY (e x)then none else match findKey kk k es 0 with
    |some (some (n,_))=>if !(((es[n]?).map fun y=>gZ y.2.1 k).getD false)then none else some (undef,env,S.set j (.mp (es.modify n fun y=>(y.1,k,e x)) clock))
    |some none=>some (undef,env,S.set j (.mp (es++[(clock,k,e x)]) (clock+1)))
    |none=>none
   |_=>none
  |_,_=>none
 |.entry kk z m k=>match lK (e k),e m with
  |some k,.map j=>if !(gW kk k)then none else match S[j]? with
   |some (.mp es clock)=>match findKey kk k es 0 with
    |some (some (n,x))=>if !(((es[n]?).map fun y=>gZ y.2.1 k).getD false)then none else some (.tup [x,.iv (.int .i64 (((es[n]?).map (·.1)).getD 0:Nat))],env,S.set j (.mp (es.modify n fun y=>(y.1,k,y.2.2)) clock))
    |some none=>some (.tup [.iv z,.iv (.int .i64 clock)],env,S.set j (.mp (es++[(clock,k,.iv z)]) (clock+1)))
    |none=>none
   |_=>none
  |_,_=>none
 |.entryStore m s x=>match e m,eX (e s)with
  |.map j,some born=>match S[j]? with
   |some (.mp es clock)=>if bY (e x)then none else match es.findIdx? (fun y=>(y.1:Int)==born)with
    |some n=>some (undef,env,S.set j (.mp (es.modify n fun y=>(y.1,y.2.1,e x)) clock))
    |none=>none
   |_=>none
  |_,_=>none
 |.range str x=>match str,e x with
  |true,.iv (.str s)=>some (.it S.length,env,S++[.sit s 0])
  |false,.iv .nilm=>some (.it S.length,env,S++[.mit none 0 [] 0])
  |false,.map j=>match S[j]? with
   |some (.mp _ clock)=>some (.it S.length,env,S++[.mit (some j) clock [] clock])
   |_=>none
  |_,_=>none
 |.nextS x=>match e x with
  |.it j=>match S[j]? with
   |some (.sit s pos) =>
    if pos<s.length then
     let (c,width):=Utf8.decode ⟨s.toArray⟩ pos
     some (.tup [.iv (.bool true),.iv (.int .i64 pos),.iv (.int .i32 c)],env,S.set j (.sit s (pos+width)))
    else some (.tup [.iv (.bool false)],env,S)
   |_=>none
  |_=>none
 |.append mu es bytes el s x=>match bA mu es bytes el S (e s) (e x)with
  |some (x,S)=>some (x,env,S)
  |none=>none
 |.copy es d s=>match aJ5 es S (e d) (e s)with
  |some (x,S)=>some (x,env,S)
  |none=>none
 |.grow es bytes el s n=>match eX (e n)with
  |some n=>match rF es bytes el S (e s) n with
   |some (x,S)=>some (x,env,S)
   |none=>none
  |none=>none
 |.clear z x=>match lY z S (e x)with
  |some S=>some (undef,env,S)
  |none=>none
 |.delete kk m k=>match lK (e k),e m with
  |some k,.iv .nilm=>if gW kk k then some (undef,env,S)else none
  |some k,.map j=>if !(gW kk k)then none else match S[j]? with
   |some (.mp es clock)=>match findKey kk k es 0 with
    |some (some (n,_))=>some (undef,env,S.set j (.mp (es.eraseIdx n) clock))
    |some none=>some (undef,env,S)
    |none=>none
   |_=>none
  |_,_=>none
 |_=>none
def iZ(o:TOp)(env rs:List TV)(S:aA):Option TV :=
 match aU o (aX K env rs)with
 |some v=>some v
 |none=>aO o (aX K env rs) env S
def jN(o:TOp)(env rs:List TV)(S:aA):Option (TV×Env×aA) :=
 match iZ K o env rs S with
 |some v=>some (v,env,S)
 |none=>match bP o (aX K env rs) S.length with
  |some (v,b)=>some (v,env,S++[b])
  |none=>gM o (aX K env rs) rs env S
def tB:TOp->String
 | .mov _ => "mov" | .pick .. => "pick" | .allocL .. => "allocL" | .allocH .. => "allocH" | .boxL .. => "boxL" | .boxH .. => "boxH" | .build .. => "build" | .lit .. => "lit"
 | .load1 _ => "load1" | .loadN .. => "loadN" | .store .. => "store" | .nilCheck _ => "nilCheck" | .bin .. => "bin" | .eqB .. => "eqB" | .eqAgg .. => "eqAgg" | .un .. => "un" | .conv .. => "conv"
 | .mkFn .. => "mkFn" | .mkMap => "mkMap" | .mkSlice .. => "mkSlice" | .slice .. => "slice" | .fieldAddr .. => "fieldAddr" | .field .. => "field" | .indexAddrS .. => "indexAddrS"
 | .indexAddrA .. => "indexAddrA" | .indexA .. => "indexA" | .indexS .. => "indexS" | .lookup .. => "lookup" | .update .. => "update" | .entry .. => "entry" | .entryStore .. => "entryStore"
 | .range .. => "range" | .nextS _ => "nextS" | .nextM _ => "nextM" | .entryM _ => "entryM" | .extract .. => "extract" | .append .. => "append" | .copy .. => "copy" | .grow .. => "grow"
 | .clear .. => "clear" | .len .. => "len" | .cap _ => "cap" | .lenC _ => "lenC" | .delete .. => "delete" | .minmax .. => "minmax" | .call .. => "call" | .callv .. => "callv" | .prim .. => "prim" | .bad => "bad"
structure Orc where
 call:Nat->List TV->aA->Out (TV×aA)
 yld:Nat->List TV->aA->Out (TV×aA)
 loop:aL->Env->aA->Out (aV×Env×aA)
def mA(S:aA)(i:Nat):Option aA :=
 match S[i]? with
 |some (.cells v _ cs)=>(toIVs cs).map fun l=>S.set i (.frz v l)
 |some (.frz ..)=>some S
 |_=>none
def bW(S:aA):List TV->Option aA
 |[]=>some S
 |.msl i _ _ _ _ _::r=>match mA S i with
  |some S=>bW S r
  |none=>none
 |.agg cs::r=>match freezeC S cs with
  |some S=>bW S r
  |none=>none
 |_::r=>bW S r
where
 freezeC (S:aA):List TV->Option aA
  |[]=>some S
  |.msl i _ _ _ _ _::r=>match mA S i with
   |some S=>freezeC S r
   |none=>none
  |_::r=>freezeC S r
def eZ(orc:Orc)(f:Nat)(args:List TV)(S:aA):Out (TV×aA) :=
 match cG S args with
 | none => .fail "pure call: an argument"
 |some as=>(orc.call f as []).bind fun r =>
  match resolve r.2 r.1 with
  | none => .fail "pure call: the result"
  |some v =>
   if args.any mI&&!(eY v)then
    match bW S args with
    |some S=>.ret (v,S)
    | none => .fail "pure call: freeze"
   else .ret (v,S)
def zT(v:TV)(S:aA):Option (TV×aA) :=
 match wO S v,bW S [v]with
 |some a,some S'=>some (.iv a,S')
 |_,_=>none
def jO(orc:Orc)(frz:Bool)(f:Nat)(args:List TV)(S:aA):Out (TV×aA) :=
 if args.any bY then .fail "call: a local's address" else
 (orc.call f args S).bind fun r =>
  if frz then match zT r.1 r.2 with
   |some q=>.ret q
   | none => .fail "call: freeze"
  else .ret r
def bV(orc:Orc)(o:TOp)(env rs:List TV)(S:aA):Out (TV×Env×aA) :=
 let e:=aX K env rs
 let w (x:Out (TV×aA)):Out (TV×Env×aA):=x.bind fun r=>.ret (r.1,env,r.2)
 match o with
 |.call pure trunc f args =>
  w (if pure then eZ orc f (args.map e) S else jO orc trunc f (args.map e) S)
 |.callv f args=>match e f with
  |.fn k fst cap=>w (if(fst++args.map e++cap).all kQ then eZ orc k (fst++args.map e++cap) S else jO orc false k (fst++args.map e++cap) S)
  | .yld i => if (args.map e).any bY then .fail "yield: a local's address" else w (orc.yld i (args.map e) S)
  | _ => .fail "callv"
 |.prim f args=>match K.prim f with
  | some p => if (args.map e).any bY then .fail "prim: a local's address" else w (Out.ofOpt "prim" (p (args.map e) S))
  | none => .fail "prim"
 |.nextM x=>match e x with
  |.it j=>match S[j]? with
   |some (.mit none _ _ _)=>.ret (.tup [.iv (.bool false)],env,S)
   |some (.mit (some m) since seen last)=>match S[m]? with
    |some (.mp es clock) =>
     if !seen.isEmpty && !es.isEmpty && es.all (fun y => decide (y.1 ≥ last)) then .fail "next" else
     let left:=es.filter fun y=>!seen.contains y.1
     let old:=left.filter (·.1<since)
     let new:=left.filter (·.1≥since)
     let cands:List (Option (Nat×IV×TV)):=(if old.isEmpty then [none]else [])++(old++new).map some
     .pick cands.length fun c=>match cands[c]? with
      |some (some y)=>.ret (.tup [.iv (.bool true),.iv y.2.1,y.2.2],env,S.set j (.mit (some m) since (seen++[y.1]) clock))
      |some none=>.ret (.tup [.iv (.bool false)],env,S)
      | none => .fail "next"
    | _ => .fail "next"
   | _ => .fail "next"
  | _ => .fail "next"
 |o=>Out.ofOpt (tB o) (jN K o env rs S)
def dT(g:Option (Nat×Bool))(rs:List TV):Option Bool :=
 match g with
 |none=>some true
 |some (i,want)=>match rs.getD i .hole with
  |.iv (.bool b)=>some (b==want)
  |.tup []=>some false
  |_=>none
def kC(orc:Orc)(o:aK)(i:Nat)(rs:List TV)(env:Env)(S:aA):Out (List TV×Env×aA) :=
 match dT o.guard rs with
 | none => .fail "guard"
 |some false=>.ret (rs.set i undef,env,S)
 |some true=>(bV K orc o.op env rs S).bind fun r=>.ret (rs.set i r.1,r.2.1,r.2.2)
def kU(orc:Orc):List aK->Nat->List TV->Env->aA->Out (List TV×Env×aA)
 |[],_,rs,env,S=>.ret (rs,env,S)
 |o::os,i,rs,env,S=>(kC K orc o i rs env S).bind fun r=>kU orc os (i+1) r.1 r.2.1 r.2.2
def fI:List aK->Nat->List TV->Env->Option Env
 |[],_,_,env=>some env
 |o::os,i,rs,env=>match o.loc with
  |none=>fI os (i+1) rs env
  |some j=>if bY (rs.getD i .hole)then none else fI os (i+1) rs (env.set j (rs.getD i .hole))
def dZ(ops:List aK):List Nat->List TV->Env->aA->Option (List TV×aA)
 |[],rs,_,S=>some (rs,S)
 |i::is,rs,env,S=>match ops[i]? with
  |none=>none
  |some o=>match dT o.guard rs with
   |none=>none
   |some false=>dZ ops is (rs.set i undef) env S
   |some true=>match iZ K o.op env rs S with
    |some v=>dZ ops is (rs.set i v) env S
    |none=>match bP o.op (aX K env rs) S.length with
     |some (v,b)=>dZ ops is (rs.set i v) env (S++[b])
     |none=>none
def nM(ops:List aK)(rs:List TV)(env:Env)(S:aA):List Nat->Bool
 |[]=>true
 |i::is=>(match ops[i]? with
  |some o=>match dT o.guard rs with
   |some true=>match iZ K o.op env rs S with
    |some v=>same v (rs.getD i .hole)
    |none=>false
   |some false=>true
   |none=>false
  |none=>false)&&nM ops rs env S is
def eA(orc:Orc)(ops:List aK):List (Nat×List Nat×List Nat)->List TV->Env->aA->Out (List TV×Env×aA)
 |[],rs,env,S=>.ret (rs,env,S)
 |(i,chk,fl)::ps,rs,env,S=>match ops[i]? with
  | none => .fail "draw"
  |some o=>(kC K orc o i rs env S).bind fun r =>
   if nM K ops r.1 r.2.1 r.2.2 chk then
    match dZ K ops fl r.1 r.2.1 r.2.2 with
    |some q=>eA orc ops ps q.1 r.2.1 q.2
    | none => .fail "draw: float"
   else .fail "draw: read anew"
def vS(n:Nat):List TV:=List.replicate n .hole
def noLb:TV->TV
 |.lb _=>.hole
 |v=>v
def eS(orc:Orc):aL->Env->aA->Out (aV×Env×aA)
 |.skip,env,S=>.ret (.normal,env,S)
 |.region ops,env,S=>(kU K orc ops 0 (vS ops.length) env S).bind fun r=>match fI ops 0 r.1 r.2.1 with
  |some env=>.ret (.normal,env,r.2.2)
  | none => .fail "local"
 |.draw f0 ph ops,env,S=>match dZ K ops f0 (vS ops.length) env S with
  | none => .fail "draw: float"
  |some q=>(eA K orc ops ph q.1 env q.2).bind fun r=>match fI ops 0 r.1 r.2.1 with
   |some env=>.ret (.normal,env,r.2.2)
   | none => .fail "local"
 |.seq a b,env,S=>(eS orc a env S).bind fun r=>match r.1 with
  |.normal=>eS orc b r.2.1 r.2.2
  |j=>.ret (j,r.2.1,r.2.2)
 |.cond c a b,env,S=>match zR (aX K env [] c)with
  |some true=>eS orc a env S
  |some false=>eS orc b env S
  | none => .fail "cond"
 |.block id b,env,S=>(eS orc b env S).bind fun r=>match r.1 with
  |.exit id'=>if id'=id then .ret (.normal,r.2.1,r.2.2)else .ret (.exit id',r.2.1,r.2.2)
  |j=>.ret (j,r.2.1,r.2.2)
 |.loop b,env,S=>orc.loop b env S
 |.rangeFunc f ps assign body,env,S=>match aX K env [] f with
  |.fn k fst cap =>
   (orc.call k (fst++.yld S.length::cap) (S++[.lp .ready none (env.map noLb) ps assign body])).bind fun r =>
    match r.2[S.length]? with
    | some (.lp .busy ..) => .fail "range: busy"
    |some (.lp _ pend env' ps assign body) =>
     .ret (pend.getD .normal,env,r.2.set S.length (.lp .exhausted pend env' ps assign body))
    | _ => .fail "range"
  | _ => .fail "range"
 |.exit id,env,S=>.ret (.exit id,env,S)
 |.ret,env,S=>.ret (.ret,env,S)
 | .bad, _, _ => .fail "bad"
def jT(env:Env)(S:aA):mW->Option TV
 |.loc j=>match env.getD j .hole with
  |.lb _=>none
  |.lp ..=>none
  |v=>some v
 |.cell j n ag=>match bQ env S (aX ⟨fun _=>none,fun _=>none,fun _=>none⟩ env [] (.loc j)) n with
  |some cs=>gJ ag cs
  |none=>none
def fJ(env:Env)(S:aA):List mW->Option (List TV)
 |[]=>some []
 |r::rs=>match jT env S r,fJ env S rs with
  |some v,some l=>some (v::l)
  |_,_=>none
def kV(rs:List mW)(env:Env)(S:aA):Option TV :=
 match fJ env S rs with
 |some [v]=>some v
 |some vs=>some (.tup vs)
 |none=>none
def eJ(orc:Orc)(f:Nat)(args:List TV)(S:aA):Out (TV×aA) :=
 match K.funcs f with
 | none => .fail "no function"
 |some fn =>
  if args.length ≠ fn.nparams then .fail "arguments" else
  (eS K orc fn.body (args++List.replicate (fn.nlocs-fn.nparams) undef) S).bind fun r =>
   match r.1 with
   | .exit _ => .fail "exit"
   |_=>match kV fn.results r.2.1 r.2.2 with
    |some v=>.ret (v,r.2.2)
    | none => .fail "results"
def rH(env:Env):List Nat->List TV->Option Env
 |[],[]=>some env
 |j::js,v::vs=>if bY v then none else rH (env.set j v) js vs
 |_,_=>none
def dU:aL->Bool
 |.seq a b=>dU a&&dU b
 |.cond _ a b=>dU a&&dU b
 |.block _ b=>dU b
 |.loop b=>dU b
 |.rangeFunc ..=>false
 |_=>true
def iB(orc:Orc)(i:Nat)(args:List TV)(S:aA):Out (TV×aA) :=
 match S[i]? with
 |some (.lp _ _ env ps assign body) =>
  match rH env ps args with
  | none => .fail "yield: arguments"
  |some env1 =>
   (eS K orc assign env1 S).bind fun r =>
    match r.1,r.2.2[i]? with
    |.normal,some (.lp .ready p2 e2 ps2 a2 b2) =>
     (eS K orc body r.2.1 (r.2.2.set i (.lp .busy p2 e2 ps2 a2 b2))).bind fun q =>
      match q.2.2[i]? with
      |some (.lp _ _ e3 ps3 a3 b3)=>match q.1 with
       |.normal=>.ret (.iv (.bool true),q.2.2.set i (.lp .ready none e3 ps3 a3 b3))
       |j=>.ret (.iv (.bool false),q.2.2.set i (.lp .done (some j) e3 ps3 a3 b3))
      | _ => .fail "yield: record"
    | _, _ => .fail "yield: state"
 | _ => .fail "yield"
def ex:Nat->Orc
 | 0 => ⟨fun _ _ _ => .fail "fuel", fun _ _ _ => .fail "fuel", fun _ _ _ => .fail "fuel"⟩
 |n+1 =>
  {call:=eJ K (ex n)
   yld:=iB K (ex n)
   loop:=fun b env S=>(eS K (ex n) b env S).bind fun r=>match r.1 with
    |.normal=>(ex n).loop b r.2.1 r.2.2
    |j=>.ret (j,r.2.1,r.2.2)}
end Go.TM
namespace Go.TM
structure bE3 where
 bef:List Nat
 f0:List Nat
 ph:List (Nat×List Nat×List Nat)
structure Ann where
 slots:List Nat
 lb:List Nat:=[]
 mu:List (Nat×Nat):=[]
 trunc:List (Nat×Nat):=[]
 draws:List (Nat×bE3):=[]
structure dE where
 st:Nat->Bool
 prim:Nat->Bool
def aHf:Value->Option IV
 |.bool b=>some (.bool b)
 |.int k n=>some (.int k n)
 |.string s=>some (.str s.data.toList)
 |.pointer none=>some .nilp
 |.slice none 0 0=>some (.sl .nil [])
 |.map none=>some .nilm
 |.nilFunc=>some .nilf
 |.nilIface=>some .nili
 |_=>none
def xW:List Value->Option (List IV)
 |[]=>some []
 |v::r=>match aHf v,xW r with
  |some a,some l=>some (a::l)
  |_,_=>none
def bMp:Value->Option IV
 |.agg cs=>(xW cs.toList).map .agg
 |v=>aHf v
def eT(P:Program)(t:TypeId):Option (List IV) :=
 match P.info? t with
 |some i=>match i.zero with
  |some z=>if z.cells.size=i.size then xW z.cells.toList else none
  |none=>none
 |none=>none
def aA1(P:Program)(t:TypeId):Option IV :=
 match P.info? t with
 |some i=>match i.zero with
  |some z=>bMp z
  |none=>none
 |none=>none
def sizeOf?(P:Program)(t:TypeId):Option Nat:=(P.info? t).map (·.size)
def bytesOf?(P:Program)(t:TypeId):Option Nat:=(P.info? t).map (·.bytes)
def isAgg?(P:Program)(t:TypeId):Option Bool :=
 match P.underlying t with
 |some (.struct _)|some (.array _ _)=>some true
 |some _=>some false
 |none=>none
def vT(P:Program)(t:TypeId):Option LK :=
 match P.underlying t with
 |some (.bool)=>some .bool
 |some (.int _)=>some .int
 |some (.string)=>some .str
 |_=>none
def wP(P:Program):List Field->Option (List (Nat×LK))
 |[]=>some []
 | f :: fs => if f.name ≠ "_" then match vT P f.type, wP P fs with
   |some k,some l=>some ((f.offset,k)::l)
   |_,_=>none
  else none
def mJ(P:Program)(t:TypeId):Option (List (Nat×LK)) :=
 match P.underlying t with
 |some (.struct fs)=>if P.stoodInHeld t then none else wP P fs.toList
 |some (.array n e)=>match vT P e with
  |some k=>if sizeOf? P e=some 1 then some ((List.range n).map fun i=>(i,k))else none
  |none=>none
 |_=>none
inductive QK where
 |plain
 |b (k:EK)
 |agg (cK:List (Nat×LK))
def rI(P:Program)(t:TypeId):Option QK :=
 match P.underlying t with
 |some (.int _)|some (.string)=>some .plain
 |some (.bool)=>some (.b .bool)
 |some (.pointer _)=>some (.b .ptr)
 |some (.slice _)=>some (.b .sl)
 |some (.map _ _)=>some (.b .mp)
 |some (.func _ _ _)=>some (.b .fn)
 |some (.struct _)|some (.array _ _)=>if P.eqGuardType P.depth t then none else(mJ P t).map .agg
 |_=>none
def iC(P:Program)(t:TypeId):Option KK :=
 match P.underlying t with
 |some (.int _)=>some (.leaf .int)
 |some (.string)=>some (.leaf .str)
 |some (.bool)=>some (.leaf .bool)
 |some (.array _ _)|some (.struct _)=>(mJ P t).map .agg
 |_=>none
section
variable (P:Program)(O:dE)(A:Ann)
def aA2(t:Nat):List (Option Nat)->Nat->Option Nat
 |[],_=>none
 |d::r,i=>if d=some t then some i else aA2 t r (i+1)
def eC(t:Nat):List Nat->Nat->Option Nat
 |[],_=>none
 |d::r,i=>if d=t then some i else eC t r (i+1)
def opd(dsts:List (Option Nat)):Operand->Option aH
 |.tmp t=>match aA2 t dsts 0 with
  |some i=>some (.reg i)
  |none=>(eC t A.slots 0).map .loc
 |.const v=>(bMp v).map .cst
 |.global g=>some (.glob g)
 |.func f=>some (.fn f)
def wQ(dsts:List (Option Nat)):List Operand->Option (List aH)
 |[]=>some []
 |x::r=>match opd A dsts x,wQ dsts r with
  |some a,some l=>some (a::l)
  |_,_=>none
def aJ6(dsts:List (Option Nat)):Option Operand->Option (Option aH)
 |none=>some none
 |some x=>(opd A dsts x).map some
def aHg(dsts:List (Option Nat))(fs:Array Field):List (Nat×Operand)->Option (List (Nat×Nat×aH))
 |[]=>some []
 |(i,x)::r=>match fs[i]?,opd A dsts x,aHg dsts fs r with
  |some f,some a,some l=>match sizeOf? P f.type with
   |some n=>some ((f.offset,n,a)::l)
   |none=>none
  |_,_,_=>none
def zU(dsts:List (Option Nat))(n:Nat):List (Nat×Operand)->Option (List (Nat×Nat×aH))
 |[]=>some []
 |(i,x)::r=>match opd A dsts x,zU dsts n r with
  |some a,some l=>some ((i*n,n,a)::l)
  |_,_=>none
def zV(dsts:List (Option Nat)):List (Nat×Operand)->Option (List (Nat×aH))
 |[]=>some []
 |(i,x)::r=>match opd A dsts x,zV dsts r with
  |some a,some l=>some ((i,a)::l)
  |_,_=>none
def aJ7(fs:Array Field):Option (List (Nat×Nat)):=fs.toList.mapM fun f=>(P.info? f.type).map fun i=>(f.offset,i.size)
def fV(mu:Bool)(dsts:List (Option Nat))(b:Builtin)(ts:List TypeId)(args:List Operand):Option TOp :=
 match b,ts,args with
 |.append,t::u::_,[s,x]=>match P.underlying t,P.underlying u with
  |some (.slice e),some (.int _)=>match eT P e,bytesOf? P e,opd A dsts s,opd A dsts x with
   |some n,some b,some s,some x=>if n.length=0\/b=0 then none else some (.grow n.length b e s x)
   |_,_,_,_=>none
  |some (.slice e),some (.slice _)|some (.slice e),some .string=>match eT P e,bytesOf? P e,opd A dsts s,opd A dsts x with
   |some n,some b,some s,some x=>if n.length=0\/b=0 then none else some (.append mu n.length b e s x)
   |_,_,_,_=>none
  |_,_=>none
 |.copy,t::_,[d,s]=>match P.underlying t with
  |some (.slice e)=>match sizeOf? P e,opd A dsts d,opd A dsts s with
   |some n,some d,some s=>if n=0 then none else some (.copy n d s)
   |_,_,_=>none
  |_=>none
 |.clear,t::_,[x]=>match P.underlying t with
  |some (.slice e)=>match eT P e,opd A dsts x with
   |some z,some x=>if z.length=0 then none else some (.clear z x)
   |_,_=>none
  |_=>none
 |.cap,t::_,[x]=>match P.underlying t with
  |some (.slice _)=>(opd A dsts x).map .cap
  |_=>none
 |.len,t::_,[x]=>match P.underlying t with
  |some .string=>(opd A dsts x).map (.len .str)
  |some (.slice _)=>(opd A dsts x).map (.len .sl)
  |some (.map _ _)=>(opd A dsts x).map (.len .mp)
  |some (.array n _)=>some (.lenC n)
  |some (.pointer a)=>match P.underlying a with
   |some (.array n _)=>some (.lenC n)
   |_=>none
  |_=>none
 |.delete,t::_,[m,k]=>match P.underlying t with
  |some (.map kt _)=>match iC P kt,opd A dsts m,opd A dsts k with
   |some kk,some m,some k=>some (.delete kk m k)
   |_,_,_=>none
  |_=>none
 |.min,_,xs=>(wQ A dsts xs).map (.minmax false)
 |.max,_,xs=>(wQ A dsts xs).map (.minmax true)
 |_,_,_=>none
def aQv(mu trunc:Bool)(dsts:List (Option Nat))(c:Call):Option TOp :=
 match c.callee with
 |.builtin b=>fV P A mu dsts b c.argTypes.toList c.args.toList
 |.value (.func f)=>match wQ A dsts c.args.toList with
  |some args =>
   if O.prim f then some (.prim f args)
   else match P.funcs[f]? with
    | some fn => if fn.body.isSome && fn.name != "runtime.NumGoroutine" then some (.call (!(O.st f)) trunc f args) else none
    |none=>none
  |none=>none
 |.value x=>match opd A dsts x,wQ A dsts c.args.toList with
  |some x,some args=>some (.callv x args)
  |_,_=>none
 |.invoke _ _=>none
def wR(mu trunc isLb:Bool)(dsts:List (Option Nat))(o:Oper):Option TOp :=
 let e:=opd A dsts
 let slot:=o.dst.bind fun t=>eC t A.slots 0
 match o.op with
 |.move x | .assign x=>(e x).map .mov
 |.pick c a b=>match e c,e a,e b with
  |some c,some a,some b=>some (.pick c a b)
  |_,_,_=>none
 |.alloc t=>match eT P t with
  |some z=>if isLb then slot.map fun j=>.allocL j z else some (.allocH (t+1) z)
  |none=>none
 |.box t x=>match e x with
  |some x=>if isLb then slot.map fun j=>.boxL j x else some (.boxH (t+1) x)
  |none=>none
 |.build t ps=>match eT P t,P.underlying t with
  |some z,some (.struct fs)=>if(aJ7 P fs).isSome then(aHg P A dsts fs ps.toList).map (.build z)else none
  |some z,some (.array _ el)=>match sizeOf? P el with
   |some n=>(zU A dsts n ps.toList).map (.build z)
   |none=>none
  |_,_=>none
 |.buildSlice t len ps=>match P.underlying t with
  |some (.slice el)=>match eT P el,zV A dsts ps.toList with
   |some z,some ps=>if z.length=0\/len*z.length>16777216 then none else some (.lit mu z len ps)
   |_,_=>none
  |_=>none
 |.load t a=>match isAgg? P t,sizeOf? P t,e a with
  |some true,some n,some a=>some (.loadN n a)
  |some false,some _,some a=>some (.load1 a)
  |_,_,_=>none
 |.store t a v=>match sizeOf? P t,e a,e v with
  |some n,some a,some v=>some (.store n a v)
  |_,_,_=>none
 |.nilCheck x=>(e x).map .nilCheck
 |.binOp op t x y _=>match e x,e y with
  |some a,some b=>match op with
   |.eql | .neq=>match rI P t with
    |some .plain=>some (.bin op a b)
    |some (.b k)=>some (.eqB (op==.neq) k a b)
    |some (.agg cK)=>some (.eqAgg (op==.neq) cK a b)
    |none=>none
   |_=>some (.bin op a b)
  |_,_=>none
 |.unOp op _ x=>(e x).map (.un op)
 |.convert s d x=>match P.underlying s,P.underlying d,e x with
  |some (.int _),some (.int k),some x=>some (.conv (.toInt k) x)
  |some (.int _),some .string,some x=>some (.conv .intStr x)
  |some .string,some .string,some x=>some (.conv .strStr x)
  |some .string,some (.slice t),some x=>match P.underlying t with
   |some (.int .u8)=>some (.conv .strBytes x)
   |_=>none
  |some (.slice t),some .string,some x=>match P.underlying t with
   |some (.int .u8)=>some (.conv .bytesStr x)
   |_=>none
  |_,_,_=>none
 |.makeFunc (.func f) first cap=>match wQ A dsts first.toList,wQ A dsts cap.toList with
  |some a,some b=>some (.mkFn f a b)
  |_,_=>none
 |.makeMap t r=>match P.underlying t,r with
  |some (.map _ _),none=>some .mkMap
  |_,_=>none
 |.makeSlice t l c=>match P.underlying t with
  |some (.slice el)=>match eT P el,bytesOf? P el,e l,e c with
   |some z,some b,some l,some c=>if z.length=0 then none else some (.mkSlice z b l c)
   |_,_,_,_=>none
  |_=>none
 |.slice t x lo hi mx=>match e x,aJ6 A dsts lo,aJ6 A dsts hi,aJ6 A dsts mx with
  |some x,some lo,some hi,some mx=>match P.underlying t with
   |some .string=>some (.slice .str x lo hi mx)
   |some (.slice el)=>match sizeOf? P el with
    |some n=>if n=0 then none else some (.slice (.sl n) x lo hi mx)
    |none=>none
   |some (.array n el)=>match sizeOf? P el with
    |some k=>if k=0 then none else some (.slice (.arr n k) x lo hi mx)
    |none=>none
   |some (.pointer a)=>match P.underlying a with
    |some (.array n el)=>match sizeOf? P el with
     |some k=>if k=0 then none else some (.slice (.arr n k) x lo hi mx)
     |none=>none
    |_=>none
   |_=>none
  |_,_,_,_=>none
 |.fieldAddr t x f=>match P.underlying t,e x with
  |some (.struct fs),some x=>match fs[f]? with
   |some fd=>match sizeOf? P fd.type with
    |some n=>if n=0 then none else some (.fieldAddr fd.offset x)
    |none=>none
   |none=>none
  |_,_=>none
 |.field t x f=>match P.underlying t,e x with
  |some (.struct fs),some x=>match fs[f]? with
   |some fd=>match sizeOf? P fd.type,isAgg? P fd.type with
    |some n,some ag=>some (.field fd.offset (if ag then n else 1) ag x)
    |_,_=>none
   |none=>none
  |_,_=>none
 |.indexAddr t x i=>match P.underlying t,e x,e i with
  |some (.slice el),some x,some i=>match sizeOf? P el with
   |some n=>if n=0 then none else some (.indexAddrS n x i)
   |none=>none
  |some (.array len el),some x,some i=>match sizeOf? P el with
   |some n=>if n=0 then none else some (.indexAddrA len n x i)
   |none=>none
  |_,_,_=>none
 |.index t x i=>match P.underlying t,e x,e i with
  |some .string,some x,some i=>some (.indexS x i)
  |some (.array len el),some x,some i=>match sizeOf? P el,isAgg? P el with
   |some n,some ag=>if n=0 then none else some (.indexA len n ag x i)
   |_,_=>none
  |_,_,_=>none
 |.lookup t m k ok=>match P.underlying t,e m,e k with
  |some (.map kt el),some m,some k=>match iC P kt,aA1 P el with
   |some kk,some z=>some (.lookup kk z ok m k)
   |_,_=>none
  |_,_,_=>none
 |.mapUpdate t m k v=>match P.underlying t,e m,e k,e v with
  |some (.map kt _),some m,some k,some v=>(iC P kt).map fun kk=>.update kk m k v
  |_,_,_,_=>none
 |.mapEntry t m k=>match P.underlying t,e m,e k with
  |some (.map kt el),some m,some k=>match iC P kt,aA1 P el with
   |some kk,some z=>some (.entry kk z m k)
   |_,_=>none
  |_,_,_=>none
 |.entryStore _ m s v=>match e m,e s,e v with
  |some m,some s,some v=>some (.entryStore m s v)
  |_,_,_=>none
 |.range t x=>match P.underlying t with
  |some .string=>(e x).map (.range true)
  |some (.map _ _)=>(e x).map (.range false)
  |_=>none
 |.next it isStr=>(e it).map fun x=>if isStr then .nextS x else .nextM x
 |.entry it=>(e it).map .entryM
 |.extract x i=>(e x).map (.extract i)
 |.call c=>aQv P O A mu trunc dsts c
 |_=>none
def dC(id:Nat)(draw:Bool):List Oper->Nat->List (Option Nat)->List aK
 |[],_,_=>[]
 |o::os,i,dsts =>
  let isLb:=!draw&&o.guard.isNone&&(match o.dst with
   |some t=>A.lb.contains t
   |none=>false)
  let op:=(wR P O A (A.mu.contains (id,i)) (A.trunc.contains (id,i)) isLb dsts o).getD .bad
  let loc:=if isLb then(match op with
   |.allocL .. | .boxL ..=>none
   |_=>o.dst.bind fun t=>eC t A.slots 0)else o.dst.bind fun t=>eC t A.slots 0
  {op,loc,guard:=o.guard}::dC id draw os (i+1) (dsts++[o.dst])
def aQ:TOp->List aH
 |.mov x | .boxL _ x | .boxH _ x | .load1 x | .loadN _ x | .nilCheck x | .un _ x | .conv _ x | .fieldAddr _ x | .field _ _ _ x | .range _ x | .nextS x | .nextM x | .entryM x | .extract _ x | .clear _ x | .len _ x | .cap x=>[x]
 |.pick a b c=>[a,b,c]
 |.build _ ps=>ps.map (·.2.2)
 |.lit _ _ _ ps=>ps.map (·.2)
 |.store _ a b | .bin _ a b | .eqB _ _ a b | .eqAgg _ _ a b | .mkSlice _ _ a b | .indexAddrS _ a b | .indexAddrA _ _ a b | .indexA _ _ _ a b | .indexS a b | .lookup _ _ _ a b | .entry _ _ a b | .append _ _ _ _ a b | .copy _ a b | .grow _ _ _ a b | .delete _ a b=>[a,b]
 |.update _ a b c | .entryStore a b c=>[a,b,c]
 |.mkFn _ a b=>a++b
 |.slice _ x a b c=>x::(a.toList++b.toList++c.toList)
 |.minmax _ xs | .call _ _ _ xs | .prim _ xs=>xs
 |.callv f xs=>f::xs
 |_=>[]
def xX:TOp->Bool
 |.load1 _ | .loadN .. | .lookup .. | .len .. | .slice .. | .conv .bytesStr _ | .entryM _=>true
 |_=>false
def tC:List Nat->Bool
 |[]=>true
 |a::r=>!(r.contains a)&&tC r
def zW(nt:Nat)(ops:List Oper):Bool:=tC (ops.filterMap (·.dst))&&(ops.filterMap (·.dst)).all fun t=>decide (t<nt)
def aHh(ops:List Oper):Nat->List Oper->Bool
 |_,[]=>true
 |i,o::os=>(match o.guard with
   |none=>true
   |some (g,_)=>decide (g<i)&&(match ops[g]? with|some o=>o.dst.isSome|none=>false))&&aHh ops (i+1) os
def aDz(bef:List Nat):Nat->List Oper->Bool
 |_,[]=>true
 |i,o::os=>o.after.toList.all (fun e=>!(Region.binds .any e)||decide (e.on<i)) &&
   (List.range i).all (fun j=>!((bef.getD i 0).testBit j)||o.after.toList.any fun e=>Region.binds .any e&&(e.on==j||(bef.getD e.on 0).testBit j)) &&
   decide (bef.getD i 0<2 ^ i)&&aDz bef (i+1) os
def bE4(bef:List Nat)(ws:List (Option Nat))(i:Nat):aH->Bool
 |.reg r=>(bef.getD i 0).testBit r
 |.loc j=>(List.range ws.length).all fun w=>!(ws.getD w none==some j)||(bef.getD w 0).testBit i
 |_=>true
def isL:TOp->Bool
 |.allocL .. | .boxL ..=>true
 |_=>false
def aMt(bef:List Nat)(ws:List (Option Nat))(ops:List Oper):Nat->List aK->Bool
 |_,[]=>true
 |i,o::os=>(aQ o.op).all (bE4 bef ws i)&&!(isL o.op)&&(match o.guard with
   |none=>true
   |some (g,_)=>(bef.getD i 0).testBit g&&(match ops[g]? with|some o=>o.dst.isSome|none=>false))&&aMt bef ws ops (i+1) os
def lL(bef:List Nat):List Nat->Nat->Option Nat
 |[],run=>some run
 |i::is,run=>if !(run.testBit i)&&(bef.getD i 0 &&& run==bef.getD i 0)then lL bef is (run ||| 2 ^ i)else none
def jA(bef:List Nat)(tops:List aK):List (Nat×List Nat×List Nat)->(last:Option Nat)->(run floats:Nat)->Option Nat
  |[],_,run,_=>some run
  |(e,chk,fl)::ps,last,run,floats =>
    if(match last with|some l=>(bef.getD e 0).testBit l|none=>true) &&
       (List.range tops.length).all (fun i=>!(floats.testBit i)||(bef.getD e 0).testBit i||chk.contains i||!(match tops[i]? with|some o=>xX o.op|none=>true)) &&
       fl.all (fun i=>(bef.getD i 0).testBit e)then
      match lL bef (e::fl) run with
      |some run'=>jA bef tops ps (some e) run' (floats ||| fl.foldl (fun m i=>m ||| 2 ^ i) 0)
      |none=>none
    else none
def aQw(c:bE3)(ops:List Oper)(tops:List aK):Bool :=
  aDz c.bef 0 ops&&aMt c.bef (ops.map fun o=>o.dst.bind fun t=>eC t A.slots 0) ops 0 tops &&
  (match lL c.bef c.f0 0 with
   |some run=>match jA c.bef tops c.ph none run run with
     |some all=>(List.range ops.length).all fun i=>all.testBit i
     |none=>false
   |none=>false)
def bE5(id:Nat):List (Nat×bE3)->Option bE3
 |[]=>none
 |c::r=>if c.1=id then some c.2 else bE5 id r
variable (nt:Nat)
def aD0(id:Nat)(ops:Array Oper)(draw:Bool):aL :=
 if !(zW nt ops.toList)then .bad else
 if !draw then(if aHh ops.toList 0 ops.toList then .region (dC P O A id false ops.toList 0 [])else .bad)
 else match bE5 id A.draws with
  |some c=>if aQw A c ops.toList (dC P O A id true ops.toList 0 [])then .draw c.f0 c.ph (dC P O A id true ops.toList 0 [])else .bad
  |none=>.bad
def rJ:List Nat->Option (List Nat)
 |[]=>some []
 |t::r=>match eC t A.slots 0,rJ r with
  |some j,some l=>some (j::l)
  |_,_=>none
def bC:Code->aL
 |.skip=>.skip
 |.region id ops draw=>aD0 P O A nt id ops draw
 |.seq a b=>.seq (bC a) (bC b)
 |.cond c a b=>match opd A [] c with
  |some c=>.cond c (bC a) (bC b)
  |none=>.bad
 |.block id b=>.block id (bC b)
 |.loop b=>.loop (bC b)
 |.rangeFunc f ps assign body=>match opd A [] f,rJ A ps.toList with
  |some f,some ps=>if dU (bC assign)&&dU (bC body)then .rangeFunc f ps (bC assign) (bC body)else .bad
  |_,_=>.bad
 |.exit id=>.exit id
 |.label _=>.skip
 |.ret=>.ret
 |_=>.bad
def aCk:ResultVar->Option mW
 |.tmp t=>(eC t A.slots 0).map .loc
 |.cell a t=>match eC a A.slots 0,sizeOf? P t,isAgg? P t with
  |some j,some n,some ag=>some (.cell j (if ag then n else 1) ag)
  |_,_,_=>none
def qK:List ResultVar->Option (List mW)
 |[]=>some []
 |r::rs=>match aCk P A r,qK rs with
  |some a,some l=>some (a::l)
  |_,_=>none
def tF(fn:Func):Option aS :=
 match fn.body,qK P A fn.results.toList with
 |some c,some rs =>
  if A.slots.take (fn.params.size+fn.nfree)=List.range (fn.params.size+fn.nfree)/\fn.params.size+fn.nfree<=fn.ntmps/\tC A.slots=true/\A.slots.all (fun t=>decide (t<fn.ntmps))=true then
   some {nparams:=fn.params.size+fn.nfree,nlocs:=A.slots.length,results:=rs,body:=bC P O A fn.ntmps c}
  else none
 |_,_=>none
end
end Go.TM
namespace Go.TM
open Go
abbrev Mem:=Nat->Nat->Option Value
inductive IR (M:Mem):IV->Value->Prop
 |bool (b:Bool):IR M (.bool b) (.bool b)
 |int (k:IntKind) (n:Int):IR M (.int k n) (.int k n)
 |str (s:List UInt8):IR M (.str s) (.string ⟨s.toArray⟩)
 |nilp:IR M .nilp (.pointer none)
 |nilm:IR M .nilm (.map none)
 |nilf:IR M .nilf .nilFunc
 |nili:IR M .nili .nilIface
 |slNil:IR M (.sl .nil []) (.slice none 0 0)
 |sl (t:Tag) (l:List (List IV)) (b off cap es:Nat) (vals:Nat->Nat->Value) (ht:t≠.nil) (hes:∀c∈l,c.length=es) (hcap:l.length<=cap) (hfull:t=.full->cap=l.length)
   (hm:∀(i:Nat) (c:List IV) (j:Nat) (x:IV),l[i]?=some c->c[j]?=some x->M b (off+i*es+j)=some (vals i j)) (hv:∀(i:Nat) (c:List IV) (j:Nat) (x:IV),l[i]?=some c->c[j]?=some x->IR M x (vals i j)):
   IR M (.sl t l) (.slice (some ⟨b,off,none⟩) l.length cap)
 |slE (t:Tag) (a:Addr) (ht:t≠.nil):IR M (.sl t []) (.slice (some a) 0 0)
 |agg (cs:List IV) (vs:Array Value) (hs:vs.size=cs.length) (hv:∀(i:Nat) (x:IV) (v:Value),cs[i]?=some x->vs[i]?=some v->IR M x v):IR M (.agg cs) (.agg vs)
 |cp (cs:List IV) (b off:Nat) (vals:Nat->Value) (hm:∀(i:Nat) (x:IV),cs[i]?=some x->M b (off+i)=some (vals i)) (hv:∀(i:Nat) (x:IV),cs[i]?=some x->IR M x (vals i)):
   IR M (.cp cs) (.pointer (some ⟨b,off,none⟩))
def MLe(M M':Mem):Prop:=∀b o v,M b o=some v->M' b o=some v
theorem MLe.refl(M:Mem):MLe M M:=fun _ _ _ h=>h
theorem MLe.trans{M M' M'':Mem}(h:MLe M M')(a:MLe M' M''):MLe M M'':=fun b o v k=>a b o v (h b o v k)
theorem IR.mono{M M':Mem}(h:MLe M M'){a:IV}{v:Value}(r:IR M a v):IR M' a v:=by
 induction r with
 |bool b=>exact .bool b
 |int k n=>exact .int k n
 |str s=>exact .str s
 |nilp=>exact .nilp
 |nilm=>exact .nilm
 |nilf=>exact .nilf
 |nili=>exact .nili
 |slNil=>exact .slNil
 |sl t l b off cap es vals ht hes hcap hfull hm hv ih=>exact .sl t l b off cap es vals ht hes hcap hfull (fun i c j x d e=>h _ _ _ (hm i c j x d e)) ih
 |slE t a ht=>exact .slE t a ht
 |agg cs vs hs hv ih=>exact .agg cs vs hs ih
 |cp cs b off vals hm hv ih=>exact .cp cs b off vals (fun i x d=>h _ _ _ (hm i x d)) ih
structure Loc where
 cb:Nat
 d:Nat
 ver:Nat
 cap:Nat
 es:Nat
 size:Nat
 loose:Bool
 ty:Nat:=0
abbrev aF:=List (Option Loc)
def aF.at(J:aF)(i:Nat)(l:Loc):Prop:=J[i]?=some (some l)
def aF.has(J:aF)(b:Nat):Prop:=∃i l,J.at i l/\l.cb=b
inductive VR (M:Mem) (J:aF):(L:List (Option Nat))->TV->Value->Prop
 |hole (L:List (Option Nat)) (v:Value):VR M J L .hole v
 |iv (L:List (Option Nat)) {a:IV} {v:Value} (h:IR M a v):VR M J L (.iv a) v
 |lp (L:List (Option Nat)) (j off cb:Nat) (h:L[j]?=some (some cb)):VR M J L (.lp j off) (.pointer (some ⟨cb,off,none⟩))
 |ptr (L:List (Option Nat)) (i ver off:Nat) (l:Loc) (b o:Nat) (h:J.at i l) (hv:ver<=l.ver) (ha:ver=l.ver->b=l.cb/\o=l.d+off):
   VR M J L (.ptr i ver off) (.pointer (some ⟨b,o,none⟩))
 |msl (L:List (Option Nat)) (i ver off len cap es:Nat) (l:Loc) (b o c:Nat) (h:J.at i l) (hv:ver<=l.ver)
   (ha:ver=l.ver->b=l.cb/\(cap≠0->o=l.d+off)/\cap<=c/\(l.loose=false->c=cap)/\o+c*es<=l.size) (hl:len<=cap) (hlc:len<=c):
   VR M J L (.msl i ver off len cap es) (.slice (some ⟨b,o,none⟩) len c)
 |tsl (L:List (Option Nat)) (i:Nat) (es:List (List IV)) (l:Loc) (b o c:Nat) (h:J.at i l) (hl:l.loose=true) (hv:es.length<=l.ver)
   (ha:es.length=l.ver->b=l.cb/\o=l.d/\c=l.cap/\∀x∈es,x.length=l.es) (hr:IR M (.sl .no es) (.slice (some ⟨b,o,none⟩) es.length c)):
   VR M J L (.tsl i es) (.slice (some ⟨b,o,none⟩) es.length c)
 |rsv (L:List (Option Nat)) (i:Nat) (es:List (List IV)) (n:Nat) (l:Loc) (b o c:Nat) (h:J.at i l) (hl:l.loose=true) (hv:es.length<=l.ver)
   (ha:es.length=l.ver->b=l.cb/\o=l.d/\c=l.cap/\∀x∈es,x.length=l.es) (hc:es.length+n<=c) (hr:IR M (.sl .no es) (.slice (some ⟨b,o,none⟩) es.length c)):
   VR M J L (.rsv i es n) (.slice (some ⟨b,o,none⟩) (es.length+n) c)
 |map (L:List (Option Nat)) (i:Nat) (l:Loc) (h:J.at i l) (hl:l.loose=false):VR M J L (.map i) (.map (some l.cb))
 |it (L:List (Option Nat)) (i:Nat) (l:Loc) (h:J.at i l) (hl:l.loose=false):VR M J L (.it i) (.pointer (some ⟨l.cb,0,none⟩))
 |yld (L:List (Option Nat)) (i:Nat) (l:Loc) (h:J.at i l) (hl:l.loose=false):VR M J L (.yld i) (.func (.yield l.cb) #[] #[])
 |fn (L:List (Option Nat)) (f:Nat) (fst cap:List TV) (fst' cap':Array Value) (h1:fst'.size=fst.length) (h2:cap'.size=cap.length)
   (hf:∀(i:Nat) (x:TV) (v:Value),fst[i]?=some x->fst'[i]?=some v->VR M J [] x v) (hc:∀(i:Nat) (x:TV) (v:Value),cap[i]?=some x->cap'[i]?=some v->VR M J [] x v):
   VR M J L (.fn f fst cap) (.func (.func f) fst' cap')
 |agg (L:List (Option Nat)) (cs:List TV) (vs:Array Value) (hs:vs.size=cs.length) (hv:∀(i:Nat) (x:TV) (v:Value),cs[i]?=some x->vs[i]?=some v->VR M J [] x v):VR M J L (.agg cs) (.agg vs)
 |tup (L:List (Option Nat)) (cs:List TV) (vs:Array Value) (hs:vs.size=cs.length) (hv:∀(i:Nat) (x:TV) (v:Value),cs[i]?=some x->vs[i]?=some v->VR M J [] x v):VR M J L (.tup cs) (.tuple vs)
def JLe(J J':aF):Prop :=
 J.length<=J'.length/\∀i l,J.at i l->∃l',J'.at i l'/\(l'=l\/(l.loose=true/\l'.loose=true/\l.ver<l'.ver))
theorem JLe.refl(J:aF):JLe J J:=⟨L_ _,fun _ l h=>⟨l,h,.inl rfl⟩⟩
theorem JLe.trans{J J' J'':aF}(h:JLe J J')(d:JLe J' J''):JLe J J'':=by
 refine⟨C0 h.1 d.1,fun i l j=>?_⟩;obtain⟨k,m,f⟩:=h.2 i l j;obtain⟨l2,n,e⟩:=d.2 i k m;refine⟨l2,n,?_⟩;rcases f with rfl|⟨a,b,c⟩;.exact e
 .rcases e with rfl|⟨o,g,c'⟩;.exact .inr ⟨a,b,c⟩
  .exact .inr ⟨a,g,Nat.lt_trans c c'⟩
theorem VR.mono{M M':Mem}{J J':aF}(m:MLe M M')(g:JLe J J'){L:Tk_}{x:TV}{v:Value}(r:VR M J L x v):VR M' J' L x v:=by
 induction r with
 |hole L v=>exact .hole L v
 |iv L h=>exact .iv L (h.mono m)
 |lp L j off cb h=>exact .lp L j off cb h
 |ptr L i ver off l b o h hv ha =>
  obtain⟨l',d,e⟩:=g.2 i l h;rcases e with rfl|⟨_,_,c⟩;.exact .ptr L i ver off l' b o d hv ha
  .exact .ptr L i ver off l' b o d A_ (fun e=>A_)
 |msl L i ver off len cap es l b o c h hv ha hl hlc =>
  obtain⟨l',d,e⟩:=g.2 i l h;rcases e with rfl|⟨_,_,k⟩;.exact .msl L i ver off len cap es l' b o c d hv ha hl hlc
  .exact .msl L i ver off len cap es l' b o c d A_ (fun e=>A_) hl hlc
 |tsl L i es l b o c h hl hv ha hr =>
  obtain⟨l',d,e⟩:=g.2 i l h;rcases e with rfl|⟨_,k',k⟩;.exact .tsl L i es l' b o c d hl hv ha (hr.mono m)
  .exact .tsl L i es l' b o c d k' A_ (fun e=>A_) (hr.mono m)
 |rsv L i es n l b o c h hl hv ha hc hr =>
  obtain⟨l',d,e⟩:=g.2 i l h;rcases e with rfl|⟨_,k',k⟩;.exact .rsv L i es n l' b o c d hl hv ha hc (hr.mono m)
  .exact .rsv L i es n l' b o c d k' A_ (fun e=>A_) hc (hr.mono m)
 |map L i l h hl =>
  obtain⟨l',d,e⟩:=g.2 i l h;rcases e with rfl|⟨a,_,_⟩;.exact .map L i l' d hl
  .simp[hl]at a
 |it L i l h hl =>
  obtain⟨l',d,e⟩:=g.2 i l h;rcases e with rfl|⟨a,_,_⟩;.exact .it L i l' d hl
  .simp[hl]at a
 |yld L i l h hl =>
  obtain⟨l',d,e⟩:=g.2 i l h;rcases e with rfl|⟨a,_,_⟩;.exact .yld L i l' d hl
  .simp[hl]at a
 |fn L f fst cap fst' cap' h1 h2 hf hc ihf ihc=>exact .fn L f fst cap fst' cap' h1 h2 ihf ihc
 |agg L cs vs hs hv ih=>exact .agg L cs vs hs ih
 |tup L cs vs hs hv ih=>exact .tup L cs vs hs ih
theorem VR.frame{M:Mem}{J:aF}{L L':Tk_}{x:TV}{v:Value}(r:VR M J L x v)(a:bY x=false):VR M J L' x v:=by
 cases r with
 |hole L v=>exact .hole _ v
 |iv L h=>exact .iv _ h
 |lp L j off cb h'=>simp[bY]at a
 |ptr L i ver off l b o h hv ha=>exact .ptr _ i ver off l b o h hv ha
 |msl L i ver off len cap es l b o c h hv ha hl hlc=>exact .msl _ i ver off len cap es l b o c h hv ha hl hlc
 |tsl L i es l b o c h hl hv ha hr=>exact .tsl _ i es l b o c h hl hv ha hr
 |rsv L i es n l b o c h hl hv ha hc hr=>exact .rsv _ i es n l b o c h hl hv ha hc hr
 |map L i l h hl=>exact .map _ i l h hl
 |it L i l h hl=>exact .it _ i l h hl
 |yld L i l h hl=>exact .yld _ i l h hl
 |fn L f fst cap fst' cap' h1 h2 hf hc=>exact .fn _ f fst cap fst' cap' h1 h2 hf hc
 |agg L cs vs hs hv=>exact .agg _ cs vs hs hv
 |tup L cs vs hs hv=>exact .tup _ cs vs hs hv
def VRs(M:Mem)(J:aF)(L:List (Option Nat))(xs:List TV)(vs:List Value):Prop :=
 vs.length=xs.length/\∀(i:Nat) (x:TV) (v:Value),xs[i]?=some x->vs[i]?=some v->VR M J L x v
theorem VRs.mono{M M':Mem}{J J':aF}(b:MLe M M')(c:JLe J J'){L:Tk_}{xs:Tn_}{vs:List Value}(h:VRs M J L xs vs):VRs M' J' L xs vs :=
 ⟨h.1,fun i x v a d=>(h.2 i x v a d).mono b c⟩
theorem VRs.nil{M:Mem}{J:aF}{L:Tk_}:VRs M J L [] []:=⟨rfl,fun i x v h=>by simp at h⟩
theorem VRs.cons{M:Mem}{J:aF}{L:Tk_}{x:TV}{v:Value}{xs:Tn_}{vs:List Value}(h:VR M J L x v)(t:VRs M J L xs vs):VRs M J L (x::xs) (v::vs):=by
 refine⟨by simp[t.1],fun i y u a b=>?_⟩;cases i with
 |zero=>simp at a b;subst a;subst b;exact h
 |succ i=>simp at a b;exact t.2 i y u a b
theorem VRs.cons_inv{M:Mem}{J:aF}{L:Tk_}{x:TV}{xs:Tn_}{vs:List Value}(h:VRs M J L (x::xs) vs):∃v us,vs=v::us/\VR M J L x v/\VRs M J L xs us:=by
 cases vs with
 |nil=>simp[VRs]at h
 |cons v us =>refine⟨v,us,rfl,h.2 0 x v rfl rfl,by simpa using h.1,fun i y u a b=>h.2 (i+1) y u (by simpa using a) (by simpa using b)⟩
theorem VRs.nil_inv{M:Mem}{J:aF}{L:Tk_}{vs:List Value}(h:VRs M J L [] vs):vs=[]:=a_ (by simpa using h.1)
theorem VRs.append{M:Mem}{J:aF}{L:Tk_}{xs ys:Tn_}{vs us:List Value}(h:VRs M J L xs vs)(k:VRs M J L ys us):VRs M J L (xs++ys) (vs++us):=by
 induction xs generalizing vs with
 |nil=>rw[h.nil_inv];simpa using k
 |cons x xs ih =>obtain⟨v,a,rfl,b,c⟩:=h.cons_inv;exact .cons b (ih c)
theorem VRs.drop{M:Mem}{J:aF}{L:Tk_}{xs:Tn_}{vs:List Value}(h:VRs M J L xs vs)(n:Nat):VRs M J L (xs.drop n) (vs.drop n) :=
 ⟨by simp[h.1],fun i x v a b=>h.2 (n+i) x v (by simpa using a) (by simpa using b)⟩
theorem VRs.take{M:Mem}{J:aF}{L:Tk_}{xs:Tn_}{vs:List Value}(h:VRs M J L xs vs)(n:Nat):VRs M J L (xs.take n) (vs.take n):=by
 refine⟨by simp[h.1],fun i x v a b=>?_⟩;rw[D6]at a b;split at a;.rename_i hi;simp[hi]at b;exact h.2 i x v a b
 .simp at a
theorem VRs.frame{M:Mem}{J:aF}{L L':Tk_}{xs:Tn_}{vs:List Value}(h:VRs M J L xs vs)(b:xs.any bY=false):VRs M J L' xs vs:=by refine⟨h.1,fun i x v a c=>(h.2 i x v a c).frame ?_⟩;have:=q_.1 b x (B9 a);simpa using this
def fB(A:Ann)(n:Nat):Prop:=A.slots.Nodup/\∀t∈A.slots,t<n
inductive PR:Option aV->Option Code->Prop
 |none:PR none none
 |ret:PR (some .ret) (some .ret)
 |exit (id:Nat):PR (some (.exit id)) (some (.exit id))
section
variable (P:Program)(O:dE)
structure LpR (M:Mem) (J:aF) (env:List TV) (ps:List Nat) (assign body:aL) (r:Loop):Prop where
 ex:∃A:Ann,fB A r.tmps.size/\env.length=A.slots.length/\(∀(j t:Nat) (x:TV),A.slots[j]?=some t->env[j]?=some x->VR M J [] x (r.tmps.getD t Go.undef)) /\
  r.params.toList.map (eC · A.slots 0)=ps.map some/\assign=bC P O A r.tmps.size r.assign/\body=bC P O A r.tmps.size r.body/\dU assign=true/\dU body=true
theorem LpR.mono{M M':Mem}{J J':aF}(f:MLe M M')(i:JLe J J'){env:Tn_}{ps:Tc_}{assign body:aL}{r:Loop} (h:LpR P O M J env ps assign body r):LpR P O M' J' env ps assign body r:=by obtain⟨A,a,b,c,d⟩:=h.ex;exact⟨A,a,b,fun j t x e g=>(c j t x e g).mono f i,d⟩
inductive BR (M:Mem) (J:aF) (w:World) (l:Loc):aG->Prop
 |cells (loose:Bool) (cs:List TV) (cs':Array Value) (e:TypeId) (fz:Nat×Nat) (hl:l.loose=loose) (hb:w.heap[l.cb]?=some (.cells cs' e fz)) (hsz:cs'.size=l.size)
   (hfit:l.d+cs.length<=cs'.size) (hv:∀(k:Nat) (x:TV),cs[k]?=some x->∃u,cs'[l.d+k]?=some u/\VR M J [] x u)
   (hfz:∀o,o<cs'.size->w.frozen? ⟨l.cb,o,none⟩=false) (hm:∀o,M l.cb o=none)
   (ht:l.loose=false->l.ver≠0->l.ver=e+1/\l.d=0/\cs'.size=cs.length):BR M J w l (.cells l.ver loose cs)
 |frz (cs:List IV) (hv:∀(k:Nat) (x:IV),cs[k]?=some x->∃u,M l.cb (l.d+k)=some u/\IR M x u):BR M J w l (.frz l.ver cs)
 |tok (n:Nat) (cs':Array Value) (e:TypeId) (fz:Nat×Nat) (hl:l.loose=true) (hn:l.ver=n) (hb:w.heap[l.cb]?=some (.cells cs' e fz)) (hsz:cs'.size=l.size) (hc:n<=l.cap)
   (hes:0<l.es) (hfit:l.d+l.cap*l.es<=cs'.size) (hsp:∀o,l.d+n*l.es<=o->o<cs'.size->M l.cb o=none)
   (hfz:∀o,l.d+n*l.es<=o->o<cs'.size->w.frozen? ⟨l.cb,o,none⟩=false) (ht:l.ty=e/\l.d=0/\fz.2<=n*l.es):BR M J w l (.tok n l.es l.ty)
 |mp (es:List (Nat×IV×TV)) (clock:Nat) (es':Array MapEntry) (hl:l.loose=false) (hb:w.heap[l.cb]?=some (.map es' clock)) (hs:es'.size=es.length)
   (hv:∀(k:Nat) (x:Nat×IV×TV) (y:MapEntry),es[k]?=some x->es'[k]?=some y->y.born=x.1/\IR M x.2.1 y.key/\VR M J [] x.2.2 y.val):BR M J w l (.mp es clock)
 |sit (s:List UInt8) (pos:Nat) (hl:l.loose=false) (hb:w.heap[l.cb]?=some (.stringIter ⟨s.toArray⟩ pos)):BR M J w l (.sit s pos)
 |mitN (since:Nat) (seen:List Nat) (last:Nat) (hl:l.loose=false) (hb:w.heap[l.cb]?=some (.mapIter none since seen.toArray last)):BR M J w l (.mit none since seen last)
 |mit (m:Nat) (lm:Loc) (since:Nat) (seen:List Nat) (last:Nat) (hl:l.loose=false) (hm:J.at m lm) (hlm:lm.loose=false) (hb:w.heap[l.cb]?=some (.mapIter (some lm.cb) since seen.toArray last)):
   BR M J w l (.mit (some m) since seen last)
 |lp (st:LoopState) (pend:Option aV) (env:List TV) (ps:List Nat) (assign body:aL) (r:Loop) (hl:l.loose=false) (hb:w.heap[l.cb]?=some (.loop r)) (hst:r.state=st) (hp:PR pend r.pending)
   (hr:LpR P O M J env ps assign body r):BR M J w l (.lp st pend env ps assign body)
variable {P O}
theorem JLe.fixed{J J':aF}(h:JLe J J'){i:Nat}{l:Loc}(c:J.at i l)(b:l.loose=false):J'.at i l:=by
 obtain⟨l',d,e⟩:=h.2 i l c;rcases e with rfl|⟨a,_,_⟩;.exact d
 .simp[b]at a
theorem mY{w w':World}{b o:Nat}(h:w'.heap[b]?=w.heap[b]?):w'.frozen? ⟨b,o,none⟩=w.frozen? ⟨b,o,none⟩:=by simp[World.frozen?,h]
theorem dM{w w':World}{b o:Nat}(h:w'.heap[b]?=w.heap[b]?):w'.cell? ⟨b,o,none⟩=w.cell? ⟨b,o,none⟩:=by simp[World.cell?,h]
theorem BR.step{M M':Mem}{J J':aF}{w w':World}{l:Loc}{s:aG}(h:BR P O M J w l s)(d:w'.heap[l.cb]?=w.heap[l.cb]?)(i:MLe M M')(j:∀o,M' l.cb o=M l.cb o) (q:JLe J J'):BR P O M' J' w' l s:=by
 cases h with
 |cells loose cs cs' e fz hl hb' hsz hfit hv hfz hm ht =>exact .cells loose cs cs' e fz hl (d.trans hb') hsz hfit (fun k x p=>let ⟨u,f,g⟩:=hv k x p;⟨u,f,g.mono i q⟩) (fun o v=>(mY d).trans (hfz o v)) (fun o=>(j o).trans (hm o)) ht
 |frz cs hv=>exact .frz cs fun k x p=>let ⟨u,f,g⟩:=hv k x p;⟨u,i _ _ _ f,g.mono i⟩
 |tok n cs' e fz hl hn hb' hsz hc hes hfit hsp hfz ht =>exact .tok n cs' e fz hl hn (d.trans hb') hsz hc hes hfit (fun o f g=>(j o).trans (hsp o f g)) (fun o f g=>(mY d).trans (hfz o f g)) ht
 |mp es clock es' hl hb' hs hv=>exact .mp es clock es' hl (d.trans hb') hs (fun k x y p t=>let ⟨a,b,c⟩:=hv k x y p t;⟨a,b.mono i,c.mono i q⟩)
 |sit s pos hl hb'=>exact .sit s pos hl (d.trans hb')
 |mitN since seen last hl hb'=>exact .mitN since seen last hl (d.trans hb')
 |mit m lm since seen last hl hm hlm hb'=>exact .mit m lm since seen last hl (q.fixed hm hlm) hlm (d.trans hb')
 |lp st pend env ps assign body r hl hb' hst hp hr=>exact .lp st pend env ps assign body r hl (d.trans hb') hst hp (hr.mono _ _ i q)
variable (P O)
structure WR (M:Mem) (J:aF) (S:aA) (w:World):Prop where
 len:J.length=S.length
 imm:∀b o v,M b o=some v->w.cell? ⟨b,o,none⟩=some v
 blk:∀i l s,J.at i l->S[i]?=some s->BR P O M J w l s
 inj:∀i k l l',J.at i l->J.at k l'->l.cb=l'.cb->i=k
 lt:∀i l,J.at i l->l.cb<w.heap.size
variable {P O}
theorem bMq{w:World}{b o:Nat}{v:Value}(h:w.cell? ⟨b,o,none⟩=some v):b<w.heap.size:=World.block_lt_of_cell? w ⟨b,o,none⟩ h
theorem WR.mlt{M:Mem}{J:aF}{S:aA}{w:World}(h:WR P O M J S w){b o:Nat}{v:Value}(a:M b o=some v):b<w.heap.size:=bMq (h.imm b o v a)
theorem WR.step{M M':Mem}{J J':aF}{S S':aA}{w w':World}(h:WR P O M J S w)(d:J'.length=S'.length)(n:MLe M M')(q:JLe J J') (a:∀b o v,M' b o=some v->w'.cell? ⟨b,o,none⟩=some v) (c:∀i l s,J'.at i l->S'[i]?=some s->BR P O M' J' w' l s\/(J.at i l/\S[i]?=some s/\w'.heap[l.cb]?=w.heap[l.cb]? /\ ∀o,M' l.cb o=M l.cb o)) (e:∀i k l l',J'.at i l->J'.at k l'->l.cb=l'.cb->i=k) (f:∀i l,J'.at i l->l.cb<w'.heap.size):WR P O M' J' S' w':=by
 refine⟨d,a,fun i l s r g=>?_,e,f⟩;rcases c i l s r g with j|⟨m,u,p,t⟩;.exact j
 .exact(h.blk i l s m u).step p n t q
structure Tr (own:Nat->Prop) (M:Mem) (J:aF) (S:aA) (w:World) (M':Mem) (J':aF) (S':aA) (w':World):Prop where
 os:w'.os=w.os
 tape:w'.tape=w.tape
 output:w'.output=w.output
 size:w.heap.size<=w'.heap.size
 mle:MLe M M'
 mnew:∀b o,b<w.heap.size->¬J.has b->M' b o=M b o
 jle:JLe J J'
 jnew:∀i l,J'.at i l->w.heap.size<=l.cb\/∃l0,J.at i l0/\l0.cb=l.cb
 ph:∀i:Nat,J[i]?=some none->J'[i]?=some none/\S'[i]?=S[i]?
 frame:∀b,b<w.heap.size->¬J.has b->¬own b->w'.heap[b]?=w.heap[b]?
theorem Tr.refl(own:Tm_)(M:Mem)(J:aF)(S:aA)(w:World):Tr own M J S w M J S w :=
 ⟨rfl,rfl,rfl,L_ _,.refl _,fun _ _ _ _=>rfl,.refl _,fun _ l h=>.inr ⟨l,h,rfl⟩,fun _ h=>⟨h,rfl⟩,fun _ _ _ _=>rfl⟩
theorem Tr.has{own:Tm_}{M:Mem}{J:aF}{S:aA}{w:World}{M':Mem}{J':aF}{S':aA}{w':World}(h:Tr own M J S w M' J' S' w'){b:Nat}(g:b<w.heap.size)(c:¬J.has b):¬J'.has b:=by
 rintro⟨i,l,d,rfl⟩;rcases h.jnew i l d with a|⟨f,a,e⟩;.omega
 .exact c ⟨i,f,a,e⟩
theorem Tr.trans{own own':Tm_}{M M' M'':Mem}{J J' J'':aF}{S S' S'':aA}{w w' g:World}(h:Tr own M J S w M' J' S' w')(k:Tr own' M' J' S' w' M'' J'' S'' g) (q:∀b,own' b->own b\/w.heap.size<=b):Tr own M J S w M'' J'' S'' g:=by
 refine⟨k.os.trans h.os,k.tape.trans h.tape,k.output.trans h.output,C0 h.size k.size,h.mle.trans k.mle,?_,h.jle.trans k.jle,?_,?_,?_⟩;.intro b o e m;exact(k.mnew b o (E7 e h.size) (h.has e m)).trans (h.mnew b o e m)
 .intro i l r;rcases k.jnew i l r with f|⟨x,f,u⟩;.exact .inl (C0 h.size f)
  .rcases h.jnew i x f with p|⟨s,p,t⟩;.exact .inl A_
   .exact .inr ⟨s,p,t.trans u⟩
 .intro i v;obtain⟨a,b⟩:=h.ph i v;obtain⟨c,d⟩:=k.ph i a;exact⟨c,d.trans b⟩
 .intro b e m j;refine(k.frame b (E7 e h.size) (h.has e m) (fun n=>?_)).trans (h.frame b e m j);rcases q b n with f|f;.exact j f
  .omega
theorem Tr.weaken{own own':Tm_}{M M':Mem}{J J':aF}{S S':aA}{w w':World}(h:Tr own M J S w M' J' S' w')(f:∀b,own b->own' b):Tr own' M J S w M' J' S' w' :=
 ⟨h.os,h.tape,h.output,h.size,h.mle,h.mnew,h.jle,h.jnew,h.ph,fun b c e a=>h.frame b c e (fun d=>a (f b d))⟩
end
end Go.TM
namespace Go.TM
open Go
section
variable {P:Program}{O:dE}
theorem jB(b o n:Nat):(⟨b,o,none⟩:Addr).add n=⟨b,o+n,none⟩:=by unfold Addr.add;split<;>simp_all
theorem oF{w:World}(b o:Nat)(vs:List Value)(h:∀i v,vs[i]?=some v->w.cell? ⟨b,o+i,none⟩=some v): (loadCells ⟨b,o,none⟩ vs.length).run P w=.ok vs.toArray w :=
 run_loadCells_list w ⟨b,o,none⟩ vs (fun j v a=>by rw[jB];exact h j v a)
def sH(cs:Array Value):Nat->List Value->Array Value
 |_,[]=>cs
 |o,v::r=>sH (cs.setIfInBounds o v) (o+1) r
theorem eQ:∀(vs:List Value) (o:Nat) (cs:Array Value),(sH cs o vs).size=cs.size
 |[],_,_=>rfl
 |_::r,o,cs=>by rw[sH,eQ r];simp
theorem tG:∀(vs:List Value) (o:Nat) (cs:Array Value) (k:Nat),o+vs.length<=cs.size ->(sH cs o vs)[k]?=if o<=k/\k<o+vs.length then vs[k-o]? else cs[k]?
 |[],o,cs,k,_=>by have:¬(o<=k/\k<o+([]:List Value).length):=B_;rw[I_ this];rfl
 |v::r,o,cs,k,h=>by
  simp only[List.length_cons]at h |-;rw[sH,tG r (o+1) _ k (by simp;omega)];by_cases h1:o+1<=k/\k<o+1+r.length;.rw[K_ h1,K_ A_,show k-o=(k-(o+1))+1 by omega,List.getElem?_cons_succ]
  .rw[I_ h1];by_cases h2:k=o;.subst h2;rw[K_ A_];have a:k<cs.size:=A_;rw[G5 a];simp
   .rw[I_ A_,I9 A_]
theorem jU(b:Nat):∀(vs:List Value) (o:Nat) (w:World) (cs:Array Value) (e:TypeId) (a:Nat×Nat),w.heap[b]?=some (.cells cs e a) ->(w.setCells b o vs).heap[b]?=some (.cells (sH cs o vs) e a)
 |[],_,_,_,_,_,h=>h
 |v::r,o,w,cs,e,a,h=>by rw[World.setCells,sH];refine jU b r (o+1) _ _ e a ?_;simp only[World.setCell,J3];simp[h]
theorem jC(b:Nat):∀(vs:List Value) (o:Nat) (w:World) (a:Nat),a≠b->(w.setCells b o vs).heap[a]?=w.heap[a]?
 |[],_,_,_,_=>rfl
 |v::r,o,w,a,h=>by rw[World.setCells,jC b r (o+1) _ a h];simp only[World.setCell,J3];rw[I_ A_]
theorem iM(b:Nat):∀(vs:List Value) (o:Nat) (w:World),(w.setCells b o vs).heap.size=w.heap.size
 |[],_,_=>rfl
 |v::r,o,w=>by rw[World.setCells,iM b r];simp[World.setCell]
theorem mK(b:Nat):∀(vs:List Value) (o:Nat) (w:World),(w.setCells b o vs).os=w.os/\(w.setCells b o vs).tape=w.tape/\(w.setCells b o vs).output=w.output
 |[],_,_=>⟨rfl,rfl,rfl⟩
 |v::r,o,w=>by rw[World.setCells];exact mK b r (o+1) _
theorem dV{w:World}{b:Nat}{cs:Array Value}{e:TypeId}{a:Nat×Nat}(h:w.heap[b]?=some (.cells cs e a))(o:Nat):w.cell? ⟨b,o,none⟩=cs[o]? := by simp[World.cell?,h]
theorem fY{w:World}{b:Nat}{o:Obj}(h:w.heap[b]?=some o):b<w.heap.size:=by
 rcases D2 b w.heap.size with a|a;.exact a
 .simp[P3 a]at h
theorem nN{w:World}{b o:Nat}{vs:List Value}{cs:Array Value}{e:TypeId}{d:Nat×Nat}(h:w.heap[b]?=some (.cells cs e d))(c:o+vs.length<=cs.size) (a:∀k,o<=k->k<o+vs.length->w.frozen? ⟨b,k,none⟩=false) (f:∀v∈vs,v.oneCell'=true): (storeCells ⟨b,o,none⟩ vs).run P w=.ok () (w.setCells b o vs):=by have:=run_storeCells_cells (P:=P) b o vs 0 w (fun j g=>by rw[dV h];simp;omega) (fun j g=>a _ A_ A_) f;simpa using this
theorem VR.iv_inv{M:Mem}{J:aF}{L:Tk_}{a:IV}{v:Value}(h:VR M J L (.iv a) v):IR M a v:=by cases h;assumption
theorem VR.isLp_nil{M:Mem}{J:aF}{x:TV}{v:Value}(h:VR M J [] x v):bY x=false:=by cases h<;>first|rfl|(rename_i h;simp at h)
theorem VR.ofNil{M:Mem}{J:aF}{L:Tk_}{x:TV}{v:Value}(h:VR M J [] x v):VR M J L x v:=h.frame h.isLp_nil
theorem VRs.ofNil{M:Mem}{J:aF}{L:Tk_}{xs:Tn_}{vs:List Value}(h:VRs M J [] xs vs):VRs M J L xs vs:=⟨h.1,fun i x v a b=>(h.2 i x v a b).ofNil⟩
theorem IR.agg_inv{M:Mem}{cs:Tq_}{v:Value}(h:IR M (.agg cs) v):∃vs,v=.agg vs/\vs.size=cs.length/\∀(i:Nat) (x:IV) (u:Value),cs[i]?=some x->vs[i]?=some u->IR M x u:=by
 cases h with
 |agg cs vs hs hv=>exact⟨vs,rfl,hs,hv⟩
theorem IR.oneCell{M:Mem}{a:IV}{v:Value}(h:IR M a v)(b:bH (.iv a)=false):v.oneCell'=true:=by cases h<;>first|rfl|simp[bH]at b
theorem VR.oneCell{M:Mem}{J:aF}{L:Tk_}{x:TV}{v:Value}(h:VR M J L x v)(a:bH x=false):v.oneCell'=true:=by
 cases h with
 |iv L h=>exact h.oneCell a
 |hole L v=>simp[bH]at a
 |agg L cs vs hs hv=>simp[bH]at a
 |tup L cs vs hs hv=>simp[bH]at a
 |_=>rfl
theorem VRs.oneCell{M:Mem}{J:aF}{L:Tk_}{xs:Tn_}{vs:List Value}(h:VRs M J L xs vs)(c:xs.any bH=false):∀v∈vs,v.oneCell'=true:=by
 intro v e;obtain⟨i,b⟩:=H7 e;have a:i<xs.length:=by rw[<-h.1];exact(E_.1 b).1
 have d:xs[i]?=some xs[i]:=D_ a;refine(h.2 i _ v d b).oneCell ?_;have:=q_.1 c xs[i] (B8 a);simpa using this
theorem VRs.ofAgg{M:Mem}{J:aF}{cs:Tn_}{vs:Array Value}(a:vs.size=cs.length)(d:∀(i:Nat) (x:TV) (v:Value),cs[i]?=some x->vs[i]?=some v->VR M J [] x v):VRs M J [] cs vs.toList :=
 ⟨by simpa using a,fun i x v b c=>d i x v b (by simpa using c)⟩
theorem VRs.ofIVs{M:Mem}{J:aF}{L:Tk_}{cs:Tq_}{vs:List Value}(d:vs.length=cs.length)(f:∀(i:Nat) (x:IV) (v:Value),cs[i]?=some x->vs[i]?=some v->IR M x v): VRs M J L (cs.map .iv) vs :=
 ⟨by simpa using d,fun i x v b e=>by simp only[l_,G_]at b;obtain⟨a,c,rfl⟩:=b;exact .iv _ (f i a v c e)⟩
theorem VRs.toIVs{M:Mem}{J:aF}{L:Tk_}{cs:Tq_}{vs:List Value}(h:VRs M J L (cs.map .iv) vs):vs.length=cs.length/\∀(i:Nat) (x:IV) (v:Value),cs[i]?=some x->vs[i]?=some v->IR M x v :=
 ⟨by simpa using h.1,fun i x v a b=>(h.2 i (.iv x) v (by simp[a]) b).iv_inv⟩
theorem tH{M:Mem}{J:aF}{L:Tk_}{x:TV}{v:Value}(h:VR M J L x v)(a:(cellsOf x).any bH=false):VRs M J [] (cellsOf x) v.cells.toList:=by
 cases h with
 |hole L v=>simp[cellsOf,bH]at a
 |iv L h =>
  cases h with
  |agg cs vs hs hv=>exact VRs.ofIVs (by simpa[Value.cells] using hs) (fun i x v d e=>hv i x v d (by simpa[Value.cells] using e))
  |_=>exact .cons (.iv _ (by constructor<;>assumption)) .nil
 |agg L cs vs hs hv=>exact .ofAgg hs hv
 |lp L j off cb h=>simp[cellsOf,bH]at a
 |tup L cs vs hs hv=>simp[cellsOf,bH]at a
 |ptr L i ver off l b o h hv ha=>exact .cons (.ptr _ i ver off l b o h hv ha) .nil
 |msl L i ver off len cap es l b o c h hv ha hl hlc=>exact .cons (.msl _ i ver off len cap es l b o c h hv ha hl hlc) .nil
 |tsl L i es l b o c h hl hv ha hr=>exact .cons (.tsl _ i es l b o c h hl hv ha hr) .nil
 |rsv L i es n l b o c h hl hv ha hc hr=>exact .cons (.rsv _ i es n l b o c h hl hv ha hc hr) .nil
 |map L i l h hl=>exact .cons (.map _ i l h hl) .nil
 |it L i l h hl=>exact .cons (.it _ i l h hl) .nil
 |yld L i l h hl=>exact .cons (.yld _ i l h hl) .nil
 |fn L f fst cap fst' cap' d e hf hc=>exact .cons (.fn _ f fst cap fst' cap' d e hf hc) .nil
theorem wS:∀ {cs:Tn_} {l:Tq_},mH cs=some l->cs=l.map .iv
 |[],l,h=>by simp[mH]at h;subst h;rfl
 |x::r,l,h=>by
  cases x with
  |iv a =>simp only[mH,G_]at h;obtain⟨l',b,rfl⟩:=h;rw[wS b];rfl
  |_=>simp[mH]at h
theorem xY{M:Mem}{J:aF}{L:Tk_}{cs:Tn_}{vs:List Value}(h:VRs M J [] cs vs):VR M J L (rY cs) (.agg vs.toArray):=by
 unfold rY;split;.rename_i l hl;have:=wS hl;subst this;obtain⟨c,d⟩:=h.toIVs;exact .iv _ (.agg _ _ (by simpa using c) (fun i x v a b=>d i x v a (by simpa using b)))
 .exact .agg _ _ _ (by simpa using h.1) (fun i x v a b=>h.2 i x v a (by simpa using b))
theorem iH{α:Type}{cs:List α}{off n:Nat}{l:List α}(h:sub cs off n=some l):off+n<=cs.length/\l=(cs.drop off).take n/\l.length=n:=by
 unfold sub at h;split at h;.rename_i hle;simp at h;subst h;exact⟨hle,rfl,by simp;omega⟩
 .simp at h
theorem vA{α:Type}{cs:List α}{off n:Nat}{l:List α}(h:sub cs off n=some l){i:Nat}{x:α}(a:l[i]?=some x):cs[off+i]?=some x:=by
 obtain⟨_,rfl,_⟩:=iH h;rw[D6]at a;split at a;.simpa using a
 .simp at a
def aXz(M:Mem)(J:aF)(w:World)(cb:Nat)(cs:List TV):Prop :=
 ¬J.has cb/\(∀o,M cb o=none)/\∃(cs':Array Value) (e:TypeId) (fz:Nat×Nat),w.heap[cb]?=some (.cells cs' e fz)/\VRs M J [] cs cs'.toList/\∀o,o<cs'.size->w.frozen? ⟨cb,o,none⟩=false
structure LbR (M:Mem) (J:aF) (L:List (Option Nat)) (env:Env) (w:World):Prop where
 len:L.length=env.length
 box:∀(j:Nat) (cs:List TV),env[j]?=some (TV.lb cs)->∃cb,L[j]?=some (some cb)/\aXz M J w cb cs
 inj:∀(j k:Nat) (cs cs':List TV) (cb:Nat),env[j]?=some (TV.lb cs)->env[k]?=some (TV.lb cs')->L[j]?=some (some cb)->L[k]?=some (some cb)->j=k
def cR(L:List (Option Nat))(b:Nat):Prop:=∃j:Nat,L[j]?=some (some b)
variable (P O) in
structure MS (K:TM.bD) (M:Mem) (J:aF) (L:List (Option Nat)) (S:aA) (env:Env) (w:World):Prop where
 wr:WR P O M J S w
 lb:LbR M J L env w
 gl:∀g cs,K.glob g=some cs->IR M (.cp cs) (.pointer (some ⟨g,0,none⟩))
variable {K:TM.bD}
theorem aXz.step{M M':Mem}{J J':aF}{w w':World}{cb:Nat}{cs:Tn_}(h:aXz M J w cb cs)(c:w'.heap[cb]?=w.heap[cb]?)(g:MLe M M')(a:∀o,M' cb o=M cb o)(k:JLe J J') (d:¬J'.has cb):aXz M' J' w' cb cs:=by obtain⟨_,j,b,e,f,n,i,l⟩:=h;exact⟨d,fun o=>(a o).trans (j o),b,e,f,c.trans n,i.mono g k,fun o m=>(mY c).trans (l o m)⟩
theorem aXz.lt{M:Mem}{J:aF}{w:World}{cb:Nat}{cs:Tn_}(h:aXz M J w cb cs):cb<w.heap.size:=by obtain⟨_,_,_,_,_,a,_⟩:=h;exact fY a
theorem LbR.step{own:Tm_}{M M':Mem}{J J':aF}{S S':aA}{L:Tk_}{env:Env}{w w':World}(h:LbR M J L env w)(t:Tr own M J S w M' J' S' w')(f:∀b,cR L b->¬own b): LbR M' J' L env w':=by refine⟨h.len,fun j cs e=>?_,h.inj⟩;obtain⟨cb,d,c⟩:=h.box j cs e;have a:=c.lt;exact⟨cb,d,c.step (t.frame cb a c.1 (f cb ⟨j,d⟩)) t.mle (fun o=>t.mnew cb o a c.1) t.jle (t.has a c.1)⟩
theorem MS.step{own:Tm_}{M M':Mem}{J J':aF}{S S':aA}{L:Tk_}{env:Env}{w w':World}(h:MS P O K M J L S env w)(a:WR P O M' J' S' w')(t:Tr own M J S w M' J' S' w') (d:∀b,cR L b->¬own b):MS P O K M' J' L S' env w' :=
 ⟨a,h.lb.step t d,fun g cs c=>(h.gl g cs c).mono t.mle⟩
theorem xZ{M:Mem}{J:aF}{L:Tk_}{S:aA}{env:Env}{w:World}(h:MS P O K M J L S env w){a:TV}{n:Nat}{cs:Tn_}{va:Value} (m:bQ env S a n=some cs) (E:VR M J L a va):∃b o vs,va=.pointer (some ⟨b,o,none⟩)/\VRs M J [] cs vs/\vs.length=n/\∀(i:Nat) (v:Value),vs[i]?=some v->w.cell? ⟨b,o+i,none⟩=some v:=by
 unfold bQ at m;split at m
 .rename_i j off;cases E with
  |lp L j off cb hj =>
   split at m
   .rename_i cs0 he;obtain⟨N,r,_,_,t,e,Q,I,G,_⟩:=h.lb.box j cs0 he;obtain rfl:cb=N:=by rw[hj]at r;simpa using r
    obtain⟨A,rfl,f⟩:=iH m;refine⟨cb,off,(t.toList.drop off).take n,rfl,(G.drop off).take n,?_,fun i v H=>?_⟩;.have:=((G.drop off).take n).1;rw[f]at this;exact this
    .rw[dV I];rw[D6]at H;split at H;.simpa using H
     .simp at H
   .simp at m
 .rename_i i v off;cases E with
  |ptr L i ver off l b o hl G E =>
   split at m
   .rename_i v' lo cs0 hs;split at m
    .rename_i hvv;subst hvv;have C:=h.wr.blk i l _ hl hs;cases C with
     |cells loose cs t e Q hlo I hsz hfit hvals hfz hm =>
      obtain⟨rfl,rfl⟩:=E rfl;obtain⟨A,rfl,f⟩:=iH m;have key:∀k x,((cs0.drop off).take n)[k]?=some x->∃u,t[l.d+off+k]?=some u/\VR M J [] x u:=by intro k x q;have:=vA m q;obtain⟨u,r,y⟩:=hvals _ _ this;exact⟨u,by rw[F7];exact r,y⟩
      refine⟨l.cb,l.d+off,(t.toList.drop (l.d+off)).take n,rfl,⟨?_,?_⟩,?_,?_⟩;.simp;omega
      .intro k x u q g;obtain⟨R,r,y⟩:=key k x q;rw[D6]at g;split at g;.rw[F9,K3,r]at g;simp at g;subst g;exact y
       .simp at g
      .simp;omega
      .intro k u g;rw[dV I];rw[D6]at g;split at g;.simpa using g
       .simp at g
    .simp at m
   .rename_i v' cs0 hs;split at m
    .rename_i hvv;subst hvv;have C:=h.wr.blk i l _ hl hs;cases C with
     |frz cs hvals =>
      obtain⟨rfl,rfl⟩:=E rfl;simp only[G_]at m;obtain⟨F,p,rfl⟩:=m;obtain⟨A,_,f⟩:=iH p;have key:∀(k:Nat) (x:IV),F[k]?=some x->∃u,M l.cb (l.d+off+k)=some u/\IR M x u:=by intro k x q;obtain⟨u,r,y⟩:=hvals _ _ (vA p q);exact⟨u,by rw[F7];exact r,y⟩
      refine⟨l.cb,l.d+off,(List.range n).map fun k=>(M l.cb (l.d+off+k)).getD Go.undef,rfl,⟨?_,?_⟩,by simp,?_⟩;.simp[f]
      .intro k x u q g;simp only[l_,G_]at q g;obtain⟨x0,s,rfl⟩:=q;obtain⟨k',c,rfl⟩:=g;obtain⟨rfl⟩:k'=k:=by rw[E8 (by rw[<-f];exact(E_.1 s).1)]at c;simpa using c.symm
       obtain⟨u,r,y⟩:=key _ x0 s;rw[r];exact .iv _ y
      .intro k u g;simp only[l_,G_]at g;obtain⟨k',c,rfl⟩:=g;have D:k<n:=by
        rcases D2 k n with z|z;.exact z
        .rw[B7 (by simpa using z)]at c;simp at c
       obtain rfl:k'=k:=by rw[E8 D]at c;simpa using c.symm
       obtain⟨u,r,y⟩:=key k' F[k'] (D_ A_);rw[r];exact h.wr.imm _ _ _ r
    .simp at m
   .simp at m
 .rename_i cs0;cases E with
  |iv L hr =>
   cases hr with
   |cp cs b off vals hm G =>
    simp only[G_]at m;obtain⟨F,p,rfl⟩:=m;obtain⟨A,_,f⟩:=iH p;have key:∀(k:Nat) (x:IV),F[k]?=some x->M b (off+k)=some (vals k)/\IR M x (vals k):=by intro k x q;have:=vA p q;rw[A9]at this;exact⟨hm _ _ this,G _ _ this⟩
    refine⟨b,off,(List.range n).map vals,rfl,⟨by simp[f],?_⟩,by simp,?_⟩
    .intro k x u q g;simp only[l_,G_]at q g;obtain⟨x0,s,rfl⟩:=q;obtain⟨k',c,rfl⟩:=g;obtain⟨rfl⟩:k'=k:=by rw[E8 (by rw[<-f];exact(E_.1 s).1)]at c;simpa using c.symm
     exact .iv _ (key _ x0 s).2
    .intro k u g;simp only[l_,G_]at g;obtain⟨k',c,rfl⟩:=g;have D:k<n:=by
      rcases D2 k n with z|z;.exact z
      .rw[B7 (by simpa using z)]at c;simp at c
     obtain rfl:k'=k:=by rw[E8 D]at c;simpa using c.symm
     exact h.wr.imm _ _ _ (key k' F[k'] (D_ A_)).1
 .simp at m
end
end Go.TM
namespace Go.TM
open Go
section
variable {P:Program}{O:dE}{K:TM.bD}
theorem aVo{α:Type}{cs vs:List α}{off:Nat}(h:off+vs.length<=cs.length)(k:Nat):(put cs off vs)[k]?=if off<=k/\k<off+vs.length then vs[k-off]? else cs[k]? := by
 unfold put;have a:(cs.take off).length=off:=by simp;omega
 by_cases h1:k<off;.rw[I_ A_,A8,W_ A_,D6,K_ h1]
 .by_cases h2:k<off+vs.length;.rw[K_ A_,A8,t_ A_,a,W_ A_]
  .rw[I_ A_,t_ (by simp;omega),H_,a,F9];congr 1;omega
theorem wT{α:Type}{cs vs:List α}{off:Nat}(h:off+vs.length<=cs.length):(put cs off vs).length=cs.length:=by unfold put;simp;omega
def vB(env env':Env):Prop :=
 env'.length=env.length/\∀j:Nat,env'[j]?=env[j]? \/ ∃cs cs':List TV,env[j]?=some (TV.lb cs)/\env'[j]?=some (TV.lb cs')
theorem vB.refl(env:Env):vB env env:=⟨rfl,fun _=>.inl rfl⟩
theorem VRs.put{M:Mem}{J:aF}{cs vs:Tn_}{b:Array Value}{vals:List Value}{off:Nat}(h:VRs M J [] cs b.toList)(k:VRs M J [] vs vals)(a:off+vs.length<=cs.length): VRs M J [] (put cs off vs) (sH b off vals).toList:=by
 have e:b.size=cs.length:=by simpa using h.1
 refine⟨by rw[wT a,Array.length_toList,eQ,e],fun i x v d c=>?_⟩;rw[aVo a]at d;rw[K3,tG _ _ _ _ (by rw[k.1];omega),k.1]at c;split at d;.rename_i hc;rw[K_ hc]at c;exact k.2 _ x v d c
 .rename_i hc;rw[I_ hc]at c;exact h.2 _ x v d (by simpa using c)
theorem WR.write{M:Mem}{J:aF}{S:aA}{w:World}(h:WR P O M J S w)(own:Tm_){i:Nat}{l:Loc}(j:J.at i l){w':World}{s':aG}(p:BR P O M J w' l s') (q:w'.heap.size=w.heap.size) (f:∀b,b≠l.cb->w'.heap[b]?=w.heap[b]?) (d:w'.os=w.os/\w'.tape=w.tape/\w'.output=w.output) (m:∀o v,M l.cb o=some v->w'.cell? ⟨l.cb,o,none⟩=some v): WR P O M J (S.set i s') w'/\Tr own M J S w M J (S.set i s') w':=by
 refine⟨h.step (by simpa using h.len) (.refl _) (.refl _) ?_ ?_ h.inj (fun k g a=>by rw[q];exact h.lt k g a),?_⟩
 .intro b o v r;by_cases n:b=l.cb;.subst n;exact m o v r
  .rw[dM (f b n)];exact h.imm b o v r
 .intro k g s a c;by_cases hki:k=i
  .subst hki;left;rw[V5]at c;split at c
   .split at c
    .simp at c;subst c;obtain rfl:g=l:=by unfold aF.at at a j;rw[j]at a;simpa using a.symm
     exact p
    .simp at c
   .contradiction
  .right;refine⟨a,?_,f _ (fun e=>hki (h.inj k i g l a j e)),fun _=>rfl⟩;rwa [B3 A_]at c
 .refine⟨d.1,d.2.1,d.2.2,by omega,.refl _,fun _ _ _ _=>rfl,.refl _,fun k g a=>.inr ⟨g,a,rfl⟩,fun k a=>⟨a,?_⟩,fun b n t _=>f b (fun e=>t ⟨i,l,j,e.symm⟩)⟩;rw[B3];rintro rfl;unfold aF.at at j;rw[j]at a;simp at a
theorem nO{M:Mem}{J:aF}{L:Tk_}{S S':aA}{env env':Env}{w:World}(h:MS P O K M J L S env w){a:TV}{vs:Tn_}{va:Value}{vals:List Value} (n:setCells env S a vs=some (env',S')) (ha:VR M J L a va) (y:VRs M J [] vs vals): ∃b o w',va=.pointer (some ⟨b,o,none⟩)/\(storeCells ⟨b,o,none⟩ vals).run P w=.ok () w'/\MS P O K M J L S' env' w'/\Tr (cR L) M J S w M J S' w'/\vB env env':=by
 unfold setCells at n;split at n;.simp at n
 rename_i u;have u:vs.any bH=false:=by simpa using u
 have h1:=y.oneCell u;split at n
 .rename_i j off;cases ha with
  |lp L j off cb hj =>
   split at n
   .rename_i cs0 he;split at n
    .rename_i p;simp only[R_,B4]at n;obtain⟨rfl,rfl⟩:=n;obtain⟨D,W,T,Q,t,e,Z,I,f,q⟩:=h.lb.box j cs0 he;obtain rfl:cb=D:=by rw[hj]at W;simpa using W
     have R:t.size=cs0.length:=by simpa using f.1
     have r:=nN (P:=P) (o:=off) (vs:=vals) I (by rw[y.1];omega) (fun k _ g=>q k (by rw[y.1]at g;omega)) h1;have c:∀b,b≠cb->(w.setCells cb off vals).heap[b]?=w.heap[b]? := fun b F=>jC cb vals off w b F;have G:=mK cb vals off w;have C:=fY I;have tr:Tr (cR L) M J S w M J S (w.setCells cb off vals):=by refine⟨G.1,G.2.1,G.2.2,by rw[iM];exact L_ _,.refl _,fun _ _ _ _=>rfl,.refl _,fun k lk g=>.inr ⟨lk,g,rfl⟩,fun k g=>⟨g,rfl⟩,fun b _ _ U=>c b (fun e=>U ?_)⟩;subst e;exact⟨j,hj⟩
     refine⟨cb,off,_,rfl,r,⟨?_,?_,h.gl⟩,tr,?_⟩;.refine h.wr.step h.wr.len (.refl _) (.refl _) (fun b o v z=>?_) (fun i l s A hs=>.inr ⟨A,hs,c _ (fun e=>T ⟨i,l,A,e⟩),fun _=>rfl⟩) h.wr.inj (fun i l A=>by rw[iM];exact h.wr.lt i l A);rw[dM (c b (fun e=>by subst e;rw[Q]at z;simp at z))];exact h.wr.imm b o v z
     .refine⟨by rw[F5];exact h.lb.len,fun k cs g=>?_,fun k k' cs Y D g h4=>?_⟩
      .by_cases hkj:k=j;.subst hkj;have h0:k<env.length:=(E_.1 he).1;rw[C6 h0]at g;simp at g;subst g;refine⟨cb,hj,T,Q,sH t off vals,e,Z,jU cb vals off w t e Z I,f.put y p,fun o U=>?_⟩;rw[World.frozen?_setCells];exact q o (by rwa [eQ]at U)
       .rw[B3 A_]at g;obtain⟨E,h2,N⟩:=h.lb.box k cs g;exact⟨E,h2,N.step (c _ (fun e=>hkj (h.lb.inj k j cs cs0 cb g he (e▸h2) hj))) (.refl _) (fun _=>rfl) (.refl _) N.1⟩
      .have key:∀(m:Nat) (H:Tn_),(env.set j (TV.lb (put cs0 off vs)))[m]?=some (TV.lb H)->∃cs2:List TV,env[m]?=some (TV.lb cs2):=by
        intro m H z;by_cases hmj:m=j;.subst hmj;exact⟨cs0,he⟩
        .rw[B3 A_]at z;exact⟨H,z⟩
       obtain⟨c1,e1⟩:=key k cs g;obtain⟨c2,e2⟩:=key k' Y h4;exact h.lb.inj k k' c1 c2 D e1 e2
     .refine⟨F5,fun k=>?_⟩;by_cases hkj:k=j;.subst hkj;exact .inr ⟨cs0,_,he,C6 (E_.1 he).1⟩
      .exact .inl (B3 A_)
    .simp at n
   .simp at n
 .rename_i i v off;cases ha with
  |ptr L i ver off l b o A hv' ha =>
   split at n
   .rename_i v' lo cs0 hs;split at n
    .rename_i hc;obtain⟨rfl,p⟩:=hc;simp only[R_,B4]at n;obtain⟨rfl,rfl⟩:=n;have h5:=h.wr.blk i l _ A hs;cases h5 with
     |cells loose cs t e Z hlo I R hfit' f q z htt =>
      obtain⟨rfl,rfl⟩:=ha rfl;have r:=nN (P:=P) (o:=l.d+off) (vs:=vals) I (by rw[y.1];omega) (fun k _ g=>q k (by rw[y.1]at g;omega)) h1;have c:∀b,b≠l.cb->(w.setCells l.cb (l.d+off) vals).heap[b]?=w.heap[b]? := fun b F=>jC l.cb vals _ w b F;obtain⟨h6,tr⟩:=h.wr.write (cR L) A (w':=w.setCells l.cb (l.d+off) vals) (s':=.cells l.ver lo (put cs0 off vs)) (by
       refine .cells lo _ (sH t (l.d+off) vals) e Z hlo (jU _ _ _ _ _ _ _ I) (by rw[eQ];exact R) (by rw[eQ,wT p];exact hfit') (fun k x hx=>?_) (fun o U=>?_) z (fun q1 q2=>by rw[eQ,wT p];exact htt q1 q2)
       .rw[tG _ _ _ _ (by rw[y.1];omega)];rw[aVo p]at hx;split at hx
        .rename_i hc;rw[K_ (by rw[y.1];omega),show l.d+k-(l.d+off)=k-off by omega];have C:k-off<vals.length:=by rw[y.1];omega
         exact⟨vals[k-off],D_ C,y.2 _ x _ hx (D_ C)⟩
        .rename_i hc;rw[I_ (by rw[y.1];omega)];exact f k x hx
       .rw[World.frozen?_setCells];exact q o (by rwa [eQ]at U)) (iM _ _ _ _) c (mK _ _ _ _) (fun o v V=>by rw[z]at V;simp at V)
      refine⟨l.cb,l.d+off,_,rfl,r,?_,tr,.refl _⟩;refine⟨h6,?_,h.gl⟩;refine⟨h.lb.len,fun k cs g=>?_,h.lb.inj⟩;obtain⟨E,h2,N⟩:=h.lb.box k cs g;exact⟨E,h2,N.step (c _ (fun e=>N.1 ⟨i,l,A,e.symm⟩)) (.refl _) (fun _=>rfl) (.refl _) N.1⟩
    .simp at n
   .simp at n
 .simp at n
def Mem.ext(M:Mem)(n:Nat)(N:Nat->Option Value):Mem:=fun b o=>if b=n then N o else M b o
theorem WR.none_at{M:Mem}{J:aF}{S:aA}{w:World}(h:WR P O M J S w)(o:Nat):M w.heap.size o=none:=by
 cases hm:M w.heap.size o with
 |none=>rfl
 |some v=>exact absurd (h.mlt hm) A_
theorem WR.mle_ext{M:Mem}{J:aF}{S:aA}{w:World}(h:WR P O M J S w)(N:Nat->Option Value):MLe M (M.ext w.heap.size N):=by intro b o v a;unfold Mem.ext;rw[I_ (by have:=h.mlt a;omega)];exact a
theorem WR.has_lt{M:Mem}{J:aF}{S:aA}{w:World}(h:WR P O M J S w){b:Nat}(c:J.has b):b<w.heap.size:=by obtain⟨i,l,a,rfl⟩:=c;exact h.lt i l a
theorem cS(w:World)(o:Obj){b:Nat}(h:b≠w.heap.size):(w.alloc o).heap[b]?=w.heap[b]? := by show(w.heap.push o)[b]?=_;rw[Array.getElem?_push,I_ A_]
theorem cX(w:World)(o:Obj):(w.alloc o).heap[w.heap.size]?=some o:=by show(w.heap.push o)[w.heap.size]?=_;simp
theorem WR.alloc{M:Mem}{J:aF}{S:aA}{w:World}(h:WR P O M J S w)(own:Tm_)(d:Obj)(N:Nat->Option Value) (j:∀o v,N o=some v->(w.alloc d).cell? ⟨w.heap.size,o,none⟩=some v): WR P O (M.ext w.heap.size N) J S (w.alloc d)/\Tr own M J S w (M.ext w.heap.size N) J S (w.alloc d):=by
 have a:=h.mle_ext N;refine⟨h.step h.len a (.refl _) ?_ ?_ h.inj (fun i l c=>by have:=h.lt i l c;simp;omega),?_⟩
 .intro b o v f;unfold Mem.ext at f;split at f;.rename_i e;subst e;exact j o v f
  .rename_i e;rw[dM (cS w d e)];exact h.imm b o v f
 .intro i l s c g;refine .inr ⟨c,g,cS w d (by have:=h.lt i l c;omega),fun o=>?_⟩;unfold Mem.ext;rw[I_ (by have:=h.lt i l c;omega)]
 .refine⟨rfl,rfl,rfl,by simp,a,fun b o e _=>?_,.refl _,fun i l c=>.inr ⟨l,c,rfl⟩,fun i k=>⟨k,rfl⟩,fun b e _ _=>cS w d A_⟩;unfold Mem.ext;rw[I_ A_]
theorem tJ{M:Mem}{n:Nat}(h:∀o,M n o=none):M.ext n (fun _=>none)=M:=by
 funext b o;unfold Mem.ext;split;.rename_i hb;subst hb;exact(h o).symm
 .rfl
theorem WR.drew{M:Mem}{J:aF}{S:aA}{w:World}(h:WR P O M J S w)(own:Tm_):WR P O M J S w.drew/\Tr own M J S w M J S w.drew :=
  ⟨h.step h.len (.refl _) (.refl _) h.imm (fun _ _ _ a b=>.inr ⟨a,b,rfl,fun _=>rfl⟩) h.inj h.lt,
   ⟨rfl,rfl,rfl,L_ _,.refl _,fun _ _ _ _=>rfl,.refl _,fun _ l a=>.inr ⟨l,a,rfl⟩,fun _ c=>⟨c,rfl⟩,fun _ _ _ _=>rfl⟩⟩
theorem mB{J:aF}{x:Option Loc}{i:Nat}{l:Loc}(h:aF.at (J++[x]) i l):J.at i l\/(i=J.length/\x=some l):=by
 unfold aF.at at h |-;rw[F0]at h;split at h;.exact .inl h
 .rename_i hn;right;have:i-J.length=0:=by
   rcases U4 (i-J.length)with h'|h';.exact h'
   .rw[B7 (by simp;omega)]at h;simp at h
  rw[this]at h;simp at h;exact⟨by omega,h⟩
theorem aMu{J:aF}(x:Option Loc){i:Nat}{l:Loc}(h:J.at i l):aF.at (J++[x]) i l:=by unfold aF.at at h |-;rw[W_ (E_.1 h).1];exact h
theorem JLe.push(J:aF)(x:Option Loc):JLe J (J++[x]):=⟨by simp,fun i l h=>⟨l,aMu x h,.inl rfl⟩⟩
theorem WR.push{M:Mem}{J:aF}{S:aA}{w:World}(h:WR P O M J S w)(own:Tm_)(g:Obj)(N:Nat->Option Value)(l:Loc)(s:aG)(z:l.cb=w.heap.size) (y:∀o v,N o=some v->(w.alloc g).cell? ⟨w.heap.size,o,none⟩=some v) (r:BR P O (M.ext w.heap.size N) (J++[some l]) (w.alloc g) l s): WR P O (M.ext w.heap.size N) (J++[some l]) (S++[s]) (w.alloc g)/\Tr own M J S w (M.ext w.heap.size N) (J++[some l]) (S++[s]) (w.alloc g):=by
 have d:=h.mle_ext N;refine⟨h.step (by simp[h.len]) d (.push _ _) ?_ ?_ ?_ ?_,?_⟩
 .intro b o v n;unfold Mem.ext at n;split at n;.rename_i m;subst m;exact y o v n
  .rename_i m;rw[dM (cS w g m)];exact h.imm b o v n
 .intro i f t a q;rcases mB a with a|⟨rfl,c⟩
  .right;have j:=h.lt i f a;refine⟨a,?_,cS w g A_,fun o=>?_⟩;.rwa [W_ (by rw[<-h.len];exact(E_.1 a).1)]at q
   .unfold Mem.ext;rw[I_ A_]
  .left;simp at c;subst c;rw[h.len]at q;simp at q;subst q;exact r
 .intro i k f x a p e;rcases mB a with a|⟨rfl,c⟩<;>rcases mB p with p|⟨rfl,u⟩;.exact h.inj i k f x a p e
  .simp at u;subst u;have:=h.lt i f a;omega
  .simp at c;subst c;have:=h.lt k x p;omega
  .rfl
 .intro i f a;rcases mB a with a|⟨rfl,c⟩;.have:=h.lt i f a;simp;omega
  .simp at c;subst c;simp;omega
 .refine⟨rfl,rfl,rfl,by simp,d,fun b o m _=>?_,.push _ _,fun i f a=>?_,fun i a=>?_,fun b m _ _=>cS w g A_⟩;.unfold Mem.ext;rw[I_ A_]
  .rcases mB a with a|⟨rfl,c⟩;.exact .inr ⟨f,a,rfl⟩
   .simp at c;subst c;exact .inl A_
  .have j:=(E_.1 a).1;exact⟨by rw[W_ j];exact a,by rw[W_ (by rw[<-h.len];exact j)]⟩
def bQe(M:Mem)(J:aF)(L:List (Option Nat))(r:Next)(v:TV):Prop:=(∃v',r=.value v'/\VR M J L v v')\/(r=.skip/\v=undef)
def EL(w:World)(jx:Option Nat)(env env':Env)(L L':List (Option Nat)):Prop :=
 match jx with
 |none=>L'=L/\vB env env'
 |some j=>∃cs cb,env'=env.set j (.lb cs)/\L'=L.set j (some cb)/\w.heap.size<=cb
def aP:TOp->Option Nat
 |.allocL j _ | .boxL j _=>some j
 |_=>none
variable (P O K) in
def cJ(top:TOp)(M:Mem)(J:aF)(L:List (Option Nat))(S:aA)(env:Env)(w:World)(s:Sem Next)(v:TV)(env':Env)(S':aA):Prop :=
 ∃M' J' L' w' r,s.run P w=.ok r w'/\bQe M' J' L' r v/\MS P O K M' J' L' S' env' w'/\Tr (cR L) M J S w M' J' S' w'/\EL w (aP top) env env' L L'
variable {M:Mem}{J:aF}{L:List (Option Nat)}{S S':aA}{env env':Env}{w:World}
theorem cJ.pure{top:TOp}(a:aP top=none)(h:MS P O K M J L S env w){s:Sem Next}{v:TV}{v':Value}(c:s.run P w=.ok (.value v') w)(b:VR M J L v v'):cJ P O K top M J L S env w s v env S :=
 ⟨M,J,L,w,.value v',c,.inl ⟨v',rfl,b⟩,h,.refl _ _ _ _ _,by rw[a];exact⟨rfl,.refl _⟩⟩
theorem VR.int_inv{k:IntKind}{n:Int}{v:Value}(h:VR M J L (.iv (.int k n)) v):v=.int k n:=by cases h.iv_inv;rfl
theorem VR.bool_inv{b:Bool}{v:Value}(h:VR M J L (.iv (.bool b)) v):v=.bool b:=by cases h.iv_inv;rfl
theorem VR.str_inv{s:List UInt8}{v:Value}(h:VR M J L (.iv (.str s)) v):v=.string ⟨s.toArray⟩:=by cases h.iv_inv;rfl
theorem kW{x:TV}{n:Int}{v:Value}(h:eX x=some n)(a:VR M J L x v):∃k,v=.int k n:=by
 unfold eX at h;split at h;.simp at h;subst h;exact⟨_,a.int_inv⟩
 .simp at h
theorem zX{x:TV}{b:Bool}{v:Value}(h:zR x=some b)(a:VR M J L x v):v=.bool b:=by
 unfold zR at h;split at h;.simp at h;subst h;exact a.bool_inv
 .simp at h
theorem aMv{v:Value}{a:IV}(h:aHf v=some a):IR M a v:=by
 unfold aHf at h;split at h<;>simp at h<;>subst h;.exact .bool _
 .exact .int _ _
 .rename_i s;have:(⟨s.data.toList.toArray⟩:ByteArray)=s:=B_;rw[show Value.string s=Value.string ⟨s.data.toList.toArray⟩ by rw[this]];exact .str _
 .exact .nilp
 .exact .slNil
 .exact .nilm
 .exact .nilf
 .exact .nili
theorem yA:∀ {vs:List Value} {l:Tq_},xW vs=some l->l.length=vs.length/\∀(i:Nat) (x:IV) (v:Value),l[i]?=some x->vs[i]?=some v->IR M x v
 |[],l,h=>by simp[xW]at h;subst h;exact⟨rfl,fun i x v h=>by simp at h⟩
 |v::r,l,h=>by
  simp only[xW]at h;split at h
  .rename_i a l' h1 h2;simp at h;subst h;obtain⟨e,d⟩:=yA h2;refine⟨by simp[e],fun i x u b c=>?_⟩;cases i with
   |zero=>simp at b c;subst b;subst c;exact aMv h1
   |succ i=>exact d i x u (by simpa using b) (by simpa using c)
  .simp at h
theorem aVp{v:Value}{a:IV}(h:bMp v=some a):IR M a v:=by
 unfold bMp at h;split at h;.rename_i cs;simp only[G_]at h;obtain⟨l,c,rfl⟩:=h;obtain⟨e,f⟩:=yA (M:=M) c;exact .agg _ _ (by simpa using e.symm) (fun i x u b d=>f i x u b (by simpa using d))
 .exact aMv h
theorem aVq{o:Oper}{x:Operand}(b:o.op=.move x\/o.op=.assign x)(a:Act)(h:MS P O K M J L S env w){e:TV}(c:VR M J L e (a.eval x)){d:aH}:cJ P O K (.mov d) M J L S env w (execOp a.eval o) e env S:=by refine .pure rfl h ?_ c;rcases b with b|b<;>simp[execOp,b]
theorem bE6{o:Oper}{c x y:Operand}(b:o.op=.pick c x y)(a:Act)(h:MS P O K M J L S env w){d e2 e3:TV}{t:Bool}(i:VR M J L d (a.eval c))(j:VR M J L e2 (a.eval x))(k:VR M J L e3 (a.eval y)) (e:zR d=some t) {c' g f:aH}:cJ P O K (.pick c' g f) M J L S env w (execOp a.eval o) (if t then e2 else e3) env S:=by
 have:=zX e i;refine .pure rfl h (v':=if t then a.eval x else a.eval y) ?_ ?_;.simp only[execOp,b,this,asBool];cases t<;>simp
 .cases t<;>simpa
theorem aD1{x:TV}{v:Value}(h:aAz x=true)(a:VR M J L x v):∃p,v=.pointer (some p):=by
 cases a with
 |iv L hr=>cases hr<;>first|exact⟨_,rfl⟩|simp[aAz]at h
 |lp=>exact⟨_,rfl⟩
 |ptr=>exact⟨_,rfl⟩
 |_=>simp[aAz]at h
theorem aJ8{o:Oper}{x:Operand}(c:o.op=.nilCheck x)(a:Act)(h:MS P O K M J L S env w){e:TV}(d:VR M J L e (a.eval x))(g:aAz e=true){f:aH}: cJ P O K (.nilCheck f) M J L S env w (execOp a.eval o) e env S:=by obtain⟨p,b⟩:=aD1 g d;refine .pure rfl h (v':=.pointer (some p)) ?_ (b▸d);simp[execOp,c,b]
theorem aX0{op:BinOp}{k:IntKind}{x y:Int}{r:IV}(h:jS op k x y=some r)(a:op≠.shl/\op≠.shr)(t:TypeId):∃v,(Go.binOp op t (.int k x) (.int k y)).run P w=.ok v w/\IR M r v:=by
 cases op<;>simp[jS]at h<;>first
  |(exact absurd rfl a.1;done)
  |(exact absurd rfl a.2;done)
  |(subst h;exact⟨_,by simp[Go.binOp,Go.Op.intArith,Go.Op.intBits,Go.Op.intCmp];rfl,by constructor⟩)
  |(obtain⟨b,rfl⟩:=h;exact⟨_,by simp[Go.binOp,Go.Op.intDiv,b];rfl,by constructor⟩)
theorem aA3{op:BinOp}{k k':IntKind}{x y:Int}{r:IV}(h:xT op k x y=some r)(t:TypeId):∃v,(Go.binOp op t (.int k x) (.int k' y)).run P w=.ok v w/\IR M r v:=by
 unfold xT at h;split at h;.simp at h
 .rename_i hy;split at h;.simp at h;subst h;exact⟨_,by simp[Go.binOp,Go.Op.shift,hy];rfl,by constructor⟩
  .simp at h;subst h;exact⟨_,by simp[Go.binOp,Go.Op.shift,hy];rfl,by constructor⟩
  .simp at h
theorem oX(l:List UInt8):(⟨l.toArray⟩:ByteArray).size=l.length:=by simp[ByteArray.size]
theorem aX1(x y:List UInt8):(⟨x.toArray⟩++⟨y.toArray⟩:ByteArray)=⟨(x++y).toArray⟩:=by apply Z6;apply M5;rw[ByteArray.toList_data_append]
theorem aX2{op:BinOp}{x y:List UInt8}{r:IV}(h:aVn op x y=some r)(t:TypeId):∃v,(Go.binOp op t (.string ⟨x.toArray⟩) (.string ⟨y.toArray⟩)).run P w=.ok v w/\IR M r v:=by
 by_cases hadd:op=.add
 .subst hadd;unfold aVn at h;simp only at h;split at h
  .rename_i hle;simp at h;subst h;refine⟨.string ⟨(x++y).toArray⟩,?_,.str _⟩;have:¬(((x.length+y.length:Nat):Int)>IntKind.i64.max):=by have:IntKind.i64.max=9223372036854775807:=rfl;rw[this];omega
   simp only[Go.binOp,Go.Op.stringOp,oX];rw[I_ this,aX1];rfl
  .simp at h
 .cases op<;>simp[aVn]at h<;>first
   |(subst h;exact⟨_,by simp[Go.binOp,Go.Op.stringOp];rfl,by constructor⟩)
   |(exact absurd rfl hadd)
def aJ9:Value->Bool
 |.agg _ | .nilIface=>false
 |_=>true
theorem oY(op:BinOp)(t:TypeId)(x y:Operand){a b:Value}(h:aJ9 a=true):(eqGuard op t x y a b).run P w=.ok () w:=by
 unfold eqGuard;cases op<;>try rfl
 all_goals (cases a<;>first|rfl|simp[aJ9]at h)
theorem aX3{op:BinOp}{x y:TV}{r:IV}(h:binOp op x y=some r){a b:Value}(c:VR M J L x a)(d:VR M J L y b)(t:TypeId):aJ9 a=true/\∃v,(Go.binOp op t a b).run P w=.ok v w/\IR M r v:=by
 unfold binOp at h;split at h
 .rename_i k n k' n';rw[c.int_inv,d.int_inv];refine⟨rfl,?_⟩;split at h;.exact aA3 h t
  .exact aA3 h t
  .rename_i h1 h2;split at h;.rename_i hk;subst hk;exact aX0 h ⟨h1,h2⟩ t
   .simp at h
 .rw[c.str_inv,d.str_inv];exact⟨rfl,aX2 h t⟩
 .simp at h
theorem bMr{o:Oper}{op:BinOp}{t u:TypeId}{x y:Operand}(b:o.op=.binOp op t x y u)(a:Act)(h:MS P O K M J L S env w){c e2:TV}(i:VR M J L c (a.eval x))(j:VR M J L e2 (a.eval y)){r:IV} (g:binOp op c e2=some r) {e d:aH}:cJ P O K (.bin op e d) M J L S env w (execOp a.eval o) (.iv r) env S:=by obtain⟨f,v,k,l⟩:=aX3 (P:=P) (w:=w) g i j t;refine .pure rfl h (v':=v) ?_ (.iv _ l);simp[execOp,b,oY op t x y f,k]
theorem mL(t:TypeId)(x y:Value):Go.Op.equal t x y=Go.Op.equalIn (9999+1) t x y:=rfl
def bSs(P:Program)(t:TypeId):EK->Prop
 |.bool=>P.underlying t=some .bool
 |.ptr=>∃e,P.underlying t=some (.pointer e)
 |.sl=>∃e,P.underlying t=some (.slice e)
 |.mp=>∃k e,P.underlying t=some (.map k e)
 |.fn=>∃a b c,P.underlying t=some (.func a b c)
theorem bE7{t:TypeId}{k:EK}(h:rI P t=some (.b k)):bSs P t k:=by
 unfold rI at h;split at h<;>try (simp at h;done)
 all_goals first
  |(simp at h;subst h;simp[bSs, *];done)
  |(split at h<;>simp at h)
theorem aMw{k:EK}{x y:TV}{b:Bool}(h:eqB k x y=some b){t:TypeId}(f:bSs P t k){u v:Value}(g:VR M J L x u)(j:VR M J L y v):aJ9 u=true/\(Go.Op.equal t u v).run P w=.ok b w /\(∀op,(op=.eql\/op=.neq)->Go.binOp op t u v=(do let b <-Go.Op.equal t u v;Pure.pure (Value.bool (if op=.neq then !b else b)))):=by
 have m:∀d,P.underlying t=some d->(Go.underlying t).run P w=.ok d w:=fun d C=>run_underlying C w;unfold eqB at h;split at h
 .split at h
  .simp at h;subst h;rw[g.bool_inv,j.bool_inv];refine⟨rfl,?_,fun op o=>?_⟩;.rw[mL,Go.Op.equalIn];simp only[Sem.run_bind,m _ f];rfl
   .rcases o with rfl|rfl<;>simp[Go.binOp]
  .simp at h
 .obtain⟨e,f⟩:=f;have key:∀p q:Option Addr,(p=none\/q=none)->(Go.Op.equal t (.pointer p) (.pointer q)).run P w=.ok (p.isNone&&q.isNone) w:=by intro p q r;rw[mL,Go.Op.equalIn];simp only[Sem.run_bind,m _ f];cases p<;>cases q<;>first|rfl|(simp at r;done)
  have n:∀(p q:Option Addr) op,(op=.eql\/op=.neq)->Go.binOp op t (.pointer p) (.pointer q)=(do let b <-Go.Op.equal t (.pointer p) (.pointer q);Pure.pure (Value.bool (if op=.neq then !b else b))):=by intro p q op o;rcases o with rfl|rfl<;>simp[Go.binOp]
  split at h
  .simp at h;subst h;cases g.iv_inv;cases j.iv_inv
   exact⟨rfl,key none none (.inl rfl),n _ _⟩
  .split at h
   .rename_i z;simp at h;subst h;cases g.iv_inv
    obtain⟨p,rfl⟩:=aD1 z j;exact⟨rfl,by simpa using key none (some p) (.inl rfl),n _ _⟩
   .simp at h
  .split at h
   .rename_i z;simp at h;subst h;cases j.iv_inv
    obtain⟨p,rfl⟩:=aD1 z g;exact⟨rfl,by simpa using key (some p) none (.inr rfl),n _ _⟩
   .simp at h
  .simp at h
 .obtain⟨e,f⟩:=f;have key:∀(p q:Option Addr) (a b c d:Nat),(p=none\/q=none)->(Go.Op.equal t (.slice p a b) (.slice q c d)).run P w=.ok (p.isNone&&q.isNone) w:=by intro p q a b c d r;rw[mL,Go.Op.equalIn];simp only[Sem.run_bind,m _ f];cases p<;>cases q<;>first|rfl|(simp at r;done)
  have n:∀(p q:Option Addr) (a b c d:Nat) op,(op=.eql\/op=.neq)->Go.binOp op t (.slice p a b) (.slice q c d)=(do let e <-Go.Op.equal t (.slice p a b) (.slice q c d);Pure.pure (Value.bool (if op=.neq then !e else e))):=by intro p q a b c d op o;rcases o with rfl|rfl<;>simp[Go.binOp]
  have i:∀ {l:Tp_} {u:Value},VR M J L (.iv (.sl .nil l)) u->u=.slice none 0 0:=by
   intro l u g;cases g.iv_inv with
   |slNil=>rfl
   |sl t l b off cap es vals f hes hcap hfull hm j=>exact absurd rfl f
   |slE t a f=>exact absurd rfl f
  have s:∀ {A:Tag} {l:Tp_} {u:Value},VR M J L (.iv (.sl A l)) u->∃p a b,u=.slice p a b/\p.isNone=(A==.nil):=by
   intro A l u g;cases g.iv_inv with
   |slNil=>exact⟨_,_,_,rfl,rfl⟩
   |sl t l b off cap es vals f hes hcap hfull hm j=>exact⟨_,_,_,rfl,by cases A<;>first|rfl|exact absurd rfl f⟩
   |slE t a f=>exact⟨_,_,_,rfl,by cases A<;>first|rfl|exact absurd rfl f⟩
  split at h;.simp at h;subst h;rw[i g];obtain⟨p,a,b,rfl,z⟩:=s j;exact⟨rfl,by rw[key _ _ _ _ _ _ (.inl rfl),z];rfl,n _ _ _ _ _ _⟩
  .simp at h;subst h;rw[i j];obtain⟨p,a,b,rfl,z⟩:=s g;exact⟨rfl,by rw[key _ _ _ _ _ _ (.inr rfl),z];simp,n _ _ _ _ _ _⟩
  .simp at h;subst h;rw[i g];cases j
   exact⟨rfl,by rw[key _ _ _ _ _ _ (.inl rfl)];rfl,n _ _ _ _ _ _⟩
  .simp at h;subst h;rw[i j];cases g
   exact⟨rfl,by rw[key _ _ _ _ _ _ (.inr rfl)];rfl,n _ _ _ _ _ _⟩
  .simp at h;subst h;rw[i g];cases j
   exact⟨rfl,by rw[key _ _ _ _ _ _ (.inl rfl)];rfl,n _ _ _ _ _ _⟩
  .simp at h;subst h;rw[i j];cases g
   exact⟨rfl,by rw[key _ _ _ _ _ _ (.inr rfl)];rfl,n _ _ _ _ _ _⟩
  .simp at h
 .obtain⟨k,e,f⟩:=f;have n:∀(p q:Option Nat) op,(op=.eql\/op=.neq)->Go.binOp op t (.map p) (.map q)=(do let e <-Go.Op.equal t (.map p) (.map q);Pure.pure (Value.bool (if op=.neq then !e else e))):=by intro p q op o;rcases o with rfl|rfl<;>simp[Go.binOp]
  have key:∀(p q:Option Nat),(p=none\/q=none)->(Go.Op.equal t (.map p) (.map q)).run P w=.ok (p.isNone&&q.isNone) w:=by intro p q r;rw[mL,Go.Op.equalIn];simp only[Sem.run_bind,m _ f];cases p<;>cases q<;>first|rfl|(simp at r;done)
  split at h
  .simp at h;subst h;cases g.iv_inv;cases j.iv_inv
   exact⟨rfl,key _ _ (.inl rfl),n _ _⟩
  .simp at h;subst h;cases g.iv_inv;cases j
   exact⟨rfl,key _ _ (.inl rfl),n _ _⟩
  .simp at h;subst h;cases j.iv_inv;cases g
   exact⟨rfl,key _ _ (.inr rfl),n _ _⟩
  .simp at h
 .obtain⟨E,F,D,f⟩:=f;split at h
  .simp at h;subst h;cases g.iv_inv;cases j.iv_inv
   refine⟨rfl,?_,fun op o=>?_⟩;.rw[mL,Go.Op.equalIn];simp only[Sem.run_bind,m _ f];rfl
   .rcases o with rfl|rfl<;>simp[Go.binOp]
  .simp at h;subst h;cases g.iv_inv;cases j
   refine⟨rfl,?_,fun op o=>?_⟩;.rw[mL,Go.Op.equalIn];simp only[Sem.run_bind,m _ f];rfl
   .rcases o with rfl|rfl<;>simp[Go.binOp]
  .simp at h;subst h;cases j.iv_inv;cases g
   refine⟨rfl,?_,fun op o=>?_⟩;.rw[mL,Go.Op.equalIn];simp only[Sem.run_bind,m _ f];rfl
   .rcases o with rfl|rfl<;>simp[Go.binOp]
  .simp at h
theorem bMs{o:Oper}{op:BinOp}{t u:TypeId}{x y:Operand}(c:o.op=.binOp op t x y u)(e:op=.eql\/op=.neq){k:EK}(p:rI P t=some (.b k))(a:Act)(h:MS P O K M J L S env w){d e2:TV} (n:VR M J L d (a.eval x)) (q:VR M J L e2 (a.eval y)) {b:Bool} (m:eqB k d e2=some b) {i g:aH}: cJ P O K (.eqB (op==.neq) k i g) M J L S env w (execOp a.eval o) (.iv (.bool (if(op==.neq)=true then !b else b))) env S:=by obtain⟨j,l,f⟩:=aMw (P:=P) (w:=w) m (bE7 p) n q;refine .pure rfl h (v':=.bool (if(op==.neq)=true then !b else b)) ?_ (.iv _ (.bool _));simp only[execOp,c,Sem.run_bind,oY op t x y j,Result.andThen_ok,f op e,l];rcases e with rfl|rfl<;>rfl
end
end Go.TM
namespace Go.TM
open Go
section
variable {P:Program}{O:dE}{K:TM.bD}
variable {M:Mem}{J:aF}{L:List (Option Nat)}{S S':aA}{env env':Env}{w:World}
theorem und{t:TypeId}{d:TypeDesc}(h:P.underlying t=some d)(w:World):(underlying t).run P w=.ok d w:=run_underlying h w
theorem rK{t:TypeId}{k:LK}(a:vT P t=some k){x y:IV}{r:Bool}(h:gK k x y=some r){u v:Value}(b:IR M x u)(c:IR M y v)(d:Nat):(Go.Op.equalIn (d+1) t u v).run P w=.ok r w:=by
 unfold vT at a;unfold gK at h;split at h
 .cases b;cases c
  simp at h;subst h;split at a<;>simp at a;rename_i hd;exact run_equalIn_bool' w d t _ _ hd
 .cases b;cases c
  split at h;.rename_i hk;subst hk;simp at h;subst h;split at a<;>simp at a;rename_i hd;exact run_equalIn_int w d t _ _ _ _ hd
  .simp at h
 .cases b;cases c
  simp at h;subst h;split at a<;>simp at a;rename_i hd;rw[run_equalIn_string w d t _ _ hd];simp
 .simp at h
theorem aD2{t:TypeId}{k:LK}(a:vT P t=some k)(w:World):(isAgg t).run P w=.ok false w:=by unfold vT at a;unfold isAgg;split at a<;>simp at a<;>(rename_i hd;simp only[Sem.run_bind,und hd w];rfl)
theorem iN{t:TypeId}{k:LK}(a:vT P t=some k){cs:Array Value}{off:Nat}{v:Value}(h:cs[off]?=some v):(part t cs off).run P w=.ok v w:=by unfold part;simp only[Sem.run_bind,aD2 a,Result.andThen_ok];simp[h]
theorem aCl{cs:Tq_}{vs:Array Value}(b:vs.size=cs.length)(c:∀(i:Nat) (x:IV) (u:Value),cs[i]?=some x->vs[i]?=some u->IR M x u){i:Nat}{x:IV}(h:cs[i]?=some x):∃u,vs[i]?=some u/\IR M x u:=by
 have a:i<vs.size:=by rw[b];exact(E_.1 h).1
 exact⟨vs[i],A4 a,c i x _ h (A4 a)⟩
theorem vU(d:Nat){cs ds:Tq_}{xs ys:Array Value}(j:xs.size=cs.length)(m:∀(i:Nat) (x:IV) (u:Value),cs[i]?=some x->xs[i]?=some u->IR M x u) (a:ys.size=ds.length) (b:∀(i:Nat) (x:IV) (u:Value),ds[i]?=some x->ys[i]?=some u->IR M x u):∀ {g:List Field} {cK:List (Nat×LK)} {r:Bool},wP P g=some cK->eV cs ds cK=some r ->(Go.Op.eqFields (d+1) xs ys g).run P w=.ok r w
 |[],cK,r,h1,h2=>by simp[wP]at h1;subst h1;simp[eV]at h2;subst h2;simp[Go.Op.eqFields]
 |f::g,cK,r,h1,h2=>by
  simp only[wP]at h1;split at h1
  .rename_i hn;split at h1
   .rename_i k l hk hl;simp at h1;subst h1;simp only[eV]at h2;split at h2
    .rename_i x y hx hy;obtain⟨u,n,c⟩:=aCl j m hx;obtain⟨v,h,e⟩:=aCl a b hy;simp only[Go.Op.eqFields,K_ hn,Sem.run_bind,iN hk n,iN hk h,Result.andThen_ok];split at h2;.rename_i he;rw[rK hk he c e];simp only[Result.andThen_ok,E4,Y_,I5];exact vU d j m a b hl h2
     .rename_i he;simp at h2;subst h2;rw[rK hk he c e];simp
     .simp at h2
    .simp at h2
   .simp at h1
  .simp at h1
theorem yB(d:Nat){e:TypeId}{k:LK}(f:vT P e=some k)(h:P.cellsOf e=1){cs ds:Tq_}{xs ys:Array Value}(m:xs.size=cs.length)(n:∀(i:Nat) (x:IV) (u:Value),cs[i]?=some x->xs[i]?=some u->IR M x u) (a:ys.size=ds.length) (b:∀(i:Nat) (x:IV) (u:Value),ds[i]?=some x->ys[i]?=some u->IR M x u):∀ {j:Tc_} {r:Bool},eV cs ds (j.map fun i=>(i,k))=some r ->(Go.Op.eqItems (d+1) e (P.cellsOf e) xs ys j).run P w=.ok r w
 |[],r,h2=>by simp[eV]at h2;subst h2;simp[Go.Op.eqItems]
 |i::j,r,h2=>by
  simp only[Q_,eV]at h2;split at h2
  .rename_i x y hx hy;obtain⟨u,o,c⟩:=aCl m n hx;obtain⟨v,l,g⟩:=aCl a b hy;have p:(part e xs (i*P.cellsOf e)).run P w=.ok u w:=by rw[h,H9];exact iN f o
   have e2:(part e ys (i*P.cellsOf e)).run P w=.ok v w:=by rw[h,H9];exact iN f l
   simp only[Go.Op.eqItems,Sem.run_bind,p,e2,Result.andThen_ok];split at h2;.rename_i he;rw[rK f he c g];simp only[Result.andThen_ok,E4,Y_,I5];exact yB d f h m n a b h2
   .rename_i he;simp at h2;subst h2;rw[rK f he c g];simp
   .simp at h2
  .simp at h2
theorem aA4{t:TypeId}{a:Array Field}(h:P.underlying t=some (.struct a)):P.fieldsOf t=a:=by simp[Program.fieldsOf,h]
theorem cellsOf_size?{t:TypeId}{n:Nat}(h:sizeOf? P t=some n):P.cellsOf t=n/\∃i,P.info? t=some i/\i.size=n:=by unfold sizeOf? at h;simp only[G_]at h;obtain⟨i,b,a⟩:=h;exact⟨by simp[Program.cellsOf,b,a],i,b,a⟩
theorem run_size?{t:TypeId}{n:Nat}(h:sizeOf? P t=some n)(w:World):(sizeOf t).run P w=.ok n w:=by obtain⟨a,i,b,_⟩:=cellsOf_size? h;rw[run_sizeOf w b,a]
theorem tK{t:TypeId}{cK:List (Nat×LK)}(a:mJ P t=some cK){cs ds:Tq_}{xs ys:Array Value}(d:xs.size=cs.length)(f:∀(i:Nat) (x:IV) (u:Value),cs[i]?=some x->xs[i]?=some u->IR M x u) (b:ys.size=ds.length) (c:∀(i:Nat) (x:IV) (u:Value),ds[i]?=some x->ys[i]?=some u->IR M x u) {r:Bool} (h:eV cs ds cK=some r):(Go.Op.equal t (.agg xs) (.agg ys)).run P w=.ok r w:=by
 rw[mL];unfold mJ at a;split at a
 .rename_i fs hu;split at a;.simp at a
  .rename_i hsi;rw[run_equalIn_struct w 9999 t xs ys (by rw[aA4 hu];exact hu) (by simpa using hsi),aA4 hu];exact vU 9998 d f b c a h
 .rename_i n e hu;split at a
  .rename_i k hk;split at a;.rename_i hsz;simp at a;subst a;obtain⟨j,i,g,_⟩:=cellsOf_size? hsz;rw[run_equalIn_array w 9999 xs ys hu g];exact yB 9998 hk j d f b c h
   .simp at a
  .simp at a
 .simp at a
theorem aQx{t:TypeId}{cK:List (Nat×LK)}(h:rI P t=some (.agg cK)):mJ P t=some cK/\P.eqGuardType P.depth t=false:=by
 unfold rI at h;split at h<;>try (simp at h;done)
 all_goals
  split at h
  .simp at h
  .rename_i hg
   simp only[G_]at h
   obtain⟨o,b,a⟩:=h
   simp at a;subst a
   exact⟨b,by simpa using hg⟩
theorem aX4{o:Oper}{op:BinOp}{t u:TypeId}{x y:Operand}(f:o.op=.binOp op t x y u)(E:op=.eql\/op=.neq){cK:List (Nat×LK)}(A:rI P t=some (.agg cK))(a:Act)(h:MS P O K M J L S env w) {j e2:TV} (n:VR M J L j (a.eval x)) (C:VR M J L e2 (a.eval y)) {r:IV} (c:eqAgg (op==.neq) cK j e2=some r) {q p:aH}: cJ P O K (.eqAgg (op==.neq) cK q p) M J L S env w (execOp a.eval o) (.iv r) env S:=by
 obtain⟨z,s⟩:=aQx A;unfold eqAgg at c;split at c;.rename_i cs ds;simp only[G_]at c;obtain⟨b,m,rfl⟩:=c;obtain⟨xs,i,l,D⟩:=n.iv_inv.agg_inv;obtain⟨ys,g,e,d⟩:=C.iv_inv.agg_inv;have k:=tK (P:=P) (w:=w) z l D e d m;refine .pure rfl h (v':=.bool (if(op==.neq)=true then !b else b)) ?_ (.iv _ (.bool _));simp only[execOp,f,i,g,Sem.run_bind,run_eqGuard_agg w op t x y xs ys s,Result.andThen_ok];rcases E with rfl|rfl<;>simp[Go.binOp,k]<;>rfl
 .simp at c
theorem bSt{o:Oper}{op:UnOp}{t:TypeId}{x:Operand}(c:o.op=.unOp op t x)(a:Act)(h:MS P O K M J L S env w){e:TV}(d:VR M J L e (a.eval x)){r:IV}(b:unOp op e=some r){f:aH}: cJ P O K (.un op f) M J L S env w (execOp a.eval o) (.iv r) env S:=by
 unfold unOp at b;split at b;.rw[show jS .sub _ 0 _=some _ from rfl]at b;rw[R_]at b;subst b;refine .pure rfl h (v':=.int _ _) ?_ (.iv _ (.int _ _));simp only[execOp,c,d.int_inv,Go.Op.unary,Go.Op.intArith];rfl
 .rw[show jS .xor _ _ _=some _ from rfl]at b;simp at b;subst b;refine .pure rfl h (v':=.int _ _) ?_ (.iv _ (.int _ _));simp only[execOp,c,d.int_inv,Go.Op.unary,Go.Op.intBits];rfl
 .simp at b;subst b;refine .pure rfl h (v':=.bool _) ?_ (.iv _ (.bool _));simp only[execOp,c,d.bool_inv,Go.Op.unary];rfl
 .simp at b
theorem aD3{o:Oper}{s d:TypeId}{x:Operand}(c:o.op=.convert s d x){k0 k:IntKind}(f:P.underlying s=some (.int k0))(j:P.underlying d=some (.int k))(a:Act)(h:MS P O K M J L S env w) {e:TV} (i:VR M J L e (a.eval x)) {r:IV} (b:dB (.toInt k) e=some r) {g:aH}:cJ P O K (.conv (.toInt k) g) M J L S env w (execOp a.eval o) (.iv r) env S:=by unfold dB at b;split at b<;>simp_all;subst b;refine .pure rfl h (v':=.int _ _) ?_ (.iv _ (.int _ _));simp[execOp,c,i.int_inv,Go.convert,und f,und j,Go.Conv.intToInt]
theorem aB4{o:Oper}{s d:TypeId}{x:Operand}(b:o.op=.convert s d x){k0:IntKind}(f:P.underlying s=some (.int k0))(i:P.underlying d=some .string)(a:Act)(h:MS P O K M J L S env w) {e:TV} (g:VR M J L e (a.eval x)) {r:IV} (c:dB .intStr e=some r) {j:aH}:cJ P O K (.conv .intStr j) M J L S env w (execOp a.eval o) (.iv r) env S:=by unfold dB at c;split at c<;>simp_all;subst c;refine .pure rfl h (v':=.string _) ?_ (.iv _ (.str _));simp[execOp,b,g.int_inv,Go.convert,und f,und i,Go.Conv.intToString]
theorem aB5{o:Oper}{s d:TypeId}{x:Operand}(b:o.op=.convert s d x)(f:P.underlying s=some .string)(i:P.underlying d=some .string)(a:Act)(h:MS P O K M J L S env w) {e:TV} (g:VR M J L e (a.eval x)) {r:IV} (c:dB .strStr e=some r) {j:aH}:cJ P O K (.conv .strStr j) M J L S env w (execOp a.eval o) (.iv r) env S:=by unfold dB at c;split at c<;>simp_all;subst c;refine .pure rfl h (v':=.string _) ?_ (.iv _ (.str _));simp[execOp,b,g.str_inv,Go.convert,und f,und i]
theorem aMx{o:Oper}{x:Operand}{i:Nat}(c:o.op=.extract x i)(a:Act)(h:MS P O K M J L S env w){vs:Tn_}(d:VR M J L (.tup vs) (a.eval x)){r:TV}(e:vs[i]?=some r){f:aH}: cJ P O K (.extract i f) M J L S env w (execOp a.eval o) r env S:=by
 generalize hva:a.eval x=va at d;cases d with
 |tup L cs vs' hs hv =>
  have b:i<vs'.size:=by rw[hs];exact(E_.1 e).1
  refine .pure rfl h (v':=vs'[i]) ?_ (hv i r _ e (A4 b)).ofNil;simp[execOp,c,hva,Go.Instr.extract,b]
theorem aHi{e r:TV}{n:Nat}{v:Value}(c:VR M J L e v)(h:iX e n=some r):∃b o,v=.pointer (some ⟨b,o,none⟩)/\VR M J L r (.pointer (some ⟨b,o+n,none⟩)):=by
 unfold iX at h;split at h
 .simp at h;subst h;cases c with
  |lp L j off cb hj=>exact⟨_,_,rfl,.lp _ _ _ _ hj⟩
 .simp at h;subst h;cases c with
  |ptr L i ver off l b o hl c ha=>exact⟨_,_,rfl,.ptr _ _ _ _ l b (o+n) hl c (fun e=>by obtain⟨a,b⟩:=ha e;exact⟨a,by omega⟩)⟩
 .split at h
  .simp at h;subst h;cases c with
   |iv L hr =>
    cases hr with
    |cp cs b off vals hm hvv =>refine⟨_,_,rfl,.iv _ (.cp _ b (off+n) (fun i=>vals (n+i)) (fun i x d=>?_) (fun i x d=>hvv _ _ (by simpa using d)))⟩;rw[F7];exact hm _ _ (by simpa using d)
  .simp at h
 .simp at h
theorem aGa{o:Oper}{t:TypeId}{x:Operand}{f:Nat}(g:o.op=.fieldAddr t x f){i:Array Field}{fd:Field}(s:P.underlying t=some (.struct i))(l:i[f]?=some fd){n:Nat}(m:sizeOf? P fd.type=some n)(d:n≠0) (a:Act) (h:MS P O K M J L S env w) {e r:TV} (p:VR M J L e (a.eval x)) (k:iX e fd.offset=some r) {j:aH}:cJ P O K (.fieldAddr fd.offset j) M J L S env w (execOp a.eval o) r env S:=by obtain⟨b,off,q,c⟩:=aHi p k;refine .pure rfl h ?_ c;simp[execOp,g,q,Go.Instr.fieldAt,und s,l,Go.Instr.sureAddr,fieldPlace,run_size? m,d,jB]
theorem aD4{o:Oper}{t:TypeId}{x i:Operand}(g:o.op=.indexAddr t x i){c:Nat}{el:TypeId}(A:P.underlying t=some (.array c el)){n:Nat}(q:sizeOf? P el=some n) (a:Act) (h:MS P O K M J L S env w) {e r j:TV} (s:VR M J L e (a.eval x)) (z:VR M J L j (a.eval i)) {k:Int} (u:eX j=some k) (l:0<=k/\k<c) (p:iX e (k.toNat*n)=some r) {m y:aH}: cJ P O K (.indexAddrA c n m y) M J L S env w (execOp a.eval o) r env S:=by obtain⟨b,off,v,d⟩:=aHi s p;obtain⟨kk,f⟩:=kW u z;refine .pure rfl h ?_ d;simp[execOp,g,v,f,Go.Instr.indexAt,asIntOf,und A,Go.Instr.sureAddr,l,run_size? q,jB]
theorem aGb{es:Nat}{e r:TV}{k:Int}{v:Value}(j:VR M J L e v)(h:indexAddrS es e k=some r):∃b o d cap,v=.slice (some ⟨b,o,none⟩) d cap/\0<=k/\k<d/\VR M J L r (.pointer (some ⟨b,o+k.toNat*es,none⟩)):=by
 have key:∀ {w:Tag} {l:Tp_} {c:Tq_} {v:Value},IR M (.sl w l) v->l[k.toNat]?=some c->c.length=es->¬k<0->∃b o d cap,v=.slice (some ⟨b,o,none⟩) d cap/\0<=k/\k<d/\d=l.length/\VR M J L (.iv (.cp c)) (.pointer (some ⟨b,o+k.toNat*es,none⟩)):=by
  intro w l c v j f g s;cases j with
  |slNil=>simp at f
  |slE t a ht=>simp at f
  |sl t l b off cap es' vals ht hes hcap hfull hm hvv =>
   have z:=(E_.1 f).1;have:es'=es:=by rw[<-g];exact(hes c (B9 f)).symm
   subst this;exact⟨b,off,_,cap,rfl,by omega,by omega,rfl,.iv _ (.cp _ _ _ (vals k.toNat) (fun i x p=>hm _ _ _ _ f p) (fun i x p=>hvv _ _ _ _ f p))⟩
 unfold indexAddrS at h;split at h;.simp at h
 rename_i s;split at h
 .split at h
  .rename_i c f;split at h;.rename_i g;simp at h;subst h;obtain⟨b,o,d,cap,m,u,q,_,y⟩:=key j.iv_inv f g s;exact⟨b,o,d,cap,m,u,q,y⟩
   .simp at h
  .simp at h
 .split at h
  .rename_i c f;split at h
   .rename_i g;simp at h;subst h;cases j with
    |tsl L i es l b o c' hJ hlo hvv ha hr' =>obtain⟨D,o',d,cap,m,u,q,y,A⟩:=key hr' f g s;simp at m;obtain⟨⟨rfl,rfl⟩,rfl,rfl⟩:=m;exact⟨b,o,_,c',rfl,u,q,A⟩
   .simp at h
  .simp at h
 .split at h
  .rename_i f;simp at h;subst h;obtain⟨n,rfl⟩:=f;cases j with
   |msl L i ver off d cap es l b o c hJ hvv ha g hlc =>refine⟨b,o,_,c,rfl,by omega,n,.ptr _ _ _ _ l b _ hJ hvv (fun e=>?_)⟩;obtain⟨C,a2,_⟩:=ha e;have:=a2 A_;exact⟨C,by omega⟩
  .simp at h
 .simp at h
theorem aD5{o:Oper}{t:TypeId}{x i:Operand}(f:o.op=.indexAddr t x i){el:TypeId}(C:P.underlying t=some (.slice el)){n:Nat}(m:sizeOf? P el=some n) (a:Act) (h:MS P O K M J L S env w) {e r g:TV} (p:VR M J L e (a.eval x)) (z:VR M J L g (a.eval i)) {k:Int} (s:eX g=some k) (l:indexAddrS n e k=some r) {j y:aH}: cJ P O K (.indexAddrS n j y) M J L S env w (execOp a.eval o) r env S:=by obtain⟨b,off,A,cap,v,q,u,c⟩:=aGb p l;obtain⟨kk,d⟩:=kW s z;refine .pure rfl h ?_ c;simp[execOp,f,v,d,Go.Instr.indexAt,asIntOf,und C,q,u,run_size? m,jB]
theorem aQy{o:Oper}{t:TypeId}{x i:Operand}(e:o.op=.index t x i)(u:P.underlying t=some .string)(a:Act)(h:MS P O K M J L S env w){s:List UInt8}{g:TV} (n:VR M J L (.iv (.str s)) (a.eval x)) (r:VR M J L g (a.eval i)) {k:Int} (p:eX g=some k) (j:0<=k) {b:UInt8} (f:s[k.toNat]?=some b) {l q:aH}: cJ P O K (.indexS l q) M J L S env w (execOp a.eval o) (.iv (.int .u8 b.toNat)) env S:=by
 obtain⟨kk,d⟩:=kW p r;refine .pure rfl h (v':=.int .u8 b.toNat) ?_ (.iv _ (.int _ _));have c:=(E_.1 f).1;have m:(⟨s.toArray⟩:ByteArray)[k.toNat]?=some b:=by rw[getElem?_pos _ _ (by simpa[ByteArray.size] using c)];have:=(E_.1 f).2;simp[ByteArray.getElem_eq_getElem_data,this]
 simp[execOp,e,n.str_inv,d,Go.Instr.index,asIntOf,und u,j,m]
theorem isAgg?_run{t:TypeId}{b:Bool}(h:isAgg? P t=some b)(w:World):(isAgg t).run P w=.ok b w:=by
 unfold isAgg? at h;unfold isAgg;split at h<;>simp at h<;>subst h;.rename_i hd;simp only[Sem.run_bind,und hd w];rfl
 .rename_i hd;simp only[Sem.run_bind,und hd w];rfl
 .rename_i d hn1 hn2 hd;simp only[Sem.run_bind,und hd w,Result.andThen_ok];cases d<;>first|rfl|(exact absurd rfl (hn1 _))|(exact absurd rfl (hn2 _ _))
theorem aA5{M:Mem}{J:aF}{L:Tk_}{x:TV}{v:Value}(h:VR M J L x v){cs:Tn_}(a:iG x=some cs):∃vs,v=.agg vs/\VRs M J [] cs vs.toList:=by
 unfold iG at a;split at a;.simp at a;subst a;obtain⟨vs,rfl,b,c⟩:=h.iv_inv.agg_inv;exact⟨vs,rfl,.ofIVs (by simpa using b) (fun i x u d e=>c i x u d (by simpa using e))⟩
 .simp at a;subst a;cases h with
  |agg L cs vs b c=>exact⟨vs,rfl,.ofAgg b c⟩
 .simp at a
theorem aMy{t:TypeId}{n:Nat}{h:Bool}(k:isAgg? P t=some h)(p:sizeOf? P t=some n){a:Tn_}{va:Array Value}(l:VRs M J [] a va.toList){off:Nat}{cs:Tn_} (g:sub a off (if h then n else 1)=some cs) {r:TV} (e:gJ h cs=some r):∃u,(part t va off).run P w=.ok u w/\VR M J L r u:=by
 obtain⟨f,d,b⟩:=iH g;have i:va.size=a.length:=by simpa using l.1
 unfold part;simp only[Sem.run_bind,isAgg?_run k,Result.andThen_ok];cases h with
 |true =>
  simp[gJ]at e;subst e;simp only[N6]at g f d b |-;refine⟨.agg (va.extract off (off+n)),by simp[run_size? p],?_⟩;have m:va.extract off (off+n)=((va.toList.drop off).take n).toArray:=by apply M5;simp[List.extract_eq_take_drop]
  have:=(l.drop off).take n;rw[<-d]at this;rw[m];exact xY (L:=L) this
 |false =>
  simp only[gJ,Y_,I5]at e g f d b |-;split at e
  .rename_i c;simp at e;subst e;have o:a[off+0]?=some c:=vA (show sub a off 1=some [c] from g) rfl;have j:off<va.size:=by rw[i];omega
   refine⟨va[off],?_,(l.2 off c _ (by simpa using o) B_).ofNil⟩;simp[j]
  .simp at e
theorem aX5{o:Oper}{t:TypeId}{x:Operand}{f:Nat}(g:o.op=.field t x f){j:Array Field}{fd:Field}(D:P.underlying t=some (.struct j))(p:j[f]?=some fd){n:Nat}{c:Bool}(q:sizeOf? P fd.type=some n) (i:isAgg? P fd.type=some c) (a:Act) (h:MS P O K M J L S env w) {e r:TV} (s:VR M J L e (a.eval x)) {b cs:Tn_} (d:iG e=some b) (k:sub b fd.offset (if c then n else 1)=some cs) (m:gJ c cs=some r) {l:aH}:cJ P O K (.field fd.offset (if c then n else 1) c l) M J L S env w (execOp a.eval o) r env S:=by obtain⟨vs,A,C⟩:=aA5 s d;obtain⟨u,y,z⟩:=aMy (P:=P) (w:=w) (L:=L) i q C k m;refine .pure rfl h (v':=u) ?_ z;simp[execOp,g,A,Go.Instr.field,und D,p,asAgg,y]
theorem aQz{o:Oper}{t:TypeId}{x i:Operand}(s:o.op=.index t x i){d:Nat}{el:TypeId}(H:P.underlying t=some (.array d el)){n:Nat}{f:Bool}(A:sizeOf? P el=some n)(p:isAgg? P el=some f) (a:Act) (h:MS P O K M J L S env w) {e r y:TV} (D:VR M J L e (a.eval x)) (G:VR M J L y (a.eval i)) {k:Int} (N:eX y=some k) (C:0<=k/\k<d) {b cs:Tn_} (g:iG e=some b) (l:sub b (k.toNat*n) n=some cs) (j:gJ f cs=some r) {I F:aH}:cJ P O K (.indexA d n f I F) M J L S env w (execOp a.eval o) r env S:=by
 obtain⟨vs,R,T⟩:=aA5 D g;obtain⟨kk,m⟩:=kW N G;have q:sub b (k.toNat*n) (if f then n else 1)=some cs:=by
  cases f with
  |true=>simpa using l
  |false =>
   simp only[gJ,Y_,I5]at j |-;split at j;.rename_i c;obtain⟨_,_,z⟩:=iH l;simp at z;subst z;exact l
   .simp at j
 obtain⟨u,E,Q⟩:=aMy (P:=P) (w:=w) (L:=L) p A T q j;refine .pure rfl h (v':=u) ?_ Q;simp[execOp,s,R,m,Go.Instr.index,asIntOf,und H,C,run_size? A,E]
def OI(x:Option Int)(v:Option Value):Prop:=match x,v with
 |none,none=>True
 |some i,some v=>∃k,v=.int k i
 |_,_=>False
theorem cV{i:Int}{y:Nat}{k:IntKind}(a:BoundsCode)(h:0<=i/\i<=y):(Instr.sliceBound (.int k i) y a).run P w=.ok i.toNat w:=by simp[Instr.sliceBound,asIntOf,h]
theorem lM{x:Option Int}{d y r:Nat}(h:qI x d y=some r):(x=none/\r=d)\/∃i,x=some i/\0<=i/\i<=y/\r=i.toNat:=by
 unfold qI at h;split at h;.simp at h;exact .inl ⟨rfl,h.symm⟩
 .split at h;.rename_i i hi;simp at h;exact .inr ⟨i,rfl,hi.1,hi.2,h.symm⟩
  .simp at h
theorem fZ{isS:Bool}{f cap a:Nat}{E t s:Option Int}{l h m:Nat}(c:fO f cap E t s=some (l,h,m))(Q:cap<=a){lv H G:Option Value}(g:OI E lv)(A:OI t H)(D:OI s G): (Instr.sliceBounds isS f a lv H G).run P w=.ok (l,h,if s=none then a else m) w/\m<=cap/\(s=none->m=cap)/\l<=h/\(t≠none\/f<=cap->h<=m)/\(t=none->h=f):=by
 unfold fO at c;split at c;.simp at c
 rename_i hnn;split at c;.simp at c
 rename_i m' hm;split at c;.simp at c
 rename_i h' hh;split at c;.simp at c
 rename_i l' hl;simp at c;obtain⟨rfl,rfl,rfl⟩:=c;have key:∀ {x:Option Int} {v:Option Value} {i:Int},x=some i->OI x v->∃k,v=some (.int k i):=by intro x v i y p;subst y;unfold OI at p;split at p<;>simp_all
 have o:∀ {x:Option Int} {v:Option Value},x=none->OI x v->v=none:=by intro x v y p;subst y;unfold OI at p;split at p<;>simp_all
 rcases lM hm with⟨rfl,rfl⟩|⟨r,rfl,L,J,rfl⟩
 .obtain rfl:=o rfl D;rcases lM hh with⟨rfl,rfl⟩|⟨n,rfl,z,u,rfl⟩
  .obtain rfl:=o rfl A;rcases lM hl with⟨rfl,rfl⟩|⟨C,rfl,e,b,rfl⟩;.obtain rfl:=o rfl g;refine⟨by simp[Instr.sliceBounds],L_ _,fun _=>rfl,by omega,fun q=>by simpa using q,fun _=>rfl⟩
   .obtain⟨F,rfl⟩:=key rfl g;refine⟨by simp[Instr.sliceBounds,cV _ (And.intro e b)],L_ _,fun _=>rfl,by omega,fun q=>by simpa using q,fun _=>rfl⟩
  .obtain⟨I,rfl⟩:=key rfl A;have d:0<=n/\n<=(a:Int):=A_;rcases lM hl with⟨rfl,rfl⟩|⟨C,rfl,e,b,rfl⟩;.obtain rfl:=o rfl g;refine⟨by simp[Instr.sliceBounds,cV _ d],L_ _,fun _=>rfl,by omega,fun _=>A_,fun q=>by simp at q⟩
   .obtain⟨F,rfl⟩:=key rfl g;refine⟨by simp[Instr.sliceBounds,cV _ d,cV _ (And.intro e b)],L_ _,fun _=>rfl,by omega,fun _=>A_,fun q=>by simp at q⟩
 .obtain⟨N,rfl⟩:=key rfl D;have j:0<=r/\r<=(a:Int):=A_;rcases lM hh with⟨rfl,rfl⟩|⟨n,rfl,z,u,rfl⟩;.exact absurd rfl (hnn r rfl)
  .obtain⟨I,rfl⟩:=key rfl A;have d:0<=n/\n<=(r.toNat:Int):=A_;rcases lM hl with⟨rfl,rfl⟩|⟨C,rfl,e,b,rfl⟩;.obtain rfl:=o rfl g;refine⟨by simp[Instr.sliceBounds,cV _ j,cV _ d],by omega,fun q=>by simp at q,by omega,fun _=>A_,fun q=>by simp at q⟩
   .obtain⟨F,rfl⟩:=key rfl g;refine⟨by simp[Instr.sliceBounds,cV _ j,cV _ d,cV _ (And.intro e b)],by omega,fun q=>by simp at q,by omega,fun _=>A_,fun q=>by simp at q⟩
theorem IR.sl_any{M:Mem}{t:Tag}{l:Tp_}{v:Value}(h:IR M (.sl t l) v):(t=.nil/\l=[]/\v=.slice none 0 0) \/(∃(b off cap es:Nat) (vals:Nat->Nat->Value),v=.slice (some ⟨b,off,none⟩) l.length cap/\t≠.nil/\(∀c∈l,c.length=es)/\l.length<=cap/\(t=.full->cap=l.length) /\(∀(i:Nat) (c:Tq_) (j:Nat) (x:IV),l[i]?=some c->c[j]?=some x->M b (off+i*es+j)=some (vals i j))/\(∀(i:Nat) (c:Tq_) (j:Nat) (x:IV),l[i]?=some c->c[j]?=some x->IR M x (vals i j)))\/∃a,v=.slice (some a) 0 0/\l=[]/\t≠.nil:=by
 cases h with
 |slNil=>exact .inl ⟨rfl,rfl,rfl⟩
 |sl t l b off cap es vals ht hes hcap hfull hm hv=>exact .inr (.inl ⟨b,off,cap,es,vals,rfl,ht,hes,hcap,hfull,hm,hv⟩)
 |slE t a ht=>exact .inr (.inr ⟨a,rfl,rfl,ht⟩)
theorem aKa{l:Tp_}{es es':Nat}(d:oR es l=true)(h:∀c∈l,c.length=es'):∀c∈l,c.length=es:=by
 cases l with
 |nil=>intro c b;simp at b
 |cons a r =>simp[oR]at d;have:=h a B_;intro c b;rw[h c b,<-this,d]
theorem aCm{M:Mem}{l:Tp_}{b off es es':Nat}{vals:Nat->Nat->Value}(n:∀c∈l,c.length=es')(u:oR es l=true) (w:∀(i:Nat) (c:Tq_) (j:Nat) (x:IV),l[i]?=some c->c[j]?=some x->M b (off+i*es'+j)=some (vals i j)) (A:∀(i:Nat) (c:Tq_) (j:Nat) (x:IV),l[i]?=some c->c[j]?=some x->IR M x (vals i j)) {a d cap o':Nat} {t:Tag} (v:t≠.nil) (y:a<=d) (s:d<=l.length) (r:d-a<=cap) (m:t=.full->cap=d-a) (C:a<d->o'=off+a*es): IR M (.sl t ((l.drop a).take (d-a))) (.slice (some ⟨b,o',none⟩) (d-a) cap):=by
 have h:((l.drop a).take (d-a)).length=d-a:=by simp;omega
 have g:=aKa u n;have k:∀(i:Nat) (c:Tq_),((l.drop a).take (d-a))[i]?=some c->l[a+i]?=some c/\i<d-a:=by
  intro i c f;rw[D6]at f;split at f;.rename_i hi';exact⟨by simpa using f,hi'⟩
  .simp at f
 have:=IR.sl (M:=M) t ((l.drop a).take (d-a)) b o' cap es (fun i j=>vals (a+i) j) v
  (fun c f=>g c (List.mem_of_mem_drop (Y6 f))) A_ (fun e=>by rw[h];exact m e)
  (fun i c j x f p=>by
   obtain⟨q,D⟩:=k i c f;have:=w _ _ _ _ q p;have z:es'=es:=by rw[<-n c (B9 q),g c (B9 q)]
   rw[C A_];subst z;rw[show off+a*es'+i*es'+j=off+(a+i)*es'+j by rw[D8];omega];exact this)
  (fun i c j x f p=>A _ _ _ _ (k i c f).1 p)
 rw[h]at this;exact this
theorem aA6{M:Mem}{t:Tag}{l:Tp_}{v:Value}(h6:IR M (.sl t l) v){es:Nat}(hf:oR es l=true){lo hi s:Option Int}{r:IV}(c:uZ t l lo hi s=some r){tt:TypeId}{el:TypeId} (ht:P.underlying tt=some (.slice el)) (hn:sizeOf? P el=some es) {lv Q N:Option Value} (H:OI lo lv) (L:OI hi Q) (R:OI s N):∃u,(Instr.slice tt v lv Q N).run P w=.ok u w/\IR M r u:=by
 rcases h6.sl_any with⟨rfl,rfl,rfl⟩|⟨b,off,cap,es',vals,rfl,D,E,x,A,hm,y⟩|⟨a0,rfl,rfl,D⟩
 .unfold uZ at c;simp only at c;split at c
  .rename_i q hq;obtain⟨Z,Y,U⟩:=q;simp at c;subst c;obtain⟨d,e2,e3,z,k,T⟩:=fZ (P:=P) (w:=w) (isS:=true) hq (L_ _) H L R;have C:(if s=none then 0 else U)=0:=by split<;>omega
   have n:Y=0:=by have:=k (.inr (L_ _));omega
   have p:Z=0:=A_;rw[C,n,p]at d;exact⟨.slice none 0 0,by simp[Instr.slice,und ht,d,run_size? hn],.slNil⟩
  .simp at c
 .have g:∀ {l' W F:Nat},(Instr.sliceBounds true l.length cap lv Q N).run P w=.ok (l',W,F) w->∃o',(Instr.slice tt (.slice (some ⟨b,off,none⟩) l.length cap) lv Q N).run P w=.ok (.slice (some ⟨b,o',none⟩) (W-l') (F-l')) w/\(F≠l'->o'=off+l'*es):=by intro l' W F f;refine⟨if F=l' then off else off+l'*es,?_,fun h7=>by rw[I_ h7]⟩;simp only[Instr.slice,Sem.run_bind,und ht,Result.andThen_ok,f,run_size? hn];split<;>simp[jB]
  unfold uZ at c;cases t with
  |nil=>exact absurd rfl D
  |no =>
   simp only at c;cases s with
   |none =>
    simp only at c;split at c;.rename_i a b' m f;simp at c;subst c;obtain⟨d,e2,e3,z,k,T⟩:=fZ (P:=P) (w:=w) (isS:=true) f x H L R;simp at d;have hh:=k (.inr (L_ _));obtain⟨o',J,I⟩:=g d;exact⟨_,J,aCm E hf hm y B_ z A_ A_ B_ (fun G=>I A_)⟩
    .simp at c
   |some i =>
    simp only at c;split at c
    .rename_i a b' m f;simp at c;subst c;obtain⟨d,e2,e3,z,k,T⟩:=fZ (P:=P) (w:=w) (isS:=true) f x H L R;simp at d;have hh:=k (.inr (L_ _));obtain⟨o',J,I⟩:=g d;refine⟨_,J,aCm E hf hm y (by split<;>simp) z A_ A_ (fun e=>?_) (fun G=>I A_)⟩;split at e;.rename_i hmb;rw[hmb]
     .simp at e
    .simp at c
  |full =>
   simp only at c;obtain rfl:=A rfl;split at c
   .rename_i a b' m f;simp at c;subst c;obtain⟨d,e2,e3,z,k,T⟩:=fZ (P:=P) (w:=w) (isS:=true) f (L_ _) H L R;have h0:(if s=none then l.length else m)=m:=by
     split;.rename_i hx;exact(e3 hx).symm
     .rfl
    rw[h0]at d;have hh:=k (.inr (L_ _));obtain⟨o',J,I⟩:=g d;refine⟨_,J,aCm E hf hm y (by split<;>simp) z A_ A_ (fun e=>?_) (fun G=>I A_)⟩;split at e;.rename_i hmb;rw[hmb]
    .simp at e
   .simp at c
 .have j:∀ {q:Nat×Nat×Nat},fO 0 0 lo hi s=some q->q=(0,0,0)/\(Instr.slice tt (.slice (some a0) 0 0) lv Q N).run P w=.ok (.slice (some a0) 0 0) w:=by
   intro q hq;obtain⟨Z,Y,U⟩:=q;obtain⟨d,e2,e3,z,k,T⟩:=fZ (P:=P) (w:=w) (isS:=true) hq (L_ _) H L R;have C:(if s=none then 0 else U)=0:=by split<;>omega
   have n:Y=0:=by have:=k (.inr (L_ _));omega
   have p:Z=0:=A_;have V:U=0:=A_;rw[C,n,p]at d;subst n;subst p;subst V;exact⟨rfl,by simp[Instr.slice,und ht,d,run_size? hn]⟩
  unfold uZ at c;cases t with
  |nil=>exact absurd rfl D
  |no =>
   simp only[List.length_nil]at c;cases s with
   |none =>
    simp only at c;split at c;.rename_i a b' m f;obtain⟨d,e2⟩:=j f;simp at d c;subst c;exact⟨_,e2,.slE _ _ B_⟩
    .simp at c
   |some i =>
    simp only at c;split at c;.rename_i a b' m f;obtain⟨d,e2⟩:=j f;simp at d c;subst c;exact⟨_,e2,.slE _ _ (by split<;>simp)⟩
    .simp at c
  |full =>
   simp only[List.length_nil]at c;split at c;.rename_i a b' m f;obtain⟨d,e2⟩:=j f;simp at d c;subst c;exact⟨_,e2,.slE _ _ (by split<;>simp)⟩
   .simp at c
theorem aD6(s:List UInt8)(a b:Nat):(⟨s.toArray⟩:ByteArray).extract a b=⟨((s.drop a).take (b-a)).toArray⟩:=by apply Z6;rw[ByteArray.data_extract];apply M5;simp[List.extract_eq_take_drop]
theorem rL{α:Type}(es:Nat):∀(n:Nat) (cs:List α),n*es<=cs.length->∀(i:Nat) (c:List α),(cN es n cs)[i]?=some c->i<n/\c=(cs.drop (i*es)).take es
 |0,_,_,i,c,h=>by simp[cN]at h
 |n+1,cs,hl,i,c,h=>by
  rw[D8]at hl;cases i with
  |zero=>simp[cN]at h;exact⟨by omega,by simp[h]⟩
  |succ i =>simp[cN]at h;obtain⟨b,a⟩:=rL es n (cs.drop es) (by simp;omega) i c h;refine⟨by omega,?_⟩;rw[a,U2,D8];congr 2;omega
theorem gA{α:Type}(es:Nat):∀(n:Nat) (cs:List α),(cN es n cs).length=n
 |0,_=>rfl
 |n+1,cs=>by simp[cN,gA es n]
theorem rM{α:Type}(es:Nat)(n:Nat)(cs:List α)(a:n*es<=cs.length):∀c∈cN es n cs,c.length=es:=by intro c e;obtain⟨i,d⟩:=H7 e;obtain⟨b,rfl⟩:=rL es n cs a i c d;have:(i+1)*es<=n*es:=D4 _ b;rw[D8]at this;simp;omega
theorem bMt{α:Type}{es:Nat}{l:List (List α)}(h:∀c∈l,c.length=es):oR es l=true:=by
 cases l with
 |nil=>rfl
 |cons a r=>simp[oR,h a B_]
end
end Go.TM
