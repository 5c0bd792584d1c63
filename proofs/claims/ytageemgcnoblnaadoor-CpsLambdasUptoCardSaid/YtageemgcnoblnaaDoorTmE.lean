/- A part of the evaluator TM, and of the proof that what it computes the model does. Condition: none. -/
import Derived.Test.YtageemgcnoblnaaDoorTmD
set_option linter.unusedVariables false
set_option linter.unusedSimpArgs false
set_option maxRecDepth 100000
namespace Go.TM
section
variable (K : Prog) (O : Orc) (i : Nat) (k : Kt) (M : List (Nat × TV)) (n : Nat) (fs : List Fr) (env : Env) (S : Store)
theorem op1_k0 {o : TOp} (h : kindOf o = 0) : op1 K O o i k M n fs env S = opV K O (pureOp o (opv K n env M)) i k M n fs env S := by
 have e : (fun x => evalOpd K env (sets M n) x) = opv K n env M := rfl
 simp only [op1,ec0 K O env _ S o h]
 show er ((Out.need _ (pureOp o (opv K n env M)) _).bind _) = _
 cases pureOp o (opv K n env M) with
 | some v => simp only [Out.need,Out.bind,opV]; cases k <;> simp only [cont,rgR,fls,chk,er_er] <;> (try split) <;> simp only [er_er,er]
 | none => rfl
theorem cont_er : er (cont K O k M n fs env S) = cont K O k M n fs env S := by
 cases k <;> simp only [cont,rgR,fls,chk,er_er] <;> (try split) <;> simp only [er_er,er]
theorem op1_k1 {o : TOp} (h : kindOf o = 1) : op1 K O o i k M n fs env S = opV K O (readOp o (opv K n env M) env S) i k M n fs env S := by
 simp only [op1,ec1 K O env _ S o h]
 show er ((Out.need _ (readOp o (opv K n env M) env S) _).bind _) = _
 cases readOp o (opv K n env M) env S with
 | some v => simp only [Out.need,Out.bind,opV,cont_er]
 | none => rfl
theorem op1_k2 {o : TOp} (h : kindOf o = 2) : op1 K O o i k M n fs env S = opA K O (allocOp o (opv K n env M) S.length) i k M n fs env S := by
 simp only [op1,ec_plain K O env _ S o (by omega)]
 have p : ∀ e,pureOp o e = none := by intro e; cases o <;> first | rfl | simp [kindOf] at h
 have r : ∀ e,readOp o e env S = none := by intro e; cases o <;> first | rfl | simp [kindOf] at h
 have s : ∀ e rs,stOp o e rs env S = none := by intro e rs; cases o <;> first | rfl | simp [kindOf] at h
 simp only [evalOp,flOp,p,r,s]
 show er ((Out.ofOpt _ (match allocOp o (opv K n env M) S.length with | some (v,b) => some (v,env,S ++ [b]) | none => none)).bind _) = _
 cases allocOp o (opv K n env M) S.length with
 | some v => simp only [Out.ofOpt,Out.bind,opA,cont_er]
 | none => rfl
theorem op1_k3 {o : TOp} (h : kindOf o = 3) (hb : o ≠ .bad) : op1 K O o i k M n fs env S = opE K O (stOp o (opv K n env M) (sets M n) env S) i k M n fs := by
 simp only [op1,ec_plain K O env _ S o (by omega)]
 have p : ∀ e,pureOp o e = none := by intro e; cases o <;> first | rfl | simp [kindOf] at h
 have r : ∀ e,readOp o e env S = none := by intro e; cases o <;> first | rfl | simp [kindOf] at h
 have s : ∀ e n,allocOp o e n = none := by intro e n; cases o <;> first | rfl | simp [kindOf] at h
 simp only [evalOp,flOp,p,r,s]
 show er ((Out.ofOpt _ (stOp o (opv K n env M) (sets M n) env S)).bind _) = _
 cases stOp o (opv K n env M) (sets M n) env S with
 | some v => simp only [Out.ofOpt,Out.bind,opE,cont_er]
 | none => rfl
def xtr (j : Nat) : TV → Option TV
 | .tup vs => vs[j]?
 | _ => none
theorem xtr_tup (j : Nat) (vs : List TV) : xtr j (.tup vs) = vs[j]? := id rfl
def ptrV (v : TV) : Option TV := if isPtr v then some v else none
theorem ptrV_ptr (a b c : Nat) : ptrV (.ptr a b c) = some (.ptr a b c) := id rfl
def ivO (x : Option IV) : Option TV := x.map .iv
theorem ivO_some (x : IV) : ivO (some x) = some (.iv x) := id rfl
def eqV (neg : Bool) (x : Option Bool) : Option TV := x.map fun b => .iv (.bool (if neg then !b else b))
theorem eqV_f (x : Bool) : eqV false (some x) = some (.iv (.bool x)) := id rfl
theorem eqV_t (x : Bool) : eqV true (some x) = some (.iv (.bool (!x))) := id rfl
def natV (x : Option Nat) : Option TV := x.map fun (m : Nat) => .iv (.int .i64 m)
def partV (ag : Bool) (x : Option (List TV)) : Option TV := match x with
 | some cs => asPart ag cs
 | none => none
theorem partV_some (ag : Bool) (l : List TV) : partV ag (some l) = asPart ag l := id rfl
theorem asPart_one (v : TV) : asPart false [v] = some v := id rfl
theorem asPart_agg (l : List TV) : asPart true l = some (mkAgg l) := id rfl
def subV (off n : Nat) (x : Option (List TV)) : Option (List TV) := match x with
 | some all => sub all off n
 | none => none
theorem subV_some (off n : Nat) (l : List TV) : subV off n (some l) = sub l off n := id rfl
def ixS (es : Nat) (x i : TV) : Option TV := match intOf i with
 | some n => indexAddrS es x n
 | none => none
theorem ixS_int (es : Nat) (x : TV) (kd : IntKind) (m : Int) : ixS es x (.iv (.int kd m)) = indexAddrS es x m := id rfl
def ixA (len es : Nat) (x i : TV) : Option TV := match intOf i with
 | some n => if 0 ≤ n ∧ n < len then addOff x (n.toNat * es) else none
 | none => none
theorem ixA_int (len es : Nat) (x : TV) (kd : IntKind) (m : Int) : ixA len es x (.iv (.int kd m)) = if 0 ≤ m ∧ m < len then addOff x (m.toNat * es) else none := id rfl
def ixStr (x i : TV) : Option TV := match x,intOf i with
 | .iv (.str s),some n => if 0 ≤ n then (s[n.toNat]?).map fun b => .iv (.int .u8 b.toNat) else none
 | _,_ => none
theorem ixStr_str (s : List UInt8) (kd : IntKind) (m : Int) : ixStr (.iv (.str s)) (.iv (.int kd m)) = if 0 ≤ m then (s[m.toNat]?).map fun b => .iv (.int .u8 b.toNat) else none := id rfl
def oI : Option TV → Option (Option Int)
 | none => some none
 | some x => (intOf x).map some
theorem oI_none : oI none = some none := id rfl
theorem oI_some (kd : IntKind) (m : Int) : oI (some (.iv (.int kd m))) = some (some m) := id rfl
def slV (S : Store) (sk : SK) (x : TV) (lo hi mx : Option (Option Int)) : Option TV := match lo,hi,mx with
 | some lo,some hi,some mx => sliceOp S sk x lo hi mx
 | _,_,_ => none
theorem slV_some (sk : SK) (x : TV) (lo hi mx : Option Int) : slV S sk x (some lo) (some hi) (some mx) = sliceOp S sk x lo hi mx := id rfl
def lenV (kd : NK) (S : Store) (v : TV) : Option TV := if nkOf v = kd then natV (lenOf S v) else none
theorem lenV_str (s : List UInt8) : lenV .str S (.iv (.str s)) = some (.iv (.int .i64 s.length)) := id rfl
theorem lenV_sl (t : Tag) (l : List (List IV)) : lenV .sl S (.iv (.sl t l)) = some (.iv (.int .i64 l.length)) := id rfl
theorem lenV_msl (a b c d e f : Nat) : lenV .sl S (.msl a b c d e f) = some (.iv (.int .i64 d)) := id rfl
def bsV (x : Option (List (List IV))) : Option TV := match x with
 | some l => (bytesOf l).map fun b => .iv (.str b)
 | none => none
theorem bsV_some (l : List (List IV)) : bsV (some l) = (bytesOf l).map fun b => .iv (.str b) := id rfl
theorem bytesOf_bytesIV : ∀ (l : List UInt8),bytesOf (bytesIV l) = some l
 | [] => rfl
 | b :: l => by
  have h := bytesOf_bytesIV l
  simp only [bytesIV,List.map_cons,bytesOf,byteOf] at h ⊢
  rw [h]
  simp
def mkV (z : List IV) (bytes m : Nat) (l c : TV) : Option (TV × Block) := match intOf l,intOf c with
 | some l,some c =>
  if 0 ≤ l ∧ l ≤ c ∧ roomy c.toNat bytes = true then
   some (.msl m 0 0 l.toNat c.toNat z.length,.cells 0 false (flat (List.replicate c.toNat (z.map .iv))))
  else none
 | _,_ => none
def litV (x : Option (List (List TV))) : Option TV := match x with
 | some es => (toIVss es).map fun l => .iv (.sl .full l)
 | none => none
def litA (m w : Nat) (x : Option (List (List TV))) : Option (TV × Block) := match x with
 | some es => some (.msl m 0 0 es.length es.length w,.cells 0 false (flat es))
 | none => none
def mmV (mx : Bool) (l : List TV) : Option TV := match l with
 | .iv a :: r => (minmax mx a r).map .iv
 | _ => none
theorem mmV_cons (mx : Bool) (a : IV) (r : List TV) : mmV mx (.iv a :: r) = ivO (minmax mx a r) := id rfl
def storeV (w : Nat) (env : Env) (S : Store) (a v : TV) : Option (TV × Env × Store) :=
 if (cellsOf v).length = w then match setCells env S a (cellsOf v) with
   | some (env,S) => some (undef,env,S)
   | none => none
  else none
def storeW (x : Option (Env × Store)) : Option (TV × Env × Store) := match x with
 | some (env,S) => some (undef,env,S)
 | none => none
theorem storeW_some : storeW (some (env,S)) = some (undef,env,S) := id rfl
theorem br_dec {α : Type} {p : Prop} [Decidable p] {x y z : Out α} (h : p → x = z) (g : ¬p → y = z) : br (decide p) x y = z := by
 by_cases hp : p
 ·simp only [hp,decide_true,br_true]; exact h hp
 ·simp only [hp,decide_false,br_false]; exact g hp
theorem br_beq {α : Type} {a b : Int} {x y z : Out α} (h : a = b → x = z) (g : a ≠ b → y = z) : br (a == b) x y = z := by
 by_cases hp : a = b
 ·simp only [hp,beq_self_eq_true,br_true]; exact h hp
 ·simp only [beq_eq_false_iff_ne.2 hp,br_false]; exact g hp
theorem br_bne {α : Type} {a b : Int} {x y z : Out α} (h : a ≠ b → x = z) (g : a = b → y = z) : br (a != b) x y = z := by
 by_cases hp : a = b
 ·simp only [hp,bne_self_eq_false,br_false]; exact g hp
 ·simp only [bne_iff_ne.2 hp,br_true]; exact h hp
theorem storeV_eq (w : Nat) (a v : TV) (h : (cellsOf v).length = w) : storeV w env S a v = storeW (setCells env S a (cellsOf v)) := by
 simp only [storeV,h,↓reduceIte,storeW]
def envS (env : Env) (x : Option (TV × Store)) : Option (TV × Env × Store) := match x with
 | some (v,S) => some (v,env,S)
 | none => none
theorem opE_envS (x : Option (TV × Store)) : opE K O (envS env x) i k M n fs = opS K O x i k M n fs env := by
 cases x <;> rfl
def mkFnV (f : Nat) (a b : List TV) : Option TV := if (a ++ b).any isLp then none else some (.fn f a b)
def nextV (env : Env) (S : Store) (v : TV) : Option (TV × Env × Store) := match v with
  | .it j => match S[j]? with
   | some (.sit s pos) =>
    if pos < s.length then
     let (c,width) := Utf8.decode ⟨s.toArray⟩ pos
     some (.tup [.iv (.bool true),.iv (.int .i64 pos),.iv (.int .i32 c)],env,S.set j (.sit s (pos + width)))
    else some (.tup [.iv (.bool false)],env,S)
   | _ => none
  | _ => none
def rangeV (str : Bool) (env : Env) (S : Store) (v : TV) : Option (TV × Env × Store) := match str,v with
  | true,.iv (.str s) => some (.it S.length,env,S ++ [.sit s 0])
  | false,.iv .nilm => some (.it S.length,env,S ++ [.mit none 0 [] 0])
  | false,.map j => match S[j]? with
   | some (.mp _ clock) => some (.it S.length,env,S ++ [.mit (some j) clock [] clock])
   | _ => none
  | _,_ => none
theorem rangeV_str (s : List UInt8) : rangeV true env S (.iv (.str s)) = some (.it S.length,env,S ++ [.sit s 0]) := id rfl
theorem op1_mov (x : TOpd) : op1 K O (.mov x) i k M n fs env S = opV K O (some (opv K n env M x)) i k M n fs env S := op1_k0 K O i k M n fs env S (id rfl)
theorem op1_pick (c a b : TOpd) : op1 K O (.pick c a b) i k M n fs env S = opP K O (opv K n env M c) (opv K n env M a) (opv K n env M b) i k M n fs env S := by
 rw [op1_k0 K O i k M n fs env S rfl]
 simp only [pureOp,opP]
 cases opv K n env M c with
 | iv v =>
  cases v with
  | bool t => cases t <;> rfl
  | _ => rfl
 | _ => rfl
theorem op1_build (z : List IV) (ps : List (Nat × Nat × TOpd)) : op1 K O (.build z ps) i k M n fs env S = opV K O ((fill (z.map .iv) (opv K n env M) ps).map mkAgg) i k M n fs env S := op1_k0 K O i k M n fs env S (id rfl)
theorem op1_nilCheck (x : TOpd) : op1 K O (.nilCheck x) i k M n fs env S = opV K O (ptrV (opv K n env M x)) i k M n fs env S := op1_k0 K O i k M n fs env S (id rfl)
theorem op1_bin (op : BinOp) (x y : TOpd) : op1 K O (.bin op x y) i k M n fs env S = opV K O (ivO (binOp op (opv K n env M x) (opv K n env M y))) i k M n fs env S := op1_k0 K O i k M n fs env S (id rfl)
theorem op1_eqB (neg : Bool) (ek : EK) (x y : TOpd) : op1 K O (.eqB neg ek x y) i k M n fs env S = opV K O (eqV neg (eqB ek (opv K n env M x) (opv K n env M y))) i k M n fs env S := op1_k0 K O i k M n fs env S (id rfl)
theorem op1_eqAgg (neg : Bool) (offs : List (Nat × LK)) (x y : TOpd) : op1 K O (.eqAgg neg offs x y) i k M n fs env S = opV K O (ivO (eqAgg neg offs (opv K n env M x) (opv K n env M y))) i k M n fs env S := op1_k0 K O i k M n fs env S (id rfl)
theorem op1_un (op : UnOp) (x : TOpd) : op1 K O (.un op x) i k M n fs env S = opV K O (ivO (unOp op (opv K n env M x))) i k M n fs env S := op1_k0 K O i k M n fs env S (id rfl)
theorem op1_mkFn (f : Nat) (a b : List TOpd) : op1 K O (.mkFn f a b) i k M n fs env S = opV K O (mkFnV f (a.map (opv K n env M)) (b.map (opv K n env M))) i k M n fs env S := op1_k0 K O i k M n fs env S (id rfl)
theorem op1_fieldAddr (off : Nat) (x : TOpd) : op1 K O (.fieldAddr off x) i k M n fs env S = opV K O (addOff (opv K n env M x) off) i k M n fs env S := op1_k0 K O i k M n fs env S (id rfl)
theorem op1_field (off w : Nat) (ag : Bool) (x : TOpd) : op1 K O (.field off w ag x) i k M n fs env S = opV K O (partV ag (subV off w (aggCells (opv K n env M x)))) i k M n fs env S := by
 rw [op1_k0 K O i k M n fs env S rfl]
 simp only [pureOp]
 cases aggCells (opv K n env M x) with
 | none => rfl
 | some l => simp only [subV,partV]; cases sub l off w <;> rfl
theorem op1_indexAddrS (es : Nat) (x y : TOpd) : op1 K O (.indexAddrS es x y) i k M n fs env S = opV K O (ixS es (opv K n env M x) (opv K n env M y)) i k M n fs env S := op1_k0 K O i k M n fs env S (id rfl)
theorem op1_indexAddrA (len es : Nat) (x y : TOpd) : op1 K O (.indexAddrA len es x y) i k M n fs env S = opV K O (ixA len es (opv K n env M x) (opv K n env M y)) i k M n fs env S := op1_k0 K O i k M n fs env S (id rfl)
theorem op1_indexS (x y : TOpd) : op1 K O (.indexS x y) i k M n fs env S = opV K O (ixStr (opv K n env M x) (opv K n env M y)) i k M n fs env S := op1_k0 K O i k M n fs env S (id rfl)
theorem op1_extract (j : Nat) (x : TOpd) : op1 K O (.extract j x) i k M n fs env S = opV K O (xtr j (opv K n env M x)) i k M n fs env S := op1_k0 K O i k M n fs env S (id rfl)
theorem op1_cap (x : TOpd) : op1 K O (.cap x) i k M n fs env S = opV K O (natV (capOf (opv K n env M x))) i k M n fs env S := op1_k0 K O i k M n fs env S (id rfl)
theorem op1_lenC (m : Nat) : op1 K O (.lenC m) i k M n fs env S = opV K O (some (.iv (.int .i64 m))) i k M n fs env S := op1_k0 K O i k M n fs env S (id rfl)
theorem op1_minmax (mx : Bool) (xs : List TOpd) : op1 K O (.minmax mx xs) i k M n fs env S = opV K O (mmV mx (xs.map (opv K n env M))) i k M n fs env S := op1_k0 K O i k M n fs env S (id rfl)
theorem op1_load1 (a : TOpd) : op1 K O (.load1 a) i k M n fs env S = opV K O (partV false (getCells env S (opv K n env M a) 1)) i k M n fs env S := op1_k1 K O i k M n fs env S (id rfl)
theorem op1_loadN (w : Nat) (a : TOpd) : op1 K O (.loadN w a) i k M n fs env S = opV K O (partV true (getCells env S (opv K n env M a) w)) i k M n fs env S := op1_k1 K O i k M n fs env S (id rfl)
theorem op1_slice (sk : SK) (x : TOpd) (lo hi mx : Option TOpd) : op1 K O (.slice sk x lo hi mx) i k M n fs env S = opV K O (slV S sk (opv K n env M x) (oI (lo.map (opv K n env M))) (oI (hi.map (opv K n env M))) (oI (mx.map (opv K n env M)))) i k M n fs env S := by
 rw [op1_k1 K O i k M n fs env S rfl]
 simp only [readOp,slV]
 cases lo <;> cases hi <;> cases mx <;> rfl
theorem op1_lookup (kk : KK) (z : IV) (ok : Bool) (m y : TOpd) : op1 K O (.lookup kk z ok m y) i k M n fs env S = opV K O (readOp (.lookup kk z ok m y) (opv K n env M) env S) i k M n fs env S := op1_k1 K O i k M n fs env S (id rfl)
theorem op1_entryM (x : TOpd) : op1 K O (.entryM x) i k M n fs env S = opV K O (readOp (.entryM x) (opv K n env M) env S) i k M n fs env S := op1_k1 K O i k M n fs env S (id rfl)
theorem op1_len (nk : NK) (x : TOpd) : op1 K O (.len nk x) i k M n fs env S = opV K O (lenV nk S (opv K n env M x)) i k M n fs env S := op1_k1 K O i k M n fs env S (id rfl)
theorem op1_conv (c : CK) (hc : c ≠ .bytesStr) (x : TOpd) : op1 K O (.conv c x) i k M n fs env S = opV K O (ivO (convOp c (opv K n env M x))) i k M n fs env S := by
 simp only [op1,ec4]
 show er ((Out.need _ (match (convOp c (opv K n env M x)).map TV.iv with | some v => some v | none => readOp (.conv c x) (opv K n env M) env S) _).bind _) = _
 cases h : convOp c (opv K n env M x) with
 | some v => simp only [Option.map,Out.need,Out.bind,ivO,opV,cont_er]
 | none =>
  have : readOp (.conv c x) (opv K n env M) env S = none := by cases c <;> first | rfl | exact absurd rfl hc
  simp only [this,Option.map,Out.need,Out.bind,ivO,opV,er]
theorem op1_toInt (kd : IntKind) (x : TOpd) : op1 K O (.conv (.toInt kd) x) i k M n fs env S = opV K O (ivO (convOp (.toInt kd) (opv K n env M x))) i k M n fs env S := op1_conv K O i k M n fs env S _ (by simp) x
theorem op1_intStr (x : TOpd) : op1 K O (.conv .intStr x) i k M n fs env S = opV K O (ivO (convOp .intStr (opv K n env M x))) i k M n fs env S := op1_conv K O i k M n fs env S _ (by simp) x
theorem op1_strStr (x : TOpd) : op1 K O (.conv .strStr x) i k M n fs env S = opV K O (ivO (convOp .strStr (opv K n env M x))) i k M n fs env S := op1_conv K O i k M n fs env S _ (by simp) x
theorem op1_strBytes (x : TOpd) : op1 K O (.conv .strBytes x) i k M n fs env S = opV K O (ivO (convOp .strBytes (opv K n env M x))) i k M n fs env S := op1_conv K O i k M n fs env S _ (by simp) x
theorem op1_bytesStr (x : TOpd) : op1 K O (.conv .bytesStr x) i k M n fs env S = opV K O (bsV (elemsIV S (opv K n env M x))) i k M n fs env S := by
 simp only [op1,ec4]
 have hc : convOp .bytesStr (evalOpd K env (sets M n) x) = none := by
  unfold convOp
  cases evalOpd K env (sets M n) x with
  | iv v => cases v <;> rfl
  | _ => rfl
 simp only [hc,Option.map]
 show er ((Out.need _ (bsV (elemsIV S (opv K n env M x))) _).bind _) = _
 cases bsV (elemsIV S (opv K n env M x)) with
 | some v => simp only [Out.need,Out.bind,opV,cont_er]
 | none => rfl
def litQ (w : Nat) (x : Option (List (List IV))) (es : Option (List (List TV))) (i : Nat) (k : Kt) (M : List (Nat × TV)) (n : Nat) (fs : List Fr) (env : Env) (S : Store) : Out (Jump × Env × Store) :=
 match x with
 | some l => opV K O (some (.iv (.sl .full l))) i k M n fs env S
 | none => opA K O (litA S.length w es) i k M n fs env S
@[congr] theorem litQ_congr (w : Nat) {x x' : Option (List (List IV))} (h : x = x') {es es' : Option (List (List TV))} (h2 : es = es') : litQ K O w x es i k M n fs env S = litQ K O w x' es' i k M n fs env S := by rw [h,h2]
theorem litQ_some (w : Nat) (l : List (List IV)) (es : Option (List (List TV))) : litQ K O w (some l) es i k M n fs env S = cont K O k ((i,.iv (.sl .full l)) :: M) n fs env S := id rfl
theorem litQ_none (w : Nat) (es : Option (List (List TV))) : litQ K O w none es i k M n fs env S = opA K O (litA S.length w es) i k M n fs env S := id rfl
def toLs (x : Option (List (List TV))) : Option (List (List IV)) := match x with
 | some es => toIVss es
 | none => none
theorem toLs_some (l : List (List TV)) : toLs (some l) = toIVss l := id rfl
theorem op1_lit (z : List IV) (len : Nat) (ps : List (Nat × TOpd)) : op1 K O (.lit false z len ps) i k M n fs env S = litQ K O z.length (toLs (fillEs (List.replicate len (z.map .iv)) z.length (opv K n env M) ps)) (fillEs (List.replicate len (z.map .iv)) z.length (opv K n env M) ps) i k M n fs env S := by
 simp only [op1,ec_plain K O env _ S _ (show kindOf (.lit false z len ps) ≠ 5 by simp [kindOf])]
 have p : pureOp (.lit false z len ps) (evalOpd K env (sets M n)) = litV (fillEs (List.replicate len (z.map .iv)) z.length (opv K n env M) ps) := rfl
 have r : readOp (.lit false z len ps) (evalOpd K env (sets M n)) env S = none := rfl
 have a : allocOp (.lit false z len ps) (evalOpd K env (sets M n)) S.length = litA S.length z.length (fillEs (List.replicate len (z.map .iv)) z.length (opv K n env M) ps) := rfl
 have s : stOp (.lit false z len ps) (evalOpd K env (sets M n)) (sets M n) env S = none := rfl
 simp only [evalOp,flOp,p,r,a,s]
 cases fillEs (List.replicate len (z.map .iv)) z.length (opv K n env M) ps with
 | none => rfl
 | some es =>
  simp only [litV,toLs]
  cases toIVss es with
  | some l => simp only [Option.map,Out.ofOpt,Out.bind,litQ,opV,cont_er]
  | none => simp only [Option.map,Out.ofOpt,Out.bind,litQ,litA,opA,cont_er]
theorem op1_litA (z : List IV) (len : Nat) (ps : List (Nat × TOpd)) : op1 K O (.lit true z len ps) i k M n fs env S = opA K O (litA S.length z.length (fillEs (List.replicate len (z.map .iv)) z.length (opv K n env M) ps)) i k M n fs env S := by
 simp only [op1,ec_plain K O env _ S _ (show kindOf (.lit true z len ps) ≠ 5 by simp [kindOf])]
 have p : pureOp (.lit true z len ps) (evalOpd K env (sets M n)) = none := rfl
 have r : readOp (.lit true z len ps) (evalOpd K env (sets M n)) env S = none := rfl
 have a : allocOp (.lit true z len ps) (evalOpd K env (sets M n)) S.length = litA S.length z.length (fillEs (List.replicate len (z.map .iv)) z.length (opv K n env M) ps) := rfl
 have s : stOp (.lit true z len ps) (evalOpd K env (sets M n)) (sets M n) env S = none := rfl
 simp only [evalOp,flOp,p,r,a,s]
 cases litA S.length z.length (fillEs (List.replicate len (z.map .iv)) z.length (opv K n env M) ps) with
 | some v => simp only [Out.ofOpt,Out.bind,opA,cont_er]
 | none => rfl
theorem op1_allocH (t : Nat) (z : List IV) : op1 K O (.allocH t z) i k M n fs env S = opS K O (some (.ptr S.length t 0,S ++ [.cells t false (z.map .iv)])) i k M n fs env := op1_k2 K O i k M n fs env S (id rfl)
theorem op1_mkMap : op1 K O .mkMap i k M n fs env S = opS K O (some (.map S.length,S ++ [.mp [] 0])) i k M n fs env := op1_k2 K O i k M n fs env S (id rfl)
theorem op1_mkSlice (z : List IV) (bytes : Nat) (l c : TOpd) : op1 K O (.mkSlice z bytes l c) i k M n fs env S = opA K O (mkV z bytes S.length (opv K n env M l) (opv K n env M c)) i k M n fs env S := op1_k2 K O i k M n fs env S (id rfl)
def boxV (t m : Nat) (v : TV) : Option (TV × Block) := if (cellsOf v).any isRefL then none else some (.ptr m t 0,.cells t false (cellsOf v))
theorem op1_boxH (t : Nat) (x : TOpd) : op1 K O (.boxH t x) i k M n fs env S = opA K O (boxV t S.length (opv K n env M x)) i k M n fs env S := op1_k2 K O i k M n fs env S (id rfl)
def noLp (j : Nat) : List (Nat × TV) → Bool
 | [] => true
 | (_,v) :: M => !(lpIs j v) && noLp j M
theorem noLp_reg {j : Nat} : ∀ {M : List (Nat × TV)},noLp j M = true → ∀ m,lpIs j (reg M m) = false
 | [],_,m => rfl
 | (a,v) :: M,h,m => by
  simp only [noLp,Bool.and_eq_true,Bool.not_eq_true'] at h
  simp only [reg]
  split
  ·exact h.1
  ·exact noLp_reg h.2 m
theorem noLp_sets {j : Nat} {M : List (Nat × TV)} (h : noLp j M = true) : (sets M n).any (lpIs j) = false := by
 rw [List.any_eq_false]
 intro x hx
 simp only [sets,List.mem_map] at hx
 obtain ⟨m,_,rfl⟩ := hx
 simp [noLp_reg h m]
def alB (c : Bool) (x y : Out (Jump × Env × Store)) : Out (Jump × Env × Store) := bif c then x else y
@[congr] theorem alB_congr {c c' : Bool} (h : c = c') (x y : Out (Jump × Env × Store)) : alB c x y = alB c' x y := by rw [h]
theorem alB_true (x y : Out (Jump × Env × Store)) : alB true x y = x := id rfl
theorem op1_allocL0 (j : Nat) (z : List IV) (h : noLp j M = true) (hj : j < env.length) : op1 K O (.allocL j z) i k M n fs env S = opE K O (some (.lp j 0,env.set j (.lb (z.map .iv)),S)) i k M n fs := by
 rw [op1_k3 K O i k M n fs env S (id rfl) (by simp)]
 simp only [stOp,noLp_sets n h,hj,decide_true,Bool.not_true,Bool.or_self,Bool.false_eq_true,↓reduceIte]
theorem op1_boxL0 (j : Nat) (x : TOpd) (h : noLp j M = true) (hj : j < env.length) : op1 K O (.boxL j x) i k M n fs env S = opE K O (if (cellsOf (opv K n env M x)).any isRefL then none else some (.lp j 0,env.set j (.lb (cellsOf (opv K n env M x))),S)) i k M n fs := by
 rw [op1_k3 K O i k M n fs env S (id rfl) (by simp)]
 simp only [stOp,noLp_sets n h,hj,decide_true,Bool.not_true,Bool.or_false]
def okL (j : Nat) (M : List (Nat × TV)) (env : Env) : Bool := noLp j M && decide (j < env.length)
theorem op1_allocL (j : Nat) (z : List IV) : op1 K O (.allocL j z) i k M n fs env S = alB (okL j M env) (opE K O (some (.lp j 0,env.set j (.lb (z.map .iv)),S)) i k M n fs) (op1 K O (.allocL j z) i k M n fs env S) := by
 cases h : okL j M env with
 | false => rfl
 | true =>
  simp only [okL,Bool.and_eq_true,decide_eq_true_eq] at h
  rw [alB_true,op1_allocL0 K O i k M n fs env S j z h.1 h.2]
theorem op1_boxL (j : Nat) (x : TOpd) : op1 K O (.boxL j x) i k M n fs env S = alB (okL j M env) (opE K O (if (cellsOf (opv K n env M x)).any isRefL then none else some (.lp j 0,env.set j (.lb (cellsOf (opv K n env M x))),S)) i k M n fs) (op1 K O (.boxL j x) i k M n fs env S) := by
 cases h : okL j M env with
 | false => rfl
 | true =>
  simp only [okL,Bool.and_eq_true,decide_eq_true_eq] at h
  rw [alB_true,op1_boxL0 K O i k M n fs env S j x h.1 h.2]
theorem op1_store (w : Nat) (a v : TOpd) : op1 K O (.store w a v) i k M n fs env S = opE K O (storeV w env S (opv K n env M a) (opv K n env M v)) i k M n fs := op1_k3 K O i k M n fs env S rfl (by simp)
theorem op1_update (kk : KK) (m y x : TOpd) : op1 K O (.update kk m y x) i k M n fs env S = opE K O (stOp (.update kk m y x) (opv K n env M) (sets M n) env S) i k M n fs := op1_k3 K O i k M n fs env S rfl (by simp)
theorem op1_range (str : Bool) (x : TOpd) : op1 K O (.range str x) i k M n fs env S = opE K O (rangeV str env S (opv K n env M x)) i k M n fs := op1_k3 K O i k M n fs env S rfl (by simp)
theorem op1_nextS (x : TOpd) : op1 K O (.nextS x) i k M n fs env S = opE K O (nextV env S (opv K n env M x)) i k M n fs := op1_k3 K O i k M n fs env S rfl (by simp)
theorem op1_append (mu : Bool) (es bytes el : Nat) (s x : TOpd) : op1 K O (.append mu es bytes el s x) i k M n fs env S = opS K O (appendOp mu es bytes el S (opv K n env M s) (opv K n env M x)) i k M n fs env := by
 rw [op1_k3 K O i k M n fs env S rfl (by simp),← opE_envS]; rfl
theorem op1_copy (es : Nat) (d s : TOpd) : op1 K O (.copy es d s) i k M n fs env S = opS K O (copyOp es S (opv K n env M d) (opv K n env M s)) i k M n fs env := by
 rw [op1_k3 K O i k M n fs env S rfl (by simp),← opE_envS]; rfl
def cpV (S : Store) (args : List TV) (v : Option TV) : Out (TV × Store) :=
 match v with
 | none => .fail ""
 | some v =>
  if args.any isMsl && !(scalarTV v) then
   match freezeV S args with
   | some S => .ret (v,S)
   | none => .fail ""
  else .ret (v,S)
def cpR (S : Store) (args : List TV) (x : Out (TV × Store)) : Out (TV × Store) := (er x).bind fun r => cpV S args (resolve r.2 r.1)
def cpA (S : Store) (args : List TV) (f : Nat) (ags : Option (List TV)) : Out (TV × Store) :=
 match ags with
 | none => .fail ""
 | some ags => cpR S args (O.call f ags [])
@[congr] theorem cpV_congr (args : List TV) {v v' : Option TV} (h : v = v') : cpV S args v = cpV S args v' := by rw [h]
@[congr] theorem cpR_congr (args : List TV) {v v' : Out (TV × Store)} (h : v = v') : cpR S args v = cpR S args v' := by rw [h]
@[congr] theorem cpA_congr (args : List TV) (f : Nat) {v v' : Option (List TV)} (h : v = v') : cpA O S args f v = cpA O S args f v' := by rw [h]
theorem cpA_some (args ags : List TV) (f : Nat) : cpA O S args f (some ags) = cpR S args (O.call f ags []) := id rfl
theorem cpR_ret (args : List TV) (v : TV) (S' : Store) : cpR S args (.ret (v,S')) = cpV S args (resolve S' v) := id rfl
def cpB (c : Bool) (S : Store) (args : List TV) (v : TV) : Out (TV × Store) :=
 if c then match freezeV S args with
   | some S => .ret (v,S)
   | none => .fail ""
  else .ret (v,S)
@[congr] theorem cpB_congr {c c' : Bool} (h : c = c') (args : List TV) (v : TV) : cpB c S args v = cpB c' S args v := by rw [h]
theorem cpV_some (args : List TV) (v : TV) : cpV S args (some v) = cpB (args.any isMsl && !(scalarTV v)) S args v := id rfl
theorem cpB_false (args : List TV) (v : TV) : cpB false S args v = .ret (v,S) := id rfl
def frzV (v : TV) (x : Option Store) : Out (TV × Store) := match x with
 | some S => .ret (v,S)
 | none => .fail ""
theorem frzV_some (v : TV) : frzV v (some S) = .ret (v,S) := id rfl
theorem cpB_true (args : List TV) (v : TV) : cpB true S args v = frzV v (freezeV S args) := by
 simp only [cpB,↓reduceIte,frzV]
theorem er_callPure (f : Nat) (args : List TV) : er (callPure O f args S) = cpA O S args f (closeArgs S args) := by
 unfold callPure cpA
 cases closeArgs S args with
 | none => rfl
 | some ags =>
  simp only [cpR,er_bind]
  refine Out.bind_congr fun r => ?_
  cases resolve r.2 r.1 with
  | none => rfl
  | some v =>
   simp only [cpV]
   split
   ·cases freezeV S args <;> rfl
   ·rfl
theorem opC_er (x : Out (TV × Store)) : er (x.bind fun r => cont K O k ((i,r.1) :: M) n fs env r.2) = opC K O (er x) i k M n fs env := by
 rw [er_bind]
 simp only [opC,cont_er]
theorem op1_callp (t : Bool) (f : Nat) (args : List TOpd) : op1 K O (.call true t f args) i k M n fs env S = opC K O (cpA O S (args.map (opv K n env M)) f (closeArgs S (args.map (opv K n env M)))) i k M n fs env := by
 rw [← er_callPure,← opC_er]
 simp only [op1,evalCall,Out.bind_assoc,Out.bind,↓reduceIte]
 rfl
def csR (t : Bool) (S : Store) (x : Out (TV × Store)) : Out (TV × Store) := (er x).bind fun r =>
 if t then match truncS S.length r.1 r.2 with
  | some S' => .ret (r.1,S')
  | none => .fail ""
 else .ret r
def csA (t : Bool) (S : Store) (f : Nat) (lp : Bool) (args : List TV) : Out (TV × Store) := if lp then .fail "" else csR t S (O.call f args S)
@[congr] theorem csR_congr (t : Bool) {v v' : Out (TV × Store)} (h : v = v') : csR t S v = csR t S v' := by rw [h]
theorem csA_no (t : Bool) (f : Nat) (args : List TV) : csA O t S f false args = csR t S (O.call f args S) := id rfl
theorem csR_f (v : TV) (S' : Store) : csR false S (.ret (v,S')) = .ret (v,S') := id rfl
def trV (v : TV) (x : Option Store) : Out (TV × Store) := match x with
 | some S' => .ret (v,S')
 | none => .fail ""
theorem trV_some (v : TV) : trV v (some S) = .ret (v,S) := id rfl
theorem csR_t (v : TV) (S' : Store) : csR true S (.ret (v,S')) = trV v (truncS S.length v S') := by
 simp only [csR,er,Out.bind,↓reduceIte,trV]
theorem er_callSt (t : Bool) (f : Nat) (args : List TV) : er (callSt O t f args S) = csA O t S f (args.any isLp) args := by
 unfold callSt csA
 split
 ·rfl
 ·simp only [csR,er_bind]
  refine Out.bind_congr fun r => ?_
  cases t
  ·rfl
  ·simp only [↓reduceIte]
   cases truncS S.length r.1 r.2 <;> rfl
theorem op1_calls (t : Bool) (f : Nat) (args : List TOpd) : op1 K O (.call false t f args) i k M n fs env S = opC K O (csA O t S f ((args.map (opv K n env M)).any isLp) (args.map (opv K n env M))) i k M n fs env := by
 rw [← er_callSt,← opC_er]
 simp only [op1,evalCall,Out.bind_assoc,Out.bind,Bool.false_eq_true,↓reduceIte]
 rfl
def prV (S : Store) (p : Option Prim) (args : List TV) : Option (TV × Store) := match p with
 | some p => if args.any isLp then none else p args S
 | none => none
theorem op1_prim (f : Nat) (args : List TOpd) : op1 K O (.prim f args) i k M n fs env S = opS K O (prV S (K.prim f) (args.map (opv K n env M))) i k M n fs env := by
 simp only [op1,evalCall]
 show er (Out.bind (match K.prim f with | some p => if (args.map (opv K n env M)).any isLp = true then .fail "prim: a local's address" else Out.bind (Out.ofOpt "prim" (p (args.map (opv K n env M)) S)) fun r => .ret (r.1, env, r.2) | none => .fail "prim") _) = _
 cases K.prim f with
 | none => rfl
 | some p =>
  simp only [prV]
  split
  ·rfl
  ·cases p (args.map (opv K n env M)) S with
   | none => rfl
   | some q => simp only [Out.ofOpt,Out.bind,opS,cont_er]
def fin (rs : List TRes) (x : Out (Jump × Env × Store)) : Out (TV × Store) :=
 x.bind fun r => match r.1 with
  | .exit _ => .fail ""
  | _ => match finish rs r.2.1 r.2.2 with
   | some v => .ret (v,r.2.2)
   | none => .fail ""
@[congr] theorem fin_congr (rs : List TRes) {x x' : Out (Jump × Env × Store)} (h : x = x') : fin rs x = fin rs x' := by rw [h]
def finV (S : Store) (v : Option TV) : Out (TV × Store) := match v with
 | some v => .ret (v,S)
 | none => .fail ""
theorem finV_some (v : TV) : finV S (some v) = .ret (v,S) := id rfl
theorem fin_ret (rs : List TRes) : fin rs (.ret (.ret,env,S)) = finV S (finish rs env S) := by
 simp only [fin,Out.bind,finV]
theorem fin_normal (rs : List TRes) : fin rs (.ret (.normal,env,S)) = finV S (finish rs env S) := by
 simp only [fin,Out.bind,finV]
theorem fin_br (rs : List TRes) (B : Bool) (x y : Out (Jump × Env × Store)) : fin rs (br B x y) = br B (fin rs x) (fin rs y) := by cases B <;> rfl
theorem er_callBody (f : Nat) (args : List TV) (fn : TFunc) (hf : K.funcs f = some fn) (ha : args.length = fn.nparams) : er (callBody K O f args S) = fin fn.results (go K O fn.body [] (args ++ List.replicate (fn.nlocs - fn.nparams) undef) S) := by
 simp only [callBody,hf,ha,ne_eq,not_true_eq_false,↓reduceIte,go,fin]
 rw [er_bind]
 have e : (exec K O fn.body (args ++ List.replicate (fn.nlocs - fn.nparams) undef) S).bind (fun r => back K O [] r.1 r.2.1 r.2.2) = exec K O fn.body (args ++ List.replicate (fn.nlocs - fn.nparams) undef) S := by
  cases exec K O fn.body (args ++ List.replicate (fn.nlocs - fn.nparams) undef) S with
  | ret a => rfl
  | fail s => rfl
  | pick n k => simp only [Out.bind]; congr; funext i; exact bind_back (k i)
 rw [e]
 refine Out.bind_congr fun r => ?_
 obtain ⟨j,e,S'⟩ := r
 cases j with
 | exit i => rfl
 | _ => simp only; cases finish fn.results e S' <;> rfl
where
 bind_back : ∀ x : Out (Jump × Env × Store),(x.bind fun r => back K O [] r.1 r.2.1 r.2.2) = x
  | .ret a => rfl
  | .fail s => rfl
  | .pick n k => by simp only [Out.bind]; congr; funext i; exact bind_back (k i)
theorem call_ret {f : Nat} {args : List TV} {fn : TFunc} {r : TV × Store} (hf : K.funcs f = some fn) (ha : args.length = fn.nparams) (h : fin fn.results (go K (lim K) fn.body [] (args ++ List.replicate (fn.nlocs - fn.nparams) undef) S) = .ret r) : (lim K).call f args S = .ret r :=
 lim_call (er_eq ((er_callBody K (lim K) S f args fn hf ha).trans h))
def rnd (b : TCode) (x : Out (Jump × Env × Store)) : Out (Jump × Env × Store) :=
 x.bind fun r => match r.1 with
  | .normal => er (lp O b r.2.1 r.2.2)
  | j => .ret (j,r.2.1,r.2.2)
@[congr] theorem rnd_congr (b : TCode) {x x' : Out (Jump × Env × Store)} (h : x = x') : rnd O b x = rnd O b x' := by rw [h]
theorem rnd_normal (b : TCode) : rnd O b (.ret (.normal,env,S)) = er (lp O b env S) := id rfl
theorem rnd_ret (b : TCode) : rnd O b (.ret (.ret,env,S)) = .ret (.ret,env,S) := id rfl
theorem rnd_exit (b : TCode) (id : Nat) : rnd O b (.ret (.exit id,env,S)) = .ret (.exit id,env,S) := by simp only [rnd,Out.bind]
theorem rnd_br (b : TCode) (B : Bool) (x y : Out (Jump × Env × Store)) : rnd O b (br B x y) = br B (rnd O b x) (rnd O b y) := by cases B <;> rfl
theorem loop_ret {b : TCode} {r : Jump × Env × Store} (h : rnd (lim K) b (go K (lim K) b [] env S) = .ret r) : lp (lim K) b env S = .ret r := by
 refine lim_loop (er_eq ?_)
 rw [← h]
 simp only [loopBody,rnd,go]
 rw [er_bind]
 have e := er_callBody.bind_back K (lim K) (exec K (lim K) b env S)
 rw [e]
 refine Out.bind_congr fun r => ?_
 obtain ⟨j,e,S'⟩ := r
 cases j <;> rfl
end
end Go.TM
namespace Go.TM
section
variable (K : Prog) (O : Orc) (i : Nat) (k : Kt) (M : List (Nat × TV)) (n : Nat) (fs : List Fr) (env : Env) (S : Store)
def flM (o : TOp) : Option TV := flOp K o env (sets M n) S
theorem fl_k0 {o : TOp} (h : kindOf o = 0) : flM K M n env S o = pureOp o (opv K n env M) := by
 have r : ∀ e,readOp o e env S = none := by intro e; cases o <;> first | rfl | simp [kindOf] at h
 simp only [flM,flOp,r]
 show (match pureOp o (opv K n env M) with | some v => some v | none => none) = _
 cases pureOp o (opv K n env M) <;> rfl
theorem fl_k1 {o : TOp} (h : kindOf o = 1) : flM K M n env S o = readOp o (opv K n env M) env S := by
 have p : ∀ e,pureOp o e = none := by intro e; cases o <;> first | rfl | simp [kindOf] at h
 simp only [flM,flOp,p]
 rfl
theorem fl_conv (c : CK) (hc : c ≠ .bytesStr) (x : TOpd) : flM K M n env S (.conv c x) = ivO (convOp c (opv K n env M x)) := by
 have r : readOp (.conv c x) (opv K n env M) env S = none := by cases c <;> first | rfl | exact absurd rfl hc
 show (match ((convOp c (opv K n env M x)).map TV.iv) with | some v => some v | none => readOp (.conv c x) (opv K n env M) env S) = _
 rw [r]
 cases convOp c (opv K n env M x) <;> rfl
theorem fl_bytesStr (x : TOpd) : flM K M n env S (.conv .bytesStr x) = bsV (elemsIV S (opv K n env M x)) := by
 have hc : convOp .bytesStr (opv K n env M x) = none := by
  unfold convOp
  cases opv K n env M x with
  | iv v => cases v <;> rfl
  | _ => rfl
 show (match ((convOp .bytesStr (opv K n env M x)).map TV.iv) with | some v => some v | none => readOp (.conv .bytesStr x) (opv K n env M) env S) = _
 rw [hc]; rfl
theorem fl_lit (z : List IV) (len : Nat) (ps : List (Nat × TOpd)) : flM K M n env S (.lit false z len ps) = litV (fillEs (List.replicate len (z.map .iv)) z.length (opv K n env M) ps) := by
 have r : readOp (.lit false z len ps) (opv K n env M) env S = none := rfl
 show (match litV (fillEs (List.replicate len (z.map .iv)) z.length (opv K n env M) ps) with | some v => some v | none => none) = _
 cases litV (fillEs (List.replicate len (z.map .iv)) z.length (opv K n env M) ps) <;> rfl
def pickT (c a b : TV) : Option TV := match boolOf c with
  | some t => some (if t then a else b)
  | none => none
theorem fl_pick (c a b : TOpd) : flM K M n env S (.pick c a b) = pickT (opv K n env M c) (opv K n env M a) (opv K n env M b) := fl_k0 K M n env S (id rfl)
theorem fl_mov (x : TOpd) : flM K M n env S (.mov x) = some (opv K n env M x) := fl_k0 K M n env S (id rfl)
theorem fl_build (z : List IV) (ps : List (Nat × Nat × TOpd)) : flM K M n env S (.build z ps) = (fill (z.map .iv) (opv K n env M) ps).map mkAgg := fl_k0 K M n env S (id rfl)
theorem fl_nilCheck (x : TOpd) : flM K M n env S (.nilCheck x) = ptrV (opv K n env M x) := fl_k0 K M n env S (id rfl)
theorem fl_bin (op : BinOp) (x y : TOpd) : flM K M n env S (.bin op x y) = ivO (binOp op (opv K n env M x) (opv K n env M y)) := fl_k0 K M n env S (id rfl)
theorem fl_eqB (neg : Bool) (ek : EK) (x y : TOpd) : flM K M n env S (.eqB neg ek x y) = eqV neg (eqB ek (opv K n env M x) (opv K n env M y)) := fl_k0 K M n env S (id rfl)
theorem fl_eqAgg (neg : Bool) (offs : List (Nat × LK)) (x y : TOpd) : flM K M n env S (.eqAgg neg offs x y) = ivO (eqAgg neg offs (opv K n env M x) (opv K n env M y)) := fl_k0 K M n env S (id rfl)
theorem fl_un (op : UnOp) (x : TOpd) : flM K M n env S (.un op x) = ivO (unOp op (opv K n env M x)) := fl_k0 K M n env S (id rfl)
theorem fl_mkFn (f : Nat) (a b : List TOpd) : flM K M n env S (.mkFn f a b) = mkFnV f (a.map (opv K n env M)) (b.map (opv K n env M)) := fl_k0 K M n env S (id rfl)
theorem fl_fieldAddr (off : Nat) (x : TOpd) : flM K M n env S (.fieldAddr off x) = addOff (opv K n env M x) off := fl_k0 K M n env S (id rfl)
theorem fl_field (off w : Nat) (ag : Bool) (x : TOpd) : flM K M n env S (.field off w ag x) = partV ag (subV off w (aggCells (opv K n env M x))) := by
 rw [fl_k0 K M n env S rfl]
 simp only [pureOp]
 cases aggCells (opv K n env M x) with
 | none => rfl
 | some l => simp only [subV,partV]; cases sub l off w <;> rfl
theorem fl_indexAddrS (es : Nat) (x y : TOpd) : flM K M n env S (.indexAddrS es x y) = ixS es (opv K n env M x) (opv K n env M y) := fl_k0 K M n env S (id rfl)
theorem fl_indexAddrA (len es : Nat) (x y : TOpd) : flM K M n env S (.indexAddrA len es x y) = ixA len es (opv K n env M x) (opv K n env M y) := fl_k0 K M n env S (id rfl)
theorem fl_indexS (x y : TOpd) : flM K M n env S (.indexS x y) = ixStr (opv K n env M x) (opv K n env M y) := fl_k0 K M n env S (id rfl)
theorem fl_extract (j : Nat) (x : TOpd) : flM K M n env S (.extract j x) = xtr j (opv K n env M x) := fl_k0 K M n env S (id rfl)
theorem fl_cap (x : TOpd) : flM K M n env S (.cap x) = natV (capOf (opv K n env M x)) := fl_k0 K M n env S (id rfl)
theorem fl_lenC (m : Nat) : flM K M n env S (.lenC m) = some (.iv (.int .i64 m)) := fl_k0 K M n env S (id rfl)
theorem fl_minmax (mx : Bool) (xs : List TOpd) : flM K M n env S (.minmax mx xs) = mmV mx (xs.map (opv K n env M)) := fl_k0 K M n env S (id rfl)
theorem fl_load1 (a : TOpd) : flM K M n env S (.load1 a) = partV false (getCells env S (opv K n env M a) 1) := fl_k1 K M n env S (id rfl)
theorem fl_loadN (w : Nat) (a : TOpd) : flM K M n env S (.loadN w a) = partV true (getCells env S (opv K n env M a) w) := fl_k1 K M n env S (id rfl)
theorem fl_slice (sk : SK) (x : TOpd) (lo hi mx : Option TOpd) : flM K M n env S (.slice sk x lo hi mx) = slV S sk (opv K n env M x) (oI (lo.map (opv K n env M))) (oI (hi.map (opv K n env M))) (oI (mx.map (opv K n env M))) := by
 rw [fl_k1 K M n env S rfl]
 simp only [readOp,slV]
 cases lo <;> cases hi <;> cases mx <;> rfl
theorem fl_len (nk : NK) (x : TOpd) : flM K M n env S (.len nk x) = lenV nk S (opv K n env M x) := fl_k1 K M n env S (id rfl)
theorem fl_toInt (kd : IntKind) (x : TOpd) : flM K M n env S (.conv (.toInt kd) x) = ivO (convOp (.toInt kd) (opv K n env M x)) := fl_conv K M n env S _ (by simp) x
theorem fl_intStr (x : TOpd) : flM K M n env S (.conv .intStr x) = ivO (convOp .intStr (opv K n env M x)) := fl_conv K M n env S _ (by simp) x
theorem fl_strStr (x : TOpd) : flM K M n env S (.conv .strStr x) = ivO (convOp .strStr (opv K n env M x)) := fl_conv K M n env S _ (by simp) x
theorem fl_strBytes (x : TOpd) : flM K M n env S (.conv .strBytes x) = ivO (convOp .strBytes (opv K n env M x)) := fl_conv K M n env S _ (by simp) x
mutual
theorem ivSame_refl : ∀ (a : IV),ivSame a a = true
 | .bool b => by simp [ivSame]
 | .int k n => by simp [ivSame]
 | .str s => by simp [ivSame]
 | .sl t l => by simp [ivSame,ivSameLL_refl l]
 | .agg l => by simp [ivSame,ivSameL_refl l]
 | .cp l => by simp [ivSame,ivSameL_refl l]
 | .nilp => rfl
 | .nilm => rfl
 | .nilf => rfl
 | .nili => rfl
theorem ivSameL_refl : ∀ (l : List IV),ivSameL l l = true
 | [] => rfl
 | a :: l => by simp [ivSameL,ivSame_refl a,ivSameL_refl l]
theorem ivSameLL_refl : ∀ (l : List (List IV)),ivSameLL l l = true
 | [] => rfl
 | a :: l => by simp [ivSameLL,ivSameL_refl a,ivSameLL_refl l]
end
theorem same_iv (a : IV) : same (.iv a) (.iv a) = true := ivSame_refl a
theorem same_ptr (a b c : Nat) : same (.ptr a b c) (.ptr a b c) = true := by simp [same,same1]
def rck (ops : List TOper) (M : List (Nat × TV)) (n : Nat) (env : Env) (S : Store) (c : List Nat) : Bool := recheck K ops (sets M n) env S c
def rcS (v : Option TV) (w : TV) : Bool := match v with
 | some v => same v w
 | none => false
theorem rcS_some (v w : TV) : rcS (some v) w = same v w := id rfl
def rcG (g : TV) (want : Bool) (j : Nat) (M : List (Nat × TV)) (n : Nat) (env : Env) (S : Store) (o : TOp) : Bool := match g with
 | .iv (.bool b) => if b == want then rcS (flM K M n env S o) (opv K n env M (.reg j)) else true
 | .tup [] => true
 | _ => false
theorem rcG_undef (want : Bool) (j : Nat) (o : TOp) : rcG K (.tup []) want j M n env S o = true := id rfl
theorem rcG_bool (b want : Bool) (j : Nat) (o : TOp) : rcG K (.iv (.bool b)) want j M n env S o = if b == want then rcS (flM K M n env S o) (opv K n env M (.reg j)) else true := id rfl
def rcO (x : Option TOper) (j : Nat) (M : List (Nat × TV)) (n : Nat) (env : Env) (S : Store) : Bool := match x with
 | some ⟨o,_,none⟩ => rcS (flM K M n env S o) (opv K n env M (.reg j))
 | some ⟨o,_,some (g,want)⟩ => rcG K (opv K n env M (.reg g)) want j M n env S o
 | none => false
theorem rcO_none (o : TOp) (l : Option Nat) (j : Nat) : rcO K (some ⟨o,l,none⟩) j M n env S = rcS (flM K M n env S o) (opv K n env M (.reg j)) := id rfl
theorem rcO_guard (o : TOp) (l : Option Nat) (g : Nat) (want : Bool) (j : Nat) : rcO K (some ⟨o,l,some (g,want)⟩) j M n env S = rcG K (opv K n env M (.reg g)) want j M n env S o := id rfl
theorem rck_nil (ops : List TOper) : rck K ops M n env S [] = true := id rfl
theorem rck_cons (ops : List TOper) (j : Nat) (c : List Nat) : rck K ops M n env S (j :: c) = (rcO K (oget ops j) j M n env S && rck K ops M n env S c) := by
 simp only [rck,recheck,oget]
 congr 1
 cases ops[j]? with
 | none => rfl
 | some x =>
  obtain ⟨o,l,g⟩ := x
  cases g with
  | none =>
   simp only [guardOf,rcO]
   show (match flM K M n env S o with | some v => same v (opv K n env M (.reg j)) | none => false) = _
   cases flM K M n env S o <;> rfl
  | some q =>
   obtain ⟨g,want⟩ := q
   simp only [guardOf,rcO]
   show (match (match opv K n env M (.reg g) with | .iv (.bool b) => some (b == want) | .tup [] => some false | _ => none) with | some true => (match flM K M n env S o with | some v => same v (opv K n env M (.reg j)) | none => false) | some false => true | none => false) = _
   unfold rcG
   cases opv K n env M (.reg g) with
   | iv v =>
    cases v with
    | bool b =>
     simp only
     cases b == want
     ·rfl
     ·simp only [↓reduceIte]
      cases flM K M n env S o <;> rfl
    | _ => rfl
   | tup vs => cases vs <;> rfl
   | _ => rfl
theorem cont_phR (ops : List TOper) (ps : List (Nat × List Nat × List Nat)) (c fl : List Nat) : cont K O (.ph ops c fl ps) M n fs env S = chk K O (rck K ops M n env S c) ops fl ps M n fs env S := id rfl
end
end Go.TM
namespace Go.TM
attribute [go_sem] reg_nil reg_cons locV_lb locV_iv locV_ptr locV_tsl locV_it locV_fn locV_yld locV_tup globV_some
attribute [go_sem] oget_zero oget_succ okL noLp lpIs
attribute [go_sem] xtr_tup ptrV_ptr ivO_some eqV_f eqV_t partV_some asPart_one asPart_agg subV_some ixS_int ixA_int ixStr_str oI_none oI_some slV_some lenV_str lenV_sl lenV_msl bsV_some bytesOf_bytesIV mmV_cons storeW_some rangeV_str
attribute [go_sem] toLs_some
theorem go_region (K : Prog) (O : Orc) (ops : List TOper) (fs : List Fr) (env : Env) (S : Store) : go K O (.region ops) fs env S = rgN K O (lenT ops 0) ops fs env S := by
 rw [go_region0,rgN_eq,lenT_eq]; rfl
def flsN (K : Prog) (O : Orc) (n : Nat) (f0 : List Nat) (ph : List (Nat × List Nat × List Nat)) (ops : List TOper) (fs : List Fr) (env : Env) (S : Store) : Out (Jump × Env × Store) := fls K O ops f0 ph [] n fs env S
@[congr] theorem flsN_congr (K : Prog) (O : Orc) {n n' : Nat} (h : n = n') (f0 : List Nat) (ph : List (Nat × List Nat × List Nat)) (ops : List TOper) (fs : List Fr) (env : Env) (S : Store) : flsN K O n f0 ph ops fs env S = flsN K O n' f0 ph ops fs env S := by rw [h]
theorem flsN_eq (K : Prog) (O : Orc) (n : Nat) (f0 : List Nat) (ph : List (Nat × List Nat × List Nat)) (ops : List TOper) (fs : List Fr) (env : Env) (S : Store) : flsN K O n f0 ph ops fs env S = fls K O ops f0 ph [] n fs env S := id rfl
theorem go_draw (K : Prog) (O : Orc) (f0 : List Nat) (ph : List (Nat × List Nat × List Nat)) (ops : List TOper) (fs : List Fr) (env : Env) (S : Store) : go K O (.draw f0 ph ops) fs env S = flsN K O (lenT ops 0) f0 ph ops fs env S := by
 rw [go_draw0,flsN_eq,lenT_eq]; rfl
theorem lenT_nil (n : Nat) : lenT [] n = n := id rfl
theorem lenT_cons (a : TOper) (l : List TOper) (n : Nat) : lenT (a :: l) n = lenT l (n + 1) := id rfl
@[congr] theorem lenT_congr (l : List TOper) {n n' : Nat} (h : n = n') : lenT l n = lenT l n' := by rw [h]
theorem getD_zero (a : TV) (l : List TV) (d : TV) : List.getD (a :: l) 0 d = a := id rfl
theorem getD_succ (a : TV) (l : List TV) (j : Nat) (d : TV) : List.getD (a :: l) (j + 1) d = List.getD l j d := by simp [List.getD]
attribute [go_sem] getD_zero getD_succ List.map_cons List.map_nil List.getElem?_cons_zero List.getElem?_cons_succ Option.map_some Option.map_none
theorem isLp_iv (v : IV) : isLp (.iv v) = false := id rfl
theorem isLp_ptr (a b c : Nat) : isLp (.ptr a b c) = false := id rfl
theorem isLp_tsl (a : Nat) (l : List (List IV)) : isLp (.tsl a l) = false := id rfl
theorem isLp_fn (f : Nat) (a b : List TV) : isLp (.fn f a b) = false := id rfl
theorem isMsl_iv (v : IV) : isMsl (.iv v) = false := id rfl
theorem scalarTV_iv (v : IV) : scalarTV (.iv v) = scalar1 v := id rfl
theorem scalar1_bool (b : Bool) : scalar1 (.bool b) = true := id rfl
theorem scalar1_int (k : IntKind) (m : Int) : scalar1 (.int k m) = true := id rfl
theorem scalar1_str (s : List UInt8) : scalar1 (.str s) = true := id rfl
theorem closeArgs_nil (S : Store) : closeArgs S [] = some [] := id rfl
def consO {α : Type} : Option α → Option (List α) → Option (List α)
 | some a,some l => some (a :: l)
 | _,_ => none
theorem consO_some {α : Type} (a : α) (l : List α) : consO (some a) (some l) = some (a :: l) := id rfl
theorem closeArgs_cons (S : Store) (v : TV) (r : List TV) : closeArgs S (v :: r) = consO (closeArg S v) (closeArgs S r) := by rw [closeArgs]; cases closeArg S v <;> cases closeArgs S r <;> rfl
theorem closeArg_iv (S : Store) (v : IV) : closeArg S (.iv v) = some (.iv v) := id rfl
theorem res1_iv (S : Store) (v : IV) : res1 S (.iv v) = some v := id rfl
def slO (x : Option (List (List IV))) : Option IV := match x with
 | some l => some (.sl .no l)
 | none => none
theorem res1_msl (S : Store) (a b c d e f : Nat) : res1 S (.msl a b c d e f) = slO (elemsIV S (.msl a b c d e f)) := id rfl
theorem resL_nil (S : Store) : resL S [] = some [] := id rfl
theorem resL_cons (S : Store) (v : TV) (r : List TV) : resL S (v :: r) = consO (res1 S v) (resL S r) := by rw [resL]; cases res1 S v <;> cases resL S r <;> rfl
theorem resV_iv (S : Store) (v : IV) : resV S (.iv v) = some v := id rfl
theorem resV_agg (S : Store) (c : List TV) : resV S (.agg c) = (resL S c).map .agg := id rfl
theorem resVs_nil (S : Store) : resVs S [] = some [] := id rfl
def ivC : Option IV → Option (List TV) → Option (List TV)
 | some a,some l => some (.iv a :: l)
 | _,_ => none
theorem ivC_some (a : IV) (l : List TV) : ivC (some a) (some l) = some (.iv a :: l) := id rfl
theorem resVs_cons (S : Store) (v : TV) (r : List TV) : resVs S (v :: r) = ivC (resV S v) (resVs S r) := id rfl
theorem resolve_tup (S : Store) (c : List TV) : resolve S (.tup c) = (resVs S c).map .tup := id rfl
theorem resolve_iv (S : Store) (v : IV) : resolve S (.iv v) = some (.iv v) := id rfl
def resK : TV → Option TV
 | .lb _ => none
 | .lp .. => none
 | v => some v
theorem resK_iv (v : IV) : resK (.iv v) = some (.iv v) := id rfl
theorem resK_tsl (a : Nat) (l : List (List IV)) : resK (.tsl a l) = some (.tsl a l) := id rfl
theorem resK_fn (f : Nat) (a b : List TV) : resK (.fn f a b) = some (.fn f a b) := id rfl
theorem resultOf_loc (env : Env) (S : Store) (j : Nat) : resultOf env S (.loc j) = resK (env.getD j .hole) := by simp only [resultOf]; cases env.getD j .hole <;> rfl
theorem resultOf_cell (env : Env) (S : Store) (j m : Nat) (ag : Bool) : resultOf env S (.cell j m ag) = partV ag (getCells env S (locV j (env.getD j .hole)) m) := by simp only [resultOf,evalOpd]; cases env.getD j .hole <;> rfl
theorem resultsOf_nil (env : Env) (S : Store) : resultsOf env S [] = some [] := id rfl
theorem resultsOf_cons (env : Env) (S : Store) (r : TRes) (rs : List TRes) : resultsOf env S (r :: rs) = consO (resultOf env S r) (resultsOf env S rs) := by rw [resultsOf]; cases resultOf env S r <;> cases resultsOf env S rs <;> rfl
def finK : Option (List TV) → Option TV
 | some [v] => some v
 | some vs => some (.tup vs)
 | none => none
theorem finK_one (v : TV) : finK (some [v]) = some v := id rfl
theorem finK_two (v w : TV) (l : List TV) : finK (some (v :: w :: l)) = some (.tup (v :: w :: l)) := id rfl
theorem finK_nil : finK (some []) = some (.tup []) := id rfl
theorem finish_eq (rs : List TRes) (env : Env) (S : Store) : finish rs env S = finK (resultsOf env S rs) := by simp only [finish]; cases resultsOf env S rs with | none => rfl | some l => cases l with | nil => rfl | cons a r => cases r <;> rfl
theorem binOp_add (k : IntKind) (a b : Int) : TM.binOp .add (.iv (.int k a)) (.iv (.int k b)) = some (.int k (k.wrap (a + b))) := by simp [TM.binOp,intOp]
theorem binOp_sub (k : IntKind) (a b : Int) : TM.binOp .sub (.iv (.int k a)) (.iv (.int k b)) = some (.int k (k.wrap (a - b))) := by simp [TM.binOp,intOp]
theorem binOp_mul (k : IntKind) (a b : Int) : TM.binOp .mul (.iv (.int k a)) (.iv (.int k b)) = some (.int k (k.wrap (a * b))) := by simp [TM.binOp,intOp]
theorem binOp_eql (k : IntKind) (a b : Int) : TM.binOp .eql (.iv (.int k a)) (.iv (.int k b)) = some (.bool (a == b)) := by simp [TM.binOp,intOp]
theorem binOp_neq (k : IntKind) (a b : Int) : TM.binOp .neq (.iv (.int k a)) (.iv (.int k b)) = some (.bool (a != b)) := by simp [TM.binOp,intOp]
theorem binOp_lss (k : IntKind) (a b : Int) : TM.binOp .lss (.iv (.int k a)) (.iv (.int k b)) = some (.bool (decide (a < b))) := by simp [TM.binOp,intOp]
theorem binOp_leq (k : IntKind) (a b : Int) : TM.binOp .leq (.iv (.int k a)) (.iv (.int k b)) = some (.bool (decide (a ≤ b))) := by simp [TM.binOp,intOp]
theorem binOp_gtr (k : IntKind) (a b : Int) : TM.binOp .gtr (.iv (.int k a)) (.iv (.int k b)) = some (.bool (decide (b < a))) := by simp [TM.binOp,intOp]
theorem binOp_geq (k : IntKind) (a b : Int) : TM.binOp .geq (.iv (.int k a)) (.iv (.int k b)) = some (.bool (decide (b ≤ a))) := by simp [TM.binOp,intOp]
def bAnd (w : Nat) (a b : Int) : Int := ((BitVec.ofInt w a &&& BitVec.ofInt w b).toNat : Nat)
def bOr (w : Nat) (a b : Int) : Int := ((BitVec.ofInt w a ||| BitVec.ofInt w b).toNat : Nat)
def bAndNot (w : Nat) (a b : Int) : Int := ((BitVec.ofInt w a &&& ~~~ BitVec.ofInt w b).toNat : Nat)
theorem binOp_and (k : IntKind) (a b : Int) : TM.binOp .and (.iv (.int k a)) (.iv (.int k b)) = some (.int k (k.wrap (bAnd k.bits a b))) := by simp [TM.binOp,intOp,bAnd]
theorem binOp_or (k : IntKind) (a b : Int) : TM.binOp .or (.iv (.int k a)) (.iv (.int k b)) = some (.int k (k.wrap (bOr k.bits a b))) := by simp [TM.binOp,intOp,bOr]
theorem binOp_andNot (k : IntKind) (a b : Int) : TM.binOp .andNot (.iv (.int k a)) (.iv (.int k b)) = some (.int k (k.wrap (bAndNot k.bits a b))) := by simp [TM.binOp,intOp,bAndNot]
theorem binOp_shl (k k' : IntKind) (a b : Int) : TM.binOp .shl (.iv (.int k a)) (.iv (.int k' b)) = if b < 0 then none else some (.int k (k.wrap (a * 2 ^ (if b.toNat ≤ k.bits then b.toNat else k.bits)))) := by simp [TM.binOp,shiftOp,Nat.min_def]
theorem binOp_shr (k k' : IntKind) (a b : Int) : TM.binOp .shr (.iv (.int k a)) (.iv (.int k' b)) = if b < 0 then none else some (.int k (a.fdiv (2 ^ (if b.toNat ≤ k.bits then b.toNat else k.bits)))) := by simp [TM.binOp,shiftOp,Nat.min_def]
theorem binOp_seql (a b : List UInt8) : TM.binOp .eql (.iv (.str a)) (.iv (.str b)) = some (.bool (a == b)) := id rfl
theorem binOp_sneq (a b : List UInt8) : TM.binOp .neq (.iv (.str a)) (.iv (.str b)) = some (.bool (!(a == b))) := id rfl
theorem unOp_not (b : Bool) : TM.unOp .not (.iv (.bool b)) = some (.bool (!b)) := id rfl
theorem convOp_toInt (k k' : IntKind) (a : Int) : convOp (.toInt k) (.iv (.int k' a)) = some (.int k (k.wrap a)) := id rfl
theorem convOp_strBytes (s : List UInt8) : convOp .strBytes (.iv (.str s)) = if s.length ≤ 70368744177664 then some (.sl .no (bytesIV s)) else none := id rfl
theorem eqB_bool (a b : Bool) : TM.eqB .bool (.iv (.bool a)) (.iv (.bool b)) = some (a == b) := id rfl
theorem floats_k (o : TOp) : floats o = (kindOf o == 0 || kindOf o == 1 || kindOf o == 2 || kindOf o == 4 || kindOf o == 6) := id rfl
attribute [go_sem] isLp_iv isLp_ptr isLp_tsl isLp_fn
attribute [go_sem] isMsl_iv scalarTV_iv
attribute [go_sem] scalar1_bool scalar1_int scalar1_str closeArgs_nil consO_some closeArgs_cons
attribute [go_sem] closeArg_iv res1_iv res1_msl resL_nil resL_cons resV_iv resV_agg
attribute [go_sem] resVs_nil ivC_some resVs_cons resolve_tup resolve_iv resK_iv resK_tsl
attribute [go_sem] resK_fn resultOf_loc resultOf_cell resultsOf_nil resultsOf_cons
attribute [go_sem] finK_one finK_two finK_nil finish_eq binOp_add binOp_sub binOp_mul binOp_eql binOp_neq binOp_lss
attribute [go_sem] binOp_leq binOp_gtr binOp_geq binOp_and binOp_or binOp_andNot binOp_shl binOp_shr binOp_seql binOp_sneq
attribute [go_sem] unOp_not convOp_toInt convOp_strBytes eqB_bool
attribute [go_sem] floats_k
theorem beqT (b : Bool) : (b == true) = b := by cases b <;> rfl
theorem beqF (b : Bool) : (b == false) = !b := by cases b <;> rfl
theorem cellsOf_bool (b : Bool) : cellsOf (.iv (.bool b)) = [.iv (.bool b)] := id rfl
theorem isRefL_bool (b : Bool) : isRefL (.iv (.bool b)) = false := id rfl
theorem cellsOf_int (k : IntKind) (m : Int) : cellsOf (.iv (.int k m)) = [.iv (.int k m)] := id rfl
theorem isRefL_int (k : IntKind) (m : Int) : isRefL (.iv (.int k m)) = false := id rfl
theorem cellsOf_str (s : List UInt8) : cellsOf (.iv (.str s)) = [.iv (.str s)] := id rfl
theorem isRefL_str (s : List UInt8) : isRefL (.iv (.str s)) = false := id rfl
theorem cellsOf_sl (a : Tag) (l : List (List IV)) : cellsOf (.iv (.sl a l)) = [.iv (.sl a l)] := id rfl
theorem isRefL_sl (a : Tag) (l : List (List IV)) : isRefL (.iv (.sl a l)) = false := id rfl
theorem cellsOf_iagg (l : List IV) : cellsOf (.iv (.agg l)) = l.map .iv := id rfl
theorem cellsOf_ptr (a b c : Nat) : cellsOf (.ptr a b c) = [.ptr a b c] := id rfl
theorem isRefL_ptr (a b c : Nat) : isRefL (.ptr a b c) = false := id rfl
theorem cellsOf_msl (a b c d e f : Nat) : cellsOf (.msl a b c d e f) = [.msl a b c d e f] := id rfl
theorem isRefL_msl (a b c d e f : Nat) : isRefL (.msl a b c d e f) = false := id rfl
theorem forget_msl (a b c d e f : Nat) : forget (.msl a b c d e f) = .msl a b c d e f := id rfl
theorem cellsOf_tsl (a : Nat) (l : List (List IV)) : cellsOf (.tsl a l) = [.tsl a l] := id rfl
theorem isRefL_tsl (a : Nat) (l : List (List IV)) : isRefL (.tsl a l) = false := id rfl
theorem cellsOf_map (a : Nat) : cellsOf (.map a) = [.map a] := id rfl
theorem isRefL_map (a : Nat) : isRefL (.map a) = false := id rfl
theorem forget_map (a : Nat) : forget (.map a) = .map a := id rfl
theorem cellsOf_fn (f : Nat) (a b : List TV) : cellsOf (.fn f a b) = [.fn f a b] := id rfl
theorem isRefL_fn (f : Nat) (a b : List TV) : isRefL (.fn f a b) = false := id rfl
theorem cellsOf_agg (l : List TV) : cellsOf (.agg l) = l := id rfl
theorem forget_iv (v : IV) : forget (.iv v) = .iv v := id rfl
theorem forget_tsl (a : Nat) (l : List (List IV)) : forget (.tsl a l) = .iv (.sl .no l) := id rfl
theorem toIVs_cons (v : TV) (r : List TV) : toIVs (v :: r) = consO (toIV1 v) (toIVs r) := by rw [toIVs]; cases toIV1 v <;> cases toIVs r <;> rfl
theorem toIV1_iv (v : IV) : toIV1 (.iv v) = some v := id rfl
def fillE1 (vs : List TV) (es : List (List TV)) (n i : Nat) (e : TOpd → TV) (r : List (Nat × TOpd)) : Option (List (List TV)) :=
 if vs.length = n ∧ i < es.length ∧ vs.any isRefL = false then fillEs (es.set i vs) n e r else none
theorem fillEs_cons (es : List (List TV)) (n i : Nat) (e : TOpd → TV) (x : TOpd) (r : List (Nat × TOpd)) : fillEs es n e ((i,x) :: r) = fillE1 (cellsOf (forget (e x))) es n i e r := id rfl
theorem fillEs_nil (es : List (List TV)) (n : Nat) (e : TOpd → TV) : fillEs es n e [] = some es := id rfl
theorem fillE1_eq (vs : List TV) (es : List (List TV)) (n i : Nat) (e : TOpd → TV) (r : List (Nat × TOpd)) : fillE1 vs es n i e r = if vs.length = n ∧ i < es.length ∧ vs.any isRefL = false then fillEs (es.set i vs) n e r else none := id rfl
def fillA (vs : List TV) (cs : List TV) (off n : Nat) (e : TOpd → TV) (r : List (Nat × Nat × TOpd)) : Option (List TV) :=
 if vs.length = n ∧ off + n ≤ cs.length ∧ vs.any isRefL = false then fill (put cs off vs) e r else none
theorem fill_cons (cs : List TV) (off n : Nat) (e : TOpd → TV) (x : TOpd) (r : List (Nat × Nat × TOpd)) : fill cs e ((off,n,x) :: r) = fillA (cellsOf (forget (e x))) cs off n e r := id rfl
theorem fill_nil (cs : List TV) (e : TOpd → TV) : fill cs e [] = some cs := id rfl
theorem fillA_eq (vs : List TV) (cs : List TV) (off n : Nat) (e : TOpd → TV) (r : List (Nat × Nat × TOpd)) : fillA vs cs off n e r = if vs.length = n ∧ off + n ≤ cs.length ∧ vs.any isRefL = false then fill (put cs off vs) e r else none := id rfl
def mkG (x : Option (List IV)) (cs : List TV) : TV := match x with
 | some l => .iv (.agg l)
 | none => .agg cs
theorem mkAgg_eq (cs : List TV) : mkAgg cs = mkG (allIV cs) cs := by simp only [mkAgg]; cases allIV cs <;> rfl
theorem mkG_some (l : List IV) (cs : List TV) : mkG (some l) cs = .iv (.agg l) := id rfl
theorem mkG_none (cs : List TV) : mkG none cs = .agg cs := id rfl
def consM (v : IV) (x : Option (List IV)) : Option (List IV) := x.map (v :: ·)
theorem consM_some (v : IV) (l : List IV) : consM v (some l) = some (v :: l) := id rfl
theorem consM_none (v : IV) : consM v none = none := id rfl
theorem allIV_cons (v : IV) (r : List TV) : allIV (.iv v :: r) = consM v (allIV r) := id rfl
theorem allIV_nil : allIV [] = some [] := id rfl
theorem toIVss_nil : toIVss [] = some [] := id rfl
theorem toIVss_cons (c : List TV) (r : List (List TV)) : toIVss (c :: r) = consO (allIV c) (toIVss r) := by rw [toIVss]; cases allIV c <;> cases toIVss r <;> rfl
theorem setP_zero {α : Type} (a : α) (l : List α) (v : α) : List.set (a :: l) 0 v = v :: l := id rfl
theorem setP_succ {α : Type} (a : α) (l : List α) (j : Nat) (v : α) : List.set (a :: l) (j + 1) v = a :: List.set l j v := id rfl
theorem sub_eq {α : Type} (cs : List α) (off n : Nat) : sub cs off n = if off + n ≤ cs.length then some ((cs.drop off).take n) else none := id rfl
theorem put_eq {α : Type} (cs : List α) (off : Nat) (vs : List α) : put cs off vs = cs.take off ++ vs ++ cs.drop (off + vs.length) := id rfl
theorem aggCells_iv (l : List IV) : aggCells (.iv (.agg l)) = some (l.map .iv) := id rfl
theorem allIV_msl (a b c d e f : Nat) (r : List TV) : allIV (.msl a b c d e f :: r) = none := id rfl
theorem allIV_map (a : Nat) (r : List TV) : allIV (.map a :: r) = none := id rfl
attribute [go_sem] cellsOf_bool isRefL_bool cellsOf_int isRefL_int cellsOf_str isRefL_str cellsOf_sl isRefL_sl
attribute [go_sem] cellsOf_iagg cellsOf_ptr isRefL_ptr cellsOf_msl isRefL_msl
attribute [go_sem] forget_msl cellsOf_tsl isRefL_tsl cellsOf_map isRefL_map forget_map cellsOf_fn isRefL_fn
attribute [go_sem] cellsOf_agg forget_iv
attribute [go_sem] forget_tsl toIVs_cons toIV1_iv
attribute [go_sem] fillEs_cons fillEs_nil fillE1_eq fill_cons fill_nil fillA_eq mkAgg_eq mkG_some mkG_none consM_some
attribute [go_sem] consM_none allIV_cons allIV_nil allIV_map toIVss_nil toIVss_cons setP_zero setP_succ sub_eq put_eq aggCells_iv
attribute [go_sem] List.length_cons List.length_nil List.take_succ_cons List.drop_succ_cons List.take_zero List.drop_zero List.take_nil List.drop_nil and_self and_true true_and
attribute [go_sem] allIV_msl allIV_map
def storeC (w : Nat) (env : Env) (S : Store) (a : TV) (vs : List TV) : Option (TV × Env × Store) := if vs.length = w then storeW (setCells env S a vs) else none
theorem storeV_c (w : Nat) (env : Env) (S : Store) (a v : TV) : storeV w env S a v = storeC w env S a (cellsOf v) := by
 unfold storeC
 split
 ·rename_i h; exact storeV_eq env S w a v h
 ·rename_i h; simp only [storeV,h,↓reduceIte]
theorem storeC_eq (w : Nat) (env : Env) (S : Store) (a : TV) (vs : List TV) : storeC w env S a vs = if vs.length = w then storeW (setCells env S a vs) else none := id rfl
def lbK (off n : Nat) : TV → Option (List TV)
 | .lb cs => sub cs off n
 | _ => none
theorem lbK_lb (off n : Nat) (cs : List TV) : lbK off n (.lb cs) = sub cs off n := id rfl
theorem getCells_lp (env : Env) (S : Store) (j off n : Nat) : getCells env S (.lp j off) n = lbK off n (env.getD j .hole) := by
 simp only [getCells,List.getD]
 cases env[j]? with
 | none => rfl
 | some v => cases v <;> rfl
def blK (v off n : Nat) : Option Block → Option (List TV)
 | some (.cells v' _ cs) => if v' = v then sub cs off n else none
 | some (.frz v' cs) => if v' = v then (sub cs off n).map (·.map .iv) else none
 | _ => none
theorem blK_cells (v off n v' : Nat) (l : Bool) (cs : List TV) : blK v off n (some (.cells v' l cs)) = if v' = v then sub cs off n else none := id rfl
theorem getCells_ptr (env : Env) (S : Store) (i v off n : Nat) : getCells env S (.ptr i v off) n = blK v off n (S[i]?) := by
 simp only [getCells]
 cases S[i]? with
 | none => rfl
 | some b => cases b <;> rfl
def setLp (env : Env) (S : Store) (j off : Nat) (vs : List TV) : TV → Option (Env × Store)
 | .lb cs => if off + vs.length ≤ cs.length then some (env.set j (.lb (put cs off vs)),S) else none
 | _ => none
theorem setLp_lb (env : Env) (S : Store) (j off : Nat) (vs cs : List TV) : setLp env S j off vs (.lb cs) = if off + vs.length ≤ cs.length then some (env.set j (.lb (put cs off vs)),S) else none := id rfl
theorem setCells_lp (env : Env) (S : Store) (j off : Nat) (vs : List TV) : setCells env S (.lp j off) vs = if vs.any isRefL then none else setLp env S j off vs (env.getD j .hole) := by
 simp only [setCells,List.getD]
 split
 ·rfl
 ·cases env[j]? with
  | none => rfl
  | some v => cases v <;> rfl
def setPt (env : Env) (S : Store) (i v off : Nat) (vs : List TV) : Option Block → Option (Env × Store)
 | some (.cells v' l cs) => if v' = v ∧ off + vs.length ≤ cs.length then some (env,S.set i (.cells v' l (put cs off vs))) else none
 | _ => none
theorem setPt_cells (env : Env) (S : Store) (i v off : Nat) (vs : List TV) (v' : Nat) (l : Bool) (cs : List TV) : setPt env S i v off vs (some (.cells v' l cs)) = if v' = v ∧ off + vs.length ≤ cs.length then some (env,S.set i (.cells v' l (put cs off vs))) else none := id rfl
theorem setCells_ptr (env : Env) (S : Store) (i v off : Nat) (vs : List TV) : setCells env S (.ptr i v off) vs = if vs.any isRefL then none else setPt env S i v off vs (S[i]?) := by
 simp only [setCells]
 split
 ·rfl
 ·cases S[i]? with
  | none => rfl
  | some b => cases b <;> rfl
theorem addOff_lp (j off n : Nat) : addOff (.lp j off) n = some (.lp j (off + n)) := id rfl
theorem addOff_ptr (i v off n : Nat) : addOff (.ptr i v off) n = some (.ptr i v (off + n)) := id rfl
theorem elemsIV_sl (S : Store) (t : Tag) (l : List (List IV)) : elemsIV S (.iv (.sl t l)) = some l := id rfl
theorem boolF : (false = true) = False := by simp
attribute [go_sem] storeV_c storeC_eq lbK_lb getCells_lp blK_cells getCells_ptr setLp_lb setCells_lp setPt_cells setCells_ptr addOff_lp addOff_ptr elemsIV_sl boolF
attribute [go_sem] same_iv same_ptr
attribute [go_sem] rcS_some
attribute [go_sem] eq_self beqT beqF List.any_cons List.any_nil List.all_cons List.all_nil TM.undef kindOf Bool.true_and Bool.and_true Bool.false_and Bool.and_false Bool.or_false Bool.false_or Bool.true_or Bool.or_true Bool.not_true Bool.not_false ite_true ite_false
end Go.TM
namespace Go.TM
@[reducible] def TT {β : Type} (α : Type) (a : β) : Type := α
def br' {α : Type} (B : Bool) (x y : Out α) : TT (Out α) (x,y) := br B x y
def bk' (K : Prog) (O : Orc) (fs : List Fr) (j : Jump) (e : Env) (S : Store) : TT (Out (Jump × Env × Store)) (fs,j,e,S) := bk K O fs j e S
def go' (K : Prog) (O : Orc) (c : TCode) (fs : List Fr) (e : Env) (S : Store) : TT (Out (Jump × Env × Store)) (c,fs,e,S) := go K O c fs e S
def opv' (K : Prog) (n : Nat) (env : Env) (M : List (Nat × TV)) (x : TOpd) : TT (TV) (n,env,M,x) := opv K n env M x
def wbk' (K : Prog) (O : Orc) (ops : List TOper) (i : Nat) (M : List (Nat × TV)) (n : Nat) (fs : List Fr) (env : Env) (S : Store) : TT (Out (Jump × Env × Store)) (ops,M,n,fs,S) := wbk K O ops i M n fs env S
def rgR' (K : Prog) (O : Orc) (all ops : List TOper) (i : Nat) (M : List (Nat × TV)) (n : Nat) (fs : List Fr) (env : Env) (S : Store) : TT (Out (Jump × Env × Store)) (all,ops,M,n,fs,env,S) := rgR K O all ops i M n fs env S
def phs' (K : Prog) (O : Orc) (ops : List TOper) (ps : List (Nat × List Nat × List Nat)) (M : List (Nat × TV)) (n : Nat) (fs : List Fr) (env : Env) (S : Store) : TT (Out (Jump × Env × Store)) (ops,ps,M,n,fs,env,S) := phs K O ops ps M n fs env S
def fls' (K : Prog) (O : Orc) (ops : List TOper) (is : List Nat) (ps : List (Nat × List Nat × List Nat)) (M : List (Nat × TV)) (n : Nat) (fs : List Fr) (env : Env) (S : Store) : TT (Out (Jump × Env × Store)) (ops,is,ps,M,n,fs,env,S) := fls K O ops is ps M n fs env S
def chk' (K : Prog) (O : Orc) (c : Bool) (ops : List TOper) (is : List Nat) (ps : List (Nat × List Nat × List Nat)) (M : List (Nat × TV)) (n : Nat) (fs : List Fr) (env : Env) (S : Store) : TT (Out (Jump × Env × Store)) (ops,is,ps,M,n,fs,env,S) := chk K O c ops is ps M n fs env S
def cont' (K : Prog) (O : Orc) (k : Kt) (M : List (Nat × TV)) (n : Nat) (fs : List Fr) (env : Env) (S : Store) : TT (Out (Jump × Env × Store)) (k,M,n,fs,env,S) := cont K O k M n fs env S
def op1' (K : Prog) (O : Orc) (o : TOp) (i : Nat) (k : Kt) (M : List (Nat × TV)) (n : Nat) (fs : List Fr) (env : Env) (S : Store) : TT (Out (Jump × Env × Store)) (o,i,k,M,n,fs,env,S) := op1 K O o i k M n fs env S
def opG' (K : Prog) (O : Orc) (g : TV) (want : Bool) (j : Nat) (o : TOp) (i : Nat) (k : Kt) (M : List (Nat × TV)) (n : Nat) (fs : List Fr) (env : Env) (S : Store) : TT (Out (Jump × Env × Store)) (want,j,o,i,k,M,n,fs,env,S) := opG K O g want j o i k M n fs env S
def opV' (K : Prog) (O : Orc) (v : Option TV) (i : Nat) (k : Kt) (M : List (Nat × TV)) (n : Nat) (fs : List Fr) (env : Env) (S : Store) : TT (Out (Jump × Env × Store)) (i,k,M,n,fs,env,S) := opV K O v i k M n fs env S
def opA' (K : Prog) (O : Orc) (v : Option (TV × Block)) (i : Nat) (k : Kt) (M : List (Nat × TV)) (n : Nat) (fs : List Fr) (env : Env) (S : Store) : TT (Out (Jump × Env × Store)) (i,k,M,n,fs,env,S) := opA K O v i k M n fs env S
def opS' (K : Prog) (O : Orc) (v : Option (TV × Store)) (i : Nat) (k : Kt) (M : List (Nat × TV)) (n : Nat) (fs : List Fr) (env : Env) : TT (Out (Jump × Env × Store)) (i,k,M,n,fs,env) := opS K O v i k M n fs env
def opE' (K : Prog) (O : Orc) (v : Option (TV × Env × Store)) (i : Nat) (k : Kt) (M : List (Nat × TV)) (n : Nat) (fs : List Fr) : TT (Out (Jump × Env × Store)) (i,k,M,n,fs) := opE K O v i k M n fs
def opC' (K : Prog) (O : Orc) (x : Out (TV × Store)) (i : Nat) (k : Kt) (M : List (Nat × TV)) (n : Nat) (fs : List Fr) (env : Env) : TT (Out (Jump × Env × Store)) (i,k,M,n,fs,env) := opC K O x i k M n fs env
def opP' (K : Prog) (O : Orc) (c a b : TV) (i : Nat) (k : Kt) (M : List (Nat × TV)) (n : Nat) (fs : List Fr) (env : Env) (S : Store) : TT (Out (Jump × Env × Store)) (i,k,M,n,fs,env,S) := opP K O c a b i k M n fs env S
def goC' (K : Prog) (O : Orc) (c : TV) (a b : TCode) (fs : List Fr) (env : Env) (S : Store) : TT (Out (Jump × Env × Store)) (a,b,fs,env,S) := goC K O c a b fs env S
def lp' (O : Orc) (b : TCode) (env : Env) (S : Store) : TT (Out (Jump × Env × Store)) (b,env,S) := lp O b env S
def goL' (K : Prog) (O : Orc) (x : Out (Jump × Env × Store)) (fs : List Fr) : TT (Out (Jump × Env × Store)) (fs) := goL K O x fs
def rgN' (K : Prog) (O : Orc) (n : Nat) (ops : List TOper) (fs : List Fr) (env : Env) (S : Store) : TT (Out (Jump × Env × Store)) (ops,fs,env,S) := rgN K O n ops fs env S
def lenT' (l : List TOper) (n : Nat) : TT Nat l := lenT l n
def flB' (c : Bool) (x y : Out (Jump × Env × Store)) : TT (Out (Jump × Env × Store)) (x,y) := flB c x y
def flO' (K : Prog) (O : Orc) (o : Option TOper) (i : Nat) (ops : List TOper) (is : List Nat) (ps : List (Nat × List Nat × List Nat)) (M : List (Nat × TV)) (n : Nat) (fs : List Fr) (env : Env) (S : Store) : TT (Out (Jump × Env × Store)) (i,ops,is,ps,M,n,fs,env,S) := flO K O o i ops is ps M n fs env S
def phO' (K : Prog) (O : Orc) (o : Option TOper) (i : Nat) (ops : List TOper) (c fl : List Nat) (ps : List (Nat × List Nat × List Nat)) (M : List (Nat × TV)) (n : Nat) (fs : List Fr) (env : Env) (S : Store) : TT (Out (Jump × Env × Store)) (i,ops,c,fl,ps,M,n,fs,env,S) := phO K O o i ops c fl ps M n fs env S
def wbV' (K : Prog) (O : Orc) (v : TV) (j : Nat) (ops : List TOper) (i : Nat) (M : List (Nat × TV)) (n : Nat) (fs : List Fr) (env : Env) (S : Store) : TT (Out (Jump × Env × Store)) (j,ops,i,M,n,fs,env,S) := wbV K O v j ops i M n fs env S
def litQ' (K : Prog) (O : Orc) (w : Nat) (x : Option (List (List IV))) (es : Option (List (List TV))) (i : Nat) (k : Kt) (M : List (Nat × TV)) (n : Nat) (fs : List Fr) (env : Env) (S : Store) : TT (Out (Jump × Env × Store)) (w,i,k,M,n,fs,env,S) := litQ K O w x es i k M n fs env S
def alB' (c : Bool) (x y : Out (Jump × Env × Store)) : TT (Out (Jump × Env × Store)) (x,y) := alB c x y
def cpV' (S : Store) (args : List TV) (v : Option TV) : TT (Out (TV × Store)) (S,args) := cpV S args v
def cpR' (S : Store) (args : List TV) (x : Out (TV × Store)) : TT (Out (TV × Store)) (S,args) := cpR S args x
def cpA' (O : Orc) (S : Store) (args : List TV) (f : Nat) (ags : Option (List TV)) : TT (Out (TV × Store)) (S,args,f) := cpA O S args f ags
def cpB' (c : Bool) (S : Store) (args : List TV) (v : TV) : TT (Out (TV × Store)) (S,args,v) := cpB c S args v
def csR' (t : Bool) (S : Store) (x : Out (TV × Store)) : TT (Out (TV × Store)) (t,S) := csR t S x
def csA' (O : Orc) (t : Bool) (S : Store) (f : Nat) (lp : Bool) (args : List TV) : TT (Out (TV × Store)) (t,S,f) := csA O t S f lp args
def fin' (rs : List TRes) (x : Out (Jump × Env × Store)) : TT (Out (TV × Store)) (rs) := fin rs x
def finV' (S : Store) (v : Option TV) : TT (Out (TV × Store)) (S) := finV S v
def rnd' (O : Orc) (b : TCode) (x : Out (Jump × Env × Store)) : TT (Out (Jump × Env × Store)) (b) := rnd O b x
def flM' (K : Prog) (M : List (Nat × TV)) (n : Nat) (env : Env) (S : Store) (o : TOp) : TT (Option TV) (M,n,env,S,o) := flM K M n env S o
def rck' (K : Prog) (ops : List TOper) (M : List (Nat × TV)) (n : Nat) (env : Env) (S : Store) (c : List Nat) : TT (Bool) (ops,M,n,env,S,c) := rck K ops M n env S c
def rcO' (K : Prog) (x : Option TOper) (j : Nat) (M : List (Nat × TV)) (n : Nat) (env : Env) (S : Store) : TT (Bool) (j,M,n,env,S) := rcO K x j M n env S
def flsN' (K : Prog) (O : Orc) (n : Nat) (f0 : List Nat) (ph : List (Nat × List Nat × List Nat)) (ops : List TOper) (fs : List Fr) (env : Env) (S : Store) : TT (Out (Jump × Env × Store)) (f0,ph,ops,fs,env,S) := flsN K O n f0 ph ops fs env S
section
variable (K : Prog) (O : Orc) (ops : List TOper) (is : List Nat) (ps : List (Nat × List Nat × List Nat)) (i : Nat) (k : Kt) (M : List (Nat × TV)) (n : Nat) (fs : List Fr) (env : Env) (S : Store)
theorem br_true' {α : Type} (x y : Out α) : br' true x y = x := _root_.id (br_true ..)
theorem br_false' {α : Type} (x y : Out α) : br' false x y = y := _root_.id (br_false ..)
theorem br_not' {α : Type} (B : Bool) (x y : Out α) : br' (!B) x y = br' B y x := _root_.id (br_not ..)
theorem br_eq' {α : Type} {B : Bool} {x y z : Out α} (h : B = true → x = z) (g : B = false → y = z) : br' B x y = z := br_eq h g
theorem opv_reg' (n : Nat) (env : Env) (M : List (Nat × TV)) (j : Nat) : opv' K n env M (.reg j) = if j < n then reg M j else .hole := _root_.id (opv_reg ..)
theorem opv_loc' (n : Nat) (env : Env) (M : List (Nat × TV)) (j : Nat) : opv' K n env M (.loc j) = locV j (env.getD j .hole) := _root_.id (opv_loc ..)
theorem opv_cst' (n : Nat) (env : Env) (M : List (Nat × TV)) (v : IV) : opv' K n env M (.cst v) = .iv v := _root_.id (opv_cst ..)
theorem opv_fn' (n : Nat) (env : Env) (M : List (Nat × TV)) (f : Nat) : opv' K n env M (.fn f) = .fn f [] [] := _root_.id (opv_fn ..)
theorem opv_glob' (n : Nat) (env : Env) (M : List (Nat × TV)) (g : Nat) : opv' K n env M (.glob g) = globV (K.glob g) := _root_.id (opv_glob ..)
theorem opV_some' (v : TV) : opV' K O (some v) i k M n fs env S = cont' K O k ((i,v) :: M) n fs env S := _root_.id (opV_some ..)
theorem opA_some' (v : TV) (b : Block) : opA' K O (some (v,b)) i k M n fs env S = opS' K O (some (v,S ++ [b])) i k M n fs env := _root_.id (opA_some ..)
theorem opS_some' (v : TV) : opS' K O (some (v,S)) i k M n fs env = cont' K O k ((i,v) :: M) n fs env S := _root_.id (opS_some ..)
theorem opE_some' (v : TV) : opE' K O (some (v,env,S)) i k M n fs = cont' K O k ((i,v) :: M) n fs env S := _root_.id (opE_some ..)
theorem opC_ret' (v : TV) : opC' K O (.ret (v,S)) i k M n fs env = cont' K O k ((i,v) :: M) n fs env S := _root_.id (opC_ret ..)
theorem opP_bool' (t : Bool) (a b : TV) : opP' K O (.iv (.bool t)) a b i k M n fs env S = br' t (cont' K O k ((i,a) :: M) n fs env S) (cont' K O k ((i,b) :: M) n fs env S) := _root_.id (opP_bool ..)
theorem opG_bool' (b want : Bool) (j : Nat) (o : TOp) : opG' K O (.iv (.bool b)) want j o i k M n fs env S = br' (b == want) (op1' K O o i k ((j,.iv (.bool want)) :: M) n fs env S) (cont' K O k ((i,undef) :: (j,.iv (.bool (!want))) :: M) n fs env S) := _root_.id (opG_bool ..)
theorem opG_undef' (want : Bool) (j : Nat) (o : TOp) : opG' K O (.tup []) want j o i k M n fs env S = cont' K O k ((i,undef) :: M) n fs env S := _root_.id (opG_undef ..)
theorem chk_true' : chk' K O true ops is ps M n fs env S = fls' K O ops is ps M n fs env S := _root_.id (chk_true ..)
theorem bk_nil' (j : Jump) : bk' K O [] j env S = .ret (j,env,S) := _root_.id (bk_nil ..)
theorem bk_seq' (b : TCode) : bk' K O (.seq b :: fs) .normal env S = go' K O b fs env S := _root_.id (bk_seq ..)
theorem bk_seq_ret' (b : TCode) : bk' K O (.seq b :: fs) .ret env S = bk' K O fs .ret env S := _root_.id (bk_seq_ret ..)
theorem bk_seq_exit' (b : TCode) (id : Nat) : bk' K O (.seq b :: fs) (.exit id) env S = bk' K O fs (.exit id) env S := _root_.id (bk_seq_exit ..)
theorem bk_blk' (id : Nat) : bk' K O (.blk id :: fs) .normal env S = bk' K O fs .normal env S := _root_.id (bk_blk ..)
theorem bk_blk_ret' (id : Nat) : bk' K O (.blk id :: fs) .ret env S = bk' K O fs .ret env S := _root_.id (bk_blk_ret ..)
theorem bk_blk_exit' (id id' : Nat) : bk' K O (.blk id :: fs) (.exit id') env S = if id' = id then bk' K O fs .normal env S else bk' K O fs (.exit id') env S := _root_.id (bk_blk_exit ..)
theorem go_skip' : go' K O .skip fs env S = bk' K O fs .normal env S := _root_.id (go_skip ..)
theorem go_ret' : go' K O .ret fs env S = bk' K O fs .ret env S := _root_.id (go_ret ..)
theorem go_exit' (id : Nat) : go' K O (.exit id) fs env S = bk' K O fs (.exit id) env S := _root_.id (go_exit ..)
theorem go_seq' (a b : TCode) : go' K O (.seq a b) fs env S = go' K O a (.seq b :: fs) env S := _root_.id (go_seq ..)
theorem go_block' (id : Nat) (b : TCode) : go' K O (.block id b) fs env S = go' K O b (.blk id :: fs) env S := _root_.id (go_block ..)
theorem goC_bool' (t : Bool) (a b : TCode) : goC' K O (.iv (.bool t)) a b fs env S = br' t (go' K O a fs env S) (go' K O b fs env S) := _root_.id (goC_bool ..)
theorem go_cond' (c : TOpd) (a b : TCode) : go' K O (.cond c a b) fs env S = goC' K O (opv' K 0 env [] c) a b fs env S := _root_.id (go_cond ..)
theorem goL_ret' (j : Jump) : goL' K O (.ret (j,env,S)) fs = bk' K O fs j env S := _root_.id (goL_ret ..)
theorem go_loop' (b : TCode) : go' K O (.loop b) fs env S = goL' K O (lp' O b env S) fs := _root_.id (go_loop ..)
theorem rgN_eq' : rgN' K O n ops fs env S = rgR' K O ops ops 0 [] n fs env S := _root_.id (rgN_eq ..)
theorem cont_rg' (all : List TOper) : cont' K O (.rg all ops i) M n fs env S = rgR' K O all ops (i + 1) M n fs env S := _root_.id (cont_rg ..)
theorem cont_fl' : cont' K O (.fl ops is ps) M n fs env S = fls' K O ops is ps M n fs env S := _root_.id (cont_fl ..)
theorem rgR_nil' (all : List TOper) : rgR' K O all [] i M n fs env S = wbk' K O all 0 M n fs env S := _root_.id (rgR_nil ..)
theorem rgR_cons' (all : List TOper) (o : TOp) (l : Option Nat) : rgR' K O all (⟨o,l,none⟩ :: ops) i M n fs env S = op1' K O o i (.rg all ops i) M n fs env S := _root_.id (rgR_cons ..)
theorem rgR_guard' (all : List TOper) (o : TOp) (l : Option Nat) (j : Nat) (want : Bool) : rgR' K O all (⟨o,l,some (j,want)⟩ :: ops) i M n fs env S = opG' K O (opv' K n env M (.reg j)) want j o i (.rg all ops i) M n fs env S := _root_.id (rgR_guard ..)
theorem flB_true' (x y : Out (Jump × Env × Store)) : flB' true x y = x := _root_.id (flB_true ..)
theorem flO_none' (o : TOp) (l : Option Nat) : flO' K O (some ⟨o,l,none⟩) i ops is ps M n fs env S = flB' (floats o) (op1' K O o i (.fl ops is ps) M n fs env S) (fls' K O ops (i :: is) ps M n fs env S) := _root_.id (flO_none ..)
theorem flO_guard' (o : TOp) (l : Option Nat) (j : Nat) (want : Bool) : flO' K O (some ⟨o,l,some (j,want)⟩) i ops is ps M n fs env S = flB' (floats o) (opG' K O (opv' K n env M (.reg j)) want j o i (.fl ops is ps) M n fs env S) (fls' K O ops (i :: is) ps M n fs env S) := _root_.id (flO_guard ..)
theorem fls_nil' : fls' K O ops [] ps M n fs env S = phs' K O ops ps M n fs env S := _root_.id (fls_nil ..)
theorem fls_cons' : fls' K O ops (i :: is) ps M n fs env S = flO' K O (oget ops i) i ops is ps M n fs env S := _root_.id (fls_cons ..)
theorem phs_nil' : phs' K O ops [] M n fs env S = wbk' K O ops 0 M n fs env S := _root_.id (phs_nil ..)
theorem phO_none' (c fl : List Nat) (o : TOp) (l : Option Nat) : phO' K O (some ⟨o,l,none⟩) i ops c fl ps M n fs env S = op1' K O o i (.ph ops c fl ps) M n fs env S := _root_.id (phO_none ..)
theorem phO_guard' (c fl : List Nat) (o : TOp) (l : Option Nat) (j : Nat) (want : Bool) : phO' K O (some ⟨o,l,some (j,want)⟩) i ops c fl ps M n fs env S = opG' K O (opv' K n env M (.reg j)) want j o i (.ph ops c fl ps) M n fs env S := _root_.id (phO_guard ..)
theorem phs_cons' (c fl : List Nat) : phs' K O ops ((i,c,fl) :: ps) M n fs env S = phO' K O (oget ops i) i ops c fl ps M n fs env S := _root_.id (phs_cons ..)
theorem wbk_nil' : wbk' K O [] i M n fs env S = bk' K O fs .normal env S := _root_.id (wbk_nil ..)
theorem wbk_none' (o : TOp) (g : Option (Nat × Bool)) : wbk' K O (⟨o,none,g⟩ :: ops) i M n fs env S = wbk' K O ops (i + 1) M n fs env S := _root_.id (wbk_none ..)
theorem wbk_some' (o : TOp) (j : Nat) (g : Option (Nat × Bool)) : wbk' K O (⟨o,some j,g⟩ :: ops) i M n fs env S = wbV' K O (opv' K n env M (.reg i)) j ops i M n fs env S := _root_.id (wbk_some ..)
theorem wbV_iv' (v : IV) (j : Nat) : wbV' K O (.iv v) j ops i M n fs env S = wbk' K O ops (i + 1) M n fs (env.set j (.iv v)) S := _root_.id (wbV_iv ..)
theorem wbV_ptr' (a b c : Nat) (j : Nat) : wbV' K O (.ptr a b c) j ops i M n fs env S = wbk' K O ops (i + 1) M n fs (env.set j (.ptr a b c)) S := _root_.id (wbV_ptr ..)
theorem wbV_tsl' (a : Nat) (l : List (List IV)) (j : Nat) : wbV' K O (.tsl a l) j ops i M n fs env S = wbk' K O ops (i + 1) M n fs (env.set j (.tsl a l)) S := _root_.id (wbV_tsl ..)
theorem wbV_it' (a : Nat) (j : Nat) : wbV' K O (.it a) j ops i M n fs env S = wbk' K O ops (i + 1) M n fs (env.set j (.it a)) S := _root_.id (wbV_it ..)
theorem wbV_fn' (f : Nat) (a b : List TV) (j : Nat) : wbV' K O (.fn f a b) j ops i M n fs env S = wbk' K O ops (i + 1) M n fs (env.set j (.fn f a b)) S := _root_.id (wbV_fn ..)
theorem wbV_tup' (c : List TV) (j : Nat) : wbV' K O (.tup c) j ops i M n fs env S = wbk' K O ops (i + 1) M n fs (env.set j (.tup c)) S := _root_.id (wbV_tup ..)
theorem br_dec' {α : Type} {p : Prop} [Decidable p] {x y z : Out α} (h : p → x = z) (g : ¬p → y = z) : br' (decide p) x y = z := br_dec h g
theorem br_beq' {α : Type} {a b : Int} {x y z : Out α} (h : a = b → x = z) (g : a ≠ b → y = z) : br' (a == b) x y = z := br_beq h g
theorem br_bne' {α : Type} {a b : Int} {x y z : Out α} (h : a ≠ b → x = z) (g : a = b → y = z) : br' (a != b) x y = z := br_bne h g
theorem op1_mov' (x : TOpd) : op1' K O (.mov x) i k M n fs env S = opV' K O (some (opv' K n env M x)) i k M n fs env S := _root_.id (op1_mov ..)
theorem op1_pick' (c a b : TOpd) : op1' K O (.pick c a b) i k M n fs env S = opP' K O (opv' K n env M c) (opv' K n env M a) (opv' K n env M b) i k M n fs env S := _root_.id (op1_pick ..)
theorem op1_build' (z : List IV) (ps : List (Nat × Nat × TOpd)) : op1' K O (.build z ps) i k M n fs env S = opV' K O ((fill (z.map .iv) (opv' K n env M) ps).map mkAgg) i k M n fs env S := _root_.id (op1_build ..)
theorem op1_nilCheck' (x : TOpd) : op1' K O (.nilCheck x) i k M n fs env S = opV' K O (ptrV (opv' K n env M x)) i k M n fs env S := _root_.id (op1_nilCheck ..)
theorem op1_bin' (op : BinOp) (x y : TOpd) : op1' K O (.bin op x y) i k M n fs env S = opV' K O (ivO (binOp op (opv' K n env M x) (opv' K n env M y))) i k M n fs env S := _root_.id (op1_bin ..)
theorem op1_eqB' (neg : Bool) (ek : EK) (x y : TOpd) : op1' K O (.eqB neg ek x y) i k M n fs env S = opV' K O (eqV neg (eqB ek (opv' K n env M x) (opv' K n env M y))) i k M n fs env S := _root_.id (op1_eqB ..)
theorem op1_un' (op : UnOp) (x : TOpd) : op1' K O (.un op x) i k M n fs env S = opV' K O (ivO (unOp op (opv' K n env M x))) i k M n fs env S := _root_.id (op1_un ..)
theorem op1_mkFn' (f : Nat) (a b : List TOpd) : op1' K O (.mkFn f a b) i k M n fs env S = opV' K O (mkFnV f (a.map (opv' K n env M)) (b.map (opv' K n env M))) i k M n fs env S := _root_.id (op1_mkFn ..)
theorem op1_fieldAddr' (off : Nat) (x : TOpd) : op1' K O (.fieldAddr off x) i k M n fs env S = opV' K O (addOff (opv' K n env M x) off) i k M n fs env S := _root_.id (op1_fieldAddr ..)
theorem op1_field' (off w : Nat) (ag : Bool) (x : TOpd) : op1' K O (.field off w ag x) i k M n fs env S = opV' K O (partV ag (subV off w (aggCells (opv' K n env M x)))) i k M n fs env S := _root_.id (op1_field ..)
theorem op1_indexAddrS' (es : Nat) (x y : TOpd) : op1' K O (.indexAddrS es x y) i k M n fs env S = opV' K O (ixS es (opv' K n env M x) (opv' K n env M y)) i k M n fs env S := _root_.id (op1_indexAddrS ..)
theorem op1_indexAddrA' (len es : Nat) (x y : TOpd) : op1' K O (.indexAddrA len es x y) i k M n fs env S = opV' K O (ixA len es (opv' K n env M x) (opv' K n env M y)) i k M n fs env S := _root_.id (op1_indexAddrA ..)
theorem op1_indexS' (x y : TOpd) : op1' K O (.indexS x y) i k M n fs env S = opV' K O (ixStr (opv' K n env M x) (opv' K n env M y)) i k M n fs env S := _root_.id (op1_indexS ..)
theorem op1_extract' (j : Nat) (x : TOpd) : op1' K O (.extract j x) i k M n fs env S = opV' K O (xtr j (opv' K n env M x)) i k M n fs env S := _root_.id (op1_extract ..)
theorem op1_cap' (x : TOpd) : op1' K O (.cap x) i k M n fs env S = opV' K O (natV (capOf (opv' K n env M x))) i k M n fs env S := _root_.id (op1_cap ..)
theorem op1_minmax' (mx : Bool) (xs : List TOpd) : op1' K O (.minmax mx xs) i k M n fs env S = opV' K O (mmV mx (xs.map (opv' K n env M))) i k M n fs env S := _root_.id (op1_minmax ..)
theorem op1_load1' (a : TOpd) : op1' K O (.load1 a) i k M n fs env S = opV' K O (partV false (getCells env S (opv' K n env M a) 1)) i k M n fs env S := _root_.id (op1_load1 ..)
theorem op1_loadN' (w : Nat) (a : TOpd) : op1' K O (.loadN w a) i k M n fs env S = opV' K O (partV true (getCells env S (opv' K n env M a) w)) i k M n fs env S := _root_.id (op1_loadN ..)
theorem op1_slice' (sk : SK) (x : TOpd) (lo hi mx : Option TOpd) : op1' K O (.slice sk x lo hi mx) i k M n fs env S = opV' K O (slV S sk (opv' K n env M x) (oI (lo.map (opv' K n env M))) (oI (hi.map (opv' K n env M))) (oI (mx.map (opv' K n env M)))) i k M n fs env S := _root_.id (op1_slice ..)
theorem op1_lookup' (kk : KK) (z : IV) (ok : Bool) (m y : TOpd) : op1' K O (.lookup kk z ok m y) i k M n fs env S = opV' K O (readOp (.lookup kk z ok m y) (opv' K n env M) env S) i k M n fs env S := _root_.id (op1_lookup ..)
theorem op1_len' (nk : NK) (x : TOpd) : op1' K O (.len nk x) i k M n fs env S = opV' K O (lenV nk S (opv' K n env M x)) i k M n fs env S := _root_.id (op1_len ..)
theorem op1_toInt' (kd : IntKind) (x : TOpd) : op1' K O (.conv (.toInt kd) x) i k M n fs env S = opV' K O (ivO (convOp (.toInt kd) (opv' K n env M x))) i k M n fs env S := _root_.id (op1_toInt ..)
theorem op1_strBytes' (x : TOpd) : op1' K O (.conv .strBytes x) i k M n fs env S = opV' K O (ivO (convOp .strBytes (opv' K n env M x))) i k M n fs env S := _root_.id (op1_strBytes ..)
theorem op1_bytesStr' (x : TOpd) : op1' K O (.conv .bytesStr x) i k M n fs env S = opV' K O (bsV (elemsIV S (opv' K n env M x))) i k M n fs env S := _root_.id (op1_bytesStr ..)
theorem litQ_some' (w : Nat) (l : List (List IV)) (es : Option (List (List TV))) : litQ' K O w (some l) es i k M n fs env S = cont' K O k ((i,.iv (.sl .full l)) :: M) n fs env S := _root_.id (litQ_some ..)
theorem op1_lit' (z : List IV) (len : Nat) (ps : List (Nat × TOpd)) : op1' K O (.lit false z len ps) i k M n fs env S = litQ' K O z.length (toLs (fillEs (List.replicate len (z.map .iv)) z.length (opv' K n env M) ps)) (fillEs (List.replicate len (z.map .iv)) z.length (opv' K n env M) ps) i k M n fs env S := _root_.id (op1_lit ..)
theorem op1_allocH' (t : Nat) (z : List IV) : op1' K O (.allocH t z) i k M n fs env S = opS' K O (some (.ptr S.length t 0,S ++ [.cells t false (z.map .iv)])) i k M n fs env := _root_.id (op1_allocH ..)
theorem op1_mkMap' : op1' K O .mkMap i k M n fs env S = opS' K O (some (.map S.length,S ++ [.mp [] 0])) i k M n fs env := _root_.id (op1_mkMap ..)
theorem op1_boxH' (t : Nat) (x : TOpd) : op1' K O (.boxH t x) i k M n fs env S = opA' K O (boxV t S.length (opv' K n env M x)) i k M n fs env S := _root_.id (op1_boxH ..)
theorem alB_true' (x y : Out (Jump × Env × Store)) : alB' true x y = x := _root_.id (alB_true ..)
theorem op1_allocL' (j : Nat) (z : List IV) : op1' K O (.allocL j z) i k M n fs env S = alB' (okL j M env) (opE' K O (some (.lp j 0,env.set j (.lb (z.map .iv)),S)) i k M n fs) (op1' K O (.allocL j z) i k M n fs env S) := _root_.id (op1_allocL ..)
theorem op1_boxL' (j : Nat) (x : TOpd) : op1' K O (.boxL j x) i k M n fs env S = alB' (okL j M env) (opE' K O (if (cellsOf (opv' K n env M x)).any isRefL then none else some (.lp j 0,env.set j (.lb (cellsOf (opv' K n env M x))),S)) i k M n fs) (op1' K O (.boxL j x) i k M n fs env S) := _root_.id (op1_boxL ..)
theorem op1_store' (w : Nat) (a v : TOpd) : op1' K O (.store w a v) i k M n fs env S = opE' K O (storeV w env S (opv' K n env M a) (opv' K n env M v)) i k M n fs := _root_.id (op1_store ..)
theorem op1_update' (kk : KK) (m y x : TOpd) : op1' K O (.update kk m y x) i k M n fs env S = opE' K O (stOp (.update kk m y x) (opv' K n env M) (sets M n) env S) i k M n fs := _root_.id (op1_update ..)
theorem op1_range' (str : Bool) (x : TOpd) : op1' K O (.range str x) i k M n fs env S = opE' K O (rangeV str env S (opv' K n env M x)) i k M n fs := _root_.id (op1_range ..)
theorem op1_nextS' (x : TOpd) : op1' K O (.nextS x) i k M n fs env S = opE' K O (nextV env S (opv' K n env M x)) i k M n fs := _root_.id (op1_nextS ..)
theorem op1_append' (mu : Bool) (es bytes el : Nat) (s x : TOpd) : op1' K O (.append mu es bytes el s x) i k M n fs env S = opS' K O (appendOp mu es bytes el S (opv' K n env M s) (opv' K n env M x)) i k M n fs env := _root_.id (op1_append ..)
theorem cpA_some' (args ags : List TV) (f : Nat) : cpA' O S args f (some ags) = cpR' S args (O.call f ags []) := _root_.id (cpA_some ..)
theorem cpR_ret' (args : List TV) (v : TV) (S' : Store) : cpR' S args (.ret (v,S')) = cpV' S args (resolve S' v) := _root_.id (cpR_ret ..)
theorem cpV_some' (args : List TV) (v : TV) : cpV' S args (some v) = cpB' (args.any isMsl && !(scalarTV v)) S args v := _root_.id (cpV_some ..)
theorem cpB_false' (args : List TV) (v : TV) : cpB' false S args v = .ret (v,S) := _root_.id (cpB_false ..)
theorem op1_callp' (t : Bool) (f : Nat) (args : List TOpd) : op1' K O (.call true t f args) i k M n fs env S = opC' K O (cpA' O S (args.map (opv' K n env M)) f (closeArgs S (args.map (opv' K n env M)))) i k M n fs env := _root_.id (op1_callp ..)
theorem csA_no' (t : Bool) (f : Nat) (args : List TV) : csA' O t S f false args = csR' t S (O.call f args S) := _root_.id (csA_no ..)
theorem csR_f' (v : TV) (S' : Store) : csR' false S (.ret (v,S')) = .ret (v,S') := _root_.id (csR_f ..)
theorem op1_calls' (t : Bool) (f : Nat) (args : List TOpd) : op1' K O (.call false t f args) i k M n fs env S = opC' K O (csA' O t S f ((args.map (opv' K n env M)).any isLp) (args.map (opv' K n env M))) i k M n fs env := _root_.id (op1_calls ..)
theorem finV_some' (v : TV) : finV' S (some v) = .ret (v,S) := _root_.id (finV_some ..)
theorem fin_ret' (rs : List TRes) : fin' rs (.ret (.ret,env,S)) = finV' S (finish rs env S) := _root_.id (fin_ret ..)
theorem fin_normal' (rs : List TRes) : fin' rs (.ret (.normal,env,S)) = finV' S (finish rs env S) := _root_.id (fin_normal ..)
theorem fin_br' (rs : List TRes) (B : Bool) (x y : Out (Jump × Env × Store)) : fin' rs (br' B x y) = br' B (fin' rs x) (fin' rs y) := _root_.id (fin_br ..)
theorem call_ret' {f : Nat} {args : List TV} {fn : TFunc} {r : TV × Store} (hf : K.funcs f = some fn) (ha : args.length = fn.nparams) (h : fin' fn.results (go' K (lim K) fn.body [] (args ++ List.replicate (fn.nlocs - fn.nparams) undef) S) = .ret r) : (lim K).call f args S = .ret r := call_ret K S hf ha h
theorem rnd_normal' (b : TCode) : rnd' O b (.ret (.normal,env,S)) = er (lp' O b env S) := _root_.id (rnd_normal ..)
theorem rnd_ret' (b : TCode) : rnd' O b (.ret (.ret,env,S)) = .ret (.ret,env,S) := _root_.id (rnd_ret ..)
theorem rnd_exit' (b : TCode) (id : Nat) : rnd' O b (.ret (.exit id,env,S)) = .ret (.exit id,env,S) := _root_.id (rnd_exit ..)
theorem loop_ret' {b : TCode} {r : Jump × Env × Store} (h : rnd' (lim K) b (go' K (lim K) b [] env S) = .ret r) : lp' (lim K) b env S = .ret r := loop_ret K env S h
theorem fl_load1' (a : TOpd) : flM' K M n env S (.load1 a) = partV false (getCells env S (opv' K n env M a) 1) := _root_.id (fl_load1 ..)
theorem fl_loadN' (w : Nat) (a : TOpd) : flM' K M n env S (.loadN w a) = partV true (getCells env S (opv' K n env M a) w) := _root_.id (fl_loadN ..)
theorem rcO_none' (o : TOp) (l : Option Nat) (j : Nat) : rcO' K (some ⟨o,l,none⟩) j M n env S = rcS (flM' K M n env S o) (opv' K n env M (.reg j)) := _root_.id (rcO_none ..)
theorem rck_nil' (ops : List TOper) : rck' K ops M n env S [] = true := _root_.id (rck_nil ..)
theorem rck_cons' (ops : List TOper) (j : Nat) (c : List Nat) : rck' K ops M n env S (j :: c) = (rcO' K (oget ops j) j M n env S && rck' K ops M n env S c) := _root_.id (rck_cons ..)
theorem cont_phR' (ops : List TOper) (ps : List (Nat × List Nat × List Nat)) (c fl : List Nat) : cont' K O (.ph ops c fl ps) M n fs env S = chk' K O (rck' K ops M n env S c) ops fl ps M n fs env S := _root_.id (cont_phR ..)
theorem go_region' (K : Prog) (O : Orc) (ops : List TOper) (fs : List Fr) (env : Env) (S : Store) : go' K O (.region ops) fs env S = rgN' K O (lenT' ops 0) ops fs env S := _root_.id (go_region ..)
theorem flsN_eq' (K : Prog) (O : Orc) (n : Nat) (f0 : List Nat) (ph : List (Nat × List Nat × List Nat)) (ops : List TOper) (fs : List Fr) (env : Env) (S : Store) : flsN' K O n f0 ph ops fs env S = fls' K O ops f0 ph [] n fs env S := _root_.id (flsN_eq ..)
theorem go_draw' (K : Prog) (O : Orc) (f0 : List Nat) (ph : List (Nat × List Nat × List Nat)) (ops : List TOper) (fs : List Fr) (env : Env) (S : Store) : go' K O (.draw f0 ph ops) fs env S = flsN' K O (lenT' ops 0) f0 ph ops fs env S := _root_.id (go_draw ..)
theorem lenT_nil' (n : Nat) : lenT' [] n = n := _root_.id (lenT_nil ..)
theorem lenT_cons' (a : TOper) (l : List TOper) (n : Nat) : lenT' (a :: l) n = lenT' l (n + 1) := _root_.id (lenT_cons ..)
attribute [go_sem] br_true' br_false' br_not' opv_reg' opv_loc' opv_cst' opv_fn' opv_glob' opV_some' opA_some' opS_some' opE_some'
attribute [go_sem] opC_ret' opP_bool' opG_bool' opG_undef' chk_true' bk_nil' bk_seq' bk_seq_ret' bk_seq_exit' bk_blk' bk_blk_ret' bk_blk_exit'
attribute [go_sem] go_skip' go_ret' go_exit' go_seq' go_block' goC_bool' go_cond' goL_ret' go_loop' rgN_eq' cont_rg' cont_fl'
attribute [go_sem] rgR_nil' rgR_cons' rgR_guard' flB_true' flO_none' flO_guard' fls_nil' fls_cons' phs_nil' phO_none' phO_guard' phs_cons'
attribute [go_sem] wbk_nil' wbk_none' wbk_some' wbV_iv' wbV_ptr' wbV_tsl' wbV_it' wbV_fn'
attribute [go_sem] wbV_tup' op1_mov' op1_pick' op1_build' op1_nilCheck' op1_bin' op1_eqB' op1_un' op1_mkFn'
attribute [go_sem] op1_fieldAddr' op1_field' op1_indexAddrS' op1_indexAddrA' op1_indexS' op1_extract' op1_cap' op1_minmax' op1_load1' op1_loadN' op1_slice'
attribute [go_sem] op1_lookup' op1_len' op1_toInt' op1_strBytes' op1_bytesStr' litQ_some' op1_lit'
attribute [go_sem] op1_allocH' op1_mkMap' op1_boxH' alB_true' op1_allocL' op1_boxL' op1_store' op1_update' op1_range' op1_nextS' op1_append'
attribute [go_sem] cpA_some' cpR_ret' cpV_some' cpB_false' op1_callp' csA_no' csR_f'
attribute [go_sem] op1_calls' finV_some' fin_ret' fin_normal' fin_br' rnd_normal' rnd_ret' rnd_exit'
attribute [go_sem] fl_load1' fl_loadN'
attribute [go_sem] rcO_none' rck_nil' rck_cons' cont_phR' go_region' flsN_eq' go_draw'
attribute [go_sem] lenT_nil' lenT_cons'
theorem loop_at {b b' : TCode} {r : Jump × Env × Store} (hb : b = b') (h : rnd' (lim K) b (go' K (lim K) b' [] env S) = .ret r) : lp' (lim K) b env S = .ret r := by
 subst hb
 exact loop_ret' K env S h
end
attribute [irreducible] br' bk' go' rgR' phs' fls' chk' cont' op1' opG' opV' opA' opS' opE' opC' opP' wbk' wbV' goC' goL' rgN' flsN' flO' phO' flB' alB' litQ' lp' cpV' cpR' cpA' cpB' csR' csA' fin' rnd' finV' opv' lenT' flM' rck' rcO'
end Go.TM
namespace Go.TM
theorem wrap_i64 {m : Int} (h : -9223372036854775808 ≤ m ∧ m ≤ 9223372036854775807) : IntKind.i64.wrap m = m := by
 unfold IntKind.wrap
 simp [IntKind.bits,IntKind.signed]
 omega
theorem wrap_i32 {m : Int} (h : -2147483648 ≤ m ∧ m ≤ 2147483647) : IntKind.i32.wrap m = m := by
 unfold IntKind.wrap
 simp [IntKind.bits,IntKind.signed]
 omega
theorem wrap_u8 {m : Int} (h : 0 ≤ m ∧ m ≤ 255) : IntKind.u8.wrap m = m := by
 unfold IntKind.wrap
 simp [IntKind.bits,IntKind.signed]
 omega
theorem decT {p : Prop} [Decidable p] (h : p) : decide p = true := decide_eq_true h
theorem decF {p : Prop} [Decidable p] (h : ¬p) : decide p = false := decide_eq_false h
theorem ifT {α : Type} {p : Prop} [Decidable p] {a b : α} (h : p) : (if p then a else b) = a := if_pos h
theorem ifF {α : Type} {p : Prop} [Decidable p] {a b : α} (h : ¬p) : (if p then a else b) = b := if_neg h
theorem eqT {a b : Int} (h : a = b) : (a == b) = true := by simp [h]
theorem eqF {a b : Int} (h : a ≠ b) : (a == b) = false := by simp [h]
theorem neT {a b : Int} (h : a ≠ b) : (a != b) = true := by simp [h]
theorem neF {a b : Int} (h : a = b) : (a != b) = false := by simp [h]
def one {α : Type} (f : α → IV) (l : List α) : List (List IV) := l.map fun a => [f a]
def u8 (b : UInt8) : IV := .int .u8 b.toNat
def i64 (n : Int) : IV := .int .i64 n
theorem one_length {α : Type} (f : α → IV) (l : List α) : (one f l).length = l.length := by simp [one]
theorem bytesIV_length (l : List UInt8) : (bytesIV l).length = l.length := by simp [bytesIV]
theorem fits_one {α : Type} (f : α → IV) (l : List α) : fits 1 (one f l) = true := by cases l <;> rfl
theorem one_drop {α : Type} (f : α → IV) (l : List α) (n : Nat) : (one f l).drop n = one f (l.drop n) := by simp [one]
theorem one_append {α : Type} (f : α → IV) (l m : List α) : one f l ++ one f m = one f (l ++ m) := by simp [one]
def cutTag (t : Tag) (n b : Nat) : Tag := match t with
 | .nil => .nil
 | .no => .no
 | .full => if n = b then .full else .no
def TagOk {α : Type} (t : Tag) (l : List α) : Prop := t = .nil → l = []
theorem TagOk.no {α : Type} (l : List α) : TagOk .no l := fun h => by cases h
theorem sliceIV_ok {t : Tag} {l : List (List IV)} {a b : Int} (ht : TagOk t l) (h : 0 ≤ a ∧ a ≤ b ∧ b ≤ l.length) : sliceIV t l (some a) (some b) none = some (.sl (cutTag t l.length b.toNat) ((l.drop a.toNat).take (b.toNat - a.toNat))) := by
 obtain ⟨h1,h2,h3⟩ := h
 have h2' : (a : Int) ≤ ((b.toNat : Nat) : Int) := by omega
 have h0 : 0 ≤ b := by omega
 have e0 : ((0 : Nat) : Int) ≤ b := h0
 cases t with
 | nil =>
  have := ht rfl
  subst this
  simp at h3
  obtain rfl : b = 0 := by omega
  obtain rfl : a = 0 := by omega
  simp [sliceIV,bounds,bound,cutTag]
 | full =>
  simp only [sliceIV,bounds,bound,h0,h1,h3,h2',and_self,↓reduceIte,cutTag]
 | no =>
  simp only [sliceIV,bounds,bound,h0,h1,h3,h2',and_self,↓reduceIte,cutTag]
theorem sliceIV_lo {t : Tag} {l : List (List IV)} {a : Int} (ht : TagOk t l) (h : 0 ≤ a ∧ a ≤ l.length) : sliceIV t l (some a) none none = some (.sl t (l.drop a.toNat)) := by
 obtain ⟨h1,h3⟩ := h
 cases t with
 | nil =>
  have := ht rfl
  subst this
  simp at h3
  obtain rfl : a = 0 := by omega
  simp [sliceIV,bounds,bound]
 | full =>
  have e : List.take (l.length - a.toNat) (List.drop a.toNat l) = List.drop a.toNat l := List.take_of_length_le (by simp)
  simp only [sliceIV,bounds,bound,h1,h3,and_self,↓reduceIte,e]
 | no =>
  have e : List.take (l.length - a.toNat) (List.drop a.toNat l) = List.drop a.toNat l := List.take_of_length_le (by simp)
  simp only [sliceIV,bounds,bound,h1,h3,and_self,↓reduceIte,e]
theorem slice_ok (S : Store) {t : Tag} {w : Nat} {l : List (List IV)} {a b : Int} (ht : TagOk t l) (hf : fits w l = true) (h : 0 ≤ a ∧ a ≤ b ∧ b ≤ l.length) : sliceOp S (.sl w) (.iv (.sl t l)) (some a) (some b) none = some (.iv (.sl (cutTag t l.length b.toNat) ((l.drop a.toNat).take (b.toNat - a.toNat)))) := by
 simp only [sliceOp,hf,↓reduceIte,sliceIV_ok ht h,Option.map_some]
theorem slice_lo (S : Store) {t : Tag} {w : Nat} {l : List (List IV)} {a : Int} (ht : TagOk t l) (hf : fits w l = true) (h : 0 ≤ a ∧ a ≤ l.length) : sliceOp S (.sl w) (.iv (.sl t l)) (some a) none none = some (.iv (.sl t (l.drop a.toNat))) := by
 simp only [sliceOp,hf,↓reduceIte,sliceIV_lo ht h,Option.map_some]
theorem tag_one {α : Type} {f : α → IV} {t : Tag} {l : List α} (h : TagOk t l) : TagOk t (one f l) := fun e => by rw [h e]; rfl
theorem slice_one_lo {α : Type} {f : α → IV} (S : Store) {t : Tag} {l : List α} {a : Int} (ht : TagOk t l) (h : 0 ≤ a ∧ a ≤ l.length) : sliceOp S (.sl 1) (.iv (.sl t (one f l))) (some a) none none = some (.iv (.sl t (one f (l.drop a.toNat)))) := by
 rw [slice_lo S (tag_one ht) (fits_one f l) (by rw [one_length]; exact h),one_drop]
theorem slice_bytes_lo (S : Store) {t : Tag} {l : List UInt8} {a : Int} (ht : TagOk t l) (h : 0 ≤ a ∧ a ≤ l.length) : sliceOp S (.sl 1) (.iv (.sl t (bytesIV l))) (some a) none none = some (.iv (.sl t (bytesIV (l.drop a.toNat)))) := slice_one_lo (f := u8) S ht h
theorem slice_str_hi (S : Store) {s : List UInt8} {b : Int} (h : 0 ≤ b ∧ b ≤ s.length) : sliceOp S .str (.iv (.str s)) none (some b) none = some (.iv (.str (s.take b.toNat))) := by
 simp only [sliceOp,bounds,bound,h,and_self,↓reduceIte]
 simp
theorem slice_str_lo (S : Store) {s : List UInt8} {a : Int} (h : 0 ≤ a ∧ a ≤ s.length) : sliceOp S .str (.iv (.str s)) (some a) none none = some (.iv (.str (s.drop a.toNat))) := by
 have e : List.take (s.length - a.toNat) (List.drop a.toNat s) = List.drop a.toNat s := List.take_of_length_le (by simp)
 simp only [sliceOp,bounds,bound,h,and_self,↓reduceIte,e]
theorem ix_ok {w : Nat} {t : Tag} {l : List (List IV)} {i : Int} {c : List IV} (h : 0 ≤ i) (hc : l[i.toNat]? = some c) (hw : c.length = w) : indexAddrS w (.iv (.sl t l)) i = some (.iv (.cp c)) := by
 have : ¬ i < 0 := by omega
 simp only [indexAddrS,this,↓reduceIte,hc,hw]
theorem ix_tsl {w j : Nat} {l : List (List IV)} {i : Int} {c : List IV} (h : 0 ≤ i) (hc : l[i.toNat]? = some c) (hw : c.length = w) : indexAddrS w (.tsl j l) i = some (.iv (.cp c)) := by
 have : ¬ i < 0 := by omega
 simp only [indexAddrS,this,↓reduceIte,hc,hw]
theorem one_get {α : Type} (f : α → IV) (l : List α) (n : Nat) : (one f l)[n]? = (l[n]?).map fun a => [f a] := by simp [one]
theorem ix_one {α : Type} [Inhabited α] (f : α → IV) {t : Tag} {l : List α} {i : Int} (h : 0 ≤ i ∧ i < l.length) : indexAddrS 1 (.iv (.sl t (one f l))) i = some (.iv (.cp [f (l.getD i.toNat default)])) := by
 refine ix_ok h.1 ?_ rfl
 have : i.toNat < l.length := by omega
 rw [one_get,List.getElem?_eq_getElem this]
 simp [List.getD,List.getElem?_eq_getElem this]
theorem ixStr_ok {s : List UInt8} {i : Int} {kd : IntKind} (h : 0 ≤ i ∧ i < s.length) : ixStr (.iv (.str s)) (.iv (.int kd i)) = some (.iv (.int .u8 (s.getD i.toNat 0).toNat)) := by
 have : i.toNat < s.length := by omega
 simp only [ixStr_str,h.1,↓reduceIte,List.getElem?_eq_getElem this,Option.map_some,List.getD,Option.getD_some]
theorem get_cp0 (env : Env) (S : Store) (x : IV) (l : List IV) : getCells env S (.iv (.cp (x :: l))) 1 = some [.iv x] := by simp [getCells,sub]
end Go.TM
namespace Go.TM
theorem ofInt_toNat {w : Nat} {a : Int} (h : 0 ≤ a ∧ a < 2 ^ w) : (BitVec.ofInt w a).toNat = a.toNat := by
 rw [BitVec.toNat_ofInt]
 have : a % ((2 ^ w : Nat) : Int) = a := Int.emod_eq_of_lt h.1 (by push_cast; exact h.2)
 rw [this]
theorem and_mask {w k : Nat} {a : Int} (h : 0 ≤ a ∧ a < 2 ^ w) (hk : (2 : Int) ^ k - 1 < 2 ^ w) : (BitVec.ofInt w a &&& BitVec.ofInt w (2 ^ k - 1)).toNat = (a % 2 ^ k).toNat := by
 have h1 : (0 : Int) ≤ 2 ^ k - 1 := by have := Int.pow_pos (n := 2) (m := k) (by decide); omega
 rw [BitVec.toNat_and,ofInt_toNat h,ofInt_toNat ⟨h1,hk⟩]
 have e : ((2 : Int) ^ k - 1).toNat = 2 ^ k - 1 := by
  have : (2 : Int) ^ k = ((2 ^ k : Nat) : Int) := by push_cast; rfl
  rw [this]; omega
 rw [e,Nat.and_two_pow_sub_one_eq_mod]
 obtain ⟨n,rfl⟩ := Int.eq_ofNat_of_zero_le h.1
 have : ((n : Int) % 2 ^ k) = ((n % 2 ^ k : Nat) : Int) := by push_cast; rfl
 rw [Int.toNat_natCast,this]; exact (Int.toNat_natCast _).symm
theorem or_add {w k : Nat} {a b : Int} (ha : 0 ≤ a ∧ a < 2 ^ w) (hb : 0 ≤ b ∧ b < 2 ^ k) (hk : (2 : Int) ^ k ≤ 2 ^ w) (hm : a % 2 ^ k = 0) : (BitVec.ofInt w a ||| BitVec.ofInt w b).toNat = (a + b).toNat := by
 rw [BitVec.toNat_or,ofInt_toNat ha,ofInt_toNat ⟨hb.1,by omega⟩]
 obtain ⟨n,rfl⟩ := Int.eq_ofNat_of_zero_le ha.1
 obtain ⟨m,rfl⟩ := Int.eq_ofNat_of_zero_le hb.1
 have hm' : n % 2 ^ k = 0 := by
  have : ((n % 2 ^ k : Nat) : Int) = 0 := by rw [← hm]; push_cast; rfl
  omega
 have hb' : m < 2 ^ k := by
  have := hb.2
  have e : ((2 : Int) ^ k) = ((2 ^ k : Nat) : Int) := by push_cast; rfl
  rw [e] at this; omega
 obtain ⟨c,rfl⟩ := Nat.dvd_of_mod_eq_zero hm'
 simp only [Int.toNat_natCast]
 rw [← Nat.two_pow_add_eq_or_of_lt hb']
 omega
theorem pow_le {k m : Nat} (h : k ≤ m) : (2 : Int) ^ k ≤ 2 ^ m := by
 have := Nat.pow_le_pow_right (n := 2) (by decide) h
 exact_mod_cast this
theorem u8_and {k : Nat} {a m : Int} (h : 0 ≤ a ∧ a ≤ 255) (hk : k ≤ 8) (hm : m = 2 ^ k - 1) : IntKind.u8.wrap (bAnd 8 a m) = a % 2 ^ k := by
 subst hm
 have h2 : (2 : Int) ^ k ≤ 2 ^ 8 := pow_le hk
 have h3 : (0 : Int) < 2 ^ k := Int.pow_pos (by decide)
 have h4 := Int.emod_nonneg a (show (2 : Int) ^ k ≠ 0 by omega)
 have h5 := Int.emod_lt_of_pos a h3
 unfold bAnd
 rw [and_mask (k := k) ⟨h.1,by omega⟩ (by omega)]
 rw [wrap_u8 (by omega)]
 omega
theorem i32_or {k : Nat} {a b : Int} (ha : 0 ≤ a ∧ a ≤ 2147483647 - 2 ^ k) (hk : k < 31) (hb : 0 ≤ b ∧ b < 2 ^ k) (hm : a % 2 ^ k = 0) : IntKind.i32.wrap (bOr 32 a b) = a + b := by
 have h2 : (2 : Int) ^ k ≤ 2 ^ 31 := pow_le (by omega)
 unfold bOr
 rw [or_add (k := k) ⟨ha.1,by omega⟩ hb (by omega) hm]
 rw [wrap_i32 (by omega)]
 omega
theorem tu8_and31 {a : Int} (h : 0 ≤ a ∧ a ≤ 255) : IntKind.u8.wrap (bAnd 8 a 31) = a % 32 := u8_and (k := 5) h (by decide) (by decide)
theorem tu8_and15 {a : Int} (h : 0 ≤ a ∧ a ≤ 255) : IntKind.u8.wrap (bAnd 8 a 15) = a % 16 := u8_and (k := 4) h (by decide) (by decide)
theorem tu8_and7 {a : Int} (h : 0 ≤ a ∧ a ≤ 255) : IntKind.u8.wrap (bAnd 8 a 7) = a % 8 := u8_and (k := 3) h (by decide) (by decide)
theorem tu8_and63 {a : Int} (h : 0 ≤ a ∧ a ≤ 255) : IntKind.u8.wrap (bAnd 8 a 63) = a % 64 := u8_and (k := 6) h (by decide) (by decide)
theorem ti32_or6 {a b : Int} (ha : 0 ≤ a ∧ a ≤ 1000000000 ∧ a % 64 = 0) (hb : 0 ≤ b ∧ b < 64) : IntKind.i32.wrap (bOr 32 a b) = a + b := i32_or (k := 6) ⟨ha.1,by have := ha.2.1; omega⟩ (by decide) hb ha.2.2
theorem ti32_or12 {a b : Int} (ha : 0 ≤ a ∧ a ≤ 1000000000 ∧ a % 4096 = 0) (hb : 0 ≤ b ∧ b < 4096) : IntKind.i32.wrap (bOr 32 a b) = a + b := i32_or (k := 12) ⟨ha.1,by have := ha.2.1; omega⟩ (by decide) hb ha.2.2
theorem ti32_or18 {a b : Int} (ha : 0 ≤ a ∧ a ≤ 1000000000 ∧ a % 262144 = 0) (hb : 0 ≤ b ∧ b < 262144) : IntKind.i32.wrap (bOr 32 a b) = a + b := i32_or (k := 18) ⟨ha.1,by have := ha.2.1; omega⟩ (by decide) hb ha.2.2
theorem ti32_andNot0 {a : Int} (h : 0 ≤ a ∧ a ≤ 2147483647) : IntKind.i32.wrap (bAndNot 32 a 0) = a := by
 have e : BitVec.ofInt 32 a &&& ~~~ BitVec.ofInt 32 0 = BitVec.ofInt 32 a := by
  have : ~~~ BitVec.ofInt 32 0 = BitVec.allOnes 32 := by decide
  rw [this,BitVec.and_allOnes]
 unfold bAndNot
 rw [e,ofInt_toNat ⟨h.1,by omega⟩,wrap_i32 (by omega)]
 omega
theorem ti32_andNot1 (a : Int) : IntKind.i32.wrap (bAndNot 32 a (-1)) = 0 := by
 have e : BitVec.ofInt 32 a &&& ~~~ BitVec.ofInt 32 (-1) = 0#32 := by
  have : ~~~ BitVec.ofInt 32 (-1) = 0#32 := by decide
  rw [this]; simp
 unfold bAndNot
 rw [e]; decide
theorem get_drop {env : Env} {S : Store} {cs : List IV} {n : Nat} {x : IV} (h : cs[n]? = some x) : getCells env S (.iv (.cp (cs.drop n))) 1 = some [.iv x] := by
 have hn : n < cs.length := by
  rcases Nat.lt_or_ge n cs.length with h1 | h1
  ·exact h1
  ·rw [List.getElem?_eq_none h1] at h; cases h
 rw [List.drop_eq_getElem_cons hn,get_cp0]
 rw [List.getElem?_eq_getElem hn] at h
 rw [Option.some.inj h]
theorem addOff_cp {cs : List IV} {n : Nat} (h : n ≤ cs.length) : addOff (.iv (.cp cs)) n = some (.iv (.cp (cs.drop n))) := by
 simp only [addOff,h,↓reduceIte]
end Go.TM
namespace Go.TM
theorem flat_len {α : Type} {w : Nat} : ∀ {l : List (List α)},(∀ y ∈ l,y.length = w) → (flat l).length = l.length * w
 | [],_ => by simp [flat]
 | a :: l,h => by
  have h1 := h a (by simp)
  have h2 := flat_len (l := l) (fun y hy => h y (by simp [hy]))
  simp only [flat,List.length_append,List.length_cons,h1,h2,Nat.add_mul]
  omega
theorem chunks_flat {α : Type} {w : Nat} : ∀ {l : List (List α)},(∀ y ∈ l,y.length = w) → chunks w l.length (flat l) = l
 | [],_ => rfl
 | a :: l,h => by
  have h1 := h a (by simp)
  have h2 := chunks_flat (l := l) (fun y hy => h y (by simp [hy]))
  simp only [flat,List.length_cons,chunks]
  rw [← h1,List.take_left',List.drop_left',h1,h2] <;> rfl
theorem toIVs_ivs : ∀ (l : List IV),toIVs (l.map .iv) = some l
 | [] => rfl
 | a :: l => by rw [List.map_cons,toIVs_cons,toIV1_iv,toIVs_ivs l,consO_some]
def isCell : IV → Bool
 | .agg _ => false
 | _ => true
theorem any_ref : ∀ {l : List IV},l.all isCell = true → (l.map TV.iv).any isRefL = false
 | [],_ => rfl
 | a :: l,h => by
  simp only [List.all_cons,Bool.and_eq_true] at h
  simp only [List.map_cons,List.any_cons,any_ref h.2,Bool.or_false]
  cases a <;> first | rfl | simp [isCell] at h
theorem all_flat : ∀ {l : List (List IV)},(∀ y ∈ l,y.all isCell = true) → (flat l).all isCell = true
 | [],_ => rfl
 | a :: l,h => by
  simp only [flat,List.all_append,Bool.and_eq_true]
  exact ⟨h a (by simp),all_flat (fun y hy => h y (by simp [hy]))⟩
theorem fits_all {w : Nat} : ∀ {l : List (List IV)},(∀ y ∈ l,y.length = w) → fits w l = true
 | [],_ => rfl
 | a :: l,h => by simp [fits,h a (by simp)]
theorem ix_map {α : Type} [Inhabited α] {w : Nat} {f : α → List IV} (hw : ∀ a,(f a).length = w) {t : Tag} {l : List α} {i : Int} (h : 0 ≤ i ∧ i < l.length) : indexAddrS w (.iv (.sl t (l.map f))) i = some (.iv (.cp (f (l.getD i.toNat default)))) := by
 refine ix_ok h.1 ?_ (hw _)
 have : i.toNat < l.length := by omega
 rw [List.getElem?_map,List.getElem?_eq_getElem this]
 simp [List.getD,List.getElem?_eq_getElem this]
theorem getCells_cp (env : Env) (S : Store) (cs : List IV) (n : Nat) : getCells env S (.iv (.cp cs)) n = (sub cs 0 n).map (·.map .iv) := id rfl
theorem take_succ_getD {α : Type} {l : List α} {d : α} {i : Nat} (h : i < l.length) : l.take (i + 1) = l.take i ++ [l.getD i d] := by
 rw [List.take_succ_eq_append_getElem h]
 simp [List.getD,List.getElem?_eq_getElem h]
def Pure (K : Prog) (f : Nat) (ags : List TV) (v : TV) : Prop := ∃ r S,(lim K).call f ags [] = .ret (r,S) ∧ resolve S r = some v
theorem pure_ret {K : Prog} {f : Nat} {ags : List TV} {v r : TV} {S : Store} (h : (lim K).call f ags [] = .ret (r,S)) (hr : resolve S r = some v) : Pure K f ags v := ⟨r,S,h,hr⟩
theorem cpR_pure {K : Prog} {f : Nat} {ags : List TV} {v : TV} (h : Pure K f ags v) (S : Store) (args : List TV) : cpR' S args ((lim K).call f ags []) = cpV' S args (some v) := by
 obtain ⟨r,S',h1,h2⟩ := h
 rw [h1,cpR_ret',h2]
def resO (v : Option TV) : Out TV := match v with
 | some v => .ret v
 | none => .fail ""
theorem resO_some (v : TV) : resO (some v) = .ret v := id rfl
def resB (x : Out (TV × Store)) : Out TV := x.bind fun r => resO (resolve r.2 r.1)
theorem resB_ret (r : TV) (S : Store) : resB (.ret (r,S)) = resO (resolve S r) := id rfl
attribute [go_sem] resO_some resB_ret
theorem call_pure {K : Prog} {f : Nat} {args : List TV} (fn : TFunc) {v : TV} (hf : K.funcs f = some fn) (ha : args.length = fn.nparams) (h : resB (fin' fn.results (go' K (lim K) fn.body [] (args ++ List.replicate (fn.nlocs - fn.nparams) undef) [])) = .ret v) : Pure K f args v := by
 generalize hx : fin' fn.results (go' K (lim K) fn.body [] (args ++ List.replicate (fn.nlocs - fn.nparams) undef) []) = x at h
 cases x with
 | ret r =>
  obtain ⟨r,S⟩ := r
  refine ⟨r,S,call_ret' K [] hf ha hx,?_⟩
  simp only [resB,Out.bind,resO] at h
  cases hr : resolve S r with
  | none => rw [hr] at h; cases h
  | some u => rw [hr] at h; cases h; rfl
 | fail s => cases h
 | pick n k => cases h
def Elems (w : Nat) (l : List (List IV)) : Prop := ∀ y ∈ l,y.length = w ∧ y.all isCell = true
theorem Elems.map {α : Type} {w : Nat} {f : α → List IV} (h : ∀ a,(f a).length = w ∧ (f a).all isCell = true) (l : List α) : Elems w (l.map f) := by
 intro y hy
 obtain ⟨a,_,rfl⟩ := List.mem_map.1 hy
 exact h a
theorem Elems.one {α : Type} {f : α → IV} (h : ∀ a,isCell (f a) = true) (l : List α) : Elems 1 (one f l) :=
 Elems.map (f := fun a => [f a]) (fun a => ⟨rfl,by simp [h a]⟩) l
def IsEl (S : Store) (x : TV) (ys : List (List IV)) : Prop := elemsTV S x = some ((flat ys).map .iv) ∧ lenOf S x = some ys.length
theorem IsEl.sl (S : Store) (t : Tag) (ys : List (List IV)) : IsEl S (.iv (.sl t ys)) ys := ⟨rfl,rfl⟩
theorem IsEl.tsl (S : Store) (j : Nat) (ys : List (List IV)) : IsEl S (.tsl j ys) ys := ⟨rfl,rfl⟩
theorem roomy_ok {n b : Nat} (h : n * b ≤ 35184372088832 ∧ b ≤ 1048576 ∧ n ≤ 35184372088832) : roomy n b = true := by
 simp [roomy,h]
theorem ap_tsl {w b el i : Nat} {S : Store} {l ys : List (List IV)} {x : TV} (hx : IsEl S x ys) (hw : Elems w ys) (hl : Elems w l) (hS : S[i]? = some (.tok l.length w el)) (hr : roomy (l.length + ys.length) b = true) :
  appendOp false w b el S (.tsl i l) x = some (.tsl i (l ++ ys),S.set i (.tok (l.length + ys.length) w el)) := by
 obtain ⟨h1,h2⟩ := hx
 have hf := flat_len (w := w) (fun y hy => (hw y hy).1)
 have ha := any_ref (all_flat (fun y hy => (hw y hy).2))
 simp only [appendOp,h1,h2,List.length_map,hf,ne_eq,not_true_eq_false,ha,Bool.false_eq_true,or_self,↓reduceIte]
 by_cases hm : ys.length = 0
 ·have : ys = [] := List.eq_nil_of_length_eq_zero hm
  subst this
  simp only [hm,↓reduceIte,isSl,List.append_nil,Nat.add_zero]
  have hi : i < S.length := by
   rcases Nat.lt_or_ge i S.length with h3 | h3
   ·exact h3
   ·rw [List.getElem?_eq_none h3] at hS; cases hS
  rw [List.getElem?_eq_getElem hi] at hS
  have e : S.set i (.tok l.length w el) = S := by rw [← Option.some.inj hS]; exact List.set_getElem_self hi
  simp [e]
 ·simp only [hm,↓reduceIte,hS,toIVs_ivs,fits_all (fun y hy => (hl y hy).1),hr,decide_true,Bool.and_self,chunks_flat (fun y hy => (hw y hy).1)]
theorem ap_new {w b el : Nat} {S : Store} {t : Tag} {l ys : List (List IV)} {x : TV} (ht : t ≠ .no) (hx : IsEl S x ys) (hw : Elems w ys) (hl : Elems w l) (h0 : ys ≠ []) (hr : roomy (l.length + ys.length) b = true) :
  appendOp false w b el S (.iv (.sl t l)) x = some (.tsl S.length (l ++ ys),S ++ [.tok (l.length + ys.length) w el]) := by
 obtain ⟨h1,h2⟩ := hx
 have hf := flat_len (w := w) (fun y hy => (hw y hy).1)
 have ha := any_ref (all_flat (fun y hy => (hw y hy).2))
 have hm : ¬ ys.length = 0 := fun e => h0 (List.eq_nil_of_length_eq_zero e)
 have ht' : (t == .no) = false := by cases t <;> first | rfl | exact absurd rfl ht
 simp only [appendOp,h1,h2,List.length_map,hf,ne_eq,not_true_eq_false,ha,Bool.false_eq_true,or_self,↓reduceIte,hm,ht',fits_all (fun y hy => (hl y hy).1),hr,Bool.not_true,Bool.or_self,toIVs_ivs,chunks_flat (fun y hy => (hw y hy).1)]
theorem ap_nil {mu : Bool} {w b el : Nat} {S : Store} {s x : TV} (hs : isSl s = true) (hx : IsEl S x []) : appendOp mu w b el S s x = some (s,S) := by
 obtain ⟨h1,h2⟩ := hx
 simp [appendOp,h1,h2,flat,hs]
def acc (i : Nat) (l : List (List IV)) : TV := if l = [] then .iv (.sl .nil []) else .tsl i l
theorem acc_nil (i : Nat) : acc i [] = .iv (.sl .nil []) := by simp [acc]
theorem acc_ne (i : Nat) {l : List (List IV)} (h : l ≠ []) : acc i l = .tsl i l := by simp [acc,h]
def accS (w el : Nat) (l : List (List IV)) : Store := if l = [] then [] else [.tok l.length w el]
theorem accS_nil (w el : Nat) : accS w el [] = [] := by simp [accS]
theorem accS_ne (w el : Nat) {l : List (List IV)} (h : l ≠ []) : accS w el l = [.tok l.length w el] := by simp [accS,h]
theorem ap_acc {w b el : Nat} {l ys : List (List IV)} {x : TV} (hx : ∀ S,IsEl S x ys) (hw : Elems w ys) (hl : Elems w l) (hr : roomy (l.length + ys.length) b = true) :
  appendOp false w b el (accS w el l) (acc 0 l) x = some (acc 0 (l ++ ys),accS w el (l ++ ys)) := by
 by_cases h : l = []
 ·subst h
  by_cases h0 : ys = []
  ·subst h0
   rw [acc_nil,accS_nil,ap_nil rfl (hx _)]; rfl
  ·rw [acc_nil,accS_nil,ap_new (by decide) (hx _) hw hl h0 hr,List.nil_append,acc_ne _ h0,accS_ne _ _ h0]
   simp
 ·have h2 : l ++ ys ≠ [] := by simp [h]
  rw [acc_ne _ h,accS_ne _ _ h,ap_tsl (hx _) hw hl rfl hr,acc_ne _ h2,accS_ne _ _ h2]
  simp
theorem lenV_acc (S : Store) (i : Nat) (l : List (List IV)) : lenV .sl S (acc i l) = some (.iv (.int .i64 l.length)) := by
 unfold acc; split
 ·rename_i h; subst h; rfl
 ·rfl
def sTag {α : Type} (l : List α) : Tag := match l with
 | [] => .nil
 | _ => .no
theorem sTag_map {α β : Type} (f : α → β) (l : List α) : sTag (l.map f) = sTag l := by cases l <;> rfl
theorem resV_acc' (S : Store) (i : Nat) (l : List (List IV)) : resV S (acc i l) = some (.sl (sTag l) l) := by cases l <;> rfl
theorem closeArg_acc (S : Store) (i : Nat) (l : List (List IV)) : closeArg S (acc i l) = some (.iv (.sl (sTag l) l)) := by cases l <;> rfl
theorem ap_acc1 {w b el : Nat} {l : List (List IV)} {t : Tag} {c : List IV} (hc : c.length = w ∧ c.all isCell = true) (hl : Elems w l) (hr : roomy (l.length + 1) b = true) :
  appendOp false w b el (accS w el l) (acc 0 l) (.iv (.sl t [c])) = some (acc 0 (l ++ [c]),accS w el (l ++ [c])) :=
 ap_acc (fun S => IsEl.sl S t [c]) (by intro y hy; simp at hy; subst hy; exact hc) hl hr
theorem ap_accB {w b el : Nat} (B : Block) {l ys : List (List IV)} {x : TV} (hx : ∀ S,IsEl S x ys) (hw : Elems w ys) (hl : Elems w l) (hr : roomy (l.length + ys.length) b = true) :
  appendOp false w b el (B :: accS w el l) (acc 1 l) x = some (acc 1 (l ++ ys),B :: accS w el (l ++ ys)) := by
 by_cases h : l = []
 ·subst h
  by_cases h0 : ys = []
  ·subst h0
   rw [acc_nil,accS_nil,ap_nil rfl (hx _)]; rfl
  ·rw [acc_nil,accS_nil,ap_new (by decide) (hx _) hw hl h0 hr,List.nil_append,acc_ne _ h0,accS_ne _ _ h0]
   simp
 ·have h2 : l ++ ys ≠ [] := by simp [h]
  rw [acc_ne _ h,accS_ne _ _ h,ap_tsl (hx _) hw hl rfl hr,acc_ne _ h2,accS_ne _ _ h2]
  simp
theorem ap_accB1 {w b el : Nat} (B : Block) {l : List (List IV)} {t : Tag} {c : List IV} (hc : c.length = w ∧ c.all isCell = true) (hl : Elems w l) (hr : roomy (l.length + 1) b = true) :
  appendOp false w b el (B :: accS w el l) (acc 1 l) (.iv (.sl t [c])) = some (acc 1 (l ++ [c]),B :: accS w el (l ++ [c])) :=
 ap_accB B (fun S => IsEl.sl S t [c]) (by intro y hy; simp at hy; subst hy; exact hc) hl hr
theorem nextV_sit (env : Env) (s : List UInt8) (pos : Nat) (R : Store) : nextV env (.sit s pos :: R) (.it 0) = if pos < s.length then some (.tup [.iv (.bool true),.iv (.int .i64 pos),.iv (.int .i32 (Utf8.decode ⟨s.toArray⟩ pos).1)],env,.sit s (pos + (Utf8.decode ⟨s.toArray⟩ pos).2) :: R) else some (.tup [.iv (.bool false)],env,.sit s pos :: R) := id rfl
attribute [go_sem] nextV_sit
theorem wbV_acc (K : Prog) (O : Orc) (j i' : Nat) (l : List (List IV)) (ops : List TOper) (i : Nat) (M : List (Nat × TV)) (n : Nat) (fs : List Fr) (env : Env) (S : Store) : wbV' K O (acc i' l) j ops i M n fs env S = wbk' K O ops (i + 1) M n fs (env.set j (acc i' l)) S := by
 unfold acc; split
 ·exact wbV_iv' K O ops i M n fs env S _ j
 ·exact wbV_tsl' K O ops i M n fs env S _ _ j
theorem forget_acc (i : Nat) (l : List (List IV)) : forget (acc i l) = .iv (.sl (sTag l) l) := by cases l <;> rfl
theorem isMsl_acc' (i : Nat) (l : List (List IV)) : isMsl (acc i l) = false := by cases l <;> rfl
theorem locV_acc (j i : Nat) (l : List (List IV)) : locV j (acc i l) = acc i l := by unfold acc; split <;> rfl
theorem isLp_acc (i : Nat) (l : List (List IV)) : isLp (acc i l) = false := by unfold acc; split <;> rfl
theorem resK_acc (i : Nat) (l : List (List IV)) : resK (acc i l) = some (acc i l) := by unfold acc; split <;> rfl
attribute [go_sem] resV_acc' closeArg_acc wbV_acc forget_acc isMsl_acc' locV_acc isLp_acc resK_acc lenV_acc
end Go.TM
namespace Go.TM
open Go Go.ChangeShapes Go.WideShapes Go.RowKit
variable {P : Program} {H : Type} {enc : TypeId × Value → H} {W : World}
def AllTy (P : Program) {H : Type} : List TypeId → List (DataW H) → List (List IV) → Prop
 | [],[],[] => True
 | t :: ts,d :: ds,l :: ls => Ty P t d l ∧ AllTy P ts ds ls
 | _,_,_ => False
def argsOf (P : Program) : List TypeId → List (List IV) → List TV
 | t :: ts,l :: ls => argOf P t l :: argsOf P ts ls
 | _,_ => []
theorem args_vr {ts : List TypeId} (hts : tyOk P ts = true) {r : Reach} {b base : Nat} {held : Bool} : ∀ {params : List TypeId} {vals : List Value} {ds : List (DataW H)} {ps : List MemPlace},(∀ t ∈ params,t ∈ ts) → (∀ (j : Nat) t v,params[j]? = some t → vals[j]? = some v → Value.okWide P W r b t v) →
  DataW.TrodAll enc P W base (fun _ => true) held params vals ds ps → ∃ ls,AllTy P params ds ls ∧ VRs (allMem W) [] [] (argsOf P params ls) vals
 | [],vals,ds,ps,_,_,h => by
  obtain ⟨rfl,rfl,rfl⟩ := trodAll_nil h
  exact ⟨[],trivial,VRs.nil⟩
 | t :: params,vals,ds,ps,hp,hv,h => by
  obtain ⟨v,vs',d,ds',p,q,rfl,rfl,rfl,h1,h2⟩ := trodAll_cons h
  obtain ⟨l,k1,k2⟩ := arg_vr hts (hp t (by simp)) (hv 0 t v rfl rfl) h1
  obtain ⟨ls,k3,k4⟩ := args_vr hts (fun u hu => hp u (by simp [hu])) (fun j u w hu hw => hv (j + 1) u w (by simpa using hu) (by simpa using hw)) h2
  exact ⟨l :: ls,⟨k1,k3⟩,VRs.cons k2 k4⟩
theorem ty_bool {t : TypeId} {d : DataW H} {l : List IV} (hu : P.underlying t = some .bool) (h : Ty P t d l) : ∃ b,l = [.bool b] := by
 cases h with
 | bool u ht b => exact ⟨b,rfl⟩
 | int u k ht => rw [hu] at ht; cases ht
 | str u ht => rw [hu] at ht; cases ht
 | nilp u e ht => rw [hu] at ht; cases ht
 | ptr u e ht => rw [hu] at ht; cases ht
 | nils u e ht => rw [hu] at ht; cases ht
 | sl u e ht => rw [hu] at ht; cases ht
 | struct u fs ht => rw [hu] at ht; cases ht
 | array u e n ht => rw [hu] at ht; cases ht
theorem argOf_agg {t : TypeId} {l : List IV} (h : (match P.underlying t with | some (.struct _) | some (.array _ _) => true | _ => false) = true) : argOf P t l = .iv (.agg l) := by
 unfold argOf
 split
 ·rfl
 ·rfl
 ·rename_i h1 h2
  split at h
  ·rename_i e; exact absurd e (h1 _)
  ·rename_i e; exact absurd e (h2 _ _)
  ·cases h
theorem allTy_nil {ds : List (DataW H)} {ls : List (List IV)} (h : AllTy P [] ds ls) : ls = [] := by
 cases ds <;> cases ls <;> first | rfl | exact h.elim
theorem all_params {P : Program} {ts : Array TypeId} {q : TypeId → Bool} (h : ts.toList.all (fun t => !(q t)) = true) (j : Nat) (t : TypeId) (ht : ts[j]? = some t) : q t = false := by
 have := List.all_eq_true.1 h t (Array.mem_toList_iff.2 (Array.mem_of_getElem? ht))
 simpa using this
theorem allTy_nilD {ds : List (DataW H)} {ls : List (List IV)} (h : AllTy P [] ds ls) : ds = [] := by
 cases ds <;> cases ls <;> first | rfl | exact h.elim
theorem allTy_consD {t : TypeId} {ts : List TypeId} {ds : List (DataW H)} {ls : List (List IV)} (h : AllTy P (t :: ts) ds ls) : ∃ (d : DataW H) (l : List IV) (ds' : List (DataW H)) (ls' : List (List IV)),ds = d :: ds' ∧ ls = l :: ls' ∧ AllTy P ts ds' ls' := by
 cases ds with
 | nil => cases ls <;> exact h.elim
 | cons d ds =>
  cases ls with
  | nil => exact h.elim
  | cons l ls => exact ⟨d,l,ds,ls,rfl,rfl,h.2⟩
theorem open_calls_all {O : Opts} {K : TM.Prog} (hk : KOK P O K) {f : Nat} {args : List TV} (h : ((lim K).call f args []).All fun r => r.1 = .iv (.bool true)) {vals : Array Value} (hv : VRs (allMem W) [] [] args vals.toList) (hg : GlobOK K (allMem W)) :
  Calls P f vals W fun e W' => e = .returned (.bool true) ∧ Below W.heap.size W W' := by
 obtain ⟨n,hn⟩ := lim_run (K := K) (f := f) (a := args) (S := []) h
 exact law_calls hk hn hv hg
end Go.TM
namespace Go.TM
section
variable (K : Prog) (O : Orc) (i : Nat) (k : Kt) (M : List (Nat × TV)) (n : Nat) (fs : List Fr) (env : Env) (S : Store)
def cvA (O : Orc) (c : Bool) (S : Store) (g : Nat) (ags : List TV) : Out (TV × Store) := if c then cpA' O S ags g (closeArgs S ags) else csA' O false S g (ags.any isLp) ags
theorem cvA_true (g : Nat) (ags : List TV) : cvA O true S g ags = cpA' O S ags g (closeArgs S ags) := by simp only [cvA,↓reduceIte]
theorem cvA_false (g : Nat) (ags : List TV) : cvA O false S g ags = csA' O false S g (ags.any isLp) ags := by simp only [cvA,Bool.false_eq_true,↓reduceIte]
def yldA (O : Orc) (S : Store) (j : Nat) (lp : Bool) (ags : List TV) : Out (TV × Store) := if lp then .fail "" else er (O.yld j ags S)
theorem yldA_no (j : Nat) (ags : List TV) : yldA O S j false ags = er (O.yld j ags S) := by simp only [yldA,Bool.false_eq_true,↓reduceIte]
def opF (f : TV) (ags : List TV) (i : Nat) (k : Kt) (M : List (Nat × TV)) (n : Nat) (fs : List Fr) (env : Env) (S : Store) : TT (Out (Jump × Env × Store)) (i,k,M,n,fs,env,S) :=
 match f with
 | .fn g a b => opC' K O (cvA O ((a ++ ags ++ b).all isIV) S g (a ++ ags ++ b)) i k M n fs env
 | .yld j => opC' K O (yldA O S j (ags.any isLp) ags) i k M n fs env
 | _ => (.fail "" : Out (Jump × Env × Store))
theorem opF_fn (g : Nat) (a b ags : List TV) : opF K O (.fn g a b) ags i k M n fs env S = opC' K O (cvA O ((a ++ ags ++ b).all isIV) S g (a ++ ags ++ b)) i k M n fs env := rfl
theorem opF_yld (j : Nat) (ags : List TV) : opF K O (.yld j) ags i k M n fs env S = opC' K O (yldA O S j (ags.any isLp) ags) i k M n fs env := rfl
theorem op1_callv (f : TOpd) (args : List TOpd) : op1' K O (.callv f args) i k M n fs env S = opF K O (opv' K n env M f) (args.map (opv' K n env M)) i k M n fs env S := by
 unfold op1' opv'
 simp only [op1,evalCall]
 show er (Out.bind (match opv K n env M f with
  | .fn g a b => Out.bind (if (a ++ args.map (opv K n env M) ++ b).all isIV then callPure O g (a ++ args.map (opv K n env M) ++ b) S else callSt O false g (a ++ args.map (opv K n env M) ++ b) S) fun r => .ret (r.1,env,r.2)
  | .yld j => if (args.map (opv K n env M)).any isLp then .fail "yield: a local's address" else Out.bind (O.yld j (args.map (opv K n env M)) S) fun r => .ret (r.1, env, r.2)
  | _ => .fail "callv") _) = _
 cases opv K n env M f with
 | fn g a b =>
  simp only [opF,cvA,Out.bind_assoc,Out.bind]
  split
  ·unfold opC' cpA'
   rw [← er_callPure,← opC_er]
  ·unfold opC' csA'
   rw [← er_callSt,← opC_er]
 | yld j =>
  simp only [opF,yldA]
  split
  ·unfold opC'; rfl
  ·unfold opC'
   rw [← opC_er]
   simp only [Out.bind_assoc,Out.bind]
 | _ => rfl
end
theorem isIV_iv (v : IV) : isIV (.iv v) = true := id rfl
theorem isIV_ptr (a b c : Nat) : isIV (.ptr a b c) = false := id rfl
theorem mkFnV_eq (f : Nat) (a b : List TV) : mkFnV f a b = if (a ++ b).any isLp = true then none else some (.fn f a b) := id rfl
theorem boxV_eq (t m : Nat) (v : TV) : boxV t m v = if (cellsOf v).any isRefL = true then none else some (.ptr m t 0,.cells t false (cellsOf v)) := id rfl
attribute [go_sem] cvA_true cvA_false yldA_no opF_fn opF_yld op1_callv isIV_iv isIV_ptr mkFnV_eq boxV_eq
end Go.TM
namespace Go.TM
open Go
end Go.TM
namespace Go.TM
section
variable (K : Prog) (O : Orc) (fs : List Fr) (env : Env) (S : Store)
def rfB (K : Prog) (O : Orc) (n : Nat) (env : Env) (fs : List Fr) (S : Store) : Option Block → Out (Jump × Env × Store)
 | some (.lp .busy ..) => .fail ""
 | some (.lp _ pend env' ps a b) => bk K O fs (pend.getD .normal) env (S.set n (.lp .exhausted pend env' ps a b))
 | _ => .fail ""
def rfR (K : Prog) (O : Orc) (n : Nat) (env : Env) (fs : List Fr) (x : Out (TV × Store)) : TT (Out (Jump × Env × Store)) (n,env,fs) :=
 (er x).bind fun r => rfB K O n env fs r.2 (r.2[n]?)
def rfF (K : Prog) (O : Orc) (v : TV) (ps : List Nat) (a b : TCode) (fs : List Fr) (env : Env) (S : Store) : TT (Out (Jump × Env × Store)) (ps,a,b,fs,env,S) :=
 match v with
 | .fn k fst cap => rfR K O S.length env fs (O.call k (fst ++ .yld S.length :: cap) (S ++ [.lp .ready none (env.map noLb) ps a b]))
 | _ => (.fail "" : Out (Jump × Env × Store))
theorem rfF_fn (k : Nat) (fst cap : List TV) (ps : List Nat) (a b : TCode) : rfF K O (.fn k fst cap) ps a b fs env S = rfR K O S.length env fs (O.call k (fst ++ .yld S.length :: cap) (S ++ [.lp .ready none (env.map noLb) ps a b])) := id rfl
theorem rfR_ret (n : Nat) (v : TV) (S' : Store) : rfR K O n env fs (.ret (v,S')) = rfB K O n env fs S' (S'[n]?) := id rfl
theorem rfB_ready (n : Nat) (e' : Env) (ps : List Nat) (a b : TCode) : rfB K O n env fs S (some (.lp .ready none e' ps a b)) = bk' K O fs .normal env (S.set n (.lp .exhausted none e' ps a b)) := by unfold bk'; exact id rfl
theorem go_rangeFunc (f : TOpd) (ps : List Nat) (a b : TCode) : go' K O (.rangeFunc f ps a b) fs env S = rfF K O (opv' K 0 env [] f) ps a b fs env S := by
 unfold go' opv'
 simp only [go,exec,rfF,opv,sets,List.range_zero,List.map_nil]
 cases evalOpd K env [] f with
 | fn k fst cap =>
  simp only [Out.bind_assoc]
  unfold rfR
  rw [er_bind]
  refine Out.bind_congr fun r => ?_
  cases hx : r.2[S.length]? with
  | none => rfl
  | some B =>
   cases B with
   | lp st pend e' ps' a' b' => cases st <;> rfl
   | _ => rfl
 | _ => rfl
end
theorem noLb_lb (cs : List TV) : noLb (.lb cs) = .hole := id rfl
theorem noLb_iv (v : IV) : noLb (.iv v) = .iv v := id rfl
theorem noLb_ptr (a b c : Nat) : noLb (.ptr a b c) = .ptr a b c := id rfl
theorem noLb_tsl (a : Nat) (l : List (List IV)) : noLb (.tsl a l) = .tsl a l := id rfl
theorem noLb_fn (f : Nat) (a b : List TV) : noLb (.fn f a b) = .fn f a b := id rfl
theorem noLb_tup (l : List TV) : noLb (.tup l) = .tup l := id rfl
attribute [go_sem] rfF_fn rfR_ret rfB_ready go_rangeFunc noLb_lb noLb_iv noLb_ptr noLb_tsl noLb_fn noLb_tup
attribute [irreducible] rfR rfF
theorem go_exec {K : Prog} {O : Orc} {c : TCode} {env : Env} {S : Store} {r : Jump × Env × Store} (h : go' K O c [] env S = .ret r) : exec K O c env S = .ret r := by
 unfold go' at h
 simp only [go] at h
 have h1 := er_eq h
 cases hx : exec K O c env S with
 | ret q => rw [hx] at h1; simpa [Out.bind,back] using h1
 | fail s => rw [hx] at h1; cases h1
 | pick n k => rw [hx] at h1; cases h1
theorem yld_true {K : Prog} {i : Nat} {args : List TV} {S S1 S2 : Store} {st : LoopState} {p p2 p3 : Option Jump} {st3 : LoopState} {env env1 env2 env3 e2 e3 : Env} {ps ps2 ps3 : List Nat} {a b a2 b2 a3 b3 : TCode}
  (h : S[i]? = some (.lp st p env ps a b)) (hs : setAll env ps args = some env1) (h1 : go' K (lim K) a [] env1 S = .ret (.normal,env2,S1)) (h2 : S1[i]? = some (.lp .ready p2 e2 ps2 a2 b2))
  (h3 : go' K (lim K) b [] env2 (S1.set i (.lp .busy p2 e2 ps2 a2 b2)) = .ret (.normal,env3,S2)) (h4 : S2[i]? = some (.lp st3 p3 e3 ps3 a3 b3)) :
  (lim K).yld i args S = .ret (.iv (.bool true),S2.set i (.lp .ready none e3 ps3 a3 b3)) := by
 refine lim_yld ?_
 have e1 := go_exec h1
 have e3 := go_exec h3
 simp only [yldBody,h,hs,e1,Out.bind,h2,e3,h4]
end Go.TM
namespace Go.TM
section
variable {K : Prog} {O : Orc} {i : Nat} {k : Kt} {M : List (Nat × TV)} {n : Nat} {fs : List Fr} {env : Env} {S : Store} {rs : List TRes} {b : TCode}
end
end Go.TM
