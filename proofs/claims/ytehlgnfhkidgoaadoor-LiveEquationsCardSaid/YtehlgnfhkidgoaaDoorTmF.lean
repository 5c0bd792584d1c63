/- A part of the evaluator TM, and of the proof that what it computes the model does. Condition: none. -/
import Derived.Test.YtehlgnfhkidgoaaDoorTmD
import Derived.Shelf.Strings.Builder1
import Derived.Lib.Bytealg
import Derived.Lib.MakeNoZero
import Derived.Lib.SlKeysI
import Derived.Maps.Keyed
import Derived.Maps.Own
import Derived.Laws.AppendOwn
import Derived.Test.YtehlgnfhkidgoaaDoorTmE
import Derived.Shelf.SortM.Plain
import Derived.Shelf.SortM.SortNone
set_option linter.unusedVariables false
set_option linter.unusedSimpArgs false
namespace Go.TM
open Go Go.Shelf Go.RowKit Go.Proofs
theorem callsIn_of_calls {P : Program} {F : Fence} (hF : FenceOK F) {n f : Nat} {args : Array Value} {w : World} {R : Ending → World → Prop} (h : Calls P f args w R) : CallsIn F n P f args w R := by
 have e : F.plain = Fence.wide := by
  obtain ⟨h1,h2,h3⟩ := hF
  cases F
  simp only at h1 h2 h3
  subst h2 h3
  simp only [Fence.plain,Fence.wide,Fence.mk.injEq,and_true]
  funext x
  exact propext (iff_true_intro (h1 x))
 refine callsIn_plain ?_
 rw [e]
 exact callsIn_wide.2 h
variable {P : Program} {O : Opts} {K : TM.Prog}
def primAt : List (Nat × Prim) → Nat → Option Prim
 | [],_ => none
 | (k,p) :: r,f => if k == f then some p else primAt r f
theorem primAt_ok {l : List (Nat × Prim)} (h : ∀ x ∈ l,PrimOK P O K x.1 x.2) {f : Nat} {p : Prim} (hf : primAt l f = some p) : PrimOK P O K f p := by
 induction l with
 | nil => simp [primAt] at hf
 | cons x r ih =>
  obtain ⟨k,q⟩ := x
  unfold primAt at hf
  split at hf
  ·rename_i hk
   simp only [beq_iff_eq] at hk
   simp only [Option.some.injEq] at hf
   subst hk hf
   exact h (k,q) (by simp)
  ·exact ih (fun x hx => h x (by simp [hx])) hf
end Go.TM
namespace Go.TM
open Go Go.Maps Go.RowKit Go.Proofs Go.ChangeShapes Go.WideShapes Go.MapKept
open Go.WideElems (Fit rg rd rg_of)
def insI (x : Int) : List Int → List Int
 | [] => [x]
 | y :: r => if x ≤ y then x :: y :: r else y :: insI x r
def sortI : List Int → List Int
 | [] => []
 | x :: r => insI x (sortI r)
theorem insI_perm (x : Int) : ∀ l : List Int,(insI x l).Perm (x :: l)
 | [] => .refl _
 | y :: r => by
  unfold insI
  split
  ·exact .refl _
  ·exact ((insI_perm x r).cons y).trans (.swap _ _ _)
theorem sortI_perm : ∀ l : List Int,(sortI l).Perm l
 | [] => .refl _
 | x :: r => (insI_perm x (sortI r)).trans ((sortI_perm r).cons x)
theorem insI_pair (x : Int) : ∀ l : List Int,l.Pairwise (· ≤ ·) → (insI x l).Pairwise (· ≤ ·)
 | [],_ => by simp [insI]
 | y :: r,h => by
  have h' := List.pairwise_cons.1 h
  unfold insI
  split
  ·rename_i hxy
   refine List.pairwise_cons.2 ⟨fun a ha => ?_,h⟩
   rcases List.mem_cons.1 ha with rfl | ha
   ·exact hxy
   ·have := h'.1 a ha; omega
  ·rename_i hxy
   refine List.pairwise_cons.2 ⟨fun a ha => ?_,insI_pair x r h'.2⟩
   rcases List.mem_cons.1 ((insI_perm x r).mem_iff.1 ha) with rfl | ha
   ·omega
   ·exact h'.1 a ha
theorem sortI_pair : ∀ l : List Int,(sortI l).Pairwise (· ≤ ·)
 | [] => .nil
 | x :: r => insI_pair x _ (sortI_pair r)
theorem sortI_unique {l m : List Int} (hp : m.Perm l) (hm : m.Pairwise (· ≤ ·)) : m = sortI l := by
 refine List.Perm.eq_of_pairwise (le := fun a b => a ≤ b) (fun a b _ _ h1 h2 => Int.le_antisymm h1 h2) hm (sortI_pair l) (hp.trans (sortI_perm l).symm)
theorem mergeSort_sortI {l m : List Int} (hp : l.Perm m) : l.mergeSort leI = sortI m := by
 refine sortI_unique ((List.mergeSort_perm l leI).trans hp) ?_
 have tr : ∀ a b c : Int,leI a b = true → leI b c = true → leI a c = true := fun a b c h1 h2 => by simp only [leI,decide_eq_true_eq] at *; exact Int.le_trans h1 h2
 have to : ∀ a b : Int,(leI a b || leI b a) = true := fun a b => by simp only [leI,Bool.or_eq_true,decide_eq_true_eq]; exact Int.le_total a b
 exact (List.pairwise_mergeSort tr to l).imp fun h => by simpa [leI] using h
variable {P : Program} {O : Opts} {K : TM.Prog}
end Go.TM
namespace Go.TM
def lkV (kk : KK) (z : IV) (ok : Bool) (S : Store) (m k : TV) : Option TV :=
 match toIV k with
 | some k =>
  if !(keyOk kk k) then none else
  match lookIn kk S m k with
  | some (some (_,x)) => some (if ok then .tup [x,.iv (.bool true)] else x)
  | some none => some (if ok then .tup [.iv z,.iv (.bool false)] else .iv z)
  | none => none
 | none => none
theorem readOp_lookup (kk : KK) (z : IV) (ok : Bool) (m y : TOpd) (e : TOpd → TV) (env : Env) (S : Store) : readOp (.lookup kk z ok m y) e env S = lkV kk z ok S (e m) (e y) := id rfl
def upV (kk : KK) (env : Env) (S : Store) (m k x : TV) : Option (TV × Env × Store) :=
 match toIV k,m with
 | some k,.map j => if !(keyOk kk k) then none else match S[j]? with
  | some (.mp es clock) => if isLp x then none else match findKey kk k es 0 with
   | some (some (n,_)) => if !(((es[n]?).map fun y => keySame y.2.1 k).getD false) then none else some (undef,env,S.set j (.mp (es.modify n fun y => (y.1,k,x)) clock))
   | some none => some (undef,env,S.set j (.mp (es ++ [(clock,k,x)]) (clock + 1)))
   | none => none
  | _ => none
 | _,_ => none
theorem stOp_update (kk : KK) (m y x : TOpd) (e : TOpd → TV) (rs : List TV) (env : Env) (S : Store) : stOp (.update kk m y x) e rs env S = upV kk env S (e m) (e y) (e x) := id rfl
attribute [go_sem] readOp_lookup stOp_update
section
variable {α : Type}
def mpR (f : α → TV) (l : List (Nat × Int × α)) : List (Nat × IV × TV) := l.map fun x => (x.1,.int .i64 x.2.1,f x.2.2)
def getR : List (Nat × Int × α) → Int → Option α
 | [],_ => none
 | x :: r,k => if x.2.1 = k then some x.2.2 else getR r k
def putR : List (Nat × Int × α) → Nat → Int → α → List (Nat × Int × α)
 | [],c,k,a => [(c,k,a)]
 | x :: r,c,k,a => if x.2.1 = k then (x.1,k,a) :: r else x :: putR r c k a
def hasR (l : List (Nat × Int × α)) (k : Int) : Bool := (getR l k).isSome
def clkR (l : List (Nat × Int × α)) (c : Nat) (k : Int) : Nat := if hasR l k then c else c + 1
theorem findKey_mpR (f : α → TV) (k : Int) : ∀ (l : List (Nat × Int × α)) (i : Nat),∃ n,findKey (.leaf .int) (.int .i64 k) (mpR f l) i = some ((getR l k).map fun a => (n,f a))
 | [],i => ⟨i,rfl⟩
 | x :: r,i => by
  by_cases hx : k = x.2.1
  ·refine ⟨i,?_⟩
   simp [mpR,findKey,keyEq,leafEq,getR,hx]
  ·obtain ⟨n,h1⟩ := findKey_mpR f k r (i + 1)
   refine ⟨n,?_⟩
   simp only [mpR] at h1
   simp only [mpR,List.map_cons,findKey,keyEq,leafEq,↓reduceIte,getR,Ne.symm hx]
   rw [show (k == x.2.1) = false by simp [hx]]
   exact h1
theorem findKey_none (f : α → TV) {k : Int} {l : List (Nat × Int × α)} (h : hasR l k = false) : findKey (.leaf .int) (.int .i64 k) (mpR f l) 0 = some none := by
 obtain ⟨n,h1⟩ := findKey_mpR f k l 0
 have : getR l k = none := by simpa [hasR] using h
 rw [h1,this]; rfl
theorem put_new : ∀ {l : List (Nat × Int × α)} {k : Int},hasR l k = false → ∀ (c : Nat) (a : α),putR l c k a = l ++ [(c,k,a)]
 | [],k,_,c,a => rfl
 | x :: r,k,h,c,a => by
  have hx : x.2.1 ≠ k := fun e => by simp [hasR,getR,e] at h
  have hr : hasR r k = false := by simpa [hasR,getR,hx] using h
  simp only [putR,hx,↓reduceIte,put_new hr c a,List.cons_append]
theorem put_old (f : α → TV) (a : α) (c : Nat) (k : Int) : ∀ (l : List (Nat × Int × α)) (i : Nat),hasR l k = true → ∃ n v,findKey (.leaf .int) (.int .i64 k) (mpR f l) i = some (some (n,v)) ∧ i ≤ n ∧ ((((mpR f l)[n - i]?).map fun y => keySame y.2.1 (.int .i64 k)).getD false) = true ∧ (mpR f l).modify (n - i) (fun y => (y.1,.int .i64 k,f a)) = mpR f (putR l c k a)
 | [],i,h => by simp [hasR,getR] at h
 | x :: r,i,h => by
  by_cases hx : k = x.2.1
  ·refine ⟨i,f x.2.2,?_,Nat.le_refl _,?_,?_⟩
   ·simp [mpR,findKey,keyEq,leafEq,hx]
   ·simp [mpR,keySame,leafSame,hx]
   ·simp [mpR,putR,hx]
  ·have hh : hasR r k = true := by simpa [hasR,getR,Ne.symm hx] using h
   obtain ⟨n,v,h1,h2,h3,h4⟩ := put_old f a c k r (i + 1) hh
   refine ⟨n,v,?_,by omega,?_,?_⟩
   ·simp only [mpR] at h1
    simp only [mpR,List.map_cons,findKey,keyEq,leafEq,↓reduceIte]
    rw [show (k == x.2.1) = false by simp [hx]]
    exact h1
   ·rw [show n - i = (n - (i + 1)) + 1 by omega]
    simp only [mpR,List.map_cons,List.getElem?_cons_succ] at h3 ⊢
    exact h3
   ·rw [show n - i = (n - (i + 1)) + 1 by omega]
    simp only [mpR,List.map_cons,putR,Ne.symm hx,↓reduceIte,List.modify_succ_cons] at h4 ⊢
    rw [h4]
theorem lk_map {f : α → TV} {S : Store} {j c : Nat} {l : List (Nat × Int × α)} (h : S[j]? = some (.mp (mpR f l) c)) (z : IV) (ok : Bool) (k : Int) :
  lkV (.leaf .int) z ok S (.map j) (.iv (.int .i64 k)) = some (match getR l k with | some a => (if ok then .tup [f a,.iv (.bool true)] else f a) | none => (if ok then .tup [.iv z,.iv (.bool false)] else .iv z)) := by
 obtain ⟨n,h1⟩ := findKey_mpR f k l 0
 simp only [lkV,toIV,toIV1,keyOk,Bool.not_true,Bool.false_eq_true,↓reduceIte,lookIn,h,h1]
 cases getR l k <;> rfl
theorem getR_put : ∀ (l : List (Nat × Int × α)) (c : Nat) (k : Int) (a : α) (m : Int),getR (putR l c k a) m = if k = m then some a else getR l m
 | [],c,k,a,m => by simp [putR,getR]
 | x :: r,c,k,a,m => by
  simp only [putR]
  by_cases h : x.2.1 = k
  ·simp only [h,↓reduceIte,getR]
   by_cases hk : k = m <;> simp [hk]
  ·simp only [h,↓reduceIte,getR,getR_put r c k a m]
   by_cases hm : x.2.1 = m
   ·have : ¬ k = m := fun e => h (hm.trans e.symm)
    simp [hm,this]
   ·simp [hm]
structure RowsOK (l : List (Nat × Int × α)) (c : Nat) : Prop where
 born : ∀ x ∈ l,x.1 < c
 once : (l.map (·.1)).Nodup
 keys : (l.map (·.2.1)).Nodup
 rng : ∀ x ∈ l,-9223372036854775808 ≤ x.2.1 ∧ x.2.1 ≤ 9223372036854775807
end
def lkB (kk : KK) (z : IV) (ok : Bool) (b : Option Block) (k : TV) : Option TV :=
 match toIV k with
 | some k =>
  if !(keyOk kk k) then none else
  match (match b with | some (.mp es _) => findKey kk k es 0 | _ => none) with
  | some (some (_,x)) => some (if ok then .tup [x,.iv (.bool true)] else x)
  | some none => some (if ok then .tup [.iv z,.iv (.bool false)] else .iv z)
  | none => none
 | none => none
theorem lkV_map (kk : KK) (z : IV) (ok : Bool) (S : Store) (j : Nat) (k : TV) : lkV kk z ok S (.map j) k = lkB kk z ok (S[j]?) k := by
 simp only [lkV,lkB,lookIn]
 cases toIV k with
 | none => rfl
 | some k =>
  simp only
  cases S[j]? with
  | none => rfl
  | some b => cases b <;> rfl
def upB (kk : KK) (env : Env) (S : Store) (j : Nat) (b : Option Block) (k x : TV) : Option (TV × Env × Store) :=
 match toIV k with
 | some k => if !(keyOk kk k) then none else match b with
  | some (.mp es clock) => if isLp x then none else match findKey kk k es 0 with
   | some (some (n,_)) => if !(((es[n]?).map fun y => keySame y.2.1 k).getD false) then none else some (undef,env,S.set j (.mp (es.modify n fun y => (y.1,k,x)) clock))
   | some none => some (undef,env,S.set j (.mp (es ++ [(clock,k,x)]) (clock + 1)))
   | none => none
  | _ => none
 | _ => none
theorem upV_map (kk : KK) (env : Env) (S : Store) (j : Nat) (k x : TV) : upV kk env S (.map j) k x = upB kk env S j (S[j]?) k x := by
 simp only [upV,upB]
 cases toIV k <;> rfl
attribute [go_sem] lkV_map upV_map
theorem lkB_mp {α : Type} (f : α → TV) (l : List (Nat × Int × α)) (c : Nat) (z : IV) (ok : Bool) (k : Int) :
  lkB (.leaf .int) z ok (some (.mp (mpR f l) c)) (.iv (.int .i64 k)) = some (match getR l k with | some a => (if ok then .tup [f a,.iv (.bool true)] else f a) | none => (if ok then .tup [.iv z,.iv (.bool false)] else .iv z)) := by
 have h : (([.mp (mpR f l) c] : Store))[0]? = some (.mp (mpR f l) c) := rfl
 rw [← h,← lkV_map]
 exact lk_map h z ok k
theorem upB_mp {α : Type} (f : α → TV) (l : List (Nat × Int × α)) (c : Nat) (env : Env) (S : Store) (j : Nat) (k : Int) {x : TV} (a : α) (hx : x = f a) (hl : isLp x = false) :
  upB (.leaf .int) env S j (some (.mp (mpR f l) c)) (.iv (.int .i64 k)) x = some (undef,env,S.set j (.mp (mpR f (putR l c k a)) (clkR l c k))) := by
 simp only [upB,toIV,toIV1,keyOk,Bool.not_true,Bool.false_eq_true,↓reduceIte,hl]
 cases hh : hasR l k with
 | false =>
  rw [findKey_none f hh]
  simp only [put_new hh,clkR,hh,Bool.false_eq_true,↓reduceIte,mpR,List.map_append,List.map_cons,List.map_nil,hx]
 | true =>
  obtain ⟨n,v,h1,h2,h3,h4⟩ := put_old f a c k l 0 hh
  rw [Nat.sub_zero] at h3 h4
  rw [h1]
  simp only [h3,Bool.not_true,Bool.false_eq_true,↓reduceIte,hx,h4,clkR,hh]
def boxI (n : Int) : TV := .iv (.agg [.int .i64 n])
def cntR (l : List (Nat × Int × Int)) (k : Int) : Int := (getR l k).getD 0
theorem lkB_box (l : List (Nat × Int × Int)) (c : Nat) (k : Int) : lkB (.leaf .int) (.agg [.int .i64 0]) false (some (.mp (mpR boxI l) c)) (.iv (.int .i64 k)) = some (.iv (.agg [.int .i64 (cntR l k)])) := by
 rw [lkB_mp]
 simp only [cntR,Bool.false_eq_true,↓reduceIte]
 cases getR l k <;> rfl
theorem upB_box (l : List (Nat × Int × Int)) (c : Nat) (env : Env) (S : Store) (j : Nat) (k a : Int) : upB (.leaf .int) env S j (some (.mp (mpR boxI l) c)) (.iv (.int .i64 k)) (.iv (.agg [.int .i64 a])) = some (undef,env,S.set j (.mp (mpR boxI (putR l c k a)) (clkR l c k))) :=
 upB_mp boxI l c env S j k a rfl rfl
attribute [go_sem] lkB_box upB_box
structure Keep (I : List Nat) (S S' : Store) : Prop where
 len : S.length ≤ S'.length
 get : ∀ i b,i ∉ I → S[i]? = some b → S'[i]? = some b
theorem Keep.trans {I : List Nat} {S S' S'' : Store} (h : Keep I S S') (g : Keep I S' S'') : Keep I S S'' :=
 ⟨Nat.le_trans h.len g.len,fun i b hi hb => g.get i b hi (h.get i b hi hb)⟩
theorem Keep.app (I : List Nat) (S : Store) (l : Store) : Keep I S (S ++ l) :=
 ⟨by simp,fun i b _ hb => by
  have : i < S.length := by
   rcases Nat.lt_or_ge i S.length with h | h
   ·exact h
   ·rw [List.getElem?_eq_none h] at hb; cases hb
  rw [List.getElem?_append_left this]; exact hb⟩
theorem Keep.set {I : List Nat} (S : Store) {j : Nat} (hj : j ∈ I) (b : Block) : Keep I S (S.set j b) :=
 ⟨by simp,fun i b' hi hb => by
  have : j ≠ i := fun e => hi (e ▸ hj)
  rw [List.getElem?_set_ne this]; exact hb⟩
theorem lt_get {S : Store} {i : Nat} {b : Block} (h : S[i]? = some b) : i < S.length := by
 rcases Nat.lt_or_ge i S.length with h' | h'
 ·exact h'
 ·rw [List.getElem?_eq_none h'] at h; cases h
theorem get_appO {S : Store} {i : Nat} {b : Block} (h : S[i]? = some b) (l : Store) : (S ++ l)[i]? = some b := (Keep.app [] S l).get i b (by simp) h
theorem get_setS {S : Store} {i : Nat} (h : i < S.length) (b : Block) : (S.set i b)[i]? = some b := by simp [h]
theorem get_setN {S : Store} {i j : Nat} (h : i ≠ j) (b : Block) : (S.set i b)[j]? = S[j]? := List.getElem?_set_ne h
theorem sub_all {α : Type} {cs : List α} {n : Nat} (h : cs.length = n) : sub cs 0 n = some cs := by subst h; simp [sub]
end Go.TM
namespace Go.TM
open Go Go.RowKit Go.Proofs Go.Sort
def cellsI : List TV → Option (List Int)
 | [] => some []
 | .iv (.int .i64 n) :: r => match cellsI r with
  | some l => some (n :: l)
  | none => none
 | _ :: _ => none
theorem cellsI_eq : ∀ {cs : List TV} {l : List Int},cellsI cs = some l → cs = l.map fun n => .iv (.int .i64 n)
 | [],l,h => by simp only [cellsI,Option.some.injEq] at h; subst h; rfl
 | c :: r,l,h => by
  unfold cellsI at h
  split at h
  ·rename_i h0; cases h0
  ·rename_i n r' h0
   obtain ⟨rfl,rfl⟩ := List.cons.inj h0
   split at h
   ·rename_i l' hl
    simp only [Option.some.injEq] at h
    subst h
    rw [cellsI_eq hl]; rfl
   ·simp at h
  ·simp at h
theorem cellsI_map : ∀ l : List Int,cellsI (l.map fun n => .iv (.int .i64 n)) = some l
 | [] => rfl
 | n :: l => by simp only [List.map_cons,cellsI,cellsI_map l]
def primSort : Prim := fun xs S => match xs with
 | [.iv (.sl .nil [])] => some (.tup [],S)
 | [.msl i ver off len cap 1] =>
  if len = 0 then some (.tup [],S) else
  match S[i]? with
  | some (.cells v loose cs) =>
   if v = ver ∧ len ≤ cap ∧ off + len ≤ cs.length ∧ len ≤ 1048576 then match cellsI ((cs.drop off).take len) with
    | some l => some (.tup [],S.set i (.cells v loose (cs.take off ++ (sortI l).map (fun n => .iv (.int .i64 n)) ++ cs.drop (off + len))))
    | none => none
   else none
  | _ => none
 | _ => none
variable {P : Program} {O : Opts} {K : TM.Prog}
theorem primSort_ok {f : Nat} {fn : Func} (hf : P.funcs[f]? = some fn) (hb : fn.body.isSome = true) (hng : fn.name ≠ "runtime.NumGoroutine")
  (hnone : ∀ (p : Option Addr) (cap : Nat) (w : World),Calls P f #[.slice p 0 cap] w fun e w' => e = .returned (.tuple #[]) ∧ w' = w)
  (hrun : ∀ (blk off cap : Nat) (zs : List Int) (w : World),Holds (Value.int .i64) w blk off zs.toArray → blk < w.heap.size → zs.length < 4611686018427387904 →
   Calls P f #[.slice (some ⟨blk,off,none⟩) zs.length cap] w fun e w' => e = .returned (.tuple #[]) ∧ ∃ n os,w' = grow (putRow (Value.int .i64) (Sort.ahead w n) blk off (zs.mergeSort fun x y => decide (x ≤ y)).toArray) os) :
  PrimOK P O K f primSort := by
 intro args S v S' h M J w vals hv hw hg
 have hno : ∀ (p : Option Addr) (cap : Nat),(v,S') = (.tup [],S) → ∀ (F : Fence),FenceOK F → ∀ n,CallsIn F n P f #[.slice p 0 cap] w (CallPost P O M J S w fun r => r = (v,S')) := by
  intro p cap e F hF n
  refine callsIn_of_calls hF ((hnone p cap w).mono ?_)
  rintro e' w' ⟨rfl,rfl⟩
  obtain ⟨rfl,rfl⟩ := Prod.mk.inj e
  exact ⟨_,_,M,J,rfl,.tup _ _ _ rfl (fun i x v hx => by simp at hx),hw,.refl _ _ _ _ _⟩
 unfold primSort at h
 split at h
 case h_3 => simp at h
 case h_1 =>
  simp only [Option.some.injEq,Prod.mk.injEq] at h
  obtain ⟨rfl,rfl⟩ := h
  obtain ⟨x,vals,rfl,hx,hv⟩ := hv.cons_inv
  obtain rfl := hv.nil_inv
  obtain rfl : x = .slice none 0 0 := by
   rcases hx.iv_inv.sl_any with ⟨_,_,rfl⟩ | ⟨b,off,cap,es',vals,_,htn,_⟩ | ⟨a0,_,_,htn⟩
   ·rfl
   ·exact absurd rfl htn
   ·exact absurd rfl htn
  exact .inl ⟨fn,hf,hb,hng,hno none 0 rfl⟩
 case h_2 i ver off len cap =>
  obtain ⟨x,vals,rfl,hx,hv⟩ := hv.cons_inv
  obtain rfl := hv.nil_inv
  cases hx with
  | msl _ _ _ _ _ _ _ l b o c hl hlv ha hlc hlc' =>
   split at h
   ·rename_i hlen
    subst hlen
    simp only [Option.some.injEq] at h
    exact .inl ⟨fn,hf,hb,hng,hno _ _ h.symm⟩
   ·rename_i hlen
    split at h
    case h_2 => simp at h
    rename_i v0 loose cs hS
    split at h
    case isFalse => simp at h
    rename_i hc
    obtain ⟨rfl,hc1,hc2,hc3⟩ := hc
    split at h
    case h_2 => simp at h
    rename_i ks hks
    simp only [Option.some.injEq,Prod.mk.injEq] at h
    obtain ⟨rfl,rfl⟩ := h
    have hks' := cellsI_eq hks
    have hkl : ks.length = len := by
     have := congrArg List.length hks'
     simp at this; omega
    have hbr := hw.blk i l _ hl hS
    generalize hs0 : Block.cells v0 loose cs = s0 at hbr
    cases hbr with
    | cells loose' cs1 cs' e fz hlo hbk hsz hfit hvals hfz hm ht =>
     simp only [Block.cells.injEq] at hs0
     obtain ⟨rfl,rfl,rfl⟩ := hs0
     obtain ⟨rfl,ho,hcc,hcl,hsz2⟩ := ha rfl
     have ho' := ho (by omega)
     subst ho'
     have hcell : ∀ j n,ks[j]? = some n → cs'[l.d + off + j]? = some (.int .i64 n) := by
      intro j n hn
      have hj : j < ks.length := by
       rcases Nat.lt_or_ge j ks.length with h3 | h3
       ·exact h3
       ·rw [List.getElem?_eq_none h3] at hn; cases hn
      have h1 : cs[off + j]? = some (.iv (.int .i64 n)) := by
       have := congrArg (fun l => l[j]?) hks'
       simp only [List.getElem?_map,hn,Option.map_some] at this
       rw [List.getElem?_take_of_lt (by omega),List.getElem?_drop] at this
       exact this
      obtain ⟨u,q,r⟩ := hvals _ _ h1
      rw [← Nat.add_assoc] at q
      rw [q,r.int_inv]
     have hH : Holds (Value.int .i64) w l.cb (l.d + off) ks.toArray := by
      intro j hj
      simp only [List.size_toArray] at hj
      refine ⟨?_,hfz _ ?_⟩
      ·rw [cell_of_heap hbk,hcell j ks[j] (List.getElem?_eq_getElem hj)]
       simp [hj]
      ·have := hcell j ks[j] (List.getElem?_eq_getElem hj)
       rcases Nat.lt_or_ge (l.d + off + j) cs'.size with h3 | h3
       ·exact h3
       ·rw [Array.getElem?_eq_none h3] at this; cases this
     refine .inl ⟨fn,hf,hb,hng,fun F hF n => callsIn_of_calls hF ?_⟩
     have hr := hrun l.cb (l.d + off) c ks w hH (hw.lt i l hl) (by omega)
     rw [hkl] at hr
     refine hr.mono ?_
     rintro e' w' ⟨rfl,m,os,rfl⟩
     rw [show ks.mergeSort (fun x y => decide (x ≤ y)) = sortI ks from mergeSort_sortI (.refl _)]
     have hsl : (sortI ks).length = ks.length := (sortI_perm ks).length_eq
     let w1 := putRow (Value.int .i64) (Sort.ahead w m) l.cb (l.d + off) (sortI ks).toArray
     have hnew : w1.heap[l.cb]? = some (.cells (putCells (Value.int .i64) (l.d + off) (sortI ks).toArray cs') e fz) := by
      show ((Sort.ahead w m).heap.modify l.cb _)[l.cb]? = _
      rw [heap_ahead,Array.getElem?_modify,if_pos rfl,hbk]
      rfl
     have hot : ∀ b,b ≠ l.cb → w1.heap[b]? = w.heap[b]? := by
      intro b hb
      show ((Sort.ahead w m).heap.modify l.cb _)[b]? = _
      rw [heap_ahead,Array.getElem?_modify,if_neg (fun q => hb q.symm)]
     obtain ⟨wr,tr⟩ := hw.write (fun _ => False) hl (w' := w1) (s' := .cells l.ver loose (cs.take off ++ (sortI ks).map (fun n => .iv (.int .i64 n)) ++ cs.drop (off + len))) (by
      have hlen3 : (cs.take off ++ (sortI ks).map (fun n => TV.iv (.int .i64 n)) ++ cs.drop (off + len)).length = cs.length := by
       simp; omega
      refine .cells loose _ _ e fz hlo hnew (by simp [putCells,hsz]) (by rw [hlen3]; simpa [putCells] using hfit) ?_ (fun o ho => ?_) hm (fun h1 h2 => ?_)
      ·intro k x hx
       have hk : k < cs.length := by
        rw [← hlen3]
        rcases Nat.lt_or_ge k (cs.take off ++ (sortI ks).map (fun n => TV.iv (.int .i64 n)) ++ cs.drop (off + len)).length with h3 | h3
        ·exact h3
        ·rw [List.getElem?_eq_none h3] at hx; cases hx
       obtain ⟨u0,q0,r0⟩ := hvals k cs[k] (List.getElem?_eq_getElem hk)
       have hput : (putCells (Value.int .i64) (l.d + off) (sortI ks).toArray cs')[l.d + k]? = some (if l.d + off ≤ l.d + k ∧ l.d + k < l.d + off + (sortI ks).toArray.size then Value.int .i64 (sortI ks).toArray[l.d + k - (l.d + off)]! else u0) := by
        simp only [putCells,Array.getElem?_mapIdx,q0,Option.map_some]
       rw [List.size_toArray,hsl,hkl] at hput
       rcases Nat.lt_or_ge k off with h3 | h3
       ·rw [if_neg (by omega)] at hput
        rw [List.append_assoc,List.getElem?_append_left (by simp; omega),List.getElem?_take_of_lt h3,List.getElem?_eq_getElem hk] at hx
        simp only [Option.some.injEq] at hx
        subst hx
        exact ⟨_,hput,r0⟩
       ·rcases Nat.lt_or_ge k (off + len) with h4 | h4
        ·rw [if_pos (by omega)] at hput
         rw [List.getElem?_append_left (by simp; omega),List.getElem?_append_right (by simp; omega),List.length_take,List.getElem?_map] at hx
         have e4 : k - min off cs.length = k - off := by omega
         rw [e4] at hx
         have h5 : k - off < (sortI ks).length := by omega
         rw [List.getElem?_eq_getElem h5,Option.map_some,Option.some.injEq] at hx
         subst hx
         refine ⟨_,hput,?_⟩
         have e5 : l.d + k - (l.d + off) = k - off := by omega
         rw [e5,getElem!_pos _ _ (by simpa using h5)]
         simp only [List.getElem_toArray]
         exact .iv _ (.int _ _)
        ·rw [if_neg (by omega)] at hput
         rw [List.getElem?_append_right (by simp; omega),List.getElem?_drop] at hx
         have e4 : off + len + (k - (cs.take off ++ (sortI ks).map (fun n => TV.iv (.int .i64 n))).length) = k := by simp; omega
         rw [e4,List.getElem?_eq_getElem hk,Option.some.injEq] at hx
         subst hx
         exact ⟨_,hput,r0⟩
      ·have h3 : o < cs'.size := by simpa [putCells] using ho
       show (putRow _ _ _ _ _).frozen? _ = _
       rw [frozen?_putRow]
       exact hfz o h3
      ·obtain ⟨h3,h4,h5⟩ := ht h1 h2
       exact ⟨h3,h4,by rw [hlen3]; simpa [putCells] using h5⟩) (by show ((Sort.ahead w m).heap.modify _ _).size = _; simp) hot ⟨rfl,rfl,rfl⟩ (fun o v hm' => by rw [hm] at hm'; simp at hm')
     have hold : ∀ b,b < w1.heap.size → (grow w1 os).heap[b]? = w1.heap[b]? := by
      intro b hb
      show (w1.heap ++ os)[b]? = _
      rw [Array.getElem?_append_left hb]
     refine ⟨_,_,M,J,rfl,.tup _ _ _ rfl (fun i x v hx => by simp at hx),?_,?_⟩
     ·refine wr.step wr.len (.refl _) (.refl _) ?_ ?_ wr.inj (fun i l hl => Nat.lt_of_lt_of_le (wr.lt i l hl) (by show w1.heap.size ≤ (w1.heap ++ os).size; rw [Array.size_append]; omega))
      ·intro b o u hm
       rw [cell_of_block (hold b (wr.mlt hm))]
       exact wr.imm b o u hm
      ·intro i l s hl hs
       exact .inr ⟨hl,hs,hold _ (wr.lt i l hl),fun o => rfl⟩
     ·refine tr.trans (own' := fun _ => False) ⟨rfl,rfl,rfl,by show w1.heap.size ≤ (w1.heap ++ os).size; rw [Array.size_append]; omega,.refl _,fun b o _ _ => rfl,.refl _,fun i l hl => .inr ⟨l,hl,rfl⟩,fun i hi => ⟨hi,rfl⟩,fun b hb _ _ => hold b hb⟩ (fun _ hf => .inl hf)
    | _ => simp at hs0
end Go.TM
namespace Go.TM
section
variable (K : Prog) (O : Orc) (i : Nat) (k : Kt) (M : List (Nat × TV)) (n : Nat) (fs : List Fr) (env : Env) (S : Store)
end
end Go.TM
namespace Go.TM
section
variable (K : Prog) (O : Orc) (i : Nat) (k : Kt) (M : List (Nat × TV)) (n : Nat) (fs : List Fr) (env : Env) (S : Store)
end
def left {α : Type} (l : List (Nat × Int × α)) (seen : List Nat) : Nat := (l.filter fun x => !seen.contains x.1).length
section
variable {K : Prog} {O : Orc} {i : Nat} {k : Kt} {M : List (Nat × TV)} {n : Nat} {fs : List Fr} {env : Env} {S : Store} {cb : TCode}
end
section
variable {K : Prog} {O : Orc} {i : Nat} {k : Kt} {M : List (Nat × TV)} {n : Nat} {fs : List Fr} {env : Env} {S : Store} {cb : TCode} {rs : List TRes}
end
def clV (z : List IV) (env : Env) (S : Store) (x : TV) : Option (TV × Env × Store) := match clearOp z S x with
 | some S => some (undef,env,S)
 | none => none
theorem op1_clear' (K : Prog) (O : Orc) (i : Nat) (k : Kt) (M : List (Nat × TV)) (n : Nat) (fs : List Fr) (env : Env) (S : Store) (z : List IV) (x : TOpd) : op1' K O (.clear z x) i k M n fs env S = opE' K O (clV z env S (opv' K n env M x)) i k M n fs := by
 unfold op1' opE' opv'
 exact op1_k3 K O i k M n fs env S rfl (by simp)
theorem clV_eq (z : List IV) (env : Env) (S S' : Store) (x : TV) (h : clearOp z S x = some S') : clV z env S x = some (undef,env,S') := by simp only [clV,h]
attribute [go_sem] op1_clear'
end Go.TM
namespace Go.TM
def grV (es bytes el : Nat) (env : Env) (S : Store) (x n : TV) : Option (TV × Env × Store) := match intOf n with
 | some n => match growOp es bytes el S x n with
  | some (x,S) => some (x,env,S)
  | none => none
 | none => none
theorem op1_grow' (K : Prog) (O : Orc) (i : Nat) (k : Kt) (M : List (Nat × TV)) (n : Nat) (fs : List Fr) (env : Env) (S : Store) (es bytes el : Nat) (x y : TOpd) : op1' K O (.grow es bytes el x y) i k M n fs env S = opE' K O (grV es bytes el env S (opv' K n env M x) (opv' K n env M y)) i k M n fs := by
 unfold op1' opE' opv'
 exact op1_k3 K O i k M n fs env S rfl (by simp)
theorem grV_eq {es bytes el : Nat} {env : Env} {S S' : Store} {x y : TV} {n : Int} (h : growOp es bytes el S x n = some (y,S')) : grV es bytes el env S x (.iv (.int .i64 n)) = some (y,env,S') := by
 simp only [grV,intOf,h]
attribute [go_sem] op1_grow'
end Go.TM
