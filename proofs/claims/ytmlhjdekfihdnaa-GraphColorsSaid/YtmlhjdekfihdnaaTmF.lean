/- A part of the evaluator TM, and of the proof that what it computes the model does. Condition: none. -/
import Derived.Test.YtmlhjdekfihdnaaTmE
set_option linter.unusedVariables false
set_option linter.unusedSimpArgs false
set_option maxRecDepth 100000
namespace Go.TM
def lkV (kk : KK) (z : IV) (ok : Bool) (S : Store) (m k : TV) : Option TV :=
 match toIV k with
 | some k =>
  if !(keyOk kk k) then none else
  match lookIn kk S m k with
  | some (some (_,x)) => some (if ok then .tup [x,.iv (.bool true)] else x)
  | some none => some (if ok then .tup [.iv z,.iv (.bool false)] else .iv z)
  | none => none
 | none => none
theorem readOp_lookup (kk : KK) (z : IV) (ok : Bool) (m y : TOpd) (e : TOpd → TV) (env : Env) (S : Store) : readOp (.lookup kk z ok m y) e env S = lkV kk z ok S (e m) (e y) := id rfl
def upV (kk : KK) (env : Env) (S : Store) (m k x : TV) : Option (TV × Env × Store) :=
 match toIV k,m with
 | some k,.map j => if !(keyOk kk k) then none else match S[j]? with
  | some (.mp es clock) => if isLp x then none else match findKey kk k es 0 with
   | some (some (n,_)) => if !(((es[n]?).map fun y => keySame y.2.1 k).getD false) then none else some (undef,env,S.set j (.mp (es.modify n fun y => (y.1,k,x)) clock))
   | some none => some (undef,env,S.set j (.mp (es ++ [(clock,k,x)]) (clock + 1)))
   | none => none
  | _ => none
 | _,_ => none
theorem stOp_update (kk : KK) (m y x : TOpd) (e : TOpd → TV) (rs : List TV) (env : Env) (S : Store) : stOp (.update kk m y x) e rs env S = upV kk env S (e m) (e y) (e x) := id rfl
def dlV (kk : KK) (env : Env) (S : Store) (m k : TV) : Option (TV × Env × Store) :=
 match toIV k,m with
 | some k,.iv .nilm => if keyOk kk k then some (undef,env,S) else none
 | some k,.map j => if !(keyOk kk k) then none else match S[j]? with
  | some (.mp es clock) => match findKey kk k es 0 with
   | some (some (n,_)) => some (undef,env,S.set j (.mp (es.eraseIdx n) clock))
   | some none => some (undef,env,S)
   | none => none
  | _ => none
 | _,_ => none
attribute [go_sem] readOp_lookup stOp_update
section
variable {α : Type}
def mpR (f : α → TV) (l : List (Nat × Int × α)) : List (Nat × IV × TV) := l.map fun x => (x.1,.int .i64 x.2.1,f x.2.2)
def getR : List (Nat × Int × α) → Int → Option α
 | [],_ => none
 | x :: r,k => if x.2.1 = k then some x.2.2 else getR r k
def putR : List (Nat × Int × α) → Nat → Int → α → List (Nat × Int × α)
 | [],c,k,a => [(c,k,a)]
 | x :: r,c,k,a => if x.2.1 = k then (x.1,k,a) :: r else x :: putR r c k a
def hasR (l : List (Nat × Int × α)) (k : Int) : Bool := (getR l k).isSome
def clkR (l : List (Nat × Int × α)) (c : Nat) (k : Int) : Nat := if hasR l k then c else c + 1
theorem mpR_len (f : α → TV) (l : List (Nat × Int × α)) : (mpR f l).length = l.length := by simp [mpR]
theorem findKey_mpR (f : α → TV) (k : Int) : ∀ (l : List (Nat × Int × α)) (i : Nat),∃ n,findKey (.leaf .int) (.int .i64 k) (mpR f l) i = some ((getR l k).map fun a => (n,f a))
 | [],i => ⟨i,rfl⟩
 | x :: r,i => by
  by_cases hx : k = x.2.1
  ·refine ⟨i,?_⟩
   simp [mpR,findKey,keyEq,leafEq,getR,hx]
  ·obtain ⟨n,h1⟩ := findKey_mpR f k r (i + 1)
   refine ⟨n,?_⟩
   simp only [mpR] at h1
   simp only [mpR,List.map_cons,findKey,keyEq,leafEq,↓reduceIte,getR,Ne.symm hx]
   rw [show (k == x.2.1) = false by simp [hx]]
   exact h1
theorem findKey_none (f : α → TV) {k : Int} {l : List (Nat × Int × α)} (h : hasR l k = false) : findKey (.leaf .int) (.int .i64 k) (mpR f l) 0 = some none := by
 obtain ⟨n,h1⟩ := findKey_mpR f k l 0
 have : getR l k = none := by simpa [hasR] using h
 rw [h1,this]; rfl
theorem put_new : ∀ {l : List (Nat × Int × α)} {k : Int},hasR l k = false → ∀ (c : Nat) (a : α),putR l c k a = l ++ [(c,k,a)]
 | [],k,_,c,a => rfl
 | x :: r,k,h,c,a => by
  have hx : x.2.1 ≠ k := fun e => by simp [hasR,getR,e] at h
  have hr : hasR r k = false := by simpa [hasR,getR,hx] using h
  simp only [putR,hx,↓reduceIte,put_new hr c a,List.cons_append]
theorem put_old (f : α → TV) (a : α) (c : Nat) (k : Int) : ∀ (l : List (Nat × Int × α)) (i : Nat),hasR l k = true → ∃ n v,findKey (.leaf .int) (.int .i64 k) (mpR f l) i = some (some (n,v)) ∧ i ≤ n ∧ ((((mpR f l)[n - i]?).map fun y => keySame y.2.1 (.int .i64 k)).getD false) = true ∧ (mpR f l).modify (n - i) (fun y => (y.1,.int .i64 k,f a)) = mpR f (putR l c k a)
 | [],i,h => by simp [hasR,getR] at h
 | x :: r,i,h => by
  by_cases hx : k = x.2.1
  ·refine ⟨i,f x.2.2,?_,Nat.le_refl _,?_,?_⟩
   ·simp [mpR,findKey,keyEq,leafEq,hx]
   ·simp [mpR,keySame,leafSame,hx]
   ·simp [mpR,putR,hx]
  ·have hh : hasR r k = true := by simpa [hasR,getR,Ne.symm hx] using h
   obtain ⟨n,v,h1,h2,h3,h4⟩ := put_old f a c k r (i + 1) hh
   refine ⟨n,v,?_,by omega,?_,?_⟩
   ·simp only [mpR] at h1
    simp only [mpR,List.map_cons,findKey,keyEq,leafEq,↓reduceIte]
    rw [show (k == x.2.1) = false by simp [hx]]
    exact h1
   ·rw [show n - i = (n - (i + 1)) + 1 by omega]
    simp only [mpR,List.map_cons,List.getElem?_cons_succ] at h3 ⊢
    exact h3
   ·rw [show n - i = (n - (i + 1)) + 1 by omega]
    simp only [mpR,List.map_cons,putR,Ne.symm hx,↓reduceIte,List.modify_succ_cons] at h4 ⊢
    rw [h4]
theorem lk_map {f : α → TV} {S : Store} {j c : Nat} {l : List (Nat × Int × α)} (h : S[j]? = some (.mp (mpR f l) c)) (z : IV) (ok : Bool) (k : Int) :
  lkV (.leaf .int) z ok S (.map j) (.iv (.int .i64 k)) = some (match getR l k with | some a => (if ok then .tup [f a,.iv (.bool true)] else f a) | none => (if ok then .tup [.iv z,.iv (.bool false)] else .iv z)) := by
 obtain ⟨n,h1⟩ := findKey_mpR f k l 0
 simp only [lkV,toIV,toIV1,keyOk,Bool.not_true,Bool.false_eq_true,↓reduceIte,lookIn,h,h1]
 cases getR l k <;> rfl
theorem getR_put : ∀ (l : List (Nat × Int × α)) (c : Nat) (k : Int) (a : α) (m : Int),getR (putR l c k a) m = if k = m then some a else getR l m
 | [],c,k,a,m => by simp [putR,getR]
 | x :: r,c,k,a,m => by
  simp only [putR]
  by_cases h : x.2.1 = k
  ·simp only [h,↓reduceIte,getR]
   by_cases hk : k = m <;> simp [hk]
  ·simp only [h,↓reduceIte,getR,getR_put r c k a m]
   by_cases hm : x.2.1 = m
   ·have : ¬ k = m := fun e => h (hm.trans e.symm)
    simp [hm,this]
   ·simp [hm]
theorem hasR_put (l : List (Nat × Int × α)) (c : Nat) (k : Int) (a : α) (m : Int) : hasR (putR l c k a) m = (decide (k = m) || hasR l m) := by
 simp only [hasR,getR_put]
 by_cases h : k = m <;> simp [h]
theorem hasR_iff : ∀ {l : List (Nat × Int × α)} {k : Int},hasR l k = true ↔ k ∈ l.map (·.2.1)
 | [],k => by simp [hasR,getR]
 | x :: r,k => by
  by_cases h : x.2.1 = k
  ·simp [hasR,getR,h]
  ·have := hasR_iff (l := r) (k := k)
   simp only [hasR] at this
   simp only [hasR,getR,h,↓reduceIte,List.map_cons,List.mem_cons,Ne.symm h,false_or]
   exact this
structure RowsOK (l : List (Nat × Int × α)) (c : Nat) : Prop where
 born : ∀ x ∈ l,x.1 < c
 once : (l.map (·.1)).Nodup
 keys : (l.map (·.2.1)).Nodup
 rng : ∀ x ∈ l,-9223372036854775808 ≤ x.2.1 ∧ x.2.1 ≤ 9223372036854775807
theorem RowsOK.nil (c : Nat) : RowsOK ([] : List (Nat × Int × α)) c := ⟨by simp,by simp,by simp,by simp⟩
theorem put_keys : ∀ (l : List (Nat × Int × α)) (c : Nat) (k : Int) (a : α),(putR l c k a).map (·.2.1) = if hasR l k then l.map (·.2.1) else l.map (·.2.1) ++ [k]
 | [],c,k,a => by simp [putR,hasR,getR]
 | x :: r,c,k,a => by
  by_cases h : x.2.1 = k
  ·simp [putR,hasR,getR,h]
  ·have e : hasR (x :: r) k = hasR r k := by simp [hasR,getR,h]
   simp only [putR,h,↓reduceIte,List.map_cons,put_keys r c k a,e]
   split <;> rfl
theorem put_born : ∀ (l : List (Nat × Int × α)) (c : Nat) (k : Int) (a : α),(putR l c k a).map (·.1) = if hasR l k then l.map (·.1) else l.map (·.1) ++ [c]
 | [],c,k,a => by simp [putR,hasR,getR]
 | x :: r,c,k,a => by
  by_cases h : x.2.1 = k
  ·simp [putR,hasR,getR,h]
  ·have e : hasR (x :: r) k = hasR r k := by simp [hasR,getR,h]
   simp only [putR,h,↓reduceIte,List.map_cons,put_born r c k a,e]
   split <;> rfl
theorem RowsOK.put {l : List (Nat × Int × α)} {c : Nat} (h : RowsOK l c) {k : Int} (hk : -9223372036854775808 ≤ k ∧ k ≤ 9223372036854775807) (a : α) : RowsOK (putR l c k a) (clkR l c k) := by
 have hb : ∀ n ∈ l.map (·.1),n < c := by
  intro n hn
  obtain ⟨x,hx,rfl⟩ := List.mem_map.1 hn
  exact h.born x hx
 have hr : ∀ n ∈ l.map (·.2.1),-9223372036854775808 ≤ n ∧ n ≤ 9223372036854775807 := by
  intro n hn
  obtain ⟨x,hx,rfl⟩ := List.mem_map.1 hn
  exact h.rng x hx
 have hbn := put_born l c k a
 have hkn := put_keys l c k a
 refine ⟨fun x hx => ?_,?_,?_,fun x hx => ?_⟩
 ·have hm := List.mem_map_of_mem (f := fun y : Nat × Int × α => y.1) hx
  rw [hbn] at hm
  unfold clkR
  split at hm
  ·rename_i hh; rw [if_pos hh]; exact hb _ hm
  ·rename_i hh
   rw [if_neg hh]
   rcases List.mem_append.1 hm with hm | hm
   ·have := hb _ hm; omega
   ·simp at hm; omega
 ·rw [hbn]
  split
  ·exact h.once
  ·rw [List.nodup_append]
   exact ⟨h.once,by simp,fun a ha b hb' e => by simp at hb'; have := hb a ha; omega⟩
 ·rw [hkn]
  split
  ·exact h.keys
  ·rename_i hh
   rw [List.nodup_append]
   refine ⟨h.keys,by simp,fun a ha b hb' e => ?_⟩
   simp at hb'; subst hb'; subst e
   exact hh (hasR_iff.2 ha)
 ·have hm := List.mem_map_of_mem (f := fun y : Nat × Int × α => y.2.1) hx
  rw [hkn] at hm
  split at hm
  ·exact hr _ hm
  ·rcases List.mem_append.1 hm with hm | hm
   ·exact hr _ hm
   ·simp at hm; rw [hm]; exact hk
end
def lkB (kk : KK) (z : IV) (ok : Bool) (b : Option Block) (k : TV) : Option TV :=
 match toIV k with
 | some k =>
  if !(keyOk kk k) then none else
  match (match b with | some (.mp es _) => findKey kk k es 0 | _ => none) with
  | some (some (_,x)) => some (if ok then .tup [x,.iv (.bool true)] else x)
  | some none => some (if ok then .tup [.iv z,.iv (.bool false)] else .iv z)
  | none => none
 | none => none
theorem lkV_map (kk : KK) (z : IV) (ok : Bool) (S : Store) (j : Nat) (k : TV) : lkV kk z ok S (.map j) k = lkB kk z ok (S[j]?) k := by
 simp only [lkV,lkB,lookIn]
 cases toIV k with
 | none => rfl
 | some k =>
  simp only
  cases S[j]? with
  | none => rfl
  | some b => cases b <;> rfl
theorem lkV_nil (kk : KK) (z : IV) (S : Store) (k : Int) : lkV (.leaf .int) z false S (.iv .nilm) (.iv (.int .i64 k)) = some (.iv z) := id rfl
def upB (kk : KK) (env : Env) (S : Store) (j : Nat) (b : Option Block) (k x : TV) : Option (TV × Env × Store) :=
 match toIV k with
 | some k => if !(keyOk kk k) then none else match b with
  | some (.mp es clock) => if isLp x then none else match findKey kk k es 0 with
   | some (some (n,_)) => if !(((es[n]?).map fun y => keySame y.2.1 k).getD false) then none else some (undef,env,S.set j (.mp (es.modify n fun y => (y.1,k,x)) clock))
   | some none => some (undef,env,S.set j (.mp (es ++ [(clock,k,x)]) (clock + 1)))
   | none => none
  | _ => none
 | _ => none
theorem upV_map (kk : KK) (env : Env) (S : Store) (j : Nat) (k x : TV) : upV kk env S (.map j) k x = upB kk env S j (S[j]?) k x := by
 simp only [upV,upB]
 cases toIV k <;> rfl
attribute [go_sem] lkV_map lkV_nil upV_map
theorem lkB_mp {α : Type} (f : α → TV) (l : List (Nat × Int × α)) (c : Nat) (z : IV) (ok : Bool) (k : Int) :
  lkB (.leaf .int) z ok (some (.mp (mpR f l) c)) (.iv (.int .i64 k)) = some (match getR l k with | some a => (if ok then .tup [f a,.iv (.bool true)] else f a) | none => (if ok then .tup [.iv z,.iv (.bool false)] else .iv z)) := by
 have h : (([.mp (mpR f l) c] : Store))[0]? = some (.mp (mpR f l) c) := rfl
 rw [← h,← lkV_map]
 exact lk_map h z ok k
theorem upB_mp {α : Type} (f : α → TV) (l : List (Nat × Int × α)) (c : Nat) (env : Env) (S : Store) (j : Nat) (k : Int) {x : TV} (a : α) (hx : x = f a) (hl : isLp x = false) :
  upB (.leaf .int) env S j (some (.mp (mpR f l) c)) (.iv (.int .i64 k)) x = some (undef,env,S.set j (.mp (mpR f (putR l c k a)) (clkR l c k))) := by
 simp only [upB,toIV,toIV1,keyOk,Bool.not_true,Bool.false_eq_true,↓reduceIte,hl]
 cases hh : hasR l k with
 | false =>
  rw [findKey_none f hh]
  simp only [put_new hh,clkR,hh,Bool.false_eq_true,↓reduceIte,mpR,List.map_append,List.map_cons,List.map_nil,hx]
 | true =>
  obtain ⟨n,v,h1,h2,h3,h4⟩ := put_old f a c k l 0 hh
  rw [Nat.sub_zero] at h3 h4
  rw [h1]
  simp only [h3,Bool.not_true,Bool.false_eq_true,↓reduceIte,hx,h4,clkR,hh]
def boxI (n : Int) : TV := .iv (.agg [.int .i64 n])
def cntR (l : List (Nat × Int × Int)) (k : Int) : Int := (getR l k).getD 0
theorem lkB_box (l : List (Nat × Int × Int)) (c : Nat) (k : Int) : lkB (.leaf .int) (.agg [.int .i64 0]) false (some (.mp (mpR boxI l) c)) (.iv (.int .i64 k)) = some (.iv (.agg [.int .i64 (cntR l k)])) := by
 rw [lkB_mp]
 simp only [cntR,Bool.false_eq_true,↓reduceIte]
 cases getR l k <;> rfl
theorem upB_box (l : List (Nat × Int × Int)) (c : Nat) (env : Env) (S : Store) (j : Nat) (k a : Int) : upB (.leaf .int) env S j (some (.mp (mpR boxI l) c)) (.iv (.int .i64 k)) (.iv (.agg [.int .i64 a])) = some (undef,env,S.set j (.mp (mpR boxI (putR l c k a)) (clkR l c k))) :=
 upB_mp boxI l c env S j k a rfl rfl
attribute [go_sem] lkB_box upB_box
structure Keep (I : List Nat) (S S' : Store) : Prop where
 len : S.length ≤ S'.length
 get : ∀ i b,i ∉ I → S[i]? = some b → S'[i]? = some b
theorem Keep.refl (I : List Nat) (S : Store) : Keep I S S := ⟨Nat.le_refl _,fun _ _ _ h => h⟩
theorem Keep.trans {I : List Nat} {S S' S'' : Store} (h : Keep I S S') (g : Keep I S' S'') : Keep I S S'' :=
 ⟨Nat.le_trans h.len g.len,fun i b hi hb => g.get i b hi (h.get i b hi hb)⟩
theorem Keep.mono {I J : List Nat} {S S' : Store} (h : Keep I S S') (hs : ∀ i ∈ I,i ∈ J) : Keep J S S' := ⟨h.len,fun i b hi hb => h.get i b (fun q => hi (hs i q)) hb⟩
theorem Keep.app (I : List Nat) (S : Store) (l : Store) : Keep I S (S ++ l) :=
 ⟨by simp,fun i b _ hb => by
  have : i < S.length := by
   rcases Nat.lt_or_ge i S.length with h | h
   ·exact h
   ·rw [List.getElem?_eq_none h] at hb; cases hb
  rw [List.getElem?_append_left this]; exact hb⟩
theorem Keep.set {I : List Nat} (S : Store) {j : Nat} (hj : j ∈ I) (b : Block) : Keep I S (S.set j b) :=
 ⟨by simp,fun i b' hi hb => by
  have : j ≠ i := fun e => hi (e ▸ hj)
  rw [List.getElem?_set_ne this]; exact hb⟩
theorem lt_get {S : Store} {i : Nat} {b : Block} (h : S[i]? = some b) : i < S.length := by
 rcases Nat.lt_or_ge i S.length with h' | h'
 ·exact h'
 ·rw [List.getElem?_eq_none h'] at h; cases h
theorem get_app1 (S : Store) (b : Block) : (S ++ [b])[S.length]? = some b := by simp
theorem get_setS {S : Store} {i : Nat} (h : i < S.length) (b : Block) : (S.set i b)[i]? = some b := by simp [h]
theorem get_setN {S : Store} {i j : Nat} (h : i ≠ j) (b : Block) : (S.set i b)[j]? = S[j]? := List.getElem?_set_ne h
theorem sub_all {α : Type} {cs : List α} {n : Nat} (h : cs.length = n) : sub cs 0 n = some cs := by subst h; simp [sub]
end Go.TM
namespace Go.TM
section
variable (K : Prog) (O : Orc) (i : Nat) (k : Kt) (M : List (Nat × TV)) (n : Nat) (fs : List Fr) (env : Env) (S : Store)
def ixAA (len es : Nat) (ag : Bool) (x y : TV) : Option TV := match intOf y with
 | some n => if 0 ≤ n ∧ n < len then match aggCells x with
   | some all => match sub all (n.toNat * es) es with
    | some cs => asPart ag cs
    | none => none
   | none => none
  else none
 | none => none
theorem op1_indexA' (len es : Nat) (ag : Bool) (x y : TOpd) : op1' K O (.indexA len es ag x y) i k M n fs env S = opV' K O (ixAA len es ag (opv' K n env M x) (opv' K n env M y)) i k M n fs env S := by
 unfold op1' opV' opv'
 exact op1_k0 K O i k M n fs env S (id rfl)
theorem fl_indexA' (len es : Nat) (ag : Bool) (x y : TOpd) : flM' K M n env S (.indexA len es ag x y) = ixAA len es ag (opv' K n env M x) (opv' K n env M y) := by
 unfold flM' opv'
 exact fl_k0 K M n env S (id rfl)
theorem op1_delete' (kk : KK) (m y : TOpd) : op1' K O (.delete kk m y) i k M n fs env S = opE' K O (dlV kk env S (opv' K n env M m) (opv' K n env M y)) i k M n fs := by
 unfold op1' opE' opv'
 exact op1_k3 K O i k M n fs env S rfl (by simp)
theorem ixAA_agg (len es : Nat) (ag : Bool) (cs : List IV) (kd : IntKind) (m : Int) : ixAA len es ag (.iv (.agg cs)) (.iv (.int kd m)) = if 0 ≤ m ∧ m < len then partV ag (sub (cs.map .iv) (m.toNat * es) es) else none := by
 simp only [ixAA,intOf,aggCells]
 split
 ·cases sub (cs.map TV.iv) (m.toNat * es) es <;> rfl
 ·rfl
end
attribute [go_sem] op1_indexA' fl_indexA' op1_delete' ixAA_agg
end Go.TM
namespace Go.TM
def nxR (S : Store) (x : TV) : Out (TV × Store) :=
 match x with
 | .it j => match S[j]? with
  | some (.mit none _ _ _) => .ret (.tup [.iv (.bool false)],S)
  | some (.mit (some m) since seen last) => match S[m]? with
   | some (.mp es clock) =>
    if !seen.isEmpty && !es.isEmpty && es.all (fun y => decide (y.1 ≥ last)) then .fail "" else
    .pick (((if ((es.filter fun y => !seen.contains y.1).filter (·.1 < since)).isEmpty then [none] else []) ++ (((es.filter fun y => !seen.contains y.1).filter (·.1 < since)) ++ ((es.filter fun y => !seen.contains y.1).filter (·.1 ≥ since))).map some : List (Option (Nat × IV × TV))).length) fun c =>
     match ((if ((es.filter fun y => !seen.contains y.1).filter (·.1 < since)).isEmpty then [none] else []) ++ (((es.filter fun y => !seen.contains y.1).filter (·.1 < since)) ++ ((es.filter fun y => !seen.contains y.1).filter (·.1 ≥ since))).map some : List (Option (Nat × IV × TV)))[c]? with
     | some (some y) => .ret (.tup [.iv (.bool true),.iv y.2.1,y.2.2],S.set j (.mit (some m) since (seen ++ [y.1]) clock))
     | some none => .ret (.tup [.iv (.bool false)],S)
     | none => .fail ""
   | _ => .fail ""
  | _ => .fail ""
 | _ => .fail ""
section
variable (K : Prog) (O : Orc) (i : Nat) (k : Kt) (M : List (Nat × TV)) (n : Nat) (fs : List Fr) (env : Env) (S : Store)
theorem op1_nextM' (x : TOpd) : op1' K O (.nextM x) i k M n fs env S = opC' K O (nxR S (opv' K n env M x)) i k M n fs env := by
 unfold op1' opC' opv'
 have key : ∀ v : TV,v = opv K n env M x → er ((evalCall K O (.nextM x) env (sets M n) S).bind fun r => cont K O k ((i,r.1) :: M) n fs r.2.1 r.2.2) = opC K O (nxR S v) i k M n fs env := by
  intro v hv
  have hv' : evalOpd K env (sets M n) x = v := hv.symm
  unfold evalCall
  simp only [hv']
  unfold nxR opC
  cases v with
  | it j =>
   simp only
   cases S[j]? with
   | none => rfl
   | some b =>
    cases b with
    | mit m since seen last =>
     cases m with
     | none => simp only [Out.bind,cont_er]
     | some m =>
      simp only
      cases S[m]? with
      | none => rfl
      | some b =>
       cases b with
       | mp es clock =>
        simp only
        split
        ·rfl
        ·simp only [Out.bind,er]
         congr 1
         funext c
         split <;> (rename_i heq; simp only [heq,Out.bind,cont_er,er])
       | _ => rfl
    | _ => rfl
  | _ => rfl
 exact key _ rfl
end
theorem nxR_all {α : Type} {f : α → TV} {S : Store} {b m since last c : Nat} {seen : List Nat} {l : List (Nat × Int × α)} {P : TV × Store → Prop}
  (hb : S[b]? = some (.mit (some m) since seen last)) (hm : S[m]? = some (.mp (mpR f l) c)) (hl : ∀ x ∈ l,x.1 < since) (hs : since ≤ last)
  (h0 : (∀ x ∈ l,x.1 ∈ seen) → P (.tup [.iv (.bool false)],S))
  (h1 : ∀ x ∈ l,x.1 ∉ seen → P (.tup [.iv (.bool true),.iv (.int .i64 x.2.1),f x.2.2],S.set b (.mit (some m) since (seen ++ [x.1]) c))) : (nxR S (.it b)).All P := by
 unfold nxR
 simp only [hb,hm]
 have hne : (!seen.isEmpty && !(mpR f l).isEmpty && (mpR f l).all (fun y => decide (y.1 ≥ last))) = false := by
  cases l with
  | nil => simp [mpR]
  | cons a r =>
   have := hl a (by simp)
   have : ¬ (last ≤ a.1) := by omega
   simp [mpR,this]
 rw [hne]
 simp only [Bool.false_eq_true,↓reduceIte]
 have hold : ((mpR f l).filter fun y => !seen.contains y.1).filter (·.1 < since) = mpR f (l.filter fun x => !seen.contains x.1) := by
  rw [List.filter_filter]
  unfold mpR
  rw [List.filter_map]
  congr 1
  apply List.filter_congr
  intro x hx
  have := hl x hx
  simp [this]
 have hnew : ((mpR f l).filter fun y => !seen.contains y.1).filter (·.1 ≥ since) = [] := by
  rw [List.filter_eq_nil_iff]
  intro y hy
  have hy' := (List.mem_filter.1 hy).1
  unfold mpR at hy'
  obtain ⟨x,hx,rfl⟩ := List.mem_map.1 hy'
  have := hl x hx
  simp; omega
 rw [hold,hnew]
 intro j hj
 generalize hL : ((if (mpR f (l.filter fun x => !seen.contains x.1)).isEmpty then [none] else []) ++ (mpR f (l.filter fun x => !seen.contains x.1) ++ []).map some : List (Option (Nat × IV × TV))) = L at hj ⊢
 cases hg : L[j]? with
 | none => rw [List.getElem?_eq_none_iff] at hg; omega
 | some o =>
  simp only [hg]
  have hmem := List.mem_of_getElem? hg
  rw [← hL] at hmem
  rcases List.mem_append.1 hmem with h | h
  ·split at h
   ·rename_i he
    simp at h
    subst h
    refine h0 fun x hx => ?_
    have hem : l.filter (fun x => !seen.contains x.1) = [] := by simpa [mpR] using he
    have := List.filter_eq_nil_iff.1 hem x hx
    simpa using this
   ·cases h
  ·rw [List.append_nil] at h
   obtain ⟨y,hy,rfl⟩ := List.mem_map.1 h
   unfold mpR at hy
   obtain ⟨x,hx,rfl⟩ := List.mem_map.1 hy
   have hx' := List.mem_filter.1 hx
   exact h1 x hx'.1 (by simpa using hx'.2)
def enV (S : Store) (x : TV) : Option TV :=
 match x with
 | .it j => match S[j]? with
  | some (.mit (some m) _ seen last) => match S[m]?,seen.getLast? with
   | some (.mp es clock),some stamp => if clock ≠ last then none else match es.find? (·.1 == stamp) with
    | some y => some (.tup [.iv y.2.1,y.2.2])
    | none => none
   | _,_ => none
  | _ => none
 | _ => none
theorem readOp_entryM (x : TOpd) (e : TOpd → TV) (env : Env) (S : Store) : readOp (.entryM x) e env S = enV S (e x) := id rfl
theorem enV_it {α : Type} {f : α → TV} {S : Store} {b m since c : Nat} {seen : List Nat} {l : List (Nat × Int × α)} {x : Nat × Int × α}
  (hb : S[b]? = some (.mit (some m) since (seen ++ [x.1]) c)) (hm : S[m]? = some (.mp (mpR f l) c)) (hx : x ∈ l) (ho : (l.map (·.1)).Nodup) : enV S (.it b) = some (.tup [.iv (.int .i64 x.2.1),f x.2.2]) := by
 have key : ∀ l : List (Nat × Int × α),x ∈ l → (l.map (·.1)).Nodup → (mpR f l).find? (·.1 == x.1) = some (x.1,.int .i64 x.2.1,f x.2.2) := by
  intro l
  induction l with
  | nil => intro h; cases h
  | cons a r ih =>
   intro h ho
   rw [List.map_cons,List.nodup_cons] at ho
   rcases List.mem_cons.1 h with rfl | h
   ·simp [mpR]
   ·have hne : a.1 ≠ x.1 := fun e => ho.1 (by rw [e]; exact List.mem_map_of_mem (f := fun y : Nat × Int × α => y.1) h)
    have := ih h ho.2
    unfold mpR at this ⊢
    rw [List.map_cons,List.find?_cons_of_neg (by simpa using hne)]
    exact this
 simp only [enV,hb,hm,List.getLast?_append,List.getLast?_singleton,Option.some_or,ne_eq,not_true_eq_false,↓reduceIte,key l hx ho]
theorem rangeV_map {S : Store} {j c : Nat} {es : List (Nat × IV × TV)} (h : S[j]? = some (.mp es c)) (env : Env) : rangeV false env S (.map j) = some (.it S.length,env,S ++ [.mit (some j) c [] c]) := by
 simp only [rangeV,h]
def left {α : Type} (l : List (Nat × Int × α)) (seen : List Nat) : Nat := (l.filter fun x => !seen.contains x.1).length
theorem filt_lt {α : Type} {p q : α → Bool} (hpq : ∀ a,q a = true → p a = true) : ∀ {l : List α} {x : α},x ∈ l → p x = true → q x = false → (l.filter q).length < (l.filter p).length
 | [],x,hx,_,_ => by cases hx
 | y :: l,x,hx,h1,h2 => by
  have hle : ∀ l : List α,(l.filter q).length ≤ (l.filter p).length := by
   intro l
   induction l with
   | nil => exact Nat.le_refl _
   | cons z l ih =>
    by_cases hz : q z = true
    ·rw [List.filter_cons_of_pos hz,List.filter_cons_of_pos (hpq z hz)]; simpa using ih
    ·rw [List.filter_cons_of_neg hz]
     by_cases hp : p z = true
     ·rw [List.filter_cons_of_pos hp]; simp; omega
     ·rw [List.filter_cons_of_neg hp]; exact ih
  rcases List.mem_cons.1 hx with rfl | hx
  ·have := hle l
   rw [List.filter_cons_of_pos h1,List.filter_cons_of_neg (by simp [h2])]
   simp; omega
  ·have ih := filt_lt hpq hx h1 h2
   by_cases hz : q y = true
   ·rw [List.filter_cons_of_pos hz,List.filter_cons_of_pos (hpq y hz)]; simpa using ih
   ·rw [List.filter_cons_of_neg hz]
    by_cases hp : p y = true
    ·rw [List.filter_cons_of_pos hp]; simp; omega
    ·rw [List.filter_cons_of_neg hp]; exact ih
theorem left_lt {α : Type} {l : List (Nat × Int × α)} {seen : List Nat} {x : Nat × Int × α} (hx : x ∈ l) (hs : x.1 ∉ seen) : left l (seen ++ [x.1]) < left l seen := by
 unfold left
 refine filt_lt (x := x) (fun a h => ?_) hx (by simpa using hs) (by simp)
 simp at h ⊢
 exact h.1
section
variable {K : Prog} {O : Orc} {i : Nat} {k : Kt} {M : List (Nat × TV)} {n : Nat} {fs : List Fr} {env : Env} {S : Store} {cb : TCode}
theorem rnd_next_all {α : Type} {f : α → TV} {b m since last c : Nat} {seen : List Nat} {l : List (Nat × Int × α)} {R : Jump × Env × Store → Prop}
  (hb : S[b]? = some (.mit (some m) since seen last)) (hm : S[m]? = some (.mp (mpR f l) c)) (hl : ∀ x ∈ l,x.1 < since) (hs : since ≤ last)
  (h0 : (∀ x ∈ l,x.1 ∈ seen) → (rnd' O cb (opC' K O (.ret (.tup [.iv (.bool false)],S)) i k M n fs env)).All R)
  (h1 : ∀ x ∈ l,x.1 ∉ seen → (rnd' O cb (opC' K O (.ret (.tup [.iv (.bool true),.iv (.int .i64 x.2.1),f x.2.2],S.set b (.mit (some m) since (seen ++ [x.1]) c))) i k M n fs env)).All R) :
  (rnd' O cb (opC' K O (nxR S (.it b)) i k M n fs env)).All R :=
 rnd_opC_all (P := fun r => (rnd' O cb (opC' K O (.ret (r.1,r.2)) i k M n fs env)).All R) (nxR_all hb hm hl hs h0 h1) (fun _ _ h => h)
end
def delR {α : Type} : List (Nat × Int × α) → Int → List (Nat × Int × α)
 | [],_ => []
 | x :: r,k => if x.2.1 = k then r else x :: delR r k
theorem del_none {α : Type} : ∀ {l : List (Nat × Int × α)} {k : Int},hasR l k = false → delR l k = l
 | [],k,_ => rfl
 | x :: r,k,h => by
  have hx : x.2.1 ≠ k := fun e => by simp [hasR,getR,e] at h
  have hr : hasR r k = false := by simpa [hasR,getR,hx] using h
  rw [delR,if_neg hx,del_none hr]
theorem del_some {α : Type} (f : α → TV) (k : Int) : ∀ (l : List (Nat × Int × α)) (i : Nat),hasR l k = true → ∃ n v,findKey (.leaf .int) (.int .i64 k) (mpR f l) i = some (some (n,v)) ∧ i ≤ n ∧ (mpR f l).eraseIdx (n - i) = mpR f (delR l k)
 | [],i,h => by simp [hasR,getR] at h
 | x :: r,i,h => by
  by_cases hx : k = x.2.1
  ·refine ⟨i,f x.2.2,?_,Nat.le_refl _,?_⟩
   ·simp [mpR,findKey,keyEq,leafEq,hx]
   ·simp [mpR,delR,hx]
  ·have hh : hasR r k = true := by simpa [hasR,getR,Ne.symm hx] using h
   obtain ⟨n,v,h1,h2,h3⟩ := del_some f k r (i + 1) hh
   refine ⟨n,v,?_,by omega,?_⟩
   ·simp only [mpR] at h1
    simp only [mpR,List.map_cons,findKey,keyEq,leafEq,↓reduceIte]
    rw [show (k == x.2.1) = false by simp [hx]]
    exact h1
   ·rw [show n - i = (n - (i + 1)) + 1 by omega]
    simp only [mpR,List.map_cons,delR,Ne.symm hx,↓reduceIte,List.eraseIdx_cons_succ] at h3 ⊢
    rw [h3]
theorem dl_map {α : Type} {f : α → TV} {S : Store} {j c : Nat} {l : List (Nat × Int × α)} (h : S[j]? = some (.mp (mpR f l) c)) (env : Env) (k : Int) :
  dlV (.leaf .int) env S (.map j) (.iv (.int .i64 k)) = some (undef,env,S.set j (.mp (mpR f (delR l k)) c)) := by
 simp only [dlV,toIV,toIV1,keyOk,Bool.not_true,Bool.false_eq_true,↓reduceIte,h]
 cases hh : hasR l k with
 | false =>
  rw [findKey_none f hh,del_none hh]
  obtain ⟨hl,he⟩ := List.getElem?_eq_some_iff.1 h
  simp only [← he,List.set_getElem_self]
 | true =>
  obtain ⟨n,v,h1,h2,h3⟩ := del_some f k l 0 hh
  rw [Nat.sub_zero] at h3
  rw [h1]
  simp only [h3]
theorem del_sub {α : Type} : ∀ (l : List (Nat × Int × α)) (k : Int),(delR l k).Sublist l
 | [],k => List.Sublist.slnil
 | x :: r,k => by
  rw [delR]; split
  ·exact List.sublist_cons_self _ _
  ·exact (del_sub r k).cons_cons _
theorem hasR_del {α : Type} : ∀ {l : List (Nat × Int × α)},(l.map (·.2.1)).Nodup → ∀ k t : Int,hasR (delR l k) t = (decide (t ≠ k) && hasR l t)
 | [],_,k,t => by simp [delR,hasR,getR]
 | x :: r,h,k,t => by
  rw [List.map_cons,List.nodup_cons] at h
  rw [delR]
  by_cases hx : x.2.1 = k
  ·rw [if_pos hx]
   by_cases ht : t = k
   ·have : hasR r t = false := by
     cases hh : hasR r t with
     | false => rfl
     | true => exact absurd (by rw [hx,← ht]; exact hasR_iff.1 hh) h.1
    simp [this,ht]
    simpa [ht] using this
   ·have : ¬ x.2.1 = t := fun e => ht (e.symm.trans hx)
    simp [hasR,getR,this,ht]
  ·rw [if_neg hx]
   by_cases hxt : x.2.1 = t
   ·have : ¬ t = k := fun e => hx (hxt.trans e)
    simp [hasR,getR,hxt,this]
   ·have ih := hasR_del h.2 k t
    simp only [hasR] at ih
    simp only [hasR,getR,hxt,↓reduceIte,ih]
theorem RowsOK.del {α : Type} {l : List (Nat × Int × α)} {c : Nat} (h : RowsOK l c) (k : Int) : RowsOK (delR l k) c :=
 ⟨fun x hx => h.born x ((del_sub l k).subset hx),h.once.sublist ((del_sub l k).map _),h.keys.sublist ((del_sub l k).map _),fun x hx => h.rng x ((del_sub l k).subset hx)⟩
section
variable {K : Prog} {O : Orc} {i : Nat} {k : Kt} {M : List (Nat × TV)} {n : Nat} {fs : List Fr} {env : Env} {S : Store} {cb : TCode} {rs : List TRes}
theorem rnd_csf_all {P : TV × Store → Prop} {R : Jump × Env × Store → Prop} {X : Out (TV × Store)} (hX : X.All P) (h : ∀ v S',P (v,S') → (rnd' O cb (opC' K O (.ret (v,S')) i k M n fs env)).All R) : (rnd' O cb (opC' K O (csR' false S X) i k M n fs env)).All R :=
 rnd_opC_all (P := P) (csR_all hX fun v S' hv => by rw [csR_f']; exact hv) h
theorem fin_csf_all {P : TV × Store → Prop} {R : TV × Store → Prop} {X : Out (TV × Store)} (hX : X.All P) (h : ∀ v S',P (v,S') → (fin' rs (opC' K O (.ret (v,S')) i k M n fs env)).All R) : (fin' rs (opC' K O (csR' false S X) i k M n fs env)).All R :=
 fin_opC_all (P := P) (csR_all hX fun v S' hv => by rw [csR_f']; exact hv) h
end
theorem load2 (env : Env) (S : Store) (x y : IV) : getCells env S (.iv (.cp [x,y])) 2 = some [.iv x,.iv y] := id rfl
def clV (z : List IV) (env : Env) (S : Store) (x : TV) : Option (TV × Env × Store) := match clearOp z S x with
 | some S => some (undef,env,S)
 | none => none
theorem op1_clear' (K : Prog) (O : Orc) (i : Nat) (k : Kt) (M : List (Nat × TV)) (n : Nat) (fs : List Fr) (env : Env) (S : Store) (z : List IV) (x : TOpd) : op1' K O (.clear z x) i k M n fs env S = opE' K O (clV z env S (opv' K n env M x)) i k M n fs := by
 unfold op1' opE' opv'
 exact op1_k3 K O i k M n fs env S rfl (by simp)
theorem clV_eq (z : List IV) (env : Env) (S S' : Store) (x : TV) (h : clearOp z S x = some S') : clV z env S x = some (undef,env,S') := by simp only [clV,h]
attribute [go_sem] op1_nextM' readOp_entryM load2 op1_clear'
end Go.TM
namespace Go.TM
open Go
theorem ix_msl {j v off len cap : Nat} {i : Int} (h : 0 ≤ i ∧ i < len) : indexAddrS 1 (.msl j v off len cap 1) i = some (.ptr j v (off + i.toNat)) := by
 simp only [indexAddrS,show ¬ i < 0 by omega,h.2,and_self,↓reduceIte,Nat.mul_one]
end Go.TM
