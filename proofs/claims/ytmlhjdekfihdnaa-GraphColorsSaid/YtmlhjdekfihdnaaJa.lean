/- Some texts of the proof, joined. Condition: none. -/
import Derived.Test.YtmlhjdekfihdnaaTmProg
import Derived.Test.YtmlhjdekfihdnaaTmF
set_option maxRecDepth 100000
set_option maxHeartbeats 64000000
set_option linter.unusedSimpArgs false
set_option linter.unusedVariables false
namespace Go.Proofs.Ytmlhjdekfihdnaa
open Go Go.TM
attribute [go_sem] beq_self_eq_true decT decF ifT ifF eqT eqF neT neF bytesIV_length TM.one_length get_cp get_cp0 List.replicate List.cons_append List.nil_append decide_true decide_false
attribute [go_sem] Nat.reduceAdd Nat.reduceSub Nat.reduceMul Nat.reduceLT Nat.reduceLeDiff Nat.reduceEqDiff Nat.reduceBEq reduceIte reduceCtorEq Int.reduceEq Int.reduceLT Int.reduceLE Int.reduceAdd Int.reduceSub Int.reduceMul Int.reduceToNat Int.reduceNeg Int.reduceBEq Int.reduceBNe Int.reduceTDiv Int.reduceTMod Int.reducePow Nat.reducePow Nat.reduceDiv Nat.reduceMod Int.reduceMod Int.reduceDiv Int.reduceNe Int.reduceFDiv
def enc2 (p : Int × Int) : List IV := [.int .i64 p.1,.int .i64 p.2]
theorem enc2_ok (p : Int × Int) : (enc2 p).length = 2 ∧ (enc2 p).all isCell = true := ⟨rfl,rfl⟩
def cF (n : Nat) (f : Nat → TV) : List TV := (List.range n).map f
def upd {α : Type} (f : Nat → α) (i : Nat) (x : α) : Nat → α := fun j => if j = i then x else f j
theorem upd_same {α : Type} (f : Nat → α) (i : Nat) (x : α) : upd f i x i = x := by simp [upd]
theorem upd_ne {α : Type} (f : Nat → α) {i j : Nat} (x : α) (h : j ≠ i) : upd f i x j = f j := by simp [upd,h]
theorem cF_len (n : Nat) (f : Nat → TV) : (cF n f).length = n := by simp [cF]
theorem sub_cF {n i : Nat} (f : Nat → TV) (h : i < n) : sub (cF n f) i 1 = some [f i] := by
 simp only [sub,cF_len,show i + 1 ≤ n by omega,↓reduceIte]
 rw [List.drop_eq_getElem_cons (by rw [cF_len]; exact h)]
 simp [cF]
theorem put_cF {n i : Nat} (f : Nat → TV) (x : TV) (h : i < n) : put (cF n f) i [x] = cF n (upd f i x) := by
 simp only [put,cF]
 apply List.ext_getElem
 ·simp; omega
 ·intro j h1 h2
  simp at h1 h2
  rcases Nat.lt_trichotomy j i with h3 | h3 | h3
  ·rw [List.getElem_append_left (by simp; omega),List.getElem_append_left (by simp; omega)]
   simp [upd,show ¬ j = i by omega]
  ·subst h3
   rw [List.getElem_append_left (by simp; omega),List.getElem_append_right (by simp; omega)]
   simp [upd]
  ·rw [List.getElem_append_right (by simp; omega)]
   have e : i + 1 + (j - (min i n + 1)) = j := by omega
   simp [upd,show ¬ j = i by omega,e]
theorem cF_app (n : Nat) (f : Nat → TV) : cF n f ++ [f n] = cF (n + 1) f := by simp [cF,List.range_succ]
theorem cF_congr {n : Nat} {f g : Nat → TV} (h : ∀ i,i < n → f i = g i) : cF n f = cF n g := by
 apply List.map_congr_left
 intro i hi
 exact h i (List.mem_range.1 hi)
theorem ix_cF {j v n : Nat} {r : Nat} (h : r < n) : indexAddrS 1 (.msl j v 0 n n 1) (r : Int) = some (.ptr j v r) := by
 rw [ix_msl (by omega),Int.toNat_natCast,Nat.zero_add]
attribute [go_sem] cF_len
def vI (v : Int) : TV := .iv (.int .i64 v)
def nI (v : Nat) : TV := .iv (.int .i64 v)
def MapOf (S : Store) (i n : Nat) (f : Nat → Bool) : Prop :=
 ∃ l c,S[i]? = some (.mp (mpR vI l) c) ∧ RowsOK l c ∧ ∀ t : Int,hasR l t = true ↔ ∃ s : Nat,t = s ∧ s < n ∧ f s = true
structure Pn where
 n : Nat
 tE : Tag
 E : List (Int × Int)
 tM : Tag
 M : List (Int × Int)
 near : Nat → Nat → Bool
 own : Nat → Nat → Bool
 to : Nat → Nat
 out : Nat → Int
structure Ad where
 ip : Nat
 jn : Nat
 vn : Nat
 jo : Nat
 vo : Nat
 jt : Nat
 vt : Nat
 ju : Nat
 nm : Nat → Nat
 om : Nat → Nat
def pcells (a : Ad) (p : Pn) : List TV := [.iv (.int .i64 p.n),.iv (.sl p.tE (p.E.map enc2)),.iv (.sl p.tM (p.M.map enc2)),.msl a.jn a.vn 0 p.n p.n 1,.msl a.jo a.vo 0 p.n p.n 1,.msl a.jt a.vt 0 p.n p.n 1,.msl a.ju 0 0 p.n p.n 1]
structure PT (S : Store) (a : Ad) (p : Pn) : Prop where
 blk : S[a.ip]? = some (.cells 44 false (pcells a p))
 near : S[a.jn]? = some (.cells a.vn true (cF p.n fun r => .map (a.nm r)))
 own : S[a.jo]? = some (.cells a.vo true (cF p.n fun r => .map (a.om r)))
 to : S[a.jt]? = some (.cells a.vt true (cF p.n fun r => nI (p.to r)))
 out : S[a.ju]? = some (.cells 0 false (cF p.n fun r => vI (p.out r)))
 nmap : ∀ r,r < p.n → MapOf S (a.nm r) p.n (p.near r)
 omap : ∀ r,r < p.n → MapOf S (a.om r) p.n (p.own r)
 ninj : ∀ r s,r < p.n → s < p.n → a.nm r = a.nm s → r = s
 oinj : ∀ r s,r < p.n → s < p.n → a.om r = a.om s → r = s
 dis : ∀ r s,r < p.n → s < p.n → a.nm r ≠ a.om s
 nd : [a.ip,a.jn,a.jo,a.jt,a.ju].Nodup
def Ad.own (a : Ad) : List Nat := [a.ip,a.jn,a.jo,a.jt,a.ju]
structure KpG (a : Ad) (S S' : Store) : Prop where
 len : S.length ≤ S'.length
 get : ∀ i b,S[i]? = some b → i ∉ a.own → (∀ es c,b ≠ .mp es c) → S'[i]? = some b
theorem KpG.refl (a : Ad) (S : Store) : KpG a S S := ⟨Nat.le_refl _,fun _ _ h _ _ => h⟩
theorem KpG.trans {a b : Ad} {S S' S'' : Store} (h : KpG a S S') (g : KpG b S' S'') (he : b.own = a.own) : KpG a S S'' :=
 ⟨Nat.le_trans h.len g.len,fun i x hx hi hn => g.get i x (h.get i x hx hi hn) (by rw [he]; exact hi) hn⟩
theorem KpG.of {a : Ad} {S S' : Store} (h : Keep [] S S') : KpG a S S' := ⟨h.len,fun i b hb _ _ => h.get i b (by simp) hb⟩
theorem MapOf.keep {S S' : Store} {i n : Nat} {f : Nat → Bool} {I : List Nat} (h : MapOf S i n f) (k : Keep I S S') (hi : i ∉ I) : MapOf S' i n f := by
 obtain ⟨l,c,h1,h2,h3⟩ := h
 exact ⟨l,c,k.get _ _ hi h1,h2,h3⟩
theorem PT.keep {S S' : Store} {a : Ad} {p : Pn} (h : PT S a p) (k : Keep [] S S') : PT S' a p :=
 ⟨k.get _ _ (by simp) h.blk,k.get _ _ (by simp) h.near,k.get _ _ (by simp) h.own,k.get _ _ (by simp) h.to,k.get _ _ (by simp) h.out,
  fun r hr => (h.nmap r hr).keep k (by simp),fun r hr => (h.omap r hr).keep k (by simp),h.ninj,h.oinj,h.dis,h.nd⟩
theorem blk_ne {S : Store} {i j : Nat} {a b : Block} (h : S[i]? = some a) (g : S[j]? = some b) (hab : a ≠ b) : i ≠ j := by
 rintro rfl
 rw [h] at g; exact hab (Option.some.inj g)
theorem PT.nmo {S : Store} {a : Ad} {p : Pn} (h : PT S a p) {i n : Nat} {f : Nat → Bool} (hm : MapOf S i n f) : i ∉ a.own := by
 obtain ⟨l,c,h1,_,_⟩ := hm
 simp only [Ad.own,List.mem_cons,List.not_mem_nil,or_false,not_or]
 exact ⟨blk_ne h1 h.blk (by simp),blk_ne h1 h.near (by simp),blk_ne h1 h.own (by simp),blk_ne h1 h.to (by simp),blk_ne h1 h.out (by simp)⟩
def deg (n : Nat) (f : Nat → Bool) : Nat := ((List.range n).filter f).length
theorem nodup_len {α : Type} [DecidableEq α] {l m : List α} (hl : l.Nodup) (hm : m.Nodup) (h : ∀ x,x ∈ l ↔ x ∈ m) : l.length = m.length :=
 ((List.perm_ext_iff_of_nodup hl hm).2 h).length_eq
theorem rows_deg {α : Type} {l : List (Nat × Int × α)} {c n : Nat} {f : Nat → Bool} (ho : RowsOK l c) (hf : ∀ t : Int,hasR l t = true ↔ ∃ s : Nat,t = s ∧ s < n ∧ f s = true) : l.length = deg n f := by
 have h1 : (l.map (·.2.1)).length = (((List.range n).filter f).map fun s : Nat => (s : Int)).length := by
  refine nodup_len ho.keys ?_ fun x => ?_
  ·exact List.Pairwise.map _ (fun a b h e => h (by omega)) (List.nodup_range.filter f)
  ·rw [← hasR_iff,hf x]
   simp only [List.mem_map,List.mem_filter,List.mem_range]
   constructor
   ·rintro ⟨s,rfl,h1,h2⟩; exact ⟨s,⟨h1,h2⟩,rfl⟩
   ·rintro ⟨s,⟨h1,h2⟩,rfl⟩; exact ⟨s,rfl,h1,h2⟩
 simpa [deg] using h1
theorem lkB_vI (l : List (Nat × Int × Int)) (c : Nat) (k : Int) : lkB (.leaf .int) (.int .i64 0) false (some (.mp (mpR vI l) c)) (.iv (.int .i64 k)) = some (.iv (.int .i64 (cntR l k))) := by
 rw [lkB_mp]
 simp only [cntR,Bool.false_eq_true,↓reduceIte]
 cases getR l k <;> rfl
theorem lkB_vI2 (l : List (Nat × Int × Int)) (c : Nat) (k : Int) : lkB (.leaf .int) (.int .i64 0) true (some (.mp (mpR vI l) c)) (.iv (.int .i64 k)) = some (.tup [.iv (.int .i64 (cntR l k)),.iv (.bool (hasR l k))]) := by
 rw [lkB_mp]
 simp only [cntR,hasR]
 cases getR l k <;> rfl
theorem upB_vI (l : List (Nat × Int × Int)) (c : Nat) (env : Env) (S : Store) (j : Nat) (k a : Int) : upB (.leaf .int) env S j (some (.mp (mpR vI l) c)) (.iv (.int .i64 k)) (.iv (.int .i64 a)) = some (TM.undef,env,S.set j (.mp (mpR vI (putR l c k a)) (clkR l c k))) :=
 upB_mp vI l c env S j k a rfl rfl
attribute [go_sem] lkB_vI lkB_vI2 upB_vI
theorem MapOf.put {S : Store} {i n : Nat} {f : Nat → Bool} {l : List (Nat × Int × Int)} {c : Nat} (h1 : S[i]? = some (.mp (mpR vI l) c)) (h2 : RowsOK l c) (h3 : ∀ t : Int,hasR l t = true ↔ ∃ s : Nat,t = s ∧ s < n ∧ f s = true) (k : Nat) (hk : k < n) (hn : n ≤ 1000000000) (v : Int) :
  MapOf (S.set i (.mp (mpR vI (putR l c k v)) (clkR l c k))) i n (upd f k true) := by
 refine ⟨_,_,get_setS (lt_get h1) _,h2.put (by omega) v,fun t => ?_⟩
 rw [hasR_put,Bool.or_eq_true,h3 t]
 constructor
 ·rintro (h | ⟨s,h,h4,h5⟩)
  ·exact ⟨k,by simpa using (of_decide_eq_true h).symm,hk,upd_same ..⟩
  ·refine ⟨s,h,h4,?_⟩
   unfold upd; split
   ·rfl
   ·exact h5
 ·rintro ⟨s,h,h4,h5⟩
  unfold upd at h5
  split at h5
  ·rename_i e; left; simp [h,e]
  ·right; exact ⟨s,h,h4,h5⟩
def isCol (c : Int) : Bool := decide (1 ≤ c) && decide (c ≤ 24)
theorem call24 (c : Int) : Pure K 24 [.iv (.int .i64 c)] (.iv (.bool (isCol c))) := by
 refine call_pure t24 rfl rfl ?_
 simp (config := { maxSteps := 4000000 }) (disch := omega) only [t24,go_sem]
 repeat' (first | (first | refine br_dec' (fun h => ?_) (fun h => ?_) | refine br_beq' (fun h => ?_) (fun h => ?_) | refine br_bne' (fun h => ?_) (fun h => ?_) | refine br_eq' (fun h => ?_) (fun h => ?_)) | simp (disch := omega) only [go_sem])
 all_goals (simp [isCol, *])
def hiF (p : Pn) (r : Nat) : Bool := decide (r < 32) || decide (24 ≤ deg p.n (p.near r))
theorem lenV_map {S : Store} {j c : Nat} {l : List (Nat × Int × Int)} (h : S[j]? = some (.mp (mpR vI l) c)) : lenV .mp S (.map j) = some (.iv (.int .i64 l.length)) := by
 show (if nkOf (.map j) = .mp then (lenOf S (.map j)).map fun (n : Nat) => TV.iv (.int .i64 n) else none) = _
 simp only [nkOf,lenOf,h,mpR_len,↓reduceIte,Option.map_some]
theorem call43 {S : Store} {a : Ad} {p : Pn} (h : PT S a p) (r : Nat) (hr : r < p.n) : (lim K).call 43 [.ptr a.ip 44 0,.iv (.int .i64 r)] S = .ret (.iv (.bool (hiF p r)),S) := by
 obtain ⟨l,c,h1,h2,h3⟩ := h.nmap r hr
 have hb := h.blk
 have hn := h.near
 have hd := rows_deg h2 h3
 have hl := lenV_map h1
 have hx := ix_cF (j := a.jn) (v := a.vn) hr
 have hs := sub_cF (fun r => TV.map (a.nm r)) hr
 rw [hd] at hl
 unfold pcells at hb
 refine call_ret' K _ (fn := t43) rfl rfl ?_
 unfold hiF
 by_cases h32 : r < 32
 ·simp (config := { maxSteps := 4000000 }) (disch := omega) only [t43,go_sem,TM.undef,h32,Bool.true_or]
 ·by_cases h24 : 24 ≤ deg p.n (p.near r)
  ·simp (config := { maxSteps := 4000000 }) (disch := omega) only [t43,go_sem,TM.undef,hb,hn,hx,hs,hl,h24]
  ·simp (config := { maxSteps := 4000000 }) (disch := omega) only [t43,go_sem,TM.undef,hb,hn,hx,hs,hl,h24]
theorem PT.setN {S : Store} {a : Ad} {p : Pn} (h : PT S a p) {r : Nat} (hr : r < p.n) {b : Block} {f : Nat → Bool} (hm : MapOf (S.set (a.nm r) b) (a.nm r) p.n f) : PT (S.set (a.nm r) b) a { p with near := upd p.near r f } := by
 have ho := h.nmo (h.nmap r hr)
 simp only [Ad.own,List.mem_cons,List.not_mem_nil,or_false,not_or] at ho
 obtain ⟨o1,o2,o3,o4,o5⟩ := ho
 refine ⟨?_,?_,?_,?_,?_,fun s hs => ?_,fun s hs => ?_,h.ninj,h.oinj,h.dis,h.nd⟩
 ·rw [get_setN (Ne.symm (Ne.symm o1))]; exact h.blk
 ·rw [get_setN (Ne.symm (Ne.symm o2))]; exact h.near
 ·rw [get_setN (Ne.symm (Ne.symm o3))]; exact h.own
 ·rw [get_setN (Ne.symm (Ne.symm o4))]; exact h.to
 ·rw [get_setN (Ne.symm (Ne.symm o5))]; exact h.out
 ·by_cases e : s = r
  ·subst e; simpa [upd_same] using hm
  ·have hne : a.nm r ≠ a.nm s := fun e2 => e (h.ninj _ _ hr hs e2).symm
   obtain ⟨l,c,h1,h2,h3⟩ := h.nmap s hs
   simp only [upd_ne _ _ e]
   exact ⟨l,c,by rw [get_setN hne]; exact h1,h2,h3⟩
 ·obtain ⟨l,c,h1,h2,h3⟩ := h.omap s hs
  exact ⟨l,c,by rw [get_setN (h.dis r s hr hs)]; exact h1,h2,h3⟩
theorem PT.setO {S : Store} {a : Ad} {p : Pn} (h : PT S a p) {i : Nat} {b b' : Block} (hb : S[i]? = some b) (hi : i ∉ a.own) (hn : ∀ es c,b ≠ .mp es c) : PT (S.set i b') a p := by
 simp only [Ad.own,List.mem_cons,List.not_mem_nil,or_false,not_or] at hi
 obtain ⟨o1,o2,o3,o4,o5⟩ := hi
 refine ⟨?_,?_,?_,?_,?_,fun s hs => ?_,fun s hs => ?_,h.ninj,h.oinj,h.dis,h.nd⟩
 ·rw [get_setN o1]; exact h.blk
 ·rw [get_setN o2]; exact h.near
 ·rw [get_setN o3]; exact h.own
 ·rw [get_setN o4]; exact h.to
 ·rw [get_setN o5]; exact h.out
 ·obtain ⟨l,c,h1,h2,h3⟩ := h.nmap s hs
  exact ⟨l,c,by rw [get_setN (blk_ne hb h1 (hn _ _))]; exact h1,h2,h3⟩
 ·obtain ⟨l,c,h1,h2,h3⟩ := h.omap s hs
  exact ⟨l,c,by rw [get_setN (blk_ne hb h1 (hn _ _))]; exact h1,h2,h3⟩
theorem PT.nit {S : Store} {a : Ad} {p : Pn} (h : PT S a p) {i : Nat} {m : Option Nat} {x : Nat} {y : List Nat} {z : Nat} (hb : S[i]? = some (.mit m x y z)) : i ∉ a.own := by
 simp only [Ad.own,List.mem_cons,List.not_mem_nil,or_false,not_or]
 exact ⟨blk_ne hb h.blk (by simp),blk_ne hb h.near (by simp),blk_ne hb h.own (by simp),blk_ne hb h.to (by simp),blk_ne hb h.out (by simp)⟩
theorem PT.setIt {S : Store} {a : Ad} {p : Pn} (h : PT S a p) {i : Nat} {m : Option Nat} {x : Nat} {y : List Nat} {z : Nat} (hb : S[i]? = some (.mit m x y z)) (b' : Block) : PT (S.set i b') a p :=
 h.setO hb (h.nit hb) (by simp)
theorem KpG.maps {a : Ad} {S S' : Store} {I : List Nat} (k : Keep I S S') (hI : ∀ i ∈ I,∃ es c,S[i]? = some (.mp es c)) : KpG a S S' :=
 ⟨k.len,fun i b hb _ hn => k.get i b (fun hi => by
  obtain ⟨es,c,h1⟩ := hI i hi
  rw [hb] at h1; exact hn es c (Option.some.inj h1)) hb⟩
def link (f : Nat → Nat → Bool) (x y : Nat) : Nat → Nat → Bool := upd (upd f x (upd (f x) y true)) y (upd (f y) x true)
theorem link_at (f : Nat → Nat → Bool) {x y : Nat} (h : x ≠ y) (r t : Nat) : link f x y r t = (f r t || (decide (r = x ∧ t = y) || decide (r = y ∧ t = x))) := by
 unfold link upd
 by_cases h1 : r = y
 ·subst h1
  by_cases h2 : t = x
  ·simp [h2,Ne.symm h]
  ·simp [h2,Ne.symm h]
 ·by_cases h2 : r = x
  ·subst h2
   by_cases h3 : t = y
   ·simp [h1,h3]
   ·simp [h1,h3]
  ·simp [h1,h2]
theorem call28 {S : Store} {a : Ad} {p : Pn} (h : PT S a p) (hn : p.n ≤ 1000000000) {x y : Nat} (hx : x < p.n) (hy : y < p.n) (hxy : x ≠ y) :
  ∃ S',(lim K).call 28 [.ptr a.ip 44 0,.iv (.int .i64 x),.iv (.int .i64 y)] S = .ret (.tup [],S') ∧ PT S' a { p with near := link p.near x y } ∧ Keep [a.nm x,a.nm y] S S' := by
 obtain ⟨l,c,h1,h2,h3⟩ := h.nmap x hx
 have hm := MapOf.put h1 h2 h3 y hy hn (IntKind.i64.wrap (cntR l y + 1))
 have hP := h.setN hx hm
 have hxyn : a.nm x ≠ a.nm y := fun e => hxy (h.ninj _ _ hx hy e)
 obtain ⟨l',c',h1',h2',h3'⟩ := hP.nmap y hy
 simp only [upd_ne _ _ (Ne.symm hxy)] at h3'
 have hm2 := MapOf.put h1' h2' h3' x hx hn (IntKind.i64.wrap (cntR l' x + 1))
 have hP2 := hP.setN hy hm2
 have b1 := h.blk
 have b2 := h.near
 have b3 := hP.blk
 have b4 := hP.near
 have i1 := ix_cF (j := a.jn) (v := a.vn) hx
 have i2 := ix_cF (j := a.jn) (v := a.vn) hy
 have s1 := sub_cF (fun r => TV.map (a.nm r)) hx
 have s2 := sub_cF (fun r => TV.map (a.nm r)) hy
 refine ⟨_,call_ret' K _ (fn := t28) rfl rfl ?_,hP2,(Keep.set _ (by simp) _).trans (Keep.set _ (by simp) _)⟩
 simp only [pcells] at b1 b3
 simp (config := { maxSteps := 4000000 }) (disch := omega) only [t28,go_sem,TM.undef,b1,b2,i1,i2,s1,s2,h1,b3,b4,h1']
structure Uf (p : Pn) (ρ d : Nat → Nat) : Prop where
 up : ∀ r,r < p.n → p.to r ≠ r → p.to r < p.n ∧ ρ (p.to r) = ρ r ∧ d (p.to r) < d r
 fix : ∀ r,r < p.n → p.to r = r → ρ r = r
theorem Uf.root {p : Pn} {ρ d : Nat → Nat} (h : Uf p ρ d) : ∀ (k r : Nat),d r < k → r < p.n → ρ r < p.n ∧ p.to (ρ r) = ρ r
 | 0,r,hk,hr => by omega
 | k + 1,r,hk,hr => by
  by_cases e : p.to r = r
  ·rw [h.fix r hr e]; exact ⟨hr,e⟩
  ·obtain ⟨h1,h2,h3⟩ := h.up r hr e
   have := h.root k (p.to r) (by omega) h1
   rw [h2] at this; exact this
theorem loop29 {S : Store} {a : Ad} {p : Pn} (h : PT S a p) {ρ d : Nat → Nat} (hu : Uf p ρ d) (x2 : TV) : ∀ (k r : Nat) (x3 : TV),d r < k → r < p.n →
  ∃ y3,lp' (lim K) t29L0 [.ptr a.ip 44 0,.iv (.int .i64 r),x2,x3] S = .ret (.exit 0,[.ptr a.ip 44 0,.iv (.int .i64 (ρ r)),x2,y3],S)
 | 0,r,x3,hk,hr => by omega
 | k + 1,r,x3,hk,hr => by
  have b1 := h.blk
  have b2 := h.to
  have i1 := ix_cF (j := a.jt) (v := a.vt) hr
  have s1 := sub_cF (fun r => nI (p.to r)) hr
  simp only [pcells] at b1
  simp only [nI] at b2 s1
  by_cases e : p.to r = r
  ·rw [hu.fix r hr e]
   rw [e] at s1
   refine ⟨.iv (.bool false),loop_at K _ _ t29L0.eq_1 ?_⟩
   simp (config := { maxSteps := 4000000 }) (disch := omega) only [go_sem,b1,b2,i1,s1]
  ·obtain ⟨h1,h2,h3⟩ := hu.up r hr e
   obtain ⟨y3,ih⟩ := loop29 h hu x2 k (p.to r) (.iv (.bool true)) (by omega) h1
   rw [h2] at ih
   have e' : ¬ ((p.to r : Int) = (r : Int)) := by omega
   refine ⟨y3,loop_at K _ _ t29L0.eq_1 ?_⟩
   simp (config := { maxSteps := 4000000 }) (disch := omega) only [go_sem,b1,b2,i1,s1,e']
   exact congrArg er ih
theorem call29 {S : Store} {a : Ad} {p : Pn} (h : PT S a p) {ρ d : Nat → Nat} (hu : Uf p ρ d) (r : Nat) (hr : r < p.n) : (lim K).call 29 [.ptr a.ip 44 0,.iv (.int .i64 r)] S = .ret (.iv (.int .i64 (ρ r)),S) := by
 obtain ⟨y3,l1⟩ := loop29 h hu (.iv (.int .i64 0)) (d r + 1) r (.tup []) (by omega) hr
 refine call_ret' K _ (fn := t29) rfl rfl ?_
 simp (config := { maxSteps := 4000000 }) (disch := omega) only [t29,go_sem,TM.undef]
 rw [l1]
 simp (config := { maxSteps := 4000000 }) (disch := omega) only [go_sem]
theorem has_at {l : List (Nat × Int × Int)} {n : Nat} {f : Nat → Bool} (h3 : ∀ t : Int,hasR l t = true ↔ ∃ s : Nat,t = s ∧ s < n ∧ f s = true) {s : Nat} (hs : s < n) : hasR l (s : Int) = f s := by
 cases hf : f s with
 | true => exact (h3 s).2 ⟨s,rfl,hs,hf⟩
 | false =>
  cases hh : hasR l (s : Int) with
  | false => rfl
  | true =>
   obtain ⟨s',e,_,h⟩ := (h3 s).1 hh
   have : s = s' := by omega
   rw [← this,hf] at h; cases h
theorem key_at {l : List (Nat × Int × Int)} {n : Nat} {f : Nat → Bool} (h3 : ∀ t : Int,hasR l t = true ↔ ∃ s : Nat,t = s ∧ s < n ∧ f s = true) {x : Nat × Int × Int} (hx : x ∈ l) : ∃ s : Nat,x.2.1 = s ∧ s < n ∧ f s = true :=
 (h3 _).1 (hasR_iff.2 (List.mem_map_of_mem (f := fun y : Nat × Int × Int => y.2.1) hx))
theorem nodup_eq {α : Type} {l : List (Nat × Int × α)} (ho : (l.map (·.1)).Nodup) {x y : Nat × Int × α} (hx : x ∈ l) (hy : y ∈ l) (h : x.1 = y.1) : x = y := by
 induction l with
 | nil => cases hx
 | cons a r ih =>
  rw [List.map_cons,List.nodup_cons] at ho
  have key : ∀ z ∈ r,z.1 ≠ a.1 := fun z hz e => ho.1 (by rw [← e]; exact List.mem_map_of_mem (f := fun w : Nat × Int × α => w.1) hz)
  rcases List.mem_cons.1 hx with e1 | hx'
  ·rcases List.mem_cons.1 hy with e2 | hy'
   ·rw [e1,e2]
   ·exact absurd (h.symm.trans (by rw [e1])) (key y hy')
  ·rcases List.mem_cons.1 hy with e2 | hy'
   ·exact absurd (h.trans (by rw [e2])) (key x hx')
   ·exact ih ho.2 hx' hy'
def cntU (l : List (Nat × Int × Int)) (seen : List Nat) (q : Nat → Bool) : Nat := (l.filter fun x => !seen.contains x.1 && q x.2.1.toNat).length
theorem cntU_step {l : List (Nat × Int × Int)} {seen : List Nat} (q : Nat → Bool) (ho : (l.map (·.1)).Nodup) {x : Nat × Int × Int} (hx : x ∈ l) (hs : x.1 ∉ seen) : cntU l seen q = cntU l (seen ++ [x.1]) q + if q x.2.1.toNat then 1 else 0 := by
 unfold cntU
 induction l with
 | nil => cases hx
 | cons a r ih =>
  rw [List.map_cons,List.nodup_cons] at ho
  rcases List.mem_cons.1 hx with rfl | hx
  ·have hr : ∀ y ∈ r,y.1 ≠ x.1 := fun y hy e => ho.1 (by rw [← e]; exact List.mem_map_of_mem (f := fun z : Nat × Int × Int => z.1) hy)
   have e : r.filter (fun x_1 => !(seen ++ [x.1]).contains x_1.1 && q x_1.2.1.toNat) = r.filter (fun x => !seen.contains x.1 && q x.2.1.toNat) := by
    apply List.filter_congr
    intro y hy
    have := hr y hy
    simp [this]
   rw [List.filter_cons,List.filter_cons,e]
   cases hq : q x.2.1.toNat <;> simp [hs,hq]
  ·have hne : a.1 ≠ x.1 := fun e => ho.1 (by rw [e]; exact List.mem_map_of_mem (f := fun z : Nat × Int × Int => z.1) hx)
   have ih := ih ho.2 hx
   rw [List.filter_cons,List.filter_cons]
   have e : (!(seen ++ [x.1]).contains a.1 && q a.2.1.toNat) = (!seen.contains a.1 && q a.2.1.toNat) := by simp [hne]
   rw [e]
   split
   ·simp only [List.length_cons]; omega
   ·exact ih
theorem cntU_none {l : List (Nat × Int × Int)} {seen : List Nat} (q : Nat → Bool) (h : ∀ x ∈ l,x.1 ∈ seen) : cntU l seen q = 0 := by
 unfold cntU
 rw [List.length_eq_zero_iff,List.filter_eq_nil_iff]
 intro x hx
 simp [h x hx]
theorem cntU_all {l : List (Nat × Int × Int)} {c n : Nat} {f : Nat → Bool} (ho : RowsOK l c) (hf : ∀ t : Int,hasR l t = true ↔ ∃ s : Nat,t = s ∧ s < n ∧ f s = true) (q : Nat → Bool) : cntU l [] q = deg n (fun t => f t && q t) := by
 have e : cntU l [] q = ((l.map (·.2.1)).filter fun t => q t.toNat).length := by
  unfold cntU
  rw [List.filter_map,List.length_map]
  congr 1
 rw [e]
 have h1 : ((l.map (·.2.1)).filter fun t => q t.toNat).length = (((List.range n).filter fun t => f t && q t).map fun s : Nat => (s : Int)).length := by
  refine nodup_len (ho.keys.filter _) ?_ fun x => ?_
  ·exact List.Pairwise.map _ (fun a b h e => h (by omega)) (List.nodup_range.filter _)
  ·rw [List.mem_filter,← hasR_iff,hf x]
   simp only [List.mem_map,List.mem_filter,List.mem_range,Bool.and_eq_true]
   constructor
   ·rintro ⟨⟨s,rfl,h1,h2⟩,h3⟩; exact ⟨s,⟨h1,h2,by simpa using h3⟩,rfl⟩
   ·rintro ⟨s,⟨h1,h2,h3⟩,rfl⟩; exact ⟨⟨s,rfl,h1,h2⟩,by simpa using h3⟩
 rw [h1,List.length_map]; rfl
def badT (p : Pn) (x : Nat) (t : Nat) : Bool := !p.near x t && hiF p t
def env30 (a : Ad) (x y : Nat) (r3 x4 x5 x6 x7 x8 x9 x10 x11 x12 x13 x14 x15 x16 x17 x18 x19 : TV) : List TV := [.ptr a.ip 44 0,.iv (.int .i64 x),.iv (.int .i64 y),r3,x4,x5,x6,x7,x8,x9,x10,x11,x12,x13,x14,x15,x16,x17,x18,x19]
theorem loop30c {a : Ad} {p : Pn} {x y : Nat} (hx : x < p.n) (hy : y < p.n) {bi c : Nat} {l : List (Nat × Int × Int)} (ho : RowsOK l c) (hf : ∀ t : Int,hasR l t = true ↔ ∃ s : Nat,t = s ∧ s < p.n ∧ p.near y s = true) (x6 x7 x8 x9 x10 x14 x15 x16 x17 x18 x19 : TV) :
  ∀ (k : Nat) (seen : List Nat) (S : Store) (x4 x5 x12 x13 : TV),left l seen < k → PT S a p → S[bi]? = some (.mit (some (a.nm y)) c seen c) → S[a.nm y]? = some (.mp (mpR vI l) c) →
  (lp' (lim K) t30L2 (env30 a x y (.iv (.bool false)) x4 x5 x6 x7 x8 x9 x10 (.it bi) x12 x13 x14 x15 x16 x17 x18 x19) S).All fun r => ∃ y4 y5 y12 y13,Keep [bi] S r.2.2 ∧
   r.2.1 = env30 a x y (.iv (.bool false)) y4 y5 x6 x7 x8 x9 x10 (.it bi) y12 y13 x14 x15 x16 x17 x18 x19 ∧
   (r.1 = .exit 0 ∧ (∀ z ∈ l,z.1 ∉ seen → badT p x z.2.1.toNat = false) ∨ r.1 = .ret ∧ ∃ z ∈ l,badT p x z.2.1.toNat = true)
 | 0,seen,S,x4,x5,x12,x13,hk,hP,hb,hm => by omega
 | k + 1,seen,S,x4,x5,x12,x13,hk,hP,hb,hm => by
  unfold env30
  refine lp_all t30L2.eq_1 ?_
  simp (config := { maxSteps := 4000000 }) (disch := omega) only [go_sem]
  refine rnd_next_all hb hm ho.born (Nat.le_refl _) (fun hall => ?_) (fun z hz hs => ?_)
  ·simp (config := { maxSteps := 4000000 }) (disch := omega) only [go_sem]
   exact all_ret ⟨_,_,_,_,.refl _ _,rfl,.inl ⟨rfl,fun z hz hs => absurd (hall z hz) hs⟩⟩
  ·have hlt := left_lt hz hs
   have hbm : bi ≠ a.nm y := blk_ne hb hm (by simp)
   have hP' := hP.setIt hb (.mit (some (a.nm y)) c (seen ++ [z.1]) c)
   have hb' : (S.set bi (.mit (some (a.nm y)) c (seen ++ [z.1]) c))[bi]? = _ := get_setS (lt_get hb) _
   have hm' : (S.set bi (.mit (some (a.nm y)) c (seen ++ [z.1]) c))[a.nm y]? = some (.mp (mpR vI l) c) := by rw [get_setN hbm]; exact hm
   have he := enV_it hb' hm' hz ho.once
   have hkp : Keep [bi] S (S.set bi (.mit (some (a.nm y)) c (seen ++ [z.1]) c)) := Keep.set _ (by simp) _
   generalize S.set bi (.mit (some (a.nm y)) c (seen ++ [z.1]) c) = S1 at *
   obtain ⟨t,ht,htn,htf⟩ := key_at hf hz
   obtain ⟨lx,cx,hx1,hx2,hx3⟩ := hP'.nmap x hx
   have hh := has_at hx3 htn
   have c43 := call43 hP' t htn
   have b1 := hP'.blk
   have b2 := hP'.near
   have i1 := ix_cF (j := a.jn) (v := a.vn) hx
   have s1 := sub_cF (fun r => TV.map (a.nm r)) hx
   simp only [pcells] at b1
   rw [ht] at he
   have ih := loop30c hx hy ho hf x6 x7 x8 x9 x10 x14 x15 x16 x17 x18 x19 k (seen ++ [z.1]) S1 (.iv (.int .i64 t)) (.iv (.bool (p.near x t))) (.iv (.bool true)) (.iv (.bool false)) (by omega) hP' hb' hm'
   unfold env30 at ih
   have hbt : badT p x z.2.1.toNat = (!p.near x t && hiF p t) := by rw [ht]; rfl
   rw [ht]
   cases hnx : p.near x t with
   | true =>
    rw [hnx] at hh hbt ih
    simp (config := { maxSteps := 4000000 }) (disch := omega) only [go_sem,he,b1,b2,i1,s1,hx1,hh]
    refine all_er (Out.all_mono ?_ ih)
    rintro r ⟨y4,y5,y12,y13,k1,e1,h1⟩
    refine ⟨y4,y5,y12,y13,hkp.trans k1,e1,?_⟩
    rcases h1 with ⟨h1,h2⟩ | h1
    ·refine .inl ⟨h1,fun z' hz' hs' => ?_⟩
     by_cases e : z'.1 ∈ seen ++ [z.1]
     ·have e' : z'.1 = z.1 := by simpa [hs'] using e
      have : z' = z := nodup_eq ho.once hz' hz e'
      rw [this,hbt]; rfl
     ·exact h2 z' hz' e
    ·exact .inr h1
   | false =>
    rw [hnx] at hh hbt ih
    cases hhi : hiF p t with
    | true =>
     rw [hhi] at c43 hbt
     simp (config := { maxSteps := 4000000 }) (disch := omega) only [go_sem,he,b1,b2,i1,s1,hx1,hh,c43]
     exact all_ret ⟨_,_,_,_,hkp,rfl,.inr ⟨rfl,z,hz,by rw [hbt]; rfl⟩⟩
    | false =>
     rw [hhi] at c43 hbt
     simp (config := { maxSteps := 4000000 }) (disch := omega) only [go_sem,he,b1,b2,i1,s1,hx1,hh,c43]
     refine all_er (Out.all_mono ?_ ih)
     rintro r ⟨y4,y5,y12,y13,k1,e1,h1⟩
     refine ⟨y4,y5,y12,y13,hkp.trans k1,e1,?_⟩
     rcases h1 with ⟨h1,h2⟩ | h1
     ·refine .inl ⟨h1,fun z' hz' hs' => ?_⟩
      by_cases e : z'.1 ∈ seen ++ [z.1]
      ·have e' : z'.1 = z.1 := by simpa [hs'] using e
       have : z' = z := nodup_eq ho.once hz' hz e'
       rw [this,hbt]; rfl
      ·exact h2 z' hz' e
     ·exact .inr h1
theorem loop30b {a : Ad} {p : Pn} (hpn : p.n ≤ 1000000000) {x y : Nat} (hx : x < p.n) {bi c : Nat} {l : List (Nat × Int × Int)} (ho : RowsOK l c) (hf : ∀ t : Int,hasR l t = true ↔ ∃ s : Nat,t = s ∧ s < p.n ∧ p.near x s = true) (hll : l.length ≤ 1000000000) (x3 x4 x5 x8 x9 x10 x11 x12 x13 x17 x18 x19 : TV) :
  ∀ (k : Nat) (m : Nat) (seen : List Nat) (S : Store) (x7 x15 x16 : TV),left l seen < k → m + cntU l seen (hiF p) ≤ 4000000000 → PT S a p → S[bi]? = some (.mit (some (a.nm x)) c seen c) → S[a.nm x]? = some (.mp (mpR vI l) c) →
  (lp' (lim K) t30L1 (env30 a x y x3 x4 x5 (.iv (.int .i64 m)) x7 x8 x9 x10 x11 x12 x13 (.it bi) x15 x16 x17 x18 x19) S).All fun r => ∃ y7 y15 y16,Keep [bi] S r.2.2 ∧
   r.2.1 = env30 a x y x3 x4 x5 (.iv (.int .i64 (m + cntU l seen (hiF p) : Nat))) y7 x8 x9 x10 x11 x12 x13 (.it bi) y15 y16 x17 x18 x19 ∧ r.1 = .exit 2
 | 0,m,seen,S,x7,x15,x16,hk,hmm,hP,hb,hm => by omega
 | k + 1,m,seen,S,x7,x15,x16,hk,hmm,hP,hb,hm => by
  unfold env30
  refine lp_all t30L1.eq_1 ?_
  simp (config := { maxSteps := 4000000 }) (disch := omega) only [go_sem]
  refine rnd_next_all hb hm ho.born (Nat.le_refl _) (fun hall => ?_) (fun z hz hs => ?_)
  ·simp (config := { maxSteps := 4000000 }) (disch := omega) only [go_sem]
   exact all_ret ⟨_,_,_,.refl _ _,by rw [cntU_none _ hall]; rfl,rfl⟩
  ·have hlt := left_lt hz hs
   have hst := cntU_step (hiF p) ho.once hz hs
   have hbm : bi ≠ a.nm x := blk_ne hb hm (by simp)
   have hP' := hP.setIt hb (.mit (some (a.nm x)) c (seen ++ [z.1]) c)
   have hb' : (S.set bi (.mit (some (a.nm x)) c (seen ++ [z.1]) c))[bi]? = _ := get_setS (lt_get hb) _
   have hm' : (S.set bi (.mit (some (a.nm x)) c (seen ++ [z.1]) c))[a.nm x]? = some (.mp (mpR vI l) c) := by rw [get_setN hbm]; exact hm
   have he := enV_it hb' hm' hz ho.once
   have hkp : Keep [bi] S (S.set bi (.mit (some (a.nm x)) c (seen ++ [z.1]) c)) := Keep.set _ (by simp) _
   generalize S.set bi (.mit (some (a.nm x)) c (seen ++ [z.1]) c) = S1 at *
   obtain ⟨t,ht,htn,htf⟩ := key_at hf hz
   have c43 := call43 hP' t htn
   rw [ht] at he hst
   rw [Int.toNat_natCast] at hst
   rw [ht]
   cases hhi : hiF p t with
   | true =>
    rw [hhi] at c43 hst
    simp only [if_true] at hst
    have ih := loop30b hpn (y := y) hx ho hf hll x3 x4 x5 x8 x9 x10 x11 x12 x13 x17 x18 x19 k (m + 1) (seen ++ [z.1]) S1 (.iv (.int .i64 t)) (.iv (.bool true)) (.iv (.bool true)) (by omega) (by omega) hP' hb' hm'
    rw [show m + 1 + cntU l (seen ++ [z.1]) (hiF p) = m + cntU l seen (hiF p) by omega,show ((m + 1 : Nat) : Int) = (m : Int) + 1 by omega] at ih
    unfold env30 at ih
    simp (config := { maxSteps := 4000000 }) (disch := omega) only [go_sem,he,c43,wrap_i64]
    refine all_er (Out.all_mono ?_ ih)
    rintro r ⟨y7,y15,y16,k1,e1,h1⟩
    exact ⟨y7,y15,y16,hkp.trans k1,e1,h1⟩
   | false =>
    rw [hhi] at c43 hst
    simp only [Bool.false_eq_true,if_false] at hst
    have ih := loop30b hpn (y := y) hx ho hf hll x3 x4 x5 x8 x9 x10 x11 x12 x13 x17 x18 x19 k m (seen ++ [z.1]) S1 (.iv (.int .i64 t)) (.iv (.bool true)) (.iv (.bool false)) (by omega) (by omega) hP' hb' hm'
    rw [show cntU l (seen ++ [z.1]) (hiF p) = cntU l seen (hiF p) by omega] at ih
    unfold env30 at ih
    simp (config := { maxSteps := 4000000 }) (disch := omega) only [go_sem,he,c43,wrap_i64]
    refine all_er (Out.all_mono ?_ ih)
    rintro r ⟨y7,y15,y16,k1,e1,h1⟩
    exact ⟨y7,y15,y16,hkp.trans k1,e1,h1⟩
theorem loop30a {a : Ad} {p : Pn} (hpn : p.n ≤ 1000000000) {x y : Nat} (hx : x < p.n) (hy : y < p.n) {bi c : Nat} {l : List (Nat × Int × Int)} (ho : RowsOK l c) (hf : ∀ t : Int,hasR l t = true ↔ ∃ s : Nat,t = s ∧ s < p.n ∧ p.near y s = true) (hll : l.length ≤ 1000000000) (x3 x4 x5 x7 x10 x11 x12 x13 x14 x15 x16 : TV) :
  ∀ (k : Nat) (m : Nat) (seen : List Nat) (S : Store) (x8 x9 x18 x19 : TV),left l seen < k → m + cntU l seen (badT p x) ≤ 4000000000 → PT S a p → S[bi]? = some (.mit (some (a.nm y)) c seen c) → S[a.nm y]? = some (.mp (mpR vI l) c) →
  (lp' (lim K) t30L0 (env30 a x y x3 x4 x5 (.iv (.int .i64 m)) x7 x8 x9 x10 x11 x12 x13 x14 x15 x16 (.it bi) x18 x19) S).All fun r => ∃ y8 y9 y18 y19,Keep [bi] S r.2.2 ∧
   r.2.1 = env30 a x y x3 x4 x5 (.iv (.int .i64 (m + cntU l seen (badT p x) : Nat))) x7 y8 y9 x10 x11 x12 x13 x14 x15 x16 (.it bi) y18 y19 ∧ r.1 = .exit 4
 | 0,m,seen,S,x8,x9,x18,x19,hk,hmm,hP,hb,hm => by omega
 | k + 1,m,seen,S,x8,x9,x18,x19,hk,hmm,hP,hb,hm => by
  unfold env30
  refine lp_all t30L0.eq_1 ?_
  simp (config := { maxSteps := 4000000 }) (disch := omega) only [go_sem]
  refine rnd_next_all hb hm ho.born (Nat.le_refl _) (fun hall => ?_) (fun z hz hs => ?_)
  ·simp (config := { maxSteps := 4000000 }) (disch := omega) only [go_sem]
   exact all_ret ⟨_,_,_,_,.refl _ _,by rw [cntU_none _ hall]; rfl,rfl⟩
  ·have hlt := left_lt hz hs
   have hst := cntU_step (badT p x) ho.once hz hs
   have hbm : bi ≠ a.nm y := blk_ne hb hm (by simp)
   have hP' := hP.setIt hb (.mit (some (a.nm y)) c (seen ++ [z.1]) c)
   have hb' : (S.set bi (.mit (some (a.nm y)) c (seen ++ [z.1]) c))[bi]? = _ := get_setS (lt_get hb) _
   have hm' : (S.set bi (.mit (some (a.nm y)) c (seen ++ [z.1]) c))[a.nm y]? = some (.mp (mpR vI l) c) := by rw [get_setN hbm]; exact hm
   have he := enV_it hb' hm' hz ho.once
   have hkp : Keep [bi] S (S.set bi (.mit (some (a.nm y)) c (seen ++ [z.1]) c)) := Keep.set _ (by simp) _
   generalize S.set bi (.mit (some (a.nm y)) c (seen ++ [z.1]) c) = S1 at *
   obtain ⟨t,ht,htn,htf⟩ := key_at hf hz
   obtain ⟨lx,cx,hx1,hx2,hx3⟩ := hP'.nmap x hx
   have hh := has_at hx3 htn
   have c43 := call43 hP' t htn
   have b1 := hP'.blk
   have b2 := hP'.near
   have i1 := ix_cF (j := a.jn) (v := a.vn) hx
   have s1 := sub_cF (fun r => TV.map (a.nm r)) hx
   simp only [pcells] at b1
   rw [ht] at he hst
   rw [Int.toNat_natCast] at hst
   rw [ht]
   unfold badT at hst hmm
   cases hnx : p.near x t with
   | true =>
    rw [hnx] at hh hst
    simp only [Bool.not_true,Bool.false_and,Bool.false_eq_true,if_false,Nat.add_zero] at hst
    have ih := loop30a hpn hx hy ho hf hll x3 x4 x5 x7 x10 x11 x12 x13 x14 x15 x16 k m (seen ++ [z.1]) S1 (.iv (.int .i64 t)) (.iv (.bool true)) (.iv (.bool true)) (.iv (.bool false)) (by omega) (by unfold badT; omega) hP' hb' hm'
    unfold badT at ih ⊢
    rw [← hst] at ih
    unfold env30 at ih
    simp (config := { maxSteps := 4000000 }) (disch := omega) only [go_sem,he,b1,b2,i1,s1,hx1,hh]
    refine all_er (Out.all_mono ?_ ih)
    rintro r ⟨y8,y9,y18,y19,k1,e1,h1⟩
    exact ⟨y8,y9,y18,y19,hkp.trans k1,e1,h1⟩
   | false =>
    rw [hnx] at hh hst
    cases hhi : hiF p t with
    | true =>
     rw [hhi] at c43 hst
     simp only [Bool.not_false,Bool.true_and,if_true] at hst
     have ih := loop30a hpn hx hy ho hf hll x3 x4 x5 x7 x10 x11 x12 x13 x14 x15 x16 k (m + 1) (seen ++ [z.1]) S1 (.iv (.int .i64 t)) (.iv (.bool false)) (.iv (.bool true)) (.iv (.bool true)) (by omega) (by unfold badT at *; omega) hP' hb' hm'
     unfold badT at ih ⊢
     rw [show ((m + 1 : Nat) : Int) = (m : Int) + 1 by omega,Nat.add_assoc,Nat.add_comm 1,← hst] at ih
     unfold env30 at ih
     simp (config := { maxSteps := 4000000 }) (disch := omega) only [go_sem,he,b1,b2,i1,s1,hx1,hh,c43,wrap_i64]
     refine all_er (Out.all_mono ?_ ih)
     rintro r ⟨y8,y9,y18,y19,k1,e1,h1⟩
     exact ⟨y8,y9,y18,y19,hkp.trans k1,e1,h1⟩
    | false =>
     rw [hhi] at c43 hst
     simp only [Bool.and_false,Bool.false_eq_true,if_false,Nat.add_zero] at hst
     have ih := loop30a hpn hx hy ho hf hll x3 x4 x5 x7 x10 x11 x12 x13 x14 x15 x16 k m (seen ++ [z.1]) S1 (.iv (.int .i64 t)) (.iv (.bool false)) (.iv (.bool true)) (.iv (.bool false)) (by omega) (by unfold badT; omega) hP' hb' hm'
     unfold badT at ih ⊢
     rw [← hst] at ih
     unfold env30 at ih
     simp (config := { maxSteps := 4000000 }) (disch := omega) only [go_sem,he,b1,b2,i1,s1,hx1,hh,c43]
     refine all_er (Out.all_mono ?_ ih)
     rintro r ⟨y8,y9,y18,y19,k1,e1,h1⟩
     exact ⟨y8,y9,y18,y19,hkp.trans k1,e1,h1⟩
def safeF (p : Pn) (x y : Nat) : Bool :=
 if x < 32 then !((List.range p.n).any fun t => p.near y t && badT p x t) else decide (deg p.n (fun t => p.near x t && hiF p t) + deg p.n (fun t => p.near y t && badT p x t) < 24)
theorem keep_new {S S' : Store} {b : Block} (k : Keep [S.length] (S ++ [b]) S') : Keep [] S S' :=
 ⟨by have := k.len; simp at this; omega,fun i x _ hx => k.get i x (by have := lt_get hx; simp; omega) (by rw [List.getElem?_append_left (lt_get hx)]; exact hx)⟩
theorem deg_le (n : Nat) (f : Nat → Bool) : deg n f ≤ n := by
 have := List.length_filter_le f (List.range n)
 simpa [deg] using this
theorem call30 {S : Store} {a : Ad} {p : Pn} (h : PT S a p) (hpn : p.n ≤ 1000000) {x y : Nat} (hx : x < p.n) (hy : y < p.n) :
  ((lim K).call 30 [.ptr a.ip 44 0,.iv (.int .i64 x),.iv (.int .i64 y)] S).All fun r => r.1 = .iv (.bool (safeF p x y)) ∧ Keep [] S r.2 := by
 obtain ⟨ly,cy,hy1,hy2,hy3⟩ := h.nmap y hy
 obtain ⟨lx,cx,hx1,hx2,hx3⟩ := h.nmap x hx
 have b1 := h.blk
 have b2 := h.near
 have i1 := ix_cF (j := a.jn) (v := a.vn) hx
 have s1 := sub_cF (fun r => TV.map (a.nm r)) hx
 have i2 := ix_cF (j := a.jn) (v := a.vn) hy
 have s2 := sub_cF (fun r => TV.map (a.nm r)) hy
 simp only [pcells] at b1
 refine call_all' K _ (fn := t30) rfl rfl ?_
 by_cases h32 : x < 32
 ·have ry := rangeV_map hy1
  have k1 := Keep.app [] S [Block.mit (some (a.nm y)) cy [] cy]
  have l1 := loop30c hx hy hy2 hy3 (.tup []) (.tup []) (.tup []) (.tup []) (.iv (.bool true)) (.tup []) (.tup []) (.tup []) (.tup []) (.tup []) (.tup []) (left ly [] + 1) [] (S ++ [.mit (some (a.nm y)) cy [] cy]) (.tup []) (.tup []) (.tup []) (.tup []) (by omega) (h.keep k1) (get_app1 _ _) (k1.get _ _ (by simp) hy1)
  unfold env30 at l1
  simp (config := { maxSteps := 4000000 }) (disch := omega) only [t30,go_sem,TM.undef,h32,b1,b2,i2,s2,ry]
  refine fin_goL_all l1 ?_
  rintro j e S' ⟨y4,y5,y12,y13,hk,he,hj⟩
  dsimp only at he hj hk
  subst he
  have hs : ∀ b,safeF p x y = b ↔ (!((List.range p.n).any fun t => p.near y t && badT p x t)) = b := fun b => by rw [safeF,if_pos h32]
  rcases hj with ⟨rfl,hj⟩ | ⟨rfl,z,hz,hj⟩
  ·simp (config := { maxSteps := 4000000 }) (disch := omega) only [go_sem]
   refine all_ret ⟨?_,keep_new hk⟩
   have : safeF p x y = true := by
    rw [hs,Bool.not_eq_true',List.any_eq_false]
    intro t ht
    rw [List.mem_range] at ht
    cases hn : p.near y t with
    | false => simp
    | true =>
     obtain ⟨z,hz,hzt⟩ := List.mem_map.1 (hasR_iff.1 ((has_at hy3 ht).trans hn))
     have := hj z hz (by simp)
     rw [hzt,Int.toNat_natCast] at this
     simp [this]
   rw [this]
  ·simp (config := { maxSteps := 4000000 }) (disch := omega) only [go_sem]
   refine all_ret ⟨?_,keep_new hk⟩
   have : safeF p x y = false := by
    rw [hs,Bool.not_eq_false',List.any_eq_true]
    obtain ⟨t,ht,htn,htf⟩ := key_at hy3 hz
    rw [ht,Int.toNat_natCast] at hj
    exact ⟨t,List.mem_range.2 htn,by simp [htf,hj]⟩
   rw [this]
 ·have rx := rangeV_map hx1
  have dx := rows_deg hx2 hx3
  have dy := rows_deg hy2 hy3
  have lx1 := deg_le p.n (p.near x)
  have ly1 := deg_le p.n (p.near y)
  have ex := cntU_all hx2 hx3 (hiF p)
  have ey := cntU_all hy2 hy3 (badT p x)
  have ex1 := deg_le p.n (fun t => p.near x t && hiF p t)
  have ey1 := deg_le p.n (fun t => p.near y t && badT p x t)
  have k1 := Keep.app [] S [Block.mit (some (a.nm x)) cx [] cx]
  have l1 := loop30b (by omega) (y := y) hx hx2 hx3 (by omega) (.iv (.bool false)) (.tup []) (.tup []) (.tup []) (.tup []) (.iv (.bool false)) (.tup []) (.tup []) (.tup []) (.tup []) (.tup []) (.tup []) (left lx [] + 1) 0 [] (S ++ [.mit (some (a.nm x)) cx [] cx]) (.tup []) (.tup []) (.tup []) (by omega) (by omega) (h.keep k1) (get_app1 _ _) (k1.get _ _ (by simp) hx1)
  rw [Nat.zero_add,show ((0 : Nat) : Int) = 0 from rfl,ex] at l1
  unfold env30 at l1
  simp (config := { maxSteps := 4000000 }) (disch := omega) only [t30,go_sem,TM.undef,h32,b1,b2,i1,s1,rx]
  refine fin_goL_all l1 ?_
  rintro j e S1 ⟨y7,y15,y16,hk,he,hj⟩
  dsimp only at he hj hk
  subst he hj
  have hk0 := keep_new hk
  have h1 := h.keep hk0
  have b1' := h1.blk
  have b2' := h1.near
  simp only [pcells] at b1'
  have hy1' := hk0.get _ _ (by simp) hy1
  have ry := rangeV_map hy1'
  have k2 := Keep.app [] S1 [Block.mit (some (a.nm y)) cy [] cy]
  have l2 := loop30a (by omega) hx hy hy2 hy3 (by omega) (.iv (.bool false)) (.tup []) (.tup []) y7 (.iv (.bool false)) (.tup []) (.tup []) (.tup []) (.it S.length) y15 y16 (left ly [] + 1) (deg p.n fun t => p.near x t && hiF p t) [] (S1 ++ [.mit (some (a.nm y)) cy [] cy]) (.tup []) (.tup []) (.tup []) (.tup []) (by omega) (by omega) (h1.keep k2) (get_app1 _ _) (k2.get _ _ (by simp) hy1')
  rw [ey] at l2
  unfold env30 at l2
  simp (config := { maxSteps := 4000000 }) (disch := omega) only [go_sem,b1',b2',i2,s2,ry]
  refine fin_goL_all l2 ?_
  rintro j e S2 ⟨y8,y9,y18,y19,hk2,he,hj⟩
  dsimp only at he hj hk2
  subst he hj
  simp (config := { maxSteps := 4000000 }) (disch := omega) only [go_sem]
  refine all_ret ⟨?_,hk0.trans (keep_new hk2)⟩
  rw [safeF,if_neg h32]
  exact congrArg (fun b => TV.iv (.bool b)) (decide_eq_decide.2 (by omega))
structure KpX (I : List Nat) (S S' : Store) : Prop where
 len : S.length ≤ S'.length
 get : ∀ i b,S[i]? = some b → i ∉ I → (∀ es c,b ≠ .mp es c) → S'[i]? = some b
theorem KpX.trans {I : List Nat} {S S' S'' : Store} (h : KpX I S S') (g : KpX I S' S'') : KpX I S S'' :=
 ⟨Nat.le_trans h.len g.len,fun i x hx hi hn => g.get i x (h.get i x hx hi hn) hi hn⟩
theorem KpX.refl (I : List Nat) (S : Store) : KpX I S S := ⟨Nat.le_refl _,fun _ _ h _ _ => h⟩
theorem KpX.mono {I J : List Nat} {S S' : Store} (h : KpX I S S') (hj : ∀ i ∈ I,i ∈ J) : KpX J S S' := ⟨h.len,fun i b hb hi hn => h.get i b hb (fun e => hi (hj i e)) hn⟩
theorem KpX.keep {I J : List Nat} {S S' : Store} (k : Keep I S S') (hI : ∀ i ∈ I,i ∈ J ∨ ∃ es c,S[i]? = some (.mp es c)) : KpX J S S' :=
 ⟨k.len,fun i b hb hj hn => k.get i b (fun hi => by
  rcases hI i hi with h | ⟨es,c,h1⟩
  ·exact hj h
  ·rw [hb] at h1; exact hn es c (Option.some.inj h1)) hb⟩
theorem KpX.toG {a : Ad} {S S' : Store} (h : KpX a.own S S') : KpG a S S' := ⟨h.len,h.get⟩
theorem KpX.new {I : List Nat} {S S' : Store} {b : Block} (k : KpX (S.length :: I) (S ++ [b]) S') : KpX I S S' :=
 ⟨by have := k.len; simp at this; omega,fun i x hx hi hn => k.get i x (by rw [List.getElem?_append_left (lt_get hx)]; exact hx) (by have := lt_get hx; simp only [List.mem_cons,not_or]; exact ⟨by omega,hi⟩) hn⟩
theorem upd_comp {α β : Type} (g : α → β) (f : Nat → α) (i : Nat) (x : α) : upd (fun r => g (f r)) i (g x) = fun r => g (upd f i x r) := by
 funext r; unfold upd; split <;> rfl
theorem PT.congr {S : Store} {a : Ad} {p : Pn} (h : PT S a p) {f : Nat → Nat → Bool} (hf : ∀ r s,r < p.n → s < p.n → p.near r s = f r s) : PT S a { p with near := f } :=
 ⟨h.blk,h.near,h.own,h.to,h.out,fun r hr => by
  obtain ⟨l,c,h1,h2,h3⟩ := h.nmap r hr
  refine ⟨l,c,h1,h2,fun t => (h3 t).trans ⟨?_,?_⟩⟩
  ·rintro ⟨s,e,h4,h5⟩; exact ⟨s,e,h4,by show f r s = true; rw [← hf r s hr h4]; exact h5⟩
  ·rintro ⟨s,e,h4,h5⟩; exact ⟨s,e,h4,by rw [hf r s hr h4]; exact h5⟩,h.omap,h.ninj,h.oinj,h.dis,h.nd⟩
theorem PT.setTo {S : Store} {a : Ad} {p : Pn} (h : PT S a p) (y x : Nat) : PT (S.set a.jt (.cells a.vt true (cF p.n (upd (fun r => nI (p.to r)) y (nI x))))) a { p with to := upd p.to y x } := by
 have hd := h.nd
 simp only [List.nodup_cons,List.mem_cons,List.not_mem_nil,or_false,not_or] at hd
 obtain ⟨⟨d1,d2,d3,d4⟩,⟨d5,d6,d7⟩,⟨d8,d9⟩,d10,_⟩ := hd
 refine ⟨?_,?_,?_,?_,?_,fun s hs => ?_,fun s hs => ?_,h.ninj,h.oinj,h.dis,h.nd⟩
 ·rw [get_setN (Ne.symm d3)]; exact h.blk
 ·rw [get_setN (Ne.symm d6)]; exact h.near
 ·rw [get_setN (Ne.symm d8)]; exact h.own
 ·rw [get_setS (lt_get h.to),upd_comp nI]
 ·rw [get_setN d10]; exact h.out
 ·obtain ⟨l,c,h1,h2,h3⟩ := h.nmap s hs
  exact ⟨l,c,by rw [get_setN (Ne.symm (blk_ne h1 h.to (by simp)))]; exact h1,h2,h3⟩
 ·obtain ⟨l,c,h1,h2,h3⟩ := h.omap s hs
  exact ⟨l,c,by rw [get_setN (Ne.symm (blk_ne h1 h.to (by simp)))]; exact h1,h2,h3⟩
theorem PT.setOut {S : Store} {a : Ad} {p : Pn} (h : PT S a p) (y : Nat) (x : Int) : PT (S.set a.ju (.cells 0 false (cF p.n (upd (fun r => vI (p.out r)) y (vI x))))) a { p with out := upd p.out y x } := by
 have hd := h.nd
 simp only [List.nodup_cons,List.mem_cons,List.not_mem_nil,or_false,not_or] at hd
 obtain ⟨⟨d1,d2,d3,d4⟩,⟨d5,d6,d7⟩,⟨d8,d9⟩,d10,_⟩ := hd
 refine ⟨?_,?_,?_,?_,?_,fun s hs => ?_,fun s hs => ?_,h.ninj,h.oinj,h.dis,h.nd⟩
 ·rw [get_setN (Ne.symm d4)]; exact h.blk
 ·rw [get_setN (Ne.symm d7)]; exact h.near
 ·rw [get_setN (Ne.symm d9)]; exact h.own
 ·rw [get_setN (Ne.symm d10)]; exact h.to
 ·rw [get_setS (lt_get h.out),upd_comp vI]
 ·obtain ⟨l,c,h1,h2,h3⟩ := h.nmap s hs
  exact ⟨l,c,by rw [get_setN (Ne.symm (blk_ne h1 h.out (by simp)))]; exact h1,h2,h3⟩
 ·obtain ⟨l,c,h1,h2,h3⟩ := h.omap s hs
  exact ⟨l,c,by rw [get_setN (Ne.symm (blk_ne h1 h.out (by simp)))]; exact h1,h2,h3⟩
theorem PT.newN {S : Store} {a : Ad} {p : Pn} (h : PT S a p) (y : Nat) (hy : y < p.n) : PT ((S ++ [Block.mp [] 0]).set a.jn (.cells a.vn true (cF p.n (upd (fun r => TV.map (a.nm r)) y (.map S.length))))) { a with nm := upd a.nm y S.length } { p with near := upd p.near y fun _ => false } := by
 have h' := h.keep (Keep.app [] S [Block.mp [] 0])
 have hd := h.nd
 simp only [List.nodup_cons,List.mem_cons,List.not_mem_nil,or_false,not_or] at hd
 obtain ⟨⟨d1,d2,d3,d4⟩,⟨d5,d6,d7⟩,⟨d8,d9⟩,d10,_⟩ := hd
 have hlt : ∀ r,r < p.n → a.nm r < S.length := fun r hr => by obtain ⟨l,c,h1,_⟩ := h.nmap r hr; exact lt_get h1
 have hlo : ∀ r,r < p.n → a.om r < S.length := fun r hr => by obtain ⟨l,c,h1,_⟩ := h.omap r hr; exact lt_get h1
 refine ⟨?_,?_,?_,?_,?_,fun s hs => ?_,fun s hs => ?_,fun r s hr hs e => ?_,h.oinj,fun r s hr hs => ?_,h.nd⟩
 ·rw [get_setN (Ne.symm d1)]; exact h'.blk
 ·rw [get_setS (lt_get h'.near),upd_comp TV.map]
 ·rw [get_setN d5]; exact h'.own
 ·rw [get_setN d6]; exact h'.to
 ·rw [get_setN d7]; exact h'.out
 ·by_cases e : s = y
  ·subst e
   refine ⟨[],0,?_,RowsOK.nil 0,fun t => ?_⟩
   ·have : a.jn ≠ S.length := by have := lt_get h.near; omega
    simp only [upd_same]
    rw [get_setN this]; exact get_app1 ..
   ·simp [upd_same,hasR,getR]
  ·obtain ⟨l,c,h1,h2,h3⟩ := h'.nmap s hs
   simp only [upd_ne _ _ e]
   exact ⟨l,c,by rw [get_setN (Ne.symm (blk_ne h1 h'.near (by simp)))]; exact h1,h2,h3⟩
 ·obtain ⟨l,c,h1,h2,h3⟩ := h'.omap s hs
  exact ⟨l,c,by rw [get_setN (Ne.symm (blk_ne h1 h'.near (by simp)))]; exact h1,h2,h3⟩
 ·have h1 := hlt r hr
  have h2 := hlt s hs
  simp only [upd] at e
  split at e <;> split at e
  ·rename_i e1 e2; rw [e1,e2]
  ·omega
  ·omega
  ·exact h.ninj r s hr hs e
 ·have h1 := hlo s hs
  simp only [upd]
  split
  ·omega
  ·exact h.dis r s hr hs
def midN (f : Nat → Nat → Bool) (x y : Nat) (D : Nat → Bool) (r s : Nat) : Bool :=
 if r = y then f y s else if s = y then (f r y && !D r) else (f r s || (decide (r = x) && D s) || (decide (s = x) && D r))
theorem midN_none (f : Nat → Nat → Bool) (x y : Nat) : midN f x y (fun _ => false) = f := by
 funext r s
 unfold midN
 split
 ·rename_i e; rw [e]
 ·split
  ·rename_i e; rw [e]; simp
  ·simp
theorem midN_step (f : Nat → Nat → Bool) {x y t : Nat} (D : Nat → Bool) (hxy : x ≠ y) (htx : t ≠ x) (hty : t ≠ y) (hf : f y t = true) (g : Nat → Bool) (hg : ∀ s,g s = (decide (s ≠ y) && midN f x y D t s)) : link (upd (midN f x y D) t g) x t = midN f x y (upd D t true) := by
 funext r s
 rw [link_at _ (Ne.symm htx)]
 unfold upd
 by_cases hrt : r = t
 ·subst hrt
  rw [if_pos rfl,hg]
  unfold midN
  simp only [hty,htx,if_false,if_true,decide_false,Bool.false_and,Bool.or_false,Bool.and_true,false_and,Bool.false_or,true_and,Bool.not_true,Bool.and_false]
  by_cases hs : s = y
  ·subst hs; simp [Ne.symm hxy]
  ·by_cases hsx : s = x
   ·subst hsx; simp [hs]
   ·simp [hs,hsx]
 ·rw [if_neg hrt]
  unfold midN
  by_cases hry : r = y
  ·subst hry
   simp [Ne.symm hxy,Ne.symm hty]
  ·simp only [hry,if_false]
   by_cases hs : s = y
   ·subst hs
    simp [hrt,Ne.symm hty]
   ·simp only [hs,if_false]
    by_cases hrx : r = x
    ·subst hrx
     by_cases hst : s = t
     ·subst hst; simp
     ·simp [hst,hrt]
    ·by_cases hst : s = t
     ·subst hst; simp [hrx,hrt]
     ·simp [hrx,hst,hrt]
theorem MapOf.del {S : Store} {i n : Nat} {f : Nat → Bool} {l : List (Nat × Int × Int)} {c : Nat} (h1 : S[i]? = some (.mp (mpR vI l) c)) (h2 : RowsOK l c) (h3 : ∀ t : Int,hasR l t = true ↔ ∃ s : Nat,t = s ∧ s < n ∧ f s = true) (k : Nat) :
  MapOf (S.set i (.mp (mpR vI (delR l k)) c)) i n (fun s => decide (s ≠ k) && f s) := by
 refine ⟨_,_,get_setS (lt_get h1) _,h2.del k,fun t => ?_⟩
 rw [hasR_del h2.keys,Bool.and_eq_true,h3 t]
 constructor
 ·rintro ⟨h,s,rfl,h4,h5⟩
  refine ⟨s,rfl,h4,?_⟩
  have : s ≠ k := by have := of_decide_eq_true h; omega
  simp [this,h5]
 ·rintro ⟨s,rfl,h4,h5⟩
  simp only [Bool.and_eq_true,decide_eq_true_eq] at h5
  exact ⟨by have := h5.1; simp; omega,s,rfl,h4,h5.2⟩
theorem loop31 {a : Ad} {p : Pn} (hpn : p.n ≤ 1000000000) {x y : Nat} (hx : x < p.n) (hy : y < p.n) (hxy : x ≠ y) (hnx : p.near y x = false) (hny : p.near y y = false) {bi c : Nat} {l : List (Nat × Int × Int)} (ho : RowsOK l c) (hf : ∀ t : Int,hasR l t = true ↔ ∃ s : Nat,t = s ∧ s < p.n ∧ p.near y s = true) :
  ∀ (k : Nat) (seen : List Nat) (D : Nat → Bool) (S : Store) (x3 x5 : TV),left l seen < k → (∀ z ∈ l,z.1 ∈ seen → D z.2.1.toNat = true) → (∀ s,D s = true → p.near y s = true) → PT S a { p with near := midN p.near x y D } → S[bi]? = some (.mit (some (a.nm y)) c seen c) → S[a.nm y]? = some (.mp (mpR vI l) c) →
  (lp' (lim K) t31L0 [.ptr a.ip 44 0,.iv (.int .i64 x),.iv (.int .i64 y),x3,.it bi,x5] S).All fun r => ∃ y3 y5,KpX [bi] S r.2.2 ∧
   r.2.1 = [.ptr a.ip 44 0,.iv (.int .i64 x),.iv (.int .i64 y),y3,.it bi,y5] ∧ r.1 = .exit 0 ∧ PT r.2.2 a { p with near := midN p.near x y (p.near y) }
 | 0,seen,D,S,x3,x5,hk,hD1,hD2,hP,hb,hm => by omega
 | k + 1,seen,D,S,x3,x5,hk,hD1,hD2,hP,hb,hm => by
  refine lp_all t31L0.eq_1 ?_
  simp (config := { maxSteps := 4000000 }) (disch := omega) only [go_sem]
  refine rnd_next_all hb hm ho.born (Nat.le_refl _) (fun hall => ?_) (fun z hz hs => ?_)
  ·simp (config := { maxSteps := 4000000 }) (disch := omega) only [go_sem]
   refine all_ret ⟨_,_,.refl _ _,rfl,rfl,hP.congr fun r s hr hs => ?_⟩
   have hDe : ∀ t,t < p.n → D t = p.near y t := by
    intro t ht
    cases hn : p.near y t with
    | true =>
     obtain ⟨z,hz,hzt⟩ := List.mem_map.1 (hasR_iff.1 ((has_at hf ht).trans hn))
     have := hD1 z hz (hall z hz)
     rwa [hzt,Int.toNat_natCast] at this
    | false =>
     cases hd : D t with
     | false => rfl
     | true => rw [hD2 t hd] at hn; cases hn
   show midN p.near x y D r s = midN p.near x y (p.near y) r s
   unfold midN
   rw [hDe r hr,hDe s hs]
  ·have hlt := left_lt hz hs
   have hbm : bi ≠ a.nm y := blk_ne hb hm (by simp)
   have hP' := hP.setIt hb (.mit (some (a.nm y)) c (seen ++ [z.1]) c)
   have hb' : (S.set bi (.mit (some (a.nm y)) c (seen ++ [z.1]) c))[bi]? = _ := get_setS (lt_get hb) _
   have hm' : (S.set bi (.mit (some (a.nm y)) c (seen ++ [z.1]) c))[a.nm y]? = some (.mp (mpR vI l) c) := by rw [get_setN hbm]; exact hm
   have he := enV_it hb' hm' hz ho.once
   have hkp : KpX [bi] S (S.set bi (.mit (some (a.nm y)) c (seen ++ [z.1]) c)) := KpX.keep (Keep.set (I := [bi]) _ (by simp) _) (by simp)
   generalize S.set bi (.mit (some (a.nm y)) c (seen ++ [z.1]) c) = S1 at *
   obtain ⟨t,ht,htn,htf⟩ := key_at hf hz
   have htx : t ≠ x := fun e => by rw [e,hnx] at htf; cases htf
   have hty : t ≠ y := fun e => by rw [e,hny] at htf; cases htf
   obtain ⟨lt,ct,ht1,ht2,ht3⟩ := hP'.nmap t htn
   have hdl := MapOf.del ht1 ht2 ht3 y
   have hP2 := hP'.setN htn hdl
   have hnt : a.nm t ≠ a.nm y := fun e => hty (hP.ninj _ _ htn hy e)
   have hbt : bi ≠ a.nm t := blk_ne hb' ht1 (by simp)
   have hk2 : Keep [a.nm t] S1 (S1.set (a.nm t) (.mp (mpR vI (delR lt y)) ct)) := Keep.set _ (by simp) _
   have hdv := fun env => dl_map ht1 env (y : Int)
   obtain ⟨S3,c28,hP3,hk3⟩ := call28 hP2 hpn (x := x) (y := t) hx htn (Ne.symm htx)
   have hst := midN_step p.near D hxy htx hty htf (fun s => decide (s ≠ y) && midN p.near x y D t s) (fun _ => rfl)
   have hP4 : PT S3 a { p with near := midN p.near x y (upd D t true) } := by
    have := hP3
    simp only [hst] at this
    exact this
   have hxm : a.nm x ≠ a.nm y := fun e => hxy (hP.ninj _ _ hx hy e)
   have hb3 : S3[bi]? = some (.mit (some (a.nm y)) c (seen ++ [z.1]) c) := hk3.get _ _ (by
    obtain ⟨lx,cx,hx1,_⟩ := hP'.nmap x hx
    simp only [List.mem_cons,List.not_mem_nil,or_false,not_or]
    exact ⟨blk_ne hb' hx1 (by simp),hbt⟩) (by rw [get_setN (Ne.symm hbt)]; exact hb')
   have hm3 : S3[a.nm y]? = some (.mp (mpR vI l) c) := hk3.get _ _ (by simp [Ne.symm hxm,Ne.symm hnt]) (by rw [get_setN hnt]; exact hm')
   have hk4 : KpX [bi] S1 S3 := (KpX.keep hk2 (fun i hi => by simp only [List.mem_cons,List.not_mem_nil,or_false] at hi; subst hi; exact .inr ⟨_,_,ht1⟩)).trans (KpX.keep hk3 (fun i hi => by
    simp only [List.mem_cons,List.not_mem_nil,or_false] at hi
    right
    rcases hi with rfl | rfl
    ·obtain ⟨lx,cx,hx1,_⟩ := hP2.nmap x hx; exact ⟨_,_,hx1⟩
    ·obtain ⟨lx,cx,hx1,_⟩ := hP2.nmap t htn; exact ⟨_,_,hx1⟩))
   have ih := loop31 hpn hx hy hxy hnx hny ho hf k (seen ++ [z.1]) (upd D t true) S3 (.iv (.int .i64 t)) (.iv (.bool true)) (by omega) (fun w hw hws => by
    unfold upd
    split
    ·rfl
    ·rename_i e
     rcases List.mem_append.1 hws with h1 | h1
     ·exact hD1 w hw h1
     ·have : w = z := nodup_eq ho.once hw hz (by simpa using h1)
      rw [this,ht,Int.toNat_natCast] at e
      exact absurd rfl e) (fun s hs => by
    unfold upd at hs
    split at hs
    ·rename_i e; rw [e]; exact htf
    ·exact hD2 s hs) hP4 hb3 hm3
   have b1 := hP'.blk
   have b2 := hP'.near
   have i1 := ix_cF (j := a.jn) (v := a.vn) htn
   have s1 := sub_cF (fun r => TV.map (a.nm r)) htn
   simp only [pcells] at b1
   rw [ht] at he
   rw [ht]
   simp (config := { maxSteps := 4000000 }) (disch := omega) only [go_sem,he,b1,b2,i1,s1,hdv,c28]
   refine all_er (Out.all_mono ?_ ih)
   rintro r ⟨y3,y5,k1,e1,h1,h2⟩
   exact ⟨y3,y5,hkp.trans (hk4.trans k1),e1,h1,h2⟩
def joinN (f : Nat → Nat → Bool) (x y : Nat) : Nat → Nat → Bool := upd (midN f x y (f y)) y fun _ => false
def joinP (p : Pn) (x y : Nat) : Pn := { p with to := upd p.to y x,near := joinN p.near x y }
theorem call31 {S : Store} {a : Ad} {p : Pn} (h : PT S a p) (hpn : p.n ≤ 1000000000) {x y : Nat} (hx : x < p.n) (hy : y < p.n) (hxy : x ≠ y) (hnx : p.near y x = false) (hny : p.near y y = false) :
  ((lim K).call 31 [.ptr a.ip 44 0,.iv (.int .i64 x),.iv (.int .i64 y)] S).All fun r => ∃ nm,r.1 = .tup [] ∧ KpG a S r.2 ∧ PT r.2 { a with nm := nm } (joinP p x y) := by
 have hP1 := h.setTo y x
 have b1 := h.blk
 have b2 := h.to
 have i1 := ix_cF (j := a.jt) (v := a.vt) hy
 have s1 := put_cF (fun r => nI (p.to r)) (nI x) hy
 have hk1 : KpX a.own S (S.set a.jt (.cells a.vt true (cF p.n (upd (fun r => nI (p.to r)) y (nI x))))) := KpX.keep (Keep.set (I := [a.jt]) _ (by simp) _) (by simp [Ad.own])
 obtain ⟨l,c,hy1,hy2,hy3⟩ := hP1.nmap y hy
 have b3 := hP1.blk
 have b4 := hP1.near
 have i2 := ix_cF (j := a.jn) (v := a.vn) hy
 have s2 := sub_cF (fun r => TV.map (a.nm r)) hy
 have ry := rangeV_map hy1
 refine call_all' K _ (fn := t31) rfl rfl ?_
 simp only [pcells] at b1 b3
 simp only [nI] at s1 b2 hP1 hy1 b3 b4 ry hk1
 generalize hS1 : S.set a.jt (.cells a.vt true (cF p.n (upd (fun r => TV.iv (.int .i64 (p.to r))) y (.iv (.int .i64 x))))) = S1 at *
 have k2 := Keep.app [] S1 [Block.mit (some (a.nm y)) c [] c]
 have hP2 := hP1.keep k2
 have l1 := loop31 (p := { p with to := upd p.to y x }) hpn hx hy hxy hnx hny hy2 hy3 (left l [] + 1) [] (fun _ => false) (S1 ++ [.mit (some (a.nm y)) c [] c]) (.tup []) (.tup []) (by omega) (by simp) (by simp) (by rw [midN_none]; exact hP2) (get_app1 _ _) (k2.get _ _ (by simp) hy1)
 simp (config := { maxSteps := 4000000 }) (disch := omega) only [t31,go_sem,TM.undef,b1,b2,i1,s1,hS1,b3,b4,i2,s2,ry]
 refine fin_goL_all l1 ?_
 rintro j e S2 ⟨y3,y5,hk,he,hj,hP3⟩
 dsimp only at he hj hk hP3
 subst he hj
 have hP4 := hP3.newN y hy
 have hP3' := hP3.keep (Keep.app [] S2 [Block.mp [] 0])
 have b5 := hP3'.blk
 have b6 := hP3'.near
 have b7 := hP3.blk
 have b8 := hP3.near
 have s3 := put_cF (fun r => TV.map (a.nm r)) (.map S2.length) hy
 simp only [pcells] at b5 b7
 simp (config := { maxSteps := 4000000 }) (disch := omega) only [go_sem,b5,b6,b7,b8,i2,s3]
 refine all_ret ⟨_,rfl,?_,hP4⟩
 have hk3 : KpX a.own S1 S2 := (KpX.mono (J := S1.length :: a.own) hk (by simp)).new
 exact ((hk1.trans hk3).trans ((KpX.keep (Keep.app [] S2 [Block.mp [] 0]) (by simp)).trans (KpX.keep (Keep.set (I := [a.jn]) _ (by simp) _) (by simp [Ad.own])))).toG
def vtx (n r : Nat) : Prop := r < n ∧ (1 ≤ r ∧ r ≤ 24 ∨ 32 ≤ r)
structure Inv (p : Pn) (ρ d : Nat → Nat) : Prop where
 uf : Uf p ρ d
 /-- neighbours are roots,of the graph,unlike,and both ways -/
 sym : ∀ r s,r < p.n → s < p.n → p.near r s = true → p.near s r = true
 irr : ∀ r,p.near r r = false
 root : ∀ r s,r < p.n → s < p.n → p.near r s = true → p.to r = r ∧ vtx p.n r
 img : ∀ r s,r < p.n → s < p.n → p.own r s = true → p.near (ρ r) (ρ s) = true
 mach : ∀ r,r < p.n → r < 32 → p.to r = r
 low : ∀ r,r < p.n → vtx p.n r → vtx p.n (ρ r)
def Part (p : Pn) : Prop := ∀ U : Nat → Bool,(∀ r,U r = true → 32 ≤ r ∧ r < p.n ∧ p.to r = r) → (∃ r,U r = true) → ∃ r,U r = true ∧ deg p.n (fun t => p.near r t && (decide (t < 32) || U t)) < 24
theorem deg_mono {n : Nat} {f g : Nat → Bool} (h : ∀ t,t < n → f t = true → g t = true) : deg n f ≤ deg n g := by
 unfold deg
 induction n with
 | zero => simp
 | succ n ih =>
  rw [List.range_succ,List.filter_append,List.filter_append,List.length_append,List.length_append]
  have h1 := ih (fun t ht => h t (by omega))
  have h2 := h n (by omega)
  cases hf : f n with
  | false => simp [List.filter_cons,hf]; omega
  | true => simp [List.filter_cons,hf,h2 hf]; exact h1
theorem deg_congr {n : Nat} {f g : Nat → Bool} (h : ∀ t,t < n → f t = g t) : deg n f = deg n g :=
 Nat.le_antisymm (deg_mono fun t ht hf => (h t ht) ▸ hf) (deg_mono fun t ht hf => by rw [h t ht]; exact hf)
theorem deg_or {n : Nat} (f g : Nat → Bool) : deg n (fun t => f t || g t) ≤ deg n f + deg n g := by
 unfold deg
 induction n with
 | zero => simp
 | succ n ih =>
  rw [List.range_succ,List.filter_append,List.filter_append,List.filter_append,List.length_append,List.length_append,List.length_append]
  cases hf : f n <;> cases hg : g n <;> simp [List.filter_cons,hf,hg] <;> omega
theorem deg_swap {n : Nat} {f g : Nat → Bool} {x y : Nat} (hy : y < n) (hxy : x ≠ y) (hfy : f y = true) (hfx : f x = false) (hgy : g y = false) (h : ∀ t,t < n → t ≠ x → t ≠ y → g t = true → f t = true) : deg n g ≤ deg n f := by
 have h1 : deg n g ≤ deg n (fun t => (decide (t ≠ y) && f t) || decide (t = x)) := deg_mono fun t ht hg => by
  by_cases e1 : t = x
  ·simp [e1]
  ·have e2 : t ≠ y := fun e => by rw [e,hgy] at hg; cases hg
   simp [e2,h t ht e1 e2 hg]
 have h2 := deg_or (n := n) (fun t => decide (t ≠ y) && f t) (fun t => decide (t = x))
 have h3 : deg n (fun t => decide (t = x)) ≤ 1 := by
  unfold deg
  have : ∀ m,((List.range m).filter fun t => decide (t = x)).length ≤ if x < m then 1 else 0 := by
   intro m
   induction m with
   | zero => simp
   | succ m ih =>
    rw [List.range_succ,List.filter_append,List.length_append]
    by_cases e : m = x
    ·subst e
     rw [if_neg (by omega)] at ih
     simp [List.filter_cons]; simpa using ih
    ·have hm : ((List.filter (fun t => decide (t = x)) [m])).length = 0 := by simp [List.filter_cons,e]
     rw [hm]
     by_cases hx : x < m
     ·rw [if_pos hx] at ih; rw [if_pos (by omega)]; omega
     ·rw [if_neg hx] at ih; split <;> omega
  have := this n
  split at this <;> omega
 have h4 : deg n (fun t => decide (t ≠ y) && f t) + 1 ≤ deg n f := by
  unfold deg
  have hlt : ((List.range n).filter fun t => decide (t ≠ y) && f t).length < ((List.range n).filter f).length :=
   filt_lt (p := f) (q := fun t => decide (t ≠ y) && f t) (fun a h => by simp at h; exact h.2) (List.mem_range.2 hy) hfy (by simp)
  omega
 omega
theorem joinN_y (f : Nat → Nat → Bool) (x y s : Nat) : joinN f x y y s = false := by simp [joinN,upd]
theorem joinN_at (f : Nat → Nat → Bool) {x y : Nat} {r : Nat} (s : Nat) (hr : r ≠ y) (hs : s ≠ y) : joinN f x y r s = (f r s || (decide (r = x) && f y s) || (decide (s = x) && f y r)) := by
 simp [joinN,upd,hr,midN,hs]
theorem joinN_to {f : Nat → Nat → Bool} {x y : Nat} {r : Nat} (hr : r ≠ y) (hf : f r y = true → f y r = true) : joinN f x y r y = false := by
 simp only [joinN,upd,hr,if_false,midN,if_true]
 cases h : f r y with
 | false => rfl
 | true => simp [hf h]
theorem Inv.rt {p : Pn} {ρ d : Nat → Nat} (h : Inv p ρ d) {r : Nat} (hr : r < p.n) : ρ r < p.n ∧ p.to (ρ r) = ρ r := h.uf.root (d r + 1) r (by omega) hr
theorem Inv.nsym {p : Pn} {ρ d : Nat → Nat} (h : Inv p ρ d) {r s : Nat} (hr : r < p.n) (hs : s < p.n) (hn : p.near r s = false) : p.near s r = false := by
 cases e : p.near s r with
 | false => rfl
 | true => rw [h.sym s r hs hr e] at hn; cases hn
theorem degJ {p : Pn} {ρ d : Nat → Nat} (h : Inv p ρ d) {x y v : Nat} (hx : x < p.n) (hy : y < p.n) (hv : v < p.n) (hxy : x ≠ y) (hvx : v ≠ x) (hvy : v ≠ y) : deg p.n (joinN p.near x y v) ≤ deg p.n (p.near v) := by
 have hto : joinN p.near x y v y = false := joinN_to hvy (h.sym v y hv hy)
 have hat : ∀ s,s ≠ y → joinN p.near x y v s = (p.near v s || (decide (s = x) && p.near y v)) := fun s hs => by rw [joinN_at p.near s hvy hs]; simp [hvx]
 cases hyv : p.near y v with
 | false =>
  refine deg_mono fun t ht hg => ?_
  by_cases e : t = y
  ·rw [e,hto] at hg; cases hg
  ·rw [hat t e,hyv] at hg; simpa using hg
 | true =>
  have hvy' := h.sym y v hy hv hyv
  cases hvx' : p.near v x with
  | true =>
   refine deg_mono fun t ht hg => ?_
   by_cases e : t = y
   ·rw [e,hto] at hg; cases hg
   ·rw [hat t e] at hg
    by_cases e2 : t = x
    ·rw [e2]; exact hvx'
    ·simpa [e2] using hg
  | false =>
   refine deg_swap hy hxy hvy' hvx' hto fun t ht e2 e hg => ?_
   rw [hat t e] at hg
   simpa [e2] using hg
theorem part_join {p : Pn} {ρ d : Nat → Nat} (h : Inv p ρ d) {x y : Nat} (hx : x < p.n) (hy : y < p.n) (hxy : x ≠ y) (hy32 : 32 ≤ y) (hn : p.near x y = false) (hs : safeF p x y = true) (hp : Part p) : Part (joinP p x y) := by
 intro U hU hne
 have hyx := h.nsym hx hy hn
 have hUy : U y = false := by
  cases e : U y with
  | false => rfl
  | true =>
   have := (hU y e).2.2
   simp only [joinP,upd_same] at this
   exact absurd this hxy
 have hUr : ∀ r,U r = true → 32 ≤ r ∧ r < p.n ∧ p.to r = r ∧ r ≠ y := fun r hr => by
  have hry : r ≠ y := fun e => by rw [e,hUy] at hr; cases hr
  obtain ⟨h1,h2,h3⟩ := hU r hr
  simp only [joinP,upd_ne _ _ hry] at h3
  exact ⟨h1,h2,h3,hry⟩
 obtain ⟨r0,hr0,hd0⟩ := hp U (fun r hr => ⟨(hUr r hr).1,(hUr r hr).2.1,(hUr r hr).2.2.1⟩) hne
 apply Classical.byContradiction
 intro hno
 have hall : ∀ r,U r = true → 24 ≤ deg p.n (fun t => joinN p.near x y r t && (decide (t < 32) || U t)) := by
  intro r hr
  apply Classical.byContradiction
  intro hlt
  exact hno ⟨r,hr,by simp only [joinP]; omega⟩
 have hsub : ∀ r,deg p.n (fun t => joinN p.near x y r t && (decide (t < 32) || U t)) ≤ deg p.n (joinN p.near x y r) := fun r => deg_mono fun t _ ht => by simp only [Bool.and_eq_true] at ht; exact ht.1
 have hat : ∀ v s,v ≠ x → v ≠ y → s ≠ y → joinN p.near x y v s = (p.near v s || (decide (s = x) && p.near y v)) := fun v s hvx hvy hs => by rw [joinN_at p.near s hvy hs]; simp [hvx]
 have hgy : ∀ t,(decide (t < 32) || U t) = true → t ≠ y := fun t ht e => by
  rw [e,hUy] at ht
  simp at ht; omega
 by_cases hx32 : x < 32
 ·have hxU : ∀ v,U v = true → v ≠ x := fun v hv e => by have := (hUr v hv).1; omega
  have key : ∀ v,U v = true → deg p.n (fun t => joinN p.near x y v t && (decide (t < 32) || U t)) = deg p.n (fun t => p.near v t && (decide (t < 32) || U t)) := by
   intro v hv
   obtain ⟨_,hvn,_,hvy⟩ := hUr v hv
   refine deg_congr fun t ht => ?_
   cases hg : (decide (t < 32) || U t) with
   | false => simp
   | true =>
    have hty := hgy t hg
    rw [hat v t (hxU v hv) hvy hty]
    cases hyv : p.near y v with
    | false => simp
    | true =>
     have hvx' : p.near v x = true := by
      have h1 := hs
      rw [safeF,if_pos hx32,Bool.not_eq_true',List.any_eq_false] at h1
      have h2 := h1 v (List.mem_range.2 hvn)
      cases hxv : p.near x v with
      | true => exact h.sym x v hx hvn hxv
      | false =>
       exfalso
       have hhi : hiF p v = false := by simpa [hyv,badT,hxv] using h2
       have hlow : deg p.n (p.near v) < 24 := by
        unfold hiF at hhi
        simp at hhi; omega
       have := hall v hv
       have := hsub v
       have := degJ h hx hy hvn hxy (hxU v hv) hvy
       omega
     by_cases e : t = x
     ·simp [e,hvx']
     ·simp [e]
  have h1 := hall r0 hr0
  rw [key r0 hr0] at h1
  omega
 ·cases hUx : U x with
  | false =>
   have hxU : ∀ v,U v = true → v ≠ x := fun v hv e => by rw [e,hUx] at hv; cases hv
   have key : ∀ v,U v = true → deg p.n (fun t => joinN p.near x y v t && (decide (t < 32) || U t)) = deg p.n (fun t => p.near v t && (decide (t < 32) || U t)) := by
    intro v hv
    obtain ⟨_,hvn,_,hvy⟩ := hUr v hv
    refine deg_congr fun t ht => ?_
    cases hg : (decide (t < 32) || U t) with
    | false => simp
    | true =>
     have hty := hgy t hg
     have htx : t ≠ x := fun e => by rw [e,hUx] at hg; simp at hg; omega
     rw [hat v t (hxU v hv) hvy hty]
     simp [htx]
   have h1 := hall r0 hr0
   rw [key r0 hr0] at h1
   omega
  | true =>
   have hxx := h.irr x
   have hatx : ∀ s,s ≠ y → joinN p.near x y x s = (p.near x s || p.near y s) := fun s hs => by
    rw [joinN_at p.near s hxy hs]
    by_cases e : s = x
    ·rw [e,hyx]; simp
    ·simp [e]
   have hex : ∃ t,t < p.n ∧ joinN p.near x y x t = true ∧ (decide (t < 32) || U t) = true ∧ hiF p t = false := by
    apply Classical.byContradiction
    intro hno2
    have h1 := hall x hUx
    have h2 : deg p.n (fun t => joinN p.near x y x t && (decide (t < 32) || U t)) ≤ deg p.n (fun t => (p.near x t && hiF p t) || (p.near y t && badT p x t)) := by
     refine deg_mono fun t ht hg => ?_
     simp only [Bool.and_eq_true] at hg
     have hty := hgy t hg.2
     have hhi : hiF p t = true := by
      cases e : hiF p t with
      | true => rfl
      | false => exact absurd ⟨t,ht,hg.1,hg.2,e⟩ hno2
     have h3 := hg.1
     rw [hatx t hty] at h3
     unfold badT
     cases hxt : p.near x t with
     | true => simp [hhi]
     | false => rw [hxt] at h3; simp at h3; simp [hhi,h3]
    have h3 := deg_or (n := p.n) (fun t => p.near x t && hiF p t) (fun t => p.near y t && badT p x t)
    have h4 := hs
    rw [safeF,if_neg hx32] at h4
    have h5 := of_decide_eq_true h4
    omega
   obtain ⟨t,htn,hjt,hg,hhi⟩ := hex
   have hty := hgy t hg
   unfold hiF at hhi
   simp only [Bool.or_eq_false_iff,decide_eq_false_iff_not,Nat.not_lt,Nat.not_le] at hhi
   have hUt : U t = true := by
    have : ¬ t < 32 := by omega
    simpa [this] using hg
   have htx : t ≠ x := fun e => by
    rw [e,hatx x hxy,hxx,hyx] at hjt
    simp at hjt
   have h1 := hall t hUt
   have h2 := hsub t
   have h3 := degJ h hx hy htn hxy htx hty
   omega
theorem inv_join {p : Pn} {ρ d : Nat → Nat} (h : Inv p ρ d) {x y : Nat} (hx : x < p.n) (hy : y < p.n) (hxy : x ≠ y) (hy32 : 32 ≤ y) (hn : p.near x y = false) (hxr : p.to x = x) (hyr : p.to y = y) (hxv : vtx p.n x) :
  Inv (joinP p x y) (fun r => if ρ r = y then x else ρ r) (fun r => if ρ r = y then d r + d x + 1 else d r) := by
 have hyx := h.nsym hx hy hn
 have hρx := h.uf.fix x hx hxr
 have hρy := h.uf.fix y hy hyr
 have hny : ∀ r,r < p.n → r ≠ y → joinN p.near x y r y = false := fun r hr hry => joinN_to hry (h.sym r y hr hy)
 refine ⟨⟨fun r hr hne => ?_,fun r hr he => ?_⟩,fun r s hr hs hrs => ?_,fun r => ?_,fun r s hr hs hrs => ?_,fun r s hr hs hrs => ?_,fun r hr h32 => ?_,fun r hr hv => ?_⟩
 ·simp only [joinP] at hne hr ⊢
  by_cases e : r = y
  ·subst e
   simp only [upd_same,hρx,hρy,hxy,if_false,if_true]
   exact ⟨hx,trivial,by omega⟩
  ·simp only [upd_ne _ _ e] at hne ⊢
   obtain ⟨h1,h2,h3⟩ := h.uf.up r hr hne
   rw [h2]
   refine ⟨h1,rfl,?_⟩
   split <;> omega
 ·simp only [joinP] at he hr ⊢
  have e : r ≠ y := fun e => by rw [e,upd_same] at he; exact hxy he
  rw [upd_ne _ _ e] at he
  rw [h.uf.fix r hr he,if_neg e]
 ·simp only [joinP] at hrs hr hs ⊢
  by_cases e : r = y
  ·rw [e,joinN_y] at hrs; cases hrs
  by_cases e2 : s = y
  ·rw [e2,hny r hr e] at hrs; cases hrs
  rw [joinN_at _ _ e e2] at hrs
  rw [joinN_at _ _ e2 e]
  simp only [Bool.or_eq_true,Bool.and_eq_true,decide_eq_true_eq] at hrs ⊢
  rcases hrs with (h1 | ⟨h1,h2⟩) | ⟨h1,h2⟩
  ·exact .inl (.inl (h.sym r s hr hs h1))
  ·exact .inr ⟨h1,h2⟩
  ·exact .inl (.inr ⟨h1,h2⟩)
 ·simp only [joinP]
  by_cases e : r = y
  ·rw [e,joinN_y]
  ·rw [joinN_at _ _ e e,h.irr r]
   by_cases e2 : r = x
   ·simp [e2,hyx]
   ·simp [e2]
 ·simp only [joinP] at hrs hr hs ⊢
  by_cases e : r = y
  ·rw [e,joinN_y] at hrs; cases hrs
  rw [upd_ne _ _ e]
  by_cases e2 : s = y
  ·rw [e2,hny r hr e] at hrs; cases hrs
  rw [joinN_at _ _ e e2] at hrs
  simp only [Bool.or_eq_true,Bool.and_eq_true,decide_eq_true_eq] at hrs
  rcases hrs with (h1 | ⟨h1,h2⟩) | ⟨h1,h2⟩
  ·exact h.root r s hr hs h1
  ·rw [h1]; exact ⟨hxr,hxv⟩
  ·exact h.root r y hr hy (h.sym y r hy hr h2)
 ·simp only [joinP] at hrs hr hs ⊢
  have h1 := h.img r s hr hs hrs
  have hr1 := (h.rt hr).1
  have hs1 := (h.rt hs).1
  by_cases e : ρ r = y
  ·rw [if_pos e]
   by_cases e2 : ρ s = y
   ·rw [e,e2,h.irr y] at h1; cases h1
   ·rw [if_neg e2,joinN_at _ _ hxy e2]
    rw [e] at h1
    simp [h1]
  ·rw [if_neg e]
   by_cases e2 : ρ s = y
   ·rw [if_pos e2,joinN_at _ _ e hxy]
    rw [e2] at h1
    have := h.sym _ _ hr1 hy h1
    simp [this]
   ·rw [if_neg e2,joinN_at _ _ e e2]
    simp [h1]
 ·simp only [joinP] at hr ⊢
  rw [upd_ne _ _ (by omega)]
  exact h.mach r hr h32
 ·simp only [joinP] at hr hv ⊢
  split
  ·exact hxv
  ·exact h.low r hr hv
def roots (p : Pn) : Nat := deg p.n fun r => decide (p.to r = r)
def Jd (a : Ad) (p : Pn) (S S' : Store) (strict : Bool) : Prop := ∃ nm to near ρ d,KpG a S S' ∧ PT S' { a with nm := nm } { p with to := to,near := near } ∧ Inv { p with to := to,near := near } ρ d ∧ (Part p → Part { p with to := to,near := near }) ∧ roots { p with to := to,near := near } ≤ roots p ∧ (strict = true → roots { p with to := to,near := near } < roots p)
theorem Jd.refl {a : Ad} {p : Pn} {S S' : Store} {ρ d : Nat → Nat} (h : PT S' a p) (hi : Inv p ρ d) (k : Keep [] S S') : Jd a p S S' false :=
 ⟨a.nm,p.to,p.near,ρ,d,KpG.of k,h,hi,id,Nat.le_refl _,fun h => by cases h⟩
theorem roots_join {p : Pn} {x y : Nat} (hy : y < p.n) (hxy : x ≠ y) (hyr : p.to y = y) : roots (joinP p x y) < roots p := by
 unfold roots deg joinP
 refine filt_lt (x := y) (fun r h => ?_) (List.mem_range.2 hy) (by simpa using hyr) (by simp [upd_same,hxy])
 simp only [decide_eq_true_eq] at h ⊢
 unfold upd at h
 split at h
 ·rename_i e; rw [e] at h; exact absurd h hxy
 ·exact h
theorem Jd.pre {a : Ad} {p : Pn} {S S1 S' : Store} {b : Bool} (h : Jd a p S1 S' b) (k : Keep [] S S1) : Jd a p S S' b := by
 obtain ⟨nm,to,near,ρ,d,h1,h2⟩ := h
 exact ⟨nm,to,near,ρ,d,(KpG.of k).trans h1 rfl,h2⟩
theorem Jd.step {a : Ad} {p : Pn} {x y : Nat} {nm : Nat → Nat} {S S1 S' : Store} {b : Bool} (k : KpG a S S1) (hlt : roots (joinP p x y) < roots p) (hpp : Part p → Part (joinP p x y)) (h : Jd { a with nm := nm } (joinP p x y) S1 S' b) (b' : Bool) : Jd a p S S' b' := by
 obtain ⟨nm',to,near,ρ,d,h1,h2,h3,h4,h5,_⟩ := h
 exact ⟨nm',to,near,ρ,d,k.trans h1 rfl,h2,h3,fun hp => h4 (hpp hp),Nat.le_trans h5 (Nat.le_of_lt hlt),fun _ => Nat.lt_of_le_of_lt h5 hlt⟩
def e18 (a : Ad) (more x2 x3 x4 x5 x6 : TV) (t : Tag) (M : List (Int × Int)) (i : Nat) (x10 x11 x12 : TV) : List TV := [.ptr a.ip 44 0,more,x2,x3,x4,x5,x6,.iv (.sl t (M.map enc2)),.iv (.int .i64 M.length),.iv (.int .i64 i),x10,x11,x12]
def OkM (n : Nat) (M : List (Int × Int)) : Prop := ∀ m ∈ M,∃ u v : Nat,m.1 = u ∧ m.2 = v ∧ vR n u ∧ vR n v
where vR (n u : Nat) : Prop := 1 ≤ u ∧ u < n
theorem loop18m {x6 : TV} (t : Tag) (M : List (Int × Int)) (hM : M.length ≤ 1000000) : ∀ (k i : Nat) (a : Ad) (p : Pn) (ρ d : Nat → Nat) (S : Store) (more : Bool) (x2 x3 x4 x5 x10 x11 x12 : TV),i + k = M.length → p.n ≤ 1000000 → OkM p.n M → PT S a p → Inv p ρ d →
  (lp' (lim K) t18L0 (e18 a (.iv (.bool more)) x2 x3 x4 x5 x6 t M i x10 x11 x12) S).All fun r => ∃ more' y2 y3 y4 y5 y10 y11 y12,r.1 = .exit 2 ∧ r.2.1 = e18 a (.iv (.bool more')) y2 y3 y4 y5 x6 t M M.length y10 y11 y12 ∧ (more = true → more' = true) ∧ Jd a p S r.2.2 (!more && more')
 | 0,i,a,p,ρ,d,S,more,x2,x3,x4,x5,x10,x11,x12,h,hpn,hok,hP,hI => by
  obtain rfl : i = M.length := by omega
  unfold e18
  refine lp_all t18L0.eq_1 ?_
  simp (config := { maxSteps := 4000000 }) (disch := omega) only [go_sem]
  refine all_ret ⟨more,_,_,_,_,_,_,_,rfl,rfl,id,?_⟩
  rw [Bool.not_and_self]
  exact .refl hP hI (.refl _ _)
 | k + 1,i,a,p,ρ,d,S,more,x2,x3,x4,x5,x10,x11,x12,h,hpn,hok,hP,hI => by
  have hla : i < M.length := by omega
  have hix := ix_map (w := 2) (f := enc2) (fun _ => rfl) (t := t) (l := M) (i := (i : Int)) (by omega)
  rw [Int.toNat_natCast] at hix
  have hmem : M.getD i default ∈ M := by
   simp only [List.getD,List.getElem?_eq_getElem hla,Option.getD_some]; exact List.getElem_mem _
  generalize M.getD i default = m at *
  obtain ⟨u0,v0,hu0,hv0,⟨_,hun0⟩,⟨_,hvn0⟩⟩ := hok m hmem
  have cu := call29 hP hI.uf u0 hun0
  have cv := call29 hP hI.uf v0 hvn0
  obtain ⟨hun,hur⟩ := hI.rt hun0
  obtain ⟨hvn,hvr⟩ := hI.rt hvn0
  rw [enc2,hu0,hv0] at hix
  generalize ρ u0 = u at *
  generalize ρ v0 = v at *
  have b1 := hP.blk
  have b2 := hP.near
  simp only [pcells] at b1
  obtain ⟨x,y,hle,hxn,hyn,hxr,hyr,hsw⟩ : ∃ x y,x ≤ y ∧ x < p.n ∧ y < p.n ∧ p.to x = x ∧ p.to y = y ∧ (x = u ∧ y = v ∧ u ≤ v ∨ x = v ∧ y = u ∧ v < u) := by
   by_cases hsw : v < u
   ·exact ⟨v,u,by omega,hvn,hun,hvr,hur,.inr ⟨rfl,rfl,hsw⟩⟩
   ·exact ⟨u,v,by omega,hun,hvn,hur,hvr,.inl ⟨rfl,rfl,by omega⟩⟩
  obtain ⟨l,c,hm1,hm2,hm3⟩ := hP.nmap x hxn
  have hh := has_at hm3 hyn
  have i1 := ix_cF (j := a.jn) (v := a.vn) hxn
  have s1 := sub_cF (fun r => TV.map (a.nm r)) hxn
  have c24 := call24 (x : Int)
  have ih := fun (a' : Ad) (p' : Pn) (ρ' d' : Nat → Nat) (S' : Store) more' x2 x3 x4 x5 x10 x11 x12 => loop18m (x6 := x6) t M hM k (i + 1) a' p' ρ' d' S' more' x2 x3 x4 x5 x10 x11 x12 (by omega)
  by_cases hxy : x = y
  ·subst hxy
   have ih := ih a p ρ d S more (.lb [.iv (.int .i64 u0),.iv (.int .i64 v0)]) (.iv (.int .i64 x)) (.iv (.int .i64 x)) (.iv (.bool (p.near x x))) (.iv (.bool true)) (.iv (.bool false)) (.iv (.bool true)) hpn hok hP hI
   unfold e18 at ih ⊢
   rw [show ((i + 1 : Nat) : Int) = (i : Int) + 1 by omega] at ih
   refine lp_all t18L0.eq_1 ?_
   rcases hsw with ⟨h1,h2,h3⟩ | ⟨h1,h2,h3⟩
   ·subst h1; subst h2
    simp (config := { maxSteps := 4000000 }) (disch := omega) only [go_sem,hix,cu,cv,b1,b2,i1,s1,hm1,hh,wrap_i64]
    exact all_er ih
   ·omega
  by_cases hy32 : y < 32
  ·have ih := ih a p ρ d S more (.lb [.iv (.int .i64 u0),.iv (.int .i64 v0)]) (.iv (.int .i64 x)) (.iv (.int .i64 y)) (.iv (.bool (p.near x y))) (.iv (.bool true))
   unfold e18 at ih ⊢
   rw [show ((i + 1 : Nat) : Int) = (i : Int) + 1 by omega] at ih
   refine lp_all t18L0.eq_1 ?_
   have hne : ¬ (x : Int) = (y : Int) := by omega
   rcases hsw with ⟨h1,h2,h3⟩ | ⟨h1,h2,h3⟩ <;> (subst h1; subst h2)
   ·simp (config := { maxSteps := 4000000 }) (disch := omega) only [go_sem,hix,cu,cv,b1,b2,i1,s1,hm1,hh,wrap_i64,hne]
    exact all_er (ih _ _ hpn hok hP hI)
   ·simp (config := { maxSteps := 4000000 }) (disch := omega) only [go_sem,hix,cu,cv,b1,b2,i1,s1,hm1,hh,wrap_i64,hne]
    exact all_er (ih _ _ hpn hok hP hI)
  have hne : ¬ (x : Int) = (y : Int) := by omega
  by_cases hx32 : x < 32 ∧ isCol x = false
  ·rw [hx32.2] at c24
   have hx3 := hx32.1
   have ih := ih a p ρ d S more (.lb [.iv (.int .i64 u0),.iv (.int .i64 v0)]) (.iv (.int .i64 x)) (.iv (.int .i64 y)) (.iv (.bool (p.near x y))) (.iv (.bool true))
   unfold e18 at ih ⊢
   rw [show ((i + 1 : Nat) : Int) = (i : Int) + 1 by omega] at ih
   refine lp_all t18L0.eq_1 ?_
   rcases hsw with ⟨h1,h2,h3⟩ | ⟨h1,h2,h3⟩ <;> (subst h1; subst h2)
   ·simp (config := { maxSteps := 4000000 }) (disch := omega) only [go_sem,hix,cu,cv,b1,b2,i1,s1,hm1,hh,wrap_i64,hne,cpR_pure c24]
    exact all_er (ih _ _ hpn hok hP hI)
   ·simp (config := { maxSteps := 4000000 }) (disch := omega) only [go_sem,hix,cu,cv,b1,b2,i1,s1,hm1,hh,wrap_i64,hne,cpR_pure c24]
    exact all_er (ih _ _ hpn hok hP hI)
  have hxv : vtx p.n x := by
   refine ⟨hxn,?_⟩
   by_cases h3 : x < 32
   ·left
    have : isCol x = true := by
     cases e : isCol (x : Int) with
     | true => rfl
     | false => exact absurd ⟨h3,e⟩ hx32
    unfold isCol at this
    simp at this; omega
   ·right; omega
  have hc24 : x < 32 → isCol x = true := fun h3 => by
   cases e : isCol (x : Int) with
   | true => rfl
   | false => exact absurd ⟨h3,e⟩ hx32
  cases hnr : p.near x y with
  | true =>
   rw [hnr] at hh
   have ih := ih a p ρ d S more (.lb [.iv (.int .i64 u0),.iv (.int .i64 v0)]) (.iv (.int .i64 x)) (.iv (.int .i64 y)) (.iv (.bool true)) (.iv (.bool true))
   unfold e18 at ih ⊢
   rw [show ((i + 1 : Nat) : Int) = (i : Int) + 1 by omega] at ih
   refine lp_all t18L0.eq_1 ?_
   by_cases hx3 : x < 32
   ·rw [hc24 hx3] at c24
    rcases hsw with ⟨h1,h2,h3⟩ | ⟨h1,h2,h3⟩ <;> (subst h1; subst h2)
    ·simp (config := { maxSteps := 4000000 }) (disch := omega) only [go_sem,hix,cu,cv,b1,b2,i1,s1,hm1,hh,wrap_i64,hne,cpR_pure c24]
     exact all_er (ih _ _ hpn hok hP hI)
    ·simp (config := { maxSteps := 4000000 }) (disch := omega) only [go_sem,hix,cu,cv,b1,b2,i1,s1,hm1,hh,wrap_i64,hne,cpR_pure c24]
     exact all_er (ih _ _ hpn hok hP hI)
   ·rcases hsw with ⟨h1,h2,h3⟩ | ⟨h1,h2,h3⟩ <;> (subst h1; subst h2)
    ·simp (config := { maxSteps := 4000000 }) (disch := omega) only [go_sem,hix,cu,cv,b1,b2,i1,s1,hm1,hh,wrap_i64,hne,cpR_pure c24]
     exact all_er (ih _ _ hpn hok hP hI)
    ·simp (config := { maxSteps := 4000000 }) (disch := omega) only [go_sem,hix,cu,cv,b1,b2,i1,s1,hm1,hh,wrap_i64,hne,cpR_pure c24]
     exact all_er (ih _ _ hpn hok hP hI)
  | false =>
   rw [hnr] at hh
   have c30 := call30 hP hpn hxn hyn
   have hyx := hI.nsym hxn hyn hnr
   have hlt := roots_join hyn hxy hyr
   have hIj := inv_join hI hxn hyn hxy (by omega) hnr hxr hyr hxv
   have c31 := fun (S1 : Store) (k1 : Keep [] S S1) => call31 (hP.keep k1) (by omega) hxn hyn hxy hyx (hI.irr y)
   have ih0 := fun S1 => ih a p ρ d S1 more (.lb [.iv (.int .i64 u0),.iv (.int .i64 v0)]) (.iv (.int .i64 x)) (.iv (.int .i64 y)) (.iv (.bool false)) (.iv (.bool true))
   have ih1 := fun nm S1 => ih { a with nm := nm } (joinP p x y) (fun r => if ρ r = y then x else ρ r) (fun r => if ρ r = y then d r + d x + 1 else d r) S1 true (.lb [.iv (.int .i64 u0),.iv (.int .i64 v0)]) (.iv (.int .i64 x)) (.iv (.int .i64 y)) (.iv (.bool false)) (.iv (.bool true))
   unfold e18 at ih0 ih1 ⊢
   rw [show ((i + 1 : Nat) : Int) = (i : Int) + 1 by omega] at ih0 ih1
   refine lp_all t18L0.eq_1 ?_
   by_cases hx3 : x < 32
   ·rw [hc24 hx3] at c24
    rcases hsw with ⟨h1,h2,h3⟩ | ⟨h1,h2,h3⟩ <;> (subst h1; subst h2)
    all_goals
     simp (config := { maxSteps := 4000000 }) (disch := omega) only [go_sem,hix,cu,cv,b1,b2,i1,s1,hm1,hh,wrap_i64,hne,cpR_pure c24]
     refine rnd_csf_all c30 ?_
     rintro v S1 ⟨hv,hk1⟩
     dsimp only at hv hk1
     subst hv
     cases hsf : safeF p _ _ with
     | false =>
      simp (config := { maxSteps := 4000000 }) (disch := omega) only [go_sem,wrap_i64]
      refine all_er (Out.all_mono ?_ (ih0 S1 _ _ hpn hok (hP.keep hk1) hI))
      rintro r ⟨m',y2,y3,y4,y5,y10,y11,y12,e1,e2,e3,e4⟩
      exact ⟨m',y2,y3,y4,y5,y10,y11,y12,e1,e2,e3,e4.pre hk1⟩
     | true =>
      simp (config := { maxSteps := 4000000 }) (disch := omega) only [go_sem,wrap_i64]
      refine rnd_csf_all (c31 S1 hk1) ?_
      rintro v S2 ⟨nm,hv,hk2,hP2⟩
      dsimp only at hv hk2 hP2
      subst hv
      simp (config := { maxSteps := 4000000 }) (disch := omega) only [go_sem,wrap_i64]
      refine all_er (Out.all_mono ?_ (ih1 nm S2 _ _ hpn hok hP2 hIj))
      rintro r ⟨m',y2,y3,y4,y5,y10,y11,y12,e1,e2,e3,e4⟩
      exact ⟨m',y2,y3,y4,y5,y10,y11,y12,e1,e2,fun _ => e3 rfl,e4.step ((KpG.of hk1).trans hk2 rfl) hlt (part_join hI hxn hyn hxy (by omega) hnr hsf) _⟩
   ·rcases hsw with ⟨h1,h2,h3⟩ | ⟨h1,h2,h3⟩ <;> (subst h1; subst h2)
    all_goals
     simp (config := { maxSteps := 4000000 }) (disch := omega) only [go_sem,hix,cu,cv,b1,b2,i1,s1,hm1,hh,wrap_i64,hne,cpR_pure c24]
     refine rnd_csf_all c30 ?_
     rintro v S1 ⟨hv,hk1⟩
     dsimp only at hv hk1
     subst hv
     cases hsf : safeF p _ _ with
     | false =>
      simp (config := { maxSteps := 4000000 }) (disch := omega) only [go_sem,wrap_i64]
      refine all_er (Out.all_mono ?_ (ih0 S1 _ _ hpn hok (hP.keep hk1) hI))
      rintro r ⟨m',y2,y3,y4,y5,y10,y11,y12,e1,e2,e3,e4⟩
      exact ⟨m',y2,y3,y4,y5,y10,y11,y12,e1,e2,e3,e4.pre hk1⟩
     | true =>
      simp (config := { maxSteps := 4000000 }) (disch := omega) only [go_sem,wrap_i64]
      refine rnd_csf_all (c31 S1 hk1) ?_
      rintro v S2 ⟨nm,hv,hk2,hP2⟩
      dsimp only at hv hk2 hP2
      subst hv
      simp (config := { maxSteps := 4000000 }) (disch := omega) only [go_sem,wrap_i64]
      refine all_er (Out.all_mono ?_ (ih1 nm S2 _ _ hpn hok hP2 hIj))
      rintro r ⟨m',y2,y3,y4,y5,y10,y11,y12,e1,e2,e3,e4⟩
      exact ⟨m',y2,y3,y4,y5,y10,y11,y12,e1,e2,fun _ => e3 rfl,e4.step ((KpG.of hk1).trans hk2 rfl) hlt (part_join hI hxn hyn hxy (by omega) hnr hsf) _⟩
theorem Jd.trans {a : Ad} {p : Pn} {S S1 S' : Store} {nm : Nat → Nat} {to : Nat → Nat} {near : Nat → Nat → Bool} (k : KpG a S S1) (hpp : Part p → Part { p with to := to,near := near }) (hle : roots { p with to := to,near := near } ≤ roots p) {b : Bool} (h : Jd { a with nm := nm } { p with to := to,near := near } S1 S' b) : Jd a p S S' false := by
 obtain ⟨nm',to',near',ρ,d,h1,h2,h3,h4,h5,_⟩ := h
 exact ⟨nm',to',near',ρ,d,k.trans h1 rfl,h2,h3,fun hp => h4 (hpp hp),Nat.le_trans h5 hle,fun h => by cases h⟩
theorem loop18 : ∀ (k : Nat) (a : Ad) (p : Pn) (ρ d : Nat → Nat) (S : Store) (x2 x3 x4 x5 x6 x7 x8 x9 x10 x11 x12 : TV),roots p < k → p.n ≤ 1000000 → p.M.length ≤ 1000000 → OkM p.n p.M → PT S a p → Inv p ρ d →
  (lp' (lim K) t18L1 [.ptr a.ip 44 0,.iv (.bool true),x2,x3,x4,x5,x6,x7,x8,x9,x10,x11,x12] S).All fun r => ∃ y2 y3 y4 y5 y6 y7 y8 y9 y10 y11 y12,r.1 = .exit 0 ∧ r.2.1 = [.ptr a.ip 44 0,.iv (.bool false),y2,y3,y4,y5,y6,y7,y8,y9,y10,y11,y12] ∧ Jd a p S r.2.2 false
 | 0,a,p,ρ,d,S,x2,x3,x4,x5,x6,x7,x8,x9,x10,x11,x12,hk,hpn,hM,hok,hP,hI => by omega
 | k + 1,a,p,ρ,d,S,x2,x3,x4,x5,x6,x7,x8,x9,x10,x11,x12,hk,hpn,hM,hok,hP,hI => by
  have l1 := loop18m (x6 := .iv (.bool true)) p.tM p.M hM p.M.length 0 a p ρ d S false x2 x3 x4 x5 x10 x11 x12 (by omega) hpn hok hP hI
  have b1 := hP.blk
  simp only [pcells] at b1
  unfold e18 at l1
  rw [show ((0 : Nat) : Int) = 0 from rfl] at l1
  refine lp_all t18L1.eq_1 ?_
  simp (config := { maxSteps := 4000000 }) (disch := omega) only [go_sem,b1,List.length_map]
  refine rnd_goL_all l1 ?_
  rintro j e S1 ⟨m',y2,y3,y4,y5,y10,y11,y12,e1,e2,e3,e4⟩
  dsimp only at e1 e2 e4
  subst e1 e2
  obtain ⟨nm,to,near,ρ',d',h1,h2,h3,h4,h5,h6⟩ := e4
  cases m' with
  | false =>
   have hj : Jd a p S S1 false := ⟨nm,to,near,ρ',d',h1,h2,h3,h4,h5,fun h => by cases h⟩
   have b2 := h2.blk
   simp (config := { maxSteps := 4000000 }) (disch := omega) only [go_sem]
   refine all_er (lp_all t18L1.eq_1 ?_)
   simp (config := { maxSteps := 4000000 }) (disch := omega) only [go_sem]
   exact (all_ret ⟨_,_,_,_,_,_,_,_,_,_,_,rfl,rfl,hj⟩)
  | true =>
   have hlt := h6 rfl
   have ih := loop18 k { a with nm := nm } { p with to := to,near := near } ρ' d' S1 y2 y3 y4 y5 (.iv (.bool true)) (.iv (.sl p.tM (p.M.map enc2))) (.iv (.int .i64 p.M.length)) (.iv (.int .i64 p.M.length)) y10 y11 y12 (by omega) hpn hM hok h2 h3
   simp (config := { maxSteps := 4000000 }) (disch := omega) only [go_sem]
   refine all_er (Out.all_mono ?_ ih)
   rintro r ⟨z2,z3,z4,z5,z6,z7,z8,z9,z10,z11,z12,f1,f2,f3⟩
   exact ⟨z2,z3,z4,z5,z6,z7,z8,z9,z10,z11,z12,f1,f2,f3.trans h1 h4 h5⟩
theorem call18 {S : Store} {a : Ad} {p : Pn} {ρ d : Nat → Nat} (hP : PT S a p) (hI : Inv p ρ d) (hpn : p.n ≤ 1000000) (hM : p.M.length ≤ 1000000) (hok : OkM p.n p.M) :
  ((lim K).call 18 [.ptr a.ip 44 0] S).All fun r => r.1 = .tup [] ∧ Jd a p S r.2 false := by
 have l1 := loop18 (roots p + 1) a p ρ d S (.tup []) (.tup []) (.tup []) (.tup []) (.tup []) (.tup []) (.tup []) (.tup []) (.tup []) (.tup []) (.tup []) (by omega) hpn hM hok hP hI
 refine call_all' K _ (fn := t18) rfl rfl ?_
 simp (config := { maxSteps := 4000000 }) (disch := omega) only [t18,go_sem,TM.undef]
 refine fin_goL_all l1 ?_
 rintro j e S1 ⟨z2,z3,z4,z5,z6,z7,z8,z9,z10,z11,z12,f1,f2,f3⟩
 dsimp only at f1 f2 f3
 subst f1 f2
 simp (config := { maxSteps := 4000000 }) (disch := omega) only [go_sem]
 exact all_ret ⟨rfl,f3⟩
theorem cellsOf_acc (i : Nat) (l : List (List IV)) : cellsOf (acc i l) = [acc i l] := by unfold acc; split <;> rfl
theorem isRefL_acc (i : Nat) (l : List (List IV)) : isRefL (acc i l) = false := by unfold acc; split <;> rfl
attribute [go_sem] cellsOf_acc isRefL_acc
def gI (l : List (List IV)) (i : Nat) (S : Store) : Nat := if l = [] then S.length else i
def gS (w el : Nat) (l : List (List IV)) (i : Nat) (S : Store) : Store := if l = [] then S ++ [.tok 1 w el] else S.set i (.tok (l.length + 1) w el)
def At (w el : Nat) (l : List (List IV)) (i : Nat) (S : Store) : Prop := l ≠ [] → S[i]? = some (.tok l.length w el)
def own1 (l : List (List IV)) (i : Nat) : List Nat := if l = [] then [] else [i]
theorem At.nil {w el i : Nat} {S : Store} : At w el [] i S := fun h => absurd rfl h
theorem At.keep {w el i : Nat} {S S' : Store} {l : List (List IV)} {I : List Nat} (h : At w el l i S) (k : Keep I S S') (hi : l ≠ [] → i ∉ I) : At w el l i S' := fun hl => k.get _ _ (hi hl) (h hl)
theorem gS_keep (w el : Nat) (l : List (List IV)) (i : Nat) (S : Store) : Keep (own1 l i) S (gS w el l i S) := by
 unfold own1 gS
 by_cases h : l = []
 ·rw [if_pos h,if_pos h]; exact Keep.app _ _ _
 ·rw [if_neg h,if_neg h]; exact Keep.set _ (by simp) _
theorem gS_at {w el : Nat} {l : List (List IV)} {i : Nat} {S : Store} (h : At w el l i S) (c : List IV) : At w el (l ++ [c]) (gI l i S) (gS w el l i S) := by
 intro _
 unfold gI gS
 by_cases h0 : l = []
 ·rw [if_pos h0,if_pos h0,h0]; simp
 ·rw [if_neg h0,if_neg h0,get_setS (lt_get (h h0))]; simp
theorem ap_g {w el b : Nat} {l : List (List IV)} {i : Nat} {S : Store} {t : Tag} {c : List IV} (h : At w el l i S) (hc : c.length = w ∧ c.all isCell = true) (hl : Elems w l) (hr : roomy (l.length + 1) b = true) :
  appendOp false w b el S (acc i l) (.iv (.sl t [c])) = some (acc (gI l i S) (l ++ [c]),gS w el l i S) := by
 have hx : IsEl S (.iv (.sl t [c])) [c] := IsEl.sl ..
 have hw : Elems w [c] := by intro y hy; simp at hy; subst hy; exact hc
 by_cases h0 : l = []
 ·subst h0
  rw [acc_nil,ap_new (by decide) hx hw hl (by simp) hr,List.nil_append,acc_cons]
  simp [gI,gS]
 ·rw [acc_ne _ h0,ap_tsl hx hw hl (h h0) hr,acc_ne _ (by simp)]
  simp [gI,gS,h0]
theorem keep_trans' {I J : List Nat} {S S' S'' : Store} (h : Keep I S S') (g : Keep J S' S'') (hj : ∀ j ∈ J,j ∈ I ∨ S.length ≤ j) : Keep I S S'' :=
 ⟨Nat.le_trans h.len g.len,fun i b hi hb => g.get i b (fun hJ => by
  rcases hj i hJ with h1 | h1
  ·exact hi h1
  ·have := lt_get hb; omega) (h.get i b hi hb)⟩
theorem own_tok {S : Store} {w el : Nat} {l : List (List IV)} {i : Nat} (h : At w el l i S) : ∀ j ∈ own1 l i,∃ n w e,S[j]? = some (.tok n w e) := by
 intro j hj
 unfold own1 at hj
 split at hj
 ·cases hj
 ·rename_i h0
  simp at hj
  subst hj
  exact ⟨_,_,_,h h0⟩
theorem own_new {S : Store} {l : List (List IV)} {i : Nat} {c : List IV} : ∀ j ∈ own1 (l ++ [c]) (gI l i S),j ∈ own1 l i ∨ S.length ≤ j := by
 intro j hj
 unfold own1 at hj
 rw [if_neg (by simp)] at hj
 simp at hj
 subst hj
 unfold gI
 split
 ·exact .inr (Nat.le_refl _)
 ·rename_i h0; left; unfold own1; rw [if_neg h0]; simp
theorem PT.keepT {S S' : Store} {a : Ad} {p : Pn} {I : List Nat} (h : PT S a p) (k : Keep I S S') (hI : ∀ i ∈ I,∃ n w e,S[i]? = some (.tok n w e)) : PT S' a p := by
 have hn : ∀ i b,S[i]? = some b → (∀ n w e,b ≠ Block.tok n w e) → S'[i]? = some b := fun i b hb hb2 => k.get i b (fun hi => by
  obtain ⟨n,w,e,h1⟩ := hI i hi
  rw [hb] at h1; exact hb2 n w e (Option.some.inj h1)) hb
 exact ⟨hn _ _ h.blk (by simp),hn _ _ h.near (by simp),hn _ _ h.own (by simp),hn _ _ h.to (by simp),hn _ _ h.out (by simp),
  fun r hr => by obtain ⟨l,c,h1,h2,h3⟩ := h.nmap r hr; exact ⟨l,c,hn _ _ h1 (by simp),h2,h3⟩,
  fun r hr => by obtain ⟨l,c,h1,h2,h3⟩ := h.omap r hr; exact ⟨l,c,hn _ _ h1 (by simp),h2,h3⟩,h.ninj,h.oinj,h.dis,h.nd⟩
def encN (l : List Nat) : List (List IV) := l.map fun m : Nat => [.int .i64 (m : Int)]
theorem encN_len (l : List Nat) : (encN l).length = l.length := by simp [encN]
theorem encN_app (l : List Nat) (m : Nat) : encN l ++ [[.int .i64 (m : Int)]] = encN (l ++ [m]) := by simp [encN]
theorem encN_nil {l : List Nat} : encN l = [] ↔ l = [] := by simp [encN]
theorem encN_el (l : List Nat) : Elems 1 (encN l) := by
 intro y hy
 obtain ⟨m,_,rfl⟩ := List.mem_map.1 hy
 exact ⟨rfl,rfl⟩
def memFrom (p : Pn) (ρ : Nat → Nat) (r i : Nat) : List Nat := ((List.range p.n).drop i).filter fun m => decide (ρ m = r)
theorem range_drop {n i : Nat} (h : i < n) : (List.range n).drop i = i :: (List.range n).drop (i + 1) := by
 rw [List.drop_eq_getElem_cons (by simpa using h)]
 simp
theorem loop19 {a : Ad} {p : Pn} {ρ d : Nat → Nat} (hu : Uf p ρ d) (hpn : p.n ≤ 1000000) (r : Nat) (x2 : TV) : ∀ (k i : Nat) (l : List Nat) (j : Nat) (S : Store) (x5 x6 : TV),i + k = p.n → PT S a p → At 1 3 (encN l) j S → l.length ≤ i →
  ∃ j' y5 y6 S',lp' (lim K) t19L0 [.ptr a.ip 44 0,.iv (.int .i64 r),x2,acc j (encN l),.iv (.int .i64 i),x5,x6] S
   = .ret (.exit 0,[.ptr a.ip 44 0,.iv (.int .i64 r),x2,acc j' (encN (l ++ memFrom p ρ r i)),.iv (.int .i64 p.n),y5,y6],S') ∧ Keep (own1 (encN l) j) S S'
 | 0,i,l,j,S,x5,x6,h,hP,hj,hl => by
  obtain rfl : i = p.n := by omega
  have b1 := hP.blk
  simp only [pcells] at b1
  have e : memFrom p ρ r p.n = [] := by
   unfold memFrom
   rw [List.drop_eq_nil_of_le (by simp)]; rfl
  refine ⟨j,.iv (.bool false),x6,S,loop_at K _ _ t19L0.eq_1 ?_,.refl _ _⟩
  rw [e,List.append_nil]
  simp (config := { maxSteps := 4000000 }) (disch := omega) only [go_sem,b1]
 | k + 1,i,l,j,S,x5,x6,h,hP,hj,hl => by
  have hin : i < p.n := by omega
  have b1 := hP.blk
  simp only [pcells] at b1
  have c29 := call29 hP hu i hin
  have hrd := range_drop hin
  by_cases e : ρ i = r
  ·have e1 := ap_g (b := 8) (c := [.int .i64 (i : Int)]) (t := .full) hj ⟨rfl,rfl⟩ (encN_el l) (roomy_ok (by rw [encN_len]; omega))
   have hk := gS_keep 1 3 (encN l) j S
   have gt := gS_at hj [.int .i64 (i : Int)]
   have hn : ∀ q ∈ own1 (encN (l ++ [i])) (gI (encN l) j S),q ∈ own1 (encN l) j ∨ S.length ≤ q := by rw [← encN_app]; exact own_new
   rw [encN_app] at e1 gt
   obtain ⟨j',y5,y6,S',ih,k2⟩ := loop19 hu hpn r x2 k (i + 1) (l ++ [i]) _ _ (.iv (.bool true)) (.iv (.bool true)) (by omega) (hP.keepT hk (own_tok hj)) gt (by simp; omega)
   rw [show ((i + 1 : Nat) : Int) = (i : Int) + 1 by omega,List.append_assoc,List.singleton_append] at ih
   refine ⟨j',y5,y6,S',loop_at K _ _ t19L0.eq_1 ?_,keep_trans' hk k2 hn⟩
   have em : memFrom p ρ r i = i :: memFrom p ρ r (i + 1) := by unfold memFrom; rw [hrd,List.filter_cons,if_pos (by simpa using e)]
   rw [em]
   rw [e] at c29
   simp (config := { maxSteps := 4000000 }) (disch := omega) only [go_sem,b1,c29,e1,wrap_i64]
   exact congrArg er ih
  ·obtain ⟨j',y5,y6,S',ih,k2⟩ := loop19 hu hpn r x2 k (i + 1) l j S (.iv (.bool true)) (.iv (.bool false)) (by omega) hP hj (by omega)
   rw [show ((i + 1 : Nat) : Int) = (i : Int) + 1 by omega] at ih
   refine ⟨j',y5,y6,S',loop_at K _ _ t19L0.eq_1 ?_,k2⟩
   have em : memFrom p ρ r i = memFrom p ρ r (i + 1) := by unfold memFrom; rw [hrd,List.filter_cons,if_neg (by simpa using e)]
   rw [em]
   have e' : ¬ ((ρ i : Int) = (r : Int)) := by omega
   simp (config := { maxSteps := 4000000 }) (disch := omega) only [go_sem,b1,c29,e',wrap_i64]
   exact congrArg er ih
theorem call19 {S : Store} {a : Ad} {p : Pn} {ρ d : Nat → Nat} (hP : PT S a p) (hu : Uf p ρ d) (hpn : p.n ≤ 1000000) (h32 : 32 ≤ p.n) (r : Nat) :
  ∃ j S',(lim K).call 19 [.ptr a.ip 44 0,.iv (.int .i64 r)] S = .ret (acc j (encN (memFrom p ρ r 32)),S') ∧ Keep [] S S' := by
 obtain ⟨j',y5,y6,S',l1,hk⟩ := loop19 hu hpn r (.iv (.sl .nil [])) (p.n - 32) 32 [] 0 S (.tup []) (.tup []) (by omega) hP At.nil (by simp)
 rw [show ((32 : Nat) : Int) = 32 from rfl,List.nil_append,show acc 0 (encN []) = .iv (.sl .nil []) from rfl] at l1
 refine ⟨j',S',call_ret' K _ (fn := t19) rfl rfl ?_,hk⟩
 simp (config := { maxSteps := 4000000 }) (disch := omega) only [t19,go_sem,TM.undef]
 rw [l1]
 simp (config := { maxSteps := 4000000 }) (disch := omega) only [go_sem]
def gv (r : Int) (t1 : Tag) (E : List (Int × Int)) (t2 : Tag) (M : List (Int × Int)) : IV := .agg [.int .i64 r,.sl t1 (E.map enc2),.sl t2 (M.map enc2)]
def gcells (r : Int) (t1 : Tag) (E : List (Int × Int)) (t2 : Tag) (M : List (Int × Int)) : List TV := [.iv (.int .i64 r),.iv (.sl t1 (E.map enc2)),.iv (.sl t2 (M.map enc2))]
theorem flatA {α : Type} (l m : List (List α)) : flat (l ++ m) = flat l ++ flat m := by
 induction l with
 | nil => rfl
 | cons a r ih => simp only [List.cons_append,TM.flat,ih,List.append_assoc]
theorem zerosF (x : TV) (n : Nat) : flat (List.replicate n [x]) = cF n fun _ => x := by
 unfold cF
 induction n with
 | zero => rfl
 | succ n ih => rw [List.replicate_succ',List.range_succ,List.map_append,← ih,flatA]; simp [TM.flat]
structure Bd (S : Store) (n : Nat) (t1 : Tag) (E : List (Int × Int)) (t2 : Tag) (M : List (Int × Int)) (r : Nat) (nm om : Nat → Nat) : Prop where
 blk : S[1]? = some (.cells 44 false [.iv (.int .i64 n),.iv (.sl t1 (E.map enc2)),.iv (.sl t2 (M.map enc2)),.msl 6 (r - 1) 0 r r 1,.msl 7 (r - 1) 0 r r 1,.msl 8 (r - 1) 0 r r 1,.msl 0 0 0 n n 1])
 out : S[0]? = some (.cells 0 false (cF n fun _ => vI 0))
 near : S[6]? = some (.cells (r - 1) true (cF r fun k => .map (nm k)))
 own : S[7]? = some (.cells (r - 1) true (cF r fun k => .map (om k)))
 to : S[8]? = some (.cells (r - 1) true (cF r fun k => nI k))
 nms : ∀ k,k < r → S[nm k]? = some (.mp [] 0)
 oms : ∀ k,k < r → S[om k]? = some (.mp [] 0)
 ninj : ∀ r' s,r' < r → s < r → nm r' = nm s → r' = s
 oinj : ∀ r' s,r' < r → s < r → om r' = om s → r' = s
 dis : ∀ r' s,r' < r → s < r → nm r' ≠ om s
theorem Bd.pt {S : Store} {n : Nat} {t1 : Tag} {E : List (Int × Int)} {t2 : Tag} {M : List (Int × Int)} {nm om : Nat → Nat} (h : Bd S n t1 E t2 M n nm om) : PT S ⟨1,6,n - 1,7,n - 1,8,n - 1,0,nm,om⟩ ⟨n,t1,E,t2,M,fun _ _ => false,fun _ _ => false,fun r => r,fun _ => 0⟩ :=
 ⟨h.blk,h.near,h.own,h.to,h.out,fun r hr => ⟨[],0,h.nms r hr,RowsOK.nil 0,fun t => by simp [hasR,getR]⟩,fun r hr => ⟨[],0,h.oms r hr,RowsOK.nil 0,fun t => by simp [hasR,getR]⟩,h.ninj,h.oinj,h.dis,by simp⟩
theorem ap_loose {mu : Bool} {b bytes el : Nat} {S : Store} {v n : Nat} {f : Nat → TV} {x : TV} (hS : S[b]? = some (.cells v true (cF n f))) (hx : elemsTV S x = some [f n]) (hl : lenOf S x = some 1) (hr : isRefL (f n) = false) (hro : roomy (n + 1) bytes = true) :
  appendOp mu 1 bytes el S (.msl b v 0 n n 1) x = some (.msl b (v + 1) 0 (n + 1) (n + 1) 1,S.set b (.cells (v + 1) true (cF (n + 1) f))) := by
 have hs : sub (cF n f) 0 n = some (cF n f) := sub_all (by simp [cF_len])
 simp [appendOp,hx,hl,hS,hr,hro,hs,cF_app,show ¬ n + 1 ≤ n by omega]
theorem ap_first {mu : Bool} {bytes el : Nat} {S : Store} {f : Nat → TV} {x : TV} (hx : elemsTV S x = some [f 0]) (hl : lenOf S x = some 1) (hr : isRefL (f 0) = false) (hro : roomy 1 bytes = true) (hi : mu = true ∨ toIVs [f 0] = none) :
  appendOp mu 1 bytes el S (.iv (.sl .nil [])) x = some (.msl S.length 0 0 1 1 1,S ++ [.cells 0 true (cF 1 f)]) := by
 have e : cF 1 f = [f 0] := rfl
 rcases hi with rfl | hi
 ·simp [appendOp,hx,hl,hr,hro,e,TM.fits,TM.flat]
 ·cases mu with
  | true => simp [appendOp,hx,hl,hr,hro,e,TM.fits,TM.flat]
  | false => simp [appendOp,hx,hl,hr,hro,e,hi,TM.fits,TM.flat]
def lay1 (S : Store) : Store := S ++ [Block.mp [] 0] ++ [Block.cells 0 false (flat [[TV.map S.length]])]
theorem lay1_len (S : Store) : (lay1 S).length = S.length + 2 := by simp [lay1]
theorem lay1_keep (S : Store) : Keep [] S (lay1 S) := (Keep.app [] S [Block.mp [] 0]).trans (Keep.app [] _ [Block.cells 0 false (flat [[TV.map S.length]])])
theorem lay1_mp (S : Store) : (lay1 S)[S.length]? = some (.mp [] 0) := by simp [lay1]
theorem lay1_lit (S : Store) : (lay1 S)[S.length + 1]? = some (.cells 0 false (flat [[TV.map S.length]])) := by simp [lay1]
theorem elems_lit {S : Store} {j : Nat} {y : TV} (h : S[j]? = some (.cells 0 false (flat [[y]]))) : elemsTV S (.msl j 0 0 1 1 1) = some [y] := by
 simp [elemsTV,h,sub,TM.flat]
theorem set_get {S S' : Store} {i j : Nat} {X b : Block} (h : S.set i X = S') (hn : i ≠ j) (hb : S[j]? = some b) : S'[j]? = some b := by rw [← h,get_setN hn]; exact hb
theorem step17 {n : Nat} {t1 : Tag} {E : List (Int × Int)} {t2 : Tag} {M : List (Int × Int)} (hn : n ≤ 1000000) (x0 x1 x2 x5 x9 x10 x11 x12 x13 : TV) : ∀ (k r : Nat) (S : Store) (nm om : Nat → Nat) (x4 x8 : TV),r + k = n → 1 ≤ r → Bd S n t1 E t2 M r nm om →
  ∃ y4 y8 S' nm' om',lp' (lim K) t17L1 [x0,x1,x2,.ptr 1 44 0,x4,x5,.iv (.int .i64 n),.iv (.int .i64 r),x8,x9,x10,x11,x12,x13] S
   = .ret (.exit 0,[x0,x1,x2,.ptr 1 44 0,y4,x5,.iv (.int .i64 n),.iv (.int .i64 n),y8,x9,x10,x11,x12,x13],S') ∧ Bd S' n t1 E t2 M n nm' om'
 | 0,r,S,nm,om,x4,x8,h,h1,hB => by
  obtain rfl : r = n := by omega
  refine ⟨x4,.iv (.bool false),S,nm,om,loop_at K _ _ t17L1.eq_1 ?_,hB⟩
  simp (config := { maxSteps := 4000000 }) (disch := omega) only [go_sem]
 | k + 1,r,S,nm,om,x4,x8,h,h1,hB => by
  have hlt := lt_get hB.to
  have k2 := lay1_keep S
  have k4 := k2.trans (lay1_keep (lay1 S))
  have b1 := hB.blk
  have b2 := k2.get _ _ (by simp) b1
  have b4 := k4.get _ _ (by simp) b1
  have hL2 := lay1_len S
  have m1 := (lay1_keep (lay1 S)).get _ _ (by simp) (lay1_mp S)
  have m2 := lay1_mp (lay1 S)
  have l1 := (lay1_keep (lay1 S)).get _ _ (by simp) (lay1_lit S)
  have l2 := lay1_lit (lay1 S)
  have nn : ∀ k,k < r → nm k < S.length := fun k hk => lt_get (hB.nms k hk)
  have no : ∀ k,k < r → om k < S.length := fun k hk => lt_get (hB.oms k hk)
  have f6 : cF r (fun k => .map (nm k)) = cF r (fun k => .map (upd nm r S.length k)) := cF_congr fun i hi => by rw [upd_ne _ _ (by omega)]
  have f7 : cF r (fun k => .map (om k)) = cF r (fun k => .map (upd om r (lay1 S).length k)) := cF_congr fun i hi => by rw [upd_ne _ _ (by omega)]
  have n6 := k4.get _ _ (by simp) hB.near
  have n7 := k4.get _ _ (by simp) hB.own
  have n8 := k4.get _ _ (by simp) hB.to
  rw [f6] at n6
  rw [f7] at n7
  generalize hS4 : lay1 (lay1 S) = S4 at *
  have e1 := ap_loose (mu := false) (bytes := 8) (el := 54) (x := .msl (S ++ [Block.mp [] 0]).length 0 0 1 1 1) n6 (by rw [upd_same]; exact elems_lit (by rw [← l1]; simp)) rfl rfl (roomy_ok (by omega))
  generalize hS5 : S4.set 6 (.cells (r - 1 + 1) true (cF (r + 1) fun k => .map (upd nm r S.length k))) = S5 at *
  have b5 := set_get hS5 (by decide) b4
  have n75 := set_get hS5 (by decide) n7
  have l25 := set_get hS5 (by omega) l2
  have e2 := ap_loose (mu := false) (bytes := 8) (el := 54) (x := .msl (lay1 S ++ [Block.mp [] 0]).length 0 0 1 1 1) n75 (by rw [upd_same]; exact elems_lit (by rw [← l25]; simp)) rfl rfl (roomy_ok (by omega))
  generalize hS6 : S5.set 7 (.cells (r - 1 + 1) true (cF (r + 1) fun k => .map (upd om r (lay1 S).length k))) = S6 at *
  have b6 := set_get hS6 (by decide) b5
  have n86 := set_get hS6 (by decide) (set_get hS5 (by decide) n8)
  have e3 := ap_loose (mu := true) (bytes := 8) (el := 3) (x := .iv (.sl .full [[.int .i64 (r : Int)]])) n86 rfl rfl rfl (roomy_ok (by omega))
  generalize hS7 : S6.set 8 (.cells (r - 1 + 1) true (cF (r + 1) fun k => nI k)) = S7 at *
  have b7 := set_get hS7 (by decide) b6
  have g1 : ∀ b,(S7.set 1 b)[1]? = some b := fun b => get_setS (lt_get b7) b
  have g2 : ∀ b c,((S7.set 1 b).set 1 c)[1]? = some c := fun b c => get_setS (by simpa using lt_get b7) c
  have g3 : ∀ b c,(S7.set 1 b).set 1 c = S7.set 1 c := fun b c => by simp
  have hr1 : r - 1 + 1 = r := by omega
  rw [hr1] at e1 e2 e3 hS5 hS6 hS7
  have hB' : Bd (S7.set 1 (.cells 44 false [.iv (.int .i64 n),.iv (.sl t1 (E.map enc2)),.iv (.sl t2 (M.map enc2)),.msl 6 r 0 (r + 1) (r + 1) 1,.msl 7 r 0 (r + 1) (r + 1) 1,.msl 8 r 0 (r + 1) (r + 1) 1,.msl 0 0 0 n n 1])) n t1 E t2 M (r + 1) (upd nm r S.length) (upd om r (lay1 S).length) := by
   have hl4 : S4.length = S.length + 4 := by rw [← hS4,lay1_len,lay1_len]
   have old : ∀ i b,S4[i]? = some b → i ≠ 6 → i ≠ 7 → i ≠ 8 → i ≠ 1 → ∀ c,(S7.set 1 c)[i]? = some b := fun i b hb h6 h7 h8 h1 c => by
    rw [get_setN (Ne.symm h1),← hS7,get_setN (Ne.symm h8),← hS6,get_setN (Ne.symm h7),← hS5,get_setN (Ne.symm h6)]; exact hb
   refine ⟨g1 _,?_,?_,?_,?_,fun k hk => ?_,fun k hk => ?_,fun i j hi hj e => ?_,fun i j hi hj e => ?_,fun i j hi hj e => ?_⟩
   ·exact old _ _ (k4.get _ _ (by simp) hB.out) (by decide) (by decide) (by decide) (by decide) _
   ·rw [get_setN (by decide),← hS7,get_setN (by decide),← hS6,get_setN (by decide),← hS5,get_setS (by omega)]; rfl
   ·rw [get_setN (by decide),← hS7,get_setN (by decide),← hS6,get_setS (by rw [← hS5]; simp; omega)]; rfl
   ·rw [get_setN (by decide),← hS7,get_setS (by rw [← hS6,← hS5]; simp; omega)]; rfl
   ·by_cases e : k = r
    ·subst e; rw [upd_same]; exact old _ _ m1 (by omega) (by omega) (by omega) (by omega) _
    ·have h2 := hB.nms k (by omega)
     rw [upd_ne _ _ e]
     exact old _ _ (k4.get _ _ (by simp) h2) (blk_ne h2 hB.near (by simp)) (blk_ne h2 hB.own (by simp)) (blk_ne h2 hB.to (by simp)) (blk_ne h2 hB.blk (by simp)) _
   ·by_cases e : k = r
    ·subst e; rw [upd_same]; exact old _ _ m2 (by omega) (by omega) (by omega) (by omega) _
    ·have h2 := hB.oms k (by omega)
     rw [upd_ne _ _ e]
     exact old _ _ (k4.get _ _ (by simp) h2) (blk_ne h2 hB.near (by simp)) (blk_ne h2 hB.own (by simp)) (blk_ne h2 hB.to (by simp)) (blk_ne h2 hB.blk (by simp)) _
   ·unfold upd at e
    split at e <;> split at e
    ·omega
    ·have := nn j (by omega); omega
    ·have := nn i (by omega); omega
    ·exact hB.ninj i j (by omega) (by omega) e
   ·unfold upd at e
    split at e <;> split at e
    ·omega
    ·have := no j (by omega); omega
    ·have := no i (by omega); omega
    ·exact hB.oinj i j (by omega) (by omega) e
   ·unfold upd at e
    split at e <;> split at e
    ·omega
    ·have := no j (by omega); omega
    ·have := nn i (by omega); omega
    ·exact hB.dis i j (by omega) (by omega) e
  obtain ⟨y4,y8,S',nm',om',ih,hB2⟩ := step17 hn x0 x1 x2 x5 x9 x10 x11 x12 x13 k (r + 1) _ _ _ (.iv (.int .i64 r)) (.iv (.bool true)) (by omega) (by omega) hB'
  rw [show ((r + 1 : Nat) : Int) = (r : Int) + 1 by omega] at ih
  refine ⟨y4,y8,S',nm',om',loop_at K _ _ t17L1.eq_1 ?_,hB2⟩
  subst hS4
  unfold lay1 at b2 b4 e1 e2
  simp (config := { maxSteps := 4000000 }) (disch := omega) only [go_sem,b1,b2,b4,e1,b5,e2,b6,e3,b7,g1,g2,g3,wrap_i64]
  exact congrArg er ih
theorem app_get {S S' : Store} {X : Block} {j : Nat} {b : Block} (h : S ++ [X] = S') (hb : S[j]? = some b) : S'[j]? = some b := by
 rw [← h,List.getElem?_append_left (lt_get hb)]; exact hb
theorem app_new {S S' : Store} {X : Block} (h : S ++ [X] = S') : S'[S.length]? = some X := by rw [← h]; simp
theorem base17 {n : Nat} {t1 : Tag} {E : List (Int × Int)} {t2 : Tag} {M : List (Int × Int)} (hn : n ≤ 1000000) (h1 : 1 ≤ n) (x0 x1 x2 x5 x9 x10 x11 x12 x13 x4 x8 : TV) (S : Store) (hl : S.length = 2)
  (b0 : S[0]? = some (.cells 0 false (cF n fun _ => vI 0))) (b1 : S[1]? = some (.cells 44 false [.iv (.int .i64 n),.iv (.sl t1 (E.map enc2)),.iv (.sl t2 (M.map enc2)),.iv (.sl .nil []),.iv (.sl .nil []),.iv (.sl .nil []),.msl 0 0 0 n n 1])) :
  ∃ y4 y8 S' nm' om',lp' (lim K) t17L1 [x0,x1,x2,.ptr 1 44 0,x4,x5,.iv (.int .i64 n),.iv (.int .i64 0),x8,x9,x10,x11,x12,x13] S
   = .ret (.exit 0,[x0,x1,x2,.ptr 1 44 0,y4,x5,.iv (.int .i64 n),.iv (.int .i64 n),y8,x9,x10,x11,x12,x13],S') ∧ Bd S' n t1 E t2 M n nm' om' := by
 have k2 := lay1_keep S
 have k4 := k2.trans (lay1_keep (lay1 S))
 have b2 := k2.get _ _ (by simp) b1
 have b4 := k4.get _ _ (by simp) b1
 have hL2 := lay1_len S
 have hL4 : (lay1 (lay1 S)).length = 6 := by rw [lay1_len,lay1_len,hl]
 have m1 := (lay1_keep (lay1 S)).get _ _ (by simp) (lay1_mp S)
 have m2 := lay1_mp (lay1 S)
 have l1 := (lay1_keep (lay1 S)).get _ _ (by simp) (lay1_lit S)
 have l2 := lay1_lit (lay1 S)
 have o4 := k4.get _ _ (by simp) b0
 generalize hS4 : lay1 (lay1 S) = S4 at *
 have e1 := ap_first (mu := false) (bytes := 8) (el := 54) (S := S4) (f := fun _ => .map S.length) (x := .msl (S ++ [Block.mp [] 0]).length 0 0 1 1 1) (elems_lit (by rw [← l1]; simp)) rfl rfl (roomy_ok (by omega)) (.inr rfl)
 generalize hS5 : S4 ++ [.cells 0 true (cF 1 fun _ => .map S.length)] = S5 at *
 have hL5 : S5.length = 7 := by rw [← hS5]; simp [hL4]
 have b5 := app_get hS5 b4
 have l25 := app_get hS5 l2
 have e2 := ap_first (mu := false) (bytes := 8) (el := 54) (S := S5) (f := fun _ => .map (lay1 S).length) (x := .msl (lay1 S ++ [Block.mp [] 0]).length 0 0 1 1 1) (elems_lit (by rw [← l25]; simp)) rfl rfl (roomy_ok (by omega)) (.inr rfl)
 generalize hS6 : S5 ++ [.cells 0 true (cF 1 fun _ => .map (lay1 S).length)] = S6 at *
 have hL6 : S6.length = 8 := by rw [← hS6]; simp [hL5]
 have b6 := app_get hS6 b5
 have e3 := ap_first (mu := true) (bytes := 8) (el := 3) (S := S6) (f := fun k => nI k) (x := .iv (.sl .full [[.int .i64 (0 : Int)]])) rfl rfl rfl (roomy_ok (by omega)) (.inl rfl)
 generalize hS7 : S6 ++ [.cells 0 true (cF 1 fun k => nI k)] = S7 at *
 have b7 := app_get hS7 b6
 rw [hL4] at e1
 rw [hL5] at e2
 rw [hL6] at e3
 have g1 : ∀ b,(S7.set 1 b)[1]? = some b := fun b => get_setS (lt_get b7) b
 have g2 : ∀ b c,((S7.set 1 b).set 1 c)[1]? = some c := fun b c => get_setS (by simpa using lt_get b7) c
 have g3 : ∀ b c,(S7.set 1 b).set 1 c = S7.set 1 c := fun b c => by simp
 have hB' : Bd (S7.set 1 (.cells 44 false [.iv (.int .i64 n),.iv (.sl t1 (E.map enc2)),.iv (.sl t2 (M.map enc2)),.msl 6 0 0 1 1 1,.msl 7 0 0 1 1 1,.msl 8 0 0 1 1 1,.msl 0 0 0 n n 1])) n t1 E t2 M 1 (fun _ => S.length) (fun _ => (lay1 S).length) := by
  have old : ∀ i b,S4[i]? = some b → i ≠ 1 → ∀ c,(S7.set 1 c)[i]? = some b := fun i b hb h1 c => by
   rw [get_setN (Ne.symm h1)]; exact app_get hS7 (app_get hS6 (app_get hS5 hb))
  have w6 := app_new hS5
  have w7 := app_new hS6
  have w8 := app_new hS7
  rw [hL4] at w6
  rw [hL5] at w7
  rw [hL6] at w8
  refine ⟨g1 _,?_,?_,?_,?_,fun k hk => ?_,fun k hk => ?_,fun i j hi hj e => by omega,fun i j hi hj e => by omega,fun i j hi hj e => by omega⟩
  ·exact old _ _ o4 (by decide) _
  ·rw [get_setN (by decide)]; exact app_get hS7 (app_get hS6 w6)
  ·rw [get_setN (by decide)]; exact app_get hS7 w7
  ·rw [get_setN (by decide)]; exact w8
  ·exact old _ _ m1 (by omega) _
  ·exact old _ _ m2 (by omega) _
 obtain ⟨y4,y8,S',nm',om',ih,hB2⟩ := step17 hn x0 x1 x2 x5 x9 x10 x11 x12 x13 (n - 1) 1 _ _ _ (.iv (.int .i64 0)) (.iv (.bool true)) (by omega) (by omega) hB'
 rw [show ((1 : Nat) : Int) = 1 from rfl] at ih
 refine ⟨y4,y8,S',nm',om',loop_at K _ _ t17L1.eq_1 ?_,hB2⟩
 subst hS4
 unfold lay1 at b2 b4 e1 e2
 simp (config := { maxSteps := 4000000 }) (disch := omega) only [go_sem,b1,b2,b4,e1,b5,e2,b6,e3,b7,g1,g2,g3,wrap_i64]
 exact congrArg er ih
theorem PT.setM {S : Store} {a : Ad} {p : Pn} (h : PT S a p) {r : Nat} (hr : r < p.n) {b : Block} {f : Nat → Bool} (hm : MapOf (S.set (a.om r) b) (a.om r) p.n f) : PT (S.set (a.om r) b) a { p with own := upd p.own r f } := by
 have ho := h.nmo (h.omap r hr)
 simp only [Ad.own,List.mem_cons,List.not_mem_nil,or_false,not_or] at ho
 obtain ⟨o1,o2,o3,o4,o5⟩ := ho
 refine ⟨?_,?_,?_,?_,?_,fun s hs => ?_,fun s hs => ?_,h.ninj,h.oinj,h.dis,h.nd⟩
 ·rw [get_setN o1]; exact h.blk
 ·rw [get_setN o2]; exact h.near
 ·rw [get_setN o3]; exact h.own
 ·rw [get_setN o4]; exact h.to
 ·rw [get_setN o5]; exact h.out
 ·obtain ⟨l,c,h1,h2,h3⟩ := h.nmap s hs
  exact ⟨l,c,by rw [get_setN (Ne.symm (h.dis s r hs hr))]; exact h1,h2,h3⟩
 ·by_cases e : s = r
  ·subst e; simpa [upd_same] using hm
  ·have hne : a.om r ≠ a.om s := fun e2 => e (h.oinj _ _ hr hs e2).symm
   obtain ⟨l,c,h1,h2,h3⟩ := h.omap s hs
   simp only [upd_ne _ _ e]
   exact ⟨l,c,by rw [get_setN hne]; exact h1,h2,h3⟩
def isV (e : Int) : Bool := isCol e || decide (32 ≤ e)
def adj1 (e : Int × Int) (r s : Nat) : Bool := isV e.1 && isV e.2 && (decide (e.1 = r) && decide (e.2 = s) || decide (e.1 = s) && decide (e.2 = r))
def adjL (E : List (Int × Int)) (r s : Nat) : Bool := E.any fun e => adj1 e r s
theorem adjL_snoc (E : List (Int × Int)) (e : Int × Int) : adjL (E ++ [e]) = fun r s => adjL E r s || adj1 e r s := by
 funext r s; simp [adjL]
theorem link_adj (f : Nat → Nat → Bool) {x y : Nat} (h : x ≠ y) {e : Int × Int} (h1 : e.1 = x) (h2 : e.2 = y) (hv : isV e.1 = true ∧ isV e.2 = true) : link f x y = fun r s => f r s || adj1 e r s := by
 funext r s
 rw [link_at f h,adj1,hv.1,hv.2,h1,h2]
 simp only [Bool.and_self,Bool.true_and]
 congr 1
 by_cases a : r = x <;> by_cases b : s = y <;> by_cases c : r = y <;> by_cases d : s = x <;> simp [a,b,c,d] <;> omega
theorem no_adj (f : Nat → Nat → Bool) {e : Int × Int} (hv : (isV e.1 && isV e.2) = false) : (fun r s => f r s || adj1 e r s) = f := by
 funext r s
 rw [adj1,hv]; simp
def EdOK (n : Nat) (E : List (Int × Int)) : Prop := ∀ e ∈ E,∃ x y : Nat,e.1 = x ∧ e.2 = y ∧ x < n ∧ y < n ∧ x ≠ y
theorem loop17e {n : Nat} {tE : Tag} {E : List (Int × Int)} {tM : Tag} {M : List (Int × Int)} (hn : n ≤ 1000000) (hE : E.length ≤ 1000000) (hok : EdOK n E) (x0 x1 x2 x4 x6 x7 x8 : TV) : ∀ (k i : Nat) (a : Ad) (f : Nat → Nat → Bool) (S : Store) (x5 x12 x13 : TV),i + k = E.length → PT S a ⟨n,tE,E,tM,M,f,f,fun r => r,fun _ => 0⟩ → f = adjL (E.take i) →
  ∃ y5 y12 y13 S',lp' (lim K) t17L0 [x0,x1,x2,.ptr a.ip 44 0,x4,x5,x6,x7,x8,.iv (.sl tE (E.map enc2)),.iv (.int .i64 E.length),.iv (.int .i64 i),x12,x13] S
   = .ret (.exit 2,[x0,x1,x2,.ptr a.ip 44 0,x4,y5,x6,x7,x8,.iv (.sl tE (E.map enc2)),.iv (.int .i64 E.length),.iv (.int .i64 E.length),y12,y13],S') ∧ PT S' a ⟨n,tE,E,tM,M,adjL E,adjL E,fun r => r,fun _ => 0⟩
 | 0,i,a,f,S,x5,x12,x13,h,hP,hf => by
  obtain rfl : i = E.length := by omega
  rw [List.take_length] at hf
  subst hf
  refine ⟨x5,.iv (.bool false),x13,S,loop_at K _ _ t17L0.eq_1 ?_,hP⟩
  simp (config := { maxSteps := 4000000 }) (disch := omega) only [go_sem]
 | k + 1,i,a,f,S,x5,x12,x13,h,hP,hf => by
  have hla : i < E.length := by omega
  have hix := ix_map (w := 2) (f := enc2) (fun _ => rfl) (t := tE) (l := E) (i := (i : Int)) (by omega)
  rw [Int.toNat_natCast] at hix
  have hmem : E.getD i default ∈ E := by
   simp only [List.getD,List.getElem?_eq_getElem hla,Option.getD_some]; exact List.getElem_mem _
  have htk : E.take (i + 1) = E.take i ++ [E.getD i default] := by
   rw [List.take_add_one]
   simp [List.getD,List.getElem?_eq_getElem hla]
  generalize E.getD i default = e at *
  obtain ⟨x,y,hx,hy,hxn,hyn,hxy⟩ := hok e hmem
  have hs := adjL_snoc (E.take i) e
  rw [← htk,← hf] at hs
  have c1 := call24 (x : Int)
  have c2 := call24 (y : Int)
  rw [enc2,hx,hy] at hix
  have ih := fun f' S' x5 x12 x13 => loop17e (tE := tE) (tM := tM) (M := M) hn hE hok x0 x1 x2 x4 x6 x7 x8 k (i + 1) a f' S' x5 x12 x13 (by omega)
  rw [show ((i + 1 : Nat) : Int) = (i : Int) + 1 by omega] at ih
  cases hv : (isV e.1 && isV e.2) with
  | false =>
   rw [no_adj f hv] at hs
   have ih := fun b => ih f S (.lb [.iv (.int .i64 x),.iv (.int .i64 y)]) (.iv (.bool true)) (.iv (.bool b)) hP hs.symm
   rw [hx,hy] at hv
   unfold isV at hv
   obtain ⟨y5,y12,y13,S',ih,hP'⟩ := ih false
   refine ⟨y5,y12,y13,S',loop_at K _ _ t17L0.eq_1 ?_,hP'⟩
   cases h1 : isCol (x : Int) with
   | true =>
    rw [h1] at c1 hv
    cases h2 : isCol (y : Int) with
    | true => rw [h2] at hv; simp at hv
    | false =>
     rw [h2] at c2 hv
     have hy32 : ¬ (32 : Int) ≤ y := by simpa using hv
     simp (config := { maxSteps := 4000000 }) (disch := omega) only [go_sem,hix,cpR_pure c1,cpR_pure c2,wrap_i64,ge_iff_le]
     exact congrArg er ih
   | false =>
    rw [h1] at c1 hv
    by_cases hx32 : (32 : Int) ≤ x
    ·cases h2 : isCol (y : Int) with
     | true => rw [h2] at hv; simp at hv; omega
     | false =>
      rw [h2] at c2 hv
      have hy32 : ¬ (32 : Int) ≤ y := by
       intro h3
       simp at hv; omega
      simp (config := { maxSteps := 4000000 }) (disch := omega) only [go_sem,hix,cpR_pure c1,cpR_pure c2,wrap_i64,ge_iff_le]
      exact congrArg er ih
    ·simp (config := { maxSteps := 4000000 }) (disch := omega) only [go_sem,hix,cpR_pure c1,cpR_pure c2,wrap_i64,ge_iff_le]
     exact congrArg er ih
  | true =>
   rw [Bool.and_eq_true] at hv
   have hl := link_adj f hxy hx hy hv
   rw [← hl] at hs
   obtain ⟨S1,c28,hP1,hk1⟩ := call28 hP (Nat.le_trans hn (by decide)) hxn hyn hxy
   obtain ⟨l,c,o1,o2,o3⟩ := hP1.omap x hxn
   have hm := MapOf.put o1 o2 o3 y hyn (Nat.le_trans hn (by decide)) (IntKind.i64.wrap (cntR l y + 1))
   have hP2 := hP1.setM hxn hm
   obtain ⟨l',c',q1,q2,q3⟩ := hP2.omap y hyn
   simp only [upd_ne _ _ (Ne.symm hxy)] at q3
   have hm2 := MapOf.put q1 q2 q3 x hxn (Nat.le_trans hn (by decide)) (IntKind.i64.wrap (cntR l' x + 1))
   have hP3 := hP2.setM hyn hm2
   have b1 := hP1.blk
   have b2 := hP1.own
   have b3 := hP2.blk
   have b4 := hP2.own
   have i1 := ix_cF (j := a.jo) (v := a.vo) hxn
   have i2 := ix_cF (j := a.jo) (v := a.vo) hyn
   have s1 := sub_cF (fun r => TV.map (a.om r)) hxn
   have s2 := sub_cF (fun r => TV.map (a.om r)) hyn
   simp only [pcells] at b1 b3
   obtain ⟨y5,y12,y13,S',ih,hP'⟩ := ih (link f x y) _ (.lb [.iv (.int .i64 x),.iv (.int .i64 y)]) (.iv (.bool true)) (.iv (.bool true)) hP3 hs.symm
   refine ⟨y5,y12,y13,S',loop_at K _ _ t17L0.eq_1 ?_,hP'⟩
   rw [hx,hy] at hv
   unfold isV at hv
   cases h1 : isCol (x : Int) with
   | true =>
    rw [h1] at c1 hv
    cases h2 : isCol (y : Int) with
    | true =>
     rw [h2] at c2
     simp (config := { maxSteps := 4000000 }) (disch := omega) only [go_sem,hix,cpR_pure c1,cpR_pure c2,wrap_i64,ge_iff_le,c28,b1,b2,i1,i2,s1,s2,o1,b3,b4,q1]
     exact congrArg er ih
    | false =>
     rw [h2] at c2 hv
     have hy32 : (32 : Int) ≤ y := by simpa using hv.2
     simp (config := { maxSteps := 4000000 }) (disch := omega) only [go_sem,hix,cpR_pure c1,cpR_pure c2,wrap_i64,ge_iff_le,c28,b1,b2,i1,i2,s1,s2,o1,b3,b4,q1]
     exact congrArg er ih
   | false =>
    rw [h1] at c1 hv
    have hx32 : (32 : Int) ≤ x := by simpa using hv.1
    cases h2 : isCol (y : Int) with
    | true =>
     rw [h2] at c2
     simp (config := { maxSteps := 4000000 }) (disch := omega) only [go_sem,hix,cpR_pure c1,cpR_pure c2,wrap_i64,ge_iff_le,c28,b1,b2,i1,i2,s1,s2,o1,b3,b4,q1]
     exact congrArg er ih
    | false =>
     rw [h2] at c2 hv
     have hy32 : (32 : Int) ≤ y := by simpa using hv.2
     simp (config := { maxSteps := 4000000 }) (disch := omega) only [go_sem,hix,cpR_pure c1,cpR_pure c2,wrap_i64,ge_iff_le,c28,b1,b2,i1,i2,s1,s2,o1,b3,b4,q1]
     exact congrArg er ih
def pn0 (n : Nat) (tE : Tag) (E : List (Int × Int)) (tM : Tag) (M : List (Int × Int)) : Pn := ⟨n,tE,E,tM,M,adjL E,adjL E,fun r => r,fun _ => 0⟩
theorem mkV_n {z : IV} {bytes m n : Nat} (hr : roomy n bytes = true) : mkV [z] bytes m (.iv (.int .i64 n)) (.iv (.int .i64 n)) = some (.msl m 0 0 n n 1,.cells 0 false (cF n fun _ => .iv z)) := by
 have hz := zerosF (.iv z) n
 simp [mkV,intOf,hr,hz]
theorem call17 {n : Nat} {tE : Tag} {E : List (Int × Int)} {tM : Tag} {M : List (Int × Int)} (hn : n ≤ 1000000) (h1 : 32 ≤ n) (hE : E.length ≤ 1000000) (hok : EdOK n E) :
  ∃ S' a,(lim K).call 17 [.iv (gv n tE E tM M)] [] = .ret (.ptr a.ip 44 0,S') ∧ PT S' a (pn0 n tE E tM M) := by
 obtain ⟨y4,y8,S1,nm,om,l1,hB⟩ := base17 (t1 := tE) (E := E) (t2 := tM) (M := M) hn (by omega) (.iv (gv n tE E tM M)) (.lb (gcells n tE E tM M)) (.iv .nilp) (.tup []) (.tup []) (.tup []) (.tup []) (.tup []) (.tup []) (.tup []) (.tup []) [.cells 0 false (cF n fun _ => vI 0),.cells 44 false [.iv (.int .i64 n),.iv (.sl tE (E.map enc2)),.iv (.sl tM (M.map enc2)),.iv (.sl .nil []),.iv (.sl .nil []),.iv (.sl .nil []),.msl 0 0 0 n n 1]] rfl rfl rfl
 obtain ⟨y5,y12,y13,S2,l2,hP⟩ := loop17e (tE := tE) (tM := tM) (M := M) hn hE hok (.iv (gv n tE E tM M)) (.lb (gcells n tE E tM M)) (.iv .nilp) y4 (.iv (.int .i64 n)) (.iv (.int .i64 n)) y8 E.length 0 ⟨1,6,n - 1,7,n - 1,8,n - 1,0,nm,om⟩ (fun _ _ => false) S1 (.tup []) (.tup []) (.tup []) (by omega) hB.pt (by funext r s; simp [adjL])
 rw [show ((0 : Nat) : Int) = 0 from rfl] at l2
 refine ⟨S2,⟨1,6,n - 1,7,n - 1,8,n - 1,0,nm,om⟩,call_ret' K _ (fn := t17) rfl rfl ?_,hP⟩
 have hz := fun m => mkV_n (z := .int .i64 0) (m := m) (roomy_ok (n := n) (b := 8) (by omega))
 unfold vI at l1
 unfold gcells gv at l1 l2
 unfold gv
 simp (config := { maxSteps := 4000000 }) (disch := omega) only [t17,go_sem,TM.undef,hz]
 rw [l1]
 simp (config := { maxSteps := 4000000 }) (disch := omega) only [go_sem,List.length_map]
 rw [l2]
 simp (config := { maxSteps := 4000000 }) (disch := omega) only [go_sem]
theorem isV_vtx {n : Nat} {x : Nat} (hx : x < n) (h : isV (x : Int) = true) : vtx n x := by
 unfold isV isCol at h
 refine ⟨hx,?_⟩
 simp at h; omega
theorem adjL_sym (E : List (Int × Int)) (r s : Nat) : adjL E r s = adjL E s r := by
 unfold adjL
 congr 1
 funext e
 unfold adj1
 congr 1
 rw [Bool.or_comm]
theorem adjL_ok {n : Nat} {E : List (Int × Int)} (hok : EdOK n E) {r s : Nat} (h : adjL E r s = true) : r ≠ s ∧ vtx n r ∧ vtx n s ∧ ∃ e ∈ E,e.1 = r ∧ e.2 = s ∨ e.1 = s ∧ e.2 = r := by
 obtain ⟨e,he,h1⟩ := List.any_eq_true.1 h
 obtain ⟨x,y,hx,hy,hxn,hyn,hxy⟩ := hok e he
 unfold adj1 at h1
 rw [hx,hy] at h1
 simp only [Bool.and_eq_true,Bool.or_eq_true,decide_eq_true_eq] at h1
 obtain ⟨⟨h2,h3⟩,h4⟩ := h1
 have v1 := isV_vtx hxn h2
 have v2 := isV_vtx hyn h3
 rcases h4 with ⟨h4,h5⟩ | ⟨h4,h5⟩
 ·obtain rfl : x = r := by omega
  obtain rfl : y = s := by omega
  exact ⟨hxy,v1,v2,e,he,.inl ⟨hx,hy⟩⟩
 ·obtain rfl : x = s := by omega
  obtain rfl : y = r := by omega
  exact ⟨Ne.symm hxy,v2,v1,e,he,.inr ⟨hx,hy⟩⟩
theorem inv0 {n : Nat} {tE : Tag} {E : List (Int × Int)} {tM : Tag} {M : List (Int × Int)} (hok : EdOK n E) : Inv (pn0 n tE E tM M) (fun r => r) (fun _ => 0) :=
 ⟨⟨fun r _ h => absurd rfl h,fun r _ _ => rfl⟩,fun r s _ _ h => by rw [← h]; exact adjL_sym E s r,fun r => by
  cases h : (pn0 n tE E tM M).near r r with
  | false => rfl
  | true => exact absurd rfl (adjL_ok hok h).1,fun r s _ _ h => ⟨rfl,(adjL_ok hok h).2.1⟩,fun r s _ _ h => h,fun _ _ _ => rfl,fun _ _ h => h⟩
def ListV (lv : TV) (l : List Nat) : Prop := (∃ t,lv = .iv (.sl t (encN l))) ∨ ∃ j,lv = .tsl j (encN l)
theorem ListV.acc (j : Nat) (l : List Nat) : ListV (acc j (encN l)) l := by
 by_cases h : encN l = []
 ·rw [h,acc_nil]; exact .inl ⟨.nil,by rw [h]⟩
 ·rw [acc_ne _ h]; exact .inr ⟨j,rfl⟩
theorem ix_encN {t : Tag} {l : List Nat} {i : Nat} (h : i < l.length) : indexAddrS 1 (.iv (.sl t (encN l))) (i : Int) = some (.iv (.cp [.int .i64 (l.getD i default : Nat)])) := by
 have := ix_map (w := 1) (f := fun m : Nat => [IV.int .i64 (m : Int)]) (fun _ => rfl) (t := t) (l := l) (i := (i : Int)) (by omega)
 rwa [Int.toNat_natCast] at this
theorem ix_encT {j : Nat} {l : List Nat} {i : Nat} (h : i < l.length) : indexAddrS 1 (.tsl j (encN l)) (i : Int) = some (.iv (.cp [.int .i64 (l.getD i default : Nat)])) := ix_encN (t := .no) h
def bI (b : Bool) : TV := .iv (.bool b)
def tak1 (p : Pn) (m : Nat) (c : Nat) : Prop := ∃ t,t < p.n ∧ p.own m t = true ∧ p.out t = c ∧ 1 ≤ c ∧ c ≤ 24
def e40 (a : Ad) (lv x2 : TV) (T : Nat → Bool) (x4 x5 x6 x7 x8 x9 x10 x11 x12 x13 x14 x15 : TV) : List TV := [.ptr a.ip 44 0,lv,x2,.lb (cF 25 fun c => bI (T c)),x4,x5,x6,x7,x8,x9,x10,x11,x12,x13,x14,x15]
theorem loop40m {a : Ad} {p : Pn} {lv : TV} {r : Nat} (hr : r < p.n) {bi c : Nat} {l : List (Nat × Int × Int)} (ho : RowsOK l c) (hf : ∀ t : Int,hasR l t = true ↔ ∃ s : Nat,t = s ∧ s < p.n ∧ p.own r s = true) (x2 x4 x6 x7 x8 x9 x10 x14 x15 : TV) :
  ∀ (k : Nat) (seen : List Nat) (T : Nat → Bool) (S : Store) (x5 x12 x13 : TV),left l seen < k → PT S a p → S[bi]? = some (.mit (some (a.om r)) c seen c) → S[a.om r]? = some (.mp (mpR vI l) c) →
  (lp' (lim K) t40L1 (e40 a lv x2 T x4 x5 x6 x7 x8 x9 x10 (.it bi) x12 x13 x14 x15) S).All fun q => ∃ T' y5 y12 y13,Keep [bi] S q.2.2 ∧ q.1 = .exit 2 ∧
   q.2.1 = e40 a lv x2 T' x4 y5 x6 x7 x8 x9 x10 (.it bi) y12 y13 x14 x15 ∧ ∀ c : Nat,T' c = true ↔ T c = true ∨ ∃ z ∈ l,z.1 ∉ seen ∧ p.out z.2.1.toNat = c ∧ 1 ≤ c ∧ c ≤ 24
 | 0,seen,T,S,x5,x12,x13,hk,hP,hb,hm => by omega
 | k + 1,seen,T,S,x5,x12,x13,hk,hP,hb,hm => by
  unfold e40
  refine lp_all t40L1.eq_1 ?_
  simp (config := { maxSteps := 4000000 }) (disch := omega) only [go_sem]
  refine rnd_next_all hb hm ho.born (Nat.le_refl _) (fun hall => ?_) (fun z hz hs => ?_)
  ·simp (config := { maxSteps := 4000000 }) (disch := omega) only [go_sem]
   exact all_ret ⟨T,_,_,_,.refl _ _,rfl,rfl,fun c => ⟨.inl,fun h => h.elim id fun ⟨z,hz,hs,_⟩ => absurd (hall z hz) hs⟩⟩
  ·have hlt := left_lt hz hs
   have hbm : bi ≠ a.om r := blk_ne hb hm (by simp)
   have hP' := hP.setIt hb (.mit (some (a.om r)) c (seen ++ [z.1]) c)
   have hb' : (S.set bi (.mit (some (a.om r)) c (seen ++ [z.1]) c))[bi]? = _ := get_setS (lt_get hb) _
   have hm' : (S.set bi (.mit (some (a.om r)) c (seen ++ [z.1]) c))[a.om r]? = some (.mp (mpR vI l) c) := by rw [get_setN hbm]; exact hm
   have he := enV_it hb' hm' hz ho.once
   have hkp : Keep [bi] S (S.set bi (.mit (some (a.om r)) c (seen ++ [z.1]) c)) := Keep.set _ (by simp) _
   generalize S.set bi (.mit (some (a.om r)) c (seen ++ [z.1]) c) = S1 at *
   obtain ⟨t,ht,htn,htf⟩ := key_at hf hz
   have b1 := hP'.blk
   have b2 := hP'.out
   have i1 := ix_cF (j := a.ju) (v := 0) htn
   have s1 := sub_cF (fun r => vI (p.out r)) htn
   have c24 := call24 (p.out t)
   simp only [pcells] at b1
   simp only [vI] at b2 s1
   rw [ht] at he
   have hstep : ∀ (T1 T' : Nat → Bool),(∀ c : Nat,T1 c = true ↔ T c = true ∨ p.out t = c ∧ 1 ≤ c ∧ c ≤ 24) → (∀ c : Nat,T' c = true ↔ T1 c = true ∨ ∃ w ∈ l,w.1 ∉ seen ++ [z.1] ∧ p.out w.2.1.toNat = c ∧ 1 ≤ c ∧ c ≤ 24) → ∀ c : Nat,T' c = true ↔ T c = true ∨ ∃ z ∈ l,z.1 ∉ seen ∧ p.out z.2.1.toNat = c ∧ 1 ≤ c ∧ c ≤ 24 := by
    intro T1 T' h1 h2 c
    rw [h2 c,h1 c]
    constructor
    ·rintro ((h | h) | ⟨w,hw,hws,h⟩)
     ·exact .inl h
     ·exact .inr ⟨z,hz,hs,by rw [ht,Int.toNat_natCast]; exact h⟩
     ·exact .inr ⟨w,hw,fun e => hws (by simp [e]),h⟩
    ·rintro (h | ⟨w,hw,hws,h⟩)
     ·exact .inl (.inl h)
     ·by_cases e : w.1 = z.1
      ·have := nodup_eq ho.once hw hz e
       subst this
       rw [ht,Int.toNat_natCast] at h
       exact .inl (.inr h)
      ·exact .inr ⟨w,hw,by simp [hws,e],h⟩
   rw [ht]
   cases hc : isCol (p.out t) with
   | false =>
    rw [hc] at c24
    have ih := loop40m (lv := lv) hr ho hf x2 x4 x6 x7 x8 x9 x10 x14 x15 k (seen ++ [z.1]) T S1 (.iv (.int .i64 t)) (.iv (.bool true)) (.iv (.bool false)) (by omega) hP' hb' hm'
    unfold e40 at ih
    simp (config := { maxSteps := 4000000 }) (disch := omega) only [go_sem,he,b1,b2,i1,s1,cpR_pure c24]
    refine all_er (Out.all_mono ?_ ih)
    rintro q ⟨T',y5,y12,y13,k1,e1,e2,h1⟩
    refine ⟨T',y5,y12,y13,hkp.trans k1,e1,e2,hstep T T' (fun c => ⟨.inl,fun h => h.elim id fun h => ?_⟩) h1⟩
    unfold isCol at hc
    simp at hc; omega
   | true =>
    rw [hc] at c24
    have hc' : 1 ≤ p.out t ∧ p.out t ≤ 24 := by unfold isCol at hc; simpa using hc
    obtain ⟨o,ho'⟩ : ∃ o : Nat,p.out t = o := ⟨(p.out t).toNat,by omega⟩
    rw [ho'] at c24 s1 hc'
    have ho25 : o < 25 := by omega
    have hpt := put_cF (fun c => bI (T c)) (bI true) ho25
    rw [upd_comp bI] at hpt
    have ih := loop40m (lv := lv) hr ho hf x2 x4 x6 x7 x8 x9 x10 x14 x15 k (seen ++ [z.1]) (upd T o true) S1 (.iv (.int .i64 t)) (.iv (.bool true)) (.iv (.bool true)) (by omega) hP' hb' hm'
    unfold e40 at ih
    rw [show bI true = .iv (.bool true) from rfl] at hpt
    simp (config := { maxSteps := 4000000 }) (disch := omega) only [go_sem,he,b1,b2,i1,s1,cpR_pure c24,hpt,Int.toNat_natCast,Nat.mul_one,Nat.zero_add]
    refine all_er (Out.all_mono ?_ ih)
    rintro q ⟨T',y5,y12,y13,k1,e1,e2,h1⟩
    refine ⟨T',y5,y12,y13,hkp.trans k1,e1,e2,hstep _ T' (fun c => ?_) h1⟩
    unfold upd
    split
    ·rename_i e; subst e; simp [ho']; omega
    ·rename_i e; rw [ho']; constructor
     ·exact .inl
     ·rintro (h | ⟨h,_⟩)
      ·exact h
      ·omega
theorem loop40l {a : Ad} {p : Pn} {lv : TV} {l : List Nat} (hlv : ListV lv l) (hll : l.length ≤ 1000000) (hln : ∀ m ∈ l,m < p.n) (x2 x6 x14 x15 : TV) :
  ∀ (k i : Nat) (T : Nat → Bool) (S : Store) (x4 x5 x10 x11 x12 x13 : TV),i + k = l.length → PT S a p →
  (lp' (lim K) t40L2 (e40 a lv x2 T x4 x5 x6 lv (.iv (.int .i64 l.length)) (.iv (.int .i64 i)) x10 x11 x12 x13 x14 x15) S).All fun q => ∃ T' y4 y5 y10 y11 y12 y13,Keep [] S q.2.2 ∧ q.1 = .exit 0 ∧
   q.2.1 = e40 a lv x2 T' y4 y5 x6 lv (.iv (.int .i64 l.length)) (.iv (.int .i64 l.length)) y10 y11 y12 y13 x14 x15 ∧ ∀ c : Nat,T' c = true ↔ T c = true ∨ ∃ m ∈ l.drop i,tak1 p m c
 | 0,i,T,S,x4,x5,x10,x11,x12,x13,h,hP => by
  obtain rfl : i = l.length := by omega
  unfold e40
  refine lp_all t40L2.eq_1 ?_
  rcases hlv with ⟨t,rfl⟩ | ⟨j,rfl⟩
  ·simp (config := { maxSteps := 4000000 }) (disch := omega) only [go_sem]
   exact all_ret ⟨T,_,_,_,_,_,_,.refl _ _,rfl,rfl,fun c => by rw [List.drop_length]; simp⟩
  ·simp (config := { maxSteps := 4000000 }) (disch := omega) only [go_sem]
   exact all_ret ⟨T,_,_,_,_,_,_,.refl _ _,rfl,rfl,fun c => by rw [List.drop_length]; simp⟩
 | k + 1,i,T,S,x4,x5,x10,x11,x12,x13,h,hP => by
  have hla : i < l.length := by omega
  have hdr : l.drop i = l.getD i default :: l.drop (i + 1) := by
   rw [List.drop_eq_getElem_cons hla]
   simp [List.getD,List.getElem?_eq_getElem hla]
  have hx1 := fun t => ix_encN (t := t) hla
  have hx2 := fun j => ix_encT (j := j) hla
  have hr : l.getD i default < p.n := hln _ (by simp only [List.getD,List.getElem?_eq_getElem hla,Option.getD_some]; exact List.getElem_mem _)
  generalize l.getD i default = r at *
  obtain ⟨lo,c,o1,o2,o3⟩ := hP.omap r hr
  have b1 := hP.blk
  have b2 := hP.own
  have i1 := ix_cF (j := a.jo) (v := a.vo) hr
  have s1 := sub_cF (fun r => TV.map (a.om r)) hr
  simp only [pcells] at b1
  have rg := rangeV_map o1
  have k1 := Keep.app [] S [Block.mit (some (a.om r)) c [] c]
  have l1 := loop40m (lv := lv) hr o2 o3 x2 (.iv (.int .i64 r)) x6 lv (.iv (.int .i64 l.length)) (.iv (.int .i64 i)) (.iv (.bool true)) x14 x15 (left lo [] + 1) [] T (S ++ [.mit (some (a.om r)) c [] c]) x5 x12 x13 (by omega) (hP.keep k1) (get_app1 _ _) (k1.get _ _ (by simp) o1)
  have ih := fun T' S' x4 x5 x10 x11 x12 x13 => loop40l (a := a) hlv hll hln x2 x6 x14 x15 k (i + 1) T' S' x4 x5 x10 x11 x12 x13 (by omega)
  rw [show ((i + 1 : Nat) : Int) = (i : Int) + 1 by omega] at ih
  unfold e40 at ih l1 ⊢
  refine lp_all t40L2.eq_1 ?_
  have fin : ∀ (T1 T' : Nat → Bool),(∀ c : Nat,T1 c = true ↔ T c = true ∨ ∃ z ∈ lo,z.1 ∉ ([] : List Nat) ∧ p.out z.2.1.toNat = c ∧ 1 ≤ c ∧ c ≤ 24) → (∀ c : Nat,T' c = true ↔ T1 c = true ∨ ∃ m ∈ l.drop (i + 1),tak1 p m c) → ∀ c : Nat,T' c = true ↔ T c = true ∨ ∃ m ∈ l.drop i,tak1 p m c := by
   intro T1 T' h1 h2 c
   rw [h2 c,h1 c,hdr]
   have e : (∃ z ∈ lo,z.1 ∉ ([] : List Nat) ∧ p.out z.2.1.toNat = c ∧ 1 ≤ c ∧ c ≤ 24) ↔ tak1 p r c := by
    constructor
    ·rintro ⟨z,hz,_,h3,h4⟩
     obtain ⟨t,ht,htn,htf⟩ := key_at o3 hz
     rw [ht,Int.toNat_natCast] at h3
     exact ⟨t,htn,htf,h3,h4⟩
    ·rintro ⟨t,htn,htf,h3,h4⟩
     obtain ⟨z,hz,hzt⟩ := List.mem_map.1 (hasR_iff.1 ((has_at o3 htn).trans htf))
     exact ⟨z,hz,by simp,by rw [hzt,Int.toNat_natCast]; exact h3,h4⟩
   rw [e]
   simp only [List.mem_cons,exists_eq_or_imp,or_assoc]
  rcases hlv with ⟨t,rfl⟩ | ⟨j,rfl⟩
  ·simp (config := { maxSteps := 4000000 }) (disch := omega) only [go_sem,hx1,b1,b2,i1,s1,rg]
   refine rnd_goL_all l1 ?_
   rintro j e S1 ⟨T1,y5,y12,y13,hk,e1,e2,h1⟩
   dsimp only at e1 e2 hk
   subst e1 e2
   simp (config := { maxSteps := 4000000 }) (disch := omega) only [go_sem,wrap_i64]
   refine all_er (Out.all_mono ?_ (ih T1 S1 _ _ _ _ _ _ (hP.keep (keep_new hk))))
   rintro q ⟨T',z4,z5,z10,z11,z12,z13,k3,f1,f2,f3⟩
   exact ⟨T',z4,z5,z10,z11,z12,z13,(keep_new hk).trans k3,f1,f2,fin T1 T' h1 f3⟩
  ·simp (config := { maxSteps := 4000000 }) (disch := omega) only [go_sem,hx2,b1,b2,i1,s1,rg]
   refine rnd_goL_all l1 ?_
   rintro j e S1 ⟨T1,y5,y12,y13,hk,e1,e2,h1⟩
   dsimp only at e1 e2 hk
   subst e1 e2
   simp (config := { maxSteps := 4000000 }) (disch := omega) only [go_sem,wrap_i64]
   refine all_er (Out.all_mono ?_ (ih T1 S1 _ _ _ _ _ _ (hP.keep (keep_new hk))))
   rintro q ⟨T',z4,z5,z10,z11,z12,z13,k3,f1,f2,f3⟩
   exact ⟨T',z4,z5,z10,z11,z12,z13,(keep_new hk).trans k3,f1,f2,fin T1 T' h1 f3⟩
theorem loop40c {a : Ad} {lv : TV} (T : Nat → Bool) (S : Store) (x4 x5 x7 x8 x9 x10 x11 x12 x13 : TV) : ∀ (k c : Nat) (x14 x15 : TV),c + k = 25 →
  ∃ j v y6 y14 y15,lp' (lim K) t40L0 (e40 a lv (.iv (.int .i64 0)) T x4 x5 (.iv (.int .i64 c)) x7 x8 x9 x10 x11 x12 x13 x14 x15) S
   = .ret (j,e40 a lv (.iv (.int .i64 v)) T x4 x5 y6 x7 x8 x9 x10 x11 x12 x13 y14 y15,S) ∧ (j = .exit 4 ∧ (∀ d,c ≤ d → d ≤ 24 → T d = true) ∨ j = .ret ∧ ∃ d : Nat,v = d ∧ c ≤ d ∧ d ≤ 24 ∧ T d = false)
 | 0,c,x14,x15,h => by
  obtain rfl : c = 25 := by omega
  refine ⟨.exit 4,0,.iv (.int .i64 25),.iv (.bool false),x15,?_,.inl ⟨rfl,fun d h1 h2 => by omega⟩⟩
  unfold e40
  refine loop_at K _ _ t40L0.eq_1 ?_
  simp (config := { maxSteps := 4000000 }) (disch := omega) only [go_sem]
  rfl
 | k + 1,c,x14,x15,h => by
  have hs := sub_cF (fun c => bI (T c)) (show c < 25 by omega)
  simp only [bI] at hs
  cases hT : T c with
  | false =>
   rw [hT] at hs
   refine ⟨.ret,c,.iv (.int .i64 c),.iv (.bool true),.iv (.bool true),?_,.inr ⟨rfl,c,rfl,Nat.le_refl _,by omega,hT⟩⟩
   unfold e40
   simp only [bI]
   refine loop_at K _ _ t40L0.eq_1 ?_
   simp (config := { maxSteps := 4000000 }) (disch := omega) only [go_sem,hs,Int.toNat_natCast,Nat.mul_one,Nat.zero_add]
  | true =>
   rw [hT] at hs
   obtain ⟨j,v,y6,y14,y15,ih,hj⟩ := loop40c T S x4 x5 x7 x8 x9 x10 x11 x12 x13 k (c + 1) (.iv (.bool true)) (.iv (.bool false)) (by omega)
   rw [show ((c + 1 : Nat) : Int) = (c : Int) + 1 by omega] at ih
   refine ⟨j,v,y6,y14,y15,?_,?_⟩
   ·unfold e40 at ih ⊢
    simp only [bI] at ih ⊢
    refine loop_at K _ _ t40L0.eq_1 ?_
    simp (config := { maxSteps := 4000000 }) (disch := omega) only [go_sem,hs,Int.toNat_natCast,Nat.mul_one,Nat.zero_add,wrap_i64]
    exact congrArg er ih
   ·rcases hj with ⟨rfl,h1⟩ | ⟨rfl,d,h1,h2,h3,h4⟩
    ·refine .inl ⟨rfl,fun d h2 h3 => ?_⟩
     by_cases e : d = c
     ·rw [e]; exact hT
     ·exact h1 d (by omega) h3
    ·exact .inr ⟨rfl,d,h1,by omega,h3,h4⟩
def FreeS (p : Pn) (l : List Nat) (v : Int) : Prop := v = -1 ∧ (∀ d : Nat,1 ≤ d → d ≤ 24 → ∃ m ∈ l,tak1 p m d) ∨ ∃ d : Nat,v = d ∧ 1 ≤ d ∧ d ≤ 24 ∧ ∀ m ∈ l,¬ tak1 p m d
theorem call40 {S : Store} {a : Ad} {p : Pn} (hP : PT S a p) {lv : TV} {l : List Nat} (hlv : ListV lv l) (hll : l.length ≤ 1000000) (hln : ∀ m ∈ l,m < p.n) :
  ((lim K).call 40 [.ptr a.ip 44 0,lv] S).All fun r => ∃ v,r.1 = .iv (.int .i64 v) ∧ Keep [] S r.2 ∧ FreeS p l v := by
 have l1 := loop40l hlv hll hln (.iv (.int .i64 0)) (.tup []) (.tup []) (.tup []) l.length 0 (fun _ => false) S (.tup []) (.tup []) (.tup []) (.tup []) (.tup []) (.tup []) (by omega) hP
 rw [show ((0 : Nat) : Int) = 0 from rfl,List.drop_zero] at l1
 unfold e40 at l1
 rw [show cF 25 (fun c => bI ((fun _ => false) c)) = [.iv (.bool false),.iv (.bool false),.iv (.bool false),.iv (.bool false),.iv (.bool false),.iv (.bool false),.iv (.bool false),.iv (.bool false),.iv (.bool false),.iv (.bool false),.iv (.bool false),.iv (.bool false),.iv (.bool false),.iv (.bool false),.iv (.bool false),.iv (.bool false),.iv (.bool false),.iv (.bool false),.iv (.bool false),.iv (.bool false),.iv (.bool false),.iv (.bool false),.iv (.bool false),.iv (.bool false),.iv (.bool false)] from rfl] at l1
 refine call_all' K _ (fn := t40) rfl rfl ?_
 have tail : ∀ (T : Nat → Bool),(∀ c : Nat,T c = true ↔ false = true ∨ ∃ m ∈ l,tak1 p m c) → ∀ (j : Jump) (v : Int),(j = .exit 4 ∧ (∀ d,1 ≤ d → d ≤ 24 → T d = true) → FreeS p l (-1)) ∧ ((j = .ret ∧ ∃ d : Nat,v = d ∧ 1 ≤ d ∧ d ≤ 24 ∧ T d = false) → FreeS p l v) := by
  intro T hT j v
  refine ⟨fun ⟨_,h⟩ => .inl ⟨rfl,fun d h1 h2 => by simpa using (hT d).1 (h d h1 h2)⟩,fun ⟨_,d,h1,h2,h3,h4⟩ => .inr ⟨d,h1,h2,h3,fun m hm ht => ?_⟩⟩
  rw [(hT d).2 (.inr ⟨m,hm,ht⟩)] at h4; cases h4
 have e1 : lenV .sl S lv = some (.iv (.int .i64 l.length)) := by
  rcases hlv with ⟨t,rfl⟩ | ⟨j,rfl⟩
  ·show some (TV.iv (IV.int .i64 ((encN l).length : Nat))) = _; rw [encN_len]
  ·show some (TV.iv (IV.int .i64 ((encN l).length : Nat))) = _; rw [encN_len]
 rcases hlv with ⟨t,rfl⟩ | ⟨j,rfl⟩
 ·simp (config := { maxSteps := 4000000 }) (disch := omega) only [t40,go_sem,TM.undef,encN_len]
  refine fin_goL_all l1 ?_
  rintro j e S1 ⟨T,y4,y5,y10,y11,y12,y13,hk,f1,f2,f3⟩
  dsimp only at f1 f2 hk
  subst f1 f2
  obtain ⟨j,v,y6,y14,y15,l2,hj⟩ := loop40c (a := a) (lv := .iv (.sl t (encN l))) T S1 y4 y5 (.iv (.sl t (encN l))) (.iv (.int .i64 l.length)) (.iv (.int .i64 l.length)) y10 y11 y12 y13 24 1 (.tup []) (.tup []) (by omega)
  rw [show ((1 : Nat) : Int) = 1 from rfl] at l2
  unfold e40 at l2
  simp (config := { maxSteps := 4000000 }) (disch := omega) only [go_sem]
  rw [l2]
  have ht := tail T f3 j v
  rcases hj with ⟨rfl,hj⟩ | ⟨rfl,hj⟩
  ·simp (config := { maxSteps := 4000000 }) (disch := omega) only [go_sem]
   exact all_ret ⟨-1,rfl,hk,ht.1 ⟨rfl,hj⟩⟩
  ·simp (config := { maxSteps := 4000000 }) (disch := omega) only [go_sem]
   exact all_ret ⟨v,rfl,hk,ht.2 ⟨rfl,hj⟩⟩
 ·simp (config := { maxSteps := 4000000 }) (disch := omega) only [t40,go_sem,TM.undef,encN_len]
  refine fin_goL_all l1 ?_
  rintro j' e S1 ⟨T,y4,y5,y10,y11,y12,y13,hk,f1,f2,f3⟩
  dsimp only at f1 f2 hk
  subst f1 f2
  obtain ⟨j'',v,y6,y14,y15,l2,hj⟩ := loop40c (a := a) (lv := .tsl j (encN l)) T S1 y4 y5 (.tsl j (encN l)) (.iv (.int .i64 l.length)) (.iv (.int .i64 l.length)) y10 y11 y12 y13 24 1 (.tup []) (.tup []) (by omega)
  rw [show ((1 : Nat) : Int) = 1 from rfl] at l2
  unfold e40 at l2
  simp (config := { maxSteps := 4000000 }) (disch := omega) only [go_sem]
  rw [l2]
  have ht := tail T f3 j'' v
  rcases hj with ⟨rfl,hj⟩ | ⟨rfl,hj⟩
  ·simp (config := { maxSteps := 4000000 }) (disch := omega) only [go_sem]
   exact all_ret ⟨-1,rfl,hk,ht.1 ⟨rfl,hj⟩⟩
  ·simp (config := { maxSteps := 4000000 }) (disch := omega) only [go_sem]
   exact all_ret ⟨v,rfl,hk,ht.2 ⟨rfl,hj⟩⟩
theorem setOut_kp {a : Ad} (S : Store) (b : Block) : KpX a.own S (S.set a.ju b) := KpX.keep (Keep.set (I := [a.ju]) _ (by simp) _) (by simp [Ad.own])
theorem loop22c {a : Ad} {lv : TV} {l : List Nat} (hlv : ListV lv l) (hll : l.length ≤ 1000000) (c : Int) (hc : c ≠ -1) :
  ∀ (k i : Nat) (p : Pn) (S : Store) (x3 x7 x8 : TV),i + k = l.length → (∀ m ∈ l,m < p.n) → PT S a p →
  ∃ y3 y7 y8 S' out',lp' (lim K) t22L0 [.ptr a.ip 44 0,lv,.iv (.int .i64 c),x3,lv,.iv (.int .i64 l.length),.iv (.int .i64 i),x7,x8] S
   = .ret (.exit 0,[.ptr a.ip 44 0,lv,.iv (.int .i64 c),y3,lv,.iv (.int .i64 l.length),.iv (.int .i64 l.length),y7,y8],S') ∧ PT S' a { p with out := out' } ∧ KpX a.own S S' ∧ ∀ m,out' m = if m ∈ l.drop i then c else p.out m
 | 0,i,p,S,x3,x7,x8,h,hln,hP => by
  obtain rfl : i = l.length := by omega
  refine ⟨x3,.iv (.bool false),x8,S,p.out,loop_at K _ _ t22L0.eq_1 ?_,hP,.refl _ _,fun m => by rw [List.drop_length]; simp⟩
  rcases hlv with ⟨t,rfl⟩ | ⟨j,rfl⟩
  ·simp (config := { maxSteps := 4000000 }) (disch := omega) only [go_sem]
  ·simp (config := { maxSteps := 4000000 }) (disch := omega) only [go_sem]
 | k + 1,i,p,S,x3,x7,x8,h,hln,hP => by
  have hla : i < l.length := by omega
  have hdr : l.drop i = l.getD i default :: l.drop (i + 1) := by
   rw [List.drop_eq_getElem_cons hla]
   simp [List.getD,List.getElem?_eq_getElem hla]
  have hx1 := fun t => ix_encN (t := t) hla
  have hx2 := fun j => ix_encT (j := j) hla
  have hr : l.getD i default < p.n := hln _ (by simp only [List.getD,List.getElem?_eq_getElem hla,Option.getD_some]; exact List.getElem_mem _)
  generalize l.getD i default = r at *
  have hP1 := hP.setOut r c
  have b1 := hP.blk
  have b2 := hP.out
  have i1 := ix_cF (j := a.ju) (v := 0) hr
  have s1 := put_cF (fun r => vI (p.out r)) (vI c) hr
  simp only [pcells] at b1
  obtain ⟨y3,y7,y8,S',out',ih,h1,h2,h3⟩ := loop22c hlv hll c hc k (i + 1) { p with out := upd p.out r c } _ (.iv (.int .i64 r)) (.iv (.bool true)) (.iv (.bool false)) (by omega) hln hP1
  rw [show ((i + 1 : Nat) : Int) = (i : Int) + 1 by omega] at ih
  simp only [vI] at b2 s1 ih
  refine ⟨y3,y7,y8,S',out',loop_at K _ _ t22L0.eq_1 ?_,h1,(setOut_kp _ _).trans h2,fun m => ?_⟩
  ·rcases hlv with ⟨t,rfl⟩ | ⟨j,rfl⟩
   ·simp (config := { maxSteps := 4000000 }) (disch := omega) only [go_sem,hx1,b1,b2,i1,s1,wrap_i64,hc]
    exact congrArg er ih
   ·simp (config := { maxSteps := 4000000 }) (disch := omega) only [go_sem,hx2,b1,b2,i1,s1,wrap_i64,hc]
    exact congrArg er ih
  ·rw [h3 m,hdr]
   simp only [List.mem_cons]
   by_cases e : m ∈ l.drop (i + 1)
   ·rw [if_pos e,if_pos (.inr e)]
   ·rw [if_neg e]
    by_cases e2 : m = r
    ·subst e2; rw [upd_same,if_pos (.inl rfl)]
    ·rw [upd_ne _ _ e2,if_neg (by simp [e,e2])]
inductive SeqP (p : Pn) : List Nat → (Nat → Int) → (Nat → Int) → Prop
 | nil (o : Nat → Int) : SeqP p [] o o
 | cons {m : Nat} {l : List Nat} {o o' : Nat → Int} {v : Int} (h : FreeS { p with out := o } [m] v) (g : SeqP p l (upd o m v) o') : SeqP p (m :: l) o o'
theorem SeqP.re {p : Pn} {X : Nat → Int} {l : List Nat} {o o' : Nat → Int} (h : SeqP { p with out := X } l o o') : SeqP p l o o' := by
 induction h with
 | nil o => exact .nil o
 | cons h g ih => exact .cons h ih
theorem loop22s {a : Ad} {lv : TV} {l : List Nat} (hlv : ListV lv l) (hll : l.length ≤ 1000000) :
  ∀ (k i : Nat) (p : Pn) (S : Store) (x3 x7 x8 : TV),i + k = l.length → (∀ m ∈ l,m < p.n) → PT S a p →
  (lp' (lim K) t22L0 [.ptr a.ip 44 0,lv,.iv (.int .i64 (-1)),x3,lv,.iv (.int .i64 l.length),.iv (.int .i64 i),x7,x8] S).All fun q => ∃ y3 y7 y8 out',q.1 = .exit 0 ∧
   q.2.1 = [.ptr a.ip 44 0,lv,.iv (.int .i64 (-1)),y3,lv,.iv (.int .i64 l.length),.iv (.int .i64 l.length),y7,y8] ∧ PT q.2.2 a { p with out := out' } ∧ KpX a.own S q.2.2 ∧ SeqP p (l.drop i) p.out out'
 | 0,i,p,S,x3,x7,x8,h,hln,hP => by
  obtain rfl : i = l.length := by omega
  refine lp_all t22L0.eq_1 ?_
  rcases hlv with ⟨t,rfl⟩ | ⟨j,rfl⟩
  ·simp (config := { maxSteps := 4000000 }) (disch := omega) only [go_sem]
   exact all_ret ⟨_,_,_,p.out,rfl,rfl,hP,.refl _ _,by rw [List.drop_length]; exact .nil _⟩
  ·simp (config := { maxSteps := 4000000 }) (disch := omega) only [go_sem]
   exact all_ret ⟨_,_,_,p.out,rfl,rfl,hP,.refl _ _,by rw [List.drop_length]; exact .nil _⟩
 | k + 1,i,p,S,x3,x7,x8,h,hln,hP => by
  have hla : i < l.length := by omega
  have hdr : l.drop i = l.getD i default :: l.drop (i + 1) := by
   rw [List.drop_eq_getElem_cons hla]
   simp [List.getD,List.getElem?_eq_getElem hla]
  have hx1 := fun t => ix_encN (t := t) hla
  have hx2 := fun j => ix_encT (j := j) hla
  have hr : l.getD i default < p.n := hln _ (by simp only [List.getD,List.getElem?_eq_getElem hla,Option.getD_some]; exact List.getElem_mem _)
  generalize l.getD i default = r at *
  have b1 := hP.blk
  simp only [pcells] at b1
  have i1 := ix_cF (j := a.ju) (v := 0) hr
  have c40 := call40 hP (lv := .iv (.sl .full (encN [r]))) (.inl ⟨_,rfl⟩) (by simp) (by simpa using hr)
  rw [show encN [r] = [[.int .i64 (r : Int)]] from rfl] at c40
  have fin : ∀ (S1 : Store) (v : Int),Keep [] S S1 → FreeS p [r] v → ∀ q : Jump × Env × Store,(∃ y3 y7 y8 out',q.1 = .exit 0 ∧
   q.2.1 = [.ptr a.ip 44 0,lv,.iv (.int .i64 (-1)),y3,lv,.iv (.int .i64 l.length),.iv (.int .i64 l.length),y7,y8] ∧ PT q.2.2 a { p with out := out' } ∧ KpX a.own (S1.set a.ju (.cells 0 false (cF p.n (upd (fun r => vI (p.out r)) r (vI v))))) q.2.2 ∧ SeqP { p with out := upd p.out r v } (l.drop (i + 1)) (upd p.out r v) out') → ∃ y3 y7 y8 out',q.1 = .exit 0 ∧
   q.2.1 = [.ptr a.ip 44 0,lv,.iv (.int .i64 (-1)),y3,lv,.iv (.int .i64 l.length),.iv (.int .i64 l.length),y7,y8] ∧ PT q.2.2 a { p with out := out' } ∧ KpX a.own S q.2.2 ∧ SeqP p (l.drop i) p.out out' := by
   rintro S1 v k1 hf q ⟨y3,y7,y8,out',e1,e2,h1,h2,h3⟩
   exact ⟨y3,y7,y8,out',e1,e2,h1,(KpX.keep k1 (by simp)).trans ((setOut_kp _ _).trans h2),by rw [hdr]; exact .cons hf h3.re⟩
  have ih := fun S1 v (k1 : Keep [] S S1) => loop22s hlv hll k (i + 1) { p with out := upd p.out r v } _ (.iv (.int .i64 r)) (.iv (.bool true)) (.iv (.bool true)) (by omega) hln ((hP.keep k1).setOut r v)
  have s1 := fun v => put_cF (fun r => vI (p.out r)) (vI v) hr
  refine lp_all t22L0.eq_1 ?_
  rcases hlv with ⟨t,rfl⟩ | ⟨j,rfl⟩
  ·simp (config := { maxSteps := 4000000 }) (disch := omega) only [go_sem,hx1,b1]
   refine rnd_csf_all c40 ?_
   rintro v0 S1 ⟨v,hv,k1,hf⟩
   dsimp only at hv k1
   subst hv
   have b3 := (hP.keep k1).blk
   have b4 := (hP.keep k1).out
   have s1 := s1 v
   have ih := ih S1 v k1
   rw [show ((i + 1 : Nat) : Int) = (i : Int) + 1 by omega] at ih
   refine Out.all_mono (fin S1 v k1 hf) ?_
   simp only [pcells] at b3
   simp only [vI] at b4 s1 ih ⊢
   simp (config := { maxSteps := 4000000 }) (disch := omega) only [go_sem,b3,b4,i1,s1,wrap_i64]
   exact all_er ih
  ·simp (config := { maxSteps := 4000000 }) (disch := omega) only [go_sem,hx2,b1]
   refine rnd_csf_all c40 ?_
   rintro v0 S1 ⟨v,hv,k1,hf⟩
   dsimp only at hv k1
   subst hv
   have b3 := (hP.keep k1).blk
   have b4 := (hP.keep k1).out
   have s1 := s1 v
   have ih := ih S1 v k1
   rw [show ((i + 1 : Nat) : Int) = (i : Int) + 1 by omega] at ih
   refine Out.all_mono (fin S1 v k1 hf) ?_
   simp only [pcells] at b3
   simp only [vI] at b4 s1 ih ⊢
   simp (config := { maxSteps := 4000000 }) (disch := omega) only [go_sem,b3,b4,i1,s1,wrap_i64]
   exact all_er ih
def PaintS (p : Pn) (l : List Nat) (out' : Nat → Int) : Prop :=
 (∃ d : Nat,1 ≤ d ∧ d ≤ 24 ∧ (∀ m ∈ l,¬ tak1 p m d) ∧ ∀ m,out' m = if m ∈ l then (d : Int) else p.out m) ∨ (∀ d : Nat,1 ≤ d → d ≤ 24 → ∃ m ∈ l,tak1 p m d) ∧ SeqP p l p.out out'
theorem call22 {S : Store} {a : Ad} {p : Pn} (hP : PT S a p) {lv : TV} {l : List Nat} (hlv : ListV lv l) (hll : l.length ≤ 1000000) (hln : ∀ m ∈ l,m < p.n) :
  ((lim K).call 22 [.ptr a.ip 44 0,lv] S).All fun r => ∃ out',r.1 = .tup [] ∧ PT r.2 a { p with out := out' } ∧ KpG a S r.2 ∧ PaintS p l out' := by
 have c40 := call40 hP hlv hll hln
 refine call_all' K _ (fn := t22) rfl rfl ?_
 have key : ∀ (S1 : Store) (v : Int),Keep [] S S1 → FreeS p l v → (lp' (lim K) t22L0 [.ptr a.ip 44 0,lv,.iv (.int .i64 v),.tup [],lv,.iv (.int .i64 l.length),.iv (.int .i64 0),.tup [],.tup []] S1).All fun q => ∃ y3 y7 y8 out',q.1 = .exit 0 ∧
   q.2.1 = [.ptr a.ip 44 0,lv,.iv (.int .i64 v),y3,lv,.iv (.int .i64 l.length),.iv (.int .i64 l.length),y7,y8] ∧ PT q.2.2 a { p with out := out' } ∧ KpG a S q.2.2 ∧ PaintS p l out' := by
  intro S1 v k1 hf
  rcases hf with ⟨rfl,hf⟩ | ⟨d,rfl,h1,h2,h3⟩
  ·have := loop22s hlv hll l.length 0 p S1 (.tup []) (.tup []) (.tup []) (by omega) hln (hP.keep k1)
   refine Out.all_mono ?_ this
   rintro q ⟨y3,y7,y8,out',e1,e2,g1,g2,g3⟩
   exact ⟨y3,y7,y8,out',e1,e2,g1,((KpX.keep k1 (by simp)).trans g2).toG,.inr ⟨hf,by rwa [List.drop_zero] at g3⟩⟩
  ·obtain ⟨y3,y7,y8,S',out',l1,g1,g2,g3⟩ := loop22c hlv hll d (by omega) l.length 0 p S1 (.tup []) (.tup []) (.tup []) (by omega) hln (hP.keep k1)
   rw [show ((0 : Nat) : Int) = 0 from rfl] at l1
   rw [l1]
   rw [List.drop_zero] at g3
   exact all_ret ⟨y3,y7,y8,out',rfl,rfl,g1,((KpX.keep k1 (by simp)).trans g2).toG,.inl ⟨d,h1,h2,h3,g3⟩⟩
 rcases hlv with ⟨t,rfl⟩ | ⟨j,rfl⟩
 ·simp (config := { maxSteps := 4000000 }) (disch := omega) only [t22,go_sem,TM.undef]
  refine fin_csf_all c40 ?_
  rintro v0 S1 ⟨v,hv,k1,hf⟩
  dsimp only at hv k1
  subst hv
  simp (config := { maxSteps := 4000000 }) (disch := omega) only [go_sem,encN_len]
  refine fin_goL_all (key S1 v k1 hf) ?_
  rintro j e S2 ⟨y3,y7,y8,out',e1,e2,g1,g2,g3⟩
  dsimp only at e1 e2 g1 g2
  subst e1 e2
  simp (config := { maxSteps := 4000000 }) (disch := omega) only [go_sem]
  exact all_ret ⟨out',rfl,g1,g2,g3⟩
 ·simp (config := { maxSteps := 4000000 }) (disch := omega) only [t22,go_sem,TM.undef]
  refine fin_csf_all c40 ?_
  rintro v0 S1 ⟨v,hv,k1,hf⟩
  dsimp only at hv k1
  subst hv
  simp (config := { maxSteps := 4000000 }) (disch := omega) only [go_sem,encN_len]
  refine fin_goL_all (key S1 v k1 hf) ?_
  rintro j e S2 ⟨y3,y7,y8,out',e1,e2,g1,g2,g3⟩
  dsimp only at e1 e2 g1 g2
  subst e1 e2
  simp (config := { maxSteps := 4000000 }) (disch := omega) only [go_sem]
  exact all_ret ⟨out',rfl,g1,g2,g3⟩
theorem sub_LJ {L : List Nat} {J : List TV} {i : Nat} (h : i < L.length) : sub (L.map nI ++ J) i 1 = some [nI (L.getD i default)] := by
 simp only [sub,List.length_append,List.length_map,show i + 1 ≤ L.length + J.length by omega,↓reduceIte]
 rw [List.drop_eq_getElem_cons (by simp; omega)]
 simp [List.getElem_append,h,List.getD,List.getElem?_eq_getElem h]
structure Dg (S : Store) (jb jd n : Nat) (dg : Nat → Int) : Prop where
 box : S[jb]? = some (.cells 28 false [.msl jd 0 0 n n 1])
 row : S[jd]? = some (.cells 0 false (cF n fun r => vI (dg r)))
theorem call34 {S : Store} {jb jd n : Nat} {dg : Nat → Int} (h : Dg S jb jd n dg) {x : Nat} (hx : x < n) : (lim K).call 34 [.iv (.int .i64 x),.ptr jb 28 0] S = .ret (.iv (.bool (decide (dg x < 24))),S) := by
 have b1 := h.box
 have b2 := h.row
 have i1 := ix_cF (j := jd) (v := 0) hx
 have s1 := sub_cF (fun r => vI (dg r)) hx
 simp only [vI] at b2 s1
 refine call_ret' K _ (fn := t34) rfl rfl ?_
 simp (config := { maxSteps := 4000000 }) (disch := omega) only [t34,go_sem,TM.undef,b1,b2,i1,s1]
theorem ix_L {jl v m cap i : Nat} (h : i < m) : indexAddrS 1 (.msl jl v 0 m cap 1) (i : Int) = some (.ptr jl v i) := by
 rw [ix_msl (by omega),Int.toNat_natCast,Nat.zero_add]
theorem loop33 {S : Store} {jb jd n : Nat} {dg : Nat → Int} (h : Dg S jb jd n dg) {jl v : Nat} {L : List Nat} {J : List TV} (hL : S[jl]? = some (.cells v true (L.map nI ++ J))) (hLn : ∀ x ∈ L,x < n) (hll : L.length ≤ 1000000) (cap : Nat) : ∀ (k i : Nat) (x2 x3 x6 x7 : TV),i + k = L.length →
  ∃ j y2 y3 y5 y6 y7,lp' (lim K) t33L0 [.msl jl v 0 L.length cap 1,.fn 34 [] [.ptr jb 28 0],x2,x3,.iv (.int .i64 L.length),.iv (.int .i64 i),x6,x7] S
   = .ret (j,[.msl jl v 0 L.length cap 1,.fn 34 [] [.ptr jb 28 0],y2,y3,.iv (.int .i64 L.length),y5,y6,y7],S) ∧
   (j = .exit 0 ∧ (∀ q,i ≤ q → q < L.length → ¬ dg (L.getD q default) < 24) ∨ j = .ret ∧ ∃ q : Nat,y2 = .iv (.int .i64 q) ∧ q < L.length ∧ dg (L.getD q default) < 24)
 | 0,i,x2,x3,x6,x7,hk => by
  obtain rfl : i = L.length := by omega
  refine ⟨.exit 0,x2,x3,.iv (.int .i64 L.length),.iv (.bool false),x7,loop_at K _ _ t33L0.eq_1 ?_,.inl ⟨rfl,fun q h1 h2 => by omega⟩⟩
  simp (config := { maxSteps := 4000000 }) (disch := omega) only [go_sem]
 | k + 1,i,x2,x3,x6,x7,hk => by
  have hla : i < L.length := by omega
  have i1 := ix_L (jl := jl) (v := v) (cap := cap) hla
  have s1 := sub_LJ (J := J) hla
  have hx : L.getD i default < n := hLn _ (by simp only [List.getD,List.getElem?_eq_getElem hla,Option.getD_some]; exact List.getElem_mem _)
  have c34 := call34 h hx
  simp only [nI] at hL s1
  by_cases hd : dg (L.getD i default) < 24
  ·rw [decide_eq_true hd] at c34
   refine ⟨.ret,.iv (.int .i64 i),.iv (.int .i64 i),.iv (.int .i64 i),.iv (.bool true),.iv (.bool true),loop_at K _ _ t33L0.eq_1 ?_,.inr ⟨rfl,i,rfl,hla,hd⟩⟩
   simp (config := { maxSteps := 4000000 }) (disch := omega) only [go_sem,i1,hL,s1,c34]
  ·rw [decide_eq_false hd] at c34
   obtain ⟨j,y2,y3,y5,y6,y7,ih,hj⟩ := loop33 h (J := J) (by simpa only [nI] using hL) hLn hll cap k (i + 1) x2 (.iv (.int .i64 i)) (.iv (.bool true)) (.iv (.bool false)) (by omega)
   rw [show ((i + 1 : Nat) : Int) = (i : Int) + 1 by omega] at ih
   refine ⟨j,y2,y3,y5,y6,y7,loop_at K _ _ t33L0.eq_1 ?_,?_⟩
   ·simp (config := { maxSteps := 4000000 }) (disch := omega) only [go_sem,i1,hL,s1,c34,wrap_i64]
    exact congrArg er ih
   ·rcases hj with ⟨rfl,hj⟩ | hj
    ·refine .inl ⟨rfl,fun q h1 h2 => ?_⟩
     by_cases e : q = i
     ·rw [e]; exact hd
     ·exact hj q (by omega) h2
    ·exact .inr hj
theorem call33 {S : Store} {jb jd n : Nat} {dg : Nat → Int} (h : Dg S jb jd n dg) {jl v : Nat} {L : List Nat} {J : List TV} (hL : S[jl]? = some (.cells v true (L.map nI ++ J))) (hLn : ∀ x ∈ L,x < n) (hll : L.length ≤ 1000000) (cap : Nat) :
  ∃ w : Int,(lim K).call 33 [.msl jl v 0 L.length cap 1,.fn 34 [] [.ptr jb 28 0]] S = .ret (.iv (.int .i64 w),S) ∧ (w = -1 ∧ (∀ q,q < L.length → ¬ dg (L.getD q default) < 24) ∨ ∃ q : Nat,w = q ∧ q < L.length ∧ dg (L.getD q default) < 24) := by
 obtain ⟨j,y2,y3,y5,y6,y7,l1,hj⟩ := loop33 h hL hLn hll cap L.length 0 (.iv (.int .i64 0)) (.tup []) (.tup []) (.tup []) (by omega)
 rw [show ((0 : Nat) : Int) = 0 from rfl] at l1
 rcases hj with ⟨rfl,hj⟩ | ⟨rfl,q,rfl,h1,h2⟩
 ·refine ⟨-1,call_ret' K _ (fn := t33) rfl rfl ?_,.inl ⟨rfl,fun q h2 => hj q (by omega) h2⟩⟩
  simp (config := { maxSteps := 4000000 }) (disch := omega) only [t33,go_sem,TM.undef]
  rw [l1]
  simp (config := { maxSteps := 4000000 }) (disch := omega) only [go_sem]
 ·refine ⟨q,call_ret' K _ (fn := t33) rfl rfl ?_,.inr ⟨q,rfl,h1,h2⟩⟩
  simp (config := { maxSteps := 4000000 }) (disch := omega) only [t33,go_sem,TM.undef]
  rw [l1]
  simp (config := { maxSteps := 4000000 }) (disch := omega) only [go_sem]
theorem call44 (x : Int) : Pure K 44 [.iv (.int .i64 x)] (.iv (.bool false)) := by
 refine call_pure t44 rfl rfl ?_
 simp (config := { maxSteps := 4000000 }) (disch := omega) only [t44,go_sem,TM.undef]
theorem call38 (x y : Int) : ∃ c : Int,Pure K 38 [.iv (.int .i64 x),.iv (.int .i64 y)] (.iv (.int .i64 c)) := by
 have c1 := call44 x
 have c2 := call44 y
 by_cases h1 : x < y
 ·refine ⟨-1,call_pure t38 rfl rfl ?_⟩
  simp (config := { maxSteps := 4000000 }) (disch := omega) only [t38,go_sem,TM.undef,cpR_pure c1,cpR_pure c2]
 ·by_cases h2 : y < x
  ·refine ⟨1,call_pure t38 rfl rfl ?_⟩
   simp (config := { maxSteps := 4000000 }) (disch := omega) only [t38,go_sem,TM.undef,cpR_pure c1,cpR_pure c2]
  ·refine ⟨0,call_pure t38 rfl rfl ?_⟩
   simp (config := { maxSteps := 4000000 }) (disch := omega) only [t38,go_sem,TM.undef,cpR_pure c1,cpR_pure c2]
theorem call37 {S : Store} {jb jd n : Nat} {dg : Nat → Int} (h : Dg S jb jd n dg) {x y : Nat} (hx : x < n) (hy : y < n) : ∃ c : Int,(lim K).call 37 [.iv (.int .i64 x),.iv (.int .i64 y),.ptr jb 28 0] S = .ret (.iv (.int .i64 c),S) := by
 have b1 := h.box
 have b2 := h.row
 have i1 := ix_cF (j := jd) (v := 0) hx
 have s1 := sub_cF (fun r => vI (dg r)) hx
 have i2 := ix_cF (j := jd) (v := 0) hy
 have s2 := sub_cF (fun r => vI (dg r)) hy
 obtain ⟨c,c38⟩ := call38 (dg x) (dg y)
 simp only [vI] at b2 s1 s2
 refine ⟨c,call_ret' K _ (fn := t37) rfl rfl ?_⟩
 simp (config := { maxSteps := 4000000 }) (disch := omega) only [t37,go_sem,TM.undef,b1,b2,i1,s1,i2,s2,cpR_pure c38]
theorem getD_mem {L : List Nat} {i : Nat} (h : i < L.length) : L.getD i default ∈ L := by
 simp only [List.getD,List.getElem?_eq_getElem h,Option.getD_some]; exact List.getElem_mem _
theorem loop36 {S : Store} {jb jd n : Nat} {dg : Nat → Int} (h : Dg S jb jd n dg) {jl v : Nat} {L : List Nat} {J : List TV} (hL : S[jl]? = some (.cells v true (L.map nI ++ J))) (hLn : ∀ x ∈ L,x < n) (hll : L.length ≤ 1000000) (cap : Nat) (x2 x5 : TV) : ∀ (k i m : Nat) (x6 x7 : TV),i + k = L.length → m ∈ L →
  ∃ m' y6 y7,lp' (lim K) t36L0 [.msl jl v 0 L.length cap 1,.fn 37 [] [.ptr jb 28 0],x2,.iv (.int .i64 (m : Nat)),.iv (.int .i64 i),x5,x6,x7] S
   = .ret (.exit 0,[.msl jl v 0 L.length cap 1,.fn 37 [] [.ptr jb 28 0],x2,.iv (.int .i64 (m' : Nat)),.iv (.int .i64 L.length),x5,y6,y7],S) ∧ m' ∈ L
 | 0,i,m,x6,x7,hk,hm => by
  obtain rfl : i = L.length := by omega
  refine ⟨m,.iv (.bool false),x7,loop_at K _ _ t36L0.eq_1 ?_,hm⟩
  simp (config := { maxSteps := 4000000 }) (disch := omega) only [go_sem]
 | k + 1,i,m,x6,x7,hk,hm => by
  have hla : i < L.length := by omega
  have i1 := ix_L (jl := jl) (v := v) (cap := cap) hla
  have s1 := sub_LJ (J := J) hla
  have hx := getD_mem hla
  obtain ⟨c,c37⟩ := call37 h (hLn _ hx) (hLn _ hm)
  simp only [nI] at hL s1
  by_cases hd : 0 < c
  ·obtain ⟨m',y6,y7,ih,hm'⟩ := loop36 h (J := J) (by simpa only [nI] using hL) hLn hll cap x2 x5 k (i + 1) (L.getD i default) (.iv (.bool true)) (.iv (.bool true)) (by omega) hx
   rw [show ((i + 1 : Nat) : Int) = (i : Int) + 1 by omega] at ih
   refine ⟨m',y6,y7,loop_at K _ _ t36L0.eq_1 ?_,hm'⟩
   simp (config := { maxSteps := 4000000 }) (disch := omega) only [go_sem,i1,hL,s1,c37,wrap_i64]
   exact congrArg er ih
  ·obtain ⟨m',y6,y7,ih,hm'⟩ := loop36 h (J := J) (by simpa only [nI] using hL) hLn hll cap x2 x5 k (i + 1) m (.iv (.bool true)) (.iv (.bool false)) (by omega) hm
   rw [show ((i + 1 : Nat) : Int) = (i : Int) + 1 by omega] at ih
   refine ⟨m',y6,y7,loop_at K _ _ t36L0.eq_1 ?_,hm'⟩
   simp (config := { maxSteps := 4000000 }) (disch := omega) only [go_sem,i1,hL,s1,c37,wrap_i64]
   exact congrArg er ih
theorem call36 {S : Store} {jb jd n : Nat} {dg : Nat → Int} (h : Dg S jb jd n dg) {jl v : Nat} {L : List Nat} {J : List TV} (hL : S[jl]? = some (.cells v true (L.map nI ++ J))) (hLn : ∀ x ∈ L,x < n) (hll : L.length ≤ 1000000) (h0 : 0 < L.length) (cap : Nat) :
  ∃ m : Nat,(lim K).call 36 [.msl jl v 0 L.length cap 1,.fn 37 [] [.ptr jb 28 0]] S = .ret (.iv (.int .i64 m),S) ∧ m ∈ L := by
 have i1 := ix_L (jl := jl) (v := v) (cap := cap) h0
 have s1 := sub_LJ (J := J) h0
 obtain ⟨m,y6,y7,l1,hm⟩ := loop36 h hL hLn hll cap (.iv (.int .i64 0)) (.iv (.bool false)) (L.length - 1) 1 (L.getD 0 default) (.tup []) (.tup []) (by omega) (getD_mem h0)
 simp only [nI] at hL s1
 rw [show ((0 : Nat) : Int) = 0 from rfl] at i1
 rw [show ((1 : Nat) : Int) = 1 from rfl] at l1
 refine ⟨m,call_ret' K _ (fn := t36) rfl rfl ?_,hm⟩
 have h1 : ¬ (L.length : Int) < 1 := by omega
 simp (config := { maxSteps := 4000000 }) (disch := omega) only [t36,go_sem,TM.undef,i1,hL,s1,h1]
 rw [l1]
 simp (config := { maxSteps := 4000000 }) (disch := omega) only [go_sem]
theorem loop35 {t : Tag} {L : List Nat} (hll : L.length ≤ 1000000) (m : Nat) : ∀ (k i : Nat) (x2 x3 x6 x7 : TV),i + k = L.length → m ∈ L.drop i →
  ∃ q y3 y5 y6 y7,lp' (lim K) t35L0 [.iv (.sl t (encN L)),.iv (.int .i64 m),x2,x3,.iv (.int .i64 L.length),.iv (.int .i64 i),x6,x7] []
   = .ret (.ret,[.iv (.sl t (encN L)),.iv (.int .i64 m),.iv (.int .i64 (q : Nat)),y3,.iv (.int .i64 L.length),y5,y6,y7],[]) ∧ q < L.length
 | 0,i,x2,x3,x6,x7,hk,hm => by rw [List.drop_eq_nil_of_le (by omega)] at hm; cases hm
 | k + 1,i,x2,x3,x6,x7,hk,hm => by
  have hla : i < L.length := by omega
  have i1 := ix_encN (t := t) hla
  have hdr : L.drop i = L.getD i default :: L.drop (i + 1) := by
   rw [List.drop_eq_getElem_cons hla]
   simp [List.getD,List.getElem?_eq_getElem hla]
  rw [hdr] at hm
  by_cases hd : L.getD i default = m
  ·rw [hd] at i1
   refine ⟨i,.iv (.int .i64 i),.iv (.int .i64 i),.iv (.bool true),.iv (.bool true),loop_at K _ _ t35L0.eq_1 ?_,hla⟩
   simp (config := { maxSteps := 4000000 }) (disch := omega) only [go_sem,i1]
  ·have hm' : m ∈ L.drop (i + 1) := by
    rcases List.mem_cons.1 hm with e | e
    ·exact absurd e.symm hd
    ·exact e
   obtain ⟨q,y3,y5,y6,y7,ih,hq⟩ := loop35 (t := t) hll m k (i + 1) x2 (.iv (.int .i64 i)) (.iv (.bool true)) (.iv (.bool false)) (by omega) hm'
   rw [show ((i + 1 : Nat) : Int) = (i : Int) + 1 by omega] at ih
   refine ⟨q,y3,y5,y6,y7,loop_at K _ _ t35L0.eq_1 ?_,hq⟩
   have hd' : ¬ ((m : Int) = (L.getD i default : Nat)) := by omega
   simp (config := { maxSteps := 4000000 }) (disch := omega) only [go_sem,i1,hd',wrap_i64]
   exact congrArg er ih
theorem call35 {t : Tag} {L : List Nat} (hll : L.length ≤ 1000000) {m : Nat} (hm : m ∈ L) : ∃ q : Nat,Pure K 35 [.iv (.sl t (encN L)),.iv (.int .i64 m)] (.iv (.int .i64 q)) ∧ q < L.length := by
 obtain ⟨q,y3,y5,y6,y7,l1,hq⟩ := loop35 (t := t) hll m L.length 0 (.iv (.int .i64 0)) (.tup []) (.tup []) (.tup []) (by omega) (by simpa using hm)
 rw [show ((0 : Nat) : Int) = 0 from rfl] at l1
 refine ⟨q,TM.pure_ret (S := []) (r := .iv (.int .i64 q)) (call_ret' K _ (fn := t35) rfl rfl ?_) (by rw [resolve_iv]),hq⟩
 simp (config := { maxSteps := 4000000 }) (disch := omega) only [t35,go_sem,TM.undef,encN_len]
 rw [l1]
 simp (config := { maxSteps := 4000000 }) (disch := omega) only [go_sem]
theorem elems_L {S : Store} {jl v : Nat} {L : List Nat} {J : List TV} (hL : S[jl]? = some (.cells v true (L.map nI ++ J))) (cap : Nat) : elemsIV S (.msl jl v 0 L.length cap 1) = some (encN L) := by
 have e1 : sub (L.map nI ++ J) 0 (L.length * 1) = some (L.map nI) := by
  simp [sub,List.take_append]
 have e2 : toIVs (L.map nI) = some (L.map fun m : Nat => IV.int .i64 (m : Int)) := by
  have : L.map nI = (L.map fun m : Nat => IV.int .i64 (m : Int)).map .iv := by rw [List.map_map]; rfl
  rw [this,toIVs_ivs]
 have e3 : ∀ L : List Nat,chunks 1 L.length (L.map fun m : Nat => IV.int .i64 (m : Int)) = encN L := by
  intro L
  induction L with
  | nil => rfl
  | cons a r ih => simp only [List.map_cons,List.length_cons,chunks,List.take_succ_cons,List.take_zero,List.drop_succ_cons,List.drop_zero,ih]; rfl
 simp only [elemsIV,hL,ne_eq,not_true_eq_false,↓reduceIte,e1,e2,Option.map_some,e3]
end Go.Proofs.Ytmlhjdekfihdnaa
