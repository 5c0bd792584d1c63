/- Some texts of the proof, joined. Condition: none. -/
import Derived.Test.YtageemgcnoblnaaDoorTmProg
import Derived.Test.YtageemgcnoblnaaDoorTmE
import Derived.Test.YtageemgcnoblnaaDoorRows
import Derived.Test.YtageemgcnoblnaaDoorTmF
set_option maxRecDepth 100000
set_option maxHeartbeats 64000000
set_option linter.unusedSimpArgs false
set_option linter.unusedVariables false
namespace Go.Proofs.YtageemgcnoblnaaDoor
open Go Go.TM
attribute [go_sem] beq_self_eq_true decT decF ifT ifF eqT eqF neT neF bytesIV_length TM.one_length get_cp0 List.replicate List.cons_append List.nil_append decide_true decide_false
attribute [go_sem] Nat.reduceAdd Nat.reduceSub Nat.reduceMul Nat.reduceLT Nat.reduceLeDiff Nat.reduceEqDiff Nat.reduceBEq reduceIte reduceCtorEq Int.reduceEq Int.reduceLT Int.reduceLE Int.reduceAdd Int.reduceSub Int.reduceMul Int.reduceToNat Int.reduceNeg Int.reduceBEq Int.reduceBNe Int.reduceTDiv Int.reduceTMod Int.reducePow Nat.reducePow Nat.reduceDiv Nat.reduceMod Int.reduceMod Int.reduceDiv Int.reduceNe Int.reduceFDiv
inductive Dt where
 | mk (k n : Int) (t : List UInt8) (g : Tag) (ks : List Dt) (p : Int)
instance : Inhabited Dt := ⟨.mk 0 0 [] .nil [] 0⟩
def Dt.k : Dt → Int | .mk k _ _ _ _ _ => k
def Dt.n : Dt → Int | .mk _ n _ _ _ _ => n
def Dt.t : Dt → List UInt8 | .mk _ _ t _ _ _ => t
def Dt.g : Dt → Tag | .mk _ _ _ g _ _ => g
def Dt.ks : Dt → List Dt | .mk _ _ _ _ ks _ => ks
def Dt.p : Dt → Int | .mk _ _ _ _ _ p => p
mutual
def encD : Dt → List IV
 | .mk k n t g ks p => [.int .i64 k,.int .i64 n,.str t,.sl g (encDs ks),.int .i64 p]
def encDs : List Dt → List (List IV)
 | [] => []
 | d :: ds => encD d :: encDs ds
end
mutual
def Dt.w : Dt → Nat
 | .mk _ _ t _ ks _ => t.length + Dt.ws ks + 1
def Dt.ws : List Dt → Nat
 | [] => 0
 | d :: ds => Dt.w d + Dt.ws ds
end
theorem encDs_map : ∀ ks : List Dt,encDs ks = ks.map encD
 | [] => by rw [encDs]; rfl
 | d :: ds => by rw [encDs,encDs_map ds]; rfl
theorem encDs_len (ks : List Dt) : (encDs ks).length = ks.length := by rw [encDs_map,List.length_map]
theorem encD_eq (d : Dt) : encD d = [.int .i64 d.k,.int .i64 d.n,.str d.t,.sl d.g (encDs d.ks),.int .i64 d.p] := by
 cases d; rw [encD]; rfl
theorem encD_len (d : Dt) : (encD d).length = 5 := by rw [encD_eq]; rfl
theorem Dt.w_eq (d : Dt) : d.w = d.t.length + Dt.ws d.ks + 1 := by cases d; rw [Dt.w]; rfl
theorem Dt.ws_mem {d : Dt} : ∀ {ks : List Dt},d ∈ ks → d.w ≤ Dt.ws ks
 | x :: r,h => by
  rw [Dt.ws]
  rcases List.mem_cons.1 h with rfl | h
  ·omega
  ·have := Dt.ws_mem h; omega
theorem Dt.ws_len : ∀ ks : List Dt,ks.length ≤ Dt.ws ks
 | [] => by simp
 | x :: r => by
  have := Dt.ws_len r
  have := Dt.w_eq x
  rw [Dt.ws,List.length_cons]; omega
theorem Dt.kid_lt {d x : Dt} (h : x ∈ d.ks) : x.w < d.w := by
 have := Dt.ws_mem h
 rw [Dt.w_eq d]; omega
theorem ixD {g : Tag} {ks : List Dt} {i : Int} (h : 0 ≤ i ∧ i < ks.length) : indexAddrS 5 (.iv (.sl g (encDs ks))) i = some (.iv (.cp (encD (ks.getD i.toNat default)))) := by
 rw [encDs_map]
 exact ix_map (f := encD) encD_len h
theorem getD5 (env : Env) (S : Store) (d : Dt) : getCells env S (.iv (.cp (encD d))) 5 = some [.iv (.int .i64 d.k),.iv (.int .i64 d.n),.iv (.str d.t),.iv (.sl d.g (encDs d.ks)),.iv (.int .i64 d.p)] := by
 rw [encD_eq]; rfl
theorem drop_get {α : Type} [Inhabited α] {l : List α} {i : Nat} (h : i < l.length) : l.drop i = l.getD i default :: l.drop (i + 1) := by
 rw [List.drop_eq_getElem_cons h,List.getD_eq_getElem?_getD,List.getElem?_eq_getElem h]; rfl
theorem get_mem {α : Type} [Inhabited α] {l : List α} {i : Nat} (h : i < l.length) : l.getD i default ∈ l := by
 rw [List.getD_eq_getElem?_getD,List.getElem?_eq_getElem h]; exact List.getElem_mem h
inductive Ex where
 | mk (k n : Int) (gv : Tag) (vs : List Int) (r : Bool) (g : Tag) (ks : List Ex)
instance : Inhabited Ex := ⟨.mk 0 0 .nil [] false .nil []⟩
def Ex.k : Ex → Int | .mk k _ _ _ _ _ _ => k
def Ex.n : Ex → Int | .mk _ n _ _ _ _ _ => n
def Ex.gv : Ex → Tag | .mk _ _ gv _ _ _ _ => gv
def Ex.vs : Ex → List Int | .mk _ _ _ vs _ _ _ => vs
def Ex.r : Ex → Bool | .mk _ _ _ _ r _ _ => r
def Ex.g : Ex → Tag | .mk _ _ _ _ _ g _ => g
def Ex.ks : Ex → List Ex | .mk _ _ _ _ _ _ ks => ks
mutual
def encE : Ex → List IV
 | .mk k n gv vs r g ks => [.int .i64 k,.int .i64 n,.sl gv (TM.one (.int .i64) vs),.bool r,.sl g (encEs ks)]
def encEs : List Ex → List (List IV)
 | [] => []
 | d :: ds => encE d :: encEs ds
end
mutual
def Ex.w : Ex → Nat
 | .mk _ _ _ vs _ _ ks => vs.length + Ex.ws ks + 1
def Ex.ws : List Ex → Nat
 | [] => 0
 | d :: ds => Ex.w d + Ex.ws ds
end
theorem encEs_map : ∀ ks : List Ex,encEs ks = ks.map encE
 | [] => by rw [encEs]; rfl
 | d :: ds => by rw [encEs,encEs_map ds]; rfl
theorem encEs_len (ks : List Ex) : (encEs ks).length = ks.length := by rw [encEs_map,List.length_map]
theorem encE_eq (d : Ex) : encE d = [.int .i64 d.k,.int .i64 d.n,.sl d.gv (TM.one (.int .i64) d.vs),.bool d.r,.sl d.g (encEs d.ks)] := by
 cases d; rw [encE]; rfl
theorem encE_len (d : Ex) : (encE d).length = 5 := by rw [encE_eq]; rfl
theorem Ex.w_eq (d : Ex) : d.w = d.vs.length + Ex.ws d.ks + 1 := by cases d; rw [Ex.w]; rfl
theorem Ex.ws_mem {d : Ex} : ∀ {ks : List Ex},d ∈ ks → d.w ≤ Ex.ws ks
 | x :: r,h => by
  rw [Ex.ws]
  rcases List.mem_cons.1 h with rfl | h
  ·omega
  ·have := Ex.ws_mem h; omega
theorem Ex.ws_len : ∀ ks : List Ex,ks.length ≤ Ex.ws ks
 | [] => by simp
 | x :: r => by
  have := Ex.ws_len r
  have := Ex.w_eq x
  rw [Ex.ws,List.length_cons]; omega
theorem Ex.kid_lt {d x : Ex} (h : x ∈ d.ks) : x.w < d.w := by
 have := Ex.ws_mem h
 rw [Ex.w_eq d]; omega
theorem ixE {g : Tag} {ks : List Ex} {i : Int} (h : 0 ≤ i ∧ i < ks.length) : indexAddrS 5 (.iv (.sl g (encEs ks))) i = some (.iv (.cp (encE (ks.getD i.toNat default)))) := by
 rw [encEs_map]
 exact ix_map (f := encE) encE_len h
theorem getE5 (env : Env) (S : Store) (d : Ex) : getCells env S (.iv (.cp (encE d))) 5 = some [.iv (.int .i64 d.k),.iv (.int .i64 d.n),.iv (.sl d.gv (TM.one (.int .i64) d.vs)),.iv (.bool d.r),.iv (.sl d.g (encEs d.ks))] := by
 rw [encE_eq]; rfl
abbrev lbE (d : Ex) : TV := .lb [.iv (.int .i64 d.k),.iv (.int .i64 d.n),.iv (.sl d.gv (TM.one (.int .i64) d.vs)),.iv (.bool d.r),.iv (.sl d.g (encEs d.ks))]
structure Pg where
 b : Ex
 gl : Int
 vr : Int
 gc : Tag
 cs : List Dt
def Pg.w (p : Pg) : Nat := p.b.w + Dt.ws p.cs
def encP (p : Pg) : List IV := [.int .i64 p.b.k,.int .i64 p.b.n,.sl p.b.gv (TM.one (.int .i64) p.b.vs),.bool p.b.r,.sl p.b.g (encEs p.b.ks),.int .i64 p.gl,.int .i64 p.vr,.sl p.gc (encDs p.cs)]
abbrev lbP (p : Pg) : TV := .lb [.iv (.int .i64 p.b.k),.iv (.int .i64 p.b.n),.iv (.sl p.b.gv (TM.one (.int .i64) p.b.vs)),.iv (.bool p.b.r),.iv (.sl p.b.g (encEs p.b.ks)),.iv (.int .i64 p.gl),.iv (.int .i64 p.vr),.iv (.sl p.gc (encDs p.cs))]
end Go.Proofs.YtageemgcnoblnaaDoor
namespace Go.Proofs.YtageemgcnoblnaaDoor
open Go Go.TM Go.ChangeShapes Go.WideShapes
section
variable {P : Program} {H : Type}
theorem ty_structD {t : TypeId} {fs : Array Field} {d : DataW H} {l : List IV} (hu : P.underlying t = some (.struct fs)) (h : Ty P t d l) :
  ∃ (ds : List (DataW H)) (ls : List (List IV)),d = .agg ds ∧ l = flat ls ∧ AllTy P (fs.toList.map (·.type)) ds ls := by
 have h0 := h
 cases h with
 | bool u ht b => rw [hu] at ht; cases ht
 | int u k ht => rw [hu] at ht; cases ht
 | str u ht => rw [hu] at ht; cases ht
 | nilp u e ht => rw [hu] at ht; cases ht
 | ptr u e ht => rw [hu] at ht; cases ht
 | nils u e ht => rw [hu] at ht; cases ht
 | sl u e ht => rw [hu] at ht; cases ht
 | struct u fs' ht ds ls h1 h2 h hl =>
  rw [hu] at ht; cases ht
  refine ⟨ds,ls,rfl,rfl,?_⟩
  have key : ∀ (fs : List Field) (ds : List (DataW H)) (ls : List (List IV)),ds.length = fs.length → ls.length = fs.length → (∀ (i : Nat) (f : Field) (d : DataW H) (l : List IV),fs[i]? = some f → ds[i]? = some d → ls[i]? = some l → Ty P f.type d l) → AllTy P (fs.map (·.type)) ds ls := by
   intro fs
   induction fs with
   | nil =>
    intro ds ls h1 h2 _
    have e1 : ds = [] := List.eq_nil_of_length_eq_zero (by simpa using h1)
    have e2 : ls = [] := List.eq_nil_of_length_eq_zero (by simpa using h2)
    subst e1; subst e2; exact trivial
   | cons f fs ih =>
    intro ds ls h1 h2 h
    cases ds with
    | nil => simp at h1
    | cons d ds =>
     cases ls with
     | nil => simp at h2
     | cons l ls => exact ⟨h 0 f d l rfl rfl rfl,ih ds ls (by simpa using h1) (by simpa using h2) (fun i f' d' l' hf hd hl' => h (i + 1) f' d' l' (by simpa using hf) (by simpa using hd) (by simpa using hl'))⟩
  exact key fs.toList ds ls (by simpa using h1) (by simpa using h2) (fun i f d l hf hd hl' => h i f d l (by simpa using hf) hd hl')
 | array u e n ht => rw [hu] at ht; cases ht
theorem allTy_consE {t : TypeId} {ts : List TypeId} {ds : List (DataW H)} {ls : List (List IV)} (h : AllTy P (t :: ts) ds ls) : ∃ (d : DataW H) (l : List IV) (ds' : List (DataW H)) (ls' : List (List IV)),ds = d :: ds' ∧ ls = l :: ls' ∧ Ty P t d l ∧ AllTy P ts ds' ls' := by
 cases ds with
 | nil => cases ls <;> exact h.elim
 | cons d ds =>
  cases ls with
  | nil => exact h.elim
  | cons l ls => exact ⟨d,l,ds,ls,rfl,rfl,h.1,h.2⟩
theorem ty_sliceD {t e : TypeId} {d : DataW H} {l : List IV} (hu : P.underlying t = some (.slice e)) (h : Ty P t d l) :
  ∃ (tg : Tag) (ds sp : List (DataW H)) (ls : List (List IV)),(d = .slice ds sp ∨ d = .nil ∧ ds = []) ∧ l = [.sl tg ls] ∧ (tg = .nil → ls = []) ∧ ls.length = ds.length ∧ ∀ (i : Nat) (d : DataW H) (l : List IV),ds[i]? = some d → ls[i]? = some l → Ty P e d l := by
 cases h with
 | bool u ht b => rw [hu] at ht; cases ht
 | int u k ht => rw [hu] at ht; cases ht
 | str u ht => rw [hu] at ht; cases ht
 | nilp u e ht => rw [hu] at ht; cases ht
 | ptr u e ht => rw [hu] at ht; cases ht
 | nils u e ht => exact ⟨.nil,[],[],[],.inr ⟨rfl,rfl⟩,rfl,fun _ => rfl,rfl,fun i d l h => by simp at h⟩
 | sl u e' ht ds sp ls tag htag hn hm h hl =>
  rw [hu] at ht; cases ht
  exact ⟨tag,ds,sp,ls,.inl rfl,rfl,fun e => absurd e htag,hn,h⟩
 | struct u fs ht => rw [hu] at ht; cases ht
 | array u e n ht => rw [hu] at ht; cases ht
theorem ty_intD {t : TypeId} {d : DataW H} {l : List IV} {k : IntKind} (hu : P.underlying t = some (.int k)) (h : Ty P t d l) : ∃ n,d = .lit (.int k n) ∧ l = [.int k n] ∧ k.min ≤ n ∧ n ≤ k.max := by
 cases h with
 | bool u ht b => rw [hu] at ht; cases ht
 | int u k' ht n hw =>
  rw [hu] at ht; cases ht
  simp only [Lit.wf,Bool.and_eq_true,decide_eq_true_eq] at hw
  exact ⟨n,rfl,rfl,hw⟩
 | str u ht => rw [hu] at ht; cases ht
 | nilp u e ht => rw [hu] at ht; cases ht
 | ptr u e ht => rw [hu] at ht; cases ht
 | nils u e ht => rw [hu] at ht; cases ht
 | sl u e ht => rw [hu] at ht; cases ht
 | struct u fs ht => rw [hu] at ht; cases ht
 | array u e n ht => rw [hu] at ht; cases ht
theorem ty_strD {t : TypeId} {d : DataW H} {l : List IV} (hu : P.underlying t = some .string) (h : Ty P t d l) : ∃ s,d = .lit (.string s) ∧ l = [.str s] := by
 cases h with
 | bool u ht b => rw [hu] at ht; cases ht
 | int u k ht => rw [hu] at ht; cases ht
 | str u ht s hs => exact ⟨s,rfl,rfl⟩
 | nilp u e ht => rw [hu] at ht; cases ht
 | ptr u e ht => rw [hu] at ht; cases ht
 | nils u e ht => rw [hu] at ht; cases ht
 | sl u e ht => rw [hu] at ht; cases ht
 | struct u fs ht => rw [hu] at ht; cases ht
 | array u e n ht => rw [hu] at ht; cases ht
open Rows in
theorem bulk_slice {d : DataW H} {ds sp : List (DataW H)} (h : d = .slice ds sp ∨ d = .nil ∧ ds = []) : uptoBulkAll ds + 1 ≤ uptoBulk d := by
 rcases h with rfl | ⟨rfl,rfl⟩
 ·simp only [uptoBulk]; omega
 ·simp only [uptoBulk,uptoBulkAll]; omega
open Rows in
theorem bulk_part {d : DataW H} : ∀ {l : List (DataW H)},d ∈ l → uptoBulk d ≤ uptoBulkAll l
 | x :: r,h => by
  simp only [uptoBulkAll]
  rcases List.mem_cons.1 h with rfl | h
  ·omega
  ·have := bulk_part h; omega
open Rows in
theorem ty_list {α : Type} {e : TypeId} {f : α → List IV} {R : α → Prop} {w : α → Nat} {ws : List α → Nat} (h0 : ws [] = 0) (h1 : ∀ a l,ws (a :: l) = w a + ws l) :
  ∀ (ls : List (List IV)) (ds : List (DataW H)),(∀ d ∈ ds,∀ l,Ty P e d l → ∃ a,l = f a ∧ w a ≤ uptoBulk d ∧ R a) → ls.length = ds.length →
  (∀ (i : Nat) (d : DataW H) (l : List IV),ds[i]? = some d → ls[i]? = some l → Ty P e d l) → ∃ ags : List α,ls = ags.map f ∧ ws ags ≤ uptoBulkAll ds ∧ ∀ a ∈ ags,R a
 | [],ds,_,_,_ => ⟨[],rfl,by rw [h0]; omega,by simp⟩
 | l :: ls,[],_,hn,_ => by simp at hn
 | l :: ls,d :: ds,he,hn,h => by
  obtain ⟨a,rfl,hw,ha⟩ := he d (by simp) l (h 0 d l rfl rfl)
  obtain ⟨ags,rfl,hws,has⟩ := ty_list h0 h1 ls ds (fun d hd => he d (by simp [hd])) (by simpa using hn) (fun i d' l' hd hl' => h (i + 1) d' l' (by simpa using hd) (by simpa using hl'))
  refine ⟨a :: ags,rfl,?_,?_⟩
  ·rw [h1,uptoBulkAll]; omega
  ·intro x hx; rcases List.mem_cons.1 hx with rfl | hx; exact ha; exact has x hx
end
def i64r (n : Int) : Prop := -9223372036854775808 ≤ n ∧ n ≤ 9223372036854775807
mutual
def Dt.ok : Dt → Prop
 | .mk k n t g ks p => i64r k ∧ i64r n ∧ i64r p ∧ TagOk g ks ∧ Dt.oks ks
def Dt.oks : List Dt → Prop
 | [] => True
 | d :: ds => Dt.ok d ∧ Dt.oks ds
end
mutual
def Ex.ok : Ex → Prop
 | .mk k n gv vs r g ks => i64r k ∧ i64r n ∧ TagOk gv vs ∧ (∀ v ∈ vs,i64r v) ∧ TagOk g ks ∧ Ex.oks ks
def Ex.oks : List Ex → Prop
 | [] => True
 | d :: ds => Ex.ok d ∧ Ex.oks ds
end
theorem Dt.oks_iff : ∀ {ks : List Dt},Dt.oks ks ↔ ∀ x ∈ ks,x.ok
 | [] => by simp [Dt.oks]
 | d :: ds => by rw [Dt.oks,Dt.oks_iff]; simp
theorem Ex.oks_iff : ∀ {ks : List Ex},Ex.oks ks ↔ ∀ x ∈ ks,x.ok
 | [] => by simp [Ex.oks]
 | d :: ds => by rw [Ex.oks,Ex.oks_iff]; simp
theorem Dt.ok_eq (d : Dt) : d.ok ↔ i64r d.k ∧ i64r d.n ∧ i64r d.p ∧ TagOk d.g d.ks ∧ ∀ x ∈ d.ks,x.ok := by
 cases d; rw [Dt.ok,Dt.oks_iff]; rfl
theorem Ex.ok_eq (d : Ex) : d.ok ↔ i64r d.k ∧ i64r d.n ∧ TagOk d.gv d.vs ∧ (∀ v ∈ d.vs,i64r v) ∧ TagOk d.g d.ks ∧ ∀ x ∈ d.ks,x.ok := by
 cases d; rw [Ex.ok,Ex.oks_iff]; rfl
def Pg.ok (p : Pg) : Prop := p.b.ok ∧ i64r p.gl ∧ i64r p.vr ∧ TagOk p.gc p.cs ∧ ∀ x ∈ p.cs,x.ok
theorem i64r_of {n : Int} (h : IntKind.i64.min ≤ n ∧ n ≤ IntKind.i64.max) : i64r n := by
 obtain ⟨h1,h2⟩ := h
 simp [IntKind.min,IntKind.max,IntKind.signed,IntKind.bits] at h1 h2
 unfold i64r; omega
theorem nil_tag {tg : Tag} {α β : Type} {f : α → β} {l : List α} (h : tg = .nil → l.map f = []) : TagOk tg l := fun e => by simpa using h e
section
variable {H : Type}
open Rows
theorem tyI {d : DataW H} {l : List IV} (h : Ty Tryd.prog 3 d l) : ∃ n,l = [.int .i64 n] ∧ uptoBulk d = 1 ∧ i64r n := by
 obtain ⟨n,rfl,rfl,hr⟩ := ty_intD Tryd.underlying3 h
 exact ⟨n,rfl,by simp [uptoBulk],i64r_of hr⟩
theorem tyIs {d : DataW H} {l : List IV} (h : Ty Tryd.prog 22 d l) : ∃ (tg : Tag) (vs : List Int),l = [.sl tg (TM.one (.int .i64) vs)] ∧ TagOk tg vs ∧ vs.length + 1 ≤ uptoBulk d ∧ ∀ v ∈ vs,i64r v := by
 obtain ⟨tg,ds,sp,ls,hd,rfl,ht,hn,hl⟩ := ty_sliceD Tryd.underlying22 h
 obtain ⟨vs,rfl,hw,hr⟩ := ty_list (f := fun n => [.int .i64 n]) (R := i64r) (w := fun _ : Int => 1) (ws := List.length) rfl (fun a l => by simp; omega) ls ds (fun d hd l h => by
  obtain ⟨n,rfl,hb,hr⟩ := tyI h
  exact ⟨n,rfl,by omega,hr⟩) hn hl
 have := bulk_slice hd
 exact ⟨tg,vs,rfl,nil_tag ht,by omega,hr⟩
theorem readD : ∀ (n : Nat) (d : DataW H) (l : List IV),uptoBulk d ≤ n → Ty Tryd.prog 51 d l → ∃ x : Dt,l = encD x ∧ x.w ≤ uptoBulk d ∧ x.ok
 | 0,d,l,hb,h => by
  obtain ⟨ds,ls,rfl,rfl,hh⟩ := ty_structD Tryd.underlying51 h
  simp only [uptoBulk] at hb; omega
 | n + 1,d,l,hb,h => by
  obtain ⟨ds,ls,rfl,rfl,hh00⟩ := ty_structD Tryd.underlying51 h
  have hh0 : AllTy Tryd.prog [3,3,9,26,3] ds ls := hh00
  obtain ⟨d0,l0,ds,ls,rfl,rfl,h0,hh1⟩ := allTy_consE hh0
  obtain ⟨d1,l1,ds,ls,rfl,rfl,h1,hh2⟩ := allTy_consE hh1
  obtain ⟨d2,l2,ds,ls,rfl,rfl,h2,hh3⟩ := allTy_consE hh2
  obtain ⟨d3,l3,ds,ls,rfl,rfl,h3,hh4⟩ := allTy_consE hh3
  obtain ⟨d4,l4,ds,ls,rfl,rfl,h4,hh5⟩ := allTy_consE hh4
  obtain rfl := allTy_nilD hh5
  rw [allTy_nil hh5]
  simp only [uptoBulk,uptoBulkAll] at hb
  obtain ⟨k,rfl,b0,r0⟩ := tyI h0
  obtain ⟨m,rfl,b1,r1⟩ := tyI h1
  obtain ⟨s,rfl,rfl⟩ := ty_strD Tryd.underlying9 h2
  obtain ⟨tg,es,sp,ls,hd,rfl,ht,hn,hl⟩ := ty_sliceD Tryd.underlying26 h3
  obtain ⟨p,rfl,b4,r4⟩ := tyI h4
  have hs := bulk_slice hd
  obtain ⟨ks,rfl,hw,hr⟩ := ty_list (f := encD) (R := Dt.ok) (w := Dt.w) (ws := Dt.ws) (by rw [Dt.ws]) (fun a l => by rw [Dt.ws]) ls es (fun d hd l h => by
   have := bulk_part hd
   exact readD n d l (by omega) h) hn hl
  refine ⟨.mk k m s tg ks p,?_,?_,?_⟩
  ·rw [encD,encDs_map]; rfl
  ·rw [Dt.w]; simp only [uptoBulk,uptoBulkAll]; omega
  ·rw [Dt.ok_eq]; exact ⟨r0,r1,r4,nil_tag ht,hr⟩
theorem tyB {d : DataW H} {l : List IV} (h : Ty Tryd.prog 4 d l) : ∃ b,l = [.bool b] := ty_bool Tryd.underlying4 h
theorem readE : ∀ (n : Nat) (d : DataW H) (l : List IV),uptoBulk d ≤ n → Ty Tryd.prog 25 d l → ∃ x : Ex,l = encE x ∧ x.w ≤ uptoBulk d ∧ x.ok
 | 0,d,l,hb,h => by
  obtain ⟨ds,ls,rfl,rfl,hh⟩ := ty_structD Tryd.underlying25 h
  simp only [uptoBulk] at hb; omega
 | n + 1,d,l,hb,h => by
  obtain ⟨ds,ls,rfl,rfl,hh00⟩ := ty_structD Tryd.underlying25 h
  have hh0 : AllTy Tryd.prog [3,3,22,4,23] ds ls := hh00
  obtain ⟨d0,l0,ds,ls,rfl,rfl,h0,hh1⟩ := allTy_consE hh0
  obtain ⟨d1,l1,ds,ls,rfl,rfl,h1,hh2⟩ := allTy_consE hh1
  obtain ⟨d2,l2,ds,ls,rfl,rfl,h2,hh3⟩ := allTy_consE hh2
  obtain ⟨d3,l3,ds,ls,rfl,rfl,h3,hh4⟩ := allTy_consE hh3
  obtain ⟨d4,l4,ds,ls,rfl,rfl,h4,hh5⟩ := allTy_consE hh4
  obtain rfl := allTy_nilD hh5
  rw [allTy_nil hh5]
  simp only [uptoBulk,uptoBulkAll] at hb
  obtain ⟨k,rfl,b0,r0⟩ := tyI h0
  obtain ⟨m,rfl,b1,r1⟩ := tyI h1
  obtain ⟨tv,vs,rfl,htv,b2,r2⟩ := tyIs h2
  obtain ⟨r,rfl⟩ := tyB h3
  obtain ⟨tg,es,sp,ls,hd,rfl,ht,hn,hl⟩ := ty_sliceD Tryd.underlying23 h4
  have hs := bulk_slice hd
  obtain ⟨ks,rfl,hw,hr⟩ := ty_list (f := encE) (R := Ex.ok) (w := Ex.w) (ws := Ex.ws) (by rw [Ex.ws]) (fun a l => by rw [Ex.ws]) ls es (fun d hd l h => by
   have := bulk_part hd
   exact readE n d l (by omega) h) hn hl
  refine ⟨.mk k m tv vs r tg ks,?_,?_,?_⟩
  ·rw [encE,encEs_map]; rfl
  ·rw [Ex.w]; simp only [uptoBulk,uptoBulkAll]; omega
  ·rw [Ex.ok_eq]; exact ⟨r0,r1,htv,r2,nil_tag ht,hr⟩
theorem readP {d : DataW H} {l : List IV} (h : Ty Tryd.prog 28 d l) : ∃ x : Pg,l = encP x ∧ x.w ≤ uptoBulk d ∧ x.ok := by
 obtain ⟨ds,ls,rfl,rfl,hh00⟩ := ty_structD Tryd.underlying28 h
 have hh0 : AllTy Tryd.prog [25,3,3,26] ds ls := hh00
 obtain ⟨d0,l0,ds,ls,rfl,rfl,h0,hh1⟩ := allTy_consE hh0
 obtain ⟨d1,l1,ds,ls,rfl,rfl,h1,hh2⟩ := allTy_consE hh1
 obtain ⟨d2,l2,ds,ls,rfl,rfl,h2,hh3⟩ := allTy_consE hh2
 obtain ⟨d3,l3,ds,ls,rfl,rfl,h3,hh4⟩ := allTy_consE hh3
 obtain rfl := allTy_nilD hh4
 rw [allTy_nil hh4]
 obtain ⟨b,rfl,b0,r0⟩ := readE _ _ _ (Nat.le_refl _) h0
 obtain ⟨gl,rfl,b1,r1⟩ := tyI h1
 obtain ⟨vr,rfl,b2,r2⟩ := tyI h2
 obtain ⟨tg,es,sp,ls,hd,rfl,ht,hn,hl⟩ := ty_sliceD Tryd.underlying26 h3
 have hs := bulk_slice hd
 obtain ⟨ks,rfl,hw,hr⟩ := ty_list (f := encD) (R := Dt.ok) (w := Dt.w) (ws := Dt.ws) (by rw [Dt.ws]) (fun a l => by rw [Dt.ws]) ls es (fun d hd l h => readD _ d l (Nat.le_refl _) h) hn hl
 refine ⟨⟨b,gl,vr,tg,ks⟩,?_,?_,?_⟩
 ·rw [encP,encE_eq,encDs_map]; rfl
 ·unfold Pg.w; simp only [uptoBulk,uptoBulkAll]; omega
 ·exact ⟨r0,r1,r2,nil_tag ht,hr⟩
end
end Go.Proofs.YtageemgcnoblnaaDoor
namespace Go.Proofs.YtageemgcnoblnaaDoor
open Go Go.TM
attribute [go_sem] List.length_set
mutual
def gath (f : Ex → List Int) : Ex → List Int
 | .mk k n gv vs r g ks => f (.mk k n gv vs r g ks) ++ gaths f ks
def gaths (f : Ex → List Int) : List Ex → List Int
 | [] => []
 | d :: ds => gath f d ++ gaths f ds
end
structure AM (S : Store) (ib im : Nat) (B : List Int) (m : Nat) : Prop where
 ne : ib ≠ im
 box : S[ib]? = some (.cells 87 false [.map im])
 map : ∃ l c,S[im]? = some (.mp (mpR boxI l) c) ∧ RowsOK l c ∧ l.length ≤ m ∧ ∀ v,hasR l v = true ↔ v ∈ B
structure RiseOf (l B : List Int) : Prop where
 inc : l.Pairwise (· < ·)
 mem : ∀ v,v ∈ l ↔ v ∈ B
structure Mk where
 fs : List (List IV)
 nv : Int
def cellsM (l : List (List IV)) : List TV := (TM.flat l).map .iv
def mkB (jf : Nat) (σ : Mk) : Block := .cells 64 false [.msl jf (σ.fs.length - 1) 0 σ.fs.length σ.fs.length 11,.iv (.int .i64 σ.nv)]
structure MkS (S : Store) (jm jf : Nat) (σ : Mk) : Prop where
 own : S[jm]? = some (mkB jf σ)
 row : S[jf]? = some (.cells (σ.fs.length - 1) true (cellsM σ.fs))
 ne : σ.fs ≠ []
 wid : ∀ f ∈ σ.fs,f.length = 11 ∧ f.all isCell = true
 ok : 0 ≤ σ.nv ∧ σ.nv ≤ 4611686018427387904 ∧ σ.fs.length ≤ 1000000
theorem MkS.jne {S : Store} {jm jf : Nat} {σ : Mk} (h : MkS S jm jf σ) : jm ≠ jf := by
 rintro rfl
 have a := h.own
 rw [h.row] at a
 unfold mkB at a
 simp at a
theorem MkS.keep {S S' : Store} {jm jf : Nat} {σ : Mk} {I : List Nat} (h : MkS S jm jf σ) (k : Keep I S S') (h1 : jm ∉ I) (h2 : jf ∉ I) : MkS S' jm jf σ :=
 ⟨k.get _ _ h1 h.own,k.get _ _ h2 h.row,h.ne,h.wid,h.ok⟩
def Mk.var (σ : Mk) : Mk := ⟨σ.fs,σ.nv + 1⟩
def Mk.push (σ : Mk) (f : List IV) : Mk := ⟨σ.fs ++ [f],σ.nv⟩
theorem call21 {S : Store} {jm jf : Nat} {σ : Mk} (h : MkS S jm jf σ) : (lim K).call 21 [.ptr jm 64 0] S = .ret (.iv (.int .i64 σ.nv),S.set jm (mkB jf σ.var)) := by
 have h1 := h.own
 have h2 := lt_get h1
 have h3 := h.ok
 have e1 := fun b => get_setS h2 b
 unfold mkB Mk.var at *
 generalize σ.fs.length = n at *
 refine call_ret' K _ (fn := t21) rfl rfl ?_
 simp (config := { maxSteps := 4000000 }) (disch := omega) only [t21,go_sem,TM.undef,h1,e1,wrap_i64,Int.add_sub_cancel]
theorem MkS.var {S : Store} {jm jf : Nat} {σ : Mk} (h : MkS S jm jf σ) (hv : σ.nv < 4611686018427387904) : MkS (S.set jm (mkB jf σ.var)) jm jf σ.var :=
 ⟨get_setS (lt_get h.own) _,by rw [get_setN h.jne]; exact h.row,h.ne,h.wid,by have := h.ok; show 0 ≤ σ.nv + 1 ∧ σ.nv + 1 ≤ _ ∧ σ.fs.length ≤ _; omega⟩
theorem flat_all {l : List (List IV)} (h : ∀ f ∈ l,f.length = 11) : (cellsM l).length = l.length * 11 := by
 unfold cellsM
 rw [List.length_map]
 induction l with
 | nil => rfl
 | cons a r ih =>
  rw [show TM.flat (a :: r) = a ++ TM.flat r from rfl,List.length_append,h a (by simp),ih (fun f hf => h f (by simp [hf])),List.length_cons]
  omega
theorem cellsM_snoc (l : List (List IV)) (f : List IV) : cellsM (l ++ [f]) = cellsM l ++ f.map .iv := by
 unfold cellsM
 induction l with
 | nil => simp [TM.flat]
 | cons a r ih =>
  rw [List.cons_append,show TM.flat (a :: (r ++ [f])) = a ++ TM.flat (r ++ [f]) from rfl,show TM.flat (a :: r) = a ++ TM.flat r from rfl,List.map_append,ih,List.map_append,List.append_assoc]
theorem ap_fun {S : Store} {jm jf : Nat} {σ : Mk} (h : MkS S jm jf σ) {f : List IV} (hf : f.length = 11) (hc : f.all isCell = true) :
  appendOp true 11 144 47 S (.msl jf (σ.fs.length - 1) 0 σ.fs.length σ.fs.length 11) (.iv (.sl .full [f])) = some (.msl jf σ.fs.length 0 (σ.fs.length + 1) (σ.fs.length + 1) 11,S.set jf (.cells σ.fs.length true (cellsM (σ.fs ++ [f])))) := by
 have hr := h.row
 have hn : 0 < σ.fs.length := List.length_pos_iff.2 h.ne
 have hs : sub (cellsM σ.fs) 0 (σ.fs.length * 11) = some (cellsM σ.fs) := sub_all (flat_all fun f hf => (h.wid f hf).1)
 have hro : roomy (σ.fs.length + 1) 144 = true := roomy_ok (by have := h.ok; omega)
 have hx : elemsTV S (.iv (.sl .full [f])) = some (f.map .iv) := by
  show some ((TM.flat [f]).map TV.iv) = _
  rw [show TM.flat [f] = f from List.append_nil f]
 have hl : lenOf S (.iv (.sl .full [f])) = some 1 := rfl
 have ha := any_ref hc
 rw [cellsM_snoc]
 generalize cellsM σ.fs = cs at *
 generalize σ.fs.length = n at *
 simp [appendOp,hx,hl,hr,ha,hf,hs,hro,show ¬ n + 1 ≤ n by omega,show n - 1 + 1 = n by omega]
theorem call20 {S : Store} {jm jf : Nat} {σ : Mk} (h : MkS S jm jf σ) (f0 f1 f2 f3 f4 f5 f6 f7 f8 f9 f10 : IV) (hf : [f0,f1,f2,f3,f4,f5,f6,f7,f8,f9,f10].all isCell = true) : (lim K).call 20 [.ptr jm 64 0,.iv (.agg [f0,f1,f2,f3,f4,f5,f6,f7,f8,f9,f10])] S = .ret (.iv (.int .i64 σ.fs.length),(S.set jf (.cells σ.fs.length true (cellsM (σ.fs ++ [[f0,f1,f2,f3,f4,f5,f6,f7,f8,f9,f10]])))).set jm (mkB jf (σ.push [f0,f1,f2,f3,f4,f5,f6,f7,f8,f9,f10]))) := by
 have ap := ap_fun h (f := [f0,f1,f2,f3,f4,f5,f6,f7,f8,f9,f10]) rfl hf
 have h1 := h.own
 have hne := h.jne
 have h2 := lt_get h1
 have h3 := h.ok
 have g1 : ∀ b,(S.set jf b)[jm]? = S[jm]? := fun b => get_setN (Ne.symm hne) b
 have g2 : ∀ b c,((S.set jf b).set jm c)[jm]? = some c := fun b c => get_setS (by simpa using h2) c
 have hl : (σ.push [f0,f1,f2,f3,f4,f5,f6,f7,f8,f9,f10]).fs.length = σ.fs.length + 1 := by simp [Mk.push]
 unfold mkB at *
 rw [hl,Nat.add_sub_cancel,show (σ.push [f0,f1,f2,f3,f4,f5,f6,f7,f8,f9,f10]).nv = σ.nv from rfl]
 generalize σ.fs.length = n at *
 have e1 : ((n + 1 : Nat) : Int) - 1 = n := by omega
 have hr := any_ref hf
 simp only [List.map_cons,List.map_nil,List.any_cons,List.any_nil,Bool.or_eq_false_iff] at hr
 obtain ⟨r0,r1,r2,r3,r4,r5,r6,r7,r8,r9,r10,_⟩ := hr
 refine call_ret' K _ (fn := t20) rfl rfl ?_
 simp (config := { maxSteps := 4000000 }) (disch := omega) only [t20,go_sem,TM.undef,h1,ap,g1,g2,wrap_i64,e1,r0,r1,r2,r3,r4,r5,r6,r7,r8,r9,r10,Bool.or_self,Bool.false_eq_true]
theorem MkS.push {S : Store} {jm jf : Nat} {σ : Mk} (h : MkS S jm jf σ) {f : List IV} (hf : f.length = 11) (hc : f.all isCell = true) (hn : σ.fs.length < 1000000) : MkS ((S.set jf (.cells σ.fs.length true (cellsM (σ.fs ++ [f])))).set jm (mkB jf (σ.push f))) jm jf (σ.push f) := by
 have hl : (σ.push f).fs.length - 1 = σ.fs.length := by simp [Mk.push]
 refine ⟨get_setS (by simpa using lt_get h.own) _,?_,by simp [Mk.push],fun g hg => ?_,?_⟩
 ·rw [get_setN h.jne,hl,get_setS (lt_get h.row)]
  rfl
 ·rcases List.mem_append.1 hg with hg | hg
  ·exact h.wid g hg
  ·rw [List.mem_singleton] at hg; subst hg; exact ⟨hf,hc⟩
 ·have := h.ok
  show 0 ≤ σ.nv ∧ σ.nv ≤ _ ∧ (σ.fs ++ [f]).length ≤ _
  rw [List.length_append,List.length_singleton]; omega
theorem keep_var {S : Store} {jm jf : Nat} (b : Block) : Keep [jm,jf] S (S.set jm b) := Keep.set S (by simp) b
theorem keep_push {S : Store} {jm jf : Nat} (b c : Block) : Keep [jm,jf] S ((S.set jf b).set jm c) := (Keep.set S (by simp) b).trans (Keep.set _ (by simp) c)
theorem call25 (v : Int) : TM.Pure K 25 [.iv (.int .i64 v)] (.iv (.agg [.int .i64 1,.int .i64 v])) := by
 refine call_pure t25 rfl rfl ?_
 simp (config := { maxSteps := 4000000 }) (disch := omega) only [t25,go_sem,TM.undef]
def madeS (v f : Int) : List IV := [.int .i64 0,.int .i64 2,.int .i64 v,.int .i64 0,.int .i64 0,.int .i64 f,.sl .nil [],.sl .nil [],.int .i64 0,.int .i64 0,.sl .nil [],.bool false,.sl .nil [],.int .i64 v]
theorem call22 {S : Store} {jm jf : Nat} {σ : Mk} (h : MkS S jm jf σ) (f : Int) : (lim K).call 22 [.ptr jm 64 0,.iv (.int .i64 f)] S = .ret (.tup [.iv (.agg (madeS σ.nv f)),.iv (.int .i64 σ.nv)],S.set jm (mkB jf σ.var)) := by
 have c21 := call21 h
 unfold madeS
 refine call_ret' K _ (fn := t22) rfl rfl ?_
 simp (config := { maxSteps := 4000000 }) (disch := omega) only [t22,go_sem,TM.undef,c21]
inductive St where
 | tm (t : List IV) (to : Int)
 | rs (e : Ex) (to : Int)
def zT : List IV := [.int .i64 0,.int .i64 0,.int .i64 0,.int .i64 0,.int .i64 0,.sl .nil [],.sl .nil []]
def encZ : St → List IV
 | .tm t to => .int .i64 0 :: (t ++ [.int .i64 0,.int .i64 0,.sl .nil [],.bool false,.sl .nil [],.int .i64 to])
 | .rs e to => .int .i64 1 :: (zT ++ (encE e ++ [.int .i64 to]))
def aV (v : Int) : List IV := [.int .i64 1,.int .i64 v]
def aC (n : Int) : List IV := [.int .i64 2,.int .i64 n]
def funT (v f : Int) (ks : IV) : List IV := [.int .i64 2,.int .i64 v,.int .i64 0,.int .i64 0,.int .i64 f,.sl .nil [],ks]
def primT (v op n : Int) (ats : List (List IV)) : List IV := [.int .i64 1,.int .i64 v,.int .i64 op,.int .i64 n,.int .i64 0,.sl (sTag ats) ats,.sl .nil []]
def callT (t : Tag) (ats : List (List IV)) : List IV := [.int .i64 4,.int .i64 0,.int .i64 0,.int .i64 0,.int .i64 0,.sl t ats,.sl .nil []]
def applT (ats : List (List IV)) : List IV := [.int .i64 6,.int .i64 0,.int .i64 0,.int .i64 0,.int .i64 0,.sl .full ats,.sl .nil []]
def ifT (a t1 t2 : List IV) : List IV := [.int .i64 3,.int .i64 0,.int .i64 0,.int .i64 0,.int .i64 0,.sl .full [a],.sl .full [t1,t2]]
def fnF (tg : Tag) (ps : List Int) (rest cont : Bool) (body : List IV) : List IV := .sl tg (TM.one (.int .i64) ps) :: .bool rest :: .bool cont :: .sl .nil [] :: body
def lamTag (vs : List Int) : Tag := match vs with
 | [] => .full
 | _ => .no
def opX (e : Ex) : Int := if e.k = 12 then 100 else if e.k = 13 then 101 else if e.k = 14 then 102 else if e.k = 3 then 103 else if e.k = 5 then 104 else e.n
def opN (e : Ex) : Int := if e.k = 12 then 0 else if e.k = 13 then 0 else if e.k = 14 then 0 else if e.k = 3 ∨ e.k = 5 then e.n else 0
mutual
def valueM : Nat → Ex → Mk → Option (List St × List IV × Mk)
 | 0,_,_ => none
 | n + 1,e,σ =>
  if e.k = 1 then some ([],aC e.n,σ)
  else if e.k = 2 then some ([],aV e.n,σ)
  else if e.k = 7 then (lambdaM n e σ).bind fun x => some ([.tm (funT x.2.nv x.1 (.sl .nil [])) x.2.nv],aV x.2.nv,x.2.var)
  else if e.k = 10 ∧ e.ks.length ≤ 64 then (valuesM n e.ks σ).bind fun x => (x.2.1.getLast?).bind fun a => some (x.1,a,x.2.2)
  else if e.k = 10 ∨ e.k = 8 ∨ e.k = 6 ∨ e.k = 11 then some ([.rs e σ.nv],aV σ.nv,σ.var)
  else (valuesM n e.ks σ).bind fun x => some (x.1 ++ [.tm (primT x.2.2.nv (opX e) (opN e) x.2.1) x.2.2.nv],aV x.2.2.nv,x.2.2.var)
def valuesM : Nat → List Ex → Mk → Option (List St × List (List IV) × Mk)
 | 0,_,_ => none
 | n + 1,[],σ => some ([],[],σ)
 | n + 1,e :: l,σ => (valueM n e σ).bind fun x => (valuesM n l x.2.2).bind fun y => some (x.1 ++ y.1,x.2.1 :: y.2.1,y.2.2)
def lambdaM : Nat → Ex → Mk → Option (Int × Mk)
 | 0,_,_ => none
 | n + 1,e,σ => match e.ks with
  | [] => none
  | b :: _ => (codeM n b (aV σ.nv) σ.var).bind fun x => some ((x.2.fs.length : Int),x.2.push (fnF (lamTag e.vs) (σ.nv :: e.vs) e.r false x.1))
def laidM : Nat → List St → List IV → Mk → Option (List IV × Mk)
 | 0,_,_,_ => none
 | n + 1,[],t,σ => some (t,σ)
 | n + 1,.tm c _ :: l,t,σ => laidM n l (c.set 6 (.sl .full [t])) σ
 | n + 1,.rs e to :: l,t,σ => (codeM n e (aV σ.nv) (σ.push (fnF .full [to] false true t)).var).bind fun x => laidM n l (funT σ.nv σ.fs.length (.sl .full [x.1])) x.2
def codeM : Nat → Ex → List IV → Mk → Option (List IV × Mk)
 | 0,_,_,_ => none
 | n + 1,e,k,σ =>
  if e.k = 8 then (valuesM n e.ks σ).bind fun x => match x.2.1 with
   | [] => none
   | a :: r => laidM n x.1.reverse (callT .no (a :: k :: r)) x.2.2
  else if e.k = 6 then match e.ks with
   | c :: p :: q :: _ => (valueM n c σ).bind fun x => (codeM n p k x.2.2).bind fun y => (codeM n q k y.2).bind fun z => laidM n x.1.reverse (ifT x.2.1 y.1 z.1) z.2
   | _ => none
  else if e.k = 10 then seqM n e.ks k σ
  else if e.k = 11 then ctlM n e k σ
  else (valueM n e σ).bind fun x => laidM n x.1.reverse (callT .full [k,x.2.1]) x.2.2
def ctlM : Nat → Ex → List IV → Mk → Option (List IV × Mk)
 | 0,_,_,_ => none
 | n + 1,e,k,σ => (valuesM n e.ks σ).bind fun x =>
  if e.n = 1 then match x.2.1 with
   | a :: b :: _ => laidM n x.1.reverse (applT [a,k,b]) x.2.2
   | _ => none
  else if e.n = 0 then match x.2.1 with
   | a :: _ => laidM n (x.1 ++ [St.tm (funT (x.2.2.nv + 2) x.2.2.fs.length (.sl .nil [])) (x.2.2.nv + 2)]).reverse (callT .full [a,k,aV (x.2.2.nv + 2)]) (x.2.2.var.var.push (fnF .full [x.2.2.nv,x.2.2.nv + 1] true false (applT [k,aV (x.2.2.nv + 1)]))).var
   | _ => none
  else match x.2.1 with
   | a :: b :: _ => laidM n (x.1 ++ [St.tm (funT (x.2.2.nv + 1) x.2.2.fs.length (.sl .nil [])) (x.2.2.nv + 1)]).reverse (callT .full [a,aV (x.2.2.nv + 1)]) (x.2.2.var.push (fnF .full [x.2.2.nv] true true (applT [b,k,aV x.2.2.nv]))).var
   | _ => none
def seqM : Nat → List Ex → List IV → Mk → Option (List IV × Mk)
 | 0,_,_,_ => none
 | n + 1,l,k,σ => match l.getLast? with
  | none => none
  | some z => (valuesM n ((l.take (l.length - 1)).drop (64 * ((l.length - 1) / 64))) σ).bind fun x => (codeM n z k x.2.2).bind fun y => (laidM n x.1.reverse y.1 y.2).bind fun w => partsM n ((l.length - 1) / 64) l w.1 w.2
def partsM : Nat → Nat → List Ex → List IV → Mk → Option (List IV × Mk)
 | 0,_,_,_,_ => none
 | n + 1,0,_,t,σ => some (t,σ)
 | n + 1,i + 1,l,t,σ => (valuesM n ((l.drop (64 * i)).take 64) (σ.var.push (fnF .full [σ.nv] true true t)).var).bind fun x =>
  (laidM n (St.tm (funT (σ.nv + 1) σ.fs.length (.sl .nil [])) (σ.nv + 1) :: x.1).reverse (callT .full [aV (σ.nv + 1)]) x.2.2).bind fun w => partsM n i l w.1 w.2
end
structure Le (σ τ : Mk) : Prop where
 nv : σ.nv ≤ τ.nv
 fs : ∃ r,τ.fs = σ.fs ++ r
theorem Le.refl (σ : Mk) : Le σ σ := ⟨Int.le_refl _,[],by simp⟩
theorem Le.trans {a b c : Mk} (h : Le a b) (g : Le b c) : Le a c := by
 obtain ⟨r,hr⟩ := h.fs
 obtain ⟨s,hs⟩ := g.fs
 exact ⟨Int.le_trans h.nv g.nv,r ++ s,by rw [hs,hr,List.append_assoc]⟩
theorem Le.var (σ : Mk) : Le σ σ.var := ⟨by show σ.nv ≤ σ.nv + 1; omega,[],by simp [Mk.var]⟩
theorem Le.push (σ : Mk) (f : List IV) : Le σ (σ.push f) := ⟨Int.le_refl _,[f],rfl⟩
theorem Le.len {σ τ : Mk} (h : Le σ τ) : σ.fs.length ≤ τ.fs.length := by
 obtain ⟨r,hr⟩ := h.fs
 rw [hr,List.length_append]; omega
structure Mono (n : Nat) : Prop where
 value : ∀ {e σ x},valueM n e σ = some x → Le σ x.2.2
 values : ∀ {l σ x},valuesM n l σ = some x → Le σ x.2.2
 lam : ∀ {e σ x},lambdaM n e σ = some x → Le σ x.2
 laid : ∀ {l t σ x},laidM n l t σ = some x → Le σ x.2
 code : ∀ {e k σ x},codeM n e k σ = some x → Le σ x.2
 ctl : ∀ {e k σ x},ctlM n e k σ = some x → Le σ x.2
 sq : ∀ {l k σ x},seqM n l k σ = some x → Le σ x.2
 parts : ∀ {i l t σ x},partsM n i l t σ = some x → Le σ x.2
theorem mono : ∀ n,Mono n
 | 0 => ⟨fun h => by simp [valueM] at h,fun h => by simp [valuesM] at h,fun h => by simp [lambdaM] at h,fun h => by simp [laidM] at h,fun h => by simp [codeM] at h,fun h => by simp [ctlM] at h,fun h => by simp [seqM] at h,fun h => by simp [partsM] at h⟩
 | n + 1 => by
  have m := mono n
  refine ⟨?_,?_,?_,?_,?_,?_,?_,?_⟩
  ·intro e σ x h
   rw [valueM] at h
   split at h
   ·cases h; exact Le.refl _
   ·split at h
    ·cases h; exact Le.refl _
    ·split at h
     ·obtain ⟨y,hy,h⟩ := Option.bind_eq_some_iff.1 h
      cases h; exact (m.lam hy).trans (Le.var _)
     ·split at h
      ·obtain ⟨y,hy,h⟩ := Option.bind_eq_some_iff.1 h
       obtain ⟨a,ha,h⟩ := Option.bind_eq_some_iff.1 h
       cases h; exact m.values hy
      ·split at h
       ·cases h; exact Le.var _
       ·obtain ⟨y,hy,h⟩ := Option.bind_eq_some_iff.1 h
        cases h; exact (m.values hy).trans (Le.var _)
  ·intro l σ x h
   cases l with
   | nil => rw [valuesM] at h; cases h; exact Le.refl _
   | cons e l =>
    rw [valuesM] at h
    obtain ⟨y,hy,h⟩ := Option.bind_eq_some_iff.1 h
    obtain ⟨z,hz,h⟩ := Option.bind_eq_some_iff.1 h
    cases h; exact (m.value hy).trans (m.values (x := z) hz)
  ·intro e σ x h
   rw [lambdaM] at h
   split at h
   ·cases h
   ·obtain ⟨y,hy,h⟩ := Option.bind_eq_some_iff.1 h
    cases h; exact ((Le.var _).trans (m.code hy)).trans (Le.push _ _)
  ·intro l t σ x h
   cases l with
   | nil => rw [laidM] at h; cases h; exact Le.refl _
   | cons s l =>
    cases s with
    | tm c to => rw [laidM] at h; exact m.laid h
    | rs e to =>
     rw [laidM] at h
     obtain ⟨y,hy,h⟩ := Option.bind_eq_some_iff.1 h
     exact (((Le.push _ _).trans (Le.var _)).trans (m.code hy)).trans (m.laid h)
  ·intro e k σ x h
   rw [codeM] at h
   split at h
   ·obtain ⟨y,hy,h⟩ := Option.bind_eq_some_iff.1 h
    split at h
    ·cases h
    ·exact (m.values hy).trans (m.laid h)
   ·split at h
    ·split at h
     ·obtain ⟨y,hy,h⟩ := Option.bind_eq_some_iff.1 h
      obtain ⟨z,hz,h⟩ := Option.bind_eq_some_iff.1 h
      obtain ⟨w,hw,h⟩ := Option.bind_eq_some_iff.1 h
      exact (((m.value hy).trans (m.code hz)).trans (m.code hw)).trans (m.laid h)
     ·cases h
    ·split at h
     ·exact m.sq h
     ·split at h
      ·exact m.ctl h
      ·obtain ⟨y,hy,h⟩ := Option.bind_eq_some_iff.1 h
       exact (m.value hy).trans (m.laid h)
  ·intro e k σ x h
   rw [ctlM] at h
   obtain ⟨y,hy,h⟩ := Option.bind_eq_some_iff.1 h
   split at h
   ·split at h
    ·exact (m.values hy).trans (m.laid h)
    ·cases h
   ·split at h
    ·split at h
     ·exact (m.values hy).trans (((Le.var _).trans ((Le.var _).trans ((Le.push _ _).trans (Le.var _)))).trans (m.laid h))
     ·cases h
    ·split at h
     ·exact (m.values hy).trans (((Le.var _).trans ((Le.push _ _).trans (Le.var _))).trans (m.laid h))
     ·cases h
  ·intro l k σ x h
   rw [seqM] at h
   split at h
   ·cases h
   ·obtain ⟨y,hy,h⟩ := Option.bind_eq_some_iff.1 h
    obtain ⟨z,hz,h⟩ := Option.bind_eq_some_iff.1 h
    obtain ⟨w,hw,h⟩ := Option.bind_eq_some_iff.1 h
    exact (((m.values hy).trans (m.code hz)).trans (m.laid hw)).trans (m.parts h)
  ·intro i l t σ x h
   cases i with
   | zero => rw [partsM] at h; cases h; exact Le.refl _
   | succ i =>
    rw [partsM] at h
    obtain ⟨y,hy,h⟩ := Option.bind_eq_some_iff.1 h
    obtain ⟨w,hw,h⟩ := Option.bind_eq_some_iff.1 h
    exact ((((Le.var _).trans ((Le.push _ _).trans (Le.var _))).trans (m.values hy)).trans (m.laid hw)).trans (m.parts h)
structure E7 (L : List TV) (c : List IV) : Prop where
 len : L.length = 7
 iv : toIVs L = some c
 ref : L.any isRefL = false
theorem call75 (e : Ex) (S : Store) : (lim K).call 75 [.iv (.agg (encE e))] S = .ret (.tup [.iv (.int .i64 (opX e)),.iv (.int .i64 (opN e))],S) := by
 rw [encE_eq]
 unfold opX opN
 refine call_ret' K _ (fn := t75) rfl rfl ?_
 by_cases h1 : e.k = 12
 ·rw [if_pos h1,if_pos h1]
  simp (config := { maxSteps := 4000000 }) (disch := omega) only [t75,go_sem,TM.undef]
 ·by_cases h2 : e.k = 13
  ·rw [if_neg h1,if_neg h1,if_pos h2,if_pos h2]
   simp (config := { maxSteps := 4000000 }) (disch := omega) only [t75,go_sem,TM.undef]
  ·by_cases h3 : e.k = 14
   ·rw [if_neg h1,if_neg h1,if_neg h2,if_neg h2,if_pos h3,if_pos h3]
    simp (config := { maxSteps := 4000000 }) (disch := omega) only [t75,go_sem,TM.undef]
   ·by_cases h4 : e.k = 3
    ·rw [if_neg h1,if_neg h1,if_neg h2,if_neg h2,if_neg h3,if_neg h3,if_pos h4,if_pos (.inl h4)]
     simp (config := { maxSteps := 4000000 }) (disch := omega) only [t75,go_sem,TM.undef]
    ·by_cases h5 : e.k = 5
     ·rw [if_neg h1,if_neg h1,if_neg h2,if_neg h2,if_neg h3,if_neg h3,if_neg h4,if_pos h5,if_pos (.inr h5)]
      simp (config := { maxSteps := 4000000 }) (disch := omega) only [t75,go_sem,TM.undef]
     ·rw [if_neg h1,if_neg h1,if_neg h2,if_neg h2,if_neg h3,if_neg h3,if_neg h4,if_neg h5,if_neg (by omega)]
      simp (config := { maxSteps := 4000000 }) (disch := omega) only [t75,go_sem,TM.undef]
theorem call74 {S : Store} {jm jf : Nat} {σ : Mk} (h : MkS S jm jf σ) (e : Ex) : (lim K).call 74 [.ptr jm 64 0,.iv (.agg (encE e))] S = .ret (.tup [.iv (.sl .full [encZ (.rs e σ.nv)]),.iv (.agg (aV σ.nv))],S.set jm (mkB jf σ.var)) := by
 have c21 := call21 h
 have c25 := call25 σ.nv
 rw [show encZ (.rs e σ.nv) = .int .i64 1 :: (zT ++ (encE e ++ [.int .i64 σ.nv])) from rfl,encE_eq]
 unfold zT aV
 refine call_ret' K _ (fn := t74) rfl rfl ?_
 simp (config := { maxSteps := 4000000 }) (disch := omega) only [t74,go_sem,TM.undef,c21,cpR_pure c25]
theorem call46 (S : Store) (j : Nat) {l : List (List IV)} (hl : l ≠ []) : (lim K).call 46 [acc j l] S = .ret (.iv (.agg (callT .no l)),S) := by
 rw [acc_ne _ hl]
 unfold callT
 refine call_ret' K _ (fn := t46) rfl rfl ?_
 simp (config := { maxSteps := 4000000 }) (disch := omega) only [t46,go_sem,TM.undef]
theorem call46f (S : Store) (l : List (List IV)) : (lim K).call 46 [.iv (.sl .full l)] S = .ret (.iv (.agg (callT .full l)),S) := by
 unfold callT
 refine call_ret' K _ (fn := t46) rfl rfl ?_
 simp (config := { maxSteps := 4000000 }) (disch := omega) only [t46,go_sem,TM.undef]
theorem call77 (S : Store) (l : List (List IV)) : (lim K).call 77 [.iv (.sl .full l)] S = .ret (.iv (.agg (applT l)),S) := by
 unfold applT
 refine call_ret' K _ (fn := t77) rfl rfl ?_
 simp (config := { maxSteps := 4000000 }) (disch := omega) only [t77,go_sem,TM.undef]
theorem set_row {S : Store} {j : Nat} {B : Block} (h : S[j]? = some B) : S.set j B = S := by
 obtain ⟨hlt,he⟩ := List.getElem?_eq_some_iff.1 h
 rw [← he,List.set_getElem_self]
theorem ap_q {S : Store} {j : Nat} {l ys : List (List IV)} {t : Tag} (h : S[j]? = some (.tok l.length 2 53)) (hl : l.length + ys.length ≤ 2000000) (he : Elems 2 l) (hy : Elems 2 ys) : appendOp false 2 16 53 S (.tsl j l) (.iv (.sl t ys)) = some (.tsl j (l ++ ys),S.set j (.tok (l.length + ys.length) 2 53)) :=
 ap_tsl (b := 16) (IsEl.sl ..) hy he h (roomy_ok (by omega))
theorem call72 (n : Nat) (h : 0 < n ∧ n ≤ 2000000) (S : Store) : (lim K).call 72 [.iv (.sl .nil []),.iv (.int .i64 n)] S = .ret (.tsl S.length [],S ++ [.tok 0 2 53]) := by
 have hr : roomy n 16 = true := roomy_ok (by omega)
 have hn : ¬ (n : Int) ≤ 0 := by omega
 have hg : growOp 2 16 53 S (.iv (.sl .nil [])) (n : Int) = some (.rsv S.length [] n,S ++ [.tok 0 2 53]) := by
  simp [growOp,fits,hr,hn,Int.toNat_natCast,show ¬ n = 0 by omega]
 have h0 : ∀ n : Int,n - (0 - ((0 : Nat) : Int)) = n := fun n => by omega
 have e1 : natV (capOf (.iv (.sl .nil []))) = some (.iv (.int .i64 0)) := id rfl
 have e2 : ∀ S : Store,sliceOp S (.sl 2) (.iv (.sl .nil [])) none (some 0) none = some (.iv (.sl .nil [])) := fun S => rfl
 have e3 : ∀ (S : Store) (i n : Nat),sliceOp S (.sl 2) (.rsv i [] n) none (some 0) none = some (.tsl i []) := fun S i n => rfl
 have e4 : ∀ (S : Store) (i n : Nat),sliceOp S (.sl 2) (.rsv i [] n) none (some ((0 : Nat) : Int)) none = some (.tsl i []) := fun S i n => rfl
 refine call_ret' K S (fn := t72) rfl rfl ?_
 simp (config := { maxSteps := 4000000 }) (disch := omega) only [t72,go_sem,TM.undef,e1,e2,e3,e4,wrap_i64,h0,fun env => grV_eq (env := env) hg]
def encQ (p : Tag × List (List IV)) : List IV := [.sl p.1 (p.2)]
def sumL : List (Tag × List (List IV)) → Nat
 | [] => 0
 | p :: r => p.2.length + sumL r
def catL : List (Tag × List (List IV)) → List (List IV)
 | [] => []
 | p :: r => p.2 ++ catL r
theorem catL_len : ∀ E : List (Tag × List (List IV)),(catL E).length = sumL E
 | [] => rfl
 | p :: r => by rw [catL,sumL,List.length_append,catL_len r]
theorem getp {E : List (Tag × List (List IV))} {i : Nat} (h : i < E.length) : ∃ p,E.drop i = p :: E.drop (i + 1) ∧ indexAddrS 1 (.iv (.sl .full (E.map encQ))) (i : Int) = some (.iv (.cp [.sl p.1 (p.2)])) := by
 refine ⟨E[i],List.drop_eq_getElem_cons h,?_⟩
 refine ix_ok (by omega) ?_ rfl
 rw [Int.toNat_natCast,List.getElem?_map,List.getElem?_eq_getElem h]
 rfl
theorem loop47a (E : List (Tag × List (List IV))) (hE : E.length ≤ 10) (x1 x4 x5 x10 x11 x12 x13 x14 : TV) (S : Store) : ∀ (k i z : Nat) (x3 x9 x10' : TV),i + k = E.length → z + sumL (E.drop i) ≤ 2000000 →
  ∃ y3 y9 y10 : TV,lp' (lim K) t47L1 [.iv (.sl .full (E.map encQ)),x1,.iv (.int .i64 z),x3,x4,x5,.iv (.sl .full (E.map encQ)),.iv (.int .i64 E.length),.iv (.int .i64 i),x9,x10',x11,x12,x13,x14] S
   = .ret (.exit 0,[.iv (.sl .full (E.map encQ)),x1,.iv (.int .i64 (z + sumL (E.drop i) : Nat)),y3,x4,x5,.iv (.sl .full (E.map encQ)),.iv (.int .i64 E.length),.iv (.int .i64 E.length),y9,y10,x11,x12,x13,x14],S)
 | 0,i,z,x3,x9,x10',h,hz => by
  obtain rfl : i = E.length := by omega
  rw [List.drop_length,sumL,Nat.add_zero]
  refine ⟨x3,.iv (.bool false),x10',loop_at K _ _ t47L1.eq_1 ?_⟩
  simp (config := { maxSteps := 4000000 }) (disch := omega) only [go_sem]
 | k + 1,i,z,x3,x9,x10',h,hz => by
  have hla : i < E.length := by omega
  obtain ⟨p,hdr,hix⟩ := getp hla
  rw [hdr,sumL] at hz ⊢
  obtain ⟨y3,y9,y10,ih⟩ := loop47a E hE x1 x4 x5 x10 x11 x12 x13 x14 S k (i + 1) (z + p.2.length) (.iv (.sl p.1 (p.2))) (.iv (.bool true)) (.iv (.bool false)) (by omega) (by omega)
  rw [show ((i + 1 : Nat) : Int) = (i : Int) + 1 by omega,show ((z + p.2.length : Nat) : Int) = (z : Int) + (p.2.length : Int) by omega,Nat.add_assoc] at ih
  refine ⟨y3,y9,y10,loop_at K _ _ t47L1.eq_1 ?_⟩
  simp (config := { maxSteps := 4000000 }) (disch := omega) only [go_sem,hix,wrap_i64]
  exact congrArg er ih
theorem loop47b (E : List (Tag × List (List IV))) (hE : E.length ≤ 10) (hel : ∀ p ∈ E,Elems 2 p.2) (j : Nat) (x1 x2 x3 x6 x7 x8 x9 x10 : TV) : ∀ (k i : Nat) (l : List (List IV)) (S : Store) (x5 x14 : TV),i + k = E.length → Elems 2 l → S[j]? = some (.tok l.length 2 53) → l.length + sumL (E.drop i) ≤ 2000000 →
  ∃ y5 y14 : TV,lp' (lim K) t47L0 [.iv (.sl .full (E.map encQ)),x1,x2,x3,.tsl j (l),x5,x6,x7,x8,x9,x10,.iv (.sl .full (E.map encQ)),.iv (.int .i64 E.length),.iv (.int .i64 i),x14] S
   = .ret (.exit 2,[.iv (.sl .full (E.map encQ)),x1,x2,x3,.tsl j (l ++ catL (E.drop i)),y5,x6,x7,x8,x9,x10,.iv (.sl .full (E.map encQ)),.iv (.int .i64 E.length),.iv (.int .i64 E.length),y14],S.set j (.tok (l.length + sumL (E.drop i)) 2 53))
 | 0,i,l,S,x5,x14,h,hl2,hS,hz => by
  obtain rfl : i = E.length := by omega
  rw [List.drop_length,sumL,catL,Nat.add_zero,List.append_nil,set_row hS]
  refine ⟨x5,.iv (.bool false),loop_at K _ _ t47L0.eq_1 ?_⟩
  simp (config := { maxSteps := 4000000 }) (disch := omega) only [go_sem]
 | k + 1,i,l,S,x5,x14,h,hl2,hS,hz => by
  have hla : i < E.length := by omega
  obtain ⟨p,hdr,hix⟩ := getp hla
  rw [hdr,sumL] at hz ⊢
  rw [catL]
  have hpe := hel p (List.mem_of_mem_drop (by rw [hdr]; exact List.mem_cons_self))
  have ha := ap_q (ys := p.2) (t := p.1) hS (by omega) hl2 hpe
  have hl3 : Elems 2 (l ++ p.2) := fun y hy => (List.mem_append.1 hy).elim (hl2 y) (hpe y)
  obtain ⟨y5,y14,ih⟩ := loop47b E hE hel j x1 x2 x3 x6 x7 x8 x9 x10 k (i + 1) (l ++ p.2) (S.set j (.tok (l.length + p.2.length) 2 53)) (.iv (.sl p.1 (p.2))) (.iv (.bool true)) (by omega) hl3 (by rw [get_setS (lt_get hS),List.length_append]) (by rw [List.length_append]; omega)
  rw [show ((i + 1 : Nat) : Int) = (i : Int) + 1 by omega,List.set_set,List.length_append,List.append_assoc,Nat.add_assoc] at ih
  refine ⟨y5,y14,loop_at K _ _ t47L0.eq_1 ?_⟩
  simp (config := { maxSteps := 4000000 }) (disch := omega) only [go_sem,hix,ha,wrap_i64]
  exact congrArg er ih
theorem call47 (E : List (Tag × List (List IV))) (hE : E.length ≤ 10) (hel : ∀ p ∈ E,Elems 2 p.2) (h0 : 0 < sumL E) (hz : sumL E ≤ 2000000) (S : Store) : (lim K).call 47 [.iv (.sl .full (E.map encQ))] S = .ret (.tsl S.length (catL E),S ++ [.tok (catL E).length 2 53]) := by
 obtain ⟨y3,y9,y10,l1⟩ := loop47a E hE (.iv (.sl .nil [])) (.tup []) (.tup []) (.tup []) (.tup []) (.tup []) (.tup []) (.tup []) S E.length 0 0 (.tup []) (.tup []) (.tup []) (by omega) (by simpa using hz)
 rw [List.drop_zero,Nat.zero_add,show ((0 : Nat) : Int) = 0 from rfl] at l1
 have c67 := call72 (sumL E) ⟨h0,hz⟩ S
 have hS : (S ++ [.tok 0 2 53])[S.length]? = some (.tok ([] : List (List IV)).length 2 53) := by simp
 obtain ⟨y5,y14,l2⟩ := loop47b E hE hel S.length (.iv (.sl .nil [])) (.iv (.int .i64 (sumL E : Nat))) y3 (.iv (.sl .full (E.map encQ))) (.iv (.int .i64 E.length)) (.iv (.int .i64 E.length)) y9 y10 E.length 0 [] _ (.tup []) (.tup []) (by omega) (by intro y hy; cases hy) hS (by simpa using hz)
 rw [List.drop_zero,List.nil_append,show ((0 : Nat) : Int) = 0 from rfl,List.set_append_right _ _ (Nat.le_refl _),Nat.sub_self,List.set_cons_zero,List.length_nil,Nat.zero_add] at l2
 rw [catL_len]
 refine call_ret' K S (fn := t47) rfl rfl ?_
 have hl : (E.map encQ).length = E.length := List.length_map _
 simp (config := { maxSteps := 4000000 }) (disch := omega) only [t47,go_sem,TM.undef,hl]
 rw [l1]
 simp (config := { maxSteps := 4000000 }) (disch := omega) only [go_sem,c67,hl]
 rw [l2]
 simp (config := { maxSteps := 4000000 }) (disch := omega) only [go_sem]
def TmO (t : List IV) : Prop := ∃ (c0 c1 c2 c3 c4 : Int) (t5 t6 : Tag) (l5 l6 : List (List IV)),t = [.int .i64 c0,.int .i64 c1,.int .i64 c2,.int .i64 c3,.int .i64 c4,.sl t5 l5,.sl t6 l6]
def AtO (a : List IV) : Prop := ∃ p q : Int,a = [.int .i64 p,.int .i64 q]
def XO (e : Ex) : Prop := e.ok ∧ e.w ≤ 1048576
def SO : St → Prop
 | .tm t _ => TmO t
 | .rs e _ => XO e
theorem XO.kid {e x : Ex} (h : XO e) (hx : x ∈ e.ks) : XO x := ⟨((Ex.ok_eq e).1 h.1).2.2.2.2.2 x hx,by have := Ex.kid_lt hx; have := h.2; omega⟩
theorem TmO.fun (v f : Int) (t : Tag) (l : List (List IV)) : TmO (funT v f (.sl t l)) := ⟨_,_,_,_,_,_,_,_,_,rfl⟩
theorem TmO.prim (v op n : Int) (l : List (List IV)) : TmO (primT v op n l) := ⟨_,_,_,_,_,_,_,_,_,rfl⟩
theorem TmO.call (t : Tag) (l : List (List IV)) : TmO (callT t l) := ⟨_,_,_,_,_,_,_,_,_,rfl⟩
theorem TmO.appl (l : List (List IV)) : TmO (applT l) := ⟨_,_,_,_,_,_,_,_,_,rfl⟩
theorem TmO.if (a p q : List IV) : TmO (ifT a p q) := ⟨_,_,_,_,_,_,_,_,_,rfl⟩
theorem TmO.kids {t : List IV} (h : TmO t) (g : Tag) (l : List (List IV)) : TmO (t.set 6 (.sl g l)) := by
 obtain ⟨c0,c1,c2,c3,c4,t5,t6,l5,l6,rfl⟩ := h
 exact ⟨_,_,_,_,_,_,_,_,_,rfl⟩
structure Sh (n : Nat) : Prop where
 value : ∀ {e σ x},valueM n e σ = some x → XO e → AtO x.2.1 ∧ (∀ s ∈ x.1,SO s) ∧ (x.1.length : Int) + σ.nv ≤ x.2.2.nv
 values : ∀ {l σ x},valuesM n l σ = some x → (∀ e ∈ l,XO e) → (∀ a ∈ x.2.1,AtO a) ∧ (∀ s ∈ x.1,SO s) ∧ (x.1.length : Int) + σ.nv ≤ x.2.2.nv ∧ x.2.1.length = l.length
 laid : ∀ {l t σ x},laidM n l t σ = some x → TmO t → (∀ s ∈ l,SO s) → TmO x.1
 code : ∀ {e k σ x},codeM n e k σ = some x → XO e → TmO x.1
 ctl : ∀ {e k σ x},ctlM n e k σ = some x → XO e → TmO x.1
 sq : ∀ {l k σ x},seqM n l k σ = some x → (∀ e ∈ l,XO e) → TmO x.1
 parts : ∀ {i l t σ x},partsM n i l t σ = some x → TmO t → (∀ e ∈ l,XO e) → TmO x.1
theorem shape : ∀ n,Sh n
 | 0 => ⟨fun h => by simp [valueM] at h,fun h => by simp [valuesM] at h,fun h => by simp [laidM] at h,fun h => by simp [codeM] at h,fun h => by simp [ctlM] at h,fun h => by simp [seqM] at h,fun h => by simp [partsM] at h⟩
 | n + 1 => by
  have m := shape n
  have mo := mono n
  refine ⟨?_,?_,?_,?_,?_,?_,?_⟩
  ·intro e σ x h ho
   rw [valueM] at h
   split at h
   ·cases h; exact ⟨⟨_,_,rfl⟩,by simp,by simp⟩
   ·split at h
    ·cases h; exact ⟨⟨_,_,rfl⟩,by simp,by simp⟩
    ·split at h
     ·obtain ⟨y,hy,h⟩ := Option.bind_eq_some_iff.1 h
      have := (mo.lam hy).nv
      cases h
      refine ⟨⟨_,_,rfl⟩,fun s hs => ?_,?_⟩
      ·rw [List.mem_singleton] at hs; subst hs; exact TmO.fun ..
      ·show ((1 : Nat) : Int) + σ.nv ≤ y.2.nv + 1; omega
     ·split at h
      ·obtain ⟨y,hy,h⟩ := Option.bind_eq_some_iff.1 h
       obtain ⟨a,ha,h⟩ := Option.bind_eq_some_iff.1 h
       obtain ⟨h1,h2,h3,h4⟩ := m.values hy (fun x hx => ho.kid hx)
       cases h; exact ⟨h1 a (List.mem_of_getLast? ha),h2,h3⟩
      ·split at h
       ·cases h
        refine ⟨⟨_,_,rfl⟩,fun s hs => ?_,?_⟩
        ·rw [List.mem_singleton] at hs; subst hs; exact ho
        ·show ((1 : Nat) : Int) + σ.nv ≤ σ.nv + 1; omega
       ·obtain ⟨y,hy,h⟩ := Option.bind_eq_some_iff.1 h
        obtain ⟨h1,h2,h3,h4⟩ := m.values hy (fun x hx => ho.kid hx)
        cases h
        refine ⟨⟨_,_,rfl⟩,fun s hs => ?_,?_⟩
        ·rcases List.mem_append.1 hs with hs | hs
         ·exact h2 s hs
         ·rw [List.mem_singleton] at hs; subst hs; exact TmO.prim ..
        ·show ((y.1 ++ [_]).length : Int) + σ.nv ≤ y.2.2.nv + 1
         rw [List.length_append,List.length_singleton]; omega
  ·intro l σ x h ho
   cases l with
   | nil => rw [valuesM] at h; cases h; exact ⟨by simp,by simp,by simp,rfl⟩
   | cons e l =>
    rw [valuesM] at h
    obtain ⟨y,hy,h⟩ := Option.bind_eq_some_iff.1 h
    obtain ⟨z,hz,h⟩ := Option.bind_eq_some_iff.1 h
    obtain ⟨h1,h2,h3⟩ := m.value hy (ho e (by simp))
    obtain ⟨g1,g2,g3,g4⟩ := m.values hz (fun x hx => ho x (by simp [hx]))
    cases h
    refine ⟨fun a ha => ?_,fun s hs => ?_,?_,?_⟩
    ·rcases List.mem_cons.1 ha with rfl | ha
     ·exact h1
     ·exact g1 a ha
    ·rcases List.mem_append.1 hs with hs | hs
     ·exact h2 s hs
     ·exact g2 s hs
    ·show ((y.1 ++ z.1).length : Int) + σ.nv ≤ z.2.2.nv
     rw [List.length_append]; omega
    ·show (y.2.1 :: z.2.1).length = _
     rw [List.length_cons,List.length_cons,g4]
  ·intro l t σ x h ht ho
   cases l with
   | nil => rw [laidM] at h; cases h; exact ht
   | cons s l =>
    cases s with
    | tm c to => rw [laidM] at h; exact m.laid h (TmO.kids (show TmO c from ho (St.tm c to) (by simp)) _ _) (fun s hs => ho s (by simp [hs]))
    | rs e to =>
     rw [laidM] at h
     obtain ⟨y,hy,h⟩ := Option.bind_eq_some_iff.1 h
     exact m.laid h (TmO.fun ..) (fun s hs => ho s (by simp [hs]))
  ·intro e k σ x h ho
   rw [codeM] at h
   split at h
   ·obtain ⟨y,hy,h⟩ := Option.bind_eq_some_iff.1 h
    obtain ⟨h1,h2,h3,h4⟩ := m.values hy (fun x hx => ho.kid hx)
    split at h
    ·cases h
    ·exact m.laid h (TmO.call ..) (fun s hs => h2 s (List.mem_reverse.1 hs))
   ·split at h
    ·split at h
     ·rename_i c p q r hks
      obtain ⟨y,hy,h⟩ := Option.bind_eq_some_iff.1 h
      obtain ⟨z,hz,h⟩ := Option.bind_eq_some_iff.1 h
      obtain ⟨w,hw,h⟩ := Option.bind_eq_some_iff.1 h
      obtain ⟨h1,h2,h3⟩ := m.value hy (ho.kid (by rw [hks]; simp))
      exact m.laid h (TmO.if ..) (fun s hs => h2 s (List.mem_reverse.1 hs))
     ·cases h
    ·split at h
     ·exact m.sq h (fun x hx => ho.kid hx)
     ·split at h
      ·exact m.ctl h ho
      ·obtain ⟨y,hy,h⟩ := Option.bind_eq_some_iff.1 h
       obtain ⟨h1,h2,h3⟩ := m.value hy ho
       exact m.laid h (TmO.call ..) (fun s hs => h2 s (List.mem_reverse.1 hs))
  ·intro e k σ x h ho
   rw [ctlM] at h
   obtain ⟨y,hy,h⟩ := Option.bind_eq_some_iff.1 h
   obtain ⟨h1,h2,h3,h4⟩ := m.values hy (fun x hx => ho.kid hx)
   have h5 : ∀ (v f : Int) (s : St),s ∈ (y.1 ++ [St.tm (funT v f (.sl .nil [])) v]).reverse → SO s := fun v f s hs => by
    rcases List.mem_append.1 (List.mem_reverse.1 hs) with hs | hs
    ·exact h2 s hs
    ·rw [List.mem_singleton] at hs; subst hs; exact TmO.fun ..
   split at h
   ·split at h
    ·exact m.laid h (TmO.appl ..) (fun s hs => h2 s (List.mem_reverse.1 hs))
    ·cases h
   ·split at h
    ·split at h
     ·exact m.laid h (TmO.call ..) (h5 _ _)
     ·cases h
    ·split at h
     ·exact m.laid h (TmO.call ..) (h5 _ _)
     ·cases h
  ·intro l k σ x h ho
   rw [seqM] at h
   split at h
   ·cases h
   ·rename_i z hz'
    obtain ⟨y,hy,h⟩ := Option.bind_eq_some_iff.1 h
    obtain ⟨z,hz,h⟩ := Option.bind_eq_some_iff.1 h
    obtain ⟨w,hw,h⟩ := Option.bind_eq_some_iff.1 h
    obtain ⟨h1,h2,h3,h4⟩ := m.values hy (fun x hx => ho x (List.mem_of_mem_take (List.mem_of_mem_drop hx)))
    exact m.parts h (m.laid hw (m.code hz (ho _ (List.mem_of_getLast? hz'))) (fun s hs => h2 s (List.mem_reverse.1 hs))) ho
  ·intro i l t σ x h ht ho
   cases i with
   | zero => rw [partsM] at h; cases h; exact ht
   | succ i =>
    rw [partsM] at h
    obtain ⟨y,hy,h⟩ := Option.bind_eq_some_iff.1 h
    obtain ⟨w,hw,h⟩ := Option.bind_eq_some_iff.1 h
    obtain ⟨h1,h2,h3,h4⟩ := m.values hy (fun x hx => ho x (List.mem_of_mem_drop (List.mem_of_mem_take hx)))
    refine m.parts h (m.laid hw (TmO.call ..) fun s hs => ?_) ho
    rcases List.mem_cons.1 (List.mem_reverse.1 hs) with rfl | hs
    ·exact TmO.fun ..
    ·exact h2 s hs
structure Gl (n0 : Nat) (S : Store) (w el : Nat) (l : List (List IV)) (j : Nat) : Prop where
 tok : l ≠ [] → S[j]? = some (.tok l.length w el)
 new : l ≠ [] → n0 ≤ j
theorem Gl.nil (n0 : Nat) (S : Store) (w el j : Nat) : Gl n0 S w el [] j := ⟨fun h => absurd rfl h,fun h => absurd rfl h⟩
theorem Gl.keep {n0 : Nat} {S S' : Store} {w el : Nat} {l : List (List IV)} {j : Nat} {I : List Nat} (h : Gl n0 S w el l j) (k : Keep I S S') (hI : ∀ i ∈ I,i < n0) : Gl n0 S' w el l j :=
 ⟨fun h0 => k.get _ _ (fun hm => by have := hI _ hm; have := h.new h0; omega) (h.tok h0),h.new⟩
structure Grew (n0 : Nat) (S S' : Store) (w el : Nat) (l ys : List (List IV)) (j j' : Nat) : Prop where
 gl : Gl n0 S' w el (l ++ ys) j'
 len : S.length ≤ S'.length
 old : ∀ q b,S[q]? = some b → (l ≠ [] → q ≠ j) → S'[q]? = some b
 same : l ≠ [] → j' = j
 frsh : l = [] → ys ≠ [] → S.length ≤ j'
theorem Gl.more {n0 : Nat} {S : Store} {w el b : Nat} {l ys : List (List IV)} {j : Nat} {x : TV} (h : Gl n0 S w el l j) (hx : IsEl S x ys) (hw : Elems w ys) (hl : Elems w l) (hr : roomy (l.length + ys.length) b = true) (h0 : n0 ≤ S.length) :
  ∃ j' S',appendOp false w b el S (acc j l) x = some (acc j' (l ++ ys),S') ∧ Grew n0 S S' w el l ys j j' := by
 by_cases hy : ys = []
 ·subst hy
  have hs : isSl (acc j l) = true := by unfold acc; split <;> rfl
  refine ⟨j,S,by rw [ap_nil hs hx,List.append_nil],⟨by rw [List.append_nil]; exact h,Nat.le_refl _,fun q b hq _ => hq,fun _ => rfl,fun _ h => absurd rfl h⟩⟩
 ·by_cases hn : l = []
  ·subst hn
   refine ⟨S.length,S ++ [.tok ([] ++ ys).length w el],?_,⟨⟨fun _ => by simp,fun _ => h0⟩,by simp,fun q b hq _ => get_appO hq _,fun h => absurd rfl h,fun _ _ => Nat.le_refl _⟩⟩
   rw [acc_nil,ap_new (by decide) hx hw hl hy hr,acc_ne _ (by simpa using hy)]
   simp
  ·have ht := h.tok hn
   refine ⟨j,S.set j (.tok (l ++ ys).length w el),?_,⟨⟨fun _ => get_setS (lt_get ht) _,fun _ => h.new hn⟩,by simp,fun q b hq hne => by rw [get_setN (Ne.symm (hne hn))]; exact hq,fun _ => rfl,fun h => absurd h hn⟩⟩
   rw [acc_ne _ hn,ap_tsl hx hw hl ht hr,acc_ne _ (by simp [hn]),List.length_append]
theorem Grew.keep {n0 : Nat} {S S' : Store} {w el : Nat} {l ys : List (List IV)} {j j' : Nat} {S0 : Store} {I : List Nat} (g : Grew n0 S S' w el l ys j j') (h : Gl n0 S w el l j) (hk : Keep I S0 S) (hn : S0.length ≤ n0) : Keep I S0 S' :=
 ⟨Nat.le_trans hk.len g.len,fun i b hi hb => g.old _ _ (hk.get i b hi hb) fun hl => by have := h.new hl; have := lt_get hb; omega⟩
theorem Grew.other {n0 : Nat} {S S' : Store} {w el w2 el2 : Nat} {l ys m : List (List IV)} {j j' i : Nat} (g : Grew n0 S S' w el l ys j j') (h : Gl n0 S w2 el2 m i) (hd : l ≠ [] → m ≠ [] → j ≠ i) : Gl n0 S' w2 el2 m i ∧ (l ++ ys ≠ [] → m ≠ [] → j' ≠ i) := by
 refine ⟨⟨fun h0 => g.old _ _ (h.tok h0) fun hl => Ne.symm (hd hl h0),h.new⟩,fun h1 h2 => ?_⟩
 by_cases hl : l = []
 ·have := g.frsh hl (by intro e; rw [hl,e] at h1; exact h1 rfl)
  have := lt_get (h.tok h2)
  omega
 ·rw [g.same hl]; exact hd hl h2
theorem Grew.mks {n0 : Nat} {S S' : Store} {w el : Nat} {l ys : List (List IV)} {j j' : Nat} {jm jf : Nat} {σ : Mk} (g : Grew n0 S S' w el l ys j j') (h : Gl n0 S w el l j) (m : MkS S jm jf σ) (h1 : jm < n0 ∧ jf < n0) : MkS S' jm jf σ :=
 ⟨g.old _ _ m.own fun hl => by have := h.new hl; omega,g.old _ _ m.row fun hl => by have := h.new hl; omega,m.ne,m.wid,m.ok⟩
def SR (r : TV) (l : List (List IV)) : Prop := (l = [] ∧ r = .iv (.sl .nil [])) ∨ (∃ j,r = .tsl j l) ∨ r = .iv (.sl .full l)
theorem SR.acc (j : Nat) (l : List (List IV)) : SR (acc j l) l := by
 by_cases h : l = []
 ·subst h; exact .inl ⟨rfl,acc_nil j⟩
 ·exact .inr (.inl ⟨j,acc_ne j h⟩)
theorem SR.el {r : TV} {l : List (List IV)} (h : SR r l) (S : Store) : IsEl S r l := by
 rcases h with ⟨rfl,rfl⟩ | ⟨j,rfl⟩ | rfl
 ·exact IsEl.sl ..
 ·exact IsEl.tsl ..
 ·exact IsEl.sl ..
def encZs (l : List St) : List (List IV) := l.map encZ
theorem encZs_el {l : List St} (h : ∀ s ∈ l,SO s) : Elems 14 (encZs l) := by
 intro y hy
 obtain ⟨s,hs,rfl⟩ := List.mem_map.1 hy
 cases s with
 | tm t to =>
  obtain ⟨c0,c1,c2,c3,c4,t5,t6,l5,l6,rfl⟩ := (show TmO t from h _ hs)
  exact ⟨rfl,rfl⟩
 | rs e to =>
  rw [show encZ (.rs e to) = .int .i64 1 :: (zT ++ (encE e ++ [.int .i64 to])) from rfl,encE_eq]
  exact ⟨rfl,rfl⟩
theorem AtO.el {l : List (List IV)} (h : ∀ a ∈ l,AtO a) : Elems 2 l := by
 intro y hy
 obtain ⟨p,q,rfl⟩ := h y hy
 exact ⟨rfl,rfl⟩
structure Bd (b0 : Int) (σ : Mk) : Prop where
 hi : σ.nv ≤ b0 + 1000000
 fs : σ.fs.length ≤ 1000000
theorem Bd.le {b0 : Int} {σ τ : Mk} (h : Bd b0 τ) (l : Le σ τ) : Bd b0 σ := ⟨Int.le_trans l.nv h.hi,Nat.le_trans l.len h.fs⟩
def ValueOK (b0 : Int) (n : Nat) : Prop := ∀ {e : Ex} {σ : Mk} {x : List St × List IV × Mk} {S : Store} {jm jf : Nat},valueM n e σ = some x → XO e → b0 ≤ σ.nv → Bd b0 x.2.2 → MkS S jm jf σ →
 ∃ r S',(lim K).call 48 [.ptr jm 64 0,.iv (.agg (encE e))] S = .ret (.tup [r,.iv (.agg x.2.1)],S') ∧ SR r (encZs x.1) ∧ MkS S' jm jf x.2.2 ∧ Keep [jm,jf] S S'
def ValuesOK (b0 : Int) (n : Nat) : Prop := ∀ {l : List Ex} {g : Tag} {σ : Mk} {x : List St × List (List IV) × Mk} {S : Store} {jm jf : Nat},valuesM n l σ = some x → (∀ e ∈ l,XO e) → l.length ≤ 1048576 → b0 ≤ σ.nv → Bd b0 x.2.2 → MkS S jm jf σ →
 ∃ js ja S',(lim K).call 45 [.ptr jm 64 0,.iv (.sl g (encEs l))] S = .ret (.tup [acc js (encZs x.1),acc ja x.2.1],S') ∧ Gl S.length S' 14 67 (encZs x.1) js ∧ Gl S.length S' 2 53 x.2.1 ja ∧ (encZs x.1 ≠ [] → x.2.1 ≠ [] → js ≠ ja) ∧ MkS S' jm jf x.2.2 ∧ Keep [jm,jf] S S'
theorem encZs_app (a b : List St) : encZs (a ++ b) = encZs a ++ encZs b := List.map_append
theorem encZs_len (a : List St) : (encZs a).length = a.length := List.length_map _
theorem elems_app {w : Nat} {a b : List (List IV)} (ha : Elems w a) (hb : Elems w b) : Elems w (a ++ b) := fun y hy => (List.mem_append.1 hy).elim (ha y) (hb y)
theorem loop45 {b0 : Int} {N : Nat} (hV : ∀ m,m ≤ N → ValueOK b0 m) (g : Tag) {L : List Ex} (hL : ∀ e ∈ L,XO e) (hlen : L.length ≤ 1048576) {jm jf : Nat} {S0 : Store} (hj : jm < S0.length ∧ jf < S0.length) : ∀ (n i : Nat) (S : Store) (A B : List (List IV)) (js ja : Nat) (σ : Mk) (x : List St × List (List IV) × Mk) (y4 y5 y6 y10 : TV),n ≤ N + 1 → i ≤ L.length → valuesM n (L.drop i) σ = some x → b0 ≤ σ.nv → Bd b0 x.2.2 → MkS S jm jf σ → Keep [jm,jf] S0 S →
  Gl S0.length S 14 67 A js → Gl S0.length S 2 53 B ja → (A ≠ [] → B ≠ [] → js ≠ ja) → Elems 14 A → Elems 2 B → (A.length : Int) + b0 ≤ σ.nv → B.length ≤ i →
  ∃ (S' : Store) (js' ja' : Nat) (z4 z5 z6 z10 : TV),lp' (lim K) t45L0 [.ptr jm 64 0,.iv (.sl g (encEs L)),acc js A,acc ja B,y4,y5,y6,.iv (.sl g (encEs L)),.iv (.int .i64 L.length),.iv (.int .i64 i),y10] S
   = .ret (.exit 0,[.ptr jm 64 0,.iv (.sl g (encEs L)),acc js' (A ++ encZs x.1),acc ja' (B ++ x.2.1),z4,z5,z6,.iv (.sl g (encEs L)),.iv (.int .i64 L.length),.iv (.int .i64 L.length),z10],S') ∧
   Gl S0.length S' 14 67 (A ++ encZs x.1) js' ∧ Gl S0.length S' 2 53 (B ++ x.2.1) ja' ∧ (A ++ encZs x.1 ≠ [] → B ++ x.2.1 ≠ [] → js' ≠ ja') ∧ MkS S' jm jf x.2.2 ∧ Keep [jm,jf] S0 S'
 | 0,i,S,A,B,js,ja,σ,x,y4,y5,y6,y10,hn,hi,hx,_,_,_,_,_,_,_,_,_,_,_ => by simp [valuesM] at hx
 | n + 1,i,S,A,B,js,ja,σ,x,y4,y5,y6,y10,hn,hi,hx,hb,hB,hM,hk,gA,gB,hd,eA,eB,lA,lB => by
  have hlE := encEs_len L
  by_cases hla : i < L.length
  ·rw [List.drop_eq_getElem_cons hla,valuesM] at hx
   obtain ⟨y,hy,hx⟩ := Option.bind_eq_some_iff.1 hx
   obtain ⟨z,hz,hx⟩ := Option.bind_eq_some_iff.1 hx
   cases hx
   have hgd : L.getD i default = L[i] := by simp [List.getD,List.getElem?_eq_getElem hla]
   have hXO := hL L[i] (List.getElem_mem _)
   have l1 := (mono n).value hy
   have l2 := (mono n).values hz
   have hB1 : Bd b0 y.2.2 := Bd.le hB l2
   obtain ⟨⟨p,q,hpq⟩,hso,hsl⟩ := (shape n).value hy hXO
   obtain ⟨r,S1,c48,hr,hM1,hk1⟩ := hV n (by omega) hy hXO hb hB1 hM
   have nI : ∀ i ∈ [jm,jf],i < S0.length := fun i hi => by simp at hi; rcases hi with rfl | rfl <;> omega
   have gA1 := gA.keep hk1 nI
   have gB1 := gB.keep hk1 nI
   have hlen1 : S0.length ≤ S1.length := Nat.le_trans hk.len hk1.len
   have hsz : ((A.length + (encZs y.1).length : Nat) : Int) ≤ 1000000 := by rw [encZs_len]; have := hB1.hi; omega
   obtain ⟨js1,S2,a1,g1⟩ := gA1.more (b := 176) (hr.el S1) (encZs_el hso) eA (roomy_ok (by omega)) hlen1
   have hM2 := g1.mks gA1 hM1 hj
   have hk2 := g1.keep gA1 (hk.trans hk1) (Nat.le_refl _)
   obtain ⟨gB2,hd2⟩ := g1.other gB1 hd
   obtain ⟨ja1,S3,a2,g2⟩ := gB2.more (b := 16) (IsEl.sl S2 .full [[.int .i64 p,.int .i64 q]]) (by intro y hy; simp at hy; subst hy; exact ⟨rfl,rfl⟩) eB (roomy_ok (by simp; omega)) (Nat.le_trans hlen1 g1.len)
   have hM3 := g2.mks gB2 hM2 hj
   have hk3 := g2.keep gB2 hk2 (Nat.le_refl _)
   obtain ⟨gA3,hd3⟩ := g2.other g1.gl (fun h1 h2 => Ne.symm (hd2 h2 h1))
   obtain ⟨S',js',ja',z4,z5,z6,z10,ih,hres⟩ := loop45 hV g hL hlen hj n (i + 1) S3 (A ++ encZs y.1) (B ++ [[.int .i64 p,.int .i64 q]]) js1 ja1 y.2.2 z (.lb ((encE L[i]).map .iv)) r (.lb [.iv (.int .i64 p),.iv (.int .i64 q)]) (.iv (.bool true)) (by omega) hla hz (Int.le_trans hb l1.nv) hB hM3 hk3 gA3 g2.gl (fun h1 h2 => Ne.symm (hd3 h2 h1)) (elems_app eA (encZs_el hso)) (elems_app eB (by intro y hy; simp at hy; subst hy; exact ⟨rfl,rfl⟩)) (by rw [List.length_append,encZs_len]; omega) (by simp; omega)
   rw [show ((i + 1 : Nat) : Int) = (i : Int) + 1 by omega] at ih
   have hix := ixE (g := g) (ks := L) (i := (i : Int)) (by omega)
   rw [Int.toNat_natCast,hgd] at hix
   have hget := getE5 (d := L[i])
   rw [hpq] at c48
   rw [encE_eq] at c48 hix hget ih
   refine ⟨S',js',ja',z4,z5,z6,z10,?_,?_⟩
   ·rw [encZs_app,← List.append_assoc,show B ++ (y.2.1 :: z.2.1) = (B ++ [[.int .i64 p,.int .i64 q]]) ++ z.2.1 by rw [hpq]; simp]
    refine loop_at K _ _ t45L0.eq_1 ?_
    generalize L[i] = e at *
    rcases hr with ⟨_,rfl⟩ | ⟨j,rfl⟩ | rfl
    ·simp (config := { maxSteps := 4000000 }) (disch := omega) only [go_sem,hlE,hix,hget,c48,a1,a2,wrap_i64]
     exact congrArg er ih
    ·simp (config := { maxSteps := 4000000 }) (disch := omega) only [go_sem,hlE,hix,hget,c48,a1,a2,wrap_i64]
     exact congrArg er ih
    ·simp (config := { maxSteps := 4000000 }) (disch := omega) only [go_sem,hlE,hix,hget,c48,a1,a2,wrap_i64]
     exact congrArg er ih
   ·rw [encZs_app,← List.append_assoc,show B ++ (y.2.1 :: z.2.1) = (B ++ [[.int .i64 p,.int .i64 q]]) ++ z.2.1 by rw [hpq]; simp]
    exact hres
  ·obtain rfl : i = L.length := by omega
   rw [List.drop_length,valuesM] at hx
   cases hx
   refine ⟨S,js,ja,y4,y5,y6,.iv (.bool false),loop_at K _ _ t45L0.eq_1 ?_,by simpa [encZs] using gA,by simpa using gB,by simpa [encZs] using hd,hM,hk⟩
   rw [show encZs [] = [] from rfl,List.append_nil,List.append_nil]
   simp (config := { maxSteps := 4000000 }) (disch := omega) only [go_sem]
theorem values_step {b0 : Int} {N : Nat} (hV : ∀ m,m ≤ N → ValueOK b0 m) : ValuesOK b0 (N + 1) := by
 intro l g σ x S jm jf hx hl hlen hb hB hM
 have hj : jm < S.length ∧ jf < S.length := ⟨lt_get hM.own,lt_get hM.row⟩
 obtain ⟨S',js',ja',z4,z5,z6,z10,l1,h1,h2,h3,h4,h5⟩ := loop45 hV g hl hlen hj (N + 1) 0 S [] [] 0 0 σ x (.tup []) (.tup []) (.tup []) (.tup []) (Nat.le_refl _) (Nat.zero_le _) (by rw [List.drop_zero]; exact hx) hb hB hM (Keep.refl _ _) (Gl.nil ..) (Gl.nil ..) (fun h => absurd rfl h) (by intro y hy; cases hy) (by intro y hy; cases hy) (by simpa using hb) (Nat.le_refl _)
 rw [show ((0 : Nat) : Int) = 0 from rfl,List.nil_append,List.nil_append,acc_nil] at l1
 rw [List.nil_append] at h1 h2 h3
 rw [List.nil_append] at h3
 have hlE := encEs_len l
 refine ⟨js',ja',S',call_ret' K _ (fn := t45) rfl rfl ?_,h1,h2,h3,h4,h5⟩
 simp (config := { maxSteps := 4000000 }) (disch := omega) only [t45,go_sem,TM.undef,hlE]
 rw [l1]
 simp (config := { maxSteps := 4000000 }) (disch := omega) only [go_sem]
def CodeOK (b0 : Int) (n : Nat) : Prop := ∀ {e : Ex} {k0 k1 : Int} {σ : Mk} {x : List IV × Mk} {S : Store} {jm jf : Nat},codeM n e [.int .i64 k0,.int .i64 k1] σ = some x → XO e → b0 ≤ σ.nv → Bd b0 x.2 → MkS S jm jf σ →
 ∃ S',(lim K).call 24 [.ptr jm 64 0,.iv (.agg (encE e)),.iv (.agg [.int .i64 k0,.int .i64 k1])] S = .ret (.iv (.agg x.1),S') ∧ MkS S' jm jf x.2 ∧ Keep [jm,jf] S S'
def LamOK (b0 : Int) (n : Nat) : Prop := ∀ {e : Ex} {σ : Mk} {x : Int × Mk} {S : Store} {jm jf : Nat},lambdaM n e σ = some x → XO e → b0 ≤ σ.nv → Bd b0 x.2 → MkS S jm jf σ →
 ∃ S',(lim K).call 73 [.ptr jm 64 0,.iv (.agg (encE e))] S = .ret (.iv (.int .i64 x.1),S') ∧ MkS S' jm jf x.2 ∧ Keep [jm,jf] S S'
theorem ap_vars {S : Store} (k : Int) (t : Tag) (vs : List Int) (hl : vs.length ≤ 2000000) : ∃ r L,appendOp false 1 8 3 S (.iv (.sl .full [[.int .i64 k]])) (.iv (.sl t (TM.one (.int .i64) vs))) = some (r,S ++ L) ∧ ((r = .iv (.sl .full (TM.one (.int .i64) (k :: vs))) ∧ lamTag vs = .full) ∨ (∃ j,r = .tsl j (TM.one (.int .i64) (k :: vs)) ∧ lamTag vs = .no)) := by
 cases vs with
 | nil => exact ⟨_,[],by rw [show TM.one (IV.int .i64) [] = [] from rfl,ap_nil rfl (IsEl.sl ..),List.append_nil]; rfl,.inl ⟨rfl,rfl⟩⟩
 | cons v vs =>
  have hw : Elems 1 (TM.one (IV.int .i64) (v :: vs)) := by
   intro y hy
   obtain ⟨m,_,rfl⟩ := List.mem_map.1 hy
   exact ⟨rfl,rfl⟩
  have := ap_new (S := S) (w := 1) (b := 8) (el := 3) (t := .full) (l := [[.int .i64 k]]) (by decide) (IsEl.sl S t (TM.one (.int .i64) (v :: vs))) hw (by intro y hy; simp at hy; subst hy; exact ⟨rfl,rfl⟩) (by simp [TM.one]) (roomy_ok (by rw [TM.one_length]; simp at hl ⊢; omega))
  exact ⟨_,_,this,.inr ⟨_,rfl,rfl⟩⟩
theorem lam_step {b0 : Int} {n : Nat} (hb0 : 0 ≤ b0 ∧ b0 ≤ 1152921504606846976) (hC : CodeOK b0 n) : LamOK b0 (n + 1) := by
 intro e σ x S jm jf hx ho hb hB hM
 rw [lambdaM] at hx
 split at hx
 ·cases hx
 ·rename_i b r hks
  obtain ⟨y,hy,hx⟩ := Option.bind_eq_some_iff.1 hx
  cases hx
  have hle := (mono n).code hy
  have hBy : Bd b0 y.2 := ⟨hB.hi,by have := hB.fs; simp [Mk.push] at this; omega⟩
  have hlt : y.2.fs.length < 1000000 := by have := hB.fs; simp [Mk.push] at this; omega
  have hnv : σ.nv < 4611686018427387904 := by have h1 := hle.nv; have h2 := hBy.hi; have h3 : σ.var.nv = σ.nv + 1 := rfl; omega
  have c21 := call21 hM
  have hM1 := hM.var hnv
  have hk1 : Keep [jm,jf] S (S.set jm (mkB jf σ.var)) := keep_var _
  have hbo : XO b := ho.kid (by rw [hks]; simp)
  have hwe := Ex.w_eq e
  have hw2 := ho.2
  obtain ⟨pr,L,ap,hpr⟩ := ap_vars (S := S.set jm (mkB jf σ.var)) σ.nv e.gv e.vs (by omega)
  have hk2 : Keep [] (S.set jm (mkB jf σ.var)) (S.set jm (mkB jf σ.var) ++ L) := Keep.app _ _ _
  have hM2 := hM1.keep hk2 (by simp) (by simp)
  obtain ⟨S3,c24,hM3,hk3⟩ := hC hy hbo (by show b0 ≤ σ.nv + 1; omega) hBy hM2
  obtain ⟨c0,c1,c2,c3,c4,t5,t6,l5,l6,hT⟩ := (shape n).code hy hbo
  have c25 := call25 σ.nv
  have hix := ixE (g := e.g) (ks := e.ks) (i := 0) (by rw [hks]; simp)
  have hget := getE5 (d := b)
  rw [show e.ks.getD (0 : Int).toNat default = b by rw [hks]; rfl] at hix
  rw [hT] at c24
  have c20 := fun tg => call20 hM3 (.sl tg (TM.one (.int .i64) (σ.nv :: e.vs))) (.bool e.r) (.bool false) (.sl .nil []) (.int .i64 c0) (.int .i64 c1) (.int .i64 c2) (.int .i64 c3) (.int .i64 c4) (.sl t5 l5) (.sl t6 l6) rfl
  have hM4 := fun tg => hM3.push (f := fnF tg (σ.nv :: e.vs) e.r false y.1) (by rw [hT]; rfl) (by rw [hT]; rfl) hlt
  refine ⟨_,call_ret' K _ (fn := t73) rfl rfl ?_,hM4 (lamTag e.vs),((hk1.trans (hk2.mono (by simp))).trans hk3).trans (keep_push _ _)⟩
  rw [hT]
  unfold fnF
  rw [encE_eq] at c24 hix hget ⊢
  rcases hpr with ⟨rfl,ht⟩ | ⟨j,rfl,ht⟩
  ·rw [ht]
   have c20 := c20 .full
   generalize TM.one (IV.int .i64) (σ.nv :: e.vs) = ps at *
   simp (config := { maxSteps := 4000000 }) (disch := omega) only [t73,go_sem,TM.undef,c21,ap,hix,hget,cpR_pure c25,c24,c20]
  ·rw [ht]
   have c20 := c20 .no
   generalize TM.one (IV.int .i64) (σ.nv :: e.vs) = ps at *
   simp (config := { maxSteps := 4000000 }) (disch := omega) only [t73,go_sem,TM.undef,c21,ap,hix,hget,cpR_pure c25,c24,c20]
theorem ix_at {j : Nat} {l : List (List IV)} (h : l ≠ []) {w : Nat} {a : List IV} (ha : l.getLast? = some a) (hw : a.length = w) : indexAddrS w (acc j l) ((l.length : Int) - 1) = some (.iv (.cp a)) := by
 have hl := List.length_pos_iff.2 h
 rw [acc_ne _ h]
 refine ix_tsl (by omega) ?_ hw
 rw [List.getLast?_eq_getElem?] at ha
 rw [show ((l.length : Int) - 1).toNat = l.length - 1 by omega]
 exact ha
theorem value_step {b0 : Int} {n : Nat} (hb0 : 0 ≤ b0 ∧ b0 ≤ 1152921504606846976) (hL : LamOK b0 n) (hVs : ValuesOK b0 n) : ValueOK b0 (n + 1) := by
 intro e σ x S jm jf hx ho hb hB hM
 have hwe := Ex.w_eq e
 have hw2 := ho.2
 have hkl := Ex.ws_len e.ks
 have hlE := encEs_len e.ks
 rw [valueM] at hx
 by_cases h1 : e.k = 1
 ·rw [if_pos h1] at hx
  cases hx
  refine ⟨.iv (.sl .nil []),S,call_ret' K _ (fn := t48) rfl rfl ?_,.inl ⟨rfl,rfl⟩,hM,Keep.refl _ _⟩
  rw [encE_eq]
  unfold aC
  simp (config := { maxSteps := 4000000 }) (disch := omega) only [t48,go_sem,TM.undef]
 ·rw [if_neg h1] at hx
  by_cases h2 : e.k = 2
  ·rw [if_pos h2] at hx
   cases hx
   have c25 := call25 e.n
   refine ⟨.iv (.sl .nil []),S,call_ret' K _ (fn := t48) rfl rfl ?_,.inl ⟨rfl,rfl⟩,hM,Keep.refl _ _⟩
   rw [encE_eq]
   unfold aV
   simp (config := { maxSteps := 4000000 }) (disch := omega) only [t48,go_sem,TM.undef,cpR_pure c25]
  ·rw [if_neg h2] at hx
   by_cases h7 : e.k = 7
   ·rw [if_pos h7] at hx
    obtain ⟨y,hy,hx⟩ := Option.bind_eq_some_iff.1 hx
    cases hx
    have hBy : Bd b0 y.2 := hB.le (Le.var _)
    have hnv : y.2.nv < 4611686018427387904 := by have h9 : y.2.nv + 1 ≤ b0 + 1000000 := hB.hi; omega
    obtain ⟨S1,c73,hM1,hk1⟩ := hL hy ho hb hBy hM
    have c22 := call22 hM1 y.1
    have c25 := call25 y.2.nv
    refine ⟨.iv (.sl .full (encZs [.tm (funT y.2.nv y.1 (.sl .nil [])) y.2.nv])),_,call_ret' K _ (fn := t48) rfl rfl ?_,.inr (.inr rfl),hM1.var hnv,hk1.trans (keep_var _)⟩
    rw [encE_eq] at c73 ⊢
    rw [show encZs [St.tm (funT y.2.nv y.1 (.sl .nil [])) y.2.nv] = [madeS y.2.nv y.1] from rfl]
    unfold madeS aV at *
    simp (config := { maxSteps := 4000000 }) (disch := omega) only [t48,go_sem,TM.undef,c73,c22,cpR_pure c25]
   ·rw [if_neg h7] at hx
    by_cases h10 : e.k = 10 ∧ e.ks.length ≤ 64
    ·rw [if_pos h10] at hx
     obtain ⟨y,hy,hx⟩ := Option.bind_eq_some_iff.1 hx
     obtain ⟨a,ha,hx⟩ := Option.bind_eq_some_iff.1 hx
     cases hx
     obtain ⟨js,ja,S1,c45,g1,g2,hd,hM1,hk1⟩ := hVs (g := e.g) hy (fun x hx => ho.kid hx) (by omega) hb hB hM
     have hne : y.2.1 ≠ [] := by rintro h; rw [h] at ha; cases ha
     obtain ⟨p,q,rfl⟩ := ((shape n).values hy (fun x hx => ho.kid hx)).1 a (List.mem_of_getLast? ha)
     have hix := ix_at (j := ja) hne ha (w := 2) rfl
     have hl1 := ((shape n).values hy (fun x hx => ho.kid hx)).2.2.2
     refine ⟨_,S1,call_ret' K _ (fn := t48) rfl rfl ?_,SR.acc js _,hM1,hk1⟩
     obtain ⟨h10a,h10b⟩ := h10
     rw [encE_eq]
     simp (config := { maxSteps := 4000000 }) (disch := omega) only [t48,go_sem,TM.undef,hlE,c45,hix,lenV_acc,wrap_i64]
    ·rw [if_neg h10] at hx
     by_cases hl : e.k = 10 ∨ e.k = 8 ∨ e.k = 6 ∨ e.k = 11
     ·rw [if_pos hl] at hx
      cases hx
      have hnv : σ.nv < 4611686018427387904 := by have h9 : σ.nv + 1 ≤ b0 + 1000000 := hB.hi; omega
      have c74 := call74 hM e
      refine ⟨_,_,call_ret' K _ (fn := t48) rfl rfl ?_,.inr (.inr rfl),hM.var hnv,keep_var _⟩
      rw [show encZs [St.rs e σ.nv] = [encZ (.rs e σ.nv)] from rfl]
      generalize encZ (.rs e σ.nv) = s at *
      unfold aV at *
      rw [encE_eq] at c74 ⊢
      rcases hl with hl | hl | hl | hl
      ·have h64 : ¬ e.ks.length ≤ 64 := fun h => h10 ⟨hl,h⟩
       simp (config := { maxSteps := 4000000 }) (disch := omega) only [t48,go_sem,TM.undef,hlE,c74]
      ·simp (config := { maxSteps := 4000000 }) (disch := omega) only [t48,go_sem,TM.undef,hlE,c74]
      ·simp (config := { maxSteps := 4000000 }) (disch := omega) only [t48,go_sem,TM.undef,hlE,c74]
      ·simp (config := { maxSteps := 4000000 }) (disch := omega) only [t48,go_sem,TM.undef,hlE,c74]
     ·rw [if_neg hl] at hx
      obtain ⟨y,hy,hx⟩ := Option.bind_eq_some_iff.1 hx
      cases hx
      have hBy : Bd b0 y.2.2 := hB.le (Le.var _)
      have hnv : y.2.2.nv < 4611686018427387904 := by have h9 : y.2.2.nv + 1 ≤ b0 + 1000000 := hB.hi; omega
      obtain ⟨js,ja,S1,c45,g1,g2,hd,hM1,hk1⟩ := hVs (g := e.g) hy (fun x hx => ho.kid hx) (by omega) hb hBy hM
      obtain ⟨s1,s2,s3,s4⟩ := (shape n).values hy (fun x hx => ho.kid hx)
      have c75 := call75 e S1
      have c21 := call21 hM1
      have hM2 := hM1.var hnv
      have hk2 : Keep [jm,jf] S1 (S1.set jm (mkB jf y.2.2.var)) := keep_var _
      have hj : ∀ i ∈ [jm,jf],i < S.length := fun i hi => by
       have := lt_get hM.own; have := lt_get hM.row
       simp at hi; rcases hi with rfl | rfl <;> omega
      have g1' := g1.keep hk2 hj
      obtain ⟨js2,S3,a1,gr⟩ := g1'.more (b := 176) (IsEl.sl (S1.set jm (mkB jf y.2.2.var)) .full [encZ (.tm (primT y.2.2.nv (opX e) (opN e) y.2.1) y.2.2.nv)]) (by intro y hy; simp at hy; subst hy; exact ⟨rfl,rfl⟩) (encZs_el s2) (roomy_ok (by rw [encZs_len]; have := hBy.hi; simp; omega)) (by have := hk1.len; simpa using this)
      have c25 := call25 y.2.2.nv
      refine ⟨acc js2 (encZs y.1 ++ [encZ (.tm (primT y.2.2.nv (opX e) (opN e) y.2.1) y.2.2.nv)]),S3,call_ret' K _ (fn := t48) rfl rfl ?_,(by rw [encZs_app]; exact SR.acc js2 _),gr.mks g1' hM2 ⟨lt_get hM.own,lt_get hM.row⟩,gr.keep g1' (hk1.trans hk2) (Nat.le_refl _)⟩
      rw [show encZ (.tm (primT y.2.2.nv (opX e) (opN e) y.2.1) y.2.2.nv) = [.int .i64 0,.int .i64 1,.int .i64 y.2.2.nv,.int .i64 (opX e),.int .i64 (opN e),.int .i64 0,.sl (sTag y.2.1) y.2.1,.sl .nil [],.int .i64 0,.int .i64 0,.sl .nil [],.bool false,.sl .nil [],.int .i64 y.2.2.nv] from rfl] at a1 ⊢
      generalize opX e = ox at *
      generalize opN e = on at *
      unfold aV at *
      rw [encE_eq] at c75 ⊢
      simp (config := { maxSteps := 4000000 }) (disch := omega) only [t48,go_sem,TM.undef,hlE,c45,c75,c21,a1,cpR_pure c25]
def s23A : TCode := (.region [⟨.allocH 68 [(.int .i64 0),(.int .i64 0),(.int .i64 0),(.int .i64 0),(.int .i64 0),(.int .i64 0),(.sl .nil []),(.sl .nil []),(.int .i64 0),(.int .i64 0),(.sl .nil []),(.bool false),(.sl .nil []),(.int .i64 0)],(some 6),none⟩,⟨.store 14 (.reg 0) (.loc 13),none,none⟩])
def s23B : TCode := (.block 1
    (.seq (.seq (.region [⟨.fieldAddr 0 (.loc 6),none,none⟩,⟨.load1 (.reg 0),none,none⟩,⟨.bin .eql (.reg 1) (.cst (.int .i64 0)),(some 14),none⟩])
    (.cond (.loc 14)
     (.seq (.region [⟨.fieldAddr 1 (.loc 6),none,none⟩,⟨.loadN 7 (.reg 0),none,none⟩,⟨.allocH 46 [(.int .i64 0),(.int .i64 0),(.int .i64 0),(.int .i64 0),(.int .i64 0),(.sl .nil []),(.sl .nil [])],(some 7),none⟩,⟨.store 7 (.reg 2) (.reg 1),none,none⟩])
     (.seq (.region [⟨.loadN 7 (.loc 4),none,none⟩,⟨.lit false [(.int .i64 0),(.int .i64 0),(.int .i64 0),(.int .i64 0),(.int .i64 0),(.sl .nil []),(.sl .nil [])] 1 [(0,(.reg 0))],none,none⟩,⟨.fieldAddr 6 (.loc 7),none,none⟩,⟨.store 1 (.reg 2) (.reg 1),none,none⟩])
     (.seq (.region [⟨.loadN 7 (.loc 7),none,none⟩,⟨.store 7 (.loc 4) (.reg 0),none,none⟩])
     (.exit 1))))
     .skip))
    (.seq (.region [⟨.load1 (.loc 3),none,none⟩,⟨.fieldAddr 13 (.loc 6),none,none⟩,⟨.load1 (.reg 1),none,none⟩,⟨.lit false [(.int .i64 0)] 1 [(0,(.reg 2))],none,none⟩,⟨.loadN 7 (.loc 4),none,none⟩,⟨.build [(.sl .nil []),(.bool false),(.bool false),(.sl .nil []),(.int .i64 0),(.int .i64 0),(.int .i64 0),(.int .i64 0),(.int .i64 0),(.sl .nil []),(.sl .nil [])] [(0,1,(.reg 3)),(2,1,(.cst (.bool true))),(4,7,(.reg 4))],none,none⟩,⟨.call false false 20 [(.reg 0),(.reg 5)],none,none⟩,⟨.mov (.reg 6),(some 8),none⟩])
    (.seq (.region [⟨.load1 (.loc 3),none,none⟩,⟨.mov (.loc 8),none,none⟩,⟨.call false false 22 [(.reg 0),(.reg 1)],none,none⟩,⟨.mov (.reg 2),none,none⟩,⟨.extract 0 (.reg 3),none,none⟩,⟨.extract 1 (.reg 3),none,none⟩,⟨.allocH 68 [(.int .i64 0),(.int .i64 0),(.int .i64 0),(.int .i64 0),(.int .i64 0),(.int .i64 0),(.sl .nil []),(.sl .nil []),(.int .i64 0),(.int .i64 0),(.sl .nil []),(.bool false),(.sl .nil []),(.int .i64 0)],(some 9),none⟩,⟨.store 14 (.reg 6) (.reg 4),none,none⟩,⟨.mov (.reg 5),(some 10),none⟩])
    (.seq (.draw [0,1,2,3] [(4,[0,2],[]),(5,[],[6,7,8]),(9,[],[])] [⟨.load1 (.loc 3),none,none⟩,⟨.fieldAddr 8 (.loc 6),none,none⟩,⟨.loadN 5 (.reg 1),none,none⟩,⟨.mov (.loc 10),none,none⟩,⟨.call true false 25 [(.reg 3)],none,none⟩,⟨.call false false 24 [(.reg 0),(.reg 2),(.reg 4)],none,none⟩,⟨.lit false [(.int .i64 0),(.int .i64 0),(.int .i64 0),(.int .i64 0),(.int .i64 0),(.sl .nil []),(.sl .nil [])] 1 [(0,(.reg 5))],none,none⟩,⟨.fieldAddr 1 (.loc 9),none,none⟩,⟨.fieldAddr 6 (.reg 7),none,none⟩,⟨.store 1 (.reg 8) (.reg 6),none,none⟩])
    (.region [⟨.fieldAddr 1 (.loc 9),none,none⟩,⟨.loadN 7 (.reg 0),none,none⟩,⟨.store 7 (.loc 4) (.reg 1),none,none⟩]))))))
def e23 (jm n : Nat) (r : TV) (t0 : List IV) (x6 x7 x8 x9 x10 x12 x13 x14 : TV) : Env := [.ptr jm 64 0,r,.iv (.agg t0),.ptr n 62 0,.ptr (n + 1) 46 0,.hole,x6,x7,x8,x9,x10,.fn 71 [] [.ptr (n + 2) 72 0],x12,x13,x14]
structure YS (S : Store) (n jm jf : Nat) (r : TV) (t0 t : List IV) (σ : Mk) : Prop where
 a : S[n]? = some (.cells 62 false [.ptr jm 64 0])
 b : S[n + 1]? = some (.cells 46 false (t.map .iv))
 c : S[n + 2]? = some (.cells 72 false [r])
 y : ∃ x6 x7 x8 x9 x10 x12 x13 x14,S[n + 3]? = some (.lp .ready none (e23 jm n r t0 x6 x7 x8 x9 x10 x12 x13 x14) [12,13] s23A s23B)
 ms : MkS S jm jf σ
 lt : jm < n ∧ jf < n
theorem gN0 (S : Store) (a : Block) (r : Store) : (S ++ a :: r)[S.length]? = some a := by simp
theorem sN0 (S : Store) (a x : Block) (r : Store) : (S ++ a :: r).set S.length x = S ++ x :: r := by rw [List.set_append_right _ _ (Nat.le_refl _)]; simp
attribute [go_sem] gN0 sN0
theorem yld_tm {S : Store} {n jm jf : Nat} {r : TV} {t0 t c : List IV} {σ : Mk} (h : YS S n jm jf r t0 t σ) (ht : TmO t) (hc : TmO c) (to i : Int) :
  ∃ S',(lim K).yld (n + 3) [.iv (.int .i64 i),.iv (.agg (encZ (.tm c to)))] S = .ret (.iv (.bool true),S') ∧ YS S' n jm jf r t0 (c.set 6 (.sl .full [t])) σ ∧ Keep [n + 1,n + 3] S S' := by
 obtain ⟨x6,x7,x8,x9,x10,x12,x13,x14,hy⟩ := h.y
 obtain ⟨a0,a1,a2,a3,a4,a5,a6,b5,b6,rfl⟩ := ht
 obtain ⟨c0,c1,c2,c3,c4,c5,c6,d5,d6,rfl⟩ := hc
 have hl := lt_get hy
 have hs : encZ (.tm [.int .i64 c0,.int .i64 c1,.int .i64 c2,.int .i64 c3,.int .i64 c4,.sl c5 d5,.sl c6 d6] to) = [.int .i64 0,.int .i64 c0,.int .i64 c1,.int .i64 c2,.int .i64 c3,.int .i64 c4,.sl c5 d5,.sl c6 d6,.int .i64 0,.int .i64 0,.sl .nil [],.bool false,.sl .nil [],.int .i64 to] := rfl
 rw [hs]
 generalize hS1 : S ++ [Block.cells 68 false [.iv (.int .i64 0),.iv (.int .i64 c0),.iv (.int .i64 c1),.iv (.int .i64 c2),.iv (.int .i64 c3),.iv (.int .i64 c4),.iv (.sl c5 d5),.iv (.sl c6 d6),.iv (.int .i64 0),.iv (.int .i64 0),.iv (.sl .nil []),.iv (.bool false),.iv (.sl .nil []),.iv (.int .i64 to)]] = S1
 have k1 : Keep [] S S1 := by rw [← hS1]; exact Keep.app _ _ _
 have y1 := k1.get _ _ (by simp) hy
 generalize hT : S1.set (n + 3) (.lp .busy none (e23 jm n r t0 x6 x7 x8 x9 x10 x12 x13 x14) [12,13] s23A s23B) = T
 have k2 : Keep [n + 3] S1 T := by rw [← hT]; exact Keep.set _ (by simp) _
 have t6 : T[S.length]? = some (.cells 68 false [.iv (.int .i64 0),.iv (.int .i64 c0),.iv (.int .i64 c1),.iv (.int .i64 c2),.iv (.int .i64 c3),.iv (.int .i64 c4),.iv (.sl c5 d5),.iv (.sl c6 d6),.iv (.int .i64 0),.iv (.int .i64 0),.iv (.sl .nil []),.iv (.bool false),.iv (.sl .nil []),.iv (.int .i64 to)]) := by
  rw [← hT,get_setN (by omega),← hS1,get_app1]
 have k12 := (k1.mono (J := [n + 3]) (by simp)).trans k2
 have tb := k12.get _ _ (by simp) h.b
 have ty : T[n + 3]? = some (.lp .busy none (e23 jm n r t0 x6 x7 x8 x9 x10 x12 x13 x14) [12,13] s23A s23B) := by rw [← hT]; exact get_setS (lt_get y1) _
 have g6 := fun L => get_appO t6 L
 have gb := fun L => get_appO tb L
 have hlt := lt_get tb
 have hne : T.length ≠ n + 1 := by omega
 let R : Block := .cells 46 false [.iv (.int .i64 c0),.iv (.int .i64 c1),.iv (.int .i64 c2),.iv (.int .i64 c3),.iv (.int .i64 c4),.iv (.sl c5 d5),.iv (.sl .full [[.int .i64 a0,.int .i64 a1,.int .i64 a2,.int .i64 a3,.int .i64 a4,.sl a5 b5,.sl a6 b6]])]
 have k3 : Keep [n + 1] T ((T ++ [R]).set (n + 1) R) := (Keep.app _ _ _).trans (Keep.set _ (by simp) _)
 have y3 := k3.get _ _ (by simp) ty
 refine ⟨((T ++ [R]).set (n + 1) R).set (n + 3) (.lp .ready none (e23 jm n r t0 x6 x7 x8 x9 x10 x12 x13 x14) [12,13] s23A s23B),?_,?_,?_⟩
 ·refine yld_true (env2 := [.ptr jm 64 0,r,.iv (.agg t0),.ptr n 62 0,.ptr (n + 1) 46 0,.hole,.ptr S.length 68 0,x7,x8,x9,x10,.fn 71 [] [.ptr (n + 2) 72 0],.iv (.int .i64 i),.iv (.agg [.int .i64 0,.int .i64 c0,.int .i64 c1,.int .i64 c2,.int .i64 c3,.int .i64 c4,.sl c5 d5,.sl c6 d6,.int .i64 0,.int .i64 0,.sl .nil [],.bool false,.sl .nil [],.int .i64 to]),x14]) (env3 := [.ptr jm 64 0,r,.iv (.agg t0),.ptr n 62 0,.ptr (n + 1) 46 0,.hole,.ptr S.length 68 0,.ptr T.length 46 0,x8,x9,x10,.fn 71 [] [.ptr (n + 2) 72 0],.iv (.int .i64 i),.iv (.agg [.int .i64 0,.int .i64 c0,.int .i64 c1,.int .i64 c2,.int .i64 c3,.int .i64 c4,.sl c5 d5,.sl c6 d6,.int .i64 0,.int .i64 0,.sl .nil [],.bool false,.sl .nil [],.int .i64 to]),.iv (.bool true)]) (S1 := S1) (S2 := (T ++ [R]).set (n + 1) R) hy rfl ?_ y1 ?_ y3
  ·subst hS1
   simp (config := { maxSteps := 4000000 }) (disch := omega) only [s23A,e23,go_sem]
  ·rw [hT]
   have gn : ∀ (X : Block) (L : Store),(T ++ X :: L)[T.length]? = some X := fun X L => gN0 T X L
   simp (config := { maxSteps := 4000000 }) (disch := omega) only [s23B,go_sem,t6,g6,gb,tb]
   rfl
 ·refine ⟨?_,?_,?_,⟨x6,x7,x8,x9,x10,x12,x13,x14,get_setS (lt_get y3) _⟩,?_,h.lt⟩
  ·rw [get_setN (by omega)]; exact k3.get _ _ (by simp) (k12.get _ _ (by simp) h.a)
  ·rw [get_setN (by omega),get_setS (by simp; omega)]; rfl
  ·rw [get_setN (by omega)]; exact k3.get _ _ (by simp) (k12.get _ _ (by simp) h.c)
  ·have hlt2 := h.lt
   exact ((h.ms.keep k12 (by simp; omega) (by simp; omega)).keep k3 (by simp; omega) (by simp; omega)).keep (Keep.set (I := [n + 3]) _ (by simp) _) (by simp; omega) (by simp; omega)
 ·exact ((k12.mono (J := [n + 1,n + 3]) (by simp)).trans (k3.mono (by simp))).trans (Keep.set _ (by simp) _)
theorem yld_rs {b0 : Int} {m : Nat} (hb0 : 0 ≤ b0 ∧ b0 ≤ 1152921504606846976) (hC : CodeOK b0 m) {S : Store} {n jm jf : Nat} {r : TV} {t0 t : List IV} {σ : Mk} {x : List IV × Mk} (h : YS S n jm jf r t0 t σ) (ht : TmO t) {e : Ex} {to : Int} (he : XO e) (hx : codeM m e (aV σ.nv) (σ.push (fnF .full [to] false true t)).var = some x) (hb : b0 ≤ σ.nv) (hB : Bd b0 x.2) (i : Int) :
  ∃ S',(lim K).yld (n + 3) [.iv (.int .i64 i),.iv (.agg (encZ (.rs e to)))] S = .ret (.iv (.bool true),S') ∧ YS S' n jm jf r t0 (funT σ.nv σ.fs.length (.sl .full [x.1])) x.2 ∧ Keep [jm,jf,n + 1,n + 3] S S' := by
 obtain ⟨x6,x7,x8,x9,x10,x12,x13,x14,hy⟩ := h.y
 obtain ⟨a0,a1,a2,a3,a4,a5,a6,b5,b6,rfl⟩ := ht
 obtain ⟨c0,c1,c2,c3,c4,c5,c6,d5,d6,hT⟩ := (shape m).code hx he
 have hl := lt_get hy
 have hlt := h.lt
 have hle := (mono m).code hx
 have hnv : σ.nv < 4611686018427387904 := by have h1 : σ.nv + 1 ≤ x.2.nv := hle.nv; have h2 := hB.hi; omega
 have hfs : σ.fs.length < 1000000 := by have h1 := hle.len; have h2 := hB.fs; simp [Mk.push,Mk.var] at h1; omega
 have hs : encZ (.rs e to) = [.int .i64 1,.int .i64 0,.int .i64 0,.int .i64 0,.int .i64 0,.int .i64 0,.sl .nil [],.sl .nil [],.int .i64 e.k,.int .i64 e.n,.sl e.gv (TM.one (.int .i64) e.vs),.bool e.r,.sl e.g (encEs e.ks),.int .i64 to] := by
  rw [show encZ (.rs e to) = .int .i64 1 :: (zT ++ (encE e ++ [.int .i64 to])) from rfl,encE_eq]; rfl
 rw [hs]
 generalize hS1 : S ++ [Block.cells 68 false [.iv (.int .i64 1),.iv (.int .i64 0),.iv (.int .i64 0),.iv (.int .i64 0),.iv (.int .i64 0),.iv (.int .i64 0),.iv (.sl .nil []),.iv (.sl .nil []),.iv (.int .i64 e.k),.iv (.int .i64 e.n),.iv (.sl e.gv (TM.one (.int .i64) e.vs)),.iv (.bool e.r),.iv (.sl e.g (encEs e.ks)),.iv (.int .i64 to)]] = S1
 have k1 : Keep [] S S1 := by rw [← hS1]; exact Keep.app _ _ _
 have y1 := k1.get _ _ (by simp) hy
 generalize hTT : S1.set (n + 3) (.lp .busy none (e23 jm n r t0 x6 x7 x8 x9 x10 x12 x13 x14) [12,13] s23A s23B) = T
 have k2 : Keep [n + 3] S1 T := by rw [← hTT]; exact Keep.set _ (by simp) _
 have t6 : T[S.length]? = some (.cells 68 false [.iv (.int .i64 1),.iv (.int .i64 0),.iv (.int .i64 0),.iv (.int .i64 0),.iv (.int .i64 0),.iv (.int .i64 0),.iv (.sl .nil []),.iv (.sl .nil []),.iv (.int .i64 e.k),.iv (.int .i64 e.n),.iv (.sl e.gv (TM.one (.int .i64) e.vs)),.iv (.bool e.r),.iv (.sl e.g (encEs e.ks)),.iv (.int .i64 to)]) := by
  rw [← hTT,get_setN (by omega),← hS1,get_app1]
 have k12 := (k1.mono (J := [n + 3]) (by simp)).trans k2
 have ta := k12.get _ _ (by simp) h.a
 have tb := k12.get _ _ (by simp) h.b
 have tc := k12.get _ _ (by simp) h.c
 have ty : T[n + 3]? = some (.lp .busy none (e23 jm n r t0 x6 x7 x8 x9 x10 x12 x13 x14) [12,13] s23A s23B) := by rw [← hTT]; exact get_setS (lt_get y1) _
 have hM := h.ms.keep k12 (by simp; omega) (by simp; omega)
 -- the function
 have c20 := call20 hM (.sl .full [[.int .i64 to]]) (.bool false) (.bool true) (.sl .nil []) (.int .i64 a0) (.int .i64 a1) (.int .i64 a2) (.int .i64 a3) (.int .i64 a4) (.sl a5 b5) (.sl a6 b6) rfl
 have hM2 := hM.push (f := fnF .full [to] false true [.int .i64 a0,.int .i64 a1,.int .i64 a2,.int .i64 a3,.int .i64 a4,.sl a5 b5,.sl a6 b6]) rfl rfl hfs
 have kk2 : Keep [jm,jf] T _ := keep_push (S := T) (jm := jm) (jf := jf) (.cells σ.fs.length true (cellsM (σ.fs ++ [fnF .full [to] false true [.int .i64 a0,.int .i64 a1,.int .i64 a2,.int .i64 a3,.int .i64 a4,.sl a5 b5,.sl a6 b6]]))) (mkB jf (σ.push (fnF .full [to] false true [.int .i64 a0,.int .i64 a1,.int .i64 a2,.int .i64 a3,.int .i64 a4,.sl a5 b5,.sl a6 b6])))
 rw [show fnF .full [to] false true [.int .i64 a0,.int .i64 a1,.int .i64 a2,.int .i64 a3,.int .i64 a4,.sl a5 b5,.sl a6 b6] = [.sl .full [[.int .i64 to]],.bool false,.bool true,.sl .nil [],.int .i64 a0,.int .i64 a1,.int .i64 a2,.int .i64 a3,.int .i64 a4,.sl a5 b5,.sl a6 b6] from rfl] at hM2 kk2 hx
 generalize hσ2 : σ.push [.sl .full [[.int .i64 to]],.bool false,.bool true,.sl .nil [],.int .i64 a0,.int .i64 a1,.int .i64 a2,.int .i64 a3,.int .i64 a4,.sl a5 b5,.sl a6 b6] = σ2 at *
 have hnv2 : σ2.nv = σ.nv := by rw [← hσ2]; rfl
 generalize hT2 : (T.set jf (.cells σ.fs.length true (cellsM (σ.fs ++ [[.sl .full [[.int .i64 to]],.bool false,.bool true,.sl .nil [],.int .i64 a0,.int .i64 a1,.int .i64 a2,.int .i64 a3,.int .i64 a4,.sl a5 b5,.sl a6 b6]])))).set jm (mkB jf σ2) = T2 at *
 -- the variable
 have c22 := call22 hM2 (σ.fs.length : Int)
 have hM3 := hM2.var (by omega)
 have kk3 : Keep [jm,jf] T2 (T2.set jm (mkB jf σ2.var)) := keep_var _
 generalize hT3 : T2.set jm (mkB jf σ2.var) = T3 at *
 rw [hnv2] at c22
 -- the step in memory
 let Z : Block := .cells 68 false [.iv (.int .i64 0),.iv (.int .i64 2),.iv (.int .i64 σ.nv),.iv (.int .i64 0),.iv (.int .i64 0),.iv (.int .i64 σ.fs.length),.iv (.sl .nil []),.iv (.sl .nil []),.iv (.int .i64 0),.iv (.int .i64 0),.iv (.sl .nil []),.iv (.bool false),.iv (.sl .nil []),.iv (.int .i64 σ.nv)]
 have kk4 : Keep [] T3 (T3 ++ [Z]) := Keep.app _ _ _
 have hM4 := hM3.keep kk4 (by simp) (by simp)
 have z4 : (T3 ++ [Z])[T3.length]? = some Z := get_app1 _ _
 -- the code
 obtain ⟨T5,c24,hM5,kk5⟩ := hC hx he (by show b0 ≤ σ2.nv + 1; omega) hB hM4
 have c25 := call25 σ.nv
 have q23 := (kk2.trans kk3).trans (kk4.mono (by simp))
 have q25 := q23.trans kk5
 have ne3 : T3.length ≠ jm ∧ T3.length ≠ jf := by have := lt_get hM3.own; have := lt_get hM3.row; omega
 have z5 := kk5.get _ _ (by simp; omega) z4
 have t6b := (kk2.get _ _ (by simp; omega) t6)
 have t6c := kk3.get _ _ (by simp; omega) t6b
 have t6d := kk4.get _ _ (by simp) t6c
 have tab := kk2.get _ _ (by simp; omega) ta
 have tac := kk4.get _ _ (by simp) (kk3.get _ _ (by simp; omega) tab)
 have tbb := q25.get _ _ (by simp; omega) tb
 rw [hT] at c24 ⊢
 rw [encE_eq] at c24
 have l3 := lt_get hM3.own
 have l3n : n + 3 < T3.length := lt_get (kk3.get _ _ (by simp; omega) (kk2.get _ _ (by simp; omega) ty))
 have p2 : ∀ X,(T5.set T3.length X)[T3.length]? = some X := fun X => get_setS (lt_get z5) X
 have p3 : ∀ X,(T5.set T3.length X)[n + 1]? = T5[n + 1]? := fun X => get_setN (by omega) X
 let Z' : Block := .cells 68 false [.iv (.int .i64 0),.iv (.int .i64 2),.iv (.int .i64 σ.nv),.iv (.int .i64 0),.iv (.int .i64 0),.iv (.int .i64 σ.fs.length),.iv (.sl .nil []),.iv (.sl .full [[.int .i64 c0,.int .i64 c1,.int .i64 c2,.int .i64 c3,.int .i64 c4,.sl c5 d5,.sl c6 d6]]),.iv (.int .i64 0),.iv (.int .i64 0),.iv (.sl .nil []),.iv (.bool false),.iv (.sl .nil []),.iv (.int .i64 σ.nv)]
 let R : Block := .cells 46 false [.iv (.int .i64 2),.iv (.int .i64 σ.nv),.iv (.int .i64 0),.iv (.int .i64 0),.iv (.int .i64 σ.fs.length),.iv (.sl .nil []),.iv (.sl .full [[.int .i64 c0,.int .i64 c1,.int .i64 c2,.int .i64 c3,.int .i64 c4,.sl c5 d5,.sl c6 d6]])]
 have kz : Keep [T3.length] T5 (T5.set T3.length Z') := Keep.set _ (by simp) _
 have kr : Keep [n + 1] (T5.set T3.length Z') ((T5.set T3.length Z').set (n + 1) R) := Keep.set _ (by simp) _
 have ybb := q25.get _ _ (by simp; omega) ty
 have y6 := kr.get _ _ (by simp) (kz.get _ _ (by simp; omega) ybb)
 have ta2 := kk2.get _ _ (by simp; omega) ta
 refine ⟨((T5.set T3.length Z').set (n + 1) R).set (n + 3) (.lp .ready none (e23 jm n r t0 x6 x7 x8 x9 x10 x12 x13 x14) [12,13] s23A s23B),?_,?_,?_⟩
 ·refine yld_true (env2 := [.ptr jm 64 0,r,.iv (.agg t0),.ptr n 62 0,.ptr (n + 1) 46 0,.hole,.ptr S.length 68 0,x7,x8,x9,x10,.fn 71 [] [.ptr (n + 2) 72 0],.iv (.int .i64 i),.iv (.agg [.int .i64 1,.int .i64 0,.int .i64 0,.int .i64 0,.int .i64 0,.int .i64 0,.sl .nil [],.sl .nil [],.int .i64 e.k,.int .i64 e.n,.sl e.gv (TM.one (.int .i64) e.vs),.bool e.r,.sl e.g (encEs e.ks),.int .i64 to]),x14]) (env3 := [.ptr jm 64 0,r,.iv (.agg t0),.ptr n 62 0,.ptr (n + 1) 46 0,.hole,.ptr S.length 68 0,x7,.iv (.int .i64 σ.fs.length),.ptr T3.length 68 0,.iv (.int .i64 σ.nv),.fn 71 [] [.ptr (n + 2) 72 0],.iv (.int .i64 i),.iv (.agg [.int .i64 1,.int .i64 0,.int .i64 0,.int .i64 0,.int .i64 0,.int .i64 0,.sl .nil [],.sl .nil [],.int .i64 e.k,.int .i64 e.n,.sl e.gv (TM.one (.int .i64) e.vs),.bool e.r,.sl e.g (encEs e.ks),.int .i64 to]),.iv (.bool false)]) (S1 := S1) (S2 := (T5.set T3.length Z').set (n + 1) R) hy rfl ?_ y1 ?_ y6
  ·subst hS1
   simp (config := { maxSteps := 4000000 }) (disch := omega) only [s23A,e23,go_sem]
  ·rw [hTT]
   unfold aV madeS at *
   simp only [Z] at tac t6d c24 z5
   simp (config := { maxSteps := 4000000 }) (disch := omega) only [s23B,go_sem,t6,ta,tb,c20,ta2,c22,tac,t6d,cpR_pure c25,c24,z5,p2,p3,tbb]
   rfl
 ·refine ⟨?_,?_,?_,⟨x6,x7,x8,x9,x10,x12,x13,x14,get_setS (lt_get y6) _⟩,?_,h.lt⟩
  ·rw [get_setN (by omega)]; exact kr.get _ _ (by simp) (kz.get _ _ (by simp; omega) (q25.get _ _ (by simp; omega) ta))
  ·rw [get_setN (by omega),get_setS (by simp; exact lt_get tbb)]; rfl
  ·rw [get_setN (by omega)]; exact kr.get _ _ (by simp) (kz.get _ _ (by simp; omega) (q25.get _ _ (by simp; omega) tc))
  ·exact ((hM5.keep kz (by simp; omega) (by simp; omega)).keep kr (by simp; omega) (by simp; omega)).keep (Keep.set (I := [n + 3]) _ (by simp) _) (by simp; omega) (by simp; omega)
 ·refine ⟨?_,fun q B hq hb => ?_⟩
  ·have := q25.len; have := k12.len; simp; omega
  ·simp at hq
   have hlq := lt_get hb
   have u1 := k12.get q B (by simp; omega) hb
   have u2 := q25.get q B (by simp; omega) u1
   have hlS : S.length ≤ T3.length := by have := k12.len; have := kk2.len; have := kk3.len; omega
   exact (Keep.set (I := [n + 3]) _ (by simp) _).get q B (by simp; omega) (kr.get q B (by simp; omega) (kz.get q B (by simp; omega) u2))
def LaidOK (b0 : Int) (n : Nat) : Prop := ∀ {l : List St} {r : TV} {t : List IV} {σ : Mk} {x : List IV × Mk} {S : Store} {jm jf : Nat},laidM n l.reverse t σ = some x → SR r (encZs l) → TmO t → (∀ s ∈ l,SO s) → l.length ≤ 2000000 → b0 ≤ σ.nv → Bd b0 x.2 → MkS S jm jf σ →
 ∃ S',(lim K).call 23 [.ptr jm 64 0,r,.iv (.agg t)] S = .ret (.iv (.agg x.1),S') ∧ MkS S' jm jf x.2 ∧ Keep [jm,jf] S S'
theorem get_cp14 (env : Env) (S : Store) (a b c d e f g h i j k l m n : IV) : getCells env S (.iv (.cp [a,b,c,d,e,f,g,h,i,j,k,l,m,n])) 14 = some [.iv a,.iv b,.iv c,.iv d,.iv e,.iv f,.iv g,.iv h,.iv i,.iv j,.iv k,.iv l,.iv m,.iv n] := by simp [getCells,sub]
attribute [go_sem] get_cp14
theorem SR.len {r : TV} {l : List (List IV)} (h : SR r l) (S : Store) : lenV .sl S r = some (.iv (.int .i64 l.length)) := by
 rcases h with ⟨rfl,rfl⟩ | ⟨j,rfl⟩ | rfl <;> rfl
theorem SR.ix {r : TV} {l : List St} (h : SR r (encZs l)) {i : Nat} (hi : i < l.length) (ho : ∀ s ∈ l,SO s) : indexAddrS 14 r (i : Int) = some (.iv (.cp (encZ l[i]))) := by
 have hg : (encZs l)[(i : Int).toNat]? = some (encZ l[i]) := by
  rw [Int.toNat_natCast]
  unfold encZs
  rw [List.getElem?_map,List.getElem?_eq_getElem hi]
  rfl
 have hw : (encZ l[i]).length = 14 := (encZs_el ho _ (List.mem_of_getElem? hg)).1
 rcases h with ⟨h0,rfl⟩ | ⟨j,rfl⟩ | rfl
 ·rw [h0] at hg; simp at hg
 ·exact ix_tsl (by omega) hg hw
 ·exact ix_ok (by omega) hg hw
theorem loop71 {b0 : Int} {N : Nat} (hb0 : 0 ≤ b0 ∧ b0 ≤ 1152921504606846976) (hC : ∀ m,m ≤ N → CodeOK b0 m) {n jm jf : Nat} {r : TV} {t0 : List IV} {L : List St} (hr : SR r (encZs L)) (hL : ∀ s ∈ L,SO s) (hl : L.length ≤ 2000000) : ∀ (k f : Nat) (t : List IV) (σ : Mk) (x : List IV × Mk) (S : Store) (x3 x4 : TV),k ≤ L.length → f ≤ N + 1 → laidM f (L.take k).reverse t σ = some x → TmO t → b0 ≤ σ.nv → Bd b0 x.2 → YS S n jm jf r t0 t σ →
  ∃ (S' : Store) (y3 y4 : TV),lp' (lim K) t71L0 [.yld (n + 3),.ptr (n + 2) 72 0,.iv (.int .i64 ((k : Int) - 1)),x3,x4] S = .ret (.exit 0,[.yld (n + 3),.ptr (n + 2) 72 0,.iv (.int .i64 (-1)),y3,y4],S') ∧ YS S' n jm jf r t0 x.1 x.2 ∧ Keep [jm,jf,n + 1,n + 3] S S'
 | 0,f,t,σ,x,S,x3,x4,hk,hf,hx,ht,hb,hB,hY => by
  cases f with
  | zero => simp [laidM] at hx
  | succ f =>
   rw [List.take_zero,List.reverse_nil,laidM] at hx
   cases hx
   refine ⟨S,.iv (.bool false),x4,loop_at K _ _ t71L0.eq_1 ?_,hY,Keep.refl _ _⟩
   rw [show ((0 : Nat) : Int) - 1 = -1 from rfl]
   simp (config := { maxSteps := 4000000 }) (disch := omega) only [go_sem]
 | k + 1,f,t,σ,x,S,x3,x4,hk,hf,hx,ht,hb,hB,hY => by
  have hla : k < L.length := by omega
  have hts : (L.take (k + 1)).reverse = L[k] :: (L.take k).reverse := by
   rw [List.take_add_one,List.getElem?_eq_getElem hla]; simp
  rw [hts] at hx
  have hix := hr.ix hla hL
  have hso := hL L[k] (List.getElem_mem _)
  have hc := hY.c
  rw [show (((k + 1 : Nat) : Int) - 1) = (k : Int) by omega]
  cases f with
  | zero => simp [laidM] at hx
  | succ f =>
   generalize L[k] = s at *
   cases s with
   | tm c to =>
    have hcT : TmO c := hso
    rw [laidM] at hx
    obtain ⟨S1,y1,hY1,k1⟩ := yld_tm hY ht hcT to (k : Int)
    obtain ⟨S2,z3,z4,ih,hY2,k2⟩ := loop71 hb0 hC hr hL hl k f _ σ x S1 (.iv (.bool true)) (.iv (.bool false)) (by omega) (by omega) hx (TmO.kids hcT _ _) hb hB hY1
    refine ⟨S2,z3,z4,loop_at K _ _ t71L0.eq_1 ?_,hY2,(k1.mono (by simp)).trans k2⟩
    obtain ⟨c0,c1,c2,c3,c4,c5,c6,d5,d6,rfl⟩ := hcT
    rw [show encZ (.tm [.int .i64 c0,.int .i64 c1,.int .i64 c2,.int .i64 c3,.int .i64 c4,.sl c5 d5,.sl c6 d6] to) = [.int .i64 0,.int .i64 c0,.int .i64 c1,.int .i64 c2,.int .i64 c3,.int .i64 c4,.sl c5 d5,.sl c6 d6,.int .i64 0,.int .i64 0,.sl .nil [],.bool false,.sl .nil [],.int .i64 to] from rfl] at hix y1
    simp (config := { maxSteps := 4000000 }) (disch := omega) only [go_sem,hc,hix,y1,er_ret,wrap_i64]
    exact congrArg er ih
   | rs e to =>
    have heX : XO e := hso
    rw [laidM] at hx
    obtain ⟨y,hy,hx⟩ := Option.bind_eq_some_iff.1 hx
    have l1 := (mono f).code hy
    have l2 := (mono f).laid hx
    obtain ⟨S1,y1,hY1,k1⟩ := yld_rs hb0 (hC f (by omega)) hY ht heX hy hb (hB.le l2) (k : Int)
    obtain ⟨S2,z3,z4,ih,hY2,k2⟩ := loop71 hb0 hC hr hL hl k f _ y.2 x S1 (.iv (.bool true)) (.iv (.bool false)) (by omega) (by omega) hx (TmO.fun ..) (by have : σ.nv + 1 ≤ y.2.nv := l1.nv; omega) hB hY1
    refine ⟨S2,z3,z4,loop_at K _ _ t71L0.eq_1 ?_,hY2,k1.trans k2⟩
    have hs : encZ (.rs e to) = [.int .i64 1,.int .i64 0,.int .i64 0,.int .i64 0,.int .i64 0,.int .i64 0,.sl .nil [],.sl .nil [],.int .i64 e.k,.int .i64 e.n,.sl e.gv (TM.one (.int .i64) e.vs),.bool e.r,.sl e.g (encEs e.ks),.int .i64 to] := by
     rw [show encZ (.rs e to) = .int .i64 1 :: (zT ++ (encE e ++ [.int .i64 to])) from rfl,encE_eq]; rfl
    rw [hs] at hix y1
    simp (config := { maxSteps := 4000000 }) (disch := omega) only [go_sem,hc,hix,y1,er_ret,wrap_i64]
    exact congrArg er ih
theorem call44 {r : TV} {l : List (List IV)} (h : SR r l) (S : Store) : (lim K).call 44 [r] S = .ret (.fn 71 [] [.ptr S.length 72 0],S ++ [.cells 72 false [r]]) := by
 refine call_ret' K _ (fn := t44) rfl rfl ?_
 rcases h with ⟨rfl,rfl⟩ | ⟨j,rfl⟩ | rfl <;>
  simp (config := { maxSteps := 4000000 }) (disch := omega) only [t44,go_sem,TM.undef]
theorem laid_step {b0 : Int} {N : Nat} (hb0 : 0 ≤ b0 ∧ b0 ≤ 1152921504606846976) (hC : ∀ m,m ≤ N → CodeOK b0 m) : LaidOK b0 (N + 1) := by
 intro l r t σ x S jm jf hx hr ht hl hlen hb hB hM
 have hj : jm < S.length ∧ jf < S.length := ⟨lt_get hM.own,lt_get hM.row⟩
 generalize hS4 : S ++ [Block.cells 62 false [.ptr jm 64 0],.cells 46 false (t.map .iv),.cells 72 false [r],.lp .ready none (e23 jm S.length r t (.tup []) (.tup []) (.tup []) (.tup []) (.tup []) (.tup []) (.tup []) (.tup [])) [12,13] s23A s23B] = S4
 have k4 : Keep [] S S4 := by rw [← hS4]; exact Keep.app _ _ _
 have hY : YS S4 S.length jm jf r t t σ := by
  refine ⟨?_,?_,?_,⟨.tup [],.tup [],.tup [],.tup [],.tup [],.tup [],.tup [],.tup [],?_⟩,hM.keep k4 (by simp) (by simp),hj⟩ <;> (rw [← hS4]; simp)
 obtain ⟨S5,y3,y4,l1,hY5,k5⟩ := loop71 hb0 hC hr hl hlen l.length (N + 1) t σ x S4 (.tup []) (.tup []) (Nat.le_refl _) (Nat.le_refl _) (by rw [List.take_length]; exact hx) ht hb hB hY
 have hc4 := hY.c
 have hlen4 := hr.len S4
 rw [encZs_len] at hlen4
 have c71 : (lim K).call 71 [.yld (S.length + 3),.ptr (S.length + 2) 72 0] S4 = .ret (.tup [],S5) := by
  refine call_ret' K _ (fn := t71) rfl rfl ?_
  simp (config := { maxSteps := 4000000 }) (disch := omega) only [t71,go_sem,TM.undef,hc4,hlen4,wrap_i64]
  rw [l1]
  simp (config := { maxSteps := 4000000 }) (disch := omega) only [go_sem]
 have c44 := call44 hr (S ++ [Block.cells 62 false [.ptr jm 64 0],.cells 46 false (t.map .iv)])
 rw [show (S ++ [Block.cells 62 false [.ptr jm 64 0],.cells 46 false (t.map .iv)]).length = S.length + 2 by simp] at c44
 obtain ⟨x6,x7,x8,x9,x10,x12,x13,x14,hy5⟩ := hY5.y
 have hb5 := hY5.b
 have hlt := lt_get hy5
 have hb6 : ∀ X,(S5.set (S.length + 3) X)[S.length + 1]? = some (.cells 46 false (x.1.map .iv)) := fun X => by rw [get_setN (by omega)]; exact hb5
 obtain ⟨a0,a1,a2,a3,a4,a5,a6,b5,b6,rfl⟩ := ht
 obtain ⟨c0,c1,c2,c3,c4,c5,c6,d5,d6,hT⟩ := (shape (N + 1)).laid hx ⟨_,_,_,_,_,_,_,_,_,rfl⟩ (fun s hs => hl s (List.mem_reverse.1 hs))
 rw [hT] at hb6 ⊢
 have hk5 : Keep [jm,jf] S S5 := ⟨Nat.le_trans k4.len k5.len,fun q B hq hb => by
  have := lt_get hb
  exact k5.get q B (by simp at hq ⊢; omega) (k4.get q B (by simp) hb)⟩
 refine ⟨S5.set (S.length + 3) (.lp .exhausted none (e23 jm S.length r [.int .i64 a0,.int .i64 a1,.int .i64 a2,.int .i64 a3,.int .i64 a4,.sl a5 b5,.sl a6 b6] x6 x7 x8 x9 x10 x12 x13 x14) [12,13] s23A s23B),call_ret' K _ (fn := t23) rfl rfl ?_,hY5.ms.keep (Keep.set (I := [S.length + 3]) _ (by simp) _) (by simp; omega) (by simp; omega),⟨by simpa using hk5.len,fun q B hq hb => by
  have := lt_get hb
  rw [get_setN (by omega)]; exact hk5.get q B hq hb⟩⟩
 rw [← hS4] at c71
 unfold s23A s23B e23 at *
 simp only [List.map_cons,List.map_nil] at c44 c71 hb6
 rcases hr with ⟨_,rfl⟩ | ⟨j,rfl⟩ | rfl
 ·simp (config := { maxSteps := 4000000 }) (disch := omega) only [t23,go_sem,TM.undef,List.append_assoc,List.length_append,List.length_cons,List.length_nil,c44,c71,hy5,hb6]
 ·simp (config := { maxSteps := 4000000 }) (disch := omega) only [t23,go_sem,TM.undef,List.append_assoc,List.length_append,List.length_cons,List.length_nil,c44,c71,hy5,hb6]
 ·simp (config := { maxSteps := 4000000 }) (disch := omega) only [t23,go_sem,TM.undef,List.append_assoc,List.length_append,List.length_cons,List.length_nil,c44,c71,hy5,hb6]
def CtlOK (b0 : Int) (n : Nat) : Prop := ∀ {e : Ex} {k0 k1 : Int} {σ : Mk} {x : List IV × Mk} {S : Store} {jm jf : Nat},ctlM n e [.int .i64 k0,.int .i64 k1] σ = some x → XO e → b0 ≤ σ.nv → Bd b0 x.2 → MkS S jm jf σ →
 ∃ S',(lim K).call 50 [.ptr jm 64 0,.iv (.agg (encE e)),.iv (.agg [.int .i64 k0,.int .i64 k1])] S = .ret (.iv (.agg x.1),S') ∧ MkS S' jm jf x.2 ∧ Keep [jm,jf] S S'
def SeqOK (b0 : Int) (n : Nat) : Prop := ∀ {l : List Ex} {g : Tag} {k0 k1 : Int} {σ : Mk} {x : List IV × Mk} {S : Store} {jm jf : Nat},seqM n l [.int .i64 k0,.int .i64 k1] σ = some x → (∀ e ∈ l,XO e) → TagOk g l → l.length ≤ 1048576 → b0 ≤ σ.nv → Bd b0 x.2 → MkS S jm jf σ →
 ∃ S',(lim K).call 49 [.ptr jm 64 0,.iv (.sl g (encEs l)),.iv (.agg [.int .i64 k0,.int .i64 k1])] S = .ret (.iv (.agg x.1),S') ∧ MkS S' jm jf x.2 ∧ Keep [jm,jf] S S'
theorem sl_hd {S : Store} {j : Nat} {a : List IV} {r : List (List IV)} (h : Elems 2 (a :: r)) : sliceOp S (.sl 2) (.tsl j (a :: r)) none (some 1) none = some (.iv (.sl .no [a])) := by
 have hf : fits 2 (a :: r) = true := fits_all (fun y hy => (h y hy).1)
 simp [sliceOp,hf,sliceIV,bounds,bound,show (1 : Int) ≤ (r.length : Int) + 1 by omega]
theorem sl_tl {S : Store} {j : Nat} {a : List IV} {r : List (List IV)} (h : Elems 2 (a :: r)) : sliceOp S (.sl 2) (.tsl j (a :: r)) (some 1) none none = some (.iv (.sl .no r)) := by
 have hf : fits 2 (a :: r) = true := fits_all (fun y hy => (h y hy).1)
 simp [sliceOp,hf,sliceIV,bounds,bound,show (1 : Int) ≤ (r.length : Int) + 1 by omega]
theorem code_step {b0 : Int} {n : Nat} (hb0 : 0 ≤ b0 ∧ b0 ≤ 1152921504606846976) (hV : ValueOK b0 n) (hVs : ValuesOK b0 n) (hLd : LaidOK b0 n) (hC : CodeOK b0 n) (hCt : CtlOK b0 n) (hSq : SeqOK b0 n) : CodeOK b0 (n + 1) := by
 intro e k0 k1 σ x S jm jf hx ho hb hB hM
 have hwe := Ex.w_eq e
 have hw2 := ho.2
 have hkl := Ex.ws_len e.ks
 have hlE := encEs_len e.ks
 rw [codeM] at hx
 by_cases h8 : e.k = 8
 ·rw [if_pos h8] at hx
  obtain ⟨y,hy,hx⟩ := Option.bind_eq_some_iff.1 hx
  obtain ⟨s1,s2,s3,s4⟩ := (shape n).values hy (fun x hx => ho.kid hx)
  split at hx
  ·cases hx
  ·rename_i a r hat
   have l1 := (mono n).values hy
   have l2 := (mono n).laid hx
   have hBy : Bd b0 y.2.2 := hB.le l2
   obtain ⟨js,ja,S1,c45,g1,g2,hd,hM1,hk1⟩ := hVs (g := e.g) hy (fun x hx => ho.kid hx) (by omega) hb hBy hM
   rw [hat] at c45 s1 s4
   have hel := AtO.el s1
   have hea : Elems 2 [a] := fun y hy => by rw [List.mem_singleton] at hy; subst hy; exact hel _ (by simp)
   have her : Elems 2 r := fun y hy => hel y (by simp [hy])
   rw [List.length_cons] at s4
   have c47 := call47 [(.no,[a]),(.full,[[.int .i64 k0,.int .i64 k1]]),(.no,r)] (by simp) (by
    intro p hp
    simp at hp
    rcases hp with rfl | rfl | rfl
    ·exact hea
    ·intro y hy; simp at hy; subst hy; exact ⟨rfl,rfl⟩
    ·exact her) (by simp only [sumL,List.length_cons,List.length_nil]; omega) (by simp only [sumL,List.length_cons,List.length_nil]; omega) S1
   have hcat : catL [((.no : Tag),[a]),(.full,[[.int .i64 k0,.int .i64 k1]]),(.no,r)] = a :: [.int .i64 k0,.int .i64 k1] :: r := by simp [catL]
   rw [hcat,show [((.no : Tag),[a]),(.full,[[.int .i64 k0,.int .i64 k1]]),(.no,r)].map encQ = [[.sl .no [a]],[.sl .full [[.int .i64 k0,.int .i64 k1]]],[.sl .no r]] from rfl] at c47
   generalize hS2 : S1 ++ [Block.tok (a :: [.int .i64 k0,.int .i64 k1] :: r).length 2 53] = S2 at *
   have kap : Keep [] S1 S2 := by rw [← hS2]; exact Keep.app _ _ _
   have hM2 := hM1.keep kap (by simp) (by simp)
   have c46 := call46 S2 S1.length (l := a :: [.int .i64 k0,.int .i64 k1] :: r) (by simp)
   rw [acc_ne _ (by simp)] at c46
   obtain ⟨S3,c23,hM3,hk3⟩ := hLd hx (SR.acc js _) (TmO.call ..) s2 (by have := hBy.hi; omega) (Int.le_trans hb l1.nv) hB hM2
   refine ⟨S3,call_ret' K _ (fn := t24) rfl rfl ?_,hM3,(hk1.trans (kap.mono (by simp))).trans hk3⟩
   obtain ⟨u0,u1,u2,u3,u4,u5,u6,v5,v6,hXT⟩ := (shape n).laid hx (TmO.call ..) (fun s hs => s2 s (List.mem_reverse.1 hs))
   rw [hXT] at c23 ⊢
   rw [acc_ne ja (by simp)] at c45
   have q1 := fun S => sl_hd (S := S) (j := ja) hel
   have q2 := fun S => sl_tl (S := S) (j := ja) hel
   unfold callT at *
   rw [encE_eq]
   simp (config := { maxSteps := 4000000 }) (disch := omega) only [t24,go_sem,TM.undef,c45,q1,q2,c47,c46,c23]
 ·rw [if_neg h8] at hx
  by_cases h6 : e.k = 6
  ·rw [if_pos h6] at hx
   split at hx
   ·rename_i c p q rr hks
    obtain ⟨y,hy,hx⟩ := Option.bind_eq_some_iff.1 hx
    obtain ⟨z,hz,hx⟩ := Option.bind_eq_some_iff.1 hx
    obtain ⟨w,hw,hx⟩ := Option.bind_eq_some_iff.1 hx
    have oc : XO c := ho.kid (by rw [hks]; simp)
    have op : XO p := ho.kid (by rw [hks]; simp)
    have oq : XO q := ho.kid (by rw [hks]; simp)
    have l1 := (mono n).value hy
    have l2 := (mono n).code hz
    have l3 := (mono n).code hw
    have l4 := (mono n).laid hx
    obtain ⟨⟨a0,a1,ha⟩,s2,s3⟩ := (shape n).value hy oc
    obtain ⟨rv,S1,c48,hr,hM1,hk1⟩ := hV hy oc hb (hB.le ((l2.trans l3).trans l4)) hM
    obtain ⟨S2,c24a,hM2,hk2⟩ := hC hz op (Int.le_trans hb l1.nv) (hB.le (l3.trans l4)) hM1
    obtain ⟨S3,c24b,hM3,hk3⟩ := hC hw oq (Int.le_trans hb (l1.trans l2).nv) (hB.le l4) hM2
    have hBy : Bd b0 y.2.2 := hB.le ((l2.trans l3).trans l4)
    obtain ⟨S4,c23,hM4,hk4⟩ := hLd hx hr (TmO.if ..) s2 (by have := hBy.hi; omega) (Int.le_trans hb ((l1.trans l2).trans l3).nv) hB hM3
    have hix : ∀ i : Int,0 ≤ i ∧ i < e.ks.length → indexAddrS 5 (.iv (.sl e.g (encEs e.ks))) i = some (.iv (.cp (encE (e.ks.getD i.toNat default)))) := fun i hi => ixE hi
    have h3l : 3 ≤ e.ks.length := by rw [hks]; simp
    have i0 := hix 0 (by omega)
    have i1 := hix 1 (by omega)
    have i2 := hix 2 (by omega)
    rw [show e.ks.getD (0 : Int).toNat default = c by rw [hks]; rfl] at i0
    rw [show e.ks.getD (1 : Int).toNat default = p by rw [hks]; rfl] at i1
    rw [show e.ks.getD (2 : Int).toNat default = q by rw [hks]; rfl] at i2
    have gc := getE5 (d := c)
    have gp := getE5 (d := p)
    have gq := getE5 (d := q)
    obtain ⟨c0,c1,c2,c3,c4,c5,c6,d5,d6,hT1⟩ := (shape n).code hz op
    obtain ⟨e0,e1,e2,e3,e4,e5,e6,f5,f6,hT2⟩ := (shape n).code hw oq
    obtain ⟨u0,u1,u2,u3,u4,u5,u6,v5,v6,hXT⟩ := (shape n).laid hx (TmO.if ..) (fun s hs => s2 s (List.mem_reverse.1 hs))
    rw [hXT] at c23 ⊢
    rw [ha] at c48 c23
    rw [hT1] at c24a c23
    rw [hT2] at c24b c23
    rw [encE_eq] at c48 c24a c24b i0 i1 i2 gc gp gq ⊢
    unfold ifT at *
    refine ⟨S4,call_ret' K _ (fn := t24) rfl rfl ?_,hM4,((hk1.trans hk2).trans hk3).trans hk4⟩
    rcases hr with ⟨_,rfl⟩ | ⟨j,rfl⟩ | rfl
    ·simp (config := { maxSteps := 4000000 }) (disch := omega) only [t24,go_sem,TM.undef,i0,i1,i2,gc,gp,gq,c48,c24a,c24b,c23]
    ·simp (config := { maxSteps := 4000000 }) (disch := omega) only [t24,go_sem,TM.undef,i0,i1,i2,gc,gp,gq,c48,c24a,c24b,c23]
    ·simp (config := { maxSteps := 4000000 }) (disch := omega) only [t24,go_sem,TM.undef,i0,i1,i2,gc,gp,gq,c48,c24a,c24b,c23]
   ·cases hx
  ·rw [if_neg h6] at hx
   by_cases h10 : e.k = 10
   ·rw [if_pos h10] at hx
    obtain ⟨S1,c49,hM1,hk1⟩ := hSq (g := e.g) hx (fun x hx => ho.kid hx) ((Ex.ok_eq e).1 ho.1).2.2.2.2.1 (by omega) hb hB hM
    obtain ⟨c0,c1,c2,c3,c4,c5,c6,d5,d6,hT⟩ := (shape n).sq hx (fun x hx => ho.kid hx)
    rw [hT] at c49 ⊢
    refine ⟨S1,call_ret' K _ (fn := t24) rfl rfl ?_,hM1,hk1⟩
    rw [encE_eq]
    simp (config := { maxSteps := 4000000 }) (disch := omega) only [t24,go_sem,TM.undef,c49]
   ·rw [if_neg h10] at hx
    by_cases h11 : e.k = 11
    ·rw [if_pos h11] at hx
     obtain ⟨S1,c50,hM1,hk1⟩ := hCt hx ho hb hB hM
     obtain ⟨c0,c1,c2,c3,c4,c5,c6,d5,d6,hT⟩ := (shape n).ctl hx ho
     rw [hT] at c50 ⊢
     refine ⟨S1,call_ret' K _ (fn := t24) rfl rfl ?_,hM1,hk1⟩
     rw [encE_eq] at c50 ⊢
     simp (config := { maxSteps := 4000000 }) (disch := omega) only [t24,go_sem,TM.undef,c50]
    ·rw [if_neg h11] at hx
     obtain ⟨y,hy,hx⟩ := Option.bind_eq_some_iff.1 hx
     have l1 := (mono n).value hy
     have l4 := (mono n).laid hx
     obtain ⟨⟨a0,a1,ha⟩,s2,s3⟩ := (shape n).value hy ho
     have hBy : Bd b0 y.2.2 := hB.le l4
     obtain ⟨rv,S1,c48,hr,hM1,hk1⟩ := hV hy ho hb hBy hM
     have c46 := call46f S1 [[.int .i64 k0,.int .i64 k1],[.int .i64 a0,.int .i64 a1]]
     rw [ha] at hx
     obtain ⟨S4,c23,hM4,hk4⟩ := hLd hx hr (TmO.call ..) s2 (by have := hBy.hi; omega) (Int.le_trans hb l1.nv) hB hM1
     obtain ⟨c0,c1,c2,c3,c4,c5,c6,d5,d6,hT⟩ := (shape n).laid hx (TmO.call ..) (fun s hs => s2 s (List.mem_reverse.1 hs))
     rw [hT] at c23 ⊢
     rw [ha] at c48
     rw [encE_eq] at c48 ⊢
     unfold callT at *
     refine ⟨S4,call_ret' K _ (fn := t24) rfl rfl ?_,hM4,hk1.trans hk4⟩
     rcases hr with ⟨_,rfl⟩ | ⟨j,rfl⟩ | rfl
     ·simp (config := { maxSteps := 4000000 }) (disch := omega) only [t24,go_sem,TM.undef,c48,c46,c23]
     ·simp (config := { maxSteps := 4000000 }) (disch := omega) only [t24,go_sem,TM.undef,c48,c46,c23]
     ·simp (config := { maxSteps := 4000000 }) (disch := omega) only [t24,go_sem,TM.undef,c48,c46,c23]
def madeB (v f : Int) : Block := .cells 68 false [.iv (.int .i64 0),.iv (.int .i64 2),.iv (.int .i64 v),.iv (.int .i64 0),.iv (.int .i64 0),.iv (.int .i64 f),.iv (.sl .nil []),.iv (.sl .nil []),.iv (.int .i64 0),.iv (.int .i64 0),.iv (.sl .nil []),.iv (.bool false),.iv (.sl .nil []),.iv (.int .i64 v)]
def zeroB : Block := .cells 68 false [.iv (.int .i64 0),.iv (.int .i64 0),.iv (.int .i64 0),.iv (.int .i64 0),.iv (.int .i64 0),.iv (.int .i64 0),.iv (.sl .nil []),.iv (.sl .nil []),.iv (.int .i64 0),.iv (.int .i64 0),.iv (.sl .nil []),.iv (.bool false),.iv (.sl .nil []),.iv (.int .i64 0)]
theorem made_fn {U : Store} {jm jf z : Nat} {σ : Mk} {f : List IV} (hM : MkS U jm jf σ) (hz : U[z]? = some zeroB) (hf : f.length = 11) (hfc : f.all isCell = true) (hfs : σ.fs.length < 1000000) (hnv : σ.nv < 4611686018427387904) :
  ∃ (T4 : Store),(lim K).call 22 [.ptr jm 64 0,.iv (.int .i64 σ.fs.length)] ((U.set jf (.cells σ.fs.length true (cellsM (σ.fs ++ [f])))).set jm (mkB jf (σ.push f))) = .ret (.tup [.iv (.agg (madeS σ.nv σ.fs.length)),.iv (.int .i64 σ.nv)],T4) ∧
   T4[z]? = some zeroB ∧ (T4.set z (madeB σ.nv σ.fs.length))[z]? = some (madeB σ.nv σ.fs.length) ∧ MkS (T4.set z (madeB σ.nv σ.fs.length)) jm jf (σ.push f).var ∧ Keep [jm,jf] U T4 ∧ Keep [jm,jf,z] U (T4.set z (madeB σ.nv σ.fs.length)) := by
 have hM2 := hM.push hf hfc hfs
 have c22 := call22 hM2 (σ.fs.length : Int)
 rw [show (σ.push f).nv = σ.nv from rfl] at c22
 have hM3 := hM2.var hnv
 have k2 : Keep [jm,jf] U ((U.set jf (.cells σ.fs.length true (cellsM (σ.fs ++ [f])))).set jm (mkB jf (σ.push f))) := keep_push _ _
 have k3 := k2.trans (keep_var (jm := jm) (jf := jf) (mkB jf (σ.push f).var))
 have n1 : z ≠ jm := by
  rintro rfl
  have := hM.own
  rw [hz] at this
  unfold zeroB mkB at this
  simp at this
 have n2 : z ≠ jf := by
  rintro rfl
  have := hM.row
  rw [hz] at this
  unfold zeroB at this
  simp at this
 have z4 := k3.get z _ (by simp; exact ⟨n1,n2⟩) hz
 refine ⟨_,c22,z4,get_setS (lt_get z4) _,hM3.keep (Keep.set (I := [z]) _ (by simp) _) (by simpa using Ne.symm n1) (by simpa using Ne.symm n2),k3,(k3.mono (by simp)).trans (Keep.set _ (by simp) _)⟩
theorem step_more {n0 : Nat} {S T : Store} {jm jf z js : Nat} {σ : Mk} {ss : List St} {s : St} (hM : MkS T jm jf σ) (hj : jm < n0 ∧ jf < n0 ∧ n0 ≤ z) (g : Gl n0 S 14 67 (encZs ss) js) (hk : Keep [jm,jf,z] S T) (hgz : encZs ss ≠ [] → js ≠ z) (hs : ∀ s ∈ ss,SO s) (hss : SO s) (hsl : ss.length ≤ 1000000) (hn0 : n0 ≤ S.length) :
  ∃ (T6 : Store) (js' : Nat),appendOp false 14 176 67 T (acc js (encZs ss)) (.iv (.sl .full [encZ s])) = some (acc js' (encZs (ss ++ [s])),T6) ∧ MkS T6 jm jf σ ∧ (∀ {S0 : Store},S0.length = n0 → Keep [jm,jf] S0 T → Keep [jm,jf] S0 T6) := by
 have g4 : Gl n0 T 14 67 (encZs ss) js := ⟨fun h => hk.get _ _ (by have := g.new h; have := hgz h; simp; omega) (g.tok h),g.new⟩
 obtain ⟨js',T6,a1,gr⟩ := g4.more (b := 176) (IsEl.sl _ .full [encZ s]) (encZs_el (l := [s]) (fun x hx => by rw [List.mem_singleton] at hx; subst hx; exact hss)) (encZs_el hs) (roomy_ok (by rw [encZs_len]; simp; omega)) (Nat.le_trans hn0 hk.len)
 refine ⟨T6,js',?_,gr.mks g4 hM ⟨hj.1,hj.2.1⟩,fun {S0} h0 hk => gr.keep g4 hk (by omega)⟩
 rw [a1,encZs_app]
 rfl
theorem ix_fst {j : Nat} {a : List IV} {r : List (List IV)} (hw : a.length = 2) : indexAddrS 2 (.tsl j (a :: r)) 0 = some (.iv (.cp a)) := ix_tsl (by decide) rfl hw
theorem ix_snd {j : Nat} {a b : List IV} {r : List (List IV)} (hw : b.length = 2) : indexAddrS 2 (.tsl j (a :: b :: r)) 1 = some (.iv (.cp b)) := ix_tsl (by decide) rfl hw
theorem ctl_step {b0 : Int} {n : Nat} (hb0 : 0 ≤ b0 ∧ b0 ≤ 1152921504606846976) (hVs : ValuesOK b0 n) (hLd : LaidOK b0 n) : CtlOK b0 (n + 1) := by
 intro e k0 k1 σ x S jm jf hx ho hb hB hM
 have hwe := Ex.w_eq e
 have hw2 := ho.2
 have hkl := Ex.ws_len e.ks
 have hlE := encEs_len e.ks
 rw [ctlM] at hx
 obtain ⟨y,hy,hx⟩ := Option.bind_eq_some_iff.1 hx
 obtain ⟨s1,s2,s3,s4⟩ := (shape n).values hy (fun x hx => ho.kid hx)
 have l1 := (mono n).values hy
 have hj : jm < S.length ∧ jf < S.length := ⟨lt_get hM.own,lt_get hM.row⟩
 by_cases h1 : e.n = 1
 ·rw [if_pos h1] at hx
  split at hx
  ·rename_i a b rr hat
   have l2 := (mono n).laid hx
   have hBy : Bd b0 y.2.2 := hB.le l2
   obtain ⟨js,ja,S1,c45,g1,g2,hd,hM1,hk1⟩ := hVs (g := e.g) hy (fun x hx => ho.kid hx) (by omega) hb hBy hM
   rw [hat] at c45 s1
   obtain ⟨a0,a1,rfl⟩ := s1 a (by simp)
   obtain ⟨d0,d1,rfl⟩ := s1 b (by simp)
   have i0 := ix_fst (j := ja) (a := [.int .i64 a0,.int .i64 a1]) (r := [.int .i64 d0,.int .i64 d1] :: rr) rfl
   have i1 := ix_snd (j := ja) (a := [.int .i64 a0,.int .i64 a1]) (b := [.int .i64 d0,.int .i64 d1]) (r := rr) rfl
   have c77 := call77 S1 [[.int .i64 a0,.int .i64 a1],[.int .i64 k0,.int .i64 k1],[.int .i64 d0,.int .i64 d1]]
   obtain ⟨S3,c23,hM3,hk3⟩ := hLd hx (SR.acc js _) (TmO.appl ..) s2 (by have := hBy.hi; omega) (Int.le_trans hb l1.nv) hB hM1
   obtain ⟨u0,u1,u2,u3,u4,u5,u6,v5,v6,hXT⟩ := (shape n).laid hx (TmO.appl ..) (fun s hs => s2 s (List.mem_reverse.1 hs))
   rw [hXT] at c23 ⊢
   rw [acc_ne ja (by simp)] at c45
   unfold applT at *
   refine ⟨S3,call_ret' K _ (fn := t50) rfl rfl ?_,hM3,hk1.trans hk3⟩
   rw [encE_eq]
   simp (config := { maxSteps := 4000000 }) (disch := omega) only [t50,go_sem,TM.undef,c45,i0,i1,c77,c23]
  ·cases hx
 ·rw [if_neg h1] at hx
  by_cases h0 : e.n = 0
  ·rw [if_pos h0] at hx
   split at hx
   ·rename_i a rr hat
    have l2 := (mono n).laid hx
    have l2' : Le y.2.2 x.2 := ((Le.var _).trans ((Le.var _).trans ((Le.push _ _).trans (Le.var _)))).trans l2
    have hBy : Bd b0 y.2.2 := hB.le l2'
    obtain ⟨js,ja,S1,c45,g1,g2,hd,hM1,hk1⟩ := hVs (g := e.g) hy (fun x hx => ho.kid hx) (by omega) hb hBy hM
    rw [hat] at c45 s1
    obtain ⟨a0,a1,rfl⟩ := s1 a (by simp)
    have i0 := ix_fst (j := ja) (a := [.int .i64 a0,.int .i64 a1]) (r := rr) rfl
    have hv3 : y.2.2.nv + 3 ≤ b0 + 1000000 := Int.le_trans (by have : y.2.2.nv + 1 + 1 + 1 ≤ x.2.nv := l2.nv; omega) hB.hi
    have hfs : y.2.2.fs.length < 1000000 := by have := l2.len; have := hB.fs; simp [Mk.var,Mk.push] at *; omega
    have c21 := call21 hM1
    have hM2 := hM1.var (by omega)
    have c21' := call21 hM2
    have hM3 := hM2.var (by show y.2.2.nv + 1 < _; omega)
    have kA : Keep [jm,jf] S1 (S1.set jm (mkB jf y.2.2.var)) := keep_var _
    have kB := kA.trans (keep_var (jm := jm) (jf := jf) (mkB jf y.2.2.var.var))
    have nI : ∀ i ∈ [jm,jf],i < S.length := fun i hi => by simp at hi; rcases hi with rfl | rfl <;> omega
    generalize hTB : (S1.set jm (mkB jf y.2.2.var)).set jm (mkB jf y.2.2.var.var) = TB at *
    have kU : Keep [] TB (TB ++ [zeroB]) := Keep.app _ _ _
    have hMU := hM3.keep kU (by simp) (by simp)
    have hzU := get_app1 TB zeroB
    have c25 := call25 (y.2.2.nv + 1)
    have c77 := call77 (TB ++ [zeroB]) [[.int .i64 k0,.int .i64 k1],[.int .i64 1,.int .i64 (y.2.2.nv + 1)]]
    have c20 := call20 hMU (.sl .full [[.int .i64 y.2.2.nv],[.int .i64 (y.2.2.nv + 1)]]) (.bool true) (.bool false) (.sl .nil []) (.int .i64 6) (.int .i64 0) (.int .i64 0) (.int .i64 0) (.int .i64 0) (.sl .full [[.int .i64 k0,.int .i64 k1],[.int .i64 1,.int .i64 (y.2.2.nv + 1)]]) (.sl .nil []) rfl
    obtain ⟨T4,c22,z4,z5,hM5,hk4,hk5⟩ := made_fn (f := [.sl .full [[.int .i64 y.2.2.nv],[.int .i64 (y.2.2.nv + 1)]],.bool true,.bool false,.sl .nil [],.int .i64 6,.int .i64 0,.int .i64 0,.int .i64 0,.int .i64 0,.sl .full [[.int .i64 k0,.int .i64 k1],[.int .i64 1,.int .i64 (y.2.2.nv + 1)]],.sl .nil []]) hMU hzU rfl rfl hfs (by show y.2.2.nv + 1 + 1 < _; omega)
    have gB := g1.keep kB nI
    have hlB : S.length ≤ TB.length := Nat.le_trans hk1.len kB.len
    obtain ⟨T6,js',ap,hM6,hkk⟩ := step_more (s := .tm (funT (y.2.2.nv + 1 + 1) y.2.2.fs.length (.sl .nil [])) (y.2.2.nv + 1 + 1)) hM5 ⟨hj.1,hj.2,hlB⟩ gB ((kU.mono (by simp)).trans hk5) (fun h => by have := lt_get (gB.tok h); omega) s2 (TmO.fun ..) (by have := hBy.hi; omega) hlB
    have hk6 : Keep [jm,jf] S (T4.set TB.length (madeB (y.2.2.nv + 1 + 1) y.2.2.fs.length)) := ⟨Nat.le_trans hlB ((kU.mono (by simp)).trans hk5).len,fun q B hq hb => hk5.get q B (by have := lt_get hb; simp at hq ⊢; omega) (kU.get q B (by simp) ((hk1.trans kB).get q B hq hb))⟩
    have c46 := call46f T6 [[.int .i64 a0,.int .i64 a1],[.int .i64 k0,.int .i64 k1],[.int .i64 1,.int .i64 (y.2.2.nv + 1 + 1)]]
    have c25' := call25 (y.2.2.nv + 1 + 1)
    have e2 : y.2.2.nv + 2 = y.2.2.nv + 1 + 1 := by omega
    rw [e2] at hx
    have hst : ∀ s ∈ (y.1 ++ [St.tm (funT (y.2.2.nv + 1 + 1) y.2.2.fs.length (.sl .nil [])) (y.2.2.nv + 1 + 1)]),SO s := fun s hs => by
     rcases List.mem_append.1 hs with hs | hs
     ·exact s2 s hs
     ·rw [List.mem_singleton] at hs; subst hs; exact TmO.fun ..
    obtain ⟨S7,c23,hM7,hk7⟩ := hLd hx (SR.acc js' _) (TmO.call ..) hst (by have := hBy.hi; simp; omega) (by have := l1.nv; show b0 ≤ y.2.2.nv + 1 + 1 + 1; omega) hB hM6
    obtain ⟨u0,u1,u2,u3,u4,u5,u6,v5,v6,hXT⟩ := (shape n).laid hx (TmO.call ..) (fun s hs => hst s (List.mem_reverse.1 hs))
    rw [hXT] at c23 ⊢
    rw [acc_ne ja (by simp)] at c45
    refine ⟨S7,call_ret' K _ (fn := t50) rfl rfl ?_,hM7,(hkk rfl hk6).trans hk7⟩
    rw [encE_eq]
    rw [show y.2.2.var.var.nv = y.2.2.nv + 1 + 1 from rfl,show y.2.2.var.var.fs = y.2.2.fs from rfl] at *
    rw [show y.2.2.var.nv = y.2.2.nv + 1 from rfl] at c21'
    rw [show encZ (.tm (funT (y.2.2.nv + 1 + 1) y.2.2.fs.length (.sl .nil [])) (y.2.2.nv + 1 + 1)) = madeS (y.2.2.nv + 1 + 1) y.2.2.fs.length from rfl] at ap
    unfold applT callT madeS madeB zeroB aV at *
    simp (config := { maxSteps := 4000000 }) (disch := omega) only [t50,go_sem,TM.undef,c45,i0,c21,c21',hTB,cpR_pure c25,c77,c20,c22,z4,z5,ap,cpR_pure c25',c46,c23]
   ·cases hx
  ·rw [if_neg h0] at hx
   split at hx
   ·rename_i a b rr hat
    have l2 := (mono n).laid hx
    have l2' : Le y.2.2 x.2 := ((Le.var _).trans ((Le.push _ _).trans (Le.var _))).trans l2
    have hBy : Bd b0 y.2.2 := hB.le l2'
    obtain ⟨js,ja,S1,c45,g1,g2,hd,hM1,hk1⟩ := hVs (g := e.g) hy (fun x hx => ho.kid hx) (by omega) hb hBy hM
    rw [hat] at c45 s1
    obtain ⟨a0,a1,rfl⟩ := s1 a (by simp)
    obtain ⟨d0,d1,rfl⟩ := s1 b (by simp)
    have i0 := ix_fst (j := ja) (a := [.int .i64 a0,.int .i64 a1]) (r := [.int .i64 d0,.int .i64 d1] :: rr) rfl
    have i1 := ix_snd (j := ja) (a := [.int .i64 a0,.int .i64 a1]) (b := [.int .i64 d0,.int .i64 d1]) (r := rr) rfl
    have hv3 : y.2.2.nv + 2 ≤ b0 + 1000000 := Int.le_trans (by have : y.2.2.nv + 1 + 1 ≤ x.2.nv := l2.nv; omega) hB.hi
    have hfs : y.2.2.fs.length < 1000000 := by have := l2.len; have := hB.fs; simp [Mk.var,Mk.push] at *; omega
    have c21 := call21 hM1
    have hM3 := hM1.var (by omega)
    have kB : Keep [jm,jf] S1 (S1.set jm (mkB jf y.2.2.var)) := keep_var _
    have nI : ∀ i ∈ [jm,jf],i < S.length := fun i hi => by simp at hi; rcases hi with rfl | rfl <;> omega
    generalize hTB : S1.set jm (mkB jf y.2.2.var) = TB at *
    have kU : Keep [] TB (TB ++ [zeroB]) := Keep.app _ _ _
    have hMU := hM3.keep kU (by simp) (by simp)
    have hzU := get_app1 TB zeroB
    have c25 := call25 y.2.2.nv
    have c77 := call77 (TB ++ [zeroB]) [[.int .i64 d0,.int .i64 d1],[.int .i64 k0,.int .i64 k1],[.int .i64 1,.int .i64 y.2.2.nv]]
    have c20 := call20 hMU (.sl .full [[.int .i64 y.2.2.nv]]) (.bool true) (.bool true) (.sl .nil []) (.int .i64 6) (.int .i64 0) (.int .i64 0) (.int .i64 0) (.int .i64 0) (.sl .full [[.int .i64 d0,.int .i64 d1],[.int .i64 k0,.int .i64 k1],[.int .i64 1,.int .i64 y.2.2.nv]]) (.sl .nil []) rfl
    obtain ⟨T4,c22,z4,z5,hM5,hk4,hk5⟩ := made_fn (f := [.sl .full [[.int .i64 y.2.2.nv]],.bool true,.bool true,.sl .nil [],.int .i64 6,.int .i64 0,.int .i64 0,.int .i64 0,.int .i64 0,.sl .full [[.int .i64 d0,.int .i64 d1],[.int .i64 k0,.int .i64 k1],[.int .i64 1,.int .i64 y.2.2.nv]],.sl .nil []]) hMU hzU rfl rfl hfs (by show y.2.2.nv + 1 < _; omega)
    have gB := g1.keep kB nI
    have hlB : S.length ≤ TB.length := Nat.le_trans hk1.len kB.len
    obtain ⟨T6,js',ap,hM6,hkk⟩ := step_more (s := .tm (funT (y.2.2.nv + 1) y.2.2.fs.length (.sl .nil [])) (y.2.2.nv + 1)) hM5 ⟨hj.1,hj.2,hlB⟩ gB ((kU.mono (by simp)).trans hk5) (fun h => by have := lt_get (gB.tok h); omega) s2 (TmO.fun ..) (by have := hBy.hi; omega) hlB
    have hk6 : Keep [jm,jf] S (T4.set TB.length (madeB (y.2.2.nv + 1) y.2.2.fs.length)) := ⟨Nat.le_trans hlB ((kU.mono (by simp)).trans hk5).len,fun q B hq hb => hk5.get q B (by have := lt_get hb; simp at hq ⊢; omega) (kU.get q B (by simp) ((hk1.trans kB).get q B hq hb))⟩
    have c46 := call46f T6 [[.int .i64 a0,.int .i64 a1],[.int .i64 1,.int .i64 (y.2.2.nv + 1)]]
    have c25' := call25 (y.2.2.nv + 1)
    have hst : ∀ s ∈ (y.1 ++ [St.tm (funT (y.2.2.nv + 1) y.2.2.fs.length (.sl .nil [])) (y.2.2.nv + 1)]),SO s := fun s hs => by
     rcases List.mem_append.1 hs with hs | hs
     ·exact s2 s hs
     ·rw [List.mem_singleton] at hs; subst hs; exact TmO.fun ..
    obtain ⟨S7,c23,hM7,hk7⟩ := hLd hx (SR.acc js' _) (TmO.call ..) hst (by have := hBy.hi; simp; omega) (by have := l1.nv; show b0 ≤ y.2.2.nv + 1 + 1; omega) hB hM6
    obtain ⟨u0,u1,u2,u3,u4,u5,u6,v5,v6,hXT⟩ := (shape n).laid hx (TmO.call ..) (fun s hs => hst s (List.mem_reverse.1 hs))
    rw [hXT] at c23 ⊢
    rw [acc_ne ja (by simp)] at c45
    refine ⟨S7,call_ret' K _ (fn := t50) rfl rfl ?_,hM7,(hkk rfl hk6).trans hk7⟩
    rw [encE_eq]
    rw [show y.2.2.var.nv = y.2.2.nv + 1 from rfl,show y.2.2.var.fs = y.2.2.fs from rfl] at *
    rw [show encZ (.tm (funT (y.2.2.nv + 1) y.2.2.fs.length (.sl .nil [])) (y.2.2.nv + 1)) = madeS (y.2.2.nv + 1) y.2.2.fs.length from rfl] at ap
    unfold applT callT madeS madeB zeroB aV at *
    simp (config := { maxSteps := 4000000 }) (disch := omega) only [t50,go_sem,TM.undef,c45,i0,i1,c21,hTB,cpR_pure c25,c77,c20,c22,z4,z5,ap,cpR_pure c25',c46,c23]
   ·cases hx
def s49A : TCode := (.region [⟨.mov (.loc 19),(some 12),none⟩])
def s49B : TCode := (.block 3
  (.seq (.draw [0,1,2,5,12] [(3,[0,1,5],[4,6]),(7,[0],[]),(8,[],[9,10,11]),(13,[],[14])] [⟨.load1 (.loc 3),none,none⟩,⟨.load1 (.loc 3),none,none⟩,⟨.load1 (.loc 3),none,none⟩,⟨.call false false 21 [(.reg 2)],none,none⟩,⟨.lit false [(.int .i64 0)] 1 [(0,(.reg 3))],none,none⟩,⟨.loadN 7 (.loc 11),none,none⟩,⟨.build [(.sl .nil []),(.bool false),(.bool false),(.sl .nil []),(.int .i64 0),(.int .i64 0),(.int .i64 0),(.int .i64 0),(.int .i64 0),(.sl .nil []),(.sl .nil [])] [(0,1,(.reg 4)),(1,1,(.cst (.bool true))),(2,1,(.cst (.bool true))),(4,7,(.reg 5))],none,none⟩,⟨.call false false 20 [(.reg 1),(.reg 6)],none,none⟩,⟨.call false false 22 [(.reg 0),(.reg 7)],none,none⟩,⟨.mov (.reg 8),none,none⟩,⟨.extract 0 (.reg 9),none,none⟩,⟨.extract 1 (.reg 9),none,none⟩,⟨.allocH 68 [(.int .i64 0),(.int .i64 0),(.int .i64 0),(.int .i64 0),(.int .i64 0),(.int .i64 0),(.sl .nil []),(.sl .nil []),(.int .i64 0),(.int .i64 0),(.sl .nil []),(.bool false),(.sl .nil []),(.int .i64 0)],(some 13),none⟩,⟨.store 14 (.reg 12) (.reg 10),none,none⟩,⟨.mov (.reg 11),(some 14),none⟩])
  (.seq (.draw [0,1,2,3,4,5] [(6,[],[7,8,9,10,11])] [⟨.load1 (.loc 3),none,none⟩,⟨.load1 (.loc 4),none,none⟩,⟨.mov (.loc 12),none,none⟩,⟨.mov (.loc 12),none,none⟩,⟨.bin .add (.reg 3) (.cst (.int .i64 64)),none,none⟩,⟨.slice (.sl 5) (.reg 1) (some (.reg 2)) (some (.reg 4)) none,none,none⟩,⟨.call false false 45 [(.reg 0),(.reg 5)],none,none⟩,⟨.mov (.reg 6),none,none⟩,⟨.extract 0 (.reg 7),none,none⟩,⟨.extract 1 (.reg 7),none,none⟩,⟨.mov (.reg 8),(some 15),none⟩,⟨.mov (.reg 9),none,none⟩])
  (.draw [0,1,2,3,5] [(4,[0],[]),(6,[0],[7]),(8,[0],[]),(9,[],[]),(10,[],[])] [⟨.load1 (.loc 3),none,none⟩,⟨.loadN 14 (.loc 13),none,none⟩,⟨.lit false [(.int .i64 0),(.int .i64 0),(.int .i64 0),(.int .i64 0),(.int .i64 0),(.int .i64 0),(.sl .nil []),(.sl .nil []),(.int .i64 0),(.int .i64 0),(.sl .nil []),(.bool false),(.sl .nil []),(.int .i64 0)] 1 [(0,(.reg 1))],none,none⟩,⟨.mov (.loc 15),none,none⟩,⟨.append false 14 176 67 (.reg 2) (.reg 3),none,none⟩,⟨.mov (.loc 14),none,none⟩,⟨.call true false 25 [(.reg 5)],none,none⟩,⟨.lit false [(.int .i64 0),(.int .i64 0)] 1 [(0,(.reg 6))],none,none⟩,⟨.call false false 46 [(.reg 7)],none,none⟩,⟨.call false false 23 [(.reg 0),(.reg 4),(.reg 8)],none,none⟩,⟨.store 7 (.loc 11) (.reg 9),none,none⟩]))))
theorem noLb_acc (i : Nat) (l : List (List IV)) : noLb (acc i l) = acc i l := by unfold acc; split <;> rfl
attribute [go_sem] noLb_acc
theorem sl_mid {t : Tag} {l : List Ex} (ht : TagOk t l) {a b : Nat} (hab : a ≤ b) (hb : b ≤ l.length) : ∃ t',∀ S : Store,sliceOp S (.sl 5) (.iv (.sl t (encEs l))) (some (a : Int)) (some (b : Int)) none = some (.iv (.sl t' (encEs ((l.drop a).take (b - a))))) := by
 have hE5 : ∀ y ∈ encEs l,y.length = 5 := fun y hy => by rw [encEs_map] at hy; obtain ⟨e,_,rfl⟩ := List.mem_map.1 hy; exact encE_len e
 refine ⟨cutTag t (encEs l).length (b : Int).toNat,fun S => ?_⟩
 have h1 : (a : Int) ≤ b := by omega
 have h2 : (b : Int) ≤ (encEs l).length := by rw [encEs_len]; omega
 rw [slice_ok S (a := a) (b := b) (fun e => by rw [ht e]; rfl) (fits_all hE5) ⟨by omega,h1,h2⟩]
 rw [Int.toNat_natCast,Int.toNat_natCast,encEs_map,encEs_map,List.map_take,List.map_drop]
theorem SR.lp {r : TV} {l : List (List IV)} (h : SR r l) : isLp r = false := by
 rcases h with ⟨_,rfl⟩ | ⟨j,rfl⟩ | rfl <;> rfl
theorem ap_steps {S : Store} {j : Nat} {s : List IV} {ys : List (List IV)} (hs : Elems 14 [s]) (hy : Elems 14 ys) (hl : ys.length ≤ 2000000) : ∃ r L,appendOp false 14 176 67 S (.iv (.sl .full [s])) (acc j ys) = some (r,S ++ L) ∧ SR r (s :: ys) := by
 by_cases h0 : ys = []
 ·subst h0
  exact ⟨_,[],by rw [acc_nil,ap_nil rfl (IsEl.sl ..),List.append_nil],.inr (.inr rfl)⟩
 ·have := ap_new (S := S) (w := 14) (b := 176) (el := 67) (t := .full) (l := [s]) (by decide) ((SR.acc j ys).el S) hy hs h0 (roomy_ok (by simp; omega))
  exact ⟨_,_,this,.inr (.inl ⟨_,rfl⟩)⟩
def e49 (jm a b o c : Nat) (x1 x2 x7 x8 x9 x10 x16 : TV) : Env := [.ptr jm 64 0,x1,x2,.ptr a 62 0,.ptr b 24 0,.hole,.hole,x7,x8,x9,x10,.ptr o 46 0,.tup [],.tup [],.tup [],.tup [],x16,.fn 96 [] [.ptr c 23 0],.tup [],.tup []]
structure ZS (S : Store) (a b o c y jm jf : Nat) (g : Tag) (l : List Ex) (e : Env) (st : TV) (t : List IV) (σ : Mk) : Prop where
 fa : S[a]? = some (.cells 62 false [.ptr jm 64 0])
 fb : S[b]? = some (.cells 24 false [.iv (.sl g (encEs l))])
 fo : S[o]? = some (.cells 46 false (t.map .iv))
 fc : S[c]? = some (.cells 23 false [st])
 fy : S[y]? = some (.lp .ready none e [18,19] s49A s49B)
 ms : MkS S jm jf σ
 lt : jm < a ∧ jf < a ∧ a < b ∧ b < o ∧ o < c ∧ c < y
theorem yld_part {b0 : Int} {m : Nat} (hb0 : 0 ≤ b0 ∧ b0 ≤ 1152921504606846976) (hVs : ValuesOK b0 m) (hLd : LaidOK b0 m) {S : Store} {a b o c y jm jf : Nat} {g : Tag} {l : List Ex} {x1 x2 x7 x8 x9 x10 x16 st : TV} {t : List IV} {σ : Mk} {v : List St × List (List IV) × Mk} {w : List IV × Mk} {i : Nat}
  (h : ZS S a b o c y jm jf g l (e49 jm a b o c x1 x2 x7 x8 x9 x10 x16) st t σ) (ht : TmO t) (hl : ∀ e ∈ l,XO e) (htg : TagOk g l) (hll : l.length ≤ 1048576) (hi : 64 * (i + 1) ≤ l.length)
  (hv : valuesM m ((l.drop (64 * i)).take 64) (σ.var.push (fnF .full [σ.nv] true true t)).var = some v)
  (hw : laidM m (St.tm (funT (σ.nv + 1) σ.fs.length (.sl .nil [])) (σ.nv + 1) :: v.1).reverse (callT .full [aV (σ.nv + 1)]) v.2.2 = some w) (hb : b0 ≤ σ.nv) (hB : Bd b0 w.2) (ii : Int) :
  ∃ S',(lim K).yld y [.iv (.int .i64 ii),.iv (.int .i64 (64 * i : Nat))] S = .ret (.iv (.bool true),S') ∧ ZS S' a b o c y jm jf g l (e49 jm a b o c x1 x2 x7 x8 x9 x10 x16) st w.1 w.2 ∧ Keep [jm,jf,o,y] S S' := by
 obtain ⟨a0,a1,a2,a3,a4,a5,a6,b5,b6,rfl⟩ := ht
 have hlt := h.lt
 have hy := h.fy
 have hly := lt_get hy
 generalize hT : S.set y (.lp .busy none (e49 jm a b o c x1 x2 x7 x8 x9 x10 x16) [18,19] s49A s49B) = T
 have kT : Keep [y] S T := by rw [← hT]; exact Keep.set _ (by simp) _
 have hTl : T.length = S.length := by rw [← hT]; simp
 have ty : T[y]? = some (.lp .busy none (e49 jm a b o c x1 x2 x7 x8 x9 x10 x16) [18,19] s49A s49B) := by rw [← hT]; exact get_setS hly _
 have l1 := (mono m).values hv
 have l2 := (mono m).laid hw
 have hvl : σ.nv + 1 + 1 ≤ v.2.2.nv := l1.nv
 have hBv : Bd b0 v.2.2 := hB.le l2
 have hnv : σ.nv + 2 ≤ b0 + 1000000 := by have := hBv.hi; omega
 have hfs : σ.fs.length < 1000000 := by have h1 := l1.len; have h2 := hBv.fs; simp [Mk.var,Mk.push] at h1; omega
 -- the place of the step
 have kU : Keep [] T (T ++ [zeroB]) := Keep.app _ _ _
 have hM0 := (h.ms.keep kT (by simp; omega) (by simp; omega)).keep kU (by simp) (by simp)
 have z0 := get_app1 T zeroB
 have c21 := call21 hM0
 have hM1 := hM0.var (by omega)
 have kV : Keep [jm,jf] (T ++ [zeroB]) ((T ++ [zeroB]).set jm (mkB jf σ.var)) := keep_var _
 have z1 := kV.get T.length zeroB (by simp; omega) z0
 have k1 := (kU.mono (J := [jm,jf]) (by simp)).trans kV
 generalize hU1 : (T ++ [zeroB]).set jm (mkB jf σ.var) = U1 at *
 have c20 := call20 hM1 (.sl .full [[.int .i64 σ.nv]]) (.bool true) (.bool true) (.sl .nil []) (.int .i64 a0) (.int .i64 a1) (.int .i64 a2) (.int .i64 a3) (.int .i64 a4) (.sl a5 b5) (.sl a6 b6) rfl
 obtain ⟨T4,c22,z4,z5,hM5,hk4,hk5⟩ := made_fn (f := [.sl .full [[.int .i64 σ.nv]],.bool true,.bool true,.sl .nil [],.int .i64 a0,.int .i64 a1,.int .i64 a2,.int .i64 a3,.int .i64 a4,.sl a5 b5,.sl a6 b6]) hM1 z1 rfl rfl hfs (by show σ.nv + 1 < _; omega)
 rw [show σ.var.fs = σ.fs from rfl] at c22 z5 hM5 hk5 c20
 rw [show σ.var.nv = σ.nv + 1 from rfl] at c22 z5 hM5 hk5
 have k5 : Keep [jm,jf,T.length] T (T4.set T.length (madeB (σ.nv + 1) σ.fs.length)) := (k1.mono (by simp)).trans hk5
 generalize hT5 : T4.set T.length (madeB (σ.nv + 1) σ.fs.length) = T5 at *
 have ta := kT.get _ _ (by simp; omega) h.fa
 have tb := kT.get _ _ (by simp; omega) h.fb
 have to := kT.get _ _ (by simp; omega) h.fo
 have tc := kT.get _ _ (by simp; omega) h.fc
 have a5' := k5.get _ _ (by simp; omega) ta
 have b5' := k5.get _ _ (by simp; omega) tb
 -- the values
 obtain ⟨t',sl⟩ := sl_mid htg (a := 64 * i) (b := 64 * i + 64) (by omega) (by omega)
 rw [show 64 * i + 64 - 64 * i = 64 by omega,show ((64 * i + 64 : Nat) : Int) = ((64 * i : Nat) : Int) + 64 by omega] at sl
 have hXl : ∀ e ∈ (l.drop (64 * i)).take 64,XO e := fun e he => hl e (List.mem_of_mem_drop (List.mem_of_mem_take he))
 obtain ⟨jp,ja,T6,c45,g1,g2,hd,hM6,hk6⟩ := hVs (g := t') hv hXl (by simp; omega) (by show b0 ≤ σ.nv + 1 + 1; omega) hBv hM5
 have a6' := hk6.get _ _ (by simp; omega) a5'
 have z6 := hk6.get T.length _ (by simp; omega) z5
 obtain ⟨s1,s2,s3,s4⟩ := (shape m).values hv hXl
 obtain ⟨r,L,ap,hr⟩ := ap_steps (S := T6) (j := jp) (s := madeS (σ.nv + 1) σ.fs.length) (by intro y hy; simp at hy; subst hy; exact ⟨rfl,rfl⟩) (encZs_el s2) (by rw [encZs_len]; have := hBv.hi; have : (v.1.length : Int) + (σ.nv + 1 + 1) ≤ v.2.2.nv := s3; omega)
 have kL : Keep [] T6 (T6 ++ L) := Keep.app _ _ _
 have hM7 := hM6.keep kL (by simp) (by simp)
 have c25 := call25 (σ.nv + 1)
 have c46 := call46f (T6 ++ L) [[.int .i64 1,.int .i64 (σ.nv + 1)]]
 have hst : ∀ s ∈ (St.tm (funT (σ.nv + 1) σ.fs.length (.sl .nil [])) (σ.nv + 1) :: v.1),SO s := fun s hs => by
  rcases List.mem_cons.1 hs with rfl | hs
  ·exact TmO.fun ..
  ·exact s2 s hs
 obtain ⟨T8,c23,hM8,hk8⟩ := hLd hw (show SR r (encZs (St.tm (funT (σ.nv + 1) σ.fs.length (.sl .nil [])) (σ.nv + 1) :: v.1)) from hr) (TmO.call ..) hst (by have := hBv.hi; have : (v.1.length : Int) + (σ.nv + 1 + 1) ≤ v.2.2.nv := s3; simp; omega) (by omega) hB hM7
 obtain ⟨u0,u1,u2,u3,u4,u5,u6,v5,v6,hXT⟩ := (shape m).laid hw (TmO.call ..) (fun s hs => hst s (List.mem_reverse.1 hs))
 have kall : Keep [jm,jf,T.length] T T8 := ((k5.trans (hk6.mono (by simp))).trans (kL.mono (by simp))).trans (hk8.mono (by simp))
 have o8 := kall.get _ _ (by simp; omega) to
 have yy8 := kall.get _ _ (by simp; omega) ty
 have o5' := k5.get _ _ (by simp; omega) to
 have b6' := hk6.get _ _ (by simp; omega) b5'
 have z7 := kL.get T.length _ (by simp) z6
 have a7 := kL.get _ _ (by simp) a6'
 have to4 := k1.get _ _ (by simp; omega) to
 have ta4 := k1.get _ _ (by simp; omega) ta
 have ta9 := fun B X => (keep_push (S := U1) (jm := jm) (jf := jf) B X).get a _ (by simp; omega) ta4
 rw [hXT] at c23 ⊢
 have ko : Keep [o] T8 (T8.set o (.cells 46 false [.iv (.int .i64 u0),.iv (.int .i64 u1),.iv (.int .i64 u2),.iv (.int .i64 u3),.iv (.int .i64 u4),.iv (.sl u5 v5),.iv (.sl u6 v6)])) := Keep.set _ (by simp) _
 have y6 := ko.get _ _ (by simp; omega) yy8
 have hi64 : (0 : Int) ≤ (64 * i : Nat) ∧ ((64 * i : Nat) : Int) ≤ 1048576 := by omega
 generalize h64 : ((64 * i : Nat) : Int) = i64' at *
 refine ⟨(T8.set o (.cells 46 false [.iv (.int .i64 u0),.iv (.int .i64 u1),.iv (.int .i64 u2),.iv (.int .i64 u3),.iv (.int .i64 u4),.iv (.sl u5 v5),.iv (.sl u6 v6)])).set y (.lp .ready none (e49 jm a b o c x1 x2 x7 x8 x9 x10 x16) [18,19] s49A s49B),?_,?_,?_⟩
 ·refine yld_true (env2 := [.ptr jm 64 0,x1,x2,.ptr a 62 0,.ptr b 24 0,.hole,.hole,x7,x8,x9,x10,.ptr o 46 0,.iv (.int .i64 i64'),.tup [],.tup [],.tup [],x16,.fn 96 [] [.ptr c 23 0],.iv (.int .i64 ii),.iv (.int .i64 i64')]) (env3 := [.ptr jm 64 0,x1,x2,.ptr a 62 0,.ptr b 24 0,.hole,.hole,x7,x8,x9,x10,.ptr o 46 0,.iv (.int .i64 i64'),.ptr T.length 68 0,.iv (.int .i64 (σ.nv + 1)),acc jp (encZs v.1),x16,.fn 96 [] [.ptr c 23 0],.iv (.int .i64 ii),.iv (.int .i64 i64')]) (S1 := S) (S2 := T8.set o (.cells 46 false [.iv (.int .i64 u0),.iv (.int .i64 u1),.iv (.int .i64 u2),.iv (.int .i64 u3),.iv (.int .i64 u4),.iv (.sl u5 v5),.iv (.sl u6 v6)])) hy rfl ?_ hy ?_ y6
  ·simp (config := { maxSteps := 4000000 }) (disch := omega) only [s49A,e49,go_sem]
  ·rw [hT]
   unfold madeS madeB zeroB aV callT at *
   simp (config := { maxSteps := 4000000 }) (disch := omega) only [s49B,go_sem,wrap_i64,hr.lp,ta,to,ta9,ta4,to4,o5',a6',b6',a7,z7,c21,hU1,c20,c22,z4,hT5,a5',b5',sl,c45,a6',z6,ap,cpR_pure c25,c46,c23,o8]
 ·refine ⟨?_,?_,?_,?_,get_setS (lt_get y6) _,?_,h.lt⟩
  ·rw [get_setN (by omega)]; exact ko.get _ _ (by simp; omega) (kall.get _ _ (by simp; omega) ta)
  ·rw [get_setN (by omega)]; exact ko.get _ _ (by simp; omega) (kall.get _ _ (by simp; omega) tb)
  ·rw [get_setN (by omega),get_setS (lt_get o8)]; rfl
  ·rw [get_setN (by omega)]; exact ko.get _ _ (by simp; omega) (kall.get _ _ (by simp; omega) tc)
  ·exact (hM8.keep ko (by simp; omega) (by simp; omega)).keep (Keep.set (I := [y]) _ (by simp) _) (by simp; omega) (by simp; omega)
 ·refine ⟨?_,fun q B hq hb => ?_⟩
  ·have := kall.len; simp; omega
  ·simp at hq
   have hlq := lt_get hb
   have u1 := kT.get q B (by simp; omega) hb
   have u2 := kall.get q B (by simp; omega) u1
   exact (Keep.set (I := [y]) _ (by simp) _).get q B (by simp; omega) (ko.get q B (by simp; omega) u2)
def stl (q : Nat) : List (List IV) := (List.range q).map fun i => [.int .i64 ((64 * i : Nat) : Int)]
theorem stl_len (q : Nat) : (stl q).length = q := by unfold stl; simp
theorem stl_succ (q : Nat) : stl (q + 1) = stl q ++ [[.int .i64 ((64 * q : Nat) : Int)]] := by unfold stl; rw [List.range_succ,List.map_append]; rfl
theorem stl_el (q : Nat) : Elems 1 (stl q) := by
 intro y hy
 unfold stl at hy
 obtain ⟨i,_,rfl⟩ := List.mem_map.1 hy
 exact ⟨rfl,rfl⟩
theorem stl_ix (j : Nat) {q k : Nat} (h : k < q) : indexAddrS 1 (acc j (stl q)) (k : Int) = some (.iv (.cp [.int .i64 ((64 * k : Nat) : Int)])) := by
 have hg : (stl q)[(k : Int).toNat]? = some [.int .i64 ((64 * k : Nat) : Int)] := by
  rw [Int.toNat_natCast]
  unfold stl
  rw [List.getElem?_map,List.getElem?_range h]
  rfl
 rw [acc_ne j (by intro e; have := congrArg List.length e; rw [stl_len] at this; simp at this; omega)]
 exact ix_tsl (by omega) hg rfl
theorem loop49 {n0 : Nat} {L : Nat} (hL : 1 ≤ L ∧ L ≤ 1048576) {b : Nat} {g : Tag} {l : List Ex} (hl : l.length = L) (x0 x1 x2 x3 x5 x6 x9 x10 x11 x12 x13 x14 x15 x17 x18 x19 : TV) : ∀ (k q j : Nat) (S : Store) (x16 : TV),q + k = (L - 1) / 64 → Gl n0 S 1 3 (stl q) j → S[b]? = some (.cells 24 false [.iv (.sl g (encEs l))]) → b < n0 → n0 ≤ S.length →
  ∃ (j' : Nat) (S' : Store),lp' (lim K) t49L0 [x0,x1,x2,x3,.ptr b 24 0,x5,x6,acc j (stl q),.iv (.int .i64 ((64 * q : Nat) : Int)),x9,x10,x11,x12,x13,x14,x15,x16,x17,x18,x19] S
   = .ret (.exit 0,[x0,x1,x2,x3,.ptr b 24 0,x5,x6,acc j' (stl ((L - 1) / 64)),.iv (.int .i64 ((64 * ((L - 1) / 64) : Nat) : Int)),x9,x10,x11,x12,x13,x14,x15,.iv (.bool false),x17,x18,x19],S') ∧ Gl n0 S' 1 3 (stl ((L - 1) / 64)) j' ∧ (∀ {S0 : Store},S0.length = n0 → Keep [] S0 S → Keep [] S0 S') ∧ S.length ≤ S'.length
 | 0,q,j,S,x16,h,hg,hb,hbn,hn => by
  obtain rfl : q = (L - 1) / 64 := by omega
  have hle := encEs_len l
  generalize hq : (L - 1) / 64 = q at *
  refine ⟨j,S,loop_at K _ _ t49L0.eq_1 ?_,hg,fun _ k => k,Nat.le_refl _⟩
  generalize hw : ((64 * q : Nat) : Int) = w
  have hc : ¬ ((64 : Int) < L - w) := by omega
  simp (config := { maxSteps := 4000000 }) (disch := omega) only [go_sem,hb,hle,hl,wrap_i64]
 | k + 1,q,j,S,x16,h,hg,hb,hbn,hn => by
  have hle := encEs_len l
  obtain ⟨j1,S1,ha,gr⟩ := hg.more (b := 8) (IsEl.sl S .full [[.int .i64 ((64 * q : Nat) : Int)]]) (by intro y hy; simp at hy; subst hy; exact ⟨rfl,rfl⟩) (stl_el q) (roomy_ok (by rw [stl_len]; simp; omega)) hn
  have hg1 := gr.gl
  rw [← stl_succ] at ha hg1
  have hb1 := gr.old b _ hb (fun h0 => by have := hg.new h0; omega)
  obtain ⟨j',S',ih,hg',hk',hl'⟩ := loop49 hL hl x0 x1 x2 x3 x5 x6 x9 x10 x11 x12 x13 x14 x15 x17 x18 x19 k (q + 1) j1 S1 (.iv (.bool true)) (by omega) hg1 hb1 hbn (Nat.le_trans hn gr.len)
  refine ⟨j',S',loop_at K _ _ t49L0.eq_1 ?_,hg',fun h0 k0 => hk' h0 (gr.keep hg k0 (by omega)),Nat.le_trans gr.len hl'⟩
  have e1 : ((64 * (q + 1) : Nat) : Int) = ((64 * q : Nat) : Int) + 64 := by omega
  rw [e1] at ih
  have hq : 64 * q + 64 < L := by omega
  generalize hw : ((64 * q : Nat) : Int) = w at *
  have hc : ((64 : Int) < L - w) := by omega
  simp (config := { maxSteps := 4000000 }) (disch := omega) only [go_sem,hb,hle,hl,ha,wrap_i64]
  exact congrArg er ih
theorem loop96 {b0 : Int} {N : Nat} (hb0 : 0 ≤ b0 ∧ b0 ≤ 1152921504606846976) (hVs : ∀ m,m ≤ N → ValuesOK b0 m) (hLd : ∀ m,m ≤ N → LaidOK b0 m) {a b o c y jm jf : Nat} {g : Tag} {l : List Ex} {x1 x2 x7 x8 x9 x10 x16 : TV} {j q : Nat} (hl : ∀ e ∈ l,XO e) (htg : TagOk g l) (hll : l.length ≤ 1048576) (hq : 64 * q ≤ l.length) : ∀ (k f : Nat) (t : List IV) (σ : Mk) (x : List IV × Mk) (S : Store) (x3 x4 : TV),k ≤ q → f ≤ N + 1 → partsM f k l t σ = some x → TmO t → b0 ≤ σ.nv → Bd b0 x.2 → ZS S a b o c y jm jf g l (e49 jm a b o c x1 x2 x7 x8 x9 x10 x16) (acc j (stl q)) t σ →
  ∃ (S' : Store) (y3 y4 : TV),lp' (lim K) t96L0 [.yld y,.ptr c 23 0,.iv (.int .i64 ((k : Int) - 1)),x3,x4] S = .ret (.exit 0,[.yld y,.ptr c 23 0,.iv (.int .i64 (-1)),y3,y4],S') ∧ ZS S' a b o c y jm jf g l (e49 jm a b o c x1 x2 x7 x8 x9 x10 x16) (acc j (stl q)) x.1 x.2 ∧ Keep [jm,jf,o,y] S S'
 | 0,f,t,σ,x,S,x3,x4,hk,hf,hx,ht,hb,hB,hY => by
  cases f with
  | zero => simp [partsM] at hx
  | succ f =>
   rw [partsM] at hx
   cases hx
   refine ⟨S,.iv (.bool false),x4,loop_at K _ _ t96L0.eq_1 ?_,hY,Keep.refl _ _⟩
   rw [show ((0 : Nat) : Int) - 1 = -1 from rfl]
   simp (config := { maxSteps := 4000000 }) (disch := omega) only [go_sem]
 | k + 1,f,t,σ,x,S,x3,x4,hk,hf,hx,ht,hb,hB,hY => by
  have hix := stl_ix j (show k < q by omega)
  have hc := hY.fc
  rw [show (((k + 1 : Nat) : Int) - 1) = (k : Int) by omega]
  cases f with
  | zero => simp [partsM] at hx
  | succ f =>
   rw [partsM] at hx
   obtain ⟨v,hv,hx⟩ := Option.bind_eq_some_iff.1 hx
   obtain ⟨w,hw,hx⟩ := Option.bind_eq_some_iff.1 hx
   have l1 := (mono f).values hv
   have l2 := (mono f).laid hw
   have l3 := (mono f).parts hx
   have hvn : σ.nv + 1 + 1 ≤ v.2.2.nv := l1.nv
   have hwn := l2.nv
   obtain ⟨S1,y1,hY1,k1⟩ := yld_part hb0 (hVs f (by omega)) (hLd f (by omega)) hY ht hl htg hll (by omega) hv hw hb (hB.le l3) (k : Int)
   obtain ⟨S2,z3,z4,ih,hY2,k2⟩ := loop96 hb0 hVs hLd hl htg hll hq k f w.1 w.2 x S1 (.iv (.bool true)) (.iv (.bool false)) (by omega) (by omega) hx ((shape f).laid hw (TmO.call ..) (fun s hs => by
    have s2 := ((shape f).values hv (fun e he => hl e (List.mem_of_mem_drop (List.mem_of_mem_take he)))).2.1
    rcases List.mem_cons.1 (List.mem_reverse.1 hs) with rfl | hs
    ·exact TmO.fun ..
    ·exact s2 s hs)) (by omega) hB hY1
   refine ⟨S2,z3,z4,loop_at K _ _ t96L0.eq_1 ?_,hY2,k1.trans k2⟩
   generalize hw64 : ((64 * k : Nat) : Int) = w64 at *
   simp (config := { maxSteps := 4000000 }) (disch := omega) only [go_sem,hc,hix,y1,er_ret,wrap_i64]
   exact congrArg er ih
theorem getp_ex {S : Store} {g : Tag} {l : List Ex} {z : Ex} (hz : l.getLast? = some z) : indexAddrS 5 (.iv (.sl g (encEs l))) ((l.length : Int) - 1) = some (.iv (.cp (encE z))) := by
 have hne : l ≠ [] := by rintro rfl; simp at hz
 have hp : 0 < l.length := List.length_pos_iff.2 hne
 have hg : (encEs l)[((l.length : Int) - 1).toNat]? = some (encE z) := by
  rw [show ((l.length : Int) - 1).toNat = l.length - 1 by omega,encEs_map,List.getElem?_map,← List.getLast?_eq_getElem?,hz]
  rfl
 exact ix_ok (by omega) hg (encE_len z)
theorem call76 (j : Nat) (q : Nat) (S : Store) : (lim K).call 76 [acc j (stl q)] S = .ret (.fn 96 [] [.ptr S.length 23 0],S ++ [.cells 23 false [acc j (stl q)]]) := by
 refine call_ret' K _ (fn := t76) rfl rfl ?_
 by_cases h : stl q = []
 ·rw [h,acc_nil]
  simp (config := { maxSteps := 4000000 }) (disch := omega) only [t76,go_sem,TM.undef]
 ·rw [acc_ne _ h]
  simp (config := { maxSteps := 4000000 }) (disch := omega) only [t76,go_sem,TM.undef]
theorem get_cp5 (env : Env) (S : Store) (a b c d e : IV) : getCells env S (.iv (.cp [a,b,c,d,e])) 5 = some [.iv a,.iv b,.iv c,.iv d,.iv e] := by simp [getCells,sub]
attribute [go_sem] get_cp5
theorem seq_step {b0 : Int} {N : Nat} (hb0 : 0 ≤ b0 ∧ b0 ≤ 1152921504606846976) (hC : CodeOK b0 N) (hVs : ∀ m,m ≤ N → ValuesOK b0 m) (hLd : ∀ m,m ≤ N → LaidOK b0 m) : SeqOK b0 (N + 1) := by
 intro l g k0 k1 σ x S jm jf hx ho htg hlen hb hB hM
 rw [seqM] at hx
 split at hx
 ·cases hx
 rename_i z hz
 obtain ⟨v,hv,hx⟩ := Option.bind_eq_some_iff.1 hx
 obtain ⟨u,hu,hx⟩ := Option.bind_eq_some_iff.1 hx
 obtain ⟨w,hw,hx⟩ := Option.bind_eq_some_iff.1 hx
 have hne : l ≠ [] := by rintro rfl; simp at hz
 have hp : 0 < l.length := List.length_pos_iff.2 hne
 have hzm : z ∈ l := List.mem_of_getLast? hz
 generalize hq : (l.length - 1) / 64 = q at *
 have hq1 : 64 * q ≤ l.length - 1 := by omega
 have l1 := (mono N).values hv
 have l2 := (mono N).code hu
 have l3 := (mono N).laid hw
 have l4 := (mono N).parts hx
 have hBw : Bd b0 w.2 := hB.le l4
 have hBu : Bd b0 u.2 := hBw.le l3
 have hBv : Bd b0 v.2.2 := hBu.le l2
 have n1 := l1.nv
 have n2 := l2.nv
 have n3 := l3.nv
 have hj : jm < S.length ∧ jf < S.length := ⟨lt_get hM.own,lt_get hM.row⟩
 have hle := encEs_len l
 -- the two boxes
 generalize hS2 : S ++ [Block.cells 62 false [TV.ptr jm 64 0]] ++ [Block.cells 24 false [TV.iv (IV.sl g (encEs l))]] = S2
 have hl2 : S2.length = S.length + 2 := by rw [← hS2]; simp
 have k2 : Keep [] S S2 := by rw [← hS2]; exact (Keep.app _ _ _).trans (Keep.app _ _ _)
 have a2 : S2[S.length]? = some (Block.cells 62 false [TV.ptr jm 64 0]) := by rw [← hS2]; simp
 have b2 : S2[S.length + 1]? = some (Block.cells 24 false [TV.iv (IV.sl g (encEs l))]) := by rw [← hS2]; simp
 have hM2 := hM.keep k2 (by simp) (by simp)
 obtain ⟨j,S3,lp1,hg3,hk3,hl3⟩ := loop49 (n0 := S2.length) (L := l.length) (by omega) (b := S.length + 1) (g := g) rfl (.ptr jm 64 0) (.iv (.sl g (encEs l))) (.iv (.agg [.int .i64 k0,.int .i64 k1])) (.ptr S.length 62 0) (.lb [.iv (.int .i64 k0),.iv (.int .i64 k1)]) (.lb [.iv (.int .i64 0),.iv (.int .i64 0),.iv (.int .i64 0),.iv (.int .i64 0),.iv (.int .i64 0),.iv (.sl .nil []),.iv (.sl .nil [])]) (.tup []) (.tup []) (.tup []) (.tup []) (.tup []) (.tup []) (.tup []) (.tup []) (.tup []) (.tup []) q 0 0 S2 (.tup []) (by omega) (Gl.nil ..) b2 (by omega) (by omega)
 rw [hq] at lp1 hg3
 rw [show stl 0 = [] from rfl,acc_nil,show ((64 * 0 : Nat) : Int) = 0 from rfl,show ((64 * q : Nat) : Int) = 64 * (q : Int) by omega] at lp1
 have k3 : Keep [] S2 S3 := hk3 rfl (Keep.refl _ _)
 have a3 := k3.get _ _ (by simp) a2
 have b3 := k3.get _ _ (by simp) b2
 have hM3 := hM2.keep k3 (by simp) (by simp)
 -- the last part's values
 obtain ⟨t',sl⟩ := sl_mid htg (a := 64 * q) (b := l.length - 1) (by omega) (by omega)
 rw [show ((64 * q : Nat) : Int) = 64 * (q : Int) by omega,show ((l.length - 1 : Nat) : Int) = (l.length : Int) - 1 by omega] at sl
 rw [List.drop_take] at hv
 have hXl : ∀ e ∈ (l.drop (64 * q)).take (l.length - 1 - 64 * q),XO e := fun e he => ho e (List.mem_of_mem_drop (List.mem_of_mem_take he))
 obtain ⟨jp,ja,S4,c45,g1,g2,hd,hM4,k4⟩ := hVs N (Nat.le_refl _) (g := t') hv hXl (by simp; omega) hb hBv hM3
 obtain ⟨s1,s2,s3,s4⟩ := (shape N).values hv hXl
 have a4 := k4.get _ _ (by simp; omega) a3
 have b4 := k4.get _ _ (by simp; omega) b3
 -- the last one's code
 have ix := getp_ex (S := S4) (g := g) hz
 generalize hS5 : S4 ++ [Block.cells 46 false [.iv (.int .i64 0),.iv (.int .i64 0),.iv (.int .i64 0),.iv (.int .i64 0),.iv (.int .i64 0),.iv (.sl .nil []),.iv (.sl .nil [])]] = S5
 have k5 : Keep [] S4 S5 := by rw [← hS5]; exact Keep.app _ _ _
 have o5 : S5[S4.length]? = some (Block.cells 46 false [.iv (.int .i64 0),.iv (.int .i64 0),.iv (.int .i64 0),.iv (.int .i64 0),.iv (.int .i64 0),.iv (.sl .nil []),.iv (.sl .nil [])]) := by rw [← hS5]; simp
 have a5 := k5.get _ _ (by simp) a4
 have b5 := k5.get _ _ (by simp) b4
 obtain ⟨S6,c24,hM6,k6⟩ := hC hu (ho z hzm) (by omega) hBu (hM4.keep k5 (by simp) (by simp))
 have tu := (shape N).code hu (ho z hzm)
 obtain ⟨S7,c23,hM7,k7⟩ := hLd N (Nat.le_refl _) hw (SR.acc jp _) tu s2 (by have := hBv.hi; omega) (by omega) hBw hM6
 have tw := (shape N).laid hw tu (fun s hs => s2 s (List.mem_reverse.1 hs))
 have k57 := k6.trans k7
 have hS4l : S.length + 2 ≤ S4.length := by have := k4.len; omega
 have o7 := k57.get _ _ (by simp; omega) o5
 have a7 := k57.get _ _ (by simp; omega) a5
 have b7 := k57.get _ _ (by simp; omega) b5
 have a6 := k6.get _ _ (by simp; omega) a5
 have b6 := k6.get _ _ (by simp; omega) b5
 obtain ⟨w0,w1,w2,w3,w4,w5,w6,u5,u6,hwe⟩ := tw
 generalize hS8 : S7.set S4.length (Block.cells 46 false [.iv (.int .i64 w0),.iv (.int .i64 w1),.iv (.int .i64 w2),.iv (.int .i64 w3),.iv (.int .i64 w4),.iv (.sl w5 u5),.iv (.sl w6 u6)]) = S8
 have k8 : Keep [S4.length] S7 S8 := by rw [← hS8]; exact Keep.set _ (by simp) _
 have o8 : S8[S4.length]? = some (Block.cells 46 false [.iv (.int .i64 w0),.iv (.int .i64 w1),.iv (.int .i64 w2),.iv (.int .i64 w3),.iv (.int .i64 w4),.iv (.sl w5 u5),.iv (.sl w6 u6)]) := by rw [← hS8]; exact get_setS (lt_get o7) _
 have c76 := call76 j q S8
 generalize he : e49 jm S.length (S.length + 1) S4.length S8.length (.iv (.sl g (encEs l))) (.iv (.agg [.int .i64 k0,.int .i64 k1])) (acc j (stl q)) (.iv (.int .i64 (64 * (q : Int)))) (.iv (.int .i64 (64 * (q : Int)))) (acc jp (encZs v.1)) (.iv (.bool false)) = e
 generalize hSa : S8 ++ [Block.cells 23 false [acc j (stl q)]] ++ [Block.lp .ready none e [18,19] s49A s49B] = Sa
 have ka : Keep [] S8 Sa := by rw [← hSa]; exact (Keep.app _ _ _).trans (Keep.app _ _ _)
 have hlt8 := lt_get o8
 have hZ : ZS Sa S.length (S.length + 1) S4.length S8.length (S8.length + 1) jm jf g l e (acc j (stl q)) w.1 w.2 := by
  refine ⟨ka.get _ _ (by simp) (k8.get _ _ (by simp; omega) a7),ka.get _ _ (by simp) (k8.get _ _ (by simp; omega) b7),?_,?_,?_,(hM7.keep k8 (by simp; omega) (by simp; omega)).keep ka (by simp) (by simp),by omega⟩
  ·rw [hwe]; exact ka.get _ _ (by simp) o8
  ·rw [← hSa]; simp
  ·rw [← hSa]; simp
 rw [← he] at hZ
 obtain ⟨Sb,y3,y4,lp2,hZb,kb⟩ := loop96 hb0 hVs hLd ho htg hlen (q := q) (by omega) q N w.1 w.2 x Sa (.tup []) (.tup []) (Nat.le_refl _) (by omega) hx ((shape N).laid hw tu (fun s hs => s2 s (List.mem_reverse.1 hs))) (by omega) hB hZ
 have hlen23 : lenV .sl Sa (acc j (stl q)) = some (.iv (.int .i64 q)) := by rw [(SR.acc j (stl q)).len Sa,stl_len]
 have hca := hZ.fc
 have c96 : (lim K).call 96 [.yld (S8.length + 1),.ptr S8.length 23 0] Sa = .ret (.tup [],Sb) := by
  refine call_ret' K _ (fn := t96) rfl rfl ?_
  simp (config := { maxSteps := 4000000 }) (disch := omega) only [t96,go_sem,TM.undef,hca,hlen23,wrap_i64]
  rw [lp2]
  simp (config := { maxSteps := 4000000 }) (disch := omega) only [go_sem]
 have hyb := hZb.fy
 have hob := hZb.fo
 have tx := (shape N).parts hx ⟨w0,w1,w2,w3,w4,w5,w6,u5,u6,hwe⟩ ho
 obtain ⟨x0,x1,x2,x3,x4,x5,x6,z5,z6,hxe⟩ := tx
 rw [hxe] at hob ⊢
 simp only [List.map_cons,List.map_nil] at hob
 have hob' : ∀ X,(Sb.set (S8.length + 1) X)[S4.length]? = some (Block.cells 46 false [.iv (.int .i64 x0),.iv (.int .i64 x1),.iv (.int .i64 x2),.iv (.int .i64 x3),.iv (.int .i64 x4),.iv (.sl x5 z5),.iv (.sl x6 z6)]) := fun X => by rw [get_setN (by omega)]; exact hob
 rw [he] at hyb
 refine ⟨Sb.set (S8.length + 1) (.lp .exhausted none e [18,19] s49A s49B),call_ret' K _ (fn := t49) rfl rfl ?_,hZb.ms.keep (Keep.set (I := [S8.length + 1]) _ (by simp) _) (by simp; omega) (by simp; omega),?_⟩
 ·simp (config := { maxSteps := 4000000 }) (disch := omega) only [t49,go_sem,TM.undef]
  rw [hS2,show (S ++ [Block.cells 62 false [TV.ptr jm 64 0]]).length = S.length + 1 by simp,lp1]
  rw [encE_eq] at ix c24
  rw [hwe] at c23
  subst he
  unfold s49A s49B e49 at hSa hyb
  have hl8 : (S8 ++ [Block.cells 23 false [acc j (stl q)]]).length = S8.length + 1 := by simp
  simp (config := { maxSteps := 4000000 }) (disch := omega) only [go_sem,TM.undef,wrap_i64,stl_len,a3,b3,hle,sl,c45,a4,b4,hS5,a5,b5,ix,c24,a6,b6,c23,a7,b7,o7,hS8,c76,go_rangeFunc,rfF_fn,hl8,hSa,c96,hyb,hob']
  rfl
 ·refine ⟨?_,fun r B hr hb => ?_⟩
  ·have h1 := k57.len
   have h2 := k8.len
   have h3 := ka.len
   have h4 := kb.len
   have h5 := k5.len
   simp; omega
  ·simp at hr
   have hlr := lt_get hb
   have u1 := k57.get r B (by simp; omega) (k5.get r B (by simp) (k4.get r B (by simp; omega) (k3.get r B (by simp) (k2.get r B (by simp) hb))))
   have u2 := ka.get r B (by simp) (k8.get r B (by simp; omega) u1)
   rw [get_setN (by omega)]
   exact kb.get r B (by simp; omega) u2
end Go.Proofs.YtageemgcnoblnaaDoor
