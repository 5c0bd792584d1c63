/- What a law reads: trees, with their bulk. Condition: none. -/
import Derived.Test.YtookmpaholmmfaaGreatDoorKcC
import Derived.Test.YtookmpaholmmfaaGreatDoorRows
import Derived.Test.YtookmpaholmmfaaGreatDoorTmE
set_option maxRecDepth 100000
set_option maxHeartbeats 8000000
set_option linter.unusedSimpArgs false
set_option linter.unusedVariables false
namespace Go.Proofs.YtookmpaholmmfaaGreatDoor
open Go Go.TM Go.ChangeShapes Go.WideShapes
section
variable {P : Program} {H : Type}
theorem ty_structD {t : TypeId} {fs : Array Field} {d : DataW H} {l : List IV} (hu : P.underlying t = some (.struct fs)) (h : Ty P t d l) :
    ∃ (ds : List (DataW H)) (ls : List (List IV)), d = .agg ds ∧ l = flat ls ∧ AllTy P (fs.toList.map (·.type)) ds ls := by
  have h0 := h
  cases h with
  | bool u ht b => rw [hu] at ht; cases ht
  | int u k ht => rw [hu] at ht; cases ht
  | str u ht => rw [hu] at ht; cases ht
  | nilp u e ht => rw [hu] at ht; cases ht
  | ptr u e ht => rw [hu] at ht; cases ht
  | nils u e ht => rw [hu] at ht; cases ht
  | sl u e ht => rw [hu] at ht; cases ht
  | struct u fs' ht ds ls h1 h2 h hl =>
    rw [hu] at ht; cases ht
    refine ⟨ds, ls, rfl, rfl, ?_⟩
    have key : ∀ (fs : List Field) (ds : List (DataW H)) (ls : List (List IV)), ds.length = fs.length → ls.length = fs.length → (∀ (i : Nat) (f : Field) (d : DataW H) (l : List IV), fs[i]? = some f → ds[i]? = some d → ls[i]? = some l → Ty P f.type d l) → AllTy P (fs.map (·.type)) ds ls := by
      intro fs
      induction fs with
      | nil =>
        intro ds ls h1 h2 _
        have e1 : ds = [] := List.eq_nil_of_length_eq_zero (by simpa using h1)
        have e2 : ls = [] := List.eq_nil_of_length_eq_zero (by simpa using h2)
        subst e1; subst e2; exact trivial
      | cons f fs ih =>
        intro ds ls h1 h2 h
        cases ds with
        | nil => simp at h1
        | cons d ds =>
          cases ls with
          | nil => simp at h2
          | cons l ls => exact ⟨h 0 f d l rfl rfl rfl, ih ds ls (by simpa using h1) (by simpa using h2) (fun i f' d' l' hf hd hl' => h (i + 1) f' d' l' (by simpa using hf) (by simpa using hd) (by simpa using hl'))⟩
    exact key fs.toList ds ls (by simpa using h1) (by simpa using h2) (fun i f d l hf hd hl' => h i f d l (by simpa using hf) hd hl')
  | array u e n ht => rw [hu] at ht; cases ht
theorem allTy_consE {t : TypeId} {ts : List TypeId} {ds : List (DataW H)} {ls : List (List IV)} (h : AllTy P (t :: ts) ds ls) : ∃ (d : DataW H) (l : List IV) (ds' : List (DataW H)) (ls' : List (List IV)), ds = d :: ds' ∧ ls = l :: ls' ∧ Ty P t d l ∧ AllTy P ts ds' ls' := by
  cases ds with
  | nil => cases ls <;> exact h.elim
  | cons d ds =>
    cases ls with
    | nil => exact h.elim
    | cons l ls => exact ⟨d, l, ds, ls, rfl, rfl, h.1, h.2⟩
theorem ty_sliceD {t e : TypeId} {d : DataW H} {l : List IV} (hu : P.underlying t = some (.slice e)) (h : Ty P t d l) :
    ∃ (tg : Tag) (ds sp : List (DataW H)) (ls : List (List IV)), (d = .slice ds sp ∨ d = .nil ∧ ds = []) ∧ l = [.sl tg ls] ∧ (tg = .nil → ls = []) ∧ ls.length = ds.length ∧ ∀ (i : Nat) (d : DataW H) (l : List IV), ds[i]? = some d → ls[i]? = some l → Ty P e d l := by
  cases h with
  | bool u ht b => rw [hu] at ht; cases ht
  | int u k ht => rw [hu] at ht; cases ht
  | str u ht => rw [hu] at ht; cases ht
  | nilp u e ht => rw [hu] at ht; cases ht
  | ptr u e ht => rw [hu] at ht; cases ht
  | nils u e ht => exact ⟨.nil, [], [], [], .inr ⟨rfl, rfl⟩, rfl, fun _ => rfl, rfl, fun i d l h => by simp at h⟩
  | sl u e' ht ds sp ls tag htag hn hm h hl =>
    rw [hu] at ht; cases ht
    exact ⟨tag, ds, sp, ls, .inl rfl, rfl, fun e => absurd e htag, hn, h⟩
  | struct u fs ht => rw [hu] at ht; cases ht
  | array u e n ht => rw [hu] at ht; cases ht
theorem ty_intD {t : TypeId} {d : DataW H} {l : List IV} {k : IntKind} (hu : P.underlying t = some (.int k)) (h : Ty P t d l) : ∃ n, d = .lit (.int k n) ∧ l = [.int k n] ∧ k.min ≤ n ∧ n ≤ k.max := by
  cases h with
  | bool u ht b => rw [hu] at ht; cases ht
  | int u k' ht n hw =>
    rw [hu] at ht; cases ht
    simp only [Lit.wf, Bool.and_eq_true, decide_eq_true_eq] at hw
    exact ⟨n, rfl, rfl, hw⟩
  | str u ht => rw [hu] at ht; cases ht
  | nilp u e ht => rw [hu] at ht; cases ht
  | ptr u e ht => rw [hu] at ht; cases ht
  | nils u e ht => rw [hu] at ht; cases ht
  | sl u e ht => rw [hu] at ht; cases ht
  | struct u fs ht => rw [hu] at ht; cases ht
  | array u e n ht => rw [hu] at ht; cases ht
theorem ty_strD {t : TypeId} {d : DataW H} {l : List IV} (hu : P.underlying t = some .string) (h : Ty P t d l) : ∃ s, d = .lit (.string s) ∧ l = [.str s] := by
  cases h with
  | bool u ht b => rw [hu] at ht; cases ht
  | int u k ht => rw [hu] at ht; cases ht
  | str u ht s hs => exact ⟨s, rfl, rfl⟩
  | nilp u e ht => rw [hu] at ht; cases ht
  | ptr u e ht => rw [hu] at ht; cases ht
  | nils u e ht => rw [hu] at ht; cases ht
  | sl u e ht => rw [hu] at ht; cases ht
  | struct u fs ht => rw [hu] at ht; cases ht
  | array u e n ht => rw [hu] at ht; cases ht
open Rows in
theorem bulk_slice {d : DataW H} {ds sp : List (DataW H)} (h : d = .slice ds sp ∨ d = .nil ∧ ds = []) : uptoBulkAll ds + 1 ≤ uptoBulk d := by
  rcases h with rfl | ⟨rfl, rfl⟩
  · simp only [uptoBulk]; omega
  · simp only [uptoBulk, uptoBulkAll]; omega
open Rows in
theorem bulk_part {d : DataW H} : ∀ {l : List (DataW H)}, d ∈ l → uptoBulk d ≤ uptoBulkAll l
  | x :: r, h => by
    simp only [uptoBulkAll]
    rcases List.mem_cons.1 h with rfl | h
    · omega
    · have := bulk_part h; omega
open Rows in
theorem ty_list {α : Type} {e : TypeId} {f : α → List IV} {R : α → Prop} {w : α → Nat} {ws : List α → Nat} (h0 : ws [] = 0) (h1 : ∀ a l, ws (a :: l) = w a + ws l) :
    ∀ (ls : List (List IV)) (ds : List (DataW H)), (∀ d ∈ ds, ∀ l, Ty P e d l → ∃ a, l = f a ∧ w a ≤ uptoBulk d ∧ R a) → ls.length = ds.length →
    (∀ (i : Nat) (d : DataW H) (l : List IV), ds[i]? = some d → ls[i]? = some l → Ty P e d l) → ∃ ags : List α, ls = ags.map f ∧ ws ags ≤ uptoBulkAll ds ∧ ∀ a ∈ ags, R a
  | [], ds, _, _, _ => ⟨[], rfl, by rw [h0]; omega, by simp⟩
  | l :: ls, [], _, hn, _ => by simp at hn
  | l :: ls, d :: ds, he, hn, h => by
    obtain ⟨a, rfl, hw, ha⟩ := he d (by simp) l (h 0 d l rfl rfl)
    obtain ⟨ags, rfl, hws, has⟩ := ty_list h0 h1 ls ds (fun d hd => he d (by simp [hd])) (by simpa using hn) (fun i d' l' hd hl' => h (i + 1) d' l' (by simpa using hd) (by simpa using hl'))
    refine ⟨a :: ags, rfl, ?_, ?_⟩
    · rw [h1, uptoBulkAll]; omega
    · intro x hx; rcases List.mem_cons.1 hx with rfl | hx; exact ha; exact has x hx
end
def i64r (n : Int) : Prop := -9223372036854775808 ≤ n ∧ n ≤ 9223372036854775807
mutual
def Dt.ok : Dt → Prop
  | .mk k n t g ks p => i64r k ∧ i64r n ∧ i64r p ∧ TagOk g ks ∧ Dt.oks ks
def Dt.oks : List Dt → Prop
  | [] => True
  | d :: ds => Dt.ok d ∧ Dt.oks ds
end
mutual
def Ex.ok : Ex → Prop
  | .mk k n gv vs r g ks => i64r k ∧ i64r n ∧ TagOk gv vs ∧ (∀ v ∈ vs, i64r v) ∧ TagOk g ks ∧ Ex.oks ks
def Ex.oks : List Ex → Prop
  | [] => True
  | d :: ds => Ex.ok d ∧ Ex.oks ds
end
theorem Dt.oks_iff : ∀ {ks : List Dt}, Dt.oks ks ↔ ∀ x ∈ ks, x.ok
  | [] => by simp [Dt.oks]
  | d :: ds => by rw [Dt.oks, Dt.oks_iff]; simp
theorem Ex.oks_iff : ∀ {ks : List Ex}, Ex.oks ks ↔ ∀ x ∈ ks, x.ok
  | [] => by simp [Ex.oks]
  | d :: ds => by rw [Ex.oks, Ex.oks_iff]; simp
theorem Dt.ok_eq (d : Dt) : d.ok ↔ i64r d.k ∧ i64r d.n ∧ i64r d.p ∧ TagOk d.g d.ks ∧ ∀ x ∈ d.ks, x.ok := by
  cases d; rw [Dt.ok, Dt.oks_iff]; rfl
theorem Ex.ok_eq (d : Ex) : d.ok ↔ i64r d.k ∧ i64r d.n ∧ TagOk d.gv d.vs ∧ (∀ v ∈ d.vs, i64r v) ∧ TagOk d.g d.ks ∧ ∀ x ∈ d.ks, x.ok := by
  cases d; rw [Ex.ok, Ex.oks_iff]; rfl
def Pg.ok (p : Pg) : Prop := p.b.ok ∧ i64r p.gl ∧ i64r p.vr ∧ TagOk p.gc p.cs ∧ ∀ x ∈ p.cs, x.ok
theorem i64r_of {n : Int} (h : IntKind.i64.min ≤ n ∧ n ≤ IntKind.i64.max) : i64r n := by
  obtain ⟨h1, h2⟩ := h
  simp [IntKind.min, IntKind.max, IntKind.signed, IntKind.bits] at h1 h2
  unfold i64r; omega
theorem nil_tag {tg : Tag} {α β : Type} {f : α → β} {l : List α} (h : tg = .nil → l.map f = []) : TagOk tg l := fun e => by simpa using h e
section
variable {H : Type}
open Rows
theorem tyI {d : DataW H} {l : List IV} (h : Ty Tryz.prog 3 d l) : ∃ n, l = [.int .i64 n] ∧ uptoBulk d = 1 ∧ i64r n := by
  obtain ⟨n, rfl, rfl, hr⟩ := ty_intD Tryz.underlying3 h
  exact ⟨n, rfl, by simp [uptoBulk], i64r_of hr⟩
theorem tyIs {d : DataW H} {l : List IV} (h : Ty Tryz.prog 22 d l) : ∃ (tg : Tag) (vs : List Int), l = [.sl tg (one (.int .i64) vs)] ∧ TagOk tg vs ∧ vs.length + 1 ≤ uptoBulk d ∧ ∀ v ∈ vs, i64r v := by
  obtain ⟨tg, ds, sp, ls, hd, rfl, ht, hn, hl⟩ := ty_sliceD Tryz.underlying22 h
  obtain ⟨vs, rfl, hw, hr⟩ := ty_list (f := fun n => [.int .i64 n]) (R := i64r) (w := fun _ : Int => 1) (ws := List.length) rfl (fun a l => by simp; omega) ls ds (fun d hd l h => by
    obtain ⟨n, rfl, hb, hr⟩ := tyI h
    exact ⟨n, rfl, by omega, hr⟩) hn hl
  have := bulk_slice hd
  exact ⟨tg, vs, rfl, nil_tag ht, by omega, hr⟩
theorem readD : ∀ (n : Nat) (d : DataW H) (l : List IV), uptoBulk d ≤ n → Ty Tryz.prog 39 d l → ∃ x : Dt, l = encD x ∧ x.w ≤ uptoBulk d ∧ x.ok
  | 0, d, l, hb, h => by
    obtain ⟨ds, ls, rfl, rfl, hh⟩ := ty_structD Tryz.underlying39 h
    simp only [uptoBulk] at hb; omega
  | n + 1, d, l, hb, h => by
    obtain ⟨ds, ls, rfl, rfl, hh00⟩ := ty_structD Tryz.underlying39 h
    have hh0 : AllTy Tryz.prog [3, 3, 9, 26, 3] ds ls := hh00
    obtain ⟨d0, l0, ds, ls, rfl, rfl, h0, hh1⟩ := allTy_consE hh0
    obtain ⟨d1, l1, ds, ls, rfl, rfl, h1, hh2⟩ := allTy_consE hh1
    obtain ⟨d2, l2, ds, ls, rfl, rfl, h2, hh3⟩ := allTy_consE hh2
    obtain ⟨d3, l3, ds, ls, rfl, rfl, h3, hh4⟩ := allTy_consE hh3
    obtain ⟨d4, l4, ds, ls, rfl, rfl, h4, hh5⟩ := allTy_consE hh4
    obtain rfl := allTy_nilD hh5
    rw [allTy_nil hh5]
    simp only [uptoBulk, uptoBulkAll] at hb
    obtain ⟨k, rfl, b0, r0⟩ := tyI h0
    obtain ⟨m, rfl, b1, r1⟩ := tyI h1
    obtain ⟨s, rfl, rfl⟩ := ty_strD Tryz.underlying9 h2
    obtain ⟨tg, es, sp, ls, hd, rfl, ht, hn, hl⟩ := ty_sliceD Tryz.underlying26 h3
    obtain ⟨p, rfl, b4, r4⟩ := tyI h4
    have hs := bulk_slice hd
    obtain ⟨ks, rfl, hw, hr⟩ := ty_list (f := encD) (R := Dt.ok) (w := Dt.w) (ws := Dt.ws) (by rw [Dt.ws]) (fun a l => by rw [Dt.ws]) ls es (fun d hd l h => by
      have := bulk_part hd
      exact readD n d l (by omega) h) hn hl
    refine ⟨.mk k m s tg ks p, ?_, ?_, ?_⟩
    · rw [encD, encDs_map]; rfl
    · rw [Dt.w]; simp only [uptoBulk, uptoBulkAll]; omega
    · rw [Dt.ok_eq]; exact ⟨r0, r1, r4, nil_tag ht, hr⟩
theorem tyB {d : DataW H} {l : List IV} (h : Ty Tryz.prog 4 d l) : ∃ b, l = [.bool b] := ty_bool Tryz.underlying4 h
theorem readE : ∀ (n : Nat) (d : DataW H) (l : List IV), uptoBulk d ≤ n → Ty Tryz.prog 25 d l → ∃ x : Ex, l = encE x ∧ x.w ≤ uptoBulk d ∧ x.ok
  | 0, d, l, hb, h => by
    obtain ⟨ds, ls, rfl, rfl, hh⟩ := ty_structD Tryz.underlying25 h
    simp only [uptoBulk] at hb; omega
  | n + 1, d, l, hb, h => by
    obtain ⟨ds, ls, rfl, rfl, hh00⟩ := ty_structD Tryz.underlying25 h
    have hh0 : AllTy Tryz.prog [3, 3, 22, 4, 23] ds ls := hh00
    obtain ⟨d0, l0, ds, ls, rfl, rfl, h0, hh1⟩ := allTy_consE hh0
    obtain ⟨d1, l1, ds, ls, rfl, rfl, h1, hh2⟩ := allTy_consE hh1
    obtain ⟨d2, l2, ds, ls, rfl, rfl, h2, hh3⟩ := allTy_consE hh2
    obtain ⟨d3, l3, ds, ls, rfl, rfl, h3, hh4⟩ := allTy_consE hh3
    obtain ⟨d4, l4, ds, ls, rfl, rfl, h4, hh5⟩ := allTy_consE hh4
    obtain rfl := allTy_nilD hh5
    rw [allTy_nil hh5]
    simp only [uptoBulk, uptoBulkAll] at hb
    obtain ⟨k, rfl, b0, r0⟩ := tyI h0
    obtain ⟨m, rfl, b1, r1⟩ := tyI h1
    obtain ⟨tv, vs, rfl, htv, b2, r2⟩ := tyIs h2
    obtain ⟨r, rfl⟩ := tyB h3
    obtain ⟨tg, es, sp, ls, hd, rfl, ht, hn, hl⟩ := ty_sliceD Tryz.underlying23 h4
    have hs := bulk_slice hd
    obtain ⟨ks, rfl, hw, hr⟩ := ty_list (f := encE) (R := Ex.ok) (w := Ex.w) (ws := Ex.ws) (by rw [Ex.ws]) (fun a l => by rw [Ex.ws]) ls es (fun d hd l h => by
      have := bulk_part hd
      exact readE n d l (by omega) h) hn hl
    refine ⟨.mk k m tv vs r tg ks, ?_, ?_, ?_⟩
    · rw [encE, encEs_map]; rfl
    · rw [Ex.w]; simp only [uptoBulk, uptoBulkAll]; omega
    · rw [Ex.ok_eq]; exact ⟨r0, r1, htv, r2, nil_tag ht, hr⟩
theorem readP {d : DataW H} {l : List IV} (h : Ty Tryz.prog 28 d l) : ∃ x : Pg, l = encP x ∧ x.w ≤ uptoBulk d ∧ x.ok := by
  obtain ⟨ds, ls, rfl, rfl, hh00⟩ := ty_structD Tryz.underlying28 h
  have hh0 : AllTy Tryz.prog [25, 3, 3, 26] ds ls := hh00
  obtain ⟨d0, l0, ds, ls, rfl, rfl, h0, hh1⟩ := allTy_consE hh0
  obtain ⟨d1, l1, ds, ls, rfl, rfl, h1, hh2⟩ := allTy_consE hh1
  obtain ⟨d2, l2, ds, ls, rfl, rfl, h2, hh3⟩ := allTy_consE hh2
  obtain ⟨d3, l3, ds, ls, rfl, rfl, h3, hh4⟩ := allTy_consE hh3
  obtain rfl := allTy_nilD hh4
  rw [allTy_nil hh4]
  obtain ⟨b, rfl, b0, r0⟩ := readE _ _ _ (Nat.le_refl _) h0
  obtain ⟨gl, rfl, b1, r1⟩ := tyI h1
  obtain ⟨vr, rfl, b2, r2⟩ := tyI h2
  obtain ⟨tg, es, sp, ls, hd, rfl, ht, hn, hl⟩ := ty_sliceD Tryz.underlying26 h3
  have hs := bulk_slice hd
  obtain ⟨ks, rfl, hw, hr⟩ := ty_list (f := encD) (R := Dt.ok) (w := Dt.w) (ws := Dt.ws) (by rw [Dt.ws]) (fun a l => by rw [Dt.ws]) ls es (fun d hd l h => readD _ d l (Nat.le_refl _) h) hn hl
  refine ⟨⟨b, gl, vr, tg, ks⟩, ?_, ?_, ?_⟩
  · rw [encP, encE_eq, encDs_map]; rfl
  · unfold Pg.w; simp only [uptoBulk, uptoBulkAll]; omega
  · exact ⟨r0, r1, r2, nil_tag ht, hr⟩
end
end Go.Proofs.YtookmpaholmmfaaGreatDoor
