/- Some texts of the proof, joined. Condition: none. -/
import Derived.Test.YtageemgcnoblnaaDoorJb
import Derived.Test.YtageemgcnoblnaaDoorKr1
set_option maxRecDepth 100000
set_option maxHeartbeats 64000000
set_option linter.unusedSimpArgs false
set_option linter.unusedVariables false
namespace Go.Proofs.YtageemgcnoblnaaDoor
open Go Go.TM
def FOK (vr : Int) (f : List IV) : Prop := ∃ (tg : Tag) (ps : List Int) (r c : Bool) (b : List IV),f = fnF tg ps r c b ∧ TmO b ∧ tg ≠ .nil ∧ ps.length ≤ 1048577 ∧
 (c = false → (∃ k vs,ps = k :: vs ∧ ∀ v ∈ vs,v < vr) ∨ (∃ a d,ps = [a,d] ∧ r = true ∧ vr ≤ d ∧ ∃ b',b = .int .i64 6 :: b'))
theorem FOK.cont (vr to : Int) (r : Bool) {t : List IV} (h : TmO t) : FOK vr (fnF .full [to] r true t) := ⟨_,_,_,_,_,rfl,h,by decide,by simp,fun h => by cases h⟩
def AllF (vr : Int) (σ : Mk) : Prop := ∀ f ∈ σ.fs.drop 2,FOK vr f
theorem AllF.push {vr : Int} {σ : Mk} (h : AllF vr σ) {f : List IV} (hf : FOK vr f) : AllF vr (σ.push f) := fun g hg => by
 have hg' : g ∈ (σ.fs ++ [f]).drop 2 := hg
 rw [List.drop_append] at hg'
 rcases List.mem_append.1 hg' with hg | hg
 ·exact h g hg
 ·have := List.mem_of_mem_drop hg
  rw [List.mem_singleton] at this; subst this; exact hf
theorem AllF.var {vr : Int} {σ : Mk} (h : AllF vr σ) : AllF vr σ.var := h
def EO (p : Pg) (e : Ex) : Prop := Fr p e ∧ XO e
theorem EO.kid {p : Pg} {e x : Ex} (h : EO p e) (hx : x ∈ e.ks) : EO p x := ⟨Frs_iff.1 ((Fr_eq p e).1 h.1).2 x hx,h.2.kid hx⟩
def SG (p : Pg) (l : List St) : Prop := ∀ s ∈ l,∀ e to,s = .rs e to → EO p e
theorem SG.app {p : Pg} {a b : List St} (h : SG p a) (g : SG p b) : SG p (a ++ b) := fun s hs => (List.mem_append.1 hs).elim (h s) (g s)
theorem SG.tm (p : Pg) (t : List IV) (to : Int) : SG p [.tm t to] := fun s hs e to' h => by rw [List.mem_singleton] at hs; subst hs; cases h
theorem SG.nil (p : Pg) : SG p [] := fun s hs => by cases hs
theorem SG.rev {p : Pg} {l : List St} (h : SG p l) : SG p l.reverse := fun s hs => h s (List.mem_reverse.1 hs)
theorem lamTag_ne (vs : List Int) : lamTag vs ≠ .nil := by unfold lamTag; split <;> decide
structure Fk (p : Pg) (n : Nat) : Prop where
 value : ∀ {e σ x},valueM n e σ = some x → EO p e → p.vr ≤ σ.nv → AllF p.vr σ → AllF p.vr x.2.2 ∧ SG p x.1
 values : ∀ {l σ x},valuesM n l σ = some x → (∀ e ∈ l,EO p e) → p.vr ≤ σ.nv → AllF p.vr σ → AllF p.vr x.2.2 ∧ SG p x.1
 lam : ∀ {e σ x},lambdaM n e σ = some x → EO p e → e.k = 7 → p.vr ≤ σ.nv → AllF p.vr σ → AllF p.vr x.2
 laid : ∀ {l t σ x},laidM n l t σ = some x → SG p l → (∀ s ∈ l,SO s) → TmO t → p.vr ≤ σ.nv → AllF p.vr σ → AllF p.vr x.2
 code : ∀ {e k σ x},codeM n e k σ = some x → EO p e → p.vr ≤ σ.nv → AllF p.vr σ → AllF p.vr x.2
 ctl : ∀ {e k σ x},ctlM n e k σ = some x → EO p e → p.vr ≤ σ.nv → AllF p.vr σ → AllF p.vr x.2
 sq : ∀ {l k σ x},seqM n l k σ = some x → (∀ e ∈ l,EO p e) → p.vr ≤ σ.nv → AllF p.vr σ → AllF p.vr x.2
 parts : ∀ {i l t σ x},partsM n i l t σ = some x → (∀ e ∈ l,EO p e) → TmO t → p.vr ≤ σ.nv → AllF p.vr σ → AllF p.vr x.2
theorem funcs (p : Pg) : ∀ n,Fk p n
 | 0 => ⟨fun h => by simp [valueM] at h,fun h => by simp [valuesM] at h,fun h => by simp [lambdaM] at h,fun h => by simp [laidM] at h,fun h => by simp [codeM] at h,fun h => by simp [ctlM] at h,fun h => by simp [seqM] at h,fun h => by simp [partsM] at h⟩
 | n + 1 => by
  have m := funcs p n
  have mo := mono n
  have sh := shape n
  refine ⟨?_,?_,?_,?_,?_,?_,?_,?_⟩
  ·intro e σ x h hf hv ha
   have hK : ∀ x ∈ e.ks,EO p x := fun x hx => hf.kid hx
   rw [valueM] at h
   split at h
   ·cases h; exact ⟨ha,SG.nil p⟩
   ·split at h
    ·cases h; exact ⟨ha,SG.nil p⟩
    ·split at h
     ·rename_i hk
      obtain ⟨y,hy,h⟩ := Option.bind_eq_some_iff.1 h
      have h1 := m.lam hy hf hk hv ha
      cases h
      exact ⟨h1.var,SG.tm _ _ _⟩
     ·split at h
      ·obtain ⟨y,hy,h⟩ := Option.bind_eq_some_iff.1 h
       obtain ⟨a,ha',h⟩ := Option.bind_eq_some_iff.1 h
       cases h; exact m.values hy hK hv ha
      ·split at h
       ·cases h
        exact ⟨ha.var,fun s hs e' to h => by rw [List.mem_singleton] at hs; subst hs; cases h; exact hf⟩
       ·obtain ⟨y,hy,h⟩ := Option.bind_eq_some_iff.1 h
        obtain ⟨h1,h2⟩ := m.values hy hK hv ha
        cases h
        exact ⟨h1.var,h2.app (SG.tm _ _ _)⟩
  ·intro l σ x h hf hv ha
   cases l with
   | nil => rw [valuesM] at h; cases h; exact ⟨ha,SG.nil p⟩
   | cons e l =>
    rw [valuesM] at h
    obtain ⟨y,hy,h⟩ := Option.bind_eq_some_iff.1 h
    obtain ⟨z,hz,h⟩ := Option.bind_eq_some_iff.1 h
    obtain ⟨h1,h2⟩ := m.value hy (hf e (by simp)) hv ha
    obtain ⟨h3,h4⟩ := m.values hz (fun x hx => hf x (List.mem_cons_of_mem _ hx)) (Int.le_trans hv (mo.value hy).nv) h1
    cases h
    exact ⟨h3,h2.app h4⟩
  ·intro e σ x h hf hk hv ha
   have hM := frM hf.1
   have hw := Ex.w_eq e
   have hw2 := hf.2.2
   rw [lambdaM] at h
   split at h
   ·cases h
   ·rename_i b bs hks
    have hb := hf.kid (x := b) (by rw [hks]; simp)
    obtain ⟨y,hy,h⟩ := Option.bind_eq_some_iff.1 h
    have h1 := m.code hy hb (by show p.vr ≤ σ.nv + 1; omega) ha.var
    have h2 := sh.code hy hb.2
    cases h
    exact h1.push ⟨_,_,_,_,_,rfl,h2,lamTag_ne _,by rw [List.length_cons]; omega,fun _ => .inl ⟨_,_,rfl,hM.k7 hk⟩⟩
  ·intro l t σ x h hs hso ht hv ha
   cases l with
   | nil => rw [laidM] at h; cases h; exact ha
   | cons s l =>
    cases s with
    | tm c to =>
     rw [laidM] at h
     exact m.laid h (fun s hs' => hs s (List.mem_cons_of_mem _ hs')) (fun s hs' => hso s (List.mem_cons_of_mem _ hs')) (TmO.kids (show TmO c from hso _ (List.mem_cons_self)) _ _) hv ha
    | rs e to =>
     rw [laidM] at h
     obtain ⟨y,hy,h⟩ := Option.bind_eq_some_iff.1 h
     have h1 := m.code hy (hs _ (List.mem_cons_self) e to rfl) (by show p.vr ≤ σ.nv + 1; omega) (ha.push (FOK.cont _ _ _ ht)).var
     have hl : σ.nv + 1 ≤ y.2.nv := (mo.code hy).nv
     exact m.laid h (fun s hs' => hs s (List.mem_cons_of_mem _ hs')) (fun s hs' => hso s (List.mem_cons_of_mem _ hs')) (TmO.fun ..) (by omega) h1
  ·intro e k σ x h hf hv ha
   have hK : ∀ x ∈ e.ks,EO p x := fun x hx => hf.kid hx
   rw [codeM] at h
   split at h
   ·rename_i hk
    obtain ⟨y,hy,h⟩ := Option.bind_eq_some_iff.1 h
    obtain ⟨h1,h2⟩ := m.values hy hK hv ha
    obtain ⟨s1,s2,s3,s4⟩ := sh.values hy (fun x hx => (hK x hx).2)
    split at h
    ·cases h
    ·exact m.laid h h2.rev (fun s hs => s2 s (List.mem_reverse.1 hs)) (TmO.call ..) (Int.le_trans hv (mo.values hy).nv) h1
   ·split at h
    ·split at h
     ·rename_i h8 hk c0 p0 q0 rr hks
      rw [hks] at hK
      obtain ⟨y,hy,h⟩ := Option.bind_eq_some_iff.1 h
      obtain ⟨z,hz,h⟩ := Option.bind_eq_some_iff.1 h
      obtain ⟨w,hw,h⟩ := Option.bind_eq_some_iff.1 h
      have n1 := (mo.value hy).nv
      have n2 := (mo.code hz).nv
      have n3 := (mo.code hw).nv
      obtain ⟨h1,h2⟩ := m.value hy (hK c0 (by simp)) hv ha
      obtain ⟨s1,s2,s3⟩ := sh.value hy (hK c0 (by simp)).2
      have h3 := m.code hz (hK p0 (by simp)) (by omega) h1
      have h4 := m.code hw (hK q0 (by simp)) (by omega) h3
      exact m.laid h h2.rev (fun s hs => s2 s (List.mem_reverse.1 hs)) (TmO.if ..) (by omega) h4
     ·cases h
    ·split at h
     ·exact m.sq h hK hv ha
     ·split at h
      ·exact m.ctl h hf hv ha
      ·obtain ⟨y,hy,h⟩ := Option.bind_eq_some_iff.1 h
       obtain ⟨h1,h2⟩ := m.value hy hf hv ha
       obtain ⟨s1,s2,s3⟩ := sh.value hy hf.2
       exact m.laid h h2.rev (fun s hs => s2 s (List.mem_reverse.1 hs)) (TmO.call ..) (Int.le_trans hv (mo.value hy).nv) h1
  ·intro e k σ x h hf hv ha
   have hK : ∀ x ∈ e.ks,EO p x := fun x hx => hf.kid hx
   rw [ctlM] at h
   obtain ⟨y,hy,h⟩ := Option.bind_eq_some_iff.1 h
   obtain ⟨h1,h2⟩ := m.values hy hK hv ha
   obtain ⟨s1,s2,s3,s4⟩ := sh.values hy (fun x hx => (hK x hx).2)
   have n1 := (mo.values hy).nv
   have hso : ∀ (v f : Int),∀ s ∈ (y.1 ++ [St.tm (funT v f (.sl .nil [])) v]).reverse,SO s := fun v f s hs => by
    rcases List.mem_append.1 (List.mem_reverse.1 hs) with hs | hs
    ·exact s2 s hs
    ·rw [List.mem_singleton] at hs; subst hs; exact TmO.fun ..
   split at h
   ·split at h
    ·exact m.laid h h2.rev (fun s hs => s2 s (List.mem_reverse.1 hs)) (TmO.appl ..) (by omega) h1
    ·cases h
   ·split at h
    ·split at h
     ·exact m.laid h (h2.app (SG.tm _ _ _)).rev (hso _ _) (TmO.call ..) (by show p.vr ≤ y.2.2.nv + 1 + 1 + 1; omega) (h1.var.var.push ⟨_,_,_,_,_,rfl,TmO.appl _,by decide,by simp,fun _ => .inr ⟨_,_,rfl,rfl,by omega,_,rfl⟩⟩).var
     ·cases h
    ·split at h
     ·exact m.laid h (h2.app (SG.tm _ _ _)).rev (hso _ _) (TmO.call ..) (by show p.vr ≤ y.2.2.nv + 1 + 1; omega) (h1.var.push (FOK.cont _ _ _ (TmO.appl _))).var
     ·cases h
  ·intro l k σ x h hf hv ha
   rw [seqM] at h
   split at h
   ·cases h
   ·rename_i z0 hz0
    obtain ⟨y,hy,h⟩ := Option.bind_eq_some_iff.1 h
    obtain ⟨z,hz,h⟩ := Option.bind_eq_some_iff.1 h
    obtain ⟨w,hw,h⟩ := Option.bind_eq_some_iff.1 h
    have n1 := (mo.values hy).nv
    have n2 := (mo.code hz).nv
    have n3 := (mo.laid hw).nv
    have hf2 : ∀ e ∈ (l.take (l.length - 1)).drop (64 * ((l.length - 1) / 64)),EO p e := fun e he => hf e (List.mem_of_mem_take (List.mem_of_mem_drop he))
    obtain ⟨h1,h2⟩ := m.values hy hf2 hv ha
    obtain ⟨s1,s2,s3,s4⟩ := sh.values hy (fun x hx => (hf2 x hx).2)
    have hz1 := hf z0 (List.mem_of_getLast? hz0)
    have h3 := m.code hz hz1 (by omega) h1
    have tz := sh.code hz hz1.2
    have h4 := m.laid hw h2.rev (fun s hs => s2 s (List.mem_reverse.1 hs)) tz (by omega) h3
    exact m.parts h hf (sh.laid hw tz (fun s hs => s2 s (List.mem_reverse.1 hs))) (by omega) h4
  ·intro i l t σ x h hf ht hv ha
   cases i with
   | zero => rw [partsM] at h; cases h; exact ha
   | succ i =>
    rw [partsM] at h
    obtain ⟨y,hy,h⟩ := Option.bind_eq_some_iff.1 h
    obtain ⟨w,hw,h⟩ := Option.bind_eq_some_iff.1 h
    have n1 : σ.nv + 1 + 1 ≤ y.2.2.nv := (mo.values hy).nv
    have n2 := (mo.laid hw).nv
    have hf2 : ∀ e ∈ (l.drop (64 * i)).take 64,EO p e := fun e he => hf e (List.mem_of_mem_drop (List.mem_of_mem_take he))
    obtain ⟨h1,h2⟩ := m.values hy hf2 (by show p.vr ≤ σ.nv + 1 + 1; omega) (ha.var.push (FOK.cont _ _ _ ht)).var
    obtain ⟨s1,s2,s3,s4⟩ := sh.values hy (fun x hx => (hf2 x hx).2)
    have hso : ∀ s ∈ (St.tm (funT (σ.nv + 1) σ.fs.length (.sl .nil [])) (σ.nv + 1) :: y.1).reverse,SO s := fun s hs => by
     rcases List.mem_cons.1 (List.mem_reverse.1 hs) with rfl | hs
     ·exact TmO.fun ..
     ·exact s2 s hs
    have h3 := m.laid hw (show SG p (St.tm _ _ :: y.1).reverse from ((SG.tm _ _ _).app h2).rev) hso (TmO.call ..) (by omega) h1
    exact m.parts h hf (sh.laid hw (TmO.call ..) hso) (by omega) h3
abbrev lbX (e : Ex) : TV := .lb [.iv (.int .i64 e.k),.iv (.int .i64 e.n),.iv (.sl e.gv (TM.one (.int .i64) e.vs)),.iv (.bool e.r),.iv (.sl e.g (encEs e.ks))]
abbrev agX (e : Ex) : TV := .iv (.agg [.int .i64 e.k,.int .i64 e.n,.sl e.gv (TM.one (.int .i64) e.vs),.bool e.r,.sl e.g (encEs e.ks)])
theorem ixEx {g : Tag} {ks : List Ex} {i : Nat} (h : i < ks.length) : indexAddrS 5 (.iv (.sl g (encEs ks))) (i : Int) = some (.iv (.cp [.int .i64 ks[i].k,.int .i64 ks[i].n,.sl ks[i].gv (TM.one (.int .i64) ks[i].vs),.bool ks[i].r,.sl ks[i].g (encEs ks[i].ks)])) := by
 rw [← encE_eq]
 refine ix_ok (by omega) ?_ (encE_len _)
 rw [Int.toNat_natCast,encEs_map,List.getElem?_map,List.getElem?_eq_getElem h]
 rfl
def SzOK (e : Ex) : Prop := ∀ (left : Int) (S : Store),1 ≤ left → left ≤ 2000 → ∃ r : Int,(lim K).call 18 [agX e,.iv (.int .i64 left)] S = .ret (.iv (.int .i64 r),S) ∧ 0 ≤ r ∧ r < left ∧ (0 < r → sz e + r ≤ left)
theorem loop18 (e : Ex) (hw : e.w ≤ 1048576) (ih : ∀ x ∈ e.ks,SzOK x) (x0 x3 x5 : TV) (S : Store) : ∀ (k i : Nat) (left : Int) (x6 : TV),i + k = e.ks.length → 0 ≤ left → left ≤ 2000 →
  ∃ (r : Int) (y4 y6 : TV),lp' (lim K) t18L0 [x0,.iv (.int .i64 left),lbX e,x3,.iv (.int .i64 i),x5,x6] S = .ret (.exit 0,[x0,.iv (.int .i64 r),lbX e,x3,y4,x5,y6],S) ∧ 0 ≤ r ∧ r ≤ left ∧ (0 < r → szs (e.ks.drop i) + r ≤ left)
 | 0,i,left,x6,h,h0,h1 => by
  obtain rfl : i = e.ks.length := by omega
  have hle := encEs_len e.ks
  refine ⟨left,.iv (.int .i64 e.ks.length),.iv (.bool false),loop_at K _ _ t18L0.eq_1 ?_,h0,Int.le_refl _,fun _ => by rw [List.drop_length,szs]; omega⟩
  simp (config := { maxSteps := 4000000 }) (disch := omega) only [go_sem,hle]
 | k + 1,i,left,x6,h,h0,h1 => by
  have hla : i < e.ks.length := by omega
  have hle := encEs_len e.ks
  have hwe := Ex.w_eq e
  have hkl := Ex.ws_len e.ks
  have hdr := List.drop_eq_getElem_cons hla
  by_cases hp : left = 0
  ·subst hp
   refine ⟨0,.iv (.int .i64 i),.iv (.bool false),loop_at K _ _ t18L0.eq_1 ?_,Int.le_refl _,Int.le_refl _,fun h => absurd h (by decide)⟩
   simp (config := { maxSteps := 4000000 }) (disch := omega) only [go_sem,hle]
  ·have hix := ixEx (g := e.g) hla
   obtain ⟨r1,c18,g0,g1,g2⟩ := ih e.ks[i] (List.getElem_mem _) left S (by omega) h1
   obtain ⟨r,y4,y6,hlp,q0,q1,q2⟩ := loop18 e hw ih x0 x3 x5 S k (i + 1) r1 (.iv (.bool true)) (by omega) g0 (by omega)
   refine ⟨r,y4,y6,loop_at K _ _ t18L0.eq_1 ?_,q0,by omega,fun hr => ?_⟩
   ·rw [show ((i + 1 : Nat) : Int) = (i : Int) + 1 by omega] at hlp
    generalize e.ks[i] = y at *
    simp (config := { maxSteps := 4000000 }) (disch := omega) only [go_sem,hle,hix,get_cp5,c18,wrap_i64]
    exact congrArg er hlp
   ·have := q2 hr
    have := g2 (by omega)
    rw [hdr,szs]; omega
theorem call18 : ∀ (n : Nat) (e : Ex),e.w ≤ n → n ≤ 1048576 → SzOK e
 | 0,e,hw,_ => by have := Ex.w_eq e; omega
 | n + 1,e,hw,hn => by
  intro left S h1 h2
  have hse := sz_eq e
  have hvw : e.vs.length ≤ 1048576 := by have := Ex.w_eq e; omega
  have hl1 : (TM.one (.int .i64) e.vs).length = e.vs.length := by unfold TM.one; simp
  by_cases hv : 100 < e.vs.length
  ·refine ⟨0,call_ret' K _ (fn := t18) rfl rfl ?_,Int.le_refl _,by omega,fun h => absurd h (by decide)⟩
   simp (config := { maxSteps := 4000000 }) (disch := omega) only [t18,go_sem,TM.undef,hl1,wrap_i64]
  ·obtain ⟨r,y4,y6,hlp,q0,q1,q2⟩ := loop18 e (by omega) (fun x hx => call18 n x (by have := Ex.kid_lt hx; omega) (by omega)) (agX e) (.iv (.int .i64 0)) (.iv (.bool false)) S e.ks.length 0 (left - 1) (.tup []) (by omega) (by omega) (by omega)
   refine ⟨r,call_ret' K _ (fn := t18) rfl rfl ?_,q0,by omega,fun hr => by have := q2 hr; rw [List.drop_zero] at this; omega⟩
   simp (config := { maxSteps := 4000000 }) (disch := omega) only [t18,go_sem,TM.undef,hl1,wrap_i64]
   rw [show ((0 : Nat) : Int) = 0 from rfl] at hlp
   rw [hlp]
   simp (config := { maxSteps := 4000000 }) (disch := omega) only [go_sem]
theorem call7 (p : Pg) (hp : p.b.w ≤ 1048576 ∧ Dt.ws p.cs ≤ 1048576) (S : Store) : ∃ b : Bool,(lim K).call 7 [.iv (.agg (encP p))] S = .ret (.iv (.bool b),S) ∧ (b = true → sz p.b ≤ 2000 ∧ p.cs.length ≤ 2000 ∧ p.vr ≤ 1099511627776) := by
 obtain ⟨r,c18,h0,h1,h2⟩ := call18 p.b.w p.b (Nat.le_refl _) hp.1 2000 S (by decide) (by decide)
 have hwl := Dt.ws_len p.cs
 have hdl : (encDs p.cs).length = p.cs.length := encDs_len p.cs
 refine ⟨decide (0 < r) && decide (p.cs.length ≤ 2000) && decide (p.vr ≤ 1099511627776),call_ret' K _ (fn := t7) rfl rfl ?_,fun h => ?_⟩
 ·unfold encP
  by_cases g1 : 0 < r
  ·by_cases g2 : p.cs.length ≤ 2000
   ·simp (config := { maxSteps := 4000000 }) (disch := omega) only [t7,go_sem,TM.undef,c18,hdl,g1,g2]
   ·simp (config := { maxSteps := 4000000 }) (disch := omega) only [t7,go_sem,TM.undef,c18,hdl,g1,g2]
  ·simp (config := { maxSteps := 4000000 }) (disch := omega) only [t7,go_sem,TM.undef,c18,hdl,g1]
 ·simp only [Bool.and_eq_true,decide_eq_true_eq] at h
  have := h2 h.1.1
  exact ⟨by omega,h.1.2,h.2⟩
attribute [go_sem] beq_self_eq_true decT decF ifT ifF eqT eqF neT neF bytesIV_length TM.one_length get_cp0 List.replicate List.cons_append List.nil_append decide_true decide_false
attribute [go_sem] Nat.reduceAdd Nat.reduceSub Nat.reduceMul Nat.reduceLT Nat.reduceLeDiff Nat.reduceEqDiff Nat.reduceBEq reduceIte reduceCtorEq Int.reduceEq Int.reduceLT Int.reduceLE Int.reduceAdd Int.reduceSub Int.reduceMul Int.reduceToNat Int.reduceNeg Int.reduceBEq Int.reduceBNe Int.reduceTDiv Int.reduceTMod Int.reducePow Nat.reducePow Nat.reduceDiv Nat.reduceMod Int.reduceMod Int.reduceDiv Int.reduceNe Int.reduceFDiv
theorem Grew.refl {n0 : Nat} {S : Store} {w el : Nat} {l : List (List IV)} {j : Nat} (h : Gl n0 S w el l j) : Grew n0 S S w el l [] j j :=
 ⟨by rw [List.append_nil]; exact h,Nat.le_refl _,fun q b hq _ => hq,fun _ => rfl,fun _ h => absurd rfl h⟩
theorem Grew.trans {n0 : Nat} {S S1 S2 : Store} {w el : Nat} {l ys zs : List (List IV)} {j j1 j2 : Nat} (a : Grew n0 S S1 w el l ys j j1) (b : Grew n0 S1 S2 w el (l ++ ys) zs j1 j2) : Grew n0 S S2 w el l (ys ++ zs) j j2 := by
 refine ⟨by rw [← List.append_assoc]; exact b.gl,Nat.le_trans a.len b.len,fun q B hq hn => ?_,fun hl => ?_,fun hl hyz => ?_⟩
 ·refine b.old q B (a.old q B hq hn) fun h0 => ?_
  by_cases hl : l = []
  ·have hy : ys ≠ [] := by rintro rfl; rw [hl] at h0; exact h0 rfl
   have := a.frsh hl hy
   have := lt_get hq
   omega
  ·rw [a.same hl]; exact hn hl
 ·rw [b.same (by intro h; exact hl (List.append_eq_nil_iff.1 h).1),a.same hl]
 ·by_cases hy : ys = []
  ·subst hy
   have := b.frsh (by rw [hl]; rfl) (by simpa using hyz)
   have := a.len
   omega
  ·have := a.frsh hl hy
   rw [b.same (by rw [hl]; simpa using hy)]
   exact this
mutual
def lamL : Ex → List Ex
 | .mk k n gv vs r g ks => (if k = 7 then [.mk k n gv vs r g ks] else []) ++ lamLs ks
def lamLs : List Ex → List Ex
 | [] => []
 | e :: es => lamL e ++ lamLs es
end
theorem lamL_eq (e : Ex) : lamL e = (if e.k = 7 then [e] else []) ++ lamLs e.ks := by cases e; rw [lamL]; rfl
mutual
theorem lamL_len : ∀ e : Ex,(lamL e).length ≤ e.w
 | .mk k n gv vs r g ks => by
  have h1 := lamLs_len ks
  have h2 := Ex.w_eq (.mk k n gv vs r g ks)
  have h3 : (Ex.mk k n gv vs r g ks).ks = ks := rfl
  rw [h3] at h2
  rw [lamL,List.length_append]
  split
  ·rw [List.length_singleton]; omega
  ·rw [List.length_nil]; omega
theorem lamLs_len : ∀ l : List Ex,(lamLs l).length ≤ Ex.ws l
 | [] => by simp [lamLs]
 | e :: es => by
  have h1 := lamL_len e
  have h2 := lamLs_len es
  have h3 : Ex.ws (e :: es) = e.w + Ex.ws es := by rw [Ex.ws]
  rw [lamLs,List.length_append]; omega
end
theorem encEs_el5 (l : List Ex) : Elems 5 (encEs l) := by
 intro y hy
 rw [encEs_map] at hy
 obtain ⟨e,_,rfl⟩ := List.mem_map.1 hy
 rw [encE_eq]
 exact ⟨rfl,rfl⟩
theorem encEs_app (a b : List Ex) : encEs (a ++ b) = encEs a ++ encEs b := by rw [encEs_map,encEs_map,encEs_map,List.map_append]
def LmOK (e : Ex) : Prop := ∀ {n0 : Nat} {S : Store} {l : List Ex} {j : Nat},Gl n0 S 5 25 (encEs l) j → n0 ≤ S.length → l.length + e.w ≤ 1500000 →
 ∃ j' S',(lim K).call 13 [agX e,acc j (encEs l)] S = .ret (acc j' (encEs (l ++ lamL e)),S') ∧ Grew n0 S S' 5 25 (encEs l) (encEs (lamL e)) j j'
theorem loop13 (e : Ex) (hw : e.w ≤ 1048576) (ih : ∀ x ∈ e.ks,LmOK x) (x0 x3 x5 : TV) {n0 : Nat} : ∀ (k i : Nat) (l : List Ex) (S : Store) (j : Nat) (x6 : TV),i + k = e.ks.length → Gl n0 S 5 25 (encEs l) j → n0 ≤ S.length → l.length + Ex.ws (e.ks.drop i) ≤ 1500000 →
  ∃ (j' : Nat) (S' : Store) (y6 : TV),lp' (lim K) t13L0 [x0,acc j (encEs l),lbX e,x3,.iv (.int .i64 i),x5,x6] S = .ret (.exit 0,[x0,acc j' (encEs (l ++ lamLs (e.ks.drop i))),lbX e,x3,.iv (.int .i64 e.ks.length),x5,y6],S') ∧ Grew n0 S S' 5 25 (encEs l) (encEs (lamLs (e.ks.drop i))) j j'
 | 0,i,l,S,j,x6,h,hg,hn,hl => by
  obtain rfl : i = e.ks.length := by omega
  have hle := encEs_len e.ks
  refine ⟨j,S,.iv (.bool false),?_,?_⟩
  ·rw [List.drop_length,lamLs,List.append_nil]
   refine loop_at K _ _ t13L0.eq_1 ?_
   simp (config := { maxSteps := 4000000 }) (disch := omega) only [go_sem,hle]
  ·rw [List.drop_length,lamLs]; exact Grew.refl hg
 | k + 1,i,l,S,j,x6,h,hg,hn,hl => by
  have hla : i < e.ks.length := by omega
  have hle := encEs_len e.ks
  have hwe := Ex.w_eq e
  have hkl := Ex.ws_len e.ks
  have hdr := List.drop_eq_getElem_cons hla
  have hix := ixEx (g := e.g) hla
  rw [hdr] at hl ⊢
  have h3 : ∀ (a : Ex) (r : List Ex),Ex.ws (a :: r) = a.w + Ex.ws r := fun a r => by rw [Ex.ws]
  rw [h3] at hl
  have hll := lamL_len e.ks[i]
  obtain ⟨j1,S1,c13,g1⟩ := ih e.ks[i] (List.getElem_mem _) hg hn (by omega)
  have hg1 := g1.gl
  rw [← encEs_app] at hg1
  obtain ⟨j2,S2,y6,hlp,g2⟩ := loop13 e hw ih x0 x3 x5 k (i + 1) (l ++ lamL e.ks[i]) S1 j1 (.iv (.bool true)) (by omega) hg1 (Nat.le_trans hn g1.len) (by rw [List.length_append]; omega)
  refine ⟨j2,S2,y6,loop_at K _ _ t13L0.eq_1 ?_,?_⟩
  ·rw [show ((i + 1 : Nat) : Int) = (i : Int) + 1 by omega,List.append_assoc] at hlp
   rw [lamLs]
   generalize e.ks[i] = y at *
   simp (config := { maxSteps := 4000000 }) (disch := omega) only [go_sem,hle,hix,get_cp5,c13,wrap_i64]
   exact congrArg er hlp
  ·rw [lamLs,encEs_app]
   rw [encEs_app] at g2
   exact g1.trans g2
theorem lm_step (e : Ex) (hw1 : e.w ≤ 1048576) (ih : ∀ x ∈ e.ks,LmOK x) : LmOK e := by
  intro n0 S l j hg hS hl
  have hwe := Ex.w_eq e
  by_cases h7 : e.k = 7
  ·have hae : IsEl S (.iv (.sl .full [encE e])) (encEs [e]) := by rw [encEs_map]; exact IsEl.sl ..
   obtain ⟨j1,S1,ap,g1⟩ := hg.more (b := 72) hae (encEs_el5 _) (encEs_el5 _) (roomy_ok (by rw [encEs_len,encEs_len]; simp; omega)) hS
   have hg1 := g1.gl
   rw [← encEs_app] at hg1 ap
   rw [encE_eq] at ap
   obtain ⟨j2,S2,y6,hlp,g2⟩ := loop13 e (by omega) ih (agX e) (.iv (.sl .nil [])) (.iv (.bool true)) e.ks.length 0 (l ++ [e]) S1 j1 (.tup []) (by omega) hg1 (Nat.le_trans hS g1.len) (by rw [List.drop_zero,List.length_append,List.length_singleton]; omega)
   rw [List.drop_zero] at hlp g2
   rw [lamL_eq,if_pos h7]
   refine ⟨j2,S2,call_ret' K _ (fn := t13) rfl rfl ?_,?_⟩
   ·rw [List.append_assoc] at hlp
    unfold agX lbX at *
    rw [h7] at ap
    rw [show ((0 : Nat) : Int) = 0 from rfl,h7] at hlp
    simp (config := { maxSteps := 4000000 }) (disch := omega) only [t13,go_sem,TM.undef,h7,ap]
    rw [hlp]
    simp (config := { maxSteps := 4000000 }) (disch := omega) only [go_sem]
   ·rw [encEs_app]
    rw [encEs_app] at g2
    exact g1.trans g2
  ·obtain ⟨j2,S2,y6,hlp,g2⟩ := loop13 e (by omega) ih (agX e) (.iv (.sl .nil [])) (.iv (.bool false)) e.ks.length 0 l S j (.tup []) (by omega) hg hS (by rw [List.drop_zero]; omega)
   rw [List.drop_zero] at hlp g2
   rw [lamL_eq,if_neg h7,List.nil_append]
   refine ⟨j2,S2,call_ret' K _ (fn := t13) rfl rfl ?_,g2⟩
   simp (config := { maxSteps := 4000000 }) (disch := omega) only [t13,go_sem,TM.undef,h7]
   rw [show ((0 : Nat) : Int) = 0 from rfl] at hlp
   rw [hlp]
   simp (config := { maxSteps := 4000000 }) (disch := omega) only [go_sem]
theorem call13 : ∀ (n : Nat) (e : Ex),e.w ≤ n → n ≤ 1048576 → LmOK e
 | 0,e,hw,_ => by have := Ex.w_eq e; omega
 | n + 1,e,hw,hn => lm_step e (by omega) fun x hx => call13 n x (by have := Ex.kid_lt hx; omega) (by omega)
theorem one_len (l : List Int) : (TM.one (.int .i64) l).length = l.length := by unfold TM.one; simp
theorem ixOne {t : Tag} {l : List Int} {i : Nat} (h : i < l.length) : indexAddrS 1 (.iv (.sl t (TM.one (.int .i64) l))) (i : Int) = some (.iv (.cp [.int .i64 l[i]])) := by
 refine ix_ok (by omega) ?_ rfl
 rw [Int.toNat_natCast]
 unfold TM.one
 rw [List.getElem?_map,List.getElem?_eq_getElem h]
 rfl
theorem loop14 (t : Tag) (l : List Int) (hl : l.length ≤ 2000000) (n : Int) (S : Store) : ∀ (k i : Nat) (x2 x4 x5 : TV),i + k = l.length →
  ∃ j y2 y3 y4 y5,lp' (lim K) t14L0 [.iv (.sl t (TM.one (.int .i64) l)),.iv (.int .i64 n),x2,.iv (.int .i64 i),x4,x5] S = .ret (j,[.iv (.sl t (TM.one (.int .i64) l)),.iv (.int .i64 n),y2,y3,y4,y5],S) ∧
   ((j = .exit 0 ∧ n ∉ l.drop i) ∨ (j = .ret ∧ n ∈ l.drop i ∧ y2 = .iv (.bool true)))
 | 0,i,x2,x4,x5,h => by
  obtain rfl : i = l.length := by omega
  have hle := one_len l
  refine ⟨.exit 0,x2,.iv (.int .i64 l.length),.iv (.bool false),x5,loop_at K _ _ t14L0.eq_1 ?_,.inl ⟨rfl,by simp⟩⟩
  simp (config := { maxSteps := 4000000 }) (disch := omega) only [go_sem,hle]
 | k + 1,i,x2,x4,x5,h => by
  have hla : i < l.length := by omega
  have hle := one_len l
  have hix := ixOne (t := t) hla
  have hdr := List.drop_eq_getElem_cons hla
  by_cases he : l[i] = n
  ·refine ⟨.ret,.iv (.bool true),.iv (.int .i64 i),.iv (.bool true),.iv (.bool true),loop_at K _ _ t14L0.eq_1 ?_,.inr ⟨rfl,by rw [hdr,he]; simp,rfl⟩⟩
   simp (config := { maxSteps := 4000000 }) (disch := omega) only [go_sem,hle,hix,he]
  ·obtain ⟨j,y2,y3,y4,y5,hlp,hj⟩ := loop14 t l hl n S k (i + 1) x2 (.iv (.bool true)) (.iv (.bool false)) (by omega)
   refine ⟨j,y2,y3,y4,y5,loop_at K _ _ t14L0.eq_1 ?_,?_⟩
   ·rw [show ((i + 1 : Nat) : Int) = (i : Int) + 1 by omega] at hlp
    simp (config := { maxSteps := 4000000 }) (disch := omega) only [go_sem,hle,hix,he,wrap_i64]
    exact congrArg er hlp
   ·rw [hdr,List.mem_cons]
    have : n ≠ l[i] := fun h => he h.symm
    simpa [this] using hj
theorem call14 (t : Tag) (l : List Int) (hl : l.length ≤ 2000000) (n : Int) : TM.Pure K 14 [.iv (.sl t (TM.one (.int .i64) l)),.iv (.int .i64 n)] (.iv (.bool (decide (n ∈ l)))) := by
 obtain ⟨j,y2,y3,y4,y5,hlp,hj⟩ := loop14 t l hl n [] l.length 0 (.iv (.bool false)) (.tup []) (.tup []) (by omega)
 rw [List.drop_zero] at hj
 rw [show ((0 : Nat) : Int) = 0 from rfl] at hlp
 rcases hj with ⟨rfl,hm⟩ | ⟨rfl,hm,rfl⟩
 ·rw [decide_eq_false hm]
  refine call_pure t14 rfl rfl ?_
  simp (config := { maxSteps := 4000000 }) (disch := omega) only [t14,go_sem,TM.undef]
  rw [hlp]
  simp (config := { maxSteps := 4000000 }) (disch := omega) only [go_sem]
 ·rw [decide_eq_true hm]
  refine call_pure t14 rfl rfl ?_
  simp (config := { maxSteps := 4000000 }) (disch := omega) only [t14,go_sem,TM.undef]
  rw [hlp]
  simp (config := { maxSteps := 4000000 }) (disch := omega) only [go_sem]
theorem loop15 (t1 t2 : Tag) (a b : List Int) (hl : a.length = b.length) (hb : a.length ≤ 2000000) (x4 : TV) (S : Store) : ∀ (k i : Nat) (x2 x5 x6 : TV),i + k = a.length →
  ∃ j y2 y3 y5 y6,lp' (lim K) t15L0 [.iv (.sl t1 (TM.one (.int .i64) a)),.iv (.sl t2 (TM.one (.int .i64) b)),x2,.iv (.int .i64 i),x4,x5,x6] S = .ret (j,[.iv (.sl t1 (TM.one (.int .i64) a)),.iv (.sl t2 (TM.one (.int .i64) b)),y2,y3,x4,y5,y6],S) ∧
   ((j = .exit 0 ∧ a.drop i = b.drop i) ∨ (j = .ret ∧ a.drop i ≠ b.drop i ∧ y2 = .iv (.bool false)))
 | 0,i,x2,x5,x6,h => by
  obtain rfl : i = a.length := by omega
  have hle := one_len a
  refine ⟨.exit 0,x2,.iv (.int .i64 a.length),.iv (.bool false),x6,loop_at K _ _ t15L0.eq_1 ?_,.inl ⟨rfl,by rw [List.drop_length,hl,List.drop_length]⟩⟩
  simp (config := { maxSteps := 4000000 }) (disch := omega) only [go_sem,hle]
 | k + 1,i,x2,x5,x6,h => by
  have hla : i < a.length := by omega
  have hlb : i < b.length := by omega
  have hle := one_len a
  have hix := ixOne (t := t1) hla
  have hiy := ixOne (t := t2) hlb
  have hda := List.drop_eq_getElem_cons hla
  have hdb := List.drop_eq_getElem_cons hlb
  by_cases he : a[i] = b[i]
  ·obtain ⟨j,y2,y3,y5,y6,hlp,hj⟩ := loop15 t1 t2 a b hl hb x4 S k (i + 1) x2 (.iv (.bool true)) (.iv (.bool false)) (by omega)
   refine ⟨j,y2,y3,y5,y6,loop_at K _ _ t15L0.eq_1 ?_,?_⟩
   ·rw [show ((i + 1 : Nat) : Int) = (i : Int) + 1 by omega] at hlp
    simp (config := { maxSteps := 4000000 }) (disch := omega) only [go_sem,hle,hix,hiy,he,wrap_i64]
    exact congrArg er hlp
   ·rw [hda,hdb,he]
    simpa only [List.cons.injEq,true_and,ne_eq] using hj
  ·refine ⟨.ret,.iv (.bool false),.iv (.int .i64 i),.iv (.bool true),.iv (.bool true),loop_at K _ _ t15L0.eq_1 ?_,.inr ⟨rfl,by rw [hda,hdb]; intro h; exact he (List.cons.inj h).1,rfl⟩⟩
   simp (config := { maxSteps := 4000000 }) (disch := omega) only [go_sem,hle,hix,hiy,he]
theorem call15 (t1 t2 : Tag) (a b : List Int) (hb : a.length ≤ 2000000 ∧ b.length ≤ 2000000) : TM.Pure K 15 [.iv (.sl t1 (TM.one (.int .i64) a)),.iv (.sl t2 (TM.one (.int .i64) b))] (.iv (.bool (decide (a = b)))) := by
 have h1 := one_len a
 have h2 := one_len b
 by_cases hl : a.length = b.length
 ·obtain ⟨j,y2,y3,y5,y6,hlp,hj⟩ := loop15 t1 t2 a b hl hb.1 (.iv (.bool false)) [] a.length 0 (.iv (.bool false)) (.tup []) (.tup []) (by omega)
  rw [List.drop_zero,List.drop_zero] at hj
  rw [show ((0 : Nat) : Int) = 0 from rfl] at hlp
  rcases hj with ⟨rfl,hm⟩ | ⟨rfl,hm,rfl⟩
  ·rw [decide_eq_true hm]
   refine call_pure t15 rfl rfl ?_
   simp (config := { maxSteps := 4000000 }) (disch := omega) only [t15,go_sem,TM.undef,h1,h2,hl]
   rw [hlp]
   simp (config := { maxSteps := 4000000 }) (disch := omega) only [go_sem]
  ·rw [decide_eq_false hm]
   refine call_pure t15 rfl rfl ?_
   simp (config := { maxSteps := 4000000 }) (disch := omega) only [t15,go_sem,TM.undef,h1,h2,hl]
   rw [hlp]
   simp (config := { maxSteps := 4000000 }) (disch := omega) only [go_sem]
 ·rw [decide_eq_false (by rintro rfl; exact hl rfl)]
  have hl' : ¬ ((a.length : Int) = b.length) := by omega
  refine call_pure t15 rfl rfl ?_
  simp (config := { maxSteps := 4000000 }) (disch := omega) only [t15,go_sem,TM.undef,h1,h2,hl']
def keyE (e : Ex) : List Int × Bool := (e.vs,e.r)
mutual
theorem lamL_count (κ : List Int × Bool) : ∀ e : Ex,((lamL e).map keyE).count κ = cE κ e
 | .mk k n gv vs r g ks => by
  have h := lamLs_count κ ks
  rw [lamL,cE,List.map_append,List.count_append,h]
  by_cases hk : k = 7
  ·rw [if_pos hk,List.map_singleton,List.count_singleton]
   have : keyE (.mk k n gv vs r g ks) = (vs,r) := rfl
   rw [this]
   by_cases he : (vs,r) = κ
   ·simp [hk,he]
   ·simp [hk,he]
  ·rw [if_neg hk,if_neg (fun h => hk h.1)]; rfl
theorem lamLs_count (κ : List Int × Bool) : ∀ l : List Ex,((lamLs l).map keyE).count κ = cEs κ l
 | [] => rfl
 | e :: es => by
  rw [lamLs,cEs,List.map_append,List.count_append,lamL_count κ e,lamLs_count κ es]
end
theorem lamL_mem {p : Pg} : ∀ (N : Nat) (e : Ex),e.w ≤ N → Fr p e → ∀ x ∈ lamL e,Fr p x ∧ x.k = 7 ∧ x.w ≤ e.w
 | 0,e,hw,_ => by have := Ex.w_eq e; omega
 | N + 1,e,hw,hf => by
  have hK : ∀ x ∈ e.ks,Fr p x := Frs_iff.1 ((Fr_eq p e).1 hf).2
  have key : ∀ (l : List Ex),(∀ x ∈ l,x ∈ e.ks) → ∀ x ∈ lamLs l,Fr p x ∧ x.k = 7 ∧ x.w ≤ e.w := by
   intro l
   induction l with
   | nil => intro _ x hx; rw [lamLs] at hx; cases hx
   | cons a r ih =>
    intro hl x hx
    rw [lamLs] at hx
    have ha := hl a (by simp)
    have hlt := Ex.kid_lt ha
    rcases List.mem_append.1 hx with hx | hx
    ·obtain ⟨h1,h2,h3⟩ := lamL_mem N a (by omega) (hK a ha) x hx
     exact ⟨h1,h2,by omega⟩
    ·exact ih (fun x hx => hl x (by simp [hx])) x hx
  intro x hx
  rw [lamL_eq] at hx
  rcases List.mem_append.1 hx with hx | hx
  ·split at hx
   ·rw [List.mem_singleton] at hx; subst hx; exact ⟨hf,by assumption,Nat.le_refl _⟩
   ·cases hx
  ·exact key e.ks (fun _ h => h) x hx
def idx (vr : Int) : Nat → List (List IV) → List Nat
 | _,[] => []
 | o,f :: r => if keyF vr f = [] then idx vr (o + 1) r else o :: idx vr (o + 1) r
theorem keyF_one (vr : Int) (f : List IV) : keyF vr f = [] ∨ ∃ κ,keyF vr f = [κ] := by
 unfold keyF
 split
 ·split
  ·exact .inl rfl
  ·split
   ·exact .inl rfl
   ·exact .inr ⟨_,rfl⟩
 ·exact .inl rfl
theorem idx_mem (vr : Int) : ∀ (l : List (List IV)) (o k : Nat),k ∈ idx vr o l ↔ o ≤ k ∧ ∃ f,l[k - o]? = some f ∧ keyF vr f ≠ []
 | [],o,k => by simp [idx]
 | f :: r,o,k => by
  have ih := idx_mem vr r (o + 1) k
  have hs : o + 1 ≤ k → k - o = (k - (o + 1)) + 1 := fun h => by omega
  rw [idx]
  split
  ·rename_i h0
   rw [ih]
   constructor
   ·rintro ⟨h1,g,h2,h3⟩
    exact ⟨by omega,g,by rw [hs h1,List.getElem?_cons_succ]; exact h2,h3⟩
   ·rintro ⟨h1,g,h2,h3⟩
    by_cases he : k = o
    ·subst he; rw [Nat.sub_self,List.getElem?_cons_zero] at h2; cases h2; exact absurd h0 h3
    ·rw [hs (by omega),List.getElem?_cons_succ] at h2
     exact ⟨by omega,g,h2,h3⟩
  ·rename_i h0
   rw [List.mem_cons,ih]
   constructor
   ·rintro (rfl | ⟨h1,g,h2,h3⟩)
    ·exact ⟨Nat.le_refl _,f,by rw [Nat.sub_self,List.getElem?_cons_zero],h0⟩
    ·exact ⟨by omega,g,by rw [hs h1,List.getElem?_cons_succ]; exact h2,h3⟩
   ·rintro ⟨h1,g,h2,h3⟩
    by_cases he : k = o
    ·exact .inl he
    ·rw [hs (by omega),List.getElem?_cons_succ] at h2
     exact .inr ⟨by omega,g,h2,h3⟩
theorem idx_nodup (vr : Int) : ∀ (l : List (List IV)) (o : Nat),(idx vr o l).Nodup
 | [],o => by rw [idx]; exact List.nodup_nil
 | f :: r,o => by
  rw [idx]
  split
  ·exact idx_nodup vr r (o + 1)
  ·refine List.nodup_cons.2 ⟨fun h => ?_,idx_nodup vr r (o + 1)⟩
   have := ((idx_mem vr r (o + 1) o).1 h).1
   omega
theorem idx_count (vr : Int) (κ : List Int × Bool) (G : Nat → List Int × Bool) : ∀ (l : List (List IV)) (o : Nat),(∀ i f κ',l[i]? = some f → keyF vr f = [κ'] → G (o + i) = κ') → ((idx vr o l).map G).count κ = cFs vr κ l
 | [],o,h => rfl
 | f :: r,o,h => by
  have ih := idx_count vr κ G r (o + 1) (fun i g κ' hi hk => by rw [show o + 1 + i = o + (i + 1) by omega]; exact h (i + 1) g κ' (by rw [List.getElem?_cons_succ]; exact hi) hk)
  rw [idx,cFs,← ih]
  rcases keyF_one vr f with h0 | ⟨κ',h0⟩
  ·rw [if_pos h0]
   unfold cF; rw [h0]; simp
  ·rw [if_neg (by rw [h0]; simp)]
   have hG := h 0 f κ' rfl h0
   unfold cF
   rw [h0,List.map_cons,List.count_cons,List.count_singleton,← hG,Nat.add_zero]
   exact Nat.add_comm _ _
structure Gy (J : List Nat) (G : Nat → List Int × Bool) (L : List Ex) (i : Nat) (is R : List Nat) : Prop where
 p : (is ++ R).Perm J
 g : is.map G = (L.take i).map keyE
theorem Gy.find {J : List Nat} {G : Nat → List Int × Bool} {L : List Ex} {i : Nat} {is R : List Nat} (h : Gy J G L i is R) (hJ : (J.map G).Perm (L.map keyE)) (hn : J.Nodup) (hi : i < L.length) : ∃ k ∈ J,k ∉ is ∧ G k = keyE L[i] := by
 have h1 := (h.p.map G).trans hJ
 have h2 : L.map keyE = (L.take i).map keyE ++ (L.drop i).map keyE := by rw [← List.map_append,List.take_append_drop]
 rw [List.map_append,h.g,h2] at h1
 have h3 := (List.perm_append_left_iff _).1 h1
 have h4 : keyE L[i] ∈ (L.drop i).map keyE := by rw [List.drop_eq_getElem_cons hi,List.map_cons]; exact List.mem_cons_self
 obtain ⟨k,hk,he⟩ := List.mem_map.1 (h3.mem_iff.2 h4)
 have hnd := h.p.nodup_iff.2 hn
 exact ⟨k,h.p.mem_iff.1 (List.mem_append_right _ hk),fun hm => (List.nodup_append.1 hnd).2.2 k hm k hk rfl,he⟩
theorem Gy.step {J : List Nat} {G : Nat → List Int × Bool} {L : List Ex} {i : Nat} {is R : List Nat} (h : Gy J G L i is R) (hi : i < L.length) {k : Nat} (hk : k ∈ J) (hm : k ∉ is) (hg : G k = keyE L[i]) : ∃ R',Gy J G L (i + 1) (is ++ [k]) R' := by
 have hR : k ∈ R := by
  rcases List.mem_append.1 (h.p.mem_iff.2 hk) with h1 | h1
  ·exact absurd h1 hm
  ·exact h1
 refine ⟨R.erase k,?_,?_⟩
 ·rw [List.append_assoc]
  exact ((List.Perm.append_left is (List.perm_cons_erase hR)).symm).trans h.p
 ·rw [List.map_append,h.g,List.map_singleton,hg,List.take_add_one,List.getElem?_eq_getElem hi,List.map_append]
  rfl
theorem Gy.done {J : List Nat} {G : Nat → List Int × Bool} {L : List Ex} {is R : List Nat} (h : Gy J G L L.length is R) (hJ : (J.map G).Perm (L.map keyE)) : ∀ k ∈ J,k ∈ is := by
 have h1 := (h.p.map G).trans hJ
 rw [List.map_append,h.g,List.take_length] at h1
 have h2 := h1.length_eq
 rw [List.length_append] at h2
 have h3 : R = [] := by
  have : (R.map G).length = 0 := by omega
  simpa using this
 intro k hk
 have := h.p.mem_iff.2 hk
 rw [h3,List.append_nil] at this
 exact this
theorem ao2 (a b c d e : IV) : addOff (.iv (.cp [a,b,c,d,e])) 2 = some (.iv (.cp [c,d,e])) := rfl
theorem ao3 (a b c d e : IV) : addOff (.iv (.cp [a,b,c,d,e])) 3 = some (.iv (.cp [d,e])) := rfl
attribute [go_sem] ao2 ao3
theorem get_cp11 (env : Env) (S : Store) (a b c d e f g h i j k : IV) : getCells env S (.iv (.cp [a,b,c,d,e,f,g,h,i,j,k])) 11 = some [.iv a,.iv b,.iv c,.iv d,.iv e,.iv f,.iv g,.iv h,.iv i,.iv j,.iv k] := by simp [getCells,sub]
attribute [go_sem] get_cp11
def natsI (l : List Nat) : List Int := l.map Int.ofNat
theorem natsI_mem {l : List Nat} {k : Nat} : (k : Int) ∈ natsI l ↔ k ∈ l := by
 unfold natsI
 rw [List.mem_map]
 constructor
 ·rintro ⟨a,ha,he⟩
  have : a = k := Int.ofNat.inj he
  rw [← this]; exact ha
 ·intro h; exact ⟨k,h,rfl⟩
theorem natsI_snoc (l : List Nat) (k : Nat) : natsI (l ++ [k]) = natsI l ++ [(k : Int)] := by unfold natsI; rw [List.map_append]; rfl
theorem one_app (a b : List Int) : TM.one (.int .i64) (a ++ b) = TM.one (.int .i64) a ++ TM.one (.int .i64) b := by unfold TM.one; rw [List.map_append]
theorem one_el (l : List Int) : Elems 1 (TM.one (.int .i64) l) := by
 intro y hy
 unfold TM.one at hy
 obtain ⟨a,_,rfl⟩ := List.mem_map.1 hy
 exact ⟨rfl,rfl⟩
structure FE (f : List IV) (tg : Tag) (ps : List Int) (r c : Bool) (b0 b1 b2 b3 b4 : Int) (t5 t6 : Tag) (l5 l6 : List (List IV)) : Prop where
 e : f = [.sl tg (TM.one (.int .i64) ps),.bool r,.bool c,.sl .nil [],.int .i64 b0,.int .i64 b1,.int .i64 b2,.int .i64 b3,.int .i64 b4,.sl t5 l5,.sl t6 l6]
 t : TagOk tg ps
 l : ps.length ≤ 1048577
def FF (F : List (List IV)) : Prop := ∀ f ∈ F,∃ tg ps r c b0 b1 b2 b3 b4 t5 t6 l5 l6,FE f tg ps r c b0 b1 b2 b3 b4 t5 t6 l5 l6
def GdF (F : List (List IV)) (is : List Nat) (e : Ex) (k : Nat) : Prop := ∃ f tg ps r b0 b1 b2 b3 b4 t5 t6 l5 l6,F[k]? = some f ∧ FE f tg ps r false b0 b1 b2 b3 b4 t5 t6 l5 l6 ∧ k ∉ is ∧ k ≠ 1 ∧ ps.length = e.vs.length + 1 ∧ r = e.r ∧ ps.drop 1 = e.vs
theorem ixF {tg : Tag} {F : List (List IV)} {k : Nat} {f : List IV} (h : F[k]? = some f) (hl : f.length = 11) : indexAddrS 11 (.iv (.sl tg F)) (k : Int) = some (.iv (.cp f)) := ix_ok (by omega) (by rw [Int.toNat_natCast]; exact h) hl
theorem ixA {j : Nat} {L : List Ex} {i : Nat} (h : i < L.length) : indexAddrS 5 (acc j (encEs L)) (i : Int) = some (.iv (.cp [.int .i64 L[i].k,.int .i64 L[i].n,.sl L[i].gv (TM.one (.int .i64) L[i].vs),.bool L[i].r,.sl L[i].g (encEs L[i].ks)])) := by
 rw [acc_ne j (by intro e; have h1 := congrArg List.length e; rw [encEs_len,List.length_nil] at h1; omega),← encE_eq]
 refine ix_tsl (by omega) ?_ (encE_len _)
 rw [Int.toNat_natCast,encEs_map,List.getElem?_map,List.getElem?_eq_getElem h]
 rfl
theorem loop4b {F : List (List IV)} (hF : FF F) (hFl : F.length ≤ 1000000) {L : List Ex} (jl : Nat) {i : Nat} (hi : i < L.length) (hv : L[i].vs.length ≤ 1048576) {tgF : Tag} (c2 c3 : Int) (c4 : IV) {is : List Nat} (his : is.length ≤ 1000000) {n0 j : Nat} {S : Store} (hg : Gl n0 S 1 3 (TM.one (.int .i64) (natsI is)) j) (hn : n0 ≤ S.length) (x0 x1 x2 x4 x10 x11 x12 x13 x14 x17 x18 x19 : TV) :
  ∀ (m k : Nat) (x9 x15 x16 : TV),k + m = F.length → (∃ k',k ≤ k' ∧ GdF F is L[i] k') →
  ∃ (k' j' : Nat) (S' : Store) (y9 y15 y16 : TV),lp' (lim K) t4L1 [x0,x1,x2,.lb [.iv (.sl tgF F),.iv (.int .i64 1),.iv (.int .i64 c2),.iv (.int .i64 c3),.iv c4],x4,acc jl (encEs L),acc j (TM.one (.int .i64) (natsI is)),.iv (.int .i64 i),.iv (.int .i64 k),x9,x10,x11,x12,x13,x14,x15,x16,x17,x18,x19] S
   = .ret (.exit 2,[x0,x1,x2,.lb [.iv (.sl tgF F),.iv (.int .i64 1),.iv (.int .i64 c2),.iv (.int .i64 c3),.iv c4],x4,acc jl (encEs L),acc j' (TM.one (.int .i64) (natsI (is ++ [k']))),.iv (.int .i64 i),.iv (.int .i64 k'),y9,x10,x11,x12,x13,x14,y15,y16,x17,x18,x19],S') ∧
   GdF F is L[i] k' ∧ Grew n0 S S' 1 3 (TM.one (.int .i64) (natsI is)) (TM.one (.int .i64) [(k' : Int)]) j j'
 | 0,k,x9,x15,x16,h,⟨k',h1,h2⟩ => by
  obtain ⟨f,tg,ps,r,b0,b1,b2,b3,b4,t5,t6,l5,l6,hf,_⟩ := h2
  have := (List.getElem?_eq_some_iff.1 hf).1
  omega
 | m + 1,k,x9,x15,x16,h,⟨k',h1,h2⟩ => by
  have hla : k < F.length := by omega
  obtain ⟨tg,ps,r,c,b0,b1,b2,b3,b4,t5,t6,l5,l6,hfe⟩ := hF F[k] (List.getElem_mem _)
  have hfk : F[k]? = some F[k] := List.getElem?_eq_getElem hla
  have hixl := ixA (j := jl) hi
  have hpl := one_len ps
  have hvl := one_len L[i].vs
  have hps := hfe.l
  have h14 := call14 (sTag (TM.one (.int .i64) (natsI is))) (natsI is) (by unfold natsI; simp; omega) k
  have hcont : ¬ GdF F is L[i] k → ∃ k',k + 1 ≤ k' ∧ GdF F is L[i] k' := fun hng => ⟨k',by
   rcases Nat.lt_or_ge k k' with h3 | h3
   ·omega
   ·obtain rfl : k = k' := by omega
    exact absurd h2 hng,h2⟩
  have e1 : ((k + 1 : Nat) : Int) = (k : Int) + 1 := by omega
  have hixF := ixF (tg := tgF) hfk (by rw [hfe.e]; rfl)
  rw [hfe.e] at hixF
  have hun : ∀ {tg' : Tag} {ps' : List Int} {r' : Bool} {b0' b1' b2' b3' b4' : Int} {t5' t6' : Tag} {l5' l6' : List (List IV)},FE F[k] tg' ps' r' false b0' b1' b2' b3' b4' t5' t6' l5' l6' → ps' = ps ∧ r' = r ∧ c = false := fun g => by
   have := g.e.symm.trans hfe.e
   injection this with h1 h2
   injection h2 with h2 h3
   injection h3 with h3 h4
   injection h1 with h1 h1'
   injection h2 with h2
   injection h3 with h3
   have := congrArg intsOf h1'
   rw [intsOf_one,intsOf_one] at this
   exact ⟨this,h2,h3.symm⟩
  have hng : ∀ {f' : List IV} {tg' : Tag} {ps' : List Int} {r' : Bool} {b0' b1' b2' b3' b4' : Int} {t5' t6' : Tag} {l5' l6' : List (List IV)},F[k]? = some f' → FE f' tg' ps' r' false b0' b1' b2' b3' b4' t5' t6' l5' l6' → ps' = ps ∧ r' = r ∧ c = false := fun g1 g2 => by
   rw [hfk] at g1; cases g1; exact hun g2
  have IH := fun hn' : ¬ GdF F is L[i] k => loop4b hF hFl jl hi hv (tgF := tgF) c2 c3 c4 his hg hn x0 x1 x2 x4 x10 x11 x12 x13 x14 x17 x18 x19 m (k + 1) (.lb [.iv (.sl tg (TM.one (.int .i64) ps)),.iv (.bool r),.iv (.bool c),.iv (.sl .nil []),.iv (.int .i64 b0),.iv (.int .i64 b1),.iv (.int .i64 b2),.iv (.int .i64 b3),.iv (.int .i64 b4),.iv (.sl t5 l5),.iv (.sl t6 l6)]) (.iv (.bool true)) (.iv (.bool true)) (by omega) (hcont hn')
  by_cases q1 : c = true
  ·obtain ⟨k2,j2,S2,y9,y15,y16,hlp,hgd,hgr⟩ := IH (by
    rintro ⟨f,tg',ps',r',c0,c1,c2,c3,c4,u5,u6,v5,v6,g1,g2,_⟩
    have := (hng g1 g2).2.2
    rw [q1] at this; cases this)
   subst q1
   rw [e1] at hlp
   refine ⟨k2,j2,S2,y9,y15,y16,loop_at K _ _ t4L1.eq_1 ?_,hgd,hgr⟩
   simp (config := { maxSteps := 4000000 }) (disch := omega) only [go_sem,hixF,wrap_i64]
   exact congrArg er hlp
  have q1' : c = false := by cases c <;> simp at q1 ⊢
  subst q1'
  by_cases q2 : k ∈ is
  ·rw [decide_eq_true (natsI_mem.2 q2)] at h14
   obtain ⟨k2,j2,S2,y9,y15,y16,hlp,hgd,hgr⟩ := IH (by
    rintro ⟨f,tg',ps',r',c0,c1,c2,c3,c4,u5,u6,v5,v6,g1,g2,g3,_⟩
    exact g3 q2)
   rw [e1] at hlp
   refine ⟨k2,j2,S2,y9,y15,y16,loop_at K _ _ t4L1.eq_1 ?_,hgd,hgr⟩
   simp (config := { maxSteps := 4000000 }) (disch := omega) only [go_sem,hixF,cpR_pure h14,wrap_i64]
   exact congrArg er hlp
  rw [decide_eq_false (fun h => q2 (natsI_mem.1 h))] at h14
  by_cases q3 : k = 1
  ·obtain ⟨k2,j2,S2,y9,y15,y16,hlp,hgd,hgr⟩ := IH (by
    rintro ⟨f,tg',ps',r',c0,c1,c2,c3,c4,u5,u6,v5,v6,g1,g2,g3,g4,_⟩
    exact g4 q3)
   have q3' : (k : Int) = 1 := by omega
   rw [e1] at hlp
   refine ⟨k2,j2,S2,y9,y15,y16,loop_at K _ _ t4L1.eq_1 ?_,hgd,hgr⟩
   rw [q3'] at hixF h14 hlp ⊢
   rw [show (1 : Int) + 1 = 2 from rfl] at hlp
   have hkl : (1 : Int) < F.length := by omega
   simp (config := { maxSteps := 4000000 }) (disch := omega) only [go_sem,hixF,cpR_pure h14,wrap_i64]
   exact congrArg er hlp
  have q3' : ¬ ((k : Int) = 1) := by omega
  by_cases q4 : ps.length = L[i].vs.length + 1
  ·have q4' : (ps.length : Int) = (L[i].vs.length : Int) + 1 := by omega
   by_cases q5 : r = L[i].r
   ·have hsl := slice_one_lo (f := IV.int .i64) S (a := 1) hfe.t (by omega)
    rw [show (1 : Int).toNat = 1 from rfl] at hsl
    have h15 := call15 tg L[i].gv (ps.drop 1) L[i].vs (by simp; omega)
    by_cases q6 : ps.drop 1 = L[i].vs
    ·rw [decide_eq_true q6] at h15
     obtain ⟨j2,S2,ap,gr⟩ := hg.more (b := 8) (IsEl.sl S .full (TM.one (.int .i64) [(k : Int)])) (one_el _) (one_el _) (roomy_ok (by rw [one_len,one_len]; unfold natsI; simp; omega)) hn
     rw [← one_app,← natsI_snoc] at ap
     refine ⟨k,j2,S2,(.lb [.iv (.sl tg (TM.one (.int .i64) ps)),.iv (.bool r),.iv (.bool false),.iv (.sl .nil []),.iv (.int .i64 b0),.iv (.int .i64 b1),.iv (.int .i64 b2),.iv (.int .i64 b3),.iv (.int .i64 b4),.iv (.sl t5 l5),.iv (.sl t6 l6)]),.iv (.bool true),.iv (.bool false),loop_at K _ _ t4L1.eq_1 ?_,⟨_,tg,ps,r,b0,b1,b2,b3,b4,t5,t6,l5,l6,hfk,hfe,q2,q3,q4,q5,q6⟩,gr⟩
     have hone : TM.one (.int .i64) [(k : Int)] = [[.int .i64 k]] := rfl
     rw [hone] at ap
     generalize L[i] = z at *
     subst q5
     simp (config := { maxSteps := 4000000 }) (disch := omega) only [go_sem,hixF,cpR_pure h14,wrap_i64,q3',hixl,hpl,hvl,q4',hsl,cpR_pure h15,ap]
    ·rw [decide_eq_false q6] at h15
     obtain ⟨k2,j2,S2,y9,y15,y16,hlp,hgd,hgr⟩ := IH (by
      rintro ⟨f,tg',ps',r',c0,c1,c2,c3,c4,u5,u6,v5,v6,g1,g2,g3,g4,g5,g6,g7⟩
      rw [(hng g1 g2).1] at g7
      exact q6 g7)
     rw [e1] at hlp
     refine ⟨k2,j2,S2,y9,y15,y16,loop_at K _ _ t4L1.eq_1 ?_,hgd,hgr⟩
     generalize L[i] = z at *
     subst q5
     simp (config := { maxSteps := 4000000 }) (disch := omega) only [go_sem,hixF,cpR_pure h14,wrap_i64,q3',hixl,hpl,hvl,q4',hsl,cpR_pure h15]
     exact congrArg er hlp
   ·obtain ⟨k2,j2,S2,y9,y15,y16,hlp,hgd,hgr⟩ := IH (by
     rintro ⟨f,tg',ps',r',c0,c1,c2,c3,c4,u5,u6,v5,v6,g1,g2,g3,g4,g5,g6,_⟩
     rw [(hng g1 g2).2.1] at g6
     exact q5 g6)
    rw [e1] at hlp
    refine ⟨k2,j2,S2,y9,y15,y16,loop_at K _ _ t4L1.eq_1 ?_,hgd,hgr⟩
    generalize L[i] = z at *
    have q5' : (r == z.r) = false := by simpa using q5
    simp (config := { maxSteps := 4000000 }) (disch := omega) only [go_sem,hixF,cpR_pure h14,wrap_i64,q3',hixl,hpl,hvl,q4',q5']
    exact congrArg er hlp
  ·have q4' : ¬ ((ps.length : Int) = (L[i].vs.length : Int) + 1) := by omega
   obtain ⟨k2,j2,S2,y9,y15,y16,hlp,hgd,hgr⟩ := IH (by
    rintro ⟨f,tg',ps',r',c0,c1,c2,c3,c4,u5,u6,v5,v6,g1,g2,g3,g4,g5,_⟩
    rw [(hng g1 g2).1] at g5
    exact q4 g5)
   rw [e1] at hlp
   refine ⟨k2,j2,S2,y9,y15,y16,loop_at K _ _ t4L1.eq_1 ?_,hgd,hgr⟩
   generalize L[i] = z at *
   simp (config := { maxSteps := 4000000 }) (disch := omega) only [go_sem,hixF,cpR_pure h14,wrap_i64,q3',hixl,hpl,hvl,q4']
   exact congrArg er hlp
theorem loop4a {F : List (List IV)} (hF : FF F) (hFl : F.length ≤ 1000000) {L : List Ex} (hL : L.length ≤ 1000000) (jl : Nat) (hv : ∀ e ∈ L,e.vs.length ≤ 1048576) {tgF : Tag} (c2 c3 : Int) (c4 : IV) {J : List Nat} {G : Nat → List Int × Bool} (hJ : (J.map G).Perm (L.map keyE)) (hn : J.Nodup)
  (h1 : ∀ k ∈ J,∀ i (hi : i < L.length) is,k ∉ is → G k = keyE L[i] → GdF F is L[i] k) (h2 : ∀ k i (hi : i < L.length) is,GdF F is L[i] k → k ∈ J ∧ k ∉ is ∧ G k = keyE L[i])
  {n0 : Nat} (x0 x1 x2 x4 x10 x11 x12 x13 x17 x18 x19 : TV) :
  ∀ (m i : Nat) (is R : List Nat) (j : Nat) (S : Store) (x8 x9 x14 x15 x16 : TV),i + m = L.length → is.length = i → Gy J G L i is R → Gl n0 S 1 3 (TM.one (.int .i64) (natsI is)) j → n0 ≤ S.length →
  ∃ (is' R' : List Nat) (j' : Nat) (S' : Store) (y8 y9 y14 y15 y16 : TV),lp' (lim K) t4L2 [x0,x1,x2,.lb [.iv (.sl tgF F),.iv (.int .i64 1),.iv (.int .i64 c2),.iv (.int .i64 c3),.iv c4],x4,acc jl (encEs L),acc j (TM.one (.int .i64) (natsI is)),.iv (.int .i64 i),x8,x9,x10,x11,x12,x13,x14,x15,x16,x17,x18,x19] S
   = .ret (.exit 0,[x0,x1,x2,.lb [.iv (.sl tgF F),.iv (.int .i64 1),.iv (.int .i64 c2),.iv (.int .i64 c3),.iv c4],x4,acc jl (encEs L),acc j' (TM.one (.int .i64) (natsI is')),.iv (.int .i64 L.length),y8,y9,x10,x11,x12,x13,y14,y15,y16,x17,x18,x19],S') ∧ is'.length = L.length ∧ Gy J G L L.length is' R'
 | 0,i,is,R,j,S,x8,x9,x14,x15,x16,h,hil,hG,hg,hS => by
  obtain rfl : i = L.length := by omega
  have hle : lenV .sl S (acc jl (encEs L)) = some (.iv (.int .i64 L.length)) := by rw [(SR.acc jl (encEs L)).len S,encEs_len]
  refine ⟨is,R,j,S,x8,x9,.iv (.bool false),x15,x16,loop_at K _ _ t4L2.eq_1 ?_,hil,hG⟩
  simp (config := { maxSteps := 4000000 }) (disch := omega) only [go_sem,hle]
 | m + 1,i,is,R,j,S,x8,x9,x14,x15,x16,h,hil,hG,hg,hS => by
  have hla : i < L.length := by omega
  have hle : lenV .sl S (acc jl (encEs L)) = some (.iv (.int .i64 L.length)) := by rw [(SR.acc jl (encEs L)).len S,encEs_len]
  obtain ⟨k,hk,hki,hkg⟩ := hG.find hJ hn hla
  obtain ⟨k',j1,S1,y9,y15,y16,hlp,hgd,hgr⟩ := loop4b hF hFl jl hla (hv _ (List.getElem_mem _)) (tgF := tgF) c2 c3 c4 (by omega) hg hS x0 x1 x2 x4 x10 x11 x12 x13 (.iv (.bool true)) x17 x18 x19 F.length 0 x9 x15 x16 (by omega) ⟨k,by omega,h1 k hk i hla is hki hkg⟩
  obtain ⟨a1,a2,a3⟩ := h2 k' i hla is hgd
  obtain ⟨R1,hG1⟩ := hG.step hla a1 a2 a3
  have hg1 := hgr.gl
  rw [← one_app,← natsI_snoc] at hg1
  obtain ⟨is',R',j',S',y8,y9',y14,y15',y16',hl2,hz,hGz⟩ := loop4a hF hFl hL jl hv (tgF := tgF) c2 c3 c4 hJ hn h1 h2 x0 x1 x2 x4 x10 x11 x12 x13 x17 x18 x19 m (i + 1) (is ++ [k']) R1 j1 S1 (.iv (.int .i64 k')) y9 (.iv (.bool true)) y15 y16 (by omega) (by simp; omega) hG1 hg1 (Nat.le_trans hS hgr.len)
  refine ⟨is',R',j',S',y8,y9',y14,y15',y16',loop_at K _ _ t4L2.eq_1 ?_,hz,hGz⟩
  rw [show ((i + 1 : Nat) : Int) = (i : Int) + 1 by omega] at hl2
  rw [show ((0 : Nat) : Int) = 0 from rfl] at hlp
  simp (config := { maxSteps := 4000000 }) (disch := omega) only [go_sem,hle,wrap_i64]
  rw [hlp]
  simp (config := { maxSteps := 4000000 }) (disch := omega) only [go_sem,wrap_i64]
  exact congrArg er hl2
theorem loop4c {F : List (List IV)} (hF : FF F) (hFl : F.length ≤ 1000000) {tgF : Tag} (c2 c3 : Int) (c4 : IV) {is : List Nat} (his : is.length ≤ 1000000)
  (hb : ∀ k f tg ps r c b0 b1 b2 b3 b4 t5 t6 l5 l6,F[k]? = some f → FE f tg ps r c b0 b1 b2 b3 b4 t5 t6 l5 l6 → c = true ∨ k ∈ is ∨ k = 1 ∨ (ps.length = 2 ∧ r = true ∧ b0 = 6))
  (j : Nat) (S : Store) (x0 x1 x2 x4 x5 x7 x8 x9 x12 x13 x14 x15 x16 x17 : TV) :
  ∀ (m k : Nat) (x11 x18 x19 : TV),k + m = F.length →
  ∃ (y11 y18 y19 : TV),lp' (lim K) t4L0 [x0,x1,x2,.lb [.iv (.sl tgF F),.iv (.int .i64 1),.iv (.int .i64 c2),.iv (.int .i64 c3),.iv c4],x4,x5,acc j (TM.one (.int .i64) (natsI is)),x7,x8,x9,.iv (.int .i64 k),x11,x12,x13,x14,x15,x16,x17,x18,x19] S
   = .ret (.exit 4,[x0,x1,x2,.lb [.iv (.sl tgF F),.iv (.int .i64 1),.iv (.int .i64 c2),.iv (.int .i64 c3),.iv c4],x4,x5,acc j (TM.one (.int .i64) (natsI is)),x7,x8,x9,.iv (.int .i64 F.length),y11,x12,x13,x14,x15,x16,x17,y18,y19],S)
 | 0,k,x11,x18,x19,h => by
  obtain rfl : k = F.length := by omega
  refine ⟨x11,.iv (.bool false),x19,loop_at K _ _ t4L0.eq_1 ?_⟩
  simp (config := { maxSteps := 4000000 }) (disch := omega) only [go_sem]
 | m + 1,k,x11,x18,x19,h => by
  have hla : k < F.length := by omega
  obtain ⟨tg,ps,r,c,b0,b1,b2,b3,b4,t5,t6,l5,l6,hfe⟩ := hF F[k] (List.getElem_mem _)
  have hfk : F[k]? = some F[k] := List.getElem?_eq_getElem hla
  have hpl := one_len ps
  have hps := hfe.l
  have h14 := call14 (sTag (TM.one (.int .i64) (natsI is))) (natsI is) (by unfold natsI; simp; omega) k
  have e1 : ((k + 1 : Nat) : Int) = (k : Int) + 1 := by omega
  have hixF := ixF (tg := tgF) hfk (by rw [hfe.e]; rfl)
  rw [hfe.e] at hixF
  have hbk := hb k _ tg ps r c b0 b1 b2 b3 b4 t5 t6 l5 l6 hfk hfe
  obtain ⟨y11,y18,y19,ih⟩ := loop4c hF hFl (tgF := tgF) c2 c3 c4 his hb j S x0 x1 x2 x4 x5 x7 x8 x9 x12 x13 x14 x15 x16 x17 m (k + 1) (.lb [.iv (.sl tg (TM.one (.int .i64) ps)),.iv (.bool r),.iv (.bool c),.iv (.sl .nil []),.iv (.int .i64 b0),.iv (.int .i64 b1),.iv (.int .i64 b2),.iv (.int .i64 b3),.iv (.int .i64 b4),.iv (.sl t5 l5),.iv (.sl t6 l6)]) (.iv (.bool true)) (.iv (.bool false)) (by omega)
  rw [e1] at ih
  refine ⟨y11,y18,y19,loop_at K _ _ t4L0.eq_1 ?_⟩
  by_cases q1 : c = true
  ·subst q1
   simp (config := { maxSteps := 4000000 }) (disch := omega) only [go_sem,hixF,wrap_i64]
   exact congrArg er ih
  have q1' : c = false := by cases c <;> simp at q1 ⊢
  subst q1'
  by_cases q2 : k ∈ is
  ·rw [decide_eq_true (natsI_mem.2 q2)] at h14
   simp (config := { maxSteps := 4000000 }) (disch := omega) only [go_sem,hixF,cpR_pure h14,wrap_i64]
   exact congrArg er ih
  rw [decide_eq_false (fun h => q2 (natsI_mem.1 h))] at h14
  by_cases q3 : k = 1
  ·have q3' : (k : Int) = 1 := by omega
   rw [q3'] at hixF h14 ih ⊢
   have hkl : (1 : Int) < F.length := by omega
   rw [show (1 : Int) + 1 = 2 from rfl] at ih
   simp (config := { maxSteps := 4000000 }) (disch := omega) only [go_sem,hixF,cpR_pure h14,wrap_i64]
   exact congrArg er ih
  have q3' : ¬ ((k : Int) = 1) := by omega
  have hbk' : ps.length = 2 ∧ r = true ∧ b0 = 6 := by
   rcases hbk with h | h | h | h
   ·cases h
   ·exact absurd h q2
   ·exact absurd h q3
   ·exact h
  obtain ⟨g1,rfl,rfl⟩ := hbk'
  rw [g1] at hpl
  simp (config := { maxSteps := 4000000 }) (disch := omega) only [go_sem,hixF,cpR_pure h14,wrap_i64,q3',hpl]
  exact congrArg er ih
theorem frm_tf (p : Pg) (ib ik ir ic : Nat) (e : Ex) (hw : e.w ≤ 1048576) (S : Store) (hc : S[ic]? = some (ckB p ib ik ir)) (hcl : p.cs.length ≤ 2000000) (kids : Int) (word : List UInt8) (is : Bool) (hs : ofF e.k e.n = ⟨true,kids,false,word,is⟩) (h7 : e.k ≠ 7) : Ends p ib ik ir ic e S (frmF p e) := by
 have hwe := Ex.w_eq e
 have hwl := Ex.ws_len e.ks
 have h74 := call88 e []
 rw [hs] at h74
 simp only [encS] at h74
 have hlt := lt_get hc
 have h119 := call89
 have hk1 := Keep.app [] S [Block.cells 86 false [.ptr ic 89 0]]
 have hk2 := hk1.trans (Keep.app [] _ [Block.cells 154 false [.fn 89 [] []]])
 have hc1 : (S ++ [Block.cells 86 false [.ptr ic 89 0]])[ic]? = some (ckB p ib ik ir) := get_appO hc _
 have hc2 : (S ++ [Block.cells 86 false [.ptr ic 89 0]] ++ [Block.cells 154 false [.fn 89 [] []]])[ic]? = some (ckB p ib ik ir) := get_appO hc1 _
 have h120 := call90 91 (fun v => !decide (0 ≤ v ∧ v < p.vr)) (S ++ [Block.cells 86 false [TV.ptr ic 89 0]]).length 154 S.length 86 e.gv e.vs (by omega) _ (fun x _ => call91 p ib ik ir ic S.length (S ++ [Block.cells 86 false [.ptr ic 89 0]]).length x (S ++ [Block.cells 86 false [.ptr ic 89 0]] ++ [Block.cells 154 false [.fn 89 [] []]]) hc2 (get_app2 ..) (get_app1 ..))
 have hf : frmF p e = (!(!is || decide ((e.ks.length : Int) < kids) || (decide (kids < e.ks.length) && !false) || (!true && decide (e.n ≠ 0)) || (decide (e.k ≠ 7) && (decide (0 < e.vs.length) || e.r)) || (e.r && decide (e.vs.length = 0))) && frmB p e) := by
  unfold frmF frmA; rw [hs]
 rw [hf]
 clear hf hs
 unfold frmB
 rw [encE_eq] at h74
 unfold Ends
 rw [encE_eq]
 generalize e.r = r at h74 ⊢
 cases is
 ·exact ⟨_,call_ret' K _ (fn := t61) rfl rfl (by simp (config := { maxSteps := 4000000 }) (disch := omega) only [t61,go_sem,TM.undef,h74,encEs_len,TM.one_length,Bool.true_or,Bool.or_true,Bool.false_or,Bool.or_false,Bool.true_and,Bool.false_and,Bool.and_true,Bool.and_false,Bool.not_true,Bool.not_false,not_any] <;> simp (disch := omega) only [go_sem,Bool.true_or,Bool.or_true,Bool.false_or,Bool.or_false,Bool.true_and,Bool.false_and,Bool.and_true,Bool.and_false,Bool.not_true,Bool.not_false,not_any]),hk1⟩
 by_cases b1 : (e.ks.length : Int) < kids
 ·exact ⟨_,call_ret' K _ (fn := t61) rfl rfl (by simp (config := { maxSteps := 4000000 }) (disch := omega) only [t61,go_sem,TM.undef,h74,encEs_len,TM.one_length,Bool.true_or,Bool.or_true,Bool.false_or,Bool.or_false,Bool.true_and,Bool.false_and,Bool.and_true,Bool.and_false,Bool.not_true,Bool.not_false,not_any] <;> simp (disch := omega) only [go_sem,Bool.true_or,Bool.or_true,Bool.false_or,Bool.or_false,Bool.true_and,Bool.false_and,Bool.and_true,Bool.and_false,Bool.not_true,Bool.not_false,not_any]),hk1⟩
 by_cases b2 : kids < (e.ks.length : Int)
 ·exact ⟨_,call_ret' K _ (fn := t61) rfl rfl (by simp (config := { maxSteps := 4000000 }) (disch := omega) only [t61,go_sem,TM.undef,h74,encEs_len,TM.one_length,Bool.true_or,Bool.or_true,Bool.false_or,Bool.or_false,Bool.true_and,Bool.false_and,Bool.and_true,Bool.and_false,Bool.not_true,Bool.not_false,not_any] <;> simp (disch := omega) only [go_sem,Bool.true_or,Bool.or_true,Bool.false_or,Bool.or_false,Bool.true_and,Bool.false_and,Bool.and_true,Bool.and_false,Bool.not_true,Bool.not_false,not_any]),hk1⟩
 by_cases b4 : 0 < e.vs.length
 ·exact ⟨_,call_ret' K _ (fn := t61) rfl rfl (by simp (config := { maxSteps := 4000000 }) (disch := omega) only [t61,go_sem,TM.undef,h74,encEs_len,TM.one_length,Bool.true_or,Bool.or_true,Bool.false_or,Bool.or_false,Bool.true_and,Bool.false_and,Bool.and_true,Bool.and_false,Bool.not_true,Bool.not_false,not_any] <;> simp (disch := omega) only [go_sem,Bool.true_or,Bool.or_true,Bool.false_or,Bool.or_false,Bool.true_and,Bool.false_and,Bool.and_true,Bool.and_false,Bool.not_true,Bool.not_false,not_any]),hk1⟩
 cases r
 rotate_left
 ·exact ⟨_,call_ret' K _ (fn := t61) rfl rfl (by simp (config := { maxSteps := 4000000 }) (disch := omega) only [t61,go_sem,TM.undef,h74,encEs_len,TM.one_length,Bool.true_or,Bool.or_true,Bool.false_or,Bool.or_false,Bool.true_and,Bool.false_and,Bool.and_true,Bool.and_false,Bool.not_true,Bool.not_false,not_any] <;> simp (disch := omega) only [go_sem,Bool.true_or,Bool.or_true,Bool.false_or,Bool.or_false,Bool.true_and,Bool.false_and,Bool.and_true,Bool.and_false,Bool.not_true,Bool.not_false,not_any]),hk1⟩
 by_cases k1 : e.k = 1
 ·exact ⟨_,call_ret' K _ (fn := t61) rfl rfl (by simp (config := { maxSteps := 4000000 }) (disch := omega) only [t61,go_sem,TM.undef,h74,encEs_len,TM.one_length,Bool.true_or,Bool.or_true,Bool.false_or,Bool.or_false,Bool.true_and,Bool.false_and,Bool.and_true,Bool.and_false,Bool.not_true,Bool.not_false,not_any,hc1,hc2,get_app1,get_app2,set_app1,h119,h120,encDs_len] <;> simp (disch := omega) only [go_sem,Bool.true_or,Bool.or_true,Bool.false_or,Bool.or_false,Bool.true_and,Bool.false_and,Bool.and_true,Bool.and_false,Bool.not_true,Bool.not_false,not_any]),hk2⟩
 by_cases k2 : e.k = 2
 ·exact ⟨_,call_ret' K _ (fn := t61) rfl rfl (by simp (config := { maxSteps := 4000000 }) (disch := omega) only [t61,go_sem,TM.undef,h74,encEs_len,TM.one_length,Bool.true_or,Bool.or_true,Bool.false_or,Bool.or_false,Bool.true_and,Bool.false_and,Bool.and_true,Bool.and_false,Bool.not_true,Bool.not_false,not_any,hc1,hc2,get_app1,get_app2,set_app1,h119,h120] <;> simp (disch := omega) only [go_sem,Bool.true_or,Bool.or_true,Bool.false_or,Bool.or_false,Bool.true_and,Bool.false_and,Bool.and_true,Bool.and_false,Bool.not_true,Bool.not_false,not_any]),hk2⟩
 by_cases k4 : e.k = 4
 ·exact ⟨_,call_ret' K _ (fn := t61) rfl rfl (by simp (config := { maxSteps := 4000000 }) (disch := omega) only [t61,go_sem,TM.undef,h74,encEs_len,TM.one_length,Bool.true_or,Bool.or_true,Bool.false_or,Bool.or_false,Bool.true_and,Bool.false_and,Bool.and_true,Bool.and_false,Bool.not_true,Bool.not_false,not_any,hc1,hc2,get_app1,get_app2,set_app1,h119,h120] <;> simp (disch := omega) only [go_sem,Bool.true_or,Bool.or_true,Bool.false_or,Bool.or_false,Bool.true_and,Bool.false_and,Bool.and_true,Bool.and_false,Bool.not_true,Bool.not_false,not_any]),hk2⟩
 by_cases k3 : e.k = 3
 ·exact ⟨_,call_ret' K _ (fn := t61) rfl rfl (by simp (config := { maxSteps := 4000000 }) (disch := omega) only [t61,go_sem,TM.undef,h74,encEs_len,TM.one_length,Bool.true_or,Bool.or_true,Bool.false_or,Bool.or_false,Bool.true_and,Bool.false_and,Bool.and_true,Bool.and_false,Bool.not_true,Bool.not_false,not_any,hc1,hc2,get_app1,get_app2,set_app1,h119,h120] <;> simp (disch := omega) only [go_sem,Bool.true_or,Bool.or_true,Bool.false_or,Bool.or_false,Bool.true_and,Bool.false_and,Bool.and_true,Bool.and_false,Bool.not_true,Bool.not_false,not_any]),hk2⟩
 by_cases k5 : e.k = 5
 ·exact ⟨_,call_ret' K _ (fn := t61) rfl rfl (by simp (config := { maxSteps := 4000000 }) (disch := omega) only [t61,go_sem,TM.undef,h74,encEs_len,TM.one_length,Bool.true_or,Bool.or_true,Bool.false_or,Bool.or_false,Bool.true_and,Bool.false_and,Bool.and_true,Bool.and_false,Bool.not_true,Bool.not_false,not_any,hc1,hc2,get_app1,get_app2,set_app1,h119,h120] <;> simp (disch := omega) only [go_sem,Bool.true_or,Bool.or_true,Bool.false_or,Bool.or_false,Bool.true_and,Bool.false_and,Bool.and_true,Bool.and_false,Bool.not_true,Bool.not_false,not_any]),hk2⟩
 exact ⟨_,call_ret' K _ (fn := t61) rfl rfl (by simp (config := { maxSteps := 4000000 }) (disch := omega) only [t61,go_sem,TM.undef,h74,encEs_len,TM.one_length,Bool.true_or,Bool.or_true,Bool.false_or,Bool.or_false,Bool.true_and,Bool.false_and,Bool.and_true,Bool.and_false,Bool.not_true,Bool.not_false,not_any,hc1,hc2,get_app1,get_app2,set_app1,h119,h120] <;> simp (disch := omega) only [go_sem,Bool.true_or,Bool.or_true,Bool.false_or,Bool.or_false,Bool.true_and,Bool.false_and,Bool.and_true,Bool.and_false,Bool.not_true,Bool.not_false,not_any]),hk2⟩
theorem frm_ff (p : Pg) (ib ik ir ic : Nat) (e : Ex) (hw : e.w ≤ 1048576) (S : Store) (hc : S[ic]? = some (ckB p ib ik ir)) (hcl : p.cs.length ≤ 2000000) (kids : Int) (word : List UInt8) (is : Bool) (hs : ofF e.k e.n = ⟨false,kids,false,word,is⟩) (hk : e.k ≠ 1 ∧ e.k ≠ 2 ∧ e.k ≠ 3 ∧ e.k ≠ 4 ∧ e.k ≠ 5) : Ends p ib ik ir ic e S (frmF p e) := by
 have hwe := Ex.w_eq e
 have hwl := Ex.ws_len e.ks
 have h74 := call88 e []
 rw [hs] at h74
 simp only [encS] at h74
 have hlt := lt_get hc
 have h119 := call89
 have hk1 := Keep.app [] S [Block.cells 86 false [.ptr ic 89 0]]
 have hk2 := hk1.trans (Keep.app [] _ [Block.cells 154 false [.fn 89 [] []]])
 have hc1 : (S ++ [Block.cells 86 false [.ptr ic 89 0]])[ic]? = some (ckB p ib ik ir) := get_appO hc _
 have hc2 : (S ++ [Block.cells 86 false [.ptr ic 89 0]] ++ [Block.cells 154 false [.fn 89 [] []]])[ic]? = some (ckB p ib ik ir) := get_appO hc1 _
 have h120 := call90 91 (fun v => !decide (0 ≤ v ∧ v < p.vr)) (S ++ [Block.cells 86 false [TV.ptr ic 89 0]]).length 154 S.length 86 e.gv e.vs (by omega) _ (fun x _ => call91 p ib ik ir ic S.length (S ++ [Block.cells 86 false [.ptr ic 89 0]]).length x (S ++ [Block.cells 86 false [.ptr ic 89 0]] ++ [Block.cells 154 false [.fn 89 [] []]]) hc2 (get_app2 ..) (get_app1 ..))
 have hf : frmF p e = (!(!is || decide ((e.ks.length : Int) < kids) || (decide (kids < e.ks.length) && !false) || (!false && decide (e.n ≠ 0)) || (decide (e.k ≠ 7) && (decide (0 < e.vs.length) || e.r)) || (e.r && decide (e.vs.length = 0))) && frmB p e) := by
  unfold frmF frmA; rw [hs]
 rw [hf]
 clear hf hs
 unfold frmB
 rw [encE_eq] at h74
 unfold Ends
 rw [encE_eq]
 generalize e.r = r at h74 ⊢
 cases is
 ·exact ⟨_,call_ret' K _ (fn := t61) rfl rfl (by simp (config := { maxSteps := 4000000 }) (disch := omega) only [t61,go_sem,TM.undef,h74,encEs_len,TM.one_length,Bool.true_or,Bool.or_true,Bool.false_or,Bool.or_false,Bool.true_and,Bool.false_and,Bool.and_true,Bool.and_false,Bool.not_true,Bool.not_false,not_any] <;> simp (disch := omega) only [go_sem,Bool.true_or,Bool.or_true,Bool.false_or,Bool.or_false,Bool.true_and,Bool.false_and,Bool.and_true,Bool.and_false,Bool.not_true,Bool.not_false,not_any]),hk1⟩
 by_cases b1 : (e.ks.length : Int) < kids
 ·exact ⟨_,call_ret' K _ (fn := t61) rfl rfl (by simp (config := { maxSteps := 4000000 }) (disch := omega) only [t61,go_sem,TM.undef,h74,encEs_len,TM.one_length,Bool.true_or,Bool.or_true,Bool.false_or,Bool.or_false,Bool.true_and,Bool.false_and,Bool.and_true,Bool.and_false,Bool.not_true,Bool.not_false,not_any] <;> simp (disch := omega) only [go_sem,Bool.true_or,Bool.or_true,Bool.false_or,Bool.or_false,Bool.true_and,Bool.false_and,Bool.and_true,Bool.and_false,Bool.not_true,Bool.not_false,not_any]),hk1⟩
 by_cases b2 : kids < (e.ks.length : Int)
 ·exact ⟨_,call_ret' K _ (fn := t61) rfl rfl (by simp (config := { maxSteps := 4000000 }) (disch := omega) only [t61,go_sem,TM.undef,h74,encEs_len,TM.one_length,Bool.true_or,Bool.or_true,Bool.false_or,Bool.or_false,Bool.true_and,Bool.false_and,Bool.and_true,Bool.and_false,Bool.not_true,Bool.not_false,not_any] <;> simp (disch := omega) only [go_sem,Bool.true_or,Bool.or_true,Bool.false_or,Bool.or_false,Bool.true_and,Bool.false_and,Bool.and_true,Bool.and_false,Bool.not_true,Bool.not_false,not_any]),hk1⟩
 by_cases b3 : e.n = 0
 rotate_left
 ·exact ⟨_,call_ret' K _ (fn := t61) rfl rfl (by simp (config := { maxSteps := 4000000 }) (disch := omega) only [t61,go_sem,TM.undef,h74,encEs_len,TM.one_length,Bool.true_or,Bool.or_true,Bool.false_or,Bool.or_false,Bool.true_and,Bool.false_and,Bool.and_true,Bool.and_false,Bool.not_true,Bool.not_false,not_any] <;> simp (disch := omega) only [go_sem,Bool.true_or,Bool.or_true,Bool.false_or,Bool.or_false,Bool.true_and,Bool.false_and,Bool.and_true,Bool.and_false,Bool.not_true,Bool.not_false,not_any]),hk1⟩
 by_cases k7 : e.k = 7
 ·cases r
  ·exact ⟨_,call_ret' K _ (fn := t61) rfl rfl (by simp (config := { maxSteps := 4000000 }) (disch := omega) only [t61,go_sem,TM.undef,h74,encEs_len,TM.one_length,Bool.true_or,Bool.or_true,Bool.false_or,Bool.or_false,Bool.true_and,Bool.false_and,Bool.and_true,Bool.and_false,Bool.not_true,Bool.not_false,not_any,hc1,hc2,get_app1,get_app2,set_app1,h119,h120] <;> simp (disch := omega) only [go_sem,Bool.true_or,Bool.or_true,Bool.false_or,Bool.or_false,Bool.true_and,Bool.false_and,Bool.and_true,Bool.and_false,Bool.not_true,Bool.not_false,not_any]),hk2⟩
  ·by_cases b5 : e.vs.length = 0
   ·exact ⟨_,call_ret' K _ (fn := t61) rfl rfl (by simp (config := { maxSteps := 4000000 }) (disch := omega) only [t61,go_sem,TM.undef,h74,encEs_len,TM.one_length,Bool.true_or,Bool.or_true,Bool.false_or,Bool.or_false,Bool.true_and,Bool.false_and,Bool.and_true,Bool.and_false,Bool.not_true,Bool.not_false,not_any] <;> simp (disch := omega) only [go_sem,Bool.true_or,Bool.or_true,Bool.false_or,Bool.or_false,Bool.true_and,Bool.false_and,Bool.and_true,Bool.and_false,Bool.not_true,Bool.not_false,not_any]),hk1⟩
   ·exact ⟨_,call_ret' K _ (fn := t61) rfl rfl (by simp (config := { maxSteps := 4000000 }) (disch := omega) only [t61,go_sem,TM.undef,h74,encEs_len,TM.one_length,Bool.true_or,Bool.or_true,Bool.false_or,Bool.or_false,Bool.true_and,Bool.false_and,Bool.and_true,Bool.and_false,Bool.not_true,Bool.not_false,not_any,hc1,hc2,get_app1,get_app2,set_app1,h119,h120] <;> simp (disch := omega) only [go_sem,Bool.true_or,Bool.or_true,Bool.false_or,Bool.or_false,Bool.true_and,Bool.false_and,Bool.and_true,Bool.and_false,Bool.not_true,Bool.not_false,not_any]),hk2⟩
 by_cases b4 : 0 < e.vs.length
 ·exact ⟨_,call_ret' K _ (fn := t61) rfl rfl (by simp (config := { maxSteps := 4000000 }) (disch := omega) only [t61,go_sem,TM.undef,h74,encEs_len,TM.one_length,Bool.true_or,Bool.or_true,Bool.false_or,Bool.or_false,Bool.true_and,Bool.false_and,Bool.and_true,Bool.and_false,Bool.not_true,Bool.not_false,not_any] <;> simp (disch := omega) only [go_sem,Bool.true_or,Bool.or_true,Bool.false_or,Bool.or_false,Bool.true_and,Bool.false_and,Bool.and_true,Bool.and_false,Bool.not_true,Bool.not_false,not_any]),hk1⟩
 cases r
 rotate_left
 ·exact ⟨_,call_ret' K _ (fn := t61) rfl rfl (by simp (config := { maxSteps := 4000000 }) (disch := omega) only [t61,go_sem,TM.undef,h74,encEs_len,TM.one_length,Bool.true_or,Bool.or_true,Bool.false_or,Bool.or_false,Bool.true_and,Bool.false_and,Bool.and_true,Bool.and_false,Bool.not_true,Bool.not_false,not_any] <;> simp (disch := omega) only [go_sem,Bool.true_or,Bool.or_true,Bool.false_or,Bool.or_false,Bool.true_and,Bool.false_and,Bool.and_true,Bool.and_false,Bool.not_true,Bool.not_false,not_any]),hk1⟩
 exact ⟨_,call_ret' K _ (fn := t61) rfl rfl (by simp (config := { maxSteps := 4000000 }) (disch := omega) only [t61,go_sem,TM.undef,h74,encEs_len,TM.one_length,Bool.true_or,Bool.or_true,Bool.false_or,Bool.or_false,Bool.true_and,Bool.false_and,Bool.and_true,Bool.and_false,Bool.not_true,Bool.not_false,not_any,hc1,hc2,get_app1,get_app2,set_app1,h119,h120] <;> simp (disch := omega) only [go_sem,Bool.true_or,Bool.or_true,Bool.false_or,Bool.or_false,Bool.true_and,Bool.false_and,Bool.and_true,Bool.and_false,Bool.not_true,Bool.not_false,not_any]),hk2⟩
theorem frm_ft (p : Pg) (ib ik ir ic : Nat) (e : Ex) (hw : e.w ≤ 1048576) (S : Store) (hc : S[ic]? = some (ckB p ib ik ir)) (hcl : p.cs.length ≤ 2000000) (kids : Int) (word : List UInt8) (is : Bool) (hs : ofF e.k e.n = ⟨false,kids,true,word,is⟩) (h7 : e.k ≠ 7) (hk : e.k ≠ 1 ∧ e.k ≠ 2 ∧ e.k ≠ 3 ∧ e.k ≠ 4 ∧ e.k ≠ 5) : Ends p ib ik ir ic e S (frmF p e) := by
 have hwe := Ex.w_eq e
 have hwl := Ex.ws_len e.ks
 have h74 := call88 e []
 rw [hs] at h74
 simp only [encS] at h74
 have hlt := lt_get hc
 have h119 := call89
 have hk1 := Keep.app [] S [Block.cells 86 false [.ptr ic 89 0]]
 have hk2 := hk1.trans (Keep.app [] _ [Block.cells 154 false [.fn 89 [] []]])
 have hc1 : (S ++ [Block.cells 86 false [.ptr ic 89 0]])[ic]? = some (ckB p ib ik ir) := get_appO hc _
 have hc2 : (S ++ [Block.cells 86 false [.ptr ic 89 0]] ++ [Block.cells 154 false [.fn 89 [] []]])[ic]? = some (ckB p ib ik ir) := get_appO hc1 _
 have h120 := call90 91 (fun v => !decide (0 ≤ v ∧ v < p.vr)) (S ++ [Block.cells 86 false [TV.ptr ic 89 0]]).length 154 S.length 86 e.gv e.vs (by omega) _ (fun x _ => call91 p ib ik ir ic S.length (S ++ [Block.cells 86 false [.ptr ic 89 0]]).length x (S ++ [Block.cells 86 false [.ptr ic 89 0]] ++ [Block.cells 154 false [.fn 89 [] []]]) hc2 (get_app2 ..) (get_app1 ..))
 have hf : frmF p e = (!(!is || decide ((e.ks.length : Int) < kids) || (decide (kids < e.ks.length) && !true) || (!false && decide (e.n ≠ 0)) || (decide (e.k ≠ 7) && (decide (0 < e.vs.length) || e.r)) || (e.r && decide (e.vs.length = 0))) && frmB p e) := by
  unfold frmF frmA; rw [hs]
 rw [hf]
 clear hf hs
 unfold frmB
 rw [encE_eq] at h74
 unfold Ends
 rw [encE_eq]
 generalize e.r = r at h74 ⊢
 cases is
 ·exact ⟨_,call_ret' K _ (fn := t61) rfl rfl (by simp (config := { maxSteps := 4000000 }) (disch := omega) only [t61,go_sem,TM.undef,h74,encEs_len,TM.one_length,Bool.true_or,Bool.or_true,Bool.false_or,Bool.or_false,Bool.true_and,Bool.false_and,Bool.and_true,Bool.and_false,Bool.not_true,Bool.not_false,not_any] <;> simp (disch := omega) only [go_sem,Bool.true_or,Bool.or_true,Bool.false_or,Bool.or_false,Bool.true_and,Bool.false_and,Bool.and_true,Bool.and_false,Bool.not_true,Bool.not_false,not_any]),hk1⟩
 by_cases b1 : (e.ks.length : Int) < kids
 ·exact ⟨_,call_ret' K _ (fn := t61) rfl rfl (by simp (config := { maxSteps := 4000000 }) (disch := omega) only [t61,go_sem,TM.undef,h74,encEs_len,TM.one_length,Bool.true_or,Bool.or_true,Bool.false_or,Bool.or_false,Bool.true_and,Bool.false_and,Bool.and_true,Bool.and_false,Bool.not_true,Bool.not_false,not_any] <;> simp (disch := omega) only [go_sem,Bool.true_or,Bool.or_true,Bool.false_or,Bool.or_false,Bool.true_and,Bool.false_and,Bool.and_true,Bool.and_false,Bool.not_true,Bool.not_false,not_any]),hk1⟩
 by_cases b2 : kids < (e.ks.length : Int)
 ·by_cases b3 : e.n = 0
  rotate_left
  ·exact ⟨_,call_ret' K _ (fn := t61) rfl rfl (by simp (config := { maxSteps := 4000000 }) (disch := omega) only [t61,go_sem,TM.undef,h74,encEs_len,TM.one_length,Bool.true_or,Bool.or_true,Bool.false_or,Bool.or_false,Bool.true_and,Bool.false_and,Bool.and_true,Bool.and_false,Bool.not_true,Bool.not_false,not_any] <;> simp (disch := omega) only [go_sem,Bool.true_or,Bool.or_true,Bool.false_or,Bool.or_false,Bool.true_and,Bool.false_and,Bool.and_true,Bool.and_false,Bool.not_true,Bool.not_false,not_any]),hk1⟩
  by_cases b4 : 0 < e.vs.length
  ·exact ⟨_,call_ret' K _ (fn := t61) rfl rfl (by simp (config := { maxSteps := 4000000 }) (disch := omega) only [t61,go_sem,TM.undef,h74,encEs_len,TM.one_length,Bool.true_or,Bool.or_true,Bool.false_or,Bool.or_false,Bool.true_and,Bool.false_and,Bool.and_true,Bool.and_false,Bool.not_true,Bool.not_false,not_any] <;> simp (disch := omega) only [go_sem,Bool.true_or,Bool.or_true,Bool.false_or,Bool.or_false,Bool.true_and,Bool.false_and,Bool.and_true,Bool.and_false,Bool.not_true,Bool.not_false,not_any]),hk1⟩
  cases r
  rotate_left
  ·exact ⟨_,call_ret' K _ (fn := t61) rfl rfl (by simp (config := { maxSteps := 4000000 }) (disch := omega) only [t61,go_sem,TM.undef,h74,encEs_len,TM.one_length,Bool.true_or,Bool.or_true,Bool.false_or,Bool.or_false,Bool.true_and,Bool.false_and,Bool.and_true,Bool.and_false,Bool.not_true,Bool.not_false,not_any] <;> simp (disch := omega) only [go_sem,Bool.true_or,Bool.or_true,Bool.false_or,Bool.or_false,Bool.true_and,Bool.false_and,Bool.and_true,Bool.and_false,Bool.not_true,Bool.not_false,not_any]),hk1⟩
  exact ⟨_,call_ret' K _ (fn := t61) rfl rfl (by simp (config := { maxSteps := 4000000 }) (disch := omega) only [t61,go_sem,TM.undef,h74,encEs_len,TM.one_length,Bool.true_or,Bool.or_true,Bool.false_or,Bool.or_false,Bool.true_and,Bool.false_and,Bool.and_true,Bool.and_false,Bool.not_true,Bool.not_false,not_any,hc1,hc2,get_app1,get_app2,set_app1,h119,h120] <;> simp (disch := omega) only [go_sem,Bool.true_or,Bool.or_true,Bool.false_or,Bool.or_false,Bool.true_and,Bool.false_and,Bool.and_true,Bool.and_false,Bool.not_true,Bool.not_false,not_any]),hk2⟩
 by_cases b3 : e.n = 0
 rotate_left
 ·exact ⟨_,call_ret' K _ (fn := t61) rfl rfl (by simp (config := { maxSteps := 4000000 }) (disch := omega) only [t61,go_sem,TM.undef,h74,encEs_len,TM.one_length,Bool.true_or,Bool.or_true,Bool.false_or,Bool.or_false,Bool.true_and,Bool.false_and,Bool.and_true,Bool.and_false,Bool.not_true,Bool.not_false,not_any] <;> simp (disch := omega) only [go_sem,Bool.true_or,Bool.or_true,Bool.false_or,Bool.or_false,Bool.true_and,Bool.false_and,Bool.and_true,Bool.and_false,Bool.not_true,Bool.not_false,not_any]),hk1⟩
 by_cases b4 : 0 < e.vs.length
 ·exact ⟨_,call_ret' K _ (fn := t61) rfl rfl (by simp (config := { maxSteps := 4000000 }) (disch := omega) only [t61,go_sem,TM.undef,h74,encEs_len,TM.one_length,Bool.true_or,Bool.or_true,Bool.false_or,Bool.or_false,Bool.true_and,Bool.false_and,Bool.and_true,Bool.and_false,Bool.not_true,Bool.not_false,not_any] <;> simp (disch := omega) only [go_sem,Bool.true_or,Bool.or_true,Bool.false_or,Bool.or_false,Bool.true_and,Bool.false_and,Bool.and_true,Bool.and_false,Bool.not_true,Bool.not_false,not_any]),hk1⟩
 cases r
 rotate_left
 ·exact ⟨_,call_ret' K _ (fn := t61) rfl rfl (by simp (config := { maxSteps := 4000000 }) (disch := omega) only [t61,go_sem,TM.undef,h74,encEs_len,TM.one_length,Bool.true_or,Bool.or_true,Bool.false_or,Bool.or_false,Bool.true_and,Bool.false_and,Bool.and_true,Bool.and_false,Bool.not_true,Bool.not_false,not_any] <;> simp (disch := omega) only [go_sem,Bool.true_or,Bool.or_true,Bool.false_or,Bool.or_false,Bool.true_and,Bool.false_and,Bool.and_true,Bool.and_false,Bool.not_true,Bool.not_false,not_any]),hk1⟩
 exact ⟨_,call_ret' K _ (fn := t61) rfl rfl (by simp (config := { maxSteps := 4000000 }) (disch := omega) only [t61,go_sem,TM.undef,h74,encEs_len,TM.one_length,Bool.true_or,Bool.or_true,Bool.false_or,Bool.or_false,Bool.true_and,Bool.false_and,Bool.and_true,Bool.and_false,Bool.not_true,Bool.not_false,not_any,hc1,hc2,get_app1,get_app2,set_app1,h119,h120] <;> simp (disch := omega) only [go_sem,Bool.true_or,Bool.or_true,Bool.false_or,Bool.or_false,Bool.true_and,Bool.false_and,Bool.and_true,Bool.and_false,Bool.not_true,Bool.not_false,not_any]),hk2⟩
theorem call61 (p : Pg) (ib ik ir ic : Nat) (e : Ex) (hw : e.w ≤ 1048576) (S : Store) (hc : S[ic]? = some (ckB p ib ik ir)) (hcl : p.cs.length ≤ 2000000) : Ends p ib ik ir ic e S (frmF p e) := by
 have hs : ∃ num kids more word is,ofF e.k e.n = ⟨num,kids,more,word,is⟩ := ⟨_,_,_,_,_,rfl⟩
 obtain ⟨num,kids,more,word,is,hs⟩ := hs
 by_cases a : e.k = 1 ∨ e.k = 2 ∨ e.k = 3 ∨ e.k = 4 ∨ e.k = 5 ∨ e.k = 9
 ·have h1 : num = true ∧ more = false := by
   unfold ofF at hs
   rcases a with a | a | a | a | a | a <;> rw [a] at hs <;> simp at hs <;> (first | exact ⟨hs.1.symm,hs.2.2.1.symm⟩ | exact ⟨hs.1,hs.2.2.1⟩ | exact ⟨hs.1,hs.2.2.1.symm⟩ | exact ⟨hs.1.symm,hs.2.2.1⟩)
  obtain ⟨rfl,rfl⟩ := h1
  exact frm_tf p ib ik ir ic e hw S hc hcl kids word is hs (by omega)
 by_cases b : e.k = 8 ∨ e.k = 10
 ·have h1 : num = false ∧ more = true := by
   unfold ofF at hs
   rcases b with a | a <;> rw [a] at hs <;> simp at hs <;> (first | exact ⟨hs.1.symm,hs.2.2.1.symm⟩ | exact ⟨hs.1,hs.2.2.1⟩ | exact ⟨hs.1,hs.2.2.1.symm⟩ | exact ⟨hs.1.symm,hs.2.2.1⟩)
  obtain ⟨rfl,rfl⟩ := h1
  exact frm_ft p ib ik ir ic e hw S hc hcl kids word is hs (by omega) (by omega)
 by_cases c : e.k = 11 ∧ ¬ (e.n < 0 ∨ 2 < e.n)
 ·have h1 : num = true ∧ more = false := by
   unfold ofF at hs
   rw [c.1] at hs
   simp only [Int.reduceEq,↓reduceIte,if_neg c.2,Shp.mk.injEq] at hs
   (first | exact ⟨hs.1.symm,hs.2.2.1.symm⟩ | exact ⟨hs.1,hs.2.2.1⟩ | exact ⟨hs.1,hs.2.2.1.symm⟩ | exact ⟨hs.1.symm,hs.2.2.1⟩)
  obtain ⟨rfl,rfl⟩ := h1
  exact frm_tf p ib ik ir ic e hw S hc hcl kids word is hs (by omega)
 ·have h1 : num = false ∧ more = false := by
   unfold ofF at hs
   have e1 : e.k ≠ 1 := by omega
   have e2 : e.k ≠ 2 := by omega
   have e3 : e.k ≠ 3 := by omega
   have e4 : e.k ≠ 4 := by omega
   have e5 : e.k ≠ 5 := by omega
   have e8 : e.k ≠ 8 := by omega
   have e9 : e.k ≠ 9 := by omega
   have e10 : e.k ≠ 10 := by omega
   simp only [e1,e2,e3,e4,e5,e8,e9,e10,↓reduceIte] at hs
   by_cases e6 : e.k = 6
   ·simp [e6] at hs; (first | exact ⟨hs.1.symm,hs.2.2.1.symm⟩ | exact ⟨hs.1,hs.2.2.1⟩ | exact ⟨hs.1,hs.2.2.1.symm⟩ | exact ⟨hs.1.symm,hs.2.2.1⟩)
   by_cases e7 : e.k = 7
   ·simp [e7] at hs; (first | exact ⟨hs.1.symm,hs.2.2.1.symm⟩ | exact ⟨hs.1,hs.2.2.1⟩ | exact ⟨hs.1,hs.2.2.1.symm⟩ | exact ⟨hs.1.symm,hs.2.2.1⟩)
   by_cases e11 : e.k = 11
   ·have hn : e.n < 0 ∨ 2 < e.n := by
     rcases Classical.em (e.n < 0 ∨ 2 < e.n) with h | h
     ·exact h
     ·exact absurd ⟨e11,h⟩ c
    simp [e11,hn] at hs; (first | exact ⟨hs.1.symm,hs.2.2.1.symm⟩ | exact ⟨hs.1,hs.2.2.1⟩ | exact ⟨hs.1,hs.2.2.1.symm⟩ | exact ⟨hs.1.symm,hs.2.2.1⟩)
   by_cases e12 : e.k = 12
   ·simp [e12] at hs; (first | exact ⟨hs.1.symm,hs.2.2.1.symm⟩ | exact ⟨hs.1,hs.2.2.1⟩ | exact ⟨hs.1,hs.2.2.1.symm⟩ | exact ⟨hs.1.symm,hs.2.2.1⟩)
   by_cases e13 : e.k = 13
   ·simp [e13] at hs; (first | exact ⟨hs.1.symm,hs.2.2.1.symm⟩ | exact ⟨hs.1,hs.2.2.1⟩ | exact ⟨hs.1,hs.2.2.1.symm⟩ | exact ⟨hs.1.symm,hs.2.2.1⟩)
   by_cases e14 : e.k = 14
   ·simp [e14] at hs; (first | exact ⟨hs.1.symm,hs.2.2.1.symm⟩ | exact ⟨hs.1,hs.2.2.1⟩ | exact ⟨hs.1,hs.2.2.1.symm⟩ | exact ⟨hs.1.symm,hs.2.2.1⟩)
   simp [e6,e7,e11,e12,e13,e14] at hs; (first | exact ⟨hs.1.symm,hs.2.2.1.symm⟩ | exact ⟨hs.1,hs.2.2.1⟩ | exact ⟨hs.1,hs.2.2.1.symm⟩ | exact ⟨hs.1.symm,hs.2.2.1⟩)
  obtain ⟨rfl,rfl⟩ := h1
  exact frm_ff p ib ik ir ic e hw S hc hcl kids word is hs (by omega)
theorem CkS.putC {p : Pg} {ic ib ik ir : Nat} {S : Store} {B C A : List Int} (h : CkS p ic ib ik ir S B C A) {lc : List (Nat × Int × Int)} {cc : Nat} (c1 : S[ik]? = some (.mp (mpR boxI lc) cc)) (c2 : ∀ v,cntR lc v = if v ∈ C then 1 else 0) (k : Int) :
  CkS p ic ib ik ir (S.set ik (.mp (mpR boxI (putR lc cc k 1)) (clkR lc cc k))) B (k :: C) A := by
 refine ⟨h.cb,h.ck,h.cr,h.bk,h.br,h.kr,?_,h.b.keep (get_setN (Ne.symm h.bk) _),MapHas.put c1 c2 k,h.a.keep (get_setN h.kr _),h.sub⟩
 rw [get_setN (Ne.symm h.ck)]; exact h.at'
theorem tail44 {N : Nat} (p : Pg) (ic ib ik ir : Nat) (ih : ChkOK p ic ib ik ir N) (e : Ex) (hw : e.w ≤ N + 1) (hN : N + 1 ≤ 1048576) (depth : Nat) (hd : depth < 4000) (A B1 C1 : List Int) (hB : ∀ v ∈ e.vs,v ∉ A) (x1 x3 x5 x6 x7 x8 x9 x10 x11 x12 x13 x14 x15 x16 x17 x18 x22 x23 x24 x25 x26 x27 : TV) (S : Store) (hs : CkS p ic ib ik ir S B1 C1 (e.vs ++ A)) :
  ∃ j r y6 y7 y21 y22 y23 S2,(j = .ret ∧ r = .iv (.int .i64 (chks p e.ks (depth + 1) B1 C1 (e.vs ++ A)).1) ∧ (chks p e.ks (depth + 1) B1 C1 (e.vs ++ A)).1 ≠ 0 ∧ Keep [ib,ik,ir] S S2 ∨
    j = .exit 3 ∧ r = .iv (.int .i64 0) ∧ (chks p e.ks (depth + 1) B1 C1 (e.vs ++ A)).1 = 0 ∧ ∃ (y8 y27 : TV) (S3 : Store),CkS p ic ib ik ir S3 (chks p e.ks (depth + 1) B1 C1 (e.vs ++ A)).2.1 (chks p e.ks (depth + 1) B1 C1 (e.vs ++ A)).2.2 A ∧ Keep [ib,ik,ir] S S3 ∧
     lp' (lim K) t36L0 [.ptr ic 89 0,x1,.iv (.int .i64 depth),x3,.iv (.int .i64 0),x5,y6,y7,x8,x9,x10,x11,x12,x13,x14,x15,x16,x17,x18,.iv (.sl e.g (encEs e.ks)),.iv (.int .i64 e.ks.length),y21,y22,y23,.iv (.sl e.gv (TM.one (.int .i64) e.vs)),.iv (.int .i64 e.vs.length),.iv (.int .i64 0),x27] S2
      = .ret (.exit 5,[.ptr ic 89 0,x1,.iv (.int .i64 depth),x3,.iv (.int .i64 0),x5,y6,y7,y8,x9,x10,x11,x12,x13,x14,x15,x16,x17,x18,.iv (.sl e.g (encEs e.ks)),.iv (.int .i64 e.ks.length),y21,y22,y23,.iv (.sl e.gv (TM.one (.int .i64) e.vs)),.iv (.int .i64 e.vs.length),.iv (.int .i64 e.vs.length),y27],S3)) ∧
   lp' (lim K) t36L1 [.ptr ic 89 0,x1,.iv (.int .i64 depth),x3,.iv (.int .i64 0),x5,x6,x7,x8,x9,x10,x11,x12,x13,x14,x15,x16,x17,x18,.iv (.sl e.g (encEs e.ks)),.iv (.int .i64 e.ks.length),.iv (.int .i64 0),x22,x23,x24,x25,x26,x27] S
    = .ret (j,[.ptr ic 89 0,x1,.iv (.int .i64 depth),x3,r,x5,y6,y7,x8,x9,x10,x11,x12,x13,x14,x15,x16,x17,x18,.iv (.sl e.g (encEs e.ks)),.iv (.int .i64 e.ks.length),y21,y22,y23,x24,x25,x26,x27],S2) := by
 have hwe := Ex.w_eq e
 obtain ⟨j,r,y6,y7,y21,y22,y23,S2,hj,hk,l1⟩ := loop36k p ic ib ik ir ih e hw hN depth hd (e.vs ++ A) x1 x3 (.iv (.int .i64 0)) x5 x8 x9 x10 x11 x12 x13 x14 x15 x16 x17 x18 x24 x25 x26 x27 e.ks.length 0 x6 x7 x22 x23 S B1 C1 (by omega) hs
 rw [show ((0 : Nat) : Int) = 0 from rfl] at l1
 rw [List.drop_zero] at hj
 refine ⟨j,r,y6,y7,y21,y22,y23,S2,?_,l1⟩
 rcases hj with ⟨h1,h2,h3⟩ | ⟨h1,h2,h3,h4⟩
 ·exact .inl ⟨h1,h2,h3,hk⟩
 ·obtain ⟨y8,y27,S3,h5,hk2,l2⟩ := loop36u p ic ib ik ir e (by omega) _ _ x1 (.iv (.int .i64 depth)) x3 (.iv (.int .i64 0)) x5 y6 y7 x9 x10 x11 x12 x13 x14 x15 x16 x17 x18 (.iv (.sl e.g (encEs e.ks))) (.iv (.int .i64 e.ks.length)) y21 y22 y23 e.vs.length 0 x8 x27 S2 _ (by omega) h4
  rw [show ((0 : Nat) : Int) = 0 from rfl] at l2
  rw [List.drop_zero] at h5
  refine .inr ⟨h1,h2,h3,y8,y27,S3,h5 A (fun v => ?_),hk.trans hk2,l2⟩
  simp only [List.mem_append]
  constructor
  ·exact fun hv => ⟨.inr hv,fun hm => hB v hm hv⟩
  ·rintro ⟨h | h,h'⟩
   ·exact absurd h h'
   ·exact h
theorem call36 (p : Pg) (hp : p.cs.length ≤ 2000000) (ic ib ik ir : Nat) : ∀ N,N ≤ 1048576 → ChkOK p ic ib ik ir N
 | 0,hN => fun e depth S B C A hw hd hs => by have := Ex.w_eq e; omega
 | N + 1,hN => fun e depth S B C A hw hd hs => by
  have hwe := Ex.w_eq e
  rw [chk_eq]
  by_cases hdp : 4000 ≤ depth
  ·rw [if_pos hdp]
   refine ⟨S,call_ret' K _ (fn := t36) rfl rfl ?_,.refl _ _,fun h => absurd h (by decide : ¬ ((5 : Int) = 0))⟩
   rw [encE_eq]
   simp (config := { maxSteps := 4000000 }) (disch := omega) only [t36,go_sem,TM.undef]
  rw [if_neg hdp]
  obtain ⟨S1,h87,hk1⟩ := call61 p ib ik ir ic e (by omega) S hs.at' hp
  rw [encE_eq] at h87
  have hs1 := hs.keep hk1
  have hkk : Keep [ib,ik,ir] S S1 := hk1.mono (by simp)
  cases hf : frmF p e with
  | false =>
   rw [if_pos rfl]
   rw [hf] at h87
   refine ⟨S1,call_ret' K _ (fn := t36) rfl rfl ?_,hkk,fun h => absurd h (by decide : ¬ ((4 : Int) = 0))⟩
   rw [encE_eq]
   simp (config := { maxSteps := 4000000 }) (disch := omega) only [t36,go_sem,TM.undef,h87]
  | true =>
   rw [if_neg (by decide)]
   rw [hf] at h87
   obtain ⟨j,r,y5,y13,y14,y15,S2,hj,hk2,l2⟩ := loop36b p ic ib ik ir e (by omega) C (.iv (.agg (encE e))) (.iv (.int .i64 depth)) (lbE e) (.iv (.int .i64 0)) (.tup []) (.tup []) (.tup []) (.iv (.bool false)) (.iv (.bool false)) (.tup []) (.tup []) (.tup []) (.tup []) (.tup []) (.tup []) (.tup []) (.tup []) (.tup []) (.tup []) (.tup []) (.tup []) e.vs.length 0 (.tup []) (.tup []) (.tup []) S1 B A (by omega) hs1
   rw [show ((0 : Nat) : Int) = 0 from rfl] at l2
   rw [List.drop_zero] at hj
   rcases hj with ⟨rfl,rfl,ha⟩ | ⟨rfl,rfl,B1,ha,hs2⟩
   ·rw [ha]
    refine ⟨S2,call_ret' K _ (fn := t36) rfl rfl ?_,hkk.trans hk2,fun h => absurd h (by decide : ¬ ((14 : Int) = 0))⟩
    rw [encE_eq] at l2 ⊢
    simp (config := { maxSteps := 4000000 }) (disch := omega) only [t36,go_sem,TM.undef,h87,TM.one_length]
    rw [l2]
    simp (config := { maxSteps := 4000000 }) (disch := omega) only [go_sem]
   ·rw [ha]
    simp only
    obtain ⟨m1,m2,m3⟩ := addV_mem ha
    have hs2' : CkS p ic ib ik ir S2 B1 C (e.vs ++ A) := hs2.congrA (fun v => by simp)
    have hB : ∀ v ∈ e.vs,v ∉ A := fun v hv hA => m2 v hv (hs.sub v hA)
    obtain ⟨lc,cc,c1,c2⟩ := hs2'.c
    obtain ⟨la,ca,a1,a2⟩ := hs2'.a
    have hat := hs2'.at'
    have c2n := c2 e.n
    have a2n := a2 e.n
    have n1 := hs.cb
    have n2 := hs.ck
    have n3 := hs.cr
    have n4 := hs.bk
    have n5 := hs.br
    have n6 := hs.kr
    by_cases hk1 : e.k = 1
    ·by_cases hm : e.n ∈ C
     ·rw [if_pos ⟨hk1,hm⟩]
      rw [if_pos hm] at c2n
      refine ⟨S2,call_ret' K _ (fn := t36) rfl rfl ?_,hkk.trans hk2,fun h => absurd h (by decide : ¬ ((14 : Int) = 0))⟩
      rw [encE_eq] at l2 ⊢
      simp (config := { maxSteps := 4000000 }) (disch := omega) only [t36,go_sem,TM.undef,h87,TM.one_length]
      rw [l2]
      simp (config := { maxSteps := 4000000 }) (disch := omega) only [go_sem,hat,c1,c2n]
     ·rw [if_neg (fun h => hm h.2),if_neg (by omega),if_pos hk1]
      rw [if_neg hm] at c2n
      have hs3 := hs2'.putC c1 c2 e.n
      obtain ⟨j,r,y6,y7,y21,y22,y23,S4,hj,l3⟩ := tail44 p ic ib ik ir (call36 p hp ic ib ik ir N (by omega)) e hw hN depth (by omega) A B1 (e.n :: C) hB (.iv (.agg (encE e))) (lbE e) y5 (.tup []) (.tup []) (.tup []) (.iv (.bool false)) (.iv (.bool false)) (.iv (.sl e.gv (TM.one (.int .i64) e.vs))) (.iv (.int .i64 e.vs.length)) y13 y14 y15 (.iv (.bool true)) (.iv (.bool false)) (.iv (.bool false)) (.tup []) (.tup []) (.tup []) (.tup []) (.tup []) (.tup []) _ hs3
      rcases hj with ⟨rfl,rfl,hne,hk4⟩ | ⟨rfl,rfl,h0,y8,y27,S5,hs5,hk5,l5⟩
      ·refine ⟨S4,call_ret' K _ (fn := t36) rfl rfl ?_,(hkk.trans hk2).trans ((Keep.set _ (by simp) _).trans hk4),fun h => absurd h hne⟩
       rw [encE_eq] at l2 l3 ⊢
       simp (config := { maxSteps := 4000000 }) (disch := omega) only [t36,go_sem,TM.undef,h87,TM.one_length]
       rw [l2]
       simp (config := { maxSteps := 4000000 }) (disch := omega) only [go_sem,hat,c1,c2n,encEs_len]
       rw [l3]
       simp (config := { maxSteps := 4000000 }) (disch := omega) only [go_sem]
      ·refine ⟨S5,call_ret' K _ (fn := t36) rfl rfl ?_,(hkk.trans hk2).trans ((Keep.set _ (by simp) _).trans hk5),fun _ => hs5⟩
       rw [h0]
       rw [encE_eq] at l2 l3 l5 ⊢
       simp (config := { maxSteps := 4000000 }) (disch := omega) only [t36,go_sem,TM.undef,h87,TM.one_length]
       rw [l2]
       simp (config := { maxSteps := 4000000 }) (disch := omega) only [go_sem,hat,c1,c2n,encEs_len]
       rw [l3]
       simp (config := { maxSteps := 4000000 }) (disch := omega) only [go_sem,TM.one_length]
       rw [l5]
       simp (config := { maxSteps := 4000000 }) (disch := omega) only [go_sem]
    ·rw [if_neg (fun h => hk1 h.1),if_neg hk1]
     by_cases hk24 : e.k = 2 ∨ e.k = 4
     ·by_cases hm : e.n ∈ e.vs ++ A
      ·rw [if_neg (fun h => h.2 hm)]
       rw [if_pos hm] at a2n
       rcases hk24 with hk24 | hk24
       ·obtain ⟨j,r,y6,y7,y21,y22,y23,S4,hj,l3⟩ := tail44 p ic ib ik ir (call36 p hp ic ib ik ir N (by omega)) e hw hN depth (by omega) A B1 C hB (.iv (.agg (encE e))) (lbE e) y5 (.tup []) (.tup []) (.tup []) (.iv (.bool false)) (.iv (.bool false)) (.iv (.sl e.gv (TM.one (.int .i64) e.vs))) (.iv (.int .i64 e.vs.length)) y13 y14 y15 (.iv (.bool false)) (.tup []) (.iv (.bool false)) (.tup []) (.tup []) (.tup []) (.tup []) (.tup []) (.tup []) _ hs2'
        rcases hj with ⟨rfl,rfl,hne,hk4⟩ | ⟨rfl,rfl,h0,y8,y27,S5,hs5,hk5,l5⟩
        ·refine ⟨S4,call_ret' K _ (fn := t36) rfl rfl ?_,(hkk.trans hk2).trans hk4,fun h => absurd h hne⟩
         rw [encE_eq] at l2 l3 ⊢
         simp (config := { maxSteps := 4000000 }) (disch := omega) only [t36,go_sem,TM.undef,h87,TM.one_length]
         rw [l2]
         simp (config := { maxSteps := 4000000 }) (disch := omega) only [go_sem,hat,encEs_len,a1,a2n]
         rw [l3]
         simp (config := { maxSteps := 4000000 }) (disch := omega) only [go_sem]
        ·refine ⟨S5,call_ret' K _ (fn := t36) rfl rfl ?_,(hkk.trans hk2).trans hk5,fun _ => hs5⟩
         rw [h0]
         rw [encE_eq] at l2 l3 l5 ⊢
         simp (config := { maxSteps := 4000000 }) (disch := omega) only [t36,go_sem,TM.undef,h87,TM.one_length]
         rw [l2]
         simp (config := { maxSteps := 4000000 }) (disch := omega) only [go_sem,hat,encEs_len,a1,a2n]
         rw [l3]
         simp (config := { maxSteps := 4000000 }) (disch := omega) only [go_sem,TM.one_length]
         rw [l5]
         simp (config := { maxSteps := 4000000 }) (disch := omega) only [go_sem]
       ·obtain ⟨j,r,y6,y7,y21,y22,y23,S4,hj,l3⟩ := tail44 p ic ib ik ir (call36 p hp ic ib ik ir N (by omega)) e hw hN depth (by omega) A B1 C hB (.iv (.agg (encE e))) (lbE e) y5 (.tup []) (.tup []) (.tup []) (.iv (.bool false)) (.iv (.bool false)) (.iv (.sl e.gv (TM.one (.int .i64) e.vs))) (.iv (.int .i64 e.vs.length)) y13 y14 y15 (.iv (.bool false)) (.tup []) (.iv (.bool false)) (.tup []) (.tup []) (.tup []) (.tup []) (.tup []) (.tup []) _ hs2'
        rcases hj with ⟨rfl,rfl,hne,hk4⟩ | ⟨rfl,rfl,h0,y8,y27,S5,hs5,hk5,l5⟩
        ·refine ⟨S4,call_ret' K _ (fn := t36) rfl rfl ?_,(hkk.trans hk2).trans hk4,fun h => absurd h hne⟩
         rw [encE_eq] at l2 l3 ⊢
         simp (config := { maxSteps := 4000000 }) (disch := omega) only [t36,go_sem,TM.undef,h87,TM.one_length]
         rw [l2]
         simp (config := { maxSteps := 4000000 }) (disch := omega) only [go_sem,hat,encEs_len,a1,a2n]
         rw [l3]
         simp (config := { maxSteps := 4000000 }) (disch := omega) only [go_sem]
        ·refine ⟨S5,call_ret' K _ (fn := t36) rfl rfl ?_,(hkk.trans hk2).trans hk5,fun _ => hs5⟩
         rw [h0]
         rw [encE_eq] at l2 l3 l5 ⊢
         simp (config := { maxSteps := 4000000 }) (disch := omega) only [t36,go_sem,TM.undef,h87,TM.one_length]
         rw [l2]
         simp (config := { maxSteps := 4000000 }) (disch := omega) only [go_sem,hat,encEs_len,a1,a2n]
         rw [l3]
         simp (config := { maxSteps := 4000000 }) (disch := omega) only [go_sem,TM.one_length]
         rw [l5]
         simp (config := { maxSteps := 4000000 }) (disch := omega) only [go_sem]
      ·rw [if_pos ⟨hk24,hm⟩]
       rw [if_neg hm] at a2n
       refine ⟨S2,call_ret' K _ (fn := t36) rfl rfl ?_,hkk.trans hk2,fun h => absurd h (by decide : ¬ ((6 : Int) = 0))⟩
       rw [encE_eq] at l2 ⊢
       rcases hk24 with hk24 | hk24
       ·simp (config := { maxSteps := 4000000 }) (disch := omega) only [t36,go_sem,TM.undef,h87,TM.one_length]
        rw [l2]
        simp (config := { maxSteps := 4000000 }) (disch := omega) only [go_sem,hat,a1,a2n]
       ·simp (config := { maxSteps := 4000000 }) (disch := omega) only [t36,go_sem,TM.undef,h87,TM.one_length]
        rw [l2]
        simp (config := { maxSteps := 4000000 }) (disch := omega) only [go_sem,hat,a1,a2n]
     ·rw [if_neg (fun h => hk24 h.1)]
      have hk2' : e.k ≠ 2 := fun h => hk24 (.inl h)
      have hk4' : e.k ≠ 4 := fun h => hk24 (.inr h)
      obtain ⟨j,r,y6,y7,y21,y22,y23,S4,hj,l3⟩ := tail44 p ic ib ik ir (call36 p hp ic ib ik ir N (by omega)) e hw hN depth (by omega) A B1 C hB (.iv (.agg (encE e))) (lbE e) y5 (.tup []) (.tup []) (.tup []) (.iv (.bool false)) (.iv (.bool false)) (.iv (.sl e.gv (TM.one (.int .i64) e.vs))) (.iv (.int .i64 e.vs.length)) y13 y14 y15 (.iv (.bool false)) (.tup []) (.iv (.bool false)) (.tup []) (.tup []) (.tup []) (.tup []) (.tup []) (.tup []) _ hs2'
      rcases hj with ⟨rfl,rfl,hne,hk4⟩ | ⟨rfl,rfl,h0,y8,y27,S5,hs5,hk5,l5⟩
      ·refine ⟨S4,call_ret' K _ (fn := t36) rfl rfl ?_,(hkk.trans hk2).trans hk4,fun h => absurd h hne⟩
       rw [encE_eq] at l2 l3 ⊢
       simp (config := { maxSteps := 4000000 }) (disch := omega) only [t36,go_sem,TM.undef,h87,TM.one_length]
       rw [l2]
       simp (config := { maxSteps := 4000000 }) (disch := omega) only [go_sem,hat,encEs_len]
       rw [l3]
       simp (config := { maxSteps := 4000000 }) (disch := omega) only [go_sem]
      ·refine ⟨S5,call_ret' K _ (fn := t36) rfl rfl ?_,(hkk.trans hk2).trans hk5,fun _ => hs5⟩
       rw [h0]
       rw [encE_eq] at l2 l3 l5 ⊢
       simp (config := { maxSteps := 4000000 }) (disch := omega) only [t36,go_sem,TM.undef,h87,TM.one_length]
       rw [l2]
       simp (config := { maxSteps := 4000000 }) (disch := omega) only [go_sem,hat,encEs_len]
       rw [l3]
       simp (config := { maxSteps := 4000000 }) (disch := omega) only [go_sem,TM.one_length]
       rw [l5]
       simp (config := { maxSteps := 4000000 }) (disch := omega) only [go_sem]
theorem loop11 (p : Pg) (hp : p.b.w ≤ 1048576 ∧ Dt.ws p.cs ≤ 1048576) (x0 x1 x4 x5 : TV) (S : Store) : ∀ (k i : Nat) (x3 x9 x10 : TV),i + k = p.cs.length →
  ∃ j r y3 y8 y9 y10,(j = .ret ∧ r = .iv (.int .i64 2) ∧ ((p.cs.drop i).all fun d => mayF d && plF d) = false ∨ j = .exit 0 ∧ r = .iv (.int .i64 0) ∧ ((p.cs.drop i).all fun d => mayF d && plF d) = true) ∧
   lp' (lim K) t11L0 [x0,x1,.iv (.int .i64 0),x3,x4,x5,.iv (.sl p.gc (encDs p.cs)),.iv (.int .i64 p.cs.length),.iv (.int .i64 (i : Int)),x9,x10] S = .ret (j,[x0,x1,r,y3,x4,x5,.iv (.sl p.gc (encDs p.cs)),.iv (.int .i64 p.cs.length),y8,y9,y10],S)
 | 0,i,x3,x9,x10,h => by
  obtain rfl : i = p.cs.length := by omega
  refine ⟨.exit 0,.iv (.int .i64 0),?_,?_,?_,?_,.inr ⟨rfl,rfl,by rw [List.drop_length]; rfl⟩,loop_at K _ _ t11L0.eq_1 ?_⟩
  rotate_left 4
  ·simp (config := { maxSteps := 4000000 }) (disch := omega) only [go_sem]
   rfl
 | k + 1,i,x3,x9,x10,h => by
  have hpw := hp
  have hla : i < p.cs.length := by omega
  have hwl := Dt.ws_len p.cs
  have hix := ixD (g := p.gc) (ks := p.cs) (i := (i : Int)) (by omega)
  rw [Int.toNat_natCast] at hix
  have hdr := drop_get hla
  have hxw := Dt.ws_mem (get_mem hla)
  generalize hx : p.cs.getD i default = x at *
  have hm := call34 1048576 (by omega) x (by omega)
  have hq := call35 1048576 (by omega) x (by omega)
  rw [encD_eq] at hm hq
  cases h1 : mayF x with
  | false =>
   rw [h1] at hm
   refine ⟨.ret,.iv (.int .i64 2),?_,?_,?_,?_,.inl ⟨rfl,rfl,by rw [hdr,List.all_cons,h1,Bool.false_and,Bool.false_and]⟩,loop_at K _ _ t11L0.eq_1 ?_⟩
   rotate_left 4
   ·simp (config := { maxSteps := 4000000 }) (disch := omega) only [go_sem,hix,getD5,cpR_pure hm]
    rfl
  | true =>
   rw [h1] at hm
   cases h2 : plF x with
   | false =>
    rw [h2] at hq
    refine ⟨.ret,.iv (.int .i64 2),?_,?_,?_,?_,.inl ⟨rfl,rfl,by rw [hdr,List.all_cons,h1,h2,Bool.true_and,Bool.false_and]⟩,loop_at K _ _ t11L0.eq_1 ?_⟩
    rotate_left 4
    ·simp (config := { maxSteps := 4000000 }) (disch := omega) only [go_sem,hix,getD5,cpR_pure hm,cpR_pure hq]
     rfl
   | true =>
    rw [h2] at hq
    obtain ⟨j,r,y3,y8,y9,y10,hj,ih⟩ := loop11 p hp x0 x1 x4 x5 S k (i + 1) (lbD' x) (.iv (.bool true)) (.iv (.bool false)) (by omega)
    rw [show ((i + 1 : Nat) : Int) = (i : Int) + 1 by omega] at ih
    refine ⟨j,r,y3,y8,y9,y10,?_,loop_at K _ _ t11L0.eq_1 ?_⟩
    ·rw [hdr,List.all_cons,h1,h2,Bool.true_and,Bool.true_and]; exact hj
    ·simp (config := { maxSteps := 4000000 }) (disch := omega) only [go_sem,hix,getD5,cpR_pure hm,cpR_pure hq,wrap_i64]
     exact congrArg er ih
def chkF (p : Pg) : Int := if p.gl < 0 ∨ 20000 < p.gl ∨ p.vr < 0 then 2 else if (p.cs.all fun d => mayF d && plF d) = false then 2 else (chk p p.b 0 [] [] []).1
theorem call11 (p : Pg) (hp : p.b.w ≤ 1048576 ∧ Dt.ws p.cs ≤ 1048576) : TM.Pure K 11 [.iv (.agg (encP p))] (.iv (.int .i64 (chkF p))) := by
 have hpw := hp
 have hwl := Dt.ws_len p.cs
 unfold chkF
 by_cases hg : p.gl < 0 ∨ 20000 < p.gl ∨ p.vr < 0
 ·rw [if_pos hg]
  refine pure_ret (S := []) (r := .iv (.int .i64 2)) (call_ret' K _ (fn := t11) rfl rfl ?_) (by rw [resolve_iv])
  unfold encP
  by_cases g1 : p.gl < 0
  ·simp (config := { maxSteps := 4000000 }) (disch := omega) only [t11,go_sem,TM.undef]
  ·by_cases g0 : 20000 < p.gl
   ·simp (config := { maxSteps := 4000000 }) (disch := omega) only [t11,go_sem,TM.undef]
   ·simp (config := { maxSteps := 4000000 }) (disch := omega) only [t11,go_sem,TM.undef]
 rw [if_neg hg]
 obtain ⟨j,r,y3,y8,y9,y10,hj,ih⟩ := loop11 p hp (.iv (.agg (encP p))) (lbP p) (.tup []) (.iv (.bool false)) [] p.cs.length 0 (.tup []) (.tup []) (.tup []) (by omega)
 rw [show ((0 : Nat) : Int) = 0 from rfl] at ih
 rw [List.drop_zero] at hj
 rcases hj with ⟨rfl,rfl,ha⟩ | ⟨rfl,rfl,ha⟩
 ·rw [if_pos ha]
  refine pure_ret (S := []) (r := .iv (.int .i64 2)) (call_ret' K _ (fn := t11) rfl rfl ?_) (by rw [resolve_iv])
  unfold encP at ih ⊢
  simp (config := { maxSteps := 4000000 }) (disch := omega) only [t11,go_sem,TM.undef,encDs_len]
  rw [ih]
  simp (config := { maxSteps := 4000000 }) (disch := omega) only [go_sem]
 ·rw [if_neg (by rw [ha]; decide)]
  have hs : CkS p 3 0 1 2 [.mp (mpR boxI []) 0,.mp (mpR boxI []) 0,.mp (mpR boxI []) 0,ckB p 0 1 2] [] [] [] := by
   refine ⟨by decide,by decide,by decide,by decide,by decide,by decide,rfl,⟨[],0,rfl,?_⟩,⟨[],0,rfl,?_⟩,⟨[],0,rfl,?_⟩,by simp⟩ <;> intro v <;> simp [cntR,TM.getR]
  obtain ⟨S',hc,_,_⟩ := call36 p (by omega) 3 0 1 2 1048576 (by omega) p.b 0 _ [] [] [] (by omega) (by omega) hs
  refine pure_ret (S := S') (r := .iv (.int .i64 (chk p p.b 0 [] [] []).1)) (call_ret' K _ (fn := t11) rfl rfl ?_) (by rw [resolve_iv])
  rw [mpR_nil,encE_eq,show ((0 : Nat) : Int) = 0 from rfl] at hc
  simp only [ckB,cellsP,List.cons_append,List.nil_append] at hc
  unfold encP at ih ⊢
  simp (config := { maxSteps := 4000000 }) (disch := omega) only [t11,go_sem,TM.undef,encDs_len]
  rw [ih]
  simp (config := { maxSteps := 4000000 }) (disch := omega) only [go_sem,hc]
def noC : List IV := [.sl .nil [],.int .i64 0,.int .i64 0,.int .i64 0,.sl .nil []]
theorem conv_no {p : Pg} (hp : p.b.w ≤ 1048576 ∧ Dt.ws p.cs ≤ 1048576) (h : chkF p ≠ 0) : TM.Pure K 9 [.iv (.agg (encP p))] (.tup [.iv (.agg noC),.iv (.int .i64 (chkF p))]) := by
 have c11 := call11 p hp
 unfold encP at *
 refine call_pure t9 rfl rfl ?_
 simp (config := { maxSteps := 4000000 }) (disch := omega) only [t9,go_sem,TM.undef,cpR_pure c11,h,noC]
theorem conv_set {p : Pg} (hp : p.b.w ≤ 1048576 ∧ Dt.ws p.cs ≤ 1048576) (h : chkF p = 0) (hs : setsF p.b.w p.b = true) : TM.Pure K 9 [.iv (.agg (encP p))] (.tup [.iv (.agg noC),.iv (.int .i64 2)]) := by
 have c11 := call11 p hp
 have c19 := call19 p.b.w p.b (Nat.le_refl _) hp.1 []
 rw [h] at c11
 rw [hs,encE_eq] at c19
 unfold encP at *
 refine call_pure t9 rfl rfl ?_
 simp (config := { maxSteps := 4000000 }) (disch := omega) only [t9,go_sem,TM.undef,cpR_pure c11,c19,noC]
def endF (v : Int) : List IV := [.sl .full [[.int .i64 v]],.bool false,.bool true,.sl .nil [],.int .i64 7,.int .i64 0,.int .i64 0,.int .i64 0,.int .i64 0,.sl .nil [],.sl .nil []]
def zeroF : List IV := [.sl .nil [],.bool false,.bool false,.sl .nil [],.int .i64 0,.int .i64 0,.int .i64 0,.int .i64 0,.int .i64 0,.sl .nil [],.sl .nil []]
def stB (v : Int) : Block := .cells 64 false [.iv (.sl .nil []),.iv (.int .i64 v)]
theorem st21 (v : Int) (h : 0 ≤ v ∧ v < 4611686018427387904) : (lim K).call 21 [.ptr 0 64 0] [stB v] = .ret (.iv (.int .i64 v),[stB (v + 1)]) := by
 unfold stB
 refine call_ret' K _ (fn := t21) rfl rfl ?_
 simp (config := { maxSteps := 4000000 }) (disch := omega) only [t21,go_sem,TM.undef,wrap_i64,Int.add_sub_cancel]
theorem ap_st (v w : Int) : appendOp true 11 144 47 [Block.cells 64 false [.iv (.sl .nil []),.iv (.int .i64 w)]] (.iv (.sl .nil [])) (.iv (.sl .full [endF v])) = some (.msl 1 0 0 1 1 11,[Block.cells 64 false [.iv (.sl .nil []),.iv (.int .i64 w)],.cells 0 true (cellsM [endF v])]) := by
 simp [appendOp,elemsTV,lenOf,TM.flat,endF,isRefL,TM.fits,roomy,cellsM]
theorem st20 (v w : Int) : (lim K).call 20 [.ptr 0 64 0,.iv (.agg (endF v))] [stB w] = .ret (.iv (.int .i64 0),[mkB 1 ⟨[endF v],w⟩,.cells 0 true (cellsM [endF v])]) := by
 have ap := ap_st v w
 generalize hc : cellsM [endF v] = cs at *
 unfold stB endF mkB at *
 refine call_ret' K _ (fn := t20) rfl rfl ?_
 simp (config := { maxSteps := 4000000 }) (disch := omega) only [t20,go_sem,TM.undef,wrap_i64,ap]
 rfl
theorem elems_row {S : Store} {j v : Nat} {fs : List (List IV)} (h : S[j]? = some (.cells v true (cellsM fs))) (hw : ∀ f ∈ fs,f.length = 11) : elemsIV S (.msl j v 0 fs.length fs.length 11) = some fs := by
 have hs : sub (cellsM fs) 0 (fs.length * 11) = some (cellsM fs) := sub_all (flat_all hw)
 have hc : toIVs (cellsM fs) = some (TM.flat fs) := toIVs_map _
 simp only [elemsIV,h,ne_eq,not_true_eq_false,if_false,hs,hc,Option.map_some]
 rw [chunks_flat hw]
def conv0 (p : Pg) : Mk := ⟨[endF p.vr,zeroF],p.vr + 2⟩
theorem conv_ok {p : Pg} (hp : p.b.w ≤ 1048576 ∧ Dt.ws p.cs ≤ 1048576) (ho : p.b.ok) (hv : 0 ≤ p.vr ∧ p.vr ≤ 1152921504606846976) (h : chkF p = 0) (hs : setsF p.b.w p.b = false) {n : Nat} {x : List IV × Mk} (hx : codeM n p.b (aV (p.vr + 1)) (conv0 p) = some x) (hB : Bd p.vr x.2) :
  ∃ tg,TM.Pure K 9 [.iv (.agg (encP p))] (.tup [.iv (.agg [.sl tg (x.2.fs.set 1 ([.sl .nil [],.bool false,.bool false,.sl .nil []] ++ funT (p.vr + 1) 0 (.sl .full [x.1]))),.int .i64 1,.int .i64 x.2.nv,.int .i64 p.gl,.sl p.gc (encDs p.cs)]),.iv (.int .i64 0)]) := by
 have c11 := call11 p hp
 have c19 := call19 p.b.w p.b (Nat.le_refl _) hp.1 []
 rw [h] at c11
 rw [hs] at c19
 have hb0 := hv
 have c21 := st21 p.vr (by omega)
 have c20 := st20 p.vr (p.vr + 1)
 have hM1 : MkS [mkB 1 ⟨[endF p.vr],p.vr + 1⟩,.cells 0 true (cellsM [endF p.vr])] 0 1 ⟨[endF p.vr],p.vr + 1⟩ :=
  ⟨rfl,rfl,by simp,fun f hf => by rw [List.mem_singleton] at hf; subst hf; exact ⟨rfl,rfl⟩,by show 0 ≤ p.vr + 1 ∧ p.vr + 1 ≤ _ ∧ 1 ≤ 1000000; omega⟩
 have c22 := call22 hM1 0
 have hM2 := hM1.var (by show p.vr + 1 < _; omega)
 generalize hS2 : [mkB 1 ⟨[endF p.vr],p.vr + 1⟩,Block.cells 0 true (cellsM [endF p.vr])].set 0 (mkB 1 (Mk.var ⟨[endF p.vr],p.vr + 1⟩)) = S2 at *
 have hl2 : S2.length = 2 := by rw [← hS2]; rfl
 have c20z := call20 hM2 (.sl .nil []) (.bool false) (.bool false) (.sl .nil []) (.int .i64 0) (.int .i64 0) (.int .i64 0) (.int .i64 0) (.int .i64 0) (.sl .nil []) (.sl .nil []) rfl
 have hM3 := hM2.push (f := zeroF) rfl rfl (by show 1 < 1000000; decide)
 rw [show Mk.push (Mk.var ⟨[endF p.vr],p.vr + 1⟩) zeroF = conv0 p from by unfold conv0 Mk.push Mk.var; congr 1; show p.vr + 1 + 1 = p.vr + 2; omega] at hM3
 rw [show Mk.push (Mk.var ⟨[endF p.vr],p.vr + 1⟩) [.sl .nil [],.bool false,.bool false,.sl .nil [],.int .i64 0,.int .i64 0,.int .i64 0,.int .i64 0,.int .i64 0,.sl .nil [],.sl .nil []] = conv0 p from by unfold conv0 Mk.push Mk.var; congr 1; show p.vr + 1 + 1 = p.vr + 2; omega] at c20z
 generalize hS3 : (S2.set 1 (.cells (Mk.var ⟨[endF p.vr],p.vr + 1⟩).fs.length true (cellsM ((Mk.var ⟨[endF p.vr],p.vr + 1⟩).fs ++ [zeroF])))).set 0 (mkB 1 (conv0 p)) = S3 at *
 have hl3 : S3.length = 2 := by rw [← hS3]; simp [hl2]
 let Z : Block := .cells 46 false [.iv (.int .i64 0),.iv (.int .i64 0),.iv (.int .i64 0),.iv (.int .i64 0),.iv (.int .i64 0),.iv (.sl .nil []),.iv (.sl .nil [])]
 have kA : Keep [] S3 (S3 ++ [Z]) := Keep.app _ _ _
 have hM4 := hM3.keep kA (by simp) (by simp)
 have z4 : (S3 ++ [Z])[2]? = some Z := by rw [← hl3,get_app1]
 have hle := (mono n).code hx
 obtain ⟨S5,c24,hM5,k5⟩ := (allOK hb0 n n (Nat.le_refl _)).c hx ⟨ho,hp.1⟩ (by show p.vr ≤ p.vr + 2; omega) hB hM4
 have tx := (shape n).code hx ⟨ho,hp.1⟩
 obtain ⟨S6,c23,hM6,k6⟩ := (allOK hb0 2 2 (Nat.le_refl _)).d (l := [St.tm (funT (p.vr + 1) 0 (.sl .nil [])) (p.vr + 1)]) (t := x.1) (σ := x.2) (x := ((funT (p.vr + 1) 0 (.sl .nil [])).set 6 (.sl .full [x.1]),x.2)) (by
  rw [List.reverse_singleton,laidM,laidM]) (.inr (.inr rfl)) tx (fun s hs => by rw [List.mem_singleton] at hs; subst hs; exact TmO.fun ..) (by simp) (by have := hle.nv; simp only [conv0] at this; omega) hB hM5
 have c25 := call25 (p.vr + 1)
 have z5 := k5.get _ _ (by simp) z4
 have z6 := k6.get _ _ (by simp) z5
 obtain ⟨r,hr⟩ := hle.fs
 obtain ⟨a0,a1,a2,a3,a4,a5,a6,b5,b6,hxt⟩ := tx
 rw [encE_eq] at c19 c24
 unfold encP at c11 ⊢
 refine ⟨.no,call_pure t9 rfl rfl ?_⟩
 have e1 : p.vr + 1 + 1 = p.vr + 2 := by omega
 have c21' : (lim K).call 21 [.ptr 0 64 0] [.cells 64 false [.iv (.sl .nil []),.iv (.int .i64 p.vr)]] = .ret (.iv (.int .i64 p.vr),[stB (p.vr + 1)]) := c21
 unfold endF zeroF at *
 rw [hS3] at c20z
 rw [hxt] at c24 ⊢
 rw [show encZs [St.tm (funT (p.vr + 1) 0 (.sl .nil [])) (p.vr + 1)] = [madeS (p.vr + 1) 0] from rfl,show (funT (p.vr + 1) 0 (.sl .nil [])).set 6 (.sl .full [x.1]) = funT (p.vr + 1) 0 (.sl .full [x.1]) from rfl,hxt] at c23
 unfold aV madeS funT at *
 simp only [Z] at c24 z6
 rw [show (Mk.var ⟨[[.sl .full [[.int .i64 p.vr]],.bool false,.bool true,.sl .nil [],.int .i64 7,.int .i64 0,.int .i64 0,.int .i64 0,.int .i64 0,.sl .nil [],.sl .nil []]],p.vr + 1⟩).fs.length = 1 from rfl] at c20z
 have o6 := hM6.own
 have r6 := hM6.row
 have q0 : ∀ X,(S6.set 2 X)[0]? = some (mkB 1 x.2) := fun X => by rw [get_setN (by decide)]; exact o6
 have q1 : ∀ X,(S6.set 2 X)[1]? = some (.cells (x.2.fs.length - 1) true (cellsM x.2.fs)) := fun X => by rw [get_setN (by decide)]; exact r6
 have q2 : ∀ X,(S6.set 2 X)[2]? = some X := fun X => get_setS (lt_get z6) X
 unfold mkB at q0
 rw [hr,conv0] at q0 q1
 have hLn : ([endF p.vr,zeroF] ++ r).length = r.length + 2 := by simp
 have hc0 : cellsM ([endF p.vr,zeroF] ++ r) = [.iv (.sl .full [[.int .i64 p.vr]]),.iv (.bool false),.iv (.bool true),.iv (.sl .nil []),.iv (.int .i64 7),.iv (.int .i64 0),.iv (.int .i64 0),.iv (.int .i64 0),.iv (.int .i64 0),.iv (.sl .nil []),.iv (.sl .nil []),.iv (.sl .nil []),.iv (.bool false),.iv (.bool false),.iv (.sl .nil []),.iv (.int .i64 0),.iv (.int .i64 0),.iv (.int .i64 0),.iv (.int .i64 0),.iv (.int .i64 0),.iv (.sl .nil []),.iv (.sl .nil [])] ++ cellsM r := rfl
 rw [hLn] at q0 q1
 rw [hc0] at q1
 rw [show r.length + 2 - 1 = r.length + 1 by omega] at q0 q1
 generalize hcr : cellsM r = cr at *
 have q3 : ∀ X Y,((S6.set 2 X).set 1 Y)[0]? = some (Block.cells 64 false [TV.msl 1 (r.length + 1) 0 (r.length + 2) (r.length + 2) 11,TV.iv (IV.int IntKind.i64 x.2.nv)]) := fun X Y => by rw [get_setN (by decide)]; exact q0 X
 have q4 : ∀ X Y,((S6.set 2 X).set 1 Y)[1]? = some Y := fun X Y => get_setS (by simp; exact lt_get r6) Y
 have hia : indexAddrS 11 (.msl 1 (r.length + 1) 0 (r.length + 2) (r.length + 2) 11) ((1 : Nat) : Int) = some (.ptr 1 (r.length + 1) 11) := by
  simp [indexAddrS]; omega
 simp only [List.cons_append,List.nil_append] at q1
 simp (config := { maxSteps := 4000000 }) (disch := omega) only [t9,go_sem,TM.undef,cpR_pure c11,c19,c21',c20,c22,c20z,cpR_pure c25,hl3,c24,c23,z5,z6,q0,q1,q2,hia,q3,q4]
 have hfl : (x.2.fs.set 1 ([.sl .nil [],.bool false,.bool false,.sl .nil []] ++ [.int .i64 2,.int .i64 (p.vr + 1),.int .i64 0,.int .i64 0,.int .i64 0,.sl .nil [],.sl .full [[.int .i64 a0,.int .i64 a1,.int .i64 a2,.int .i64 a3,.int .i64 a4,.sl a5 b5,.sl a6 b6]]])).length = r.length + 2 := by rw [List.length_set,hr,conv0,hLn]
 have he := fun S => elems_row (S := S) (j := 1) (v := r.length + 1) (fs := x.2.fs.set 1 ([.sl .nil [],.bool false,.bool false,.sl .nil []] ++ [.int .i64 2,.int .i64 (p.vr + 1),.int .i64 0,.int .i64 0,.int .i64 0,.sl .nil [],.sl .full [[.int .i64 a0,.int .i64 a1,.int .i64 a2,.int .i64 a3,.int .i64 a4,.sl a5 b5,.sl a6 b6]]]))
 rw [hfl] at he
 rw [he _ (by rw [q4,hr,← hcr]; rfl) (fun f hf => by
  rcases List.mem_or_eq_of_mem_set hf with hf | rfl
  ·exact (hM6.wid f hf).1
  ·rfl)]
 rfl
def mainF (v : Int) (t : List IV) : List IV := [.sl .nil [],.bool false,.bool false,.sl .nil []] ++ funT v 0 (.sl .full [t])
theorem keyF_fe (vr : Int) (tg : Tag) (ps : List Int) (r c : Bool) (q : List IV) : keyF vr (.sl tg (TM.one (.int .i64) ps) :: .bool r :: .bool c :: q) = if c then [] else if (ps.drop 1).any (fun v => decide (vr ≤ v)) then [] else [(ps.drop 1,r)] := by
 unfold keyF
 simp only
 rw [intsOf_one]
structure Mdl (p : Pg) (x : List IV × Mk) (r : List (List IV)) : Prop where
 fs : x.2.fs = [endF p.vr,zeroF] ++ r
 ok : ∀ f ∈ r,FOK p.vr f
 ct : ∀ κ,cFs p.vr κ r = cE κ p.b
 tm : TmO x.1
 bd : Bd p.vr x.2
 ln : x.2.fs.length ≤ 30000
 nv : p.vr + 2 ≤ x.2.nv
 nh : x.2.nv ≤ p.vr + 30000
theorem fr_of {p : Pg} (h : chkF p = 0) : Fr p p.b ∧ Sc [] p.b ∧ 0 ≤ p.vr ∧ 0 ≤ p.gl := by
 unfold chkF at h
 by_cases h1 : p.gl < 0 ∨ 20000 < p.gl ∨ p.vr < 0
 ·rw [if_pos h1] at h; cases h
 ·rw [if_neg h1] at h
  by_cases h2 : (p.cs.all fun d => mayF d && plF d) = false
  ·rw [if_pos h2] at h; cases h
  ·rw [if_neg h2] at h
   obtain ⟨a,b,_⟩ := chk_to p p.b.w p.b (Nat.le_refl _) 0 [] [] [] h
   exact ⟨a,b,by omega,by omega⟩
theorem mdl {p : Pg} (hp : p.b.w ≤ 1048576) (ho : p.b.ok) (h : chkF p = 0) (hs : sz p.b ≤ 2000) : ∃ n x r,codeM n p.b (aV (p.vr + 1)) (conv0 p) = some x ∧ Mdl p x r := by
 obtain ⟨hf,hsc,hv,_⟩ := fr_of h
 obtain ⟨x,hx,hpt⟩ := (tot p (sz p.b) p.b (Nat.le_refl _) hf).2 (11 * sz p.b) (aV (p.vr + 1)) (conv0 p) (by omega)
 have hle := (mono (11 * sz p.b)).code hx
 obtain ⟨r,hr⟩ := hle.fs
 have hnv : p.vr + 2 ≤ x.2.nv := hle.nv
 have hpc : pot (conv0 p) = p.vr + 2 + 2 := rfl
 have hpx : pot x.2 = x.2.nv + x.2.fs.length := rfl
 refine ⟨_,x,r,hx,hr,?_,fun κ => ?_,(shape _).code hx ⟨ho,hp⟩,⟨by omega,by omega⟩,by omega,hnv,by omega⟩
 ·have := (funcs p _).code hx ⟨hf,ho,hp⟩ (by show p.vr ≤ p.vr + 2; omega) (fun f hf => by cases hf)
  intro f hf
  refine this f ?_
  rw [hr,show (conv0 p).fs = [endF p.vr,zeroF] from rfl]
  exact hf
 ·have := (counts p κ _).code hx hf (by show p.vr ≤ p.vr + 2; omega)
  rw [hr,cFs_app] at this
  omega
section
variable {p : Pg} {x : List IV × Mk} {r : List (List IV)} (m : Mdl p x r)
include m
theorem Mdl.F : x.2.fs.set 1 (mainF (p.vr + 1) x.1) = endF p.vr :: mainF (p.vr + 1) x.1 :: r := by rw [m.fs]; rfl
theorem Mdl.get (k : Nat) : (x.2.fs.set 1 (mainF (p.vr + 1) x.1))[k + 2]? = r[k]? := by rw [m.F]; rfl
end
theorem fok_fe {vr : Int} {f : List IV} (h : FOK vr f) : ∃ tg ps r c b0 b1 b2 b3 b4 t5 t6 l5 l6,FE f tg ps r c b0 b1 b2 b3 b4 t5 t6 l5 l6 ∧ (c = false → (∃ k vs,ps = k :: vs ∧ ∀ v ∈ vs,v < vr) ∨ (∃ a d,ps = [a,d] ∧ r = true ∧ vr ≤ d ∧ b0 = 6)) := by
 obtain ⟨tg,ps,r,c,b,rfl,⟨c0,c1,c2,c3,c4,t5,t6,l5,l6,rfl⟩,ht,hl,hc⟩ := h
 refine ⟨tg,ps,r,c,c0,c1,c2,c3,c4,t5,t6,l5,l6,⟨rfl,fun e => absurd e ht,hl⟩,fun h0 => ?_⟩
 rcases hc h0 with h1 | ⟨a,d,h1,h2,h3,b',h4⟩
 ·exact .inl h1
 ·exact .inr ⟨a,d,h1,h2,h3,by injection h4 with h4; injection h4⟩
theorem fe_same {f : List IV} {tg tg' : Tag} {ps ps' : List Int} {r r' c c' : Bool} {b0 b1 b2 b3 b4 b0' b1' b2' b3' b4' : Int} {t5 t6 t5' t6' : Tag} {l5 l6 l5' l6' : List (List IV)} (h : FE f tg ps r c b0 b1 b2 b3 b4 t5 t6 l5 l6) (g : FE f tg' ps' r' c' b0' b1' b2' b3' b4' t5' t6' l5' l6') : ps = ps' ∧ r = r' ∧ c = c' ∧ b0 = b0' := by
 have := h.e.symm.trans g.e
 simp only [List.cons.injEq,IV.sl.injEq,IV.bool.injEq,IV.int.injEq] at this
 obtain ⟨⟨_,h1⟩,h2,h3,_,⟨_,h4⟩,_⟩ := this
 have h5 := congrArg intsOf h1
 rw [intsOf_one,intsOf_one] at h5
 exact ⟨h5,h2,h3,h4⟩
section
variable {p : Pg} {x : List IV × Mk} {r : List (List IV)} (m : Mdl p x r)
include m
theorem Mdl.ff : FF (x.2.fs.set 1 (mainF (p.vr + 1) x.1)) := by
 rw [m.F]
 intro f hf
 rcases List.mem_cons.1 hf with rfl | hf
 ·exact ⟨.full,[p.vr],false,true,7,0,0,0,0,.nil,.nil,[],[],rfl,(fun e => by cases e),by simp⟩
 ·rcases List.mem_cons.1 hf with rfl | hf
  ·exact ⟨.nil,[],false,false,2,p.vr + 1,0,0,0,.nil,.full,[],[x.1],rfl,fun _ => rfl,by simp⟩
  ·obtain ⟨tg,ps,r',c,b0,b1,b2,b3,b4,t5,t6,l5,l6,h,_⟩ := fok_fe (m.ok f hf)
   exact ⟨_,_,_,_,_,_,_,_,_,_,_,_,_,h⟩
def Gk (p : Pg) (x : List IV × Mk) (k : Nat) : List Int × Bool := (keyF p.vr ((x.2.fs.set 1 (mainF (p.vr + 1) x.1)).getD k [])).headD ([],false)
theorem Mdl.perm : ((idx p.vr 2 r).map (Gk p x)).Perm ((lamL p.b).map keyE) := by
 rw [List.perm_iff_count]
 intro κ
 rw [idx_count p.vr κ (Gk p x) r 2 (fun i f κ' hi hk => by
  unfold Gk
  rw [List.getD_eq_getElem?_getD,Nat.add_comm,m.get,hi,Option.getD_some,hk]
  rfl),lamL_count,m.ct]
theorem Mdl.h1 (hf : Fr p p.b) : ∀ k ∈ idx p.vr 2 r,∀ i (hi : i < (lamL p.b).length) is,k ∉ is → Gk p x k = keyE (lamL p.b)[i] → GdF (x.2.fs.set 1 (mainF (p.vr + 1) x.1)) is (lamL p.b)[i] k := by
 intro k hk i hi is hki hg
 obtain ⟨h2,f,hfk,hne⟩ := (idx_mem p.vr r 2 k).1 hk
 have hget : (x.2.fs.set 1 (mainF (p.vr + 1) x.1))[k]? = some f := by rw [show k = (k - 2) + 2 by omega,m.get]; exact hfk
 obtain ⟨tg,ps,r',c,b0,b1,b2,b3,b4,t5,t6,l5,l6,fe,hc⟩ := fok_fe (m.ok f (List.mem_of_getElem? hfk))
 have hkey := keyF_fe p.vr tg ps r' c [.sl .nil [],.int .i64 b0,.int .i64 b1,.int .i64 b2,.int .i64 b3,.int .i64 b4,.sl t5 l5,.sl t6 l6]
 rw [← fe.e] at hkey
 cases c with
 | true => exact absurd hkey hne
 | false =>
  rw [if_neg (by decide)] at hkey
  by_cases ha : (ps.drop 1).any (fun v => decide (p.vr ≤ v)) = true
  ·rw [if_pos ha] at hkey; exact absurd hkey hne
  ·rw [if_neg ha] at hkey
   have hG : Gk p x k = (ps.drop 1,r') := by
    unfold Gk
    rw [List.getD_eq_getElem?_getD,hget,Option.getD_some,hkey]
    rfl
   rw [hG] at hg
   have e1 : ps.drop 1 = (lamL p.b)[i].vs := congrArg Prod.fst hg
   have e2 : r' = (lamL p.b)[i].r := congrArg Prod.snd hg
   refine ⟨f,tg,ps,r',b0,b1,b2,b3,b4,t5,t6,l5,l6,hget,fe,hki,by omega,?_,e2,e1⟩
   rw [← e1]
   rcases hc rfl with ⟨a,vs,rfl,_⟩ | ⟨a,d,rfl,_⟩
   ·simp
   ·simp
theorem Mdl.h2 (hf : Fr p p.b) : ∀ k i (hi : i < (lamL p.b).length) is,GdF (x.2.fs.set 1 (mainF (p.vr + 1) x.1)) is (lamL p.b)[i] k → k ∈ idx p.vr 2 r ∧ k ∉ is ∧ Gk p x k = keyE (lamL p.b)[i] := by
 rintro k i hi is ⟨f,tg,ps,r',b0,b1,b2,b3,b4,t5,t6,l5,l6,hget,fe,hki,hk1,hl,e2,e1⟩
 have hk0 : k ≠ 0 := by
  rintro rfl
  rw [m.F] at hget
  cases hget
  have := fe.e
  unfold endF at this
  simp at this
 obtain ⟨hLf,hL7,_⟩ := lamL_mem p.b.w p.b (Nat.le_refl _) hf (lamL p.b)[i] (List.getElem_mem _)
 have hvs := (frM hLf).k7 hL7
 have hfk : r[k - 2]? = some f := by rw [← m.get,show k - 2 + 2 = k by omega]; exact hget
 have hkey := keyF_fe p.vr tg ps r' false [.sl .nil [],.int .i64 b0,.int .i64 b1,.int .i64 b2,.int .i64 b3,.int .i64 b4,.sl t5 l5,.sl t6 l6]
 rw [← fe.e,if_neg (by decide),if_neg (by
  rw [e1,List.any_eq_true]
  rintro ⟨v,hv,hd⟩
  have := hvs v hv
  simp at hd; omega)] at hkey
 refine ⟨(idx_mem p.vr r 2 k).2 ⟨by omega,f,hfk,by rw [hkey]; simp⟩,hki,?_⟩
 unfold Gk
 rw [List.getD_eq_getElem?_getD,hget,Option.getD_some,hkey,e1,e2]
 rfl
theorem Mdl.hb {is : List Nat} (hJ : ∀ k ∈ idx p.vr 2 r,k ∈ is) : ∀ k f tg ps r' c b0 b1 b2 b3 b4 t5 t6 l5 l6,(x.2.fs.set 1 (mainF (p.vr + 1) x.1))[k]? = some f → FE f tg ps r' c b0 b1 b2 b3 b4 t5 t6 l5 l6 → c = true ∨ k ∈ is ∨ k = 1 ∨ (ps.length = 2 ∧ r' = true ∧ b0 = 6) := by
 intro k f tg ps r' c b0 b1 b2 b3 b4 t5 t6 l5 l6 hget fe
 by_cases hk1 : k = 1
 ·exact .inr (.inr (.inl hk1))
 by_cases hk0 : k = 0
 ·subst hk0
  rw [m.F] at hget
  cases hget
  have := fe.e
  unfold endF at this
  simp at this
  exact .inl this.2.2.1
 have hfk : r[k - 2]? = some f := by rw [← m.get,show k - 2 + 2 = k by omega]; exact hget
 obtain ⟨tg',ps',r2,c2,d0,d1,d2,d3,d4,u5,u6,v5,v6,fe',hc⟩ := fok_fe (m.ok f (List.mem_of_getElem? hfk))
 obtain ⟨rfl,rfl,rfl,rfl⟩ := fe_same fe fe'
 cases c with
 | true => exact .inl rfl
 | false =>
  rcases hc rfl with ⟨a,vs,rfl,hvs⟩ | ⟨a,d,rfl,h1,h2,h3⟩
  ·refine .inr (.inl (hJ k ((idx_mem p.vr r 2 k).2 ⟨by omega,f,hfk,?_⟩)))
   have hkey := keyF_fe p.vr tg (a :: vs) r' false [.sl .nil [],.int .i64 b0,.int .i64 b1,.int .i64 b2,.int .i64 b3,.int .i64 b4,.sl t5 l5,.sl t6 l6]
   rw [← fe.e,if_neg (by decide),if_neg (by
    rw [List.drop_succ_cons,List.drop_zero,List.any_eq_true]
    rintro ⟨v,hv,hd⟩
    have := hvs v hv
    simp at hd; omega)] at hkey
   rw [hkey]; simp
  ·exact .inr (.inr (.inr ⟨rfl,h1,h3⟩))
end
end Go.Proofs.YtageemgcnoblnaaDoor
namespace Go.Proofs.YtageemgcnoblnaaDoor
open Go Go.TM Go.ChangeShapes Go.WideShapes
theorem law4 (p : Pg) (hp : p.b.w ≤ 1048576 ∧ Dt.ws p.cs ≤ 1048576) (ho : p.ok) : ∃ S',(lim K).call 4 [.iv (.agg (encP p))] [] = .ret (.iv (.bool true),S') := by
 obtain ⟨b,c7,hfew⟩ := call7 p hp []
 have c8 := call8
 cases b with
 | false =>
  refine ⟨[],call_ret' K _ (fn := t4) rfl rfl ?_⟩
  unfold encP at *
  simp (config := { maxSteps := 4000000 }) (disch := omega) only [t4,go_sem,TM.undef,c7,cpR_pure c8]
 | true =>
  obtain ⟨hsz,hcl,hvr⟩ := hfew rfl
  by_cases hck : chkF p = 0
  ·obtain ⟨hf,hsc,hv,hgl⟩ := fr_of hck
   cases hst : setsF p.b.w p.b with
   | true =>
    have c9 := conv_set hp hck hst
    unfold noC at c9
    refine ⟨[],call_ret' K _ (fn := t4) rfl rfl ?_⟩
    unfold encP at *
    simp (config := { maxSteps := 4000000 }) (disch := omega) only [t4,go_sem,TM.undef,c7,cpR_pure c8,cpR_pure c9]
   | false =>
    obtain ⟨n,x,r,hx,m⟩ := mdl hp.1 ho.1 hck hsz
    obtain ⟨tg,c9⟩ := conv_ok hp ho.1 (by omega) hck hst hx m.bd
    rw [show [IV.sl .nil [],.bool false,.bool false,.sl .nil []] ++ funT (p.vr + 1) 0 (.sl .full [x.1]) = mainF (p.vr + 1) x.1 from rfl] at c9
    have hFl : (x.2.fs.set 1 (mainF (p.vr + 1) x.1)).length ≤ 1000000 := by rw [List.length_set]; have := m.ln; omega
    obtain ⟨jl,S1,c13,g1⟩ := call13 p.b.w p.b (Nat.le_refl _) hp.1 (n0 := 0) (S := []) (l := []) (j := 0) (Gl.nil ..) (Nat.zero_le _) (by simp; omega)
    rw [List.nil_append] at c13
    have hLl := lamL_len p.b
    have hLm := lamL_mem p.b.w p.b (Nat.le_refl _) hf
    have hvL : ∀ e ∈ lamL p.b,e.vs.length ≤ 1048576 := fun e he => by have := (hLm e he).2.2; have := Ex.w_eq e; omega
    have hLn : (lamL p.b).length ≤ 1000000 := by
     have h := m.perm.length_eq
     rw [List.length_map,List.length_map] at h
     rw [← h]
     have : (idx p.vr 2 r).length ≤ r.length := by
      clear h
      generalize 2 = o
      generalize p.vr = vr
      clear c9 m hFl hx
      induction r generalizing o with
      | nil => simp [idx]
      | cons f r ih => rw [idx]; split <;> simp <;> have := ih (o + 1) <;> omega
     have h2 := m.fs
     have h3 := m.ln
     rw [h2] at h3
     simp at h3
     omega
    obtain ⟨is,R,ji,S2,y8,y9,y14,y15,y16,la,hil,hG⟩ := loop4a m.ff hFl hLn jl hvL (tgF := tg) x.2.nv p.gl (.sl p.gc (encDs p.cs)) m.perm (idx_nodup ..) (m.h1 hf) (m.h2 hf) (n0 := S1.length) (.iv (.agg (encP p))) (lbP p) (.iv (.bool false)) (.iv (.int .i64 0)) (.tup []) (.tup []) (.iv (.bool false)) (.iv (.bool false)) (.tup []) (.tup []) (.tup []) (lamL p.b).length 0 [] (idx p.vr 2 r) 0 S1 (.tup []) (.tup []) (.tup []) (.tup []) (.tup []) (by omega) rfl ⟨by simp,rfl⟩ (Gl.nil ..) (Nat.le_refl _)
    have hJ := hG.done m.perm
    obtain ⟨z11,z18,z19,lc⟩ := loop4c m.ff hFl (tgF := tg) x.2.nv p.gl (.sl p.gc (encDs p.cs)) (is := is) (by omega) (m.hb hJ) ji S2 (.iv (.agg (encP p))) (lbP p) (.iv (.bool false)) (.iv (.int .i64 0)) (acc jl (encEs (lamL p.b))) (.iv (.int .i64 (lamL p.b).length)) y8 y9 (.iv (.bool false)) (.iv (.bool false)) y14 y15 y16 (.iv (.bool false)) (x.2.fs.set 1 (mainF (p.vr + 1) x.1)).length 0 (.tup []) (.tup []) (.tup []) (by omega)
    have hl1 : lenV .sl S2 (acc jl (encEs (lamL p.b))) = some (.iv (.int .i64 (lamL p.b).length)) := by rw [(SR.acc jl _).len S2,encEs_len]
    have hl2 : lenV .sl S2 (acc ji (TM.one (.int .i64) (natsI is))) = some (.iv (.int .i64 (lamL p.b).length)) := by
     rw [(SR.acc ji _).len S2,one_len]
     unfold natsI
     rw [List.length_map,hil]
    rw [show natsI [] = [] from rfl,show TM.one (.int .i64) ([] : List Int) = [] from rfl,acc_nil,show ((0 : Nat) : Int) = 0 from rfl] at la
    rw [show ((0 : Nat) : Int) = 0 from rfl] at lc
    rw [show encEs [] = [] from rfl,acc_nil] at c13
    refine ⟨S2,call_ret' K _ (fn := t4) rfl rfl ?_⟩
    generalize x.2.fs.set 1 (mainF (p.vr + 1) x.1) = F at *
    unfold lbP encP at *
    simp (config := { maxSteps := 4000000 }) (disch := omega) only [t4,go_sem,TM.undef,c7,cpR_pure c8,cpR_pure c9,c13]
    rw [la]
    simp (config := { maxSteps := 4000000 }) (disch := omega) only [go_sem,hl1,hl2]
    rw [lc]
    simp (config := { maxSteps := 4000000 }) (disch := omega) only [go_sem,cpR_pure c8]
  ·have c9 := conv_no hp hck
   unfold noC at c9
   refine ⟨[],call_ret' K _ (fn := t4) rfl rfl ?_⟩
   unfold encP at *
   simp (config := { maxSteps := 4000000 }) (disch := omega) only [t4,go_sem,TM.undef,c7,cpR_pure c8,cpR_pure c9,hck]
theorem argP (l : List IV) : argOf Tryd.prog 28 l = .iv (.agg l) := argOf_agg (by rw [Tryd.underlying28])
theorem inv4 {H : Type} {ds : List (DataW H)} {ls : List (List IV)} (hh0 : AllTy Tryd.prog [28] ds ls) (hb : Rows.uptoBulkAll ds ≤ 1048576) : ((lim K).call 4 (argsOf Tryd.prog [28] ls) []).All fun r => r.1 = .iv (.bool true) := by
 obtain ⟨d0,l0,ds,ls,rfl,rfl,h0,hh1⟩ := allTy_consE hh0
 obtain rfl := allTy_nilD hh1
 rw [allTy_nil hh1]
 simp only [Rows.uptoBulkAll] at hb
 obtain ⟨p,rfl,b0,r0⟩ := readP h0
 simp only [argsOf,argP]
 have hpw : p.b.w + Dt.ws p.cs ≤ 1048576 := by show p.w ≤ _; omega
 obtain ⟨S',h⟩ := law4 p ⟨by omega,by omega⟩ r0
 rw [h]
 exact rfl
end Go.Proofs.YtageemgcnoblnaaDoor
