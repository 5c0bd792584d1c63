/- A part of the evaluator TM, and of the proof that what it computes the model does. Condition: none. -/
import Derived.Test.YtdomjhilmamnpaaGreatDoorTmC
import Derived.Laws.Sem
import Derived.RangeFuncLeaves
import Derived.OpenShut
import Derived.LaidLaws
import Derived.LaidSub
import Derived.ProofKit
import Derived.Carry
import Derived.OpenVars
import Derived.MakeChecks
import Derived.Shelf.Strings.Builder1
import Derived.Lib.Bytealg
import Derived.Lib.MakeNoZero
/- The evaluator TM and the model: steps within a region that draws its order. Condition: none. -/
namespace Go.TM
open Go

section
variable {P : Program} {O : Opts} {K : TM.Prog} {A : Ann}
variable {M : Mem} {J : Places} {L : List (Option Nat)} {S S' : Store} {env env' : Env} {w : World}

theorem LbR.stepN {n : Nat} {M' : Mem} {J' : Places} {w' : World} (h : LbR M J L env w) (t : TrN n (fun _ => False) M J S w M' J' S' w') : LbR M' J' L env w' := by
  refine ⟨h.len, fun j cs hj => ?_, h.inj⟩
  obtain ⟨cb, h1, h2⟩ := h.box j cs hj
  have hlt := h2.lt
  exact ⟨cb, h1, h2.step (t.frame cb hlt h2.1 (fun h => h)) t.mle (fun o => t.mnew cb o hlt h2.1) t.jle (t.has hlt h2.1)⟩

theorem MS.stepN {n : Nat} {M' : Mem} {J' : Places} {w' : World} (h : MS P O K M J L S env w) (hw : WR P O M' J' S' w') (t : TrN n (fun _ => False) M J S w M' J' S' w') : MS P O K M' J' L S' env w' :=
  ⟨hw, h.lb.stepN t, fun g cs hg => (h.gl g cs hg).mono t.mle⟩

/-- What is to be shown behind a step of the model's. -/
def KontD (P : Program) (O : Opts) (K : TM.Prog) (A : Ann) (nt n0 fm : Nat) (bef : List Nat) (ops : List Oper) (tops : List TOper) (X : Nat → Prop) (run : Nat) (M : Mem) (J : Places) (L : List (Option Nat)) (S : Store) (env : Env) (w : World) (rs : List TV) (a : Act) (y : Nat)
    (next : Act → World → Prop) : Prop :=
  ∀ (al' : List (Nat × Nat)) (M' : Mem) (J' : Places) (w' : World) (a' : Act), DS P O K A nt n0 fm bef ops tops (fun k => X k ∨ k = y) run al' M' J' L S env w' rs a' → a'.defers = a.defers → TrN n0 (ownOf L) M J S w M' J' S w' → next a' w'

/-- Operands of an operation that is ready, and guard. -/
theorem DS.ready {nt n0 fm : Nat} {bef : List Nat} {ops : List Oper} {tops : List TOper} (hf : Fixed P O A nt bef ops tops) {X : Nat → Prop} {run : Nat} {al : List (Nat × Nat)} {rs : List TV} {a : Act} (h : DS P O K A nt n0 fm bef ops tops X run al M J L S env w rs a) {y : Nat} (hX : ¬ X y)
    (hr : ∀ j, B bef y j → X j) {to : TOper} (hto : tops[y]? = some to) : (∀ tx ∈ opdsOf to.op, OpdAt A ops X tx) ∧ ∀ g want, to.guard = some (g, want) → X g ∧ ∃ og t, ops[g]? = some og ∧ og.dst = some t := by
  refine ⟨fun tx htx => ?_, fun g want hg => ?_⟩
  · cases tx with
    | reg r => exact hr r ((hf.opd y to hto _ htx).1 r rfl)
    | loc j =>
      intro k o hk ho t ht hj
      exact hX (h.xc k hk y ((hf.opd y to hto _ htx).2 j rfl k o t ho ht hj))
    | _ => trivial
  · obtain ⟨h1, h2⟩ := hf.gd y to hto g want hg
    exact ⟨hr g h1, h2⟩

/-- The model runs what TM has run. -/
theorem DS.run_wp {nt n0 fm : Nat} {bef : List Nat} {ops : List Oper} {tops : List TOper} (hf : Fixed P O A nt bef ops tops) {F : Fence} (hF : FenceOK F) (nn : Nat) {X : Nat → Prop} {run : Nat} {al : List (Nat × Nat)} {rs : List TV} {a : Act}
    (h : DS P O K A nt n0 fm bef ops tops X run al M J L S env w rs a) {y : Nat} (hy : run.testBit y = true) (hX : ¬ X y) (hr : ∀ j, B bef y j → X j) {next : Act → World → Prop}
    (hk : KontD P O K A nt n0 fm bef ops tops X run M J L S env w rs a y next) {Z : Exit → Act → World → Prop} : wpOpIn F nn P ops.toArray Z y next a w := by
  have hyl := h.rn y hy
  have hi : ops[y]? = some ops[y] := List.getElem?_eq_getElem hyl
  obtain ⟨to, hto, hca⟩ := hf.ca y ops[y] hi
  obtain ⟨hopd, hgd⟩ := h.ready hf hX hr hto
  have htn := isL_target (hf.nl y to hto)
  have hgd' : ∀ g want, ops[y].guard = some (g, want) → X g ∧ ∃ og t, ops[g]? = some og ∧ og.dst = some t := by rw [← hca.guard]; exact hgd
  have hloc := fun (_ : targetOf to.op = none) (hl : to.loc = none) (j t : Nat) (hd : ops[y].dst = some t) => loc_none hf.hs hca htn hl j t hd
  have hlp : ∀ {env' : Env} {v : TV}, ∀ j, targetOf to.op = some j → rs.any (lpIs j) = false ∧ v = .lp j 0 ∧ (∃ d, ops[y].dst = some d ∧ A.slots[j]? = some d) ∧ (∃ cs, env' = env.set j (.lb cs)) ∧ j < env.length := fun j hj => by rw [htn] at hj; simp at hj
  have hsub : ∀ i, (X i ∨ i = y) → run.testBit i = true := fun i hi => hi.elim (h.sub i) (fun e => e ▸ hy)
  have hxc : ∀ i, (X i ∨ i = y) → ∀ j, B bef i j → (X j ∨ j = y) := fun i hi j hj => hi.elim (fun hi => .inl (h.xc i hi j hj)) (fun e => .inl (hr j (e ▸ hj)))
  have hfx : ∀ i, run.testBit i = true → fm.testBit i = true ∨ (X i ∨ i = y) := fun i hi => (h.fx i hi).imp id .inl
  have hv : ∀ {w' : World}, MS P O K M J L S env w' → Opds A ((ops.take y).map (·.dst)) M J L (evalOpd K env rs) a to.op := fun ms x tx hm hx => opd_vr ms h.rr hx (hopd tx hm)
  have hcr : to.op ≠ .bad → CompR P O A ((ops.take y).map (·.dst)) (ops[y].dst.bind fun t => slotOf t A.slots 0) ops[y].op to.op := fun hb => hca.op.resolve_left hb
  unfold wpOpIn
  simp only [List.getElem?_toArray, hi]
  by_cases hal : ∃ i, (y, i) ∈ al
  · -- a block that stands in the store
    obtain ⟨i, hyi⟩ := hal
    obtain ⟨_, _, to', vf, b, hto', hg, hrv, hall, hJi, hSi⟩ := h.al1 y i hyi
    rw [hto] at hto'
    simp at hto'; subst hto'
    have hw := guard_wanted h.rr hf.hd (by rw [← hca.guard]; exact hg) hgd'
    rw [hw]
    simp only [if_true]
    have hcr := hcr (by intro e; have := hall 0; rw [e] at this; simp [allocOp] at this)
    obtain ⟨_, vf', hall', ob, vm, l, hlay⟩ := lay_sim hcr a h.ms (hv h.ms) (hall i)
    have hvf : vf i = vf' i := by have := hall' i; rw [hall i] at this; simpa using this
    have hp : Place J S l b i (J.set i (some l)) S := .real i hJi hSi
    have hn0 : n0 ≤ i := h.al3 _ hyi
    obtain ⟨wr', tr'⟩ := h.ms.wr.place ob l b hp hlay.cb (hlay.blk _ hp.jle) (n := n0) (.inr hn0)
    unfold Oper.wpIn
    refine ⟨fun f _ => hF.fn f, ?_⟩
    rw [Oper.semAt_eq _ _ _ hcr.notDefer, hlay.run, Oper.uponIn_value]
    have hms' := h.ms.stepN wr' tr'
    have hvr : VR M (J.set i (some l)) L (rs.getD y .hole) vm := by rw [hrv, hvf]; exact hlay.val L _ i (hp.at h.ms.wr.len)
    -- registers: as they were, under the places
    have hrr0 := h.rr.mono (.refl M) hp.jle
    have hrr := hrr0.step hf.hd hf.hs hi hto hX (.refl (ownOf L) M (J.set i (some l)) S (w.alloc ob)) (env' := env) (L' := L) (by rw [htn]; exact ⟨rfl, .refl _⟩) hvr ⟨rfl, rfl, fun k _ => rfl⟩ hlp hloc
    refine hk (al.filter fun p => decide (p.1 ≠ y)) M (J.set i (some l)) (w.alloc ob) _ ⟨hrr, hms', hsub, h.cl, hxc, fun z hz hXz => ?_, fun z k hzk => ?_, fun p q hp hq => ?_, h.rn, fun p hp => ?_, by simpa using h.nj, hfx⟩ put_defers (tr'.weaken (fun _ hh => hh.elim))
    · rw [not_or] at hXz
      rcases h.pend z hz hXz.1 with h' | ⟨k, hk'⟩
      · exact .inl h'
      · exact .inr ⟨k, List.mem_filter.2 ⟨hk', by simpa using hXz.2⟩⟩
    · obtain ⟨h1, h2⟩ := List.mem_filter.1 hzk
      have hzy : z ≠ y := by simpa using h2
      obtain ⟨e1, e2, t2, vf2, b2, f1, f2, f3, f4, f5, f6⟩ := h.al1 z k h1
      have hki : k ≠ i := by
        rintro rfl
        have := h.al2 (z, k) (y, k) h1 hyi (.inr rfl)
        simp at this; exact hzy this
      exact ⟨e1, fun hh => hh.elim e2 hzy, t2, vf2, b2, f1, f2, f3, f4, by rw [List.getElem?_set_ne (by omega)]; exact f5, f6⟩
    · exact h.al2 p q (List.mem_filter.1 hp).1 (List.mem_filter.1 hq).1
    · exact h.al3 p (List.mem_filter.1 hp).1
  · -- one that lays none
    have hp1 := (h.pend y hy hX).resolve_right hal
    obtain ⟨to', hto', hc⟩ := hp1
    rw [hto] at hto'
    simp at hto'; subst hto'
    have rest : ∀ (M' : Mem) (J' : Places) (w' : World) (v' : Value), VR M' J' L (rs.getD y .hole) v' → MS P O K M' J' L S env w' → Tr (ownOf L) M J S w M' J' S w' → next (a.put ops[y].dst v') w' := by
      intro M' J' w' v' hvr hms' tr
      have hrr := h.rr.step hf.hd hf.hs hi hto hX tr (env' := env) (L' := L) (by rw [htn]; exact ⟨rfl, .refl _⟩) hvr ⟨rfl, rfl, fun k _ => rfl⟩ hlp hloc
      refine hk al M' J' w' _ ⟨hrr, hms', hsub, h.cl, hxc, fun z hz hXz => h.pend z hz (fun hh => hXz (.inl hh)), fun z k hzk => ?_, h.al2, h.rn, h.al3, Nat.le_trans h.nj tr.jle.1, hfx⟩ put_defers (tr.trN n0)
      obtain ⟨e1, e2, t2, vf2, b2, f1, f2, f3, f4, f5, f6⟩ := h.al1 z k hzk
      exact ⟨e1, fun hh => hh.elim e2 (fun e => hal ⟨k, e ▸ hzk⟩), t2, vf2, b2, f1, f2, f3, f4, (tr.ph k f5).1, f6⟩
    rcases hc with ⟨hg, hrv⟩ | ⟨hg, hfl⟩
    · have hw := guard_wanted h.rr hf.hd (by rw [← hca.guard]; exact hg) hgd'
      rw [hw]
      simp only [Bool.false_eq_true, if_false]
      exact ⟨fun f _ => hF.fn f, rest M J w _ (by rw [hrv]; exact tuple0_vr) h.ms (.refl _ _ _ _ _)⟩
    · have hw := guard_wanted h.rr hf.hd (by rw [← hca.guard]; exact hg) hgd'
      rw [hw]
      simp only [if_true]
      have hcr := hcr (by intro e; rw [e] at hfl; simp [flOp, pureOp, readOp] at hfl)
      have hsim := (fl_sim hcr a h.ms (hv h.ms) (v := rs.getD y .hole) (by
        unfold flOp at hfl
        split at hfl
        · rename_i v hp; simp at hfl; subst hfl; exact .inl hp
        · exact .inr hfl)).2
      refine opSim_wp hF nn hcr.notDefer hsim (Q := fun r => r.1 = rs.getD y .hole ∧ r.2.1 = env ∧ r.2.2 = S) ⟨rfl, rfl, rfl⟩ ?_
      rintro v env2 S2 M' J' L2 w' v' ⟨rfl, rfl, rfl⟩ hvr hms' tr el
      rw [htn] at el
      obtain ⟨rfl, _⟩ := el
      exact rest M' J' w' v' hvr hms' tr

end
end Go.TM

/- The evaluator TM and the model: a region that draws its order, whole. Condition: none. -/
namespace Go.TM
open Go

section
variable {P : Program} {O : Opts} {K : TM.Prog} {A : Ann}
variable {M : Mem} {J : Places} {L : List (Option Nat)} {S S' : Store} {env env' : Env} {w : World}

theorem recheck_get {tops : List TOper} {rs : List TV} {env : Env} {S : Store} : ∀ {chk : List Nat}, recheck K tops rs env S chk = true → ∀ y ∈ chk, ∀ to, tops[y]? = some to → guardOf to.guard rs = some true → flOp K to.op env rs S = some (rs.getD y .hole)
  | [], _, y, hy => by simp at hy
  | i :: is, h, y, hy => by
    simp only [recheck, Bool.and_eq_true] at h
    intro to hto hg
    rcases List.mem_cons.1 hy with rfl | hy
    · have h1 := h.1
      rw [hto] at h1
      simp only [hg] at h1
      split at h1
      · rename_i v hv
        rw [hv, same_eq h1]
      · simp at h1
    · exact recheck_get h.2 y hy to hto hg

/-- Behind an effect. -/
theorem DS.effect {nt n0 fm : Nat} {bef : List Nat} {ops : List Oper} {tops : List TOper} (hf : Fixed P O A nt bef ops tops) {X : Nat → Prop} {run : Nat} {al : List (Nat × Nat)} {rs : List TV} {a : Act} (h : DS P O K A nt n0 fm bef ops tops X run al M J L S env w rs a)
    {e : Nat} (he : run.testBit e = false) (hel : e < ops.length) (hr : ∀ j, B bef e j → X j) {to : TOper} (hto : tops[e]? = some to) {v : TV} {M' : Mem} {J' : Places} {L' : List (Option Nat)} {w' : World} {a' : Act}
    (hrr : RR A nt ops tops (fun k => X k ∨ k = e) M' J' L' env' (rs.set e v) a') (hms : MS P O K M' J' L' S' env' w') (tr : Tr (ownOf L) M J S w M' J' S' w') (el : EL w (targetOf to.op) env env' L L') {chk : List Nat} (hchk : recheck K tops (rs.set e v) env' S' chk = true)
    (hcov : ∀ y, fm.testBit y = true → B bef e y ∨ y ∈ chk ∨ ∀ ty, tops[y]? = some ty → reads ty.op = false) : DS P O K A nt n0 fm bef ops tops (fun k => X k ∨ k = e) (run ||| 2 ^ e) al M' J' L' S' env' w' (rs.set e v) a' := by
  have hers : e < rs.length := by rw [h.rr.rl]; exact hel
  obtain ⟨k1, k2, k3⟩ := set_get hers v
  have htn := isL_target (hf.nl e to hto)
  rw [htn] at el
  have hsl : ∀ j, slotV env' j = slotV env j := fun j => slotV_step el.2 j
  have old : ∀ (y : Nat), run.testBit y = true → ∀ r, B bef y r → (rs.set e v).getD r .hole = rs.getD r .hole := fun y hy r hr => k3 r (fun ee => by have := h.cl y hy r hr; rw [ee, he] at this; simp at this)
  have hne : ∀ y, run.testBit y = true → y ≠ e := fun y hy ee => by rw [ee, he] at hy; simp at hy
  refine ⟨hrr, hms, fun i hi => bit_or2.2 (hi.imp (h.sub i) id), fun i hi j hj => ?_, fun i hi j hj => ?_, fun y hy hX => ?_, fun y k hyk => ?_, h.al2, fun i hi => ?_, h.al3, Nat.le_trans h.nj tr.jle.1, fun y hy => ?_⟩
  · rcases bit_or2.1 hi with hi | rfl
    · exact bit_or2.2 (.inl (h.cl i hi j hj))
    · exact bit_or2.2 (.inl (h.sub j (hr j hj)))
  · rcases hi with hi | rfl
    · exact .inl (h.xc i hi j hj)
    · exact .inl (hr j hj)
  · rw [not_or] at hX
    have hy := (bit_or2.1 hy).resolve_right hX.2
    rcases h.pend y hy hX.1 with ⟨ty, hty, hc⟩ | h'
    · left
      refine ⟨ty, hty, ?_⟩
      have hgs := guard_same hf hty (old y hy)
      rw [hgs, k3 y (hne y hy)]
      rcases hc with hc | ⟨hg, hfl⟩
      · exact .inl hc
      · refine .inr ⟨hg, ?_⟩
        have hop := opd_same (K := K) hf hty hsl (old y hy)
        unfold flOp at hfl
        cases hpu : pureOp ty.op (evalOpd K env rs) with
        | some v2 =>
          rw [hpu] at hfl
          unfold flOp
          rw [← pureOp_congr hop, hpu]
          exact hfl
        | none =>
          rw [hpu] at hfl
          simp only at hfl
          have hrd : reads ty.op = true := by
            cases hb : reads ty.op with
            | true => rfl
            | false => rw [readOp_none hb] at hfl; simp at hfl
          rcases hcov y ((h.fx y hy).resolve_right hX.1) with h1 | h1 | h1
          · exact absurd (hr y h1) hX.1
          · have := recheck_get hchk y h1 ty hty (by rw [hgs]; exact hg)
            rw [k3 y (hne y hy)] at this
            exact this
          · rw [h1 ty hty] at hrd; simp at hrd
    · exact .inr h'
  · obtain ⟨e1, e2, ty, vf, b, f1, f2, f3, f4, f5, f6⟩ := h.al1 y k hyk
    obtain ⟨p1, p2⟩ := tr.ph k f5
    refine ⟨bit_or2.2 (.inl e1), fun hh => hh.elim e2 (hne y e1), ty, vf, b, f1, ?_, ?_, fun m => ?_, p1, by rw [p2]; exact f6⟩
    · rw [guard_same hf f1 (old y e1)]; exact f2
    · rw [k3 y (hne y e1)]; exact f3
    · rw [← allocOp_congr m (opd_same hf f1 hsl (old y e1))]; exact f4 m
  · rcases bit_or2.1 hi with hi | rfl
    · exact h.rn i hi
    · exact hel
  · rcases bit_or2.1 hy with hy | rfl
    · exact (h.fx y hy).imp id .inl
    · exact .inr (.inr rfl)

theorem DS.fm {nt n0 fm fm' : Nat} {bef : List Nat} {ops : List Oper} {tops : List TOper} {X : Nat → Prop} {run : Nat} {al : List (Nat × Nat)} {rs : List TV} {a : Act} (h : DS P O K A nt n0 fm bef ops tops X run al M J L S env w rs a) (hm : ∀ y, fm.testBit y = true → fm'.testBit y = true) :
    DS P O K A nt n0 fm' bef ops tops X run al M J L S env w rs a :=
  ⟨h.rr, h.ms, h.sub, h.cl, h.xc, h.pend, h.al1, h.al2, h.rn, h.al3, h.nj, fun y hy => (h.fx y hy).imp (hm y) id⟩

theorem DS.congr {nt n0 fm : Nat} {bef : List Nat} {ops : List Oper} {tops : List TOper} {X X' : Nat → Prop} {run : Nat} {al : List (Nat × Nat)} {rs : List TV} {a : Act} (h : DS P O K A nt n0 fm bef ops tops X run al M J L S env w rs a) (hx : ∀ k, X k ↔ X' k) :
    DS P O K A nt n0 fm bef ops tops X' run al M J L S env w rs a := by
  have : X = X' := funext fun k => propext (hx k)
  exact this ▸ h

theorem foldl_bits {y : Nat} : ∀ (fl : List Nat) (m : Nat), (fl.foldl (fun m i => m ||| 2 ^ i) m).testBit y = true ↔ m.testBit y = true ∨ y ∈ fl
  | [], m => by simp
  | i :: fl, m => by
    simp only [List.foldl_cons]
    rw [foldl_bits fl, bit_or2]
    simp only [List.mem_cons]
    rw [or_assoc]

theorem runsOk_bits {bef : List Nat} {y : Nat} : ∀ {is : List Nat} {run run' : Nat}, runsOk bef is run = some run' → (run'.testBit y = true ↔ run.testBit y = true ∨ y ∈ is)
  | [], run, run', h => by simp [runsOk] at h; subst h; simp
  | i :: is, run, run', h => by
    obtain ⟨_, _, h3⟩ := runsOk_cons h
    rw [runsOk_bits h3, bit_or2]
    simp only [List.mem_cons]
    rw [or_assoc]

theorem runFloats_lt {tops : List TOper} {env : Env} : ∀ {is : List Nat} {rs : List TV} {S : Store} {q : List TV × Store}, runFloats K tops is rs env S = some q → ∀ i ∈ is, i < tops.length
  | [], _, _, _, _, i, hi => by simp at hi
  | k :: is, rs, S, q, h, i, hi => by
    simp only [runFloats] at h
    split at h
    · simp at h
    · rename_i o ho
      have hk : k < tops.length := (List.getElem?_eq_some_iff.1 ho).1
      rcases List.mem_cons.1 hi with rfl | hi
      · exact hk
      · split at h
        · simp at h
        · exact runFloats_lt h i hi
        · split at h
          · exact runFloats_lt h i hi
          · split at h
            · exact runFloats_lt h i hi
            · simp at h

/-- The phases ahead, as checked. -/
theorem phasesOk_cons {bef : List Nat} {tops : List TOper} {e : Nat} {chk fl : List Nat} {ps : List (Nat × List Nat × List Nat)} {last : Option Nat} {run fm all : Nat} (h : phasesOk bef tops ((e, chk, fl) :: ps) last run fm = some all) :
    (∀ l, last = some l → B bef e l) ∧ (∀ y, y < tops.length → fm.testBit y = true → B bef e y ∨ y ∈ chk ∨ ∀ ty, tops[y]? = some ty → reads ty.op = false) ∧ (∀ i ∈ fl, B bef i e) ∧
      ∃ run', runsOk bef (e :: fl) run = some run' ∧ phasesOk bef tops ps (some e) run' (fm ||| fl.foldl (fun m i => m ||| 2 ^ i) 0) = some all := by
  have key : ∀ {c0 : Bool}, (c0 = true → ∀ l, last = some l → B bef e l) →
      (if (c0 && (List.range tops.length).all (fun i => !(fm.testBit i) || (bef.getD e 0).testBit i || chk.contains i || !(match tops[i]? with | some o => reads o.op | none => true)) && fl.all (fun i => (bef.getD i 0).testBit e)) = true then
        match runsOk bef (e :: fl) run with
        | some run' => phasesOk bef tops ps (some e) run' (fm ||| fl.foldl (fun m i => m ||| 2 ^ i) 0)
        | none => none
      else none) = some all → (∀ l, last = some l → B bef e l) ∧ (∀ y, y < tops.length → fm.testBit y = true → B bef e y ∨ y ∈ chk ∨ ∀ ty, tops[y]? = some ty → reads ty.op = false) ∧ (∀ i ∈ fl, B bef i e) ∧
      ∃ run', runsOk bef (e :: fl) run = some run' ∧ phasesOk bef tops ps (some e) run' (fm ||| fl.foldl (fun m i => m ||| 2 ^ i) 0) = some all := by
    intro c0 hc0 h
    split at h
    · rename_i hc
      simp only [Bool.and_eq_true, List.all_eq_true] at hc
      obtain ⟨⟨h1, h2⟩, h3⟩ := hc
      refine ⟨hc0 h1, fun y hy hfy => ?_, fun i hi => h3 i hi, ?_⟩
      · have := h2 y (List.mem_range.2 hy)
        simp only [Bool.or_eq_true, Bool.not_eq_true'] at this
        rcases this with ((h4 | h4) | h4) | h4
        · rw [hfy] at h4; simp at h4
        · exact .inl h4
        · exact .inr (.inl (by simpa using h4))
        · refine .inr (.inr fun ty hty => ?_)
          rw [hty] at h4; exact h4
      · split at h
        · rename_i run' hrun
          exact ⟨run', hrun, h⟩
        · simp at h
    · simp at h
  cases last with
  | none => exact key (c0 := true) (fun _ l hl => by simp at hl) h
  | some l0 => exact key (c0 := (bef.getD e 0).testBit l0) (fun hc l hl => by simp at hl; subst hl; exact hc) h

/-- Whatever is not run yet has the next effect ahead of it, or is that. -/
theorem phase_first {bef : List Nat} {tops : List TOper} {X : Nat → Prop} (hx : ∀ i, X i → ∀ j, B bef i j → X j) {y : Nat} (hy : ∀ j, B bef y j → X j) : ∀ {ps : List (Nat × List Nat × List Nat)} {e : Nat} {chk fl : List Nat} {last : Option Nat} {run fm all : Nat},
    phasesOk bef tops ((e, chk, fl) :: ps) last run fm = some all → all.testBit y = true → run.testBit y = false → y = e ∨ X e
  | ps, e, chk, fl, last, run, fm, all, h, hall, hrun => by
    obtain ⟨_, _, h3, run', h4, h5⟩ := phasesOk_cons h
    obtain ⟨_, _, h6⟩ := runsOk_cons h4
    by_cases hye : y = e
    · exact .inl hye
    · by_cases hyf : y ∈ fl
      · exact .inr (hy e (h3 y hyf))
      · have hrun' : run'.testBit y = false := by
          cases hb : run'.testBit y with
          | false => rfl
          | true =>
            rcases (runsOk_bits h4).1 hb with h7 | h7
            · rw [hrun] at h7; simp at h7
            · rcases List.mem_cons.1 h7 with h7 | h7
              · exact absurd h7 hye
              · exact absurd h7 hyf
        cases ps with
        | nil =>
          simp only [phasesOk, Option.some.injEq] at h5
          rw [h5, hall] at hrun'; simp at hrun'
        | cons p ps =>
          obtain ⟨e2, chk2, fl2⟩ := p
          have hB := (phasesOk_cons h5).1 e rfl
          rcases phase_first hx hy h5 hall hrun' with h7 | h7
          · subst h7; exact .inr (hy e hB)
          · exact .inr (hx e2 h7 e hB)

end
end Go.TM

/- The evaluator TM and the model: a region that draws its order: every order that its edges allow. Condition: none. -/
namespace Go.TM
open Go

section
variable {P : Program} {O : Opts} {K : TM.Prog} {A : Ann}
variable {M : Mem} {J : Places} {L : List (Option Nat)} {S S' : Store} {env env' : Env} {w : World}

theorem befOk_get {bef : List Nat} : ∀ {os : List Oper} {i : Nat}, befOk bef i os = true → ∀ {k : Nat} {o : Oper}, os[k]? = some o → (∀ e ∈ o.after.toList, Region.binds .any e = true → e.on < i + k) ∧
    (∀ j, B bef (i + k) j → ∃ e ∈ o.after.toList, Region.binds .any e = true ∧ (e.on = j ∨ B bef e.on j))
  | [], i, _, k, o, hk => by simp at hk
  | o0 :: os, i, h, k, o, hk => by
    simp only [befOk, Bool.and_eq_true] at h
    obtain ⟨⟨⟨h1, h2⟩, h3⟩, h4⟩ := h
    cases k with
    | zero =>
      simp at hk; subst hk
      rw [Nat.add_zero]
      simp only [List.all_eq_true] at h1 h2
      refine ⟨fun e he hb => ?_, fun j hj => ?_⟩
      · have := h1 e he
        rw [hb] at this
        simpa using this
      · have hji : j < i := by
          rcases Nat.lt_or_ge j i with hlt | hge
          · exact hlt
          · have h5 : bef.getD i 0 < 2 ^ j := Nat.lt_of_lt_of_le (by simpa using h3) (Nat.pow_le_pow_right (by omega) hge)
            unfold B at hj
            rw [Nat.testBit_lt_two_pow h5] at hj
            simp at hj
        have := h2 j (List.mem_range.2 hji)
        unfold B at hj
        rw [hj] at this
        simp only [Bool.not_true, Bool.false_or, List.any_eq_true, Bool.and_eq_true, Bool.or_eq_true, beq_iff_eq] at this
        exact this
    | succ k =>
      simp at hk
      have := befOk_get h4 hk
      rw [show i + 1 + k = i + (k + 1) by omega] at this
      exact this

theorem opsOk_get {bef : List Nat} {ws : List (Option Nat)} {ops : List Oper} : ∀ {os : List TOper} {i : Nat}, opsOk bef ws ops i os = true → ∀ {k : Nat} {to : TOper}, os[k]? = some to →
    (∀ tx ∈ opdsOf to.op, opdOk bef ws (i + k) tx = true) ∧ isL to.op = false ∧ ∀ g want, to.guard = some (g, want) → B bef (i + k) g ∧ ∃ og t, ops[g]? = some og ∧ og.dst = some t
  | [], i, _, k, to, hk => by simp at hk
  | o0 :: os, i, h, k, to, hk => by
    simp only [opsOk, Bool.and_eq_true] at h
    obtain ⟨⟨⟨h1, h2⟩, h3⟩, h4⟩ := h
    cases k with
    | zero =>
      simp at hk; subst hk
      rw [Nat.add_zero]
      refine ⟨fun tx hx => (List.all_eq_true.1 h1) tx hx, by simpa using h2, fun g want hg => ?_⟩
      rw [hg] at h3
      simp only [Bool.and_eq_true] at h3
      refine ⟨h3.1, ?_⟩
      have h5 := h3.2
      split at h5
      · rename_i og hog
        obtain ⟨t, ht⟩ := Option.isSome_iff_exists.1 h5
        exact ⟨og, t, hog, ht⟩
      · simp at h5
    | succ k =>
      simp at hk
      have := opsOk_get h4 hk
      rw [show i + 1 + k = i + (k + 1) by omega] at this
      exact this

theorem fixed_of {nt id : Nat} (hs : slotsOk A nt) {ops : List Oper} (hd : DstsOk nt ops) {bef : List Nat} (h : opsOk bef (ops.map fun o => o.dst.bind fun t => slotOf t A.slots 0) ops 0 (compOps P O A id true ops 0 []) = true) :
    Fixed P O A nt bef ops (compOps P O A id true ops 0 []) := by
  refine ⟨hs, hd, fun k o ho => ?_, compOps_length, fun k to hto tx htx => ?_, fun k to hto => (opsOk_get h hto).2.1, fun k to hto g want hg => ?_⟩
  · obtain ⟨to, h1, h2⟩ := compOps_get (P := P) (O := O) (A := A) (id := id) (draw := true) (i := 0) (dsts := []) ho
    exact ⟨to, h1, by simpa using h2⟩
  · have := (opsOk_get h hto).1 tx htx
    rw [Nat.zero_add] at this
    refine ⟨fun r hr => by subst hr; exact this, fun j hj wi o t ho ht hjt => ?_⟩
    subst hj
    simp only [opdOk, List.all_eq_true] at this
    have h1 := this wi (List.mem_range.2 (by simpa using (List.getElem?_eq_some_iff.1 ho).1))
    have h2 : (ops.map fun o => o.dst.bind fun t => slotOf t A.slots 0).getD wi none = some j := by
      simp [List.getD, ho, ht, slot_of hs hjt]
    rw [h2] at h1
    simpa [B] using h1
  · have := (opsOk_get h hto).2.2 g want hg
    rwa [Nat.zero_add] at this

/-- What has been listed. -/
def X (listed : Array Bool) (i : Nat) : Prop := listed.getD i false = true

theorem X_set {listed : Array Bool} {y : Nat} (hy : y < listed.size) (k : Nat) : X (listed.setIfInBounds y true) k ↔ (X listed k ∨ k = y) := by
  unfold X
  rw [Array.getD_eq_getD_getElem?, Array.getD_eq_getD_getElem?]
  by_cases h : k = y
  · subst h
    rw [Array.getElem?_setIfInBounds_self_of_lt hy]; simp
  · rw [Array.getElem?_setIfInBounds_ne (Ne.symm h)]
    simp [h]

theorem mem_ready {ops : List Oper} {listed : Array Bool} {y : Nat} (h : y ∈ Region.ready .any ops.toArray listed) : y < ops.length ∧ listed.getD y true = false ∧ ∀ o, ops[y]? = some o → ∀ e ∈ o.after.toList, Region.binds .any e = true → X listed e.on := by
  unfold Region.ready at h
  simp only [List.mem_filter, List.mem_range, Bool.and_eq_true, Bool.not_eq_true'] at h
  obtain ⟨h1, h2, h3⟩ := h
  refine ⟨by simpa using h1, h2, fun o ho e he hb => ?_⟩
  simp only [List.getElem?_toArray, ho, Option.map_some, Option.getD_some] at h3
  rw [← Array.all_toList] at h3
  have := (List.all_eq_true.1 h3) e he
  rw [hb] at this
  simpa [X] using this

theorem not_ready {ops : List Oper} {listed : Array Bool} (hsz : listed.size = ops.length) {y : Nat} (hy : y < ops.length) (hX : ¬ X listed y) (he : ∀ o, ops[y]? = some o → ∀ e ∈ o.after.toList, Region.binds .any e = true → X listed e.on) : y ∈ Region.ready .any ops.toArray listed := by
  unfold Region.ready
  simp only [List.mem_filter, List.mem_range, Bool.and_eq_true, Bool.not_eq_true']
  refine ⟨by simpa using hy, ?_, ?_⟩
  · have hl : y < listed.size := by omega
    unfold X at hX
    rw [Array.getD_eq_getD_getElem?, Array.getElem?_eq_getElem hl] at hX ⊢
    simpa using hX
  · have ho : ops[y]? = some ops[y] := List.getElem?_eq_getElem hy
    simp only [List.getElem?_toArray, ho, Option.map_some, Option.getD_some]
    rw [← Array.all_toList, List.all_eq_true]
    intro e hee
    cases hb : Region.binds .any e with
    | false => rfl
    | true =>
      have := he _ ho e hee hb
      simpa [X] using this

theorem ready_nil {ops : List Oper} {bef : List Nat} (hbo : befOk bef 0 ops = true) {listed : Array Bool} (hsz : listed.size = ops.length) (h : Region.ready .any ops.toArray listed = []) : ∀ y, y < ops.length → X listed y := by
  intro y
  induction y using Nat.strongRecOn with
  | _ y ih =>
    intro hy
    by_cases hX : X listed y
    · exact hX
    · have := not_ready hsz hy hX (fun o ho e he hb => by
        have h1 := (befOk_get hbo ho).1 e he hb
        rw [Nat.zero_add] at h1
        exact ih e.on h1 (by omega))
      rw [h] at this; simp at this

/-- What is ahead is listed, where the edges' ends are. -/
theorem ahead_listed {ops : List Oper} {bef : List Nat} (hbo : befOk bef 0 ops = true) {Y : Nat → Prop} (hc : ∀ i, Y i → ∀ o, ops[i]? = some o → ∀ e ∈ o.after.toList, Region.binds .any e = true → Y e.on) (hlt : ∀ i, Y i → i < ops.length) :
    ∀ (y : Nat) (o : Oper), ops[y]? = some o → (∀ e ∈ o.after.toList, Region.binds .any e = true → Y e.on) → ∀ j, B bef y j → Y j := by
  intro y
  induction y using Nat.strongRecOn with
  | _ y ih =>
    intro o ho he j hj
    have hg := befOk_get hbo ho
    rw [Nat.zero_add] at hg
    obtain ⟨e, he1, he2, he3⟩ := hg.2 j hj
    rcases he3 with he3 | he3
    · rw [← he3]; exact he e he1 he2
    · have hon := he e he1 he2
      have hlt' := hlt _ hon
      exact ih e.on (hg.1 e he1 he2) _ (List.getElem?_eq_getElem hlt') (fun e' h1 h2 => hc e.on hon _ (List.getElem?_eq_getElem hlt') e' h1 h2) j he3

/-- All is listed. -/
theorem draw_end {nt : Nat} {bef : List Nat} {ops : List Oper} {tops : List TOper} (hf : Fixed P O A nt bef ops tops) {orc : Orc} {M0 : Mem} {J0 : Places} {L0 : List (Option Nat)} {S0 : Store} {w0 : World} {a0 : Act} {Qf : List TV × Env × Store → Prop} {next : Act → World → Prop}
    (hfin : KontE P O K A nt ops tops M0 J0 L0 S0 w0 a0 Qf next) {Y : Nat → Prop} {run fm all : Nat} {al : List (Nat × Nat)} {rs : List TV} {a : Act} {ps : List (Nat × List Nat × List Nat)} {last : Option Nat} (h : DS P O K A nt J0.length fm bef ops tops Y run al M J L S env w rs a)
    (hph : phasesOk bef tops ps last run fm = some all) (hq : (runPhases K orc tops ps rs env S).All Qf) (tr : TrN J0.length (ownOf L0) M0 J0 S0 w0 M J S w) (og : OG L0 L w0 w) (hdf : a.defers = a0.defers) (hY : ∀ y, y < ops.length → Y y) : next a w := by
  cases ps with
  | nil => exact hfin rs env S M J L w a hq (h.rr.congr (fun k => ⟨fun hk => h.rn k (h.sub k hk), fun hk => hY k hk⟩)) hdf h.ms tr.tr og
  | cons p ps =>
    obtain ⟨e, chk, fl⟩ := p
    obtain ⟨_, _, _, run', h4, _⟩ := phasesOk_cons hph
    obtain ⟨h5, _, _⟩ := runsOk_cons h4
    simp only [runPhases] at hq
    split at hq
    · exact hq.elim
    · rename_i o ho
      have hel : e < ops.length := by rw [← hf.tl]; exact (List.getElem?_eq_some_iff.1 ho).1
      rw [h.sub e (hY e hel)] at h5
      simp at h5

theorem draw_any {orc : Orc} (ha : Around P O K orc) {F : Fence} (hF : FenceOK F) (nn : Nat) {nt : Nat} {bef : List Nat} {ops : List Oper} {tops : List TOper} (hf : Fixed P O A nt bef ops tops) (hbo : befOk bef 0 ops = true) {Z : Exit → Act → World → Prop}
    {M0 : Mem} {J0 : Places} {L0 : List (Option Nat)} {S0 : Store} {w0 : World} {a0 : Act} {Qf : List TV × Env × Store → Prop} (hfin : KontE P O K A nt ops tops M0 J0 L0 S0 w0 a0 Qf (Z .normal)) {all : Nat} (hall : ∀ y, y < ops.length → all.testBit y = true) :
    ∀ (fuel : Nat) (listed : Array Bool) (ps : List (Nat × List Nat × List Nat)) (last : Option Nat) (run fm : Nat) (al : List (Nat × Nat)) (M : Mem) (J : Places) (L : List (Option Nat)) (S : Store) (env : Env) (w : World) (rs : List TV) (a : Act), listed.size = ops.length →
      listed.toList.count false ≤ fuel → (∀ i, X listed i → ∀ o, ops[i]? = some o → ∀ e ∈ o.after.toList, Region.binds .any e = true → X listed e.on) → DS P O K A nt J0.length fm bef ops tops (X listed) run al M J L S env w rs a →
      phasesOk bef tops ps last run fm = some all → (runPhases K orc tops ps rs env S).All Qf → TrN J0.length (ownOf L0) M0 J0 S0 w0 M J S w → OG L0 L w0 w → a.defers = a0.defers → wpAnyIn F nn P .any ops.toArray Z fuel listed a w := by
  intro fuel
  induction fuel with
  | zero =>
    intro listed ps last run fm al M J L S env w rs a hsz hcnt hcl h hph hq tr og hdf
    have hAll : ∀ y, y < ops.length → X listed y := by
      intro y hy
      have h0 : listed.toList.count false = 0 := by omega
      rw [List.count_eq_zero] at h0
      unfold X
      have hl : y < listed.size := by omega
      rw [Array.getD_eq_getD_getElem?, Array.getElem?_eq_getElem hl]
      cases hb : listed[y] with
      | true => rfl
      | false => exact absurd (by rw [← hb]; exact Array.mem_toList_iff.2 (Array.getElem_mem hl)) h0
    refine ⟨?_, draw_end hf hfin h hph hq tr og hdf hAll⟩
    cases hr : Region.ready .any ops.toArray listed with
    | nil => rfl
    | cons y r =>
      obtain ⟨h1, h2, _⟩ := mem_ready (y := y) (by rw [hr]; simp)
      have := hAll y h1
      unfold X at this
      have hl : y < listed.size := by omega
      rw [Array.getD_eq_getD_getElem?, Array.getElem?_eq_getElem hl] at this h2
      simp at this h2
      rw [h2] at this; simp at this
  | succ fuel ih =>
    intro listed ps last run fm al M J L S env w rs a hsz hcnt hcl h hph hq tr og hdf
    refine ⟨fun hr => draw_end hf hfin h hph hq tr og hdf (ready_nil hbo hsz hr), fun y hy => ?_⟩
    obtain ⟨hyl, hyf, hye⟩ := mem_ready hy
    have hylsz : y < listed.size := by omega
    have hXy : ¬ X listed y := by
      unfold X
      rw [Array.getD_eq_getD_getElem?, Array.getElem?_eq_getElem hylsz] at hyf ⊢
      simp at hyf ⊢; exact hyf
    have hr : ∀ j, B bef y j → X listed j := ahead_listed hbo hcl (fun i hi => h.rn i (h.sub i hi)) y ops[y] (List.getElem?_eq_getElem hyl) (hye _ (List.getElem?_eq_getElem hyl))
    have hsz' : (listed.setIfInBounds y true).size = ops.length := by simpa using hsz
    have hcnt' : (listed.setIfInBounds y true).toList.count false ≤ fuel := by
      rw [Array.toList_setIfInBounds, List.count_set (by simpa using hylsz)]
      have : listed.toList[y]'(by simpa using hylsz) = false := by
        rw [Array.getD_eq_getD_getElem?, Array.getElem?_eq_getElem hylsz] at hyf
        simpa using hyf
      rw [this]
      have h1 : 0 < listed.toList.count false := List.count_pos_iff.2 (by rw [← this]; exact List.getElem_mem _)
      show listed.toList.count false - 1 + 0 ≤ fuel
      omega
    have hcl' : ∀ i, X (listed.setIfInBounds y true) i → ∀ o, ops[i]? = some o → ∀ e ∈ o.after.toList, Region.binds .any e = true → X (listed.setIfInBounds y true) e.on := by
      intro i hi o ho e he hb
      rw [X_set hylsz] at hi ⊢
      rcases hi with hi | rfl
      · exact .inl (hcl i hi o ho e he hb)
      · exact .inl (hye o ho e he hb)
    cases hrun : run.testBit y with
    | true =>
      refine h.run_wp hf hF nn hrun hXy hr ?_
      intro al' M' J' w' a' h' hdf' tr'
      exact ih _ ps last run fm al' M' J' L S env w' rs a' hsz' hcnt' hcl' (h'.congr (fun k => (X_set hylsz k).symm)) hph hq (tr.trans tr' og.weak) (og.trans (.refl _ _ _) tr.size tr'.size) (hdf'.trans hdf)
    | false =>
      cases ps with
      | nil =>
        simp only [phasesOk, Option.some.injEq] at hph
        rw [hph, hall y hyl] at hrun; simp at hrun
      | cons p ps =>
        obtain ⟨e, chk, fl⟩ := p
        obtain ⟨_, hcov, hfle, run', hr1, hr2⟩ := phasesOk_cons hph
        obtain ⟨hr3, _, hr4⟩ := runsOk_cons hr1
        have hye' : y = e := by
          rcases phase_first h.xc hr hph (hall y hyl) hrun with h1 | h1
          · exact h1
          · rw [h.sub e h1] at hr3; simp at hr3
        subst hye'
        simp only [runPhases] at hq
        split at hq
        · exact hq.elim
        rename_i to hto
        obtain ⟨to', hto', hca⟩ := hf.ca y ops[y] (List.getElem?_eq_getElem hyl)
        rw [hto] at hto'
        have hto' := Option.some.inj hto'
        subst hto'
        rw [Out.all_bind] at hq
        obtain ⟨hopd, hgd⟩ := h.ready hf hXy hr hto
        refine stepOp_wp ha hF nn hf.hd hf.hs (List.getElem?_eq_getElem hyl) hto hca h.rr h.ms (fun x tx hx _ => hopd tx hx) (by rw [← hca.guard]; exact hgd) hXy hq ?_
        intro v env' S' M' J' L' w' a' hQ hrr hdf' hms' tr' og' el
        simp only at hQ
        split at hQ
        · rename_i hchk
          split at hQ
          · rename_i q hfl
            have h1 := h.effect hf hr3 hyl hr hto hrr hms' tr' el hchk (fun z hz => by
              by_cases hzl : z < tops.length
              · exact hcov z hzl hz
              · exact .inr (.inr fun ty hty => absurd (List.getElem?_eq_some_iff.1 hty).1 hzl))
            have h2 := h1.fm (fm' := fm ||| fl.foldl (fun m i => m ||| 2 ^ i) 0) (fun z hz => by rw [Nat.testBit_or, hz]; rfl)
            obtain ⟨al2, J2, h3, tr3⟩ := h2.floats (own := fun _ => False) hf (fun i hi => ⟨by rw [← hf.tl]; exact runFloats_lt hfl i hi, by
              rw [Nat.testBit_or, (foldl_bits fl 0).2 (.inr hi), Bool.or_true]⟩) hr4 hfl
            exact ih _ ps (some y) run' _ al2 M' J2 L' q.2 env' w' q.1 a' hsz' hcnt' hcl' (h3.congr (fun k => (X_set hylsz k).symm)) hr2 hQ ((tr.trans (tr'.trN _) og.weak).trans tr3 (fun b hb => hb.elim)) (og.trans og' tr.size tr'.size) (hdf'.trans hdf)
          · exact hQ.elim
        · exact hQ.elim

/-- A region that draws its order. -/
theorem draw_wp {orc : Orc} (ha : Around P O K orc) {F : Fence} (hF : FenceOK F) (n : Nat) {base nt id : Nat} (hs : slotsOk A nt) {ops : Array Oper} (hd : dstsOk nt ops.toList = true) {c : Cert}
    (hc : drawOk A c ops.toList (compOps P O A id true ops.toList 0 []) = true)
    {Q : Jump × Env × Store → Prop} (hq : (exec K orc (.draw c.f0 c.ph (compOps P O A id true ops.toList 0 [])) env S).All Q) {a : Act} {Z : Exit → Act → World → Prop} (cs : CS P O K A base nt M J L S env w a) (hk : KontC P O K A base nt M J L S w Q Z) :
    (Code.region id ops true).wpIn F n P Z a w := by
  have hd' := dstsOk_of hd
  unfold drawOk at hc
  simp only [Bool.and_eq_true] at hc
  obtain ⟨⟨hbo, hops⟩, hrun⟩ := hc
  have hf := fixed_of (P := P) (O := O) (id := id) hs hd' hops
  split at hrun
  · rename_i run hr0
    split at hrun
    · rename_i all hph
      have hall : ∀ y, y < ops.toList.length → all.testBit y = true := fun y hy => (List.all_eq_true.1 hrun) y (List.mem_range.2 hy)
      simp only [exec] at hq
      split at hq
      · exact hq.elim
      rename_i q hfl
      rw [Out.all_bind] at hq
      refine wpIn_region_any ha.mixed ?_
      obtain ⟨wr1, tr1⟩ := cs.ms.wr.drew (fun _ => False)
      have e1 : ({ w with drawn := w.drawn + 1 } : World) = w.drew := rfl
      rw [e1]
      obtain ⟨ms1, tr1'⟩ := cs.ms.step' wr1 tr1
      have hoa : ops = ops.toList.toArray := by simp
      have hXf : ∀ k, X (Array.replicate ops.size false) k ↔ False := by
        intro k
        unfold X
        rw [Array.getD_eq_getD_getElem?, Array.getElem?_replicate]
        split <;> simp
      have h0 : DS P O K A nt J.length run c.bef ops.toList (compOps P O A id true ops.toList 0 []) (X (Array.replicate ops.size false)) 0 [] M J L S env w.drew (holes (compOps P O A id true ops.toList 0 []).length) a := by
        refine ⟨?_, ms1, fun i hi => ((hXf i).1 hi).elim, fun i hi => by simp at hi, fun i hi => ((hXf i).1 hi).elim, fun y hy => by simp at hy, fun y i hi => by simp at hi, fun p q hp => by simp at hp, fun i hi => by simp at hi, fun p hp => by simp at hp, Nat.le_refl _, fun y hy => by simp at hy⟩
        rw [compOps_length]
        exact (cs.fr.rr ops.toList _).congr (fun k => (hXf k).symm)
      obtain ⟨al1, J1, h1, tr2⟩ := h0.floats (own := fun _ => False) hf (fun i hi => ⟨by rw [← hf.tl]; exact runFloats_lt hfl i hi, (runsOk_bits hr0).2 (.inr hi)⟩) hr0 hfl
      have hfin : KontE P O K A nt ops.toList (compOps P O A id true ops.toList 0 []) M J L S w a (fun r => (match writeBack (compOps P O A id true ops.toList 0 []) 0 r.1 r.2.1 with
          | some env => (Out.ret (Jump.normal, env, r.2.2) : Out (Jump × Env × Store))
          | none => .fail "local").All Q) (Z .normal) := by
        intro rs' env' S' M' J' L' w' a' hQ hr hdf ms tr og
        simp only at hQ
        split at hQ
        · rename_i env2 hwb
          obtain ⟨hfr, hlb⟩ := hr.back (P := P) (O := O) hd' hs compOps_length (fun k o to ho hto => by
            obtain ⟨to', h1, h2⟩ := compOps_get (P := P) (O := O) (A := A) (id := id) (draw := true) (i := 0) (dsts := []) ho
            rw [hto] at h1
            simp at h1; subst h1
            exact ⟨_, h2⟩) hwb
          exact hk _ env2 S' M' J' L' w' a' .normal hQ trivial ⟨hfr, ms.back (writeBack_spec hwb).1 hlb, by rw [hdf]; exact cs.mks.step tr og, og.lt cs.lt tr.size, Nat.le_trans cs.ba tr.size⟩ tr og
        · exact hQ.elim
      have := draw_any ha hF n hf hbo hfin hall ops.toList.length (Array.replicate ops.size false) c.ph none run run al1 M J1 L q.2 env w.drew q.1 a (by simp) (by simp) (fun i hi => ((hXf i).1 hi).elim) h1 hph hq ((tr1'.trN _).trans tr2 (fun b hb => hb.elim)) (.refl _ _ _) rfl
      rw [hoa]
      simpa using this
    · simp at hrun
  · simp at hrun

end
end Go.TM

/- The evaluator TM and the model: code, whole. Condition: none. -/
namespace Go.TM
open Go

section
variable {P : Program} {O : Opts} {K : TM.Prog} {A : Ann}
variable {M : Mem} {J : Places} {L : List (Option Nat)} {S S' : Store} {env env' : Env} {w : World}

theorem WR.putObj (h : WR P O M J S w) {b : Nat} (hb : ¬ J.has b) (hc : ∀ o, w.cell? ⟨b, o, none⟩ = none) (ob : Obj) : WR P O M J S (w.putObj b ob) := by
  have hot : ∀ k, k ≠ b → (w.putObj b ob).heap[k]? = w.heap[k]? := fun k hk => World.putObj_heap_other hk
  refine h.step h.len (.refl _) (.refl _) (fun k o v hm => ?_) (fun i l s hl hs => .inr ⟨hl, hs, hot _ (fun e => hb ⟨i, l, hl, e⟩), fun _ => rfl⟩) h.inj (fun i l hl => by simpa using h.lt i l hl)
  by_cases hk : k = b
  · subst hk
    have := h.imm k o v hm
    rw [hc o] at this; simp at this
  · rw [cell_of_block (hot k hk)]
    exact h.imm k o v hm

theorem cell_noncells {b : Nat} {ob : Obj} (h : w.heap[b]? = some ob) (hn : ∀ c e f, ob ≠ .cells c e f) (hn2 : ∀ c e, ob ≠ .pending c e) (o : Nat) : w.cell? ⟨b, o, none⟩ = none := by
  unfold World.cell?
  simp only [h]
  cases ob <;> simp_all

theorem slotsOf_map : ∀ {ps : List Nat} {ts : List Nat}, slotsOf A ps = some ts → ps.map (slotOf · A.slots 0) = ts.map some
  | [], ts, h => by simp [slotsOf] at h; subst h; rfl
  | p :: ps, ts, h => by
    simp only [slotsOf] at h
    split at h
    · rename_i j l h1 h2
      simp at h; subst h
      simp [h1, slotsOf_map h2]
    · simp at h

theorem PR.inv {p : Option Jump} {c : Option Code} (h : PR p c) : (p = Option.none ∧ c = Option.none) ∨ (p = some .ret ∧ c = some .ret) ∨ ∃ id, p = some (.exit id) ∧ c = some (.exit id) := by
  cases h with
  | none => exact .inl ⟨rfl, rfl⟩
  | ret => exact .inr (.inl ⟨rfl, rfl⟩)
  | exit id => exact .inr (.inr ⟨id, rfl, rfl⟩)

/-- The world behind the entry into a loop over a function. -/
abbrev rangeWorld (w : World) (fn : FuncId) (a : Act) (ps : Array Tmp) (assign body : Code) : World :=
  (w.alloc (.deferred (some []))).alloc (.loop { state := .ready, pending := none, fn, tmps := a.tmps, params := ps, assign, body, defers := w.heap.size })

/-- Two blocks are laid for a loop over a function: one for its rounds' deferred calls, one for its record. -/
theorem range_enter {base nt : Nat} (hs : slotsOk A nt) {a : Act} (cs : CS P O K A base nt M J L S env w a) (fn : FuncId) (ps : Array Tmp) (assign body : Code) {tps : List Nat} (hps : slotsOf A ps.toList = some tps) (hnr : noRange (compCode P O A nt assign) = true ∧ noRange (compCode P O A nt body) = true) :
    let l : Loc := { cb := w.heap.size + 1, d := 0, ver := 0, cap := 0, es := 0, size := 0, loose := false }
    let w1 := rangeWorld w fn a ps assign body
    WR P O M (J ++ [some l]) (S ++ [.lp .ready none (env.map noLb) tps (compCode P O A nt assign) (compCode P O A nt body)]) w1 ∧
    Tr (fun _ => False) M J S w M (J ++ [some l]) (S ++ [.lp .ready none (env.map noLb) tps (compCode P O A nt assign) (compCode P O A nt body)]) w1 ∧ Places.at (J ++ [some l]) S.length l ∧ w1.heap[w.heap.size]? = some (.deferred (some [])) := by
  intro l w1
  have hM : M.ext w.heap.size (fun _ => none) = M := ext_none cs.ms.wr.none_at
  have h0 := cs.ms.wr.alloc (fun _ => False) (.deferred (some [])) (fun _ => none) (fun o v hm => by simp at hm)
  rw [hM] at h0
  obtain ⟨wr0, tr0⟩ := h0
  have hM1 : M.ext (w.alloc (.deferred (some []))).heap.size (fun _ => none) = M := ext_none wr0.none_at
  have hsz0 : (w.alloc (.deferred (some []))).heap.size = w.heap.size + 1 := by simp
  have hb := wr0.push (fun _ => False) (.loop { state := .ready, pending := none, fn, tmps := a.tmps, params := ps, assign, body, defers := w.heap.size }) (fun _ => none) l
    (.lp .ready none (env.map noLb) tps (compCode P O A nt assign) (compCode P O A nt body)) (by rw [hsz0]) (fun o v hm => by simp at hm) (by
      rw [hM1]
      refine .lp .ready none _ _ _ _ _ rfl (by show w1.heap[w.heap.size + 1]? = _; rw [← hsz0]; exact alloc_heap_new _ _) rfl .none ⟨A, ?_, by simpa using cs.fr.len, fun j t x hj hx => ?_, slotsOf_map hps, ?_, ?_, hnr.1, hnr.2⟩
      · show slotsOk A a.tmps.size
        rw [cs.fr.sz]; exact hs
      · simp only [List.getElem?_map, Option.map_eq_some_iff] at hx
        obtain ⟨y, hy, rfl⟩ := hx
        have hv := (cs.fr.val j t hj)
        have e : env.getD j .hole = y := by simp [List.getD, hy]
        unfold slotV at hv
        rw [e] at hv
        cases y with
        | lb cs' => exact .hole _ _
        | lp k o =>
          obtain ⟨c, hc⟩ := cs.fr.nlp j _ hy rfl
          simp at hc
        | _ => exact (hv.frame rfl).mono (.refl _) (.push _ _)
      · show _ = compCode P O A a.tmps.size assign
        rw [cs.fr.sz]
      · show _ = compCode P O A a.tmps.size body
        rw [cs.fr.sz])
  rw [hM1] at hb
  refine ⟨hb.1, tr0.trans hb.2 (fun b h => h.elim), ?_, ?_⟩
  · unfold Places.at
    rw [← cs.ms.wr.len]; simp
  · show w1.heap[w.heap.size]? = _
    rw [alloc_heap_old _ _ (by rw [hsz0]; omega)]
    exact alloc_heap_new w _

/-- A loop over a function. -/
theorem range_wp {orc : Orc} (ha : Around P O K orc) {F : Fence} (hF : FenceOK F) (hro : F.round = none) (n : Nat) {base nt : Nat} (hs : slotsOk A nt) {g : Operand} {ps : Array Tmp} {assign body : Code} {tg : TOpd} (hg : opd A [] g = some tg) {tps : List Nat}
    (hps : slotsOf A ps.toList = some tps) (hnr : noRange (compCode P O A nt assign) = true ∧ noRange (compCode P O A nt body) = true)
    {Q : Jump × Env × Store → Prop} (hq : (exec K orc (.rangeFunc tg tps (compCode P O A nt assign) (compCode P O A nt body)) env S).All Q) {a : Act} {X : Exit → Act → World → Prop} (cs : CS P O K A base nt M J L S env w a) (hk : KontC P O K A base nt M J L S w Q X) :
    (Code.rangeFunc g ps assign body).wpIn F n P X a w := by
  simp only [exec] at hq
  have hgv := cs.fr.opd cs.ms hg
  split at hq
  · rename_i k fst cap hf
    rw [hf] at hgv
    rw [Out.all_bind] at hq
    obtain ⟨tf, htf⟩ := ha.known _ _ _ _ hq
    obtain ⟨fk, hfk, hfb, hfn⟩ := ha.body k ⟨tf, htf⟩
    generalize hge : a.eval g = gv at hgv
    cases hgv with
    | fn L f fst cap fst' cap' h1 h2 hf1 hcp =>
      refine wpIn_rangeFunc (fun fn _ => ?_)
      obtain ⟨wr1, tr1, hat, hdef⟩ := range_enter hs cs fn ps assign body hps hnr
      have hcall := ha.ok.call k F hF (n - 1) _ _ _ hq M _ _ (fst'.toList ++ [.func (.yield (w.heap.size + 1)) #[] #[]] ++ cap'.toList) (by
        have e : fst ++ TV.yld S.length :: cap = fst ++ [TV.yld S.length] ++ cap := by simp
        rw [e]
        refine ((VRs.ofAgg h1 hf1).mono (.refl _) tr1.jle |>.append (.cons (.yld _ _ _ hat rfl) .nil)).append ((VRs.ofAgg h2 hcp).mono (.refl _) tr1.jle)) wr1 cs.ms.gl
      refine ⟨w.heap.size + 1, [{ target := .collected w.heap.size, args := #[] }], rangeWorld w fn a ps assign body, { target := .fn (.func k) cap', args := fst' ++ #[.func (.yield (w.heap.size + 1)) #[] #[]] }, rangeWorld w fn a ps assign body, k, fst' ++ #[.func (.yield (w.heap.size + 1)) #[] #[]] ++ cap', rangeWorld w fn a ps assign body, ?_, ?_, fun f' _ => hF.fn f', ?_, fun hd => by rw [hF.depth] at hd; simp at hd, ?_⟩
      · rw [hro]; exact run_enterLoop_outer fn a.tmps ps assign body
      · have : Go.resolve a.eval (rangeCall g (w.heap.size + 1)) 0 = pure { target := .fn (.func k) cap', args := fst' ++ #[.func (.yield (w.heap.size + 1)) #[] #[]] } := by
          simp only [Go.resolve, hge, Deferred.ofValue]
          have : Array.map a.eval #[Operand.const (Value.func (Fn.yield (w.heap.size + 1)) #[] #[])] = #[Value.func (Fn.yield (w.heap.size + 1)) #[] #[]] := by simp [Act.eval]
          rw [this]
        rw [this]; rfl
      · have := run_callFunc hfk hfb hfn (fst' ++ #[.func (.yield (w.heap.size + 1)) #[] #[]] ++ cap') (rangeWorld w fn a ps assign body)
        exact this
      · have e : (fst'.toList ++ [Value.func (Fn.yield (w.heap.size + 1)) #[] #[]] ++ cap'.toList).toArray = fst' ++ #[Value.func (Fn.yield (w.heap.size + 1)) #[] #[]] ++ cap' := by apply Array.ext'; simp
        rw [e] at hcall
        refine hcall.mono (fun en w' he => ?_)
        cases en with
        | panicked c => exact he.elim
        | outgrown => exact he.elim
        | returned v' =>
          obtain ⟨v, S', M', J', hQ, _, wr', tr'⟩ := he
          simp only at hQ
          have hat' := tr'.jle.fixed hat rfl
          split at hQ
          · exact hQ.elim
          · rename_i st pend env' ps' as' bd' hnb hS'
            obtain ⟨s, hs'⟩ : ∃ s, s = Block.lp st pend env' ps' as' bd' := ⟨_, rfl⟩
            have hbr := wr'.blk _ _ _ hat' hS'
            cases hbr with
            | lp st pend env' ps' as' bd' r hl hb hst hp hr =>
              have hnb' : r.state ≠ .busy := by rw [hst]; intro e; exact hnb e
              have hsz1 : (rangeWorld w fn a ps assign body).heap.size = w.heap.size + 2 := by simp
              obtain ⟨wr2, tr2⟩ := wr'.write (fun _ => False) hat' (w' := w'.putObj (w.heap.size + 1) (.loop { r with state := .exhausted })) (s' := .lp .exhausted pend env' ps' as' bd')
                (.lp .exhausted pend env' ps' as' bd' { r with state := .exhausted } rfl (World.putObj_heap_same (lt_of_heap hb)) rfl hp ⟨hr.ex⟩) (by simp) (fun b hb' => World.putObj_heap_other hb') ⟨rfl, rfl, rfl⟩ (fun o v hm => by
                  have := wr'.imm _ _ _ hm
                  rw [cell_noncells hb (by simp) (by simp)] at this; simp at this)
              have trA : Tr (fun _ => False) M J S w M' J' _ _ := (tr1.trans tr' (fun b h => h.elim)).trans tr2 (fun b h => h.elim)
              obtain ⟨ms2, tr3⟩ := cs.ms.step' wr2 trA
              have hfr2 : FR A nt M' J' L env { a with defers := [{ target := .collected w.heap.size, args := #[] }] ++ a.defers } :=
                ⟨cs.fr.sz, cs.fr.len, cs.fr.nlp, fun j t hj => (cs.fr.val j t hj).mono trA.mle trA.jle⟩
              have hnhas : ¬ Places.has (J ++ [some { cb := w.heap.size + 1, d := 0, ver := 0, cap := 0, es := 0, size := 0, loose := false }]) w.heap.size := by
                rintro ⟨i, l, hl, e⟩
                rcases at_push hl with hl | ⟨_, hl⟩
                · have := cs.ms.wr.lt i l hl; omega
                · simp at hl; subst hl; simp at e
              have hdef2 : (w'.putObj (w.heap.size + 1) (.loop { r with state := .exhausted })).heap[w.heap.size]? = some (.deferred (some [])) := by
                rw [World.putObj_heap_other (by omega), tr'.frame w.heap.size (by rw [hsz1]; omega) hnhas (fun h => h)]
                exact hdef
              have hmk : Marks base J' L (w'.putObj (w.heap.size + 1) (.loop { r with state := .exhausted })) ([{ target := .collected w.heap.size, args := #[] }] ++ a.defers) := by
                obtain ⟨bs, e1, e2, e3⟩ := cs.mks.step (L' := L) tr3 (.refl _ _ _)
                obtain ⟨bs0, f1, f2, f3⟩ := cs.mks
                refine ⟨w.heap.size :: bs0, by rw [f1]; rfl, List.nodup_cons.2 ⟨fun hm => ?_, f2⟩, fun b hb' => ?_⟩
                · have := lt_of_heap (f3 _ hm).2.1; omega
                · rcases List.mem_cons.1 hb' with rfl | hb'
                  · exact ⟨cs.ba, hdef2, tr'.has (by rw [hsz1]; omega) hnhas, fun ho => by have := cs.lt _ ho; omega⟩
                  · have hinj : bs = bs0 := by
                      have := e1.symm.trans f1
                      exact List.map_inj_right (fun x y hxy => by simpa using hxy) |>.1 this
                    rw [← hinj] at hb'
                    exact e3 b hb'
              have hcs : CS P O K A base nt M' J' L (S'.set S.length (.lp .exhausted pend env' ps' as' bd')) env (w'.putObj (w.heap.size + 1) (.loop { r with state := .exhausted })) { a with defers := [{ target := .collected w.heap.size, args := #[] }] ++ a.defers } :=
                ⟨hfr2, ms2, hmk, fun b hb' => Nat.lt_of_lt_of_le (cs.lt b hb') trA.size, Nat.le_trans cs.ba trA.size⟩
              refine ⟨r.pending, _, run_endLoop hb hnb', ?_⟩
              have fin : ∀ jump, jump = r.pending → (match jump with
                  | none => X .normal { a with defers := [{ target := .collected w.heap.size, args := #[] }] ++ a.defers } (w'.putObj (w.heap.size + 1) (.loop { r with state := .exhausted }))
                  | some c => c.wpIn F n P X { a with defers := [{ target := .collected w.heap.size, args := #[] }] ++ a.defers } (w'.putObj (w.heap.size + 1) (.loop { r with state := .exhausted }))) := by
                intro jump hjump
                rcases hp.inv with ⟨h1, h2⟩ | ⟨h1, h2⟩ | ⟨id, h1, h2⟩
                · obtain rfl := hjump.trans h2
                  exact hk (pend.getD .normal) _ _ _ _ _ _ _ _ hQ (by rw [h1]; trivial) hcs tr3 (.refl _ _ _)
                · obtain rfl := hjump.trans h2
                  exact wpIn_ret (hk (pend.getD .normal) _ _ _ _ _ _ _ _ hQ (by rw [h1]; trivial) hcs tr3 (.refl _ _ _))
                · obtain rfl := hjump.trans h2
                  exact wpIn_exit (hk (pend.getD .normal) _ _ _ _ _ _ _ _ hQ (by rw [h1]; exact rfl) hcs tr3 (.refl _ _ _))
              exact fin _ rfl
          · exact hQ.elim
  · exact hq.elim

theorem exec_wp {orc : Orc} (ha : Around P O K orc) (hl : LoopOK P O K orc) {F : Fence} (hF : FenceOK F) (n : Nat) {base nt : Nat} (hs : slotsOk A nt) : ∀ (c : Code) {M : Mem} {J : Places} {L : List (Option Nat)} {S : Store} {env : Env} {w : World} {a : Act} {Q : Jump × Env × Store → Prop} {X : Exit → Act → World → Prop},
    (exec K orc (compCode P O A nt c) env S).All Q → (F.round = none ∨ noRange (compCode P O A nt c) = true) → CS P O K A base nt M J L S env w a → KontC P O K A base nt M J L S w Q X → c.wpIn F n P X a w := by
  intro c
  induction c with
  | skip => intro M J L S env w a Q X hq _ cs hk; exact wpIn_skip (hk _ _ _ _ _ _ _ _ _ hq trivial cs (.refl _ _ _ _ _) (.refl _ _ _))
  | label l => intro M J L S env w a Q X hq _ cs hk; exact wpIn_label (hk _ _ _ _ _ _ _ _ _ hq trivial cs (.refl _ _ _ _ _) (.refl _ _ _))
  | exit id => intro M J L S env w a Q X hq _ cs hk; exact wpIn_exit (hk _ _ _ _ _ _ _ _ _ hq rfl cs (.refl _ _ _ _ _) (.refl _ _ _))
  | ret => intro M J L S env w a Q X hq _ cs hk; exact wpIn_ret (hk _ _ _ _ _ _ _ _ _ hq trivial cs (.refl _ _ _ _ _) (.refl _ _ _))
  | region id ops draw =>
    intro M J L S env w a Q X hq _ cs hk
    simp only [compCode, compRegion] at hq
    split at hq
    · exact hq.elim
    rename_i hd
    have hd : dstsOk nt ops.toList = true := by simpa using hd
    cases draw with
    | false =>
      simp only [Bool.not_false, if_true] at hq
      split at hq
      · rename_i hsq
        exact region_wp ha hF n hs hd hsq hq cs hk
      · exact hq.elim
    | true =>
      simp only [Bool.not_true, Bool.false_eq_true, if_false] at hq
      split at hq
      · rename_i ce _
        split at hq
        · rename_i hok
          exact draw_wp ha hF n hs hd hok hq cs hk
        · exact hq.elim
      · exact hq.elim
  | seq x y ihx ihy =>
    intro M J L S env w a Q X hq hr cs hk
    simp only [compCode, exec] at hq
    rw [Out.all_bind] at hq
    refine wpIn_seq (ihx hq (hr.imp (fun h => h) (fun h => by simp only [compCode, noRange, Bool.and_eq_true] at h; exact h.1)) cs (fun j env' S' M' J' L' w' a' e hQ hj cs' tr og => ?_))
    cases j with
    | normal =>
      cases e <;> first | exact hj.elim | skip
      exact ihy hQ (hr.imp (fun h => h) (fun h => by simp only [compCode, noRange, Bool.and_eq_true] at h; exact h.2)) cs' (hk.next tr og)
    | exit id =>
      cases e <;> first | exact hj.elim | skip
      exact hk _ _ _ _ _ _ _ _ _ hQ hj cs' tr og
    | ret =>
      cases e <;> first | exact hj.elim | skip
      exact hk _ _ _ _ _ _ _ _ _ hQ hj cs' tr og
  | cond x y z ihy ihz =>
    intro M J L S env w a Q X hq hr cs hk
    simp only [compCode] at hq hr
    split at hq
    · rename_i tx hx
      rw [hx] at hr
      simp only [exec] at hq
      have hv := cs.fr.opd cs.ms hx
      split at hq
      · rename_i hb
        exact wpIn_cond_true (boolOf_vr hb hv) (ihy hq (hr.imp (fun h => h) (fun h => by simp only [noRange, Bool.and_eq_true] at h; exact h.1)) cs hk)
      · rename_i hb
        exact wpIn_cond_false (boolOf_vr hb hv) (ihz hq (hr.imp (fun h => h) (fun h => by simp only [noRange, Bool.and_eq_true] at h; exact h.2)) cs hk)
      · exact hq.elim
    · exact hq.elim
  | block id b ih =>
    intro M J L S env w a Q X hq hr cs hk
    simp only [compCode, exec] at hq
    rw [Out.all_bind] at hq
    refine wpIn_block (ih hq (hr.imp (fun h => h) (fun h => by simpa only [compCode, noRange] using h)) cs (fun j env' S' M' J' L' w' a' e hQ hj cs' tr og => ?_))
    cases j with
    | normal =>
      cases e <;> first | exact hj.elim | skip
      exact hk _ _ _ _ _ _ _ _ _ hQ hj cs' tr og
    | exit id' =>
      cases e <;> first | exact hj.elim | skip
      have hj : id' = _ := hj
      subst hj
      simp only at hQ
      simp only [Exit.inBlock]
      split at hQ
      · rename_i e
        rw [if_pos e]
        exact hk _ _ _ _ _ _ _ _ _ hQ trivial cs' tr og
      · rename_i e
        rw [if_neg e]
        exact hk _ _ _ _ _ _ _ _ _ hQ rfl cs' tr og
    | ret =>
      cases e <;> first | exact hj.elim | skip
      exact hk _ _ _ _ _ _ _ _ _ hQ hj cs' tr og
  | loop b _ =>
    intro M J L S env w a Q X hq hr cs hk
    simp only [compCode, exec] at hq
    exact hl A nt hs F hF n b env S Q hq (hr.imp (fun h => h) (fun h => by simpa only [compCode, noRange] using h)) base M J L w a X cs hk
  | rangeFunc g ps assign body _ _ =>
    intro M J L S env w a Q X hq hr cs hk
    simp only [compCode] at hq hr
    split at hq
    · rename_i tg tps hg hps
      split at hq
      · rename_i hnr
        rw [hg, hps] at hr
        simp only [if_pos hnr] at hr
        simp only [Bool.and_eq_true] at hnr
        rcases hr with hr | hr
        · exact range_wp ha hF hr n hs hg hps hnr hq cs hk
        · simp [noRange] at hr
      · exact hq.elim
    · exact hq.elim
  | _ => intro M J L S env w a Q X hq; exact hq.elim

end
end Go.TM

/- The evaluator TM and the model: a function, from its body. Condition: none. -/
namespace Go.TM
open Go

section
variable {P : Program} {O : Opts} {K : TM.Prog} {A : Ann}
variable {M : Mem} {J : Places} {L : List (Option Nat)} {S S' : Store} {env env' : Env} {w : World}

/-! ### Results -/

theorem FR.loc {nt : Nat} {a : Act} (h : FR A nt M J L env a) {t j : Nat} (hj : slotOf t A.slots 0 = some j) : VR M J L (slotV env j) (a.tmps.getD t Go.undef) := h.val j t (slotOf_get hj)

/-- One result. -/
def resVar (tmps : Array Value) : ResultVar → Sem Value
  | .tmp t => pure (tmps.getD t Go.undef)
  | .cell x t => do loadVar t (← asAddr (tmps.getD x Go.undef))

theorem results_eq (fn : Func) (tmps : Array Value) : results fn tmps = (do let vs ← fn.results.mapM (resVar tmps); pure (if h : vs.size = 1 then vs[0] else .tuple vs)) := rfl

theorem result1 {nt : Nat} {a : Act} (h : FR A nt M J L env a) (ms : MS P O K M J L S env w) {r : ResultVar} {tr : TRes} (hc : compRes P A r = some tr) {v : TV} (hv : resultOf env S tr = some v) :
    ∃ v', (resVar a.tmps r).run P w = .ok v' w ∧ VR M J [] v v' := by
  cases r with
  | tmp t =>
    simp only [compRes, Option.map_eq_some_iff] at hc
    obtain ⟨j, hj, rfl⟩ := hc
    refine ⟨a.tmps.getD t Go.undef, by simp [resVar], ?_⟩
    have hvr := h.loc hj
    simp only [resultOf] at hv
    unfold slotV at hvr
    split at hv
    · simp at hv
    · simp at hv
    · rename_i x hn1 hn2
      have hv := Option.some.inj hv
      subst hv
      split at hvr
      · rename_i cs hcs; exact absurd hcs (hn1 cs)
      · refine hvr.frame ?_
        cases hx : env.getD j .hole <;> first | rfl | exact absurd hx (hn1 _) | exact absurd hx (hn2 _ _)
  | cell x t =>
    simp only [compRes] at hc
    split at hc
    · rename_i j n ag hj hn hag
      simp at hc; subst hc
      simp only [resultOf] at hv
      split at hv
      · rename_i cs hg
        have hvr : VR M J L (evalOpd ⟨fun _ => none, fun _ => none, fun _ => none⟩ env [] (.loc j)) (a.tmps.getD x Go.undef) := h.loc hj
        obtain ⟨b, off, vs, hva, hvs, hl, hcell⟩ := getCells_sim ms hg hvr
        cases ag with
        | true =>
          simp [asPart] at hv; subst hv
          simp only [if_true] at hl
          refine ⟨.agg vs.toArray, ?_, mkAgg_vr hvs⟩
          have := run_loadCells' (P := P) b off vs hcell
          rw [hl] at this
          simp [resVar, hva, asAddr, loadVar, isAgg?_run hag, run_size? hn, this]
        | false =>
          simp only [asPart, Bool.false_eq_true, if_false] at hv hl
          split at hv
          · rename_i c
            simp at hv; subst hv
            obtain ⟨u, us, rfl, h1, h2⟩ := hvs.cons_inv
            refine ⟨u, ?_, h1⟩
            have := hcell 0 u rfl
            simp at this
            simp [resVar, hva, asAddr, loadVar, isAgg?_run hag, run_load, this]
          · simp at hv
      · simp at hv
    · simp at hc

theorem results_list {nt : Nat} {a : Act} (h : FR A nt M J L env a) (ms : MS P O K M J L S env w) : ∀ {rs : List ResultVar} {trs : List TRes} {vs : List TV}, compRess P A rs = some trs → resultsOf env S trs = some vs →
    ∃ us, (rs.mapM (resVar a.tmps)).run P w = .ok us w ∧ VRs M J [] vs us
  | [], trs, vs, hc, hv => by
    simp [compRess] at hc; subst hc
    simp [resultsOf] at hv; subst hv
    exact ⟨[], by simp, .nil⟩
  | r :: rs, trs, vs, hc, hv => by
    simp only [compRess] at hc
    split at hc
    · rename_i t l h1 h2
      simp at hc; subst hc
      simp only [resultsOf] at hv
      split at hv
      · rename_i v l' h3 h4
        simp at hv; subst hv
        obtain ⟨u, e1, e2⟩ := result1 h ms h1 h3
        obtain ⟨us, e3, e4⟩ := results_list h ms h2 h4
        refine ⟨u :: us, ?_, .cons e2 e4⟩
        rw [List.mapM_cons]
        simp only [Sem.run_bind, e1, Result.andThen, e3, Sem.run_pure]
      · simp at hv
    · simp at hc

theorem results_run {nt : Nat} {a : Act} (h : FR A nt M J L env a) (ms : MS P O K M J L S env w) {fn : Func} {trs : List TRes} (hc : compRess P A fn.results.toList = some trs) {v : TV} (hv : finish trs env S = some v) :
    ∃ v', (results fn a.tmps).run P w = .ok v' w ∧ VR M J [] v v' := by
  unfold finish at hv
  have key : ∀ {vs : List TV}, resultsOf env S trs = some vs → ∃ us, (results fn a.tmps).run P w = .ok (if h : us.toArray.size = 1 then us.toArray[0] else .tuple us.toArray) w ∧ VRs M J [] vs us := by
    intro vs hvs
    obtain ⟨us, e1, e2⟩ := results_list h ms hc hvs
    refine ⟨us, ?_, e2⟩
    rw [results_eq, Array.mapM_eq_mapM_toList]
    simp only [Sem.run_bind, map_eq_pure_bind, e1, Result.andThen, Sem.run_pure]
  split at hv
  · rename_i v0 hvs
    simp at hv; subst hv
    obtain ⟨us, e1, e2⟩ := key hvs
    obtain ⟨u, us', rfl, h1, h2⟩ := e2.cons_inv
    have := h2.nil_inv
    subst this
    exact ⟨u, by rw [e1]; simp, h1⟩
  · rename_i vs hne hvs
    simp at hv; subst hv
    obtain ⟨us, e1, e2⟩ := key hvs
    refine ⟨.tuple us.toArray, ?_, .tup _ _ _ (by simpa using e2.1) (fun i x v hx hv => e2.2 i x v hx (by simpa using hv))⟩
    rw [e1]
    have : us.toArray.size ≠ 1 := by
      intro e
      have e3 : vs.length = 1 := by rw [← e2.1]; simpa using e
      match vs, e3 with
      | [x], _ => exact hne x rfl
    rw [dif_neg this]
  · simp at hv

end
end Go.TM

/- The evaluator TM and the model: calls, rounds, loops; the main theorem. Condition: none. -/
namespace Go.TM
open Go

section
variable {P : Program} {O : Opts} {K : TM.Prog} {A : Ann}
variable {M : Mem} {J : Places} {L : List (Option Nat)} {S S' : Store} {env env' : Env} {w : World}

variable (P O K) in
/-- A program of the evaluator's, compiled of the model's. -/
structure KOK : Prop where
  funcs : ∀ k tf, K.funcs k = some tf → ∃ (A : Ann) (fn : Func), P.funcs[k]? = some fn ∧ fn.name ≠ "runtime.NumGoroutine" ∧ compFunc P O A fn = some tf
  prim : ∀ f p, K.prim f = some p → PrimOK P O K f p
  mixed : P.follows .mixedOrders = true

/-- A deferred block is shut. -/
theorem MS.shut (h : MS P O K M J L S env w) {b : Nat} {ds : List Deferred} (hb : w.heap[b]? = some (.deferred (some ds))) (hn : ¬ J.has b) : MS P O K M J L S env (w.putObj b (.deferred none)) := by
  have hot : ∀ k, k ≠ b → (w.putObj b (.deferred none)).heap[k]? = w.heap[k]? := fun k hk => World.putObj_heap_other hk
  refine ⟨h.wr.putObj hn (cell_noncells hb (by simp) (by simp)) _, ⟨h.lb.len, fun j cs hj => ?_, h.lb.inj⟩, h.gl⟩
  obtain ⟨cb, h1, h2⟩ := h.lb.box j cs hj
  refine ⟨cb, h1, h2.step (hot cb ?_) (.refl _) (fun _ => rfl) (.refl _) h2.1⟩
  rintro rfl
  obtain ⟨_, _, cs', e, fz, h3, _⟩ := h2
  rw [hb] at h3; simp at h3

/-- From a world to the one in which marks have been come to. -/
structure Shut (base : Nat) (w w' : World) : Prop where
  os : w'.os = w.os
  tape : w'.tape = w.tape
  output : w'.output = w.output
  size : w'.heap.size = w.heap.size
  old : ∀ b, b < base → w'.heap[b]? = w.heap[b]?

theorem leave_marks {F : Fence} (n : Nat) {fn : Func} {tmps : Array Value} {R : Ending → World → Prop} {base : Nat} : ∀ (bs : List Nat) {w : World}, bs.Nodup → (∀ b ∈ bs, base ≤ b ∧ w.heap[b]? = some (.deferred (some [])) ∧ ¬ J.has b) → MS P O K M J L S env w →
    (∀ w2, MS P O K M J L S env w2 → Shut base w w2 → ∃ v, (results fn tmps).run P w2 = .ok v w2 ∧ R (.returned v) w2) → LeavesInM F n P fn tmps R (bs.map fun b => ({ target := .collected b, args := #[] } : Deferred)) .returning w
  | [], w, _, _, ms, h => by
    show LeavesIn F n P fn tmps R [] .returning w
    exact h w ms ⟨rfl, rfl, rfl, rfl, fun _ _ => rfl⟩
  | b :: bs, w, hnd, hb, ms, h => by
    obtain ⟨h1, h2, h3⟩ := hb b (by simp)
    have hlt := lt_of_heap h2
    refine ⟨by simp, .inl ⟨b, w.putObj b (.deferred none), rfl, run_takeDeferred h2, ?_⟩⟩
    refine leave_marks (base := base) n bs (List.nodup_cons.1 hnd).2 (fun c hc => ?_) (ms.shut h2 h3) (fun w2 ms2 sh => h w2 ms2 ⟨sh.os, sh.tape, sh.output, by rw [sh.size]; simp, fun c hc => ?_⟩)
    · obtain ⟨e1, e2, e3⟩ := hb c (by simp [hc])
      refine ⟨e1, ?_, e3⟩
      rw [World.putObj_heap_other (by rintro rfl; exact (List.nodup_cons.1 hnd).1 hc)]
      exact e2
    · rw [sh.old c hc, World.putObj_heap_other (by omega)]

theorem callsIn_plain {F : Fence} {n : Nat} {f : FuncId} {args : Array Value} {R : Ending → World → Prop} (h : CallsIn F.plain n P f args w R) : CallsIn F n P f args w R := h

theorem FenceOK.plain {F : Fence} (h : FenceOK F) : FenceOK F.plain := ⟨h.fn, h.depth, h.alive⟩

theorem nodupB_nodup : ∀ {l : List Nat}, nodupB l = true → l.Nodup
  | [], _ => .nil
  | a :: r, h => by
    simp only [nodupB, Bool.and_eq_true, Bool.not_eq_true'] at h
    exact List.nodup_cons.2 ⟨by simpa using h.1, nodupB_nodup h.2⟩

theorem slotsOk_of {nt : Nat} (h1 : nodupB A.slots = true) (h2 : A.slots.all (fun t => decide (t < nt)) = true) : slotsOk A nt :=
  ⟨nodupB_nodup h1, fun t ht => by simpa using (List.all_eq_true.1 h2) t ht⟩

/-- No boxes. -/
theorem LbR.none {env : Env} (hl : L.length = env.length) (h : ∀ (j : Nat) (cs : List TV), env[j]? ≠ some (.lb cs)) : LbR M J L env w :=
  ⟨hl, fun j cs hj => absurd hj (h j cs), fun j _ cs _ _ hj => absurd hj (h j cs)⟩

theorem not_own (n : Nat) (b : Nat) : ¬ ownOf (List.replicate n none) b := by
  rintro ⟨j, hj⟩
  rw [List.getElem?_replicate] at hj
  split at hj <;> simp at hj

theorem callBody_ok {orc : Orc} (hk : KOK P O K) (ha : Around P O K orc) (hl : LoopOK P O K orc) (f : Nat) : CallOK P O K f (callBody K orc f) := by
  intro F hF n args S Q hq M J w vals hv hw hg
  unfold callBody at hq
  split at hq
  · exact hq.elim
  rename_i tf htf
  split at hq
  · exact hq.elim
  rename_i hargs
  have hargs : args.length = tf.nparams := by omega
  rw [Out.all_bind] at hq
  obtain ⟨A, fn, hfn, _, hcf⟩ := hk.funcs f tf htf
  unfold compFunc at hcf
  split at hcf
  · rename_i c trs hc hrs
    split at hcf
    · rename_i hcond
      obtain ⟨c1, c2, c3, c4⟩ := hcond
      simp at hcf; subst hcf
      simp only at hargs hq
      have hs : slotsOk A fn.ntmps := slotsOk_of c3 c4
      have hvl : vals.length = args.length := hv.1
      have hslen : fn.params.size + fn.nfree ≤ A.slots.length := by
        have := congrArg List.length c1
        simp at this; omega
      refine callsIn_plain (callsIn_of_wp_marks hfn hc (hF.plain.fn f) ?_ rfl)
      have hfr : FR A fn.ntmps M J (List.replicate A.slots.length none) (args ++ List.replicate (A.slots.length - (fn.params.size + fn.nfree)) undef) { tmps := vals.toArray ++ Array.replicate (fn.ntmps - vals.toArray.size) Go.undef, defers := [] } := by
        refine ⟨by simp; omega, by simp; omega, fun j x hx hl => ?_, fun j t hj => ?_⟩
        · rw [List.getElem?_append] at hx
          split at hx
          · rename_i hlt
            have := (hv.2 j x _ hx (List.getElem?_eq_getElem (by omega : j < vals.length))).isLp_nil
            rw [this] at hl; simp at hl
          · rw [List.getElem?_replicate] at hx
            split at hx
            · simp at hx; subst hx; simp [isLp, undef] at hl
            · simp at hx
        · have hjl : j < A.slots.length := (List.getElem?_eq_some_iff.1 hj).1
          by_cases hjp : j < args.length
          · have ht : t = j := by
              have : (A.slots.take (fn.params.size + fn.nfree))[j]? = some t := by rw [List.getElem?_take, if_pos (by omega)]; exact hj
              rw [c1, List.getElem?_range (by omega)] at this
              simpa using this.symm
            subst ht
            have e1 : (args ++ List.replicate (A.slots.length - (fn.params.size + fn.nfree)) undef).getD t .hole = args[t] := by
              simp [List.getD, List.getElem?_append_left hjp, List.getElem?_eq_getElem hjp]
            have e2 : (vals.toArray ++ Array.replicate (fn.ntmps - vals.toArray.size) Go.undef).getD t Go.undef = vals[t]'(by omega) := by
              rw [Array.getD_eq_getD_getElem?, Array.getElem?_append_left (by simp; omega)]
              simp [List.getElem?_eq_getElem (by omega : t < vals.length)]
            have hvr := hv.2 t _ _ (List.getElem?_eq_getElem hjp) (List.getElem?_eq_getElem (by omega : t < vals.length))
            rw [e2]
            have hlp := hvr.isLp_nil
            have : slotV (args ++ List.replicate (A.slots.length - (fn.params.size + fn.nfree)) undef) t = args[t] := by
              unfold slotV
              rw [e1]
              cases hx : args[t] <;> first | rfl | (rw [hx] at hlp; simp [isLp] at hlp)
            rw [this]
            exact hvr.ofNil
          · have hge : fn.params.size + fn.nfree ≤ t := by
              rcases Nat.lt_or_ge t (fn.params.size + fn.nfree) with hlt | h'
              · exfalso
                have : A.slots[t]? = some t := by
                  have e : (A.slots.take (fn.params.size + fn.nfree))[t]? = some t := by rw [c1, List.getElem?_range hlt]
                  rwa [List.getElem?_take, if_pos hlt] at e
                have : t = j := (List.getElem?_inj (by exact (List.getElem?_eq_some_iff.1 this).1) hs.1).1 (by rw [this, hj])
                omega
              · exact h'
            have e1 : slotV (args ++ List.replicate (A.slots.length - (fn.params.size + fn.nfree)) undef) j = undef := by
              unfold slotV
              have : (args ++ List.replicate (A.slots.length - (fn.params.size + fn.nfree)) undef).getD j .hole = undef := by
                simp only [List.getD]
                rw [List.getElem?_append_right (by omega), List.getElem?_replicate, if_pos (by omega)]
                rfl
              rw [this]; rfl
            have e2 : (vals.toArray ++ Array.replicate (fn.ntmps - vals.toArray.size) Go.undef).getD t Go.undef = Go.undef := by
              rw [Array.getD_eq_getD_getElem?, Array.getElem?_append_right (by simp; omega), Array.getElem?_replicate]
              split <;> rfl
            rw [e1, e2]
            exact tuple0_vr
      have hlb : ∀ (j : Nat) (cs : List TV), (args ++ List.replicate (A.slots.length - (fn.params.size + fn.nfree)) undef)[j]? ≠ some (.lb cs) := by
        intro j cs hj
        rw [List.getElem?_append] at hj
        split at hj
        · rename_i hlt
          have := (hv.2 j _ _ hj (List.getElem?_eq_getElem (by omega : j < vals.length))).isLp_nil
          simp [isLp] at this
        · rw [List.getElem?_replicate] at hj
          split at hj <;> simp [undef] at hj
      have hms : MS P O K M J (List.replicate A.slots.length none) S (args ++ List.replicate (A.slots.length - (fn.params.size + fn.nfree)) undef) w := ⟨hw, .none (by simp; omega) hlb, hg⟩
      refine exec_wp (base := w.heap.size) ha hl hF.plain n hs c hq (.inl rfl) ⟨hfr, hms, ⟨[], rfl, .nil, fun b hb => by simp at hb⟩, fun b hb => (not_own _ _ hb).elim, Nat.le_refl _⟩ ?_
      intro j env' S' M' J' L' w' a' e hQ hj cs tr og
      have fin : (match finish trs env' S' with
          | some v => (Out.ret (v, S') : Out (TV × Store))
          | none => .fail "results").All Q → LeavesInM F.plain n P fn a'.tmps (CallPost P O M J S w Q) a'.defers .returning w' := by
        intro hf
        split at hf
        · rename_i v hv2
          obtain ⟨bs, b1, b2, b3⟩ := cs.mks
          rw [b1]
          refine leave_marks n bs b2 (fun b hb => let ⟨x, y, z, _⟩ := b3 b hb; ⟨x, y, z⟩) cs.ms (fun w2 ms2 sh => ?_)
          obtain ⟨v', r1, r2⟩ := results_run cs.fr ms2 hrs hv2
          refine ⟨v', r1, v, S', M', J', hf, r2, ms2.wr, ?_⟩
          refine ⟨sh.os.trans tr.os, sh.tape.trans tr.tape, sh.output.trans tr.output, by rw [sh.size]; exact tr.size, tr.mle, tr.mnew, tr.jle, tr.jnew, tr.ph, fun b hb hn _ => ?_⟩
          rw [sh.old b hb]
          exact tr.frame b hb hn (not_own _ _)
        · exact hf.elim
      cases j with
      | normal => cases e <;> first | exact hj.elim | exact fin hQ
      | ret => cases e <;> first | exact hj.elim | exact fin hQ
      | exit id => exact hQ.elim
    · simp at hcf
  · simp at hcf

end
end Go.TM

/- The evaluator TM and the model: rounds of loops over functions; loops; the main theorem. Condition: none. -/
namespace Go.TM
open Go

section
variable {P : Program} {O : Opts} {K : TM.Prog} {A : Ann}
variable {M : Mem} {J : Places} {L : List (Option Nat)} {S S' : Store} {env env' : Env} {w : World}

/-- A frame's values without boxes. -/
def PlainR (A : Ann) (nt : Nat) (M : Mem) (J : Places) (env : Env) (tmps : Array Value) : Prop :=
  tmps.size = nt ∧ env.length = A.slots.length ∧ ∀ (j t : Nat) (x : TV), A.slots[j]? = some t → env[j]? = some x → VR M J [] x (tmps.getD t Go.undef)

theorem setAll_sim {nt : Nat} (hs : slotsOk A nt) : ∀ {ps : List Nat} {args : List TV} {params : List Nat} {vals : List Value} {env env1 : Env} {tmps : Array Value}, setAll env ps args = some env1 → params.map (slotOf · A.slots 0) = ps.map some → VRs M J [] args vals →
    PlainR A nt M J env tmps → PlainR A nt M J env1 ((params.zip vals).foldl (fun tmps (t, a) => tmps.setIfInBounds t a) tmps) ∧ params.length = args.length
  | [], args, params, vals, env, env1, tmps, h, hp, hv, hr => by
    cases args with
    | nil =>
      simp [setAll] at h; subst h
      simp at hp; subst hp
      exact ⟨by simpa using hr, rfl⟩
    | cons a r => simp [setAll] at h
  | j :: ps, args, params, vals, env, env1, tmps, h, hp, hv, hr => by
    cases args with
    | nil => simp [setAll] at h
    | cons v args =>
      obtain ⟨u, us, rfl, h1, h2⟩ := hv.cons_inv
      cases params with
      | nil => simp at hp
      | cons t params =>
        simp only [List.map_cons, List.cons.injEq] at hp
        simp only [setAll] at h
        split at h
        · simp at h
        · obtain ⟨e1, e2, e3⟩ := hr
          have hjt := slotOf_get hp.1
          have hjl : j < env.length := by rw [e2]; exact (List.getElem?_eq_some_iff.1 hjt).1
          have htn : t < tmps.size := by rw [e1]; exact hs.2 t (List.mem_of_getElem? hjt)
          have hr' : PlainR A nt M J (env.set j v) (tmps.setIfInBounds t u) := by
            refine ⟨by simp [e1], by simp [e2], fun j' t' x hj' hx => ?_⟩
            by_cases hjj : j' = j
            · subst hjj
              rw [hjt] at hj'
              simp at hj'; subst hj'
              rw [List.getElem?_set_self hjl] at hx
              simp at hx; subst hx
              rw [Array.getD_eq_getD_getElem?, Array.getElem?_setIfInBounds_self_of_lt htn]
              exact h1
            · rw [List.getElem?_set_ne (by omega)] at hx
              have : t ≠ t' := by
                rintro rfl
                exact hjj ((List.getElem?_inj (by exact (List.getElem?_eq_some_iff.1 hj').1) hs.1).1 (by rw [hj', hjt]))
              rw [Array.getD_eq_getD_getElem?, Array.getElem?_setIfInBounds_ne this, ← Array.getD_eq_getD_getElem?]
              exact e3 j' t' x hj' hx
          obtain ⟨f1, f2⟩ := setAll_sim hs h hp.2 h2 hr'
          exact ⟨by simpa using f1, by simp [f2]⟩

theorem PlainR.noLb {nt : Nat} {tmps : Array Value} (h : PlainR A nt M J env tmps) (j : Nat) (x : TV) (hx : env[j]? = some x) : isLp x = false := by
  have hj : j < A.slots.length := by rw [← h.2.1]; exact (List.getElem?_eq_some_iff.1 hx).1
  exact (h.2.2 j _ x (List.getElem?_eq_getElem hj) hx).isLp_nil

theorem PlainR.fr {nt : Nat} {tmps : Array Value} (h : PlainR A nt M J env tmps) (ds : List Deferred) : FR A nt M J L env { tmps, defers := ds } := by
  refine ⟨h.1, h.2.1, fun j x hx hl => by rw [h.noLb j x hx] at hl; simp at hl, fun j t hj => ?_⟩
  have hjl : j < env.length := by rw [h.2.1]; exact (List.getElem?_eq_some_iff.1 hj).1
  have hvr := h.2.2 j t _ hj (List.getElem?_eq_getElem hjl)
  have hlp := h.noLb j _ (List.getElem?_eq_getElem hjl)
  have e : env.getD j .hole = env[j] := by simp [List.getD, List.getElem?_eq_getElem hjl]
  have : slotV env j = env[j] := by
    unfold slotV
    rw [e]
    cases hx : env[j] <;> first | rfl | (rw [hx] at hlp; simp [isLp] at hlp)
  rw [this]
  exact hvr.ofNil

theorem PlainR.lb {nt : Nat} {tmps : Array Value} (h : PlainR A nt M J env tmps) (j : Nat) (cs : List TV) : env[j]? ≠ some (.lb cs) := by
  intro hj
  have := h.noLb j _ hj
  simp [isLp] at this

theorem Tr.noOwn {n : Nat} {M' : Mem} {J' : Places} {w' : World} (h : Tr (ownOf (List.replicate n none)) M J S w M' J' S' w') : Tr (fun _ => False) M J S w M' J' S' w' :=
  ⟨h.os, h.tape, h.output, h.size, h.mle, h.mnew, h.jle, h.jnew, h.ph, fun b hb hn _ => h.frame b hb hn (not_own _ _)⟩

/-- A record turns its state. -/
theorem record_write (h : WR P O M J S w) {i : Nat} {l : Loc} (hl : J.at i l) (hlo : l.loose = false) {r : Loop} (hb : w.heap[l.cb]? = some (.loop r)) {env : List TV} {ps : List Nat} {assign body : TCode} (hr : LpR P O M J env ps assign body r) (st : LoopState) {pend : Option Jump}
    {pc : Option Code} (hp : PR pend pc) (own : Nat → Prop) :
    WR P O M J (S.set i (.lp st pend env ps assign body)) (w.putObj l.cb (.loop { r with state := st, pending := pc })) ∧ Tr own M J S w M J (S.set i (.lp st pend env ps assign body)) (w.putObj l.cb (.loop { r with state := st, pending := pc })) :=
  h.write own hl (.lp st pend env ps assign body { r with state := st, pending := pc } hlo (World.putObj_heap_same (lt_of_heap hb)) rfl hp ⟨hr.ex⟩) (by simp) (fun b hb' => World.putObj_heap_other hb') ⟨rfl, rfl, rfl⟩ (fun o v hm => by
    have := h.imm _ _ _ hm
    rw [cell_noncells hb (by simp) (by simp)] at this; simp at this)

theorem yldBody_ok {orc : Orc} (ha : Around P O K orc) (hlp : LoopOK P O K orc) (i : Nat) : YldOK P O K i (yldBody K orc i) := by
  intro F hF n args S Q hq M J w vals hv hw hg l hat
  unfold yldBody at hq
  split at hq
  · rename_i st0 pend0 env ps assign body hS
    have hbr := hw.blk i l _ hat hS
    cases hbr with
    | lp st pend env ps assign body r hlo hb hst hp hr =>
      obtain ⟨A, hs, e1, e2, e3, e4, e5, e6, e7⟩ := hr.ex
      split at hq
      · exact hq.elim
      rename_i env1 hset
      obtain ⟨hpl, hpn⟩ := setAll_sim hs hset e3 hv ⟨rfl, e1, e2⟩
      have hvl := hv.1
      refine ⟨r, hb, by simp at hpn; omega, roundIn_of_wpIn (hF.fn r.fn) ?_⟩
      have hfold : (r.params.zip vals.toArray).foldl (fun tmps (t, a) => tmps.setIfInBounds t a) r.tmps = (r.params.toList.zip vals).foldl (fun tmps (t, a) => tmps.setIfInBounds t a) r.tmps := by
        rw [← Array.foldl_toList]; simp
      rw [hfold]
      rw [Out.all_bind] at hq
      have hFr : FenceOK (F.inRound l.cb) := ⟨hF.fn, hF.depth, hF.alive⟩
      rw [e4] at hq e6
      have ms0 : MS P O K M J (List.replicate A.slots.length none) S env1 w := ⟨hw, .none (by simp [hpl.2.1]) (fun j cs => hpl.lb j cs), hg⟩
      refine exec_wp (base := 0) ha hlp hFr n hs r.assign hq (.inr e6) ⟨hpl.fr [], ms0, ⟨[], rfl, .nil, fun b hb => by simp at hb⟩, fun b hb => (not_own _ _ hb).elim, Nat.zero_le _⟩ ?_
      intro j env2 S2 M2 J2 L2 w2 a2 e hQ hj cs2 tr2 og2
      simp only at hQ
      split at hQ
      · rename_i p2 ev2 ps2 as2 bd2 hjn hS2
        cases e <;> first | exact hj.elim | skip
        show ∃ w3, _
        have hat2 := tr2.jle.fixed hat hlo
        have hbr2 := cs2.ms.wr.blk i l _ hat2 hS2
        cases hbr2 with
        | lp st' pend' env' ps' as' bd' r2 hlo2 hb2 hst2 hp2 hr2 =>
          refine ⟨_, run_beginRound hb2 hst2, ?_⟩
          obtain ⟨wr3, tr3⟩ := record_write cs2.ms.wr hat2 hlo hb2 hr2 .busy hp2 (fun _ => False)
          obtain ⟨ms3, tr3'⟩ := cs2.ms.step' wr3 tr3
          rw [Out.all_bind] at hQ
          rw [e5] at hQ e7
          refine exec_wp (base := 0) ha hlp hFr n hs r.body hQ (.inr e7) ⟨cs2.fr, ms3, cs2.mks.step tr3' (.refl _ _ _), fun b hb => by have := cs2.lt b hb; simpa using this, Nat.zero_le _⟩ ?_
          intro j4 env4 S4 M4 J4 L4 w4 a4 e4' hQ4 hj4 cs4 tr4 og4
          simp only at hQ4
          split at hQ4
          · rename_i st5 pd5 ev5 ps5 as5 bd5 hS5
            have hat4 := tr4.jle.fixed hat2 hlo
            have hbr4 := cs4.ms.wr.blk i l _ hat4 hS5
            cases hbr4 with
            | lp st6 pend6 env6 ps6 as6 bd6 r4 hlo4 hb4 hst4 hp4 hr4 =>
              have trA : Tr (fun _ => False) M J S w M4 J4 S4 w4 := ((tr2.trans tr3' (fun b hb => og2.weak b hb)).trans tr4 (fun b hb => og2.weak b hb)).noOwn
              have fin : ∀ {pd : Option Jump} {pc : Option Code} (bb : Bool), PR pd pc → pc.isNone = bb → Q (.iv (.bool bb), S4.set i (.lp (if bb then .ready else .done) pd ev5 ps5 as5 bd5)) →
                  ∃ v w', (Instr.endRound l.cb pc).run P w4 = .ok v w' ∧ CallPost P O M J S w Q (.returned v) w' := by
                intro pd pc bb hpr hbb hQQ
                obtain ⟨wr5, tr5⟩ := record_write cs4.ms.wr hat4 hlo hb4 hr4 (if bb then .ready else .done) hpr (fun _ => False)
                refine ⟨_, _, run_endRound pc hb4, _, _, M4, J4, hQQ, ?_, ?_, ?_⟩
                · rw [hbb]; exact .iv _ (.bool bb)
                · rw [hbb]; exact wr5
                · rw [hbb]; exact trA.trans tr5 (fun b h => h.elim)
              split at hQ4
              · rename_i hjn4
                cases e4' <;> first | exact hj4.elim | skip
                exact fin (pd := none) (pc := none) true .none rfl hQ4
              · rename_i hjn4
                cases j4 with
                | normal => exact absurd rfl hjn4
                | ret =>
                  cases e4' <;> first | exact hj4.elim | skip
                  exact fin (pd := some .ret) (pc := some .ret) false .ret rfl hQ4
                | exit id =>
                  cases e4' <;> first | exact hj4.elim | skip
                  have hj4 : id = _ := hj4
                  subst hj4
                  exact fin (pd := some (.exit id)) (pc := some (.exit id)) false (.exit id) rfl hQ4
          · exact hQ4.elim
      · exact hQ.elim
  · exact hq.elim

end
end Go.TM

/- The evaluator TM and the model: the main theorem: what TM computes, the model's function does, whatever the tape. Condition: none. -/
namespace Go.TM
open Go

section
variable {P : Program} {O : Opts} {K : TM.Prog} {A : Ann}

theorem exists_least {p : Nat → Prop} (h : ∃ k, p k) : ∃ k, p k ∧ ∀ m, p m → k ≤ m := by
  obtain ⟨k, hk⟩ := h
  induction k using Nat.strongRecOn with
  | _ k ih =>
    by_cases hx : ∃ m, m < k ∧ p m
    · obtain ⟨m, hm, hp⟩ := hx
      exact ih m hm hp
    · refine ⟨k, hk, fun m hm => ?_⟩
      rcases Nat.lt_or_ge m k with h' | h'
      · exact absurd ⟨m, h', hm⟩ hx
      · exact h'

open Classical in
theorem exists_measure {α β : Type} (p : Nat → α → β → Prop) : ∃ μ : α → β → Nat, ∀ a b, (∃ k, p k a b) → p (μ a b) a b ∧ ∀ m, p m a b → μ a b ≤ m := by
  refine ⟨fun a b => if h : ∃ k, p k a b then Classical.choose (exists_least h) else 0, fun a b h => ?_⟩
  simp only [dif_pos h]
  exact Classical.choose_spec (exists_least h)

theorem loop_ok {n : Nat} (ih : ∀ m, m ≤ n → Around P O K (ex K m) ∧ LoopOK P O K (ex K m)) : LoopOK P O K (ex K (n + 1)) := by
  intro A nt hs F hF nn c env S Q hq hro base M J L w a X cs hk
  obtain ⟨μ, hμ⟩ := exists_measure (fun (k : Nat) (a : Act) (w : World) => ∃ env S M J L, CS P O K A base nt M J L S env w a ∧ ((ex K k).loop (compCode P O A nt c) env S).All Q ∧ KontC P O K A base nt M J L S w Q X)
  refine wpIn_loop (fun a w => ∃ k, k ≤ n + 1 ∧ ∃ env S M J L, CS P O K A base nt M J L S env w a ∧ ((ex K k).loop (compCode P O A nt c) env S).All Q ∧ KontC P O K A base nt M J L S w Q X) μ ⟨n + 1, Nat.le_refl _, env, S, M, J, L, cs, hq, hk⟩ ?_
  rintro a w ⟨k, hkn, hI⟩
  obtain ⟨⟨env, S, M, J, L, cs, hq, hk⟩, hmin⟩ := hμ a w ⟨k, hI⟩
  have hle := hmin k hI
  generalize hm : μ a w = m at hq hle
  cases m with
  | zero => exact hq.elim
  | succ m =>
    obtain ⟨ha, hl⟩ := ih m (by omega)
    have hq' : ((exec K (ex K m) (compCode P O A nt c) env S).bind fun r => match r.1 with
        | .normal => (ex K m).loop (compCode P O A nt c) r.2.1 r.2.2
        | j => .ret (j, r.2.1, r.2.2)).All Q := hq
    rw [Out.all_bind] at hq'
    refine exec_wp (base := base) ha hl hF nn hs c hq' hro cs ?_
    intro j env' S' M' J' L' w' a' e hQ hj cs' tr og
    cases j with
    | normal =>
      cases e <;> first | exact hj.elim | skip
      show _ ∧ _
      have hI' : ∃ env S M J L, CS P O K A base nt M J L S env w' a' ∧ ((ex K m).loop (compCode P O A nt c) env S).All Q ∧ KontC P O K A base nt M J L S w' Q X := ⟨env', S', M', J', L', cs', hQ, hk.next tr og⟩
      refine ⟨⟨m, by omega, hI'⟩, ?_⟩
      have := (hμ a' w' ⟨m, hI'⟩).2 m hI'
      omega
    | exit id =>
      cases e <;> first | exact hj.elim | skip
      exact hk _ _ _ _ _ _ _ _ _ hQ hj cs' tr og
    | ret =>
      cases e <;> first | exact hj.elim | skip
      exact hk _ _ _ _ _ _ _ _ _ hQ hj cs' tr og

theorem ex_ok (hk : KOK P O K) : ∀ n m, m ≤ n → Around P O K (ex K m) ∧ LoopOK P O K (ex K m)
  | 0, m, hm => by
    obtain rfl : m = 0 := by omega
    exact ⟨⟨⟨fun f F hF n args S Q hq => hq.elim, fun i F hF n args S Q hq => hq.elim, hk.prim⟩, fun k ⟨tf, htf⟩ => by
        obtain ⟨A, fn, h1, h2, h3⟩ := hk.funcs k tf htf
        refine ⟨fn, h1, ?_, h2⟩
        unfold compFunc at h3
        split at h3
        · rename_i c _ hc _; simp [hc]
        · simp at h3, fun k args S Q hq => hq.elim, hk.mixed⟩,
      fun A nt hs F hF n c env S Q hq => hq.elim⟩
  | n + 1, m, hm => by
    have ih := ex_ok hk n
    by_cases hmn : m ≤ n
    · exact ih m hmn
    · obtain rfl : m = n + 1 := by omega
      obtain ⟨ha, hl⟩ := ih n (Nat.le_refl _)
      refine ⟨⟨⟨callBody_ok hk ha hl, yldBody_ok ha hl, hk.prim⟩, ha.body, fun k args S Q hq => ?_, hk.mixed⟩, loop_ok ih⟩
      have hq : (callBody K (ex K n) k args S).All Q := hq
      unfold callBody at hq
      split at hq
      · exact hq.elim
      · rename_i fn hfn; exact ⟨fn, hfn⟩

/-- **The main theorem.** -/
theorem sound (hk : KOK P O K) {n : Nat} {f : Nat} {args : List TV} {S : Store} {Q : TV × Store → Prop} (hq : ((ex K n).call f args S).All Q) {M : Mem} {J : Places} {w : World} {vals : List Value} (hv : VRs M J [] args vals) (hw : WR P O M J S w) (hg : GlobOK K M) :
    Calls P f vals.toArray w (CallPost P O M J S w Q) :=
  callsIn_wide (n := 0).1 ((ex_ok hk n n (Nat.le_refl _)).1.ok.call f Fence.wide FenceOK.wide 0 args S Q hq M J w vals hv hw hg)

end
end Go.TM

/- The evaluator TM and the model: what is read as data. Condition: none. -/
namespace Go.TM
open Go

/-- A datum of a type, and its cells as immutable values. -/
inductive Ty (P : Program) {H : Type} : TypeId → DataW H → List IV → Prop
  | bool (t : TypeId) (ht : P.underlying t = some .bool) (b : Bool) : Ty P t (.lit (.bool b)) [.bool b]
  | int (t : TypeId) (k : IntKind) (ht : P.underlying t = some (.int k)) (n : Int) (hw : (Lit.int k n).wf = true) : Ty P t (.lit (.int k n)) [.int k n]
  | str (t : TypeId) (ht : P.underlying t = some .string) (s : List UInt8) (hs : s.length ≤ maxLen) : Ty P t (.lit (.string s)) [.str s]
  | nilp (t e : TypeId) (ht : P.underlying t = some (.pointer e)) : Ty P t .nil [.nilp]
  | ptr (t e : TypeId) (ht : P.underlying t = some (.pointer e)) (d : DataW H) (l : List IV) (h : Ty P e d l) (hl : l.length = P.cellsOf e) : Ty P t (.ptr d) [.cp l]
  | nils (t e : TypeId) (ht : P.underlying t = some (.slice e)) : Ty P t .nil [.sl .nil []]
  | sl (t e : TypeId) (ht : P.underlying t = some (.slice e)) (ds sp : List (DataW H)) (ls : List (List IV)) (tag : Tag) (htag : tag ≠ .nil) (hn : ls.length = ds.length) (hm : ls.length + sp.length ≤ maxLen)
      (h : ∀ (i : Nat) (d : DataW H) (l : List IV), ds[i]? = some d → ls[i]? = some l → Ty P e d l) (hl : ∀ l ∈ ls, l.length = P.cellsOf e) : Ty P t (.slice ds sp) [.sl tag ls]
  | struct (t : TypeId) (fs : Array Field) (ht : P.underlying t = some (.struct fs)) (ds : List (DataW H)) (ls : List (List IV)) (h1 : ds.length = fs.size) (h2 : ls.length = fs.size)
      (h : ∀ (i : Nat) (f : Field) (d : DataW H) (l : List IV), fs[i]? = some f → ds[i]? = some d → ls[i]? = some l → Ty P f.type d l) (hl : ∀ (i : Nat) (f : Field) (l : List IV), fs[i]? = some f → ls[i]? = some l → l.length = P.cellsOf f.type) : Ty P t (.agg ds) (flat ls)
  | array (t e : TypeId) (n : Nat) (ht : P.underlying t = some (.array n e)) (ds : List (DataW H)) (ls : List (List IV)) (h1 : ds.length = n) (h2 : ls.length = n)
      (h : ∀ (i : Nat) (d : DataW H) (l : List IV), ds[i]? = some d → ls[i]? = some l → Ty P e d l) (hl : ∀ l ∈ ls, l.length = P.cellsOf e) : Ty P t (.agg ds) (flat ls)

/-- Places that lie one behind the other. -/
def consec : List (Nat × Nat) → Nat → Option Nat
  | [], o => some o
  | p :: r, o => if p.1 = o then consec r (o + p.2) else none

/-- Types that can be read: a list that is closed under what they hold. -/
def tyOk (P : Program) (ts : List TypeId) : Bool :=
  ts.all fun t => match P.underlying t with
    | some .bool | some (.int _) | some .string => true
    | some (.slice e) | some (.pointer e) => ts.contains e && P.cellsOf e != 0
    | some (.struct fs) => consec (fs.toList.map fun f => (f.offset, P.cellsOf f.type)) 0 == some (P.cellsOf t) && fs.toList.all fun f => ts.contains f.type
    | some (.array n e) => ts.contains e && P.cellsOf t == n * P.cellsOf e
    | _ => false

/-- All memory of a world. -/
def allMem (w : World) : Mem := fun b o => w.cell? ⟨b, o, none⟩

section
variable {P : Program} {H : Type} {enc : TypeId × Value → H} {w : World} {base : Nat} {held : Bool}

/-- Cells, one by one. -/
def IRs (M : Mem) (l : List IV) (vs : List Value) : Prop := l.length = vs.length ∧ ∀ (i : Nat) (a : IV) (v : Value), l[i]? = some a → vs[i]? = some v → IR M a v

theorem IRs.one {M : Mem} {a : IV} {v : Value} (h : IR M a v) : IRs M [a] [v] := by
  refine ⟨rfl, fun i b u hb hu => ?_⟩
  cases i with
  | zero => simp at hb hu; subst hb; subst hu; exact h
  | succ i => simp at hb

theorem IRs.append {M : Mem} {l l' : List IV} {vs vs' : List Value} (h : IRs M l vs) (h' : IRs M l' vs') : IRs M (l ++ l') (vs ++ vs') := by
  refine ⟨by simp [h.1, h'.1], fun i a v ha hv => ?_⟩
  rw [List.getElem?_append] at ha hv
  by_cases hi : i < l.length
  · rw [if_pos hi] at ha
    rw [if_pos (by rw [← h.1]; exact hi)] at hv
    exact h.2 i a v ha hv
  · rw [if_neg hi] at ha
    rw [if_neg (by rw [← h.1]; exact hi)] at hv
    rw [← h.1] at hv
    exact h'.2 _ a v ha hv

theorem consec_le : ∀ {ps : List (Nat × Nat)} {o t : Nat}, consec ps o = some t → o ≤ t
  | [], o, t, h => by simp [consec] at h; omega
  | p :: r, o, t, h => by
    simp only [consec] at h
    split at h
    · have := consec_le h; omega
    · simp at h

theorem parts_flat {M : Mem} {cs : List Value} : ∀ {ps : List (Nat × Nat)} {o t : Nat} {ls : List (List IV)}, consec ps o = some t → ls.length = ps.length → (∀ (i : Nat) (p : Nat × Nat) (l : List IV), ps[i]? = some p → ls[i]? = some l → IRs M l ((cs.drop p.1).take p.2)) →
    IRs M (flat ls) ((cs.drop o).take (t - o))
  | [], o, t, ls, h, hl, _ => by
    simp [consec] at h; subst h
    have : ls = [] := List.eq_nil_of_length_eq_zero (by simpa using hl)
    subst this
    exact ⟨by simp [flat], fun i a v ha => by simp [flat] at ha⟩
  | p :: r, o, t, ls, h, hl, hp => by
    simp only [consec] at h
    split at h
    · rename_i hpo
      cases ls with
      | nil => simp at hl
      | cons l ls =>
        have h1 := hp 0 p l rfl rfl
        have h2 := parts_flat (M := M) (cs := cs) (ls := ls) h (by simpa using hl) (fun i q m hq hm => hp (i + 1) q m (by simpa using hq) (by simpa using hm))
        have hle := consec_le h
        have e : (cs.drop o).take (t - o) = (cs.drop p.1).take p.2 ++ (cs.drop (o + p.2)).take (t - (o + p.2)) := by
          rw [hpo, ← List.drop_drop]
          have : t - o = p.2 + (t - (o + p.2)) := by omega
          rw [this, List.take_add]
        rw [e]
        exact h1.append h2
    · simp at h

theorem cells_get {a : Addr} {n : Nat} {cs : List Value} (h : w.cells? base a n = some cs) : cs.length = n ∧ (0 < n → a.spot = none) ∧ ∀ (i : Nat) (v : Value), cs[i]? = some v → allMem w a.block (a.off + i) = some v := by
  unfold World.cells? at h
  split at h
  · have hl := mapM_some_length h
    simp at hl
    have hg : ∀ i, i < n → w.cell? (a.add i) = cs[i]? := fun i hi => mapM_some_get h i i (by simp [hi])
    have hsp : 0 < n → a.spot = none := by
      intro hn
      have h0 := hg 0 hn
      have : cs[0]? = some cs[0] := List.getElem?_eq_getElem (by omega)
      rw [this] at h0
      simp only [Addr.add, if_true, World.cell?] at h0
      split at h0
      · split at h0
        · simp at h0
        · rename_i hs; simpa using hs
      · simp at h0
    refine ⟨hl, hsp, fun i v hv => ?_⟩
    have hi : i < n := by rw [← hl]; exact (List.getElem?_eq_some_iff.1 hv).1
    have h1 := hg i hi
    rw [hv] at h1
    have hs := hsp (by omega)
    unfold allMem
    rw [← h1]
    congr 1
    unfold Addr.add
    split
    · rename_i h0; subst h0; cases a; simp_all
    · rfl
  · simp at h

theorem addr_eta {a : Addr} (h : a.spot = none) : a = ⟨a.block, a.off, none⟩ := by cases a; simp_all

theorem mapM_ex {α β : Type} {Q : Nat → β → Prop} : ∀ (n : Nat), (∀ i, i < n → ∃ b, Q i b) → ∃ l : List β, l.length = n ∧ ∀ (i : Nat) (b : β), l[i]? = some b → Q i b
  | 0, _ => ⟨[], rfl, fun i b h => by simp at h⟩
  | n + 1, h => by
    obtain ⟨l, h1, h2⟩ := mapM_ex (α := α) n (fun i hi => h i (by omega))
    obtain ⟨b, hb⟩ := h n (by omega)
    refine ⟨l ++ [b], by simp [h1], fun i c hc => ?_⟩
    rw [List.getElem?_append] at hc
    split at hc
    · exact h2 i c hc
    · have : i - l.length = 0 := by
        rcases Nat.eq_zero_or_pos (i - l.length) with h' | h'
        · exact h'
        · rw [List.getElem?_eq_none (by simp; omega)] at hc; simp at hc
      rw [this] at hc
      simp at hc; subst hc
      have : i = n := by omega
      rw [this]; exact hb

/-- What is read as data reads as immutable values. -/
theorem read_ty {ts : List TypeId} (hts : tyOk P ts = true) : ∀ (fuel : Nat) (t : TypeId) (cs : List Value) (x : DataW H × List MemPlace), t ∈ ts → DataW.trod enc P w base (fun _ => true) held fuel t cs = some x → ∃ l, Ty P t x.1 l ∧ IRs (allMem w) l cs := by
  intro fuel
  induction fuel with
  | zero => intro t cs x _ h; simp [DataW.trod] at h
  | succ fuel ih =>
    intro t cs x ht h
    have hok := (List.all_eq_true.1 hts) t ht
    cases hu : P.underlying t with
    | none => rw [hu] at hok; simp at hok
    | some d =>
      rw [hu] at hok
      cases d with
      | bool =>
        obtain ⟨b, rfl, rfl⟩ := DataW.trod_bool hu h
        exact ⟨_, .bool t hu b, .one (.bool b)⟩
      | int k =>
        obtain ⟨n, rfl, rfl, hw⟩ := DataW.trod_int hu h
        exact ⟨_, .int t k hu n hw, .one (.int k n)⟩
      | string =>
        obtain ⟨s, rfl, rfl, hs⟩ := DataW.trod_string hu h
        refine ⟨_, .str t hu s.data.toList (by rw [Array.length_toList]; exact hs), .one ?_⟩
        have := IR.str (M := allMem w) s.data.toList
        simpa using this
      | pointer e =>
        simp only [Bool.and_eq_true, bne_iff_ne, ne_eq, List.contains_iff_mem] at hok
        rcases DataW.trod_pointer hu h with ⟨rfl, rfl⟩ | ⟨a, cs', y, n, hn, rfl, rfl, hc, hy⟩
        · exact ⟨_, .nilp t e hu, .one .nilp⟩
        · simp at hn; subst hn
          obtain ⟨l, h1, h2⟩ := ih e cs' y hok.1 hy
          obtain ⟨c1, c2, c3⟩ := cells_get hc
          refine ⟨_, .ptr t e hu _ l h1 (by rw [h2.1, c1]), .one ?_⟩
          rw [addr_eta (c2 (by omega))]
          refine .cp l a.block a.off (fun i => cs'.getD i Go.undef) (fun i x hx => ?_) (fun i x hx => ?_)
          · have hi : i < cs'.length := by rw [← h2.1]; exact (List.getElem?_eq_some_iff.1 hx).1
            simpa [List.getD, List.getElem?_eq_getElem hi] using c3 i _ (List.getElem?_eq_getElem hi)
          · have hi : i < cs'.length := by rw [← h2.1]; exact (List.getElem?_eq_some_iff.1 hx).1
            simpa [List.getD, List.getElem?_eq_getElem hi] using h2.2 i x _ hx (List.getElem?_eq_getElem hi)
      | slice e =>
        simp only [Bool.and_eq_true, bne_iff_ne, ne_eq, List.contains_iff_mem] at hok
        rcases DataW.trod_slice hu h with ⟨rfl, rfl⟩ | ⟨a, len, cap, elems, rest, n, hn, rfl, rfl, hb, hlc, hm, hel, he, hsp, _⟩
        · exact ⟨_, .nils t e hu, .one .slNil⟩
        · simp at hn; subst hn
          obtain ⟨hrl, hr⟩ := hsp rfl
          -- each element
          have each : ∀ i, i < len → ∃ q : List IV × List Value, Ty P e (elems.getD i (.nil, [])).1 q.1 ∧ IRs (allMem w) q.1 q.2 ∧ w.cells? base (a.add (i * P.cellsOf e)) (P.cellsOf e) = some q.2 := by
            intro i hi
            have h1 := he i hi
            have h2 : elems[i]? = some (elems.getD i (.nil, [])) := by
              have : i < elems.length := by omega
              simp [List.getD, List.getElem?_eq_getElem this]
            rw [h2, Option.bind_eq_some_iff] at h1
            obtain ⟨cs', h3, h4⟩ := h1
            obtain ⟨l, h5, h6⟩ := ih e cs' _ hok.1 h4
            exact ⟨(l, cs'), h5, h6, h3⟩
          obtain ⟨qs, hq1, hq2⟩ := mapM_ex (α := Unit) len each
          have hes : ∀ l ∈ qs.map (·.1), l.length = P.cellsOf e := by
            intro l hl
            obtain ⟨q, hq, rfl⟩ := List.mem_map.1 hl
            obtain ⟨i, hi⟩ := List.getElem?_of_mem hq
            obtain ⟨_, h2, h3⟩ := hq2 i q hi
            rw [h2.1, (cells_get h3).1]
          have hty : Ty P t (.slice (elems.map (·.1)) (rest.map (·.1))) [.sl (if cap = len then .full else .no) (qs.map (·.1))] := by
            refine .sl t e hu _ _ _ _ (by split <;> simp) (by simp [hq1, hel]) (by simp [hq1, hrl]; omega) (fun i d l hd hl => ?_) hes
            simp only [List.getElem?_map, Option.map_eq_some_iff] at hd hl
            obtain ⟨x, hx, rfl⟩ := hd
            obtain ⟨q, hq, rfl⟩ := hl
            obtain ⟨h1, _⟩ := hq2 i q hq
            have hx' : elems.getD i (.nil, []) = x := by simp [List.getD, hx]
            rw [hx'] at h1
            exact h1
          refine ⟨_, hty, .one ?_⟩
          by_cases hc0 : cap = 0
          · subst hc0
            have hl0 : len = 0 := by omega
            subst hl0
            have : qs = [] := List.eq_nil_of_length_eq_zero hq1
            subst this
            exact .slE _ _ (by simp)
          · have hspot : a.spot = none := by
              have key : ∀ {n : Nat} {cs' : List Value}, w.cells? base (a.add 0) n = some cs' → 0 < n → a.spot = none := fun hh hn => (cells_get hh).2.1 hn
              by_cases hl0 : len = 0
              · have h1 := hr 0 (by omega)
                have h2 : rest[0]? = some (rest.getD 0 (.nil, [])) := by
                  have : 0 < rest.length := by omega
                  simp [List.getD, List.getElem?_eq_getElem this]
                rw [h2, Option.bind_eq_some_iff, hl0] at h1
                obtain ⟨cs', h3, _⟩ := h1
                simp only [Nat.add_zero, Nat.zero_mul] at h3
                exact key h3 (by omega)
              · obtain ⟨q, hq⟩ : ∃ q, qs[0]? = some q := ⟨_, List.getElem?_eq_getElem (by omega)⟩
                have h3 := (hq2 0 q hq).2.2
                rw [Nat.zero_mul] at h3
                exact key h3 (by omega)
            rw [addr_eta hspot]
            have hql : len = (qs.map (·.1)).length := by simp [hq1]
            have base' : ∀ (i : Nat) (q : List IV × List Value), qs[i]? = some q → ∀ (j : Nat) (v : Value), q.2[j]? = some v → allMem w a.block (a.off + i * P.cellsOf e + j) = some v := by
              intro i q hq j v hv
              obtain ⟨_, _, h3⟩ := hq2 i q hq
              have h4 := (cells_get h3).2.2 j v hv
              have e1 : (a.add (i * P.cellsOf e)).block = a.block := by unfold Addr.add; split <;> rfl
              have e2 : (a.add (i * P.cellsOf e)).off = a.off + i * P.cellsOf e := by
                unfold Addr.add
                split
                · rename_i h0; omega
                · rfl
              rw [e1, e2] at h4
              exact h4
            have := IR.sl (M := allMem w) (if cap = len then .full else .no) (qs.map (·.1)) a.block a.off cap (P.cellsOf e) (fun i j => ((qs.getD i ([], [])).2).getD j Go.undef) (by split <;> simp) hes (by simp [hq1]; exact hlc) (fun hf => by
              split at hf
              · rename_i hcl; simp [hq1, hcl]
              · simp at hf) (fun i c j x hc hx => by
                simp only [List.getElem?_map, Option.map_eq_some_iff] at hc
                obtain ⟨q, hq, rfl⟩ := hc
                have hj : j < q.2.length := by rw [← (hq2 i q hq).2.1.1]; exact (List.getElem?_eq_some_iff.1 hx).1
                have e0 : qs.getD i ([], []) = q := by simp [List.getD, hq]
                rw [e0]
                simpa [List.getD, List.getElem?_eq_getElem hj] using base' i q hq j _ (List.getElem?_eq_getElem hj)) (fun i c j x hc hx => by
                simp only [List.getElem?_map, Option.map_eq_some_iff] at hc
                obtain ⟨q, hq, rfl⟩ := hc
                have hj : j < q.2.length := by rw [← (hq2 i q hq).2.1.1]; exact (List.getElem?_eq_some_iff.1 hx).1
                have e0 : qs.getD i ([], []) = q := by simp [List.getD, hq]
                rw [e0]
                simpa [List.getD, List.getElem?_eq_getElem hj] using (hq2 i q hq).2.1.2 j x _ hx (List.getElem?_eq_getElem hj))
            rw [← hql] at this
            exact this
      | struct fs =>
        simp only [Bool.and_eq_true, beq_iff_eq, List.all_eq_true, List.contains_iff_mem] at hok
        obtain ⟨xs, n, hn, rfl, hcl, hxl, hx⟩ := DataW.trod_struct hu h
        simp at hn; subst hn
        have each : ∀ i, i < fs.size → ∃ l : List IV, ∀ f y, fs[i]? = some f → xs[i]? = some y → Ty P f.type y.1 l ∧ IRs (allMem w) l ((cs.drop f.offset).take (P.cellsOf f.type)) := by
          intro i hi
          have hf : fs[i]? = some fs[i] := Array.getElem?_eq_getElem hi
          have hy : xs[i]? = some xs[i] := List.getElem?_eq_getElem (by omega)
          have h1 := hx i _ hf
          rw [hy] at h1
          obtain ⟨l, h2, h3⟩ := ih _ _ _ (hok.2 _ (by simp)) h1
          refine ⟨l, fun f y hf' hy' => ?_⟩
          rw [hf] at hf'; rw [hy] at hy'
          simp at hf' hy'; subst hf'; subst hy'
          exact ⟨h2, h3⟩
        obtain ⟨ls, hl1, hl2⟩ := mapM_ex (α := Unit) fs.size each
        have hcon := parts_flat (M := allMem w) (cs := cs) (ls := ls) hok.1 (by simp [hl1]) (fun i p l hp hl => by
          simp only [List.getElem?_map, Option.map_eq_some_iff] at hp
          obtain ⟨f, hf, rfl⟩ := hp
          have hf : fs[i]? = some f := by simpa using hf
          have hi : i < fs.size := (Array.getElem?_eq_some_iff.1 hf).1
          exact (hl2 i l hl f _ hf (List.getElem?_eq_getElem (by omega : i < xs.length))).2)
        rw [List.drop_zero, Nat.sub_zero, ← hcl, List.take_length] at hcon
        refine ⟨flat ls, .struct t fs hu _ ls (by simp [hxl]) hl1 (fun i f d l hf hd hl => ?_) (fun i f l hf hl => ?_), hcon⟩
        · simp only [List.getElem?_map, Option.map_eq_some_iff] at hd
          obtain ⟨y, hy, rfl⟩ := hd
          exact (hl2 i l hl f y hf hy).1
        · have hi : i < fs.size := (Array.getElem?_eq_some_iff.1 hf).1
          have h3 := (hl2 i l hl f _ hf (List.getElem?_eq_getElem (by omega : i < xs.length))).2
          -- its part lies within
          have hy := hx i f hf
          rw [h3.1, List.length_take, List.length_drop]
          have hle : f.offset + P.cellsOf f.type ≤ cs.length := by
            rw [hcl]
            have key : ∀ {ps : List (Nat × Nat)} {o tt : Nat} {k : Nat} {p : Nat × Nat}, consec ps o = some tt → ps[k]? = some p → p.1 + p.2 ≤ tt := by
              intro ps
              induction ps with
              | nil => intro o tt k p _ hk; simp at hk
              | cons q r ihr =>
                intro o tt k p hc hk
                simp only [consec] at hc
                split at hc
                · rename_i hq
                  cases k with
                  | zero => simp at hk; subst hk; have := consec_le hc; omega
                  | succ k => simp at hk; exact ihr hc hk
                · simp at hc
            exact key (p := (f.offset, P.cellsOf f.type)) hok.1 (k := i) (by simp only [List.getElem?_map, Array.getElem?_toList, hf, Option.map_some])
          omega
      | array n e =>
        simp only [Bool.and_eq_true, beq_iff_eq, List.contains_iff_mem] at hok
        obtain ⟨xs, m, hn, rfl, hcl, hxl, hx⟩ := DataW.trod_array hu h
        simp at hn; subst hn
        have each : ∀ i, i < n → ∃ l : List IV, ∀ y, xs[i]? = some y → Ty P e y.1 l ∧ IRs (allMem w) l ((cs.drop (i * P.cellsOf e)).take (P.cellsOf e)) := by
          intro i hi
          have hy : xs[i]? = some xs[i] := List.getElem?_eq_getElem (by omega)
          have h1 := hx i hi
          rw [hy] at h1
          obtain ⟨l, h2, h3⟩ := ih _ _ _ hok.1 h1
          refine ⟨l, fun y hy' => ?_⟩
          rw [hy] at hy'
          simp at hy'; subst hy'
          exact ⟨h2, h3⟩
        obtain ⟨ls, hl1, hl2⟩ := mapM_ex (α := Unit) n each
        have hcs : ∀ (k m : Nat), consec ((List.range' k m).map fun i => (i * P.cellsOf e, P.cellsOf e)) (k * P.cellsOf e) = some ((k + m) * P.cellsOf e) := by
          intro k m
          induction m generalizing k with
          | zero => simp [consec]
          | succ m ihm =>
            rw [List.range'_succ, List.map_cons, consec, if_pos rfl]
            have := ihm (k + 1)
            rw [Nat.add_mul, Nat.one_mul] at this
            rw [this]
            congr 2; omega
        have hcon := parts_flat (M := allMem w) (cs := cs) (ls := ls) (hcs 0 n) (by simp [hl1]) (fun i p l hp hl => by
          simp only [List.getElem?_map, Option.map_eq_some_iff] at hp
          obtain ⟨k, hk, rfl⟩ := hp
          have hi : i < n := by rw [← hl1]; exact (List.getElem?_eq_some_iff.1 hl).1
          rw [List.getElem?_range' hi] at hk
          simp at hk; subst hk
          exact (hl2 i l hl _ (List.getElem?_eq_getElem (by omega : i < xs.length))).2)
        rw [Nat.zero_mul, List.drop_zero, Nat.sub_zero, Nat.zero_add, ← hok.2, ← hcl, List.take_length] at hcon
        refine ⟨flat ls, .array t e n hu _ ls (by simp [hxl]) hl1 (fun i d l hd hl => ?_) (fun l hl => ?_), hcon⟩
        · simp only [List.getElem?_map, Option.map_eq_some_iff] at hd
          obtain ⟨y, hy, rfl⟩ := hd
          exact (hl2 i l hl y hy).1
        · obtain ⟨i, hi⟩ := List.getElem?_of_mem hl
          have hin : i < n := by rw [← hl1]; exact (List.getElem?_eq_some_iff.1 hi).1
          have h3 := (hl2 i l hi _ (List.getElem?_eq_getElem (by omega : i < xs.length))).2
          rw [h3.1, List.length_take, List.length_drop, hcl, hok.2]
          have : (i + 1) * P.cellsOf e ≤ n * P.cellsOf e := Nat.mul_le_mul_right _ hin
          rw [Nat.add_mul] at this
          omega
      | _ => simp at hok

end
end Go.TM

/- The evaluator TM and the model: from the main theorem to a law's row. Condition: none. -/
namespace Go.TM
open Go Go.RowKit

/-! ### Data that is plain text -/
mutual
def ivsD {H : Type} : DataW H → List IV
  | .lit (.bool b) => [.bool b]
  | .lit (.int k n) => [.int k n]
  | .lit (.string s) => [.str s]
  | .agg ps => ivsDs ps
  | _ => []
def ivsDs {H : Type} : List (DataW H) → List IV
  | [] => []
  | d :: r => ivsD d ++ ivsDs r
end

mutual
def litD {H : Type} : DataW H → Bool
  | .lit _ => true
  | .agg ps => litDs ps
  | _ => false
def litDs {H : Type} : List (DataW H) → Bool
  | [] => true
  | d :: r => litD d && litDs r
end

theorem litDs_get {H : Type} : ∀ {ds : List (DataW H)}, litDs ds = true → ∀ (i : Nat) (d : DataW H), ds[i]? = some d → litD d = true
  | [], _, i, d, h => by simp at h
  | x :: r, h, i, d, hd => by
    simp only [litDs, Bool.and_eq_true] at h
    cases i with
    | zero => simp at hd; subst hd; exact h.1
    | succ i => exact litDs_get h.2 i d (by simpa using hd)

theorem flat_ivsDs {H : Type} : ∀ {ds : List (DataW H)} {ls : List (List IV)}, ls.length = ds.length → (∀ (i : Nat) (d : DataW H) (l : List IV), ds[i]? = some d → ls[i]? = some l → l = ivsD d) → flat ls = ivsDs ds
  | [], ls, hl, _ => by
    have : ls = [] := List.eq_nil_of_length_eq_zero (by simpa using hl)
    subst this; rfl
  | d :: ds, ls, hl, h => by
    cases ls with
    | nil => simp at hl
    | cons l ls =>
      have h1 := h 0 d l rfl rfl
      have h2 := flat_ivsDs (ds := ds) (ls := ls) (by simpa using hl) (fun i d' l' hd hl' => h (i + 1) d' l' (by simpa using hd) (by simpa using hl'))
      simp only [flat, ivsDs, h1, h2]

theorem ty_lit {P : Program} {H : Type} {t : TypeId} {d : DataW H} {l : List IV} (h : Ty P t d l) : litD d = true → l = ivsD d := by
  induction h with
  | bool t ht b => intro _; rfl
  | int t k ht n hw => intro _; rfl
  | str t ht s hs => intro _; rfl
  | nilp t e ht => intro h; simp [litD] at h
  | ptr t e ht d l h hl ih => intro h; simp [litD] at h
  | nils t e ht => intro h; simp [litD] at h
  | sl t e ht ds sp ls tag htag hn hm h hl ih => intro h; simp [litD] at h
  | struct t fs ht ds ls h1 h2 h hl ih =>
    intro hd
    simp only [litD] at hd
    simp only [ivsD]
    refine flat_ivsDs (by omega) (fun i d l hdi hli => ?_)
    have hi : i < fs.size := by rw [← h1]; exact (List.getElem?_eq_some_iff.1 hdi).1
    exact ih i fs[i] d l (Array.getElem?_eq_getElem hi) hdi hli (litDs_get hd i d hdi)
  | array t e n ht ds ls h1 h2 h hl ih =>
    intro hd
    simp only [litD] at hd
    simp only [ivsD]
    exact flat_ivsDs (by omega) (fun i d l hdi hli => ih i d l hdi hli (litDs_get hd i d hdi))

section
variable {P : Program} {W : World}

/-- A listed variable, as an address of immutable cells. -/
theorem laid_glob {ts : List TypeId} (hts : tyOk P ts = true) : ∀ {laid : List (String × DataW Unit)} {ps : List MemPlace}, DataW.LaidVars P W laid ps → ∀ (n : String) (d : DataW Unit), (n, d) ∈ laid → ∀ (g : Nat) (t : TypeId), P.globalNamed n = some g → (P.globals[g]?).map (·.type) = some t → t ∈ ts → litD d = true →
    IR (allMem W) (.cp (ivsD d)) (.pointer (some ⟨g, 0, none⟩))
  | [], _, _, n, d, h => by simp at h
  | (n0, d0) :: r, ps, h, n, d, hm => by
    intro g t hg ht htt hl
    obtain ⟨g', t', cs, fuel, p, q, h1, h2, h3, h4, h5, _⟩ := h
    rcases List.mem_cons.1 hm with e | hm
    · simp only [Prod.mk.injEq] at e
      obtain ⟨rfl, rfl⟩ := e
      obtain rfl := Option.some.inj (hg.symm.trans h1)
      obtain rfl := Option.some.inj (ht.symm.trans h2)
      obtain ⟨l, k1, k2⟩ := read_ty hts fuel t cs.toList _ htt h4
      have := ty_lit k1 hl
      subst this
      refine .cp _ g 0 (fun i => cs.getD i Go.undef) (fun i x hx => ?_) (fun i x hx => ?_)
      · have hi : i < cs.size := by have := (List.getElem?_eq_some_iff.1 hx).1; rw [k2.1] at this; simpa using this
        show W.cell? ⟨g, 0 + i, none⟩ = _
        rw [Nat.zero_add, World.var?_cell hg h3 i, Array.getElem?_eq_getElem hi]
        simp [Array.getD_eq_getD_getElem?, Array.getElem?_eq_getElem hi]
      · have hi : i < cs.size := by have := (List.getElem?_eq_some_iff.1 hx).1; rw [k2.1] at this; simpa using this
        have := k2.2 i x cs[i] hx (by simp [hi])
        simpa [Array.getD_eq_getD_getElem?, Array.getElem?_eq_getElem hi] using this
    · exact laid_glob hts h5 n d hm g t hg ht htt hl

theorem allMem_wr {O : Opts} (W : World) : WR P O (allMem W) [] [] W := .empty (fun _ _ _ h => h)

theorem tr_below {M M' : Mem} {J' : Places} {S' : Store} {W' : World} (h : Tr (fun _ => False) M [] [] W M' J' S' W') : Below W.heap.size W W' :=
  ⟨h.os, h.tape, h.output, h.size, fun k hk => h.frame k hk (by rintro ⟨i, l, hl, _⟩; simp [Places.at] at hl) (fun h => h)⟩

/-- A law's call: it returns true, and nothing old has turned. -/
theorem law_calls {O : Opts} {K : TM.Prog} (hk : KOK P O K) {n f : Nat} {args : List TV} (hq : ((ex K n).call f args []).All (fun r => r.1 = .iv (.bool true))) {vals : Array Value} (hv : VRs (allMem W) [] [] args vals.toList) (hg : GlobOK K (allMem W)) :
    Calls P f vals W fun e W' => e = .returned (.bool true) ∧ Below W.heap.size W W' := by
  have h := sound hk hq hv (allMem_wr W) hg
  have e : vals.toList.toArray = vals := by simp
  rw [e] at h
  refine h.mono (fun en W' he => ?_)
  cases en with
  | returned v' =>
    obtain ⟨v, S', M', J', hQ, hvr, _, tr⟩ := he
    simp only at hQ
    subst hQ
    exact ⟨by rw [hvr.bool_inv], tr_below tr⟩
  | panicked c => exact he.elim
  | outgrown => exact he.elim

/-! ### A law's post -/

theorem below_all {H : Type} {enc : TypeId × Value → H} (hl : laidOutB P = true) {W' : World} (hb : Below W.heap.size W W') : ∀ {ts : List TypeId} {vs : List Value} {ds : List (DataW H)} {ps : List MemPlace}, (∀ t ∈ ts, P.readableRec t = true ∧ t < P.types.size) →
    DataW.TrodAll enc P W 0 (fun _ => true) true ts vs ds ps → (∀ x ∈ ps, x.block < W.heap.size) → DataW.TrodAll enc P W' 0 (fun b => decide (b < W.heap.size)) true ts vs ds ps
  | [], vs, ds, ps, _, h, _ => by
    obtain ⟨rfl, rfl, rfl⟩ := Go.ChangeShapes.trodAll_nil h
    rfl
  | t :: ts, vs, ds, ps, ht, h, hlt => by
    obtain ⟨v, vs', d, ds', p, q, rfl, rfl, rfl, h1, h2⟩ := Go.ChangeShapes.trodAll_cons h
    exact ⟨p, q, Below.trod hl (ht t (by simp)).1 (ht t (by simp)).2 h1 hb (fun x hx => hlt x (by simp [hx])), below_all hl hb (fun u hu => ht u (by simp [hu])) h2 (fun x hx => hlt x (by simp [hx])), rfl⟩

theorem law_post {H : Type} {enc : TypeId × Value → H} (hl : laidOutB P = true) {f : Func} {s : ChangeSpec} {apart fresh handsOn : Bool} {W' : World} {args : Array Value} {ds gs : List (DataW H)} {before : List MemPlace} (hW : DataW.Whole enc P f.params.toList s.vars apart W args.toList ds gs before)
    (hs : s.vars = []) (hfn : s.fn H ds = { results := [.lit (.bool true)], args := ds }) (hts : f.params.all (fun t => P.readableRec t && decide (t < P.types.size)) = true) {tb : TypeId} (hrt : f.resultTypes = #[tb]) (htb : P.underlying tb = some .bool) (hb : Below W.heap.size W W') :
    s.post enc P f apart fresh handsOn false W args (.bool true) W' := by
  obtain ⟨p, q, hA, hV, hps, hz, hnd⟩ := hW
  have hlt := hA.lt
  rw [hs] at hV
  obtain ⟨hgs, hqe⟩ : gs = [] ∧ q = [] := by
    cases gs with
    | nil => exact ⟨rfl, hV⟩
    | cons g r => exact absurd hV (by intro h; cases h)
  subst hgs; subst hqe
  have hA' := below_all hl hb (fun t ht => by
    rw [← Array.all_toList, List.all_eq_true] at hts
    have := hts t ht
    simpa using this) hA hlt
  refine ⟨ds, [], before, [], p, [], ⟨p, [], hA, by rw [hs]; exact rfl, hps, hz, hnd⟩, ?_, ?_, ?_, ?_, fun h => by simp at h⟩
  · rw [List.append_nil, hfn, hrt]
    exact ⟨[], [], ⟨1, by cases fresh <;> simp [DataW.trod, htb, Value.cells]⟩, rfl, rfl⟩
  · rw [List.append_nil, hfn]; exact hA'
  · rw [List.append_nil, hfn, hs]; exact rfl
  · exact hb.frame _

end

/-! ### Runs by the kernel -/

/-- All outcomes are fine, as a truth. -/
def Out.allB {α : Type} (p : α → Bool) : Out α → Bool
  | .ret a => p a
  | .fail _ => false
  | .pick n k => (List.range n).all fun i => (k i).allB p

theorem Out.all_of_allB {α : Type} {p : α → Bool} {Q : α → Prop} (h : ∀ a, p a = true → Q a) : ∀ {x : Out α}, x.allB p = true → x.All Q
  | .ret _, hx => h _ hx
  | .fail _, hx => by simp [Out.allB] at hx
  | .pick n k, hx => fun i hi => Out.all_of_allB h ((List.all_eq_true.1 hx) i (List.mem_range.2 hi))

def isTrue (r : TV × Store) : Bool :=
  match r.1 with
  | .iv (.bool true) => true
  | _ => false

theorem isTrue_eq (r : TV × Store) (h : isTrue r = true) : r.1 = .iv (.bool true) := by
  unfold isTrue at h
  split at h
  · assumption
  · simp at h

/-- A closed law that the kernel has run. -/
theorem law_run {P : Program} {O : Opts} {K : TM.Prog} {W : World} (hk : KOK P O K) (n f : Nat) (h : ((ex K n).call f [] []).allB isTrue = true) (hg : GlobOK K (allMem W)) :
    Calls P f #[] W fun e W' => e = .returned (.bool true) ∧ Below W.heap.size W W' :=
  law_calls hk (Out.all_of_allB isTrue_eq h) (by exact VRs.nil) hg

/-- A table's functions, each at its place. -/
def AllAt {α : Type} (Q : Nat → α → Prop) : Nat → List (Option α) → Prop
  | _, [] => True
  | i, none :: r => AllAt Q (i + 1) r
  | i, some t :: r => Q i t ∧ AllAt Q (i + 1) r

theorem allAt_from {α : Type} {Q : Nat → α → Prop} : ∀ {l : List (Option α)} {i : Nat}, AllAt Q i l → ∀ (k : Nat) (t : α), l.getD k none = some t → Q (i + k) t
  | [], i, _, k, t, h => by simp [List.getD] at h
  | none :: r, i, h, k, t, hk => by
    cases k with
    | zero => simp [List.getD] at hk
    | succ k =>
      have := allAt_from (l := r) (i := i + 1) h k t (by simpa [List.getD] using hk)
      rwa [show i + 1 + k = i + (k + 1) by omega] at this
  | some u :: r, i, h, k, t, hk => by
    cases k with
    | zero => simp [List.getD] at hk; subst hk; exact h.1
    | succ k =>
      have := allAt_from (l := r) (i := i + 1) h.2 k t (by simpa [List.getD] using hk)
      rwa [show i + 1 + k = i + (k + 1) by omega] at this

theorem allAt_get {α : Type} {Q : Nat → α → Prop} {l : List (Option α)} (h : AllAt Q 0 l) (k : Nat) (t : α) (hk : l.getD k none = some t) : Q k t := by
  have := allAt_from h k t hk
  rwa [Nat.zero_add] at this

end Go.TM

/- TM: a closed run cut into pieces, so that the kernel forgets between them. Condition: none. -/
namespace Go.TM

def hdC : TCode → TCode
  | .seq a _ => a
  | c => c
def tlC : TCode → TCode
  | .seq _ b => b
  | c => c
def isSeq : TCode → Bool
  | .seq _ _ => true
  | _ => false

theorem exec_piece {K : Prog} {o : Orc} {c : TCode} {e e1 : Env} {S S1 : Store} (hs : isSeq c = true)
    (h : exec K o (hdC c) e S = .ret (.normal, e1, S1)) : exec K o c e S = exec K o (tlC c) e1 S1 := by
  cases c <;> simp [isSeq] at hs
  case seq a b =>
    simp only [hdC] at h
    simp [exec, h, Out.bind, tlC]

def finB (tf : TFunc) (p : TV × Store → Bool) (r : Jump × Env × Store) : Bool :=
  match r.1 with
  | .exit _ => false
  | _ => match finish tf.results r.2.1 r.2.2 with
    | some v => p (v, r.2.2)
    | none => false

theorem Out.allB_bind {α β : Type} {p : β → Bool} {f : α → Out β} {q : α → Bool} (hq : ∀ a, q a = true → (f a).allB p = true) :
    ∀ {x : Out α}, x.allB q = true → (x.bind f).allB p = true
  | .ret a, h => hq a h
  | .fail _, h => by simp [Out.allB] at h
  | .pick n k, h => by
    simp only [Out.allB, Out.bind, List.all_eq_true] at h ⊢
    exact fun i hi => Out.allB_bind hq (h i hi)

theorem call_of_exec {K : Prog} {n f : Nat} {args : List TV} {S : Store} {tf : TFunc} {p : TV × Store → Bool} (hf : K.funcs f = some tf)
    (hl : args.length = tf.nparams) (h : (exec K (ex K n) tf.body (args ++ List.replicate (tf.nlocs - tf.nparams) undef) S).allB (finB tf p) = true) :
    ((ex K (n + 1)).call f args S).allB p = true := by
  show (callBody K (ex K n) f args S).allB p = true
  simp only [callBody, hf, hl, ne_eq, not_true, if_false]
  refine Out.allB_bind ?_ h
  intro r hr
  unfold finB at hr
  split at hr
  · simp at hr
  · rename_i h1
    split at hr
    · rename_i v hv
      split
      · rename_i i hi; exact absurd hi (h1 i)
      · simp only [hv]; exact hr
    · simp at hr

theorem call_ret_of_exec {K : Prog} {n f : Nat} {args : List TV} {S S' : Store} {env' : Env} {j : Jump} {v : TV} {tf : TFunc} (hf : K.funcs f = some tf)
    (hl : args.length = tf.nparams) (h : exec K (ex K n) tf.body (args ++ List.replicate (tf.nlocs - tf.nparams) undef) S = .ret (j, env', S'))
    (hj : j = .normal ∨ j = .ret) (hfin : finish tf.results env' S' = some v) : (ex K (n + 1)).call f args S = .ret (v, S') := by
  show callBody K (ex K n) f args S = _
  simp only [callBody, hf, hl, ne_eq, not_true, if_false, h, Out.bind]
  rcases hj with rfl | rfl <;> simp [hfin]

/-- Calls whose answer is known. -/
abbrev Memo := List (Nat × List TV × (TV × Store))
def memoCall (call : Nat → List TV → Store → Out (TV × Store)) : Memo → Nat → List TV → Store → Out (TV × Store)
  | [], f, a, S => call f a S
  | e :: es, f, a, S => if e.1 == f && sameL e.2.1 a && S.isEmpty then .ret e.2.2 else memoCall call es f a S
def memo (es : Memo) (o : Orc) : Orc := { o with call := memoCall o.call es }

theorem memoCall_eq {call : Nat → List TV → Store → Out (TV × Store)} {f : Nat} {a : List TV} {S : Store} : ∀ {es : Memo}, (∀ e ∈ es, call e.1 e.2.1 [] = .ret e.2.2) → memoCall call es f a S = call f a S
  | [], _ => rfl
  | e :: es, h => by
    unfold memoCall
    split
    · rename_i hc
      simp only [Bool.and_eq_true, beq_iff_eq, List.isEmpty_iff] at hc
      obtain ⟨⟨rfl, h2⟩, rfl⟩ := hc
      rw [← sameL_eq h2]
      exact (h e (by simp)).symm
    · exact memoCall_eq fun e he => h e (by simp [he])

theorem memo_eq {o : Orc} {es : Memo} (h : ∀ e ∈ es, o.call e.1 e.2.1 [] = .ret e.2.2) : memo es o = o := by
  unfold memo
  have : memoCall o.call es = o.call := by funext f a S; exact memoCall_eq h
  rw [this]

theorem ret_bind {α β : Type} {a : α} {f : α → Out β} : (Out.ret a).bind f = f a := rfl
/-- The one answer of a run that has no choice. -/
def Out.det {α : Type} : Out α → Option α
  | .ret a => some a
  | .fail _ => none
  | .pick n k => if n = 1 then (k 0).det else none

theorem Out.allB_of_det {α β : Type} {f : α → Out β} {p : β → Bool} {a : α} (hf : (f a).allB p = true) : ∀ {x : Out α}, x.det = some a → (x.bind f).allB p = true
  | .ret b, h => by simp only [Out.det, Option.some.injEq] at h; subst h; exact hf
  | .fail _, h => by simp [Out.det] at h
  | .pick n k, h => by
    unfold Out.det at h
    split at h
    · rename_i hn
      subst hn
      simp only [Out.bind, Out.allB, List.all_eq_true]
      intro i hi
      have : i = 0 := by have := List.mem_range.1 hi; omega
      subst this
      exact Out.allB_of_det hf h
    · simp at h

theorem exec_piece_det {K : Prog} {o : Orc} {c : TCode} {e e1 : Env} {S S1 : Store} {p : Jump × Env × Store → Bool} (hs : isSeq c = true)
    (h : (exec K o (hdC c) e S).det = some (.normal, e1, S1)) (h2 : (exec K o (tlC c) e1 S1).allB p = true) : (exec K o c e S).allB p = true := by
  cases c <;> simp [isSeq] at hs
  case seq a b =>
    simp only [hdC] at h
    simp only [tlC] at h2
    simp only [exec]
    exact Out.allB_of_det (a := (Jump.normal, e1, S1)) h2 h
end Go.TM

/- The evaluator TM and the model: primitives: a byte's place in a text; strings.Builder's copyCheck and String. Condition: none. -/
set_option linter.unusedVariables false
namespace Go.TM
open Go Go.Shelf Go.RowKit Go.Proofs

/-- Inside a fence that lets all through a call is as it is. -/
theorem callsIn_of_calls {P : Program} {F : Fence} (hF : FenceOK F) {n f : Nat} {args : Array Value} {w : World} {R : Ending → World → Prop} (h : Calls P f args w R) : CallsIn F n P f args w R := by
  have e : F.plain = Fence.wide := by
    obtain ⟨h1, h2, h3⟩ := hF
    cases F
    simp only at h1 h2 h3
    subst h2 h3
    simp only [Fence.plain, Fence.wide, Fence.mk.injEq, and_true]
    funext x
    exact propext (iff_true_intro (h1 x))
  refine callsIn_plain ?_
  rw [e]
  exact callsIn_wide.2 h

variable {P : Program} {O : Opts} {K : TM.Prog}

/-! ### internal/bytealg.IndexByteString -/

def primIndex : Prim := fun xs S => match xs with
  | [.iv (.str s), .iv (.int .u8 c)] => some (.iv (.int .i64 (Lib.indexByte s c.toNat.toUInt8)), S)
  | _ => none

theorem primIndex_ok {f : Nat} {fn : Func} (hf : P.funcs[f]? = some fn) (hname : (fn.name == "runtime.NumGoroutine") = false) (hb : fn.body.isNone = true) (hn : Extern.findNext fn = none)
    (he : Extern.find fn = some Extern.BytealgIndexByte.indexByte) : PrimOK P O K f primIndex := by
  intro args S v S' h M J w vals hv hw hg
  unfold primIndex at h
  split at h
  case h_2 => simp at h
  rename_i s c
  simp only [Option.some.injEq, Prod.mk.injEq] at h
  obtain ⟨rfl, rfl⟩ := h
  obtain ⟨x, vals, rfl, hx, hv⟩ := hv.cons_inv
  obtain ⟨y, vals, rfl, hy, hv⟩ := hv.cons_inv
  obtain rfl := hv.nil_inv
  rw [hx.str_inv, hy.int_inv]
  refine .inr ⟨_, w, M, J, ?_, .iv _ (.int _ _), hw, .refl _ _ _ _ _⟩
  rw [run_callFunc_extern hf hname hb hn he, Lib.run_indexByteString]
  rfl

/-! ### (*strings.Builder).copyCheck -/

/-- Cs: the types of variables that begin with a strings.Builder, and how many cells each takes. -/
def primCopyCheck (Cs : List (Nat × Nat)) : Prim := fun xs S => match xs with
  | [.ptr i ver 0] => match S[i]? with
    | some (.cells v false (a :: r)) =>
      if v = ver ∧ Cs.any (fun c => v == c.1 + 1 && r.length + 1 == c.2) = true then match a with
        | .iv .nilp => some (.tup [], S.set i (.cells v false (.ptr i ver 0 :: r)))
        | .ptr j v2 0 => if j = i ∧ v2 = ver then some (.tup [], S) else none
        | _ => none
      else none
    | _ => none
  | _ => none

theorem primCopyCheck_ok {f : Nat} {Cs : List (Nat × Nat)} {fn : Func} (hf : P.funcs[f]? = some fn) (hb : fn.body.isSome = true) (hng : fn.name ≠ "runtime.NumGoroutine")
    (hfresh : ∀ c ∈ Cs, ∀ (b : Nat) (w : World), w.cell? ⟨b, 0, none⟩ = some (.pointer none) → w.shape? b = some c → w.frozen? ⟨b, 0, none⟩ = false →
      Calls P f #[.pointer (some ⟨b, 0, none⟩)] w fun e w' => e = .returned (.tuple #[]) ∧ w' = w.setCell ⟨b, 0, none⟩ (.pointer (some ⟨b, 0, none⟩)))
    (hused : ∀ (b : Nat) (w : World), w.cell? ⟨b, 0, none⟩ = some (.pointer (some ⟨b, 0, none⟩)) → Calls P f #[.pointer (some ⟨b, 0, none⟩)] w fun e w' => e = .returned (.tuple #[]) ∧ w' = w) :
    PrimOK P O K f (primCopyCheck Cs) := by
  intro args S v S' h M J w vals hv hw hg
  unfold primCopyCheck at h
  split at h
  case h_2 => simp at h
  rename_i xs i ver
  split at h
  case h_2 => simp at h
  rename_i v0 a0 r hS
  split at h
  case isFalse => simp at h
  rename_i hc
  obtain ⟨rfl, hany⟩ := hc
  obtain ⟨⟨T, sz⟩, hmem, hcc⟩ := List.any_eq_true.1 hany
  simp only [Bool.and_eq_true, beq_iff_eq] at hcc
  obtain ⟨rfl, hr⟩ := hcc
  obtain ⟨x, vals, rfl, hx, hv⟩ := hv.cons_inv
  obtain rfl := hv.nil_inv
  cases hx with
  | ptr _ _ _ _ l b o hl hlv ha =>
    have hbr := hw.blk i l _ hl hS
    generalize hs0 : Block.cells (T + 1) false (a0 :: r) = s0 at hbr
    cases hbr with
    | cells loose cs cs' e fz hlo hbk hsz hfit hvals hfz hm ht =>
      simp only [Block.cells.injEq] at hs0
      obtain ⟨hver, rfl, rfl⟩ := hs0
      obtain ⟨rfl, rfl⟩ := ha hver
      obtain ⟨h1, h2, h3⟩ := ht hlo (by rw [← hver]; exact Nat.succ_ne_zero _)
      obtain rfl : T = e := Nat.succ.inj (hver.trans h1)
      simp only [List.length_cons] at h3
      rw [h2] at hvals hfit ⊢
      obtain ⟨u0, q0, r0⟩ := hvals 0 a0 rfl
      have hcell : w.cell? ⟨l.cb, 0, none⟩ = some u0 := by rw [cell_of_heap hbk]; exact q0
      refine .inl ⟨fn, hf, hb, hng, fun F hF n => callsIn_of_calls hF ?_⟩
      split at h
      · -- fresh
        simp only [Option.some.injEq, Prod.mk.injEq] at h
        obtain ⟨rfl, rfl⟩ := h
        obtain rfl : u0 = .pointer none := by cases r0.iv_inv; rfl
        refine (hfresh (T, sz) hmem l.cb w hcell (by simp [World.shape?, hbk, h3, hr]) (hfz 0 (by omega))).mono ?_
        rintro e w' ⟨rfl, rfl⟩
        have hnew : (w.setCell ⟨l.cb, 0, none⟩ (.pointer (some ⟨l.cb, 0, none⟩))).heap[l.cb]? = some (.cells (cs'.setIfInBounds 0 (.pointer (some ⟨l.cb, 0, none⟩))) T fz) := by
          simp only [World.setCell]
          rw [Array.getElem?_modify, if_pos rfl, hbk]
          rfl
        have hot : ∀ b, b ≠ l.cb → (w.setCell ⟨l.cb, 0, none⟩ (.pointer (some ⟨l.cb, 0, none⟩))).heap[b]? = w.heap[b]? := by
          intro b hb
          simp only [World.setCell]
          rw [Array.getElem?_modify, if_neg (fun q => hb q.symm)]
        obtain ⟨wr, tr⟩ := hw.write (fun _ => False) hl (w' := w.setCell ⟨l.cb, 0, none⟩ (.pointer (some ⟨l.cb, 0, none⟩))) (s' := .cells l.ver false (.ptr i (T + 1) 0 :: r)) (by
          refine .cells false _ _ T fz hlo hnew (by simpa using hsz) (by simp only [List.length_cons, Array.size_setIfInBounds, h2]; omega) ?_ (fun o ho => ?_) hm (fun _ _ => ⟨h1, h2, by simpa using h3⟩)
          · intro k x hx
            rw [h2, Nat.zero_add]
            cases k with
            | zero =>
              simp only [List.getElem?_cons_zero, Option.some.injEq] at hx
              subst hx
              exact ⟨.pointer (some ⟨l.cb, 0, none⟩), by rw [Array.getElem?_setIfInBounds]; simp [h3], .ptr _ _ _ _ l _ _ hl hlv (fun _ => ⟨rfl, by rw [h2]⟩)⟩
            | succ k =>
              obtain ⟨u1, q1, r1⟩ := hvals (k + 1) x (by simpa using hx)
              refine ⟨u1, ?_, r1⟩
              rw [Array.getElem?_setIfInBounds, if_neg (by omega)]
              rw [Nat.zero_add] at q1
              exact q1
          · have := hfz o (by simpa using ho)
            unfold World.frozen? at this ⊢
            rw [hbk] at this
            rw [hnew]
            exact this) (by simp [World.setCell]) hot ⟨rfl, rfl, rfl⟩ (fun o v hm' => by rw [hm] at hm'; simp at hm')
        rw [← hver] at wr tr
        exact ⟨_, _, M, J, rfl, .tup _ _ _ rfl (fun i x v hx => by simp at hx), wr, tr⟩
      · -- used
        split at h
        case isFalse => simp at h
        rename_i hc
        obtain ⟨rfl, rfl⟩ := hc
        simp only [Option.some.injEq, Prod.mk.injEq] at h
        obtain ⟨rfl, rfl⟩ := h
        cases r0 with
        | ptr _ _ _ _ l2 b2 o2 hl2 hlv2 ha2 =>
          obtain rfl : l2 = l := by unfold Places.at at hl hl2; rw [hl] at hl2; simpa using hl2.symm
          obtain ⟨rfl, rfl⟩ := ha2 hver
          rw [h2] at hcell
          refine (hused l2.cb w hcell).mono ?_
          rintro e w' ⟨rfl, rfl⟩
          exact ⟨_, _, M, J, rfl, .tup _ _ _ rfl (fun i x v hx => by simp at hx), hw, .refl _ _ _ _ _⟩
      · simp at h
    | _ => simp at hs0

/-! ### (*strings.Builder).String -/

set_option maxHeartbeats 2000000 in
set_option maxRecDepth 100000 in
/-- String of a builder that holds bytes, in a row of any kind: it reads them, and freezes them. -/
theorem str_row {ρ : Ren} (L : Lays.n169 P ρ) (X : Builder.Extra P ρ) (b g cap : Nat) (l : List UInt8) (w : World) (h0 : l ≠ []) (cells : Nat) (hsh : w.shape? g = some (ρ.t 5, cells)) (hcc : l.length ≤ cells) (hcap : cap ≠ 0)
    (h63 : l.length ≤ 9223372036854775807) (hrow : ∀ j x, l[j]? = some x → w.cell? ⟨g, j, none⟩ = some (.int .u8 x.toNat)) (c0 : w.cell? ⟨b, 1, none⟩ = some (.slice (some ⟨g, 0, none⟩) l.length cap)) :
    Calls P (ρ.f 169) #[.pointer (some ⟨b, 0, none⟩)] w fun e w' => e = .returned (.string ⟨l.toArray⟩) ∧ w' = w.drew.freeze ⟨g, 0, none⟩ l.length := by
  have hl0 : l.length ≠ 0 := by simpa using h0
  have c1 : w.drew.cell? ⟨b, 1, none⟩ = some (.slice (some ⟨g, 0, none⟩) l.length cap) := c0
  have hSD : (Builtin.unsafeSliceData_ #[(ρ.t 37)] (ρ.t 127) #[.slice (some ⟨g, 0, none⟩) l.length cap]).run P w.drew = .ok (.pointer (some ⟨g, 0, none⟩)) w.drew :=
    Lib.run_unsafeSliceData_row _ _ _ _ _ _ hcap
  have hUS : (Builtin.unsafeString_ #[(ρ.t 127), (ρ.t 3)] (ρ.t 9) #[.pointer (some ⟨g, 0, none⟩), .int .i64 l.length]).run P w.drew = .ok (.string ⟨l.toArray⟩) (w.drew.freeze ⟨g, 0, none⟩ l.length) := by
    refine Lib.run_unsafeString_row w.drew (ρ.t 127) (ρ.t 3) (ρ.t 9) (ρ.t 5) L.t127 X.cellsByte g cells hsh l h0 hcc h63 ?_
    intro j x hx
    have e : (⟨g, 0, none⟩ : Addr).add j = ⟨g, j, none⟩ := by unfold Addr.add; by_cases hj : j = 0 <;> simp [hj]
    rw [e]
    exact hrow j x hx
  clear hsh hcc hcap h63 hrow
  have mixed := L.mixed
  have t72 := L.t72; have a72 := L.a72; have z72 := L.z72; have v72 := L.v72; have u72 := run_underlying L.t72
  have t70 := L.t70; have a70 := L.a70; have z70 := L.z70; have v70 := L.v70; have u70 := run_underlying L.t70
  have t37 := L.t37; have a37 := L.a37; have z37 := L.z37; have v37 := L.v37; have u37 := run_underlying L.t37
  have t127 := L.t127; have a127 := L.a127; have z127 := L.z127; have v127 := L.v127; have u127 := run_underlying L.t127
  have t3 := L.t3; have a3 := L.a3; have z3 := L.z3; have v3 := L.v3; have u3 := run_underlying L.t3
  have t9 := L.t9; have a9 := L.a9; have z9 := L.z9; have v9 := L.v9; have u9 := run_underlying L.t9
  have t5 := X.t5; have a5 := X.a5; have z5 := X.z5; have v5 := X.v5; have u5 := run_underlying X.t5
  go_enter L.f169, Body.n169_ntmps ρ
  go_wp2
  go_region_o
  all_goals (go_wp2; go_ret; exact ⟨rfl, rfl⟩)

set_option maxHeartbeats 2000000 in
set_option maxRecDepth 100000 in
/-- String of a builder that holds no row: the empty text. -/
theorem str_nil {ρ : Ren} (L : Lays.n169 P ρ) (X : Builder.Extra P ρ) (b : Nat) (w : World) (c0 : w.cell? ⟨b, 1, none⟩ = some (.slice none 0 0)) :
    Calls P (ρ.f 169) #[.pointer (some ⟨b, 0, none⟩)] w fun e w' => e = .returned (.string ⟨#[]⟩) ∧ w' = w.drew := by
  have hUS := Any.unsafeString_none L X
  have c1 : w.drew.cell? ⟨b, 1, none⟩ = some (.slice none 0 0) := c0
  have hSD : (Builtin.unsafeSliceData_ #[(ρ.t 37)] (ρ.t 127) #[.slice none 0 0]).run P w.drew = .ok (.pointer none) w.drew := rfl
  have mixed := L.mixed
  have t72 := L.t72; have a72 := L.a72; have z72 := L.z72; have v72 := L.v72; have u72 := run_underlying L.t72
  have t70 := L.t70; have a70 := L.a70; have z70 := L.z70; have v70 := L.v70; have u70 := run_underlying L.t70
  have t37 := L.t37; have a37 := L.a37; have z37 := L.z37; have v37 := L.v37; have u37 := run_underlying L.t37
  have t127 := L.t127; have a127 := L.a127; have z127 := L.z127; have v127 := L.v127; have u127 := run_underlying L.t127
  have t3 := L.t3; have a3 := L.a3; have z3 := L.z3; have v3 := L.v3; have u3 := run_underlying L.t3
  have t9 := L.t9; have a9 := L.a9; have z9 := L.z9; have v9 := L.v9; have u9 := run_underlying L.t9
  have t5 := X.t5; have a5 := X.a5; have z5 := X.z5; have v5 := X.v5; have u5 := run_underlying X.t5
  go_enter L.f169, Body.n169_ntmps ρ
  go_wp2
  go_region_o
  all_goals (go_wp2; go_ret; exact ⟨rfl, rfl⟩)

/-- U: the number of the type byte. -/
def primString (U : Nat) : Prim := fun xs S => match xs with
  | [.ptr i ver 0] => match S[i]? with
    | some (.cells v false (_ :: x :: _)) =>
      if ver ≠ 0 ∧ v = ver then match x with
        | .iv (.sl .nil []) => some (.iv (.str []), S)
        | .tsl k es => match S[k]?, bytesOf es with
          | some (.tok n e u), some s =>
            if n = es.length ∧ e = 1 ∧ u = U ∧ n ≠ 0 ∧ n < 4611686018427387904 ∧ ivSameLL (bytesIV s) es = true then some (.iv (.str s), S) else none
          | _, _ => none
        | _ => none
      else none
    | _ => none
  | _ => none

theorem primString_ok {ρ : Ren} (L : Lays.n169 P ρ) (X : Builder.Extra P ρ) {fn : Func} (hf : P.funcs[ρ.f 169]? = some fn) (hb : fn.body.isSome = true) (hng : fn.name ≠ "runtime.NumGoroutine") :
    PrimOK P O K (ρ.f 169) (primString (ρ.t 5)) := by
  intro args S v S' h M J w vals hv hw hg
  unfold primString at h
  split at h
  case h_2 => simp at h
  rename_i xs i ver
  split at h
  case h_2 => simp at h
  rename_i v0 a0 b0 r hS
  split at h
  case isFalse => simp at h
  rename_i hc
  obtain ⟨hv0, rfl⟩ := hc
  obtain ⟨x, vals, rfl, hx, hv⟩ := hv.cons_inv
  obtain rfl := hv.nil_inv
  cases hx with
  | ptr _ _ _ _ l b o hl hlv ha =>
    have hbr := hw.blk i l _ hl hS
    generalize hs0 : Block.cells v0 false (a0 :: b0 :: r) = s0 at hbr
    cases hbr with
    | cells loose cs cs' e fz hlo hbk hsz hfit hvals hfz hm ht =>
      simp only [Block.cells.injEq] at hs0
      obtain ⟨hver, rfl, rfl⟩ := hs0
      obtain ⟨rfl, rfl⟩ := ha hver
      obtain ⟨h1, h2, h3⟩ := ht hlo (by rw [← hver]; exact hv0)
      rw [h2] at hvals hfit ⊢
      obtain ⟨u1, q1, r1⟩ := hvals 1 b0 rfl
      have hcell : w.cell? ⟨l.cb, 1, none⟩ = some u1 := by rw [cell_of_heap hbk]; exact q1
      refine .inl ⟨fn, hf, hb, hng, fun F hF n => callsIn_of_calls hF ?_⟩
      split at h
      · -- nothing was written
        simp only [Option.some.injEq, Prod.mk.injEq] at h
        obtain ⟨rfl, rfl⟩ := h
        obtain rfl : u1 = .slice none 0 0 := by
          rcases r1.iv_inv.sl_any with ⟨_, _, rfl⟩ | ⟨b, off, cap, es', vals, _, htn, _⟩ | ⟨a0, _, _, htn⟩
          · rfl
          · exact absurd rfl htn
          · exact absurd rfl htn
        refine (str_nil L X l.cb w hcell).mono ?_
        rintro e w' ⟨rfl, rfl⟩
        have ms : MS P O K M J [] S [] w := ⟨hw, ⟨rfl, fun j cs h => by simp at h, fun j k cs cs' cb h => by simp at h⟩, hg⟩
        obtain ⟨hd, td⟩ := ms.drew
        exact ⟨_, _, M, J, rfl, .iv _ (.str _), hd.wr, td⟩
      · -- a row that grows
        rename_i k es
        split at h
        case h_2 => simp at h
        rename_i n0 e0 u s hSk hs
        split at h
        case isFalse => simp at h
        rename_i hc
        obtain ⟨rfl, rfl, rfl, hn0, hn62, hsame⟩ := hc
        simp only [Option.some.injEq, Prod.mk.injEq] at h
        obtain ⟨rfl, rfl⟩ := h
        have hes := ivSameLL_eq hsame
        have hlen : es.length = s.length := by rw [← hes]; simp [bytesIV]
        cases r1 with
        | tsl _ _ _ l2 b2 o2 c2 hl2 hlo2 hv2 ha2 hr2 =>
          have hbr2 := hw.blk k l2 _ hl2 hSk
          generalize hs1 : Block.tok es.length 1 (ρ.t 5) = s1 at hbr2
          cases hbr2 with
          | tok n' cs2 e2 fz2 hlo2' hn2 hb2 hsz2 hc2 hes2 hfit2 hsp2 hfz2 ht2 =>
            simp only [Block.tok.injEq] at hs1
            obtain ⟨rfl, he1, hty⟩ := hs1
            obtain ⟨ht1, hd0, hfz3⟩ := ht2
            obtain ⟨rfl, rfl, rfl, hes3⟩ := ha2 hn2.symm
            have hfit3 : l2.cap ≤ cs2.size := by rw [hd0, ← he1] at hfit2; omega
            rw [hd0] at hcell hr2
            have hrow : ∀ j x, s[j]? = some x → w.cell? ⟨l2.cb, j, none⟩ = some (.int .u8 x.toNat) := by
              intro j x hx
              have hj : es[j]? = some [.int .u8 x.toNat] := by rw [← hes]; simp [bytesIV, hx]
              rcases hr2.sl_any with ⟨h0, _⟩ | ⟨b', o', c', es', vals, h0, _, hes', _, _, hmm, hvv⟩ | ⟨a0, h0, h9, _⟩
              · simp at h0
              · simp only [Value.slice.injEq, Option.some.injEq, Addr.mk.injEq] at h0
                obtain ⟨⟨rfl, rfl, _⟩, _, _⟩ := h0
                have e1 : es' = 1 := by have := hes' _ (List.mem_of_getElem? hj); simpa using this.symm
                subst e1
                have := hmm j _ 0 (.int .u8 x.toNat) hj rfl
                have hvj := hvv j _ 0 (.int .u8 x.toNat) hj rfl
                have hvj' : vals j 0 = .int .u8 x.toNat := by generalize vals j 0 = v0 at hvj; cases hvj; rfl
                rw [hvj'] at this
                have := hw.imm _ _ _ this
                simpa using this
              · rw [h9] at hn0; simp at hn0
            rw [hlen] at hcell
            refine (str_row L X l.cb l2.cb l2.cap s w (by intro q; exact hn0 (by rw [hlen, q]; rfl)) cs2.size (by simp [World.shape?, hb2, ← ht1, hty]) (by omega) (by omega) (by omega) hrow hcell).mono ?_
            rintro e w' ⟨rfl, rfl⟩
            have hs0 : s.length ≠ 0 := by omega
            have hfb : (w.drew.freeze ⟨l2.cb, 0, none⟩ s.length).heap = w.heap.modify l2.cb fun
              | .cells c elem (lo, hi) => .cells c elem (if lo == hi then (0, 0 + s.length) else (min lo 0, max hi (0 + s.length)))
              | o => o := by
              unfold World.freeze
              rw [if_neg hs0]
              rfl
            have hnew : (w.drew.freeze ⟨l2.cb, 0, none⟩ s.length).heap[l2.cb]? = some (.cells cs2 e2 (if fz2.1 == fz2.2 then (0, 0 + s.length) else (min fz2.1 0, max fz2.2 (0 + s.length)))) := by
              rw [hfb, Array.getElem?_modify, if_pos rfl, hb2]
              rfl
            have hot : ∀ b, b ≠ l2.cb → (w.drew.freeze ⟨l2.cb, 0, none⟩ s.length).heap[b]? = w.heap[b]? := by
              intro b hb
              rw [hfb, Array.getElem?_modify, if_neg (fun q => hb q.symm)]
            have hrest : (w.drew.freeze ⟨l2.cb, 0, none⟩ s.length).os = w.os ∧ (w.drew.freeze ⟨l2.cb, 0, none⟩ s.length).tape = w.tape ∧ (w.drew.freeze ⟨l2.cb, 0, none⟩ s.length).output = w.output := by
              unfold World.freeze
              rw [if_neg hs0]
              exact ⟨rfl, rfl, rfl⟩
            have hhi : ∀ fz : Nat × Nat, fz = (if fz2.1 == fz2.2 then (0, 0 + s.length) else (min fz2.1 0, max fz2.2 (0 + s.length))) → fz.2 ≤ es.length * l2.es := by
              rintro fz rfl
              rw [← he1] at hfz3 ⊢
              split
              · simp; omega
              · simp; omega
            obtain ⟨wr, tr⟩ := hw.write (fun _ => False) hl2 (w' := w.drew.freeze ⟨l2.cb, 0, none⟩ s.length) (s' := .tok es.length l2.es l2.ty) (by
              refine .tok es.length cs2 e2 _ hlo2' hn2 hnew hsz2 hc2 hes2 hfit2 hsp2 (fun o h1 h2 => ?_) ⟨ht1, hd0, hhi _ rfl⟩
              have h5 := hhi _ rfl
              unfold World.frozen?
              rw [hnew]
              simp only [Bool.and_eq_false_iff, decide_eq_false_iff_not]
              right
              omega) (by rw [hfb]; simp) hot hrest (fun o v hm' => by
              have := hw.imm _ _ _ hm'
              rw [cell_of_heap hb2] at this
              rw [cell_of_heap hnew]
              exact this)
            rw [← he1, ← hty, set_same hSk] at wr tr
            exact ⟨_, _, M, J, rfl, .iv _ (.str _), wr, tr⟩
          | _ => simp at hs1
      · simp at h
    | _ => simp at hs0

/-! ### internal/bytealg.MakeNoZero -/

/-- U: the number of the type byte. New bytes of which nothing is known: a row that may grow, of which nothing is taken yet. -/
def primMake (U : Nat) : Prim := fun xs S => match xs with
  | [.iv (.int .i64 n)] => if 0 < n ∧ n ≤ 1099511627776 then some (.rsv S.length [] n.toNat, S ++ [.tok 0 1 U]) else none
  | _ => none

theorem primMake_ok {f U tr : Nat} {fn : Func} (hf : P.funcs[f]? = some fn) (hname : (fn.name == "runtime.NumGoroutine") = false) (hb : fn.body.isNone = true) (hn : Extern.findNext fn = none)
    (he : Extern.find fn = some (Extern.BytealgMakeNoZero.makeNoZero fn.params #[tr])) (ht : P.underlying tr = some (.slice U)) : PrimOK P O K f (primMake U) := by
  intro args S v S' h M J w vals hv hw hg
  unfold primMake at h
  split at h
  case h_2 => simp at h
  rename_i n
  split at h
  case isFalse => simp at h
  rename_i hn0
  simp only [Option.some.injEq, Prod.mk.injEq] at h
  obtain ⟨rfl, rfl⟩ := h
  obtain ⟨x, vals, rfl, hx, hv⟩ := hv.cons_inv
  obtain rfl := hv.nil_inv
  rw [hx.int_inv]
  have hnn : (n.toNat : Int) = n := by omega
  obtain ⟨cs, hrun, hle, _⟩ := Lib.run_makeNoZero (P := P) w fn.params tr U ht n.toNat (by omega)
  rw [hnn] at hrun
  have ms : MS P O K M J [] S [] w := ⟨hw, ⟨rfl, fun j cs h => by simp at h, fun j k cs cs' cb h => by simp at h⟩, hg⟩
  obtain ⟨ms1, td1⟩ := ms.drew
  obtain ⟨ms2, td2⟩ := ms1.drew
  obtain ⟨M', J', p1, p2, p3⟩ := push_tok ms2 (l := []) (es := 1) (cap := cs.size) (cs := cs) U (by omega) (by simp) (by simp) (by simp) (by intro k a hk; simp [flat] at hk)
  refine .inr ⟨.slice (some ⟨w.heap.size, 0, none⟩) n.toNat cs.size, w.drew.drew.alloc (.cells cs U), M', J', ?_, ?_, p1.wr, (td1.trans td2 (fun _ hf => .inl hf)).trans (p2.weaken (own' := fun _ => False) (fun b hb => ?_)) (fun _ hf => .inl hf)⟩
  · rw [run_callFunc_extern hf hname hb hn he, hrun]
    rfl
  · cases p3 with
    | tsl L i es loc b o c hJ hlo hv ha hrr =>
      have key : VR M' J' [] (.rsv S.length [] n.toNat) (.slice (some ⟨w.heap.size, 0, none⟩) (([] : List (List IV)).length + n.toNat) cs.size) :=
        .rsv _ _ _ _ loc _ _ _ hJ hlo hv ha (by show 0 + n.toNat ≤ cs.size; rw [Nat.zero_add]; exact hle) hrr
      rw [show ([] : List (List IV)).length + n.toNat = n.toNat from Nat.zero_add _] at key
      exact key
  · simp [ownOf] at hb

/-! ### A table of primitives -/

def primAt : List (Nat × Prim) → Nat → Option Prim
  | [], _ => none
  | (k, p) :: r, f => if k == f then some p else primAt r f

theorem primAt_ok {l : List (Nat × Prim)} (h : ∀ x ∈ l, PrimOK P O K x.1 x.2) {f : Nat} {p : Prim} (hf : primAt l f = some p) : PrimOK P O K f p := by
  induction l with
  | nil => simp [primAt] at hf
  | cons x r ih =>
    obtain ⟨k, q⟩ := x
    unfold primAt at hf
    split at hf
    · rename_i hk
      simp only [beq_iff_eq] at hk
      simp only [Option.some.injEq] at hf
      subst hk hf
      exact h (k, q) (by simp)
    · exact ih (fun x hx => h x (by simp [hx])) hf

end Go.TM
