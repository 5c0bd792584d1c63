/- The document's Same, of programs. Condition: none. -/
import Derived.Test.YtookmpaholmmfaaGreatDoorKcI
set_option maxRecDepth 100000
set_option maxHeartbeats 8000000
set_option linter.unusedSimpArgs false
set_option linter.unusedVariables false
namespace Go.Proofs.YtookmpaholmmfaaGreatDoor
open Go Go.TM
theorem loop20 (p q : Pg) (hl : p.cs.length = q.cs.length) (hw : p.cs.length ≤ 1048576) (H : ∀ x ∈ p.cs, ∀ y ∈ q.cs, Pure K 57 [agD x, agD y] (.iv (.bool (same x y)))) (x0 x1 x6 : TV) (S : Store) : ∀ (k i : Nat) (x7 x8 : TV), i + k = p.cs.length →
    ∃ j i' x7' x8', (j = .ret ∧ sames (p.cs.drop i) (q.cs.drop i) = false ∨ j = .exit 0 ∧ sames (p.cs.drop i) (q.cs.drop i) = true) ∧
      lp' (lim K) t20L0 [x0, x1, lbP p, lbP q, .iv (.bool false), .iv (.int .i64 (i : Int)), x6, x7, x8] S = .ret (j, [x0, x1, lbP p, lbP q, .iv (.bool false), i', x6, x7', x8'], S)
  | 0, i, x7, x8, h => by
    have c1 : ¬ ((i : Int) < p.cs.length) := by omega
    refine ⟨.exit 0, ?_, ?_, ?_, .inr ⟨rfl, ?_⟩, loop_at K _ _ t20L0.eq_1 ?_⟩
    rotate_left 4
    · simp (config := { maxSteps := 4000000 }) (disch := omega) only [go_sem, encDs_len, c1]
      rfl
    · rw [List.drop_eq_nil_of_le (by omega), List.drop_eq_nil_of_le (by omega), sames]
  | k + 1, i, x7, x8, h => by
    have c1 : (i : Int) < p.cs.length := by omega
    have hla : i < p.cs.length := by omega
    have hlb : i < q.cs.length := by omega
    have hix := ixD (g := p.gc) (ks := p.cs) (i := (i : Int)) (by omega)
    have hiy := ixD (g := q.gc) (ks := q.cs) (i := (i : Int)) (by omega)
    rw [Int.toNat_natCast] at hix hiy
    have hc := H _ (get_mem hla) _ (get_mem hlb)
    rw [drop_get hla, drop_get hlb, sames]
    generalize hx : p.cs.getD i default = x at *
    generalize hy : q.cs.getD i default = y at *
    by_cases hv : same x y = true
    · obtain ⟨j, i', x7', x8', hj, ih⟩ := loop20 p q hl hw H x0 x1 x6 S k (i + 1) (.iv (.bool true)) (.iv (.bool false)) (by omega)
      rw [show ((i + 1 : Nat) : Int) = (i : Int) + 1 by omega] at ih
      rw [hv] at hc
      refine ⟨j, i', x7', x8', (by rw [hv, Bool.true_and]; exact hj), loop_at K _ _ t20L0.eq_1 ?_⟩
      simp (config := { maxSteps := 4000000 }) (disch := omega) only [go_sem, encDs_len, c1, hix, hiy, getD5, cpR_pure hc, wrap_i64]
      exact congrArg er ih
    · rw [Bool.not_eq_true] at hv
      rw [hv] at hc
      refine ⟨.ret, ?_, ?_, ?_, .inl ⟨rfl, (by rw [hv, Bool.false_and])⟩, loop_at K _ _ t20L0.eq_1 ?_⟩
      rotate_left 3
      · simp (config := { maxSteps := 4000000 }) (disch := omega) only [go_sem, encDs_len, c1, hix, hiy, getD5, cpR_pure hc, wrap_i64]
        rfl
theorem call20 (p q : Pg) (hp : p.w ≤ 1048576) (hq : q.w ≤ 1048576) (S : Store) : (lim K).call 20 [.iv (.agg (encP p)), .iv (.agg (encP q))] S = .ret (.iv (.bool (samP p q)), S) := by
  refine call_ret' K _ (fn := t20) rfl rfl ?_
  have hpw : p.b.w + Dt.ws p.cs ≤ 1048576 := hp
  have hqw : q.b.w + Dt.ws q.cs ≤ 1048576 := hq
  have la := Dt.ws_len p.cs
  have lb := Dt.ws_len q.cs
  have hb := call58 1048576 p.b q.b S (by omega) (by omega) (by omega)
  unfold samP encP
  by_cases c1 : p.gl = q.gl
  · by_cases c2 : p.vr = q.vr
    · by_cases c3 : p.cs.length = q.cs.length
      · have c3' : (p.cs.length : Int) = q.cs.length := by omega
        obtain ⟨j, i', x7', x8', hj, ih⟩ := loop20 p q c3 (by omega) (fun x hx y hy => call57 1048576 (by omega) 1048576 x y (by have := Dt.ws_mem hx; omega) (by omega) (by have := Dt.ws_mem hy; omega)) (.iv (.agg (encP p))) (.iv (.agg (encP q))) (.iv (.bool false)) S p.cs.length 0 (.tup []) (.tup []) (by omega)
        rw [show ((0 : Nat) : Int) = 0 from rfl] at ih
        rw [List.drop_zero, List.drop_zero] at hj
        simp only [encP] at ih
        simp (config := { maxSteps := 4000000 }) (disch := omega) only [t20, go_sem, TM.undef, encDs_len]
        rw [ih]
        rcases hj with ⟨rfl, hs⟩ | ⟨rfl, hs⟩
        · simp (config := { maxSteps := 4000000 }) (disch := omega) only [go_sem, hs, Bool.false_and, Bool.and_false]
        · simp (config := { maxSteps := 4000000 }) (disch := omega) only [go_sem, hs, hb, Bool.true_and, Bool.and_self]
      · rw [sames_len c3, Bool.and_false, Bool.false_and]
        simp (config := { maxSteps := 4000000 }) (disch := omega) only [t20, go_sem, TM.undef, encDs_len]
    · rw [decide_eq_false c2, Bool.and_false, Bool.false_and, Bool.false_and]
      simp (config := { maxSteps := 4000000 }) (disch := omega) only [t20, go_sem, TM.undef]
  · rw [decide_eq_false c1, Bool.false_and, Bool.false_and, Bool.false_and]
    simp (config := { maxSteps := 4000000 }) (disch := omega) only [t20, go_sem, TM.undef]
/-! ### The same is the same -/
mutual
theorem same_refl : ∀ d : Dt, same d d = true
  | .mk k n t g ks p => by rw [same, sames_refl ks]; simp
theorem sames_refl : ∀ l : List Dt, sames l l = true
  | [] => by rw [sames]
  | d :: ds => by rw [sames, same_refl d, sames_refl ds]; rfl
end
mutual
theorem eqE_refl : ∀ d : Ex, eqE d d = true
  | .mk k n gv vs r g ks => by rw [eqE, eqEs_refl ks]; simp
theorem eqEs_refl : ∀ l : List Ex, eqEs l l = true
  | [] => by rw [eqEs]
  | d :: ds => by rw [eqEs, eqE_refl d, eqEs_refl ds]; rfl
end
theorem samP_refl (p : Pg) : samP p p = true := by unfold samP; rw [sames_refl, eqE_refl]; simp
end Go.Proofs.YtookmpaholmmfaaGreatDoor
