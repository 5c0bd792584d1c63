/- The document's May: its loops. Condition: none. -/
import Derived.Test.YtookmpaholmmfaaGreatDoorKcO
set_option maxRecDepth 100000
set_option maxHeartbeats 8000000
set_option linter.unusedSimpArgs false
set_option linter.unusedVariables false
namespace Go.Proofs.YtookmpaholmmfaaGreatDoor
open Go Go.TM
theorem loop18a (g : Tag) (l : List Dt) (hw : l.length ≤ 1048576) (H : ∀ x ∈ l, ∃ b, Pure K 18 [agD x] (.iv (.bool b))) (x0 x1 x4 x6 x7 x10 x11 x12 x13 x14 x15 x16 x17 x18 x19 : TV) (S : Store) : ∀ (k i : Nat) (x8 x9 : TV), i + k = l.length →
    ∃ j y5 y8 y9, (j = .ret ∨ j = .exit 0) ∧
      lp' (lim K) t18L1 [x0, x1, .iv (.bool false), .iv (.sl g (encDs l)), x4, .iv (.int .i64 (i : Int)), x6, x7, x8, x9, x10, x11, x12, x13, x14, x15, x16, x17, x18, x19] S = .ret (j, [x0, x1, .iv (.bool false), .iv (.sl g (encDs l)), x4, y5, x6, x7, y8, y9, x10, x11, x12, x13, x14, x15, x16, x17, x18, x19], S)
  | 0, i, x8, x9, h => by
    refine ⟨.exit 0, ?_, ?_, ?_, .inr rfl, loop_at K _ _ t18L1.eq_1 ?_⟩
    rotate_left 3
    · simp (config := { maxSteps := 4000000 }) (disch := omega) only [go_sem, encDs_len]
      rfl
  | k + 1, i, x8, x9, h => by
    have hla : i < l.length := by omega
    have hix := ixD (g := g) (ks := l) (i := (i : Int)) (by omega)
    rw [Int.toNat_natCast] at hix
    obtain ⟨b, hc⟩ := H _ (get_mem hla)
    generalize hx : l.getD i default = x at *
    cases b with
    | true =>
      obtain ⟨j, y5, y8, y9, hj, ih⟩ := loop18a g l hw H x0 x1 x4 x6 x7 x10 x11 x12 x13 x14 x15 x16 x17 x18 x19 S k (i + 1) (.iv (.bool true)) (.iv (.bool false)) (by omega)
      rw [show ((i + 1 : Nat) : Int) = (i : Int) + 1 by omega] at ih
      refine ⟨j, y5, y8, y9, hj, loop_at K _ _ t18L1.eq_1 ?_⟩
      simp (config := { maxSteps := 4000000 }) (disch := omega) only [go_sem, encDs_len, hix, getD5, cpR_pure hc, wrap_i64]
      exact congrArg er ih
    | false =>
      refine ⟨.ret, ?_, ?_, ?_, .inl rfl, loop_at K _ _ t18L1.eq_1 ?_⟩
      rotate_left 3
      · simp (config := { maxSteps := 4000000 }) (disch := omega) only [go_sem, encDs_len, hix, getD5, cpR_pure hc, wrap_i64]
        rfl
theorem loop18b (d : Dt) (hw : d.ks.length ≤ 1048576) (H : ∀ x ∈ d.ks, ∃ b, Pure K 18 [agD x] (.iv (.bool b))) (x0 x1 x3 x5 x7 x8 x9 x10 x13 x14 x15 x16 x17 x18 x19 : TV) (S : Store) : ∀ (k i : Nat) (x11 x12 : TV), i + k = d.ks.length →
    ∃ j y6 y11 y12, (j = .ret ∨ j = .exit 2) ∧
      lp' (lim K) t18L0 [x0, x1, .iv (.bool false), x3, lbD d, x5, .iv (.int .i64 (i : Int)), x7, x8, x9, x10, x11, x12, x13, x14, x15, x16, x17, x18, x19] S = .ret (j, [x0, x1, .iv (.bool false), x3, lbD d, x5, y6, x7, x8, x9, x10, y11, y12, x13, x14, x15, x16, x17, x18, x19], S)
  | 0, i, x11, x12, h => by
    refine ⟨.exit 2, ?_, ?_, ?_, .inr rfl, loop_at K _ _ t18L0.eq_1 ?_⟩
    rotate_left 3
    · simp (config := { maxSteps := 4000000 }) (disch := omega) only [go_sem, encDs_len]
      rfl
  | k + 1, i, x11, x12, h => by
    have hla : i < d.ks.length := by omega
    have hix := ixD (g := d.g) (ks := d.ks) (i := (i : Int)) (by omega)
    rw [Int.toNat_natCast] at hix
    obtain ⟨b, hc⟩ := H _ (get_mem hla)
    generalize hx : d.ks.getD i default = x at *
    cases b with
    | true =>
      obtain ⟨j, y6, y11, y12, hj, ih⟩ := loop18b d hw H x0 x1 x3 x5 x7 x8 x9 x10 x13 x14 x15 x16 x17 x18 x19 S k (i + 1) (.iv (.bool true)) (.iv (.bool false)) (by omega)
      rw [show ((i + 1 : Nat) : Int) = (i : Int) + 1 by omega] at ih
      refine ⟨j, y6, y11, y12, hj, loop_at K _ _ t18L0.eq_1 ?_⟩
      simp (config := { maxSteps := 4000000 }) (disch := omega) only [go_sem, encDs_len, hix, getD5, cpR_pure hc, wrap_i64]
      exact congrArg er ih
    | false =>
      refine ⟨.ret, ?_, ?_, ?_, .inl rfl, loop_at K _ _ t18L0.eq_1 ?_⟩
      rotate_left 3
      · simp (config := { maxSteps := 4000000 }) (disch := omega) only [go_sem, encDs_len, hix, getD5, cpR_pure hc, wrap_i64]
        rfl
end Go.Proofs.YtookmpaholmmfaaGreatDoor
