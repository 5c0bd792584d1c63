/- The document's Get and All: they answer. Condition: none. -/
import Derived.Test.YtookmpaholmmfaaGreatDoorKcK
set_option maxRecDepth 100000
set_option maxHeartbeats 8000000
set_option linter.unusedSimpArgs false
set_option linter.unusedVariables false
namespace Go.Proofs.YtookmpaholmmfaaGreatDoor
open Go Go.TM
abbrev i0 : TV := .iv (.int .i64 0)
theorem loop125 (t : Tag) (l : List UInt8) (i : Int) (ht : TagOk t l) (hi : 0 ≤ i ∧ i < l.length) (hl : l.length ≤ 1048576) (a : TV) : ∀ (k : Nat) (n : Int) (x6 x8 x9 : TV), n + k = 5 → 1 ≤ n →
    ∃ j z2 z3 z4 y5 y6 y8 y9, (j = .exit 0 ∧ z2 = i0 ∧ z3 = i0 ∧ z4 = i0 ∨ j = .ret ∧ ∃ c m, z2 = .iv (.int .i64 c) ∧ z3 = .iv (.int .i64 m) ∧ z4 = i0 ∧ 1 ≤ m ∧ i + m ≤ l.length) ∧
      lp' (lim K) t125L0 [.iv (.sl t (bytesIV l)), .iv (.int .i64 i), i0, i0, i0, .iv (.int .i64 n), x6, a, x8, x9] [] = .ret (j, [.iv (.sl t (bytesIV l)), .iv (.int .i64 i), z2, z3, z4, y5, y6, a, y8, y9], [])
  | 0, n, x6, x8, x9, hk, hn => by
    refine ⟨.exit 0, _, _, _, ?_, ?_, ?_, ?_, .inl ⟨rfl, rfl, rfl, rfl⟩, loop_at K _ _ t125L0.eq_1 ?_⟩
    rotate_left 4
    · simp (config := { maxSteps := 4000000 }) (disch := omega) only [go_sem]
      rfl
  | k + 1, n, x6, x8, x9, hk, hn => by
    by_cases hlen : i + n ≤ l.length
    · have hs : (l.drop i.toNat).length = l.length - i.toNat := List.length_drop
      have e1 : (i + n).toNat - i.toNat = n.toNat := by omega
      have hsl : sliceOp [] (.sl 1) (.iv (.sl t (bytesIV l))) (some i) (some (i + n)) none = some (.iv (.sl (cutTag t l.length (i + n).toNat) (bytesIV ((l.drop i.toNat).take n.toNat)))) := by
        rw [slice_bytes [] ht (by omega), e1]
      have h27 := fun tg => call157 tg ((l.drop i.toNat).take n.toNat) (by rw [List.length_take, hs]; omega)
      have ih0 := loop125 t l i ht hi hl a k
      generalize (l.drop i.toNat).take n.toNat = s at *
      cases hc : isC (toldR s)
      · obtain ⟨j, z2, z3, z4, y5, y6, y8, y9, hj, ih⟩ := ih0 (n + 1) (.iv (.int .i64 (toldR s))) (.iv (.bool true)) (.iv (.bool false)) (by omega) (by omega)
        refine ⟨j, z2, z3, z4, y5, y6, y8, y9, hj, loop_at K _ _ t125L0.eq_1 ?_⟩
        simp (config := { maxSteps := 4000000 }) (disch := omega) only [go_sem, wrap_i64, hsl, h27, call53, hc]
        exact congrArg er ih
      · cases he : bytesR (toldR s) == s
        · obtain ⟨j, z2, z3, z4, y5, y6, y8, y9, hj, ih⟩ := ih0 (n + 1) (.iv (.int .i64 (toldR s))) (.iv (.bool true)) (.iv (.bool false)) (by omega) (by omega)
          refine ⟨j, z2, z3, z4, y5, y6, y8, y9, hj, loop_at K _ _ t125L0.eq_1 ?_⟩
          simp (config := { maxSteps := 4000000 }) (disch := omega) only [go_sem, wrap_i64, hsl, h27, call53, hc, call158 _ hc, he]
          exact congrArg er ih
        · refine ⟨.ret, .iv (.int .i64 (toldR s)), .iv (.int .i64 n), i0, ?_, ?_, ?_, ?_, .inr ⟨rfl, _, _, rfl, rfl, rfl, hn, hlen⟩, loop_at K _ _ t125L0.eq_1 ?_⟩
          rotate_left 4
          · simp (config := { maxSteps := 4000000 }) (disch := omega) only [go_sem, wrap_i64, hsl, h27, call53, hc, call158 _ hc, he]
            rfl
    · refine ⟨.exit 0, _, _, _, ?_, ?_, ?_, ?_, .inl ⟨rfl, rfl, rfl, rfl⟩, loop_at K _ _ t125L0.eq_1 ?_⟩
      rotate_left 4
      · simp (config := { maxSteps := 4000000 }) (disch := omega) only [go_sem, wrap_i64]
        rfl
theorem call125 (t : Tag) (l : List UInt8) (i : Int) (ht : TagOk t l) (hi : 0 ≤ i ∧ i < l.length) (hl : l.length ≤ 1048576) : ∃ c m e, (e = 4 ∨ e = 0 ∧ 1 ≤ m ∧ i + m ≤ l.length) ∧ (lim K).call 125 [.iv (.sl t (bytesIV l)), .iv (.int .i64 i)] [] = .ret (.tup [.iv (.int .i64 c), .iv (.int .i64 m), .iv (.int .i64 e)], []) := by
  obtain ⟨j, z2, z3, z4, y5, y6, y8, y9, hj, h⟩ := loop125 t l i ht hi hl (.iv (.bool false)) 4 1 (.tup []) (.tup []) (.tup []) (by omega) (by omega)
  rcases hj with ⟨rfl, rfl, rfl, rfl⟩ | ⟨rfl, c, m, rfl, rfl, rfl, h1, h2⟩
  · refine ⟨0, 0, 4, .inl rfl, call_ret' K [] (fn := t125) rfl rfl ?_⟩
    simp (config := { maxSteps := 4000000 }) (disch := omega) only [t125, go_sem, TM.undef]
    rw [h]
    simp (config := { maxSteps := 4000000 }) (disch := omega) only [go_sem]
  · refine ⟨c, m, 0, .inr ⟨rfl, h1, h2⟩, call_ret' K [] (fn := t125) rfl rfl ?_⟩
    simp (config := { maxSteps := 4000000 }) (disch := omega) only [t125, go_sem, TM.undef]
    rw [h]
    simp (config := { maxSteps := 4000000 }) (disch := omega) only [go_sem]
end Go.Proofs.YtookmpaholmmfaaGreatDoor
