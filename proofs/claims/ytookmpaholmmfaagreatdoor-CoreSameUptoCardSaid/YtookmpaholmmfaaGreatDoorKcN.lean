/- The document's Codes, number and May: they answer. Condition: none. -/
import Derived.Test.YtookmpaholmmfaaGreatDoorKcM
set_option maxRecDepth 100000
set_option maxHeartbeats 8000000
set_option linter.unusedSimpArgs false
set_option linter.unusedVariables false
namespace Go.Proofs.YtookmpaholmmfaaGreatDoor
open Go Go.TM
theorem call51 (s : List UInt8) (hl : s.length ≤ 1048576) : ∃ (w : IV) (e : Int), Pure K 51 [.iv (.str s)] (.tup [.iv w, .iv (.int .i64 e)]) := by
  rcases call91 .no s (by intro h; cases h) hl with ⟨d, hd, h⟩ | ⟨p, h⟩
  · obtain ⟨y6, y8, d', S', rfl, e⟩ := loop51 (.iv (.str s)) (.iv (.sl .nil [])) i0 i0 (.iv (.bool false)) (sTag d) d (by omega) d.length 0 [] (.tup []) (by omega) (by simp)
    rw [show ((0 : Nat) : Int) = 0 from rfl, show one (IV.int .i64) [] = [] from rfl, acc_nil, accS_nil] at e
    refine ⟨.sl (sTag (one (.int .i64) d')) (one (.int .i64) d'), 0, call_pure t51 rfl rfl ?_⟩
    · simp (config := { maxSteps := 4000000 }) (disch := omega) only [t51, go_sem, TM.undef, cpR_pure h]
      rw [e]
      simp (config := { maxSteps := 4000000 }) (disch := omega) only [go_sem]
  · refine ⟨.sl .nil [], 4, call_pure t51 rfl rfl ?_⟩
    simp (config := { maxSteps := 4000000 }) (disch := omega) only [t51, go_sem, TM.undef, cpR_pure h]
theorem loop52 (s : List UInt8) (hl : s.length ≤ 1048576) (x3 x4 x5 : TV) : ∀ (k i : Nat) (x6 x7 : TV), i + k = s.length →
    ∃ j y2 y6 y7, (j = .ret ∨ j = .exit 0) ∧ lp' (lim K) t52L0 [.iv (.str s), .iv (.bool false), .iv (.int .i64 (i : Int)), x3, x4, x5, x6, x7] [] = .ret (j, [.iv (.str s), .iv (.bool false), y2, x3, x4, x5, y6, y7], [])
  | 0, i, x6, x7, h => by
    refine ⟨.exit 0, ?_, ?_, ?_, .inr rfl, loop_at K _ _ t52L0.eq_1 ?_⟩
    rotate_left 3
    · simp (config := { maxSteps := 4000000 }) (disch := omega) only [go_sem]
      rfl
  | k + 1, i, x6, x7, h => by
    obtain ⟨j, y2, y6, y7, hj, ih⟩ := loop52 s hl x3 x4 x5 k (i + 1) (.iv (.bool true)) (.iv (.bool false)) (by omega)
    rw [show ((i + 1 : Nat) : Int) = (i : Int) + 1 by omega] at ih
    have hb := bl (s.getD i 0)
    have hg : s[i]? = some (s.getD i 0) := by
      rw [List.getD_eq_getElem?_getD, List.getElem?_eq_getElem (show i < s.length by omega)]; rfl
    generalize s.getD i 0 = c at *
    by_cases h1 : c.toNat < 48
    · refine ⟨.ret, ?_, ?_, ?_, .inl rfl, loop_at K _ _ t52L0.eq_1 ?_⟩
      rotate_left 3
      · simp (config := { maxSteps := 4000000 }) (disch := omega) only [go_sem, Int.toNat_natCast, hg, Option.map_some, h1]
        rfl
    · by_cases h2 : 57 < c.toNat
      · refine ⟨.ret, ?_, ?_, ?_, .inl rfl, loop_at K _ _ t52L0.eq_1 ?_⟩
        rotate_left 3
        · simp (config := { maxSteps := 4000000 }) (disch := omega) only [go_sem, Int.toNat_natCast, hg, Option.map_some, h1, h2]
          rfl
      · refine ⟨j, y2, y6, y7, hj, loop_at K _ _ t52L0.eq_1 ?_⟩
        simp (config := { maxSteps := 4000000 }) (disch := omega) only [go_sem, Int.toNat_natCast, hg, Option.map_some, h1, h2, wrap_i64]
        exact congrArg er ih
end Go.Proofs.YtookmpaholmmfaaGreatDoor
