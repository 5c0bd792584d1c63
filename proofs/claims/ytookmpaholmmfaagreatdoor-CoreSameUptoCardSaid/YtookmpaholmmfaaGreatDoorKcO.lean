/- The document's number: it answers. Condition: none. -/
import Derived.Test.YtookmpaholmmfaaGreatDoorKcN
set_option maxRecDepth 100000
set_option maxHeartbeats 8000000
set_option linter.unusedSimpArgs false
set_option linter.unusedVariables false
namespace Go.Proofs.YtookmpaholmmfaaGreatDoor
open Go Go.TM
theorem call52 (s : List UInt8) (hl : s.length ≤ 1048576) : ∃ b, (lim K).call 52 [.iv (.str s)] [] = .ret (.iv (.bool b), []) := by
  cases s with
  | nil =>
    have e1 : (([] : List UInt8) == [48]) = false := rfl
    refine ⟨false, call_ret' K [] (fn := t52) rfl rfl ?_⟩
    simp (config := { maxSteps := 4000000 }) (disch := omega) only [t52, go_sem, TM.undef, e1, List.length_nil]
  | cons a r =>
    simp only [List.length_cons] at hl
    have hg0 : ∀ (x : UInt8) (l : List UInt8), (x :: l)[0]? = some x := fun _ _ => rfl
    by_cases e0 : a :: r = [48]
    · refine ⟨true, call_ret' K [] (fn := t52) rfl rfl ?_⟩
      rw [e0]
      simp (config := { maxSteps := 4000000 }) (disch := omega) only [t52, go_sem, TM.undef]
    · have e1 : (a :: r == [48]) = false := by rw [beq_eq_false_iff_ne]; exact e0
      by_cases h45 : a.toNat = 45
      · have hsl : sliceOp [] .str (.iv (.str (a :: r))) (some 1) none none = some (.iv (.str r)) := by
          have hb : bounds (r.length + 1) (r.length + 1) (some 1) none none = some (1, r.length + 1, r.length + 1) := by
            have b1 : bound none (r.length + 1) (r.length + 1) = some (r.length + 1) := by simp [bound]
            have b2 : bound (some 1) 0 (r.length + 1) = some 1 := by simp [bound]; try omega
            simp [bounds, b1, b2]
          simp [sliceOp, hb]
        cases r with
        | nil =>
          refine ⟨false, call_ret' K [] (fn := t52) rfl rfl ?_⟩
          simp (config := { maxSteps := 4000000 }) (disch := omega) only [t52, go_sem, TM.undef, e1, hg0, Option.map_some, h45, hsl, List.length_cons, List.length_nil]
        | cons c r' =>
          simp only [List.length_cons] at hl
          by_cases h48 : c.toNat = 48
          · refine ⟨false, call_ret' K [] (fn := t52) rfl rfl ?_⟩
            simp (config := { maxSteps := 4000000 }) (disch := omega) only [t52, go_sem, TM.undef, e1, hg0, Option.map_some, h45, h48, hsl, List.length_cons]
          · obtain ⟨j, y2, y6, y7, hj, ih⟩ := loop52 (c :: r') (by simp only [List.length_cons]; omega) (.iv (.bool false)) (.iv (.bool true)) (.iv (.bool false)) (c :: r').length 0 (.tup []) (.tup []) (by omega)
            rw [show ((0 : Nat) : Int) = 0 from rfl] at ih
            rcases hj with rfl | rfl
            · refine ⟨false, call_ret' K [] (fn := t52) rfl rfl ?_⟩
              simp (config := { maxSteps := 4000000 }) (disch := omega) only [t52, go_sem, TM.undef, e1, hg0, Option.map_some, h45, h48, hsl, List.length_cons]
              rw [ih]
              simp (config := { maxSteps := 4000000 }) (disch := omega) only [go_sem]
            · refine ⟨true, call_ret' K [] (fn := t52) rfl rfl ?_⟩
              simp (config := { maxSteps := 4000000 }) (disch := omega) only [t52, go_sem, TM.undef, e1, hg0, Option.map_some, h45, h48, hsl, List.length_cons]
              rw [ih]
              simp (config := { maxSteps := 4000000 }) (disch := omega) only [go_sem]
      · by_cases h48 : a.toNat = 48
        · refine ⟨false, call_ret' K [] (fn := t52) rfl rfl ?_⟩
          simp (config := { maxSteps := 4000000 }) (disch := omega) only [t52, go_sem, TM.undef, e1, hg0, Option.map_some, h45, h48, List.length_cons]
        · obtain ⟨j, y2, y6, y7, hj, ih⟩ := loop52 (a :: r) (by simp only [List.length_cons]; omega) (.iv (.bool false)) (.iv (.bool false)) (.iv (.bool false)) (a :: r).length 0 (.tup []) (.tup []) (by omega)
          rw [show ((0 : Nat) : Int) = 0 from rfl] at ih
          rcases hj with rfl | rfl
          · refine ⟨false, call_ret' K [] (fn := t52) rfl rfl ?_⟩
            simp (config := { maxSteps := 4000000 }) (disch := omega) only [t52, go_sem, TM.undef, e1, hg0, Option.map_some, h45, h48, List.length_cons]
            rw [ih]
            simp (config := { maxSteps := 4000000 }) (disch := omega) only [go_sem]
          · refine ⟨true, call_ret' K [] (fn := t52) rfl rfl ?_⟩
            simp (config := { maxSteps := 4000000 }) (disch := omega) only [t52, go_sem, TM.undef, e1, hg0, Option.map_some, h45, h48, List.length_cons]
            rw [ih]
            simp (config := { maxSteps := 4000000 }) (disch := omega) only [go_sem]
end Go.Proofs.YtookmpaholmmfaaGreatDoor
