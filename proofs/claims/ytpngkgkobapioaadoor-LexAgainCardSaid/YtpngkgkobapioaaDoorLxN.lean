/- LexBetween: what stands behind a blank makes no difference. Condition: none. -/
import Derived.Test.YtpngkgkobapioaaDoorLxL
set_option maxRecDepth 100000
set_option maxHeartbeats 8000000
set_option linter.unusedSimpArgs false
set_option linter.unusedVariables false
namespace Go.Proofs.YtpngkgkobapioaaDoor
open Go Go.TM
theorem split_good {l : List UInt8} (h : bad l = false) : l = bytesR ((D l).1 : Nat) ++ l.drop (D l).2 ∧ isC ((D l).1 : Nat) = true ∧ (bytesR ((D l).1 : Nat)).length = (D l).2 := by
  obtain ⟨h1, h2, h3, h4⟩ := D_good h
  refine ⟨?_, h1, ?_⟩
  · rw [h2, List.take_append_drop]
  · rw [h2, List.length_take, Nat.min_eq_left h4]
end Go.Proofs.YtpngkgkobapioaaDoor
