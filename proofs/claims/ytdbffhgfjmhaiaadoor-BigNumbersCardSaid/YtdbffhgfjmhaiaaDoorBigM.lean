/- The contract of big.Mul. Condition: none. -/
import Derived.Test.YtdbffhgfjmhaiaaDoorBigK4
set_option maxRecDepth 100000
set_option linter.unusedSimpArgs false
set_option linter.unusedVariables false
namespace Go.Proofs.YtdbffhgfjmhaiaaDoor
open Go Go.TM
theorem Dig.set {B : Int} {l : List Int} (hd : Dig B l) (p : Nat) {v : Int} (hv : 0 ≤ v ∧ v < B) : Dig B (l.set p v) := fun x hx => by
  rcases List.mem_or_eq_of_mem_set hx with h | rfl
  · exact hd _ h
  · exact hv
theorem Dig.rep0 {B : Int} (hB : 0 < B) (n : Nat) : Dig B (List.replicate n 0) := fun x hx => by
  rw [List.eq_of_mem_replicate hx]; exact ⟨Int.le_refl _, hB⟩
end Go.Proofs.YtdbffhgfjmhaiaaDoor
