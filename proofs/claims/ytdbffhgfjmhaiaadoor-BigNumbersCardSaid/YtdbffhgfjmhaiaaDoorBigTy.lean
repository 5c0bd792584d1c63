/- What is read as a big.Int. Condition: none. -/
import Derived.Test.YtdbffhgfjmhaiaaDoorBigN
import Derived.Test.YtdbffhgfjmhaiaaDoorTmE
set_option maxRecDepth 100000
set_option linter.unusedSimpArgs false
set_option linter.unusedVariables false
namespace Go.Proofs.YtdbffhgfjmhaiaaDoor
open Go Go.TM
variable {H : Type}
theorem ty_big {d : DataW H} {l : List IV} (h : Ty Tryd.prog 25 d l) : ∃ (n : Bool) (t : Tag) (L : List (List IV)) (z : Int), l = [.bool n, .sl t L] ∧ Nm n t L z 9223372036854775807 := by
  obtain ⟨ds, ls, rfl, h1⟩ := ty_struct Tryd.underlying25 h
  obtain ⟨d0, l0, ds0, ls0, rfl, k0, h1⟩ := allTy_cons h1
  obtain ⟨d1, l1, ds1, ls1, rfl, k1, h1⟩ := allTy_cons h1
  obtain rfl := allTy_nil h1
  obtain ⟨n, rfl⟩ := ty_bool Tryd.underlying4 k0
  obtain ⟨t, a, rfl, g1, g2, g3⟩ := ty_ints Tryd.underlying23 Tryd.underlying55 k1
  refine ⟨n, t, _, _, rfl, a, rfl, g1, ?_, g3, rfl⟩
  intro x hx
  have := g2 x hx
  simp [IntKind.min, IntKind.max, IntKind.signed, IntKind.bits] at this
  omega
theorem arg25 (l : List IV) : argOf Tryd.prog 25 l = .iv (.agg l) := argOf_agg (by rw [Tryd.underlying25])
end Go.Proofs.YtdbffhgfjmhaiaaDoor
