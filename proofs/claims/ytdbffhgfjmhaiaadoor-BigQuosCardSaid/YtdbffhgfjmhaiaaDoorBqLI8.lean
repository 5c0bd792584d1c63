/- BigQuos: whatever is read. Condition: none. -/
import Derived.Test.YtdbffhgfjmhaiaaDoorBqT
import Derived.Test.YtdbffhgfjmhaiaaDoorBqTy
set_option maxRecDepth 100000
set_option linter.unusedSimpArgs false
set_option linter.unusedVariables false
namespace Go.Proofs.YtdbffhgfjmhaiaaDoor
open Go Go.TM
variable {H : Type}
theorem inv8 {ds : List (DataW H)} {ls : List (List IV)} (hh0 : AllTy Tryd.prog [25, 25] ds ls) : ((lim K).call 8 (argsOf Tryd.prog [25, 25] ls) []).All fun r => r.1 = .iv (.bool true) := by
  obtain ⟨d0, l0, ds0, ls0, rfl, h0, hh1⟩ := allTy_cons hh0
  obtain ⟨d1, l1, ds1, ls1, rfl, h1, hh2⟩ := allTy_cons hh1
  obtain ⟨n1, t1, a, rfl, k1, da, la⟩ := ty_big h0
  obtain ⟨n2, t2, b, rfl, k2, db, lb⟩ := ty_big h1
  rw [allTy_nil hh2]
  simp only [argsOf, arg25]
  exact law8 k1 k2 n1 n2 da db la lb
end Go.Proofs.YtdbffhgfjmhaiaaDoor
