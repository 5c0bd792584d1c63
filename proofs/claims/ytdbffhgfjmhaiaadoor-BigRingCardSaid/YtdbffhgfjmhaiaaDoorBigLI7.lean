/- BigRing: whatever is read. Condition: none. -/
import Derived.Test.YtdbffhgfjmhaiaaDoorBigL2
import Derived.Test.YtdbffhgfjmhaiaaDoorBigTy
set_option maxRecDepth 100000
set_option linter.unusedSimpArgs false
set_option linter.unusedVariables false
namespace Go.Proofs.YtdbffhgfjmhaiaaDoor
open Go Go.TM
variable {H : Type}
theorem inv7 {ds : List (DataW H)} {ls : List (List IV)} (hh0 : AllTy Tryd.prog [25, 25, 25] ds ls) : ((lim K).call 7 (argsOf Tryd.prog [25, 25, 25] ls) []).All fun r => r.1 = .iv (.bool true) := by
  obtain ⟨d0, l0, ds0, ls0, rfl, h0, hh1⟩ := allTy_cons hh0
  obtain ⟨d1, l1, ds1, ls1, rfl, h1, hh2⟩ := allTy_cons hh1
  obtain ⟨d2, l2, ds2, ls2, rfl, h2, hh3⟩ := allTy_cons hh2
  obtain ⟨n1, t1, L1, x, rfl, k1⟩ := ty_big h0
  obtain ⟨n2, t2, L2, y, rfl, k2⟩ := ty_big h1
  obtain ⟨n3, t3, L3, z, rfl, k3⟩ := ty_big h2
  rw [allTy_nil hh3]
  simp only [argsOf, arg25]
  exact law7 n1 n2 n3 t1 t2 t3 L1 L2 L3 x y z k1 k2 k3
end Go.Proofs.YtdbffhgfjmhaiaaDoor
