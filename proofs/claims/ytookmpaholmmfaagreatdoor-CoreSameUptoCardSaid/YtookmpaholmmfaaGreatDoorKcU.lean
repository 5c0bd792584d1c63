/- CoreSame: whatever is read. Condition: none. -/
import Derived.Test.YtookmpaholmmfaaGreatDoorKcR
import Derived.Test.YtookmpaholmmfaaGreatDoorKcT
set_option maxRecDepth 100000
set_option linter.unusedSimpArgs false
set_option linter.unusedVariables false
namespace Go.Proofs.YtookmpaholmmfaaGreatDoor
open Go Go.TM Go.ChangeShapes Go.WideShapes
theorem argP (l : List IV) : argOf Tryz.prog 28 l = .iv (.agg l) := argOf_agg (by rw [Tryz.underlying28])
theorem inv4 {H : Type} {ds : List (DataW H)} {ls : List (List IV)} (hh0 : AllTy Tryz.prog [28, 28] ds ls) (hb : Rows.uptoBulkAll ds ≤ 1048576) : ((lim K).call 4 (argsOf Tryz.prog [28, 28] ls) []).All fun r => r.1 = .iv (.bool true) := by
  obtain ⟨d0, l0, ds, ls, rfl, rfl, h0, hh1⟩ := allTy_consE hh0
  obtain ⟨d1, l1, ds, ls, rfl, rfl, h1, hh2⟩ := allTy_consE hh1
  obtain rfl := allTy_nilD hh2
  rw [allTy_nil hh2]
  simp only [Rows.uptoBulkAll] at hb
  obtain ⟨p, rfl, b0, r0⟩ := readP h0
  obtain ⟨q, rfl, b1, r1⟩ := readP h1
  simp only [argsOf, argP]
  exact law4 p q (by omega) (by omega)
end Go.Proofs.YtookmpaholmmfaaGreatDoor
