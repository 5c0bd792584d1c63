/- BigNumbers: whatever is read. Condition: none. -/
import Derived.Test.YtdbffhgfjmhaiaaDoorBigT4
set_option maxRecDepth 100000
set_option maxHeartbeats 4000000
set_option linter.unusedSimpArgs false
set_option linter.unusedVariables false
namespace Go.Proofs.YtdbffhgfjmhaiaaDoor
open Go Go.TM
variable {H : Type}
theorem law5c {t : Tag} {a : List Int} (n : Bool) (la : a.length ≤ 9223372036854775807) (m : Int) (h : 60 < a.length) :
    ((lim K).call 5 [.iv (num n t a), .iv (.int .i64 m)] []).All fun r => r.1 = .iv (.bool true) := by
  simp only [num] at *
  refine call_all' K [] (fn := t5) rfl rfl ?_
  simp (config := { maxSteps := 8000000 }) (disch := omega) only [t5, go_sem, Nat.reduceAdd, Nat.reduceSub, Nat.reduceLT, Nat.reduceLeDiff, Nat.reduceEqDiff, Nat.reduceBEq, reduceIte, reduceCtorEq, Int.reduceEq, Int.reduceLT, Int.reduceLE, Int.reduceAdd, Int.reduceSub, Int.reduceMul, Int.reduceToNat, Int.reduceNeg, Int.reduceBEq, Int.reducePow, Nat.reducePow, one_length]
  refine all_works works ?_
  simp (config := { maxSteps := 4000000 }) (disch := omega) only [go_sem, Nat.reduceAdd, Nat.reduceSub, Nat.reduceLT, Nat.reduceLeDiff, Nat.reduceEqDiff, Nat.reduceBEq, reduceIte, reduceCtorEq, Int.reduceEq, Int.reduceLT, Int.reduceLE, Int.reduceAdd, Int.reduceSub, Int.reduceMul, Int.reduceToNat, Int.reduceNeg, Int.reduceBEq, Int.reducePow, Nat.reducePow, Out.All]
theorem inv5 {ds : List (DataW H)} {ls : List (List IV)} (hh0 : AllTy Tryd.prog [25, 2] ds ls) : ((lim K).call 5 (argsOf Tryd.prog [25, 2] ls) []).All fun r => r.1 = .iv (.bool true) := by
  obtain ⟨d0, l0, ds0, ls0, rfl, h0, hh1⟩ := allTy_cons hh0
  obtain ⟨d1, l1, ds1, ls1, rfl, h1, hh2⟩ := allTy_cons hh1
  obtain ⟨n, t, L, z, rfl, a, rfl, k, da, la, _⟩ := ty_big h0
  obtain ⟨m, rfl, hm⟩ := ty_int Tryd.underlying2 h1
  simp [IntKind.min, IntKind.max, IntKind.signed, IntKind.bits] at hm
  have e1 : ∀ x, argOf Tryd.prog 2 [x] = .iv x := fun x => argOf_plain (by rw [Tryd.underlying2])
  rw [allTy_nil hh2]
  simp only [argsOf, arg25, e1]
  by_cases h : 60 < a.length
  · exact law5c n la m h
  · exact law5a k n da (by omega) m (by omega)
end Go.Proofs.YtdbffhgfjmhaiaaDoor
