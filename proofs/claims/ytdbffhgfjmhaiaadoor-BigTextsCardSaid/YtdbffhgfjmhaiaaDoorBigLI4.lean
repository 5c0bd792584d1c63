/- BigTexts: whatever is read. Condition: none. -/
import Derived.Test.YtdbffhgfjmhaiaaDoorBigSG
import Derived.Test.YtdbffhgfjmhaiaaDoorBigTy
set_option maxRecDepth 100000
set_option maxHeartbeats 4000000
set_option linter.unusedSimpArgs false
set_option linter.unusedVariables false
namespace Go.Proofs.YtdbffhgfjmhaiaaDoor
open Go Go.TM
variable {H : Type}
theorem law4c {t : Tag} {a : List Int} (n : Bool) (la : a.length ≤ 9223372036854775807) (s : List UInt8) (ls : s.length ≤ 9223372036854775807) (h : 60 < a.length ∨ 300 < s.length) :
    ((lim K).call 4 [.iv (num n t a), .iv (.str s)] []).All fun r => r.1 = .iv (.bool true) := by
  have h15 := call15 .full [(n, t, a)] (by simp) (by
    intro c hc
    rw [List.mem_singleton] at hc
    subst hc
    exact la)
  simp only [List.map, numC] at h15
  simp only [num] at *
  refine call_all' K [] (fn := t4) rfl rfl ?_
  by_cases h1 : 60 < a.length
  · have hb60 : big60 [(n, t, a)] = true := by
      simp only [big60, List.any_cons, List.any_nil, Bool.or_false, decide_eq_true_eq]; omega
    rw [hb60] at h15
    simp (config := { maxSteps := 8000000 }) (disch := omega) only [t4, go_sem, Nat.reduceAdd, Nat.reduceSub, Nat.reduceMul, Nat.reduceLT, Nat.reduceLeDiff, Nat.reduceEqDiff, Nat.reduceBEq, reduceIte, reduceCtorEq, List.replicate, List.cons_append, List.nil_append, Int.reduceEq, Int.reduceLT, Int.reduceLE, Int.reduceAdd, Int.reduceSub, Int.reduceMul, Int.reduceToNat, Int.reduceNeg, Int.reduceBEq, Int.reduceBNe, Int.reduceTDiv, Int.reduceTMod, Int.reducePow, Nat.reducePow, decide_true, decide_false, Nat.reduceDiv, Nat.reduceMod, Int.reduceMod, Int.reduceDiv, Int.reduceNe, Int.reduceFDiv, Nat.reduceLeDiff, beq_self_eq_true, decT, decF, ifT, ifF, eqT, eqF, neT, neF, bytesIV_length, one_length, get_cp, get_cp0, h15]
    refine all_works works ?_
    simp (config := { maxSteps := 4000000 }) (disch := omega) only [go_sem, Nat.reduceAdd, Nat.reduceSub, Nat.reduceMul, Nat.reduceLT, Nat.reduceLeDiff, Nat.reduceEqDiff, Nat.reduceBEq, reduceIte, reduceCtorEq, List.replicate, List.cons_append, List.nil_append, Int.reduceEq, Int.reduceLT, Int.reduceLE, Int.reduceAdd, Int.reduceSub, Int.reduceMul, Int.reduceToNat, Int.reduceNeg, Int.reduceBEq, Int.reduceBNe, Int.reduceTDiv, Int.reduceTMod, Int.reducePow, Nat.reducePow, decide_true, decide_false, Nat.reduceDiv, Nat.reduceMod, Int.reduceMod, Int.reduceDiv, Int.reduceNe, Int.reduceFDiv, Nat.reduceLeDiff, beq_self_eq_true, decT, decF, ifT, ifF, eqT, eqF, neT, neF, bytesIV_length, one_length, get_cp, get_cp0, Out.All]
  · have hb60 : big60 [(n, t, a)] = false := by
      simp only [big60, List.any_cons, List.any_nil, Bool.or_false, decide_eq_false_iff_not]; omega
    rw [hb60] at h15
    simp (config := { maxSteps := 8000000 }) (disch := omega) only [t4, go_sem, Nat.reduceAdd, Nat.reduceSub, Nat.reduceMul, Nat.reduceLT, Nat.reduceLeDiff, Nat.reduceEqDiff, Nat.reduceBEq, reduceIte, reduceCtorEq, List.replicate, List.cons_append, List.nil_append, Int.reduceEq, Int.reduceLT, Int.reduceLE, Int.reduceAdd, Int.reduceSub, Int.reduceMul, Int.reduceToNat, Int.reduceNeg, Int.reduceBEq, Int.reduceBNe, Int.reduceTDiv, Int.reduceTMod, Int.reducePow, Nat.reducePow, decide_true, decide_false, Nat.reduceDiv, Nat.reduceMod, Int.reduceMod, Int.reduceDiv, Int.reduceNe, Int.reduceFDiv, Nat.reduceLeDiff, beq_self_eq_true, decT, decF, ifT, ifF, eqT, eqF, neT, neF, bytesIV_length, one_length, get_cp, get_cp0, h15]
    refine all_works works ?_
    simp (config := { maxSteps := 4000000 }) (disch := omega) only [go_sem, Nat.reduceAdd, Nat.reduceSub, Nat.reduceMul, Nat.reduceLT, Nat.reduceLeDiff, Nat.reduceEqDiff, Nat.reduceBEq, reduceIte, reduceCtorEq, List.replicate, List.cons_append, List.nil_append, Int.reduceEq, Int.reduceLT, Int.reduceLE, Int.reduceAdd, Int.reduceSub, Int.reduceMul, Int.reduceToNat, Int.reduceNeg, Int.reduceBEq, Int.reduceBNe, Int.reduceTDiv, Int.reduceTMod, Int.reducePow, Nat.reducePow, decide_true, decide_false, Nat.reduceDiv, Nat.reduceMod, Int.reduceMod, Int.reduceDiv, Int.reduceNe, Int.reduceFDiv, Nat.reduceLeDiff, beq_self_eq_true, decT, decF, ifT, ifF, eqT, eqF, neT, neF, bytesIV_length, one_length, get_cp, get_cp0, Out.All]
theorem inv4 {ds : List (DataW H)} {ls : List (List IV)} (hh0 : AllTy Tryd.prog [25, 9] ds ls) : ((lim K).call 4 (argsOf Tryd.prog [25, 9] ls) []).All fun r => r.1 = .iv (.bool true) := by
  obtain ⟨d0, l0, ds0, ls0, rfl, h0, hh1⟩ := allTy_cons hh0
  obtain ⟨d1, l1, ds1, ls1, rfl, h1, hh2⟩ := allTy_cons hh1
  obtain ⟨n, t, L, z, rfl, a, rfl, k, da, la, _⟩ := ty_big h0
  obtain ⟨s, rfl, hs⟩ := ty_str Tryd.underlying9 h1
  have e1 : ∀ x, argOf Tryd.prog 9 [x] = .iv x := fun x => argOf_plain (by rw [Tryd.underlying9])
  rw [allTy_nil hh2]
  simp only [argsOf, arg25, e1]
  by_cases h : 60 < a.length ∨ 300 < s.length
  · exact law4c n la s hs h
  · exact law4a k n da (by omega) s (by omega)
end Go.Proofs.YtdbffhgfjmhaiaaDoor
