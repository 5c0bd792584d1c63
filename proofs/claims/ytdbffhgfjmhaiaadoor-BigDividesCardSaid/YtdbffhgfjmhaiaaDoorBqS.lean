/- BigDivides: the law, whatever the numbers. Condition: none. -/
import Derived.Test.YtdbffhgfjmhaiaaDoorBqR
set_option maxRecDepth 100000
set_option maxHeartbeats 4000000
set_option linter.unusedSimpArgs false
set_option linter.unusedVariables false
namespace Go.Proofs.YtdbffhgfjmhaiaaDoor
open Go Go.TM
theorem law9b {t1 t2 : Tag} {a b : List Int} (k1 : TagOk t1 a) (k2 : TagOk t2 b) (n1 n2 : Bool) (da : Dig 65536 a) (db : Dig 65536 b) (la : a.length ≤ 60) (lb : b.length ≤ 60) (hb : val 65536 b = 0) :
    ((lim K).call 9 [.iv (num n1 t1 a), .iv (num n2 t2 b)] []).All fun r => r.1 = .iv (.bool true) := by
  have h15 := call15 .full [(n1, t1, a), (n2, t2, b)] (by simp) (by
    intro c hc
    simp only [List.mem_cons, List.not_mem_nil, or_false] at hc
    rcases hc with rfl | rfl
    · show a.length ≤ _; omega
    · show b.length ≤ _; omega)
  have hb60 : big60 [(n1, t1, a), (n2, t2, b)] = false := by
    simp only [big60, List.any_cons, List.any_nil, Bool.or_false, Bool.or_eq_false_iff, decide_eq_false_iff_not]; omega
  rw [hb60] at h15
  simp only [List.map, numC] at h15
  have h34 := quo0 k1 k2 n1 n2 da db (by omega) (by omega) hb []
  obtain ⟨tb, jb, h18b⟩ := call18 n2 t2 b k2 db (by omega)
  have e : bg tb (sv n2 (val 65536 b)) = .agg [.bool false, .sl tb []] := by
    rw [hb]
    cases n2 <;> simp [sv, bg, num, dg_zero] <;> rfl
  rw [e] at h18b
  have sn := scalar_num
  have hz0 : IntKind.i64.wrap (((0 : Nat) : Int) + ((0 : Nat) : Int)) = 0 := by decide
  simp only [num] at *
  refine call_all' K [] (fn := t9) rfl rfl ?_
  simp (config := { maxSteps := 8000000 }) (disch := omega) only [t9, go_sem, Nat.reduceAdd, Nat.reduceSub, Nat.reduceMul, Nat.reduceLT, Nat.reduceLeDiff, Nat.reduceEqDiff, Nat.reduceBEq, reduceIte, reduceCtorEq, List.replicate, List.cons_append, List.nil_append, Int.reduceEq, Int.reduceLT, Int.reduceLE, Int.reduceAdd, Int.reduceSub, Int.reduceMul, Int.reduceToNat, Int.reduceNeg, Int.reduceBEq, Int.reduceBNe, Int.reduceTDiv, Int.reduceTMod, Int.reducePow, Nat.reducePow, decide_true, decide_false, Nat.reduceDiv, Nat.reduceMod, Int.reduceMod, Int.reduceDiv, Int.reduceNe, Int.reduceFDiv, Nat.reduceLeDiff, beq_self_eq_true, decT, decF, ifT, ifF, eqT, eqF, neT, neF, bytesIV_length, one_length, get_cp, get_cp0, hz0, h15, h34, cpR_pure h18b, sn, Bool.and_false, Bool.not_true, Bool.not_false, freeze_iv, freeze_nil, List.length_nil]
  refine all_works works ?_
  simp (config := { maxSteps := 4000000 }) (disch := omega) only [go_sem, Nat.reduceAdd, Nat.reduceSub, Nat.reduceMul, Nat.reduceLT, Nat.reduceLeDiff, Nat.reduceEqDiff, Nat.reduceBEq, reduceIte, reduceCtorEq, List.replicate, List.cons_append, List.nil_append, Int.reduceEq, Int.reduceLT, Int.reduceLE, Int.reduceAdd, Int.reduceSub, Int.reduceMul, Int.reduceToNat, Int.reduceNeg, Int.reduceBEq, Int.reduceBNe, Int.reduceTDiv, Int.reduceTMod, Int.reducePow, Nat.reducePow, decide_true, decide_false, Nat.reduceDiv, Nat.reduceMod, Int.reduceMod, Int.reduceDiv, Int.reduceNe, Int.reduceFDiv, Nat.reduceLeDiff, beq_self_eq_true, decT, decF, ifT, ifF, eqT, eqF, neT, neF, bytesIV_length, one_length, get_cp, get_cp0, Out.All]
theorem law9c {t1 t2 : Tag} {a b : List Int} (n1 n2 : Bool) (la : a.length ≤ 9223372036854775807) (lb : b.length ≤ 9223372036854775807) (h : 60 < a.length ∨ 60 < b.length) :
    ((lim K).call 9 [.iv (num n1 t1 a), .iv (num n2 t2 b)] []).All fun r => r.1 = .iv (.bool true) := by
  have h15 := call15 .full [(n1, t1, a), (n2, t2, b)] (by simp) (by
    intro c hc
    simp only [List.mem_cons, List.not_mem_nil, or_false] at hc
    rcases hc with rfl | rfl
    · exact la
    · exact lb)
  have hb60 : big60 [(n1, t1, a), (n2, t2, b)] = true := by
    simp only [big60, List.any_cons, List.any_nil, Bool.or_false, Bool.or_eq_true, decide_eq_true_eq]; omega
  rw [hb60] at h15
  simp only [List.map, numC] at h15
  simp only [num] at *
  refine call_all' K [] (fn := t9) rfl rfl ?_
  simp (config := { maxSteps := 8000000 }) (disch := omega) only [t9, go_sem, Nat.reduceAdd, Nat.reduceSub, Nat.reduceMul, Nat.reduceLT, Nat.reduceLeDiff, Nat.reduceEqDiff, Nat.reduceBEq, reduceIte, reduceCtorEq, List.replicate, List.cons_append, List.nil_append, Int.reduceEq, Int.reduceLT, Int.reduceLE, Int.reduceAdd, Int.reduceSub, Int.reduceMul, Int.reduceToNat, Int.reduceNeg, Int.reduceBEq, Int.reduceBNe, Int.reduceTDiv, Int.reduceTMod, Int.reducePow, Nat.reducePow, decide_true, decide_false, Nat.reduceDiv, Nat.reduceMod, Int.reduceMod, Int.reduceDiv, Int.reduceNe, Int.reduceFDiv, Nat.reduceLeDiff, beq_self_eq_true, decT, decF, ifT, ifF, eqT, eqF, neT, neF, bytesIV_length, one_length, get_cp, get_cp0, h15]
  refine all_works works ?_
  simp (config := { maxSteps := 4000000 }) (disch := omega) only [go_sem, Nat.reduceAdd, Nat.reduceSub, Nat.reduceMul, Nat.reduceLT, Nat.reduceLeDiff, Nat.reduceEqDiff, Nat.reduceBEq, reduceIte, reduceCtorEq, List.replicate, List.cons_append, List.nil_append, Int.reduceEq, Int.reduceLT, Int.reduceLE, Int.reduceAdd, Int.reduceSub, Int.reduceMul, Int.reduceToNat, Int.reduceNeg, Int.reduceBEq, Int.reduceBNe, Int.reduceTDiv, Int.reduceTMod, Int.reducePow, Nat.reducePow, decide_true, decide_false, Nat.reduceDiv, Nat.reduceMod, Int.reduceMod, Int.reduceDiv, Int.reduceNe, Int.reduceFDiv, Nat.reduceLeDiff, beq_self_eq_true, decT, decF, ifT, ifF, eqT, eqF, neT, neF, bytesIV_length, one_length, get_cp, get_cp0, Out.All]
theorem law9 {t1 t2 : Tag} {a b : List Int} (k1 : TagOk t1 a) (k2 : TagOk t2 b) (n1 n2 : Bool) (da : Dig 65536 a) (db : Dig 65536 b) (la : a.length ≤ 9223372036854775807) (lb : b.length ≤ 9223372036854775807) :
    ((lim K).call 9 [.iv (num n1 t1 a), .iv (num n2 t2 b)] []).All fun r => r.1 = .iv (.bool true) := by
  by_cases h : 60 < a.length ∨ 60 < b.length
  · exact law9c n1 n2 la lb h
  · by_cases hb : val 65536 b = 0
    · exact law9b k1 k2 n1 n2 da db (by omega) (by omega) hb
    · exact law9a k1 k2 n1 n2 da db (by omega) (by omega) hb _ _ rfl rfl
end Go.Proofs.YtdbffhgfjmhaiaaDoor
