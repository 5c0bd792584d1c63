/- GraphRights: the law. Condition: none. -/
import Derived.Test.YtmlhjdekfihdnaaGrD
set_option maxRecDepth 100000
set_option linter.unusedSimpArgs false
set_option linter.unusedVariables false
namespace Go.Proofs.Ytmlhjdekfihdnaa
open Go Go.TM
theorem works1 : ((ex K 60).call 8 [] []).allB isTrue = true := by kernel_rfl
theorem works : ((lim K).call 8 [] []).All fun r => r.1 = .iv (.bool true) := lim_allB 60 8 works1
/-- The cells of a list of numbers. -/
def cells (C : List Int) : List TV := C.map fun n => .iv (.int .i64 n)
theorem put_cells (C : List Int) (i : Nat) (n : Int) (h : i < C.length) : put (cells C) i [.iv (.int .i64 n)] = cells (C.set i n) := by
  simp only [put, cells]
  apply List.ext_getElem
  · simp; omega
  · intro j h1 h2
    simp at h1 h2
    rcases Nat.lt_trichotomy j i with h3 | h3 | h3
    · rw [List.getElem_append_left (by simp; omega), List.getElem_append_left (by simp; omega)]
      simp [List.getElem_set, show ¬ i = j by omega]
    · subst h3
      rw [List.getElem_append_left (by simp; omega), List.getElem_append_right (by simp; omega)]
      simp
    · rw [List.getElem_append_right (by simp; omega)]
      simp [List.getElem_set, show ¬ i = j by omega]
      congr 1; omega
set_option maxHeartbeats 8000000 in
theorem loop4 (a0 a1 a3 a4 a7 : TV) (own : Bool) (m : Nat) (hm : m ≤ 80) : ∀ (k i : Nat) (C : List Int) (x8 : TV), C.length = m → 32 ≤ i + k → i ≤ 32 →
    ∃ C' y6 y8, C'.length = m ∧ lp' (lim K) t4L0 [a0, a1, .iv (.bool own), a3, a4, .msl 0 0 0 m m 1, .iv (.int .i64 i), a7, x8] [.cells 0 true (cells C)] = .ret (.exit 0, [a0, a1, .iv (.bool own), a3, a4, .msl 0 0 0 m m 1, y6, a7, y8], [.cells 0 true (cells C')])
  | 0, i, C, x8, hC, h1, h2 => by
    refine ⟨C, ?_, ?_, hC, loop_at K _ _ t4L0.eq_1 ?_⟩
    rotate_left 2
    · simp (disch := omega) only [go_sem, Nat.reduceAdd, Nat.reduceSub, Nat.reduceMul, Nat.reduceLT, Nat.reduceLeDiff, Nat.reduceEqDiff, Nat.reduceBEq, reduceIte, reduceCtorEq, List.replicate, List.cons_append, List.nil_append, Int.reduceEq, Int.reduceLT, Int.reduceLE, Int.reduceAdd, Int.reduceSub, Int.reduceMul, Int.reduceToNat, Int.reduceNeg, Int.reduceBEq, Int.reduceBNe, Int.reduceTDiv, Int.reduceTMod, Int.reducePow, Nat.reducePow, decide_true, decide_false, Nat.reduceDiv, Nat.reduceMod, Int.reduceMod, Int.reduceDiv, Int.reduceNe, Int.reduceFDiv, Nat.reduceLeDiff, beq_self_eq_true, decT, decF, ifT, ifF, eqT, eqF, neT, neF, bytesIV_length, one_length, get_cp, get_cp0]
      rfl
  | k + 1, i, C, x8, hC, h1, h2 => by
    cases own
    · by_cases hi : i < 32
      · by_cases hj : i < m
        · refine ⟨C, ?_, ?_, hC, loop_at K _ _ t4L0.eq_1 ?_⟩
          rotate_left 2
          · simp (disch := omega) only [go_sem, Nat.reduceAdd, Nat.reduceSub, Nat.reduceMul, Nat.reduceLT, Nat.reduceLeDiff, Nat.reduceEqDiff, Nat.reduceBEq, reduceIte, reduceCtorEq, List.replicate, List.cons_append, List.nil_append, Int.reduceEq, Int.reduceLT, Int.reduceLE, Int.reduceAdd, Int.reduceSub, Int.reduceMul, Int.reduceToNat, Int.reduceNeg, Int.reduceBEq, Int.reduceBNe, Int.reduceTDiv, Int.reduceTMod, Int.reducePow, Nat.reducePow, decide_true, decide_false, Nat.reduceDiv, Nat.reduceMod, Int.reduceMod, Int.reduceDiv, Int.reduceNe, Int.reduceFDiv, Nat.reduceLeDiff, beq_self_eq_true, decT, decF, ifT, ifF, eqT, eqF, neT, neF, bytesIV_length, one_length, get_cp, get_cp0]
            rfl
        · refine ⟨C, ?_, ?_, hC, loop_at K _ _ t4L0.eq_1 ?_⟩
          rotate_left 2
          · simp (disch := omega) only [go_sem, Nat.reduceAdd, Nat.reduceSub, Nat.reduceMul, Nat.reduceLT, Nat.reduceLeDiff, Nat.reduceEqDiff, Nat.reduceBEq, reduceIte, reduceCtorEq, List.replicate, List.cons_append, List.nil_append, Int.reduceEq, Int.reduceLT, Int.reduceLE, Int.reduceAdd, Int.reduceSub, Int.reduceMul, Int.reduceToNat, Int.reduceNeg, Int.reduceBEq, Int.reduceBNe, Int.reduceTDiv, Int.reduceTMod, Int.reducePow, Nat.reducePow, decide_true, decide_false, Nat.reduceDiv, Nat.reduceMod, Int.reduceMod, Int.reduceDiv, Int.reduceNe, Int.reduceFDiv, Nat.reduceLeDiff, beq_self_eq_true, decT, decF, ifT, ifF, eqT, eqF, neT, neF, bytesIV_length, one_length, get_cp, get_cp0]
            rfl
      · refine ⟨C, ?_, ?_, hC, loop_at K _ _ t4L0.eq_1 ?_⟩
        rotate_left 2
        · simp (disch := omega) only [go_sem, Nat.reduceAdd, Nat.reduceSub, Nat.reduceMul, Nat.reduceLT, Nat.reduceLeDiff, Nat.reduceEqDiff, Nat.reduceBEq, reduceIte, reduceCtorEq, List.replicate, List.cons_append, List.nil_append, Int.reduceEq, Int.reduceLT, Int.reduceLE, Int.reduceAdd, Int.reduceSub, Int.reduceMul, Int.reduceToNat, Int.reduceNeg, Int.reduceBEq, Int.reduceBNe, Int.reduceTDiv, Int.reduceTMod, Int.reducePow, Nat.reducePow, decide_true, decide_false, Nat.reduceDiv, Nat.reduceMod, Int.reduceMod, Int.reduceDiv, Int.reduceNe, Int.reduceFDiv, Nat.reduceLeDiff, beq_self_eq_true, decT, decF, ifT, ifF, eqT, eqF, neT, neF, bytesIV_length, one_length, get_cp, get_cp0]
          rfl
    · by_cases hi : i < 32
      · by_cases hj : i < m
        · obtain ⟨C', y6, y8, hC', ih⟩ := loop4 a0 a1 a3 a4 a7 true m hm k (i + 1) (C.set i i) (.iv (.bool true)) (by simp [hC]) (by omega) (by omega)
          refine ⟨C', y6, y8, hC', loop_at K _ _ t4L0.eq_1 ?_⟩
          have hput := put_cells C i i (by omega)
          have hcl : (cells C).length = m := by simp [cells, hC]
          have hix : indexAddrS 1 (.msl 0 0 0 m m 1) (i : Int) = some (.ptr 0 0 i) := by
            simp [indexAddrS]; omega
          have hset : ∀ env, setCells env [.cells 0 true (cells C)] (.ptr 0 0 i) [.iv (.int .i64 i)] = some (env, [.cells 0 true (cells (C.set i i))]) := by
            intro env
            rw [← hput]
            simp [setCells, isRefL, hcl]; omega
          rw [← hput] at ih
          rw [hput] at ih
          simp (config := { maxSteps := 4000000 }) (disch := omega) only [go_sem, Nat.reduceAdd, Nat.reduceSub, Nat.reduceMul, Nat.reduceLT, Nat.reduceLeDiff, Nat.reduceEqDiff, Nat.reduceBEq, reduceIte, reduceCtorEq, List.replicate, List.cons_append, List.nil_append, Int.reduceEq, Int.reduceLT, Int.reduceLE, Int.reduceAdd, Int.reduceSub, Int.reduceMul, Int.reduceToNat, Int.reduceNeg, Int.reduceBEq, Int.reduceBNe, Int.reduceTDiv, Int.reduceTMod, Int.reducePow, Nat.reducePow, decide_true, decide_false, Nat.reduceDiv, Nat.reduceMod, Int.reduceMod, Int.reduceDiv, Int.reduceNe, Int.reduceFDiv, Nat.reduceLeDiff, beq_self_eq_true, decT, decF, ifT, ifF, eqT, eqF, neT, neF, bytesIV_length, one_length, get_cp, get_cp0, hix, storeV_c, storeC_eq, cellsOf_int, hset, wrap_i64]
          exact congrArg er ih
        · refine ⟨C, ?_, ?_, hC, loop_at K _ _ t4L0.eq_1 ?_⟩
          rotate_left 2
          · simp (disch := omega) only [go_sem, Nat.reduceAdd, Nat.reduceSub, Nat.reduceMul, Nat.reduceLT, Nat.reduceLeDiff, Nat.reduceEqDiff, Nat.reduceBEq, reduceIte, reduceCtorEq, List.replicate, List.cons_append, List.nil_append, Int.reduceEq, Int.reduceLT, Int.reduceLE, Int.reduceAdd, Int.reduceSub, Int.reduceMul, Int.reduceToNat, Int.reduceNeg, Int.reduceBEq, Int.reduceBNe, Int.reduceTDiv, Int.reduceTMod, Int.reducePow, Nat.reducePow, decide_true, decide_false, Nat.reduceDiv, Nat.reduceMod, Int.reduceMod, Int.reduceDiv, Int.reduceNe, Int.reduceFDiv, Nat.reduceLeDiff, beq_self_eq_true, decT, decF, ifT, ifF, eqT, eqF, neT, neF, bytesIV_length, one_length, get_cp, get_cp0]
            rfl
      · refine ⟨C, ?_, ?_, hC, loop_at K _ _ t4L0.eq_1 ?_⟩
        rotate_left 2
        · simp (disch := omega) only [go_sem, Nat.reduceAdd, Nat.reduceSub, Nat.reduceMul, Nat.reduceLT, Nat.reduceLeDiff, Nat.reduceEqDiff, Nat.reduceBEq, reduceIte, reduceCtorEq, List.replicate, List.cons_append, List.nil_append, Int.reduceEq, Int.reduceLT, Int.reduceLE, Int.reduceAdd, Int.reduceSub, Int.reduceMul, Int.reduceToNat, Int.reduceNeg, Int.reduceBEq, Int.reduceBNe, Int.reduceTDiv, Int.reduceTMod, Int.reducePow, Nat.reducePow, decide_true, decide_false, Nat.reduceDiv, Nat.reduceMod, Int.reduceMod, Int.reduceDiv, Int.reduceNe, Int.reduceFDiv, Nat.reduceLeDiff, beq_self_eq_true, decT, decF, ifT, ifF, eqT, eqF, neT, neF, bytesIV_length, one_length, get_cp, get_cp0]
          rfl
end Go.Proofs.Ytmlhjdekfihdnaa
