/- BigParses: the evaluator answers true. Condition: none. -/
import Derived.Test.YtdbffhgfjmhaiaaDoorBigJ
import Derived.Test.YtdbffhgfjmhaiaaDoorBigW
set_option maxRecDepth 100000
set_option linter.unusedSimpArgs false
set_option linter.unusedVariables false
namespace Go.Proofs.YtdbffhgfjmhaiaaDoor
open Go Go.TM
theorem sg_eq (n : Bool) {v : Int} (h : 0 ≤ v) : sg n (dg 65536 v) = sg n (dg 10 v) := by
  have e1 : (0 < (dg 65536 v).length) ↔ v ≠ 0 := by rw [List.length_pos_iff, ne_eq, dg_nil (by decide) h]
  have e2 : (0 < (dg 10 v).length) ↔ v ≠ 0 := by rw [List.length_pos_iff, ne_eq, dg_nil (by decide) h]
  simp only [sg, e1, e2]
theorem dg_le {v : Int} (h0 : 0 ≤ v) : (dg 65536 v).length ≤ (dg 10 v).length := by
  refine dg_len (by decide) _ _ h0 ?_
  have h1 := val_lt (B := 10) (by decide) (dg_dig (n := v) (by decide) h0)
  rw [val_dg (by decide) h0] at h1
  have h2 : (10 : Int) ^ (dg 10 v).length ≤ 65536 ^ (dg 10 v).length := by
    generalize (dg 10 v).length = n
    induction n with
    | zero => simp
    | succ n ih => rw [Int.pow_succ, Int.pow_succ]; have := pow_pos' (B := 10) (by decide) n; omega
  omega
theorem dec_len {s : List UInt8} (h : s.all isD = true) : (dg 10 (dec s)).length ≤ s.length := by
  have := val_lt (B := 10) (by decide) (dig_map h)
  refine dg_len (by decide) _ _ (dec_nonneg h) ?_
  rw [List.length_map, List.length_reverse] at this
  exact this
set_option maxHeartbeats 8000000 in
theorem law3 (s : List UInt8) (hl : s.length ≤ 9223372036854775807) : ((lim K).call 3 [.iv (.str s)] []).All fun r => r.1 = .iv (.bool true) := by
  refine call_all' K [] (fn := t3) rfl rfl ?_
  by_cases h300 : s.length ≤ 300
  · obtain ⟨t1, a1, h12⟩ := call12 s (by omega)
    obtain ⟨t2, a2, h13⟩ := call13 s (by omega)
    by_cases hok : okP s = true
    · rw [if_pos hok] at h12 h13
      have hall : (body s).all isD = true := by simp only [okP, Bool.and_eq_true] at hok; exact hok.2
      have h0 := dec_nonneg hall
      have hn : (dg 10 (dec (body s))).length ≤ 100000 := by
        have h1 := dec_len hall
        have h2 : (body s).length ≤ s.length := by simp only [body, List.length_drop]; omega
        omega
      have hn6 : (dg 65536 (dec (body s))).length ≤ 100000 := Nat.le_trans (dg_le h0) hn
      have h14 := call14 (sg (neg0 s) (dg 65536 (dec (body s)))) (sg (neg0 s) (dg 10 (dec (body s)))) t1 t2 (dg 65536 (dec (body s))) (dec (body s)) h0 (by omega) a2 hn
      simp only [sg_eq _ h0, and_self, decide_true] at h14 h12
      simp only [num, dnum] at h12 h13 h14
      refine ?_
      simp (config := { maxSteps := 4000000 }) (disch := omega) only [t3, go_sem, Nat.reduceAdd, Nat.reduceSub, Nat.reduceLT, Nat.reduceLeDiff, Nat.reduceEqDiff, Nat.reduceBEq, reduceIte, reduceCtorEq, Int.reduceEq, Int.reduceLT, Int.reduceLE, Int.reduceAdd, Int.reduceSub, Int.reduceMul, Int.reduceToNat, Int.reduceNeg, Int.reduceBEq, Int.reducePow, Nat.reducePow, cpR_pure h12, cpR_pure h13, cpR_pure h14]
      refine all_works works ?_
      simp (config := { maxSteps := 4000000 }) (disch := omega) only [go_sem, Nat.reduceAdd, Nat.reduceSub, Nat.reduceLT, Nat.reduceLeDiff, Nat.reduceEqDiff, Nat.reduceBEq, reduceIte, reduceCtorEq, Int.reduceEq, Int.reduceLT, Int.reduceLE, Int.reduceAdd, Int.reduceSub, Int.reduceMul, Int.reduceToNat, Int.reduceNeg, Int.reduceBEq, Int.reducePow, Nat.reducePow, Out.All]
    · rw [if_neg hok] at h12 h13
      have e1 : one d16 [] = [] := rfl
      have e2 : one i64 [] = [] := rfl
      have h14 := call14 false false .nil .nil [] 0 (by decide) (by decide) (by rw [dg_zero]; exact TagOk.nil) (by rw [dg_zero]; decide)
      rw [dg_zero, dg_zero] at h14
      simp only [num, dnum, e1, e2, and_self, decide_true] at h12 h13 h14
      simp (config := { maxSteps := 4000000 }) (disch := omega) only [t3, go_sem, Nat.reduceAdd, Nat.reduceSub, Nat.reduceLT, Nat.reduceLeDiff, Nat.reduceEqDiff, Nat.reduceBEq, reduceIte, reduceCtorEq, Int.reduceEq, Int.reduceLT, Int.reduceLE, Int.reduceAdd, Int.reduceSub, Int.reduceMul, Int.reduceToNat, Int.reduceNeg, Int.reduceBEq, Int.reducePow, Nat.reducePow, cpR_pure h12, cpR_pure h13, cpR_pure h14]
      refine all_works works ?_
      simp (config := { maxSteps := 4000000 }) (disch := omega) only [go_sem, Nat.reduceAdd, Nat.reduceSub, Nat.reduceLT, Nat.reduceLeDiff, Nat.reduceEqDiff, Nat.reduceBEq, reduceIte, reduceCtorEq, Int.reduceEq, Int.reduceLT, Int.reduceLE, Int.reduceAdd, Int.reduceSub, Int.reduceMul, Int.reduceToNat, Int.reduceNeg, Int.reduceBEq, Int.reducePow, Nat.reducePow, Out.All]
  · simp (config := { maxSteps := 4000000 }) (disch := omega) only [t3, go_sem, Nat.reduceAdd, Nat.reduceSub, Nat.reduceLT, Nat.reduceLeDiff, Nat.reduceEqDiff, Nat.reduceBEq, reduceIte, reduceCtorEq, Int.reduceEq, Int.reduceLT, Int.reduceLE, Int.reduceAdd, Int.reduceSub, Int.reduceMul, Int.reduceToNat, Int.reduceNeg, Int.reduceBEq, Int.reducePow, Nat.reducePow]
    refine all_works works ?_
    simp (config := { maxSteps := 4000000 }) (disch := omega) only [go_sem, Nat.reduceAdd, Nat.reduceSub, Nat.reduceLT, Nat.reduceLeDiff, Nat.reduceEqDiff, Nat.reduceBEq, reduceIte, reduceCtorEq, Int.reduceEq, Int.reduceLT, Int.reduceLE, Int.reduceAdd, Int.reduceSub, Int.reduceMul, Int.reduceToNat, Int.reduceNeg, Int.reduceBEq, Int.reducePow, Nat.reducePow, Out.All]
