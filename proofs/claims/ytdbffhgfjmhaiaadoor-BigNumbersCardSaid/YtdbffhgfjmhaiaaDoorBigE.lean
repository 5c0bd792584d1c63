/- The contracts of Big's laws: alike. Condition: none. -/
import Derived.Test.YtdbffhgfjmhaiaaDoorBigD
set_option maxRecDepth 100000
set_option linter.unusedSimpArgs false
set_option linter.unusedVariables false
namespace Go.Proofs.YtdbffhgfjmhaiaaDoor
open Go Go.TM
theorem loop14 (x0 x1 : TV) (neg s : Bool) (t t2 tg : Tag) (l m D : List Int) (hlen : l.length = m.length) (hl : l.length ≤ 1000000) (x7 : TV) (S : Store) : ∀ (k i : Nat) (x8 x9 : TV), i + k = l.length →
    ∃ y6 y8 y9, lp' (lim K) t14L0 [x0, x1, .lb [.iv (.bool neg), .iv (.sl t (one d16 l))], .lb [.iv (.bool s), .iv (.sl tg (one i64 D))], .iv (.bool false), .iv (.sl t2 (one d16 m)), .iv (.int .i64 i), x7, x8, x9] S = .ret (if l.drop i = m.drop i then .exit 0 else .ret, [x0, x1, .lb [.iv (.bool neg), .iv (.sl t (one d16 l))], .lb [.iv (.bool s), .iv (.sl tg (one i64 D))], .iv (.bool false), .iv (.sl t2 (one d16 m)), y6, x7, y8, y9], S)
  | 0, i, x8, x9, h => by
    obtain rfl : i = l.length := by omega
    have e : l.drop l.length = m.drop l.length := by rw [List.drop_length, hlen, List.drop_length]
    refine ⟨?_, ?_, ?_, loop_at K _ _ t14L0.eq_1 ?_⟩
    rotate_left 3
    · simp (disch := omega) only [go_sem, Nat.reduceAdd, Nat.reduceSub, Nat.reduceLT, Nat.reduceLeDiff, Nat.reduceEqDiff, Nat.reduceBEq, reduceIte, reduceCtorEq, Int.reduceEq, Int.reduceLT, Int.reduceLE, Int.reduceAdd, Int.reduceSub, Int.reduceMul, Int.reduceToNat, Int.reduceNeg, Int.reduceBEq, Int.reducePow, Nat.reducePow, e]
      rfl
  | k + 1, i, x8, x9, h => by
    have hix := ix_one d16 (t := t) (l := l) (i := (i : Int)) (by omega)
    have hix2 := ix_one d16 (t := t2) (l := m) (i := (i : Int)) (by omega)
    rw [Int.toNat_natCast] at hix hix2
    have e1 := drop_getD (l := l) (i := i) (by omega)
    have e2 := drop_getD (l := m) (i := i) (by omega)
    rw [e1, e2]
    have ih := loop14 x0 x1 neg s t t2 tg l m D hlen hl x7 S k (i + 1)
    generalize l.getD i default = a at *
    generalize m.getD i default = b at *
    simp only [d16] at hix hix2
    by_cases hab : a = b
    · subst hab
      obtain ⟨y6, y8, y9, ih⟩ := ih (.iv (.bool true)) (.iv (.bool false)) (by omega)
      refine ⟨y6, y8, y9, loop_at K _ _ t14L0.eq_1 ?_⟩
      simp (config := { maxSteps := 4000000 }) (disch := omega) only [go_sem, Nat.reduceAdd, Nat.reduceSub, Nat.reduceLT, Nat.reduceLeDiff, Nat.reduceEqDiff, Nat.reduceBEq, reduceIte, reduceCtorEq, Int.reduceEq, Int.reduceLT, Int.reduceLE, Int.reduceAdd, Int.reduceSub, Int.reduceMul, Int.reduceToNat, Int.reduceNeg, Int.reduceBEq, Int.reducePow, Nat.reducePow, hix, hix2, wrap_i64, List.cons.injEq, true_and]
      exact congrArg er ih
    · refine ⟨?_, ?_, ?_, loop_at K _ _ t14L0.eq_1 ?_⟩
      rotate_left 3
      · simp (config := { maxSteps := 4000000 }) (disch := omega) only [go_sem, Nat.reduceAdd, Nat.reduceSub, Nat.reduceLT, Nat.reduceLeDiff, Nat.reduceEqDiff, Nat.reduceBEq, reduceIte, reduceCtorEq, Int.reduceEq, Int.reduceLT, Int.reduceLE, Int.reduceAdd, Int.reduceSub, Int.reduceMul, Int.reduceToNat, Int.reduceNeg, Int.reduceBEq, Int.reducePow, Nat.reducePow, hix, hix2, wrap_i64, List.cons.injEq, hab, false_and]
        rfl
theorem call14 (neg s : Bool) (t tg : Tag) (l : List Int) (v : Int) (h0 : 0 ≤ v) (hl : l.length ≤ 1000000) (ht : TagOk tg (dg 10 v)) (hn : (dg 10 v).length ≤ 100000) : Pure K 14 [.iv (num neg t l), .iv (dnum s tg (dg 10 v))] (.iv (.bool (decide (neg = s ∧ l = dg 65536 v)))) := by
  have h44 := call44 s tg v h0 ht hn
  by_cases hlen : l.length = (dg 65536 v).length
  · obtain ⟨y6, y8, y9, e⟩ := loop14 (.iv (num neg t l)) (.iv (dnum s tg (dg 10 v))) neg s t (sTag (dg 65536 v)) tg l (dg 65536 v) (dg 10 v) hlen hl (.iv (.bool false)) [] l.length 0 (.tup []) (.tup []) (by omega)
    rw [show ((0 : Nat) : Int) = 0 from rfl, List.drop_zero, List.drop_zero] at e
    refine call_pure t14 rfl rfl ?_
    simp only [num, dnum] at e h44 ⊢
    by_cases hns : neg = s
    · subst hns
      by_cases he : l = dg 65536 v
      · simp only [he, ↓reduceIte] at e ⊢
        cases neg <;> simp (config := { maxSteps := 4000000 }) (disch := omega) only [t14, go_sem, Nat.reduceAdd, Nat.reduceSub, Nat.reduceLT, Nat.reduceLeDiff, Nat.reduceEqDiff, Nat.reduceBEq, reduceIte, reduceCtorEq, Int.reduceEq, Int.reduceLT, Int.reduceLE, Int.reduceAdd, Int.reduceSub, Int.reduceMul, Int.reduceToNat, Int.reduceNeg, Int.reduceBEq, Int.reducePow, Nat.reducePow, cpR_pure h44, e, resB_ret, resO_some]
      · simp only [he, ↓reduceIte] at e ⊢
        cases neg <;> simp (config := { maxSteps := 4000000 }) (disch := omega) only [t14, go_sem, Nat.reduceAdd, Nat.reduceSub, Nat.reduceLT, Nat.reduceLeDiff, Nat.reduceEqDiff, Nat.reduceBEq, reduceIte, reduceCtorEq, Int.reduceEq, Int.reduceLT, Int.reduceLE, Int.reduceAdd, Int.reduceSub, Int.reduceMul, Int.reduceToNat, Int.reduceNeg, Int.reduceBEq, Int.reducePow, Nat.reducePow, cpR_pure h44, e, resB_ret, resO_some]
    · cases neg <;> cases s <;> simp at hns <;> simp (config := { maxSteps := 4000000 }) (disch := omega) only [t14, go_sem, Nat.reduceAdd, Nat.reduceSub, Nat.reduceLT, Nat.reduceLeDiff, Nat.reduceEqDiff, Nat.reduceBEq, reduceIte, reduceCtorEq, Int.reduceEq, Int.reduceLT, Int.reduceLE, Int.reduceAdd, Int.reduceSub, Int.reduceMul, Int.reduceToNat, Int.reduceNeg, Int.reduceBEq, Int.reducePow, Nat.reducePow, false_and, cpR_pure h44, resB_ret, resO_some]
  · have he : ¬ l = dg 65536 v := by intro e; exact hlen (by rw [e])
    refine call_pure t14 rfl rfl ?_
    simp only [num, dnum] at h44 ⊢
    have hlen' : ¬ (l.length : Int) = (dg 65536 v).length := by omega
    cases neg <;> cases s <;> simp (config := { maxSteps := 4000000 }) (disch := omega) only [t14, go_sem, Nat.reduceAdd, Nat.reduceSub, Nat.reduceLT, Nat.reduceLeDiff, Nat.reduceEqDiff, Nat.reduceBEq, reduceIte, reduceCtorEq, Int.reduceEq, Int.reduceLT, Int.reduceLE, Int.reduceAdd, Int.reduceSub, Int.reduceMul, Int.reduceToNat, Int.reduceNeg, Int.reduceBEq, Int.reducePow, Nat.reducePow, cpR_pure h44, hlen', he, and_false, false_and, resB_ret, resO_some]
