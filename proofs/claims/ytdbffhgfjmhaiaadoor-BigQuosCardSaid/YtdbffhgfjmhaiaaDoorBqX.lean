/- The document's sums, differences, order. Condition: none. -/
import Derived.Test.YtdbffhgfjmhaiaaDoorBqQz
import Derived.Test.YtdbffhgfjmhaiaaDoorBigE
set_option maxRecDepth 100000
set_option maxHeartbeats 2000000
set_option linter.unusedSimpArgs false
set_option linter.unusedVariables false
namespace Go.Proofs.YtdbffhgfjmhaiaaDoor
open Go Go.TM
theorem call79 (t : Tag) (l : List Int) (hl : l.length ≤ 1000000) (i : Nat) (hi : i ≤ 1000000) : (lim K).call 79 [.iv (.sl t (one i64 l)), .iv (.int .i64 i)] [] = .ret (.iv (.int .i64 (l.getD i default)), []) := by
  refine call_ret' K [] (fn := t79) rfl rfl ?_
  by_cases h : i < l.length
  · have hix := ix_one i64 (t := t) (l := l) (i := (i : Int)) (by omega)
    rw [Int.toNat_natCast] at hix
    simp only [i64] at hix
    simp (config := { maxSteps := 4000000 }) (disch := omega) only [t79, go_sem, Nat.reduceAdd, Nat.reduceSub, Nat.reduceLT, Nat.reduceLeDiff, Nat.reduceEqDiff, Nat.reduceBEq, reduceIte, reduceCtorEq, Int.reduceEq, Int.reduceLT, Int.reduceLE, Int.reduceAdd, Int.reduceSub, Int.reduceMul, Int.reduceToNat, Int.reduceNeg, Int.reduceBEq, Int.reducePow, Nat.reducePow, hix]
  · rw [List.getD, List.getElem?_eq_none (by omega)]
    simp (config := { maxSteps := 4000000 }) (disch := omega) only [t79, go_sem, Nat.reduceAdd, Nat.reduceSub, Nat.reduceLT, Nat.reduceLeDiff, Nat.reduceEqDiff, Nat.reduceBEq, reduceIte, reduceCtorEq, Int.reduceEq, Int.reduceLT, Int.reduceLE, Int.reduceAdd, Int.reduceSub, Int.reduceMul, Int.reduceToNat, Int.reduceNeg, Int.reduceBEq, Int.reducePow, Nat.reducePow]
    rfl
theorem loop56 (t1 t2 : Tag) (a b : List Int) (ha : Dig 10 a) (hb : Dig 10 b) (h1 : a.length ≤ 100000) (h2 : b.length = a.length) (x4 x5 : TV) (S : Store) : ∀ (k : Nat) (x6 x7 x8 : TV), k ≤ a.length →
    ∃ j y3 y6 y7 y8, (j = .exit 0 ∨ j = .ret) ∧ (j = .exit 0 → cmpI (val 10 (a.take k)) (val 10 (b.take k)) = 0) ∧ lp' (lim K) t56L0 [.iv (.sl t1 (one i64 a)), .iv (.sl t2 (one i64 b)), .iv (.int .i64 0), .iv (.int .i64 ((k : Int) - 1)), x4, x5, x6, x7, x8] S = .ret (j, [.iv (.sl t1 (one i64 a)), .iv (.sl t2 (one i64 b)), .iv (.int .i64 (cmpI (val 10 (a.take k)) (val 10 (b.take k)))), y3, x4, x5, y6, y7, y8], S)
  | 0, x6, x7, x8, h => by
    refine ⟨.exit 0, ?_, ?_, ?_, ?_, .inl rfl, fun _ => rfl, loop_at K _ _ t56L0.eq_1 ?_⟩
    rotate_left 4
    · rw [List.take_zero, List.take_zero, cmpI_self]
      simp (disch := omega) only [go_sem, Nat.reduceAdd, Nat.reduceSub, Nat.reduceLT, Nat.reduceLeDiff, Nat.reduceEqDiff, Nat.reduceBEq, reduceIte, reduceCtorEq, Int.reduceEq, Int.reduceLT, Int.reduceLE, Int.reduceAdd, Int.reduceSub, Int.reduceMul, Int.reduceToNat, Int.reduceNeg, Int.reduceBEq, Int.reducePow, Nat.reducePow]
      rfl
  | k + 1, x6, x7, x8, h => by
    have hix := ix_one i64 (t := t1) (l := a) (i := (k : Int)) (by omega)
    have hix2 := ix_one i64 (t := t2) (l := b) (i := (k : Int)) (by omega)
    rw [Int.toNat_natCast] at hix hix2
    simp only [i64] at hix hix2
    have hk : ((k + 1 : Nat) : Int) - 1 = k := by omega
    rw [hk, cmp_step (by decide) ha hb (by omega) (by omega)]
    by_cases hab : a.getD k default = b.getD k default
    · rw [if_pos hab]
      rw [hab] at hix
      obtain ⟨j, y3, y6, y7, y8, hj, hj2, ih⟩ := loop56 t1 t2 a b ha hb h1 h2 x4 x5 S k (.iv (.bool true)) (.iv (.bool false)) x8 (by omega)
      refine ⟨j, y3, y6, y7, y8, hj, hj2, loop_at K _ _ t56L0.eq_1 ?_⟩
      generalize cmpI (val 10 (a.take k)) (val 10 (b.take k)) = r at *
      generalize a.getD k default = p at *
      generalize b.getD k default = q at *
      simp (config := { maxSteps := 4000000 }) (disch := omega) only [go_sem, Nat.reduceAdd, Nat.reduceSub, Nat.reduceLT, Nat.reduceLeDiff, Nat.reduceEqDiff, Nat.reduceBEq, reduceIte, reduceCtorEq, Int.reduceEq, Int.reduceLT, Int.reduceLE, Int.reduceAdd, Int.reduceSub, Int.reduceMul, Int.reduceToNat, Int.reduceNeg, Int.reduceBEq, Int.reducePow, Nat.reducePow, hix, hix2, wrap_i64]
      exact congrArg er ih
    · rw [if_neg hab]
      generalize a.getD k default = p at *
      generalize b.getD k default = q at *
      by_cases hlt : p < q
      · rw [cmpI_lt hlt]
        refine ⟨.ret, ?_, ?_, ?_, ?_, .inr rfl, (fun h => by cases h), loop_at K _ _ t56L0.eq_1 ?_⟩
        rotate_left 4
        · simp (config := { maxSteps := 4000000 }) (disch := omega) only [go_sem, Nat.reduceAdd, Nat.reduceSub, Nat.reduceLT, Nat.reduceLeDiff, Nat.reduceEqDiff, Nat.reduceBEq, reduceIte, reduceCtorEq, Int.reduceEq, Int.reduceLT, Int.reduceLE, Int.reduceAdd, Int.reduceSub, Int.reduceMul, Int.reduceToNat, Int.reduceNeg, Int.reduceBEq, Int.reducePow, Nat.reducePow, hix, hix2, wrap_i64]
          rfl
      · rw [cmpI_gt (by omega)]
        refine ⟨.ret, ?_, ?_, ?_, ?_, .inr rfl, (fun h => by cases h), loop_at K _ _ t56L0.eq_1 ?_⟩
        rotate_left 4
        · simp (config := { maxSteps := 4000000 }) (disch := omega) only [go_sem, Nat.reduceAdd, Nat.reduceSub, Nat.reduceLT, Nat.reduceLeDiff, Nat.reduceEqDiff, Nat.reduceBEq, reduceIte, reduceCtorEq, Int.reduceEq, Int.reduceLT, Int.reduceLE, Int.reduceAdd, Int.reduceSub, Int.reduceMul, Int.reduceToNat, Int.reduceNeg, Int.reduceBEq, Int.reducePow, Nat.reducePow, hix, hix2, wrap_i64]
          rfl
theorem call56 (t1 t2 : Tag) (a b : List Int) (ha : Dig 10 a) (hb : Dig 10 b) (ta : tr a = a) (tb : tr b = b) (h1 : a.length ≤ 90000) (h2 : b.length ≤ 90000) :
    (lim K).call 56 [.iv (.sl t1 (one i64 a)), .iv (.sl t2 (one i64 b))] [] = .ret (.iv (.int .i64 (cmpI (val 10 a) (val 10 b))), []) := by
  refine call_ret' K [] (fn := t56) rfl rfl ?_
  by_cases hlen : a.length = b.length
  · obtain ⟨j, y3, y6, y7, y8, hj, hj2, e⟩ := loop56 t1 t2 a b ha hb (by omega) hlen.symm (.iv (.bool false)) (.tup []) [] a.length (.tup []) (.tup []) (.tup []) (Nat.le_refl _)
    have e1 : b.take a.length = b := by rw [hlen, List.take_length]
    rw [e1, List.take_length] at e hj2
    have hz : (a.length : Int) = b.length := by omega
    rw [hz] at e
    rcases hj with rfl | rfl
    · rw [hj2 rfl] at e ⊢
      simp (config := { maxSteps := 4000000 }) (disch := omega) only [t56, go_sem, Nat.reduceAdd, Nat.reduceSub, Nat.reduceLT, Nat.reduceLeDiff, Nat.reduceEqDiff, Nat.reduceBEq, reduceIte, reduceCtorEq, Int.reduceEq, Int.reduceLT, Int.reduceLE, Int.reduceAdd, Int.reduceSub, Int.reduceMul, Int.reduceToNat, Int.reduceNeg, Int.reduceBEq, Int.reducePow, Nat.reducePow, hz, wrap_i64, e]
    · simp (config := { maxSteps := 4000000 }) (disch := omega) only [t56, go_sem, Nat.reduceAdd, Nat.reduceSub, Nat.reduceLT, Nat.reduceLeDiff, Nat.reduceEqDiff, Nat.reduceBEq, reduceIte, reduceCtorEq, Int.reduceEq, Int.reduceLT, Int.reduceLE, Int.reduceAdd, Int.reduceSub, Int.reduceMul, Int.reduceToNat, Int.reduceNeg, Int.reduceBEq, Int.reducePow, Nat.reducePow, hz, wrap_i64, e]
  · by_cases hlt : a.length < b.length
    · rw [cmpI_lt (tr_cmp_len (by decide) ha hb (by rw [ta, tb]; exact hlt))]
      simp (config := { maxSteps := 4000000 }) (disch := omega) only [t56, go_sem, Nat.reduceAdd, Nat.reduceSub, Nat.reduceLT, Nat.reduceLeDiff, Nat.reduceEqDiff, Nat.reduceBEq, reduceIte, reduceCtorEq, Int.reduceEq, Int.reduceLT, Int.reduceLE, Int.reduceAdd, Int.reduceSub, Int.reduceMul, Int.reduceToNat, Int.reduceNeg, Int.reduceBEq, Int.reducePow, Nat.reducePow, wrap_i64]
    · rw [cmpI_gt (tr_cmp_len (by decide) hb ha (by rw [ta, tb]; omega))]
      simp (config := { maxSteps := 4000000 }) (disch := omega) only [t56, go_sem, Nat.reduceAdd, Nat.reduceSub, Nat.reduceLT, Nat.reduceLeDiff, Nat.reduceEqDiff, Nat.reduceBEq, reduceIte, reduceCtorEq, Int.reduceEq, Int.reduceLT, Int.reduceLE, Int.reduceAdd, Int.reduceSub, Int.reduceMul, Int.reduceToNat, Int.reduceNeg, Int.reduceBEq, Int.reducePow, Nat.reducePow, wrap_i64]
theorem loop57 (t1 t2 : Tag) (a b : List Int) (ha : Dig 10 a) (hb : Dig 10 b) (h1 : a.length ≤ 400000) (h2 : b.length ≤ 400000) (x2 : TV) : ∀ (k i : Nat) (c : Int) (d : List Int) (x6 : TV), a.length + 1 ≤ i + k → b.length + 1 ≤ i + k → i + k ≤ 900000 → d.length = i → 0 ≤ c ∧ c ≤ 1 → (c = 0 ∨ i ≤ a.length ∨ i ≤ b.length) →
    ∃ o j y6, Dig 10 o ∧ o.length ≤ k ∧ val 10 o = c + (val 10 (a.drop i) + val 10 (b.drop i)) ∧ lp' (lim K) t57L0 [.iv (.sl t1 (one i64 a)), .iv (.sl t2 (one i64 b)), x2, acc 0 (one i64 d), .iv (.int .i64 c), .iv (.int .i64 i), x6] (accS 1 3 (one i64 d)) = .ret (.exit 0, [.iv (.sl t1 (one i64 a)), .iv (.sl t2 (one i64 b)), x2, acc 0 (one i64 (d ++ o)), .iv (.int .i64 0), j, y6], accS 1 3 (one i64 (d ++ o))) := by
  intro k
  induction k with
  | zero =>
    intro i c d x6 g1 g2 hi hd hc hcc
    obtain rfl : c = 0 := by omega
    rw [List.drop_of_length_le (by omega), List.drop_of_length_le (by omega)]
    refine ⟨[], ?_, ?_, Dig.nil, by simp, by simp [val], loop_at K _ _ t57L0.eq_1 ?_⟩
    rotate_left 2
    · simp (disch := omega) only [go_sem, Nat.reduceAdd, Nat.reduceSub, Nat.reduceLT, Nat.reduceLeDiff, Nat.reduceEqDiff, Nat.reduceBEq, reduceIte, reduceCtorEq, Int.reduceEq, Int.reduceLT, Int.reduceLE, Int.reduceAdd, Int.reduceSub, Int.reduceMul, Int.reduceToNat, Int.reduceNeg, Int.reduceBEq, Int.reducePow, Nat.reducePow, List.append_nil]
      rfl
  | succ k ih =>
    intro i c d x6 g1 g2 hi hd hc hcc
    by_cases hex : a.length ≤ i ∧ b.length ≤ i ∧ c = 0
    · obtain ⟨e1, e2, rfl⟩ := hex
      rw [List.drop_of_length_le e1, List.drop_of_length_le e2]
      refine ⟨[], ?_, ?_, Dig.nil, by simp, by simp [val], loop_at K _ _ t57L0.eq_1 ?_⟩
      rotate_left 2
      · simp (disch := omega) only [go_sem, Nat.reduceAdd, Nat.reduceSub, Nat.reduceLT, Nat.reduceLeDiff, Nat.reduceEqDiff, Nat.reduceBEq, reduceIte, reduceCtorEq, Int.reduceEq, Int.reduceLT, Int.reduceLE, Int.reduceAdd, Int.reduceSub, Int.reduceMul, Int.reduceToNat, Int.reduceNeg, Int.reduceBEq, Int.reducePow, Nat.reducePow, List.append_nil]
        rfl
    · have q1 := ha.getD0 (by decide) i
      have q2 := hb.getD0 (by decide) i
      have c1 := call79 t1 a (by omega) i (by omega)
      have c2 := call79 t2 b (by omega) i (by omega)
      rw [val_drop _ a i, val_drop _ b i]
      have hcc' : (c + a.getD i default + b.getD i default) / 10 = 0 ∨ i + 1 ≤ a.length ∨ i + 1 ≤ b.length := by
        by_cases z1 : i < a.length
        · omega
        · by_cases z2 : i < b.length
          · omega
          · left
            have e1 : a.getD i default = 0 := by rw [List.getD, List.getElem?_eq_none (by omega)]; rfl
            have e2 : b.getD i default = 0 := by rw [List.getD, List.getElem?_eq_none (by omega)]; rfl
            rw [e1, e2]; omega
      have tm : (c + a.getD i default + b.getD i default).tmod 10 = (c + a.getD i default + b.getD i default) % 10 := tmod_nn (by omega)
      have td : (c + a.getD i default + b.getD i default).tdiv 10 = (c + a.getD i default + b.getD i default) / 10 := tdiv_nn (by omega)
      have hap := ap_acc1 (w := 1) (b := 8) (el := 3) (t := .full) (i64_ok ((c + a.getD i default + b.getD i default) % 10)) (Elems.one (f := i64) (fun _ => rfl) d) (roomy_ok (by rw [one_length]; omega))
      rw [one_snoc] at hap
      generalize a.getD i default = p at *
      generalize b.getD i default = q at *
      obtain ⟨s, hs⟩ : ∃ s, s = c + p + q := ⟨_, rfl⟩
      rw [← hs] at hcc' tm td hap
      obtain ⟨o, j, y6, r1, r2, r3, e⟩ := ih (i + 1) (s / 10) (d ++ [s % 10]) (.iv (.bool true)) (by omega) (by omega) (by omega) (by simp [hd]) (by omega) hcc'
      refine ⟨s % 10 :: o, j, y6, Dig.cons (by omega) r1, by simp; omega, by simp only [val]; omega, loop_at K _ _ t57L0.eq_1 ?_⟩
      rw [List.append_assoc, List.cons_append, List.nil_append] at e
      simp only [i64] at hap
      by_cases z1 : i < a.length
      · simp (config := { maxSteps := 4000000 }) (disch := omega) only [go_sem, Nat.reduceAdd, Nat.reduceSub, Nat.reduceLT, Nat.reduceLeDiff, Nat.reduceEqDiff, Nat.reduceBEq, reduceIte, reduceCtorEq, Int.reduceEq, Int.reduceLT, Int.reduceLE, Int.reduceAdd, Int.reduceSub, Int.reduceMul, Int.reduceToNat, Int.reduceNeg, Int.reduceBEq, Int.reducePow, Nat.reducePow, c1, c2, wrap_i64, ← hs, tm, td, hap]
        exact congrArg er e
      · by_cases z2 : i < b.length
        · simp (config := { maxSteps := 4000000 }) (disch := omega) only [go_sem, Nat.reduceAdd, Nat.reduceSub, Nat.reduceLT, Nat.reduceLeDiff, Nat.reduceEqDiff, Nat.reduceBEq, reduceIte, reduceCtorEq, Int.reduceEq, Int.reduceLT, Int.reduceLE, Int.reduceAdd, Int.reduceSub, Int.reduceMul, Int.reduceToNat, Int.reduceNeg, Int.reduceBEq, Int.reducePow, Nat.reducePow, c1, c2, wrap_i64, ← hs, tm, td, hap]
          exact congrArg er e
        · simp (config := { maxSteps := 4000000 }) (disch := omega) only [go_sem, Nat.reduceAdd, Nat.reduceSub, Nat.reduceLT, Nat.reduceLeDiff, Nat.reduceEqDiff, Nat.reduceBEq, reduceIte, reduceCtorEq, Int.reduceEq, Int.reduceLT, Int.reduceLE, Int.reduceAdd, Int.reduceSub, Int.reduceMul, Int.reduceToNat, Int.reduceNeg, Int.reduceBEq, Int.reducePow, Nat.reducePow, c1, c2, wrap_i64, ← hs, tm, td, hap]
          exact congrArg er e
theorem call57 (t1 t2 : Tag) (a b : List Int) (ha : Dig 10 a) (hb : Dig 10 b) (h1 : a.length ≤ 200000) (h2 : b.length ≤ 200000) :
    ∃ t' o, TagOk t' o ∧ Dig 10 o ∧ o.length ≤ a.length + b.length + 1 ∧ val 10 o = val 10 a + val 10 b ∧ Pure K 57 [.iv (.sl t1 (one i64 a)), .iv (.sl t2 (one i64 b))] (.iv (.sl t' (one i64 o))) := by
  obtain ⟨o, j, y6, r1, r2, r3, e⟩ := loop57 t1 t2 a b ha hb (by omega) (by omega) (.iv (.sl .nil [])) (a.length + b.length + 1) 0 0 [] (.tup []) (by omega) (by omega) (by omega) rfl (by omega) (.inl rfl)
  rw [List.drop_zero, List.drop_zero] at r3
  refine ⟨sTag o, o, sTag_ok _, r1, r2, by omega, call_pure t57 rfl rfl ?_⟩
  rw [List.nil_append, show ((0 : Nat) : Int) = 0 from rfl] at e
  have e0 : acc 0 (one i64 []) = .iv (.sl .nil []) := acc_nil 0
  have e1 : accS 1 3 (one i64 []) = [] := accS_nil 1 3
  rw [e0, e1] at e
  simp (config := { maxSteps := 4000000 }) (disch := omega) only [t57, go_sem, Nat.reduceAdd, Nat.reduceSub, Nat.reduceLT, Nat.reduceLeDiff, Nat.reduceEqDiff, Nat.reduceBEq, reduceIte, reduceCtorEq, Int.reduceEq, Int.reduceLT, Int.reduceLE, Int.reduceAdd, Int.reduceSub, Int.reduceMul, Int.reduceToNat, Int.reduceNeg, Int.reduceBEq, Int.reducePow, Nat.reducePow, e, resB_ret, resolve_acc, resO_some]
  rw [show sTag (one i64 o) = sTag o from sTag_map _ _]
end Go.Proofs.YtdbffhgfjmhaiaaDoor
