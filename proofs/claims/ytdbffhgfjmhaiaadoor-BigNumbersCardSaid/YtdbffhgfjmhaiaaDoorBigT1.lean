/- The document's order of numbers, and what lies between. Condition: none. -/
import Derived.Test.YtdbffhgfjmhaiaaDoorBigSG
set_option maxRecDepth 100000
set_option maxHeartbeats 2000000
set_option linter.unusedSimpArgs false
set_option linter.unusedVariables false
namespace Go.Proofs.YtdbffhgfjmhaiaaDoor
open Go Go.TM
theorem loop56 (t1 t2 : Tag) (a b : List Int) (ha : Dig 10 a) (hb : Dig 10 b) (h1 : a.length ≤ 100000) (h2 : b.length = a.length) (x4 x5 : TV) (S : Store) : ∀ (k : Nat) (x6 x7 x8 : TV), k ≤ a.length →
    ∃ j y3 y6 y7 y8, (j = .exit 0 ∨ j = .ret) ∧ (j = .exit 0 → cmpI (val 10 (a.take k)) (val 10 (b.take k)) = 0) ∧ lp' (lim K) t56L0 [.iv (.sl t1 (one i64 a)), .iv (.sl t2 (one i64 b)), .iv (.int .i64 0), .iv (.int .i64 ((k : Int) - 1)), x4, x5, x6, x7, x8] S = .ret (j, [.iv (.sl t1 (one i64 a)), .iv (.sl t2 (one i64 b)), .iv (.int .i64 (cmpI (val 10 (a.take k)) (val 10 (b.take k)))), y3, x4, x5, y6, y7, y8], S)
  | 0, x6, x7, x8, h => by
    refine ⟨.exit 0, ?_, ?_, ?_, ?_, .inl rfl, fun _ => rfl, loop_at K _ _ t56L0.eq_1 ?_⟩
    rotate_left 4
    · rw [List.take_zero, List.take_zero, cmpI_self]
      simp (disch := omega) only [go_sem, Nat.reduceAdd, Nat.reduceSub, Nat.reduceLT, Nat.reduceLeDiff, Nat.reduceEqDiff, Nat.reduceBEq, reduceIte, reduceCtorEq, Int.reduceEq, Int.reduceLT, Int.reduceLE, Int.reduceAdd, Int.reduceSub, Int.reduceMul, Int.reduceToNat, Int.reduceNeg, Int.reduceBEq, Int.reducePow, Nat.reducePow]
      rfl
  | k + 1, x6, x7, x8, h => by
    have hix := ix_one i64 (t := t1) (l := a) (i := (k : Int)) (by omega)
    have hix2 := ix_one i64 (t := t2) (l := b) (i := (k : Int)) (by omega)
    rw [Int.toNat_natCast] at hix hix2
    simp only [i64] at hix hix2
    have hk : ((k + 1 : Nat) : Int) - 1 = k := by omega
    rw [hk, cmp_step (by decide) ha hb (by omega) (by omega)]
    by_cases hab : a.getD k default = b.getD k default
    · rw [if_pos hab]
      rw [hab] at hix
      obtain ⟨j, y3, y6, y7, y8, hj, hj2, ih⟩ := loop56 t1 t2 a b ha hb h1 h2 x4 x5 S k (.iv (.bool true)) (.iv (.bool false)) x8 (by omega)
      refine ⟨j, y3, y6, y7, y8, hj, hj2, loop_at K _ _ t56L0.eq_1 ?_⟩
      generalize cmpI (val 10 (a.take k)) (val 10 (b.take k)) = r at *
      generalize a.getD k default = p at *
      generalize b.getD k default = q at *
      simp (config := { maxSteps := 4000000 }) (disch := omega) only [go_sem, Nat.reduceAdd, Nat.reduceSub, Nat.reduceLT, Nat.reduceLeDiff, Nat.reduceEqDiff, Nat.reduceBEq, reduceIte, reduceCtorEq, Int.reduceEq, Int.reduceLT, Int.reduceLE, Int.reduceAdd, Int.reduceSub, Int.reduceMul, Int.reduceToNat, Int.reduceNeg, Int.reduceBEq, Int.reducePow, Nat.reducePow, hix, hix2, wrap_i64]
      exact congrArg er ih
    · rw [if_neg hab]
      generalize a.getD k default = p at *
      generalize b.getD k default = q at *
      by_cases hlt : p < q
      · rw [cmpI_lt hlt]
        refine ⟨.ret, ?_, ?_, ?_, ?_, .inr rfl, (fun h => by cases h), loop_at K _ _ t56L0.eq_1 ?_⟩
        rotate_left 4
        · simp (config := { maxSteps := 4000000 }) (disch := omega) only [go_sem, Nat.reduceAdd, Nat.reduceSub, Nat.reduceLT, Nat.reduceLeDiff, Nat.reduceEqDiff, Nat.reduceBEq, reduceIte, reduceCtorEq, Int.reduceEq, Int.reduceLT, Int.reduceLE, Int.reduceAdd, Int.reduceSub, Int.reduceMul, Int.reduceToNat, Int.reduceNeg, Int.reduceBEq, Int.reducePow, Nat.reducePow, hix, hix2, wrap_i64]
          rfl
      · rw [cmpI_gt (by omega)]
        refine ⟨.ret, ?_, ?_, ?_, ?_, .inr rfl, (fun h => by cases h), loop_at K _ _ t56L0.eq_1 ?_⟩
        rotate_left 4
        · simp (config := { maxSteps := 4000000 }) (disch := omega) only [go_sem, Nat.reduceAdd, Nat.reduceSub, Nat.reduceLT, Nat.reduceLeDiff, Nat.reduceEqDiff, Nat.reduceBEq, reduceIte, reduceCtorEq, Int.reduceEq, Int.reduceLT, Int.reduceLE, Int.reduceAdd, Int.reduceSub, Int.reduceMul, Int.reduceToNat, Int.reduceNeg, Int.reduceBEq, Int.reducePow, Nat.reducePow, hix, hix2, wrap_i64]
          rfl
theorem call56 (t1 t2 : Tag) (a b : List Int) (ha : Dig 10 a) (hb : Dig 10 b) (ta : tr a = a) (tb : tr b = b) (h1 : a.length ≤ 90000) (h2 : b.length ≤ 90000) :
    (lim K).call 56 [.iv (.sl t1 (one i64 a)), .iv (.sl t2 (one i64 b))] [] = .ret (.iv (.int .i64 (cmpI (val 10 a) (val 10 b))), []) := by
  refine call_ret' K [] (fn := t56) rfl rfl ?_
  by_cases hlen : a.length = b.length
  · obtain ⟨j, y3, y6, y7, y8, hj, hj2, e⟩ := loop56 t1 t2 a b ha hb (by omega) hlen.symm (.iv (.bool false)) (.tup []) [] a.length (.tup []) (.tup []) (.tup []) (Nat.le_refl _)
    have e1 : b.take a.length = b := by rw [hlen, List.take_length]
    rw [e1, List.take_length] at e hj2
    have hz : (a.length : Int) = b.length := by omega
    rw [hz] at e
    rcases hj with rfl | rfl
    · rw [hj2 rfl] at e ⊢
      simp (config := { maxSteps := 4000000 }) (disch := omega) only [t56, go_sem, Nat.reduceAdd, Nat.reduceSub, Nat.reduceLT, Nat.reduceLeDiff, Nat.reduceEqDiff, Nat.reduceBEq, reduceIte, reduceCtorEq, Int.reduceEq, Int.reduceLT, Int.reduceLE, Int.reduceAdd, Int.reduceSub, Int.reduceMul, Int.reduceToNat, Int.reduceNeg, Int.reduceBEq, Int.reducePow, Nat.reducePow, hz, wrap_i64, e]
    · simp (config := { maxSteps := 4000000 }) (disch := omega) only [t56, go_sem, Nat.reduceAdd, Nat.reduceSub, Nat.reduceLT, Nat.reduceLeDiff, Nat.reduceEqDiff, Nat.reduceBEq, reduceIte, reduceCtorEq, Int.reduceEq, Int.reduceLT, Int.reduceLE, Int.reduceAdd, Int.reduceSub, Int.reduceMul, Int.reduceToNat, Int.reduceNeg, Int.reduceBEq, Int.reducePow, Nat.reducePow, hz, wrap_i64, e]
  · by_cases hlt : a.length < b.length
    · rw [cmpI_lt (tr_cmp_len (by decide) ha hb (by rw [ta, tb]; exact hlt))]
      simp (config := { maxSteps := 4000000 }) (disch := omega) only [t56, go_sem, Nat.reduceAdd, Nat.reduceSub, Nat.reduceLT, Nat.reduceLeDiff, Nat.reduceEqDiff, Nat.reduceBEq, reduceIte, reduceCtorEq, Int.reduceEq, Int.reduceLT, Int.reduceLE, Int.reduceAdd, Int.reduceSub, Int.reduceMul, Int.reduceToNat, Int.reduceNeg, Int.reduceBEq, Int.reducePow, Nat.reducePow, wrap_i64]
    · rw [cmpI_gt (tr_cmp_len (by decide) hb ha (by rw [ta, tb]; omega))]
      simp (config := { maxSteps := 4000000 }) (disch := omega) only [t56, go_sem, Nat.reduceAdd, Nat.reduceSub, Nat.reduceLT, Nat.reduceLeDiff, Nat.reduceEqDiff, Nat.reduceBEq, reduceIte, reduceCtorEq, Int.reduceEq, Int.reduceLT, Int.reduceLE, Int.reduceAdd, Int.reduceSub, Int.reduceMul, Int.reduceToNat, Int.reduceNeg, Int.reduceBEq, Int.reducePow, Nat.reducePow, wrap_i64]
theorem dd_eq (t : Tag) (z : Int) : dd t z = .agg [.bool (decide (z < 0)), .sl t (one i64 (dg 10 z.natAbs))] := rfl
theorem dig10 (z : Int) : Dig 10 (dg 10 z.natAbs) := dg_dig (by decide) (by omega)
theorem val10 (z : Int) : val 10 (dg 10 z.natAbs) = z.natAbs := val_dg (by decide) (by omega)
theorem tr10 (z : Int) : tr (dg 10 z.natAbs) = dg 10 z.natAbs := tr_dg (by decide) (by omega)
theorem refCmp (t1 t2 : Tag) (x y : Int) (l1 : (dg 10 x.natAbs).length ≤ 90000) (l2 : (dg 10 y.natAbs).length ≤ 90000) :
    (lim K).call 30 [.iv (dd t1 x), .iv (dd t2 y)] [] = .ret (.iv (.int .i64 (cmpI x y)), []) := by
  have c1 := call56 t1 t2 _ _ (dig10 x) (dig10 y) (tr10 x) (tr10 y) (by omega) (by omega)
  have c2 := call56 t2 t1 _ _ (dig10 y) (dig10 x) (tr10 y) (tr10 x) (by omega) (by omega)
  rw [val10, val10] at c1 c2
  refine call_ret' K [] (fn := t30) rfl rfl ?_
  simp only [dd_eq]
  by_cases h1 : x < 0
  · by_cases h2 : y < 0
    · have e : cmpI (y.natAbs : Int) x.natAbs = cmpI x y := by
        unfold cmpI; repeat' split
        all_goals omega
      rw [e] at c2
      generalize dg 10 x.natAbs = lx at *
      generalize dg 10 y.natAbs = ly at *
      generalize cmpI x y = r at *
      simp (config := { maxSteps := 4000000 }) (disch := omega) only [t30, go_sem, Nat.reduceAdd, Nat.reduceSub, Nat.reduceLT, Nat.reduceLeDiff, Nat.reduceEqDiff, Nat.reduceBEq, reduceIte, reduceCtorEq, Int.reduceEq, Int.reduceLT, Int.reduceLE, Int.reduceAdd, Int.reduceSub, Int.reduceMul, Int.reduceToNat, Int.reduceNeg, Int.reduceBEq, Int.reducePow, Nat.reducePow, h1, h2, c2]
    · have e : cmpI x y = -1 := cmpI_lt (by omega)
      rw [e]
      simp (config := { maxSteps := 4000000 }) (disch := omega) only [t30, go_sem, Nat.reduceAdd, Nat.reduceSub, Nat.reduceLT, Nat.reduceLeDiff, Nat.reduceEqDiff, Nat.reduceBEq, reduceIte, reduceCtorEq, Int.reduceEq, Int.reduceLT, Int.reduceLE, Int.reduceAdd, Int.reduceSub, Int.reduceMul, Int.reduceToNat, Int.reduceNeg, Int.reduceBEq, Int.reducePow, Nat.reducePow, h1, h2]
  · by_cases h2 : y < 0
    · have e : cmpI x y = 1 := cmpI_gt (by omega)
      rw [e]
      simp (config := { maxSteps := 4000000 }) (disch := omega) only [t30, go_sem, Nat.reduceAdd, Nat.reduceSub, Nat.reduceLT, Nat.reduceLeDiff, Nat.reduceEqDiff, Nat.reduceBEq, reduceIte, reduceCtorEq, Int.reduceEq, Int.reduceLT, Int.reduceLE, Int.reduceAdd, Int.reduceSub, Int.reduceMul, Int.reduceToNat, Int.reduceNeg, Int.reduceBEq, Int.reducePow, Nat.reducePow, h1, h2]
    · have e : cmpI (x.natAbs : Int) y.natAbs = cmpI x y := by
        unfold cmpI; repeat' split
        all_goals omega
      rw [e] at c1
      generalize dg 10 x.natAbs = lx at *
      generalize dg 10 y.natAbs = ly at *
      generalize cmpI x y = r at *
      simp (config := { maxSteps := 4000000 }) (disch := omega) only [t30, go_sem, Nat.reduceAdd, Nat.reduceSub, Nat.reduceLT, Nat.reduceLeDiff, Nat.reduceEqDiff, Nat.reduceBEq, reduceIte, reduceCtorEq, Int.reduceEq, Int.reduceLT, Int.reduceLE, Int.reduceAdd, Int.reduceSub, Int.reduceMul, Int.reduceToNat, Int.reduceNeg, Int.reduceBEq, Int.reducePow, Nat.reducePow, h1, h2, c1]
theorem refParse (s : List UInt8) (hl : s.length ≤ 100) (hok : okP s = true) : ∃ t', TagOk t' (dg 10 (dec (body s))) ∧ Pure K 13 [.iv (.str s)] (.tup [.iv (dd t' (sv (neg0 s) (dec (body s)))), .iv (.int .i64 0)]) := by
  obtain ⟨t', h1, h2⟩ := call13 s (by omega)
  rw [if_pos hok, dnum_dd (dec_nonneg (by simp only [okP, Bool.and_eq_true] at hok; exact hok.2))] at h2
  exact ⟨t', h1, h2⟩
theorem call22 (t : Tag) (x : Int) (lx : (dg 10 x.natAbs).length ≤ 90000) (s1 s2 : List UInt8) (a b : Int) (h1 : s1.length ≤ 100) (h2 : s2.length ≤ 100) (o1 : okP s1 = true) (o2 : okP s2 = true) (e1 : sv (neg0 s1) (dec (body s1)) = a) (e2 : sv (neg0 s2) (dec (body s2)) = b) (l1 : (dg 10 a.natAbs).length ≤ 90000) (l2 : (dg 10 b.natAbs).length ≤ 90000) :
    (lim K).call 22 [.iv (dd t x), .iv (.str s1), .iv (.str s2)] [] = .ret (.iv (.bool (decide (a ≤ x ∧ x ≤ b))), []) := by
  obtain ⟨ta, _, p1⟩ := refParse s1 h1 o1
  obtain ⟨tb, _, p2⟩ := refParse s2 h2 o2
  rw [e1] at p1
  rw [e2] at p2
  have c1 := refCmp t ta x a lx l1
  have c2 := refCmp t tb x b lx l2
  refine call_ret' K [] (fn := t22) rfl rfl ?_
  simp only [dd_eq] at p1 p2 c1 c2 ⊢
  have r1 : cmpI x a = -1 ∧ x < a ∨ cmpI x a = 0 ∧ x = a ∨ cmpI x a = 1 ∧ a < x := by unfold cmpI; repeat' split; all_goals omega
  have r2 : cmpI x b = -1 ∧ x < b ∨ cmpI x b = 0 ∧ x = b ∨ cmpI x b = 1 ∧ b < x := by unfold cmpI; repeat' split; all_goals omega
  have sn := fun (b : Bool) t l => scalar_num b t l
  generalize cmpI x a = r at *
  generalize cmpI x b = q at *
  generalize decide (x < 0) = nx at *
  generalize decide (a < 0) = na at *
  generalize decide (b < 0) = nb at *
  generalize dg 10 x.natAbs = lx at *
  generalize dg 10 a.natAbs = la at *
  generalize dg 10 b.natAbs = lb at *
  by_cases hr : 0 ≤ r
  · by_cases hq : q ≤ 0
    · rw [decide_eq_true (show a ≤ x ∧ x ≤ b by omega)]
      simp (config := { maxSteps := 4000000 }) (disch := omega) only [t22, go_sem, Nat.reduceAdd, Nat.reduceSub, Nat.reduceLT, Nat.reduceLeDiff, Nat.reduceEqDiff, Nat.reduceBEq, reduceIte, reduceCtorEq, Int.reduceEq, Int.reduceLT, Int.reduceLE, Int.reduceAdd, Int.reduceSub, Int.reduceMul, Int.reduceToNat, Int.reduceNeg, Int.reduceBEq, Int.reducePow, Nat.reducePow, cpR_pure p1, cpR_pure p2, sn, c1, c2]
    · rw [decide_eq_false (show ¬ (a ≤ x ∧ x ≤ b) by omega)]
      simp (config := { maxSteps := 4000000 }) (disch := omega) only [t22, go_sem, Nat.reduceAdd, Nat.reduceSub, Nat.reduceLT, Nat.reduceLeDiff, Nat.reduceEqDiff, Nat.reduceBEq, reduceIte, reduceCtorEq, Int.reduceEq, Int.reduceLT, Int.reduceLE, Int.reduceAdd, Int.reduceSub, Int.reduceMul, Int.reduceToNat, Int.reduceNeg, Int.reduceBEq, Int.reducePow, Nat.reducePow, cpR_pure p1, cpR_pure p2, sn, c1, c2]
  · rw [decide_eq_false (show ¬ (a ≤ x ∧ x ≤ b) by omega)]
    simp (config := { maxSteps := 4000000 }) (disch := omega) only [t22, go_sem, Nat.reduceAdd, Nat.reduceSub, Nat.reduceLT, Nat.reduceLeDiff, Nat.reduceEqDiff, Nat.reduceBEq, reduceIte, reduceCtorEq, Int.reduceEq, Int.reduceLT, Int.reduceLE, Int.reduceAdd, Int.reduceSub, Int.reduceMul, Int.reduceToNat, Int.reduceNeg, Int.reduceBEq, Int.reducePow, Nat.reducePow, cpR_pure p1, cpR_pure p2, sn, c1, c2]
end Go.Proofs.YtdbffhgfjmhaiaaDoor
