/- GraphRights: the document's Right, and the law. Condition: none. -/
import Derived.Test.YtmlhjdekfihdnaaGrC
set_option maxRecDepth 100000
set_option linter.unusedSimpArgs false
set_option linter.unusedVariables false
namespace Go.Proofs.Ytmlhjdekfihdnaa
open Go Go.TM
set_option maxHeartbeats 8000000 in
theorem loop12a (g : TV) (t1 : Tag) (E : List (Int × Int)) (t2 : Tag) (M : List (Int × Int)) (t : Tag) (l : List Int) (hl : l.length ≤ 1000000) (a5 a6 a7 a10 a11 : TV) : ∀ (k i : Nat) (x8 x9 : TV), i + k = l.length →
    ∃ y4 y8 y9, lp' (lim K) t12L1 [g, .iv (.sl t (one i64 l)), .lb (gcells l.length t1 E t2 M), .iv (.bool false), .iv (.int .i64 i), a5, a6, a7, x8, x9, a10, a11] [] = .ret (if ((List.range l.length).drop i).any (off l) then (.ret, [g, .iv (.sl t (one i64 l)), .lb (gcells l.length t1 E t2 M), .iv (.bool false), y4, a5, a6, a7, y8, y9, a10, a11], []) else (.exit 0, [g, .iv (.sl t (one i64 l)), .lb (gcells l.length t1 E t2 M), .iv (.bool false), y4, a5, a6, a7, y8, y9, a10, a11], []))
  | 0, i, x8, x9, h => by
    obtain rfl : i = l.length := by omega
    have e : ((List.range l.length).drop l.length).any (off l) = false := by rw [List.drop_of_length_le (by simp)]; rfl
    refine ⟨?_, ?_, ?_, loop_at K _ _ t12L1.eq_1 ?_⟩
    rotate_left 3
    · simp (disch := omega) only [go_sem, Nat.reduceAdd, Nat.reduceSub, Nat.reduceMul, Nat.reduceLT, Nat.reduceLeDiff, Nat.reduceEqDiff, Nat.reduceBEq, reduceIte, reduceCtorEq, List.replicate, List.cons_append, List.nil_append, Int.reduceEq, Int.reduceLT, Int.reduceLE, Int.reduceAdd, Int.reduceSub, Int.reduceMul, Int.reduceToNat, Int.reduceNeg, Int.reduceBEq, Int.reduceBNe, Int.reduceTDiv, Int.reduceTMod, Int.reducePow, Nat.reducePow, decide_true, decide_false, Nat.reduceDiv, Nat.reduceMod, Int.reduceMod, Int.reduceDiv, Int.reduceNe, Int.reduceFDiv, Nat.reduceLeDiff, beq_self_eq_true, decT, decF, ifT, ifF, eqT, eqF, neT, neF, bytesIV_length, one_length, get_cp, get_cp0, gcells, e]
      rfl
  | k + 1, i, x8, x9, h => by
    have hx := ix_one (f := i64) (t := t) (l := l) (i := (i : Int)) (by omega)
    rw [show (default : Int) = 0 from rfl, Int.toNat_natCast] at hx
    have e := range_any (q := off l) l.length i (by omega)
    have ih := loop12a g t1 E t2 M t l hl a5 a6 a7 a10 a11 k (i + 1)
    cases ho : off l i
    · obtain ⟨y4, y8, y9, ih⟩ := ih (.iv (.bool true)) (.iv (.bool false)) (by omega)
      rw [ho, Bool.false_or] at e
      rw [e]
      refine ⟨y4, y8, y9, loop_at K _ _ t12L1.eq_1 ?_⟩
      simp only [off] at ho
      simp only [gcells] at ih ⊢
      generalize l.getD i 0 = c at *
      by_cases h32 : i < 32
      · simp only [h32, ↓reduceIte, bne_eq_false_iff_eq] at ho
        simp (config := { maxSteps := 4000000 }) (disch := omega) only [go_sem, Nat.reduceAdd, Nat.reduceSub, Nat.reduceMul, Nat.reduceLT, Nat.reduceLeDiff, Nat.reduceEqDiff, Nat.reduceBEq, reduceIte, reduceCtorEq, List.replicate, List.cons_append, List.nil_append, Int.reduceEq, Int.reduceLT, Int.reduceLE, Int.reduceAdd, Int.reduceSub, Int.reduceMul, Int.reduceToNat, Int.reduceNeg, Int.reduceBEq, Int.reduceBNe, Int.reduceTDiv, Int.reduceTMod, Int.reducePow, Nat.reducePow, decide_true, decide_false, Nat.reduceDiv, Nat.reduceMod, Int.reduceMod, Int.reduceDiv, Int.reduceNe, Int.reduceFDiv, Nat.reduceLeDiff, beq_self_eq_true, decT, decF, ifT, ifF, eqT, eqF, neT, neF, bytesIV_length, one_length, get_cp, get_cp0, gcells, hx, i64, wrap_i64]
        exact congrArg er ih
      · simp only [h32, ↓reduceIte, Bool.and_eq_false_iff, bne_eq_false_iff_eq, Bool.or_eq_false_iff, decide_eq_false_iff_not] at ho
        by_cases hm : c = -1
        · simp (config := { maxSteps := 4000000 }) (disch := omega) only [go_sem, Nat.reduceAdd, Nat.reduceSub, Nat.reduceMul, Nat.reduceLT, Nat.reduceLeDiff, Nat.reduceEqDiff, Nat.reduceBEq, reduceIte, reduceCtorEq, List.replicate, List.cons_append, List.nil_append, Int.reduceEq, Int.reduceLT, Int.reduceLE, Int.reduceAdd, Int.reduceSub, Int.reduceMul, Int.reduceToNat, Int.reduceNeg, Int.reduceBEq, Int.reduceBNe, Int.reduceTDiv, Int.reduceTMod, Int.reducePow, Nat.reducePow, decide_true, decide_false, Nat.reduceDiv, Nat.reduceMod, Int.reduceMod, Int.reduceDiv, Int.reduceNe, Int.reduceFDiv, Nat.reduceLeDiff, beq_self_eq_true, decT, decF, ifT, ifF, eqT, eqF, neT, neF, bytesIV_length, one_length, get_cp, get_cp0, gcells, hx, i64, wrap_i64]
          exact congrArg er ih
        · simp (config := { maxSteps := 4000000 }) (disch := omega) only [go_sem, Nat.reduceAdd, Nat.reduceSub, Nat.reduceMul, Nat.reduceLT, Nat.reduceLeDiff, Nat.reduceEqDiff, Nat.reduceBEq, reduceIte, reduceCtorEq, List.replicate, List.cons_append, List.nil_append, Int.reduceEq, Int.reduceLT, Int.reduceLE, Int.reduceAdd, Int.reduceSub, Int.reduceMul, Int.reduceToNat, Int.reduceNeg, Int.reduceBEq, Int.reduceBNe, Int.reduceTDiv, Int.reduceTMod, Int.reducePow, Nat.reducePow, decide_true, decide_false, Nat.reduceDiv, Nat.reduceMod, Int.reduceMod, Int.reduceDiv, Int.reduceNe, Int.reduceFDiv, Nat.reduceLeDiff, beq_self_eq_true, decT, decF, ifT, ifF, eqT, eqF, neT, neF, bytesIV_length, one_length, get_cp, get_cp0, gcells, hx, i64, wrap_i64]
          exact congrArg er ih
    · rw [ho, Bool.true_or] at e
      rw [e]
      refine ⟨.iv (.int .i64 i), .iv (.bool true), .iv (.bool true), loop_at K _ _ t12L1.eq_1 ?_⟩
      simp only [off] at ho
      simp only [↓reduceIte, gcells]
      generalize l.getD i 0 = c at *
      by_cases h32 : i < 32
      · simp only [h32, ↓reduceIte, bne_iff_ne] at ho
        simp (config := { maxSteps := 4000000 }) (disch := omega) only [go_sem, Nat.reduceAdd, Nat.reduceSub, Nat.reduceMul, Nat.reduceLT, Nat.reduceLeDiff, Nat.reduceEqDiff, Nat.reduceBEq, reduceIte, reduceCtorEq, List.replicate, List.cons_append, List.nil_append, Int.reduceEq, Int.reduceLT, Int.reduceLE, Int.reduceAdd, Int.reduceSub, Int.reduceMul, Int.reduceToNat, Int.reduceNeg, Int.reduceBEq, Int.reduceBNe, Int.reduceTDiv, Int.reduceTMod, Int.reducePow, Nat.reducePow, decide_true, decide_false, Nat.reduceDiv, Nat.reduceMod, Int.reduceMod, Int.reduceDiv, Int.reduceNe, Int.reduceFDiv, Nat.reduceLeDiff, beq_self_eq_true, decT, decF, ifT, ifF, eqT, eqF, neT, neF, bytesIV_length, one_length, get_cp, get_cp0, gcells, hx, i64, wrap_i64]
      · simp only [h32, ↓reduceIte, Bool.and_eq_true, bne_iff_ne, Bool.or_eq_true, decide_eq_true_eq] at ho
        by_cases hm : c < 1
        · simp (config := { maxSteps := 4000000 }) (disch := omega) only [go_sem, Nat.reduceAdd, Nat.reduceSub, Nat.reduceMul, Nat.reduceLT, Nat.reduceLeDiff, Nat.reduceEqDiff, Nat.reduceBEq, reduceIte, reduceCtorEq, List.replicate, List.cons_append, List.nil_append, Int.reduceEq, Int.reduceLT, Int.reduceLE, Int.reduceAdd, Int.reduceSub, Int.reduceMul, Int.reduceToNat, Int.reduceNeg, Int.reduceBEq, Int.reduceBNe, Int.reduceTDiv, Int.reduceTMod, Int.reducePow, Nat.reducePow, decide_true, decide_false, Nat.reduceDiv, Nat.reduceMod, Int.reduceMod, Int.reduceDiv, Int.reduceNe, Int.reduceFDiv, Nat.reduceLeDiff, beq_self_eq_true, decT, decF, ifT, ifF, eqT, eqF, neT, neF, bytesIV_length, one_length, get_cp, get_cp0, gcells, hx, i64, wrap_i64]
        · simp (config := { maxSteps := 4000000 }) (disch := omega) only [go_sem, Nat.reduceAdd, Nat.reduceSub, Nat.reduceMul, Nat.reduceLT, Nat.reduceLeDiff, Nat.reduceEqDiff, Nat.reduceBEq, reduceIte, reduceCtorEq, List.replicate, List.cons_append, List.nil_append, Int.reduceEq, Int.reduceLT, Int.reduceLE, Int.reduceAdd, Int.reduceSub, Int.reduceMul, Int.reduceToNat, Int.reduceNeg, Int.reduceBEq, Int.reduceBNe, Int.reduceTDiv, Int.reduceTMod, Int.reducePow, Nat.reducePow, decide_true, decide_false, Nat.reduceDiv, Nat.reduceMod, Int.reduceMod, Int.reduceDiv, Int.reduceNe, Int.reduceFDiv, Nat.reduceLeDiff, beq_self_eq_true, decT, decF, ifT, ifF, eqT, eqF, neT, neF, bytesIV_length, one_length, get_cp, get_cp0, gcells, hx, i64, wrap_i64]
set_option maxHeartbeats 8000000 in
theorem loop12b (g : TV) (t1 : Tag) (E : List (Int × Int)) (hE : E.length ≤ 1000000) (t2 : Tag) (M : List (Int × Int)) (t : Tag) (l : List Int) (hl : l.length ≤ 1000000) (hin : ∀ p ∈ E, (0 ≤ p.1 ∧ p.1 < l.length) ∧ (0 ≤ p.2 ∧ p.2 < l.length)) (a4 a7 a8 a9 : TV) : ∀ (k i : Nat) (x6 x10 x11 : TV), i + k = E.length →
    ∃ y5 y6 y10 y11, lp' (lim K) t12L0 [g, .iv (.sl t (one i64 l)), .lb (gcells l.length t1 E t2 M), .iv (.bool false), a4, .iv (.int .i64 i), x6, a7, a8, a9, x10, x11] [] = .ret (if (E.drop i).any (clash l) then (.ret, [g, .iv (.sl t (one i64 l)), .lb (gcells l.length t1 E t2 M), .iv (.bool false), a4, y5, y6, a7, a8, a9, y10, y11], []) else (.exit 2, [g, .iv (.sl t (one i64 l)), .lb (gcells l.length t1 E t2 M), .iv (.bool false), a4, y5, y6, a7, a8, a9, y10, y11], []))
  | 0, i, x6, x10, x11, h => by
    obtain rfl : i = E.length := by omega
    have e : (E.drop E.length).any (clash l) = false := by rw [List.drop_of_length_le (by simp)]; rfl
    refine ⟨?_, ?_, ?_, ?_, loop_at K _ _ t12L0.eq_1 ?_⟩
    rotate_left 4
    · simp (disch := omega) only [go_sem, Nat.reduceAdd, Nat.reduceSub, Nat.reduceMul, Nat.reduceLT, Nat.reduceLeDiff, Nat.reduceEqDiff, Nat.reduceBEq, reduceIte, reduceCtorEq, List.replicate, List.cons_append, List.nil_append, Int.reduceEq, Int.reduceLT, Int.reduceLE, Int.reduceAdd, Int.reduceSub, Int.reduceMul, Int.reduceToNat, Int.reduceNeg, Int.reduceBEq, Int.reduceBNe, Int.reduceTDiv, Int.reduceTMod, Int.reducePow, Nat.reducePow, decide_true, decide_false, Nat.reduceDiv, Nat.reduceMod, Int.reduceMod, Int.reduceDiv, Int.reduceNe, Int.reduceFDiv, Nat.reduceLeDiff, beq_self_eq_true, decT, decF, ifT, ifF, eqT, eqF, neT, neF, bytesIV_length, one_length, get_cp, get_cp0, gcells, e, List.length_map]
      rfl
  | k + 1, i, x6, x10, x11, h => by
    have hd : E.drop i = E.getD i default :: E.drop (i + 1) := by
      rw [List.drop_eq_getElem_cons (by omega)]
      simp [List.getD, List.getElem?_eq_getElem (show i < E.length by omega)]
    have hg := ix_map (w := 2) (f := enc2) (fun _ => rfl) (t := t1) (l := E) (i := (i : Int)) (by omega)
    rw [Int.toNat_natCast] at hg
    have hp := hin (E.getD i default) (by simp only [List.getD, List.getElem?_eq_getElem (show i < E.length by omega), Option.getD_some]; exact List.getElem_mem _)
    have ih := loop12b g t1 E hE t2 M t l hl hin a4 a7 a8 a9 k (i + 1)
    have e : (E.drop i).any (clash l) = (clash l (E.getD i default) || (E.drop (i + 1)).any (clash l)) := by rw [hd, List.any_cons]
    generalize E.getD i default = p at *
    have hz : addOff (.iv (.cp (enc2 p))) 0 = some (.iv (.cp [.int .i64 p.1, .int .i64 p.2])) := rfl
    have hz1 : addOff (.iv (.cp (enc2 p))) 1 = some (.iv (.cp [.int .i64 p.2])) := rfl
    have h1 := ix_one (f := i64) (t := t) (l := l) (i := p.1) hp.1
    have h2 := ix_one (f := i64) (t := t) (l := l) (i := p.2) hp.2
    rw [show (default : Int) = 0 from rfl] at h1 h2
    rw [e]
    have hcl : ∀ b, clash l p = b → ((l.getD p.1.toNat 0 == l.getD p.2.toNat 0) && (l.getD p.1.toNat 0 != -1)) = b := fun b hb => hb
    generalize clash l p = cl at *
    have ho := hcl cl rfl
    clear hcl
    cases cl
    · obtain ⟨y5, y6, y10, y11, ih⟩ := ih (.iv (.int .i64 (l.getD p.1.toNat 0))) (.iv (.bool true)) (.iv (.bool false)) (by omega)
      refine ⟨y5, y6, y10, y11, loop_at K _ _ t12L0.eq_1 ?_⟩
      simp only [gcells] at ih ⊢
      rw [Bool.false_or]
      generalize l.getD p.1.toNat 0 = a at *
      generalize l.getD p.2.toNat 0 = b at *
      simp only [Bool.and_eq_false_iff, beq_eq_false_iff_ne, bne_eq_false_iff_eq] at ho
      by_cases e1 : a = b
      · simp (config := { maxSteps := 4000000 }) (disch := omega) only [go_sem, Nat.reduceAdd, Nat.reduceSub, Nat.reduceMul, Nat.reduceLT, Nat.reduceLeDiff, Nat.reduceEqDiff, Nat.reduceBEq, reduceIte, reduceCtorEq, List.replicate, List.cons_append, List.nil_append, Int.reduceEq, Int.reduceLT, Int.reduceLE, Int.reduceAdd, Int.reduceSub, Int.reduceMul, Int.reduceToNat, Int.reduceNeg, Int.reduceBEq, Int.reduceBNe, Int.reduceTDiv, Int.reduceTMod, Int.reducePow, Nat.reducePow, decide_true, decide_false, Nat.reduceDiv, Nat.reduceMod, Int.reduceMod, Int.reduceDiv, Int.reduceNe, Int.reduceFDiv, Nat.reduceLeDiff, beq_self_eq_true, decT, decF, ifT, ifF, eqT, eqF, neT, neF, bytesIV_length, one_length, get_cp, get_cp0, gcells, List.length_map, hg, hz, hz1, h1, h2, i64, wrap_i64]
        exact congrArg er ih
      · simp (config := { maxSteps := 4000000 }) (disch := omega) only [go_sem, Nat.reduceAdd, Nat.reduceSub, Nat.reduceMul, Nat.reduceLT, Nat.reduceLeDiff, Nat.reduceEqDiff, Nat.reduceBEq, reduceIte, reduceCtorEq, List.replicate, List.cons_append, List.nil_append, Int.reduceEq, Int.reduceLT, Int.reduceLE, Int.reduceAdd, Int.reduceSub, Int.reduceMul, Int.reduceToNat, Int.reduceNeg, Int.reduceBEq, Int.reduceBNe, Int.reduceTDiv, Int.reduceTMod, Int.reducePow, Nat.reducePow, decide_true, decide_false, Nat.reduceDiv, Nat.reduceMod, Int.reduceMod, Int.reduceDiv, Int.reduceNe, Int.reduceFDiv, Nat.reduceLeDiff, beq_self_eq_true, decT, decF, ifT, ifF, eqT, eqF, neT, neF, bytesIV_length, one_length, get_cp, get_cp0, gcells, List.length_map, hg, hz, hz1, h1, h2, i64, wrap_i64]
        exact congrArg er ih
    · refine ⟨.iv (.int .i64 i), .iv (.int .i64 (l.getD p.1.toNat 0)), .iv (.bool true), .iv (.bool true), loop_at K _ _ t12L0.eq_1 ?_⟩
      rw [Bool.true_or]
      simp only [↓reduceIte, gcells]
      generalize l.getD p.1.toNat 0 = a at *
      generalize l.getD p.2.toNat 0 = b at *
      simp only [Bool.and_eq_true, beq_iff_eq, bne_iff_ne] at ho
      simp (config := { maxSteps := 4000000 }) (disch := omega) only [go_sem, Nat.reduceAdd, Nat.reduceSub, Nat.reduceMul, Nat.reduceLT, Nat.reduceLeDiff, Nat.reduceEqDiff, Nat.reduceBEq, reduceIte, reduceCtorEq, List.replicate, List.cons_append, List.nil_append, Int.reduceEq, Int.reduceLT, Int.reduceLE, Int.reduceAdd, Int.reduceSub, Int.reduceMul, Int.reduceToNat, Int.reduceNeg, Int.reduceBEq, Int.reduceBNe, Int.reduceTDiv, Int.reduceTMod, Int.reducePow, Nat.reducePow, decide_true, decide_false, Nat.reduceDiv, Nat.reduceMod, Int.reduceMod, Int.reduceDiv, Int.reduceNe, Int.reduceFDiv, Nat.reduceLeDiff, beq_self_eq_true, decT, decF, ifT, ifF, eqT, eqF, neT, neF, bytesIV_length, one_length, get_cp, get_cp0, gcells, List.length_map, hg, hz, hz1, h1, h2, i64, wrap_i64]
set_option maxHeartbeats 8000000 in
theorem call12 (r : Int) (t1 : Tag) (E : List (Int × Int)) (t2 : Tag) (M : List (Int × Int)) (hE : E.length ≤ 400) (hM : M.length ≤ 400) (t : Tag) (l : List Int) (hl : l.length ≤ 1000000) : Pure K 12 [.iv (gv r t1 E t2 M), .iv (.sl t (one i64 l))] (.iv (.bool (right r E M l))) := by
  have h11 := call11 r t1 E t2 M hE hM
  refine call_pure t12 rfl rfl ?_
  simp only [right]
  cases hm : may r E M
  · rw [hm] at h11
    simp only [gv] at h11
    simp (config := { maxSteps := 4000000 }) (disch := omega) only [t12, go_sem, Nat.reduceAdd, Nat.reduceSub, Nat.reduceMul, Nat.reduceLT, Nat.reduceLeDiff, Nat.reduceEqDiff, Nat.reduceBEq, reduceIte, reduceCtorEq, List.replicate, List.cons_append, List.nil_append, Int.reduceEq, Int.reduceLT, Int.reduceLE, Int.reduceAdd, Int.reduceSub, Int.reduceMul, Int.reduceToNat, Int.reduceNeg, Int.reduceBEq, Int.reduceBNe, Int.reduceTDiv, Int.reduceTMod, Int.reducePow, Nat.reducePow, decide_true, decide_false, Nat.reduceDiv, Nat.reduceMod, Int.reduceMod, Int.reduceDiv, Int.reduceNe, Int.reduceFDiv, Nat.reduceLeDiff, beq_self_eq_true, decT, decF, ifT, ifF, eqT, eqF, neT, neF, bytesIV_length, one_length, get_cp, get_cp0, gv, cpR_pure h11]
  · rw [hm] at h11
    simp only [gv] at h11
    by_cases hlr : (l.length : Int) = r
    · subst hlr
      obtain ⟨y4, y8, y9, e⟩ := loop12a (.iv (gv l.length t1 E t2 M)) t1 E t2 M t l hl (.tup []) (.tup []) (.iv (.bool false)) (.tup []) (.tup []) l.length 0 (.tup []) (.tup []) (by omega)
      rw [show ((0 : Nat) : Int) = 0 from rfl, List.drop_zero] at e
      simp only [gv, gcells] at e
      cases ho : (List.range l.length).any (off l)
      · rw [ho] at e
        simp only [Bool.false_eq_true, ↓reduceIte] at e
        obtain ⟨y5, y6, y10, y11, e2⟩ := loop12b (.iv (gv l.length t1 E t2 M)) t1 E (by omega) t2 M t l hl (fun p hp => by have := (may_in hm).2 p hp; omega) y4 (.iv (.bool false)) y8 y9 E.length 0 (.tup []) (.tup []) (.tup []) (by omega)
        rw [show ((0 : Nat) : Int) = 0 from rfl, List.drop_zero] at e2
        simp only [gv, gcells] at e2
        cases hc : E.any (clash l)
        · rw [hc] at e2
          simp only [Bool.false_eq_true, ↓reduceIte] at e2
          simp (config := { maxSteps := 4000000 }) (disch := omega) only [t12, go_sem, Nat.reduceAdd, Nat.reduceSub, Nat.reduceMul, Nat.reduceLT, Nat.reduceLeDiff, Nat.reduceEqDiff, Nat.reduceBEq, reduceIte, reduceCtorEq, List.replicate, List.cons_append, List.nil_append, Int.reduceEq, Int.reduceLT, Int.reduceLE, Int.reduceAdd, Int.reduceSub, Int.reduceMul, Int.reduceToNat, Int.reduceNeg, Int.reduceBEq, Int.reduceBNe, Int.reduceTDiv, Int.reduceTMod, Int.reducePow, Nat.reducePow, decide_true, decide_false, Nat.reduceDiv, Nat.reduceMod, Int.reduceMod, Int.reduceDiv, Int.reduceNe, Int.reduceFDiv, Nat.reduceLeDiff, beq_self_eq_true, decT, decF, ifT, ifF, eqT, eqF, neT, neF, bytesIV_length, one_length, get_cp, get_cp0, gv, cpR_pure h11, e, e2]
        · rw [hc] at e2
          simp only [↓reduceIte] at e2
          simp (config := { maxSteps := 4000000 }) (disch := omega) only [t12, go_sem, Nat.reduceAdd, Nat.reduceSub, Nat.reduceMul, Nat.reduceLT, Nat.reduceLeDiff, Nat.reduceEqDiff, Nat.reduceBEq, reduceIte, reduceCtorEq, List.replicate, List.cons_append, List.nil_append, Int.reduceEq, Int.reduceLT, Int.reduceLE, Int.reduceAdd, Int.reduceSub, Int.reduceMul, Int.reduceToNat, Int.reduceNeg, Int.reduceBEq, Int.reduceBNe, Int.reduceTDiv, Int.reduceTMod, Int.reducePow, Nat.reducePow, decide_true, decide_false, Nat.reduceDiv, Nat.reduceMod, Int.reduceMod, Int.reduceDiv, Int.reduceNe, Int.reduceFDiv, Nat.reduceLeDiff, beq_self_eq_true, decT, decF, ifT, ifF, eqT, eqF, neT, neF, bytesIV_length, one_length, get_cp, get_cp0, gv, cpR_pure h11, e, e2]
      · rw [ho] at e
        simp only [↓reduceIte] at e
        simp (config := { maxSteps := 4000000 }) (disch := omega) only [t12, go_sem, Nat.reduceAdd, Nat.reduceSub, Nat.reduceMul, Nat.reduceLT, Nat.reduceLeDiff, Nat.reduceEqDiff, Nat.reduceBEq, reduceIte, reduceCtorEq, List.replicate, List.cons_append, List.nil_append, Int.reduceEq, Int.reduceLT, Int.reduceLE, Int.reduceAdd, Int.reduceSub, Int.reduceMul, Int.reduceToNat, Int.reduceNeg, Int.reduceBEq, Int.reduceBNe, Int.reduceTDiv, Int.reduceTMod, Int.reducePow, Nat.reducePow, decide_true, decide_false, Nat.reduceDiv, Nat.reduceMod, Int.reduceMod, Int.reduceDiv, Int.reduceNe, Int.reduceFDiv, Nat.reduceLeDiff, beq_self_eq_true, decT, decF, ifT, ifF, eqT, eqF, neT, neF, bytesIV_length, one_length, get_cp, get_cp0, gv, cpR_pure h11, e]
    · simp (config := { maxSteps := 4000000 }) (disch := omega) only [t12, go_sem, Nat.reduceAdd, Nat.reduceSub, Nat.reduceMul, Nat.reduceLT, Nat.reduceLeDiff, Nat.reduceEqDiff, Nat.reduceBEq, reduceIte, reduceCtorEq, List.replicate, List.cons_append, List.nil_append, Int.reduceEq, Int.reduceLT, Int.reduceLE, Int.reduceAdd, Int.reduceSub, Int.reduceMul, Int.reduceToNat, Int.reduceNeg, Int.reduceBEq, Int.reduceBNe, Int.reduceTDiv, Int.reduceTMod, Int.reducePow, Nat.reducePow, decide_true, decide_false, Nat.reduceDiv, Nat.reduceMod, Int.reduceMod, Int.reduceDiv, Int.reduceNe, Int.reduceFDiv, Nat.reduceLeDiff, beq_self_eq_true, decT, decF, ifT, ifF, eqT, eqF, neT, neF, bytesIV_length, one_length, get_cp, get_cp0, gv, cpR_pure h11]
theorem call7 (r : Int) (t1 : Tag) (E : List (Int × Int)) (t2 : Tag) (M : List (Int × Int)) : (lim K).call 7 [.iv (gv r t1 E t2 M)] [] = .ret (.iv (.bool (decide (r ≤ 70) && (decide (E.length ≤ 400) && decide (M.length ≤ 400)))), []) := by
  refine call_ret' K _ (fn := t7) rfl rfl ?_
  simp (config := { maxSteps := 4000000 }) (disch := omega) only [t7, go_sem, Nat.reduceAdd, Nat.reduceSub, Nat.reduceMul, Nat.reduceLT, Nat.reduceLeDiff, Nat.reduceEqDiff, Nat.reduceBEq, reduceIte, reduceCtorEq, List.replicate, List.cons_append, List.nil_append, Int.reduceEq, Int.reduceLT, Int.reduceLE, Int.reduceAdd, Int.reduceSub, Int.reduceMul, Int.reduceToNat, Int.reduceNeg, Int.reduceBEq, Int.reduceBNe, Int.reduceTDiv, Int.reduceTMod, Int.reducePow, Nat.reducePow, decide_true, decide_false, Nat.reduceDiv, Nat.reduceMod, Int.reduceMod, Int.reduceDiv, Int.reduceNe, Int.reduceFDiv, Nat.reduceLeDiff, beq_self_eq_true, decT, decF, ifT, ifF, eqT, eqF, neT, neF, bytesIV_length, one_length, get_cp, get_cp0, gv, List.length_map]
  repeat' (first | (first | refine br_dec' (fun h => ?_) (fun h => ?_) | refine br_beq' (fun h => ?_) (fun h => ?_) | refine br_bne' (fun h => ?_) (fun h => ?_) | refine br_eq' (fun h => ?_) (fun h => ?_)) | simp (disch := omega) only [go_sem, Nat.reduceAdd, Nat.reduceSub, Nat.reduceMul, Nat.reduceLT, Nat.reduceLeDiff, Nat.reduceEqDiff, Nat.reduceBEq, reduceIte, reduceCtorEq, List.replicate, List.cons_append, List.nil_append, Int.reduceEq, Int.reduceLT, Int.reduceLE, Int.reduceAdd, Int.reduceSub, Int.reduceMul, Int.reduceToNat, Int.reduceNeg, Int.reduceBEq, Int.reduceBNe, Int.reduceTDiv, Int.reduceTMod, Int.reducePow, Nat.reducePow, decide_true, decide_false, Nat.reduceDiv, Nat.reduceMod, Int.reduceMod, Int.reduceDiv, Int.reduceNe, Int.reduceFDiv, Nat.reduceLeDiff, beq_self_eq_true, decT, decF, ifT, ifF, eqT, eqF, neT, neF, bytesIV_length, one_length, get_cp, get_cp0, List.length_map])
  all_goals (congr 4; simp [*] <;> omega)
end Go.Proofs.Ytmlhjdekfihdnaa
