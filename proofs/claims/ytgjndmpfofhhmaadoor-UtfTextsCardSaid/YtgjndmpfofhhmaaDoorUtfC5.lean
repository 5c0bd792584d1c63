/- The contracts of utf: Text; the laws UtfTexts, UtfOnce. Condition: none. -/
import Derived.Test.YtgjndmpfofhhmaaDoorUtfC4
set_option maxRecDepth 100000
set_option linter.unusedSimpArgs false
set_option linter.unusedVariables false
namespace Go.Proofs.YtgjndmpfofhhmaaDoor
open Go Go.TM
/-- The bytes of chars. -/
def cat : List Int → List UInt8
  | [] => []
  | c :: l => bytesR c ++ cat l
theorem cat_append : ∀ (l m : List Int), cat (l ++ m) = cat l ++ cat m
  | [], m => rfl
  | c :: l, m => by simp [cat, cat_append l m]
theorem cat_len : ∀ (l : List Int), (∀ c ∈ l, isC c = true) → (cat l).length ≤ 4 * l.length
  | [], _ => by simp [cat]
  | c :: l, h => by
    have h1 := bytes_len (h c (by simp))
    have h2 := cat_len l (fun x hx => h x (by simp [hx]))
    simp only [cat, List.length_append, List.length_cons]; omega
theorem getD_mem {l : List Int} {i : Nat} (h : i < l.length) : l.getD i 0 ∈ l := by
  simp only [List.getD, List.getElem?_eq_getElem h, Option.getD_some]; exact List.getElem_mem h
def allC (l : List Int) : Bool := l.all isC
theorem drop_allC {l : List Int} {i : Nat} (h : i < l.length) : allC (l.drop i) = (isC (l.getD i 0) && allC (l.drop (i + 1))) := by
  unfold allC
  rw [List.drop_eq_getElem_cons h, List.all_cons]
  simp only [List.getD, List.getElem?_eq_getElem h, Option.getD_some]
def textV (l : List Int) : TV := if allC l then .tup [.iv (.str (cat l)), .iv (.int .i64 0)] else .tup [.iv (.str []), .iv (.int .i64 2)]
set_option maxHeartbeats 4000000 in
theorem loop21 (t : Tag) (l : List Int) (hl : l.length ≤ 1000000) : ∀ (k i : Nat) (x4 x8 x9 : TV), i + k = l.length → (∀ c ∈ l.take i, isC c = true) →
    ∃ y3 y4 y7 y8 y9 S', lp' (lim K) t21L0 [.iv (.sl t (one i64 l)), .iv (.str []), .iv (.int .i64 0), acc 0 (bytesIV (cat (l.take i))), x4, .iv (.sl t (one i64 l)), .iv (.int .i64 l.length), .iv (.int .i64 i), x8, x9] (accS 1 5 (bytesIV (cat (l.take i)))) = .ret (if allC (l.drop i) then (.exit 0, [.iv (.sl t (one i64 l)), .iv (.str []), .iv (.int .i64 0), acc 0 (bytesIV (cat l)), y4, .iv (.sl t (one i64 l)), .iv (.int .i64 l.length), y7, y8, y9], S') else (.ret, [.iv (.sl t (one i64 l)), .iv (.str []), .iv (.int .i64 2), y3, y4, .iv (.sl t (one i64 l)), .iv (.int .i64 l.length), y7, y8, y9], S'))
  | 0, i, x4, x8, x9, h, ha => by
    obtain rfl : i = l.length := by omega
    rw [List.take_length]
    have e : allC (l.drop l.length) = true := by simp [allC]
    refine ⟨?_, ?_, ?_, ?_, ?_, ?_, loop_at K _ _ t21L0.eq_1 ?_⟩
    rotate_left 6
    · simp (disch := omega) only [go_sem, Nat.reduceAdd, Nat.reduceSub, Nat.reduceMul, Nat.reduceLT, Nat.reduceLeDiff, Nat.reduceEqDiff, Nat.reduceBEq, reduceIte, reduceCtorEq, List.replicate, List.cons_append, List.nil_append, Int.reduceEq, Int.reduceLT, Int.reduceLE, Int.reduceAdd, Int.reduceSub, Int.reduceMul, Int.reduceToNat, Int.reduceNeg, Int.reduceBEq, Int.reduceBNe, Int.reduceTDiv, Int.reduceTMod, Int.reducePow, Nat.reducePow, decide_true, decide_false, Nat.reduceDiv, Nat.reduceMod, Int.reduceMod, Int.reduceDiv, Int.reduceNe, Int.reduceFDiv, Nat.reduceLeDiff, decT, decF, ifT, ifF, eqT, eqF, neT, neF, bytesIV_length, one_length, get_cp, get_cp0, e]
      rfl
    exact .hole
  | k + 1, i, x4, x8, x9, h, ha => by
    have e := drop_allC (l := l) (i := i) (by omega)
    have ht := take_succ_getD (l := l) (d := 0) (i := i) (by omega)
    have hcl := cat_len _ ha
    have hcl2 : (cat (l.take i)).length ≤ 10000000 := by
      have : (l.take i).length ≤ l.length := by rw [List.length_take]; omega
      omega
    have hx := ix_one (f := i64) (t := t) (l := l) (i := (i : Int)) (by omega)
    rw [show (default : Int) = 0 from rfl, Int.toNat_natCast] at hx
    cases hc : isC (l.getD i 0)
    · rw [hc] at e
      simp only [Bool.false_and] at e
      generalize l.getD i 0 = c at *
      refine ⟨?_, ?_, ?_, ?_, ?_, ?_, loop_at K _ _ t21L0.eq_1 ?_⟩
      rotate_left 6
      · simp (config := { maxSteps := 4000000 }) (disch := omega) only [go_sem, Nat.reduceAdd, Nat.reduceSub, Nat.reduceMul, Nat.reduceLT, Nat.reduceLeDiff, Nat.reduceEqDiff, Nat.reduceBEq, reduceIte, reduceCtorEq, List.replicate, List.cons_append, List.nil_append, Int.reduceEq, Int.reduceLT, Int.reduceLE, Int.reduceAdd, Int.reduceSub, Int.reduceMul, Int.reduceToNat, Int.reduceNeg, Int.reduceBEq, Int.reduceBNe, Int.reduceTDiv, Int.reduceTMod, Int.reducePow, Nat.reducePow, decide_true, decide_false, Nat.reduceDiv, Nat.reduceMod, Int.reduceMod, Int.reduceDiv, Int.reduceNe, Int.reduceFDiv, Nat.reduceLeDiff, decT, decF, ifT, ifF, eqT, eqF, neT, neF, bytesIV_length, one_length, get_cp, get_cp0, hx, i64, call14, hc, e]
        rfl
    · rw [hc] at e
      simp only [Bool.true_and] at e
      have hr := (isC_iff _).1 hc
      obtain ⟨y3, y4, y7, y8, y9, S', ih⟩ := loop21 t l hl k (i + 1) (.iv (.int .i64 (l.getD i 0))) (.iv (.bool true)) (.iv (.bool false)) (by omega) (by
        rw [ht]; intro c hc'; rcases List.mem_append.1 hc' with h1 | h1
        · exact ha c h1
        · simp at h1; rw [h1]; exact hc)
      have ec : cat (l.take i ++ [l.getD i 0]) = cat (l.take i) ++ bytesR (l.getD i 0) := by rw [cat_append]; simp [cat]
      rw [ht, ec] at ih
      have h29 := call29 (cat (l.take i)) hcl2 (l.getD i 0) hc
      generalize l.getD i 0 = c at *
      refine ⟨y3, y4, y7, y8, y9, S', loop_at K _ _ t21L0.eq_1 ?_⟩
      simp (config := { maxSteps := 4000000 }) (disch := omega) only [go_sem, Nat.reduceAdd, Nat.reduceSub, Nat.reduceMul, Nat.reduceLT, Nat.reduceLeDiff, Nat.reduceEqDiff, Nat.reduceBEq, reduceIte, reduceCtorEq, List.replicate, List.cons_append, List.nil_append, Int.reduceEq, Int.reduceLT, Int.reduceLE, Int.reduceAdd, Int.reduceSub, Int.reduceMul, Int.reduceToNat, Int.reduceNeg, Int.reduceBEq, Int.reduceBNe, Int.reduceTDiv, Int.reduceTMod, Int.reducePow, Nat.reducePow, decide_true, decide_false, Nat.reduceDiv, Nat.reduceMod, Int.reduceMod, Int.reduceDiv, Int.reduceNe, Int.reduceFDiv, Nat.reduceLeDiff, decT, decF, ifT, ifF, eqT, eqF, neT, neF, bytesIV_length, one_length, get_cp, get_cp0, hx, i64, call14, hc, e, wrap_i32, h29, wrap_i64]
      exact congrArg er ih
theorem call21 (t : Tag) (l : List Int) (hl : l.length ≤ 1000000) : Pure K 21 [.iv (.sl t (one i64 l))] (textV l) := by
  obtain ⟨y3, y4, y7, y8, y9, S', e⟩ := loop21 t l hl l.length 0 (.tup []) (.tup []) (.tup []) (by omega) (by simp)
  rw [List.take_zero, show bytesIV (cat []) = [] from rfl, acc_nil, accS_nil, show ((0 : Nat) : Int) = 0 from rfl, List.drop_zero] at e
  refine call_pure t21 rfl rfl ?_
  cases h : allC l
  · rw [h] at e
    simp only [Bool.false_eq_true, ↓reduceIte] at e
    simp (config := { maxSteps := 4000000 }) (disch := omega) only [t21, go_sem, Nat.reduceAdd, Nat.reduceSub, Nat.reduceMul, Nat.reduceLT, Nat.reduceLeDiff, Nat.reduceEqDiff, Nat.reduceBEq, reduceIte, reduceCtorEq, List.replicate, List.cons_append, List.nil_append, Int.reduceEq, Int.reduceLT, Int.reduceLE, Int.reduceAdd, Int.reduceSub, Int.reduceMul, Int.reduceToNat, Int.reduceNeg, Int.reduceBEq, Int.reduceBNe, Int.reduceTDiv, Int.reduceTMod, Int.reducePow, Nat.reducePow, decide_true, decide_false, Nat.reduceDiv, Nat.reduceMod, Int.reduceMod, Int.reduceDiv, Int.reduceNe, Int.reduceFDiv, Nat.reduceLeDiff, decT, decF, ifT, ifF, eqT, eqF, neT, neF, bytesIV_length, one_length, get_cp, get_cp0, e, textV, h]
  · rw [h] at e
    simp only [↓reduceIte] at e
    simp (config := { maxSteps := 4000000 }) (disch := omega) only [t21, go_sem, Nat.reduceAdd, Nat.reduceSub, Nat.reduceMul, Nat.reduceLT, Nat.reduceLeDiff, Nat.reduceEqDiff, Nat.reduceBEq, reduceIte, reduceCtorEq, List.replicate, List.cons_append, List.nil_append, Int.reduceEq, Int.reduceLT, Int.reduceLE, Int.reduceAdd, Int.reduceSub, Int.reduceMul, Int.reduceToNat, Int.reduceNeg, Int.reduceBEq, Int.reduceBNe, Int.reduceTDiv, Int.reduceTMod, Int.reducePow, Nat.reducePow, decide_true, decide_false, Nat.reduceDiv, Nat.reduceMod, Int.reduceMod, Int.reduceDiv, Int.reduceNe, Int.reduceFDiv, Nat.reduceLeDiff, decT, decF, ifT, ifF, eqT, eqF, neT, neF, bytesIV_length, one_length, get_cp, get_cp0, e, textV, h]
set_option maxHeartbeats 4000000 in
theorem loop22 (t : Tag) (l : List Int) (hl : l.length ≤ 1000000) : ∀ (k i : Nat) (x5 x6 : TV), i + k = l.length → (∀ c ∈ l.take i, isC c = true) →
    ∃ y3 y4 y5 y6 S', lp' (lim K) t22L0 [.iv (.sl t (one i64 l)), .iv (.str []), .iv (.int .i64 0), acc 0 (bytesIV (cat (l.take i))), .iv (.int .i64 i), x5, x6] (accS 1 5 (bytesIV (cat (l.take i)))) = .ret (if allC (l.drop i) then (.exit 0, [.iv (.sl t (one i64 l)), .iv (.str []), .iv (.int .i64 0), acc 0 (bytesIV (cat l)), y4, y5, y6], S') else (.ret, [.iv (.sl t (one i64 l)), .iv (.str []), .iv (.int .i64 2), y3, y4, y5, y6], S'))
  | 0, i, x5, x6, h, ha => by
    obtain rfl : i = l.length := by omega
    rw [List.take_length]
    have e : allC (l.drop l.length) = true := by simp [allC]
    refine ⟨?_, ?_, ?_, ?_, ?_, loop_at K _ _ t22L0.eq_1 ?_⟩
    rotate_left 5
    · simp (disch := omega) only [go_sem, Nat.reduceAdd, Nat.reduceSub, Nat.reduceMul, Nat.reduceLT, Nat.reduceLeDiff, Nat.reduceEqDiff, Nat.reduceBEq, reduceIte, reduceCtorEq, List.replicate, List.cons_append, List.nil_append, Int.reduceEq, Int.reduceLT, Int.reduceLE, Int.reduceAdd, Int.reduceSub, Int.reduceMul, Int.reduceToNat, Int.reduceNeg, Int.reduceBEq, Int.reduceBNe, Int.reduceTDiv, Int.reduceTMod, Int.reducePow, Nat.reducePow, decide_true, decide_false, Nat.reduceDiv, Nat.reduceMod, Int.reduceMod, Int.reduceDiv, Int.reduceNe, Int.reduceFDiv, Nat.reduceLeDiff, decT, decF, ifT, ifF, eqT, eqF, neT, neF, bytesIV_length, one_length, get_cp, get_cp0, e]
      rfl
    exact .hole
  | k + 1, i, x5, x6, h, ha => by
    have e := drop_allC (l := l) (i := i) (by omega)
    have ht := take_succ_getD (l := l) (d := 0) (i := i) (by omega)
    have hcl := cat_len _ ha
    have hcl2 : (cat (l.take i)).length ≤ 10000000 := by
      have : (l.take i).length ≤ l.length := by rw [List.length_take]; omega
      omega
    have hx := ix_one (f := i64) (t := t) (l := l) (i := (i : Int)) (by omega)
    rw [show (default : Int) = 0 from rfl, Int.toNat_natCast] at hx
    cases hc : isC (l.getD i 0)
    · rw [hc] at e
      simp only [Bool.false_and] at e
      generalize l.getD i 0 = c at *
      refine ⟨?_, ?_, ?_, ?_, ?_, loop_at K _ _ t22L0.eq_1 ?_⟩
      rotate_left 5
      · simp (config := { maxSteps := 4000000 }) (disch := omega) only [go_sem, Nat.reduceAdd, Nat.reduceSub, Nat.reduceMul, Nat.reduceLT, Nat.reduceLeDiff, Nat.reduceEqDiff, Nat.reduceBEq, reduceIte, reduceCtorEq, List.replicate, List.cons_append, List.nil_append, Int.reduceEq, Int.reduceLT, Int.reduceLE, Int.reduceAdd, Int.reduceSub, Int.reduceMul, Int.reduceToNat, Int.reduceNeg, Int.reduceBEq, Int.reduceBNe, Int.reduceTDiv, Int.reduceTMod, Int.reducePow, Nat.reducePow, decide_true, decide_false, Nat.reduceDiv, Nat.reduceMod, Int.reduceMod, Int.reduceDiv, Int.reduceNe, Int.reduceFDiv, Nat.reduceLeDiff, decT, decF, ifT, ifF, eqT, eqF, neT, neF, bytesIV_length, one_length, get_cp, get_cp0, hx, i64, call15, hc, e]
        rfl
    · rw [hc] at e
      simp only [Bool.true_and] at e
      have hr := (isC_iff _).1 hc
      obtain ⟨y3, y4, y5, y6, S', ih⟩ := loop22 t l hl k (i + 1) (.iv (.bool true)) (.iv (.bool false)) (by omega) (by
        rw [ht]; intro c hc'; rcases List.mem_append.1 hc' with h1 | h1
        · exact ha c h1
        · simp at h1; rw [h1]; exact hc)
      have ec : cat (l.take i ++ [l.getD i 0]) = cat (l.take i) ++ bytesR (l.getD i 0) := by rw [cat_append]; simp [cat]
      rw [ht, ec] at ih
      have h24 := call24 (l.getD i 0) hc
      have hap := lits (cat (l.take i)) hcl2 (bytesR (l.getD i 0)) (bytes_len hc).2
      generalize l.getD i 0 = c at *
      refine ⟨y3, y4, y5, y6, S', loop_at K _ _ t22L0.eq_1 ?_⟩
      simp (config := { maxSteps := 4000000 }) (disch := omega) only [go_sem, Nat.reduceAdd, Nat.reduceSub, Nat.reduceMul, Nat.reduceLT, Nat.reduceLeDiff, Nat.reduceEqDiff, Nat.reduceBEq, reduceIte, reduceCtorEq, List.replicate, List.cons_append, List.nil_append, Int.reduceEq, Int.reduceLT, Int.reduceLE, Int.reduceAdd, Int.reduceSub, Int.reduceMul, Int.reduceToNat, Int.reduceNeg, Int.reduceBEq, Int.reduceBNe, Int.reduceTDiv, Int.reduceTMod, Int.reducePow, Nat.reducePow, decide_true, decide_false, Nat.reduceDiv, Nat.reduceMod, Int.reduceMod, Int.reduceDiv, Int.reduceNe, Int.reduceFDiv, Nat.reduceLeDiff, decT, decF, ifT, ifF, eqT, eqF, neT, neF, bytesIV_length, one_length, get_cp, get_cp0, hx, i64, call15, hc, e, h24, hap, wrap_i64]
      exact congrArg er ih
theorem call22 (t : Tag) (l : List Int) (hl : l.length ≤ 1000000) : Pure K 22 [.iv (.sl t (one i64 l))] (textV l) := by
  obtain ⟨y3, y4, y5, y6, S', e⟩ := loop22 t l hl l.length 0 (.tup []) (.tup []) (by omega) (by simp)
  rw [List.take_zero, show bytesIV (cat []) = [] from rfl, acc_nil, accS_nil, show ((0 : Nat) : Int) = 0 from rfl, List.drop_zero] at e
  refine call_pure t22 rfl rfl ?_
  cases h : allC l
  · rw [h] at e
    simp only [Bool.false_eq_true, ↓reduceIte] at e
    simp (config := { maxSteps := 4000000 }) (disch := omega) only [t22, go_sem, Nat.reduceAdd, Nat.reduceSub, Nat.reduceMul, Nat.reduceLT, Nat.reduceLeDiff, Nat.reduceEqDiff, Nat.reduceBEq, reduceIte, reduceCtorEq, List.replicate, List.cons_append, List.nil_append, Int.reduceEq, Int.reduceLT, Int.reduceLE, Int.reduceAdd, Int.reduceSub, Int.reduceMul, Int.reduceToNat, Int.reduceNeg, Int.reduceBEq, Int.reduceBNe, Int.reduceTDiv, Int.reduceTMod, Int.reducePow, Nat.reducePow, decide_true, decide_false, Nat.reduceDiv, Nat.reduceMod, Int.reduceMod, Int.reduceDiv, Int.reduceNe, Int.reduceFDiv, Nat.reduceLeDiff, decT, decF, ifT, ifF, eqT, eqF, neT, neF, bytesIV_length, one_length, get_cp, get_cp0, e, textV, h]
  · rw [h] at e
    simp only [↓reduceIte] at e
    simp (config := { maxSteps := 4000000 }) (disch := omega) only [t22, go_sem, Nat.reduceAdd, Nat.reduceSub, Nat.reduceMul, Nat.reduceLT, Nat.reduceLeDiff, Nat.reduceEqDiff, Nat.reduceBEq, reduceIte, reduceCtorEq, List.replicate, List.cons_append, List.nil_append, Int.reduceEq, Int.reduceLT, Int.reduceLE, Int.reduceAdd, Int.reduceSub, Int.reduceMul, Int.reduceToNat, Int.reduceNeg, Int.reduceBEq, Int.reduceBNe, Int.reduceTDiv, Int.reduceTMod, Int.reducePow, Nat.reducePow, decide_true, decide_false, Nat.reduceDiv, Nat.reduceMod, Int.reduceMod, Int.reduceDiv, Int.reduceNe, Int.reduceFDiv, Nat.reduceLeDiff, decT, decF, ifT, ifF, eqT, eqF, neT, neF, bytesIV_length, one_length, get_cp, get_cp0, e, textV, h]
end Go.Proofs.YtgjndmpfofhhmaaDoor
