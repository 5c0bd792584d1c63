/- GraphRights: the contracts of Right. Condition: none. -/
import Derived.Test.YtmlhjdekfihdnaaGrB
set_option maxRecDepth 100000
set_option linter.unusedSimpArgs false
set_option linter.unusedVariables false
namespace Go.Proofs.Ytmlhjdekfihdnaa
open Go Go.TM
def i64' (n : Int) : IV := .int .i64 n
/-- Is a register's colour wrong? -/
def off (l : List Int) (i : Nat) : Bool := if i < 32 then (l.getD i 0 != (i : Int)) else (l.getD i 0 != -1) && (decide (l.getD i 0 < 1) || decide (24 < l.getD i 0))
/-- Do a pair's registers have one colour? -/
def clash (l : List Int) (p : Int × Int) : Bool := (l.getD p.1.toNat 0 == l.getD p.2.toNat 0) && (l.getD p.1.toNat 0 != -1)
def right (r : Int) (E M : List (Int × Int)) (l : List Int) : Bool := may r E M && (decide ((l.length : Int) = r) && (!((List.range l.length).any (off l)) && !(E.any (clash l))))
theorem call24 (n : Int) : (lim K).call 24 [.iv (.int .i64 n)] [] = .ret (.iv (.bool (decide (1 ≤ n) && decide (n ≤ 24))), []) := by
  refine call_ret' K [] (fn := t24) rfl rfl ?_
  simp only [t24, go_sem, Nat.reduceAdd, Nat.reduceSub, Nat.reduceMul, Nat.reduceLT, Nat.reduceLeDiff, Nat.reduceEqDiff, Nat.reduceBEq, reduceIte, reduceCtorEq, List.replicate, List.cons_append, List.nil_append, Int.reduceEq, Int.reduceLT, Int.reduceLE, Int.reduceAdd, Int.reduceSub, Int.reduceMul, Int.reduceToNat, Int.reduceNeg, Int.reduceBEq, Int.reduceBNe, Int.reduceTDiv, Int.reduceTMod, Int.reducePow, Nat.reducePow, decide_true, decide_false, Nat.reduceDiv, Nat.reduceMod, Int.reduceMod, Int.reduceDiv, Int.reduceNe, Int.reduceFDiv, Nat.reduceLeDiff]
  repeat' (first | (first | refine br_dec' (fun h => ?_) (fun h => ?_) | refine br_beq' (fun h => ?_) (fun h => ?_) | refine br_bne' (fun h => ?_) (fun h => ?_) | refine br_eq' (fun h => ?_) (fun h => ?_)) | simp (disch := omega) only [go_sem, Nat.reduceAdd, Nat.reduceSub, Nat.reduceMul, Nat.reduceLT, Nat.reduceLeDiff, Nat.reduceEqDiff, Nat.reduceBEq, reduceIte, reduceCtorEq, List.replicate, List.cons_append, List.nil_append, Int.reduceEq, Int.reduceLT, Int.reduceLE, Int.reduceAdd, Int.reduceSub, Int.reduceMul, Int.reduceToNat, Int.reduceNeg, Int.reduceBEq, Int.reduceBNe, Int.reduceTDiv, Int.reduceTMod, Int.reducePow, Nat.reducePow, decide_true, decide_false, Nat.reduceDiv, Nat.reduceMod, Int.reduceMod, Int.reduceDiv, Int.reduceNe, Int.reduceFDiv, Nat.reduceLeDiff])
  all_goals (congr 4; simp [*])
theorem range_any {q : Nat → Bool} (m i : Nat) (h : i < m) : ((List.range m).drop i).any q = (q i || ((List.range m).drop (i + 1)).any q) := by
  rw [List.drop_eq_getElem_cons (by simpa using h), List.any_cons]
  simp
set_option maxHeartbeats 8000000 in
theorem loop14 (gb : TV) (S : Store) (t : Tag) (l : List Int) (hl : l.length ≤ 1000000) (c2 c3 c7 : TV) (hc3 : ∀ j, locV j c3 = c3) : ∀ (k i : Nat) (x5 x6 x11 x12 : TV), i + k = l.length →
    ∃ y5 y6 y10 y11 y12, lp' (lim K) t14L0 [gb, .iv (.sl t (one i64 l)), c2, c3, .iv (.bool false), x5, x6, c7, .iv (.sl t (one i64 l)), .iv (.int .i64 l.length), .iv (.int .i64 i), x11, x12] S = .ret (if ((List.range l.length).drop i).any (off l) then (.ret, [gb, .iv (.sl t (one i64 l)), c2, c3, .iv (.bool false), y5, y6, c7, .iv (.sl t (one i64 l)), .iv (.int .i64 l.length), y10, y11, y12], S) else (.exit 0, [gb, .iv (.sl t (one i64 l)), c2, c3, .iv (.bool false), y5, y6, c7, .iv (.sl t (one i64 l)), .iv (.int .i64 l.length), y10, y11, y12], S))
  | 0, i, x5, x6, x11, x12, h => by
    obtain rfl : i = l.length := by omega
    have e : ((List.range l.length).drop l.length).any (off l) = false := by rw [List.drop_of_length_le (by simp)]; rfl
    refine ⟨?_, ?_, ?_, ?_, ?_, loop_at K _ _ t14L0.eq_1 ?_⟩
    rotate_left 5
    · simp (disch := omega) only [go_sem, Nat.reduceAdd, Nat.reduceSub, Nat.reduceMul, Nat.reduceLT, Nat.reduceLeDiff, Nat.reduceEqDiff, Nat.reduceBEq, reduceIte, reduceCtorEq, List.replicate, List.cons_append, List.nil_append, Int.reduceEq, Int.reduceLT, Int.reduceLE, Int.reduceAdd, Int.reduceSub, Int.reduceMul, Int.reduceToNat, Int.reduceNeg, Int.reduceBEq, Int.reduceBNe, Int.reduceTDiv, Int.reduceTMod, Int.reducePow, Nat.reducePow, decide_true, decide_false, Nat.reduceDiv, Nat.reduceMod, Int.reduceMod, Int.reduceDiv, Int.reduceNe, Int.reduceFDiv, Nat.reduceLeDiff, beq_self_eq_true, decT, decF, ifT, ifF, eqT, eqF, neT, neF, bytesIV_length, one_length, get_cp, get_cp0, e]
      rfl
  | k + 1, i, x5, x6, x11, x12, h => by
    have hx := ix_one (f := i64) (t := t) (l := l) (i := (i : Int)) (by omega)
    rw [show (default : Int) = 0 from rfl, Int.toNat_natCast] at hx
    have e := range_any (q := off l) l.length i (by omega)
    have ih := loop14 gb S t l hl c2 c3 c7 hc3 k (i + 1)
    cases ho : off l i
    · obtain ⟨y5, y6, y10, y11, y12, ih⟩ := ih (.iv (.int .i64 i)) (.iv (.int .i64 (l.getD i 0))) (.iv (.bool true)) (.iv (.bool false)) (by omega)
      rw [ho, Bool.false_or] at e
      rw [e]
      refine ⟨y5, y6, y10, y11, y12, loop_at K _ _ t14L0.eq_1 ?_⟩
      simp only [off] at ho
      generalize l.getD i 0 = c at *
      by_cases h32 : i < 32
      · simp only [h32, ↓reduceIte, bne_eq_false_iff_eq] at ho
        simp (config := { maxSteps := 4000000 }) (disch := omega) only [go_sem, Nat.reduceAdd, Nat.reduceSub, Nat.reduceMul, Nat.reduceLT, Nat.reduceLeDiff, Nat.reduceEqDiff, Nat.reduceBEq, reduceIte, reduceCtorEq, List.replicate, List.cons_append, List.nil_append, Int.reduceEq, Int.reduceLT, Int.reduceLE, Int.reduceAdd, Int.reduceSub, Int.reduceMul, Int.reduceToNat, Int.reduceNeg, Int.reduceBEq, Int.reduceBNe, Int.reduceTDiv, Int.reduceTMod, Int.reducePow, Nat.reducePow, decide_true, decide_false, Nat.reduceDiv, Nat.reduceMod, Int.reduceMod, Int.reduceDiv, Int.reduceNe, Int.reduceFDiv, Nat.reduceLeDiff, beq_self_eq_true, decT, decF, ifT, ifF, eqT, eqF, neT, neF, bytesIV_length, one_length, get_cp, get_cp0, hx, i64, wrap_i64, hc3]
        exact congrArg er ih
      · simp only [h32, ↓reduceIte, Bool.and_eq_false_iff, bne_eq_false_iff_eq, Bool.or_eq_false_iff, decide_eq_false_iff_not] at ho
        by_cases hm : c = -1
        · simp (config := { maxSteps := 4000000 }) (disch := omega) only [go_sem, Nat.reduceAdd, Nat.reduceSub, Nat.reduceMul, Nat.reduceLT, Nat.reduceLeDiff, Nat.reduceEqDiff, Nat.reduceBEq, reduceIte, reduceCtorEq, List.replicate, List.cons_append, List.nil_append, Int.reduceEq, Int.reduceLT, Int.reduceLE, Int.reduceAdd, Int.reduceSub, Int.reduceMul, Int.reduceToNat, Int.reduceNeg, Int.reduceBEq, Int.reduceBNe, Int.reduceTDiv, Int.reduceTMod, Int.reducePow, Nat.reducePow, decide_true, decide_false, Nat.reduceDiv, Nat.reduceMod, Int.reduceMod, Int.reduceDiv, Int.reduceNe, Int.reduceFDiv, Nat.reduceLeDiff, beq_self_eq_true, decT, decF, ifT, ifF, eqT, eqF, neT, neF, bytesIV_length, one_length, get_cp, get_cp0, hx, i64, wrap_i64, hc3]
          exact congrArg er ih
        · simp (config := { maxSteps := 4000000 }) (disch := omega) only [go_sem, Nat.reduceAdd, Nat.reduceSub, Nat.reduceMul, Nat.reduceLT, Nat.reduceLeDiff, Nat.reduceEqDiff, Nat.reduceBEq, reduceIte, reduceCtorEq, List.replicate, List.cons_append, List.nil_append, Int.reduceEq, Int.reduceLT, Int.reduceLE, Int.reduceAdd, Int.reduceSub, Int.reduceMul, Int.reduceToNat, Int.reduceNeg, Int.reduceBEq, Int.reduceBNe, Int.reduceTDiv, Int.reduceTMod, Int.reducePow, Nat.reducePow, decide_true, decide_false, Nat.reduceDiv, Nat.reduceMod, Int.reduceMod, Int.reduceDiv, Int.reduceNe, Int.reduceFDiv, Nat.reduceLeDiff, beq_self_eq_true, decT, decF, ifT, ifF, eqT, eqF, neT, neF, bytesIV_length, one_length, get_cp, get_cp0, hx, i64, wrap_i64, hc3, call24]
          exact congrArg er ih
    · rw [ho, Bool.true_or] at e
      rw [e]
      refine ⟨.iv (.int .i64 i), .iv (.int .i64 (l.getD i 0)), .iv (.int .i64 i), .iv (.bool true), .iv (.bool true), loop_at K _ _ t14L0.eq_1 ?_⟩
      simp only [off] at ho
      simp only [↓reduceIte]
      generalize l.getD i 0 = c at *
      by_cases h32 : i < 32
      · simp only [h32, ↓reduceIte, bne_iff_ne] at ho
        simp (config := { maxSteps := 4000000 }) (disch := omega) only [go_sem, Nat.reduceAdd, Nat.reduceSub, Nat.reduceMul, Nat.reduceLT, Nat.reduceLeDiff, Nat.reduceEqDiff, Nat.reduceBEq, reduceIte, reduceCtorEq, List.replicate, List.cons_append, List.nil_append, Int.reduceEq, Int.reduceLT, Int.reduceLE, Int.reduceAdd, Int.reduceSub, Int.reduceMul, Int.reduceToNat, Int.reduceNeg, Int.reduceBEq, Int.reduceBNe, Int.reduceTDiv, Int.reduceTMod, Int.reducePow, Nat.reducePow, decide_true, decide_false, Nat.reduceDiv, Nat.reduceMod, Int.reduceMod, Int.reduceDiv, Int.reduceNe, Int.reduceFDiv, Nat.reduceLeDiff, beq_self_eq_true, decT, decF, ifT, ifF, eqT, eqF, neT, neF, bytesIV_length, one_length, get_cp, get_cp0, hx, i64, wrap_i64, hc3]
      · simp only [h32, ↓reduceIte, Bool.and_eq_true, bne_iff_ne, Bool.or_eq_true, decide_eq_true_eq] at ho
        by_cases hm : c < 1
        · simp (config := { maxSteps := 4000000 }) (disch := omega) only [go_sem, Nat.reduceAdd, Nat.reduceSub, Nat.reduceMul, Nat.reduceLT, Nat.reduceLeDiff, Nat.reduceEqDiff, Nat.reduceBEq, reduceIte, reduceCtorEq, List.replicate, List.cons_append, List.nil_append, Int.reduceEq, Int.reduceLT, Int.reduceLE, Int.reduceAdd, Int.reduceSub, Int.reduceMul, Int.reduceToNat, Int.reduceNeg, Int.reduceBEq, Int.reduceBNe, Int.reduceTDiv, Int.reduceTMod, Int.reducePow, Nat.reducePow, decide_true, decide_false, Nat.reduceDiv, Nat.reduceMod, Int.reduceMod, Int.reduceDiv, Int.reduceNe, Int.reduceFDiv, Nat.reduceLeDiff, beq_self_eq_true, decT, decF, ifT, ifF, eqT, eqF, neT, neF, bytesIV_length, one_length, get_cp, get_cp0, hx, i64, wrap_i64, hc3, call24]
        · simp (config := { maxSteps := 4000000 }) (disch := omega) only [go_sem, Nat.reduceAdd, Nat.reduceSub, Nat.reduceMul, Nat.reduceLT, Nat.reduceLeDiff, Nat.reduceEqDiff, Nat.reduceBEq, reduceIte, reduceCtorEq, List.replicate, List.cons_append, List.nil_append, Int.reduceEq, Int.reduceLT, Int.reduceLE, Int.reduceAdd, Int.reduceSub, Int.reduceMul, Int.reduceToNat, Int.reduceNeg, Int.reduceBEq, Int.reduceBNe, Int.reduceTDiv, Int.reduceTMod, Int.reducePow, Nat.reducePow, decide_true, decide_false, Nat.reduceDiv, Nat.reduceMod, Int.reduceMod, Int.reduceDiv, Int.reduceNe, Int.reduceFDiv, Nat.reduceLeDiff, beq_self_eq_true, decT, decF, ifT, ifF, eqT, eqF, neT, neF, bytesIV_length, one_length, get_cp, get_cp0, hx, i64, wrap_i64, hc3, call24]
set_option maxHeartbeats 4000000 in
theorem call26 (r : Int) (t1 : Tag) (E : List (Int × Int)) (t2 : Tag) (M : List (Int × Int)) (t : Tag) (l : List Int) (p : Int × Int) (hp : (0 ≤ p.1 ∧ p.1 < l.length) ∧ (0 ≤ p.2 ∧ p.2 < l.length)) : (lim K).call 26 [.iv (.agg [.int .i64 p.1, .int .i64 p.2]), .ptr 0 28 0] [.cells 28 false [.iv (.sl t (one i64 l))]] = .ret (.iv (.bool (clash l p)), [.cells 28 false [.iv (.sl t (one i64 l))]]) := by
  have h1 := ix_one (f := i64) (t := t) (l := l) (i := p.1) hp.1
  have h2 := ix_one (f := i64) (t := t) (l := l) (i := p.2) hp.2
  rw [show (default : Int) = 0 from rfl] at h1 h2
  refine call_ret' K _ (fn := t26) rfl rfl ?_
  simp only [clash]
  generalize l.getD p.1.toNat 0 = a at *
  generalize l.getD p.2.toNat 0 = b at *
  by_cases e1 : a = b
  · by_cases e2 : a = -1
    · simp (config := { maxSteps := 4000000 }) (disch := omega) only [t26, go_sem, Nat.reduceAdd, Nat.reduceSub, Nat.reduceMul, Nat.reduceLT, Nat.reduceLeDiff, Nat.reduceEqDiff, Nat.reduceBEq, reduceIte, reduceCtorEq, List.replicate, List.cons_append, List.nil_append, Int.reduceEq, Int.reduceLT, Int.reduceLE, Int.reduceAdd, Int.reduceSub, Int.reduceMul, Int.reduceToNat, Int.reduceNeg, Int.reduceBEq, Int.reduceBNe, Int.reduceTDiv, Int.reduceTMod, Int.reducePow, Nat.reducePow, decide_true, decide_false, Nat.reduceDiv, Nat.reduceMod, Int.reduceMod, Int.reduceDiv, Int.reduceNe, Int.reduceFDiv, Nat.reduceLeDiff, beq_self_eq_true, decT, decF, ifT, ifF, eqT, eqF, neT, neF, bytesIV_length, one_length, get_cp, get_cp0, h1, h2, i64]
    · simp (config := { maxSteps := 4000000 }) (disch := omega) only [t26, go_sem, Nat.reduceAdd, Nat.reduceSub, Nat.reduceMul, Nat.reduceLT, Nat.reduceLeDiff, Nat.reduceEqDiff, Nat.reduceBEq, reduceIte, reduceCtorEq, List.replicate, List.cons_append, List.nil_append, Int.reduceEq, Int.reduceLT, Int.reduceLE, Int.reduceAdd, Int.reduceSub, Int.reduceMul, Int.reduceToNat, Int.reduceNeg, Int.reduceBEq, Int.reduceBNe, Int.reduceTDiv, Int.reduceTMod, Int.reducePow, Nat.reducePow, decide_true, decide_false, Nat.reduceDiv, Nat.reduceMod, Int.reduceMod, Int.reduceDiv, Int.reduceNe, Int.reduceFDiv, Nat.reduceLeDiff, beq_self_eq_true, decT, decF, ifT, ifF, eqT, eqF, neT, neF, bytesIV_length, one_length, get_cp, get_cp0, h1, h2, i64]
  · simp (config := { maxSteps := 4000000 }) (disch := omega) only [t26, go_sem, Nat.reduceAdd, Nat.reduceSub, Nat.reduceMul, Nat.reduceLT, Nat.reduceLeDiff, Nat.reduceEqDiff, Nat.reduceBEq, reduceIte, reduceCtorEq, List.replicate, List.cons_append, List.nil_append, Int.reduceEq, Int.reduceLT, Int.reduceLE, Int.reduceAdd, Int.reduceSub, Int.reduceMul, Int.reduceToNat, Int.reduceNeg, Int.reduceBEq, Int.reduceBNe, Int.reduceTDiv, Int.reduceTMod, Int.reducePow, Nat.reducePow, decide_true, decide_false, Nat.reduceDiv, Nat.reduceMod, Int.reduceMod, Int.reduceDiv, Int.reduceNe, Int.reduceFDiv, Nat.reduceLeDiff, beq_self_eq_true, decT, decF, ifT, ifF, eqT, eqF, neT, neF, bytesIV_length, one_length, get_cp, get_cp0, h1, h2, i64]
theorem may_in {r : Int} {E M : List (Int × Int)} (h : may r E M = true) : 32 ≤ r ∧ ∀ p ∈ E, (1 ≤ p.1 ∧ p.1 < r) ∧ (1 ≤ p.2 ∧ p.2 < r) := by
  simp only [may, Bool.and_eq_true, decide_eq_true_eq, Bool.not_eq_true', List.any_eq_false] at h
  refine ⟨h.1, fun p hp => ?_⟩
  have := h.2.1 p hp
  simp [wrong] at this
  omega
set_option maxHeartbeats 4000000 in
theorem call14 (r : Int) (t1 : Tag) (E : List (Int × Int)) (t2 : Tag) (M : List (Int × Int)) (hE : E.length ≤ 1000000) (hM : M.length ≤ 1000000) (t : Tag) (l : List Int) (hl : l.length ≤ 1000000) : Pure K 14 [.iv (gv r t1 E t2 M), .iv (.sl t (one i64 l))] (.iv (.bool (right r E M l))) := by
  have h16 := call16 r t1 E t2 M hE hM
  refine call_pure t14 rfl rfl ?_
  simp only [right]
  cases hm : may r E M
  · rw [hm] at h16
    simp only [gv] at h16
    simp (config := { maxSteps := 4000000 }) (disch := omega) only [t14, go_sem, Nat.reduceAdd, Nat.reduceSub, Nat.reduceMul, Nat.reduceLT, Nat.reduceLeDiff, Nat.reduceEqDiff, Nat.reduceBEq, reduceIte, reduceCtorEq, List.replicate, List.cons_append, List.nil_append, Int.reduceEq, Int.reduceLT, Int.reduceLE, Int.reduceAdd, Int.reduceSub, Int.reduceMul, Int.reduceToNat, Int.reduceNeg, Int.reduceBEq, Int.reduceBNe, Int.reduceTDiv, Int.reduceTMod, Int.reducePow, Nat.reducePow, decide_true, decide_false, Nat.reduceDiv, Nat.reduceMod, Int.reduceMod, Int.reduceDiv, Int.reduceNe, Int.reduceFDiv, Nat.reduceLeDiff, beq_self_eq_true, decT, decF, ifT, ifF, eqT, eqF, neT, neF, bytesIV_length, one_length, get_cp, get_cp0, gv, cpR_pure h16]
  · rw [hm] at h16
    simp only [gv] at h16
    by_cases hlr : (l.length : Int) = r
    · obtain ⟨y5, y6, y10, y11, y12, e⟩ := loop14 (.iv (gv r t1 E t2 M)) [.cells 28 false [.iv (.sl t (one i64 l))]] t l hl (.lb (gcells r t1 E t2 M)) (.ptr 0 28 0) (.iv (.bool false)) (fun _ => rfl) l.length 0 (.tup []) (.tup []) (.tup []) (.tup []) (by omega)
      rw [show ((0 : Nat) : Int) = 0 from rfl, List.drop_zero] at e
      simp only [gv, gcells] at e
      have h25 := call25 t1 E hE 26 [.ptr 0 28 0] (clash l) [.cells 28 false [.iv (.sl t (one i64 l))]] rfl rfl (fun p hp => call26 r t1 E t2 M t l p (by have := (may_in hm).2 p hp; omega))
      cases ho : (List.range l.length).any (off l)
      · rw [ho] at e
        simp only [Bool.false_eq_true, ↓reduceIte] at e
        simp (config := { maxSteps := 4000000 }) (disch := omega) only [t14, go_sem, Nat.reduceAdd, Nat.reduceSub, Nat.reduceMul, Nat.reduceLT, Nat.reduceLeDiff, Nat.reduceEqDiff, Nat.reduceBEq, reduceIte, reduceCtorEq, List.replicate, List.cons_append, List.nil_append, Int.reduceEq, Int.reduceLT, Int.reduceLE, Int.reduceAdd, Int.reduceSub, Int.reduceMul, Int.reduceToNat, Int.reduceNeg, Int.reduceBEq, Int.reduceBNe, Int.reduceTDiv, Int.reduceTMod, Int.reducePow, Nat.reducePow, decide_true, decide_false, Nat.reduceDiv, Nat.reduceMod, Int.reduceMod, Int.reduceDiv, Int.reduceNe, Int.reduceFDiv, Nat.reduceLeDiff, beq_self_eq_true, decT, decF, ifT, ifF, eqT, eqF, neT, neF, bytesIV_length, one_length, get_cp, get_cp0, gv, cpR_pure h16, e, h25]
      · rw [ho] at e
        simp only [↓reduceIte] at e
        simp (config := { maxSteps := 4000000 }) (disch := omega) only [t14, go_sem, Nat.reduceAdd, Nat.reduceSub, Nat.reduceMul, Nat.reduceLT, Nat.reduceLeDiff, Nat.reduceEqDiff, Nat.reduceBEq, reduceIte, reduceCtorEq, List.replicate, List.cons_append, List.nil_append, Int.reduceEq, Int.reduceLT, Int.reduceLE, Int.reduceAdd, Int.reduceSub, Int.reduceMul, Int.reduceToNat, Int.reduceNeg, Int.reduceBEq, Int.reduceBNe, Int.reduceTDiv, Int.reduceTMod, Int.reducePow, Nat.reducePow, decide_true, decide_false, Nat.reduceDiv, Nat.reduceMod, Int.reduceMod, Int.reduceDiv, Int.reduceNe, Int.reduceFDiv, Nat.reduceLeDiff, beq_self_eq_true, decT, decF, ifT, ifF, eqT, eqF, neT, neF, bytesIV_length, one_length, get_cp, get_cp0, gv, cpR_pure h16, e]
    · simp (config := { maxSteps := 4000000 }) (disch := omega) only [t14, go_sem, Nat.reduceAdd, Nat.reduceSub, Nat.reduceMul, Nat.reduceLT, Nat.reduceLeDiff, Nat.reduceEqDiff, Nat.reduceBEq, reduceIte, reduceCtorEq, List.replicate, List.cons_append, List.nil_append, Int.reduceEq, Int.reduceLT, Int.reduceLE, Int.reduceAdd, Int.reduceSub, Int.reduceMul, Int.reduceToNat, Int.reduceNeg, Int.reduceBEq, Int.reduceBNe, Int.reduceTDiv, Int.reduceTMod, Int.reducePow, Nat.reducePow, decide_true, decide_false, Nat.reduceDiv, Nat.reduceMod, Int.reduceMod, Int.reduceDiv, Int.reduceNe, Int.reduceFDiv, Nat.reduceLeDiff, beq_self_eq_true, decT, decF, ifT, ifF, eqT, eqF, neT, neF, bytesIV_length, one_length, get_cp, get_cp0, gv, cpR_pure h16]
end Go.Proofs.Ytmlhjdekfihdnaa
