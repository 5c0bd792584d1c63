/- GraphRights: the contracts of may. Condition: none. -/
import Derived.Test.YtmlhjdekfihdnaaGrA
set_option maxRecDepth 100000
set_option linter.unusedSimpArgs false
set_option linter.unusedVariables false
namespace Go.Proofs.Ytmlhjdekfihdnaa
open Go Go.TM
theorem call42 (t : Tag) (l : List (Int × Int)) (hl : l.length ≤ 1000000) (f : Nat) (cap : List TV) (q : Int × Int → Bool) (S : Store) (hcap : ([TV.iv (.agg [.int .i64 0, .int .i64 0])] ++ cap).all isIV = false) (hlp : cap.any isLp = false)
    (hq : ∀ p : Int × Int, p ∈ l → (lim K).call f ([] ++ [.iv (.agg [.int .i64 p.1, .int .i64 p.2])] ++ cap) S = .ret (.iv (.bool (q p)), S)) :
    ∃ y : Int, (0 ≤ y ↔ l.any q = true) ∧ (lim K).call 42 [.iv (.sl t (l.map enc2)), .fn f [] cap] S = .ret (.iv (.int .i64 y), S) := by
  obtain ⟨y, y3, y5, y6, y7, hy, e⟩ := loop42 t l hl f cap q S hcap hlp hq (.iv (.int .i64 0)) l.length 0 (.tup []) (.tup []) (.tup []) (by omega)
  rw [show ((0 : Nat) : Int) = 0 from rfl, List.drop_zero] at e
  cases ha : l.any q
  · refine ⟨-1, by simp, call_ret' K _ (fn := t42) rfl rfl ?_⟩
    rw [ha] at e
    simp only [Bool.false_eq_true, ↓reduceIte] at e
    simp (config := { maxSteps := 4000000 }) (disch := omega) only [t42, go_sem, Nat.reduceAdd, Nat.reduceSub, Nat.reduceMul, Nat.reduceLT, Nat.reduceLeDiff, Nat.reduceEqDiff, Nat.reduceBEq, reduceIte, reduceCtorEq, List.replicate, List.cons_append, List.nil_append, Int.reduceEq, Int.reduceLT, Int.reduceLE, Int.reduceAdd, Int.reduceSub, Int.reduceMul, Int.reduceToNat, Int.reduceNeg, Int.reduceBEq, Int.reduceBNe, Int.reduceTDiv, Int.reduceTMod, Int.reducePow, Nat.reducePow, decide_true, decide_false, Nat.reduceDiv, Nat.reduceMod, Int.reduceMod, Int.reduceDiv, Int.reduceNe, Int.reduceFDiv, Nat.reduceLeDiff, beq_self_eq_true, decT, decF, ifT, ifF, eqT, eqF, neT, neF, bytesIV_length, one_length, get_cp, get_cp0, List.length_map, e]
  · refine ⟨y, by simp [hy], call_ret' K _ (fn := t42) rfl rfl ?_⟩
    rw [ha] at e
    simp only [↓reduceIte] at e
    simp (config := { maxSteps := 4000000 }) (disch := omega) only [t42, go_sem, Nat.reduceAdd, Nat.reduceSub, Nat.reduceMul, Nat.reduceLT, Nat.reduceLeDiff, Nat.reduceEqDiff, Nat.reduceBEq, reduceIte, reduceCtorEq, List.replicate, List.cons_append, List.nil_append, Int.reduceEq, Int.reduceLT, Int.reduceLE, Int.reduceAdd, Int.reduceSub, Int.reduceMul, Int.reduceToNat, Int.reduceNeg, Int.reduceBEq, Int.reduceBNe, Int.reduceTDiv, Int.reduceTMod, Int.reducePow, Nat.reducePow, decide_true, decide_false, Nat.reduceDiv, Nat.reduceMod, Int.reduceMod, Int.reduceDiv, Int.reduceNe, Int.reduceFDiv, Nat.reduceLeDiff, beq_self_eq_true, decT, decF, ifT, ifF, eqT, eqF, neT, neF, bytesIV_length, one_length, get_cp, get_cp0, List.length_map, e]
theorem call25 (t : Tag) (l : List (Int × Int)) (hl : l.length ≤ 1000000) (f : Nat) (cap : List TV) (q : Int × Int → Bool) (S : Store) (hcap : ([TV.iv (.agg [.int .i64 0, .int .i64 0])] ++ cap).all isIV = false) (hlp : cap.any isLp = false)
    (hq : ∀ p : Int × Int, p ∈ l → (lim K).call f ([] ++ [.iv (.agg [.int .i64 p.1, .int .i64 p.2])] ++ cap) S = .ret (.iv (.bool (q p)), S)) :
    (lim K).call 25 [.iv (.sl t (l.map enc2)), .fn f [] cap] S = .ret (.iv (.bool (l.any q)), S) := by
  obtain ⟨y, hy, e⟩ := call42 t l hl f cap q S hcap hlp hq
  refine call_ret' K _ (fn := t25) rfl rfl ?_
  simp (config := { maxSteps := 4000000 }) (disch := omega) only [t25, go_sem, Nat.reduceAdd, Nat.reduceSub, Nat.reduceMul, Nat.reduceLT, Nat.reduceLeDiff, Nat.reduceEqDiff, Nat.reduceBEq, reduceIte, reduceCtorEq, List.replicate, List.cons_append, List.nil_append, Int.reduceEq, Int.reduceLT, Int.reduceLE, Int.reduceAdd, Int.reduceSub, Int.reduceMul, Int.reduceToNat, Int.reduceNeg, Int.reduceBEq, Int.reduceBNe, Int.reduceTDiv, Int.reduceTMod, Int.reducePow, Nat.reducePow, decide_true, decide_false, Nat.reduceDiv, Nat.reduceMod, Int.reduceMod, Int.reduceDiv, Int.reduceNe, Int.reduceFDiv, Nat.reduceLeDiff, beq_self_eq_true, decT, decF, ifT, ifF, eqT, eqF, neT, neF, bytesIV_length, one_length, get_cp, get_cp0, e]
  congr 4
  cases ha : l.any q
  · rw [ha] at hy; simp at hy ⊢; omega
  · rw [ha] at hy; simp at hy ⊢; omega
def may (r : Int) (E M : List (Int × Int)) : Bool := decide (32 ≤ r) && (!(E.any (wrong r)) && !(M.any (wrong r)))
theorem call16 (r : Int) (t1 : Tag) (E : List (Int × Int)) (t2 : Tag) (M : List (Int × Int)) (hE : E.length ≤ 1000000) (hM : M.length ≤ 1000000) : Pure K 16 [.iv (gv r t1 E t2 M)] (.iv (.bool (may r E M))) := by
  have h1 := call25 t1 E hE 27 [.ptr 0 25 0] (wrong r) [.cells 25 false (gcells r t1 E t2 M)] rfl rfl (fun p _ => call27 r t1 E t2 M p)
  have h2 := call25 t2 M hM 27 [.ptr 0 25 0] (wrong r) [.cells 25 false (gcells r t1 E t2 M)] rfl rfl (fun p _ => call27 r t1 E t2 M p)
  refine call_pure t16 rfl rfl ?_
  simp only [gcells] at h1 h2
  simp (config := { maxSteps := 4000000 }) (disch := omega) only [t16, go_sem, Nat.reduceAdd, Nat.reduceSub, Nat.reduceMul, Nat.reduceLT, Nat.reduceLeDiff, Nat.reduceEqDiff, Nat.reduceBEq, reduceIte, reduceCtorEq, List.replicate, List.cons_append, List.nil_append, Int.reduceEq, Int.reduceLT, Int.reduceLE, Int.reduceAdd, Int.reduceSub, Int.reduceMul, Int.reduceToNat, Int.reduceNeg, Int.reduceBEq, Int.reduceBNe, Int.reduceTDiv, Int.reduceTMod, Int.reducePow, Nat.reducePow, decide_true, decide_false, Nat.reduceDiv, Nat.reduceMod, Int.reduceMod, Int.reduceDiv, Int.reduceNe, Int.reduceFDiv, Nat.reduceLeDiff, beq_self_eq_true, decT, decF, ifT, ifF, eqT, eqF, neT, neF, bytesIV_length, one_length, get_cp, get_cp0, gv, h1, h2]
  repeat' (first | (first | refine br_dec' (fun h => ?_) (fun h => ?_) | refine br_beq' (fun h => ?_) (fun h => ?_) | refine br_bne' (fun h => ?_) (fun h => ?_) | refine br_eq' (fun h => ?_) (fun h => ?_)) | simp (disch := omega) only [go_sem, Nat.reduceAdd, Nat.reduceSub, Nat.reduceMul, Nat.reduceLT, Nat.reduceLeDiff, Nat.reduceEqDiff, Nat.reduceBEq, reduceIte, reduceCtorEq, List.replicate, List.cons_append, List.nil_append, Int.reduceEq, Int.reduceLT, Int.reduceLE, Int.reduceAdd, Int.reduceSub, Int.reduceMul, Int.reduceToNat, Int.reduceNeg, Int.reduceBEq, Int.reduceBNe, Int.reduceTDiv, Int.reduceTMod, Int.reducePow, Nat.reducePow, decide_true, decide_false, Nat.reduceDiv, Nat.reduceMod, Int.reduceMod, Int.reduceDiv, Int.reduceNe, Int.reduceFDiv, Nat.reduceLeDiff, beq_self_eq_true, decT, decF, ifT, ifF, eqT, eqF, neT, neF, bytesIV_length, one_length, get_cp, get_cp0, h1, h2])
  all_goals (simp [may, *])
/-! ### The document's -/
theorem call10 (r : Int) (t1 : Tag) (E : List (Int × Int)) (t2 : Tag) (M : List (Int × Int)) : (lim K).call 10 [.iv (gv r t1 E t2 M)] [] = .ret (.iv (gv r t1 E t2 M), []) := by
  refine call_ret' K _ (fn := t10) rfl rfl ?_
  simp (config := { maxSteps := 4000000 }) (disch := omega) only [t10, go_sem, Nat.reduceAdd, Nat.reduceSub, Nat.reduceMul, Nat.reduceLT, Nat.reduceLeDiff, Nat.reduceEqDiff, Nat.reduceBEq, reduceIte, reduceCtorEq, List.replicate, List.cons_append, List.nil_append, Int.reduceEq, Int.reduceLT, Int.reduceLE, Int.reduceAdd, Int.reduceSub, Int.reduceMul, Int.reduceToNat, Int.reduceNeg, Int.reduceBEq, Int.reduceBNe, Int.reduceTDiv, Int.reduceTMod, Int.reducePow, Nat.reducePow, decide_true, decide_false, Nat.reduceDiv, Nat.reduceMod, Int.reduceMod, Int.reduceDiv, Int.reduceNe, Int.reduceFDiv, Nat.reduceLeDiff, beq_self_eq_true, decT, decF, ifT, ifF, eqT, eqF, neT, neF, bytesIV_length, one_length, get_cp, get_cp0, gv]
set_option maxHeartbeats 4000000 in
theorem loop11 (g : TV) (r : Int) (t1 : Tag) (E : List (Int × Int)) (t2 : Tag) (M : List (Int × Int)) (A : List (Int × Int)) (hA : A.length ≤ 1000000) (al : TV) (hal : al = acc 0 (A.map enc2)) (S : Store) : ∀ (k i : Nat) (x5 x6 x7 x8 : TV), i + k = A.length →
    ∃ y4 y5 y6 y7 y8, lp' (lim K) t11L0 [g, .lb (gcells r t1 E t2 M), .iv (.bool false), al, .iv (.int .i64 i), x5, x6, x7, x8] S = .ret (if (A.drop i).any (wrong r) then (.ret, [g, .lb (gcells r t1 E t2 M), .iv (.bool false), al, y4, y5, y6, y7, y8], S) else (.exit 0, [g, .lb (gcells r t1 E t2 M), .iv (.bool false), al, y4, y5, y6, y7, y8], S))
  | 0, i, x5, x6, x7, x8, h => by
    obtain rfl : i = A.length := by omega
    have e : (A.drop A.length).any (wrong r) = false := by simp
    subst hal
    refine ⟨?_, ?_, ?_, ?_, ?_, loop_at K _ _ t11L0.eq_1 ?_⟩
    rotate_left 5
    · simp (disch := omega) only [go_sem, Nat.reduceAdd, Nat.reduceSub, Nat.reduceMul, Nat.reduceLT, Nat.reduceLeDiff, Nat.reduceEqDiff, Nat.reduceBEq, reduceIte, reduceCtorEq, List.replicate, List.cons_append, List.nil_append, Int.reduceEq, Int.reduceLT, Int.reduceLE, Int.reduceAdd, Int.reduceSub, Int.reduceMul, Int.reduceToNat, Int.reduceNeg, Int.reduceBEq, Int.reduceBNe, Int.reduceTDiv, Int.reduceTMod, Int.reducePow, Nat.reducePow, decide_true, decide_false, Nat.reduceDiv, Nat.reduceMod, Int.reduceMod, Int.reduceDiv, Int.reduceNe, Int.reduceFDiv, Nat.reduceLeDiff, beq_self_eq_true, decT, decF, ifT, ifF, eqT, eqF, neT, neF, bytesIV_length, one_length, get_cp, get_cp0, e, List.length_map]
      rfl
  | k + 1, i, x5, x6, x7, x8, h => by
    have hd : A.drop i = A.getD i default :: A.drop (i + 1) := by
      rw [List.drop_eq_getElem_cons (by omega)]
      simp [List.getD, List.getElem?_eq_getElem (show i < A.length by omega)]
    have hg : ixS 2 al (.iv (.int .i64 i)) = some (.iv (.cp (enc2 (A.getD i default)))) := by
      subst hal
      have hne : A.map enc2 ≠ [] := by intro q; have := congrArg List.length q; simp at this; rw [this] at h; simp at h
      rw [acc_ne _ hne, ixS_int]
      refine ix_tsl (by omega) ?_ rfl
      rw [Int.toNat_natCast, List.getElem?_map, List.getElem?_eq_getElem (by omega)]
      simp [List.getD, List.getElem?_eq_getElem (show i < A.length by omega)]
    have hlen : lenV .sl S al = some (.iv (.int .i64 A.length)) := by rw [hal, lenV_acc, List.length_map]
    have hloc : ∀ j, locV j al = al := by intro j; rw [hal]; exact locV_acc _ _ _
    have ih := loop11 g r t1 E t2 M A hA al hal S k (i + 1)
    generalize A.getD i default = p at *
    have hz : addOff (.iv (.cp (enc2 p))) 0 = some (.iv (.cp [.int .i64 p.1, .int .i64 p.2])) := rfl
    have hz1 : addOff (.iv (.cp (enc2 p))) 1 = some (.iv (.cp [.int .i64 p.2])) := rfl
    cases hp : wrong r p
    · obtain ⟨y4, y5, y6, y7, y8, ih⟩ := ih (.iv (.int .i64 p.1)) (.iv (.int .i64 p.2)) (.iv (.bool true)) (.iv (.bool false)) (by omega)
      refine ⟨y4, y5, y6, y7, y8, loop_at K _ _ t11L0.eq_1 ?_⟩
      have e : (A.drop i).any (wrong r) = (A.drop (i + 1)).any (wrong r) := by rw [hd, List.any_cons, hp, Bool.false_or]
      rw [e]
      simp only [wrong, Bool.or_eq_false_iff, decide_eq_false_iff_not, beq_eq_false_iff_ne] at hp
      obtain ⟨p1, p2, p3, p4, p5⟩ := hp
      simp only [gcells] at ih ⊢
      simp (config := { maxSteps := 4000000 }) (disch := omega) only [go_sem, Nat.reduceAdd, Nat.reduceSub, Nat.reduceMul, Nat.reduceLT, Nat.reduceLeDiff, Nat.reduceEqDiff, Nat.reduceBEq, reduceIte, reduceCtorEq, List.replicate, List.cons_append, List.nil_append, Int.reduceEq, Int.reduceLT, Int.reduceLE, Int.reduceAdd, Int.reduceSub, Int.reduceMul, Int.reduceToNat, Int.reduceNeg, Int.reduceBEq, Int.reduceBNe, Int.reduceTDiv, Int.reduceTMod, Int.reducePow, Nat.reducePow, decide_true, decide_false, Nat.reduceDiv, Nat.reduceMod, Int.reduceMod, Int.reduceDiv, Int.reduceNe, Int.reduceFDiv, Nat.reduceLeDiff, beq_self_eq_true, decT, decF, ifT, ifF, eqT, eqF, neT, neF, bytesIV_length, one_length, get_cp, get_cp0, gcells, hlen, hloc, hg, hz, hz1, wrap_i64]
      exact congrArg er ih
    · refine ⟨.iv (.int .i64 i), .iv (.int .i64 p.1), .iv (.int .i64 p.2), .iv (.bool true), .iv (.bool true), loop_at K _ _ t11L0.eq_1 ?_⟩
      have e : (A.drop i).any (wrong r) = true := by rw [hd, List.any_cons, hp, Bool.true_or]
      rw [e]
      simp only [wrong, Bool.or_eq_true, decide_eq_true_eq, beq_iff_eq] at hp
      simp only [↓reduceIte]
      by_cases p1 : p.1 < 1
      · simp (config := { maxSteps := 4000000 }) (disch := omega) only [go_sem, Nat.reduceAdd, Nat.reduceSub, Nat.reduceMul, Nat.reduceLT, Nat.reduceLeDiff, Nat.reduceEqDiff, Nat.reduceBEq, reduceIte, reduceCtorEq, List.replicate, List.cons_append, List.nil_append, Int.reduceEq, Int.reduceLT, Int.reduceLE, Int.reduceAdd, Int.reduceSub, Int.reduceMul, Int.reduceToNat, Int.reduceNeg, Int.reduceBEq, Int.reduceBNe, Int.reduceTDiv, Int.reduceTMod, Int.reducePow, Nat.reducePow, decide_true, decide_false, Nat.reduceDiv, Nat.reduceMod, Int.reduceMod, Int.reduceDiv, Int.reduceNe, Int.reduceFDiv, Nat.reduceLeDiff, beq_self_eq_true, decT, decF, ifT, ifF, eqT, eqF, neT, neF, bytesIV_length, one_length, get_cp, get_cp0, gcells, hlen, hloc, hg, hz, hz1, wrap_i64]
      by_cases p2 : p.2 < 1
      · simp (config := { maxSteps := 4000000 }) (disch := omega) only [go_sem, Nat.reduceAdd, Nat.reduceSub, Nat.reduceMul, Nat.reduceLT, Nat.reduceLeDiff, Nat.reduceEqDiff, Nat.reduceBEq, reduceIte, reduceCtorEq, List.replicate, List.cons_append, List.nil_append, Int.reduceEq, Int.reduceLT, Int.reduceLE, Int.reduceAdd, Int.reduceSub, Int.reduceMul, Int.reduceToNat, Int.reduceNeg, Int.reduceBEq, Int.reduceBNe, Int.reduceTDiv, Int.reduceTMod, Int.reducePow, Nat.reducePow, decide_true, decide_false, Nat.reduceDiv, Nat.reduceMod, Int.reduceMod, Int.reduceDiv, Int.reduceNe, Int.reduceFDiv, Nat.reduceLeDiff, beq_self_eq_true, decT, decF, ifT, ifF, eqT, eqF, neT, neF, bytesIV_length, one_length, get_cp, get_cp0, gcells, hlen, hloc, hg, hz, hz1, wrap_i64]
      by_cases p3 : r ≤ p.1
      · simp (config := { maxSteps := 4000000 }) (disch := omega) only [go_sem, Nat.reduceAdd, Nat.reduceSub, Nat.reduceMul, Nat.reduceLT, Nat.reduceLeDiff, Nat.reduceEqDiff, Nat.reduceBEq, reduceIte, reduceCtorEq, List.replicate, List.cons_append, List.nil_append, Int.reduceEq, Int.reduceLT, Int.reduceLE, Int.reduceAdd, Int.reduceSub, Int.reduceMul, Int.reduceToNat, Int.reduceNeg, Int.reduceBEq, Int.reduceBNe, Int.reduceTDiv, Int.reduceTMod, Int.reducePow, Nat.reducePow, decide_true, decide_false, Nat.reduceDiv, Nat.reduceMod, Int.reduceMod, Int.reduceDiv, Int.reduceNe, Int.reduceFDiv, Nat.reduceLeDiff, beq_self_eq_true, decT, decF, ifT, ifF, eqT, eqF, neT, neF, bytesIV_length, one_length, get_cp, get_cp0, gcells, hlen, hloc, hg, hz, hz1, wrap_i64]
      by_cases p4 : r ≤ p.2
      · simp (config := { maxSteps := 4000000 }) (disch := omega) only [go_sem, Nat.reduceAdd, Nat.reduceSub, Nat.reduceMul, Nat.reduceLT, Nat.reduceLeDiff, Nat.reduceEqDiff, Nat.reduceBEq, reduceIte, reduceCtorEq, List.replicate, List.cons_append, List.nil_append, Int.reduceEq, Int.reduceLT, Int.reduceLE, Int.reduceAdd, Int.reduceSub, Int.reduceMul, Int.reduceToNat, Int.reduceNeg, Int.reduceBEq, Int.reduceBNe, Int.reduceTDiv, Int.reduceTMod, Int.reducePow, Nat.reducePow, decide_true, decide_false, Nat.reduceDiv, Nat.reduceMod, Int.reduceMod, Int.reduceDiv, Int.reduceNe, Int.reduceFDiv, Nat.reduceLeDiff, beq_self_eq_true, decT, decF, ifT, ifF, eqT, eqF, neT, neF, bytesIV_length, one_length, get_cp, get_cp0, gcells, hlen, hloc, hg, hz, hz1, wrap_i64]
      · simp (config := { maxSteps := 4000000 }) (disch := omega) only [go_sem, Nat.reduceAdd, Nat.reduceSub, Nat.reduceMul, Nat.reduceLT, Nat.reduceLeDiff, Nat.reduceEqDiff, Nat.reduceBEq, reduceIte, reduceCtorEq, List.replicate, List.cons_append, List.nil_append, Int.reduceEq, Int.reduceLT, Int.reduceLE, Int.reduceAdd, Int.reduceSub, Int.reduceMul, Int.reduceToNat, Int.reduceNeg, Int.reduceBEq, Int.reduceBNe, Int.reduceTDiv, Int.reduceTMod, Int.reducePow, Nat.reducePow, decide_true, decide_false, Nat.reduceDiv, Nat.reduceMod, Int.reduceMod, Int.reduceDiv, Int.reduceNe, Int.reduceFDiv, Nat.reduceLeDiff, beq_self_eq_true, decT, decF, ifT, ifF, eqT, eqF, neT, neF, bytesIV_length, one_length, get_cp, get_cp0, gcells, hlen, hloc, hg, hz, hz1, wrap_i64]
theorem may_app (r : Int) (E M : List (Int × Int)) : (if (E ++ M).any (wrong r) then false else decide (32 ≤ r)) = may r E M := by
  unfold may
  rw [List.any_append]
  cases E.any (wrong r) <;> cases M.any (wrong r) <;> simp
theorem call11 (r : Int) (t1 : Tag) (E : List (Int × Int)) (t2 : Tag) (M : List (Int × Int)) (hE : E.length ≤ 400) (hM : M.length ≤ 400) : Pure K 11 [.iv (gv r t1 E t2 M)] (.iv (.bool (may r E M))) := by
  have h1 := ap_acc (w := 2) (b := 16) (el := 37) (l := []) (x := .iv (.sl t1 (E.map enc2))) (fun S => IsEl.sl S _ _) (Elems.map enc2_ok E) Elems.nil (roomy_ok (by rw [List.length_map]; simp; omega))
  rw [acc_nil, accS_nil, List.nil_append] at h1
  have h2 := ap_acc (w := 2) (b := 16) (el := 37) (l := E.map enc2) (x := .iv (.sl t2 (M.map enc2))) (fun S => IsEl.sl S _ _) (Elems.map enc2_ok M) (Elems.map enc2_ok E) (roomy_ok (by rw [List.length_map, List.length_map]; omega))
  rw [← List.map_append] at h2
  refine call_pure t11 rfl rfl ?_
  obtain ⟨y4, y5, y6, y7, y8, e⟩ := loop11 (.iv (gv r t1 E t2 M)) r t1 E t2 M (E ++ M) (by simp; omega) _ rfl (accS 2 37 ((E ++ M).map enc2)) (E ++ M).length 0 (.tup []) (.tup []) (.tup []) (.tup []) (by omega)
  rw [show ((0 : Nat) : Int) = 0 from rfl, List.drop_zero] at e
  have hm := (may_app r E M).symm
  simp only [gcells, gv] at e
  cases ha : (E ++ M).any (wrong r)
  · rw [ha] at e hm
    simp only [Bool.false_eq_true, ↓reduceIte] at e hm
    simp (config := { maxSteps := 4000000 }) (disch := omega) only [t11, go_sem, Nat.reduceAdd, Nat.reduceSub, Nat.reduceMul, Nat.reduceLT, Nat.reduceLeDiff, Nat.reduceEqDiff, Nat.reduceBEq, reduceIte, reduceCtorEq, List.replicate, List.cons_append, List.nil_append, Int.reduceEq, Int.reduceLT, Int.reduceLE, Int.reduceAdd, Int.reduceSub, Int.reduceMul, Int.reduceToNat, Int.reduceNeg, Int.reduceBEq, Int.reduceBNe, Int.reduceTDiv, Int.reduceTMod, Int.reducePow, Nat.reducePow, decide_true, decide_false, Nat.reduceDiv, Nat.reduceMod, Int.reduceMod, Int.reduceDiv, Int.reduceNe, Int.reduceFDiv, Nat.reduceLeDiff, beq_self_eq_true, decT, decF, ifT, ifF, eqT, eqF, neT, neF, bytesIV_length, one_length, get_cp, get_cp0, gv, h1, h2, e, hm]
  · rw [ha] at e hm
    simp only [↓reduceIte] at e hm
    simp (config := { maxSteps := 4000000 }) (disch := omega) only [t11, go_sem, Nat.reduceAdd, Nat.reduceSub, Nat.reduceMul, Nat.reduceLT, Nat.reduceLeDiff, Nat.reduceEqDiff, Nat.reduceBEq, reduceIte, reduceCtorEq, List.replicate, List.cons_append, List.nil_append, Int.reduceEq, Int.reduceLT, Int.reduceLE, Int.reduceAdd, Int.reduceSub, Int.reduceMul, Int.reduceToNat, Int.reduceNeg, Int.reduceBEq, Int.reduceBNe, Int.reduceTDiv, Int.reduceTMod, Int.reducePow, Nat.reducePow, decide_true, decide_false, Nat.reduceDiv, Nat.reduceMod, Int.reduceMod, Int.reduceDiv, Int.reduceNe, Int.reduceFDiv, Nat.reduceLeDiff, beq_self_eq_true, decT, decF, ifT, ifF, eqT, eqF, neT, neF, bytesIV_length, one_length, get_cp, get_cp0, gv, h1, h2, e, hm]
end Go.Proofs.Ytmlhjdekfihdnaa
