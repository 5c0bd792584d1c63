/- GraphRights: the evaluator answers true. Condition: none. -/
import Derived.Test.YtmlhjdekfihdnaaGrE
import Derived.Test.YtmlhjdekfihdnaaTmE
set_option maxRecDepth 100000
set_option linter.unusedSimpArgs false
set_option linter.unusedVariables false
namespace Go.Proofs.Ytmlhjdekfihdnaa
open Go Go.TM
theorem flat_map_one' {α : Type} (f : α → IV) (l : List α) : flat (one f l) = l.map f := flat_map_one f l
theorem elems_cells (C : List Int) (m : Nat) (h : C.length = m) : elemsIV [.cells 0 true (cells C)] (.msl 0 0 0 m m 1) = some (one i64 C) := by
  subst h
  have e1 : (cells C).length = C.length := by simp [cells]
  have e2 : sub (cells C) 0 (C.length * 1) = some (cells C) := by
    simp only [sub, Nat.mul_one, e1, Nat.zero_add, Nat.le_refl, ↓reduceIte, List.drop_zero]
    rw [List.take_of_length_le (by rw [e1]; exact Nat.le_refl _)]
  have e3 : cells C = (C.map i64).map .iv := by simp [cells, i64]
  have e4 : chunks 1 C.length (C.map i64) = one i64 C := by
    have := chunks_flat (w := 1) (l := one i64 C) (by intro y hy; simp [one] at hy; obtain ⟨a, _, rfl⟩ := hy; rfl)
    rw [one_length] at this
    rw [← flat_map_one i64 C]; exact this
  simp only [elemsIV]
  show (if (0 : Nat) ≠ 0 then none else match sub (cells C) 0 (C.length * 1) with | some l => (toIVs l).map (chunks 1 C.length) | none => none) = _
  rw [e2]
  simp only [ne_eq, not_true_eq_false, ↓reduceIte]
  rw [e3, toIVs_ivs, Option.map_some, e4]
set_option maxHeartbeats 16000000 in
theorem law4 (r : Int) (t1 : Tag) (E : List (Int × Int)) (t2 : Tag) (M : List (Int × Int)) (hE : E.length ≤ 9223372036854775807) (hM : M.length ≤ 9223372036854775807) (t : Tag) (l : List Int) (hl : l.length ≤ 9223372036854775807) (own : Bool) : ((lim K).call 4 [.iv (gv r t1 E t2 M), .iv (.sl t (one i64 l)), .iv (.bool own)] []).All fun r => r.1 = .iv (.bool true) := by
  have h7 := call7 r t1 E t2 M
  refine call_all' K [] (fn := t4) rfl rfl ?_
  by_cases hf : (r ≤ 70 ∧ E.length ≤ 400 ∧ M.length ≤ 400) ∧ l.length ≤ 80
  · have hd : (decide (r ≤ 70) && (decide (E.length ≤ 400) && decide (M.length ≤ 400))) = true := by simp [hf]
    rw [hd] at h7
    have h12 := fun C (hC : C.length ≤ 80) tg => call12 r t1 E t2 M hf.1.2.1 hf.1.2.2 tg C (by omega)
    have h14 := fun C (hC : C.length ≤ 80) tg => call14 r t1 E t2 M (by omega) (by omega) tg C (by omega)
    have h10 := call10 r t1 E t2 M
    simp only [gv] at h7 h12 h14 h10
    by_cases h0 : l = []
    · subst h0
      have ha : appendOp true 1 8 3 [] (.iv (.sl .nil [])) (.iv (.sl t (one i64 []))) = some (.iv (.sl .nil []), []) := ap_nil rfl (IsEl.sl _ _ _)
      have h14n := h14 [] (by simp) .nil
      have h12n := h12 [] (by simp) .nil
      rw [show one i64 [] = [] from rfl] at h14n h12n
      obtain ⟨y6, y8, e⟩ : ∃ y6 y8, lp' (lim K) t4L0 [.iv (gv r t1 E t2 M), .iv (.sl t (one i64 [])), .iv (.bool own), .lb (gcells r t1 E t2 M), .iv (.bool false), .iv (.sl .nil []), .iv (.int .i64 0), .iv (.bool false), .tup []] [] = .ret (.exit 0, [.iv (gv r t1 E t2 M), .iv (.sl t (one i64 [])), .iv (.bool own), .lb (gcells r t1 E t2 M), .iv (.bool false), .iv (.sl .nil []), y6, .iv (.bool false), y8], []) := by
        refine ⟨?_, ?_, loop_at K _ _ t4L0.eq_1 ?_⟩
        rotate_left 2
        · simp (disch := omega) only [go_sem, Nat.reduceAdd, Nat.reduceSub, Nat.reduceMul, Nat.reduceLT, Nat.reduceLeDiff, Nat.reduceEqDiff, Nat.reduceBEq, reduceIte, reduceCtorEq, List.replicate, List.cons_append, List.nil_append, Int.reduceEq, Int.reduceLT, Int.reduceLE, Int.reduceAdd, Int.reduceSub, Int.reduceMul, Int.reduceToNat, Int.reduceNeg, Int.reduceBEq, Int.reduceBNe, Int.reduceTDiv, Int.reduceTMod, Int.reducePow, Nat.reducePow, decide_true, decide_false, Nat.reduceDiv, Nat.reduceMod, Int.reduceMod, Int.reduceDiv, Int.reduceNe, Int.reduceFDiv, Nat.reduceLeDiff, beq_self_eq_true, decT, decF, ifT, ifF, eqT, eqF, neT, neF, bytesIV_length, one_length, get_cp, get_cp0]
          rfl
      simp only [gv, gcells] at e
      simp (config := { maxSteps := 4000000 }) (disch := omega) only [t4, go_sem, Nat.reduceAdd, Nat.reduceSub, Nat.reduceMul, Nat.reduceLT, Nat.reduceLeDiff, Nat.reduceEqDiff, Nat.reduceBEq, reduceIte, reduceCtorEq, List.replicate, List.cons_append, List.nil_append, Int.reduceEq, Int.reduceLT, Int.reduceLE, Int.reduceAdd, Int.reduceSub, Int.reduceMul, Int.reduceToNat, Int.reduceNeg, Int.reduceBEq, Int.reduceBNe, Int.reduceTDiv, Int.reduceTMod, Int.reducePow, Nat.reducePow, decide_true, decide_false, Nat.reduceDiv, Nat.reduceMod, Int.reduceMod, Int.reduceDiv, Int.reduceNe, Int.reduceFDiv, Nat.reduceLeDiff, beq_self_eq_true, decT, decF, ifT, ifF, eqT, eqF, neT, neF, bytesIV_length, one_length, get_cp, get_cp0, gv, h7, ha, e, cpR_pure h14n, cpR_pure h12n, h10]
      refine all_works works ?_
      simp (config := { maxSteps := 4000000 }) (disch := omega) only [go_sem, Nat.reduceAdd, Nat.reduceSub, Nat.reduceMul, Nat.reduceLT, Nat.reduceLeDiff, Nat.reduceEqDiff, Nat.reduceBEq, reduceIte, reduceCtorEq, List.replicate, List.cons_append, List.nil_append, Int.reduceEq, Int.reduceLT, Int.reduceLE, Int.reduceAdd, Int.reduceSub, Int.reduceMul, Int.reduceToNat, Int.reduceNeg, Int.reduceBEq, Int.reduceBNe, Int.reduceTDiv, Int.reduceTMod, Int.reducePow, Nat.reducePow, decide_true, decide_false, Nat.reduceDiv, Nat.reduceMod, Int.reduceMod, Int.reduceDiv, Int.reduceNe, Int.reduceFDiv, Nat.reduceLeDiff, beq_self_eq_true, decT, decF, ifT, ifF, eqT, eqF, neT, neF, bytesIV_length, one_length, get_cp, get_cp0, Out.All]
    · have hne : one i64 l ≠ [] := by intro q; have := congrArg List.length q; rw [one_length] at this; simp at this; exact h0 this
      have hm0 : ¬ l.length = 0 := fun q => h0 (List.eq_nil_of_length_eq_zero q)
      have ha : appendOp true 1 8 3 [] (.iv (.sl .nil [])) (.iv (.sl t (one i64 l))) = some (.msl 0 0 0 l.length l.length 1, [.cells 0 true (cells l)]) := by
        obtain ⟨h1, h2⟩ := IsEl.sl [] t (one i64 l)
        have hfl := flat_len (w := 1) (l := one i64 l) (by intro y hy; simp [one] at hy; obtain ⟨a, _, rfl⟩ := hy; rfl)
        have hany := any_ref (all_flat (l := one i64 l) (by intro y hy; simp [one] at hy; obtain ⟨a, _, rfl⟩ := hy; rfl))
        simp only [appendOp, h1, h2, List.length_map, hfl, one_length, ne_eq, not_true_eq_false, hany, Bool.false_eq_true, or_self, ↓reduceIte, hm0]
        have hr : roomy l.length 8 = true := roomy_ok (by omega)
        have hff : fits 1 ([] : List (List IV)) = true := rfl
        simp only [List.length_nil, Nat.zero_add, hr, hff, show (Tag.nil == Tag.no) = false from rfl, Bool.not_true, Bool.or_self, Bool.false_eq_true, ↓reduceIte, flat, List.map_nil, List.nil_append]
        rw [flat_map_one' i64 l]
        simp [cells, i64]
      obtain ⟨C', y6, y8, hC', e⟩ := loop4 (.iv (gv r t1 E t2 M)) (.iv (.sl t (one i64 l))) (.lb (gcells r t1 E t2 M)) (.iv (.bool false)) (.iv (.bool false)) own l.length hf.2 32 0 l (.tup []) rfl (by omega) (by omega)
      rw [show ((0 : Nat) : Int) = 0 from rfl] at e
      have hel := elems_cells C' l.length hC'
      have h14n := h14 C' (by omega) .no
      have h12n := h12 C' (by omega) .no
      simp only [gv, gcells] at e
      simp (config := { maxSteps := 4000000 }) (disch := omega) only [t4, go_sem, Nat.reduceAdd, Nat.reduceSub, Nat.reduceMul, Nat.reduceLT, Nat.reduceLeDiff, Nat.reduceEqDiff, Nat.reduceBEq, reduceIte, reduceCtorEq, List.replicate, List.cons_append, List.nil_append, Int.reduceEq, Int.reduceLT, Int.reduceLE, Int.reduceAdd, Int.reduceSub, Int.reduceMul, Int.reduceToNat, Int.reduceNeg, Int.reduceBEq, Int.reduceBNe, Int.reduceTDiv, Int.reduceTMod, Int.reducePow, Nat.reducePow, decide_true, decide_false, Nat.reduceDiv, Nat.reduceMod, Int.reduceMod, Int.reduceDiv, Int.reduceNe, Int.reduceFDiv, Nat.reduceLeDiff, beq_self_eq_true, decT, decF, ifT, ifF, eqT, eqF, neT, neF, bytesIV_length, one_length, get_cp, get_cp0, gv, h7, ha, e, hel, cpR_pure h14n, cpR_pure h12n, h10]
      refine all_works works ?_
      simp (config := { maxSteps := 4000000 }) (disch := omega) only [go_sem, Nat.reduceAdd, Nat.reduceSub, Nat.reduceMul, Nat.reduceLT, Nat.reduceLeDiff, Nat.reduceEqDiff, Nat.reduceBEq, reduceIte, reduceCtorEq, List.replicate, List.cons_append, List.nil_append, Int.reduceEq, Int.reduceLT, Int.reduceLE, Int.reduceAdd, Int.reduceSub, Int.reduceMul, Int.reduceToNat, Int.reduceNeg, Int.reduceBEq, Int.reduceBNe, Int.reduceTDiv, Int.reduceTMod, Int.reducePow, Nat.reducePow, decide_true, decide_false, Nat.reduceDiv, Nat.reduceMod, Int.reduceMod, Int.reduceDiv, Int.reduceNe, Int.reduceFDiv, Nat.reduceLeDiff, beq_self_eq_true, decT, decF, ifT, ifF, eqT, eqF, neT, neF, bytesIV_length, one_length, get_cp, get_cp0, Out.All]
  · by_cases hf1 : r ≤ 70 ∧ E.length ≤ 400 ∧ M.length ≤ 400
    · have hd : (decide (r ≤ 70) && (decide (E.length ≤ 400) && decide (M.length ≤ 400))) = true := by simp [hf1]
      rw [hd] at h7
      simp only [gv] at h7
      simp (config := { maxSteps := 4000000 }) (disch := omega) only [t4, go_sem, Nat.reduceAdd, Nat.reduceSub, Nat.reduceMul, Nat.reduceLT, Nat.reduceLeDiff, Nat.reduceEqDiff, Nat.reduceBEq, reduceIte, reduceCtorEq, List.replicate, List.cons_append, List.nil_append, Int.reduceEq, Int.reduceLT, Int.reduceLE, Int.reduceAdd, Int.reduceSub, Int.reduceMul, Int.reduceToNat, Int.reduceNeg, Int.reduceBEq, Int.reduceBNe, Int.reduceTDiv, Int.reduceTMod, Int.reducePow, Nat.reducePow, decide_true, decide_false, Nat.reduceDiv, Nat.reduceMod, Int.reduceMod, Int.reduceDiv, Int.reduceNe, Int.reduceFDiv, Nat.reduceLeDiff, beq_self_eq_true, decT, decF, ifT, ifF, eqT, eqF, neT, neF, bytesIV_length, one_length, get_cp, get_cp0, gv, h7]
      refine all_works works ?_
      simp (config := { maxSteps := 4000000 }) (disch := omega) only [go_sem, Nat.reduceAdd, Nat.reduceSub, Nat.reduceMul, Nat.reduceLT, Nat.reduceLeDiff, Nat.reduceEqDiff, Nat.reduceBEq, reduceIte, reduceCtorEq, List.replicate, List.cons_append, List.nil_append, Int.reduceEq, Int.reduceLT, Int.reduceLE, Int.reduceAdd, Int.reduceSub, Int.reduceMul, Int.reduceToNat, Int.reduceNeg, Int.reduceBEq, Int.reduceBNe, Int.reduceTDiv, Int.reduceTMod, Int.reducePow, Nat.reducePow, decide_true, decide_false, Nat.reduceDiv, Nat.reduceMod, Int.reduceMod, Int.reduceDiv, Int.reduceNe, Int.reduceFDiv, Nat.reduceLeDiff, beq_self_eq_true, decT, decF, ifT, ifF, eqT, eqF, neT, neF, bytesIV_length, one_length, get_cp, get_cp0, Out.All]
    · have hd : (decide (r ≤ 70) && (decide (E.length ≤ 400) && decide (M.length ≤ 400))) = false := by
        rw [Bool.eq_false_iff]; simp; omega
      rw [hd] at h7
      simp only [gv] at h7
      simp (config := { maxSteps := 4000000 }) (disch := omega) only [t4, go_sem, Nat.reduceAdd, Nat.reduceSub, Nat.reduceMul, Nat.reduceLT, Nat.reduceLeDiff, Nat.reduceEqDiff, Nat.reduceBEq, reduceIte, reduceCtorEq, List.replicate, List.cons_append, List.nil_append, Int.reduceEq, Int.reduceLT, Int.reduceLE, Int.reduceAdd, Int.reduceSub, Int.reduceMul, Int.reduceToNat, Int.reduceNeg, Int.reduceBEq, Int.reduceBNe, Int.reduceTDiv, Int.reduceTMod, Int.reducePow, Nat.reducePow, decide_true, decide_false, Nat.reduceDiv, Nat.reduceMod, Int.reduceMod, Int.reduceDiv, Int.reduceNe, Int.reduceFDiv, Nat.reduceLeDiff, beq_self_eq_true, decT, decF, ifT, ifF, eqT, eqF, neT, neF, bytesIV_length, one_length, get_cp, get_cp0, gv, h7]
      refine all_works works ?_
      simp (config := { maxSteps := 4000000 }) (disch := omega) only [go_sem, Nat.reduceAdd, Nat.reduceSub, Nat.reduceMul, Nat.reduceLT, Nat.reduceLeDiff, Nat.reduceEqDiff, Nat.reduceBEq, reduceIte, reduceCtorEq, List.replicate, List.cons_append, List.nil_append, Int.reduceEq, Int.reduceLT, Int.reduceLE, Int.reduceAdd, Int.reduceSub, Int.reduceMul, Int.reduceToNat, Int.reduceNeg, Int.reduceBEq, Int.reduceBNe, Int.reduceTDiv, Int.reduceTMod, Int.reducePow, Nat.reducePow, decide_true, decide_false, Nat.reduceDiv, Nat.reduceMod, Int.reduceMod, Int.reduceDiv, Int.reduceNe, Int.reduceFDiv, Nat.reduceLeDiff, beq_self_eq_true, decT, decF, ifT, ifF, eqT, eqF, neT, neF, bytesIV_length, one_length, get_cp, get_cp0, Out.All]
end Go.Proofs.Ytmlhjdekfihdnaa
