/- The contracts of utf: All. Condition: none. -/
import Derived.Test.YtgjndmpfofhhmaaDoorUtfC1
set_option maxRecDepth 100000
set_option linter.unusedSimpArgs false
set_option linter.unusedVariables false
namespace Go.Proofs.YtgjndmpfofhhmaaDoor
open Go Go.TM
set_option maxHeartbeats 4000000 in
theorem loop17 (t : Tag) (l : List UInt8) (ht : TagOk t l) (hl : l.length ≤ 1000000) : ∀ (k : Nat) (i : Nat) (done : List (Int × Int)) (x4 x5 x6 x8 x9 x10 x11 : TV), i ≤ l.length → l.length - i ≤ k → done.length ≤ i →
    ∃ y3 y4 y5 y6 y8 y9 y10 y11 S', lp' (lim K) t17L0 [.iv (.sl t (bytesIV l)), .iv (.sl .nil []), .lb [.iv (.int .i64 0), .iv (.int .i64 0)], acc 1 (done.map encC), x4, x5, x6, .it 0, x8, x9, x10, x11] (.sit l i :: accS 2 48 (done.map encC)) = .ret (match (chars k (l.drop i) i).2 with
      | none => (.exit 0, [.iv (.sl t (bytesIV l)), .iv (.sl .nil []), .lb [.iv (.int .i64 0), .iv (.int .i64 0)], acc 1 ((done ++ (chars k (l.drop i) i).1).map encC), y4, y5, y6, .it 0, y8, y9, y10, y11], S')
      | some p => (.ret, [.iv (.sl t (bytesIV l)), .iv (.sl .nil []), .lb [.iv (.int .i64 4), .iv (.int .i64 p)], y3, y4, y5, y6, .it 0, y8, y9, y10, y11], S'))
  | 0, i, done, x4, x5, x6, x8, x9, x10, x11, h1, h2, h3 => by
    refine ⟨?_, ?_, ?_, ?_, ?_, ?_, ?_, ?_, ?_, loop_at K _ _ t17L0.eq_1 ?_⟩
    rotate_left 9
    · simp (disch := omega) only [go_sem, Nat.reduceAdd, Nat.reduceSub, Nat.reduceMul, Nat.reduceLT, Nat.reduceLeDiff, Nat.reduceEqDiff, Nat.reduceBEq, reduceIte, reduceCtorEq, List.replicate, List.cons_append, List.nil_append, Int.reduceEq, Int.reduceLT, Int.reduceLE, Int.reduceAdd, Int.reduceSub, Int.reduceMul, Int.reduceToNat, Int.reduceNeg, Int.reduceBEq, Int.reduceBNe, Int.reduceTDiv, Int.reduceTMod, Int.reducePow, Nat.reducePow, decide_true, decide_false, Nat.reduceDiv, Nat.reduceMod, Int.reduceMod, Int.reduceDiv, Int.reduceNe, Int.reduceFDiv, Nat.reduceLeDiff, decT, decF, ifT, ifF, eqT, eqF, neT, neF, bytesIV_length, one_length, get_cp, get_cp0, chars, List.append_nil]
      rfl
    exact .hole
  | k + 1, i, done, x4, x5, x6, x8, x9, x10, x11, h1, h2, h3 => by
    by_cases hi : i = l.length
    · have e : l.drop i = [] := List.drop_of_length_le (by omega)
      refine ⟨?_, ?_, ?_, ?_, ?_, ?_, ?_, ?_, ?_, loop_at K _ _ t17L0.eq_1 ?_⟩
      rotate_left 9
      · simp (disch := omega) only [go_sem, Nat.reduceAdd, Nat.reduceSub, Nat.reduceMul, Nat.reduceLT, Nat.reduceLeDiff, Nat.reduceEqDiff, Nat.reduceBEq, reduceIte, reduceCtorEq, List.replicate, List.cons_append, List.nil_append, Int.reduceEq, Int.reduceLT, Int.reduceLE, Int.reduceAdd, Int.reduceSub, Int.reduceMul, Int.reduceToNat, Int.reduceNeg, Int.reduceBEq, Int.reduceBNe, Int.reduceTDiv, Int.reduceTMod, Int.reducePow, Nat.reducePow, decide_true, decide_false, Nat.reduceDiv, Nat.reduceMod, Int.reduceMod, Int.reduceDiv, Int.reduceNe, Int.reduceFDiv, Nat.reduceLeDiff, decT, decF, ifT, ifF, eqT, eqF, neT, neF, bytesIV_length, one_length, get_cp, get_cp0, chars, e, List.append_nil]
        rfl
      exact .hole
    · have hs : (l.drop i).length = l.length - i := List.length_drop
      have hde := decode_eq l i (by omega)
      have hne : ¬ l.drop i = [] := by intro e; rw [e] at hs; simp at hs; omega
      have h25 := fun tg => call25 tg (l.drop i)
      have hdl := D_le (l.drop i)
      have hbad : bad (l.drop i) = (decide ((((D (l.drop i)).1 : Nat) : Int) = 65533) && decide ((((D (l.drop i)).2 : Nat) : Int) ≤ 1)) := by
        rw [bad, Bool.eq_iff_iff]; simp; omega
      have hsl := fun S => slice_bytes_lo S (t := t) (l := l) (a := (i : Int)) ht (by omega)
      cases hb : bad (l.drop i)
      · have hg := D_good hb
        have hdr : (l.drop i).drop (D (l.drop i)).2 = l.drop (i + (D (l.drop i)).2) := by
          rw [List.drop_drop]
        have ih := fun x4 x5 x6 x8 x9 x10 x11 => loop17 t l ht hl k (i + (D (l.drop i)).2) (done ++ [(((D (l.drop i)).1 : Int), (i : Int))]) x4 x5 x6 x8 x9 x10 x11 (by omega) (by omega) (by simp; omega)
        simp only [chars, hne, hb, ↓reduceIte, Bool.false_eq_true]
        rw [hdr]
        have ha := ap_accB1 (w := 2) (b := 16) (el := 48) (t := .full) (.sit l (i + (D (l.drop i)).2)) (encC_ok (((D (l.drop i)).1 : Int), (i : Int))) (Elems.map encC_ok done) (roomy_ok (by rw [List.length_map]; omega))
        have em : (done ++ [(((D (l.drop i)).1 : Int), (i : Int))]).map encC = done.map encC ++ [[.int .i64 (D (l.drop i)).1, .int .i64 i]] := by simp [encC]
        rw [em] at ih
        generalize D (l.drop i) = d at *
        simp only [encC] at ha
        rw [hb] at hbad
        by_cases hc : (d.1 : Int) = 65533
        · have h26 : ¬ (d.2 : Int) ≤ 1 := by intro q; simp [hc, q] at hbad
          obtain ⟨y3, y4, y5, y6, y8, y9, y10, y11, S', ih⟩ := ih (.iv (.int .i64 i)) (.iv (.int .i32 d.1)) (.iv (.int .i64 d.2)) (.tup [.iv (.bool true), .iv (.int .i64 i), .iv (.int .i32 d.1)]) (.iv (.bool true)) (.iv (.bool true)) (.iv (.bool false))
          refine ⟨y3, y4, y5, y6, y8, y9, y10, y11, S', loop_at K _ _ t17L0.eq_1 ?_⟩
          simp (config := { maxSteps := 4000000 }) (disch := omega) only [go_sem, Nat.reduceAdd, Nat.reduceSub, Nat.reduceMul, Nat.reduceLT, Nat.reduceLeDiff, Nat.reduceEqDiff, Nat.reduceBEq, reduceIte, reduceCtorEq, List.replicate, List.cons_append, List.nil_append, Int.reduceEq, Int.reduceLT, Int.reduceLE, Int.reduceAdd, Int.reduceSub, Int.reduceMul, Int.reduceToNat, Int.reduceNeg, Int.reduceBEq, Int.reduceBNe, Int.reduceTDiv, Int.reduceTMod, Int.reducePow, Nat.reducePow, decide_true, decide_false, Nat.reduceDiv, Nat.reduceMod, Int.reduceMod, Int.reduceDiv, Int.reduceNe, Int.reduceFDiv, Nat.reduceLeDiff, decT, decF, ifT, ifF, eqT, eqF, neT, neF, bytesIV_length, one_length, get_cp, get_cp0, hde, hsl, Int.toNat_natCast, h25, call26, h26, wrap_i64, ha, ih]
          simp only [Int.natCast_add, List.map_append, List.map_cons, List.map_nil, encC, List.append_assoc, List.cons_append, List.nil_append]
          cases (chars k (l.drop (i + d.2)) ((i : Int) + (d.2 : Int))).2 <;> rfl
        · obtain ⟨y3, y4, y5, y6, y8, y9, y10, y11, S', ih⟩ := ih (.iv (.int .i64 i)) (.iv (.int .i32 d.1)) x6 (.tup [.iv (.bool true), .iv (.int .i64 i), .iv (.int .i32 d.1)]) (.iv (.bool true)) (.iv (.bool false)) x11
          refine ⟨y3, y4, y5, y6, y8, y9, y10, y11, S', loop_at K _ _ t17L0.eq_1 ?_⟩
          simp (config := { maxSteps := 4000000 }) (disch := omega) only [go_sem, Nat.reduceAdd, Nat.reduceSub, Nat.reduceMul, Nat.reduceLT, Nat.reduceLeDiff, Nat.reduceEqDiff, Nat.reduceBEq, reduceIte, reduceCtorEq, List.replicate, List.cons_append, List.nil_append, Int.reduceEq, Int.reduceLT, Int.reduceLE, Int.reduceAdd, Int.reduceSub, Int.reduceMul, Int.reduceToNat, Int.reduceNeg, Int.reduceBEq, Int.reduceBNe, Int.reduceTDiv, Int.reduceTMod, Int.reducePow, Nat.reducePow, decide_true, decide_false, Nat.reduceDiv, Nat.reduceMod, Int.reduceMod, Int.reduceDiv, Int.reduceNe, Int.reduceFDiv, Nat.reduceLeDiff, decT, decF, ifT, ifF, eqT, eqF, neT, neF, bytesIV_length, one_length, get_cp, get_cp0, hde, wrap_i64, ha, ih]
          simp only [Int.natCast_add, List.map_append, List.map_cons, List.map_nil, encC, List.append_assoc, List.cons_append, List.nil_append]
          cases (chars k (l.drop (i + d.2)) ((i : Int) + (d.2 : Int))).2 <;> rfl
      · rw [hb] at hbad
        have h26 := hbad.symm
        have hc : (((D (l.drop i)).1 : Nat) : Int) = 65533 := by simp at h26; omega
        have hc2 : (((D (l.drop i)).2 : Nat) : Int) ≤ 1 := by simp at h26; omega
        refine ⟨?_, ?_, ?_, ?_, ?_, ?_, ?_, ?_, ?_, loop_at K _ _ t17L0.eq_1 ?_⟩
        rotate_left 9
        · simp (config := { maxSteps := 4000000 }) (disch := omega) only [go_sem, Nat.reduceAdd, Nat.reduceSub, Nat.reduceMul, Nat.reduceLT, Nat.reduceLeDiff, Nat.reduceEqDiff, Nat.reduceBEq, reduceIte, reduceCtorEq, List.replicate, List.cons_append, List.nil_append, Int.reduceEq, Int.reduceLT, Int.reduceLE, Int.reduceAdd, Int.reduceSub, Int.reduceMul, Int.reduceToNat, Int.reduceNeg, Int.reduceBEq, Int.reduceBNe, Int.reduceTDiv, Int.reduceTMod, Int.reducePow, Nat.reducePow, decide_true, decide_false, Nat.reduceDiv, Nat.reduceMod, Int.reduceMod, Int.reduceDiv, Int.reduceNe, Int.reduceFDiv, Nat.reduceLeDiff, decT, decF, ifT, ifF, eqT, eqF, neT, neF, bytesIV_length, one_length, get_cp, get_cp0, chars, hne, hb, hde, hsl, Int.toNat_natCast, h25, call26, h26, hc]
          rfl
theorem call17 (t : Tag) (l : List UInt8) (ht : TagOk t l) (hl : l.length ≤ 1000000) : Pure K 17 [.iv (.sl t (bytesIV l))] (match (chars l.length l 0).2 with
      | none => .tup [.iv (.sl (sTag (chars l.length l 0).1) ((chars l.length l 0).1.map encC)), .iv (.agg [.int .i64 0, .int .i64 0])]
      | some p => .tup [.iv (.sl .nil []), .iv (.agg [.int .i64 4, .int .i64 p])]) := by
  obtain ⟨y3, y4, y5, y6, y8, y9, y10, y11, S', e⟩ := loop17 t l ht hl l.length 0 [] (.tup []) (.tup []) (.tup []) (.tup []) (.tup []) (.tup []) (.tup []) (by omega) (by omega) (by simp)
  rw [List.map_nil, acc_nil, accS_nil] at e
  simp only [List.nil_append, List.drop_zero, Int.cast_ofNat_Int] at e
  generalize chars l.length l 0 = q at *
  obtain ⟨q1, q2⟩ := q
  refine call_pure t17 rfl rfl ?_
  cases q2 with
  | none =>
    simp only at e ⊢
    simp (disch := omega) only [t17, go_sem, Nat.reduceAdd, Nat.reduceSub, Nat.reduceMul, Nat.reduceLT, Nat.reduceLeDiff, Nat.reduceEqDiff, Nat.reduceBEq, reduceIte, reduceCtorEq, List.replicate, List.cons_append, List.nil_append, Int.reduceEq, Int.reduceLT, Int.reduceLE, Int.reduceAdd, Int.reduceSub, Int.reduceMul, Int.reduceToNat, Int.reduceNeg, Int.reduceBEq, Int.reduceBNe, Int.reduceTDiv, Int.reduceTMod, Int.reducePow, Nat.reducePow, decide_true, decide_false, Nat.reduceDiv, Nat.reduceMod, Int.reduceMod, Int.reduceDiv, Int.reduceNe, Int.reduceFDiv, Nat.reduceLeDiff, decT, decF, ifT, ifF, eqT, eqF, neT, neF, bytesIV_length, one_length, get_cp, get_cp0, e, sTag_map]
  | some p =>
    simp only at e ⊢
    simp (disch := omega) only [t17, go_sem, Nat.reduceAdd, Nat.reduceSub, Nat.reduceMul, Nat.reduceLT, Nat.reduceLeDiff, Nat.reduceEqDiff, Nat.reduceBEq, reduceIte, reduceCtorEq, List.replicate, List.cons_append, List.nil_append, Int.reduceEq, Int.reduceLT, Int.reduceLE, Int.reduceAdd, Int.reduceSub, Int.reduceMul, Int.reduceToNat, Int.reduceNeg, Int.reduceBEq, Int.reduceBNe, Int.reduceTDiv, Int.reduceTMod, Int.reducePow, Nat.reducePow, decide_true, decide_false, Nat.reduceDiv, Nat.reduceMod, Int.reduceMod, Int.reduceDiv, Int.reduceNe, Int.reduceFDiv, Nat.reduceLeDiff, decT, decF, ifT, ifF, eqT, eqF, neT, neF, bytesIV_length, one_length, get_cp, get_cp0, e]
end Go.Proofs.YtgjndmpfofhhmaaDoor
