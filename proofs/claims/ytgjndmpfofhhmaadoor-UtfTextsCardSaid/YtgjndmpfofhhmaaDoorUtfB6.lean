/- The contracts of utf: the document's Get answers as Get does. Condition: none. -/
import Derived.Test.YtgjndmpfofhhmaaDoorUtfB5
set_option maxRecDepth 100000
set_option linter.unusedSimpArgs false
set_option linter.unusedVariables false
namespace Go.Proofs.YtgjndmpfofhhmaaDoor
open Go Go.TM
theorem loop13 (t : Tag) (l : List UInt8) (at' : Int) (ht : TagOk t l) (hat : 0 ≤ at' ∧ at' < l.length) (hl : l.length ≤ 4611686018427387904) (r2 r3 r4 a : TV) : ∀ (k : Nat) (n : Int) (x6 x8 x9 : TV), n + k = 5 → 1 ≤ n → (bad (l.drop at'.toNat) = false → n ≤ (D (l.drop at'.toNat)).2) →
    ∃ y5 y6 y8 y9, lp' (lim K) t13L0 [.iv (.sl t (bytesIV l)), .iv (.int .i64 at'), r2, r3, r4, .iv (.int .i64 n), x6, a, x8, x9] [] = .ret (if bad (l.drop at'.toNat) then (.exit 0, [.iv (.sl t (bytesIV l)), .iv (.int .i64 at'), r2, r3, r4, y5, y6, a, y8, y9], []) else (.ret, [.iv (.sl t (bytesIV l)), .iv (.int .i64 at'), .iv (.int .i64 (D (l.drop at'.toNat)).1), .iv (.int .i64 (D (l.drop at'.toNat)).2), .iv (.int .i64 0), y5, y6, a, y8, y9], []))
  | 0, n, x6, x8, x9, hk, hn, hd => by
    have hb : bad (l.drop at'.toNat) = true := by
      cases hb : bad (l.drop at'.toNat)
      · have := D_le (l.drop at'.toNat); have := hd hb; omega
      · rfl
    refine ⟨?_, ?_, ?_, ?_, loop_at K _ _ t13L0.eq_1 ?_⟩
    rotate_left 4
    · simp (disch := omega) only [go_sem, Nat.reduceAdd, Nat.reduceSub, Nat.reduceMul, Nat.reduceLT, Nat.reduceLeDiff, Nat.reduceEqDiff, Nat.reduceBEq, reduceIte, reduceCtorEq, List.replicate, List.cons_append, List.nil_append, Int.reduceEq, Int.reduceLT, Int.reduceLE, Int.reduceAdd, Int.reduceSub, Int.reduceMul, Int.reduceToNat, Int.reduceNeg, Int.reduceBEq, Int.reduceBNe, Int.reduceTDiv, Int.reduceTMod, Int.reducePow, Nat.reducePow, decide_true, decide_false, Nat.reduceDiv, Nat.reduceMod, Int.reduceMod, Int.reduceDiv, Int.reduceNe, Int.reduceFDiv, Nat.reduceLeDiff, decT, decF, eqT, eqF, neT, neF, bytesIV_length, one_length, get_cp, get_cp0, hb]
      rfl
  | k + 1, n, x6, x8, x9, hk, hn, hd => by
    by_cases hlen : at' + n ≤ l.length
    · have hs : (l.drop at'.toNat).length = l.length - at'.toNat := List.length_drop
      have e1 : (at' + n).toNat - at'.toNat = n.toNat := by omega
      have hsl : sliceOp [] (.sl 1) (.iv (.sl t (bytesIV l))) (some at') (some (at' + n)) none = some (.iv (.sl (cutTag t l.length (at' + n).toNat) (bytesIV ((l.drop at'.toNat).take n.toNat)))) := by
        rw [slice_bytes [] ht (by omega), e1]
      have h27 := fun tg => call27 tg ((l.drop at'.toNat).take n.toNat) (by rw [List.length_take, hs]; omega)
      have hfi := fits_iff (s := l.drop at'.toNat) (n := n.toNat) (by rw [hs]; omega)
      have ih0 := loop13 t l at' ht hat hl r2 r3 r4 a k
      generalize l.drop at'.toNat = s at *
      cases hf : fits s n.toNat
      · have hnd : bad s = false → n + 1 ≤ (D s).2 := by
          intro hb
          have h1 := hd hb
          have h2 : ¬ (D s).2 = n.toNat := by
            intro h3
            have := hfi.2 ⟨hb, h3⟩
            rw [hf] at this; cases this
          omega
        cases hc : isC (toldR (s.take n.toNat))
        · obtain ⟨y5, y6, y8, y9, ih⟩ := ih0 (n + 1) (.iv (.int .i64 (toldR (s.take n.toNat)))) (.iv (.bool true)) (.iv (.bool false)) (by omega) (by omega) hnd
          refine ⟨y5, y6, y8, y9, loop_at K _ _ t13L0.eq_1 ?_⟩
          simp (disch := omega) only [go_sem, Nat.reduceAdd, Nat.reduceSub, Nat.reduceMul, Nat.reduceLT, Nat.reduceLeDiff, Nat.reduceEqDiff, Nat.reduceBEq, reduceIte, reduceCtorEq, List.replicate, List.cons_append, List.nil_append, Int.reduceEq, Int.reduceLT, Int.reduceLE, Int.reduceAdd, Int.reduceSub, Int.reduceMul, Int.reduceToNat, Int.reduceNeg, Int.reduceBEq, Int.reduceBNe, Int.reduceTDiv, Int.reduceTMod, Int.reducePow, Nat.reducePow, decide_true, decide_false, Nat.reduceDiv, Nat.reduceMod, Int.reduceMod, Int.reduceDiv, Int.reduceNe, Int.reduceFDiv, Nat.reduceLeDiff, decT, decF, eqT, eqF, neT, neF, bytesIV_length, one_length, get_cp, get_cp0, wrap_i64, hsl, h27, call15, hc, ih]
          cases bad s <;> rfl
        · obtain ⟨y5, y6, y8, y9, ih⟩ := ih0 (n + 1) (.iv (.int .i64 (toldR (s.take n.toNat)))) (.iv (.bool true)) (.iv (.bool false)) (by omega) (by omega) hnd
          have he : (bytesR (toldR (s.take n.toNat)) == s.take n.toNat) = false := by simpa [fits, hc] using hf
          refine ⟨y5, y6, y8, y9, loop_at K _ _ t13L0.eq_1 ?_⟩
          simp (disch := omega) only [go_sem, Nat.reduceAdd, Nat.reduceSub, Nat.reduceMul, Nat.reduceLT, Nat.reduceLeDiff, Nat.reduceEqDiff, Nat.reduceBEq, reduceIte, reduceCtorEq, List.replicate, List.cons_append, List.nil_append, Int.reduceEq, Int.reduceLT, Int.reduceLE, Int.reduceAdd, Int.reduceSub, Int.reduceMul, Int.reduceToNat, Int.reduceNeg, Int.reduceBEq, Int.reduceBNe, Int.reduceTDiv, Int.reduceTMod, Int.reducePow, Nat.reducePow, decide_true, decide_false, Nat.reduceDiv, Nat.reduceMod, Int.reduceMod, Int.reduceDiv, Int.reduceNe, Int.reduceFDiv, Nat.reduceLeDiff, decT, decF, eqT, eqF, neT, neF, bytesIV_length, one_length, get_cp, get_cp0, wrap_i64, hsl, h27, call15, hc, call24 _ hc, he, ih]
          cases bad s <;> rfl
      · obtain ⟨hb, hsz⟩ := hfi.1 hf
        have hc : isC (toldR (s.take n.toNat)) = true := by simp [fits] at hf; exact hf.1
        have he : (bytesR (toldR (s.take n.toNat)) == s.take n.toNat) = true := by simp [fits] at hf; simp [hf.2]
        have hv : toldR (s.take n.toNat) = (D s).1 := by
          have g := D_good hb
          rw [← hsz, ← g.2.1, told_bytes g.1]
        have hv2 : ((D s).2 : Int) = n := by omega
        refine ⟨?_, ?_, ?_, ?_, loop_at K _ _ t13L0.eq_1 ?_⟩
        rotate_left 4
        · simp (disch := omega) only [go_sem, Nat.reduceAdd, Nat.reduceSub, Nat.reduceMul, Nat.reduceLT, Nat.reduceLeDiff, Nat.reduceEqDiff, Nat.reduceBEq, reduceIte, reduceCtorEq, List.replicate, List.cons_append, List.nil_append, Int.reduceEq, Int.reduceLT, Int.reduceLE, Int.reduceAdd, Int.reduceSub, Int.reduceMul, Int.reduceToNat, Int.reduceNeg, Int.reduceBEq, Int.reduceBNe, Int.reduceTDiv, Int.reduceTMod, Int.reducePow, Nat.reducePow, decide_true, decide_false, Nat.reduceDiv, Nat.reduceMod, Int.reduceMod, Int.reduceDiv, Int.reduceNe, Int.reduceFDiv, Nat.reduceLeDiff, decT, decF, eqT, eqF, neT, neF, bytesIV_length, one_length, get_cp, get_cp0, wrap_i64, hsl, h27, call15, hc, call24 _ hc, he, hb, hv2]
          simp only [hv]
          rfl
    · have hb : bad (l.drop at'.toNat) = true := by
        cases hb : bad (l.drop at'.toNat)
        · have q := (D_good hb).2.2.2; have p := hd hb; rw [List.length_drop] at q; omega
        · rfl
      refine ⟨?_, ?_, ?_, ?_, loop_at K _ _ t13L0.eq_1 ?_⟩
      rotate_left 4
      · simp (disch := omega) only [go_sem, Nat.reduceAdd, Nat.reduceSub, Nat.reduceMul, Nat.reduceLT, Nat.reduceLeDiff, Nat.reduceEqDiff, Nat.reduceBEq, reduceIte, reduceCtorEq, List.replicate, List.cons_append, List.nil_append, Int.reduceEq, Int.reduceLT, Int.reduceLE, Int.reduceAdd, Int.reduceSub, Int.reduceMul, Int.reduceToNat, Int.reduceNeg, Int.reduceBEq, Int.reduceBNe, Int.reduceTDiv, Int.reduceTMod, Int.reducePow, Nat.reducePow, decide_true, decide_false, Nat.reduceDiv, Nat.reduceMod, Int.reduceMod, Int.reduceDiv, Int.reduceNe, Int.reduceFDiv, Nat.reduceLeDiff, decT, decF, eqT, eqF, neT, neF, bytesIV_length, one_length, get_cp, get_cp0, hb, wrap_i64]
        rfl
theorem call13 (t : Tag) (l : List UInt8) (i : Int) (ht : TagOk t l) (hl : l.length ≤ 4611686018427387904) : (lim K).call 13 [.iv (.sl t (bytesIV l)), .iv (.int .i64 i)] [] = .ret (tup3 (getR l i), []) := by
  refine call_ret' K [] (fn := t13) rfl rfl ?_
  by_cases h : i < 0 ∨ (l.length : Int) ≤ i
  · by_cases h0 : i < 0
    · simp (disch := omega) only [t13, go_sem, Nat.reduceAdd, Nat.reduceSub, Nat.reduceMul, Nat.reduceLT, Nat.reduceLeDiff, Nat.reduceEqDiff, Nat.reduceBEq, reduceIte, reduceCtorEq, List.replicate, List.cons_append, List.nil_append, Int.reduceEq, Int.reduceLT, Int.reduceLE, Int.reduceAdd, Int.reduceSub, Int.reduceMul, Int.reduceToNat, Int.reduceNeg, Int.reduceBEq, Int.reduceBNe, Int.reduceTDiv, Int.reduceTMod, Int.reducePow, Nat.reducePow, decide_true, decide_false, Nat.reduceDiv, Nat.reduceMod, Int.reduceMod, Int.reduceDiv, Int.reduceNe, Int.reduceFDiv, Nat.reduceLeDiff, decT, decF, eqT, eqF, neT, neF, bytesIV_length, one_length, get_cp, get_cp0, getR, h, tup3]
    · simp (disch := omega) only [t13, go_sem, Nat.reduceAdd, Nat.reduceSub, Nat.reduceMul, Nat.reduceLT, Nat.reduceLeDiff, Nat.reduceEqDiff, Nat.reduceBEq, reduceIte, reduceCtorEq, List.replicate, List.cons_append, List.nil_append, Int.reduceEq, Int.reduceLT, Int.reduceLE, Int.reduceAdd, Int.reduceSub, Int.reduceMul, Int.reduceToNat, Int.reduceNeg, Int.reduceBEq, Int.reduceBNe, Int.reduceTDiv, Int.reduceTMod, Int.reducePow, Nat.reducePow, decide_true, decide_false, Nat.reduceDiv, Nat.reduceMod, Int.reduceMod, Int.reduceDiv, Int.reduceNe, Int.reduceFDiv, Nat.reduceLeDiff, decT, decF, eqT, eqF, neT, neF, bytesIV_length, one_length, get_cp, get_cp0, getR, h, tup3]
  · obtain ⟨y5, y6, y8, y9, e⟩ := loop13 t l i ht (by omega) hl (.iv (.int .i64 0)) (.iv (.int .i64 0)) (.iv (.int .i64 0)) (.iv (.bool false)) 4 1 (.tup []) (.tup []) (.tup []) (by omega) (by omega) (fun hb => by have := (D_good hb).2.2.1; omega)
    cases hb : bad (l.drop i.toNat)
    · simp only [hb] at e
      simp (disch := omega) only [t13, go_sem, Nat.reduceAdd, Nat.reduceSub, Nat.reduceMul, Nat.reduceLT, Nat.reduceLeDiff, Nat.reduceEqDiff, Nat.reduceBEq, reduceIte, reduceCtorEq, List.replicate, List.cons_append, List.nil_append, Int.reduceEq, Int.reduceLT, Int.reduceLE, Int.reduceAdd, Int.reduceSub, Int.reduceMul, Int.reduceToNat, Int.reduceNeg, Int.reduceBEq, Int.reduceBNe, Int.reduceTDiv, Int.reduceTMod, Int.reducePow, Nat.reducePow, decide_true, decide_false, Nat.reduceDiv, Nat.reduceMod, Int.reduceMod, Int.reduceDiv, Int.reduceNe, Int.reduceFDiv, Nat.reduceLeDiff, decT, decF, eqT, eqF, neT, neF, bytesIV_length, one_length, get_cp, get_cp0, getR, h, tup3, e, hb]
    · simp only [hb] at e
      simp (disch := omega) only [t13, go_sem, Nat.reduceAdd, Nat.reduceSub, Nat.reduceMul, Nat.reduceLT, Nat.reduceLeDiff, Nat.reduceEqDiff, Nat.reduceBEq, reduceIte, reduceCtorEq, List.replicate, List.cons_append, List.nil_append, Int.reduceEq, Int.reduceLT, Int.reduceLE, Int.reduceAdd, Int.reduceSub, Int.reduceMul, Int.reduceToNat, Int.reduceNeg, Int.reduceBEq, Int.reduceBNe, Int.reduceTDiv, Int.reduceTMod, Int.reducePow, Nat.reducePow, decide_true, decide_false, Nat.reduceDiv, Nat.reduceMod, Int.reduceMod, Int.reduceDiv, Int.reduceNe, Int.reduceFDiv, Nat.reduceLeDiff, decT, decF, eqT, eqF, neT, neF, bytesIV_length, one_length, get_cp, get_cp0, getR, h, tup3, e, hb]
end Go.Proofs.YtgjndmpfofhhmaaDoor
