/- The contracts of utf: the document's Get. Condition: none. -/
import Derived.Test.YtgjndmpfofhhmaaDoorUtfB3
set_option maxRecDepth 100000
set_option linter.unusedSimpArgs false
set_option linter.unusedVariables false
namespace Go.Proofs.YtgjndmpfofhhmaaDoor
open Go Go.TM
def toldF (n : Int) : List UInt8 → Int
  | [] => n
  | b :: r => toldF (64 * n + b.toNat % 64) r
def toldR : List UInt8 → Int
  | [] => 0
  | a :: r => toldF (if r.length = 1 then a.toNat % 32 else if r.length = 2 then a.toNat % 16 else if r.length = 3 then a.toNat % 8 else a.toNat) r
theorem drop_toNat (l : List UInt8) (i : Int) (h : 0 ≤ i ∧ i < l.length) : l.drop i.toNat = l.getD i.toNat 0 :: l.drop (i + 1).toNat := by
  have h1 : i.toNat < l.length := by omega
  rw [List.drop_eq_getElem_cons h1, show (i + 1).toNat = i.toNat + 1 by omega]
  simp [List.getD, List.getElem?_eq_getElem h1]
theorem loop27 (t : Tag) (l : List UInt8) (r0 f a b c : TV) (hl : l.length ≤ 4) : ∀ (k : Nat) (i n : Int) (x : TV), i + k = l.length → 1 ≤ i → 0 ≤ n → (n + 1) * 64 ^ k ≤ 1099511627776 →
    lp' (lim K) t27L0 [.iv (.sl t (bytesIV l)), r0, f, .iv (.int .i64 n), .iv (.int .i64 i), a, b, c, x] [] = .ret (.exit 0, [.iv (.sl t (bytesIV l)), r0, f, .iv (.int .i64 (toldF n (l.drop i.toNat))), .iv (.int .i64 l.length), a, b, c, .iv (.bool false)], [])
  | 0, i, n, x, hk, hi, hn, hb => by
    have e : l.drop i.toNat = [] := List.drop_of_length_le (by omega)
    obtain rfl : i = l.length := by omega
    refine loop_at K _ _ t27L0.eq_1 ?_
    simp (disch := omega) only [go_sem, Nat.reduceAdd, Nat.reduceSub, Nat.reduceMul, Nat.reduceLT, Nat.reduceLeDiff, Nat.reduceEqDiff, Nat.reduceBEq, reduceIte, reduceCtorEq, List.replicate, List.cons_append, List.nil_append, Int.reduceEq, Int.reduceLT, Int.reduceLE, Int.reduceAdd, Int.reduceSub, Int.reduceMul, Int.reduceToNat, Int.reduceNeg, Int.reduceBEq, Int.reduceBNe, Int.reduceTDiv, Int.reduceTMod, Int.reducePow, Nat.reducePow, decide_true, decide_false, Nat.reduceDiv, Nat.reduceMod, Int.reduceMod, Int.reduceDiv, Int.reduceNe, Int.reduceFDiv, Nat.reduceLeDiff, decT, decF, eqT, eqF, neT, neF, bytesIV_length, one_length, get_cp, get_cp0, e, toldF]
  | k + 1, i, n, x, hk, hi, hn, hb => by
    refine loop_at K _ _ t27L0.eq_1 ?_
    have hx := bl (l.getD i.toNat 0)
    have h1 : (1 : Int) ≤ 64 ^ k := Int.pow_pos (by decide)
    have h2 : (n + 1) * 64 ^ (k + 1) = (64 * (n + 1)) * 64 ^ k := by rw [Int.pow_succ]; ac_rfl
    have h3 : 64 * (n + 1) * 1 ≤ (64 * (n + 1)) * 64 ^ k := Int.mul_le_mul_of_nonneg_left h1 (by omega)
    have h4 : (64 * n + (l.getD i.toNat 0).toNat % 64 + 1) * 64 ^ k ≤ (64 * (n + 1)) * 64 ^ k := Int.mul_le_mul_of_nonneg_right (by omega) (by omega)
    simp (disch := omega) only [go_sem, Nat.reduceAdd, Nat.reduceSub, Nat.reduceMul, Nat.reduceLT, Nat.reduceLeDiff, Nat.reduceEqDiff, Nat.reduceBEq, reduceIte, reduceCtorEq, List.replicate, List.cons_append, List.nil_append, Int.reduceEq, Int.reduceLT, Int.reduceLE, Int.reduceAdd, Int.reduceSub, Int.reduceMul, Int.reduceToNat, Int.reduceNeg, Int.reduceBEq, Int.reduceBNe, Int.reduceTDiv, Int.reduceTMod, Int.reducePow, Nat.reducePow, decide_true, decide_false, Nat.reduceDiv, Nat.reduceMod, Int.reduceMod, Int.reduceDiv, Int.reduceNe, Int.reduceFDiv, Nat.reduceLeDiff, decT, decF, eqT, eqF, neT, neF, bytesIV_length, one_length, get_cp, get_cp0, ix_bytes, wrap_i64, Int.tmod_eq_emod_of_nonneg]
    rw [loop27 t l r0 f a b c hl k (i + 1) _ _ (by omega) (by omega) (by omega) (by omega)]
    rw [drop_toNat l i (by omega)]
    rfl
theorem call27 (t : Tag) (l : List UInt8) (h : 1 ≤ l.length ∧ l.length ≤ 4) : (lim K).call 27 [.iv (.sl t (bytesIV l))] [] = .ret (.iv (.int .i64 (toldR l)), []) := by
  refine call_ret' K [] (fn := t27) rfl rfl ?_
  cases l with
  | nil => simp at h
  | cons a r =>
    have ha := bl a
    simp only [List.length_cons] at h
    have hl : r.length ≤ 3 := by omega
    have hp : (64 : Int) ^ r.length ≤ 64 ^ 3 := by
      have := Nat.pow_le_pow_right (n := 64) (by decide) hl
      exact_mod_cast this
    have key : ∀ n : Int, 0 ≤ n → n ≤ 255 → (n + 1) * 64 ^ r.length ≤ 1099511627776 := by
      intro n h0 h1
      have e1 : (n + 1) * 64 ^ r.length ≤ (n + 1) * 64 ^ 3 := Int.mul_le_mul_of_nonneg_left hp (by omega)
      omega
    by_cases h1 : r.length = 1
    · have e := loop27 t (a :: r) (.iv (.int .i64 0)) (.iv (.int .i64 a.toNat)) (.iv (.bool true)) (.iv (.bool false)) (.iv (.bool false)) (by simp; omega) r.length 1 (a.toNat % 32) (.tup []) (by simp; omega) (by omega) (by omega) (key _ (by omega) (by omega))
      simp (disch := omega) only [t27, go_sem, Nat.reduceAdd, Nat.reduceSub, Nat.reduceMul, Nat.reduceLT, Nat.reduceLeDiff, Nat.reduceEqDiff, Nat.reduceBEq, reduceIte, reduceCtorEq, List.replicate, List.cons_append, List.nil_append, Int.reduceEq, Int.reduceLT, Int.reduceLE, Int.reduceAdd, Int.reduceSub, Int.reduceMul, Int.reduceToNat, Int.reduceNeg, Int.reduceBEq, Int.reduceBNe, Int.reduceTDiv, Int.reduceTMod, Int.reducePow, Nat.reducePow, decide_true, decide_false, Nat.reduceDiv, Nat.reduceMod, Int.reduceMod, Int.reduceDiv, Int.reduceNe, Int.reduceFDiv, Nat.reduceLeDiff, decT, decF, eqT, eqF, neT, neF, bytesIV_length, one_length, get_cp, get_cp0, ix_bytes, wrap_i64, Int.tmod_eq_emod_of_nonneg, indexAddrS, cons_bytes, h1, Int.cast_ofNat_Int]
      simp only [cons_bytes] at e
      simp (disch := omega) only [go_sem, Nat.reduceAdd, Nat.reduceSub, Nat.reduceMul, Nat.reduceLT, Nat.reduceLeDiff, Nat.reduceEqDiff, Nat.reduceBEq, reduceIte, reduceCtorEq, List.replicate, List.cons_append, List.nil_append, Int.reduceEq, Int.reduceLT, Int.reduceLE, Int.reduceAdd, Int.reduceSub, Int.reduceMul, Int.reduceToNat, Int.reduceNeg, Int.reduceBEq, Int.reduceBNe, Int.reduceTDiv, Int.reduceTMod, Int.reducePow, Nat.reducePow, decide_true, decide_false, Nat.reduceDiv, Nat.reduceMod, Int.reduceMod, Int.reduceDiv, Int.reduceNe, Int.reduceFDiv, Nat.reduceLeDiff, e, toldR, h1]

    by_cases h2 : r.length = 2
    · have e := loop27 t (a :: r) (.iv (.int .i64 0)) (.iv (.int .i64 a.toNat)) (.iv (.bool false)) (.iv (.bool true)) (.iv (.bool false)) (by simp; omega) r.length 1 (a.toNat % 16) (.tup []) (by simp; omega) (by omega) (by omega) (key _ (by omega) (by omega))
      simp (disch := omega) only [t27, go_sem, Nat.reduceAdd, Nat.reduceSub, Nat.reduceMul, Nat.reduceLT, Nat.reduceLeDiff, Nat.reduceEqDiff, Nat.reduceBEq, reduceIte, reduceCtorEq, List.replicate, List.cons_append, List.nil_append, Int.reduceEq, Int.reduceLT, Int.reduceLE, Int.reduceAdd, Int.reduceSub, Int.reduceMul, Int.reduceToNat, Int.reduceNeg, Int.reduceBEq, Int.reduceBNe, Int.reduceTDiv, Int.reduceTMod, Int.reducePow, Nat.reducePow, decide_true, decide_false, Nat.reduceDiv, Nat.reduceMod, Int.reduceMod, Int.reduceDiv, Int.reduceNe, Int.reduceFDiv, Nat.reduceLeDiff, decT, decF, eqT, eqF, neT, neF, bytesIV_length, one_length, get_cp, get_cp0, ix_bytes, wrap_i64, Int.tmod_eq_emod_of_nonneg, indexAddrS, cons_bytes, h2, Int.cast_ofNat_Int]
      simp only [cons_bytes] at e
      simp (disch := omega) only [go_sem, Nat.reduceAdd, Nat.reduceSub, Nat.reduceMul, Nat.reduceLT, Nat.reduceLeDiff, Nat.reduceEqDiff, Nat.reduceBEq, reduceIte, reduceCtorEq, List.replicate, List.cons_append, List.nil_append, Int.reduceEq, Int.reduceLT, Int.reduceLE, Int.reduceAdd, Int.reduceSub, Int.reduceMul, Int.reduceToNat, Int.reduceNeg, Int.reduceBEq, Int.reduceBNe, Int.reduceTDiv, Int.reduceTMod, Int.reducePow, Nat.reducePow, decide_true, decide_false, Nat.reduceDiv, Nat.reduceMod, Int.reduceMod, Int.reduceDiv, Int.reduceNe, Int.reduceFDiv, Nat.reduceLeDiff, e, toldR, h2]

    by_cases h3 : r.length = 3
    · have e := loop27 t (a :: r) (.iv (.int .i64 0)) (.iv (.int .i64 a.toNat)) (.iv (.bool false)) (.iv (.bool false)) (.iv (.bool true)) (by simp; omega) r.length 1 (a.toNat % 8) (.tup []) (by simp; omega) (by omega) (by omega) (key _ (by omega) (by omega))
      simp (disch := omega) only [t27, go_sem, Nat.reduceAdd, Nat.reduceSub, Nat.reduceMul, Nat.reduceLT, Nat.reduceLeDiff, Nat.reduceEqDiff, Nat.reduceBEq, reduceIte, reduceCtorEq, List.replicate, List.cons_append, List.nil_append, Int.reduceEq, Int.reduceLT, Int.reduceLE, Int.reduceAdd, Int.reduceSub, Int.reduceMul, Int.reduceToNat, Int.reduceNeg, Int.reduceBEq, Int.reduceBNe, Int.reduceTDiv, Int.reduceTMod, Int.reducePow, Nat.reducePow, decide_true, decide_false, Nat.reduceDiv, Nat.reduceMod, Int.reduceMod, Int.reduceDiv, Int.reduceNe, Int.reduceFDiv, Nat.reduceLeDiff, decT, decF, eqT, eqF, neT, neF, bytesIV_length, one_length, get_cp, get_cp0, ix_bytes, wrap_i64, Int.tmod_eq_emod_of_nonneg, indexAddrS, cons_bytes, h3, Int.cast_ofNat_Int]
      simp only [cons_bytes] at e
      simp (disch := omega) only [go_sem, Nat.reduceAdd, Nat.reduceSub, Nat.reduceMul, Nat.reduceLT, Nat.reduceLeDiff, Nat.reduceEqDiff, Nat.reduceBEq, reduceIte, reduceCtorEq, List.replicate, List.cons_append, List.nil_append, Int.reduceEq, Int.reduceLT, Int.reduceLE, Int.reduceAdd, Int.reduceSub, Int.reduceMul, Int.reduceToNat, Int.reduceNeg, Int.reduceBEq, Int.reduceBNe, Int.reduceTDiv, Int.reduceTMod, Int.reducePow, Nat.reducePow, decide_true, decide_false, Nat.reduceDiv, Nat.reduceMod, Int.reduceMod, Int.reduceDiv, Int.reduceNe, Int.reduceFDiv, Nat.reduceLeDiff, e, toldR, h3]

    · have e := loop27 t (a :: r) (.iv (.int .i64 0)) (.iv (.int .i64 a.toNat)) (.iv (.bool false)) (.iv (.bool false)) (.iv (.bool false)) (by simp; omega) r.length 1 a.toNat (.tup []) (by simp; omega) (by omega) (by omega) (key _ (by omega) (by omega))
      have h0 : r.length = 0 := by omega
      simp (disch := omega) only [t27, go_sem, Nat.reduceAdd, Nat.reduceSub, Nat.reduceMul, Nat.reduceLT, Nat.reduceLeDiff, Nat.reduceEqDiff, Nat.reduceBEq, reduceIte, reduceCtorEq, List.replicate, List.cons_append, List.nil_append, Int.reduceEq, Int.reduceLT, Int.reduceLE, Int.reduceAdd, Int.reduceSub, Int.reduceMul, Int.reduceToNat, Int.reduceNeg, Int.reduceBEq, Int.reduceBNe, Int.reduceTDiv, Int.reduceTMod, Int.reducePow, Nat.reducePow, decide_true, decide_false, Nat.reduceDiv, Nat.reduceMod, Int.reduceMod, Int.reduceDiv, Int.reduceNe, Int.reduceFDiv, Nat.reduceLeDiff, decT, decF, eqT, eqF, neT, neF, bytesIV_length, one_length, get_cp, get_cp0, ix_bytes, wrap_i64, Int.tmod_eq_emod_of_nonneg, indexAddrS, cons_bytes, h0, Int.cast_ofNat_Int]
      simp only [cons_bytes] at e
      simp (disch := omega) only [go_sem, Nat.reduceAdd, Nat.reduceSub, Nat.reduceMul, Nat.reduceLT, Nat.reduceLeDiff, Nat.reduceEqDiff, Nat.reduceBEq, reduceIte, reduceCtorEq, List.replicate, List.cons_append, List.nil_append, Int.reduceEq, Int.reduceLT, Int.reduceLE, Int.reduceAdd, Int.reduceSub, Int.reduceMul, Int.reduceToNat, Int.reduceNeg, Int.reduceBEq, Int.reduceBNe, Int.reduceTDiv, Int.reduceTMod, Int.reducePow, Nat.reducePow, decide_true, decide_false, Nat.reduceDiv, Nat.reduceMod, Int.reduceMod, Int.reduceDiv, Int.reduceNe, Int.reduceFDiv, Nat.reduceLeDiff, e, toldR, h0]

end Go.Proofs.YtgjndmpfofhhmaaDoor
