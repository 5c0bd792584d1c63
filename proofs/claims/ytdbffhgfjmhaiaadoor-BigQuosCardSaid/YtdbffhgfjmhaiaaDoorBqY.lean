/- The document's Add, Sub, Mul, Cmp. Condition: none. -/
import Derived.Test.YtdbffhgfjmhaiaaDoorBqX
set_option maxRecDepth 100000
set_option maxHeartbeats 2000000
set_option linter.unusedSimpArgs false
set_option linter.unusedVariables false
namespace Go.Proofs.YtdbffhgfjmhaiaaDoor
open Go Go.TM
theorem loop58 (t1 t2 : Tag) (a b : List Int) (ha : Dig 10 a) (hb : Dig 10 b) (h1 : a.length ≤ 100000) (h2 : b.length ≤ a.length) (x2 : TV) : ∀ (k i : Nat) (c : Int) (d : List Int) (x6 x7 x8 : TV), i + k = a.length → d.length = i → 0 ≤ c ∧ c ≤ 1 →
    ∃ o c' y6 y7 y8, Dig 10 o ∧ o.length = k ∧ (0 ≤ c' ∧ c' ≤ 1) ∧ val 10 o + c + val 10 (b.drop i) = val 10 (a.drop i) + 10 ^ k * c' ∧ lp' (lim K) t58L0 [.iv (.sl t1 (one i64 a)), .iv (.sl t2 (one i64 b)), x2, acc 0 (one i64 d), .iv (.int .i64 c), .iv (.int .i64 i), x6, x7, x8] (accS 1 3 (one i64 d)) = .ret (.exit 0, [.iv (.sl t1 (one i64 a)), .iv (.sl t2 (one i64 b)), x2, acc 0 (one i64 (d ++ o)), .iv (.int .i64 c'), .iv (.int .i64 a.length), y6, y7, y8], accS 1 3 (one i64 (d ++ o))) := by
  intro k
  induction k with
  | zero =>
    intro i c d x6 x7 x8 hi hd hc
    obtain rfl : i = a.length := by omega
    rw [List.drop_length, List.drop_of_length_le (by omega)]
    refine ⟨[], c, ?_, ?_, ?_, Dig.nil, rfl, hc, by simp [val], loop_at K _ _ t58L0.eq_1 ?_⟩
    rotate_left 3
    · simp (disch := omega) only [go_sem, Nat.reduceAdd, Nat.reduceSub, Nat.reduceLT, Nat.reduceLeDiff, Nat.reduceEqDiff, Nat.reduceBEq, reduceIte, reduceCtorEq, Int.reduceEq, Int.reduceLT, Int.reduceLE, Int.reduceAdd, Int.reduceSub, Int.reduceMul, Int.reduceToNat, Int.reduceNeg, Int.reduceBEq, Int.reducePow, Nat.reducePow, List.append_nil]
      rfl
  | succ k ih =>
    intro i c d x6 x7 x8 hi hd hc
    have q1 := ha.getD0 (by decide) i
    have q2 := hb.getD0 (by decide) i
    have c1 := call79 t1 a (by omega) i (by omega)
    have c2 := call79 t2 b (by omega) i (by omega)
    rw [val_drop _ a i, val_drop _ b i]
    generalize a.getD i default = p at *
    generalize b.getD i default = q at *
    have hpk : (10 : Int) ^ (k + 1) = 10 * 10 ^ k := by rw [Int.pow_succ, Int.mul_comm]
    by_cases hneg : p - q - c < 0
    · have hap := ap_acc1 (w := 1) (b := 8) (el := 3) (t := .full) (i64_ok (p - q - c + 10)) (Elems.one (f := i64) (fun _ => rfl) d) (roomy_ok (by rw [one_length]; omega))
      rw [one_snoc] at hap
      obtain ⟨o, c', y6, y7, y8, r1, r2, r3, r4, e⟩ := ih (i + 1) 1 (d ++ [p - q - c + 10]) (.iv (.int .i64 (p - q - c + 10))) (.iv (.bool true)) (.iv (.bool true)) (by omega) (by simp [hd]) (by omega)
      refine ⟨(p - q - c + 10) :: o, c', y6, y7, y8, Dig.cons (by omega) r1, by simp [r2], r3, by simp only [val]; rw [hpk, Int.mul_assoc]; omega, loop_at K _ _ t58L0.eq_1 ?_⟩
      rw [List.append_assoc, List.cons_append, List.nil_append] at e
      simp only [i64] at hap
      simp (config := { maxSteps := 4000000 }) (disch := omega) only [go_sem, Nat.reduceAdd, Nat.reduceSub, Nat.reduceLT, Nat.reduceLeDiff, Nat.reduceEqDiff, Nat.reduceBEq, reduceIte, reduceCtorEq, Int.reduceEq, Int.reduceLT, Int.reduceLE, Int.reduceAdd, Int.reduceSub, Int.reduceMul, Int.reduceToNat, Int.reduceNeg, Int.reduceBEq, Int.reducePow, Nat.reducePow, c1, c2, wrap_i64, hap]
      exact congrArg er e
    · have hap := ap_acc1 (w := 1) (b := 8) (el := 3) (t := .full) (i64_ok (p - q - c)) (Elems.one (f := i64) (fun _ => rfl) d) (roomy_ok (by rw [one_length]; omega))
      rw [one_snoc] at hap
      obtain ⟨o, c', y6, y7, y8, r1, r2, r3, r4, e⟩ := ih (i + 1) 0 (d ++ [p - q - c]) (.iv (.int .i64 (p - q - c))) (.iv (.bool true)) (.iv (.bool false)) (by omega) (by simp [hd]) (by omega)
      refine ⟨(p - q - c) :: o, c', y6, y7, y8, Dig.cons (by omega) r1, by simp [r2], r3, by simp only [val]; rw [hpk, Int.mul_assoc]; omega, loop_at K _ _ t58L0.eq_1 ?_⟩
      rw [List.append_assoc, List.cons_append, List.nil_append] at e
      simp only [i64] at hap
      simp (config := { maxSteps := 4000000 }) (disch := omega) only [go_sem, Nat.reduceAdd, Nat.reduceSub, Nat.reduceLT, Nat.reduceLeDiff, Nat.reduceEqDiff, Nat.reduceBEq, reduceIte, reduceCtorEq, Int.reduceEq, Int.reduceLT, Int.reduceLE, Int.reduceAdd, Int.reduceSub, Int.reduceMul, Int.reduceToNat, Int.reduceNeg, Int.reduceBEq, Int.reducePow, Nat.reducePow, c1, c2, wrap_i64, hap]
      exact congrArg er e
theorem call58 (t1 t2 : Tag) (a b : List Int) (ha : Dig 10 a) (hb : Dig 10 b) (h1 : a.length ≤ 90000) (h2 : b.length ≤ a.length) (hv : val 10 b ≤ val 10 a) :
    ∃ t', TagOk t' (dg 10 (val 10 a - val 10 b)) ∧ Pure K 58 [.iv (.sl t1 (one i64 a)), .iv (.sl t2 (one i64 b))] (.iv (.sl t' (one i64 (dg 10 (val 10 a - val 10 b))))) := by
  obtain ⟨o, c', y6, y7, y8, r1, r2, r3, r4, e⟩ := loop58 t1 t2 a b ha hb (by omega) h2 (.iv (.sl .nil [])) a.length 0 0 [] (.tup []) (.tup []) (.tup []) (by omega) rfl (by omega)
  rw [List.drop_zero, List.drop_zero] at r4
  have l1 := val_lt (by decide) r1
  rw [r2] at l1
  have hc : c' = 0 := by
    have : c' = 0 ∨ c' = 1 := by omega
    rcases this with h | h
    · exact h
    · rw [h] at r4; omega
  rw [hc] at r4
  have hval : val 10 o = val 10 a - val 10 b := by omega
  obtain ⟨t', h3, h62⟩ := call62 (sTag o) o (sTag_ok _) (by omega)
  rw [tr_eq (by decide) r1, hval] at h3 h62
  refine ⟨t', h3, call_pure t58 rfl rfl ?_⟩
  rw [List.nil_append, show ((0 : Nat) : Int) = 0 from rfl] at e
  have e0 : acc 0 (one i64 []) = .iv (.sl .nil []) := acc_nil 0
  have e1 : accS 1 3 (one i64 []) = [] := accS_nil 1 3
  rw [e0, e1] at e
  have hs : sTag (one i64 o) = sTag o := sTag_map _ _
  simp (config := { maxSteps := 4000000 }) (disch := omega) only [t58, go_sem, Nat.reduceAdd, Nat.reduceSub, Nat.reduceLT, Nat.reduceLeDiff, Nat.reduceEqDiff, Nat.reduceBEq, reduceIte, reduceCtorEq, Int.reduceEq, Int.reduceLT, Int.reduceLE, Int.reduceAdd, Int.reduceSub, Int.reduceMul, Int.reduceToNat, Int.reduceNeg, Int.reduceBEq, Int.reducePow, Nat.reducePow, e, hs, h62, resB_ret, resolve_acc, resO_some]
theorem dd_eq (t : Tag) (z : Int) : dd t z = .agg [.bool (decide (z < 0)), .sl t (one i64 (dg 10 z.natAbs))] := rfl
theorem made_dd (neg : Bool) (t : Tag) (l : List Int) (ht : TagOk t l) (hd : Dig 10 l) (hl : l.length ≤ 1000000) (z : Int) (hz : z = sv neg (val 10 l)) : ∃ t', TagOk t' (dg 10 z.natAbs) ∧ Pure K 43 [.iv (.bool neg), .iv (.sl t (one i64 l))] (.iv (dd t' z)) := by
  have hv := val_nonneg (by decide) hd
  obtain ⟨t', h1, h2⟩ := call43 neg t l ht hl
  rw [tr_eq (by decide) hd, dnum_dd hv, ← hz] at h2
  rw [tr_eq (by decide) hd] at h1
  refine ⟨t', ?_, h2⟩
  rw [hz, abs_sv _ hv]; exact h1
theorem dig10 (z : Int) : Dig 10 (dg 10 z.natAbs) := dg_dig (by decide) (by omega)
theorem val10 (z : Int) : val 10 (dg 10 z.natAbs) = z.natAbs := val_dg (by decide) (by omega)
theorem tr10 (z : Int) : tr (dg 10 z.natAbs) = dg 10 z.natAbs := tr_dg (by decide) (by omega)
end Go.Proofs.YtdbffhgfjmhaiaaDoor
