/- BigTexts: what is parsed of a text. Condition: none. -/
import Derived.Test.YtdbffhgfjmhaiaaDoorBigSE
import Derived.Test.YtdbffhgfjmhaiaaDoorBigW
set_option maxRecDepth 100000
set_option maxHeartbeats 2000000
set_option linter.unusedSimpArgs false
set_option linter.unusedVariables false
namespace Go.Proofs.YtdbffhgfjmhaiaaDoor
open Go Go.TM
theorem isD_sign {c : UInt8} (h : isD c = true) : decide ((c.toNat : Int) = 45) = false ∧ decide ((c.toNat : Int) = 43) = false := by
  simp only [isD, Bool.and_eq_true, decide_eq_true_eq] at h
  exact ⟨decide_eq_false (by omega), decide_eq_false (by omega)⟩
theorem body_dig {s : List UInt8} (h : s.all isD = true) : neg0 s = false ∧ body s = s := by
  cases s with
  | nil => exact ⟨rfl, rfl⟩
  | cons c r =>
    obtain ⟨h1, h2⟩ := isD_sign (List.all_eq_true.1 h c (List.mem_cons_self ..))
    refine ⟨h1, ?_⟩
    simp only [body, first, neg0, pos0, h1, h2, Bool.or_self, Bool.false_eq_true, if_false, List.drop_zero]
theorem body_neg (r : List UInt8) : neg0 (45 :: r) = true ∧ body (45 :: r) = r := by
  refine ⟨rfl, ?_⟩
  simp [body, first, neg0]
theorem pow75 : (10000 : Int) ^ 75 = 10 ^ (4 * 75) := by rw [Int.pow_mul]; rfl
theorem lt75 {v : Int} (h : v < 10000 ^ 75) : v < 10 ^ (4 * 75) := by rw [← pow75]; exact h
theorem decS_len {v : Int} (h0 : 0 ≤ v) (h : v < 65536 ^ 60) : (decS v).length ≤ 300 := by
  unfold decS
  rw [List.length_map, List.length_reverse]
  have h2 := dg_len (B := 10) (by decide) (4 * 75) v h0 (lt75 (Int.lt_of_lt_of_le h (by decide)))
  omega
theorem parse_txt (n : Bool) (v : Int) (h0 : 0 ≤ v) (h : v < 65536 ^ 60) : ∃ t', TagOk t' (dg 65536 v) ∧ Pure K 12 [.iv (.str (txt n v))] (.tup [.iv (bg t' (sv n v)), .iv (.int .i64 0)]) := by
  have h75 : v < 10000 ^ 75 := Int.lt_of_lt_of_le h (by decide)
  rw [txt_eq n v h0 h75]
  have hl := decS_len h0 h
  have hd := decS_isD v h0
  have hdec := dec_decS v h0
  by_cases hv : v = 0
  · subst hv
    rw [if_pos rfl]
    obtain ⟨t', j, e⟩ := call12 [48] (by simp)
    have e1 : body [48] = [48] := rfl
    have e2 : dec [48] = 0 := by simp [dec, val, dgt]
    have e3 : okP [48] = true := rfl
    have e4 : neg0 [48] = false := rfl
    rw [e1, e2] at j
    rw [if_pos e3, e1, e2, e4, num_bg (by decide)] at e
    refine ⟨t', j, ?_⟩
    have e5 : sv n 0 = sv false 0 := by cases n <;> rfl
    rw [e5]; exact e
  · rw [if_neg hv]
    have hne := decS_ne (v := v) (by omega)
    cases n
    · obtain ⟨b1, b2⟩ := body_dig hd
      obtain ⟨t', j, e⟩ := call12 (decS v) (by omega)
      have e3 : okP (decS v) = true := by simp [okP, b2, hd, hne]
      rw [b2, hdec] at j
      rw [if_pos e3, b2, hdec, b1, num_bg h0] at e
      exact ⟨t', j, e⟩
    · obtain ⟨b1, b2⟩ := body_neg (decS v)
      obtain ⟨t', j, e⟩ := call12 (45 :: decS v) (by simp; omega)
      have e3 : okP (45 :: decS v) = true := by simp [okP, b2, hd, hne]
      rw [b2, hdec] at j
      rw [if_pos e3, b2, hdec, b1, num_bg h0] at e
      exact ⟨t', j, e⟩
theorem loop4 (s : List UInt8) (hl : s.length ≤ 1000) (x0 x2 x3 x4 x5 x6 x7 x9 x10 x11 x12 x13 x15 : TV) (S : Store) : ∀ (k i : Nat) (x14 : TV), i + k + 1 = s.length →
    ∃ (j : Nat) (y14 : TV), s.drop j = strip (s.drop i) ∧ j < s.length ∧ lp' (lim K) t4L0 [x0, .iv (.str s), x2, x3, x4, x5, x6, x7, .iv (.int .i64 i), x9, x10, x11, x12, x13, x14, x15] S = .ret (.exit 0, [x0, .iv (.str s), x2, x3, x4, x5, x6, x7, .iv (.int .i64 j), x9, x10, x11, x12, x13, y14, x15], S)
  | 0, i, x14, h => by
    have hd := str_drop (s := s) (i := i) (by omega)
    rw [List.drop_of_length_le (show s.length ≤ i + 1 by omega)] at hd
    refine ⟨i, .iv (.bool false), by rw [hd]; rfl, by omega, loop_at K _ _ t4L0.eq_1 ?_⟩
    simp (config := { maxSteps := 4000000 }) (disch := omega) only [go_sem, Nat.reduceAdd, Nat.reduceSub, Nat.reduceMul, Nat.reduceLT, Nat.reduceLeDiff, Nat.reduceEqDiff, Nat.reduceBEq, reduceIte, reduceCtorEq, List.replicate, List.cons_append, List.nil_append, Int.reduceEq, Int.reduceLT, Int.reduceLE, Int.reduceAdd, Int.reduceSub, Int.reduceMul, Int.reduceToNat, Int.reduceNeg, Int.reduceBEq, Int.reduceBNe, Int.reduceTDiv, Int.reduceTMod, Int.reducePow, Nat.reducePow, decide_true, decide_false, Nat.reduceDiv, Nat.reduceMod, Int.reduceMod, Int.reduceDiv, Int.reduceNe, Int.reduceFDiv, Nat.reduceLeDiff, beq_self_eq_true, decT, decF, ifT, ifF, eqT, eqF, neT, neF, bytesIV_length, one_length, get_cp, get_cp0, wrap_i64]
    try rfl
  | k + 1, i, x14, h => by
    have hd := str_drop (s := s) (i := i) (by omega)
    have hd2 := str_drop (s := s) (i := i + 1) (by omega)
    have hix := ixStr_ok (s := s) (i := (i : Int)) (kd := .i64) (by omega)
    rw [Int.toNat_natCast] at hix
    by_cases hc : s.getD i 0 = 48
    · obtain ⟨j, y14, j1, j2, e⟩ := loop4 s hl x0 x2 x3 x4 x5 x6 x7 x9 x10 x11 x12 x13 x15 S k (i + 1) (.iv (.bool true)) (by omega)
      refine ⟨j, y14, by rw [j1, hd, hc, hd2, strip, if_pos rfl], j2, loop_at K _ _ t4L0.eq_1 ?_⟩
      rw [hc] at hix
      have e48 : (((48 : UInt8).toNat : Nat) : Int) = 48 := rfl
      rw [e48] at hix
      simp (config := { maxSteps := 4000000 }) (disch := omega) only [go_sem, Nat.reduceAdd, Nat.reduceSub, Nat.reduceMul, Nat.reduceLT, Nat.reduceLeDiff, Nat.reduceEqDiff, Nat.reduceBEq, reduceIte, reduceCtorEq, List.replicate, List.cons_append, List.nil_append, Int.reduceEq, Int.reduceLT, Int.reduceLE, Int.reduceAdd, Int.reduceSub, Int.reduceMul, Int.reduceToNat, Int.reduceNeg, Int.reduceBEq, Int.reduceBNe, Int.reduceTDiv, Int.reduceTMod, Int.reducePow, Nat.reducePow, decide_true, decide_false, Nat.reduceDiv, Nat.reduceMod, Int.reduceMod, Int.reduceDiv, Int.reduceNe, Int.reduceFDiv, Nat.reduceLeDiff, beq_self_eq_true, decT, decF, ifT, ifF, eqT, eqF, neT, neF, bytesIV_length, one_length, get_cp, get_cp0, hix, wrap_i64]
      exact congrArg er e
    · have hn : ¬ ((s.getD i 0).toNat : Int) = 48 := fun h => hc (UInt8.toNat_inj.1 (by have : (48 : UInt8).toNat = 48 := rfl; omega))
      refine ⟨i, .iv (.bool false), by rw [hd, hd2, strip, if_neg hc], by omega, loop_at K _ _ t4L0.eq_1 ?_⟩
      generalize ((s.getD i 0).toNat : Int) = q at *
      simp (config := { maxSteps := 4000000 }) (disch := omega) only [go_sem, Nat.reduceAdd, Nat.reduceSub, Nat.reduceMul, Nat.reduceLT, Nat.reduceLeDiff, Nat.reduceEqDiff, Nat.reduceBEq, reduceIte, reduceCtorEq, List.replicate, List.cons_append, List.nil_append, Int.reduceEq, Int.reduceLT, Int.reduceLE, Int.reduceAdd, Int.reduceSub, Int.reduceMul, Int.reduceToNat, Int.reduceNeg, Int.reduceBEq, Int.reduceBNe, Int.reduceTDiv, Int.reduceTMod, Int.reducePow, Nat.reducePow, decide_true, decide_false, Nat.reduceDiv, Nat.reduceMod, Int.reduceMod, Int.reduceDiv, Int.reduceNe, Int.reduceFDiv, Nat.reduceLeDiff, beq_self_eq_true, decT, decF, ifT, ifF, eqT, eqF, neT, neF, bytesIV_length, one_length, get_cp, get_cp0, hix, hn, wrap_i64]
      try rfl
end Go.Proofs.YtdbffhgfjmhaiaaDoor
