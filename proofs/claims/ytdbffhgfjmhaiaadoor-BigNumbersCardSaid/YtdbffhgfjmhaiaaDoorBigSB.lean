/- The contract of big.Text: the loop. Condition: none. -/
import Derived.Test.YtdbffhgfjmhaiaaDoorBigSA
set_option maxRecDepth 100000
set_option maxHeartbeats 2000000
set_option linter.unusedSimpArgs false
set_option linter.unusedVariables false
namespace Go.Proofs.YtdbffhgfjmhaiaaDoor
open Go Go.TM
theorem chk_zero (k : Nat) : chk k 0 = [] := by cases k <;> simp [chk]
theorem loop16 (x0 x1 x2 x7 x10 : TV) : ∀ (k : Nat) (v : Int) (t : Tag) (C : List (List UInt8)) (x5 x6 x8 x9 : TV), 0 ≤ v → v < 10000 ^ k → (dg 65536 v).length ≤ 1000 → TagOk t (dg 65536 v) → C.length + k ≤ 1000 →
    ∃ t' y5 y6 y8 y9, lp' (lim K) t16L0 [x0, x1, x2, .iv (.sl t (one d16 (dg 65536 v))), sM C, x5, x6, x7, x8, x9, x10] (sS C) = .ret (.exit 0, [x0, x1, x2, .iv (.sl t' []), sM (C ++ chk k v), y5, y6, x7, y8, y9, x10], sS (C ++ chk k v)) := by
  intro k
  induction k with
  | zero =>
    intro v t C x5 x6 x8 x9 h0 h1 hL ht hC
    obtain rfl : v = 0 := by simp at h1; omega
    rw [chk_zero, List.append_nil, dg_zero]
    have e0 : one d16 [] = [] := rfl
    rw [e0]
    refine ⟨t, x5, x6, .iv (.bool false), x9, loop_at K _ _ t16L0.eq_1 ?_⟩
    simp (disch := omega) only [go_sem, Nat.reduceAdd, Nat.reduceSub, Nat.reduceLT, Nat.reduceLeDiff, Nat.reduceEqDiff, Nat.reduceBEq, reduceIte, reduceCtorEq, Int.reduceEq, Int.reduceLT, Int.reduceLE, Int.reduceAdd, Int.reduceSub, Int.reduceMul, Int.reduceToNat, Int.reduceNeg, Int.reduceBEq, Int.reducePow, Nat.reducePow, List.length_nil]
    try rfl
  | succ k ih =>
    intro v t C x5 x6 x8 x9 h0 h1 hL ht hC
    by_cases hv : v = 0
    · subst hv
      rw [chk_zero, List.append_nil, dg_zero]
      have e0 : one d16 [] = [] := rfl
      rw [e0]
      refine ⟨t, x5, x6, .iv (.bool false), x9, loop_at K _ _ t16L0.eq_1 ?_⟩
      simp (disch := omega) only [go_sem, Nat.reduceAdd, Nat.reduceSub, Nat.reduceLT, Nat.reduceLeDiff, Nat.reduceEqDiff, Nat.reduceBEq, reduceIte, reduceCtorEq, Int.reduceEq, Int.reduceLT, Int.reduceLE, Int.reduceAdd, Int.reduceSub, Int.reduceMul, Int.reduceToNat, Int.reduceNeg, Int.reduceBEq, Int.reducePow, Nat.reducePow, List.length_nil]
      try rfl
    · have dD := dg_dig (B := 65536) (n := v) (by decide) h0
      have hvl := val_dg (B := 65536) (by decide) h0
      obtain ⟨t2, j2, h45⟩ := call45 t (dg 65536 v) dD (by omega) 10000 (by decide)
      rw [hvl] at j2 h45
      have hlen : 0 < (dg 65536 v).length := by
        rcases Nat.eq_zero_or_pos (dg 65536 v).length with h | h
        · exact absurd ((dg_nil (by decide) h0).1 (List.length_eq_zero_iff.1 h)) hv
        · exact h
      have hr : 0 ≤ v % 10000 ∧ v % 10000 ≤ 9999 := by omega
      have h46 := call46 (v % 10000) hr
      have hd0 : 0 ≤ v / 10000 := by omega
      have hL2 : (dg 65536 (v / 10000)).length ≤ 1000 := by
        have h2 := val_lt (B := 65536) (by decide) dD
        rw [hvl] at h2
        have := dg_len (B := 65536) (by decide) _ (v / 10000) hd0 (show v / 10000 < 65536 ^ (dg 65536 v).length by omega)
        omega
      have hk : v / 10000 < 10000 ^ k := by
        rw [Int.pow_succ] at h1
        exact Int.ediv_lt_of_lt_mul (by decide) h1
      have hpl := sM_pl C
      by_cases hbig : v < 10000
      · have hz : v / 10000 = 0 := by omega
        have hm : v % 10000 = v := by omega
        rw [hz, dg_zero] at h45
        rw [hm] at h45 h46
        have e0 : one d16 [] = [] := rfl
        rw [e0] at h45
        have hap := ap_sM true C (itoa v) .full (fun h => by cases h) (by omega)
        have hpl2 := sM_pl (C ++ [itoa v])
        obtain ⟨t', y5, y6, y8, y9, e⟩ := ih 0 t2 (C ++ [itoa v]) (.iv (.int .u32 v)) (.iv (.str (itoa v))) (.iv (.bool true)) (.iv (.bool false)) (by omega) (Int.pow_pos (by decide)) (by rw [dg_zero]; simp) (by rw [dg_zero]; rw [hz, dg_zero] at j2; exact j2) (by simp; omega)
        rw [chk_zero, List.append_nil, dg_zero, e0] at e
        have hck : chk (k + 1) v = [itoa v] := by rw [chk, if_neg (by omega), if_pos hbig]
        rw [hck]
        refine ⟨t', y5, y6, y8, y9, loop_at K _ _ t16L0.eq_1 ?_⟩
        generalize itoa v = s at *
        generalize dg 65536 v = D at *
        have ew := sM_wb
        simp (config := { maxSteps := 4000000 }) (disch := omega) only [go_sem, Nat.reduceAdd, Nat.reduceSub, Nat.reduceLT, Nat.reduceLeDiff, Nat.reduceEqDiff, Nat.reduceBEq, reduceIte, reduceCtorEq, Int.reduceEq, Int.reduceLT, Int.reduceLE, Int.reduceAdd, Int.reduceSub, Int.reduceMul, Int.reduceToNat, Int.reduceNeg, Int.reduceBEq, Int.reducePow, Nat.reducePow, hpl.1, hpl.2.1, hpl.2.2.1, hpl.2.2.2, hpl2.1, hpl2.2.1, hpl2.2.2.1, hpl2.2.2.2, sM_wb, List.length_nil, cpR_pure h45, cpR_pure h46, hap, wrap_i64]
        exact congrArg er e
      · have hlen2 : 0 < (dg 65536 (v / 10000)).length := by
          rcases Nat.eq_zero_or_pos (dg 65536 (v / 10000)).length with h | h
          · have := (dg_nil (B := 65536) (by decide) hd0).1 (List.length_eq_zero_iff.1 h)
            omega
          · exact h
        obtain ⟨z, hz, hzl, hzp, h47⟩ := itoa_pad (v % 10000) hr
        have hil := itoa_len (v % 10000)
        have hap := ap_sM true C (pad4 (v % 10000)) .full (fun h => by cases h) (by omega)
        have hpl2 := sM_pl (C ++ [pad4 (v % 10000)])
        obtain ⟨t', y5, y6, y8, y9, e⟩ := ih (v / 10000) t2 (C ++ [pad4 (v % 10000)]) (.iv (.int .u32 (v % 10000))) (.iv (.str (pad4 (v % 10000)))) (.iv (.bool true)) (.iv (.bool true)) hd0 hk hL2 j2 (by simp; omega)
        have hck : chk (k + 1) v = pad4 (v % 10000) :: chk k (v / 10000) := by rw [chk, if_neg (by omega), if_neg hbig]
        rw [hck]
        rw [List.append_assoc, List.cons_append, List.nil_append] at e
        refine ⟨t', y5, y6, y8, y9, loop_at K _ _ t16L0.eq_1 ?_⟩
        generalize itoa (v % 10000) = s at *
        generalize pad4 (v % 10000) = w at *
        generalize dg 65536 (v / 10000) = D2 at *
        generalize dg 65536 v = D at *
        generalize v % 10000 = r at *
        simp (config := { maxSteps := 4000000 }) (disch := omega) only [go_sem, Nat.reduceAdd, Nat.reduceSub, Nat.reduceLT, Nat.reduceLeDiff, Nat.reduceEqDiff, Nat.reduceBEq, reduceIte, reduceCtorEq, Int.reduceEq, Int.reduceLT, Int.reduceLE, Int.reduceAdd, Int.reduceSub, Int.reduceMul, Int.reduceToNat, Int.reduceNeg, Int.reduceBEq, Int.reducePow, Nat.reducePow, hpl.1, hpl.2.1, hpl.2.2.1, hpl.2.2.2, hpl2.1, hpl2.2.1, hpl2.2.2.1, hpl2.2.2.2, sM_wb, cpR_pure h45, cpR_pure h46, cpR_pure h47, hzp, hap, wrap_i64]
        exact congrArg er e
end Go.Proofs.YtdbffhgfjmhaiaaDoor
