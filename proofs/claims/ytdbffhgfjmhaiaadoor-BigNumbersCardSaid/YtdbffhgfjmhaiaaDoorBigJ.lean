/- The contracts of big: Parse, whole. Condition: none. -/
import Derived.Test.YtdbffhgfjmhaiaaDoorBigI
set_option maxRecDepth 100000
set_option linter.unusedSimpArgs false
set_option linter.unusedVariables false
namespace Go.Proofs.YtdbffhgfjmhaiaaDoor
open Go Go.TM
theorem trimS_len : ∀ (s : List UInt8), (trimS s).length ≤ s.length
  | [] => Nat.le_refl _
  | c :: r => by
    have := trimS_len r
    unfold trimS; split <;> simp <;> omega
theorem isS_isD {c : UInt8} (h : isD c = true) : isS c = false := by
  simp only [isD, Bool.and_eq_true, decide_eq_true_eq] at h
  simp only [isS, Bool.or_eq_false_iff, decide_eq_false_iff_not]; omega
theorem first_cons (c : UInt8) (r : List UInt8) : first (c :: r) = if isS c then 1 else 0 := by
  have : (neg0 (c :: r) || pos0 (c :: r)) = isS c := by rw [Bool.or_comm]; rfl
  rw [first, this]
theorem trimS_fix {s : List UInt8} (h : (trimS s).length = s.length) : trimS s = s := by
  cases s with
  | nil => rfl
  | cons c r =>
    by_cases hc : isS c = true
    · have := trimS_len r
      simp [trimS, hc] at h; omega
    · simp [trimS, hc]
theorem okP_iff (s : List UInt8) : okP s = true ↔ (s.length - (trimS s).length ≤ 1 ∧ trimS s ≠ [] ∧ (trimS s).all isD = true) := by
  cases s with
  | nil => simp [okP, body, trimS]
  | cons c r =>
    have hl := trimS_len r
    by_cases hc : isS c = true
    · have hb : body (c :: r) = r := by rw [body, first_cons, hc]; rfl
      have ht : trimS (c :: r) = trimS r := by simp [trimS, hc]
      rw [okP, hb, ht]
      simp only [Bool.and_eq_true, decide_eq_true_eq, List.length_cons]
      constructor
      · rintro ⟨h1, h2⟩
        have : trimS r = r := by
          cases r with
          | nil => rfl
          | cons d q =>
            have hd : isD d = true := by simp only [List.all_cons, Bool.and_eq_true] at h2; exact h2.1
            simp [trimS, isS_isD hd]
        rw [this]; exact ⟨by omega, h1, h2⟩
      · rintro ⟨h1, h2, h3⟩
        have : trimS r = r := trimS_fix (by omega)
        rw [this] at h2 h3; exact ⟨h2, h3⟩
    · have hb : body (c :: r) = c :: r := by rw [body, first_cons]; simp [hc]
      have ht : trimS (c :: r) = c :: r := by simp [trimS, hc]
      rw [okP, hb, ht]
      simp
theorem body_trim {s : List UInt8} (h : okP s = true) : body s = trimS s := by
  have h' := (okP_iff s).1 h
  cases s with
  | nil => rfl
  | cons c r =>
    by_cases hc : isS c = true
    · have ht : trimS (c :: r) = trimS r := by simp [trimS, hc]
      have hl := trimS_len r
      rw [ht, List.length_cons] at h'
      rw [body, first_cons, hc, ht, trimS_fix (show (trimS r).length = r.length by omega)]; rfl
    · rw [body, first_cons]; simp [hc, trimS]
set_option maxHeartbeats 4000000 in
theorem call12 (s : List UInt8) (hl : s.length ≤ 1000) :
    ∃ t', TagOk t' (dg 65536 (dec (body s))) ∧ Pure K 12 [.iv (.str s)] (if okP s then .tup [.iv (num (sg (neg0 s) (dg 65536 (dec (body s)))) t' (dg 65536 (dec (body s)))), .iv (.int .i64 0)] else .tup [.iv (num false .nil []), .iv (.int .i64 4)]) := by
  have h39 := call39 s hl
  have htl := trimS_len s
  have e2 : one d16 [] = [] := rfl
  have hok := okP_iff s
  by_cases h1 : s.length - (trimS s).length ≤ 1
  · by_cases h2 : trimS s = []
    · have hno : ¬ okP s = true := by rw [hok]; simp [h2]
      refine ⟨sTag _, sTag_ok _, call_pure t12 rfl rfl ?_⟩
      rw [if_neg hno]
      have hb : (trimS s == ([] : List UInt8)) = true := by rw [h2]; rfl
      have hgt : ¬ ((s.length : Int) - (trimS s).length > 1) := by omega
      simp (config := { maxSteps := 4000000 }) (disch := omega) only [t12, go_sem, Nat.reduceAdd, Nat.reduceSub, Nat.reduceLT, Nat.reduceLeDiff, Nat.reduceEqDiff, Nat.reduceBEq, reduceIte, reduceCtorEq, Int.reduceEq, Int.reduceLT, Int.reduceLE, Int.reduceAdd, Int.reduceSub, Int.reduceMul, Int.reduceToNat, Int.reduceNeg, Int.reduceBEq, Int.reducePow, Nat.reducePow, cpR_pure h39, wrap_i64, hgt, hb, num, e2, resB_ret, resO_some]
    · have hb : (trimS s == ([] : List UInt8)) = false := by simpa using h2
      have hne : s ≠ [] := by intro e; rw [e] at h2; exact h2 rfl
      have hgt : ¬ ((s.length : Int) - (trimS s).length > 1) := by omega
      have hsb : ixStr (.iv (.str s)) (.iv (.int .i64 0)) = some (.iv (.int .u8 (s.getD 0 0).toNat)) := ixStr_ok (s := s) (i := 0) (by have := List.length_pos_iff.2 hne; omega)
      have hneg : neg0 s = (((s.getD 0 0).toNat : Int) == 45) := by cases s with
        | nil => exact absurd rfl hne
        | cons c r => rw [Bool.eq_iff_iff]; simp [neg0]
      have key := fun t => loop12 s (trimS s) (by omega) t (.iv (.str (trimS s))) (.iv (.bool false)) [] (trimS s).length 0 0 .nil (.tup []) (.tup []) (.tup []) (by omega) (by decide) (by rw [dg_zero]; exact Nat.le_refl _) (by rw [dg_zero]; exact TagOk.nil)
      simp only [List.drop_zero, fdec_zero] at key
      rw [dg_zero] at key
      by_cases h3 : (trimS s).all isD = true
      · have hyes : okP s = true := hok.2 ⟨h1, h2, h3⟩
        have hbt := body_trim hyes
        obtain ⟨tg', y4, y5, y9, y10, y11, q1, q2, e⟩ := key .no
        simp only [h3, ↓reduceIte] at e
        have h0 := dec_nonneg h3
        obtain ⟨t', r1, r2⟩ := call42 (neg0 s) tg' (dg 65536 (dec (trimS s))) q1 (by have := q2 h3; omega)
        rw [tr_dg (by decide) h0] at r1 r2
        rw [hbt]
        refine ⟨t', r1, call_pure t12 rfl rfl ?_⟩
        rw [if_pos hyes]
        rw [hneg] at r2 ⊢
        rw [e2, show ((0 : Nat) : Int) = 0 from rfl] at e
        simp only [num] at r2 ⊢
        simp (config := { maxSteps := 4000000 }) (disch := omega) only [t12, go_sem, Nat.reduceAdd, Nat.reduceSub, Nat.reduceLT, Nat.reduceLeDiff, Nat.reduceEqDiff, Nat.reduceBEq, reduceIte, reduceCtorEq, Int.reduceEq, Int.reduceLT, Int.reduceLE, Int.reduceAdd, Int.reduceSub, Int.reduceMul, Int.reduceToNat, Int.reduceNeg, Int.reduceBEq, Int.reducePow, Nat.reducePow, cpR_pure h39, wrap_i64, hgt, hb, hsb, e, cpR_pure r2, resB_ret, resO_some]
      · have hno : ¬ okP s = true := by rw [hok]; simp [h3]
        obtain ⟨tg', y4, y5, y9, y10, y11, q1, q2, e⟩ := key .no
        rw [if_neg h3] at e
        refine ⟨sTag _, sTag_ok _, call_pure t12 rfl rfl ?_⟩
        rw [if_neg hno]
        rw [e2, show ((0 : Nat) : Int) = 0 from rfl] at e
        simp (config := { maxSteps := 4000000 }) (disch := omega) only [t12, go_sem, Nat.reduceAdd, Nat.reduceSub, Nat.reduceLT, Nat.reduceLeDiff, Nat.reduceEqDiff, Nat.reduceBEq, reduceIte, reduceCtorEq, Int.reduceEq, Int.reduceLT, Int.reduceLE, Int.reduceAdd, Int.reduceSub, Int.reduceMul, Int.reduceToNat, Int.reduceNeg, Int.reduceBEq, Int.reducePow, Nat.reducePow, cpR_pure h39, wrap_i64, hgt, hb, hsb, e, num, e2, resB_ret, resO_some]
  · have hno : ¬ okP s = true := by rw [hok]; simp [h1]
    refine ⟨sTag _, sTag_ok _, call_pure t12 rfl rfl ?_⟩
    rw [if_neg hno]
    simp (config := { maxSteps := 4000000 }) (disch := omega) only [t12, go_sem, Nat.reduceAdd, Nat.reduceSub, Nat.reduceLT, Nat.reduceLeDiff, Nat.reduceEqDiff, Nat.reduceBEq, reduceIte, reduceCtorEq, Int.reduceEq, Int.reduceLT, Int.reduceLE, Int.reduceAdd, Int.reduceSub, Int.reduceMul, Int.reduceToNat, Int.reduceNeg, Int.reduceBEq, Int.reducePow, Nat.reducePow, cpR_pure h39, wrap_i64, num, e2, resB_ret, resO_some]
