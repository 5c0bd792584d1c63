/- Lex: comments, escapes. Condition: none. -/
import Derived.Test.YtpngkgkobapioaaDoorLxC
set_option maxRecDepth 100000
set_option maxHeartbeats 4000000
set_option linter.unusedSimpArgs false
set_option linter.unusedVariables false
namespace Go.Proofs.YtpngkgkobapioaaDoor
open Go Go.TM
theorem D_in {c : UInt8} {r : List UInt8} (h : bad (c :: r) = false) : 1 ≤ (D (c :: r)).2 ∧ (D (c :: r)).2 ≤ r.length + 1 := by
  obtain ⟨_, _, h1, h2⟩ := D_good h
  exact ⟨h1, by simpa using h2⟩
def lineF : Nat → List UInt8 → Nat × Bool
  | 0, _ => (0, true)
  | n + 1, l => match l with
    | [] => (0, true)
    | c :: r => if (c.toNat : Int) = 10 then (0, true) else if bad (c :: r) then (0, false) else ((D (c :: r)).2 + (lineF n ((c :: r).drop (D (c :: r)).2)).1, (lineF n ((c :: r).drop (D (c :: r)).2)).2)
def fl (e p : Int) : List TV := [.iv (.int .i64 e), .iv (.int .i64 p)]
theorem loop18 (t : Tag) (b : List UInt8) (ht : TagOk t b) (hb : b.length ≤ 16777216) (R : Store) : ∀ (k i : Nat) (x2 x3 x4 : TV), b.length ≤ i + k → i ≤ b.length →
    ∃ y2 y3 y4, lp' (lim K) t18L0 [.ptr 0 44 0, .lb (fl 0 0), x2, x3, x4] (rdB t b i :: R) = .ret (if (lineF k (b.drop i)).2 then (.exit 0, [.ptr 0 44 0, .lb (fl 0 0), y2, y3, y4], rdB t b (i + (lineF k (b.drop i)).1) :: R) else (.ret, [.ptr 0 44 0, .lb (fl 4 ((i + (lineF k (b.drop i)).1 : Nat) : Int)), y2, y3, y4], rdB t b (i + (lineF k (b.drop i)).1) :: R))
  | 0, i, x2, x3, x4, h, hi => by
    obtain rfl : i = b.length := by omega
    have h14 := call14 t b b.length R
    rw [decide_eq_true (Nat.le_refl _)] at h14
    refine ⟨?_, ?_, ?_, loop_at K _ _ t18L0.eq_1 ?_⟩
    rotate_left 3
    · simp only [lineF, ↓reduceIte, Nat.add_zero]
      simp only [rdB_eq, fl] at h14 ⊢
      simp (disch := omega) only [go_sem, h14]
      rfl
  | k + 1, i, x2, x3, x4, h, hi => by
    by_cases he : i = b.length
    · subst he
      have h14 := call14 t b b.length R
      rw [decide_eq_true (Nat.le_refl _)] at h14
      refine ⟨?_, ?_, ?_, loop_at K _ _ t18L0.eq_1 ?_⟩
      rotate_left 3
      · rw [List.drop_length]
        simp only [lineF, ↓reduceIte, Nat.add_zero]
        simp only [rdB_eq, fl] at h14 ⊢
        simp (disch := omega) only [go_sem, h14]
        rfl
    · have h14 := call14 t b i R
      rw [decide_eq_false (show ¬ b.length ≤ i by omega)] at h14
      have hix := ix_bytes (t := t) (l := b) (i := (i : Int)) (by omega)
      rw [Int.toNat_natCast] at hix
      have hd := drop_cons (b := b) (i := i) (by omega)
      have h29 := call29 t b ht i hb (by omega) R
      by_cases h10 : ((b.getD i 0).toNat : Int) = 10
      · have e : lineF (k + 1) (b.drop i) = (0, true) := by rw [hd, lineF]; simp only [h10, ↓reduceIte]
        rw [e]
        refine ⟨?_, ?_, ?_, loop_at K _ _ t18L0.eq_1 ?_⟩
        rotate_left 3
        · simp only [↓reduceIte, Nat.add_zero]
          simp only [rdB_eq, fl] at h14 ⊢
          simp (disch := omega) only [go_sem, h14, hix, h10]
          rfl
      · by_cases hbd : bad (b.drop i) = true
        · have e : lineF (k + 1) (b.drop i) = (0, false) := by rw [hd] at hbd ⊢; rw [lineF]; simp only [h10, hbd, ↓reduceIte]
          simp only [chV, chN, hbd, ↓reduceIte] at h29
          rw [e]
          refine ⟨?_, ?_, ?_, loop_at K _ _ t18L0.eq_1 ?_⟩
          rotate_left 3
          · simp only [Bool.false_eq_true, ↓reduceIte, Nat.add_zero]
            simp only [rdB_eq, fl] at h14 h29 ⊢
            simp (config := { maxSteps := 4000000 }) (disch := omega) only [go_sem, h14, hix, h10, h29, storeV_c, storeC_eq]
            rfl
        · rw [Bool.not_eq_true] at hbd
          simp only [chV, chN, hbd, Bool.false_eq_true, ↓reduceIte] at h29
          have hD : 1 ≤ (D (b.drop i)).2 ∧ (D (b.drop i)).2 ≤ b.length - i := by
            have h1 := D_in (c := b.getD i 0) (r := b.drop (i + 1)) (by rw [← hd]; exact hbd)
            rw [← hd] at h1
            rw [List.length_drop] at h1
            omega
          have e : lineF (k + 1) (b.drop i) = ((D (b.drop i)).2 + (lineF k ((b.drop i).drop (D (b.drop i)).2)).1, (lineF k ((b.drop i).drop (D (b.drop i)).2)).2) := by rw [hd] at hbd ⊢; rw [lineF]; simp only [h10, hbd, Bool.false_eq_true, ↓reduceIte]
          rw [List.drop_drop] at e
          obtain ⟨y2, y3, y4, ih⟩ := loop18 t b ht hb R k (i + (D (b.drop i)).2) (.lb (fl 0 0)) (.iv (.bool true)) (.iv (.bool false)) (by omega) (by omega)
          refine ⟨y2, y3, y4, loop_at K _ _ t18L0.eq_1 ?_⟩
          rw [e]
          simp only [← Nat.add_assoc]
          generalize lineF k (b.drop (i + (D (b.drop i)).2)) = q at *
          generalize D (b.drop i) = p at *
          simp only [rdB_eq, fl] at h14 h29 ih ⊢
          simp (config := { maxSteps := 4000000 }) (disch := omega) only [go_sem, h14, hix, h10, h29, storeV_c, storeC_eq]
          exact congrArg er ih
def flt (e p : Int) : IV := .agg [.int .i64 e, .int .i64 p]
theorem call18 (t : Tag) (b : List UInt8) (ht : TagOk t b) (i n : Nat) (hb : b.length ≤ 16777216) (hi : i ≤ b.length) (hn : b.length ≤ i + n) (R : Store) : (lim K).call 18 [.ptr 0 44 0] (rdB t b i :: R) = .ret (.iv (if (lineF n (b.drop i)).2 then flt 0 0 else flt 4 ((i + (lineF n (b.drop i)).1 : Nat) : Int)), rdB t b (i + (lineF n (b.drop i)).1) :: R) := by
  obtain ⟨y2, y3, y4, e⟩ := loop18 t b ht hb R n i (.tup []) (.tup []) (.tup []) hn hi
  have h16 := call16
  generalize lineF n (b.drop i) = q at *
  refine call_ret' K _ (fn := t18) rfl rfl ?_
  simp only [rdB_eq, fl, flt] at e ⊢
  cases hq : q.2
  · rw [hq] at e
    simp only [Bool.false_eq_true, ↓reduceIte] at e ⊢
    simp (config := { maxSteps := 4000000 }) (disch := omega) only [t18, go_sem, e]
  · rw [hq] at e
    simp only [↓reduceIte] at e ⊢
    simp (config := { maxSteps := 4000000 }) (disch := omega) only [t18, go_sem, e, h16]
def nestF : Nat → List UInt8 → Int → Nat × Nat
  | 0, _, _ => (0, 1)
  | n + 1, l, d => match l with
    | [] => (0, 1)
    | c :: r =>
      if beg (c :: r) [35, 124] then (if d = 200 then (0, 3) else (2 + (nestF n ((c :: r).drop 2) (d + 1)).1, (nestF n ((c :: r).drop 2) (d + 1)).2))
      else if beg (c :: r) [124, 35] then (if d = 1 then (2, 0) else (2 + (nestF n ((c :: r).drop 2) (d - 1)).1, (nestF n ((c :: r).drop 2) (d - 1)).2))
      else if bad (c :: r) then (0, 2) else ((D (c :: r)).2 + (nestF n ((c :: r).drop (D (c :: r)).2) d).1, (nestF n ((c :: r).drop (D (c :: r)).2) d).2)
theorem beg_len {l s : List UInt8} (h : beg l s = true) : s.length ≤ l.length := by
  have := congrArg List.length (beq_iff_eq.1 h)
  rw [List.length_take] at this
  omega
def nestJ (i : Nat) (q : Nat × Nat) : Jump × List TV :=
  if q.2 = 0 then (.ret, fl 0 0) else if q.2 = 1 then (.exit 0, fl 0 0) else if q.2 = 2 then (.ret, fl 4 ((i + q.1 : Nat) : Int)) else (.ret, fl 5 ((i + q.1 : Nat) : Int))
theorem nestJ_add (i k : Nat) (q : Nat × Nat) : nestJ i (k + q.1, q.2) = nestJ (i + k) q := by simp only [nestJ, Nat.add_assoc]
theorem loop20 (t : Tag) (b : List UInt8) (ht : TagOk t b) (hb : b.length ≤ 16777216) (x2 : TV) (R : Store) : ∀ (k i : Nat) (d : Int) (x4 x5 x6 x7 x8 x9 x10 : TV), b.length ≤ i + k → i ≤ b.length → -100000000 ≤ d + i ∧ d ≤ 200 →
    ∃ y3 y4 y5 y6 y7 y8 y9 y10, lp' (lim K) t20L0 [.ptr 0 44 0, .lb (fl 0 0), x2, .iv (.int .i64 d), x4, x5, x6, x7, x8, x9, x10] (rdB t b i :: R) = .ret ((nestJ i (nestF k (b.drop i) d)).1, [.ptr 0 44 0, .lb (nestJ i (nestF k (b.drop i) d)).2, x2, y3, y4, y5, y6, y7, y8, y9, y10], rdB t b (i + (nestF k (b.drop i) d).1) :: R)
  | 0, i, d, x4, x5, x6, x7, x8, x9, x10, h, hi, hdd => by
    obtain rfl : i = b.length := by omega
    have h14 := call14 t b b.length R
    rw [decide_eq_true (Nat.le_refl _)] at h14
    refine ⟨?_, ?_, ?_, ?_, ?_, ?_, ?_, ?_, loop_at K _ _ t20L0.eq_1 ?_⟩
    rotate_left 8
    · simp only [nestF, nestJ, ↓reduceIte, Nat.add_zero, Nat.one_ne_zero]
      simp only [rdB_eq, fl] at h14 ⊢
      simp (disch := omega) only [go_sem, h14]
      rfl
  | k + 1, i, d, x4, x5, x6, x7, x8, x9, x10, h, hi, hdd => by
    by_cases he : i = b.length
    · subst he
      have h14 := call14 t b b.length R
      rw [decide_eq_true (Nat.le_refl _)] at h14
      refine ⟨?_, ?_, ?_, ?_, ?_, ?_, ?_, ?_, loop_at K _ _ t20L0.eq_1 ?_⟩
      rotate_left 8
      · rw [List.drop_length]
        simp only [nestF, nestJ, ↓reduceIte, Nat.add_zero, Nat.one_ne_zero]
        simp only [rdB_eq, fl] at h14 ⊢
        simp (disch := omega) only [go_sem, h14]
        rfl
    · have h14 := call14 t b i R
      rw [decide_eq_false (show ¬ b.length ≤ i by omega)] at h14
      have hd := drop_cons (b := b) (i := i) (by omega)
      have h29 := call29 t b ht i hb (by omega) R
      have hA := call19 t b ht i [35, 124] hb hi (by decide) R
      have hB := call19 t b ht i [124, 35] hb hi (by decide) R
      have h16 := call16
      have hlen : (b.drop i).length = b.length - i := List.length_drop
      cases hbA : beg (b.drop i) [35, 124]
      · cases hbB : beg (b.drop i) [124, 35]
        · by_cases hbd : bad (b.drop i) = true
          · have e : nestF (k + 1) (b.drop i) d = (0, 2) := by
              rw [hd] at hbA hbB hbd ⊢
              rw [nestF]; simp only [hbA, hbB, hbd, Bool.false_eq_true, ↓reduceIte]
            rw [hbA] at hA
            rw [hbB] at hB
            simp only [chV, chN, hbd, ↓reduceIte] at h29
            rw [e]
            refine ⟨?_, ?_, ?_, ?_, ?_, ?_, ?_, ?_, loop_at K _ _ t20L0.eq_1 ?_⟩
            rotate_left 8
            · simp only [nestJ, Nat.reduceEqDiff, ↓reduceIte, Nat.add_zero]
              simp only [rdB_eq, fl] at h14 hA hB h29 ⊢
              simp (config := { maxSteps := 4000000 }) (disch := omega) only [go_sem, h14, hA, hB, h29, storeV_c, storeC_eq]
              rfl
          · rw [Bool.not_eq_true] at hbd
            have hD : 1 ≤ (D (b.drop i)).2 ∧ (D (b.drop i)).2 ≤ b.length - i := by
              have h1 := D_in (c := b.getD i 0) (r := b.drop (i + 1)) (by rw [← hd]; exact hbd)
              rw [← hd] at h1
              rw [List.length_drop] at h1
              omega
            have e : nestF (k + 1) (b.drop i) d = ((D (b.drop i)).2 + (nestF k ((b.drop i).drop (D (b.drop i)).2) d).1, (nestF k ((b.drop i).drop (D (b.drop i)).2) d).2) := by
              rw [hd] at hbA hbB hbd ⊢
              rw [nestF]; simp only [hbA, hbB, hbd, Bool.false_eq_true, ↓reduceIte]
            rw [List.drop_drop] at e
            rw [hbA] at hA
            rw [hbB] at hB
            simp only [chV, chN, hbd, Bool.false_eq_true, ↓reduceIte] at h29
            obtain ⟨y3, y4, y5, y6, y7, y8, y9, y10, ih⟩ := loop20 t b ht hb x2 R k (i + (D (b.drop i)).2) d (.lb (fl 0 0)) (.iv (.bool true)) (.iv (.bool false)) (.iv (.bool false)) x8 (.iv (.bool false)) x10 (by omega) (by omega) (by omega)
            refine ⟨y3, y4, y5, y6, y7, y8, y9, y10, loop_at K _ _ t20L0.eq_1 ?_⟩
            rw [e, nestJ_add]
            simp only [← Nat.add_assoc]
            generalize nestF k (b.drop (i + (D (b.drop i)).2)) d = q at *
            generalize D (b.drop i) = p at *
            generalize nestJ (i + p.2) q = J at *
            simp only [rdB_eq, fl] at h14 hA hB h29 ih ⊢
            simp (config := { maxSteps := 4000000 }) (disch := omega) only [go_sem, h14, hA, hB, h29, storeV_c, storeC_eq]
            exact congrArg er ih
        · have h2 := beg_len hbB
          rw [hlen] at h2
          simp only [List.length_cons, List.length_nil] at h2
          rw [hbA] at hA
          rw [hbB] at hB
          by_cases hd1 : d = 1
          · have e : nestF (k + 1) (b.drop i) d = (2, 0) := by
              rw [hd] at hbA hbB ⊢
              rw [nestF]; simp only [hbA, hbB, hd1, Bool.false_eq_true, ↓reduceIte]
            rw [e]
            refine ⟨?_, ?_, ?_, ?_, ?_, ?_, ?_, ?_, loop_at K _ _ t20L0.eq_1 ?_⟩
            rotate_left 8
            · simp only [nestJ, ↓reduceIte]
              simp only [rdB_eq, fl] at h14 hA hB ⊢
              simp (config := { maxSteps := 4000000 }) (disch := omega) only [go_sem, h14, hA, hB, hd1, h16, wrap_i64, storeV_c, storeC_eq]
              rfl
          · have e : nestF (k + 1) (b.drop i) d = (2 + (nestF k ((b.drop i).drop 2) (d - 1)).1, (nestF k ((b.drop i).drop 2) (d - 1)).2) := by
              rw [hd] at hbA hbB ⊢
              rw [nestF]; simp only [hbA, hbB, hd1, Bool.false_eq_true, ↓reduceIte]
            rw [List.drop_drop] at e
            obtain ⟨y3, y4, y5, y6, y7, y8, y9, y10, ih⟩ := loop20 t b ht hb x2 R k (i + 2) (d - 1) x4 (.iv (.bool true)) x6 (.iv (.bool false)) x8 (.iv (.bool true)) (.iv (.bool false)) (by omega) (by omega) (by omega)
            refine ⟨y3, y4, y5, y6, y7, y8, y9, y10, loop_at K _ _ t20L0.eq_1 ?_⟩
            rw [e, nestJ_add]
            simp only [← Nat.add_assoc]
            generalize nestF k (b.drop (i + 2)) (d - 1) = q at *
            generalize nestJ (i + 2) q = J at *
            simp only [rdB_eq, fl, Int.natCast_add, Int.cast_ofNat_Int] at h14 hA hB ih ⊢
            simp (config := { maxSteps := 4000000 }) (disch := omega) only [go_sem, h14, hA, hB, wrap_i64, storeV_c, storeC_eq]
            exact congrArg er ih
      · have h2 := beg_len hbA
        rw [hlen] at h2
        simp only [List.length_cons, List.length_nil] at h2
        rw [hbA] at hA
        by_cases hd2 : d = 200
        · have e : nestF (k + 1) (b.drop i) d = (0, 3) := by
            rw [hd] at hbA ⊢
            rw [nestF]; simp only [hbA, hd2, ↓reduceIte]
          rw [e]
          refine ⟨?_, ?_, ?_, ?_, ?_, ?_, ?_, ?_, loop_at K _ _ t20L0.eq_1 ?_⟩
          rotate_left 8
          · simp only [nestJ, Nat.reduceEqDiff, ↓reduceIte, Nat.add_zero]
            simp only [rdB_eq, fl] at h14 hA ⊢
            simp (config := { maxSteps := 4000000 }) (disch := omega) only [go_sem, h14, hA, hd2, wrap_i64, storeV_c, storeC_eq]
            rfl
        · have e : nestF (k + 1) (b.drop i) d = (2 + (nestF k ((b.drop i).drop 2) (d + 1)).1, (nestF k ((b.drop i).drop 2) (d + 1)).2) := by
            rw [hd] at hbA ⊢
            rw [nestF]; simp only [hbA, hd2, Bool.false_eq_true, ↓reduceIte]
          rw [List.drop_drop] at e
          obtain ⟨y3, y4, y5, y6, y7, y8, y9, y10, ih⟩ := loop20 t b ht hb x2 R k (i + 2) (d + 1) x4 (.iv (.bool true)) x6 (.iv (.bool true)) (.iv (.bool false)) x9 x10 (by omega) (by omega) (by omega)
          refine ⟨y3, y4, y5, y6, y7, y8, y9, y10, loop_at K _ _ t20L0.eq_1 ?_⟩
          rw [e, nestJ_add]
          simp only [← Nat.add_assoc]
          generalize nestF k (b.drop (i + 2)) (d + 1) = q at *
          generalize nestJ (i + 2) q = J at *
          simp only [rdB_eq, fl, Int.natCast_add, Int.cast_ofNat_Int] at h14 hA ih ⊢
          simp (config := { maxSteps := 4000000 }) (disch := omega) only [go_sem, h14, hA, wrap_i64, storeV_c, storeC_eq]
          exact congrArg er ih
def nestV (i : Nat) (q : Nat × Nat) : IV := if q.2 = 0 then flt 0 0 else if q.2 = 1 then flt 4 i else if q.2 = 2 then flt 4 ((i + q.1 : Nat) : Int) else flt 5 ((i + q.1 : Nat) : Int)
theorem call20 (t : Tag) (b : List UInt8) (ht : TagOk t b) (i n : Nat) (hb : b.length ≤ 16777216) (hi : i ≤ b.length) (hn : b.length ≤ i + n) (R : Store) : (lim K).call 20 [.ptr 0 44 0] (rdB t b i :: R) = .ret (.iv (nestV i (nestF n (b.drop i) 0)), rdB t b (i + (nestF n (b.drop i) 0).1) :: R) := by
  obtain ⟨y3, y4, y5, y6, y7, y8, y9, y10, e⟩ := loop20 t b ht hb (.iv (.int .i64 i)) R n i 0 (.tup []) (.tup []) (.tup []) (.tup []) (.tup []) (.tup []) (.tup []) hn hi (by omega)
  have h27 := call27 i
  generalize nestF n (b.drop i) 0 = q at *
  refine call_ret' K _ (fn := t20) rfl rfl ?_
  unfold nestV
  unfold nestJ at e
  by_cases q0 : q.2 = 0
  · simp only [q0, ↓reduceIte, rdB_eq, fl, flt] at e ⊢
    simp (config := { maxSteps := 4000000 }) (disch := omega) only [t20, go_sem, e]
  · by_cases q1 : q.2 = 1
    · simp only [q0, q1, ↓reduceIte, Nat.one_ne_zero, rdB_eq, fl, flt] at e ⊢
      simp (config := { maxSteps := 4000000 }) (disch := omega) only [t20, go_sem, e, h27]
    · by_cases q2 : q.2 = 2
      · simp only [q0, q1, q2, ↓reduceIte, Nat.reduceEqDiff, rdB_eq, fl, flt] at e ⊢
        simp (config := { maxSteps := 4000000 }) (disch := omega) only [t20, go_sem, e]
      · simp only [q0, q1, q2, ↓reduceIte, rdB_eq, fl, flt] at e ⊢
        simp (config := { maxSteps := 4000000 }) (disch := omega) only [t20, go_sem, e]
end Go.Proofs.YtpngkgkobapioaaDoor
