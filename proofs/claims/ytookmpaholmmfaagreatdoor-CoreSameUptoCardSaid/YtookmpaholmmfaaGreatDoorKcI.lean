/- The document's Same. Condition: none. -/
import Derived.Test.YtookmpaholmmfaaGreatDoorKcH
set_option maxRecDepth 100000
set_option maxHeartbeats 8000000
set_option linter.unusedSimpArgs false
set_option linter.unusedVariables false
namespace Go.Proofs.YtookmpaholmmfaaGreatDoor
open Go Go.TM
theorem loop57a (ga gb : Tag) (l m : List Dt) (hl : l.length = m.length) (hw : l.length ≤ 1048576) (H : ∀ x ∈ l, ∀ y ∈ m, Pure K 57 [agD x, agD y] (.iv (.bool (same x y)))) (x0 x1 x2 x3 x6 x8 x10 x11 x14 x15 : TV) (S : Store) : ∀ (k i : Nat) (x12 x13 : TV), i + k = l.length →
    ∃ j i' x12' x13', (j = .ret ∧ sames (l.drop i) (m.drop i) = false ∨ j = .exit 0 ∧ sames (l.drop i) (m.drop i) = true) ∧
      lp' (lim K) t57L1 [x0, x1, x2, x3, .iv (.bool false), .iv (.sl ga (encDs l)), x6, .iv (.sl gb (encDs m)), x8, .iv (.int .i64 (i : Int)), x10, x11, x12, x13, x14, x15] S = .ret (j, [x0, x1, x2, x3, .iv (.bool false), .iv (.sl ga (encDs l)), x6, .iv (.sl gb (encDs m)), x8, i', x10, x11, x12', x13', x14, x15], S)
  | 0, i, x12, x13, h => by
    have c1 : ¬ ((i : Int) < l.length) := by omega
    refine ⟨.exit 0, ?_, ?_, ?_, .inr ⟨rfl, ?_⟩, loop_at K _ _ t57L1.eq_1 ?_⟩
    rotate_left 4
    · simp (config := { maxSteps := 4000000 }) (disch := omega) only [go_sem, encDs_len, c1]
      rfl
    · rw [List.drop_eq_nil_of_le (by omega), List.drop_eq_nil_of_le (by omega), sames]
  | k + 1, i, x12, x13, h => by
    have c1 : (i : Int) < l.length := by omega
    have hla : i < l.length := by omega
    have hlb : i < m.length := by omega
    have hix := ixD (g := ga) (ks := l) (i := (i : Int)) (by omega)
    have hiy := ixD (g := gb) (ks := m) (i := (i : Int)) (by omega)
    rw [Int.toNat_natCast] at hix hiy
    have hc := H _ (get_mem hla) _ (get_mem hlb)
    rw [drop_get hla, drop_get hlb, sames]
    generalize hx : l.getD i default = x at *
    generalize hy : m.getD i default = y at *
    by_cases hv : same x y = true
    · obtain ⟨j, i', x12', x13', hj, ih⟩ := loop57a ga gb l m hl hw H x0 x1 x2 x3 x6 x8 x10 x11 x14 x15 S k (i + 1) (.iv (.bool true)) (.iv (.bool false)) (by omega)
      rw [show ((i + 1 : Nat) : Int) = (i : Int) + 1 by omega] at ih
      rw [hv] at hc
      refine ⟨j, i', x12', x13', (by rw [hv, Bool.true_and]; exact hj), loop_at K _ _ t57L1.eq_1 ?_⟩
      simp (config := { maxSteps := 4000000 }) (disch := omega) only [go_sem, encDs_len, c1, hix, hiy, getD5, cpR_pure hc, wrap_i64]
      exact congrArg er ih
    · rw [Bool.not_eq_true] at hv
      rw [hv] at hc
      refine ⟨.ret, ?_, ?_, ?_, .inl ⟨rfl, (by rw [hv, Bool.false_and])⟩, loop_at K _ _ t57L1.eq_1 ?_⟩
      rotate_left 3
      · simp (config := { maxSteps := 4000000 }) (disch := omega) only [go_sem, encDs_len, c1, hix, hiy, getD5, cpR_pure hc, wrap_i64]
        rfl
theorem loop57b (a b : Dt) (hl : a.ks.length = b.ks.length) (hw : a.ks.length ≤ 1048576) (H : ∀ x ∈ a.ks, ∀ y ∈ b.ks, Pure K 57 [agD x, agD y] (.iv (.bool (same x y)))) (x0 x1 x2 x3 x5 x7 x9 x11 x12 x13 : TV) (S : Store) : ∀ (k i : Nat) (x14 x15 : TV), i + k = a.ks.length →
    ∃ j i' x14' x15', (j = .ret ∧ sames (a.ks.drop i) (b.ks.drop i) = false ∨ j = .exit 2 ∧ sames (a.ks.drop i) (b.ks.drop i) = true) ∧
      lp' (lim K) t57L0 [x0, x1, x2, x3, .iv (.bool false), x5, lbD a, x7, lbD b, x9, .iv (.int .i64 (i : Int)), x11, x12, x13, x14, x15] S = .ret (j, [x0, x1, x2, x3, .iv (.bool false), x5, lbD a, x7, lbD b, x9, i', x11, x12, x13, x14', x15'], S)
  | 0, i, x14, x15, h => by
    have c1 : ¬ ((i : Int) < a.ks.length) := by omega
    refine ⟨.exit 2, ?_, ?_, ?_, .inr ⟨rfl, ?_⟩, loop_at K _ _ t57L0.eq_1 ?_⟩
    rotate_left 4
    · simp (config := { maxSteps := 4000000 }) (disch := omega) only [go_sem, encDs_len, c1]
      rfl
    · rw [List.drop_eq_nil_of_le (by omega), List.drop_eq_nil_of_le (by omega), sames]
  | k + 1, i, x14, x15, h => by
    have c1 : (i : Int) < a.ks.length := by omega
    have hla : i < a.ks.length := by omega
    have hlb : i < b.ks.length := by omega
    have hix := ixD (g := a.g) (ks := a.ks) (i := (i : Int)) (by omega)
    have hiy := ixD (g := b.g) (ks := b.ks) (i := (i : Int)) (by omega)
    rw [Int.toNat_natCast] at hix hiy
    have hc := H _ (get_mem hla) _ (get_mem hlb)
    rw [drop_get hla, drop_get hlb, sames]
    generalize hx : a.ks.getD i default = x at *
    generalize hy : b.ks.getD i default = y at *
    by_cases hv : same x y = true
    · obtain ⟨j, i', x14', x15', hj, ih⟩ := loop57b a b hl hw H x0 x1 x2 x3 x5 x7 x9 x11 x12 x13 S k (i + 1) (.iv (.bool true)) (.iv (.bool false)) (by omega)
      rw [show ((i + 1 : Nat) : Int) = (i : Int) + 1 by omega] at ih
      rw [hv] at hc
      refine ⟨j, i', x14', x15', (by rw [hv, Bool.true_and]; exact hj), loop_at K _ _ t57L0.eq_1 ?_⟩
      simp (config := { maxSteps := 4000000 }) (disch := omega) only [go_sem, encDs_len, c1, hix, hiy, getD5, cpR_pure hc, wrap_i64]
      exact congrArg er ih
    · rw [Bool.not_eq_true] at hv
      rw [hv] at hc
      refine ⟨.ret, ?_, ?_, ?_, .inl ⟨rfl, (by rw [hv, Bool.false_and])⟩, loop_at K _ _ t57L0.eq_1 ?_⟩
      rotate_left 3
      · simp (config := { maxSteps := 4000000 }) (disch := omega) only [go_sem, encDs_len, c1, hix, hiy, getD5, cpR_pure hc, wrap_i64]
        rfl
theorem call57 (W : Nat) (hW : W ≤ 1048576) : ∀ (N : Nat) (a b : Dt), a.w ≤ N → N ≤ W → b.w ≤ W → Pure K 57 [agD a, agD b] (.iv (.bool (same a b)))
  | 0, a, b, h, hN, hb => by have := Dt.w_eq a; omega
  | N + 1, a, b, h, hN, hb => by
    have ha5 := call50 W a (by omega) (by omega)
    have hb5 := call50 W b (by omega) (by omega)
    have ta := items_tail W a (by omega)
    have tb := items_tail W b (by omega)
    have la := items_len W a
    have lb := items_len W b
    have ma := items_mem W a
    have mb := items_mem W b
    have hs := same_items W a b (by omega)
    rw [hs]
    generalize itemsF W a = q at *
    generalize itemsF W b = r at *
    obtain ⟨l, s⟩ := q
    obtain ⟨m, t⟩ := r
    simp only at ta tb la lb ma mb ha5 hb5 ⊢
    rw [same_np (by rw [ta.1, Bool.false_and])]
    have ws := Dt.w_eq s
    have wt := Dt.w_eq t
    have ls := Dt.ws_len s.ks
    have lt := Dt.ws_len t.ks
    apply pure_ret
    refine call_ret' K _ (fn := t57) rfl rfl ?_
    by_cases c0 : l.length = m.length
    · by_cases c1 : s.k = t.k
      · by_cases c2 : s.n = t.n
        · by_cases c3 : s.t = t.t
          · have e3 : (s.t != t.t) = false := by simp [c3]
            have e4 : (s.t == t.t) = true := by simp [c3]
            by_cases c5 : s.ks.length = t.ks.length
            · obtain ⟨j, i', x12', x13', hj, ih⟩ := loop57a (sTag l) (sTag m) l m c0 (by omega) (fun x hx y hy => call57 W hW N x y (by have := ma x hx; omega) (by omega) (by have := mb y hy; omega)) (agD a) (agD b) (lbD a) (lbD b) (lbD s) (lbD t) (.tup []) (.iv (.bool false)) (.tup []) (.tup []) [] l.length 0 (.tup []) (.tup []) (by omega)
              rw [show ((0 : Nat) : Int) = 0 from rfl] at ih
              rw [List.drop_zero, List.drop_zero] at hj
              simp (config := { maxSteps := 4000000 }) (disch := omega) only [t57, go_sem, TM.undef, encDs_len, cpR_pure ha5, cpR_pure hb5, e3, e4, Bool.not_true, storeV_c, storeC_eq]
              rw [ih]
              rcases hj with ⟨rfl, hs⟩ | ⟨rfl, hs⟩
              · simp (config := { maxSteps := 4000000 }) (disch := omega) only [go_sem, hs, Bool.false_and]
              · obtain ⟨j2, i2, x14', x15', hj2, ih2⟩ := loop57b s t c5 (by omega) (fun x hx y hy => call57 W hW N x y (by have := Dt.kid_lt hx; omega) (by omega) (by have := Dt.kid_lt hy; omega)) (agD a) (agD b) (lbD a) (lbD b) (.iv (.sl (sTag l) (encDs l))) (.iv (.sl (sTag m) (encDs m))) i' (.iv (.bool false)) x12' x13' [] s.ks.length 0 (.tup []) (.tup []) (by omega)
                rw [show ((0 : Nat) : Int) = 0 from rfl] at ih2
                rw [List.drop_zero, List.drop_zero] at hj2
                simp (config := { maxSteps := 4000000 }) (disch := omega) only [go_sem]
                rw [ih2]
                rcases hj2 with ⟨rfl, hs2⟩ | ⟨rfl, hs2⟩
                · simp (config := { maxSteps := 4000000 }) (disch := omega) only [go_sem, hs2, Bool.and_false]
                · simp (config := { maxSteps := 4000000 }) (disch := omega) only [go_sem, hs, hs2, decide_eq_true c1, decide_eq_true c2, decide_eq_true c3, Bool.and_self]
            · rw [sames_len c5, Bool.and_false, Bool.and_false]
              simp (config := { maxSteps := 4000000 }) (disch := omega) only [t57, go_sem, TM.undef, encDs_len, cpR_pure ha5, cpR_pure hb5, e3, e4, Bool.not_true, storeV_c, storeC_eq]
          · have e3 : (s.t != t.t) = true := by simp [c3]
            have e4 : (s.t == t.t) = false := by simp [c3]
            rw [decide_eq_false c3, Bool.and_false, Bool.false_and, Bool.and_false]
            simp (config := { maxSteps := 4000000 }) (disch := omega) only [t57, go_sem, TM.undef, encDs_len, cpR_pure ha5, cpR_pure hb5, e3, e4, Bool.not_false, storeV_c, storeC_eq]
        · rw [decide_eq_false c2, Bool.and_false, Bool.false_and, Bool.false_and, Bool.and_false]
          simp (config := { maxSteps := 4000000 }) (disch := omega) only [t57, go_sem, TM.undef, encDs_len, cpR_pure ha5, cpR_pure hb5, storeV_c, storeC_eq]
      · rw [decide_eq_false c1, Bool.false_and, Bool.false_and, Bool.false_and, Bool.and_false]
        simp (config := { maxSteps := 4000000 }) (disch := omega) only [t57, go_sem, TM.undef, encDs_len, cpR_pure ha5, cpR_pure hb5, storeV_c, storeC_eq]
    · rw [sames_len c0, Bool.false_and]
      simp (config := { maxSteps := 4000000 }) (disch := omega) only [t57, go_sem, TM.undef, encDs_len, cpR_pure ha5, cpR_pure hb5, storeV_c, storeC_eq]
end Go.Proofs.YtookmpaholmmfaaGreatDoor
