/- The document's May: it answers. Condition: none. -/
import Derived.Test.YtookmpaholmmfaaGreatDoorKcP
set_option maxRecDepth 100000
set_option maxHeartbeats 16000000
set_option linter.unusedSimpArgs false
set_option linter.unusedVariables false
namespace Go.Proofs.YtookmpaholmmfaaGreatDoor
open Go Go.TM
theorem call18 (W : Nat) (hW : W ≤ 1048576) : ∀ (N : Nat) (d : Dt), d.w ≤ N → N ≤ W → ∃ b, Pure K 18 [agD d] (.iv (.bool b))
  | 0, d, h, hN => by have := Dt.w_eq d; omega
  | N + 1, d, h, hN => by
    have ha5 := call50 W d (by omega) (by omega)
    have ta := items_tail W d (by omega)
    have la := items_len W d
    have ma := items_mem W d
    generalize itemsF W d = q at *
    obtain ⟨l, s⟩ := q
    simp only at ta la ma ha5
    have ws := Dt.w_eq s
    have ls := Dt.ws_len s.ks
    obtain ⟨j, y5, y8, y9, hj, ih⟩ := loop18a (sTag l) l (by omega) (fun x hx => call18 W hW N x (by have := ma x hx; omega) (by omega)) (agD d) (lbD d) (lbD s) (.tup []) (.tup []) (.tup []) (.tup []) (.tup []) (.tup []) (.tup []) (.tup []) (.tup []) (.tup []) (.tup []) (.tup []) [] l.length 0 (.tup []) (.tup []) (by omega)
    rw [show ((0 : Nat) : Int) = 0 from rfl] at ih
    rcases hj with rfl | rfl
    · refine ⟨false, pure_ret (call_ret' K _ (fn := t18) rfl rfl ?_)⟩
      simp (config := { maxSteps := 4000000 }) (disch := omega) only [t18, go_sem, TM.undef, encDs_len, cpR_pure ha5, storeV_c, storeC_eq]
      rw [ih]
      simp (config := { maxSteps := 4000000 }) (disch := omega) only [go_sem]
    by_cases hbad : s.k ≠ 7 ∧ 0 < s.ks.length
    · obtain ⟨hk, hlen⟩ := hbad
      refine ⟨false, pure_ret (call_ret' K _ (fn := t18) rfl rfl ?_)⟩
      simp (config := { maxSteps := 4000000 }) (disch := omega) only [t18, go_sem, TM.undef, encDs_len, cpR_pure ha5, storeV_c, storeC_eq]
      rw [ih]
      simp (config := { maxSteps := 4000000 }) (disch := omega) only [go_sem, encDs_len]
    obtain ⟨j, y6, y11, y12, hj2, ih2⟩ := loop18b s (by omega) (fun x hx => call18 W hW N x (by have := Dt.kid_lt hx; omega) (by omega)) (agD d) (lbD d) (.iv (.sl (sTag l) (encDs l))) y5 (.tup []) y8 y9 (.iv (.bool false)) (.tup []) (.tup []) (.tup []) (.tup []) (.tup []) (.tup []) (.tup []) [] s.ks.length 0 (.tup []) (.tup []) (by omega)
    rw [show ((0 : Nat) : Int) = 0 from rfl] at ih2
    obtain ⟨w, e, hcd⟩ := call51 s.t (by omega)
    by_cases hk7 : s.k = 7
    · rcases hj2 with rfl | rfl
      · refine ⟨false, pure_ret (call_ret' K _ (fn := t18) rfl rfl ?_)⟩
        simp (config := { maxSteps := 4000000 }) (disch := omega) only [t18, go_sem, TM.undef, encDs_len, cpR_pure ha5, storeV_c, storeC_eq]
        rw [ih]
        simp (config := { maxSteps := 4000000 }) (disch := omega) only [go_sem, encDs_len]
        rw [ih2]
        simp (config := { maxSteps := 4000000 }) (disch := omega) only [go_sem]
      · refine ⟨true, pure_ret (call_ret' K _ (fn := t18) rfl rfl ?_)⟩
        simp (config := { maxSteps := 4000000 }) (disch := omega) only [t18, go_sem, TM.undef, encDs_len, cpR_pure ha5, storeV_c, storeC_eq]
        rw [ih]
        simp (config := { maxSteps := 4000000 }) (disch := omega) only [go_sem, encDs_len]
        rw [ih2]
        simp (config := { maxSteps := 4000000 }) (disch := omega) only [go_sem, cpR_pure hcd]
    have hlen : ¬ 0 < s.ks.length := fun hl => hbad ⟨hk7, hl⟩
    rcases hj2 with rfl | rfl
    · refine ⟨false, pure_ret (call_ret' K _ (fn := t18) rfl rfl ?_)⟩
      simp (config := { maxSteps := 4000000 }) (disch := omega) only [t18, go_sem, TM.undef, encDs_len, cpR_pure ha5, storeV_c, storeC_eq]
      rw [ih]
      simp (config := { maxSteps := 4000000 }) (disch := omega) only [go_sem, encDs_len]
      rw [ih2]
      simp (config := { maxSteps := 4000000 }) (disch := omega) only [go_sem]
    by_cases hk0 : s.k = 0
    · refine ⟨true, pure_ret (call_ret' K _ (fn := t18) rfl rfl ?_)⟩
      simp (config := { maxSteps := 4000000 }) (disch := omega) only [t18, go_sem, TM.undef, encDs_len, cpR_pure ha5, storeV_c, storeC_eq]
      rw [ih]
      simp (config := { maxSteps := 4000000 }) (disch := omega) only [go_sem, encDs_len]
      rw [ih2]
      simp (config := { maxSteps := 4000000 }) (disch := omega) only [go_sem, cpR_pure hcd]
    by_cases hk8 : s.k = 8
    · refine ⟨true, pure_ret (call_ret' K _ (fn := t18) rfl rfl ?_)⟩
      simp (config := { maxSteps := 4000000 }) (disch := omega) only [t18, go_sem, TM.undef, encDs_len, cpR_pure ha5, storeV_c, storeC_eq]
      rw [ih]
      simp (config := { maxSteps := 4000000 }) (disch := omega) only [go_sem, encDs_len]
      rw [ih2]
      simp (config := { maxSteps := 4000000 }) (disch := omega) only [go_sem, cpR_pure hcd]
    by_cases hk9 : s.k = 9
    · refine ⟨true, pure_ret (call_ret' K _ (fn := t18) rfl rfl ?_)⟩
      simp (config := { maxSteps := 4000000 }) (disch := omega) only [t18, go_sem, TM.undef, encDs_len, cpR_pure ha5, storeV_c, storeC_eq]
      rw [ih]
      simp (config := { maxSteps := 4000000 }) (disch := omega) only [go_sem, encDs_len]
      rw [ih2]
      simp (config := { maxSteps := 4000000 }) (disch := omega) only [go_sem, cpR_pure hcd]
    by_cases hk10 : s.k = 10
    · refine ⟨true, pure_ret (call_ret' K _ (fn := t18) rfl rfl ?_)⟩
      simp (config := { maxSteps := 4000000 }) (disch := omega) only [t18, go_sem, TM.undef, encDs_len, cpR_pure ha5, storeV_c, storeC_eq]
      rw [ih]
      simp (config := { maxSteps := 4000000 }) (disch := omega) only [go_sem, encDs_len]
      rw [ih2]
      simp (config := { maxSteps := 4000000 }) (disch := omega) only [go_sem, cpR_pure hcd]
    by_cases hk1 : s.k = 1
    · by_cases hn0 : s.n = 0
      · refine ⟨true, pure_ret (call_ret' K _ (fn := t18) rfl rfl ?_)⟩
        simp (config := { maxSteps := 4000000 }) (disch := omega) only [t18, go_sem, TM.undef, encDs_len, cpR_pure ha5, storeV_c, storeC_eq]
        rw [ih]
        simp (config := { maxSteps := 4000000 }) (disch := omega) only [go_sem, encDs_len]
        rw [ih2]
        simp (config := { maxSteps := 4000000 }) (disch := omega) only [go_sem, cpR_pure hcd]
      · by_cases hn1 : s.n = 1
        · refine ⟨true, pure_ret (call_ret' K _ (fn := t18) rfl rfl ?_)⟩
          simp (config := { maxSteps := 4000000 }) (disch := omega) only [t18, go_sem, TM.undef, encDs_len, cpR_pure ha5, storeV_c, storeC_eq]
          rw [ih]
          simp (config := { maxSteps := 4000000 }) (disch := omega) only [go_sem, encDs_len]
          rw [ih2]
          simp (config := { maxSteps := 4000000 }) (disch := omega) only [go_sem, cpR_pure hcd]
        · refine ⟨false, pure_ret (call_ret' K _ (fn := t18) rfl rfl ?_)⟩
          simp (config := { maxSteps := 4000000 }) (disch := omega) only [t18, go_sem, TM.undef, encDs_len, cpR_pure ha5, storeV_c, storeC_eq]
          rw [ih]
          simp (config := { maxSteps := 4000000 }) (disch := omega) only [go_sem, encDs_len]
          rw [ih2]
          simp (config := { maxSteps := 4000000 }) (disch := omega) only [go_sem, cpR_pure hcd]
    by_cases hk2 : s.k = 2
    · obtain ⟨b, hb⟩ := call52 s.t (by omega)
      refine ⟨b, pure_ret (call_ret' K _ (fn := t18) rfl rfl ?_)⟩
      simp (config := { maxSteps := 4000000 }) (disch := omega) only [t18, go_sem, TM.undef, encDs_len, cpR_pure ha5, storeV_c, storeC_eq]
      rw [ih]
      simp (config := { maxSteps := 4000000 }) (disch := omega) only [go_sem, encDs_len]
      rw [ih2]
      simp (config := { maxSteps := 4000000 }) (disch := omega) only [go_sem, cpR_pure hcd, cpR_pure (pure_ret hb)]
    by_cases hk3 : s.k = 3
    · refine ⟨isC s.n, pure_ret (call_ret' K _ (fn := t18) rfl rfl ?_)⟩
      simp (config := { maxSteps := 4000000 }) (disch := omega) only [t18, go_sem, TM.undef, encDs_len, cpR_pure ha5, storeV_c, storeC_eq]
      rw [ih]
      simp (config := { maxSteps := 4000000 }) (disch := omega) only [go_sem, encDs_len]
      rw [ih2]
      simp (config := { maxSteps := 4000000 }) (disch := omega) only [go_sem, cpR_pure hcd, cpR_pure (pure_ret (call53 s.n))]
    by_cases he : e = 0
    · by_cases hk4 : s.k = 4
      · refine ⟨true, pure_ret (call_ret' K _ (fn := t18) rfl rfl ?_)⟩
        simp (config := { maxSteps := 4000000 }) (disch := omega) only [t18, go_sem, TM.undef, encDs_len, cpR_pure ha5, storeV_c, storeC_eq]
        rw [ih]
        simp (config := { maxSteps := 4000000 }) (disch := omega) only [go_sem, encDs_len]
        rw [ih2]
        simp (config := { maxSteps := 4000000 }) (disch := omega) only [go_sem, cpR_pure hcd]
      by_cases hk5 : s.k = 5
      · by_cases ht : 0 < s.t.length
        · refine ⟨true, pure_ret (call_ret' K _ (fn := t18) rfl rfl ?_)⟩
          simp (config := { maxSteps := 4000000 }) (disch := omega) only [t18, go_sem, TM.undef, encDs_len, cpR_pure ha5, storeV_c, storeC_eq]
          rw [ih]
          simp (config := { maxSteps := 4000000 }) (disch := omega) only [go_sem, encDs_len]
          rw [ih2]
          simp (config := { maxSteps := 4000000 }) (disch := omega) only [go_sem, cpR_pure hcd]
        · refine ⟨false, pure_ret (call_ret' K _ (fn := t18) rfl rfl ?_)⟩
          simp (config := { maxSteps := 4000000 }) (disch := omega) only [t18, go_sem, TM.undef, encDs_len, cpR_pure ha5, storeV_c, storeC_eq]
          rw [ih]
          simp (config := { maxSteps := 4000000 }) (disch := omega) only [go_sem, encDs_len]
          rw [ih2]
          simp (config := { maxSteps := 4000000 }) (disch := omega) only [go_sem, cpR_pure hcd]
      refine ⟨false, pure_ret (call_ret' K _ (fn := t18) rfl rfl ?_)⟩
      simp (config := { maxSteps := 4000000 }) (disch := omega) only [t18, go_sem, TM.undef, encDs_len, cpR_pure ha5, storeV_c, storeC_eq]
      rw [ih]
      simp (config := { maxSteps := 4000000 }) (disch := omega) only [go_sem, encDs_len]
      rw [ih2]
      simp (config := { maxSteps := 4000000 }) (disch := omega) only [go_sem, cpR_pure hcd]
    · by_cases hk4 : s.k = 4
      · refine ⟨false, pure_ret (call_ret' K _ (fn := t18) rfl rfl ?_)⟩
        simp (config := { maxSteps := 4000000 }) (disch := omega) only [t18, go_sem, TM.undef, encDs_len, cpR_pure ha5, storeV_c, storeC_eq]
        rw [ih]
        simp (config := { maxSteps := 4000000 }) (disch := omega) only [go_sem, encDs_len]
        rw [ih2]
        simp (config := { maxSteps := 4000000 }) (disch := omega) only [go_sem, cpR_pure hcd]
      by_cases hk5 : s.k = 5
      · refine ⟨false, pure_ret (call_ret' K _ (fn := t18) rfl rfl ?_)⟩
        simp (config := { maxSteps := 4000000 }) (disch := omega) only [t18, go_sem, TM.undef, encDs_len, cpR_pure ha5, storeV_c, storeC_eq]
        rw [ih]
        simp (config := { maxSteps := 4000000 }) (disch := omega) only [go_sem, encDs_len]
        rw [ih2]
        simp (config := { maxSteps := 4000000 }) (disch := omega) only [go_sem, cpR_pure hcd]
      refine ⟨false, pure_ret (call_ret' K _ (fn := t18) rfl rfl ?_)⟩
      simp (config := { maxSteps := 4000000 }) (disch := omega) only [t18, go_sem, TM.undef, encDs_len, cpR_pure ha5, storeV_c, storeC_eq]
      rw [ih]
      simp (config := { maxSteps := 4000000 }) (disch := omega) only [go_sem, encDs_len]
      rw [ih2]
      simp (config := { maxSteps := 4000000 }) (disch := omega) only [go_sem, cpR_pure hcd]
end Go.Proofs.YtookmpaholmmfaaGreatDoor
