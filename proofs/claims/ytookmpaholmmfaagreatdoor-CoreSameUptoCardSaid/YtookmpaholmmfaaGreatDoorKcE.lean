/- datum.Same. Condition: none. -/
import Derived.Test.YtookmpaholmmfaaGreatDoorKcD
set_option maxRecDepth 100000
set_option maxHeartbeats 8000000
set_option linter.unusedSimpArgs false
set_option linter.unusedVariables false
namespace Go.Proofs.YtookmpaholmmfaaGreatDoor
open Go Go.TM
theorem pure_ret {f : Nat} {args : List TV} {v : IV} (h : (lim K).call f args [] = .ret (.iv v, [])) : Pure K f args (.iv v) := ⟨_, _, h, rfl⟩
abbrev fn55 : TV := .fn 55 [] []
theorem loop54 (ga gb : Tag) (a b : List Dt) (hl : a.length = b.length) (hw : a.length ≤ 1048576) (H : ∀ x ∈ a, ∀ y ∈ b, (lim K).call 55 [agD x, agD y] [] = .ret (.iv (.bool (same x y)), [])) (x7 : TV) (S : Store) :
    ∀ (k i : Nat) (x4 x5 x6 x11 x12 : TV), i + k = a.length →
    ∃ j x4' x5' x6' x10' x11' x12', (j = .ret ∧ sames (a.drop i) (b.drop i) = false ∨ j = .exit 0 ∧ sames (a.drop i) (b.drop i) = true) ∧
      lp' (lim K) t54L0 [.iv (.sl ga (encDs a)), .iv (.sl gb (encDs b)), fn55, .iv (.bool false), x4, x5, x6, x7, .iv (.sl ga (encDs a)), .iv (.int .i64 a.length), .iv (.int .i64 (i : Int)), x11, x12] S
      = .ret (j, [.iv (.sl ga (encDs a)), .iv (.sl gb (encDs b)), fn55, .iv (.bool false), x4', x5', x6', x7, .iv (.sl ga (encDs a)), .iv (.int .i64 a.length), x10', x11', x12'], S)
  | 0, i, x4, x5, x6, x11, x12, h => by
    have c1 : ¬ ((i : Int) < a.length) := by omega
    refine ⟨.exit 0, ?_, ?_, ?_, ?_, ?_, ?_, .inr ⟨rfl, ?_⟩, loop_at K _ _ t54L0.eq_1 ?_⟩
    rotate_left 7
    · simp (config := { maxSteps := 4000000 }) (disch := omega) only [go_sem, encDs_len, c1]
      rfl
    · rw [List.drop_eq_nil_of_le (by omega), List.drop_eq_nil_of_le (by omega), sames]
  | k + 1, i, x4, x5, x6, x11, x12, h => by
    have c1 : (i : Int) < a.length := by omega
    have hla : i < a.length := by omega
    have hlb : i < b.length := by omega
    have hix := ixD (g := ga) (ks := a) (i := (i : Int)) (by omega)
    have hiy := ixD (g := gb) (ks := b) (i := (i : Int)) (by omega)
    rw [Int.toNat_natCast] at hix hiy
    have hc := pure_ret (H _ (get_mem hla) _ (get_mem hlb))
    rw [drop_get hla, drop_get hlb, sames]
    generalize hx : a.getD i default = x at *
    generalize hy : b.getD i default = y at *
    by_cases hv : same x y = true
    · obtain ⟨j, x4', x5', x6', x10', x11', x12', hj, ih⟩ := loop54 ga gb a b hl hw H x7 S k (i + 1) (.iv (.int .i64 i)) (lbD x) (lbD y) (.iv (.bool true)) (.iv (.bool false)) (by omega)
      rw [show ((i + 1 : Nat) : Int) = (i : Int) + 1 by omega] at ih
      rw [hv] at hc
      refine ⟨j, x4', x5', x6', x10', x11', x12', (by rw [hv, Bool.true_and]; exact hj), loop_at K _ _ t54L0.eq_1 ?_⟩
      simp (config := { maxSteps := 4000000 }) (disch := omega) only [go_sem, encDs_len, c1, hix, hiy, getD5, cpR_pure hc, wrap_i64, storeV_c, storeC_eq]
      exact congrArg er ih
    · rw [Bool.not_eq_true] at hv
      rw [hv] at hc
      refine ⟨.ret, ?_, ?_, ?_, ?_, ?_, ?_, .inl ⟨rfl, (by rw [hv, Bool.false_and])⟩, loop_at K _ _ t54L0.eq_1 ?_⟩
      rotate_left 6
      · simp (config := { maxSteps := 4000000 }) (disch := omega) only [go_sem, encDs_len, c1, hix, hiy, getD5, cpR_pure hc, wrap_i64, storeV_c, storeC_eq]
        rfl
theorem call54 (ga gb : Tag) (a b : List Dt) (hw : a.length ≤ 1048576) (hwb : b.length ≤ 1048576) (H : ∀ x ∈ a, ∀ y ∈ b, (lim K).call 55 [agD x, agD y] [] = .ret (.iv (.bool (same x y)), [])) (S : Store) :
    (lim K).call 54 [.iv (.sl ga (encDs a)), .iv (.sl gb (encDs b)), fn55] S = .ret (.iv (.bool (sames a b)), S) := by
  refine call_ret' K _ (fn := t54) rfl rfl ?_
  by_cases hl : a.length = b.length
  · obtain ⟨j, x4', x5', x6', x10', x11', x12', hj, ih⟩ := loop54 ga gb a b hl hw H (.iv (.bool false)) S a.length 0 (.tup []) (.tup []) (.tup []) (.tup []) (.tup []) (by omega)
    rw [List.drop_zero, List.drop_zero] at hj
    rw [show ((0 : Nat) : Int) = 0 from rfl] at ih
    have hl' : (a.length : Int) = b.length := by omega
    rcases hj with ⟨rfl, hs⟩ | ⟨rfl, hs⟩
    · rw [hs]
      simp (config := { maxSteps := 4000000 }) (disch := omega) only [t54, go_sem, encDs_len, hl', bne_self_eq_false, TM.undef]
      rw [← hl', ih]
      simp (config := { maxSteps := 4000000 }) (disch := omega) only [go_sem]
    · rw [hs]
      simp (config := { maxSteps := 4000000 }) (disch := omega) only [t54, go_sem, encDs_len, hl', bne_self_eq_false, TM.undef]
      rw [← hl', ih]
      simp (config := { maxSteps := 4000000 }) (disch := omega) only [go_sem]
  · have hl' : ¬ ((a.length : Int) = b.length) := by omega
    rw [sames_len hl]
    simp (config := { maxSteps := 4000000 }) (disch := omega) only [t54, go_sem, encDs_len, hl']
theorem loop55 (N : Nat) (H : ∀ (x y : Dt) (S : Store), x.w < N → y.w ≤ 1048576 → (lim K).call 55 [agD x, agD y] S = .ret (.iv (.bool (same x y)), S)) (x0 x1 : TV) (S : Store) :
    ∀ (n : Nat) (a b : Dt) (x5 x6 : TV), a.w ≤ n → a.w ≤ N → b.w ≤ 1048576 →
    ∃ j a' b' x5' x6', (j = .ret ∧ same a b = false ∨ j = .exit 0 ∧ (a'.pr && b'.pr) = false ∧ same a b = same a' b' ∧ a'.w ≤ N ∧ b'.w ≤ 1048576) ∧
      lp' (lim K) t55L0 [x0, x1, lbD a, lbD b, .iv (.bool false), x5, x6] S = .ret (j, [x0, x1, lbD a', lbD b', .iv (.bool false), x5', x6'], S)
  | 0, a, b, x5, x6, h, hN, hb => by have := Dt.w_eq a; omega
  | n + 1, a, b, x5, x6, h, hN, hb => by
    have h1 := call82 a S
    have h2 := call82 b S
    by_cases ha : a.pr = true
    · rw [ha] at h1
      by_cases hbp : b.pr = true
      · rw [hbp] at h2
        have ha2 := ha
        have hb2 := hbp
        simp only [Dt.pr, Bool.and_eq_true, decide_eq_true_eq] at ha2 hb2
        have m0 := Dt.kid_lt (get_mem (l := a.ks) (i := 0) (by omega))
        have m1 := Dt.kid_lt (get_mem (l := a.ks) (i := 1) (by omega))
        have q0 := Dt.kid_lt (get_mem (l := b.ks) (i := 0) (by omega))
        have q1 := Dt.kid_lt (get_mem (l := b.ks) (i := 1) (by omega))
        have hx := ixD (g := a.g) (ks := a.ks) (i := 0) (by omega)
        have hx1 := ixD (g := a.g) (ks := a.ks) (i := 1) (by omega)
        have hy := ixD (g := b.g) (ks := b.ks) (i := 0) (by omega)
        have hy1 := ixD (g := b.g) (ks := b.ks) (i := 1) (by omega)
        rw [Int.toNat_zero] at hx hy
        rw [show (1 : Int).toNat = 1 from rfl] at hx1 hy1
        have hp := same_pp ha hbp
        have hc := H (a.ks.getD 0 default) (b.ks.getD 0 default) S (by omega) (by omega)
        generalize a.ks.getD 0 default = u at *
        generalize b.ks.getD 0 default = v at *
        generalize a.ks.getD 1 default = u1 at *
        generalize b.ks.getD 1 default = v1 at *
        by_cases hs : same u v = true
        · rw [hs] at hc
          obtain ⟨j, a', b', x5', x6', hj, ih⟩ := loop55 N H x0 x1 S n u1 v1 (.iv (.bool true)) (.iv (.bool false)) (by omega) (by omega) (by omega)
          refine ⟨j, a', b', x5', x6', (by rw [hp, hs, Bool.true_and]; exact hj), loop_at K _ _ t55L0.eq_1 ?_⟩
          simp (config := { maxSteps := 4000000 }) (disch := omega) only [go_sem, h1, h2, hx, hy, hx1, hy1, getD5, hc, storeV_c, storeC_eq]
          exact congrArg er ih
        · rw [Bool.not_eq_true] at hs
          rw [hs] at hc
          refine ⟨.ret, a, b, ?_, ?_, .inl ⟨rfl, (by rw [hp, hs, Bool.false_and])⟩, loop_at K _ _ t55L0.eq_1 ?_⟩
          rotate_left 2
          · simp (config := { maxSteps := 4000000 }) (disch := omega) only [go_sem, h1, h2, hx, hy, hx1, hy1, getD5, hc, storeV_c, storeC_eq]
            rfl
      · rw [Bool.not_eq_true] at hbp
        rw [hbp] at h2
        refine ⟨.exit 0, a, b, ?_, ?_, .inr ⟨rfl, (by rw [hbp, Bool.and_false]), rfl, hN, hb⟩, loop_at K _ _ t55L0.eq_1 ?_⟩
        rotate_left 2
        · simp (config := { maxSteps := 4000000 }) (disch := omega) only [go_sem, h1, h2]
          rfl
    · rw [Bool.not_eq_true] at ha
      rw [ha] at h1
      refine ⟨.exit 0, a, b, ?_, ?_, .inr ⟨rfl, (by rw [ha, Bool.false_and]), rfl, hN, hb⟩, loop_at K _ _ t55L0.eq_1 ?_⟩
      rotate_left 2
      · simp (config := { maxSteps := 4000000 }) (disch := omega) only [go_sem, h1, h2]
        rfl
theorem call55 : ∀ (N : Nat) (a b : Dt) (S : Store), a.w ≤ N → N ≤ 1048576 → b.w ≤ 1048576 → (lim K).call 55 [agD a, agD b] S = .ret (.iv (.bool (same a b)), S)
  | 0, a, b, S, h, hN, hb => by have := Dt.w_eq a; omega
  | N + 1, a, b, S, h, hN, hb => by
    have H : ∀ (x y : Dt) (S : Store), x.w < N + 1 → y.w ≤ 1048576 → (lim K).call 55 [agD x, agD y] S = .ret (.iv (.bool (same x y)), S) := fun x y S hx hy => call55 N x y S (by omega) (by omega) hy
    obtain ⟨j, a', b', x5', x6', hj, ih⟩ := loop55 (N + 1) H (agD a) (agD b) S a.w a b (.tup []) (.tup []) (by omega) h hb
    refine call_ret' K _ (fn := t55) rfl rfl ?_
    rcases hj with ⟨rfl, hs⟩ | ⟨rfl, hnp, hs, hwa, hwb⟩
    · rw [hs]
      simp (config := { maxSteps := 4000000 }) (disch := omega) only [t55, go_sem, TM.undef]
      rw [ih]
      simp (config := { maxSteps := 4000000 }) (disch := omega) only [go_sem]
    · have wa := Dt.w_eq a'
      have wb := Dt.w_eq b'
      have la := Dt.ws_len a'.ks
      have lb := Dt.ws_len b'.ks
      have hc := call54 a'.g b'.g a'.ks b'.ks (by omega) (by omega) (fun x hx y hy => H x y [] (by have := Dt.kid_lt hx; omega) (by have := Dt.kid_lt hy; omega)) S
      rw [hs, same_np hnp]
      simp (config := { maxSteps := 4000000 }) (disch := omega) only [t55, go_sem, TM.undef]
      rw [ih]
      simp (config := { maxSteps := 4000000 }) (disch := omega) only [go_sem]
      by_cases c1 : a'.k = b'.k
      · by_cases c2 : a'.n = b'.n
        · by_cases c3 : a'.t = b'.t
          · simp (config := { maxSteps := 4000000 }) (disch := omega) only [go_sem, c1, c2, c3, hc, Bool.true_and, Bool.and_self]
          · have c4 : (a'.t == b'.t) = false := by simp [c3]
            simp (config := { maxSteps := 4000000 }) (disch := omega) only [go_sem, c1, c2, c3, c4, Bool.and_false, Bool.false_and]
        · simp (config := { maxSteps := 4000000 }) (disch := omega) only [go_sem, c1, c2, Bool.and_false, Bool.false_and]
      · simp (config := { maxSteps := 4000000 }) (disch := omega) only [go_sem, c1, Bool.false_and]
end Go.Proofs.YtookmpaholmmfaaGreatDoor
