/- core.Same. Condition: none. -/
import Derived.Test.YtookmpaholmmfaaGreatDoorKcE
set_option maxRecDepth 100000
set_option maxHeartbeats 8000000
set_option linter.unusedSimpArgs false
set_option linter.unusedVariables false
namespace Go.Proofs.YtookmpaholmmfaaGreatDoor
open Go Go.TM
theorem loop92 (ga gb : Tag) (a b : List Int) (hl : a.length = b.length) (hw : a.length ≤ 1048576) (x4 : TV) (S : Store) :
    ∀ (k i : Nat) (x3 x7 x8 : TV), i + k = a.length →
    ∃ j x3' x6' x7' x8', (j = .ret ∧ a.drop i ≠ b.drop i ∨ j = .exit 0 ∧ a.drop i = b.drop i) ∧
      lp' (lim K) t92L0 [.iv (.sl ga (one (.int .i64) a)), .iv (.sl gb (one (.int .i64) b)), .iv (.bool false), x3, x4, .iv (.int .i64 a.length), .iv (.int .i64 (i : Int)), x7, x8] S
      = .ret (j, [.iv (.sl ga (one (.int .i64) a)), .iv (.sl gb (one (.int .i64) b)), .iv (.bool false), x3', x4, .iv (.int .i64 a.length), x6', x7', x8'], S)
  | 0, i, x3, x7, x8, h => by
    have c1 : ¬ ((i : Int) < a.length) := by omega
    refine ⟨.exit 0, ?_, ?_, ?_, ?_, .inr ⟨rfl, ?_⟩, loop_at K _ _ t92L0.eq_1 ?_⟩
    rotate_left 5
    · simp (config := { maxSteps := 4000000 }) (disch := omega) only [go_sem, c1]
      rfl
    · rw [List.drop_eq_nil_of_le (by omega), List.drop_eq_nil_of_le (by omega)]
  | k + 1, i, x3, x7, x8, h => by
    have c1 : (i : Int) < a.length := by omega
    have hla : i < a.length := by omega
    have hlb : i < b.length := by omega
    have hix := ix_one (IV.int .i64) (t := ga) (l := a) (i := (i : Int)) (by omega)
    have hiy := ix_one (IV.int .i64) (t := gb) (l := b) (i := (i : Int)) (by omega)
    rw [Int.toNat_natCast] at hix hiy
    rw [drop_get hla, drop_get hlb]
    generalize hx : a.getD i default = x at *
    generalize hy : b.getD i default = y at *
    by_cases hv : x = y
    · obtain ⟨j, x3', x6', x7', x8', hj, ih⟩ := loop92 ga gb a b hl hw x4 S k (i + 1) (.iv (.int .i64 i)) (.iv (.bool true)) (.iv (.bool false)) (by omega)
      rw [show ((i + 1 : Nat) : Int) = (i : Int) + 1 by omega] at ih
      refine ⟨j, x3', x6', x7', x8', (by rw [hv]; simpa using hj), loop_at K _ _ t92L0.eq_1 ?_⟩
      simp (config := { maxSteps := 4000000 }) (disch := omega) only [go_sem, c1, hix, hiy, hv, bne_self_eq_false, wrap_i64]
      exact congrArg er ih
    · refine ⟨.ret, ?_, ?_, ?_, ?_, .inl ⟨rfl, (by simp [hv])⟩, loop_at K _ _ t92L0.eq_1 ?_⟩
      rotate_left 4
      · simp (config := { maxSteps := 4000000 }) (disch := omega) only [go_sem, c1, hix, hiy, hv, wrap_i64]
        rfl
theorem call92 (ga gb : Tag) (a b : List Int) (hw : a.length ≤ 1048576) (hwb : b.length ≤ 1048576) :
    Pure K 92 [.iv (.sl ga (one (.int .i64) a)), .iv (.sl gb (one (.int .i64) b))] (.iv (.bool (decide (a = b)))) := by
  apply pure_ret
  refine call_ret' K _ (fn := t92) rfl rfl ?_
  by_cases hl : a.length = b.length
  · obtain ⟨j, x3', x6', x7', x8', hj, ih⟩ := loop92 ga gb a b hl hw (.iv (.bool false)) [] a.length 0 (.tup []) (.tup []) (.tup []) (by omega)
    rw [List.drop_zero, List.drop_zero] at hj
    rw [show ((0 : Nat) : Int) = 0 from rfl] at ih
    have hl' : (a.length : Int) = b.length := by omega
    rcases hj with ⟨rfl, hs⟩ | ⟨rfl, hs⟩
    · rw [decide_eq_false hs]
      simp (config := { maxSteps := 4000000 }) (disch := omega) only [t92, go_sem, hl', bne_self_eq_false, TM.undef]
      rw [← hl', ih]
      simp (config := { maxSteps := 4000000 }) (disch := omega) only [go_sem]
    · rw [decide_eq_true hs]
      simp (config := { maxSteps := 4000000 }) (disch := omega) only [t92, go_sem, hl', bne_self_eq_false, TM.undef]
      rw [← hl', ih]
      simp (config := { maxSteps := 4000000 }) (disch := omega) only [go_sem]
  · have hl' : ¬ ((a.length : Int) = b.length) := by omega
    rw [decide_eq_false (fun e => hl (by rw [e]))]
    simp (config := { maxSteps := 4000000 }) (disch := omega) only [t92, go_sem, hl']
mutual
def eqE : Ex → Ex → Bool
  | .mk k n _ vs r _ ks, .mk k' n' _ vs' r' _ ks' => decide (k = k') && decide (n = n') && (r == r') && decide (vs = vs') && eqEs ks ks'
def eqEs : List Ex → List Ex → Bool
  | [], [] => true
  | d :: ds, e :: es => eqE d e && eqEs ds es
  | [], _ :: _ => false
  | _ :: _, [] => false
end
theorem eqE_eq (a b : Ex) : eqE a b = (decide (a.k = b.k) && decide (a.n = b.n) && (a.r == b.r) && decide (a.vs = b.vs) && eqEs a.ks b.ks) := by
  cases a; cases b; rw [eqE]; rfl
theorem eqEs_len : ∀ {a b : List Ex}, a.length ≠ b.length → eqEs a b = false
  | [], [], h => absurd rfl h
  | [], _ :: _, _ => by rw [eqEs]
  | _ :: _, [], _ => by rw [eqEs]
  | x :: a, y :: b, h => by
    rw [eqEs, eqEs_len (by simpa using h), Bool.and_false]
abbrev agE (d : Ex) : TV := .iv (.agg [.int .i64 d.k, .int .i64 d.n, .sl d.gv (one (.int .i64) d.vs), .bool d.r, .sl d.g (encEs d.ks)])
abbrev fn56 : TV := .fn 56 [] []
theorem loop93 (ga gb : Tag) (a b : List Ex) (hl : a.length = b.length) (hw : a.length ≤ 1048576) (H : ∀ x ∈ a, ∀ y ∈ b, (lim K).call 56 [agE x, agE y] [] = .ret (.iv (.bool (eqE x y)), [])) (x7 : TV) (S : Store) :
    ∀ (k i : Nat) (x4 x5 x6 x11 x12 : TV), i + k = a.length →
    ∃ j x4' x5' x6' x10' x11' x12', (j = .ret ∧ eqEs (a.drop i) (b.drop i) = false ∨ j = .exit 0 ∧ eqEs (a.drop i) (b.drop i) = true) ∧
      lp' (lim K) t93L0 [.iv (.sl ga (encEs a)), .iv (.sl gb (encEs b)), fn56, .iv (.bool false), x4, x5, x6, x7, .iv (.sl ga (encEs a)), .iv (.int .i64 a.length), .iv (.int .i64 (i : Int)), x11, x12] S
      = .ret (j, [.iv (.sl ga (encEs a)), .iv (.sl gb (encEs b)), fn56, .iv (.bool false), x4', x5', x6', x7, .iv (.sl ga (encEs a)), .iv (.int .i64 a.length), x10', x11', x12'], S)
  | 0, i, x4, x5, x6, x11, x12, h => by
    have c1 : ¬ ((i : Int) < a.length) := by omega
    refine ⟨.exit 0, ?_, ?_, ?_, ?_, ?_, ?_, .inr ⟨rfl, ?_⟩, loop_at K _ _ t93L0.eq_1 ?_⟩
    rotate_left 7
    · simp (config := { maxSteps := 4000000 }) (disch := omega) only [go_sem, encEs_len, c1]
      rfl
    · rw [List.drop_eq_nil_of_le (by omega), List.drop_eq_nil_of_le (by omega), eqEs]
  | k + 1, i, x4, x5, x6, x11, x12, h => by
    have c1 : (i : Int) < a.length := by omega
    have hla : i < a.length := by omega
    have hlb : i < b.length := by omega
    have hix := ixE (g := ga) (ks := a) (i := (i : Int)) (by omega)
    have hiy := ixE (g := gb) (ks := b) (i := (i : Int)) (by omega)
    rw [Int.toNat_natCast] at hix hiy
    have hc := pure_ret (H _ (get_mem hla) _ (get_mem hlb))
    rw [drop_get hla, drop_get hlb, eqEs]
    generalize hx : a.getD i default = x at *
    generalize hy : b.getD i default = y at *
    by_cases hv : eqE x y = true
    · obtain ⟨j, x4', x5', x6', x10', x11', x12', hj, ih⟩ := loop93 ga gb a b hl hw H x7 S k (i + 1) (.iv (.int .i64 i)) (lbE x) (lbE y) (.iv (.bool true)) (.iv (.bool false)) (by omega)
      rw [show ((i + 1 : Nat) : Int) = (i : Int) + 1 by omega] at ih
      rw [hv] at hc
      refine ⟨j, x4', x5', x6', x10', x11', x12', (by rw [hv, Bool.true_and]; exact hj), loop_at K _ _ t93L0.eq_1 ?_⟩
      simp (config := { maxSteps := 4000000 }) (disch := omega) only [go_sem, encEs_len, c1, hix, hiy, getE5, cpR_pure hc, wrap_i64, storeV_c, storeC_eq]
      exact congrArg er ih
    · rw [Bool.not_eq_true] at hv
      rw [hv] at hc
      refine ⟨.ret, ?_, ?_, ?_, ?_, ?_, ?_, .inl ⟨rfl, (by rw [hv, Bool.false_and])⟩, loop_at K _ _ t93L0.eq_1 ?_⟩
      rotate_left 6
      · simp (config := { maxSteps := 4000000 }) (disch := omega) only [go_sem, encEs_len, c1, hix, hiy, getE5, cpR_pure hc, wrap_i64, storeV_c, storeC_eq]
        rfl
theorem call93 (ga gb : Tag) (a b : List Ex) (hw : a.length ≤ 1048576) (hwb : b.length ≤ 1048576) (H : ∀ x ∈ a, ∀ y ∈ b, (lim K).call 56 [agE x, agE y] [] = .ret (.iv (.bool (eqE x y)), [])) (S : Store) :
    (lim K).call 93 [.iv (.sl ga (encEs a)), .iv (.sl gb (encEs b)), fn56] S = .ret (.iv (.bool (eqEs a b)), S) := by
  refine call_ret' K _ (fn := t93) rfl rfl ?_
  by_cases hl : a.length = b.length
  · obtain ⟨j, x4', x5', x6', x10', x11', x12', hj, ih⟩ := loop93 ga gb a b hl hw H (.iv (.bool false)) S a.length 0 (.tup []) (.tup []) (.tup []) (.tup []) (.tup []) (by omega)
    rw [List.drop_zero, List.drop_zero] at hj
    rw [show ((0 : Nat) : Int) = 0 from rfl] at ih
    have hl' : (a.length : Int) = b.length := by omega
    rcases hj with ⟨rfl, hs⟩ | ⟨rfl, hs⟩
    · rw [hs]
      simp (config := { maxSteps := 4000000 }) (disch := omega) only [t93, go_sem, encEs_len, hl', bne_self_eq_false, TM.undef]
      rw [← hl', ih]
      simp (config := { maxSteps := 4000000 }) (disch := omega) only [go_sem]
    · rw [hs]
      simp (config := { maxSteps := 4000000 }) (disch := omega) only [t93, go_sem, encEs_len, hl', bne_self_eq_false, TM.undef]
      rw [← hl', ih]
      simp (config := { maxSteps := 4000000 }) (disch := omega) only [go_sem]
  · have hl' : ¬ ((a.length : Int) = b.length) := by omega
    rw [eqEs_len hl]
    simp (config := { maxSteps := 4000000 }) (disch := omega) only [t93, go_sem, encEs_len, hl']
theorem call56 : ∀ (N : Nat) (a b : Ex) (S : Store), a.w ≤ N → N ≤ 1048576 → b.w ≤ 1048576 → (lim K).call 56 [agE a, agE b] S = .ret (.iv (.bool (eqE a b)), S)
  | 0, a, b, S, h, hN, hb => by have := Ex.w_eq a; omega
  | N + 1, a, b, S, h, hN, hb => by
    refine call_ret' K _ (fn := t56) rfl rfl ?_
    have wa := Ex.w_eq a
    have wb := Ex.w_eq b
    have la := Ex.ws_len a.ks
    have lb := Ex.ws_len b.ks
    have hc := call93 a.g b.g a.ks b.ks (by omega) (by omega) (fun x hx y hy => call56 N x y [] (by have := Ex.kid_lt hx; omega) (by omega) (by have := Ex.kid_lt hy; omega)) S
    have hv := call92 a.gv b.gv a.vs b.vs (by omega) (by omega)
    rw [eqE_eq]
    by_cases c1 : a.k = b.k
    · by_cases c2 : a.n = b.n
      · by_cases c3 : a.r = b.r
        · by_cases c4 : a.vs = b.vs
          · rw [decide_eq_true c4] at hv
            simp (config := { maxSteps := 4000000 }) (disch := omega) only [t56, go_sem, TM.undef, c1, c2, c3, decide_eq_true c4, hc, cpR_pure hv, Bool.true_and, Bool.and_self]
          · rw [decide_eq_false c4] at hv
            simp (config := { maxSteps := 4000000 }) (disch := omega) only [t56, go_sem, TM.undef, c1, c2, c3, decide_eq_false c4, cpR_pure hv, Bool.and_false, Bool.false_and]
        · have c5 : (a.r == b.r) = false := by simp [c3]
          simp (config := { maxSteps := 4000000 }) (disch := omega) only [t56, go_sem, TM.undef, c1, c2, c3, c5, Bool.and_false, Bool.false_and]
      · simp (config := { maxSteps := 4000000 }) (disch := omega) only [t56, go_sem, TM.undef, c1, c2, Bool.and_false, Bool.false_and]
    · simp (config := { maxSteps := 4000000 }) (disch := omega) only [t56, go_sem, TM.undef, c1, Bool.false_and]
end Go.Proofs.YtookmpaholmmfaaGreatDoor
