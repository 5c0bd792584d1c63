/- core.Same of programs; the document's Expr. Condition: none. -/
import Derived.Test.YtookmpaholmmfaaGreatDoorKcF
set_option maxRecDepth 100000
set_option maxHeartbeats 8000000
set_option linter.unusedSimpArgs false
set_option linter.unusedVariables false
namespace Go.Proofs.YtookmpaholmmfaaGreatDoor
open Go Go.TM
def samP (p q : Pg) : Bool := decide (p.gl = q.gl) && decide (p.vr = q.vr) && sames p.cs q.cs && eqE p.b q.b
theorem call19 (p q : Pg) (hp : p.w ≤ 1048576) (hq : q.w ≤ 1048576) (S : Store) : (lim K).call 19 [.iv (.agg (encP p)), .iv (.agg (encP q))] S = .ret (.iv (.bool (samP p q)), S) := by
  refine call_ret' K _ (fn := t19) rfl rfl ?_
  have hpw : p.b.w + Dt.ws p.cs ≤ 1048576 := hp
  have hqw : q.b.w + Dt.ws q.cs ≤ 1048576 := hq
  have la := Dt.ws_len p.cs
  have lb := Dt.ws_len q.cs
  have hc := call54 p.gc q.gc p.cs q.cs (by omega) (by omega) (fun x hx y hy => call55 1048576 x y [] (by have := Dt.ws_mem hx; omega) (by omega) (by have := Dt.ws_mem hy; omega)) S
  have hb := call56 1048576 p.b q.b S (by omega) (by omega) (by omega)
  unfold samP encP
  by_cases c1 : p.gl = q.gl
  · by_cases c2 : p.vr = q.vr
    · cases c3 : sames p.cs q.cs with
      | true =>
        rw [c3] at hc
        simp (config := { maxSteps := 4000000 }) (disch := omega) only [t19, go_sem, TM.undef, c1, c2, hc, hb, Bool.true_and, Bool.and_self]
      | false =>
        rw [c3] at hc
        simp (config := { maxSteps := 4000000 }) (disch := omega) only [t19, go_sem, TM.undef, c1, c2, hc, hb, Bool.and_false, Bool.false_and]
    · simp (config := { maxSteps := 4000000 }) (disch := omega) only [t19, go_sem, TM.undef, c1, c2, Bool.and_false, Bool.false_and]
  · simp (config := { maxSteps := 4000000 }) (disch := omega) only [t19, go_sem, TM.undef, c1, Bool.false_and]
theorem loop58a (a b : Ex) (hl : a.vs.length = b.vs.length) (ha : a.w ≤ 1048576) (x0 x1 x6 x7 : TV) (S : Store) : ∀ (k i : Nat) (x8 x9 x10 x11 : TV), i + k = a.vs.length →
    ∃ j i' x8' x9', (j = .ret ∧ a.vs.drop i ≠ b.vs.drop i ∨ j = .exit 0 ∧ a.vs.drop i = b.vs.drop i) ∧
      lp' (lim K) t58L1 [x0, x1, lbE a, lbE b, .iv (.bool false), .iv (.int .i64 (i : Int)), x6, x7, x8, x9, x10, x11] S = .ret (j, [x0, x1, lbE a, lbE b, .iv (.bool false), i', x6, x7, x8', x9', x10, x11], S)
  | 0, i, x8, x9, x10, x11, h => by
    have c1 : ¬ ((i : Int) < a.vs.length) := by omega
    refine ⟨.exit 0, ?_, ?_, ?_, .inr ⟨rfl, ?_⟩, loop_at K _ _ t58L1.eq_1 ?_⟩
    rotate_left 4
    · simp (config := { maxSteps := 4000000 }) (disch := omega) only [go_sem, c1]
      rfl
    · rw [List.drop_eq_nil_of_le (by omega), List.drop_eq_nil_of_le (by omega)]
  | k + 1, i, x8, x9, x10, x11, h => by
    have c1 : (i : Int) < a.vs.length := by omega
    have hw := Ex.w_eq a
    have hla : i < a.vs.length := by omega
    have hlb : i < b.vs.length := by omega
    have hix := ix_one (IV.int .i64) (t := a.gv) (l := a.vs) (i := (i : Int)) (by omega)
    have hiy := ix_one (IV.int .i64) (t := b.gv) (l := b.vs) (i := (i : Int)) (by omega)
    rw [Int.toNat_natCast] at hix hiy
    rw [drop_get hla, drop_get hlb]
    generalize hx : a.vs.getD i default = x at *
    generalize hy : b.vs.getD i default = y at *
    by_cases hv : x = y
    · obtain ⟨j, i', x8', x9', hj, ih⟩ := loop58a a b hl ha x0 x1 x6 x7 S k (i + 1) (.iv (.bool true)) (.iv (.bool false)) x10 x11 (by omega)
      rw [show ((i + 1 : Nat) : Int) = (i : Int) + 1 by omega] at ih
      refine ⟨j, i', x8', x9', (by rw [hv]; simpa using hj), loop_at K _ _ t58L1.eq_1 ?_⟩
      simp (config := { maxSteps := 4000000 }) (disch := omega) only [go_sem, c1, hix, hiy, hv, bne_self_eq_false, wrap_i64]
      exact congrArg er ih
    · refine ⟨.ret, ?_, ?_, ?_, .inl ⟨rfl, (by simp [hv])⟩, loop_at K _ _ t58L1.eq_1 ?_⟩
      rotate_left 3
      · simp (config := { maxSteps := 4000000 }) (disch := omega) only [go_sem, c1, hix, hiy, hv, wrap_i64]
        rfl
theorem loop58b (a b : Ex) (hl : a.ks.length = b.ks.length) (ha : a.w ≤ 1048576) (x0 x1 x5 x7 x8 x9 : TV) (S : Store) (H : ∀ x ∈ a.ks, ∀ y ∈ b.ks, (lim K).call 58 [agE x, agE y] S = .ret (.iv (.bool (eqE x y)), S)) : ∀ (k i : Nat) (x10 x11 : TV), i + k = a.ks.length →
    ∃ j i' x10' x11', (j = .ret ∧ eqEs (a.ks.drop i) (b.ks.drop i) = false ∨ j = .exit 2 ∧ eqEs (a.ks.drop i) (b.ks.drop i) = true) ∧
      lp' (lim K) t58L0 [x0, x1, lbE a, lbE b, .iv (.bool false), x5, .iv (.int .i64 (i : Int)), x7, x8, x9, x10, x11] S = .ret (j, [x0, x1, lbE a, lbE b, .iv (.bool false), x5, i', x7, x8, x9, x10', x11'], S)
  | 0, i, x10, x11, h => by
    have c1 : ¬ ((i : Int) < a.ks.length) := by omega
    refine ⟨.exit 2, ?_, ?_, ?_, .inr ⟨rfl, ?_⟩, loop_at K _ _ t58L0.eq_1 ?_⟩
    rotate_left 4
    · simp (config := { maxSteps := 4000000 }) (disch := omega) only [go_sem, encEs_len, c1]
      rfl
    · rw [List.drop_eq_nil_of_le (by omega), List.drop_eq_nil_of_le (by omega), eqEs]
  | k + 1, i, x10, x11, h => by
    have c1 : (i : Int) < a.ks.length := by omega
    have hw := Ex.w_eq a
    have hw2 := Ex.ws_len a.ks
    have hla : i < a.ks.length := by omega
    have hlb : i < b.ks.length := by omega
    have hix := ixE (g := a.g) (ks := a.ks) (i := (i : Int)) (by omega)
    have hiy := ixE (g := b.g) (ks := b.ks) (i := (i : Int)) (by omega)
    rw [Int.toNat_natCast] at hix hiy
    have hc := H _ (get_mem hla) _ (get_mem hlb)
    rw [drop_get hla, drop_get hlb, eqEs]
    generalize hx : a.ks.getD i default = x at *
    generalize hy : b.ks.getD i default = y at *
    by_cases hv : eqE x y = true
    · obtain ⟨j, i', x10', x11', hj, ih⟩ := loop58b a b hl ha x0 x1 x5 x7 x8 x9 S H k (i + 1) (.iv (.bool true)) (.iv (.bool false)) (by omega)
      rw [show ((i + 1 : Nat) : Int) = (i : Int) + 1 by omega] at ih
      rw [hv] at hc
      refine ⟨j, i', x10', x11', (by rw [hv, Bool.true_and]; exact hj), loop_at K _ _ t58L0.eq_1 ?_⟩
      simp (config := { maxSteps := 4000000 }) (disch := omega) only [go_sem, encEs_len, c1, hix, hiy, getE5, hc, wrap_i64]
      exact congrArg er ih
    · rw [Bool.not_eq_true] at hv
      rw [hv] at hc
      refine ⟨.ret, ?_, ?_, ?_, .inl ⟨rfl, (by rw [hv, Bool.false_and])⟩, loop_at K _ _ t58L0.eq_1 ?_⟩
      rotate_left 3
      · simp (config := { maxSteps := 4000000 }) (disch := omega) only [go_sem, encEs_len, c1, hix, hiy, getE5, hc, wrap_i64]
        rfl
theorem call58 : ∀ (N : Nat) (a b : Ex) (S : Store), a.w ≤ N → N ≤ 1048576 → b.w ≤ 1048576 → (lim K).call 58 [agE a, agE b] S = .ret (.iv (.bool (eqE a b)), S)
  | 0, a, b, S, h, hN, hb => by have := Ex.w_eq a; omega
  | N + 1, a, b, S, h, hN, hb => by
    refine call_ret' K _ (fn := t58) rfl rfl ?_
    rw [eqE_eq]
    by_cases c1 : a.k = b.k
    · by_cases c2 : a.n = b.n
      · by_cases c3 : a.r = b.r
        · have e3 : (a.r != b.r) = false := by simp [c3]
          have e4 : (a.r == b.r) = true := by simp [c3]
          by_cases c4 : a.vs.length = b.vs.length
          · have c4' : (a.vs.length : Int) = b.vs.length := by omega
            by_cases c5 : a.ks.length = b.ks.length
            · have c5' : (a.ks.length : Int) = b.ks.length := by omega
              obtain ⟨j, i', x8', x9', hj, ih⟩ := loop58a a b c4 (by omega) (agE a) (agE b) (.tup []) (.iv (.bool false)) S a.vs.length 0 (.tup []) (.tup []) (.tup []) (.tup []) (by omega)
              rw [show ((0 : Nat) : Int) = 0 from rfl] at ih
              rw [List.drop_zero, List.drop_zero] at hj
              rcases hj with ⟨rfl, hs⟩ | ⟨rfl, hs⟩
              · rw [decide_eq_false hs]
                simp (config := { maxSteps := 4000000 }) (disch := omega) only [t58, go_sem, TM.undef, encEs_len, e3, e4, Bool.not_true]
                rw [ih]
                simp (config := { maxSteps := 4000000 }) (disch := omega) only [go_sem]
              · obtain ⟨j2, i2, x10', x11', hj2, ih2⟩ := loop58b a b c5 (by omega) (agE a) (agE b) i' (.iv (.bool false)) x8' x9' S (fun x hx y hy => call58 N x y S (by have := Ex.kid_lt hx; omega) (by omega) (by have := Ex.kid_lt hy; omega)) a.ks.length 0 (.tup []) (.tup []) (by omega)
                rw [show ((0 : Nat) : Int) = 0 from rfl] at ih2
                rw [List.drop_zero, List.drop_zero] at hj2
                simp (config := { maxSteps := 4000000 }) (disch := omega) only [t58, go_sem, TM.undef, encEs_len, e3, e4, Bool.not_true]
                rw [ih]
                simp (config := { maxSteps := 4000000 }) (disch := omega) only [go_sem]
                rw [ih2]
                rcases hj2 with ⟨rfl, hs2⟩ | ⟨rfl, hs2⟩
                · rw [hs2]
                  simp (config := { maxSteps := 4000000 }) (disch := omega) only [go_sem]
                · rw [hs2]
                  simp (config := { maxSteps := 4000000 }) (disch := omega) only [go_sem]
            · have c5' : ¬ ((a.ks.length : Int) = b.ks.length) := by omega
              rw [eqEs_len c5, Bool.and_false]
              simp (config := { maxSteps := 4000000 }) (disch := omega) only [t58, go_sem, TM.undef, encEs_len, e3, e4, Bool.not_true]
          · have c4' : ¬ ((a.vs.length : Int) = b.vs.length) := by omega
            rw [decide_eq_false (show ¬ a.vs = b.vs from fun e => c4 (by rw [e])), Bool.and_false, Bool.false_and]
            simp (config := { maxSteps := 4000000 }) (disch := omega) only [t58, go_sem, TM.undef, encEs_len, e3, e4, Bool.not_true]
        · have c5 : (a.r == b.r) = false := by simp [c3]
          have c6 : (a.r != b.r) = true := by simp [c3]
          rw [c5, Bool.and_false, Bool.false_and, Bool.false_and]
          simp (config := { maxSteps := 4000000 }) (disch := omega) only [t58, go_sem, TM.undef, c5, c6, Bool.not_false]
      · rw [decide_eq_false c2, Bool.and_false, Bool.false_and, Bool.false_and, Bool.false_and]
        simp (config := { maxSteps := 4000000 }) (disch := omega) only [t58, go_sem, TM.undef]
    · rw [decide_eq_false c1, Bool.false_and, Bool.false_and, Bool.false_and, Bool.false_and]
      simp (config := { maxSteps := 4000000 }) (disch := omega) only [t58, go_sem, TM.undef]
end Go.Proofs.YtookmpaholmmfaaGreatDoor
