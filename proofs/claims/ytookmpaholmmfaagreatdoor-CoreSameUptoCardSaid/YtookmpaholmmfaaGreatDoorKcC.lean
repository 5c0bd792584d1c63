/- Programs that are large. Condition: none. -/
import Derived.Test.YtookmpaholmmfaaGreatDoorKcB
set_option maxRecDepth 100000
set_option maxHeartbeats 8000000
set_option linter.unusedSimpArgs false
set_option linter.unusedVariables false
namespace Go.Proofs.YtookmpaholmmfaaGreatDoor
open Go Go.TM
structure Pg where
  b : Ex
  gl : Int
  vr : Int
  gc : Tag
  cs : List Dt
def Pg.w (p : Pg) : Nat := p.b.w + Dt.ws p.cs
def encP (p : Pg) : List IV := [.int .i64 p.b.k, .int .i64 p.b.n, .sl p.b.gv (one (.int .i64) p.b.vs), .bool p.b.r, .sl p.b.g (encEs p.b.ks), .int .i64 p.gl, .int .i64 p.vr, .sl p.gc (encDs p.cs)]
abbrev lbP (p : Pg) : TV := .lb [.iv (.int .i64 p.b.k), .iv (.int .i64 p.b.n), .iv (.sl p.b.gv (one (.int .i64) p.b.vs)), .iv (.bool p.b.r), .iv (.sl p.b.g (encEs p.b.ks)), .iv (.int .i64 p.gl), .iv (.int .i64 p.vr), .iv (.sl p.gc (encDs p.cs))]
theorem loop9 (p : Pg) (hp : p.w ≤ 1048576) (x0 : TV) (S : Store) : ∀ (k i : Nat) (x4 x5 : TV), i + k = p.cs.length →
    ∃ j b i' x4' x5', (j = .ret ∧ b = true ∨ j = .exit 0 ∧ b = false) ∧ lp' (lim K) t9L0 [x0, lbP p, .iv (.bool false), .iv (.int .i64 (i : Int)), x4, x5] S = .ret (j, [x0, lbP p, .iv (.bool b), i', x4', x5'], S)
  | 0, i, x4, x5, h => by
    have c1 : ¬ ((i : Int) < p.cs.length) := by omega
    refine ⟨.exit 0, false, ?_, ?_, ?_, .inr ⟨rfl, rfl⟩, loop_at K _ _ t9L0.eq_1 ?_⟩
    rotate_left 3
    · simp (config := { maxSteps := 4000000 }) (disch := omega) only [go_sem, encDs_len, c1]
      rfl
  | k + 1, i, x4, x5, h => by
    have c1 : (i : Int) < p.cs.length := by omega
    have hl : i < p.cs.length := by omega
    have hw2 := Dt.ws_len p.cs
    have hpw : p.b.w + Dt.ws p.cs ≤ 1048576 := hp
    by_cases h3 : (i : Int) < 30
    · have hix := ixD (g := p.gc) (ks := p.cs) (i := (i : Int)) (by omega)
      rw [Int.toNat_natCast] at hix
      have hm := Dt.ws_mem (get_mem hl)
      have hc := fun S => call40 60 (by omega) (p.cs.getD i default) (by omega) S
      rw [encD_eq, show ((60 : Nat) : Int) = 60 from rfl] at hc
      generalize hx : p.cs.getD i default = y at *
      by_cases hv : 200 < partsF 60 y
      · refine ⟨.ret, true, ?_, ?_, ?_, .inl ⟨rfl, rfl⟩, loop_at K _ _ t9L0.eq_1 ?_⟩
        rotate_left 3
        · simp (config := { maxSteps := 4000000 }) (disch := omega) only [go_sem, encDs_len, c1, h3, hix, getD5, hc, hv]
          rfl
      · obtain ⟨j, b, i', x4', x5', hj, ih⟩ := loop9 p hp x0 S k (i + 1) (.iv (.bool true)) (.iv (.bool false)) (by omega)
        rw [show ((i + 1 : Nat) : Int) = (i : Int) + 1 by omega] at ih
        refine ⟨j, b, i', x4', x5', hj, loop_at K _ _ t9L0.eq_1 ?_⟩
        simp (config := { maxSteps := 4000000 }) (disch := omega) only [go_sem, encDs_len, c1, h3, hix, getD5, hc, hv, wrap_i64]
        exact congrArg er ih
    · refine ⟨.exit 0, false, ?_, ?_, ?_, .inr ⟨rfl, rfl⟩, loop_at K _ _ t9L0.eq_1 ?_⟩
      rotate_left 3
      · simp (config := { maxSteps := 4000000 }) (disch := omega) only [go_sem, encDs_len, c1, h3]
        rfl
theorem call9 (p : Pg) (hp : p.w ≤ 1048576) (S : Store) : ∃ b, (lim K).call 9 [.iv (.agg (encP p))] S = .ret (.iv (.bool b), S) := by
  obtain ⟨j, b, i', x4', x5', hj, h⟩ := loop9 p hp (.iv (.agg (encP p))) S p.cs.length 0 (.tup []) (.tup []) (by omega)
  rw [show ((0 : Nat) : Int) = 0 from rfl] at h
  have hpw : p.b.w + Dt.ws p.cs ≤ 1048576 := hp
  have hc := fun S => call10 4100 (by omega) p.b (by omega) S
  rw [encE_eq, show ((4100 : Nat) : Int) = 4100 from rfl] at hc
  rcases hj with ⟨rfl, rfl⟩ | ⟨rfl, rfl⟩
  · refine ⟨true, call_ret' K _ (fn := t9) rfl rfl ?_⟩
    simp only [encP] at h ⊢
    simp (config := { maxSteps := 4000000 }) (disch := omega) only [t9, go_sem, TM.undef]
    rw [h]
    simp (config := { maxSteps := 4000000 }) (disch := omega) only [go_sem]
  · by_cases hv : 4500 < nodesF 4100 p.b
    · refine ⟨true, call_ret' K _ (fn := t9) rfl rfl ?_⟩
      simp only [encP] at h ⊢
      simp (config := { maxSteps := 4000000 }) (disch := omega) only [t9, go_sem, TM.undef]
      rw [h]
      simp (config := { maxSteps := 4000000 }) (disch := omega) only [go_sem, hc, hv]
    · refine ⟨decide ((20 : Int) < p.cs.length), call_ret' K _ (fn := t9) rfl rfl ?_⟩
      simp only [encP] at h ⊢
      simp (config := { maxSteps := 4000000 }) (disch := omega) only [t9, go_sem, TM.undef]
      rw [h]
      simp (config := { maxSteps := 4000000 }) (disch := omega) only [go_sem, hc, hv, encDs_len]
end Go.Proofs.YtookmpaholmmfaaGreatDoor
