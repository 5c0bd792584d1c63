/- The document's All and Codes: they answer. Condition: none. -/
import Derived.Test.YtookmpaholmmfaaGreatDoorKcL
set_option maxRecDepth 100000
set_option maxHeartbeats 8000000
set_option linter.unusedSimpArgs false
set_option linter.unusedVariables false
namespace Go.Proofs.YtookmpaholmmfaaGreatDoor
open Go Go.TM
def encC (c : Int × Int) : List IV := [.int .i64 c.1, .int .i64 c.2]
theorem encC_ok (c : Int × Int) : (encC c).length = 2 ∧ (encC c).all isCell = true := ⟨rfl, rfl⟩
theorem loop91 (t : Tag) (l : List UInt8) (ht : TagOk t l) (hl : l.length ≤ 1048576) : ∀ (k : Nat) (i : Int) (done : List (Int × Int)) (x6 x7 x8 x9 x10 : TV), 0 ≤ i → i ≤ l.length → (l.length : Int) - i ≤ k → (done.length : Int) ≤ i →
    ∃ j z1 z2 z3 z4 y5 y6 y7 y8 y9 y10 S', (j = .exit 0 ∧ z1 = .iv (.sl .nil []) ∧ z2 = i0 ∧ z3 = i0 ∧ (∃ d : List (Int × Int), d.length ≤ l.length ∧ z4 = acc 0 (d.map encC) ∧ S' = accS 2 113 (d.map encC)) ∨ j = .ret ∧ z1 = .iv (.sl .nil []) ∧ z2 = .iv (.int .i64 4) ∧ ∃ p, z3 = .iv (.int .i64 p)) ∧
      lp' (lim K) t91L0 [.iv (.sl t (bytesIV l)), .iv (.sl .nil []), i0, i0, acc 0 (done.map encC), .iv (.int .i64 i), x6, x7, x8, x9, x10] (accS 2 113 (done.map encC)) = .ret (j, [.iv (.sl t (bytesIV l)), z1, z2, z3, z4, y5, y6, y7, y8, y9, y10], S')
  | 0, i, done, x6, x7, x8, x9, x10, h0, h1, h2, h3 => by
    refine ⟨.exit 0, _, _, _, _, ?_, ?_, ?_, ?_, ?_, ?_, _, .inl ⟨rfl, rfl, rfl, rfl, done, by omega, rfl, rfl⟩, loop_at K _ _ t91L0.eq_1 ?_⟩
    rotate_left 6
    · simp (config := { maxSteps := 4000000 }) (disch := omega) only [go_sem]
      rfl
  | k + 1, i, done, x6, x7, x8, x9, x10, h0, h1, h2, h3 => by
    by_cases hi : i = l.length
    · refine ⟨.exit 0, _, _, _, _, ?_, ?_, ?_, ?_, ?_, ?_, _, .inl ⟨rfl, rfl, rfl, rfl, done, by omega, rfl, rfl⟩, loop_at K _ _ t91L0.eq_1 ?_⟩
      rotate_left 6
      · simp (config := { maxSteps := 4000000 }) (disch := omega) only [go_sem]
        rfl
    · obtain ⟨c, m, e, he, h13⟩ := call125 t l i ht (by omega) hl
      rcases he with rfl | ⟨rfl, hm, hm2⟩
      · refine ⟨.ret, _, _, .iv (.int .i64 i), ?_, ?_, ?_, ?_, ?_, ?_, ?_, ?_, .inr ⟨rfl, rfl, rfl, _, rfl⟩, loop_at K _ _ t91L0.eq_1 ?_⟩
        rotate_left 8
        · simp (config := { maxSteps := 4000000 }) (disch := omega) only [go_sem, h13]
          rfl
      · obtain ⟨j, z1, z2, z3, z4, y5, y6, y7, y8, y9, y10, S', hj, ih⟩ := loop91 t l ht hl k (i + m) (done ++ [(c, i)]) (.iv (.int .i64 c)) (.iv (.int .i64 m)) i0 (.iv (.bool true)) (.iv (.bool false)) (by omega) (by omega) (by omega) (by simp; omega)
        have ha := ap_acc1 (w := 2) (b := 16) (el := 113) (t := .full) (encC_ok (c, i)) (Elems.map encC_ok done) (roomy_ok (by rw [List.length_map]; omega))
        have em : (done ++ [(c, i)]).map encC = done.map encC ++ [[.int .i64 c, .int .i64 i]] := by simp [encC]
        simp only [encC] at ha
        rw [em] at ih
        refine ⟨j, z1, z2, z3, z4, y5, y6, y7, y8, y9, y10, S', hj, loop_at K _ _ t91L0.eq_1 ?_⟩
        simp (config := { maxSteps := 4000000 }) (disch := omega) only [go_sem, h13, wrap_i64, ha]
        exact congrArg er ih
theorem call91 (t : Tag) (l : List UInt8) (ht : TagOk t l) (hl : l.length ≤ 1048576) : (∃ d : List (Int × Int), d.length ≤ l.length ∧ Pure K 91 [.iv (.sl t (bytesIV l))] (.tup [.iv (.sl (sTag d) (d.map encC)), i0, i0])) ∨ ∃ p, Pure K 91 [.iv (.sl t (bytesIV l))] (.tup [.iv (.sl .nil []), .iv (.int .i64 4), .iv (.int .i64 p)]) := by
  obtain ⟨j, z1, z2, z3, z4, y5, y6, y7, y8, y9, y10, S', hj, e⟩ := loop91 t l ht hl l.length 0 [] (.tup []) (.tup []) (.tup []) (.tup []) (.tup []) (by omega) (by omega) (by omega) (by simp)
  rw [List.map_nil, acc_nil, accS_nil] at e
  rcases hj with ⟨rfl, rfl, rfl, rfl, d, hd, rfl, rfl⟩ | ⟨rfl, rfl, rfl, p, rfl⟩
  · refine .inl ⟨d, hd, call_pure t91 rfl rfl ?_⟩
    simp (config := { maxSteps := 4000000 }) (disch := omega) only [t91, go_sem, TM.undef]
    rw [e]
    simp (config := { maxSteps := 4000000 }) (disch := omega) only [go_sem, sTag_map]
  · refine .inr ⟨p, call_pure t91 rfl rfl ?_⟩
    simp (config := { maxSteps := 4000000 }) (disch := omega) only [t91, go_sem, TM.undef]
    rw [e]
    simp (config := { maxSteps := 4000000 }) (disch := omega) only [go_sem]
theorem loop51 (x0 x1 x2 x4 x7 : TV) (g : Tag) (cs : List (Int × Int)) (hl : cs.length ≤ 1048576) : ∀ (k i : Nat) (done : List Int) (x8 : TV), i + k = cs.length → done.length ≤ i →
    ∃ y6 y8 d S', S' = accS 1 3 (one (.int .i64) d) ∧ lp' (lim K) t51L0 [x0, x1, x2, .iv (.sl g (cs.map encC)), x4, acc 0 (one (.int .i64) done), .iv (.int .i64 (i : Int)), x7, x8] (accS 1 3 (one (.int .i64) done)) = .ret (.exit 0, [x0, x1, x2, .iv (.sl g (cs.map encC)), x4, acc 0 (one (.int .i64) d), y6, x7, y8], S')
  | 0, i, done, x8, h, hd => by
    refine ⟨?_, ?_, done, _, rfl, loop_at K _ _ t51L0.eq_1 ?_⟩
    rotate_left 2
    · simp (config := { maxSteps := 4000000 }) (disch := omega) only [go_sem, List.length_map]
      rfl
  | k + 1, i, done, x8, h, hd => by
    have hix := ix_map (f := encC) (fun a => (encC_ok a).1) (t := g) (l := cs) (i := (i : Int)) (by omega)
    generalize cs.getD (i : Int).toNat default = c at *
    obtain ⟨y6, y8, d, S', hS, ih⟩ := loop51 x0 x1 x2 x4 x7 g cs hl k (i + 1) (done ++ [c.1]) (.iv (.bool true)) (by omega) (by simp; omega)
    rw [show ((i + 1 : Nat) : Int) = (i : Int) + 1 by omega] at ih
    have ha : appendOp false 1 8 3 (accS 1 3 (one (.int .i64) done)) (acc 0 (one (.int .i64) done)) (.iv (.sl .full [[.int .i64 c.1]])) = some (acc 0 (one (.int .i64) done ++ [[.int .i64 c.1]]), accS 1 3 (one (.int .i64) done ++ [[.int .i64 c.1]])) :=
      ap_acc1 (w := 1) (b := 8) (el := 3) (t := .full) (c := [.int .i64 c.1]) ⟨rfl, rfl⟩ (Elems.map (f := fun n => [IV.int .i64 n]) (fun _ => ⟨rfl, rfl⟩) done) (roomy_ok (by rw [one_length]; omega))
    have em : one (.int .i64) (done ++ [c.1]) = one (.int .i64) done ++ [[.int .i64 c.1]] := by simp [one]
    rw [em] at ih
    refine ⟨y6, y8, d, S', hS, loop_at K _ _ t51L0.eq_1 ?_⟩
    simp only [encC] at hix
    simp (config := { maxSteps := 4000000 }) (disch := omega) only [go_sem, List.length_map, hix, ao0, wrap_i64, ha]
    exact congrArg er ih
end Go.Proofs.YtookmpaholmmfaaGreatDoor
