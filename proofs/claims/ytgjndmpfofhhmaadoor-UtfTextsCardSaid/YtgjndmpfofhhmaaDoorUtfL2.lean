/- UtfTexts: the evaluator answers true. Condition: none. -/
import Derived.Test.YtgjndmpfofhhmaaDoorUtfC5
set_option maxRecDepth 100000
set_option linter.unusedSimpArgs false
set_option linter.unusedVariables false
namespace Go.Proofs.YtgjndmpfofhhmaaDoor
open Go Go.TM
set_option maxHeartbeats 4000000 in
theorem loop6 (t : Tag) (cs : List (Int × Int)) (hl : cs.length ≤ 1000000) (a0 a1 a2 a4 a6 a7 a9 a10 a11 a12 a13 a14 a15 a16 a17 : TV) (S : Store) : ∀ (k i : Nat) (x18 x19 : TV), i + k = cs.length →
    ∃ y18 y19, lp' (lim K) t6L0 [a0, a1, a2, .iv (.sl t (cs.map encC)), a4, .iv (.sl t (cs.map encC)), a6, a7, .iv (.int .i64 i), a9, a10, a11, a12, a13, a14, a15, a16, a17, x18, x19] S = .ret (.exit 0, [a0, a1, a2, .iv (.sl t (cs.map encC)), a4, .iv (.sl t (cs.map encC)), a6, a7, .iv (.int .i64 cs.length), a9, a10, a11, a12, a13, a14, a15, a16, a17, y18, y19], S)
  | 0, i, x18, x19, h => by
    obtain rfl : i = cs.length := by omega
    refine ⟨?_, ?_, loop_at K _ _ t6L0.eq_1 ?_⟩
    rotate_left 2
    · simp (disch := omega) only [go_sem, Nat.reduceAdd, Nat.reduceSub, Nat.reduceMul, Nat.reduceLT, Nat.reduceLeDiff, Nat.reduceEqDiff, Nat.reduceBEq, reduceIte, reduceCtorEq, List.replicate, List.cons_append, List.nil_append, Int.reduceEq, Int.reduceLT, Int.reduceLE, Int.reduceAdd, Int.reduceSub, Int.reduceMul, Int.reduceToNat, Int.reduceNeg, Int.reduceBEq, Int.reduceBNe, Int.reduceTDiv, Int.reduceTMod, Int.reducePow, Nat.reducePow, decide_true, decide_false, Nat.reduceDiv, Nat.reduceMod, Int.reduceMod, Int.reduceDiv, Int.reduceNe, Int.reduceFDiv, Nat.reduceLeDiff, decT, decF, ifT, ifF, eqT, eqF, neT, neF, bytesIV_length, one_length, get_cp, get_cp0, List.length_map]
      rfl
  | k + 1, i, x18, x19, h => by
    obtain ⟨y18, y19, ih⟩ := loop6 t cs hl a0 a1 a2 a4 a6 a7 a9 a10 a11 a12 a13 a14 a15 a16 a17 S k (i + 1) (.iv (.bool true)) (.iv (.bool false)) (by omega)
    have hg := ix_map (w := 2) (f := encC) (fun _ => rfl) (t := t) (l := cs) (i := (i : Int)) (by omega)
    generalize cs.getD (i : Int).toNat default = c at *
    have hz : addOff (.iv (.cp (encC c))) 0 = some (.iv (.cp [.int .i64 c.1, .int .i64 c.2])) := rfl
    have hz1 : addOff (.iv (.cp (encC c))) 1 = some (.iv (.cp [.int .i64 c.2])) := rfl
    refine ⟨y18, y19, loop_at K _ _ t6L0.eq_1 ?_⟩
    simp (config := { maxSteps := 4000000 }) (disch := omega) only [go_sem, Nat.reduceAdd, Nat.reduceSub, Nat.reduceMul, Nat.reduceLT, Nat.reduceLeDiff, Nat.reduceEqDiff, Nat.reduceBEq, reduceIte, reduceCtorEq, List.replicate, List.cons_append, List.nil_append, Int.reduceEq, Int.reduceLT, Int.reduceLE, Int.reduceAdd, Int.reduceSub, Int.reduceMul, Int.reduceToNat, Int.reduceNeg, Int.reduceBEq, Int.reduceBNe, Int.reduceTDiv, Int.reduceTMod, Int.reducePow, Nat.reducePow, decide_true, decide_false, Nat.reduceDiv, Nat.reduceMod, Int.reduceMod, Int.reduceDiv, Int.reduceNe, Int.reduceFDiv, Nat.reduceLeDiff, decT, decF, ifT, ifF, eqT, eqF, neT, neF, bytesIV_length, one_length, get_cp, get_cp0, List.length_map, hg, hz, hz1, wrap_i64]
    exact congrArg er ih
set_option maxHeartbeats 8000000 in
theorem law6 (t1 : Tag) (b : List UInt8) (ht1 : TagOk t1 b) (hl1 : b.length ≤ 9223372036854775807) (t2 : Tag) (l : List Int) (ht2 : TagOk t2 l) (hr2 : ∀ a ∈ l, (-9223372036854775808 : Int) ≤ a ∧ a ≤ 9223372036854775807) (hl2 : l.length ≤ 9223372036854775807) : ((lim K).call 6 [.iv (.sl t1 (bytesIV b)), .iv (.sl t2 (one i64 l))] []).All fun r => r.1 = .iv (.bool true) := by
  obtain ⟨t1', ht1', h9⟩ := call9 b t1 ht1
  have hB : (b.take 2000).length ≤ 1000000 := by simp; omega
  generalize b.take 2000 = B at *
  obtain ⟨t2', hsl⟩ : ∃ t2', ∀ n : Int, (n = if (2000 : Int) < l.length then 2000 else (l.length : Int)) → sliceOp [] (.sl 1) (.iv (.sl t2 (one i64 l))) none (some n) none = some (.iv (.sl t2' (one i64 (l.take 2000)))) := by
    by_cases h : (2000 : Int) < l.length
    · refine ⟨cutTag t2 l.length 2000, fun n hn => ?_⟩
      rw [if_pos h] at hn; subst hn
      exact slice_one_hi [] ht2 (by omega)
    · refine ⟨cutTag t2 l.length l.length, fun n hn => ?_⟩
      rw [if_neg h] at hn; subst hn
      rw [slice_one_hi [] ht2 (by omega), Int.toNat_natCast, List.take_of_length_le (Nat.le_refl _)]
      rw [List.take_of_length_le (by omega)]
  have hsl' := hsl _ rfl
  have hL : (l.take 2000).length ≤ 1000000 := by simp; omega
  generalize l.take 2000 = L at *
  have h17 := call17 t1' B ht1' hB
  have h18 := call18 t1' B ht1' hB
  have h19 := call19 B hB
  have h20 := call20 B hB
  have h21 := call21 t2' L hL
  have h22 := call22 t2' L hL
  have hcl := chars_len B hB
  generalize chars B.length B 0 = q at *
  obtain ⟨q1, q2⟩ := q
  refine call_all' K [] (fn := t6) rfl rfl ?_
  have htv : textV L = .tup [.iv (.str (if allC L then cat L else [])), .iv (.int .i64 (if allC L then 0 else 2))] := by
    unfold textV; cases allC L <;> rfl
  rw [htv] at h21 h22
  cases q2 with
  | none =>
    simp only at h17 h18 h19 h20 hcl
    have h23 := call23 (sTag q1) (sTag q1) (codes q1) (by simp [codes]; omega)
    simp (config := { maxSteps := 4000000 }) (disch := omega) only [t6, go_sem, Nat.reduceAdd, Nat.reduceSub, Nat.reduceMul, Nat.reduceLT, Nat.reduceLeDiff, Nat.reduceEqDiff, Nat.reduceBEq, reduceIte, reduceCtorEq, List.replicate, List.cons_append, List.nil_append, Int.reduceEq, Int.reduceLT, Int.reduceLE, Int.reduceAdd, Int.reduceSub, Int.reduceMul, Int.reduceToNat, Int.reduceNeg, Int.reduceBEq, Int.reduceBNe, Int.reduceTDiv, Int.reduceTMod, Int.reducePow, Nat.reducePow, decide_true, decide_false, Nat.reduceDiv, Nat.reduceMod, Int.reduceMod, Int.reduceDiv, Int.reduceNe, Int.reduceFDiv, Nat.reduceLeDiff, decT, decF, ifT, ifF, eqT, eqF, neT, neF, bytesIV_length, one_length, get_cp, get_cp0, h9, minmax, min2, hsl', cpR_pure h17, cpR_pure h18, List.length_map]
    obtain ⟨y18, y19, e⟩ := loop6 (sTag q1) q1 hcl (.iv (.sl t1' (bytesIV B))) (.iv (.sl t2' (one i64 L))) (.iv (.bool false)) (.lb [.iv (.int .i64 0), .iv (.int .i64 0)]) (.iv (.int .i64 0)) (.iv (.int .i64 0)) (.tup []) (.tup []) (.tup []) (.tup []) (.tup []) (.tup []) (.tup []) (.tup []) (.iv (.bool false)) [] q1.length 0 (.tup []) (.tup []) (by omega)
    rw [show ((0 : Nat) : Int) = 0 from rfl] at e
    simp (config := { maxSteps := 4000000 }) (disch := omega) only [go_sem, Nat.reduceAdd, Nat.reduceSub, Nat.reduceMul, Nat.reduceLT, Nat.reduceLeDiff, Nat.reduceEqDiff, Nat.reduceBEq, reduceIte, reduceCtorEq, List.replicate, List.cons_append, List.nil_append, Int.reduceEq, Int.reduceLT, Int.reduceLE, Int.reduceAdd, Int.reduceSub, Int.reduceMul, Int.reduceToNat, Int.reduceNeg, Int.reduceBEq, Int.reduceBNe, Int.reduceTDiv, Int.reduceTMod, Int.reducePow, Nat.reducePow, decide_true, decide_false, Nat.reduceDiv, Nat.reduceMod, Int.reduceMod, Int.reduceDiv, Int.reduceNe, Int.reduceFDiv, Nat.reduceLeDiff, decT, decF, ifT, ifF, eqT, eqF, neT, neF, bytesIV_length, one_length, get_cp, get_cp0, e, cpR_pure h19, cpR_pure h20, cpR_pure h21, cpR_pure h22, h23, beq_self_eq_true, works, Out.All]
  | some p =>
    simp only at h17 h18 h19 h20 hcl
    have h23 : (lim K).call 23 [.iv (.sl .nil []), .iv (.sl .nil [])] [] = .ret (.iv (.bool true), []) := call23 .nil .nil [] (by simp)
    simp (config := { maxSteps := 4000000 }) (disch := omega) only [t6, go_sem, Nat.reduceAdd, Nat.reduceSub, Nat.reduceMul, Nat.reduceLT, Nat.reduceLeDiff, Nat.reduceEqDiff, Nat.reduceBEq, reduceIte, reduceCtorEq, List.replicate, List.cons_append, List.nil_append, Int.reduceEq, Int.reduceLT, Int.reduceLE, Int.reduceAdd, Int.reduceSub, Int.reduceMul, Int.reduceToNat, Int.reduceNeg, Int.reduceBEq, Int.reduceBNe, Int.reduceTDiv, Int.reduceTMod, Int.reducePow, Nat.reducePow, decide_true, decide_false, Nat.reduceDiv, Nat.reduceMod, Int.reduceMod, Int.reduceDiv, Int.reduceNe, Int.reduceFDiv, Nat.reduceLeDiff, decT, decF, ifT, ifF, eqT, eqF, neT, neF, bytesIV_length, one_length, get_cp, get_cp0, h9, minmax, min2, hsl', cpR_pure h17, cpR_pure h18, List.length_map]
    obtain ⟨y18, y19, e⟩ := loop6 .nil [] (by simp) (.iv (.sl t1' (bytesIV B))) (.iv (.sl t2' (one i64 L))) (.iv (.bool false)) (.lb [.iv (.int .i64 4), .iv (.int .i64 p)]) (.iv (.int .i64 4)) (.iv (.int .i64 p)) (.tup []) (.tup []) (.tup []) (.tup []) (.tup []) (.tup []) (.tup []) (.tup []) (.iv (.bool false)) [] 0 0 (.tup []) (.tup []) (by simp)
    rw [show ((0 : Nat) : Int) = 0 from rfl, List.map_nil] at e
    simp (config := { maxSteps := 4000000 }) (disch := omega) only [go_sem, Nat.reduceAdd, Nat.reduceSub, Nat.reduceMul, Nat.reduceLT, Nat.reduceLeDiff, Nat.reduceEqDiff, Nat.reduceBEq, reduceIte, reduceCtorEq, List.replicate, List.cons_append, List.nil_append, Int.reduceEq, Int.reduceLT, Int.reduceLE, Int.reduceAdd, Int.reduceSub, Int.reduceMul, Int.reduceToNat, Int.reduceNeg, Int.reduceBEq, Int.reduceBNe, Int.reduceTDiv, Int.reduceTMod, Int.reducePow, Nat.reducePow, decide_true, decide_false, Nat.reduceDiv, Nat.reduceMod, Int.reduceMod, Int.reduceDiv, Int.reduceNe, Int.reduceFDiv, Nat.reduceLeDiff, decT, decF, ifT, ifF, eqT, eqF, neT, neF, bytesIV_length, one_length, get_cp, get_cp0, e, cpR_pure h19, cpR_pure h20, cpR_pure h21, cpR_pure h22, h23, beq_self_eq_true, works, Out.All]
end Go.Proofs.YtgjndmpfofhhmaaDoor
