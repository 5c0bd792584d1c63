/- The contracts of utf: Same, Text. Condition: none. -/
import Derived.Test.YtgjndmpfofhhmaaDoorUtfC3
set_option maxRecDepth 100000
set_option linter.unusedSimpArgs false
set_option linter.unusedVariables false
namespace Go.Proofs.YtgjndmpfofhhmaaDoor
open Go Go.TM
theorem loop23 (t1 t2 : Tag) (l : List Int) (hl : l.length ≤ 1000000) (r a4 : TV) : ∀ (k i : Nat) (x5 x6 : TV), i + k = l.length →
    ∃ y6, lp' (lim K) t23L0 [.iv (.sl t1 (one i64 l)), .iv (.sl t2 (one i64 l)), r, .iv (.int .i64 i), a4, x5, x6] [] = .ret (.exit 0, [.iv (.sl t1 (one i64 l)), .iv (.sl t2 (one i64 l)), r, .iv (.int .i64 l.length), a4, .iv (.bool false), y6], [])
  | 0, i, x5, x6, h => by
    obtain rfl : i = l.length := by omega
    refine ⟨?_, loop_at K _ _ t23L0.eq_1 ?_⟩
    rotate_left 1
    · simp (disch := omega) only [go_sem, Nat.reduceAdd, Nat.reduceSub, Nat.reduceMul, Nat.reduceLT, Nat.reduceLeDiff, Nat.reduceEqDiff, Nat.reduceBEq, reduceIte, reduceCtorEq, List.replicate, List.cons_append, List.nil_append, Int.reduceEq, Int.reduceLT, Int.reduceLE, Int.reduceAdd, Int.reduceSub, Int.reduceMul, Int.reduceToNat, Int.reduceNeg, Int.reduceBEq, Int.reduceBNe, Int.reduceTDiv, Int.reduceTMod, Int.reducePow, Nat.reducePow, decide_true, decide_false, Nat.reduceDiv, Nat.reduceMod, Int.reduceMod, Int.reduceDiv, Int.reduceNe, Int.reduceFDiv, Nat.reduceLeDiff, decT, decF, ifT, ifF, eqT, eqF, neT, neF, bytesIV_length, one_length, get_cp, get_cp0]
      rfl
  | k + 1, i, x5, x6, h => by
    obtain ⟨y6, ih⟩ := loop23 t1 t2 l hl r a4 k (i + 1) (.iv (.bool true)) (.iv (.bool false)) (by omega)
    refine ⟨y6, loop_at K _ _ t23L0.eq_1 ?_⟩
    simp (config := { maxSteps := 4000000 }) (disch := omega) only [go_sem, Nat.reduceAdd, Nat.reduceSub, Nat.reduceMul, Nat.reduceLT, Nat.reduceLeDiff, Nat.reduceEqDiff, Nat.reduceBEq, reduceIte, reduceCtorEq, List.replicate, List.cons_append, List.nil_append, Int.reduceEq, Int.reduceLT, Int.reduceLE, Int.reduceAdd, Int.reduceSub, Int.reduceMul, Int.reduceToNat, Int.reduceNeg, Int.reduceBEq, Int.reduceBNe, Int.reduceTDiv, Int.reduceTMod, Int.reducePow, Nat.reducePow, decide_true, decide_false, Nat.reduceDiv, Nat.reduceMod, Int.reduceMod, Int.reduceDiv, Int.reduceNe, Int.reduceFDiv, Nat.reduceLeDiff, decT, decF, ifT, ifF, eqT, eqF, neT, neF, bytesIV_length, one_length, get_cp, get_cp0, ix_one, i64, wrap_i64]
    exact congrArg er ih
theorem call23 (t1 t2 : Tag) (l : List Int) (hl : l.length ≤ 1000000) : (lim K).call 23 [.iv (.sl t1 (one i64 l)), .iv (.sl t2 (one i64 l))] [] = .ret (.iv (.bool true), []) := by
  obtain ⟨y6, e⟩ := loop23 t1 t2 l hl (.iv (.bool false)) (.iv (.bool false)) l.length 0 (.tup []) (.tup []) (by omega)
  rw [show ((0 : Nat) : Int) = 0 from rfl] at e
  refine call_ret' K [] (fn := t23) rfl rfl ?_
  simp (config := { maxSteps := 4000000 }) (disch := omega) only [t23, go_sem, Nat.reduceAdd, Nat.reduceSub, Nat.reduceMul, Nat.reduceLT, Nat.reduceLeDiff, Nat.reduceEqDiff, Nat.reduceBEq, reduceIte, reduceCtorEq, List.replicate, List.cons_append, List.nil_append, Int.reduceEq, Int.reduceLT, Int.reduceLE, Int.reduceAdd, Int.reduceSub, Int.reduceMul, Int.reduceToNat, Int.reduceNeg, Int.reduceBEq, Int.reduceBNe, Int.reduceTDiv, Int.reduceTMod, Int.reducePow, Nat.reducePow, decide_true, decide_false, Nat.reduceDiv, Nat.reduceMod, Int.reduceMod, Int.reduceDiv, Int.reduceNe, Int.reduceFDiv, Nat.reduceLeDiff, decT, decF, ifT, ifF, eqT, eqF, neT, neF, bytesIV_length, one_length, get_cp, get_cp0, e]
theorem lits (l : List UInt8) (hl : l.length ≤ 10000000) (c : List UInt8) (hc : c.length ≤ 4) : appendOp false 1 1 5 (accS 1 5 (bytesIV l)) (acc 0 (bytesIV l)) (.iv (.sl .full (bytesIV c))) = some (acc 0 (bytesIV (l ++ c)), accS 1 5 (bytesIV (l ++ c))) := by
  rw [← bytes_append]
  exact ap_acc (fun S => IsEl.sl S .full _) (Elems.bytes c) (Elems.bytes l) (roomy_ok (by rw [bytesIV_length, bytesIV_length]; omega))
theorem lit1 (x : UInt8) : [[IV.int .u8 x.toNat]] = bytesIV [x] := rfl
set_option maxHeartbeats 4000000 in
theorem call31 (l : List UInt8) (hl : l.length ≤ 10000000) (c : Int) (h : isC c = true) (h1 : 128 ≤ c) : (lim K).call 31 [acc 0 (bytesIV l), .iv (.int .i32 c)] (accS 1 5 (bytesIV l)) = .ret (acc 0 (bytesIV (l ++ bytesR c)), accS 1 5 (bytesIV (l ++ bytesR c))) := by
  have hc := (isC_iff c).1 h
  have hw : IntKind.u8.wrap c = c % 256 := wrap_u8_mod c
  have hw1 : IntKind.u8.wrap (c / 64) = c / 64 % 256 := wrap_u8_mod _
  have hw2 : IntKind.u8.wrap (c / 4096) = c / 4096 % 256 := wrap_u8_mod _
  refine call_ret' K _ (fn := t31) rfl rfl ?_
  simp only [t31, go_sem, Nat.reduceAdd, Nat.reduceSub, Nat.reduceMul, Nat.reduceLT, Nat.reduceLeDiff, Nat.reduceEqDiff, Nat.reduceBEq, reduceIte, reduceCtorEq, List.replicate, List.cons_append, List.nil_append, Int.reduceEq, Int.reduceLT, Int.reduceLE, Int.reduceAdd, Int.reduceSub, Int.reduceMul, Int.reduceToNat, Int.reduceNeg, Int.reduceBEq, Int.reduceBNe, Int.reduceTDiv, Int.reduceTMod, Int.reducePow, Nat.reducePow, decide_true, decide_false, Nat.reduceDiv, Nat.reduceMod, Int.reduceMod, Int.reduceDiv, Int.reduceNe, Int.reduceFDiv, Nat.reduceLeDiff]
  by_cases h2 : c < 2048
  · have e := lits l hl [UInt8.ofNat (192 + c.toNat / 64), UInt8.ofNat (128 + c.toNat % 64)] (by simp)
    have e2 : bytesIV [UInt8.ofNat (192 + c.toNat / 64), UInt8.ofNat (128 + c.toNat % 64)] = [[.int .u8 (192 + c / 64)], [.int .u8 (128 + c % 256 % 64)]] := by
      simp only [bytesIV, List.map_cons, List.map_nil]; rw [nat8 (by omega), nat8 (by omega)]; congr 4 <;> omega
    rw [e2] at e
    simp (config := { maxSteps := 4000000 }) (disch := omega) only [go_sem, Nat.reduceAdd, Nat.reduceSub, Nat.reduceMul, Nat.reduceLT, Nat.reduceLeDiff, Nat.reduceEqDiff, Nat.reduceBEq, reduceIte, reduceCtorEq, List.replicate, List.cons_append, List.nil_append, Int.reduceEq, Int.reduceLT, Int.reduceLE, Int.reduceAdd, Int.reduceSub, Int.reduceMul, Int.reduceToNat, Int.reduceNeg, Int.reduceBEq, Int.reduceBNe, Int.reduceTDiv, Int.reduceTMod, Int.reducePow, Nat.reducePow, decide_true, decide_false, Nat.reduceDiv, Nat.reduceMod, Int.reduceMod, Int.reduceDiv, Int.reduceNe, Int.reduceFDiv, Nat.reduceLeDiff, decT, decF, ifT, ifF, eqT, eqF, neT, neF, bytesIV_length, one_length, get_cp, get_cp0, wrap_u32, Int.fdiv_eq_ediv_of_nonneg, wrap_u8, hw, tu8_and63, tu8_or5, tu8_or6, e, bytes_2]
  · by_cases h3 : c < 65536
    · have e := lits l hl [UInt8.ofNat (224 + c.toNat / 4096), UInt8.ofNat (128 + c.toNat / 64 % 64), UInt8.ofNat (128 + c.toNat % 64)] (by simp)
      have e2 : bytesIV [UInt8.ofNat (224 + c.toNat / 4096), UInt8.ofNat (128 + c.toNat / 64 % 64), UInt8.ofNat (128 + c.toNat % 64)] = [[.int .u8 (224 + c / 4096)], [.int .u8 (128 + c / 64 % 256 % 64)], [.int .u8 (128 + c % 256 % 64)]] := by
        simp only [bytesIV, List.map_cons, List.map_nil]; rw [nat8 (by omega), nat8 (by omega), nat8 (by omega), show ((224 + c.toNat / 4096 : Nat) : Int) = 224 + c / 4096 by omega, show ((128 + c.toNat / 64 % 64 : Nat) : Int) = 128 + c / 64 % 256 % 64 by omega, show ((128 + c.toNat % 64 : Nat) : Int) = 128 + c % 256 % 64 by omega]
      rw [e2] at e
      by_cases h4 : c < 55296
      · simp (config := { maxSteps := 4000000 }) (disch := omega) only [go_sem, Nat.reduceAdd, Nat.reduceSub, Nat.reduceMul, Nat.reduceLT, Nat.reduceLeDiff, Nat.reduceEqDiff, Nat.reduceBEq, reduceIte, reduceCtorEq, List.replicate, List.cons_append, List.nil_append, Int.reduceEq, Int.reduceLT, Int.reduceLE, Int.reduceAdd, Int.reduceSub, Int.reduceMul, Int.reduceToNat, Int.reduceNeg, Int.reduceBEq, Int.reduceBNe, Int.reduceTDiv, Int.reduceTMod, Int.reducePow, Nat.reducePow, decide_true, decide_false, Nat.reduceDiv, Nat.reduceMod, Int.reduceMod, Int.reduceDiv, Int.reduceNe, Int.reduceFDiv, Nat.reduceLeDiff, decT, decF, ifT, ifF, eqT, eqF, neT, neF, bytesIV_length, one_length, get_cp, get_cp0, wrap_u32, Int.fdiv_eq_ediv_of_nonneg, wrap_u8, hw, hw1, tu8_and63, tu8_or4, tu8_or6, e, bytes_3]
      · simp (config := { maxSteps := 4000000 }) (disch := omega) only [go_sem, Nat.reduceAdd, Nat.reduceSub, Nat.reduceMul, Nat.reduceLT, Nat.reduceLeDiff, Nat.reduceEqDiff, Nat.reduceBEq, reduceIte, reduceCtorEq, List.replicate, List.cons_append, List.nil_append, Int.reduceEq, Int.reduceLT, Int.reduceLE, Int.reduceAdd, Int.reduceSub, Int.reduceMul, Int.reduceToNat, Int.reduceNeg, Int.reduceBEq, Int.reduceBNe, Int.reduceTDiv, Int.reduceTMod, Int.reducePow, Nat.reducePow, decide_true, decide_false, Nat.reduceDiv, Nat.reduceMod, Int.reduceMod, Int.reduceDiv, Int.reduceNe, Int.reduceFDiv, Nat.reduceLeDiff, decT, decF, ifT, ifF, eqT, eqF, neT, neF, bytesIV_length, one_length, get_cp, get_cp0, wrap_u32, Int.fdiv_eq_ediv_of_nonneg, wrap_u8, hw, hw1, tu8_and63, tu8_or4, tu8_or6, e, bytes_3]
    · have e := lits l hl [UInt8.ofNat (240 + c.toNat / 262144), UInt8.ofNat (128 + c.toNat / 4096 % 64), UInt8.ofNat (128 + c.toNat / 64 % 64), UInt8.ofNat (128 + c.toNat % 64)] (by simp)
      have e2 : bytesIV [UInt8.ofNat (240 + c.toNat / 262144), UInt8.ofNat (128 + c.toNat / 4096 % 64), UInt8.ofNat (128 + c.toNat / 64 % 64), UInt8.ofNat (128 + c.toNat % 64)] = [[.int .u8 (240 + c / 262144)], [.int .u8 (128 + c / 4096 % 256 % 64)], [.int .u8 (128 + c / 64 % 256 % 64)], [.int .u8 (128 + c % 256 % 64)]] := by
        simp only [bytesIV, List.map_cons, List.map_nil]; rw [nat8 (by omega), nat8 (by omega), nat8 (by omega), nat8 (by omega), show ((240 + c.toNat / 262144 : Nat) : Int) = 240 + c / 262144 by omega, show ((128 + c.toNat / 4096 % 64 : Nat) : Int) = 128 + c / 4096 % 256 % 64 by omega, show ((128 + c.toNat / 64 % 64 : Nat) : Int) = 128 + c / 64 % 256 % 64 by omega, show ((128 + c.toNat % 64 : Nat) : Int) = 128 + c % 256 % 64 by omega]
      rw [e2] at e
      simp (config := { maxSteps := 4000000 }) (disch := omega) only [go_sem, Nat.reduceAdd, Nat.reduceSub, Nat.reduceMul, Nat.reduceLT, Nat.reduceLeDiff, Nat.reduceEqDiff, Nat.reduceBEq, reduceIte, reduceCtorEq, List.replicate, List.cons_append, List.nil_append, Int.reduceEq, Int.reduceLT, Int.reduceLE, Int.reduceAdd, Int.reduceSub, Int.reduceMul, Int.reduceToNat, Int.reduceNeg, Int.reduceBEq, Int.reduceBNe, Int.reduceTDiv, Int.reduceTMod, Int.reducePow, Nat.reducePow, decide_true, decide_false, Nat.reduceDiv, Nat.reduceMod, Int.reduceMod, Int.reduceDiv, Int.reduceNe, Int.reduceFDiv, Nat.reduceLeDiff, decT, decF, ifT, ifF, eqT, eqF, neT, neF, bytesIV_length, one_length, get_cp, get_cp0, wrap_u32, Int.fdiv_eq_ediv_of_nonneg, wrap_u8, hw, hw1, hw2, tu8_and63, tu8_or3, tu8_or6, e, bytes_4]
set_option maxHeartbeats 4000000 in
theorem call29 (l : List UInt8) (hl : l.length ≤ 10000000) (c : Int) (h : isC c = true) : (lim K).call 29 [acc 0 (bytesIV l), .iv (.int .i32 c)] (accS 1 5 (bytesIV l)) = .ret (acc 0 (bytesIV (l ++ bytesR c)), accS 1 5 (bytesIV (l ++ bytesR c))) := by
  have hc := (isC_iff c).1 h
  refine call_ret' K _ (fn := t29) rfl rfl ?_
  by_cases h1 : c < 128
  · have e := lits l hl [UInt8.ofNat c.toNat] (by simp)
    have e2 : bytesIV [UInt8.ofNat c.toNat] = [[.int .u8 c]] := by
      simp only [bytesIV, List.map_cons, List.map_nil]; rw [nat8 (by omega)]; congr 4; omega
    rw [e2] at e
    simp (config := { maxSteps := 4000000 }) (disch := omega) only [t29, go_sem, Nat.reduceAdd, Nat.reduceSub, Nat.reduceMul, Nat.reduceLT, Nat.reduceLeDiff, Nat.reduceEqDiff, Nat.reduceBEq, reduceIte, reduceCtorEq, List.replicate, List.cons_append, List.nil_append, Int.reduceEq, Int.reduceLT, Int.reduceLE, Int.reduceAdd, Int.reduceSub, Int.reduceMul, Int.reduceToNat, Int.reduceNeg, Int.reduceBEq, Int.reduceBNe, Int.reduceTDiv, Int.reduceTMod, Int.reducePow, Nat.reducePow, decide_true, decide_false, Nat.reduceDiv, Nat.reduceMod, Int.reduceMod, Int.reduceDiv, Int.reduceNe, Int.reduceFDiv, Nat.reduceLeDiff, decT, decF, ifT, ifF, eqT, eqF, neT, neF, bytesIV_length, one_length, get_cp, get_cp0, wrap_u32, wrap_u8, e, bytes_1]
  · simp (config := { maxSteps := 4000000 }) (disch := omega) only [t29, go_sem, Nat.reduceAdd, Nat.reduceSub, Nat.reduceMul, Nat.reduceLT, Nat.reduceLeDiff, Nat.reduceEqDiff, Nat.reduceBEq, reduceIte, reduceCtorEq, List.replicate, List.cons_append, List.nil_append, Int.reduceEq, Int.reduceLT, Int.reduceLE, Int.reduceAdd, Int.reduceSub, Int.reduceMul, Int.reduceToNat, Int.reduceNeg, Int.reduceBEq, Int.reduceBNe, Int.reduceTDiv, Int.reduceTMod, Int.reducePow, Nat.reducePow, decide_true, decide_false, Nat.reduceDiv, Nat.reduceMod, Int.reduceMod, Int.reduceDiv, Int.reduceNe, Int.reduceFDiv, Nat.reduceLeDiff, decT, decF, ifT, ifF, eqT, eqF, neT, neF, bytesIV_length, one_length, get_cp, get_cp0, wrap_u32, call31 l hl c h (by omega)]
end Go.Proofs.YtgjndmpfofhhmaaDoor
