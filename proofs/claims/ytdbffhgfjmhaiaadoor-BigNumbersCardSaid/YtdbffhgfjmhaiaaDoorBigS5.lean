/- The contract of strconv.Itoa, of numbers below 10000. Condition: none. -/
import Derived.Test.YtdbffhgfjmhaiaaDoorBigS4
set_option maxRecDepth 100000
set_option maxHeartbeats 2000000
set_option linter.unusedSimpArgs false
set_option linter.unusedVariables false
namespace Go.Proofs.YtdbffhgfjmhaiaaDoor
open Go Go.TM
def dg36 : List UInt8 := [48, 49, 50, 51, 52, 53, 54, 55, 56, 57, 97, 98, 99, 100, 101, 102, 103, 104, 105, 106, 107, 108, 109, 110, 111, 112, 113, 114, 115, 116, 117, 118, 119, 120, 121, 122]
theorem dg36_a : (List.range 10).all (fun k => (dg36.drop k).take 1 == [UInt8.ofNat (48 + k)]) = true := by decide
theorem sm_b : (List.range 100).all (fun k => (sm100.drop (2 * k)).take 2 == [UInt8.ofNat (48 + k / 10), UInt8.ofNat (48 + k % 10)]) = true := by decide
theorem slice_strX (S : Store) (s : List UInt8) {a n : Int} (h : 0 ≤ a ∧ a ≤ n ∧ n ≤ s.length) : sliceOp S .str (.iv (.str s)) (some a) (some n) none = some (.iv (.str ((s.drop a.toNat).take (n.toNat - a.toNat)))) := by
  have hb := bounds_sub (len := s.length) (cap := s.length) (a := a) (n := n) (by omega)
  simp only [sliceOp, hb]
theorem sl_dg (S : Store) {n : Int} (h : 0 ≤ n ∧ n ≤ 9) : sliceOp S .str (.iv (.str [48, 49, 50, 51, 52, 53, 54, 55, 56, 57, 97, 98, 99, 100, 101, 102, 103, 104, 105, 106, 107, 108, 109, 110, 111, 112, 113, 114, 115, 116, 117, 118, 119, 120, 121, 122])) (some n) (some (n + 1)) none = some (.iv (.str [d8 n])) := by
  have h2 := slice_strX S dg36 (a := n) (n := n + 1) (by have : dg36.length = 36 := rfl; omega)
  obtain ⟨k, rfl⟩ : ∃ k : Nat, n = k := ⟨n.toNat, by omega⟩
  have h1 := List.all_eq_true.1 dg36_a k (by rw [List.mem_range]; omega)
  simp only [beq_iff_eq] at h1
  rw [Int.toNat_natCast, show ((k : Int) + 1).toNat - k = 1 by omega, h1] at h2
  exact h2
theorem sl_sm (S : Store) {n : Int} (h : 0 ≤ n ∧ n ≤ 99) : sliceOp S .str (.iv (.str [48, 48, 48, 49, 48, 50, 48, 51, 48, 52, 48, 53, 48, 54, 48, 55, 48, 56, 48, 57, 49, 48, 49, 49, 49, 50, 49, 51, 49, 52, 49, 53, 49, 54, 49, 55, 49, 56, 49, 57, 50, 48, 50, 49, 50, 50, 50, 51, 50, 52, 50, 53, 50, 54, 50, 55, 50, 56, 50, 57, 51, 48, 51, 49, 51, 50, 51, 51, 51, 52, 51, 53, 51, 54, 51, 55, 51, 56, 51, 57, 52, 48, 52, 49, 52, 50, 52, 51, 52, 52, 52, 53, 52, 54, 52, 55, 52, 56, 52, 57, 53, 48, 53, 49, 53, 50, 53, 51, 53, 52, 53, 53, 53, 54, 53, 55, 53, 56, 53, 57, 54, 48, 54, 49, 54, 50, 54, 51, 54, 52, 54, 53, 54, 54, 54, 55, 54, 56, 54, 57, 55, 48, 55, 49, 55, 50, 55, 51, 55, 52, 55, 53, 55, 54, 55, 55, 55, 56, 55, 57, 56, 48, 56, 49, 56, 50, 56, 51, 56, 52, 56, 53, 56, 54, 56, 55, 56, 56, 56, 57, 57, 48, 57, 49, 57, 50, 57, 51, 57, 52, 57, 53, 57, 54, 57, 55, 57, 56, 57, 57])) (some (n * 2)) (some (n * 2 + 2)) none = some (.iv (.str [d8 (n / 10), d8 (n % 10)])) := by
  have h2 := slice_strX S sm100 (a := n * 2) (n := n * 2 + 2) (by have : sm100.length = 200 := rfl; omega)
  obtain ⟨k, rfl⟩ : ∃ k : Nat, n = k := ⟨n.toNat, by omega⟩
  have h1 := List.all_eq_true.1 sm_b k (by rw [List.mem_range]; omega)
  simp only [beq_iff_eq] at h1
  rw [show ((k : Int) * 2 + 2).toNat - ((k : Int) * 2).toNat = 2 by omega, show ((k : Int) * 2).toNat = 2 * k by omega, h1] at h2
  refine h2.trans ?_
  simp only [d8]
  rw [show ((k : Int) / 10).toNat = k / 10 by omega, show ((k : Int) % 10).toNat = k % 10 by omega]
theorem call93 (n : Int) (h : 0 ≤ n ∧ n ≤ 99) : Pure K 93 [.iv (.int .i64 n)] (.iv (.str (if n < 10 then [d8 n] else [d8 (n / 10), d8 (n % 10)]))) := by
  refine call_pure t93 rfl rfl ?_
  by_cases h10 : n < 10
  · rw [if_pos h10]
    have hs := fun S => sl_dg S (n := n) (by omega)
    simp (config := { maxSteps := 4000000 }) (disch := omega) only [t93, go_sem, Nat.reduceAdd, Nat.reduceSub, Nat.reduceLT, Nat.reduceLeDiff, Nat.reduceEqDiff, Nat.reduceBEq, reduceIte, reduceCtorEq, Int.reduceEq, Int.reduceLT, Int.reduceLE, Int.reduceAdd, Int.reduceSub, Int.reduceMul, Int.reduceToNat, Int.reduceNeg, Int.reduceBEq, Int.reducePow, Nat.reducePow, hs, wrap_i64, resB_ret, resO_some]
    try rfl
  · rw [if_neg h10]
    have hs := fun S => sl_sm S (n := n) (by omega)
    simp (config := { maxSteps := 4000000 }) (disch := omega) only [t93, go_sem, Nat.reduceAdd, Nat.reduceSub, Nat.reduceLT, Nat.reduceLeDiff, Nat.reduceEqDiff, Nat.reduceBEq, reduceIte, reduceCtorEq, Int.reduceEq, Int.reduceLT, Int.reduceLE, Int.reduceAdd, Int.reduceSub, Int.reduceMul, Int.reduceToNat, Int.reduceNeg, Int.reduceBEq, Int.reducePow, Nat.reducePow, hs, wrap_i64, resB_ret, resO_some]
    try rfl
def itoa (n : Int) : List UInt8 := if n < 100 then (if n < 10 then [d8 n] else [d8 (n / 10), d8 (n % 10)]) else if n < 1000 then [d8 (n / 100), d8 (n / 10 % 10), d8 (n % 10)] else [d8 (n / 1000), d8 (n / 100 % 10), d8 (n / 10 % 10), d8 (n % 10)]
theorem call83 (n : Int) (h : 0 ≤ n ∧ n ≤ 9999) : Pure K 83 [.iv (.int .i64 n), .iv (.int .i64 10)] (.iv (.str (itoa n))) := by
  unfold itoa
  by_cases h1 : n < 100
  · rw [if_pos h1]
    have h93 := call93 n (by omega)
    refine call_pure t83 rfl rfl ?_
    generalize (if n < 10 then [d8 n] else [d8 (n / 10), d8 (n % 10)]) = s at *
    simp (config := { maxSteps := 4000000 }) (disch := omega) only [t83, go_sem, Nat.reduceAdd, Nat.reduceSub, Nat.reduceLT, Nat.reduceLeDiff, Nat.reduceEqDiff, Nat.reduceBEq, reduceIte, reduceCtorEq, Int.reduceEq, Int.reduceLT, Int.reduceLE, Int.reduceAdd, Int.reduceSub, Int.reduceMul, Int.reduceToNat, Int.reduceNeg, Int.reduceBEq, Int.reducePow, Nat.reducePow, cpR_pure h93, wrap_i64, resB_ret, resO_some]
    try rfl
  · rw [if_neg h1]
    by_cases h2 : n < 1000
    · rw [if_pos h2]; exact call83_3 n (by omega)
    · rw [if_neg h2]; exact call83_4 n (by omega)
theorem call68 (n : Int) (h : 0 ≤ n ∧ n ≤ 9999) : Pure K 68 [.iv (.int .i64 n)] (.iv (.str (itoa n))) := by
  have h83 := call83 n h
  refine call_pure t68 rfl rfl ?_
  generalize itoa n = s at *
  simp (config := { maxSteps := 4000000 }) (disch := omega) only [t68, go_sem, Nat.reduceAdd, Nat.reduceSub, Nat.reduceLT, Nat.reduceLeDiff, Nat.reduceEqDiff, Nat.reduceBEq, reduceIte, reduceCtorEq, Int.reduceEq, Int.reduceLT, Int.reduceLE, Int.reduceAdd, Int.reduceSub, Int.reduceMul, Int.reduceToNat, Int.reduceNeg, Int.reduceBEq, Int.reducePow, Nat.reducePow, cpR_pure h83, wrap_i64, resB_ret, resO_some]
  try rfl
theorem call46 (n : Int) (h : 0 ≤ n ∧ n ≤ 9999) : Pure K 46 [.iv (.int .i64 n)] (.iv (.str (itoa n))) := by
  have h68 := call68 n h
  refine call_pure t46 rfl rfl ?_
  generalize itoa n = s at *
  simp (config := { maxSteps := 4000000 }) (disch := omega) only [t46, go_sem, Nat.reduceAdd, Nat.reduceSub, Nat.reduceLT, Nat.reduceLeDiff, Nat.reduceEqDiff, Nat.reduceBEq, reduceIte, reduceCtorEq, Int.reduceEq, Int.reduceLT, Int.reduceLE, Int.reduceAdd, Int.reduceSub, Int.reduceMul, Int.reduceToNat, Int.reduceNeg, Int.reduceBEq, Int.reducePow, Nat.reducePow, cpR_pure h68, wrap_i64, resB_ret, resO_some]
  try rfl
end Go.Proofs.YtdbffhgfjmhaiaaDoor
