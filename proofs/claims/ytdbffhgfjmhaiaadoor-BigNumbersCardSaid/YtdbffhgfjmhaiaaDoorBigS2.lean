/- The contracts of strconv.Itoa: how many digits. Condition: none. -/
import Derived.Test.YtdbffhgfjmhaiaaDoorBigS1
set_option maxRecDepth 100000
set_option maxHeartbeats 2000000
set_option linter.unusedSimpArgs false
set_option linter.unusedVariables false
namespace Go.Proofs.YtdbffhgfjmhaiaaDoor
open Go Go.TM
theorem call103 (l : Int) (h : 0 ≤ l ∧ l ≤ 100) : (lim K).call 103 [.iv (.int .i64 l)] [] = .ret (.iv (.int .i64 (l * 78913 / 262144)), []) := by
  refine call_ret' K [] (fn := t103) rfl rfl ?_
  have e : (l * 78913).fdiv 262144 = l * 78913 / 262144 := Int.fdiv_eq_ediv_of_nonneg _ (by decide)
  simp (config := { maxSteps := 4000000 }) (disch := omega) only [t103, go_sem, Nat.reduceAdd, Nat.reduceSub, Nat.reduceLT, Nat.reduceLeDiff, Nat.reduceEqDiff, Nat.reduceBEq, reduceIte, reduceCtorEq, Int.reduceEq, Int.reduceLT, Int.reduceLE, Int.reduceAdd, Int.reduceSub, Int.reduceMul, Int.reduceToNat, Int.reduceNeg, Int.reduceBEq, Int.reducePow, Nat.reducePow, wrap_i64, e]
theorem call105 (b : Bool) : (lim K).call 105 [.iv (.bool b)] [] = .ret (.iv (.int .i64 (if b then 1 else 0)), []) := by
  refine call_ret' K [] (fn := t105) rfl rfl ?_
  cases b <;> simp (config := { maxSteps := 4000000 }) (disch := omega) only [t105, go_sem, Nat.reduceAdd, Nat.reduceSub, Nat.reduceLT, Nat.reduceLeDiff, Nat.reduceEqDiff, Nat.reduceBEq, reduceIte, reduceCtorEq, Int.reduceEq, Int.reduceLT, Int.reduceLE, Int.reduceAdd, Int.reduceSub, Int.reduceMul, Int.reduceToNat, Int.reduceNeg, Int.reduceBEq, Int.reducePow, Nat.reducePow, if_true, Bool.false_eq_true, if_false]
theorem gl (k : Nat) (v : Int) (h : g2[k]? = some (.int .u64 v)) (hk : k ≤ 20) : ∃ p, addOff (globV (K.glob 2)) k = some p ∧ ∀ env S, getCells env S p 1 = some [.iv (.int .u64 v)] := by
  have hl : g2.length = 20 := rfl
  have hk' : k < g2.length := by
    rcases Nat.lt_or_ge k g2.length with h1 | h1
    · exact h1
    · rw [List.getElem?_eq_none h1] at h; cases h
  refine ⟨.iv (.cp (g2.drop k)), ?_, fun env S => ?_⟩
  · show (if k ≤ g2.length then some (TV.iv (.cp (g2.drop k))) else none) = _
    rw [if_pos (by omega)]
  · rw [getCells_cp]
    unfold sub
    rw [if_pos (by rw [List.length_drop]; omega), List.drop_zero, List.drop_eq_getElem_cons hk']
    rw [List.getElem?_eq_getElem hk'] at h
    rw [Option.some.inj h]
    rfl
theorem call94 (n : Int) (h : 100 ≤ n ∧ n ≤ 9999) : (lim K).call 94 [.iv (.int .u64 n)] [] = .ret (.iv (.int .i64 (if n < 1000 then 3 else 4)), []) := by
  have h104 := call104 n (by omega)
  obtain ⟨l, hl⟩ : ∃ l, l = if 256 ≤ n then 8 + blen (n / 256) else blen n := ⟨_, rfl⟩
  rw [← hl] at h104
  have hlv : (l = 7 ∧ n < 128) ∨ (l = 8 ∧ 128 ≤ n ∧ n < 256) ∨ (l = 9 ∧ 256 ≤ n ∧ n < 512) ∨ (l = 10 ∧ 512 ≤ n ∧ n < 1024) ∨ (l = 11 ∧ 1024 ≤ n ∧ n < 2048) ∨ (l = 12 ∧ 2048 ≤ n ∧ n < 4096) ∨ (l = 13 ∧ 4096 ≤ n ∧ n < 8192) ∨ (l = 14 ∧ 8192 ≤ n) := by
    rw [hl]
    unfold blen
    repeat' split
    all_goals omega
  have h103 := call103 l (by omega)
  have ht := call105 true
  have hf := call105 false
  simp only [if_true, Bool.false_eq_true, if_false] at ht hf
  obtain ⟨p2, a2, b2⟩ := gl 2 100 rfl (by decide)
  obtain ⟨p3, a3, b3⟩ := gl 3 1000 rfl (by decide)
  obtain ⟨p4, a4, b4⟩ := gl 4 10000 rfl (by decide)
  refine call_ret' K [] (fn := t94) rfl rfl ?_
  have hd : (l * 78913 / 262144 = 2 ∧ n < 1000) ∨ (l * 78913 / 262144 = 3 ∧ n < 1000) ∨ (l * 78913 / 262144 = 3 ∧ 1000 ≤ n) ∨ (l * 78913 / 262144 = 4 ∧ 1000 ≤ n) := by omega
  rcases hd with ⟨hd, hn⟩ | ⟨hd, hn⟩ | ⟨hd, hn⟩ | ⟨hd, hn⟩
  · rw [hd] at h103
    rw [if_pos hn]
    simp (config := { maxSteps := 4000000 }) (disch := omega) only [t94, go_sem, Nat.reduceAdd, Nat.reduceSub, Nat.reduceLT, Nat.reduceLeDiff, Nat.reduceEqDiff, Nat.reduceBEq, reduceIte, reduceCtorEq, Int.reduceEq, Int.reduceLT, Int.reduceLE, Int.reduceAdd, Int.reduceSub, Int.reduceMul, Int.reduceToNat, Int.reduceNeg, Int.reduceBEq, Int.reducePow, Nat.reducePow, h104, h103, ht, hf, a2, b2, wrap_i64]
  · rw [hd] at h103
    rw [if_pos hn]
    simp (config := { maxSteps := 4000000 }) (disch := omega) only [t94, go_sem, Nat.reduceAdd, Nat.reduceSub, Nat.reduceLT, Nat.reduceLeDiff, Nat.reduceEqDiff, Nat.reduceBEq, reduceIte, reduceCtorEq, Int.reduceEq, Int.reduceLT, Int.reduceLE, Int.reduceAdd, Int.reduceSub, Int.reduceMul, Int.reduceToNat, Int.reduceNeg, Int.reduceBEq, Int.reducePow, Nat.reducePow, h104, h103, ht, hf, a3, b3, wrap_i64]
  · rw [hd] at h103
    rw [if_neg (by omega)]
    simp (config := { maxSteps := 4000000 }) (disch := omega) only [t94, go_sem, Nat.reduceAdd, Nat.reduceSub, Nat.reduceLT, Nat.reduceLeDiff, Nat.reduceEqDiff, Nat.reduceBEq, reduceIte, reduceCtorEq, Int.reduceEq, Int.reduceLT, Int.reduceLE, Int.reduceAdd, Int.reduceSub, Int.reduceMul, Int.reduceToNat, Int.reduceNeg, Int.reduceBEq, Int.reducePow, Nat.reducePow, h104, h103, ht, hf, a3, b3, wrap_i64]
  · rw [hd] at h103
    rw [if_neg (by omega)]
    simp (config := { maxSteps := 4000000 }) (disch := omega) only [t94, go_sem, Nat.reduceAdd, Nat.reduceSub, Nat.reduceLT, Nat.reduceLeDiff, Nat.reduceEqDiff, Nat.reduceBEq, reduceIte, reduceCtorEq, Int.reduceEq, Int.reduceLT, Int.reduceLE, Int.reduceAdd, Int.reduceSub, Int.reduceMul, Int.reduceToNat, Int.reduceNeg, Int.reduceBEq, Int.reducePow, Nat.reducePow, h104, h103, ht, hf, a4, b4, wrap_i64]
end Go.Proofs.YtdbffhgfjmhaiaaDoor
