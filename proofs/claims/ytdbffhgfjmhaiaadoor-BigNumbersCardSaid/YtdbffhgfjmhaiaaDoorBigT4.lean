/- BigNumbers: the evaluator answers true. Condition: none. -/
import Derived.Test.YtdbffhgfjmhaiaaDoorBigT3
import Derived.Test.YtdbffhgfjmhaiaaDoorBigTy
set_option maxRecDepth 100000
set_option maxHeartbeats 16000000
set_option linter.unusedSimpArgs false
set_option linter.unusedVariables false
namespace Go.Proofs.YtdbffhgfjmhaiaaDoor
open Go Go.TM
def sLo : List UInt8 := [45, 57, 50, 50, 51, 51, 55, 50, 48, 51, 54, 56, 53, 52, 55, 55, 53, 56, 48, 56]
def sHi : List UInt8 := [57, 50, 50, 51, 51, 55, 50, 48, 51, 54, 56, 53, 52, 55, 55, 53, 56, 48, 55]
def fLo : List UInt8 := [45, 53, 51, 54, 56, 55, 48, 57, 49, 50]
def fHi : List UInt8 := [53, 51, 54, 56, 55, 48, 57, 49, 49]
theorem small_len {v : Int} (h : 0 ≤ v) (g : v < 10 ^ 18) : (dg 10 v).length ≤ 18 := dg_len (by decide) 18 v h g
theorem dg_few {v : Int} (h : 0 ≤ v) (g : v < 10 ^ 20) : (dg 10 v).length ≤ 90000 := by
  have := dg_len (B := 10) (by decide) 20 v h g
  omega
theorem law5a {t : Tag} {a : List Int} (k : TagOk t a) (n : Bool) (da : Dig 65536 a) (la : a.length ≤ 60) (m : Int) (hm : -9223372036854775808 ≤ m ∧ m ≤ 9223372036854775807) :
    ((lim K).call 5 [.iv (num n t a), .iv (.int .i64 m)] []).All fun r => r.1 = .iv (.bool true) := by
  have va := val_nonneg (by decide) da
  have vb : val 65536 a < 65536 ^ 60 := Int.lt_of_lt_of_le (val_lt (by decide) da) (pow_le' (by decide) la)
  have h75 : val 65536 a < 10000 ^ 75 := Int.lt_of_lt_of_le vb (by decide)
  obtain ⟨t9, k9, h19⟩ := call19 n t a da (by omega)
  obtain ⟨t8, k8, h18⟩ := call18 n t a k da (by omega)
  have h16 := call16 n t a k da (by omega) h75
  have h20 := call20 t9 (val 65536 a) n va h75
  have h21 := call21 n t a k da (by omega)
  have h23 := call23 n t a k da (by omega)
  obtain ⟨z, hz⟩ : ∃ z, z = sv n (val 65536 a) := ⟨_, rfl⟩
  have hab : (z.natAbs : Int) = val 65536 a := by rw [hz]; exact abs_sv n va
  have hdd := dnum_dd (neg := n) (t := t9) (v := val 65536 a) va
  rw [← hz] at h18 h21 h23 hdd
  rw [hdd] at h19 h20
  have hlen : (dg 10 z.natAbs).length ≤ 300 := by
    have h2 := dg_len (B := 10) (by decide) (4 * 75) _ va (lt75 h75)
    rw [hab]; omega
  have h14 := call14 (decide (z < 0)) (decide (z < 0)) t8 t9 (dg 65536 z.natAbs) z.natAbs (by omega) (by have := dg_le (v := z.natAbs) (by omega); omega) (by rw [hab]; exact k9) (by omega)
  rw [decide_eq_true (show decide (z < 0) = decide (z < 0) ∧ dg 65536 z.natAbs = dg 65536 z.natAbs from ⟨rfl, rfl⟩)] at h14
  have w1 := call22 t9 z (by omega) sLo sHi (-9223372036854775808) 9223372036854775807 (by decide) (by decide) (by decide) (by decide) (by decide) (by decide) (dg_few (by decide) (by decide)) (dg_few (by decide) (by decide))
  have w2 := call22 t9 z (by omega) fLo fHi (-536870912) 536870911 (by decide) (by decide) (by decide) (by decide) (by decide) (by decide) (dg_few (by decide) (by decide)) (dg_few (by decide) (by decide))
  have h24 := fun h => call24 (decide (z < 0)) t9 (dg 10 z.natAbs) (dig10 z) h
  have hsv : sv (decide (z < 0)) (val 10 (dg 10 z.natAbs)) = z := by rw [val10]; by_cases h : z < 0 <;> simp [sv, h] <;> omega
  rw [hsv] at h24
  -- the number of 64 bits
  obtain ⟨tb, kb, h25⟩ := call25 m hm
  have m0 : (0 : Int) ≤ m.natAbs := by omega
  have mlen : (dg 65536 m.natAbs).length ≤ 4 := dg_len (by decide) 4 _ m0 (by omega)
  have md := dg_dig (B := 65536) (n := m.natAbs) (by decide) m0
  have mv := val_dg (B := 65536) (n := m.natAbs) (by decide) m0
  obtain ⟨tc, kc, h19m⟩ := call19 (decide (m < 0)) tb (dg 65536 m.natAbs) md (by omega)
  have h21m := call21 (decide (m < 0)) tb (dg 65536 m.natAbs) kb md (by omega)
  rw [mv] at h19m h21m kc
  have msv : sv (decide (m < 0)) m.natAbs = m := by by_cases h : m < 0 <;> simp [sv, h] <;> omega
  have mdd := dnum_dd (neg := decide (m < 0)) (t := tc) (v := m.natAbs) m0
  rw [msv] at mdd h21m
  rw [mdd] at h19m
  have mfit : fit m = true := decide_eq_true hm
  simp only [small, mfit, ↓reduceIte] at h21m
  have h14m := call14 (decide (m < 0)) (decide (m < 0)) tb tc (dg 65536 m.natAbs) m.natAbs m0 (by omega) kc (by have := dg_few (v := m.natAbs) m0 (by omega); omega)
  rw [decide_eq_true (show decide (m < 0) = decide (m < 0) ∧ dg 65536 m.natAbs = dg 65536 m.natAbs from ⟨rfl, rfl⟩)] at h14m
  have s1 : ∀ (b : Bool) t l, scalar1 (.agg [.bool b, .sl t l]) = false := fun b t l => scalar_num b t l
  simp only [bg, dd, num, dnum, sLo, sHi, fLo, fHi] at *
  refine call_all' K [] (fn := t5) rfl rfl ?_
  have l10 : ((one i64 (dg 10 z.natAbs)).length : Int) = (dg 10 z.natAbs).length := by rw [one_length]
  generalize dg 65536 z.natAbs = Z at *
  generalize dg 65536 m.natAbs = M at *
  generalize dg 10 m.natAbs = M10 at *
  generalize txt n (val 65536 a) = T at *
  generalize decide (z < 0) = zn at *
  generalize decide (m < 0) = mn at *
  by_cases hf : -536870912 ≤ z ∧ z ≤ 536870911
  · have e1 : fit z = true := decide_eq_true (by omega)
    have e2 : decide (-9223372036854775808 ≤ z ∧ z ≤ 9223372036854775807) = true := decide_eq_true (by omega)
    have e3 := decide_eq_true hf
    have l18 := small_len (v := z.natAbs) (by omega) (by omega)
    have g24 := h24 l18
    simp only [small, fixn, e1, e2, e3, ↓reduceIte] at h21 h23 w1 w2
    generalize dg 10 z.natAbs = Z10 at *
    simp (config := { maxSteps := 8000000 }) (disch := omega) only [t5, go_sem, Nat.reduceAdd, Nat.reduceSub, Nat.reduceLT, Nat.reduceLeDiff, Nat.reduceEqDiff, Nat.reduceBEq, reduceIte, reduceCtorEq, Int.reduceEq, Int.reduceLT, Int.reduceLE, Int.reduceAdd, Int.reduceSub, Int.reduceMul, Int.reduceToNat, Int.reduceNeg, Int.reduceBEq, Int.reducePow, Nat.reducePow, one_length, s1, cpR_pure h19, cpR_pure h18, cpR_pure h14, cpR_pure h16, cpR_pure h20, cpR_pure h21, cpR_pure h23, w1, w2, g24, cpR_pure h25, cpR_pure h19m, cpR_pure h21m, cpR_pure h14m]
    refine all_works works ?_
    simp (config := { maxSteps := 4000000 }) (disch := omega) only [go_sem, Nat.reduceAdd, Nat.reduceSub, Nat.reduceLT, Nat.reduceLeDiff, Nat.reduceEqDiff, Nat.reduceBEq, reduceIte, reduceCtorEq, Int.reduceEq, Int.reduceLT, Int.reduceLE, Int.reduceAdd, Int.reduceSub, Int.reduceMul, Int.reduceToNat, Int.reduceNeg, Int.reduceBEq, Int.reducePow, Nat.reducePow, Out.All]
  · have e3 := decide_eq_false hf
    by_cases hfit : -9223372036854775808 ≤ z ∧ z ≤ 9223372036854775807
    · have e1 : fit z = true := decide_eq_true hfit
      have e2 := decide_eq_true hfit
      simp only [small, fixn, e1, e2, e3, Bool.false_eq_true, ↓reduceIte] at h21 h23 w1 w2
      by_cases l18 : (dg 10 z.natAbs).length ≤ 18
      · have g24 := h24 l18
        generalize dg 10 z.natAbs = Z10 at *
        simp (config := { maxSteps := 8000000 }) (disch := omega) only [t5, go_sem, Nat.reduceAdd, Nat.reduceSub, Nat.reduceLT, Nat.reduceLeDiff, Nat.reduceEqDiff, Nat.reduceBEq, reduceIte, reduceCtorEq, Int.reduceEq, Int.reduceLT, Int.reduceLE, Int.reduceAdd, Int.reduceSub, Int.reduceMul, Int.reduceToNat, Int.reduceNeg, Int.reduceBEq, Int.reducePow, Nat.reducePow, one_length, s1, cpR_pure h19, cpR_pure h18, cpR_pure h14, cpR_pure h16, cpR_pure h20, cpR_pure h21, cpR_pure h23, w1, w2, g24, cpR_pure h25, cpR_pure h19m, cpR_pure h21m, cpR_pure h14m]
        refine all_works works ?_
        simp (config := { maxSteps := 4000000 }) (disch := omega) only [go_sem, Nat.reduceAdd, Nat.reduceSub, Nat.reduceLT, Nat.reduceLeDiff, Nat.reduceEqDiff, Nat.reduceBEq, reduceIte, reduceCtorEq, Int.reduceEq, Int.reduceLT, Int.reduceLE, Int.reduceAdd, Int.reduceSub, Int.reduceMul, Int.reduceToNat, Int.reduceNeg, Int.reduceBEq, Int.reducePow, Nat.reducePow, Out.All]
      · generalize dg 10 z.natAbs = Z10 at *
        simp (config := { maxSteps := 8000000 }) (disch := omega) only [t5, go_sem, Nat.reduceAdd, Nat.reduceSub, Nat.reduceLT, Nat.reduceLeDiff, Nat.reduceEqDiff, Nat.reduceBEq, reduceIte, reduceCtorEq, Int.reduceEq, Int.reduceLT, Int.reduceLE, Int.reduceAdd, Int.reduceSub, Int.reduceMul, Int.reduceToNat, Int.reduceNeg, Int.reduceBEq, Int.reducePow, Nat.reducePow, one_length, s1, cpR_pure h19, cpR_pure h18, cpR_pure h14, cpR_pure h16, cpR_pure h20, cpR_pure h21, cpR_pure h23, w1, w2, cpR_pure h25, cpR_pure h19m, cpR_pure h21m, cpR_pure h14m]
        refine all_works works ?_
        simp (config := { maxSteps := 4000000 }) (disch := omega) only [go_sem, Nat.reduceAdd, Nat.reduceSub, Nat.reduceLT, Nat.reduceLeDiff, Nat.reduceEqDiff, Nat.reduceBEq, reduceIte, reduceCtorEq, Int.reduceEq, Int.reduceLT, Int.reduceLE, Int.reduceAdd, Int.reduceSub, Int.reduceMul, Int.reduceToNat, Int.reduceNeg, Int.reduceBEq, Int.reducePow, Nat.reducePow, Out.All]
    · have e1 : fit z = false := decide_eq_false hfit
      have e2 := decide_eq_false hfit
      simp only [small, fixn, e1, e2, e3, Bool.false_eq_true, ↓reduceIte] at h21 h23 w1 w2
      generalize dg 10 z.natAbs = Z10 at *
      simp (config := { maxSteps := 8000000 }) (disch := omega) only [t5, go_sem, Nat.reduceAdd, Nat.reduceSub, Nat.reduceLT, Nat.reduceLeDiff, Nat.reduceEqDiff, Nat.reduceBEq, reduceIte, reduceCtorEq, Int.reduceEq, Int.reduceLT, Int.reduceLE, Int.reduceAdd, Int.reduceSub, Int.reduceMul, Int.reduceToNat, Int.reduceNeg, Int.reduceBEq, Int.reducePow, Nat.reducePow, one_length, s1, cpR_pure h19, cpR_pure h18, cpR_pure h14, cpR_pure h16, cpR_pure h20, cpR_pure h21, cpR_pure h23, w1, w2, cpR_pure h25, cpR_pure h19m, cpR_pure h21m, cpR_pure h14m]
      refine all_works works ?_
      simp (config := { maxSteps := 4000000 }) (disch := omega) only [go_sem, Nat.reduceAdd, Nat.reduceSub, Nat.reduceLT, Nat.reduceLeDiff, Nat.reduceEqDiff, Nat.reduceBEq, reduceIte, reduceCtorEq, Int.reduceEq, Int.reduceLT, Int.reduceLE, Int.reduceAdd, Int.reduceSub, Int.reduceMul, Int.reduceToNat, Int.reduceNeg, Int.reduceBEq, Int.reducePow, Nat.reducePow, Out.All]
end Go.Proofs.YtdbffhgfjmhaiaaDoor
