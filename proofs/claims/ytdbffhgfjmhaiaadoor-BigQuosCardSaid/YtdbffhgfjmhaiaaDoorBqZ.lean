/- The document's Sub, Mul, Cmp; of. Condition: none. -/
import Derived.Test.YtdbffhgfjmhaiaaDoorBqY
set_option maxRecDepth 100000
set_option maxHeartbeats 2000000
set_option linter.unusedSimpArgs false
set_option linter.unusedVariables false
namespace Go.Proofs.YtdbffhgfjmhaiaaDoor
open Go Go.TM
theorem refCmp (t1 t2 : Tag) (x y : Int) (l1 : (dg 10 x.natAbs).length ≤ 90000) (l2 : (dg 10 y.natAbs).length ≤ 90000) :
    (lim K).call 30 [.iv (dd t1 x), .iv (dd t2 y)] [] = .ret (.iv (.int .i64 (cmpI x y)), []) := by
  have c1 := call56 t1 t2 _ _ (dig10 x) (dig10 y) (tr10 x) (tr10 y) (by omega) (by omega)
  have c2 := call56 t2 t1 _ _ (dig10 y) (dig10 x) (tr10 y) (tr10 x) (by omega) (by omega)
  rw [val10, val10] at c1 c2
  refine call_ret' K [] (fn := t30) rfl rfl ?_
  simp only [dd_eq]
  by_cases g1 : x < 0
  · by_cases g2 : y < 0
    · have hr : cmpI x y = cmpI y.natAbs x.natAbs := by
        unfold cmpI
        split <;> split <;> (try split) <;> (try split) <;> omega
      rw [hr]
      rw [decide_eq_true g1, decide_eq_true g2]
      generalize cmpI y.natAbs x.natAbs = r at *
      simp (config := { maxSteps := 4000000 }) (disch := omega) only [t30, go_sem, Nat.reduceAdd, Nat.reduceSub, Nat.reduceLT, Nat.reduceLeDiff, Nat.reduceEqDiff, Nat.reduceBEq, reduceIte, reduceCtorEq, Int.reduceEq, Int.reduceLT, Int.reduceLE, Int.reduceAdd, Int.reduceSub, Int.reduceMul, Int.reduceToNat, Int.reduceNeg, Int.reduceBEq, Int.reducePow, Nat.reducePow, c2, Bool.not_false, Bool.not_true]
    · rw [cmpI_lt (by omega)]
      rw [decide_eq_true g1, decide_eq_false g2]
      simp (config := { maxSteps := 4000000 }) (disch := omega) only [t30, go_sem, Nat.reduceAdd, Nat.reduceSub, Nat.reduceLT, Nat.reduceLeDiff, Nat.reduceEqDiff, Nat.reduceBEq, reduceIte, reduceCtorEq, Int.reduceEq, Int.reduceLT, Int.reduceLE, Int.reduceAdd, Int.reduceSub, Int.reduceMul, Int.reduceToNat, Int.reduceNeg, Int.reduceBEq, Int.reducePow, Nat.reducePow, c2, Bool.not_false, Bool.not_true]
  · by_cases g2 : y < 0
    · rw [cmpI_gt (by omega)]
      rw [decide_eq_false g1, decide_eq_true g2]
      simp (config := { maxSteps := 4000000 }) (disch := omega) only [t30, go_sem, Nat.reduceAdd, Nat.reduceSub, Nat.reduceLT, Nat.reduceLeDiff, Nat.reduceEqDiff, Nat.reduceBEq, reduceIte, reduceCtorEq, Int.reduceEq, Int.reduceLT, Int.reduceLE, Int.reduceAdd, Int.reduceSub, Int.reduceMul, Int.reduceToNat, Int.reduceNeg, Int.reduceBEq, Int.reducePow, Nat.reducePow, c2, Bool.not_false, Bool.not_true]
    · have hr : cmpI x y = cmpI x.natAbs y.natAbs := by
        rw [show (x.natAbs : Int) = x by omega, show (y.natAbs : Int) = y by omega]
      rw [hr]
      rw [decide_eq_false g1, decide_eq_false g2]
      generalize cmpI x.natAbs y.natAbs = r at *
      simp (config := { maxSteps := 4000000 }) (disch := omega) only [t30, go_sem, Nat.reduceAdd, Nat.reduceSub, Nat.reduceLT, Nat.reduceLeDiff, Nat.reduceEqDiff, Nat.reduceBEq, reduceIte, reduceCtorEq, Int.reduceEq, Int.reduceLT, Int.reduceLE, Int.reduceAdd, Int.reduceSub, Int.reduceMul, Int.reduceToNat, Int.reduceNeg, Int.reduceBEq, Int.reducePow, Nat.reducePow, c1, Bool.not_false, Bool.not_true]
theorem tms_len2 {y : Int} {l : List Int} {m : Int} (hd : Dig 10 l) (hy : 0 ≤ y ∧ y ≤ 10) (hm : 0 ≤ m ∧ m ≤ 10) : (tms y l m).length ≤ l.length + 2 := by
  obtain ⟨i1, i2, i3, i4⟩ := sc_spec (B := 10) (y := y) (by decide) hy.1 l m hd hm.1
  have h := sc_carry (B := 10) (y := y) (c := 10) (by decide) hy l m hd hm
  have := dg_len (B := 10) (by decide) 2 (sc 10 y l m).2 i2 (Int.lt_of_le_of_lt h (by decide))
  simp only [tms, List.length_append, i3]
  omega
theorem of_dd (neg : Bool) (t : Tag) (l : List Int) (hd : Dig 65536 l) (hl : l.length ≤ 1000) (z : Int) (hz : z = sv neg (val 65536 l)) : ∃ t', TagOk t' (dg 10 z.natAbs) ∧ Pure K 19 [.iv (num neg t l)] (.iv (dd t' z)) := by
  have hv := val_nonneg (by decide) hd
  obtain ⟨t', h1, h2⟩ := call19 neg t l hd hl
  rw [dnum_dd hv, ← hz] at h2
  refine ⟨t', ?_, h2⟩
  rw [hz, abs_sv _ hv]; exact h1
theorem alike_dd {n : Bool} {t tg : Tag} {z : Int} (k1 : TagOk tg (dg 10 z.natAbs)) (l1 : (dg 10 z.natAbs).length ≤ 90000) (l2 : (dg 65536 z.natAbs).length ≤ 90000) : Pure K 14 [.iv (num (decide (z < 0)) t (dg 65536 z.natAbs)), .iv (dd tg z)] (.iv (.bool true)) := by
  have h := call14 (decide (z < 0)) (decide (z < 0)) t tg (dg 65536 z.natAbs) z.natAbs (by omega) (by omega) k1 (by omega)
  rw [decide_eq_true (show decide (z < 0) = decide (z < 0) ∧ dg 65536 z.natAbs = dg 65536 z.natAbs from ⟨rfl, rfl⟩)] at h
  exact h
end Go.Proofs.YtdbffhgfjmhaiaaDoor
