/- The contracts of big: the document's Parse. Condition: none. -/
import Derived.Test.YtdbffhgfjmhaiaaDoorBigE
set_option maxRecDepth 100000
set_option linter.unusedSimpArgs false
set_option linter.unusedVariables false
namespace Go.Proofs.YtdbffhgfjmhaiaaDoor
open Go Go.TM
theorem bl (b : UInt8) : b.toNat < 256 := b.toNat_lt
def isD (c : UInt8) : Bool := decide (48 ≤ (c.toNat : Int)) && decide ((c.toNat : Int) ≤ 57)
def dgt (c : UInt8) : Int := (c.toNat : Int) - 48
def dec (s : List UInt8) : Int := val 10 (s.reverse.map dgt)
theorem str_drop {s : List UInt8} {i : Nat} (h : i < s.length) : s.drop i = s.getD i 0 :: s.drop (i + 1) := by
  rw [List.drop_eq_getElem_cons h]; simp [List.getD, List.getElem?_eq_getElem h]
theorem str_take {s : List UInt8} {i : Nat} (h : i < s.length) : s.take (i + 1) = s.take i ++ [s.getD i 0] := by
  rw [List.take_add_one, List.getElem?_eq_getElem h]; simp [List.getD, List.getElem?_eq_getElem h]
theorem loop13 (s : List UInt8) (hl : s.length ≤ 1000) (fst : Nat) (x3 x7 x8 : TV) : ∀ (n : Nat) (x9 x10 : TV), fst + n ≤ s.length →
    ∃ y5 y6 y9 y10 S', lp' (lim K) t13L0 [.iv (.str s), .lb [.iv (.bool false), .iv (.sl .nil [])], .iv (.int .i64 0), x3, .iv (.int .i64 fst), acc 0 (one i64 ((s.drop (fst + n)).reverse.map dgt)), .iv (.int .i64 (((fst + n : Nat) : Int) - 1)), x7, x8, x9, x10] (accS 1 3 (one i64 ((s.drop (fst + n)).reverse.map dgt)))
      = .ret (if ((s.take (fst + n)).drop fst).all isD then (.exit 0, [.iv (.str s), .lb [.iv (.bool false), .iv (.sl .nil [])], .iv (.int .i64 0), x3, .iv (.int .i64 fst), acc 0 (one i64 ((s.drop fst).reverse.map dgt)), y6, x7, x8, y9, y10], accS 1 3 (one i64 ((s.drop fst).reverse.map dgt)))
        else (.ret, [.iv (.str s), .lb [.iv (.bool false), .iv (.sl .nil [])], .iv (.int .i64 4), x3, .iv (.int .i64 fst), y5, y6, x7, x8, y9, y10], S'))
  | 0, x9, x10, h => by
    have e : ((s.take (fst + 0)).drop fst).all isD = true := by
      rw [List.drop_of_length_le (by simp; omega)]; rfl
    refine ⟨.hole, ?_, ?_, ?_, [], loop_at K _ _ t13L0.eq_1 ?_⟩
    rotate_left 3
    · simp only [e, ↓reduceIte]
      simp (disch := omega) only [go_sem, Nat.reduceAdd, Nat.reduceSub, Nat.reduceLT, Nat.reduceLeDiff, Nat.reduceEqDiff, Nat.reduceBEq, reduceIte, reduceCtorEq, Int.reduceEq, Int.reduceLT, Int.reduceLE, Int.reduceAdd, Int.reduceSub, Int.reduceMul, Int.reduceToNat, Int.reduceNeg, Int.reduceBEq, Int.reducePow, Nat.reducePow, Nat.add_zero]
      rfl
  | n + 1, x9, x10, h => by
    have hlt : fst + n < s.length := by omega
    have hix := fun kd => ixStr_ok (s := s) (i := ((fst + n : Nat) : Int)) (kd := kd) (by omega)
    simp only [Int.toNat_natCast] at hix
    have hd := str_drop hlt
    have htk := str_take hlt
    have e1 : ((fst + (n + 1) : Nat) : Int) - 1 = ((fst + n : Nat) : Int) := by omega
    have ih := loop13 s hl fst x3 x7 x8 n
    have hall : ((s.take (fst + n + 1)).drop fst).all isD = (((s.take (fst + n)).drop fst).all isD && isD (s.getD (fst + n) 0)) := by
      rw [htk, List.drop_append_of_le_length (by simp; omega), List.all_append]; simp
    have hcons : (s.drop (fst + n)).reverse.map dgt = (s.drop (fst + n + 1)).reverse.map dgt ++ [dgt (s.getD (fst + n) 0)] := by
      rw [hd]; simp
    rw [← Nat.add_assoc, hall]
    rw [hcons] at ih
    have hdl : ((s.drop (fst + n + 1)).reverse.map dgt).length ≤ 1000 := by simp; omega
    have hb := bl (s.getD (fst + n) 0)
    generalize s.getD (fst + n) 0 = c at *
    generalize (s.drop (fst + n + 1)).reverse.map dgt = D at *
    have ha := ap_acc1 (w := 1) (b := 8) (el := 3) (t := .full) (i64_ok (dgt c)) (Elems.one (f := i64) (fun _ => rfl) D) (roomy_ok (by rw [one_length]; omega))
    rw [one_snoc] at ha
    rw [Nat.add_assoc, e1]
    have hne : fst ≤ fst + n := by omega
    have hgi : ((fst : Int) ≤ ((fst + n : Nat) : Int)) := by omega
    generalize hi : ((fst + n : Nat) : Int) = i at *
    by_cases hc : isD c = true
    · obtain ⟨y5, y6, y9, y10, S', ih⟩ := ih (.iv (.bool true)) (.iv (.bool false)) (by omega)
      refine ⟨y5, y6, y9, y10, S', loop_at K _ _ t13L0.eq_1 ?_⟩
      simp only [hc, Bool.and_true]
      simp only [isD, Bool.and_eq_true, decide_eq_true_eq] at hc
      generalize ((s.take (fst + n)).drop fst).all isD = A at *
      simp only [i64, dgt] at ha
      simp (config := { maxSteps := 4000000 }) (disch := omega) only [go_sem, Nat.reduceAdd, Nat.reduceSub, Nat.reduceLT, Nat.reduceLeDiff, Nat.reduceEqDiff, Nat.reduceBEq, reduceIte, reduceCtorEq, Int.reduceEq, Int.reduceLT, Int.reduceLE, Int.reduceAdd, Int.reduceSub, Int.reduceMul, Int.reduceToNat, Int.reduceNeg, Int.reduceBEq, Int.reducePow, Nat.reducePow, hix, wrap_i64, wrap_u8, ha]
      exact congrArg er ih
    · simp only [hc, Bool.and_false, Bool.false_eq_true, ↓reduceIte]
      simp only [isD, Bool.and_eq_true, decide_eq_true_eq] at hc
      by_cases h48 : (c.toNat : Int) < 48
      · refine ⟨?_, ?_, ?_, ?_, ?_, loop_at K _ _ t13L0.eq_1 ?_⟩
        rotate_left 5
        · simp (config := { maxSteps := 4000000 }) (disch := omega) only [go_sem, Nat.reduceAdd, Nat.reduceSub, Nat.reduceLT, Nat.reduceLeDiff, Nat.reduceEqDiff, Nat.reduceBEq, reduceIte, reduceCtorEq, Int.reduceEq, Int.reduceLT, Int.reduceLE, Int.reduceAdd, Int.reduceSub, Int.reduceMul, Int.reduceToNat, Int.reduceNeg, Int.reduceBEq, Int.reducePow, Nat.reducePow, hix, h48, wrap_i64, wrap_u8]
          rfl
      · refine ⟨?_, ?_, ?_, ?_, ?_, loop_at K _ _ t13L0.eq_1 ?_⟩
        rotate_left 5
        · simp (config := { maxSteps := 4000000 }) (disch := omega) only [go_sem, Nat.reduceAdd, Nat.reduceSub, Nat.reduceLT, Nat.reduceLeDiff, Nat.reduceEqDiff, Nat.reduceBEq, reduceIte, reduceCtorEq, Int.reduceEq, Int.reduceLT, Int.reduceLE, Int.reduceAdd, Int.reduceSub, Int.reduceMul, Int.reduceToNat, Int.reduceNeg, Int.reduceBEq, Int.reducePow, Nat.reducePow, hix, h48, wrap_i64, wrap_u8]
          rfl
