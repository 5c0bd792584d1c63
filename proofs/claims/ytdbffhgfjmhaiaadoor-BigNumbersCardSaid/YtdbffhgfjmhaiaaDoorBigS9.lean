/- The contract of slices.Reverse, of texts; texts that are appended. Condition: none. -/
import Derived.Test.YtdbffhgfjmhaiaaDoorBigS8
set_option maxRecDepth 100000
set_option maxHeartbeats 2000000
set_option linter.unusedSimpArgs false
set_option linter.unusedVariables false
namespace Go.Proofs.YtdbffhgfjmhaiaaDoor
open Go Go.TM
theorem put_set (L : List TV) (i : Nat) (x : TV) (h : i < L.length) : put L i [x] = L.set i x := by
  rw [List.set_eq_take_append_cons_drop, if_pos h]
  simp [put]
theorem getG {S : Store} {j v i : Nat} {b : Bool} {L : List TV} {x : TV} (h : S[j]? = some (.cells v b L)) (hx : L[i]? = some x) (env : Env) : getCells env S (.ptr j v i) 1 = some [x] := by
  have hi : i < L.length := by
    rcases Nat.lt_or_ge i L.length with h1 | h1
    · exact h1
    · rw [List.getElem?_eq_none h1] at hx; cases hx
  simp only [getCells, h, if_true]
  unfold sub
  rw [if_pos (by omega), List.drop_eq_getElem_cons hi]
  rw [List.getElem?_eq_getElem hi] at hx
  rw [Option.some.inj hx]
  rfl
theorem setG {S : Store} {j v i : Nat} {b : Bool} {L : List TV} {x : TV} (h : S[j]? = some (.cells v b L)) (hi : i < L.length) (hx : isRefL x = false) (env : Env) : setCells env S (.ptr j v i) [x] = some (env, S.set j (.cells v b (L.set i x))) := by
  rw [← put_set L i x hi]
  simp only [setCells, List.any_cons, hx, List.any_nil, Bool.or_self, Bool.false_eq_true, ↓reduceIte, h, List.length_cons, List.length_nil, Nat.zero_add, true_and, show i + 1 ≤ L.length by omega]
def sC (C : List (List UInt8)) : List TV := C.map fun s => .iv (.str s)
def sB (v : Nat) (C : List (List UInt8)) : Store := [.cells v true (sC C)]
theorem sC_len (C : List (List UInt8)) : (sC C).length = C.length := by simp [sC]
theorem sC_get {A B : List (List UInt8)} {x : List UInt8} : (sC (A ++ x :: B))[A.length]? = some (.iv (.str x)) := by
  simp [sC]
theorem sC_set {A B : List (List UInt8)} {x y : List UInt8} : (sC (A ++ x :: B)).set A.length (.iv (.str y)) = sC (A ++ y :: B) := by
  simp [sC]
theorem loop48 (v n : Nat) (hn : n ≤ 100000) : ∀ (k : Nat) (A M B : List (List UInt8)) (x3 : TV), M.length = k → A.length = B.length → A.length + (k + B.length) = n →
    ∃ y1 y2 y3, lp' (lim K) t48L0 [.msl 0 v 0 n n 1, .iv (.int .i64 A.length), .iv (.int .i64 ((A.length : Int) + k - 1)), x3] (sB v (A ++ (M ++ B))) = .ret (.exit 0, [.msl 0 v 0 n n 1, y1, y2, y3], sB v (A ++ (M.reverse ++ B)))
  | 0, A, M, B, x3, hM, hAB, h => by
    obtain rfl : M = [] := List.length_eq_zero_iff.1 hM
    refine ⟨?_, ?_, ?_, loop_at K _ _ t48L0.eq_1 ?_⟩
    rotate_left 3
    · simp (disch := omega) only [go_sem, Nat.reduceAdd, Nat.reduceSub, Nat.reduceLT, Nat.reduceLeDiff, Nat.reduceEqDiff, Nat.reduceBEq, reduceIte, reduceCtorEq, Int.reduceEq, Int.reduceLT, Int.reduceLE, Int.reduceAdd, Int.reduceSub, Int.reduceMul, Int.reduceToNat, Int.reduceNeg, Int.reduceBEq, Int.reducePow, Nat.reducePow, List.reverse_nil]
      rfl
  | 1, A, M, B, x3, hM, hAB, h => by
    obtain ⟨x, rfl⟩ : ∃ x, M = [x] := by
      match M, hM with
      | [x], _ => exact ⟨x, rfl⟩
    refine ⟨?_, ?_, ?_, loop_at K _ _ t48L0.eq_1 ?_⟩
    rotate_left 3
    · simp (disch := omega) only [go_sem, Nat.reduceAdd, Nat.reduceSub, Nat.reduceLT, Nat.reduceLeDiff, Nat.reduceEqDiff, Nat.reduceBEq, reduceIte, reduceCtorEq, Int.reduceEq, Int.reduceLT, Int.reduceLE, Int.reduceAdd, Int.reduceSub, Int.reduceMul, Int.reduceToNat, Int.reduceNeg, Int.reduceBEq, Int.reducePow, Nat.reducePow, List.reverse_singleton]
      rfl
  | k + 2, A, M, B, x3, hM, hAB, h => by
    obtain ⟨x, M', y, rfl, hM'⟩ : ∃ x M' y, M = x :: (M' ++ [y]) ∧ M'.length = k := by
      match M, hM with
      | x :: M2, hM2 =>
        rcases List.eq_nil_or_concat M2 with rfl | ⟨M', y, rfl⟩
        · simp at hM2
        · refine ⟨x, M', y, by simp, ?_⟩
          simp at hM2; omega
    have e1 : A ++ (x :: (M' ++ [y]) ++ B) = A ++ x :: (M' ++ y :: B) := by simp
    have e2 : A ++ x :: (M' ++ y :: B) = (A ++ x :: M') ++ y :: B := by simp
    have e3 : (A ++ x :: M').length = A.length + (k + 1) := by simp [hM']
    have m1 := ix_msl (j := 0) (v := v) (off := 0) (len := n) (cap := n) (i := (A.length : Int)) (by omega)
    rw [Int.toNat_natCast, Nat.zero_add] at m1
    have m2 := ix_msl (j := 0) (v := v) (off := 0) (len := n) (cap := n) (i := (A.length : Int) + ((k + 2 : Nat) : Int) - 1) (by omega)
    rw [show ((A.length : Int) + ((k + 2 : Nat) : Int) - 1).toNat = A.length + (k + 1) by omega, Nat.zero_add] at m2
    have g1 := fun env => getG (S := sB v (A ++ x :: (M' ++ y :: B))) (j := 0) (v := v) (b := true) rfl (sC_get (A := A) (x := x)) env
    have g2 := fun env => getG (S := sB v (A ++ x :: (M' ++ y :: B))) (j := 0) (v := v) (b := true) (i := A.length + (k + 1)) (x := .iv (.str y)) rfl (by rw [e2, ← e3]; exact sC_get) env
    have s1 := fun env => setG (S := sB v (A ++ x :: (M' ++ y :: B))) (j := 0) (v := v) (b := true) (i := A.length) (x := .iv (.str y)) rfl (by rw [sC_len]; simp) rfl env
    rw [sC_set] at s1
    have h1 : (sB v (A ++ x :: (M' ++ y :: B))).set 0 (.cells v true (sC (A ++ y :: (M' ++ y :: B)))) = sB v (A ++ y :: (M' ++ y :: B)) := rfl
    rw [h1] at s1
    have s2 := fun env => setG (S := sB v (A ++ y :: (M' ++ y :: B))) (j := 0) (v := v) (b := true) (i := A.length + (k + 1)) (x := .iv (.str x)) rfl (by rw [sC_len]; simp; omega) rfl env
    have e4 : A ++ y :: (M' ++ y :: B) = (A ++ y :: M') ++ y :: B := by simp
    have e5 : (A ++ y :: M').length = A.length + (k + 1) := by simp [hM']
    have h2 : (sC (A ++ y :: (M' ++ y :: B))).set (A.length + (k + 1)) (.iv (.str x)) = sC ((A ++ [y]) ++ (M' ++ (x :: B))) := by
      rw [e4, ← e5, sC_set]; simp
    rw [h2] at s2
    have h3 : (sB v (A ++ y :: (M' ++ y :: B))).set 0 (.cells v true (sC ((A ++ [y]) ++ (M' ++ (x :: B))))) = sB v ((A ++ [y]) ++ (M' ++ (x :: B))) := rfl
    rw [h3] at s2
    obtain ⟨y1, y2, y3, ih⟩ := loop48 v n hn k (A ++ [y]) M' (x :: B) (.iv (.bool true)) hM' (by simp [hAB]) (by simp; omega)
    refine ⟨y1, y2, y3, loop_at K _ _ t48L0.eq_1 ?_⟩
    have e6 : (A ++ [y]) ++ (M'.reverse ++ (x :: B)) = A ++ ((x :: (M' ++ [y])).reverse ++ B) := by simp
    rw [e6] at ih
    have e7 : ((A ++ [y]).length : Int) = (A.length : Int) + 1 := by simp
    have e8 : (A.length : Int) + 1 + (k : Int) - 1 = (A.length : Int) + ((k + 2 : Nat) : Int) - 1 - 1 := by omega
    rw [e7, e8] at ih
    rw [e1]
    obtain ⟨q, hq⟩ : ∃ q, q = (A.length : Int) + ((k + 2 : Nat) : Int) - 1 := ⟨_, rfl⟩
    rw [← hq] at m2 ih ⊢
    have hq2 : (A.length : Int) < q ∧ q ≤ 100000 := by omega
    generalize (A ++ [y]) ++ (M' ++ (x :: B)) = C3 at *
    simp (config := { maxSteps := 4000000 }) (disch := omega) only [go_sem, Nat.reduceAdd, Nat.reduceSub, Nat.reduceLT, Nat.reduceLeDiff, Nat.reduceEqDiff, Nat.reduceBEq, reduceIte, reduceCtorEq, Int.reduceEq, Int.reduceLT, Int.reduceLE, Int.reduceAdd, Int.reduceSub, Int.reduceMul, Int.reduceToNat, Int.reduceNeg, Int.reduceBEq, Int.reducePow, Nat.reducePow, m1, m2, g1, g2, s1, s2, wrap_i64, storeV_c, storeC_eq, cellsOf_str]
    exact congrArg er ih
end Go.Proofs.YtdbffhgfjmhaiaaDoor
