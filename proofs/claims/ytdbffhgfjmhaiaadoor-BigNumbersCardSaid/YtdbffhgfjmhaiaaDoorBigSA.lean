/- The contract of big.Text: the parts. Condition: none. -/
import Derived.Test.YtdbffhgfjmhaiaaDoorBigS9
set_option maxRecDepth 100000
set_option maxHeartbeats 2000000
set_option linter.unusedSimpArgs false
set_option linter.unusedVariables false
namespace Go.Proofs.YtdbffhgfjmhaiaaDoor
open Go Go.TM
theorem call48 (v : Nat) (C : List (List UInt8)) (h0 : C ≠ []) (hl : C.length ≤ 1000) : (lim K).call 48 [.msl 0 v 0 C.length C.length 1] (sB v C) = .ret (.tup [], sB v C.reverse) := by
  obtain ⟨y1, y2, y3, e⟩ := loop48 v C.length (by omega) C.length [] C [] (.tup []) rfl rfl (by simp)
  simp only [List.nil_append, List.append_nil, List.length_nil] at e
  rw [List.append_nil, show ((0 : Nat) : Int) = 0 from rfl, Int.zero_add] at e
  refine call_ret' K (sB v C) (fn := t48) rfl rfl ?_
  simp (config := { maxSteps := 4000000 }) (disch := omega) only [t48, go_sem, Nat.reduceAdd, Nat.reduceSub, Nat.reduceLT, Nat.reduceLeDiff, Nat.reduceEqDiff, Nat.reduceBEq, reduceIte, reduceCtorEq, Int.reduceEq, Int.reduceLT, Int.reduceLE, Int.reduceAdd, Int.reduceSub, Int.reduceMul, Int.reduceToNat, Int.reduceNeg, Int.reduceBEq, Int.reducePow, Nat.reducePow, wrap_i64, e]
def sM (C : List (List UInt8)) : TV := if C = [] then .iv (.sl .nil []) else .msl 0 (C.length - 1) 0 C.length C.length 1
def sS (C : List (List UInt8)) : Store := if C = [] then [] else sB (C.length - 1) C
theorem sM_pl (C : List (List UInt8)) : (∀ j, locV j (sM C) = sM C) ∧ isLp (sM C) = false ∧ resK (sM C) = some (sM C) ∧ same (sM C) (sM C) = true := by
  unfold sM
  split
  · exact ⟨fun _ => rfl, rfl, rfl, same_iv _⟩
  · exact ⟨fun _ => rfl, rfl, rfl, same_msl _ _ _ _ _ _⟩
theorem sM_wb (C : List (List UInt8)) (K : Prog) (O : Orc) (j : Nat) (ops : List TOper) (i : Nat) (M : List (Nat × TV)) (n : Nat) (fs : List Fr) (env : Env) (S : Store) : wbV' K O (sM C) j ops i M n fs env S = wbk' K O ops (i + 1) M n fs (env.set j (sM C)) S := by
  unfold sM
  split
  · exact wbV_iv' K O ops i M n fs env S _ j
  · exact wbV_msl' K O ops i M n fs env S _ _ _ _ _ _ j
theorem ap_sM (mu : Bool) (C : List (List UInt8)) (s : List UInt8) (t : Tag) (hmu : mu = false → C ≠ []) (h : C.length ≤ 100000) : appendOp mu 1 16 9 (sS C) (sM C) (.iv (.sl t [[.str s]])) = some (sM (C ++ [s]), sS (C ++ [s])) := by
  have hr : roomy (C.length + 1) 16 = true := roomy_ok (by omega)
  have e1 : ∀ S, elemsTV S (.iv (.sl t [[IV.str s]])) = some [.iv (.str s)] := fun S => rfl
  have e2 : ∀ S, lenOf S (.iv (.sl t [[IV.str s]])) = some 1 := fun S => rfl
  have e3 : [TV.iv (IV.str s)].any isRefL = false := rfl
  unfold sM sS
  by_cases hC : C = []
  · subst hC
    cases mu
    · exact absurd rfl (hmu rfl)
    · simp only [if_true, List.nil_append, List.cons_ne_nil, if_false, reduceCtorEq]
      unfold appendOp
      rw [e1, e2]
      simp only [e3, List.length_singleton, Nat.one_mul, ne_eq, not_true_eq_false, Bool.false_eq_true, or_self, if_false, Nat.one_ne_zero]
      rfl
  · have hne : C ++ [s] ≠ [] := by simp
    rw [if_neg hC, if_neg hC, if_neg hne, if_neg hne]
    have hlen : 0 < C.length := List.length_pos_iff.2 hC
    have hg : (sB (C.length - 1) C)[0]? = some (.cells (C.length - 1) true (sC C)) := rfl
    have hs : TM.sub (sC C) 0 (C.length * 1) = some (sC C) := by
      simp only [TM.sub, sC_len, Nat.mul_one, Nat.zero_add, Nat.le_refl, if_true, List.drop_zero]
      rw [List.take_of_length_le (by rw [sC_len]; exact Nat.le_refl _)]
    have hset : (sB (C.length - 1) C).set 0 (.cells (C.length - 1 + 1) true (sC C ++ [.iv (.str s)])) = sB ((C ++ [s]).length - 1) (C ++ [s]) := by
      simp [sB, sC]; omega
    unfold appendOp
    rw [e1, e2]
    simp only [hg]
    simp only [e3, List.length_singleton, Nat.one_mul, ne_eq, not_true_eq_false, Bool.false_eq_true, or_self, if_false, Nat.one_ne_zero, hr, Bool.not_true, hs, if_true, hset]
    rw [if_neg (by omega)]
    simp; omega
def pad4 (r : Int) : List UInt8 := [d8 (r / 1000), d8 (r / 100 % 10), d8 (r / 10 % 10), d8 (r % 10)]
def chk : Nat → Int → List (List UInt8)
  | 0, _ => []
  | k + 1, v => if v ≤ 0 then [] else if v < 10000 then [itoa v] else pad4 (v % 10000) :: chk k (v / 10000)
theorem itoa_pad (r : Int) (h : 0 ≤ r ∧ r ≤ 9999) : ∃ z, (z = [] ∨ z = [48] ∨ z = [48, 48] ∨ z = [48, 48, 48]) ∧ (z.length : Int) = 4 - (itoa r).length ∧ z ++ itoa r = pad4 r ∧ Pure K 47 [.iv (.str [48]), .iv (.int .i64 (4 - (itoa r).length))] (.iv (.str z)) := by
  have d0 : d8 0 = 48 := rfl
  unfold itoa pad4
  by_cases h1 : r < 100
  · by_cases h2 : r < 10
    · rw [if_pos h1, if_pos h2]
      refine ⟨[48, 48, 48], .inr (.inr (.inr rfl)), rfl, ?_, rep3⟩
      rw [show r / 1000 = 0 by omega, show r / 100 % 10 = 0 by omega, show r / 10 % 10 = 0 by omega, show r % 10 = r by omega, d0]
      rfl
    · rw [if_pos h1, if_neg h2]
      refine ⟨[48, 48], .inr (.inr (.inl rfl)), rfl, ?_, rep2⟩
      rw [show r / 1000 = 0 by omega, show r / 100 % 10 = 0 by omega, show r / 10 % 10 = r / 10 by omega, d0]
      rfl
  · by_cases h2 : r < 1000
    · rw [if_neg h1, if_pos h2]
      refine ⟨[48], .inr (.inl rfl), rfl, ?_, rep1⟩
      rw [show r / 1000 = 0 by omega, show r / 100 % 10 = r / 100 by omega, d0]
      rfl
    · rw [if_neg h1, if_neg h2]
      exact ⟨[], .inl rfl, rfl, rfl, rep0⟩
theorem itoa_len (r : Int) : 1 ≤ (itoa r).length ∧ (itoa r).length ≤ 4 := by
  unfold itoa
  repeat' split
  all_goals simp
end Go.Proofs.YtdbffhgfjmhaiaaDoor
