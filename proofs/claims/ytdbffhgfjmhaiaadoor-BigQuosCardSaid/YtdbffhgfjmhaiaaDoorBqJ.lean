/- The contracts of Sub, Mul where digits are written. Condition: none. -/
import Derived.Test.YtdbffhgfjmhaiaaDoorBqI
set_option maxRecDepth 100000
set_option linter.unusedSimpArgs false
set_option linter.unusedVariables false
namespace Go.Proofs.YtdbffhgfjmhaiaaDoor
open Go Go.TM
theorem getD_set_ne {l : List Int} {p q : Nat} (h : p ≠ q) (v : Int) : (l.set p v).getD q default = l.getD q default := by
  simp [List.getD, List.getElem?_set_ne h]
theorem Dig.set {B : Int} {l : List Int} (hd : Dig B l) (p : Nat) {v : Int} (hv : 0 ≤ v ∧ v < B) : Dig B (l.set p v) := fun x hx => by
  rcases List.mem_or_eq_of_mem_set hx with h | rfl
  · exact hd _ h
  · exact hv
theorem val_set (B : Int) : ∀ (l : List Int) (p : Nat) (v : Int), p < l.length → val B (l.set p v) = val B l + B ^ p * (v - l.getD p default)
  | a :: l, 0, v, h => by simp [val, List.getD]; omega
  | a :: l, p + 1, v, h => by
    have ih := val_set B l p v (by simpa using h)
    have e : (a :: l).getD (p + 1) default = l.getD p default := by simp [List.getD]
    rw [e, List.set_cons_succ]
    simp only [val]
    rw [ih, Int.pow_succ, Int.mul_add, Int.mul_comm (B ^ p) B, Int.mul_assoc]
    omega
theorem val_rep0 (B : Int) : ∀ (n : Nat), val B (List.replicate n 0) = 0
  | 0 => rfl
  | n + 1 => by simp [List.replicate_succ, val, val_rep0 B n]
theorem Dig.rep0 {B : Int} (hB : 0 < B) (n : Nat) : Dig B (List.replicate n 0) := fun x hx => by
  rw [List.eq_of_mem_replicate hx]; exact ⟨Int.le_refl _, hB⟩
theorem getD_rep0 (n q : Nat) : (List.replicate n (0 : Int)).getD q default = 0 := by
  simp only [List.getD, List.getElem?_replicate]
  split <;> rfl
theorem get_last (S : Store) (B : Block) : (S ++ [B])[S.length]? = some B := by rw [List.getElem?_append_right (Nat.le_refl _)]; simp
theorem set_last (S : Store) (B C : Block) : (S ++ [B]).set S.length C = S ++ [C] := by rw [List.set_append_right _ _ (Nat.le_refl _)]; simp
theorem subV {t1 t2 : Tag} {a b : List Int} (k1 : TagOk t1 a) (k2 : TagOk t2 b) (n1 n2 : Bool) (ha : Dig 65536 a) (hb : Dig 65536 b) (h1 : a.length ≤ 80000) (h2 : b.length ≤ 80000) (z : Int) (hz : z = sv n1 (val 65536 a) - sv n2 (val 65536 b)) :
    ∃ t', TagOk t' (dg 65536 z.natAbs) ∧ Pure K 27 [.iv (num n1 t1 a), .iv (num n2 t2 b)] (.iv (bg t' z)) := by
  obtain ⟨w, R, hw, h26⟩ := addV (S := []) (DV.iv (m := false) (P := fun _ => True) t1 a k1 (fun h => by cases h)) (DV.iv (m := false) (P := fun _ => True) t2 b k2 (fun h => by cases h)) n1 (!n2) ha hb h1 h2 z (by rw [hz]; cases n2 <;> simp [sv] <;> omega)
  rw [List.nil_append] at hw h26
  rw [agT_iv, agT_iv] at h26
  obtain ⟨t', j1, j2, j3, j4⟩ := hw.res
  refine ⟨t', j1, call_pure t27 rfl rfl ?_⟩
  simp only [bg, num]
  generalize decide (z < 0) = zb at *
  generalize dg 65536 z.natAbs = zl at *
  rcases hw.pl with ⟨v, rfl⟩ | ⟨c1, c2, c3, c4, c5, c6, rfl⟩
  · rcases hw with ⟨t3, _, l1, l2⟩
    simp only [res1] at j2
    obtain rfl : t3 = t' := by
      injection j2 with j2
      injection j2
    rw [agT_iv] at h26
    cases n2 <;> simp only [Bool.not_false, Bool.not_true] at h26 <;> simp (config := { maxSteps := 4000000 }) (disch := omega) only [t27, go_sem, Nat.reduceAdd, Nat.reduceSub, Nat.reduceLT, Nat.reduceLeDiff, Nat.reduceEqDiff, Nat.reduceBEq, reduceIte, reduceCtorEq, Int.reduceEq, Int.reduceLT, Int.reduceLE, Int.reduceAdd, Int.reduceSub, Int.reduceMul, Int.reduceToNat, Int.reduceNeg, Int.reduceBEq, Int.reducePow, Nat.reducePow, h26, resB_ret, resO_some, Bool.not_false, Bool.not_true]
  · rw [agT_msl] at h26
    cases n2 <;> simp only [Bool.not_false, Bool.not_true] at h26 <;> simp (config := { maxSteps := 4000000 }) (disch := omega) only [t27, go_sem, Nat.reduceAdd, Nat.reduceSub, Nat.reduceLT, Nat.reduceLeDiff, Nat.reduceEqDiff, Nat.reduceBEq, reduceIte, reduceCtorEq, Int.reduceEq, Int.reduceLT, Int.reduceLE, Int.reduceAdd, Int.reduceSub, Int.reduceMul, Int.reduceToNat, Int.reduceNeg, Int.reduceBEq, Int.reducePow, Nat.reducePow, h26, j2, resB_ret, resO_some, Bool.not_false, Bool.not_true]
end Go.Proofs.YtdbffhgfjmhaiaaDoor
