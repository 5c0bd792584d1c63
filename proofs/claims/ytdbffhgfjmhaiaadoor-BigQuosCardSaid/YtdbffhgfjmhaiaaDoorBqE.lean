/- Digits that are written: appended, added, taken off. Condition: none. -/
import Derived.Test.YtdbffhgfjmhaiaaDoorBqD
set_option maxRecDepth 100000
set_option linter.unusedSimpArgs false
set_option linter.unusedVariables false
namespace Go.Proofs.YtdbffhgfjmhaiaaDoor
open Go Go.TM
theorem val_drop (B : Int) (l : List Int) (i : Nat) : val B (l.drop i) = l.getD i default + B * val B (l.drop (i + 1)) := by
  by_cases h : i < l.length
  · rw [drop_getD h]; rfl
  · rw [List.drop_of_length_le (by omega), List.drop_of_length_le (by omega)]
    simp [List.getD, List.getElem?_eq_none (show l.length ≤ i by omega), val]
theorem Dig.getD0 {B : Int} (hB : 0 < B) {l : List Int} (hd : Dig B l) (i : Nat) : 0 ≤ l.getD i default ∧ l.getD i default < B := by
  by_cases h : i < l.length
  · exact hd.getD h
  · rw [List.getD, List.getElem?_eq_none (by omega)]
    exact ⟨Int.le_refl 0, hB⟩
theorem call76 (t : Tag) (l : List Int) (hd : Dig 65536 l) (hl : l.length ≤ 1000000) (i : Nat) (hi : i ≤ 1000000) : (lim K).call 76 [.iv (.sl t (one d16 l)), .iv (.int .i64 i)] [] = .ret (.iv (.int .u32 (l.getD i default)), []) := by
  refine call_ret' K [] (fn := t76) rfl rfl ?_
  by_cases h : i < l.length
  · have hix := ix_one d16 (t := t) (l := l) (i := (i : Int)) (by omega)
    rw [Int.toNat_natCast] at hix
    have hg := hd.getD h
    simp only [d16] at hix
    simp (config := { maxSteps := 4000000 }) (disch := omega) only [t76, go_sem, Nat.reduceAdd, Nat.reduceSub, Nat.reduceLT, Nat.reduceLeDiff, Nat.reduceEqDiff, Nat.reduceBEq, reduceIte, reduceCtorEq, Int.reduceEq, Int.reduceLT, Int.reduceLE, Int.reduceAdd, Int.reduceSub, Int.reduceMul, Int.reduceToNat, Int.reduceNeg, Int.reduceBEq, Int.reducePow, Nat.reducePow, hix, wrap_u32]
  · rw [List.getD, List.getElem?_eq_none (by omega)]
    simp (config := { maxSteps := 4000000 }) (disch := omega) only [t76, go_sem, Nat.reduceAdd, Nat.reduceSub, Nat.reduceLT, Nat.reduceLeDiff, Nat.reduceEqDiff, Nat.reduceBEq, reduceIte, reduceCtorEq, Int.reduceEq, Int.reduceLT, Int.reduceLE, Int.reduceAdd, Int.reduceSub, Int.reduceMul, Int.reduceToNat, Int.reduceNeg, Int.reduceBEq, Int.reducePow, Nat.reducePow]
    rfl
def sm (a b : List Int) : Nat → Nat → Int → List Int × Int
  | 0, _, c => ([], c)
  | n + 1, i, c => ((c + (a.getD i default + b.getD i default)) % 65536 :: (sm a b n (i + 1) ((c + (a.getD i default + b.getD i default)) / 65536)).1, (sm a b n (i + 1) ((c + (a.getD i default + b.getD i default)) / 65536)).2)
theorem sm_spec {a b : List Int} (ha : Dig 65536 a) (hb : Dig 65536 b) : ∀ (n i : Nat) (c : Int), a.length ≤ i + n → b.length ≤ i + n → 0 ≤ c ∧ c ≤ 1 →
    Dig 65536 (sm a b n i c).1 ∧ (sm a b n i c).1.length = n ∧ 0 ≤ (sm a b n i c).2 ∧ (sm a b n i c).2 ≤ 1 ∧ val 65536 (sm a b n i c).1 + 65536 ^ n * (sm a b n i c).2 = c + (val 65536 (a.drop i) + val 65536 (b.drop i))
  | 0, i, c, h1, h2, hc => by
    rw [List.drop_of_length_le (by omega), List.drop_of_length_le (by omega)]
    refine ⟨Dig.nil, rfl, hc.1, hc.2, ?_⟩
    simp [sm, val]
  | n + 1, i, c, h1, h2, hc => by
    have g1 := ha.getD0 (by decide) i
    have g2 := hb.getD0 (by decide) i
    obtain ⟨i1, i2, i3, i4, i5⟩ := sm_spec ha hb n (i + 1) ((c + (a.getD i default + b.getD i default)) / 65536) (by omega) (by omega) (by omega)
    rw [val_drop _ a i, val_drop _ b i]
    simp only [sm]
    refine ⟨Dig.cons (by omega) i1, by rw [List.length_cons, i2], i3, i4, ?_⟩
    simp only [val, Int.pow_succ]
    rw [Int.mul_comm (65536 ^ n) 65536, Int.mul_assoc]
    omega
theorem pow_le' {B : Int} (hB : 1 < B) {n m : Nat} (h : n ≤ m) : B ^ n ≤ B ^ m := by
  obtain ⟨k, rfl⟩ := Nat.le.dest h
  rw [Int.pow_add]
  have h1 := pow_pos' hB n
  have h2 := pow_pos' hB k
  have := Int.mul_le_mul_of_nonneg_left (show 1 ≤ B ^ k by omega) (Int.le_of_lt h1)
  omega
theorem max_i64 (a b : Int) : minmax true (.int .i64 a) [.iv (.int .i64 b)] = some (.int .i64 (if a < b then b else a)) := by
  simp only [minmax, min2]
  by_cases h : a < b <;> simp [h]
def ls (a b : List Int) : Nat → Nat → Int → List Int × Int
  | 0, _, c => ([], c)
  | n + 1, i, c => ((65536 + a.getD i default - b.getD i default - c) % 65536 :: (ls a b n (i + 1) (1 - (65536 + a.getD i default - b.getD i default - c) / 65536)).1, (ls a b n (i + 1) (1 - (65536 + a.getD i default - b.getD i default - c) / 65536)).2)
theorem ls_spec {a b : List Int} (ha : Dig 65536 a) (hb : Dig 65536 b) : ∀ (n i : Nat) (c : Int), a.length ≤ i + n → b.length ≤ i + n → 0 ≤ c ∧ c ≤ 1 →
    Dig 65536 (ls a b n i c).1 ∧ (ls a b n i c).1.length = n ∧ 0 ≤ (ls a b n i c).2 ∧ (ls a b n i c).2 ≤ 1 ∧ val 65536 (ls a b n i c).1 + c + val 65536 (b.drop i) = val 65536 (a.drop i) + 65536 ^ n * (ls a b n i c).2
  | 0, i, c, h1, h2, hc => by
    rw [List.drop_of_length_le (by omega), List.drop_of_length_le (by omega)]
    refine ⟨Dig.nil, rfl, hc.1, hc.2, ?_⟩
    simp [ls, val]
  | n + 1, i, c, h1, h2, hc => by
    have g1 := ha.getD0 (by decide) i
    have g2 := hb.getD0 (by decide) i
    obtain ⟨i1, i2, i3, i4, i5⟩ := ls_spec ha hb n (i + 1) (1 - (65536 + a.getD i default - b.getD i default - c) / 65536) (by omega) (by omega) (by omega)
    rw [val_drop _ a i, val_drop _ b i]
    simp only [ls]
    refine ⟨Dig.cons (by omega) i1, by rw [List.length_cons, i2], i3, i4, ?_⟩
    simp only [val, Int.pow_succ]
    rw [Int.mul_comm (65536 ^ n) 65536, Int.mul_assoc]
    omega
def Pl (x : TV) : Prop := (∃ v, x = .iv v) ∨ (∃ a b c d e f, x = .msl a b c d e f)
theorem Pl.loc {x : TV} (h : Pl x) (j : Nat) : locV j x = x := by
  rcases h with ⟨v, rfl⟩ | ⟨a, b, c, d, e, f, rfl⟩ <;> rfl
theorem Pl.nlp {x : TV} (h : Pl x) : isLp x = false := by
  rcases h with ⟨v, rfl⟩ | ⟨a, b, c, d, e, f, rfl⟩ <;> rfl
theorem Pl.resK {x : TV} (h : Pl x) : resK x = some x := by
  rcases h with ⟨v, rfl⟩ | ⟨a, b, c, d, e, f, rfl⟩ <;> rfl
theorem Pl.wb {x : TV} (h : Pl x) (K : Prog) (O : Orc) (j : Nat) (ops : List TOper) (i : Nat) (M : List (Nat × TV)) (n : Nat) (fs : List Fr) (env : Env) (S : Store) : wbV' K O x j ops i M n fs env S = wbk' K O ops (i + 1) M n fs (env.set j x) S := by
  rcases h with ⟨v, rfl⟩ | ⟨a, b, c, d, e, f, rfl⟩
  · exact wbV_iv' K O ops i M n fs env S _ j
  · exact wbV_msl' K O ops i M n fs env S _ _ _ _ _ _ j
theorem DV.pl {m : Bool} {P : Nat → Prop} {S : Store} {x : TV} {l : List Int} (h : DV m P S x l) : Pl x := by
  cases h with
  | iv t l h hm => exact .inl ⟨_, rfl⟩
  | ms i v off len cap b C l h h1 h2 hP hl => exact .inr ⟨_, _, _, _, _, _, rfl⟩
def aM (S : Store) (C : List Int) : TV := if C = [] then .iv (.sl .nil (one d16 [])) else .msl S.length (C.length - 1) 0 C.length C.length 1
def aS (S : Store) (C : List Int) : Store := if C = [] then S else S ++ [.cells (C.length - 1) true (cellsF d16 C)]
theorem aM_nil (S : Store) : aM S [] = .iv (.sl .nil []) := by simp [aM]; rfl
theorem aS_nil (S : Store) : aS S [] = S := by simp [aS]
theorem aS_app (S : Store) (C : List Int) : ∃ R, aS S C = S ++ R := by
  unfold aS
  split
  · exact ⟨[], by simp⟩
  · exact ⟨_, rfl⟩
theorem aM_pl (S : Store) (C : List Int) : Pl (aM S C) := by
  unfold aM
  split
  · exact .inl ⟨_, rfl⟩
  · exact .inr ⟨_, _, _, _, _, _, rfl⟩
theorem DV.aS {m : Bool} {P : Nat → Prop} {S : Store} {x : TV} {l : List Int} (h : DV m P S x l) (C : List Int) : DV m P (aS S C) x l := by
  obtain ⟨R, e⟩ := aS_app S C
  rw [e]; exact h.app R
theorem aM_dv (S : Store) (C : List Int) : DV true (fun i => S.length ≤ i) (aS S C) (aM S C) C := by
  unfold aM Go.Proofs.YtdbffhgfjmhaiaaDoor.aS
  by_cases h : C = []
  · rw [if_pos h, if_pos h, h]; exact .iv _ _ TagOk.nil (fun _ => rfl)
  · rw [if_neg h, if_neg h]
    exact .ms _ _ _ _ _ true C C (by rw [List.getElem?_append_right (Nat.le_refl _)]; simp) (Nat.le_refl _) (by omega) (Nat.le_refl _) (by simp)
theorem ap_aM (S : Store) (C : List Int) (a : Int) (t : Tag) (h : C.length ≤ 1000000) : appendOp true 1 2 55 (aS S C) (aM S C) (.iv (.sl t [[d16 a]])) = some (aM S (C ++ [a]), aS S (C ++ [a])) := by
  have hr : roomy (C.length + 1) 2 = true := roomy_ok (by omega)
  have e1 : ∀ S, elemsTV S (.iv (.sl t [[d16 a]])) = some [.iv (d16 a)] := fun S => rfl
  have e2 : ∀ S, lenOf S (.iv (.sl t [[d16 a]])) = some 1 := fun S => rfl
  have e3 : [TV.iv (d16 a)].any isRefL = false := rfl
  unfold aM Go.Proofs.YtdbffhgfjmhaiaaDoor.aS
  by_cases hC : C = []
  · subst hC
    simp only [if_true, List.nil_append, List.cons_ne_nil, if_false, reduceCtorEq]
    unfold appendOp
    rw [e1, e2]
    simp only [e3, List.length_singleton, Nat.one_mul, ne_eq, not_true_eq_false, Bool.false_eq_true, or_self, if_false, Nat.one_ne_zero]
    rfl
  · have hne : C ++ [a] ≠ [] := by simp
    rw [if_neg hC, if_neg hC, if_neg hne, if_neg hne]
    have hlen : 0 < C.length := List.length_pos_iff.2 hC
    have hg : (S ++ [Block.cells (C.length - 1) true (cellsF d16 C)])[S.length]? = some (.cells (C.length - 1) true (cellsF d16 C)) := by rw [List.getElem?_append_right (Nat.le_refl _)]; simp
    have hs : TM.sub (cellsF d16 C) 0 (C.length * 1) = some (cellsF d16 C) := by
      simp only [TM.sub, cellsF_len, Nat.mul_one, Nat.zero_add, Nat.le_refl, if_true, List.drop_zero]
      rw [List.take_of_length_le (by rw [cellsF_len]; exact Nat.le_refl _)]
    have hset : (S ++ [Block.cells (C.length - 1) true (cellsF d16 C)]).set S.length (.cells (C.length - 1 + 1) true (cellsF d16 C ++ [.iv (d16 a)])) = S ++ [.cells ((C ++ [a]).length - 1) true (cellsF d16 (C ++ [a]))] := by
      rw [List.set_append_right _ _ (Nat.le_refl _)]
      simp [cellsF]; omega
    unfold appendOp
    rw [e1, e2]
    simp only [hg]
    simp only [e3, List.length_singleton, Nat.one_mul, ne_eq, not_true_eq_false, Bool.false_eq_true, or_self, if_false, Nat.one_ne_zero, hr, Bool.not_true, hs, if_true, hset]
    rw [if_neg (by omega)]
    simp; omega
end Go.Proofs.YtdbffhgfjmhaiaaDoor
