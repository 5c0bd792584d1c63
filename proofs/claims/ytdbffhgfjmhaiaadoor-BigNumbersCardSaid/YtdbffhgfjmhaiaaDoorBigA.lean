/- The contracts of big: noughts above are left off. Condition: none. -/
import Derived.Test.YtdbffhgfjmhaiaaDoorTmProg
import Derived.Test.YtdbffhgfjmhaiaaDoorTmE
set_option maxRecDepth 100000
set_option linter.unusedSimpArgs false
set_option linter.unusedVariables false
namespace Go.Proofs.YtdbffhgfjmhaiaaDoor
open Go Go.TM
attribute [go_sem] beq_self_eq_true decT decF ifT ifF eqT eqF neT neF bytesIV_length one_length get_cp get_cp0 List.replicate List.cons_append List.nil_append decide_true decide_false
def d16 (n : Int) : IV := .int .u16 n
def tr : List Int → List Int
  | [] => []
  | a :: l => if tr l = [] then (if a = 0 then [] else [a]) else a :: tr l
theorem tr_zero : ∀ (l : List Int), tr (l ++ [0]) = tr l
  | [] => rfl
  | a :: l => by simp only [List.cons_append, tr, tr_zero l]
theorem tr_last {a : Int} (h : a ≠ 0) : ∀ (l : List Int), tr (l ++ [a]) = l ++ [a]
  | [] => by simp [tr, h]
  | b :: l => by
    have e : ¬ l ++ [a] = [] := by simp
    simp only [List.cons_append, tr, tr_last h l, e, ↓reduceIte]
theorem tr_pre : ∀ (l : List Int), ∃ m, l = tr l ++ m
  | [] => ⟨[], rfl⟩
  | a :: l => by
    obtain ⟨m, hm⟩ := tr_pre l
    by_cases h : tr l = []
    · by_cases h0 : a = 0
      · exact ⟨a :: l, by simp [tr, h, h0]⟩
      · exact ⟨l, by simp [tr, h, h0]⟩
    · exact ⟨m, by simp only [tr, h, ↓reduceIte, List.cons_append]; rw [← hm]⟩
theorem tr_len (l : List Int) : (tr l).length ≤ l.length := by
  obtain ⟨m, hm⟩ := tr_pre l
  have := congrArg List.length hm
  simp at this; omega
theorem snoc_cases {α : Type} (l : List α) : l = [] ∨ ∃ m a, l = m ++ [a] := by
  rcases List.eq_nil_or_concat l with h | ⟨m, a, h⟩
  · exact .inl h
  · exact .inr ⟨m, a, by simpa using h⟩
theorem getD_snoc (m : List Int) (a : Int) : (m ++ [a]).getD m.length default = a := by simp [List.getD]
theorem take_snoc {α : Type} (m : List α) (a : α) : (m ++ [a]).take m.length = m := by simp
theorem tagcut {t : Tag} {m : List Int} {a : Int} (h : TagOk t (m ++ [a])) : TagOk (cutTag t (m ++ [a]).length m.length) m := by
  have := h.cut 0 m.length (m ++ [a]).length
  simpa using this
theorem loop40 (S : Store) : ∀ (n : Nat) (t : Tag) (l : List Int) (x1 y : TV), l.length = n → n ≤ 1000000 → TagOk t l →
    ∃ t' y', TagOk t' (tr l) ∧ lp' (lim K) t40L0 [.iv (.sl t (one d16 l)), x1, y] S = .ret (.exit 0, [.iv (.sl t' (one d16 (tr l))), x1, y'], S)
  | 0, t, l, x1, y, h, hn, ht => by
    obtain rfl : l = [] := List.length_eq_zero_iff.1 h
    refine ⟨t, ?_, ht, loop_at K _ _ t40L0.eq_1 ?_⟩
    rotate_left
    · simp (disch := omega) only [go_sem, Nat.reduceAdd, Nat.reduceSub, Nat.reduceLT, Nat.reduceLeDiff, Nat.reduceEqDiff, Nat.reduceBEq, reduceIte, reduceCtorEq, Int.reduceEq, Int.reduceLT, Int.reduceLE, Int.reduceAdd, Int.reduceSub, Int.reduceMul, Int.reduceToNat, Int.reduceNeg, Int.reduceBEq, Int.reducePow, Nat.reducePow, tr, List.length_nil]
      rfl
  | n + 1, t, l, x1, y, h, hn, ht => by
    rcases snoc_cases l with rfl | ⟨m, a, rfl⟩
    · simp at h
    have hm : m.length = n := by simpa using h
    have hl : (m ++ [a]).length = m.length + 1 := by simp
    have hsl := fun S => slice_one_hi (f := d16) S (t := t) (l := m ++ [a]) (b := (m.length : Int)) ht (by omega)
    have hix := ix_one d16 (t := t) (l := m ++ [a]) (i := (m.length : Int)) (by omega)
    rw [Int.toNat_natCast, getD_snoc] at hix
    rw [Int.toNat_natCast, take_snoc] at hsl
    have e1 : ((m.length : Int) + 1 - 1) = m.length := by omega
    by_cases ha : a = 0
    · subst ha
      obtain ⟨t', y', h1, ih⟩ := loop40 S n (cutTag t (m ++ [0]).length m.length) m x1 (.iv (.bool true)) hm (by omega) (tagcut ht)
      rw [tr_zero]
      refine ⟨t', y', h1, loop_at K _ _ t40L0.eq_1 ?_⟩
      simp (disch := omega) only [go_sem, Nat.reduceAdd, Nat.reduceSub, Nat.reduceLT, Nat.reduceLeDiff, Nat.reduceEqDiff, Nat.reduceBEq, reduceIte, reduceCtorEq, Int.reduceEq, Int.reduceLT, Int.reduceLE, Int.reduceAdd, Int.reduceSub, Int.reduceMul, Int.reduceToNat, Int.reduceNeg, Int.reduceBEq, Int.reducePow, Nat.reducePow, hl, Int.natCast_add, Int.cast_ofNat_Int, wrap_i64, hix, hsl, e1, d16]
      rw [hl] at ih
      exact congrArg er ih
    · rw [tr_last ha]
      refine ⟨t, ?_, ht, loop_at K _ _ t40L0.eq_1 ?_⟩
      rotate_left
      · simp (disch := omega) only [go_sem, Nat.reduceAdd, Nat.reduceSub, Nat.reduceLT, Nat.reduceLeDiff, Nat.reduceEqDiff, Nat.reduceBEq, reduceIte, reduceCtorEq, Int.reduceEq, Int.reduceLT, Int.reduceLE, Int.reduceAdd, Int.reduceSub, Int.reduceMul, Int.reduceToNat, Int.reduceNeg, Int.reduceBEq, Int.reducePow, Nat.reducePow, hl, Int.natCast_add, Int.cast_ofNat_Int, wrap_i64, hix, hsl, e1, d16]
        rfl
theorem call40 (t : Tag) (l : List Int) (ht : TagOk t l) (hl : l.length ≤ 1000000) : ∃ t', TagOk t' (tr l) ∧ (lim K).call 40 [.iv (.sl t (one d16 l))] [] = .ret (.iv (.sl t' (one d16 (tr l))), []) := by
  obtain ⟨t', y', h1, e⟩ := loop40 [] l.length t l (.iv (.sl .nil [])) (.tup []) rfl hl ht
  refine ⟨t', h1, call_ret' K [] (fn := t40) rfl rfl ?_⟩
  simp (disch := omega) only [t40, go_sem, Nat.reduceAdd, Nat.reduceSub, Nat.reduceLT, Nat.reduceLeDiff, Nat.reduceEqDiff, Nat.reduceBEq, reduceIte, reduceCtorEq, Int.reduceEq, Int.reduceLT, Int.reduceLE, Int.reduceAdd, Int.reduceSub, Int.reduceMul, Int.reduceToNat, Int.reduceNeg, Int.reduceBEq, Int.reducePow, Nat.reducePow, e]
def num (neg : Bool) (t : Tag) (l : List Int) : IV := .agg [.bool neg, .sl t (one d16 l)]
def sg (neg : Bool) (l : List Int) : Bool := neg && decide (0 < l.length)
theorem call42 (neg : Bool) (t : Tag) (l : List Int) (ht : TagOk t l) (hl : l.length ≤ 1000000) : ∃ t', TagOk t' (tr l) ∧ Pure K 42 [.iv (.bool neg), .iv (.sl t (one d16 l))] (.iv (num (sg neg (tr l)) t' (tr l))) := by
  obtain ⟨t', h1, e⟩ := call40 t l ht hl
  refine ⟨t', h1, call_pure t42 rfl rfl ?_⟩
  have := tr_len l
  simp (disch := omega) only [t42, go_sem, Nat.reduceAdd, Nat.reduceSub, Nat.reduceLT, Nat.reduceLeDiff, Nat.reduceEqDiff, Nat.reduceBEq, reduceIte, reduceCtorEq, Int.reduceEq, Int.reduceLT, Int.reduceLE, Int.reduceAdd, Int.reduceSub, Int.reduceMul, Int.reduceToNat, Int.reduceNeg, Int.reduceBEq, Int.reducePow, Nat.reducePow, e]
  repeat' (first | (first | refine br_dec' (fun h => ?_) (fun h => ?_) | refine br_beq' (fun h => ?_) (fun h => ?_) | refine br_bne' (fun h => ?_) (fun h => ?_) | refine br_eq' (fun h => ?_) (fun h => ?_)) | simp (disch := omega) only [go_sem, Nat.reduceAdd, Nat.reduceSub, Nat.reduceLT, Nat.reduceLeDiff, Nat.reduceEqDiff, Nat.reduceBEq, reduceIte, reduceCtorEq, Int.reduceEq, Int.reduceLT, Int.reduceLE, Int.reduceAdd, Int.reduceSub, Int.reduceMul, Int.reduceToNat, Int.reduceNeg, Int.reduceBEq, Int.reducePow, Nat.reducePow, e])
  all_goals simp [num, sg, *]
/-! ### The document's -/
def dnum (neg : Bool) (t : Tag) (l : List Int) : IV := .agg [.bool neg, .sl t (one i64 l)]
theorem loop62 (S : Store) (t : Tag) (l : List Int) (hl : l.length ≤ 1000000) (x1 : TV) : ∀ (n : Nat) (m r : List Int) (y : TV), l = m ++ r → m.length = n →
    ∃ y', lp' (lim K) t62L0 [.iv (.sl t (one i64 l)), x1, .iv (.int .i64 n), y] S = .ret (.exit 0, [.iv (.sl t (one i64 l)), x1, .iv (.int .i64 (tr m).length), y'], S)
  | 0, m, r, y, h, hn => by
    obtain rfl : m = [] := List.length_eq_zero_iff.1 hn
    refine ⟨?_, loop_at K _ _ t62L0.eq_1 ?_⟩
    rotate_left
    · simp (disch := omega) only [go_sem, Nat.reduceAdd, Nat.reduceSub, Nat.reduceLT, Nat.reduceLeDiff, Nat.reduceEqDiff, Nat.reduceBEq, reduceIte, reduceCtorEq, Int.reduceEq, Int.reduceLT, Int.reduceLE, Int.reduceAdd, Int.reduceSub, Int.reduceMul, Int.reduceToNat, Int.reduceNeg, Int.reduceBEq, Int.reducePow, Nat.reducePow, tr, List.length_nil]
      rfl
  | n + 1, m, r, y, h, hn => by
    rcases snoc_cases m with rfl | ⟨m, a, rfl⟩
    · simp at hn
    have hm : m.length = n := by simpa using hn
    have hll : m.length < l.length := by rw [h]; simp
    have hix := ix_one i64 (t := t) (l := l) (i := (m.length : Int)) (by omega)
    have hg : l.getD m.length default = a := by rw [h]; simp [List.getD]
    rw [Int.toNat_natCast, hg, hm] at hix
    have e1 : ((n : Int) + 1 - 1) = n := by omega
    by_cases ha : a = 0
    · subst ha
      obtain ⟨y', ih⟩ := loop62 S t l hl x1 n m ([0] ++ r) (.iv (.bool true)) (by rw [h, List.append_assoc]) hm
      rw [tr_zero]
      refine ⟨y', loop_at K _ _ t62L0.eq_1 ?_⟩
      simp (disch := omega) only [go_sem, Nat.reduceAdd, Nat.reduceSub, Nat.reduceLT, Nat.reduceLeDiff, Nat.reduceEqDiff, Nat.reduceBEq, reduceIte, reduceCtorEq, Int.reduceEq, Int.reduceLT, Int.reduceLE, Int.reduceAdd, Int.reduceSub, Int.reduceMul, Int.reduceToNat, Int.reduceNeg, Int.reduceBEq, Int.reducePow, Nat.reducePow, Int.natCast_add, Int.cast_ofNat_Int, wrap_i64, e1, hix, i64]
      exact congrArg er ih
    · rw [tr_last ha]
      refine ⟨?_, loop_at K _ _ t62L0.eq_1 ?_⟩
      rotate_left
      · simp (disch := omega) only [go_sem, Nat.reduceAdd, Nat.reduceSub, Nat.reduceLT, Nat.reduceLeDiff, Nat.reduceEqDiff, Nat.reduceBEq, reduceIte, reduceCtorEq, Int.reduceEq, Int.reduceLT, Int.reduceLE, Int.reduceAdd, Int.reduceSub, Int.reduceMul, Int.reduceToNat, Int.reduceNeg, Int.reduceBEq, Int.reducePow, Nat.reducePow, Int.natCast_add, Int.cast_ofNat_Int, wrap_i64, e1, hix, i64, hn]
        rfl
theorem call62 (t : Tag) (l : List Int) (ht : TagOk t l) (hl : l.length ≤ 1000000) : ∃ t', TagOk t' (tr l) ∧ (lim K).call 62 [.iv (.sl t (one i64 l))] [] = .ret (.iv (.sl t' (one i64 (tr l))), []) := by
  obtain ⟨y', e⟩ := loop62 [] t l hl (.iv (.sl .nil [])) l.length l [] (.tup []) (by simp) rfl
  have h1 := tr_len l
  obtain ⟨m, hm⟩ := tr_pre l
  have hk : l.take (tr l).length = tr l := by
    rw [show l.take (tr l).length = (tr l ++ m).take (tr l).length by rw [← hm]]
    exact List.take_left' rfl
  have hsl := fun S => slice_one_hi (f := i64) S (t := t) (l := l) (b := ((tr l).length : Int)) ht (by omega)
  rw [Int.toNat_natCast, hk] at hsl
  have htag := ht.cut 0 (tr l).length l.length
  refine ⟨cutTag t l.length (tr l).length, by simpa [hk] using htag, call_ret' K [] (fn := t62) rfl rfl ?_⟩
  simp (disch := omega) only [t62, go_sem, Nat.reduceAdd, Nat.reduceSub, Nat.reduceLT, Nat.reduceLeDiff, Nat.reduceEqDiff, Nat.reduceBEq, reduceIte, reduceCtorEq, Int.reduceEq, Int.reduceLT, Int.reduceLE, Int.reduceAdd, Int.reduceSub, Int.reduceMul, Int.reduceToNat, Int.reduceNeg, Int.reduceBEq, Int.reducePow, Nat.reducePow, e, hsl]
theorem call43 (neg : Bool) (t : Tag) (l : List Int) (ht : TagOk t l) (hl : l.length ≤ 1000000) : ∃ t', TagOk t' (tr l) ∧ Pure K 43 [.iv (.bool neg), .iv (.sl t (one i64 l))] (.iv (dnum (sg neg (tr l)) t' (tr l))) := by
  obtain ⟨t', h1, e⟩ := call62 t l ht hl
  refine ⟨t', h1, call_pure t43 rfl rfl ?_⟩
  have := tr_len l
  simp (disch := omega) only [t43, go_sem, Nat.reduceAdd, Nat.reduceSub, Nat.reduceLT, Nat.reduceLeDiff, Nat.reduceEqDiff, Nat.reduceBEq, reduceIte, reduceCtorEq, Int.reduceEq, Int.reduceLT, Int.reduceLE, Int.reduceAdd, Int.reduceSub, Int.reduceMul, Int.reduceToNat, Int.reduceNeg, Int.reduceBEq, Int.reducePow, Nat.reducePow, e]
  repeat' (first | (first | refine br_dec' (fun h => ?_) (fun h => ?_) | refine br_beq' (fun h => ?_) (fun h => ?_) | refine br_bne' (fun h => ?_) (fun h => ?_) | refine br_eq' (fun h => ?_) (fun h => ?_)) | simp (disch := omega) only [go_sem, Nat.reduceAdd, Nat.reduceSub, Nat.reduceLT, Nat.reduceLeDiff, Nat.reduceEqDiff, Nat.reduceBEq, reduceIte, reduceCtorEq, Int.reduceEq, Int.reduceLT, Int.reduceLE, Int.reduceAdd, Int.reduceSub, Int.reduceMul, Int.reduceToNat, Int.reduceNeg, Int.reduceBEq, Int.reducePow, Nat.reducePow, e])
  all_goals simp [dnum, sg, *]
