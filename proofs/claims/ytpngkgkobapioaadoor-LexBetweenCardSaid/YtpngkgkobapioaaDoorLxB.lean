/- Lex: the reader's small steps. Condition: none. -/
import Derived.Test.YtpngkgkobapioaaDoorLxA
set_option maxRecDepth 100000
set_option maxHeartbeats 4000000
set_option linter.unusedSimpArgs false
set_option linter.unusedVariables false
namespace Go.Proofs.YtpngkgkobapioaaDoor
open Go Go.TM
def rdB (t : Tag) (b : List UInt8) (i : Nat) : Block := .cells 44 false [.iv (.sl t (bytesIV b)), .iv (.int .i64 i)]
theorem rdB_eq (t : Tag) (b : List UInt8) (i : Nat) : rdB t b i = .cells 44 false [.iv (.sl t (bytesIV b)), .iv (.int .i64 i)] := rfl
theorem call14 (t : Tag) (b : List UInt8) (i : Nat) (R : Store) : (lim K).call 14 [.ptr 0 44 0] (rdB t b i :: R) = .ret (.iv (.bool (decide (b.length ≤ i))), rdB t b i :: R) := by
  simp only [rdB_eq]
  refine call_ret' K _ (fn := t14) rfl rfl ?_
  have e : decide ((b.length : Int) ≤ (i : Int)) = decide (b.length ≤ i) := by rw [decide_eq_decide]; omega
  simp (disch := omega) only [t14, go_sem, ge_iff_le, e]
def beg (l s : List UInt8) : Bool := l.take s.length == s
theorem call19 (t : Tag) (b : List UInt8) (ht : TagOk t b) (i : Nat) (s : List UInt8) (hb : b.length ≤ 16777216) (hi : i ≤ b.length) (hs : s.length ≤ 100) (R : Store) : (lim K).call 19 [.ptr 0 44 0, .iv (.str s)] (rdB t b i :: R) = .ret (.iv (.bool (beg (b.drop i) s)), rdB t b i :: R) := by
  simp only [rdB_eq]
  refine call_ret' K _ (fn := t19) rfl rfl ?_
  by_cases h : i + s.length ≤ b.length
  · have hsl := slice_bytes (.cells 44 false [.iv (.sl t (bytesIV b)), .iv (.int .i64 i)] :: R) (t := t) (l := b) (a := (i : Int)) (b := (i : Int) + s.length) ht (by omega)
    have e1 : ((i : Int) + s.length).toNat - (i : Int).toNat = s.length := by omega
    rw [e1, Int.toNat_natCast] at hsl
    have e2 : beg (b.drop i) s = ((b.drop i).take s.length == s) := rfl
    rw [e2]
    have h2 : bytesOf (bytesIV ((b.drop i).take s.length)) = some ((b.drop i).take s.length) := bytesOf_bytesIV _
    generalize (b.drop i).take s.length = X at *
    simp (config := { maxSteps := 4000000 }) (disch := omega) only [t19, go_sem, wrap_i64, hsl, bsV, h2]
  · have e2 : beg (b.drop i) s = false := by
      unfold beg
      rw [beq_eq_false_iff_ne]
      intro e
      have := congrArg List.length e
      rw [List.length_take, List.length_drop] at this
      omega
    rw [e2]
    simp (config := { maxSteps := 4000000 }) (disch := omega) only [t19, go_sem, wrap_i64]
def pk (l : List UInt8) : UInt8 := l.headD 0
theorem drop_cons {b : List UInt8} {i : Nat} (h : i < b.length) : b.drop i = b.getD i 0 :: b.drop (i + 1) := by
  rw [List.drop_eq_getElem_cons h]
  simp [List.getD, List.getElem?_eq_getElem h]
theorem call35 (t : Tag) (b : List UInt8) (i : Nat) (hb : b.length ≤ 16777216) (hi : i ≤ b.length) (R : Store) : (lim K).call 35 [.ptr 0 44 0, .iv (.int .i64 0)] (rdB t b i :: R) = .ret (.iv (.int .u8 (pk (b.drop i)).toNat), rdB t b i :: R) := by
  simp only [rdB_eq]
  refine call_ret' K _ (fn := t35) rfl rfl ?_
  by_cases h : i < b.length
  · have hix := ix_bytes (t := t) (l := b) (i := (i : Int)) (by omega)
    rw [Int.toNat_natCast] at hix
    rw [drop_cons h, show pk (b.getD i 0 :: b.drop (i + 1)) = b.getD i 0 from rfl]
    simp (config := { maxSteps := 4000000 }) (disch := omega) only [t35, go_sem, Int.add_zero, wrap_i64, hix]
  · rw [List.drop_of_length_le (by omega), show ((pk []).toNat : Int) = 0 from rfl]
    simp (config := { maxSteps := 4000000 }) (disch := omega) only [t35, go_sem, Int.add_zero, wrap_i64]
def runL (l : List UInt8) : List UInt8 := l.takeWhile isSym
theorem runL_len (l : List UInt8) : (runL l).length ≤ l.length := (List.takeWhile_prefix isSym).length_le
theorem loop26 (t : Tag) (b : List UInt8) (hb : b.length ≤ 16777216) (x1 x2 : TV) (R : Store) : ∀ (k i : Nat) (x3 : TV), i + k = b.length →
    ∃ y3, lp' (lim K) t26L0 [.ptr 0 44 0, x1, x2, x3] (rdB t b i :: R) = .ret (.exit 0, [.ptr 0 44 0, x1, x2, y3], rdB t b (i + (runL (b.drop i)).length) :: R)
  | 0, i, x3, h => by
    obtain rfl : i = b.length := by omega
    have h14 := call14 t b b.length R
    rw [decide_eq_true (Nat.le_refl _)] at h14
    refine ⟨?_, loop_at K _ _ t26L0.eq_1 ?_⟩
    rotate_left
    · rw [List.drop_length, show (runL []).length = 0 from rfl, Nat.add_zero]
      simp only [rdB_eq] at h14 ⊢
      simp (disch := omega) only [go_sem, h14]
      rfl
  | k + 1, i, x3, h => by
    have h14 := call14 t b i R
    rw [decide_eq_false (show ¬ b.length ≤ i by omega)] at h14
    have hix := ix_bytes (t := t) (l := b) (i := (i : Int)) (by omega)
    rw [Int.toNat_natCast] at hix
    have hd := drop_cons (b := b) (i := i) (by omega)
    have h24 := call24 (b.getD i 0)
    by_cases hc : isSym (b.getD i 0) = true
    · obtain ⟨y3, ih⟩ := loop26 t b hb x1 x2 R k (i + 1) (.iv (.bool true)) (by omega)
      refine ⟨y3, loop_at K _ _ t26L0.eq_1 ?_⟩
      have e : (runL (b.drop i)).length = (runL (b.drop (i + 1))).length + 1 := by rw [hd, runL, List.takeWhile_cons, if_pos hc]; rfl
      rw [hc] at h24
      rw [e, show i + ((runL (b.drop (i + 1))).length + 1) = i + 1 + (runL (b.drop (i + 1))).length by omega]
      simp only [rdB_eq] at h14 ih ⊢
      generalize b.getD i 0 = c at *
      simp (config := { maxSteps := 4000000 }) (disch := omega) only [go_sem, h14, hix, h24, wrap_i64]
      exact congrArg er ih
    · rw [Bool.not_eq_true] at hc
      rw [hc] at h24
      have e : (runL (b.drop i)).length = 0 := by rw [hd, runL, List.takeWhile_cons, if_neg (by rw [hc]; decide)]; rfl
      rw [e, Nat.add_zero]
      generalize b.getD i 0 = c at *
      refine ⟨?_, loop_at K _ _ t26L0.eq_1 ?_⟩
      rotate_left
      · simp only [rdB_eq] at h14 ⊢
        simp (config := { maxSteps := 4000000 }) (disch := omega) only [go_sem, h14, hix, h24, wrap_i64]
        rfl
theorem take_while_take (l : List UInt8) : l.take (runL l).length = runL l := by
  have := List.prefix_iff_eq_take.1 (List.takeWhile_prefix isSym (l := l))
  exact this.symm
theorem call26 (t : Tag) (b : List UInt8) (ht : TagOk t b) (i : Nat) (hb : b.length ≤ 16777216) (hi : i ≤ b.length) (R : Store) : (lim K).call 26 [.ptr 0 44 0] (rdB t b i :: R) = .ret (.iv (.str (runL (b.drop i))), rdB t b (i + (runL (b.drop i)).length) :: R) := by
  obtain ⟨y3, e⟩ := loop26 t b hb (.iv (.str [])) (.iv (.int .i64 i)) R (b.length - i) i (.tup []) (by omega)
  have hlen := runL_len (b.drop i)
  rw [List.length_drop] at hlen
  have htk := take_while_take (b.drop i)
  have h2 : bytesOf (bytesIV (runL (b.drop i))) = some (runL (b.drop i)) := bytesOf_bytesIV _
  simp only [rdB_eq] at e ⊢
  have hsl := slice_bytes (.cells 44 false [.iv (.sl t (bytesIV b)), .iv (.int .i64 (i + (runL (b.drop i)).length : Nat))] :: R) (t := t) (l := b) (a := (i : Int)) (b := ((i + (runL (b.drop i)).length : Nat) : Int)) ht (by omega)
  have e1 : ((i + (runL (b.drop i)).length : Nat) : Int).toNat - (i : Int).toNat = (runL (b.drop i)).length := by omega
  simp only [Int.toNat_natCast, Nat.add_sub_cancel_left, htk] at hsl
  generalize runL (b.drop i) = X at *
  refine call_ret' K _ (fn := t26) rfl rfl ?_
  simp (config := { maxSteps := 4000000 }) (disch := omega) only [t26, go_sem, wrap_i64, e, hsl, bsV, h2]
def chV (l : List UInt8) (i : Nat) : TV := if bad l then .tup [.iv (.int .i32 0), .iv (.agg [.int .i64 4, .int .i64 i])] else .tup [.iv (.int .i32 (D l).1), .iv (.agg [.int .i64 0, .int .i64 0])]
def chN (l : List UInt8) (i : Nat) : Nat := if bad l then i else i + (D l).2
theorem call29 (t : Tag) (b : List UInt8) (ht : TagOk t b) (i : Nat) (hb : b.length ≤ 16777216) (hi : i < b.length) (R : Store) : (lim K).call 29 [.ptr 0 44 0] (rdB t b i :: R) = .ret (chV (b.drop i) i, rdB t b (chN (b.drop i) i) :: R) := by
  have h38 := call38 t b i ht
  have h27 := call27 i
  have h16 := call16
  have hD := D_le (b.drop i)
  have hr : ¬ ((i : Int) < 0 ∨ (b.length : Int) ≤ (i : Int)) := by omega
  simp only [getR, hr, ↓reduceIte, Int.toNat_natCast] at h38
  simp only [rdB_eq, chV, chN]
  refine call_ret' K _ (fn := t29) rfl rfl ?_
  cases hbd : bad (b.drop i)
  · rw [hbd] at h38
    simp only [Bool.false_eq_true, ↓reduceIte, tup3] at h38 ⊢
    generalize D (b.drop i) = q at *
    simp (config := { maxSteps := 4000000 }) (disch := omega) only [t29, go_sem, h38, h16, wrap_i64, wrap_i32, Int.natCast_add]
  · rw [hbd] at h38
    simp only [↓reduceIte, tup3] at h38 ⊢
    simp (config := { maxSteps := 4000000 }) (disch := omega) only [t29, go_sem, h38, h27, wrap_i64]
end Go.Proofs.YtpngkgkobapioaaDoor
