/- Chars, for texts that may be. Condition: none. -/
import Derived.Test.YtookmpaholmmfaaGreatDoorKcJ
import Derived.Test.YtookmpaholmmfaaGreatDoorTmE
set_option maxRecDepth 100000
set_option maxHeartbeats 8000000
set_option linter.unusedSimpArgs false
set_option linter.unusedVariables false
namespace Go.Proofs.YtookmpaholmmfaaGreatDoor
open Go Go.TM
def isC (c : Int) : Bool := decide (0 ≤ c) && decide (c ≤ 1114111) && (decide (c < 55296) || decide (57343 < c))
theorem isC_iff (c : Int) : isC c = true ↔ 0 ≤ c ∧ c ≤ 1114111 ∧ (c < 55296 ∨ 57343 < c) := by
  simp [isC]; omega
theorem call53 (c : Int) : (lim K).call 53 [.iv (.int .i64 c)] [] = .ret (.iv (.bool (isC c)), []) := by
  refine call_ret' K [] (fn := t53) rfl rfl ?_
  simp only [t53, go_sem]
  repeat' (first | (first | refine br_dec' (fun h => ?_) (fun h => ?_) | refine br_beq' (fun h => ?_) (fun h => ?_) | refine br_bne' (fun h => ?_) (fun h => ?_) | refine br_eq' (fun h => ?_) (fun h => ?_)) | simp (disch := omega) only [go_sem])
  all_goals (congr 4; simp [isC, *])
def bytesR (c : Int) : List UInt8 :=
  if c < 128 then [UInt8.ofNat c.toNat]
  else if c < 2048 then [UInt8.ofNat (192 + c.toNat / 64), UInt8.ofNat (128 + c.toNat % 64)]
  else if c < 65536 then [UInt8.ofNat (224 + c.toNat / 4096), UInt8.ofNat (128 + c.toNat / 64 % 64), UInt8.ofNat (128 + c.toNat % 64)]
  else [UInt8.ofNat (240 + c.toNat / 262144), UInt8.ofNat (128 + c.toNat / 4096 % 64), UInt8.ofNat (128 + c.toNat / 64 % 64), UInt8.ofNat (128 + c.toNat % 64)]
theorem ofNat_int (n : Nat) (h : n < 256) : (((UInt8.ofNat n).toNat : Nat) : Int) = (n : Int) := by
  simp [UInt8.toNat_ofNat]; omega
theorem u8_of {m : Int} {n : Nat} (h : m = n) (hn : n < 256) : IntKind.u8.wrap m = (((UInt8.ofNat n).toNat : Nat) : Int) := by
  subst h
  rw [wrap_u8 (by omega), ofNat_int n hn]
set_option maxHeartbeats 4000000 in
theorem call158 (c : Int) (h : isC c = true) : (lim K).call 158 [.iv (.int .i64 c)] [] = .ret (.iv (.sl .full (bytesIV (bytesR c))), []) := by
  have hc := (isC_iff c).1 h
  refine call_ret' K [] (fn := t158) rfl rfl ?_
  simp only [t158, go_sem]
  repeat' (first | (first | refine br_dec' (fun h => ?_) (fun h => ?_) | refine br_beq' (fun h => ?_) (fun h => ?_) | refine br_bne' (fun h => ?_) (fun h => ?_) | refine br_eq' (fun h => ?_) (fun h => ?_)) | simp (disch := omega) only [go_sem, wrap_i64, Int.tdiv_eq_ediv_of_nonneg, Int.tmod_eq_emod_of_nonneg])
  · rw [u8_of (n := c.toNat) (by omega) (by omega)]
    simp only [bytesR, *, ↓reduceIte]; rfl
  · rw [u8_of (n := 192 + c.toNat / 64) (by omega) (by omega), u8_of (n := 128 + c.toNat % 64) (by omega) (by omega)]
    simp only [bytesR, *, ↓reduceIte]; rfl
  · rw [u8_of (n := 224 + c.toNat / 4096) (by omega) (by omega), u8_of (n := 128 + c.toNat / 64 % 64) (by omega) (by omega), u8_of (n := 128 + c.toNat % 64) (by omega) (by omega)]
    simp only [bytesR, *, ↓reduceIte]; rfl
  · rw [u8_of (n := 240 + c.toNat / 262144) (by omega) (by omega), u8_of (n := 128 + c.toNat / 4096 % 64) (by omega) (by omega), u8_of (n := 128 + c.toNat / 64 % 64) (by omega) (by omega), u8_of (n := 128 + c.toNat % 64) (by omega) (by omega)]
    simp only [bytesR, *, ↓reduceIte]; rfl
theorem bl (b : UInt8) : b.toNat < 256 := b.toNat_lt
theorem cons_bytes (a : UInt8) (r : List UInt8) : bytesIV (a :: r) = [.int .u8 a.toNat] :: bytesIV r := rfl
def toldF (n : Int) : List UInt8 → Int
  | [] => n
  | b :: r => toldF (64 * n + b.toNat % 64) r
def toldR : List UInt8 → Int
  | [] => 0
  | a :: r => toldF (if r.length = 1 then a.toNat % 32 else if r.length = 2 then a.toNat % 16 else if r.length = 3 then a.toNat % 8 else a.toNat) r
theorem drop_toNat (l : List UInt8) (i : Int) (h : 0 ≤ i ∧ i < l.length) : l.drop i.toNat = l.getD i.toNat 0 :: l.drop (i + 1).toNat := by
  have h1 : i.toNat < l.length := by omega
  rw [List.drop_eq_getElem_cons h1, show (i + 1).toNat = i.toNat + 1 by omega]
  simp [List.getD, List.getElem?_eq_getElem h1]
theorem loop157 (t : Tag) (l : List UInt8) (r0 f a b c : TV) (hl : l.length ≤ 4) : ∀ (k : Nat) (i n : Int) (x : TV), i + k = l.length → 1 ≤ i → 0 ≤ n → (n + 1) * 64 ^ k ≤ 1099511627776 →
    lp' (lim K) t157L0 [.iv (.sl t (bytesIV l)), r0, f, .iv (.int .i64 n), .iv (.int .i64 i), a, b, c, x] [] = .ret (.exit 0, [.iv (.sl t (bytesIV l)), r0, f, .iv (.int .i64 (toldF n (l.drop i.toNat))), .iv (.int .i64 l.length), a, b, c, .iv (.bool false)], [])
  | 0, i, n, x, hk, hi, hn, hb => by
    have e : l.drop i.toNat = [] := List.drop_of_length_le (by omega)
    obtain rfl : i = l.length := by omega
    refine loop_at K _ _ t157L0.eq_1 ?_
    simp (disch := omega) only [go_sem, e, toldF]
  | k + 1, i, n, x, hk, hi, hn, hb => by
    refine loop_at K _ _ t157L0.eq_1 ?_
    have hx := bl (l.getD i.toNat 0)
    have h1 : (1 : Int) ≤ 64 ^ k := Int.pow_pos (by decide)
    have h2 : (n + 1) * 64 ^ (k + 1) = (64 * (n + 1)) * 64 ^ k := by rw [Int.pow_succ]; ac_rfl
    have h3 : 64 * (n + 1) * 1 ≤ (64 * (n + 1)) * 64 ^ k := Int.mul_le_mul_of_nonneg_left h1 (by omega)
    have h4 : (64 * n + (l.getD i.toNat 0).toNat % 64 + 1) * 64 ^ k ≤ (64 * (n + 1)) * 64 ^ k := Int.mul_le_mul_of_nonneg_right (by omega) (by omega)
    simp (disch := omega) only [go_sem, ix_bytes, wrap_i64, Int.tmod_eq_emod_of_nonneg]
    rw [loop157 t l r0 f a b c hl k (i + 1) _ _ (by omega) (by omega) (by omega) (by omega)]
    rw [drop_toNat l i (by omega)]
    rfl
theorem call157 (t : Tag) (l : List UInt8) (h : 1 ≤ l.length ∧ l.length ≤ 4) : (lim K).call 157 [.iv (.sl t (bytesIV l))] [] = .ret (.iv (.int .i64 (toldR l)), []) := by
  refine call_ret' K [] (fn := t157) rfl rfl ?_
  cases l with
  | nil => simp at h
  | cons a r =>
    have ha := bl a
    simp only [List.length_cons] at h
    have hl : r.length ≤ 3 := by omega
    have hp : (64 : Int) ^ r.length ≤ 64 ^ 3 := by
      have := Nat.pow_le_pow_right (n := 64) (by decide) hl
      exact_mod_cast this
    have key : ∀ n : Int, 0 ≤ n → n ≤ 255 → (n + 1) * 64 ^ r.length ≤ 1099511627776 := by
      intro n h0 h1
      have e1 : (n + 1) * 64 ^ r.length ≤ (n + 1) * 64 ^ 3 := Int.mul_le_mul_of_nonneg_left hp (by omega)
      omega
    by_cases h1 : r.length = 1
    · have e := loop157 t (a :: r) (.iv (.int .i64 0)) (.iv (.int .i64 a.toNat)) (.iv (.bool true)) (.iv (.bool false)) (.iv (.bool false)) (by simp; omega) r.length 1 (a.toNat % 32) (.tup []) (by simp; omega) (by omega) (by omega) (key _ (by omega) (by omega))
      simp (disch := omega) only [t157, go_sem, ix_bytes, wrap_i64, Int.tmod_eq_emod_of_nonneg, indexAddrS, cons_bytes, h1, Int.cast_ofNat_Int]
      simp only [cons_bytes] at e
      simp (disch := omega) only [go_sem, e, toldR, h1]
    by_cases h2 : r.length = 2
    · have e := loop157 t (a :: r) (.iv (.int .i64 0)) (.iv (.int .i64 a.toNat)) (.iv (.bool false)) (.iv (.bool true)) (.iv (.bool false)) (by simp; omega) r.length 1 (a.toNat % 16) (.tup []) (by simp; omega) (by omega) (by omega) (key _ (by omega) (by omega))
      simp (disch := omega) only [t157, go_sem, ix_bytes, wrap_i64, Int.tmod_eq_emod_of_nonneg, indexAddrS, cons_bytes, h2, Int.cast_ofNat_Int]
      simp only [cons_bytes] at e
      simp (disch := omega) only [go_sem, e, toldR, h2]
    by_cases h3 : r.length = 3
    · have e := loop157 t (a :: r) (.iv (.int .i64 0)) (.iv (.int .i64 a.toNat)) (.iv (.bool false)) (.iv (.bool false)) (.iv (.bool true)) (by simp; omega) r.length 1 (a.toNat % 8) (.tup []) (by simp; omega) (by omega) (by omega) (key _ (by omega) (by omega))
      simp (disch := omega) only [t157, go_sem, ix_bytes, wrap_i64, Int.tmod_eq_emod_of_nonneg, indexAddrS, cons_bytes, h3, Int.cast_ofNat_Int]
      simp only [cons_bytes] at e
      simp (disch := omega) only [go_sem, e, toldR, h3]
    · have e := loop157 t (a :: r) (.iv (.int .i64 0)) (.iv (.int .i64 a.toNat)) (.iv (.bool false)) (.iv (.bool false)) (.iv (.bool false)) (by simp; omega) r.length 1 a.toNat (.tup []) (by simp; omega) (by omega) (by omega) (key _ (by omega) (by omega))
      have h0 : r.length = 0 := by omega
      simp (disch := omega) only [t157, go_sem, ix_bytes, wrap_i64, Int.tmod_eq_emod_of_nonneg, indexAddrS, cons_bytes, h0, Int.cast_ofNat_Int]
      simp only [cons_bytes] at e
      simp (disch := omega) only [go_sem, e, toldR, h0]
end Go.Proofs.YtookmpaholmmfaaGreatDoor
