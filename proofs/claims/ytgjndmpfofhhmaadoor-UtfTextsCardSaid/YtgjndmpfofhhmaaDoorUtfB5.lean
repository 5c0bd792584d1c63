/- Plain laws of utf: bytes and chars. Condition: none. -/
import Derived.Test.YtgjndmpfofhhmaaDoorUtfB4
set_option maxRecDepth 100000
set_option linter.unusedSimpArgs false
set_option linter.unusedVariables false
namespace Go.Proofs.YtgjndmpfofhhmaaDoor
open Go Go.TM
theorem nat8 {n : Nat} (h : n < 256) : (UInt8.ofNat n).toNat = n := by simp [UInt8.toNat_ofNat]; omega
theorem eq8 {a : UInt8} {n : Nat} (h : a.toNat = n) : a = UInt8.ofNat n := by
  have := bl a
  apply UInt8.toNat_inj.1
  rw [nat8 (by omega), h]
theorem bytes_1 {c : Int} (h : c < 128) : bytesR c = [UInt8.ofNat c.toNat] := by simp [bytesR, h]
theorem bytes_2 {c : Int} (h : 128 ≤ c ∧ c < 2048) : bytesR c = [UInt8.ofNat (192 + c.toNat / 64), UInt8.ofNat (128 + c.toNat % 64)] := by
  have h1 : ¬ c < 128 := by omega
  simp [bytesR, h1, h.2]
theorem bytes_3 {c : Int} (h : 2048 ≤ c ∧ c < 65536) : bytesR c = [UInt8.ofNat (224 + c.toNat / 4096), UInt8.ofNat (128 + c.toNat / 64 % 64), UInt8.ofNat (128 + c.toNat % 64)] := by
  have h1 : ¬ c < 128 := by omega
  have h2 : ¬ c < 2048 := by omega
  simp [bytesR, h1, h2, h.2]
theorem bytes_4 {c : Int} (h : 65536 ≤ c) : bytesR c = [UInt8.ofNat (240 + c.toNat / 262144), UInt8.ofNat (128 + c.toNat / 4096 % 64), UInt8.ofNat (128 + c.toNat / 64 % 64), UInt8.ofNat (128 + c.toNat % 64)] := by
  have h1 : ¬ c < 128 := by omega
  have h2 : ¬ c < 2048 := by omega
  have h3 : ¬ c < 65536 := by omega
  simp [bytesR, h1, h2, h3]
/-- What is put is read. -/
theorem D_bytes {c : Int} (h : isC c = true) (r : List UInt8) : D (bytesR c ++ r) = (c.toNat, (bytesR c).length) := by
  have hc := (isC_iff c).1 h
  by_cases h1 : c < 128
  · rw [bytes_1 h1]
    simp only [List.cons_append, List.nil_append]
    rw [D_ascii _ _ (by rw [nat8 (by omega)]; omega), nat8 (by omega)]; rfl
  by_cases h2 : c < 2048
  · rw [bytes_2 (by omega)]
    simp only [List.cons_append, List.nil_append]
    rw [D2_ok _ _ _ (by rw [nat8 (by omega)]; omega) (by rw [nat8 (by omega)]; omega), nat8 (by omega), nat8 (by omega)]
    simp; omega
  by_cases h3 : c < 65536
  · rw [bytes_3 (by omega)]
    simp only [List.cons_append, List.nil_append]
    rw [D3_ok _ _ _ _ (by rw [nat8 (by omega)]; omega) (by rw [nat8 (by omega), nat8 (by omega)]; omega) (by rw [nat8 (by omega)]; omega), nat8 (by omega), nat8 (by omega), nat8 (by omega)]
    simp; omega
  · rw [bytes_4 (by omega)]
    simp only [List.cons_append, List.nil_append]
    rw [D4_ok _ _ _ _ _ (by rw [nat8 (by omega)]; omega) (by rw [nat8 (by omega), nat8 (by omega)]; omega) (by rw [nat8 (by omega)]; omega) (by rw [nat8 (by omega)]; omega), nat8 (by omega), nat8 (by omega), nat8 (by omega), nat8 (by omega)]
    simp; omega
theorem bytes_len {c : Int} (h : isC c = true) : 1 ≤ (bytesR c).length ∧ (bytesR c).length ≤ 4 := by
  simp only [bytesR]; repeat' split
  all_goals simp
theorem not_bad {c : Int} (h : isC c = true) (r : List UInt8) : bad (bytesR c ++ r) = false := by
  have hc := (isC_iff c).1 h
  simp only [bad, D_bytes h]
  by_cases e : c = 65533
  · subst e; rfl
  · have : ¬ c.toNat = 65533 := by omega
    simp [this]
/-- What is read is put. -/
theorem D_good {s : List UInt8} (h : bad s = false) : isC ((D s).1 : Nat) = true ∧ bytesR ((D s).1 : Nat) = s.take (D s).2 ∧ 1 ≤ (D s).2 ∧ (D s).2 ≤ s.length := by
  cases s with
  | nil => simp [bad, D] at h
  | cons a r =>
    have ha := bl a
    by_cases h1 : a.toNat < 128
    · rw [D_ascii a r h1]
      refine ⟨(isC_iff _).2 (by omega), ?_, by simp, by simp⟩
      rw [bytes_1 (by omega)]
      simp
    by_cases h2 : a.toNat < 194 ∨ 245 ≤ a.toNat
    · simp [bad, D_bad a r (by omega)] at h
    by_cases h3 : a.toNat < 224
    · cases r with
      | nil => rw [bad, D_two a _ (by omega)] at h; simp at h
      | cons b r =>
        have hb := bl b
        by_cases hf : 128 ≤ b.toNat ∧ b.toNat ≤ 191
        · rw [D2_ok a b r (by omega) hf]
          refine ⟨(isC_iff _).2 (by simp only; omega), ?_, by simp, by simp⟩
          rw [bytes_2 (by simp only; omega)]
          simp only [List.take_succ_cons, List.take_zero, Int.toNat_natCast]
          rw [← eq8 (a := a) (by omega), ← eq8 (a := b) (by omega)]
        · simp [bad, D2_no a b r (by omega) hf] at h
    by_cases h4 : a.toNat < 240
    · match r with
      | [] => rw [bad, D_three a _ (by omega)] at h; simp at h
      | [b] => rw [bad, D_three a _ (by omega)] at h; simp at h
      | b :: c :: r =>
        have hb := bl b
        have hc := bl c
        by_cases hf : ((a.toNat = 224 → 160 ≤ b.toNat) ∧ 128 ≤ b.toNat ∧ (a.toNat = 237 → b.toNat ≤ 159) ∧ b.toNat ≤ 191) ∧ (128 ≤ c.toNat ∧ c.toNat ≤ 191)
        · rw [D3_ok a b c r (by omega) hf.1 hf.2]
          refine ⟨(isC_iff _).2 (by simp only; omega), ?_, by simp, by simp⟩
          rw [bytes_3 (by simp only; omega)]
          simp only [List.take_succ_cons, List.take_zero, Int.toNat_natCast]
          rw [← eq8 (a := a) (by omega), ← eq8 (a := b) (by omega), ← eq8 (a := c) (by omega)]
        · simp [bad, D3_no a b c r (by omega) (by omega)] at h
    · match r with
      | [] => rw [bad, D_four a _ (by omega)] at h; simp at h
      | [b] => rw [bad, D_four a _ (by omega)] at h; simp at h
      | [b, c] => rw [bad, D_four a _ (by omega)] at h; simp at h
      | b :: c :: d :: r =>
        have hb := bl b
        have hc := bl c
        have hd := bl d
        by_cases hf : ((a.toNat = 240 → 144 ≤ b.toNat) ∧ 128 ≤ b.toNat ∧ (a.toNat = 244 → b.toNat ≤ 143) ∧ b.toNat ≤ 191) ∧ (128 ≤ c.toNat ∧ c.toNat ≤ 191) ∧ (128 ≤ d.toNat ∧ d.toNat ≤ 191)
        · rw [D4_ok a b c d r (by omega) hf.1 hf.2.1 hf.2.2]
          refine ⟨(isC_iff _).2 (by simp only; omega), ?_, by simp, by simp⟩
          rw [bytes_4 (by simp only; omega)]
          simp only [List.take_succ_cons, List.take_zero, Int.toNat_natCast]
          rw [← eq8 (a := a) (by omega), ← eq8 (a := b) (by omega), ← eq8 (a := c) (by omega), ← eq8 (a := d) (by omega)]
        · simp [bad, D4_no a b c d r (by omega) (by omega)] at h
theorem told_bytes {c : Int} (h : isC c = true) : toldR (bytesR c) = c := by
  have hc := (isC_iff c).1 h
  by_cases h1 : c < 128
  · rw [bytes_1 h1]; simp [toldR, toldF, UInt8.toNat_ofNat]; omega
  by_cases h2 : c < 2048
  · rw [bytes_2 (by omega)]; simp only [toldR, toldF, List.length_cons, List.length_nil, ↓reduceIte, Nat.reduceAdd]; rw [nat8 (by omega), nat8 (by omega)]; omega
  by_cases h3 : c < 65536
  · rw [bytes_3 (by omega)]; simp only [toldR, toldF, List.length_cons, List.length_nil, ↓reduceIte, Nat.reduceAdd, Nat.reduceEqDiff]; rw [nat8 (by omega), nat8 (by omega), nat8 (by omega)]; omega
  · rw [bytes_4 (by omega)]; simp only [toldR, toldF, List.length_cons, List.length_nil, ↓reduceIte, Nat.reduceAdd, Nat.reduceEqDiff]; rw [nat8 (by omega), nat8 (by omega), nat8 (by omega), nat8 (by omega)]; omega
/-- The document's test of a length. -/
def fits (s : List UInt8) (n : Nat) : Bool := isC (toldR (s.take n)) && (bytesR (toldR (s.take n)) == s.take n)
theorem fits_iff {s : List UInt8} {n : Nat} (hn : 1 ≤ n ∧ n ≤ s.length) : fits s n = true ↔ bad s = false ∧ (D s).2 = n := by
  constructor
  · intro h
    simp only [fits, Bool.and_eq_true, beq_iff_eq] at h
    have e : s = bytesR (toldR (s.take n)) ++ s.drop n := by rw [h.2, List.take_append_drop]
    have hb := not_bad h.1 (s.drop n)
    have hd := D_bytes h.1 (s.drop n)
    rw [← e] at hb hd
    refine ⟨hb, ?_⟩
    rw [hd, h.2]
    simp; omega
  · intro ⟨hb, hd⟩
    obtain ⟨h1, h2, h3, h4⟩ := D_good hb
    rw [hd] at h2
    have ht : toldR (s.take n) = (D s).1 := by rw [← h2, told_bytes h1]
    simp only [fits, ht, h1, h2, beq_self_eq_true, Bool.and_self]
end Go.Proofs.YtgjndmpfofhhmaaDoor
