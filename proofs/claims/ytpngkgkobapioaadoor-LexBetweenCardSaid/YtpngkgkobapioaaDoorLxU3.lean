/- Chars put, and got. Condition: none. -/
import Derived.Test.YtpngkgkobapioaaDoorLxU2
set_option maxRecDepth 100000
set_option maxHeartbeats 8000000
set_option linter.unusedSimpArgs false
set_option linter.unusedVariables false
namespace Go.Proofs.YtpngkgkobapioaaDoor
open Go Go.TM
theorem nat8 {n : Nat} (h : n < 256) : (UInt8.ofNat n).toNat = n := by simp [UInt8.toNat_ofNat]; omega
theorem eq8 {a : UInt8} {n : Nat} (h : a.toNat = n) : a = UInt8.ofNat n := by
  have := bl a
  apply UInt8.toNat_inj.1
  rw [nat8 (by omega), h]
theorem bytes_1 {c : Int} (h : c < 128) : bytesR c = [UInt8.ofNat c.toNat] := by simp [bytesR, h]
theorem bytes_2 {c : Int} (h : 128 ≤ c ∧ c < 2048) : bytesR c = [UInt8.ofNat (192 + c.toNat / 64), UInt8.ofNat (128 + c.toNat % 64)] := by
  have h1 : ¬ c < 128 := by omega
  simp [bytesR, h1, h.2]
theorem bytes_3 {c : Int} (h : 2048 ≤ c ∧ c < 65536) : bytesR c = [UInt8.ofNat (224 + c.toNat / 4096), UInt8.ofNat (128 + c.toNat / 64 % 64), UInt8.ofNat (128 + c.toNat % 64)] := by
  have h1 : ¬ c < 128 := by omega
  have h2 : ¬ c < 2048 := by omega
  simp [bytesR, h1, h2, h.2]
theorem bytes_4 {c : Int} (h : 65536 ≤ c) : bytesR c = [UInt8.ofNat (240 + c.toNat / 262144), UInt8.ofNat (128 + c.toNat / 4096 % 64), UInt8.ofNat (128 + c.toNat / 64 % 64), UInt8.ofNat (128 + c.toNat % 64)] := by
  have h1 : ¬ c < 128 := by omega
  have h2 : ¬ c < 2048 := by omega
  have h3 : ¬ c < 65536 := by omega
  simp [bytesR, h1, h2, h3]
theorem D_bytes {c : Int} (h : isC c = true) (r : List UInt8) : D (bytesR c ++ r) = (c.toNat, (bytesR c).length) := by
  have hc := (isC_iff c).1 h
  by_cases h1 : c < 128
  · rw [bytes_1 h1]
    simp only [List.cons_append, List.nil_append]
    rw [D_ascii _ _ (by rw [nat8 (by omega)]; omega), nat8 (by omega)]; rfl
  by_cases h2 : c < 2048
  · rw [bytes_2 (by omega)]
    simp only [List.cons_append, List.nil_append]
    rw [D2_ok _ _ _ (by rw [nat8 (by omega)]; omega) (by rw [nat8 (by omega)]; omega), nat8 (by omega), nat8 (by omega)]
    simp; omega
  by_cases h3 : c < 65536
  · rw [bytes_3 (by omega)]
    simp only [List.cons_append, List.nil_append]
    rw [D3_ok _ _ _ _ (by rw [nat8 (by omega)]; omega) (by rw [nat8 (by omega), nat8 (by omega)]; omega) (by rw [nat8 (by omega)]; omega), nat8 (by omega), nat8 (by omega), nat8 (by omega)]
    simp; omega
  · rw [bytes_4 (by omega)]
    simp only [List.cons_append, List.nil_append]
    rw [D4_ok _ _ _ _ _ (by rw [nat8 (by omega)]; omega) (by rw [nat8 (by omega), nat8 (by omega)]; omega) (by rw [nat8 (by omega)]; omega) (by rw [nat8 (by omega)]; omega), nat8 (by omega), nat8 (by omega), nat8 (by omega), nat8 (by omega)]
    simp; omega
theorem bytes_len {c : Int} (h : isC c = true) : 1 ≤ (bytesR c).length ∧ (bytesR c).length ≤ 4 := by
  simp only [bytesR]; repeat' split
  all_goals simp
theorem not_bad {c : Int} (h : isC c = true) (r : List UInt8) : bad (bytesR c ++ r) = false := by
  have hc := (isC_iff c).1 h
  simp only [bad, D_bytes h]
  by_cases e : c = 65533
  · subst e; rfl
  · have : ¬ c.toNat = 65533 := by omega
    simp [this]
theorem D_good {s : List UInt8} (h : bad s = false) : isC ((D s).1 : Nat) = true ∧ bytesR ((D s).1 : Nat) = s.take (D s).2 ∧ 1 ≤ (D s).2 ∧ (D s).2 ≤ s.length := by
  cases s with
  | nil => simp [bad, D] at h
  | cons a r =>
    have ha := bl a
    by_cases h1 : a.toNat < 128
    · rw [D_ascii a r h1]
      refine ⟨(isC_iff _).2 (by omega), ?_, by simp, by simp⟩
      rw [bytes_1 (by omega)]
      simp
    by_cases h2 : a.toNat < 194 ∨ 245 ≤ a.toNat
    · simp [bad, D_bad a r (by omega)] at h
    by_cases h3 : a.toNat < 224
    · cases r with
      | nil => rw [bad, D_two a _ (by omega)] at h; simp at h
      | cons b r =>
        have hb := bl b
        by_cases hf : 128 ≤ b.toNat ∧ b.toNat ≤ 191
        · rw [D2_ok a b r (by omega) hf]
          refine ⟨(isC_iff _).2 (by simp only; omega), ?_, by simp, by simp⟩
          rw [bytes_2 (by simp only; omega)]
          simp only [List.take_succ_cons, List.take_zero, Int.toNat_natCast]
          rw [← eq8 (a := a) (by omega), ← eq8 (a := b) (by omega)]
        · simp [bad, D2_no a b r (by omega) hf] at h
    by_cases h4 : a.toNat < 240
    · match r with
      | [] => rw [bad, D_three a _ (by omega)] at h; simp at h
      | [b] => rw [bad, D_three a _ (by omega)] at h; simp at h
      | b :: c :: r =>
        have hb := bl b
        have hc := bl c
        by_cases hf : ((a.toNat = 224 → 160 ≤ b.toNat) ∧ 128 ≤ b.toNat ∧ (a.toNat = 237 → b.toNat ≤ 159) ∧ b.toNat ≤ 191) ∧ (128 ≤ c.toNat ∧ c.toNat ≤ 191)
        · rw [D3_ok a b c r (by omega) hf.1 hf.2]
          refine ⟨(isC_iff _).2 (by simp only; omega), ?_, by simp, by simp⟩
          rw [bytes_3 (by simp only; omega)]
          simp only [List.take_succ_cons, List.take_zero, Int.toNat_natCast]
          rw [← eq8 (a := a) (by omega), ← eq8 (a := b) (by omega), ← eq8 (a := c) (by omega)]
        · simp [bad, D3_no a b c r (by omega) (by omega)] at h
    · match r with
      | [] => rw [bad, D_four a _ (by omega)] at h; simp at h
      | [b] => rw [bad, D_four a _ (by omega)] at h; simp at h
      | [b, c] => rw [bad, D_four a _ (by omega)] at h; simp at h
      | b :: c :: d :: r =>
        have hb := bl b
        have hc := bl c
        have hd := bl d
        by_cases hf : ((a.toNat = 240 → 144 ≤ b.toNat) ∧ 128 ≤ b.toNat ∧ (a.toNat = 244 → b.toNat ≤ 143) ∧ b.toNat ≤ 191) ∧ (128 ≤ c.toNat ∧ c.toNat ≤ 191) ∧ (128 ≤ d.toNat ∧ d.toNat ≤ 191)
        · rw [D4_ok a b c d r (by omega) hf.1 hf.2.1 hf.2.2]
          refine ⟨(isC_iff _).2 (by simp only; omega), ?_, by simp, by simp⟩
          rw [bytes_4 (by simp only; omega)]
          simp only [List.take_succ_cons, List.take_zero, Int.toNat_natCast]
          rw [← eq8 (a := a) (by omega), ← eq8 (a := b) (by omega), ← eq8 (a := c) (by omega), ← eq8 (a := d) (by omega)]
        · simp [bad, D4_no a b c d r (by omega) (by omega)] at h
theorem lits (l : List UInt8) (hl : l.length ≤ 10000000) (c : List UInt8) (hc : c.length ≤ 4) : appendOp false 1 1 5 (accS 1 5 (bytesIV l)) (acc 0 (bytesIV l)) (.iv (.sl .full (bytesIV c))) = some (acc 0 (bytesIV (l ++ c)), accS 1 5 (bytesIV (l ++ c))) := by
  rw [← bytes_append]
  exact ap_acc (fun S => IsEl.sl S .full _) (Elems.bytes c) (Elems.bytes l) (roomy_ok (by rw [bytesIV_length, bytesIV_length]; omega))
set_option maxHeartbeats 4000000 in
theorem call49 (l : List UInt8) (hl : l.length ≤ 10000000) (c : Int) (h : isC c = true) (h1 : 128 ≤ c) : (lim K).call 49 [acc 0 (bytesIV l), .iv (.int .i32 c)] (accS 1 5 (bytesIV l)) = .ret (acc 0 (bytesIV (l ++ bytesR c)), accS 1 5 (bytesIV (l ++ bytesR c))) := by
  have hc := (isC_iff c).1 h
  have hw : IntKind.u8.wrap c = c % 256 := wrap_u8_mod c
  have hw1 : IntKind.u8.wrap (c / 64) = c / 64 % 256 := wrap_u8_mod _
  have hw2 : IntKind.u8.wrap (c / 4096) = c / 4096 % 256 := wrap_u8_mod _
  refine call_ret' K _ (fn := t49) rfl rfl ?_
  simp only [t49, go_sem]
  by_cases h2 : c < 2048
  · have e := lits l hl [UInt8.ofNat (192 + c.toNat / 64), UInt8.ofNat (128 + c.toNat % 64)] (by simp)
    have e2 : bytesIV [UInt8.ofNat (192 + c.toNat / 64), UInt8.ofNat (128 + c.toNat % 64)] = [[.int .u8 (192 + c / 64)], [.int .u8 (128 + c % 256 % 64)]] := by
      simp only [bytesIV, List.map_cons, List.map_nil]; rw [nat8 (by omega), nat8 (by omega)]; congr 4 <;> omega
    rw [e2] at e
    simp (config := { maxSteps := 4000000 }) (disch := omega) only [go_sem, wrap_u32, Int.fdiv_eq_ediv_of_nonneg, wrap_u8, hw, tu8_and63, tu8_or5, tu8_or6, e, bytes_2]
  · by_cases h3 : c < 65536
    · have e := lits l hl [UInt8.ofNat (224 + c.toNat / 4096), UInt8.ofNat (128 + c.toNat / 64 % 64), UInt8.ofNat (128 + c.toNat % 64)] (by simp)
      have e2 : bytesIV [UInt8.ofNat (224 + c.toNat / 4096), UInt8.ofNat (128 + c.toNat / 64 % 64), UInt8.ofNat (128 + c.toNat % 64)] = [[.int .u8 (224 + c / 4096)], [.int .u8 (128 + c / 64 % 256 % 64)], [.int .u8 (128 + c % 256 % 64)]] := by
        simp only [bytesIV, List.map_cons, List.map_nil]; rw [nat8 (by omega), nat8 (by omega), nat8 (by omega), show ((224 + c.toNat / 4096 : Nat) : Int) = 224 + c / 4096 by omega, show ((128 + c.toNat / 64 % 64 : Nat) : Int) = 128 + c / 64 % 256 % 64 by omega, show ((128 + c.toNat % 64 : Nat) : Int) = 128 + c % 256 % 64 by omega]
      rw [e2] at e
      by_cases h4 : c < 55296
      · simp (config := { maxSteps := 4000000 }) (disch := omega) only [go_sem, wrap_u32, Int.fdiv_eq_ediv_of_nonneg, wrap_u8, hw, hw1, tu8_and63, tu8_or4, tu8_or6, e, bytes_3]
      · simp (config := { maxSteps := 4000000 }) (disch := omega) only [go_sem, wrap_u32, Int.fdiv_eq_ediv_of_nonneg, wrap_u8, hw, hw1, tu8_and63, tu8_or4, tu8_or6, e, bytes_3]
    · have e := lits l hl [UInt8.ofNat (240 + c.toNat / 262144), UInt8.ofNat (128 + c.toNat / 4096 % 64), UInt8.ofNat (128 + c.toNat / 64 % 64), UInt8.ofNat (128 + c.toNat % 64)] (by simp)
      have e2 : bytesIV [UInt8.ofNat (240 + c.toNat / 262144), UInt8.ofNat (128 + c.toNat / 4096 % 64), UInt8.ofNat (128 + c.toNat / 64 % 64), UInt8.ofNat (128 + c.toNat % 64)] = [[.int .u8 (240 + c / 262144)], [.int .u8 (128 + c / 4096 % 256 % 64)], [.int .u8 (128 + c / 64 % 256 % 64)], [.int .u8 (128 + c % 256 % 64)]] := by
        simp only [bytesIV, List.map_cons, List.map_nil]; rw [nat8 (by omega), nat8 (by omega), nat8 (by omega), nat8 (by omega), show ((240 + c.toNat / 262144 : Nat) : Int) = 240 + c / 262144 by omega, show ((128 + c.toNat / 4096 % 64 : Nat) : Int) = 128 + c / 4096 % 256 % 64 by omega, show ((128 + c.toNat / 64 % 64 : Nat) : Int) = 128 + c / 64 % 256 % 64 by omega, show ((128 + c.toNat % 64 : Nat) : Int) = 128 + c % 256 % 64 by omega]
      rw [e2] at e
      simp (config := { maxSteps := 4000000 }) (disch := omega) only [go_sem, wrap_u32, Int.fdiv_eq_ediv_of_nonneg, wrap_u8, hw, hw1, hw2, tu8_and63, tu8_or3, tu8_or6, e, bytes_4]
set_option maxHeartbeats 4000000 in
theorem call42 (l : List UInt8) (hl : l.length ≤ 10000000) (c : Int) (h : isC c = true) : (lim K).call 42 [acc 0 (bytesIV l), .iv (.int .i32 c)] (accS 1 5 (bytesIV l)) = .ret (acc 0 (bytesIV (l ++ bytesR c)), accS 1 5 (bytesIV (l ++ bytesR c))) := by
  have hc := (isC_iff c).1 h
  refine call_ret' K _ (fn := t42) rfl rfl ?_
  by_cases h1 : c < 128
  · have e := lits l hl [UInt8.ofNat c.toNat] (by simp)
    have e2 : bytesIV [UInt8.ofNat c.toNat] = [[.int .u8 c]] := by
      simp only [bytesIV, List.map_cons, List.map_nil]; rw [nat8 (by omega)]; congr 4; omega
    rw [e2] at e
    simp (config := { maxSteps := 4000000 }) (disch := omega) only [t42, go_sem, wrap_u32, wrap_u8, e, bytes_1]
  · simp (config := { maxSteps := 4000000 }) (disch := omega) only [t42, go_sem, wrap_u32, call49 l hl c h (by omega)]
end Go.Proofs.YtpngkgkobapioaaDoor
