/- LexBetween: what stands behind a blank makes no difference. Condition: none. -/
import Derived.Test.YtpngkgkobapioaaDoorLxL
set_option maxRecDepth 100000
set_option maxHeartbeats 8000000
set_option linter.unusedSimpArgs false
set_option linter.unusedVariables false
namespace Go.Proofs.YtpngkgkobapioaaDoor
open Go Go.TM
theorem split_good {l : List UInt8} (h : bad l = false) : l = bytesR ((D l).1 : Nat) ++ l.drop (D l).2 ∧ isC ((D l).1 : Nat) = true ∧ (bytesR ((D l).1 : Nat)).length = (D l).2 := by
  obtain ⟨h1, h2, h3, h4⟩ := D_good h
  refine ⟨?_, h1, ?_⟩
  · rw [h2, List.take_append_drop]
  · rw [h2, List.length_take, Nat.min_eq_left h4]
theorem D_app {l : List UInt8} (h : bad l = false) (m : List UInt8) : D (l ++ m) = D l ∧ bad (l ++ m) = false := by
  obtain ⟨h1, h2, h3⟩ := split_good h
  have e : l ++ m = bytesR ((D l).1 : Nat) ++ (l.drop (D l).2 ++ m) := by rw [← List.append_assoc, ← h1]
  refine ⟨?_, ?_⟩
  · rw [e, D_bytes h2, h3, Int.toNat_natCast]
  · rw [e]; exact not_bad h2 _
theorem sym32 : isSym 32 = false := by decide
theorem runL_app (l m : List UInt8) : runL (l ++ 32 :: m) = runL l := by
  unfold runL
  induction l with
  | nil => rw [List.nil_append, List.takeWhile_cons, if_neg (by rw [sym32]; decide)]; rfl
  | cons a l ih => rw [List.cons_append, List.takeWhile_cons, List.takeWhile_cons, ih]
theorem beg_app {l m : List UInt8} (h : l ≠ []) {x y : UInt8} (hy : y ≠ 32) : beg (l ++ 32 :: m) [x, y] = beg l [x, y] := by
  cases l with
  | nil => exact absurd rfl h
  | cons a l =>
    cases l with
    | nil =>
      show ([a, 32] == [x, y]) = ([a] == [x, y])
      rw [Bool.eq_iff_iff]
      simp
      intro _ e
      exact hy e.symm
    | cons b l => rfl
theorem pk_app {l m : List UInt8} (h : l ≠ []) : pk (l ++ m) = pk l := by
  cases l with
  | nil => exact absurd rfl h
  | cons a l => rfl
theorem drop_app {l m : List UInt8} {k : Nat} (h : k ≤ l.length) : (l ++ m).drop k = l.drop k ++ m := List.drop_append_of_le_length h
theorem pk_drop_app {l m : List UInt8} {k : Nat} (hk : k ≤ l.length) (v : Nat) (hv : v ≠ 0 ∧ v ≠ 32) : ((pk ((l ++ 32 :: m).drop k)).toNat : Int) = (v : Int) ↔ ((pk (l.drop k)).toNat : Int) = (v : Int) := by
  rw [drop_app hk]
  cases h : l.drop k with
  | nil =>
    show ((32 : UInt8).toNat : Int) = v ↔ ((0 : UInt8).toNat : Int) = v
    simp
    omega
  | cons a r => exact Iff.rfl
theorem escL_app {l : List UInt8} (m : List UInt8) (h : l ≠ []) : escL (l ++ 32 :: m) = escL l := by
  cases l with
  | nil => exact absurd rfl h
  | cons c r =>
    rw [List.cons_append, escL, escL, runL_app]
    have := pk_drop_app (l := r) (m := m) (k := (runL r).length) (runL_len r) 59 (by decide)
    rw [show ((59 : Nat) : Int) = 59 from rfl] at this
    simp only [this]
theorem lineF_app : ∀ (n n' : Nat) (l m : List UInt8), (lineF n l).2 = true → (lineF n l).1 < l.length → l.length ≤ n → l.length ≤ n' → lineF n' (l ++ m) = lineF n l
  | 0, n', l, m, h1, h2, h3, h4 => by
    have : l.length = 0 := by omega
    rw [this] at h2; omega
  | n + 1, 0, l, m, h1, h2, h3, h4 => by
    have : l.length = 0 := by omega
    rw [this] at h2; omega
  | n + 1, n' + 1, [], m, h1, h2, h3, h4 => by simp at h2
  | n + 1, n' + 1, c :: r, m, h1, h2, h3, h4 => by
    rw [List.cons_append, lineF, lineF]
    rw [lineF] at h1 h2
    by_cases hc : (c.toNat : Int) = 10
    · simp only [hc, ↓reduceIte]
    · simp only [hc, ↓reduceIte] at h1 h2 ⊢
      cases hb : bad (c :: r)
      · simp only [hb, Bool.false_eq_true, ↓reduceIte] at h1 h2 ⊢
        obtain ⟨d1, d2⟩ := D_app hb m
        rw [List.cons_append] at d1 d2
        have h5 := D_in hb
        simp only [d1, d2, Bool.false_eq_true, ↓reduceIte]
        rw [← List.cons_append, drop_app (by rw [List.length_cons]; omega)]
        have ih := lineF_app n n' ((c :: r).drop (D (c :: r)).2) m h1 (by rw [List.length_drop, List.length_cons]; rw [List.length_cons] at h2; omega) (by rw [List.length_drop]; omega) (by rw [List.length_drop]; omega)
        rw [ih]
      · simp [hb] at h1
theorem nestF_app : ∀ (n n' : Nat) (l m : List UInt8) (d : Int), (nestF n l d).2 = 0 → l.length ≤ n → l.length ≤ n' → nestF n' (l ++ 32 :: m) d = nestF n l d
  | 0, n', l, m, d, h1, h3, h4 => by simp [nestF] at h1
  | n + 1, 0, l, m, d, h1, h3, h4 => by
    obtain rfl : l = [] := List.length_eq_zero_iff.1 (by omega)
    simp [nestF] at h1
  | n + 1, n' + 1, [], m, d, h1, h3, h4 => by simp [nestF] at h1
  | n + 1, n' + 1, c :: r, m, d, h1, h3, h4 => by
    have b1 := beg_app (l := c :: r) (m := m) (by simp) (x := 35) (y := 124) (by decide)
    have b2 := beg_app (l := c :: r) (m := m) (by simp) (x := 124) (y := 35) (by decide)
    rw [List.cons_append] at b1 b2
    rw [List.cons_append, nestF, nestF, b1, b2]
    rw [nestF] at h1
    cases hA : beg (c :: r) [35, 124]
    · simp only [hA, Bool.false_eq_true, ↓reduceIte] at h1 ⊢
      cases hB : beg (c :: r) [124, 35]
      · simp only [hB, Bool.false_eq_true, ↓reduceIte] at h1 ⊢
        cases hb : bad (c :: r)
        · simp only [hb, Bool.false_eq_true, ↓reduceIte] at h1 ⊢
          obtain ⟨d1, d2⟩ := D_app hb (32 :: m)
          rw [List.cons_append] at d1 d2
          have h5 := D_in hb
          simp only [d1, d2, Bool.false_eq_true, ↓reduceIte]
          rw [← List.cons_append, drop_app (by rw [List.length_cons]; omega)]
          rw [nestF_app n n' _ m d h1 (by rw [List.length_drop]; omega) (by rw [List.length_drop]; omega)]
        · simp [hb] at h1
      · have h2 := beg_len hB
        simp only [List.length_cons, List.length_nil] at h2
        simp only [hB, ↓reduceIte] at h1 ⊢
        split
        · rfl
        · rename_i hd
          simp only [hd, ↓reduceIte] at h1
          rw [← List.cons_append, drop_app (by rw [List.length_cons]; omega)]
          rw [nestF_app n n' _ m (d - 1) h1 (by rw [List.length_drop]; omega) (by rw [List.length_drop]; omega)]
    · have h2 := beg_len hA
      simp only [List.length_cons, List.length_nil] at h2
      simp only [hA, ↓reduceIte] at h1 ⊢
      split
      · rfl
      · rename_i hd
        simp only [hd, ↓reduceIte] at h1
        rw [← List.cons_append, drop_app (by rw [List.length_cons]; omega)]
        rw [nestF_app n n' _ m (d + 1) h1 (by rw [List.length_drop]; omega) (by rw [List.length_drop]; omega)]
theorem textF_app : ∀ (n n' : Nat) (l m s : List UInt8), (textF n l s).2.1 = 0 → l.length ≤ n → l.length ≤ n' → textF n' (l ++ 32 :: m) s = textF n l s
  | 0, n', l, m, s, h1, h3, h4 => by simp [textF] at h1
  | n + 1, 0, l, m, s, h1, h3, h4 => by
    obtain rfl : l = [] := List.length_eq_zero_iff.1 (by omega)
    simp [textF] at h1
  | n + 1, n' + 1, [], m, s, h1, h3, h4 => by simp [textF] at h1
  | n + 1, n' + 1, c :: r, m, s, h1, h3, h4 => by
    rw [List.cons_append, textF, textF]
    rw [textF] at h1
    cases hb : bad (c :: r)
    · simp only [hb, Bool.false_eq_true, ↓reduceIte] at h1 ⊢
      obtain ⟨d1, d2⟩ := D_app hb (32 :: m)
      rw [List.cons_append] at d1 d2
      have h5 := D_in hb
      simp only [d1, d2, Bool.false_eq_true, ↓reduceIte]
      rw [← List.cons_append, drop_app (by rw [List.length_cons]; omega)]
      split
      · rfl
      · rename_i h34
        simp only [h34, ↓reduceIte] at h1
        split
        · rename_i h92
          simp only [h92, ↓reduceIte] at h1
          by_cases hnil : (c :: r).drop (D (c :: r)).2 = []
          · simp [hnil] at h1
          · simp only [hnil, ↓reduceIte] at h1
            rw [if_neg (by simp), if_neg hnil, escL_app m hnil]
            cases he : escL ((c :: r).drop (D (c :: r)).2) with
            | none => simp [he] at h1
            | some vm =>
              obtain ⟨v, k⟩ := vm
              simp only [he] at h1 ⊢
              have h6 := escL_ok he
              rw [List.length_drop, List.length_cons] at h6
              rw [drop_app (by rw [List.length_cons]; omega)]
              rw [textF_app n n' _ m _ h1 (by rw [List.length_drop]; omega) (by rw [List.length_drop]; omega)]
        · rename_i h92
          simp only [h92, ↓reduceIte] at h1
          rw [textF_app n n' _ m _ h1 (by rw [List.length_drop]; omega) (by rw [List.length_drop]; omega)]
    · simp [hb] at h1
theorem litL_app {l : List UInt8} (m : List UInt8) {r : Int × Nat} (h : litL l = some r) : litL (l ++ 32 :: m) = some r := by
  cases l with
  | nil => cases h
  | cons c t =>
    rw [litL] at h
    rw [List.cons_append, litL]
    cases hb : bad (c :: t)
    · obtain ⟨d1, d2⟩ := D_app hb (32 :: m)
      rw [List.cons_append] at d1 d2
      have h5 := D_in hb
      simp only [hb, Bool.false_eq_true, ↓reduceIte] at h
      simp only [d1, d2, Bool.false_eq_true, ↓reduceIte]
      rw [← List.cons_append, drop_app (by rw [List.length_cons]; omega), runL_app]
      exact h
    · simp [hb] at h
theorem markL_app {l : List UInt8} (m : List UInt8) {p : Int} {r : Tk × Nat} (hl : l ≠ []) (h : markL l p = some r) : markL (l ++ 32 :: m) p = some r := by
  have hlp : 1 ≤ l.length := by cases l with
    | nil => exact absurd rfl hl
    | cons a r => simp
  have b1 := beg_app (m := m) hl (x := 35) (y := 40) (by decide)
  have b2 := beg_app (m := m) hl (x := 35) (y := 92) (by decide)
  have hr := runL_len (l.drop 1)
  rw [List.length_drop] at hr
  have p40 := pk_drop_app (l := l) (m := m) (k := 1 + (runL (l.drop 1)).length) (by omega) 40 (by decide)
  rw [show ((40 : Nat) : Int) = 40 from rfl] at p40
  unfold markL at h ⊢
  rw [b1, b2, drop_app hlp, runL_app]
  simp only [p40]
  cases hA : beg l [35, 40]
  · simp only [hA, Bool.false_eq_true, ↓reduceIte] at h ⊢
    cases hB : beg l [35, 92]
    · simp only [hB, Bool.false_eq_true, ↓reduceIte] at h ⊢
      exact h
    · simp only [hB, ↓reduceIte] at h ⊢
      have h2 := beg_len hB
      simp only [List.length_cons, List.length_nil] at h2
      rw [drop_app (by omega)]
      cases hlit : litL (l.drop 2) with
      | none => simp [hlit] at h
      | some vm =>
        rw [litL_app m hlit]
        simp only [hlit] at h
        exact h
  · simp only [hA, ↓reduceIte] at h ⊢
    exact h
theorem del32 : isDel 32 = true := by decide
theorem loose_app {l : List UInt8} (m : List UInt8) {p : Int} {t : Tk} {k : Nat} (hk : k ≤ l.length) {t' : Tk} {k' : Nat} (h : loose l p t k = .tok t' k') : loose (l ++ 32 :: m) p t k = .tok t' k' := by
  unfold loose at h ⊢
  split at h
  · rename_i hc
    rw [if_pos]
    · exact h
    · rw [drop_app hk]
      right
      rcases hc with hc | hc
      · rw [hc]; exact del32
      · cases hd : l.drop k with
        | nil => exact del32
        | cons a r => rw [hd] at hc; exact hc
  · cases h
theorem tokL_app {n n' : Nat} {l m : List UInt8} {p : Int} (hl : l ≠ []) (hn : l.length ≤ n) (hn' : l.length ≤ n') (hc : ((pk l).toNat : Int) = 59 → (lineF n l).2 = true → (lineF n l).1 < l.length) (hg : ∀ e q, tokL n l p ≠ .bad e q) : tokL n' (l ++ 32 :: m) p = tokL n l p := by
  have b1 := beg_app (m := m) hl (x := 35) (y := 124) (by decide)
  have hlp : 1 ≤ l.length := by cases l with
    | nil => exact absurd rfl hl
    | cons a r => simp
  unfold tokL at hg ⊢
  rw [pk_app hl, b1, drop_app hlp, runL_app]
  by_cases h1 : isBlk (pk l) = true
  · simp only [h1, ↓reduceIte]
  simp only [h1, Bool.false_eq_true, ↓reduceIte] at hg ⊢
  by_cases h2 : ((pk l).toNat : Int) = 59
  · simp only [h2, ↓reduceIte] at hg ⊢
    cases hq : (lineF n l).2
    · simp only [hq, Bool.false_eq_true, ↓reduceIte] at hg
      exact absurd rfl (hg _ _)
    · rw [lineF_app n n' l (32 :: m) hq (hc h2 hq) hn hn', hq]
  simp only [h2, ↓reduceIte] at hg ⊢
  by_cases h3 : beg l [35, 124] = true
  · simp only [h3, ↓reduceIte] at hg ⊢
    by_cases hq : (nestF n l 0).2 = 0
    · rw [nestF_app n n' l m 0 hq hn hn']
    · exfalso
      simp only [hq, ↓reduceIte] at hg
      by_cases hq1 : (nestF n l 0).2 = 1
      · simp only [hq1, ↓reduceIte] at hg
        exact absurd rfl (hg _ _)
      · simp only [hq1, ↓reduceIte] at hg
        by_cases hq2 : (nestF n l 0).2 = 2
        · simp only [hq2, ↓reduceIte] at hg
          exact absurd rfl (hg _ _)
        · simp only [hq2, ↓reduceIte] at hg
          exact absurd rfl (hg _ _)
  simp only [h3, Bool.false_eq_true, ↓reduceIte] at hg ⊢
  by_cases h4 : ((pk l).toNat : Int) = 40
  · simp only [h4, ↓reduceIte]
  simp only [h4, ↓reduceIte] at hg ⊢
  by_cases h5 : ((pk l).toNat : Int) = 41
  · simp only [h5, ↓reduceIte]
  simp only [h5, ↓reduceIte] at hg ⊢
  by_cases h6 : ((pk l).toNat : Int) = 39
  · simp only [h6, ↓reduceIte]
  simp only [h6, ↓reduceIte] at hg ⊢
  by_cases h7 : ((pk l).toNat : Int) = 34
  · simp only [h7, ↓reduceIte] at hg ⊢
    by_cases hq : (textF n (l.drop 1) []).2.1 = 0
    · rw [textF_app n n' (l.drop 1) m [] hq (by rw [List.length_drop]; omega) (by rw [List.length_drop]; omega)]
    · exfalso
      simp only [hq, ↓reduceIte] at hg
      by_cases hq2 : (textF n (l.drop 1) []).2.1 = 2
      · simp only [hq2, ↓reduceIte] at hg
        exact absurd rfl (hg _ _)
      · simp only [hq2, ↓reduceIte] at hg
        exact absurd rfl (hg _ _)
  simp only [h7, ↓reduceIte] at hg ⊢
  by_cases h8 : ((pk l).toNat : Int) = 35
  · simp only [h8, ↓reduceIte] at hg ⊢
    cases hmk : markL l p with
    | none =>
      simp only [hmk] at hg
      exact absurd rfl (hg _ _)
    | some tm =>
      obtain ⟨t, k⟩ := tm
      rw [markL_app m hl hmk]
      simp only [hmk] at hg ⊢
      have hk := markL_len hmk hl
      by_cases h9 : t.kind = 7
      · simp only [h9, ↓reduceIte] at hg ⊢
        cases hlo : loose l p t k with
        | bad e q => exact absurd hlo (hg _ _)
        | skip q => unfold loose at hlo; split at hlo <;> cases hlo
        | tok t' k' => exact loose_app m hk.2 hlo
      · simp only [h9, ↓reduceIte]
  simp only [h8, ↓reduceIte] at hg ⊢
  by_cases h9 : isSym (pk l) = true
  · simp only [h9, ↓reduceIte] at hg ⊢
    cases hlo : loose l p (wordT (runL l) p) (runL l).length with
    | bad e q => exact absurd hlo (hg _ _)
    | skip q => unfold loose at hlo; split at hlo <;> cases hlo
    | tok t' k' => exact loose_app m (runL_len l) hlo
  · simp only [h9, Bool.false_eq_true, ↓reduceIte] at hg
    exact absurd rfl (hg _ _)
end Go.Proofs.YtpngkgkobapioaaDoor
