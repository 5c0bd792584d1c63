/- LexPlaces: where tokens and faults stand. Condition: none. -/
import Derived.Test.YtpngkgkobapioaaDoorLxK
set_option maxRecDepth 100000
set_option maxHeartbeats 8000000
set_option linter.unusedSimpArgs false
set_option linter.unusedVariables false
namespace Go.Proofs.YtpngkgkobapioaaDoor
open Go Go.TM
theorem lineF_lt : ∀ (n : Nat) (l : List UInt8), (lineF n l).2 = false → (lineF n l).1 < l.length
  | 0, l, h => by simp [lineF] at h
  | n + 1, [], h => by simp [lineF] at h
  | n + 1, c :: r, h => by
    rw [lineF] at h ⊢
    split
    · rename_i h1; simp [h1] at h
    · rename_i h1
      split
      · simp
      · rename_i h2
        rw [Bool.not_eq_true] at h2
        have h3 := D_in h2
        simp only [h1, h2, Bool.false_eq_true, ↓reduceIte] at h
        have ih := lineF_lt n ((c :: r).drop (D (c :: r)).2) h
        rw [List.length_drop, List.length_cons] at ih
        rw [List.length_cons]
        try simp only
        omega
theorem nestF_lt : ∀ (n : Nat) (l : List UInt8) (d : Int), (nestF n l d).2 ≠ 0 → (nestF n l d).2 ≠ 1 → (nestF n l d).1 < l.length
  | 0, l, d, h, g => by simp [nestF] at g
  | n + 1, [], d, h, g => by simp [nestF] at g
  | n + 1, c :: r, d, h, g => by
    rw [nestF] at h g ⊢
    split
    · rename_i hb
      have h2 := beg_len hb
      simp only [List.length_cons, List.length_nil] at h2
      simp only [hb, ↓reduceIte] at h g
      split
      · simp
      · rename_i h1
        simp only [h1, ↓reduceIte] at h g
        have ih := nestF_lt n ((c :: r).drop 2) (d + 1) h g
        rw [List.length_drop, List.length_cons] at ih
        rw [List.length_cons]
        try simp only
        omega
    · rename_i hb
      simp only [hb, Bool.false_eq_true, ↓reduceIte] at h g
      split
      · rename_i hb2
        have h2 := beg_len hb2
        simp only [List.length_cons, List.length_nil] at h2
        simp only [hb2, ↓reduceIte] at h g
        split
        · rename_i h1; simp [h1] at h
        · rename_i h1
          simp only [h1, ↓reduceIte] at h g
          have ih := nestF_lt n ((c :: r).drop 2) (d - 1) h g
          rw [List.length_drop, List.length_cons] at ih
          rw [List.length_cons]
          try simp only
          omega
      · rename_i hb2
        simp only [hb2, Bool.false_eq_true, ↓reduceIte] at h g
        split
        · simp
        · rename_i h2
          simp only [h2, Bool.false_eq_true, ↓reduceIte] at h g
          rw [Bool.not_eq_true] at h2
          have h3 := D_in h2
          have ih := nestF_lt n ((c :: r).drop (D (c :: r)).2) d h g
          rw [List.length_drop, List.length_cons] at ih
          rw [List.length_cons]
          try simp only
          omega
theorem textF_lt : ∀ (n : Nat) (l s : List UInt8), (textF n l s).2.1 = 2 → (textF n l s).1 < l.length
  | 0, l, s, h => by simp [textF] at h
  | n + 1, [], s, h => by simp [textF] at h
  | n + 1, c :: r, s, h => by
    rw [textF] at h ⊢
    split
    · simp
    · rename_i h2
      simp only [h2, Bool.false_eq_true, ↓reduceIte] at h
      rw [Bool.not_eq_true] at h2
      have h3 := D_in h2
      split
      · rename_i h4; simp [h4] at h
      · rename_i h4
        simp only [h4, ↓reduceIte] at h
        split
        · rename_i h5
          simp only [h5, ↓reduceIte] at h
          split
          · simp
          · rename_i h6
            simp only [h6, ↓reduceIte] at h
            split
            · simp
            · rename_i v m he
              simp only [he] at h
              have h4 := escL_ok he
              rw [List.length_drop, List.length_cons] at h4
              have ih := textF_lt n ((c :: r).drop ((D (c :: r)).2 + m)) (s ++ bytesR v) h
              rw [List.length_drop, List.length_cons] at ih
              rw [List.length_cons]
              try simp only
              omega
        · rename_i h5
          simp only [h5, ↓reduceIte] at h
          have ih := textF_lt n ((c :: r).drop (D (c :: r)).2) (s ++ bytesR (D (c :: r)).1) h
          rw [List.length_drop, List.length_cons] at ih
          rw [List.length_cons]
          try simp only
          omega
def TAt (p : Int) (len : Nat) : TR → Prop
  | .bad e q => p ≤ q ∧ q < p + len
  | .skip _ => True
  | .tok t _ => t.pos = p ∧ (t.kind = 7 → t.dpos = p)
theorem tokL_at0 {n : Nat} {c : UInt8} {r : List UInt8} {p : Int} : TAt p (r.length + 1) (tokL n (c :: r) p) := by
  have hl : (c :: r).length = r.length + 1 := rfl
  have hpk : pk (c :: r) = c := rfl
  have hloose : ∀ t m, (t.pos = p ∧ (t.kind = 7 → t.dpos = p)) → TAt p (r.length + 1) (loose (c :: r) p t m) := by
    intro t m h
    unfold loose
    split
    · exact h
    · rename_i hn
      have hm : m < (c :: r).length := by
        rcases Nat.lt_or_ge m (c :: r).length with g | g
        · exact g
        · exact absurd (.inl (List.drop_of_length_le g)) hn
      simp only [TAt]
      omega
  unfold tokL
  rw [hpk]
  split
  · trivial
  · split
    · split
      · trivial
      · rename_i h
        have := lineF_lt n (c :: r) (by simpa using h)
        simp only [TAt]; omega
    · split
      · split
        · trivial
        · split
          · simp only [TAt]; omega
          · rename_i h0 h1
            have := nestF_lt n (c :: r) 0 h0 h1
            split
            · simp only [TAt]; omega
            · simp only [TAt]; omega
      · split
        · exact ⟨rfl, by simp⟩
        · split
          · exact ⟨rfl, by simp⟩
          · split
            · exact ⟨rfl, by simp⟩
            · split
              · split
                · exact ⟨rfl, fun _ => rfl⟩
                · split
                  · rename_i h
                    have := textF_lt n _ _ h
                    rw [List.length_drop] at this
                    simp only [TAt]; omega
                  · simp only [TAt]; omega
              · split
                · split
                  · simp only [TAt]; omega
                  · rename_i t m hmk
                    have hat : t.pos = p ∧ (t.kind = 7 → t.dpos = p) := by
                      unfold markL at hmk
                      repeat' split at hmk
                      all_goals (first | (simp only [Option.some.injEq, Prod.mk.injEq] at hmk; rw [← hmk.1]; refine ⟨rfl, fun h => ?_⟩; first | rfl | simp at h) | cases hmk)
                    split
                    · exact hloose _ _ hat
                    · exact hat
                · split
                  · refine hloose _ _ ?_
                    unfold wordT
                    split
                    · exact ⟨rfl, fun h => by simp at h⟩
                    · split
                      · exact ⟨rfl, fun h => rfl⟩
                      · exact ⟨rfl, fun h => rfl⟩
                  · simp only [TAt]; omega
theorem tokL_at {n : Nat} {c : UInt8} {r : List UInt8} {p : Int} : (∀ t m, tokL n (c :: r) p = .tok t m → t.pos = p ∧ (t.kind = 7 → t.dpos = p)) ∧ (∀ e q, tokL n (c :: r) p = .bad e q → p ≤ q ∧ q < p + (c :: r).length) := by
  have h := tokL_at0 (n := n) (c := c) (r := r) (p := p)
  refine ⟨fun t m e => ?_, fun e q e' => ?_⟩
  · rw [e] at h; exact h
  · rw [e'] at h; rw [List.length_cons]; exact h
def Asc : Int → List Tk → Int → Prop
  | _, [], _ => True
  | last, t :: r, hi => last < t.pos ∧ t.pos < hi ∧ (t.kind = 7 → t.dpos = t.pos) ∧ Asc t.pos r hi
theorem Asc.weak {a b hi : Int} (h : a ≤ b) : ∀ {ts : List Tk}, Asc b ts hi → Asc a ts hi
  | [], _ => trivial
  | t :: r, ⟨h1, h2⟩ => ⟨by omega, h2⟩
theorem lexF_at : ∀ (n : Nat) (l : List UInt8) (p : Int), (∀ ts, lexF n l p = .inr ts → Asc (p - 1) ts (p + l.length)) ∧ (∀ e q, lexF n l p = .inl (e, q) → (e = 4 ∨ e = 5) ∧ p ≤ q ∧ q < p + l.length)
  | 0, l, p => ⟨fun ts e => by simp only [lexF, Sum.inr.injEq] at e; subst e; trivial, fun e q h => by simp [lexF] at h⟩
  | n + 1, [], p => ⟨fun ts e => by simp only [lexF, Sum.inr.injEq] at e; subst e; trivial, fun e q h => by simp [lexF] at h⟩
  | n + 1, c :: r, p => by
    obtain ⟨a1, a2⟩ := tokL_at (n := (c :: r).length) (c := c) (r := r) (p := p)
    have tk := fun m => tokL_took (n := (c :: r).length) (c := c) (r := r) (p := p) (m := m) (Nat.le_refl _)
    have bd := fun e q => tokL_bad (n := (c :: r).length) (l := c :: r) (p := p) (e := e) (q := q)
    rw [lexF]
    cases ht : tokL (c :: r).length (c :: r) p with
    | bad e q =>
      refine ⟨fun ts h => by simp at h, fun e' q' h => ?_⟩
      simp only [Sum.inl.injEq, Prod.mk.injEq] at h
      obtain ⟨rfl, rfl⟩ := h
      exact ⟨bd _ _ ht, a2 _ _ ht⟩
    | skip m =>
      have hm := tk m (by rw [ht]; rfl)
      obtain ⟨i1, i2⟩ := lexF_at n ((c :: r).drop m) (p + m)
      rw [List.length_drop] at i1 i2
      refine ⟨fun ts h => ?_, fun e q h => ?_⟩
      · have := i1 ts h
        rw [show p + (m : Int) + ((c :: r).length - m : Nat) = p + (c :: r).length by omega] at this
        exact this.weak (by omega)
      · have := i2 e q h
        exact ⟨this.1, by omega⟩
    | tok t m =>
      have hm := tk m (by rw [ht]; rfl)
      obtain ⟨i1, i2⟩ := lexF_at n ((c :: r).drop m) (p + m)
      rw [List.length_drop] at i1 i2
      obtain ⟨b1, b2⟩ := a1 t m ht
      simp only
      cases hx : lexF n ((c :: r).drop m) (p + m) with
      | inl x =>
        obtain ⟨e, q⟩ := x
        refine ⟨fun ts h => by simp at h, fun e' q' h => ?_⟩
        simp only [Sum.inl.injEq, Prod.mk.injEq] at h
        obtain ⟨rfl, rfl⟩ := h
        have := i2 _ _ hx
        exact ⟨this.1, by omega⟩
      | inr us =>
        refine ⟨fun ts h => ?_, fun e' q' h => by simp at h⟩
        simp only [Sum.inr.injEq] at h
        subst h
        have := i1 us hx
        rw [show p + (m : Int) + ((c :: r).length - m : Nat) = p + (c :: r).length by omega] at this
        refine ⟨by omega, by rw [List.length_cons] at hm ⊢; omega, fun h => by rw [b2 h, b1], this.weak (by omega)⟩
end Go.Proofs.YtpngkgkobapioaaDoor
