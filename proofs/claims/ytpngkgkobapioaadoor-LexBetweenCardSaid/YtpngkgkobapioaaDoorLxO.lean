/- LexBetween: two sources with a blank between. Condition: none. -/
import Derived.Test.YtpngkgkobapioaaDoorLxN
set_option maxRecDepth 100000
set_option maxHeartbeats 8000000
set_option linter.unusedSimpArgs false
set_option linter.unusedVariables false
namespace Go.Proofs.YtpngkgkobapioaaDoor
open Go Go.TM
/-! ### How much is enough -/
theorem lexF_nil (n : Nat) (p : Int) : lexF n [] p = .inr [] := by cases n <;> rfl
theorem lexF_fuel : ∀ (n n' : Nat) (l : List UInt8) (p : Int), l.length ≤ n → l.length ≤ n' → lexF n l p = lexF n' l p
  | 0, n', l, p, h, h' => by
    obtain rfl : l = [] := List.length_eq_zero_iff.1 (by omega)
    rw [lexF_nil, lexF_nil]
  | n + 1, 0, l, p, h, h' => by
    obtain rfl : l = [] := List.length_eq_zero_iff.1 (by omega)
    rw [lexF_nil, lexF_nil]
  | n + 1, n' + 1, [], p, h, h' => rfl
  | n + 1, n' + 1, c :: r, p, h, h' => by
    have tk := fun m => tokL_took (n := (c :: r).length) (c := c) (r := r) (p := p) (m := m) (Nat.le_refl _)
    rw [lexF, lexF]
    cases ht : tokL (c :: r).length (c :: r) p with
    | bad e q => rfl
    | skip m =>
      have hm := tk m (by rw [ht]; rfl)
      exact lexF_fuel n n' _ _ (by rw [List.length_drop]; omega) (by rw [List.length_drop]; omega)
    | tok t m =>
      have hm := tk m (by rw [ht]; rfl)
      simp only
      rw [lexF_fuel n n' ((c :: r).drop m) _ (by rw [List.length_drop]; omega) (by rw [List.length_drop]; omega)]
/-! ### A line's comment that does not end -/
def comm (l : List UInt8) : Bool := (l.reverse.takeWhile (· != 10)).contains 59
theorem comm_app {x l : List UInt8} (h : comm l = true) : comm (x ++ l) = true := by
  unfold comm at h ⊢
  rw [List.reverse_append]
  have : ∀ (u v : List UInt8), (u.takeWhile (· != 10)).contains 59 = true → ((u ++ v).takeWhile (· != 10)).contains 59 = true := by
    intro u v hu
    induction u with
    | nil => simp at hu
    | cons a u ih =>
      rw [List.cons_append, List.takeWhile_cons]
      rw [List.takeWhile_cons] at hu
      split at hu
      · rename_i ha
        rw [if_pos ha, List.contains_cons]
        rw [List.contains_cons, Bool.or_eq_true] at hu
        rw [Bool.or_eq_true]
        rcases hu with hu | hu
        · exact .inl hu
        · exact .inr (ih hu)
      · simp at hu
  exact this _ _ h
theorem tail_not10 {c : Int} (h : isC c = true) (h10 : c ≠ 10) : (10 : UInt8) ∉ bytesR c := by
  have hc := (isC_iff c).1 h
  have key : ∀ n : Nat, n < 256 → n ≠ 10 → (10 : UInt8) ≠ UInt8.ofNat n := by
    intro n h1 h2 e
    have := congrArg UInt8.toNat e
    rw [nat8 h1] at this
    exact h2 (by simpa using this.symm)
  unfold bytesR
  split
  · simp only [List.mem_singleton]
    exact key _ (by omega) (by omega)
  · split
    · simp only [List.mem_cons, List.not_mem_nil, or_false, not_or]
      exact ⟨key _ (by omega) (by omega), key _ (by omega) (by omega)⟩
    · split
      · simp only [List.mem_cons, List.not_mem_nil, or_false, not_or]
        exact ⟨key _ (by omega) (by omega), key _ (by omega) (by omega), key _ (by omega) (by omega)⟩
      · simp only [List.mem_cons, List.not_mem_nil, or_false, not_or]
        exact ⟨key _ (by omega) (by omega), key _ (by omega) (by omega), key _ (by omega) (by omega), key _ (by omega) (by omega)⟩
theorem D10 {c : UInt8} {r : List UInt8} (h : bad (c :: r) = false) (hc : (c.toNat : Int) ≠ 10) : (((D (c :: r)).1 : Nat) : Int) ≠ 10 := by
  intro e
  obtain ⟨h1, h2, h3⟩ := split_good h
  rw [e, bytes_1 (by decide)] at h1
  simp only [List.singleton_append, List.cons.injEq] at h1
  rw [h1.1] at hc
  exact hc rfl
theorem lineF_all : ∀ (n : Nat) (l : List UInt8), (lineF n l).2 = true → (lineF n l).1 = l.length → l.length ≤ n → (10 : UInt8) ∉ l
  | 0, l, h, e, hn => by
    obtain rfl : l = [] := List.length_eq_zero_iff.1 (by omega)
    simp
  | n + 1, [], h, e, hn => by simp
  | n + 1, c :: r, h, e, hn => by
    rw [lineF] at h e
    by_cases hc : (c.toNat : Int) = 10
    · simp only [hc, ↓reduceIte, List.length_cons] at e
      omega
    · simp only [hc, ↓reduceIte] at h e
      cases hb : bad (c :: r)
      · simp only [hb, Bool.false_eq_true, ↓reduceIte] at h e
        have h5 := D_in hb
        obtain ⟨s1, s2, s3⟩ := split_good hb
        have ih := lineF_all n ((c :: r).drop (D (c :: r)).2) h (by rw [List.length_drop]; omega) (by rw [List.length_drop]; omega)
        rw [s1, List.mem_append, not_or]
        exact ⟨tail_not10 s2 (D10 hb hc), ih⟩
      · simp [hb] at h
theorem tw_all {q : UInt8 → Bool} : ∀ {l : List UInt8}, (∀ a ∈ l, q a = true) → l.takeWhile q = l
  | [], _ => rfl
  | a :: l, h => by rw [List.takeWhile_cons, if_pos (h a (List.mem_cons_self ..)), tw_all fun b hb => h b (List.mem_cons_of_mem _ hb)]
theorem comm_line {n : Nat} {c : UInt8} {r : List UInt8} (hc : (c.toNat : Int) = 59) (hn : (c :: r).length ≤ n) (h : (lineF n (c :: r)).2 = true) (e : (lineF n (c :: r)).1 = (c :: r).length) : comm (c :: r) = true := by
  have h10 := lineF_all n _ h e hn
  obtain rfl : c = 59 := UInt8.toNat_inj.1 (by show c.toNat = 59; omega)
  unfold comm
  have : (((59 : UInt8) :: r).reverse).takeWhile (· != 10) = ((59 : UInt8) :: r).reverse := by
    apply tw_all
    intro a ha
    rw [List.mem_reverse] at ha
    simp
    intro ea
    rw [ea] at ha
    exact h10 ha
  rw [this]
  simp
/-! ### Behind a source that may be -/
theorem lexF_app : ∀ (n : Nat) (l m : List UInt8) (p : Int) (xs : List Tk), l.length ≤ n → comm l = false → lexF n l p = .inr xs → lexF (l ++ 32 :: m).length (l ++ 32 :: m) p = (match lexF (32 :: m).length (32 :: m) (p + l.length) with
      | .inl e => .inl e
      | .inr ys => .inr (xs ++ ys))
  | 0, l, m, p, xs, h, hcm, hx => by
    obtain rfl : l = [] := List.length_eq_zero_iff.1 (by omega)
    rw [lexF_nil, Sum.inr.injEq] at hx
    subst hx
    rw [List.nil_append, show p + (([] : List UInt8).length : Int) = p by simp]
    cases lexF (32 :: m).length (32 :: m) p <;> rfl
  | n + 1, [], m, p, xs, h, hcm, hx => by
    rw [lexF_nil, Sum.inr.injEq] at hx
    subst hx
    rw [List.nil_append, show p + (([] : List UInt8).length : Int) = p by simp]
    cases lexF (32 :: m).length (32 :: m) p <;> rfl
  | n + 1, c :: r, m, p, xs, h, hcm, hx => by
    have tk := fun m => tokL_took (n := (c :: r).length) (c := c) (r := r) (p := p) (m := m) (Nat.le_refl _)
    have hsuf : ∀ k, comm ((c :: r).drop k) = false := by
      intro k
      cases hq : comm ((c :: r).drop k)
      · rfl
      · have := comm_app (x := (c :: r).take k) hq
        rw [List.take_append_drop, hcm] at this
        cases this
    have hg : ∀ e q, tokL (c :: r).length (c :: r) p ≠ .bad e q := by
      intro e q hb
      rw [lexF, hb] at hx
      cases hx
    have happ := tokL_app (n := (c :: r).length) (n' := ((c :: r) ++ 32 :: m).length) (m := m) (p := p) (l := c :: r) (by simp) (Nat.le_refl _) (by rw [List.length_append]; omega) (fun h59 hq => by
      have h1 := lineF_le (c :: r).length (c :: r)
      rcases Nat.lt_or_ge (lineF (c :: r).length (c :: r)).1 (c :: r).length with g | g
      · exact g
      · have := comm_line (c := c) (r := r) h59 (Nat.le_refl _) hq (by omega)
        rw [hcm] at this; cases this) hg
    have hlen : ((c :: r) ++ 32 :: m).length = ((r ++ 32 :: m).length) + 1 := rfl
    rw [List.cons_append, show (c :: (r ++ 32 :: m)).length = (r ++ 32 :: m).length + 1 from rfl, lexF]
    rw [show (c :: (r ++ 32 :: m)).length = ((c :: r) ++ 32 :: m).length from rfl, show c :: (r ++ 32 :: m) = (c :: r) ++ 32 :: m from rfl, happ]
    rw [lexF] at hx
    cases ht : tokL (c :: r).length (c :: r) p with
    | bad e q => exact absurd ht (hg e q)
    | skip k =>
      have hk := tk k (by rw [ht]; rfl)
      rw [ht] at hx
      simp only at hx ⊢
      have ih := lexF_app n ((c :: r).drop k) m (p + k) xs (by rw [List.length_drop]; omega) (hsuf k) hx
      rw [drop_app hk.2, lexF_fuel _ (((c :: r).drop k) ++ 32 :: m).length _ _ (by simp only [List.length_append, List.length_drop, List.length_cons]; omega) (Nat.le_refl _), ih]
      rw [show p + (k : Int) + ((c :: r).drop k).length = p + (c :: r).length by rw [List.length_drop]; omega]
    | tok t k =>
      have hk := tk k (by rw [ht]; rfl)
      rw [ht] at hx
      simp only at hx ⊢
      cases hy : lexF n ((c :: r).drop k) (p + k) with
      | inl e => rw [hy] at hx; cases hx
      | inr us =>
        rw [hy] at hx
        simp only [Sum.inr.injEq] at hx
        subst hx
        have ih := lexF_app n ((c :: r).drop k) m (p + k) us (by rw [List.length_drop]; omega) (hsuf k) hy
        rw [drop_app hk.2, lexF_fuel _ (((c :: r).drop k) ++ 32 :: m).length _ _ (by simp only [List.length_append, List.length_drop, List.length_cons]; omega) (Nat.le_refl _), ih]
        rw [show p + (k : Int) + ((c :: r).drop k).length = p + (c :: r).length by rw [List.length_drop]; omega]
        cases lexF (32 :: m).length (32 :: m) (p + (c :: r).length) <;> rfl
/-! ### Elsewhere -/
def Mv (s : Int) (x y : Tk) : Prop := y.kind = x.kind ∧ y.pos = x.pos + s ∧ y.dk = x.dk ∧ y.n = x.n ∧ y.text = x.text
def MvR (s : Int) : TR → TR → Prop
  | .bad e q, .bad e' q' => e' = e ∧ q' = q + s
  | .skip m, .skip m' => m' = m
  | .tok t m, .tok t' m' => Mv s t t' ∧ m' = m
  | _, _ => False
theorem loose_mv {l : List UInt8} {p s : Int} {t t' : Tk} {m : Nat} (h : Mv s t t') : MvR s (loose l p t m) (loose l (p + s) t' m) := by
  unfold loose
  split
  · exact ⟨h, rfl⟩
  · exact ⟨rfl, by omega⟩
theorem markL_mv (l : List UInt8) (p s : Int) : (markL l p = none ∧ markL l (p + s) = none) ∨ ∃ t t' m, markL l p = some (t, m) ∧ markL l (p + s) = some (t', m) ∧ Mv s t t' := by
  unfold markL
  by_cases h1 : beg l [35, 40] = true
  · simp only [h1, ↓reduceIte]
    refine .inr ⟨_, _, _, rfl, rfl, ?_⟩; exact ⟨rfl, rfl, rfl, rfl, rfl⟩
  simp only [h1, Bool.false_eq_true, ↓reduceIte]
  by_cases h2 : beg l [35, 92] = true
  · simp only [h2, ↓reduceIte]
    cases litL (l.drop 2) with
    | none => exact .inl ⟨rfl, rfl⟩
    | some vm => refine .inr ⟨_, _, _, rfl, rfl, ?_⟩; exact ⟨rfl, rfl, rfl, rfl, rfl⟩
  simp only [h2, Bool.false_eq_true, ↓reduceIte]
  by_cases h3 : runL (l.drop 1) = wT ∨ runL (l.drop 1) = wTrue
  · simp only [h3, ↓reduceIte]
    refine .inr ⟨_, _, _, rfl, rfl, ?_⟩; exact ⟨rfl, rfl, rfl, rfl, rfl⟩
  simp only [h3, ↓reduceIte]
  by_cases h4 : runL (l.drop 1) = wU8 ∧ ((pk (l.drop (1 + (runL (l.drop 1)).length))).toNat : Int) = 40
  · rw [if_pos h4, if_pos h4]
    refine .inr ⟨_, _, _, rfl, rfl, ?_⟩; exact ⟨rfl, rfl, rfl, rfl, rfl⟩
  rw [if_neg h4, if_neg h4]
  by_cases h5 : runL (l.drop 1) = wF ∨ runL (l.drop 1) = wFalse
  · simp only [h5, ↓reduceIte]
    refine .inr ⟨_, _, _, rfl, rfl, ?_⟩; exact ⟨rfl, rfl, rfl, rfl, rfl⟩
  simp only [h5, ↓reduceIte]
  exact .inl ⟨trivial, trivial⟩
theorem wordT_mv (run : List UInt8) (p s : Int) : Mv s (wordT run p) (wordT run (p + s)) := by
  unfold wordT
  split
  · exact ⟨rfl, rfl, rfl, rfl, rfl⟩
  · cases intL run <;> exact ⟨rfl, rfl, rfl, rfl, rfl⟩
theorem tokL_mv (n : Nat) (l : List UInt8) (p s : Int) : MvR s (tokL n l p) (tokL n l (p + s)) := by
  unfold tokL
  by_cases h1 : isBlk (pk l) = true
  · simp only [h1, ↓reduceIte]; exact rfl
  simp only [h1, Bool.false_eq_true, ↓reduceIte]
  by_cases h2 : ((pk l).toNat : Int) = 59
  · simp only [h2, ↓reduceIte]
    cases (lineF n l).2
    · simp only [Bool.false_eq_true, ↓reduceIte]; exact ⟨rfl, by omega⟩
    · simp only [↓reduceIte]; exact rfl
  simp only [h2, ↓reduceIte]
  by_cases h3 : beg l [35, 124] = true
  · simp only [h3, ↓reduceIte]
    by_cases q0 : (nestF n l 0).2 = 0
    · simp only [q0, ↓reduceIte]; exact rfl
    simp only [q0, ↓reduceIte]
    by_cases q1 : (nestF n l 0).2 = 1
    · simp only [q1, ↓reduceIte]; exact ⟨rfl, rfl⟩
    simp only [q1, ↓reduceIte]
    by_cases q2 : (nestF n l 0).2 = 2
    · simp only [q2, ↓reduceIte]; exact ⟨rfl, by omega⟩
    simp only [q2, ↓reduceIte]; exact ⟨rfl, by omega⟩
  simp only [h3, Bool.false_eq_true, ↓reduceIte]
  by_cases h4 : ((pk l).toNat : Int) = 40
  · simp only [h4, ↓reduceIte]; exact ⟨⟨rfl, rfl, rfl, rfl, rfl⟩, rfl⟩
  simp only [h4, ↓reduceIte]
  by_cases h5 : ((pk l).toNat : Int) = 41
  · simp only [h5, ↓reduceIte]; exact ⟨⟨rfl, rfl, rfl, rfl, rfl⟩, rfl⟩
  simp only [h5, ↓reduceIte]
  by_cases h6 : ((pk l).toNat : Int) = 39
  · simp only [h6, ↓reduceIte]; exact ⟨⟨rfl, rfl, rfl, rfl, rfl⟩, rfl⟩
  simp only [h6, ↓reduceIte]
  by_cases h7 : ((pk l).toNat : Int) = 34
  · simp only [h7, ↓reduceIte]
    by_cases q0 : (textF n (l.drop 1) []).2.1 = 0
    · simp only [q0, ↓reduceIte]; exact ⟨⟨rfl, rfl, rfl, rfl, rfl⟩, rfl⟩
    simp only [q0, ↓reduceIte]
    by_cases q2 : (textF n (l.drop 1) []).2.1 = 2
    · simp only [q2, ↓reduceIte]; exact ⟨rfl, by omega⟩
    simp only [q2, ↓reduceIte]; exact ⟨rfl, rfl⟩
  simp only [h7, ↓reduceIte]
  by_cases h8 : ((pk l).toNat : Int) = 35
  · simp only [h8, ↓reduceIte]
    rcases markL_mv l p s with ⟨e1, e2⟩ | ⟨t, t', m, e1, e2, hm⟩
    · rw [e1, e2]; exact ⟨rfl, rfl⟩
    · rw [e1, e2]
      simp only
      rw [hm.1]
      split
      · exact loose_mv hm
      · exact ⟨hm, rfl⟩
  simp only [h8, ↓reduceIte]
  by_cases h9 : isSym (pk l) = true
  · simp only [h9, ↓reduceIte]; exact loose_mv (wordT_mv _ p s)
  simp only [h9, Bool.false_eq_true, ↓reduceIte]; exact ⟨rfl, rfl⟩
inductive MvL (s : Int) : List Tk → List Tk → Prop
  | nil : MvL s [] []
  | cons {x y : Tk} {xs ys : List Tk} : Mv s x y → MvL s xs ys → MvL s (x :: xs) (y :: ys)
theorem lexF_mv : ∀ (n : Nat) (l : List UInt8) (p s : Int) (xs : List Tk), lexF n l p = .inr xs → ∃ ys, lexF n l (p + s) = .inr ys ∧ MvL s xs ys
  | 0, l, p, s, xs, h => ⟨[], rfl, by simp only [lexF, Sum.inr.injEq] at h; subst h; exact .nil⟩
  | n + 1, [], p, s, xs, h => ⟨[], rfl, by simp only [lexF, Sum.inr.injEq] at h; subst h; exact .nil⟩
  | n + 1, c :: r, p, s, xs, h => by
    have hmv := tokL_mv (c :: r).length (c :: r) p s
    rw [lexF] at h ⊢
    cases ht : tokL (c :: r).length (c :: r) p with
    | bad e q => rw [ht] at h; cases h
    | skip m =>
      rw [ht] at h hmv
      cases ht' : tokL (c :: r).length (c :: r) (p + s) with
      | bad e q => rw [ht'] at hmv; exact hmv.elim
      | tok t m => rw [ht'] at hmv; exact hmv.elim
      | skip m' =>
        rw [ht'] at hmv
        obtain rfl := hmv
        simp only at h ⊢
        obtain ⟨ys, e, r⟩ := lexF_mv n _ _ s xs h
        exact ⟨ys, by rw [← e]; congr 1; omega, r⟩
    | tok t m =>
      rw [ht] at h hmv
      cases ht' : tokL (c :: r).length (c :: r) (p + s) with
      | bad e q => rw [ht'] at hmv; exact hmv.elim
      | skip m => rw [ht'] at hmv; exact hmv.elim
      | tok t' m' =>
        rw [ht'] at hmv
        obtain ⟨hm, rfl⟩ := hmv
        simp only at h ⊢
        cases hy : lexF n ((c :: r).drop m') (p + m') with
        | inl e => rw [hy] at h; cases h
        | inr us =>
          rw [hy] at h
          simp only [Sum.inr.injEq] at h
          subst h
          obtain ⟨ys, e, r⟩ := lexF_mv n _ _ s us hy
          rw [show p + s + (m' : Int) = p + m' + s by omega, e]
          exact ⟨t' :: ys, rfl, .cons hm r⟩
end Go.Proofs.YtpngkgkobapioaaDoor
