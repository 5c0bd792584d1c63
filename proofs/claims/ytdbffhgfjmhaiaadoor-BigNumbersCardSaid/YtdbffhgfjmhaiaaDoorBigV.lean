/- Digits and what they are worth. Condition: none. -/
import Derived.Test.YtdbffhgfjmhaiaaDoorBigA
set_option maxRecDepth 100000
set_option linter.unusedSimpArgs false
set_option linter.unusedVariables false
namespace Go.Proofs.YtdbffhgfjmhaiaaDoor
open Go Go.TM
def val (B : Int) : List Int → Int
  | [] => 0
  | a :: l => a + B * val B l
def Dig (B : Int) (l : List Int) : Prop := ∀ a ∈ l, 0 ≤ a ∧ a < B
theorem Dig.nil {B : Int} : Dig B [] := by intro a h; cases h
theorem Dig.cons {B a : Int} {l : List Int} (h : 0 ≤ a ∧ a < B) (hl : Dig B l) : Dig B (a :: l) := by
  intro x hx
  rcases List.mem_cons.1 hx with rfl | hx
  · exact h
  · exact hl x hx
theorem Dig.head {B a : Int} {l : List Int} (h : Dig B (a :: l)) : 0 ≤ a ∧ a < B := h a (List.mem_cons_self ..)
theorem Dig.tail {B a : Int} {l : List Int} (h : Dig B (a :: l)) : Dig B l := fun x hx => h x (List.mem_cons_of_mem _ hx)
theorem Dig.append {B : Int} {l m : List Int} (h : Dig B l) (g : Dig B m) : Dig B (l ++ m) := by
  intro x hx
  rcases List.mem_append.1 hx with hx | hx
  · exact h x hx
  · exact g x hx
theorem Dig.left {B : Int} {l m : List Int} (h : Dig B (l ++ m)) : Dig B l := fun x hx => h x (List.mem_append_left _ hx)
theorem Dig.right {B : Int} {l m : List Int} (h : Dig B (l ++ m)) : Dig B m := fun x hx => h x (List.mem_append_right _ hx)
theorem Dig.tr {B : Int} {l : List Int} (h : Dig B l) : Dig B (tr l) := by
  obtain ⟨m, hm⟩ := tr_pre l
  rw [hm] at h
  exact h.left
theorem val_nonneg {B : Int} (hB : 0 < B) : ∀ {l : List Int}, Dig B l → 0 ≤ val B l
  | [], _ => Int.le_refl 0
  | a :: l, h => by
    have h1 := val_nonneg hB h.tail
    have h2 := h.head
    have h3 : 0 ≤ B * val B l := Int.mul_nonneg (by omega) h1
    simp only [val]; omega
theorem val_append (B : Int) : ∀ (l m : List Int), val B (l ++ m) = val B l + B ^ l.length * val B m
  | [], m => by simp [val]
  | a :: l, m => by
    simp only [List.cons_append, val, val_append B l m, List.length_cons, Int.pow_succ, Int.mul_add]
    rw [Int.mul_comm (B ^ l.length) B, Int.mul_assoc]
    omega
theorem val_tr (B : Int) : ∀ (l : List Int), val B (tr l) = val B l
  | [] => rfl
  | a :: l => by
    have ih := val_tr B l
    by_cases h : tr l = []
    · rw [h] at ih
      by_cases h0 : a = 0
      · simp only [tr, h, h0, ↓reduceIte, val, ← ih]; simp
      · simp only [tr, h, h0, ↓reduceIte, val, ← ih]
    · simp only [tr, h, ↓reduceIte, val, ih]
theorem tr_tr : ∀ (l : List Int), tr (tr l) = tr l
  | [] => rfl
  | a :: l => by
    have ih := tr_tr l
    by_cases h : tr l = []
    · by_cases h0 : a = 0
      · simp [tr, h, h0]
      · simp [tr, h, h0]
    · simp only [tr, h, ↓reduceIte, ih]
theorem val_lt {B : Int} (hB : 0 < B) : ∀ {l : List Int}, Dig B l → val B l < B ^ l.length
  | [], _ => by simp [val]
  | a :: l, h => by
    have h1 := val_lt hB h.tail
    have h2 := h.head
    have h3 : B * (val B l + 1) ≤ B * B ^ l.length := Int.mul_le_mul_of_nonneg_left (by omega) (by omega)
    rw [Int.mul_add] at h3
    simp only [val, List.length_cons, Int.pow_succ]
    rw [Int.mul_comm (B ^ l.length) B]
    omega
theorem div_step {B a v : Int} (hB : 0 < B) (h : 0 ≤ a ∧ a < B) : (a + B * v) / B = v ∧ (a + B * v) % B = a := by
  constructor
  · rw [Int.add_mul_ediv_left _ _ (by omega), Int.ediv_eq_zero_of_lt h.1 h.2, Int.zero_add]
  · rw [Int.add_mul_emod_self_left, Int.emod_eq_of_lt h.1 h.2]
theorem val_pos {B : Int} (hB : 0 < B) : ∀ {l : List Int}, Dig B l → tr l = l → l ≠ [] → 0 < val B l
  | [], _, _, h => absurd rfl h
  | a :: l, h, ht, _ => by
    have h2 := h.head
    have h1 := val_nonneg hB h.tail
    by_cases hl : tr l = []
    · by_cases h0 : a = 0
      · simp [tr, hl, h0] at ht
      · have h3 : 0 ≤ B * val B l := Int.mul_nonneg (by omega) h1
        simp only [val]; omega
    · simp only [tr, hl, ↓reduceIte, List.cons.injEq, true_and] at ht
      have := val_pos hB h.tail ht (by rw [ht] at hl; exact hl)
      have h3 : 0 < B * val B l := Int.mul_pos hB this
      simp only [val]; omega
theorem val_inj {B : Int} (hB : 0 < B) : ∀ {l m : List Int}, Dig B l → Dig B m → tr l = l → tr m = m → val B l = val B m → l = m
  | [], [], _, _, _, _, _ => rfl
  | [], b :: m, _, h2, _, h4, h5 => by
    have := val_pos hB h2 h4 (by simp)
    simp only [val] at h5 this; omega
  | a :: l, [], h1, _, h3, _, h5 => by
    have := val_pos hB h1 h3 (by simp)
    simp only [val] at h5 this; omega
  | a :: l, b :: m, h1, h2, h3, h4, h5 => by
    have e1 := div_step (v := val B l) hB h1.head
    have e2 := div_step (v := val B m) hB h2.head
    simp only [val] at h5
    rw [h5] at e1
    have ea : a = b := by rw [← e1.2, e2.2]
    have ev : val B l = val B m := by rw [← e1.1, e2.1]
    have sub : ∀ {c : Int} {k : List Int}, tr (c :: k) = c :: k → tr k = k := by
      intro c k h
      by_cases hk : tr k = []
      · by_cases h0 : c = 0
        · simp [tr, hk, h0] at h
        · simp [tr, hk, h0] at h; rw [h]; rfl
      · simpa [tr, hk] using h
    rw [ea, val_inj hB h1.tail h2.tail (sub h3) (sub h4) ev]
def dg (B : Int) (n : Int) : List Int :=
  if h : 0 < n ∧ 1 < B then n % B :: dg B (n / B) else []
termination_by n.toNat
decreasing_by
  have h1 : n / B < n := Int.ediv_lt_of_lt_mul (by omega) (by
    have := Int.mul_le_mul_of_nonneg_left (show 2 ≤ B by omega) (show 0 ≤ n by omega)
    omega)
  have h2 : 0 ≤ n / B := Int.ediv_nonneg (by omega) (by omega)
  omega
theorem dg_zero (B : Int) : dg B 0 = [] := by rw [dg]; simp
theorem dg_pos {B n : Int} (hB : 1 < B) (h : 0 < n) : dg B n = n % B :: dg B (n / B) := by rw [dg]; simp [h, hB]
theorem dg_spec {B : Int} (hB : 1 < B) : ∀ (k : Nat) (n : Int), n.toNat ≤ k → 0 ≤ n → Dig B (dg B n) ∧ val B (dg B n) = n ∧ tr (dg B n) = dg B n
  | 0, n, h, h0 => by
    obtain rfl : n = 0 := by omega
    rw [dg_zero]; exact ⟨Dig.nil, rfl, rfl⟩
  | k + 1, n, h, h0 => by
    by_cases hn : n = 0
    · subst hn; rw [dg_zero]; exact ⟨Dig.nil, rfl, rfl⟩
    · have hp : 0 < n := by omega
      have h1 : n / B < n := Int.ediv_lt_of_lt_mul (by omega) (by
        have := Int.mul_le_mul_of_nonneg_left (show 2 ≤ B by omega) (show 0 ≤ n by omega)
        omega)
      have h2 : 0 ≤ n / B := Int.ediv_nonneg (by omega) (by omega)
      obtain ⟨i1, i2, i3⟩ := dg_spec hB k (n / B) (by omega) h2
      have h3 := Int.emod_nonneg n (show B ≠ 0 by omega)
      have h4 := Int.emod_lt_of_pos n (show 0 < B by omega)
      rw [dg_pos hB hp]
      refine ⟨Dig.cons ⟨h3, h4⟩ i1, ?_, ?_⟩
      · simp only [val, i2]; have := Int.emod_add_mul_ediv n B; omega
      · by_cases hd : dg B (n / B) = []
        · rw [hd] at i2 ⊢
          simp only [val] at i2
          have : n % B ≠ 0 := by
            have := Int.emod_add_mul_ediv n B
            rw [← i2] at this; simp at this; omega
          simp [tr, this]
        · simp [tr, i3, hd]
theorem dg_dig {B n : Int} (hB : 1 < B) (h : 0 ≤ n) : Dig B (dg B n) := (dg_spec hB _ n (Nat.le_refl _) h).1
theorem val_dg {B n : Int} (hB : 1 < B) (h : 0 ≤ n) : val B (dg B n) = n := (dg_spec hB _ n (Nat.le_refl _) h).2.1
theorem tr_dg {B n : Int} (hB : 1 < B) (h : 0 ≤ n) : tr (dg B n) = dg B n := (dg_spec hB _ n (Nat.le_refl _) h).2.2
theorem tr_eq {B : Int} (hB : 1 < B) {l : List Int} (h : Dig B l) : tr l = dg B (val B l) := by
  have h0 := val_nonneg (by omega) h
  exact val_inj (by omega) h.tr (dg_dig hB h0) (tr_tr l) (tr_dg hB h0) (by rw [val_tr, val_dg hB h0])
theorem dg_nil {B n : Int} (hB : 1 < B) (h : 0 ≤ n) : dg B n = [] ↔ n = 0 := by
  constructor
  · intro e; rw [← val_dg hB h, e]; rfl
  · rintro rfl; exact dg_zero B
def sc (B y : Int) : List Int → Int → List Int × Int
  | [], m => ([], m)
  | a :: l, m => ((m + a * y) % B :: (sc B y l ((m + a * y) / B)).1, (sc B y l ((m + a * y) / B)).2)
theorem sc_spec {B y : Int} (hB : 1 < B) (hy : 0 ≤ y) : ∀ (l : List Int) (m : Int), Dig B l → 0 ≤ m → Dig B (sc B y l m).1 ∧ 0 ≤ (sc B y l m).2 ∧ (sc B y l m).1.length = l.length ∧ val B (sc B y l m).1 + B ^ l.length * (sc B y l m).2 = y * val B l + m
  | [], m, _, hm => by simp [sc, val, Dig.nil, hm]
  | a :: l, m, h, hm => by
    have h1 := h.head
    have h2 : 0 ≤ a * y := Int.mul_nonneg h1.1 hy
    have h3 : 0 ≤ (m + a * y) / B := Int.ediv_nonneg (by omega) (by omega)
    obtain ⟨i1, i2, i3, i4⟩ := sc_spec hB hy l ((m + a * y) / B) h.tail h3
    have h5 := Int.emod_nonneg (m + a * y) (show B ≠ 0 by omega)
    have h6 := Int.emod_lt_of_pos (m + a * y) (show 0 < B by omega)
    have h7 := Int.emod_add_mul_ediv (m + a * y) B
    refine ⟨Dig.cons ⟨h5, h6⟩ i1, i2, by simp [sc, i3], ?_⟩
    simp only [sc, val, List.length_cons, Int.pow_succ]
    rw [Int.mul_comm (B ^ l.length) B, Int.mul_assoc, Int.add_assoc, ← Int.mul_add, i4, Int.mul_add, Int.mul_add, ← Int.mul_assoc, Int.mul_comm B y, Int.mul_assoc, Int.mul_comm y a]
    omega
theorem sc_carry {B y c : Int} (hB : 1 < B) (hy : 0 ≤ y ∧ y ≤ c) : ∀ (l : List Int) (m : Int), Dig B l → 0 ≤ m ∧ m ≤ c → (sc B y l m).2 ≤ c
  | [], m, _, hm => hm.2
  | a :: l, m, h, hm => by
    have h1 := h.head
    have h2 : 0 ≤ a * y := Int.mul_nonneg h1.1 hy.1
    have h3 : 0 ≤ (m + a * y) / B := Int.ediv_nonneg (by omega) (by omega)
    have h4 : a * y ≤ (B - 1) * c := Int.le_trans (Int.mul_le_mul_of_nonneg_right (show a ≤ B - 1 by omega) hy.1) (Int.mul_le_mul_of_nonneg_left hy.2 (by omega))
    have h5 : (m + a * y) / B ≤ c := by
      apply Int.ediv_le_of_le_mul (by omega)
      rw [Int.sub_mul] at h4
      rw [Int.mul_comm c B]
      omega
    exact sc_carry hB hy l _ h.tail ⟨h3, h5⟩
theorem pow_pos' {B : Int} (hB : 1 < B) (n : Nat) : 0 < B ^ n := Int.pow_pos (by omega)
theorem sc_val {B y : Int} (hB : 1 < B) (hy : 0 ≤ y) (l m : List Int) (x : Int) (h : Dig B l) (hx : 0 ≤ x) (hm : Dig B m) (e : val B m = (sc B y l x).2) : Dig B ((sc B y l x).1 ++ m) ∧ val B ((sc B y l x).1 ++ m) = y * val B l + x := by
  obtain ⟨i1, i2, i3, i4⟩ := sc_spec hB hy l x h hx
  exact ⟨i1.append hm, by rw [val_append, i3, e, i4]⟩
theorem dg_len {B : Int} (hB : 1 < B) : ∀ (k : Nat) (n : Int), 0 ≤ n → n < B ^ k → (dg B n).length ≤ k
  | 0, n, h0, h => by
    obtain rfl : n = 0 := by simp at h; omega
    rw [dg_zero]; exact Nat.le_refl _
  | k + 1, n, h0, h => by
    by_cases hn : n = 0
    · subst hn; rw [dg_zero]; simp
    · rw [dg_pos hB (by omega), List.length_cons]
      have := dg_len hB k (n / B) (Int.ediv_nonneg h0 (by omega)) (by
        apply Int.ediv_lt_of_lt_mul (by omega)
        rwa [Int.pow_succ] at h)
      omega
