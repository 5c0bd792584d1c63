/- LexAgain: a token's text by itself is that token. Condition: none. -/
import Derived.Test.YtpngkgkobapioaaDoorLxN
set_option maxRecDepth 100000
set_option maxHeartbeats 8000000
set_option linter.unusedSimpArgs false
set_option linter.unusedVariables false
namespace Go.Proofs.YtpngkgkobapioaaDoor
open Go Go.TM
def flatC : List Int → List UInt8
  | [] => []
  | c :: r => bytesR c ++ flatC r
def TokGood (t : Tk) : Prop :=
  (t.dk = 5 → t.n = 0 ∧ t.text ≠ [] ∧ t.text.all isSym = true ∧ t.text ≠ [46] ∧ intL t.text = none) ∧
  (t.dk = 2 → t.n = 0 ∧ ∃ run, intL run = some t.text) ∧
  (t.dk = 1 → t.text = [] ∧ (t.n = 0 ∨ t.n = 1)) ∧
  (t.dk = 4 → t.n = 0 ∧ ∃ cs : List Int, (∀ c ∈ cs, isC c = true) ∧ t.text = flatC cs) ∧ t.text.length ≤ 30000
theorem textF_good : ∀ (n : Nat) (l s : List UInt8), (textF n l s).2.1 = 0 → ∃ cs : List Int, (∀ c ∈ cs, isC c = true) ∧ (textF n l s).2.2 = s ++ flatC cs ∧ (flatC cs).length ≤ 4 * l.length
  | 0, l, s, h => by simp [textF] at h
  | n + 1, [], s, h => by simp [textF] at h
  | n + 1, c :: r, s, h => by
    rw [textF] at h ⊢
    cases hb : bad (c :: r)
    · simp only [hb, Bool.false_eq_true, ↓reduceIte] at h ⊢
      have h3 := D_in hb
      obtain ⟨s1, s2, s3⟩ := split_good hb
      have hl := bytesR_pos s2
      by_cases h34 : (D (c :: r)).1 = 34
      · simp only [h34, ↓reduceIte] at h ⊢
        exact ⟨[], by simp, by simp [flatC], by simp [flatC]⟩
      simp only [h34, ↓reduceIte] at h ⊢
      by_cases h92 : (D (c :: r)).1 = 92
      · simp only [h92, ↓reduceIte] at h ⊢
        by_cases hnil : (c :: r).drop (D (c :: r)).2 = []
        · simp [hnil] at h
        · simp only [hnil, ↓reduceIte] at h ⊢
          cases he : escL ((c :: r).drop (D (c :: r)).2) with
          | none => simp [he] at h
          | some vm =>
            obtain ⟨v, k⟩ := vm
            simp only [he] at h ⊢
            have h6 := escL_ok he
            rw [List.length_drop, List.length_cons] at h6
            obtain ⟨cs, g1, g2, g3⟩ := textF_good n _ _ h
            have hv := bytesR_pos h6.1
            refine ⟨v :: cs, ?_, ?_, ?_⟩
            · intro x hx
              rcases List.mem_cons.1 hx with rfl | hx
              · exact h6.1
              · exact g1 x hx
            · rw [g2, flatC, List.append_assoc]
            · rw [flatC, List.length_append]
              rw [List.length_drop, List.length_cons] at g3
              rw [List.length_cons]
              omega
      · simp only [h92, ↓reduceIte] at h ⊢
        obtain ⟨cs, g1, g2, g3⟩ := textF_good n _ _ h
        refine ⟨((D (c :: r)).1 : Nat) :: cs, ?_, ?_, ?_⟩
        · intro x hx
          rcases List.mem_cons.1 hx with rfl | hx
          · exact s2
          · exact g1 x hx
        · rw [g2, flatC, List.append_assoc]
        · rw [flatC, List.length_append]
          rw [List.length_drop, List.length_cons] at g3
          rw [List.length_cons]
          omega
    · simp [hb] at h
theorem runL_all (l : List UInt8) : (runL l).all isSym = true := by
  unfold runL
  induction l with
  | nil => rfl
  | cons a l ih =>
    rw [List.takeWhile_cons]
    split
    · rename_i h; rw [List.all_cons, h, ih]; rfl
    · rfl
theorem dgsOf_le (l : List UInt8) : (dgsOf l).length ≤ l.length := by
  cases l with
  | nil => simp [dgsOf]
  | cons c r => rw [dgsOf]; split <;> simp
theorem intL_le {run s : List UInt8} (h : intL run = some s) : s.length ≤ run.length + 1 := by
  have h1 := dgsOf_le run
  have h2 : ((dgsOf run).dropWhile (· == 48)).length ≤ (dgsOf run).length := (List.dropWhile_suffix _).length_le
  unfold intL at h
  split at h
  · cases h
  · split at h
    · simp only [Option.some.injEq] at h; rw [← h]; simp
    · split at h
      · simp only [Option.some.injEq] at h; rw [← h, List.length_cons]; omega
      · simp only [Option.some.injEq] at h; rw [← h]; omega
theorem wordT_good {run : List UInt8} {p : Int} (h0 : run ≠ []) (h1 : run.all isSym = true) (hl : run.length ≤ 5000) : TokGood (wordT run p) := by
  unfold wordT
  split
  · exact ⟨fun h => by simp at h, fun h => by simp at h, fun h => by simp at h, fun h => by simp at h, by simp⟩
  · rename_i h46
    cases hi : intL run with
    | none => exact ⟨fun _ => ⟨rfl, h0, h1, h46, hi⟩, fun h => by simp at h, fun h => by simp at h, fun h => by simp at h, by show run.length ≤ _; omega⟩
    | some s =>
      have := intL_le hi
      exact ⟨fun h => by simp at h, fun _ => ⟨rfl, run, hi⟩, fun h => by simp at h, fun h => by simp at h, by show s.length ≤ _; omega⟩
theorem plain_good {k p dk n dp : Int} (h : dk = 0 ∨ dk = 3) : TokGood ⟨k, p, dk, n, [], dp⟩ := by
  refine ⟨fun e => ?_, fun e => ?_, fun e => ?_, fun e => ?_, by simp⟩
  all_goals (simp only at e; omega)
theorem markL_good {l : List UInt8} {p : Int} {t : Tk} {m : Nat} (h : markL l p = some (t, m)) : TokGood t := by
  unfold markL at h
  by_cases h1 : beg l [35, 40] = true
  · simp only [h1, ↓reduceIte, Option.some.injEq, Prod.mk.injEq] at h
    rw [← h.1]; exact plain_good (.inl rfl)
  simp only [h1, Bool.false_eq_true, ↓reduceIte] at h
  by_cases h2 : beg l [35, 92] = true
  · simp only [h2, ↓reduceIte] at h
    cases hl : litL (l.drop 2) with
    | none => simp [hl] at h
    | some vm =>
      simp only [hl, Option.some.injEq, Prod.mk.injEq] at h
      rw [← h.1]; exact plain_good (.inr rfl)
  simp only [h2, Bool.false_eq_true, ↓reduceIte] at h
  have bl : ∀ n : Int, (n = 0 ∨ n = 1) → TokGood ⟨7, p, 1, n, [], p⟩ := fun n hn =>
    ⟨fun h => by simp at h, fun h => by simp at h, fun _ => ⟨rfl, hn⟩, fun h => by simp at h, by simp⟩
  split at h
  · simp only [Option.some.injEq, Prod.mk.injEq] at h
    rw [← h.1]; exact bl 1 (.inr rfl)
  · split at h
    · simp only [Option.some.injEq, Prod.mk.injEq] at h
      rw [← h.1]; exact plain_good (.inl rfl)
    · split at h
      · simp only [Option.some.injEq, Prod.mk.injEq] at h
        rw [← h.1]; exact bl 0 (.inl rfl)
      · cases h
theorem tokL_good {n : Nat} {c : UInt8} {r : List UInt8} {p : Int} {t : Tk} {m : Nat} (hl : (c :: r).length ≤ 5000) (h : tokL n (c :: r) p = .tok t m) : TokGood t := by
  have hloose : ∀ t' m', loose (c :: r) p t' m' = .tok t m → TokGood t' → TokGood t := by
    intro t' m' h1 h2
    unfold loose at h1
    split at h1
    · simp only [TR.tok.injEq] at h1; rw [← h1.1]; exact h2
    · cases h1
  unfold tokL at h
  rw [show pk (c :: r) = c from rfl] at h
  by_cases h1 : isBlk c = true
  · simp only [h1, ↓reduceIte] at h; cases h
  simp only [h1, Bool.false_eq_true, ↓reduceIte] at h
  by_cases h2 : (c.toNat : Int) = 59
  · simp only [h2, ↓reduceIte] at h
    split at h <;> cases h
  simp only [h2, ↓reduceIte] at h
  by_cases h3 : beg (c :: r) [35, 124] = true
  · simp only [h3, ↓reduceIte] at h
    split at h
    · cases h
    · split at h
      · cases h
      · split at h <;> cases h
  simp only [h3, Bool.false_eq_true, ↓reduceIte] at h
  by_cases h4 : (c.toNat : Int) = 40
  · simp only [h4, ↓reduceIte, TR.tok.injEq] at h; rw [← h.1]; exact plain_good (.inl rfl)
  simp only [h4, ↓reduceIte] at h
  by_cases h5 : (c.toNat : Int) = 41
  · simp only [h5, ↓reduceIte, TR.tok.injEq] at h; rw [← h.1]; exact plain_good (.inl rfl)
  simp only [h5, ↓reduceIte] at h
  by_cases h6 : (c.toNat : Int) = 39
  · simp only [h6, ↓reduceIte, TR.tok.injEq] at h; rw [← h.1]; exact plain_good (.inl rfl)
  simp only [h6, ↓reduceIte] at h
  by_cases h7 : (c.toNat : Int) = 34
  · simp only [h7, ↓reduceIte] at h
    by_cases q0 : (textF n ((c :: r).drop 1) []).2.1 = 0
    · simp only [q0, ↓reduceIte, TR.tok.injEq] at h
      obtain ⟨cs, g1, g2, g3⟩ := textF_good _ _ _ q0
      rw [List.length_drop] at g3
      rw [← h.1]
      refine ⟨fun h => by simp at h, fun h => by simp at h, fun h => by simp at h, fun _ => ⟨rfl, cs, g1, by rw [g2]; rfl⟩, ?_⟩
      show (textF n ((c :: r).drop 1) []).2.2.length ≤ 30000
      rw [g2, List.nil_append]
      omega
    · simp only [q0, ↓reduceIte] at h
      split at h <;> cases h
  simp only [h7, ↓reduceIte] at h
  by_cases h8 : (c.toNat : Int) = 35
  · simp only [h8, ↓reduceIte] at h
    cases hmk : markL (c :: r) p with
    | none => simp [hmk] at h
    | some tm =>
      obtain ⟨t', m'⟩ := tm
      simp only [hmk] at h
      split at h
      · exact hloose _ _ h (markL_good hmk)
      · simp only [TR.tok.injEq] at h; rw [← h.1]; exact markL_good hmk
  simp only [h8, ↓reduceIte] at h
  by_cases h9 : isSym c = true
  · simp only [h9, ↓reduceIte] at h
    have h10 := runL_pos (r := r) h9
    have h11 := runL_len (c :: r)
    exact hloose _ _ h (wordT_good (by intro e; rw [e] at h10; simp at h10) (runL_all _) (by omega))
  · simp only [h9, Bool.false_eq_true, ↓reduceIte] at h; cases h
theorem lexF_good : ∀ (n : Nat) (l : List UInt8) (p : Int) (ts : List Tk), l.length ≤ 5000 → lexF n l p = .inr ts → ∀ t ∈ ts, TokGood t
  | 0, l, p, ts, hl, h => by simp only [lexF, Sum.inr.injEq] at h; subst h; simp
  | n + 1, [], p, ts, hl, h => by simp only [lexF, Sum.inr.injEq] at h; subst h; simp
  | n + 1, c :: r, p, ts, hl, h => by
    rw [lexF] at h
    cases ht : tokL (c :: r).length (c :: r) p with
    | bad e q => rw [ht] at h; cases h
    | skip m =>
      rw [ht] at h
      exact lexF_good n _ _ ts (by rw [List.length_drop]; omega) h
    | tok t m =>
      rw [ht] at h
      simp only at h
      cases hx : lexF n ((c :: r).drop m) (p + m) with
      | inl x => rw [hx] at h; cases h
      | inr us =>
        rw [hx] at h
        simp only [Sum.inr.injEq] at h
        subst h
        intro t' ht'
        rcases List.mem_cons.1 ht' with rfl | ht'
        · exact tokL_good hl ht
        · exact lexF_good n _ _ us (by rw [List.length_drop]; omega) hx t' ht'
/-! ### Once more -/
theorem sym_all : (List.range 256).all (fun n => !(isSym (UInt8.ofNat n)) || (!(isBlk (UInt8.ofNat n)) && (n != 59 && (n != 35 && (n != 40 && (n != 41 && (n != 39 && n != 34))))))) = true := by decide +kernel
theorem sym_not {c : UInt8} (h : isSym c = true) : isBlk c = false ∧ ¬ (c.toNat : Int) = 59 ∧ ¬ (c.toNat : Int) = 35 ∧ ¬ (c.toNat : Int) = 40 ∧ ¬ (c.toNat : Int) = 41 ∧ ¬ (c.toNat : Int) = 39 ∧ ¬ (c.toNat : Int) = 34 := by
  have := List.all_eq_true.1 sym_all c.toNat (List.mem_range.2 (bl c))
  rw [show UInt8.ofNat c.toNat = c by simp, h] at this
  simp at this
  refine ⟨this.1, ?_⟩
  omega
theorem runL_self {l : List UInt8} (h : l.all isSym = true) : runL l = l := by
  unfold runL
  induction l with
  | nil => rfl
  | cons a l ih =>
    rw [List.all_cons, Bool.and_eq_true] at h
    rw [List.takeWhile_cons, if_pos h.1, ih h.2]
theorem lexF_nil0 (n : Nat) (p : Int) : lexF n [] p = .inr [] := by cases n <;> rfl
theorem lex_run {run : List UInt8} (h0 : run ≠ []) (h : run.all isSym = true) : lexL run = .inr [wordT run 0] := by
  cases run with
  | nil => exact absurd rfl h0
  | cons c r =>
    have hc : isSym c = true := by rw [List.all_cons, Bool.and_eq_true] at h; exact h.1
    obtain ⟨n1, n2, n3, n4, n5, n6, n7⟩ := sym_not hc
    have hr := runL_self h
    have hbeg : beg (c :: r) [35, 124] = false := by
      unfold beg
      rw [beq_eq_false_iff_ne]
      intro e
      have : c = 35 := by
        have := congrArg (fun l => l.headD 0) e
        simpa using this
      rw [this] at n3
      exact n3 rfl
    have ht : tokL (c :: r).length (c :: r) 0 = .tok (wordT (c :: r) 0) (c :: r).length := by
      unfold tokL
      rw [show pk (c :: r) = c from rfl]
      simp only [n1, n2, n3, n4, n5, n6, n7, hbeg, hc, Bool.false_eq_true, ↓reduceIte, hr]
      unfold loose
      rw [if_pos (.inl (List.drop_length))]
    unfold lexL
    rw [show (c :: r).length = r.length + 1 from rfl, lexF, ht]
    simp only [List.drop_length, lexF_nil0]
theorem dig_all : (List.range 256).all (fun n => !(isDig (UInt8.ofNat n)) || (isSym (UInt8.ofNat n) && (n != 43 && (n != 45 && n != 46)))) = true := by decide +kernel
theorem dig_sym {c : UInt8} (h : isDig c = true) : isSym c = true ∧ ¬ (c.toNat : Int) = 43 ∧ ¬ (c.toNat : Int) = 45 ∧ c ≠ 46 := by
  have := List.all_eq_true.1 dig_all c.toNat (List.mem_range.2 (bl c))
  rw [show UInt8.ofNat c.toNat = c by simp, h] at this
  simp at this
  refine ⟨this.1, by omega, by omega, ?_⟩
  intro e
  subst e
  exact absurd rfl this.2.2.2
theorem all_drop {l : List UInt8} {q r : UInt8 → Bool} (h : l.all q = true) : (l.dropWhile r).all q = true := by
  rw [List.all_eq_true] at h ⊢
  intro a ha
  exact h a ((List.dropWhile_suffix r).subset ha)
theorem digs_sym {l : List UInt8} (h : l.all isDig = true) : l.all isSym = true := by
  rw [List.all_eq_true] at h ⊢
  exact fun a ha => (dig_sym (h a ha)).1
theorem drop_idem (l : List UInt8) : (l.dropWhile (· == 48)).dropWhile (· == 48) = l.dropWhile (· == 48) := by
  induction l with
  | nil => rfl
  | cons a l ih =>
    rw [List.dropWhile_cons]
    split
    · exact ih
    · rename_i h
      rw [List.dropWhile_cons, if_neg h]
theorem intL_self {run s : List UInt8} (h : intL run = some s) : intL s = some s ∧ s ≠ [] ∧ s.all isSym = true ∧ s ≠ [46] := by
  unfold intL at h
  split at h
  · cases h
  rename_i h1
  simp only [not_or, ne_eq, Decidable.not_not] at h1
  obtain ⟨h1, h2⟩ := h1
  have hd := (trimD_nil _).1 h2
  split at h
  · simp only [Option.some.injEq] at h
    subst h
    exact ⟨by decide, by decide, by decide, by decide⟩
  · rename_i h3
    have hdd := all_drop (r := (· == 48)) hd
    have hid := drop_idem (dgsOf run)
    generalize (dgsOf run).dropWhile (· == 48) = d at *
    have ht : trimD d = [] := (trimD_nil d).2 hdd
    have hs := digs_sym hdd
    split at h
    · simp only [Option.some.injEq] at h
      subst h
      refine ⟨?_, by simp, ?_, by simp⟩
      · unfold intL
        have e : dgsOf (45 :: d) = d := rfl
        rw [e, if_neg (by simp [h3, ht]), hid, if_neg h3]
        exact if_pos rfl
      · rw [List.all_cons, hs, Bool.and_true]; decide
    · simp only [Option.some.injEq] at h
      subst h
      cases d with
      | nil => exact absurd rfl h3
      | cons c r =>
        have hc : isDig c = true := by rw [List.all_cons, Bool.and_eq_true] at hdd; exact hdd.1
        obtain ⟨c1, c2, c3, c4⟩ := dig_sym hc
        have e : dgsOf (c :: r) = c :: r := by rw [dgsOf, if_neg (by omega)]
        refine ⟨?_, by simp, hs, ?_⟩
        · unfold intL
          rw [e, if_neg (by simp [ht]), hid, if_neg (by simp), if_neg (by simpa using c3)]
        · intro e2
          simp only [List.cons.injEq] at e2
          exact c4 e2.1
def plainB (s : List UInt8) : Bool := s.all fun c => c != 34 && c != 92
theorem plain_app (a b : List UInt8) : plainB (a ++ b) = (plainB a && plainB b) := List.all_append
theorem bad_ascii' {a : UInt8} {r : List UInt8} (h : a.toNat < 128) : bad (a :: r) = false := by
  unfold bad
  rw [D_ascii a r h]
  simp
  intro e; omega
theorem textF_plain : ∀ (cs : List Int) (n : Nat) (s : List UInt8), (∀ c ∈ cs, isC c = true) → plainB (flatC cs) = true → (flatC cs).length + 1 ≤ n → textF n (flatC cs ++ [34]) s = ((flatC cs).length + 1, 0, s ++ flatC cs)
  | [], 0, s, h, hp, hn => by omega
  | [], n + 1, s, h, hp, hn => by
    show textF (n + 1) [34] s = _
    rw [textF]
    rw [bad_ascii' (by decide), D_ascii 34 [] (by decide)]
    simp [flatC]
  | c :: cs, 0, s, h, hp, hn => by omega
  | c :: cs, n + 1, s, h, hp, hn => by
    have hc := h c (List.mem_cons_self ..)
    have hlen := bytesR_pos hc
    rw [flatC, List.length_append] at hn
    rw [flatC, plain_app, Bool.and_eq_true] at hp
    have n34 : c ≠ 34 := by intro e; subst e; exact absurd hp.1 (by decide)
    have n92 : c ≠ 92 := by intro e; subst e; exact absurd hp.1 (by decide)
    have h0 : 0 ≤ c := ((isC_iff c).1 hc).1
    have hD := D_bytes hc (flatC cs ++ [34])
    have hB := not_bad hc (flatC cs ++ [34])
    have ih := textF_plain cs n (s ++ bytesR c) (fun x hx => h x (List.mem_cons_of_mem _ hx)) hp.2 (by omega)
    rw [flatC, List.append_assoc]
    obtain ⟨x, y, hxy⟩ : ∃ x y, bytesR c ++ (flatC cs ++ [34]) = x :: y := by
      cases hz : bytesR c ++ (flatC cs ++ [34]) with
      | nil => have := congrArg List.length hz; simp at this
      | cons x y => exact ⟨x, y, rfl⟩
    rw [hxy] at hD hB ⊢
    rw [textF]
    simp only [hD, hB, Bool.false_eq_true, ↓reduceIte, show ¬ c.toNat = 34 by omega, show ¬ c.toNat = 92 by omega]
    rw [← hxy, List.drop_left, Int.toNat_of_nonneg h0, ih]
    simp only [List.length_append, List.append_assoc, Prod.mk.injEq, and_self, and_true]
    omega
theorem lex_text {cs : List Int} (h : ∀ c ∈ cs, isC c = true) (hp : plainB (flatC cs) = true) : lexL (34 :: (flatC cs ++ [34])) = .inr [⟨7, 0, 4, 0, flatC cs, 0⟩] := by
  have ht := textF_plain cs (34 :: (flatC cs ++ [34])).length [] h hp (by simp)
  rw [List.nil_append] at ht
  have htk : tokL (34 :: (flatC cs ++ [34])).length (34 :: (flatC cs ++ [34])) 0 = .tok ⟨7, 0, 4, 0, flatC cs, 0⟩ (1 + ((flatC cs).length + 1)) := by
    have hb : beg (34 :: (flatC cs ++ [34])) [35, 124] = false := by
      unfold beg
      rw [beq_eq_false_iff_ne]
      intro e
      have := congrArg (fun l => l.headD 0) e
      simp at this
    unfold tokL
    rw [show pk (34 :: (flatC cs ++ [34])) = 34 from rfl, show (34 :: (flatC cs ++ [34])).drop 1 = flatC cs ++ [34] from rfl, ht, hb]
    rfl
  unfold lexL
  rw [show (34 :: (flatC cs ++ [34])).length = (flatC cs ++ [34]).length + 1 from rfl, lexF, htk]
  simp only
  rw [show (34 :: (flatC cs ++ [34])).drop (1 + ((flatC cs).length + 1)) = [] from List.drop_of_length_le (by simp; omega), lexF_nil0]
theorem lex_t : lexL [35, 116] = .inr [⟨7, 0, 1, 1, [], 0⟩] := by rfl
theorem lex_f : lexL [35, 102] = .inr [⟨7, 0, 1, 0, [], 0⟩] := by rfl
end Go.Proofs.YtpngkgkobapioaaDoor
