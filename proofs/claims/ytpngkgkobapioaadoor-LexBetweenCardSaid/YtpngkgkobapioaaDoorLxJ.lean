/- Lex: the tokens of a source. Condition: none. -/
import Derived.Test.YtpngkgkobapioaaDoorLxI
set_option maxRecDepth 100000
set_option maxHeartbeats 8000000
set_option linter.unusedSimpArgs false
set_option linter.unusedVariables false
namespace Go.Proofs.YtpngkgkobapioaaDoor
open Go Go.TM
theorem lineF_le : ∀ (n : Nat) (l : List UInt8), (lineF n l).1 ≤ l.length
  | 0, l => by simp [lineF]
  | n + 1, [] => by simp [lineF]
  | n + 1, c :: r => by
    rw [lineF]
    split
    · simp
    · split
      · simp
      · rename_i h1 h2
        rw [Bool.not_eq_true] at h2
        have h3 := D_in h2
        have ih := lineF_le n ((c :: r).drop (D (c :: r)).2)
        rw [List.length_drop, List.length_cons] at ih
        rw [List.length_cons]
        try simp only
        omega
theorem nestF_le : ∀ (n : Nat) (l : List UInt8) (d : Int), (nestF n l d).1 ≤ l.length
  | 0, l, d => by simp [nestF]
  | n + 1, [], d => by simp [nestF]
  | n + 1, c :: r, d => by
    rw [nestF]
    split
    · rename_i h
      have h2 := beg_len h
      simp only [List.length_cons, List.length_nil] at h2
      split
      · simp
      · have ih := nestF_le n ((c :: r).drop 2) (d + 1)
        rw [List.length_drop, List.length_cons] at ih
        rw [List.length_cons]
        try simp only
        omega
    · split
      · rename_i h
        have h2 := beg_len h
        simp only [List.length_cons, List.length_nil] at h2
        split
        · simp only [List.length_cons]; omega
        · have ih := nestF_le n ((c :: r).drop 2) (d - 1)
          rw [List.length_drop, List.length_cons] at ih
          rw [List.length_cons]
          try simp only
          omega
      · split
        · simp
        · rename_i h2
          rw [Bool.not_eq_true] at h2
          have h3 := D_in h2
          have ih := nestF_le n ((c :: r).drop (D (c :: r)).2) d
          rw [List.length_drop, List.length_cons] at ih
          rw [List.length_cons]
          try simp only
          omega
theorem textF_le : ∀ (n : Nat) (l s : List UInt8), (textF n l s).1 ≤ l.length
  | 0, l, s => by simp [textF]
  | n + 1, [], s => by simp [textF]
  | n + 1, c :: r, s => by
    rw [textF]
    split
    · simp
    · rename_i h2
      rw [Bool.not_eq_true] at h2
      have h3 := D_in h2
      split
      · simp only [List.length_cons]; omega
      · split
        · split
          · simp
          · split
            · simp
            · rename_i v m he
              have h4 := escL_ok he
              rw [List.length_drop, List.length_cons] at h4
              have ih := textF_le n ((c :: r).drop ((D (c :: r)).2 + m)) (s ++ bytesR v)
              rw [List.length_drop, List.length_cons] at ih
              rw [List.length_cons]
              try simp only
              omega
        · have ih := textF_le n ((c :: r).drop (D (c :: r)).2) (s ++ bytesR (D (c :: r)).1)
          rw [List.length_drop, List.length_cons] at ih
          rw [List.length_cons]
          try simp only
          omega
theorem nest_pos {n : Nat} {l : List UInt8} (hb : beg l [35, 124] = true) (h : (nestF n l 0).2 = 0) : 1 ≤ (nestF n l 0).1 := by
  cases n with
  | zero => simp [nestF] at h
  | succ n =>
    cases l with
    | nil => simp [beg] at hb
    | cons c r =>
      rw [nestF] at h ⊢
      simp only [hb, ↓reduceIte, show ¬ ((0 : Int) = 200) by decide] at h ⊢
      omega
theorem line_pos {n : Nat} {c : UInt8} {r : List UInt8} (hn : (c :: r).length ≤ n) (hc : (c.toNat : Int) = 59) (h : (lineF n (c :: r)).2 = true) : 1 ≤ (lineF n (c :: r)).1 := by
  cases n with
  | zero => simp at hn
  | succ n =>
    rw [lineF] at h ⊢
    split
    · omega
    · rename_i h1
      simp only [h1, ↓reduceIte] at h
      split
      · rename_i h2; simp [h2] at h
      · rename_i h2
        rw [Bool.not_eq_true] at h2
        have := D_in h2
        try simp only
        omega
theorem runL_pos {c : UInt8} {r : List UInt8} (h : isSym c = true) : 1 ≤ (runL (c :: r)).length := by
  rw [runL, List.takeWhile_cons, if_pos h]; simp
def TR.took : TR → Option Nat
  | .bad _ _ => none
  | .skip m => some m
  | .tok _ m => some m
theorem loose_took {l : List UInt8} {p : Int} {t : Tk} {m k : Nat} (h : (loose l p t m).took = some k) : k = m := by
  unfold loose at h
  split at h <;> simp [TR.took] at h
  exact h.symm
theorem tokL_took {n : Nat} {c : UInt8} {r : List UInt8} {p : Int} {m : Nat} (hn : (c :: r).length ≤ n) (h : (tokL n (c :: r) p).took = some m) : 1 ≤ m ∧ m ≤ (c :: r).length := by
  have hl : (c :: r).length = r.length + 1 := rfl
  have hpk : pk (c :: r) = c := rfl
  unfold tokL at h
  rw [hpk] at h
  split at h
  · simp only [TR.took, Option.some.injEq] at h; omega
  · split at h
    · rename_i hc
      split at h
      · rename_i hq
        have h1 := line_pos hn hc hq
        have h2 := lineF_le n (c :: r)
        simp only [TR.took, Option.some.injEq] at h; omega
      · simp [TR.took] at h
    · split at h
      · rename_i hb
        split at h
        · rename_i hq
          have h1 := nest_pos hb hq
          have h2 := nestF_le n (c :: r) 0
          simp only [TR.took, Option.some.injEq] at h; omega
        · repeat' split at h
          all_goals simp [TR.took] at h
      · split at h
        · simp only [TR.took, Option.some.injEq] at h; omega
        · split at h
          · simp only [TR.took, Option.some.injEq] at h; omega
          · split at h
            · simp only [TR.took, Option.some.injEq] at h; omega
            · split at h
              · have h2 := textF_le n ((c :: r).drop 1) []
                rw [List.length_drop] at h2
                repeat' split at h
                all_goals simp only [TR.took, Option.some.injEq, reduceCtorEq] at h
                omega
              · split at h
                · split at h
                  · simp [TR.took] at h
                  · rename_i t k hmk
                    have h1 := markL_len hmk (by simp)
                    split at h
                    · have := loose_took h
                      omega
                    · simp only [TR.took, Option.some.injEq] at h; omega
                · split at h
                  · rename_i hs
                    have h1 := runL_pos (r := r) hs
                    have h2 := runL_len (c :: r)
                    have := loose_took h
                    omega
                  · simp [TR.took] at h
def lexF : Nat → List UInt8 → Int → (Int × Int) ⊕ List Tk
  | 0, _, _ => .inr []
  | n + 1, l, p => match l with
    | [] => .inr []
    | c :: r => match tokL (c :: r).length (c :: r) p with
      | .bad e q => .inl (e, q)
      | .skip m => lexF n ((c :: r).drop m) (p + m)
      | .tok t m => match lexF n ((c :: r).drop m) (p + m) with
        | .inl x => .inl x
        | .inr ts => .inr (t :: ts)
theorem tok_kind {n : Nat} {l : List UInt8} {p : Int} {t : Tk} {m : Nat} (h : tokL n l p = .tok t m) : t.kind ≠ 0 := by
  have hloose : ∀ t' m', loose l p t' m' = .tok t m → t'.kind ≠ 0 → t.kind ≠ 0 := by
    intro t' m' h1 h2
    unfold loose at h1
    split at h1
    · simp only [TR.tok.injEq] at h1; rw [← h1.1]; exact h2
    · cases h1
  have hword : ∀ run q, (wordT run q).kind ≠ 0 := by
    intro run q
    unfold wordT
    split
    · simp
    · split <;> simp
  have hmark : ∀ t' m', markL l p = some (t', m') → t'.kind ≠ 0 := by
    intro t' m' h1
    unfold markL at h1
    repeat' split at h1
    all_goals (first | (simp only [Option.some.injEq, Prod.mk.injEq] at h1; rw [← h1.1]; simp) | cases h1)
  unfold tokL at h
  split at h
  · cases h
  · split at h
    · split at h <;> cases h
    · split at h
      · repeat' split at h
        all_goals cases h
      · split at h
        · simp only [TR.tok.injEq] at h; rw [← h.1]; simp
        · split at h
          · simp only [TR.tok.injEq] at h; rw [← h.1]; simp
          · split at h
            · simp only [TR.tok.injEq] at h; rw [← h.1]; simp
            · split at h
              · split at h
                · simp only [TR.tok.injEq] at h; rw [← h.1]; simp
                · split at h <;> cases h
              · split at h
                · split at h
                  · cases h
                  · rename_i t' m' hmk
                    split at h
                    · exact hloose _ _ h (hmark _ _ hmk)
                    · simp only [TR.tok.injEq] at h; rw [← h.1]; exact hmark _ _ hmk
                · split at h
                  · exact hloose _ _ h (hword _ _)
                  · cases h
theorem tokL_bad {n : Nat} {l : List UInt8} {p e q : Int} (h : tokL n l p = .bad e q) : e = 4 ∨ e = 5 := by
  have hloose : ∀ t' m', loose l p t' m' = .bad e q → e = 4 ∨ e = 5 := by
    intro t' m' h1
    unfold loose at h1
    split at h1
    · cases h1
    · simp only [TR.bad.injEq] at h1; omega
  unfold tokL at h
  split at h
  · cases h
  · split at h
    · split at h
      · cases h
      · simp only [TR.bad.injEq] at h; omega
    · split at h
      · split at h
        · cases h
        · split at h
          · simp only [TR.bad.injEq] at h; omega
          · split at h
            · simp only [TR.bad.injEq] at h; omega
            · simp only [TR.bad.injEq] at h; omega
      · split at h
        · cases h
        · split at h
          · cases h
          · split at h
            · cases h
            · split at h
              · split at h
                · cases h
                · split at h
                  · simp only [TR.bad.injEq] at h; omega
                  · simp only [TR.bad.injEq] at h; omega
              · split at h
                · split at h
                  · simp only [TR.bad.injEq] at h; omega
                  · split at h
                    · exact hloose _ _ h
                    · cases h
                · split at h
                  · exact hloose _ _ h
                  · simp only [TR.bad.injEq] at h; omega
def OutOk (x : TV) (R : Store) (ts : List Tk) : Prop := (ts = [] ∧ x = .iv (.sl .nil [])) ∨ (∃ j, ts ≠ [] ∧ x = .tsl (j + 1) (ts.map encT) ∧ R[j]? = some (.tok ts.length 7 30))
theorem OutOk.app {x : TV} {R : Store} {ts : List Tk} (h : OutOk x R ts) (G : Store) : OutOk x (R ++ G) ts := by
  rcases h with h | ⟨j, h0, h1, h2⟩
  · exact .inl h
  · refine .inr ⟨j, h0, h1, ?_⟩
    rw [List.getElem?_append_left (by
      rcases Nat.lt_or_ge j R.length with g | g
      · exact g
      · rw [List.getElem?_eq_none g] at h2; cases h2)]
    exact h2
theorem encT_ok (t : Tk) : (encT t).length = 7 ∧ (encT t).all isCell = true := ⟨rfl, rfl⟩
theorem OutOk.put {x : TV} {R : Store} {ts : List Tk} (h : OutOk x R ts) (B : Block) (t : Tk) (hl : ts.length ≤ 16777216) :
    ∃ j' L' R', OutOk (.tsl j' L') R' (ts ++ [t]) ∧ appendOp false 7 80 30 (B :: R) x (.iv (.sl .full [encT t])) = some (.tsl j' L', B :: R') := by
  rcases h with ⟨rfl, rfl⟩ | ⟨j, h0, rfl, h2⟩
  · have := ap_new (w := 7) (b := 80) (el := 30) (S := B :: R) (t := .nil) (l := []) (ys := [encT t]) (x := .iv (.sl .full [encT t])) (by decide) (IsEl.sl _ _ _) (by intro y hy; simp at hy; subst hy; exact encT_ok t) Elems.nil (by simp) (roomy_ok (by simp))
    refine ⟨R.length + 1, [encT t], R ++ [.tok 1 7 30], .inr ⟨R.length, by simp, rfl, by simp⟩, ?_⟩
    rw [this]; rfl
  · have := ap_tsl (w := 7) (b := 80) (el := 30) (i := j + 1) (S := B :: R) (l := ts.map encT) (ys := [encT t]) (x := .iv (.sl .full [encT t])) (IsEl.sl _ _ _) (by intro y hy; simp at hy; subst hy; exact encT_ok t) (Elems.map encT_ok ts) (by rw [List.length_map, List.getElem?_cons_succ]; exact h2) (roomy_ok (by simp; omega))
    have hj : j < R.length := by
      rcases Nat.lt_or_ge j R.length with g | g
      · exact g
      · rw [List.getElem?_eq_none g] at h2; cases h2
    refine ⟨j + 1, (ts ++ [t]).map encT, R.set j (.tok (ts.length + 1) 7 30), .inr ⟨j, by simp, rfl, by rw [List.getElem?_set_self hj]; simp⟩, ?_⟩
    rw [this]
    simp only [List.map_append, List.map_cons, List.map_nil, List.length_map, List.length_cons, List.length_nil, List.set_cons_succ, Nat.zero_add]
end Go.Proofs.YtpngkgkobapioaaDoor
