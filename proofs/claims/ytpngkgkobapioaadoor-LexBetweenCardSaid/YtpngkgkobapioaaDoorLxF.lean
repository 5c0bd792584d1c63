/- Lex: escapes, strings. Condition: none. -/
import Derived.Test.YtpngkgkobapioaaDoorLxE
set_option maxRecDepth 100000
set_option maxHeartbeats 4000000
set_option linter.unusedSimpArgs false
set_option linter.unusedVariables false
namespace Go.Proofs.YtpngkgkobapioaaDoor
open Go Go.TM
theorem sym59 : isSym 59 = false := by decide
def escL : List UInt8 → Option (Int × Nat)
  | [] => none
  | c :: r =>
    if (c.toNat : Int) = 34 ∨ (c.toNat : Int) = 92 then some (c.toNat, 1)
    else if (c.toNat : Int) = 110 then some (10, 1)
    else if (c.toNat : Int) = 116 then some (9, 1)
    else if (c.toNat : Int) = 120 then (if hexO (runL r) = true ∧ ((pk (r.drop (runL r).length)).toNat : Int) = 59 then some (hexN (runL r), 1 + ((runL r).length + 1)) else none)
    else none
theorem escL_ok {l : List UInt8} {v : Int} {m : Nat} (h : escL l = some (v, m)) : isC v = true ∧ 1 ≤ m ∧ m ≤ l.length := by
  cases l with
  | nil => cases h
  | cons c r =>
    have hb := bl c
    rw [escL] at h
    split at h
    · simp only [Option.some.injEq, Prod.mk.injEq] at h
      refine ⟨(isC_iff _).2 (by omega), by omega, by simp; omega⟩
    · split at h
      · simp only [Option.some.injEq, Prod.mk.injEq] at h
        refine ⟨(isC_iff _).2 (by omega), by omega, by simp; omega⟩
      · split at h
        · simp only [Option.some.injEq, Prod.mk.injEq] at h
          refine ⟨(isC_iff _).2 (by omega), by omega, by simp; omega⟩
        · split at h
          · split at h
            · rename_i hx
              simp only [Option.some.injEq, Prod.mk.injEq] at h
              have hl := runL_len r
              have hne : (runL r).length < r.length := by
                rcases Nat.lt_or_ge (runL r).length r.length with g | g
                · exact g
                · rw [List.drop_of_length_le g] at hx
                  simp [pk] at hx
              refine ⟨?_, by omega, by rw [List.length_cons]; omega⟩
              have h1 := hx.1
              rw [← h.1]
              unfold hexN
              unfold hexO at h1
              cases hf : hexF (runL r) 0 with
              | none => rw [hf] at h1; cases h1
              | some n => rw [hf] at h1; simp only [Bool.and_eq_true] at h1; exact h1.2
            · cases h
          · cases h
def escV (o : Option (Int × Nat)) (i : Nat) : TV := match o with
  | some (v, _) => .tup [.iv (.int .i32 v), .iv (flt 0 0)]
  | none => .tup [.iv (.int .i32 0), .iv (flt 4 ((i : Int) - 1))]
theorem loop32 (t : Tag) (b : List UInt8) (hb : b.length ≤ 16777216) (x1 x2 x3 x4 x5 x6 x7 x8 x9 x10 x11 x12 x14 : TV) (R : Store) : ∀ (k i : Nat) (x13 : TV), i + k = b.length →
    ∃ y13, lp' (lim K) t32L0 [.ptr 0 44 0, x1, x2, x3, x4, x5, x6, x7, x8, x9, x10, x11, x12, x13, x14] (rdB t b i :: R) = .ret (.exit 1, [.ptr 0 44 0, x1, x2, x3, x4, x5, x6, x7, x8, x9, x10, x11, x12, y13, x14], rdB t b (i + (runL (b.drop i)).length) :: R)
  | 0, i, x13, h => by
    obtain rfl : i = b.length := by omega
    have h14 := call14 t b b.length R
    rw [decide_eq_true (Nat.le_refl _)] at h14
    refine ⟨?_, loop_at K _ _ t32L0.eq_1 ?_⟩
    rotate_left
    · rw [List.drop_length, show (runL []).length = 0 from rfl, Nat.add_zero]
      simp only [rdB_eq] at h14 ⊢
      simp (disch := omega) only [go_sem, h14]
      rfl
  | k + 1, i, x13, h => by
    have h14 := call14 t b i R
    rw [decide_eq_false (show ¬ b.length ≤ i by omega)] at h14
    have hix := ix_bytes (t := t) (l := b) (i := (i : Int)) (by omega)
    rw [Int.toNat_natCast] at hix
    have hd := drop_cons (b := b) (i := i) (by omega)
    have h24 := call24 (b.getD i 0)
    by_cases hc : isSym (b.getD i 0) = true
    · obtain ⟨y13, ih⟩ := loop32 t b hb x1 x2 x3 x4 x5 x6 x7 x8 x9 x10 x11 x12 x14 R k (i + 1) (.iv (.bool true)) (by omega)
      refine ⟨y13, loop_at K _ _ t32L0.eq_1 ?_⟩
      have e : (runL (b.drop i)).length = (runL (b.drop (i + 1))).length + 1 := by rw [hd, runL, List.takeWhile_cons, if_pos hc]; rfl
      have h59 : ¬ ((b.getD i 0).toNat : Int) = 59 := by
        intro h5
        have : b.getD i 0 = 59 := UInt8.toNat_inj.1 (by show (b.getD i 0).toNat = 59; omega)
        rw [this, sym59] at hc; cases hc
      rw [hc] at h24
      rw [e, show i + ((runL (b.drop (i + 1))).length + 1) = i + 1 + (runL (b.drop (i + 1))).length by omega]
      simp only [rdB_eq] at h14 ih ⊢
      generalize b.getD i 0 = c at *
      simp (config := { maxSteps := 4000000 }) (disch := omega) only [go_sem, h14, hix, h24, h59, wrap_i64]
      exact congrArg er ih
    · rw [Bool.not_eq_true] at hc
      rw [hc] at h24
      have e : (runL (b.drop i)).length = 0 := by rw [hd, runL, List.takeWhile_cons, if_neg (by rw [hc]; decide)]; rfl
      rw [e, Nat.add_zero]
      generalize b.getD i 0 = c at *
      by_cases h59 : (c.toNat : Int) = 59
      · refine ⟨?_, loop_at K _ _ t32L0.eq_1 ?_⟩
        rotate_left
        · simp only [rdB_eq] at h14 ⊢
          simp (config := { maxSteps := 4000000 }) (disch := omega) only [go_sem, h14, hix, h59, wrap_i64]
          rfl
      · refine ⟨?_, loop_at K _ _ t32L0.eq_1 ?_⟩
        rotate_left
        · simp only [rdB_eq] at h14 ⊢
          simp (config := { maxSteps := 4000000 }) (disch := omega) only [go_sem, h14, hix, h24, wrap_i64]
          rfl
theorem call32 (t : Tag) (b : List UInt8) (ht : TagOk t b) (i : Nat) (hb : b.length ≤ 16777216) (h1 : 1 ≤ i) (hi : i < b.length) (R : Store) :
    ∃ i', (∀ v m, escL (b.drop i) = some (v, m) → i' = i + m) ∧ (lim K).call 32 [.ptr 0 44 0] (rdB t b i :: R) = .ret (escV (escL (b.drop i)) i, rdB t b i' :: R) := by
  have h35 := call35 t b i hb (by omega) R
  have h16 := call16
  have h27 := call27 ((i : Int) - 1)
  have hd := drop_cons hi
  rw [hd, show pk (b.getD i 0 :: b.drop (i + 1)) = b.getD i 0 from rfl] at h35
  have hc := bl (b.getD i 0)
  rw [hd, escL]
  by_cases c34 : ((b.getD i 0).toNat : Int) = 34 ∨ ((b.getD i 0).toNat : Int) = 92
  · rw [if_pos c34]
    refine ⟨i + 1, fun v m e => by simp only [Option.some.injEq, Prod.mk.injEq] at e; omega, ?_⟩
    generalize b.getD i 0 = c at *
    refine call_ret' K _ (fn := t32) rfl rfl ?_
    simp only [rdB_eq, escV, flt] at h35 ⊢
    by_cases c1 : (c.toNat : Int) = 34
    · simp (config := { maxSteps := 4000000 }) (disch := omega) only [t32, go_sem, h35, h16, wrap_i64, wrap_i32, Int.natCast_add, Int.cast_ofNat_Int]
    · simp (config := { maxSteps := 4000000 }) (disch := omega) only [t32, go_sem, h35, h16, wrap_i64, wrap_i32, Int.natCast_add, Int.cast_ofNat_Int]
  rw [if_neg c34]
  by_cases c110 : ((b.getD i 0).toNat : Int) = 110
  · rw [if_pos c110]
    refine ⟨i + 1, fun v m e => by simp only [Option.some.injEq, Prod.mk.injEq] at e; omega, ?_⟩
    generalize b.getD i 0 = c at *
    refine call_ret' K _ (fn := t32) rfl rfl ?_
    simp only [rdB_eq, escV, flt] at h35 ⊢
    simp (config := { maxSteps := 4000000 }) (disch := omega) only [t32, go_sem, h35, h16, wrap_i64, wrap_i32, Int.natCast_add, Int.cast_ofNat_Int]
  rw [if_neg c110]
  by_cases c116 : ((b.getD i 0).toNat : Int) = 116
  · rw [if_pos c116]
    refine ⟨i + 1, fun v m e => by simp only [Option.some.injEq, Prod.mk.injEq] at e; omega, ?_⟩
    generalize b.getD i 0 = c at *
    refine call_ret' K _ (fn := t32) rfl rfl ?_
    simp only [rdB_eq, escV, flt] at h35 ⊢
    simp (config := { maxSteps := 4000000 }) (disch := omega) only [t32, go_sem, h35, h16, wrap_i64, wrap_i32, Int.natCast_add, Int.cast_ofNat_Int]
  rw [if_neg c116]
  by_cases c120 : ((b.getD i 0).toNat : Int) = 120
  · rw [if_pos c120]
    have hlen := runL_len (b.drop (i + 1))
    rw [List.length_drop] at hlen
    have htk := take_while_take (b.drop (i + 1))
    have h2 : bytesOf (bytesIV (runL (b.drop (i + 1)))) = some (runL (b.drop (i + 1))) := bytesOf_bytesIV _
    have h40 := call40 (runL (b.drop (i + 1))) (by omega)
    have h35b := call35 t b (i + 1 + (runL (b.drop (i + 1))).length) hb (by omega) R
    rw [List.drop_drop]
    obtain ⟨y13, e⟩ := loop32 t b hb (.iv (.int .i32 0)) (.lb [.iv (.int .i64 0), .iv (.int .i64 0)]) (.iv (.int .i64 ((i : Int) - 1))) (.iv (.int .u8 (b.getD i 0).toNat)) (.iv (.int .i64 (i + 1 : Nat))) (.tup []) (.tup []) (.iv (.int .u8 (b.getD i 0).toNat)) (.iv (.bool false)) (.iv (.bool false)) (.iv (.bool false)) (.iv (.bool true)) (.tup []) R (b.length - (i + 1)) (i + 1) (.tup []) (by omega)
    have hsl := slice_bytes (.cells 44 false [.iv (.sl t (bytesIV b)), .iv (.int .i64 (i + 1 + (runL (b.drop (i + 1))).length : Nat))] :: R) (t := t) (l := b) (a := ((i + 1 : Nat) : Int)) (b := ((i + 1 + (runL (b.drop (i + 1))).length : Nat) : Int)) ht (by omega)
    simp only [Int.toNat_natCast, Nat.add_sub_cancel_left, htk] at hsl
    generalize pk (b.drop (i + 1 + (runL (b.drop (i + 1))).length)) = p at *
    generalize runL (b.drop (i + 1)) = X at *
    generalize b.getD i 0 = c at *
    simp only [rdB_eq] at h35 h35b e ⊢
    by_cases hh : hexO X = true
    · rw [hh] at h40
      by_cases hp : (p.toNat : Int) = 59
      · rw [if_pos ⟨hh, hp⟩]
        refine ⟨i + (1 + (X.length + 1)), fun v m e => by simp only [Option.some.injEq, Prod.mk.injEq] at e; omega, ?_⟩
        refine call_ret' K _ (fn := t32) rfl rfl ?_
        simp only [rdB_eq, escV, flt]
        rw [show ((i + (1 + (X.length + 1)) : Nat) : Int) = ((i + 1 + X.length : Nat) : Int) + 1 by omega]
        have e1 : ((i + 1 : Nat) : Int) = (i : Int) + 1 := by omega
        rw [e1] at e hsl
        have hz : 0 ≤ ((i + 1 + X.length : Nat) : Int) ∧ ((i + 1 + X.length : Nat) : Int) ≤ 16777216 := by omega
        generalize ((i + 1 + X.length : Nat) : Int) = z at *
        simp (config := { maxSteps := 4000000 }) (disch := omega) only [t32, go_sem, h35, h35b, h16, e, hsl, bsV, h2, h40, hp, wrap_i64, wrap_i32]
      · rw [if_neg (fun h => hp h.2)]
        refine ⟨i + 1 + X.length, (fun v m e => by cases e), ?_⟩
        refine call_ret' K _ (fn := t32) rfl rfl ?_
        simp only [rdB_eq, escV, flt]
        have e1 : ((i + 1 : Nat) : Int) = (i : Int) + 1 := by omega
        rw [e1] at e hsl
        generalize ((i + 1 + X.length : Nat) : Int) = z at *
        simp (config := { maxSteps := 4000000 }) (disch := omega) only [t32, go_sem, h35, h35b, h16, h27, e, hsl, bsV, h2, h40, hp, wrap_i64, wrap_i32]
    · rw [if_neg (fun h => hh h.1)]
      rw [Bool.not_eq_true] at hh
      rw [hh] at h40
      refine ⟨i + 1 + X.length, (fun v m e => by cases e), ?_⟩
      refine call_ret' K _ (fn := t32) rfl rfl ?_
      simp only [rdB_eq, escV, flt]
      have e1 : ((i + 1 : Nat) : Int) = (i : Int) + 1 := by omega
      rw [e1] at e hsl
      generalize ((i + 1 + X.length : Nat) : Int) = z at *
      simp (config := { maxSteps := 4000000 }) (disch := omega) only [t32, go_sem, h35, h35b, h16, h27, e, hsl, bsV, h2, h40, wrap_i64, wrap_i32]
  · rw [if_neg c120]
    refine ⟨i + 1, (fun v m e => by cases e), ?_⟩
    generalize b.getD i 0 = c at *
    refine call_ret' K _ (fn := t32) rfl rfl ?_
    simp only [rdB_eq, escV, flt] at h35 ⊢
    simp (config := { maxSteps := 4000000 }) (disch := omega) only [t32, go_sem, h35, h16, h27, wrap_i64, wrap_i32, Int.natCast_add, Int.cast_ofNat_Int]
end Go.Proofs.YtpngkgkobapioaaDoor
