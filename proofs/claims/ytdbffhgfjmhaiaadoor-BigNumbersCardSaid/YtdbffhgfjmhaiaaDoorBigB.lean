/- The contracts of big: digits multiplied. Condition: none. -/
import Derived.Test.YtdbffhgfjmhaiaaDoorBigV
set_option maxRecDepth 100000
set_option linter.unusedSimpArgs false
set_option linter.unusedVariables false
namespace Go.Proofs.YtdbffhgfjmhaiaaDoor
open Go Go.TM
theorem d16_ok (n : Int) : ([d16 n] : List IV).length = 1 ∧ ([d16 n] : List IV).all isCell = true := ⟨rfl, rfl⟩
theorem i64_ok (n : Int) : ([i64 n] : List IV).length = 1 ∧ ([i64 n] : List IV).all isCell = true := ⟨rfl, rfl⟩
theorem one_snoc {α : Type} (f : α → IV) (l : List α) (a : α) : one f l ++ [[f a]] = one f (l ++ [a]) := by simp [one]
theorem tmod_nn {a b : Int} (h : 0 ≤ a) : a.tmod b = a % b := Int.tmod_eq_emod_of_nonneg h
theorem tdiv_nn {a b : Int} (h : 0 ≤ a) : a.tdiv b = a / b := Int.tdiv_eq_ediv_of_nonneg h
theorem fd16 (m : Int) : m.fdiv 65536 = m / 65536 := Int.fdiv_eq_ediv_of_nonneg m (by decide)
theorem mul_le {a b c d : Int} (h1 : 0 ≤ a) (h2 : a ≤ c) (h3 : 0 ≤ b) (h4 : b ≤ d) : 0 ≤ a * b ∧ a * b ≤ c * d :=
  ⟨Int.mul_nonneg h1 h3, Int.le_trans (Int.mul_le_mul_of_nonneg_right h2 h3) (Int.mul_le_mul_of_nonneg_left h4 (by omega))⟩
theorem loop41 (t : Tag) (l : List Int) (hd : Dig 65536 l) (hl : l.length ≤ 1000000) (y : Int) (hy : 0 ≤ y ∧ y ≤ 65535) (x0 x3 : TV) : ∀ (n i : Nat) (m : Int) (d : List Int) (x5 x9 : TV), i + n = l.length → d.length = i → 0 ≤ m ∧ m ≤ 65536 →
    ∃ y5 y9, lp' (lim K) t41L0 [x0, .iv (.int .u32 y), .iv (.int .u32 m), x3, acc 0 (one d16 d), x5, .iv (.sl t (one d16 l)), .iv (.int .i64 l.length), .iv (.int .i64 i), x9] (accS 1 55 (one d16 d)) = .ret (.exit 0, [x0, .iv (.int .u32 y), .iv (.int .u32 (sc 65536 y (l.drop i) m).2), x3, acc 0 (one d16 (d ++ (sc 65536 y (l.drop i) m).1)), y5, .iv (.sl t (one d16 l)), .iv (.int .i64 l.length), .iv (.int .i64 l.length), y9], accS 1 55 (one d16 (d ++ (sc 65536 y (l.drop i) m).1)))
  | 0, i, m, d, x5, x9, h, hi, hm => by
    obtain rfl : i = l.length := by omega
    rw [List.drop_length]
    refine ⟨?_, ?_, loop_at K _ _ t41L0.eq_1 ?_⟩
    rotate_left 2
    · simp (disch := omega) only [go_sem, Nat.reduceAdd, Nat.reduceSub, Nat.reduceLT, Nat.reduceLeDiff, Nat.reduceEqDiff, Nat.reduceBEq, reduceIte, reduceCtorEq, Int.reduceEq, Int.reduceLT, Int.reduceLE, Int.reduceAdd, Int.reduceSub, Int.reduceMul, Int.reduceToNat, Int.reduceNeg, Int.reduceBEq, Int.reducePow, Nat.reducePow, sc, List.append_nil]
      rfl
  | n + 1, i, m, d, x5, x9, h, hi, hm => by
    have hlt : i < l.length := by omega
    have hix := ix_one d16 (t := t) (l := l) (i := (i : Int)) (by omega)
    rw [Int.toNat_natCast] at hix
    have hdr : l.drop i = l.getD i default :: l.drop (i + 1) := by
      rw [List.drop_eq_getElem_cons hlt]; simp [List.getD, List.getElem?_eq_getElem hlt]
    have hg : 0 ≤ l.getD i default ∧ l.getD i default < 65536 := hd _ (by rw [List.getD, List.getElem?_eq_getElem hlt]; exact List.getElem_mem hlt)
    rw [hdr]
    generalize l.getD i default = a at *
    have hp := mul_le (c := 65535) (d := 65535) hg.1 (by omega) hy.1 hy.2
    have ha := ap_acc1 (w := 1) (b := 2) (el := 55) (t := .full) (d16_ok ((m + a * y) % 65536)) (Elems.one (f := d16) (fun _ => rfl) d) (roomy_ok (by rw [one_length]; omega))
    rw [one_snoc] at ha
    have hm' : 0 ≤ (m + a * y) / 65536 ∧ (m + a * y) / 65536 ≤ 65536 := by omega
    obtain ⟨y5, y9, ih⟩ := loop41 t l hd hl y hy x0 x3 n (i + 1) ((m + a * y) / 65536) (d ++ [(m + a * y) % 65536]) (.iv (.int .u16 a)) (.iv (.bool true)) (by omega) (by simp [hi]) hm'
    refine ⟨y5, y9, loop_at K _ _ t41L0.eq_1 ?_⟩
    simp only [d16] at hix ha
    simp (config := { maxSteps := 4000000 }) (disch := omega) only [go_sem, Nat.reduceAdd, Nat.reduceSub, Nat.reduceLT, Nat.reduceLeDiff, Nat.reduceEqDiff, Nat.reduceBEq, reduceIte, reduceCtorEq, Int.reduceEq, Int.reduceLT, Int.reduceLE, Int.reduceAdd, Int.reduceSub, Int.reduceMul, Int.reduceToNat, Int.reduceNeg, Int.reduceBEq, Int.reducePow, Nat.reducePow, hix, wrap_u32, wrap_u16_mod, wrap_i64, ha]
    rw [List.append_assoc] at ih
    simp only [sc, List.cons_append, List.nil_append] at ih ⊢
    rw [fd16]
    exact congrArg er ih
theorem call41 (t : Tag) (l : List Int) (hd : Dig 65536 l) (hl : l.length ≤ 900000) (y : Int) (hy : 0 ≤ y ∧ y ≤ 65535) (m : Int) (hm : 0 ≤ m ∧ m ≤ 65535) :
    Pure K 41 [.iv (.sl t (one d16 l)), .iv (.int .u32 y), .iv (.int .u32 m)] (.iv (.sl (sTag ((sc 65536 y l m).1 ++ [(sc 65536 y l m).2 % 65536])) (one d16 ((sc 65536 y l m).1 ++ [(sc 65536 y l m).2 % 65536])))) := by
  obtain ⟨y5, y9, e⟩ := loop41 t l hd (by omega) y hy (.iv (.sl t (one d16 l))) (.iv (.sl .nil [])) l.length 0 m [] (.tup []) (.tup []) (by omega) rfl (by omega)
  obtain ⟨h1, h2, h3, h4⟩ := sc_spec (B := 65536) (by decide) hy.1 l m hd hm.1
  rw [List.drop_zero, List.nil_append] at e
  have ha := ap_acc1 (w := 1) (b := 2) (el := 55) (t := .full) (d16_ok ((sc 65536 y l m).2 % 65536)) (Elems.one (f := d16) (fun _ => rfl) (sc 65536 y l m).1) (roomy_ok (by rw [one_length]; omega))
  rw [one_snoc] at ha
  refine call_pure t41 rfl rfl ?_
  simp only [d16] at ha
  have e0 : acc 0 (one d16 []) = .iv (.sl .nil []) := acc_nil 0
  have e1 : accS 1 55 (one d16 []) = [] := accS_nil 1 55
  rw [e0, e1, show ((0 : Nat) : Int) = 0 from rfl] at e
  simp (config := { maxSteps := 4000000 }) (disch := omega) only [t41, go_sem, Nat.reduceAdd, Nat.reduceSub, Nat.reduceLT, Nat.reduceLeDiff, Nat.reduceEqDiff, Nat.reduceBEq, reduceIte, reduceCtorEq, Int.reduceEq, Int.reduceLT, Int.reduceLE, Int.reduceAdd, Int.reduceSub, Int.reduceMul, Int.reduceToNat, Int.reduceNeg, Int.reduceBEq, Int.reducePow, Nat.reducePow, e, wrap_u16_mod, ha, resB_ret, resolve_acc, resO_some]
  rw [show sTag (one d16 ((sc 65536 y l m).1 ++ [(sc 65536 y l m).2 % 65536])) = sTag ((sc 65536 y l m).1 ++ [(sc 65536 y l m).2 % 65536]) from sTag_map _ _]
/-! ### The document's -/
theorem loop60a (t : Tag) (l : List Int) (hd : Dig 10 l) (hl : l.length ≤ 1000000) (y : Int) (hy : 0 ≤ y ∧ y ≤ 1000000) (x3 x7 : TV) : ∀ (n i : Nat) (m : Int) (d : List Int) (x6 : TV), i + n = l.length → d.length = i → 0 ≤ m ∧ m ≤ 10000000 →
    ∃ y6, lp' (lim K) t60L1 [.iv (.sl t (one i64 l)), .iv (.int .i64 y), .iv (.int .i64 m), x3, acc 0 (one i64 d), .iv (.int .i64 i), x6, x7] (accS 1 3 (one i64 d)) = .ret (.exit 0, [.iv (.sl t (one i64 l)), .iv (.int .i64 y), .iv (.int .i64 (sc 10 y (l.drop i) m).2), x3, acc 0 (one i64 (d ++ (sc 10 y (l.drop i) m).1)), .iv (.int .i64 l.length), y6, x7], accS 1 3 (one i64 (d ++ (sc 10 y (l.drop i) m).1)))
  | 0, i, m, d, x6, h, hi, hm => by
    obtain rfl : i = l.length := by omega
    rw [List.drop_length]
    refine ⟨?_, loop_at K _ _ t60L1.eq_1 ?_⟩
    rotate_left
    · simp (disch := omega) only [go_sem, Nat.reduceAdd, Nat.reduceSub, Nat.reduceLT, Nat.reduceLeDiff, Nat.reduceEqDiff, Nat.reduceBEq, reduceIte, reduceCtorEq, Int.reduceEq, Int.reduceLT, Int.reduceLE, Int.reduceAdd, Int.reduceSub, Int.reduceMul, Int.reduceToNat, Int.reduceNeg, Int.reduceBEq, Int.reducePow, Nat.reducePow, sc, List.append_nil]
      rfl
  | n + 1, i, m, d, x6, h, hi, hm => by
    have hlt : i < l.length := by omega
    have hix := ix_one i64 (t := t) (l := l) (i := (i : Int)) (by omega)
    rw [Int.toNat_natCast] at hix
    have hdr : l.drop i = l.getD i default :: l.drop (i + 1) := by
      rw [List.drop_eq_getElem_cons hlt]; simp [List.getD, List.getElem?_eq_getElem hlt]
    have hg : 0 ≤ l.getD i default ∧ l.getD i default < 10 := hd _ (by rw [List.getD, List.getElem?_eq_getElem hlt]; exact List.getElem_mem hlt)
    rw [hdr]
    generalize l.getD i default = a at *
    have hp := mul_le (c := 9) (d := 1000000) hg.1 (by omega) hy.1 hy.2
    have ha := ap_acc1 (w := 1) (b := 8) (el := 3) (t := .full) (i64_ok ((m + a * y) % 10)) (Elems.one (f := i64) (fun _ => rfl) d) (roomy_ok (by rw [one_length]; omega))
    rw [one_snoc] at ha
    have hm' : 0 ≤ (m + a * y) / 10 ∧ (m + a * y) / 10 ≤ 10000000 := by omega
    obtain ⟨y6, ih⟩ := loop60a t l hd hl y hy x3 x7 n (i + 1) ((m + a * y) / 10) (d ++ [(m + a * y) % 10]) (.iv (.bool true)) (by omega) (by simp [hi]) hm'
    refine ⟨y6, loop_at K _ _ t60L1.eq_1 ?_⟩
    simp only [i64] at hix ha
    have tm : (m + a * y).tmod 10 = (m + a * y) % 10 := tmod_nn (by omega)
    have td : (m + a * y).tdiv 10 = (m + a * y) / 10 := tdiv_nn (by omega)
    simp (config := { maxSteps := 4000000 }) (disch := omega) only [go_sem, Nat.reduceAdd, Nat.reduceSub, Nat.reduceLT, Nat.reduceLeDiff, Nat.reduceEqDiff, Nat.reduceBEq, reduceIte, reduceCtorEq, Int.reduceEq, Int.reduceLT, Int.reduceLE, Int.reduceAdd, Int.reduceSub, Int.reduceMul, Int.reduceToNat, Int.reduceNeg, Int.reduceBEq, Int.reducePow, Nat.reducePow, hix, wrap_i64, tm, td, ha]
    rw [List.append_assoc] at ih
    simp only [sc, List.cons_append, List.nil_append] at ih ⊢
    exact congrArg er ih
theorem loop60b (x0 x1 x3 x5 x6 : TV) : ∀ (k : Nat) (m : Int) (d : List Int) (x7 : TV), m.toNat ≤ k → d.length + m.toNat ≤ 100000000 → 0 ≤ m →
    ∃ y7, lp' (lim K) t60L0 [x0, x1, .iv (.int .i64 m), x3, acc 0 (one i64 d), x5, x6, x7] (accS 1 3 (one i64 d)) = .ret (.exit 2, [x0, x1, .iv (.int .i64 0), x3, acc 0 (one i64 (d ++ dg 10 m)), x5, x6, y7], accS 1 3 (one i64 (d ++ dg 10 m)))
  | 0, m, d, x7, h, hl, h0 => by
    obtain rfl : m = 0 := by omega
    rw [dg_zero, List.append_nil]
    refine ⟨?_, loop_at K _ _ t60L0.eq_1 ?_⟩
    rotate_left
    · simp (disch := omega) only [go_sem, Nat.reduceAdd, Nat.reduceSub, Nat.reduceLT, Nat.reduceLeDiff, Nat.reduceEqDiff, Nat.reduceBEq, reduceIte, reduceCtorEq, Int.reduceEq, Int.reduceLT, Int.reduceLE, Int.reduceAdd, Int.reduceSub, Int.reduceMul, Int.reduceToNat, Int.reduceNeg, Int.reduceBEq, Int.reducePow, Nat.reducePow]
      rfl
  | k + 1, m, d, x7, h, hl, h0 => by
    by_cases hm : m = 0
    · subst hm
      rw [dg_zero, List.append_nil]
      refine ⟨?_, loop_at K _ _ t60L0.eq_1 ?_⟩
      rotate_left
      · simp (disch := omega) only [go_sem, Nat.reduceAdd, Nat.reduceSub, Nat.reduceLT, Nat.reduceLeDiff, Nat.reduceEqDiff, Nat.reduceBEq, reduceIte, reduceCtorEq, Int.reduceEq, Int.reduceLT, Int.reduceLE, Int.reduceAdd, Int.reduceSub, Int.reduceMul, Int.reduceToNat, Int.reduceNeg, Int.reduceBEq, Int.reducePow, Nat.reducePow]
        rfl
    · have ha := ap_acc1 (w := 1) (b := 8) (el := 3) (t := .full) (i64_ok (m % 10)) (Elems.one (f := i64) (fun _ => rfl) d) (roomy_ok (by rw [one_length]; omega))
      rw [one_snoc] at ha
      obtain ⟨y7, ih⟩ := loop60b x0 x1 x3 x5 x6 k (m / 10) (d ++ [m % 10]) (.iv (.bool true)) (by omega) (by simp; omega) (by omega)
      rw [dg_pos (by decide) (by omega)]
      refine ⟨y7, loop_at K _ _ t60L0.eq_1 ?_⟩
      simp only [i64] at ha
      have tm : m.tmod 10 = m % 10 := tmod_nn (by omega)
      have td : m.tdiv 10 = m / 10 := tdiv_nn (by omega)
      simp (config := { maxSteps := 4000000 }) (disch := omega) only [go_sem, Nat.reduceAdd, Nat.reduceSub, Nat.reduceLT, Nat.reduceLeDiff, Nat.reduceEqDiff, Nat.reduceBEq, reduceIte, reduceCtorEq, Int.reduceEq, Int.reduceLT, Int.reduceLE, Int.reduceAdd, Int.reduceSub, Int.reduceMul, Int.reduceToNat, Int.reduceNeg, Int.reduceBEq, Int.reducePow, Nat.reducePow, wrap_i64, tm, td, ha]
      rw [List.append_assoc] at ih
      simp only [List.cons_append, List.nil_append] at ih ⊢
      exact congrArg er ih
def tms (y : Int) (l : List Int) (m : Int) : List Int := (sc 10 y l m).1 ++ dg 10 (sc 10 y l m).2
theorem call60 (t : Tag) (l : List Int) (hd : Dig 10 l) (hl : l.length ≤ 900000) (y : Int) (hy : 0 ≤ y ∧ y ≤ 1000000) (m : Int) (hm : 0 ≤ m ∧ m ≤ 10000000) :
    Pure K 60 [.iv (.sl t (one i64 l)), .iv (.int .i64 y), .iv (.int .i64 m)] (.iv (.sl (sTag (tms y l m)) (one i64 (tms y l m)))) := by
  obtain ⟨y6, e⟩ := loop60a t l hd (by omega) y hy (.iv (.sl .nil [])) (.tup []) l.length 0 m [] (.tup []) (by omega) rfl (by omega)
  obtain ⟨h1, h2, h3, h4⟩ := sc_spec (B := 10) (by decide) hy.1 l m hd hm.1
  have h5 : (sc 10 y l m).2 ≤ 10000000 := sc_carry (by decide) (by omega) l m hd (by omega)
  rw [List.drop_zero, List.nil_append] at e
  obtain ⟨y7, e'⟩ := loop60b (.iv (.sl t (one i64 l))) (.iv (.int .i64 y)) (.iv (.sl .nil [])) (.iv (.int .i64 l.length)) y6 _ (sc 10 y l m).2 (sc 10 y l m).1 (.tup []) (Nat.le_refl _) (by omega) h2
  refine call_pure t60 rfl rfl ?_
  have e0 : acc 0 (one i64 []) = .iv (.sl .nil []) := acc_nil 0
  have e1 : accS 1 3 (one i64 []) = [] := accS_nil 1 3
  rw [e0, e1, show ((0 : Nat) : Int) = 0 from rfl] at e
  simp (config := { maxSteps := 4000000 }) (disch := omega) only [t60, go_sem, Nat.reduceAdd, Nat.reduceSub, Nat.reduceLT, Nat.reduceLeDiff, Nat.reduceEqDiff, Nat.reduceBEq, reduceIte, reduceCtorEq, Int.reduceEq, Int.reduceLT, Int.reduceLE, Int.reduceAdd, Int.reduceSub, Int.reduceMul, Int.reduceToNat, Int.reduceNeg, Int.reduceBEq, Int.reducePow, Nat.reducePow, e, e', resB_ret, resolve_acc, resO_some]
  rw [show sTag (one i64 ((sc 10 y l m).1 ++ dg 10 (sc 10 y l m).2)) = sTag ((sc 10 y l m).1 ++ dg 10 (sc 10 y l m).2) from sTag_map _ _]
  rfl
theorem tms_spec {y m : Int} {l : List Int} (hd : Dig 10 l) (hy : 0 ≤ y) (hm : 0 ≤ m) : Dig 10 (tms y l m) ∧ val 10 (tms y l m) = y * val 10 l + m := by
  obtain ⟨i1, i2, i3, i4⟩ := sc_spec (B := 10) (by decide) hy l m hd hm
  exact sc_val (by decide) hy l _ m hd hm (dg_dig (by decide) i2) (val_dg (by decide) i2)
def scd (y : Int) (l : List Int) (m : Int) : List Int := (sc 65536 y l m).1 ++ [(sc 65536 y l m).2 % 65536]
theorem scd_spec {y m : Int} {l : List Int} (hd : Dig 65536 l) (hy : 0 ≤ y ∧ y ≤ 65535) (hm : 0 ≤ m ∧ m ≤ 65535) : Dig 65536 (scd y l m) ∧ val 65536 (scd y l m) = y * val 65536 l + m ∧ (scd y l m).length = l.length + 1 := by
  obtain ⟨i1, i2, i3, i4⟩ := sc_spec (B := 65536) (by decide) hy.1 l m hd hm.1
  have h5 := sc_carry (B := 65536) (c := 65535) (by decide) hy l m hd hm
  have h6 : (sc 65536 y l m).2 % 65536 = (sc 65536 y l m).2 := by omega
  obtain ⟨a, b⟩ := sc_val (B := 65536) (by decide) hy.1 l [(sc 65536 y l m).2 % 65536] m hd hm.1 (by intro x hx; simp at hx; omega) (by simp [val]; omega)
  exact ⟨a, b, by simp [scd, i3]⟩
theorem call41' (t : Tag) (l : List Int) (hd : Dig 65536 l) (hl : l.length ≤ 900000) (y : Int) (hy : 0 ≤ y ∧ y ≤ 65535) (m : Int) (hm : 0 ≤ m ∧ m ≤ 65535) :
    Pure K 41 [.iv (.sl t (one d16 l)), .iv (.int .u32 y), .iv (.int .u32 m)] (.iv (.sl (sTag (scd y l m)) (one d16 (scd y l m)))) := call41 t l hd hl y hy m hm
