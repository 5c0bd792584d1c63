/- The contracts of the document's numbers: From, Digits. Condition: none. -/
import Derived.Test.YtdbffhgfjmhaiaaDoorBigC
set_option maxRecDepth 100000
set_option linter.unusedSimpArgs false
set_option linter.unusedVariables false
namespace Go.Proofs.YtdbffhgfjmhaiaaDoor
open Go Go.TM
theorem tms_len {l : List Int} {m : Int} (hd : Dig 10 l) (hm : 0 ≤ m ∧ m ≤ 65536) : (tms 65536 l m).length ≤ l.length + 5 := by
  obtain ⟨i1, i2, i3, i4⟩ := sc_spec (B := 10) (y := 65536) (by decide) (by decide) l m hd hm.1
  have h := sc_carry (B := 10) (y := 65536) (c := 65536) (by decide) (by decide) l m hd hm
  have := dg_len (B := 10) (by decide) 5 _ i2 (by omega)
  simp only [tms, List.length_append, i3]; omega
theorem loop51 (neg : Bool) (t : Tag) (l : List Int) (hd : Dig 65536 l) (hl : l.length ≤ 1000) (c : TV) (S : Store) : ∀ (k : Nat) (tg : Tag) (D : List Int) (x5 : TV), k ≤ l.length → TagOk tg D → Dig 10 D → val 10 D = val 65536 (l.drop k) → D.length ≤ 5 * (l.length - k) →
    ∃ tg' D' y5, TagOk tg' D' ∧ Dig 10 D' ∧ val 10 D' = val 65536 l ∧ D'.length ≤ 5 * l.length ∧
    lp' (lim K) t51L0 [.iv (.bool neg), .iv (.sl t (one d16 l)), c, .iv (.sl tg (one i64 D)), .iv (.int .i64 ((k : Int) - 1)), x5] S = .ret (.exit 0, [.iv (.bool neg), .iv (.sl t (one d16 l)), c, .iv (.sl tg' (one i64 D')), .iv (.int .i64 (-1)), y5], S)
  | 0, tg, D, x5, h, ht, hD, hv, hn => by
    rw [List.drop_zero] at hv
    refine ⟨tg, D, ?_, ht, hD, hv, by omega, loop_at K _ _ t51L0.eq_1 ?_⟩
    rotate_left
    · simp (disch := omega) only [go_sem, Nat.reduceAdd, Nat.reduceSub, Nat.reduceLT, Nat.reduceLeDiff, Nat.reduceEqDiff, Nat.reduceBEq, reduceIte, reduceCtorEq, Int.reduceEq, Int.reduceLT, Int.reduceLE, Int.reduceAdd, Int.reduceSub, Int.reduceMul, Int.reduceToNat, Int.reduceNeg, Int.reduceBEq, Int.reducePow, Nat.reducePow, List.drop_zero]
      rfl
  | k + 1, tg, D, x5, h, ht, hD, hv, hn => by
    have hlt : k < l.length := by omega
    have hix := ix_one d16 (t := t) (l := l) (i := (k : Int)) (by omega)
    have hdr := drop_getD hlt
    have hg := hd.getD hlt
    rw [Int.toNat_natCast] at hix
    have hlen := tms_len hD (m := l.getD k default) (by omega)
    obtain ⟨s1, s2⟩ := tms_spec (y := 65536) (m := l.getD k default) hD (by decide) hg.1
    have h60 := call60 tg D hD (by omega) 65536 (by decide) (l.getD k default) (by omega)
    have hval : val 10 (tms 65536 D (l.getD k default)) = val 65536 (l.drop k) := by rw [s2, hdr, hv]; simp only [val]; omega
    obtain ⟨tg', D', y5, r1, r2, r3, r4, ih⟩ := loop51 neg t l hd hl c S k (sTag (tms 65536 D (l.getD k default))) (tms 65536 D (l.getD k default)) (.iv (.bool true)) (by omega) (sTag_ok _) s1 hval (by omega)
    refine ⟨tg', D', y5, r1, r2, r3, r4, loop_at K _ _ t51L0.eq_1 ?_⟩
    generalize l.getD k default = a at *
    generalize tms 65536 D a = E at *
    simp only [d16] at hix
    have e1 : ((k : Int) + 1 - 1) = k := by omega
    simp (config := { maxSteps := 4000000 }) (disch := omega) only [go_sem, Nat.reduceAdd, Nat.reduceSub, Nat.reduceLT, Nat.reduceLeDiff, Nat.reduceEqDiff, Nat.reduceBEq, reduceIte, reduceCtorEq, Int.reduceEq, Int.reduceLT, Int.reduceLE, Int.reduceAdd, Int.reduceSub, Int.reduceMul, Int.reduceToNat, Int.reduceNeg, Int.reduceBEq, Int.reducePow, Nat.reducePow, Int.natCast_add, Int.cast_ofNat_Int, e1, hix, wrap_i64, cpR_pure h60]
    exact congrArg er ih
theorem call51 (neg : Bool) (t : Tag) (l : List Int) (hd : Dig 65536 l) (hl : l.length ≤ 1000) : ∃ t', TagOk t' (dg 10 (val 65536 l)) ∧ Pure K 51 [.iv (.bool neg), .iv (.sl t (one d16 l))] (.iv (dnum (sg neg (dg 10 (val 65536 l))) t' (dg 10 (val 65536 l)))) := by
  obtain ⟨tg', D', y5, r1, r2, r3, r4, e⟩ := loop51 neg t l hd hl (.lb [.iv (.bool false), .iv (.sl .nil [])]) [] l.length .nil [] (.tup []) (Nat.le_refl _) TagOk.nil Dig.nil (by rw [List.drop_length]; rfl) (by simp)
  obtain ⟨t', h1, h43⟩ := call43 neg tg' D' r1 (by omega)
  rw [tr_eq (by decide) r2, r3] at h1 h43
  refine ⟨t', h1, call_pure t51 rfl rfl ?_⟩
  have e0 : one i64 [] = [] := rfl
  rw [e0] at e
  simp only [dnum] at h43 ⊢
  simp (config := { maxSteps := 4000000 }) (disch := omega) only [t51, go_sem, Nat.reduceAdd, Nat.reduceSub, Nat.reduceLT, Nat.reduceLeDiff, Nat.reduceEqDiff, Nat.reduceBEq, reduceIte, reduceCtorEq, Int.reduceEq, Int.reduceLT, Int.reduceLE, Int.reduceAdd, Int.reduceSub, Int.reduceMul, Int.reduceToNat, Int.reduceNeg, Int.reduceBEq, Int.reducePow, Nat.reducePow, wrap_i64, e, cpR_pure h43, resB_ret, resO_some]
theorem call19 (neg : Bool) (t : Tag) (l : List Int) (hd : Dig 65536 l) (hl : l.length ≤ 1000) : ∃ t', TagOk t' (dg 10 (val 65536 l)) ∧ Pure K 19 [.iv (num neg t l)] (.iv (dnum (sg neg (dg 10 (val 65536 l))) t' (dg 10 (val 65536 l)))) := by
  obtain ⟨t', h1, h51⟩ := call51 neg t l hd hl
  refine ⟨t', h1, call_pure t19 rfl rfl ?_⟩
  simp only [dnum, num] at h51 ⊢
  simp (config := { maxSteps := 4000000 }) (disch := omega) only [t19, go_sem, Nat.reduceAdd, Nat.reduceSub, Nat.reduceLT, Nat.reduceLeDiff, Nat.reduceEqDiff, Nat.reduceBEq, reduceIte, reduceCtorEq, Int.reduceEq, Int.reduceLT, Int.reduceLE, Int.reduceAdd, Int.reduceSub, Int.reduceMul, Int.reduceToNat, Int.reduceNeg, Int.reduceBEq, Int.reducePow, Nat.reducePow, wrap_i64, cpR_pure h51, resB_ret, resO_some]
/-! ### Digits -/
theorem loop44 (x0 x1 x2 : TV) : ∀ (k : Nat) (v : Int) (d : List Int) (tg : Tag) (x5 x6 x7 : TV), 0 ≤ v → (dg 65536 v).length ≤ k → TagOk tg (dg 10 v) → (dg 10 v).length ≤ 100000 → d.length + k ≤ 1000000 →
    ∃ tg' y5 y6 y7, lp' (lim K) t44L0 [x0, x1, x2, acc 0 (one d16 d), .iv (.sl tg (one i64 (dg 10 v))), x5, x6, x7] (accS 1 55 (one d16 d)) = .ret (.exit 0, [x0, x1, x2, acc 0 (one d16 (d ++ dg 65536 v)), .iv (.sl tg' []), y5, y6, y7], accS 1 55 (one d16 (d ++ dg 65536 v)))
  | 0, v, d, tg, x5, x6, x7, h0, hk, ht, hn, hl => by
    have hv : v = 0 := (dg_nil (B := 65536) (by decide) h0).1 (List.length_eq_zero_iff.1 (by omega))
    subst hv
    refine ⟨tg, ?_, ?_, ?_, loop_at K _ _ t44L0.eq_1 ?_⟩
    rotate_left 3
    · rw [dg_zero, dg_zero, List.append_nil]
      have e0 : one i64 [] = [] := rfl
      rw [e0]
      simp (disch := omega) only [go_sem, Nat.reduceAdd, Nat.reduceSub, Nat.reduceLT, Nat.reduceLeDiff, Nat.reduceEqDiff, Nat.reduceBEq, reduceIte, reduceCtorEq, Int.reduceEq, Int.reduceLT, Int.reduceLE, Int.reduceAdd, Int.reduceSub, Int.reduceMul, Int.reduceToNat, Int.reduceNeg, Int.reduceBEq, Int.reducePow, Nat.reducePow, List.length_nil]
      rfl
  | k + 1, v, d, tg, x5, x6, x7, h0, hk, ht, hn, hl => by
    by_cases hv : v = 0
    · subst hv
      refine ⟨tg, ?_, ?_, ?_, loop_at K _ _ t44L0.eq_1 ?_⟩
      rotate_left 3
      · rw [dg_zero, dg_zero, List.append_nil]
        have e0 : one i64 [] = [] := rfl
        rw [e0]
        simp (disch := omega) only [go_sem, Nat.reduceAdd, Nat.reduceSub, Nat.reduceLT, Nat.reduceLeDiff, Nat.reduceEqDiff, Nat.reduceBEq, reduceIte, reduceCtorEq, Int.reduceEq, Int.reduceLT, Int.reduceLE, Int.reduceAdd, Int.reduceSub, Int.reduceMul, Int.reduceToNat, Int.reduceNeg, Int.reduceBEq, Int.reducePow, Nat.reducePow, List.length_nil]
        rfl
    · have hp : 0 < (dg 10 v).length := by
        rcases Nat.eq_zero_or_pos (dg 10 v).length with e | e
        · exact absurd ((dg_nil (B := 10) (by decide) h0).1 (List.length_eq_zero_iff.1 e)) hv
        · exact e
      obtain ⟨t', ht', h67⟩ := call67 tg (dg 10 v) (dg_dig (by decide) h0) (by omega)
      rw [val_dg (by decide) h0] at ht' h67
      rw [dg_pos (B := 65536) (by decide) (by omega)] at hk ⊢
      have hlen : (dg 10 (v / 65536)).length ≤ (dg 10 v).length := by
        refine dg_len (by decide) _ _ (by omega) ?_
        have := val_lt (B := 10) (by decide) (dg_dig (n := v) (by decide) h0)
        rw [val_dg (by decide) h0] at this
        omega
      have ha := ap_acc1 (w := 1) (b := 2) (el := 55) (t := .full) (d16_ok (v % 65536)) (Elems.one (f := d16) (fun _ => rfl) d) (roomy_ok (by rw [one_length]; omega))
      rw [one_snoc] at ha
      obtain ⟨tg', y5, y6, y7, ih⟩ := loop44 x0 x1 x2 k (v / 65536) (d ++ [v % 65536]) t' (.iv (.sl t' (one i64 (dg 10 (v / 65536))))) (.iv (.int .i64 (v % 65536))) (.iv (.bool true)) (by omega) (by rw [List.length_cons] at hk; omega) ht' (by omega) (by simp; omega)
      refine ⟨tg', y5, y6, y7, loop_at K _ _ t44L0.eq_1 ?_⟩
      simp only [d16] at ha
      generalize dg 10 v = D at *
      generalize dg 10 (v / 65536) = E at *
      simp (config := { maxSteps := 4000000 }) (disch := omega) only [go_sem, Nat.reduceAdd, Nat.reduceSub, Nat.reduceLT, Nat.reduceLeDiff, Nat.reduceEqDiff, Nat.reduceBEq, reduceIte, reduceCtorEq, Int.reduceEq, Int.reduceLT, Int.reduceLE, Int.reduceAdd, Int.reduceSub, Int.reduceMul, Int.reduceToNat, Int.reduceNeg, Int.reduceBEq, Int.reducePow, Nat.reducePow, wrap_i64, wrap_u16_mod, Int.emod_emod, cpR_pure h67, ha]
      rw [List.append_assoc, List.cons_append, List.nil_append] at ih
      exact congrArg er ih
theorem call44 (s : Bool) (tg : Tag) (v : Int) (h0 : 0 ≤ v) (ht : TagOk tg (dg 10 v)) (hn : (dg 10 v).length ≤ 100000) : Pure K 44 [.iv (dnum s tg (dg 10 v))] (.iv (.sl (sTag (dg 65536 v)) (one d16 (dg 65536 v)))) := by
  have hle : (dg 65536 v).length ≤ (dg 10 v).length := by
    refine dg_len (by decide) _ _ h0 ?_
    have h1 := val_lt (B := 10) (by decide) (dg_dig (n := v) (by decide) h0)
    rw [val_dg (by decide) h0] at h1
    have h2 : (10 : Int) ^ (dg 10 v).length ≤ 65536 ^ (dg 10 v).length := by
      generalize (dg 10 v).length = n
      induction n with
      | zero => simp
      | succ n ih => rw [Int.pow_succ, Int.pow_succ]; have := pow_pos' (B := 10) (by decide) n; omega
    omega
  obtain ⟨tg', y5, y6, y7, e⟩ := loop44 (.iv (dnum s tg (dg 10 v))) (.lb [.iv (.bool s), .iv (.sl tg (one i64 (dg 10 v)))]) (.iv (.sl .nil [])) (dg 65536 v).length v [] tg (.tup []) (.tup []) (.tup []) h0 (Nat.le_refl _) ht hn (by simp; omega)
  refine call_pure t44 rfl rfl ?_
  have e0 : acc 0 (one d16 []) = .iv (.sl .nil []) := acc_nil 0
  have e1 : accS 1 55 (one d16 []) = [] := accS_nil 1 55
  rw [e0, e1, List.nil_append] at e
  simp only [dnum] at e ⊢
  simp (config := { maxSteps := 4000000 }) (disch := omega) only [t44, go_sem, Nat.reduceAdd, Nat.reduceSub, Nat.reduceLT, Nat.reduceLeDiff, Nat.reduceEqDiff, Nat.reduceBEq, reduceIte, reduceCtorEq, Int.reduceEq, Int.reduceLT, Int.reduceLE, Int.reduceAdd, Int.reduceSub, Int.reduceMul, Int.reduceToNat, Int.reduceNeg, Int.reduceBEq, Int.reducePow, Nat.reducePow, e, resB_ret, resolve_acc, resO_some]
  rw [show sTag (one d16 (dg 65536 v)) = sTag (dg 65536 v) from sTag_map _ _]
