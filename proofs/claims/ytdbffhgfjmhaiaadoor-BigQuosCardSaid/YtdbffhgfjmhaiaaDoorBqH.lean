/- The contracts of order, Clone, Tidy where digits are written. Condition: none. -/
import Derived.Test.YtdbffhgfjmhaiaaDoorBqG
set_option maxRecDepth 100000
set_option linter.unusedSimpArgs false
set_option linter.unusedVariables false
namespace Go.Proofs.YtdbffhgfjmhaiaaDoor
open Go Go.TM
def cmpI (x y : Int) : Int := if x < y then -1 else if x = y then 0 else 1
theorem cmpI_self (x : Int) : cmpI x x = 0 := by simp [cmpI]
theorem cmpI_lt {x y : Int} (h : x < y) : cmpI x y = -1 := by simp [cmpI, h]
theorem cmpI_gt {x y : Int} (h : y < x) : cmpI x y = 1 := by
  rw [cmpI, if_neg (by omega), if_neg (by omega)]
theorem cmpI_zero {x y : Int} : cmpI x y = 0 ↔ x = y := by
  unfold cmpI
  split
  · constructor
    · intro h; cases h
    · intro h; omega
  · split <;> simp_all
theorem cmpI_neg {x y : Int} : cmpI x y < 0 ↔ x < y := by
  unfold cmpI
  split
  · simp_all
  · split <;> simp_all
theorem call89 (a : Int) : (lim K).call 89 [.iv (.int .i64 a)] [] = .ret (.iv (.bool false), []) := by
  refine call_ret' K [] (fn := t89) rfl rfl ?_
  simp (config := { maxSteps := 4000000 }) (disch := omega) only [t89, go_sem, Nat.reduceAdd, Nat.reduceSub, Nat.reduceLT, Nat.reduceLeDiff, Nat.reduceEqDiff, Nat.reduceBEq, reduceIte, reduceCtorEq, Int.reduceEq, Int.reduceLT, Int.reduceLE, Int.reduceAdd, Int.reduceSub, Int.reduceMul, Int.reduceToNat, Int.reduceNeg, Int.reduceBEq, Int.reducePow, Nat.reducePow]
theorem call90 (a : Int) : (lim K).call 90 [.iv (.int .u16 a)] [] = .ret (.iv (.bool false), []) := by
  refine call_ret' K [] (fn := t90) rfl rfl ?_
  simp (config := { maxSteps := 4000000 }) (disch := omega) only [t90, go_sem, Nat.reduceAdd, Nat.reduceSub, Nat.reduceLT, Nat.reduceLeDiff, Nat.reduceEqDiff, Nat.reduceBEq, reduceIte, reduceCtorEq, Int.reduceEq, Int.reduceLT, Int.reduceLE, Int.reduceAdd, Int.reduceSub, Int.reduceMul, Int.reduceToNat, Int.reduceNeg, Int.reduceBEq, Int.reducePow, Nat.reducePow]
theorem call77 (a b : Int) : (lim K).call 77 [.iv (.int .i64 a), .iv (.int .i64 b)] [] = .ret (.iv (.int .i64 (cmpI a b)), []) := by
  refine call_ret' K [] (fn := t77) rfl rfl ?_
  by_cases h1 : a < b
  · rw [cmpI_lt h1]
    simp (config := { maxSteps := 4000000 }) (disch := omega) only [t77, go_sem, Nat.reduceAdd, Nat.reduceSub, Nat.reduceLT, Nat.reduceLeDiff, Nat.reduceEqDiff, Nat.reduceBEq, reduceIte, reduceCtorEq, Int.reduceEq, Int.reduceLT, Int.reduceLE, Int.reduceAdd, Int.reduceSub, Int.reduceMul, Int.reduceToNat, Int.reduceNeg, Int.reduceBEq, Int.reducePow, Nat.reducePow, call89]
  · by_cases h2 : b < a
    · rw [cmpI_gt h2]
      simp (config := { maxSteps := 4000000 }) (disch := omega) only [t77, go_sem, Nat.reduceAdd, Nat.reduceSub, Nat.reduceLT, Nat.reduceLeDiff, Nat.reduceEqDiff, Nat.reduceBEq, reduceIte, reduceCtorEq, Int.reduceEq, Int.reduceLT, Int.reduceLE, Int.reduceAdd, Int.reduceSub, Int.reduceMul, Int.reduceToNat, Int.reduceNeg, Int.reduceBEq, Int.reducePow, Nat.reducePow, call89]
    · obtain rfl : a = b := by omega
      rw [cmpI_self]
      simp (config := { maxSteps := 4000000 }) (disch := omega) only [t77, go_sem, Nat.reduceAdd, Nat.reduceSub, Nat.reduceLT, Nat.reduceLeDiff, Nat.reduceEqDiff, Nat.reduceBEq, reduceIte, reduceCtorEq, Int.reduceEq, Int.reduceLT, Int.reduceLE, Int.reduceAdd, Int.reduceSub, Int.reduceMul, Int.reduceToNat, Int.reduceNeg, Int.reduceBEq, Int.reducePow, Nat.reducePow, call89]
theorem call78 (a b : Int) : (lim K).call 78 [.iv (.int .u16 a), .iv (.int .u16 b)] [] = .ret (.iv (.int .i64 (cmpI a b)), []) := by
  refine call_ret' K [] (fn := t78) rfl rfl ?_
  by_cases h1 : a < b
  · rw [cmpI_lt h1]
    simp (config := { maxSteps := 4000000 }) (disch := omega) only [t78, go_sem, Nat.reduceAdd, Nat.reduceSub, Nat.reduceLT, Nat.reduceLeDiff, Nat.reduceEqDiff, Nat.reduceBEq, reduceIte, reduceCtorEq, Int.reduceEq, Int.reduceLT, Int.reduceLE, Int.reduceAdd, Int.reduceSub, Int.reduceMul, Int.reduceToNat, Int.reduceNeg, Int.reduceBEq, Int.reducePow, Nat.reducePow, call90]
  · by_cases h2 : b < a
    · rw [cmpI_gt h2]
      simp (config := { maxSteps := 4000000 }) (disch := omega) only [t78, go_sem, Nat.reduceAdd, Nat.reduceSub, Nat.reduceLT, Nat.reduceLeDiff, Nat.reduceEqDiff, Nat.reduceBEq, reduceIte, reduceCtorEq, Int.reduceEq, Int.reduceLT, Int.reduceLE, Int.reduceAdd, Int.reduceSub, Int.reduceMul, Int.reduceToNat, Int.reduceNeg, Int.reduceBEq, Int.reducePow, Nat.reducePow, call90]
    · obtain rfl : a = b := by omega
      rw [cmpI_self]
      simp (config := { maxSteps := 4000000 }) (disch := omega) only [t78, go_sem, Nat.reduceAdd, Nat.reduceSub, Nat.reduceLT, Nat.reduceLeDiff, Nat.reduceEqDiff, Nat.reduceBEq, reduceIte, reduceCtorEq, Int.reduceEq, Int.reduceLT, Int.reduceLE, Int.reduceAdd, Int.reduceSub, Int.reduceMul, Int.reduceToNat, Int.reduceNeg, Int.reduceBEq, Int.reducePow, Nat.reducePow, call90]
theorem take_len {l : List Int} {k : Nat} (h : k ≤ l.length) : (l.take k).length = k := by rw [List.length_take]; omega
theorem Dig.take {B : Int} {l : List Int} (hd : Dig B l) (i : Nat) : Dig B (l.take i) := fun x hx => hd x (List.mem_of_mem_take hx)
theorem val_take_succ (B : Int) {l : List Int} {k : Nat} (h : k < l.length) : val B (l.take (k + 1)) = val B (l.take k) + B ^ k * l.getD k default := by
  rw [take_succ_getD (d := default) h, val_append, take_len (by omega)]
  simp [val]
theorem cmp_step {B : Int} (hB : 1 < B) {l m : List Int} (hl : Dig B l) (hm : Dig B m) {k : Nat} (h1 : k < l.length) (h2 : k < m.length) :
    cmpI (val B (l.take (k + 1))) (val B (m.take (k + 1))) = if l.getD k default = m.getD k default then cmpI (val B (l.take k)) (val B (m.take k)) else cmpI (l.getD k default) (m.getD k default) := by
  rw [val_take_succ B h1, val_take_succ B h2]
  have a1 := val_nonneg (by omega) (hl.take k)
  have a2 := val_nonneg (by omega) (hm.take k)
  have b1 := val_lt (by omega) (hl.take k)
  have b2 := val_lt (by omega) (hm.take k)
  rw [take_len (by omega)] at b1 b2
  have p := pow_pos' hB k
  generalize B ^ k = P at *
  generalize l.getD k default = a at *
  generalize m.getD k default = b at *
  by_cases h : a = b
  · subst h
    rw [if_pos rfl]
    unfold cmpI
    by_cases h1 : val B (l.take k) < val B (m.take k)
    · rw [if_pos h1, if_pos (by omega)]
    · by_cases h2 : val B (l.take k) = val B (m.take k)
      · rw [if_neg h1, if_pos h2, if_neg (by omega), if_pos (by omega)]
      · rw [if_neg h1, if_neg h2, if_neg (by omega), if_neg (by omega)]
  · rw [if_neg h]
    by_cases h' : a < b
    · have := Int.mul_le_mul_of_nonneg_left (show a + 1 ≤ b by omega) (Int.le_of_lt p)
      rw [Int.mul_add, Int.mul_one] at this
      rw [cmpI_lt h', cmpI_lt (by omega)]
    · have := Int.mul_le_mul_of_nonneg_left (show b + 1 ≤ a by omega) (Int.le_of_lt p)
      rw [Int.mul_add, Int.mul_one] at this
      rw [cmpI_gt (by omega), cmpI_gt (by omega)]
theorem loop54 (t1 t2 : Tag) (a b : List Int) (ha : Dig 65536 a) (hb : Dig 65536 b) (h1 : a.length ≤ 100000) (h2 : b.length = a.length) (x3 x5 : TV) (S : Store) : ∀ (k : Nat) (x6 x7 : TV), k ≤ a.length →
    ∃ j y4 y6 y7, (j = .exit 0 ∨ j = .ret) ∧ (j = .exit 0 → cmpI (val 65536 (a.take k)) (val 65536 (b.take k)) = 0) ∧ lp' (lim K) t54L0 [.iv (.sl t1 (one d16 a)), .iv (.sl t2 (one d16 b)), .iv (.int .i64 0), x3, .iv (.int .i64 ((k : Int) - 1)), x5, x6, x7] S = .ret (j, [.iv (.sl t1 (one d16 a)), .iv (.sl t2 (one d16 b)), .iv (.int .i64 (cmpI (val 65536 (a.take k)) (val 65536 (b.take k)))), x3, y4, x5, y6, y7], S)
  | 0, x6, x7, h => by
    refine ⟨.exit 0, ?_, ?_, ?_, .inl rfl, fun _ => rfl, loop_at K _ _ t54L0.eq_1 ?_⟩
    rotate_left 3
    · rw [List.take_zero, List.take_zero, cmpI_self]
      simp (disch := omega) only [go_sem, Nat.reduceAdd, Nat.reduceSub, Nat.reduceLT, Nat.reduceLeDiff, Nat.reduceEqDiff, Nat.reduceBEq, reduceIte, reduceCtorEq, Int.reduceEq, Int.reduceLT, Int.reduceLE, Int.reduceAdd, Int.reduceSub, Int.reduceMul, Int.reduceToNat, Int.reduceNeg, Int.reduceBEq, Int.reducePow, Nat.reducePow]
      rfl
  | k + 1, x6, x7, h => by
    have hix := ix_one d16 (t := t1) (l := a) (i := (k : Int)) (by omega)
    have hix2 := ix_one d16 (t := t2) (l := b) (i := (k : Int)) (by omega)
    rw [Int.toNat_natCast] at hix hix2
    simp only [d16] at hix hix2
    have hk : ((k + 1 : Nat) : Int) - 1 = k := by omega
    rw [hk, cmp_step (by decide) ha hb (by omega) (by omega)]
    by_cases hab : a.getD k default = b.getD k default
    · rw [if_pos hab]
      rw [hab] at hix
      obtain ⟨j, y4, y6, y7, hj, hj2, ih⟩ := loop54 t1 t2 a b ha hb h1 h2 x3 x5 S k (.iv (.bool true)) (.iv (.bool false)) (by omega)
      refine ⟨j, y4, y6, y7, hj, hj2, loop_at K _ _ t54L0.eq_1 ?_⟩
      generalize cmpI (val 65536 (a.take k)) (val 65536 (b.take k)) = r at *
      generalize a.getD k default = p at *
      generalize b.getD k default = q at *
      simp (config := { maxSteps := 4000000 }) (disch := omega) only [go_sem, Nat.reduceAdd, Nat.reduceSub, Nat.reduceLT, Nat.reduceLeDiff, Nat.reduceEqDiff, Nat.reduceBEq, reduceIte, reduceCtorEq, Int.reduceEq, Int.reduceLT, Int.reduceLE, Int.reduceAdd, Int.reduceSub, Int.reduceMul, Int.reduceToNat, Int.reduceNeg, Int.reduceBEq, Int.reducePow, Nat.reducePow, hix, hix2, wrap_i64]
      exact congrArg er ih
    · rw [if_neg hab]
      have h78 := call78 (a.getD k default) (b.getD k default)
      generalize cmpI (a.getD k default) (b.getD k default) = r at *
      generalize a.getD k default = p at *
      generalize b.getD k default = q at *
      refine ⟨.ret, ?_, ?_, ?_, .inr rfl, (fun h => by cases h), loop_at K _ _ t54L0.eq_1 ?_⟩
      rotate_left 3
      · simp (config := { maxSteps := 4000000 }) (disch := omega) only [go_sem, Nat.reduceAdd, Nat.reduceSub, Nat.reduceLT, Nat.reduceLeDiff, Nat.reduceEqDiff, Nat.reduceBEq, reduceIte, reduceCtorEq, Int.reduceEq, Int.reduceLT, Int.reduceLE, Int.reduceAdd, Int.reduceSub, Int.reduceMul, Int.reduceToNat, Int.reduceNeg, Int.reduceBEq, Int.reducePow, Nat.reducePow, hix, hix2, wrap_i64, h78, hab]
        rfl
theorem tr_cmp_len {B : Int} (hB : 1 < B) {l m : List Int} (hl : Dig B l) (hm : Dig B m) (h : (tr l).length < (tr m).length) : val B l < val B m := by
  rcases Int.lt_or_le (val B l) (val B m) with h1 | h1
  · exact h1
  · exfalso
    have a1 := val_lt (by omega) hl.tr
    rw [val_tr] at a1
    have a2 := dg_len hB (tr l).length (val B m) (val_nonneg (by omega) hm) (by omega)
    rw [← tr_eq hB hm] at a2
    omega
theorem call54 (t1 t2 : Tag) (a b : List Int) (ht1 : TagOk t1 a) (ht2 : TagOk t2 b) (ha : Dig 65536 a) (hb : Dig 65536 b) (h1 : a.length ≤ 90000) (h2 : b.length ≤ 90000) :
    (lim K).call 54 [.iv (.sl t1 (one d16 a)), .iv (.sl t2 (one d16 b))] [] = .ret (.iv (.int .i64 (cmpI (val 65536 a) (val 65536 b))), []) := by
  obtain ⟨ta, hta, ea⟩ := call40 t1 a ht1 (by omega)
  obtain ⟨tb, htb, eb⟩ := call40 t2 b ht2 (by omega)
  have la := tr_len a
  have lb := tr_len b
  have h77 := call77 (tr a).length (tr b).length
  refine call_ret' K [] (fn := t54) rfl rfl ?_
  by_cases hlen : (tr a).length = (tr b).length
  · obtain ⟨j, y4, y6, y7, hj, hj2, e⟩ := loop54 ta tb (tr a) (tr b) ha.tr hb.tr (by omega) hlen.symm (.iv (.int .i64 0)) (.iv (.bool false)) [] (tr a).length (.tup []) (.tup []) (Nat.le_refl _)
    have e1 : (tr b).take (tr a).length = tr b := by rw [hlen, List.take_length]
    rw [e1, List.take_length, val_tr, val_tr] at e hj2
    have hz : ((tr a).length : Int) = (tr b).length := by omega
    rw [hz, cmpI_self] at h77
    rw [hz] at e
    rcases hj with rfl | rfl
    · rw [hj2 rfl] at e ⊢
      simp (config := { maxSteps := 4000000 }) (disch := omega) only [t54, go_sem, Nat.reduceAdd, Nat.reduceSub, Nat.reduceLT, Nat.reduceLeDiff, Nat.reduceEqDiff, Nat.reduceBEq, reduceIte, reduceCtorEq, Int.reduceEq, Int.reduceLT, Int.reduceLE, Int.reduceAdd, Int.reduceSub, Int.reduceMul, Int.reduceToNat, Int.reduceNeg, Int.reduceBEq, Int.reducePow, Nat.reducePow, ea, eb, hz, h77, wrap_i64, e]
    · simp (config := { maxSteps := 4000000 }) (disch := omega) only [t54, go_sem, Nat.reduceAdd, Nat.reduceSub, Nat.reduceLT, Nat.reduceLeDiff, Nat.reduceEqDiff, Nat.reduceBEq, reduceIte, reduceCtorEq, Int.reduceEq, Int.reduceLT, Int.reduceLE, Int.reduceAdd, Int.reduceSub, Int.reduceMul, Int.reduceToNat, Int.reduceNeg, Int.reduceBEq, Int.reducePow, Nat.reducePow, ea, eb, hz, h77, wrap_i64, e]
  · have hne : ¬ cmpI ((tr a).length : Int) (tr b).length = 0 := by rw [cmpI_zero]; omega
    have hr : cmpI (val 65536 a) (val 65536 b) = cmpI ((tr a).length : Int) (tr b).length := by
      rcases Nat.lt_or_gt_of_ne hlen with h | h
      · rw [cmpI_lt (tr_cmp_len (by decide) ha hb h), cmpI_lt (by omega)]
      · rw [cmpI_gt (tr_cmp_len (by decide) hb ha h), cmpI_gt (by omega)]
    rw [hr]
    generalize cmpI ((tr a).length : Int) (tr b).length = r at *
    simp (config := { maxSteps := 4000000 }) (disch := omega) only [t54, go_sem, Nat.reduceAdd, Nat.reduceSub, Nat.reduceLT, Nat.reduceLeDiff, Nat.reduceEqDiff, Nat.reduceBEq, reduceIte, reduceCtorEq, Int.reduceEq, Int.reduceLT, Int.reduceLE, Int.reduceAdd, Int.reduceSub, Int.reduceMul, Int.reduceToNat, Int.reduceNeg, Int.reduceBEq, Int.reducePow, Nat.reducePow, ea, eb, h77, wrap_i64, hne]
theorem eqB_sln (l : List (List IV)) : eqB .sl (.iv (.sl .nil l)) (.iv (.sl .nil [])) = some true := id rfl
theorem eqB_slf (l : List (List IV)) : eqB .sl (.iv (.sl .full l)) (.iv (.sl .nil [])) = some false := id rfl
theorem eqB_slo (l : List (List IV)) : eqB .sl (.iv (.sl .no l)) (.iv (.sl .nil [])) = some false := id rfl
theorem ap_newM {S : Store} {b el : Nat} {f : Int → IV} {t : Tag} {l : List Int} (hf : ∀ n, isRefL (.iv (f n)) = false) (h0 : l ≠ []) (hr : roomy l.length b = true) : appendOp true 1 b el S (.iv (.sl .full [])) (.iv (.sl t (one f l))) = some (.msl S.length 0 0 l.length l.length 1, S ++ [.cells 0 true (cellsF f l)]) := by
  have e1 : elemsTV S (.iv (.sl t (one f l))) = some ((l.map f).map .iv) := by rw [(IsEl.sl S t (one f l)).1, flat_one_map]
  have e2 : lenOf S (.iv (.sl t (one f l))) = some l.length := by rw [(IsEl.sl S t (one f l)).2, one_length]
  have e3 : ((l.map f).map TV.iv).any isRefL = false := by
    rw [List.any_eq_false]
    intro x hx
    obtain ⟨y, hy, rfl⟩ := List.mem_map.1 hx
    obtain ⟨z, hz, rfl⟩ := List.mem_map.1 hy
    rw [hf]; decide
  have e4 : l.length ≠ 0 := by intro h; exact h0 (List.length_eq_zero_iff.1 h)
  unfold appendOp
  rw [e1, e2]
  simp [e3, e4, hr, flat, fits, cellsF, List.map_map, Function.comp_def, hf]
theorem call50 (t : Tag) (l : List Int) (ht : TagOk t l) (hl : l.length ≤ 1000000) (S : Store) :
    (l = [] ∧ ∃ t', (lim K).call 50 [.iv (.sl t (one d16 l))] S = .ret (.iv (.sl t' (one d16 [])), S)) ∨
    (l ≠ [] ∧ (lim K).call 50 [.iv (.sl t (one d16 l))] S = .ret (.msl S.length 0 0 l.length l.length 1, S ++ [.cells 0 true (cellsF d16 l)])) := by
  by_cases hn : t = .nil
  · subst hn
    obtain rfl := ht rfl
    refine .inl ⟨rfl, .nil, call_ret' K S (fn := t50) rfl rfl ?_⟩
    have e0 : one d16 [] = [] := rfl
    rw [e0]
    simp (config := { maxSteps := 4000000 }) (disch := omega) only [t50, go_sem, Nat.reduceAdd, Nat.reduceSub, Nat.reduceLT, Nat.reduceLeDiff, Nat.reduceEqDiff, Nat.reduceBEq, reduceIte, reduceCtorEq, Int.reduceEq, Int.reduceLT, Int.reduceLE, Int.reduceAdd, Int.reduceSub, Int.reduceMul, Int.reduceToNat, Int.reduceNeg, Int.reduceBEq, Int.reducePow, Nat.reducePow, eqB_sln]
  · by_cases h0 : l = []
    · subst h0
      refine .inl ⟨rfl, .full, call_ret' K S (fn := t50) rfl rfl ?_⟩
      have e0 : one d16 [] = [] := rfl
      rw [e0]
      have hap := ap_nil (mu := true) (w := 1) (b := 2) (el := 55) (S := S) (s := .iv (.sl .full [])) (x := .iv (.sl t [])) rfl (IsEl.sl _ _ _)
      cases t
      · exact absurd rfl hn
      · simp (config := { maxSteps := 4000000 }) (disch := omega) only [t50, go_sem, Nat.reduceAdd, Nat.reduceSub, Nat.reduceLT, Nat.reduceLeDiff, Nat.reduceEqDiff, Nat.reduceBEq, reduceIte, reduceCtorEq, Int.reduceEq, Int.reduceLT, Int.reduceLE, Int.reduceAdd, Int.reduceSub, Int.reduceMul, Int.reduceToNat, Int.reduceNeg, Int.reduceBEq, Int.reducePow, Nat.reducePow, eqB_slf, hap]
      · simp (config := { maxSteps := 4000000 }) (disch := omega) only [t50, go_sem, Nat.reduceAdd, Nat.reduceSub, Nat.reduceLT, Nat.reduceLeDiff, Nat.reduceEqDiff, Nat.reduceBEq, reduceIte, reduceCtorEq, Int.reduceEq, Int.reduceLT, Int.reduceLE, Int.reduceAdd, Int.reduceSub, Int.reduceMul, Int.reduceToNat, Int.reduceNeg, Int.reduceBEq, Int.reducePow, Nat.reducePow, eqB_slo, hap]
    · refine .inr ⟨h0, call_ret' K S (fn := t50) rfl rfl ?_⟩
      have hap := ap_newM (S := S) (b := 2) (el := 55) (f := d16) (t := t) (fun _ => rfl) h0 (roomy_ok (by omega))
      cases t
      · exact absurd rfl hn
      · simp (config := { maxSteps := 4000000 }) (disch := omega) only [t50, go_sem, Nat.reduceAdd, Nat.reduceSub, Nat.reduceLT, Nat.reduceLeDiff, Nat.reduceEqDiff, Nat.reduceBEq, reduceIte, reduceCtorEq, Int.reduceEq, Int.reduceLT, Int.reduceLE, Int.reduceAdd, Int.reduceSub, Int.reduceMul, Int.reduceToNat, Int.reduceNeg, Int.reduceBEq, Int.reducePow, Nat.reducePow, eqB_slf, hap]
      · simp (config := { maxSteps := 4000000 }) (disch := omega) only [t50, go_sem, Nat.reduceAdd, Nat.reduceSub, Nat.reduceLT, Nat.reduceLeDiff, Nat.reduceEqDiff, Nat.reduceBEq, reduceIte, reduceCtorEq, Int.reduceEq, Int.reduceLT, Int.reduceLE, Int.reduceAdd, Int.reduceSub, Int.reduceMul, Int.reduceToNat, Int.reduceNeg, Int.reduceBEq, Int.reducePow, Nat.reducePow, eqB_slo, hap]
theorem scalar_num (b : Bool) (t : Tag) (l : List (List IV)) : scalar1 (.agg [.bool b, .sl t l]) = false := id rfl
theorem freeze_iv (S : Store) (v : IV) (r : List TV) : freezeV S (.iv v :: r) = freezeV S r := id rfl
theorem cloneV (t : Tag) (l : List Int) (ht : TagOk t l) (hl : l.length ≤ 1000000) (S : Store) :
    ∃ y R, DV true (fun i => S.length ≤ i) (S ++ R) y l ∧ (lim K).call 50 [.iv (.sl t (one d16 l))] S = .ret (y, S ++ R) := by
  rcases call50 t l ht hl S with ⟨rfl, t', h⟩ | ⟨h0, h⟩
  · exact ⟨_, [], .iv t' [] (fun _ => rfl) (fun _ => rfl), by rw [List.append_nil]; exact h⟩
  · exact ⟨_, _, .ms _ _ _ _ _ true l l (by rw [List.getElem?_append_right (Nat.le_refl _)]; simp) (Nat.le_refl _) (by omega) (Nat.le_refl _) (by simp), h⟩
end Go.Proofs.YtdbffhgfjmhaiaaDoor
