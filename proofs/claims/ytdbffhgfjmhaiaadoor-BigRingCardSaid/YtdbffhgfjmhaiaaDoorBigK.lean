/- The contracts of big: sums of digits. Condition: none. -/
import Derived.Test.YtdbffhgfjmhaiaaDoorBigC
set_option maxRecDepth 100000
set_option linter.unusedSimpArgs false
set_option linter.unusedVariables false
namespace Go.Proofs.YtdbffhgfjmhaiaaDoor
open Go Go.TM
theorem val_drop (B : Int) (l : List Int) (i : Nat) : val B (l.drop i) = l.getD i default + B * val B (l.drop (i + 1)) := by
  by_cases h : i < l.length
  · rw [drop_getD h]; rfl
  · rw [List.drop_of_length_le (by omega), List.drop_of_length_le (by omega)]
    simp [List.getD, List.getElem?_eq_none (show l.length ≤ i by omega), val]
theorem Dig.getD0 {B : Int} (hB : 0 < B) {l : List Int} (hd : Dig B l) (i : Nat) : 0 ≤ l.getD i default ∧ l.getD i default < B := by
  by_cases h : i < l.length
  · exact hd.getD h
  · rw [List.getD, List.getElem?_eq_none (by omega)]
    exact ⟨Int.le_refl 0, hB⟩
theorem call76 (t : Tag) (l : List Int) (hd : Dig 65536 l) (hl : l.length ≤ 1000000) (i : Nat) (hi : i ≤ 1000000) : (lim K).call 76 [.iv (.sl t (one d16 l)), .iv (.int .i64 i)] [] = .ret (.iv (.int .u32 (l.getD i default)), []) := by
  refine call_ret' K [] (fn := t76) rfl rfl ?_
  by_cases h : i < l.length
  · have hix := ix_one d16 (t := t) (l := l) (i := (i : Int)) (by omega)
    rw [Int.toNat_natCast] at hix
    have hg := hd.getD h
    simp only [d16] at hix
    simp (config := { maxSteps := 4000000 }) (disch := omega) only [t76, go_sem, Nat.reduceAdd, Nat.reduceSub, Nat.reduceMul, Nat.reduceLT, Nat.reduceLeDiff, Nat.reduceEqDiff, Nat.reduceBEq, reduceIte, reduceCtorEq, List.replicate, List.cons_append, List.nil_append, Int.reduceEq, Int.reduceLT, Int.reduceLE, Int.reduceAdd, Int.reduceSub, Int.reduceMul, Int.reduceToNat, Int.reduceNeg, Int.reduceBEq, Int.reduceBNe, Int.reduceTDiv, Int.reduceTMod, Int.reducePow, Nat.reducePow, decide_true, decide_false, Nat.reduceDiv, Nat.reduceMod, Int.reduceMod, Int.reduceDiv, Int.reduceNe, Int.reduceFDiv, Nat.reduceLeDiff, beq_self_eq_true, decT, decF, ifT, ifF, eqT, eqF, neT, neF, bytesIV_length, one_length, get_cp, get_cp0, hix, wrap_u32]
  · rw [List.getD, List.getElem?_eq_none (by omega)]
    simp (config := { maxSteps := 4000000 }) (disch := omega) only [t76, go_sem, Nat.reduceAdd, Nat.reduceSub, Nat.reduceMul, Nat.reduceLT, Nat.reduceLeDiff, Nat.reduceEqDiff, Nat.reduceBEq, reduceIte, reduceCtorEq, List.replicate, List.cons_append, List.nil_append, Int.reduceEq, Int.reduceLT, Int.reduceLE, Int.reduceAdd, Int.reduceSub, Int.reduceMul, Int.reduceToNat, Int.reduceNeg, Int.reduceBEq, Int.reduceBNe, Int.reduceTDiv, Int.reduceTMod, Int.reducePow, Nat.reducePow, decide_true, decide_false, Nat.reduceDiv, Nat.reduceMod, Int.reduceMod, Int.reduceDiv, Int.reduceNe, Int.reduceFDiv, Nat.reduceLeDiff, beq_self_eq_true, decT, decF, ifT, ifF, eqT, eqF, neT, neF, bytesIV_length, one_length, get_cp, get_cp0]
    rfl
def sm (a b : List Int) : Nat → Nat → Int → List Int × Int
  | 0, _, c => ([], c)
  | n + 1, i, c => ((c + (a.getD i default + b.getD i default)) % 65536 :: (sm a b n (i + 1) ((c + (a.getD i default + b.getD i default)) / 65536)).1, (sm a b n (i + 1) ((c + (a.getD i default + b.getD i default)) / 65536)).2)
theorem sm_spec {a b : List Int} (ha : Dig 65536 a) (hb : Dig 65536 b) : ∀ (n i : Nat) (c : Int), a.length ≤ i + n → b.length ≤ i + n → 0 ≤ c ∧ c ≤ 1 →
    Dig 65536 (sm a b n i c).1 ∧ (sm a b n i c).1.length = n ∧ 0 ≤ (sm a b n i c).2 ∧ (sm a b n i c).2 ≤ 1 ∧ val 65536 (sm a b n i c).1 + 65536 ^ n * (sm a b n i c).2 = c + (val 65536 (a.drop i) + val 65536 (b.drop i))
  | 0, i, c, h1, h2, hc => by
    rw [List.drop_of_length_le (by omega), List.drop_of_length_le (by omega)]
    refine ⟨Dig.nil, rfl, hc.1, hc.2, ?_⟩
    simp [sm, val]
  | n + 1, i, c, h1, h2, hc => by
    have g1 := ha.getD0 (by decide) i
    have g2 := hb.getD0 (by decide) i
    obtain ⟨i1, i2, i3, i4, i5⟩ := sm_spec ha hb n (i + 1) ((c + (a.getD i default + b.getD i default)) / 65536) (by omega) (by omega) (by omega)
    rw [val_drop _ a i, val_drop _ b i]
    simp only [sm]
    refine ⟨Dig.cons (by omega) i1, by rw [List.length_cons, i2], i3, i4, ?_⟩
    simp only [val, Int.pow_succ]
    rw [Int.mul_comm (65536 ^ n) 65536, Int.mul_assoc]
    omega
theorem loop53 (t1 t2 : Tag) (a b : List Int) (ha : Dig 65536 a) (hb : Dig 65536 b) (h1 : a.length ≤ 100000) (h2 : b.length ≤ 100000) (N : Nat) (hN : N ≤ 200000) : ∀ (n i : Nat) (c : Int) (d : List Int) (x4 x7 : TV), i + n = N → d.length = i → 0 ≤ c ∧ c ≤ 1 →
    ∃ y4 y7, lp' (lim K) t53L0 [.iv (.sl t1 (one d16 a)), .iv (.sl t2 (one d16 b)), acc 0 (one d16 d), .iv (.int .u32 c), x4, .iv (.int .i64 N), .iv (.int .i64 i), x7] (accS 1 55 (one d16 d)) = .ret (.exit 0, [.iv (.sl t1 (one d16 a)), .iv (.sl t2 (one d16 b)), acc 0 (one d16 (d ++ (sm a b n i c).1)), .iv (.int .u32 (sm a b n i c).2), y4, .iv (.int .i64 N), .iv (.int .i64 N), y7], accS 1 55 (one d16 (d ++ (sm a b n i c).1)))
  | 0, i, c, d, x4, x7, h, hi, hc => by
    obtain rfl : i = N := by omega
    refine ⟨?_, ?_, loop_at K _ _ t53L0.eq_1 ?_⟩
    rotate_left 2
    · simp (disch := omega) only [go_sem, Nat.reduceAdd, Nat.reduceSub, Nat.reduceMul, Nat.reduceLT, Nat.reduceLeDiff, Nat.reduceEqDiff, Nat.reduceBEq, reduceIte, reduceCtorEq, List.replicate, List.cons_append, List.nil_append, Int.reduceEq, Int.reduceLT, Int.reduceLE, Int.reduceAdd, Int.reduceSub, Int.reduceMul, Int.reduceToNat, Int.reduceNeg, Int.reduceBEq, Int.reduceBNe, Int.reduceTDiv, Int.reduceTMod, Int.reducePow, Nat.reducePow, decide_true, decide_false, Nat.reduceDiv, Nat.reduceMod, Int.reduceMod, Int.reduceDiv, Int.reduceNe, Int.reduceFDiv, Nat.reduceLeDiff, beq_self_eq_true, decT, decF, ifT, ifF, eqT, eqF, neT, neF, bytesIV_length, one_length, get_cp, get_cp0, sm, List.append_nil]
      rfl
  | n + 1, i, c, d, x4, x7, h, hi, hc => by
    have g1 := ha.getD0 (by decide) i
    have g2 := hb.getD0 (by decide) i
    have c1 := call76 t1 a ha (by omega) i (by omega)
    have c2 := call76 t2 b hb (by omega) i (by omega)
    simp only [sm]
    have hap := ap_acc1 (w := 1) (b := 2) (el := 55) (t := .full) (d16_ok ((c + (a.getD i default + b.getD i default)) % 65536)) (Elems.one (f := d16) (fun _ => rfl) d) (roomy_ok (by rw [one_length]; omega))
    rw [one_snoc] at hap
    obtain ⟨y4, y7, ih⟩ := loop53 t1 t2 a b ha hb h1 h2 N hN n (i + 1) ((c + (a.getD i default + b.getD i default)) / 65536) (d ++ [(c + (a.getD i default + b.getD i default)) % 65536]) (.iv (.int .i64 i)) (.iv (.bool true)) (by omega) (by simp [hi]) (by omega)
    refine ⟨y4, y7, loop_at K _ _ t53L0.eq_1 ?_⟩
    rw [List.append_assoc, List.cons_append, List.nil_append] at ih
    simp only [d16] at hap
    generalize a.getD i default = p at *
    generalize b.getD i default = q at *
    simp (config := { maxSteps := 4000000 }) (disch := omega) only [go_sem, Nat.reduceAdd, Nat.reduceSub, Nat.reduceMul, Nat.reduceLT, Nat.reduceLeDiff, Nat.reduceEqDiff, Nat.reduceBEq, reduceIte, reduceCtorEq, List.replicate, List.cons_append, List.nil_append, Int.reduceEq, Int.reduceLT, Int.reduceLE, Int.reduceAdd, Int.reduceSub, Int.reduceMul, Int.reduceToNat, Int.reduceNeg, Int.reduceBEq, Int.reduceBNe, Int.reduceTDiv, Int.reduceTMod, Int.reducePow, Nat.reducePow, decide_true, decide_false, Nat.reduceDiv, Nat.reduceMod, Int.reduceMod, Int.reduceDiv, Int.reduceNe, Int.reduceFDiv, Nat.reduceLeDiff, beq_self_eq_true, decT, decF, ifT, ifF, eqT, eqF, neT, neF, bytesIV_length, one_length, get_cp, get_cp0, c1, c2, wrap_u32, wrap_u16_mod, wrap_i64, hap]
    rw [fd16]
    exact congrArg er ih
theorem pow_le' {B : Int} (hB : 1 < B) {n m : Nat} (h : n ≤ m) : B ^ n ≤ B ^ m := by
  obtain ⟨k, rfl⟩ := Nat.le.dest h
  rw [Int.pow_add]
  have h1 := pow_pos' hB n
  have h2 := pow_pos' hB k
  have := Int.mul_le_mul_of_nonneg_left (show 1 ≤ B ^ k by omega) (Int.le_of_lt h1)
  omega
theorem max_i64 (a b : Int) : minmax true (.int .i64 a) [.iv (.int .i64 b)] = some (.int .i64 (if a < b then b else a)) := by
  simp only [minmax, min2]
  by_cases h : a < b <;> simp [h]
theorem call53 (t1 t2 : Tag) (a b : List Int) (ha : Dig 65536 a) (hb : Dig 65536 b) (h1 : a.length ≤ 90000) (h2 : b.length ≤ 90000) :
    ∃ t' out, TagOk t' out ∧ Dig 65536 out ∧ out.length ≤ a.length + b.length + 1 ∧ val 65536 out = val 65536 a + val 65536 b ∧ Pure K 53 [.iv (.sl t1 (one d16 a)), .iv (.sl t2 (one d16 b))] (.iv (.sl t' (one d16 out))) := by
  obtain ⟨N, hN, hN1, hN2, hN3⟩ : ∃ N : Nat, (if (a.length : Int) < b.length then (b.length : Int) else a.length) = N ∧ a.length ≤ N ∧ b.length ≤ N ∧ N ≤ a.length + b.length := by
    by_cases h : (a.length : Int) < b.length
    · exact ⟨b.length, by rw [if_pos h], by omega, by omega, by omega⟩
    · exact ⟨a.length, by rw [if_neg h], by omega, by omega, by omega⟩
  obtain ⟨y4, y7, e⟩ := loop53 t1 t2 a b ha hb (by omega) (by omega) (N + 1) (by omega) (N + 1) 0 0 [] (.tup []) (.tup []) (by omega) rfl (by omega)
  obtain ⟨i1, i2, i3, i4, i5⟩ := sm_spec ha hb (N + 1) 0 0 (by omega) (by omega) (by omega)
  rw [List.drop_zero, List.drop_zero] at i5
  have l1 := val_lt (by decide) ha
  have l2 := val_lt (by decide) hb
  have p1 := pow_le' (B := 65536) (by decide) hN1
  have p2 := pow_le' (B := 65536) (by decide) hN2
  have p0 := val_nonneg (by decide) i1
  have pq := pow_pos' (B := 65536) (by decide) N
  have p3 : (65536 : Int) ^ (N + 1) = 65536 ^ N * 65536 := Int.pow_succ ..
  have hc : (sm a b (N + 1) 0 0).2 = 0 := by
    have : (sm a b (N + 1) 0 0).2 = 0 ∨ (sm a b (N + 1) 0 0).2 = 1 := by omega
    rcases this with h | h
    · exact h
    · rw [h] at i5; omega
  rw [hc] at i5
  refine ⟨sTag (sm a b (N + 1) 0 0).1, (sm a b (N + 1) 0 0).1, sTag_ok _, i1, by omega, by omega, call_pure t53 rfl rfl ?_⟩
  rw [List.nil_append, show ((0 : Nat) : Int) = 0 from rfl] at e
  have e0 : acc 0 (one d16 []) = .iv (.sl .nil []) := acc_nil 0
  have e1 : accS 1 55 (one d16 []) = [] := accS_nil 1 55
  rw [e0, e1] at e
  have hw : IntKind.i64.wrap ((N : Int) + 1) = ((N + 1 : Nat) : Int) := by rw [wrap_i64 (by omega)]; rfl
  simp (config := { maxSteps := 4000000 }) (disch := omega) only [t53, go_sem, Nat.reduceAdd, Nat.reduceSub, Nat.reduceMul, Nat.reduceLT, Nat.reduceLeDiff, Nat.reduceEqDiff, Nat.reduceBEq, reduceIte, reduceCtorEq, List.replicate, List.cons_append, List.nil_append, Int.reduceEq, Int.reduceLT, Int.reduceLE, Int.reduceAdd, Int.reduceSub, Int.reduceMul, Int.reduceToNat, Int.reduceNeg, Int.reduceBEq, Int.reduceBNe, Int.reduceTDiv, Int.reduceTMod, Int.reducePow, Nat.reducePow, decide_true, decide_false, Nat.reduceDiv, Nat.reduceMod, Int.reduceMod, Int.reduceDiv, Int.reduceNe, Int.reduceFDiv, Nat.reduceLeDiff, beq_self_eq_true, decT, decF, ifT, ifF, eqT, eqF, neT, neF, bytesIV_length, one_length, get_cp, get_cp0, max_i64, hN, hw, e, resB_ret, resolve_acc, resO_some]
  rw [show sTag (one d16 (sm a b (N + 1) 0 0).1) = sTag (sm a b (N + 1) 0 0).1 from sTag_map _ _]
def ls (a b : List Int) : Nat → Nat → Int → List Int × Int
  | 0, _, c => ([], c)
  | n + 1, i, c => ((65536 + a.getD i default - b.getD i default - c) % 65536 :: (ls a b n (i + 1) (1 - (65536 + a.getD i default - b.getD i default - c) / 65536)).1, (ls a b n (i + 1) (1 - (65536 + a.getD i default - b.getD i default - c) / 65536)).2)
theorem ls_spec {a b : List Int} (ha : Dig 65536 a) (hb : Dig 65536 b) : ∀ (n i : Nat) (c : Int), a.length ≤ i + n → b.length ≤ i + n → 0 ≤ c ∧ c ≤ 1 →
    Dig 65536 (ls a b n i c).1 ∧ (ls a b n i c).1.length = n ∧ 0 ≤ (ls a b n i c).2 ∧ (ls a b n i c).2 ≤ 1 ∧ val 65536 (ls a b n i c).1 + c + val 65536 (b.drop i) = val 65536 (a.drop i) + 65536 ^ n * (ls a b n i c).2
  | 0, i, c, h1, h2, hc => by
    rw [List.drop_of_length_le (by omega), List.drop_of_length_le (by omega)]
    refine ⟨Dig.nil, rfl, hc.1, hc.2, ?_⟩
    simp [ls, val]
  | n + 1, i, c, h1, h2, hc => by
    have g1 := ha.getD0 (by decide) i
    have g2 := hb.getD0 (by decide) i
    obtain ⟨i1, i2, i3, i4, i5⟩ := ls_spec ha hb n (i + 1) (1 - (65536 + a.getD i default - b.getD i default - c) / 65536) (by omega) (by omega) (by omega)
    rw [val_drop _ a i, val_drop _ b i]
    simp only [ls]
    refine ⟨Dig.cons (by omega) i1, by rw [List.length_cons, i2], i3, i4, ?_⟩
    simp only [val, Int.pow_succ]
    rw [Int.mul_comm (65536 ^ n) 65536, Int.mul_assoc]
    omega
theorem loop55 (t1 t2 : Tag) (a b : List Int) (ha : Dig 65536 a) (hb : Dig 65536 b) (h1 : a.length ≤ 100000) (h2 : b.length ≤ 100000) : ∀ (n i : Nat) (c : Int) (d : List Int) (x4 x5 x8 : TV), i + n = a.length → d.length = i → 0 ≤ c ∧ c ≤ 1 →
    ∃ y4 y5 y8, lp' (lim K) t55L0 [.iv (.sl t1 (one d16 a)), .iv (.sl t2 (one d16 b)), acc 0 (one d16 d), .iv (.int .u32 c), x4, x5, .iv (.int .i64 a.length), .iv (.int .i64 i), x8] (accS 1 55 (one d16 d)) = .ret (.exit 0, [.iv (.sl t1 (one d16 a)), .iv (.sl t2 (one d16 b)), acc 0 (one d16 (d ++ (ls a b n i c).1)), .iv (.int .u32 (ls a b n i c).2), y4, y5, .iv (.int .i64 a.length), .iv (.int .i64 a.length), y8], accS 1 55 (one d16 (d ++ (ls a b n i c).1)))
  | 0, i, c, d, x4, x5, x8, h, hi, hc => by
    obtain rfl : i = a.length := by omega
    refine ⟨?_, ?_, ?_, loop_at K _ _ t55L0.eq_1 ?_⟩
    rotate_left 3
    · simp (disch := omega) only [go_sem, Nat.reduceAdd, Nat.reduceSub, Nat.reduceMul, Nat.reduceLT, Nat.reduceLeDiff, Nat.reduceEqDiff, Nat.reduceBEq, reduceIte, reduceCtorEq, List.replicate, List.cons_append, List.nil_append, Int.reduceEq, Int.reduceLT, Int.reduceLE, Int.reduceAdd, Int.reduceSub, Int.reduceMul, Int.reduceToNat, Int.reduceNeg, Int.reduceBEq, Int.reduceBNe, Int.reduceTDiv, Int.reduceTMod, Int.reducePow, Nat.reducePow, decide_true, decide_false, Nat.reduceDiv, Nat.reduceMod, Int.reduceMod, Int.reduceDiv, Int.reduceNe, Int.reduceFDiv, Nat.reduceLeDiff, beq_self_eq_true, decT, decF, ifT, ifF, eqT, eqF, neT, neF, bytesIV_length, one_length, get_cp, get_cp0, ls, List.append_nil]
      rfl
  | n + 1, i, c, d, x4, x5, x8, h, hi, hc => by
    have g1 := ha.getD0 (by decide) i
    have g2 := hb.getD0 (by decide) i
    have c1 := call76 t1 a ha (by omega) i (by omega)
    have c2 := call76 t2 b hb (by omega) i (by omega)
    simp only [ls]
    obtain ⟨v, hv⟩ : ∃ v, v = 65536 + a.getD i default - b.getD i default - c := ⟨_, rfl⟩
    have hap := ap_acc1 (w := 1) (b := 2) (el := 55) (t := .full) (d16_ok (v % 65536)) (Elems.one (f := d16) (fun _ => rfl) d) (roomy_ok (by rw [one_length]; omega))
    rw [one_snoc] at hap
    obtain ⟨y4, y5, y8, ih⟩ := loop55 t1 t2 a b ha hb h1 h2 n (i + 1) (1 - v / 65536) (d ++ [v % 65536]) (.iv (.int .i64 i)) (.iv (.int .u32 v)) (.iv (.bool true)) (by omega) (by simp [hi]) (by omega)
    refine ⟨y4, y5, y8, loop_at K _ _ t55L0.eq_1 ?_⟩
    rw [List.append_assoc, List.cons_append, List.nil_append] at ih
    rw [← hv]
    simp only [d16] at hap
    generalize a.getD i default = p at *
    generalize b.getD i default = q at *
    simp (config := { maxSteps := 4000000 }) (disch := omega) only [go_sem, Nat.reduceAdd, Nat.reduceSub, Nat.reduceMul, Nat.reduceLT, Nat.reduceLeDiff, Nat.reduceEqDiff, Nat.reduceBEq, reduceIte, reduceCtorEq, List.replicate, List.cons_append, List.nil_append, Int.reduceEq, Int.reduceLT, Int.reduceLE, Int.reduceAdd, Int.reduceSub, Int.reduceMul, Int.reduceToNat, Int.reduceNeg, Int.reduceBEq, Int.reduceBNe, Int.reduceTDiv, Int.reduceTMod, Int.reducePow, Nat.reducePow, decide_true, decide_false, Nat.reduceDiv, Nat.reduceMod, Int.reduceMod, Int.reduceDiv, Int.reduceNe, Int.reduceFDiv, Nat.reduceLeDiff, beq_self_eq_true, decT, decF, ifT, ifF, eqT, eqF, neT, neF, bytesIV_length, one_length, get_cp, get_cp0, c1, c2, wrap_u32, wrap_i64, ← hv, wrap_u16_mod, hap, fd16]
    exact congrArg er ih
theorem call55 (t1 t2 : Tag) (a b : List Int) (ha : Dig 65536 a) (hb : Dig 65536 b) (h1 : a.length ≤ 90000) (h2 : b.length ≤ a.length) (hv : val 65536 b ≤ val 65536 a) :
    ∃ out, Dig 65536 out ∧ out.length = a.length ∧ val 65536 out = val 65536 a - val 65536 b ∧ Pure K 55 [.iv (.sl t1 (one d16 a)), .iv (.sl t2 (one d16 b))] (.iv (.sl (sTag out) (one d16 out))) := by
  obtain ⟨y4, y5, y8, e⟩ := loop55 t1 t2 a b ha hb (by omega) (by omega) a.length 0 0 [] (.tup []) (.tup []) (.tup []) (by omega) rfl (by omega)
  obtain ⟨i1, i2, i3, i4, i5⟩ := ls_spec ha hb a.length 0 0 (by omega) (by omega) (by omega)
  rw [List.drop_zero, List.drop_zero] at i5
  have l1 := val_lt (by decide) i1
  rw [i2] at l1
  have hc : (ls a b a.length 0 0).2 = 0 := by
    have : (ls a b a.length 0 0).2 = 0 ∨ (ls a b a.length 0 0).2 = 1 := by omega
    rcases this with h | h
    · exact h
    · rw [h] at i5; omega
  rw [hc] at i5
  refine ⟨(ls a b a.length 0 0).1, i1, i2, by omega, call_pure t55 rfl rfl ?_⟩
  rw [List.nil_append, show ((0 : Nat) : Int) = 0 from rfl] at e
  have e0 : acc 0 (one d16 []) = .iv (.sl .nil []) := acc_nil 0
  have e1 : accS 1 55 (one d16 []) = [] := accS_nil 1 55
  rw [e0, e1] at e
  simp (config := { maxSteps := 4000000 }) (disch := omega) only [t55, go_sem, Nat.reduceAdd, Nat.reduceSub, Nat.reduceMul, Nat.reduceLT, Nat.reduceLeDiff, Nat.reduceEqDiff, Nat.reduceBEq, reduceIte, reduceCtorEq, List.replicate, List.cons_append, List.nil_append, Int.reduceEq, Int.reduceLT, Int.reduceLE, Int.reduceAdd, Int.reduceSub, Int.reduceMul, Int.reduceToNat, Int.reduceNeg, Int.reduceBEq, Int.reduceBNe, Int.reduceTDiv, Int.reduceTMod, Int.reducePow, Nat.reducePow, decide_true, decide_false, Nat.reduceDiv, Nat.reduceMod, Int.reduceMod, Int.reduceDiv, Int.reduceNe, Int.reduceFDiv, Nat.reduceLeDiff, beq_self_eq_true, decT, decF, ifT, ifF, eqT, eqF, neT, neF, bytesIV_length, one_length, get_cp, get_cp0, e, resB_ret, resolve_acc, resO_some]
  rw [show sTag (one d16 (ls a b a.length 0 0).1) = sTag (ls a b a.length 0 0).1 from sTag_map _ _]
end Go.Proofs.YtdbffhgfjmhaiaaDoor
