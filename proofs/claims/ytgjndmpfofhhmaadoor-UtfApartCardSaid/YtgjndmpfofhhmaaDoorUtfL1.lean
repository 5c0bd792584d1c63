/- UtfChars, UtfBack, UtfApart: the evaluator answers true. Condition: none. -/
import Derived.Test.YtgjndmpfofhhmaaDoorUtfB6
import Derived.Test.YtgjndmpfofhhmaaDoorTmE
set_option maxRecDepth 100000
set_option linter.unusedSimpArgs false
set_option linter.unusedVariables false
namespace Go.Proofs.YtgjndmpfofhhmaaDoor
open Go Go.TM
set_option maxHeartbeats 4000000 in
theorem law3 (c : Int) (hc : -9223372036854775808 ≤ c ∧ c ≤ 9223372036854775807) (t : Tag) (b : List UInt8) (ht : TagOk t b) (hl : b.length ≤ 9223372036854775807) (i : Int) (hi : -9223372036854775808 ≤ i ∧ i ≤ 9223372036854775807) : ((lim K).call 3 [.iv (.int .i64 c), .iv (.sl t (bytesIV b)), .iv (.int .i64 i)] []).All fun r => r.1 = .iv (.bool true) := by
  obtain ⟨t', ht', h9⟩ := call9 b t ht
  have h12 := call12 t' (b.take 2000) i ht'
  have h13 := call13 t' (b.take 2000) i ht' (by simp; omega)
  refine call_all' K [] (fn := t3) rfl rfl ?_
  simp (config := { maxSteps := 4000000 }) (disch := omega) only [t3, go_sem, Nat.reduceAdd, Nat.reduceSub, Nat.reduceMul, Nat.reduceLT, Nat.reduceLeDiff, Nat.reduceEqDiff, Nat.reduceBEq, reduceIte, reduceCtorEq, List.replicate, List.cons_append, List.nil_append, Int.reduceEq, Int.reduceLT, Int.reduceLE, Int.reduceAdd, Int.reduceSub, Int.reduceMul, Int.reduceToNat, Int.reduceNeg, Int.reduceBEq, Int.reduceBNe, Int.reduceTDiv, Int.reduceTMod, Int.reducePow, Nat.reducePow, decide_true, decide_false, Nat.reduceDiv, Nat.reduceMod, Int.reduceMod, Int.reduceDiv, Int.reduceNe, Int.reduceFDiv, Nat.reduceLeDiff, decT, decF, ifT, ifF, eqT, eqF, neT, neF, bytesIV_length, one_length, get_cp, get_cp0, h9, h12, h13, call10, call11, call14, call15, works, tup3, beq_self_eq_true, Out.All]
theorem getR_at {c : Int} (h : isC c = true) (A B : List UInt8) : getR (A ++ bytesR c ++ B) A.length = (c, ((bytesR c).length : Int), 0) := by
  have hl := bytes_len h
  have hd : (A ++ bytesR c ++ B).drop ((A.length : Int)).toNat = bytesR c ++ B := by
    rw [Int.toNat_natCast, List.append_assoc, List.drop_left]
  have h0 := (isC_iff c).1 h
  simp only [getR, hd, not_bad h, D_bytes h]
  rw [if_neg (by simp; omega)]
  simp only [Bool.false_eq_true, ↓reduceIte]
  congr 1
  omega
theorem getR_cut {c : Int} (h : isC c = true) : (getR ((bytesR c).take ((bytesR c).length - 1)) 0).2.2 ≠ 0 := by
  have hl := bytes_len h
  simp only [getR]
  split
  · simp
  · rename_i hn
    have hb : bad (List.drop (0 : Int).toNat ((bytesR c).take ((bytesR c).length - 1))) = true := by
      simp only [Int.toNat_zero, List.drop_zero]
      cases hb : bad ((bytesR c).take ((bytesR c).length - 1)) with
      | true => rfl
      | false =>
        obtain ⟨g1, g2, g3, g4⟩ := D_good hb
        generalize hs : (bytesR c).take ((bytesR c).length - 1) = s at *
        have hlen : s.length = (bytesR c).length - 1 := by rw [← hs, List.length_take]; omega
        have e : bytesR c = bytesR ((D s).1 : Nat) ++ (s.drop (D s).2 ++ (bytesR c).drop ((bytesR c).length - 1)) := by
          rw [g2, ← List.append_assoc, List.take_append_drop, ← hs, List.take_append_drop]
        have e1 := D_bytes h []
        rw [List.append_nil] at e1
        have e2 := D_bytes g1 (s.drop (D s).2 ++ (bytesR c).drop ((bytesR c).length - 1))
        rw [← e, e1] at e2
        have e3 := congrArg Prod.snd e2
        simp only [g2, List.length_take] at e3
        omega
    simp only [Int.toNat_zero, List.drop_zero] at hb
    simp [hb]
set_option maxHeartbeats 4000000 in
theorem law4 (c : Int) (hc : -9223372036854775808 ≤ c ∧ c ≤ 9223372036854775807) (t1 : Tag) (a : List UInt8) (ht1 : TagOk t1 a) (hl1 : a.length ≤ 9223372036854775807) (t2 : Tag) (b : List UInt8) (ht2 : TagOk t2 b) (hl2 : b.length ≤ 9223372036854775807) : ((lim K).call 4 [.iv (.int .i64 c), .iv (.sl t1 (bytesIV a)), .iv (.sl t2 (bytesIV b))] []).All fun r => r.1 = .iv (.bool true) := by
  obtain ⟨t1', ht1', h91⟩ := call9 a t1 ht1
  obtain ⟨t2', ht2', h92⟩ := call9 b t2 ht2
  have hA : (a.take 2000).length ≤ 2000 := by simp; omega
  have hB : (b.take 2000).length ≤ 2000 := by simp; omega
  generalize a.take 2000 = A at *
  generalize b.take 2000 = B at *
  refine call_all' K [] (fn := t4) rfl rfl ?_
  cases h : isC c
  · simp (config := { maxSteps := 4000000 }) (disch := omega) only [t4, go_sem, Nat.reduceAdd, Nat.reduceSub, Nat.reduceMul, Nat.reduceLT, Nat.reduceLeDiff, Nat.reduceEqDiff, Nat.reduceBEq, reduceIte, reduceCtorEq, List.replicate, List.cons_append, List.nil_append, Int.reduceEq, Int.reduceLT, Int.reduceLE, Int.reduceAdd, Int.reduceSub, Int.reduceMul, Int.reduceToNat, Int.reduceNeg, Int.reduceBEq, Int.reduceBNe, Int.reduceTDiv, Int.reduceTMod, Int.reducePow, Nat.reducePow, decide_true, decide_false, Nat.reduceDiv, Nat.reduceMod, Int.reduceMod, Int.reduceDiv, Int.reduceNe, Int.reduceFDiv, Nat.reduceLeDiff, decT, decF, ifT, ifF, eqT, eqF, neT, neF, bytesIV_length, one_length, get_cp, get_cp0, h91, h92, call10, h, call14, works, beq_self_eq_true, Out.All]
  · have hb := bytes_eq c h
    have hl := bytes_len h
    have hg := getR_at h A B
    have hg2 := getR_cut h
    generalize hs : bytesR c = s at *
    have hs0 : bytesIV s ≠ [] := by intro e; have := congrArg List.length e; rw [bytesIV_length] at this; simp at this; rw [this] at hl; simp at hl
    obtain ⟨v1, S1, f1, f2⟩ : ∃ v1 S1, appendOp false 1 1 5 [] (.iv (.sl .full [])) (.iv (.sl t1' (bytesIV A))) = some (v1, S1) ∧ appendOp false 1 1 5 S1 v1 (.iv (.str s)) = some (.tsl 0 (bytesIV (A ++ s)), [.tok (A.length + s.length) 1 5]) := by
      by_cases hA0 : A = []
      · subst hA0
        refine ⟨_, _, ap_nil rfl (IsEl.sl _ _ _), ?_⟩
        rw [ap_new (by decide) (IsEl.str _ _) (Elems.bytes s) Elems.nil hs0 (roomy_ok (by rw [bytesIV_length]; simp; omega))]
        simp [bytesIV_length]
      · have : bytesIV A ≠ [] := by intro e; have := congrArg List.length e; rw [bytesIV_length] at this; simp at this; exact hA0 this
        refine ⟨_, _, ap_new (by decide) (IsEl.sl _ _ _) (Elems.bytes A) Elems.nil this (roomy_ok (by rw [bytesIV_length]; simp; omega)), ?_⟩
        rw [ap_tsl (l := [] ++ bytesIV A) (IsEl.str _ _) (Elems.bytes s) (Elems.bytes A) (by simp) (roomy_ok (by rw [List.nil_append, bytesIV_length, bytesIV_length]; omega))]
        simp [bytesIV_length, bytes_append]
    have f3 : appendOp false 1 1 5 [.tok (A.length + s.length) 1 5] (.tsl 0 (bytesIV (A ++ s))) (.iv (.sl t2' (bytesIV B))) = some (.tsl 0 (bytesIV (A ++ s ++ B)), [.tok (A.length + s.length + B.length) 1 5]) := by
      rw [ap_tsl (IsEl.sl _ _ _) (Elems.bytes B) (Elems.bytes _) (by simp [bytesIV_length]) (roomy_ok (by rw [bytesIV_length, bytesIV_length]; simp; omega))]
      simp [bytesIV_length, bytes_append]
    have h12 := call12 .no (A ++ s ++ B) A.length (TagOk.no _)
    rw [hg] at h12
    have h12b := call12 .no (s.take (s.length - 1)) 0 (TagOk.no _)
    have e1 : ((s.length : Int) - 1).toNat = s.length - 1 := by omega
    simp (config := { maxSteps := 4000000 }) (disch := omega) only [t4, go_sem, Nat.reduceAdd, Nat.reduceSub, Nat.reduceMul, Nat.reduceLT, Nat.reduceLeDiff, Nat.reduceEqDiff, Nat.reduceBEq, reduceIte, reduceCtorEq, List.replicate, List.cons_append, List.nil_append, Int.reduceEq, Int.reduceLT, Int.reduceLE, Int.reduceAdd, Int.reduceSub, Int.reduceMul, Int.reduceToNat, Int.reduceNeg, Int.reduceBEq, Int.reduceBNe, Int.reduceTDiv, Int.reduceTMod, Int.reducePow, Nat.reducePow, decide_true, decide_false, Nat.reduceDiv, Nat.reduceMod, Int.reduceMod, Int.reduceDiv, Int.reduceNe, Int.reduceFDiv, Nat.reduceLeDiff, decT, decF, ifT, ifF, eqT, eqF, neT, neF, bytesIV_length, one_length, get_cp, get_cp0, h91, h92, call10, h, call14, works, beq_self_eq_true, hb, f1, f2, f3, h12, tup3, h12b, slice_str_hi, e1, wrap_i64]
    rw [List.length_take]
    generalize getR (s.take (s.length - 1)) 0 = q at *
    simp (config := { maxSteps := 4000000 }) (disch := omega) only [go_sem, Nat.reduceAdd, Nat.reduceSub, Nat.reduceMul, Nat.reduceLT, Nat.reduceLeDiff, Nat.reduceEqDiff, Nat.reduceBEq, reduceIte, reduceCtorEq, List.replicate, List.cons_append, List.nil_append, Int.reduceEq, Int.reduceLT, Int.reduceLE, Int.reduceAdd, Int.reduceSub, Int.reduceMul, Int.reduceToNat, Int.reduceNeg, Int.reduceBEq, Int.reduceBNe, Int.reduceTDiv, Int.reduceTMod, Int.reducePow, Nat.reducePow, decide_true, decide_false, Nat.reduceDiv, Nat.reduceMod, Int.reduceMod, Int.reduceDiv, Int.reduceNe, Int.reduceFDiv, Nat.reduceLeDiff, decT, decF, ifT, ifF, eqT, eqF, neT, neF, bytesIV_length, one_length, get_cp, get_cp0, h12b, tup3, h, call14, works, Out.All]
theorem apart_eq {a b : Int} (h1 : isC a = true) (h2 : isC b = true) : ((bytesR a).take (min (bytesR a).length (bytesR b).length) == (bytesR b).take (min (bytesR a).length (bytesR b).length)) = (a == b) := by
  have ha := (isC_iff a).1 h1
  have hb := (isC_iff b).1 h2
  by_cases e : a = b
  · subst e; simp
  · have : ¬ (bytesR a).take (min (bytesR a).length (bytesR b).length) = (bytesR b).take (min (bytesR a).length (bytesR b).length) := by
      intro q
      apply e
      have d1 := D_bytes h1 []
      have d2 := D_bytes h2 []
      rw [List.append_nil] at d1 d2
      by_cases hl : (bytesR a).length ≤ (bytesR b).length
      · rw [Nat.min_eq_left hl, List.take_of_length_le (Nat.le_refl _)] at q
        have g : bytesR b = bytesR a ++ (bytesR b).drop (bytesR a).length := by
          conv => lhs; rw [← List.take_append_drop (bytesR a).length (bytesR b)]
          rw [← q]
        have d3 := D_bytes h1 ((bytesR b).drop (bytesR a).length)
        rw [← g, d2] at d3
        have := congrArg Prod.fst d3
        simp only at this
        omega
      · rw [Nat.min_eq_right (by omega), List.take_of_length_le (Nat.le_refl (bytesR b).length)] at q
        have g : bytesR a = bytesR b ++ (bytesR a).drop (bytesR b).length := by
          conv => lhs; rw [← List.take_append_drop (bytesR b).length (bytesR a)]
          rw [q]
        have d3 := D_bytes h2 ((bytesR a).drop (bytesR b).length)
        rw [← g, d1] at d3
        have := congrArg Prod.fst d3
        simp only at this
        omega
    rw [beq_eq_false_iff_ne.2 this, beq_eq_false_iff_ne.2 e]
theorem bl_cons {x y : Nat} {l m : List UInt8} (hx : x < 256) (hy : y < 256) : Op.bytesLess (UInt8.ofNat x :: l) (UInt8.ofNat y :: m) = (decide (x < y) || (decide (x = y) && Op.bytesLess l m)) := by
  have e1 : (UInt8.ofNat x < UInt8.ofNat y) ↔ x < y := by rw [UInt8.lt_iff_toNat_lt, nat8 hx, nat8 hy]
  have e2 : (UInt8.ofNat x == UInt8.ofNat y) = decide (x = y) := by
    by_cases e : x = y
    · subst e; simp
    · have : ¬ UInt8.ofNat x = UInt8.ofNat y := by
        intro q; apply e
        rw [← nat8 hx, ← nat8 hy, q]
      simp [e, this]
  simp only [Op.bytesLess, e1, e2]
theorem bl_nil (l : List UInt8) : Op.bytesLess l [] = false := by cases l <;> rfl
theorem bl_nil2 (a : UInt8) (l : List UInt8) : Op.bytesLess [] (a :: l) = true := rfl
theorem apart_lt {a b : Int} (h1 : isC a = true) (h2 : isC b = true) : Op.bytesLess (bytesR a) (bytesR b) = decide (a < b) := by
  have ha := (isC_iff a).1 h1
  have hb := (isC_iff b).1 h2
  have c1 : a < 128 ∨ (128 ≤ a ∧ a < 2048) ∨ (2048 ≤ a ∧ a < 65536) ∨ 65536 ≤ a := by omega
  have c2 : b < 128 ∨ (128 ≤ b ∧ b < 2048) ∨ (2048 ≤ b ∧ b < 65536) ∨ 65536 ≤ b := by omega
  rw [Bool.eq_iff_iff]
  rcases c1 with c1 | c1 | c1 | c1 <;> rcases c2 with c2 | c2 | c2 | c2 <;>
  simp (disch := omega) only [bytes_1, bytes_2, bytes_3, bytes_4, c1, c2, and_self, bl_cons, bl_nil, bl_nil2, Bool.or_eq_true, Bool.and_eq_true, decide_eq_true_eq, Bool.false_eq_true, and_false, or_false] <;> omega
set_option maxHeartbeats 4000000 in
theorem law5 (a : Int) (ha : -9223372036854775808 ≤ a ∧ a ≤ 9223372036854775807) (b : Int) (hb : -9223372036854775808 ≤ b ∧ b ≤ 9223372036854775807) : ((lim K).call 5 [.iv (.int .i64 a), .iv (.int .i64 b)] []).All fun r => r.1 = .iv (.bool true) := by
  refine call_all' K [] (fn := t5) rfl rfl ?_
  cases h1 : isC a
  · simp (config := { maxSteps := 4000000 }) (disch := omega) only [t5, go_sem, Nat.reduceAdd, Nat.reduceSub, Nat.reduceMul, Nat.reduceLT, Nat.reduceLeDiff, Nat.reduceEqDiff, Nat.reduceBEq, reduceIte, reduceCtorEq, List.replicate, List.cons_append, List.nil_append, Int.reduceEq, Int.reduceLT, Int.reduceLE, Int.reduceAdd, Int.reduceSub, Int.reduceMul, Int.reduceToNat, Int.reduceNeg, Int.reduceBEq, Int.reduceBNe, Int.reduceTDiv, Int.reduceTMod, Int.reducePow, Nat.reducePow, decide_true, decide_false, Nat.reduceDiv, Nat.reduceMod, Int.reduceMod, Int.reduceDiv, Int.reduceNe, Int.reduceFDiv, Nat.reduceLeDiff, decT, decF, ifT, ifF, eqT, eqF, neT, neF, bytesIV_length, one_length, get_cp, get_cp0, call10, h1, works, Out.All]
  · cases h2 : isC b
    · simp (config := { maxSteps := 4000000 }) (disch := omega) only [t5, go_sem, Nat.reduceAdd, Nat.reduceSub, Nat.reduceMul, Nat.reduceLT, Nat.reduceLeDiff, Nat.reduceEqDiff, Nat.reduceBEq, reduceIte, reduceCtorEq, List.replicate, List.cons_append, List.nil_append, Int.reduceEq, Int.reduceLT, Int.reduceLE, Int.reduceAdd, Int.reduceSub, Int.reduceMul, Int.reduceToNat, Int.reduceNeg, Int.reduceBEq, Int.reduceBNe, Int.reduceTDiv, Int.reduceTMod, Int.reducePow, Nat.reducePow, decide_true, decide_false, Nat.reduceDiv, Nat.reduceMod, Int.reduceMod, Int.reduceDiv, Int.reduceNe, Int.reduceFDiv, Nat.reduceLeDiff, decT, decF, ifT, ifF, eqT, eqF, neT, neF, bytesIV_length, one_length, get_cp, get_cp0, call10, h1, h2, works, Out.All]
    · have e1 := bytes_eq a h1
      have e2 := bytes_eq b h2
      have l1 := bytes_len h1
      have l2 := bytes_len h2
      simp (config := { maxSteps := 4000000 }) (disch := omega) only [t5, go_sem, Nat.reduceAdd, Nat.reduceSub, Nat.reduceMul, Nat.reduceLT, Nat.reduceLeDiff, Nat.reduceEqDiff, Nat.reduceBEq, reduceIte, reduceCtorEq, List.replicate, List.cons_append, List.nil_append, Int.reduceEq, Int.reduceLT, Int.reduceLE, Int.reduceAdd, Int.reduceSub, Int.reduceMul, Int.reduceToNat, Int.reduceNeg, Int.reduceBEq, Int.reduceBNe, Int.reduceTDiv, Int.reduceTMod, Int.reducePow, Nat.reducePow, decide_true, decide_false, Nat.reduceDiv, Nat.reduceMod, Int.reduceMod, Int.reduceDiv, Int.reduceNe, Int.reduceFDiv, Nat.reduceLeDiff, decT, decF, ifT, ifF, eqT, eqF, neT, neF, bytesIV_length, one_length, get_cp, get_cp0, call10, h1, h2, works, e1, e2, minmax, min2]
      have hk := apart_eq h1 h2
      have ho := apart_lt h1 h2
      by_cases hl : ((bytesR b).length : Int) < (bytesR a).length
      · have hm : min (bytesR a).length (bytesR b).length = (bytesR b).length := by omega
        rw [hm] at hk
        simp (config := { maxSteps := 4000000 }) (disch := omega) only [go_sem, Nat.reduceAdd, Nat.reduceSub, Nat.reduceMul, Nat.reduceLT, Nat.reduceLeDiff, Nat.reduceEqDiff, Nat.reduceBEq, reduceIte, reduceCtorEq, List.replicate, List.cons_append, List.nil_append, Int.reduceEq, Int.reduceLT, Int.reduceLE, Int.reduceAdd, Int.reduceSub, Int.reduceMul, Int.reduceToNat, Int.reduceNeg, Int.reduceBEq, Int.reduceBNe, Int.reduceTDiv, Int.reduceTMod, Int.reducePow, Nat.reducePow, decide_true, decide_false, Nat.reduceDiv, Nat.reduceMod, Int.reduceMod, Int.reduceDiv, Int.reduceNe, Int.reduceFDiv, Nat.reduceLeDiff, decT, decF, ifT, ifF, eqT, eqF, neT, neF, bytesIV_length, one_length, get_cp, get_cp0, slice_str_hi, Int.toNat_natCast, hk, beq_self_eq_true]
        rw [ho]
        simp (config := { maxSteps := 4000000 }) (disch := omega) only [beq_self_eq_true, go_sem, Nat.reduceAdd, Nat.reduceSub, Nat.reduceMul, Nat.reduceLT, Nat.reduceLeDiff, Nat.reduceEqDiff, Nat.reduceBEq, reduceIte, reduceCtorEq, List.replicate, List.cons_append, List.nil_append, Int.reduceEq, Int.reduceLT, Int.reduceLE, Int.reduceAdd, Int.reduceSub, Int.reduceMul, Int.reduceToNat, Int.reduceNeg, Int.reduceBEq, Int.reduceBNe, Int.reduceTDiv, Int.reduceTMod, Int.reducePow, Nat.reducePow, decide_true, decide_false, Nat.reduceDiv, Nat.reduceMod, Int.reduceMod, Int.reduceDiv, Int.reduceNe, Int.reduceFDiv, Nat.reduceLeDiff, decT, decF, ifT, ifF, eqT, eqF, neT, neF, bytesIV_length, one_length, get_cp, get_cp0, works, Out.All]
      · have hm : min (bytesR a).length (bytesR b).length = (bytesR a).length := by omega
        rw [hm] at hk
        simp (config := { maxSteps := 4000000 }) (disch := omega) only [go_sem, Nat.reduceAdd, Nat.reduceSub, Nat.reduceMul, Nat.reduceLT, Nat.reduceLeDiff, Nat.reduceEqDiff, Nat.reduceBEq, reduceIte, reduceCtorEq, List.replicate, List.cons_append, List.nil_append, Int.reduceEq, Int.reduceLT, Int.reduceLE, Int.reduceAdd, Int.reduceSub, Int.reduceMul, Int.reduceToNat, Int.reduceNeg, Int.reduceBEq, Int.reduceBNe, Int.reduceTDiv, Int.reduceTMod, Int.reducePow, Nat.reducePow, decide_true, decide_false, Nat.reduceDiv, Nat.reduceMod, Int.reduceMod, Int.reduceDiv, Int.reduceNe, Int.reduceFDiv, Nat.reduceLeDiff, decT, decF, ifT, ifF, eqT, eqF, neT, neF, bytesIV_length, one_length, get_cp, get_cp0, slice_str_hi, Int.toNat_natCast, hk, beq_self_eq_true]
        rw [ho]
        simp (config := { maxSteps := 4000000 }) (disch := omega) only [beq_self_eq_true, go_sem, Nat.reduceAdd, Nat.reduceSub, Nat.reduceMul, Nat.reduceLT, Nat.reduceLeDiff, Nat.reduceEqDiff, Nat.reduceBEq, reduceIte, reduceCtorEq, List.replicate, List.cons_append, List.nil_append, Int.reduceEq, Int.reduceLT, Int.reduceLE, Int.reduceAdd, Int.reduceSub, Int.reduceMul, Int.reduceToNat, Int.reduceNeg, Int.reduceBEq, Int.reduceBNe, Int.reduceTDiv, Int.reduceTMod, Int.reducePow, Nat.reducePow, decide_true, decide_false, Nat.reduceDiv, Nat.reduceMod, Int.reduceMod, Int.reduceDiv, Int.reduceNe, Int.reduceFDiv, Nat.reduceLeDiff, decT, decF, ifT, ifF, eqT, eqF, neT, neF, bytesIV_length, one_length, get_cp, get_cp0, works, Out.All]
end Go.Proofs.YtgjndmpfofhhmaaDoor
