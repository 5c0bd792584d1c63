/- The contracts of big: Add, Sub, Cmp, and the laws' own same, large, positive. Condition: none. -/
import Derived.Test.YtdbffhgfjmhaiaaDoorBigK2
set_option maxRecDepth 100000
set_option linter.unusedSimpArgs false
set_option linter.unusedVariables false
namespace Go.Proofs.YtdbffhgfjmhaiaaDoor
open Go Go.TM
theorem tr_len_le {B : Int} (hB : 1 < B) {l m : List Int} (hl : Dig B l) (hm : Dig B m) (h : val B m ≤ val B l) : (tr m).length ≤ (tr l).length := by
  rcases Nat.lt_or_ge (tr l).length (tr m).length with h1 | h1
  · have := tr_cmp_len hB hl hm h1
    omega
  · exact h1
theorem call26 (n1 n2 : Bool) (t1 t2 : Tag) (a b : List Int) (ht1 : TagOk t1 a) (ht2 : TagOk t2 b) (ha : Dig 65536 a) (hb : Dig 65536 b) (h1 : a.length ≤ 80000) (h2 : b.length ≤ 80000) (z : Int) (hz : z = sv n1 (val 65536 a) + sv n2 (val 65536 b)) :
    ∃ t', TagOk t' (dg 65536 z.natAbs) ∧ Pure K 26 [.iv (num n1 t1 a), .iv (num n2 t2 b)] (.iv (bg t' z)) := by
  have v1 := val_nonneg (by decide) ha
  have v2 := val_nonneg (by decide) hb
  by_cases hn : n1 = n2
  · subst hn
    obtain ⟨t3, out, i1, i2, i3, i4, h53⟩ := call53 t1 t2 a b ha hb (by omega) (by omega)
    obtain ⟨t', h3, h42⟩ := call42' n1 t3 out i1 i2 (by omega)
    have e : sv n1 (val 65536 out) = z := by rw [hz, i4]; cases n1 <;> simp [sv]; omega
    rw [e] at h42
    have h3' : TagOk t' (dg 65536 z.natAbs) := by rw [← e, abs_sv n1 (val_nonneg (by decide) i2)]; exact h3
    refine ⟨t', h3', call_pure t26 rfl rfl ?_⟩
    simp only [bg, num] at h42 ⊢
    have sn := fun t => scalar_num (decide (z < 0)) t (one d16 (dg 65536 z.natAbs))
    generalize decide (z < 0) = zb at *
    generalize dg 65536 z.natAbs = zl at *
    cases n1 <;> simp (config := { maxSteps := 4000000 }) (disch := omega) only [t26, go_sem, Nat.reduceAdd, Nat.reduceSub, Nat.reduceMul, Nat.reduceLT, Nat.reduceLeDiff, Nat.reduceEqDiff, Nat.reduceBEq, reduceIte, reduceCtorEq, List.replicate, List.cons_append, List.nil_append, Int.reduceEq, Int.reduceLT, Int.reduceLE, Int.reduceAdd, Int.reduceSub, Int.reduceMul, Int.reduceToNat, Int.reduceNeg, Int.reduceBEq, Int.reduceBNe, Int.reduceTDiv, Int.reduceTMod, Int.reducePow, Nat.reducePow, decide_true, decide_false, Nat.reduceDiv, Nat.reduceMod, Int.reduceMod, Int.reduceDiv, Int.reduceNe, Int.reduceFDiv, Nat.reduceLeDiff, beq_self_eq_true, decT, decF, ifT, ifF, eqT, eqF, neT, neF, bytesIV_length, one_length, get_cp, get_cp0, cpR_pure h53, cpR_pure h42, sn, freeze_iv, freeze_nil, Bool.not_false, Bool.not_true, resB_ret, resO_some]
  · have h54 := call54 t1 t2 a b ht1 ht2 ha hb (by omega) (by omega)
    obtain ⟨ta, hta, ea⟩ := call40 t1 a ht1 (by omega)
    obtain ⟨tb, htb, eb⟩ := call40 t2 b ht2 (by omega)
    have la := tr_len a
    have lb := tr_len b
    have ea' := val_tr 65536 a
    have eb' := val_tr 65536 b
    have hc := cmpI_neg (x := val 65536 a) (y := val 65536 b)
    by_cases hlt : val 65536 a < val 65536 b
    · obtain ⟨out, i1, i2, i3, h55⟩ := call55 tb ta (tr b) (tr a) hb.tr ha.tr (by omega) (tr_len_le (by decide) hb ha (by omega)) (by omega)
      obtain ⟨t', h3, h42⟩ := call42' n2 (sTag out) out (sTag_ok _) i1 (by omega)
      have e : sv n2 (val 65536 out) = z := by rw [hz, i3, ea', eb']; cases n1 <;> cases n2 <;> simp [sv] at hn ⊢ <;> omega
      rw [e] at h42
      have h3' : TagOk t' (dg 65536 z.natAbs) := by rw [← e, abs_sv n2 (val_nonneg (by decide) i1)]; exact h3
      refine ⟨t', h3', call_pure t26 rfl rfl ?_⟩
      have hneg : cmpI (val 65536 a) (val 65536 b) < 0 := hc.2 hlt
      simp only [bg, num] at h42 ⊢
      have sn := fun t => scalar_num (decide (z < 0)) t (one d16 (dg 65536 z.natAbs))
      generalize decide (z < 0) = zb at *
      generalize dg 65536 z.natAbs = zl at *
      generalize cmpI (val 65536 a) (val 65536 b) = r at *
      cases n1 <;> cases n2 <;> simp at hn <;> simp (config := { maxSteps := 4000000 }) (disch := omega) only [t26, go_sem, Nat.reduceAdd, Nat.reduceSub, Nat.reduceMul, Nat.reduceLT, Nat.reduceLeDiff, Nat.reduceEqDiff, Nat.reduceBEq, reduceIte, reduceCtorEq, List.replicate, List.cons_append, List.nil_append, Int.reduceEq, Int.reduceLT, Int.reduceLE, Int.reduceAdd, Int.reduceSub, Int.reduceMul, Int.reduceToNat, Int.reduceNeg, Int.reduceBEq, Int.reduceBNe, Int.reduceTDiv, Int.reduceTMod, Int.reducePow, Nat.reducePow, decide_true, decide_false, Nat.reduceDiv, Nat.reduceMod, Int.reduceMod, Int.reduceDiv, Int.reduceNe, Int.reduceFDiv, Nat.reduceLeDiff, beq_self_eq_true, decT, decF, ifT, ifF, eqT, eqF, neT, neF, bytesIV_length, one_length, get_cp, get_cp0, h54, ea, eb, cpR_pure h55, cpR_pure h42, sn, freeze_iv, freeze_nil, Bool.not_false, Bool.not_true, resB_ret, resO_some]
    · obtain ⟨out, i1, i2, i3, h55⟩ := call55 ta tb (tr a) (tr b) ha.tr hb.tr (by omega) (tr_len_le (by decide) ha hb (by omega)) (by omega)
      obtain ⟨t', h3, h42⟩ := call42' n1 (sTag out) out (sTag_ok _) i1 (by omega)
      have e : sv n1 (val 65536 out) = z := by rw [hz, i3, ea', eb']; cases n1 <;> cases n2 <;> simp [sv] at hn ⊢ <;> omega
      rw [e] at h42
      have h3' : TagOk t' (dg 65536 z.natAbs) := by rw [← e, abs_sv n1 (val_nonneg (by decide) i1)]; exact h3
      refine ⟨t', h3', call_pure t26 rfl rfl ?_⟩
      have hneg : ¬ cmpI (val 65536 a) (val 65536 b) < 0 := fun h => hlt (hc.1 h)
      simp only [bg, num] at h42 ⊢
      have sn := fun t => scalar_num (decide (z < 0)) t (one d16 (dg 65536 z.natAbs))
      generalize decide (z < 0) = zb at *
      generalize dg 65536 z.natAbs = zl at *
      generalize cmpI (val 65536 a) (val 65536 b) = r at *
      cases n1 <;> cases n2 <;> simp at hn <;> simp (config := { maxSteps := 4000000 }) (disch := omega) only [t26, go_sem, Nat.reduceAdd, Nat.reduceSub, Nat.reduceMul, Nat.reduceLT, Nat.reduceLeDiff, Nat.reduceEqDiff, Nat.reduceBEq, reduceIte, reduceCtorEq, List.replicate, List.cons_append, List.nil_append, Int.reduceEq, Int.reduceLT, Int.reduceLE, Int.reduceAdd, Int.reduceSub, Int.reduceMul, Int.reduceToNat, Int.reduceNeg, Int.reduceBEq, Int.reduceBNe, Int.reduceTDiv, Int.reduceTMod, Int.reducePow, Nat.reducePow, decide_true, decide_false, Nat.reduceDiv, Nat.reduceMod, Int.reduceMod, Int.reduceDiv, Int.reduceNe, Int.reduceFDiv, Nat.reduceLeDiff, beq_self_eq_true, decT, decF, ifT, ifF, eqT, eqF, neT, neF, bytesIV_length, one_length, get_cp, get_cp0, h54, ea, eb, cpR_pure h55, cpR_pure h42, sn, freeze_iv, freeze_nil, Bool.not_false, Bool.not_true, resB_ret, resO_some]
theorem call27 (n1 n2 : Bool) (t1 t2 : Tag) (a b : List Int) (ht1 : TagOk t1 a) (ht2 : TagOk t2 b) (ha : Dig 65536 a) (hb : Dig 65536 b) (h1 : a.length ≤ 80000) (h2 : b.length ≤ 80000) (z : Int) (hz : z = sv n1 (val 65536 a) - sv n2 (val 65536 b)) :
    ∃ t', TagOk t' (dg 65536 z.natAbs) ∧ Pure K 27 [.iv (num n1 t1 a), .iv (num n2 t2 b)] (.iv (bg t' z)) := by
  obtain ⟨t', h3, h26⟩ := call26 n1 (!n2) t1 t2 a b ht1 ht2 ha hb h1 h2 z (by rw [hz]; cases n2 <;> simp [sv] <;> omega)
  refine ⟨t', h3, call_pure t27 rfl rfl ?_⟩
  simp only [bg, num] at h26 ⊢
  have sn := fun t => scalar_num (decide (z < 0)) t (one d16 (dg 65536 z.natAbs))
  generalize decide (z < 0) = zb at *
  generalize dg 65536 z.natAbs = zl at *
  cases n2 <;> simp only [Bool.not_false, Bool.not_true] at h26 <;> simp (config := { maxSteps := 4000000 }) (disch := omega) only [t27, go_sem, Nat.reduceAdd, Nat.reduceSub, Nat.reduceMul, Nat.reduceLT, Nat.reduceLeDiff, Nat.reduceEqDiff, Nat.reduceBEq, reduceIte, reduceCtorEq, List.replicate, List.cons_append, List.nil_append, Int.reduceEq, Int.reduceLT, Int.reduceLE, Int.reduceAdd, Int.reduceSub, Int.reduceMul, Int.reduceToNat, Int.reduceNeg, Int.reduceBEq, Int.reduceBNe, Int.reduceTDiv, Int.reduceTMod, Int.reducePow, Nat.reducePow, decide_true, decide_false, Nat.reduceDiv, Nat.reduceMod, Int.reduceMod, Int.reduceDiv, Int.reduceNe, Int.reduceFDiv, Nat.reduceLeDiff, beq_self_eq_true, decT, decF, ifT, ifF, eqT, eqF, neT, neF, bytesIV_length, one_length, get_cp, get_cp0, cpR_pure h26, sn, freeze_iv, freeze_nil, Bool.not_false, Bool.not_true, resB_ret, resO_some]
theorem call29 (n1 n2 : Bool) (t1 t2 : Tag) (a b : List Int) (ht1 : TagOk t1 a) (ht2 : TagOk t2 b) (ha : Dig 65536 a) (hb : Dig 65536 b) (h1 : a.length ≤ 80000) (h2 : b.length ≤ 80000) (x y : Int) (hx : x = sv n1 (val 65536 a)) (hy : y = sv n2 (val 65536 b)) :
    Pure K 29 [.iv (num n1 t1 a), .iv (num n2 t2 b)] (.iv (.int .i64 (cmpI x y))) := by
  have v1 := val_nonneg (by decide) ha
  have v2 := val_nonneg (by decide) hb
  obtain ⟨ta, ja, ea⟩ := call18 n1 t1 a ht1 ha (by omega)
  obtain ⟨tb, jb, eb⟩ := call18 n2 t2 b ht2 hb (by omega)
  have ka : val 65536 a = x.natAbs := by rw [hx, abs_sv n1 v1]
  have kb : val 65536 b = y.natAbs := by rw [hy, abs_sv n2 v2]
  rw [← hx] at ea
  rw [← hy] at eb
  have la := dg_len (B := 65536) (by decide) a.length _ v1 (val_lt (by decide) ha)
  have lb := dg_len (B := 65536) (by decide) b.length _ v2 (val_lt (by decide) hb)
  have da := dg_dig (B := 65536) (by decide) v1
  have db := dg_dig (B := 65536) (by decide) v2
  have c1 := call54 ta tb _ _ ja jb da db (by omega) (by omega)
  have c2 := call54 tb ta _ _ jb ja db da (by omega) (by omega)
  rw [val_dg (by decide) v1, val_dg (by decide) v2] at c1 c2
  rw [ka, kb] at c1 c2
  refine call_pure t29 rfl rfl ?_
  simp only [bg, num] at ea eb ⊢
  have sn := fun t => scalar_num (decide (x < 0)) t (one d16 (dg 65536 x.natAbs))
  have sn2 := fun t => scalar_num (decide (y < 0)) t (one d16 (dg 65536 y.natAbs))
  generalize hxl : dg 65536 x.natAbs = xl at *
  generalize hyl : dg 65536 y.natAbs = yl at *
  by_cases g1 : x < 0
  · by_cases g2 : y < 0
    · have hr : cmpI x y = cmpI y.natAbs x.natAbs := by
        unfold cmpI
        split <;> split <;> (try split) <;> (try split) <;> omega
      rw [hr]
      simp only [g1, g2, decide_true] at ea eb sn sn2
      generalize cmpI y.natAbs x.natAbs = r at *
      simp (config := { maxSteps := 4000000 }) (disch := omega) only [t29, go_sem, Nat.reduceAdd, Nat.reduceSub, Nat.reduceMul, Nat.reduceLT, Nat.reduceLeDiff, Nat.reduceEqDiff, Nat.reduceBEq, reduceIte, reduceCtorEq, List.replicate, List.cons_append, List.nil_append, Int.reduceEq, Int.reduceLT, Int.reduceLE, Int.reduceAdd, Int.reduceSub, Int.reduceMul, Int.reduceToNat, Int.reduceNeg, Int.reduceBEq, Int.reduceBNe, Int.reduceTDiv, Int.reduceTMod, Int.reducePow, Nat.reducePow, decide_true, decide_false, Nat.reduceDiv, Nat.reduceMod, Int.reduceMod, Int.reduceDiv, Int.reduceNe, Int.reduceFDiv, Nat.reduceLeDiff, beq_self_eq_true, decT, decF, ifT, ifF, eqT, eqF, neT, neF, bytesIV_length, one_length, get_cp, get_cp0, cpR_pure ea, cpR_pure eb, c2, sn, sn2, freeze_iv, freeze_nil, Bool.not_false, Bool.not_true, resB_ret, resO_some]
    · rw [cmpI_lt (by omega)]
      simp only [g1, g2, decide_true, decide_false] at ea eb sn sn2
      simp (config := { maxSteps := 4000000 }) (disch := omega) only [t29, go_sem, Nat.reduceAdd, Nat.reduceSub, Nat.reduceMul, Nat.reduceLT, Nat.reduceLeDiff, Nat.reduceEqDiff, Nat.reduceBEq, reduceIte, reduceCtorEq, List.replicate, List.cons_append, List.nil_append, Int.reduceEq, Int.reduceLT, Int.reduceLE, Int.reduceAdd, Int.reduceSub, Int.reduceMul, Int.reduceToNat, Int.reduceNeg, Int.reduceBEq, Int.reduceBNe, Int.reduceTDiv, Int.reduceTMod, Int.reducePow, Nat.reducePow, decide_true, decide_false, Nat.reduceDiv, Nat.reduceMod, Int.reduceMod, Int.reduceDiv, Int.reduceNe, Int.reduceFDiv, Nat.reduceLeDiff, beq_self_eq_true, decT, decF, ifT, ifF, eqT, eqF, neT, neF, bytesIV_length, one_length, get_cp, get_cp0, cpR_pure ea, cpR_pure eb, c2, sn, sn2, freeze_iv, freeze_nil, Bool.not_false, Bool.not_true, resB_ret, resO_some]
  · by_cases g2 : y < 0
    · rw [cmpI_gt (by omega)]
      simp only [g1, g2, decide_true, decide_false] at ea eb sn sn2
      simp (config := { maxSteps := 4000000 }) (disch := omega) only [t29, go_sem, Nat.reduceAdd, Nat.reduceSub, Nat.reduceMul, Nat.reduceLT, Nat.reduceLeDiff, Nat.reduceEqDiff, Nat.reduceBEq, reduceIte, reduceCtorEq, List.replicate, List.cons_append, List.nil_append, Int.reduceEq, Int.reduceLT, Int.reduceLE, Int.reduceAdd, Int.reduceSub, Int.reduceMul, Int.reduceToNat, Int.reduceNeg, Int.reduceBEq, Int.reduceBNe, Int.reduceTDiv, Int.reduceTMod, Int.reducePow, Nat.reducePow, decide_true, decide_false, Nat.reduceDiv, Nat.reduceMod, Int.reduceMod, Int.reduceDiv, Int.reduceNe, Int.reduceFDiv, Nat.reduceLeDiff, beq_self_eq_true, decT, decF, ifT, ifF, eqT, eqF, neT, neF, bytesIV_length, one_length, get_cp, get_cp0, cpR_pure ea, cpR_pure eb, c2, sn, sn2, freeze_iv, freeze_nil, Bool.not_false, Bool.not_true, resB_ret, resO_some]
    · have hr : cmpI x y = cmpI x.natAbs y.natAbs := by
        rw [show (x.natAbs : Int) = x by omega, show (y.natAbs : Int) = y by omega]
      rw [hr]
      simp only [g1, g2, decide_false] at ea eb sn sn2
      generalize cmpI x.natAbs y.natAbs = r at *
      simp (config := { maxSteps := 4000000 }) (disch := omega) only [t29, go_sem, Nat.reduceAdd, Nat.reduceSub, Nat.reduceMul, Nat.reduceLT, Nat.reduceLeDiff, Nat.reduceEqDiff, Nat.reduceBEq, reduceIte, reduceCtorEq, List.replicate, List.cons_append, List.nil_append, Int.reduceEq, Int.reduceLT, Int.reduceLE, Int.reduceAdd, Int.reduceSub, Int.reduceMul, Int.reduceToNat, Int.reduceNeg, Int.reduceBEq, Int.reduceBNe, Int.reduceTDiv, Int.reduceTMod, Int.reducePow, Nat.reducePow, decide_true, decide_false, Nat.reduceDiv, Nat.reduceMod, Int.reduceMod, Int.reduceDiv, Int.reduceNe, Int.reduceFDiv, Nat.reduceLeDiff, beq_self_eq_true, decT, decF, ifT, ifF, eqT, eqF, neT, neF, bytesIV_length, one_length, get_cp, get_cp0, cpR_pure ea, cpR_pure eb, c1, sn, sn2, freeze_iv, freeze_nil, Bool.not_false, Bool.not_true, resB_ret, resO_some]
end Go.Proofs.YtdbffhgfjmhaiaaDoor
