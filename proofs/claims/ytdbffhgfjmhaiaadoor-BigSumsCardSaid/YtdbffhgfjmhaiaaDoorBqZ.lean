/- The document's Sub, Mul, Cmp; of. Condition: none. -/
import Derived.Test.YtdbffhgfjmhaiaaDoorBqY
set_option maxRecDepth 100000
set_option maxHeartbeats 2000000
set_option linter.unusedSimpArgs false
set_option linter.unusedVariables false
namespace Go.Proofs.YtdbffhgfjmhaiaaDoor
open Go Go.TM
theorem refSub (t1 t2 : Tag) (x y : Int) (k1 : TagOk t1 (dg 10 x.natAbs)) (k2 : TagOk t2 (dg 10 y.natAbs)) (l1 : (dg 10 x.natAbs).length ≤ 90000) (l2 : (dg 10 y.natAbs).length ≤ 90000) :
    ∃ t', TagOk t' (dg 10 (x - y).natAbs) ∧ Pure K 32 [.iv (dd t1 x), .iv (dd t2 y)] (.iv (dd t' (x - y))) := by
  obtain ⟨t3, g1, h59⟩ := refNeg t2 y k2 (by omega)
  obtain ⟨t', g2, h31⟩ := refAdd t1 t3 x (-y) k1 g1 l1 (by rw [Int.natAbs_neg]; exact l2)
  have e : x + -y = x - y := by omega
  rw [e] at g2 h31
  refine ⟨t', g2, call_pure t32 rfl rfl ?_⟩
  simp only [dd_eq] at h59 h31 ⊢
  have sn := fun t => scalar_num (decide (x - y < 0)) t (one i64 (dg 10 (x - y).natAbs))
  have sn2 := fun t => scalar_num (decide (-y < 0)) t (one i64 (dg 10 (-y).natAbs))
  generalize decide (x - y < 0) = zb at *
  generalize dg 10 (x - y).natAbs = zl at *
  generalize decide (-y < 0) = nb at *
  generalize decide (x < 0) = nc at *
  generalize decide (y < 0) = nd at *
  simp (config := { maxSteps := 4000000 }) (disch := omega) only [t32, go_sem, Nat.reduceAdd, Nat.reduceSub, Nat.reduceMul, Nat.reduceLT, Nat.reduceLeDiff, Nat.reduceEqDiff, Nat.reduceBEq, reduceIte, reduceCtorEq, List.replicate, List.cons_append, List.nil_append, Int.reduceEq, Int.reduceLT, Int.reduceLE, Int.reduceAdd, Int.reduceSub, Int.reduceMul, Int.reduceToNat, Int.reduceNeg, Int.reduceBEq, Int.reduceBNe, Int.reduceTDiv, Int.reduceTMod, Int.reducePow, Nat.reducePow, decide_true, decide_false, Nat.reduceDiv, Nat.reduceMod, Int.reduceMod, Int.reduceDiv, Int.reduceNe, Int.reduceFDiv, Nat.reduceLeDiff, beq_self_eq_true, decT, decF, ifT, ifF, eqT, eqF, neT, neF, bytesIV_length, one_length, get_cp, get_cp0, cpR_pure h59, cpR_pure h31, sn, sn2, resB_ret, resO_some]
theorem refCmp (t1 t2 : Tag) (x y : Int) (l1 : (dg 10 x.natAbs).length ≤ 90000) (l2 : (dg 10 y.natAbs).length ≤ 90000) :
    (lim K).call 30 [.iv (dd t1 x), .iv (dd t2 y)] [] = .ret (.iv (.int .i64 (cmpI x y)), []) := by
  have c1 := call56 t1 t2 _ _ (dig10 x) (dig10 y) (tr10 x) (tr10 y) (by omega) (by omega)
  have c2 := call56 t2 t1 _ _ (dig10 y) (dig10 x) (tr10 y) (tr10 x) (by omega) (by omega)
  rw [val10, val10] at c1 c2
  refine call_ret' K [] (fn := t30) rfl rfl ?_
  simp only [dd_eq]
  by_cases g1 : x < 0
  · by_cases g2 : y < 0
    · have hr : cmpI x y = cmpI y.natAbs x.natAbs := by
        unfold cmpI
        split <;> split <;> (try split) <;> (try split) <;> omega
      rw [hr]
      rw [decide_eq_true g1, decide_eq_true g2]
      generalize cmpI y.natAbs x.natAbs = r at *
      simp (config := { maxSteps := 4000000 }) (disch := omega) only [t30, go_sem, Nat.reduceAdd, Nat.reduceSub, Nat.reduceMul, Nat.reduceLT, Nat.reduceLeDiff, Nat.reduceEqDiff, Nat.reduceBEq, reduceIte, reduceCtorEq, List.replicate, List.cons_append, List.nil_append, Int.reduceEq, Int.reduceLT, Int.reduceLE, Int.reduceAdd, Int.reduceSub, Int.reduceMul, Int.reduceToNat, Int.reduceNeg, Int.reduceBEq, Int.reduceBNe, Int.reduceTDiv, Int.reduceTMod, Int.reducePow, Nat.reducePow, decide_true, decide_false, Nat.reduceDiv, Nat.reduceMod, Int.reduceMod, Int.reduceDiv, Int.reduceNe, Int.reduceFDiv, Nat.reduceLeDiff, beq_self_eq_true, decT, decF, ifT, ifF, eqT, eqF, neT, neF, bytesIV_length, one_length, get_cp, get_cp0, c2, Bool.not_false, Bool.not_true]
    · rw [cmpI_lt (by omega)]
      rw [decide_eq_true g1, decide_eq_false g2]
      simp (config := { maxSteps := 4000000 }) (disch := omega) only [t30, go_sem, Nat.reduceAdd, Nat.reduceSub, Nat.reduceMul, Nat.reduceLT, Nat.reduceLeDiff, Nat.reduceEqDiff, Nat.reduceBEq, reduceIte, reduceCtorEq, List.replicate, List.cons_append, List.nil_append, Int.reduceEq, Int.reduceLT, Int.reduceLE, Int.reduceAdd, Int.reduceSub, Int.reduceMul, Int.reduceToNat, Int.reduceNeg, Int.reduceBEq, Int.reduceBNe, Int.reduceTDiv, Int.reduceTMod, Int.reducePow, Nat.reducePow, decide_true, decide_false, Nat.reduceDiv, Nat.reduceMod, Int.reduceMod, Int.reduceDiv, Int.reduceNe, Int.reduceFDiv, Nat.reduceLeDiff, beq_self_eq_true, decT, decF, ifT, ifF, eqT, eqF, neT, neF, bytesIV_length, one_length, get_cp, get_cp0, c2, Bool.not_false, Bool.not_true]
  · by_cases g2 : y < 0
    · rw [cmpI_gt (by omega)]
      rw [decide_eq_false g1, decide_eq_true g2]
      simp (config := { maxSteps := 4000000 }) (disch := omega) only [t30, go_sem, Nat.reduceAdd, Nat.reduceSub, Nat.reduceMul, Nat.reduceLT, Nat.reduceLeDiff, Nat.reduceEqDiff, Nat.reduceBEq, reduceIte, reduceCtorEq, List.replicate, List.cons_append, List.nil_append, Int.reduceEq, Int.reduceLT, Int.reduceLE, Int.reduceAdd, Int.reduceSub, Int.reduceMul, Int.reduceToNat, Int.reduceNeg, Int.reduceBEq, Int.reduceBNe, Int.reduceTDiv, Int.reduceTMod, Int.reducePow, Nat.reducePow, decide_true, decide_false, Nat.reduceDiv, Nat.reduceMod, Int.reduceMod, Int.reduceDiv, Int.reduceNe, Int.reduceFDiv, Nat.reduceLeDiff, beq_self_eq_true, decT, decF, ifT, ifF, eqT, eqF, neT, neF, bytesIV_length, one_length, get_cp, get_cp0, c2, Bool.not_false, Bool.not_true]
    · have hr : cmpI x y = cmpI x.natAbs y.natAbs := by
        rw [show (x.natAbs : Int) = x by omega, show (y.natAbs : Int) = y by omega]
      rw [hr]
      rw [decide_eq_false g1, decide_eq_false g2]
      generalize cmpI x.natAbs y.natAbs = r at *
      simp (config := { maxSteps := 4000000 }) (disch := omega) only [t30, go_sem, Nat.reduceAdd, Nat.reduceSub, Nat.reduceMul, Nat.reduceLT, Nat.reduceLeDiff, Nat.reduceEqDiff, Nat.reduceBEq, reduceIte, reduceCtorEq, List.replicate, List.cons_append, List.nil_append, Int.reduceEq, Int.reduceLT, Int.reduceLE, Int.reduceAdd, Int.reduceSub, Int.reduceMul, Int.reduceToNat, Int.reduceNeg, Int.reduceBEq, Int.reduceBNe, Int.reduceTDiv, Int.reduceTMod, Int.reducePow, Nat.reducePow, decide_true, decide_false, Nat.reduceDiv, Nat.reduceMod, Int.reduceMod, Int.reduceDiv, Int.reduceNe, Int.reduceFDiv, Nat.reduceLeDiff, beq_self_eq_true, decT, decF, ifT, ifF, eqT, eqF, neT, neF, bytesIV_length, one_length, get_cp, get_cp0, c1, Bool.not_false, Bool.not_true]
theorem tms_len2 {y : Int} {l : List Int} {m : Int} (hd : Dig 10 l) (hy : 0 ≤ y ∧ y ≤ 10) (hm : 0 ≤ m ∧ m ≤ 10) : (tms y l m).length ≤ l.length + 2 := by
  obtain ⟨i1, i2, i3, i4⟩ := sc_spec (B := 10) (y := y) (by decide) hy.1 l m hd hm.1
  have h := sc_carry (B := 10) (y := y) (c := 10) (by decide) hy l m hd hm
  have := dg_len (B := 10) (by decide) 2 (sc 10 y l m).2 i2 (Int.lt_of_le_of_lt h (by decide))
  simp only [tms, List.length_append, i3]
  omega
theorem loop33 (n1 n2 : Bool) (t1 t2 : Tag) (a b : List Int) (ha : Dig 10 a) (hb : Dig 10 b) (h1 : a.length ≤ 400) (h2 : b.length ≤ 400) (x0 x1 x4 : TV) (S : Store) : ∀ (k : Nat) (tg : Tag) (D : List Int) (x7 : TV), k ≤ b.length → TagOk tg D → Dig 10 D → val 10 D = val 10 a * val 10 (b.drop k) → D.length ≤ 500 * (b.length - k) →
    ∃ tg' D' y7, TagOk tg' D' ∧ Dig 10 D' ∧ val 10 D' = val 10 a * val 10 b ∧ D'.length ≤ 500 * b.length ∧
    lp' (lim K) t33L0 [x0, x1, .lb [.iv (.bool n1), .iv (.sl t1 (one i64 a))], .lb [.iv (.bool n2), .iv (.sl t2 (one i64 b))], x4, .iv (.sl tg (one i64 D)), .iv (.int .i64 ((k : Int) - 1)), x7] S = .ret (.exit 0, [x0, x1, .lb [.iv (.bool n1), .iv (.sl t1 (one i64 a))], .lb [.iv (.bool n2), .iv (.sl t2 (one i64 b))], x4, .iv (.sl tg' (one i64 D')), .iv (.int .i64 (-1)), y7], S)
  | 0, tg, D, x7, hk, ht, hD, hv, hl => by
    rw [List.drop_zero] at hv
    refine ⟨tg, D, ?_, ht, hD, hv, by omega, loop_at K _ _ t33L0.eq_1 ?_⟩
    rotate_left
    · simp (disch := omega) only [go_sem, Nat.reduceAdd, Nat.reduceSub, Nat.reduceMul, Nat.reduceLT, Nat.reduceLeDiff, Nat.reduceEqDiff, Nat.reduceBEq, reduceIte, reduceCtorEq, List.replicate, List.cons_append, List.nil_append, Int.reduceEq, Int.reduceLT, Int.reduceLE, Int.reduceAdd, Int.reduceSub, Int.reduceMul, Int.reduceToNat, Int.reduceNeg, Int.reduceBEq, Int.reduceBNe, Int.reduceTDiv, Int.reduceTMod, Int.reducePow, Nat.reducePow, decide_true, decide_false, Nat.reduceDiv, Nat.reduceMod, Int.reduceMod, Int.reduceDiv, Int.reduceNe, Int.reduceFDiv, Nat.reduceLeDiff, beq_self_eq_true, decT, decF, ifT, ifF, eqT, eqF, neT, neF, bytesIV_length, one_length, get_cp, get_cp0]
      rfl
  | k + 1, tg, D, x7, hk, ht, hD, hv, hl => by
    have hlt : k < b.length := by omega
    have hix := ix_one i64 (t := t2) (l := b) (i := (k : Int)) (by omega)
    rw [Int.toNat_natCast] at hix
    have hg := hb.getD hlt
    have hdr := drop_getD hlt
    have hDl : D.length ≤ 250000 := by omega
    have c1 := call60 tg D hD (by omega) 10 (by omega) 0 (by omega)
    obtain ⟨s1, s2⟩ := tms_spec (y := 10) (m := 0) hD (by omega) (by omega)
    have s3 := tms_len2 (y := 10) (m := 0) hD (by omega) (by omega)
    have c2 := call60 t1 a ha (by omega) (b.getD k default) (by omega) 0 (by omega)
    obtain ⟨u1, u2⟩ := tms_spec (y := b.getD k default) (m := 0) ha (by omega) (by omega)
    have u3 := tms_len2 (y := b.getD k default) (m := 0) ha (by omega) (by omega)
    obtain ⟨t3, o, o1, o2, o3, o4, c3⟩ := call57 (sTag (tms 10 D 0)) (sTag (tms (b.getD k default) a 0)) _ _ s1 u1 (by omega) (by omega)
    obtain ⟨tg', D', y7, r1, r2, r3, r4, ih⟩ := loop33 n1 n2 t1 t2 a b ha hb h1 h2 x0 x1 x4 S k t3 o (.iv (.bool true)) (by omega) o1 o2 (by
      rw [o4, s2, u2, hdr, hv]
      simp only [val]
      rw [Int.mul_add, Int.mul_left_comm, Int.mul_comm (b.getD k default)]
      omega) (by omega)
    refine ⟨tg', D', y7, r1, r2, r3, r4, loop_at K _ _ t33L0.eq_1 ?_⟩
    have e1 : ((k + 1 : Nat) : Int) - 1 = k := by omega
    simp only [i64] at hix
    generalize b.getD k default = q at *
    generalize tms 10 D 0 = A1 at *
    generalize tms q a 0 = A2 at *
    rw [e1]
    simp (config := { maxSteps := 4000000 }) (disch := omega) only [go_sem, Nat.reduceAdd, Nat.reduceSub, Nat.reduceMul, Nat.reduceLT, Nat.reduceLeDiff, Nat.reduceEqDiff, Nat.reduceBEq, reduceIte, reduceCtorEq, List.replicate, List.cons_append, List.nil_append, Int.reduceEq, Int.reduceLT, Int.reduceLE, Int.reduceAdd, Int.reduceSub, Int.reduceMul, Int.reduceToNat, Int.reduceNeg, Int.reduceBEq, Int.reduceBNe, Int.reduceTDiv, Int.reduceTMod, Int.reducePow, Nat.reducePow, decide_true, decide_false, Nat.reduceDiv, Nat.reduceMod, Int.reduceMod, Int.reduceDiv, Int.reduceNe, Int.reduceFDiv, Nat.reduceLeDiff, beq_self_eq_true, decT, decF, ifT, ifF, eqT, eqF, neT, neF, bytesIV_length, one_length, get_cp, get_cp0, hix, wrap_i64, cpR_pure c1, cpR_pure c2, cpR_pure c3]
    exact congrArg er ih
theorem refMul (t1 t2 : Tag) (x y : Int) (k1 : TagOk t1 (dg 10 x.natAbs)) (k2 : TagOk t2 (dg 10 y.natAbs)) (l1 : (dg 10 x.natAbs).length ≤ 400) (l2 : (dg 10 y.natAbs).length ≤ 400) :
    ∃ t', TagOk t' (dg 10 (x * y).natAbs) ∧ Pure K 33 [.iv (dd t1 x), .iv (dd t2 y)] (.iv (dd t' (x * y))) := by
  obtain ⟨tg, D, y7, r1, r2, r3, r4, e⟩ := loop33 (decide (x < 0)) (decide (y < 0)) t1 t2 _ _ (dig10 x) (dig10 y) l1 l2 (.iv (dd t1 x)) (.iv (dd t2 y)) (.lb [.iv (.bool false), .iv (.sl .nil [])]) [] (dg 10 y.natAbs).length .nil [] (.tup []) (Nat.le_refl _) TagOk.nil Dig.nil (by rw [List.drop_length]; simp [val]) (by simp)
  rw [val10, val10] at r3
  obtain ⟨t', h1, h43⟩ := made_dd (!(decide (x < 0) == decide (y < 0))) tg D r1 r2 (by omega) (x * y) (by
    rw [r3]
    have hx : x = x.natAbs ∨ x = -x.natAbs := by omega
    by_cases g1 : x < 0 <;> by_cases g2 : y < 0
    · have e1 : (x.natAbs : Int) = -x := by omega
      have e2 : (y.natAbs : Int) = -y := by omega
      simp [g1, g2, sv]; rw [e1, e2, Int.neg_mul_neg]
    · have e1 : (x.natAbs : Int) = -x := by omega
      have e2 : (y.natAbs : Int) = y := by omega
      simp [g1, g2, sv]; rw [e1, e2, Int.neg_mul, Int.neg_neg]
    · have e1 : (x.natAbs : Int) = x := by omega
      have e2 : (y.natAbs : Int) = -y := by omega
      simp [g1, g2, sv]; rw [e1, e2, Int.mul_neg, Int.neg_neg]
    · have e1 : (x.natAbs : Int) = x := by omega
      have e2 : (y.natAbs : Int) = y := by omega
      simp [g1, g2, sv]; rw [e1, e2])
  refine ⟨t', h1, call_pure t33 rfl rfl ?_⟩
  simp only [dd_eq] at h43 e ⊢
  have e0 : one i64 [] = [] := rfl
  rw [e0] at e
  have sn := fun t => scalar_num (decide (x * y < 0)) t (one i64 (dg 10 (x * y).natAbs))
  generalize decide (x * y < 0) = zb at *
  generalize dg 10 (x * y).natAbs = zl at *
  generalize decide (x < 0) = nb at *
  generalize decide (y < 0) = nc at *
  simp (config := { maxSteps := 4000000 }) (disch := omega) only [t33, go_sem, Nat.reduceAdd, Nat.reduceSub, Nat.reduceMul, Nat.reduceLT, Nat.reduceLeDiff, Nat.reduceEqDiff, Nat.reduceBEq, reduceIte, reduceCtorEq, List.replicate, List.cons_append, List.nil_append, Int.reduceEq, Int.reduceLT, Int.reduceLE, Int.reduceAdd, Int.reduceSub, Int.reduceMul, Int.reduceToNat, Int.reduceNeg, Int.reduceBEq, Int.reduceBNe, Int.reduceTDiv, Int.reduceTMod, Int.reducePow, Nat.reducePow, decide_true, decide_false, Nat.reduceDiv, Nat.reduceMod, Int.reduceMod, Int.reduceDiv, Int.reduceNe, Int.reduceFDiv, Nat.reduceLeDiff, beq_self_eq_true, decT, decF, ifT, ifF, eqT, eqF, neT, neF, bytesIV_length, one_length, get_cp, get_cp0, wrap_i64, e, cpR_pure h43, sn, resB_ret, resO_some]
theorem of_dd (neg : Bool) (t : Tag) (l : List Int) (hd : Dig 65536 l) (hl : l.length ≤ 1000) (z : Int) (hz : z = sv neg (val 65536 l)) : ∃ t', TagOk t' (dg 10 z.natAbs) ∧ Pure K 19 [.iv (num neg t l)] (.iv (dd t' z)) := by
  have hv := val_nonneg (by decide) hd
  obtain ⟨t', h1, h2⟩ := call19 neg t l hd hl
  rw [dnum_dd hv, ← hz] at h2
  refine ⟨t', ?_, h2⟩
  rw [hz, abs_sv _ hv]; exact h1
theorem alike_dd {n : Bool} {t tg : Tag} {z : Int} (k1 : TagOk tg (dg 10 z.natAbs)) (l1 : (dg 10 z.natAbs).length ≤ 90000) (l2 : (dg 65536 z.natAbs).length ≤ 90000) : Pure K 14 [.iv (num (decide (z < 0)) t (dg 65536 z.natAbs)), .iv (dd tg z)] (.iv (.bool true)) := by
  have h := call14 (decide (z < 0)) (decide (z < 0)) t tg (dg 65536 z.natAbs) z.natAbs (by omega) (by omega) k1 (by omega)
  rw [decide_eq_true (show decide (z < 0) = decide (z < 0) ∧ dg 65536 z.natAbs = dg 65536 z.natAbs from ⟨rfl, rfl⟩)] at h
  exact h
end Go.Proofs.YtdbffhgfjmhaiaaDoor
