/- BigRing: the law. Condition: none. -/
import Derived.Test.YtdbffhgfjmhaiaaDoorBigN
import Derived.Test.YtdbffhgfjmhaiaaDoorBigW
set_option maxRecDepth 100000
set_option maxHeartbeats 4000000
set_option linter.unusedSimpArgs false
set_option linter.unusedVariables false
namespace Go.Proofs.YtdbffhgfjmhaiaaDoor
open Go Go.TM
theorem Nm.len {n : Bool} {t : Tag} {L : List (List IV)} {z : Int} {k j : Nat} (h : Nm n t L z k) (hj : L.length ≤ j) : Nm n t L z j := by
  obtain ⟨l, rfl, a1, a2, a3, a4⟩ := h
  rw [one_length] at hj
  exact ⟨l, rfl, a1, a2, hj, a4⟩
theorem law7 (n1 n2 n3 : Bool) (t1 t2 t3 : Tag) (L1 L2 L3 : List (List IV)) (x y z : Int) (h1 : Nm n1 t1 L1 x 9223372036854775807) (h2 : Nm n2 t2 L2 y 9223372036854775807) (h3 : Nm n3 t3 L3 z 9223372036854775807) : ((lim K).call 7 [.iv (.agg [.bool n1, .sl t1 L1]), .iv (.agg [.bool n2, .sl t2 L2]), .iv (.agg [.bool n3, .sl t3 L3])] []).All fun r => r.1 = .iv (.bool true) := by
  have h15 := fun t => large_nm t [(n1, t1, L1), (n2, t2, L2), (n3, t3, L3)] (by simp) (by
    intro a ha
    simp only [List.mem_cons, List.not_mem_nil, or_false] at ha
    rcases ha with rfl | rfl | rfl
    · exact ⟨x, h1⟩
    · exact ⟨y, h2⟩
    · exact ⟨z, h3⟩)
  simp only [List.map, List.any_cons, List.any_nil, Bool.or_false] at h15
  refine call_all' K [] (fn := t7) rfl rfl ?_
  cases hb : (decide (60 < L1.length) || (decide (60 < L2.length) || decide (60 < L3.length)))
  · rw [hb] at h15
    simp only [Bool.or_eq_false_iff, decide_eq_false_iff_not] at hb
    have k1 := h1.len (j := 60) (by omega)
    have k2 := h2.len (j := 60) (by omega)
    have k3 := h3.len (j := 60) (by omega)
    obtain ⟨ns, ts, Ls, s1, s2⟩ := add_nm k1 k2 (by omega) (by omega)
    obtain ⟨nS, tS, LS, S1, S2⟩ := add_nm k2 k1 (by omega) (by omega)
    have p1 := same_cn s1 S1 (by omega)
    rw [decide_eq_true (Int.add_comm x y)] at p1
    obtain ⟨nu, tu, Lu, u1, u2⟩ := add_nm s1.1 k3 (by omega) (by omega)
    obtain ⟨nv, tv, Lv, v1, v2⟩ := add_nm k2 k3 (by omega) (by omega)
    obtain ⟨nw, tw, Lw, w1, w2⟩ := add_nm k1 v1.1 (by omega) (by omega)
    have p2 := same_cn u1 w1 (by omega)
    rw [decide_eq_true (Int.add_assoc x y z)] at p2
    obtain ⟨nr, tr, Lr, r1, r2⟩ := sub_nm s1.1 k2 (by omega) (by omega)
    obtain ⟨nq, tq, Lq, q1, q2⟩ := tidy_nm k1 (by omega)
    have p3 := same_cn r1 q1 (by omega)
    rw [decide_eq_true (show x + y - y = x by omega)] at p3
    obtain ⟨no, to, Lo, o1, o2⟩ := mul_nm k1 k2 (by omega) (by omega)
    obtain ⟨nO, tO, LO, O1, O2⟩ := mul_nm k2 k1 (by omega) (by omega)
    have p4 := same_cn o1 O1 (by omega)
    rw [decide_eq_true (Int.mul_comm x y)] at p4
    obtain ⟨nA, tA, LA, A1, A2⟩ := mul_nm o1.1 k3 (by omega) (by omega)
    obtain ⟨nB, tB, LB, B1, B2⟩ := mul_nm k2 k3 (by omega) (by omega)
    obtain ⟨nC, tC, LC, C1, C2⟩ := mul_nm k1 B1.1 (by omega) (by omega)
    have p5 := same_cn A1 C1 (by omega)
    rw [decide_eq_true (Int.mul_assoc x y z)] at p5
    obtain ⟨nD, tD, LD, D1, D2⟩ := mul_nm s1.1 k3 (by omega) (by omega)
    obtain ⟨nE, tE, LE, E1, E2⟩ := mul_nm k1 k3 (by omega) (by omega)
    obtain ⟨nF, tF, LF, F1, F2⟩ := add_nm E1.1 B1.1 (by omega) (by omega)
    have p6 := same_cn D1 F1 (by omega)
    rw [decide_eq_true (Int.add_mul x y z)] at p6
    obtain ⟨nd, td, Ld, d1, d2⟩ := sub_nm k1 k2 (by omega) (by omega)
    obtain ⟨e1, e2, e3⟩ := len_cn d1
    have c1 := cmp_nm k1 k2 (by omega) (by omega)
    have c2 := cmp_nm k2 k1 (by omega) (by omega)
    have sn := scalar_num
    simp (config := { maxSteps := 8000000 }) (disch := omega) only [t7, go_sem, Nat.reduceAdd, Nat.reduceSub, Nat.reduceMul, Nat.reduceLT, Nat.reduceLeDiff, Nat.reduceEqDiff, Nat.reduceBEq, reduceIte, reduceCtorEq, List.replicate, List.cons_append, List.nil_append, Int.reduceEq, Int.reduceLT, Int.reduceLE, Int.reduceAdd, Int.reduceSub, Int.reduceMul, Int.reduceToNat, Int.reduceNeg, Int.reduceBEq, Int.reduceBNe, Int.reduceTDiv, Int.reduceTMod, Int.reducePow, Nat.reducePow, decide_true, decide_false, Nat.reduceDiv, Nat.reduceMod, Int.reduceMod, Int.reduceDiv, Int.reduceNe, Int.reduceFDiv, Nat.reduceLeDiff, beq_self_eq_true, decT, decF, ifT, ifF, eqT, eqF, neT, neF, bytesIV_length, one_length, get_cp, get_cp0, h15, scalar_num, Bool.not_false, Bool.not_true, freeze_iv, freeze_nil, cpR_pure s2, cpR_pure S2, p1, cpR_pure u2, cpR_pure v2, cpR_pure w2, p2, cpR_pure r2, cpR_pure q2, p3, cpR_pure o2, cpR_pure O2, p4, cpR_pure A2, cpR_pure B2, cpR_pure C2, p5, cpR_pure D2, cpR_pure E2, cpR_pure F2, p6, cpR_pure d2]
    rcases Int.lt_trichotomy x y with g | g | g
    · rw [cmpI_lt g] at c1
      rw [cmpI_gt g] at c2
      rw [decide_eq_true (show x - y < 0 by omega)] at e3
      have e4 : 0 < (Ld.length : Int) := by
        have : Ld.length ≠ 0 := fun h => by have := e2.1 h; omega
        omega
      subst e3
      simp (config := { maxSteps := 8000000 }) (disch := omega) only [go_sem, Nat.reduceAdd, Nat.reduceSub, Nat.reduceMul, Nat.reduceLT, Nat.reduceLeDiff, Nat.reduceEqDiff, Nat.reduceBEq, reduceIte, reduceCtorEq, List.replicate, List.cons_append, List.nil_append, Int.reduceEq, Int.reduceLT, Int.reduceLE, Int.reduceAdd, Int.reduceSub, Int.reduceMul, Int.reduceToNat, Int.reduceNeg, Int.reduceBEq, Int.reduceBNe, Int.reduceTDiv, Int.reduceTMod, Int.reducePow, Nat.reducePow, decide_true, decide_false, Nat.reduceDiv, Nat.reduceMod, Int.reduceMod, Int.reduceDiv, Int.reduceNe, Int.reduceFDiv, Nat.reduceLeDiff, beq_self_eq_true, decT, decF, ifT, ifF, eqT, eqF, neT, neF, bytesIV_length, one_length, get_cp, get_cp0, scalar_num, Bool.not_false, Bool.not_true, freeze_iv, freeze_nil, wrap_i64, cpR_pure c1, cpR_pure c2]
      refine all_works works ?_
      simp (config := { maxSteps := 4000000 }) (disch := omega) only [go_sem, Nat.reduceAdd, Nat.reduceSub, Nat.reduceMul, Nat.reduceLT, Nat.reduceLeDiff, Nat.reduceEqDiff, Nat.reduceBEq, reduceIte, reduceCtorEq, List.replicate, List.cons_append, List.nil_append, Int.reduceEq, Int.reduceLT, Int.reduceLE, Int.reduceAdd, Int.reduceSub, Int.reduceMul, Int.reduceToNat, Int.reduceNeg, Int.reduceBEq, Int.reduceBNe, Int.reduceTDiv, Int.reduceTMod, Int.reducePow, Nat.reducePow, decide_true, decide_false, Nat.reduceDiv, Nat.reduceMod, Int.reduceMod, Int.reduceDiv, Int.reduceNe, Int.reduceFDiv, Nat.reduceLeDiff, beq_self_eq_true, decT, decF, ifT, ifF, eqT, eqF, neT, neF, bytesIV_length, one_length, get_cp, get_cp0, Out.All]
    · rw [g, cmpI_self] at c1 c2
      rw [decide_eq_false (show ¬ x - y < 0 by omega)] at e3
      have e4 : (Ld.length : Int) = 0 := by
        have : Ld.length = 0 := e2.2 (by omega)
        omega
      subst e3
      simp (config := { maxSteps := 8000000 }) (disch := omega) only [go_sem, Nat.reduceAdd, Nat.reduceSub, Nat.reduceMul, Nat.reduceLT, Nat.reduceLeDiff, Nat.reduceEqDiff, Nat.reduceBEq, reduceIte, reduceCtorEq, List.replicate, List.cons_append, List.nil_append, Int.reduceEq, Int.reduceLT, Int.reduceLE, Int.reduceAdd, Int.reduceSub, Int.reduceMul, Int.reduceToNat, Int.reduceNeg, Int.reduceBEq, Int.reduceBNe, Int.reduceTDiv, Int.reduceTMod, Int.reducePow, Nat.reducePow, decide_true, decide_false, Nat.reduceDiv, Nat.reduceMod, Int.reduceMod, Int.reduceDiv, Int.reduceNe, Int.reduceFDiv, Nat.reduceLeDiff, beq_self_eq_true, decT, decF, ifT, ifF, eqT, eqF, neT, neF, bytesIV_length, one_length, get_cp, get_cp0, scalar_num, Bool.not_false, Bool.not_true, freeze_iv, freeze_nil, wrap_i64, e4, cpR_pure c1, cpR_pure c2]
      refine all_works works ?_
      simp (config := { maxSteps := 4000000 }) (disch := omega) only [go_sem, Nat.reduceAdd, Nat.reduceSub, Nat.reduceMul, Nat.reduceLT, Nat.reduceLeDiff, Nat.reduceEqDiff, Nat.reduceBEq, reduceIte, reduceCtorEq, List.replicate, List.cons_append, List.nil_append, Int.reduceEq, Int.reduceLT, Int.reduceLE, Int.reduceAdd, Int.reduceSub, Int.reduceMul, Int.reduceToNat, Int.reduceNeg, Int.reduceBEq, Int.reduceBNe, Int.reduceTDiv, Int.reduceTMod, Int.reducePow, Nat.reducePow, decide_true, decide_false, Nat.reduceDiv, Nat.reduceMod, Int.reduceMod, Int.reduceDiv, Int.reduceNe, Int.reduceFDiv, Nat.reduceLeDiff, beq_self_eq_true, decT, decF, ifT, ifF, eqT, eqF, neT, neF, bytesIV_length, one_length, get_cp, get_cp0, Out.All]
    · rw [cmpI_gt g] at c1
      rw [cmpI_lt g] at c2
      rw [decide_eq_false (show ¬ x - y < 0 by omega)] at e3
      have e4 : 0 < (Ld.length : Int) := by
        have : Ld.length ≠ 0 := fun h => by have := e2.1 h; omega
        omega
      subst e3
      simp (config := { maxSteps := 8000000 }) (disch := omega) only [go_sem, Nat.reduceAdd, Nat.reduceSub, Nat.reduceMul, Nat.reduceLT, Nat.reduceLeDiff, Nat.reduceEqDiff, Nat.reduceBEq, reduceIte, reduceCtorEq, List.replicate, List.cons_append, List.nil_append, Int.reduceEq, Int.reduceLT, Int.reduceLE, Int.reduceAdd, Int.reduceSub, Int.reduceMul, Int.reduceToNat, Int.reduceNeg, Int.reduceBEq, Int.reduceBNe, Int.reduceTDiv, Int.reduceTMod, Int.reducePow, Nat.reducePow, decide_true, decide_false, Nat.reduceDiv, Nat.reduceMod, Int.reduceMod, Int.reduceDiv, Int.reduceNe, Int.reduceFDiv, Nat.reduceLeDiff, beq_self_eq_true, decT, decF, ifT, ifF, eqT, eqF, neT, neF, bytesIV_length, one_length, get_cp, get_cp0, scalar_num, Bool.not_false, Bool.not_true, freeze_iv, freeze_nil, wrap_i64, cpR_pure c1, cpR_pure c2]
      refine all_works works ?_
      simp (config := { maxSteps := 4000000 }) (disch := omega) only [go_sem, Nat.reduceAdd, Nat.reduceSub, Nat.reduceMul, Nat.reduceLT, Nat.reduceLeDiff, Nat.reduceEqDiff, Nat.reduceBEq, reduceIte, reduceCtorEq, List.replicate, List.cons_append, List.nil_append, Int.reduceEq, Int.reduceLT, Int.reduceLE, Int.reduceAdd, Int.reduceSub, Int.reduceMul, Int.reduceToNat, Int.reduceNeg, Int.reduceBEq, Int.reduceBNe, Int.reduceTDiv, Int.reduceTMod, Int.reducePow, Nat.reducePow, decide_true, decide_false, Nat.reduceDiv, Nat.reduceMod, Int.reduceMod, Int.reduceDiv, Int.reduceNe, Int.reduceFDiv, Nat.reduceLeDiff, beq_self_eq_true, decT, decF, ifT, ifF, eqT, eqF, neT, neF, bytesIV_length, one_length, get_cp, get_cp0, Out.All]
  · rw [hb] at h15
    simp (config := { maxSteps := 4000000 }) (disch := omega) only [t7, go_sem, Nat.reduceAdd, Nat.reduceSub, Nat.reduceMul, Nat.reduceLT, Nat.reduceLeDiff, Nat.reduceEqDiff, Nat.reduceBEq, reduceIte, reduceCtorEq, List.replicate, List.cons_append, List.nil_append, Int.reduceEq, Int.reduceLT, Int.reduceLE, Int.reduceAdd, Int.reduceSub, Int.reduceMul, Int.reduceToNat, Int.reduceNeg, Int.reduceBEq, Int.reduceBNe, Int.reduceTDiv, Int.reduceTMod, Int.reducePow, Nat.reducePow, decide_true, decide_false, Nat.reduceDiv, Nat.reduceMod, Int.reduceMod, Int.reduceDiv, Int.reduceNe, Int.reduceFDiv, Nat.reduceLeDiff, beq_self_eq_true, decT, decF, ifT, ifF, eqT, eqF, neT, neF, bytesIV_length, one_length, get_cp, get_cp0, h15]
    refine all_works works ?_
    simp (config := { maxSteps := 4000000 }) (disch := omega) only [go_sem, Nat.reduceAdd, Nat.reduceSub, Nat.reduceMul, Nat.reduceLT, Nat.reduceLeDiff, Nat.reduceEqDiff, Nat.reduceBEq, reduceIte, reduceCtorEq, List.replicate, List.cons_append, List.nil_append, Int.reduceEq, Int.reduceLT, Int.reduceLE, Int.reduceAdd, Int.reduceSub, Int.reduceMul, Int.reduceToNat, Int.reduceNeg, Int.reduceBEq, Int.reduceBNe, Int.reduceTDiv, Int.reduceTMod, Int.reducePow, Nat.reducePow, decide_true, decide_false, Nat.reduceDiv, Nat.reduceMod, Int.reduceMod, Int.reduceDiv, Int.reduceNe, Int.reduceFDiv, Nat.reduceLeDiff, beq_self_eq_true, decT, decF, ifT, ifF, eqT, eqF, neT, neF, bytesIV_length, one_length, get_cp, get_cp0, Out.All]
end Go.Proofs.YtdbffhgfjmhaiaaDoor
