/- BigTexts: the law. Condition: none. -/
import Derived.Test.YtdbffhgfjmhaiaaDoorBigSF
set_option maxRecDepth 100000
set_option maxHeartbeats 4000000
set_option linter.unusedSimpArgs false
set_option linter.unusedVariables false
namespace Go.Proofs.YtdbffhgfjmhaiaaDoor
open Go Go.TM
theorem slice_lo_str (S : Store) (s : List UInt8) (j : Nat) (h : j ≤ s.length) : sliceOp S .str (.iv (.str s)) (some (j : Int)) none none = some (.iv (.str (s.drop j))) := by
  have hb : bounds s.length s.length (some (j : Int)) none none = some (j, s.length, s.length) := by
    have e1 : (0 : Int) ≤ (j : Int) ∧ (j : Int) ≤ ((s.length : Nat) : Int) := by omega
    simp only [bounds, bound, e1, and_self, if_true, Int.toNat_natCast]
  simp only [sliceOp, hb]
  rw [List.take_of_length_le (by rw [List.length_drop]; omega)]
theorem law4a {t : Tag} {a : List Int} (k : TagOk t a) (n : Bool) (da : Dig 65536 a) (la : a.length ≤ 60) (s : List UInt8) (ls : s.length ≤ 300) :
    ((lim K).call 4 [.iv (num n t a), .iv (.str s)] []).All fun r => r.1 = .iv (.bool true) := by
  have va := val_nonneg (by decide) da
  have vb : val 65536 a < 65536 ^ 60 := Int.lt_of_lt_of_le (val_lt (by decide) da) (pow_le' (by decide) la)
  have h15 := call15 .full [(n, t, a)] (by simp) (by
    intro c hc
    rw [List.mem_singleton] at hc
    subst hc
    show a.length ≤ _; omega)
  have hb60 : big60 [(n, t, a)] = false := by
    simp only [big60, List.any_cons, List.any_nil, Bool.or_false, decide_eq_false_iff_not]; omega
  rw [hb60] at h15
  simp only [List.map, numC] at h15
  have h16 := call16 n t a k da (by omega) (Int.lt_of_lt_of_le vb (by decide))
  obtain ⟨tp, jp, h12⟩ := parse_txt n (val 65536 a) va vb
  obtain ⟨ta, ja, h18⟩ := call18 n t a k da (by omega)
  have hlen : (dg 65536 (val 65536 a)).length ≤ 60 := dg_len (by decide) 60 _ va vb
  have h17 := same_bg tp ta (sv n (val 65536 a)) (sv n (val 65536 a)) (by rw [abs_sv _ va]; omega)
  rw [decide_eq_true rfl] at h17
  obtain ⟨tc, jc, hc⟩ := call12 s (by omega)
  have sn := scalar_num
  by_cases hok : okP s = true
  · rw [if_pos hok] at hc
    have hbody : body s ≠ [] ∧ (body s).all isD = true := by simpa [okP] using hok
    have u0 := dec_nonneg hbody.2
    have ub : dec (body s) < 10000 ^ 75 := by
      have h1 := val_lt (B := 10) (by decide) (dig_map hbody.2)
      rw [List.length_map, List.length_reverse] at h1
      have h2 : (body s).length ≤ 4 * 75 := by simp only [body, List.length_drop]; omega
      rw [pow75]
      exact Int.lt_of_lt_of_le h1 (pow_le' (by decide) h2)
    have hs := strip_eq (body s) hbody.1 hbody.2
    obtain ⟨u, hu⟩ : ∃ u, u = dec (body s) := ⟨_, rfl⟩
    rw [← hu] at hc jc u0 ub hs
    have ul : (dg 65536 u).length ≤ 300 := by
      have h1 := dg_le (v := u) u0
      have h2 := dg_len (B := 10) (by decide) (4 * 75) u u0 (lt75 ub)
      omega
    have h16c := call16 (sg (neg0 s) (dg 65536 u)) tc (dg 65536 u) jc (dg_dig (by decide) u0) (by omega) (by rw [val_dg (by decide) u0]; exact ub)
    rw [val_dg (by decide) u0] at h16c
    have hfirst : first s < s.length := by
      have : (body s).length ≠ 0 := fun h => hbody.1 (List.length_eq_zero_iff.1 h)
      simp only [body, List.length_drop] at this
      omega
    obtain ⟨c0, r0, hs0⟩ : ∃ c r, s = c :: r := by
      cases s with
      | nil => simp at hfirst
      | cons c r => exact ⟨c, r, rfl⟩
    have hix0 : ixStr (.iv (.str s)) (.iv (.int .i64 0)) = some (.iv (.int .u8 c0.toNat)) := by rw [hs0]; exact ixStr_ok (s := c0 :: r0) (i := 0) (by simp)
    have hneg : neg0 s = decide ((c0.toNat : Int) = 45) := by rw [hs0]; rfl
    have hposi : pos0 s = decide ((c0.toNat : Int) = 43) := by rw [hs0]; rfl
    have hgen : ∀ (b13 : Bool), ∃ (j : Nat) (y14 : TV), s.drop j = strip (body s) ∧ j < s.length ∧ lp' (lim K) t4L0 [.iv (num n t a), .iv (.str s), .lb [.iv (.bool n), .iv (.sl t (one d16 a))], .iv (.bool false), .lb [.iv (.bool (decide (sv n (val 65536 a) < 0))), .iv (.sl tp (one d16 (dg 65536 (sv n (val 65536 a)).natAbs)))], .iv (.int .i64 0), .lb [.iv (.bool (sg (neg0 s) (dg 65536 u))), .iv (.sl tc (one d16 (dg 65536 u)))], .iv (.int .i64 0), .iv (.int .i64 (first s)), .iv (.str []), .iv (.bool false), .iv (.bool false), .iv (.bool false), .iv (.bool b13), .tup [], .tup []] [] = .ret (.exit 0, [.iv (num n t a), .iv (.str s), .lb [.iv (.bool n), .iv (.sl t (one d16 a))], .iv (.bool false), .lb [.iv (.bool (decide (sv n (val 65536 a) < 0))), .iv (.sl tp (one d16 (dg 65536 (sv n (val 65536 a)).natAbs)))], .iv (.int .i64 0), .lb [.iv (.bool (sg (neg0 s) (dg 65536 u))), .iv (.sl tc (one d16 (dg 65536 u)))], .iv (.int .i64 0), .iv (.int .i64 j), .iv (.str []), .iv (.bool false), .iv (.bool false), .iv (.bool false), .iv (.bool b13), y14, .tup []], []) := fun b13 =>
      loop4 s (by omega) (.iv (num n t a)) (.lb [.iv (.bool n), .iv (.sl t (one d16 a))]) (.iv (.bool false)) (.lb [.iv (.bool (decide (sv n (val 65536 a) < 0))), .iv (.sl tp (one d16 (dg 65536 (sv n (val 65536 a)).natAbs)))]) (.iv (.int .i64 0)) (.lb [.iv (.bool (sg (neg0 s) (dg 65536 u))), .iv (.sl tc (one d16 (dg 65536 u)))]) (.iv (.int .i64 0)) (.iv (.str [])) (.iv (.bool false)) (.iv (.bool false)) (.iv (.bool false)) (.iv (.bool b13)) (.tup []) [] (s.length - first s - 1) (first s) (.tup []) (by omega)
    obtain ⟨j, y14, j1, j2, e⟩ := hgen (neg0 s || pos0 s)
    rw [hs] at j1
    have hsl := fun S => slice_lo_str S s j (by omega)
    rw [j1] at hsl
    have hW := txt_eq (sg (neg0 s) (dg 65536 u)) u u0 ub
    rw [hW] at h16c
    have hbg : ∀ t z, bg t z = .agg [.bool (decide (z < 0)), .sl t (one d16 (dg 65536 z.natAbs))] := fun t z => rfl
    have hX1 : (([48] : List UInt8) != [48]) = false := by decide
    have hdd := dec_decS u u0
    by_cases hu0 : u = 0
    · rw [if_pos hu0] at hsl h16c
      have hX2 := hX1
      by_cases q1 : (c0.toNat : Int) = 45
      · have hf : first s = 1 := by simp [first, hneg, q1]
        rw [hneg, hposi, hf, decide_eq_true q1, Bool.true_or] at e
        rw [hneg, decide_eq_true q1] at hc h16c
        rw [show ((1 : Nat) : Int) = 1 from rfl] at e
        simp only [num, hbg] at *
        refine call_all' K [] (fn := t4) rfl rfl ?_
        generalize (c0.toNat : Int) = q at *
        generalize decide (sv n (val 65536 a) < 0) = nz at *
        generalize dg 65536 (sv n (val 65536 a)).natAbs = Z at *
        generalize txt n (val 65536 a) = T at *
        generalize dg 65536 u = U at *
        simp (config := { maxSteps := 8000000 }) (disch := omega) only [t4, go_sem, Nat.reduceAdd, Nat.reduceSub, Nat.reduceMul, Nat.reduceLT, Nat.reduceLeDiff, Nat.reduceEqDiff, Nat.reduceBEq, reduceIte, reduceCtorEq, List.replicate, List.cons_append, List.nil_append, Int.reduceEq, Int.reduceLT, Int.reduceLE, Int.reduceAdd, Int.reduceSub, Int.reduceMul, Int.reduceToNat, Int.reduceNeg, Int.reduceBEq, Int.reduceBNe, Int.reduceTDiv, Int.reduceTMod, Int.reducePow, Nat.reducePow, decide_true, decide_false, Nat.reduceDiv, Nat.reduceMod, Int.reduceMod, Int.reduceDiv, Int.reduceNe, Int.reduceFDiv, Nat.reduceLeDiff, beq_self_eq_true, decT, decF, ifT, ifF, eqT, eqF, neT, neF, bytesIV_length, one_length, get_cp, get_cp0, h15, cpR_pure h16, cpR_pure h12, cpR_pure h18, h17, cpR_pure hc, cpR_pure h16c, sn, hix0, e, hsl, hX1, hX2, List.length_nil, Bool.and_false, Bool.not_true, Bool.not_false, freeze_iv, freeze_nil, List.nil_append, List.append_nil, bne_self_eq_false]
        refine all_works works ?_
        simp (config := { maxSteps := 4000000 }) (disch := omega) only [go_sem, Nat.reduceAdd, Nat.reduceSub, Nat.reduceMul, Nat.reduceLT, Nat.reduceLeDiff, Nat.reduceEqDiff, Nat.reduceBEq, reduceIte, reduceCtorEq, List.replicate, List.cons_append, List.nil_append, Int.reduceEq, Int.reduceLT, Int.reduceLE, Int.reduceAdd, Int.reduceSub, Int.reduceMul, Int.reduceToNat, Int.reduceNeg, Int.reduceBEq, Int.reduceBNe, Int.reduceTDiv, Int.reduceTMod, Int.reducePow, Nat.reducePow, decide_true, decide_false, Nat.reduceDiv, Nat.reduceMod, Int.reduceMod, Int.reduceDiv, Int.reduceNe, Int.reduceFDiv, Nat.reduceLeDiff, beq_self_eq_true, decT, decF, ifT, ifF, eqT, eqF, neT, neF, bytesIV_length, one_length, get_cp, get_cp0, Out.All]
      · by_cases q2 : (c0.toNat : Int) = 43
        · have hf : first s = 1 := by simp [first, hposi, q2]
          rw [hneg, hposi, hf, decide_eq_false q1, decide_eq_true q2, Bool.or_true] at e
          rw [hneg, decide_eq_false q1] at hc h16c
          rw [show ((1 : Nat) : Int) = 1 from rfl] at e
          simp only [num, hbg] at *
          refine call_all' K [] (fn := t4) rfl rfl ?_
          generalize (c0.toNat : Int) = q at *
          generalize decide (sv n (val 65536 a) < 0) = nz at *
          generalize dg 65536 (sv n (val 65536 a)).natAbs = Z at *
          generalize txt n (val 65536 a) = T at *
          generalize dg 65536 u = U at *
          simp (config := { maxSteps := 8000000 }) (disch := omega) only [t4, go_sem, Nat.reduceAdd, Nat.reduceSub, Nat.reduceMul, Nat.reduceLT, Nat.reduceLeDiff, Nat.reduceEqDiff, Nat.reduceBEq, reduceIte, reduceCtorEq, List.replicate, List.cons_append, List.nil_append, Int.reduceEq, Int.reduceLT, Int.reduceLE, Int.reduceAdd, Int.reduceSub, Int.reduceMul, Int.reduceToNat, Int.reduceNeg, Int.reduceBEq, Int.reduceBNe, Int.reduceTDiv, Int.reduceTMod, Int.reducePow, Nat.reducePow, decide_true, decide_false, Nat.reduceDiv, Nat.reduceMod, Int.reduceMod, Int.reduceDiv, Int.reduceNe, Int.reduceFDiv, Nat.reduceLeDiff, beq_self_eq_true, decT, decF, ifT, ifF, eqT, eqF, neT, neF, bytesIV_length, one_length, get_cp, get_cp0, h15, cpR_pure h16, cpR_pure h12, cpR_pure h18, h17, cpR_pure hc, cpR_pure h16c, sn, hix0, e, hsl, hX1, hX2, List.length_nil, Bool.and_false, Bool.not_true, Bool.not_false, freeze_iv, freeze_nil, List.nil_append, List.append_nil, bne_self_eq_false]
          refine all_works works ?_
          simp (config := { maxSteps := 4000000 }) (disch := omega) only [go_sem, Nat.reduceAdd, Nat.reduceSub, Nat.reduceMul, Nat.reduceLT, Nat.reduceLeDiff, Nat.reduceEqDiff, Nat.reduceBEq, reduceIte, reduceCtorEq, List.replicate, List.cons_append, List.nil_append, Int.reduceEq, Int.reduceLT, Int.reduceLE, Int.reduceAdd, Int.reduceSub, Int.reduceMul, Int.reduceToNat, Int.reduceNeg, Int.reduceBEq, Int.reduceBNe, Int.reduceTDiv, Int.reduceTMod, Int.reducePow, Nat.reducePow, decide_true, decide_false, Nat.reduceDiv, Nat.reduceMod, Int.reduceMod, Int.reduceDiv, Int.reduceNe, Int.reduceFDiv, Nat.reduceLeDiff, beq_self_eq_true, decT, decF, ifT, ifF, eqT, eqF, neT, neF, bytesIV_length, one_length, get_cp, get_cp0, Out.All]
        · have hf : first s = 0 := by simp [first, hneg, hposi, q1, q2]
          rw [hneg, hposi, hf, decide_eq_false q1, decide_eq_false q2, Bool.or_self] at e
          rw [hneg, decide_eq_false q1] at hc h16c
          simp only [num, hbg] at *
          rw [show ((0 : Nat) : Int) = 0 from rfl] at e
          refine call_all' K [] (fn := t4) rfl rfl ?_
          generalize (c0.toNat : Int) = q at *
          generalize decide (sv n (val 65536 a) < 0) = nz at *
          generalize dg 65536 (sv n (val 65536 a)).natAbs = Z at *
          generalize txt n (val 65536 a) = T at *
          generalize dg 65536 u = U at *
          simp (config := { maxSteps := 8000000 }) (disch := omega) only [t4, go_sem, Nat.reduceAdd, Nat.reduceSub, Nat.reduceMul, Nat.reduceLT, Nat.reduceLeDiff, Nat.reduceEqDiff, Nat.reduceBEq, reduceIte, reduceCtorEq, List.replicate, List.cons_append, List.nil_append, Int.reduceEq, Int.reduceLT, Int.reduceLE, Int.reduceAdd, Int.reduceSub, Int.reduceMul, Int.reduceToNat, Int.reduceNeg, Int.reduceBEq, Int.reduceBNe, Int.reduceTDiv, Int.reduceTMod, Int.reducePow, Nat.reducePow, decide_true, decide_false, Nat.reduceDiv, Nat.reduceMod, Int.reduceMod, Int.reduceDiv, Int.reduceNe, Int.reduceFDiv, Nat.reduceLeDiff, beq_self_eq_true, decT, decF, ifT, ifF, eqT, eqF, neT, neF, bytesIV_length, one_length, get_cp, get_cp0, h15, cpR_pure h16, cpR_pure h12, cpR_pure h18, h17, cpR_pure hc, cpR_pure h16c, sn, hix0, e, hsl, hX1, hX2, List.length_nil, Bool.and_false, Bool.not_true, Bool.not_false, freeze_iv, freeze_nil, List.nil_append, List.append_nil, bne_self_eq_false]
          refine all_works works ?_
          simp (config := { maxSteps := 4000000 }) (disch := omega) only [go_sem, Nat.reduceAdd, Nat.reduceSub, Nat.reduceMul, Nat.reduceLT, Nat.reduceLeDiff, Nat.reduceEqDiff, Nat.reduceBEq, reduceIte, reduceCtorEq, List.replicate, List.cons_append, List.nil_append, Int.reduceEq, Int.reduceLT, Int.reduceLE, Int.reduceAdd, Int.reduceSub, Int.reduceMul, Int.reduceToNat, Int.reduceNeg, Int.reduceBEq, Int.reduceBNe, Int.reduceTDiv, Int.reduceTMod, Int.reducePow, Nat.reducePow, decide_true, decide_false, Nat.reduceDiv, Nat.reduceMod, Int.reduceMod, Int.reduceDiv, Int.reduceNe, Int.reduceFDiv, Nat.reduceLeDiff, beq_self_eq_true, decT, decF, ifT, ifF, eqT, eqF, neT, neF, bytesIV_length, one_length, get_cp, get_cp0, Out.All]
    · rw [if_neg hu0] at hsl h16c
      have hX2 : (decS u != [48]) = true := by
        rw [bne_iff_ne]
        intro h
        rw [h] at hdd
        have : dec [48] = 0 := by simp [dec, val, dgt]
        omega
      have hX3 : (decS u == [48]) = false := by
        have h1 : decS u ≠ [48] := by rw [← bne_iff_ne]; exact hX2
        exact beq_false_of_ne h1
      have hDL : (decS u).length ≤ 300 := by
        unfold decS
        rw [List.length_map, List.length_reverse]
        have h2 := dg_len (B := 10) (by decide) (4 * 75) u u0 (lt75 ub)
        omega
      have hsg : ∀ b, sg b (dg 65536 u) = b := fun b => by
        have h1 : dg 65536 u ≠ [] := fun h => hu0 ((dg_nil (by decide) u0).1 h)
        have h2 := List.length_pos_iff.2 h1
        simp [sg, h2]
      rw [hsg] at e hc h16c
      by_cases q1 : (c0.toNat : Int) = 45
      · have hf : first s = 1 := by simp [first, hneg, q1]
        rw [hneg, hposi, hf, decide_eq_true q1, Bool.true_or] at e
        rw [hneg, decide_eq_true q1] at hc h16c
        rw [if_pos rfl] at h16c
        rw [show ((1 : Nat) : Int) = 1 from rfl] at e
        simp only [num, hbg] at *
        refine call_all' K [] (fn := t4) rfl rfl ?_
        generalize (c0.toNat : Int) = q at *
        generalize decide (sv n (val 65536 a) < 0) = nz at *
        generalize dg 65536 (sv n (val 65536 a)).natAbs = Z at *
        generalize txt n (val 65536 a) = T at *
        generalize dg 65536 u = U at *
        simp (config := { maxSteps := 8000000 }) (disch := omega) only [t4, go_sem, Nat.reduceAdd, Nat.reduceSub, Nat.reduceMul, Nat.reduceLT, Nat.reduceLeDiff, Nat.reduceEqDiff, Nat.reduceBEq, reduceIte, reduceCtorEq, List.replicate, List.cons_append, List.nil_append, Int.reduceEq, Int.reduceLT, Int.reduceLE, Int.reduceAdd, Int.reduceSub, Int.reduceMul, Int.reduceToNat, Int.reduceNeg, Int.reduceBEq, Int.reduceBNe, Int.reduceTDiv, Int.reduceTMod, Int.reducePow, Nat.reducePow, decide_true, decide_false, Nat.reduceDiv, Nat.reduceMod, Int.reduceMod, Int.reduceDiv, Int.reduceNe, Int.reduceFDiv, Nat.reduceLeDiff, beq_self_eq_true, decT, decF, ifT, ifF, eqT, eqF, neT, neF, bytesIV_length, one_length, get_cp, get_cp0, h15, cpR_pure h16, cpR_pure h12, cpR_pure h18, h17, cpR_pure hc, cpR_pure h16c, sn, hix0, e, hsl, hX1, hX2, hX3, List.length_nil, List.length_singleton, Bool.and_false, Bool.not_true, Bool.not_false, freeze_iv, freeze_nil, List.nil_append, List.append_nil, bne_self_eq_false]
        refine all_works works ?_
        simp (config := { maxSteps := 4000000 }) (disch := omega) only [go_sem, Nat.reduceAdd, Nat.reduceSub, Nat.reduceMul, Nat.reduceLT, Nat.reduceLeDiff, Nat.reduceEqDiff, Nat.reduceBEq, reduceIte, reduceCtorEq, List.replicate, List.cons_append, List.nil_append, Int.reduceEq, Int.reduceLT, Int.reduceLE, Int.reduceAdd, Int.reduceSub, Int.reduceMul, Int.reduceToNat, Int.reduceNeg, Int.reduceBEq, Int.reduceBNe, Int.reduceTDiv, Int.reduceTMod, Int.reducePow, Nat.reducePow, decide_true, decide_false, Nat.reduceDiv, Nat.reduceMod, Int.reduceMod, Int.reduceDiv, Int.reduceNe, Int.reduceFDiv, Nat.reduceLeDiff, beq_self_eq_true, decT, decF, ifT, ifF, eqT, eqF, neT, neF, bytesIV_length, one_length, get_cp, get_cp0, Out.All]
      · by_cases q2 : (c0.toNat : Int) = 43
        · have hf : first s = 1 := by simp [first, hposi, q2]
          rw [hneg, hposi, hf, decide_eq_false q1, decide_eq_true q2, Bool.or_true] at e
          rw [hneg, decide_eq_false q1] at hc h16c
          rw [if_neg (by decide), List.nil_append] at h16c
          rw [show ((1 : Nat) : Int) = 1 from rfl] at e
          simp only [num, hbg] at *
          refine call_all' K [] (fn := t4) rfl rfl ?_
          generalize (c0.toNat : Int) = q at *
          generalize decide (sv n (val 65536 a) < 0) = nz at *
          generalize dg 65536 (sv n (val 65536 a)).natAbs = Z at *
          generalize txt n (val 65536 a) = T at *
          generalize dg 65536 u = U at *
          simp (config := { maxSteps := 8000000 }) (disch := omega) only [t4, go_sem, Nat.reduceAdd, Nat.reduceSub, Nat.reduceMul, Nat.reduceLT, Nat.reduceLeDiff, Nat.reduceEqDiff, Nat.reduceBEq, reduceIte, reduceCtorEq, List.replicate, List.cons_append, List.nil_append, Int.reduceEq, Int.reduceLT, Int.reduceLE, Int.reduceAdd, Int.reduceSub, Int.reduceMul, Int.reduceToNat, Int.reduceNeg, Int.reduceBEq, Int.reduceBNe, Int.reduceTDiv, Int.reduceTMod, Int.reducePow, Nat.reducePow, decide_true, decide_false, Nat.reduceDiv, Nat.reduceMod, Int.reduceMod, Int.reduceDiv, Int.reduceNe, Int.reduceFDiv, Nat.reduceLeDiff, beq_self_eq_true, decT, decF, ifT, ifF, eqT, eqF, neT, neF, bytesIV_length, one_length, get_cp, get_cp0, h15, cpR_pure h16, cpR_pure h12, cpR_pure h18, h17, cpR_pure hc, cpR_pure h16c, sn, hix0, e, hsl, hX1, hX2, hX3, List.length_nil, List.length_singleton, Bool.and_false, Bool.not_true, Bool.not_false, freeze_iv, freeze_nil, List.nil_append, List.append_nil, bne_self_eq_false]
          refine all_works works ?_
          simp (config := { maxSteps := 4000000 }) (disch := omega) only [go_sem, Nat.reduceAdd, Nat.reduceSub, Nat.reduceMul, Nat.reduceLT, Nat.reduceLeDiff, Nat.reduceEqDiff, Nat.reduceBEq, reduceIte, reduceCtorEq, List.replicate, List.cons_append, List.nil_append, Int.reduceEq, Int.reduceLT, Int.reduceLE, Int.reduceAdd, Int.reduceSub, Int.reduceMul, Int.reduceToNat, Int.reduceNeg, Int.reduceBEq, Int.reduceBNe, Int.reduceTDiv, Int.reduceTMod, Int.reducePow, Nat.reducePow, decide_true, decide_false, Nat.reduceDiv, Nat.reduceMod, Int.reduceMod, Int.reduceDiv, Int.reduceNe, Int.reduceFDiv, Nat.reduceLeDiff, beq_self_eq_true, decT, decF, ifT, ifF, eqT, eqF, neT, neF, bytesIV_length, one_length, get_cp, get_cp0, Out.All]
        · have hf : first s = 0 := by simp [first, hneg, hposi, q1, q2]
          rw [hneg, hposi, hf, decide_eq_false q1, decide_eq_false q2, Bool.or_self] at e
          rw [hneg, decide_eq_false q1] at hc h16c
          rw [if_neg (by decide), List.nil_append] at h16c
          simp only [num, hbg] at *
          rw [show ((0 : Nat) : Int) = 0 from rfl] at e
          refine call_all' K [] (fn := t4) rfl rfl ?_
          generalize (c0.toNat : Int) = q at *
          generalize decide (sv n (val 65536 a) < 0) = nz at *
          generalize dg 65536 (sv n (val 65536 a)).natAbs = Z at *
          generalize txt n (val 65536 a) = T at *
          generalize dg 65536 u = U at *
          simp (config := { maxSteps := 8000000 }) (disch := omega) only [t4, go_sem, Nat.reduceAdd, Nat.reduceSub, Nat.reduceMul, Nat.reduceLT, Nat.reduceLeDiff, Nat.reduceEqDiff, Nat.reduceBEq, reduceIte, reduceCtorEq, List.replicate, List.cons_append, List.nil_append, Int.reduceEq, Int.reduceLT, Int.reduceLE, Int.reduceAdd, Int.reduceSub, Int.reduceMul, Int.reduceToNat, Int.reduceNeg, Int.reduceBEq, Int.reduceBNe, Int.reduceTDiv, Int.reduceTMod, Int.reducePow, Nat.reducePow, decide_true, decide_false, Nat.reduceDiv, Nat.reduceMod, Int.reduceMod, Int.reduceDiv, Int.reduceNe, Int.reduceFDiv, Nat.reduceLeDiff, beq_self_eq_true, decT, decF, ifT, ifF, eqT, eqF, neT, neF, bytesIV_length, one_length, get_cp, get_cp0, h15, cpR_pure h16, cpR_pure h12, cpR_pure h18, h17, cpR_pure hc, cpR_pure h16c, sn, hix0, e, hsl, hX1, hX2, hX3, List.length_nil, List.length_singleton, Bool.and_false, Bool.not_true, Bool.not_false, freeze_iv, freeze_nil, List.nil_append, List.append_nil, bne_self_eq_false]
          refine all_works works ?_
          simp (config := { maxSteps := 4000000 }) (disch := omega) only [go_sem, Nat.reduceAdd, Nat.reduceSub, Nat.reduceMul, Nat.reduceLT, Nat.reduceLeDiff, Nat.reduceEqDiff, Nat.reduceBEq, reduceIte, reduceCtorEq, List.replicate, List.cons_append, List.nil_append, Int.reduceEq, Int.reduceLT, Int.reduceLE, Int.reduceAdd, Int.reduceSub, Int.reduceMul, Int.reduceToNat, Int.reduceNeg, Int.reduceBEq, Int.reduceBNe, Int.reduceTDiv, Int.reduceTMod, Int.reducePow, Nat.reducePow, decide_true, decide_false, Nat.reduceDiv, Nat.reduceMod, Int.reduceMod, Int.reduceDiv, Int.reduceNe, Int.reduceFDiv, Nat.reduceLeDiff, beq_self_eq_true, decT, decF, ifT, ifF, eqT, eqF, neT, neF, bytesIV_length, one_length, get_cp, get_cp0, Out.All]
  · rw [if_neg hok] at hc
    have e0 : one d16 [] = [] := rfl
    have hbg : ∀ t z, bg t z = .agg [.bool (decide (z < 0)), .sl t (one d16 (dg 65536 z.natAbs))] := fun t z => rfl
    simp only [num, hbg, e0] at *
    refine call_all' K [] (fn := t4) rfl rfl ?_
    generalize decide (sv n (val 65536 a) < 0) = nz at *
    generalize dg 65536 (sv n (val 65536 a)).natAbs = Z at *
    generalize txt n (val 65536 a) = T at *
    simp (config := { maxSteps := 8000000 }) (disch := omega) only [t4, go_sem, Nat.reduceAdd, Nat.reduceSub, Nat.reduceMul, Nat.reduceLT, Nat.reduceLeDiff, Nat.reduceEqDiff, Nat.reduceBEq, reduceIte, reduceCtorEq, List.replicate, List.cons_append, List.nil_append, Int.reduceEq, Int.reduceLT, Int.reduceLE, Int.reduceAdd, Int.reduceSub, Int.reduceMul, Int.reduceToNat, Int.reduceNeg, Int.reduceBEq, Int.reduceBNe, Int.reduceTDiv, Int.reduceTMod, Int.reducePow, Nat.reducePow, decide_true, decide_false, Nat.reduceDiv, Nat.reduceMod, Int.reduceMod, Int.reduceDiv, Int.reduceNe, Int.reduceFDiv, Nat.reduceLeDiff, beq_self_eq_true, decT, decF, ifT, ifF, eqT, eqF, neT, neF, bytesIV_length, one_length, get_cp, get_cp0, h15, cpR_pure h16, cpR_pure h12, cpR_pure h18, h17, cpR_pure hc, sn, List.length_nil, Bool.and_false, Bool.not_true, Bool.not_false, freeze_iv, freeze_nil]
    refine all_works works ?_
    simp (config := { maxSteps := 4000000 }) (disch := omega) only [go_sem, Nat.reduceAdd, Nat.reduceSub, Nat.reduceMul, Nat.reduceLT, Nat.reduceLeDiff, Nat.reduceEqDiff, Nat.reduceBEq, reduceIte, reduceCtorEq, List.replicate, List.cons_append, List.nil_append, Int.reduceEq, Int.reduceLT, Int.reduceLE, Int.reduceAdd, Int.reduceSub, Int.reduceMul, Int.reduceToNat, Int.reduceNeg, Int.reduceBEq, Int.reduceBNe, Int.reduceTDiv, Int.reduceTMod, Int.reducePow, Nat.reducePow, decide_true, decide_false, Nat.reduceDiv, Nat.reduceMod, Int.reduceMod, Int.reduceDiv, Int.reduceNe, Int.reduceFDiv, Nat.reduceLeDiff, beq_self_eq_true, decT, decF, ifT, ifF, eqT, eqF, neT, neF, bytesIV_length, one_length, get_cp, get_cp0, Out.All]
end Go.Proofs.YtdbffhgfjmhaiaaDoor
