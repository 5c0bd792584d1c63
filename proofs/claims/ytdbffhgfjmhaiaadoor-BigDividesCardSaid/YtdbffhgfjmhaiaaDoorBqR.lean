/- BigDivides: the law. Condition: none. -/
import Derived.Test.YtdbffhgfjmhaiaaDoorBqW
set_option maxRecDepth 100000
set_option maxHeartbeats 4000000
set_option linter.unusedSimpArgs false
set_option linter.unusedVariables false
namespace Go.Proofs.YtdbffhgfjmhaiaaDoor
open Go Go.TM
theorem len_lt {z : Int} {k : Nat} (h : (z.natAbs : Int) < 65536 ^ k) : (dg 65536 z.natAbs).length ≤ k := dg_len (by decide) k _ (by omega) h
theorem dg_abs (z : Int) : Dig 65536 (dg 65536 z.natAbs) := dg_dig (by decide) (by omega)
theorem val_abs (z : Int) : val 65536 (dg 65536 z.natAbs) = z.natAbs := val_dg (by decide) (by omega)
theorem num_agT (n : Bool) (t : Tag) (l : List Int) : agT n (.iv (.sl t (one d16 l))) = .iv (num n t l) := id rfl
theorem agT_lpis {x : TV} (h : Pl x) (n : Bool) (j : Nat) : lpIs j (agT n x) = false := by
  rcases h with ⟨v, rfl⟩ | ⟨a, b, c, d, e, f, rfl⟩ <;> rfl
theorem law9a {t1 t2 : Tag} {a b : List Int} (k1 : TagOk t1 a) (k2 : TagOk t2 b) (n1 n2 : Bool) (da : Dig 65536 a) (db : Dig 65536 b) (la : a.length ≤ 60) (lb : b.length ≤ 60) (hb : val 65536 b ≠ 0) (x y : Int) (hx : x = sv n1 (val 65536 a)) (hy : y = sv n2 (val 65536 b)) :
    ((lim K).call 9 [.iv (num n1 t1 a), .iv (num n2 t2 b)] []).All fun r => r.1 = .iv (.bool true) := by
  have va := val_nonneg (by decide) da
  have vb := val_nonneg (by decide) db
  have h15 := call15 .full [(n1, t1, a), (n2, t2, b)] (by simp) (by
    intro c hc
    simp only [List.mem_cons, List.not_mem_nil, or_false] at hc
    rcases hc with rfl | rfl
    · show a.length ≤ _; omega
    · show b.length ≤ _; omega)
  have hb60 : big60 [(n1, t1, a), (n2, t2, b)] = false := by
    simp only [big60, List.any_cons, List.any_nil, Bool.or_false, Bool.or_eq_false_iff, decide_eq_false_iff_not]; omega
  rw [hb60] at h15
  simp only [List.map, numC] at h15
  obtain ⟨w1, w2, R, hw1, hw2, h34⟩ := quoV k1 k2 n1 n2 da db (by omega) (by omega) hb x y hx hy []
  rw [List.nil_append] at hw1 hw2 h34
  have ax : (x.natAbs : Int) = val 65536 a := by rw [hx, abs_sv _ va]
  have ay : (y.natAbs : Int) = val 65536 b := by rw [hy, abs_sv _ vb]
  have bx : (x.natAbs : Int) < 65536 ^ 60 := by
    rw [ax]
    have h2 := val_lt (by decide) da
    have h3 := pow_le' (B := 65536) (by decide) la
    omega
  have by' : (y.natAbs : Int) < 65536 ^ 60 := by
    rw [ay]
    have h2 := val_lt (by decide) db
    have h3 := pow_le' (B := 65536) (by decide) lb
    omega
  have hy0 : y ≠ 0 := by intro h; rw [h] at ay; exact hb (by rw [← ay]; rfl)
  have hq := Int.natAbs_tdiv x y
  have hr := Int.natAbs_tmod x y
  have hqle : (x.tdiv y).natAbs ≤ x.natAbs := by rw [hq]; exact Nat.div_le_self _ _
  have hrlt : (x.tmod y).natAbs < y.natAbs := by rw [hr]; exact Nat.mod_lt _ (by omega)
  have hdm := Int.mul_tdiv_add_tmod x y
  have lq := len_lt (z := x.tdiv y) (k := 60) (by omega)
  have lr := len_lt (z := x.tmod y) (k := 60) (by omega)
  -- Tidy of the divisor
  obtain ⟨tb, jb, h18b⟩ := call18 n2 t2 b k2 db (by omega)
  rw [← hy] at h18b
  have hb0 : 0 < (dg 65536 y.natAbs).length := by
    rcases Nat.eq_zero_or_pos (dg 65536 y.natAbs).length with h | h
    · exfalso
      have := (dg_nil (B := 65536) (by decide) (by omega)).1 (List.length_eq_zero_iff.1 h)
      omega
    · exact h
  -- the product and the sum
  obtain ⟨m1, R1, hm1, h28⟩ := mulV hw1 (DV.iv (m := false) (P := fun _ => True) t2 b k2 (fun h => by cases h)) (decide (x.tdiv y < 0)) n2 (dg_abs _) db (by omega) (by omega) (x.tdiv y * y) (by rw [val_abs, sv_bg, hy])
  obtain ⟨m2, R2, hm2, h26⟩ := addV hm1 (hw2.app R1) (decide (x.tdiv y * y < 0)) (decide (x.tmod y < 0)) (dg_abs _) (dg_abs _) (by
    have := len_lt (z := x.tdiv y * y) (k := 120) (by
      rw [Int.natAbs_mul, Int.pow_add 65536 60 60]
      have e1 := Int.mul_le_mul_of_nonneg_left (Int.le_of_lt by') (show (0 : Int) ≤ (x.tdiv y).natAbs by omega)
      have e2 := Int.mul_lt_mul_of_pos_right (show ((x.tdiv y).natAbs : Int) < 65536 ^ 60 by omega) (pow_pos' (B := 65536) (by decide) 60)
      push_cast
      omega)
    omega) (by omega) x (by rw [val_abs, val_abs, sv_bg, sv_bg, Int.mul_comm]; omega)
  obtain ⟨ta, ja, h18a⟩ := call18 n1 t1 a k1 da (by omega)
  rw [← hx] at h18a
  obtain ⟨t6, j6, c6⟩ := hm2.closeAg (decide (x < 0))
  have lx := len_lt bx
  have h17 := same_bg t6 ta x x (by omega)
  rw [decide_eq_true rfl] at h17
  -- without signs
  obtain ⟨t7, j7, c7⟩ := ((hw2.app R1).app R2).closeAg (decide (x.tmod y < 0))
  obtain ⟨S7, f7⟩ := ((hw2.app R1).app R2).frzAg (decide (x.tmod y < 0))
  obtain ⟨g8, j8, h36r⟩ := call36 (decide (x.tmod y < 0)) t7 _ j7 (dg_abs _) (by omega)
  obtain ⟨g9, j9, h36b⟩ := call36 n2 t2 b k2 db (by omega)
  rw [val_abs] at j8 h36r
  rw [← ay] at j9 h36b
  have h29 := call29 (decide (((x.tmod y).natAbs : Int) < 0)) (decide ((y.natAbs : Int) < 0)) g8 g9 (dg 65536 ((x.tmod y).natAbs : Int).natAbs) (dg 65536 ((y.natAbs : Int)).natAbs) j8 j9 (dg_abs _) (dg_abs _) (by rw [Int.natAbs_natCast]; omega) (by rw [Int.natAbs_natCast]; have := len_lt by'; omega) ((x.tmod y).natAbs : Int) (y.natAbs : Int) (by rw [val_abs, sv_bg]) (by rw [val_abs, sv_bg])
  rw [cmpI_lt (by omega)] at h29
  rw [agT_iv] at h28
  have hlen : ((dg 65536 (x.tmod y).natAbs).length : Int) = 0 ∨ (¬ ((dg 65536 (x.tmod y).natAbs).length : Int) = 0 ∧ decide (x.tmod y < 0) = n1) := by
    by_cases h0 : x.tmod y = 0
    · left
      rw [h0]
      exact congrArg (fun l => ((List.length l : Nat) : Int)) (dg_zero 65536)
    · right
      have h1 : (dg 65536 (x.tmod y).natAbs) ≠ [] := by
        intro h
        have := (dg_nil (B := 65536) (by decide) (by omega)).1 h
        omega
      have h2 := List.length_pos_iff.2 h1
      refine ⟨by omega, ?_⟩
      have e2 := sv_tmod n1 n2 va vb
      rw [← hx, ← hy] at e2
      have h3 := Int.emod_nonneg (val 65536 a) hb
      cases n1
      · simp only [sv, Bool.false_eq_true, if_false] at e2
        rw [decide_eq_false]; omega
      · simp only [sv, if_true] at e2
        rw [decide_eq_true]; omega
  have dz1 : decide (((x.tmod y).natAbs : Int) < 0) = false := decide_eq_false (by omega)
  have dz2 : decide ((y.natAbs : Int) < 0) = false := decide_eq_false (by omega)
  simp only [num, bg] at *
  rw [dz1] at h36r h29
  rw [dz2] at h36b h29
  refine call_all' K [] (fn := t9) rfl rfl ?_
  have hw2a := hw2.app R1
  have hw2b := hw2a.app R2
  have sn := scalar_num
  generalize dg 65536 (x.tmod y).natAbs = Lr at *
  generalize decide (x.tmod y < 0) = nr at *
  generalize decide (x.tdiv y < 0) = nq at *
  generalize decide (x.tdiv y * y < 0) = nm at *
  have hL1 := agT_lpis hw1.pl nq
  have hL2 := agT_lpis hw2.pl nr
  unfold lpIs at hL1 hL2
  rcases hlen with hl0 | ⟨hl0, rfl⟩
  · cases hms : isMsl (agT nr w2)
    · simp (config := { maxSteps := 8000000 }) (disch := omega) only [t9, go_sem, Nat.reduceAdd, Nat.reduceSub, Nat.reduceMul, Nat.reduceLT, Nat.reduceLeDiff, Nat.reduceEqDiff, Nat.reduceBEq, reduceIte, reduceCtorEq, List.replicate, List.cons_append, List.nil_append, Int.reduceEq, Int.reduceLT, Int.reduceLE, Int.reduceAdd, Int.reduceSub, Int.reduceMul, Int.reduceToNat, Int.reduceNeg, Int.reduceBEq, Int.reduceBNe, Int.reduceTDiv, Int.reduceTMod, Int.reducePow, Nat.reducePow, decide_true, decide_false, Nat.reduceDiv, Nat.reduceMod, Int.reduceMod, Int.reduceDiv, Int.reduceNe, Int.reduceFDiv, Nat.reduceLeDiff, mkAgg_agT hw1.pl, mkAgg_agT hw2.pl, mkAgg_agT hm1.pl, mkAgg_agT hm2.pl, cellsOf_agT hw1.pl, agT_loc hw1.pl, agT_nlp hw1.pl, agT_resK hw1.pl, agT_wb hw1.pl, cellsOf_agT hw2.pl, agT_loc hw2.pl, agT_nlp hw2.pl, agT_resK hw2.pl, agT_wb hw2.pl, cellsOf_agT hm1.pl, agT_loc hm1.pl, agT_nlp hm1.pl, agT_resK hm1.pl, agT_wb hm1.pl, cellsOf_agT hm2.pl, agT_loc hm2.pl, agT_nlp hm2.pl, agT_resK hm2.pl, agT_wb hm2.pl, beq_self_eq_true, decT, decF, ifT, ifF, eqT, eqF, neT, neF, bytesIV_length, one_length, get_cp, get_cp0, hw1.pl.loc, hw1.pl.nlp, hw1.pl.resK, hw1.pl.wb, hw1.isR, hw1.cel, hw1.forg, hw1.sam, hw1.lenA, hw2.pl.loc, hw2.pl.nlp, hw2.pl.resK, hw2.pl.wb, hw2.isR, hw2.cel, hw2.forg, hw2.sam, hw2.lenA, hm1.pl.loc, hm1.pl.nlp, hm1.pl.resK, hm1.pl.wb, hm1.isR, hm1.cel, hm1.forg, hm1.sam, hm1.lenA, hm2.pl.loc, hm2.pl.nlp, hm2.pl.resK, hm2.pl.wb, hm2.isR, hm2.cel, hm2.forg, hm2.sam, hm2.lenA, agT_R hw1.pl, agT_R hw2.pl, hL1, hL2, h15, h34, cpR_pure h18b, h28, h26, cpR_pure h18a, c6, h17, c7, hms, f7, cpR_pure h36r, cpR_pure h36b, cpR_pure h29, hl0, sn, Bool.and_false, Bool.not_true, Bool.not_false, freeze_iv, freeze_nil]
      refine all_works works ?_
      simp (config := { maxSteps := 4000000 }) (disch := omega) only [go_sem, Nat.reduceAdd, Nat.reduceSub, Nat.reduceMul, Nat.reduceLT, Nat.reduceLeDiff, Nat.reduceEqDiff, Nat.reduceBEq, reduceIte, reduceCtorEq, List.replicate, List.cons_append, List.nil_append, Int.reduceEq, Int.reduceLT, Int.reduceLE, Int.reduceAdd, Int.reduceSub, Int.reduceMul, Int.reduceToNat, Int.reduceNeg, Int.reduceBEq, Int.reduceBNe, Int.reduceTDiv, Int.reduceTMod, Int.reducePow, Nat.reducePow, decide_true, decide_false, Nat.reduceDiv, Nat.reduceMod, Int.reduceMod, Int.reduceDiv, Int.reduceNe, Int.reduceFDiv, Nat.reduceLeDiff, beq_self_eq_true, decT, decF, ifT, ifF, eqT, eqF, neT, neF, bytesIV_length, one_length, get_cp, get_cp0, Out.All]
    · simp (config := { maxSteps := 8000000 }) (disch := omega) only [t9, go_sem, Nat.reduceAdd, Nat.reduceSub, Nat.reduceMul, Nat.reduceLT, Nat.reduceLeDiff, Nat.reduceEqDiff, Nat.reduceBEq, reduceIte, reduceCtorEq, List.replicate, List.cons_append, List.nil_append, Int.reduceEq, Int.reduceLT, Int.reduceLE, Int.reduceAdd, Int.reduceSub, Int.reduceMul, Int.reduceToNat, Int.reduceNeg, Int.reduceBEq, Int.reduceBNe, Int.reduceTDiv, Int.reduceTMod, Int.reducePow, Nat.reducePow, decide_true, decide_false, Nat.reduceDiv, Nat.reduceMod, Int.reduceMod, Int.reduceDiv, Int.reduceNe, Int.reduceFDiv, Nat.reduceLeDiff, mkAgg_agT hw1.pl, mkAgg_agT hw2.pl, mkAgg_agT hm1.pl, mkAgg_agT hm2.pl, cellsOf_agT hw1.pl, agT_loc hw1.pl, agT_nlp hw1.pl, agT_resK hw1.pl, agT_wb hw1.pl, cellsOf_agT hw2.pl, agT_loc hw2.pl, agT_nlp hw2.pl, agT_resK hw2.pl, agT_wb hw2.pl, cellsOf_agT hm1.pl, agT_loc hm1.pl, agT_nlp hm1.pl, agT_resK hm1.pl, agT_wb hm1.pl, cellsOf_agT hm2.pl, agT_loc hm2.pl, agT_nlp hm2.pl, agT_resK hm2.pl, agT_wb hm2.pl, beq_self_eq_true, decT, decF, ifT, ifF, eqT, eqF, neT, neF, bytesIV_length, one_length, get_cp, get_cp0, hw1.pl.loc, hw1.pl.nlp, hw1.pl.resK, hw1.pl.wb, hw1.isR, hw1.cel, hw1.forg, hw1.sam, hw1.lenA, hw2.pl.loc, hw2.pl.nlp, hw2.pl.resK, hw2.pl.wb, hw2.isR, hw2.cel, hw2.forg, hw2.sam, hw2.lenA, hm1.pl.loc, hm1.pl.nlp, hm1.pl.resK, hm1.pl.wb, hm1.isR, hm1.cel, hm1.forg, hm1.sam, hm1.lenA, hm2.pl.loc, hm2.pl.nlp, hm2.pl.resK, hm2.pl.wb, hm2.isR, hm2.cel, hm2.forg, hm2.sam, hm2.lenA, agT_R hw1.pl, agT_R hw2.pl, hL1, hL2, h15, h34, cpR_pure h18b, h28, h26, cpR_pure h18a, c6, h17, c7, hms, f7, cpR_pure h36r, cpR_pure h36b, cpR_pure h29, hl0, sn, Bool.and_false, Bool.not_true, Bool.not_false, freeze_iv, freeze_nil]
      refine all_works works ?_
      simp (config := { maxSteps := 4000000 }) (disch := omega) only [go_sem, Nat.reduceAdd, Nat.reduceSub, Nat.reduceMul, Nat.reduceLT, Nat.reduceLeDiff, Nat.reduceEqDiff, Nat.reduceBEq, reduceIte, reduceCtorEq, List.replicate, List.cons_append, List.nil_append, Int.reduceEq, Int.reduceLT, Int.reduceLE, Int.reduceAdd, Int.reduceSub, Int.reduceMul, Int.reduceToNat, Int.reduceNeg, Int.reduceBEq, Int.reduceBNe, Int.reduceTDiv, Int.reduceTMod, Int.reducePow, Nat.reducePow, decide_true, decide_false, Nat.reduceDiv, Nat.reduceMod, Int.reduceMod, Int.reduceDiv, Int.reduceNe, Int.reduceFDiv, Nat.reduceLeDiff, beq_self_eq_true, decT, decF, ifT, ifF, eqT, eqF, neT, neF, bytesIV_length, one_length, get_cp, get_cp0, Out.All]
  · cases hms : isMsl (agT nr w2)
    · simp (config := { maxSteps := 8000000 }) (disch := omega) only [t9, go_sem, Nat.reduceAdd, Nat.reduceSub, Nat.reduceMul, Nat.reduceLT, Nat.reduceLeDiff, Nat.reduceEqDiff, Nat.reduceBEq, reduceIte, reduceCtorEq, List.replicate, List.cons_append, List.nil_append, Int.reduceEq, Int.reduceLT, Int.reduceLE, Int.reduceAdd, Int.reduceSub, Int.reduceMul, Int.reduceToNat, Int.reduceNeg, Int.reduceBEq, Int.reduceBNe, Int.reduceTDiv, Int.reduceTMod, Int.reducePow, Nat.reducePow, decide_true, decide_false, Nat.reduceDiv, Nat.reduceMod, Int.reduceMod, Int.reduceDiv, Int.reduceNe, Int.reduceFDiv, Nat.reduceLeDiff, mkAgg_agT hw1.pl, mkAgg_agT hw2.pl, mkAgg_agT hm1.pl, mkAgg_agT hm2.pl, cellsOf_agT hw1.pl, agT_loc hw1.pl, agT_nlp hw1.pl, agT_resK hw1.pl, agT_wb hw1.pl, cellsOf_agT hw2.pl, agT_loc hw2.pl, agT_nlp hw2.pl, agT_resK hw2.pl, agT_wb hw2.pl, cellsOf_agT hm1.pl, agT_loc hm1.pl, agT_nlp hm1.pl, agT_resK hm1.pl, agT_wb hm1.pl, cellsOf_agT hm2.pl, agT_loc hm2.pl, agT_nlp hm2.pl, agT_resK hm2.pl, agT_wb hm2.pl, beq_self_eq_true, decT, decF, ifT, ifF, eqT, eqF, neT, neF, bytesIV_length, one_length, get_cp, get_cp0, hw1.pl.loc, hw1.pl.nlp, hw1.pl.resK, hw1.pl.wb, hw1.isR, hw1.cel, hw1.forg, hw1.sam, hw1.lenA, hw2.pl.loc, hw2.pl.nlp, hw2.pl.resK, hw2.pl.wb, hw2.isR, hw2.cel, hw2.forg, hw2.sam, hw2.lenA, hm1.pl.loc, hm1.pl.nlp, hm1.pl.resK, hm1.pl.wb, hm1.isR, hm1.cel, hm1.forg, hm1.sam, hm1.lenA, hm2.pl.loc, hm2.pl.nlp, hm2.pl.resK, hm2.pl.wb, hm2.isR, hm2.cel, hm2.forg, hm2.sam, hm2.lenA, agT_R hw1.pl, agT_R hw2.pl, hL1, hL2, h15, h34, cpR_pure h18b, h28, h26, cpR_pure h18a, c6, h17, c7, hms, f7, cpR_pure h36r, cpR_pure h36b, cpR_pure h29, hl0, sn, Bool.and_false, Bool.not_true, Bool.not_false, freeze_iv, freeze_nil]
      refine all_works works ?_
      simp (config := { maxSteps := 4000000 }) (disch := omega) only [go_sem, Nat.reduceAdd, Nat.reduceSub, Nat.reduceMul, Nat.reduceLT, Nat.reduceLeDiff, Nat.reduceEqDiff, Nat.reduceBEq, reduceIte, reduceCtorEq, List.replicate, List.cons_append, List.nil_append, Int.reduceEq, Int.reduceLT, Int.reduceLE, Int.reduceAdd, Int.reduceSub, Int.reduceMul, Int.reduceToNat, Int.reduceNeg, Int.reduceBEq, Int.reduceBNe, Int.reduceTDiv, Int.reduceTMod, Int.reducePow, Nat.reducePow, decide_true, decide_false, Nat.reduceDiv, Nat.reduceMod, Int.reduceMod, Int.reduceDiv, Int.reduceNe, Int.reduceFDiv, Nat.reduceLeDiff, beq_self_eq_true, decT, decF, ifT, ifF, eqT, eqF, neT, neF, bytesIV_length, one_length, get_cp, get_cp0, Out.All]
    · simp (config := { maxSteps := 8000000 }) (disch := omega) only [t9, go_sem, Nat.reduceAdd, Nat.reduceSub, Nat.reduceMul, Nat.reduceLT, Nat.reduceLeDiff, Nat.reduceEqDiff, Nat.reduceBEq, reduceIte, reduceCtorEq, List.replicate, List.cons_append, List.nil_append, Int.reduceEq, Int.reduceLT, Int.reduceLE, Int.reduceAdd, Int.reduceSub, Int.reduceMul, Int.reduceToNat, Int.reduceNeg, Int.reduceBEq, Int.reduceBNe, Int.reduceTDiv, Int.reduceTMod, Int.reducePow, Nat.reducePow, decide_true, decide_false, Nat.reduceDiv, Nat.reduceMod, Int.reduceMod, Int.reduceDiv, Int.reduceNe, Int.reduceFDiv, Nat.reduceLeDiff, mkAgg_agT hw1.pl, mkAgg_agT hw2.pl, mkAgg_agT hm1.pl, mkAgg_agT hm2.pl, cellsOf_agT hw1.pl, agT_loc hw1.pl, agT_nlp hw1.pl, agT_resK hw1.pl, agT_wb hw1.pl, cellsOf_agT hw2.pl, agT_loc hw2.pl, agT_nlp hw2.pl, agT_resK hw2.pl, agT_wb hw2.pl, cellsOf_agT hm1.pl, agT_loc hm1.pl, agT_nlp hm1.pl, agT_resK hm1.pl, agT_wb hm1.pl, cellsOf_agT hm2.pl, agT_loc hm2.pl, agT_nlp hm2.pl, agT_resK hm2.pl, agT_wb hm2.pl, beq_self_eq_true, decT, decF, ifT, ifF, eqT, eqF, neT, neF, bytesIV_length, one_length, get_cp, get_cp0, hw1.pl.loc, hw1.pl.nlp, hw1.pl.resK, hw1.pl.wb, hw1.isR, hw1.cel, hw1.forg, hw1.sam, hw1.lenA, hw2.pl.loc, hw2.pl.nlp, hw2.pl.resK, hw2.pl.wb, hw2.isR, hw2.cel, hw2.forg, hw2.sam, hw2.lenA, hm1.pl.loc, hm1.pl.nlp, hm1.pl.resK, hm1.pl.wb, hm1.isR, hm1.cel, hm1.forg, hm1.sam, hm1.lenA, hm2.pl.loc, hm2.pl.nlp, hm2.pl.resK, hm2.pl.wb, hm2.isR, hm2.cel, hm2.forg, hm2.sam, hm2.lenA, agT_R hw1.pl, agT_R hw2.pl, hL1, hL2, h15, h34, cpR_pure h18b, h28, h26, cpR_pure h18a, c6, h17, c7, hms, f7, cpR_pure h36r, cpR_pure h36b, cpR_pure h29, hl0, sn, Bool.and_false, Bool.not_true, Bool.not_false, freeze_iv, freeze_nil]
      refine all_works works ?_
      simp (config := { maxSteps := 4000000 }) (disch := omega) only [go_sem, Nat.reduceAdd, Nat.reduceSub, Nat.reduceMul, Nat.reduceLT, Nat.reduceLeDiff, Nat.reduceEqDiff, Nat.reduceBEq, reduceIte, reduceCtorEq, List.replicate, List.cons_append, List.nil_append, Int.reduceEq, Int.reduceLT, Int.reduceLE, Int.reduceAdd, Int.reduceSub, Int.reduceMul, Int.reduceToNat, Int.reduceNeg, Int.reduceBEq, Int.reduceBNe, Int.reduceTDiv, Int.reduceTMod, Int.reducePow, Nat.reducePow, decide_true, decide_false, Nat.reduceDiv, Nat.reduceMod, Int.reduceMod, Int.reduceDiv, Int.reduceNe, Int.reduceFDiv, Nat.reduceLeDiff, beq_self_eq_true, decT, decF, ifT, ifF, eqT, eqF, neT, neF, bytesIV_length, one_length, get_cp, get_cp0, Out.All]
end Go.Proofs.YtdbffhgfjmhaiaaDoor
