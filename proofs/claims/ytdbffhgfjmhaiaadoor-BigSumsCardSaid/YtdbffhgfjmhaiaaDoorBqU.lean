/- BigSums: the law. Condition: none. -/
import Derived.Test.YtdbffhgfjmhaiaaDoorBqUa
set_option maxRecDepth 100000
set_option maxHeartbeats 4000000
set_option linter.unusedSimpArgs false
set_option linter.unusedVariables false
namespace Go.Proofs.YtdbffhgfjmhaiaaDoor
open Go Go.TM
theorem len_lt {z : Int} {k : Nat} (h : (z.natAbs : Int) < 65536 ^ k) : (dg 65536 z.natAbs).length ≤ k := dg_len (by decide) k _ (by omega) h
theorem pow_10 (k : Nat) : (65536 : Int) ^ k ≤ 10 ^ (5 * k) := by
  rw [Int.pow_mul]
  induction k with
  | zero => simp
  | succ k ih =>
    rw [Int.pow_succ, Int.pow_succ]
    have p1 := pow_pos' (B := 65536) (by decide) k
    have e1 := Int.mul_le_mul_of_nonneg_right ih (show (0 : Int) ≤ 65536 by decide)
    have p2 : (0 : Int) < (10 ^ 5) ^ k := Int.pow_pos (by decide)
    have e2 := Int.mul_le_mul_of_nonneg_left (show (65536 : Int) ≤ 10 ^ 5 by decide) (Int.le_of_lt p2)
    omega
theorem len_lt10 {z : Int} {k : Nat} (h : (z.natAbs : Int) < 65536 ^ k) : (dg 10 z.natAbs).length ≤ 5 * k := dg_len (by decide) (5 * k) _ (by omega) (by have := pow_10 k; omega)
theorem agT_lpis {x : TV} (h : Pl x) (n : Bool) (j : Nat) : lpIs j (agT n x) = false := by
  rcases h with ⟨v, rfl⟩ | ⟨a, b, c, d, e, f, rfl⟩ <;> rfl
theorem DV.tail5 {m : Bool} {P : Nat → Prop} {c0 c1 c2 c3 c4 e0 e1 e2 e3 e4 : Block} {R : Store} {x : TV} {l : List Int} (h : DV m P (c0 :: c1 :: c2 :: c3 :: c4 :: R) x l) (hP : ∀ i, P i → 5 ≤ i) : DV m P (e0 :: e1 :: e2 :: e3 :: e4 :: R) x l := by
  cases h with
  | iv t l h hm => exact .iv t l h hm
  | ms i v off len cap b C l h h1 h2 hP' hl =>
    obtain ⟨j, rfl⟩ : ∃ j, i = j + 5 := ⟨i - 5, by have := hP i hP'; omega⟩
    exact .ms (j + 5) v off len cap b C l (by simpa using h) h1 h2 hP' hl
theorem DV.cong {m : Bool} {P : Nat → Prop} {T T' : Store} {x : TV} {l : List Int} (h : DV m P T x l) (hc : ∀ i, P i → T'[i]? = T[i]?) : DV m P T' x l := by
  cases h with
  | iv t l h hm => exact .iv t l h hm
  | ms i v off len cap b C l h h1 h2 hP hl => exact .ms i v off len cap b C l (by rw [hc i hP]; exact h) h1 h2 hP hl
theorem law6a {t1 t2 : Tag} {a b : List Int} (k1 : TagOk t1 a) (k2 : TagOk t2 b) (n1 n2 : Bool) (da : Dig 65536 a) (db : Dig 65536 b) (la : a.length ≤ 60) (lb : b.length ≤ 60) (x y : Int) (hx : x = sv n1 (val 65536 a)) (hy : y = sv n2 (val 65536 b)) :
    ((lim K).call 6 [.iv (num n1 t1 a), .iv (num n2 t2 b)] []).All fun r => r.1 = .iv (.bool true) := by
  have va := val_nonneg (by decide) da
  have vb := val_nonneg (by decide) db
  have ax : (x.natAbs : Int) = val 65536 a := by rw [hx, abs_sv _ va]
  have ay : (y.natAbs : Int) = val 65536 b := by rw [hy, abs_sv _ vb]
  have bx : (x.natAbs : Int) < 65536 ^ 60 := by
    rw [ax]
    have h2 := val_lt (by decide) da
    have h3 := pow_le' (B := 65536) (by decide) la
    omega
  have by' : (y.natAbs : Int) < 65536 ^ 60 := by
    rw [ay]
    have h2 := val_lt (by decide) db
    have h3 := pow_le' (B := 65536) (by decide) lb
    omega
  have p61 : (65536 : Int) ^ 61 = 65536 ^ 60 * 65536 := Int.pow_succ ..
  have b1 : ((x + y).natAbs : Int) < 65536 ^ 61 := by omega
  have b2 : ((x - y).natAbs : Int) < 65536 ^ 61 := by omega
  have b3 : ((x * y).natAbs : Int) < 65536 ^ 120 := by
    rw [Int.natAbs_mul, Int.pow_add 65536 60 60]
    have e1 := Int.mul_le_mul_of_nonneg_left (Int.le_of_lt by') (show (0 : Int) ≤ x.natAbs by omega)
    have e2 := Int.mul_lt_mul_of_pos_right bx (pow_pos' (B := 65536) (by decide) 60)
    push_cast
    omega
  have l1 := len_lt b1
  have l2 := len_lt b2
  have l3 := len_lt b3
  have m1 := len_lt10 b1
  have m2 := len_lt10 b2
  have m3 := len_lt10 b3
  have mx := len_lt10 bx
  have my := len_lt10 by'
  obtain ⟨ta, ja, h19a⟩ := of_dd n1 t1 a da (by omega) x hx
  obtain ⟨tb, jb, h19b⟩ := of_dd n2 t2 b db (by omega) y hy
  -- what the program reckons
  obtain ⟨c0, hc0⟩ : ∃ c, c = Block.cells 32 false [TV.iv (IV.bool (decide (x < 0))), TV.iv (IV.sl ta (one i64 (dg 10 x.natAbs)))] := ⟨_, rfl⟩
  obtain ⟨c1, hc1⟩ : ∃ c, c = Block.cells 32 false [TV.iv (IV.bool (decide (y < 0))), TV.iv (IV.sl tb (one i64 (dg 10 y.natAbs)))] := ⟨_, rfl⟩
  obtain ⟨cz, hcz⟩ : ∃ c, c = Block.cells 26 false [TV.iv (IV.bool false), TV.iv (IV.sl Tag.nil [])] := ⟨_, rfl⟩
  obtain ⟨w1, R1, hw1, h26⟩ := addV (S := [c0, c1, cz, cz, cz]) (DV.iv (m := false) (P := fun _ => True) t1 a k1 (fun h => by cases h)) (DV.iv (m := false) (P := fun _ => True) t2 b k2 (fun h => by cases h)) n1 n2 da db (by omega) (by omega) (x + y) (by rw [hx, hy])
  obtain ⟨td, jd, h27⟩ := subV k1 k2 n1 n2 da db (by omega) (by omega) (x - y) (by rw [hx, hy])
  obtain ⟨w3, R2, hw3, h28⟩ := mulV (S := [c0, c1, cz, cz, cz] ++ R1) (DV.iv (m := false) (P := fun _ => True) t1 a k1 (fun h => by cases h)) (DV.iv (m := false) (P := fun _ => True) t2 b k2 (fun h => by cases h)) n1 n2 da db (by omega) (by omega) (x * y) (by rw [hx, hy])
  have hv1 := (hw1.weak (Q := fun i => 5 ≤ i ∧ i < 5 + R1.length) (fun i h1 h2 => by simp at h1 h2; omega)).app R2
  have hv3 := hw3.weak (Q := fun i => 5 + R1.length ≤ i) (fun i h1 h2 => by simp at h1 h2; omega)
  simp only [List.cons_append, List.nil_append] at hw1 hw3 h26 h28 hv1 hv3
  -- the document's
  have h29 := call29 n1 n2 t1 t2 a b k1 k2 da db (by omega) (by omega) x y hx hy
  have h30 := refCmp ta tb x y (by omega) (by omega)
  obtain ⟨tA, jA, h31⟩ := refAdd ta tb x y ja jb (by omega) (by omega)
  obtain ⟨tS, jS, h32⟩ := refSub ta tb x y ja jb (by omega) (by omega)
  obtain ⟨tM, jM, h33⟩ := refMul ta tb x y ja jb (by omega) (by omega)
  obtain ⟨e1, he1⟩ : ∃ c, c = Block.cells 26 false [TV.iv (IV.bool (decide (x + y < 0))), w1] := ⟨_, rfl⟩
  obtain ⟨e2, he2⟩ : ∃ c, c = Block.cells 26 false [TV.iv (IV.bool (decide (x - y < 0))), TV.iv (IV.sl td (one d16 (dg 65536 (x - y).natAbs)))] := ⟨_, rfl⟩
  obtain ⟨e3, he3⟩ : ∃ c, c = Block.cells 26 false [TV.iv (IV.bool (decide (x * y < 0))), w3] := ⟨_, rfl⟩
  have hu1 := hv1.tail5 (e0 := c0) (e1 := c1) (e2 := e1) (e3 := e2) (e4 := e3) (fun i h => h.1)
  have hu3 := hv3.tail5 (e0 := c0) (e1 := c1) (e2 := e1) (e3 := e2) (e4 := e3) (fun i h => by omega)
  obtain ⟨tp1, jp1, ca1⟩ := hu1.closeAg (decide (x + y < 0))
  obtain ⟨tp3, jp3, ca3⟩ := hu3.closeAg (decide (x * y < 0))
  have h14a := alike_dd (n := true) (t := tp1) jA (by omega) (by omega)
  have h14s := alike_dd (n := true) (t := td) jS (by omega) (by omega)
  have h14m := alike_dd (n := true) (t := tp3) jM (by omega) (by omega)
  rw [agT_iv, agT_iv] at h26 h28
  have q1 := agT_lpis hw1.pl (decide (x + y < 0))
  have q3 := agT_lpis hw3.pl (decide (x * y < 0))
  unfold lpIs at q1 q3
  simp only [num, bg, dd_eq] at *
  rw [hc0, hc1, hcz] at h26 h28
  rw [hc0, hc1, he1, he2, he3] at ca1 ca3 hu1 hu3
  have sn := scalar_num
  obtain ⟨T1, z14, g1, eA⟩ := loop6b (P := fun i => 5 ≤ i ∧ i < 5 + R1.length) (decide (x + y < 0)) w1 2 (by omega) (.iv (.agg [.bool n1, .sl t1 (one d16 a)])) (.iv (.agg [.bool n2, .sl t2 (one d16 b)])) (.lb [.iv (.bool n1), .iv (.sl t1 (one d16 a))]) (.lb [.iv (.bool n2), .iv (.sl t2 (one d16 b))]) (.iv (.bool false)) (.ptr 0 32 0) (.ptr 1 32 0) (.ptr 3 26 0) (.ptr 4 26 0) (.tup []) (.iv (.bool false)) (.iv (.bool false)) (.tup []) (dg 65536 (x + y).natAbs).length (by omega) _ 0 _ _ (.tup []) (Nat.zero_add _) rfl rfl hu1
  have hy3 := hu3.cong (T' := T1) (fun i hi => g1 i (by omega))
  have g14 := g1 4 (by omega)
  obtain ⟨T2, z15, g2, eB⟩ := loop6c (P := fun i => 5 + R1.length ≤ i) (decide (x * y < 0)) w3 4 (by omega) (.iv (.agg [.bool n1, .sl t1 (one d16 a)])) (.iv (.agg [.bool n2, .sl t2 (one d16 b)])) (.lb [.iv (.bool n1), .iv (.sl t1 (one d16 a))]) (.lb [.iv (.bool n2), .iv (.sl t2 (one d16 b))]) (.iv (.bool false)) (.ptr 0 32 0) (.ptr 1 32 0) (.ptr 2 26 0) (.ptr 3 26 0) (.iv (.int .i64 (dg 65536 (x + y).natAbs).length)) (.iv (.bool false)) (.iv (.bool false)) z14 (dg 65536 (x * y).natAbs).length (by omega) _ 0 _ _ (.tup []) (Nat.zero_add _) rfl g14 hy3
  have f0 := (g2 0 (by omega)).trans (g1 0 (by omega))
  have f1 := (g2 1 (by omega)).trans (g1 1 (by omega))
  simp only [List.getElem?_cons_zero, List.getElem?_cons_succ] at f0 f1
  have h30a := refCmp ta ta x x (by omega) (by omega)
  have h30b := refCmp tb tb y y (by omega) (by omega)
  rw [cmpI_self] at h30a h30b
  simp only [dd_eq] at h30a h30b
  rw [show ((0 : Nat) : Int) = 0 from rfl] at eA eB
  refine call_all' K [] (fn := t6) rfl rfl ?_
  clear hx hy ax ay bx by' p61 b1 b2 b3 hw1 hw3 hv1 hv3
  generalize decide (x < 0) = nx at *
  generalize decide (y < 0) = ny at *
  generalize dg 10 x.natAbs = xl at *
  generalize dg 10 y.natAbs = yl at *
  generalize decide (x + y < 0) = nA at *
  generalize decide (x - y < 0) = nS at *
  generalize decide (x * y < 0) = nM at *
  generalize dg 65536 (x + y).natAbs = LA at *
  generalize dg 65536 (x - y).natAbs = LS at *
  generalize dg 65536 (x * y).natAbs = LM at *
  generalize dg 10 (x + y).natAbs = DA at *
  generalize dg 10 (x - y).natAbs = DS at *
  generalize dg 10 (x * y).natAbs = DM at *
  generalize cmpI x y = r at *
  simp (config := { maxSteps := 8000000 }) (disch := omega) only [t6, go_sem, Nat.reduceAdd, Nat.reduceSub, Nat.reduceMul, Nat.reduceLT, Nat.reduceLeDiff, Nat.reduceEqDiff, Nat.reduceBEq, reduceIte, reduceCtorEq, List.replicate, List.cons_append, List.nil_append, Int.reduceEq, Int.reduceLT, Int.reduceLE, Int.reduceAdd, Int.reduceSub, Int.reduceMul, Int.reduceToNat, Int.reduceNeg, Int.reduceBEq, Int.reduceBNe, Int.reduceTDiv, Int.reduceTMod, Int.reducePow, Nat.reducePow, decide_true, decide_false, Nat.reduceDiv, Nat.reduceMod, Int.reduceMod, Int.reduceDiv, Int.reduceNe, Int.reduceFDiv, Nat.reduceLeDiff, beq_self_eq_true, decT, decF, ifT, ifF, eqT, eqF, neT, neF, bytesIV_length, one_length, get_cp, get_cp0, mkAgg_agT hu1.pl, mkAgg_agT hu3.pl, cellsOf_agT hu1.pl, agT_loc hu1.pl, agT_nlp hu1.pl, agT_resK hu1.pl, agT_wb hu1.pl, cellsOf_agT hu3.pl, agT_loc hu3.pl, agT_nlp hu3.pl, agT_resK hu3.pl, agT_wb hu3.pl, hu1.pl.loc, hu1.pl.nlp, hu1.pl.resK, hu1.pl.wb, hu1.isR, hu1.cel, hu1.forg, hu1.sam, hu1.lenA, hu3.pl.loc, hu3.pl.nlp, hu3.pl.resK, hu3.pl.wb, hu3.isR, hu3.cel, hu3.forg, hu3.sam, hu3.lenA, agT_R hu1.pl, agT_R hu3.pl, q1, q3, cpR_pure h19a, cpR_pure h19b, h26, cpR_pure h27, h28, cpR_pure h29, h30, cpR_pure h31, cpR_pure h32, cpR_pure h33, ca1, ca3, cpR_pure h14a, cpR_pure h14s, cpR_pure h14m, sn, Bool.and_false, Bool.not_true, Bool.not_false, freeze_iv, freeze_nil, eA, eB, f0, f1, h30a, h30b]
  refine all_works works ?_
  simp (config := { maxSteps := 4000000 }) (disch := omega) only [go_sem, Nat.reduceAdd, Nat.reduceSub, Nat.reduceMul, Nat.reduceLT, Nat.reduceLeDiff, Nat.reduceEqDiff, Nat.reduceBEq, reduceIte, reduceCtorEq, List.replicate, List.cons_append, List.nil_append, Int.reduceEq, Int.reduceLT, Int.reduceLE, Int.reduceAdd, Int.reduceSub, Int.reduceMul, Int.reduceToNat, Int.reduceNeg, Int.reduceBEq, Int.reduceBNe, Int.reduceTDiv, Int.reduceTMod, Int.reducePow, Nat.reducePow, decide_true, decide_false, Nat.reduceDiv, Nat.reduceMod, Int.reduceMod, Int.reduceDiv, Int.reduceNe, Int.reduceFDiv, Nat.reduceLeDiff, beq_self_eq_true, decT, decF, ifT, ifF, eqT, eqF, neT, neF, bytesIV_length, one_length, get_cp, get_cp0, Out.All]
theorem law6c {t1 t2 : Tag} {a b : List Int} (n1 n2 : Bool) (la : a.length ≤ 9223372036854775807) (lb : b.length ≤ 9223372036854775807) (h : 60 < a.length ∨ 60 < b.length) :
    ((lim K).call 6 [.iv (num n1 t1 a), .iv (num n2 t2 b)] []).All fun r => r.1 = .iv (.bool true) := by
  simp only [num] at *
  refine call_all' K [] (fn := t6) rfl rfl ?_
  by_cases h1 : 60 < a.length
  · simp (config := { maxSteps := 8000000 }) (disch := omega) only [t6, go_sem, Nat.reduceAdd, Nat.reduceSub, Nat.reduceMul, Nat.reduceLT, Nat.reduceLeDiff, Nat.reduceEqDiff, Nat.reduceBEq, reduceIte, reduceCtorEq, List.replicate, List.cons_append, List.nil_append, Int.reduceEq, Int.reduceLT, Int.reduceLE, Int.reduceAdd, Int.reduceSub, Int.reduceMul, Int.reduceToNat, Int.reduceNeg, Int.reduceBEq, Int.reduceBNe, Int.reduceTDiv, Int.reduceTMod, Int.reducePow, Nat.reducePow, decide_true, decide_false, Nat.reduceDiv, Nat.reduceMod, Int.reduceMod, Int.reduceDiv, Int.reduceNe, Int.reduceFDiv, Nat.reduceLeDiff, beq_self_eq_true, decT, decF, ifT, ifF, eqT, eqF, neT, neF, bytesIV_length, one_length, get_cp, get_cp0]
    refine all_works works ?_
    simp (config := { maxSteps := 4000000 }) (disch := omega) only [go_sem, Nat.reduceAdd, Nat.reduceSub, Nat.reduceMul, Nat.reduceLT, Nat.reduceLeDiff, Nat.reduceEqDiff, Nat.reduceBEq, reduceIte, reduceCtorEq, List.replicate, List.cons_append, List.nil_append, Int.reduceEq, Int.reduceLT, Int.reduceLE, Int.reduceAdd, Int.reduceSub, Int.reduceMul, Int.reduceToNat, Int.reduceNeg, Int.reduceBEq, Int.reduceBNe, Int.reduceTDiv, Int.reduceTMod, Int.reducePow, Nat.reducePow, decide_true, decide_false, Nat.reduceDiv, Nat.reduceMod, Int.reduceMod, Int.reduceDiv, Int.reduceNe, Int.reduceFDiv, Nat.reduceLeDiff, beq_self_eq_true, decT, decF, ifT, ifF, eqT, eqF, neT, neF, bytesIV_length, one_length, get_cp, get_cp0, Out.All]
  · simp (config := { maxSteps := 8000000 }) (disch := omega) only [t6, go_sem, Nat.reduceAdd, Nat.reduceSub, Nat.reduceMul, Nat.reduceLT, Nat.reduceLeDiff, Nat.reduceEqDiff, Nat.reduceBEq, reduceIte, reduceCtorEq, List.replicate, List.cons_append, List.nil_append, Int.reduceEq, Int.reduceLT, Int.reduceLE, Int.reduceAdd, Int.reduceSub, Int.reduceMul, Int.reduceToNat, Int.reduceNeg, Int.reduceBEq, Int.reduceBNe, Int.reduceTDiv, Int.reduceTMod, Int.reducePow, Nat.reducePow, decide_true, decide_false, Nat.reduceDiv, Nat.reduceMod, Int.reduceMod, Int.reduceDiv, Int.reduceNe, Int.reduceFDiv, Nat.reduceLeDiff, beq_self_eq_true, decT, decF, ifT, ifF, eqT, eqF, neT, neF, bytesIV_length, one_length, get_cp, get_cp0]
    refine all_works works ?_
    simp (config := { maxSteps := 4000000 }) (disch := omega) only [go_sem, Nat.reduceAdd, Nat.reduceSub, Nat.reduceMul, Nat.reduceLT, Nat.reduceLeDiff, Nat.reduceEqDiff, Nat.reduceBEq, reduceIte, reduceCtorEq, List.replicate, List.cons_append, List.nil_append, Int.reduceEq, Int.reduceLT, Int.reduceLE, Int.reduceAdd, Int.reduceSub, Int.reduceMul, Int.reduceToNat, Int.reduceNeg, Int.reduceBEq, Int.reduceBNe, Int.reduceTDiv, Int.reduceTMod, Int.reducePow, Nat.reducePow, decide_true, decide_false, Nat.reduceDiv, Nat.reduceMod, Int.reduceMod, Int.reduceDiv, Int.reduceNe, Int.reduceFDiv, Nat.reduceLeDiff, beq_self_eq_true, decT, decF, ifT, ifF, eqT, eqF, neT, neF, bytesIV_length, one_length, get_cp, get_cp0, Out.All]
theorem law6 {t1 t2 : Tag} {a b : List Int} (k1 : TagOk t1 a) (k2 : TagOk t2 b) (n1 n2 : Bool) (da : Dig 65536 a) (db : Dig 65536 b) (la : a.length ≤ 9223372036854775807) (lb : b.length ≤ 9223372036854775807) :
    ((lim K).call 6 [.iv (num n1 t1 a), .iv (num n2 t2 b)] []).All fun r => r.1 = .iv (.bool true) := by
  by_cases h : 60 < a.length ∨ 60 < b.length
  · exact law6c n1 n2 la lb h
  · exact law6a k1 k2 n1 n2 da db (by omega) (by omega) _ _ rfl rfl
end Go.Proofs.YtdbffhgfjmhaiaaDoor
