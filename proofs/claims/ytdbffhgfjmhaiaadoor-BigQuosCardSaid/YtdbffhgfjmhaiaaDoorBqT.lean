/- BigQuos: the law. Condition: none. -/
import Derived.Test.YtdbffhgfjmhaiaaDoorBqVa
import Derived.Test.YtdbffhgfjmhaiaaDoorBqTy
set_option maxRecDepth 100000
set_option maxHeartbeats 4000000
set_option linter.unusedSimpArgs false
set_option linter.unusedVariables false
namespace Go.Proofs.YtdbffhgfjmhaiaaDoor
open Go Go.TM
theorem law8a {t1 t2 : Tag} {a b : List Int} (k1 : TagOk t1 a) (k2 : TagOk t2 b) (n1 n2 : Bool) (da : Dig 65536 a) (db : Dig 65536 b) (la : a.length ≤ 60) (lb : b.length ≤ 60) (hb : val 65536 b ≠ 0) (x y : Int) (hx : x = sv n1 (val 65536 a)) (hy : y = sv n2 (val 65536 b)) :
    ((lim K).call 8 [.iv (num n1 t1 a), .iv (num n2 t2 b)] []).All fun r => r.1 = .iv (.bool true) := by
  have va := val_nonneg (by decide) da
  have vb := val_nonneg (by decide) db
  have ax : (x.natAbs : Int) = val 65536 a := by rw [hx, abs_sv _ va]
  have ay : (y.natAbs : Int) = val 65536 b := by rw [hy, abs_sv _ vb]
  have bx : (x.natAbs : Int) < 65536 ^ 60 := by
    rw [ax]
    have h2 := val_lt (by decide) da
    have h3 := pow_le' (B := 65536) (by decide) la
    omega
  have by' : (y.natAbs : Int) < 65536 ^ 60 := by
    rw [ay]
    have h2 := val_lt (by decide) db
    have h3 := pow_le' (B := 65536) (by decide) lb
    omega
  have hy0 : y ≠ 0 := by intro h; rw [h] at ay; exact hb (by rw [← ay]; rfl)
  have hq := Int.natAbs_tdiv x y
  have hr := Int.natAbs_tmod x y
  have hqle : (x.tdiv y).natAbs ≤ x.natAbs := by rw [hq]; exact Nat.div_le_self _ _
  have hrlt : (x.tmod y).natAbs < y.natAbs := by rw [hr]; exact Nat.mod_lt _ (by omega)
  have b1 : ((x.tdiv y).natAbs : Int) < 65536 ^ 60 := by omega
  have b2 : ((x.tmod y).natAbs : Int) < 65536 ^ 60 := by omega
  have l1 := len_lt b1
  have l2 := len_lt b2
  have m1 := len_lt10 b1
  have m2 := len_lt10 b2
  have mx := len_lt10 bx
  have my := len_lt10 by'
  obtain ⟨ta, ja, h19a⟩ := of_dd n1 t1 a da (by omega) x hx
  obtain ⟨tb, jb, h19b⟩ := of_dd n2 t2 b db (by omega) y hy
  obtain ⟨c0, hc0⟩ : ∃ c, c = Block.cells 32 false [TV.iv (IV.bool (decide (x < 0))), TV.iv (IV.sl ta (one i64 (dg 10 x.natAbs)))] := ⟨_, rfl⟩
  obtain ⟨c1, hc1⟩ : ∃ c, c = Block.cells 32 false [TV.iv (IV.bool (decide (y < 0))), TV.iv (IV.sl tb (one i64 (dg 10 y.natAbs)))] := ⟨_, rfl⟩
  obtain ⟨w1, w2, R, hw1, hw2, h34⟩ := quoV k1 k2 n1 n2 da db (by omega) (by omega) hb x y hx hy [c0, c1]
  simp only [List.cons_append, List.nil_append] at hw1 hw2 h34
  obtain ⟨t3, t4, j3, j4, h35⟩ := refQuo ta tb x y hy0 ja jb (by omega) (by omega)
  obtain ⟨tp1, jp1, ca1⟩ := hw1.closeAg (decide (x.tdiv y < 0))
  obtain ⟨tp2, jp2, ca2⟩ := hw2.closeAg (decide (x.tmod y < 0))
  have h14a := alike_dd (n := true) (t := tp1) j3 (by omega) (by omega)
  have h14m := alike_dd (n := true) (t := tp2) j4 (by omega) (by omega)
  have q1 := agT_lpis hw1.pl (decide (x.tdiv y < 0))
  have q3 := agT_lpis hw2.pl (decide (x.tmod y < 0))
  unfold lpIs at q1 q3
  obtain ⟨T1, z17, g1, eA⟩ := loop8a (P := fun i => [c0, c1].length ≤ i) (decide (x.tmod y < 0)) w2 (.iv (.agg [.bool n1, .sl t1 (one d16 a)])) (.iv (.agg [.bool n2, .sl t2 (one d16 b)])) (.lb [.iv (.bool n1), .iv (.sl t1 (one d16 a))]) (.lb [.iv (.bool n2), .iv (.sl t2 (one d16 b))]) (.iv (.bool false)) (.ptr 0 32 0) (.ptr 1 32 0) (.lb [.iv (.bool (decide (x.tdiv y < 0))), w1]) (.iv (.int .i64 0)) (.lb [.iv (.bool (decide (x.tdiv y < 0))), .iv (.sl t3 (one i64 (dg 10 (x.tdiv y).natAbs)))]) (.lb [.iv (.bool (decide (x.tmod y < 0))), .iv (.sl t4 (one i64 (dg 10 (x.tmod y).natAbs)))]) (.iv (.int .i64 0)) (.iv (.bool true)) (.iv (.bool false)) (.iv (.bool false)) (dg 65536 (x.tmod y).natAbs).length (by omega) _ 0 _ _ (.tup []) (Nat.zero_add _) rfl hw2
  have f0 := g1 0 (by simp)
  have f1 := g1 1 (by simp)
  simp only [List.getElem?_cons_zero, List.getElem?_cons_succ] at f0 f1
  have h30a := refCmp ta ta x x (by omega) (by omega)
  have h30b := refCmp tb tb y y (by omega) (by omega)
  rw [cmpI_self] at h30a h30b
  rw [show ((0 : Nat) : Int) = 0 from rfl] at eA
  simp only [num, bg, dd_eq] at *
  rw [hc0, hc1] at h34 ca1 ca2 eA hw1 hw2
  rw [hc0] at f0
  rw [hc1] at f1
  have sn := scalar_num
  refine call_all' K [] (fn := t8) rfl rfl ?_
  clear hx hy ax ay bx by' b1 b2 hq hr hqle hrlt hc0 hc1 g1
  generalize decide (x < 0) = nx at *
  generalize decide (y < 0) = ny at *
  generalize dg 10 x.natAbs = xl at *
  generalize dg 10 y.natAbs = yl at *
  generalize decide (x.tdiv y < 0) = nQ at *
  generalize decide (x.tmod y < 0) = nM at *
  generalize dg 65536 (x.tdiv y).natAbs = LQ at *
  generalize dg 65536 (x.tmod y).natAbs = LM at *
  generalize dg 10 (x.tdiv y).natAbs = DQ at *
  generalize dg 10 (x.tmod y).natAbs = DM at *
  simp (config := { maxSteps := 8000000 }) (disch := omega) only [t8, go_sem, Nat.reduceAdd, Nat.reduceSub, Nat.reduceLT, Nat.reduceLeDiff, Nat.reduceEqDiff, Nat.reduceBEq, reduceIte, reduceCtorEq, Int.reduceEq, Int.reduceLT, Int.reduceLE, Int.reduceAdd, Int.reduceSub, Int.reduceMul, Int.reduceToNat, Int.reduceNeg, Int.reduceBEq, Int.reducePow, Nat.reducePow, mkAgg_agT hw1.pl, mkAgg_agT hw2.pl, cellsOf_agT hw1.pl, agT_loc hw1.pl, agT_nlp hw1.pl, agT_resK hw1.pl, agT_wb hw1.pl, cellsOf_agT hw2.pl, agT_loc hw2.pl, agT_nlp hw2.pl, agT_resK hw2.pl, agT_wb hw2.pl, hw1.pl.loc, hw1.pl.nlp, hw1.pl.resK, hw1.pl.wb, hw1.isR, hw1.cel, hw1.forg, hw1.sam, hw1.lenA, hw2.pl.loc, hw2.pl.nlp, hw2.pl.resK, hw2.pl.wb, hw2.isR, hw2.cel, hw2.forg, hw2.sam, hw2.lenA, agT_R hw1.pl, agT_R hw2.pl, q1, q3, cpR_pure h19a, cpR_pure h19b, h34, cpR_pure h35, ca1, ca2, cpR_pure h14a, cpR_pure h14m, sn, Bool.and_false, Bool.not_true, Bool.not_false, freeze_iv, freeze_nil, eA, f0, f1, h30a, h30b]
  refine all_works works ?_
  simp (config := { maxSteps := 4000000 }) (disch := omega) only [go_sem, Nat.reduceAdd, Nat.reduceSub, Nat.reduceLT, Nat.reduceLeDiff, Nat.reduceEqDiff, Nat.reduceBEq, reduceIte, reduceCtorEq, Int.reduceEq, Int.reduceLT, Int.reduceLE, Int.reduceAdd, Int.reduceSub, Int.reduceMul, Int.reduceToNat, Int.reduceNeg, Int.reduceBEq, Int.reducePow, Nat.reducePow, Out.All]
theorem law8b {t1 t2 : Tag} {a b : List Int} (k1 : TagOk t1 a) (k2 : TagOk t2 b) (n1 n2 : Bool) (da : Dig 65536 a) (db : Dig 65536 b) (la : a.length ≤ 60) (lb : b.length ≤ 60) (hb : val 65536 b = 0) (x : Int) (hx : x = sv n1 (val 65536 a)) :
    ((lim K).call 8 [.iv (num n1 t1 a), .iv (num n2 t2 b)] []).All fun r => r.1 = .iv (.bool true) := by
  obtain ⟨ta, ja, h19a⟩ := of_dd n1 t1 a da (by omega) x hx
  obtain ⟨tb, jb, h19b⟩ := of_dd n2 t2 b db (by omega) 0 (by rw [hb]; cases n2 <;> rfl)
  have h34 := quo0 k1 k2 n1 n2 da db (by omega) (by omega) hb [Block.cells 32 false [TV.iv (IV.bool (decide (x < 0))), TV.iv (IV.sl ta (one i64 (dg 10 x.natAbs)))], Block.cells 32 false [TV.iv (IV.bool (decide ((0 : Int) < 0))), TV.iv (IV.sl tb (one i64 (dg 10 ((0 : Int).natAbs : Int))))]]
  have h35 := refQuo0 ta tb x []
  have h14 := call14 false false .nil .nil [] 0 (by decide) (by decide) (by rw [dg_zero]; exact TagOk.nil) (by rw [dg_zero]; decide)
  rw [dg_zero, dg_zero] at h14
  have e1 : one d16 [] = [] := rfl
  have e2 : one i64 [] = [] := rfl
  have e3 : decide (false = false ∧ ([] : List Int) = []) = true := by decide
  rw [e3] at h14
  simp only [num, dd_eq, dnum, e1, e2] at *
  have sn := scalar_num
  refine call_all' K [] (fn := t8) rfl rfl ?_
  generalize decide (x < 0) = nx at *
  generalize decide ((0 : Int) < 0) = ny at *
  generalize dg 10 x.natAbs = xl at *
  generalize dg 10 ((0 : Int).natAbs : Int) = yl at *
  simp (config := { maxSteps := 8000000 }) (disch := omega) only [t8, go_sem, Nat.reduceAdd, Nat.reduceSub, Nat.reduceLT, Nat.reduceLeDiff, Nat.reduceEqDiff, Nat.reduceBEq, reduceIte, reduceCtorEq, Int.reduceEq, Int.reduceLT, Int.reduceLE, Int.reduceAdd, Int.reduceSub, Int.reduceMul, Int.reduceToNat, Int.reduceNeg, Int.reduceBEq, Int.reducePow, Nat.reducePow, cpR_pure h19a, cpR_pure h19b, h34, cpR_pure h35, cpR_pure h14, sn, Bool.and_false, Bool.not_true, Bool.not_false, freeze_iv, freeze_nil]
  refine all_works works ?_
  simp (config := { maxSteps := 4000000 }) (disch := omega) only [go_sem, Nat.reduceAdd, Nat.reduceSub, Nat.reduceLT, Nat.reduceLeDiff, Nat.reduceEqDiff, Nat.reduceBEq, reduceIte, reduceCtorEq, Int.reduceEq, Int.reduceLT, Int.reduceLE, Int.reduceAdd, Int.reduceSub, Int.reduceMul, Int.reduceToNat, Int.reduceNeg, Int.reduceBEq, Int.reducePow, Nat.reducePow, Out.All]
theorem law8c {t1 t2 : Tag} {a b : List Int} (n1 n2 : Bool) (la : a.length ≤ 9223372036854775807) (lb : b.length ≤ 9223372036854775807) (h : 60 < a.length ∨ 60 < b.length) :
    ((lim K).call 8 [.iv (num n1 t1 a), .iv (num n2 t2 b)] []).All fun r => r.1 = .iv (.bool true) := by
  simp only [num] at *
  refine call_all' K [] (fn := t8) rfl rfl ?_
  by_cases h1 : 60 < a.length
  · simp (config := { maxSteps := 8000000 }) (disch := omega) only [t8, go_sem, Nat.reduceAdd, Nat.reduceSub, Nat.reduceLT, Nat.reduceLeDiff, Nat.reduceEqDiff, Nat.reduceBEq, reduceIte, reduceCtorEq, Int.reduceEq, Int.reduceLT, Int.reduceLE, Int.reduceAdd, Int.reduceSub, Int.reduceMul, Int.reduceToNat, Int.reduceNeg, Int.reduceBEq, Int.reducePow, Nat.reducePow]
    refine all_works works ?_
    simp (config := { maxSteps := 4000000 }) (disch := omega) only [go_sem, Nat.reduceAdd, Nat.reduceSub, Nat.reduceLT, Nat.reduceLeDiff, Nat.reduceEqDiff, Nat.reduceBEq, reduceIte, reduceCtorEq, Int.reduceEq, Int.reduceLT, Int.reduceLE, Int.reduceAdd, Int.reduceSub, Int.reduceMul, Int.reduceToNat, Int.reduceNeg, Int.reduceBEq, Int.reducePow, Nat.reducePow, Out.All]
  · simp (config := { maxSteps := 8000000 }) (disch := omega) only [t8, go_sem, Nat.reduceAdd, Nat.reduceSub, Nat.reduceLT, Nat.reduceLeDiff, Nat.reduceEqDiff, Nat.reduceBEq, reduceIte, reduceCtorEq, Int.reduceEq, Int.reduceLT, Int.reduceLE, Int.reduceAdd, Int.reduceSub, Int.reduceMul, Int.reduceToNat, Int.reduceNeg, Int.reduceBEq, Int.reducePow, Nat.reducePow]
    refine all_works works ?_
    simp (config := { maxSteps := 4000000 }) (disch := omega) only [go_sem, Nat.reduceAdd, Nat.reduceSub, Nat.reduceLT, Nat.reduceLeDiff, Nat.reduceEqDiff, Nat.reduceBEq, reduceIte, reduceCtorEq, Int.reduceEq, Int.reduceLT, Int.reduceLE, Int.reduceAdd, Int.reduceSub, Int.reduceMul, Int.reduceToNat, Int.reduceNeg, Int.reduceBEq, Int.reducePow, Nat.reducePow, Out.All]
theorem law8 {t1 t2 : Tag} {a b : List Int} (k1 : TagOk t1 a) (k2 : TagOk t2 b) (n1 n2 : Bool) (da : Dig 65536 a) (db : Dig 65536 b) (la : a.length ≤ 9223372036854775807) (lb : b.length ≤ 9223372036854775807) :
    ((lim K).call 8 [.iv (num n1 t1 a), .iv (num n2 t2 b)] []).All fun r => r.1 = .iv (.bool true) := by
  by_cases h : 60 < a.length ∨ 60 < b.length
  · exact law8c n1 n2 la lb h
  · by_cases hb : val 65536 b = 0
    · exact law8b k1 k2 n1 n2 da db (by omega) (by omega) hb _ rfl
    · exact law8a k1 k2 n1 n2 da db (by omega) (by omega) hb _ _ rfl rfl
end Go.Proofs.YtdbffhgfjmhaiaaDoor
