/- The contract of Quo. Condition: none. -/
import Derived.Test.YtdbffhgfjmhaiaaDoorBqO
import Derived.Test.YtdbffhgfjmhaiaaDoorBqQz
set_option maxRecDepth 100000
set_option maxHeartbeats 2000000
set_option linter.unusedSimpArgs false
set_option linter.unusedVariables false
namespace Go.Proofs.YtdbffhgfjmhaiaaDoor
open Go Go.TM
theorem quo0 {t1 t2 : Tag} {a b : List Int} (k1 : TagOk t1 a) (k2 : TagOk t2 b) (n1 n2 : Bool) (da : Dig 65536 a) (db : Dig 65536 b) (la : a.length ≤ 700) (lb : b.length ≤ 700) (hb : val 65536 b = 0) (S : Store) :
    (lim K).call 34 [.iv (num n1 t1 a), .iv (num n2 t2 b)] S = .ret (.tup [.iv (.agg [.bool false, .sl .nil []]), .iv (.agg [.bool false, .sl .nil []]), .iv (.int .i64 15)], S) := by
  obtain ⟨x, hx, ex⟩ := trimV (S := S) (DV.iv (m := false) (P := fun _ => True) t1 a k1 (fun h => by cases h)) (by omega)
  obtain ⟨y, hy, ey⟩ := trimV (S := S) (DV.iv (m := false) (P := fun _ => True) t2 b k2 (fun h => by cases h)) (by omega)
  have hy0 : tr b = [] := by rw [tr_eq (by decide) db, hb, dg_zero]
  rw [hy0] at hy
  refine call_ret' K S (fn := t34) rfl rfl ?_
  simp only [num]
  simp (config := { maxSteps := 4000000 }) (disch := omega) only [t34, go_sem, Nat.reduceAdd, Nat.reduceSub, Nat.reduceLT, Nat.reduceLeDiff, Nat.reduceEqDiff, Nat.reduceBEq, reduceIte, reduceCtorEq, Int.reduceEq, Int.reduceLT, Int.reduceLE, Int.reduceAdd, Int.reduceSub, Int.reduceMul, Int.reduceToNat, Int.reduceNeg, Int.reduceBEq, Int.reducePow, Nat.reducePow, hx.pl.loc, hx.pl.nlp, hx.pl.resK, hx.pl.wb, hx.isR, hx.cel, hx.forg, hx.sam, hx.lenA, hy.pl.loc, hy.pl.nlp, hy.pl.resK, hy.pl.wb, hy.isR, hy.cel, hy.forg, hy.sam, hy.lenA, ex, ey, List.length_nil]
theorem quo1 {t1 t2 : Tag} {a b : List Int} (k1 : TagOk t1 a) (k2 : TagOk t2 b) (n1 n2 : Bool) (da : Dig 65536 a) (db : Dig 65536 b) (la : a.length ≤ 700) (lb : b.length ≤ 700) (hb : val 65536 b ≠ 0) (hab : val 65536 a < val 65536 b) (S : Store) :
    ∃ w1 w2 R, DV true (fun i => S.length ≤ i) (S ++ R) w1 (dg 65536 (val 65536 a / val 65536 b)) ∧ DV true (fun i => S.length ≤ i) (S ++ R) w2 (dg 65536 (val 65536 a % val 65536 b)) ∧ (lim K).call 34 [.iv (num n1 t1 a), .iv (num n2 t2 b)] S = .ret (.tup [agT (decide (sv (!(n1 == n2)) (val 65536 a / val 65536 b) < 0)) w1, agT (decide (sv n1 (val 65536 a % val 65536 b) < 0)) w2, .iv (.int .i64 0)], S ++ R) := by
  have va := val_nonneg (by decide) da
  have vb := val_nonneg (by decide) db
  obtain ⟨x, hx, ex⟩ := trimV (S := S) (DV.iv (m := false) (P := fun _ => False) t1 a k1 (fun h => by cases h)) (by omega)
  obtain ⟨y, hy, ey⟩ := trimV (S := S) (DV.iv (m := false) (P := fun _ => False) t2 b k2 (fun h => by cases h)) (by omega)
  obtain ⟨u1, j1, -, c1, -⟩ := hx.res
  obtain ⟨u2, j2, -, c2, -⟩ := hy.res
  have h54 := call54 u1 u2 _ _ j1 j2 da.tr db.tr (by have := tr_len a; omega) (by have := tr_len b; omega)
  rw [val_tr, val_tr, cmpI_lt hab] at h54
  have hlb : 0 < (tr b).length := by
    rcases Nat.eq_zero_or_pos (tr b).length with h | h
    · exfalso
      apply hb
      rw [← val_tr, List.length_eq_zero_iff.1 h]
      rfl
    · exact h
  have hqz : val 65536 a / val 65536 b = 0 := Int.ediv_eq_zero_of_lt va hab
  have hrz : val 65536 a % val 65536 b = val 65536 a := Int.emod_eq_of_lt va hab
  rw [hqz, hrz]
  cases hx with
  | ms i v off len cap b C l h h1 h2 hP hl => exact hP.elim
  | iv t _ ht hm =>
    obtain ⟨z, R, hz, h50⟩ := cloneV t (tr a) ht (by have := tr_len a; omega) S
    obtain ⟨w1, hw1, e1⟩ := tidyV (DV.iv (m := true) (P := fun i => S.length ≤ i) (S := S ++ R) .nil [] TagOk.nil (fun _ => rfl)) Dig.nil (by simp) (!(n1 == n2))
    obtain ⟨w2, hw2, e2⟩ := tidyV hz da.tr (by have := tr_len a; omega) n1
    rw [val_tr] at e2 hw2
    have e00 : val 65536 [] = 0 := rfl
    have e01 : one d16 [] = [] := rfl
    rw [e00] at e1 hw1
    rw [e01] at e1
    refine ⟨w1, w2, R, hw1, hw2, call_ret' K S (fn := t34) rfl rfl ?_⟩
    simp only [num]
    simp (config := { maxSteps := 4000000 }) (disch := omega) only [t34, go_sem, Nat.reduceAdd, Nat.reduceSub, Nat.reduceLT, Nat.reduceLeDiff, Nat.reduceEqDiff, Nat.reduceBEq, reduceIte, reduceCtorEq, Int.reduceEq, Int.reduceLT, Int.reduceLE, Int.reduceAdd, Int.reduceSub, Int.reduceMul, Int.reduceToNat, Int.reduceNeg, Int.reduceBEq, Int.reducePow, Nat.reducePow, mkAgg_agT hw1.pl, mkAgg_agT hw2.pl, cellsOf_agT hw1.pl, agT_loc hw1.pl, agT_nlp hw1.pl, agT_resK hw1.pl, agT_wb hw1.pl, cellsOf_agT hw2.pl, agT_loc hw2.pl, agT_nlp hw2.pl, agT_resK hw2.pl, agT_wb hw2.pl, hy.pl.loc, hy.pl.nlp, hy.pl.resK, hy.pl.wb, hy.isR, hy.cel, hy.forg, hy.sam, hy.lenA, hz.pl.loc, hz.pl.nlp, hz.pl.resK, hz.pl.wb, hz.isR, hz.cel, hz.forg, hz.sam, hz.lenA, hw1.pl.loc, hw1.pl.nlp, hw1.pl.resK, hw1.pl.wb, hw1.isR, hw1.cel, hw1.forg, hw1.sam, hw1.lenA, hw2.pl.loc, hw2.pl.nlp, hw2.pl.resK, hw2.pl.wb, hw2.isR, hw2.cel, hw2.forg, hw2.sam, hw2.lenA, ex, ey, c1, c2, h54, h50, e1, e2, Bool.and_false, Bool.not_true]
theorem flat_one1 (n : Int) : flat [[TV.iv (IV.int IntKind.u16 n)]] = cellsF d16 [n] := rfl
theorem quo2 {t1 t2 : Tag} {a b : List Int} (k1 : TagOk t1 a) (k2 : TagOk t2 b) (n1 n2 : Bool) (da : Dig 65536 a) (db : Dig 65536 b) (la : a.length ≤ 700) (lb : b.length ≤ 700) (hab : val 65536 b ≤ val 65536 a) (y0 : Int) (hy1 : tr b = [y0]) (S : Store) :
    ∃ w1 w2 R, DV true (fun i => S.length ≤ i) (S ++ R) w1 (dg 65536 (val 65536 a / val 65536 b)) ∧ DV true (fun i => S.length ≤ i) (S ++ R) w2 (dg 65536 (val 65536 a % val 65536 b)) ∧ (lim K).call 34 [.iv (num n1 t1 a), .iv (num n2 t2 b)] S = .ret (.tup [agT (decide (sv (!(n1 == n2)) (val 65536 a / val 65536 b) < 0)) w1, agT (decide (sv n1 (val 65536 a % val 65536 b) < 0)) w2, .iv (.int .i64 0)], S ++ R) := by
  have va := val_nonneg (by decide) da
  have vb := val_nonneg (by decide) db
  have ltr := tr_len a
  obtain ⟨x, hx, ex⟩ := trimV (S := S) (DV.iv (m := false) (P := fun _ => False) t1 a k1 (fun h => by cases h)) (by omega)
  obtain ⟨y, hy, ey⟩ := trimV (S := S) (DV.iv (m := false) (P := fun _ => False) t2 b k2 (fun h => by cases h)) (by omega)
  obtain ⟨u1, j1, -, c1, -⟩ := hx.res
  obtain ⟨u2, j2, -, c2, -⟩ := hy.res
  have h54 := call54 u1 u2 _ _ j1 j2 da.tr db.tr (by omega) (by have := tr_len b; omega)
  have hcn : ¬ cmpI (val 65536 (tr a)) (val 65536 (tr b)) < 0 := by rw [cmpI_neg, val_tr, val_tr]; omega
  generalize cmpI (val 65536 (tr a)) (val 65536 (tr b)) = r at *
  have dy : 0 ≤ y0 ∧ y0 < 65536 := db.tr y0 (by rw [hy1]; simp)
  have hvb : val 65536 b = y0 := by rw [← val_tr, hy1]; simp [val]
  have hy0 : y0 ≠ 0 := by
    intro h
    have := tr_tr b
    rw [hy1, h] at this
    simp [tr] at this
  rw [hy1] at hy c2 h54
  obtain ⟨p, p1, p2⟩ := hy.idx (i := 0) (by simp)
  have e0 : [y0].getD (0 : Int).toNat default = y0 := rfl
  rw [e0] at p2
  obtain ⟨lv, R, hl, h45⟩ := partedV hx da.tr (by omega) y0 (by omega)
  rw [val_tr] at hl h45
  have hr0 : 0 ≤ val 65536 a % y0 := Int.emod_nonneg _ hy0
  have hr1 : val 65536 a % y0 < y0 := Int.emod_lt_of_pos _ (by omega)
  have hq0 : 0 ≤ val 65536 a / y0 := Int.ediv_nonneg va (by omega)
  obtain ⟨T, hT⟩ : ∃ T, T = S ++ R := ⟨_, rfl⟩
  rw [← hT] at hl h45
  have hrest : DV true (fun i => T.length ≤ i) (T ++ [.cells 0 false (cellsF d16 [val 65536 a % y0])]) (.msl T.length 0 0 1 1 1) [val 65536 a % y0] := .ms _ _ _ _ _ false [val 65536 a % y0] _ (get_last _ _) (Nat.le_refl _) (by simp) (Nat.le_refl _) rfl
  obtain ⟨w1, hw1, e1⟩ := tidyV (hl.app [.cells 0 false (cellsF d16 [val 65536 a % y0])]) (dg_dig (by decide) hq0) (by
    have h1 := dg_len (B := 65536) (by decide) 700 (val 65536 a / y0) hq0 (by
      have h2 := val_lt (by decide) da
      have h3 := pow_le' (B := 65536) (by decide) la
      have h4 := Int.ediv_le_self (a := val 65536 a) y0 va
      omega)
    omega) (!(n1 == n2))
  obtain ⟨w2, hw2, e2⟩ := tidyV hrest (Dig.cons (by omega) Dig.nil) (by simp) n1
  rw [val_dg (by decide) hq0] at e1 hw1
  have e3 : val 65536 [val 65536 a % y0] = val 65536 a % y0 := by simp [val]
  rw [e3] at e2 hw2
  rw [hvb]
  have hTS : ∃ R', T ++ [.cells 0 false (cellsF d16 [val 65536 a % y0])] = S ++ R' := by rw [hT, List.append_assoc]; exact ⟨_, rfl⟩
  obtain ⟨R', hR'⟩ := hTS
  rw [hR'] at e1 e2
  have hlen : S.length ≤ T.length := by rw [hT]; simp
  refine ⟨w1, w2, R', by rw [← hR']; exact hw1, by rw [← hR']; exact hw2.weak (fun i _ h => by omega), call_ret' K S (fn := t34) rfl rfl ?_⟩
  simp only [num]
  simp (config := { maxSteps := 4000000 }) (disch := omega) only [t34, go_sem, Nat.reduceAdd, Nat.reduceSub, Nat.reduceLT, Nat.reduceLeDiff, Nat.reduceEqDiff, Nat.reduceBEq, reduceIte, reduceCtorEq, Int.reduceEq, Int.reduceLT, Int.reduceLE, Int.reduceAdd, Int.reduceSub, Int.reduceMul, Int.reduceToNat, Int.reduceNeg, Int.reduceBEq, Int.reducePow, Nat.reducePow, mkAgg_agT hw1.pl, mkAgg_agT hw2.pl, cellsOf_agT hw1.pl, agT_loc hw1.pl, agT_nlp hw1.pl, agT_resK hw1.pl, agT_wb hw1.pl, cellsOf_agT hw2.pl, agT_loc hw2.pl, agT_nlp hw2.pl, agT_resK hw2.pl, agT_wb hw2.pl, hx.pl.loc, hx.pl.nlp, hx.pl.resK, hx.pl.wb, hx.isR, hx.cel, hx.forg, hx.sam, hx.lenA, hy.pl.loc, hy.pl.nlp, hy.pl.resK, hy.pl.wb, hy.isR, hy.cel, hy.forg, hy.sam, hy.lenA, hl.pl.loc, hl.pl.nlp, hl.pl.resK, hl.pl.wb, hl.isR, hl.cel, hl.forg, hl.sam, hl.lenA, hw1.pl.loc, hw1.pl.nlp, hw1.pl.resK, hw1.pl.wb, hw1.isR, hw1.cel, hw1.forg, hw1.sam, hw1.lenA, hw2.pl.loc, hw2.pl.nlp, hw2.pl.resK, hw2.pl.wb, hw2.isR, hw2.cel, hw2.forg, hw2.sam, hw2.lenA, ex, ey, c1, c2, h54, hcn, List.length_singleton, p1, p2, wrap_u32, wrap_u16, h45, flat_one1, e1, e2, hR', Bool.and_false, Bool.not_true]
theorem quo3 {t1 t2 : Tag} {a b : List Int} (k1 : TagOk t1 a) (k2 : TagOk t2 b) (n1 n2 : Bool) (da : Dig 65536 a) (db : Dig 65536 b) (la : a.length ≤ 700) (lb : b.length ≤ 700) (hab : val 65536 b ≤ val 65536 a) (m : Nat) (hm : (tr b).length = m + 2) (S : Store) :
    ∃ w1 w2 R, DV true (fun i => S.length ≤ i) (S ++ R) w1 (dg 65536 (val 65536 a / val 65536 b)) ∧ DV true (fun i => S.length ≤ i) (S ++ R) w2 (dg 65536 (val 65536 a % val 65536 b)) ∧ (lim K).call 34 [.iv (num n1 t1 a), .iv (num n2 t2 b)] S = .ret (.tup [agT (decide (sv (!(n1 == n2)) (val 65536 a / val 65536 b) < 0)) w1, agT (decide (sv n1 (val 65536 a % val 65536 b) < 0)) w2, .iv (.int .i64 0)], S ++ R) := by
  have va := val_nonneg (by decide) da
  have vb := val_nonneg (by decide) db
  have ltr := tr_len a
  have ltb := tr_len b
  obtain ⟨x, hx, ex⟩ := trimV (S := S) (DV.iv (m := false) (P := fun _ => False) t1 a k1 (fun h => by cases h)) (by omega)
  obtain ⟨y, hy, ey⟩ := trimV (S := S) (DV.iv (m := false) (P := fun _ => False) t2 b k2 (fun h => by cases h)) (by omega)
  obtain ⟨u1, j1, -, c1, -⟩ := hx.res
  obtain ⟨u2, j2, -, c2, -⟩ := hy.res
  have h54 := call54 u1 u2 _ _ j1 j2 da.tr db.tr (by omega) (by omega)
  have hcn : ¬ cmpI (val 65536 (tr a)) (val 65536 (tr b)) < 0 := by rw [cmpI_neg, val_tr, val_tr]; omega
  generalize cmpI (val 65536 (tr a)) (val 65536 (tr b)) = r at *
  have htop : 1 ≤ (tr b).getD (m + 1) default := by
    have g := db.tr.getD (i := m + 1) (by omega)
    rcases Int.lt_or_le 0 ((tr b).getD (m + 1) default) with h | h
    · omega
    · exfalso
      have h0 : (tr b).getD (m + 1) default = 0 := by omega
      have e : tr b = (tr b).take (m + 1) ++ [0] := by
        have := take_succ_getD (l := tr b) (d := default) (i := m + 1) (by omega)
        rw [h0, List.take_of_length_le (by omega)] at this
        exact this
      have e2 := tr_tr b
      rw [e, tr_zero] at e2
      have e3 := tr_len ((tr b).take (m + 1))
      rw [e2, List.length_append, take_len (by omega)] at e3
      rw [List.length_singleton] at e3
      omega
  obtain ⟨lv, rv, R, Q, hl, dQ, lQ, vQ, hr, h61⟩ := dividedV hx hy da.tr db.tr (m + 1) hm htop (tr_len_le (by decide) da db hab) (by omega)
  rw [val_tr, val_tr] at vQ hr
  have hb0 : 0 < val 65536 b := by
    rcases Int.lt_or_le 0 (val 65536 b) with h | h
    · exact h
    · exfalso
      have h0 : val 65536 b = 0 := by omega
      rw [tr_eq (by decide) db, h0, dg_zero] at hm
      simp at hm
  have hr0 : 0 ≤ val 65536 a % val 65536 b := Int.emod_nonneg _ (by omega)
  have hr1 : val 65536 a % val 65536 b < val 65536 b := Int.emod_lt_of_pos _ hb0
  obtain ⟨w1, hw1, e1⟩ := tidyV hl dQ (by omega) (!(n1 == n2))
  obtain ⟨w2, hw2, e2⟩ := tidyV hr (dg_dig (by decide) hr0) (by
    have h1 := dg_len (B := 65536) (by decide) 700 (val 65536 a % val 65536 b) hr0 (by
      have h2 := val_lt (by decide) db
      have h3 := pow_le' (B := 65536) (by decide) lb
      omega)
    omega) n1
  rw [val_dg (by decide) hr0] at e2 hw2
  rw [vQ] at e1 hw1
  refine ⟨w1, w2, R, hw1, hw2, call_ret' K S (fn := t34) rfl rfl ?_⟩
  simp only [num]
  have hl2 : ((tr b).length : Int) = (m : Int) + 2 := by omega
  simp (config := { maxSteps := 4000000 }) (disch := omega) only [t34, go_sem, Nat.reduceAdd, Nat.reduceSub, Nat.reduceLT, Nat.reduceLeDiff, Nat.reduceEqDiff, Nat.reduceBEq, reduceIte, reduceCtorEq, Int.reduceEq, Int.reduceLT, Int.reduceLE, Int.reduceAdd, Int.reduceSub, Int.reduceMul, Int.reduceToNat, Int.reduceNeg, Int.reduceBEq, Int.reducePow, Nat.reducePow, mkAgg_agT hw1.pl, mkAgg_agT hw2.pl, cellsOf_agT hw1.pl, agT_loc hw1.pl, agT_nlp hw1.pl, agT_resK hw1.pl, agT_wb hw1.pl, cellsOf_agT hw2.pl, agT_loc hw2.pl, agT_nlp hw2.pl, agT_resK hw2.pl, agT_wb hw2.pl, hx.pl.loc, hx.pl.nlp, hx.pl.resK, hx.pl.wb, hx.isR, hx.cel, hx.forg, hx.sam, hx.lenA, hy.pl.loc, hy.pl.nlp, hy.pl.resK, hy.pl.wb, hy.isR, hy.cel, hy.forg, hy.sam, hy.lenA, hl.pl.loc, hl.pl.nlp, hl.pl.resK, hl.pl.wb, hl.isR, hl.cel, hl.forg, hl.sam, hl.lenA, hr.pl.loc, hr.pl.nlp, hr.pl.resK, hr.pl.wb, hr.isR, hr.cel, hr.forg, hr.sam, hr.lenA, hw1.pl.loc, hw1.pl.nlp, hw1.pl.resK, hw1.pl.wb, hw1.isR, hw1.cel, hw1.forg, hw1.sam, hw1.lenA, hw2.pl.loc, hw2.pl.nlp, hw2.pl.resK, hw2.pl.wb, hw2.isR, hw2.cel, hw2.forg, hw2.sam, hw2.lenA, ex, ey, c1, c2, h54, hcn, hl2, h61, e1, e2, Bool.and_false, Bool.not_true]
end Go.Proofs.YtdbffhgfjmhaiaaDoor
