/- The contracts of parted where digits are written; same, positive, large. Condition: none. -/
import Derived.Test.YtdbffhgfjmhaiaaDoorBqJ
set_option maxRecDepth 100000
set_option linter.unusedSimpArgs false
set_option linter.unusedVariables false
namespace Go.Proofs.YtdbffhgfjmhaiaaDoor
open Go Go.TM
theorem loop45 {m1 : Bool} {P1 : Nat → Prop} {S : Store} {x : TV} {l : List Int} (hx : DV m1 P1 S x l) (hd : Dig 65536 l) (hl : l.length ≤ 1000000) (b : Bool) (y : Int) (hy : 0 < y ∧ y ≤ 65535) (x2 x3 : TV) : ∀ (k : Nat) (x7 : TV), k ≤ l.length →
    ∃ y7, lp' (lim K) t45L0 [x, .iv (.int .u32 y), x2, x3, .msl S.length 0 0 l.length l.length 1, .iv (.int .u32 (dv 65536 y (l.drop k)).2), .iv (.int .i64 ((k : Int) - 1)), x7] (S ++ [.cells 0 b (cellsF d16 (List.replicate k 0 ++ (dv 65536 y (l.drop k)).1))]) = .ret (.exit 0, [x, .iv (.int .u32 y), x2, x3, .msl S.length 0 0 l.length l.length 1, .iv (.int .u32 (dv 65536 y l).2), .iv (.int .i64 (-1)), y7], S ++ [.cells 0 b (cellsF d16 (dv 65536 y l).1)])
  | 0, x7, h => by
    refine ⟨?_, loop_at K _ _ t45L0.eq_1 ?_⟩
    rotate_left
    · simp (disch := omega) only [go_sem, Nat.reduceAdd, Nat.reduceSub, Nat.reduceMul, Nat.reduceLT, Nat.reduceLeDiff, Nat.reduceEqDiff, Nat.reduceBEq, reduceIte, reduceCtorEq, List.replicate, List.cons_append, List.nil_append, Int.reduceEq, Int.reduceLT, Int.reduceLE, Int.reduceAdd, Int.reduceSub, Int.reduceMul, Int.reduceToNat, Int.reduceNeg, Int.reduceBEq, Int.reduceBNe, Int.reduceTDiv, Int.reduceTMod, Int.reducePow, Nat.reducePow, decide_true, decide_false, Nat.reduceDiv, Nat.reduceMod, Int.reduceMod, Int.reduceDiv, Int.reduceNe, Int.reduceFDiv, Nat.reduceLeDiff, beq_self_eq_true, decT, decF, ifT, ifF, eqT, eqF, neT, neF, bytesIV_length, one_length, get_cp, get_cp0, List.drop_zero]
      rfl
  | k + 1, x7, h => by
    have hlt : k < l.length := by omega
    have hdr := drop_getD hlt
    have hg := hd.getD hlt
    obtain ⟨i1, i2, i3, i4, i5⟩ := dv_spec (B := 65536) (y := y) (by decide) hy.1 (l.drop (k + 1)) (hd.drop _)
    obtain ⟨y7, ih⟩ := loop45 hx hd hl b y hy x2 x3 k (.iv (.bool true)) (by omega)
    rw [hdr] at ih
    simp only [dv] at ih
    have hlen : (dv 65536 y (l.drop (k + 1))).1.length = l.length - (k + 1) := by rw [i4]; simp
    generalize dv 65536 y (l.drop (k + 1)) = p at *
    have hm := ix_msl (j := S.length) (v := 0) (off := 0) (len := l.length) (cap := l.length) (i := (k : Int)) (by omega)
    rw [Int.toNat_natCast, Nat.zero_add] at hm
    rw [← set_rep] at ih
    have hCl : k < (List.replicate (k + 1) 0 ++ p.1).length := by simp; omega
    generalize List.replicate (k + 1) 0 ++ p.1 = C at *
    obtain ⟨ad, hp1, hp2⟩ := (hx.app [.cells 0 b (cellsF d16 C)]).idx (i := (k : Int)) (by omega)
    rw [Int.toNat_natCast] at hp2
    generalize l.getD k default = a at *
    have hs := fun n env => set_mslF (S := S ++ [.cells 0 b (cellsF d16 C)]) (j := S.length) (f := d16) (C := C) (i := k) (fun _ => rfl) (get_last _ _) hCl n env
    simp only [set_last] at hs
    refine ⟨y7, loop_at K _ _ t45L0.eq_1 ?_⟩
    simp only [d16] at hs
    have e1 : ((k : Int) + 1 - 1) = k := by omega
    have hq : 0 ≤ (65536 * p.2 + a) / y ∧ (65536 * p.2 + a) / y < 65536 := ⟨Int.ediv_nonneg (by omega) (by omega), Int.ediv_lt_of_lt_mul hy.1 (by omega)⟩
    have hr0 := Int.emod_nonneg (65536 * p.2 + a) (show y ≠ 0 by omega)
    have hr1 := Int.emod_lt_of_pos (65536 * p.2 + a) hy.1
    have tm : (65536 * p.2 + a).tmod y = (65536 * p.2 + a) % y := tmod_nn (by omega)
    have td : (65536 * p.2 + a).tdiv y = (65536 * p.2 + a) / y := tdiv_nn (by omega)
    have hor := u32_or16 (r := p.2) (a := a) (by omega) (by omega)
    have hy0 : ¬ y = 0 := by omega
    generalize (65536 * p.2 + a) / y = q at *
    generalize (65536 * p.2 + a) % y = r at *
    simp (config := { maxSteps := 4000000 }) (disch := omega) only [go_sem, Nat.reduceAdd, Nat.reduceSub, Nat.reduceMul, Nat.reduceLT, Nat.reduceLeDiff, Nat.reduceEqDiff, Nat.reduceBEq, reduceIte, reduceCtorEq, List.replicate, List.cons_append, List.nil_append, Int.reduceEq, Int.reduceLT, Int.reduceLE, Int.reduceAdd, Int.reduceSub, Int.reduceMul, Int.reduceToNat, Int.reduceNeg, Int.reduceBEq, Int.reduceBNe, Int.reduceTDiv, Int.reduceTMod, Int.reducePow, Nat.reducePow, decide_true, decide_false, Nat.reduceDiv, Nat.reduceMod, Int.reduceMod, Int.reduceDiv, Int.reduceNe, Int.reduceFDiv, Nat.reduceLeDiff, beq_self_eq_true, decT, decF, ifT, ifF, eqT, eqF, neT, neF, bytesIV_length, one_length, get_cp, get_cp0, hx.pl.loc, hx.pl.nlp, hx.pl.resK, hx.pl.wb, hx.isR, hx.cel, hx.forg, hx.sam, hx.lenA, Int.natCast_add, Int.cast_ofNat_Int, e1, hp1, hp2, wrap_i64, wrap_u32, wrap_u16, u32_shl16, hor, hy0, tm, td, hm, storeV_c, storeC_eq, cellsOf_int, hs]
    exact congrArg er ih
theorem partedV {m1 : Bool} {P1 : Nat → Prop} {S : Store} {x : TV} {l : List Int} (hx : DV m1 P1 S x l) (hd : Dig 65536 l) (hl : l.length ≤ 1000000) (y : Int) (hy : 0 < y ∧ y ≤ 65535) :
    ∃ w R, DV true (fun i => S.length ≤ i) (S ++ R) w (dg 65536 (val 65536 l / y)) ∧ (lim K).call 45 [x, .iv (.int .u32 y)] S = .ret (.tup [w, .iv (.int .u32 (val 65536 l % y))], S ++ R) := by
  obtain ⟨i1, i2, i3, i4, i5⟩ := dv_spec (B := 65536) (y := y) (by decide) hy.1 l hd
  have h0 := val_nonneg (B := 65536) (by decide) i1
  have e1 : val 65536 l / y = val 65536 (dv 65536 y l).1 := by
    rw [← i5, Int.add_comm, Int.add_mul_ediv_left _ _ (by omega), Int.ediv_eq_zero_of_lt i2 i3, Int.zero_add]
  have e2 : val 65536 l % y = (dv 65536 y l).2 := by
    rw [← i5, Int.add_comm, Int.add_mul_emod_self_left, Int.emod_eq_of_lt i2 i3]
  rw [e1, e2, ← tr_eq (by decide) i1]
  obtain ⟨y7, e⟩ := loop45 hx hd hl false y hy (.iv (.sl .nil [])) (.iv (.int .u32 0)) l.length (.tup []) (Nat.le_refl _)
  rw [List.drop_length] at e
  simp only [dv] at e
  rw [List.append_nil] at e
  have hC : DV true (fun i => S.length ≤ i) (S ++ [.cells 0 false (cellsF d16 (dv 65536 y l).1)]) (.msl S.length 0 0 l.length l.length 1) (dv 65536 y l).1 := .ms _ _ _ _ _ false _ _ (get_last _ _) (Nat.le_refl _) (by omega) (Nat.le_refl _) (by rw [List.drop_zero, List.take_of_length_le (by omega)])
  obtain ⟨w, hw, h40⟩ := trimV hC (by omega)
  refine ⟨w, _, hw, call_ret' K S (fn := t45) rfl rfl ?_⟩
  have hmk := mkV_int [.int .u16 0] 2 S.length .i64 .i64 l.length l.length ⟨by omega, by omega, roomy_ok (by rw [Int.toNat_natCast]; omega)⟩
  rw [Int.toNat_natCast] at hmk
  rw [show flat (List.replicate l.length (List.map TV.iv [IV.int IntKind.u16 0])) = cellsF d16 (List.replicate l.length 0) from flat_rep d16 l.length] at hmk
  generalize List.replicate l.length (0 : Int) = C at *
  generalize (dv 65536 y l).1 = D at *
  simp (config := { maxSteps := 4000000 }) (disch := omega) only [t45, go_sem, Nat.reduceAdd, Nat.reduceSub, Nat.reduceMul, Nat.reduceLT, Nat.reduceLeDiff, Nat.reduceEqDiff, Nat.reduceBEq, reduceIte, reduceCtorEq, List.replicate, List.cons_append, List.nil_append, Int.reduceEq, Int.reduceLT, Int.reduceLE, Int.reduceAdd, Int.reduceSub, Int.reduceMul, Int.reduceToNat, Int.reduceNeg, Int.reduceBEq, Int.reduceBNe, Int.reduceTDiv, Int.reduceTMod, Int.reducePow, Nat.reducePow, decide_true, decide_false, Nat.reduceDiv, Nat.reduceMod, Int.reduceMod, Int.reduceDiv, Int.reduceNe, Int.reduceFDiv, Nat.reduceLeDiff, beq_self_eq_true, decT, decF, ifT, ifF, eqT, eqF, neT, neF, bytesIV_length, one_length, get_cp, get_cp0, hx.pl.loc, hx.pl.nlp, hx.pl.resK, hx.pl.wb, hx.isR, hx.cel, hx.forg, hx.sam, hx.lenA, hw.pl.loc, hw.pl.nlp, hw.pl.resK, hw.pl.wb, hw.isR, hw.cel, hw.forg, hw.sam, hw.lenA, hmk, wrap_i64, e, h40]
theorem loop17 (x0 x1 : TV) (n1 n2 : Bool) (t1 t2 : Tag) (l m : List Int) (hlen : l.length = m.length) (hl : l.length ≤ 1000000) (S : Store) (x6 : TV) : ∀ (k i : Nat) (x7 x8 : TV), i + k = l.length →
    ∃ j y5 y7 y8, (j = if l.drop i = m.drop i then .exit 0 else .ret) ∧ lp' (lim K) t17L0 [x0, x1, .lb [.iv (.bool n1), .iv (.sl t1 (one d16 l))], .lb [.iv (.bool n2), .iv (.sl t2 (one d16 m))], .iv (.bool false), .iv (.int .i64 i), x6, x7, x8] S = .ret (j, [x0, x1, .lb [.iv (.bool n1), .iv (.sl t1 (one d16 l))], .lb [.iv (.bool n2), .iv (.sl t2 (one d16 m))], .iv (.bool false), y5, x6, y7, y8], S)
  | 0, i, x7, x8, h => by
    obtain rfl : i = l.length := by omega
    have e : l.drop l.length = m.drop l.length := by rw [List.drop_length, hlen, List.drop_length]
    rw [if_pos e]
    refine ⟨.exit 0, ?_, ?_, ?_, rfl, loop_at K _ _ t17L0.eq_1 ?_⟩
    rotate_left 3
    · simp (disch := omega) only [go_sem, Nat.reduceAdd, Nat.reduceSub, Nat.reduceMul, Nat.reduceLT, Nat.reduceLeDiff, Nat.reduceEqDiff, Nat.reduceBEq, reduceIte, reduceCtorEq, List.replicate, List.cons_append, List.nil_append, Int.reduceEq, Int.reduceLT, Int.reduceLE, Int.reduceAdd, Int.reduceSub, Int.reduceMul, Int.reduceToNat, Int.reduceNeg, Int.reduceBEq, Int.reduceBNe, Int.reduceTDiv, Int.reduceTMod, Int.reducePow, Nat.reducePow, decide_true, decide_false, Nat.reduceDiv, Nat.reduceMod, Int.reduceMod, Int.reduceDiv, Int.reduceNe, Int.reduceFDiv, Nat.reduceLeDiff, beq_self_eq_true, decT, decF, ifT, ifF, eqT, eqF, neT, neF, bytesIV_length, one_length, get_cp, get_cp0]
      rfl
  | k + 1, i, x7, x8, h => by
    have hix := ix_one d16 (t := t1) (l := l) (i := (i : Int)) (by omega)
    have hix2 := ix_one d16 (t := t2) (l := m) (i := (i : Int)) (by omega)
    rw [Int.toNat_natCast] at hix hix2
    have e1 := drop_getD (l := l) (i := i) (by omega)
    have e2 := drop_getD (l := m) (i := i) (by omega)
    rw [e1, e2]
    have ih := loop17 x0 x1 n1 n2 t1 t2 l m hlen hl S x6 k (i + 1)
    generalize l.getD i default = a at *
    generalize m.getD i default = b at *
    simp only [d16] at hix hix2
    by_cases hab : a = b
    · subst hab
      obtain ⟨j, y5, y7, y8, hj, ih⟩ := ih (.iv (.bool true)) (.iv (.bool false)) (by omega)
      refine ⟨j, y5, y7, y8, by rw [hj]; simp only [List.cons.injEq, true_and], loop_at K _ _ t17L0.eq_1 ?_⟩
      simp (config := { maxSteps := 4000000 }) (disch := omega) only [go_sem, Nat.reduceAdd, Nat.reduceSub, Nat.reduceMul, Nat.reduceLT, Nat.reduceLeDiff, Nat.reduceEqDiff, Nat.reduceBEq, reduceIte, reduceCtorEq, List.replicate, List.cons_append, List.nil_append, Int.reduceEq, Int.reduceLT, Int.reduceLE, Int.reduceAdd, Int.reduceSub, Int.reduceMul, Int.reduceToNat, Int.reduceNeg, Int.reduceBEq, Int.reduceBNe, Int.reduceTDiv, Int.reduceTMod, Int.reducePow, Nat.reducePow, decide_true, decide_false, Nat.reduceDiv, Nat.reduceMod, Int.reduceMod, Int.reduceDiv, Int.reduceNe, Int.reduceFDiv, Nat.reduceLeDiff, beq_self_eq_true, decT, decF, ifT, ifF, eqT, eqF, neT, neF, bytesIV_length, one_length, get_cp, get_cp0, hix, hix2, wrap_i64]
      exact congrArg er ih
    · rw [if_neg (by simp [hab])]
      refine ⟨.ret, ?_, ?_, ?_, rfl, loop_at K _ _ t17L0.eq_1 ?_⟩
      rotate_left 3
      · simp (config := { maxSteps := 4000000 }) (disch := omega) only [go_sem, Nat.reduceAdd, Nat.reduceSub, Nat.reduceMul, Nat.reduceLT, Nat.reduceLeDiff, Nat.reduceEqDiff, Nat.reduceBEq, reduceIte, reduceCtorEq, List.replicate, List.cons_append, List.nil_append, Int.reduceEq, Int.reduceLT, Int.reduceLE, Int.reduceAdd, Int.reduceSub, Int.reduceMul, Int.reduceToNat, Int.reduceNeg, Int.reduceBEq, Int.reduceBNe, Int.reduceTDiv, Int.reduceTMod, Int.reducePow, Nat.reducePow, decide_true, decide_false, Nat.reduceDiv, Nat.reduceMod, Int.reduceMod, Int.reduceDiv, Int.reduceNe, Int.reduceFDiv, Nat.reduceLeDiff, beq_self_eq_true, decT, decF, ifT, ifF, eqT, eqF, neT, neF, bytesIV_length, one_length, get_cp, get_cp0, hix, hix2, wrap_i64, hab]
        rfl
theorem call17 (n1 n2 : Bool) (t1 t2 : Tag) (l m : List Int) (hl : l.length ≤ 1000000) : (lim K).call 17 [.iv (num n1 t1 l), .iv (num n2 t2 m)] [] = .ret (.iv (.bool (decide (n1 = n2 ∧ l = m))), []) := by
  refine call_ret' K [] (fn := t17) rfl rfl ?_
  by_cases hlen : l.length = m.length
  · obtain ⟨j, y5, y7, y8, hj, e⟩ := loop17 (.iv (num n1 t1 l)) (.iv (num n2 t2 m)) n1 n2 t1 t2 l m hlen hl [] (.iv (.bool false)) l.length 0 (.tup []) (.tup []) (by omega)
    rw [List.drop_zero, List.drop_zero] at hj
    rw [show ((0 : Nat) : Int) = 0 from rfl] at e
    have hlz : (l.length : Int) = m.length := by omega
    simp only [num] at e ⊢
    by_cases hn : n1 = n2
    · subst hn
      by_cases he : l = m
      · subst he
        rw [if_pos rfl] at hj
        subst hj
        cases n1 <;> simp (config := { maxSteps := 4000000 }) (disch := omega) only [t17, go_sem, Nat.reduceAdd, Nat.reduceSub, Nat.reduceMul, Nat.reduceLT, Nat.reduceLeDiff, Nat.reduceEqDiff, Nat.reduceBEq, reduceIte, reduceCtorEq, List.replicate, List.cons_append, List.nil_append, Int.reduceEq, Int.reduceLT, Int.reduceLE, Int.reduceAdd, Int.reduceSub, Int.reduceMul, Int.reduceToNat, Int.reduceNeg, Int.reduceBEq, Int.reduceBNe, Int.reduceTDiv, Int.reduceTMod, Int.reducePow, Nat.reducePow, decide_true, decide_false, Nat.reduceDiv, Nat.reduceMod, Int.reduceMod, Int.reduceDiv, Int.reduceNe, Int.reduceFDiv, Nat.reduceLeDiff, beq_self_eq_true, decT, decF, ifT, ifF, eqT, eqF, neT, neF, bytesIV_length, one_length, get_cp, get_cp0, e, and_self]
      · rw [if_neg he] at hj
        subst hj
        cases n1 <;> simp (config := { maxSteps := 4000000 }) (disch := omega) only [t17, go_sem, Nat.reduceAdd, Nat.reduceSub, Nat.reduceMul, Nat.reduceLT, Nat.reduceLeDiff, Nat.reduceEqDiff, Nat.reduceBEq, reduceIte, reduceCtorEq, List.replicate, List.cons_append, List.nil_append, Int.reduceEq, Int.reduceLT, Int.reduceLE, Int.reduceAdd, Int.reduceSub, Int.reduceMul, Int.reduceToNat, Int.reduceNeg, Int.reduceBEq, Int.reduceBNe, Int.reduceTDiv, Int.reduceTMod, Int.reducePow, Nat.reducePow, decide_true, decide_false, Nat.reduceDiv, Nat.reduceMod, Int.reduceMod, Int.reduceDiv, Int.reduceNe, Int.reduceFDiv, Nat.reduceLeDiff, beq_self_eq_true, decT, decF, ifT, ifF, eqT, eqF, neT, neF, bytesIV_length, one_length, get_cp, get_cp0, hlz, e, he, and_false]
    · cases n1 <;> cases n2 <;> simp at hn <;> simp (config := { maxSteps := 4000000 }) (disch := omega) only [t17, go_sem, Nat.reduceAdd, Nat.reduceSub, Nat.reduceMul, Nat.reduceLT, Nat.reduceLeDiff, Nat.reduceEqDiff, Nat.reduceBEq, reduceIte, reduceCtorEq, List.replicate, List.cons_append, List.nil_append, Int.reduceEq, Int.reduceLT, Int.reduceLE, Int.reduceAdd, Int.reduceSub, Int.reduceMul, Int.reduceToNat, Int.reduceNeg, Int.reduceBEq, Int.reduceBNe, Int.reduceTDiv, Int.reduceTMod, Int.reducePow, Nat.reducePow, decide_true, decide_false, Nat.reduceDiv, Nat.reduceMod, Int.reduceMod, Int.reduceDiv, Int.reduceNe, Int.reduceFDiv, Nat.reduceLeDiff, beq_self_eq_true, decT, decF, ifT, ifF, eqT, eqF, neT, neF, bytesIV_length, one_length, get_cp, get_cp0, false_and]
  · have he : ¬ l = m := by intro e; exact hlen (by rw [e])
    have hlz : ¬ (l.length : Int) = m.length := by omega
    simp only [num]
    cases n1 <;> cases n2 <;> simp (config := { maxSteps := 4000000 }) (disch := omega) only [t17, go_sem, Nat.reduceAdd, Nat.reduceSub, Nat.reduceMul, Nat.reduceLT, Nat.reduceLeDiff, Nat.reduceEqDiff, Nat.reduceBEq, reduceIte, reduceCtorEq, List.replicate, List.cons_append, List.nil_append, Int.reduceEq, Int.reduceLT, Int.reduceLE, Int.reduceAdd, Int.reduceSub, Int.reduceMul, Int.reduceToNat, Int.reduceNeg, Int.reduceBEq, Int.reduceBNe, Int.reduceTDiv, Int.reduceTMod, Int.reducePow, Nat.reducePow, decide_true, decide_false, Nat.reduceDiv, Nat.reduceMod, Int.reduceMod, Int.reduceDiv, Int.reduceNe, Int.reduceFDiv, Nat.reduceLeDiff, beq_self_eq_true, decT, decF, ifT, ifF, eqT, eqF, neT, neF, bytesIV_length, one_length, get_cp, get_cp0, hlz, he, and_false, false_and]
theorem same_bg (t t' : Tag) (z z' : Int) (h : (dg 65536 z.natAbs).length ≤ 1000000) : (lim K).call 17 [.iv (bg t z), .iv (bg t' z')] [] = .ret (.iv (.bool (decide (z = z'))), []) := by
  rw [bg, bg, call17 _ _ _ _ _ _ h]
  have : (decide (z < 0) = decide (z' < 0) ∧ dg 65536 z.natAbs = dg 65536 z'.natAbs) ↔ z = z' := by
    constructor
    · rintro ⟨h1, h2⟩
      have h3 := dg_inj (B := 65536) (by decide) (by omega) (by omega) h2
      have h4 : (z < 0) = (z' < 0) := by simpa using h1
      by_cases g : z < 0
      · have : z' < 0 := by rw [← h4]; exact g
        omega
      · have : ¬ z' < 0 := by rw [← h4]; exact g
        omega
    · rintro rfl; exact ⟨rfl, rfl⟩
  rw [decide_eq_decide.2 this]
theorem call36 (neg : Bool) (t : Tag) (l : List Int) (ht : TagOk t l) (hd : Dig 65536 l) (hl : l.length ≤ 1000000) : ∃ t', TagOk t' (dg 65536 (val 65536 l)) ∧ Pure K 36 [.iv (num neg t l)] (.iv (bg t' (val 65536 l))) := by
  obtain ⟨t', h1, h18⟩ := call18 false t l ht hd hl
  refine ⟨t', h1, call_pure t36 rfl rfl ?_⟩
  have e : sv false (val 65536 l) = val 65536 l := rfl
  rw [e] at h18
  simp only [bg, num] at h18 ⊢
  have sn := fun t => scalar_num (decide (val 65536 l < 0)) t (one d16 (dg 65536 (val 65536 l).natAbs))
  generalize decide (val 65536 l < 0) = zb at *
  generalize dg 65536 (val 65536 l).natAbs = zl at *
  simp (config := { maxSteps := 4000000 }) (disch := omega) only [t36, go_sem, Nat.reduceAdd, Nat.reduceSub, Nat.reduceMul, Nat.reduceLT, Nat.reduceLeDiff, Nat.reduceEqDiff, Nat.reduceBEq, reduceIte, reduceCtorEq, List.replicate, List.cons_append, List.nil_append, Int.reduceEq, Int.reduceLT, Int.reduceLE, Int.reduceAdd, Int.reduceSub, Int.reduceMul, Int.reduceToNat, Int.reduceNeg, Int.reduceBEq, Int.reduceBNe, Int.reduceTDiv, Int.reduceTMod, Int.reducePow, Nat.reducePow, decide_true, decide_false, Nat.reduceDiv, Nat.reduceMod, Int.reduceMod, Int.reduceDiv, Int.reduceNe, Int.reduceFDiv, Nat.reduceLeDiff, beq_self_eq_true, decT, decF, ifT, ifF, eqT, eqF, neT, neF, bytesIV_length, one_length, get_cp, get_cp0, cpR_pure h18, sn, freeze_iv, freeze_nil, Bool.not_false, Bool.not_true, resB_ret, resO_some]
/-! ### large -/
instance : Inhabited Tag := ⟨.no⟩
def numC (a : Bool × Tag × List Int) : List IV := [.bool a.1, .sl a.2.1 (one d16 a.2.2)]
def big60 (l : List (Bool × Tag × List Int)) : Bool := l.any fun a => decide (60 < a.2.2.length)
theorem addOff_cp2 (a b : IV) : addOff (.iv (.cp [a, b])) 1 = some (.iv (.cp [b])) := id rfl
def jm : Bool → Jump
  | true => .ret
  | false => .exit 0
theorem loop15 (t : Tag) (l : List (Bool × Tag × List Int)) (hl : l.length ≤ 1000) (hs : ∀ a ∈ l, a.2.2.length ≤ 9223372036854775807) (S : Store) : ∀ (k i : Nat) (x3 x4 : TV), i + k = l.length →
    ∃ y2 y3 y4, lp' (lim K) t15L0 [.iv (.sl t (l.map numC)), .iv (.bool false), .iv (.int .i64 i), x3, x4] S = .ret (jm (big60 (l.drop i)), [.iv (.sl t (l.map numC)), .iv (.bool (big60 (l.drop i))), y2, y3, y4], S)
  | 0, i, x3, x4, h => by
    obtain rfl : i = l.length := by omega
    rw [List.drop_length]
    refine ⟨?_, ?_, ?_, loop_at K _ _ t15L0.eq_1 ?_⟩
    rotate_left 3
    · simp (disch := omega) only [go_sem, Nat.reduceAdd, Nat.reduceSub, Nat.reduceMul, Nat.reduceLT, Nat.reduceLeDiff, Nat.reduceEqDiff, Nat.reduceBEq, reduceIte, reduceCtorEq, List.replicate, List.cons_append, List.nil_append, Int.reduceEq, Int.reduceLT, Int.reduceLE, Int.reduceAdd, Int.reduceSub, Int.reduceMul, Int.reduceToNat, Int.reduceNeg, Int.reduceBEq, Int.reduceBNe, Int.reduceTDiv, Int.reduceTMod, Int.reducePow, Nat.reducePow, decide_true, decide_false, Nat.reduceDiv, Nat.reduceMod, Int.reduceMod, Int.reduceDiv, Int.reduceNe, Int.reduceFDiv, Nat.reduceLeDiff, beq_self_eq_true, decT, decF, ifT, ifF, eqT, eqF, neT, neF, bytesIV_length, one_length, get_cp, get_cp0, List.length_map, big60, List.any_nil]
      rfl
  | k + 1, i, x3, x4, h => by
    have hix := ix_map (f := numC) (w := 2) (fun _ => rfl) (t := t) (l := l) (i := (i : Int)) (by omega)
    rw [Int.toNat_natCast] at hix
    have e1 : l.drop i = l.getD i default :: l.drop (i + 1) := by
      rw [List.drop_eq_getElem_cons (by omega)]; simp [List.getD, List.getElem?_eq_getElem (show i < l.length by omega)]
    have hm : l.getD i default ∈ l := by
      rw [List.getD, List.getElem?_eq_getElem (show i < l.length by omega)]; exact List.getElem_mem _
    have hsz := hs _ hm
    rw [e1, big60, List.any_cons]
    have ih := loop15 t l hl hs S k (i + 1)
    generalize l.getD i default = a at *
    simp only [numC] at hix
    simp only [big60] at ih
    generalize hq : (l.drop (i + 1)).any (fun a => decide (60 < a.2.2.length)) = q at *
    by_cases hab : 60 < a.2.2.length
    · refine ⟨?_, ?_, ?_, loop_at K _ _ t15L0.eq_1 ?_⟩
      rotate_left 3
      · simp (config := { maxSteps := 4000000 }) (disch := omega) only [go_sem, Nat.reduceAdd, Nat.reduceSub, Nat.reduceMul, Nat.reduceLT, Nat.reduceLeDiff, Nat.reduceEqDiff, Nat.reduceBEq, reduceIte, reduceCtorEq, List.replicate, List.cons_append, List.nil_append, Int.reduceEq, Int.reduceLT, Int.reduceLE, Int.reduceAdd, Int.reduceSub, Int.reduceMul, Int.reduceToNat, Int.reduceNeg, Int.reduceBEq, Int.reduceBNe, Int.reduceTDiv, Int.reduceTMod, Int.reducePow, Nat.reducePow, decide_true, decide_false, Nat.reduceDiv, Nat.reduceMod, Int.reduceMod, Int.reduceDiv, Int.reduceNe, Int.reduceFDiv, Nat.reduceLeDiff, beq_self_eq_true, decT, decF, ifT, ifF, eqT, eqF, neT, neF, bytesIV_length, one_length, get_cp, get_cp0, hix, addOff_cp2, List.length_map, wrap_i64, hab, Bool.true_or]
        rfl
    · obtain ⟨y2, y3, y4, ih⟩ := ih (.iv (.bool true)) (.iv (.bool false)) (by omega)
      refine ⟨y2, y3, y4, loop_at K _ _ t15L0.eq_1 ?_⟩
      simp (config := { maxSteps := 4000000 }) (disch := omega) only [go_sem, Nat.reduceAdd, Nat.reduceSub, Nat.reduceMul, Nat.reduceLT, Nat.reduceLeDiff, Nat.reduceEqDiff, Nat.reduceBEq, reduceIte, reduceCtorEq, List.replicate, List.cons_append, List.nil_append, Int.reduceEq, Int.reduceLT, Int.reduceLE, Int.reduceAdd, Int.reduceSub, Int.reduceMul, Int.reduceToNat, Int.reduceNeg, Int.reduceBEq, Int.reduceBNe, Int.reduceTDiv, Int.reduceTMod, Int.reducePow, Nat.reducePow, decide_true, decide_false, Nat.reduceDiv, Nat.reduceMod, Int.reduceMod, Int.reduceDiv, Int.reduceNe, Int.reduceFDiv, Nat.reduceLeDiff, beq_self_eq_true, decT, decF, ifT, ifF, eqT, eqF, neT, neF, bytesIV_length, one_length, get_cp, get_cp0, hix, addOff_cp2, List.length_map, wrap_i64, hab, Bool.false_or]
      exact congrArg er ih
theorem call15 (t : Tag) (l : List (Bool × Tag × List Int)) (hl : l.length ≤ 1000) (hs : ∀ a ∈ l, a.2.2.length ≤ 9223372036854775807) : (lim K).call 15 [.iv (.sl t (l.map numC))] [] = .ret (.iv (.bool (big60 l)), []) := by
  obtain ⟨y2, y3, y4, e⟩ := loop15 t l hl hs [] l.length 0 (.tup []) (.tup []) (by omega)
  rw [show ((0 : Nat) : Int) = 0 from rfl, List.drop_zero] at e
  refine call_ret' K [] (fn := t15) rfl rfl ?_
  cases hb : big60 l
  · simp only [hb, jm] at e
    simp (config := { maxSteps := 4000000 }) (disch := omega) only [t15, go_sem, Nat.reduceAdd, Nat.reduceSub, Nat.reduceMul, Nat.reduceLT, Nat.reduceLeDiff, Nat.reduceEqDiff, Nat.reduceBEq, reduceIte, reduceCtorEq, List.replicate, List.cons_append, List.nil_append, Int.reduceEq, Int.reduceLT, Int.reduceLE, Int.reduceAdd, Int.reduceSub, Int.reduceMul, Int.reduceToNat, Int.reduceNeg, Int.reduceBEq, Int.reduceBNe, Int.reduceTDiv, Int.reduceTMod, Int.reducePow, Nat.reducePow, decide_true, decide_false, Nat.reduceDiv, Nat.reduceMod, Int.reduceMod, Int.reduceDiv, Int.reduceNe, Int.reduceFDiv, Nat.reduceLeDiff, beq_self_eq_true, decT, decF, ifT, ifF, eqT, eqF, neT, neF, bytesIV_length, one_length, get_cp, get_cp0, e]
  · simp only [hb, jm] at e
    simp (config := { maxSteps := 4000000 }) (disch := omega) only [t15, go_sem, Nat.reduceAdd, Nat.reduceSub, Nat.reduceMul, Nat.reduceLT, Nat.reduceLeDiff, Nat.reduceEqDiff, Nat.reduceBEq, reduceIte, reduceCtorEq, List.replicate, List.cons_append, List.nil_append, Int.reduceEq, Int.reduceLT, Int.reduceLE, Int.reduceAdd, Int.reduceSub, Int.reduceMul, Int.reduceToNat, Int.reduceNeg, Int.reduceBEq, Int.reduceBNe, Int.reduceTDiv, Int.reduceTMod, Int.reducePow, Nat.reducePow, decide_true, decide_false, Nat.reduceDiv, Nat.reduceMod, Int.reduceMod, Int.reduceDiv, Int.reduceNe, Int.reduceFDiv, Nat.reduceLeDiff, beq_self_eq_true, decT, decF, ifT, ifF, eqT, eqF, neT, neF, bytesIV_length, one_length, get_cp, get_cp0, e]
end Go.Proofs.YtdbffhgfjmhaiaaDoor
