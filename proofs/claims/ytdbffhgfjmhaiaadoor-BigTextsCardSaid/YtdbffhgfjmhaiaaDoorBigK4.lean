/- The laws' own: same, large, positive. Condition: none. -/
import Derived.Test.YtdbffhgfjmhaiaaDoorBigK3
set_option maxRecDepth 100000
set_option linter.unusedSimpArgs false
set_option linter.unusedVariables false
namespace Go.Proofs.YtdbffhgfjmhaiaaDoor
open Go Go.TM
theorem loop17 (x0 x1 : TV) (n1 n2 : Bool) (t1 t2 : Tag) (l m : List Int) (hlen : l.length = m.length) (hl : l.length ≤ 1000000) (S : Store) (x6 : TV) : ∀ (k i : Nat) (x7 x8 : TV), i + k = l.length →
    ∃ j y5 y7 y8, (j = if l.drop i = m.drop i then .exit 0 else .ret) ∧ lp' (lim K) t17L0 [x0, x1, .lb [.iv (.bool n1), .iv (.sl t1 (one d16 l))], .lb [.iv (.bool n2), .iv (.sl t2 (one d16 m))], .iv (.bool false), .iv (.int .i64 i), x6, x7, x8] S = .ret (j, [x0, x1, .lb [.iv (.bool n1), .iv (.sl t1 (one d16 l))], .lb [.iv (.bool n2), .iv (.sl t2 (one d16 m))], .iv (.bool false), y5, x6, y7, y8], S)
  | 0, i, x7, x8, h => by
    obtain rfl : i = l.length := by omega
    have e : l.drop l.length = m.drop l.length := by rw [List.drop_length, hlen, List.drop_length]
    rw [if_pos e]
    refine ⟨.exit 0, ?_, ?_, ?_, rfl, loop_at K _ _ t17L0.eq_1 ?_⟩
    rotate_left 3
    · simp (disch := omega) only [go_sem, Nat.reduceAdd, Nat.reduceSub, Nat.reduceMul, Nat.reduceLT, Nat.reduceLeDiff, Nat.reduceEqDiff, Nat.reduceBEq, reduceIte, reduceCtorEq, List.replicate, List.cons_append, List.nil_append, Int.reduceEq, Int.reduceLT, Int.reduceLE, Int.reduceAdd, Int.reduceSub, Int.reduceMul, Int.reduceToNat, Int.reduceNeg, Int.reduceBEq, Int.reduceBNe, Int.reduceTDiv, Int.reduceTMod, Int.reducePow, Nat.reducePow, decide_true, decide_false, Nat.reduceDiv, Nat.reduceMod, Int.reduceMod, Int.reduceDiv, Int.reduceNe, Int.reduceFDiv, Nat.reduceLeDiff, beq_self_eq_true, decT, decF, ifT, ifF, eqT, eqF, neT, neF, bytesIV_length, one_length, get_cp, get_cp0]
      rfl
  | k + 1, i, x7, x8, h => by
    have hix := ix_one d16 (t := t1) (l := l) (i := (i : Int)) (by omega)
    have hix2 := ix_one d16 (t := t2) (l := m) (i := (i : Int)) (by omega)
    rw [Int.toNat_natCast] at hix hix2
    have e1 := drop_getD (l := l) (i := i) (by omega)
    have e2 := drop_getD (l := m) (i := i) (by omega)
    rw [e1, e2]
    have ih := loop17 x0 x1 n1 n2 t1 t2 l m hlen hl S x6 k (i + 1)
    generalize l.getD i default = a at *
    generalize m.getD i default = b at *
    simp only [d16] at hix hix2
    by_cases hab : a = b
    · subst hab
      obtain ⟨j, y5, y7, y8, hj, ih⟩ := ih (.iv (.bool true)) (.iv (.bool false)) (by omega)
      refine ⟨j, y5, y7, y8, by rw [hj]; simp only [List.cons.injEq, true_and], loop_at K _ _ t17L0.eq_1 ?_⟩
      simp (config := { maxSteps := 4000000 }) (disch := omega) only [go_sem, Nat.reduceAdd, Nat.reduceSub, Nat.reduceMul, Nat.reduceLT, Nat.reduceLeDiff, Nat.reduceEqDiff, Nat.reduceBEq, reduceIte, reduceCtorEq, List.replicate, List.cons_append, List.nil_append, Int.reduceEq, Int.reduceLT, Int.reduceLE, Int.reduceAdd, Int.reduceSub, Int.reduceMul, Int.reduceToNat, Int.reduceNeg, Int.reduceBEq, Int.reduceBNe, Int.reduceTDiv, Int.reduceTMod, Int.reducePow, Nat.reducePow, decide_true, decide_false, Nat.reduceDiv, Nat.reduceMod, Int.reduceMod, Int.reduceDiv, Int.reduceNe, Int.reduceFDiv, Nat.reduceLeDiff, beq_self_eq_true, decT, decF, ifT, ifF, eqT, eqF, neT, neF, bytesIV_length, one_length, get_cp, get_cp0, hix, hix2, wrap_i64]
      exact congrArg er ih
    · rw [if_neg (by simp [hab])]
      refine ⟨.ret, ?_, ?_, ?_, rfl, loop_at K _ _ t17L0.eq_1 ?_⟩
      rotate_left 3
      · simp (config := { maxSteps := 4000000 }) (disch := omega) only [go_sem, Nat.reduceAdd, Nat.reduceSub, Nat.reduceMul, Nat.reduceLT, Nat.reduceLeDiff, Nat.reduceEqDiff, Nat.reduceBEq, reduceIte, reduceCtorEq, List.replicate, List.cons_append, List.nil_append, Int.reduceEq, Int.reduceLT, Int.reduceLE, Int.reduceAdd, Int.reduceSub, Int.reduceMul, Int.reduceToNat, Int.reduceNeg, Int.reduceBEq, Int.reduceBNe, Int.reduceTDiv, Int.reduceTMod, Int.reducePow, Nat.reducePow, decide_true, decide_false, Nat.reduceDiv, Nat.reduceMod, Int.reduceMod, Int.reduceDiv, Int.reduceNe, Int.reduceFDiv, Nat.reduceLeDiff, beq_self_eq_true, decT, decF, ifT, ifF, eqT, eqF, neT, neF, bytesIV_length, one_length, get_cp, get_cp0, hix, hix2, wrap_i64, hab]
        rfl
theorem call17 (n1 n2 : Bool) (t1 t2 : Tag) (l m : List Int) (hl : l.length ≤ 1000000) : (lim K).call 17 [.iv (num n1 t1 l), .iv (num n2 t2 m)] [] = .ret (.iv (.bool (decide (n1 = n2 ∧ l = m))), []) := by
  refine call_ret' K [] (fn := t17) rfl rfl ?_
  by_cases hlen : l.length = m.length
  · obtain ⟨j, y5, y7, y8, hj, e⟩ := loop17 (.iv (num n1 t1 l)) (.iv (num n2 t2 m)) n1 n2 t1 t2 l m hlen hl [] (.iv (.bool false)) l.length 0 (.tup []) (.tup []) (by omega)
    rw [List.drop_zero, List.drop_zero] at hj
    rw [show ((0 : Nat) : Int) = 0 from rfl] at e
    have hlz : (l.length : Int) = m.length := by omega
    simp only [num] at e ⊢
    by_cases hn : n1 = n2
    · subst hn
      by_cases he : l = m
      · subst he
        rw [if_pos rfl] at hj
        subst hj
        cases n1 <;> simp (config := { maxSteps := 4000000 }) (disch := omega) only [t17, go_sem, Nat.reduceAdd, Nat.reduceSub, Nat.reduceMul, Nat.reduceLT, Nat.reduceLeDiff, Nat.reduceEqDiff, Nat.reduceBEq, reduceIte, reduceCtorEq, List.replicate, List.cons_append, List.nil_append, Int.reduceEq, Int.reduceLT, Int.reduceLE, Int.reduceAdd, Int.reduceSub, Int.reduceMul, Int.reduceToNat, Int.reduceNeg, Int.reduceBEq, Int.reduceBNe, Int.reduceTDiv, Int.reduceTMod, Int.reducePow, Nat.reducePow, decide_true, decide_false, Nat.reduceDiv, Nat.reduceMod, Int.reduceMod, Int.reduceDiv, Int.reduceNe, Int.reduceFDiv, Nat.reduceLeDiff, beq_self_eq_true, decT, decF, ifT, ifF, eqT, eqF, neT, neF, bytesIV_length, one_length, get_cp, get_cp0, e, and_self]
      · rw [if_neg he] at hj
        subst hj
        cases n1 <;> simp (config := { maxSteps := 4000000 }) (disch := omega) only [t17, go_sem, Nat.reduceAdd, Nat.reduceSub, Nat.reduceMul, Nat.reduceLT, Nat.reduceLeDiff, Nat.reduceEqDiff, Nat.reduceBEq, reduceIte, reduceCtorEq, List.replicate, List.cons_append, List.nil_append, Int.reduceEq, Int.reduceLT, Int.reduceLE, Int.reduceAdd, Int.reduceSub, Int.reduceMul, Int.reduceToNat, Int.reduceNeg, Int.reduceBEq, Int.reduceBNe, Int.reduceTDiv, Int.reduceTMod, Int.reducePow, Nat.reducePow, decide_true, decide_false, Nat.reduceDiv, Nat.reduceMod, Int.reduceMod, Int.reduceDiv, Int.reduceNe, Int.reduceFDiv, Nat.reduceLeDiff, beq_self_eq_true, decT, decF, ifT, ifF, eqT, eqF, neT, neF, bytesIV_length, one_length, get_cp, get_cp0, hlz, e, he, and_false]
    · cases n1 <;> cases n2 <;> simp at hn <;> simp (config := { maxSteps := 4000000 }) (disch := omega) only [t17, go_sem, Nat.reduceAdd, Nat.reduceSub, Nat.reduceMul, Nat.reduceLT, Nat.reduceLeDiff, Nat.reduceEqDiff, Nat.reduceBEq, reduceIte, reduceCtorEq, List.replicate, List.cons_append, List.nil_append, Int.reduceEq, Int.reduceLT, Int.reduceLE, Int.reduceAdd, Int.reduceSub, Int.reduceMul, Int.reduceToNat, Int.reduceNeg, Int.reduceBEq, Int.reduceBNe, Int.reduceTDiv, Int.reduceTMod, Int.reducePow, Nat.reducePow, decide_true, decide_false, Nat.reduceDiv, Nat.reduceMod, Int.reduceMod, Int.reduceDiv, Int.reduceNe, Int.reduceFDiv, Nat.reduceLeDiff, beq_self_eq_true, decT, decF, ifT, ifF, eqT, eqF, neT, neF, bytesIV_length, one_length, get_cp, get_cp0, false_and]
  · have he : ¬ l = m := by intro e; exact hlen (by rw [e])
    have hlz : ¬ (l.length : Int) = m.length := by omega
    simp only [num]
    cases n1 <;> cases n2 <;> simp (config := { maxSteps := 4000000 }) (disch := omega) only [t17, go_sem, Nat.reduceAdd, Nat.reduceSub, Nat.reduceMul, Nat.reduceLT, Nat.reduceLeDiff, Nat.reduceEqDiff, Nat.reduceBEq, reduceIte, reduceCtorEq, List.replicate, List.cons_append, List.nil_append, Int.reduceEq, Int.reduceLT, Int.reduceLE, Int.reduceAdd, Int.reduceSub, Int.reduceMul, Int.reduceToNat, Int.reduceNeg, Int.reduceBEq, Int.reduceBNe, Int.reduceTDiv, Int.reduceTMod, Int.reducePow, Nat.reducePow, decide_true, decide_false, Nat.reduceDiv, Nat.reduceMod, Int.reduceMod, Int.reduceDiv, Int.reduceNe, Int.reduceFDiv, Nat.reduceLeDiff, beq_self_eq_true, decT, decF, ifT, ifF, eqT, eqF, neT, neF, bytesIV_length, one_length, get_cp, get_cp0, hlz, he, and_false, false_and]
theorem same_bg (t t' : Tag) (z z' : Int) (h : (dg 65536 z.natAbs).length ≤ 1000000) : (lim K).call 17 [.iv (bg t z), .iv (bg t' z')] [] = .ret (.iv (.bool (decide (z = z'))), []) := by
  rw [bg, bg, call17 _ _ _ _ _ _ h]
  have : (decide (z < 0) = decide (z' < 0) ∧ dg 65536 z.natAbs = dg 65536 z'.natAbs) ↔ z = z' := by
    constructor
    · rintro ⟨h1, h2⟩
      have h3 := dg_inj (B := 65536) (by decide) (by omega) (by omega) h2
      have h4 : (z < 0) = (z' < 0) := by simpa using h1
      by_cases g : z < 0
      · have : z' < 0 := by rw [← h4]; exact g
        omega
      · have : ¬ z' < 0 := by rw [← h4]; exact g
        omega
    · rintro rfl; exact ⟨rfl, rfl⟩
  rw [decide_eq_decide.2 this]
/-! ### large -/
instance : Inhabited Tag := ⟨.no⟩
def numC (a : Bool × Tag × List Int) : List IV := [.bool a.1, .sl a.2.1 (one d16 a.2.2)]
def big60 (l : List (Bool × Tag × List Int)) : Bool := l.any fun a => decide (60 < a.2.2.length)
theorem addOff_cp2 (a b : IV) : addOff (.iv (.cp [a, b])) 1 = some (.iv (.cp [b])) := id rfl
def jm : Bool → Jump
  | true => .ret
  | false => .exit 0
theorem loop15 (t : Tag) (l : List (Bool × Tag × List Int)) (hl : l.length ≤ 1000) (hs : ∀ a ∈ l, a.2.2.length ≤ 9223372036854775807) (S : Store) : ∀ (k i : Nat) (x3 x4 : TV), i + k = l.length →
    ∃ y2 y3 y4, lp' (lim K) t15L0 [.iv (.sl t (l.map numC)), .iv (.bool false), .iv (.int .i64 i), x3, x4] S = .ret (jm (big60 (l.drop i)), [.iv (.sl t (l.map numC)), .iv (.bool (big60 (l.drop i))), y2, y3, y4], S)
  | 0, i, x3, x4, h => by
    obtain rfl : i = l.length := by omega
    rw [List.drop_length]
    refine ⟨?_, ?_, ?_, loop_at K _ _ t15L0.eq_1 ?_⟩
    rotate_left 3
    · simp (disch := omega) only [go_sem, Nat.reduceAdd, Nat.reduceSub, Nat.reduceMul, Nat.reduceLT, Nat.reduceLeDiff, Nat.reduceEqDiff, Nat.reduceBEq, reduceIte, reduceCtorEq, List.replicate, List.cons_append, List.nil_append, Int.reduceEq, Int.reduceLT, Int.reduceLE, Int.reduceAdd, Int.reduceSub, Int.reduceMul, Int.reduceToNat, Int.reduceNeg, Int.reduceBEq, Int.reduceBNe, Int.reduceTDiv, Int.reduceTMod, Int.reducePow, Nat.reducePow, decide_true, decide_false, Nat.reduceDiv, Nat.reduceMod, Int.reduceMod, Int.reduceDiv, Int.reduceNe, Int.reduceFDiv, Nat.reduceLeDiff, beq_self_eq_true, decT, decF, ifT, ifF, eqT, eqF, neT, neF, bytesIV_length, one_length, get_cp, get_cp0, List.length_map, big60, List.any_nil]
      rfl
  | k + 1, i, x3, x4, h => by
    have hix := ix_map (f := numC) (w := 2) (fun _ => rfl) (t := t) (l := l) (i := (i : Int)) (by omega)
    rw [Int.toNat_natCast] at hix
    have e1 : l.drop i = l.getD i default :: l.drop (i + 1) := by
      rw [List.drop_eq_getElem_cons (by omega)]; simp [List.getD, List.getElem?_eq_getElem (show i < l.length by omega)]
    have hm : l.getD i default ∈ l := by
      rw [List.getD, List.getElem?_eq_getElem (show i < l.length by omega)]; exact List.getElem_mem _
    have hsz := hs _ hm
    rw [e1, big60, List.any_cons]
    have ih := loop15 t l hl hs S k (i + 1)
    generalize l.getD i default = a at *
    simp only [numC] at hix
    simp only [big60] at ih
    generalize hq : (l.drop (i + 1)).any (fun a => decide (60 < a.2.2.length)) = q at *
    by_cases hab : 60 < a.2.2.length
    · refine ⟨?_, ?_, ?_, loop_at K _ _ t15L0.eq_1 ?_⟩
      rotate_left 3
      · simp (config := { maxSteps := 4000000 }) (disch := omega) only [go_sem, Nat.reduceAdd, Nat.reduceSub, Nat.reduceMul, Nat.reduceLT, Nat.reduceLeDiff, Nat.reduceEqDiff, Nat.reduceBEq, reduceIte, reduceCtorEq, List.replicate, List.cons_append, List.nil_append, Int.reduceEq, Int.reduceLT, Int.reduceLE, Int.reduceAdd, Int.reduceSub, Int.reduceMul, Int.reduceToNat, Int.reduceNeg, Int.reduceBEq, Int.reduceBNe, Int.reduceTDiv, Int.reduceTMod, Int.reducePow, Nat.reducePow, decide_true, decide_false, Nat.reduceDiv, Nat.reduceMod, Int.reduceMod, Int.reduceDiv, Int.reduceNe, Int.reduceFDiv, Nat.reduceLeDiff, beq_self_eq_true, decT, decF, ifT, ifF, eqT, eqF, neT, neF, bytesIV_length, one_length, get_cp, get_cp0, hix, addOff_cp2, List.length_map, wrap_i64, hab, Bool.true_or]
        rfl
    · obtain ⟨y2, y3, y4, ih⟩ := ih (.iv (.bool true)) (.iv (.bool false)) (by omega)
      refine ⟨y2, y3, y4, loop_at K _ _ t15L0.eq_1 ?_⟩
      simp (config := { maxSteps := 4000000 }) (disch := omega) only [go_sem, Nat.reduceAdd, Nat.reduceSub, Nat.reduceMul, Nat.reduceLT, Nat.reduceLeDiff, Nat.reduceEqDiff, Nat.reduceBEq, reduceIte, reduceCtorEq, List.replicate, List.cons_append, List.nil_append, Int.reduceEq, Int.reduceLT, Int.reduceLE, Int.reduceAdd, Int.reduceSub, Int.reduceMul, Int.reduceToNat, Int.reduceNeg, Int.reduceBEq, Int.reduceBNe, Int.reduceTDiv, Int.reduceTMod, Int.reducePow, Nat.reducePow, decide_true, decide_false, Nat.reduceDiv, Nat.reduceMod, Int.reduceMod, Int.reduceDiv, Int.reduceNe, Int.reduceFDiv, Nat.reduceLeDiff, beq_self_eq_true, decT, decF, ifT, ifF, eqT, eqF, neT, neF, bytesIV_length, one_length, get_cp, get_cp0, hix, addOff_cp2, List.length_map, wrap_i64, hab, Bool.false_or]
      exact congrArg er ih
theorem call15 (t : Tag) (l : List (Bool × Tag × List Int)) (hl : l.length ≤ 1000) (hs : ∀ a ∈ l, a.2.2.length ≤ 9223372036854775807) : (lim K).call 15 [.iv (.sl t (l.map numC))] [] = .ret (.iv (.bool (big60 l)), []) := by
  obtain ⟨y2, y3, y4, e⟩ := loop15 t l hl hs [] l.length 0 (.tup []) (.tup []) (by omega)
  rw [show ((0 : Nat) : Int) = 0 from rfl, List.drop_zero] at e
  refine call_ret' K [] (fn := t15) rfl rfl ?_
  cases hb : big60 l
  · simp only [hb, jm] at e
    simp (config := { maxSteps := 4000000 }) (disch := omega) only [t15, go_sem, Nat.reduceAdd, Nat.reduceSub, Nat.reduceMul, Nat.reduceLT, Nat.reduceLeDiff, Nat.reduceEqDiff, Nat.reduceBEq, reduceIte, reduceCtorEq, List.replicate, List.cons_append, List.nil_append, Int.reduceEq, Int.reduceLT, Int.reduceLE, Int.reduceAdd, Int.reduceSub, Int.reduceMul, Int.reduceToNat, Int.reduceNeg, Int.reduceBEq, Int.reduceBNe, Int.reduceTDiv, Int.reduceTMod, Int.reducePow, Nat.reducePow, decide_true, decide_false, Nat.reduceDiv, Nat.reduceMod, Int.reduceMod, Int.reduceDiv, Int.reduceNe, Int.reduceFDiv, Nat.reduceLeDiff, beq_self_eq_true, decT, decF, ifT, ifF, eqT, eqF, neT, neF, bytesIV_length, one_length, get_cp, get_cp0, e]
  · simp only [hb, jm] at e
    simp (config := { maxSteps := 4000000 }) (disch := omega) only [t15, go_sem, Nat.reduceAdd, Nat.reduceSub, Nat.reduceMul, Nat.reduceLT, Nat.reduceLeDiff, Nat.reduceEqDiff, Nat.reduceBEq, reduceIte, reduceCtorEq, List.replicate, List.cons_append, List.nil_append, Int.reduceEq, Int.reduceLT, Int.reduceLE, Int.reduceAdd, Int.reduceSub, Int.reduceMul, Int.reduceToNat, Int.reduceNeg, Int.reduceBEq, Int.reduceBNe, Int.reduceTDiv, Int.reduceTMod, Int.reducePow, Nat.reducePow, decide_true, decide_false, Nat.reduceDiv, Nat.reduceMod, Int.reduceMod, Int.reduceDiv, Int.reduceNe, Int.reduceFDiv, Nat.reduceLeDiff, beq_self_eq_true, decT, decF, ifT, ifF, eqT, eqF, neT, neF, bytesIV_length, one_length, get_cp, get_cp0, e]
end Go.Proofs.YtdbffhgfjmhaiaaDoor
