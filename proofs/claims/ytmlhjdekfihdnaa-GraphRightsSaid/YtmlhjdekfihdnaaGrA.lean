/- GraphRights: the contracts. Condition: none. -/
import Derived.Test.YtmlhjdekfihdnaaTmProg
import Derived.Test.YtmlhjdekfihdnaaTmE
set_option maxRecDepth 100000
set_option linter.unusedSimpArgs false
set_option linter.unusedVariables false
namespace Go.Proofs.Ytmlhjdekfihdnaa
open Go Go.TM
def enc2 (p : Int × Int) : List IV := [.int .i64 p.1, .int .i64 p.2]
theorem enc2_ok (p : Int × Int) : (enc2 p).length = 2 ∧ (enc2 p).all isCell = true := ⟨rfl, rfl⟩
def gv (r : Int) (t1 : Tag) (E : List (Int × Int)) (t2 : Tag) (M : List (Int × Int)) : IV := .agg [.int .i64 r, .sl t1 (E.map enc2), .sl t2 (M.map enc2)]
def gcells (r : Int) (t1 : Tag) (E : List (Int × Int)) (t2 : Tag) (M : List (Int × Int)) : List TV := [.iv (.int .i64 r), .iv (.sl t1 (E.map enc2)), .iv (.sl t2 (M.map enc2))]
def wrong (r : Int) (p : Int × Int) : Bool := decide (p.1 < 1) || (decide (p.2 < 1) || (decide (r ≤ p.1) || (decide (r ≤ p.2) || (p.1 == p.2))))
theorem load_pair (env : Env) (S : Store) (p : Int × Int) : getCells env S (.iv (.cp (enc2 p))) 2 = some [.iv (.int .i64 p.1), .iv (.int .i64 p.2)] := rfl
set_option maxHeartbeats 4000000 in
theorem call27 (r : Int) (t1 : Tag) (E : List (Int × Int)) (t2 : Tag) (M : List (Int × Int)) (p : Int × Int) : (lim K).call 27 [.iv (.agg [.int .i64 p.1, .int .i64 p.2]), .ptr 0 25 0] [.cells 25 false (gcells r t1 E t2 M)] = .ret (.iv (.bool (wrong r p)), [.cells 25 false (gcells r t1 E t2 M)]) := by
  refine call_ret' K _ (fn := t27) rfl rfl ?_
  simp (config := { maxSteps := 4000000 }) (disch := omega) only [t27, go_sem, Nat.reduceAdd, Nat.reduceSub, Nat.reduceMul, Nat.reduceLT, Nat.reduceLeDiff, Nat.reduceEqDiff, Nat.reduceBEq, reduceIte, reduceCtorEq, List.replicate, List.cons_append, List.nil_append, Int.reduceEq, Int.reduceLT, Int.reduceLE, Int.reduceAdd, Int.reduceSub, Int.reduceMul, Int.reduceToNat, Int.reduceNeg, Int.reduceBEq, Int.reduceBNe, Int.reduceTDiv, Int.reduceTMod, Int.reducePow, Nat.reducePow, decide_true, decide_false, Nat.reduceDiv, Nat.reduceMod, Int.reduceMod, Int.reduceDiv, Int.reduceNe, Int.reduceFDiv, Nat.reduceLeDiff, beq_self_eq_true, decT, decF, ifT, ifF, eqT, eqF, neT, neF, bytesIV_length, one_length, get_cp, get_cp0, gcells]
  repeat' (first | (first | refine br_dec' (fun h => ?_) (fun h => ?_) | refine br_beq' (fun h => ?_) (fun h => ?_) | refine br_bne' (fun h => ?_) (fun h => ?_) | refine br_eq' (fun h => ?_) (fun h => ?_)) | simp (disch := omega) only [go_sem, Nat.reduceAdd, Nat.reduceSub, Nat.reduceMul, Nat.reduceLT, Nat.reduceLeDiff, Nat.reduceEqDiff, Nat.reduceBEq, reduceIte, reduceCtorEq, List.replicate, List.cons_append, List.nil_append, Int.reduceEq, Int.reduceLT, Int.reduceLE, Int.reduceAdd, Int.reduceSub, Int.reduceMul, Int.reduceToNat, Int.reduceNeg, Int.reduceBEq, Int.reduceBNe, Int.reduceTDiv, Int.reduceTMod, Int.reducePow, Nat.reducePow, decide_true, decide_false, Nat.reduceDiv, Nat.reduceMod, Int.reduceMod, Int.reduceDiv, Int.reduceNe, Int.reduceFDiv, Nat.reduceLeDiff, beq_self_eq_true, decT, decF, ifT, ifF, eqT, eqF, neT, neF, bytesIV_length, one_length, get_cp, get_cp0])
  all_goals (congr 4; simp [wrong, *])
/-- The first one's index. -/
theorem loop42 (t : Tag) (l : List (Int × Int)) (hl : l.length ≤ 1000000) (f : Nat) (cap : List TV) (q : Int × Int → Bool) (S : Store) (hcap : ([TV.iv (.agg [.int .i64 0, .int .i64 0])] ++ cap).all isIV = false) (hlp : cap.any isLp = false)
    (hq : ∀ p : Int × Int, p ∈ l → (lim K).call f ([] ++ [.iv (.agg [.int .i64 p.1, .int .i64 p.2])] ++ cap) S = .ret (.iv (.bool (q p)), S)) (r2 : TV) : ∀ (k i : Nat) (x3 x6 x7 : TV), i + k = l.length →
    ∃ y y3 y5 y6 y7, 0 ≤ y ∧ lp' (lim K) t42L0 [.iv (.sl t (l.map enc2)), .fn f [] cap, r2, x3, .iv (.int .i64 l.length), .iv (.int .i64 i), x6, x7] S = .ret (if (l.drop i).any q then (.ret, [.iv (.sl t (l.map enc2)), .fn f [] cap, .iv (.int .i64 y), y3, .iv (.int .i64 l.length), y5, y6, y7], S) else (.exit 0, [.iv (.sl t (l.map enc2)), .fn f [] cap, r2, y3, .iv (.int .i64 l.length), y5, y6, y7], S))
  | 0, i, x3, x6, x7, h => by
    obtain rfl : i = l.length := by omega
    have e : (l.drop l.length).any q = false := by simp
    refine ⟨0, ?_, ?_, ?_, ?_, by omega, loop_at K _ _ t42L0.eq_1 ?_⟩
    rotate_left 4
    · simp (disch := omega) only [go_sem, Nat.reduceAdd, Nat.reduceSub, Nat.reduceMul, Nat.reduceLT, Nat.reduceLeDiff, Nat.reduceEqDiff, Nat.reduceBEq, reduceIte, reduceCtorEq, List.replicate, List.cons_append, List.nil_append, Int.reduceEq, Int.reduceLT, Int.reduceLE, Int.reduceAdd, Int.reduceSub, Int.reduceMul, Int.reduceToNat, Int.reduceNeg, Int.reduceBEq, Int.reduceBNe, Int.reduceTDiv, Int.reduceTMod, Int.reducePow, Nat.reducePow, decide_true, decide_false, Nat.reduceDiv, Nat.reduceMod, Int.reduceMod, Int.reduceDiv, Int.reduceNe, Int.reduceFDiv, Nat.reduceLeDiff, beq_self_eq_true, decT, decF, ifT, ifF, eqT, eqF, neT, neF, bytesIV_length, one_length, get_cp, get_cp0, e]
      rfl
  | k + 1, i, x3, x6, x7, h => by
    have hd : l.drop i = l.getD i default :: l.drop (i + 1) := by
      rw [List.drop_eq_getElem_cons (by omega)]
      simp [List.getD, List.getElem?_eq_getElem (show i < l.length by omega)]
    have hg := ix_map (w := 2) (f := enc2) (fun _ => rfl) (t := t) (l := l) (i := (i : Int)) (by omega)
    rw [Int.toNat_natCast] at hg
    have ih := loop42 t l hl f cap q S hcap hlp hq r2 k (i + 1)
    have hq1 := hq (l.getD i default) (by simp only [List.getD, List.getElem?_eq_getElem (show i < l.length by omega), Option.getD_some]; exact List.getElem_mem _)
    have ha : ([] ++ [TV.iv (.agg [.int .i64 (l.getD i default).1, .int .i64 (l.getD i default).2])] ++ cap).all isIV = false := by
      simpa [isIV] using hcap
    have hb : ([] ++ [TV.iv (.agg [.int .i64 (l.getD i default).1, .int .i64 (l.getD i default).2])] ++ cap).any isLp = false := by
      simpa [isLp] using hlp
    generalize l.getD i default = p at *
    cases hp : q p
    · obtain ⟨y, y3, y5, y6, y7, hy, ih⟩ := ih (.iv (.int .i64 i)) (.iv (.bool true)) (.iv (.bool false)) (by omega)
      refine ⟨y, y3, y5, y6, y7, hy, loop_at K _ _ t42L0.eq_1 ?_⟩
      rw [hp] at hq1
      have e : (l.drop i).any q = (l.drop (i + 1)).any q := by rw [hd, List.any_cons, hp, Bool.false_or]
      rw [e]
      simp only [List.nil_append, List.cons_append] at ha hb hq1
      simp (config := { maxSteps := 4000000 }) (disch := omega) only [go_sem, Nat.reduceAdd, Nat.reduceSub, Nat.reduceMul, Nat.reduceLT, Nat.reduceLeDiff, Nat.reduceEqDiff, Nat.reduceBEq, reduceIte, reduceCtorEq, List.replicate, List.cons_append, List.nil_append, Int.reduceEq, Int.reduceLT, Int.reduceLE, Int.reduceAdd, Int.reduceSub, Int.reduceMul, Int.reduceToNat, Int.reduceNeg, Int.reduceBEq, Int.reduceBNe, Int.reduceTDiv, Int.reduceTMod, Int.reducePow, Nat.reducePow, decide_true, decide_false, Nat.reduceDiv, Nat.reduceMod, Int.reduceMod, Int.reduceDiv, Int.reduceNe, Int.reduceFDiv, Nat.reduceLeDiff, beq_self_eq_true, decT, decF, ifT, ifF, eqT, eqF, neT, neF, bytesIV_length, one_length, get_cp, get_cp0, hg, load_pair, wrap_i64, ha, hb, hq1]
      exact congrArg er ih
    · refine ⟨i, ?_, ?_, ?_, ?_, by omega, loop_at K _ _ t42L0.eq_1 ?_⟩
      rotate_left 4
      · rw [hp] at hq1
        have e : (l.drop i).any q = true := by rw [hd, List.any_cons, hp, Bool.true_or]
        rw [e]
        simp only [List.nil_append, List.cons_append] at ha hb hq1
        simp (config := { maxSteps := 4000000 }) (disch := omega) only [go_sem, Nat.reduceAdd, Nat.reduceSub, Nat.reduceMul, Nat.reduceLT, Nat.reduceLeDiff, Nat.reduceEqDiff, Nat.reduceBEq, reduceIte, reduceCtorEq, List.replicate, List.cons_append, List.nil_append, Int.reduceEq, Int.reduceLT, Int.reduceLE, Int.reduceAdd, Int.reduceSub, Int.reduceMul, Int.reduceToNat, Int.reduceNeg, Int.reduceBEq, Int.reduceBNe, Int.reduceTDiv, Int.reduceTMod, Int.reducePow, Nat.reducePow, decide_true, decide_false, Nat.reduceDiv, Nat.reduceMod, Int.reduceMod, Int.reduceDiv, Int.reduceNe, Int.reduceFDiv, Nat.reduceLeDiff, beq_self_eq_true, decT, decF, ifT, ifF, eqT, eqF, neT, neF, bytesIV_length, one_length, get_cp, get_cp0, hg, load_pair, wrap_i64, ha, hb, hq1]
        rfl
end Go.Proofs.Ytmlhjdekfihdnaa
