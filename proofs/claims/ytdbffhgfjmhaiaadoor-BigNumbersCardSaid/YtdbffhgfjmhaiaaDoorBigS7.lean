/- The contract of strings.Join with nothing between; of strings.Repeat, of few noughts. Condition: none. -/
import Derived.Test.YtdbffhgfjmhaiaaDoorBigS6
set_option maxRecDepth 100000
set_option maxHeartbeats 2000000
set_option linter.unusedSimpArgs false
set_option linter.unusedVariables false
namespace Go.Proofs.YtdbffhgfjmhaiaaDoor
open Go Go.TM
theorem call49 (t : Tag) (l : List (List UInt8)) (ht : TagOk t l) (h0 : l ≠ []) (hl : l.length ≤ 1000) (hne : cat l ≠ []) (hn : (cat l).length ≤ 900000) : Pure K 49 [.iv (.sl t (one IV.str l)), .iv (.str [])] (.iv (.str (cat l))) := by
  match l, h0 with
  | [s], _ =>
    have hix := ix_one IV.str (t := t) (l := [s]) (i := 0) (by simp)
    have e0 : [s].getD (0 : Int).toNat default = s := rfl
    rw [e0] at hix
    have e1 : cat [s] = s := by simp [cat]
    rw [e1]
    refine call_pure t49 rfl rfl ?_
    simp (config := { maxSteps := 4000000 }) (disch := omega) only [t49, go_sem, Nat.reduceAdd, Nat.reduceSub, Nat.reduceLT, Nat.reduceLeDiff, Nat.reduceEqDiff, Nat.reduceBEq, reduceIte, reduceCtorEq, Int.reduceEq, Int.reduceLT, Int.reduceLE, Int.reduceAdd, Int.reduceSub, Int.reduceMul, Int.reduceToNat, Int.reduceNeg, Int.reduceBEq, Int.reducePow, Nat.reducePow, hix, List.length_singleton, resB_ret, resO_some]
  | s :: u :: r, _ =>
    obtain ⟨y4, y15, y16, e1⟩ := loop49a t (s :: u :: r) hl (.iv (.sl t (one IV.str (s :: u :: r)))) (.iv (.str [])) (.iv (.str [])) (.tup []) (.tup []) (.iv (.int .i64 (s :: u :: r).length)) (.iv (.bool false)) (.iv (.bool false)) (.iv (.bool false)) (.tup []) (.tup []) (.tup []) (.tup []) (.tup []) [] (s :: u :: r).length 0 0 (.tup []) (.tup []) (.tup []) (by omega) (by rw [List.drop_zero]; omega)
    rw [List.drop_zero, Nat.zero_add, show ((0 : Nat) : Int) = 0 from rfl] at e1
    have hpos : 0 < (cat (s :: u :: r)).length := List.length_pos_iff.2 hne
    have h71 : (lim K).call 71 [.ptr 0 108 0, .iv (.int .i64 ((cat (s :: u :: r)).length : Nat))] [Block.cells 108 false [.iv .nilp, .iv (.sl .nil [])]] = .ret (.tup [], bld []) := call71 _ (by omega)
    have hcat : cat (s :: u :: r) = s ++ cat (u :: r) := by simp [cat]
    have hlen : (cat (s :: u :: r)).length = s.length + (cat (u :: r)).length := by rw [hcat, List.length_append]
    have c1 := call72 [] s (by simp; omega)
    rw [List.nil_append] at c1
    have hix := ix_one IV.str (t := t) (l := s :: u :: r) (i := 0) (by simp; omega)
    have e0 : (s :: u :: r).getD (0 : Int).toNat default = s := rfl
    rw [e0] at hix
    have hsl := fun S => slice_one_lo (f := IV.str) S (t := t) (l := s :: u :: r) (a := 1) ht (by simp; omega)
    have e5 : (s :: u :: r).drop (1 : Int).toNat = u :: r := rfl
    rw [e5] at hsl
    obtain ⟨y6, y20, e2⟩ := loop49b t (u :: r) (by simp at hl ⊢; omega) (.iv (.sl t (one IV.str (s :: u :: r)))) (.iv (.str [])) (.iv (.int .i64 ((cat (s :: u :: r)).length : Nat))) y4 (.iv (.int .i64 (s :: u :: r).length)) (.iv (.bool false)) (.iv (.bool false)) (.iv (.bool false)) (.tup []) (.iv (.sl t (one IV.str (s :: u :: r)))) (.iv (.int .i64 (s :: u :: r).length)) (.iv (.int .i64 (s :: u :: r).length)) y15 y16 (u :: r).length 0 s (.tup []) (.tup []) (by omega) (by rw [List.drop_zero]; omega)
    rw [List.drop_zero, ← hcat, show ((0 : Nat) : Int) = 0 from rfl] at e2
    have h74 := str74 (cat (s :: u :: r)) hne (by omega)
    have hl2 : ((s :: u :: r).length : Int) = (r.length : Int) + 2 := by simp; omega
    refine call_pure t49 rfl rfl ?_
    rw [hl2] at e1 e2
    have hl1 : ((u :: r).length : Int) = (r.length : Int) + 1 := by simp
    rw [hl1] at e2
    generalize cat (s :: u :: r) = W at *
    generalize hA : s :: u :: r = A at *
    generalize hB : u :: r = B at *
    simp (config := { maxSteps := 4000000 }) (disch := omega) only [t49, go_sem, Nat.reduceAdd, Nat.reduceSub, Nat.reduceLT, Nat.reduceLeDiff, Nat.reduceEqDiff, Nat.reduceBEq, reduceIte, reduceCtorEq, Int.reduceEq, Int.reduceLT, Int.reduceLE, Int.reduceAdd, Int.reduceSub, Int.reduceMul, Int.reduceToNat, Int.reduceNeg, Int.reduceBEq, Int.reducePow, Nat.reducePow, hl2, hl1, e1, h71, hix, c1, hsl, e2, h74, resB_ret, resO_some]
end Go.Proofs.YtdbffhgfjmhaiaaDoor
