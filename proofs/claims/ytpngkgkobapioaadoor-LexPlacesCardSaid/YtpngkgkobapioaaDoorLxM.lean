/- LexPlaces: the evaluator answers true. Condition: none. -/
import Derived.Test.YtpngkgkobapioaaDoorLxL
import Derived.Test.YtpngkgkobapioaaDoorTmE
set_option maxRecDepth 100000
set_option maxHeartbeats 8000000
set_option linter.unusedSimpArgs false
set_option linter.unusedVariables false
namespace Go.Proofs.YtpngkgkobapioaaDoor
open Go Go.TM
theorem works1 : ((ex K 100).call 8 [] []).allB isTrue = true := by kernel_rfl
theorem works : ((lim K).call 8 [] []).All fun r => r.1 = .iv (.bool true) := lim_allB 100 8 works1
instance : Inhabited Tk := ⟨⟨0, 0, 0, 0, [], 0⟩⟩
theorem ao0 (cs : List IV) : addOff (.iv (.cp cs)) 0 = some (.iv (.cp cs)) := by simp [addOff]
theorem aoS (x : IV) (cs : List IV) (n : Nat) : addOff (.iv (.cp (x :: cs))) (n + 1) = addOff (.iv (.cp cs)) n := by simp [addOff]
theorem ixT {t : Tag} {ts : List Tk} {i : Int} (h : 0 ≤ i ∧ i < ts.length) : indexAddrS 7 (.iv (.sl t (ts.map encT))) i = some (.iv (.cp (encT (ts.getD i.toNat default)))) := ix_map (f := encT) (fun a => (encT_ok a).1) h
theorem drop_consT {ts : List Tk} {i : Nat} (h : i < ts.length) : ts.drop i = ts.getD i default :: ts.drop (i + 1) := by
  rw [List.drop_eq_getElem_cons h]
  simp [List.getD, List.getElem?_eq_getElem h]
theorem eqFlt0 : eqAgg true [(0, .int), (1, .int)] (.iv (.agg [.int .i64 0, .int .i64 0])) (.iv (.agg [.int .i64 0, .int .i64 0])) = some (.bool false) := rfl
theorem eqFlt1 {e : Int} (q : Int) (h : e ≠ 0) : eqAgg true [(0, .int), (1, .int)] (.iv (.agg [.int .i64 e, .int .i64 q])) (.iv (.agg [.int .i64 0, .int .i64 0])) = some (.bool true) := by
  have : (e == 0) = false := by simp [h]
  simp [eqAgg, leavesAt, leafEq, this]
theorem loop4 (tb : Tag) (b : List UInt8) (tg : Tag) (ts : List Tk) (hl : ts.length ≤ 1000000000) (hb : b.length ≤ 1000000000) (x3 x6 x7 : TV) : ∀ (k i : Nat) (last : Int) (x8 x9 : TV), i + k = ts.length → Asc last (ts.drop i) b.length →
    ∃ y4 y8 y9, lp' (lim K) t4L0 [.iv (.sl tb (bytesIV b)), .iv (.bool false), .iv (.sl tg (ts.map encT)), x3, .iv (.int .i64 last), .iv (.int .i64 i), x6, x7, x8, x9] [] = .ret (.exit 0, [.iv (.sl tb (bytesIV b)), .iv (.bool false), .iv (.sl tg (ts.map encT)), x3, y4, .iv (.int .i64 ts.length), x6, x7, y8, y9], [])
  | 0, i, last, x8, x9, h, ha => by
    obtain rfl : i = ts.length := by omega
    refine ⟨?_, ?_, ?_, loop_at K _ _ t4L0.eq_1 ?_⟩
    rotate_left 3
    · simp (disch := omega) only [go_sem, Nat.reduceAdd, Nat.reduceSub, Nat.reduceLT, Nat.reduceLeDiff, Nat.reduceEqDiff, Nat.reduceBEq, reduceIte, reduceCtorEq, Int.reduceEq, Int.reduceLT, Int.reduceLE, Int.reduceAdd, Int.reduceSub, Int.reduceMul, Int.reduceToNat, Int.reduceNeg, Int.reduceBEq, Int.reducePow, Nat.reducePow, List.length_map]
      rfl
  | k + 1, i, last, x8, x9, h, ha => by
    have hix := ixT (t := tg) (ts := ts) (i := (i : Int)) (by omega)
    rw [Int.toNat_natCast] at hix
    rw [drop_consT (by omega)] at ha
    generalize ts.getD i default = tk at *
    obtain ⟨h1, h2, h3, h4⟩ := ha
    obtain ⟨y4, y8, y9, ih⟩ := loop4 tb b tg ts hl hb x3 x6 x7 k (i + 1) tk.pos (.iv (.bool true)) (.iv (.bool false)) (by omega) h4
    refine ⟨y4, y8, y9, loop_at K _ _ t4L0.eq_1 ?_⟩
    have hlm : (ts.map encT).length = ts.length := List.length_map _
    generalize ts.map encT = M at *
    simp only [encT] at hix
    by_cases k7 : tk.kind = 7
    · have := h3 k7
      simp (config := { maxSteps := 4000000 }) (disch := omega) only [go_sem, Nat.reduceAdd, Nat.reduceSub, Nat.reduceLT, Nat.reduceLeDiff, Nat.reduceEqDiff, Nat.reduceBEq, reduceIte, reduceCtorEq, Int.reduceEq, Int.reduceLT, Int.reduceLE, Int.reduceAdd, Int.reduceSub, Int.reduceMul, Int.reduceToNat, Int.reduceNeg, Int.reduceBEq, Int.reducePow, Nat.reducePow, hlm, hix, ao0, aoS, wrap_i64]
      exact congrArg er ih
    · simp (config := { maxSteps := 4000000 }) (disch := omega) only [go_sem, Nat.reduceAdd, Nat.reduceSub, Nat.reduceLT, Nat.reduceLeDiff, Nat.reduceEqDiff, Nat.reduceBEq, reduceIte, reduceCtorEq, Int.reduceEq, Int.reduceLT, Int.reduceLE, Int.reduceAdd, Int.reduceSub, Int.reduceMul, Int.reduceToNat, Int.reduceNeg, Int.reduceBEq, Int.reducePow, Nat.reducePow, hlm, hix, ao0, aoS, wrap_i64]
      exact congrArg er ih
theorem asc_len : ∀ {ts : List Tk} {last hi : Int}, Asc last ts hi → last < hi → (ts.length : Int) ≤ hi - last
  | [], last, hi, h, g => by simp; omega
  | t :: r, last, hi, ⟨h1, h2, h3, h4⟩, g => by
    have := asc_len h4 h2
    rw [List.length_cons]
    omega
theorem law4 (t : Tag) (b : List UInt8) (ht : TagOk t b) (hl : b.length ≤ 9223372036854775807) : ((lim K).call 4 [.iv (.sl t (bytesIV b))] []).All fun r => r.1 = .iv (.bool true) := by
  refine call_all' K [] (fn := t4) rfl rfl ?_
  by_cases h : b.length ≤ 20000
  · have h12 := call12 t b ht (by omega)
    obtain ⟨a1, a2⟩ := lexF_at b.length b 0
    unfold lexL at h12
    cases hx : lexF b.length b 0 with
    | inl x =>
      obtain ⟨e, q⟩ := x
      have ha := a2 e q hx
      rw [hx] at h12
      simp only [lexV, flt] at h12
      have he : ¬ (e = 0 ∧ q = 0) := by omega
      rcases ha.1 with rfl | rfl
      · simp (config := { maxSteps := 4000000 }) (disch := omega) only [t4, go_sem, Nat.reduceAdd, Nat.reduceSub, Nat.reduceLT, Nat.reduceLeDiff, Nat.reduceEqDiff, Nat.reduceBEq, reduceIte, reduceCtorEq, Int.reduceEq, Int.reduceLT, Int.reduceLE, Int.reduceAdd, Int.reduceSub, Int.reduceMul, Int.reduceToNat, Int.reduceNeg, Int.reduceBEq, Int.reducePow, Nat.reducePow, cpR_pure h12, eqFlt1]
        refine all_works works ?_
        simp (config := { maxSteps := 4000000 }) (disch := omega) only [go_sem, Nat.reduceAdd, Nat.reduceSub, Nat.reduceLT, Nat.reduceLeDiff, Nat.reduceEqDiff, Nat.reduceBEq, reduceIte, reduceCtorEq, Int.reduceEq, Int.reduceLT, Int.reduceLE, Int.reduceAdd, Int.reduceSub, Int.reduceMul, Int.reduceToNat, Int.reduceNeg, Int.reduceBEq, Int.reducePow, Nat.reducePow, Out.All]
      · simp (config := { maxSteps := 4000000 }) (disch := omega) only [t4, go_sem, Nat.reduceAdd, Nat.reduceSub, Nat.reduceLT, Nat.reduceLeDiff, Nat.reduceEqDiff, Nat.reduceBEq, reduceIte, reduceCtorEq, Int.reduceEq, Int.reduceLT, Int.reduceLE, Int.reduceAdd, Int.reduceSub, Int.reduceMul, Int.reduceToNat, Int.reduceNeg, Int.reduceBEq, Int.reducePow, Nat.reducePow, cpR_pure h12, eqFlt1]
        refine all_works works ?_
        simp (config := { maxSteps := 4000000 }) (disch := omega) only [go_sem, Nat.reduceAdd, Nat.reduceSub, Nat.reduceLT, Nat.reduceLeDiff, Nat.reduceEqDiff, Nat.reduceBEq, reduceIte, reduceCtorEq, Int.reduceEq, Int.reduceLT, Int.reduceLE, Int.reduceAdd, Int.reduceSub, Int.reduceMul, Int.reduceToNat, Int.reduceNeg, Int.reduceBEq, Int.reducePow, Nat.reducePow, Out.All]
    | inr ts =>
      have ha := a1 ts hx
      rw [hx] at h12
      simp only [lexV, flt] at h12
      have hn := asc_len ha (by omega)
      rw [show (0 : Int) - 1 = -1 by decide, Int.zero_add] at ha
      obtain ⟨y4, y8, y9, e⟩ := loop4 t b (sTag ts) ts (by omega) (by omega) (.lb [.iv (.int .i64 0), .iv (.int .i64 0)]) (.iv (.bool false)) (.iv (.bool false)) ts.length 0 (-1) (.tup []) (.tup []) (by omega) (by rw [List.drop_zero]; exact ha)
      rw [show (((0 : Nat) : Int)) = 0 from rfl] at e
      generalize ts.map encT = M at *
      simp (config := { maxSteps := 4000000 }) (disch := omega) only [t4, go_sem, Nat.reduceAdd, Nat.reduceSub, Nat.reduceLT, Nat.reduceLeDiff, Nat.reduceEqDiff, Nat.reduceBEq, reduceIte, reduceCtorEq, Int.reduceEq, Int.reduceLT, Int.reduceLE, Int.reduceAdd, Int.reduceSub, Int.reduceMul, Int.reduceToNat, Int.reduceNeg, Int.reduceBEq, Int.reducePow, Nat.reducePow, cpR_pure h12, eqFlt0, e]
      refine all_works works ?_
      simp (config := { maxSteps := 4000000 }) (disch := omega) only [go_sem, Nat.reduceAdd, Nat.reduceSub, Nat.reduceLT, Nat.reduceLeDiff, Nat.reduceEqDiff, Nat.reduceBEq, reduceIte, reduceCtorEq, Int.reduceEq, Int.reduceLT, Int.reduceLE, Int.reduceAdd, Int.reduceSub, Int.reduceMul, Int.reduceToNat, Int.reduceNeg, Int.reduceBEq, Int.reducePow, Nat.reducePow, Out.All]
  · simp (config := { maxSteps := 4000000 }) (disch := omega) only [t4, go_sem, Nat.reduceAdd, Nat.reduceSub, Nat.reduceLT, Nat.reduceLeDiff, Nat.reduceEqDiff, Nat.reduceBEq, reduceIte, reduceCtorEq, Int.reduceEq, Int.reduceLT, Int.reduceLE, Int.reduceAdd, Int.reduceSub, Int.reduceMul, Int.reduceToNat, Int.reduceNeg, Int.reduceBEq, Int.reducePow, Nat.reducePow]
    refine all_works works ?_
    simp (config := { maxSteps := 4000000 }) (disch := omega) only [go_sem, Nat.reduceAdd, Nat.reduceSub, Nat.reduceLT, Nat.reduceLeDiff, Nat.reduceEqDiff, Nat.reduceBEq, reduceIte, reduceCtorEq, Int.reduceEq, Int.reduceLT, Int.reduceLE, Int.reduceAdd, Int.reduceSub, Int.reduceMul, Int.reduceToNat, Int.reduceNeg, Int.reduceBEq, Int.reducePow, Nat.reducePow, Out.All]
end Go.Proofs.YtpngkgkobapioaaDoor
