/- The contracts of utf: Codes, Same. Condition: none. -/
import Derived.Test.YtgjndmpfofhhmaaDoorUtfC2
set_option maxRecDepth 100000
set_option linter.unusedSimpArgs false
set_option linter.unusedVariables false
namespace Go.Proofs.YtgjndmpfofhhmaaDoor
open Go Go.TM
theorem sub2 (c : Int × Int) : sub (encC c) 0 2 = some (encC c) := by simp [sub, encC]
theorem i64_cell (a : Int) : isCell (i64 a) = true := rfl
def codes (cs : List (Int × Int)) : List Int := cs.map (·.1)
theorem codes_take (cs : List (Int × Int)) (i : Nat) (h : i < cs.length) : codes (cs.take (i + 1)) = codes (cs.take i) ++ [(cs.getD i default).1] := by
  rw [take_succ_getD (d := default) h]; simp [codes]
theorem chars_len0 : ∀ (k : Nat) (s : List UInt8) (i : Int), (chars k s i).1.length ≤ s.length
  | 0, s, i => by simp [chars]
  | k + 1, s, i => by
    simp only [chars]
    split
    · simp
    · split
      · simp
      · rename_i h1 h2
        have hb : bad s = false := by simpa using h2
        have hg := D_good hb
        have := chars_len0 k (s.drop (D s).2) (i + (D s).2)
        rw [List.length_drop] at this
        simp only [List.length_cons]
        omega
theorem chars_len (s : List UInt8) (hl : s.length ≤ 1000000) : (chars s.length s 0).1.length ≤ 1000000 := by
  have := chars_len0 s.length s 0
  omega
set_option maxHeartbeats 4000000 in
theorem loop19 (s : TV) (tg : Tag) (cs : List (Int × Int)) (hl : cs.length ≤ 1000000) (f a7 : TV) : ∀ (k i : Nat) (x6 x11 : TV), i + k = cs.length →
    ∃ y6 y11, lp' (lim K) t19L0 [s, .iv (.sl .nil []), .iv (.int .i64 0), .iv (.sl tg (cs.map encC)), f, acc 0 (one i64 (codes (cs.take i))), x6, a7, .iv (.sl tg (cs.map encC)), .iv (.int .i64 cs.length), .iv (.int .i64 i), x11] (accS 1 3 (one i64 (codes (cs.take i)))) = .ret (.exit 0, [s, .iv (.sl .nil []), .iv (.int .i64 0), .iv (.sl tg (cs.map encC)), f, acc 0 (one i64 (codes cs)), y6, a7, .iv (.sl tg (cs.map encC)), .iv (.int .i64 cs.length), .iv (.int .i64 cs.length), y11], accS 1 3 (one i64 (codes cs)))
  | 0, i, x6, x11, h => by
    obtain rfl : i = cs.length := by omega
    rw [List.take_length]
    refine ⟨?_, ?_, loop_at K _ _ t19L0.eq_1 ?_⟩
    rotate_left 2
    · simp (disch := omega) only [go_sem, Nat.reduceAdd, Nat.reduceSub, Nat.reduceMul, Nat.reduceLT, Nat.reduceLeDiff, Nat.reduceEqDiff, Nat.reduceBEq, reduceIte, reduceCtorEq, List.replicate, List.cons_append, List.nil_append, Int.reduceEq, Int.reduceLT, Int.reduceLE, Int.reduceAdd, Int.reduceSub, Int.reduceMul, Int.reduceToNat, Int.reduceNeg, Int.reduceBEq, Int.reduceBNe, Int.reduceTDiv, Int.reduceTMod, Int.reducePow, Nat.reducePow, decide_true, decide_false, Nat.reduceDiv, Nat.reduceMod, Int.reduceMod, Int.reduceDiv, Int.reduceNe, Int.reduceFDiv, Nat.reduceLeDiff, decT, decF, ifT, ifF, eqT, eqF, neT, neF, bytesIV_length, one_length, get_cp, get_cp0]
      rfl
  | k + 1, i, x6, x11, h => by
    have hc := codes_take cs i (by omega)
    have hcl : (codes (cs.take i)).length ≤ 1000000 := by simp [codes]; omega
    obtain ⟨y6, y11, ih⟩ := loop19 s tg cs hl f a7 k (i + 1) (.lb [.iv (.int .i64 (cs.getD i default).1), .iv (.int .i64 (cs.getD i default).2)]) (.iv (.bool true)) (by omega)
    rw [hc, ← one_append] at ih
    have ha := ap_acc1 (w := 1) (b := 8) (el := 3) (t := .full) (l := one i64 (codes (cs.take i))) (c := [.int .i64 (cs.getD i default).1]) ⟨rfl, rfl⟩ (Elems.one i64_cell _) (roomy_ok (by rw [one_length]; omega))
    have hg := ix_map (w := 2) (f := encC) (fun _ => rfl) (t := tg) (l := cs) (i := (i : Int)) (by omega)
    refine ⟨y6, y11, loop_at K _ _ t19L0.eq_1 ?_⟩
    simp (config := { maxSteps := 4000000 }) (disch := omega) only [go_sem, Nat.reduceAdd, Nat.reduceSub, Nat.reduceMul, Nat.reduceLT, Nat.reduceLeDiff, Nat.reduceEqDiff, Nat.reduceBEq, reduceIte, reduceCtorEq, List.replicate, List.cons_append, List.nil_append, Int.reduceEq, Int.reduceLT, Int.reduceLE, Int.reduceAdd, Int.reduceSub, Int.reduceMul, Int.reduceToNat, Int.reduceNeg, Int.reduceBEq, Int.reduceBNe, Int.reduceTDiv, Int.reduceTMod, Int.reducePow, Nat.reducePow, decide_true, decide_false, Nat.reduceDiv, Nat.reduceMod, Int.reduceMod, Int.reduceDiv, Int.reduceNe, Int.reduceFDiv, Nat.reduceLeDiff, decT, decF, ifT, ifF, eqT, eqF, neT, neF, bytesIV_length, one_length, get_cp, get_cp0, hg, getCells_cp, sub2, Int.toNat_natCast, encC, wrap_i64, ha]
    exact congrArg er ih
set_option maxHeartbeats 4000000 in
theorem loop20 (s : TV) (tg : Tag) (cs : List (Int × Int)) (hl : cs.length ≤ 1000000) (f a7 : TV) : ∀ (k i : Nat) (x8 : TV), i + k = cs.length →
    ∃ y8, lp' (lim K) t20L0 [s, .iv (.sl .nil []), .iv (.int .i64 0), .iv (.sl tg (cs.map encC)), f, acc 0 (one i64 (codes (cs.take i))), .iv (.int .i64 i), a7, x8] (accS 1 3 (one i64 (codes (cs.take i)))) = .ret (.exit 0, [s, .iv (.sl .nil []), .iv (.int .i64 0), .iv (.sl tg (cs.map encC)), f, acc 0 (one i64 (codes cs)), .iv (.int .i64 cs.length), a7, y8], accS 1 3 (one i64 (codes cs)))
  | 0, i, x8, h => by
    obtain rfl : i = cs.length := by omega
    rw [List.take_length]
    refine ⟨?_, loop_at K _ _ t20L0.eq_1 ?_⟩
    rotate_left 1
    · simp (disch := omega) only [go_sem, Nat.reduceAdd, Nat.reduceSub, Nat.reduceMul, Nat.reduceLT, Nat.reduceLeDiff, Nat.reduceEqDiff, Nat.reduceBEq, reduceIte, reduceCtorEq, List.replicate, List.cons_append, List.nil_append, Int.reduceEq, Int.reduceLT, Int.reduceLE, Int.reduceAdd, Int.reduceSub, Int.reduceMul, Int.reduceToNat, Int.reduceNeg, Int.reduceBEq, Int.reduceBNe, Int.reduceTDiv, Int.reduceTMod, Int.reducePow, Nat.reducePow, decide_true, decide_false, Nat.reduceDiv, Nat.reduceMod, Int.reduceMod, Int.reduceDiv, Int.reduceNe, Int.reduceFDiv, Nat.reduceLeDiff, decT, decF, ifT, ifF, eqT, eqF, neT, neF, bytesIV_length, one_length, get_cp, get_cp0, List.length_map]
      rfl
  | k + 1, i, x8, h => by
    have hc := codes_take cs i (by omega)
    have hcl : (codes (cs.take i)).length ≤ 1000000 := by simp [codes]; omega
    obtain ⟨y8, ih⟩ := loop20 s tg cs hl f a7 k (i + 1) (.iv (.bool true)) (by omega)
    rw [hc, ← one_append] at ih
    have ha := ap_acc1 (w := 1) (b := 8) (el := 3) (t := .full) (l := one i64 (codes (cs.take i))) (c := [.int .i64 (cs.getD i default).1]) ⟨rfl, rfl⟩ (Elems.one i64_cell _) (roomy_ok (by rw [one_length]; omega))
    have hg := ix_map (w := 2) (f := encC) (fun _ => rfl) (t := tg) (l := cs) (i := (i : Int)) (by omega)
    have hz : addOff (.iv (.cp (encC (cs.getD i default)))) 0 = some (.iv (.cp (encC (cs.getD i default)))) := rfl
    refine ⟨y8, loop_at K _ _ t20L0.eq_1 ?_⟩
    simp (config := { maxSteps := 4000000 }) (disch := omega) only [go_sem, Nat.reduceAdd, Nat.reduceSub, Nat.reduceMul, Nat.reduceLT, Nat.reduceLeDiff, Nat.reduceEqDiff, Nat.reduceBEq, reduceIte, reduceCtorEq, List.replicate, List.cons_append, List.nil_append, Int.reduceEq, Int.reduceLT, Int.reduceLE, Int.reduceAdd, Int.reduceSub, Int.reduceMul, Int.reduceToNat, Int.reduceNeg, Int.reduceBEq, Int.reduceBNe, Int.reduceTDiv, Int.reduceTMod, Int.reducePow, Nat.reducePow, decide_true, decide_false, Nat.reduceDiv, Nat.reduceMod, Int.reduceMod, Int.reduceDiv, Int.reduceNe, Int.reduceFDiv, Nat.reduceLeDiff, decT, decF, ifT, ifF, eqT, eqF, neT, neF, bytesIV_length, one_length, get_cp, get_cp0, List.length_map, hg, hz, Int.toNat_natCast, encC, wrap_i64, ha, addOff_cp]
    exact congrArg er ih
theorem call19 (s : List UInt8) (hl : s.length ≤ 1000000) : Pure K 19 [.iv (.str s)] (match (chars s.length s 0).2 with
      | none => .tup [.iv (.sl (sTag (chars s.length s 0).1) (one i64 (codes (chars s.length s 0).1))), .iv (.int .i64 0)]
      | some p => .tup [.iv (.sl .nil []), .iv (.int .i64 4)]) := by
  have h17 := call17 .no s (TagOk.no _) hl
  have hcl : (chars s.length s 0).1.length ≤ 1000000 := chars_len s hl
  generalize chars s.length s 0 = q at *
  obtain ⟨q1, q2⟩ := q
  refine call_pure t19 rfl rfl ?_
  cases q2 with
  | none =>
    simp only at h17 hcl ⊢
    simp (config := { maxSteps := 4000000 }) (disch := omega) only [t19, go_sem, Nat.reduceAdd, Nat.reduceSub, Nat.reduceMul, Nat.reduceLT, Nat.reduceLeDiff, Nat.reduceEqDiff, Nat.reduceBEq, reduceIte, reduceCtorEq, List.replicate, List.cons_append, List.nil_append, Int.reduceEq, Int.reduceLT, Int.reduceLE, Int.reduceAdd, Int.reduceSub, Int.reduceMul, Int.reduceToNat, Int.reduceNeg, Int.reduceBEq, Int.reduceBNe, Int.reduceTDiv, Int.reduceTMod, Int.reducePow, Nat.reducePow, decide_true, decide_false, Nat.reduceDiv, Nat.reduceMod, Int.reduceMod, Int.reduceDiv, Int.reduceNe, Int.reduceFDiv, Nat.reduceLeDiff, decT, decF, ifT, ifF, eqT, eqF, neT, neF, bytesIV_length, one_length, get_cp, get_cp0, cpR_pure h17, List.length_map]
    obtain ⟨y6, y11, e⟩ := loop19 (.iv (.str s)) (sTag q1) q1 hcl (.lb [.iv (.int .i64 0), .iv (.int .i64 0)]) (.iv (.bool false)) q1.length 0 (.tup []) (.tup []) (by omega)
    rw [List.take_zero, show codes [] = [] from rfl, show one i64 [] = [] from rfl, acc_nil, accS_nil, show ((0 : Nat) : Int) = 0 from rfl] at e
    simp (config := { maxSteps := 4000000 }) (disch := omega) only [go_sem, Nat.reduceAdd, Nat.reduceSub, Nat.reduceMul, Nat.reduceLT, Nat.reduceLeDiff, Nat.reduceEqDiff, Nat.reduceBEq, reduceIte, reduceCtorEq, List.replicate, List.cons_append, List.nil_append, Int.reduceEq, Int.reduceLT, Int.reduceLE, Int.reduceAdd, Int.reduceSub, Int.reduceMul, Int.reduceToNat, Int.reduceNeg, Int.reduceBEq, Int.reduceBNe, Int.reduceTDiv, Int.reduceTMod, Int.reducePow, Nat.reducePow, decide_true, decide_false, Nat.reduceDiv, Nat.reduceMod, Int.reduceMod, Int.reduceDiv, Int.reduceNe, Int.reduceFDiv, Nat.reduceLeDiff, decT, decF, ifT, ifF, eqT, eqF, neT, neF, bytesIV_length, one_length, get_cp, get_cp0, e]
    simp only [one, codes, sTag_map]
  | some p =>
    simp only at h17 ⊢
    simp (config := { maxSteps := 4000000 }) (disch := omega) only [t19, go_sem, Nat.reduceAdd, Nat.reduceSub, Nat.reduceMul, Nat.reduceLT, Nat.reduceLeDiff, Nat.reduceEqDiff, Nat.reduceBEq, reduceIte, reduceCtorEq, List.replicate, List.cons_append, List.nil_append, Int.reduceEq, Int.reduceLT, Int.reduceLE, Int.reduceAdd, Int.reduceSub, Int.reduceMul, Int.reduceToNat, Int.reduceNeg, Int.reduceBEq, Int.reduceBNe, Int.reduceTDiv, Int.reduceTMod, Int.reducePow, Nat.reducePow, decide_true, decide_false, Nat.reduceDiv, Nat.reduceMod, Int.reduceMod, Int.reduceDiv, Int.reduceNe, Int.reduceFDiv, Nat.reduceLeDiff, decT, decF, ifT, ifF, eqT, eqF, neT, neF, bytesIV_length, one_length, get_cp, get_cp0, cpR_pure h17]
theorem call20 (s : List UInt8) (hl : s.length ≤ 1000000) : Pure K 20 [.iv (.str s)] (match (chars s.length s 0).2 with
      | none => .tup [.iv (.sl (sTag (chars s.length s 0).1) (one i64 (codes (chars s.length s 0).1))), .iv (.int .i64 0)]
      | some p => .tup [.iv (.sl .nil []), .iv (.int .i64 4)]) := by
  have h18 := call18 .no s (TagOk.no _) hl
  have hcl : (chars s.length s 0).1.length ≤ 1000000 := chars_len s hl
  generalize chars s.length s 0 = q at *
  obtain ⟨q1, q2⟩ := q
  refine call_pure t20 rfl rfl ?_
  cases q2 with
  | none =>
    simp only at h18 hcl ⊢
    simp (config := { maxSteps := 4000000 }) (disch := omega) only [t20, go_sem, Nat.reduceAdd, Nat.reduceSub, Nat.reduceMul, Nat.reduceLT, Nat.reduceLeDiff, Nat.reduceEqDiff, Nat.reduceBEq, reduceIte, reduceCtorEq, List.replicate, List.cons_append, List.nil_append, Int.reduceEq, Int.reduceLT, Int.reduceLE, Int.reduceAdd, Int.reduceSub, Int.reduceMul, Int.reduceToNat, Int.reduceNeg, Int.reduceBEq, Int.reduceBNe, Int.reduceTDiv, Int.reduceTMod, Int.reducePow, Nat.reducePow, decide_true, decide_false, Nat.reduceDiv, Nat.reduceMod, Int.reduceMod, Int.reduceDiv, Int.reduceNe, Int.reduceFDiv, Nat.reduceLeDiff, decT, decF, ifT, ifF, eqT, eqF, neT, neF, bytesIV_length, one_length, get_cp, get_cp0, cpR_pure h18, List.length_map]
    obtain ⟨y8, e⟩ := loop20 (.iv (.str s)) (sTag q1) q1 hcl (.iv (.int .i64 0)) (.iv (.bool false)) q1.length 0 (.tup []) (by omega)
    rw [List.take_zero, show codes [] = [] from rfl, show one i64 [] = [] from rfl, acc_nil, accS_nil, show ((0 : Nat) : Int) = 0 from rfl] at e
    simp (config := { maxSteps := 4000000 }) (disch := omega) only [go_sem, Nat.reduceAdd, Nat.reduceSub, Nat.reduceMul, Nat.reduceLT, Nat.reduceLeDiff, Nat.reduceEqDiff, Nat.reduceBEq, reduceIte, reduceCtorEq, List.replicate, List.cons_append, List.nil_append, Int.reduceEq, Int.reduceLT, Int.reduceLE, Int.reduceAdd, Int.reduceSub, Int.reduceMul, Int.reduceToNat, Int.reduceNeg, Int.reduceBEq, Int.reduceBNe, Int.reduceTDiv, Int.reduceTMod, Int.reducePow, Nat.reducePow, decide_true, decide_false, Nat.reduceDiv, Nat.reduceMod, Int.reduceMod, Int.reduceDiv, Int.reduceNe, Int.reduceFDiv, Nat.reduceLeDiff, decT, decF, ifT, ifF, eqT, eqF, neT, neF, bytesIV_length, one_length, get_cp, get_cp0, e]
    simp only [one, codes, sTag_map]
  | some p =>
    simp only at h18 ⊢
    simp (config := { maxSteps := 4000000 }) (disch := omega) only [t20, go_sem, Nat.reduceAdd, Nat.reduceSub, Nat.reduceMul, Nat.reduceLT, Nat.reduceLeDiff, Nat.reduceEqDiff, Nat.reduceBEq, reduceIte, reduceCtorEq, List.replicate, List.cons_append, List.nil_append, Int.reduceEq, Int.reduceLT, Int.reduceLE, Int.reduceAdd, Int.reduceSub, Int.reduceMul, Int.reduceToNat, Int.reduceNeg, Int.reduceBEq, Int.reduceBNe, Int.reduceTDiv, Int.reduceTMod, Int.reducePow, Nat.reducePow, decide_true, decide_false, Nat.reduceDiv, Nat.reduceMod, Int.reduceMod, Int.reduceDiv, Int.reduceNe, Int.reduceFDiv, Nat.reduceLeDiff, decT, decF, ifT, ifF, eqT, eqF, neT, neF, bytesIV_length, one_length, get_cp, get_cp0, cpR_pure h18]
end Go.Proofs.YtgjndmpfofhhmaaDoor
