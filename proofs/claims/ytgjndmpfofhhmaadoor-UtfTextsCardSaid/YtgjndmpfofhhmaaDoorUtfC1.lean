/- The contracts of utf: the chars of bytes. Condition: none. -/
import Derived.Test.YtgjndmpfofhhmaaDoorUtfB6
import Derived.Test.YtgjndmpfofhhmaaDoorTmE
set_option maxRecDepth 100000
set_option linter.unusedSimpArgs false
set_option linter.unusedVariables false
namespace Go.Proofs.YtgjndmpfofhhmaaDoor
open Go Go.TM
/-- The chars of bytes, and where there is none. -/
def chars : Nat → List UInt8 → Int → List (Int × Int) × Option Int
  | 0, _, _ => ([], none)
  | k + 1, s, i => if s = [] then ([], none) else if bad s then ([], some i) else
    ((((D s).1 : Int), i) :: (chars k (s.drop (D s).2) (i + (D s).2)).1, (chars k (s.drop (D s).2) (i + (D s).2)).2)
def encC (c : Int × Int) : List IV := [.int .i64 c.1, .int .i64 c.2]
theorem encC_ok (c : Int × Int) : (encC c).length = 2 ∧ (encC c).all isCell = true := ⟨rfl, rfl⟩
set_option maxHeartbeats 4000000 in
theorem loop18 (t : Tag) (l : List UInt8) (ht : TagOk t l) (hl : l.length ≤ 1000000) : ∀ (k : Nat) (i : Int) (done : List (Int × Int)) (x6 x7 x8 x9 x10 : TV), 0 ≤ i → i ≤ l.length → (l.length : Int) - i ≤ k → (done.length : Int) ≤ i →
    ∃ y5 y6 y7 y8 y9 y10 y4 S', lp' (lim K) t18L0 [.iv (.sl t (bytesIV l)), .iv (.sl .nil []), .iv (.int .i64 0), .iv (.int .i64 0), acc 0 (done.map encC), .iv (.int .i64 i), x6, x7, x8, x9, x10] (accS 2 49 (done.map encC)) = .ret (match (chars k (l.drop i.toNat) i).2 with
      | none => (.exit 0, [.iv (.sl t (bytesIV l)), .iv (.sl .nil []), .iv (.int .i64 0), .iv (.int .i64 0), acc 0 ((done ++ (chars k (l.drop i.toNat) i).1).map encC), y5, y6, y7, y8, y9, y10], S')
      | some p => (.ret, [.iv (.sl t (bytesIV l)), .iv (.sl .nil []), .iv (.int .i64 4), .iv (.int .i64 p), y4, y5, y6, y7, y8, y9, y10], S'))
  | 0, i, done, x6, x7, x8, x9, x10, h0, h1, h2, h3 => by
    refine ⟨?_, ?_, ?_, ?_, ?_, ?_, ?_, ?_, loop_at K _ _ t18L0.eq_1 ?_⟩
    rotate_left 8
    · simp (disch := omega) only [go_sem, Nat.reduceAdd, Nat.reduceSub, Nat.reduceMul, Nat.reduceLT, Nat.reduceLeDiff, Nat.reduceEqDiff, Nat.reduceBEq, reduceIte, reduceCtorEq, List.replicate, List.cons_append, List.nil_append, Int.reduceEq, Int.reduceLT, Int.reduceLE, Int.reduceAdd, Int.reduceSub, Int.reduceMul, Int.reduceToNat, Int.reduceNeg, Int.reduceBEq, Int.reduceBNe, Int.reduceTDiv, Int.reduceTMod, Int.reducePow, Nat.reducePow, decide_true, decide_false, Nat.reduceDiv, Nat.reduceMod, Int.reduceMod, Int.reduceDiv, Int.reduceNe, Int.reduceFDiv, Nat.reduceLeDiff, decT, decF, ifT, ifF, eqT, eqF, neT, neF, bytesIV_length, one_length, get_cp, get_cp0, chars, List.append_nil]
      rfl
    exact .hole
  | k + 1, i, done, x6, x7, x8, x9, x10, h0, h1, h2, h3 => by
    by_cases hi : i = l.length
    · have e : l.drop i.toNat = [] := List.drop_of_length_le (by omega)
      refine ⟨?_, ?_, ?_, ?_, ?_, ?_, ?_, ?_, loop_at K _ _ t18L0.eq_1 ?_⟩
      rotate_left 8
      · simp (disch := omega) only [go_sem, Nat.reduceAdd, Nat.reduceSub, Nat.reduceMul, Nat.reduceLT, Nat.reduceLeDiff, Nat.reduceEqDiff, Nat.reduceBEq, reduceIte, reduceCtorEq, List.replicate, List.cons_append, List.nil_append, Int.reduceEq, Int.reduceLT, Int.reduceLE, Int.reduceAdd, Int.reduceSub, Int.reduceMul, Int.reduceToNat, Int.reduceNeg, Int.reduceBEq, Int.reduceBNe, Int.reduceTDiv, Int.reduceTMod, Int.reducePow, Nat.reducePow, decide_true, decide_false, Nat.reduceDiv, Nat.reduceMod, Int.reduceMod, Int.reduceDiv, Int.reduceNe, Int.reduceFDiv, Nat.reduceLeDiff, decT, decF, ifT, ifF, eqT, eqF, neT, neF, bytesIV_length, one_length, get_cp, get_cp0, chars, e, List.append_nil]
        rfl
      exact .hole
    · have hs : (l.drop i.toNat).length = l.length - i.toNat := List.length_drop
      have h13 := call13 t l i ht (by omega)
      have hR : getR l i = if bad (l.drop i.toNat) then (0, 0, 4) else (((D (l.drop i.toNat)).1 : Int), ((D (l.drop i.toNat)).2 : Int), 0) := by
        simp only [getR]; rw [if_neg (by omega)]
      rw [hR] at h13
      have hne : ¬ l.drop i.toNat = [] := by intro e; rw [e] at hs; simp at hs; omega
      cases hb : bad (l.drop i.toNat)
      · have hg := D_good hb
        have hdr : (l.drop i.toNat).drop (D (l.drop i.toNat)).2 = l.drop (i + (D (l.drop i.toNat)).2).toNat := by
          rw [List.drop_drop]; congr 1; omega
        obtain ⟨y5, y6, y7, y8, y9, y10, y4, S', ih⟩ := loop18 t l ht hl k (i + (D (l.drop i.toNat)).2) (done ++ [(((D (l.drop i.toNat)).1 : Int), i)]) (.iv (.int .i64 (D (l.drop i.toNat)).1)) (.iv (.int .i64 (D (l.drop i.toNat)).2)) (.iv (.int .i64 0)) (.iv (.bool true)) (.iv (.bool false)) (by omega) (by omega) (by omega) (by simp; omega)
        simp only [chars, hne, hb, ↓reduceIte, Bool.false_eq_true]
        rw [hdr]
        generalize D (l.drop i.toNat) = d at *
        rw [hb] at h13
        simp only [Bool.false_eq_true, ↓reduceIte] at h13
        have ha := ap_acc1 (w := 2) (b := 16) (el := 49) (t := .full) (encC_ok ((d.1 : Int), i)) (Elems.map encC_ok done) (roomy_ok (by rw [List.length_map]; omega))
        refine ⟨y5, y6, y7, y8, y9, y10, y4, S', loop_at K _ _ t18L0.eq_1 ?_⟩
        simp only [encC] at ha
        have em : (done ++ [((d.1 : Int), i)]).map encC = done.map encC ++ [[.int .i64 d.1, .int .i64 i]] := by simp [encC]
        rw [em] at ih
        simp (disch := omega) only [go_sem, Nat.reduceAdd, Nat.reduceSub, Nat.reduceMul, Nat.reduceLT, Nat.reduceLeDiff, Nat.reduceEqDiff, Nat.reduceBEq, reduceIte, reduceCtorEq, List.replicate, List.cons_append, List.nil_append, Int.reduceEq, Int.reduceLT, Int.reduceLE, Int.reduceAdd, Int.reduceSub, Int.reduceMul, Int.reduceToNat, Int.reduceNeg, Int.reduceBEq, Int.reduceBNe, Int.reduceTDiv, Int.reduceTMod, Int.reducePow, Nat.reducePow, decide_true, decide_false, Nat.reduceDiv, Nat.reduceMod, Int.reduceMod, Int.reduceDiv, Int.reduceNe, Int.reduceFDiv, Nat.reduceLeDiff, decT, decF, ifT, ifF, eqT, eqF, neT, neF, bytesIV_length, one_length, get_cp, get_cp0, h13, tup3, wrap_i64, ha, ih]
        simp only [List.map_append, List.map_cons, List.map_nil, encC, List.append_assoc, List.cons_append, List.nil_append]
        cases (chars k (l.drop (i + d.2).toNat) (i + d.2)).2 <;> rfl
      · refine ⟨?_, ?_, ?_, ?_, ?_, ?_, ?_, ?_, loop_at K _ _ t18L0.eq_1 ?_⟩
        rotate_left 8
        · rw [hb] at h13
          simp only [↓reduceIte] at h13
          simp (disch := omega) only [go_sem, Nat.reduceAdd, Nat.reduceSub, Nat.reduceMul, Nat.reduceLT, Nat.reduceLeDiff, Nat.reduceEqDiff, Nat.reduceBEq, reduceIte, reduceCtorEq, List.replicate, List.cons_append, List.nil_append, Int.reduceEq, Int.reduceLT, Int.reduceLE, Int.reduceAdd, Int.reduceSub, Int.reduceMul, Int.reduceToNat, Int.reduceNeg, Int.reduceBEq, Int.reduceBNe, Int.reduceTDiv, Int.reduceTMod, Int.reducePow, Nat.reducePow, decide_true, decide_false, Nat.reduceDiv, Nat.reduceMod, Int.reduceMod, Int.reduceDiv, Int.reduceNe, Int.reduceFDiv, Nat.reduceLeDiff, decT, decF, ifT, ifF, eqT, eqF, neT, neF, bytesIV_length, one_length, get_cp, get_cp0, chars, hne, hb, h13, tup3, List.append_nil]
          rfl
theorem call18 (t : Tag) (l : List UInt8) (ht : TagOk t l) (hl : l.length ≤ 1000000) : Pure K 18 [.iv (.sl t (bytesIV l))] (match (chars l.length l 0).2 with
      | none => .tup [.iv (.sl (sTag (chars l.length l 0).1) ((chars l.length l 0).1.map encC)), .iv (.int .i64 0), .iv (.int .i64 0)]
      | some p => .tup [.iv (.sl .nil []), .iv (.int .i64 4), .iv (.int .i64 p)]) := by
  obtain ⟨y5, y6, y7, y8, y9, y10, y4, S', e⟩ := loop18 t l ht hl l.length 0 [] (.tup []) (.tup []) (.tup []) (.tup []) (.tup []) (by omega) (by omega) (by omega) (by simp)
  rw [List.map_nil, acc_nil, accS_nil] at e
  simp only [List.nil_append, Int.toNat_zero, List.drop_zero] at e
  generalize chars l.length l 0 = q at *
  obtain ⟨q1, q2⟩ := q
  refine call_pure t18 rfl rfl ?_
  cases q2 with
  | none =>
    simp only at e ⊢
    simp (disch := omega) only [t18, go_sem, Nat.reduceAdd, Nat.reduceSub, Nat.reduceMul, Nat.reduceLT, Nat.reduceLeDiff, Nat.reduceEqDiff, Nat.reduceBEq, reduceIte, reduceCtorEq, List.replicate, List.cons_append, List.nil_append, Int.reduceEq, Int.reduceLT, Int.reduceLE, Int.reduceAdd, Int.reduceSub, Int.reduceMul, Int.reduceToNat, Int.reduceNeg, Int.reduceBEq, Int.reduceBNe, Int.reduceTDiv, Int.reduceTMod, Int.reducePow, Nat.reducePow, decide_true, decide_false, Nat.reduceDiv, Nat.reduceMod, Int.reduceMod, Int.reduceDiv, Int.reduceNe, Int.reduceFDiv, Nat.reduceLeDiff, decT, decF, ifT, ifF, eqT, eqF, neT, neF, bytesIV_length, one_length, get_cp, get_cp0, e, sTag_map]
  | some p =>
    simp only at e ⊢
    simp (disch := omega) only [t18, go_sem, Nat.reduceAdd, Nat.reduceSub, Nat.reduceMul, Nat.reduceLT, Nat.reduceLeDiff, Nat.reduceEqDiff, Nat.reduceBEq, reduceIte, reduceCtorEq, List.replicate, List.cons_append, List.nil_append, Int.reduceEq, Int.reduceLT, Int.reduceLE, Int.reduceAdd, Int.reduceSub, Int.reduceMul, Int.reduceToNat, Int.reduceNeg, Int.reduceBEq, Int.reduceBNe, Int.reduceTDiv, Int.reduceTMod, Int.reducePow, Nat.reducePow, decide_true, decide_false, Nat.reduceDiv, Nat.reduceMod, Int.reduceMod, Int.reduceDiv, Int.reduceNe, Int.reduceFDiv, Nat.reduceLeDiff, decT, decF, ifT, ifF, eqT, eqF, neT, neF, bytesIV_length, one_length, get_cp, get_cp0, e]
/-! ### A text's chars, as range goes through it -/
theorem get_arr (l : List UInt8) (i : Nat) : ByteArray.get! ⟨l.toArray⟩ i = l.getD i 0 := by
  show l.toArray[i]! = _
  simp [List.getD, getElem!_def]
  cases l[i]? <;> rfl
set_option maxHeartbeats 4000000 in
theorem decode_eq (l : List UInt8) (i : Nat) (h : i < l.length) : Utf8.decode ⟨l.toArray⟩ i = D (l.drop i) := by
  have hs : (ByteArray.mk l.toArray).size = l.length := by simp [ByteArray.size]
  have hg : ∀ k, l.getD (i + k) 0 = (l.drop i).getD k 0 := by intro k; simp [List.getD, List.getElem?_drop]
  have hlen : ∀ k, (i + k < l.length) ↔ k < (l.drop i).length := by intro k; rw [List.length_drop]; omega
  have hpos : 0 < (l.drop i).length := by rw [List.length_drop]; omega
  simp only [Utf8.decode, hs, get_arr, hg, hlen]
  generalize l.drop i = s at *
  cases s with
  | nil => simp at hpos
  | cons a r =>
    have ha := bl a
    match r with
    | [] =>
      simp only [List.getD_cons_zero, List.getD_cons_succ, List.getD_nil, List.length_cons, List.length_nil, D, fol, Utf8.valid, Utf8.runeError, Bool.and_eq_true, Bool.or_eq_true, beq_iff_eq, decide_eq_true_eq]
      repeat' split
      all_goals (first | rfl | (simp only [Prod.mk.injEq]; omega) | (exfalso; omega))
    | [b] =>
      have hb := bl b
      simp only [List.getD_cons_zero, List.getD_cons_succ, List.getD_nil, List.length_cons, List.length_nil, D, fol, Utf8.valid, Utf8.runeError, Bool.and_eq_true, Bool.or_eq_true, beq_iff_eq, decide_eq_true_eq]
      repeat' split
      all_goals (first | rfl | (simp only [Prod.mk.injEq]; omega) | (exfalso; omega))
    | [b, c] =>
      have hb := bl b
      have hc := bl c
      simp only [List.getD_cons_zero, List.getD_cons_succ, List.getD_nil, List.length_cons, List.length_nil, D, fol, Utf8.valid, Utf8.runeError, Bool.and_eq_true, Bool.or_eq_true, beq_iff_eq, decide_eq_true_eq]
      repeat' split
      all_goals (first | rfl | (simp only [Prod.mk.injEq]; omega) | (exfalso; omega))
    | b :: c :: d :: r =>
      have hb := bl b
      have hc := bl c
      have hd := bl d
      simp only [List.getD_cons_zero, List.getD_cons_succ, List.getD_nil, List.length_cons, List.length_nil, D, fol, Utf8.valid, Utf8.runeError, Bool.and_eq_true, Bool.or_eq_true, beq_iff_eq, decide_eq_true_eq]
      repeat' split
      all_goals (first | rfl | (simp only [Prod.mk.injEq]; omega) | (exfalso; omega))
end Go.Proofs.YtgjndmpfofhhmaaDoor
