/- The document's Text and Small. Condition: none. -/
import Derived.Test.YtdbffhgfjmhaiaaDoorBigT1
set_option maxRecDepth 100000
set_option maxHeartbeats 2000000
set_option linter.unusedSimpArgs false
set_option linter.unusedVariables false
namespace Go.Proofs.YtdbffhgfjmhaiaaDoor
open Go Go.TM
def dtx (l : List Int) : List UInt8 := l.reverse.map d8
theorem dtx_succ {l : List Int} {k : Nat} (h : k < l.length) : dtx (l.take (k + 1)) = d8 (l.getD k default) :: dtx (l.take k) := by
  simp only [dtx, take_succ_getD (d := default) h, List.reverse_append, List.reverse_cons, List.reverse_nil, List.nil_append, List.singleton_append, List.map_cons]
theorem d8_nat {x : Int} (h : 0 ≤ x ∧ x < 10) : ((d8 x).toNat : Int) = 48 + x := by
  unfold d8
  simp only [UInt8.toNat_ofNat']
  omega
theorem loop20 (neg : Bool) (t : Tag) (l : List Int) (hd : Dig 10 l) (hl : l.length ≤ 1000) (x0 x2 x5 x6 : TV) : ∀ (k : Nat) (B : List UInt8) (x7 : TV), k ≤ l.length → B.length + k ≤ 2000 →
    ∃ y7, lp' (lim K) t20L0 [x0, .lb [.iv (.bool neg), .iv (.sl t (one i64 l))], x2, acc 0 (bytesIV B), .iv (.int .i64 ((k : Int) - 1)), x5, x6, x7] (accS 1 5 (bytesIV B)) = .ret (.exit 0, [x0, .lb [.iv (.bool neg), .iv (.sl t (one i64 l))], x2, acc 0 (bytesIV (B ++ dtx (l.take k))), .iv (.int .i64 (-1)), x5, x6, y7], accS 1 5 (bytesIV (B ++ dtx (l.take k))))
  | 0, B, x7, h, hB => by
    refine ⟨?_, loop_at K _ _ t20L0.eq_1 ?_⟩
    rotate_left
    · rw [List.take_zero, show dtx [] = [] from rfl, List.append_nil]
      simp (disch := omega) only [go_sem, Nat.reduceAdd, Nat.reduceSub, Nat.reduceLT, Nat.reduceLeDiff, Nat.reduceEqDiff, Nat.reduceBEq, reduceIte, reduceCtorEq, Int.reduceEq, Int.reduceLT, Int.reduceLE, Int.reduceAdd, Int.reduceSub, Int.reduceMul, Int.reduceToNat, Int.reduceNeg, Int.reduceBEq, Int.reducePow, Nat.reducePow]
      rfl
  | k + 1, B, x7, h, hB => by
    have hlt : k < l.length := by omega
    have hix := ix_one i64 (t := t) (l := l) (i := (k : Int)) (by omega)
    rw [Int.toNat_natCast] at hix
    have hg := hd.getD hlt
    obtain ⟨y7, ih⟩ := loop20 neg t l hd hl x0 x2 x5 x6 k (B ++ [d8 (l.getD k default)]) (.iv (.bool true)) (by omega) (by simp; omega)
    have ha := ap_acc1 (w := 1) (b := 1) (el := 5) (l := bytesIV B) (t := .full) (c := [.int .u8 (d8 (l.getD k default)).toNat]) ⟨rfl, rfl⟩ (Elems.bytes B) (roomy_ok (by rw [bytesIV_length]; omega))
    have hs : bytesIV B ++ [[.int .u8 ((d8 (l.getD k default)).toNat : Int)]] = bytesIV (B ++ [d8 (l.getD k default)]) := by simp [bytesIV]
    rw [hs, d8_nat hg] at ha
    refine ⟨y7, loop_at K _ _ t20L0.eq_1 ?_⟩
    have e : B ++ dtx (l.take (k + 1)) = (B ++ [d8 (l.getD k default)]) ++ dtx (l.take k) := by rw [dtx_succ hlt, List.append_assoc]; rfl
    rw [e]
    have e1 : ((k : Int) + 1 - 1) = k := by omega
    generalize B ++ [d8 (l.getD k default)] = B' at *
    simp only [i64] at hix
    generalize l.getD k default = a at *
    simp (config := { maxSteps := 4000000 }) (disch := omega) only [go_sem, Nat.reduceAdd, Nat.reduceSub, Nat.reduceLT, Nat.reduceLeDiff, Nat.reduceEqDiff, Nat.reduceBEq, reduceIte, reduceCtorEq, Int.reduceEq, Int.reduceLT, Int.reduceLE, Int.reduceAdd, Int.reduceSub, Int.reduceMul, Int.reduceToNat, Int.reduceNeg, Int.reduceBEq, Int.reducePow, Nat.reducePow, Int.natCast_add, Int.cast_ofNat_Int, e1, hix, wrap_i64, wrap_u8, ha]
    exact congrArg er ih
theorem call20 (t : Tag) (v : Int) (neg : Bool) (h0 : 0 ≤ v) (hv : v < 10000 ^ 75) : Pure K 20 [.iv (dnum (sg neg (dg 10 v)) t (dg 10 v))] (.iv (.str (txt neg v))) := by
  rw [txt_eq neg v h0 hv]
  have hlen : (dg 10 v).length ≤ 300 := by
    have h2 := dg_len (B := 10) (by decide) (4 * 75) v h0 (lt75 hv)
    omega
  have hd := dg_dig (B := 10) (n := v) (by decide) h0
  simp only [dnum]
  by_cases hz : v = 0
  · subst hz
    rw [if_pos rfl, dg_zero]
    refine call_pure t20 rfl rfl ?_
    have e0 : one i64 [] = [] := rfl
    rw [e0]
    simp (config := { maxSteps := 4000000 }) (disch := omega) only [t20, go_sem, Nat.reduceAdd, Nat.reduceSub, Nat.reduceLT, Nat.reduceLeDiff, Nat.reduceEqDiff, Nat.reduceBEq, reduceIte, reduceCtorEq, Int.reduceEq, Int.reduceLT, Int.reduceLE, Int.reduceAdd, Int.reduceSub, Int.reduceMul, Int.reduceToNat, Int.reduceNeg, Int.reduceBEq, Int.reducePow, Nat.reducePow, List.length_nil, resB_ret, resO_some]
  · rw [if_neg hz]
    have hp : 0 < (dg 10 v).length := by
      rcases Nat.eq_zero_or_pos (dg 10 v).length with e | e
      · exact absurd ((dg_nil (B := 10) (by decide) h0).1 (List.length_eq_zero_iff.1 e)) hz
      · exact e
    have hsg : sg neg (dg 10 v) = neg := by simp [sg, hp]
    rw [hsg]
    have hds : dtx (dg 10 v) = decS v := rfl
    have hne : decS v ≠ [] := by
      intro e
      have := congrArg List.length e
      simp [decS] at this
      rw [this] at hp; simp at hp
    refine call_pure t20 rfl rfl ?_
    have hb : (neg = true) ∨ (neg = false) := by cases neg <;> simp
    rcases hb with rfl | rfl
    · obtain ⟨y7, e⟩ := loop20 true t (dg 10 v) hd (by omega) (.iv (.agg [.bool true, .sl t (one i64 (dg 10 v))])) (.iv (.str [])) (.iv (.bool false)) (.iv (.bool true)) (dg 10 v).length [45] (.tup []) (Nat.le_refl _) (by simp; omega)
      rw [List.take_length, hds] at e
      have ha := ap_acc1 (w := 1) (b := 1) (el := 5) (l := bytesIV []) (t := .full) (c := [.int .u8 45]) ⟨rfl, rfl⟩ (Elems.bytes []) (roomy_ok (by simp [bytesIV]))
      have hs : bytesIV [] ++ [[.int .u8 45]] = bytesIV [45] := rfl
      rw [hs, show accS 1 5 (bytesIV []) = [] from rfl, show acc 0 (bytesIV []) = .iv (.sl .nil []) from rfl] at ha
      have h2 : bytesOf (bytesIV ([45] ++ decS v)) = some ([45] ++ decS v) := bytesOf_bytesIV _
      simp only [↓reduceIte]
      generalize [45] ++ decS v = X at *
      simp (config := { maxSteps := 4000000 }) (disch := omega) only [t20, go_sem, Nat.reduceAdd, Nat.reduceSub, Nat.reduceLT, Nat.reduceLeDiff, Nat.reduceEqDiff, Nat.reduceBEq, reduceIte, reduceCtorEq, Int.reduceEq, Int.reduceLT, Int.reduceLE, Int.reduceAdd, Int.reduceSub, Int.reduceMul, Int.reduceToNat, Int.reduceNeg, Int.reduceBEq, Int.reducePow, Nat.reducePow, one_length, wrap_i64, ha, e, bsV, h2, resB_ret, resO_some]
    · obtain ⟨y7, e⟩ := loop20 false t (dg 10 v) hd (by omega) (.iv (.agg [.bool false, .sl t (one i64 (dg 10 v))])) (.iv (.str [])) (.iv (.bool false)) (.iv (.bool false)) (dg 10 v).length [] (.tup []) (Nat.le_refl _) (by simp; omega)
      rw [List.take_length, hds, show accS 1 5 (bytesIV []) = [] from rfl, show acc 0 (bytesIV []) = .iv (.sl .nil []) from rfl] at e
      have h2 : bytesOf (bytesIV ([] ++ decS v)) = some ([] ++ decS v) := bytesOf_bytesIV _
      simp only [Bool.false_eq_true, ↓reduceIte]
      generalize [] ++ decS v = X at *
      simp (config := { maxSteps := 4000000 }) (disch := omega) only [t20, go_sem, Nat.reduceAdd, Nat.reduceSub, Nat.reduceLT, Nat.reduceLeDiff, Nat.reduceEqDiff, Nat.reduceBEq, reduceIte, reduceCtorEq, Int.reduceEq, Int.reduceLT, Int.reduceLE, Int.reduceAdd, Int.reduceSub, Int.reduceMul, Int.reduceToNat, Int.reduceNeg, Int.reduceBEq, Int.reducePow, Nat.reducePow, one_length, wrap_i64, e, bsV, h2, resB_ret, resO_some]
theorem loop24 (neg : Bool) (t : Tag) (l : List Int) (hd : Dig 10 l) (hl : l.length ≤ 18) (x0 x2 x6 : TV) (S : Store) : ∀ (k : Nat) (x5 : TV), k ≤ l.length →
    ∃ y5, lp' (lim K) t24L0 [x0, .lb [.iv (.bool neg), .iv (.sl t (one i64 l))], x2, .iv (.int .i64 (val 10 (l.drop k))), .iv (.int .i64 ((k : Int) - 1)), x5, x6] S = .ret (.exit 0, [x0, .lb [.iv (.bool neg), .iv (.sl t (one i64 l))], x2, .iv (.int .i64 (val 10 l)), .iv (.int .i64 (-1)), y5, x6], S)
  | 0, x5, h => by
    refine ⟨?_, loop_at K _ _ t24L0.eq_1 ?_⟩
    rotate_left
    · rw [List.drop_zero]
      simp (disch := omega) only [go_sem, Nat.reduceAdd, Nat.reduceSub, Nat.reduceLT, Nat.reduceLeDiff, Nat.reduceEqDiff, Nat.reduceBEq, reduceIte, reduceCtorEq, Int.reduceEq, Int.reduceLT, Int.reduceLE, Int.reduceAdd, Int.reduceSub, Int.reduceMul, Int.reduceToNat, Int.reduceNeg, Int.reduceBEq, Int.reducePow, Nat.reducePow]
      rfl
  | k + 1, x5, h => by
    have hlt : k < l.length := by omega
    have hix := ix_one i64 (t := t) (l := l) (i := (k : Int)) (by omega)
    rw [Int.toNat_natCast] at hix
    have hg := hd.getD hlt
    have hdr := drop_getD hlt
    have hb : val 10 (l.drop k) < 10 ^ (l.drop k).length := val_lt (by decide) (hd.drop k)
    have hb2 : (10 : Int) ^ (l.drop k).length ≤ 10 ^ 18 := pow_le' (by decide) (by simp; omega)
    have hn : 0 ≤ val 10 (l.drop k) := val_nonneg (by decide) (hd.drop k)
    have hn1 : 0 ≤ val 10 (l.drop (k + 1)) := val_nonneg (by decide) (hd.drop (k + 1))
    obtain ⟨y5, ih⟩ := loop24 neg t l hd hl x0 x2 x6 S k (.iv (.bool true)) (by omega)
    have e : val 10 (l.drop k) = 10 * val 10 (l.drop (k + 1)) + l.getD k default := by rw [hdr]; simp only [val]; omega
    rw [e] at ih hb hn
    refine ⟨y5, loop_at K _ _ t24L0.eq_1 ?_⟩
    have e1 : ((k : Int) + 1 - 1) = k := by omega
    simp only [i64] at hix
    generalize l.getD k default = a at *
    generalize val 10 (l.drop (k + 1)) = w at *
    have hb3 : 10 * w + a < 1000000000000000000 := Int.lt_of_lt_of_le hb (by simpa using hb2)
    simp (config := { maxSteps := 4000000 }) (disch := omega) only [go_sem, Nat.reduceAdd, Nat.reduceSub, Nat.reduceLT, Nat.reduceLeDiff, Nat.reduceEqDiff, Nat.reduceBEq, reduceIte, reduceCtorEq, Int.reduceEq, Int.reduceLT, Int.reduceLE, Int.reduceAdd, Int.reduceSub, Int.reduceMul, Int.reduceToNat, Int.reduceNeg, Int.reduceBEq, Int.reducePow, Nat.reducePow, Int.natCast_add, Int.cast_ofNat_Int, e1, hix, wrap_i64]
    exact congrArg er ih
theorem call24 (neg : Bool) (t : Tag) (l : List Int) (hd : Dig 10 l) (hl : l.length ≤ 18) : (lim K).call 24 [.iv (dnum neg t l)] [] = .ret (.iv (.int .i64 (sv neg (val 10 l))), []) := by
  obtain ⟨y5, e⟩ := loop24 neg t l hd hl (.iv (.agg [.bool neg, .sl t (one i64 l)])) (.iv (.int .i64 0)) (.tup []) [] l.length (.tup []) (Nat.le_refl _)
  rw [List.drop_length, show val 10 [] = 0 from rfl] at e
  have hb : val 10 l < 10 ^ l.length := val_lt (by decide) hd
  have hb2 : (10 : Int) ^ l.length ≤ 10 ^ 18 := pow_le' (by decide) (by omega)
  have hn : 0 ≤ val 10 l := val_nonneg (by decide) hd
  have hb3 : val 10 l < 1000000000000000000 := Int.lt_of_lt_of_le hb (by simpa using hb2)
  refine call_ret' K [] (fn := t24) rfl rfl ?_
  simp only [dnum]
  generalize val 10 l = w at *
  cases neg
  · simp (config := { maxSteps := 4000000 }) (disch := omega) only [t24, go_sem, Nat.reduceAdd, Nat.reduceSub, Nat.reduceLT, Nat.reduceLeDiff, Nat.reduceEqDiff, Nat.reduceBEq, reduceIte, reduceCtorEq, Int.reduceEq, Int.reduceLT, Int.reduceLE, Int.reduceAdd, Int.reduceSub, Int.reduceMul, Int.reduceToNat, Int.reduceNeg, Int.reduceBEq, Int.reducePow, Nat.reducePow, sv, one_length, wrap_i64, e]
  · simp (config := { maxSteps := 4000000 }) (disch := omega) only [t24, go_sem, Nat.reduceAdd, Nat.reduceSub, Nat.reduceLT, Nat.reduceLeDiff, Nat.reduceEqDiff, Nat.reduceBEq, reduceIte, reduceCtorEq, Int.reduceEq, Int.reduceLT, Int.reduceLE, Int.reduceAdd, Int.reduceSub, Int.reduceMul, Int.reduceToNat, Int.reduceNeg, Int.reduceBEq, Int.reducePow, Nat.reducePow, sv, one_length, wrap_i64, e, Int.zero_sub]
end Go.Proofs.YtdbffhgfjmhaiaaDoor
