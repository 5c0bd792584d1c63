/- The contracts of big: the document's Parse, whole. Condition: none. -/
import Derived.Test.YtdbffhgfjmhaiaaDoorBigF
set_option maxRecDepth 100000
set_option linter.unusedSimpArgs false
set_option linter.unusedVariables false
namespace Go.Proofs.YtdbffhgfjmhaiaaDoor
open Go Go.TM
def neg0 : List UInt8 → Bool
  | c :: _ => decide ((c.toNat : Int) = 45)
  | [] => false
def pos0 : List UInt8 → Bool
  | c :: _ => decide ((c.toNat : Int) = 43)
  | [] => false
def first (s : List UInt8) : Nat := if neg0 s || pos0 s then 1 else 0
def body (s : List UInt8) : List UInt8 := s.drop (first s)
def okP (s : List UInt8) : Bool := decide (body s ≠ []) && (body s).all isD
theorem dig_map {s : List UInt8} (h : s.all isD = true) : Dig 10 (s.reverse.map dgt) := by
  intro x hx
  obtain ⟨c, hc, rfl⟩ := List.mem_map.1 hx
  have := List.all_eq_true.1 h c (List.mem_reverse.1 hc)
  simp only [isD, Bool.and_eq_true, decide_eq_true_eq] at this
  simp only [dgt]; omega
theorem dec_nonneg {s : List UInt8} (h : s.all isD = true) : 0 ≤ dec s := val_nonneg (by decide) (dig_map h)
theorem ix0 (c : UInt8) (r : List UInt8) (kd : IntKind) : ixStr (.iv (.str (c :: r))) (.iv (.int kd 0)) = some (.iv (.int .u8 c.toNat)) := ixStr_ok (s := c :: r) (i := 0) (by simp)
set_option maxHeartbeats 4000000 in
theorem call13a (c : UInt8) (r : List UInt8) (hl : (c :: r).length ≤ 1000) (fst : Nat) (hf : fst = first (c :: r)) (hfl : fst < (c :: r).length) :
    ∃ t', TagOk t' (dg 10 (dec ((c :: r).drop fst))) ∧ Pure K 13 [.iv (.str (c :: r))] (if ((c :: r).drop fst).all isD then .tup [.iv (dnum (sg (neg0 (c :: r)) (dg 10 (dec ((c :: r).drop fst)))) t' (dg 10 (dec ((c :: r).drop fst)))), .iv (.int .i64 0)] else .tup [.iv (dnum false .nil []), .iv (.int .i64 4)]) := by
  obtain ⟨m, hm⟩ : ∃ m, (c :: r).length = fst + m := ⟨(c :: r).length - fst, by omega⟩
  have key := fun (x3 x7 x8 : TV) => loop13 (c :: r) hl fst x3 x7 x8 m (.tup []) (.tup []) (by omega)
  simp only [← hm, List.take_of_length_le (Nat.le_refl _), List.drop_length] at key
  have e0 : acc 0 (one i64 []) = .iv (.sl .nil []) := acc_nil 0
  have e1 : accS 1 3 (one i64 []) = [] := accS_nil 1 3
  have hb := bl c
  have hlen : (c :: r).length = r.length + 1 := rfl
  have hix := ix0 c r
  by_cases hall : ((c :: r).drop fst).all isD = true
  · have hdd := dig_map hall
    obtain ⟨t', h1, h43⟩ := call43 (neg0 (c :: r)) (sTag (one i64 (((c :: r).drop fst).reverse.map dgt))) (((c :: r).drop fst).reverse.map dgt) (by rw [show sTag (one i64 (((c :: r).drop fst).reverse.map dgt)) = sTag (((c :: r).drop fst).reverse.map dgt) from sTag_map _ _]; exact sTag_ok _) (by simp; omega)
    rw [tr_eq (by decide) hdd] at h1 h43
    refine ⟨t', h1, call_pure t13 rfl rfl ?_⟩
    rw [if_pos hall]
    simp only [hall, ↓reduceIte, dnum, neg0, List.drop_succ_cons, List.drop_zero] at key h43 ⊢
    by_cases h45 : (c.toNat : Int) = 45
    · have f1 : fst = 1 := by rw [hf]; simp [first, neg0, h45]
      subst f1
      obtain ⟨y5, y6, y9, y10, S', e⟩ := key (.iv (.bool true)) (.iv (.bool true)) (.iv (.bool false))
      rw [← hm, List.drop_length, show ([] : List UInt8).reverse.map dgt = [] from rfl, e0, e1, hlen, show ((r.length + 1 : Nat) : Int) - 1 = (r.length : Int) + 1 - 1 by omega, show ((1 : Nat) : Int) = 1 from rfl] at e
      have hne : ¬ ((r.length : Int) + 1 = 1) := by rw [hlen] at hfl; omega
      simp only [h45, decide_true, decide_false, List.drop_succ_cons, List.drop_zero, dec] at h43 ⊢
      simp (config := { maxSteps := 4000000 }) (disch := omega) only [t13, go_sem, Nat.reduceAdd, Nat.reduceSub, Nat.reduceLT, Nat.reduceLeDiff, Nat.reduceEqDiff, Nat.reduceBEq, reduceIte, reduceCtorEq, Int.reduceEq, Int.reduceLT, Int.reduceLE, Int.reduceAdd, Int.reduceSub, Int.reduceMul, Int.reduceToNat, Int.reduceNeg, Int.reduceBEq, Int.reducePow, Nat.reducePow, hlen, Int.natCast_add, Int.cast_ofNat_Int, hix, h45, hne, wrap_i64, e, resolve_acc, cpR_pure h43, resB_ret, resO_some]
    · by_cases h43' : (c.toNat : Int) = 43
      · have f1 : fst = 1 := by rw [hf]; simp [first, neg0, pos0, h45, h43']
        subst f1
        obtain ⟨y5, y6, y9, y10, S', e⟩ := key (.iv (.bool false)) (.iv (.bool true)) (.iv (.bool false))
        rw [← hm, List.drop_length, show ([] : List UInt8).reverse.map dgt = [] from rfl, e0, e1, hlen, show ((r.length + 1 : Nat) : Int) - 1 = (r.length : Int) + 1 - 1 by omega, show ((1 : Nat) : Int) = 1 from rfl] at e
        have hne : ¬ ((r.length : Int) + 1 = 1) := by rw [hlen] at hfl; omega
        simp only [h45, decide_true, decide_false, List.drop_succ_cons, List.drop_zero, dec] at h43 ⊢
        simp (config := { maxSteps := 4000000 }) (disch := omega) only [t13, go_sem, Nat.reduceAdd, Nat.reduceSub, Nat.reduceLT, Nat.reduceLeDiff, Nat.reduceEqDiff, Nat.reduceBEq, reduceIte, reduceCtorEq, Int.reduceEq, Int.reduceLT, Int.reduceLE, Int.reduceAdd, Int.reduceSub, Int.reduceMul, Int.reduceToNat, Int.reduceNeg, Int.reduceBEq, Int.reducePow, Nat.reducePow, hlen, Int.natCast_add, Int.cast_ofNat_Int, hix, h45, h43', hne, wrap_i64, e, resolve_acc, cpR_pure h43, resB_ret, resO_some]
      · have f1 : fst = 0 := by rw [hf]; simp [first, neg0, pos0, h45, h43']
        subst f1
        obtain ⟨y5, y6, y9, y10, S', e⟩ := key (.iv (.bool false)) (.iv (.bool false)) (.iv (.bool false))
        rw [← hm, List.drop_length, show ([] : List UInt8).reverse.map dgt = [] from rfl, e0, e1, hlen, show ((r.length + 1 : Nat) : Int) - 1 = (r.length : Int) + 1 - 1 by omega, show ((0 : Nat) : Int) = 0 from rfl] at e
        have hne : ¬ ((r.length : Int) + 1 = 0) := by omega
        simp only [h45, decide_true, decide_false, List.drop_succ_cons, List.drop_zero, dec] at h43 ⊢
        simp (config := { maxSteps := 4000000 }) (disch := omega) only [t13, go_sem, Nat.reduceAdd, Nat.reduceSub, Nat.reduceLT, Nat.reduceLeDiff, Nat.reduceEqDiff, Nat.reduceBEq, reduceIte, reduceCtorEq, Int.reduceEq, Int.reduceLT, Int.reduceLE, Int.reduceAdd, Int.reduceSub, Int.reduceMul, Int.reduceToNat, Int.reduceNeg, Int.reduceBEq, Int.reducePow, Nat.reducePow, hlen, Int.natCast_add, Int.cast_ofNat_Int, hix, h45, h43', hne, wrap_i64, e, resolve_acc, cpR_pure h43, resB_ret, resO_some]
  · refine ⟨sTag (dg 10 (dec ((c :: r).drop fst))), sTag_ok _, call_pure t13 rfl rfl ?_⟩
    rw [if_neg hall]
    have e2 : one i64 [] = [] := rfl
    simp only [hall, ↓reduceIte, Bool.false_eq_true, dnum, e2] at key ⊢
    by_cases h45 : (c.toNat : Int) = 45
    · have f1 : fst = 1 := by rw [hf]; simp [first, neg0, h45]
      subst f1
      obtain ⟨y5, y6, y9, y10, S', e⟩ := key (.iv (.bool true)) (.iv (.bool true)) (.iv (.bool false))
      rw [← hm, List.drop_length, show ([] : List UInt8).reverse.map dgt = [] from rfl, e0, e1, hlen, show ((r.length + 1 : Nat) : Int) - 1 = (r.length : Int) + 1 - 1 by omega, show ((1 : Nat) : Int) = 1 from rfl] at e
      have hne : ¬ ((r.length : Int) + 1 = 1) := by rw [hlen] at hfl; omega
      simp (config := { maxSteps := 4000000 }) (disch := omega) only [t13, go_sem, Nat.reduceAdd, Nat.reduceSub, Nat.reduceLT, Nat.reduceLeDiff, Nat.reduceEqDiff, Nat.reduceBEq, reduceIte, reduceCtorEq, Int.reduceEq, Int.reduceLT, Int.reduceLE, Int.reduceAdd, Int.reduceSub, Int.reduceMul, Int.reduceToNat, Int.reduceNeg, Int.reduceBEq, Int.reducePow, Nat.reducePow, hlen, Int.natCast_add, Int.cast_ofNat_Int, hix, h45, hne, wrap_i64, e, resolve_acc, resB_ret, resO_some]
    · by_cases h43' : (c.toNat : Int) = 43
      · have f1 : fst = 1 := by rw [hf]; simp [first, neg0, pos0, h45, h43']
        subst f1
        obtain ⟨y5, y6, y9, y10, S', e⟩ := key (.iv (.bool false)) (.iv (.bool true)) (.iv (.bool false))
        rw [← hm, List.drop_length, show ([] : List UInt8).reverse.map dgt = [] from rfl, e0, e1, hlen, show ((r.length + 1 : Nat) : Int) - 1 = (r.length : Int) + 1 - 1 by omega, show ((1 : Nat) : Int) = 1 from rfl] at e
        have hne : ¬ ((r.length : Int) + 1 = 1) := by rw [hlen] at hfl; omega
        simp (config := { maxSteps := 4000000 }) (disch := omega) only [t13, go_sem, Nat.reduceAdd, Nat.reduceSub, Nat.reduceLT, Nat.reduceLeDiff, Nat.reduceEqDiff, Nat.reduceBEq, reduceIte, reduceCtorEq, Int.reduceEq, Int.reduceLT, Int.reduceLE, Int.reduceAdd, Int.reduceSub, Int.reduceMul, Int.reduceToNat, Int.reduceNeg, Int.reduceBEq, Int.reducePow, Nat.reducePow, hlen, Int.natCast_add, Int.cast_ofNat_Int, hix, h45, h43', hne, wrap_i64, e, resolve_acc, resB_ret, resO_some]
      · have f1 : fst = 0 := by rw [hf]; simp [first, neg0, pos0, h45, h43']
        subst f1
        obtain ⟨y5, y6, y9, y10, S', e⟩ := key (.iv (.bool false)) (.iv (.bool false)) (.iv (.bool false))
        rw [← hm, List.drop_length, show ([] : List UInt8).reverse.map dgt = [] from rfl, e0, e1, hlen, show ((r.length + 1 : Nat) : Int) - 1 = (r.length : Int) + 1 - 1 by omega, show ((0 : Nat) : Int) = 0 from rfl] at e
        have hne : ¬ ((r.length : Int) + 1 = 0) := by omega
        simp (config := { maxSteps := 4000000 }) (disch := omega) only [t13, go_sem, Nat.reduceAdd, Nat.reduceSub, Nat.reduceLT, Nat.reduceLeDiff, Nat.reduceEqDiff, Nat.reduceBEq, reduceIte, reduceCtorEq, Int.reduceEq, Int.reduceLT, Int.reduceLE, Int.reduceAdd, Int.reduceSub, Int.reduceMul, Int.reduceToNat, Int.reduceNeg, Int.reduceBEq, Int.reducePow, Nat.reducePow, hlen, Int.natCast_add, Int.cast_ofNat_Int, hix, h45, h43', hne, wrap_i64, e, resolve_acc, resB_ret, resO_some]
set_option maxHeartbeats 4000000 in
theorem call13 (s : List UInt8) (hl : s.length ≤ 1000) :
    ∃ t', TagOk t' (dg 10 (dec (body s))) ∧ Pure K 13 [.iv (.str s)] (if okP s then .tup [.iv (dnum (sg (neg0 s) (dg 10 (dec (body s)))) t' (dg 10 (dec (body s)))), .iv (.int .i64 0)] else .tup [.iv (dnum false .nil []), .iv (.int .i64 4)]) := by
  have e2 : one i64 [] = [] := rfl
  cases s with
  | nil =>
    refine ⟨sTag _, sTag_ok _, call_pure t13 rfl rfl ?_⟩
    rw [if_neg (by decide)]
    simp (config := { maxSteps := 4000000 }) (disch := omega) only [t13, go_sem, Nat.reduceAdd, Nat.reduceSub, Nat.reduceLT, Nat.reduceLeDiff, Nat.reduceEqDiff, Nat.reduceBEq, reduceIte, reduceCtorEq, Int.reduceEq, Int.reduceLT, Int.reduceLE, Int.reduceAdd, Int.reduceSub, Int.reduceMul, Int.reduceToNat, Int.reduceNeg, Int.reduceBEq, Int.reducePow, Nat.reducePow, List.length_nil, Int.natCast_zero, dnum, e2, resB_ret, resO_some]
  | cons c r =>
    by_cases h : first (c :: r) < (c :: r).length
    · obtain ⟨t', h1, h2⟩ := call13a c r hl _ rfl h
      refine ⟨t', h1, ?_⟩
      have hb : body (c :: r) ≠ [] := by rw [body, ne_eq, List.drop_eq_nil_iff]; omega
      have : okP (c :: r) = ((c :: r).drop (first (c :: r))).all isD := by simp only [okP, hb, ne_eq, not_false_eq_true, decide_true, Bool.true_and]; rfl
      rw [this]
      exact h2
    · have hr : r = [] := by
        have : first (c :: r) ≤ 1 := by unfold first; split <;> omega
        rw [List.length_cons] at h
        exact List.length_eq_zero_iff.1 (by omega)
      subst hr
      have hf : first [c] = 1 := by
        have : first [c] ≤ 1 := by unfold first; split <;> omega
        simp at h; omega
      have hbo : body [c] = [] := by rw [body, hf]; rfl
      have hno : ¬ okP [c] = true := by simp [okP, hbo]
      refine ⟨sTag _, sTag_ok _, call_pure t13 rfl rfl ?_⟩
      rw [if_neg hno]
      have hix := ix0 c []
      by_cases h45 : (c.toNat : Int) = 45
      · simp (config := { maxSteps := 4000000 }) (disch := omega) only [t13, go_sem, Nat.reduceAdd, Nat.reduceSub, Nat.reduceLT, Nat.reduceLeDiff, Nat.reduceEqDiff, Nat.reduceBEq, reduceIte, reduceCtorEq, Int.reduceEq, Int.reduceLT, Int.reduceLE, Int.reduceAdd, Int.reduceSub, Int.reduceMul, Int.reduceToNat, Int.reduceNeg, Int.reduceBEq, Int.reducePow, Nat.reducePow, List.length_cons, List.length_nil, Int.natCast_add, Int.natCast_zero, Int.cast_ofNat_Int, hix, h45, dnum, e2, resB_ret, resO_some]
      · have h43 : (c.toNat : Int) = 43 := by
          rw [first] at hf
          simp only [neg0, pos0, h45, decide_false, Bool.false_or, decide_eq_true_eq] at hf
          split at hf
          · assumption
          · omega
        simp (config := { maxSteps := 4000000 }) (disch := omega) only [t13, go_sem, Nat.reduceAdd, Nat.reduceSub, Nat.reduceLT, Nat.reduceLeDiff, Nat.reduceEqDiff, Nat.reduceBEq, reduceIte, reduceCtorEq, Int.reduceEq, Int.reduceLT, Int.reduceLE, Int.reduceAdd, Int.reduceSub, Int.reduceMul, Int.reduceToNat, Int.reduceNeg, Int.reduceBEq, Int.reducePow, Nat.reducePow, List.length_cons, List.length_nil, Int.natCast_add, Int.natCast_zero, Int.cast_ofNat_Int, hix, h45, h43, dnum, e2, resB_ret, resO_some]
