/- The contracts of big: TrimLeft of signs. Condition: none. -/
import Derived.Test.YtdbffhgfjmhaiaaDoorBigG
set_option maxRecDepth 100000
set_option linter.unusedSimpArgs false
set_option linter.unusedVariables false
namespace Go.Proofs.YtdbffhgfjmhaiaaDoor
open Go Go.TM
def isS (c : UInt8) : Bool := decide ((c.toNat : Int) = 43) || decide ((c.toNat : Int) = 45)
def signs : List IV := (List.range 256).map fun n => .bool (n == 43 || n == 45)
theorem run64 : (ex K 60).call 64 [.iv (.str [43, 45])] [] = .ret (.tup [.iv (.agg signs), .iv (.bool true)], []) := by kernel_rfl
theorem call64 : (lim K).call 64 [.iv (.str [43, 45])] [] = .ret (.tup [.iv (.agg signs), .iv (.bool true)], []) := lim_of run64
theorem signs_len : signs.length = 256 := by simp [signs]
theorem signs_get (n : Nat) (h : n < 256) : signs[n]? = some (.bool (n == 43 || n == 45)) := by simp [signs, h]
theorem isS_eq (c : UInt8) : isS c = (c.toNat == 43 || c.toNat == 45) := by
  rw [Bool.eq_iff_iff]; simp [isS]; omega
theorem call80 (c : UInt8) (b : Bool) (S : Store) (j : Nat) (h : S[j]? = some (.cells 96 b (signs.map TV.iv))) : (lim K).call 80 [.ptr j 96 0, .iv (.int .u8 c.toNat)] S = .ret (.iv (.bool (isS c)), S) := by
  have hb := bl c
  have hbl : blK 96 (0 + (c.toNat : Int).toNat * 1) 1 (S[j]?) = some [.iv (.bool (isS c))] := by
    rw [h]
    show (if (96 : Nat) = 96 then sub (signs.map TV.iv) (0 + (c.toNat : Int).toNat * 1) 1 else none) = _
    have hlt : c.toNat < (signs.map TV.iv).length := by rw [List.length_map, signs_len]; exact hb
    have e : (signs.map TV.iv)[c.toNat]? = some (.iv (.bool (isS c))) := by
      rw [List.getElem?_map, signs_get _ hb, isS_eq]; rfl
    rw [List.getElem?_eq_getElem hlt] at e
    simp only [↓reduceIte, Int.toNat_natCast, Nat.zero_add, Nat.mul_one, sub, show c.toNat + 1 ≤ (signs.map TV.iv).length from hlt]
    rw [List.drop_eq_getElem_cons hlt]
    simp only [List.take_succ_cons, List.take_zero]
    rw [Option.some.inj e]
  refine call_ret' K _ (fn := t80) rfl rfl ?_
  simp (config := { maxSteps := 4000000 }) (disch := omega) only [t80, go_sem, Nat.reduceAdd, Nat.reduceSub, Nat.reduceLT, Nat.reduceLeDiff, Nat.reduceEqDiff, Nat.reduceBEq, reduceIte, reduceCtorEq, Int.reduceEq, Int.reduceLT, Int.reduceLE, Int.reduceAdd, Int.reduceSub, Int.reduceMul, Int.reduceToNat, Int.reduceNeg, Int.reduceBEq, Int.reducePow, Nat.reducePow, hbl]
def trimS : List UInt8 → List UInt8
  | [] => []
  | c :: r => if isS c then trimS r else c :: r
theorem loop65 (b : Bool) (S : Store) (j : Nat) (h : S[j]? = some (.cells 96 b (signs.map .iv))) (x2 : TV) : ∀ (s : List UInt8) (x3 x4 : TV), s.length ≤ 1000 → ∃ y3 y4, lp' (lim K) t65L0 [.iv (.str s), .ptr j 96 0, x2, x3, x4] S = .ret (.exit 0, [.iv (.str (trimS s)), .ptr j 96 0, x2, y3, y4], S)
  | [], x3, x4, hl => by
    refine ⟨?_, ?_, loop_at K _ _ t65L0.eq_1 ?_⟩
    rotate_left 2
    · simp (disch := omega) only [go_sem, Nat.reduceAdd, Nat.reduceSub, Nat.reduceLT, Nat.reduceLeDiff, Nat.reduceEqDiff, Nat.reduceBEq, reduceIte, reduceCtorEq, Int.reduceEq, Int.reduceLT, Int.reduceLE, Int.reduceAdd, Int.reduceSub, Int.reduceMul, Int.reduceToNat, Int.reduceNeg, Int.reduceBEq, Int.reducePow, Nat.reducePow, List.length_nil, trimS]
      rfl
  | c :: r, x3, x4, hl => by
    have h80 := call80 c b S j h
    have hix := ix0 c r
    have hlen : (c :: r).length = r.length + 1 := rfl
    have hsl := slice_str_lo S (s := c :: r) (a := 1) (by rw [hlen]; omega)
    rw [show (1 : Int).toNat = 1 from rfl, List.drop_succ_cons, List.drop_zero] at hsl
    by_cases hc : isS c = true
    · obtain ⟨y3, y4, ih⟩ := loop65 b S j h x2 r (.iv (.bool true)) (.iv (.bool false)) (by rw [hlen] at hl; omega)
      refine ⟨y3, y4, loop_at K _ _ t65L0.eq_1 ?_⟩
      rw [hc] at h80
      simp only [trimS, hc, ↓reduceIte]
      simp (config := { maxSteps := 4000000 }) (disch := omega) only [go_sem, Nat.reduceAdd, Nat.reduceSub, Nat.reduceLT, Nat.reduceLeDiff, Nat.reduceEqDiff, Nat.reduceBEq, reduceIte, reduceCtorEq, Int.reduceEq, Int.reduceLT, Int.reduceLE, Int.reduceAdd, Int.reduceSub, Int.reduceMul, Int.reduceToNat, Int.reduceNeg, Int.reduceBEq, Int.reducePow, Nat.reducePow, hlen, Int.natCast_add, Int.cast_ofNat_Int, hix, h80, hsl]
      exact congrArg er ih
    · simp only [trimS, hc, Bool.false_eq_true, ↓reduceIte]
      rw [Bool.not_eq_true] at hc
      rw [hc] at h80
      refine ⟨?_, ?_, loop_at K _ _ t65L0.eq_1 ?_⟩
      rotate_left 2
      · simp (config := { maxSteps := 4000000 }) (disch := omega) only [go_sem, Nat.reduceAdd, Nat.reduceSub, Nat.reduceLT, Nat.reduceLeDiff, Nat.reduceEqDiff, Nat.reduceBEq, reduceIte, reduceCtorEq, Int.reduceEq, Int.reduceLT, Int.reduceLE, Int.reduceAdd, Int.reduceSub, Int.reduceMul, Int.reduceToNat, Int.reduceNeg, Int.reduceBEq, Int.reducePow, Nat.reducePow, hlen, Int.natCast_add, Int.cast_ofNat_Int, hix, h80, hsl]
        rfl
theorem call65 (b : Bool) (S : Store) (j : Nat) (h : S[j]? = some (.cells 96 b (signs.map .iv))) (s : List UInt8) (hl : s.length ≤ 1000) : (lim K).call 65 [.iv (.str s), .ptr j 96 0] S = .ret (.iv (.str (trimS s)), S) := by
  obtain ⟨y3, y4, e⟩ := loop65 b S j h (.iv (.str [])) s (.tup []) (.tup []) hl
  refine call_ret' K _ (fn := t65) rfl rfl ?_
  simp (config := { maxSteps := 4000000 }) (disch := omega) only [t65, go_sem, Nat.reduceAdd, Nat.reduceSub, Nat.reduceLT, Nat.reduceLeDiff, Nat.reduceEqDiff, Nat.reduceBEq, reduceIte, reduceCtorEq, Int.reduceEq, Int.reduceLT, Int.reduceLE, Int.reduceAdd, Int.reduceSub, Int.reduceMul, Int.reduceToNat, Int.reduceNeg, Int.reduceBEq, Int.reducePow, Nat.reducePow, e]
theorem call39 (s : List UInt8) (hl : s.length ≤ 1000) : Pure K 39 [.iv (.str s), .iv (.str [43, 45])] (.iv (.str (trimS s))) := by
  cases s with
  | nil =>
    refine call_pure t39 rfl rfl ?_
    simp (config := { maxSteps := 4000000 }) (disch := omega) only [t39, go_sem, Nat.reduceAdd, Nat.reduceSub, Nat.reduceLT, Nat.reduceLeDiff, Nat.reduceEqDiff, Nat.reduceBEq, reduceIte, reduceCtorEq, Int.reduceEq, Int.reduceLT, Int.reduceLE, Int.reduceAdd, Int.reduceSub, Int.reduceMul, Int.reduceToNat, Int.reduceNeg, Int.reduceBEq, Int.reducePow, Nat.reducePow, trimS, resB_ret, resO_some]
  | cons c r =>
    have h64 := call64
    have hne : (c :: r == ([] : List UInt8)) = false := rfl
    have hne2 : ([43, 45] == ([] : List UInt8)) = false := rfl
    refine call_pure t39 rfl rfl ?_
    simp (config := { maxSteps := 4000000 }) (disch := omega) only [t39, go_sem, Nat.reduceAdd, Nat.reduceSub, Nat.reduceLT, Nat.reduceLeDiff, Nat.reduceEqDiff, Nat.reduceBEq, reduceIte, reduceCtorEq, Int.reduceEq, Int.reduceLT, Int.reduceLE, Int.reduceAdd, Int.reduceSub, Int.reduceMul, Int.reduceToNat, Int.reduceNeg, Int.reduceBEq, Int.reducePow, Nat.reducePow, h64, hne, hne2, List.length_cons, List.length_nil, resB_ret, resO_some]
    rw [List.drop_of_length_le (by rw [Nat.zero_add, List.length_map, signs_len]; exact Nat.le_refl 256)]
    have hany : (List.map TV.iv signs).any isRefL = false := any_ref (by kernel_rfl)
    have hle : (List.map TV.iv signs).length = 256 := by rw [List.length_map, signs_len]
    have h65 := call65 false [.cells 96 false (signs.map TV.iv)] 0 rfl (c :: r) hl
    simp (config := { maxSteps := 4000000 }) (disch := omega) only [go_sem, Nat.reduceAdd, Nat.reduceSub, Nat.reduceLT, Nat.reduceLeDiff, Nat.reduceEqDiff, Nat.reduceBEq, reduceIte, reduceCtorEq, Int.reduceEq, Int.reduceLT, Int.reduceLE, Int.reduceAdd, Int.reduceSub, Int.reduceMul, Int.reduceToNat, Int.reduceNeg, Int.reduceBEq, Int.reducePow, Nat.reducePow, hle, hany, Bool.false_eq_true, List.append_nil, h65, resB_ret, resO_some]
