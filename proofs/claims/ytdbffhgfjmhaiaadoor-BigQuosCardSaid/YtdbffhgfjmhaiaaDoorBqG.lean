/- The contracts of trim, tidy, parted, Clone where digits are written. Condition: none. -/
import Derived.Test.YtdbffhgfjmhaiaaDoorBqF
set_option maxRecDepth 100000
set_option linter.unusedSimpArgs false
set_option linter.unusedVariables false
namespace Go.Proofs.YtdbffhgfjmhaiaaDoor
open Go Go.TM
theorem loop40V {m : Bool} {P : Nat → Prop} (S : Store) : ∀ (n : Nat) (x : TV) (l : List Int) (x1 y : TV), DV m P S x l → l.length = n → n ≤ 1000000 →
    ∃ x' y', DV m P S x' (tr l) ∧ lp' (lim K) t40L0 [x, x1, y] S = .ret (.exit 0, [x', x1, y'], S)
  | 0, x, l, x1, y, hx, h, hn => by
    obtain rfl : l = [] := List.length_eq_zero_iff.1 h
    have px := hx.pl
    have lx := hx.len
    refine ⟨x, ?_, hx, loop_at K _ _ t40L0.eq_1 ?_⟩
    rotate_left
    · simp (disch := omega) only [go_sem, Nat.reduceAdd, Nat.reduceSub, Nat.reduceLT, Nat.reduceLeDiff, Nat.reduceEqDiff, Nat.reduceBEq, reduceIte, reduceCtorEq, Int.reduceEq, Int.reduceLT, Int.reduceLE, Int.reduceAdd, Int.reduceSub, Int.reduceMul, Int.reduceToNat, Int.reduceNeg, Int.reduceBEq, Int.reducePow, Nat.reducePow, px.loc, px.nlp, px.resK, px.wb, lx, List.length_nil]
      rfl
  | n + 1, x, l, x1, y, hx, h, hn => by
    rcases snoc_cases l with rfl | ⟨k, a, rfl⟩
    · simp at h
    have hm : k.length = n := by simpa using h
    have hl : (k ++ [a]).length = k.length + 1 := by simp
    obtain ⟨p, hp1, hp2⟩ := hx.idx (i := (k.length : Int)) (by omega)
    rw [Int.toNat_natCast, getD_snoc] at hp2
    obtain ⟨z, hz, hz2⟩ := hx.hi (n := (k.length : Int)) (by omega)
    rw [Int.toNat_natCast, take_snoc] at hz2
    have e1 : ((k.length : Int) + 1 - 1) = k.length := by omega
    have px := hx.pl
    have pz := hz2.pl
    have lx := hx.len
    rw [hl] at lx
    by_cases ha : a = 0
    · subst ha
      obtain ⟨x', y', h1, ih⟩ := loop40V S n z k x1 (.iv (.bool true)) hz2 hm (by omega)
      rw [tr_zero]
      refine ⟨x', y', h1, loop_at K _ _ t40L0.eq_1 ?_⟩
      simp (disch := omega) only [go_sem, Nat.reduceAdd, Nat.reduceSub, Nat.reduceLT, Nat.reduceLeDiff, Nat.reduceEqDiff, Nat.reduceBEq, reduceIte, reduceCtorEq, Int.reduceEq, Int.reduceLT, Int.reduceLE, Int.reduceAdd, Int.reduceSub, Int.reduceMul, Int.reduceToNat, Int.reduceNeg, Int.reduceBEq, Int.reducePow, Nat.reducePow, px.loc, px.nlp, px.resK, px.wb, pz.loc, pz.nlp, pz.resK, pz.wb, lx, Int.natCast_add, Int.cast_ofNat_Int, wrap_i64, e1, hp1, hp2, hz]
      exact congrArg er ih
    · rw [tr_last ha]
      refine ⟨x, ?_, hx, loop_at K _ _ t40L0.eq_1 ?_⟩
      rotate_left
      · simp (disch := omega) only [go_sem, Nat.reduceAdd, Nat.reduceSub, Nat.reduceLT, Nat.reduceLeDiff, Nat.reduceEqDiff, Nat.reduceBEq, reduceIte, reduceCtorEq, Int.reduceEq, Int.reduceLT, Int.reduceLE, Int.reduceAdd, Int.reduceSub, Int.reduceMul, Int.reduceToNat, Int.reduceNeg, Int.reduceBEq, Int.reducePow, Nat.reducePow, px.loc, px.nlp, px.resK, px.wb, lx, Int.natCast_add, Int.cast_ofNat_Int, wrap_i64, e1, hp1, hp2]
        rfl
theorem trimV {m : Bool} {P : Nat → Prop} {S : Store} {x : TV} {l : List Int} (hx : DV m P S x l) (hl : l.length ≤ 1000000) : ∃ y, DV m P S y (tr l) ∧ (lim K).call 40 [x] S = .ret (y, S) := by
  obtain ⟨x', y', h1, e⟩ := loop40V S l.length x l (.iv (.sl .nil [])) (.tup []) hx rfl hl
  have px := h1.pl
  refine ⟨x', h1, call_ret' K S (fn := t40) rfl rfl ?_⟩
  simp (disch := omega) only [t40, go_sem, Nat.reduceAdd, Nat.reduceSub, Nat.reduceLT, Nat.reduceLeDiff, Nat.reduceEqDiff, Nat.reduceBEq, reduceIte, reduceCtorEq, Int.reduceEq, Int.reduceLT, Int.reduceLE, Int.reduceAdd, Int.reduceSub, Int.reduceMul, Int.reduceToNat, Int.reduceNeg, Int.reduceBEq, Int.reducePow, Nat.reducePow, e, px.loc, px.nlp, px.resK, px.wb]
def sv (neg : Bool) (v : Int) : Int := if neg then -v else v
def bg (t : Tag) (z : Int) : IV := num (decide (z < 0)) t (dg 65536 z.natAbs)
def dd (t : Tag) (z : Int) : IV := dnum (decide (z < 0)) t (dg 10 z.natAbs)
theorem sg_sv {B : Int} (hB : 1 < B) (neg : Bool) {v : Int} (h : 0 ≤ v) : sg neg (dg B v) = decide (sv neg v < 0) := by
  have e1 : (0 < (dg B v).length) ↔ v ≠ 0 := by rw [List.length_pos_iff, ne_eq, dg_nil hB h]
  cases neg
  · simp [sg, sv]; omega
  · simp only [sg, e1, sv, Bool.true_and, if_true]
    exact decide_eq_decide.2 (by omega)
theorem abs_sv (neg : Bool) {v : Int} (h : 0 ≤ v) : ((sv neg v).natAbs : Int) = v := by
  cases neg <;> simp [sv] <;> omega
theorem sv_bg (z : Int) : sv (decide (z < 0)) (z.natAbs : Int) = z := by
  by_cases h : z < 0 <;> simp [sv, h] <;> omega
theorem dnum_dd {neg : Bool} {t : Tag} {v : Int} (h : 0 ≤ v) : dnum (sg neg (dg 10 v)) t (dg 10 v) = dd t (sv neg v) := by
  rw [dd, abs_sv neg h, sg_sv (by decide) neg h]
def agT (n : Bool) : TV → TV
  | .iv v => .iv (.agg [.bool n, v])
  | x => .agg [.iv (.bool n), x]
theorem agT_iv (n : Bool) (v : IV) : agT n (.iv v) = .iv (.agg [.bool n, v]) := id rfl
theorem agT_msl (n : Bool) (a b c d e f : Nat) : agT n (.msl a b c d e f) = .agg [.iv (.bool n), .msl a b c d e f] := id rfl
theorem tidyV {m : Bool} {P : Nat → Prop} {S : Store} {x : TV} {l : List Int} (hx : DV m P S x l) (hd : Dig 65536 l) (hl : l.length ≤ 1000000) (neg : Bool) :
    ∃ y, DV m P S y (dg 65536 (val 65536 l)) ∧ (lim K).call 42 [.iv (.bool neg), x] S = .ret (agT (decide (sv neg (val 65536 l) < 0)) y, S) := by
  obtain ⟨y, hy, e⟩ := trimV hx hl
  have hv := val_nonneg (by decide) hd
  rw [tr_eq (by decide) hd] at hy
  refine ⟨y, hy, ?_⟩
  rw [← sg_sv (B := 65536) (by decide) neg hv]
  have hlen : (dg 65536 (val 65536 l)).length ≤ l.length := by rw [← tr_eq (by decide) hd]; exact tr_len l
  generalize dg 65536 (val 65536 l) = L at *
  have px := hx.pl
  have ly := hy.len
  refine call_ret' K S (fn := t42) rfl rfl ?_
  have hs : sg neg L = if neg then decide (0 < L.length) else false := by cases neg <;> simp [sg]
  rw [hs]
  rcases hy.pl with ⟨v, rfl⟩ | ⟨a, b, c, d, f, g, rfl⟩
  · rcases hy with ⟨t, _, h1, h2⟩
    rw [agT_iv]
    by_cases h0 : 0 < L.length
    · cases neg <;> simp (disch := omega) only [t42, go_sem, Nat.reduceAdd, Nat.reduceSub, Nat.reduceLT, Nat.reduceLeDiff, Nat.reduceEqDiff, Nat.reduceBEq, reduceIte, reduceCtorEq, Int.reduceEq, Int.reduceLT, Int.reduceLE, Int.reduceAdd, Int.reduceSub, Int.reduceMul, Int.reduceToNat, Int.reduceNeg, Int.reduceBEq, Int.reducePow, Nat.reducePow, e, px.loc, px.nlp, px.resK, px.wb, h0, Bool.false_eq_true, if_false, if_true]
    · cases neg <;> simp (disch := omega) only [t42, go_sem, Nat.reduceAdd, Nat.reduceSub, Nat.reduceLT, Nat.reduceLeDiff, Nat.reduceEqDiff, Nat.reduceBEq, reduceIte, reduceCtorEq, Int.reduceEq, Int.reduceLT, Int.reduceLE, Int.reduceAdd, Int.reduceSub, Int.reduceMul, Int.reduceToNat, Int.reduceNeg, Int.reduceBEq, Int.reducePow, Nat.reducePow, e, px.loc, px.nlp, px.resK, px.wb, h0, Bool.false_eq_true, if_false, if_true]
  · rw [agT_msl]
    by_cases h0 : 0 < L.length
    · cases neg <;> simp (disch := omega) only [t42, go_sem, Nat.reduceAdd, Nat.reduceSub, Nat.reduceLT, Nat.reduceLeDiff, Nat.reduceEqDiff, Nat.reduceBEq, reduceIte, reduceCtorEq, Int.reduceEq, Int.reduceLT, Int.reduceLE, Int.reduceAdd, Int.reduceSub, Int.reduceMul, Int.reduceToNat, Int.reduceNeg, Int.reduceBEq, Int.reducePow, Nat.reducePow, e, px.loc, px.nlp, px.resK, px.wb, ly, h0, Bool.false_eq_true, if_false, if_true]
    · cases neg <;> simp (disch := omega) only [t42, go_sem, Nat.reduceAdd, Nat.reduceSub, Nat.reduceLT, Nat.reduceLeDiff, Nat.reduceEqDiff, Nat.reduceBEq, reduceIte, reduceCtorEq, Int.reduceEq, Int.reduceLT, Int.reduceLE, Int.reduceAdd, Int.reduceSub, Int.reduceMul, Int.reduceToNat, Int.reduceNeg, Int.reduceBEq, Int.reducePow, Nat.reducePow, e, px.loc, px.nlp, px.resK, px.wb, ly, h0, Bool.false_eq_true, if_false, if_true]
end Go.Proofs.YtdbffhgfjmhaiaaDoor
