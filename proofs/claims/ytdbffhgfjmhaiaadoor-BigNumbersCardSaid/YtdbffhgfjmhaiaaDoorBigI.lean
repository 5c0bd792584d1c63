/- The contracts of big: Parse. Condition: none. -/
import Derived.Test.YtdbffhgfjmhaiaaDoorBigH
set_option maxRecDepth 100000
set_option linter.unusedSimpArgs false
set_option linter.unusedVariables false
namespace Go.Proofs.YtdbffhgfjmhaiaaDoor
open Go Go.TM
def fdec (v : Int) : List UInt8 → Int
  | [] => v
  | c :: r => fdec (10 * v + dgt c) r
theorem dec_snoc (p : List UInt8) (c : UInt8) : dec (p ++ [c]) = 10 * dec p + dgt c := by
  simp [dec, val]; omega
theorem fdec_dec : ∀ (l p : List UInt8), fdec (dec p) l = dec (p ++ l)
  | [], p => by simp [fdec]
  | c :: r, p => by
    rw [fdec, ← dec_snoc, fdec_dec r, List.append_assoc]; rfl
theorem fdec_zero (l : List UInt8) : fdec 0 l = dec l := fdec_dec l []
theorem loop12 (s b : List UInt8) (hl : b.length ≤ 1000) (t : Tag) (x3 x6 : TV) (S : Store) : ∀ (k i : Nat) (v : Int) (tg : Tag) (x5 x10 x11 : TV), i + k = b.length → 0 ≤ v → (dg 65536 v).length ≤ i → TagOk tg (dg 65536 v) →
    ∃ tg' y4 y5 y9 y10 y11, TagOk tg' (dg 65536 (fdec v (b.drop i))) ∧ ((b.drop i).all isD = true → (dg 65536 (fdec v (b.drop i))).length ≤ b.length) ∧ lp' (lim K) t12L0 [.iv (.str s), .lb [.iv (.bool false), .iv (.sl .nil [])], .iv (.int .i64 0), x3, .iv (.sl tg (one d16 (dg 65536 v))), x5, x6, .iv (.sl t (bytesIV b)), .iv (.int .i64 b.length), .iv (.int .i64 i), x10, x11] S
      = .ret (if (b.drop i).all isD then (.exit 0, [.iv (.str s), .lb [.iv (.bool false), .iv (.sl .nil [])], .iv (.int .i64 0), x3, .iv (.sl tg' (one d16 (dg 65536 (fdec v (b.drop i))))), y5, x6, .iv (.sl t (bytesIV b)), .iv (.int .i64 b.length), .iv (.int .i64 b.length), y10, y11], S)
        else (.ret, [.iv (.str s), .lb [.iv (.bool false), .iv (.sl .nil [])], .iv (.int .i64 4), x3, y4, y5, x6, .iv (.sl t (bytesIV b)), .iv (.int .i64 b.length), y9, y10, y11], S))
  | 0, i, v, tg, x5, x10, x11, h, h0, hn, ht => by
    obtain rfl : i = b.length := by omega
    rw [List.drop_length]
    refine ⟨tg, .hole, ?_, .hole, ?_, ?_, ht, fun _ => hn, loop_at K _ _ t12L0.eq_1 ?_⟩
    rotate_left 3
    · simp only [List.all_nil, ↓reduceIte, fdec]
      simp (disch := omega) only [go_sem, Nat.reduceAdd, Nat.reduceSub, Nat.reduceLT, Nat.reduceLeDiff, Nat.reduceEqDiff, Nat.reduceBEq, reduceIte, reduceCtorEq, Int.reduceEq, Int.reduceLT, Int.reduceLE, Int.reduceAdd, Int.reduceSub, Int.reduceMul, Int.reduceToNat, Int.reduceNeg, Int.reduceBEq, Int.reducePow, Nat.reducePow]
      rfl
  | k + 1, i, v, tg, x5, x10, x11, h, h0, hn, ht => by
    have hix := ix_bytes (t := t) (l := b) (i := (i : Int)) (by omega)
    rw [Int.toNat_natCast] at hix
    have hd := str_drop (s := b) (i := i) (by omega)
    rw [hd]
    have hb := bl (b.getD i 0)
    have ih := loop12 s b hl t x3 x6 S k (i + 1)
    generalize b.getD i 0 = c at *
    rw [List.all_cons]
    simp only [fdec]
    by_cases hc : isD c = true
    · have hc' := hc
      simp only [isD, Bool.and_eq_true, decide_eq_true_eq] at hc'
      obtain ⟨s1, s2, s3⟩ := scd_spec (y := 10) (m := dgt c) (l := dg 65536 v) (dg_dig (by decide) h0) (by decide) (by simp only [dgt]; omega)
      rw [val_dg (by decide) h0] at s2
      have h41 := call41' tg (dg 65536 v) (dg_dig (by decide) h0) (by omega) 10 (by decide) (dgt c) (by simp only [dgt]; omega)
      obtain ⟨t', r1, r2⟩ := call40 (sTag (scd 10 (dg 65536 v) (dgt c))) (scd 10 (dg 65536 v) (dgt c)) (sTag_ok _) (by omega)
      have hlen := tr_len (scd 10 (dg 65536 v) (dgt c))
      rw [tr_eq (by decide) s1, s2] at r1 r2 hlen
      obtain ⟨tg', y4, y5, y9, y10, y11, q1, q2, ih⟩ := ih (10 * v + dgt c) t' (.iv (.int .u8 c.toNat)) (.iv (.bool true)) (.iv (.bool false)) (by omega) (by simp only [dgt]; omega) (by omega) r1
      refine ⟨tg', y4, y5, y9, y10, y11, q1, by rw [hc, Bool.true_and]; exact q2, loop_at K _ _ t12L0.eq_1 ?_⟩
      rw [hc, Bool.true_and]
      generalize ((b.drop (i + 1)).all isD) = A at *
      generalize fdec (10 * v + dgt c) (b.drop (i + 1)) = w at *
      generalize scd 10 (dg 65536 v) (dgt c) = E at *
      generalize dg 65536 (10 * v + dgt c) = F at *
      simp only [dgt] at h41
      simp (config := { maxSteps := 4000000 }) (disch := omega) only [go_sem, Nat.reduceAdd, Nat.reduceSub, Nat.reduceLT, Nat.reduceLeDiff, Nat.reduceEqDiff, Nat.reduceBEq, reduceIte, reduceCtorEq, Int.reduceEq, Int.reduceLT, Int.reduceLE, Int.reduceAdd, Int.reduceSub, Int.reduceMul, Int.reduceToNat, Int.reduceNeg, Int.reduceBEq, Int.reducePow, Nat.reducePow, hix, wrap_i64, wrap_u8, wrap_u32, cpR_pure h41, r2]
      exact congrArg er ih
    · have hcf : isD c = false := by simpa using hc
      rw [hcf, Bool.false_and]
      simp only [isD, Bool.and_eq_true, decide_eq_true_eq] at hc
      simp only [Bool.false_eq_true, ↓reduceIte]
      by_cases h48 : (c.toNat : Int) < 48
      · refine ⟨sTag _, ?_, ?_, ?_, ?_, ?_, sTag_ok _, fun q => q.elim, loop_at K _ _ t12L0.eq_1 ?_⟩
        rotate_left 5
        · simp (config := { maxSteps := 4000000 }) (disch := omega) only [go_sem, Nat.reduceAdd, Nat.reduceSub, Nat.reduceLT, Nat.reduceLeDiff, Nat.reduceEqDiff, Nat.reduceBEq, reduceIte, reduceCtorEq, Int.reduceEq, Int.reduceLT, Int.reduceLE, Int.reduceAdd, Int.reduceSub, Int.reduceMul, Int.reduceToNat, Int.reduceNeg, Int.reduceBEq, Int.reducePow, Nat.reducePow, hix, h48, wrap_i64]
          rfl
      · refine ⟨sTag _, ?_, ?_, ?_, ?_, ?_, sTag_ok _, fun q => q.elim, loop_at K _ _ t12L0.eq_1 ?_⟩
        rotate_left 5
        · simp (config := { maxSteps := 4000000 }) (disch := omega) only [go_sem, Nat.reduceAdd, Nat.reduceSub, Nat.reduceLT, Nat.reduceLeDiff, Nat.reduceEqDiff, Nat.reduceBEq, reduceIte, reduceCtorEq, Int.reduceEq, Int.reduceLT, Int.reduceLE, Int.reduceAdd, Int.reduceSub, Int.reduceMul, Int.reduceToNat, Int.reduceNeg, Int.reduceBEq, Int.reducePow, Nat.reducePow, hix, h48, wrap_i64]
          rfl
