/- The laws' loops that write. Condition: none. -/
import Derived.Test.YtdbffhgfjmhaiaaDoorBqV
import Derived.Test.YtdbffhgfjmhaiaaDoorBqW
set_option maxRecDepth 100000
set_option maxHeartbeats 4000000
set_option linter.unusedSimpArgs false
set_option linter.unusedVariables false
namespace Go.Proofs.YtdbffhgfjmhaiaaDoor
open Go Go.TM
theorem set_mslV {S : Store} {j v : Nat} {b : Bool} {f : Int → IV} {C : List Int} {i : Nat} (hf : ∀ n, isRefL (.iv (f n)) = false) (h : S[j]? = some (.cells v b (cellsF f C))) (hi : i < C.length) (n : Int) (env : Env) : setCells env S (.ptr j v i) [.iv (f n)] = some (env, S.set j (.cells v b (cellsF f (C.set i n)))) := by
  rw [← put_cellsF f C i n hi]
  simp only [setCells, List.any_cons, hf, List.any_nil, Bool.or_self, Bool.false_eq_true, ↓reduceIte, h, cellsF_len, List.length_cons, List.length_nil, Nat.zero_add, true_and, show i + 1 ≤ C.length by omega]
theorem loop8a {P : Nat → Prop} (n : Bool) (w : TV) (x0 x1 x2 x3 x4 x5 x6 x7 x9 x10 x11 x12 x13 x15 x16 : TV) (L : Nat) (hL : L ≤ 1000000) : ∀ (k i : Nat) (T : Store) (l : List Int) (c : TV), i + k = L → l.length = L → DV true P T w l →
    ∃ T' c', (∀ j, ¬ P j → T'[j]? = T[j]?) ∧ lp' (lim K) t8L0 [x0, x1, x2, x3, x4, x5, x6, x7, .lb [.iv (.bool n), w], x9, x10, x11, x12, x13, .iv (.int .i64 i), x15, x16, c] T = .ret (.exit 0, [x0, x1, x2, x3, x4, x5, x6, x7, .lb [.iv (.bool n), w], x9, x10, x11, x12, x13, .iv (.int .i64 L), x15, x16, c'], T')
  | 0, i, T, l, c, h, hl, hw => by
    obtain rfl : i = L := by omega
    refine ⟨T, ?_, fun _ _ => rfl, loop_at K _ _ t8L0.eq_1 ?_⟩
    rotate_left
    · simp (config := { maxSteps := 4000000 }) (disch := omega) only [go_sem, Nat.reduceAdd, Nat.reduceSub, Nat.reduceLT, Nat.reduceLeDiff, Nat.reduceEqDiff, Nat.reduceBEq, reduceIte, reduceCtorEq, Int.reduceEq, Int.reduceLT, Int.reduceLE, Int.reduceAdd, Int.reduceSub, Int.reduceMul, Int.reduceToNat, Int.reduceNeg, Int.reduceBEq, Int.reducePow, Nat.reducePow, hw.pl.loc, hw.pl.nlp, hw.pl.resK, hw.pl.wb, hw.isR, hw.cel, hw.forg, hw.sam, hw.lenA, hl]
      rfl
  | k + 1, i, T, l, c, h, hl, hw => by
    have dv := hw
    cases hw with
    | iv t l _ hm =>
      exfalso
      have := hm rfl
      rw [this] at hl
      simp at hl
      omega
    | ms wi v off len cap b C l hg h1 h2 hP hl2 =>
      have hlen : len = L := by rw [hl2, cells_take, Nat.min_eq_left (by omega)] at hl; exact hl
      have hm := ix_msl (j := wi) (v := v) (off := off) (len := len) (cap := cap) (i := (i : Int)) (by omega)
      rw [Int.toNat_natCast] at hm
      have hset := fun env => set_mslV (S := T) (j := wi) (v := v) (b := b) (f := d16) (C := C) (i := off + i) (fun _ => rfl) hg (by omega) 7 env
      obtain ⟨T', c', r1, e⟩ := loop8a n (.msl wi v off len cap 1) x0 x1 x2 x3 x4 x5 x6 x7 x9 x10 x11 x12 x13 x15 x16 L hL k (i + 1) (T.set wi (.cells v b (cellsF d16 (C.set (off + i) 7)))) (((C.set (off + i) 7).drop off).take len) (.iv (.bool true)) (by omega) (by rw [cells_take, List.length_set, Nat.min_eq_left (by omega), hlen]) (.ms wi v off len cap b _ _ (by rw [List.getElem?_set_self (lt_of_get hg)]) h1 (by rw [List.length_set]; omega) hP rfl)
      refine ⟨T', c', fun j hj => by rw [r1 j hj, List.getElem?_set_ne (by rintro rfl; exact hj hP)], loop_at K _ _ t8L0.eq_1 ?_⟩
      simp only [d16] at hset
      simp (config := { maxSteps := 4000000 }) (disch := omega) only [go_sem, Nat.reduceAdd, Nat.reduceSub, Nat.reduceLT, Nat.reduceLeDiff, Nat.reduceEqDiff, Nat.reduceBEq, reduceIte, reduceCtorEq, Int.reduceEq, Int.reduceLT, Int.reduceLE, Int.reduceAdd, Int.reduceSub, Int.reduceMul, Int.reduceToNat, Int.reduceNeg, Int.reduceBEq, Int.reducePow, Nat.reducePow, dv.pl.loc, dv.pl.nlp, dv.pl.resK, dv.pl.wb, dv.isR, dv.cel, dv.forg, dv.sam, dv.lenA, hl, hm, wrap_i64, storeV_c, storeC_eq, cellsOf_int, hset]
      exact congrArg er e
theorem len_lt {z : Int} {k : Nat} (h : (z.natAbs : Int) < 65536 ^ k) : (dg 65536 z.natAbs).length ≤ k := dg_len (by decide) k _ (by omega) h
theorem pow_10 (k : Nat) : (65536 : Int) ^ k ≤ 10 ^ (5 * k) := by
  rw [Int.pow_mul]
  induction k with
  | zero => simp
  | succ k ih =>
    rw [Int.pow_succ, Int.pow_succ]
    have p1 := pow_pos' (B := 65536) (by decide) k
    have e1 := Int.mul_le_mul_of_nonneg_right ih (show (0 : Int) ≤ 65536 by decide)
    have p2 : (0 : Int) < (10 ^ 5) ^ k := Int.pow_pos (by decide)
    have e2 := Int.mul_le_mul_of_nonneg_left (show (65536 : Int) ≤ 10 ^ 5 by decide) (Int.le_of_lt p2)
    omega
theorem len_lt10 {z : Int} {k : Nat} (h : (z.natAbs : Int) < 65536 ^ k) : (dg 10 z.natAbs).length ≤ 5 * k := dg_len (by decide) (5 * k) _ (by omega) (by have := pow_10 k; omega)
theorem agT_lpis {x : TV} (h : Pl x) (n : Bool) (j : Nat) : lpIs j (agT n x) = false := by
  rcases h with ⟨v, rfl⟩ | ⟨a, b, c, d, e, f, rfl⟩ <;> rfl
end Go.Proofs.YtdbffhgfjmhaiaaDoor
