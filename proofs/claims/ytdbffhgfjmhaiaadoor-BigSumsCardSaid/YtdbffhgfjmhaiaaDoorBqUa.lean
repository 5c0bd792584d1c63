/- The laws' loops that write. Condition: none. -/
import Derived.Test.YtdbffhgfjmhaiaaDoorBqZ
import Derived.Test.YtdbffhgfjmhaiaaDoorBqW
set_option maxRecDepth 100000
set_option maxHeartbeats 4000000
set_option linter.unusedSimpArgs false
set_option linter.unusedVariables false
namespace Go.Proofs.YtdbffhgfjmhaiaaDoor
open Go Go.TM
theorem set_mslV {S : Store} {j v : Nat} {b : Bool} {f : Int → IV} {C : List Int} {i : Nat} (hf : ∀ n, isRefL (.iv (f n)) = false) (h : S[j]? = some (.cells v b (cellsF f C))) (hi : i < C.length) (n : Int) (env : Env) : setCells env S (.ptr j v i) [.iv (f n)] = some (env, S.set j (.cells v b (cellsF f (C.set i n)))) := by
  rw [← put_cellsF f C i n hi]
  simp only [setCells, List.any_cons, hf, List.any_nil, Bool.or_self, Bool.false_eq_true, ↓reduceIte, h, cellsF_len, List.length_cons, List.length_nil, Nat.zero_add, true_and, show i + 1 ≤ C.length by omega]
theorem loop6b {P : Nat → Prop} (n : Bool) (w : TV) (js : Nat) (hjs : ¬ P js) (x0 x1 x2 x3 x4 x5 x6 x8 x9 x11 x12 x13 x15 : TV) (L : Nat) (hL : L ≤ 1000000) : ∀ (k i : Nat) (T : Store) (l : List Int) (c : TV), i + k = L → l.length = L → T[js]? = some (.cells 26 false [.iv (.bool n), w]) → DV true P T w l →
    ∃ T' c', (∀ j, ¬ P j → T'[j]? = T[j]?) ∧ lp' (lim K) t6L1 [x0, x1, x2, x3, x4, x5, x6, .ptr js 26 0, x8, x9, .iv (.int .i64 i), x11, x12, x13, c, x15] T = .ret (.exit 0, [x0, x1, x2, x3, x4, x5, x6, .ptr js 26 0, x8, x9, .iv (.int .i64 L), x11, x12, x13, c', x15], T')
  | 0, i, T, l, c, h, hl, hT, hw => by
    obtain rfl : i = L := by omega
    refine ⟨T, ?_, fun _ _ => rfl, loop_at K _ _ t6L1.eq_1 ?_⟩
    rotate_left
    · simp (config := { maxSteps := 4000000 }) (disch := omega) only [go_sem, Nat.reduceAdd, Nat.reduceSub, Nat.reduceMul, Nat.reduceLT, Nat.reduceLeDiff, Nat.reduceEqDiff, Nat.reduceBEq, reduceIte, reduceCtorEq, List.replicate, List.cons_append, List.nil_append, Int.reduceEq, Int.reduceLT, Int.reduceLE, Int.reduceAdd, Int.reduceSub, Int.reduceMul, Int.reduceToNat, Int.reduceNeg, Int.reduceBEq, Int.reduceBNe, Int.reduceTDiv, Int.reduceTMod, Int.reducePow, Nat.reducePow, decide_true, decide_false, Nat.reduceDiv, Nat.reduceMod, Int.reduceMod, Int.reduceDiv, Int.reduceNe, Int.reduceFDiv, Nat.reduceLeDiff, beq_self_eq_true, decT, decF, ifT, ifF, eqT, eqF, neT, neF, bytesIV_length, one_length, get_cp, get_cp0, hw.pl.loc, hw.pl.nlp, hw.pl.resK, hw.pl.wb, hw.isR, hw.cel, hw.forg, hw.sam, hw.lenA, hT, hl]
      rfl
  | k + 1, i, T, l, c, h, hl, hT, hw => by
    have dv := hw
    cases hw with
    | iv t l _ hm =>
      exfalso
      have := hm rfl
      rw [this] at hl
      simp at hl
      omega
    | ms wi v off len cap b C l hg h1 h2 hP hl2 =>
      have hlen : len = L := by rw [hl2, cells_take, Nat.min_eq_left (by omega)] at hl; exact hl
      have hm := ix_msl (j := wi) (v := v) (off := off) (len := len) (cap := cap) (i := (i : Int)) (by omega)
      rw [Int.toNat_natCast] at hm
      have hset := fun env => set_mslV (S := T) (j := wi) (v := v) (b := b) (f := d16) (C := C) (i := off + i) (fun _ => rfl) hg (by omega) 7 env
      have hne : js ≠ wi := by rintro rfl; exact hjs hP
      obtain ⟨T', c', r1, e⟩ := loop6b n (.msl wi v off len cap 1) js hjs x0 x1 x2 x3 x4 x5 x6 x8 x9 x11 x12 x13 x15 L hL k (i + 1) (T.set wi (.cells v b (cellsF d16 (C.set (off + i) 7)))) (((C.set (off + i) 7).drop off).take len) (.iv (.bool true)) (by omega) (by rw [cells_take, List.length_set, Nat.min_eq_left (by omega), hlen]) (by rw [List.getElem?_set_ne (Ne.symm hne)]; exact hT) (.ms wi v off len cap b _ _ (by rw [List.getElem?_set_self (lt_of_get hg)]) h1 (by rw [List.length_set]; omega) hP rfl)
      refine ⟨T', c', fun j hj => by rw [r1 j hj, List.getElem?_set_ne (by rintro rfl; exact hj hP)], loop_at K _ _ t6L1.eq_1 ?_⟩
      simp only [d16] at hset
      simp (config := { maxSteps := 4000000 }) (disch := omega) only [go_sem, Nat.reduceAdd, Nat.reduceSub, Nat.reduceMul, Nat.reduceLT, Nat.reduceLeDiff, Nat.reduceEqDiff, Nat.reduceBEq, reduceIte, reduceCtorEq, List.replicate, List.cons_append, List.nil_append, Int.reduceEq, Int.reduceLT, Int.reduceLE, Int.reduceAdd, Int.reduceSub, Int.reduceMul, Int.reduceToNat, Int.reduceNeg, Int.reduceBEq, Int.reduceBNe, Int.reduceTDiv, Int.reduceTMod, Int.reducePow, Nat.reducePow, decide_true, decide_false, Nat.reduceDiv, Nat.reduceMod, Int.reduceMod, Int.reduceDiv, Int.reduceNe, Int.reduceFDiv, Nat.reduceLeDiff, beq_self_eq_true, decT, decF, ifT, ifF, eqT, eqF, neT, neF, bytesIV_length, one_length, get_cp, get_cp0, dv.pl.loc, dv.pl.nlp, dv.pl.resK, dv.pl.wb, dv.isR, dv.cel, dv.forg, dv.sam, dv.lenA, hT, hl, hm, wrap_i64, storeV_c, storeC_eq, cellsOf_int, hset]
      exact congrArg er e
theorem loop6c {P : Nat → Prop} (n : Bool) (w : TV) (js : Nat) (hjs : ¬ P js) (x0 x1 x2 x3 x4 x5 x6 x7 x8 x10 x12 x13 x14 : TV) (L : Nat) (hL : L ≤ 1000000) : ∀ (k i : Nat) (T : Store) (l : List Int) (c : TV), i + k = L → l.length = L → T[js]? = some (.cells 26 false [.iv (.bool n), w]) → DV true P T w l →
    ∃ T' c', (∀ j, ¬ P j → T'[j]? = T[j]?) ∧ lp' (lim K) t6L0 [x0, x1, x2, x3, x4, x5, x6, x7, x8, .ptr js 26 0, x10, .iv (.int .i64 i), x12, x13, x14, c] T = .ret (.exit 2, [x0, x1, x2, x3, x4, x5, x6, x7, x8, .ptr js 26 0, x10, .iv (.int .i64 L), x12, x13, x14, c'], T')
  | 0, i, T, l, c, h, hl, hT, hw => by
    obtain rfl : i = L := by omega
    refine ⟨T, ?_, fun _ _ => rfl, loop_at K _ _ t6L0.eq_1 ?_⟩
    rotate_left
    · simp (config := { maxSteps := 4000000 }) (disch := omega) only [go_sem, Nat.reduceAdd, Nat.reduceSub, Nat.reduceMul, Nat.reduceLT, Nat.reduceLeDiff, Nat.reduceEqDiff, Nat.reduceBEq, reduceIte, reduceCtorEq, List.replicate, List.cons_append, List.nil_append, Int.reduceEq, Int.reduceLT, Int.reduceLE, Int.reduceAdd, Int.reduceSub, Int.reduceMul, Int.reduceToNat, Int.reduceNeg, Int.reduceBEq, Int.reduceBNe, Int.reduceTDiv, Int.reduceTMod, Int.reducePow, Nat.reducePow, decide_true, decide_false, Nat.reduceDiv, Nat.reduceMod, Int.reduceMod, Int.reduceDiv, Int.reduceNe, Int.reduceFDiv, Nat.reduceLeDiff, beq_self_eq_true, decT, decF, ifT, ifF, eqT, eqF, neT, neF, bytesIV_length, one_length, get_cp, get_cp0, hw.pl.loc, hw.pl.nlp, hw.pl.resK, hw.pl.wb, hw.isR, hw.cel, hw.forg, hw.sam, hw.lenA, hT, hl]
      rfl
  | k + 1, i, T, l, c, h, hl, hT, hw => by
    have dv := hw
    cases hw with
    | iv t l _ hm =>
      exfalso
      have := hm rfl
      rw [this] at hl
      simp at hl
      omega
    | ms wi v off len cap b C l hg h1 h2 hP hl2 =>
      have hlen : len = L := by rw [hl2, cells_take, Nat.min_eq_left (by omega)] at hl; exact hl
      have hm := ix_msl (j := wi) (v := v) (off := off) (len := len) (cap := cap) (i := (i : Int)) (by omega)
      rw [Int.toNat_natCast] at hm
      have hset := fun env => set_mslV (S := T) (j := wi) (v := v) (b := b) (f := d16) (C := C) (i := off + i) (fun _ => rfl) hg (by omega) 7 env
      have hne : js ≠ wi := by rintro rfl; exact hjs hP
      obtain ⟨T', c', r1, e⟩ := loop6c n (.msl wi v off len cap 1) js hjs x0 x1 x2 x3 x4 x5 x6 x7 x8 x10 x12 x13 x14 L hL k (i + 1) (T.set wi (.cells v b (cellsF d16 (C.set (off + i) 7)))) (((C.set (off + i) 7).drop off).take len) (.iv (.bool true)) (by omega) (by rw [cells_take, List.length_set, Nat.min_eq_left (by omega), hlen]) (by rw [List.getElem?_set_ne (Ne.symm hne)]; exact hT) (.ms wi v off len cap b _ _ (by rw [List.getElem?_set_self (lt_of_get hg)]) h1 (by rw [List.length_set]; omega) hP rfl)
      refine ⟨T', c', fun j hj => by rw [r1 j hj, List.getElem?_set_ne (by rintro rfl; exact hj hP)], loop_at K _ _ t6L0.eq_1 ?_⟩
      simp only [d16] at hset
      simp (config := { maxSteps := 4000000 }) (disch := omega) only [go_sem, Nat.reduceAdd, Nat.reduceSub, Nat.reduceMul, Nat.reduceLT, Nat.reduceLeDiff, Nat.reduceEqDiff, Nat.reduceBEq, reduceIte, reduceCtorEq, List.replicate, List.cons_append, List.nil_append, Int.reduceEq, Int.reduceLT, Int.reduceLE, Int.reduceAdd, Int.reduceSub, Int.reduceMul, Int.reduceToNat, Int.reduceNeg, Int.reduceBEq, Int.reduceBNe, Int.reduceTDiv, Int.reduceTMod, Int.reducePow, Nat.reducePow, decide_true, decide_false, Nat.reduceDiv, Nat.reduceMod, Int.reduceMod, Int.reduceDiv, Int.reduceNe, Int.reduceFDiv, Nat.reduceLeDiff, beq_self_eq_true, decT, decF, ifT, ifF, eqT, eqF, neT, neF, bytesIV_length, one_length, get_cp, get_cp0, dv.pl.loc, dv.pl.nlp, dv.pl.resK, dv.pl.wb, dv.isR, dv.cel, dv.forg, dv.sam, dv.lenA, hT, hl, hm, wrap_i64, storeV_c, storeC_eq, cellsOf_int, hset]
      exact congrArg er e
end Go.Proofs.YtdbffhgfjmhaiaaDoor
