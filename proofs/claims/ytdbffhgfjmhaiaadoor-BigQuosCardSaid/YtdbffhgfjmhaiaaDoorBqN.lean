/- The contract of divided: the digits' loop. Condition: none. -/
import Derived.Test.YtdbffhgfjmhaiaaDoorBqM
set_option maxRecDepth 100000
set_option maxHeartbeats 2000000
set_option linter.unusedSimpArgs false
set_option linter.unusedVariables false
namespace Go.Proofs.YtdbffhgfjmhaiaaDoor
open Go Go.TM
theorem slice_msl (T : Store) {i v N k m : Nat} {b : Bool} {cs : List TV} (h : T[i]? = some (.cells v b cs)) (hk : k + m ≤ N) (hm : 0 < m) : sliceOp T (.sl 1) (.msl i v 0 N N 1) (some (k : Int)) (some ((k : Int) + m)) none = some (.msl i v k m (N - k) 1) := by
  have hb := bounds_sub (len := N) (cap := N) (a := (k : Int)) (n := (k : Int) + m) (by omega)
  rw [Int.toNat_natCast, show ((k : Int) + m).toNat = k + m by omega] at hb
  simp only [sliceOp, verOk_cells h, hb, ne_eq, not_true_eq_false, Bool.true_eq_false, or_self, if_false]
  rw [if_neg (by omega), Nat.zero_add, Nat.mul_one, Nat.add_sub_cancel_left]
theorem loop61b {my : Bool} {S : Store} {yv : TV} {Y : List Int} (dY : Dig 65536 Y) (n : Nat) (hn : Y.length = n + 1) (hyt : 32768 ≤ Y.getD n default) (lY : Y.length ≤ 900) (xi qi vx : Nat) (hxi : S.length ≤ xi) (hqi : S.length ≤ qi) (hxq : xi ≠ qi) (x0 x1 x3 x4 : TV) (bx bq : Bool) (N q : Nat) (hN : N = q + (n + 1)) (lN : N ≤ 2000) (A : Int) : ∀ (k : Nat) (R : Store) (X Q : List Int) (x9 x10 x11 x12 x13 x14 : TV), k ≤ q → Dig 65536 X → X.length = N → Dig 65536 Q → Q.length = q → (S ++ R)[xi]? = some (.cells vx bx (cellsF d16 X)) → (S ++ R)[qi]? = some (.cells 0 bq (cellsF d16 Q)) → DV my (fun j => j ≠ xi ∧ j ≠ qi) (S ++ R) yv Y → val 65536 (X.drop k) < val 65536 Y → (∀ j, j < k → Q.getD j default = 0) → val 65536 X + val 65536 Y * val 65536 Q = A →
    ∃ R' X' Q' y9 y10 y11 y12 y13 y14, Dig 65536 X' ∧ X'.length = N ∧ Dig 65536 Q' ∧ Q'.length = q ∧ (S ++ R')[xi]? = some (.cells vx bx (cellsF d16 X')) ∧ (S ++ R')[qi]? = some (.cells 0 bq (cellsF d16 Q')) ∧ val 65536 X' < val 65536 Y ∧ val 65536 X' + val 65536 Y * val 65536 Q' = A ∧
    lp' (lim K) t61L1 [x0, x1, .msl qi 0 0 q q 1, x3, x4, .msl xi vx 0 N N 1, yv, .iv (.int .i64 Y.length), .iv (.int .i64 ((k : Int) - 1)), x9, x10, x11, x12, x13, x14] (S ++ R) = .ret (.exit 2, [x0, x1, .msl qi 0 0 q q 1, x3, x4, .msl xi vx 0 N N 1, yv, .iv (.int .i64 Y.length), .iv (.int .i64 (-1)), y9, y10, y11, y12, y13, y14], S ++ R')
  | 0, R, X, Q, x9, x10, x11, x12, x13, x14, hk, dX, lX, dQ, lQ, hx, hq, hy, hV, hz, hA => by
    rw [List.drop_zero] at hV
    refine ⟨R, X, Q, ?_, ?_, ?_, ?_, ?_, ?_, dX, lX, dQ, lQ, hx, hq, hV, hA, loop_at K _ _ t61L1.eq_1 ?_⟩
    rotate_left 6
    · simp (disch := omega) only [go_sem, Nat.reduceAdd, Nat.reduceSub, Nat.reduceLT, Nat.reduceLeDiff, Nat.reduceEqDiff, Nat.reduceBEq, reduceIte, reduceCtorEq, Int.reduceEq, Int.reduceLT, Int.reduceLE, Int.reduceAdd, Int.reduceSub, Int.reduceMul, Int.reduceToNat, Int.reduceNeg, Int.reduceBEq, Int.reducePow, Nat.reducePow]
      rfl
  | k + 1, R, X, Q, x9, x10, x11, x12, x13, x14, hk, dX, lX, dQ, lQ, hx, hq, hy, hV, hz, hA => by
    have hyp : 0 < val 65536 Y := by
      have h1 := val_top dY n hn
      have h2 := val_nonneg (B := 65536) (by decide) (dY.take n)
      have h4 := pow_pos' (B := 65536) (by decide) n
      have h3 := Int.mul_le_mul_of_nonneg_left (show 1 ≤ Y.getD n default by omega) (Int.le_of_lt h4)
      omega
    obtain ⟨w1, w2, w3, w4⟩ := guess_math dX dY hn (k := k) (by omega) (by omega) hV
    have hxd : DV true (fun j => j = xi) (S ++ R) (.msl xi vx 0 N N 1) X := .ms _ _ _ _ _ bx X X hx (Nat.le_refl _) (by omega) rfl (by rw [List.drop_zero, List.take_of_length_le (by omega)])
    have gy := dY.getD (i := n) (by omega)
    have g1 := dX.getD (i := k + (n + 1)) (by omega)
    have g2 := dX.getD (i := k + n) (by omega)
    have hW0 : 0 ≤ val 65536 ((X.drop k).take (n + 2)) := val_nonneg (by decide) ((dX.drop k).take _)
    have hQ0 : 0 ≤ val 65536 ((X.drop k).take (n + 2)) / val 65536 Y := Int.ediv_nonneg hW0 (by omega)
    have hYn : (Y.length : Int) = (n : Int) + 1 := by omega
    obtain ⟨p1, i1, i1'⟩ := hxd.idx (i := (k : Int) + (Y.length : Int)) (by omega)
    obtain ⟨p2, i2, i2'⟩ := hxd.idx (i := (k : Int) + (Y.length : Int) - 1) (by omega)
    obtain ⟨p3, i3, i3'⟩ := hy.idx (i := (Y.length : Int) - 1) (by omega)
    rw [show ((k : Int) + (Y.length : Int)).toNat = k + (n + 1) by omega] at i1'
    rw [show ((k : Int) + (Y.length : Int) - 1).toNat = k + n by omega] at i2'
    rw [show ((Y.length : Int) - 1).toNat = n by omega] at i3'
    obtain ⟨g, hg⟩ : ∃ g, g = if 65535 < (65536 * X.getD (k + (n + 1)) default + X.getD (k + n) default) / Y.getD n default then 65535 else (65536 * X.getD (k + (n + 1)) default + X.getD (k + n) default) / Y.getD n default := ⟨_, rfl⟩
    have hg1 : g ≤ 65535 ∧ val 65536 ((X.drop k).take (n + 2)) / val 65536 Y ≤ g := by
      rw [hg]; split <;> omega
    have td : (65536 * X.getD (k + (n + 1)) default + X.getD (k + n) default).tdiv (Y.getD n default) = (65536 * X.getD (k + (n + 1)) default + X.getD (k + n) default) / Y.getD n default := tdiv_nn (by omega)
    have hdiv : 0 ≤ (65536 * X.getD (k + (n + 1)) default + X.getD (k + n) default) / Y.getD n default ∧ (65536 * X.getD (k + (n + 1)) default + X.getD (k + n) default) / Y.getD n default ≤ 4294967295 := by
      refine ⟨Int.ediv_nonneg (by omega) (by omega), ?_⟩
      have := Int.ediv_le_self (a := 65536 * X.getD (k + (n + 1)) default + X.getD (k + n) default) (Y.getD n default) (by omega)
      omega
    have hor := u32_or16 (r := X.getD (k + (n + 1)) default) (a := X.getD (k + n) default) (by omega) (by omega)
    have hsh := shl16c (r := X.getD (k + (n + 1)) default) (by omega)
    obtain ⟨kk, hkk⟩ : ∃ kk : Nat, g - val 65536 ((X.drop k).take (n + 2)) / val 65536 Y = kk := ⟨(g - val 65536 ((X.drop k).take (n + 2)) / val 65536 Y).toNat, by omega⟩
    have hYl : Y.length + 1 = n + 2 := by omega
    obtain ⟨R1, z14, e⟩ := loop61a (xv := .msl xi vx 0 N N 1) (yv := yv) dX dY hyp (by omega) k (by omega) x0 x1 (.msl qi 0 0 q q 1) x3 x4 (.iv (.int .u32 (65536 * X.getD (k + (n + 1)) default + X.getD (k + n) default))) x11 x12 (.iv (.bool true)) kk (S ++ R) g x14 hxd hy hg1.1 (by rw [hYl]; exact hkk)
    rw [hYl] at e
    obtain ⟨T1, hT1⟩ : ∃ T1, T1 = S ++ R ++ R1 := ⟨_, rfl⟩
    have hx1 : T1[xi]? = some (.cells vx bx (cellsF d16 X)) := by rw [hT1, List.getElem?_append_left (lt_of_get hx)]; exact hx
    have hq1 : T1[qi]? = some (.cells 0 bq (cellsF d16 Q)) := by rw [hT1, List.getElem?_append_left (lt_of_get hq)]; exact hq
    have hy1 := hy.app R1
    rw [← hT1] at e hy1
    have hQm := Int.ediv_mul_le (val 65536 ((X.drop k).take (n + 2))) (show val 65536 Y ≠ 0 by omega)
    have hQm2 := Int.lt_ediv_add_one_mul_self (val 65536 ((X.drop k).take (n + 2))) hyp
    rw [w1] at e hQ0 w3 hQm hQm2
    have hdW : Dig 65536 ((X.drop k).take (n + 2)) := (dX.drop k).take _
    have hlW : ((X.drop k).take (n + 2)).length = n + 2 := by rw [cells_take]; omega
    obtain ⟨G, hG⟩ : ∃ G, G = val 65536 (X.drop k) / val 65536 Y := ⟨_, rfl⟩
    rw [← hG] at e hQ0 w3 hQm hQm2
    obtain ⟨out, o1, o2, o3, h41⟩ := scaledV hy1 dY (by omega) G (by omega) 0 (by omega)
    obtain ⟨tv, ht, h40⟩ := trimV (aM_dv T1 out) (by omega)
    have hsl := fun T (h : T[xi]? = some (.cells vx bx (cellsF d16 X))) => slice_msl T (N := N) (k := k) (m := n + 2) h (by omega) (by omega)
    rw [show (k : Int) + ((n + 2 : Nat) : Int) = (k : Int) + (Y.length : Int) + 1 by omega] at hsl
    obtain ⟨R2, hR2⟩ := aS_app T1 out
    have pm := aM_dv T1 out
    rw [hR2] at h41 h40 ht pm
    obtain ⟨T2, hT2⟩ : ∃ T2, T2 = T1 ++ R2 := ⟨_, rfl⟩
    rw [← hT2] at h41 h40 ht pm
    have hx2 : T2[xi]? = some (.cells vx bx (cellsF d16 X)) := by rw [hT2, List.getElem?_append_left (lt_of_get hx1)]; exact hx1
    have hq2 : T2[qi]? = some (.cells 0 bq (cellsF d16 Q)) := by rw [hT2, List.getElem?_append_left (lt_of_get hq1)]; exact hq1
    have hy2 := hy1.app R2
    rw [← hT2] at hy2
    have hzd : DV true (fun j => j = xi) T2 (.msl xi vx k (n + 2) (N - k) 1) ((X.drop k).take (n + 2)) := .ms _ _ _ _ _ bx X _ hx2 (by omega) (by omega) rfl rfl
    have ltr := tr_len out
    obtain ⟨out2, q1, q2, q3, h55⟩ := lessV hzd ht hdW o1.tr (by omega) (by omega) (by rw [val_tr, o3, w1]; omega)
    rw [val_tr, o3, w1, Int.add_zero] at q3
    obtain ⟨R3, hR3⟩ := aS_app T2 out2
    have pm2 := aM_dv T2 out2
    rw [hR3] at h55 pm2
    obtain ⟨T3, hT3⟩ : ∃ T3, T3 = T2 ++ R3 := ⟨_, rfl⟩
    rw [← hT3] at h55 pm2
    have hx3 : T3[xi]? = some (.cells vx bx (cellsF d16 X)) := by rw [hT3, List.getElem?_append_left (lt_of_get hx2)]; exact hx2
    have hq3 : T3[qi]? = some (.cells 0 bq (cellsF d16 Q)) := by rw [hT3, List.getElem?_append_left (lt_of_get hq2)]; exact hq2
    have hy3 := hy2.app R3
    rw [← hT3] at hy3
    have hcp := copy_ms pm2 (by intro h; rw [h] at q2; rw [hlW] at q2; simp at q2) (i := xi) (v := vx) (off := k) (len := n + 2) (cap := N - k) hx3 (by rw [q2, hlW]) (by omega)
    obtain ⟨m1, m2, m3, m4⟩ := rest_math dX (k := k) (m := n + 2) (v := G * val 65536 Y) (by omega) (by rw [q2, hlW]) q1 w2 q3
    obtain ⟨X', hX'⟩ : ∃ X', X' = X.take k ++ out2 ++ X.drop (k + (n + 2)) := ⟨_, rfl⟩
    rw [← hX'] at hcp m1 m2 m3 m4
    obtain ⟨T4, hT4⟩ : ∃ T4, T4 = T3.set xi (.cells vx bx (cellsF d16 X')) := ⟨_, rfl⟩
    rw [← hT4] at hcp
    have hx4 : T4[xi]? = some (.cells vx bx (cellsF d16 X')) := by rw [hT4, List.getElem?_set_self (lt_of_get hx3)]
    have hq4 : T4[qi]? = some (.cells 0 bq (cellsF d16 Q)) := by rw [hT4, List.getElem?_set_ne hxq]; exact hq3
    have hy4 := hy3.set xi (.cells vx bx (cellsF d16 X')) (by simp)
    rw [← hT4] at hy4
    have hset := fun env => set_mslF (S := T4) (j := qi) (f := d16) (C := Q) (i := k) (fun _ => rfl) hq4 (by omega) G env
    obtain ⟨T5, hT5⟩ : ∃ T5, T5 = T4.set qi (.cells 0 bq (cellsF d16 (Q.set k G))) := ⟨_, rfl⟩
    rw [← hT5] at hset
    have hx5 : T5[xi]? = some (.cells vx bx (cellsF d16 X')) := by rw [hT5, List.getElem?_set_ne (Ne.symm hxq)]; exact hx4
    have hq5 : T5[qi]? = some (.cells 0 bq (cellsF d16 (Q.set k G))) := by rw [hT5, List.getElem?_set_self (lt_of_get hq4)]
    have hy5 := hy4.set qi (.cells 0 bq (cellsF d16 (Q.set k G))) (by simp)
    rw [← hT5] at hy5
    obtain ⟨R5, hR5⟩ : ∃ R5, T5 = S ++ R5 := by
      rw [hT5, hT4, hT3, hT2, hT1]
      simp only [List.append_assoc]
      rw [set_app _ _ _ _ hxi, set_app _ _ _ _ hqi]
      exact ⟨_, rfl⟩
    have hvq := val_set 65536 Q k G (by omega)
    rw [hz k (by omega), Int.sub_zero] at hvq
    rw [hR5] at hx5 hq5 hy5
    obtain ⟨R', X'', Q'', y9, y10, y11, y12, y13, y14, f1, f2, f3, f4, f5, f6, f7, f8, ih⟩ := loop61b dY n hn hyt lY xi qi vx hxi hqi hxq x0 x1 x3 x4 bx bq N q hN lN A k R5 X' (Q.set k G) (.iv (.int .u32 (65536 * X.getD (k + (n + 1)) default + X.getD (k + n) default))) (.iv (.int .u32 G)) (aM T2 out2) x12 (.iv (.bool true)) z14 (by omega) m1 (by rw [m2, lX]) (dQ.set k (by omega)) (by rw [List.length_set, lQ]) hx5 hq5 hy5 (by rw [m4]; rw [Int.add_mul, Int.one_mul] at hQm2; omega) (by
      intro j hj
      rw [getD_set_ne (by omega), hz j (by omega)]) (by
      rw [m3, hvq, Int.mul_add, ← hA]
      have e1 : val 65536 Y * (65536 ^ k * G) = 65536 ^ k * (G * val 65536 Y) := by
        rw [Int.mul_left_comm, Int.mul_comm G]
      rw [e1]; omega)
    refine ⟨R', X'', Q'', y9, y10, y11, y12, y13, y14, f1, f2, f3, f4, f5, f6, f7, f8, loop_at K _ _ t61L1.eq_1 ?_⟩
    have hmq := ix_msl (j := qi) (v := 0) (off := 0) (len := q) (cap := q) (i := (k : Int)) (by omega)
    rw [Int.toNat_natCast, Nat.zero_add] at hmq
    have e1 : ((k : Int) + 1 - 1) = k := by omega
    have s1 := hsl T1 hx1
    have s2 := hsl T2 hx2
    have s3 := hsl T3 hx3
    have hy0 : ¬ Y.getD n default = 0 := by omega
    simp only [d16] at hset
    have hwd : IntKind.u32.wrap ((65536 * X.getD (k + (n + 1)) default + X.getD (k + n) default) / Y.getD n default) = (65536 * X.getD (k + (n + 1)) default + X.getD (k + n) default) / Y.getD n default := wrap_u32 hdiv
    have hg' := hg.symm
    clear hdiv hg
    generalize X.getD (k + (n + 1)) default = a1 at *
    generalize X.getD (k + n) default = a2 at *
    generalize Y.getD n default = yt at *
    simp (config := { maxSteps := 4000000 }) (disch := omega) only [go_sem, Nat.reduceAdd, Nat.reduceSub, Nat.reduceLT, Nat.reduceLeDiff, Nat.reduceEqDiff, Nat.reduceBEq, reduceIte, reduceCtorEq, Int.reduceEq, Int.reduceLT, Int.reduceLE, Int.reduceAdd, Int.reduceSub, Int.reduceMul, Int.reduceToNat, Int.reduceNeg, Int.reduceBEq, Int.reducePow, Nat.reducePow, hy.pl.loc, hy.pl.nlp, hy.pl.resK, hy.pl.wb, hy.isR, hy.cel, hy.forg, hy.sam, hy.lenA, pm.pl.loc, pm.pl.nlp, pm.pl.resK, pm.pl.wb, pm.isR, pm.cel, pm.forg, pm.sam, pm.lenA, ht.pl.loc, ht.pl.nlp, ht.pl.resK, ht.pl.wb, ht.isR, ht.cel, ht.forg, ht.sam, ht.lenA, pm2.pl.loc, pm2.pl.nlp, pm2.pl.resK, pm2.pl.wb, pm2.isR, pm2.cel, pm2.forg, pm2.sam, pm2.lenA, Int.natCast_add, Int.cast_ofNat_Int, e1, i1, i1', i2, i2', i3, i3', wrap_i64, wrap_u32, hsh, hor, td, hy0, min_u32, hwd, hg', e, s1, s2, s3, h41, h40, h55, hcp, hmq, hset, wrap_u16, storeV_c, storeC_eq, cellsOf_int, hR5]
    exact congrArg er ih
end Go.Proofs.YtdbffhgfjmhaiaaDoor
