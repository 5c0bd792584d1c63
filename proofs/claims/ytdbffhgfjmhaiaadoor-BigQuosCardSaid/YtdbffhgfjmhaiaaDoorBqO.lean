/- The contract of divided. Condition: none. -/
import Derived.Test.YtdbffhgfjmhaiaaDoorBqN
set_option maxRecDepth 100000
set_option maxHeartbeats 2000000
set_option linter.unusedSimpArgs false
set_option linter.unusedVariables false
namespace Go.Proofs.YtdbffhgfjmhaiaaDoor
open Go Go.TM
theorem aM_ne (S : Store) {C : List Int} (h : C ≠ []) : aM S C = .msl S.length (C.length - 1) 0 C.length C.length 1 := by rw [aM, if_neg h]
theorem aS_ne (S : Store) {C : List Int} (h : C ≠ []) : aS S C = S ++ [.cells (C.length - 1) true (cellsF d16 C)] := by rw [aS, if_neg h]
theorem moved {b Y : List Int} (db : Dig 65536 b) (dY : Dig 65536 Y) (hY : tr Y = Y) {m s : Nat} (hm : b.length = m + 1) (h1 : 1 ≤ b.getD m default) (hs : s ≤ 15) (h2 : 32768 ≤ b.getD m default * 2 ^ s) (h3 : b.getD m default * 2 ^ s < 65536) (hv : val 65536 Y = 2 ^ s * val 65536 b) : Y.length = m + 1 ∧ 32768 ≤ Y.getD m default := by
  have t1 := val_top db m hm
  have t2 := val_nonneg (B := 65536) (by decide) (db.take m)
  have t3 := val_lt (B := 65536) (by decide) (db.take m)
  rw [take_len (by omega)] at t3
  have p := pow_pos' (B := 65536) (by decide) m
  have p2 := pow2_pos s
  have e16 : (2 : Int) ^ s * 2 ^ (16 - s) = 65536 := by
    rw [← Int.pow_add, show s + (16 - s) = 16 by omega]; decide
  generalize b.getD m default = bt at *
  have hP : (65536 : Int) ^ (m + 1) = 65536 ^ m * 65536 := Int.pow_succ ..
  obtain ⟨P, hPm⟩ : ∃ P, P = (65536 : Int) ^ m := ⟨_, rfl⟩
  rw [← hPm] at t1 t3 p hP
  have hb1 : bt + 1 ≤ 2 ^ (16 - s) := by
    have : bt * 2 ^ s < 2 ^ (16 - s) * 2 ^ s := by rw [Int.mul_comm (2 ^ (16 - s)), e16]; exact h3
    have := Int.lt_of_mul_lt_mul_right this (Int.le_of_lt p2)
    omega
  have hlo : P * 32768 ≤ val 65536 Y := by
    have e1 : P * 32768 ≤ P * (bt * 2 ^ s) := Int.mul_le_mul_of_nonneg_left h2 (Int.le_of_lt p)
    have e2 : 2 ^ s * (P * bt) ≤ 2 ^ s * val 65536 b := Int.mul_le_mul_of_nonneg_left (by omega) (Int.le_of_lt p2)
    have e3 : (2 : Int) ^ s * (P * bt) = P * (bt * 2 ^ s) := by rw [Int.mul_left_comm, Int.mul_comm (2 ^ s) bt]
    omega
  have hhi : val 65536 Y < P * 65536 := by
    have e1 : val 65536 b < P * (bt + 1) := by rw [Int.mul_add, Int.mul_one]; omega
    have e2 : 2 ^ s * val 65536 b < 2 ^ s * (P * (bt + 1)) := Int.mul_lt_mul_of_pos_left e1 p2
    have e3 : (2 : Int) ^ s * (P * (bt + 1)) = P * (2 ^ s * (bt + 1)) := Int.mul_left_comm ..
    have e4 : (2 : Int) ^ s * (bt + 1) ≤ 65536 := by
      have := Int.mul_le_mul_of_nonneg_left hb1 (Int.le_of_lt p2)
      omega
    have e5 := Int.mul_le_mul_of_nonneg_left e4 (Int.le_of_lt p)
    omega
  have hl1 : Y.length ≤ m + 1 := by
    have := dg_len (B := 65536) (by decide) (m + 1) (val 65536 Y) (by omega) (by rw [hP]; omega)
    rw [← tr_eq (by decide) dY, hY] at this
    exact this
  have hl2 : Y.length = m + 1 := by
    rcases Nat.lt_or_ge Y.length (m + 1) with h | h
    · have h4 := val_lt (B := 65536) (by decide) dY
      have h5 := pow_le' (B := 65536) (by decide) (show Y.length ≤ m by omega)
      rw [← hPm] at h5
      omega
    · omega
  refine ⟨hl2, ?_⟩
  have y1 := val_top dY m hl2
  have y3 := val_lt (B := 65536) (by decide) (dY.take m)
  rw [take_len (by omega)] at y3
  rw [← hPm] at y1 y3
  rcases Int.lt_or_le (Y.getD m default) 32768 with h | h
  · have := Int.mul_le_mul_of_nonneg_left (show Y.getD m default ≤ 32767 by omega) (Int.le_of_lt p)
    omega
  · exact h
theorem dividedV {m1 m2 : Bool} {P1 P2 : Nat → Prop} {S : Store} {x y : TV} {a b : List Int} (hx : DV m1 P1 S x a) (hy : DV m2 P2 S y b) (da : Dig 65536 a) (db : Dig 65536 b) (m : Nat) (hm : b.length = m + 1) (hb1 : 1 ≤ b.getD m default) (hab : b.length ≤ a.length) (la : a.length ≤ 800) :
    ∃ w1 w2 R Q, DV true (fun i => S.length ≤ i) (S ++ R) w1 Q ∧ Dig 65536 Q ∧ Q.length ≤ 1000 ∧ val 65536 Q = val 65536 a / val 65536 b ∧ DV true (fun i => S.length ≤ i) (S ++ R) w2 (dg 65536 (val 65536 a % val 65536 b)) ∧ (lim K).call 61 [x, y] S = .ret (.tup [w1, w2], S ++ R) := by
  have hbm : b.length - 1 = m := by omega
  have gb := db.getD (i := m) (by omega)
  obtain ⟨s, y12, hs, hs1, hs2, e1⟩ := loop61c hy db (by omega) (b.getD m default) (by rw [hbm]) hb1 x (.iv (.sl .nil [])) (.iv (.sl .nil [])) (.tup []) (.tup []) (.tup []) (.tup []) (.tup []) (.tup []) (.tup []) (.tup []) (.tup []) 16 0 (.tup []) rfl (by rw [Int.pow_zero]; omega)
  rw [show ((0 : Nat) : Int) = 0 from rfl] at e1
  have p2 := pow2_pos s
  have p15 : (2 : Int) ^ s ≤ 32768 := by
    have := pow_le' (B := 2) (by decide) hs
    exact this
  have hsh := shl_nat (k := .u32) (a := 1) (s := s) (v := 2 ^ s) (by have : IntKind.u32.bits = 32 := rfl; omega) (by rw [Int.one_mul]; exact wrap_u32 (by omega))
  obtain ⟨out1, a1, a2, a3, h41a⟩ := scaledV hx da (by omega) (2 ^ s) (by omega) 0 (by omega)
  have hne : out1 ≠ [] := by intro h; rw [h] at a2; simp at a2
  rw [aM_ne S hne, aS_ne S hne] at h41a
  obtain ⟨T1, hT1⟩ : ∃ T1, T1 = S ++ [.cells (out1.length - 1) true (cellsF d16 out1)] := ⟨_, rfl⟩
  have hx1 : T1[S.length]? = some (.cells (out1.length - 1) true (cellsF d16 out1)) := by rw [hT1]; exact get_last _ _
  have hy1 := hy.app [.cells (out1.length - 1) true (cellsF d16 out1)]
  rw [← hT1] at hy1 h41a
  obtain ⟨out2, b1, b2, b3, h41b⟩ := scaledV hy1 db (by omega) (2 ^ s) (by omega) 0 (by omega)
  obtain ⟨yv, hyv, h40⟩ := trimV (aM_dv T1 out2) (by omega)
  have pm := aM_dv T1 out2
  obtain ⟨R2, hR2⟩ := aS_app T1 out2
  rw [hR2] at h41b h40 hyv pm
  obtain ⟨T2, hT2⟩ : ∃ T2, T2 = T1 ++ R2 := ⟨_, rfl⟩
  rw [← hT2] at h41b h40 hyv pm
  have hvY : val 65536 (tr out2) = 2 ^ s * val 65536 b := by rw [val_tr, b3, Int.add_zero]
  obtain ⟨n1, n2⟩ := moved db b1.tr (tr_tr out2) hm hb1 hs hs1 hs2 hvY
  have dY := b1.tr
  generalize tr out2 = Y at *
  obtain ⟨q, hq⟩ : ∃ q : Nat, out1.length = q + (m + 1) := ⟨out1.length - (m + 1), by omega⟩
  obtain ⟨T3, hT3⟩ : ∃ T3, T3 = T2 ++ [.cells 0 false (cellsF d16 (List.replicate q 0))] := ⟨_, rfl⟩
  have hx2 : T2[S.length]? = some (.cells (out1.length - 1) true (cellsF d16 out1)) := by rw [hT2, List.getElem?_append_left (lt_of_get hx1)]; exact hx1
  have hx3 : T3[S.length]? = some (.cells (out1.length - 1) true (cellsF d16 out1)) := by rw [hT3, List.getElem?_append_left (lt_of_get hx2)]; exact hx2
  have hq3 : T3[T2.length]? = some (.cells 0 false (cellsF d16 (List.replicate q 0))) := by rw [hT3]; exact get_last _ _
  have hl1 := lt_of_get hx1
  have hl2 := lt_of_get hx2
  have hyw := hyv.weak (Q := fun j => j ≠ S.length ∧ j ≠ T2.length) (fun i h1 h2 => by omega)
  have hy3 := hyw.app [.cells 0 false (cellsF d16 (List.replicate q 0))]
  rw [← hT3] at hy3
  obtain ⟨R, hR⟩ : ∃ R, T3 = S ++ R := by
    rw [hT3, hT2, hT1]
    simp only [List.append_assoc]
    exact ⟨_, rfl⟩
  rw [hR] at hx3 hq3 hy3
  have hxval : val 65536 out1 = 2 ^ s * val 65536 a := by rw [a3, Int.add_zero]
  have hfirst : val 65536 (out1.drop q) < val 65536 Y := by
    have f1 := val_split 65536 (l := out1) (k := q) (by omega)
    have f2 := val_nonneg (B := 65536) (by decide) (a1.take q)
    have f3 := val_lt (B := 65536) (by decide) da
    have f4 := val_top dY m n1
    have f5 := val_nonneg (B := 65536) (by decide) (dY.take m)
    have pq := pow_pos' (B := 65536) (by decide) q
    have pm' := pow_pos' (B := 65536) (by decide) m
    have f6 : (65536 : Int) ^ a.length = 65536 ^ q * 65536 ^ m := by rw [← Int.pow_add]; congr 1; omega
    have f7 : 2 ^ s * val 65536 a < 2 ^ s * (65536 ^ q * 65536 ^ m) := by rw [← f6]; exact Int.mul_lt_mul_of_pos_left f3 p2
    have f8 : (2 : Int) ^ s * (65536 ^ q * 65536 ^ m) = 65536 ^ q * (65536 ^ m * 2 ^ s) := by rw [Int.mul_left_comm, Int.mul_comm (2 ^ s)]
    have f9 : (65536 : Int) ^ q * val 65536 (out1.drop q) < 65536 ^ q * (65536 ^ m * 2 ^ s) := by omega
    have f10 := Int.lt_of_mul_lt_mul_left f9 (Int.le_of_lt pq)
    have f11 : (65536 : Int) ^ m * 2 ^ s ≤ 65536 ^ m * Y.getD m default := Int.mul_le_mul_of_nonneg_left (by omega) (Int.le_of_lt pm')
    omega
  obtain ⟨R', X', Q', y9, y10, y11, y12', y13, y14, f1, f2, f3, f4, f5, f6, f7, f8, e2⟩ := loop61b (S := S) dY m n1 n2 (by omega) S.length T2.length (out1.length - 1) (Nat.le_refl _) (by omega) (by omega) x y (.iv (.sl .nil [])) (.iv (.int .i64 s)) true false out1.length q hq (by omega) (val 65536 out1) q R out1 (List.replicate q 0) (.tup []) (.tup []) (.tup []) y12 (.tup []) (.tup []) (Nat.le_refl _) a1 rfl (Dig.rep0 (by decide) q) (by simp) hx3 hq3 hy3 hfirst (fun j _ => getD_rep0 _ _) (by rw [val_rep0, Int.mul_zero, Int.add_zero])
  have hX : DV true (fun j => j = S.length) (S ++ R') (.msl S.length (out1.length - 1) 0 out1.length out1.length 1) X' := .ms _ _ _ _ _ true X' X' f5 (Nat.le_refl _) (by omega) rfl (by rw [List.drop_zero, List.take_of_length_le (by omega)])
  obtain ⟨w2, R6, hw2, h45⟩ := partedV hX f1 (by omega) (2 ^ s) (by omega)
  have hYp : 0 < val 65536 Y := by
    have := val_nonneg (B := 65536) (by decide) f1
    omega
  have hbp : 0 < val 65536 b := by
    rcases Int.lt_or_le 0 (val 65536 b) with h | h
    · exact h
    · have := Int.mul_le_mul_of_nonneg_left h (Int.le_of_lt p2)
      omega
  have hX0 := val_nonneg (B := 65536) (by decide) f1
  have hQv : val 65536 Q' = val 65536 a / val 65536 b := by
    have h1 : val 65536 out1 / val 65536 Y = val 65536 Q' := by
      rw [← f8, Int.add_mul_ediv_left _ _ (by omega), Int.ediv_eq_zero_of_lt hX0 f7, Int.zero_add]
    rw [← h1, hxval, hvY, Int.mul_ediv_mul_of_pos _ _ p2]
  have hXv : val 65536 X' = 2 ^ s * (val 65536 a % val 65536 b) := by
    have h1 : val 65536 out1 % val 65536 Y = val 65536 X' := by
      rw [← f8, Int.add_mul_emod_self_left, Int.emod_eq_of_lt hX0 f7]
    rw [← h1, hxval, hvY, Int.mul_emod_mul_of_pos _ _ p2]
  have hrest : val 65536 X' / 2 ^ s = val 65536 a % val 65536 b := by
    rw [hXv, Int.mul_ediv_cancel_left _ (by omega)]
  rw [hrest] at hw2
  have hQd : DV true (fun i => S.length ≤ i) (S ++ R') (.msl T2.length 0 0 q q 1) Q' := .ms _ _ _ _ _ false Q' Q' f6 (Nat.le_refl _) (by omega) (by omega) (by rw [List.drop_zero, List.take_of_length_le (by omega)])
  refine ⟨.msl T2.length 0 0 q q 1, w2, R' ++ R6, Q', by rw [← List.append_assoc]; exact hQd.app R6, f3, by omega, hQv, by rw [← List.append_assoc]; exact hw2.weak (fun i _ h => by rw [List.length_append] at h; omega), call_ret' K S (fn := t61) rfl rfl ?_⟩
  rw [← List.append_assoc]
  have hmk := mkV_int [.int .u16 0] 2 T2.length .i64 .i64 ((out1.length : Int) - Y.length) ((out1.length : Int) - Y.length) ⟨by omega, by omega, roomy_ok (by omega)⟩
  rw [show ((out1.length : Int) - Y.length).toNat = q by omega] at hmk
  rw [show flat (List.replicate q (List.map TV.iv [IV.int IntKind.u16 0])) = cellsF d16 (List.replicate q 0) from flat_rep d16 q] at hmk
  have hR' : T2 ++ [.cells 0 false (cellsF d16 (List.replicate q 0))] = S ++ R := by rw [← hT3, hR]
  generalize List.replicate q (0 : Int) = C at *
  simp (config := { maxSteps := 4000000 }) (disch := omega) only [t61, go_sem, Nat.reduceAdd, Nat.reduceSub, Nat.reduceLT, Nat.reduceLeDiff, Nat.reduceEqDiff, Nat.reduceBEq, reduceIte, reduceCtorEq, Int.reduceEq, Int.reduceLT, Int.reduceLE, Int.reduceAdd, Int.reduceSub, Int.reduceMul, Int.reduceToNat, Int.reduceNeg, Int.reduceBEq, Int.reducePow, Nat.reducePow, hx.pl.loc, hx.pl.nlp, hx.pl.resK, hx.pl.wb, hx.isR, hx.cel, hx.forg, hx.sam, hx.lenA, hy.pl.loc, hy.pl.nlp, hy.pl.resK, hy.pl.wb, hy.isR, hy.cel, hy.forg, hy.sam, hy.lenA, hyv.pl.loc, hyv.pl.nlp, hyv.pl.resK, hyv.pl.wb, hyv.isR, hyv.cel, hyv.forg, hyv.sam, hyv.lenA, pm.pl.loc, pm.pl.nlp, pm.pl.resK, pm.pl.wb, pm.isR, pm.cel, pm.forg, pm.sam, pm.lenA, hw2.pl.loc, hw2.pl.nlp, hw2.pl.resK, hw2.pl.wb, hw2.isR, hw2.cel, hw2.forg, hw2.sam, hw2.lenA, e1, hsh, h41a, h41b, h40, max_i64, hmk, wrap_i64, hR', e2, h45]
end Go.Proofs.YtdbffhgfjmhaiaaDoor
