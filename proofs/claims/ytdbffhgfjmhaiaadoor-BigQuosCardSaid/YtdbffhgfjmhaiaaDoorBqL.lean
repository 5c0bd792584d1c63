/- The contract of divided: the loops. Condition: none. -/
import Derived.Test.YtdbffhgfjmhaiaaDoorBqK
set_option maxRecDepth 100000
set_option linter.unusedSimpArgs false
set_option linter.unusedVariables false
namespace Go.Proofs.YtdbffhgfjmhaiaaDoor
open Go Go.TM
theorem shl_nat {k : IntKind} {a v : Int} {s : Nat} (hs : s ≤ k.bits) (hw : k.wrap (a * 2 ^ s) = v) : TM.binOp .shl (.iv (.int k a)) (.iv (.int .i64 s)) = some (.int k v) := by
  rw [TM.binOp_shl, if_neg (by omega), Int.toNat_natCast, if_pos hs, hw]
theorem shl16c {r : Int} (h : 0 ≤ r ∧ r ≤ 65535) : TM.binOp .shl (.iv (.int .u32 r)) (.iv (.int .u64 16)) = some (.int .u32 (r * 65536)) := by
  rw [TM.binOp_shl, if_neg (by decide)]
  have e : (if (16 : Int).toNat ≤ IntKind.u32.bits then (16 : Int).toNat else IntKind.u32.bits) = 16 := by decide
  rw [e]
  exact congrArg (fun n => some (IV.int .u32 n)) (u32_shl16 h)
theorem min_u32 (a b : Int) : minmax false (.int .u32 a) [.iv (.int .u32 b)] = some (.int .u32 (if b < a then b else a)) := by
  simp only [minmax, min2]
  by_cases h : b < a <;> simp [h]
theorem pow2_pos (s : Nat) : (0 : Int) < 2 ^ s := Int.pow_pos (by decide)
theorem pow2_succ (s : Nat) : (2 : Int) ^ (s + 1) = 2 ^ s * 2 := Int.pow_succ ..
theorem loop61c {m : Bool} {P : Nat → Prop} {S : Store} {yv : TV} {b : List Int} (hy : DV m P S yv b) (hb : Dig 65536 b) (hbl : 0 < b.length ∧ b.length ≤ 1000) (bt : Int) (hbt : b.getD (b.length - 1) default = bt) (hbt1 : 1 ≤ bt) (x0 x2 x3 x5 x6 x7 x8 x9 x10 x11 x13 x14 : TV) : ∀ (k s : Nat) (x12 : TV), s + k = 16 → bt * 2 ^ s < 65536 →
    ∃ (s' : Nat) (y12 : TV), s' ≤ 15 ∧ 32768 ≤ bt * 2 ^ s' ∧ bt * 2 ^ s' < 65536 ∧ lp' (lim K) t61L2 [x0, yv, x2, x3, .iv (.int .i64 s), x5, x6, x7, x8, x9, x10, x11, x12, x13, x14] S = .ret (.exit 0, [x0, yv, x2, x3, .iv (.int .i64 s'), x5, x6, x7, x8, x9, x10, x11, y12, x13, x14], S)
  | 0, s, x12, h, hs => by
    exfalso
    obtain rfl : s = 16 := by omega
    have : (2 : Int) ^ 16 = 65536 := by decide
    rw [this] at hs
    omega
  | k + 1, s, x12, h, hs => by
    obtain ⟨p, hp1, hp2⟩ := hy.idx (i := (b.length : Int) - 1) (by omega)
    rw [show ((b.length : Int) - 1).toNat = b.length - 1 by omega, hbt] at hp2
    have hg := hb.getD (i := b.length - 1) (by omega)
    rw [hbt] at hg
    have p0 := pow2_pos s
    have p1 := pow2_succ s
    have hpos : 0 ≤ bt * 2 ^ s := Int.mul_nonneg (by omega) (by omega)
    have hsh := shl_nat (k := .u16) (a := bt) (s := s) (v := bt * 2 ^ s) (by have : IntKind.u16.bits = 16 := rfl; omega) (wrap_u16 (by omega))
    by_cases hlt : bt * 2 ^ s < 32768
    · have e2 : bt * 2 ^ (s + 1) = bt * 2 ^ s * 2 := by rw [p1, Int.mul_assoc]
      obtain ⟨s', y12, j1, j2, j3, ih⟩ := loop61c hy hb hbl bt hbt hbt1 x0 x2 x3 x5 x6 x7 x8 x9 x10 x11 x13 x14 k (s + 1) (.iv (.bool true)) (by omega) (by rw [e2]; omega)
      refine ⟨s', y12, j1, j2, j3, loop_at K _ _ t61L2.eq_1 ?_⟩
      generalize bt * 2 ^ s = v at *
      simp (config := { maxSteps := 4000000 }) (disch := omega) only [go_sem, Nat.reduceAdd, Nat.reduceSub, Nat.reduceLT, Nat.reduceLeDiff, Nat.reduceEqDiff, Nat.reduceBEq, reduceIte, reduceCtorEq, Int.reduceEq, Int.reduceLT, Int.reduceLE, Int.reduceAdd, Int.reduceSub, Int.reduceMul, Int.reduceToNat, Int.reduceNeg, Int.reduceBEq, Int.reducePow, Nat.reducePow, hy.pl.loc, hy.pl.nlp, hy.pl.resK, hy.pl.wb, hy.isR, hy.cel, hy.forg, hy.sam, hy.lenA, hp1, hp2, hsh, wrap_i64]
      exact congrArg er ih
    · refine ⟨s, .iv (.bool false), by omega, by omega, hs, loop_at K _ _ t61L2.eq_1 ?_⟩
      generalize bt * 2 ^ s = v at *
      simp (config := { maxSteps := 4000000 }) (disch := omega) only [go_sem, Nat.reduceAdd, Nat.reduceSub, Nat.reduceLT, Nat.reduceLeDiff, Nat.reduceEqDiff, Nat.reduceBEq, reduceIte, reduceCtorEq, Int.reduceEq, Int.reduceLT, Int.reduceLE, Int.reduceAdd, Int.reduceSub, Int.reduceMul, Int.reduceToNat, Int.reduceNeg, Int.reduceBEq, Int.reducePow, Nat.reducePow, hy.pl.loc, hy.pl.nlp, hy.pl.resK, hy.pl.wb, hy.isR, hy.cel, hy.forg, hy.sam, hy.lenA, hp1, hp2, hsh, wrap_i64]
theorem DV.subA {m : Bool} {P : Nat → Prop} {S : Store} {x : TV} {l : List Int} (h : DV m P S x l) {a n : Int} (ha : 0 ≤ a ∧ a ≤ n) (hn : n ≤ l.length) : ∃ y, sliceOp S (.sl 1) x (some a) (some n) none = some y ∧ (∀ R, sliceOp (S ++ R) (.sl 1) x (some a) (some n) none = some y) ∧ DV m P S y ((l.drop a.toNat).take (n.toNat - a.toNat)) := by
  obtain ⟨y, h1, h2⟩ := h.sub ha hn
  refine ⟨y, h1, fun R => ?_, h2⟩
  rw [← h1]
  cases h with
  | iv t l h hm => rfl
  | ms i v off len cap b C l h j1 j2 hP hl =>
    have e1 := verOk_cells h
    have e2 : verOk (S ++ R) i v = true := verOk_cells (by rw [List.getElem?_append_left (lt_of_get h)]; exact h)
    simp only [sliceOp, e1, e2]
theorem loop61a {mx my : Bool} {Px Py : Nat → Prop} {xv yv : TV} {X Y : List Int} (dX : Dig 65536 X) (dY : Dig 65536 Y) (hy0 : 0 < val 65536 Y) (lX : X.length ≤ 2000) (i : Nat) (hi : i + Y.length + 1 ≤ X.length) (x0 x1 x2 x3 x4 x9 x11 x12 x13 : TV) : ∀ (k : Nat) (T : Store) (g : Int) (x14 : TV), DV mx Px T xv X → DV my Py T yv Y → g ≤ 65535 → g - val 65536 ((X.drop i).take (Y.length + 1)) / val 65536 Y = k →
    ∃ R y14, lp' (lim K) t61L0 [x0, x1, x2, x3, x4, xv, yv, .iv (.int .i64 Y.length), .iv (.int .i64 i), x9, .iv (.int .u32 g), x11, x12, x13, x14] T = .ret (.exit 4, [x0, x1, x2, x3, x4, xv, yv, .iv (.int .i64 Y.length), .iv (.int .i64 i), x9, .iv (.int .u32 (val 65536 ((X.drop i).take (Y.length + 1)) / val 65536 Y)), x11, x12, x13, y14], T ++ R) := by
  intro k
  have dW : Dig 65536 ((X.drop i).take (Y.length + 1)) := (dX.drop i).take _
  have lW : ((X.drop i).take (Y.length + 1)).length = Y.length + 1 := by rw [cells_take]; omega
  have hW0 := val_nonneg (by decide) dW
  have hQ0 : 0 ≤ val 65536 ((X.drop i).take (Y.length + 1)) / val 65536 Y := Int.ediv_nonneg hW0 (by omega)
  have hQ1 := Int.ediv_mul_le (val 65536 ((X.drop i).take (Y.length + 1))) (show val 65536 Y ≠ 0 by omega)
  have hQ2 := Int.lt_ediv_add_one_mul_self (val 65536 ((X.drop i).take (Y.length + 1))) hy0
  induction k with
  | zero =>
    intro T g x14 hx hy hg hk
    obtain rfl : g = val 65536 ((X.drop i).take (Y.length + 1)) / val 65536 Y := by omega
    generalize val 65536 ((X.drop i).take (Y.length + 1)) / val 65536 Y = g at *
    obtain ⟨out, o1, o2, o3, h41⟩ := scaledV hy dY (by omega) g (by omega) 0 (by omega)
    obtain ⟨tv, ht, h40⟩ := trimV (aM_dv T out) (by omega)
    obtain ⟨zv, hsl, hsR, hz0⟩ := hx.subA (a := (i : Int)) (n := (i : Int) + Y.length + 1) (by omega) (by omega)
    rw [Int.toNat_natCast, show ((i : Int) + Y.length + 1).toNat - i = Y.length + 1 by omega] at hz0
    have hz := hz0.aS out
    obtain ⟨t1, k1, -, ca, -⟩ := ht.res
    obtain ⟨t2, k2, -, cb, -⟩ := hz.res
    have ltr := tr_len out
    have h54 := call54 t1 t2 _ _ k1 k2 o1.tr dW (by omega) (by omega)
    rw [val_tr, o3] at h54
    have hc : ¬ 0 < cmpI (g * val 65536 Y + 0) (val 65536 ((X.drop i).take (Y.length + 1))) := by
      unfold cmpI; split
      · decide
      · rw [if_pos (by omega)]; decide
    generalize cmpI (g * val 65536 Y + 0) (val 65536 ((X.drop i).take (Y.length + 1))) = r at *
    obtain ⟨R, hR⟩ := aS_app T out
    have pm := aM_dv T out
    rw [hR] at h41 h40 ca cb pm
    refine ⟨R, ?_, loop_at K _ _ t61L0.eq_1 ?_⟩
    rotate_left
    · simp (config := { maxSteps := 4000000 }) (disch := omega) only [go_sem, Nat.reduceAdd, Nat.reduceSub, Nat.reduceLT, Nat.reduceLeDiff, Nat.reduceEqDiff, Nat.reduceBEq, reduceIte, reduceCtorEq, Int.reduceEq, Int.reduceLT, Int.reduceLE, Int.reduceAdd, Int.reduceSub, Int.reduceMul, Int.reduceToNat, Int.reduceNeg, Int.reduceBEq, Int.reducePow, Nat.reducePow, hx.pl.loc, hx.pl.nlp, hx.pl.resK, hx.pl.wb, hx.isR, hx.cel, hx.forg, hx.sam, hx.lenA, hy.pl.loc, hy.pl.nlp, hy.pl.resK, hy.pl.wb, hy.isR, hy.cel, hy.forg, hy.sam, hy.lenA, pm.pl.loc, pm.pl.nlp, pm.pl.resK, pm.pl.wb, pm.isR, pm.cel, pm.forg, pm.sam, pm.lenA, ht.pl.loc, ht.pl.nlp, ht.pl.resK, ht.pl.wb, ht.isR, ht.cel, ht.forg, ht.sam, ht.lenA, hz.pl.loc, hz.pl.nlp, hz.pl.resK, hz.pl.wb, hz.isR, hz.cel, hz.forg, hz.sam, hz.lenA, h41, h40, hsl, hsR, ca, cb, h54, wrap_i64, Bool.and_false, Bool.not_true]
      rfl
  | succ k ih =>
    intro T g x14 hx hy hg hk
    obtain ⟨out, o1, o2, o3, h41⟩ := scaledV hy dY (by omega) g (by omega) 0 (by omega)
    obtain ⟨tv, ht, h40⟩ := trimV (aM_dv T out) (by omega)
    obtain ⟨zv, hsl, hsR, hz0⟩ := hx.subA (a := (i : Int)) (n := (i : Int) + Y.length + 1) (by omega) (by omega)
    rw [Int.toNat_natCast, show ((i : Int) + Y.length + 1).toNat - i = Y.length + 1 by omega] at hz0
    have hz := hz0.aS out
    obtain ⟨t1, k1, -, ca, -⟩ := ht.res
    obtain ⟨t2, k2, -, cb, -⟩ := hz.res
    have ltr := tr_len out
    have h54 := call54 t1 t2 _ _ k1 k2 o1.tr dW (by omega) (by omega)
    rw [val_tr, o3] at h54
    obtain ⟨R, hR⟩ := aS_app T out
    have pm := aM_dv T out
    obtain ⟨R2, y14, e⟩ := ih (T ++ R) (g - 1) (.iv (.bool true)) (hx.app R) (hy.app R) (by omega) (by omega)
    have hgt : val 65536 ((X.drop i).take (Y.length + 1)) < g * val 65536 Y := by
      have := Int.mul_le_mul_of_nonneg_right (show val 65536 ((X.drop i).take (Y.length + 1)) / val 65536 Y + 1 ≤ g by omega) (show 0 ≤ val 65536 Y by omega)
      omega
    rw [cmpI_gt (by omega)] at h54
    generalize val 65536 ((X.drop i).take (Y.length + 1)) / val 65536 Y = Q at *
    rw [hR] at h41 h40 ca cb pm
    refine ⟨R ++ R2, y14, loop_at K _ _ t61L0.eq_1 ?_⟩
    simp (config := { maxSteps := 4000000 }) (disch := omega) only [go_sem, Nat.reduceAdd, Nat.reduceSub, Nat.reduceLT, Nat.reduceLeDiff, Nat.reduceEqDiff, Nat.reduceBEq, reduceIte, reduceCtorEq, Int.reduceEq, Int.reduceLT, Int.reduceLE, Int.reduceAdd, Int.reduceSub, Int.reduceMul, Int.reduceToNat, Int.reduceNeg, Int.reduceBEq, Int.reducePow, Nat.reducePow, hx.pl.loc, hx.pl.nlp, hx.pl.resK, hx.pl.wb, hx.isR, hx.cel, hx.forg, hx.sam, hx.lenA, hy.pl.loc, hy.pl.nlp, hy.pl.resK, hy.pl.wb, hy.isR, hy.cel, hy.forg, hy.sam, hy.lenA, pm.pl.loc, pm.pl.nlp, pm.pl.resK, pm.pl.wb, pm.isR, pm.cel, pm.forg, pm.sam, pm.lenA, ht.pl.loc, ht.pl.nlp, ht.pl.resK, ht.pl.wb, ht.isR, ht.cel, ht.forg, ht.sam, ht.lenA, hz.pl.loc, hz.pl.nlp, hz.pl.resK, hz.pl.wb, hz.isR, hz.cel, hz.forg, hz.sam, hz.lenA, h41, h40, hsl, hsR, ca, cb, h54, wrap_i64, wrap_u32, Bool.and_false, Bool.not_true]
    rw [← List.append_assoc]
    exact congrArg er e
end Go.Proofs.YtdbffhgfjmhaiaaDoor
