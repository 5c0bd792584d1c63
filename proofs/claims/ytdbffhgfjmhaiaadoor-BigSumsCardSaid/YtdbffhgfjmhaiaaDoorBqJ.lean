/- The contracts of Sub, Mul where digits are written. Condition: none. -/
import Derived.Test.YtdbffhgfjmhaiaaDoorBqI
set_option maxRecDepth 100000
set_option linter.unusedSimpArgs false
set_option linter.unusedVariables false
namespace Go.Proofs.YtdbffhgfjmhaiaaDoor
open Go Go.TM
theorem getD_set_eq {l : List Int} {p : Nat} (h : p < l.length) (v : Int) : (l.set p v).getD p default = v := by
  simp [List.getD, List.getElem?_set_self h]
theorem getD_set_ne {l : List Int} {p q : Nat} (h : p ≠ q) (v : Int) : (l.set p v).getD q default = l.getD q default := by
  simp [List.getD, List.getElem?_set_ne h]
theorem Dig.set {B : Int} {l : List Int} (hd : Dig B l) (p : Nat) {v : Int} (hv : 0 ≤ v ∧ v < B) : Dig B (l.set p v) := fun x hx => by
  rcases List.mem_or_eq_of_mem_set hx with h | rfl
  · exact hd _ h
  · exact hv
theorem val_set (B : Int) : ∀ (l : List Int) (p : Nat) (v : Int), p < l.length → val B (l.set p v) = val B l + B ^ p * (v - l.getD p default)
  | a :: l, 0, v, h => by simp [val, List.getD]; omega
  | a :: l, p + 1, v, h => by
    have ih := val_set B l p v (by simpa using h)
    have e : (a :: l).getD (p + 1) default = l.getD p default := by simp [List.getD]
    rw [e, List.set_cons_succ]
    simp only [val]
    rw [ih, Int.pow_succ, Int.mul_add, Int.mul_comm (B ^ p) B, Int.mul_assoc]
    omega
theorem val_rep0 (B : Int) : ∀ (n : Nat), val B (List.replicate n 0) = 0
  | 0 => rfl
  | n + 1 => by simp [List.replicate_succ, val, val_rep0 B n]
theorem Dig.rep0 {B : Int} (hB : 0 < B) (n : Nat) : Dig B (List.replicate n 0) := fun x hx => by
  rw [List.eq_of_mem_replicate hx]; exact ⟨Int.le_refl _, hB⟩
theorem getD_rep0 (n q : Nat) : (List.replicate n (0 : Int)).getD q default = 0 := by
  simp only [List.getD, List.getElem?_replicate]
  split <;> rfl
theorem shr16 (m : Int) : m.fdiv 65536 = m / 65536 := fd16 m
theorem get_last (S : Store) (B : Block) : (S ++ [B])[S.length]? = some B := by rw [List.getElem?_append_right (Nat.le_refl _)]; simp
theorem set_last (S : Store) (B C : Block) : (S ++ [B]).set S.length C = S ++ [C] := by rw [List.set_append_right _ _ (Nat.le_refl _)]; simp
theorem subV {t1 t2 : Tag} {a b : List Int} (k1 : TagOk t1 a) (k2 : TagOk t2 b) (n1 n2 : Bool) (ha : Dig 65536 a) (hb : Dig 65536 b) (h1 : a.length ≤ 80000) (h2 : b.length ≤ 80000) (z : Int) (hz : z = sv n1 (val 65536 a) - sv n2 (val 65536 b)) :
    ∃ t', TagOk t' (dg 65536 z.natAbs) ∧ Pure K 27 [.iv (num n1 t1 a), .iv (num n2 t2 b)] (.iv (bg t' z)) := by
  obtain ⟨w, R, hw, h26⟩ := addV (S := []) (DV.iv (m := false) (P := fun _ => True) t1 a k1 (fun h => by cases h)) (DV.iv (m := false) (P := fun _ => True) t2 b k2 (fun h => by cases h)) n1 (!n2) ha hb h1 h2 z (by rw [hz]; cases n2 <;> simp [sv] <;> omega)
  rw [List.nil_append] at hw h26
  rw [agT_iv, agT_iv] at h26
  obtain ⟨t', j1, j2, j3, j4⟩ := hw.res
  refine ⟨t', j1, call_pure t27 rfl rfl ?_⟩
  simp only [bg, num]
  generalize decide (z < 0) = zb at *
  generalize dg 65536 z.natAbs = zl at *
  rcases hw.pl with ⟨v, rfl⟩ | ⟨c1, c2, c3, c4, c5, c6, rfl⟩
  · rcases hw with ⟨t3, _, l1, l2⟩
    simp only [res1] at j2
    obtain rfl : t3 = t' := by
      injection j2 with j2
      injection j2
    rw [agT_iv] at h26
    cases n2 <;> simp only [Bool.not_false, Bool.not_true] at h26 <;> simp (config := { maxSteps := 4000000 }) (disch := omega) only [t27, go_sem, Nat.reduceAdd, Nat.reduceSub, Nat.reduceMul, Nat.reduceLT, Nat.reduceLeDiff, Nat.reduceEqDiff, Nat.reduceBEq, reduceIte, reduceCtorEq, List.replicate, List.cons_append, List.nil_append, Int.reduceEq, Int.reduceLT, Int.reduceLE, Int.reduceAdd, Int.reduceSub, Int.reduceMul, Int.reduceToNat, Int.reduceNeg, Int.reduceBEq, Int.reduceBNe, Int.reduceTDiv, Int.reduceTMod, Int.reducePow, Nat.reducePow, decide_true, decide_false, Nat.reduceDiv, Nat.reduceMod, Int.reduceMod, Int.reduceDiv, Int.reduceNe, Int.reduceFDiv, Nat.reduceLeDiff, beq_self_eq_true, decT, decF, ifT, ifF, eqT, eqF, neT, neF, bytesIV_length, one_length, get_cp, get_cp0, h26, resB_ret, resO_some, Bool.not_false, Bool.not_true]
  · rw [agT_msl] at h26
    cases n2 <;> simp only [Bool.not_false, Bool.not_true] at h26 <;> simp (config := { maxSteps := 4000000 }) (disch := omega) only [t27, go_sem, Nat.reduceAdd, Nat.reduceSub, Nat.reduceMul, Nat.reduceLT, Nat.reduceLeDiff, Nat.reduceEqDiff, Nat.reduceBEq, reduceIte, reduceCtorEq, List.replicate, List.cons_append, List.nil_append, Int.reduceEq, Int.reduceLT, Int.reduceLE, Int.reduceAdd, Int.reduceSub, Int.reduceMul, Int.reduceToNat, Int.reduceNeg, Int.reduceBEq, Int.reduceBNe, Int.reduceTDiv, Int.reduceTMod, Int.reducePow, Nat.reducePow, decide_true, decide_false, Nat.reduceDiv, Nat.reduceMod, Int.reduceMod, Int.reduceDiv, Int.reduceNe, Int.reduceFDiv, Nat.reduceLeDiff, beq_self_eq_true, decT, decF, ifT, ifF, eqT, eqF, neT, neF, bytesIV_length, one_length, get_cp, get_cp0, h26, j2, resB_ret, resO_some, Bool.not_false, Bool.not_true]
theorem loop28a {m2 : Bool} {P2 : Nat → Prop} {S : Store} {yv : TV} {b : List Int} (hyv : DV m2 P2 S yv b) (hb : Dig 65536 b) (hbl : b.length ≤ 1000) (x : Int) (hx : 0 ≤ x ∧ x < 65536) (i N : Nat) (hN : N ≤ 10000) (hiN : i + b.length < N) (bb : Bool) (x0 x1 x2 x3 x4 x11 x12 x13 x14 : TV) : ∀ (n k : Nat) (C : List Int) (c : Int) (x9 x10 x18 : TV), k + n = b.length → Dig 65536 C → C.length = N → 0 ≤ c ∧ c ≤ 65535 →
    ∃ C' c' y9 y10 y18, Dig 65536 C' ∧ C'.length = N ∧ (0 ≤ c' ∧ c' ≤ 65535) ∧ val 65536 C' + 65536 ^ (i + b.length) * c' = val 65536 C + 65536 ^ (i + k) * (c + x * val 65536 (b.drop k)) ∧ (∀ q, i + b.length ≤ q → C'.getD q default = C.getD q default) ∧
    lp' (lim K) t28L0 [x0, x1, x2, x3, x4, .msl S.length 0 0 N N 1, .iv (.int .i64 i), .iv (.int .u16 x), .iv (.int .u32 c), x9, x10, x11, x12, x13, x14, yv, .iv (.int .i64 b.length), .iv (.int .i64 k), x18] (S ++ [.cells 0 bb (cellsF d16 C)]) = .ret (.exit 2, [x0, x1, x2, x3, x4, .msl S.length 0 0 N N 1, .iv (.int .i64 i), .iv (.int .u16 x), .iv (.int .u32 c'), y9, y10, x11, x12, x13, x14, yv, .iv (.int .i64 b.length), .iv (.int .i64 b.length), y18], S ++ [.cells 0 bb (cellsF d16 C')])
  | 0, k, C, c, x9, x10, x18, h, hC, hCl, hc => by
    obtain rfl : k = b.length := by omega
    refine ⟨C, c, ?_, ?_, ?_, hC, hCl, hc, by rw [List.drop_length]; simp [val], fun _ _ => rfl, loop_at K _ _ t28L0.eq_1 ?_⟩
    rotate_left 3
    · simp (disch := omega) only [go_sem, Nat.reduceAdd, Nat.reduceSub, Nat.reduceMul, Nat.reduceLT, Nat.reduceLeDiff, Nat.reduceEqDiff, Nat.reduceBEq, reduceIte, reduceCtorEq, List.replicate, List.cons_append, List.nil_append, Int.reduceEq, Int.reduceLT, Int.reduceLE, Int.reduceAdd, Int.reduceSub, Int.reduceMul, Int.reduceToNat, Int.reduceNeg, Int.reduceBEq, Int.reduceBNe, Int.reduceTDiv, Int.reduceTMod, Int.reducePow, Nat.reducePow, decide_true, decide_false, Nat.reduceDiv, Nat.reduceMod, Int.reduceMod, Int.reduceDiv, Int.reduceNe, Int.reduceFDiv, Nat.reduceLeDiff, beq_self_eq_true, decT, decF, ifT, ifF, eqT, eqF, neT, neF, bytesIV_length, one_length, get_cp, get_cp0]
      rfl
  | n + 1, k, C, c, x9, x10, x18, h, hC, hCl, hc => by
    have hlt : k < b.length := by omega
    obtain ⟨p, hp1, hp2⟩ := (hyv.app [.cells 0 bb (cellsF d16 C)]).idx (i := (k : Int)) (by omega)
    rw [Int.toNat_natCast] at hp2
    have g1 := hb.getD hlt
    have g2 := hC.getD (i := i + k) (by omega)
    have hdr := drop_getD hlt
    have hvb := val_nonneg (B := 65536) (by decide) (hb.drop (k + 1))
    obtain ⟨y, hy⟩ : ∃ y, y = b.getD k default := ⟨_, rfl⟩
    obtain ⟨o, ho⟩ : ∃ o, o = C.getD (i + k) default := ⟨_, rfl⟩
    rw [← hy] at hp2 g1 hdr
    rw [← ho] at g2
    have hp := mul_le (c := 65535) (d := 65535) hx.1 (by omega) g1.1 (by omega)
    obtain ⟨s, hs⟩ : ∃ s, s = c + (x * y + o) := ⟨_, rfl⟩
    obtain ⟨C', c', y9, y10, y18, r1, r2, r3, r4, r5, ih⟩ := loop28a hyv hb hbl x hx i N hN hiN bb x0 x1 x2 x3 x4 x11 x12 x13 x14 n (k + 1) (C.set (i + k) (s % 65536)) (s / 65536) (.iv (.int .i64 k)) (.iv (.int .u16 y)) (.iv (.bool true)) (by omega) (hC.set _ (by omega)) (by rw [List.length_set, hCl]) (by omega)
    refine ⟨C', c', y9, y10, y18, r1, r2, r3, ?_, ?_, loop_at K _ _ t28L0.eq_1 ?_⟩
    · rw [r4, val_set _ _ _ _ (by omega), ← ho, hdr, ← Nat.add_assoc, Int.pow_succ]
      simp only [val]
      have e1 : s % 65536 = s - 65536 * (s / 65536) := by omega
      rw [e1, hs]
      generalize (c + (x * y + o)) / 65536 = q
      generalize (65536 : Int) ^ (i + k) = P
      generalize val 65536 (List.drop (k + 1) b) = V
      rw [Int.mul_add, Int.mul_add, Int.mul_add, Int.mul_add, Int.mul_sub, Int.mul_sub, Int.mul_add, Int.mul_add]
      simp only [Int.mul_assoc, Int.mul_left_comm _ (65536 : Int), Int.mul_left_comm x (65536 : Int)]
      omega
    · intro q hq
      rw [r5 q hq, getD_set_ne (by omega)]
    · have hm := ix_msl (j := S.length) (v := 0) (off := 0) (len := N) (cap := N) (i := (i : Int) + (k : Int)) (by omega)
      rw [Nat.zero_add, show ((i : Int) + (k : Int)).toNat = i + k by omega] at hm
      have hget := fun env => get_mslF (S := S ++ [.cells 0 bb (cellsF d16 C)]) (j := S.length) (b := bb) (f := d16) (C := C) (i := i + k) (get_last _ _) (by omega) env
      have hset := fun n env => set_mslF (S := S ++ [.cells 0 bb (cellsF d16 C)]) (j := S.length) (f := d16) (C := C) (i := i + k) (fun _ => rfl) (get_last _ _) (by omega) n env
      simp only [set_last] at hset
      rw [← ho] at hget
      simp only [d16] at hget hset
      generalize hXY : x * y = xy at *
      simp (config := { maxSteps := 4000000 }) (disch := omega) only [go_sem, Nat.reduceAdd, Nat.reduceSub, Nat.reduceMul, Nat.reduceLT, Nat.reduceLeDiff, Nat.reduceEqDiff, Nat.reduceBEq, reduceIte, reduceCtorEq, List.replicate, List.cons_append, List.nil_append, Int.reduceEq, Int.reduceLT, Int.reduceLE, Int.reduceAdd, Int.reduceSub, Int.reduceMul, Int.reduceToNat, Int.reduceNeg, Int.reduceBEq, Int.reduceBNe, Int.reduceTDiv, Int.reduceTMod, Int.reducePow, Nat.reducePow, decide_true, decide_false, Nat.reduceDiv, Nat.reduceMod, Int.reduceMod, Int.reduceDiv, Int.reduceNe, Int.reduceFDiv, Nat.reduceLeDiff, beq_self_eq_true, decT, decF, ifT, ifF, eqT, eqF, neT, neF, bytesIV_length, one_length, get_cp, get_cp0, hyv.pl.loc, hyv.pl.nlp, hyv.pl.resK, hyv.pl.wb, hyv.isR, hyv.cel, hyv.forg, hyv.sam, hyv.lenA, hp1, hp2, hm, hget, wrap_i64, wrap_u32, hXY, ← hs, wrap_u16_mod, storeV_c, storeC_eq, cellsOf_int, hset, shr16]
      exact congrArg er ih
theorem loop28b {m1 m2 : Bool} {P1 P2 : Nat → Prop} {S : Store} {xv yv : TV} {a b : List Int} (hxv : DV m1 P1 S xv a) (hyv : DV m2 P2 S yv b) (na nb : Bool) (ha : Dig 65536 a) (hb : Dig 65536 b) (hal : a.length ≤ 1000) (hbl : b.length ≤ 1000) (bb : Bool) (x0 x1 x4 : TV) (N : Nat) (hN : N = a.length + b.length) : ∀ (n i : Nat) (C : List Int) (x6 x7 x8 x9 x10 x14 x15 x16 x17 x18 : TV), i + n = a.length → Dig 65536 C → C.length = N → val 65536 C = val 65536 (a.take i) * val 65536 b → (∀ q, i + b.length ≤ q → C.getD q default = 0) →
    ∃ C' y6 y7 y8 y9 y10 y14 y15 y16 y17 y18, Dig 65536 C' ∧ C'.length = N ∧ val 65536 C' = val 65536 a * val 65536 b ∧
    lp' (lim K) t28L1 [x0, x1, .lb [.iv (.bool na), xv], .lb [.iv (.bool nb), yv], x4, .msl S.length 0 0 N N 1, x6, x7, x8, x9, x10, xv, .iv (.int .i64 a.length), .iv (.int .i64 i), x14, x15, x16, x17, x18] (S ++ [.cells 0 bb (cellsF d16 C)]) = .ret (.exit 0, [x0, x1, .lb [.iv (.bool na), xv], .lb [.iv (.bool nb), yv], x4, .msl S.length 0 0 N N 1, y6, y7, y8, y9, y10, xv, .iv (.int .i64 a.length), .iv (.int .i64 a.length), y14, y15, y16, y17, y18], S ++ [.cells 0 bb (cellsF d16 C')])
  | 0, i, C, x6, x7, x8, x9, x10, x14, x15, x16, x17, x18, h, hC, hCl, hv, hz => by
    obtain rfl : i = a.length := by omega
    rw [List.take_length] at hv
    refine ⟨C, ?_, ?_, ?_, ?_, ?_, ?_, ?_, ?_, ?_, ?_, hC, hCl, hv, loop_at K _ _ t28L1.eq_1 ?_⟩
    rotate_left 10
    · simp (disch := omega) only [go_sem, Nat.reduceAdd, Nat.reduceSub, Nat.reduceMul, Nat.reduceLT, Nat.reduceLeDiff, Nat.reduceEqDiff, Nat.reduceBEq, reduceIte, reduceCtorEq, List.replicate, List.cons_append, List.nil_append, Int.reduceEq, Int.reduceLT, Int.reduceLE, Int.reduceAdd, Int.reduceSub, Int.reduceMul, Int.reduceToNat, Int.reduceNeg, Int.reduceBEq, Int.reduceBNe, Int.reduceTDiv, Int.reduceTMod, Int.reducePow, Nat.reducePow, decide_true, decide_false, Nat.reduceDiv, Nat.reduceMod, Int.reduceMod, Int.reduceDiv, Int.reduceNe, Int.reduceFDiv, Nat.reduceLeDiff, beq_self_eq_true, decT, decF, ifT, ifF, eqT, eqF, neT, neF, bytesIV_length, one_length, get_cp, get_cp0]
      rfl
  | n + 1, i, C, x6, x7, x8, x9, x10, x14, x15, x16, x17, x18, h, hC, hCl, hv, hz => by
    have hlt : i < a.length := by omega
    obtain ⟨p, hp1, hp2⟩ := (hxv.app [.cells 0 bb (cellsF d16 C)]).idx (i := (i : Int)) (by omega)
    rw [Int.toNat_natCast] at hp2
    have g1 := ha.getD hlt
    have hts := val_take_succ 65536 hlt
    generalize a.getD i default = x at *
    obtain ⟨C1, c1, z9, z10, z18, r1, r2, r3, r4, r5, e⟩ := loop28a hyv hb hbl x g1 i N (by omega) (by omega) bb x0 x1 (.lb [.iv (.bool na), xv]) (.lb [.iv (.bool nb), yv]) x4 xv (.iv (.int .i64 a.length)) (.iv (.int .i64 i)) (.iv (.bool true)) b.length 0 C 0 x9 x10 x18 (by omega) hC hCl (by omega)
    rw [List.drop_zero, Nat.add_zero, Int.zero_add] at r4
    have hz1 := r5 (i + b.length) (Nat.le_refl _)
    rw [hz _ (Nat.le_refl _)] at hz1
    have hvs := val_set 65536 C1 (i + b.length) c1 (by omega)
    rw [hz1] at hvs
    obtain ⟨C', y6, y7, y8, y9, y10, y14, y15, y16, y17, y18, q1, q2, q3, ih⟩ := loop28b hxv hyv na nb ha hb hal hbl bb x0 x1 x4 N hN n (i + 1) (C1.set (i + b.length) c1) (.iv (.int .i64 i)) (.iv (.int .u16 x)) (.iv (.int .u32 c1)) z9 z10 (.iv (.bool true)) yv (.iv (.int .i64 b.length)) (.iv (.int .i64 b.length)) z18 (by omega) (r1.set _ (by omega)) (by rw [List.length_set, r2]) (by
      rw [hvs, hts, Int.sub_zero, r4, hv, Int.add_mul, Int.mul_assoc]) (by
      intro q hq
      rw [getD_set_ne (by omega), r5 q (by omega), hz q (by omega)])
    refine ⟨C', y6, y7, y8, y9, y10, y14, y15, y16, y17, y18, q1, q2, q3, loop_at K _ _ t28L1.eq_1 ?_⟩
    rw [show ((0 : Nat) : Int) = 0 from rfl] at e
    have ly := hyv.len
    have ly1 := (hyv.app [.cells 0 bb (cellsF d16 C)]).len
    have ly2 := (hyv.app [.cells 0 bb (cellsF d16 C1)]).len
    have hm := ix_msl (j := S.length) (v := 0) (off := 0) (len := N) (cap := N) (i := (i : Int) + (b.length : Int)) (by omega)
    rw [Nat.zero_add, show ((i : Int) + (b.length : Int)).toNat = i + b.length by omega] at hm
    have hset := fun n env => set_mslF (S := S ++ [.cells 0 bb (cellsF d16 C1)]) (j := S.length) (f := d16) (C := C1) (i := i + b.length) (fun _ => rfl) (get_last _ _) (by omega) n env
    simp only [set_last] at hset
    simp only [d16] at hset
    simp (config := { maxSteps := 4000000 }) (disch := omega) only [go_sem, Nat.reduceAdd, Nat.reduceSub, Nat.reduceMul, Nat.reduceLT, Nat.reduceLeDiff, Nat.reduceEqDiff, Nat.reduceBEq, reduceIte, reduceCtorEq, List.replicate, List.cons_append, List.nil_append, Int.reduceEq, Int.reduceLT, Int.reduceLE, Int.reduceAdd, Int.reduceSub, Int.reduceMul, Int.reduceToNat, Int.reduceNeg, Int.reduceBEq, Int.reduceBNe, Int.reduceTDiv, Int.reduceTMod, Int.reducePow, Nat.reducePow, decide_true, decide_false, Nat.reduceDiv, Nat.reduceMod, Int.reduceMod, Int.reduceDiv, Int.reduceNe, Int.reduceFDiv, Nat.reduceLeDiff, beq_self_eq_true, decT, decF, ifT, ifF, eqT, eqF, neT, neF, bytesIV_length, one_length, get_cp, get_cp0, hxv.pl.loc, hxv.pl.nlp, hxv.pl.resK, hxv.pl.wb, hxv.isR, hxv.cel, hxv.forg, hxv.sam, hxv.lenA, hyv.pl.loc, hyv.pl.nlp, hyv.pl.resK, hyv.pl.wb, hyv.isR, hyv.cel, hyv.forg, hyv.sam, hyv.lenA, hp1, hp2, ly1, ly2, e, hm, wrap_i64, wrap_u16, storeV_c, storeC_eq, cellsOf_int, hset]
    exact congrArg er ih
theorem mulV {m1 m2 : Bool} {P1 P2 : Nat → Prop} {S : Store} {x y : TV} {a b : List Int} (hx : DV m1 P1 S x a) (hy : DV m2 P2 S y b) (n1 n2 : Bool) (ha : Dig 65536 a) (hb : Dig 65536 b) (h1 : a.length ≤ 1000) (h2 : b.length ≤ 1000) (z : Int) (hz : z = sv n1 (val 65536 a) * sv n2 (val 65536 b)) :
    ∃ w R, DV true (fun i => S.length ≤ i) (S ++ R) w (dg 65536 z.natAbs) ∧ (lim K).call 28 [agT n1 x, agT n2 y] S = .ret (agT (decide (z < 0)) w, S ++ R) := by
  obtain ⟨N, hN⟩ : ∃ N, N = a.length + b.length := ⟨_, rfl⟩
  obtain ⟨C', y6, y7, y8, y9, y10, y14, y15, y16, y17, y18, q1, q2, q3, e⟩ := loop28b hx hy n1 n2 ha hb h1 h2 false (agT n1 x) (agT n2 y) (.lb [.iv (.bool false), .iv (.sl .nil [])]) N hN a.length 0 (List.replicate N 0) (.tup []) (.tup []) (.tup []) (.tup []) (.tup []) (.tup []) (.tup []) (.tup []) (.tup []) (.tup []) (by omega) (Dig.rep0 (by decide) _) (by simp) (by rw [val_rep0, List.take_zero, val, Int.zero_mul]) (fun q _ => getD_rep0 _ _)
  rw [show ((0 : Nat) : Int) = 0 from rfl] at e
  have hC : DV true (fun i => S.length ≤ i) (S ++ [.cells 0 false (cellsF d16 C')]) (.msl S.length 0 0 N N 1) C' := .ms _ _ _ _ _ false C' C' (get_last _ _) (Nat.le_refl _) (by omega) (Nat.le_refl _) (by rw [List.drop_zero, List.take_of_length_le (by omega)])
  obtain ⟨w, hw, h42⟩ := tidyV hC q1 (by omega) (n1 != n2)
  have ez : sv (n1 != n2) (val 65536 C') = z := by
    rw [hz, q3]; cases n1 <;> cases n2 <;> simp [sv, Int.neg_mul, Int.mul_neg]
  have e2 : val 65536 C' = z.natAbs := by rw [← ez, abs_sv _ (val_nonneg (by decide) q1)]
  rw [ez] at h42
  rw [e2] at hw
  refine ⟨w, _, hw, call_ret' K S (fn := t28) rfl rfl ?_⟩
  have hmk := mkV_int [.int .u16 0] 2 S.length .i64 .i64 ((a.length : Int) + b.length) ((a.length : Int) + b.length) ⟨by omega, by omega, roomy_ok (by omega)⟩
  rw [show ((a.length : Int) + b.length).toNat = N by omega] at hmk
  rw [show flat (List.replicate N (List.map TV.iv [IV.int IntKind.u16 0])) = cellsF d16 (List.replicate N 0) from flat_rep d16 N] at hmk
  have lx := hx.len
  have ly := hy.len
  generalize decide (z < 0) = zb at *
  generalize dg 65536 z.natAbs = zl at *
  generalize List.replicate N (0 : Int) = C at *
  rcases hw.pl with ⟨v, rfl⟩ | ⟨c1, c2, c3, c4, c5, c6, rfl⟩
  · rcases hw with ⟨t2, _, j1, j2⟩
    rw [agT_iv] at h42 ⊢
    cases n1 <;> cases n2 <;> simp only [bne_self_eq_false, Bool.bne_true, Bool.bne_false, Bool.not_true, Bool.not_false] at h42 <;> simp (config := { maxSteps := 4000000 }) (disch := omega) only [t28, go_sem, Nat.reduceAdd, Nat.reduceSub, Nat.reduceMul, Nat.reduceLT, Nat.reduceLeDiff, Nat.reduceEqDiff, Nat.reduceBEq, reduceIte, reduceCtorEq, List.replicate, List.cons_append, List.nil_append, Int.reduceEq, Int.reduceLT, Int.reduceLE, Int.reduceAdd, Int.reduceSub, Int.reduceMul, Int.reduceToNat, Int.reduceNeg, Int.reduceBEq, Int.reduceBNe, Int.reduceTDiv, Int.reduceTMod, Int.reducePow, Nat.reducePow, decide_true, decide_false, Nat.reduceDiv, Nat.reduceMod, Int.reduceMod, Int.reduceDiv, Int.reduceNe, Int.reduceFDiv, Nat.reduceLeDiff, beq_self_eq_true, decT, decF, ifT, ifF, eqT, eqF, neT, neF, bytesIV_length, one_length, get_cp, get_cp0, cellsOf_agT hx.pl, agT_loc hx.pl, agT_nlp hx.pl, agT_resK hx.pl, agT_wb hx.pl, cellsOf_agT hy.pl, agT_loc hy.pl, agT_nlp hy.pl, agT_resK hy.pl, agT_wb hy.pl, hx.pl.loc, hx.pl.nlp, hx.pl.resK, hx.pl.wb, hx.isR, hx.cel, hx.forg, hx.sam, hx.lenA, hy.pl.loc, hy.pl.nlp, hy.pl.resK, hy.pl.wb, hy.isR, hy.cel, hy.forg, hy.sam, hy.lenA, Bool.false_eq_true, if_false, lx, ly, hmk, wrap_i64, e, h42, Bool.not_false, Bool.not_true]
  · rw [agT_msl] at h42 ⊢
    cases n1 <;> cases n2 <;> simp only [bne_self_eq_false, Bool.bne_true, Bool.bne_false, Bool.not_true, Bool.not_false] at h42 <;> simp (config := { maxSteps := 4000000 }) (disch := omega) only [t28, go_sem, Nat.reduceAdd, Nat.reduceSub, Nat.reduceMul, Nat.reduceLT, Nat.reduceLeDiff, Nat.reduceEqDiff, Nat.reduceBEq, reduceIte, reduceCtorEq, List.replicate, List.cons_append, List.nil_append, Int.reduceEq, Int.reduceLT, Int.reduceLE, Int.reduceAdd, Int.reduceSub, Int.reduceMul, Int.reduceToNat, Int.reduceNeg, Int.reduceBEq, Int.reduceBNe, Int.reduceTDiv, Int.reduceTMod, Int.reducePow, Nat.reducePow, decide_true, decide_false, Nat.reduceDiv, Nat.reduceMod, Int.reduceMod, Int.reduceDiv, Int.reduceNe, Int.reduceFDiv, Nat.reduceLeDiff, beq_self_eq_true, decT, decF, ifT, ifF, eqT, eqF, neT, neF, bytesIV_length, one_length, get_cp, get_cp0, cellsOf_agT hx.pl, agT_loc hx.pl, agT_nlp hx.pl, agT_resK hx.pl, agT_wb hx.pl, cellsOf_agT hy.pl, agT_loc hy.pl, agT_nlp hy.pl, agT_resK hy.pl, agT_wb hy.pl, hx.pl.loc, hx.pl.nlp, hx.pl.resK, hx.pl.wb, hx.isR, hx.cel, hx.forg, hx.sam, hx.lenA, hy.pl.loc, hy.pl.nlp, hy.pl.resK, hy.pl.wb, hy.isR, hy.cel, hy.forg, hy.sam, hy.lenA, Bool.false_eq_true, if_false, lx, ly, hmk, wrap_i64, e, h42, Bool.not_false, Bool.not_true]
end Go.Proofs.YtdbffhgfjmhaiaaDoor
