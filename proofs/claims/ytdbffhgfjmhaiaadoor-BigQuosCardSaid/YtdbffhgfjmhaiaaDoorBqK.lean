/- The contracts of parted where digits are written; same, positive, large. Condition: none. -/
import Derived.Test.YtdbffhgfjmhaiaaDoorBqJ
set_option maxRecDepth 100000
set_option linter.unusedSimpArgs false
set_option linter.unusedVariables false
namespace Go.Proofs.YtdbffhgfjmhaiaaDoor
open Go Go.TM
theorem loop45 {m1 : Bool} {P1 : Nat → Prop} {S : Store} {x : TV} {l : List Int} (hx : DV m1 P1 S x l) (hd : Dig 65536 l) (hl : l.length ≤ 1000000) (b : Bool) (y : Int) (hy : 0 < y ∧ y ≤ 65535) (x2 x3 : TV) : ∀ (k : Nat) (x7 : TV), k ≤ l.length →
    ∃ y7, lp' (lim K) t45L0 [x, .iv (.int .u32 y), x2, x3, .msl S.length 0 0 l.length l.length 1, .iv (.int .u32 (dv 65536 y (l.drop k)).2), .iv (.int .i64 ((k : Int) - 1)), x7] (S ++ [.cells 0 b (cellsF d16 (List.replicate k 0 ++ (dv 65536 y (l.drop k)).1))]) = .ret (.exit 0, [x, .iv (.int .u32 y), x2, x3, .msl S.length 0 0 l.length l.length 1, .iv (.int .u32 (dv 65536 y l).2), .iv (.int .i64 (-1)), y7], S ++ [.cells 0 b (cellsF d16 (dv 65536 y l).1)])
  | 0, x7, h => by
    refine ⟨?_, loop_at K _ _ t45L0.eq_1 ?_⟩
    rotate_left
    · simp (disch := omega) only [go_sem, Nat.reduceAdd, Nat.reduceSub, Nat.reduceLT, Nat.reduceLeDiff, Nat.reduceEqDiff, Nat.reduceBEq, reduceIte, reduceCtorEq, Int.reduceEq, Int.reduceLT, Int.reduceLE, Int.reduceAdd, Int.reduceSub, Int.reduceMul, Int.reduceToNat, Int.reduceNeg, Int.reduceBEq, Int.reducePow, Nat.reducePow, List.drop_zero]
      rfl
  | k + 1, x7, h => by
    have hlt : k < l.length := by omega
    have hdr := drop_getD hlt
    have hg := hd.getD hlt
    obtain ⟨i1, i2, i3, i4, i5⟩ := dv_spec (B := 65536) (y := y) (by decide) hy.1 (l.drop (k + 1)) (hd.drop _)
    obtain ⟨y7, ih⟩ := loop45 hx hd hl b y hy x2 x3 k (.iv (.bool true)) (by omega)
    rw [hdr] at ih
    simp only [dv] at ih
    have hlen : (dv 65536 y (l.drop (k + 1))).1.length = l.length - (k + 1) := by rw [i4]; simp
    generalize dv 65536 y (l.drop (k + 1)) = p at *
    have hm := ix_msl (j := S.length) (v := 0) (off := 0) (len := l.length) (cap := l.length) (i := (k : Int)) (by omega)
    rw [Int.toNat_natCast, Nat.zero_add] at hm
    rw [← set_rep] at ih
    have hCl : k < (List.replicate (k + 1) 0 ++ p.1).length := by simp; omega
    generalize List.replicate (k + 1) 0 ++ p.1 = C at *
    obtain ⟨ad, hp1, hp2⟩ := (hx.app [.cells 0 b (cellsF d16 C)]).idx (i := (k : Int)) (by omega)
    rw [Int.toNat_natCast] at hp2
    generalize l.getD k default = a at *
    have hs := fun n env => set_mslF (S := S ++ [.cells 0 b (cellsF d16 C)]) (j := S.length) (f := d16) (C := C) (i := k) (fun _ => rfl) (get_last _ _) hCl n env
    simp only [set_last] at hs
    refine ⟨y7, loop_at K _ _ t45L0.eq_1 ?_⟩
    simp only [d16] at hs
    have e1 : ((k : Int) + 1 - 1) = k := by omega
    have hq : 0 ≤ (65536 * p.2 + a) / y ∧ (65536 * p.2 + a) / y < 65536 := ⟨Int.ediv_nonneg (by omega) (by omega), Int.ediv_lt_of_lt_mul hy.1 (by omega)⟩
    have hr0 := Int.emod_nonneg (65536 * p.2 + a) (show y ≠ 0 by omega)
    have hr1 := Int.emod_lt_of_pos (65536 * p.2 + a) hy.1
    have tm : (65536 * p.2 + a).tmod y = (65536 * p.2 + a) % y := tmod_nn (by omega)
    have td : (65536 * p.2 + a).tdiv y = (65536 * p.2 + a) / y := tdiv_nn (by omega)
    have hor := u32_or16 (r := p.2) (a := a) (by omega) (by omega)
    have hy0 : ¬ y = 0 := by omega
    generalize (65536 * p.2 + a) / y = q at *
    generalize (65536 * p.2 + a) % y = r at *
    simp (config := { maxSteps := 4000000 }) (disch := omega) only [go_sem, Nat.reduceAdd, Nat.reduceSub, Nat.reduceLT, Nat.reduceLeDiff, Nat.reduceEqDiff, Nat.reduceBEq, reduceIte, reduceCtorEq, Int.reduceEq, Int.reduceLT, Int.reduceLE, Int.reduceAdd, Int.reduceSub, Int.reduceMul, Int.reduceToNat, Int.reduceNeg, Int.reduceBEq, Int.reducePow, Nat.reducePow, hx.pl.loc, hx.pl.nlp, hx.pl.resK, hx.pl.wb, hx.isR, hx.cel, hx.forg, hx.sam, hx.lenA, Int.natCast_add, Int.cast_ofNat_Int, e1, hp1, hp2, wrap_i64, wrap_u32, wrap_u16, u32_shl16, hor, hy0, tm, td, hm, storeV_c, storeC_eq, cellsOf_int, hs]
    exact congrArg er ih
theorem partedV {m1 : Bool} {P1 : Nat → Prop} {S : Store} {x : TV} {l : List Int} (hx : DV m1 P1 S x l) (hd : Dig 65536 l) (hl : l.length ≤ 1000000) (y : Int) (hy : 0 < y ∧ y ≤ 65535) :
    ∃ w R, DV true (fun i => S.length ≤ i) (S ++ R) w (dg 65536 (val 65536 l / y)) ∧ (lim K).call 45 [x, .iv (.int .u32 y)] S = .ret (.tup [w, .iv (.int .u32 (val 65536 l % y))], S ++ R) := by
  obtain ⟨i1, i2, i3, i4, i5⟩ := dv_spec (B := 65536) (y := y) (by decide) hy.1 l hd
  have h0 := val_nonneg (B := 65536) (by decide) i1
  have e1 : val 65536 l / y = val 65536 (dv 65536 y l).1 := by
    rw [← i5, Int.add_comm, Int.add_mul_ediv_left _ _ (by omega), Int.ediv_eq_zero_of_lt i2 i3, Int.zero_add]
  have e2 : val 65536 l % y = (dv 65536 y l).2 := by
    rw [← i5, Int.add_comm, Int.add_mul_emod_self_left, Int.emod_eq_of_lt i2 i3]
  rw [e1, e2, ← tr_eq (by decide) i1]
  obtain ⟨y7, e⟩ := loop45 hx hd hl false y hy (.iv (.sl .nil [])) (.iv (.int .u32 0)) l.length (.tup []) (Nat.le_refl _)
  rw [List.drop_length] at e
  simp only [dv] at e
  rw [List.append_nil] at e
  have hC : DV true (fun i => S.length ≤ i) (S ++ [.cells 0 false (cellsF d16 (dv 65536 y l).1)]) (.msl S.length 0 0 l.length l.length 1) (dv 65536 y l).1 := .ms _ _ _ _ _ false _ _ (get_last _ _) (Nat.le_refl _) (by omega) (Nat.le_refl _) (by rw [List.drop_zero, List.take_of_length_le (by omega)])
  obtain ⟨w, hw, h40⟩ := trimV hC (by omega)
  refine ⟨w, _, hw, call_ret' K S (fn := t45) rfl rfl ?_⟩
  have hmk := mkV_int [.int .u16 0] 2 S.length .i64 .i64 l.length l.length ⟨by omega, by omega, roomy_ok (by rw [Int.toNat_natCast]; omega)⟩
  rw [Int.toNat_natCast] at hmk
  rw [show flat (List.replicate l.length (List.map TV.iv [IV.int IntKind.u16 0])) = cellsF d16 (List.replicate l.length 0) from flat_rep d16 l.length] at hmk
  generalize List.replicate l.length (0 : Int) = C at *
  generalize (dv 65536 y l).1 = D at *
  simp (config := { maxSteps := 4000000 }) (disch := omega) only [t45, go_sem, Nat.reduceAdd, Nat.reduceSub, Nat.reduceLT, Nat.reduceLeDiff, Nat.reduceEqDiff, Nat.reduceBEq, reduceIte, reduceCtorEq, Int.reduceEq, Int.reduceLT, Int.reduceLE, Int.reduceAdd, Int.reduceSub, Int.reduceMul, Int.reduceToNat, Int.reduceNeg, Int.reduceBEq, Int.reducePow, Nat.reducePow, hx.pl.loc, hx.pl.nlp, hx.pl.resK, hx.pl.wb, hx.isR, hx.cel, hx.forg, hx.sam, hx.lenA, hw.pl.loc, hw.pl.nlp, hw.pl.resK, hw.pl.wb, hw.isR, hw.cel, hw.forg, hw.sam, hw.lenA, hmk, wrap_i64, e, h40]
/-! ### large -/
instance : Inhabited Tag := ⟨.no⟩
end Go.Proofs.YtdbffhgfjmhaiaaDoor
