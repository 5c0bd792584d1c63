/- The contracts of big: digits divided by a small number. Condition: none. -/
import Derived.Test.YtdbffhgfjmhaiaaDoorBigB
import Derived.Test.YtdbffhgfjmhaiaaDoorTmE
set_option maxRecDepth 100000
set_option linter.unusedSimpArgs false
set_option linter.unusedVariables false
namespace Go.Proofs.YtdbffhgfjmhaiaaDoor
open Go Go.TM
def dv (B y : Int) : List Int → List Int × Int
  | [] => ([], 0)
  | a :: l => ((B * (dv B y l).2 + a) / y :: (dv B y l).1, (B * (dv B y l).2 + a) % y)
theorem dv_spec {B y : Int} (hB : 1 < B) (hy : 0 < y) : ∀ (l : List Int), Dig B l → Dig B (dv B y l).1 ∧ 0 ≤ (dv B y l).2 ∧ (dv B y l).2 < y ∧ (dv B y l).1.length = l.length ∧ y * val B (dv B y l).1 + (dv B y l).2 = val B l
  | [], _ => by simp [dv, val, Dig.nil, hy]
  | a :: l, h => by
    obtain ⟨i1, i2, i3, i4, i5⟩ := dv_spec hB hy l h.tail
    have h1 := h.head
    have h2 : 0 ≤ B * (dv B y l).2 := Int.mul_nonneg (by omega) i2
    have h3 : B * (dv B y l).2 ≤ B * (y - 1) := Int.mul_le_mul_of_nonneg_left (by omega) (by omega)
    rw [Int.mul_sub] at h3
    have h4 : 0 ≤ (B * (dv B y l).2 + a) / y := Int.ediv_nonneg (by omega) (by omega)
    have h5 : (B * (dv B y l).2 + a) / y < B := Int.ediv_lt_of_lt_mul hy (by omega)
    have h6 := Int.emod_nonneg (B * (dv B y l).2 + a) (show y ≠ 0 by omega)
    have h7 := Int.emod_lt_of_pos (B * (dv B y l).2 + a) hy
    have h8 := Int.emod_add_mul_ediv (B * (dv B y l).2 + a) y
    refine ⟨Dig.cons ⟨h4, h5⟩ i1, h6, h7, by simp [dv, i4], ?_⟩
    simp only [dv, val]
    rw [← i5, Int.mul_add, Int.mul_add, ← Int.mul_assoc, ← Int.mul_assoc, Int.mul_comm y B]
    omega
theorem set_rep (k : Nat) (q : List Int) (v : Int) : (List.replicate (k + 1) (0 : Int) ++ q).set k v = List.replicate k 0 ++ v :: q := by
  induction k with
  | zero => rfl
  | succ k ih => rw [List.replicate_succ, List.cons_append, List.set_cons_succ, ih, List.replicate_succ, List.cons_append]
theorem drop_getD {l : List Int} {i : Nat} (h : i < l.length) : l.drop i = l.getD i default :: l.drop (i + 1) := by
  rw [List.drop_eq_getElem_cons h]; simp [List.getD, List.getElem?_eq_getElem h]
theorem Dig.getD {B : Int} {l : List Int} (hd : Dig B l) {i : Nat} (h : i < l.length) : 0 ≤ l.getD i default ∧ l.getD i default < B := hd _ (by rw [List.getD, List.getElem?_eq_getElem h]; exact List.getElem_mem h)
theorem Dig.drop {B : Int} {l : List Int} (hd : Dig B l) (i : Nat) : Dig B (l.drop i) := fun x hx => hd x (List.mem_of_mem_drop hx)
theorem loop67 (t : Tag) (l : List Int) (hd : Dig 10 l) (hl : l.length ≤ 1000000) (b : Bool) (x1 x2 : TV) : ∀ (k : Nat) (x6 : TV), k ≤ l.length →
    ∃ y6, lp' (lim K) t67L0 [.iv (.sl t (one i64 l)), x1, x2, .msl 0 0 0 l.length l.length 1, .iv (.int .i64 (dv 10 65536 (l.drop k)).2), .iv (.int .i64 ((k : Int) - 1)), x6] [.cells 0 b (cellsF i64 (List.replicate k 0 ++ (dv 10 65536 (l.drop k)).1))] = .ret (.exit 0, [.iv (.sl t (one i64 l)), x1, x2, .msl 0 0 0 l.length l.length 1, .iv (.int .i64 (dv 10 65536 l).2), .iv (.int .i64 (-1)), y6], [.cells 0 b (cellsF i64 (dv 10 65536 l).1)])
  | 0, x6, h => by
    refine ⟨?_, loop_at K _ _ t67L0.eq_1 ?_⟩
    rotate_left
    · simp (disch := omega) only [go_sem, Nat.reduceAdd, Nat.reduceSub, Nat.reduceLT, Nat.reduceLeDiff, Nat.reduceEqDiff, Nat.reduceBEq, reduceIte, reduceCtorEq, Int.reduceEq, Int.reduceLT, Int.reduceLE, Int.reduceAdd, Int.reduceSub, Int.reduceMul, Int.reduceToNat, Int.reduceNeg, Int.reduceBEq, Int.reducePow, Nat.reducePow, List.drop_zero]
      rfl
  | k + 1, x6, h => by
    have hlt : k < l.length := by omega
    have hix := ix_one i64 (t := t) (l := l) (i := (k : Int)) (by omega)
    have hdr := drop_getD hlt
    have hg := hd.getD hlt
    rw [Int.toNat_natCast] at hix
    obtain ⟨i1, i2, i3, i4, i5⟩ := dv_spec (B := 10) (y := 65536) (by decide) (by decide) (l.drop (k + 1)) (hd.drop _)
    obtain ⟨y6, ih⟩ := loop67 t l hd hl b x1 x2 k (.iv (.bool true)) (by omega)
    rw [hdr] at ih
    simp only [dv] at ih
    have hlen : (dv 10 65536 (l.drop (k + 1))).1.length = l.length - (k + 1) := by rw [i4]; simp
    generalize dv 10 65536 (l.drop (k + 1)) = p at *
    generalize l.getD k default = a at *
    have hm := ix_msl (j := 0) (v := 0) (off := 0) (len := l.length) (cap := l.length) (i := (k : Int)) (by omega)
    rw [Int.toNat_natCast, Nat.zero_add] at hm
    rw [← set_rep] at ih
    have hCl : k < (List.replicate (k + 1) 0 ++ p.1).length := by simp; omega
    generalize List.replicate (k + 1) 0 ++ p.1 = C at *
    have hs := fun n env => set_mslF (S := [.cells 0 b (cellsF i64 C)]) (j := 0) (f := i64) (C := C) (i := k) (fun _ => rfl) rfl hCl n env
    simp only [List.set_cons_zero] at hs
    refine ⟨y6, loop_at K _ _ t67L0.eq_1 ?_⟩
    simp only [i64] at hix hs
    have e1 : ((k : Int) + 1 - 1) = k := by omega
    have tm : (10 * p.2 + a).tmod 65536 = (10 * p.2 + a) % 65536 := tmod_nn (by omega)
    have td : (10 * p.2 + a).tdiv 65536 = (10 * p.2 + a) / 65536 := tdiv_nn (by omega)
    simp (config := { maxSteps := 4000000 }) (disch := omega) only [go_sem, Nat.reduceAdd, Nat.reduceSub, Nat.reduceLT, Nat.reduceLeDiff, Nat.reduceEqDiff, Nat.reduceBEq, reduceIte, reduceCtorEq, Int.reduceEq, Int.reduceLT, Int.reduceLE, Int.reduceAdd, Int.reduceSub, Int.reduceMul, Int.reduceToNat, Int.reduceNeg, Int.reduceBEq, Int.reducePow, Nat.reducePow, Int.natCast_add, Int.cast_ofNat_Int, e1, hix, wrap_i64, tm, td, hm, storeV_c, storeC_eq, cellsOf_int, hs]
    exact congrArg er ih
theorem call67 (t : Tag) (l : List Int) (hd : Dig 10 l) (hl : l.length ≤ 1000000) : ∃ t', TagOk t' (dg 10 (val 10 l / 65536)) ∧ Pure K 67 [.iv (.sl t (one i64 l))] (.tup [.iv (.sl t' (one i64 (dg 10 (val 10 l / 65536)))), .iv (.int .i64 (val 10 l % 65536))]) := by
  obtain ⟨i1, i2, i3, i4, i5⟩ := dv_spec (B := 10) (y := 65536) (by decide) (by decide) l hd
  have h0 := val_nonneg (B := 10) (by decide) i1
  have e1 : val 10 l / 65536 = val 10 (dv 10 65536 l).1 := by omega
  have e2 : val 10 l % 65536 = (dv 10 65536 l).2 := by omega
  rw [e1, e2, ← tr_eq (by decide) i1]
  obtain ⟨y6, e⟩ := loop67 t l hd hl false (.iv (.sl .nil [])) (.iv (.int .i64 0)) l.length (.tup []) (Nat.le_refl _)
  rw [List.drop_length] at e
  simp only [dv] at e
  rw [List.append_nil] at e
  obtain ⟨t', ht, h40⟩ := call62 .no (dv 10 65536 l).1 (TagOk.no _) (by omega)
  refine ⟨t', ht, call_pure t67 rfl rfl ?_⟩
  have hmk := mkV_int [.int .i64 0] 8 0 .i64 .i64 l.length l.length ⟨by omega, by omega, roomy_ok (by rw [Int.toNat_natCast]; omega)⟩
  rw [Int.toNat_natCast] at hmk
  rw [show flat (List.replicate l.length (List.map TV.iv [IV.int IntKind.i64 0])) = cellsF i64 (List.replicate l.length 0) from flat_rep i64 l.length] at hmk
  have hfr := fun r => freeze_mslF (S := [.cells 0 false (cellsF i64 (dv 10 65536 l).1)]) (j := 0) (f := i64) rfl 0 0 l.length l.length 1 r
  have hel := elems_mslF (S := [.cells 0 false (cellsF i64 (dv 10 65536 l).1)]) (j := 0) (f := i64) rfl 0 l.length l.length (by omega)
  rw [List.drop_zero, List.take_of_length_le (by omega)] at hel
  generalize List.replicate l.length (0 : Int) = C at *
  simp (config := { maxSteps := 4000000 }) (disch := omega) only [t67, go_sem, Nat.reduceAdd, Nat.reduceSub, Nat.reduceLT, Nat.reduceLeDiff, Nat.reduceEqDiff, Nat.reduceBEq, reduceIte, reduceCtorEq, Int.reduceEq, Int.reduceLT, Int.reduceLE, Int.reduceAdd, Int.reduceSub, Int.reduceMul, Int.reduceToNat, Int.reduceNeg, Int.reduceBEq, Int.reducePow, Nat.reducePow, hmk, wrap_i64, e, closeArg_msl, hfr, freeze_nil, List.set_cons_zero, hel, h40, resB_ret, resO_some]
/-! ### The program's -/
theorem u32_shl16 {r : Int} (h : 0 ≤ r ∧ r ≤ 65535) : IntKind.u32.wrap (r * 65536) = r * 65536 := wrap_u32 (by omega)
theorem u32_or16 {r a : Int} (hr : 0 ≤ r ∧ r ≤ 65535) (ha : 0 ≤ a ∧ a ≤ 65535) : IntKind.u32.wrap (bOr 32 (r * 65536) a) = 65536 * r + a := by
  have h := or_add (w := 32) (k := 16) (a := r * 65536) (b := a) (by omega) (by omega) (by decide) (by omega)
  unfold bOr
  rw [h, wrap_u32 (by omega)]
  omega
theorem loop45 (t : Tag) (l : List Int) (hd : Dig 65536 l) (hl : l.length ≤ 1000000) (b : Bool) (y : Int) (hy : 0 < y ∧ y ≤ 65535) (x2 x3 : TV) : ∀ (k : Nat) (x7 : TV), k ≤ l.length →
    ∃ y7, lp' (lim K) t45L0 [.iv (.sl t (one d16 l)), .iv (.int .u32 y), x2, x3, .msl 0 0 0 l.length l.length 1, .iv (.int .u32 (dv 65536 y (l.drop k)).2), .iv (.int .i64 ((k : Int) - 1)), x7] [.cells 0 b (cellsF d16 (List.replicate k 0 ++ (dv 65536 y (l.drop k)).1))] = .ret (.exit 0, [.iv (.sl t (one d16 l)), .iv (.int .u32 y), x2, x3, .msl 0 0 0 l.length l.length 1, .iv (.int .u32 (dv 65536 y l).2), .iv (.int .i64 (-1)), y7], [.cells 0 b (cellsF d16 (dv 65536 y l).1)])
  | 0, x7, h => by
    refine ⟨?_, loop_at K _ _ t45L0.eq_1 ?_⟩
    rotate_left
    · simp (disch := omega) only [go_sem, Nat.reduceAdd, Nat.reduceSub, Nat.reduceLT, Nat.reduceLeDiff, Nat.reduceEqDiff, Nat.reduceBEq, reduceIte, reduceCtorEq, Int.reduceEq, Int.reduceLT, Int.reduceLE, Int.reduceAdd, Int.reduceSub, Int.reduceMul, Int.reduceToNat, Int.reduceNeg, Int.reduceBEq, Int.reducePow, Nat.reducePow, List.drop_zero]
      rfl
  | k + 1, x7, h => by
    have hlt : k < l.length := by omega
    have hix := ix_one d16 (t := t) (l := l) (i := (k : Int)) (by omega)
    have hdr := drop_getD hlt
    have hg := hd.getD hlt
    rw [Int.toNat_natCast] at hix
    obtain ⟨i1, i2, i3, i4, i5⟩ := dv_spec (B := 65536) (y := y) (by decide) hy.1 (l.drop (k + 1)) (hd.drop _)
    obtain ⟨y7, ih⟩ := loop45 t l hd hl b y hy x2 x3 k (.iv (.bool true)) (by omega)
    rw [hdr] at ih
    simp only [dv] at ih
    have hlen : (dv 65536 y (l.drop (k + 1))).1.length = l.length - (k + 1) := by rw [i4]; simp
    generalize dv 65536 y (l.drop (k + 1)) = p at *
    generalize l.getD k default = a at *
    have hm := ix_msl (j := 0) (v := 0) (off := 0) (len := l.length) (cap := l.length) (i := (k : Int)) (by omega)
    rw [Int.toNat_natCast, Nat.zero_add] at hm
    rw [← set_rep] at ih
    have hCl : k < (List.replicate (k + 1) 0 ++ p.1).length := by simp; omega
    generalize List.replicate (k + 1) 0 ++ p.1 = C at *
    have hs := fun n env => set_mslF (S := [.cells 0 b (cellsF d16 C)]) (j := 0) (f := d16) (C := C) (i := k) (fun _ => rfl) rfl hCl n env
    simp only [List.set_cons_zero] at hs
    refine ⟨y7, loop_at K _ _ t45L0.eq_1 ?_⟩
    simp only [d16] at hix hs
    have e1 : ((k : Int) + 1 - 1) = k := by omega
    have hq : 0 ≤ (65536 * p.2 + a) / y ∧ (65536 * p.2 + a) / y < 65536 := ⟨Int.ediv_nonneg (by omega) (by omega), Int.ediv_lt_of_lt_mul hy.1 (by omega)⟩
    have hr0 := Int.emod_nonneg (65536 * p.2 + a) (show y ≠ 0 by omega)
    have hr1 := Int.emod_lt_of_pos (65536 * p.2 + a) hy.1
    have tm : (65536 * p.2 + a).tmod y = (65536 * p.2 + a) % y := tmod_nn (by omega)
    have td : (65536 * p.2 + a).tdiv y = (65536 * p.2 + a) / y := tdiv_nn (by omega)
    have hor := u32_or16 (r := p.2) (a := a) (by omega) (by omega)
    have hy0 : ¬ y = 0 := by omega
    generalize (65536 * p.2 + a) / y = q at *
    generalize (65536 * p.2 + a) % y = r at *
    simp (config := { maxSteps := 4000000 }) (disch := omega) only [go_sem, Nat.reduceAdd, Nat.reduceSub, Nat.reduceLT, Nat.reduceLeDiff, Nat.reduceEqDiff, Nat.reduceBEq, reduceIte, reduceCtorEq, Int.reduceEq, Int.reduceLT, Int.reduceLE, Int.reduceAdd, Int.reduceSub, Int.reduceMul, Int.reduceToNat, Int.reduceNeg, Int.reduceBEq, Int.reducePow, Nat.reducePow, Int.natCast_add, Int.cast_ofNat_Int, e1, hix, wrap_i64, wrap_u32, wrap_u16, u32_shl16, hor, hy0, tm, td, hm, storeV_c, storeC_eq, cellsOf_int, hs]
    exact congrArg er ih
theorem call45 (t : Tag) (l : List Int) (hd : Dig 65536 l) (hl : l.length ≤ 1000000) (y : Int) (hy : 0 < y ∧ y ≤ 65535) : ∃ t', TagOk t' (dg 65536 (val 65536 l / y)) ∧ Pure K 45 [.iv (.sl t (one d16 l)), .iv (.int .u32 y)] (.tup [.iv (.sl t' (one d16 (dg 65536 (val 65536 l / y)))), .iv (.int .u32 (val 65536 l % y))]) := by
  obtain ⟨i1, i2, i3, i4, i5⟩ := dv_spec (B := 65536) (y := y) (by decide) hy.1 l hd
  have h0 := val_nonneg (B := 65536) (by decide) i1
  have e1 : val 65536 l / y = val 65536 (dv 65536 y l).1 := by
    rw [← i5, Int.add_comm, Int.add_mul_ediv_left _ _ (by omega), Int.ediv_eq_zero_of_lt i2 i3, Int.zero_add]
  have e2 : val 65536 l % y = (dv 65536 y l).2 := by
    rw [← i5, Int.add_comm, Int.add_mul_emod_self_left, Int.emod_eq_of_lt i2 i3]
  rw [e1, e2, ← tr_eq (by decide) i1]
  obtain ⟨y7, e⟩ := loop45 t l hd hl false y hy (.iv (.sl .nil [])) (.iv (.int .u32 0)) l.length (.tup []) (Nat.le_refl _)
  rw [List.drop_length] at e
  simp only [dv] at e
  rw [List.append_nil] at e
  obtain ⟨t', ht, h40⟩ := call40 .no (dv 65536 y l).1 (TagOk.no _) (by omega)
  refine ⟨t', ht, call_pure t45 rfl rfl ?_⟩
  have hmk := mkV_int [.int .u16 0] 2 0 .i64 .i64 l.length l.length ⟨by omega, by omega, roomy_ok (by rw [Int.toNat_natCast]; omega)⟩
  rw [Int.toNat_natCast] at hmk
  rw [show flat (List.replicate l.length (List.map TV.iv [IV.int IntKind.u16 0])) = cellsF d16 (List.replicate l.length 0) from flat_rep d16 l.length] at hmk
  have hfr := fun r => freeze_mslF (S := [.cells 0 false (cellsF d16 (dv 65536 y l).1)]) (j := 0) (f := d16) rfl 0 0 l.length l.length 1 r
  have hel := elems_mslF (S := [.cells 0 false (cellsF d16 (dv 65536 y l).1)]) (j := 0) (f := d16) rfl 0 l.length l.length (by omega)
  rw [List.drop_zero, List.take_of_length_le (by omega)] at hel
  generalize List.replicate l.length (0 : Int) = C at *
  simp (config := { maxSteps := 4000000 }) (disch := omega) only [t45, go_sem, Nat.reduceAdd, Nat.reduceSub, Nat.reduceLT, Nat.reduceLeDiff, Nat.reduceEqDiff, Nat.reduceBEq, reduceIte, reduceCtorEq, Int.reduceEq, Int.reduceLT, Int.reduceLE, Int.reduceAdd, Int.reduceSub, Int.reduceMul, Int.reduceToNat, Int.reduceNeg, Int.reduceBEq, Int.reducePow, Nat.reducePow, hmk, wrap_i64, e, closeArg_msl, hfr, freeze_nil, List.set_cons_zero, hel, h40, resB_ret, resO_some]
