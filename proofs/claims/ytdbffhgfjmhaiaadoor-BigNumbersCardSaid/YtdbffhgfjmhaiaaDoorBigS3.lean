/- The contracts of strconv.Itoa: the digits. Condition: none. -/
import Derived.Test.YtdbffhgfjmhaiaaDoorBigS2
set_option maxRecDepth 100000
set_option maxHeartbeats 2000000
set_option linter.unusedSimpArgs false
set_option linter.unusedVariables false
namespace Go.Proofs.YtdbffhgfjmhaiaaDoor
open Go Go.TM
theorem set_mslV {S : Store} {j v : Nat} {b : Bool} {f : Int → IV} {C : List Int} {i : Nat} (hf : ∀ n, isRefL (.iv (f n)) = false) (h : S[j]? = some (.cells v b (cellsF f C))) (hi : i < C.length) (n : Int) (env : Env) : setCells env S (.ptr j v i) [.iv (f n)] = some (env, S.set j (.cells v b (cellsF f (C.set i n)))) := by
  rw [← put_cellsF f C i n hi]
  simp only [setCells, List.any_cons, hf, List.any_nil, Bool.or_self, Bool.false_eq_true, ↓reduceIte, h, cellsF_len, List.length_cons, List.length_nil, Nat.zero_add, true_and, show i + 1 ≤ C.length by omega]
def u8c (n : Int) : IV := .int .u8 n
def bk8 (b : Bool) (C : List Int) : Store := [.cells 134 b (cellsF u8c C)]
theorem set8 (b : Bool) {C : List Int} {i : Nat} (h : i < C.length) (n : Int) (env : Env) : setCells env (bk8 b C) (.ptr 0 134 i) [.iv (.int .u8 n)] = some (env, bk8 b (C.set i n)) := by
  have := set_mslV (S := bk8 b C) (j := 0) (f := u8c) (C := C) (i := i) (fun _ => rfl) rfl h n env
  exact this
theorem loop95 (x0 x1 x3 x4 x5 x6 x7 x8 x9 x10 x11 x12 x13 x14 x15 x16 x17 x18 : TV) (nd : Int) (h : nd < 8) (S : Store) : lp' (lim K) t95L0 [x0, x1, .iv (.int .i64 nd), x3, x4, x5, x6, x7, x8, x9, x10, x11, x12, x13, x14, x15, x16, x17, x18] S = .ret (.exit 0, [x0, x1, .iv (.int .i64 nd), x3, x4, x5, x6, x7, x8, x9, x10, x11, x12, x13, x14, .iv (.bool false), x16, x17, x18], S) := by
  refine loop_at K _ _ t95L0.eq_1 ?_
  simp (config := { maxSteps := 4000000 }) (disch := omega) only [go_sem, Nat.reduceAdd, Nat.reduceSub, Nat.reduceLT, Nat.reduceLeDiff, Nat.reduceEqDiff, Nat.reduceBEq, reduceIte, reduceCtorEq, Int.reduceEq, Int.reduceLT, Int.reduceLE, Int.reduceAdd, Int.reduceSub, Int.reduceMul, Int.reduceToNat, Int.reduceNeg, Int.reduceBEq, Int.reducePow, Nat.reducePow]
theorem call95_3 (b : Bool) (C : List Int) (hC : C.length = 24) (n : Int) (h : 100 ≤ n ∧ n ≤ 999) :
    (lim K).call 95 [.msl 0 134 1 3 23 1, .iv (.int .u64 n)] (bk8 b C) = .ret (.tup [], bk8 b (((C.set 3 (48 + n % 100 % 10)).set 2 (48 + n % 100 / 10)).set 1 (48 + n / 100))) := by
  have tm : n.tmod 100 = n % 100 := tmod_nn (by omega)
  have td : n.tdiv 100 = n / 100 := tdiv_nn (by omega)
  have m2 := ix_msl (j := 0) (v := 134) (off := 1) (len := 3) (cap := 23) (i := 2) (by decide)
  have m1 := ix_msl (j := 0) (v := 134) (off := 1) (len := 3) (cap := 23) (i := 1) (by decide)
  have m0 := ix_msl (j := 0) (v := 134) (off := 1) (len := 3) (cap := 23) (i := 0) (by decide)
  have s1 := sm_hi (m := n % 100) (by omega)
  have s2 := sm_lo (m := n % 100) (by omega)
  have q1 := fun n env => set8 b (C := C) (i := 3) (by omega) n env
  have q2 := fun x n env => set8 b (C := C.set 3 x) (i := 2) (by simp; omega) n env
  have q3 := fun x y n env => set8 b (C := (C.set 3 x).set 2 y) (i := 1) (by simp; omega) n env
  have hl := loop95
  have e3 : ((3 : Nat) : Int) = 3 := rfl
  refine call_ret' K (bk8 b C) (fn := t95) rfl rfl ?_
  simp (config := { maxSteps := 4000000 }) (disch := omega) only [t95, go_sem, Nat.reduceAdd, Nat.reduceSub, Nat.reduceLT, Nat.reduceLeDiff, Nat.reduceEqDiff, Nat.reduceBEq, reduceIte, reduceCtorEq, Int.reduceEq, Int.reduceLT, Int.reduceLE, Int.reduceAdd, Int.reduceSub, Int.reduceMul, Int.reduceToNat, Int.reduceNeg, Int.reduceBEq, Int.reducePow, Nat.reducePow, e3, hl, tm, td, m0, m1, m2, s1, s2, q1, q2, q3, wrap_i64, wrap_u32, wrap_u64, wrap_u8, storeV_c, storeC_eq, cellsOf_int]
theorem call95_4 (b : Bool) (C : List Int) (hC : C.length = 24) (n : Int) (h : 1000 ≤ n ∧ n ≤ 9999) :
    (lim K).call 95 [.msl 0 134 1 4 23 1, .iv (.int .u64 n)] (bk8 b C) = .ret (.tup [], bk8 b ((((C.set 4 (48 + n % 100 % 10)).set 3 (48 + n % 100 / 10)).set 2 (48 + n / 100 % 10)).set 1 (48 + n / 100 / 10))) := by
  have tm : n.tmod 100 = n % 100 := tmod_nn (by omega)
  have td : n.tdiv 100 = n / 100 := tdiv_nn (by omega)
  have tm4 : n.tmod 10000 = n := by rw [tmod_nn (by omega)]; omega
  have td4 : n.tdiv 10000 = 0 := by rw [tdiv_nn (by omega)]; omega
  have m3 := ix_msl (j := 0) (v := 134) (off := 1) (len := 4) (cap := 23) (i := 3) (by decide)
  have m2 := ix_msl (j := 0) (v := 134) (off := 1) (len := 4) (cap := 23) (i := 2) (by decide)
  have m1 := ix_msl (j := 0) (v := 134) (off := 1) (len := 4) (cap := 23) (i := 1) (by decide)
  have m0 := ix_msl (j := 0) (v := 134) (off := 1) (len := 4) (cap := 23) (i := 0) (by decide)
  have s1 := sm_hi (m := n % 100) (by omega)
  have s2 := sm_lo (m := n % 100) (by omega)
  have s3 := sm_hi (m := n / 100) (by omega)
  have s4 := sm_lo (m := n / 100) (by omega)
  have q1 := fun n env => set8 b (C := C) (i := 4) (by omega) n env
  have q2 := fun x n env => set8 b (C := C.set 4 x) (i := 3) (by simp; omega) n env
  have q3 := fun x y n env => set8 b (C := (C.set 4 x).set 3 y) (i := 2) (by simp; omega) n env
  have q4 := fun x y z n env => set8 b (C := ((C.set 4 x).set 3 y).set 2 z) (i := 1) (by simp; omega) n env
  have hl := loop95
  have e4 : ((4 : Nat) : Int) = 4 := rfl
  refine call_ret' K (bk8 b C) (fn := t95) rfl rfl ?_
  simp (config := { maxSteps := 4000000 }) (disch := omega) only [t95, go_sem, Nat.reduceAdd, Nat.reduceSub, Nat.reduceLT, Nat.reduceLeDiff, Nat.reduceEqDiff, Nat.reduceBEq, reduceIte, reduceCtorEq, Int.reduceEq, Int.reduceLT, Int.reduceLE, Int.reduceAdd, Int.reduceSub, Int.reduceMul, Int.reduceToNat, Int.reduceNeg, Int.reduceBEq, Int.reducePow, Nat.reducePow, e4, hl, tm, td, tm4, td4, m0, m1, m2, m3, s1, s2, s3, s4, q1, q2, q3, q4, wrap_i64, wrap_u32, wrap_u64, wrap_u8, storeV_c, storeC_eq, cellsOf_int]
end Go.Proofs.YtdbffhgfjmhaiaaDoor
