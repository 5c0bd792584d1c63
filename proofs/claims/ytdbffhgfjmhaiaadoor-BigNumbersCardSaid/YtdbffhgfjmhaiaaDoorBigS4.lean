/- The contracts of strconv.Itoa. Condition: none. -/
import Derived.Test.YtdbffhgfjmhaiaaDoorBigS3
set_option maxRecDepth 100000
set_option maxHeartbeats 2000000
set_option linter.unusedSimpArgs false
set_option linter.unusedVariables false
namespace Go.Proofs.YtdbffhgfjmhaiaaDoor
open Go Go.TM
def d8 (x : Int) : UInt8 := UInt8.ofNat (48 + x.toNat)
theorem elems_mslV {S : Store} {j v : Nat} {b : Bool} {f : Int → IV} {C : List Int} (h : S[j]? = some (.cells v b (cellsF f C))) (off len cap : Nat) (hl : off + len ≤ C.length) : elemsIV S (.msl j v off len cap 1) = some (one f ((C.drop off).take len)) := by
  have e2 : sub (cellsF f C) off (len * 1) = some (cellsF f ((C.drop off).take len)) := by
    simp only [sub, Nat.mul_one, cellsF_len, hl, ↓reduceIte]
    simp [cellsF]
  have e3 : cellsF f ((C.drop off).take len) = (((C.drop off).take len).map f).map .iv := by rw [List.map_map]; rfl
  have e4 : chunks 1 len (((C.drop off).take len).map f) = one f ((C.drop off).take len) := by
    have := chunks_flat (w := 1) (l := one f ((C.drop off).take len)) (by intro y hy; obtain ⟨a, _, rfl⟩ := List.mem_map.1 hy; rfl)
    rw [one_length, flat_one_map] at this
    rwa [show ((C.drop off).take len).length = len by simp; omega] at this
  simp only [elemsIV, h]
  show (if v ≠ v then none else match sub (cellsF f C) off (len * 1) with | some l => (toIVs l).map (chunks 1 len) | none => none) = _
  rw [e2]
  simp only [ne_eq, not_true_eq_false, ↓reduceIte]
  rw [e3, toIVs_ivs, Option.map_some, e4]
theorem d8_val {m : Int} (h : 0 ≤ m ∧ m ≤ 9) : ((d8 m).toNat : Int) = 48 + m := by
  obtain ⟨k, rfl⟩ : ∃ k : Nat, m = k := ⟨m.toNat, by omega⟩
  simp only [d8, Int.toNat_natCast]
  rw [UInt8.toNat_ofNat', Nat.mod_eq_of_lt (by omega)]
  omega
def z24 : List Int := List.replicate 24 0
theorem bk8_zero : [Block.cells 134 false [TV.iv (IV.int IntKind.u8 0), TV.iv (IV.int IntKind.u8 0), TV.iv (IV.int IntKind.u8 0), TV.iv (IV.int IntKind.u8 0), TV.iv (IV.int IntKind.u8 0), TV.iv (IV.int IntKind.u8 0), TV.iv (IV.int IntKind.u8 0), TV.iv (IV.int IntKind.u8 0), TV.iv (IV.int IntKind.u8 0), TV.iv (IV.int IntKind.u8 0), TV.iv (IV.int IntKind.u8 0), TV.iv (IV.int IntKind.u8 0), TV.iv (IV.int IntKind.u8 0), TV.iv (IV.int IntKind.u8 0), TV.iv (IV.int IntKind.u8 0), TV.iv (IV.int IntKind.u8 0), TV.iv (IV.int IntKind.u8 0), TV.iv (IV.int IntKind.u8 0), TV.iv (IV.int IntKind.u8 0), TV.iv (IV.int IntKind.u8 0), TV.iv (IV.int IntKind.u8 0), TV.iv (IV.int IntKind.u8 0), TV.iv (IV.int IntKind.u8 0), TV.iv (IV.int IntKind.u8 0)]] = bk8 false z24 := rfl
theorem bounds_sub {len cap : Nat} {a n : Int} (h : 0 ≤ a ∧ a ≤ n ∧ n ≤ cap) : bounds len cap (some a) (some n) none = some (a.toNat, n.toNat, cap) := by
  have e2 : (0 : Int) ≤ n ∧ n ≤ ((cap : Nat) : Int) := by omega
  have e3 : (0 : Int) ≤ a ∧ a ≤ ((n.toNat : Nat) : Int) := by omega
  simp only [bounds, bound, e2, e3, and_self, if_true]
theorem bk8_slice (b : Bool) (C : List Int) (hC : C.length = 24) (n : Nat) (h : n ≤ 23) : sliceOp (bk8 b C) (.arr 24 1) (.ptr 0 134 0) (some 1) (some ((n : Int) + 1)) none = some (.msl 0 134 1 n 23 1) := by
  have hb := bounds_sub (len := 24) (cap := 24) (a := 1) (n := (n : Int) + 1) (by omega)
  rw [show (1 : Int).toNat = 1 from rfl, show ((n : Int) + 1).toNat = n + 1 by omega] at hb
  have hg : (bk8 b C)[0]? = some (.cells 134 b (cellsF u8c C)) := rfl
  simp only [sliceOp, hg, cellsF_len, hC, hb, Nat.mul_one, Nat.zero_add, Nat.le_refl, and_self, if_true, Nat.add_sub_cancel]
  rfl
theorem u8_d8 {m : Int} (h : 0 ≤ m ∧ m ≤ 9) : IV.int .u8 (48 + m) = u8 (d8 m) := by
  rw [u8, d8_val h]
theorem call83_3 (n : Int) (h : 100 ≤ n ∧ n ≤ 999) : Pure K 83 [.iv (.int .i64 n), .iv (.int .i64 10)] (.iv (.str [d8 (n / 100), d8 (n / 10 % 10), d8 (n % 10)])) := by
  have h94 := call94 n (by omega)
  rw [if_pos (by omega)] at h94
  have h95 := call95_3 false z24 rfl n h
  have s0 := bk8_slice false z24 rfl 3 (by decide)
  have s1 := bk8_slice false (((z24.set 3 (48 + n % 100 % 10)).set 2 (48 + n % 100 / 10)).set 1 (48 + n / 100)) rfl 3 (by decide)
  rw [show (((3 : Nat) : Int) + 1) = 4 from rfl] at s0 s1
  have hel := elems_mslV (S := bk8 false (((z24.set 3 (48 + n % 100 % 10)).set 2 (48 + n % 100 / 10)).set 1 (48 + n / 100))) (j := 0) (v := 134) (f := u8c) rfl 1 3 23 (by simp [z24])
  have hb : one u8c ((((((z24.set 3 (48 + n % 100 % 10)).set 2 (48 + n % 100 / 10)).set 1 (48 + n / 100)) : List Int).drop 1).take 3) = bytesIV [d8 (n / 100), d8 (n / 10 % 10), d8 (n % 10)] := by
    show [[IV.int .u8 (48 + n / 100)], [IV.int .u8 (48 + n % 100 / 10)], [IV.int .u8 (48 + n % 100 % 10)]] = _
    rw [u8_d8 (by omega), u8_d8 (by omega), u8_d8 (by omega), show n % 100 / 10 = n / 10 % 10 by omega, show n % 100 % 10 = n % 10 by omega]
    rfl
  rw [hb] at hel
  refine call_pure t83 rfl rfl ?_
  generalize bk8 false (((z24.set 3 (48 + n % 100 % 10)).set 2 (48 + n % 100 / 10)).set 1 (48 + n / 100)) = T at *
  simp (config := { maxSteps := 4000000 }) (disch := omega) only [t83, go_sem, Nat.reduceAdd, Nat.reduceSub, Nat.reduceLT, Nat.reduceLeDiff, Nat.reduceEqDiff, Nat.reduceBEq, reduceIte, reduceCtorEq, Int.reduceEq, Int.reduceLT, Int.reduceLE, Int.reduceAdd, Int.reduceSub, Int.reduceMul, Int.reduceToNat, Int.reduceNeg, Int.reduceBEq, Int.reducePow, Nat.reducePow, bk8_zero, s0, s1, hel, bytesOf_bytesIV, Option.map_some, h94, h95, wrap_i64, wrap_u64, resB_ret, resO_some]
theorem call83_4 (n : Int) (h : 1000 ≤ n ∧ n ≤ 9999) : Pure K 83 [.iv (.int .i64 n), .iv (.int .i64 10)] (.iv (.str [d8 (n / 1000), d8 (n / 100 % 10), d8 (n / 10 % 10), d8 (n % 10)])) := by
  have h94 := call94 n (by omega)
  rw [if_neg (by omega)] at h94
  have h95 := call95_4 false z24 rfl n h
  have s0 := bk8_slice false z24 rfl 4 (by decide)
  have s1 := bk8_slice false ((((z24.set 4 (48 + n % 100 % 10)).set 3 (48 + n % 100 / 10)).set 2 (48 + n / 100 % 10)).set 1 (48 + n / 100 / 10)) rfl 4 (by decide)
  rw [show (((4 : Nat) : Int) + 1) = 5 from rfl] at s0 s1
  have hel := elems_mslV (S := bk8 false ((((z24.set 4 (48 + n % 100 % 10)).set 3 (48 + n % 100 / 10)).set 2 (48 + n / 100 % 10)).set 1 (48 + n / 100 / 10))) (j := 0) (v := 134) (f := u8c) rfl 1 4 23 (by simp [z24])
  have hb : one u8c ((((((z24.set 4 (48 + n % 100 % 10)).set 3 (48 + n % 100 / 10)).set 2 (48 + n / 100 % 10)).set 1 (48 + n / 100 / 10) : List Int).drop 1).take 4) = bytesIV [d8 (n / 1000), d8 (n / 100 % 10), d8 (n / 10 % 10), d8 (n % 10)] := by
    show [[IV.int .u8 (48 + n / 100 / 10)], [IV.int .u8 (48 + n / 100 % 10)], [IV.int .u8 (48 + n % 100 / 10)], [IV.int .u8 (48 + n % 100 % 10)]] = _
    rw [u8_d8 (by omega), u8_d8 (by omega), u8_d8 (by omega), u8_d8 (by omega), show n / 100 / 10 = n / 1000 by omega, show n % 100 / 10 = n / 10 % 10 by omega, show n % 100 % 10 = n % 10 by omega]
    rfl
  rw [hb] at hel
  refine call_pure t83 rfl rfl ?_
  generalize bk8 false ((((z24.set 4 (48 + n % 100 % 10)).set 3 (48 + n % 100 / 10)).set 2 (48 + n / 100 % 10)).set 1 (48 + n / 100 / 10)) = T at *
  simp (config := { maxSteps := 4000000 }) (disch := omega) only [t83, go_sem, Nat.reduceAdd, Nat.reduceSub, Nat.reduceLT, Nat.reduceLeDiff, Nat.reduceEqDiff, Nat.reduceBEq, reduceIte, reduceCtorEq, Int.reduceEq, Int.reduceLT, Int.reduceLE, Int.reduceAdd, Int.reduceSub, Int.reduceMul, Int.reduceToNat, Int.reduceNeg, Int.reduceBEq, Int.reducePow, Nat.reducePow, bk8_zero, s0, s1, hel, bytesOf_bytesIV, Option.map_some, h94, h95, wrap_i64, wrap_u64, resB_ret, resO_some]
end Go.Proofs.YtdbffhgfjmhaiaaDoor
