/- The contracts of strings.Join with nothing between. Condition: none. -/
import Derived.Test.YtdbffhgfjmhaiaaDoorBigS5
set_option maxRecDepth 100000
set_option maxHeartbeats 2000000
set_option linter.unusedSimpArgs false
set_option linter.unusedVariables false
namespace Go.Proofs.YtdbffhgfjmhaiaaDoor
open Go Go.TM
def bld (s : List UInt8) : Store := [.cells 108 false [.ptr 0 108 0, .tsl 1 (bytesIV s)], .tok s.length 1 5]
theorem bld_copy (s : List UInt8) : prV (bld s) (K.prim 87) [.ptr 0 108 0] = some (.tup [], bld s) := rfl
theorem bytesIV_app (s t : List UInt8) : bytesIV s ++ bytesIV t = bytesIV (s ++ t) := by simp [bytesIV]
theorem call72 (s t : List UInt8) (hl : s.length + t.length ≤ 1000000) : (lim K).call 72 [.ptr 0 108 0, .iv (.str t)] (bld s) = .ret (.tup [.iv (.int .i64 t.length), .iv .nili], bld (s ++ t)) := by
  have hap := ap_tsl (w := 1) (b := 1) (el := 5) (i := 1) (S := bld s) (l := bytesIV s) (ys := bytesIV t) (x := .iv (.str t)) (IsEl.str _ _) (Elems.bytes t) (Elems.bytes s) (by rw [bytesIV_length]; rfl) (roomy_ok (by rw [bytesIV_length, bytesIV_length]; omega))
  rw [bytesIV_length, bytesIV_length, bytesIV_app] at hap
  have hc := bld_copy s
  have hg : ∀ env, getCells env (bld s) (.ptr 0 108 1) 1 = some [.tsl 1 (bytesIV s)] := fun env => rfl
  have hst : (bld s).set 1 (.tok (s.length + t.length) 1 5) = [.cells 108 false [.ptr 0 108 0, .tsl 1 (bytesIV s)], .tok (s ++ t).length 1 5] := by rw [List.length_append]; rfl
  rw [hst] at hap
  have hset : ∀ env, setCells env [.cells 108 false [.ptr 0 108 0, .tsl 1 (bytesIV s)], .tok (s ++ t).length 1 5] (.ptr 0 108 1) [.tsl 1 (bytesIV (s ++ t))] = some (env, bld (s ++ t)) := fun env => rfl
  refine call_ret' K (bld s) (fn := t72) rfl rfl ?_
  simp (config := { maxSteps := 4000000 }) (disch := omega) only [t72, go_sem, Nat.reduceAdd, Nat.reduceSub, Nat.reduceLT, Nat.reduceLeDiff, Nat.reduceEqDiff, Nat.reduceBEq, reduceIte, reduceCtorEq, Int.reduceEq, Int.reduceLT, Int.reduceLE, Int.reduceAdd, Int.reduceSub, Int.reduceMul, Int.reduceToNat, Int.reduceNeg, Int.reduceBEq, Int.reducePow, Nat.reducePow, hc, hg, hap, hset, storeV_c, storeC_eq, cellsOf_tsl]
def bld0 (x : TV) : Store := [.cells 108 false [x, .iv (.sl .nil [])]]
theorem mk98 (n : Int) (h : 0 < n ∧ n ≤ 1000000) (S : Store) : prV S (K.prim 98) [.iv (.int .i64 n)] = some (.rsv S.length [] n.toNat, S ++ [.tok 0 1 5]) := by
  show (if 0 < n ∧ n ≤ 1099511627776 then some (TV.rsv S.length [] n.toNat, S ++ [Block.tok 0 1 5]) else none) = _
  rw [if_pos (by omega)]
theorem cap0 : capOf (.iv (.sl .nil [])) = some 0 := rfl
theorem rsv_sl (S : Store) (i n : Nat) : sliceOp S (.sl 1) (.rsv i [] n) none (some ((0 : Nat) : Int)) none = some (.tsl i []) := rfl
theorem rsv_sl0 (S : Store) (i n : Nat) : sliceOp S (.sl 1) (.rsv i [] n) none (some 0) none = some (.tsl i []) := rfl
theorem copy0 (S : Store) (i : Nat) : copyOp 1 S (.tsl i []) (.iv (.sl .nil [])) = some (.iv (.int .i64 0), S) := rfl
theorem call88 (n : Int) (h : 0 < n ∧ n ≤ 1000000) : (lim K).call 88 [.ptr 0 108 0, .iv (.int .i64 n)] (bld0 (.ptr 0 108 0)) = .ret (.tup [], bld []) := by
  have hp := mk98 n h (bld0 (.ptr 0 108 0))
  have hg : ∀ env x, getCells env (bld0 x) (.ptr 0 108 1) 1 = some [.iv (.sl .nil [])] := fun env x => rfl
  have hS : bld0 (.ptr 0 108 0) ++ [.tok 0 1 5] = [.cells 108 false [.ptr 0 108 0, .iv (.sl .nil [])], .tok 0 1 5] := rfl
  have hlen : (bld0 (.ptr 0 108 0)).length = 1 := rfl
  rw [hS, hlen] at hp
  refine call_ret' K (bld0 (.ptr 0 108 0)) (fn := t88) rfl rfl ?_
  have e0 : ((0 : Nat) : Int) = 0 := rfl
  simp (config := { maxSteps := 4000000 }) (disch := omega) only [t88, go_sem, Nat.reduceAdd, Nat.reduceSub, Nat.reduceLT, Nat.reduceLeDiff, Nat.reduceEqDiff, Nat.reduceBEq, reduceIte, reduceCtorEq, Int.reduceEq, Int.reduceLT, Int.reduceLE, Int.reduceAdd, Int.reduceSub, Int.reduceMul, Int.reduceToNat, Int.reduceNeg, Int.reduceBEq, Int.reducePow, Nat.reducePow, cap0, e0, Int.zero_add, Int.mul_zero, List.length_nil, hp, hg, rsv_sl, rsv_sl0, copy0, wrap_i64, storeV_c, storeC_eq, cellsOf_tsl]
  rfl
theorem bld0_copy : prV (bld0 (.iv .nilp)) (K.prim 87) [.ptr 0 108 0] = some (.tup [], bld0 (.ptr 0 108 0)) := rfl
theorem call71 (n : Int) (h : 0 < n ∧ n ≤ 1000000) : (lim K).call 71 [.ptr 0 108 0, .iv (.int .i64 n)] (bld0 (.iv .nilp)) = .ret (.tup [], bld []) := by
  have h88 := call88 n h
  have hc := bld0_copy
  have hg : ∀ env x, getCells env (bld0 x) (.ptr 0 108 1) 1 = some [.iv (.sl .nil [])] := fun env x => rfl
  have e0 : ((0 : Nat) : Int) = 0 := rfl
  refine call_ret' K (bld0 (.iv .nilp)) (fn := t71) rfl rfl ?_
  simp (config := { maxSteps := 4000000 }) (disch := omega) only [t71, go_sem, Nat.reduceAdd, Nat.reduceSub, Nat.reduceLT, Nat.reduceLeDiff, Nat.reduceEqDiff, Nat.reduceBEq, reduceIte, reduceCtorEq, Int.reduceEq, Int.reduceLT, Int.reduceLE, Int.reduceAdd, Int.reduceSub, Int.reduceMul, Int.reduceToNat, Int.reduceNeg, Int.reduceBEq, Int.reducePow, Nat.reducePow, cap0, e0, Int.sub_zero, List.length_nil, hc, hg, h88, wrap_i64]
theorem str74 (s : List UInt8) (h0 : s ≠ []) (hl : s.length ≤ 1000000) : prV (bld s) (K.prim 74) [.ptr 0 108 0] = some (.iv (.str s), bld s) := by
  have hs : ivSameLL (bytesIV s) (bytesIV s) = true := ivSameLL_refl _
  have hb := bytesOf_bytesIV s
  have hn : s.length ≠ 0 := fun h => h0 (List.length_eq_zero_iff.1 h)
  have hp : prV (bld s) (K.prim 74) [.ptr 0 108 0] = primString 5 [.ptr 0 108 0] (bld s) := rfl
  rw [hp]
  have hn2 : s.length < 4611686018427387904 := by omega
  simp [primString, bld, hb, hs, hn2, h0, bytesIV_length]
def cat (l : List (List UInt8)) : List UInt8 := l.flatten
theorem loop49a (t : Tag) (l : List (List UInt8)) (hl : l.length ≤ 1000) (x0 x1 x2 x5 x6 x7 x8 x9 x10 x11 x17 x18 x19 x20 : TV) (S : Store) : ∀ (k i : Nat) (n : Nat) (x4 x15 x16 : TV), i + k = l.length → n + (cat (l.drop i)).length ≤ 1000000 →
    ∃ y4 y15 y16, lp' (lim K) t49L1 [x0, x1, x2, .iv (.int .i64 n), x4, x5, x6, x7, x8, x9, x10, x11, .iv (.sl t (one IV.str l)), .iv (.int .i64 l.length), .iv (.int .i64 i), x15, x16, x17, x18, x19, x20] S = .ret (.exit 1, [x0, x1, x2, .iv (.int .i64 (n + (cat (l.drop i)).length : Nat)), y4, x5, x6, x7, x8, x9, x10, x11, .iv (.sl t (one IV.str l)), .iv (.int .i64 l.length), .iv (.int .i64 l.length), y15, y16, x17, x18, x19, x20], S)
  | 0, i, n, x4, x15, x16, h, hn => by
    obtain rfl : i = l.length := by omega
    rw [List.drop_length]
    refine ⟨?_, ?_, ?_, loop_at K _ _ t49L1.eq_1 ?_⟩
    rotate_left 3
    · simp (disch := omega) only [go_sem, Nat.reduceAdd, Nat.reduceSub, Nat.reduceLT, Nat.reduceLeDiff, Nat.reduceEqDiff, Nat.reduceBEq, reduceIte, reduceCtorEq, Int.reduceEq, Int.reduceLT, Int.reduceLE, Int.reduceAdd, Int.reduceSub, Int.reduceMul, Int.reduceToNat, Int.reduceNeg, Int.reduceBEq, Int.reducePow, Nat.reducePow, cat, List.flatten_nil, List.length_nil, Nat.add_zero]
      rfl
  | k + 1, i, n, x4, x15, x16, h, hn => by
    have hlt : i < l.length := by omega
    have hix := ix_one IV.str (t := t) (l := l) (i := (i : Int)) (by omega)
    rw [Int.toNat_natCast] at hix
    have hdr : l.drop i = l.getD i default :: l.drop (i + 1) := by
      rw [List.drop_eq_getElem_cons hlt]; simp [List.getD, List.getElem?_eq_getElem hlt]
    rw [hdr] at hn ⊢
    generalize l.getD i default = s at *
    have e1 : (cat (s :: l.drop (i + 1))).length = s.length + (cat (l.drop (i + 1))).length := by simp [cat]
    rw [e1] at hn ⊢
    obtain ⟨y4, y15, y16, ih⟩ := loop49a t l hl x0 x1 x2 x5 x6 x7 x8 x9 x10 x11 x17 x18 x19 x20 S k (i + 1) (n + s.length) (.iv (.str s)) (.iv (.bool true)) (.iv (.bool false)) (by omega) (by omega)
    refine ⟨y4, y15, y16, loop_at K _ _ t49L1.eq_1 ?_⟩
    rw [Nat.add_assoc] at ih
    have e2 : ((n + s.length : Nat) : Int) = (n : Int) + s.length := by omega
    rw [e2] at ih
    simp (config := { maxSteps := 4000000 }) (disch := omega) only [go_sem, Nat.reduceAdd, Nat.reduceSub, Nat.reduceLT, Nat.reduceLeDiff, Nat.reduceEqDiff, Nat.reduceBEq, reduceIte, reduceCtorEq, Int.reduceEq, Int.reduceLT, Int.reduceLE, Int.reduceAdd, Int.reduceSub, Int.reduceMul, Int.reduceToNat, Int.reduceNeg, Int.reduceBEq, Int.reducePow, Nat.reducePow, hix, wrap_i64]
    exact congrArg er ih
theorem loop49b (t : Tag) (l : List (List UInt8)) (hl : l.length ≤ 1000) (x0 x2 x3 x4 x7 x8 x9 x10 x11 x12 x13 x14 x15 x16 : TV) : ∀ (k i : Nat) (s : List UInt8) (x6 x20 : TV), i + k = l.length → s.length + (cat (l.drop i)).length ≤ 1000000 →
    ∃ y6 y20, lp' (lim K) t49L0 [x0, .iv (.str []), x2, x3, x4, .ptr 0 108 0, x6, x7, x8, x9, x10, x11, x12, x13, x14, x15, x16, .iv (.sl t (one IV.str l)), .iv (.int .i64 l.length), .iv (.int .i64 i), x20] (bld s) = .ret (.exit 3, [x0, .iv (.str []), x2, x3, x4, .ptr 0 108 0, y6, x7, x8, x9, x10, x11, x12, x13, x14, x15, x16, .iv (.sl t (one IV.str l)), .iv (.int .i64 l.length), .iv (.int .i64 l.length), y20], bld (s ++ cat (l.drop i)))
  | 0, i, s, x6, x20, h, hn => by
    obtain rfl : i = l.length := by omega
    rw [List.drop_length]
    refine ⟨?_, ?_, loop_at K _ _ t49L0.eq_1 ?_⟩
    rotate_left 2
    · simp (disch := omega) only [go_sem, Nat.reduceAdd, Nat.reduceSub, Nat.reduceLT, Nat.reduceLeDiff, Nat.reduceEqDiff, Nat.reduceBEq, reduceIte, reduceCtorEq, Int.reduceEq, Int.reduceLT, Int.reduceLE, Int.reduceAdd, Int.reduceSub, Int.reduceMul, Int.reduceToNat, Int.reduceNeg, Int.reduceBEq, Int.reducePow, Nat.reducePow, cat, List.flatten_nil, List.append_nil]
      rfl
  | k + 1, i, s, x6, x20, h, hn => by
    have hlt : i < l.length := by omega
    have hix := ix_one IV.str (t := t) (l := l) (i := (i : Int)) (by omega)
    rw [Int.toNat_natCast] at hix
    have hdr : l.drop i = l.getD i default :: l.drop (i + 1) := by
      rw [List.drop_eq_getElem_cons hlt]; simp [List.getD, List.getElem?_eq_getElem hlt]
    rw [hdr] at hn ⊢
    generalize l.getD i default = u at *
    have e1 : (cat (u :: l.drop (i + 1))) = u ++ cat (l.drop (i + 1)) := by simp [cat]
    rw [e1] at hn ⊢
    rw [List.length_append] at hn
    have c1 := call72 s [] (by simp; omega)
    rw [List.append_nil] at c1
    have c2 := call72 s u (by omega)
    obtain ⟨y6, y20, ih⟩ := loop49b t l hl x0 x2 x3 x4 x7 x8 x9 x10 x11 x12 x13 x14 x15 x16 k (i + 1) (s ++ u) (.iv (.str u)) (.iv (.bool true)) (by omega) (by rw [List.length_append]; omega)
    refine ⟨y6, y20, loop_at K _ _ t49L0.eq_1 ?_⟩
    rw [List.append_assoc] at ih
    simp (config := { maxSteps := 4000000 }) (disch := omega) only [go_sem, Nat.reduceAdd, Nat.reduceSub, Nat.reduceLT, Nat.reduceLeDiff, Nat.reduceEqDiff, Nat.reduceBEq, reduceIte, reduceCtorEq, Int.reduceEq, Int.reduceLT, Int.reduceLE, Int.reduceAdd, Int.reduceSub, Int.reduceMul, Int.reduceToNat, Int.reduceNeg, Int.reduceBEq, Int.reducePow, Nat.reducePow, hix, c1, c2, wrap_i64]
    exact congrArg er ih
end Go.Proofs.YtdbffhgfjmhaiaaDoor
