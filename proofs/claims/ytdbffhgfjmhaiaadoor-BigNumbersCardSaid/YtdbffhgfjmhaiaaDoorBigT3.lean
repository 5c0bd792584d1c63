/- Numbers of 64 bits: Of, Small, Fix. Condition: none. -/
import Derived.Test.YtdbffhgfjmhaiaaDoorBigT2
import Derived.Test.YtdbffhgfjmhaiaaDoorTmE
set_option maxRecDepth 100000
set_option maxHeartbeats 4000000
set_option linter.unusedSimpArgs false
set_option linter.unusedVariables false
namespace Go.Proofs.YtdbffhgfjmhaiaaDoor
open Go Go.TM
theorem loop25 (x0 x1 : TV) (x4 : TV) : ∀ (k : Nat) (v : Int) (d : List Int) (x5 : TV), 0 ≤ v → v < 18446744073709551616 → (dg 65536 v).length ≤ k → d.length + k ≤ 1000000 →
    ∃ y5, lp' (lim K) t25L0 [x0, x1, .iv (.int .u64 v), acc 0 (one d16 d), x4, x5] (accS 1 55 (one d16 d)) = .ret (.exit 0, [x0, x1, .iv (.int .u64 0), acc 0 (one d16 (d ++ dg 65536 v)), x4, y5], accS 1 55 (one d16 (d ++ dg 65536 v)))
  | 0, v, d, x5, h0, hb, hk, hl => by
    have hv : v = 0 := (dg_nil (B := 65536) (by decide) h0).1 (List.length_eq_zero_iff.1 (by omega))
    subst hv
    refine ⟨?_, loop_at K _ _ t25L0.eq_1 ?_⟩
    rotate_left
    · rw [dg_zero, List.append_nil]
      simp (disch := omega) only [go_sem, Nat.reduceAdd, Nat.reduceSub, Nat.reduceLT, Nat.reduceLeDiff, Nat.reduceEqDiff, Nat.reduceBEq, reduceIte, reduceCtorEq, Int.reduceEq, Int.reduceLT, Int.reduceLE, Int.reduceAdd, Int.reduceSub, Int.reduceMul, Int.reduceToNat, Int.reduceNeg, Int.reduceBEq, Int.reducePow, Nat.reducePow]
      rfl
  | k + 1, v, d, x5, h0, hb, hk, hl => by
    by_cases hv : v = 0
    · subst hv
      refine ⟨?_, loop_at K _ _ t25L0.eq_1 ?_⟩
      rotate_left
      · rw [dg_zero, List.append_nil]
        simp (disch := omega) only [go_sem, Nat.reduceAdd, Nat.reduceSub, Nat.reduceLT, Nat.reduceLeDiff, Nat.reduceEqDiff, Nat.reduceBEq, reduceIte, reduceCtorEq, Int.reduceEq, Int.reduceLT, Int.reduceLE, Int.reduceAdd, Int.reduceSub, Int.reduceMul, Int.reduceToNat, Int.reduceNeg, Int.reduceBEq, Int.reducePow, Nat.reducePow]
        rfl
    · rw [dg_pos (B := 65536) (by decide) (by omega)] at hk ⊢
      have ha := ap_acc1 (w := 1) (b := 2) (el := 55) (t := .full) (d16_ok (v % 65536)) (Elems.one (f := d16) (fun _ => rfl) d) (roomy_ok (by rw [one_length]; omega))
      rw [one_snoc] at ha
      obtain ⟨y5, ih⟩ := loop25 x0 x1 x4 k (v / 65536) (d ++ [v % 65536]) (.iv (.bool true)) (by omega) (by omega) (by rw [List.length_cons] at hk; omega) (by simp; omega)
      refine ⟨y5, loop_at K _ _ t25L0.eq_1 ?_⟩
      simp only [d16] at ha
      have f16 := fd16 v
      simp (config := { maxSteps := 4000000 }) (disch := omega) only [go_sem, Nat.reduceAdd, Nat.reduceSub, Nat.reduceLT, Nat.reduceLeDiff, Nat.reduceEqDiff, Nat.reduceBEq, reduceIte, reduceCtorEq, Int.reduceEq, Int.reduceLT, Int.reduceLE, Int.reduceAdd, Int.reduceSub, Int.reduceMul, Int.reduceToNat, Int.reduceNeg, Int.reduceBEq, Int.reducePow, Nat.reducePow, wrap_u16_mod, f16, ha]
      rw [List.append_assoc, List.cons_append, List.nil_append] at ih
      exact congrArg er ih
theorem u64_abs {n : Int} (h : -9223372036854775808 ≤ n ∧ n ≤ 9223372036854775807) : (0 ≤ n → IntKind.u64.wrap n = n) ∧ (n < 0 → IntKind.u64.wrap (0 - IntKind.u64.wrap n) = -n) := by
  simp only [wrap_u64_mod]
  omega
theorem call25 (n : Int) (h : -9223372036854775808 ≤ n ∧ n ≤ 9223372036854775807) : ∃ t', TagOk t' (dg 65536 n.natAbs) ∧ Pure K 25 [.iv (.int .i64 n)] (.iv (bg t' n)) := by
  obtain ⟨u1, u2⟩ := u64_abs h
  have h0 : (0 : Int) ≤ n.natAbs := by omega
  have hlen : (dg 65536 n.natAbs).length ≤ 4 := dg_len (by decide) 4 _ h0 (by omega)
  obtain ⟨t', h1, h42⟩ := call42' (decide (n < 0)) (sTag (dg 65536 n.natAbs)) (dg 65536 n.natAbs) (sTag_ok _) (dg_dig (by decide) h0) (by omega)
  rw [val_dg (by decide) h0] at h1 h42
  have hs : sv (decide (n < 0)) n.natAbs = n := by by_cases hn : n < 0 <;> simp [sv, hn] <;> omega
  rw [hs] at h42
  refine ⟨t', h1, call_pure t25 rfl rfl ?_⟩
  have e0 : acc 0 (one d16 []) = .iv (.sl .nil []) := acc_nil 0
  have e1 : accS 1 55 (one d16 []) = [] := accS_nil 1 55
  have hst : sTag (one d16 (dg 65536 n.natAbs)) = sTag (dg 65536 n.natAbs) := sTag_map _ _
  simp only [bg, num] at h42 ⊢
  have sn := scalar_num (decide (n < 0)) t' (one d16 (dg 65536 n.natAbs))
  by_cases hn : n < 0
  · obtain ⟨y5, e⟩ := loop25 (.iv (.int .i64 n)) (.lb [.iv (.bool false), .iv (.sl .nil [])]) (.iv (.bool true)) (dg 65536 n.natAbs).length n.natAbs [] (.tup []) h0 (by omega) (Nat.le_refl _) (by simp; omega)
    rw [List.nil_append, e0, e1, show (n.natAbs : Int) = -n by omega] at e
    rw [show (n.natAbs : Int) = -n by omega] at h42 hst sn ⊢
    have u3 := u2 hn
    rw [decide_eq_true hn] at h42 sn ⊢
    generalize dg 65536 (-n) = D at *
    simp (config := { maxSteps := 4000000 }) (disch := omega) only [t25, go_sem, Nat.reduceAdd, Nat.reduceSub, Nat.reduceLT, Nat.reduceLeDiff, Nat.reduceEqDiff, Nat.reduceBEq, reduceIte, reduceCtorEq, Int.reduceEq, Int.reduceLT, Int.reduceLE, Int.reduceAdd, Int.reduceSub, Int.reduceMul, Int.reduceToNat, Int.reduceNeg, Int.reduceBEq, Int.reducePow, Nat.reducePow, u3, e, hst, cpR_pure h42, sn, resB_ret, resO_some]
  · obtain ⟨y5, e⟩ := loop25 (.iv (.int .i64 n)) (.lb [.iv (.bool false), .iv (.sl .nil [])]) (.iv (.bool false)) (dg 65536 n.natAbs).length n.natAbs [] (.tup []) h0 (by omega) (Nat.le_refl _) (by simp; omega)
    rw [List.nil_append, e0, e1, show (n.natAbs : Int) = n by omega] at e
    rw [show (n.natAbs : Int) = n by omega] at h42 hst sn ⊢
    have u3 := u1 (by omega)
    rw [decide_eq_false hn] at h42 sn ⊢
    generalize dg 65536 n = D at *
    simp (config := { maxSteps := 4000000 }) (disch := omega) only [t25, go_sem, Nat.reduceAdd, Nat.reduceSub, Nat.reduceLT, Nat.reduceLeDiff, Nat.reduceEqDiff, Nat.reduceBEq, reduceIte, reduceCtorEq, Int.reduceEq, Int.reduceLT, Int.reduceLE, Int.reduceAdd, Int.reduceSub, Int.reduceMul, Int.reduceToNat, Int.reduceNeg, Int.reduceBEq, Int.reducePow, Nat.reducePow, u3, e, hst, cpR_pure h42, sn, resB_ret, resO_some]
/-! ### Small -/
def s21A : TCode := (.region [⟨.mov (.loc 10), (some 6), none⟩])
def s21B : TCode := (.block 1
    (.region [⟨.load1 (.loc 5), none, none⟩, ⟨.bin .shl (.reg 0) (.cst (.int .u64 16)), none, none⟩, ⟨.mov (.loc 6), none, none⟩, ⟨.conv (.toInt .u64) (.reg 2), none, none⟩, ⟨.bin .or (.reg 1) (.reg 3), none, none⟩, ⟨.store 1 (.loc 5) (.reg 4), none, none⟩]))
def s21S (t : Tag) (l : List Int) (E : Env) (w : Int) : Store := [.cells 80 false [.iv (.int .u64 w)], .cells 24 false [.iv (.sl t (one d16 l))], .lp .ready none E [9, 10] s21A s21B]
def s21E (x0 x2 x3 x4 x6 x7 x8 x9 x10 x11 x12 : TV) : Env := [x0, .hole, x2, x3, x4, .ptr 0 80 0, x6, x7, x8, x9, x10, x11, x12]
theorem u64_shl16 {r : Int} (h : 0 ≤ r ∧ r ≤ 281474976710655) : IntKind.u64.wrap (r * 65536) = r * 65536 := wrap_u64 (by omega)
theorem u64_or16 {r a : Int} (hr : 0 ≤ r ∧ r ≤ 281474976710655) (ha : 0 ≤ a ∧ a ≤ 65535) : IntKind.u64.wrap (bOr 64 (r * 65536) a) = 65536 * r + a := by
  have h := or_add (w := 64) (k := 16) (a := r * 65536) (b := a) (by omega) (by omega) (by decide) (by omega)
  unfold bOr
  rw [h, wrap_u64 (by omega)]
  omega
theorem yld21 (t : Tag) (l : List Int) (x0 x2 x3 x4 x6 x7 x8 x9 x10 x11 x12 : TV) (w k a : Int) (hw : 0 ≤ w ∧ w ≤ 281474976710655) (ha : 0 ≤ a ∧ a ≤ 65535) :
    (lim K).yld 2 [.iv (.int .i64 k), .iv (.int .u16 a)] (s21S t l (s21E x0 x2 x3 x4 x6 x7 x8 x9 x10 x11 x12) w) = .ret (.iv (.bool true), s21S t l (s21E x0 x2 x3 x4 x6 x7 x8 x9 x10 x11 x12) (65536 * w + a)) := by
  have h1 := u64_shl16 hw
  have h2 := u64_or16 hw ha
  have hm : 0 ≤ 65536 * w + a := by omega
  refine yld_true (env2 := [x0, .hole, x2, x3, x4, .ptr 0 80 0, .iv (.int .u16 a), x7, x8, .iv (.int .i64 k), .iv (.int .u16 a), x11, x12]) (env3 := [x0, .hole, x2, x3, x4, .ptr 0 80 0, .iv (.int .u16 a), x7, x8, .iv (.int .i64 k), .iv (.int .u16 a), x11, x12]) (S1 := s21S t l (s21E x0 x2 x3 x4 x6 x7 x8 x9 x10 x11 x12) w) (S2 := [.cells 80 false [.iv (.int .u64 (65536 * w + a))], .cells 24 false [.iv (.sl t (one d16 l))], .lp .busy none (s21E x0 x2 x3 x4 x6 x7 x8 x9 x10 x11 x12) [9, 10] s21A s21B]) rfl rfl ?_ rfl ?_ rfl
  · simp (config := { maxSteps := 4000000 }) (disch := omega) only [s21S, s21A, s21E, go_sem, Nat.reduceAdd, Nat.reduceSub, Nat.reduceLT, Nat.reduceLeDiff, Nat.reduceEqDiff, Nat.reduceBEq, reduceIte, reduceCtorEq, Int.reduceEq, Int.reduceLT, Int.reduceLE, Int.reduceAdd, Int.reduceSub, Int.reduceMul, Int.reduceToNat, Int.reduceNeg, Int.reduceBEq, Int.reducePow, Nat.reducePow]
  · simp (config := { maxSteps := 4000000 }) (disch := omega) only [s21S, s21B, s21E, go_sem, Nat.reduceAdd, Nat.reduceSub, Nat.reduceLT, Nat.reduceLeDiff, Nat.reduceEqDiff, Nat.reduceBEq, reduceIte, reduceCtorEq, Int.reduceEq, Int.reduceLT, Int.reduceLE, Int.reduceAdd, Int.reduceSub, Int.reduceMul, Int.reduceToNat, Int.reduceNeg, Int.reduceBEq, Int.reducePow, Nat.reducePow, h1, h2, wrap_u64, storeV_c, storeC_eq, cellsOf_int]
theorem loop75 (t : Tag) (l : List Int) (hd : Dig 65536 l) (hl : l.length ≤ 4) (x0 x2 x3 x4 x6 x7 x8 x9 x10 x11 x12 : TV) : ∀ (k : Nat) (y3 y4 : TV), k ≤ l.length →
    ∃ z3 z4, lp' (lim K) t75L0 [.yld 2, .ptr 1 24 0, .iv (.int .i64 ((k : Int) - 1)), y3, y4] (s21S t l (s21E x0 x2 x3 x4 x6 x7 x8 x9 x10 x11 x12) (val 65536 (l.drop k))) = .ret (.exit 0, [.yld 2, .ptr 1 24 0, .iv (.int .i64 (-1)), z3, z4], s21S t l (s21E x0 x2 x3 x4 x6 x7 x8 x9 x10 x11 x12) (val 65536 l))
  | 0, y3, y4, h => by
    refine ⟨?_, ?_, loop_at K _ _ t75L0.eq_1 ?_⟩
    rotate_left 2
    · rw [List.drop_zero]
      simp (disch := omega) only [go_sem, Nat.reduceAdd, Nat.reduceSub, Nat.reduceLT, Nat.reduceLeDiff, Nat.reduceEqDiff, Nat.reduceBEq, reduceIte, reduceCtorEq, Int.reduceEq, Int.reduceLT, Int.reduceLE, Int.reduceAdd, Int.reduceSub, Int.reduceMul, Int.reduceToNat, Int.reduceNeg, Int.reduceBEq, Int.reducePow, Nat.reducePow]
      rfl
  | k + 1, y3, y4, h => by
    have hlt : k < l.length := by omega
    have hix := ix_one d16 (t := t) (l := l) (i := (k : Int)) (by omega)
    rw [Int.toNat_natCast] at hix
    have hg := hd.getD hlt
    have hdr := drop_getD hlt
    have hb : val 65536 (l.drop (k + 1)) < 65536 ^ (l.drop (k + 1)).length := val_lt (by decide) (hd.drop (k + 1))
    have hb2 : (65536 : Int) ^ (l.drop (k + 1)).length ≤ 65536 ^ 3 := pow_le' (by decide) (by simp; omega)
    have hn1 : 0 ≤ val 65536 (l.drop (k + 1)) := val_nonneg (by decide) (hd.drop (k + 1))
    obtain ⟨z3, z4, ih⟩ := loop75 t l hd hl x0 x2 x3 x4 x6 x7 x8 x9 x10 x11 x12 k (.iv (.bool true)) (.iv (.bool false)) (by omega)
    have e : val 65536 (l.drop k) = 65536 * val 65536 (l.drop (k + 1)) + l.getD k default := by rw [hdr]; simp only [val]; omega
    rw [e] at ih
    refine ⟨z3, z4, loop_at K _ _ t75L0.eq_1 ?_⟩
    have e1 : ((k : Int) + 1 - 1) = k := by omega
    have hb3 : val 65536 (l.drop (k + 1)) < 281474976710656 := Int.lt_of_lt_of_le hb (by simpa using hb2)
    have hy := yld21 t l x0 x2 x3 x4 x6 x7 x8 x9 x10 x11 x12 (val 65536 (l.drop (k + 1))) k (l.getD k default) (by omega) (by omega)
    simp only [d16] at hix
    generalize l.getD k default = a at *
    generalize val 65536 (l.drop (k + 1)) = w at *
    have hc : ∀ env, getCells env (s21S t l (s21E x0 x2 x3 x4 x6 x7 x8 x9 x10 x11 x12) w) (.ptr 1 24 0) 1 = some [.iv (.sl t (one d16 l))] := fun _ => rfl
    generalize s21S t l (s21E x0 x2 x3 x4 x6 x7 x8 x9 x10 x11 x12) w = Sw at *
    simp (config := { maxSteps := 4000000 }) (disch := omega) only [go_sem, Nat.reduceAdd, Nat.reduceSub, Nat.reduceLT, Nat.reduceLeDiff, Nat.reduceEqDiff, Nat.reduceBEq, reduceIte, reduceCtorEq, Int.reduceEq, Int.reduceLT, Int.reduceLE, Int.reduceAdd, Int.reduceSub, Int.reduceMul, Int.reduceToNat, Int.reduceNeg, Int.reduceBEq, Int.reducePow, Nat.reducePow, Int.natCast_add, Int.cast_ofNat_Int, e1, hc, hix, wrap_i64, hy, er_ret]
    exact congrArg er ih
theorem call75 (t : Tag) (l : List Int) (hd : Dig 65536 l) (hl : l.length ≤ 4) (x0 x2 x3 x4 x6 x7 x8 x9 x10 x11 x12 : TV) :
    (lim K).call 75 [.yld 2, .ptr 1 24 0] (s21S t l (s21E x0 x2 x3 x4 x6 x7 x8 x9 x10 x11 x12) 0) = .ret (.tup [], s21S t l (s21E x0 x2 x3 x4 x6 x7 x8 x9 x10 x11 x12) (val 65536 l)) := by
  obtain ⟨z3, z4, e⟩ := loop75 t l hd hl x0 x2 x3 x4 x6 x7 x8 x9 x10 x11 x12 l.length (.tup []) (.tup []) (Nat.le_refl _)
  rw [List.drop_length, show val 65536 [] = 0 from rfl] at e
  refine call_ret' K _ (fn := t75) rfl rfl ?_
  have hc : ∀ env, getCells env (s21S t l (s21E x0 x2 x3 x4 x6 x7 x8 x9 x10 x11 x12) 0) (.ptr 1 24 0) 1 = some [.iv (.sl t (one d16 l))] := fun _ => rfl
  generalize s21S t l (s21E x0 x2 x3 x4 x6 x7 x8 x9 x10 x11 x12) 0 = Sw at *
  simp (config := { maxSteps := 4000000 }) (disch := omega) only [t75, go_sem, Nat.reduceAdd, Nat.reduceSub, Nat.reduceLT, Nat.reduceLeDiff, Nat.reduceEqDiff, Nat.reduceBEq, reduceIte, reduceCtorEq, Int.reduceEq, Int.reduceLT, Int.reduceLE, Int.reduceAdd, Int.reduceSub, Int.reduceMul, Int.reduceToNat, Int.reduceNeg, Int.reduceBEq, Int.reducePow, Nat.reducePow, hc, one_length, wrap_i64, e]
def fit (z : Int) : Bool := decide (-9223372036854775808 ≤ z ∧ z ≤ 9223372036854775807)
def small (z : Int) : TV := .tup [.iv (.int .i64 (if fit z then z else 0)), .iv (.bool (fit z))]
theorem neg_i64 {m : Int} (h : 0 ≤ m ∧ m ≤ 9223372036854775808) : IntKind.i64.wrap (IntKind.u64.wrap (0 - m)) = -m := by
  rw [wrap_u64_mod]
  unfold IntKind.wrap
  simp [IntKind.bits, IntKind.signed]
  omega
theorem call52 (t : Tag) (l : List Int) (w : Int) : (lim K).call 52 [.iv (.sl t (one d16 l))] [.cells 80 false [.iv (.int .u64 w)]] = .ret (.fn 75 [] [.ptr 1 24 0], [.cells 80 false [.iv (.int .u64 w)], .cells 24 false [.iv (.sl t (one d16 l))]]) := by
  refine call_ret' K _ (fn := t52) rfl rfl ?_
  simp (config := { maxSteps := 4000000 }) (disch := omega) only [t52, go_sem, Nat.reduceAdd, Nat.reduceSub, Nat.reduceLT, Nat.reduceLeDiff, Nat.reduceEqDiff, Nat.reduceBEq, reduceIte, reduceCtorEq, Int.reduceEq, Int.reduceLT, Int.reduceLE, Int.reduceAdd, Int.reduceSub, Int.reduceMul, Int.reduceToNat, Int.reduceNeg, Int.reduceBEq, Int.reducePow, Nat.reducePow]
theorem call21 (neg : Bool) (t : Tag) (l : List Int) (ht : TagOk t l) (hd : Dig 65536 l) (hl : l.length ≤ 1000000) : Pure K 21 [.iv (num neg t l)] (small (sv neg (val 65536 l))) := by
  obtain ⟨t', h1, h40⟩ := call40 t l ht hl
  have hv := val_nonneg (by decide) hd
  have hlen := tr_len l
  rw [tr_eq (by decide) hd] at h1 h40 hlen
  have hdd := dg_dig (B := 65536) (n := val 65536 l) (by decide) hv
  have hvd := val_dg (B := 65536) (n := val 65536 l) (by decide) hv
  generalize val 65536 l = v at *
  simp only [num]
  refine call_pure t21 rfl rfl ?_
  by_cases h4 : (dg 65536 v).length ≤ 4
  · have hb : v < 65536 ^ (dg 65536 v).length := by have := val_lt (B := 65536) (by decide) hdd; rwa [hvd] at this
    have hb2 : (65536 : Int) ^ (dg 65536 v).length ≤ 65536 ^ 4 := pow_le' (by decide) h4
    have hb3 : v < 18446744073709551616 := Int.lt_of_lt_of_le hb (by simpa using hb2)
    have h75 := call75 t' (dg 65536 v) hdd h4
    rw [hvd] at h75
    have h52 := call52 t' (dg 65536 v) 0
    have hu : IntKind.u64.wrap v = v := wrap_u64 (by omega)
    generalize dg 65536 v = D at *
    simp only [s21S, s21E, s21A, s21B] at h75
    cases neg
    · by_cases hf : v ≤ 9223372036854775807
      · have hs : small (sv false v) = .tup [.iv (.int .i64 v), .iv (.bool true)] := by
          have : fit v = true := decide_eq_true (by omega)
          simp [small, sv, this]
        rw [hs]
        simp (config := { maxSteps := 4000000 }) (disch := omega) only [t21, go_sem, Nat.reduceAdd, Nat.reduceSub, Nat.reduceLT, Nat.reduceLeDiff, Nat.reduceEqDiff, Nat.reduceBEq, reduceIte, reduceCtorEq, Int.reduceEq, Int.reduceLT, Int.reduceLE, Int.reduceAdd, Int.reduceSub, Int.reduceMul, Int.reduceToNat, Int.reduceNeg, Int.reduceBEq, Int.reducePow, Nat.reducePow, h40, h52, h75, er_ret, wrap_i64, one_length, resB_ret, resO_some]
      · have hs : small (sv false v) = .tup [.iv (.int .i64 0), .iv (.bool false)] := by
          have : fit v = false := decide_eq_false (by omega)
          simp [small, sv, this]
        rw [hs]
        simp (config := { maxSteps := 4000000 }) (disch := omega) only [t21, go_sem, Nat.reduceAdd, Nat.reduceSub, Nat.reduceLT, Nat.reduceLeDiff, Nat.reduceEqDiff, Nat.reduceBEq, reduceIte, reduceCtorEq, Int.reduceEq, Int.reduceLT, Int.reduceLE, Int.reduceAdd, Int.reduceSub, Int.reduceMul, Int.reduceToNat, Int.reduceNeg, Int.reduceBEq, Int.reducePow, Nat.reducePow, h40, h52, h75, er_ret, wrap_i64, one_length, resB_ret, resO_some]
    · by_cases hf : v ≤ 9223372036854775808
      · have hs : small (sv true v) = .tup [.iv (.int .i64 (-v)), .iv (.bool true)] := by
          have : fit (-v) = true := decide_eq_true (by omega)
          simp [small, sv, this]
        have hng := neg_i64 (m := v) (by omega)
        rw [hs]
        simp (config := { maxSteps := 4000000 }) (disch := omega) only [t21, go_sem, Nat.reduceAdd, Nat.reduceSub, Nat.reduceLT, Nat.reduceLeDiff, Nat.reduceEqDiff, Nat.reduceBEq, reduceIte, reduceCtorEq, Int.reduceEq, Int.reduceLT, Int.reduceLE, Int.reduceAdd, Int.reduceSub, Int.reduceMul, Int.reduceToNat, Int.reduceNeg, Int.reduceBEq, Int.reducePow, Nat.reducePow, h40, h52, h75, er_ret, hng, wrap_i64, one_length, resB_ret, resO_some]
      · have hs : small (sv true v) = .tup [.iv (.int .i64 0), .iv (.bool false)] := by
          have : fit (-v) = false := decide_eq_false (by omega)
          simp [small, sv, this]
        rw [hs]
        simp (config := { maxSteps := 4000000 }) (disch := omega) only [t21, go_sem, Nat.reduceAdd, Nat.reduceSub, Nat.reduceLT, Nat.reduceLeDiff, Nat.reduceEqDiff, Nat.reduceBEq, reduceIte, reduceCtorEq, Int.reduceEq, Int.reduceLT, Int.reduceLE, Int.reduceAdd, Int.reduceSub, Int.reduceMul, Int.reduceToNat, Int.reduceNeg, Int.reduceBEq, Int.reducePow, Nat.reducePow, h40, h52, h75, er_ret, wrap_i64, one_length, resB_ret, resO_some]
  · have hbig : 18446744073709551616 ≤ v := by
      rcases Int.lt_or_le v 18446744073709551616 with g | g
      · exact absurd (dg_len (by decide) 4 v hv (by simpa using g)) h4
      · exact g
    have hs : small (sv neg v) = .tup [.iv (.int .i64 0), .iv (.bool false)] := by
      cases neg
      · have : fit v = false := decide_eq_false (by omega)
        simp [small, sv, this]
      · have : fit (-v) = false := decide_eq_false (by omega)
        simp [small, sv, this]
    rw [hs]
    generalize dg 65536 v = D at *
    simp (config := { maxSteps := 4000000 }) (disch := omega) only [t21, go_sem, Nat.reduceAdd, Nat.reduceSub, Nat.reduceLT, Nat.reduceLeDiff, Nat.reduceEqDiff, Nat.reduceBEq, reduceIte, reduceCtorEq, Int.reduceEq, Int.reduceLT, Int.reduceLE, Int.reduceAdd, Int.reduceSub, Int.reduceMul, Int.reduceToNat, Int.reduceNeg, Int.reduceBEq, Int.reducePow, Nat.reducePow, h40, wrap_i64, one_length, resB_ret, resO_some]
def fixn (z : Int) : TV := .tup [.iv (.int .i64 (if decide (-536870912 ≤ z ∧ z ≤ 536870911) then z else 0)), .iv (.bool (decide (-536870912 ≤ z ∧ z ≤ 536870911)))]
theorem call23 (neg : Bool) (t : Tag) (l : List Int) (ht : TagOk t l) (hd : Dig 65536 l) (hl : l.length ≤ 1000000) : Pure K 23 [.iv (num neg t l)] (fixn (sv neg (val 65536 l))) := by
  have h21 := call21 neg t l ht hd hl
  generalize sv neg (val 65536 l) = z at *
  refine call_pure t23 rfl rfl ?_
  simp only [num] at h21 ⊢
  by_cases hf : -536870912 ≤ z ∧ z ≤ 536870911
  · have e1 : fit z = true := decide_eq_true (by omega)
    simp only [small, e1, ↓reduceIte] at h21
    simp only [fixn, decide_eq_true hf, ↓reduceIte]
    simp (config := { maxSteps := 4000000 }) (disch := omega) only [t23, go_sem, Nat.reduceAdd, Nat.reduceSub, Nat.reduceLT, Nat.reduceLeDiff, Nat.reduceEqDiff, Nat.reduceBEq, reduceIte, reduceCtorEq, Int.reduceEq, Int.reduceLT, Int.reduceLE, Int.reduceAdd, Int.reduceSub, Int.reduceMul, Int.reduceToNat, Int.reduceNeg, Int.reduceBEq, Int.reducePow, Nat.reducePow, cpR_pure h21, resB_ret, resO_some]
  · simp only [fixn, decide_eq_false hf, Bool.false_eq_true, ↓reduceIte]
    by_cases e1 : fit z = true
    · simp only [small, e1, ↓reduceIte] at h21
      by_cases hlo : z < -536870912
      · simp (config := { maxSteps := 4000000 }) (disch := omega) only [t23, go_sem, Nat.reduceAdd, Nat.reduceSub, Nat.reduceLT, Nat.reduceLeDiff, Nat.reduceEqDiff, Nat.reduceBEq, reduceIte, reduceCtorEq, Int.reduceEq, Int.reduceLT, Int.reduceLE, Int.reduceAdd, Int.reduceSub, Int.reduceMul, Int.reduceToNat, Int.reduceNeg, Int.reduceBEq, Int.reducePow, Nat.reducePow, cpR_pure h21, resB_ret, resO_some]
      · simp (config := { maxSteps := 4000000 }) (disch := omega) only [t23, go_sem, Nat.reduceAdd, Nat.reduceSub, Nat.reduceLT, Nat.reduceLeDiff, Nat.reduceEqDiff, Nat.reduceBEq, reduceIte, reduceCtorEq, Int.reduceEq, Int.reduceLT, Int.reduceLE, Int.reduceAdd, Int.reduceSub, Int.reduceMul, Int.reduceToNat, Int.reduceNeg, Int.reduceBEq, Int.reducePow, Nat.reducePow, cpR_pure h21, resB_ret, resO_some]
    · have e2 : fit z = false := by simpa using e1
      simp only [small, e2, Bool.false_eq_true, ↓reduceIte] at h21
      simp (config := { maxSteps := 4000000 }) (disch := omega) only [t23, go_sem, Nat.reduceAdd, Nat.reduceSub, Nat.reduceLT, Nat.reduceLeDiff, Nat.reduceEqDiff, Nat.reduceBEq, reduceIte, reduceCtorEq, Int.reduceEq, Int.reduceLT, Int.reduceLE, Int.reduceAdd, Int.reduceSub, Int.reduceMul, Int.reduceToNat, Int.reduceNeg, Int.reduceBEq, Int.reducePow, Nat.reducePow, cpR_pure h21, resB_ret, resO_some]
end Go.Proofs.YtdbffhgfjmhaiaaDoor
