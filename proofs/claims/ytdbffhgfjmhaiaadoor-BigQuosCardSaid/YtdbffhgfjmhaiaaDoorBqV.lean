/- The document's Quo. Condition: none. -/
import Derived.Test.YtdbffhgfjmhaiaaDoorBqZ
import Derived.Test.YtdbffhgfjmhaiaaDoorBqQ
set_option maxRecDepth 100000
set_option maxHeartbeats 2000000
set_option linter.unusedSimpArgs false
set_option linter.unusedVariables false
namespace Go.Proofs.YtdbffhgfjmhaiaaDoor
open Go Go.TM
theorem loop35a (n1 n2 : Bool) (t1 t2 : Tag) (a : List Int) (vb : Int) (hvb : 0 < vb) (lb : (dg 10 vb).length ≤ 400) (x0 x1 x4 x5 x6 x8 x9 x11 x12 x13 : TV) (S : Store) : ∀ (k : Nat) (v nn : Int) (tg : Tag) (x14 : TV), 0 ≤ v → v < 10 * vb → v / vb = k → 0 ≤ nn ∧ nn + k ≤ 100 → TagOk tg (dg 10 v) →
    ∃ tg' y14, TagOk tg' (dg 10 (v % vb)) ∧ lp' (lim K) t35L0 [x0, x1, .lb [.iv (.bool n1), .iv (.sl t1 (one i64 a))], .lb [.iv (.bool n2), .iv (.sl t2 (one i64 (dg 10 vb)))], x4, x5, x6, .iv (.sl tg (one i64 (dg 10 v))), x8, x9, .iv (.int .i64 nn), x11, x12, x13, x14] S = .ret (.exit 2, [x0, x1, .lb [.iv (.bool n1), .iv (.sl t1 (one i64 a))], .lb [.iv (.bool n2), .iv (.sl t2 (one i64 (dg 10 vb)))], x4, x5, x6, .iv (.sl tg' (one i64 (dg 10 (v % vb)))), x8, x9, .iv (.int .i64 (nn + k)), x11, x12, x13, y14], S) := by
  intro k
  induction k with
  | zero =>
    intro v nn tg x14 h0 h10 hk hn ht
    have hlt : v < vb := by
      rcases Int.lt_or_le v vb with h | h
      · exact h
      · exfalso
        have := Int.le_ediv_of_mul_le hvb (show 1 * vb ≤ v by omega)
        omega
    have hl := dg_len (B := 10) (by decide) ((dg 10 vb).length + 1) v h0 (by
      have h1 := val_lt (B := 10) (by decide) (dg_dig (n := vb) (by decide) (by omega))
      rw [val_dg (by decide) (by omega)] at h1
      rw [Int.pow_succ]; omega)
    have h56 := call56 tg t2 (dg 10 v) (dg 10 vb) (dg_dig (by decide) h0) (dg_dig (by decide) (by omega)) (tr_dg (by decide) h0) (tr_dg (by decide) (by omega)) (by omega) (by omega)
    rw [val_dg (by decide) h0, val_dg (by decide) (by omega), cmpI_lt hlt] at h56
    have e : v % vb = v := Int.emod_eq_of_lt h0 hlt
    rw [e]
    refine ⟨tg, .iv (.bool false), ht, loop_at K _ _ t35L0.eq_1 ?_⟩
    have e2 : nn + ((0 : Nat) : Int) = nn := by omega
    rw [e2]
    generalize dg 10 v = V at *
    generalize dg 10 vb = W at *
    simp (config := { maxSteps := 4000000 }) (disch := omega) only [go_sem, Nat.reduceAdd, Nat.reduceSub, Nat.reduceLT, Nat.reduceLeDiff, Nat.reduceEqDiff, Nat.reduceBEq, reduceIte, reduceCtorEq, Int.reduceEq, Int.reduceLT, Int.reduceLE, Int.reduceAdd, Int.reduceSub, Int.reduceMul, Int.reduceToNat, Int.reduceNeg, Int.reduceBEq, Int.reducePow, Nat.reducePow, h56]
    try rfl
  | succ k ih =>
    intro v nn tg x14 h0 h10 hk hn ht
    have hge : vb ≤ v := by
      rcases Int.lt_or_le v vb with h | h
      · exfalso
        rw [Int.ediv_eq_zero_of_lt h0 h] at hk
        omega
      · exact h
    have hl := dg_len (B := 10) (by decide) ((dg 10 vb).length + 1) v h0 (by
      have h1 := val_lt (B := 10) (by decide) (dg_dig (n := vb) (by decide) (by omega))
      rw [val_dg (by decide) (by omega)] at h1
      rw [Int.pow_succ]; omega)
    have dV := dg_dig (B := 10) (n := v) (by decide) h0
    have dW := dg_dig (B := 10) (n := vb) (by decide) (by omega)
    have h56 := call56 tg t2 (dg 10 v) (dg 10 vb) dV dW (tr_dg (by decide) h0) (tr_dg (by decide) (by omega)) (by omega) (by omega)
    have hc : ¬ cmpI v vb < 0 := by rw [cmpI_neg]; omega
    rw [val_dg (by decide) h0, val_dg (by decide) (by omega)] at h56
    have hle := tr_len_le (B := 10) (by decide) dV dW (by rw [val_dg (by decide) h0, val_dg (by decide) (by omega)]; exact hge)
    rw [tr_dg (by decide) h0, tr_dg (by decide) (by omega)] at hle
    obtain ⟨t3, o1, h58⟩ := call58 tg t2 (dg 10 v) (dg 10 vb) dV dW (by omega) hle (by rw [val_dg (by decide) h0, val_dg (by decide) (by omega)]; exact hge)
    rw [val_dg (by decide) h0, val_dg (by decide) (by omega)] at o1 h58
    have hdiv : (v - vb) / vb = k := by
      have : (v - vb) / vb = v / vb - 1 := by
        have := Int.add_mul_ediv_right v (-1) (show vb ≠ 0 by omega)
        rw [show v + -1 * vb = v - vb by omega] at this
        omega
      omega
    have hmod : (v - vb) % vb = v % vb := by
      have := Int.add_mul_emod_self_right v (-1) vb
      rw [show v + -1 * vb = v - vb by omega] at this
      exact this
    obtain ⟨tg', y14, r1, e⟩ := ih (v - vb) (nn + 1) t3 (.iv (.bool true)) (by omega) (by omega) hdiv (by omega) o1
    rw [hmod] at r1 e
    refine ⟨tg', y14, r1, loop_at K _ _ t35L0.eq_1 ?_⟩
    have e2 : nn + ((k + 1 : Nat) : Int) = nn + 1 + k := by omega
    rw [e2]
    generalize dg 10 (v - vb) = U at *
    generalize dg 10 (v % vb) = M at *
    generalize dg 10 v = V at *
    generalize dg 10 vb = W at *
    generalize cmpI v vb = r at *
    simp (config := { maxSteps := 4000000 }) (disch := omega) only [go_sem, Nat.reduceAdd, Nat.reduceSub, Nat.reduceLT, Nat.reduceLeDiff, Nat.reduceEqDiff, Nat.reduceBEq, reduceIte, reduceCtorEq, Int.reduceEq, Int.reduceLT, Int.reduceLE, Int.reduceAdd, Int.reduceSub, Int.reduceMul, Int.reduceToNat, Int.reduceNeg, Int.reduceBEq, Int.reducePow, Nat.reducePow, h56, cpR_pure h58, wrap_i64]
    exact congrArg er e
def QV (x : TV) (Q : List Int) : Prop := (x = .iv (.sl .nil (one i64 [])) ∧ Q = []) ∨ ∃ j, x = .tsl j (one i64 Q)
theorem QV.loc {x : TV} {Q : List Int} (h : QV x Q) (j : Nat) : locV j x = x := by
  rcases h with ⟨rfl, _⟩ | ⟨i, rfl⟩ <;> rfl
theorem QV.nlp {x : TV} {Q : List Int} (h : QV x Q) : isLp x = false := by
  rcases h with ⟨rfl, _⟩ | ⟨i, rfl⟩ <;> rfl
theorem QV.resK {x : TV} {Q : List Int} (h : QV x Q) : resK x = some x := by
  rcases h with ⟨rfl, _⟩ | ⟨i, rfl⟩ <;> rfl
theorem QV.wb {x : TV} {Q : List Int} (h : QV x Q) (K : Prog) (O : Orc) (j : Nat) (ops : List TOper) (i : Nat) (M : List (Nat × TV)) (n : Nat) (fs : List Fr) (env : Env) (S : Store) : wbV' K O x j ops i M n fs env S = wbk' K O ops (i + 1) M n fs (env.set j x) S := by
  rcases h with ⟨rfl, _⟩ | ⟨k, rfl⟩
  · exact wbV_iv' K O ops i M n fs env S _ j
  · exact wbV_tsl' K O ops i M n fs env S _ _ j
theorem QV.nms {x : TV} {Q : List Int} (h : QV x Q) : isMsl x = false := by
  rcases h with ⟨rfl, _⟩ | ⟨i, rfl⟩ <;> rfl
theorem QV.sam {x : TV} {Q : List Int} (h : QV x Q) : same x x = true := by
  rcases h with ⟨rfl, _⟩ | ⟨k, rfl⟩
  · exact same_iv _
  · exact same_tsl _ _
theorem QV.close {x : TV} {Q : List Int} (h : QV x Q) (S : Store) : ∃ t, TagOk t Q ∧ closeArg S x = some (.iv (.sl t (one i64 Q))) := by
  rcases h with ⟨rfl, rfl⟩ | ⟨i, rfl⟩
  · exact ⟨.nil, TagOk.nil, rfl⟩
  · exact ⟨.no, TagOk.no _, rfl⟩
theorem QV.push {x : TV} {Q : List Int} (h : QV x Q) (S : Store) (n : Int) (hl : Q.length ≤ 100000) : ∃ R, appendOp false 1 8 3 (S ++ [.tok 1 1 3]) (.tsl S.length (one i64 [n])) x = some (.tsl S.length (one i64 (n :: Q)), S ++ R) := by
  rcases h with ⟨rfl, rfl⟩ | ⟨i, rfl⟩
  · exact ⟨[.tok 1 1 3], ap_nil rfl (IsEl.sl _ _ _)⟩
  · refine ⟨[.tok (1 + Q.length) 1 3], ?_⟩
    have h := ap_tsl (w := 1) (b := 8) (el := 3) (i := S.length) (S := S ++ [.tok 1 1 3]) (l := one i64 [n]) (ys := one i64 Q) (x := .tsl i (one i64 Q)) (IsEl.tsl _ _ _) (Elems.one (f := i64) (fun _ => rfl) Q) (Elems.one (f := i64) (fun _ => rfl) [n]) (get_last S (.tok 1 1 3)) (roomy_ok (by rw [one_length, one_length, List.length_singleton]; omega))
    rw [set_last, one_length, one_length] at h
    exact h
theorem one1 (n : Int) : [[IV.int .i64 n]] = one i64 [n] := rfl
theorem loop35b (n1 n2 : Bool) (t1 t2 : Tag) (a : List Int) (ha : Dig 10 a) (la : a.length ≤ 400) (vb : Int) (hvb : 0 < vb) (lb : (dg 10 vb).length ≤ 400) (x0 x1 x4 x5 x6 : TV) : ∀ (k : Nat) (v : Int) (tg : Tag) (Q : List Int) (qv : TV) (S : Store) (x10 x11 x12 x13 x14 : TV), k ≤ a.length → 0 ≤ v → v < vb → TagOk tg (dg 10 v) → QV qv Q → Dig 10 Q → Q.length + k ≤ 400 → val 10 (a.drop k) = vb * val 10 Q + v →
    ∃ v' tg' Q' qv' S' y10 y11 y13 y14, 0 ≤ v' ∧ v' < vb ∧ TagOk tg' (dg 10 v') ∧ QV qv' Q' ∧ Dig 10 Q' ∧ Q'.length ≤ 400 ∧ val 10 a = vb * val 10 Q' + v' ∧ lp' (lim K) t35L1 [x0, x1, .lb [.iv (.bool n1), .iv (.sl t1 (one i64 a))], .lb [.iv (.bool n2), .iv (.sl t2 (one i64 (dg 10 vb)))], x4, x5, x6, .iv (.sl tg (one i64 (dg 10 v))), qv, .iv (.int .i64 ((k : Int) - 1)), x10, x11, x12, x13, x14] S = .ret (.exit 0, [x0, x1, .lb [.iv (.bool n1), .iv (.sl t1 (one i64 a))], .lb [.iv (.bool n2), .iv (.sl t2 (one i64 (dg 10 vb)))], x4, x5, x6, .iv (.sl tg' (one i64 (dg 10 v'))), qv', .iv (.int .i64 (-1)), y10, y11, x12, y13, y14], S') := by
  intro k
  induction k with
  | zero =>
    intro v tg Q qv S x10 x11 x12 x13 x14 hk h0 h1 ht hq hQ hl hv
    rw [List.drop_zero] at hv
    refine ⟨v, tg, Q, qv, S, x10, x11, .iv (.bool false), x14, h0, h1, ht, hq, hQ, by omega, hv, loop_at K _ _ t35L1.eq_1 ?_⟩
    simp (disch := omega) only [go_sem, Nat.reduceAdd, Nat.reduceSub, Nat.reduceLT, Nat.reduceLeDiff, Nat.reduceEqDiff, Nat.reduceBEq, reduceIte, reduceCtorEq, Int.reduceEq, Int.reduceLT, Int.reduceLE, Int.reduceAdd, Int.reduceSub, Int.reduceMul, Int.reduceToNat, Int.reduceNeg, Int.reduceBEq, Int.reducePow, Nat.reducePow]
    try rfl
  | succ k ih =>
    intro v tg Q qv S x10 x11 x12 x13 x14 hk h0 h1 ht hq hQ hl hv
    have hlt : k < a.length := by omega
    have hix := ix_one i64 (t := t1) (l := a) (i := (k : Int)) (by omega)
    rw [Int.toNat_natCast] at hix
    have hg := ha.getD hlt
    have hdr := drop_getD hlt
    have dV := dg_dig (B := 10) (n := v) (by decide) h0
    have lV := dg_len (B := 10) (by decide) (dg 10 vb).length v h0 (by
      have h1 := val_lt (B := 10) (by decide) (dg_dig (n := vb) (by decide) (by omega))
      rw [val_dg (by decide) (by omega)] at h1
      omega)
    have c1 := call60 tg (dg 10 v) dV (by omega) 10 (by omega) 0 (by omega)
    obtain ⟨s1, s2⟩ := tms_spec (y := 10) (m := 0) dV (by omega) (by omega)
    have s3 := tms_len2 (y := 10) (m := 0) dV (by omega) (by omega)
    rw [val_dg (by decide) h0] at s2
    obtain ⟨t3, o, o1, o2, o3, o4, c2⟩ := call57 (sTag (tms 10 (dg 10 v) 0)) .full _ [a.getD k default] s1 (Dig.cons hg Dig.nil) (by omega) (by simp)
    rw [List.length_singleton] at o3
    have o5 : val 10 o = 10 * v + a.getD k default := by rw [o4, s2]; simp [val]
    obtain ⟨t4, r1, c3⟩ := call62 t3 o o1 (by omega)
    rw [tr_eq (by decide) o2, o5] at r1 c3
    obtain ⟨w, hw⟩ : ∃ w, w = 10 * v + a.getD k default := ⟨_, rfl⟩
    rw [← hw] at r1 c3
    have hw0 : 0 ≤ w := by omega
    have hw1 : w < 10 * vb := by omega
    have hn0 : 0 ≤ w / vb := Int.ediv_nonneg hw0 (by omega)
    have hn9 : w / vb < 10 := Int.ediv_lt_of_lt_mul hvb (by omega)
    obtain ⟨n, hn⟩ : ∃ n : Nat, w / vb = n := ⟨(w / vb).toNat, by omega⟩
    obtain ⟨t5, y14, r2, e1⟩ := loop35a n1 n2 t1 t2 a vb hvb lb x0 x1 x4 x5 x6 qv (.iv (.int .i64 k)) x11 x12 (.iv (.bool true)) S n w 0 t4 x14 hw0 hw1 hn (by omega) r1
    have hm0 := Int.emod_nonneg w (show vb ≠ 0 by omega)
    have hm1 := Int.emod_lt_of_pos w hvb
    have hem := Int.mul_ediv_add_emod w vb
    rw [hn] at hem hn9
    rw [Int.zero_add] at e1
    obtain ⟨R, hpush⟩ := hq.push S (n : Int) (by omega)
    have hap := ap_new (w := 1) (b := 8) (el := 3) (S := S) (t := .nil) (l := []) (ys := one i64 [(n : Int)]) (x := .iv (.sl .full (one i64 [(n : Int)]))) (by decide) (IsEl.sl _ _ _) (Elems.one (f := i64) (fun _ => rfl) [(n : Int)]) Elems.nil (by simp [one]) (roomy_ok (by rw [one_length]; simp))
    rw [List.nil_append, one_length, List.length_nil, List.length_singleton, Nat.zero_add] at hap
    obtain ⟨v', tg', Q', qv', S', y10, y11, y13, y14', f1, f2, f3, f4, f5, f6, f7, e2⟩ := ih (w % vb) t5 ((n : Int) :: Q) (.tsl S.length (one i64 ((n : Int) :: Q))) (S ++ R) (.iv (.int .i64 n)) (.tsl S.length (one i64 [(n : Int)])) x12 (.iv (.bool true)) y14 (by omega) hm0 hm1 r2 (.inr ⟨_, rfl⟩) (Dig.cons (by omega) hQ) (by rw [List.length_cons]; omega) (by
      rw [hdr]
      simp only [val]
      rw [hv, Int.mul_add, Int.mul_add, Int.mul_left_comm vb 10]
      omega)
    refine ⟨v', tg', Q', qv', S', y10, y11, y13, y14', f1, f2, f3, f4, f5, f6, f7, loop_at K _ _ t35L1.eq_1 ?_⟩
    have e3 : ((k + 1 : Nat) : Int) - 1 = k := by omega
    rw [e3]
    simp only [i64] at hix
    clear hv hdr hem hn9 hn0 hw1 hw0 hm0 hm1 o4 o5 s2
    generalize a.getD k default = ak at *
    generalize tms 10 (dg 10 v) 0 = A1 at *
    generalize dg 10 (w % vb) = M at *
    generalize dg 10 w = U at *
    generalize dg 10 v = V at *
    generalize dg 10 vb = W at *
    simp (config := { maxSteps := 4000000 }) (disch := omega) only [go_sem, Nat.reduceAdd, Nat.reduceSub, Nat.reduceLT, Nat.reduceLeDiff, Nat.reduceEqDiff, Nat.reduceBEq, reduceIte, reduceCtorEq, Int.reduceEq, Int.reduceLT, Int.reduceLE, Int.reduceAdd, Int.reduceSub, Int.reduceMul, Int.reduceToNat, Int.reduceNeg, Int.reduceBEq, Int.reducePow, Nat.reducePow, hq.loc, hq.nlp, hq.resK, hq.wb, hq.sam, hix, one1, cpR_pure c1, cpR_pure c2, c3, e1, hap, hpush, wrap_i64]
    exact congrArg er e2
theorem dd_tdiv (x y : Int) : sv (!(decide (x < 0) == decide (y < 0))) ((x.natAbs : Int) / y.natAbs) = x.tdiv y := by
  rw [sv_tdiv _ _ (by omega) (by omega), sv_bg, sv_bg]
theorem dd_tmod (x y : Int) : sv (decide (x < 0)) ((x.natAbs : Int) % y.natAbs) = x.tmod y := by
  rw [sv_tmod _ (decide (y < 0)) (by omega) (by omega), sv_bg, sv_bg]
theorem refQuo0 (t1 t2 : Tag) (x : Int) (S : Store) : Pure K 35 [.iv (dd t1 x), .iv (dd t2 0)] (.tup [.iv (.agg [.bool false, .sl .nil []]), .iv (.agg [.bool false, .sl .nil []]), .iv (.int .i64 15)]) := by
  have e : (dg 10 ((0 : Int).natAbs : Int)) = [] := dg_zero 10
  refine call_pure t35 rfl rfl ?_
  simp only [dd_eq]
  rw [e]
  have e0 : one i64 [] = [] := rfl
  rw [e0]
  simp (config := { maxSteps := 4000000 }) (disch := omega) only [t35, go_sem, Nat.reduceAdd, Nat.reduceSub, Nat.reduceLT, Nat.reduceLeDiff, Nat.reduceEqDiff, Nat.reduceBEq, reduceIte, reduceCtorEq, Int.reduceEq, Int.reduceLT, Int.reduceLE, Int.reduceAdd, Int.reduceSub, Int.reduceMul, Int.reduceToNat, Int.reduceNeg, Int.reduceBEq, Int.reducePow, Nat.reducePow, resB_ret, resO_some]
theorem refQuo (t1 t2 : Tag) (x y : Int) (hy : y ≠ 0) (k1 : TagOk t1 (dg 10 x.natAbs)) (k2 : TagOk t2 (dg 10 y.natAbs)) (l1 : (dg 10 x.natAbs).length ≤ 390) (l2 : (dg 10 y.natAbs).length ≤ 390) :
    ∃ t3 t4, TagOk t3 (dg 10 (x.tdiv y).natAbs) ∧ TagOk t4 (dg 10 (x.tmod y).natAbs) ∧ Pure K 35 [.iv (dd t1 x), .iv (dd t2 y)] (.tup [.iv (dd t3 (x.tdiv y)), .iv (dd t4 (x.tmod y)), .iv (.int .i64 0)]) := by
  obtain ⟨v, tg, Q, qv, S', y10, y11, y13, y14, f1, f2, f3, f4, f5, f6, f7, e⟩ := loop35b (decide (x < 0)) (decide (y < 0)) t1 t2 (dg 10 x.natAbs) (dig10 x) (by omega) y.natAbs (by omega) (by omega) (.iv (dd t1 x)) (.iv (dd t2 y)) (.lb [.iv (.bool false), .iv (.sl .nil [])]) (.lb [.iv (.bool false), .iv (.sl .nil [])]) (.iv (.int .i64 0)) (dg 10 x.natAbs).length 0 .nil [] (.iv (.sl .nil (one i64 []))) [] (.tup []) (.tup []) (.iv (.bool false)) (.tup []) (.tup []) (Nat.le_refl _) (by omega) (by omega) (by rw [dg_zero]; exact TagOk.nil) (.inl ⟨rfl, rfl⟩) Dig.nil (by simp; omega) (by rw [List.drop_length]; simp [val])
  rw [val10] at f7
  have hv0 := val_nonneg (by decide) f5
  have hq : (x.natAbs : Int) / y.natAbs = val 10 Q := by
    rw [f7, Int.add_comm, Int.add_mul_ediv_left _ _ (by omega), Int.ediv_eq_zero_of_lt f1 f2, Int.zero_add]
  have hm : (x.natAbs : Int) % y.natAbs = v := by
    rw [f7, Int.add_comm, Int.add_mul_emod_self_left, Int.emod_eq_of_lt f1 f2]
  obtain ⟨tq, g1, cq⟩ := f4.close S'
  obtain ⟨t3, h3, m3⟩ := made_dd (!(decide (x < 0) == decide (y < 0))) tq Q g1 f5 (by omega) (x.tdiv y) (by rw [← hq, dd_tdiv])
  have lv := dg_len (B := 10) (by decide) 390 v f1 (by
    have h1 := val_lt (B := 10) (by decide) (dig10 y)
    rw [val10] at h1
    have h2 := pow_le' (B := 10) (by decide) l2
    omega)
  obtain ⟨t4, h4, m4⟩ := made_dd (decide (x < 0)) tg (dg 10 v) f3 (dg_dig (by decide) f1) (by omega) (x.tmod y) (by rw [val_dg (by decide) f1, ← hm, dd_tmod])
  refine ⟨t3, t4, h3, h4, call_pure t35 rfl rfl ?_⟩
  have hl : ¬ ((dg 10 y.natAbs).length : Int) = 0 := by
    intro h
    have := (dg_nil (B := 10) (by decide) (by omega)).1 (List.length_eq_zero_iff.1 (show (dg 10 y.natAbs).length = 0 by omega))
    omega
  have e0 : one i64 [] = [] := rfl
  rw [dg_zero, e0] at e
  simp only [dd_eq] at m3 m4 e ⊢
  have sn := scalar_num
  generalize decide (x.tdiv y < 0) = z1 at *
  generalize decide (x.tmod y < 0) = z2 at *
  generalize decide (x < 0) = nb at *
  generalize decide (y < 0) = nc at *
  generalize dg 10 (x.tdiv y).natAbs = Lq at *
  generalize dg 10 (x.tmod y).natAbs = Lm at *
  generalize dg 10 x.natAbs = X at *
  generalize dg 10 y.natAbs = Y at *
  generalize dg 10 v = V at *
  simp (config := { maxSteps := 4000000 }) (disch := omega) only [t35, go_sem, Nat.reduceAdd, Nat.reduceSub, Nat.reduceLT, Nat.reduceLeDiff, Nat.reduceEqDiff, Nat.reduceBEq, reduceIte, reduceCtorEq, Int.reduceEq, Int.reduceLT, Int.reduceLE, Int.reduceAdd, Int.reduceSub, Int.reduceMul, Int.reduceToNat, Int.reduceNeg, Int.reduceBEq, Int.reducePow, Nat.reducePow, f4.loc, f4.nlp, f4.resK, f4.wb, f4.sam, f4.nms, cq, hl, e, cpR_pure m3, cpR_pure m4, sn, wrap_i64, resB_ret, resO_some]
end Go.Proofs.YtdbffhgfjmhaiaaDoor
