/- LexAgain: the evaluator answers true. Condition: none. -/
import Derived.Test.YtpngkgkobapioaaDoorLxR
import Derived.Test.YtpngkgkobapioaaDoorLxM
set_option maxRecDepth 100000
set_option maxHeartbeats 16000000
set_option linter.unusedSimpArgs false
set_option linter.unusedVariables false
namespace Go.Proofs.YtpngkgkobapioaaDoor
open Go Go.TM
theorem get7' (env : Env) (S : Store) (a b c d e f g : IV) : getCells env S (.iv (.cp [a, b, c, d, e, f, g])) 7 = some [.iv a, .iv b, .iv c, .iv d, .iv e, .iv f, .iv g] := rfl
theorem get5' (env : Env) (S : Store) (a b c d e : IV) : getCells env S (.iv (.cp [a, b, c, d, e])) 5 = some [.iv a, .iv b, .iv c, .iv d, .iv e] := rfl
theorem call7 (s : List UInt8) (hl : s.length ≤ 16777216) (ts : List Tk) (h : lexL s = .inr ts) : Pure K 7 [.iv (.str s)] (.iv (.sl (sTag ts) (ts.map encT))) := by
  have h12 := call12 .no s (TagOk.no _) hl
  rw [h] at h12
  simp only [lexV, flt] at h12
  have hc := strB s (by omega)
  generalize ts.map encT = M at *
  refine call_pure t7 rfl rfl ?_
  simp (config := { maxSteps := 4000000 }) (disch := omega) only [t7, go_sem, Nat.reduceAdd, Nat.reduceSub, Nat.reduceLT, Nat.reduceLeDiff, Nat.reduceEqDiff, Nat.reduceBEq, reduceIte, reduceCtorEq, Int.reduceEq, Int.reduceLT, Int.reduceLE, Int.reduceAdd, Int.reduceSub, Int.reduceMul, Int.reduceToNat, Int.reduceNeg, Int.reduceBEq, Int.reducePow, Nat.reducePow, hc, cpR_pure h12, eqFlt0, resB_ret, resO_some]
theorem call9 (dk n : Int) (text : List UInt8) : (lim K).call 9 [.iv (.agg (encT ⟨7, 0, dk, n, text, 0⟩)), .iv (.int .i64 7), .iv (.int .i64 0)] [] = .ret (.iv (.bool true), []) := by
  simp only [encT]
  refine call_ret' K [] (fn := t9) rfl rfl ?_
  simp (config := { maxSteps := 4000000 }) (disch := omega) only [t9, go_sem, Nat.reduceAdd, Nat.reduceSub, Nat.reduceLT, Nat.reduceLeDiff, Nat.reduceEqDiff, Nat.reduceBEq, reduceIte, reduceCtorEq, Int.reduceEq, Int.reduceLT, Int.reduceLE, Int.reduceAdd, Int.reduceSub, Int.reduceMul, Int.reduceToNat, Int.reduceNeg, Int.reduceBEq, Int.reducePow, Nat.reducePow]
theorem call10 (dk n : Int) (text : List UInt8) : (lim K).call 10 [.iv (.agg (encT ⟨7, 0, dk, n, text, 0⟩)), .iv (.int .i64 dk), .iv (.int .i64 n), .iv (.str text), .iv (.int .i64 0)] [] = .ret (.iv (.bool true), []) := by
  have h9 := call9 dk n text
  simp only [encT] at h9 ⊢
  refine call_ret' K [] (fn := t10) rfl rfl ?_
  simp (config := { maxSteps := 4000000 }) (disch := omega) only [t10, go_sem, Nat.reduceAdd, Nat.reduceSub, Nat.reduceLT, Nat.reduceLeDiff, Nat.reduceEqDiff, Nat.reduceBEq, reduceIte, reduceCtorEq, Int.reduceEq, Int.reduceLT, Int.reduceLE, Int.reduceAdd, Int.reduceSub, Int.reduceMul, Int.reduceToNat, Int.reduceNeg, Int.reduceBEq, Int.reducePow, Nat.reducePow, h9, storeV_c, storeC_eq, List.length_nil]
theorem plain_step {s : List UInt8} {k : Nat} (h : k < s.length) : plainB (s.drop k) = ((s.getD k 0 != 34 && s.getD k 0 != 92) && plainB (s.drop (k + 1))) := by
  rw [drop_cons h]; rfl
theorem loop6a (s : List UInt8) (hl : s.length ≤ 1000000) (x0 x1 x2 x3 x4 x5 x9 x10 x11 x12 x13 x14 x15 x16 x18 x19 : TV) (S : Store) : ∀ (j k : Nat) (p : Bool) (x17 : TV), k + j = s.length →
    ∃ y17, lp' (lim K) t6L0 [x0, x1, x2, x3, x4, x5, .iv (.str s), .iv (.bool p), .iv (.int .i64 k), x9, x10, x11, x12, x13, x14, x15, x16, x17, x18, x19] S = .ret (.exit 3, [x0, x1, x2, x3, x4, x5, .iv (.str s), .iv (.bool (p && plainB (s.drop k))), .iv (.int .i64 s.length), x9, x10, x11, x12, x13, x14, x15, x16, y17, x18, x19], S)
  | 0, k, p, x17, h => by
    obtain rfl : k = s.length := by omega
    refine ⟨?_, loop_at K _ _ t6L0.eq_1 ?_⟩
    rotate_left
    · rw [List.drop_length, show plainB [] = true from rfl, Bool.and_true]
      simp (disch := omega) only [go_sem, Nat.reduceAdd, Nat.reduceSub, Nat.reduceLT, Nat.reduceLeDiff, Nat.reduceEqDiff, Nat.reduceBEq, reduceIte, reduceCtorEq, Int.reduceEq, Int.reduceLT, Int.reduceLE, Int.reduceAdd, Int.reduceSub, Int.reduceMul, Int.reduceToNat, Int.reduceNeg, Int.reduceBEq, Int.reducePow, Nat.reducePow]
      rfl
  | j + 1, k, p, x17, h => by
    have hix : ixStr (.iv (.str s)) (.iv (.int .i64 k)) = some (.iv (.int .u8 (s.getD k 0).toNat)) := by
      have := ixStr_ok (s := s) (i := (k : Int)) (kd := .i64) (by omega)
      rwa [Int.toNat_natCast] at this
    rw [plain_step (by omega)]
    generalize s.getD k 0 = c at *
    by_cases h34 : c = 34
    · subst h34
      obtain ⟨y17, ih⟩ := loop6a s hl x0 x1 x2 x3 x4 x5 x9 x10 x11 x12 x13 x14 x15 x16 x18 x19 S j (k + 1) false (.iv (.bool true)) (by omega)
      refine ⟨y17, loop_at K _ _ t6L0.eq_1 ?_⟩
      have e : (p && ((((34 : UInt8) != 34) && ((34 : UInt8) != 92)) && plainB (s.drop (k + 1)))) = (false && plainB (s.drop (k + 1))) := by cases p <;> rfl
      rw [e]
      cases p
      · simp (config := { maxSteps := 4000000 }) (disch := omega) only [go_sem, Nat.reduceAdd, Nat.reduceSub, Nat.reduceLT, Nat.reduceLeDiff, Nat.reduceEqDiff, Nat.reduceBEq, reduceIte, reduceCtorEq, Int.reduceEq, Int.reduceLT, Int.reduceLE, Int.reduceAdd, Int.reduceSub, Int.reduceMul, Int.reduceToNat, Int.reduceNeg, Int.reduceBEq, Int.reducePow, Nat.reducePow, hix, wrap_i64, show (((34 : UInt8).toNat : Nat) : Int) = 34 from rfl]
        exact congrArg er ih
      · simp (config := { maxSteps := 4000000 }) (disch := omega) only [go_sem, Nat.reduceAdd, Nat.reduceSub, Nat.reduceLT, Nat.reduceLeDiff, Nat.reduceEqDiff, Nat.reduceBEq, reduceIte, reduceCtorEq, Int.reduceEq, Int.reduceLT, Int.reduceLE, Int.reduceAdd, Int.reduceSub, Int.reduceMul, Int.reduceToNat, Int.reduceNeg, Int.reduceBEq, Int.reducePow, Nat.reducePow, hix, wrap_i64, show (((34 : UInt8).toNat : Nat) : Int) = 34 from rfl]
        exact congrArg er ih
    · have n34 : ¬ (c.toNat : Int) = 34 := fun h => h34 (UInt8.toNat_inj.1 (by show c.toNat = 34; omega))
      by_cases h92 : c = 92
      · subst h92
        obtain ⟨y17, ih⟩ := loop6a s hl x0 x1 x2 x3 x4 x5 x9 x10 x11 x12 x13 x14 x15 x16 x18 x19 S j (k + 1) false (.iv (.bool true)) (by omega)
        refine ⟨y17, loop_at K _ _ t6L0.eq_1 ?_⟩
        have e : (p && ((((92 : UInt8) != 34) && ((92 : UInt8) != 92)) && plainB (s.drop (k + 1)))) = (false && plainB (s.drop (k + 1))) := by cases p <;> rfl
        rw [e]
        cases p
        · simp (config := { maxSteps := 4000000 }) (disch := omega) only [go_sem, Nat.reduceAdd, Nat.reduceSub, Nat.reduceLT, Nat.reduceLeDiff, Nat.reduceEqDiff, Nat.reduceBEq, reduceIte, reduceCtorEq, Int.reduceEq, Int.reduceLT, Int.reduceLE, Int.reduceAdd, Int.reduceSub, Int.reduceMul, Int.reduceToNat, Int.reduceNeg, Int.reduceBEq, Int.reducePow, Nat.reducePow, hix, wrap_i64, show (((92 : UInt8).toNat : Nat) : Int) = 92 from rfl]
          exact congrArg er ih
        · simp (config := { maxSteps := 4000000 }) (disch := omega) only [go_sem, Nat.reduceAdd, Nat.reduceSub, Nat.reduceLT, Nat.reduceLeDiff, Nat.reduceEqDiff, Nat.reduceBEq, reduceIte, reduceCtorEq, Int.reduceEq, Int.reduceLT, Int.reduceLE, Int.reduceAdd, Int.reduceSub, Int.reduceMul, Int.reduceToNat, Int.reduceNeg, Int.reduceBEq, Int.reducePow, Nat.reducePow, hix, wrap_i64, show (((92 : UInt8).toNat : Nat) : Int) = 92 from rfl]
          exact congrArg er ih
      · have n92 : ¬ (c.toNat : Int) = 92 := fun h => h92 (UInt8.toNat_inj.1 (by show c.toNat = 92; omega))
        obtain ⟨y17, ih⟩ := loop6a s hl x0 x1 x2 x3 x4 x5 x9 x10 x11 x12 x13 x14 x15 x16 x18 x19 S j (k + 1) p (.iv (.bool true)) (by omega)
        refine ⟨y17, loop_at K _ _ t6L0.eq_1 ?_⟩
        have e : (c != 34 && c != 92) = true := by simp [h34, h92]
        rw [e, Bool.true_and]
        cases p
        · simp (config := { maxSteps := 4000000 }) (disch := omega) only [go_sem, Nat.reduceAdd, Nat.reduceSub, Nat.reduceLT, Nat.reduceLeDiff, Nat.reduceEqDiff, Nat.reduceBEq, reduceIte, reduceCtorEq, Int.reduceEq, Int.reduceLT, Int.reduceLE, Int.reduceAdd, Int.reduceSub, Int.reduceMul, Int.reduceToNat, Int.reduceNeg, Int.reduceBEq, Int.reducePow, Nat.reducePow, hix, wrap_i64]
          exact congrArg er ih
        · simp (config := { maxSteps := 4000000 }) (disch := omega) only [go_sem, Nat.reduceAdd, Nat.reduceSub, Nat.reduceLT, Nat.reduceLeDiff, Nat.reduceEqDiff, Nat.reduceBEq, reduceIte, reduceCtorEq, Int.reduceEq, Int.reduceLT, Int.reduceLE, Int.reduceAdd, Int.reduceSub, Int.reduceMul, Int.reduceToNat, Int.reduceNeg, Int.reduceBEq, Int.reducePow, Nat.reducePow, hix, wrap_i64]
          exact congrArg er ih
theorem again {t : Tk} (h : TokGood t) : (t.dk = 5 ∨ t.dk = 2 → lexL t.text = .inr [⟨7, 0, t.dk, t.n, t.text, 0⟩]) ∧ (t.dk = 4 → plainB t.text = true → lexL (34 :: (t.text ++ [34])) = .inr [⟨7, 0, t.dk, t.n, t.text, 0⟩]) := by
  obtain ⟨h5, h2, h1, h4, hl⟩ := h
  refine ⟨fun hd => ?_, fun hd hp => ?_⟩
  · rcases hd with hd | hd
    · obtain ⟨hn, g1, g2, g3, g4⟩ := h5 hd
      rw [lex_run g1 g2, wordT, if_neg g3, g4, hd, hn]
    · obtain ⟨hn, run, hr⟩ := h2 hd
      obtain ⟨g1, g2, g3, g4⟩ := intL_self hr
      rw [lex_run g2 g3, wordT, if_neg g4, g1, hd, hn]
  · obtain ⟨hn, cs, g1, g2⟩ := h4 hd
    rw [g2] at hp ⊢
    rw [lex_text g1 hp, hd, hn]
theorem loop6 (x0 x3 : TV) (tg : Tag) (ts : List Tk) (hl : ts.length ≤ 1000000) (hg : ∀ t ∈ ts, TokGood t) (x10 : TV) : ∀ (k i : Nat) (x5 x6 x7 x8 x9 x11 x12 x13 x14 x15 x16 x17 x18 x19 : TV), i + k = ts.length →
    ∃ y4 y5 y6 y7 y8 y9 y11 y12 y13 y14 y15 y16 y17 y18 y19, lp' (lim K) t6L1 [x0, .iv (.bool false), .iv (.sl tg (ts.map encT)), x3, .iv (.int .i64 i), x5, x6, x7, x8, x9, x10, x11, x12, x13, x14, x15, x16, x17, x18, x19] [] = .ret (.exit 0, [x0, .iv (.bool false), .iv (.sl tg (ts.map encT)), x3, y4, y5, y6, y7, y8, y9, x10, y11, y12, y13, y14, y15, y16, y17, y18, y19], [])
  | 0, i, x5, x6, x7, x8, x9, x11, x12, x13, x14, x15, x16, x17, x18, x19, h => by
    obtain rfl : i = ts.length := by omega
    refine ⟨?_, ?_, ?_, ?_, ?_, ?_, ?_, ?_, ?_, ?_, ?_, ?_, ?_, ?_, ?_, loop_at K _ _ t6L1.eq_1 ?_⟩
    rotate_left 15
    · simp (disch := omega) only [go_sem, Nat.reduceAdd, Nat.reduceSub, Nat.reduceLT, Nat.reduceLeDiff, Nat.reduceEqDiff, Nat.reduceBEq, reduceIte, reduceCtorEq, Int.reduceEq, Int.reduceLT, Int.reduceLE, Int.reduceAdd, Int.reduceSub, Int.reduceMul, Int.reduceToNat, Int.reduceNeg, Int.reduceBEq, Int.reducePow, Nat.reducePow, List.length_map]
      rfl
  | k + 1, i, x5, x6, x7, x8, x9, x11, x12, x13, x14, x15, x16, x17, x18, x19, h => by
    have l1 : (ts.map encT).length = ts.length := List.length_map _
    by_cases h200 : 200 ≤ i
    · refine ⟨?_, ?_, ?_, ?_, ?_, ?_, ?_, ?_, ?_, ?_, ?_, ?_, ?_, ?_, ?_, loop_at K _ _ t6L1.eq_1 ?_⟩
      rotate_left 15
      · simp (disch := omega) only [go_sem, Nat.reduceAdd, Nat.reduceSub, Nat.reduceLT, Nat.reduceLeDiff, Nat.reduceEqDiff, Nat.reduceBEq, reduceIte, reduceCtorEq, Int.reduceEq, Int.reduceLT, Int.reduceLE, Int.reduceAdd, Int.reduceSub, Int.reduceMul, Int.reduceToNat, Int.reduceNeg, Int.reduceBEq, Int.reducePow, Nat.reducePow, List.length_map]
        rfl
    have hix := ixT (t := tg) (ts := ts) (i := (i : Int)) (by omega)
    rw [Int.toNat_natCast] at hix
    have hgood := hg (ts.getD i default) (by
      rw [List.getD, List.getElem?_eq_getElem (show i < ts.length by omega)]
      exact List.getElem_mem _)
    obtain ⟨ag1, ag2⟩ := again hgood
    obtain ⟨g5, g2, g1, g4, glen⟩ := hgood
    have next := fun x5 x6 x7 x8 x9 x11 x12 x13 x14 x15 x16 x17 x18 x19 => loop6 x0 x3 tg ts hl hg x10 k (i + 1) x5 x6 x7 x8 x9 x11 x12 x13 x14 x15 x16 x17 x18 x19 (by omega)
    generalize ts.getD i default = t at *
    have h10 := call10 t.dk t.n t.text
    have hone : ∀ tk : Tk, indexAddrS 7 (.iv (.sl (sTag [tk]) ([tk].map encT))) 0 = some (.iv (.cp (encT tk))) := fun tk => ixT (t := sTag [tk]) (ts := [tk]) (i := 0) (by simp)
    by_cases d25 : t.dk = 5 ∨ t.dk = 2
    · have h7 := call7 t.text (by omega) _ (ag1 d25)
      have hi0 := hone ⟨7, 0, t.dk, t.n, t.text, 0⟩
      simp only [encT, List.map_cons, List.map_nil] at h7 hi0 hix h10
      rcases d25 with hd | hd
      · obtain ⟨y4, y5, y6, y7, y8, y9, y11, y12, y13, y14, y15, y16, y17, y18, y19, ih⟩ := next (.lb [.iv (.int .i64 t.dk), .iv (.int .i64 t.n), .iv (.str t.text), .iv (.sl .nil []), .iv (.int .i64 t.dpos)]) (.iv (.str t.text)) x7 x8 (.iv (.sl (sTag [(⟨7, 0, t.dk, t.n, t.text, 0⟩ : Tk)]) [[.int .i64 7, .int .i64 0, .int .i64 t.dk, .int .i64 t.n, .str t.text, .sl .nil [], .int .i64 0]])) (.iv (.bool true)) (.iv (.int .i64 t.dk)) (.iv (.bool true)) x14 x15 x16 x17 x18 (.iv (.bool false))
        refine ⟨y4, y5, y6, y7, y8, y9, y11, y12, y13, y14, y15, y16, y17, y18, y19, loop_at K _ _ t6L1.eq_1 ?_⟩
        generalize ts.map encT = M at *
        simp (config := { maxSteps := 4000000 }) (disch := omega) only [go_sem, Nat.reduceAdd, Nat.reduceSub, Nat.reduceLT, Nat.reduceLeDiff, Nat.reduceEqDiff, Nat.reduceBEq, reduceIte, reduceCtorEq, Int.reduceEq, Int.reduceLT, Int.reduceLE, Int.reduceAdd, Int.reduceSub, Int.reduceMul, Int.reduceToNat, Int.reduceNeg, Int.reduceBEq, Int.reducePow, Nat.reducePow, l1, hix, ao0, aoS, get5', get7', cpR_pure h7, hi0, h10, storeV_c, storeC_eq, wrap_i64]
        exact congrArg er ih
      · obtain ⟨y4, y5, y6, y7, y8, y9, y11, y12, y13, y14, y15, y16, y17, y18, y19, ih⟩ := next (.lb [.iv (.int .i64 t.dk), .iv (.int .i64 t.n), .iv (.str t.text), .iv (.sl .nil []), .iv (.int .i64 t.dpos)]) (.iv (.str t.text)) x7 x8 (.iv (.sl (sTag [(⟨7, 0, t.dk, t.n, t.text, 0⟩ : Tk)]) [[.int .i64 7, .int .i64 0, .int .i64 t.dk, .int .i64 t.n, .str t.text, .sl .nil [], .int .i64 0]])) (.iv (.bool true)) (.iv (.int .i64 t.dk)) (.iv (.bool true)) x14 x15 x16 x17 x18 (.iv (.bool false))
        refine ⟨y4, y5, y6, y7, y8, y9, y11, y12, y13, y14, y15, y16, y17, y18, y19, loop_at K _ _ t6L1.eq_1 ?_⟩
        generalize ts.map encT = M at *
        simp (config := { maxSteps := 4000000 }) (disch := omega) only [go_sem, Nat.reduceAdd, Nat.reduceSub, Nat.reduceLT, Nat.reduceLeDiff, Nat.reduceEqDiff, Nat.reduceBEq, reduceIte, reduceCtorEq, Int.reduceEq, Int.reduceLT, Int.reduceLE, Int.reduceAdd, Int.reduceSub, Int.reduceMul, Int.reduceToNat, Int.reduceNeg, Int.reduceBEq, Int.reducePow, Nat.reducePow, l1, hix, ao0, aoS, get5', get7', cpR_pure h7, hi0, h10, storeV_c, storeC_eq, wrap_i64]
        exact congrArg er ih
    by_cases d1 : t.dk = 1
    · obtain ⟨gt, gn⟩ := g1 d1
      rcases gn with gn | gn
      · have h7 := call7 [35, 102] (by decide) _ lex_f
        have hi0 := hone ⟨7, 0, 1, 0, [], 0⟩
        rw [d1, gn, gt] at h10
        simp only [encT, List.map_cons, List.map_nil, gt] at h7 hi0 hix h10
        obtain ⟨y4, y5, y6, y7, y8, y9, y11, y12, y13, y14, y15, y16, y17, y18, y19, ih⟩ := next (.lb [.iv (.int .i64 t.dk), .iv (.int .i64 t.n), .iv (.str []), .iv (.sl .nil []), .iv (.int .i64 t.dpos)]) (.iv (.str [35, 102])) x7 x8 (.iv (.sl (sTag [(⟨7, 0, 1, 0, [], 0⟩ : Tk)]) [[.int .i64 7, .int .i64 0, .int .i64 1, .int .i64 0, .str [], .sl .nil [], .int .i64 0]])) (.iv (.bool true)) (.iv (.int .i64 t.dk)) (.iv (.bool false)) (.iv (.bool true)) (.iv (.bool false)) x16 x17 x18 (.iv (.bool false))
        refine ⟨y4, y5, y6, y7, y8, y9, y11, y12, y13, y14, y15, y16, y17, y18, y19, loop_at K _ _ t6L1.eq_1 ?_⟩
        rw [d1, gn] at ih
        generalize ts.map encT = M at *
        simp (config := { maxSteps := 4000000 }) (disch := omega) only [go_sem, Nat.reduceAdd, Nat.reduceSub, Nat.reduceLT, Nat.reduceLeDiff, Nat.reduceEqDiff, Nat.reduceBEq, reduceIte, reduceCtorEq, Int.reduceEq, Int.reduceLT, Int.reduceLE, Int.reduceAdd, Int.reduceSub, Int.reduceMul, Int.reduceToNat, Int.reduceNeg, Int.reduceBEq, Int.reducePow, Nat.reducePow, l1, hix, d1, gn, ao0, aoS, get5', get7', cpR_pure h7, hi0, h10, storeV_c, storeC_eq, wrap_i64]
        exact congrArg er ih
      · have h7 := call7 [35, 116] (by decide) _ lex_t
        have hi0 := hone ⟨7, 0, 1, 1, [], 0⟩
        rw [d1, gn, gt] at h10
        simp only [encT, List.map_cons, List.map_nil, gt] at h7 hi0 hix h10
        obtain ⟨y4, y5, y6, y7, y8, y9, y11, y12, y13, y14, y15, y16, y17, y18, y19, ih⟩ := next (.lb [.iv (.int .i64 t.dk), .iv (.int .i64 t.n), .iv (.str []), .iv (.sl .nil []), .iv (.int .i64 t.dpos)]) (.iv (.str [35, 116])) x7 x8 (.iv (.sl (sTag [(⟨7, 0, 1, 1, [], 0⟩ : Tk)]) [[.int .i64 7, .int .i64 0, .int .i64 1, .int .i64 1, .str [], .sl .nil [], .int .i64 0]])) (.iv (.bool true)) (.iv (.int .i64 t.dk)) (.iv (.bool false)) (.iv (.bool true)) (.iv (.bool true)) x16 x17 x18 (.iv (.bool false))
        refine ⟨y4, y5, y6, y7, y8, y9, y11, y12, y13, y14, y15, y16, y17, y18, y19, loop_at K _ _ t6L1.eq_1 ?_⟩
        rw [d1, gn] at ih
        generalize ts.map encT = M at *
        simp (config := { maxSteps := 4000000 }) (disch := omega) only [go_sem, Nat.reduceAdd, Nat.reduceSub, Nat.reduceLT, Nat.reduceLeDiff, Nat.reduceEqDiff, Nat.reduceBEq, reduceIte, reduceCtorEq, Int.reduceEq, Int.reduceLT, Int.reduceLE, Int.reduceAdd, Int.reduceSub, Int.reduceMul, Int.reduceToNat, Int.reduceNeg, Int.reduceBEq, Int.reducePow, Nat.reducePow, l1, hix, d1, gn, ao0, aoS, get5', get7', cpR_pure h7, hi0, h10, storeV_c, storeC_eq, wrap_i64]
        exact congrArg er ih
    by_cases d4 : t.dk = 4
    · obtain ⟨y17, e6⟩ := loop6a t.text (by omega) x0 (.iv (.bool false)) (.iv (.sl tg (ts.map encT))) x3 (.iv (.int .i64 i)) (.lb [.iv (.int .i64 t.dk), .iv (.int .i64 t.n), .iv (.str t.text), .iv (.sl .nil []), .iv (.int .i64 t.dpos)]) x9 x10 (.iv (.bool true)) (.iv (.int .i64 t.dk)) (.iv (.bool false)) (.iv (.bool false)) x15 (.iv (.bool true)) x18 x19 [] t.text.length 0 true x17 (by omega)
      rw [show (((0 : Nat) : Int)) = 0 from rfl, List.drop_zero, Bool.true_and] at e6
      cases hp : plainB t.text
      · rw [hp] at e6
        simp only [encT] at hix
        obtain ⟨y4, y5, y6, y7, y8, y9, y11, y12, y13, y14, y15, y16, y17', y18, y19, ih⟩ := next (.lb [.iv (.int .i64 t.dk), .iv (.int .i64 t.n), .iv (.str t.text), .iv (.sl .nil []), .iv (.int .i64 t.dpos)]) (.iv (.str t.text)) (.iv (.bool false)) (.iv (.int .i64 t.text.length)) x9 (.iv (.bool true)) (.iv (.int .i64 t.dk)) (.iv (.bool false)) (.iv (.bool false)) x15 (.iv (.bool true)) y17 (.iv (.bool true)) x19
        refine ⟨y4, y5, y6, y7, y8, y9, y11, y12, y13, y14, y15, y16, y17', y18, y19, loop_at K _ _ t6L1.eq_1 ?_⟩
        generalize ts.map encT = M at *
        simp (config := { maxSteps := 4000000 }) (disch := omega) only [go_sem, Nat.reduceAdd, Nat.reduceSub, Nat.reduceLT, Nat.reduceLeDiff, Nat.reduceEqDiff, Nat.reduceBEq, reduceIte, reduceCtorEq, Int.reduceEq, Int.reduceLT, Int.reduceLE, Int.reduceAdd, Int.reduceSub, Int.reduceMul, Int.reduceToNat, Int.reduceNeg, Int.reduceBEq, Int.reducePow, Nat.reducePow, l1, hix, ao0, aoS, get5', e6, storeV_c, storeC_eq, wrap_i64]
        exact congrArg er ih
      · rw [hp] at e6
        have h7 := call7 (34 :: (t.text ++ [34])) (by simp; omega) _ (ag2 d4 hp)
        have hi0 := hone ⟨7, 0, t.dk, t.n, t.text, 0⟩
        simp only [encT, List.map_cons, List.map_nil] at h7 hi0 hix h10
        obtain ⟨y4, y5, y6, y7, y8, y9, y11, y12, y13, y14, y15, y16, y17', y18, y19, ih⟩ := next (.lb [.iv (.int .i64 t.dk), .iv (.int .i64 t.n), .iv (.str t.text), .iv (.sl .nil []), .iv (.int .i64 t.dpos)]) (.iv (.str (34 :: (t.text ++ [34])))) (.iv (.bool true)) (.iv (.int .i64 t.text.length)) (.iv (.sl (sTag [(⟨7, 0, t.dk, t.n, t.text, 0⟩ : Tk)]) [[.int .i64 7, .int .i64 0, .int .i64 t.dk, .int .i64 t.n, .str t.text, .sl .nil [], .int .i64 0]])) (.iv (.bool true)) (.iv (.int .i64 t.dk)) (.iv (.bool false)) (.iv (.bool false)) x15 (.iv (.bool true)) y17 (.iv (.bool false)) (.iv (.bool false))
        refine ⟨y4, y5, y6, y7, y8, y9, y11, y12, y13, y14, y15, y16, y17', y18, y19, loop_at K _ _ t6L1.eq_1 ?_⟩
        generalize ts.map encT = M at *
        simp (config := { maxSteps := 4000000 }) (disch := omega) only [go_sem, Nat.reduceAdd, Nat.reduceSub, Nat.reduceLT, Nat.reduceLeDiff, Nat.reduceEqDiff, Nat.reduceBEq, reduceIte, reduceCtorEq, Int.reduceEq, Int.reduceLT, Int.reduceLE, Int.reduceAdd, Int.reduceSub, Int.reduceMul, Int.reduceToNat, Int.reduceNeg, Int.reduceBEq, Int.reducePow, Nat.reducePow, l1, hix, ao0, aoS, get5', get7', e6, cpR_pure h7, hi0, h10, List.length_cons, List.length_append, List.length_nil, storeV_c, storeC_eq, wrap_i64]
        exact congrArg er ih
    · simp only [encT] at hix
      obtain ⟨y4, y5, y6, y7, y8, y9, y11, y12, y13, y14, y15, y16, y17, y18, y19, ih⟩ := next (.lb [.iv (.int .i64 t.dk), .iv (.int .i64 t.n), .iv (.str t.text), .iv (.sl .nil []), .iv (.int .i64 t.dpos)]) (.iv (.str t.text)) x7 x8 x9 (.iv (.bool true)) (.iv (.int .i64 t.dk)) (.iv (.bool false)) (.iv (.bool false)) x15 (.iv (.bool false)) x17 x18 x19
      refine ⟨y4, y5, y6, y7, y8, y9, y11, y12, y13, y14, y15, y16, y17, y18, y19, loop_at K _ _ t6L1.eq_1 ?_⟩
      generalize ts.map encT = M at *
      simp (config := { maxSteps := 4000000 }) (disch := omega) only [go_sem, Nat.reduceAdd, Nat.reduceSub, Nat.reduceLT, Nat.reduceLeDiff, Nat.reduceEqDiff, Nat.reduceBEq, reduceIte, reduceCtorEq, Int.reduceEq, Int.reduceLT, Int.reduceLE, Int.reduceAdd, Int.reduceSub, Int.reduceMul, Int.reduceToNat, Int.reduceNeg, Int.reduceBEq, Int.reducePow, Nat.reducePow, l1, hix, ao0, aoS, get5', storeV_c, storeC_eq, wrap_i64]
      exact congrArg er ih
theorem law6 (t : Tag) (b : List UInt8) (ht : TagOk t b) (hl : b.length ≤ 9223372036854775807) : ((lim K).call 6 [.iv (.sl t (bytesIV b))] []).All fun r => r.1 = .iv (.bool true) := by
  refine call_all' K [] (fn := t6) rfl rfl ?_
  by_cases h : b.length ≤ 5000
  · have h12 := call12 t b ht (by omega)
    cases hx : lexL b with
    | inl x =>
      obtain ⟨e, q⟩ := x
      rw [hx] at h12
      simp only [lexV, flt] at h12
      obtain ⟨y4, y5, y6, y7, y8, y9, y11, y12, y13, y14, y15, y16, y17, y18, y19, ez⟩ := loop6 (.iv (.sl t (bytesIV b))) (.lb [.iv (.int .i64 e), .iv (.int .i64 q)]) .nil [] (by simp) (by simp) (.iv (.bool false)) 0 0 (.tup []) (.tup []) (.tup []) (.tup []) (.tup []) (.tup []) (.tup []) (.tup []) (.tup []) (.tup []) (.tup []) (.tup []) (.tup []) (.tup []) (by simp)
      rw [show (((0 : Nat) : Int)) = 0 from rfl, List.map_nil] at ez
      simp (config := { maxSteps := 4000000 }) (disch := omega) only [t6, go_sem, Nat.reduceAdd, Nat.reduceSub, Nat.reduceLT, Nat.reduceLeDiff, Nat.reduceEqDiff, Nat.reduceBEq, reduceIte, reduceCtorEq, Int.reduceEq, Int.reduceLT, Int.reduceLE, Int.reduceAdd, Int.reduceSub, Int.reduceMul, Int.reduceToNat, Int.reduceNeg, Int.reduceBEq, Int.reducePow, Nat.reducePow, cpR_pure h12, ez]
      refine all_works works ?_
      simp (config := { maxSteps := 4000000 }) (disch := omega) only [go_sem, Nat.reduceAdd, Nat.reduceSub, Nat.reduceLT, Nat.reduceLeDiff, Nat.reduceEqDiff, Nat.reduceBEq, reduceIte, reduceCtorEq, Int.reduceEq, Int.reduceLT, Int.reduceLE, Int.reduceAdd, Int.reduceSub, Int.reduceMul, Int.reduceToNat, Int.reduceNeg, Int.reduceBEq, Int.reducePow, Nat.reducePow, Out.All]
    | inr ts =>
      have hgood := lexF_good b.length b 0 ts h hx
      have ha := (lexF_at b.length b 0).1 ts hx
      have hn := asc_len ha (by omega)
      rw [hx] at h12
      simp only [lexV, flt] at h12
      obtain ⟨y4, y5, y6, y7, y8, y9, y11, y12, y13, y14, y15, y16, y17, y18, y19, ez⟩ := loop6 (.iv (.sl t (bytesIV b))) (.lb [.iv (.int .i64 0), .iv (.int .i64 0)]) (sTag ts) ts (by omega) hgood (.iv (.bool false)) ts.length 0 (.tup []) (.tup []) (.tup []) (.tup []) (.tup []) (.tup []) (.tup []) (.tup []) (.tup []) (.tup []) (.tup []) (.tup []) (.tup []) (.tup []) (by omega)
      rw [show (((0 : Nat) : Int)) = 0 from rfl] at ez
      generalize ts.map encT = M at *
      simp (config := { maxSteps := 4000000 }) (disch := omega) only [t6, go_sem, Nat.reduceAdd, Nat.reduceSub, Nat.reduceLT, Nat.reduceLeDiff, Nat.reduceEqDiff, Nat.reduceBEq, reduceIte, reduceCtorEq, Int.reduceEq, Int.reduceLT, Int.reduceLE, Int.reduceAdd, Int.reduceSub, Int.reduceMul, Int.reduceToNat, Int.reduceNeg, Int.reduceBEq, Int.reducePow, Nat.reducePow, cpR_pure h12, ez]
      refine all_works works ?_
      simp (config := { maxSteps := 4000000 }) (disch := omega) only [go_sem, Nat.reduceAdd, Nat.reduceSub, Nat.reduceLT, Nat.reduceLeDiff, Nat.reduceEqDiff, Nat.reduceBEq, reduceIte, reduceCtorEq, Int.reduceEq, Int.reduceLT, Int.reduceLE, Int.reduceAdd, Int.reduceSub, Int.reduceMul, Int.reduceToNat, Int.reduceNeg, Int.reduceBEq, Int.reducePow, Nat.reducePow, Out.All]
  · simp (config := { maxSteps := 4000000 }) (disch := omega) only [t6, go_sem, Nat.reduceAdd, Nat.reduceSub, Nat.reduceLT, Nat.reduceLeDiff, Nat.reduceEqDiff, Nat.reduceBEq, reduceIte, reduceCtorEq, Int.reduceEq, Int.reduceLT, Int.reduceLE, Int.reduceAdd, Int.reduceSub, Int.reduceMul, Int.reduceToNat, Int.reduceNeg, Int.reduceBEq, Int.reducePow, Nat.reducePow]
    refine all_works works ?_
    simp (config := { maxSteps := 4000000 }) (disch := omega) only [go_sem, Nat.reduceAdd, Nat.reduceSub, Nat.reduceLT, Nat.reduceLeDiff, Nat.reduceEqDiff, Nat.reduceBEq, reduceIte, reduceCtorEq, Int.reduceEq, Int.reduceLT, Int.reduceLE, Int.reduceAdd, Int.reduceSub, Int.reduceMul, Int.reduceToNat, Int.reduceNeg, Int.reduceBEq, Int.reducePow, Nat.reducePow, Out.All]
end Go.Proofs.YtpngkgkobapioaaDoor
