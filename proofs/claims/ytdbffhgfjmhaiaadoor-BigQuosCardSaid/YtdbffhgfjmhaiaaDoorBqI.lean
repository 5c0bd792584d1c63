/- The contracts of Add, Sub, Cmp where digits are written. Condition: none. -/
import Derived.Test.YtdbffhgfjmhaiaaDoorBqH
set_option maxRecDepth 100000
set_option linter.unusedSimpArgs false
set_option linter.unusedVariables false
namespace Go.Proofs.YtdbffhgfjmhaiaaDoor
open Go Go.TM
theorem tr_len_le {B : Int} (hB : 1 < B) {l m : List Int} (hl : Dig B l) (hm : Dig B m) (h : val B m ≤ val B l) : (tr m).length ≤ (tr l).length := by
  rcases Nat.lt_or_ge (tr l).length (tr m).length with h1 | h1
  · have := tr_cmp_len hB hl hm h1
    omega
  · exact h1
theorem cellsOf_agT {x : TV} (h : Pl x) (n : Bool) : cellsOf (agT n x) = [.iv (.bool n), x] := by
  rcases h with ⟨v, rfl⟩ | ⟨a, b, c, d, e, f, rfl⟩ <;> rfl
theorem agT_loc {x : TV} (h : Pl x) (n : Bool) (j : Nat) : locV j (agT n x) = agT n x := by
  rcases h with ⟨v, rfl⟩ | ⟨a, b, c, d, e, f, rfl⟩ <;> rfl
theorem agT_nlp {x : TV} (h : Pl x) (n : Bool) : isLp (agT n x) = false := by
  rcases h with ⟨v, rfl⟩ | ⟨a, b, c, d, e, f, rfl⟩ <;> rfl
theorem agT_resK {x : TV} (h : Pl x) (n : Bool) : resK (agT n x) = some (agT n x) := by
  rcases h with ⟨v, rfl⟩ | ⟨a, b, c, d, e, f, rfl⟩ <;> rfl
theorem agT_wb {x : TV} (h : Pl x) (b : Bool) (K : Prog) (O : Orc) (j : Nat) (ops : List TOper) (i : Nat) (M : List (Nat × TV)) (n : Nat) (fs : List Fr) (env : Env) (S : Store) : wbV' K O (agT b x) j ops i M n fs env S = wbk' K O ops (i + 1) M n fs (env.set j (agT b x)) S := by
  rcases h with ⟨v, rfl⟩ | ⟨a, b, c, d, e, f, rfl⟩
  · exact wbV_iv' K O ops i M n fs env S _ j
  · exact wbV_agg' K O ops i M n fs env S _ j
theorem DV.cel {x : TV} {m : Bool} {P : Nat → Prop} {S : Store} {l : List Int} (h : DV m P S x l) : cellsOf x = [x] := by
  cases h <;> rfl
theorem DV.sam {x : TV} {m : Bool} {P : Nat → Prop} {S : Store} {l : List Int} (h : DV m P S x l) : same x x = true := by
  cases h
  · exact same_iv _
  · exact same_msl _ _ _ _ _ _
theorem DV.lenA {x : TV} {m : Bool} {P : Nat → Prop} {S : Store} {l : List Int} (h : DV m P S x l) (S' : Store) : lenV .sl S' x = some (.iv (.int .i64 l.length)) := by
  have := h.len
  cases h <;> exact this
theorem DV.isR {x : TV} {m : Bool} {P : Nat → Prop} {S : Store} {l : List Int} (h : DV m P S x l) : isRefL x = false := by
  cases h <;> rfl
theorem DV.forg {x : TV} {m : Bool} {P : Nat → Prop} {S : Store} {l : List Int} (h : DV m P S x l) : forget x = x := by
  cases h <;> rfl
theorem addV {m1 m2 : Bool} {P1 P2 : Nat → Prop} {S : Store} {x y : TV} {a b : List Int} (hx : DV m1 P1 S x a) (hy : DV m2 P2 S y b) (n1 n2 : Bool) (ad : Dig 65536 a) (bd : Dig 65536 b) (h1 : a.length ≤ 80000) (h2 : b.length ≤ 80000) (z : Int) (hz : z = sv n1 (val 65536 a) + sv n2 (val 65536 b)) :
    ∃ w R, DV true (fun i => S.length ≤ i) (S ++ R) w (dg 65536 z.natAbs) ∧ (lim K).call 26 [agT n1 x, agT n2 y] S = .ret (agT (decide (z < 0)) w, S ++ R) := by
  have v1 := val_nonneg (by decide) ad
  have v2 := val_nonneg (by decide) bd
  have px := hx.pl
  have py := hy.pl
  by_cases hn : n1 = n2
  · subst hn
    obtain ⟨out, i1, i2, i3, h53⟩ := sumV hx hy ad bd (by omega) (by omega)
    obtain ⟨w, hw, h42⟩ := tidyV (aM_dv S out) i1 (by omega) n1
    have e : sv n1 (val 65536 out) = z := by rw [hz, i3]; cases n1 <;> simp [sv]; omega
    have e2 : val 65536 out = z.natAbs := by rw [← e, abs_sv n1 (val_nonneg (by decide) i1)]
    rw [e] at h42
    rw [e2] at hw
    obtain ⟨R, hR⟩ := aS_app S out
    rw [hR] at hw h42 h53
    refine ⟨w, R, hw, call_ret' K S (fn := t26) rfl rfl ?_⟩
    have pm := aM_dv S out
    rw [hR] at pm
    generalize decide (z < 0) = zb at *
    generalize dg 65536 z.natAbs = zl at *
    rcases hw.pl with ⟨v, rfl⟩ | ⟨c1, c2, c3, c4, c5, c6, rfl⟩
    · rcases hw with ⟨t2, _, j1, j2⟩
      rw [agT_iv] at h42 ⊢
      cases n1 <;> simp (config := { maxSteps := 4000000 }) (disch := omega) only [t26, go_sem, Nat.reduceAdd, Nat.reduceSub, Nat.reduceLT, Nat.reduceLeDiff, Nat.reduceEqDiff, Nat.reduceBEq, reduceIte, reduceCtorEq, Int.reduceEq, Int.reduceLT, Int.reduceLE, Int.reduceAdd, Int.reduceSub, Int.reduceMul, Int.reduceToNat, Int.reduceNeg, Int.reduceBEq, Int.reducePow, Nat.reducePow, cellsOf_agT hx.pl, agT_loc hx.pl, agT_nlp hx.pl, agT_resK hx.pl, agT_wb hx.pl, cellsOf_agT hy.pl, agT_loc hy.pl, agT_nlp hy.pl, agT_resK hy.pl, agT_wb hy.pl, hx.pl.loc, hx.pl.nlp, hx.pl.resK, hx.pl.wb, hx.isR, hx.cel, hx.forg, hx.sam, hx.lenA, hy.pl.loc, hy.pl.nlp, hy.pl.resK, hy.pl.wb, hy.isR, hy.cel, hy.forg, hy.sam, hy.lenA, pm.pl.loc, pm.pl.nlp, pm.pl.resK, pm.pl.wb, pm.isR, pm.cel, pm.forg, pm.sam, pm.lenA, Bool.false_eq_true, if_false, h53, h42]
    · rw [agT_msl] at h42 ⊢
      cases n1 <;> simp (config := { maxSteps := 4000000 }) (disch := omega) only [t26, go_sem, Nat.reduceAdd, Nat.reduceSub, Nat.reduceLT, Nat.reduceLeDiff, Nat.reduceEqDiff, Nat.reduceBEq, reduceIte, reduceCtorEq, Int.reduceEq, Int.reduceLT, Int.reduceLE, Int.reduceAdd, Int.reduceSub, Int.reduceMul, Int.reduceToNat, Int.reduceNeg, Int.reduceBEq, Int.reducePow, Nat.reducePow, cellsOf_agT hx.pl, agT_loc hx.pl, agT_nlp hx.pl, agT_resK hx.pl, agT_wb hx.pl, cellsOf_agT hy.pl, agT_loc hy.pl, agT_nlp hy.pl, agT_resK hy.pl, agT_wb hy.pl, hx.pl.loc, hx.pl.nlp, hx.pl.resK, hx.pl.wb, hx.isR, hx.cel, hx.forg, hx.sam, hx.lenA, hy.pl.loc, hy.pl.nlp, hy.pl.resK, hy.pl.wb, hy.isR, hy.cel, hy.forg, hy.sam, hy.lenA, pm.pl.loc, pm.pl.nlp, pm.pl.resK, pm.pl.wb, pm.isR, pm.cel, pm.forg, pm.sam, pm.lenA, Bool.false_eq_true, if_false, h53, h42]
  · obtain ⟨t1, k1, -, ca, -⟩ := hx.res
    obtain ⟨t2, k2, -, cb, -⟩ := hy.res
    have h54 := call54 t1 t2 a b k1 k2 ad bd (by omega) (by omega)
    obtain ⟨ta, ha, ea⟩ := trimV hx (by omega)
    obtain ⟨tb, hb, eb⟩ := trimV hy (by omega)
    have la := tr_len a
    have lb := tr_len b
    have ea' := val_tr 65536 a
    have eb' := val_tr 65536 b
    have hc := cmpI_neg (x := val 65536 a) (y := val 65536 b)
    by_cases hlt : val 65536 a < val 65536 b
    · obtain ⟨out, i1, i2, i3, h55⟩ := lessV hb ha bd.tr ad.tr (by omega) (tr_len_le (by decide) bd ad (by omega)) (by omega)
      obtain ⟨w, hw, h42⟩ := tidyV (aM_dv S out) i1 (by omega) n2
      have e : sv n2 (val 65536 out) = z := by rw [hz, i3, ea', eb']; cases n1 <;> cases n2 <;> simp [sv] at hn ⊢ <;> omega
      have e2 : val 65536 out = z.natAbs := by rw [← e, abs_sv n2 (val_nonneg (by decide) i1)]
      rw [e] at h42
      rw [e2] at hw
      obtain ⟨R, hR⟩ := aS_app S out
      have pm := aM_dv S out
      rw [hR] at hw h42 h55 pm
      refine ⟨w, R, hw, call_ret' K S (fn := t26) rfl rfl ?_⟩
      have hneg : cmpI (val 65536 a) (val 65536 b) < 0 := hc.2 hlt
      generalize decide (z < 0) = zb at *
      generalize dg 65536 z.natAbs = zl at *
      generalize cmpI (val 65536 a) (val 65536 b) = r at *
      rcases hw.pl with ⟨v, rfl⟩ | ⟨c1, c2, c3, c4, c5, c6, rfl⟩
      · rcases hw with ⟨t2, _, j1, j2⟩
        rw [agT_iv] at h42 ⊢
        cases n1 <;> cases n2 <;> simp at hn <;> simp (config := { maxSteps := 4000000 }) (disch := omega) only [t26, go_sem, Nat.reduceAdd, Nat.reduceSub, Nat.reduceLT, Nat.reduceLeDiff, Nat.reduceEqDiff, Nat.reduceBEq, reduceIte, reduceCtorEq, Int.reduceEq, Int.reduceLT, Int.reduceLE, Int.reduceAdd, Int.reduceSub, Int.reduceMul, Int.reduceToNat, Int.reduceNeg, Int.reduceBEq, Int.reducePow, Nat.reducePow, cellsOf_agT hx.pl, agT_loc hx.pl, agT_nlp hx.pl, agT_resK hx.pl, agT_wb hx.pl, cellsOf_agT hy.pl, agT_loc hy.pl, agT_nlp hy.pl, agT_resK hy.pl, agT_wb hy.pl, hx.pl.loc, hx.pl.nlp, hx.pl.resK, hx.pl.wb, hx.isR, hx.cel, hx.forg, hx.sam, hx.lenA, hy.pl.loc, hy.pl.nlp, hy.pl.resK, hy.pl.wb, hy.isR, hy.cel, hy.forg, hy.sam, hy.lenA, pm.pl.loc, pm.pl.nlp, pm.pl.resK, pm.pl.wb, pm.isR, pm.cel, pm.forg, pm.sam, pm.lenA, ha.pl.loc, ha.pl.nlp, ha.pl.resK, ha.pl.wb, ha.isR, ha.cel, ha.forg, ha.sam, ha.lenA, hb.pl.loc, hb.pl.nlp, hb.pl.resK, hb.pl.wb, hb.isR, hb.cel, hb.forg, hb.sam, hb.lenA, Bool.and_false, Bool.not_true, Bool.false_eq_true, if_false, ca, cb, h54, ea, eb, h55, h42]
      · rw [agT_msl] at h42 ⊢
        cases n1 <;> cases n2 <;> simp at hn <;> simp (config := { maxSteps := 4000000 }) (disch := omega) only [t26, go_sem, Nat.reduceAdd, Nat.reduceSub, Nat.reduceLT, Nat.reduceLeDiff, Nat.reduceEqDiff, Nat.reduceBEq, reduceIte, reduceCtorEq, Int.reduceEq, Int.reduceLT, Int.reduceLE, Int.reduceAdd, Int.reduceSub, Int.reduceMul, Int.reduceToNat, Int.reduceNeg, Int.reduceBEq, Int.reducePow, Nat.reducePow, cellsOf_agT hx.pl, agT_loc hx.pl, agT_nlp hx.pl, agT_resK hx.pl, agT_wb hx.pl, cellsOf_agT hy.pl, agT_loc hy.pl, agT_nlp hy.pl, agT_resK hy.pl, agT_wb hy.pl, hx.pl.loc, hx.pl.nlp, hx.pl.resK, hx.pl.wb, hx.isR, hx.cel, hx.forg, hx.sam, hx.lenA, hy.pl.loc, hy.pl.nlp, hy.pl.resK, hy.pl.wb, hy.isR, hy.cel, hy.forg, hy.sam, hy.lenA, pm.pl.loc, pm.pl.nlp, pm.pl.resK, pm.pl.wb, pm.isR, pm.cel, pm.forg, pm.sam, pm.lenA, ha.pl.loc, ha.pl.nlp, ha.pl.resK, ha.pl.wb, ha.isR, ha.cel, ha.forg, ha.sam, ha.lenA, hb.pl.loc, hb.pl.nlp, hb.pl.resK, hb.pl.wb, hb.isR, hb.cel, hb.forg, hb.sam, hb.lenA, Bool.and_false, Bool.not_true, Bool.false_eq_true, if_false, ca, cb, h54, ea, eb, h55, h42]
    · obtain ⟨out, i1, i2, i3, h55⟩ := lessV ha hb ad.tr bd.tr (by omega) (tr_len_le (by decide) ad bd (by omega)) (by omega)
      obtain ⟨w, hw, h42⟩ := tidyV (aM_dv S out) i1 (by omega) n1
      have e : sv n1 (val 65536 out) = z := by rw [hz, i3, ea', eb']; cases n1 <;> cases n2 <;> simp [sv] at hn ⊢ <;> omega
      have e2 : val 65536 out = z.natAbs := by rw [← e, abs_sv n1 (val_nonneg (by decide) i1)]
      rw [e] at h42
      rw [e2] at hw
      obtain ⟨R, hR⟩ := aS_app S out
      have pm := aM_dv S out
      rw [hR] at hw h42 h55 pm
      refine ⟨w, R, hw, call_ret' K S (fn := t26) rfl rfl ?_⟩
      have hneg : ¬ cmpI (val 65536 a) (val 65536 b) < 0 := fun h => hlt (hc.1 h)
      generalize decide (z < 0) = zb at *
      generalize dg 65536 z.natAbs = zl at *
      generalize cmpI (val 65536 a) (val 65536 b) = r at *
      rcases hw.pl with ⟨v, rfl⟩ | ⟨c1, c2, c3, c4, c5, c6, rfl⟩
      · rcases hw with ⟨t2, _, j1, j2⟩
        rw [agT_iv] at h42 ⊢
        cases n1 <;> cases n2 <;> simp at hn <;> simp (config := { maxSteps := 4000000 }) (disch := omega) only [t26, go_sem, Nat.reduceAdd, Nat.reduceSub, Nat.reduceLT, Nat.reduceLeDiff, Nat.reduceEqDiff, Nat.reduceBEq, reduceIte, reduceCtorEq, Int.reduceEq, Int.reduceLT, Int.reduceLE, Int.reduceAdd, Int.reduceSub, Int.reduceMul, Int.reduceToNat, Int.reduceNeg, Int.reduceBEq, Int.reducePow, Nat.reducePow, cellsOf_agT hx.pl, agT_loc hx.pl, agT_nlp hx.pl, agT_resK hx.pl, agT_wb hx.pl, cellsOf_agT hy.pl, agT_loc hy.pl, agT_nlp hy.pl, agT_resK hy.pl, agT_wb hy.pl, hx.pl.loc, hx.pl.nlp, hx.pl.resK, hx.pl.wb, hx.isR, hx.cel, hx.forg, hx.sam, hx.lenA, hy.pl.loc, hy.pl.nlp, hy.pl.resK, hy.pl.wb, hy.isR, hy.cel, hy.forg, hy.sam, hy.lenA, pm.pl.loc, pm.pl.nlp, pm.pl.resK, pm.pl.wb, pm.isR, pm.cel, pm.forg, pm.sam, pm.lenA, ha.pl.loc, ha.pl.nlp, ha.pl.resK, ha.pl.wb, ha.isR, ha.cel, ha.forg, ha.sam, ha.lenA, hb.pl.loc, hb.pl.nlp, hb.pl.resK, hb.pl.wb, hb.isR, hb.cel, hb.forg, hb.sam, hb.lenA, Bool.and_false, Bool.not_true, Bool.false_eq_true, if_false, ca, cb, h54, ea, eb, h55, h42]
      · rw [agT_msl] at h42 ⊢
        cases n1 <;> cases n2 <;> simp at hn <;> simp (config := { maxSteps := 4000000 }) (disch := omega) only [t26, go_sem, Nat.reduceAdd, Nat.reduceSub, Nat.reduceLT, Nat.reduceLeDiff, Nat.reduceEqDiff, Nat.reduceBEq, reduceIte, reduceCtorEq, Int.reduceEq, Int.reduceLT, Int.reduceLE, Int.reduceAdd, Int.reduceSub, Int.reduceMul, Int.reduceToNat, Int.reduceNeg, Int.reduceBEq, Int.reducePow, Nat.reducePow, cellsOf_agT hx.pl, agT_loc hx.pl, agT_nlp hx.pl, agT_resK hx.pl, agT_wb hx.pl, cellsOf_agT hy.pl, agT_loc hy.pl, agT_nlp hy.pl, agT_resK hy.pl, agT_wb hy.pl, hx.pl.loc, hx.pl.nlp, hx.pl.resK, hx.pl.wb, hx.isR, hx.cel, hx.forg, hx.sam, hx.lenA, hy.pl.loc, hy.pl.nlp, hy.pl.resK, hy.pl.wb, hy.isR, hy.cel, hy.forg, hy.sam, hy.lenA, pm.pl.loc, pm.pl.nlp, pm.pl.resK, pm.pl.wb, pm.isR, pm.cel, pm.forg, pm.sam, pm.lenA, ha.pl.loc, ha.pl.nlp, ha.pl.resK, ha.pl.wb, ha.isR, ha.cel, ha.forg, ha.sam, ha.lenA, hb.pl.loc, hb.pl.nlp, hb.pl.resK, hb.pl.wb, hb.isR, hb.cel, hb.forg, hb.sam, hb.lenA, Bool.and_false, Bool.not_true, Bool.false_eq_true, if_false, ca, cb, h54, ea, eb, h55, h42]
end Go.Proofs.YtdbffhgfjmhaiaaDoor
