/- The contracts of sum, less, scaled, trim, tidy where digits are written. Condition: none. -/
import Derived.Test.YtdbffhgfjmhaiaaDoorBqE
set_option maxRecDepth 100000
set_option linter.unusedSimpArgs false
set_option linter.unusedVariables false
namespace Go.Proofs.YtdbffhgfjmhaiaaDoor
open Go Go.TM
theorem loop53 {m1 m2 : Bool} {P1 P2 : Nat → Prop} {S : Store} {x y : TV} {a b : List Int} (hx : DV m1 P1 S x a) (hy : DV m2 P2 S y b) (ha : Dig 65536 a) (hb : Dig 65536 b) (h1 : a.length ≤ 100000) (h2 : b.length ≤ 100000) (N : Nat) (hN : N ≤ 200001) : ∀ (n i : Nat) (c : Int) (d : List Int) (x4 x7 : TV), i + n = N → d.length = i → 0 ≤ c ∧ c ≤ 1 →
    ∃ y4 y7, lp' (lim K) t53L0 [x, y, aM S d, .iv (.int .u32 c), x4, .iv (.int .i64 N), .iv (.int .i64 i), x7] (aS S d) = .ret (.exit 0, [x, y, aM S (d ++ (sm a b n i c).1), .iv (.int .u32 (sm a b n i c).2), y4, .iv (.int .i64 N), .iv (.int .i64 N), y7], aS S (d ++ (sm a b n i c).1))
  | 0, i, c, d, x4, x7, h, hi, hc => by
    obtain rfl : i = N := by omega
    refine ⟨?_, ?_, loop_at K _ _ t53L0.eq_1 ?_⟩
    rotate_left 2
    · simp (disch := omega) only [go_sem, Nat.reduceAdd, Nat.reduceSub, Nat.reduceLT, Nat.reduceLeDiff, Nat.reduceEqDiff, Nat.reduceBEq, reduceIte, reduceCtorEq, Int.reduceEq, Int.reduceLT, Int.reduceLE, Int.reduceAdd, Int.reduceSub, Int.reduceMul, Int.reduceToNat, Int.reduceNeg, Int.reduceBEq, Int.reducePow, Nat.reducePow, sm, List.append_nil]
      rfl
  | n + 1, i, c, d, x4, x7, h, hi, hc => by
    have g1 := ha.getD0 (by decide) i
    have g2 := hb.getD0 (by decide) i
    obtain ⟨t1, -, -, ca, -⟩ := (hx.aS d).res
    obtain ⟨t2, -, -, cb, -⟩ := (hy.aS d).res
    have c1 := call76 t1 a ha (by omega) i (by omega)
    have c2 := call76 t2 b hb (by omega) i (by omega)
    have px := hx.pl
    have py := hy.pl
    have pm := aM_pl S d
    have pm2 := aM_pl S (d ++ [(c + (a.getD i default + b.getD i default)) % 65536])
    simp only [sm]
    have hap := ap_aM S d ((c + (a.getD i default + b.getD i default)) % 65536) .full (by omega)
    obtain ⟨y4, y7, ih⟩ := loop53 hx hy ha hb h1 h2 N hN n (i + 1) ((c + (a.getD i default + b.getD i default)) / 65536) (d ++ [(c + (a.getD i default + b.getD i default)) % 65536]) (.iv (.int .i64 i)) (.iv (.bool true)) (by omega) (by simp [hi]) (by omega)
    refine ⟨y4, y7, loop_at K _ _ t53L0.eq_1 ?_⟩
    rw [List.append_assoc, List.cons_append, List.nil_append] at ih
    simp only [d16] at hap
    generalize a.getD i default = p at *
    generalize b.getD i default = q at *
    simp (config := { maxSteps := 4000000 }) (disch := omega) only [go_sem, Nat.reduceAdd, Nat.reduceSub, Nat.reduceLT, Nat.reduceLeDiff, Nat.reduceEqDiff, Nat.reduceBEq, reduceIte, reduceCtorEq, Int.reduceEq, Int.reduceLT, Int.reduceLE, Int.reduceAdd, Int.reduceSub, Int.reduceMul, Int.reduceToNat, Int.reduceNeg, Int.reduceBEq, Int.reducePow, Nat.reducePow, px.loc, px.nlp, px.resK, px.wb, py.loc, py.nlp, py.resK, py.wb, pm.loc, pm.nlp, pm.resK, pm.wb, pm2.loc, pm2.nlp, pm2.resK, pm2.wb, ca, cb, c1, c2, Bool.and_false, Bool.not_true, wrap_u32, wrap_u16_mod, wrap_i64, hap]
    rw [fd16]
    exact congrArg er ih
theorem sumV {m1 m2 : Bool} {P1 P2 : Nat → Prop} {S : Store} {x y : TV} {a b : List Int} (hx : DV m1 P1 S x a) (hy : DV m2 P2 S y b) (ha : Dig 65536 a) (hb : Dig 65536 b) (h1 : a.length ≤ 90000) (h2 : b.length ≤ 90000) :
    ∃ out, Dig 65536 out ∧ out.length ≤ a.length + b.length + 1 ∧ val 65536 out = val 65536 a + val 65536 b ∧ (lim K).call 53 [x, y] S = .ret (aM S out, aS S out) := by
  obtain ⟨N, hN, hN1, hN2, hN3⟩ : ∃ N : Nat, (if (a.length : Int) < b.length then (b.length : Int) else a.length) = N ∧ a.length ≤ N ∧ b.length ≤ N ∧ N ≤ a.length + b.length := by
    by_cases h : (a.length : Int) < b.length
    · exact ⟨b.length, by rw [if_pos h], by omega, by omega, by omega⟩
    · exact ⟨a.length, by rw [if_neg h], by omega, by omega, by omega⟩
  obtain ⟨y4, y7, e⟩ := loop53 hx hy ha hb (by omega) (by omega) (N + 1) (by omega) (N + 1) 0 0 [] (.tup []) (.tup []) (by omega) rfl (by omega)
  obtain ⟨i1, i2, i3, i4, i5⟩ := sm_spec ha hb (N + 1) 0 0 (by omega) (by omega) (by omega)
  rw [List.drop_zero, List.drop_zero] at i5
  have l1 := val_lt (by decide) ha
  have l2 := val_lt (by decide) hb
  have p1 := pow_le' (B := 65536) (by decide) hN1
  have p2 := pow_le' (B := 65536) (by decide) hN2
  have p0 := val_nonneg (by decide) i1
  have pq := pow_pos' (B := 65536) (by decide) N
  have p3 : (65536 : Int) ^ (N + 1) = 65536 ^ N * 65536 := Int.pow_succ ..
  have hc : (sm a b (N + 1) 0 0).2 = 0 := by
    have : (sm a b (N + 1) 0 0).2 = 0 ∨ (sm a b (N + 1) 0 0).2 = 1 := by omega
    rcases this with h | h
    · exact h
    · rw [h] at i5; omega
  rw [hc] at i5
  refine ⟨(sm a b (N + 1) 0 0).1, i1, by omega, by omega, call_ret' K S (fn := t53) rfl rfl ?_⟩
  rw [List.nil_append, show ((0 : Nat) : Int) = 0 from rfl, aM_nil, aS_nil] at e
  have hw : IntKind.i64.wrap ((N : Int) + 1) = ((N + 1 : Nat) : Int) := by rw [wrap_i64 (by omega)]; rfl
  have px := hx.pl
  have py := hy.pl
  have pm := aM_pl S (sm a b (N + 1) 0 0).1
  have lx := hx.len
  have ly := hy.len
  simp (config := { maxSteps := 4000000 }) (disch := omega) only [t53, go_sem, Nat.reduceAdd, Nat.reduceSub, Nat.reduceLT, Nat.reduceLeDiff, Nat.reduceEqDiff, Nat.reduceBEq, reduceIte, reduceCtorEq, Int.reduceEq, Int.reduceLT, Int.reduceLE, Int.reduceAdd, Int.reduceSub, Int.reduceMul, Int.reduceToNat, Int.reduceNeg, Int.reduceBEq, Int.reducePow, Nat.reducePow, px.loc, px.nlp, px.resK, px.wb, py.loc, py.nlp, py.resK, py.wb, pm.loc, pm.nlp, pm.resK, pm.wb, lx, ly, max_i64, hN, hw, e]
theorem loop55 {m1 m2 : Bool} {P1 P2 : Nat → Prop} {S : Store} {x y : TV} {a b : List Int} (hx : DV m1 P1 S x a) (hy : DV m2 P2 S y b) (ha : Dig 65536 a) (hb : Dig 65536 b) (h1 : a.length ≤ 100000) (h2 : b.length ≤ 100000) : ∀ (n i : Nat) (c : Int) (d : List Int) (x4 x5 x8 : TV), i + n = a.length → d.length = i → 0 ≤ c ∧ c ≤ 1 →
    ∃ y4 y5 y8, lp' (lim K) t55L0 [x, y, aM S d, .iv (.int .u32 c), x4, x5, .iv (.int .i64 a.length), .iv (.int .i64 i), x8] (aS S d) = .ret (.exit 0, [x, y, aM S (d ++ (ls a b n i c).1), .iv (.int .u32 (ls a b n i c).2), y4, y5, .iv (.int .i64 a.length), .iv (.int .i64 a.length), y8], aS S (d ++ (ls a b n i c).1))
  | 0, i, c, d, x4, x5, x8, h, hi, hc => by
    obtain rfl : i = a.length := by omega
    refine ⟨?_, ?_, ?_, loop_at K _ _ t55L0.eq_1 ?_⟩
    rotate_left 3
    · simp (disch := omega) only [go_sem, Nat.reduceAdd, Nat.reduceSub, Nat.reduceLT, Nat.reduceLeDiff, Nat.reduceEqDiff, Nat.reduceBEq, reduceIte, reduceCtorEq, Int.reduceEq, Int.reduceLT, Int.reduceLE, Int.reduceAdd, Int.reduceSub, Int.reduceMul, Int.reduceToNat, Int.reduceNeg, Int.reduceBEq, Int.reducePow, Nat.reducePow, ls, List.append_nil]
      rfl
  | n + 1, i, c, d, x4, x5, x8, h, hi, hc => by
    have g1 := ha.getD0 (by decide) i
    have g2 := hb.getD0 (by decide) i
    obtain ⟨t1, -, -, ca, -⟩ := (hx.aS d).res
    obtain ⟨t2, -, -, cb, -⟩ := (hy.aS d).res
    have c1 := call76 t1 a ha (by omega) i (by omega)
    have c2 := call76 t2 b hb (by omega) i (by omega)
    simp only [ls]
    obtain ⟨v, hv⟩ : ∃ v, v = 65536 + a.getD i default - b.getD i default - c := ⟨_, rfl⟩
    have px := hx.pl
    have py := hy.pl
    have pm := aM_pl S d
    have pm2 := aM_pl S (d ++ [v % 65536])
    have hap := ap_aM S d (v % 65536) .full (by omega)
    obtain ⟨y4, y5, y8, ih⟩ := loop55 hx hy ha hb h1 h2 n (i + 1) (1 - v / 65536) (d ++ [v % 65536]) (.iv (.int .i64 i)) (.iv (.int .u32 v)) (.iv (.bool true)) (by omega) (by simp [hi]) (by omega)
    refine ⟨y4, y5, y8, loop_at K _ _ t55L0.eq_1 ?_⟩
    rw [List.append_assoc, List.cons_append, List.nil_append] at ih
    rw [← hv]
    simp only [d16] at hap
    generalize a.getD i default = p at *
    generalize b.getD i default = q at *
    simp (config := { maxSteps := 4000000 }) (disch := omega) only [go_sem, Nat.reduceAdd, Nat.reduceSub, Nat.reduceLT, Nat.reduceLeDiff, Nat.reduceEqDiff, Nat.reduceBEq, reduceIte, reduceCtorEq, Int.reduceEq, Int.reduceLT, Int.reduceLE, Int.reduceAdd, Int.reduceSub, Int.reduceMul, Int.reduceToNat, Int.reduceNeg, Int.reduceBEq, Int.reducePow, Nat.reducePow, px.loc, px.nlp, px.resK, px.wb, py.loc, py.nlp, py.resK, py.wb, pm.loc, pm.nlp, pm.resK, pm.wb, pm2.loc, pm2.nlp, pm2.resK, pm2.wb, ca, cb, c1, c2, Bool.and_false, Bool.not_true, wrap_u32, wrap_i64, ← hv, wrap_u16_mod, hap, fd16]
    exact congrArg er ih
theorem lessV {m1 m2 : Bool} {P1 P2 : Nat → Prop} {S : Store} {x y : TV} {a b : List Int} (hx : DV m1 P1 S x a) (hy : DV m2 P2 S y b) (ha : Dig 65536 a) (hb : Dig 65536 b) (h1 : a.length ≤ 90000) (h2 : b.length ≤ a.length) (hv : val 65536 b ≤ val 65536 a) :
    ∃ out, Dig 65536 out ∧ out.length = a.length ∧ val 65536 out = val 65536 a - val 65536 b ∧ (lim K).call 55 [x, y] S = .ret (aM S out, aS S out) := by
  obtain ⟨y4, y5, y8, e⟩ := loop55 hx hy ha hb (by omega) (by omega) a.length 0 0 [] (.tup []) (.tup []) (.tup []) (by omega) rfl (by omega)
  obtain ⟨i1, i2, i3, i4, i5⟩ := ls_spec ha hb a.length 0 0 (by omega) (by omega) (by omega)
  rw [List.drop_zero, List.drop_zero] at i5
  have l1 := val_lt (by decide) i1
  rw [i2] at l1
  have hc : (ls a b a.length 0 0).2 = 0 := by
    have : (ls a b a.length 0 0).2 = 0 ∨ (ls a b a.length 0 0).2 = 1 := by omega
    rcases this with h | h
    · exact h
    · rw [h] at i5; omega
  rw [hc] at i5
  refine ⟨(ls a b a.length 0 0).1, i1, i2, by omega, call_ret' K S (fn := t55) rfl rfl ?_⟩
  rw [List.nil_append, show ((0 : Nat) : Int) = 0 from rfl, aM_nil, aS_nil] at e
  have px := hx.pl
  have py := hy.pl
  have pm := aM_pl S (ls a b a.length 0 0).1
  have lx := hx.len
  simp (config := { maxSteps := 4000000 }) (disch := omega) only [t55, go_sem, Nat.reduceAdd, Nat.reduceSub, Nat.reduceLT, Nat.reduceLeDiff, Nat.reduceEqDiff, Nat.reduceBEq, reduceIte, reduceCtorEq, Int.reduceEq, Int.reduceLT, Int.reduceLE, Int.reduceAdd, Int.reduceSub, Int.reduceMul, Int.reduceToNat, Int.reduceNeg, Int.reduceBEq, Int.reducePow, Nat.reducePow, px.loc, px.nlp, px.resK, px.wb, py.loc, py.nlp, py.resK, py.wb, pm.loc, pm.nlp, pm.resK, pm.wb, lx, e]
theorem loop41 {m1 : Bool} {P1 : Nat → Prop} {S : Store} {x : TV} {l : List Int} (hx : DV m1 P1 S x l) (hd : Dig 65536 l) (hl : l.length ≤ 900000) (y : Int) (hy : 0 ≤ y ∧ y ≤ 65535) (x0 x3 : TV) : ∀ (n i : Nat) (m : Int) (d : List Int) (x5 x9 : TV), i + n = l.length → d.length = i → 0 ≤ m ∧ m ≤ 65536 →
    ∃ y5 y9, lp' (lim K) t41L0 [x0, .iv (.int .u32 y), .iv (.int .u32 m), x3, aM S d, x5, x, .iv (.int .i64 l.length), .iv (.int .i64 i), x9] (aS S d) = .ret (.exit 0, [x0, .iv (.int .u32 y), .iv (.int .u32 (sc 65536 y (l.drop i) m).2), x3, aM S (d ++ (sc 65536 y (l.drop i) m).1), y5, x, .iv (.int .i64 l.length), .iv (.int .i64 l.length), y9], aS S (d ++ (sc 65536 y (l.drop i) m).1))
  | 0, i, m, d, x5, x9, h, hi, hm => by
    obtain rfl : i = l.length := by omega
    rw [List.drop_length]
    refine ⟨?_, ?_, loop_at K _ _ t41L0.eq_1 ?_⟩
    rotate_left 2
    · simp (disch := omega) only [go_sem, Nat.reduceAdd, Nat.reduceSub, Nat.reduceLT, Nat.reduceLeDiff, Nat.reduceEqDiff, Nat.reduceBEq, reduceIte, reduceCtorEq, Int.reduceEq, Int.reduceLT, Int.reduceLE, Int.reduceAdd, Int.reduceSub, Int.reduceMul, Int.reduceToNat, Int.reduceNeg, Int.reduceBEq, Int.reducePow, Nat.reducePow, sc, List.append_nil]
      rfl
  | n + 1, i, m, d, x5, x9, h, hi, hm => by
    have hlt : i < l.length := by omega
    obtain ⟨p, hp1, hp2⟩ := (hx.aS d).idx (i := (i : Int)) (by omega)
    rw [Int.toNat_natCast] at hp2
    have hdr := drop_getD hlt
    have hg := hd.getD hlt
    rw [hdr]
    generalize l.getD i default = a at *
    have hp := mul_le (c := 65535) (d := 65535) hg.1 (by omega) hy.1 hy.2
    have px := hx.pl
    have pm := aM_pl S d
    have pm2 := aM_pl S (d ++ [(m + a * y) % 65536])
    have hap := ap_aM S d ((m + a * y) % 65536) .full (by omega)
    have hm' : 0 ≤ (m + a * y) / 65536 ∧ (m + a * y) / 65536 ≤ 65536 := by omega
    obtain ⟨y5, y9, ih⟩ := loop41 hx hd hl y hy x0 x3 n (i + 1) ((m + a * y) / 65536) (d ++ [(m + a * y) % 65536]) (.iv (.int .u16 a)) (.iv (.bool true)) (by omega) (by simp [hi]) hm'
    refine ⟨y5, y9, loop_at K _ _ t41L0.eq_1 ?_⟩
    simp only [d16] at hap
    simp (config := { maxSteps := 4000000 }) (disch := omega) only [go_sem, Nat.reduceAdd, Nat.reduceSub, Nat.reduceLT, Nat.reduceLeDiff, Nat.reduceEqDiff, Nat.reduceBEq, reduceIte, reduceCtorEq, Int.reduceEq, Int.reduceLT, Int.reduceLE, Int.reduceAdd, Int.reduceSub, Int.reduceMul, Int.reduceToNat, Int.reduceNeg, Int.reduceBEq, Int.reducePow, Nat.reducePow, px.loc, px.nlp, px.resK, px.wb, pm.loc, pm.nlp, pm.resK, pm.wb, pm2.loc, pm2.nlp, pm2.resK, pm2.wb, hp1, hp2, wrap_u32, wrap_u16_mod, wrap_i64, hap]
    rw [List.append_assoc] at ih
    simp only [sc, List.cons_append, List.nil_append] at ih ⊢
    rw [fd16]
    exact congrArg er ih
theorem scaledV {m1 : Bool} {P1 : Nat → Prop} {S : Store} {x : TV} {l : List Int} (hx : DV m1 P1 S x l) (hd : Dig 65536 l) (hl : l.length ≤ 900000) (y : Int) (hy : 0 ≤ y ∧ y ≤ 65535) (m : Int) (hm : 0 ≤ m ∧ m ≤ 65535) :
    ∃ out, Dig 65536 out ∧ out.length = l.length + 1 ∧ val 65536 out = y * val 65536 l + m ∧ (lim K).call 41 [x, .iv (.int .u32 y), .iv (.int .u32 m)] S = .ret (aM S out, aS S out) := by
  obtain ⟨y5, y9, e⟩ := loop41 hx hd hl y hy x (.iv (.sl .nil [])) l.length 0 m [] (.tup []) (.tup []) (by omega) rfl (by omega)
  obtain ⟨h1, h2, h3, h4⟩ := sc_spec (B := 65536) (by decide) hy.1 l m hd hm.1
  have h5 := sc_carry (B := 65536) (by decide) hy l m hd
  have hcar : (sc 65536 y l m).2 ≤ 65535 := sc_carry (B := 65536) (y := y) (c := 65535) (by decide) hy l m hd hm
  rw [List.drop_zero, List.nil_append, show ((0 : Nat) : Int) = 0 from rfl, aM_nil, aS_nil] at e
  have hmod : (sc 65536 y l m).2 % 65536 = (sc 65536 y l m).2 := Int.emod_eq_of_lt h2 (by omega)
  have hap := ap_aM S (sc 65536 y l m).1 ((sc 65536 y l m).2 % 65536) .full (by omega)
  have hs := sc_val (B := 65536) (by decide) hy.1 l [(sc 65536 y l m).2 % 65536] m hd hm.1 (Dig.cons (by omega) Dig.nil) (by simp [val, hmod])
  refine ⟨(sc 65536 y l m).1 ++ [(sc 65536 y l m).2 % 65536], hs.1, by simp [h3], hs.2, call_ret' K S (fn := t41) rfl rfl ?_⟩
  have px := hx.pl
  have lx := hx.len
  have pm := aM_pl S (sc 65536 y l m).1
  have pm2 := aM_pl S ((sc 65536 y l m).1 ++ [(sc 65536 y l m).2 % 65536])
  simp only [d16] at hap
  simp (config := { maxSteps := 4000000 }) (disch := omega) only [t41, go_sem, Nat.reduceAdd, Nat.reduceSub, Nat.reduceLT, Nat.reduceLeDiff, Nat.reduceEqDiff, Nat.reduceBEq, reduceIte, reduceCtorEq, Int.reduceEq, Int.reduceLT, Int.reduceLE, Int.reduceAdd, Int.reduceSub, Int.reduceMul, Int.reduceToNat, Int.reduceNeg, Int.reduceBEq, Int.reducePow, Nat.reducePow, px.loc, px.nlp, px.resK, px.wb, pm.loc, pm.nlp, pm.resK, pm.wb, pm2.loc, pm2.nlp, pm2.resK, pm2.wb, lx, e, wrap_u16_mod, hap]
end Go.Proofs.YtdbffhgfjmhaiaaDoor
