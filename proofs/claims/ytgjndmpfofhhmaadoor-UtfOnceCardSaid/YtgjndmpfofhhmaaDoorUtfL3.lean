/- UtfOnce: the evaluator answers true. Condition: none. -/
import Derived.Test.YtgjndmpfofhhmaaDoorUtfC5
set_option maxRecDepth 100000
set_option linter.unusedSimpArgs false
set_option linter.unusedVariables false
namespace Go.Proofs.YtgjndmpfofhhmaaDoor
open Go Go.TM
theorem chars_fuel : ∀ (k m : Nat) (s : List UInt8) (i : Int), s.length ≤ k → s.length ≤ m → chars k s i = chars m s i
  | 0, 0, s, i, _, _ => rfl
  | 0, m + 1, s, i, h, _ => by
    have : s = [] := List.eq_nil_of_length_eq_zero (by omega)
    subst this; simp [chars]
  | k + 1, 0, s, i, _, h => by
    have : s = [] := List.eq_nil_of_length_eq_zero (by omega)
    subst this; simp [chars]
  | k + 1, m + 1, s, i, h1, h2 => by
    simp only [chars]
    split
    · rfl
    · split
      · rfl
      · rename_i hb
        have hg := D_good (s := s) (by simpa using hb)
        rw [chars_fuel k m (s.drop (D s).2) (i + (D s).2) (by rw [List.length_drop]; omega) (by rw [List.length_drop]; omega)]
/-- Where there is no char: the place, and what stands ahead of it. -/
theorem chars_bad : ∀ (k : Nat) (s : List UInt8) (i p : Int), s.length ≤ k → (chars k s i).2 = some p → i ≤ p ∧ p < i + s.length ∧ bad (s.drop (p - i).toNat) = true ∧ (chars k (s.take (p - i).toNat) i).2 = none
  | 0, s, i, p, h, e => by simp [chars] at e
  | k + 1, s, i, p, h, e => by
    simp only [chars] at e
    split at e
    · simp at e
    · rename_i hne
      split at e
      · rename_i hb
        simp at e; subst e
        have : 0 < s.length := List.length_pos_iff.2 hne
        simp only [Int.sub_self, Int.toNat_zero, List.drop_zero, List.take_zero]
        refine ⟨by omega, by omega, hb, by simp [chars]⟩
      · rename_i hb
        have hg := D_good (s := s) (by simpa using hb)
        simp only at e
        obtain ⟨h1, h2, h3, h4⟩ := chars_bad k (s.drop (D s).2) (i + (D s).2) p (by rw [List.length_drop]; omega) e
        rw [List.length_drop] at h2
        have e1 : (p - i).toNat = (D s).2 + (p - (i + (D s).2)).toNat := by omega
        refine ⟨by omega, by omega, ?_, ?_⟩
        · rw [e1, ← List.drop_drop]; exact h3
        · have et : s.take (p - i).toNat = bytesR ((D s).1 : Nat) ++ (s.drop (D s).2).take (p - (i + (D s).2)).toNat := by
            rw [e1, List.take_add, hg.2.1]
          have hd := D_bytes hg.1 ((s.drop (D s).2).take (p - (i + (D s).2)).toNat)
          have hbt := not_bad hg.1 ((s.drop (D s).2).take (p - (i + (D s).2)).toNat)
          have hl : (bytesR ((D s).1 : Nat)).length = (D s).2 := by rw [hg.2.1, List.length_take]; omega
          rw [← et] at hd hbt
          rw [hl] at hd
          have hne2 : ¬ s.take (p - i).toNat = [] := by
            intro q; have q2 := congrArg List.length q; rw [et, List.length_append, hl, List.length_nil] at q2; omega
          simp only [chars, hne2, hbt, ↓reduceIte, Bool.false_eq_true, hd]
          have : (s.take (p - i).toNat).drop (D s).2 = (s.drop (D s).2).take (p - (i + (D s).2)).toNat := by
            rw [et, ← hl, List.drop_left]
          rw [this]
          exact h4
/-- Chars that stand one behind the other, from i on. -/
def chain : List (Int × Int) → Int → Prop
  | [], _ => True
  | c :: l, i => c.2 = i ∧ isC c.1 = true ∧ chain l (i + (bytesR c.1).length)
theorem chars_good : ∀ (k : Nat) (s : List UInt8) (i : Int), s.length ≤ k → (chars k s i).2 = none → chain (chars k s i).1 i ∧ cat (codes (chars k s i).1) = s
  | 0, s, i, h, _ => by
    have : s = [] := List.eq_nil_of_length_eq_zero (by omega)
    subst this; exact ⟨trivial, rfl⟩
  | k + 1, s, i, h, e => by
    simp only [chars] at e ⊢
    split
    · rename_i h0; subst h0; exact ⟨trivial, rfl⟩
    · rename_i hne
      simp only [hne, ↓reduceIte] at e
      split
      · rename_i hb; simp [hb] at e
      · rename_i hb
        have hb' : bad s = false := by simpa using hb
        have hg := D_good (s := s) hb'
        simp only [hb', Bool.false_eq_true, ↓reduceIte] at e
        obtain ⟨h1, h2⟩ := chars_good k (s.drop (D s).2) (i + (D s).2) (by rw [List.length_drop]; omega) e
        have hl : (bytesR ((D s).1 : Nat)).length = (D s).2 := by rw [hg.2.1, List.length_take]; omega
        refine ⟨⟨rfl, hg.1, by rw [hl]; exact h1⟩, ?_⟩
        simp only [codes, List.map_cons, cat]
        rw [show cat (List.map (fun x => x.1) (chars k (s.drop (D s).2) (i + (D s).2)).1) = s.drop (D s).2 from h2, hg.2.1, List.take_append_drop]
theorem chain_get : ∀ {cs : List (Int × Int)} {i : Int} {n : Nat}, chain cs i → n < cs.length → (cs.getD n default).2 = i + (cat (codes (cs.take n))).length ∧ isC (cs.getD n default).1 = true
  | [], i, n, h, hn => by simp at hn
  | c :: cs, i, 0, h, hn => by simp [codes, cat, h.1, h.2.1]
  | c :: cs, i, n + 1, h, hn => by
    have := chain_get (n := n) h.2.2 (by simpa using hn)
    simp only [List.getD_cons_succ, List.take_succ_cons, codes, List.map_cons, cat, List.length_append] at this ⊢
    refine ⟨by rw [this.1]; omega, this.2⟩
set_option maxHeartbeats 8000000 in
theorem loop7 (t tg : Tag) (B : List UInt8) (ht : TagOk t B) (cs : List (Int × Int)) (hl : cs.length ≤ 1000000) (hB : B.length ≤ 1000000) (hch : chain cs 0) (hcat : cat (codes cs) = B) (r a3 a4 a5 a11 a12 a13 a14 a15 a16 : TV) : ∀ (k i : Nat) (x9 x10 x17 x18 : TV), i + k = cs.length →
    ∃ y9 y10 y17 y18, lp' (lim K) t7L0 [.iv (.sl t (bytesIV B)), r, .iv (.sl tg (cs.map encC)), a3, a4, a5, .iv (.int .i64 (cat (codes (cs.take i))).length), acc 0 (one i64 (codes (cs.take i))), .iv (.int .i64 i), x9, x10, a11, a12, a13, a14, a15, a16, x17, x18] (accS 1 3 (one i64 (codes (cs.take i)))) = .ret (.exit 0, [.iv (.sl t (bytesIV B)), r, .iv (.sl tg (cs.map encC)), a3, a4, a5, .iv (.int .i64 B.length), acc 0 (one i64 (codes cs)), .iv (.int .i64 cs.length), y9, y10, a11, a12, a13, a14, a15, a16, y17, y18], accS 1 3 (one i64 (codes cs)))
  | 0, i, x9, x10, x17, x18, h => by
    obtain rfl : i = cs.length := by omega
    rw [List.take_length, hcat]
    refine ⟨?_, ?_, ?_, ?_, loop_at K _ _ t7L0.eq_1 ?_⟩
    rotate_left 4
    · simp (disch := omega) only [go_sem, Nat.reduceAdd, Nat.reduceSub, Nat.reduceMul, Nat.reduceLT, Nat.reduceLeDiff, Nat.reduceEqDiff, Nat.reduceBEq, reduceIte, reduceCtorEq, List.replicate, List.cons_append, List.nil_append, Int.reduceEq, Int.reduceLT, Int.reduceLE, Int.reduceAdd, Int.reduceSub, Int.reduceMul, Int.reduceToNat, Int.reduceNeg, Int.reduceBEq, Int.reduceBNe, Int.reduceTDiv, Int.reduceTMod, Int.reducePow, Nat.reducePow, decide_true, decide_false, Nat.reduceDiv, Nat.reduceMod, Int.reduceMod, Int.reduceDiv, Int.reduceNe, Int.reduceFDiv, Nat.reduceLeDiff, beq_self_eq_true, decT, decF, ifT, ifF, eqT, eqF, neT, neF, bytesIV_length, one_length, get_cp, get_cp0, List.length_map]
      rfl
  | k + 1, i, x9, x10, x17, x18, h => by
    have hc := codes_take cs i (by omega)
    have hcl : (codes (cs.take i)).length ≤ 1000000 := by simp [codes]; omega
    have hg := ix_map (w := 2) (f := encC) (fun _ => rfl) (t := tg) (l := cs) (i := (i : Int)) (by omega)
    obtain ⟨hpos, hisc⟩ := chain_get hch (n := i) (by omega)
    have hsplit : codes cs = codes (cs.take i) ++ ((cs.getD i default).1 :: codes (cs.drop (i + 1))) := by
      have e1 : cs = cs.take (i + 1) ++ cs.drop (i + 1) := (List.take_append_drop _ _).symm
      conv => lhs; rw [e1]
      rw [show codes (cs.take (i + 1) ++ cs.drop (i + 1)) = codes (cs.take (i + 1)) ++ codes (cs.drop (i + 1)) by simp [codes], hc, List.append_assoc]; rfl
    have hB2 : B = cat (codes (cs.take i)) ++ (bytesR (cs.getD i default).1 ++ cat (codes (cs.drop (i + 1)))) := by
      rw [← hcat, hsplit, cat_append]; rfl
    have ih := loop7 t tg B ht cs hl hB hch hcat r a3 a4 a5 a11 a12 a13 a14 a15 a16 k (i + 1)
    rw [hc, ← one_append, cat_append, List.length_append] at ih
    have ec : cat [(cs.getD i default).1] = bytesR (cs.getD i default).1 := by simp [cat]
    rw [ec] at ih
    have ha := ap_acc1 (w := 1) (b := 8) (el := 3) (t := .full) (l := one i64 (codes (cs.take i))) (c := [.int .i64 (cs.getD i default).1]) ⟨rfl, rfl⟩ (Elems.one i64_cell _) (roomy_ok (by rw [one_length]; omega))
    rw [Int.toNat_natCast] at hg
    have hbe := bytes_eq (cs.getD i default).1 hisc
    generalize cs.getD i default = c at *
    have hBl : B.length = (cat (codes (cs.take i))).length + ((bytesR c.1).length + (cat (codes (cs.drop (i + 1)))).length) := by
      conv => lhs; rw [hB2]
      simp
    have hsl : ∀ S, sliceOp S (.sl 1) (.iv (.sl t (bytesIV B))) (some ((cat (codes (cs.take i))).length : Int)) (some ((cat (codes (cs.take i))).length + (bytesR c.1).length : Int)) none = some (.iv (.sl (cutTag t B.length ((cat (codes (cs.take i))).length + (bytesR c.1).length)) (bytesIV (bytesR c.1)))) := by
      intro S
      rw [slice_bytes S ht (by omega)]
      have e1 : ((cat (codes (cs.take i))).length + (bytesR c.1).length : Int).toNat = (cat (codes (cs.take i))).length + (bytesR c.1).length := by omega
      rw [e1, Int.toNat_natCast]
      congr 3
      · congr 1
        conv => lhs; rw [hB2]
        rw [List.drop_left, Nat.add_sub_cancel_left, List.take_left]
    generalize cat (codes (cs.take i)) = A at *
    have hz : addOff (.iv (.cp (encC c))) 0 = some (.iv (.cp [.int .i64 c.1, .int .i64 c.2])) := rfl
    have hz1 : addOff (.iv (.cp (encC c))) 1 = some (.iv (.cp [.int .i64 c.2])) := rfl
    obtain ⟨y9, y10, y17, y18, ih⟩ := ih (.iv (.str (bytesR c.1))) (.iv (.int .i64 0)) (.iv (.bool true)) (.iv (.bool false)) (by omega)
    refine ⟨y9, y10, y17, y18, loop_at K _ _ t7L0.eq_1 ?_⟩
    simp (config := { maxSteps := 4000000 }) (disch := omega) only [go_sem, Nat.reduceAdd, Nat.reduceSub, Nat.reduceMul, Nat.reduceLT, Nat.reduceLeDiff, Nat.reduceEqDiff, Nat.reduceBEq, reduceIte, reduceCtorEq, List.replicate, List.cons_append, List.nil_append, Int.reduceEq, Int.reduceLT, Int.reduceLE, Int.reduceAdd, Int.reduceSub, Int.reduceMul, Int.reduceToNat, Int.reduceNeg, Int.reduceBEq, Int.reduceBNe, Int.reduceTDiv, Int.reduceTMod, Int.reducePow, Nat.reducePow, decide_true, decide_false, Nat.reduceDiv, Nat.reduceMod, Int.reduceMod, Int.reduceDiv, Int.reduceNe, Int.reduceFDiv, Nat.reduceLeDiff, beq_self_eq_true, decT, decF, ifT, ifF, eqT, eqF, neT, neF, bytesIV_length, one_length, get_cp, get_cp0, List.length_map, hg, hz, hz1, wrap_i64, call10, hisc, hbe, hsl, ha, bne_self_eq_false]
    exact congrArg er ih
theorem sTag_one {α : Type} (f : α → IV) (l : List α) : sTag (one f l) = sTag l := sTag_map _ l
theorem getR_bad {B : List UInt8} {p : Int} (h0 : 0 ≤ p) (h1 : p < B.length) (hb : bad (B.drop p.toNat) = true) : getR B p = (0, 0, 4) := by
  simp only [getR]
  rw [if_neg (by omega), if_pos hb]
theorem cat_isC : ∀ {cs : List (Int × Int)} {i : Int}, chain cs i → allC (codes cs) = true
  | [], _, _ => rfl
  | c :: cs, i, h => by
    have := cat_isC h.2.2
    simp only [allC, codes, List.map_cons, List.all_cons, h.2.1, Bool.true_and] at this ⊢
    exact this
set_option maxHeartbeats 8000000 in
theorem law7 (t : Tag) (b : List UInt8) (ht : TagOk t b) (hl : b.length ≤ 9223372036854775807) : ((lim K).call 7 [.iv (.sl t (bytesIV b))] []).All fun r => r.1 = .iv (.bool true) := by
  obtain ⟨t', ht', h9⟩ := call9 b t ht
  have hB : (b.take 2000).length ≤ 1000000 := by simp; omega
  generalize b.take 2000 = B at *
  have h17 := call17 t' B ht' hB
  have h19 := call19 B hB
  have hcl := chars_len B hB
  have hbad := fun p => chars_bad B.length B 0 p (Nat.le_refl _)
  have hgood := chars_good B.length B 0 (Nat.le_refl _)
  generalize hq : chars B.length B 0 = q at *
  obtain ⟨q1, q2⟩ := q
  refine call_all' K [] (fn := t7) rfl rfl ?_
  cases q2 with
  | some p =>
    simp only at h17
    obtain ⟨p1, p2, p3, p4⟩ := hbad p rfl
    rw [Int.sub_zero] at p3 p4
    have h12 := call12 t' B p ht'
    rw [getR_bad p1 (by omega) p3] at h12
    have hsl := fun S => slice_bytes_hi S (t := t') (l := B) (b := p) ht' (by omega)
    have htg : TagOk (cutTag t' B.length p.toNat) (B.take p.toNat) := by have := ht'.cut 0 p.toNat B.length; intro e; have := this e; simpa using this
    have h17b := call17 (cutTag t' B.length p.toNat) (B.take p.toNat) htg (by rw [List.length_take]; omega)
    rw [chars_fuel _ B.length (B.take p.toNat) 0 (Nat.le_refl _) (by rw [List.length_take]; omega), p4] at h17b
    simp only at h17b
    simp (config := { maxSteps := 4000000 }) (disch := omega) only [t7, go_sem, Nat.reduceAdd, Nat.reduceSub, Nat.reduceMul, Nat.reduceLT, Nat.reduceLeDiff, Nat.reduceEqDiff, Nat.reduceBEq, reduceIte, reduceCtorEq, List.replicate, List.cons_append, List.nil_append, Int.reduceEq, Int.reduceLT, Int.reduceLE, Int.reduceAdd, Int.reduceSub, Int.reduceMul, Int.reduceToNat, Int.reduceNeg, Int.reduceBEq, Int.reduceBNe, Int.reduceTDiv, Int.reduceTMod, Int.reducePow, Nat.reducePow, decide_true, decide_false, Nat.reduceDiv, Nat.reduceMod, Int.reduceMod, Int.reduceDiv, Int.reduceNe, Int.reduceFDiv, Nat.reduceLeDiff, beq_self_eq_true, decT, decF, ifT, ifF, eqT, eqF, neT, neF, bytesIV_length, one_length, get_cp, get_cp0, h9, cpR_pure h17, h12, tup3, hsl, cpR_pure h17b, works, Out.All]
  | none =>
    simp only at h17 h19 hcl hgood
    obtain ⟨hch, hcat⟩ := hgood trivial
    have h21 := call21 (sTag (codes q1)) (codes q1) (by simp [codes]; omega)
    have htv : textV (codes q1) = .tup [.iv (.str B), .iv (.int .i64 0)] := by
      unfold textV; rw [cat_isC hch, hcat]; rfl
    rw [htv] at h21
    have h23 := call23 (sTag q1) (sTag (codes q1)) (codes q1) (by simp [codes]; omega)
    simp (config := { maxSteps := 4000000 }) (disch := omega) only [t7, go_sem, Nat.reduceAdd, Nat.reduceSub, Nat.reduceMul, Nat.reduceLT, Nat.reduceLeDiff, Nat.reduceEqDiff, Nat.reduceBEq, reduceIte, reduceCtorEq, List.replicate, List.cons_append, List.nil_append, Int.reduceEq, Int.reduceLT, Int.reduceLE, Int.reduceAdd, Int.reduceSub, Int.reduceMul, Int.reduceToNat, Int.reduceNeg, Int.reduceBEq, Int.reduceBNe, Int.reduceTDiv, Int.reduceTMod, Int.reducePow, Nat.reducePow, decide_true, decide_false, Nat.reduceDiv, Nat.reduceMod, Int.reduceMod, Int.reduceDiv, Int.reduceNe, Int.reduceFDiv, Nat.reduceLeDiff, beq_self_eq_true, decT, decF, ifT, ifF, eqT, eqF, neT, neF, bytesIV_length, one_length, get_cp, get_cp0, h9, cpR_pure h17]
    obtain ⟨y9, y10, y17, y18, e⟩ := loop7 t' (sTag q1) B ht' q1 hcl hB hch hcat (.iv (.bool false)) (.lb [.iv (.int .i64 0), .iv (.int .i64 0)]) (.tup []) (.tup []) (.tup []) (.tup []) (.tup []) (.tup []) (.iv (.bool false)) (.tup []) q1.length 0 (.tup []) (.tup []) (.tup []) (.tup []) (by omega)
    rw [List.take_zero, show codes [] = [] from rfl, show one i64 [] = [] from rfl, acc_nil, accS_nil, show cat [] = [] from rfl, List.length_nil, show ((0 : Nat) : Int) = 0 from rfl] at e
    have hone : one i64 (codes q1) = one i64 (codes q1) := rfl
    simp (config := { maxSteps := 4000000 }) (disch := omega) only [go_sem, Nat.reduceAdd, Nat.reduceSub, Nat.reduceMul, Nat.reduceLT, Nat.reduceLeDiff, Nat.reduceEqDiff, Nat.reduceBEq, reduceIte, reduceCtorEq, List.replicate, List.cons_append, List.nil_append, Int.reduceEq, Int.reduceLT, Int.reduceLE, Int.reduceAdd, Int.reduceSub, Int.reduceMul, Int.reduceToNat, Int.reduceNeg, Int.reduceBEq, Int.reduceBNe, Int.reduceTDiv, Int.reduceTMod, Int.reducePow, Nat.reducePow, decide_true, decide_false, Nat.reduceDiv, Nat.reduceMod, Int.reduceMod, Int.reduceDiv, Int.reduceNe, Int.reduceFDiv, Nat.reduceLeDiff, beq_self_eq_true, decT, decF, ifT, ifF, eqT, eqF, neT, neF, bytesIV_length, one_length, get_cp, get_cp0, e, sTag_one, cpR_pure h21, cpR_pure h19, h23, works, Out.All]
end Go.Proofs.YtgjndmpfofhhmaaDoor
