/- The contract of big.Text. Condition: none. -/
import Derived.Test.YtdbffhgfjmhaiaaDoorBigSB
set_option maxRecDepth 100000
set_option maxHeartbeats 2000000
set_option linter.unusedSimpArgs false
set_option linter.unusedVariables false
namespace Go.Proofs.YtdbffhgfjmhaiaaDoor
open Go Go.TM
theorem sM_ne {C : List (List UInt8)} (h : C ≠ []) : sM C = .msl 0 (C.length - 1) 0 C.length C.length 1 := by rw [sM, if_neg h]
theorem sS_ne {C : List (List UInt8)} (h : C ≠ []) : sS C = sB (C.length - 1) C := by rw [sS, if_neg h]
theorem flat_strs : ∀ (C : List (List UInt8)), flat (one IV.str C) = C.map IV.str
  | [] => rfl
  | a :: l => by
    have ih := flat_strs l
    simp only [one, flat, List.map_cons, List.flatten_cons, List.cons_append, List.nil_append] at ih ⊢
    rw [ih]
theorem elems_sB (v : Nat) (C : List (List UInt8)) : elemsIV (sB v C) (.msl 0 v 0 C.length C.length 1) = some (one IV.str C) := by
  have hg : (sB v C)[0]? = some (.cells v true (sC C)) := rfl
  have hs : TM.sub (sC C) 0 (C.length * 1) = some (sC C) := by
    simp only [TM.sub, sC_len, Nat.mul_one, Nat.zero_add, Nat.le_refl, if_true, List.drop_zero]
    rw [List.take_of_length_le (by rw [sC_len]; exact Nat.le_refl _)]
  have h1 : sC C = (C.map IV.str).map .iv := by rw [List.map_map]; rfl
  have h2 : chunks 1 C.length (C.map IV.str) = one IV.str C := by
    have := chunks_flat (w := 1) (l := one IV.str C) (by intro y hy; obtain ⟨a, _, rfl⟩ := List.mem_map.1 hy; rfl)
    rw [one_length] at this
    have hf := flat_strs C
    rw [hf] at this
    exact this
  simp only [elemsIV, hg]
  show (if v ≠ v then none else match TM.sub (sC C) 0 (C.length * 1) with | some l => (toIVs l).map (chunks 1 C.length) | none => none) = _
  rw [hs]
  simp only [ne_eq, not_true_eq_false, ↓reduceIte]
  rw [h1, toIVs_ivs, Option.map_some, h2]
def txt (neg : Bool) (v : Int) : List UInt8 := if v = 0 then [48] else cat ((if neg then chk 75 v ++ [[45]] else chk 75 v).reverse)
theorem chk_ne {k : Nat} {v : Int} (h : 0 < v) : chk (k + 1) v ≠ [] := by
  rw [chk, if_neg (by omega)]
  split <;> simp
theorem chk_len : ∀ (k : Nat) (v : Int), (chk k v).length ≤ k
  | 0, v => by simp [chk]
  | k + 1, v => by
    have := chk_len k (v / 10000)
    rw [chk]
    repeat' split
    all_goals simp
    all_goals omega
theorem chk_parts : ∀ (k : Nat) (v : Int), ∀ s ∈ chk k v, 1 ≤ s.length ∧ s.length ≤ 4
  | 0, v, s, h => by simp [chk] at h
  | k + 1, v, s, h => by
    rw [chk] at h
    split at h
    · cases h
    · split at h
      · rw [List.mem_singleton] at h; subst h; exact itoa_len v
      · rcases List.mem_cons.1 h with rfl | h
        · simp [pad4]
        · exact chk_parts k _ s h
theorem cat_len {l : List (List UInt8)} (h : ∀ s ∈ l, 1 ≤ s.length ∧ s.length ≤ 4) : l.length ≤ (cat l).length ∧ (cat l).length ≤ 4 * l.length := by
  induction l with
  | nil => simp [cat]
  | cons a l ih =>
    have h1 := h a (List.mem_cons_self ..)
    have h2 := ih (fun s hs => h s (List.mem_cons_of_mem _ hs))
    simp only [cat, List.flatten_cons, List.length_append, List.length_cons] at h2 ⊢
    omega
theorem call16 (neg : Bool) (t : Tag) (l : List Int) (ht : TagOk t l) (hd : Dig 65536 l) (hl : l.length ≤ 500) (hb : val 65536 l < 10000 ^ 75) : Pure K 16 [.iv (num neg t l)] (.iv (.str (txt neg (val 65536 l)))) := by
  have h0 := val_nonneg (by decide) hd
  obtain ⟨t2, j2, h40⟩ := call40 t l ht (by omega)
  have hlt := tr_len l
  rw [tr_eq (by decide) hd] at j2 h40 hlt
  generalize val 65536 l = v at *
  simp only [num]
  by_cases hv : v = 0
  · subst hv
    rw [dg_zero] at h40
    have e0 : one d16 [] = [] := rfl
    rw [e0] at h40
    rw [txt, if_pos rfl]
    refine call_pure t16 rfl rfl ?_
    simp (config := { maxSteps := 4000000 }) (disch := omega) only [t16, go_sem, Nat.reduceAdd, Nat.reduceSub, Nat.reduceLT, Nat.reduceLeDiff, Nat.reduceEqDiff, Nat.reduceBEq, reduceIte, reduceCtorEq, Int.reduceEq, Int.reduceLT, Int.reduceLE, Int.reduceAdd, Int.reduceSub, Int.reduceMul, Int.reduceToNat, Int.reduceNeg, Int.reduceBEq, Int.reducePow, Nat.reducePow, h40, List.length_nil, resB_ret, resO_some]
    try rfl
  · have h75 := hb
    have hlen : 0 < (dg 65536 v).length := by
      rcases Nat.eq_zero_or_pos (dg 65536 v).length with h | h
      · exact absurd ((dg_nil (by decide) h0).1 (List.length_eq_zero_iff.1 h)) hv
      · exact h
    obtain ⟨t', y5, y6, y8, y9, e⟩ := loop16 (.iv (.agg [.bool neg, .sl t (one d16 l)])) (.lb [.iv (.bool neg), .iv (.sl t (one d16 l))]) (.iv (.str [])) (.iv (.bool false)) (.tup []) 75 v t2 [] (.tup []) (.tup []) (.tup []) (.tup []) h0 h75 (by omega) j2 (by simp)
    rw [List.nil_append] at e
    have es : sM [] = .iv (.sl .nil []) := by simp [sM]
    have eS : sS [] = [] := by simp [sS]
    rw [es, eS] at e
    have hne := chk_ne (k := 74) (v := v) (by omega)
    have hcl := chk_len 75 v
    have hcp := chk_parts 75 v
    rw [txt, if_neg hv]
    generalize chk 75 v = C at *
    refine call_pure t16 rfl rfl ?_
    cases neg
    · have h48 := call48 (C.length - 1) C hne (by omega)
      have hel := elems_sB (C.length - 1) C.reverse
      rw [List.length_reverse] at hel
      have hcc := cat_len (l := C.reverse) (fun s hs => hcp s (List.mem_reverse.1 hs))
      rw [List.length_reverse] at hcc
      have hpos := List.length_pos_iff.2 hne
      have h49 := call49 .no C.reverse (TagOk.no _) (by simpa using hne) (by rw [List.length_reverse]; omega) (by intro h; have h5 := congrArg List.length h; rw [List.length_nil] at h5; omega) (by omega)
      rw [sM_ne hne, sS_ne hne] at e
      generalize C.length - 1 = m at *
      simp (config := { maxSteps := 4000000 }) (disch := omega) only [t16, go_sem, Nat.reduceAdd, Nat.reduceSub, Nat.reduceLT, Nat.reduceLeDiff, Nat.reduceEqDiff, Nat.reduceBEq, reduceIte, reduceCtorEq, Int.reduceEq, Int.reduceLT, Int.reduceLE, Int.reduceAdd, Int.reduceSub, Int.reduceMul, Int.reduceToNat, Int.reduceNeg, Int.reduceBEq, Int.reducePow, Nat.reducePow, h40, e, h48, hel, closeArg_msl, cpR_pure h49, Bool.false_eq_true, if_false, resB_ret, resO_some]
    · have hap := ap_sM false C [45] .full (fun _ => hne) (by omega)
      have hne2 : C ++ [[45]] ≠ [] := by simp
      have hlen2 : (C ++ [[45]]).length = C.length + 1 := by simp
      have h48 := call48 ((C ++ [[45]]).length - 1) (C ++ [[45]]) hne2 (by omega)
      have hel := elems_sB ((C ++ [[45]]).length - 1) (C ++ [[45]]).reverse
      rw [List.length_reverse] at hel
      have hcc := cat_len (l := (C ++ [[45]]).reverse) (fun s hs => by
        rcases List.mem_append.1 (List.mem_reverse.1 hs) with h | h
        · exact hcp s h
        · rw [List.mem_singleton] at h; subst h; simp)
      rw [List.length_reverse] at hcc
      have h49 := call49 .no (C ++ [[45]]).reverse (TagOk.no _) (by simp) (by rw [List.length_reverse]; omega) (by intro h; have h5 := congrArg List.length h; rw [List.length_nil] at h5; omega) (by omega)
      rw [sM_ne hne, sS_ne hne] at e hap
      rw [sM_ne hne2, sS_ne hne2] at hap
      generalize (C ++ [[45]]).length - 1 = m2 at *
      generalize C ++ [[45]] = C2 at *
      generalize C.length - 1 = m at *
      simp (config := { maxSteps := 4000000 }) (disch := omega) only [t16, go_sem, Nat.reduceAdd, Nat.reduceSub, Nat.reduceLT, Nat.reduceLeDiff, Nat.reduceEqDiff, Nat.reduceBEq, reduceIte, reduceCtorEq, Int.reduceEq, Int.reduceLT, Int.reduceLE, Int.reduceAdd, Int.reduceSub, Int.reduceMul, Int.reduceToNat, Int.reduceNeg, Int.reduceBEq, Int.reducePow, Nat.reducePow, h40, e, hap, h48, hel, closeArg_msl, cpR_pure h49, if_true, resB_ret, resO_some]
end Go.Proofs.YtdbffhgfjmhaiaaDoor
