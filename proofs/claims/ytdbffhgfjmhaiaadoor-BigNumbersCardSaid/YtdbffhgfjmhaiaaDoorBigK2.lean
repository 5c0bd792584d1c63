/- The contracts of big: order, Clone, Tidy, Add, Sub, Cmp on worths. Condition: none. -/
import Derived.Test.YtdbffhgfjmhaiaaDoorBigK
set_option maxRecDepth 100000
set_option linter.unusedSimpArgs false
set_option linter.unusedVariables false
namespace Go.Proofs.YtdbffhgfjmhaiaaDoor
open Go Go.TM
def cmpI (x y : Int) : Int := if x < y then -1 else if x = y then 0 else 1
theorem cmpI_self (x : Int) : cmpI x x = 0 := by simp [cmpI]
theorem cmpI_lt {x y : Int} (h : x < y) : cmpI x y = -1 := by simp [cmpI, h]
theorem cmpI_gt {x y : Int} (h : y < x) : cmpI x y = 1 := by
  rw [cmpI, if_neg (by omega), if_neg (by omega)]
theorem take_len {l : List Int} {k : Nat} (h : k ≤ l.length) : (l.take k).length = k := by rw [List.length_take]; omega
theorem Dig.take {B : Int} {l : List Int} (hd : Dig B l) (i : Nat) : Dig B (l.take i) := fun x hx => hd x (List.mem_of_mem_take hx)
theorem val_take_succ (B : Int) {l : List Int} {k : Nat} (h : k < l.length) : val B (l.take (k + 1)) = val B (l.take k) + B ^ k * l.getD k default := by
  rw [take_succ_getD (d := default) h, val_append, take_len (by omega)]
  simp [val]
theorem cmp_step {B : Int} (hB : 1 < B) {l m : List Int} (hl : Dig B l) (hm : Dig B m) {k : Nat} (h1 : k < l.length) (h2 : k < m.length) :
    cmpI (val B (l.take (k + 1))) (val B (m.take (k + 1))) = if l.getD k default = m.getD k default then cmpI (val B (l.take k)) (val B (m.take k)) else cmpI (l.getD k default) (m.getD k default) := by
  rw [val_take_succ B h1, val_take_succ B h2]
  have a1 := val_nonneg (by omega) (hl.take k)
  have a2 := val_nonneg (by omega) (hm.take k)
  have b1 := val_lt (by omega) (hl.take k)
  have b2 := val_lt (by omega) (hm.take k)
  rw [take_len (by omega)] at b1 b2
  have p := pow_pos' hB k
  generalize B ^ k = P at *
  generalize l.getD k default = a at *
  generalize m.getD k default = b at *
  by_cases h : a = b
  · subst h
    rw [if_pos rfl]
    unfold cmpI
    by_cases h1 : val B (l.take k) < val B (m.take k)
    · rw [if_pos h1, if_pos (by omega)]
    · by_cases h2 : val B (l.take k) = val B (m.take k)
      · rw [if_neg h1, if_pos h2, if_neg (by omega), if_pos (by omega)]
      · rw [if_neg h1, if_neg h2, if_neg (by omega), if_neg (by omega)]
  · rw [if_neg h]
    by_cases h' : a < b
    · have := Int.mul_le_mul_of_nonneg_left (show a + 1 ≤ b by omega) (Int.le_of_lt p)
      rw [Int.mul_add, Int.mul_one] at this
      rw [cmpI_lt h', cmpI_lt (by omega)]
    · have := Int.mul_le_mul_of_nonneg_left (show b + 1 ≤ a by omega) (Int.le_of_lt p)
      rw [Int.mul_add, Int.mul_one] at this
      rw [cmpI_gt (by omega), cmpI_gt (by omega)]
theorem tr_cmp_len {B : Int} (hB : 1 < B) {l m : List Int} (hl : Dig B l) (hm : Dig B m) (h : (tr l).length < (tr m).length) : val B l < val B m := by
  rcases Int.lt_or_le (val B l) (val B m) with h1 | h1
  · exact h1
  · exfalso
    have a1 := val_lt (by omega) hl.tr
    rw [val_tr] at a1
    have a2 := dg_len hB (tr l).length (val B m) (val_nonneg (by omega) hm) (by omega)
    rw [← tr_eq hB hm] at a2
    omega
theorem eqB_sln (l : List (List IV)) : eqB .sl (.iv (.sl .nil l)) (.iv (.sl .nil [])) = some true := id rfl
theorem eqB_slf (l : List (List IV)) : eqB .sl (.iv (.sl .full l)) (.iv (.sl .nil [])) = some false := id rfl
theorem eqB_slo (l : List (List IV)) : eqB .sl (.iv (.sl .no l)) (.iv (.sl .nil [])) = some false := id rfl
theorem ap_newM {S : Store} {b el : Nat} {f : Int → IV} {t : Tag} {l : List Int} (hf : ∀ n, isRefL (.iv (f n)) = false) (h0 : l ≠ []) (hr : roomy l.length b = true) : appendOp true 1 b el S (.iv (.sl .full [])) (.iv (.sl t (one f l))) = some (.msl S.length 0 0 l.length l.length 1, S ++ [.cells 0 true (cellsF f l)]) := by
  have e1 : elemsTV S (.iv (.sl t (one f l))) = some ((l.map f).map .iv) := by rw [(IsEl.sl S t (one f l)).1, flat_one_map]
  have e2 : lenOf S (.iv (.sl t (one f l))) = some l.length := by rw [(IsEl.sl S t (one f l)).2, one_length]
  have e3 : ((l.map f).map TV.iv).any isRefL = false := by
    rw [List.any_eq_false]
    intro x hx
    obtain ⟨y, hy, rfl⟩ := List.mem_map.1 hx
    obtain ⟨z, hz, rfl⟩ := List.mem_map.1 hy
    rw [hf]; decide
  have e4 : l.length ≠ 0 := by intro h; exact h0 (List.length_eq_zero_iff.1 h)
  unfold appendOp
  rw [e1, e2]
  simp [e3, e4, hr, flat, fits, cellsF, List.map_map, Function.comp_def, hf]
theorem call50 (t : Tag) (l : List Int) (ht : TagOk t l) (hl : l.length ≤ 1000000) (S : Store) :
    (l = [] ∧ ∃ t', (lim K).call 50 [.iv (.sl t (one d16 l))] S = .ret (.iv (.sl t' (one d16 [])), S)) ∨
    (l ≠ [] ∧ (lim K).call 50 [.iv (.sl t (one d16 l))] S = .ret (.msl S.length 0 0 l.length l.length 1, S ++ [.cells 0 true (cellsF d16 l)])) := by
  by_cases hn : t = .nil
  · subst hn
    obtain rfl := ht rfl
    refine .inl ⟨rfl, .nil, call_ret' K S (fn := t50) rfl rfl ?_⟩
    have e0 : one d16 [] = [] := rfl
    rw [e0]
    simp (config := { maxSteps := 4000000 }) (disch := omega) only [t50, go_sem, Nat.reduceAdd, Nat.reduceSub, Nat.reduceLT, Nat.reduceLeDiff, Nat.reduceEqDiff, Nat.reduceBEq, reduceIte, reduceCtorEq, Int.reduceEq, Int.reduceLT, Int.reduceLE, Int.reduceAdd, Int.reduceSub, Int.reduceMul, Int.reduceToNat, Int.reduceNeg, Int.reduceBEq, Int.reducePow, Nat.reducePow, eqB_sln]
  · by_cases h0 : l = []
    · subst h0
      refine .inl ⟨rfl, .full, call_ret' K S (fn := t50) rfl rfl ?_⟩
      have e0 : one d16 [] = [] := rfl
      rw [e0]
      have hap := ap_nil (mu := true) (w := 1) (b := 2) (el := 55) (S := S) (s := .iv (.sl .full [])) (x := .iv (.sl t [])) rfl (IsEl.sl _ _ _)
      cases t
      · exact absurd rfl hn
      · simp (config := { maxSteps := 4000000 }) (disch := omega) only [t50, go_sem, Nat.reduceAdd, Nat.reduceSub, Nat.reduceLT, Nat.reduceLeDiff, Nat.reduceEqDiff, Nat.reduceBEq, reduceIte, reduceCtorEq, Int.reduceEq, Int.reduceLT, Int.reduceLE, Int.reduceAdd, Int.reduceSub, Int.reduceMul, Int.reduceToNat, Int.reduceNeg, Int.reduceBEq, Int.reducePow, Nat.reducePow, eqB_slf, hap]
      · simp (config := { maxSteps := 4000000 }) (disch := omega) only [t50, go_sem, Nat.reduceAdd, Nat.reduceSub, Nat.reduceLT, Nat.reduceLeDiff, Nat.reduceEqDiff, Nat.reduceBEq, reduceIte, reduceCtorEq, Int.reduceEq, Int.reduceLT, Int.reduceLE, Int.reduceAdd, Int.reduceSub, Int.reduceMul, Int.reduceToNat, Int.reduceNeg, Int.reduceBEq, Int.reducePow, Nat.reducePow, eqB_slo, hap]
    · refine .inr ⟨h0, call_ret' K S (fn := t50) rfl rfl ?_⟩
      have hap := ap_newM (S := S) (b := 2) (el := 55) (f := d16) (t := t) (fun _ => rfl) h0 (roomy_ok (by omega))
      cases t
      · exact absurd rfl hn
      · simp (config := { maxSteps := 4000000 }) (disch := omega) only [t50, go_sem, Nat.reduceAdd, Nat.reduceSub, Nat.reduceLT, Nat.reduceLeDiff, Nat.reduceEqDiff, Nat.reduceBEq, reduceIte, reduceCtorEq, Int.reduceEq, Int.reduceLT, Int.reduceLE, Int.reduceAdd, Int.reduceSub, Int.reduceMul, Int.reduceToNat, Int.reduceNeg, Int.reduceBEq, Int.reducePow, Nat.reducePow, eqB_slf, hap]
      · simp (config := { maxSteps := 4000000 }) (disch := omega) only [t50, go_sem, Nat.reduceAdd, Nat.reduceSub, Nat.reduceLT, Nat.reduceLeDiff, Nat.reduceEqDiff, Nat.reduceBEq, reduceIte, reduceCtorEq, Int.reduceEq, Int.reduceLT, Int.reduceLE, Int.reduceAdd, Int.reduceSub, Int.reduceMul, Int.reduceToNat, Int.reduceNeg, Int.reduceBEq, Int.reducePow, Nat.reducePow, eqB_slo, hap]
def sv (neg : Bool) (v : Int) : Int := if neg then -v else v
def bg (t : Tag) (z : Int) : IV := num (decide (z < 0)) t (dg 65536 z.natAbs)
def dd (t : Tag) (z : Int) : IV := dnum (decide (z < 0)) t (dg 10 z.natAbs)
theorem sg_sv {B : Int} (hB : 1 < B) (neg : Bool) {v : Int} (h : 0 ≤ v) : sg neg (dg B v) = decide (sv neg v < 0) := by
  have e1 : (0 < (dg B v).length) ↔ v ≠ 0 := by rw [List.length_pos_iff, ne_eq, dg_nil hB h]
  cases neg
  · simp [sg, sv]; omega
  · simp only [sg, e1, sv, Bool.true_and, if_true]
    exact decide_eq_decide.2 (by omega)
theorem abs_sv (neg : Bool) {v : Int} (h : 0 ≤ v) : ((sv neg v).natAbs : Int) = v := by
  cases neg <;> simp [sv] <;> omega
theorem sv_bg (z : Int) : sv (decide (z < 0)) (z.natAbs : Int) = z := by
  by_cases h : z < 0 <;> simp [sv, h] <;> omega
theorem num_bg {neg : Bool} {t : Tag} {v : Int} (h : 0 ≤ v) : num (sg neg (dg 65536 v)) t (dg 65536 v) = bg t (sv neg v) := by
  rw [bg, abs_sv neg h, sg_sv (by decide) neg h]
theorem dnum_dd {neg : Bool} {t : Tag} {v : Int} (h : 0 ≤ v) : dnum (sg neg (dg 10 v)) t (dg 10 v) = dd t (sv neg v) := by
  rw [dd, abs_sv neg h, sg_sv (by decide) neg h]
theorem call42' (neg : Bool) (t : Tag) (l : List Int) (ht : TagOk t l) (hd : Dig 65536 l) (hl : l.length ≤ 1000000) : ∃ t', TagOk t' (dg 65536 (val 65536 l)) ∧ Pure K 42 [.iv (.bool neg), .iv (.sl t (one d16 l))] (.iv (bg t' (sv neg (val 65536 l)))) := by
  obtain ⟨t', h1, h2⟩ := call42 neg t l ht hl
  rw [tr_eq (by decide) hd] at h1 h2
  exact ⟨t', h1, by rw [← num_bg (val_nonneg (by decide) hd)]; exact h2⟩
theorem scalar_num (b : Bool) (t : Tag) (l : List (List IV)) : scalar1 (.agg [.bool b, .sl t l]) = false := id rfl
theorem freeze_iv (S : Store) (v : IV) (r : List TV) : freezeV S (.iv v :: r) = freezeV S r := id rfl
theorem call18 (neg : Bool) (t : Tag) (l : List Int) (ht : TagOk t l) (hd : Dig 65536 l) (hl : l.length ≤ 1000000) : ∃ t', TagOk t' (dg 65536 (val 65536 l)) ∧ Pure K 18 [.iv (num neg t l)] (.iv (bg t' (sv neg (val 65536 l)))) := by
  rcases call50 t l ht hl [] with ⟨rfl, t0, h50⟩ | ⟨h0, h50⟩
  · obtain ⟨t', h1, h42⟩ := call42' neg t0 [] (fun _ => rfl) Dig.nil (by simp)
    refine ⟨t', h1, call_pure t18 rfl rfl ?_⟩
    simp only [bg, num] at h42 ⊢
    simp (config := { maxSteps := 4000000 }) (disch := omega) only [t18, go_sem, Nat.reduceAdd, Nat.reduceSub, Nat.reduceLT, Nat.reduceLeDiff, Nat.reduceEqDiff, Nat.reduceBEq, reduceIte, reduceCtorEq, Int.reduceEq, Int.reduceLT, Int.reduceLE, Int.reduceAdd, Int.reduceSub, Int.reduceMul, Int.reduceToNat, Int.reduceNeg, Int.reduceBEq, Int.reducePow, Nat.reducePow, scalar_num, freeze_iv, Bool.not_false, Bool.not_true, h50, cpR_pure h42, resB_ret, resO_some]
  · obtain ⟨t', h1, h42⟩ := call42' neg .no l (TagOk.no _) hd hl
    refine ⟨t', h1, call_pure t18 rfl rfl ?_⟩
    rw [List.nil_append, List.length_nil] at h50
    have hfr := fun r => freeze_mslF (S := [.cells 0 true (cellsF d16 l)]) (j := 0) (f := d16) rfl 0 0 l.length l.length 1 r
    have hel := elems_mslF (S := [.cells 0 true (cellsF d16 l)]) (j := 0) (f := d16) rfl 0 l.length l.length (by omega)
    rw [List.drop_zero, List.take_of_length_le (by omega)] at hel
    simp only [bg, num] at h42 ⊢
    generalize val 65536 l = v at *
    simp (config := { maxSteps := 4000000 }) (disch := omega) only [t18, go_sem, Nat.reduceAdd, Nat.reduceSub, Nat.reduceLT, Nat.reduceLeDiff, Nat.reduceEqDiff, Nat.reduceBEq, reduceIte, reduceCtorEq, Int.reduceEq, Int.reduceLT, Int.reduceLE, Int.reduceAdd, Int.reduceSub, Int.reduceMul, Int.reduceToNat, Int.reduceNeg, Int.reduceBEq, Int.reducePow, Nat.reducePow, scalar_num, freeze_iv, Bool.not_false, Bool.not_true, h50, closeArg_msl, hfr, freeze_nil, List.set_cons_zero, hel, cpR_pure h42, resB_ret, resO_some]
end Go.Proofs.YtdbffhgfjmhaiaaDoor
