/- The document's Items. Condition: none. -/
import Derived.Test.YtookmpaholmmfaaGreatDoorKcG
set_option maxRecDepth 100000
set_option maxHeartbeats 8000000
set_option linter.unusedSimpArgs false
set_option linter.unusedVariables false
namespace Go.Proofs.YtookmpaholmmfaaGreatDoor
open Go Go.TM
def itemsF : Nat → Dt → List Dt × Dt
  | 0, d => ([], d)
  | n + 1, d => if d.pr then (d.ks.getD 0 default :: (itemsF n (d.ks.getD 1 default)).1, (itemsF n (d.ks.getD 1 default)).2) else ([], d)
theorem pr_len {d : Dt} (h : d.pr = true) : d.ks.length = 2 := by
  simp only [Dt.pr, Bool.and_eq_true, decide_eq_true_eq] at h; exact h.2
theorem items_tail : ∀ (n : Nat) (d : Dt), d.w ≤ n → (itemsF n d).2.pr = false ∧ (itemsF n d).2.w ≤ d.w
  | 0, d, h => by have := Dt.w_eq d; omega
  | n + 1, d, h => by
    rw [itemsF]
    split
    · rename_i hp
      have h2 := pr_len hp
      have m1 := Dt.kid_lt (get_mem (l := d.ks) (i := 1) (by omega))
      have ih := items_tail n (d.ks.getD 1 default) (by omega)
      exact ⟨ih.1, Nat.le_trans ih.2 (by omega)⟩
    · rename_i hp
      exact ⟨by simpa using hp, Nat.le_refl _⟩
theorem items_mem : ∀ (n : Nat) (d : Dt), ∀ x ∈ (itemsF n d).1, x.w < d.w
  | 0, d, x, h => by simp [itemsF] at h
  | n + 1, d, x, h => by
    rw [itemsF] at h
    split at h
    · rename_i hp
      have h2 := pr_len hp
      have m0 := Dt.kid_lt (get_mem (l := d.ks) (i := 0) (by omega))
      have m1 := Dt.kid_lt (get_mem (l := d.ks) (i := 1) (by omega))
      rcases List.mem_cons.1 h with rfl | h
      · exact m0
      · have := items_mem n _ x h; omega
    · simp at h
theorem items_len : ∀ (n : Nat) (d : Dt), (itemsF n d).1.length ≤ d.w
  | 0, d => by simp [itemsF]
  | n + 1, d => by
    rw [itemsF]
    split
    · rename_i hp
      have h2 := pr_len hp
      have m1 := Dt.kid_lt (get_mem (l := d.ks) (i := 1) (by omega))
      have := items_len n (d.ks.getD 1 default)
      rw [List.length_cons]; omega
    · simp
theorem same_pr {a b : Dt} (h : a.pr ≠ b.pr) : same a b = false := by
  rw [same_eq]
  by_cases hk : a.k = b.k
  · by_cases hl : a.ks.length = b.ks.length
    · exact absurd (by unfold Dt.pr; rw [hk, hl]) h
    · rw [sames_len hl]; simp
  · simp [hk]
theorem same_items : ∀ (n : Nat) (a b : Dt), a.w ≤ n → same a b = (sames (itemsF n a).1 (itemsF n b).1 && same (itemsF n a).2 (itemsF n b).2)
  | 0, a, b, h => by have := Dt.w_eq a; omega
  | n + 1, a, b, h => by
    rw [itemsF, itemsF]
    by_cases ha : a.pr = true
    · by_cases hb : b.pr = true
      · have h2 := pr_len ha
        have m1 := Dt.kid_lt (get_mem (l := a.ks) (i := 1) (by omega))
        rw [if_pos ha, if_pos hb, same_pp ha hb, same_items n _ (b.ks.getD 1 default) (by omega)]
        simp only [sames, Bool.and_assoc]
      · rw [if_pos ha, if_neg hb, same_pr (fun e => hb (by rw [← e]; exact ha))]
        simp [sames]
    · by_cases hb : b.pr = true
      · rw [if_neg ha, if_pos hb, same_pr (fun e => ha (by rw [e]; exact hb))]
        simp [sames]
      · rw [if_neg ha, if_neg hb]; simp [sames]
theorem encD_ok (d : Dt) : (encD d).length = 5 ∧ (encD d).all isCell = true := by rw [encD_eq]; exact ⟨rfl, rfl⟩
theorem loop50 (x0 x2 x3 : TV) : ∀ (n : Nat) (d : Dt) (done : List Dt) (x5 : TV), d.w ≤ n → done.length + d.w ≤ 1048576 →
    ∃ x5' S', lp' (lim K) t50L0 [x0, lbD d, x2, x3, acc 0 (done.map encD), x5] (accS 5 39 (done.map encD)) = .ret (.exit 0, [x0, lbD (itemsF n d).2, x2, x3, acc 0 ((done ++ (itemsF n d).1).map encD), x5'], S')
  | 0, d, done, x5, h, hl => by have := Dt.w_eq d; omega
  | n + 1, d, done, x5, h, hl => by
    by_cases hp : d.pr = true
    · have h2 := pr_len hp
      have h6 : d.k = 6 := by simp only [Dt.pr, Bool.and_eq_true, decide_eq_true_eq] at hp; exact hp.1
      have m0 := Dt.kid_lt (get_mem (l := d.ks) (i := 0) (by omega))
      have m1 := Dt.kid_lt (get_mem (l := d.ks) (i := 1) (by omega))
      have hx := ixD (g := d.g) (ks := d.ks) (i := 0) (by omega)
      have hx1 := ixD (g := d.g) (ks := d.ks) (i := 1) (by omega)
      rw [Int.toNat_zero] at hx
      rw [show (1 : Int).toNat = 1 from rfl] at hx1
      rw [itemsF, if_pos hp]
      generalize d.ks.getD 0 default = u at *
      generalize d.ks.getD 1 default = u1 at *
      obtain ⟨x5', S', ih⟩ := loop50 x0 x2 x3 n u1 (done ++ [u]) (.iv (.bool true)) (by omega) (by simp only [List.length_append, List.length_cons, List.length_nil]; omega)
      have ha := ap_acc1 (w := 5) (b := 64) (el := 39) (t := .full) (encD_ok u) (Elems.map encD_ok done) (roomy_ok (by rw [List.length_map]; omega))
      have em : (done ++ [u]).map encD = done.map encD ++ [encD u] := by simp
      rw [em, List.append_assoc] at ih
      refine ⟨x5', S', loop_at K _ _ t50L0.eq_1 ?_⟩
      have h2' : (d.ks.length : Int) = 2 := by omega
      rw [encD_eq u] at ha ih
      simp (config := { maxSteps := 4000000 }) (disch := omega) only [go_sem, encDs_len, h6, h2', hx, hx1, getD5, ha, storeV_c, storeC_eq]
      exact congrArg er ih
    · rw [itemsF, if_neg hp, List.append_nil]
      rw [Bool.not_eq_true, Dt.pr] at hp
      refine ⟨?_, ?_, loop_at K _ _ t50L0.eq_1 ?_⟩
      rotate_left 2
      · by_cases h6 : d.k = 6
        · have h2 : ¬ ((d.ks.length : Int) = 2) := by intro e; rw [h6] at hp; simp at hp; omega
          simp (config := { maxSteps := 4000000 }) (disch := omega) only [go_sem, encDs_len]
          rfl
        · simp (config := { maxSteps := 4000000 }) (disch := omega) only [go_sem, encDs_len]
theorem call50 (n : Nat) (d : Dt) (hn : d.w ≤ n) (hd : d.w ≤ 1048576) : Pure K 50 [agD d] (.tup [.iv (.sl (sTag (itemsF n d).1) (encDs (itemsF n d).1)), agD (itemsF n d).2]) := by
  obtain ⟨x5', S', e⟩ := loop50 (agD d) (.iv (.sl .nil [])) (.lb [.iv (.int .i64 0), .iv (.int .i64 0), .iv (.str []), .iv (.sl .nil []), .iv (.int .i64 0)]) n d [] (.tup []) hn (by simp only [List.length_nil]; omega)
  rw [List.map_nil, acc_nil, accS_nil, List.nil_append] at e
  rw [encDs_map]
  generalize itemsF n d = q at *
  obtain ⟨q1, q2⟩ := q
  refine call_pure t50 rfl rfl ?_
  simp only at e ⊢
  simp (config := { maxSteps := 4000000 }) (disch := omega) only [t50, go_sem, TM.undef]
  rw [e]
  simp (config := { maxSteps := 4000000 }) (disch := omega) only [go_sem, sTag_map, storeV_c, storeC_eq]
end Go.Proofs.YtookmpaholmmfaaGreatDoor
