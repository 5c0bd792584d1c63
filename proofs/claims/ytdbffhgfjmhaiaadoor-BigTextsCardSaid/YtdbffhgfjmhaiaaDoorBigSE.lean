/- Digits without noughts ahead. Condition: none. -/
import Derived.Test.YtdbffhgfjmhaiaaDoorBigSD
set_option maxRecDepth 100000
set_option maxHeartbeats 2000000
set_option linter.unusedSimpArgs false
set_option linter.unusedVariables false
namespace Go.Proofs.YtdbffhgfjmhaiaaDoor
open Go Go.TM
def strip : List UInt8 → List UInt8
  | [] => []
  | [c] => [c]
  | c :: d :: r => if c = 48 then strip (d :: r) else c :: d :: r
theorem d8_dgt {c : UInt8} (h : isD c = true) : d8 (dgt c) = c := by
  simp only [isD, Bool.and_eq_true, decide_eq_true_eq] at h
  apply UInt8.toNat_inj.1
  have := d8_val (m := dgt c) (by simp only [dgt]; omega)
  simp only [dgt] at this ⊢
  omega
theorem map_back {s : List UInt8} (h : s.all isD = true) : (s.map dgt).map d8 = s := by
  rw [List.map_map]
  conv => rhs; rw [← List.map_id s]
  apply List.map_congr_left
  intro c hc
  exact d8_dgt (List.all_eq_true.1 h c hc)
theorem dgt_zero {c : UInt8} (h : isD c = true) (h0 : dgt c = 0) : c = 48 := by
  rw [← d8_dgt h, h0]; rfl
theorem lead {c : UInt8} {r : List UInt8} (h : (c :: r).all isD = true) (h0 : c ≠ 48) : 0 < dec (c :: r) ∧ c :: r = decS (dec (c :: r)) := by
  have hd := dig_map h
  have hc : dgt c ≠ 0 := fun e => h0 (dgt_zero (List.all_eq_true.1 h c (List.mem_cons_self ..)) e)
  have hrev : (c :: r).reverse.map dgt = r.reverse.map dgt ++ [dgt c] := by simp
  have htr : tr ((c :: r).reverse.map dgt) = (c :: r).reverse.map dgt := by rw [hrev]; exact tr_last hc _
  have heq := tr_eq (B := 10) (by decide) hd
  rw [htr] at heq
  have hpos := val_pos (B := 10) (by decide) hd htr (by simp)
  refine ⟨hpos, ?_⟩
  have e : (dg 10 (dec (c :: r))) = (c :: r).reverse.map dgt := heq.symm
  unfold decS
  rw [e, ← List.map_reverse, List.reverse_reverse, map_back h]
theorem dec_zero (r : List UInt8) : dec (48 :: r) = dec r := by
  unfold dec
  have : ((48 :: r).reverse.map dgt) = r.reverse.map dgt ++ [0] := by simp [dgt]
  rw [this, val_append]
  simp [val]
theorem strip_eq : ∀ (b : List UInt8), b ≠ [] → b.all isD = true → strip b = if dec b = 0 then [48] else decS (dec b)
  | [], h, _ => absurd rfl h
  | [c], _, h => by
    by_cases hc : c = 48
    · subst hc
      have : dec [48] = 0 := by simp [dec, val, dgt]
      rw [if_pos this]; rfl
    · obtain ⟨h1, h2⟩ := lead h hc
      rw [if_neg (by omega), ← h2]; rfl
  | c :: d :: r, _, h => by
    have ht : (d :: r).all isD = true := by simp only [List.all_cons, Bool.and_eq_true] at h ⊢; exact h.2
    by_cases hc : c = 48
    · subst hc
      have ih := strip_eq (d :: r) (by simp) ht
      rw [dec_zero, ← ih]
      rw [strip, if_pos rfl]
    · obtain ⟨h1, h2⟩ := lead h hc
      rw [if_neg (by omega), ← h2, strip, if_neg hc]
end Go.Proofs.YtdbffhgfjmhaiaaDoor
