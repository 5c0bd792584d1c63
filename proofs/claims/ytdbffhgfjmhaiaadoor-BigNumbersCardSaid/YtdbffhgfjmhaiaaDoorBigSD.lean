/- The text of a number is its digits. Condition: none. -/
import Derived.Test.YtdbffhgfjmhaiaaDoorBigSC
import Derived.Test.YtdbffhgfjmhaiaaDoorBigL1
set_option maxRecDepth 100000
set_option maxHeartbeats 2000000
set_option linter.unusedSimpArgs false
set_option linter.unusedVariables false
namespace Go.Proofs.YtdbffhgfjmhaiaaDoor
open Go Go.TM
def decS (v : Int) : List UInt8 := (dg 10 v).reverse.map d8
theorem dg4 {v : Int} (h : 10000 ≤ v) : dg 10 v = v % 10 :: v / 10 % 10 :: v / 100 % 10 :: v / 1000 % 10 :: dg 10 (v / 10000) := by
  rw [dg_pos (by decide) (show 0 < v by omega), dg_pos (by decide) (show 0 < v / 10 by omega), dg_pos (by decide) (show 0 < v / 10 / 10 by omega), dg_pos (by decide) (show 0 < v / 10 / 10 / 10 by omega)]
  rw [show v / 10 / 10 = v / 100 by omega, show v / 100 / 10 = v / 1000 by omega, show v / 1000 / 10 = v / 10000 by omega]
theorem itoa_dec {v : Int} (h : 0 < v ∧ v < 10000) : itoa v = decS v := by
  unfold itoa decS
  by_cases h1 : v < 10
  · rw [if_pos (by omega), if_pos h1, dg_pos (by decide) h.1, show v / 10 = 0 by omega, dg_zero, show v % 10 = v by omega]
    rfl
  · by_cases h2 : v < 100
    · rw [if_pos h2, if_neg h1, dg_pos (by decide) h.1, dg_pos (by decide) (show 0 < v / 10 by omega), show v / 10 / 10 = 0 by omega, dg_zero, show v / 10 % 10 = v / 10 by omega]
      rfl
    · by_cases h3 : v < 1000
      · rw [if_neg h2, if_pos h3, dg_pos (by decide) h.1, dg_pos (by decide) (show 0 < v / 10 by omega), dg_pos (by decide) (show 0 < v / 10 / 10 by omega), show v / 10 / 10 / 10 = 0 by omega, dg_zero, show v / 10 / 10 = v / 100 by omega, show v / 100 % 10 = v / 100 by omega]
        rfl
      · rw [if_neg h2, if_neg h3, dg_pos (by decide) h.1, dg_pos (by decide) (show 0 < v / 10 by omega), dg_pos (by decide) (show 0 < v / 10 / 10 by omega), dg_pos (by decide) (show 0 < v / 10 / 10 / 10 by omega), show v / 10 / 10 / 10 / 10 = 0 by omega, dg_zero, show v / 10 / 10 = v / 100 by omega, show v / 100 / 10 = v / 1000 by omega, show v / 1000 % 10 = v / 1000 by omega]
        rfl
theorem cat_chk : ∀ (k : Nat) (v : Int), 0 ≤ v → v < 10000 ^ k → cat (chk k v).reverse = decS v
  | 0, v, h0, h1 => by
    obtain rfl : v = 0 := by simp at h1; omega
    rw [chk_zero, decS, dg_zero]; rfl
  | k + 1, v, h0, h1 => by
    by_cases hv : v = 0
    · subst hv
      rw [chk_zero, decS, dg_zero]; rfl
    · by_cases hb : v < 10000
      · rw [chk, if_neg (by omega), if_pos hb, ← itoa_dec (by omega)]
        simp [cat]
      · have ih := cat_chk k (v / 10000) (by omega) (by rw [Int.pow_succ] at h1; exact Int.ediv_lt_of_lt_mul (by decide) h1)
        rw [chk, if_neg (by omega), if_neg hb, List.reverse_cons]
        simp only [cat, List.flatten_append] at ih ⊢
        have e4 := dg4 (v := v) (by omega)
        rw [ih]
        unfold decS
        rw [e4]
        simp [pad4]
        rw [show v % 10000 / 1000 = v / 1000 % 10 by omega, show v % 10000 / 100 % 10 = v / 100 % 10 by omega, show v % 10000 / 10 % 10 = v / 10 % 10 by omega]
        exact ⟨rfl, rfl, rfl⟩
theorem txt_eq (neg : Bool) (v : Int) (h0 : 0 ≤ v) (h1 : v < 10000 ^ 75) : txt neg v = if v = 0 then [48] else (if neg then [45] else []) ++ decS v := by
  unfold txt
  by_cases hv : v = 0
  · rw [if_pos hv, if_pos hv]
  · rw [if_neg hv, if_neg hv, ← cat_chk 75 v h0 h1]
    cases neg
    · simp
    · simp [cat]
end Go.Proofs.YtdbffhgfjmhaiaaDoor
