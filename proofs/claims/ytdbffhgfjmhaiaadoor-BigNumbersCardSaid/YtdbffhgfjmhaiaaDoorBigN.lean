/- The contracts of big on worths, for laws. Condition: none. -/
import Derived.Test.YtdbffhgfjmhaiaaDoorBigM
set_option maxRecDepth 100000
set_option linter.unusedSimpArgs false
set_option linter.unusedVariables false
namespace Go.Proofs.YtdbffhgfjmhaiaaDoor
open Go Go.TM
def Nm (n : Bool) (t : Tag) (L : List (List IV)) (z : Int) (k : Nat) : Prop := ∃ l, L = one d16 l ∧ TagOk t l ∧ Dig 65536 l ∧ l.length ≤ k ∧ z = sv n (val 65536 l)
def Cn (n : Bool) (t : Tag) (L : List (List IV)) (z : Int) (k : Nat) : Prop := Nm n t L z k ∧ n = decide (z < 0) ∧ L = one d16 (dg 65536 z.natAbs)
theorem Cn.bg {t : Tag} {z : Int} {k : Nat} (ht : TagOk t (dg 65536 z.natAbs)) (hl : (z.natAbs : Int) < 65536 ^ k) : Cn (decide (z < 0)) t (one d16 (dg 65536 z.natAbs)) z k := by
  refine ⟨⟨_, rfl, ht, dg_dig (by decide) (by omega), dg_len (by decide) k _ (by omega) hl, ?_⟩, rfl, rfl⟩
  rw [val_dg (by decide) (by omega), sv_bg]
theorem Nm.lt {n : Bool} {t : Tag} {L : List (List IV)} {z : Int} {k : Nat} (h : Nm n t L z k) : (z.natAbs : Int) < 65536 ^ k := by
  obtain ⟨l, rfl, h1, h2, h3, rfl⟩ := h
  rw [abs_sv _ (val_nonneg (by decide) h2)]
  have := val_lt (by decide) h2
  have := pow_le' (B := 65536) (by decide) h3
  omega
end Go.Proofs.YtdbffhgfjmhaiaaDoor
