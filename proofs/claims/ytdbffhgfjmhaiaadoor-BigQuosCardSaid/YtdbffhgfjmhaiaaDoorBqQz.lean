/- Structs handed to calls. Condition: none. -/
import Derived.Test.YtdbffhgfjmhaiaaDoorBqJ
set_option maxRecDepth 100000
set_option linter.unusedSimpArgs false
set_option linter.unusedVariables false
namespace Go.Proofs.YtdbffhgfjmhaiaaDoor
open Go Go.TM
theorem mkAgg_agT {x : TV} (h : Pl x) (b : Bool) : mkAgg [.iv (.bool b), x] = agT b x := by
  rcases h with ⟨v, rfl⟩ | ⟨a, b, c, d, e, f, rfl⟩ <;> rfl
theorem DV.closeAg {m : Bool} {P : Nat → Prop} {S : Store} {x : TV} {l : List Int} (h : DV m P S x l) (n : Bool) : ∃ t, TagOk t l ∧ closeArg S (agT n x) = some (.iv (num n t l)) := by
  cases h with
  | iv t l h hm => exact ⟨t, h, rfl⟩
  | ms i v off len cap b C l h h1 h2 hP hl =>
    have e := elems_mslV h off len cap (by omega)
    rw [← hl] at e
    refine ⟨.no, TagOk.no _, ?_⟩
    simp only [agT, closeArg, resV, resL, res1, e, Option.map_some, num]
theorem agT_R {x : TV} (h : Pl x) (n : Bool) : same (agT n x) (agT n x) = true := by
  rcases h with ⟨v, rfl⟩ | ⟨a, b, c, d, e, f, rfl⟩
  · exact same_iv _
  · rw [agT_msl, same_agg]; simp [sameL, same1, ivSame]
end Go.Proofs.YtdbffhgfjmhaiaaDoor
