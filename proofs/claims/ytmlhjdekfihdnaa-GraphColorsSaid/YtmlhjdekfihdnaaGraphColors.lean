/- GraphColors: whatever the input, the law returns true. Condition: none. -/
import Derived.Test.YtmlhjdekfihdnaaGlob
import Derived.Test.YtmlhjdekfihdnaaTmE
import Derived.Test.YtmlhjdekfihdnaaJc
set_option maxRecDepth 100000
set_option linter.unusedSimpArgs false
set_option linter.unusedVariables false
namespace Go.Proofs.Ytmlhjdekfihdnaa
open Go Go.TM Go.RowKit Go.ChangeShapes Go.WideShapes
def pTypes3 : List TypeId := [3, 22, 24, 37]
theorem p_ok3 : tyOk Try.prog pTypes3 = true := by kernel_rfl
theorem lifted3 (os : Os) (started : os.Started) (H : Type) (enc : TypeId × Value → H) :
    ReturnsInHanded {} Try.checked os 3 .any (Rows.graphColorsSpec.pre6 enc Try.prog Try.f3 [] false)
      (Rows.graphColorsSpec.post enc Try.prog Try.f3 false true false false) := by
  refine returnsInHanded_of_change (C := Try.checked) own started (by kernel_rfl) Try.func3 (by
    obtain ⟨w, tape, i, h1, h2, h3, h4, ⟨⟨h5, _⟩, h6⟩, h7⟩ := ChangeSpec.witness_shaped (s := Rows.graphColorsSpec) (fn := Try.f3) (f := 3) (conds := []) (apart := false) (enc := enc) (C := Try.checked) (os := os) (X := fun _ _ => True) false (World.laidAll Try.prog os []) #[.agg #[.int .i64 0, .slice none 0 0, .slice none 0 0]] 8 (World.laidAll_os _ _ _)
      (World.shaped_of_ZipB (by kernel_rfl) (by kernel_rfl)) (by kernel_rfl) (by kernel_rfl) (by kernel_rfl) trivial
    exact ⟨w, tape, i, h1, h2, h3, h4, ⟨h5, h6⟩, h7⟩) ?_
  intro W base args ds gs before hval0 hW _ _
  have hW' := hW
  obtain ⟨p, q, hA0, hV, _, _, _⟩ := hW
  have hA : DataW.TrodAll enc Try.prog W 0 (fun _ => true) true Try.f3.params.toList args.toList ds p := hA0
  rw [Try.params3] at hA
  obtain ⟨ls, hT, hR⟩ := args_vr p_ok3 (by decide) (fun j t v ht hv => hval0 j t v (by rw [← Array.getElem?_toList, Try.params3]; exact ht) (by rw [← Array.getElem?_toList]; exact hv)) hA
  have hfn : Rows.graphColorsSpec.fn H ds = { results := [.lit (.bool true)], args := ds } := by
    clear hR hA0 hA hW' hval0
    obtain ⟨c0, m0, ds, ms0, rfl, _, hT⟩ := allTy_consD hT
    obtain rfl := allTy_nilD hT
    rfl
  refine (open_calls_all kok (inv3 hT) hR glob_ok).mono fun e W' ⟨he, hb⟩ => ?_
  subst he
  exact ⟨_, rfl, law_post laidOut hW' rfl hfn (by kernel_rfl) (tb := 4) (by kernel_rfl) Try.underlying4 hb⟩
theorem graphColors_holds : Rows.GraphColorsSaid :=
  OpenClaim.holds_of_wide 3 Try.f3 rfl rfl rfl rfl rfl rfl rfl ⟨rfl, rfl, rfl, rfl, rfl⟩ rfl rfl rfl rfl rfl (by kernel_rfl) Try.func3 (by kernel_rfl)
    (of_decide_eq_true (by kernel_rfl)) (by unfold Func.isWrapper; first | (rw [if_pos (by decide +kernel)]; kernel_rfl) | (rw [if_neg (by decide +kernel)]; exact ⟨rfl, rfl⟩))
    (fun os started H enc _ => lifted3 os started H enc)
end Go.Proofs.Ytmlhjdekfihdnaa
#print axioms Go.Proofs.Ytmlhjdekfihdnaa.graphColors_holds
