/- GraphSpills: whatever the input, the law returns true. Condition: none. -/
import Derived.Test.YtmlhjdekfihdnaaGlob
import Derived.Test.YtmlhjdekfihdnaaTmE
import Derived.Test.YtmlhjdekfihdnaaJb
set_option maxRecDepth 100000
set_option linter.unusedSimpArgs false
set_option linter.unusedVariables false
namespace Go.Proofs.Ytmlhjdekfihdnaa
open Go Go.TM Go.RowKit Go.ChangeShapes Go.WideShapes
def pTypes5 : List TypeId := [3, 22, 24, 35, 37]
theorem p_ok5 : tyOk Try.prog pTypes5 = true := by kernel_rfl
theorem lifted5 (os : Os) (started : os.Started) (H : Type) (enc : TypeId × Value → H) :
    ReturnsInHanded {} Try.checked os 5 .any (Rows.graphSpillsSpec.pre6 enc Try.prog Try.f5 [] false)
      (Rows.graphSpillsSpec.post enc Try.prog Try.f5 false true false false) := by
  refine returnsInHanded_of_change (C := Try.checked) own started (by kernel_rfl) Try.func5 (by
    obtain ⟨w, tape, i, h1, h2, h3, h4, ⟨⟨h5, _⟩, h6⟩, h7⟩ := ChangeSpec.witness_shaped (s := Rows.graphSpillsSpec) (fn := Try.f5) (f := 5) (conds := []) (apart := false) (enc := enc) (C := Try.checked) (os := os) (X := fun _ _ => True) false (World.laidAll Try.prog os []) #[.agg #[.int .i64 0, .slice none 0 0, .slice none 0 0], .int .u16 0] 8 (World.laidAll_os _ _ _)
      (World.shaped_of_ZipB (by kernel_rfl) (by kernel_rfl)) (by kernel_rfl) (by kernel_rfl) (by kernel_rfl) trivial
    exact ⟨w, tape, i, h1, h2, h3, h4, ⟨h5, h6⟩, h7⟩) ?_
  intro W base args ds gs before hval0 hW _ _
  have hW' := hW
  obtain ⟨p, q, hA0, hV, _, _, _⟩ := hW
  have hA : DataW.TrodAll enc Try.prog W 0 (fun _ => true) true Try.f5.params.toList args.toList ds p := hA0
  rw [Try.params5] at hA
  obtain ⟨ls, hT, hR⟩ := args_vr p_ok5 (by decide) (fun j t v ht hv => hval0 j t v (by rw [← Array.getElem?_toList, Try.params5]; exact ht) (by rw [← Array.getElem?_toList]; exact hv)) hA
  have hfn : Rows.graphSpillsSpec.fn H ds = { results := [.lit (.bool true)], args := ds } := by
    clear hR hA0 hA hW' hval0
    obtain ⟨c0, m0, ds, ms0, rfl, _, hT⟩ := allTy_consD hT
    obtain ⟨c1, m1, ds, ms1, rfl, _, hT⟩ := allTy_consD hT
    obtain rfl := allTy_nilD hT
    rfl
  refine (open_calls_all kok (inv5 hT) hR glob_ok).mono fun e W' ⟨he, hb⟩ => ?_
  subst he
  exact ⟨_, rfl, law_post laidOut hW' rfl hfn (by kernel_rfl) (tb := 4) (by kernel_rfl) Try.underlying4 hb⟩
theorem graphSpills_holds : Rows.GraphSpillsSaid :=
  OpenClaim.holds_of_wide 5 Try.f5 rfl rfl rfl rfl rfl rfl rfl ⟨rfl, rfl, rfl, rfl, rfl⟩ rfl rfl rfl rfl rfl (by kernel_rfl) Try.func5 (by kernel_rfl)
    (of_decide_eq_true (by kernel_rfl)) (by unfold Func.isWrapper; first | (rw [if_pos (by decide +kernel)]; kernel_rfl) | (rw [if_neg (by decide +kernel)]; exact ⟨rfl, rfl⟩))
    (fun os started H enc _ => lifted5 os started H enc)
end Go.Proofs.Ytmlhjdekfihdnaa
#print axioms Go.Proofs.Ytmlhjdekfihdnaa.graphSpills_holds
