/- LiveEquations: whatever the input, the law returns true. Condition: none. -/
import Derived.Test.YtehlgnfhkidgoaaDoorGlob
import Derived.Test.YtehlgnfhkidgoaaDoorTmE
import Derived.Test.YtehlgnfhkidgoaaDoorJe
import Derived.Test.YtehlgnfhkidgoaaDoorTie
import Derived.Test.YtehlgnfhkidgoaaDoorCards
set_option maxRecDepth 100000
set_option linter.unusedSimpArgs false
set_option linter.unusedVariables false
namespace Go.Proofs.YtehlgnfhkidgoaaDoor
open Go Go.TM Go.RowKit Go.ChangeShapes Go.WideShapes
def pTypes5 : List TypeId := [3, 4, 22, 24, 28, 31]
theorem p_ok5 : tyOk Tryd.prog pTypes5 = true := by kernel_rfl
theorem lifted5 (os : Os) (started : os.Started) (H : Type) (enc : TypeId × Value → H) :
    ReturnsInHanded {} Tryd.checked os 5 .any (fun w args => (Rows.liveEquationsSpec.pre enc Tryd.prog Tryd.f5 [] false w args ∧ laidMetH Tryd.prog theLaid w) ∧ sizedMet enc Tryd.prog Tryd.f5 (OpenSpec.ofChange Rows.liveEquationsSpec) false w args)
      (Rows.liveEquationsSpec.post enc Tryd.prog Tryd.f5 false true false false) := by
  refine returnsInHanded_of_change_and (C := Tryd.checked) (X := fun w _ => laidMetH Tryd.prog theLaid w) (fun _ _ _ hh h => h.of_heap hh) own started (by kernel_rfl) Tryd.func5
    (ChangeSpec.witness_shaped (enc := enc) (C := Tryd.checked) (os := os) (X := fun w _ => laidMetH Tryd.prog theLaid w) false (World.laidAll Tryd.prog os theLaid) #[.agg #[.int .i64 0, .int .i64 0, .int .i64 0, .int .i64 0, .int .i64 0, .bool false, .slice none 0 0]] 8 (World.laidAll_os _ _ _)
      (World.shaped_of_ZipB (by kernel_rfl) (by kernel_rfl)) (by kernel_rfl) (by kernel_rfl) (by kernel_rfl)
      (by rw [MakeChecks.laidMetH_plain _ _ _ (by kernel_rfl)]; exact laidMet_laidAll _ (by kernel_rfl) (by kernel_rfl))) ?_
  intro W base args ds gs before hval0 hW _ _ hL _
  have hW' := hW
  obtain ⟨p, q, hA0, hV, _, _, _⟩ := hW
  have hA : DataW.TrodAll enc Tryd.prog W 0 (fun _ => true) true Tryd.f5.params.toList args.toList ds p := hA0
  rw [Tryd.params5] at hA
  obtain ⟨ls, hT, hR⟩ := args_vr p_ok5 (by decide) (fun j t v ht hv => hval0 j t v (by rw [← Array.getElem?_toList, Tryd.params5]; exact ht) (by rw [← Array.getElem?_toList]; exact hv)) hA
  have hfn : Rows.liveEquationsSpec.fn H ds = { results := [.lit (.bool true)], args := ds } := by
    clear hR hA0 hA hW' hval0
    obtain ⟨c0, m0, ds, ms0, rfl, _, hT⟩ := allTy_consD hT
    obtain rfl := allTy_nilD hT
    rfl
  refine (open_calls_all kok (inv5 hT) hR (glob_ok hL)).mono fun e W' ⟨he, hb⟩ => ?_
  subst he
  exact ⟨_, rfl, law_post laidOut hW' rfl hfn (by kernel_rfl) (tb := 4) (by kernel_rfl) Tryd.underlying4 hb⟩
theorem liveEquations_holds : Rows.LiveEquationsSaid :=
  OpenClaim.holds_of_wide 5 Tryd.f5 rfl rfl rfl rfl rfl rfl rfl ⟨rfl, rfl, rfl, rfl, rfl⟩ rfl rfl rfl rfl rfl (by kernel_rfl) Tryd.func5 (by kernel_rfl)
    (of_decide_eq_true (by kernel_rfl)) (by unfold Func.isWrapper; first | (rw [if_pos (by decide +kernel)]; kernel_rfl) | (rw [if_neg (by decide +kernel)]; exact ⟨rfl, rfl⟩))
    (fun os started H enc _ => lifted5 os started H enc)
theorem liveEquations_card : Rows.LiveEquationsCardSaid :=
  Claim7.holds_tied_plain_at .later [] [.data] true (true, "f7e7d47f98a35d4b01b83f30d45fb546638266462be7fc168101b40b1615af50") false
    liveEquations_holds (fun _ h => by cases h) (by kernel_rfl) (fun _ h => by cases h) liveEquations_row_tie rfl ⟨rfl, rfl⟩ (by kernel_rfl) rfl
    (fun f fn hf hfn => by
      obtain rfl : f = 5 := Option.some.inj ((show Tryd.prog.funcNamed "pennant/pennantlaw21.LiveEquations" = some 5 by kernel_rfl).symm.trans hf) |>.symm
      obtain rfl : fn = Tryd.f5 := (Option.some.inj (Tryd.func5.symm.trans hfn)).symm
      exact ⟨by kernel_rfl, fun j t ht => all_params (P := Tryd.prog) (q := Tryd.prog.wantsStandIn) (by kernel_rfl) j t ht⟩)
    (by kernel_rfl)
end Go.Proofs.YtehlgnfhkidgoaaDoor
#print axioms Go.Proofs.YtehlgnfhkidgoaaDoor.liveEquations_card
