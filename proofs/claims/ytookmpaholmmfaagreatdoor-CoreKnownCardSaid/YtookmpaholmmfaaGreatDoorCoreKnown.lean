/- CoreKnown: whatever the input, the law returns true. Condition: none. -/
import Derived.Test.YtookmpaholmmfaaGreatDoorGlob
import Derived.Test.YtookmpaholmmfaaGreatDoorTmE
import Derived.Test.YtookmpaholmmfaaGreatDoorJb
import Derived.Test.YtookmpaholmmfaaGreatDoorTie
import Derived.Test.YtookmpaholmmfaaGreatDoorCards
set_option maxRecDepth 100000
set_option linter.unusedSimpArgs false
set_option linter.unusedVariables false
namespace Go.Proofs.YtookmpaholmmfaaGreatDoor
open Go Go.TM Go.RowKit Go.ChangeShapes Go.WideShapes
def pTypes8 : List TypeId := []
theorem p_ok8 : tyOk Tryz.prog pTypes8 = true := by kernel_rfl
theorem inv8 {H : Type} {ds : List (DataW H)} {ls : List (List IV)} (hh0 : AllTy Tryz.prog [] ds ls) : ((lim K).call 8 (argsOf Tryz.prog [] ls) []).All fun r => r.1 = .iv (.bool true) := by
  rw [allTy_nil hh0]
  simp only [argsOf, ]
  exact law8
theorem lifted8 (os : Os) (started : os.Started) (H : Type) (enc : TypeId × Value → H) :
    ReturnsInHanded {} Tryz.checked os 8 .any (fun w args => (Rows.coreKnownSpec.pre enc Tryz.prog Tryz.f8 [] false w args ∧ laidMetH Tryz.prog theLaid w) ∧ sizedMet enc Tryz.prog Tryz.f8 (OpenSpec.ofChange Rows.coreKnownSpec) false w args)
      (Rows.coreKnownSpec.post enc Tryz.prog Tryz.f8 false true false false) := by
  refine returnsInHanded_of_change_and (C := Tryz.checked) (X := fun w _ => laidMetH Tryz.prog theLaid w) (fun _ _ _ hh h => h.of_heap hh) own started (by kernel_rfl) Tryz.func8
    (ChangeSpec.witness_shaped (enc := enc) (C := Tryz.checked) (os := os) (X := fun w _ => laidMetH Tryz.prog theLaid w) false (World.laidAll Tryz.prog os theLaid) #[] 8 (World.laidAll_os _ _ _)
      (World.shaped_of_ZipB (by kernel_rfl) (by kernel_rfl)) (by kernel_rfl) (by kernel_rfl) (by kernel_rfl)
      (by rw [MakeChecks.laidMetH_plain _ _ _ (by kernel_rfl)]; exact laidMet_laidAll _ (by kernel_rfl) (by kernel_rfl))) ?_
  intro W base args ds gs before hval0 hW _ _ hL _
  have hW' := hW
  obtain ⟨p, q, hA0, hV, _, _, _⟩ := hW
  have hA : DataW.TrodAll enc Tryz.prog W 0 (fun _ => true) true Tryz.f8.params.toList args.toList ds p := hA0
  rw [Tryz.params8] at hA
  obtain ⟨ls, hT, hR⟩ := args_vr p_ok8 (by decide) (fun j t v ht hv => hval0 j t v (by rw [← Array.getElem?_toList, Tryz.params8]; exact ht) (by rw [← Array.getElem?_toList]; exact hv)) hA
  have hfn : Rows.coreKnownSpec.fn H ds = { results := [.lit (.bool true)], args := ds } := by
    clear hR hA0 hA hW' hval0
    
    obtain rfl := allTy_nilD hT
    rfl
  refine (open_calls_all kok (inv8 hT) hR (glob_ok hL)).mono fun e W' ⟨he, hb⟩ => ?_
  subst he
  exact ⟨_, rfl, law_post laidOut hW' rfl hfn (by kernel_rfl) (tb := 4) (by kernel_rfl) Tryz.underlying4 hb⟩
theorem coreKnown_holds : Rows.CoreKnownSaid :=
  OpenClaim.holds_of_wide 8 Tryz.f8 rfl rfl rfl rfl rfl rfl rfl ⟨rfl, rfl, rfl, rfl, rfl⟩ rfl rfl rfl rfl rfl (by kernel_rfl) Tryz.func8 (by kernel_rfl)
    (of_decide_eq_true (by kernel_rfl)) (by unfold Func.isWrapper; first | (rw [if_pos (by decide +kernel)]; kernel_rfl) | (rw [if_neg (by decide +kernel)]; exact ⟨rfl, rfl⟩))
    (fun os started H enc _ => lifted8 os started H enc)
theorem coreKnown_card : Rows.CoreKnownCardSaid :=
  Claim7.holds_tied_plain_at .later [] [.data, .data, .data, .data, .pinned] true (true, "e5eafd01566d29fd15829b07e7e771bc6d680d34d08dad22901d6dc9f962a7b2") false
    coreKnown_holds (fun _ h => by cases h) (by kernel_rfl) (fun _ h => by cases h) coreKnown_row_tie rfl ⟨rfl, rfl⟩ (by kernel_rfl) rfl
    (fun f fn hf hfn => by
      obtain rfl : f = 8 := Option.some.inj ((show Tryz.prog.funcNamed "pennant/pennantlaw11.CoreKnown" = some 8 by kernel_rfl).symm.trans hf) |>.symm
      obtain rfl : fn = Tryz.f8 := (Option.some.inj (Tryz.func8.symm.trans hfn)).symm
      exact ⟨by kernel_rfl, fun j t ht => all_params (P := Tryz.prog) (q := Tryz.prog.wantsStandIn) (by kernel_rfl) j t ht⟩)
    (by kernel_rfl)
end Go.Proofs.YtookmpaholmmfaaGreatDoor
#print axioms Go.Proofs.YtookmpaholmmfaaGreatDoor.coreKnown_card
