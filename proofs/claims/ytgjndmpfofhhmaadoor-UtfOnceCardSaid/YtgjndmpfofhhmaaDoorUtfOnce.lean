/- UtfOnce: whatever the input, the law returns true. Condition: none. -/
import Derived.Test.YtgjndmpfofhhmaaDoorGlob
import Derived.Test.YtgjndmpfofhhmaaDoorTmE
import Derived.Test.YtgjndmpfofhhmaaDoorUtfL3
import Derived.Test.YtgjndmpfofhhmaaDoorTie
import Derived.Test.YtgjndmpfofhhmaaDoorCards
set_option maxRecDepth 100000
set_option linter.unusedSimpArgs false
set_option linter.unusedVariables false
namespace Go.Proofs.YtgjndmpfofhhmaaDoor
open Go Go.TM Go.RowKit Go.ChangeShapes Go.WideShapes

def pTypes7 : List TypeId := [5, 22]
theorem p_ok7 : tyOk Tryd.prog pTypes7 = true := by kernel_rfl
theorem inv7 {H : Type} {ds : List (DataW H)} {ls : List (List IV)} (hh0 : AllTy Tryd.prog [22] ds ls) : ((lim K).call 7 (argsOf Tryd.prog [22] ls) []).All fun r => r.1 = .iv (.bool true) := by
  obtain ⟨d0, l0, ds0, ls0, rfl, h0, hh1⟩ := allTy_cons hh0
  obtain ⟨t0, x0, rfl, g0, r0⟩ := ty_bytes Tryd.underlying22 Tryd.underlying5 h0
  have e0 : ∀ x, argOf Tryd.prog 22 [x] = .iv x := fun x => argOf_plain (by rw [Tryd.underlying22])
  rw [allTy_nil hh1]
  simp only [argsOf, e0]
  exact law7 t0 x0 g0 r0
theorem lifted7 (os : Os) (started : os.Started) (H : Type) (enc : TypeId × Value → H) :
    ReturnsInHanded {} Tryd.checked os 7 .any (fun w args => (Rows.utfOnceSpec.pre enc Tryd.prog Tryd.f7 [] false w args ∧ laidMetH Tryd.prog theLaid w) ∧ sizedMet enc Tryd.prog Tryd.f7 (OpenSpec.ofChange Rows.utfOnceSpec) false w args)
      (Rows.utfOnceSpec.post enc Tryd.prog Tryd.f7 false true false false) := by
  refine returnsInHanded_of_change_and (C := Tryd.checked) (X := fun w _ => laidMetH Tryd.prog theLaid w) (fun _ _ _ hh h => h.of_heap hh) own started (by kernel_rfl) Tryd.func7
    (ChangeSpec.witness_shaped (enc := enc) (C := Tryd.checked) (os := os) (X := fun w _ => laidMetH Tryd.prog theLaid w) false (World.laidAll Tryd.prog os theLaid) #[.slice none 0 0] 8 (World.laidAll_os _ _ _)
      (World.shaped_of_ZipB (by kernel_rfl) (by kernel_rfl)) (by kernel_rfl) (by kernel_rfl) (by kernel_rfl)
      (by rw [MakeChecks.laidMetH_plain _ _ _ (by kernel_rfl)]; exact laidMet_laidAll _ (by kernel_rfl) (by kernel_rfl))) ?_
  intro W base args ds gs before hval0 hW _ _ hL _
  have hW' := hW
  obtain ⟨p, q, hA0, hV, _, _, _⟩ := hW
  have hA : DataW.TrodAll enc Tryd.prog W 0 (fun _ => true) true Tryd.f7.params.toList args.toList ds p := hA0
  rw [Tryd.params7] at hA
  obtain ⟨ls, hT, hR⟩ := args_vr p_ok7 (by decide) (fun j t v ht hv => hval0 j t v (by rw [← Array.getElem?_toList, Tryd.params7]; exact ht) (by rw [← Array.getElem?_toList]; exact hv)) hA
  have hfn : Rows.utfOnceSpec.fn H ds = { results := [.lit (.bool true)], args := ds } := by
    clear hR hA0 hA hW' hval0
    obtain ⟨c0, m0, ds, ms0, rfl, _, hT⟩ := allTy_consD hT
    obtain rfl := allTy_nilD hT
    rfl
  refine (open_calls_all kok (inv7 hT) hR (glob_ok hL)).mono fun e W' ⟨he, hb⟩ => ?_
  subst he
  exact ⟨_, rfl, law_post laidOut hW' rfl hfn (by kernel_rfl) (tb := 4) (by kernel_rfl) Tryd.underlying4 hb⟩

theorem utfOnce_holds : Rows.UtfOnceSaid :=
  OpenClaim.holds_of_wide 7 Tryd.f7 rfl rfl rfl rfl rfl rfl rfl ⟨rfl, rfl, rfl, rfl, rfl⟩ rfl rfl rfl rfl rfl (by kernel_rfl) Tryd.func7 (by kernel_rfl)
    (of_decide_eq_true (by kernel_rfl)) (by unfold Func.isWrapper; first | (rw [if_pos (by decide +kernel)]; kernel_rfl) | (rw [if_neg (by decide +kernel)]; exact ⟨rfl, rfl⟩))
    (fun os started H enc _ => lifted7 os started H enc)

theorem utfOnce_card : Rows.UtfOnceCardSaid :=
  Claim7.holds_tied_plain_at .later [] [.data, .pinned] true (true, "3147e99d8c6565994b35f8373c239e5c6286ab7c90f05c55c72c32bea8728ea5") false
    utfOnce_holds (fun _ h => by cases h) (by kernel_rfl) (fun _ h => by cases h) utfOnce_row_tie rfl ⟨rfl, rfl⟩ (by kernel_rfl) rfl
    (fun f fn hf hfn => by
      obtain rfl : f = 7 := Option.some.inj ((show Tryd.prog.funcNamed "pennant/pennantlaw06.UtfOnce" = some 7 by kernel_rfl).symm.trans hf) |>.symm
      obtain rfl : fn = Tryd.f7 := (Option.some.inj (Tryd.func7.symm.trans hfn)).symm
      exact ⟨by kernel_rfl, fun j t ht => all_params (P := Tryd.prog) (q := Tryd.prog.wantsStandIn) (by kernel_rfl) j t ht⟩)
    (by kernel_rfl)

end Go.Proofs.YtgjndmpfofhhmaaDoor
#print axioms Go.Proofs.YtgjndmpfofhhmaaDoor.utfOnce_card
