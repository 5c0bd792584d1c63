/- UtfApart: whatever the input, the law returns true. Condition: none. -/
import Derived.Test.YtgjndmpfofhhmaaDoorGlob
import Derived.Test.YtgjndmpfofhhmaaDoorTmE
import Derived.Test.YtgjndmpfofhhmaaDoorUtfL1
import Derived.Test.YtgjndmpfofhhmaaDoorTie
import Derived.Test.YtgjndmpfofhhmaaDoorCards
set_option maxRecDepth 100000
set_option linter.unusedSimpArgs false
set_option linter.unusedVariables false
namespace Go.Proofs.YtgjndmpfofhhmaaDoor
open Go Go.TM Go.RowKit Go.ChangeShapes Go.WideShapes

def pTypes5 : List TypeId := [3]
theorem p_ok5 : tyOk Tryd.prog pTypes5 = true := by kernel_rfl
theorem inv5 {H : Type} {ds : List (DataW H)} {ls : List (List IV)} (hh0 : AllTy Tryd.prog [3, 3] ds ls) : ((lim K).call 5 (argsOf Tryd.prog [3, 3] ls) []).All fun r => r.1 = .iv (.bool true) := by
  obtain ⟨d0, l0, ds0, ls0, rfl, h0, hh1⟩ := allTy_cons hh0
  obtain ⟨x0, rfl, a0, b0⟩ := ty_int Tryd.underlying3 h0
  have r0 : (-9223372036854775808 : Int) ≤ x0 ∧ x0 ≤ 9223372036854775807 := by
    simp [IntKind.min, IntKind.max, IntKind.signed, IntKind.bits] at a0 b0
    omega
  have e0 : ∀ x, argOf Tryd.prog 3 [x] = .iv x := fun x => argOf_plain (by rw [Tryd.underlying3])
  obtain ⟨d1, l1, ds1, ls1, rfl, h1, hh2⟩ := allTy_cons hh1
  obtain ⟨x1, rfl, a1, b1⟩ := ty_int Tryd.underlying3 h1
  have r1 : (-9223372036854775808 : Int) ≤ x1 ∧ x1 ≤ 9223372036854775807 := by
    simp [IntKind.min, IntKind.max, IntKind.signed, IntKind.bits] at a1 b1
    omega
  have e1 : ∀ x, argOf Tryd.prog 3 [x] = .iv x := fun x => argOf_plain (by rw [Tryd.underlying3])
  rw [allTy_nil hh2]
  simp only [argsOf, e0, e1]
  exact law5 x0 r0 x1 r1
theorem lifted5 (os : Os) (started : os.Started) (H : Type) (enc : TypeId × Value → H) :
    ReturnsInHanded {} Tryd.checked os 5 .any (fun w args => (Rows.utfApartSpec.pre enc Tryd.prog Tryd.f5 [] false w args ∧ laidMetH Tryd.prog theLaid w) ∧ sizedMet enc Tryd.prog Tryd.f5 (OpenSpec.ofChange Rows.utfApartSpec) false w args)
      (Rows.utfApartSpec.post enc Tryd.prog Tryd.f5 false true false false) := by
  refine returnsInHanded_of_change_and (C := Tryd.checked) (X := fun w _ => laidMetH Tryd.prog theLaid w) (fun _ _ _ hh h => h.of_heap hh) own started (by kernel_rfl) Tryd.func5
    (ChangeSpec.witness_shaped (enc := enc) (C := Tryd.checked) (os := os) (X := fun w _ => laidMetH Tryd.prog theLaid w) false (World.laidAll Tryd.prog os theLaid) #[.int .i64 0, .int .i64 0] 8 (World.laidAll_os _ _ _)
      (World.shaped_of_ZipB (by kernel_rfl) (by kernel_rfl)) (by kernel_rfl) (by kernel_rfl) (by kernel_rfl)
      (by rw [MakeChecks.laidMetH_plain _ _ _ (by kernel_rfl)]; exact laidMet_laidAll _ (by kernel_rfl) (by kernel_rfl))) ?_
  intro W base args ds gs before hval0 hW _ _ hL _
  have hW' := hW
  obtain ⟨p, q, hA0, hV, _, _, _⟩ := hW
  have hA : DataW.TrodAll enc Tryd.prog W 0 (fun _ => true) true Tryd.f5.params.toList args.toList ds p := hA0
  rw [Tryd.params5] at hA
  obtain ⟨ls, hT, hR⟩ := args_vr p_ok5 (by decide) (fun j t v ht hv => hval0 j t v (by rw [← Array.getElem?_toList, Tryd.params5]; exact ht) (by rw [← Array.getElem?_toList]; exact hv)) hA
  have hfn : Rows.utfApartSpec.fn H ds = { results := [.lit (.bool true)], args := ds } := by
    clear hR hA0 hA hW' hval0
    obtain ⟨c0, m0, ds, ms0, rfl, _, hT⟩ := allTy_consD hT
    obtain ⟨c1, m1, ds, ms1, rfl, _, hT⟩ := allTy_consD hT
    obtain rfl := allTy_nilD hT
    rfl
  refine (open_calls_all kok (inv5 hT) hR (glob_ok hL)).mono fun e W' ⟨he, hb⟩ => ?_
  subst he
  exact ⟨_, rfl, law_post laidOut hW' rfl hfn (by kernel_rfl) (tb := 4) (by kernel_rfl) Tryd.underlying4 hb⟩

theorem utfApart_holds : Rows.UtfApartSaid :=
  OpenClaim.holds_of_wide 5 Tryd.f5 rfl rfl rfl rfl rfl rfl rfl ⟨rfl, rfl, rfl, rfl, rfl⟩ rfl rfl rfl rfl rfl (by kernel_rfl) Tryd.func5 (by kernel_rfl)
    (of_decide_eq_true (by kernel_rfl)) (by unfold Func.isWrapper; first | (rw [if_pos (by decide +kernel)]; kernel_rfl) | (rw [if_neg (by decide +kernel)]; exact ⟨rfl, rfl⟩))
    (fun os started H enc _ => lifted5 os started H enc)

theorem utfApart_card : Rows.UtfApartCardSaid :=
  Claim7.holds_tied_plain_at .later [] [.data, .pinned] true (true, "3147e99d8c6565994b35f8373c239e5c6286ab7c90f05c55c72c32bea8728ea5") false
    utfApart_holds (fun _ h => by cases h) (by kernel_rfl) (fun _ h => by cases h) utfApart_row_tie rfl ⟨rfl, rfl⟩ (by kernel_rfl) rfl
    (fun f fn hf hfn => by
      obtain rfl : f = 5 := Option.some.inj ((show Tryd.prog.funcNamed "pennant/pennantlaw06.UtfApart" = some 5 by kernel_rfl).symm.trans hf) |>.symm
      obtain rfl : fn = Tryd.f5 := (Option.some.inj (Tryd.func5.symm.trans hfn)).symm
      exact ⟨by kernel_rfl, fun j t ht => all_params (P := Tryd.prog) (q := Tryd.prog.wantsStandIn) (by kernel_rfl) j t ht⟩)
    (by kernel_rfl)

end Go.Proofs.YtgjndmpfofhhmaaDoor
#print axioms Go.Proofs.YtgjndmpfofhhmaaDoor.utfApart_card
