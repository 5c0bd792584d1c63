/- LexBetween: whatever the input, the law returns true. Condition: none. -/
import Derived.Test.YtpngkgkobapioaaDoorGlob
import Derived.Test.YtpngkgkobapioaaDoorTmE
import Derived.Test.YtpngkgkobapioaaDoorLxQ
import Derived.Test.YtpngkgkobapioaaDoorTie
import Derived.Test.YtpngkgkobapioaaDoorCards
set_option maxRecDepth 100000
set_option linter.unusedSimpArgs false
set_option linter.unusedVariables false
namespace Go.Proofs.YtpngkgkobapioaaDoor
open Go Go.TM Go.RowKit Go.ChangeShapes Go.WideShapes
def pTypes5 : List TypeId := [5, 34]
theorem p_ok5 : tyOk Tryd.prog pTypes5 = true := by kernel_rfl
theorem inv5 {H : Type} {ds : List (DataW H)} {ls : List (List IV)} (hh0 : AllTy Tryd.prog [34, 34, 5] ds ls) : ((lim K).call 5 (argsOf Tryd.prog [34, 34, 5] ls) []).All fun r => r.1 = .iv (.bool true) := by
  obtain ⟨d0, l0, ds0, ls0, rfl, h0, hh1⟩ := allTy_cons hh0
  obtain ⟨t0, x0, rfl, g0, r0⟩ := ty_bytes Tryd.underlying34 Tryd.underlying5 h0
  have e0 : ∀ x, argOf Tryd.prog 34 [x] = .iv x := fun x => argOf_plain (by rw [Tryd.underlying34])
  obtain ⟨d1, l1, ds1, ls1, rfl, h1, hh2⟩ := allTy_cons hh1
  obtain ⟨t1, x1, rfl, g1, r1⟩ := ty_bytes Tryd.underlying34 Tryd.underlying5 h1
  have e1 : ∀ x, argOf Tryd.prog 34 [x] = .iv x := fun x => argOf_plain (by rw [Tryd.underlying34])
  obtain ⟨d2, l2, ds2, ls2, rfl, h2, hh3⟩ := allTy_cons hh2
  obtain ⟨x2, rfl, a2, b2⟩ := ty_int Tryd.underlying5 h2
  have r2 : (0 : Int) ≤ x2 ∧ x2 ≤ 255 := by
    simp [IntKind.min, IntKind.max, IntKind.signed, IntKind.bits] at a2 b2
    omega
  have e2 : ∀ x, argOf Tryd.prog 5 [x] = .iv x := fun x => argOf_plain (by rw [Tryd.underlying5])
  rw [allTy_nil hh3]
  simp only [argsOf, e0, e1, e2]
  exact law5 t0 x0 g0 r0 t1 x1 g1 r1 x2 r2
theorem lifted5 (os : Os) (started : os.Started) (H : Type) (enc : TypeId × Value → H) :
    ReturnsInHanded {} Tryd.checked os 5 .any (fun w args => (Rows.lexBetweenSpec.pre enc Tryd.prog Tryd.f5 [] false w args ∧ laidMetH Tryd.prog theLaid w) ∧ sizedMet enc Tryd.prog Tryd.f5 (OpenSpec.ofChange Rows.lexBetweenSpec) false w args)
      (Rows.lexBetweenSpec.post enc Tryd.prog Tryd.f5 false true false false) := by
  refine returnsInHanded_of_change_and (C := Tryd.checked) (X := fun w _ => laidMetH Tryd.prog theLaid w) (fun _ _ _ hh h => h.of_heap hh) own started (by kernel_rfl) Tryd.func5
    (ChangeSpec.witness_shaped (enc := enc) (C := Tryd.checked) (os := os) (X := fun w _ => laidMetH Tryd.prog theLaid w) false (World.laidAll Tryd.prog os theLaid) #[.slice none 0 0, .slice none 0 0, .int .u8 0] 8 (World.laidAll_os _ _ _)
      (World.shaped_of_ZipB (by kernel_rfl) (by kernel_rfl)) (by kernel_rfl) (by kernel_rfl) (by kernel_rfl)
      (by rw [MakeChecks.laidMetH_plain _ _ _ (by kernel_rfl)]; exact laidMet_laidAll _ (by kernel_rfl) (by kernel_rfl))) ?_
  intro W base args ds gs before hval0 hW _ _ hL _
  have hW' := hW
  obtain ⟨p, q, hA0, hV, _, _, _⟩ := hW
  have hA : DataW.TrodAll enc Tryd.prog W 0 (fun _ => true) true Tryd.f5.params.toList args.toList ds p := hA0
  rw [Tryd.params5] at hA
  obtain ⟨ls, hT, hR⟩ := args_vr p_ok5 (by decide) (fun j t v ht hv => hval0 j t v (by rw [← Array.getElem?_toList, Tryd.params5]; exact ht) (by rw [← Array.getElem?_toList]; exact hv)) hA
  have hfn : Rows.lexBetweenSpec.fn H ds = { results := [.lit (.bool true)], args := ds } := by
    clear hR hA0 hA hW' hval0
    obtain ⟨c0, m0, ds, ms0, rfl, _, hT⟩ := allTy_consD hT
    obtain ⟨c1, m1, ds, ms1, rfl, _, hT⟩ := allTy_consD hT
    obtain ⟨c2, m2, ds, ms2, rfl, _, hT⟩ := allTy_consD hT
    obtain rfl := allTy_nilD hT
    rfl
  refine (open_calls_all kok (inv5 hT) hR (glob_ok hL)).mono fun e W' ⟨he, hb⟩ => ?_
  subst he
  exact ⟨_, rfl, law_post laidOut hW' rfl hfn (by kernel_rfl) (tb := 4) (by kernel_rfl) Tryd.underlying4 hb⟩
theorem lexBetween_holds : Rows.LexBetweenSaid :=
  OpenClaim.holds_of_wide 5 Tryd.f5 rfl rfl rfl rfl rfl rfl rfl ⟨rfl, rfl, rfl, rfl, rfl⟩ rfl rfl rfl rfl rfl (by kernel_rfl) Tryd.func5 (by kernel_rfl)
    (of_decide_eq_true (by kernel_rfl)) (by unfold Func.isWrapper; first | (rw [if_pos (by decide +kernel)]; kernel_rfl) | (rw [if_neg (by decide +kernel)]; exact ⟨rfl, rfl⟩))
    (fun os started H enc _ => lifted5 os started H enc)
theorem lexBetween_card : Rows.LexBetweenCardSaid :=
  Claim7.holds_tied_plain_at .later [] [.data, .pinned] true (true, "d103fb89d2b781f61788b548477d4d79e6c96e7eaa8040c541b0472ab23b9576") false
    lexBetween_holds (fun _ h => by cases h) (by kernel_rfl) (fun _ h => by cases h) lexBetween_row_tie rfl ⟨rfl, rfl⟩ (by kernel_rfl) rfl
    (fun f fn hf hfn => by
      obtain rfl : f = 5 := Option.some.inj ((show Tryd.prog.funcNamed "pennant/pennantlaw07.LexBetween" = some 5 by kernel_rfl).symm.trans hf) |>.symm
      obtain rfl : fn = Tryd.f5 := (Option.some.inj (Tryd.func5.symm.trans hfn)).symm
      exact ⟨by kernel_rfl, fun j t ht => all_params (P := Tryd.prog) (q := Tryd.prog.wantsStandIn) (by kernel_rfl) j t ht⟩)
    (by kernel_rfl)
end Go.Proofs.YtpngkgkobapioaaDoor
#print axioms Go.Proofs.YtpngkgkobapioaaDoor.lexBetween_card
