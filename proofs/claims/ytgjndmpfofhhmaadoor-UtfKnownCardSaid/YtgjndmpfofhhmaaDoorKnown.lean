/- UtfKnown: the law returns true. Condition: none. -/
import Derived.Test.YtgjndmpfofhhmaaDoorTmProg
import Derived.Test.YtgjndmpfofhhmaaDoorTie
import Derived.Test.YtgjndmpfofhhmaaDoorCards
import Derived.SevenTiedAt
import Derived.Stop.Joined
import Derived.JoinedOf
import Derived.Lay
import Derived.LaidMore
set_option maxRecDepth 100000
set_option linter.unusedVariables false
namespace Go.Proofs.YtgjndmpfofhhmaaDoor
open Go Go.TM Go.RowKit Go.ChangeShapes Go.WideShapes

theorem own : ownKnob Tryd.prog.godebug = none := by kernel_rfl
theorem laidOut : laidOutB Tryd.prog = true := by kernel_rfl
theorem n_first : Tryd.prog.globalNamed "unicode/utf8.first" = some 0 := by kernel_rfl
theorem n_accept : Tryd.prog.globalNamed "unicode/utf8.acceptRanges" = some 1 := by kernel_rfl
theorem ty_first : (Tryd.prog.globals[0]?).map (·.type) = some 67 := by kernel_rfl
theorem ty_accept : (Tryd.prog.globals[1]?).map (·.type) = some 71 := by kernel_rfl
def rdTypes : List TypeId := [5, 67, 70, 71]
theorem rd_ok : tyOk Tryd.prog rdTypes = true := by kernel_rfl
def theLaid : List (String × DataW Unit) := [("unicode/utf8.acceptRanges", Rows.laid_unicode_utf8_acceptRanges), ("unicode/utf8.first", Rows.laid_unicode_utf8_first)]
theorem iv_first : ivsD Rows.laid_unicode_utf8_first = g0 := by kernel_rfl
theorem iv_accept : ivsD (Rows.laid_unicode_utf8_acceptRanges (H := Unit)) = g1 := by kernel_rfl
theorem glob_ok {W : World} (hL : laidMetH Tryd.prog theLaid W) : GlobOK K (allMem W) := by
  rw [MakeChecks.laidMetH_plain _ _ _ (by kernel_rfl)] at hL
  obtain ⟨ps, hv, _⟩ := hL
  have h0 := laid_glob rd_ok hv "unicode/utf8.first" Rows.laid_unicode_utf8_first (by simp [theLaid]) 0 67 n_first ty_first (by decide) (by kernel_rfl)
  have h1 := laid_glob rd_ok hv "unicode/utf8.acceptRanges" Rows.laid_unicode_utf8_acceptRanges (by simp [theLaid]) 1 71 n_accept ty_accept (by decide) (by kernel_rfl)
  rw [iv_first] at h0
  rw [iv_accept] at h1
  have hall : AllAt (fun g cs => IR (allMem W) (.cp cs) (.pointer (some ⟨g, 0, none⟩))) 0 gtbl := ⟨h0, h1, trivial⟩
  exact fun g cs h => allAt_get hall g cs h

theorem run8 : ((ex K 60).call 8 [] []).allB isTrue = true := by kernel_rfl
theorem known8 {W : World} (hL : laidMetH Tryd.prog theLaid W) : Calls Tryd.prog 8 #[] W fun e W' => e = .returned (.bool true) ∧ Below W.heap.size W W' :=
  law_calls kok (Out.all_of_allB isTrue_eq run8) (by exact VRs.nil) (glob_ok hL)

set_option maxRecDepth 100000 in
theorem lifted8 (os : Os) (started : os.Started) (H : Type) (enc : TypeId × Value → H) :
    ReturnsInHanded {} Tryd.checked os 8 .any (fun w args => (Rows.utfKnownSpec.pre enc Tryd.prog Tryd.f8 [] false w args ∧ laidMetH Tryd.prog theLaid w) ∧ sizedMet enc Tryd.prog Tryd.f8 (OpenSpec.ofChange Rows.utfKnownSpec) false w args)
      (Rows.utfKnownSpec.post enc Tryd.prog Tryd.f8 false true false false) := by
  refine returnsInHanded_of_change_and (C := Tryd.checked) (X := fun w _ => laidMetH Tryd.prog theLaid w) (fun _ _ _ hh h => h.of_heap hh) own started (by kernel_rfl) Tryd.func8
    (ChangeSpec.witness_shaped (enc := enc) (C := Tryd.checked) (os := os) (X := fun w _ => laidMetH Tryd.prog theLaid w) false (World.laidAll Tryd.prog os theLaid) #[] 8 (World.laidAll_os _ _ _)
      (World.shaped_of_ZipB (by kernel_rfl) (by kernel_rfl)) (by kernel_rfl) (by kernel_rfl) (by kernel_rfl)
      (by rw [MakeChecks.laidMetH_plain _ _ _ (by kernel_rfl)]; exact laidMet_laidAll _ (by kernel_rfl) (by kernel_rfl))) ?_
  intro W base args ds gs before hval0 hW _ _ hL _
  have hW' := hW
  obtain ⟨p, q, hA0, hV, _, _, _⟩ := hW
  have hA : DataW.TrodAll enc Tryd.prog W 0 (fun _ => true) true Tryd.f8.params.toList args.toList ds p := hA0
  rw [Tryd.params8] at hA
  obtain ⟨rfl, rfl, rfl⟩ := trodAll_none hA
  refine (known8 hL).mono fun e W' ⟨he, hb⟩ => ?_
  subst he
  exact ⟨_, rfl, law_post laidOut hW' rfl rfl (by kernel_rfl) (tb := 4) (by kernel_rfl) Tryd.underlying4 hb⟩

theorem utfKnown_holds : Rows.UtfKnownSaid :=
  OpenClaim.holds_of_wide 8 Tryd.f8 rfl rfl rfl rfl rfl rfl rfl ⟨rfl, rfl, rfl, rfl, rfl⟩ rfl rfl rfl rfl rfl (by kernel_rfl) Tryd.func8 (by kernel_rfl)
    (of_decide_eq_true (by kernel_rfl)) (by unfold Func.isWrapper; first | (rw [if_pos (by decide +kernel)]; kernel_rfl) | (rw [if_neg (by decide +kernel)]; exact ⟨rfl, rfl⟩))
    (fun os started H enc _ => lifted8 os started H enc)

theorem utfKnown_card : Rows.UtfKnownCardSaid :=
  Claim7.holds_tied_plain_at .later [] [.data, .pinned] true (true, "3147e99d8c6565994b35f8373c239e5c6286ab7c90f05c55c72c32bea8728ea5") false
    utfKnown_holds (fun _ h => by cases h) (by kernel_rfl) (fun _ h => by cases h) utfKnown_row_tie rfl ⟨rfl, rfl⟩ (by kernel_rfl) rfl
    (fun f fn hf hfn => by
      obtain rfl : f = 8 := Option.some.inj ((show Tryd.prog.funcNamed "pennant/pennantlaw06.UtfKnown" = some 8 by kernel_rfl).symm.trans hf) |>.symm
      obtain rfl : fn = Tryd.f8 := (Option.some.inj (Tryd.func8.symm.trans hfn)).symm
      exact ⟨by kernel_rfl, fun j t ht => by
        rw [Tryd.params8] at ht
        simp at ht⟩)
    (by kernel_rfl)

end Go.Proofs.YtgjndmpfofhhmaaDoor
#print axioms Go.Proofs.YtgjndmpfofhhmaaDoor.utfKnown_card
