/- GraphBuilds: whatever the input, the law returns true. Condition: none. -/
import Derived.Test.YtmlhjdekfihdnaaGreatDoorGlob
import Derived.Test.YtmlhjdekfihdnaaGreatDoorTmE
import Derived.Test.YtmlhjdekfihdnaaGreatDoorJd
import Derived.Test.YtmlhjdekfihdnaaGreatDoorTie
import Derived.Test.YtmlhjdekfihdnaaGreatDoorCards
set_option maxRecDepth 100000
set_option linter.unusedSimpArgs false
set_option linter.unusedVariables false
namespace Go.Proofs.YtmlhjdekfihdnaaGreatDoor
open Go Go.TM Go.RowKit Go.ChangeShapes Go.WideShapes
def bBp:List TypeId:=[3, 4, 22, 24, 26, 28]
theorem bJt:aQ7 Tryz.prog bBp=true:=by kernel_rfl
theorem bBq (os:Os)(started:os.Started)(H:Type)(enc:TypeId×Value→H) :
    ReturnsInHanded {} Tryz.checked os 3 .any (fun w args=>(Rows.graphBuildsSpec.pre enc Tryz.prog Tryz.f3 [] false w args∧laidMetH Tryz.prog qT w)∧sizedMet enc Tryz.prog Tryz.f3 (OpenSpec.ofChange Rows.graphBuildsSpec) false w args)
      (Rows.graphBuildsSpec.post enc Tryz.prog Tryz.f3 false true false false):=by
  refine returnsInHanded_of_change_and (C:=Tryz.checked) (X:=fun w _=>laidMetH Tryz.prog qT w) (fun _ _ _ hh h=>h.of_heap hh) own started (by kernel_rfl) Tryz.func3
    (ChangeSpec.witness_shaped (enc:=enc) (C:=Tryz.checked) (os:=os) (X:=fun w _=>laidMetH Tryz.prog qT w) false (World.laidAll Tryz.prog os qT) #[.agg #[.int .i64 0, .int .i64 0, .int .i64 0, .int .i64 0, .int .i64 0, .bool false, .slice none 0 0]] 8 (World.laidAll_os _ _ _)
      (World.shaped_of_ZipB (by kernel_rfl) (by kernel_rfl)) (by kernel_rfl) (by kernel_rfl) (by kernel_rfl)
      (by rw[MakeChecks.laidMetH_plain _ _ _ (by kernel_rfl)]; exact laidMet_laidAll _ (by kernel_rfl) (by kernel_rfl))) ?_
  intro W base args ds gs before hval0 hW _ _ hL _
  have hW':=hW
  obtain⟨p, q, hA0, hV, _, _, _⟩:=hW
  have hA:DataW.TrodAll enc Tryz.prog W 0 (fun _=>true) true Tryz.f3.params.toList args.toList ds p:=hA0
  rw[Tryz.params3]at hA
  obtain⟨ls, hT, hR⟩:=aPo bJt (by decide) (fun j t v ht hv=>hval0 j t v (by rw[←Array.getElem?_toList, Tryz.params3]; exact ht) (by rw[←Array.getElem?_toList]; exact hv)) hA
  have hfn:Rows.graphBuildsSpec.fn H ds={results:=[.lit (.bool true)], args:=ds}:=by
    clear hR hA0 hA hW' hval0
    obtain⟨c0, m0, ds, ms0, rfl, _, hT⟩:=aJt hT
    obtain rfl:=aNh hT
    rfl
  refine (aBo kok (inv3 hT) hR (bBo hL)).mono fun e W' ⟨he, hb⟩=>?_
  subst he
  exact⟨_, rfl, aXb bBm hW' rfl hfn (by kernel_rfl) (tb:=4) (by kernel_rfl) Tryz.underlying4 hb⟩
theorem tA:Rows.GraphBuildsSaid :=
  OpenClaim.holds_of_wide 3 Tryz.f3 rfl rfl rfl rfl rfl rfl rfl ⟨rfl, rfl, rfl, rfl, rfl⟩ rfl rfl rfl rfl rfl (by kernel_rfl) Tryz.func3 (by kernel_rfl)
    (of_decide_eq_true (by kernel_rfl)) (by unfold Func.isWrapper; first|(rw[if_pos (by decide +kernel)]; kernel_rfl)|(rw[if_neg (by decide +kernel)]; exact⟨rfl, rfl⟩))
    (fun os started H enc _=>bBq os started H enc)
theorem graphBuilds_card:Rows.GraphBuildsCardSaid :=
  Claim7.holds_tied_plain_at .later [] [.data] true (true, "9d0c6edbc2eac37b5e6bfa3374749a2fbcbf2f37a98083ce1812e68bc2107443") false
    tA (fun _ h=>by cases h) (by kernel_rfl) (fun _ h=>by cases h) graphBuilds_row_tie rfl ⟨rfl, rfl⟩ (by kernel_rfl) rfl
    (fun f fn hf hfn=>by
      obtain rfl : f = 3 := Option.some.inj ((show Tryz.prog.funcNamed "pennant/pennantlaw22.GraphBuilds" = some 3 by kernel_rfl).symm.trans hf) |>.symm
      obtain rfl:fn=Tryz.f3:=(Option.some.inj (Tryz.func3.symm.trans hfn)).symm
      exact⟨by kernel_rfl, fun j t ht=>aNg (P:=Tryz.prog) (q:=Tryz.prog.wantsStandIn) (by kernel_rfl) j t ht⟩)
    (by kernel_rfl)
end Go.Proofs.YtmlhjdekfihdnaaGreatDoor
#print axioms Go.Proofs.YtmlhjdekfihdnaaGreatDoor.graphBuilds_card
