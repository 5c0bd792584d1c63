/- SpillMaps: whatever the input, the law returns true. Condition: none. -/
import Derived.Test.YtehlgnfhkidgoaaGreatDoorGlob
import Derived.Test.YtehlgnfhkidgoaaGreatDoorTmE
import Derived.Test.YtehlgnfhkidgoaaGreatDoorJj
import Derived.Test.YtehlgnfhkidgoaaGreatDoorTie
import Derived.Test.YtehlgnfhkidgoaaGreatDoorCards
set_option maxRecDepth 100000
set_option linter.unusedSimpArgs false
set_option linter.unusedVariables false
namespace Go.Proofs.YtehlgnfhkidgoaaGreatDoor
open Go Go.TM Go.RowKit Go.ChangeShapes Go.WideShapes
def bMc:List TypeId:=[3, 4, 22, 24, 26, 28]
theorem bU3:aYm Tryz.prog bMc=true:=by kernel_rfl
theorem bMd (os:Os)(started:os.Started)(H:Type)(enc:TypeId×Value→H) :
    ReturnsInHanded {} Tryz.checked os 4 .any (fun w args=>(Rows.spillMapsSpec.pre enc Tryz.prog Tryz.f4 [] false w args∧laidMetH Tryz.prog uE w)∧sizedMet enc Tryz.prog Tryz.f4 (OpenSpec.ofChange Rows.spillMapsSpec) false w args)
      (Rows.spillMapsSpec.post enc Tryz.prog Tryz.f4 false true false false):=by
  refine returnsInHanded_of_change_and (C:=Tryz.checked) (X:=fun w _=>laidMetH Tryz.prog uE w) (fun _ _ _ hh h=>h.of_heap hh) own started (by kernel_rfl) Tryz.func4
    (ChangeSpec.witness_shaped (enc:=enc) (C:=Tryz.checked) (os:=os) (X:=fun w _=>laidMetH Tryz.prog uE w) false (World.laidAll Tryz.prog os uE) #[.agg #[.int .i64 0, .int .i64 0, .int .i64 0, .int .i64 0, .int .i64 0, .bool false, .slice none 0 0]] 8 (World.laidAll_os _ _ _)
      (World.shaped_of_ZipB (by kernel_rfl) (by kernel_rfl)) (by kernel_rfl) (by kernel_rfl) (by kernel_rfl)
      (by rw[MakeChecks.laidMetH_plain _ _ _ (by kernel_rfl)]; exact laidMet_laidAll _ (by kernel_rfl) (by kernel_rfl))) ?_
  intro W base args ds gs before hval0 hW _ _ hL _
  have hW':=hW
  obtain⟨p, q, hA0, hV, _, _, _⟩:=hW
  have hA:DataW.TrodAll enc Tryz.prog W 0 (fun _=>true) true Tryz.f4.params.toList args.toList ds p:=hA0
  rw[Tryz.params4]at hA
  obtain⟨ls, hT, hR⟩:=aWf bU3 (by decide) (fun j t v ht hv=>hval0 j t v (by rw[←Array.getElem?_toList, Tryz.params4]; exact ht) (by rw[←Array.getElem?_toList]; exact hv)) hA
  have hfn:Rows.spillMapsSpec.fn H ds={results:=[.lit (.bool true)], args:=ds}:=by
    clear hR hA0 hA hW' hval0
    obtain⟨c0, m0, ds, ms0, rfl, _, hT⟩:=aO8 hT
    obtain rfl:=aTg hT
    rfl
  refine (aFo kok (inv4 hT) hR (bJr hL)).mono fun e W' ⟨he, hb⟩=>?_
  subst he
  exact⟨_, rfl, bFt bJp hW' rfl hfn (by kernel_rfl) (tb:=4) (by kernel_rfl) Tryz.underlying4 hb⟩
theorem aB0:Rows.SpillMapsSaid :=
  OpenClaim.holds_of_wide 4 Tryz.f4 rfl rfl rfl rfl rfl rfl rfl ⟨rfl, rfl, rfl, rfl, rfl⟩ rfl rfl rfl rfl rfl (by kernel_rfl) Tryz.func4 (by kernel_rfl)
    (of_decide_eq_true (by kernel_rfl)) (by unfold Func.isWrapper; first|(rw[if_pos (by decide +kernel)]; kernel_rfl)|(rw[if_neg (by decide +kernel)]; exact⟨rfl, rfl⟩))
    (fun os started H enc _=>bMd os started H enc)
theorem spillMaps_card:Rows.SpillMapsCardSaid :=
  Claim7.holds_tied_plain_at .later [] [.data] true (true, "6bdd66170db0510b065e6451c48c55776cf4c1b39e26139e29405cb7119fa2a7") false
    aB0 (fun _ h=>by cases h) (by kernel_rfl) (fun _ h=>by cases h) spillMaps_row_tie rfl ⟨rfl, rfl⟩ (by kernel_rfl) rfl
    (fun f fn hf hfn=>by
      obtain rfl : f = 4 := Option.some.inj ((show Tryz.prog.funcNamed "pennant/pennantlaw23.SpillMaps" = some 4 by kernel_rfl).symm.trans hf) |>.symm
      obtain rfl:fn=Tryz.f4:=(Option.some.inj (Tryz.func4.symm.trans hfn)).symm
      exact⟨by kernel_rfl, fun j t ht=>aTf (P:=Tryz.prog) (q:=Tryz.prog.wantsStandIn) (by kernel_rfl) j t ht⟩)
    (by kernel_rfl)
end Go.Proofs.YtehlgnfhkidgoaaGreatDoor
#print axioms Go.Proofs.YtehlgnfhkidgoaaGreatDoor.spillMaps_card
