/- SpillKnown: the law returns true. Condition: none. -/
import Derived.Test.YtehlgnfhkidgoaaGreatDoorGlob
import Derived.Test.YtehlgnfhkidgoaaGreatDoorTmE
import Derived.Test.YtehlgnfhkidgoaaGreatDoorJj
import Derived.Test.YtehlgnfhkidgoaaGreatDoorTie
import Derived.Test.YtehlgnfhkidgoaaGreatDoorCards
set_option maxRecDepth 100000
set_option linter.unusedSimpArgs false
set_option linter.unusedVariables false
namespace Go.Proofs.YtehlgnfhkidgoaaGreatDoor
open Go Go.TM Go.RowKit Go.ChangeShapes Go.WideShapes
def bMn:List TypeId:=[]
theorem bVg:aYj Tryz.prog bMn=true:=by kernel_rfl
theorem inv3 {H:Type}{ds:List (DataW H)}{ls:List (List IV)}(hh0:aO9 Tryz.prog [] ds ls):((lim K).call 3 (aLi Tryz.prog [] ls) []).All fun r=>r.1=.iv (.bool true):=by
  rw[bBl hh0]
  simp only[aLi, ]
  exact law3
theorem bMo (os:Os)(started:os.Started)(H:Type)(enc:TypeId×Value→H) :
    ReturnsInHanded {} Tryz.checked os 3 .any (fun w args=>(Rows.spillKnownSpec.pre enc Tryz.prog Tryz.f3 [] false w args∧laidMetH Tryz.prog uJ w)∧sizedMet enc Tryz.prog Tryz.f3 (OpenSpec.ofChange Rows.spillKnownSpec) false w args)
      (Rows.spillKnownSpec.post enc Tryz.prog Tryz.f3 false true false false):=by
  refine returnsInHanded_of_change_and (C:=Tryz.checked) (X:=fun w _=>laidMetH Tryz.prog uJ w) (fun _ _ _ hh h=>h.of_heap hh) own started (by kernel_rfl) Tryz.func3
    (ChangeSpec.witness_shaped (enc:=enc) (C:=Tryz.checked) (os:=os) (X:=fun w _=>laidMetH Tryz.prog uJ w) false (World.laidAll Tryz.prog os uJ) #[] 8 (World.laidAll_os _ _ _)
      (World.shaped_of_ZipB (by kernel_rfl) (by kernel_rfl)) (by kernel_rfl) (by kernel_rfl) (by kernel_rfl)
      (by rw[MakeChecks.laidMetH_plain _ _ _ (by kernel_rfl)]; exact laidMet_laidAll _ (by kernel_rfl) (by kernel_rfl))) ?_
  intro W base args ds gs before hval0 hW _ _ hL _
  have hW':=hW
  obtain⟨p, q, hA0, hV, _, _, _⟩:=hW
  have hA:DataW.TrodAll enc Tryz.prog W 0 (fun _=>true) true Tryz.f3.params.toList args.toList ds p:=hA0
  rw[Tryz.params3]at hA
  obtain⟨ls, hT, hR⟩:=aWf bVg (by decide) (fun j t v ht hv=>hval0 j t v (by rw[←Array.getElem?_toList, Tryz.params3]; exact ht) (by rw[←Array.getElem?_toList]; exact hv)) hA
  have hfn:Rows.spillKnownSpec.fn H ds={results:=[.lit (.bool true)], args:=ds}:=by
    clear hR hA0 hA hW' hval0
    
    obtain rfl:=aTb hT
    rfl
  refine (aFq kok (inv3 hT) hR (bJ0 hL)).mono fun e W' ⟨he, hb⟩=>?_
  subst he
  exact⟨_, rfl, bF0 bJy hW' rfl hfn (by kernel_rfl) (tb:=4) (by kernel_rfl) Tryz.underlying4 hb⟩
theorem zQ:Rows.SpillKnownSaid :=
  OpenClaim.holds_of_wide 3 Tryz.f3 rfl rfl rfl rfl rfl rfl rfl ⟨rfl, rfl, rfl, rfl, rfl⟩ rfl rfl rfl rfl rfl (by kernel_rfl) Tryz.func3 (by kernel_rfl)
    (of_decide_eq_true (by kernel_rfl)) (by unfold Func.isWrapper; first|(rw[if_pos (by decide +kernel)]; kernel_rfl)|(rw[if_neg (by decide +kernel)]; exact⟨rfl, rfl⟩))
    (fun os started H enc _=>bMo os started H enc)
theorem spillKnown_card:Rows.SpillKnownCardSaid :=
  Claim7.holds_tied_plain_at .later [] [.data] true (true, "6bdd66170db0510b065e6451c48c55776cf4c1b39e26139e29405cb7119fa2a7") false
    zQ (fun _ h=>by cases h) (by kernel_rfl) (fun _ h=>by cases h) spillKnown_row_tie rfl ⟨rfl, rfl⟩ (by kernel_rfl) rfl
    (fun f fn hf hfn=>by
      obtain rfl : f = 3 := Option.some.inj ((show Tryz.prog.funcNamed "pennant/pennantlaw23.SpillKnown" = some 3 by kernel_rfl).symm.trans hf) |>.symm
      obtain rfl:fn=Tryz.f3:=(Option.some.inj (Tryz.func3.symm.trans hfn)).symm
      exact⟨by kernel_rfl, fun j t ht=>aTa (P:=Tryz.prog) (q:=Tryz.prog.wantsStandIn) (by kernel_rfl) j t ht⟩)
    (by kernel_rfl)
end Go.Proofs.YtehlgnfhkidgoaaGreatDoor
#print axioms Go.Proofs.YtehlgnfhkidgoaaGreatDoor.spillKnown_card
