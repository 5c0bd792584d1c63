/- DataFills: whatever the input, the law returns true. Condition: none. -/
import Derived.Test.YtjbpbohpmfpoiaaGreatDoorGlob
import Derived.Test.YtjbpbohpmfpoiaaGreatDoorTmE
import Derived.Test.YtjbpbohpmfpoiaaGreatDoorJd
import Derived.Test.YtjbpbohpmfpoiaaGreatDoorTie
import Derived.Test.YtjbpbohpmfpoiaaGreatDoorCards
import Derived.Deep.DeepHandedRow
set_option maxRecDepth 100000
set_option linter.unusedSimpArgs false
set_option linter.unusedVariables false
namespace Go.Proofs.YtjbpbohpmfpoiaaGreatDoor
open Go Go.TM Go.RowKit Go.ChangeShapes Go.WideShapes
def aW1:List TypeId:=[3, 9, 22, 37]
theorem bFg:aNr Tryz.prog aW1=true:=by kernel_rfl
open Go.RowKit in
theorem qG {H:Type}{enc:TypeId×Value→H}{C:Checked}{os:Os}{f:FuncId}{fn:Func}{s:OpenSpec}{conds:List PathCond}{apart:Bool}{laid:List (String×DataW Unit)}(modest:Bool)(w0:World)(args:Array Value)(hos:w0.os=os)
    (hsh:(w0.forCall (fun _ _=>0) ⟨#[], args, []⟩).Shaped C.prog)
    (hok:Input.okWideB C.prog (w0.forCall (fun _ _=>0) ⟨#[], args, []⟩) f ⟨#[], args, []⟩=true)
    (hrow:s.preRow enc C.prog fn conds apart laid (w0.forCall (fun _ _=>0) ⟨#[], args, []⟩).memory args) :
    ∃(w:World) (tape:Tape) (i:Input), w.os=os∧(w.forCall tape i).Shaped C.prog∧i.vars=[]∧Input.okWide C.prog (w.forCall tape i) .any w.heap.size f i ∧
      s.preRow enc C.prog fn conds apart laid (w.forCall tape i).memory i.args∧({modest:=modest}:Assume).holds C.prog (lone (Frame.enter C.prog f i.args .normal) [] (w.forCall tape i)) :=
  ⟨w0, fun _ _=>0, ⟨#[], args, []⟩, hos, hsh, (Input.okWide_of_okWideB (base:=0) hok).1, (Input.okWide_of_okWideB hok).2, hrow, by
    simp only[Assume.holds]
    exact⟨by simp, by simp, fun _=>Modest.zero, by simp, by simp⟩⟩
theorem bCg (os:Os){H:Type}(enc:TypeId×Value→H):DataW.whole enc Tryz.prog ((World.laidAll Tryz.prog os oX).forCall (fun _ _=>0) ⟨#[], #[.slice none 0 0, .int .i64 0], []⟩).memory Tryz.f4.params.toList Rows.dataFillsSpec.vars false (#[.slice none 0 0, .int .i64 0]:Array Value).toList 8=some ([.nil, .lit (.int .i64 0)], [], []):=by kernel_rfl
theorem aW2 (os:Os)(started:os.Started)(H:Type)(enc:TypeId×Value→H)(F:Stop.Interp) :
    ReturnsInHanded {} Tryz.checked os 4 .any ((Rows.OpenSpec.upto Rows.dataFillsSpec).preRow enc Tryz.prog Tryz.f4 Rows.dataFillsUptoRow.domain false Rows.dataFillsUptoRow.laid) (((Rows.OpenSpec.upto Rows.dataFillsSpec).at F).post enc Tryz.prog Tryz.f4 false true false false):=by
  refine returnsInHanded_of_row (C:=Tryz.checked) (s:=Rows.OpenSpec.upto Rows.dataFillsSpec) own started (by kernel_rfl) Tryz.func4
    (qG (enc:=enc) (C:=Tryz.checked) false (World.laidAll Tryz.prog os oX) #[.slice none 0 0, .int .i64 0] (World.laidAll_os _ _ _)
      (World.shaped_of_ZipB (by kernel_rfl) (by kernel_rfl)) (by kernel_rfl)
      (OpenSpec.preRow_of_cond 8 (bCg os enc) (by kernel_rfl) (fun k hk=>by cases hk; kernel_rfl) (by kernel_rfl)
        (by show laidMetH Tryz.prog oX _; rw[MakeChecks.laidMetH_plain _ _ _ (by kernel_rfl)]; exact laidMet_laidAll _ (by kernel_rfl) (by kernel_rfl)))) ?_
  intro W base args ds gs before hval0 hW _ hcond _ hL _ _
  have hbulk:=of_decide_eq_true (hcond _ rfl)
  have hW':=hW
  obtain⟨p, q, hA0, hV, _, _, _⟩:=hW
  obtain⟨rfl, rfl⟩:=trodVars_none hV
  rw[List.append_nil]at hbulk
  have hA:DataW.TrodAll enc Tryz.prog W 0 (fun _=>true) true Tryz.f4.params.toList args.toList ds p:=hA0
  rw[Tryz.params4]at hA
  obtain⟨ls, hT, hR⟩:=aMn bFg (by decide) (fun j t v ht hv=>hval0 j t v (by rw[←Array.getElem?_toList, Tryz.params4]; exact ht) (by rw[←Array.getElem?_toList]; exact hv)) hA
  have hfn:Rows.dataFillsSpec.fn H ds={results:=[.lit (.bool true)], args:=ds}:=by
    clear hR hA0 hA hW' hval0 hbulk
    obtain⟨c0, m0, ds, ms0, rfl, _, hT⟩:=vS hT
    obtain⟨c1, m1, ds, ms1, rfl, _, hT⟩:=vS hT
    obtain rfl:=rE hT
    rfl
  refine (aAb kok (inv4 hT hbulk) hR (aW5 hL)).mono fun e W' ⟨he, hb⟩=>?_
  subst he
  exact⟨_, rfl, aTi aW3 hW' rfl hfn (by kernel_rfl) (tb:=4) (by kernel_rfl) Tryz.underlying4 hb⟩
theorem vT:Rows.DataFillsUptoSaid :=
  OpenClaim.holds_of_cond 4 Tryz.f4 rfl rfl rfl rfl rfl rfl rfl ⟨rfl, rfl, rfl, rfl, rfl⟩ rfl rfl rfl rfl rfl (by kernel_rfl) Tryz.func4 (by kernel_rfl)
    (of_decide_eq_true (by kernel_rfl)) (by unfold Func.isWrapper; first|(rw[if_pos (by decide +kernel)]; kernel_rfl)|(rw[if_neg (by decide +kernel)]; exact⟨rfl, rfl⟩))
    (fun os started H enc _ F=>by rw[OpenClaim.pre_eq_preRow]; exact aW2 os started H enc F)
theorem dataFills_card:Rows.DataFillsUptoCardSaid :=
  Claim7.holds_tied_plain_at .later [] [.data, .data, .data, .data, .pinned] true (true, "4970606838ef2064c96d97ba059b22e50ae0dd821b5a44d11e16747c167de07d") false
    vT (fun _ h=>by cases h) (by kernel_rfl) (fun _ h=>by cases h) dataFillsUpto_row_tie rfl ⟨rfl, rfl⟩ (by kernel_rfl) rfl
    (fun f fn hf hfn=>by
      obtain rfl : f = 4 := Option.some.inj ((show Tryz.prog.funcNamed "pennant/pennantlaw29.DataFills" = some 4 by kernel_rfl).symm.trans hf) |>.symm
      obtain rfl:fn=Tryz.f4:=(Option.some.inj (Tryz.func4.symm.trans hfn)).symm
      exact⟨by kernel_rfl, fun j t ht=>aKv (P:=Tryz.prog) (q:=Tryz.prog.wantsStandIn) (by kernel_rfl) j t ht⟩)
    (by kernel_rfl)
end Go.Proofs.YtjbpbohpmfpoiaaGreatDoor
#print axioms Go.Proofs.YtjbpbohpmfpoiaaGreatDoor.dataFills_card
