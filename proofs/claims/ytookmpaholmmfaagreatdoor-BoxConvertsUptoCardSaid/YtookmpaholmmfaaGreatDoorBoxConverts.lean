/- BoxConverts: whatever the input, the law returns true. Condition: none. -/
import Derived.Test.YtookmpaholmmfaaGreatDoorGlob
import Derived.Test.YtookmpaholmmfaaGreatDoorTmE
import Derived.Test.YtookmpaholmmfaaGreatDoorJd
import Derived.Test.YtookmpaholmmfaaGreatDoorTie
import Derived.Test.YtookmpaholmmfaaGreatDoorCards
import Derived.Deep.DeepHandedRow
set_option maxRecDepth 100000
set_option linter.unusedSimpArgs false
set_option linter.unusedVariables false
namespace Go.Proofs.YtookmpaholmmfaaGreatDoor
open Go Go.TM Go.RowKit Go.ChangeShapes Go.WideShapes
def bB0:List TypeId:=[3, 4, 9, 22, 23, 25, 26, 28, 39]
theorem bJz:aSf Tryz.prog bB0=true:=by kernel_rfl
open Go.RowKit in
theorem sV {H:Type}{enc:TypeId×Value→H}{C:Checked}{os:Os}{f:FuncId}{fn:Func}{s:OpenSpec}{conds:List PathCond}{apart:Bool}{laid:List (String×DataW Unit)}(modest:Bool)(w0:World)(args:Array Value)(hos:w0.os=os)
    (hsh:(w0.forCall (fun _ _=>0) ⟨#[], args, []⟩).Shaped C.prog)
    (hok:Input.okWideB C.prog (w0.forCall (fun _ _=>0) ⟨#[], args, []⟩) f ⟨#[], args, []⟩=true)
    (hrow:s.preRow enc C.prog fn conds apart laid (w0.forCall (fun _ _=>0) ⟨#[], args, []⟩).memory args) :
    ∃(w:World) (tape:Tape) (i:Input), w.os=os∧(w.forCall tape i).Shaped C.prog∧i.vars=[]∧Input.okWide C.prog (w.forCall tape i) .any w.heap.size f i ∧
      s.preRow enc C.prog fn conds apart laid (w.forCall tape i).memory i.args∧({modest:=modest}:Assume).holds C.prog (lone (Frame.enter C.prog f i.args .normal) [] (w.forCall tape i)) :=
  ⟨w0, fun _ _=>0, ⟨#[], args, []⟩, hos, hsh, (Input.okWide_of_okWideB (base:=0) hok).1, (Input.okWide_of_okWideB hok).2, hrow, by
    simp only[Assume.holds]
    exact⟨by simp, by simp, fun _=>Modest.zero, by simp, by simp⟩⟩
theorem bG4 (os:Os){H:Type}(enc:TypeId×Value→H):DataW.whole enc Tryz.prog ((World.laidAll Tryz.prog os mD).forCall (fun _ _=>0) ⟨#[], #[.agg #[.int .i64 0, .int .i64 0, .slice none 0 0, .bool false, .slice none 0 0, .int .i64 0, .int .i64 0, .slice none 0 0]], []⟩).memory Tryz.f5.params.toList Rows.boxConvertsSpec.vars false (#[.agg #[.int .i64 0, .int .i64 0, .slice none 0 0, .bool false, .slice none 0 0, .int .i64 0, .int .i64 0, .slice none 0 0]]:Array Value).toList 8=some ([.agg [.agg [.lit (.int .i64 0), .lit (.int .i64 0), .nil, .lit (.bool false), .nil], .lit (.int .i64 0), .lit (.int .i64 0), .nil]], [], []):=by kernel_rfl
theorem bB1 (os:Os)(started:os.Started)(H:Type)(enc:TypeId×Value→H)(F:Stop.Interp) :
    ReturnsInHanded {} Tryz.checked os 5 .any ((Rows.OpenSpec.upto Rows.boxConvertsSpec).preRow enc Tryz.prog Tryz.f5 Rows.boxConvertsUptoRow.domain false Rows.boxConvertsUptoRow.laid) (((Rows.OpenSpec.upto Rows.boxConvertsSpec).at F).post enc Tryz.prog Tryz.f5 false true false false):=by
  refine returnsInHanded_of_row (C:=Tryz.checked) (s:=Rows.OpenSpec.upto Rows.boxConvertsSpec) own started (by kernel_rfl) Tryz.func5
    (sV (enc:=enc) (C:=Tryz.checked) false (World.laidAll Tryz.prog os mD) #[.agg #[.int .i64 0, .int .i64 0, .slice none 0 0, .bool false, .slice none 0 0, .int .i64 0, .int .i64 0, .slice none 0 0]] (World.laidAll_os _ _ _)
      (World.shaped_of_ZipB (by kernel_rfl) (by kernel_rfl)) (by kernel_rfl)
      (OpenSpec.preRow_of_cond 8 (bG4 os enc) (by kernel_rfl) (fun k hk=>by cases hk; kernel_rfl) (by kernel_rfl)
        (by show laidMetH Tryz.prog mD _; rw[MakeChecks.laidMetH_plain _ _ _ (by kernel_rfl)]; exact laidMet_laidAll _ (by kernel_rfl) (by kernel_rfl)))) ?_
  intro W base args ds gs before hval0 hW _ hcond _ hL _ _
  have hbulk:=of_decide_eq_true (hcond _ rfl)
  have hW':=hW
  obtain⟨p, q, hA0, hV, _, _, _⟩:=hW
  obtain⟨rfl, rfl⟩:=trodVars_none hV
  rw[List.append_nil]at hbulk
  have hA:DataW.TrodAll enc Tryz.prog W 0 (fun _=>true) true Tryz.f5.params.toList args.toList ds p:=hA0
  rw[Tryz.params5]at hA
  obtain⟨ls, hT, hR⟩:=aQ5 bJz (by decide) (fun j t v ht hv=>hval0 j t v (by rw[←Array.getElem?_toList, Tryz.params5]; exact ht) (by rw[←Array.getElem?_toList]; exact hv)) hA
  have hfn:Rows.boxConvertsSpec.fn H ds={results:=[.lit (.bool true)], args:=ds}:=by
    clear hR hA0 hA hW' hval0 hbulk
    obtain⟨c0, m0, ds, ms0, rfl, _, hT⟩:=aKg hT
    obtain rfl:=nF hT
    rfl
  refine (aB8 kok (inv5 hT hbulk) hR (bB4 hL)).mono fun e W' ⟨he, hb⟩=>?_
  subst he
  exact⟨_, rfl, aYd bB2 hW' rfl hfn (by kernel_rfl) (tb:=4) (by kernel_rfl) Tryz.underlying4 hb⟩
theorem tT:Rows.BoxConvertsUptoSaid :=
  OpenClaim.holds_of_cond 5 Tryz.f5 rfl rfl rfl rfl rfl rfl rfl ⟨rfl, rfl, rfl, rfl, rfl⟩ rfl rfl rfl rfl rfl (by kernel_rfl) Tryz.func5 (by kernel_rfl)
    (of_decide_eq_true (by kernel_rfl)) (by unfold Func.isWrapper; first|(rw[if_pos (by decide +kernel)]; kernel_rfl)|(rw[if_neg (by decide +kernel)]; exact⟨rfl, rfl⟩))
    (fun os started H enc _ F=>by rw[OpenClaim.pre_eq_preRow]; exact bB1 os started H enc F)
theorem boxConverts_card:Rows.BoxConvertsUptoCardSaid :=
  Claim7.holds_tied_plain_at .later [] [.data, .data, .data, .data, .pinned] true (true, "e5eafd01566d29fd15829b07e7e771bc6d680d34d08dad22901d6dc9f962a7b2") false
    tT (fun _ h=>by cases h) (by kernel_rfl) (fun _ h=>by cases h) boxConvertsUpto_row_tie rfl ⟨rfl, rfl⟩ (by kernel_rfl) rfl
    (fun f fn hf hfn=>by
      obtain rfl : f = 5 := Option.some.inj ((show Tryz.prog.funcNamed "pennant/pennantlaw15.BoxConverts" = some 5 by kernel_rfl).symm.trans hf) |>.symm
      obtain rfl:fn=Tryz.f5:=(Option.some.inj (Tryz.func5.symm.trans hfn)).symm
      exact⟨by kernel_rfl, fun j t ht=>aN9 (P:=Tryz.prog) (q:=Tryz.prog.wantsStandIn) (by kernel_rfl) j t ht⟩)
    (by kernel_rfl)
end Go.Proofs.YtookmpaholmmfaaGreatDoor
#print axioms Go.Proofs.YtookmpaholmmfaaGreatDoor.boxConverts_card
