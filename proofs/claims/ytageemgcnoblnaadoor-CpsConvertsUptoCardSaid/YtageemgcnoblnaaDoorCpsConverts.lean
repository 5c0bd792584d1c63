/- CpsConverts: whatever the input, the law returns true. Condition: none. -/
import Derived.Test.YtageemgcnoblnaaDoorGlob
import Derived.Test.YtageemgcnoblnaaDoorTmE
import Derived.Test.YtageemgcnoblnaaDoorJf
import Derived.Test.YtageemgcnoblnaaDoorTie
import Derived.Test.YtageemgcnoblnaaDoorCards
import Derived.Deep.DeepHandedRow
set_option maxRecDepth 100000
set_option linter.unusedSimpArgs false
set_option linter.unusedVariables false
namespace Go.Proofs.YtageemgcnoblnaaDoor
open Go Go.TM Go.RowKit Go.ChangeShapes Go.WideShapes
def bCa:List TypeId:=[3, 4, 9, 22, 23, 25, 26, 28, 51]
theorem bKi:aSb Tryd.prog bCa=true:=by kernel_rfl
open Go.RowKit in
theorem uT {H:Type}{enc:TypeId×Value→H}{C:Checked}{os:Os}{f:FuncId}{fn:Func}{s:OpenSpec}{conds:List PathCond}{apart:Bool}{laid:List (String×DataW Unit)}(modest:Bool)(w0:World)(args:Array Value)(hos:w0.os=os)
    (hsh:(w0.forCall (fun _ _=>0) ⟨#[], args, []⟩).Shaped C.prog)
    (hok:Input.okWideB C.prog (w0.forCall (fun _ _=>0) ⟨#[], args, []⟩) f ⟨#[], args, []⟩=true)
    (hrow:s.preRow enc C.prog fn conds apart laid (w0.forCall (fun _ _=>0) ⟨#[], args, []⟩).memory args) :
    ∃(w:World) (tape:Tape) (i:Input), w.os=os∧(w.forCall tape i).Shaped C.prog∧i.vars=[]∧Input.okWide C.prog (w.forCall tape i) .any w.heap.size f i ∧
      s.preRow enc C.prog fn conds apart laid (w.forCall tape i).memory i.args∧({modest:=modest}:Assume).holds C.prog (lone (Frame.enter C.prog f i.args .normal) [] (w.forCall tape i)) :=
  ⟨w0, fun _ _=>0, ⟨#[], args, []⟩, hos, hsh, (Input.okWide_of_okWideB (base:=0) hok).1, (Input.okWide_of_okWideB hok).2, hrow, by
    simp only[Assume.holds]
    exact⟨by simp, by simp, fun _=>Modest.zero, by simp, by simp⟩⟩
theorem bG3 (os:Os){H:Type}(enc:TypeId×Value→H):DataW.whole enc Tryd.prog ((World.laidAll Tryd.prog os tA).forCall (fun _ _=>0) ⟨#[], #[.agg #[.int .i64 0, .int .i64 0, .slice none 0 0, .bool false, .slice none 0 0, .int .i64 0, .int .i64 0, .slice none 0 0]], []⟩).memory Tryd.f3.params.toList Rows.cpsConvertsSpec.vars false (#[.agg #[.int .i64 0, .int .i64 0, .slice none 0 0, .bool false, .slice none 0 0, .int .i64 0, .int .i64 0, .slice none 0 0]]:Array Value).toList 8=some ([.agg [.agg [.lit (.int .i64 0), .lit (.int .i64 0), .nil, .lit (.bool false), .nil], .lit (.int .i64 0), .lit (.int .i64 0), .nil]], [], []):=by kernel_rfl
theorem bCb (os:Os)(started:os.Started)(H:Type)(enc:TypeId×Value→H)(F:Stop.Interp) :
    ReturnsInHanded {} Tryd.checked os 3 .any ((Rows.OpenSpec.upto Rows.cpsConvertsSpec).preRow enc Tryd.prog Tryd.f3 Rows.cpsConvertsUptoRow.domain false Rows.cpsConvertsUptoRow.laid) (((Rows.OpenSpec.upto Rows.cpsConvertsSpec).at F).post enc Tryd.prog Tryd.f3 false true false false):=by
  refine returnsInHanded_of_row (C:=Tryd.checked) (s:=Rows.OpenSpec.upto Rows.cpsConvertsSpec) own started (by kernel_rfl) Tryd.func3
    (uT (enc:=enc) (C:=Tryd.checked) false (World.laidAll Tryd.prog os tA) #[.agg #[.int .i64 0, .int .i64 0, .slice none 0 0, .bool false, .slice none 0 0, .int .i64 0, .int .i64 0, .slice none 0 0]] (World.laidAll_os _ _ _)
      (World.shaped_of_ZipB (by kernel_rfl) (by kernel_rfl)) (by kernel_rfl)
      (OpenSpec.preRow_of_cond 8 (bG3 os enc) (by kernel_rfl) (fun k hk=>by cases hk; kernel_rfl) (by kernel_rfl)
        (by show laidMetH Tryd.prog tA _; rw[MakeChecks.laidMetH_plain _ _ _ (by kernel_rfl)]; exact laidMet_laidAll _ (by kernel_rfl) (by kernel_rfl)))) ?_
  intro W base args ds gs before hval0 hW _ hcond _ hL _ _
  have hbulk:=of_decide_eq_true (hcond _ rfl)
  have hW':=hW
  obtain⟨p, q, hA0, hV, _, _, _⟩:=hW
  obtain⟨rfl, rfl⟩:=trodVars_none hV
  rw[List.append_nil]at hbulk
  have hA:DataW.TrodAll enc Tryd.prog W 0 (fun _=>true) true Tryd.f3.params.toList args.toList ds p:=hA0
  rw[Tryd.params3]at hA
  obtain⟨ls, hT, hR⟩:=aQ5 bKi (by decide) (fun j t v ht hv=>hval0 j t v (by rw[←Array.getElem?_toList, Tryd.params3]; exact ht) (by rw[←Array.getElem?_toList]; exact hv)) hA
  have hfn:Rows.cpsConvertsSpec.fn H ds={results:=[.lit (.bool true)], args:=ds}:=by
    clear hR hA0 hA hW' hval0 hbulk
    obtain⟨c0, m0, ds, ms0, rfl, _, hT⟩:=aLk hT
    obtain rfl:=oB hT
    rfl
  refine (aDn kok (inv3 hT hbulk) hR (bCe hL)).mono fun e W' ⟨he, hb⟩=>?_
  subst he
  exact⟨_, rfl, aYm bCc hW' rfl hfn (by kernel_rfl) (tb:=4) (by kernel_rfl) Tryd.underlying4 hb⟩
theorem vQ:Rows.CpsConvertsUptoSaid :=
  OpenClaim.holds_of_cond 3 Tryd.f3 rfl rfl rfl rfl rfl rfl rfl ⟨rfl, rfl, rfl, rfl, rfl⟩ rfl rfl rfl rfl rfl (by kernel_rfl) Tryd.func3 (by kernel_rfl)
    (of_decide_eq_true (by kernel_rfl)) (by unfold Func.isWrapper; first|(rw[if_pos (by decide +kernel)]; kernel_rfl)|(rw[if_neg (by decide +kernel)]; exact⟨rfl, rfl⟩))
    (fun os started H enc _ F=>by rw[OpenClaim.pre_eq_preRow]; exact bCb os started H enc F)
theorem cpsConverts_card:Rows.CpsConvertsUptoCardSaid :=
  Claim7.holds_tied_plain_at .later [] [.data, .pinned] true (true, "ff8c4e89e93d70bd0855bacb9ebdac42d33cb8d20347f4f0b23879833d55edf3") false
    vQ (fun _ h=>by cases h) (by kernel_rfl) (fun _ h=>by cases h) cpsConvertsUpto_row_tie rfl ⟨rfl, rfl⟩ (by kernel_rfl) rfl
    (fun f fn hf hfn=>by
      obtain rfl : f = 3 := Option.some.inj ((show Tryd.prog.funcNamed "pennant/pennantlaw16.CpsConverts" = some 3 by kernel_rfl).symm.trans hf) |>.symm
      obtain rfl:fn=Tryd.f3:=(Option.some.inj (Tryd.func3.symm.trans hfn)).symm
      exact⟨by kernel_rfl, fun j t ht=>aO4 (P:=Tryd.prog) (q:=Tryd.prog.wantsStandIn) (by kernel_rfl) j t ht⟩)
    (by kernel_rfl)
end Go.Proofs.YtageemgcnoblnaaDoor
#print axioms Go.Proofs.YtageemgcnoblnaaDoor.cpsConverts_card
