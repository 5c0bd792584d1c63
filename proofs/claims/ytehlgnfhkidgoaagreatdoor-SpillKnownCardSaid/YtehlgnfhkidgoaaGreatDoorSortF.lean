/- slices.SortFunc of pairs of whole numbers, compared by graph.compare: a primitive. Condition: none. -/
import Derived.Test.YtehlgnfhkidgoaaGreatDoorRows
import Derived.Test.YtehlgnfhkidgoaaGreatDoorTmF
import Derived.Shelf.SlSortCmp.NoneTotal
import Derived.Shelf.SlicesG.Cmp
import Derived.StillTailTactics
import Derived.Ground.SlsfProg
import Derived.Ground.SlgcProg
set_option maxRecDepth 100000
namespace Go.Proofs.YtehlgnfhkidgoaaGreatDoor
open Go Go.TM Go.Shelf Go.RowKit Go.Lib Go.Sort
def Tryz.sortQ_ren:Go.Shelf.Ren:=⟨fun|6=>115|15=>76|14=>130|28=>110|29=>111|20=>134|21=>135|22=>136|23=>137|24=>138|25=>139|26=>140|27=>141|46=>142|47=>122|48=>123|49=>143|50=>144|57=>145|n=>n, fun|22=>66|24=>97|25=>125|3=>3|39=>113|0=>0|53=>143|55=>115|4=>4|46=>137|45=>136|50=>129|5=>5|9=>9|66=>154|70=>158|76=>167|77=>168|n=>n, fun|n=>n⟩
theorem Tryz.sortQ:Go.Proofs.SlLaysF0.n6 Tryz.prog Tryz.sortQ_ren:={
  mixed:=by kernel_rfl
  f6:=⟨Tryz.f115.name, by decide, Tryz.func115.trans (congrArg some (by kernel_rfl))⟩
  f14:=⟨Tryz.f130.name, by decide, Tryz.func130.trans (congrArg some (by kernel_rfl))⟩
  f15:=Tryz.func76.trans (congrArg some (by kernel_rfl))
  f20:=⟨Tryz.f134.name, by decide, Tryz.func134.trans (congrArg some (by kernel_rfl))⟩
  f21:=⟨Tryz.f135.name, by decide, Tryz.func135.trans (congrArg some (by kernel_rfl))⟩
  f22:=⟨Tryz.f136.name, by decide, Tryz.func136.trans (congrArg some (by kernel_rfl))⟩
  f23:=⟨Tryz.f137.name, by decide, Tryz.func137.trans (congrArg some (by kernel_rfl))⟩
  f24:=⟨Tryz.f138.name, by decide, Tryz.func138.trans (congrArg some (by kernel_rfl))⟩
  f25:=⟨Tryz.f139.name, by decide, Tryz.func139.trans (congrArg some (by kernel_rfl))⟩
  f26:=⟨Tryz.f140.name, by decide, Tryz.func140.trans (congrArg some (by kernel_rfl))⟩
  f27:=⟨Tryz.f141.name, by decide, Tryz.func141.trans (congrArg some (by kernel_rfl))⟩
  f28:=Tryz.func110.trans (congrArg some (by kernel_rfl))
  f29:=Tryz.func111.trans (congrArg some (by kernel_rfl))
  f46:=⟨Tryz.f142.name, by decide, Tryz.func142.trans (congrArg some (by kernel_rfl))⟩
  f47:=Tryz.func122.trans (congrArg some (by kernel_rfl))
  f48:=Tryz.func123.trans (congrArg some (by kernel_rfl))
  f49:=⟨Tryz.f143.name, by decide, Tryz.func143.trans (congrArg some (by kernel_rfl))⟩
  f50:=⟨Tryz.f144.name, by decide, Tryz.func144.trans (congrArg some (by kernel_rfl))⟩
  f57:=⟨Tryz.f145.name, by decide, Tryz.func145.trans (congrArg some (by kernel_rfl))⟩
  t0:=Tryz.underlying0
  a0:=Tryz.isAgg0
  z0:=Tryz.sizeOf0
  v0:=Tryz.zeroValue0
  t3:=Tryz.underlying3
  a3:=Tryz.isAgg3
  z3:=Tryz.sizeOf3
  v3:=Tryz.zeroValue3
  t4:=Tryz.underlying4
  a4:=Tryz.isAgg4
  z4:=Tryz.sizeOf4
  v4:=Tryz.zeroValue4
  t5:=Tryz.underlying5
  a5:=Tryz.isAgg5
  z5:=Tryz.sizeOf5
  v5:=Tryz.zeroValue5
  t9:=Tryz.underlying9
  a9:=Tryz.isAgg9
  z9:=Tryz.sizeOf9
  v9:=Tryz.zeroValue9
  t22:=Tryz.underlying66
  a22:=Tryz.isAgg66
  z22:=Tryz.sizeOf66
  v22:=Tryz.zeroValue66
  t25:=Tryz.underlying125
  a25:=Tryz.isAgg125
  z25:=Tryz.sizeOf125
  v25:=Tryz.zeroValue125
  t39:=Tryz.underlying113
  a39:=Tryz.isAgg113
  z39:=Tryz.sizeOf113
  v39:=Tryz.zeroValue113
  t45:=Tryz.underlying136
  a45:=Tryz.isAgg136
  z45:=Tryz.sizeOf136
  v45:=Tryz.zeroValue136
  t46:=Tryz.underlying137
  a46:=Tryz.isAgg137
  z46:=Tryz.sizeOf137
  v46:=Tryz.zeroValue137
  t50:=Tryz.underlying129
  a50:=Tryz.isAgg129
  z50:=Tryz.sizeOf129
  v50:=Tryz.zeroValue129
  t53:=Tryz.underlying143
  a53:=Tryz.isAgg143
  z53:=Tryz.sizeOf143
  v53:=Tryz.zeroValue143
  t55:=Tryz.underlying115
  a55:=Tryz.isAgg115
  z55:=Tryz.sizeOf115
  v55:=Tryz.zeroValue115
  t66:=Tryz.underlying154
  a66:=Tryz.isAgg154
  z66:=Tryz.sizeOf154
  v66:=Tryz.zeroValue154
  t70:=Tryz.underlying158
  a70:=Tryz.isAgg158
  z70:=Tryz.sizeOf158
  v70:=Tryz.zeroValue158
  t76:=Tryz.underlying167
  a76:=Tryz.isAgg167
  z76:=Tryz.sizeOf167
  v76:=Tryz.zeroValue167
  t77:=Tryz.underlying168
  a77:=Tryz.isAgg168
  z77:=Tryz.sizeOf168
  v77:=Tryz.zeroValue168}
def Tryz.cmpQ_ren:Go.Shelf.Ren:=⟨fun|5=>96|7=>120|n=>n, fun|22=>3|3=>3|4=>4|n=>n, fun|n=>n⟩
theorem Tryz.cmpQ:Go.Proofs.SlLaysC2.n5 Tryz.prog Tryz.cmpQ_ren:={
  mixed:=by kernel_rfl
  f5:=⟨Tryz.f96.name, by decide, Tryz.func96.trans (congrArg some (by kernel_rfl))⟩
  f7:=⟨Tryz.f120.name, by decide, Tryz.func120.trans (congrArg some (by kernel_rfl))⟩
  t3:=Tryz.underlying3
  a3:=Tryz.isAgg3
  z3:=Tryz.sizeOf3
  v3:=Tryz.zeroValue3
  t4:=Tryz.underlying4
  a4:=Tryz.isAgg4
  z4:=Tryz.sizeOf4
  v4:=Tryz.zeroValue4
  t22:=Tryz.underlying3
  a22:=Tryz.isAgg3
  z22:=Tryz.sizeOf3
  v22:=Tryz.zeroValue3}
set_option maxHeartbeats 4000000 in
theorem bE1 (x y:Int)(b:Nat)(W:World)(h0:W.cell? ⟨b, 0, none⟩=some (.int .i64 x))(h1:W.cell? ⟨b, 1, none⟩=some (.int .i64 y)) :
    Calls Tryz.prog 117 #[.slice (some ⟨b, 0, none⟩) 2 2] W fun e w'=>e=.returned (.int .i64 (if x≠0 then x else y))∧w'=W:=by
  by_cases hx:x=0
  · subst hx
    by_cases hy:y=0
    · subst hy
      go_enter Tryz.func117, Tryz.ntmps117
      go_wp2
      refine wp_loop_rounds 3 ?_
      rw[rounds_succ]
      go_wp2
      rw[rounds_succ]
      go_wp2
      rw[rounds_succ]
      go_wp2
      go_ret
      exact⟨rfl, rfl⟩
    · go_enter Tryz.func117, Tryz.ntmps117
      go_wp2
      refine wp_loop_rounds 3 ?_
      rw[rounds_succ]
      go_wp2
      rw[rounds_succ]
      go_wp2
      go_ret
      exact⟨rfl, rfl⟩
  · go_enter Tryz.func117, Tryz.ntmps117
    go_wp2
    refine wp_loop_rounds 3 ?_
    rw[rounds_succ]
    go_wp2
    go_ret
    exact⟨by simp[hx], rfl⟩
set_option maxHeartbeats 4000000 in
theorem aF8 (x y:Int×Int)(W:World):Calls Tryz.prog 84 #[.agg #[.int .i64 x.1, .int .i64 x.2], .agg #[.int .i64 y.1, .int .i64 y.2]] W fun e w'=>e=.returned (.int .i64 (aGs x y))∧∃q os', w'=grow (W.drewN q) os':=by
  have hcon:=fun a b W'=>AnyG.cmp_Compare_int Tryz.cmpQ a b W'
  change ∀a b W', Calls Tryz.prog 96 _ _ _ at hcon
  have hor:=bE1
  go_enter Tryz.func84, Tryz.ntmps84
  go_wp2
  have hW:∃W1:World, W1=World.drew ((W.alloc (Obj.cells #[Value.int IntKind.i64 x.fst, Value.int IntKind.i64 x.snd] 97)).alloc (Obj.cells #[Value.int IntKind.i64 y.fst, Value.int IntKind.i64 y.snd] 97)):=⟨_, rfl⟩
  obtain⟨W1, hW⟩:=hW
  have c0:W1.cell? ⟨W.heap.size, 0, none⟩=some (.int .i64 x.1):=by rw[hW]; go_simp
  have c1:W1.cell? ⟨W.heap.size, 1, none⟩=some (.int .i64 x.2):=by rw[hW]; go_simp
  have c2:W1.cell? ⟨W.heap.size+1, 0, none⟩=some (.int .i64 y.1):=by rw[hW]; go_simp
  have c3:W1.cell? ⟨W.heap.size+1, 1, none⟩=some (.int .i64 y.2):=by rw[hW]; go_simp
  refine wp_region_still_tail 10 (by kernel_rfl) (by kernel_rfl) ?_
  simp only[List.take_succ_cons, List.take_zero, List.drop_succ_cons, List.drop_zero]
  change wpStill _ _ (World.drew ((W.alloc (Obj.cells #[Value.int IntKind.i64 x.fst, Value.int IntKind.i64 x.snd] 97)).alloc (Obj.cells #[Value.int IntKind.i64 y.fst, Value.int IntKind.i64 y.snd] 97))) _ _ _
  rw[←hW]
  still_step
  still_step
  still_step
  still_step
  still_call (hcon _ _ _)
  still_step
  still_step
  still_step
  still_step
  still_call (hcon _ _ _)
  refine wpStill_nil ?_
  change wpList _ _ _ _ _ (World.drew ((W.alloc (Obj.cells #[Value.int IntKind.i64 x.fst, Value.int IntKind.i64 x.snd] 97)).alloc (Obj.cells #[Value.int IntKind.i64 y.fst, Value.int IntKind.i64 y.snd] 97)))
  rw[←hW]
  have h66:=hor (compareInt x.1 y.1) (compareInt x.2 y.2) (W.heap.size+1+1) ((((W.alloc (Obj.cells #[Value.int IntKind.i64 x.fst, Value.int IntKind.i64 x.snd] 97)).alloc (Obj.cells #[Value.int IntKind.i64 y.fst, Value.int IntKind.i64 y.snd] 97)).alloc (Obj.cells #[Value.int IntKind.i64 (compareInt x.fst y.fst), Value.int IntKind.i64 (compareInt x.snd y.snd)] 3)).drew) (by go_simp) (by go_simp)
  go_wp2_with (first|(go_at_call 117; refine h66.mono ?_; rintro e w' ⟨rfl, rfl⟩))
  all_goals go_ret
  all_goals refine⟨?_, 1, _, by rw[alloc_eq_grow, alloc_eq_grow, alloc_eq_grow, grow_grow, grow_grow]; rfl⟩
  all_goals simp_all[aGs]
theorem aXy (blk off size:Nat)(w:World):CmpLays Tryz.prog 84 #[] aBy 2 aGs blk off size w:=fun _ _ _ _ x y=>aF8 x y _
set_option maxHeartbeats 4000000 in
theorem bMm (O:dE)(K:TM.bD):rP Tryz.prog O K 115 (iP 84):=by
  refine aLo Tryz.func115 rfl (by decide) (fun p cap fv w=>AnyF.slices_SortFunc_none Tryz.sortQ p cap fv w) (fun blk off cap zs w h1 h2 h3=>?_)
  have eg:∀args w, (callFunc 84 args).run Tryz.prog w=.ok (.enter 84 args) w:=enters_of Tryz.func84 (by kernel_rfl) rfl
  have hH:HoldsK aBy 2 w blk off zs.toArray:=by
    unfold HoldsK
    rw[aWl]
    exact bJj h1
  have hcon:=AnyQ.slices_SortFunc_total Tryz.sortQ 2 Tryz.isAgg97 Tryz.sizeOf97 aBy (fun _=>rfl) (fun x v hv=>by simp[aBy]at hv; rcases hv with rfl|rfl<;>rfl) aGs bW3 84 #[] blk off cap zs.toArray w eg (aXy blk off _ w) hH h2 (by simpa using h3) bW4
  refine (hcon.mono ?_)
  rintro e w' ⟨rfl, n, os, rfl⟩
  refine⟨rfl, n, os, ?_⟩
  have e1:(zs.mergeSort fun x y=>!(ltOf aGs) y x)=gR zs:=by
    rw[←aCc]
    congr 1
    funext x y
    rw[ltP, Bool.not_not]
  unfold sortWorldK putRowK
  rw[show zs.toArray.toList=zs from rfl, e1, aWl, bBq]
end Go.Proofs.YtehlgnfhkidgoaaGreatDoor
