/- slices.SortFunc of pairs of whole numbers, compared by graph.compare: a primitive. Condition: none. -/
import Derived.Test.YtmlhjdekfihdnaaGreatDoorRows
import Derived.Test.YtmlhjdekfihdnaaGreatDoorTmF
import Derived.Shelf.SlSortCmp.NoneTotal
import Derived.Shelf.SlicesG.Cmp
import Derived.StillTailTactics
import Derived.Ground.SlsfProg
import Derived.Ground.SlgcProg
set_option maxRecDepth 100000
namespace Go.Proofs.YtmlhjdekfihdnaaGreatDoor
open Go Go.TM Go.Shelf Go.RowKit Go.Lib Go.Sort
def Tryz.sortQ_ren:Go.Shelf.Ren:=⟨fun|6=>64|15=>82|14=>84|28=>99|29=>100|20=>101|21=>102|22=>103|23=>104|24=>105|25=>106|26=>107|27=>108|46=>119|47=>115|48=>116|49=>120|50=>121|57=>132|n=>n, fun|22=>29|24=>41|25=>82|3=>3|39=>125|0=>0|53=>138|55=>117|4=>4|46=>132|45=>131|50=>88|5=>5|9=>9|66=>151|70=>155|76=>167|77=>168|n=>n, fun|n=>n⟩
theorem Tryz.sortQ:Go.Proofs.SlLaysF0.n6 Tryz.prog Tryz.sortQ_ren:={
  mixed:=by kernel_rfl
  f6:=⟨Tryz.f64.name, by decide, Tryz.func64.trans (congrArg some (by kernel_rfl))⟩
  f14:=⟨Tryz.f84.name, by decide, Tryz.func84.trans (congrArg some (by kernel_rfl))⟩
  f15:=Tryz.func82.trans (congrArg some (by kernel_rfl))
  f20:=⟨Tryz.f101.name, by decide, Tryz.func101.trans (congrArg some (by kernel_rfl))⟩
  f21:=⟨Tryz.f102.name, by decide, Tryz.func102.trans (congrArg some (by kernel_rfl))⟩
  f22:=⟨Tryz.f103.name, by decide, Tryz.func103.trans (congrArg some (by kernel_rfl))⟩
  f23:=⟨Tryz.f104.name, by decide, Tryz.func104.trans (congrArg some (by kernel_rfl))⟩
  f24:=⟨Tryz.f105.name, by decide, Tryz.func105.trans (congrArg some (by kernel_rfl))⟩
  f25:=⟨Tryz.f106.name, by decide, Tryz.func106.trans (congrArg some (by kernel_rfl))⟩
  f26:=⟨Tryz.f107.name, by decide, Tryz.func107.trans (congrArg some (by kernel_rfl))⟩
  f27:=⟨Tryz.f108.name, by decide, Tryz.func108.trans (congrArg some (by kernel_rfl))⟩
  f28:=Tryz.func99.trans (congrArg some (by kernel_rfl))
  f29:=Tryz.func100.trans (congrArg some (by kernel_rfl))
  f46:=⟨Tryz.f119.name, by decide, Tryz.func119.trans (congrArg some (by kernel_rfl))⟩
  f47:=Tryz.func115.trans (congrArg some (by kernel_rfl))
  f48:=Tryz.func116.trans (congrArg some (by kernel_rfl))
  f49:=⟨Tryz.f120.name, by decide, Tryz.func120.trans (congrArg some (by kernel_rfl))⟩
  f50:=⟨Tryz.f121.name, by decide, Tryz.func121.trans (congrArg some (by kernel_rfl))⟩
  f57:=⟨Tryz.f132.name, by decide, Tryz.func132.trans (congrArg some (by kernel_rfl))⟩
  t0:=Tryz.underlying0
  a0:=Tryz.isAgg0
  z0:=Tryz.sizeOf0
  v0:=Tryz.zeroValue0
  t3:=Tryz.underlying3
  a3:=Tryz.isAgg3
  z3:=Tryz.sizeOf3
  v3:=Tryz.zeroValue3
  t4:=Tryz.underlying4
  a4:=Tryz.isAgg4
  z4:=Tryz.sizeOf4
  v4:=Tryz.zeroValue4
  t5:=Tryz.underlying5
  a5:=Tryz.isAgg5
  z5:=Tryz.sizeOf5
  v5:=Tryz.zeroValue5
  t9:=Tryz.underlying9
  a9:=Tryz.isAgg9
  z9:=Tryz.sizeOf9
  v9:=Tryz.zeroValue9
  t22:=Tryz.underlying29
  a22:=Tryz.isAgg29
  z22:=Tryz.sizeOf29
  v22:=Tryz.zeroValue29
  t25:=Tryz.underlying82
  a25:=Tryz.isAgg82
  z25:=Tryz.sizeOf82
  v25:=Tryz.zeroValue82
  t39:=Tryz.underlying125
  a39:=Tryz.isAgg125
  z39:=Tryz.sizeOf125
  v39:=Tryz.zeroValue125
  t45:=Tryz.underlying131
  a45:=Tryz.isAgg131
  z45:=Tryz.sizeOf131
  v45:=Tryz.zeroValue131
  t46:=Tryz.underlying132
  a46:=Tryz.isAgg132
  z46:=Tryz.sizeOf132
  v46:=Tryz.zeroValue132
  t50:=Tryz.underlying88
  a50:=Tryz.isAgg88
  z50:=Tryz.sizeOf88
  v50:=Tryz.zeroValue88
  t53:=Tryz.underlying138
  a53:=Tryz.isAgg138
  z53:=Tryz.sizeOf138
  v53:=Tryz.zeroValue138
  t55:=Tryz.underlying117
  a55:=Tryz.isAgg117
  z55:=Tryz.sizeOf117
  v55:=Tryz.zeroValue117
  t66:=Tryz.underlying151
  a66:=Tryz.isAgg151
  z66:=Tryz.sizeOf151
  v66:=Tryz.zeroValue151
  t70:=Tryz.underlying155
  a70:=Tryz.isAgg155
  z70:=Tryz.sizeOf155
  v70:=Tryz.zeroValue155
  t76:=Tryz.underlying167
  a76:=Tryz.isAgg167
  z76:=Tryz.sizeOf167
  v76:=Tryz.zeroValue167
  t77:=Tryz.underlying168
  a77:=Tryz.isAgg168
  z77:=Tryz.sizeOf168
  v77:=Tryz.zeroValue168}
def Tryz.cmpQ_ren:Go.Shelf.Ren:=⟨fun|5=>50|7=>72|n=>n, fun|22=>3|3=>3|4=>4|n=>n, fun|n=>n⟩
theorem Tryz.cmpQ:Go.Proofs.SlLaysC2.n5 Tryz.prog Tryz.cmpQ_ren:={
  mixed:=by kernel_rfl
  f5:=⟨Tryz.f50.name, by decide, Tryz.func50.trans (congrArg some (by kernel_rfl))⟩
  f7:=⟨Tryz.f72.name, by decide, Tryz.func72.trans (congrArg some (by kernel_rfl))⟩
  t3:=Tryz.underlying3
  a3:=Tryz.isAgg3
  z3:=Tryz.sizeOf3
  v3:=Tryz.zeroValue3
  t4:=Tryz.underlying4
  a4:=Tryz.isAgg4
  z4:=Tryz.sizeOf4
  v4:=Tryz.zeroValue4
  t22:=Tryz.underlying3
  a22:=Tryz.isAgg3
  z22:=Tryz.sizeOf3
  v22:=Tryz.zeroValue3}
set_option maxHeartbeats 4000000 in
theorem aWc (x y:Int)(b:Nat)(W:World)(h0:W.cell? ⟨b, 0, none⟩=some (.int .i64 x))(h1:W.cell? ⟨b, 1, none⟩=some (.int .i64 y)) :
    Calls Tryz.prog 66 #[.slice (some ⟨b, 0, none⟩) 2 2] W fun e w'=>e=.returned (.int .i64 (if x≠0 then x else y))∧w'=W:=by
  by_cases hx:x=0
  · subst hx
    by_cases hy:y=0
    · subst hy
      go_enter Tryz.func66, Tryz.ntmps66
      go_wp2
      refine wp_loop_rounds 3 ?_
      rw[rounds_succ]
      go_wp2
      rw[rounds_succ]
      go_wp2
      rw[rounds_succ]
      go_wp2
      go_ret
      exact⟨rfl, rfl⟩
    · go_enter Tryz.func66, Tryz.ntmps66
      go_wp2
      refine wp_loop_rounds 3 ?_
      rw[rounds_succ]
      go_wp2
      rw[rounds_succ]
      go_wp2
      go_ret
      exact⟨rfl, rfl⟩
  · go_enter Tryz.func66, Tryz.ntmps66
    go_wp2
    refine wp_loop_rounds 3 ?_
    rw[rounds_succ]
    go_wp2
    go_ret
    exact⟨by simp, rfl⟩
set_option maxHeartbeats 4000000 in
theorem aB5 (x y:Int×Int)(W:World):Calls Tryz.prog 33 #[.agg #[.int .i64 x.1, .int .i64 x.2], .agg #[.int .i64 y.1, .int .i64 y.2]] W fun e w'=>e=.returned (.int .i64 (aCo x y))∧∃q os', w'=grow (W.drewN q) os':=by
  have hcon:=fun a b W'=>AnyG.cmp_Compare_int Tryz.cmpQ a b W'
  change ∀a b W', Calls Tryz.prog 50 _ _ _ at hcon
  have hor:=aWc
  go_enter Tryz.func33, Tryz.ntmps33
  go_wp2
  have hW:∃W1:World, W1=World.drew ((W.alloc (Obj.cells #[Value.int IntKind.i64 x.fst, Value.int IntKind.i64 x.snd] 41)).alloc (Obj.cells #[Value.int IntKind.i64 y.fst, Value.int IntKind.i64 y.snd] 41)):=⟨_, rfl⟩
  obtain⟨W1, hW⟩:=hW
  have c0:W1.cell? ⟨W.heap.size, 0, none⟩=some (.int .i64 x.1):=by rw[hW]; go_simp
  have c1:W1.cell? ⟨W.heap.size, 1, none⟩=some (.int .i64 x.2):=by rw[hW]; go_simp
  have c2:W1.cell? ⟨W.heap.size+1, 0, none⟩=some (.int .i64 y.1):=by rw[hW]; go_simp
  have c3:W1.cell? ⟨W.heap.size+1, 1, none⟩=some (.int .i64 y.2):=by rw[hW]; go_simp
  refine wp_region_still_tail 10 (by kernel_rfl) (by kernel_rfl) ?_
  simp only[List.take_succ_cons, List.take_zero, List.drop_succ_cons, List.drop_zero]
  change wpStill _ _ (World.drew ((W.alloc (Obj.cells #[Value.int IntKind.i64 x.fst, Value.int IntKind.i64 x.snd] 41)).alloc (Obj.cells #[Value.int IntKind.i64 y.fst, Value.int IntKind.i64 y.snd] 41))) _ _ _
  rw[←hW]
  still_step
  still_step
  still_step
  still_step
  still_call (hcon _ _ _)
  still_step
  still_step
  still_step
  still_step
  still_call (hcon _ _ _)
  refine wpStill_nil ?_
  change wpList _ _ _ _ _ (World.drew ((W.alloc (Obj.cells #[Value.int IntKind.i64 x.fst, Value.int IntKind.i64 x.snd] 41)).alloc (Obj.cells #[Value.int IntKind.i64 y.fst, Value.int IntKind.i64 y.snd] 41)))
  rw[←hW]
  have h66:=hor (compareInt x.1 y.1) (compareInt x.2 y.2) (W.heap.size+1+1) ((((W.alloc (Obj.cells #[Value.int IntKind.i64 x.fst, Value.int IntKind.i64 x.snd] 41)).alloc (Obj.cells #[Value.int IntKind.i64 y.fst, Value.int IntKind.i64 y.snd] 41)).alloc (Obj.cells #[Value.int IntKind.i64 (compareInt x.fst y.fst), Value.int IntKind.i64 (compareInt x.snd y.snd)] 3)).drew) (by go_simp) (by go_simp)
  go_wp2_with (first|(go_at_call 66; refine h66.mono ?_; rintro e w' ⟨rfl, rfl⟩))
  all_goals go_ret
  all_goals refine⟨?_, 1, _, by rw[alloc_eq_grow, alloc_eq_grow, alloc_eq_grow, grow_grow, grow_grow]; rfl⟩
  all_goals simp_all[aCo]
theorem aQl (blk off size:Nat)(w:World):CmpLays Tryz.prog 33 #[] xX 2 aCo blk off size w:=fun _ _ _ _ x y=>aB5 x y _
set_option maxHeartbeats 4000000 in
theorem bIi (O:cT)(K:TM.aW):oM Tryz.prog O K 64 (gF 33):=by
  refine aGm Tryz.func64 rfl (by decide) (fun p cap fv w=>AnyF.slices_SortFunc_none Tryz.sortQ p cap fv w) (fun blk off cap zs w h1 h2 h3=>?_)
  have eg:∀args w, (callFunc 33 args).run Tryz.prog w=.ok (.enter 33 args) w:=enters_of Tryz.func33 (by kernel_rfl) rfl
  have hH:HoldsK xX 2 w blk off zs.toArray:=by
    unfold HoldsK
    rw[aPv]
    exact bA7 h1
  have hcon:=AnyQ.slices_SortFunc_total Tryz.sortQ 2 Tryz.isAgg41 Tryz.sizeOf41 xX (fun _=>rfl) (fun x v hv=>by simp[xX]at hv; rcases hv with rfl|rfl<;>rfl) aCo bL1 33 #[] blk off cap zs.toArray w eg (aQl blk off _ w) hH h2 (by simpa using h3) bL2
  refine (hcon.mono ?_)
  rintro e w' ⟨rfl, n, os, rfl⟩
  refine⟨rfl, n, os, ?_⟩
  have e1:(zs.mergeSort fun x y=>!(ltOf aCo) y x)=fN zs:=by
    rw[←yJ]
    congr 1
    funext x y
    rw[ltP, Bool.not_not]
  unfold sortWorldK putRowK
  rw[show zs.toArray.toList=zs from rfl, e1, aPv, aUb]
end Go.Proofs.YtmlhjdekfihdnaaGreatDoor
