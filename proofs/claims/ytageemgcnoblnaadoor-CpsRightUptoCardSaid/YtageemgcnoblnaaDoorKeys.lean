/- rising: a primitive: the keys of a map, rising. By program. Condition: none. -/
import Derived.Test.YtageemgcnoblnaaDoorRows
import Derived.Test.YtageemgcnoblnaaDoorTmF
import Derived.Shelf.SlIterI.Nil
import Derived.Shelf.SortM.Plain
import Derived.Shelf.SortM.SortNone
import Derived.Ground.GgzProg
import Derived.Ground.SlgmProg
set_option maxRecDepth 100000
namespace Go.Proofs.YtageemgcnoblnaaDoor
open Go Go.TM Go.Shelf Go.RowKit Go.Maps Go.Sort
def Tryd.keysA_ren:Go.Shelf.Ren:=⟨fun|7=>69|10=>95|n=>n,fun|23=>86|26=>3|3=>98|28=>128|0=>0|27=>127|33=>94|4=>4|n=>n,fun|n=>n⟩
theorem Tryd.keysA:Go.Proofs.SlLaysZI.n7 Tryd.prog Tryd.keysA_ren:={
 mixed:=by kernel_rfl
 f7:=⟨Tryd.f69.name,by decide,Tryd.func69.trans (congrArg some (by kernel_rfl))⟩
 f10:=⟨Tryd.f95.name,by decide,Tryd.func95.trans (congrArg some (by kernel_rfl))⟩
 t0:=Tryd.underlying0
 a0:=Tryd.isAgg0
 z0:=Tryd.sizeOf0
 v0:=Tryd.zeroValue0
 t4:=Tryd.underlying4
 a4:=Tryd.isAgg4
 z4:=Tryd.sizeOf4
 v4:=Tryd.zeroValue4
 t23:=Tryd.underlying86
 a23:=Tryd.isAgg86
 z23:=Tryd.sizeOf86
 v23:=Tryd.zeroValue86
 t26:=Tryd.underlying3
 a26:=Tryd.isAgg3
 z26:=Tryd.sizeOf3
 v26:=Tryd.zeroValue3
 t27:=Tryd.underlying127
 a27:=Tryd.isAgg127
 z27:=Tryd.sizeOf127
 v27:=Tryd.zeroValue127
 t28:=Tryd.underlying128
 a28:=Tryd.isAgg128
 z28:=Tryd.sizeOf128
 v28:=Tryd.zeroValue128
 t33:=Tryd.underlying94
 a33:=Tryd.isAgg94
 z33:=Tryd.sizeOf94
 v33:=Tryd.zeroValue94}
def Tryd.sortedA_ren:Go.Shelf.Ren:=⟨fun|6=>68|8=>93|9=>94|11=>107|13=>109|12=>108|23=>124|24=>125|14=>115|15=>116|16=>117|17=>118|18=>119|19=>120|20=>121|21=>122|22=>123|25=>131|26=>132|27=>133|28=>134|29=>135|30=>136|31=>137|n=>n,fun|26=>3|28=>128|24=>22|0=>0|3=>3|37=>177|48=>194|50=>196|4=>4|40=>187|39=>186|45=>191|5=>5|9=>9|51=>201|55=>205|57=>211|58=>135|33=>94|n=>n,fun|n=>n⟩
theorem Tryd.sortedA:Go.Proofs.SlLaysZI.n6 Tryd.prog Tryd.sortedA_ren:={
 mixed:=by kernel_rfl
 f6:=⟨Tryd.f68.name,by decide,Tryd.func68.trans (congrArg some (by kernel_rfl))⟩
 f8:=⟨Tryd.f93.name,by decide,Tryd.func93.trans (congrArg some (by kernel_rfl))⟩
 f11:=⟨Tryd.f107.name,by decide,Tryd.func107.trans (congrArg some (by kernel_rfl))⟩
 t0:=Tryd.underlying0
 a0:=Tryd.isAgg0
 z0:=Tryd.sizeOf0
 v0:=Tryd.zeroValue0
 t24:=Tryd.underlying22
 a24:=Tryd.isAgg22
 z24:=Tryd.sizeOf22
 v24:=Tryd.zeroValue22
 t26:=Tryd.underlying3
 a26:=Tryd.isAgg3
 z26:=Tryd.sizeOf3
 v26:=Tryd.zeroValue3
 t28:=Tryd.underlying128
 a28:=Tryd.isAgg128
 z28:=Tryd.sizeOf128
 v28:=Tryd.zeroValue128
 i26:=by kernel_rfl}
def Tryd.sortA_ren:Go.Shelf.Ren:=⟨fun|5=>94|8=>109|7=>108|19=>124|20=>125|10=>115|11=>116|12=>117|13=>118|14=>119|15=>120|16=>121|17=>122|18=>123|30=>131|31=>132|32=>133|33=>134|34=>135|35=>136|40=>137|n=>n,fun|23=>22|25=>3|3=>3|32=>177|22=>22|0=>0|44=>194|46=>196|4=>4|36=>187|35=>186|41=>191|5=>5|9=>9|53=>201|57=>205|63=>211|64=>135|n=>n,fun|n=>n⟩
theorem Tryd.sortA:Go.Proofs.SlLaysM.n5 Tryd.prog Tryd.sortA_ren:={
 mixed:=by kernel_rfl
 f5:=⟨Tryd.f94.name,by decide,Tryd.func94.trans (congrArg some (by kernel_rfl))⟩
 f7:=⟨Tryd.f108.name,by decide,Tryd.func108.trans (congrArg some (by kernel_rfl))⟩
 f8:=Tryd.func109.trans (congrArg some (by kernel_rfl))
 f10:=⟨Tryd.f115.name,by decide,Tryd.func115.trans (congrArg some (by kernel_rfl))⟩
 f11:=⟨Tryd.f116.name,by decide,Tryd.func116.trans (congrArg some (by kernel_rfl))⟩
 f12:=⟨Tryd.f117.name,by decide,Tryd.func117.trans (congrArg some (by kernel_rfl))⟩
 f13:=⟨Tryd.f118.name,by decide,Tryd.func118.trans (congrArg some (by kernel_rfl))⟩
 f14:=⟨Tryd.f119.name,by decide,Tryd.func119.trans (congrArg some (by kernel_rfl))⟩
 f15:=⟨Tryd.f120.name,by decide,Tryd.func120.trans (congrArg some (by kernel_rfl))⟩
 f16:=⟨Tryd.f121.name,by decide,Tryd.func121.trans (congrArg some (by kernel_rfl))⟩
 f17:=⟨Tryd.f122.name,by decide,Tryd.func122.trans (congrArg some (by kernel_rfl))⟩
 f18:=⟨Tryd.f123.name,by decide,Tryd.func123.trans (congrArg some (by kernel_rfl))⟩
 f19:=Tryd.func124.trans (congrArg some (by kernel_rfl))
 f20:=Tryd.func125.trans (congrArg some (by kernel_rfl))
 f30:=⟨Tryd.f131.name,by decide,Tryd.func131.trans (congrArg some (by kernel_rfl))⟩
 f31:=Tryd.func132.trans (congrArg some (by kernel_rfl))
 f32:=Tryd.func133.trans (congrArg some (by kernel_rfl))
 f33:=⟨Tryd.f134.name,by decide,Tryd.func134.trans (congrArg some (by kernel_rfl))⟩
 f34:=⟨Tryd.f135.name,by decide,Tryd.func135.trans (congrArg some (by kernel_rfl))⟩
 f35:=⟨Tryd.f136.name,by decide,Tryd.func136.trans (congrArg some (by kernel_rfl))⟩
 f40:=⟨Tryd.f137.name,by decide,Tryd.func137.trans (congrArg some (by kernel_rfl))⟩
 t0:=Tryd.underlying0
 a0:=Tryd.isAgg0
 z0:=Tryd.sizeOf0
 v0:=Tryd.zeroValue0
 t3:=Tryd.underlying3
 a3:=Tryd.isAgg3
 z3:=Tryd.sizeOf3
 v3:=Tryd.zeroValue3
 t4:=Tryd.underlying4
 a4:=Tryd.isAgg4
 z4:=Tryd.sizeOf4
 v4:=Tryd.zeroValue4
 t5:=Tryd.underlying5
 a5:=Tryd.isAgg5
 z5:=Tryd.sizeOf5
 v5:=Tryd.zeroValue5
 t9:=Tryd.underlying9
 a9:=Tryd.isAgg9
 z9:=Tryd.sizeOf9
 v9:=Tryd.zeroValue9
 t22:=Tryd.underlying22
 a22:=Tryd.isAgg22
 z22:=Tryd.sizeOf22
 v22:=Tryd.zeroValue22
 t23:=Tryd.underlying22
 a23:=Tryd.isAgg22
 z23:=Tryd.sizeOf22
 v23:=Tryd.zeroValue22
 t25:=Tryd.underlying3
 a25:=Tryd.isAgg3
 z25:=Tryd.sizeOf3
 v25:=Tryd.zeroValue3
 t32:=Tryd.underlying177
 a32:=Tryd.isAgg177
 z32:=Tryd.sizeOf177
 v32:=Tryd.zeroValue177
 t35:=Tryd.underlying186
 a35:=Tryd.isAgg186
 z35:=Tryd.sizeOf186
 v35:=Tryd.zeroValue186
 t36:=Tryd.underlying187
 a36:=Tryd.isAgg187
 z36:=Tryd.sizeOf187
 v36:=Tryd.zeroValue187
 t41:=Tryd.underlying191
 a41:=Tryd.isAgg191
 z41:=Tryd.sizeOf191
 v41:=Tryd.zeroValue191
 t44:=Tryd.underlying194
 a44:=Tryd.isAgg194
 z44:=Tryd.sizeOf194
 v44:=Tryd.zeroValue194
 t46:=Tryd.underlying196
 a46:=Tryd.isAgg196
 z46:=Tryd.sizeOf196
 v46:=Tryd.zeroValue196
 t53:=Tryd.underlying201
 a53:=Tryd.isAgg201
 z53:=Tryd.sizeOf201
 v53:=Tryd.zeroValue201
 t57:=Tryd.underlying205
 a57:=Tryd.isAgg205
 z57:=Tryd.sizeOf205
 v57:=Tryd.zeroValue205
 t63:=Tryd.underlying211
 a63:=Tryd.isAgg211
 z63:=Tryd.sizeOf211
 v63:=Tryd.zeroValue211
 t64:=Tryd.underlying135
 a64:=Tryd.isAgg135
 z64:=Tryd.sizeOf135
 v64:=Tryd.zeroValue135}
theorem bE0 (m:Nat):AnyZI.SortsIn Tryd.prog Tryd.sortedA_ren Fence.wide m :=
  ⟨fun blk off cap ss W hH hblk hsz=>callsIn_wide.2 (AnyM.slices_Sort_int Tryd.sortA blk off cap ss W hH hblk hsz),
   fun p cap W=>callsIn_wide.2 (AnyM.slices_Sort_int_none Tryd.sortA p cap W)⟩
set_option maxHeartbeats 1000000 in
theorem aGa {H:Type}(b nn:Nat)(D0:DataW H)(R:Value→Option (DataW H×List MemPlace))(w:World)(hown:w.ownsMap Tryd.prog 3 R b nn D0)(hmax:Maps.size D0≤maxLen)(hbytes:Maps.size D0*8≤140737488355328) :
  Calls Tryd.prog 42 #[.map (some b)] w fun e w'=>∃(v:Value) (ss:List Int),e=.returned v∧ss.Perm (intKeys D0) ∧
   w'.ownsRow w.heap.size 3 1 v ss.length ((ss.mergeSort (fun x y=>decide (x≤y))).map encZ)∧(v=.slice none 0 0↔ss=[])∧Below w.heap.size w w':=by
 refine (callsIn_wide (n:=6)).1 ?_
 have hbl:=hown.lt
 have hseq:SeqGives Fence.wide 2 Tryd.prog 95 #[.pointer (some ⟨w.heap.size,0,none⟩)] encZ (fun ss=>ss.Perm (intKeys D0)) (Maps.size D0) (w.alloc (.cells #[.map (some b)] 86)) :=
  AnyZI.keys_gives (ρ:=Tryd.keysA_ren) {Tryd.keysA with} Fence.wide _ trivial rfl (by omega) w.heap.size b nn D0 _ (by simp) (by simp) (by
   obtain⟨es,clock,hb,Ft,hs,hD⟩:=hown
   exact⟨es,clock,(Below.heap_alloc _ _ b hbl).trans hb,Ft,hs,hD⟩)
 have cK:∀mb W,CallsIn Fence.wide 5 Tryd.prog 69 #[.map mb] W fun e w'=>e=.returned (.func (.func 95) #[] #[.pointer (some ⟨W.heap.size,0,none⟩)])∧w'=W.alloc (.cells #[.map mb] 86):=fun mb W=>AnyZI.keys_in Tryd.keysA Fence.wide 5 trivial rfl mb W
 have cS:=AnyZI.sorted_in Tryd.sortedA Fence.wide 5 trivial trivial trivial trivial rfl (by omega) (bE0 _) (enters_of Tryd.func94 (by kernel_rfl) rfl) 95 #[.pointer (some ⟨w.heap.size,0,none⟩)] trivial (enters_of Tryd.func95 (by kernel_rfl) rfl) _ _ hmax hbytes _ hseq
 change CallsIn _ _ Tryd.prog 68 _ _ _ at cS
 have hfK:Fence.wide.fn 69:=trivial
 have hfS:Fence.wide.fn 68:=trivial
 refine callsIn_of_wp Tryd.func42 rfl trivial ?_ rfl
 simp only[Tryd.ntmps42,List.size_toArray,List.length_cons,List.length_nil,Nat.reduceAdd,Nat.reduceSub,Array.replicate_succ,Array.replicate_zero,List.push_toArray,List.append_toArray,List.nil_append,List.cons_append]
 gi_wp2_with (first
  | (gi_at_call 69; refine (cK _ _).mono ?_; rintro e w' ⟨rfl,rfl⟩)
  | (gi_at_call 68; refine cS.mono ?_; rintro e w' ⟨v,ss,rfl,hS,hrow,hnil,hb⟩))
 go_ret
 exact⟨v,ss,rfl,hS,ownsRow_base_a hrow (by simp),hnil,((Below.refl _ w).alloc (Nat.le_refl _) _).trans (hb.mono (by simp))⟩
theorem bE1 (O:dB)(K:TM.bI):sV Tryd.prog O K 42 jF:=aIs (k:=3) Tryd.func42 rfl (by decide) Tryd.underlying3 (fun b nn D0 R w h1 h2 h3=>aGa b nn D0 R w h1 h2 h3)
end Go.Proofs.YtageemgcnoblnaaDoor
