/- slices.Sort of whole numbers: a primitive. By program. Condition: none. -/
import Derived.Test.YtehlgnfhkidgoaaGreatDoorRows
import Derived.Test.YtehlgnfhkidgoaaGreatDoorTmF
import Derived.Ground.SlgmProg
set_option maxRecDepth 100000
namespace Go.Proofs.YtehlgnfhkidgoaaGreatDoor
open Go Go.TM Go.Shelf Go.RowKit Go.Maps Go.Sort
def Tryz.sortA_ren:Go.Shelf.Ren:=⟨fun|5=>46|8=>76|7=>75|19=>110|20=>111|10=>101|11=>102|12=>103|13=>104|14=>105|15=>106|16=>107|17=>108|18=>109|30=>121|31=>122|32=>123|33=>124|34=>125|35=>120|40=>131|n=>n,fun|23=>26|25=>3|3=>3|32=>113|22=>26|0=>0|44=>143|46=>115|4=>4|36=>137|35=>136|41=>129|5=>5|9=>9|53=>154|57=>158|63=>167|64=>168|n=>n,fun|n=>n⟩
theorem Tryz.sortA:Go.Proofs.SlLaysM.n5 Tryz.prog Tryz.sortA_ren:={
 mixed:=by kernel_rfl
 f5:=⟨Tryz.f46.name,by decide,Tryz.func46.trans (congrArg some (by kernel_rfl))⟩
 f7:=⟨Tryz.f75.name,by decide,Tryz.func75.trans (congrArg some (by kernel_rfl))⟩
 f8:=Tryz.func76.trans (congrArg some (by kernel_rfl))
 f10:=⟨Tryz.f101.name,by decide,Tryz.func101.trans (congrArg some (by kernel_rfl))⟩
 f11:=⟨Tryz.f102.name,by decide,Tryz.func102.trans (congrArg some (by kernel_rfl))⟩
 f12:=⟨Tryz.f103.name,by decide,Tryz.func103.trans (congrArg some (by kernel_rfl))⟩
 f13:=⟨Tryz.f104.name,by decide,Tryz.func104.trans (congrArg some (by kernel_rfl))⟩
 f14:=⟨Tryz.f105.name,by decide,Tryz.func105.trans (congrArg some (by kernel_rfl))⟩
 f15:=⟨Tryz.f106.name,by decide,Tryz.func106.trans (congrArg some (by kernel_rfl))⟩
 f16:=⟨Tryz.f107.name,by decide,Tryz.func107.trans (congrArg some (by kernel_rfl))⟩
 f17:=⟨Tryz.f108.name,by decide,Tryz.func108.trans (congrArg some (by kernel_rfl))⟩
 f18:=⟨Tryz.f109.name,by decide,Tryz.func109.trans (congrArg some (by kernel_rfl))⟩
 f19:=Tryz.func110.trans (congrArg some (by kernel_rfl))
 f20:=Tryz.func111.trans (congrArg some (by kernel_rfl))
 f30:=⟨Tryz.f121.name,by decide,Tryz.func121.trans (congrArg some (by kernel_rfl))⟩
 f31:=Tryz.func122.trans (congrArg some (by kernel_rfl))
 f32:=Tryz.func123.trans (congrArg some (by kernel_rfl))
 f33:=⟨Tryz.f124.name,by decide,Tryz.func124.trans (congrArg some (by kernel_rfl))⟩
 f34:=⟨Tryz.f125.name,by decide,Tryz.func125.trans (congrArg some (by kernel_rfl))⟩
 f35:=⟨Tryz.f120.name,by decide,Tryz.func120.trans (congrArg some (by kernel_rfl))⟩
 f40:=⟨Tryz.f131.name,by decide,Tryz.func131.trans (congrArg some (by kernel_rfl))⟩
 t0:=Tryz.underlying0
 a0:=Tryz.isAgg0
 z0:=Tryz.sizeOf0
 v0:=Tryz.zeroValue0
 t3:=Tryz.underlying3
 a3:=Tryz.isAgg3
 z3:=Tryz.sizeOf3
 v3:=Tryz.zeroValue3
 t4:=Tryz.underlying4
 a4:=Tryz.isAgg4
 z4:=Tryz.sizeOf4
 v4:=Tryz.zeroValue4
 t5:=Tryz.underlying5
 a5:=Tryz.isAgg5
 z5:=Tryz.sizeOf5
 v5:=Tryz.zeroValue5
 t9:=Tryz.underlying9
 a9:=Tryz.isAgg9
 z9:=Tryz.sizeOf9
 v9:=Tryz.zeroValue9
 t22:=Tryz.underlying26
 a22:=Tryz.isAgg26
 z22:=Tryz.sizeOf26
 v22:=Tryz.zeroValue26
 t23:=Tryz.underlying26
 a23:=Tryz.isAgg26
 z23:=Tryz.sizeOf26
 v23:=Tryz.zeroValue26
 t25:=Tryz.underlying3
 a25:=Tryz.isAgg3
 z25:=Tryz.sizeOf3
 v25:=Tryz.zeroValue3
 t32:=Tryz.underlying113
 a32:=Tryz.isAgg113
 z32:=Tryz.sizeOf113
 v32:=Tryz.zeroValue113
 t35:=Tryz.underlying136
 a35:=Tryz.isAgg136
 z35:=Tryz.sizeOf136
 v35:=Tryz.zeroValue136
 t36:=Tryz.underlying137
 a36:=Tryz.isAgg137
 z36:=Tryz.sizeOf137
 v36:=Tryz.zeroValue137
 t41:=Tryz.underlying129
 a41:=Tryz.isAgg129
 z41:=Tryz.sizeOf129
 v41:=Tryz.zeroValue129
 t44:=Tryz.underlying143
 a44:=Tryz.isAgg143
 z44:=Tryz.sizeOf143
 v44:=Tryz.zeroValue143
 t46:=Tryz.underlying115
 a46:=Tryz.isAgg115
 z46:=Tryz.sizeOf115
 v46:=Tryz.zeroValue115
 t53:=Tryz.underlying154
 a53:=Tryz.isAgg154
 z53:=Tryz.sizeOf154
 v53:=Tryz.zeroValue154
 t57:=Tryz.underlying158
 a57:=Tryz.isAgg158
 z57:=Tryz.sizeOf158
 v57:=Tryz.zeroValue158
 t63:=Tryz.underlying167
 a63:=Tryz.isAgg167
 z63:=Tryz.sizeOf167
 v63:=Tryz.zeroValue167
 t64:=Tryz.underlying168
 a64:=Tryz.isAgg168
 z64:=Tryz.sizeOf168
 v64:=Tryz.zeroValue168}
theorem bSr (O:dE)(K:TM.bD):rP Tryz.prog O K 46 iK:=aPh Tryz.func46 rfl (by decide) (fun p cap w=>AnyM.slices_Sort_int_none Tryz.sortA p cap w) (fun blk off cap zs w h1 h2 h3=>AnyM.slices_Sort_int Tryz.sortA blk off cap zs w h1 h2 h3)
end Go.Proofs.YtehlgnfhkidgoaaGreatDoor
