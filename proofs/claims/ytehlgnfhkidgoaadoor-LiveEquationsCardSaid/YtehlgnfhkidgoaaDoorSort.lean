/- slices.Sort of whole numbers: a primitive. By program. Condition: none. -/
import Derived.Test.YtehlgnfhkidgoaaDoorRows
import Derived.Test.YtehlgnfhkidgoaaDoorTmF
import Derived.Ground.SlgmProg
set_option maxRecDepth 100000
namespace Go.Proofs.YtehlgnfhkidgoaaDoor
open Go Go.TM Go.Shelf Go.RowKit Go.Maps Go.Sort
def Tryd.sortA_ren : Go.Shelf.Ren := ⟨fun | 5 => 32 | 8 => 44 | 7 => 43 | 19 => 65 | 20 => 66 | 10 => 56 | 11 => 57 | 12 => 58 | 13 => 59 | 14 => 60 | 15 => 61 | 16 => 62 | 17 => 63 | 18 => 64 | 30 => 76 | 31 => 77 | 32 => 78 | 33 => 79 | 34 => 80 | 35 => 81 | 40 => 87 | n => n,fun | 23 => 28 | 25 => 3 | 3 => 3 | 32 => 73 | 22 => 28 | 0 => 0 | 44 => 84 | 46 => 78 | 4 => 4 | 36 => 92 | 35 => 91 | 41 => 97 | 5 => 5 | 9 => 9 | 53 => 105 | 57 => 109 | 63 => 114 | 64 => 115 | n => n,fun | n => n⟩
theorem Tryd.sortA : Go.Proofs.SlLaysM.n5 Tryd.prog Tryd.sortA_ren := {
 mixed := by kernel_rfl
 f5 := ⟨Tryd.f32.name,by decide,Tryd.func32.trans (congrArg some (by kernel_rfl))⟩
 f7 := ⟨Tryd.f43.name,by decide,Tryd.func43.trans (congrArg some (by kernel_rfl))⟩
 f8 := Tryd.func44.trans (congrArg some (by kernel_rfl))
 f10 := ⟨Tryd.f56.name,by decide,Tryd.func56.trans (congrArg some (by kernel_rfl))⟩
 f11 := ⟨Tryd.f57.name,by decide,Tryd.func57.trans (congrArg some (by kernel_rfl))⟩
 f12 := ⟨Tryd.f58.name,by decide,Tryd.func58.trans (congrArg some (by kernel_rfl))⟩
 f13 := ⟨Tryd.f59.name,by decide,Tryd.func59.trans (congrArg some (by kernel_rfl))⟩
 f14 := ⟨Tryd.f60.name,by decide,Tryd.func60.trans (congrArg some (by kernel_rfl))⟩
 f15 := ⟨Tryd.f61.name,by decide,Tryd.func61.trans (congrArg some (by kernel_rfl))⟩
 f16 := ⟨Tryd.f62.name,by decide,Tryd.func62.trans (congrArg some (by kernel_rfl))⟩
 f17 := ⟨Tryd.f63.name,by decide,Tryd.func63.trans (congrArg some (by kernel_rfl))⟩
 f18 := ⟨Tryd.f64.name,by decide,Tryd.func64.trans (congrArg some (by kernel_rfl))⟩
 f19 := Tryd.func65.trans (congrArg some (by kernel_rfl))
 f20 := Tryd.func66.trans (congrArg some (by kernel_rfl))
 f30 := ⟨Tryd.f76.name,by decide,Tryd.func76.trans (congrArg some (by kernel_rfl))⟩
 f31 := Tryd.func77.trans (congrArg some (by kernel_rfl))
 f32 := Tryd.func78.trans (congrArg some (by kernel_rfl))
 f33 := ⟨Tryd.f79.name,by decide,Tryd.func79.trans (congrArg some (by kernel_rfl))⟩
 f34 := ⟨Tryd.f80.name,by decide,Tryd.func80.trans (congrArg some (by kernel_rfl))⟩
 f35 := ⟨Tryd.f81.name,by decide,Tryd.func81.trans (congrArg some (by kernel_rfl))⟩
 f40 := ⟨Tryd.f87.name,by decide,Tryd.func87.trans (congrArg some (by kernel_rfl))⟩
 t0 := Tryd.underlying0
 a0 := Tryd.isAgg0
 z0 := Tryd.sizeOf0
 v0 := Tryd.zeroValue0
 t3 := Tryd.underlying3
 a3 := Tryd.isAgg3
 z3 := Tryd.sizeOf3
 v3 := Tryd.zeroValue3
 t4 := Tryd.underlying4
 a4 := Tryd.isAgg4
 z4 := Tryd.sizeOf4
 v4 := Tryd.zeroValue4
 t5 := Tryd.underlying5
 a5 := Tryd.isAgg5
 z5 := Tryd.sizeOf5
 v5 := Tryd.zeroValue5
 t9 := Tryd.underlying9
 a9 := Tryd.isAgg9
 z9 := Tryd.sizeOf9
 v9 := Tryd.zeroValue9
 t22 := Tryd.underlying28
 a22 := Tryd.isAgg28
 z22 := Tryd.sizeOf28
 v22 := Tryd.zeroValue28
 t23 := Tryd.underlying28
 a23 := Tryd.isAgg28
 z23 := Tryd.sizeOf28
 v23 := Tryd.zeroValue28
 t25 := Tryd.underlying3
 a25 := Tryd.isAgg3
 z25 := Tryd.sizeOf3
 v25 := Tryd.zeroValue3
 t32 := Tryd.underlying73
 a32 := Tryd.isAgg73
 z32 := Tryd.sizeOf73
 v32 := Tryd.zeroValue73
 t35 := Tryd.underlying91
 a35 := Tryd.isAgg91
 z35 := Tryd.sizeOf91
 v35 := Tryd.zeroValue91
 t36 := Tryd.underlying92
 a36 := Tryd.isAgg92
 z36 := Tryd.sizeOf92
 v36 := Tryd.zeroValue92
 t41 := Tryd.underlying97
 a41 := Tryd.isAgg97
 z41 := Tryd.sizeOf97
 v41 := Tryd.zeroValue97
 t44 := Tryd.underlying84
 a44 := Tryd.isAgg84
 z44 := Tryd.sizeOf84
 v44 := Tryd.zeroValue84
 t46 := Tryd.underlying78
 a46 := Tryd.isAgg78
 z46 := Tryd.sizeOf78
 v46 := Tryd.zeroValue78
 t53 := Tryd.underlying105
 a53 := Tryd.isAgg105
 z53 := Tryd.sizeOf105
 v53 := Tryd.zeroValue105
 t57 := Tryd.underlying109
 a57 := Tryd.isAgg109
 z57 := Tryd.sizeOf109
 v57 := Tryd.zeroValue109
 t63 := Tryd.underlying114
 a63 := Tryd.isAgg114
 z63 := Tryd.sizeOf114
 v63 := Tryd.zeroValue114
 t64 := Tryd.underlying115
 a64 := Tryd.isAgg115
 z64 := Tryd.sizeOf115
 v64 := Tryd.zeroValue115 }
theorem prim32 (O : Opts) (K : TM.Prog) : PrimOK Tryd.prog O K 32 primSort := primSort_ok Tryd.func32 rfl (by decide) (fun p cap w => AnyM.slices_Sort_int_none Tryd.sortA p cap w) (fun blk off cap zs w h1 h2 h3 => AnyM.slices_Sort_int Tryd.sortA blk off cap zs w h1 h2 h3)
end Go.Proofs.YtehlgnfhkidgoaaDoor
