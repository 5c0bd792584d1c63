/- The primitives of this seat. By program. Condition: none. -/
import Derived.Test.YtjbpbohpmfpoiaaGreatDoorRows
import Derived.Test.YtjbpbohpmfpoiaaGreatDoorTmF
set_option maxRecDepth 100000
namespace Go.Proofs.YtjbpbohpmfpoiaaGreatDoor
open Go Go.TM Go.Shelf
def Tryz.lays169_ren:Go.Shelf.Ren:=⟨fun|169=>72|n=>n,fun|70=>112|9=>9|0=>0|72=>114|37=>61|127=>163|3=>3|5=>5|n=>n,fun|n=>n⟩
theorem Tryz.lays169:Go.Proofs.Lays.n169 Tryz.prog Tryz.lays169_ren:={
 mixed:=by kernel_rfl
 f169:=Tryz.func72.trans (congrArg some (by kernel_rfl))
 t0:=Tryz.underlying0
 a0:=Tryz.isAgg0
 z0:=Tryz.sizeOf0
 v0:=Tryz.zeroValue0
 t3:=Tryz.underlying3
 a3:=Tryz.isAgg3
 z3:=Tryz.sizeOf3
 v3:=Tryz.zeroValue3
 t9:=Tryz.underlying9
 a9:=Tryz.isAgg9
 z9:=Tryz.sizeOf9
 v9:=Tryz.zeroValue9
 t37:=Tryz.underlying61
 a37:=Tryz.isAgg61
 z37:=Tryz.sizeOf61
 v37:=Tryz.zeroValue61
 t70:=Tryz.underlying112
 a70:=Tryz.isAgg112
 z70:=Tryz.sizeOf112
 v70:=Tryz.zeroValue112
 t72:=Tryz.underlying114
 a72:=Tryz.isAgg114
 z72:=Tryz.sizeOf114
 v72:=Tryz.zeroValue114
 t127:=Tryz.underlying163
 a127:=Tryz.isAgg163
 z127:=Tryz.sizeOf163
 v127:=Tryz.zeroValue163}
theorem x169:Builder.Extra Tryz.prog Tryz.lays169_ren:={
 sizeBuilder:=by kernel_rfl
 liesBuilder:=by kernel_rfl
 t5:=Tryz.underlying5
 a5:=Tryz.isAgg5
 z5:=Tryz.sizeOf5
 v5:=Tryz.zeroValue5
 infoByte:=by kernel_rfl
 cellsByte:=by kernel_rfl
 sizeByte:=by kernel_rfl
 neB5:=by decide}
theorem bDp (O:cW)(K:TM.bG):iX Tryz.prog O K 72 (gY 5):=aAx Tryz.lays169 x169 Tryz.func72 rfl (by decide)
open Go.RowKit in
set_option maxHeartbeats 1000000 in
theorem aYq (b:Nat)(w:World)(h0:w.cell? ⟨b,0,none⟩=some (.pointer (some ⟨b,0,none⟩))) :
  Calls Tryz.prog 98 #[.pointer (some ⟨b,0,none⟩)] w fun e w'=>e=.returned (.tuple #[])∧w'=w:=by
 obtain⟨j,hj,_⟩:=Option.map_eq_some_iff.1 (show (Tryz.prog.info? 114).map (·.size)=some 2 by kernel_rfl)
 go_enter Tryz.func98,Tryz.ntmps98
 go_wp2
 rw[Lib.run_neq_ptr_same w _ Tryz.underlying112 hj]
 go_wp2
 go_end0
 exact⟨rfl,rfl⟩
open Go.RowKit in
set_option maxHeartbeats 1000000 in
theorem aFc (b:Nat)(w:World)(h0:w.cell? ⟨b,0,none⟩=some (.pointer none))(hsh:w.shape? b=some (114,2))(hfz:w.frozen? ⟨b,0,none⟩=false) :
  Calls Tryz.prog 98 #[.pointer (some ⟨b,0,none⟩)] w fun e w'=>e=.returned (.tuple #[])∧w'=w.setCell ⟨b,0,none⟩ (.pointer (some ⟨b,0,none⟩)):=by
 obtain⟨j,hj,hjs⟩:=Option.map_eq_some_iff.1 (show (Tryz.prog.info? 114).map (·.size)=some 2 by kernel_rfl)
 go_enter Tryz.func98,Tryz.ntmps98
 go_wp2
 rw[Lib.run_to_unsafe w ⟨b,0,none⟩ Tryz.underlying112 Tryz.underlying192 hj (by rw[hjs]; decide) hsh (Nat.zero_lt_succ _)]
 simp only[Result.andThen]
 rw[Oper.upon_value]
 go_wp2
 rw[run_callFunc_extern Tryz.func123 (by kernel_rfl) (by kernel_rfl) (by kernel_rfl) (e:=Extern.AbiNoEscape.same) (by kernel_rfl)]
 rw[Lib.run_noEscape]
 simp only[Result.andThen]
 rw[Oper.upon_value]
 go_wp2
 rw[Lib.run_from_unsafe w ⟨b,0,none⟩ Tryz.underlying192 Tryz.underlying112 hj hsh (show liesAt Tryz.prog Tryz.prog.depth 114 (2 / Tryz.prog.cellsOf 114) 0 114 1=true by kernel_rfl)]
 simp only[Result.andThen]
 rw[Oper.upon_value]
 go_wp2
 go_end0
 exact⟨rfl,rfl⟩
theorem bDq (O:cW)(K:TM.bG):iX Tryz.prog O K 98 (eW [(114,2)]):=by
 refine uI Tryz.func98 rfl (by decide) ?_ aYq
 intro c hc
 simp only[List.mem_cons,List.mem_nil_iff,or_false]at hc
 subst hc
 exact aFc
theorem aYr (O:cW)(K:TM.bG):iX Tryz.prog O K 147 (tE 5):=aHw (tr:=61) Tryz.func147 (by kernel_rfl) (by kernel_rfl) (by kernel_rfl) (by kernel_rfl) Tryz.underlying61
theorem aYs (O:cW)(K:TM.bG):iX Tryz.prog O K 159 pM:=aEl Tryz.func159 (by kernel_rfl) (by kernel_rfl) (by kernel_rfl) (by kernel_rfl)
def prims:List (Nat×vU):=[(72,gY 5),(98,eW [(114,2)]),(147,tE 5),(159,pM)]
theorem aSk (O:cW)(K:TM.bG):∀x∈prims,iX Tryz.prog O K x.1 x.2:=by
 intro x hx
 simp only[prims,List.mem_cons,List.mem_nil_iff,or_false]at hx
 rcases hx with rfl|rfl|rfl|rfl
 ·exact bDp O K
 ·exact bDq O K
 ·exact aYr O K
 ·exact aYs O K
end Go.Proofs.YtjbpbohpmfpoiaaGreatDoor
