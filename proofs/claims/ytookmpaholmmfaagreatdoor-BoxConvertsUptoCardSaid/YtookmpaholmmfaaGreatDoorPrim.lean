/- The primitives of this seat. By program. Condition: none. -/
import Derived.Test.YtookmpaholmmfaaGreatDoorRows
import Derived.Test.YtookmpaholmmfaaGreatDoorTmF
import Derived.Test.YtookmpaholmmfaaGreatDoorKeys
set_option maxRecDepth 100000
namespace Go.Proofs.YtookmpaholmmfaaGreatDoor
open Go Go.TM Go.Shelf
def Tryz.lays169_ren:Go.Shelf.Ren:=⟨fun|169=>80|n=>n,fun|70=>94|9=>9|0=>0|72=>97|37=>95|127=>130|3=>3|5=>5|n=>n,fun|n=>n⟩
theorem Tryz.lays169:Go.Proofs.Lays.n169 Tryz.prog Tryz.lays169_ren:={
 mixed:=by kernel_rfl
 f169:=Tryz.func80.trans (congrArg some (by kernel_rfl))
 t0:=Tryz.underlying0
 a0:=Tryz.isAgg0
 z0:=Tryz.sizeOf0
 v0:=Tryz.zeroValue0
 t3:=Tryz.underlying3
 a3:=Tryz.isAgg3
 z3:=Tryz.sizeOf3
 v3:=Tryz.zeroValue3
 t9:=Tryz.underlying9
 a9:=Tryz.isAgg9
 z9:=Tryz.sizeOf9
 v9:=Tryz.zeroValue9
 t37:=Tryz.underlying95
 a37:=Tryz.isAgg95
 z37:=Tryz.sizeOf95
 v37:=Tryz.zeroValue95
 t70:=Tryz.underlying94
 a70:=Tryz.isAgg94
 z70:=Tryz.sizeOf94
 v70:=Tryz.zeroValue94
 t72:=Tryz.underlying97
 a72:=Tryz.isAgg97
 z72:=Tryz.sizeOf97
 v72:=Tryz.zeroValue97
 t127:=Tryz.underlying130
 a127:=Tryz.isAgg130
 z127:=Tryz.sizeOf130
 v127:=Tryz.zeroValue130}
theorem x169:Builder.Extra Tryz.prog Tryz.lays169_ren:={
 sizeBuilder:=by kernel_rfl
 liesBuilder:=by kernel_rfl
 t5:=Tryz.underlying5
 a5:=Tryz.isAgg5
 z5:=Tryz.sizeOf5
 v5:=Tryz.zeroValue5
 infoByte:=by kernel_rfl
 cellsByte:=by kernel_rfl
 sizeByte:=by kernel_rfl
 neB5:=by decide}
theorem bIb (O:dB)(K:TM.bO):kR Tryz.prog O K 80 (pG 5):=aC2 Tryz.lays169 x169 Tryz.func80 rfl (by decide)
open Go.RowKit in
set_option maxHeartbeats 1000000 in
theorem bDm (b:Nat)(w:World)(h0:w.cell? ⟨b,0,none⟩=some (.pointer (some ⟨b,0,none⟩))) :
  Calls Tryz.prog 113 #[.pointer (some ⟨b,0,none⟩)] w fun e w'=>e=.returned (.tuple #[])∧w'=w:=by
 obtain⟨j,hj,_⟩:=Option.map_eq_some_iff.1 (show (Tryz.prog.info? 97).map (·.size)=some 2 by kernel_rfl)
 go_enter Tryz.func113,Tryz.ntmps113
 go_wp2
 rw[Lib.run_neq_ptr_same w _ Tryz.underlying94 hj]
 go_wp2
 go_end0
 exact⟨rfl,rfl⟩
open Go.RowKit in
set_option maxHeartbeats 1000000 in
theorem aLe (b:Nat)(w:World)(h0:w.cell? ⟨b,0,none⟩=some (.pointer none))(hsh:w.shape? b=some (97,2))(hfz:w.frozen? ⟨b,0,none⟩=false) :
  Calls Tryz.prog 113 #[.pointer (some ⟨b,0,none⟩)] w fun e w'=>e=.returned (.tuple #[])∧w'=w.setCell ⟨b,0,none⟩ (.pointer (some ⟨b,0,none⟩)):=by
 obtain⟨j,hj,hjs⟩:=Option.map_eq_some_iff.1 (show (Tryz.prog.info? 97).map (·.size)=some 2 by kernel_rfl)
 go_enter Tryz.func113,Tryz.ntmps113
 go_wp2
 rw[Lib.run_to_unsafe w ⟨b,0,none⟩ Tryz.underlying94 Tryz.underlying152 hj (by rw[hjs]; decide) hsh (Nat.zero_lt_succ _)]
 simp only[Result.andThen]
 rw[Oper.upon_value]
 go_wp2
 rw[run_callFunc_extern Tryz.func140 (by kernel_rfl) (by kernel_rfl) (by kernel_rfl) (e:=Extern.AbiNoEscape.same) (by kernel_rfl)]
 rw[Lib.run_noEscape]
 simp only[Result.andThen]
 rw[Oper.upon_value]
 go_wp2
 rw[Lib.run_from_unsafe w ⟨b,0,none⟩ Tryz.underlying152 Tryz.underlying94 hj hsh (show liesAt Tryz.prog Tryz.prog.depth 97 (2 / Tryz.prog.cellsOf 97) 0 97 1=true by kernel_rfl)]
 simp only[Result.andThen]
 rw[Oper.upon_value]
 go_wp2
 go_end0
 exact⟨rfl,rfl⟩
open Go.RowKit in
set_option maxHeartbeats 1000000 in
theorem aHx (b:Nat)(w:World)(h0:w.cell? ⟨b,0,none⟩=some (.pointer none))(hsh:w.shape? b=some (128,3))(hfz:w.frozen? ⟨b,0,none⟩=false) :
  Calls Tryz.prog 113 #[.pointer (some ⟨b,0,none⟩)] w fun e w'=>e=.returned (.tuple #[])∧w'=w.setCell ⟨b,0,none⟩ (.pointer (some ⟨b,0,none⟩)):=by
 obtain⟨j,hj,hjs⟩:=Option.map_eq_some_iff.1 (show (Tryz.prog.info? 97).map (·.size)=some 2 by kernel_rfl)
 go_enter Tryz.func113,Tryz.ntmps113
 go_wp2
 rw[Lib.run_to_unsafe w ⟨b,0,none⟩ Tryz.underlying94 Tryz.underlying152 hj (by rw[hjs]; decide) hsh (Nat.zero_lt_succ _)]
 simp only[Result.andThen]
 rw[Oper.upon_value]
 go_wp2
 rw[run_callFunc_extern Tryz.func140 (by kernel_rfl) (by kernel_rfl) (by kernel_rfl) (e:=Extern.AbiNoEscape.same) (by kernel_rfl)]
 rw[Lib.run_noEscape]
 simp only[Result.andThen]
 rw[Oper.upon_value]
 go_wp2
 rw[Lib.run_from_unsafe w ⟨b,0,none⟩ Tryz.underlying152 Tryz.underlying94 hj hsh (show liesAt Tryz.prog Tryz.prog.depth 128 (3 / Tryz.prog.cellsOf 128) 0 97 1=true by kernel_rfl)]
 simp only[Result.andThen]
 rw[Oper.upon_value]
 go_wp2
 go_end0
 exact⟨rfl,rfl⟩
theorem bDn (O:dB)(K:TM.bO):kR Tryz.prog O K 113 (lF [(97,2),(128,3)]):=by
 refine wW Tryz.func113 rfl (by decide) ?_ bDm
 intro c hc
 simp only[List.mem_cons,List.mem_nil_iff,or_false]at hc
 rcases hc with rfl|rfl
 ·exact aLe
 ·exact aHx
theorem bDo (O:dB)(K:TM.bO):kR Tryz.prog O K 165 (vP 5):=aKh (tr:=95) Tryz.func165 (by kernel_rfl) (by kernel_rfl) (by kernel_rfl) (by kernel_rfl) Tryz.underlying95
def prims:List (Nat×yK):=[(47,kA),(80,pG 5),(113,lF [(97,2),(128,3)]),(165,vP 5)]
theorem aXg (O:dB)(K:TM.bO):∀x∈prims,kR Tryz.prog O K x.1 x.2:=by
 intro x hx
 simp only[prims,List.mem_cons,List.mem_nil_iff,or_false]at hx
 rcases hx with rfl|rfl|rfl|rfl
 ·exact bIa O K
 ·exact bIb O K
 ·exact bDn O K
 ·exact bDo O K
end Go.Proofs.YtookmpaholmmfaaGreatDoor
