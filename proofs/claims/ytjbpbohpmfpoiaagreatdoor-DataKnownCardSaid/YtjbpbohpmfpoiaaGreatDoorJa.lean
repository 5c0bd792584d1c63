/- Some texts of the proof, joined. Condition: none. -/
import Derived.Test.YtjbpbohpmfpoiaaGreatDoorTmProg
import Derived.Test.YtjbpbohpmfpoiaaGreatDoorTmF
import Derived.Test.YtjbpbohpmfpoiaaGreatDoorTmE
import Derived.Test.YtjbpbohpmfpoiaaGreatDoorTmD
set_option maxRecDepth 100000
set_option maxHeartbeats 64000000
set_option linter.unusedSimpArgs false
set_option linter.unusedVariables false
namespace Go.Proofs.YtjbpbohpmfpoiaaGreatDoor
open Go Go.TM
attribute [go_sem] beq_self_eq_true decT decF ifT ifF eqF neT neF get_cp0 List.replicate List.cons_append List.nil_append decide_true decide_false
attribute [go_sem] Nat.reduceAdd Nat.reduceSub Nat.reduceMul Nat.reduceLT Nat.reduceLeDiff Nat.reduceEqDiff Nat.reduceBEq reduceIte reduceCtorEq Int.reduceEq Int.reduceLT Int.reduceLE Int.reduceAdd Int.reduceSub Int.reduceMul Int.reduceToNat Int.reduceNeg Int.reduceBEq Int.reduceBNe Int.reduceTDiv Int.reduceTMod Int.reducePow Nat.reducePow Nat.reduceDiv Nat.reduceMod Int.reduceMod Int.reduceDiv Int.reduceNe Int.reduceFDiv
def rdr (p e : Int) : Block := .cells 77 false [.iv (.int .i64 100),.iv (.sl .full [[.int .u32 39],[.int .u32 401]]),.iv (.int .i64 p),.iv (.int .i64 e)]
def zD : List IV := [.int .i64 0,.int .i64 0,.str [],.sl .nil [],.int .i64 0]
theorem call49 (p e : Int) (R : Store) : (lim K).call 49 [.ptr 0 77 0,.iv (.int .i64 e)] (rdr p 0 :: R) = .ret (.iv (.agg zD),rdr p e :: R) := by
 unfold rdr zD
 refine call_ret' K _ (fn := t49) rfl rfl ?_
 simp (config := { maxSteps := 4000000 }) (disch := omega) only [t49,go_sem,TM.undef]
theorem call42 (p d : Int) (hp : 0 ≤ p ∧ p ≤ 2000) (hd : 0 ≤ d ∧ d ≤ 1000) (R : Store) : (lim K).call 42 [.ptr 0 77 0,.iv (.int .i64 d)] (rdr p 0 :: R) = .ret (.iv (.bool true),rdr (p + 1) 0 :: R) := by
 unfold rdr
 refine call_ret' K _ (fn := t42) rfl rfl ?_
 simp (config := { maxSteps := 4000000 }) (disch := omega) only [t42,go_sem,TM.undef,wrap_i64]
theorem call42x (p d : Int) (hp : 0 ≤ p ∧ p ≤ 2000) (hd : 1000 < d) (R : Store) : (lim K).call 42 [.ptr 0 77 0,.iv (.int .i64 d)] (rdr p 0 :: R) = .ret (.iv (.bool false),rdr (p + 1) 3 :: R) := by
 have c49 := call49 (p + 1) 3 R
 unfold rdr at *
 refine call_ret' K _ (fn := t42) rfl rfl ?_
 simp (config := { maxSteps := 4000000 }) (disch := omega) only [t42,go_sem,TM.undef,wrap_i64,c49]
theorem call44 (p : Int) (R : Store) : (lim K).call 44 [.ptr 0 77 0,.iv (.int .u32 401)] (rdr p 0 :: R) = .ret (.tup [.iv (.int .i64 1),.iv (.sl .full [[.int .u32 401]])],rdr p 0 :: R) := by
 have e1 : TM.binOp .shr (.iv (.int .u32 401)) (.iv (.int .u64 2)) = some (.int .u32 100) := by kernel_rfl
 have e2 : TM.binOp .and (.iv (.int .u32 401)) (.iv (.int .u32 3)) = some (.int .u32 1) := by kernel_rfl
 have e3 : TM.binOp .and (.iv (.int .u32 39)) (.iv (.int .u32 3)) = some (.int .u32 3) := by kernel_rfl
 have e4 : TM.binOp .shr (.iv (.int .u32 39)) (.iv (.int .u64 5)) = some (.int .u32 1) := by kernel_rfl
 have e5 : TM.binOp .shr (.iv (.int .u32 39)) (.iv (.int .u64 2)) = some (.int .u32 9) := by kernel_rfl
 have e6 : TM.binOp .and (.iv (.int .u32 9)) (.iv (.int .u32 7)) = some (.int .u32 1) := by kernel_rfl
 have i1 : indexAddrS 1 (.iv (.sl .full [[.int .u32 39],[.int .u32 401]])) 0 = some (.iv (.cp [.int .u32 39])) := rfl
 have s1 : ∀ S : Store,sliceOp S (.sl 1) (.iv (.sl .full [[.int .u32 39],[.int .u32 401]])) (some 1) (some 2) none = some (.iv (.sl .full [[.int .u32 401]])) := fun S => rfl
 unfold rdr
 refine call_ret' K _ (fn := t44) rfl rfl ?_
 simp (config := { maxSteps := 4000000 }) (disch := omega) only [t44,go_sem,TM.undef,e1,e2,e3,e4,e5,e6,i1,s1,wrap_i64]
def VS (V : TV) : Prop := V = .iv (.agg zD) ∨ ∃ a L,V = .agg [.iv (.int .i64 7),.iv (.int .i64 0),.iv (.str []),.tsl a L,.iv (.int .i64 0)]
theorem call30x (d : Int) (hd : d = 1001) (R : Store) : (lim K).call 30 [.ptr 0 77 0,.iv (.int .u32 401),.iv (.int .i64 d)] (rdr d 0 :: R) = .ret (.iv (.agg zD),rdr (d + 1) 3 :: R) := by
 have c44 := call44 d R
 have c42 := call42x d d (by omega) (by omega) R
 have e1 : TM.binOp .and (.iv (.int .u32 401)) (.iv (.int .u32 3)) = some (.int .u32 1) := by kernel_rfl
 unfold rdr zD at *
 refine call_ret' K _ (fn := t30) rfl rfl ?_
 simp (config := { maxSteps := 4000000 }) (disch := omega) only [t30,go_sem,TM.undef,e1,c44,c42]
theorem loop30e (d : Int) (kid x7 x20 : TV) (S : Store) : lp' (lim K) t30L0 [.ptr 0 77 0,.iv (.int .u32 401),.iv (.int .i64 d),.lb [.iv (.int .i64 0),.iv (.int .i64 0),.iv (.str []),.iv (.sl .nil []),.iv (.int .i64 0)],.iv (.int .i64 1),.iv (.sl .full [[.int .u32 401]]),.lb [.iv (.int .i64 7),.iv (.int .i64 0),.iv (.str []),kid,.iv (.int .i64 0)],x7,.tup [],.tup [],.iv (.bool false),.iv (.bool false),.tup [],.iv (.bool false),.iv (.bool false),.iv (.bool false),.iv (.bool true),.iv (.sl .full [[.int .u32 401]]),.iv (.int .i64 1),.iv (.int .i64 1),x20,.tup [],.tup [],.tup [],.tup [],.tup []] S = .ret (.exit 1,[.ptr 0 77 0,.iv (.int .u32 401),.iv (.int .i64 d),.lb [.iv (.int .i64 0),.iv (.int .i64 0),.iv (.str []),.iv (.sl .nil []),.iv (.int .i64 0)],.iv (.int .i64 1),.iv (.sl .full [[.int .u32 401]]),.lb [.iv (.int .i64 7),.iv (.int .i64 0),.iv (.str []),kid,.iv (.int .i64 0)],x7,.tup [],.tup [],.iv (.bool false),.iv (.bool false),.tup [],.iv (.bool false),.iv (.bool false),.iv (.bool false),.iv (.bool true),.iv (.sl .full [[.int .u32 401]]),.iv (.int .i64 1),.iv (.int .i64 1),.iv (.bool false),.tup [],.tup [],.tup [],.tup [],.tup []],S) := by
 refine loop_at K _ _ t30L0.eq_1 ?_
 simp (config := { maxSteps := 4000000 }) (disch := omega) only [go_sem]
theorem loop30 (d : Int) (hd : 0 ≤ d ∧ d ≤ 1000) {V : TV} {p e : Int} {R R' : Store} (hV : VS V) (hc : (lim K).call 30 [.ptr 0 77 0,.iv (.int .u32 401),.iv (.int .i64 (d + 1))] (rdr (d + 1) 0 :: R) = .ret (V,rdr p e :: R')) : ∃ (a : Nat) (L : List (List IV)) (R2 : Store),lp' (lim K) t30L0 [.ptr 0 77 0,.iv (.int .u32 401),.iv (.int .i64 d),.lb [.iv (.int .i64 0),.iv (.int .i64 0),.iv (.str []),.iv (.sl .nil []),.iv (.int .i64 0)],.iv (.int .i64 1),.iv (.sl .full [[.int .u32 401]]),.lb [.iv (.int .i64 7),.iv (.int .i64 0),.iv (.str []),.iv (.sl .nil []),.iv (.int .i64 0)],.tup [],.tup [],.tup [],.iv (.bool false),.iv (.bool false),.tup [],.iv (.bool false),.iv (.bool false),.iv (.bool false),.iv (.bool true),.iv (.sl .full [[.int .u32 401]]),.iv (.int .i64 1),.iv (.int .i64 0),.tup [],.tup [],.tup [],.tup [],.tup [],.tup []] (rdr (d + 1) 0 :: R) = .ret (.exit 1,[.ptr 0 77 0,.iv (.int .u32 401),.iv (.int .i64 d),.lb [.iv (.int .i64 0),.iv (.int .i64 0),.iv (.str []),.iv (.sl .nil []),.iv (.int .i64 0)],.iv (.int .i64 1),.iv (.sl .full [[.int .u32 401]]),.lb [.iv (.int .i64 7),.iv (.int .i64 0),.iv (.str []),.tsl a L,.iv (.int .i64 0)],.iv (.int .u32 401),.tup [],.tup [],.iv (.bool false),.iv (.bool false),.tup [],.iv (.bool false),.iv (.bool false),.iv (.bool false),.iv (.bool true),.iv (.sl .full [[.int .u32 401]]),.iv (.int .i64 1),.iv (.int .i64 1),.iv (.bool false),.tup [],.tup [],.tup [],.tup [],.tup []],rdr p e :: R2) := by
 have i1 : indexAddrS 1 (.iv (.sl .full [[.int .u32 401]])) 0 = some (.iv (.cp [.int .u32 401])) := rfl
 have ap : ∀ (S : Store) (c : List IV),c.length = 5 ∧ c.all isCell = true → appendOp false 5 64 37 S (.iv (.sl .nil [])) (.iv (.sl .full [c])) = some (.tsl S.length [c],S ++ [.tok 1 5 37]) := fun S c hc => by
  have := ap_new (w := 5) (b := 64) (el := 37) (S := S) (t := .nil) (l := []) (ys := [c]) (by decide) (IsEl.sl S .full [c]) (by intro y hy; simp at hy; subst hy; exact hc) (by intro y hy; cases hy) (by simp) (roomy_ok (by simp))
  simpa using this
 rcases hV with rfl | ⟨a,L,rfl⟩
 ·have ap1 := fun S => ap S zD ⟨rfl,rfl⟩
  have l2 := fun kid S => loop30e d kid (.iv (.int .u32 401)) (.iv (.bool true)) S
  unfold rdr zD at *
  refine ⟨R'.length + 1,[zD],R' ++ [.tok 1 5 37],loop_at K _ _ t30L0.eq_1 ?_⟩
  unfold zD
  ·simp (config := { maxSteps := 4000000 }) (disch := omega) only [go_sem,i1,hc,ap1,wrap_i64]
   exact congrArg er (l2 _ _)
 ·have ap1 := fun S => ap S [.int .i64 7,.int .i64 0,.str [],.sl .no L,.int .i64 0] ⟨rfl,rfl⟩
  have l2 := fun kid S => loop30e d kid (.iv (.int .u32 401)) (.iv (.bool true)) S
  unfold rdr at *
  refine ⟨R'.length + 1,[[.int .i64 7,.int .i64 0,.str [],.sl .no L,.int .i64 0]],R' ++ [.tok 1 5 37],loop_at K _ _ t30L0.eq_1 ?_⟩
  ·simp (config := { maxSteps := 4000000 }) (disch := omega) only [go_sem,i1,hc,ap1,wrap_i64]
   exact congrArg er (l2 _ _)
theorem call30 : ∀ (k : Nat) (d : Int),d + k = 1001 → 0 ≤ d → ∀ R : Store,∃ (V : TV) (R' : Store),(lim K).call 30 [.ptr 0 77 0,.iv (.int .u32 401),.iv (.int .i64 d)] (rdr d 0 :: R) = .ret (V,rdr 1002 3 :: R') ∧ VS V
 | 0,d,h,h0,R => by
  obtain rfl : d = 1001 := by omega
  exact ⟨_,R,call30x 1001 rfl R,.inl rfl⟩
 | k + 1,d,h,h0,R => by
  obtain ⟨V,R',ih,hV⟩ := call30 k (d + 1) (by omega) (by omega) R
  obtain ⟨a,L,R2,l1⟩ := loop30 d (by omega) hV ih
  have c44 := call44 d R
  have c42 := call42 d d (by omega) (by omega) R
  have e1 : TM.binOp .and (.iv (.int .u32 401)) (.iv (.int .u32 3)) = some (.int .u32 1) := by kernel_rfl
  unfold rdr at *
  have h1 : ((1 : Nat) : Int) = 1 := rfl
  refine ⟨_,R2,call_ret' K _ (fn := t30) rfl rfl ?_,.inr ⟨a,L,rfl⟩⟩
  simp (config := { maxSteps := 4000000 }) (disch := omega) only [t30,go_sem,TM.undef,e1,c44,c42,h1]
  rw [l1]
  simp (config := { maxSteps := 4000000 }) (disch := omega) only [go_sem]
theorem ret11 : ∃ S : Store,(lim K).call 11 [.iv (.sl .full [[.int .u32 39],[.int .u32 401]]),.iv (.int .i64 100),.iv (.int .u32 401)] [] = .ret (.tup [.iv (.agg zD),.iv (.int .i64 3)],S) := by
 obtain ⟨V,R',c30,hV⟩ := call30 1001 0 (by omega) (by omega) []
 rcases hV with rfl | ⟨a,L,rfl⟩
 ·unfold rdr zD at *
  refine ⟨rdr 1002 3 :: R',call_ret' K _ (fn := t11) rfl rfl ?_⟩
  simp (config := { maxSteps := 4000000 }) (disch := omega) only [t11,go_sem,TM.undef,c30]
  rfl
 ·unfold rdr zD at *
  refine ⟨rdr 1002 3 :: R',call_ret' K _ (fn := t11) rfl rfl ?_⟩
  simp (config := { maxSteps := 4000000 }) (disch := omega) only [t11,go_sem,TM.undef,c30]
  rfl
def rndA : List TV := [.iv (.sl .full [[.int .u32 39],[.int .u32 401]]),.iv (.int .i64 100),.iv (.int .u32 401)]
theorem run5k (N : Nat) (S : Store) : (exec K (memo [(11,rndA,(.tup [.iv (.agg zD),.iv (.int .i64 3)],S))] (ex K (N + 400))) t5.body ([] ++ List.replicate (t5.nlocs - t5.nparams) TM.undef) []).allB (finB t5 isTrue) = true := by kernel_rfl
theorem run5 : ∃ n,((ex K n).call 5 [] []).allB isTrue = true := by
 obtain ⟨S,h⟩ := ret11
 obtain ⟨N,hn⟩ := lim_cont.call 11 rndA [] (Out.ok_ret h)
 have h3 := call_more ((hn N (Nat.le_refl N)).eq h) (show N ≤ N + 400 by omega)
 refine ⟨N + 400 + 1,call_of_exec (n := N + 400) (tf := t5) rfl rfl ?_⟩
 rw [← memo_eq (o := ex K (N + 400)) (es := [(11,rndA,(.tup [.iv (.agg zD),.iv (.int .i64 3)],S))]) (List.forall_mem_cons.2 ⟨h3,fun _ h => by cases h⟩)]
 exact run5k N S
end Go.Proofs.YtjbpbohpmfpoiaaGreatDoor
