/- Some texts of the proof, joined. Condition: none. -/
import Derived.Test.YtookmpaholmmfaaGreatDoorJa
set_option maxRecDepth 100000
set_option maxHeartbeats 64000000
set_option linter.unusedSimpArgs false
set_option linter.unusedVariables false
namespace Go.Proofs.YtookmpaholmmfaaGreatDoor
open Go Go.TM
theorem frm_ff (p : Pg) (ib ik ir ic : Nat) (e : Ex) (hw : e.w ≤ 1048576) (S : Store) (hc : S[ic]? = some (ckB p ib ik ir)) (hcl : p.cs.length ≤ 2000000) (kids : Int) (word : List UInt8) (is : Bool) (hs : ofF e.k e.n = ⟨false,kids,false,word,is⟩) (hk : e.k ≠ 1 ∧ e.k ≠ 2 ∧ e.k ≠ 3 ∧ e.k ≠ 4 ∧ e.k ≠ 5) : Ends p ib ik ir ic e S (frmF p e) := by
 have hwe := Ex.w_eq e
 have hwl := Ex.ws_len e.ks
 have h74 := call74 e []
 rw [hs] at h74
 simp only [encS] at h74
 have hlt := lt_get hc
 have h119 := call119
 have hk1 := Keep.app [] S [Block.cells 55 false [.ptr ic 58 0]]
 have hk2 := hk1.trans (Keep.app [] _ [Block.cells 135 false [.fn 119 [] []]])
 have hc1 : (S ++ [Block.cells 55 false [.ptr ic 58 0]])[ic]? = some (ckB p ib ik ir) := get_appO hc _
 have hc2 : (S ++ [Block.cells 55 false [.ptr ic 58 0]] ++ [Block.cells 135 false [.fn 119 [] []]])[ic]? = some (ckB p ib ik ir) := get_appO hc1 _
 have h120 := call120 121 (fun v => !decide (0 ≤ v ∧ v < p.vr)) (S ++ [Block.cells 55 false [TV.ptr ic 58 0]]).length 135 S.length 55 e.gv e.vs (by omega) _ (fun x _ => call121 p ib ik ir ic S.length (S ++ [Block.cells 55 false [.ptr ic 58 0]]).length x (S ++ [Block.cells 55 false [.ptr ic 58 0]] ++ [Block.cells 135 false [.fn 119 [] []]]) hc2 (get_app2 ..) (get_app1 ..))
 have hf : frmF p e = (!(!is || decide ((e.ks.length : Int) < kids) || (decide (kids < e.ks.length) && !false) || (!false && decide (e.n ≠ 0)) || (decide (e.k ≠ 7) && (decide (0 < e.vs.length) || e.r)) || (e.r && decide (e.vs.length = 0))) && frmB p e) := by
  unfold frmF frmA; rw [hs]
 rw [hf]
 clear hf hs
 unfold frmB
 rw [encE_eq] at h74
 unfold Ends
 rw [encE_eq]
 generalize e.r = r at h74 ⊢
 cases is
 ·exact ⟨_,call_ret' K _ (fn := t87) rfl rfl (by simp (config := { maxSteps := 4000000 }) (disch := omega) only [t87,go_sem,TM.undef,h74,encEs_len,TM.one_length,Bool.true_or,Bool.or_true,Bool.false_or,Bool.or_false,Bool.true_and,Bool.false_and,Bool.and_true,Bool.and_false,Bool.not_true,Bool.not_false,not_any] <;> simp (disch := omega) only [go_sem,Bool.true_or,Bool.or_true,Bool.false_or,Bool.or_false,Bool.true_and,Bool.false_and,Bool.and_true,Bool.and_false,Bool.not_true,Bool.not_false,not_any]),hk1⟩
 by_cases b1 : (e.ks.length : Int) < kids
 ·exact ⟨_,call_ret' K _ (fn := t87) rfl rfl (by simp (config := { maxSteps := 4000000 }) (disch := omega) only [t87,go_sem,TM.undef,h74,encEs_len,TM.one_length,Bool.true_or,Bool.or_true,Bool.false_or,Bool.or_false,Bool.true_and,Bool.false_and,Bool.and_true,Bool.and_false,Bool.not_true,Bool.not_false,not_any] <;> simp (disch := omega) only [go_sem,Bool.true_or,Bool.or_true,Bool.false_or,Bool.or_false,Bool.true_and,Bool.false_and,Bool.and_true,Bool.and_false,Bool.not_true,Bool.not_false,not_any]),hk1⟩
 by_cases b2 : kids < (e.ks.length : Int)
 ·exact ⟨_,call_ret' K _ (fn := t87) rfl rfl (by simp (config := { maxSteps := 4000000 }) (disch := omega) only [t87,go_sem,TM.undef,h74,encEs_len,TM.one_length,Bool.true_or,Bool.or_true,Bool.false_or,Bool.or_false,Bool.true_and,Bool.false_and,Bool.and_true,Bool.and_false,Bool.not_true,Bool.not_false,not_any] <;> simp (disch := omega) only [go_sem,Bool.true_or,Bool.or_true,Bool.false_or,Bool.or_false,Bool.true_and,Bool.false_and,Bool.and_true,Bool.and_false,Bool.not_true,Bool.not_false,not_any]),hk1⟩
 by_cases b3 : e.n = 0
 rotate_left
 ·exact ⟨_,call_ret' K _ (fn := t87) rfl rfl (by simp (config := { maxSteps := 4000000 }) (disch := omega) only [t87,go_sem,TM.undef,h74,encEs_len,TM.one_length,Bool.true_or,Bool.or_true,Bool.false_or,Bool.or_false,Bool.true_and,Bool.false_and,Bool.and_true,Bool.and_false,Bool.not_true,Bool.not_false,not_any] <;> simp (disch := omega) only [go_sem,Bool.true_or,Bool.or_true,Bool.false_or,Bool.or_false,Bool.true_and,Bool.false_and,Bool.and_true,Bool.and_false,Bool.not_true,Bool.not_false,not_any]),hk1⟩
 by_cases k7 : e.k = 7
 ·cases r
  ·exact ⟨_,call_ret' K _ (fn := t87) rfl rfl (by simp (config := { maxSteps := 4000000 }) (disch := omega) only [t87,go_sem,TM.undef,h74,encEs_len,TM.one_length,Bool.true_or,Bool.or_true,Bool.false_or,Bool.or_false,Bool.true_and,Bool.false_and,Bool.and_true,Bool.and_false,Bool.not_true,Bool.not_false,not_any,hc1,hc2,get_app1,get_app2,set_app1,h119,h120] <;> simp (disch := omega) only [go_sem,Bool.true_or,Bool.or_true,Bool.false_or,Bool.or_false,Bool.true_and,Bool.false_and,Bool.and_true,Bool.and_false,Bool.not_true,Bool.not_false,not_any]),hk2⟩
  ·by_cases b5 : e.vs.length = 0
   ·exact ⟨_,call_ret' K _ (fn := t87) rfl rfl (by simp (config := { maxSteps := 4000000 }) (disch := omega) only [t87,go_sem,TM.undef,h74,encEs_len,TM.one_length,Bool.true_or,Bool.or_true,Bool.false_or,Bool.or_false,Bool.true_and,Bool.false_and,Bool.and_true,Bool.and_false,Bool.not_true,Bool.not_false,not_any] <;> simp (disch := omega) only [go_sem,Bool.true_or,Bool.or_true,Bool.false_or,Bool.or_false,Bool.true_and,Bool.false_and,Bool.and_true,Bool.and_false,Bool.not_true,Bool.not_false,not_any]),hk1⟩
   ·exact ⟨_,call_ret' K _ (fn := t87) rfl rfl (by simp (config := { maxSteps := 4000000 }) (disch := omega) only [t87,go_sem,TM.undef,h74,encEs_len,TM.one_length,Bool.true_or,Bool.or_true,Bool.false_or,Bool.or_false,Bool.true_and,Bool.false_and,Bool.and_true,Bool.and_false,Bool.not_true,Bool.not_false,not_any,hc1,hc2,get_app1,get_app2,set_app1,h119,h120] <;> simp (disch := omega) only [go_sem,Bool.true_or,Bool.or_true,Bool.false_or,Bool.or_false,Bool.true_and,Bool.false_and,Bool.and_true,Bool.and_false,Bool.not_true,Bool.not_false,not_any]),hk2⟩
 by_cases b4 : 0 < e.vs.length
 ·exact ⟨_,call_ret' K _ (fn := t87) rfl rfl (by simp (config := { maxSteps := 4000000 }) (disch := omega) only [t87,go_sem,TM.undef,h74,encEs_len,TM.one_length,Bool.true_or,Bool.or_true,Bool.false_or,Bool.or_false,Bool.true_and,Bool.false_and,Bool.and_true,Bool.and_false,Bool.not_true,Bool.not_false,not_any] <;> simp (disch := omega) only [go_sem,Bool.true_or,Bool.or_true,Bool.false_or,Bool.or_false,Bool.true_and,Bool.false_and,Bool.and_true,Bool.and_false,Bool.not_true,Bool.not_false,not_any]),hk1⟩
 cases r
 rotate_left
 ·exact ⟨_,call_ret' K _ (fn := t87) rfl rfl (by simp (config := { maxSteps := 4000000 }) (disch := omega) only [t87,go_sem,TM.undef,h74,encEs_len,TM.one_length,Bool.true_or,Bool.or_true,Bool.false_or,Bool.or_false,Bool.true_and,Bool.false_and,Bool.and_true,Bool.and_false,Bool.not_true,Bool.not_false,not_any] <;> simp (disch := omega) only [go_sem,Bool.true_or,Bool.or_true,Bool.false_or,Bool.or_false,Bool.true_and,Bool.false_and,Bool.and_true,Bool.and_false,Bool.not_true,Bool.not_false,not_any]),hk1⟩
 exact ⟨_,call_ret' K _ (fn := t87) rfl rfl (by simp (config := { maxSteps := 4000000 }) (disch := omega) only [t87,go_sem,TM.undef,h74,encEs_len,TM.one_length,Bool.true_or,Bool.or_true,Bool.false_or,Bool.or_false,Bool.true_and,Bool.false_and,Bool.and_true,Bool.and_false,Bool.not_true,Bool.not_false,not_any,hc1,hc2,get_app1,get_app2,set_app1,h119,h120] <;> simp (disch := omega) only [go_sem,Bool.true_or,Bool.or_true,Bool.false_or,Bool.or_false,Bool.true_and,Bool.false_and,Bool.and_true,Bool.and_false,Bool.not_true,Bool.not_false,not_any]),hk2⟩
theorem frm_ft (p : Pg) (ib ik ir ic : Nat) (e : Ex) (hw : e.w ≤ 1048576) (S : Store) (hc : S[ic]? = some (ckB p ib ik ir)) (hcl : p.cs.length ≤ 2000000) (kids : Int) (word : List UInt8) (is : Bool) (hs : ofF e.k e.n = ⟨false,kids,true,word,is⟩) (h7 : e.k ≠ 7) (hk : e.k ≠ 1 ∧ e.k ≠ 2 ∧ e.k ≠ 3 ∧ e.k ≠ 4 ∧ e.k ≠ 5) : Ends p ib ik ir ic e S (frmF p e) := by
 have hwe := Ex.w_eq e
 have hwl := Ex.ws_len e.ks
 have h74 := call74 e []
 rw [hs] at h74
 simp only [encS] at h74
 have hlt := lt_get hc
 have h119 := call119
 have hk1 := Keep.app [] S [Block.cells 55 false [.ptr ic 58 0]]
 have hk2 := hk1.trans (Keep.app [] _ [Block.cells 135 false [.fn 119 [] []]])
 have hc1 : (S ++ [Block.cells 55 false [.ptr ic 58 0]])[ic]? = some (ckB p ib ik ir) := get_appO hc _
 have hc2 : (S ++ [Block.cells 55 false [.ptr ic 58 0]] ++ [Block.cells 135 false [.fn 119 [] []]])[ic]? = some (ckB p ib ik ir) := get_appO hc1 _
 have h120 := call120 121 (fun v => !decide (0 ≤ v ∧ v < p.vr)) (S ++ [Block.cells 55 false [TV.ptr ic 58 0]]).length 135 S.length 55 e.gv e.vs (by omega) _ (fun x _ => call121 p ib ik ir ic S.length (S ++ [Block.cells 55 false [.ptr ic 58 0]]).length x (S ++ [Block.cells 55 false [.ptr ic 58 0]] ++ [Block.cells 135 false [.fn 119 [] []]]) hc2 (get_app2 ..) (get_app1 ..))
 have hf : frmF p e = (!(!is || decide ((e.ks.length : Int) < kids) || (decide (kids < e.ks.length) && !true) || (!false && decide (e.n ≠ 0)) || (decide (e.k ≠ 7) && (decide (0 < e.vs.length) || e.r)) || (e.r && decide (e.vs.length = 0))) && frmB p e) := by
  unfold frmF frmA; rw [hs]
 rw [hf]
 clear hf hs
 unfold frmB
 rw [encE_eq] at h74
 unfold Ends
 rw [encE_eq]
 generalize e.r = r at h74 ⊢
 cases is
 ·exact ⟨_,call_ret' K _ (fn := t87) rfl rfl (by simp (config := { maxSteps := 4000000 }) (disch := omega) only [t87,go_sem,TM.undef,h74,encEs_len,TM.one_length,Bool.true_or,Bool.or_true,Bool.false_or,Bool.or_false,Bool.true_and,Bool.false_and,Bool.and_true,Bool.and_false,Bool.not_true,Bool.not_false,not_any] <;> simp (disch := omega) only [go_sem,Bool.true_or,Bool.or_true,Bool.false_or,Bool.or_false,Bool.true_and,Bool.false_and,Bool.and_true,Bool.and_false,Bool.not_true,Bool.not_false,not_any]),hk1⟩
 by_cases b1 : (e.ks.length : Int) < kids
 ·exact ⟨_,call_ret' K _ (fn := t87) rfl rfl (by simp (config := { maxSteps := 4000000 }) (disch := omega) only [t87,go_sem,TM.undef,h74,encEs_len,TM.one_length,Bool.true_or,Bool.or_true,Bool.false_or,Bool.or_false,Bool.true_and,Bool.false_and,Bool.and_true,Bool.and_false,Bool.not_true,Bool.not_false,not_any] <;> simp (disch := omega) only [go_sem,Bool.true_or,Bool.or_true,Bool.false_or,Bool.or_false,Bool.true_and,Bool.false_and,Bool.and_true,Bool.and_false,Bool.not_true,Bool.not_false,not_any]),hk1⟩
 by_cases b2 : kids < (e.ks.length : Int)
 ·by_cases b3 : e.n = 0
  rotate_left
  ·exact ⟨_,call_ret' K _ (fn := t87) rfl rfl (by simp (config := { maxSteps := 4000000 }) (disch := omega) only [t87,go_sem,TM.undef,h74,encEs_len,TM.one_length,Bool.true_or,Bool.or_true,Bool.false_or,Bool.or_false,Bool.true_and,Bool.false_and,Bool.and_true,Bool.and_false,Bool.not_true,Bool.not_false,not_any] <;> simp (disch := omega) only [go_sem,Bool.true_or,Bool.or_true,Bool.false_or,Bool.or_false,Bool.true_and,Bool.false_and,Bool.and_true,Bool.and_false,Bool.not_true,Bool.not_false,not_any]),hk1⟩
  by_cases b4 : 0 < e.vs.length
  ·exact ⟨_,call_ret' K _ (fn := t87) rfl rfl (by simp (config := { maxSteps := 4000000 }) (disch := omega) only [t87,go_sem,TM.undef,h74,encEs_len,TM.one_length,Bool.true_or,Bool.or_true,Bool.false_or,Bool.or_false,Bool.true_and,Bool.false_and,Bool.and_true,Bool.and_false,Bool.not_true,Bool.not_false,not_any] <;> simp (disch := omega) only [go_sem,Bool.true_or,Bool.or_true,Bool.false_or,Bool.or_false,Bool.true_and,Bool.false_and,Bool.and_true,Bool.and_false,Bool.not_true,Bool.not_false,not_any]),hk1⟩
  cases r
  rotate_left
  ·exact ⟨_,call_ret' K _ (fn := t87) rfl rfl (by simp (config := { maxSteps := 4000000 }) (disch := omega) only [t87,go_sem,TM.undef,h74,encEs_len,TM.one_length,Bool.true_or,Bool.or_true,Bool.false_or,Bool.or_false,Bool.true_and,Bool.false_and,Bool.and_true,Bool.and_false,Bool.not_true,Bool.not_false,not_any] <;> simp (disch := omega) only [go_sem,Bool.true_or,Bool.or_true,Bool.false_or,Bool.or_false,Bool.true_and,Bool.false_and,Bool.and_true,Bool.and_false,Bool.not_true,Bool.not_false,not_any]),hk1⟩
  exact ⟨_,call_ret' K _ (fn := t87) rfl rfl (by simp (config := { maxSteps := 4000000 }) (disch := omega) only [t87,go_sem,TM.undef,h74,encEs_len,TM.one_length,Bool.true_or,Bool.or_true,Bool.false_or,Bool.or_false,Bool.true_and,Bool.false_and,Bool.and_true,Bool.and_false,Bool.not_true,Bool.not_false,not_any,hc1,hc2,get_app1,get_app2,set_app1,h119,h120] <;> simp (disch := omega) only [go_sem,Bool.true_or,Bool.or_true,Bool.false_or,Bool.or_false,Bool.true_and,Bool.false_and,Bool.and_true,Bool.and_false,Bool.not_true,Bool.not_false,not_any]),hk2⟩
 by_cases b3 : e.n = 0
 rotate_left
 ·exact ⟨_,call_ret' K _ (fn := t87) rfl rfl (by simp (config := { maxSteps := 4000000 }) (disch := omega) only [t87,go_sem,TM.undef,h74,encEs_len,TM.one_length,Bool.true_or,Bool.or_true,Bool.false_or,Bool.or_false,Bool.true_and,Bool.false_and,Bool.and_true,Bool.and_false,Bool.not_true,Bool.not_false,not_any] <;> simp (disch := omega) only [go_sem,Bool.true_or,Bool.or_true,Bool.false_or,Bool.or_false,Bool.true_and,Bool.false_and,Bool.and_true,Bool.and_false,Bool.not_true,Bool.not_false,not_any]),hk1⟩
 by_cases b4 : 0 < e.vs.length
 ·exact ⟨_,call_ret' K _ (fn := t87) rfl rfl (by simp (config := { maxSteps := 4000000 }) (disch := omega) only [t87,go_sem,TM.undef,h74,encEs_len,TM.one_length,Bool.true_or,Bool.or_true,Bool.false_or,Bool.or_false,Bool.true_and,Bool.false_and,Bool.and_true,Bool.and_false,Bool.not_true,Bool.not_false,not_any] <;> simp (disch := omega) only [go_sem,Bool.true_or,Bool.or_true,Bool.false_or,Bool.or_false,Bool.true_and,Bool.false_and,Bool.and_true,Bool.and_false,Bool.not_true,Bool.not_false,not_any]),hk1⟩
 cases r
 rotate_left
 ·exact ⟨_,call_ret' K _ (fn := t87) rfl rfl (by simp (config := { maxSteps := 4000000 }) (disch := omega) only [t87,go_sem,TM.undef,h74,encEs_len,TM.one_length,Bool.true_or,Bool.or_true,Bool.false_or,Bool.or_false,Bool.true_and,Bool.false_and,Bool.and_true,Bool.and_false,Bool.not_true,Bool.not_false,not_any] <;> simp (disch := omega) only [go_sem,Bool.true_or,Bool.or_true,Bool.false_or,Bool.or_false,Bool.true_and,Bool.false_and,Bool.and_true,Bool.and_false,Bool.not_true,Bool.not_false,not_any]),hk1⟩
 exact ⟨_,call_ret' K _ (fn := t87) rfl rfl (by simp (config := { maxSteps := 4000000 }) (disch := omega) only [t87,go_sem,TM.undef,h74,encEs_len,TM.one_length,Bool.true_or,Bool.or_true,Bool.false_or,Bool.or_false,Bool.true_and,Bool.false_and,Bool.and_true,Bool.and_false,Bool.not_true,Bool.not_false,not_any,hc1,hc2,get_app1,get_app2,set_app1,h119,h120] <;> simp (disch := omega) only [go_sem,Bool.true_or,Bool.or_true,Bool.false_or,Bool.or_false,Bool.true_and,Bool.false_and,Bool.and_true,Bool.and_false,Bool.not_true,Bool.not_false,not_any]),hk2⟩
theorem call87 (p : Pg) (ib ik ir ic : Nat) (e : Ex) (hw : e.w ≤ 1048576) (S : Store) (hc : S[ic]? = some (ckB p ib ik ir)) (hcl : p.cs.length ≤ 2000000) : Ends p ib ik ir ic e S (frmF p e) := by
 have hs : ∃ num kids more word is,ofF e.k e.n = ⟨num,kids,more,word,is⟩ := ⟨_,_,_,_,_,rfl⟩
 obtain ⟨num,kids,more,word,is,hs⟩ := hs
 by_cases a : e.k = 1 ∨ e.k = 2 ∨ e.k = 3 ∨ e.k = 4 ∨ e.k = 5 ∨ e.k = 9
 ·have h1 : num = true ∧ more = false := by
   unfold ofF at hs
   rcases a with a | a | a | a | a | a <;> rw [a] at hs <;> simp at hs <;> (first | exact ⟨hs.1.symm,hs.2.2.1.symm⟩ | exact ⟨hs.1,hs.2.2.1⟩ | exact ⟨hs.1,hs.2.2.1.symm⟩ | exact ⟨hs.1.symm,hs.2.2.1⟩)
  obtain ⟨rfl,rfl⟩ := h1
  exact frm_tf p ib ik ir ic e hw S hc hcl kids word is hs (by omega)
 by_cases b : e.k = 8 ∨ e.k = 10
 ·have h1 : num = false ∧ more = true := by
   unfold ofF at hs
   rcases b with a | a <;> rw [a] at hs <;> simp at hs <;> (first | exact ⟨hs.1.symm,hs.2.2.1.symm⟩ | exact ⟨hs.1,hs.2.2.1⟩ | exact ⟨hs.1,hs.2.2.1.symm⟩ | exact ⟨hs.1.symm,hs.2.2.1⟩)
  obtain ⟨rfl,rfl⟩ := h1
  exact frm_ft p ib ik ir ic e hw S hc hcl kids word is hs (by omega) (by omega)
 by_cases c : e.k = 11 ∧ ¬ (e.n < 0 ∨ 2 < e.n)
 ·have h1 : num = true ∧ more = false := by
   unfold ofF at hs
   rw [c.1] at hs
   simp only [Int.reduceEq,↓reduceIte,if_neg c.2,Shp.mk.injEq] at hs
   (first | exact ⟨hs.1.symm,hs.2.2.1.symm⟩ | exact ⟨hs.1,hs.2.2.1⟩ | exact ⟨hs.1,hs.2.2.1.symm⟩ | exact ⟨hs.1.symm,hs.2.2.1⟩)
  obtain ⟨rfl,rfl⟩ := h1
  exact frm_tf p ib ik ir ic e hw S hc hcl kids word is hs (by omega)
 ·have h1 : num = false ∧ more = false := by
   unfold ofF at hs
   have e1 : e.k ≠ 1 := by omega
   have e2 : e.k ≠ 2 := by omega
   have e3 : e.k ≠ 3 := by omega
   have e4 : e.k ≠ 4 := by omega
   have e5 : e.k ≠ 5 := by omega
   have e8 : e.k ≠ 8 := by omega
   have e9 : e.k ≠ 9 := by omega
   have e10 : e.k ≠ 10 := by omega
   simp only [e1,e2,e3,e4,e5,e8,e9,e10,↓reduceIte] at hs
   by_cases e6 : e.k = 6
   ·simp [e6] at hs; (first | exact ⟨hs.1.symm,hs.2.2.1.symm⟩ | exact ⟨hs.1,hs.2.2.1⟩ | exact ⟨hs.1,hs.2.2.1.symm⟩ | exact ⟨hs.1.symm,hs.2.2.1⟩)
   by_cases e7 : e.k = 7
   ·simp [e7] at hs; (first | exact ⟨hs.1.symm,hs.2.2.1.symm⟩ | exact ⟨hs.1,hs.2.2.1⟩ | exact ⟨hs.1,hs.2.2.1.symm⟩ | exact ⟨hs.1.symm,hs.2.2.1⟩)
   by_cases e11 : e.k = 11
   ·have hn : e.n < 0 ∨ 2 < e.n := by
     rcases Classical.em (e.n < 0 ∨ 2 < e.n) with h | h
     ·exact h
     ·exact absurd ⟨e11,h⟩ c
    simp [e11,hn] at hs; (first | exact ⟨hs.1.symm,hs.2.2.1.symm⟩ | exact ⟨hs.1,hs.2.2.1⟩ | exact ⟨hs.1,hs.2.2.1.symm⟩ | exact ⟨hs.1.symm,hs.2.2.1⟩)
   by_cases e12 : e.k = 12
   ·simp [e12] at hs; (first | exact ⟨hs.1.symm,hs.2.2.1.symm⟩ | exact ⟨hs.1,hs.2.2.1⟩ | exact ⟨hs.1,hs.2.2.1.symm⟩ | exact ⟨hs.1.symm,hs.2.2.1⟩)
   by_cases e13 : e.k = 13
   ·simp [e13] at hs; (first | exact ⟨hs.1.symm,hs.2.2.1.symm⟩ | exact ⟨hs.1,hs.2.2.1⟩ | exact ⟨hs.1,hs.2.2.1.symm⟩ | exact ⟨hs.1.symm,hs.2.2.1⟩)
   by_cases e14 : e.k = 14
   ·simp [e14] at hs; (first | exact ⟨hs.1.symm,hs.2.2.1.symm⟩ | exact ⟨hs.1,hs.2.2.1⟩ | exact ⟨hs.1,hs.2.2.1.symm⟩ | exact ⟨hs.1.symm,hs.2.2.1⟩)
   simp [e6,e7,e11,e12,e13,e14] at hs; (first | exact ⟨hs.1.symm,hs.2.2.1.symm⟩ | exact ⟨hs.1,hs.2.2.1⟩ | exact ⟨hs.1,hs.2.2.1.symm⟩ | exact ⟨hs.1.symm,hs.2.2.1⟩)
  obtain ⟨rfl,rfl⟩ := h1
  exact frm_ff p ib ik ir ic e hw S hc hcl kids word is hs (by omega)
def addV : List Int → List Int → Option (List Int)
 | [],B => some B
 | v :: r,B => if v ∈ B then none else addV r (v :: B)
mutual
def chk (p : Pg) : Ex → Nat → List Int → List Int → List Int → Int × List Int × List Int
 | .mk k n gv vs r g ks,depth,B,C,A =>
  if 4000 ≤ depth then (5,B,C) else if frmF p (.mk k n gv vs r g ks) = false then (4,B,C) else
  match addV vs B with
  | none => (14,B,C)
  | some B1 =>
   if k = 1 ∧ n ∈ C then (14,B,C) else
   if (k = 2 ∨ k = 4) ∧ n ∉ vs ++ A then (6,B,C) else
   chks p ks (depth + 1) B1 (if k = 1 then n :: C else C) (vs ++ A)
def chks (p : Pg) : List Ex → Nat → List Int → List Int → List Int → Int × List Int × List Int
 | [],_,B,C,_ => (0,B,C)
 | e :: es,depth,B,C,A =>
  match chk p e depth B C A with
  | (f,B1,C1) => if f = 0 then chks p es depth B1 C1 A else (f,B1,C1)
end
theorem chk_eq (p : Pg) (e : Ex) (depth : Nat) (B C A : List Int) : chk p e depth B C A = if 4000 ≤ depth then (5,B,C) else if frmF p e = false then (4,B,C) else
  match addV e.vs B with
  | none => (14,B,C)
  | some B1 =>
   if e.k = 1 ∧ e.n ∈ C then (14,B,C) else
   if (e.k = 2 ∨ e.k = 4) ∧ e.n ∉ e.vs ++ A then (6,B,C) else
   chks p e.ks (depth + 1) B1 (if e.k = 1 then e.n :: C else C) (e.vs ++ A) := by
 cases e; rw [chk]; rfl
def MapHas (S : Store) (i : Nat) (B : List Int) : Prop := ∃ l c,S[i]? = some (.mp (mpR boxI l) c) ∧ ∀ v,cntR l v = if v ∈ B then 1 else 0
theorem MapHas.congr {S : Store} {i : Nat} {B B' : List Int} (h : MapHas S i B) (hb : ∀ v,v ∈ B ↔ v ∈ B') : MapHas S i B' := by
 obtain ⟨l,c,h1,h2⟩ := h
 refine ⟨l,c,h1,fun v => ?_⟩
 rw [h2 v]
 by_cases hv : v ∈ B
 ·rw [if_pos hv,if_pos ((hb v).1 hv)]
 ·rw [if_neg hv,if_neg (fun h => hv ((hb v).2 h))]
theorem MapHas.put {S : Store} {i : Nat} {B : List Int} {l : List (Nat × Int × Int)} {c : Nat} (h1 : S[i]? = some (.mp (mpR boxI l) c)) (h2 : ∀ v,cntR l v = if v ∈ B then 1 else 0) (k : Int) :
  MapHas (S.set i (.mp (mpR boxI (putR l c k 1)) (clkR l c k))) i (k :: B) := by
 refine ⟨_,_,get_setS (lt_get h1) _,fun v => ?_⟩
 rw [cntR_put]
 by_cases e : k = v
 ·subst e; simp
 ·simp [e,h2 v,Ne.symm e]
theorem MapHas.del {S : Store} {i : Nat} {B B' : List Int} {l : List (Nat × Int × Int)} {c : Nat} (h1 : S[i]? = some (.mp (mpR boxI l) c)) (h2 : ∀ v,cntR l v = if v ∈ B then 1 else 0) (k : Int) (hb : ∀ v,v ∈ B' ↔ v ∈ B ∧ v ≠ k) :
  MapHas (S.set i (.mp (mpR boxI (putR l c k 0)) (clkR l c k))) i B' := by
 refine ⟨_,_,get_setS (lt_get h1) _,fun v => ?_⟩
 rw [cntR_put]
 by_cases e : k = v
 ·subst e
  have : k ∉ B' := fun h => ((hb k).1 h).2 rfl
  simp [this]
 ·rw [if_neg e,h2 v]
  by_cases hv : v ∈ B
  ·rw [if_pos hv,if_pos ((hb v).2 ⟨hv,Ne.symm e⟩)]
  ·rw [if_neg hv,if_neg (fun h => hv ((hb v).1 h).1)]
theorem MapHas.keep {S S' : Store} {i : Nat} {B : List Int} (h : MapHas S i B) (k : S'[i]? = S[i]?) : MapHas S' i B := by
 obtain ⟨l,c,h1,h2⟩ := h
 exact ⟨l,c,k.trans h1,h2⟩
structure CkS (p : Pg) (ic ib ik ir : Nat) (S : Store) (B C A : List Int) : Prop where
 cb : ic ≠ ib
 ck : ic ≠ ik
 cr : ic ≠ ir
 bk : ib ≠ ik
 br : ib ≠ ir
 kr : ik ≠ ir
 at' : S[ic]? = some (ckB p ib ik ir)
 b : MapHas S ib B
 c : MapHas S ik C
 a : MapHas S ir A
 sub : ∀ v ∈ A,v ∈ B
theorem CkS.keep {p : Pg} {ic ib ik ir : Nat} {S S' : Store} {B C A : List Int} (h : CkS p ic ib ik ir S B C A) (k : Keep [] S S') : CkS p ic ib ik ir S' B C A := by
 obtain ⟨lb,cb,b1,b2⟩ := h.b
 obtain ⟨lk,ck,k1,k2⟩ := h.c
 obtain ⟨la,ca,a1,a2⟩ := h.a
 exact ⟨h.cb,h.ck,h.cr,h.bk,h.br,h.kr,k.get _ _ (by simp) h.at',⟨lb,cb,k.get _ _ (by simp) b1,b2⟩,⟨lk,ck,k.get _ _ (by simp) k1,k2⟩,⟨la,ca,k.get _ _ (by simp) a1,a2⟩,h.sub⟩
theorem CkS.congrA {p : Pg} {ic ib ik ir : Nat} {S : Store} {B C A A' : List Int} (h : CkS p ic ib ik ir S B C A) (ha : ∀ v,v ∈ A ↔ v ∈ A') : CkS p ic ib ik ir S B C A' :=
 ⟨h.cb,h.ck,h.cr,h.bk,h.br,h.kr,h.at',h.b,h.c,h.a.congr ha,fun v hv => h.sub v ((ha v).2 hv)⟩
theorem CkS.putV {p : Pg} {ic ib ik ir : Nat} {S : Store} {B C A : List Int} (h : CkS p ic ib ik ir S B C A) {lb : List (Nat × Int × Int)} {cb : Nat} (b1 : S[ib]? = some (.mp (mpR boxI lb) cb)) (b2 : ∀ v,cntR lb v = if v ∈ B then 1 else 0)
  {la : List (Nat × Int × Int)} {ca : Nat} (a1 : S[ir]? = some (.mp (mpR boxI la) ca)) (a2 : ∀ v,cntR la v = if v ∈ A then 1 else 0) (k : Int) :
  CkS p ic ib ik ir ((S.set ib (.mp (mpR boxI (putR lb cb k 1)) (clkR lb cb k))).set ir (.mp (mpR boxI (putR la ca k 1)) (clkR la ca k))) (k :: B) C (k :: A) := by
 have hbr := h.br
 have hkr := h.kr
 have hbk := h.bk
 refine ⟨h.cb,h.ck,h.cr,h.bk,h.br,h.kr,?_,?_,?_,?_,?_⟩
 ·rw [get_setN (Ne.symm h.cr),get_setN (Ne.symm h.cb)]; exact h.at'
 ·exact (MapHas.put b1 b2 k).keep (get_setN (Ne.symm hbr) _)
 ·exact h.c.keep (by rw [get_setN (Ne.symm hkr),get_setN hbk])
 ·exact MapHas.put (by rw [get_setN hbr]; exact a1) a2 k
 ·intro v hv
  rcases List.mem_cons.1 hv with rfl | hv
  ·simp
  ·exact List.mem_cons_of_mem _ (h.sub v hv)
theorem loop44b (p : Pg) (ic ib ik ir : Nat) (e : Ex) (hw : e.w ≤ 1048576) (C : List Int) (x1 x2 x3 x4 x6 x7 x8 x9 x10 x16 x17 x18 x19 x20 x21 x22 x23 x24 x25 x26 x27 : TV) : ∀ (k i : Nat) (x5 x14 x15 : TV) (S : Store) (B A : List Int),i + k = e.vs.length → CkS p ic ib ik ir S B C A →
  ∃ j r y5 y13 y14 y15 S',(j = .ret ∧ r = .iv (.int .i64 14) ∧ addV (e.vs.drop i) B = none ∨ j = .exit 1 ∧ r = x4 ∧ ∃ B1,addV (e.vs.drop i) B = some B1 ∧ CkS p ic ib ik ir S' B1 C ((e.vs.drop i).reverse ++ A)) ∧ Keep [ib,ik,ir] S S' ∧
   lp' (lim K) t44L2 [.ptr ic 58 0,x1,x2,x3,x4,x5,x6,x7,x8,x9,x10,.iv (.sl e.gv (TM.one (.int .i64) e.vs)),.iv (.int .i64 e.vs.length),.iv (.int .i64 (i : Int)),x14,x15,x16,x17,x18,x19,x20,x21,x22,x23,x24,x25,x26,x27] S
    = .ret (j,[.ptr ic 58 0,x1,x2,x3,r,y5,x6,x7,x8,x9,x10,.iv (.sl e.gv (TM.one (.int .i64) e.vs)),.iv (.int .i64 e.vs.length),y13,y14,y15,x16,x17,x18,x19,x20,x21,x22,x23,x24,x25,x26,x27],S')
 | 0,i,x5,x14,x15,S,B,A,h,hs => by
  obtain rfl : i = e.vs.length := by omega
  refine ⟨.exit 1,x4,?_,?_,?_,?_,S,.inr ⟨rfl,rfl,B,by rw [List.drop_length]; rfl,by rw [List.drop_length]; exact hs⟩,.refl _ _,loop_at K _ _ t44L2.eq_1 ?_⟩
  rotate_left 4
  ·simp (config := { maxSteps := 4000000 }) (disch := omega) only [go_sem]
   rfl
 | k + 1,i,x5,x14,x15,S,B,A,h,hs => by
  have hwe := Ex.w_eq e
  have hla : i < e.vs.length := by omega
  have hix := ix_one (f := IV.int .i64) (t := e.gv) (l := e.vs) (i := (i : Int)) (by omega)
  rw [Int.toNat_natCast] at hix
  have hdr := drop_get hla
  obtain ⟨lb,cb,b1,b2⟩ := hs.b
  obtain ⟨la,ca,a1,a2⟩ := hs.a
  have hat := hs.at'
  have n1 := hs.cb
  have n2 := hs.ck
  have n3 := hs.cr
  have n4 := hs.bk
  have n5 := hs.br
  have n6 := hs.kr
  generalize hx : e.vs.getD i default = x at *
  have b2x := b2 x
  by_cases hm : x ∈ B
  ·rw [if_pos hm] at b2x
   refine ⟨.ret,.iv (.int .i64 14),?_,?_,?_,?_,S,.inl ⟨rfl,rfl,by rw [hdr,addV,if_pos hm]⟩,.refl _ _,loop_at K _ _ t44L2.eq_1 ?_⟩
   rotate_left 4
   ·simp (config := { maxSteps := 4000000 }) (disch := omega) only [go_sem,hix,hat,b1,b2x]
    rfl
  ·rw [if_neg hm] at b2x
   obtain ⟨j,r,y5,y13,y14,y15,S',hj,hk,ih⟩ := loop44b p ic ib ik ir e hw C x1 x2 x3 x4 x6 x7 x8 x9 x10 x16 x17 x18 x19 x20 x21 x22 x23 x24 x25 x26 x27 k (i + 1) (.iv (.int .i64 x)) (.iv (.bool true)) (.iv (.bool false)) _ _ _ (by omega) (hs.putV b1 b2 a1 a2 x)
   rw [show ((i + 1 : Nat) : Int) = (i : Int) + 1 by omega] at ih
   refine ⟨j,r,y5,y13,y14,y15,S',?_,((Keep.set S (by simp) _).trans (Keep.set _ (by simp) _)).trans hk,loop_at K _ _ t44L2.eq_1 ?_⟩
   ·rw [hdr,addV,if_neg hm,List.reverse_cons,List.append_assoc]
    exact hj
   ·simp (config := { maxSteps := 4000000 }) (disch := omega) only [go_sem,hix,hat,b1,b2x,a1,get_setN,wrap_i64]
    exact congrArg er ih
theorem addV_mem : ∀ {l B B1 : List Int},addV l B = some B1 → (∀ v,v ∈ B1 ↔ v ∈ l ∨ v ∈ B) ∧ (∀ v ∈ l,v ∉ B) ∧ l.Nodup
 | [],B,B1,h => by simp [addV] at h; subst h; simp
 | x :: r,B,B1,h => by
  unfold addV at h
  split at h
  ·cases h
  ·rename_i hx
   obtain ⟨h1,h2,h3⟩ := addV_mem h
   refine ⟨fun v => ?_,?_,?_⟩
   ·rw [h1 v]
    simp only [List.mem_cons]
    constructor
    ·rintro (h | h | h)
     ·exact .inl (.inr h)
     ·exact .inl (.inl h)
     ·exact .inr h
    ·rintro ((h | h) | h)
     ·exact .inr (.inl h)
     ·exact .inl h
     ·exact .inr (.inr h)
   ·intro v hv
    rcases List.mem_cons.1 hv with rfl | hv
    ·exact hx
    ·exact fun hb => h2 v hv (List.mem_cons_of_mem _ hb)
   ·rw [List.nodup_cons]
    exact ⟨fun hm => h2 x hm (by simp),h3⟩
theorem CkS.delA {p : Pg} {ic ib ik ir : Nat} {S : Store} {B C A : List Int} (h : CkS p ic ib ik ir S B C A) {la : List (Nat × Int × Int)} {ca : Nat} (a1 : S[ir]? = some (.mp (mpR boxI la) ca)) (a2 : ∀ v,cntR la v = if v ∈ A then 1 else 0) (k : Int) {A' : List Int} (ha : ∀ v,v ∈ A' ↔ v ∈ A ∧ v ≠ k) :
  CkS p ic ib ik ir (S.set ir (.mp (mpR boxI (putR la ca k 0)) (clkR la ca k))) B C A' := by
 refine ⟨h.cb,h.ck,h.cr,h.bk,h.br,h.kr,?_,h.b.keep (get_setN (Ne.symm h.br) _),h.c.keep (get_setN (Ne.symm h.kr) _),MapHas.del a1 a2 k ha,fun v hv => h.sub v ((ha v).1 hv).1⟩
 rw [get_setN (Ne.symm h.cr)]; exact h.at'
theorem loop44u (p : Pg) (ic ib ik ir : Nat) (e : Ex) (hw : e.w ≤ 1048576) (B C : List Int) (x1 x2 x3 x4 x5 x6 x7 x9 x10 x11 x12 x13 x14 x15 x16 x17 x18 x19 x20 x21 x22 x23 : TV) : ∀ (k i : Nat) (x8 x27 : TV) (S : Store) (A : List Int),i + k = e.vs.length → CkS p ic ib ik ir S B C A →
  ∃ y8 y27 S',(∀ A',(∀ v,v ∈ A' ↔ v ∈ A ∧ v ∉ e.vs.drop i) → CkS p ic ib ik ir S' B C A') ∧ Keep [ib,ik,ir] S S' ∧
   lp' (lim K) t44L0 [.ptr ic 58 0,x1,x2,x3,x4,x5,x6,x7,x8,x9,x10,x11,x12,x13,x14,x15,x16,x17,x18,x19,x20,x21,x22,x23,.iv (.sl e.gv (TM.one (.int .i64) e.vs)),.iv (.int .i64 e.vs.length),.iv (.int .i64 (i : Int)),x27] S
    = .ret (.exit 5,[.ptr ic 58 0,x1,x2,x3,x4,x5,x6,x7,y8,x9,x10,x11,x12,x13,x14,x15,x16,x17,x18,x19,x20,x21,x22,x23,.iv (.sl e.gv (TM.one (.int .i64) e.vs)),.iv (.int .i64 e.vs.length),.iv (.int .i64 e.vs.length),y27],S')
 | 0,i,x8,x27,S,A,h,hs => by
  obtain rfl : i = e.vs.length := by omega
  refine ⟨?_,?_,S,fun A' ha => hs.congrA (fun v => by rw [ha v,List.drop_length]; simp),.refl _ _,loop_at K _ _ t44L0.eq_1 ?_⟩
  rotate_left 2
  ·simp (config := { maxSteps := 4000000 }) (disch := omega) only [go_sem]
   rfl
 | k + 1,i,x8,x27,S,A,h,hs => by
  have hwe := Ex.w_eq e
  have hla : i < e.vs.length := by omega
  have hix := ix_one (f := IV.int .i64) (t := e.gv) (l := e.vs) (i := (i : Int)) (by omega)
  rw [Int.toNat_natCast] at hix
  have hdr := drop_get hla
  obtain ⟨la,ca,a1,a2⟩ := hs.a
  have hat := hs.at'
  generalize hx : e.vs.getD i default = x at *
  obtain ⟨y8,y27,S',hj,hk,ih⟩ := loop44u p ic ib ik ir e hw B C x1 x2 x3 x4 x5 x6 x7 x9 x10 x11 x12 x13 x14 x15 x16 x17 x18 x19 x20 x21 x22 x23 k (i + 1) (.iv (.int .i64 x)) (.iv (.bool true)) _ (A.filter fun v => decide (v ≠ x)) (by omega) (hs.delA a1 a2 x (fun v => by simp))
  rw [show ((i + 1 : Nat) : Int) = (i : Int) + 1 by omega] at ih
  refine ⟨y8,y27,S',fun A' ha => hj A' (fun v => ?_),(Keep.set S (by simp) _).trans hk,loop_at K _ _ t44L0.eq_1 ?_⟩
  ·rw [ha v,hdr]
   simp only [List.mem_cons,not_or,List.mem_filter,decide_eq_true_eq]
   constructor
   ·rintro ⟨h1,h2,h3⟩; exact ⟨⟨h1,h2⟩,h3⟩
   ·rintro ⟨⟨h1,h2⟩,h3⟩; exact ⟨h1,h2,h3⟩
  ·simp (config := { maxSteps := 4000000 }) (disch := omega) only [go_sem,hix,hat,a1,wrap_i64]
   exact congrArg er ih
def ChkOK (p : Pg) (ic ib ik ir : Nat) (N : Nat) : Prop := ∀ (e : Ex) (depth : Nat) (S : Store) (B C A : List Int),e.w ≤ N → depth ≤ 4000 → CkS p ic ib ik ir S B C A →
 ∃ S',(lim K).call 44 [.ptr ic 58 0,.iv (.agg (encE e)),.iv (.int .i64 depth)] S = .ret (.iv (.int .i64 (chk p e depth B C A).1),S') ∧ Keep [ib,ik,ir] S S' ∧ ((chk p e depth B C A).1 = 0 → CkS p ic ib ik ir S' (chk p e depth B C A).2.1 (chk p e depth B C A).2.2 A)
theorem loop44k {N : Nat} (p : Pg) (ic ib ik ir : Nat) (ih : ChkOK p ic ib ik ir N) (e : Ex) (hw : e.w ≤ N + 1) (hN : N + 1 ≤ 1048576) (depth : Nat) (hd : depth < 4000) (A : List Int) (x1 x3 x4 x5 x8 x9 x10 x11 x12 x13 x14 x15 x16 x17 x18 x24 x25 x26 x27 : TV) : ∀ (k i : Nat) (x6 x7 x22 x23 : TV) (S : Store) (B C : List Int),i + k = e.ks.length → CkS p ic ib ik ir S B C A →
  ∃ j r y6 y7 y21 y22 y23 S',(j = .ret ∧ r = .iv (.int .i64 (chks p (e.ks.drop i) (depth + 1) B C A).1) ∧ (chks p (e.ks.drop i) (depth + 1) B C A).1 ≠ 0 ∨ j = .exit 3 ∧ r = x4 ∧ (chks p (e.ks.drop i) (depth + 1) B C A).1 = 0 ∧ CkS p ic ib ik ir S' (chks p (e.ks.drop i) (depth + 1) B C A).2.1 (chks p (e.ks.drop i) (depth + 1) B C A).2.2 A) ∧ Keep [ib,ik,ir] S S' ∧
   lp' (lim K) t44L1 [.ptr ic 58 0,x1,.iv (.int .i64 depth),x3,x4,x5,x6,x7,x8,x9,x10,x11,x12,x13,x14,x15,x16,x17,x18,.iv (.sl e.g (encEs e.ks)),.iv (.int .i64 e.ks.length),.iv (.int .i64 (i : Int)),x22,x23,x24,x25,x26,x27] S
    = .ret (j,[.ptr ic 58 0,x1,.iv (.int .i64 depth),x3,r,x5,y6,y7,x8,x9,x10,x11,x12,x13,x14,x15,x16,x17,x18,.iv (.sl e.g (encEs e.ks)),.iv (.int .i64 e.ks.length),y21,y22,y23,x24,x25,x26,x27],S')
 | 0,i,x6,x7,x22,x23,S,B,C,h,hs => by
  obtain rfl : i = e.ks.length := by omega
  refine ⟨.exit 3,x4,?_,?_,?_,?_,?_,S,.inr ⟨rfl,rfl,by rw [List.drop_length,chks],by rw [List.drop_length,chks]; exact hs⟩,.refl _ _,loop_at K _ _ t44L1.eq_1 ?_⟩
  rotate_left 5
  ·simp (config := { maxSteps := 4000000 }) (disch := omega) only [go_sem]
   rfl
 | k + 1,i,x6,x7,x22,x23,S,B,C,h,hs => by
  have hla : i < e.ks.length := by omega
  have hwe := Ex.w_eq e
  have hwl := Ex.ws_len e.ks
  have hix := ixE (g := e.g) (ks := e.ks) (i := (i : Int)) (by omega)
  rw [Int.toNat_natCast] at hix
  have hdr := drop_get hla
  have hkw := Ex.kid_lt (d := e) (get_mem hla)
  generalize hx : e.ks.getD i default = x at *
  obtain ⟨S1,hc,hk1,hs1⟩ := ih x (depth + 1) S B C A (by omega) (by omega) hs
  rw [show ((depth + 1 : Nat) : Int) = (depth : Int) + 1 by omega] at hc
  rw [encE_eq] at hc
  have hun : chks p (x :: e.ks.drop (i + 1)) (depth + 1) B C A = if (chk p x (depth + 1) B C A).1 = 0 then chks p (e.ks.drop (i + 1)) (depth + 1) (chk p x (depth + 1) B C A).2.1 (chk p x (depth + 1) B C A).2.2 A else chk p x (depth + 1) B C A := by
   rw [chks]
  rw [hdr,hun]
  generalize hq : chk p x (depth + 1) B C A = q at *
  obtain ⟨f,B1,C1⟩ := q
  simp only at hc hs1 ⊢
  by_cases hf : f = 0
  ·obtain ⟨j,r,y6,y7,y21,y22,y23,S',hj,hk,ih2⟩ := loop44k p ic ib ik ir ih e hw hN depth hd A x1 x3 x4 x5 x8 x9 x10 x11 x12 x13 x14 x15 x16 x17 x18 x24 x25 x26 x27 k (i + 1) (lbE x) (.iv (.int .i64 f)) (.iv (.bool true)) (.iv (.bool false)) S1 B1 C1 (by omega) (hs1 hf)
   rw [show ((i + 1 : Nat) : Int) = (i : Int) + 1 by omega] at ih2
   refine ⟨j,r,y6,y7,y21,y22,y23,S',?_,hk1.trans hk,loop_at K _ _ t44L1.eq_1 ?_⟩
   ·rw [if_pos hf]; exact hj
   ·simp (config := { maxSteps := 4000000 }) (disch := omega) only [go_sem,hix,getE5,hc,wrap_i64]
    exact congrArg er ih2
  ·refine ⟨.ret,.iv (.int .i64 f),?_,?_,?_,?_,?_,S1,.inl ⟨rfl,by rw [if_neg hf],by rw [if_neg hf]; exact hf⟩,hk1,loop_at K _ _ t44L1.eq_1 ?_⟩
   rotate_left 5
   ·simp (config := { maxSteps := 4000000 }) (disch := omega) only [go_sem,hix,getE5,hc,wrap_i64]
    rfl
theorem CkS.putC {p : Pg} {ic ib ik ir : Nat} {S : Store} {B C A : List Int} (h : CkS p ic ib ik ir S B C A) {lc : List (Nat × Int × Int)} {cc : Nat} (c1 : S[ik]? = some (.mp (mpR boxI lc) cc)) (c2 : ∀ v,cntR lc v = if v ∈ C then 1 else 0) (k : Int) :
  CkS p ic ib ik ir (S.set ik (.mp (mpR boxI (putR lc cc k 1)) (clkR lc cc k))) B (k :: C) A := by
 refine ⟨h.cb,h.ck,h.cr,h.bk,h.br,h.kr,?_,h.b.keep (get_setN (Ne.symm h.bk) _),MapHas.put c1 c2 k,h.a.keep (get_setN h.kr _),h.sub⟩
 rw [get_setN (Ne.symm h.ck)]; exact h.at'
theorem tail44 {N : Nat} (p : Pg) (ic ib ik ir : Nat) (ih : ChkOK p ic ib ik ir N) (e : Ex) (hw : e.w ≤ N + 1) (hN : N + 1 ≤ 1048576) (depth : Nat) (hd : depth < 4000) (A B1 C1 : List Int) (hB : ∀ v ∈ e.vs,v ∉ A) (x1 x3 x5 x6 x7 x8 x9 x10 x11 x12 x13 x14 x15 x16 x17 x18 x22 x23 x24 x25 x26 x27 : TV) (S : Store) (hs : CkS p ic ib ik ir S B1 C1 (e.vs ++ A)) :
  ∃ j r y6 y7 y21 y22 y23 S2,(j = .ret ∧ r = .iv (.int .i64 (chks p e.ks (depth + 1) B1 C1 (e.vs ++ A)).1) ∧ (chks p e.ks (depth + 1) B1 C1 (e.vs ++ A)).1 ≠ 0 ∧ Keep [ib,ik,ir] S S2 ∨
    j = .exit 3 ∧ r = .iv (.int .i64 0) ∧ (chks p e.ks (depth + 1) B1 C1 (e.vs ++ A)).1 = 0 ∧ ∃ (y8 y27 : TV) (S3 : Store),CkS p ic ib ik ir S3 (chks p e.ks (depth + 1) B1 C1 (e.vs ++ A)).2.1 (chks p e.ks (depth + 1) B1 C1 (e.vs ++ A)).2.2 A ∧ Keep [ib,ik,ir] S S3 ∧
     lp' (lim K) t44L0 [.ptr ic 58 0,x1,.iv (.int .i64 depth),x3,.iv (.int .i64 0),x5,y6,y7,x8,x9,x10,x11,x12,x13,x14,x15,x16,x17,x18,.iv (.sl e.g (encEs e.ks)),.iv (.int .i64 e.ks.length),y21,y22,y23,.iv (.sl e.gv (TM.one (.int .i64) e.vs)),.iv (.int .i64 e.vs.length),.iv (.int .i64 0),x27] S2
      = .ret (.exit 5,[.ptr ic 58 0,x1,.iv (.int .i64 depth),x3,.iv (.int .i64 0),x5,y6,y7,y8,x9,x10,x11,x12,x13,x14,x15,x16,x17,x18,.iv (.sl e.g (encEs e.ks)),.iv (.int .i64 e.ks.length),y21,y22,y23,.iv (.sl e.gv (TM.one (.int .i64) e.vs)),.iv (.int .i64 e.vs.length),.iv (.int .i64 e.vs.length),y27],S3)) ∧
   lp' (lim K) t44L1 [.ptr ic 58 0,x1,.iv (.int .i64 depth),x3,.iv (.int .i64 0),x5,x6,x7,x8,x9,x10,x11,x12,x13,x14,x15,x16,x17,x18,.iv (.sl e.g (encEs e.ks)),.iv (.int .i64 e.ks.length),.iv (.int .i64 0),x22,x23,x24,x25,x26,x27] S
    = .ret (j,[.ptr ic 58 0,x1,.iv (.int .i64 depth),x3,r,x5,y6,y7,x8,x9,x10,x11,x12,x13,x14,x15,x16,x17,x18,.iv (.sl e.g (encEs e.ks)),.iv (.int .i64 e.ks.length),y21,y22,y23,x24,x25,x26,x27],S2) := by
 have hwe := Ex.w_eq e
 obtain ⟨j,r,y6,y7,y21,y22,y23,S2,hj,hk,l1⟩ := loop44k p ic ib ik ir ih e hw hN depth hd (e.vs ++ A) x1 x3 (.iv (.int .i64 0)) x5 x8 x9 x10 x11 x12 x13 x14 x15 x16 x17 x18 x24 x25 x26 x27 e.ks.length 0 x6 x7 x22 x23 S B1 C1 (by omega) hs
 rw [show ((0 : Nat) : Int) = 0 from rfl] at l1
 rw [List.drop_zero] at hj
 refine ⟨j,r,y6,y7,y21,y22,y23,S2,?_,l1⟩
 rcases hj with ⟨h1,h2,h3⟩ | ⟨h1,h2,h3,h4⟩
 ·exact .inl ⟨h1,h2,h3,hk⟩
 ·obtain ⟨y8,y27,S3,h5,hk2,l2⟩ := loop44u p ic ib ik ir e (by omega) _ _ x1 (.iv (.int .i64 depth)) x3 (.iv (.int .i64 0)) x5 y6 y7 x9 x10 x11 x12 x13 x14 x15 x16 x17 x18 (.iv (.sl e.g (encEs e.ks))) (.iv (.int .i64 e.ks.length)) y21 y22 y23 e.vs.length 0 x8 x27 S2 _ (by omega) h4
  rw [show ((0 : Nat) : Int) = 0 from rfl] at l2
  rw [List.drop_zero] at h5
  refine .inr ⟨h1,h2,h3,y8,y27,S3,h5 A (fun v => ?_),hk.trans hk2,l2⟩
  simp only [List.mem_append]
  constructor
  ·exact fun hv => ⟨.inr hv,fun hm => hB v hm hv⟩
  ·rintro ⟨h | h,h'⟩
   ·exact absurd h h'
   ·exact h
theorem call44 (p : Pg) (hp : p.cs.length ≤ 2000000) (ic ib ik ir : Nat) : ∀ N,N ≤ 1048576 → ChkOK p ic ib ik ir N
 | 0,hN => fun e depth S B C A hw hd hs => by have := Ex.w_eq e; omega
 | N + 1,hN => fun e depth S B C A hw hd hs => by
  have hwe := Ex.w_eq e
  rw [chk_eq]
  by_cases hdp : 4000 ≤ depth
  ·rw [if_pos hdp]
   refine ⟨S,call_ret' K _ (fn := t44) rfl rfl ?_,.refl _ _,fun h => absurd h (by decide : ¬ ((5 : Int) = 0))⟩
   rw [encE_eq]
   simp (config := { maxSteps := 4000000 }) (disch := omega) only [t44,go_sem,TM.undef]
  rw [if_neg hdp]
  obtain ⟨S1,h87,hk1⟩ := call87 p ib ik ir ic e (by omega) S hs.at' hp
  rw [encE_eq] at h87
  have hs1 := hs.keep hk1
  have hkk : Keep [ib,ik,ir] S S1 := hk1.mono (by simp)
  cases hf : frmF p e with
  | false =>
   rw [if_pos rfl]
   rw [hf] at h87
   refine ⟨S1,call_ret' K _ (fn := t44) rfl rfl ?_,hkk,fun h => absurd h (by decide : ¬ ((4 : Int) = 0))⟩
   rw [encE_eq]
   simp (config := { maxSteps := 4000000 }) (disch := omega) only [t44,go_sem,TM.undef,h87]
  | true =>
   rw [if_neg (by decide)]
   rw [hf] at h87
   obtain ⟨j,r,y5,y13,y14,y15,S2,hj,hk2,l2⟩ := loop44b p ic ib ik ir e (by omega) C (.iv (.agg (encE e))) (.iv (.int .i64 depth)) (lbE e) (.iv (.int .i64 0)) (.tup []) (.tup []) (.tup []) (.iv (.bool false)) (.iv (.bool false)) (.tup []) (.tup []) (.tup []) (.tup []) (.tup []) (.tup []) (.tup []) (.tup []) (.tup []) (.tup []) (.tup []) (.tup []) e.vs.length 0 (.tup []) (.tup []) (.tup []) S1 B A (by omega) hs1
   rw [show ((0 : Nat) : Int) = 0 from rfl] at l2
   rw [List.drop_zero] at hj
   rcases hj with ⟨rfl,rfl,ha⟩ | ⟨rfl,rfl,B1,ha,hs2⟩
   ·rw [ha]
    refine ⟨S2,call_ret' K _ (fn := t44) rfl rfl ?_,hkk.trans hk2,fun h => absurd h (by decide : ¬ ((14 : Int) = 0))⟩
    rw [encE_eq] at l2 ⊢
    simp (config := { maxSteps := 4000000 }) (disch := omega) only [t44,go_sem,TM.undef,h87,TM.one_length]
    rw [l2]
    simp (config := { maxSteps := 4000000 }) (disch := omega) only [go_sem]
   ·rw [ha]
    simp only
    obtain ⟨m1,m2,m3⟩ := addV_mem ha
    have hs2' : CkS p ic ib ik ir S2 B1 C (e.vs ++ A) := hs2.congrA (fun v => by simp)
    have hB : ∀ v ∈ e.vs,v ∉ A := fun v hv hA => m2 v hv (hs.sub v hA)
    obtain ⟨lc,cc,c1,c2⟩ := hs2'.c
    obtain ⟨la,ca,a1,a2⟩ := hs2'.a
    have hat := hs2'.at'
    have c2n := c2 e.n
    have a2n := a2 e.n
    have n1 := hs.cb
    have n2 := hs.ck
    have n3 := hs.cr
    have n4 := hs.bk
    have n5 := hs.br
    have n6 := hs.kr
    by_cases hk1 : e.k = 1
    ·by_cases hm : e.n ∈ C
     ·rw [if_pos ⟨hk1,hm⟩]
      rw [if_pos hm] at c2n
      refine ⟨S2,call_ret' K _ (fn := t44) rfl rfl ?_,hkk.trans hk2,fun h => absurd h (by decide : ¬ ((14 : Int) = 0))⟩
      rw [encE_eq] at l2 ⊢
      simp (config := { maxSteps := 4000000 }) (disch := omega) only [t44,go_sem,TM.undef,h87,TM.one_length]
      rw [l2]
      simp (config := { maxSteps := 4000000 }) (disch := omega) only [go_sem,hat,c1,c2n]
     ·rw [if_neg (fun h => hm h.2),if_neg (by omega),if_pos hk1]
      rw [if_neg hm] at c2n
      have hs3 := hs2'.putC c1 c2 e.n
      obtain ⟨j,r,y6,y7,y21,y22,y23,S4,hj,l3⟩ := tail44 p ic ib ik ir (call44 p hp ic ib ik ir N (by omega)) e hw hN depth (by omega) A B1 (e.n :: C) hB (.iv (.agg (encE e))) (lbE e) y5 (.tup []) (.tup []) (.tup []) (.iv (.bool false)) (.iv (.bool false)) (.iv (.sl e.gv (TM.one (.int .i64) e.vs))) (.iv (.int .i64 e.vs.length)) y13 y14 y15 (.iv (.bool true)) (.iv (.bool false)) (.iv (.bool false)) (.tup []) (.tup []) (.tup []) (.tup []) (.tup []) (.tup []) _ hs3
      rcases hj with ⟨rfl,rfl,hne,hk4⟩ | ⟨rfl,rfl,h0,y8,y27,S5,hs5,hk5,l5⟩
      ·refine ⟨S4,call_ret' K _ (fn := t44) rfl rfl ?_,(hkk.trans hk2).trans ((Keep.set _ (by simp) _).trans hk4),fun h => absurd h hne⟩
       rw [encE_eq] at l2 l3 ⊢
       simp (config := { maxSteps := 4000000 }) (disch := omega) only [t44,go_sem,TM.undef,h87,TM.one_length]
       rw [l2]
       simp (config := { maxSteps := 4000000 }) (disch := omega) only [go_sem,hat,c1,c2n,encEs_len]
       rw [l3]
       simp (config := { maxSteps := 4000000 }) (disch := omega) only [go_sem]
      ·refine ⟨S5,call_ret' K _ (fn := t44) rfl rfl ?_,(hkk.trans hk2).trans ((Keep.set _ (by simp) _).trans hk5),fun _ => hs5⟩
       rw [h0]
       rw [encE_eq] at l2 l3 l5 ⊢
       simp (config := { maxSteps := 4000000 }) (disch := omega) only [t44,go_sem,TM.undef,h87,TM.one_length]
       rw [l2]
       simp (config := { maxSteps := 4000000 }) (disch := omega) only [go_sem,hat,c1,c2n,encEs_len]
       rw [l3]
       simp (config := { maxSteps := 4000000 }) (disch := omega) only [go_sem,TM.one_length]
       rw [l5]
       simp (config := { maxSteps := 4000000 }) (disch := omega) only [go_sem]
    ·rw [if_neg (fun h => hk1 h.1),if_neg hk1]
     by_cases hk24 : e.k = 2 ∨ e.k = 4
     ·by_cases hm : e.n ∈ e.vs ++ A
      ·rw [if_neg (fun h => h.2 hm)]
       rw [if_pos hm] at a2n
       rcases hk24 with hk24 | hk24
       ·obtain ⟨j,r,y6,y7,y21,y22,y23,S4,hj,l3⟩ := tail44 p ic ib ik ir (call44 p hp ic ib ik ir N (by omega)) e hw hN depth (by omega) A B1 C hB (.iv (.agg (encE e))) (lbE e) y5 (.tup []) (.tup []) (.tup []) (.iv (.bool false)) (.iv (.bool false)) (.iv (.sl e.gv (TM.one (.int .i64) e.vs))) (.iv (.int .i64 e.vs.length)) y13 y14 y15 (.iv (.bool false)) (.tup []) (.iv (.bool false)) (.tup []) (.tup []) (.tup []) (.tup []) (.tup []) (.tup []) _ hs2'
        rcases hj with ⟨rfl,rfl,hne,hk4⟩ | ⟨rfl,rfl,h0,y8,y27,S5,hs5,hk5,l5⟩
        ·refine ⟨S4,call_ret' K _ (fn := t44) rfl rfl ?_,(hkk.trans hk2).trans hk4,fun h => absurd h hne⟩
         rw [encE_eq] at l2 l3 ⊢
         simp (config := { maxSteps := 4000000 }) (disch := omega) only [t44,go_sem,TM.undef,h87,TM.one_length]
         rw [l2]
         simp (config := { maxSteps := 4000000 }) (disch := omega) only [go_sem,hat,encEs_len,a1,a2n]
         rw [l3]
         simp (config := { maxSteps := 4000000 }) (disch := omega) only [go_sem]
        ·refine ⟨S5,call_ret' K _ (fn := t44) rfl rfl ?_,(hkk.trans hk2).trans hk5,fun _ => hs5⟩
         rw [h0]
         rw [encE_eq] at l2 l3 l5 ⊢
         simp (config := { maxSteps := 4000000 }) (disch := omega) only [t44,go_sem,TM.undef,h87,TM.one_length]
         rw [l2]
         simp (config := { maxSteps := 4000000 }) (disch := omega) only [go_sem,hat,encEs_len,a1,a2n]
         rw [l3]
         simp (config := { maxSteps := 4000000 }) (disch := omega) only [go_sem,TM.one_length]
         rw [l5]
         simp (config := { maxSteps := 4000000 }) (disch := omega) only [go_sem]
       ·obtain ⟨j,r,y6,y7,y21,y22,y23,S4,hj,l3⟩ := tail44 p ic ib ik ir (call44 p hp ic ib ik ir N (by omega)) e hw hN depth (by omega) A B1 C hB (.iv (.agg (encE e))) (lbE e) y5 (.tup []) (.tup []) (.tup []) (.iv (.bool false)) (.iv (.bool false)) (.iv (.sl e.gv (TM.one (.int .i64) e.vs))) (.iv (.int .i64 e.vs.length)) y13 y14 y15 (.iv (.bool false)) (.tup []) (.iv (.bool false)) (.tup []) (.tup []) (.tup []) (.tup []) (.tup []) (.tup []) _ hs2'
        rcases hj with ⟨rfl,rfl,hne,hk4⟩ | ⟨rfl,rfl,h0,y8,y27,S5,hs5,hk5,l5⟩
        ·refine ⟨S4,call_ret' K _ (fn := t44) rfl rfl ?_,(hkk.trans hk2).trans hk4,fun h => absurd h hne⟩
         rw [encE_eq] at l2 l3 ⊢
         simp (config := { maxSteps := 4000000 }) (disch := omega) only [t44,go_sem,TM.undef,h87,TM.one_length]
         rw [l2]
         simp (config := { maxSteps := 4000000 }) (disch := omega) only [go_sem,hat,encEs_len,a1,a2n]
         rw [l3]
         simp (config := { maxSteps := 4000000 }) (disch := omega) only [go_sem]
        ·refine ⟨S5,call_ret' K _ (fn := t44) rfl rfl ?_,(hkk.trans hk2).trans hk5,fun _ => hs5⟩
         rw [h0]
         rw [encE_eq] at l2 l3 l5 ⊢
         simp (config := { maxSteps := 4000000 }) (disch := omega) only [t44,go_sem,TM.undef,h87,TM.one_length]
         rw [l2]
         simp (config := { maxSteps := 4000000 }) (disch := omega) only [go_sem,hat,encEs_len,a1,a2n]
         rw [l3]
         simp (config := { maxSteps := 4000000 }) (disch := omega) only [go_sem,TM.one_length]
         rw [l5]
         simp (config := { maxSteps := 4000000 }) (disch := omega) only [go_sem]
      ·rw [if_pos ⟨hk24,hm⟩]
       rw [if_neg hm] at a2n
       refine ⟨S2,call_ret' K _ (fn := t44) rfl rfl ?_,hkk.trans hk2,fun h => absurd h (by decide : ¬ ((6 : Int) = 0))⟩
       rw [encE_eq] at l2 ⊢
       rcases hk24 with hk24 | hk24
       ·simp (config := { maxSteps := 4000000 }) (disch := omega) only [t44,go_sem,TM.undef,h87,TM.one_length]
        rw [l2]
        simp (config := { maxSteps := 4000000 }) (disch := omega) only [go_sem,hat,a1,a2n]
       ·simp (config := { maxSteps := 4000000 }) (disch := omega) only [t44,go_sem,TM.undef,h87,TM.one_length]
        rw [l2]
        simp (config := { maxSteps := 4000000 }) (disch := omega) only [go_sem,hat,a1,a2n]
     ·rw [if_neg (fun h => hk24 h.1)]
      have hk2' : e.k ≠ 2 := fun h => hk24 (.inl h)
      have hk4' : e.k ≠ 4 := fun h => hk24 (.inr h)
      obtain ⟨j,r,y6,y7,y21,y22,y23,S4,hj,l3⟩ := tail44 p ic ib ik ir (call44 p hp ic ib ik ir N (by omega)) e hw hN depth (by omega) A B1 C hB (.iv (.agg (encE e))) (lbE e) y5 (.tup []) (.tup []) (.tup []) (.iv (.bool false)) (.iv (.bool false)) (.iv (.sl e.gv (TM.one (.int .i64) e.vs))) (.iv (.int .i64 e.vs.length)) y13 y14 y15 (.iv (.bool false)) (.tup []) (.iv (.bool false)) (.tup []) (.tup []) (.tup []) (.tup []) (.tup []) (.tup []) _ hs2'
      rcases hj with ⟨rfl,rfl,hne,hk4⟩ | ⟨rfl,rfl,h0,y8,y27,S5,hs5,hk5,l5⟩
      ·refine ⟨S4,call_ret' K _ (fn := t44) rfl rfl ?_,(hkk.trans hk2).trans hk4,fun h => absurd h hne⟩
       rw [encE_eq] at l2 l3 ⊢
       simp (config := { maxSteps := 4000000 }) (disch := omega) only [t44,go_sem,TM.undef,h87,TM.one_length]
       rw [l2]
       simp (config := { maxSteps := 4000000 }) (disch := omega) only [go_sem,hat,encEs_len]
       rw [l3]
       simp (config := { maxSteps := 4000000 }) (disch := omega) only [go_sem]
      ·refine ⟨S5,call_ret' K _ (fn := t44) rfl rfl ?_,(hkk.trans hk2).trans hk5,fun _ => hs5⟩
       rw [h0]
       rw [encE_eq] at l2 l3 l5 ⊢
       simp (config := { maxSteps := 4000000 }) (disch := omega) only [t44,go_sem,TM.undef,h87,TM.one_length]
       rw [l2]
       simp (config := { maxSteps := 4000000 }) (disch := omega) only [go_sem,hat,encEs_len]
       rw [l3]
       simp (config := { maxSteps := 4000000 }) (disch := omega) only [go_sem,TM.one_length]
       rw [l5]
       simp (config := { maxSteps := 4000000 }) (disch := omega) only [go_sem]
theorem loop13 (p : Pg) (hp : p.b.w ≤ 1048576 ∧ Dt.ws p.cs ≤ 1048576) (x0 x1 x4 x5 : TV) (S : Store) : ∀ (k i : Nat) (x3 x9 x10 : TV),i + k = p.cs.length →
  ∃ j r y3 y8 y9 y10,(j = .ret ∧ r = .iv (.int .i64 2) ∧ ((p.cs.drop i).all fun d => mayF d && plF d) = false ∨ j = .exit 0 ∧ r = .iv (.int .i64 0) ∧ ((p.cs.drop i).all fun d => mayF d && plF d) = true) ∧
   lp' (lim K) t13L0 [x0,x1,.iv (.int .i64 0),x3,x4,x5,.iv (.sl p.gc (encDs p.cs)),.iv (.int .i64 p.cs.length),.iv (.int .i64 (i : Int)),x9,x10] S = .ret (j,[x0,x1,r,y3,x4,x5,.iv (.sl p.gc (encDs p.cs)),.iv (.int .i64 p.cs.length),y8,y9,y10],S)
 | 0,i,x3,x9,x10,h => by
  obtain rfl : i = p.cs.length := by omega
  refine ⟨.exit 0,.iv (.int .i64 0),?_,?_,?_,?_,.inr ⟨rfl,rfl,by rw [List.drop_length]; rfl⟩,loop_at K _ _ t13L0.eq_1 ?_⟩
  rotate_left 4
  ·simp (config := { maxSteps := 4000000 }) (disch := omega) only [go_sem]
   rfl
 | k + 1,i,x3,x9,x10,h => by
  have hpw := hp
  have hla : i < p.cs.length := by omega
  have hwl := Dt.ws_len p.cs
  have hix := ixD (g := p.gc) (ks := p.cs) (i := (i : Int)) (by omega)
  rw [Int.toNat_natCast] at hix
  have hdr := drop_get hla
  have hxw := Dt.ws_mem (get_mem hla)
  generalize hx : p.cs.getD i default = x at *
  have hm := call42 1048576 (by omega) x (by omega)
  have hq := call43 1048576 (by omega) x (by omega)
  rw [encD_eq] at hm hq
  cases h1 : mayF x with
  | false =>
   rw [h1] at hm
   refine ⟨.ret,.iv (.int .i64 2),?_,?_,?_,?_,.inl ⟨rfl,rfl,by rw [hdr,List.all_cons,h1,Bool.false_and,Bool.false_and]⟩,loop_at K _ _ t13L0.eq_1 ?_⟩
   rotate_left 4
   ·simp (config := { maxSteps := 4000000 }) (disch := omega) only [go_sem,hix,getD5,cpR_pure hm]
    rfl
  | true =>
   rw [h1] at hm
   cases h2 : plF x with
   | false =>
    rw [h2] at hq
    refine ⟨.ret,.iv (.int .i64 2),?_,?_,?_,?_,.inl ⟨rfl,rfl,by rw [hdr,List.all_cons,h1,h2,Bool.true_and,Bool.false_and]⟩,loop_at K _ _ t13L0.eq_1 ?_⟩
    rotate_left 4
    ·simp (config := { maxSteps := 4000000 }) (disch := omega) only [go_sem,hix,getD5,cpR_pure hm,cpR_pure hq]
     rfl
   | true =>
    rw [h2] at hq
    obtain ⟨j,r,y3,y8,y9,y10,hj,ih⟩ := loop13 p hp x0 x1 x4 x5 S k (i + 1) (lbD' x) (.iv (.bool true)) (.iv (.bool false)) (by omega)
    rw [show ((i + 1 : Nat) : Int) = (i : Int) + 1 by omega] at ih
    refine ⟨j,r,y3,y8,y9,y10,?_,loop_at K _ _ t13L0.eq_1 ?_⟩
    ·rw [hdr,List.all_cons,h1,h2,Bool.true_and,Bool.true_and]; exact hj
    ·simp (config := { maxSteps := 4000000 }) (disch := omega) only [go_sem,hix,getD5,cpR_pure hm,cpR_pure hq,wrap_i64]
     exact congrArg er ih
def chkF (p : Pg) : Int := if p.gl < 0 ∨ 20000 < p.gl ∨ p.vr < 0 then 2 else if (p.cs.all fun d => mayF d && plF d) = false then 2 else (chk p p.b 0 [] [] []).1
theorem call13 (p : Pg) (hp : p.b.w ≤ 1048576 ∧ Dt.ws p.cs ≤ 1048576) : TM.Pure K 13 [.iv (.agg (encP p))] (.iv (.int .i64 (chkF p))) := by
 have hpw := hp
 have hwl := Dt.ws_len p.cs
 unfold chkF
 by_cases hg : p.gl < 0 ∨ 20000 < p.gl ∨ p.vr < 0
 ·rw [if_pos hg]
  refine pure_ret (S := []) (r := .iv (.int .i64 2)) (call_ret' K _ (fn := t13) rfl rfl ?_) (by rw [resolve_iv])
  unfold encP
  by_cases g1 : p.gl < 0
  ·simp (config := { maxSteps := 4000000 }) (disch := omega) only [t13,go_sem,TM.undef]
  ·by_cases g2 : 20000 < p.gl
   ·simp (config := { maxSteps := 4000000 }) (disch := omega) only [t13,go_sem,TM.undef]
   ·simp (config := { maxSteps := 4000000 }) (disch := omega) only [t13,go_sem,TM.undef]
 rw [if_neg hg]
 obtain ⟨j,r,y3,y8,y9,y10,hj,ih⟩ := loop13 p hp (.iv (.agg (encP p))) (lbP p) (.tup []) (.iv (.bool false)) [] p.cs.length 0 (.tup []) (.tup []) (.tup []) (by omega)
 rw [show ((0 : Nat) : Int) = 0 from rfl] at ih
 rw [List.drop_zero] at hj
 rcases hj with ⟨rfl,rfl,ha⟩ | ⟨rfl,rfl,ha⟩
 ·rw [if_pos ha]
  refine pure_ret (S := []) (r := .iv (.int .i64 2)) (call_ret' K _ (fn := t13) rfl rfl ?_) (by rw [resolve_iv])
  unfold encP at ih ⊢
  simp (config := { maxSteps := 4000000 }) (disch := omega) only [t13,go_sem,TM.undef,encDs_len]
  rw [ih]
  simp (config := { maxSteps := 4000000 }) (disch := omega) only [go_sem]
 ·rw [if_neg (by rw [ha]; decide)]
  have hs : CkS p 3 0 1 2 [.mp (mpR boxI []) 0,.mp (mpR boxI []) 0,.mp (mpR boxI []) 0,ckB p 0 1 2] [] [] [] := by
   refine ⟨by decide,by decide,by decide,by decide,by decide,by decide,rfl,⟨[],0,rfl,?_⟩,⟨[],0,rfl,?_⟩,⟨[],0,rfl,?_⟩,by simp⟩ <;> intro v <;> simp [cntR,TM.getR]
  obtain ⟨S',hc,_,_⟩ := call44 p (by omega) 3 0 1 2 1048576 (by omega) p.b 0 _ [] [] [] (by omega) (by omega) hs
  refine pure_ret (S := S') (r := .iv (.int .i64 (chk p p.b 0 [] [] []).1)) (call_ret' K _ (fn := t13) rfl rfl ?_) (by rw [resolve_iv])
  rw [mpR_nil,encE_eq,show ((0 : Nat) : Int) = 0 from rfl] at hc
  simp only [ckB,cellsP,List.cons_append,List.nil_append] at hc
  unfold encP at ih ⊢
  simp (config := { maxSteps := 4000000 }) (disch := omega) only [t13,go_sem,TM.undef,encDs_len]
  rw [ih]
  simp (config := { maxSteps := 4000000 }) (disch := omega) only [go_sem,hc]
def outs (vs l : List Int) : Nat := (l.filter fun v => decide (v ∉ vs)).length
structure LamOK (vs own body : List Int) : Prop where
 mem : ∀ v ∈ body,(v ∈ own ↔ v ∉ vs)
 len : own.length = outs vs body
theorem chks_kid (p : Pg) : ∀ (es : List Ex) (depth : Nat) (B C A : List Int),(chks p es depth B C A).1 = 0 → ∀ x ∈ es,∃ B' C',(chk p x depth B' C' A).1 = 0
 | [],depth,B,C,A,h,x,hx => by cases hx
 | e :: es,depth,B,C,A,h,x,hx => by
  have hun : chks p (e :: es) depth B C A = if (chk p e depth B C A).1 = 0 then chks p es depth (chk p e depth B C A).2.1 (chk p e depth B C A).2.2 A else chk p e depth B C A := by rw [chks]
  rw [hun] at h
  by_cases h0 : (chk p e depth B C A).1 = 0
  ·rw [if_pos h0] at h
   rcases List.mem_cons.1 hx with rfl | hx
   ·exact ⟨B,C,h0⟩
   ·exact chks_kid p es depth _ _ A h x hx
  ·rw [if_neg h0] at h; exact absurd h h0
theorem chk_ok {p : Pg} {e : Ex} {depth : Nat} {B C A : List Int} (h : (chk p e depth B C A).1 = 0) : frmF p e = true ∧ (∃ B1,addV e.vs B = some B1) ∧ ((e.k = 2 ∨ e.k = 4) → e.n ∈ e.vs ++ A) ∧ ∀ x ∈ e.ks,∃ B' C',(chk p x (depth + 1) B' C' (e.vs ++ A)).1 = 0 := by
 rw [chk_eq] at h
 split at h
 ·exact absurd h (by decide : ¬ ((5 : Int) = 0))
 split at h
 ·exact absurd h (by decide : ¬ ((4 : Int) = 0))
 rename_i hf
 split at h
 ·exact absurd h (by decide : ¬ ((14 : Int) = 0))
 rename_i B1 ha
 split at h
 ·exact absurd h (by decide : ¬ ((14 : Int) = 0))
 split at h
 ·exact absurd h (by decide : ¬ ((6 : Int) = 0))
 rename_i hn
 refine ⟨by simpa using hf,⟨B1,ha⟩,fun hk => ?_,chks_kid p e.ks _ _ _ _ h⟩
 rcases Classical.em (e.n ∈ e.vs ++ A) with h1 | h1
 ·exact h1
 ·exact absurd ⟨hk,h1⟩ hn
theorem frm_vs {p : Pg} {e : Ex} (h : frmF p e = true) (hk : e.k ≠ 7) : e.vs = [] := by
 have h0 : ¬ 0 < e.vs.length := fun h2 => by
  have h3 : frmA e = true := by
   unfold frmA
   simp [hk,h2]
  rw [frmF,h3] at h
  simp at h
 exact List.eq_nil_of_length_eq_zero (by omega)
theorem mem_frs {v : Int} : ∀ {ks : List Ex},v ∈ frs ks ↔ ∃ x ∈ ks,v ∈ fr x
 | [] => by simp [frs]
 | a :: r => by rw [frs,List.mem_append,mem_frs]; simp
theorem mem_gaths {f : Ex → List Int} {v : Int} : ∀ {ks : List Ex},v ∈ gaths f ks ↔ ∃ x ∈ ks,v ∈ gath f x
 | [] => by simp [gaths]
 | a :: r => by rw [gaths,List.mem_append,mem_gaths]; simp
theorem closed (p : Pg) : ∀ (N : Nat) (e : Ex),e.w ≤ N → ∀ (depth : Nat) (B C A : List Int),(chk p e depth B C A).1 = 0 → (∀ v ∈ fr e,v ∈ A) ∧ (∀ v ∈ gath asgA e,v ∈ gath bndA e ∨ v ∈ A)
 | 0,e,hw,depth,B,C,A,h => by have := Ex.w_eq e; omega
 | N + 1,e,hw,depth,B,C,A,h => by
  obtain ⟨hf,_,hn,hks⟩ := chk_ok h
  have hin : (e.k = 2 ∨ e.k = 4) → e.n ∈ A := fun hk => by
   have hv := frm_vs hf (by omega)
   have := hn hk
   rw [hv] at this
   simpa using this
  have ih : ∀ x ∈ e.ks,(∀ v ∈ fr x,v ∈ e.vs ++ A) ∧ (∀ v ∈ gath asgA x,v ∈ gath bndA x ∨ v ∈ e.vs ++ A) := by
   intro x hx
   obtain ⟨B',C',hx0⟩ := hks x hx
   exact closed p N x (by have := Ex.kid_lt hx; omega) _ _ _ _ hx0
  refine ⟨fun v hv => ?_,fun v hv => ?_⟩
  ·rw [fr_eq,List.mem_append] at hv
   rcases hv with hv | hv
   ·split at hv
    ·rename_i hk
     simp only [List.mem_singleton] at hv
     rw [hv]; exact hin hk
    ·cases hv
   ·rw [List.mem_filter,mem_frs] at hv
    obtain ⟨⟨x,hx,hvx⟩,hc⟩ := hv
    have := (ih x hx).1 v hvx
    rcases List.mem_append.1 this with h1 | h1
    ·by_cases hk : e.k = 7
     ·simp [hk,h1] at hc
     ·rw [frm_vs hf hk] at h1; cases h1
    ·exact h1
  ·rw [gath_eq,List.mem_append] at hv
   rw [gath_eq,List.mem_append]
   rcases hv with hv | hv
   ·unfold asgA at hv
    split at hv
    ·rename_i hk
     simp only [List.mem_singleton] at hv
     rw [hv]; exact .inr (hin (.inr hk))
    ·cases hv
   ·rw [mem_gaths] at hv
    obtain ⟨x,hx,hvx⟩ := hv
    rcases (ih x hx).2 v hvx with h1 | h1
    ·exact .inl (.inr (mem_gaths.2 ⟨x,hx,h1⟩))
    ·rcases List.mem_append.1 h1 with h1 | h1
     ·by_cases hk : e.k = 7
      ·refine .inl (.inl ?_)
       unfold bndA
       rw [if_pos hk]; exact h1
      ·rw [frm_vs hf hk] at h1; cases h1
     ·exact .inr h1
theorem lkB_box2 (l : List (Nat × Int × Int)) (c : Nat) (k : Int) : lkB (.leaf .int) (.agg [.int .i64 0]) true (some (.mp (mpR boxI l) c)) (.iv (.int .i64 k)) = some (.tup [.iv (.agg [.int .i64 ((getR l k).getD 0)]),.iv (.bool (getR l k).isSome)]) := by
 rw [lkB_mp]
 cases getR l k <;> rfl
structure Cv where
 f : Int → Option Int
 nx : Int
def Cv.put (σ : Cv) (v : Int) : Cv := ⟨fun u => if v = u then some σ.nx else σ.f u,σ.nx + 1⟩
structure CM (S : Store) (ic im : Nat) (σ : Cv) : Prop where
 at' : S[ic]? = some (.cells 80 false [.map im,.iv (.int .i64 σ.nx)])
 map : ∃ l c,S[im]? = some (.mp (mpR boxI l) c) ∧ ∀ v,getR l v = σ.f v
theorem CM.ne {S : Store} {ic im : Nat} {σ : Cv} (h : CM S ic im σ) : ic ≠ im := by
 rintro rfl
 obtain ⟨l,c,h1,_⟩ := h.map
 rw [h.at'] at h1; cases h1
theorem CM.keep {S S' : Store} {ic im : Nat} {σ : Cv} (h : CM S ic im σ) (k : Keep [] S S') : CM S' ic im σ := by
 obtain ⟨l,c,h1,h2⟩ := h.map
 exact ⟨k.get _ _ (by simp) h.at',l,c,k.get _ _ (by simp) h1,h2⟩
theorem CM.keepI {S S' : Store} {ic im : Nat} {σ : Cv} {I : List Nat} (h : CM S ic im σ) (k : Keep I S S') (h1 : ic ∉ I) (h2 : im ∉ I) : CM S' ic im σ := by
 obtain ⟨l,c,h3,h4⟩ := h.map
 exact ⟨k.get _ _ h1 h.at',l,c,k.get _ _ h2 h3,h4⟩
theorem ne_blk {S : Store} {i j : Nat} {a b : Block} (h : S[i]? = some a) (g : S[j]? = some b) (hab : a ≠ b) : i ≠ j := by
 rintro rfl
 rw [h] at g; exact hab (Option.some.inj g)
theorem call99 {S : Store} {ic im : Nat} {σ : Cv} (h : CM S ic im σ) (v : Int) : (lim K).call 99 [.ptr ic 80 0,.iv (.int .i64 v)] S = .ret (.iv (.bool (σ.f v).isSome),S) := by
 obtain ⟨l,c,h1,h2⟩ := h.map
 have hat := h.at'
 have hv := h2 v
 refine call_ret' K _ (fn := t99) rfl rfl ?_
 simp (config := { maxSteps := 4000000 }) (disch := omega) only [t99,go_sem,TM.undef,hat,h1,lkB_box2,hv]
theorem call100 (v : Int) : TM.Pure K 100 [.iv (.int .i64 v)] (.iv (.agg (encE (.mk 2 v .nil [] false .nil [])))) := by
 refine pure_ret (S := []) (r := .iv (.agg (encE (.mk 2 v .nil [] false .nil [])))) (call_ret' K _ (fn := t100) rfl rfl ?_) (by rw [resolve_iv])
 simp (config := { maxSteps := 4000000 }) (disch := omega) only [t100,go_sem,TM.undef,encE,encEs,TM.one]
theorem cellsOf_acc (i : Nat) (l : List (List IV)) : cellsOf (acc i l) = [acc i l] := by unfold acc; split <;> rfl
theorem isRefL_acc (i : Nat) (l : List (List IV)) : isRefL (acc i l) = false := by unfold acc; split <;> rfl
attribute [go_sem] cellsOf_acc isRefL_acc
def gI (l : List (List IV)) (i : Nat) (S : Store) : Nat := if l = [] then S.length else i
def gS (w el : Nat) (l : List (List IV)) (i : Nat) (S : Store) : Store := if l = [] then S ++ [.tok 1 w el] else S.set i (.tok (l.length + 1) w el)
def At (w el : Nat) (l : List (List IV)) (i : Nat) (S : Store) : Prop := l ≠ [] → S[i]? = some (.tok l.length w el)
def own1 (l : List (List IV)) (i : Nat) : List Nat := if l = [] then [] else [i]
theorem At.nil {w el i : Nat} {S : Store} : At w el [] i S := fun h => absurd rfl h
theorem At.keep {w el i : Nat} {S S' : Store} {l : List (List IV)} {I : List Nat} (h : At w el l i S) (k : Keep I S S') (hi : l ≠ [] → i ∉ I) : At w el l i S' := fun hl => k.get _ _ (hi hl) (h hl)
theorem gS_keep (w el : Nat) (l : List (List IV)) (i : Nat) (S : Store) : Keep (own1 l i) S (gS w el l i S) := by
 unfold own1 gS
 by_cases h : l = []
 ·rw [if_pos h,if_pos h]; exact Keep.app _ _ _
 ·rw [if_neg h,if_neg h]; exact Keep.set _ (by simp) _
theorem gS_at {w el : Nat} {l : List (List IV)} {i : Nat} {S : Store} (h : At w el l i S) (c : List IV) : At w el (l ++ [c]) (gI l i S) (gS w el l i S) := by
 intro _
 unfold gI gS
 by_cases h0 : l = []
 ·rw [if_pos h0,if_pos h0,h0]; simp
 ·rw [if_neg h0,if_neg h0,get_setS (lt_get (h h0))]; simp
theorem ap_g {w el b : Nat} {l : List (List IV)} {i : Nat} {S : Store} {t : Tag} {c : List IV} (h : At w el l i S) (hc : c.length = w ∧ c.all isCell = true) (hl : Elems w l) (hr : roomy (l.length + 1) b = true) :
  appendOp false w b el S (acc i l) (.iv (.sl t [c])) = some (acc (gI l i S) (l ++ [c]),gS w el l i S) := by
 have hx : IsEl S (.iv (.sl t [c])) [c] := IsEl.sl ..
 have hw : Elems w [c] := by intro y hy; simp at hy; subst hy; exact hc
 by_cases h0 : l = []
 ·subst h0
  rw [acc_nil,ap_new (by decide) hx hw hl (by simp) hr,List.nil_append,acc_cons]
  simp [gI,gS]
 ·rw [acc_ne _ h0,ap_tsl hx hw hl (h h0) hr,acc_ne _ (by simp)]
  simp [gI,gS,h0]
theorem gI_ne {l : List (List IV)} {i j : Nat} {S : Store} {b : Block} (hj : S[j]? = some b) (h : l ≠ [] → i ≠ j) : gI l i S ≠ j := by
 unfold gI
 split
 ·have := lt_get hj; omega
 ·rename_i h0; exact h h0
def oneI (l : List Int) : List (List IV) := TM.one (.int .i64) l
theorem oneI_app (l : List Int) (v : Int) : oneI l ++ [[.int .i64 v]] = oneI (l ++ [v]) := by simp [oneI,TM.one]
theorem oneI_nil {l : List Int} : oneI l = [] ↔ l = [] := by simp [oneI,TM.one]
theorem oneI_len (l : List Int) : (oneI l).length = l.length := by simp [oneI,TM.one]
theorem oneI_el (l : List Int) : Elems 1 (oneI l) := Elems.one (fun _ => rfl) l
structure Own (S : Store) (i5 io : Nat) (own : List Int) : Prop where
 box : S[i5]? = some (.cells 23 false [acc io (oneI own)])
 tok : At 1 3 (oneI own) io S
def stepV (σ : Cv) (v : Int) : Int × List Int × Cv := if (σ.f v).isSome then (σ.nx,[v],σ.put v) else (v,[],σ)
theorem call133 {S : Store} {ic im i2 i5 io : Nat} {σ : Cv} {own : List Int} (h : CM S ic im σ) (h2 : S[i2]? = some (.cells 77 false [.ptr ic 80 0])) (h5 : Own S i5 io own) (hn : own.length ≤ 1048576) (hx : -1 ≤ σ.nx ∧ σ.nx ≤ 4611686018427387904) (v : Int) :
  ∃ io' S',(lim K).call 133 [.iv (.int .i64 v),.ptr i2 77 0,.ptr i5 23 0] S = .ret (.iv (.int .i64 (stepV σ v).1),S') ∧ CM S' ic im (stepV σ v).2.2 ∧ Own S' i5 io' (own ++ (stepV σ v).2.1) ∧ Keep (ic :: im :: i5 :: own1 (oneI own) io) S S' ∧ (own ++ (stepV σ v).2.1 ≠ [] → io' < S'.length ∧ (io' = io ∧ own ≠ [] ∨ S.length ≤ io')) := by
 obtain ⟨l,c,h1,hf⟩ := h.map
 have hat := h.at'
 have c99 := call99 h v
 unfold stepV
 cases hv : (σ.f v).isSome with
 | false =>
  rw [hv] at c99
  refine ⟨io,S,call_ret' K _ (fn := t133) rfl rfl ?_,h,by simpa using h5,.refl _ _,fun ho => ?_⟩
  ·simp (config := { maxSteps := 4000000 }) (disch := omega) only [t133,go_sem,TM.undef,h2,c99]
  ·simp at ho
   exact ⟨lt_get (h5.tok (by simp [oneI_nil,ho])),.inl ⟨rfl,ho⟩⟩
 | true =>
  rw [hv] at c99
  simp only [if_true]
  have e1 := ap_g (b := 8) (c := [.int .i64 v]) (t := .full) h5.tok ⟨rfl,rfl⟩ (oneI_el own) (roomy_ok (by rw [oneI_len]; omega))
  have hb5 := h5.box
  have n1 : i5 ≠ ic := ne_blk hb5 hat (by simp)
  have n2 : i5 ≠ im := ne_blk hb5 h1 (by simp)
  have n3 := h.ne
  have n4 : i2 ≠ i5 := ne_blk h2 hb5 (by simp)
  have n5 : i2 ≠ ic := ne_blk h2 hat (by simp)
  have n6 : i2 ≠ im := ne_blk h2 h1 (by simp)
  have no : oneI own ≠ [] → io ≠ i5 ∧ io ≠ ic ∧ io ≠ im ∧ io ≠ i2 := fun ho => ⟨ne_blk (h5.tok ho) hb5 (by simp),ne_blk (h5.tok ho) hat (by simp),ne_blk (h5.tok ho) h1 (by simp),ne_blk (h5.tok ho) h2 (by simp)⟩
  have hk := gS_keep 1 3 (oneI own) io S
  have ho1 : ∀ j,(oneI own ≠ [] → io ≠ j) → j ∉ own1 (oneI own) io := by
   intro j hj
   unfold own1
   split
   ·simp
   ·rename_i h0; simp; exact fun e => hj h0 e.symm
  have g5 := hk.get _ _ (ho1 _ fun ho => (no ho).1) hb5
  have gc := hk.get _ _ (ho1 _ fun ho => (no ho).2.1) hat
  have gm := hk.get _ _ (ho1 _ fun ho => (no ho).2.2.1) h1
  have g2 := hk.get _ _ (ho1 _ fun ho => (no ho).2.2.2) h2
  have gt := gS_at h5.tok [.int .i64 v]
  have gn1 := gI_ne hb5 fun ho => (no ho).1
  have gn2 := gI_ne hat fun ho => (no ho).2.1
  have gn3 := gI_ne h1 fun ho => (no ho).2.2.1
  rw [oneI_app] at e1 gt
  have hgl : gI (oneI own) io S < (gS 1 3 (oneI own) io S).length := lt_get (gt (by simp [oneI_nil]))
  generalize hS1 : gS 1 3 (oneI own) io S = S1 at *
  have hio : gI (oneI own) io S = io ∧ own ≠ [] ∨ S.length ≤ gI (oneI own) io S := by
   unfold gI
   split
   ·exact .inr (Nat.le_refl _)
   ·rename_i h0; exact .inl ⟨rfl,fun e => h0 (by rw [e]; rfl)⟩
  generalize hio' : gI (oneI own) io S = io' at *
  have hp : ∀ u,getR (putR l c v σ.nx) u = (σ.put v).f u := fun u => by rw [getR_put,hf u]; rfl
  refine ⟨io',(((S1.set i5 (.cells 23 false [acc io' (oneI (own ++ [v]))])).set im (.mp (mpR boxI (putR l c v σ.nx)) (clkR l c v))).set ic (.cells 80 false [.map im,.iv (.int .i64 (σ.nx + 1))])),call_ret' K _ (fn := t133) rfl rfl ?_,⟨?_,putR l c v σ.nx,clkR l c v,?_,hp⟩,⟨?_,fun ho => ?_⟩,?_,fun _ => ⟨by simpa using hgl,hio⟩⟩
  ·have hq : cntR (putR l c v σ.nx) v = σ.nx := by rw [cntR_put,if_pos rfl]
   have f1 : ∀ b1 b2 b3,(((S1.set i5 b1).set im b2).set ic b3)[ic]? = some b3 := fun b1 b2 b3 => get_setS (by simpa using lt_get gc) _
   have f2 : ∀ b1 b2,((S1.set i5 b1).set im b2)[im]? = some b2 := fun b1 b2 => get_setS (by simpa using lt_get gm) _
   simp (config := { maxSteps := 4000000 }) (disch := omega) only [t133,go_sem,TM.undef,h2,c99,hb5,e1,g5,gc,gm,g2,get_setN n1,get_setN n2,get_setN n3,get_setN n4,get_setN n5,get_setN n6,get_setN (Ne.symm n1),get_setN (Ne.symm n2),get_setN (Ne.symm n3),get_setN (Ne.symm n4),get_setN (Ne.symm n5),get_setN (Ne.symm n6),wrap_i64,f1,f2,hq]
  ·rw [get_setS (by simpa using lt_get gc)]; rfl
  ·rw [get_setN n3,get_setS (by simpa using lt_get gm)]
  ·rw [get_setN (Ne.symm n1),get_setN (Ne.symm n2),get_setS (lt_get g5)]
  ·rw [get_setN (Ne.symm gn2),get_setN (Ne.symm gn3),get_setN (Ne.symm gn1)]
   exact gt ho
  ·refine (hk.mono ?_).trans (((Keep.set _ (by simp) _).trans (Keep.set _ (by simp) _)).trans (Keep.set _ (by simp) _))
   intro j hj; simp [hj]
theorem keep_trans' {I J : List Nat} {S S' S'' : Store} (h : Keep I S S') (g : Keep J S' S'') (hj : ∀ j ∈ J,j ∈ I ∨ S.length ≤ j) : Keep I S S'' :=
 ⟨Nat.le_trans h.len g.len,fun i b hi hb => g.get i b (fun hJ => by
  rcases hj i hJ with h1 | h1
  ·exact hi h1
  ·have := lt_get hb; omega) (h.get i b hi hb)⟩
def cvVs : Cv → List Int → List Int × List Int × Cv
 | σ,[] => ([],[],σ)
 | σ,v :: r => ((stepV σ v).1 :: (cvVs (stepV σ v).2.2 r).1,(stepV σ v).2.1 ++ (cvVs (stepV σ v).2.2 r).2.1,(cvVs (stepV σ v).2.2 r).2.2)
theorem stepV_nx (σ : Cv) (v : Int) : σ.nx ≤ (stepV σ v).2.2.nx ∧ (stepV σ v).2.2.nx ≤ σ.nx + 1 := by
 unfold stepV; split <;> simp [Cv.put] <;> omega
theorem stepV_own (σ : Cv) (v : Int) : (stepV σ v).2.1.length ≤ 1 := by
 unfold stepV; split <;> simp
theorem cvVs_nx : ∀ (l : List Int) (σ : Cv),σ.nx ≤ (cvVs σ l).2.2.nx ∧ (cvVs σ l).2.2.nx ≤ σ.nx + l.length
 | [],σ => by simp [cvVs]
 | v :: r,σ => by
  have h1 := stepV_nx σ v
  have h2 := cvVs_nx r (stepV σ v).2.2
  simp only [cvVs,List.length_cons]
  omega
theorem loop132 (t : Tag) (l : List Int) (ic im i2 i5 : Nat) (hl : l.length ≤ 1048576) (x0 : TV) : ∀ (k i : Nat) (x3 x7 : TV) (S : Store) (σ : Cv) (outs own : List Int) (ij io : Nat),i + k = l.length →
  CM S ic im σ → S[i2]? = some (.cells 77 false [.ptr ic 80 0]) → Own S i5 io own → At 1 3 (oneI outs) ij S → (own ≠ [] → outs ≠ [] → io ≠ ij) → own.length ≤ i → outs.length ≤ i → -1 ≤ σ.nx ∧ σ.nx ≤ 4611686018427387904 - k →
  ∃ y3 y7 ij' io' S',lp' (lim K) t132L0 [x0,.fn 133 [] [.ptr i2 77 0,.ptr i5 23 0],acc ij (oneI outs),x3,.iv (.sl t (TM.one (.int .i64) l)),.iv (.int .i64 l.length),.iv (.int .i64 (i : Int)),x7] S
   = .ret (.exit 0,[x0,.fn 133 [] [.ptr i2 77 0,.ptr i5 23 0],acc ij' (oneI (outs ++ (cvVs σ (l.drop i)).1)),y3,.iv (.sl t (TM.one (.int .i64) l)),.iv (.int .i64 l.length),.iv (.int .i64 l.length),y7],S') ∧
   CM S' ic im (cvVs σ (l.drop i)).2.2 ∧ Own S' i5 io' (own ++ (cvVs σ (l.drop i)).2.1) ∧ Keep (ic :: im :: i5 :: (own1 (oneI own) io ++ own1 (oneI outs) ij)) S S'
 | 0,i,x3,x7,S,σ,outs,own,ij,io,h,hc,h2,ho,hj,hd,b1,b2,b3 => by
  obtain rfl : i = l.length := by omega
  refine ⟨x3,.iv (.bool false),ij,io,S,loop_at K _ _ t132L0.eq_1 ?_,?_,?_,.refl _ _⟩
  ·rw [List.drop_length,cvVs,List.append_nil]
   simp (config := { maxSteps := 4000000 }) (disch := omega) only [go_sem]
  ·rw [List.drop_length,cvVs]; exact hc
  ·rw [List.drop_length,cvVs,List.append_nil]; exact ho
 | k + 1,i,x3,x7,S,σ,outs,own,ij,io,h,hc,h2,ho,hj,hd,b1,b2,b3 => by
  have hla : i < l.length := by omega
  have hix := ix_one (f := IV.int .i64) (t := t) (l := l) (i := (i : Int)) (by omega)
  rw [Int.toNat_natCast] at hix
  have hdr := drop_get hla
  generalize hx : l.getD i default = x at *
  obtain ⟨io1,S1,c133,hc1,ho1,hk1,hio⟩ := call133 hc h2 ho (by omega) (by omega) x
  have hnx := stepV_nx σ x
  have hob := stepV_own σ x
  generalize hs : stepV σ x = s at *
  obtain ⟨w,ow,σ1⟩ := s
  simp only at c133 hc1 ho1 hio hnx hob
  have hjn : oneI outs ≠ [] → ij ∉ ic :: im :: i5 :: own1 (oneI own) io := by
   intro hne
   have hj' := hj hne
   obtain ⟨lm,cm,hm,_⟩ := hc.map
   have n1 := ne_blk hj' hc.at' (by simp)
   have n2 := ne_blk hj' hm (by simp)
   have n3 := ne_blk hj' ho.box (by simp)
   simp only [List.mem_cons,n1,n2,n3,false_or]
   unfold own1
   split
   ·simp
   ·rename_i h0
    simp only [List.mem_singleton]
    exact fun e => hd (fun e2 => h0 (by rw [e2]; rfl)) (fun e2 => hne (by rw [e2]; rfl)) e.symm
  have hj1 := hj.keep hk1 hjn
  have e1 := ap_g (b := 8) (c := [.int .i64 w]) (t := .full) hj1 ⟨rfl,rfl⟩ (oneI_el outs) (roomy_ok (by rw [oneI_len]; omega))
  have hk2 := gS_keep 1 3 (oneI outs) ij S1
  have gt := gS_at hj1 [.int .i64 w]
  rw [oneI_app] at e1 gt
  have n0 : ∀ (j : Nat) (b : Block),S1[j]? = some b → (∀ n e el,b ≠ .tok n e el) → j ∉ own1 (oneI outs) ij := by
   intro j b hb hnt hm
   unfold own1 at hm
   split at hm
   ·cases hm
   ·rename_i h0
    simp at hm
    subst hm
    exact hnt _ _ _ (by rw [hj1 h0] at hb; exact (Option.some.inj hb).symm)
  obtain ⟨lm,cm,hm,hm2⟩ := hc1.map
  have g2 : S1[i2]? = some (.cells 77 false [.ptr ic 80 0]) := hk1.get _ _ (by
   obtain ⟨lm0,cm0,hm0,_⟩ := hc.map
   have n1 := ne_blk h2 hc.at' (by simp)
   have n2 := ne_blk h2 hm0 (by simp)
   have n3 := ne_blk h2 ho.box (by simp)
   simp only [List.mem_cons,n1,n2,n3,false_or]
   unfold own1
   split
   ·simp
   ·rename_i h0
    simp only [List.mem_singleton]
    exact ne_blk h2 (ho.tok h0) (by simp)) h2
  have hc2 := hc1.keepI hk2 (n0 _ _ hc1.at' (by simp)) (n0 _ _ hm (by simp))
  have g22 := hk2.get _ _ (n0 _ _ g2 (by simp)) g2
  have hio2 : own ++ ow ≠ [] → outs ≠ [] → io1 ≠ ij := by
   intro h1 h3
   obtain ⟨h4,h5⟩ := hio h1
   rcases h5 with ⟨rfl,h5⟩ | h5
   ·exact hd h5 h3
   ·have := lt_get (hj (by simpa [oneI_nil] using h3)); omega
  have ho2 : Own (gS 1 3 (oneI outs) ij S1) i5 io1 (own ++ ow) := by
   refine ⟨hk2.get _ _ (n0 _ _ ho1.box (by simp)) ho1.box,ho1.tok.keep hk2 fun hne => ?_⟩
   unfold own1
   split
   ·simp
   ·rename_i h0
    simp only [List.mem_singleton]
    exact hio2 (by simpa [oneI_nil] using hne) (by simpa [oneI_nil] using h0)
  have hdd : own ++ ow ≠ [] → outs ++ [w] ≠ [] → io1 ≠ gI (oneI outs) ij S1 := by
   intro h1 _
   unfold gI
   split
   ·have := (hio h1).1; omega
   ·rename_i h0; exact hio2 h1 (by simpa [oneI_nil] using h0)
  obtain ⟨y3,y7,ij',io',S',ih,r1,r2,r3⟩ := loop132 t l ic im i2 i5 hl x0 k (i + 1) (.iv (.int .i64 x)) (.iv (.bool true)) _ σ1 (outs ++ [w]) (own ++ ow) _ io1 (by omega) hc2 g22 ho2 gt hdd (by simp; omega) (by simp; omega) (by omega)
  rw [show ((i + 1 : Nat) : Int) = (i : Int) + 1 by omega] at ih
  refine ⟨y3,y7,ij',io',S',loop_at K _ _ t132L0.eq_1 ?_,?_,?_,?_⟩
  ·rw [hdr,cvVs,hs]
   simp only [List.append_assoc,List.singleton_append] at ih
   simp (config := { maxSteps := 4000000 }) (disch := omega) only [go_sem,hix,c133,e1,wrap_i64]
   exact congrArg er ih
  ·rw [hdr,cvVs,hs]; exact r1
  ·rw [hdr,cvVs,hs,← List.append_assoc]; exact r2
  ·refine keep_trans' (hk1.mono (J := ic :: im :: i5 :: (own1 (oneI own) io ++ own1 (oneI outs) ij)) (fun j hj => ?_)) ((hk2.mono (J := ic :: im :: i5 :: (own1 (oneI (own ++ ow)) io1 ++ own1 (oneI (outs ++ [w])) (gI (oneI outs) ij S1) ++ own1 (oneI outs) ij)) (fun j hj => by simp [hj])).trans (r3.mono (fun j hj => ?_))) (fun j hj => ?_)
   ·simp only [List.mem_cons,List.mem_append] at hj ⊢
    rcases hj with h | h | h | h <;> simp [h]
   ·simp only [List.mem_cons,List.mem_append] at hj ⊢
    rcases hj with h | h | h | h | h <;> simp [h]
   ·simp only [List.mem_cons,List.mem_append] at hj ⊢
    rcases hj with h | h | h | (h | h) | h
    ·simp [h]
    ·simp [h]
    ·simp [h]
    ·unfold own1 at h
     split at h
     ·cases h
     ·rename_i h0
      simp at h
      obtain ⟨_,h5⟩ := hio (fun e => h0 (by rw [e]; rfl))
      rcases h5 with ⟨h5,h6⟩ | h5
      ·left; right; right; right; left
       unfold own1
       rw [if_neg (fun e => h6 (by simpa [oneI_nil] using e))]
       simp [h,h5]
      ·right; omega
    ·unfold own1 at h
     split at h
     ·cases h
     ·simp at h
      subst h
      unfold gI
      split
      ·right; exact hk1.len
      ·rename_i h0
       left; right; right; right; right
       unfold own1; rw [if_neg h0]; simp
    ·simp [h]
theorem call132 (t : Tag) (l : List Int) (ic im i2 i5 : Nat) (hl : l.length ≤ 1048576) (S : Store) (σ : Cv) (hc : CM S ic im σ) (h2 : S[i2]? = some (.cells 77 false [.ptr ic 80 0])) (h5 : S[i5]? = some (.cells 23 false [.iv (.sl .nil [])])) (hx : -1 ≤ σ.nx ∧ σ.nx ≤ 4611686017427387904) :
  ∃ ij io S',(lim K).call 132 [.iv (.sl t (TM.one (.int .i64) l)),.fn 133 [] [.ptr i2 77 0,.ptr i5 23 0]] S = .ret (acc ij (oneI (cvVs σ l).1),S') ∧ CM S' ic im (cvVs σ l).2.2 ∧ Own S' i5 io (cvVs σ l).2.1 ∧ Keep [ic,im,i5] S S' := by
 obtain ⟨y3,y7,ij,io,S',ih,r1,r2,r3⟩ := loop132 t l ic im i2 i5 hl (.iv (.sl t (TM.one (.int .i64) l))) l.length 0 (.tup []) (.tup []) S σ [] [] 0 0 (by omega) hc h2 ⟨by rw [h5]; rfl,At.nil⟩ At.nil (fun h => absurd rfl h) (by simp) (by simp) (by omega)
 rw [show ((0 : Nat) : Int) = 0 from rfl,List.drop_zero,List.nil_append] at *
 refine ⟨ij,io,S',call_ret' K _ (fn := t132) rfl rfl ?_,r1,r2,r3⟩
 rw [show acc 0 (oneI []) = .iv (.sl .nil []) from rfl] at ih
 simp (config := { maxSteps := 4000000 }) (disch := omega) only [t132,go_sem,TM.undef,TM.one_length]
 rw [ih]
 simp (config := { maxSteps := 4000000 }) (disch := omega) only [go_sem]
def loX (v : Int) : Ex := .mk 2 v .nil [] false .nil []
def boxX (v : Int) : Ex := .mk 12 0 .nil [] false .full [loX v]
theorem encE_cell (e : Ex) : (encE e).length = 5 ∧ (encE e).all isCell = true := ⟨encE_len e,by rw [encE_eq]; rfl⟩
theorem encEs_el (l : List Ex) : Elems 5 (encEs l) := by rw [encEs_map]; exact Elems.map encE_cell l
theorem encEs_app (l : List Ex) (e : Ex) : encEs l ++ [encE e] = encEs (l ++ [e]) := by simp [encEs_map]
theorem encEs_nil {l : List Ex} : encEs l = [] ↔ l = [] := by simp [encEs_map]
theorem ixT {j : Nat} {l : List Int} {i : Int} (h : 0 ≤ i ∧ i < l.length) : indexAddrS 1 (.tsl j (TM.one (.int .i64) l)) i = some (.iv (.cp [.int .i64 (l.getD i.toNat default)])) :=
 ix_one (f := IV.int .i64) (t := .no) (l := l) (i := i) h
theorem call135 {S : Store} {ic im i2 : Nat} {σ : Cv} (h : CM S ic im σ) (h2 : S[i2]? = some (.cells 77 false [.ptr ic 80 0])) (v : Int) :
  (lim K).call 135 [.iv (.int .i64 v),.ptr i2 77 0] S = .ret (.iv (.agg (encE (boxX ((σ.f v).getD 0)))),S) := by
 obtain ⟨l,c,h1,hf⟩ := h.map
 have hat := h.at'
 have hv : cntR l v = (σ.f v).getD 0 := by unfold cntR; rw [hf v]
 have c100 := call100 ((σ.f v).getD 0)
 rw [encE,encEs,TM.one] at c100
 refine call_ret' K _ (fn := t135) rfl rfl ?_
 unfold boxX loX
 simp (config := { maxSteps := 4000000 }) (disch := omega) only [t135,go_sem,TM.undef,h2,hat,h1,hv,cpR_pure c100,encE,encEs,TM.one,List.map_nil]
theorem loop134 (l : List Int) (ic im i2 io : Nat) (hl : l.length ≤ 1048576) (x0 : TV) : ∀ (k i : Nat) (x3 x7 : TV) (S : Store) (σ : Cv) (outs : List Ex) (ij : Nat),i + k = l.length →
  CM S ic im σ → S[i2]? = some (.cells 77 false [.ptr ic 80 0]) → At 5 25 (encEs outs) ij S → outs.length ≤ i →
  ∃ y3 y7 ij' S',lp' (lim K) t134L0 [x0,.fn 135 [] [.ptr i2 77 0],acc ij (encEs outs),x3,.tsl io (TM.one (.int .i64) l),.iv (.int .i64 l.length),.iv (.int .i64 (i : Int)),x7] S
   = .ret (.exit 0,[x0,.fn 135 [] [.ptr i2 77 0],acc ij' (encEs (outs ++ (l.drop i).map fun v => boxX ((σ.f v).getD 0))),y3,.tsl io (TM.one (.int .i64) l),.iv (.int .i64 l.length),.iv (.int .i64 l.length),y7],S') ∧
   Keep (own1 (encEs outs) ij) S S'
 | 0,i,x3,x7,S,σ,outs,ij,h,hc,h2,hj,b1 => by
  obtain rfl : i = l.length := by omega
  refine ⟨x3,.iv (.bool false),ij,S,loop_at K _ _ t134L0.eq_1 ?_,.refl _ _⟩
  rw [List.drop_length,List.map_nil,List.append_nil]
  simp (config := { maxSteps := 4000000 }) (disch := omega) only [go_sem]
 | k + 1,i,x3,x7,S,σ,outs,ij,h,hc,h2,hj,b1 => by
  have hla : i < l.length := by omega
  have hix := ixT (j := io) (l := l) (i := (i : Int)) (by omega)
  rw [Int.toNat_natCast] at hix
  have hdr := drop_get hla
  generalize hx : l.getD i default = x at *
  have c135 := call135 hc h2 x
  generalize hb : boxX ((σ.f x).getD 0) = b at *
  have e1 := ap_g (b := 72) (c := encE b) (t := .full) hj (encE_cell b) (encEs_el outs) (roomy_ok (by rw [encEs_len]; omega))
  have hk2 := gS_keep 5 25 (encEs outs) ij S
  have gt := gS_at hj (encE b)
  rw [encEs_app] at e1 gt
  have n0 : ∀ (j : Nat) (bl : Block),S[j]? = some bl → (∀ n e el,bl ≠ .tok n e el) → j ∉ own1 (encEs outs) ij := by
   intro j b hb hnt hm
   unfold own1 at hm
   split at hm
   ·cases hm
   ·rename_i h0
    simp at hm
    subst hm
    exact hnt _ _ _ (by rw [hj h0] at hb; exact (Option.some.inj hb).symm)
  obtain ⟨lm,cm,hm,hm2⟩ := hc.map
  have hc2 := hc.keepI hk2 (n0 _ _ hc.at' (by simp)) (n0 _ _ hm (by simp))
  have g22 := hk2.get _ _ (n0 _ _ h2 (by simp)) h2
  obtain ⟨y3,y7,ij',S',ih,r3⟩ := loop134 l ic im i2 io hl x0 k (i + 1) (.iv (.int .i64 x)) (.iv (.bool true)) _ σ (outs ++ [b]) _ (by omega) hc2 g22 gt (by simp; omega)
  rw [show ((i + 1 : Nat) : Int) = (i : Int) + 1 by omega] at ih
  refine ⟨y3,y7,ij',S',loop_at K _ _ t134L0.eq_1 ?_,?_⟩
  ·rw [hdr,List.map_cons,hb]
   simp only [List.append_assoc,List.singleton_append] at ih
   rw [encE_eq] at c135 e1
   simp (config := { maxSteps := 4000000 }) (disch := omega) only [go_sem,hix,c135,e1,wrap_i64]
   exact congrArg er ih
  ·refine keep_trans' hk2 r3 fun j hj => ?_
   unfold own1 at hj
   split at hj
   ·cases hj
   ·simp at hj
    subst hj
    unfold gI
    split
    ·right; exact Nat.le_refl _
    ·rename_i h0
     left; unfold own1; rw [if_neg h0]; simp
theorem call134 (l : List Int) (hne : l ≠ []) (ic im i2 io : Nat) (hl : l.length ≤ 1048576) (S : Store) (σ : Cv) (hc : CM S ic im σ) (h2 : S[i2]? = some (.cells 77 false [.ptr ic 80 0])) :
  ∃ ij S',(lim K).call 134 [.tsl io (TM.one (.int .i64) l),.fn 135 [] [.ptr i2 77 0]] S = .ret (.tsl ij (encEs (l.map fun v => boxX ((σ.f v).getD 0))),S') ∧ Keep [] S S' := by
 obtain ⟨y3,y7,ij,S',ih,r3⟩ := loop134 l ic im i2 io hl (.tsl io (TM.one (.int .i64) l)) l.length 0 (.tup []) (.tup []) S σ [] 0 (by omega) hc h2 At.nil (by simp)
 rw [show ((0 : Nat) : Int) = 0 from rfl,List.drop_zero,List.nil_append,show acc 0 (encEs []) = .iv (.sl .nil []) from rfl,acc_ne ij (by simp [encEs_nil,hne])] at ih
 refine ⟨ij,S',call_ret' K _ (fn := t134) rfl rfl ?_,r3⟩
 simp (config := { maxSteps := 4000000 }) (disch := omega) only [t134,go_sem,TM.undef,TM.one_length]
 rw [ih]
 simp (config := { maxSteps := 4000000 }) (disch := omega) only [go_sem]
def lamB (σ : Cv) (own : List Int) (b : Ex) : Ex := if own = [] then b else .mk 8 0 .nil [] false .no (.mk 7 0 .no own false .full [b] :: own.map fun v => boxX ((σ.f v).getD 0))
mutual
def cvE (σ : Cv) : Ex → Ex × Cv
 | .mk k n gv vs r g ks =>
  if k = 7 then
   (.mk 7 0 (sTag (cvVs σ vs).1) (cvVs σ vs).1 r .full [lamB (cvEs (cvVs σ vs).2.2 ks).2 (cvVs σ vs).2.1 ((cvEs (cvVs σ vs).2.2 ks).1.headD default)],(cvEs (cvVs σ vs).2.2 ks).2)
  else if k = 2 ∧ (σ.f n).isSome = true then (.mk 13 0 .nil [] false .full [.mk k n gv vs r g ks],σ)
  else if k = 4 then (.mk 14 0 .nil [] false .full [loX n,(cvEs σ ks).1.headD default],(cvEs σ ks).2)
  else (.mk k n gv vs r (sTag (cvEs σ ks).1) (cvEs σ ks).1,(cvEs σ ks).2)
def cvEs (σ : Cv) : List Ex → List Ex × Cv
 | [] => ([],σ)
 | e :: es => ((cvE σ e).1 :: (cvEs (cvE σ e).2 es).1,(cvEs (cvE σ e).2 es).2)
end
theorem cvE_eq (σ : Cv) (e : Ex) : cvE σ e = if e.k = 7 then
      (.mk 7 0 (sTag (cvVs σ e.vs).1) (cvVs σ e.vs).1 e.r .full [lamB (cvEs (cvVs σ e.vs).2.2 e.ks).2 (cvVs σ e.vs).2.1 ((cvEs (cvVs σ e.vs).2.2 e.ks).1.headD default)],(cvEs (cvVs σ e.vs).2.2 e.ks).2)
    else if e.k = 2 ∧ (σ.f e.n).isSome = true then (.mk 13 0 .nil [] false .full [e],σ)
    else if e.k = 4 then (.mk 14 0 .nil [] false .full [loX e.n,(cvEs σ e.ks).1.headD default],(cvEs σ e.ks).2)
    else (.mk e.k e.n e.gv e.vs e.r (sTag (cvEs σ e.ks).1) (cvEs σ e.ks).1,(cvEs σ e.ks).2) := by
  cases e; rw [cvE]; rfl
theorem cvEs_nil (σ : Cv) : cvEs σ [] = ([],σ) := by rw [cvEs]
theorem cvEs_cons (σ : Cv) (e : Ex) (es : List Ex) : cvEs σ (e :: es) = ((cvE σ e).1 :: (cvEs (cvE σ e).2 es).1,(cvEs (cvE σ e).2 es).2) := by rw [cvEs]
theorem cvE_nx : ∀ (N : Nat) (e : Ex) (σ : Cv),e.w ≤ N → σ.nx ≤ (cvE σ e).2.nx ∧ (cvE σ e).2.nx ≤ σ.nx + e.w
 | 0,e,σ,h => by have := Ex.w_eq e; omega
 | N + 1,e,σ,h => by
  have hwe := Ex.w_eq e
  have key : ∀ (l : List Ex) (σ : Cv),(∀ x ∈ l,x.w ≤ N) → σ.nx ≤ (cvEs σ l).2.nx ∧ (cvEs σ l).2.nx ≤ σ.nx + Ex.ws l := by
   intro l
   induction l with
   | nil => intro σ _; rw [cvEs_nil,Ex.ws]; simp
   | cons a r ih =>
    intro σ hl
    have h1 := cvE_nx N a σ (hl a (by simp))
    have h2 := ih (cvE σ a).2 (fun x hx => hl x (by simp [hx]))
    rw [cvEs_cons,Ex.ws]
    simp only
    omega
  have hv := cvVs_nx e.vs σ
  have hk := fun σ => key e.ks σ (fun x hx => by have := Ex.kid_lt hx; omega)
  have h1 := hk σ
  have h2 := hk (cvVs σ e.vs).2.2
  rw [cvE_eq]
  split
  ·simp only; omega
  ·split
   ·simp only; omega
   ·split <;> (simp only; omega)
mutual
def Fm : Ex → Prop
 | .mk k n gv vs r g ks => (k = 7 ∨ k = 4 → ks.length = 1) ∧ Fms ks
def Fms : List Ex → Prop
 | [] => True
 | e :: es => Fm e ∧ Fms es
end
theorem Fms_iff : ∀ {l : List Ex},Fms l ↔ ∀ x ∈ l,Fm x
 | [] => by simp [Fms]
 | a :: r => by rw [Fms,Fms_iff]; simp
theorem Fm_eq (e : Ex) : Fm e ↔ (e.k = 7 ∨ e.k = 4 → e.ks.length = 1) ∧ ∀ x ∈ e.ks,Fm x := by
 cases e; rw [Fm,Fms_iff]; rfl
def XV (r : TV) (e : Ex) : Prop := r = .iv (.agg (encE e)) ∨
 ∃ i,e.g = .no ∧ r = .agg [.iv (.int .i64 e.k),.iv (.int .i64 e.n),.iv (.sl e.gv (TM.one (.int .i64) e.vs)),.iv (.bool e.r),.tsl i (encEs e.ks)]
def CvOK (N : Nat) : Prop := ∀ (e : Ex) (S : Store) (ic im : Nat) (σ : Cv),e.w ≤ N → Fm e → CM S ic im σ → -1 ≤ σ.nx ∧ σ.nx ≤ 4611686017427387904 - e.w →
 ∃ r S',(lim K).call 66 [.ptr ic 80 0,.iv (.agg (encE e))] S = .ret (r,S') ∧ XV r (cvE σ e).1 ∧ CM S' ic im (cvE σ e).2 ∧ Keep [ic,im] S S'
theorem n_tok {S : Store} {w el : Nat} {l : List (List IV)} {i j : Nat} {b : Block} (h : At w el l i S) (hb : S[j]? = some b) (hnt : ∀ n e el,b ≠ .tok n e el) : j ∉ own1 l i := by
 intro hm
 unfold own1 at hm
 split at hm
 ·cases hm
 ·rename_i h0
  simp at hm
  subst hm
  exact hnt _ _ _ (by rw [h h0] at hb; exact (Option.some.inj hb).symm)
theorem loop101 {N : Nat} (ihN : CvOK N) (e : Ex) (hf : Fm e) (hw : e.w ≤ N + 1) (hN : N + 1 ≤ 1048576) (ic im : Nat) (x0 : TV) : ∀ (k i : Nat) (x3 x7 : TV) (S : Store) (σ : Cv) (outs : List Ex) (ij : Nat),i + k = e.ks.length →
  CM S ic im σ → At 5 25 (encEs outs) ij S → outs.length ≤ i → -1 ≤ σ.nx ∧ σ.nx ≤ 4611686017427387904 - Ex.ws (e.ks.drop i) →
  ∃ y3 y7 ij' S',lp' (lim K) t101L0 [x0,.fn 66 [.ptr ic 80 0] [],acc ij (encEs outs),x3,.iv (.sl e.g (encEs e.ks)),.iv (.int .i64 e.ks.length),.iv (.int .i64 (i : Int)),x7] S
   = .ret (.exit 0,[x0,.fn 66 [.ptr ic 80 0] [],acc ij' (encEs (outs ++ (cvEs σ (e.ks.drop i)).1)),y3,.iv (.sl e.g (encEs e.ks)),.iv (.int .i64 e.ks.length),.iv (.int .i64 e.ks.length),y7],S') ∧
   CM S' ic im (cvEs σ (e.ks.drop i)).2 ∧ Keep (ic :: im :: own1 (encEs outs) ij) S S'
 | 0,i,x3,x7,S,σ,outs,ij,h,hc,hj,b1,hx => by
  obtain rfl : i = e.ks.length := by omega
  refine ⟨x3,.iv (.bool false),ij,S,loop_at K _ _ t101L0.eq_1 ?_,?_,.refl _ _⟩
  ·rw [List.drop_length,cvEs_nil,List.append_nil]
   simp (config := { maxSteps := 4000000 }) (disch := omega) only [go_sem]
  ·rw [List.drop_length,cvEs_nil]; exact hc
 | k + 1,i,x3,x7,S,σ,outs,ij,h,hc,hj,b1,hx => by
  have hla : i < e.ks.length := by omega
  have hwe := Ex.w_eq e
  have hwl := Ex.ws_len e.ks
  have hix := ixE (g := e.g) (ks := e.ks) (i := (i : Int)) (by omega)
  rw [Int.toNat_natCast] at hix
  have hdr := drop_get hla
  have hkw := Ex.kid_lt (d := e) (get_mem hla)
  have hkf : Fm (e.ks.getD i default) := ((Fm_eq e).1 hf).2 _ (get_mem hla)
  rw [hdr,Ex.ws] at hx
  generalize hxx : e.ks.getD i default = x at *
  obtain ⟨r,S1,c66,hxv,hc1,hk1⟩ := ihN x S ic im σ (by omega) hkf hc (by omega)
  have hnx := cvE_nx _ x σ (Nat.le_refl _)
  generalize hb : cvE σ x = b at *
  obtain ⟨b,σ1⟩ := b
  simp only at hxv hc1 hnx
  have hjn : encEs outs ≠ [] → ij ∉ [ic,im] := by
   intro hne
   obtain ⟨lm,cm,hm,_⟩ := hc.map
   simp [ne_blk (hj hne) hc.at' (by simp),ne_blk (hj hne) hm (by simp)]
  have hj1 := hj.keep hk1 hjn
  have e1 := ap_g (b := 72) (c := encE b) (t := .full) hj1 (encE_cell b) (encEs_el outs) (roomy_ok (by rw [encEs_len]; omega))
  have hk2 := gS_keep 5 25 (encEs outs) ij S1
  have gt := gS_at hj1 (encE b)
  rw [encEs_app] at e1 gt
  obtain ⟨lm,cm,hm,hm2⟩ := hc1.map
  have hc2 := hc1.keepI hk2 (n_tok hj1 hc1.at' (by simp)) (n_tok hj1 hm (by simp))
  obtain ⟨y3,y7,ij',S',ih,r1,r3⟩ := loop101 ihN e hf hw hN ic im x0 k (i + 1) (lbE x) (.iv (.bool true)) _ σ1 (outs ++ [b]) _ (by omega) hc2 gt (by simp; omega) (by omega)
  rw [show ((i + 1 : Nat) : Int) = (i : Int) + 1 by omega] at ih
  refine ⟨y3,y7,ij',S',loop_at K _ _ t101L0.eq_1 ?_,?_,?_⟩
  ·rw [hdr,cvEs_cons,hb]
   simp only [List.append_assoc,List.singleton_append] at ih
   rw [encE_eq b] at e1
   rw [encE_eq x] at c66
   rcases hxv with rfl | ⟨i1,hg,rfl⟩
   ·rw [encE_eq b] at c66
    simp (config := { maxSteps := 4000000 }) (disch := omega) only [go_sem,hix,getE5,c66,e1,wrap_i64]
    exact congrArg er ih
   ·rw [hg] at e1
    simp (config := { maxSteps := 4000000 }) (disch := omega) only [go_sem,hix,getE5,c66,e1,wrap_i64]
    exact congrArg er ih
  ·rw [hdr,cvEs_cons,hb]; exact r1
  ·refine keep_trans' (hk1.mono (J := ic :: im :: own1 (encEs outs) ij) (fun j hj => by simp at hj ⊢; rcases hj with h | h <;> simp [h])) ((hk2.mono (J := ic :: im :: (own1 (encEs (outs ++ [b])) (gI (encEs outs) ij S1) ++ own1 (encEs outs) ij)) (fun j hj => by simp [hj])).trans (r3.mono (fun j hj => ?_))) (fun j hj => ?_)
   ·simp only [List.mem_cons,List.mem_append] at hj ⊢
    rcases hj with h | h | h <;> simp [h]
   ·simp only [List.mem_cons,List.mem_append] at hj ⊢
    rcases hj with h | h | h | h
    ·simp [h]
    ·simp [h]
    ·unfold own1 at h
     split at h
     ·cases h
     ·simp at h
      subst h
      unfold gI
      split
      ·right; exact hk1.len
      ·rename_i h0
       left; right; right
       unfold own1; rw [if_neg h0]; simp
    ·simp [h]
theorem call101 {N : Nat} (ihN : CvOK N) (e : Ex) (hf : Fm e) (hw : e.w ≤ N + 1) (hN : N + 1 ≤ 1048576) (ic im : Nat) (S : Store) (σ : Cv) (hc : CM S ic im σ) (hx : -1 ≤ σ.nx ∧ σ.nx ≤ 4611686017427387904 - Ex.ws e.ks) :
  ∃ ij S',(lim K).call 101 [.iv (.sl e.g (encEs e.ks)),.fn 66 [.ptr ic 80 0] []] S = .ret (acc ij (encEs (cvEs σ e.ks).1),S') ∧ CM S' ic im (cvEs σ e.ks).2 ∧ Keep [ic,im] S S' := by
 obtain ⟨y3,y7,ij,S',ih,r1,r3⟩ := loop101 ihN e hf hw hN ic im (.iv (.sl e.g (encEs e.ks))) e.ks.length 0 (.tup []) (.tup []) S σ [] 0 (by omega) hc At.nil (by simp) (by rw [List.drop_zero]; exact hx)
 rw [show ((0 : Nat) : Int) = 0 from rfl,List.drop_zero,List.nil_append,show acc 0 (encEs []) = .iv (.sl .nil []) from rfl] at ih
 rw [List.drop_zero] at r1
 refine ⟨ij,S',call_ret' K _ (fn := t101) rfl rfl ?_,r1,r3⟩
 simp (config := { maxSteps := 4000000 }) (disch := omega) only [t101,go_sem,TM.undef,encEs_len]
 rw [ih]
 simp (config := { maxSteps := 4000000 }) (disch := omega) only [go_sem]
theorem one_kid {ks : List Ex} (h : ks.length = 1) : ∃ x,ks = [x] := by
 cases ks with
 | nil => simp at h
 | cons a r => cases r with
  | nil => exact ⟨a,rfl⟩
  | cons b r => simp at h
theorem accI_cases (ij : Nat) (l : List Int) : (l = [] ∧ acc ij (oneI l) = .iv (.sl .nil [])) ∨ (l ≠ [] ∧ acc ij (oneI l) = .tsl ij (TM.one (.int .i64) l)) := by
 by_cases h : l = []
 ·subst h; exact .inl ⟨rfl,rfl⟩
 ·exact .inr ⟨h,acc_ne _ (by simpa [oneI_nil] using h)⟩
theorem sTag_ne {α : Type} {l : List α} (h : l ≠ []) : sTag l = .no := by cases l with | nil => exact absurd rfl h | cons a r => rfl
theorem cvVs_none {σ : Cv} {l : List Int} (h : (cvVs σ l).1 = []) : (cvVs σ l).2.1 = [] := by
 cases l with
 | nil => rfl
 | cons a r => simp [cvVs] at h
theorem ap_new1 {w b el : Nat} {S : Store} {c : List IV} {j : Nat} {ys : List (List IV)} (hc : c.length = w ∧ c.all isCell = true) (hw : Elems w ys) (h0 : ys ≠ []) (hr : roomy (1 + ys.length) b = true) :
  appendOp false w b el S (.iv (.sl .full [c])) (.tsl j ys) = some (.tsl S.length (c :: ys),S ++ [.tok (1 + ys.length) w el]) :=
 ap_new (by decide) (IsEl.tsl ..) hw (by intro y hy; simp at hy; subst hy; exact hc) h0 hr
theorem call98 {N : Nat} (ihN : CvOK N) (e : Ex) (hk : e.k = 7) (hf : Fm e) (hw : e.w ≤ N + 1) (hN : N + 1 ≤ 1048576) (S : Store) (ic im : Nat) (σ : Cv) (hc : CM S ic im σ) (hx : -1 ≤ σ.nx ∧ σ.nx ≤ 4611686017427387904 - e.w) :
  ∃ r S',(lim K).call 98 [.ptr ic 80 0,.iv (.agg (encE e))] S = .ret (r,S') ∧ r = .iv (.agg (encE (cvE σ e).1)) ∧ CM S' ic im (cvE σ e).2 ∧ Keep [ic,im] S S' := by
 have hwe := Ex.w_eq e
 obtain ⟨x,hks⟩ := one_kid (((Fm_eq e).1 hf).1 (.inl hk))
 have hxw := Ex.kid_lt (d := e) (x := x) (by rw [hks]; simp)
 have hxf : Fm x := ((Fm_eq e).1 hf).2 x (by rw [hks]; simp)
 have hws : Ex.ws e.ks = x.w := by rw [hks,Ex.ws,Ex.ws]; rfl
 have hix := ixE (g := e.g) (ks := e.ks) (i := 0) (by rw [hks]; simp)
 rw [show e.ks.getD (0 : Int).toNat default = x by rw [hks]; rfl] at hix
 have k1 := Keep.app [] S [Block.cells 77 false [.ptr ic 80 0]]
 have k2 := k1.trans (Keep.app [] _ [Block.cells 23 false [.iv (.sl .nil [])]])
 have g2 := get_app2 S (.cells 77 false [.ptr ic 80 0]) (.cells 23 false [.iv (.sl .nil [])])
 have g5 := get_app1 (S ++ [Block.cells 77 false [.ptr ic 80 0]]) (.cells 23 false [.iv (.sl .nil [])])
 have hc2 := hc.keep k2
 have hl5 : S.length < (S ++ [Block.cells 77 false [TV.ptr ic 80 0]]).length := by simp
 obtain ⟨ij,io,S3,c132,hc3,ho3,hk3⟩ := call132 e.gv e.vs ic im S.length (S ++ [Block.cells 77 false [.ptr ic 80 0]]).length (by omega) _ σ hc2 g2 g5 (by omega)
 obtain ⟨lm2,cm2,hm2,_⟩ := hc2.map
 have n1 := ne_blk g2 hc2.at' (by simp)
 have n2 := ne_blk g2 hm2 (by simp)
 have n3 := ne_blk g2 g5 (by simp)
 have g23 := hk3.get _ _ (by simp [n1,n2,n3]) g2
 have hnx := cvVs_nx e.vs σ
 have gz3 := get_app1 S3 (.cells 26 false [.iv (.int .i64 0),.iv (.int .i64 0),.iv (.sl .nil []),.iv (.bool false),.iv (.sl .nil [])])
 obtain ⟨r,S4,c66,hxv,hc4,hk4⟩ := ihN x (S3 ++ [.cells 26 false [.iv (.int .i64 0),.iv (.int .i64 0),.iv (.sl .nil []),.iv (.bool false),.iv (.sl .nil [])]]) ic im (cvVs σ e.vs).2.2 (by omega) hxf (hc3.keep (Keep.app _ _ _)) (by omega)
 have hcv : cvEs (cvVs σ e.vs).2.2 e.ks = ([(cvE (cvVs σ e.vs).2.2 x).1],(cvE (cvVs σ e.vs).2.2 x).2) := by rw [hks,cvEs_cons,cvEs_nil]
 rw [cvE_eq,if_pos hk,hcv]
 simp only [List.headD_cons]
 have hvl : (cvVs σ e.vs).2.1.length ≤ 1048576 := by
  have key : ∀ (l : List Int) (σ : Cv),(cvVs σ l).2.1.length ≤ l.length := by
   intro l
   induction l with
   | nil => intro σ; simp [cvVs]
   | cons a r ih => intro σ; have := ih (stepV σ a).2.2; have := stepV_own σ a; simp [cvVs]; omega
  have := key e.vs σ; omega
 have hno := @cvVs_none σ e.vs
 generalize hb : cvE (cvVs σ e.vs).2.2 x = b at *
 obtain ⟨b,σ2⟩ := b
 simp only at hxv hc4 ⊢
 generalize hv : cvVs σ e.vs = v at *
 obtain ⟨vs',own,σ1⟩ := v
 simp only at c132 hc3 ho3 hnx c66 hvl hno hb ⊢
 obtain ⟨lm3,cm3,hm3,_⟩ := hc3.map
 have hc3' := hc3.keep (Keep.app [] _ [Block.cells 26 false [.iv (.int .i64 0),.iv (.int .i64 0),.iv (.sl .nil []),.iv (.bool false),.iv (.sl .nil [])]])
 obtain ⟨lm3',cm3',hm3',_⟩ := hc3'.map
 have gz4 := hk4.get _ _ (by simp only [List.mem_cons,List.not_mem_nil,or_false,not_or]; exact ⟨ne_blk gz3 hc3'.at' (by simp),ne_blk gz3 hm3' (by simp)⟩) gz3
 have g24 := hk4.get _ _ (by simp only [List.mem_cons,List.not_mem_nil,or_false,not_or]; exact ⟨ne_blk g23 hc3.at' (by simp),ne_blk g23 hm3 (by simp)⟩) (get_appO g23 _)
 have nb1 := ne_blk ho3.box hc3.at' (by simp)
 have nb2 := ne_blk ho3.box hm3 (by simp)
 have gb4 := hk4.get _ _ (by simp only [List.mem_cons,List.not_mem_nil,or_false,not_or]; exact ⟨nb1,nb2⟩) (get_appO ho3.box _)
 have n13 : S.length < S3.length := lt_get g23
 have nb3 := lt_get ho3.box
 generalize hi5 : (S ++ [Block.cells 77 false [TV.ptr ic 80 0]]).length = i5 at *
 have kk3 : Keep [ic,im] S S3 := by
  refine keep_trans' (k2.mono (by simp)) hk3 fun j hj => ?_
  simp only [List.mem_cons,List.not_mem_nil,or_false] at hj
  rcases hj with h | h | h
  ·simp [h]
  ·simp [h]
  ·right; omega
 have kk : Keep [ic,im] S S4 := (kk3.trans (Keep.app _ _ _)).trans hk4
 have lz4 := lt_get gz4
 have q1 := lt_get hc3.at'
 have q2 := lt_get hm3
 have kz : Keep [S3.length] S4 (S4.set S3.length (.cells 26 false (cellsOf r))) := Keep.set _ (by simp) _
 have hc5 : CM (S4.set S3.length (.cells 26 false (cellsOf r))) ic im σ2 := hc4.keepI kz (by simp; omega) (by simp; omega)
 have g25 : (S4.set S3.length (.cells 26 false (cellsOf r)))[S.length]? = some (.cells 77 false [.ptr ic 80 0]) := kz.get _ _ (by simp; omega) g24
 have gb5 : (S4.set S3.length (.cells 26 false (cellsOf r)))[i5]? = some (.cells 23 false [acc io (oneI own)]) := kz.get _ _ (by simp; omega) gb4
 have gz5 : (S4.set S3.length (.cells 26 false (cellsOf r)))[S3.length]? = some (.cells 26 false (cellsOf r)) := get_setS lz4 _
 have kk5 : Keep [ic,im] S (S4.set S3.length (.cells 26 false (cellsOf r))) := keep_trans' kk kz (fun j hj => by simp at hj; subst hj; exact .inr (by omega))
 by_cases hown : own = []
 ·subst hown
  rw [lamB,if_pos rfl]
  rw [show acc io (oneI []) = .iv (.sl .nil []) from rfl] at gb5
  refine ⟨.iv (.agg [.int .i64 7,.int .i64 0,.sl (sTag vs') (TM.one (.int .i64) vs'),.bool e.r,.sl .full [[.int .i64 b.k,.int .i64 b.n,.sl b.gv (TM.one (.int .i64) b.vs),.bool b.r,.sl b.g (encEs b.ks)]]]),S4.set S3.length (.cells 26 false (cellsOf r)),call_ret' K _ (fn := t98) rfl rfl ?_,(by rw [encE,encEs,encEs,encE_eq b]),hc5,kk5⟩
  rw [encE_eq x] at c66
  rw [encE_eq]
  rcases hxv with rfl | ⟨i1,hg,rfl⟩
  ·rw [encE_eq b] at c66 gb5 gz5 ⊢
   simp (config := { maxSteps := 4000000 }) (disch := omega) only [cellsOf,List.map_cons,List.map_nil] at gb5 gz5 ⊢
   rcases accI_cases ij vs' with ⟨hv0,ha⟩ | ⟨hv0,ha⟩
   ·subst hv0
    rw [ha] at c132
    simp (config := { maxSteps := 4000000 }) (disch := omega) only [t98,go_sem,TM.undef,hi5,c132,g23,hix,getE5,c66,gz4,gb5,gz5]
    rfl
   ·rw [ha] at c132
    rw [sTag_ne hv0]
    simp (config := { maxSteps := 4000000 }) (disch := omega) only [t98,go_sem,TM.undef,hi5,c132,g23,hix,getE5,c66,gz4,gb5,gz5]
  ·rw [hg]
   simp (config := { maxSteps := 4000000 }) (disch := omega) only [cellsOf,List.map_cons,List.map_nil] at gb5 gz5 ⊢
   rcases accI_cases ij vs' with ⟨hv0,ha⟩ | ⟨hv0,ha⟩
   ·subst hv0
    rw [ha] at c132
    simp (config := { maxSteps := 4000000 }) (disch := omega) only [t98,go_sem,TM.undef,hi5,c132,g23,hix,getE5,c66,gz4,gb5,gz5]
    rfl
   ·rw [ha] at c132
    rw [sTag_ne hv0]
    simp (config := { maxSteps := 4000000 }) (disch := omega) only [t98,go_sem,TM.undef,hi5,c132,g23,hix,getE5,c66,gz4,gb5,gz5]
 ·have hv0 : vs' ≠ [] := fun h => hown (hno h)
  rcases accI_cases ij vs' with ⟨h,_⟩ | ⟨_,ha⟩
  ·exact absurd h hv0
  rcases accI_cases io own with ⟨h,_⟩ | ⟨_,hao⟩
  ·exact absurd h hown
  rw [hao] at gb5
  rw [lamB,if_neg hown]
  obtain ⟨j7,S6,c134,hk6⟩ := call134 own hown ic im S.length io (by omega) _ σ2 hc5 g25
  have gb6 := hk6.get _ _ (by simp) gb5
  have gz6 := hk6.get _ _ (by simp) gz5
  generalize hbs : (own.map fun v => boxX ((σ2.f v).getD 0)) = bs at *
  have hbl : bs.length = own.length := by rw [← hbs,List.length_map]
  have e1 := ap_new1 (w := 5) (b := 72) (el := 25) (S := S6) (j := j7) (c := [.int .i64 7,.int .i64 0,.sl .no (TM.one (.int .i64) own),.bool false,.sl .full [[.int .i64 b.k,.int .i64 b.n,.sl b.gv (TM.one (.int .i64) b.vs),.bool b.r,.sl b.g (encEs b.ks)]]]) ⟨rfl,rfl⟩ (encEs_el bs) (fun h => hown (by have := encEs_nil.1 h; rw [this] at hbl; exact List.eq_nil_of_length_eq_zero hbl.symm)) (roomy_ok (by rw [encEs_len]; omega))
  have hl4 : S3.length < S6.length := lt_get gz6
  have gz7 : (S6 ++ [Block.tok (1 + (encEs bs).length) 5 25])[S3.length]? = some (.cells 26 false (cellsOf r)) := get_appO gz6 _
  have gz8 : ∀ b8,((S6 ++ [Block.tok (1 + (encEs bs).length) 5 25]).set S3.length b8)[S3.length]? = some b8 := fun b8 => get_setS (by simp; omega) _
  have kk8 : ∀ b8,Keep [ic,im] S ((S6 ++ [Block.tok (1 + (encEs bs).length) 5 25]).set S3.length b8) := fun b8 =>
   keep_trans' ((kk5.trans (hk6.mono (by simp))).trans (Keep.app _ _ _)) (Keep.set (I := [S3.length]) _ (by simp) b8) (fun j hj => by simp at hj; subst hj; exact .inr (by omega))
  have hc8 : ∀ b8,CM ((S6 ++ [Block.tok (1 + (encEs bs).length) 5 25]).set S3.length b8) ic im σ2 := fun b8 => by
   have h1 := (hc5.keep hk6).keep (Keep.app _ _ [Block.tok (1 + (encEs bs).length) 5 25])
   obtain ⟨lm4,cm4,hm4,_⟩ := hc4.map
   exact h1.keepI (Keep.set (I := [S3.length]) _ (by simp) b8) (by simp; omega) (by simp; omega)
  generalize hb8 : Block.cells 26 false [TV.iv (.int .i64 8),.iv (.int .i64 0),.iv (.sl .nil []),.iv (.bool false),.iv (.sl .no ([.int .i64 7,.int .i64 0,.sl .no (TM.one (.int .i64) own),.bool false,.sl .full [[.int .i64 b.k,.int .i64 b.n,.sl b.gv (TM.one (.int .i64) b.vs),.bool b.r,.sl b.g (encEs b.ks)]]] :: encEs bs))] = b8
  have hol : 0 < own.length := List.length_pos_iff.2 hown
  refine ⟨.iv (.agg [.int .i64 7,.int .i64 0,.sl .no (TM.one (.int .i64) vs'),.bool e.r,.sl .full [[.int .i64 8,.int .i64 0,.sl .nil [],.bool false,.sl .no ([.int .i64 7,.int .i64 0,.sl .no (TM.one (.int .i64) own),.bool false,.sl .full [[.int .i64 b.k,.int .i64 b.n,.sl b.gv (TM.one (.int .i64) b.vs),.bool b.r,.sl b.g (encEs b.ks)]]] :: encEs bs)]]]),(S6 ++ [Block.tok (1 + (encEs bs).length) 5 25]).set S3.length b8,call_ret' K _ (fn := t98) rfl rfl ?_,(by rw [encE,sTag_ne hv0,encEs,encEs,encE,encEs,encE,encEs,encEs,encE_eq b]; rfl),hc8 _,kk8 _⟩
  rw [ha] at c132
  rw [encE_eq x] at c66
  rw [encE_eq]
  have gz9 := gz8 b8
  rw [← hb8] at gz9 ⊢
  rcases hxv with rfl | ⟨i1,hg,rfl⟩
  ·rw [encE_eq b] at c66 gb5 gz5 c134 gz6 gz7
   simp (config := { maxSteps := 4000000 }) (disch := omega) only [cellsOf,List.map_cons,List.map_nil] at gb5 gz5 c134 gz6 gz7
   simp (config := { maxSteps := 4000000 }) (disch := omega) only [t98,go_sem,TM.undef,hi5,c132,g23,hix,getE5,c66,gz4,gb5,gz5,c134,gb6,gz6,e1,gz7,gz9]
  ·simp (config := { maxSteps := 4000000 }) (disch := omega) only [cellsOf,List.map_cons,List.map_nil] at gb5 gz5 c134 gz6 gz7
   rw [hg] at e1 gz9 ⊢
   simp (config := { maxSteps := 4000000 }) (disch := omega) only [t98,go_sem,TM.undef,hi5,c132,g23,hix,getE5,c66,gz4,gb5,gz5,c134,gb6,gz6,e1,gz7,gz9]
theorem accE_cases (ij : Nat) (l : List Ex) : (l = [] ∧ acc ij (encEs l) = .iv (.sl .nil [])) ∨ (l ≠ [] ∧ acc ij (encEs l) = .tsl ij (encEs l)) := by
 by_cases h : l = []
 ·subst h; exact .inl ⟨rfl,by rw [encEs]; rfl⟩
 ·exact .inr ⟨h,acc_ne _ (by simpa [encEs_nil] using h)⟩
theorem call66 : ∀ N,N ≤ 1048576 → CvOK N
 | 0,hN => fun e S ic im σ hw hf hc hx => by have := Ex.w_eq e; omega
 | N + 1,hN => fun e S ic im σ hw hf hc hx => by
  have hwe := Ex.w_eq e
  by_cases h7 : e.k = 7
  ·obtain ⟨r,S',c98,hxv,hc',hk⟩ := call98 (call66 N (by omega)) e h7 hf hw hN S ic im σ hc hx
   refine ⟨r,S',call_ret' K _ (fn := t66) rfl rfl ?_,.inl hxv,hc',hk⟩
   obtain rfl := hxv
   rw [encE_eq e] at c98 ⊢
   rw [h7] at c98
   rw [encE_eq (cvE σ e).1] at c98 ⊢
   simp (config := { maxSteps := 4000000 }) (disch := omega) only [t66,go_sem,TM.undef,h7,c98]
  by_cases h4 : e.k = 4
  ·obtain ⟨x,hks⟩ := one_kid (((Fm_eq e).1 hf).1 (.inr h4))
   have hxw := Ex.kid_lt (d := e) (x := x) (by rw [hks]; simp)
   have hxf : Fm x := ((Fm_eq e).1 hf).2 x (by rw [hks]; simp)
   have hix := ixE (g := e.g) (ks := e.ks) (i := 0) (by rw [hks]; simp)
   rw [show e.ks.getD (0 : Int).toNat default = x by rw [hks]; rfl] at hix
   obtain ⟨r,S',c66,hxv,hc',hk⟩ := call66 N (by omega) x S ic im σ (by omega) hxf hc (by omega)
   have hcv : cvEs σ e.ks = ([(cvE σ x).1],(cvE σ x).2) := by rw [hks,cvEs_cons,cvEs_nil]
   rw [cvE_eq,if_neg h7,if_neg (by omega),if_pos h4,hcv]
   simp only [List.headD_cons]
   generalize hb : cvE σ x = b at *
   obtain ⟨b,σ1⟩ := b
   simp only at hxv hc' ⊢
   have c100 := call100 e.n
   rw [encE,encEs,TM.one] at c100
   refine ⟨.iv (.agg [.int .i64 14,.int .i64 0,.sl .nil [],.bool false,.sl .full [[.int .i64 2,.int .i64 e.n,.sl .nil [],.bool false,.sl .nil []],[.int .i64 b.k,.int .i64 b.n,.sl b.gv (TM.one (.int .i64) b.vs),.bool b.r,.sl b.g (encEs b.ks)]]]),S',call_ret' K _ (fn := t66) rfl rfl ?_,(.inl (by unfold loX; rw [encE,encEs,encEs,encEs,encE,encE_eq b,encEs]; rfl)),hc',hk⟩
   rw [encE_eq x] at c66
   rw [encE_eq]
   rcases hxv with rfl | ⟨i1,hg,rfl⟩
   ·rw [encE_eq b] at c66
    simp (config := { maxSteps := 4000000 }) (disch := omega) only [t66,go_sem,TM.undef,h4,cpR_pure c100,hix,getE5,c66,List.map_nil]
   ·simp (config := { maxSteps := 4000000 }) (disch := omega) only [t66,go_sem,TM.undef,h4,cpR_pure c100,hix,getE5,c66,hg,List.map_nil]
  by_cases h2 : e.k = 2 ∧ (σ.f e.n).isSome = true
  ·rw [cvE_eq,if_neg h7,if_pos h2]
   have c99 := call99 hc e.n
   rw [h2.2] at c99
   refine ⟨.iv (.agg [.int .i64 13,.int .i64 0,.sl .nil [],.bool false,.sl .full [[.int .i64 e.k,.int .i64 e.n,.sl e.gv (TM.one (.int .i64) e.vs),.bool e.r,.sl e.g (encEs e.ks)]]]),S,call_ret' K _ (fn := t66) rfl rfl ?_,(.inl (by rw [encE,encEs,encEs,encE_eq e]; rfl)),hc,.refl _ _⟩
   rw [encE_eq]
   simp (config := { maxSteps := 4000000 }) (disch := omega) only [t66,go_sem,TM.undef,h2.1,c99]
  ·obtain ⟨ij,S',c101,hc',hk⟩ := call101 (call66 N (by omega)) e hf hw hN ic im S σ hc (by omega)
   rw [cvE_eq,if_neg h7,if_neg h2,if_neg h4]
   have c99 : ∀ (h : e.k = 2),(lim K).call 99 [.ptr ic 80 0,.iv (.int .i64 e.n)] S = .ret (.iv (.bool false),S) := fun h => by
    have := call99 hc e.n
    cases hs : (σ.f e.n).isSome with
    | true => exact absurd ⟨h,hs⟩ h2
    | false => rw [hs] at this; exact this
   rcases accE_cases ij (cvEs σ e.ks).1 with ⟨h0,ha⟩ | ⟨h0,ha⟩
   ·rw [ha] at c101
    refine ⟨.iv (.agg [.int .i64 e.k,.int .i64 e.n,.sl e.gv (TM.one (.int .i64) e.vs),.bool e.r,.sl .nil []]),S',call_ret' K _ (fn := t66) rfl rfl ?_,.inl (by rw [encE,h0,encEs]; rfl),hc',hk⟩
    rw [encE_eq]
    by_cases hk2 : e.k = 2
    ·simp (config := { maxSteps := 4000000 }) (disch := omega) only [t66,go_sem,TM.undef,hk2,c99 hk2,c101]
    ·simp (config := { maxSteps := 4000000 }) (disch := omega) only [t66,go_sem,TM.undef,hk2,h7,h4,c101]
   ·rw [ha] at c101
    refine ⟨.agg [.iv (.int .i64 e.k),.iv (.int .i64 e.n),.iv (.sl e.gv (TM.one (.int .i64) e.vs)),.iv (.bool e.r),.tsl ij (encEs (cvEs σ e.ks).1)],S',call_ret' K _ (fn := t66) rfl rfl ?_,.inr ⟨ij,sTag_ne h0,rfl⟩,hc',hk⟩
    rw [encE_eq]
    by_cases hk2 : e.k = 2
    ·simp (config := { maxSteps := 4000000 }) (disch := omega) only [t66,go_sem,TM.undef,hk2,c99 hk2,c101]
    ·simp (config := { maxSteps := 4000000 }) (disch := omega) only [t66,go_sem,TM.undef,hk2,h7,h4,c101]
mutual
def bxF : Ex → Bool
 | .mk k n gv vs r g ks => (decide (12 ≤ k) && decide (k ≤ 14)) || bxFs ks
def bxFs : List Ex → Bool
 | [] => false
 | e :: es => bxF e || bxFs es
end
theorem bxF_eq (e : Ex) : bxF e = ((decide (12 ≤ e.k) && decide (e.k ≤ 14)) || bxFs e.ks) := by cases e; rw [bxF]; rfl
theorem loop131 {N : Nat} (ih : ∀ (e : Ex) (S : Store),e.w ≤ N → (lim K).call 65 [.iv (.agg (encE e))] S = .ret (.iv (.bool (bxF e)),S))
  (e : Ex) (hw : e.w ≤ N + 1) (hN : N + 1 ≤ 1048576) (S : Store) : ∀ (k i : Nat) (x3 x6 x7 : TV),i + k = e.ks.length →
  ∃ j m y3 y5 y6 y7,(j = .ret ∧ 0 ≤ m ∧ bxFs (e.ks.drop i) = true ∨ j = .exit 0 ∧ m = 0 ∧ bxFs (e.ks.drop i) = false) ∧
   lp' (lim K) t131L0 [.iv (.sl e.g (encEs e.ks)),.fn 65 [] [],.iv (.int .i64 0),x3,.iv (.int .i64 e.ks.length),.iv (.int .i64 (i : Int)),x6,x7] S
    = .ret (j,[.iv (.sl e.g (encEs e.ks)),.fn 65 [] [],.iv (.int .i64 m),y3,.iv (.int .i64 e.ks.length),y5,y6,y7],S)
 | 0,i,x3,x6,x7,h => by
  obtain rfl : i = e.ks.length := by omega
  refine ⟨.exit 0,0,?_,?_,?_,?_,.inr ⟨rfl,rfl,by rw [List.drop_length,bxFs]⟩,loop_at K _ _ t131L0.eq_1 ?_⟩
  rotate_left 4
  ·simp (config := { maxSteps := 4000000 }) (disch := omega) only [go_sem]
   rfl
 | k + 1,i,x3,x6,x7,h => by
  have hla : i < e.ks.length := by omega
  have hwe := Ex.w_eq e
  have hwl := Ex.ws_len e.ks
  have hix := ixE (g := e.g) (ks := e.ks) (i := (i : Int)) (by omega)
  rw [Int.toNat_natCast] at hix
  have hdr := drop_get hla
  have hkw := Ex.kid_lt (d := e) (get_mem hla)
  generalize hx : e.ks.getD i default = x at *
  have hc := ih x [] (by omega)
  rw [encE_eq] at hc
  rw [hdr,bxFs]
  cases hb : bxF x with
  | true =>
   rw [hb] at hc
   refine ⟨.ret,(i : Int),?_,?_,?_,?_,.inl ⟨rfl,by omega,rfl⟩,loop_at K _ _ t131L0.eq_1 ?_⟩
   rotate_left 4
   ·simp (config := { maxSteps := 4000000 }) (disch := omega) only [go_sem,hix,getE5,hc]
    rfl
  | false =>
   rw [hb] at hc
   obtain ⟨j,m,y3,y5,y6,y7,hj,ih2⟩ := loop131 ih e hw hN S k (i + 1) (.iv (.int .i64 (i : Int))) (.iv (.bool true)) (.iv (.bool false)) (by omega)
   rw [show ((i + 1 : Nat) : Int) = (i : Int) + 1 by omega] at ih2
   refine ⟨j,m,y3,y5,y6,y7,by simpa using hj,loop_at K _ _ t131L0.eq_1 ?_⟩
   simp (config := { maxSteps := 4000000 }) (disch := omega) only [go_sem,hix,getE5,hc,wrap_i64]
   exact congrArg er ih2
theorem call65 : ∀ N,N ≤ 1048576 → ∀ (e : Ex) (S : Store),e.w ≤ N → (lim K).call 65 [.iv (.agg (encE e))] S = .ret (.iv (.bool (bxF e)),S)
 | 0,hN,e,S,hw => by have := Ex.w_eq e; omega
 | N + 1,hN,e,S,hw => by
  have hwe := Ex.w_eq e
  have hwl := Ex.ws_len e.ks
  have c97 : (lim K).call 97 [.iv (.sl e.g (encEs e.ks)),.fn 65 [] []] S = .ret (.iv (.bool (bxFs e.ks)),S) := by
   have c131 : ∃ m : Int,(lim K).call 131 [.iv (.sl e.g (encEs e.ks)),.fn 65 [] []] S = .ret (.iv (.int .i64 m),S) ∧ decide (m ≥ 0) = bxFs e.ks := by
    obtain ⟨j,m,y3,y5,y6,y7,hj,ih2⟩ := loop131 (call65 N (by omega)) e hw hN S e.ks.length 0 (.tup []) (.tup []) (.tup []) (by omega)
    rw [show ((0 : Nat) : Int) = 0 from rfl] at ih2
    rw [List.drop_zero] at hj
    rcases hj with ⟨rfl,hm,hb⟩ | ⟨rfl,rfl,hb⟩
    ·refine ⟨m,call_ret' K _ (fn := t131) rfl rfl ?_,by rw [hb]; simpa using hm⟩
     simp (config := { maxSteps := 4000000 }) (disch := omega) only [t131,go_sem,TM.undef,encEs_len]
     rw [ih2]
     simp (config := { maxSteps := 4000000 }) (disch := omega) only [go_sem]
    ·refine ⟨-1,call_ret' K _ (fn := t131) rfl rfl ?_,by rw [hb]; rfl⟩
     simp (config := { maxSteps := 4000000 }) (disch := omega) only [t131,go_sem,TM.undef,encEs_len]
     rw [ih2]
     simp (config := { maxSteps := 4000000 }) (disch := omega) only [go_sem]
   obtain ⟨m,c,hm⟩ := c131
   refine call_ret' K _ (fn := t97) rfl rfl ?_
   simp (config := { maxSteps := 4000000 }) (disch := omega) only [t97,go_sem,TM.undef,c,hm]
  refine call_ret' K _ (fn := t65) rfl rfl ?_
  rw [bxF_eq,encE_eq]
  by_cases h1 : 12 ≤ e.k
  ·by_cases h2 : e.k ≤ 14
   ·simp (config := { maxSteps := 4000000 }) (disch := omega) only [t65,go_sem,TM.undef,h1,h2,ge_iff_le]
   ·simp (config := { maxSteps := 4000000 }) (disch := omega) only [t65,go_sem,TM.undef,h1,h2,ge_iff_le,c97]
  ·simp (config := { maxSteps := 4000000 }) (disch := omega) only [t65,go_sem,TM.undef,h1,ge_iff_le,c97]
def asg0 (l : List Int) (σ : Cv) : Cv := ⟨fun v => if v ∈ l then some 0 else σ.f v,σ.nx⟩
theorem encD_cell (d : Dt) : (encD d).length = 5 ∧ (encD d).all isCell = true := by rw [encD_eq]; exact ⟨rfl,rfl⟩
theorem encDs_el (l : List Dt) : Elems 5 (encDs l) := by rw [encDs_map]; exact Elems.map encD_cell l
theorem loop24 (t : Tag) (l : List Int) (hl : l.length ≤ 1048576) (ic im : Nat) (x0 x1 x2 x3 x4 x7 x8 x9 : TV) : ∀ (k i : Nat) (x6 x13 : TV) (S : Store) (σ : Cv),i + k = l.length → CM S ic im σ →
  ∃ y6 y13 S',lp' (lim K) t24L0 [x0,x1,x2,x3,x4,.ptr ic 80 0,x6,x7,x8,x9,.iv (.sl t (TM.one (.int .i64) l)),.iv (.int .i64 l.length),.iv (.int .i64 (i : Int)),x13] S
   = .ret (.exit 0,[x0,x1,x2,x3,x4,.ptr ic 80 0,y6,x7,x8,x9,.iv (.sl t (TM.one (.int .i64) l)),.iv (.int .i64 l.length),.iv (.int .i64 l.length),y13],S') ∧ CM S' ic im (asg0 (l.drop i) σ)
 | 0,i,x6,x13,S,σ,h,hc => by
  obtain rfl : i = l.length := by omega
  refine ⟨x6,.iv (.bool false),S,loop_at K _ _ t24L0.eq_1 ?_,?_⟩
  ·simp (config := { maxSteps := 4000000 }) (disch := omega) only [go_sem]
  ·rw [List.drop_length]
   obtain ⟨m,c,h1,h2⟩ := hc.map
   exact ⟨hc.at',m,c,h1,fun v => by rw [h2 v]; simp [asg0]⟩
 | k + 1,i,x6,x13,S,σ,h,hc => by
  have hla : i < l.length := by omega
  have hix := ix_one (f := IV.int .i64) (t := t) (l := l) (i := (i : Int)) (by omega)
  rw [Int.toNat_natCast] at hix
  have hdr := drop_get hla
  generalize hx : l.getD i default = x at *
  obtain ⟨m,c,h1,h2⟩ := hc.map
  have hat := hc.at'
  have hne := hc.ne
  have hc1 : CM (S.set im (.mp (mpR boxI (putR m c x 0)) (clkR m c x))) ic im (asg0 [x] σ) := by
   refine ⟨by rw [get_setN (Ne.symm hne)]; exact hat,_,_,get_setS (lt_get h1) _,fun v => ?_⟩
   rw [getR_put,h2 v]
   unfold asg0
   by_cases hv : x = v
   ·subst hv; simp
   ·simp [hv,Ne.symm hv]
  obtain ⟨y6,y13,S',ih,hc'⟩ := loop24 t l hl ic im x0 x1 x2 x3 x4 x7 x8 x9 k (i + 1) (.iv (.int .i64 x)) (.iv (.bool true)) _ _ (by omega) hc1
  rw [show ((i + 1 : Nat) : Int) = (i : Int) + 1 by omega] at ih
  refine ⟨y6,y13,S',loop_at K _ _ t24L0.eq_1 ?_,?_⟩
  ·simp (config := { maxSteps := 4000000 }) (disch := omega) only [go_sem,hix,hat,h1,wrap_i64]
   exact congrArg er ih
  ·rw [hdr]
   have : asg0 (x :: l.drop (i + 1)) σ = asg0 (l.drop (i + 1)) (asg0 [x] σ) := by
    unfold asg0
    simp only [Cv.mk.injEq,and_true]
    funext v
    by_cases h1 : v ∈ l.drop (i + 1)
    ·simp [h1]
    ·simp [h1]
   rw [this]; exact hc'
theorem eqB_sn (es : List (List IV)) : eqB .sl (.iv (.sl .nil es)) (.iv (.sl .nil [])) = some true := id rfl
theorem eqB_sf (es : List (List IV)) : eqB .sl (.iv (.sl .full es)) (.iv (.sl .nil [])) = some false := id rfl
theorem eqB_so (es : List (List IV)) : eqB .sl (.iv (.sl .no es)) (.iv (.sl .nil [])) = some false := id rfl
def clT (t : Tag) (cs : List Dt) : Tag := if t = .nil then .nil else if cs = [] then .full else .no
theorem call67 (t : Tag) (cs : List Dt) (ht : TagOk t cs) (hl : cs.length ≤ 1048576) (S : Store) : ∃ x S',(lim K).call 67 [.iv (.sl t (encDs cs))] S = .ret (x,S') ∧ Keep [] S S' ∧
  (x = .iv (.sl (clT t cs) (encDs cs)) ∨ clT t cs = .no ∧ x = .msl S.length 0 0 cs.length cs.length 5 ∧ S' = S ++ [.cells 0 true ((flat (encDs cs)).map .iv)]) := by
 by_cases h0 : t = .nil
 ·subst h0
  obtain rfl := ht rfl
  refine ⟨.iv (.sl .nil []),S,call_ret' K _ (fn := t67) rfl rfl ?_,.refl _ _,.inl (by rw [encDs]; rfl)⟩
  rw [encDs]
  simp (config := { maxSteps := 4000000 }) (disch := omega) only [t67,go_sem,TM.undef,eqB_sn]
 ·have hq : (t == Tag.nil) = false := by simpa using h0
  by_cases h1 : cs = []
  ·subst h1
   refine ⟨.iv (.sl .full []),S,call_ret' K _ (fn := t67) rfl rfl ?_,.refl _ _,.inl (by rw [encDs,clT,if_neg h0,if_pos rfl])⟩
   rw [encDs]
   have e1 : appendOp true 5 64 39 S (.iv (.sl .full [])) (.iv (.sl t [])) = some (.iv (.sl .full []),S) := ap_nil rfl (IsEl.sl ..)
   cases t with
   | nil => exact absurd rfl h0
   | full => simp (config := { maxSteps := 4000000 }) (disch := omega) only [t67,go_sem,TM.undef,eqB_sf,eqB_so,e1]
   | no => simp (config := { maxSteps := 4000000 }) (disch := omega) only [t67,go_sem,TM.undef,eqB_sf,eqB_so,e1]
  ·have e1 : appendOp true 5 64 39 S (.iv (.sl .full [])) (.iv (.sl t (encDs cs))) = some (.msl S.length 0 0 cs.length cs.length 5,S ++ [.cells 0 true ((flat (encDs cs)).map .iv)]) := by
    have hf := flat_len (w := 5) (fun y hy => (encDs_el cs y hy).1)
    have ha := any_ref (all_flat (fun y hy => (encDs_el cs y hy).2))
    have hn : ¬ (encDs cs).length = 0 := by rw [encDs_len]; exact fun h => h1 (List.eq_nil_of_length_eq_zero h)
    have hr : roomy (0 + (encDs cs).length) 64 = true := roomy_ok (by rw [encDs_len]; omega)
    simp only [appendOp,elemsTV,lenOf,List.length_map,hf,ne_eq,not_true_eq_false,ha,Bool.false_eq_true,or_self,↓reduceIte,hn,List.length_nil,hr]
    simp [TM.fits,TM.flat,encDs_len]
   refine ⟨.msl S.length 0 0 cs.length cs.length 5,S ++ [.cells 0 true ((flat (encDs cs)).map .iv)],call_ret' K _ (fn := t67) rfl rfl ?_,Keep.app _ _ _,.inr ⟨by rw [clT,if_neg h0,if_neg h1],rfl,rfl⟩⟩
   cases t with
   | nil => exact absurd rfl h0
   | full => simp (config := { maxSteps := 4000000 }) (disch := omega) only [t67,go_sem,TM.undef,eqB_sf,eqB_so,e1]
   | no => simp (config := { maxSteps := 4000000 }) (disch := omega) only [t67,go_sem,TM.undef,eqB_sf,eqB_so,e1]
theorem elemsIV_msl (S : Store) (cs : List Dt) : elemsIV (S ++ [.cells 0 true ((flat (encDs cs)).map .iv)]) (.msl S.length 0 0 cs.length cs.length 5) = some (encDs cs) := by
 have hf := flat_len (w := 5) (fun y hy => (encDs_el cs y hy).1)
 rw [encDs_len] at hf
 have hg : (S ++ [Block.cells 0 true ((flat (encDs cs)).map .iv)])[S.length]? = some (.cells 0 true ((flat (encDs cs)).map .iv)) := get_app1 ..
 have hs : sub ((flat (encDs cs)).map TV.iv) 0 (cs.length * 5) = some ((flat (encDs cs)).map .iv) := sub_all (by rw [List.length_map,hf])
 simp only [elemsIV,hg,ne_eq,not_true_eq_false,↓reduceIte,hs,toIVs_ivs,Option.map_some]
 have := chunks_flat (w := 5) (fun y hy => (encDs_el cs y hy).1)
 rw [encDs_len] at this
 rw [this]
def zeroP : Pg := ⟨.mk 0 0 .nil [] false .nil [],0,0,.nil,[]⟩
def cvA (set : List Int) (p : Pg) : Pg := let b := cvE ⟨fun v => if v ∈ set then some 0 else none,p.vr⟩ p.b; ⟨b.1,p.gl,b.2.nx,clT p.gc p.cs,p.cs⟩
theorem frm_ks {p : Pg} {e : Ex} (h : frmF p e = true) (hk : e.k = 7 ∨ e.k = 4) : e.ks.length = 1 := by
 unfold frmF frmA ofF at h
 rcases hk with hk | hk
 ·simp [hk] at h; omega
 ·simp [hk] at h; omega
theorem fm_chk (p : Pg) : ∀ (N : Nat) (e : Ex),e.w ≤ N → ∀ (depth : Nat) (B C A : List Int),(chk p e depth B C A).1 = 0 → Fm e
 | 0,e,hw,depth,B,C,A,h => by have := Ex.w_eq e; omega
 | N + 1,e,hw,depth,B,C,A,h => by
  obtain ⟨hf,_,hn,hks⟩ := chk_ok h
  rw [Fm_eq]
  refine ⟨fun hk => frm_ks hf hk,fun x hx => ?_⟩
  obtain ⟨B',C',hx0⟩ := hks x hx
  exact fm_chk p N x (by have := Ex.kid_lt hx; omega) _ _ _ _ hx0
theorem chkF_zero {p : Pg} (h : chkF p = 0) : (0 ≤ p.gl ∧ p.gl ≤ 20000 ∧ 0 ≤ p.vr) ∧ (p.cs.all fun d => mayF d && plF d) = true ∧ (chk p p.b 0 [] [] []).1 = 0 := by
 unfold chkF at h
 split at h
 ·exact absurd h (by decide : ¬ ((2 : Int) = 0))
 rename_i h1
 split at h
 ·exact absurd h (by decide : ¬ ((2 : Int) = 0))
 rename_i h2
 exact ⟨by omega,by simpa using h2,h⟩
theorem call24 (p : Pg) (hp : p.w ≤ 1048576) (hok : p.ok) (hv : p.vr ≤ 1099511627776) : ∃ q e,TM.Pure K 24 [.iv (.agg (encP p))] (.tup [.iv (.agg (encP q)),.iv (.int .i64 e)]) ∧
  (chkF p ≠ 0 ∧ q = zeroP ∧ e = chkF p ∨ chkF p = 0 ∧ bxF p.b = true ∧ q = zeroP ∧ e = 2 ∨ chkF p = 0 ∧ bxF p.b = false ∧ e = 0 ∧ ∃ set,RiseOf set (gath asgA p.b) ∧ q = cvA set p) := by
 have hpw : p.b.w + Dt.ws p.cs ≤ 1048576 := hp
 have hwl := Dt.ws_len p.cs
 have hchk := call13 p ⟨by omega,by omega⟩
 have hbx := call65 1048576 (by omega) p.b [] (by omega)
 by_cases h0 : chkF p = 0
 ·rw [h0] at hchk
  have hbxp : TM.Pure K 65 [.iv (.agg (encE p.b))] (.iv (.bool (bxF p.b))) := pure_ret hbx (by rw [resolve_iv])
  cases hb : bxF p.b with
  | true =>
   rw [hb] at hbxp
   refine ⟨zeroP,2,pure_ret (S := []) (r := .tup [.iv (.agg (encP zeroP)),.iv (.int .i64 2)]) (call_ret' K _ (fn := t24) rfl rfl ?_) (by rfl),.inr (.inl ⟨h0,rfl,rfl,rfl⟩)⟩
   rw [encE_eq] at hbxp
   unfold encP at hchk ⊢
   simp (config := { maxSteps := 4000000 }) (disch := omega) only [t24,go_sem,TM.undef,cpR_pure hchk,cpR_pure hbxp]
   rfl
  | false =>
   rw [hb] at hbxp
   obtain ⟨set,c14,r14,b14⟩ := call14 p.b hok.1 (by omega)
   obtain ⟨⟨_,_,hvr⟩,_,hc0⟩ := chkF_zero h0
   have hfm := fm_chk p _ p.b (Nat.le_refl _) _ _ _ _ hc0
   have hcm0 : CM [.mp (mpR boxI []) 0,.cells 80 false [.map 0,.iv (.int .i64 p.vr)]] 1 0 ⟨fun _ => none,p.vr⟩ := ⟨rfl,[],0,rfl,fun v => rfl⟩
   obtain ⟨y6,y13,S1,l1,hc1⟩ := loop24 (sTag set) set (by omega) 1 0 (.iv (.agg (encP p))) (lbP p) (.lb [.iv (.int .i64 0),.iv (.int .i64 0),.iv (.sl .nil []),.iv (.bool false),.iv (.sl .nil []),.iv (.int .i64 0),.iv (.int .i64 0),.iv (.sl .nil [])]) (.iv (.int .i64 0)) (.iv (.int .i64 0)) (.tup []) (.iv (.bool false)) (.iv (.bool false)) set.length 0 (.tup []) (.tup []) _ _ (by omega) hcm0
   rw [show ((0 : Nat) : Int) = 0 from rfl] at l1
   rw [List.drop_zero] at hc1
   obtain ⟨r,S2,c66,hxv,hc2,hk2⟩ := call66 1048576 (by omega) p.b S1 1 0 _ (by omega) hfm hc1 (by simp only [asg0]; omega)
   have hs : asg0 set ⟨fun _ => none,p.vr⟩ = ⟨fun v => if v ∈ set then some 0 else none,p.vr⟩ := rfl
   rw [hs] at hxv hc2
   obtain ⟨x,S3,c67,hk3,hx⟩ := call67 p.gc p.cs hok.2.2.2.1 (by omega) S2
   have hat := hc2.at'
   generalize hb1 : cvE ⟨fun v => if v ∈ set then some 0 else none,p.vr⟩ p.b = b1 at *
   obtain ⟨b,σ1⟩ := b1
   simp only at hxv hat
   have hq : cvA set p = ⟨b,p.gl,σ1.nx,clT p.gc p.cs,p.cs⟩ := by unfold cvA; rw [hb1]
   refine ⟨cvA set p,0,?_,.inr (.inr ⟨h0,rfl,rfl,set,r14,rfl⟩)⟩
   rw [hq]
   rw [encE_eq] at hbxp c14 c66
   unfold encP at hchk l1
   rw [mpR_nil] at l1
   have hat3 := hk3.get _ _ (by simp) hat
   rcases hxv with rfl | ⟨i1,hg,rfl⟩
   ·rcases hx with rfl | ⟨hct,rfl,rfl⟩
    ·refine pure_ret (S := S3) (r := .tup [.iv (.agg (encP ⟨b,p.gl,σ1.nx,clT p.gc p.cs,p.cs⟩)),.iv (.int .i64 0)]) (call_ret' K _ (fn := t24) rfl rfl ?_) (by rfl)
     unfold encP
     rw [encE_eq b] at c66
     simp (config := { maxSteps := 4000000 }) (disch := omega) only [t24,go_sem,TM.undef,cpR_pure hchk,cpR_pure hbxp,cpR_pure c14]
     rw [l1]
     simp (config := { maxSteps := 4000000 }) (disch := omega) only [go_sem,c66,hat,c67,hat3]
    ·have hel := elemsIV_msl S2 p.cs
     refine pure_ret (S := S2 ++ [.cells 0 true ((flat (encDs p.cs)).map .iv)]) (r := .tup [.agg [.iv (.int .i64 b.k),.iv (.int .i64 b.n),.iv (.sl b.gv (TM.one (.int .i64) b.vs)),.iv (.bool b.r),.iv (.sl b.g (encEs b.ks)),.iv (.int .i64 p.gl),.iv (.int .i64 σ1.nx),.msl S2.length 0 0 p.cs.length p.cs.length 5],.iv (.int .i64 0)]) (call_ret' K _ (fn := t24) rfl rfl ?_) ?_
     ·unfold encP
      rw [encE_eq b] at c66
      simp (config := { maxSteps := 4000000 }) (disch := omega) only [t24,go_sem,TM.undef,cpR_pure hchk,cpR_pure hbxp,cpR_pure c14]
      rw [l1]
      simp (config := { maxSteps := 4000000 }) (disch := omega) only [go_sem,c66,hat,c67,hat3]
     ·unfold encP
      simp only [TM.resolve,TM.resVs,TM.resV,TM.resL,TM.res1,hel,hct,Option.map_some]
   ·rcases hx with rfl | ⟨hct,rfl,rfl⟩
    ·refine pure_ret (S := S3) (r := .tup [.iv (.agg (encP ⟨b,p.gl,σ1.nx,clT p.gc p.cs,p.cs⟩)),.iv (.int .i64 0)]) (call_ret' K _ (fn := t24) rfl rfl ?_) (by rfl)
     unfold encP
     simp (config := { maxSteps := 4000000 }) (disch := omega) only [t24,go_sem,TM.undef,cpR_pure hchk,cpR_pure hbxp,cpR_pure c14]
     rw [l1]
     simp (config := { maxSteps := 4000000 }) (disch := omega) only [go_sem,c66,hat,c67,hat3,hg]
    ·have hel := elemsIV_msl S2 p.cs
     refine pure_ret (S := S2 ++ [.cells 0 true ((flat (encDs p.cs)).map .iv)]) (r := .tup [.agg [.iv (.int .i64 b.k),.iv (.int .i64 b.n),.iv (.sl b.gv (TM.one (.int .i64) b.vs)),.iv (.bool b.r),.iv (.sl .no (encEs b.ks)),.iv (.int .i64 p.gl),.iv (.int .i64 σ1.nx),.msl S2.length 0 0 p.cs.length p.cs.length 5],.iv (.int .i64 0)]) (call_ret' K _ (fn := t24) rfl rfl ?_) ?_
     ·unfold encP
      simp (config := { maxSteps := 4000000 }) (disch := omega) only [t24,go_sem,TM.undef,cpR_pure hchk,cpR_pure hbxp,cpR_pure c14]
      rw [l1]
      simp (config := { maxSteps := 4000000 }) (disch := omega) only [go_sem,c66,hat,c67,hat3]
     ·unfold encP
      simp only [TM.resolve,TM.resVs,TM.resV,TM.resL,TM.res1,hel,hct,hg,Option.map_some]
 ·refine ⟨zeroP,chkF p,pure_ret (S := []) (r := .tup [.iv (.agg (encP zeroP)),.iv (.int .i64 (chkF p))]) (call_ret' K _ (fn := t24) rfl rfl ?_) (by rfl),.inl ⟨h0,rfl,rfl⟩⟩
  unfold encP at hchk ⊢
  simp (config := { maxSteps := 4000000 }) (disch := omega) only [t24,go_sem,TM.undef,cpR_pure hchk,h0]
  rfl
mutual
def bvE : Ex → List Int
 | .mk k n gv vs r g ks => vs ++ bvEs ks
def bvEs : List Ex → List Int
 | [] => []
 | e :: es => bvE e ++ bvEs es
end
mutual
def ccE : Ex → List Int
 | .mk k n gv vs r g ks => (if k = 1 then [n] else []) ++ ccEs ks
def ccEs : List Ex → List Int
 | [] => []
 | e :: es => ccE e ++ ccEs es
end
mutual
def Sc (A : List Int) : Ex → Prop
 | .mk k n gv vs r g ks => (k = 2 ∨ k = 4 → n ∈ vs ++ A) ∧ Scs (vs ++ A) ks
def Scs (A : List Int) : List Ex → Prop
 | [] => True
 | e :: es => Sc A e ∧ Scs A es
end
mutual
def Fr (p : Pg) : Ex → Prop
 | .mk k n gv vs r g ks => frmF p (.mk k n gv vs r g ks) = true ∧ Frs p ks
def Frs (p : Pg) : List Ex → Prop
 | [] => True
 | e :: es => Fr p e ∧ Frs p es
end
mutual
def dp : Ex → Nat
 | .mk k n gv vs r g ks => dps ks
def dps : List Ex → Nat
 | [] => 0
 | e :: es => max (dp e + 1) (dps es)
end
theorem bv_eq (e : Ex) : bvE e = e.vs ++ bvEs e.ks := by cases e; rw [bvE]; rfl
theorem cc_eq (e : Ex) : ccE e = (if e.k = 1 then [e.n] else []) ++ ccEs e.ks := by cases e; rw [ccE]; rfl
theorem Sc_eq (A : List Int) (e : Ex) : Sc A e ↔ (e.k = 2 ∨ e.k = 4 → e.n ∈ e.vs ++ A) ∧ Scs (e.vs ++ A) e.ks := by cases e; rw [Sc]; rfl
theorem Fr_eq (p : Pg) (e : Ex) : Fr p e ↔ frmF p e = true ∧ Frs p e.ks := by cases e; rw [Fr]; rfl
theorem dp_eq (e : Ex) : dp e = dps e.ks := by cases e; rw [dp]; rfl
theorem Scs_iff {A : List Int} : ∀ {l : List Ex},Scs A l ↔ ∀ x ∈ l,Sc A x
 | [] => by simp [Scs]
 | a :: r => by rw [Scs,Scs_iff]; simp
theorem Frs_iff {p : Pg} : ∀ {l : List Ex},Frs p l ↔ ∀ x ∈ l,Fr p x
 | [] => by simp [Frs]
 | a :: r => by rw [Frs,Frs_iff]; simp
theorem mem_bls {v : Int} : ∀ {l : List Ex},v ∈ bvEs l ↔ ∃ x ∈ l,v ∈ bvE x
 | [] => by simp [bvEs]
 | a :: r => by rw [bvEs,List.mem_append,mem_bls]; simp
theorem Sc_mono : ∀ (N : Nat) (e : Ex),e.w ≤ N → ∀ (A A' : List Int),Sc A e → (∀ v ∈ A,v ∈ A') → Sc A' e
 | 0,e,hw,A,A',h,ha => by have := Ex.w_eq e; omega
 | N + 1,e,hw,A,A',h,ha => by
  rw [Sc_eq] at h ⊢
  refine ⟨fun hk => ?_,?_⟩
  ·have := h.1 hk
   simp only [List.mem_append] at this ⊢
   rcases this with h1 | h1
   ·exact .inl h1
   ·exact .inr (ha _ h1)
  ·rw [Scs_iff] at h ⊢
   intro x hx
   refine Sc_mono N x (by have := Ex.kid_lt hx; omega) _ _ (h.2 x hx) fun v hv => ?_
   simp only [List.mem_append] at hv ⊢
   rcases hv with h1 | h1
   ·exact .inl h1
   ·exact .inr (ha _ h1)
theorem addV_some : ∀ {l B : List Int},l.Nodup → (∀ v ∈ l,v ∉ B) → ∃ B1,addV l B = some B1
 | [],B,_,_ => ⟨B,rfl⟩
 | x :: r,B,hn,hd => by
  rw [List.nodup_cons] at hn
  unfold addV
  rw [if_neg (hd x (by simp))]
  exact addV_some hn.2 fun v hv hm => by
   rcases List.mem_cons.1 hm with rfl | hm
   ·exact hn.1 hv
   ·exact hd v (by simp [hv]) hm
structure Fit (bs cs B C : List Int) : Prop where
 nb : bs.Nodup
 db : ∀ v ∈ bs,v ∉ B
 nc : cs.Nodup
 dc : ∀ n ∈ cs,n ∉ C
theorem Fit.left {b1 b2 c1 c2 B C : List Int} (h : Fit (b1 ++ b2) (c1 ++ c2) B C) : Fit b1 c1 B C :=
 ⟨(List.nodup_append.1 h.nb).1,fun v hv => h.db v (by simp [hv]),(List.nodup_append.1 h.nc).1,fun v hv => h.dc v (by simp [hv])⟩
theorem Fit.right {b1 b2 c1 c2 B C B1 C1 : List Int} (h : Fit (b1 ++ b2) (c1 ++ c2) B C) (hb : ∀ v,v ∈ B1 ↔ v ∈ b1 ∨ v ∈ B) (hc : ∀ v,v ∈ C1 ↔ v ∈ c1 ∨ v ∈ C) : Fit b2 c2 B1 C1 := by
 have n1 := List.nodup_append.1 h.nb
 have n2 := List.nodup_append.1 h.nc
 refine ⟨n1.2.1,fun v hv hm => ?_,n2.2.1,fun v hv hm => ?_⟩
 ·rcases (hb v).1 hm with h1 | h1
  ·exact n1.2.2 v h1 v hv rfl
  ·exact h.db v (by simp [hv]) h1
 ·rcases (hc v).1 hm with h1 | h1
  ·exact n2.2.2 v h1 v hv rfl
  ·exact h.dc v (by simp [hv]) h1
theorem Fit.join {b1 b2 c1 c2 B C B1 C1 : List Int} (h : Fit b1 c1 B C) (g : Fit b2 c2 B1 C1) (hb : ∀ v,v ∈ B1 ↔ v ∈ b1 ∨ v ∈ B) (hc : ∀ v,v ∈ C1 ↔ v ∈ c1 ∨ v ∈ C) : Fit (b1 ++ b2) (c1 ++ c2) B C := by
 refine ⟨List.nodup_append.2 ⟨h.nb,g.nb,fun a ha b hb' e => ?_⟩,fun v hv => ?_,List.nodup_append.2 ⟨h.nc,g.nc,fun a ha b hb' e => ?_⟩,fun v hv => ?_⟩
 ·subst e; exact g.db a hb' ((hb a).2 (.inl ha))
 ·rcases List.mem_append.1 hv with h1 | h1
  ·exact h.db v h1
  ·exact fun hB => g.db v h1 ((hb v).2 (.inr hB))
 ·subst e; exact g.dc a hb' ((hc a).2 (.inl ha))
 ·rcases List.mem_append.1 hv with h1 | h1
  ·exact h.dc v h1
  ·exact fun hC => g.dc v h1 ((hc v).2 (.inr hC))
theorem chks_eq (p : Pg) (e : Ex) (es : List Ex) (depth : Nat) (B C A : List Int) : chks p (e :: es) depth B C A = if (chk p e depth B C A).1 = 0 then chks p es depth (chk p e depth B C A).2.1 (chk p e depth B C A).2.2 A else chk p e depth B C A := by rw [chks]
theorem chk_of (p : Pg) : ∀ (N : Nat) (e : Ex),e.w ≤ N → ∀ (depth : Nat) (B C A : List Int),Fr p e → depth + dp e < 4000 → Sc A e → Fit (bvE e) (ccE e) B C →
  (chk p e depth B C A).1 = 0 ∧ (∀ v,v ∈ (chk p e depth B C A).2.1 ↔ v ∈ bvE e ∨ v ∈ B) ∧ (∀ n,n ∈ (chk p e depth B C A).2.2 ↔ n ∈ ccE e ∨ n ∈ C)
 | 0,e,hw,depth,B,C,A,hf,hd,hs,ht => by have := Ex.w_eq e; omega
 | N + 1,e,hw,depth,B,C,A,hf,hd,hs,ht => by
  rw [Fr_eq] at hf
  rw [Sc_eq] at hs
  rw [dp_eq] at hd
  rw [bv_eq,cc_eq] at ht
  obtain ⟨B1,hB1⟩ := addV_some ht.left.nb ht.left.db
  have hm1 := (addV_mem hB1).1
  have key : ∀ (l : List Ex) (A : List Int) (B C : List Int),(∀ x ∈ l,x.w ≤ N) → Frs p l → depth + dps l < 4000 → Scs A l → Fit (bvEs l) (ccEs l) B C →
    (chks p l (depth + 1) B C A).1 = 0 ∧ (∀ v,v ∈ (chks p l (depth + 1) B C A).2.1 ↔ v ∈ bvEs l ∨ v ∈ B) ∧ (∀ n,n ∈ (chks p l (depth + 1) B C A).2.2 ↔ n ∈ ccEs l ∨ n ∈ C) := by
   intro l A
   induction l with
   | nil => intro B C _ _ _ _ _; rw [chks,bvEs,ccEs]; simp
   | cons a r ih =>
    intro B C hl hf hd hs ht
    rw [Frs] at hf
    rw [Scs] at hs
    rw [dps] at hd
    rw [bvEs,ccEs] at ht
    obtain ⟨h1,h2,h3⟩ := chk_of p N a (hl a (by simp)) (depth + 1) B C A hf.1 (by omega) hs.1 ht.left
    obtain ⟨h4,h5,h6⟩ := ih _ _ (fun x hx => hl x (by simp [hx])) hf.2 (by omega) hs.2 (ht.right h2 h3)
    rw [chks_eq,if_pos h1,bvEs,ccEs]
    refine ⟨h4,fun v => ?_,fun v => ?_⟩
    ·rw [h5 v,h2 v,List.mem_append]
     constructor
     ·rintro (h | h | h)
      ·exact .inl (.inr h)
      ·exact .inl (.inl h)
      ·exact .inr h
     ·rintro ((h | h) | h)
      ·exact .inr (.inl h)
      ·exact .inl h
      ·exact .inr (.inr h)
    ·rw [h6 v,h3 v,List.mem_append]
     constructor
     ·rintro (h | h | h)
      ·exact .inl (.inr h)
      ·exact .inl (.inl h)
      ·exact .inr h
     ·rintro ((h | h) | h)
      ·exact .inr (.inl h)
      ·exact .inl h
      ·exact .inr (.inr h)
  have hC1 : ∀ v,v ∈ (if e.k = 1 then e.n :: C else C) ↔ v ∈ (if e.k = 1 then [e.n] else []) ∨ v ∈ C := by
   intro v; split <;> simp
  obtain ⟨h4,h5,h6⟩ := key e.ks (e.vs ++ A) B1 (if e.k = 1 then e.n :: C else C) (fun x hx => by have := Ex.kid_lt hx; omega) hf.2 (by omega) hs.2 (ht.right hm1 hC1)
  have hc0 : ¬ (e.k = 1 ∧ e.n ∈ C) := fun ⟨h1,h2⟩ => ht.left.dc e.n (by rw [if_pos h1]; simp) h2
  have hn0 : ¬ ((e.k = 2 ∨ e.k = 4) ∧ e.n ∉ e.vs ++ A) := fun ⟨h1,h2⟩ => h2 (hs.1 h1)
  rw [chk_eq,if_neg (by omega),if_neg (by rw [hf.1]; decide),hB1]
  simp only [if_neg hc0,if_neg hn0]
  rw [bv_eq,cc_eq]
  refine ⟨h4,fun v => ?_,fun v => ?_⟩
  ·rw [h5 v,hm1 v,List.mem_append]
   constructor
   ·rintro (h | h | h)
    ·exact .inl (.inr h)
    ·exact .inl (.inl h)
    ·exact .inr h
   ·rintro ((h | h) | h)
    ·exact .inr (.inl h)
    ·exact .inl h
    ·exact .inr (.inr h)
  ·rw [h6 v,hC1 v,List.mem_append]
   constructor
   ·rintro (h | h | h)
    ·exact .inl (.inr h)
    ·exact .inl (.inl h)
    ·exact .inr h
   ·rintro ((h | h) | h)
    ·exact .inr (.inl h)
    ·exact .inl h
    ·exact .inr (.inr h)
theorem chk_to (p : Pg) : ∀ (N : Nat) (e : Ex),e.w ≤ N → ∀ (depth : Nat) (B C A : List Int),(chk p e depth B C A).1 = 0 →
  Fr p e ∧ Sc A e ∧ Fit (bvE e) (ccE e) B C ∧ (∀ v,v ∈ (chk p e depth B C A).2.1 ↔ v ∈ bvE e ∨ v ∈ B) ∧ (∀ n,n ∈ (chk p e depth B C A).2.2 ↔ n ∈ ccE e ∨ n ∈ C)
 | 0,e,hw,depth,B,C,A,h => by have := Ex.w_eq e; omega
 | N + 1,e,hw,depth,B,C,A,h => by
  have key : ∀ (l : List Ex) (A : List Int) (B C : List Int),(∀ x ∈ l,x.w ≤ N) → (chks p l (depth + 1) B C A).1 = 0 →
    Frs p l ∧ Scs A l ∧ Fit (bvEs l) (ccEs l) B C ∧ (∀ v,v ∈ (chks p l (depth + 1) B C A).2.1 ↔ v ∈ bvEs l ∨ v ∈ B) ∧ (∀ n,n ∈ (chks p l (depth + 1) B C A).2.2 ↔ n ∈ ccEs l ∨ n ∈ C) := by
   intro l A
   induction l with
   | nil => intro B C _ _; rw [chks,bvEs,ccEs,Frs,Scs]; exact ⟨trivial,trivial,⟨by simp,by simp,by simp,by simp⟩,by simp,by simp⟩
   | cons a r ih =>
    intro B C hl h
    rw [chks_eq] at h
    by_cases h0 : (chk p a (depth + 1) B C A).1 = 0
    ·rw [if_pos h0] at h
     obtain ⟨f1,s1,t1,b1,c1⟩ := chk_to p N a (hl a (by simp)) _ _ _ _ h0
     obtain ⟨f2,s2,t2,b2,c2⟩ := ih _ _ (fun x hx => hl x (by simp [hx])) h
     rw [chks_eq,if_pos h0,bvEs,ccEs,Frs,Scs]
     refine ⟨⟨f1,f2⟩,⟨s1,s2⟩,t1.join t2 b1 c1,fun v => ?_,fun v => ?_⟩
     ·rw [b2 v,b1 v,List.mem_append]
      constructor
      ·rintro (h | h | h)
       ·exact .inl (.inr h)
       ·exact .inl (.inl h)
       ·exact .inr h
      ·rintro ((h | h) | h)
       ·exact .inr (.inl h)
       ·exact .inl h
       ·exact .inr (.inr h)
     ·rw [c2 v,c1 v,List.mem_append]
      constructor
      ·rintro (h | h | h)
       ·exact .inl (.inr h)
       ·exact .inl (.inl h)
       ·exact .inr h
      ·rintro ((h | h) | h)
       ·exact .inr (.inl h)
       ·exact .inl h
       ·exact .inr (.inr h)
    ·rw [if_neg h0] at h; exact absurd h h0
  rw [chk_eq] at h ⊢
  split at h
  ·exact absurd h (by decide : ¬ ((5 : Int) = 0))
  rename_i hd
  rw [if_neg hd]
  split at h
  ·exact absurd h (by decide : ¬ ((4 : Int) = 0))
  rename_i hf
  rw [if_neg hf]
  split at h
  ·exact absurd h (by decide : ¬ ((14 : Int) = 0))
  rename_i B1 ha
  split at h
  ·exact absurd h (by decide : ¬ ((14 : Int) = 0))
  rename_i hc0
  rw [if_neg hc0]
  split at h
  ·exact absurd h (by decide : ¬ ((6 : Int) = 0))
  rename_i hn
  rw [if_neg hn]
  obtain ⟨m1,m2,m3⟩ := addV_mem ha
  obtain ⟨f2,s2,t2,b2,c2⟩ := key e.ks (e.vs ++ A) B1 _ (fun x hx => by have := Ex.kid_lt hx; omega) h
  have hC1 : ∀ v,v ∈ (if e.k = 1 then e.n :: C else C) ↔ v ∈ (if e.k = 1 then [e.n] else []) ∨ v ∈ C := by
   intro v; split <;> simp
  have t1 : Fit e.vs (if e.k = 1 then [e.n] else []) B C := by
   refine ⟨m3,m2,by split <;> simp,fun v hv hC => ?_⟩
   split at hv
   ·rename_i hk
    simp at hv; subst hv
    exact hc0 ⟨hk,hC⟩
   ·cases hv
  rw [Fr_eq,Sc_eq,bv_eq,cc_eq]
  refine ⟨⟨by simpa using hf,f2⟩,⟨fun hk => ?_,s2⟩,t1.join t2 m1 hC1,fun v => ?_,fun v => ?_⟩
  ·rcases Classical.em (e.n ∈ e.vs ++ A) with h1 | h1
   ·exact h1
   ·exact absurd ⟨hk,h1⟩ hn
  ·rw [b2 v,m1 v,List.mem_append]
   constructor
   ·rintro (h | h | h)
    ·exact .inl (.inr h)
    ·exact .inl (.inl h)
    ·exact .inr h
   ·rintro ((h | h) | h)
    ·exact .inr (.inl h)
    ·exact .inl h
    ·exact .inr (.inr h)
  ·rw [c2 v,hC1 v,List.mem_append]
   constructor
   ·rintro (h | h | h)
    ·exact .inl (.inr h)
    ·exact .inl (.inl h)
    ·exact .inr h
   ·rintro ((h | h) | h)
    ·exact .inr (.inl h)
    ·exact .inl h
    ·exact .inr (.inr h)
structure VsOK (σ : Cv) (vs : List Int) (o own : List Int) (σ' : Cv) : Prop where
 dom : ∀ v,(σ'.f v).isSome = (σ.f v).isSome
 frame : ∀ v,v ∉ vs → σ'.f v = σ.f v
 no : o.Nodup
 nown : own.Nodup
 len : o.length = vs.length
 outs : ∀ v ∈ o,v ∈ vs ∧ (σ.f v).isSome = false ∨ σ.nx ≤ v ∧ v < σ'.nx
 owns : ∀ v ∈ own,v ∈ vs ∧ (σ.f v).isSome = true
 all : ∀ v ∈ vs,v ∈ o ∨ v ∈ own
 twin : ∀ v ∈ own,∃ t,σ'.f v = some t ∧ t ∈ o
 lown : own.length ≤ vs.length
theorem put_dom {σ : Cv} {v : Int} (h : (σ.f v).isSome = true) (u : Int) : ((σ.put v).f u).isSome = (σ.f u).isSome := by
 unfold Cv.put
 by_cases e : v = u
 ·subst e; simp [h]
 ·simp [e]
theorem cvVs_ok : ∀ (vs : List Int) (σ : Cv),vs.Nodup → (∀ v ∈ vs,v < σ.nx) → VsOK σ vs (cvVs σ vs).1 (cvVs σ vs).2.1 (cvVs σ vs).2.2
 | [],σ,hn,hl => by
  simp only [cvVs]
  exact ⟨fun _ => rfl,fun _ _ => rfl,by simp,by simp,rfl,by simp,by simp,by simp,by simp,by simp⟩
 | v :: r,σ,hn,hl => by
  rw [List.nodup_cons] at hn
  cases hv : (σ.f v).isSome with
  | true =>
   have hs : stepV σ v = (σ.nx,[v],σ.put v) := by unfold stepV; rw [if_pos hv]
   have ih := cvVs_ok r (σ.put v) hn.2 (fun u hu => by have := hl u (by simp [hu]); simp only [Cv.put]; omega)
   have hx := cvVs_nx r (σ.put v)
   simp only [cvVs,hs]
   generalize cvVs (σ.put v) r = t at *
   obtain ⟨o,own,σ'⟩ := t
   simp only at ih hx ⊢
   have hp : (σ.put v).nx = σ.nx + 1 := rfl
   refine ⟨fun u => by rw [ih.dom,put_dom hv],fun u hu => ?_,?_,?_,by simp [ih.len],fun u hu => ?_,fun u hu => ?_,fun u hu => ?_,fun u hu => ?_,by simp only [List.singleton_append,List.length_cons]; have := ih.lown; omega⟩
   ·simp only [List.mem_cons,not_or] at hu
    rw [ih.frame u hu.2]
    simp [Cv.put,Ne.symm hu.1]
   ·rw [List.nodup_cons]
    refine ⟨fun hm => ?_,ih.no⟩
    rcases ih.outs _ hm with ⟨h1,_⟩ | ⟨h1,_⟩
    ·have := hl _ (List.mem_cons_of_mem _ h1); omega
    ·omega
   ·rw [List.singleton_append,List.nodup_cons]
    exact ⟨fun hm => hn.1 (ih.owns _ hm).1,ih.nown⟩
   ·rcases List.mem_cons.1 hu with rfl | hu
    ·exact .inr (by omega)
    ·rcases ih.outs _ hu with ⟨h1,h2⟩ | ⟨h1,h2⟩
     ·exact .inl ⟨by simp [h1],by rw [put_dom hv] at h2; exact h2⟩
     ·exact .inr (by omega)
   ·rw [List.singleton_append] at hu
    rcases List.mem_cons.1 hu with rfl | hu
    ·exact ⟨by simp,hv⟩
    ·have := ih.owns _ hu
     rw [put_dom hv] at this
     exact ⟨by simp [this.1],this.2⟩
   ·rcases List.mem_cons.1 hu with rfl | hu
    ·exact .inr (by simp)
    ·rcases ih.all _ hu with h1 | h1
     ·exact .inl (by simp [h1])
     ·exact .inr (by simp [h1])
   ·rw [List.singleton_append] at hu
    rcases List.mem_cons.1 hu with rfl | hu
    ·exact ⟨σ.nx,by rw [ih.frame _ hn.1]; simp [Cv.put],by simp⟩
    ·obtain ⟨t,h1,h2⟩ := ih.twin _ hu
     exact ⟨t,h1,by simp [h2]⟩
  | false =>
   have hs : stepV σ v = (v,[],σ) := by unfold stepV; rw [if_neg (by rw [hv]; decide)]
   have ih := cvVs_ok r σ hn.2 (fun u hu => hl u (by simp [hu]))
   have hx := cvVs_nx r σ
   simp only [cvVs,hs]
   generalize cvVs σ r = t at *
   obtain ⟨o,own,σ'⟩ := t
   simp only at ih hx ⊢
   refine ⟨ih.dom,fun u hu => ih.frame u (fun h => hu (by simp [h])),?_,by simpa using ih.nown,by simp [ih.len],fun u hu => ?_,fun u hu => ?_,fun u hu => ?_,fun u hu => ?_,by simp only [List.nil_append,List.length_cons]; have := ih.lown; omega⟩
   ·rw [List.nodup_cons]
    refine ⟨fun hm => ?_,ih.no⟩
    rcases ih.outs _ hm with ⟨h1,_⟩ | ⟨h1,_⟩
    ·exact hn.1 h1
    ·have := hl v (by simp); omega
   ·rcases List.mem_cons.1 hu with rfl | hu
    ·exact .inl ⟨by simp,hv⟩
    ·rcases ih.outs _ hu with ⟨h1,h2⟩ | h1
     ·exact .inl ⟨by simp [h1],h2⟩
     ·exact .inr h1
   ·rw [List.nil_append] at hu
    have := ih.owns _ hu
    exact ⟨by simp [this.1],this.2⟩
   ·rcases List.mem_cons.1 hu with rfl | hu
    ·exact .inl (by simp)
    ·rcases ih.all _ hu with h1 | h1
     ·exact .inl (by simp [h1])
     ·exact .inr (by simpa using h1)
   ·rw [List.nil_append] at hu
    obtain ⟨t,h1,h2⟩ := ih.twin _ hu
    exact ⟨t,h1,by simp [h2]⟩
theorem frm_lamE {p : Pg} {e : Ex} (h : frmF p e = true) (hk : e.k = 7) : e.n = 0 ∧ (e.r = true → e.vs ≠ []) ∧ ∀ v ∈ e.vs,0 ≤ v ∧ v < p.vr := by
 unfold frmF frmA frmB ofF at h
 simp [hk] at h
 refine ⟨by omega,fun hr hv => ?_,fun v hv => ?_⟩
 ·simp [hr,hv] at h
 ·exact h.2 v hv
theorem frm_lam {q : Pg} {gv g : Tag} {vs : List Int} {r : Bool} {b : Ex} (hr : r = true → vs ≠ []) (hv : ∀ v ∈ vs,0 ≤ v ∧ v < q.vr) : frmF q (.mk 7 0 gv vs r g [b]) = true := by
 simp [frmF,frmA,frmB,ofF,Ex.k,Ex.n,Ex.vs,Ex.r,Ex.ks]
 refine ⟨?_,hv⟩
 cases r with
 | false => exact .inl rfl
 | true => exact .inr (hr rfl)
theorem frm_loX {q : Pg} {v : Int} (h : 0 ≤ v ∧ v < q.vr) : frmF q (loX v) = true := by
 simp [loX,frmF,frmA,frmB,ofF,Ex.k,Ex.n,Ex.vs,Ex.r,Ex.ks,h]
theorem frm_boxX {q : Pg} {v : Int} : frmF q (boxX v) = true := by
 simp [boxX,frmF,frmA,frmB,ofF,Ex.k,Ex.n,Ex.vs,Ex.r,Ex.ks]
theorem frm_call {q : Pg} {gv g : Tag} {a : Ex} {l : List Ex} : frmF q (.mk 8 0 gv [] false g (a :: l)) = true := by
 simp [frmF,frmA,frmB,ofF,Ex.k,Ex.n,Ex.vs,Ex.r,Ex.ks]
 omega
theorem frm_unbox {q : Pg} {gv g : Tag} {a : Ex} : frmF q (.mk 13 0 gv [] false g [a]) = true := by
 simp [frmF,frmA,frmB,ofF,Ex.k,Ex.n,Ex.vs,Ex.r,Ex.ks]
theorem frm_setbox {q : Pg} {gv g : Tag} {a b : Ex} : frmF q (.mk 14 0 gv [] false g [a,b]) = true := by
 simp [frmF,frmA,frmB,ofF,Ex.k,Ex.n,Ex.vs,Ex.r,Ex.ks]
theorem frmB_mk (p : Pg) (k n : Int) (gv : Tag) (vs : List Int) (r : Bool) (g : Tag) (ks : List Ex) : frmB p (.mk k n gv vs r g ks) = (if k = 1 then decide (0 ≤ n ∧ n < p.cs.length) else if k = 2 ∨ k = 4 then decide (0 ≤ n ∧ n < p.vr) else if k = 3 ∨ k = 5 then decide (0 ≤ n ∧ n < p.gl) else vs.all fun v => decide (0 ≤ v ∧ v < p.vr)) := rfl
theorem frmA_mk (k n : Int) (gv gv' : Tag) (vs : List Int) (r : Bool) (g g' : Tag) {ks ks' : List Ex} (h : ks.length = ks'.length) : frmA (.mk k n gv vs r g ks) = frmA (.mk k n gv' vs r g' ks') := by
 have key : ∀ (a b : Nat),a = b → ∀ (s : Shp),(!s.is || decide ((a : Int) < s.kids) || (decide (s.kids < a) && !s.more)) = (!s.is || decide ((b : Int) < s.kids) || (decide (s.kids < b) && !s.more)) := by
  rintro a b rfl s; rfl
 exact congrArg (fun x => x || (!(ofF k n).num && decide (n ≠ 0)) || (decide (k ≠ 7) && (decide (0 < vs.length) || r)) || (r && decide (vs.length = 0))) (key _ _ h (ofF k n))
theorem frm_congr {p q : Pg} {e : Ex} {gv g : Tag} {ks : List Ex} (h : frmF p e = true) (hk : e.k ≠ 7) (hl : ks.length = e.ks.length) (h1 : q.gl = p.gl) (h2 : q.cs.length = p.cs.length) (h3 : p.vr ≤ q.vr) :
  frmF q (.mk e.k e.n gv e.vs e.r g ks) = true := by
 have hv := frm_vs h hk
 cases e with
 | mk k n gv0 vs r g0 ks0 =>
  replace hv : vs = [] := hv
  subst hv
  replace hl : ks.length = ks0.length := hl
  change frmF q (.mk k n gv [] r g ks) = true
  unfold frmF at h ⊢
  rw [Bool.and_eq_true,frmB_mk] at h
  rw [Bool.and_eq_true,frmB_mk]
  obtain ⟨h0,h4⟩ := h
  refine ⟨by rw [← h0]; exact congrArg _ (frmA_mk _ _ _ _ _ _ _ _ hl),?_⟩
  rw [h1,h2]
  by_cases c1 : k = 1
  ·rw [if_pos c1] at h4 ⊢; exact h4
  rw [if_neg c1] at h4 ⊢
  by_cases c2 : k = 2 ∨ k = 4
  ·rw [if_pos c2,decide_eq_true_eq] at h4 ⊢
   omega
  rw [if_neg c2] at h4 ⊢
  by_cases c3 : k = 3 ∨ k = 5
  ·rw [if_pos c3] at h4 ⊢; exact h4
  rw [if_neg c3]
  rfl
theorem frm_n {p : Pg} {e : Ex} (h : frmF p e = true) (hk : e.k = 2 ∨ e.k = 4) : 0 ≤ e.n ∧ e.n < p.vr := by
 unfold frmF frmB at h
 rcases hk with hk | hk
 ·simp [hk] at h; exact h.2
 ·simp [hk] at h; exact h.2
theorem frm_k2 {p : Pg} {e : Ex} (h : frmF p e = true) (hk : e.k = 2) : e.ks = [] := by
 by_cases h0 : e.ks = []
 ·exact h0
 ·have h3 : frmA e = true := by
   unfold frmA ofF
   have h5 := List.length_pos_iff.2 h0
   simp [hk,h0,h5]
  rw [frmF,h3] at h
  simp at h
theorem bv_rng (p : Pg) : ∀ (N : Nat) (e : Ex),e.w ≤ N → Fr p e → ∀ v ∈ bvE e,0 ≤ v ∧ v < p.vr
 | 0,e,hw,hf,v,hv => by have := Ex.w_eq e; omega
 | N + 1,e,hw,hf,v,hv => by
  rw [Fr_eq,Frs_iff] at hf
  rw [bv_eq,List.mem_append] at hv
  rcases hv with hv | hv
  ·by_cases hk : e.k = 7
   ·exact (frm_lamE hf.1 hk).2.2 v hv
   ·rw [frm_vs hf.1 hk] at hv; cases hv
  ·obtain ⟨x,hx,hv⟩ := mem_bls.1 hv
   exact bv_rng p N x (by have := Ex.kid_lt hx; omega) (hf.2 x hx) v hv
mutual
def stN : Ex → Nat
 | .mk k n gv vs r g ks => (if k = 4 then 1 else 0) + stNs ks
def stNs : List Ex → Nat
 | [] => 0
 | e :: es => stN e + stNs es
end
theorem stN_eq (e : Ex) : stN e = (if e.k = 4 then 1 else 0) + stNs e.ks := by cases e; rw [stN]; rfl
theorem bv_boxX (v : Int) : bvE (boxX v) = [] := by simp [boxX,loX,bvE,bvEs]
theorem cc_boxX (v : Int) : ccE (boxX v) = [] := by simp [boxX,loX,ccE,ccEs]
theorem dp_boxX (v : Int) : dp (boxX v) = 1 := by simp [boxX,loX,dp,dps]
theorem w_boxX (v : Int) : (boxX v).w = 2 := by simp [boxX,loX,Ex.w,Ex.ws]
theorem st_boxX (v : Int) : stN (boxX v) = 0 := by simp [boxX,loX,stN,stNs]
theorem bvs_box (f : Int → Int) : ∀ l : List Int,bvEs (l.map fun v => boxX (f v)) = []
 | [] => by rw [List.map_nil,bvEs]
 | a :: r => by rw [List.map_cons,bvEs,bv_boxX,bvs_box f r]; rfl
theorem ccs_box (f : Int → Int) : ∀ l : List Int,ccEs (l.map fun v => boxX (f v)) = []
 | [] => by rw [List.map_nil,ccEs]
 | a :: r => by rw [List.map_cons,ccEs,cc_boxX,ccs_box f r]; rfl
theorem dps_box (f : Int → Int) : ∀ l : List Int,dps (l.map fun v => boxX (f v)) ≤ 2
 | [] => by rw [List.map_nil,dps]; omega
 | a :: r => by have := dps_box f r; rw [List.map_cons,dps,dp_boxX]; omega
theorem ws_box (f : Int → Int) : ∀ l : List Int,Ex.ws (l.map fun v => boxX (f v)) = 2 * l.length
 | [] => by rw [List.map_nil,Ex.ws]; rfl
 | a :: r => by rw [List.map_cons,Ex.ws,w_boxX,ws_box f r,List.length_cons]; omega
theorem sts_box (f : Int → Int) : ∀ l : List Int,stNs (l.map fun v => boxX (f v)) = 0
 | [] => by rw [List.map_nil,stNs]
 | a :: r => by rw [List.map_cons,stNs,st_boxX,sts_box f r]
theorem bv_lamB (σ : Cv) (own : List Int) (b : Ex) : bvE (lamB σ own b) = own ++ bvE b := by
 unfold lamB
 split
 ·rename_i h; rw [h]; rfl
 ·rw [bvE,bvEs,bvE,bvEs,bvEs,bvs_box (fun v => (σ.f v).getD 0)]; simp
theorem cc_lamB (σ : Cv) (own : List Int) (b : Ex) : ccE (lamB σ own b) = ccE b := by
 unfold lamB
 split
 ·rfl
 ·rw [ccE,ccEs,ccE,ccEs,ccEs,ccs_box (fun v => (σ.f v).getD 0)]; simp
theorem dp_lamB (σ : Cv) (own : List Int) (b : Ex) : dp (lamB σ own b) ≤ dp b + 2 := by
 unfold lamB
 split
 ·omega
 ·have := dps_box (fun v => (σ.f v).getD 0) own
  rw [dp,dps,dp,dps,dps]; omega
theorem w_lamB (σ : Cv) (own : List Int) (b : Ex) : (lamB σ own b).w ≤ b.w + 3 * own.length + 2 := by
 unfold lamB
 split
 ·omega
 ·have := ws_box (fun v => (σ.f v).getD 0) own
  rw [Ex.w,Ex.ws,Ex.w,Ex.ws,Ex.ws,this]; simp; omega
theorem st_lamB (σ : Cv) (own : List Int) (b : Ex) : stN (lamB σ own b) = stN b := by
 unfold lamB
 split
 ·rfl
 ·rw [stN,stNs,stN,stNs,stNs,sts_box (fun v => (σ.f v).getD 0)]; simp
structure CvK (p : Pg) (e : Ex) (σ : Cv) (b : Ex) (σ' : Cv) : Prop where
 dom : ∀ v,(σ'.f v).isSome = (σ.f v).isSome
 frame : ∀ v,v ∉ bvE e → σ'.f v = σ.f v
 nb : (bvE b).Nodup
 sb : ∀ v ∈ bvE b,v ∈ bvE e ∨ σ.nx ≤ v ∧ v < σ'.nx
 cns : ccE b = ccE e
 sc : ∀ A A',Sc A e → (∀ v ∈ A,v ∈ A') → Sc A' b
 fr : ∀ q : Pg,q.gl = p.gl → q.cs.length = p.cs.length → p.vr ≤ q.vr → σ'.nx ≤ q.vr → Fr q b
 dep : dp b ≤ 3 * dp e + 2
 wt : b.w ≤ 4 * e.w
 no4 : stN b = 0
structure CvKs (p : Pg) (es : List Ex) (σ : Cv) (bs : List Ex) (σ' : Cv) : Prop where
 dom : ∀ v,(σ'.f v).isSome = (σ.f v).isSome
 frame : ∀ v,v ∉ bvEs es → σ'.f v = σ.f v
 nb : (bvEs bs).Nodup
 sb : ∀ v ∈ bvEs bs,v ∈ bvEs es ∨ σ.nx ≤ v ∧ v < σ'.nx
 cns : ccEs bs = ccEs es
 sc : ∀ A A',Scs A es → (∀ v ∈ A,v ∈ A') → Scs A' bs
 fr : ∀ q : Pg,q.gl = p.gl → q.cs.length = p.cs.length → p.vr ≤ q.vr → σ'.nx ≤ q.vr → Frs q bs
 dep : dps bs ≤ 3 * dps es
 wt : Ex.ws bs ≤ 4 * Ex.ws es
 no4 : stNs bs = 0
 len : bs.length = es.length
theorem cvs_ok {p : Pg} {N : Nat} (ihN : ∀ (e : Ex) (σ : Cv),e.w ≤ N → Fr p e → (bvE e).Nodup → p.vr ≤ σ.nx → 0 ≤ σ.nx → CvK p e σ (cvE σ e).1 (cvE σ e).2) :
  ∀ (es : List Ex) (σ : Cv),(∀ x ∈ es,x.w ≤ N) → Frs p es → (bvEs es).Nodup → p.vr ≤ σ.nx → 0 ≤ σ.nx → CvKs p es σ (cvEs σ es).1 (cvEs σ es).2
 | [],σ,hl,hf,hn,h1,h2 => by
  rw [cvEs_nil]
  exact ⟨fun _ => rfl,fun _ _ => rfl,by rw [bvEs]; simp,by rw [bvEs]; simp,rfl,fun _ _ _ _ => by rw [Scs]; trivial,fun _ _ _ _ _ => by rw [Frs]; trivial,by simp only [dps]; omega,by simp only [Ex.ws]; omega,by rw [stNs],rfl⟩
 | e :: es,σ,hl,hf,hn,h1,h2 => by
  rw [Frs] at hf
  rw [bvEs] at hn
  obtain ⟨n1,n2,n3⟩ := List.nodup_append.1 hn
  have hx := cvE_nx _ e σ (Nat.le_refl _)
  have k1 := ihN e σ (hl e (by simp)) hf.1 n1 h1 h2
  have k2 := cvs_ok ihN es (cvE σ e).2 (fun x hx => hl x (by simp [hx])) hf.2 n2 (by omega) (by omega)
  have r1 := bv_rng p _ e (Nat.le_refl _) hf.1
  have r2 : ∀ v ∈ bvEs es,0 ≤ v ∧ v < p.vr := fun v hv => by
   obtain ⟨x,hx,hv⟩ := mem_bls.1 hv
   exact bv_rng p _ x (Nat.le_refl _) (Frs_iff.1 hf.2 x hx) v hv
  rw [cvEs_cons]
  generalize hb : cvE σ e = b at *
  obtain ⟨b,σ1⟩ := b
  simp only at k1 k2 hx ⊢
  have hx2 : σ1.nx ≤ (cvEs σ1 es).2.nx := by
   have key : ∀ (l : List Ex) (σ : Cv),σ.nx ≤ (cvEs σ l).2.nx := by
    intro l
    induction l with
    | nil => intro σ; rw [cvEs_nil]; exact Int.le_refl _
    | cons a r ih => intro σ; have := (cvE_nx _ a σ (Nat.le_refl _)).1; have := ih (cvE σ a).2; rw [cvEs_cons]; simp only; omega
   exact key es σ1
  generalize hc : cvEs σ1 es = c at *
  obtain ⟨bs,σ2⟩ := c
  simp only at k2 hx2 ⊢
  refine ⟨fun v => by rw [k2.dom,k1.dom],fun v hv => ?_,?_,fun v hv => ?_,by rw [ccEs,ccEs,k1.cns,k2.cns],fun A A' hs ha => ?_,fun q q1 q2 q3 q4 => ?_,?_,?_,by rw [stNs,k1.no4,k2.no4],by simp [k2.len]⟩
  ·rw [bvEs,List.mem_append,not_or] at hv
   rw [k2.frame v hv.2,k1.frame v hv.1]
  ·rw [bvEs,List.nodup_append]
   refine ⟨k1.nb,k2.nb,fun u hu w hw e => ?_⟩
   subst e
   rcases k1.sb u hu with h3 | h3 <;> rcases k2.sb u hw with h4 | h4
   ·exact n3 u h3 u h4 rfl
   ·have := r1 u h3; omega
   ·have := r2 u h4; omega
   ·omega
  ·rw [bvEs,List.mem_append] at hv
   rw [bvEs,List.mem_append]
   rcases hv with hv | hv
   ·rcases k1.sb v hv with h3 | h3
    ·exact .inl (.inl h3)
    ·exact .inr (by omega)
   ·rcases k2.sb v hv with h3 | h3
    ·exact .inl (.inr h3)
    ·exact .inr (by omega)
  ·rw [Scs] at hs ⊢
   exact ⟨k1.sc _ _ hs.1 ha,k2.sc _ _ hs.2 ha⟩
  ·rw [Frs]
   exact ⟨k1.fr q q1 q2 q3 (by omega),k2.fr q q1 q2 q3 q4⟩
  ·have := k1.dep; have := k2.dep
   rw [dps,dps]; omega
  ·have := k1.wt; have := k2.wt
   rw [Ex.ws,Ex.ws]; omega
theorem cv_ok (p : Pg) : ∀ (N : Nat) (e : Ex) (σ : Cv),e.w ≤ N → Fr p e → (bvE e).Nodup → p.vr ≤ σ.nx → 0 ≤ σ.nx → CvK p e σ (cvE σ e).1 (cvE σ e).2
 | 0,e,σ,hw,hf,hn,h1,h2 => by have := Ex.w_eq e; omega
 | N + 1,e,σ,hw,hf,hn,h1,h2 => by
  have hwe := Ex.w_eq e
  have hrng := bv_rng p _ e (Nat.le_refl _) hf
  have hf0 := hf
  rw [Fr_eq] at hf
  rw [bv_eq] at hn
  obtain ⟨n1,n2,n3⟩ := List.nodup_append.1 hn
  by_cases h7 : e.k = 7
  ·obtain ⟨x,hks⟩ := one_kid (frm_ks hf.1 (.inl h7))
   have hxw := Ex.kid_lt (d := e) (x := x) (by rw [hks]; simp)
   have hxf : Fr p x := Frs_iff.1 hf.2 x (by rw [hks]; simp)
   obtain ⟨l1,l2,l3⟩ := frm_lamE hf.1 h7
   have hbe : bvE e = e.vs ++ bvE x := by rw [bv_eq,hks,bvEs,bvEs,List.append_nil]
   have hce : ccE e = ccE x := by rw [cc_eq,hks,ccEs,ccEs,if_neg (by omega)]; simp
   have hde : dp e = dp x + 1 := by rw [dp_eq,hks,dps,dps]; omega
   have hwx : e.w = e.vs.length + x.w + 1 := by rw [hwe,hks,Ex.ws,Ex.ws]; omega
   have hbx : bvEs e.ks = bvE x := by rw [hks,bvEs,bvEs,List.append_nil]
   rw [hbx] at n2 n3
   have v1 := cvVs_ok e.vs σ n1 (fun v hv => by have := l3 v hv; omega)
   have hx1 := cvVs_nx e.vs σ
   rw [cvE_eq,if_pos h7,hks,cvEs_cons,cvEs_nil]
   simp only [List.headD_cons]
   generalize hv : cvVs σ e.vs = v at *
   obtain ⟨o,own,σ1⟩ := v
   simp only at v1 hx1 ⊢
   have k1 := cv_ok p N x σ1 (by omega) hxf n2 (by omega) (by omega)
   have hx2 := cvE_nx _ x σ1 (Nat.le_refl _)
   generalize hb : cvE σ1 x = b at *
   obtain ⟨b,σ2⟩ := b
   simp only at k1 hx2 ⊢
   have hxr := bv_rng p _ x (Nat.le_refl _) hxf
   have htw : ∀ v ∈ own,(σ2.f v).getD 0 ∈ o := fun v hv => by
    obtain ⟨t,h3,h4⟩ := v1.twin v hv
    have hvx : v ∉ bvE x := fun h => n3 v (v1.owns v hv).1 v h rfl
    rw [k1.frame v hvx,h3]; exact h4
   have hor : ∀ (q : Pg),p.vr ≤ q.vr → σ2.nx ≤ q.vr → ∀ v ∈ o,0 ≤ v ∧ v < q.vr := fun q q3 q4 v hv => by
    rcases v1.outs v hv with h | h
    ·have := l3 v h.1; omega
    ·omega
   refine ⟨fun v => by rw [k1.dom,v1.dom],fun v hv => ?_,?_,fun v hv => ?_,?_,fun A A' hs ha => ?_,fun q q1 q2 q3 q4 => ?_,?_,?_,?_⟩
   ·rw [hbe,List.mem_append,not_or] at hv
    rw [k1.frame v hv.2,v1.frame v hv.1]
   ·rw [bvE,bvEs,bvEs,List.append_nil,bv_lamB]
    rw [List.nodup_append,List.nodup_append]
    refine ⟨v1.no,⟨v1.nown,k1.nb,fun u hu w hw e => ?_⟩,fun u hu w hw e => ?_⟩
    ·subst e
     have h3 := v1.owns u hu
     rcases k1.sb u hw with h4 | h4
     ·exact n3 u h3.1 u h4 rfl
     ·have := l3 u h3.1; omega
    ·subst e
     rcases List.mem_append.1 hw with hw | hw
     ·have h3 := v1.owns u hw
      rcases v1.outs u hu with h4 | h4
      ·rw [h4.2] at h3; exact absurd h3.2 (by decide)
      ·have := l3 u h3.1; omega
     ·rcases v1.outs u hu with h4 | h4
      ·rcases k1.sb u hw with h5 | h5
       ·exact n3 u h4.1 u h5 rfl
       ·have := l3 u h4.1; omega
      ·rcases k1.sb u hw with h5 | h5
       ·have := hxr u h5; omega
       ·omega
   ·rw [bvE,bvEs,bvEs,List.append_nil,bv_lamB,List.mem_append,List.mem_append] at hv
    rw [hbe,List.mem_append]
    rcases hv with hv | hv | hv
    ·rcases v1.outs v hv with h4 | h4
     ·exact .inl (.inl h4.1)
     ·exact .inr (by omega)
    ·exact .inl (.inl (v1.owns v hv).1)
    ·rcases k1.sb v hv with h5 | h5
     ·exact .inl (.inr h5)
     ·exact .inr (by omega)
   ·rw [ccE,ccEs,ccEs,cc_lamB,k1.cns,hce]; simp
   ·rw [Sc_eq] at hs
    have hsx : Sc (e.vs ++ A) x := Scs_iff.1 hs.2 x (by rw [hks]; simp)
    rw [Sc,Scs,Scs]
    refine ⟨fun h => absurd h (by decide),?_,trivial⟩
    unfold lamB
    split
    ·rename_i h0
     refine k1.sc _ _ hsx fun v hv => ?_
     rcases List.mem_append.1 hv with h | h
     ·rcases v1.all v h with h3 | h3
      ·simp [h3]
      ·rw [h0] at h3; cases h3
     ·simp [ha v h]
    ·rw [Sc,Scs,Sc,Scs,Scs]
     refine ⟨fun h => absurd h (by decide),⟨fun h => absurd h (by decide),k1.sc _ _ hsx fun v hv => ?_,trivial⟩,Scs_iff.2 fun y hy => ?_⟩
     ·rcases List.mem_append.1 hv with h | h
      ·rcases v1.all v h with h3 | h3
       ·simp [h3]
       ·simp [h3]
      ·simp [ha v h]
     ·obtain ⟨v,hv,rfl⟩ := List.mem_map.1 hy
      have := htw v hv
      unfold boxX loX
      rw [Sc,Scs,Scs,Sc,Scs]
      refine ⟨fun h => absurd h (by decide),⟨fun _ => by simp [this],trivial⟩,trivial⟩
   ·rw [Fr,Frs,Frs]
    refine ⟨frm_lam (fun hr ho => ?_) (hor q q3 q4),?_,trivial⟩
    ·have := l2 hr
     have h4 := v1.len
     rw [ho] at h4
     exact this (List.eq_nil_of_length_eq_zero h4.symm)
    ·unfold lamB
     split
     ·exact k1.fr q q1 q2 q3 q4
     ·rw [Fr,Frs,Fr,Frs,Frs]
      refine ⟨frm_call,⟨frm_lam (by simp) (fun v hv => by have := l3 v (v1.owns v hv).1; omega),k1.fr q q1 q2 q3 q4,trivial⟩,Frs_iff.2 fun y hy => ?_⟩
      obtain ⟨v,hv,rfl⟩ := List.mem_map.1 hy
      have := hor q q3 q4 _ (htw v hv)
      rw [Fr_eq]
      refine ⟨frm_boxX,?_⟩
      unfold boxX
      rw [show (Ex.mk 12 0 .nil [] false .full [loX ((σ2.f v).getD 0)]).ks = [loX ((σ2.f v).getD 0)] from rfl,Frs,Frs,Fr_eq]
      exact ⟨⟨frm_loX this,by unfold loX; rw [show (Ex.mk 2 ((σ2.f v).getD 0) .nil [] false .nil []).ks = [] from rfl,Frs]; trivial⟩,trivial⟩
   ·have := dp_lamB σ2 own b; have := k1.dep
    rw [dp,dps,dps,hde]; omega
   ·have := w_lamB σ2 own b; have := k1.wt; have := v1.lown; have := v1.len
    rw [Ex.w,Ex.ws,Ex.ws,hwx]; omega
   ·rw [stN,stNs,stNs,st_lamB,k1.no4]; simp
  by_cases h2k : e.k = 2 ∧ (σ.f e.n).isSome = true
  ·have hks := frm_k2 hf.1 h2k.1
   have hvs := frm_vs hf.1 h7
   have hbe : bvE e = [] := by rw [bv_eq,hks,hvs,bvEs]; rfl
   have hce : ccE e = [] := by rw [cc_eq,hks,ccEs,if_neg (by omega)]; rfl
   have hde : dp e = 0 := by rw [dp_eq,hks,dps]
   rw [cvE_eq,if_neg h7,if_pos h2k]
   refine ⟨fun _ => rfl,fun _ _ => rfl,by rw [bvE,bvEs,bvEs,hbe]; simp,fun v hv => by rw [bvE,bvEs,bvEs,hbe] at hv; simp at hv,by rw [ccE,ccEs,ccEs,hce]; simp,fun A A' hs ha => ?_,fun q q1 q2 q3 q4 => ?_,?_,?_,?_⟩
   ·rw [Sc,Scs,Scs]
    exact ⟨fun h => absurd h (by decide),Sc_mono _ e (Nat.le_refl _) _ _ hs (fun v hv => by simp [ha v hv]),trivial⟩
   ·rw [Fr,Frs,Frs,Fr_eq,hks,Frs]
    refine ⟨frm_unbox,⟨?_,trivial⟩,trivial⟩
    have := frm_congr (q := q) (gv := e.gv) (g := e.g) (ks := e.ks) hf.1 h7 rfl q1 q2 q3
    cases e
    exact this
   ·rw [dp,dps,dps,hde]; omega
   ·rw [Ex.w,Ex.ws,Ex.ws]; simp; omega
   ·rw [stN,stNs,stNs,stN_eq,hks,stNs,if_neg (by decide),if_neg (by omega)]
  have ks1 := cvs_ok (cv_ok p N) e.ks σ (fun x hx => by have := Ex.kid_lt hx; omega) hf.2 n2 h1 h2
  by_cases h4 : e.k = 4
  ·obtain ⟨x,hks⟩ := one_kid (frm_ks hf.1 (.inr h4))
   have hvs := frm_vs hf.1 h7
   have hnr := frm_n hf.1 (.inr h4)
   rw [cvE_eq,if_neg h7,if_neg h2k,if_pos h4]
   have hbe : bvE e = bvEs e.ks := by rw [bv_eq,hvs]; rfl
   have hce : ccE e = ccEs e.ks := by rw [cc_eq,if_neg (by omega)]; rfl
   have hde : dp e = dps e.ks := dp_eq e
   generalize hc : cvEs σ e.ks = c at *
   obtain ⟨bs,σ1⟩ := c
   simp only at ks1 ⊢
   have hlen := ks1.len
   rw [hks,List.length_singleton] at hlen
   obtain ⟨b,rfl⟩ := one_kid hlen
   simp only [List.headD_cons]
   refine ⟨ks1.dom,fun v hv => ks1.frame v (by rw [← hbe]; exact hv),?_,fun v hv => ?_,?_,fun A A' hs ha => ?_,fun q q1 q2 q3 q4 => ?_,?_,?_,?_⟩
   ·have := ks1.nb
    rw [bvEs,bvEs,List.append_nil] at this
    rw [bvE,bvEs,bvEs,bvEs,loX,bvE,bvEs]; simpa using this
   ·rw [bvE,bvEs,bvEs,bvEs,loX,bvE,bvEs] at hv
    rw [hbe]
    exact ks1.sb v (by rw [bvEs,bvEs,List.append_nil]; simpa using hv)
   ·have := ks1.cns
    rw [ccEs,ccEs,List.append_nil] at this
    rw [ccE,ccEs,ccEs,ccEs,loX,ccE,ccEs,this,hce]; simp
   ·rw [Sc_eq,hvs] at hs
    have h5 := ks1.sc A A' hs.2 ha
    rw [Scs] at h5
    rw [Sc,Scs,Scs,Scs,loX,Sc,Scs]
    refine ⟨fun h => absurd h (by decide),⟨fun _ => ?_,trivial⟩,h5.1,trivial⟩
    have := hs.1 (.inr h4)
    simp only [List.nil_append] at this ⊢
    exact ha _ this
   ·have h5 := ks1.fr q q1 q2 q3 q4
    rw [Frs] at h5
    rw [Fr,Frs,Frs,Frs,Fr_eq]
    exact ⟨frm_setbox,⟨frm_loX (by omega),by unfold loX; rw [show (Ex.mk 2 e.n .nil [] false .nil []).ks = [] from rfl,Frs]; trivial⟩,h5.1,trivial⟩
   ·have := ks1.dep
    rw [dps,dps] at this
    rw [dp,dps,dps,dps,loX,dp,dps,hde]; omega
   ·have := ks1.wt
    rw [Ex.ws,Ex.ws] at this
    rw [Ex.w,Ex.ws,Ex.ws,Ex.ws,loX,Ex.w,Ex.ws,hwe]; simp; omega
   ·have := ks1.no4
    rw [stNs,stNs] at this
    rw [stN,stNs,stNs,stNs,loX,stN,stNs]; simp; omega
  ·have hvs := frm_vs hf.1 h7
   rw [cvE_eq,if_neg h7,if_neg h2k,if_neg h4]
   have hbe : bvE e = bvEs e.ks := by rw [bv_eq,hvs]; rfl
   generalize hc : cvEs σ e.ks = c at *
   obtain ⟨bs,σ1⟩ := c
   simp only at ks1 ⊢
   refine ⟨ks1.dom,fun v hv => ks1.frame v (by rw [← hbe]; exact hv),?_,fun v hv => ?_,?_,fun A A' hs ha => ?_,fun q q1 q2 q3 q4 => ?_,?_,?_,?_⟩
   ·rw [bvE,hvs]; exact ks1.nb
   ·rw [bvE,hvs] at hv
    rw [hbe]; exact ks1.sb v hv
   ·rw [ccE,cc_eq,ks1.cns]
   ·rw [Sc_eq] at hs
    rw [hvs] at hs ⊢
    rw [Sc]
    refine ⟨fun h => ?_,ks1.sc _ _ hs.2 (fun v hv => by simpa using ha v (by simpa using hv))⟩
    have := hs.1 h
    simp only [List.nil_append] at this ⊢
    exact ha _ this
   ·rw [Fr]
    exact ⟨frm_congr hf.1 h7 ks1.len q1 q2 q3,ks1.fr q q1 q2 q3 q4⟩
   ·have := ks1.dep
    rw [dp,dp_eq]; omega
   ·have := ks1.wt
    rw [Ex.w,hwe]; omega
   ·rw [stN,if_neg h4,ks1.no4]
end Go.Proofs.YtookmpaholmmfaaGreatDoor
