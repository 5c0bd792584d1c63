/- Some texts of the proof, joined. Condition: none. -/
import Derived.Test.YtmlhjdekfihdnaaJb
set_option maxRecDepth 100000
set_option maxHeartbeats 64000000
set_option linter.unusedSimpArgs false
set_option linter.unusedVariables false
namespace Go.Proofs.Ytmlhjdekfihdnaa
open Go Go.TM
def spl (o : Nat → Int) : Nat → Bool
 | 0 => false
 | k + 1 => spl o k || decide (o k < 0)
theorem spl_false {o : Nat → Int} : ∀ {k : Nat},(∀ m,m < k → 0 ≤ o m) → spl o k = false
 | 0,_ => rfl
 | k + 1,h => by
  rw [spl,spl_false (fun m hm => h m (by omega)),decide_eq_false (by have := h k (by omega); omega)]
  rfl
theorem loop3 {n : Nat} {o : Nat → Int} (hn : n ≤ 70) {L : List (List IV)} (hL : L = TM.one (.int .i64) ((List.range n).map o)) (hlen : L.length = n) (x0 x1 x2 x4 x7 x8 x9 : TV) (S : Store) : ∀ (k i : Nat) (x10 : TV),i + k = n →
  ∃ y10,lp' (lim K) t3L0 [x0,x1,x2,.iv (.sl .no L),x4,.iv (.bool (spl o i)),.iv (.int .i64 i),x7,x8,x9,x10] S
   = .ret (.exit 0,[x0,x1,x2,.iv (.sl .no L),x4,.iv (.bool (spl o n)),.iv (.int .i64 n),x7,x8,x9,y10],S)
 | 0,i,x10,hk => by
  obtain rfl : i = n := by omega
  refine ⟨.iv (.bool false),loop_at K _ _ t3L0.eq_1 ?_⟩
  have z1 : ∀ S,lenV .sl S (.iv (.sl .no L)) = some (.iv (.int .i64 i)) := fun S => by
   show some (TV.iv (IV.int .i64 (L.length : Nat))) = _; rw [hlen]
  simp (config := { maxSteps := 4000000 }) (disch := omega) only [go_sem,z1,hlen]
 | k + 1,i,x10,hk => by
  have hin : i < n := by omega
  have hix := ix_o (o := o) hin
  rw [← hL] at hix
  have z1 : ∀ S,lenV .sl S (.iv (.sl .no L)) = some (.iv (.int .i64 n)) := fun S => by
   show some (TV.iv (IV.int .i64 (L.length : Nat))) = _; rw [hlen]
  obtain ⟨y10,ih⟩ := loop3 hn hL hlen x0 x1 x2 x4 x7 x8 x9 S k (i + 1) (.iv (.bool true)) (by omega)
  rw [show ((i + 1 : Nat) : Int) = (i : Int) + 1 by omega,spl] at ih
  refine ⟨y10,loop_at K _ _ t3L0.eq_1 ?_⟩
  cases hs : spl o i with
  | true =>
   rw [hs,Bool.true_or] at ih
   simp (config := { maxSteps := 4000000 }) (disch := omega) only [go_sem,z1,hlen,wrap_i64]
   exact congrArg er ih
  | false =>
   rw [hs,Bool.false_or] at ih
   by_cases ho : o i < 0
   ·rw [decide_eq_true ho] at ih
    simp (config := { maxSteps := 4000000 }) (disch := omega) only [go_sem,z1,hlen,hix,ho,wrap_i64]
    exact congrArg er ih
   ·rw [decide_eq_false ho] at ih
    simp (config := { maxSteps := 4000000 }) (disch := omega) only [go_sem,z1,hlen,hix,ho,wrap_i64]
    exact congrArg er ih
theorem law3 (r : Int) (t1 : Tag) (E : List (Int × Int)) (t2 : Tag) (M : List (Int × Int)) : ((lim K).call 3 [.iv (gv r t1 E t2 M)] []).All fun r => r.1 = .iv (.bool true) := by
 have h7 : Pure K 7 _ _ := TM.pure_ret (call7 r t1 E t2 M) (by rw [resolve_iv])
 refine call_all' K _ (fn := t3) rfl rfl ?_
 by_cases hf : r ≤ 70 ∧ E.length ≤ 400 ∧ M.length ≤ 400
 rotate_left
 ·have hd : (decide (r ≤ 70) && (decide (E.length ≤ 400) && decide (M.length ≤ 400))) = false := by simp; omega
  rw [hd] at h7
  unfold gv at h7 ⊢
  simp (config := { maxSteps := 4000000 }) (disch := omega) only [t3,go_sem,TM.undef,cpR_pure h7]
  refine fin_pureA worksA ?_
  rintro v rfl
  simp (config := { maxSteps := 4000000 }) (disch := omega) only [go_sem]
  exact all_ret rfl
 ·have hd : (decide (r ≤ 70) && (decide (E.length ≤ 400) && decide (M.length ≤ 400))) = true := by simp [hf]
  rw [hd] at h7
  obtain ⟨hr70,hE,hM⟩ := hf
  have c9 := call9 r t1 E t2 M (by omega) (by omega) (by omega)
  have c10 : Pure K 10 _ _ := TM.pure_ret (call10 r t1 E t2 M) (by unfold gv; rw [resolve_iv])
  have c11 := call11 r t1 E t2 M hE hM
  unfold gv at h7 c9 c10 c11 ⊢
  simp (config := { maxSteps := 4000000 }) (disch := omega) only [t3,go_sem,TM.undef,cpR_pure h7]
  refine fin_pureA c9 ?_
  rintro v (⟨hm,rfl⟩ | ⟨hm,n,o,rfl,h32,rfl,ho⟩)
  ·rw [hm] at c11
   simp (config := { maxSteps := 4000000 }) (disch := omega) only [go_sem,cpR_pure c10,cpR_pure c11]
   refine fin_pureA worksA ?_
   rintro v rfl
   simp (config := { maxSteps := 4000000 }) (disch := omega) only [go_sem]
   exact all_ret rfl
  ·rw [hm] at c11
   obtain ⟨n',hn',_,hok,_⟩ := may_ok hm
   obtain rfl : n = n' := by omega
   clear hn'
   have hn : n ≤ 70 := by omega
   have hlen : ((List.range n).map o).length ≤ 1000000 := by simp; omega
   have c12 := call12 n t1 E t2 M hE hM .no ((List.range n).map o) hlen
   rw [right_ok ho hok (fun e h => h) hm] at c12
   obtain ⟨b,c13,hb⟩ := call13 (n := n) (tE := t1) (tM := t2) (M := M) (by omega) hok h32 (by omega)
   have hL0 := len_o o n
   have l3 := fun L hL hl => loop3 (o := o) (L := L) hn hL hl
   have c12 : Pure K 12 [.iv (gv n t1 E t2 M),.iv (.sl .no (TM.one (.int .i64) ((List.range n).map o)))] (.iv (.bool true)) := c12
   have hfin : spl o n = true → b = false := fun hs => by
    cases b with
    | false => rfl
    | true =>
     have hp := ho.nosp (hb rfl)
     rw [spl_false (fun m hm => by
      by_cases h3 : m < 32
      ·rw [ho.mach m h3]; omega
      ·have h4 := hp m (by omega) hm
       rcases ho.virt m (by omega) hm with h5 | h5 <;> omega)] at hs
     cases hs
   clear ho
   generalize hL : TM.one (.int .i64) ((List.range n).map o) = L at *
   have z1 : ∀ S,lenV .sl S (.iv (.sl .no L)) = some (.iv (.int .i64 n)) := fun S => by
    show some (TV.iv (IV.int .i64 (L.length : Nat))) = _; rw [hL0]
   have l3 := l3 L rfl hL0
   unfold gv at c12 c13
   simp (config := { maxSteps := 4000000 }) (disch := omega) only [go_sem,cpR_pure c10,cpR_pure c11,cpR_pure c12,z1,hL0]
   obtain ⟨y10,e3⟩ := l3 (.iv (.agg [.int .i64 n,.sl t1 (E.map enc2),.sl t2 (M.map enc2)])) (.lb [.iv (.int .i64 n),.iv (.sl t1 (E.map enc2)),.iv (.sl t2 (M.map enc2))]) (.iv (.bool false)) (.lb [.iv (.int .i64 n),.iv (.sl t1 (E.map enc2)),.iv (.sl t2 (M.map enc2))]) (.iv (.bool false)) (.iv (.bool false)) (.iv (.bool false)) [] n 0 (.tup []) (by omega)
   rw [show ((0 : Nat) : Int) = 0 from rfl,show spl o 0 = false from rfl] at e3
   rw [e3]
   cases hs : spl o n with
   | false =>
    simp (config := { maxSteps := 4000000 }) (disch := omega) only [go_sem]
    refine fin_pureA worksA ?_
    rintro v rfl
    simp (config := { maxSteps := 4000000 }) (disch := omega) only [go_sem]
    exact all_ret rfl
   | true =>
    rw [hfin hs] at c13
    simp (config := { maxSteps := 4000000 }) (disch := omega) only [go_sem,cpR_pure c13]
    refine fin_pureA worksA ?_
    rintro v rfl
    simp (config := { maxSteps := 4000000 }) (disch := omega) only [go_sem]
    exact all_ret rfl
variable {H : Type}
theorem inv3 {ds : List (DataW H)} {ls : List (List IV)} (hh0 : AllTy Try.prog [24] ds ls) : ((lim K).call 3 (argsOf Try.prog [24] ls) []).All fun r => r.1 = .iv (.bool true) := by
 obtain ⟨d0,l0,ds0,ls0,rfl,h0,hh1⟩ := allTy_cons hh0
 obtain ⟨r,t1,E,t2,M,rfl,hE,hM⟩ := ty_graph h0
 have e0 : ∀ l,argOf Try.prog 24 l = .iv (.agg l) := fun x => argOf_agg (by rw [Try.underlying24])
 rw [allTy_nil hh1]
 simp only [argsOf,e0]
 exact law3 r t1 E t2 M
end Go.Proofs.Ytmlhjdekfihdnaa
