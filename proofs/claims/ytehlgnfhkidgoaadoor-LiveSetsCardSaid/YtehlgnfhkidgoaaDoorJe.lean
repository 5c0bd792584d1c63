/- Some texts of the proof, joined. Condition: none. -/
import Derived.Test.YtehlgnfhkidgoaaDoorJd
import Derived.Test.YtehlgnfhkidgoaaDoorTmE
set_option maxRecDepth 100000
set_option maxHeartbeats 64000000
set_option linter.unusedSimpArgs false
set_option linter.unusedVariables false
namespace Go.Proofs.YtehlgnfhkidgoaaDoor
open Go Go.TM
theorem no39B (fn rg sl nd pr : Int) (rs : Bool) (ti : Tag) (ins : List VI) (hn : ins.length ≤ 1000000) (x : VI) (hu : x.us.length ≤ 1000000) (h : 26 ≤ x.op ∧ x.op ≤ 31) (hc : cntL ins x.lb ≠ 1) : TM.Pure K 39 [.iv (.agg (encG fn rg sl nd pr rs ti ins)),.iv (.agg (encV x))] (.iv (.bool false)) := by
 have c53 := call53 x
 rw [decide_eq_true (by omega)] at c53
 have c54 := call54 fn rg sl nd pr rs ti ins hn x.lb
 rw [encV_eq] at c53 ⊢
 unfold encG at *
 refine call_pure t39 rfl rfl ?_
 generalize cntL ins x.lb = cn at *
 simp (config := { maxSteps := 4000000 }) (disch := omega) only [t39,go_sem,TM.undef,cpR_pure c54,cpR_pure c53]
theorem yes39B (fn rg sl nd pr : Int) (rs : Bool) (ti : Tag) (ins : List VI) (hn : ins.length ≤ 1000000) (x : VI) (hu : x.us.length ≤ 1000000) (h : 26 ≤ x.op ∧ x.op ≤ 31) (hc : cntL ins x.lb = 1) : TM.Pure K 39 [.iv (.agg (encG fn rg sl nd pr rs ti ins)),.iv (.agg (encV x))] (.iv (.bool (!(x.us.any (badR rg)) && (!(badR rg x.a) && !(badR rg x.b) && !(badR rg x.d))))) := by
 have c53 := call53 x
 rw [decide_eq_true (by omega)] at c53
 have c54 := call54 fn rg sl nd pr rs ti ins hn x.lb
 have cA := call55 fn rg sl nd pr rs ti ins x.a
 have cB := call55 fn rg sl nd pr rs ti ins x.b
 have cD := call55 fn rg sl nd pr rs ti ins x.d
 rw [hc] at c54
 obtain ⟨jj,y4,y6,y11,y12,l1,hj⟩ := loop39 (fn := fn) (rg := rg) (sl := sl) (nd := nd) (pr := pr) (rs := rs) (ti := ti) (ins := ins) x hu (.iv (.agg (encG fn rg sl nd pr rs ti ins))) (.iv (.agg (encV x))) (.tup []) (.iv (.bool false)) (.iv (.bool false)) (.tup []) (.iv (.bool false)) [] x.us.length 0 (.tup []) (.tup []) (by omega)
 rw [show ((0 : Nat) : Int) = 0 from rfl] at l1
 rw [List.drop_zero] at hj
 rw [encV_eq] at c53 l1 ⊢
 unfold encG at *
 refine call_pure t39 rfl rfl ?_
 rcases hj with ⟨rfl,rfl,hj⟩ | ⟨rfl,rfl,hj⟩
 ·rw [hj,Bool.not_false,Bool.true_and]
  generalize badR rg x.a = bA at *
  generalize badR rg x.b = bB at *
  generalize badR rg x.d = bD at *
  cases bA with
  | true =>
   simp only [Bool.not_true,Bool.not_false,Bool.false_and,Bool.true_and] at *
   simp (config := { maxSteps := 4000000 }) (disch := omega) only [t39,go_sem,TM.undef,cpR_pure c54,cpR_pure c53]
   rw [l1]
   simp (config := { maxSteps := 4000000 }) (disch := omega) only [go_sem,TM.undef,cpR_pure cA,cpR_pure cB,cpR_pure cD,Bool.not_true,Bool.not_false]
  | false =>
   cases bB with
   | true =>
    simp only [Bool.not_true,Bool.not_false,Bool.false_and,Bool.true_and] at *
    simp (config := { maxSteps := 4000000 }) (disch := omega) only [t39,go_sem,TM.undef,cpR_pure c54,cpR_pure c53]
    rw [l1]
    simp (config := { maxSteps := 4000000 }) (disch := omega) only [go_sem,TM.undef,cpR_pure cA,cpR_pure cB,cpR_pure cD,Bool.not_true,Bool.not_false]
   | false =>
    cases bD <;>
    ·simp only [Bool.not_true,Bool.not_false,Bool.false_and,Bool.true_and] at *
     simp (config := { maxSteps := 4000000 }) (disch := omega) only [t39,go_sem,TM.undef,cpR_pure c54,cpR_pure c53]
     rw [l1]
     simp (config := { maxSteps := 4000000 }) (disch := omega) only [go_sem,TM.undef,cpR_pure cA,cpR_pure cB,cpR_pure cD,Bool.not_true,Bool.not_false]
 ·rw [hj,Bool.not_true,Bool.false_and]
  simp (config := { maxSteps := 4000000 }) (disch := omega) only [t39,go_sem,TM.undef,cpR_pure c54,cpR_pure c53]
  rw [l1]
  simp (config := { maxSteps := 4000000 }) (disch := omega) only [go_sem,TM.undef,cpR_pure cA]
theorem no39G (fn rg sl nd pr : Int) (rs : Bool) (ti : Tag) (ins : List VI) (hn : ins.length ≤ 1000000) (x : VI) (hu : x.us.length ≤ 1000000) (h : x.op = 66) (hc : cntL ins x.lb ≠ 1) : TM.Pure K 39 [.iv (.agg (encG fn rg sl nd pr rs ti ins)),.iv (.agg (encV x))] (.iv (.bool false)) := by
 have c53 := call53 x
 rw [decide_eq_true (by omega)] at c53
 have c54 := call54 fn rg sl nd pr rs ti ins hn x.lb
 rw [encV_eq] at c53 ⊢
 unfold encG at *
 refine call_pure t39 rfl rfl ?_
 generalize cntL ins x.lb = cn at *
 simp (config := { maxSteps := 4000000 }) (disch := omega) only [t39,go_sem,TM.undef,cpR_pure c54,cpR_pure c53]
theorem yes39G (fn rg sl nd pr : Int) (rs : Bool) (ti : Tag) (ins : List VI) (hn : ins.length ≤ 1000000) (x : VI) (hu : x.us.length ≤ 1000000) (h : x.op = 66) (hc : cntL ins x.lb = 1) : TM.Pure K 39 [.iv (.agg (encG fn rg sl nd pr rs ti ins)),.iv (.agg (encV x))] (.iv (.bool (!(x.us.any (badR rg)) && (!(badR rg x.a) && !(badR rg x.b) && !(badR rg x.d))))) := by
 have c53 := call53 x
 rw [decide_eq_true (by omega)] at c53
 have c54 := call54 fn rg sl nd pr rs ti ins hn x.lb
 have cA := call55 fn rg sl nd pr rs ti ins x.a
 have cB := call55 fn rg sl nd pr rs ti ins x.b
 have cD := call55 fn rg sl nd pr rs ti ins x.d
 rw [hc] at c54
 obtain ⟨jj,y4,y6,y11,y12,l1,hj⟩ := loop39 (fn := fn) (rg := rg) (sl := sl) (nd := nd) (pr := pr) (rs := rs) (ti := ti) (ins := ins) x hu (.iv (.agg (encG fn rg sl nd pr rs ti ins))) (.iv (.agg (encV x))) (.tup []) (.iv (.bool false)) (.iv (.bool false)) (.tup []) (.iv (.bool false)) [] x.us.length 0 (.tup []) (.tup []) (by omega)
 rw [show ((0 : Nat) : Int) = 0 from rfl] at l1
 rw [List.drop_zero] at hj
 rw [encV_eq] at c53 l1 ⊢
 unfold encG at *
 refine call_pure t39 rfl rfl ?_
 rcases hj with ⟨rfl,rfl,hj⟩ | ⟨rfl,rfl,hj⟩
 ·rw [hj,Bool.not_false,Bool.true_and]
  generalize badR rg x.a = bA at *
  generalize badR rg x.b = bB at *
  generalize badR rg x.d = bD at *
  cases bA with
  | true =>
   simp only [Bool.not_true,Bool.not_false,Bool.false_and,Bool.true_and] at *
   simp (config := { maxSteps := 4000000 }) (disch := omega) only [t39,go_sem,TM.undef,cpR_pure c54,cpR_pure c53]
   rw [l1]
   simp (config := { maxSteps := 4000000 }) (disch := omega) only [go_sem,TM.undef,cpR_pure cA,cpR_pure cB,cpR_pure cD,Bool.not_true,Bool.not_false]
  | false =>
   cases bB with
   | true =>
    simp only [Bool.not_true,Bool.not_false,Bool.false_and,Bool.true_and] at *
    simp (config := { maxSteps := 4000000 }) (disch := omega) only [t39,go_sem,TM.undef,cpR_pure c54,cpR_pure c53]
    rw [l1]
    simp (config := { maxSteps := 4000000 }) (disch := omega) only [go_sem,TM.undef,cpR_pure cA,cpR_pure cB,cpR_pure cD,Bool.not_true,Bool.not_false]
   | false =>
    cases bD <;>
    ·simp only [Bool.not_true,Bool.not_false,Bool.false_and,Bool.true_and] at *
     simp (config := { maxSteps := 4000000 }) (disch := omega) only [t39,go_sem,TM.undef,cpR_pure c54,cpR_pure c53]
     rw [l1]
     simp (config := { maxSteps := 4000000 }) (disch := omega) only [go_sem,TM.undef,cpR_pure cA,cpR_pure cB,cpR_pure cD,Bool.not_true,Bool.not_false]
 ·rw [hj,Bool.not_true,Bool.false_and]
  simp (config := { maxSteps := 4000000 }) (disch := omega) only [t39,go_sem,TM.undef,cpR_pure c54,cpR_pure c53]
  rw [l1]
  simp (config := { maxSteps := 4000000 }) (disch := omega) only [go_sem,TM.undef,cpR_pure cA]
theorem no39C (fn rg sl nd pr : Int) (rs : Bool) (ti : Tag) (ins : List VI) (hn : ins.length ≤ 1000000) (x : VI) (hu : x.us.length ≤ 1000000) (h : x.op = 65) (hc : cntL ins x.lb ≠ 1) : TM.Pure K 39 [.iv (.agg (encG fn rg sl nd pr rs ti ins)),.iv (.agg (encV x))] (.iv (.bool false)) := by
 have c53 := call53 x
 rw [decide_eq_false (by omega)] at c53
 have c54 := call54 fn rg sl nd pr rs ti ins hn x.lb
 rw [encV_eq] at c53 ⊢
 unfold encG at *
 refine call_pure t39 rfl rfl ?_
 generalize cntL ins x.lb = cn at *
 simp (config := { maxSteps := 4000000 }) (disch := omega) only [t39,go_sem,TM.undef,cpR_pure c54,cpR_pure c53]
theorem yes39C (fn rg sl nd pr : Int) (rs : Bool) (ti : Tag) (ins : List VI) (hn : ins.length ≤ 1000000) (x : VI) (hu : x.us.length ≤ 1000000) (h : x.op = 65) (hc : cntL ins x.lb = 1) : TM.Pure K 39 [.iv (.agg (encG fn rg sl nd pr rs ti ins)),.iv (.agg (encV x))] (.iv (.bool (!(x.us.any (badR rg)) && (!(badR rg x.a) && !(badR rg x.b) && !(badR rg x.d))))) := by
 have c53 := call53 x
 rw [decide_eq_false (by omega)] at c53
 have c54 := call54 fn rg sl nd pr rs ti ins hn x.lb
 have cA := call55 fn rg sl nd pr rs ti ins x.a
 have cB := call55 fn rg sl nd pr rs ti ins x.b
 have cD := call55 fn rg sl nd pr rs ti ins x.d
 rw [hc] at c54
 obtain ⟨jj,y4,y6,y11,y12,l1,hj⟩ := loop39 (fn := fn) (rg := rg) (sl := sl) (nd := nd) (pr := pr) (rs := rs) (ti := ti) (ins := ins) x hu (.iv (.agg (encG fn rg sl nd pr rs ti ins))) (.iv (.agg (encV x))) (.tup []) (.iv (.bool false)) (.iv (.bool false)) (.tup []) (.iv (.bool false)) [] x.us.length 0 (.tup []) (.tup []) (by omega)
 rw [show ((0 : Nat) : Int) = 0 from rfl] at l1
 rw [List.drop_zero] at hj
 rw [encV_eq] at c53 l1 ⊢
 unfold encG at *
 refine call_pure t39 rfl rfl ?_
 rcases hj with ⟨rfl,rfl,hj⟩ | ⟨rfl,rfl,hj⟩
 ·rw [hj,Bool.not_false,Bool.true_and]
  generalize badR rg x.a = bA at *
  generalize badR rg x.b = bB at *
  generalize badR rg x.d = bD at *
  cases bA with
  | true =>
   simp only [Bool.not_true,Bool.not_false,Bool.false_and,Bool.true_and] at *
   simp (config := { maxSteps := 4000000 }) (disch := omega) only [t39,go_sem,TM.undef,cpR_pure c54,cpR_pure c53]
   rw [l1]
   simp (config := { maxSteps := 4000000 }) (disch := omega) only [go_sem,TM.undef,cpR_pure cA,cpR_pure cB,cpR_pure cD,Bool.not_true,Bool.not_false]
  | false =>
   cases bB with
   | true =>
    simp only [Bool.not_true,Bool.not_false,Bool.false_and,Bool.true_and] at *
    simp (config := { maxSteps := 4000000 }) (disch := omega) only [t39,go_sem,TM.undef,cpR_pure c54,cpR_pure c53]
    rw [l1]
    simp (config := { maxSteps := 4000000 }) (disch := omega) only [go_sem,TM.undef,cpR_pure cA,cpR_pure cB,cpR_pure cD,Bool.not_true,Bool.not_false]
   | false =>
    cases bD <;>
    ·simp only [Bool.not_true,Bool.not_false,Bool.false_and,Bool.true_and] at *
     simp (config := { maxSteps := 4000000 }) (disch := omega) only [t39,go_sem,TM.undef,cpR_pure c54,cpR_pure c53]
     rw [l1]
     simp (config := { maxSteps := 4000000 }) (disch := omega) only [go_sem,TM.undef,cpR_pure cA,cpR_pure cB,cpR_pure cD,Bool.not_true,Bool.not_false]
 ·rw [hj,Bool.not_true,Bool.false_and]
  simp (config := { maxSteps := 4000000 }) (disch := omega) only [t39,go_sem,TM.undef,cpR_pure c54,cpR_pure c53]
  rw [l1]
  simp (config := { maxSteps := 4000000 }) (disch := omega) only [go_sem,TM.undef,cpR_pure cA]
theorem yes39E (fn rg sl nd pr : Int) (rs : Bool) (ti : Tag) (ins : List VI) (hn : ins.length ≤ 1000000) (x : VI) (hu : x.us.length ≤ 1000000) (h : x.op = 67 ∧ x.d < 0) : TM.Pure K 39 [.iv (.agg (encG fn rg sl nd pr rs ti ins)),.iv (.agg (encV x))] (.iv (.bool (!(x.us.any (badR rg)) && (!(badR rg x.a) && !(badR rg x.b))))) := by
 have c53 := call53 x
 rw [decide_eq_false (by omega)] at c53
 have cA := call55 fn rg sl nd pr rs ti ins x.a
 have cB := call55 fn rg sl nd pr rs ti ins x.b
 have cD := call55 fn rg sl nd pr rs ti ins x.d
 obtain ⟨jj,y4,y6,y11,y12,l1,hj⟩ := loop39 (fn := fn) (rg := rg) (sl := sl) (nd := nd) (pr := pr) (rs := rs) (ti := ti) (ins := ins) x hu (.iv (.agg (encG fn rg sl nd pr rs ti ins))) (.iv (.agg (encV x))) (.tup []) (.iv (.bool false)) (.iv (.bool false)) (.tup []) (.iv (.bool false)) [] x.us.length 0 (.tup []) (.tup []) (by omega)
 rw [show ((0 : Nat) : Int) = 0 from rfl] at l1
 rw [List.drop_zero] at hj
 rw [encV_eq] at c53 l1 ⊢
 unfold encG at *
 refine call_pure t39 rfl rfl ?_
 rcases hj with ⟨rfl,rfl,hj⟩ | ⟨rfl,rfl,hj⟩
 ·rw [hj,Bool.not_false,Bool.true_and]
  generalize badR rg x.a = bA at *
  generalize badR rg x.b = bB at *
  generalize badR rg x.d = bD at *
  cases bA with
  | true =>
   simp only [Bool.not_true,Bool.not_false,Bool.false_and,Bool.true_and] at *
   simp (config := { maxSteps := 4000000 }) (disch := omega) only [t39,go_sem,TM.undef,cpR_pure c53]
   rw [l1]
   simp (config := { maxSteps := 4000000 }) (disch := omega) only [go_sem,TM.undef,cpR_pure cA,cpR_pure cB,cpR_pure cD,Bool.not_true,Bool.not_false]
  | false =>
   cases bB with
   | true =>
    simp only [Bool.not_true,Bool.not_false,Bool.false_and,Bool.true_and] at *
    simp (config := { maxSteps := 4000000 }) (disch := omega) only [t39,go_sem,TM.undef,cpR_pure c53]
    rw [l1]
    simp (config := { maxSteps := 4000000 }) (disch := omega) only [go_sem,TM.undef,cpR_pure cA,cpR_pure cB,cpR_pure cD,Bool.not_true,Bool.not_false]
   | false =>
    cases bD <;>
    ·simp only [Bool.not_true,Bool.not_false,Bool.false_and,Bool.true_and] at *
     simp (config := { maxSteps := 4000000 }) (disch := omega) only [t39,go_sem,TM.undef,cpR_pure c53]
     rw [l1]
     simp (config := { maxSteps := 4000000 }) (disch := omega) only [go_sem,TM.undef,cpR_pure cA,cpR_pure cB,cpR_pure cD,Bool.not_true,Bool.not_false]
 ·rw [hj,Bool.not_true,Bool.false_and]
  simp (config := { maxSteps := 4000000 }) (disch := omega) only [t39,go_sem,TM.undef,cpR_pure c53]
  rw [l1]
  simp (config := { maxSteps := 4000000 }) (disch := omega) only [go_sem,TM.undef,cpR_pure cA]
theorem yes39F (fn rg sl nd pr : Int) (rs : Bool) (ti : Tag) (ins : List VI) (hn : ins.length ≤ 1000000) (x : VI) (hu : x.us.length ≤ 1000000) (h : x.op = 67 ∧ 0 ≤ x.d) : TM.Pure K 39 [.iv (.agg (encG fn rg sl nd pr rs ti ins)),.iv (.agg (encV x))] (.iv (.bool (!(x.us.any (badR rg)) && (!(badR rg x.a) && !(badR rg x.b) && !(badR rg x.d))))) := by
 have c53 := call53 x
 rw [decide_eq_false (by omega)] at c53
 have cA := call55 fn rg sl nd pr rs ti ins x.a
 have cB := call55 fn rg sl nd pr rs ti ins x.b
 have cD := call55 fn rg sl nd pr rs ti ins x.d
 obtain ⟨jj,y4,y6,y11,y12,l1,hj⟩ := loop39 (fn := fn) (rg := rg) (sl := sl) (nd := nd) (pr := pr) (rs := rs) (ti := ti) (ins := ins) x hu (.iv (.agg (encG fn rg sl nd pr rs ti ins))) (.iv (.agg (encV x))) (.tup []) (.iv (.bool false)) (.iv (.bool false)) (.tup []) (.iv (.bool false)) [] x.us.length 0 (.tup []) (.tup []) (by omega)
 rw [show ((0 : Nat) : Int) = 0 from rfl] at l1
 rw [List.drop_zero] at hj
 rw [encV_eq] at c53 l1 ⊢
 unfold encG at *
 refine call_pure t39 rfl rfl ?_
 rcases hj with ⟨rfl,rfl,hj⟩ | ⟨rfl,rfl,hj⟩
 ·rw [hj,Bool.not_false,Bool.true_and]
  generalize badR rg x.a = bA at *
  generalize badR rg x.b = bB at *
  generalize badR rg x.d = bD at *
  cases bA with
  | true =>
   simp only [Bool.not_true,Bool.not_false,Bool.false_and,Bool.true_and] at *
   simp (config := { maxSteps := 4000000 }) (disch := omega) only [t39,go_sem,TM.undef,cpR_pure c53]
   rw [l1]
   simp (config := { maxSteps := 4000000 }) (disch := omega) only [go_sem,TM.undef,cpR_pure cA,cpR_pure cB,cpR_pure cD,Bool.not_true,Bool.not_false]
  | false =>
   cases bB with
   | true =>
    simp only [Bool.not_true,Bool.not_false,Bool.false_and,Bool.true_and] at *
    simp (config := { maxSteps := 4000000 }) (disch := omega) only [t39,go_sem,TM.undef,cpR_pure c53]
    rw [l1]
    simp (config := { maxSteps := 4000000 }) (disch := omega) only [go_sem,TM.undef,cpR_pure cA,cpR_pure cB,cpR_pure cD,Bool.not_true,Bool.not_false]
   | false =>
    cases bD <;>
    ·simp only [Bool.not_true,Bool.not_false,Bool.false_and,Bool.true_and] at *
     simp (config := { maxSteps := 4000000 }) (disch := omega) only [t39,go_sem,TM.undef,cpR_pure c53]
     rw [l1]
     simp (config := { maxSteps := 4000000 }) (disch := omega) only [go_sem,TM.undef,cpR_pure cA,cpR_pure cB,cpR_pure cD,Bool.not_true,Bool.not_false]
 ·rw [hj,Bool.not_true,Bool.false_and]
  simp (config := { maxSteps := 4000000 }) (disch := omega) only [t39,go_sem,TM.undef,cpR_pure c53]
  rw [l1]
  simp (config := { maxSteps := 4000000 }) (disch := omega) only [go_sem,TM.undef,cpR_pure cA]
theorem call39 (fn rg sl nd pr : Int) (rs : Bool) (ti : Tag) (ins : List VI) (hn : ins.length ≤ 1000000) (x : VI) (hu : x.us.length ≤ 1000000) : TM.Pure K 39 [.iv (.agg (encG fn rg sl nd pr rs ti ins)),.iv (.agg (encV x))] (.iv (.bool (!badI rg ins x))) := by
 have hbad : badI rg ins x = (!formedM x.op x.im || ((regsOf x).any (badR rg) || (goesX x && decide (cntL ins x.lb ≠ 1)))) := rfl
 have hreg : x.op ≠ 67 ∨ 0 ≤ x.d → (regsOf x).any (badR rg) = (badR rg x.a || (badR rg x.b || (x.us.any (badR rg) || badR rg x.d))) := fun h => by
  unfold regsOf; rw [if_pos h]; simp
 have hreg' : ¬ (x.op ≠ 67 ∨ 0 ≤ x.d) → (regsOf x).any (badR rg) = (badR rg x.a || (badR rg x.b || x.us.any (badR rg))) := fun h => by
  unfold regsOf; rw [if_neg h]; simp
 cases hf : formedM x.op x.im with
 | false =>
  have := not39 fn rg sl nd pr rs ti ins hn x hu hf
  rw [hbad,hf]
  exact this
 | true =>
  rw [hbad,hf]
  have hf' := hf
  unfold formedM plainM at hf'
  simp only [Bool.or_eq_true,Bool.and_eq_true,decide_eq_true_eq] at hf'
  by_cases h1 : 1 ≤ x.op ∧ x.op ≤ 25
  ·have hpl : loM x.op ≤ x.im ∧ x.im ≤ hiM x.op := by
    rcases hf' with hf' | hf'
    ·exact hf'.2
    ·omega
   have hg : goesX x = false := by unfold goesX; simp; omega
   have := yes39A fn rg sl nd pr rs ti ins hn x hu h1 hpl
   rw [hg,hreg (by omega)]
   revert this
   cases badR rg x.a <;> cases badR rg x.b <;> cases badR rg x.d <;> cases x.us.any (badR rg) <;> exact id
  ·by_cases h2 : (26 ≤ x.op ∧ x.op ≤ 31) ∨ x.op = 66
   ·have hg : goesX x = true := by unfold goesX; simp; omega
    rw [hg,hreg (by omega)]
    rcases h2 with h2 | h2
    ·by_cases hc : cntL ins x.lb = 1
     ·have := yes39B fn rg sl nd pr rs ti ins hn x hu h2 hc
      rw [decide_eq_false (fun h => h hc)]
      revert this
      cases badR rg x.a <;> cases badR rg x.b <;> cases badR rg x.d <;> cases x.us.any (badR rg) <;> exact id
     ·have := no39B fn rg sl nd pr rs ti ins hn x hu h2 hc
      rw [decide_eq_true hc]
      revert this
      cases badR rg x.a <;> cases badR rg x.b <;> cases badR rg x.d <;> cases x.us.any (badR rg) <;> exact id
    ·by_cases hc : cntL ins x.lb = 1
     ·have := yes39G fn rg sl nd pr rs ti ins hn x hu h2 hc
      rw [decide_eq_false (fun h => h hc)]
      revert this
      cases badR rg x.a <;> cases badR rg x.b <;> cases badR rg x.d <;> cases x.us.any (badR rg) <;> exact id
     ·have := no39G fn rg sl nd pr rs ti ins hn x hu h2 hc
      rw [decide_eq_true hc]
      revert this
      cases badR rg x.a <;> cases badR rg x.b <;> cases badR rg x.d <;> cases x.us.any (badR rg) <;> exact id
   ·by_cases h3 : x.op = 65
    ·have hg : goesX x = true := by unfold goesX; simp; omega
     rw [hg,hreg (by omega)]
     by_cases hc : cntL ins x.lb = 1
     ·have := yes39C fn rg sl nd pr rs ti ins hn x hu h3 hc
      rw [decide_eq_false (fun h => h hc)]
      revert this
      cases badR rg x.a <;> cases badR rg x.b <;> cases badR rg x.d <;> cases x.us.any (badR rg) <;> exact id
     ·have := no39C fn rg sl nd pr rs ti ins hn x hu h3 hc
      rw [decide_eq_true hc]
      revert this
      cases badR rg x.a <;> cases badR rg x.b <;> cases badR rg x.d <;> cases x.us.any (badR rg) <;> exact id
    ·have hg : goesX x = false := by unfold goesX; simp; omega
     rw [hg]
     by_cases h4 : x.op = 67
     ·by_cases h5 : x.d < 0
      ·have := yes39E fn rg sl nd pr rs ti ins hn x hu ⟨h4,h5⟩
       rw [hreg' (by omega)]
       revert this
       cases badR rg x.a <;> cases badR rg x.b <;> cases x.us.any (badR rg) <;> exact id
      ·have := yes39F fn rg sl nd pr rs ti ins hn x hu ⟨h4,by omega⟩
       rw [hreg (by omega)]
       revert this
       cases badR rg x.a <;> cases badR rg x.b <;> cases badR rg x.d <;> cases x.us.any (badR rg) <;> exact id
     ·have := yes39D fn rg sl nd pr rs ti ins hn x hu (by omega)
      rw [hreg (by omega)]
      revert this
      cases badR rg x.a <;> cases badR rg x.b <;> cases badR rg x.d <;> cases x.us.any (badR rg) <;> exact id
theorem loop27 {fn rg sl nd pr : Int} {rs : Bool} {ti : Tag} {ins : List VI} (hn : ins.length ≤ 1000000) (hus : ∀ x ∈ ins,x.us.length ≤ 1000000) (x0 x4 x5 x8 : TV) (S : Store) : ∀ (k i : Nat) (x6 x7 : TV),i + k = ins.length →
  ∃ (jj : Jump) (y2 y3 y6 y7 : TV),lp' (lim K) t27L0 [x0,.lb [.iv (.int .i64 fn),.iv (.int .i64 rg),.iv (.int .i64 sl),.iv (.int .i64 nd),.iv (.int .i64 pr),.iv (.bool rs),.iv (.sl ti (ins.map encV))],.iv (.int .i64 0),.iv (.int .i64 i),x4,x5,x6,x7,x8] S
   = .ret (jj,[x0,.lb [.iv (.int .i64 fn),.iv (.int .i64 rg),.iv (.int .i64 sl),.iv (.int .i64 nd),.iv (.int .i64 pr),.iv (.bool rs),.iv (.sl ti (ins.map encV))],y2,y3,x4,x5,y6,y7,x8],S) ∧
   (jj = .exit 0 ∧ y2 = .iv (.int .i64 0) ∧ (ins.drop i).any (badI rg ins) = false ∨ jj = .ret ∧ y2 = .iv (.int .i64 2) ∧ (ins.drop i).any (badI rg ins) = true)
 | 0,i,x6,x7,h => by
  obtain rfl : i = ins.length := by omega
  rw [List.drop_length]
  have hlen : (ins.map encV).length = ins.length := List.length_map _
  refine ⟨.exit 0,.iv (.int .i64 0),.iv (.int .i64 ins.length),.iv (.bool false),x7,loop_at K _ _ t27L0.eq_1 ?_,.inl ⟨rfl,rfl,rfl⟩⟩
  simp (config := { maxSteps := 4000000 }) (disch := omega) only [go_sem,hlen]
 | k + 1,i,x6,x7,h => by
  have hla : i < ins.length := by omega
  have hlen : (ins.map encV).length = ins.length := List.length_map _
  have hix := ix_map (w := 8) (f := encV) encV_len (t := ti) (l := ins) (i := (i : Int)) (by omega)
  rw [Int.toNat_natCast,encV_eq] at hix
  have hmem : ins.getD i default ∈ ins := by simp only [List.getD,List.getElem?_eq_getElem hla,Option.getD_some]; exact List.getElem_mem _
  have c39 := call39 fn rg sl nd pr rs ti ins hn (ins.getD i default) (hus _ hmem)
  rw [encV_eq] at c39
  unfold encG at c39
  rw [drop_get hla,List.any_cons]
  obtain ⟨jj,y2,y3,y6,y7,ih,hj⟩ := loop27 (fn := fn) (rg := rg) (sl := sl) (nd := nd) (pr := pr) (rs := rs) (ti := ti) hn hus x0 x4 x5 x8 S k (i + 1) (.iv (.bool true)) (.iv (.bool false)) (by omega)
  rw [show ((i + 1 : Nat) : Int) = (i : Int) + 1 by omega] at ih
  generalize badI rg ins (ins.getD i default) = b at *
  generalize ins.getD i default = x at *
  cases b with
  | true =>
   rw [Bool.not_true] at c39
   refine ⟨.ret,.iv (.int .i64 2),.iv (.int .i64 i),.iv (.bool true),.iv (.bool true),loop_at K _ _ t27L0.eq_1 ?_,.inr ⟨rfl,rfl,rfl⟩⟩
   simp (config := { maxSteps := 4000000 }) (disch := omega) only [go_sem,hlen,hix,cpR_pure c39]
  | false =>
   rw [Bool.not_false] at c39
   refine ⟨jj,y2,y3,y6,y7,loop_at K _ _ t27L0.eq_1 ?_,by rw [Bool.false_or]; exact hj⟩
   simp (config := { maxSteps := 4000000 }) (disch := omega) only [go_sem,hlen,hix,cpR_pure c39,wrap_i64]
   exact congrArg er ih
theorem call27 (fn rg sl nd pr : Int) (rs : Bool) (ti : Tag) (ins : List VI) (hn : ins.length ≤ 1000000) (hus : ∀ x ∈ ins,x.us.length ≤ 1000000) : TM.Pure K 27 [.iv (.agg (encG fn rg sl nd pr rs ti ins))] (.iv (.int .i64 (if chkM rg sl nd pr ins then 0 else 2))) := by
 unfold chkM
 have hlen : (ins.map encV).length = ins.length := List.length_map _
 by_cases hh : headOK rg sl nd pr ins
 ·rw [decide_eq_true hh,Bool.true_and]
  obtain ⟨h1,h2,h3,h4,h5⟩ := hh
  obtain ⟨jj,y2,y3,y6,y7,l1,hj⟩ := loop27 (fn := fn) (rg := rg) (sl := sl) (nd := nd) (pr := pr) (rs := rs) (ti := ti) (ins := ins) hn hus (.iv (.agg (encG fn rg sl nd pr rs ti ins))) (.tup []) (.iv (.bool false)) (.tup []) [] ins.length 0 (.tup []) (.tup []) (by omega)
  rw [show ((0 : Nat) : Int) = 0 from rfl] at l1
  rw [List.drop_zero] at hj
  have hix := ix_map (w := 8) (f := encV) encV_len (t := ti) (l := ins) (i := ((ins.length : Int) - 1)) (by omega)
  rw [show ((ins.length : Int) - 1).toNat = ins.length - 1 by omega,encV_eq] at hix
  unfold lastOK
  generalize ins.getD (ins.length - 1) default = x at *
  unfold encG at *
  have h5' : ¬ ((ins.length : Nat) : Int) = 0 := by omega
  rcases hj with ⟨rfl,rfl,hj⟩ | ⟨rfl,rfl,hj⟩
  ·rw [hj,Bool.not_false,Bool.true_and]
   rcases (by omega : x.op = 66 ∨ x.op = 68 ∨ x.op = 72 ∨ (x.op ≠ 66 ∧ x.op ≠ 68 ∧ x.op ≠ 72)) with h | h | h | ⟨ha,hb,hd⟩
   ·rw [decide_eq_true (.inl h),if_pos rfl]
    refine call_pure t27 rfl rfl ?_
    simp (config := { maxSteps := 4000000 }) (disch := omega) only [t27,go_sem,TM.undef,hlen,h5']
    rw [l1]
    simp (config := { maxSteps := 4000000 }) (disch := omega) only [go_sem,hlen,hix,wrap_i64]
   ·rw [decide_eq_true (.inr (.inl h)),if_pos rfl]
    refine call_pure t27 rfl rfl ?_
    simp (config := { maxSteps := 4000000 }) (disch := omega) only [t27,go_sem,TM.undef,hlen,h5']
    rw [l1]
    simp (config := { maxSteps := 4000000 }) (disch := omega) only [go_sem,hlen,hix,wrap_i64]
   ·rw [decide_eq_true (.inr (.inr h)),if_pos rfl]
    refine call_pure t27 rfl rfl ?_
    simp (config := { maxSteps := 4000000 }) (disch := omega) only [t27,go_sem,TM.undef,hlen,h5']
    rw [l1]
    simp (config := { maxSteps := 4000000 }) (disch := omega) only [go_sem,hlen,hix,wrap_i64]
   ·rw [decide_eq_false (by omega),if_neg (by decide)]
    refine call_pure t27 rfl rfl ?_
    simp (config := { maxSteps := 4000000 }) (disch := omega) only [t27,go_sem,TM.undef,hlen,h5']
    rw [l1]
    simp (config := { maxSteps := 4000000 }) (disch := omega) only [go_sem,hlen,hix,wrap_i64]
  ·rw [hj,Bool.not_true,Bool.false_and,if_neg (by decide)]
   refine call_pure t27 rfl rfl ?_
   simp (config := { maxSteps := 4000000 }) (disch := omega) only [t27,go_sem,TM.undef,hlen,h5']
   rw [l1]
   simp (config := { maxSteps := 4000000 }) (disch := omega) only [go_sem]
 ·rw [decide_eq_false hh,Bool.false_and,if_neg (by decide)]
  unfold headOK at hh
  refine call_pure t27 rfl rfl ?_
  unfold encG
  rcases (by omega : rg < 32 ∨ (32 ≤ rg ∧ nd < 0) ∨ (32 ≤ rg ∧ 0 ≤ nd ∧ sl < 0) ∨ (32 ≤ rg ∧ 0 ≤ nd ∧ 0 ≤ sl ∧ pr < 0) ∨ (32 ≤ rg ∧ 0 ≤ nd ∧ 0 ≤ sl ∧ 0 ≤ pr ∧ ins.length = 0)) with h | h | h | h | h
  ·simp (config := { maxSteps := 4000000 }) (disch := omega) only [t27,go_sem,TM.undef,hlen]
  ·simp (config := { maxSteps := 4000000 }) (disch := omega) only [t27,go_sem,TM.undef,hlen]
  ·simp (config := { maxSteps := 4000000 }) (disch := omega) only [t27,go_sem,TM.undef,hlen]
  ·simp (config := { maxSteps := 4000000 }) (disch := omega) only [t27,go_sem,TM.undef,hlen]
  ·have h0 : ((ins.length : Nat) : Int) = 0 := by omega
   simp (config := { maxSteps := 4000000 }) (disch := omega) only [t27,go_sem,TM.undef,hlen,h0]
structure OR (S : Store) (n : Nat) (ja : Nat → Nat) (R : Nat → List Int) : Prop where
 row : S[0]? = some (.cells 0 false (cF n fun i => acc (ja i) (oneI (R i))))
 tok : ∀ i,i < n → R i ≠ [] → S[ja i]? = some (.tok (R i).length 1 3)
 inj : ∀ i k,i < n → k < n → R i ≠ [] → R k ≠ [] → ja i = ja k → i = k
theorem oneI_nilx {l : List Int} : oneI l = [] ↔ l = [] := by
 constructor
 ·intro h
  have := oneI_len l
  rw [h] at this
  exact List.length_eq_zero_iff.1 this.symm
 ·rintro rfl; rfl
theorem oneI_snoc (l : List Int) (x : Int) : oneI l ++ [[.int .i64 x]] = oneI (l ++ [x]) := by simp [oneI,TM.one]
theorem OR.push {S : Store} {n : Nat} {ja : Nat → Nat} {R : Nat → List Int} (h : OR S n ja R) {i : Nat} (hi : i < n) (x : Int) (hl : (R i).length ≤ 100000) :
  ∃ (j' : Nat) (S1 : Store),appendOp false 1 8 3 S (acc (ja i) (oneI (R i))) (.iv (.sl .full [[.int .i64 x]])) = some (acc j' (oneI (R i ++ [x])),S1) ∧
   S1[0]? = some (.cells 0 false (cF n fun i => acc (ja i) (oneI (R i)))) ∧
   OR (S1.set 0 (.cells 0 false (cF n (upd (fun i => acc (ja i) (oneI (R i))) i (acc j' (oneI (R i ++ [x]))))))) n (upd ja i j') (upd R i (R i ++ [x])) := by
 have hat : At 1 3 (oneI (R i)) (ja i) S := fun h0 => by rw [oneI_len]; exact h.tok i hi (fun e => h0 (oneI_nilx.2 e))
 have ap := ap_g (b := 8) (c := [.int .i64 x]) (t := .full) hat ⟨rfl,rfl⟩ (oneI_el (R i)) (roomy_ok (by rw [oneI_len]; omega))
 rw [oneI_snoc] at ap
 have hrow := gS1_other hat h.row (by simp)
 have h0 := lt_get h.row
 have hne : ∀ k,k < n → R k ≠ [] → ja k ≠ 0 := fun k hk hr e => by
  have := h.tok k hk hr
  rw [e,h.row] at this
  cases this
 have hf : ∀ j',upd (fun i => acc (ja i) (oneI (R i))) i (acc j' (oneI (R i ++ [x]))) = fun k => acc (upd ja i j' k) (oneI (upd R i (R i ++ [x]) k)) := fun j' => by
  funext k
  unfold Proofs.YtehlgnfhkidgoaaDoor.upd
  split <;> simp_all
 refine ⟨_,_,ap,hrow,?_⟩
 rw [hf]
 unfold gI gS1 at *
 by_cases e : R i = []
 ·have e' : oneI (R i) = [] := oneI_nilx.2 e
  simp only [if_pos e'] at hrow ⊢
  refine ⟨by rw [get_setS (by simp)],fun k hk hr => ?_,fun a b ha hb hra hrb hab => ?_⟩
  ·by_cases ek : k = i
   ·subst ek
    rw [upd_same,upd_same,get_setN (by omega),e]
    simp
   ·rw [upd_ne _ _ ek] at hr
    rw [upd_ne _ _ ek,upd_ne _ _ ek,get_setN (Ne.symm (hne k hk hr))]
    exact get_appO (h.tok k hk hr) _
  ·by_cases ea : a = i
   ·by_cases eb : b = i
    ·rw [ea,eb]
    ·rw [ea,upd_same,upd_ne _ _ eb] at hab
     rw [upd_ne _ _ eb] at hrb
     have := lt_get (h.tok b hb hrb)
     omega
   ·by_cases eb : b = i
    ·rw [eb,upd_same,upd_ne _ _ ea] at hab
     rw [upd_ne _ _ ea] at hra
     have := lt_get (h.tok a ha hra)
     omega
    ·rw [upd_ne _ _ ea,upd_ne _ _ eb] at hab
     rw [upd_ne _ _ ea] at hra
     rw [upd_ne _ _ eb] at hrb
     exact h.inj a b ha hb hra hrb hab
 ·have e' : ¬ oneI (R i) = [] := fun q => e (oneI_nilx.1 q)
  simp only [if_neg e'] at hrow ⊢
  have hti := h.tok i hi e
  have hji := hne i hi e
  refine ⟨by rw [get_setS (by simpa using h0)],fun k hk hr => ?_,fun a b ha hb hra hrb hab => ?_⟩
  ·by_cases ek : k = i
   ·subst ek
    rw [upd_same,upd_same,get_setN (Ne.symm hji),get_setS (lt_get hti),oneI_len,List.length_append]
    rfl
   ·rw [upd_ne _ _ ek] at hr
    have hjk : ja i ≠ ja k := fun q => ek (h.inj i k hi hk e hr q).symm
    rw [upd_ne _ _ ek,upd_ne _ _ ek,get_setN (Ne.symm (hne k hk hr)),get_setN hjk]
    exact h.tok k hk hr
  ·have eR : ∀ k,k < n → upd R i (R i ++ [x]) k ≠ [] → R k ≠ [] := fun k hk hr => by
    by_cases ek : k = i
    ·rw [ek]; exact e
    ·rwa [upd_ne _ _ ek] at hr
   have eJ : ∀ k,upd ja i (ja i) k = ja k := fun k => by
    unfold Proofs.YtehlgnfhkidgoaaDoor.upd; split
    ·subst_vars; rfl
    ·rfl
   rw [eJ,eJ] at hab
   exact h.inj a b ha hb (eR a ha hra) (eR b hb hrb) hab
theorem ix_rowB {L : Nat → Bool} {n i : Nat} (h : i < n) : indexAddrS 1 (.iv (.sl .no (rowB L n))) (i : Int) = some (.iv (.cp [.bool (L i)])) := by
 refine ix_ok (by omega) ?_ rfl
 rw [Int.toNat_natCast]
 unfold rowB
 rw [List.getElem?_map,List.getElem?_range h]
 rfl
theorem rowB_len (L : Nat → Bool) (n : Nat) : (rowB L n).length = n := by simp [rowB]
theorem loop14a {n : Nat} (hn : n ≤ 1000000) (L : Nat → Bool) (r : Int) (x0 x1 x2 x3 x4 x9 x10 : TV) : ∀ (k i : Nat) (S : Store) (ja : Nat → Nat) (R : Nat → List Int) (x11 x12 : TV),i + k = n → OR S n ja R → (∀ j,i ≤ j → j < n → (R j).length ≤ 10000) →
  ∃ (S' : Store) (ja' : Nat → Nat) (R' : Nat → List Int) (y11 y12 : TV),lp' (lim K) t14L0 [x0,x1,x2,x3,x4,.msl 0 0 0 n n 1,.iv (.int .i64 r),.iv (.sl .no (rowB L n)),.iv (.int .i64 i),x9,x10,x11,x12] S
   = .ret (.exit 2,[x0,x1,x2,x3,x4,.msl 0 0 0 n n 1,.iv (.int .i64 r),.iv (.sl .no (rowB L n)),.iv (.int .i64 n),x9,x10,y11,y12],S') ∧ OR S' n ja' R' ∧ ∀ j,R' j = if i ≤ j ∧ j < n ∧ L j = true then R j ++ [r] else R j
 | 0,i,S,ja,R,x11,x12,h,hO,hl => by
  obtain rfl : i = n := by omega
  have hlen := rowB_len L i
  refine ⟨S,ja,R,.iv (.bool false),x12,loop_at K _ _ t14L0.eq_1 ?_,hO,fun j => by rw [if_neg (by omega)]⟩
  simp (config := { maxSteps := 4000000 }) (disch := omega) only [go_sem,hlen]
 | k + 1,i,S,ja,R,x11,x12,h,hO,hl => by
  have hla : i < n := by omega
  have hlen := rowB_len L n
  have hix := ix_rowB (L := L) hla
  have i1 := ix_RW (j := 0) (v := 0) (cap := n) hla
  have s1 : sub (cF n fun i => acc (ja i) (oneI (R i))) i 1 = some [acc (ja i) (oneI (R i))] := sub_cF _ hla
  have h0 := hO.row
  have hbb : i + 1 ≤ (cF n fun i => acc (ja i) (oneI (R i))).length := by rw [cF_len]; omega
  cases hLi : L i with
  | false =>
   rw [hLi] at hix
   obtain ⟨S',ja',R',y11,y12,ih,hO',hR'⟩ := loop14a hn L r x0 x1 x2 x3 x4 x9 x10 k (i + 1) S ja R (.iv (.bool true)) (.iv (.bool false)) (by omega) hO (fun j hj => hl j (by omega))
   rw [show ((i + 1 : Nat) : Int) = (i : Int) + 1 by omega] at ih
   refine ⟨S',ja',R',y11,y12,loop_at K _ _ t14L0.eq_1 ?_,hO',fun j => ?_⟩
   ·generalize rowB L n = RB at *
    simp (config := { maxSteps := 4000000 }) (disch := omega) only [go_sem,hlen,hix,wrap_i64]
    exact congrArg er ih
   ·rw [hR' j]
    by_cases e : j = i
    ·subst e; rw [if_neg (by omega),if_neg (by simp [hLi])]
    ·by_cases e2 : i + 1 ≤ j ∧ j < n ∧ L j = true
     ·rw [if_pos e2,if_pos ⟨by omega,e2.2⟩]
     ·rw [if_neg e2,if_neg (fun h => e2 ⟨by omega,h.2⟩)]
  | true =>
   rw [hLi] at hix
   obtain ⟨j',S1,ap,hrow,hO1⟩ := hO.push hla r (by have := hl i (Nat.le_refl _) hla; omega)
   have p1 := put_cF (fun i => acc (ja i) (oneI (R i))) (acc j' (oneI (R i ++ [r]))) hla
   obtain ⟨S',ja',R',y11,y12,ih,hO',hR'⟩ := loop14a hn L r x0 x1 x2 x3 x4 x9 x10 k (i + 1) _ _ _ (.iv (.bool true)) (.iv (.bool true)) (by omega) hO1 (fun j hj hjn => by
    rw [upd_ne _ _ (by omega)]; exact hl j (by omega) hjn)
   rw [show ((i + 1 : Nat) : Int) = (i : Int) + 1 by omega] at ih
   refine ⟨S',ja',R',y11,y12,loop_at K _ _ t14L0.eq_1 ?_,hO',fun j => ?_⟩
   ·generalize rowB L n = RB at *
    simp (config := { maxSteps := 4000000 }) (disch := omega) only [go_sem,hlen,hix,i1,h0,s1,ap,hrow,p1,hbb,wrap_i64]
    exact congrArg er ih
   ·rw [hR' j]
    by_cases e : j = i
    ·subst e; rw [if_neg (by omega),upd_same,if_pos ⟨Nat.le_refl _,hla,hLi⟩]
    ·rw [upd_ne _ _ e]
     by_cases e2 : i + 1 ≤ j ∧ j < n ∧ L j = true
     ·rw [if_pos e2,if_pos ⟨by omega,e2.2⟩]
     ·rw [if_neg e2,if_neg (fun h => e2 ⟨by omega,h.2⟩)]
structure LiveRow (ins : List VI) (r : Nat) (R : Nat → List Int) (j : Nat) : Prop where
 rise : (R j).Pairwise (· < ·)
 mem : ∀ x,x ∈ R j ↔ 1 ≤ x ∧ x < r ∧ LvR ins x j
 len : (R j).length + 1 ≤ r
theorem loop14b {fn sl nd pr : Int} {rg : Nat} {rs : Bool} {ti : Tag} {ins : List VI} (hn : ins.length ≤ 1000000) (hrg : rg ≤ 10000) (hus : ∀ x ∈ ins,x.us.length ≤ 1000000) (hbe : ∀ i,i < ins.length → ∀ k ∈ behM ins i,0 ≤ k ∧ k < ins.length) (x0 x2 x3 x4 x9 : TV) : ∀ (k r : Nat) (S : Store) (ja : Nat → Nat) (R : Nat → List Int) (x7 x8 x10 x11 x12 : TV),r + k = max rg 1 → 1 ≤ r → OR S ins.length ja R → (∀ j,j < ins.length → LiveRow ins r R j) →
  ∃ (S' : Store) (ja' : Nat → Nat) (R' : Nat → List Int) (y7 y8 y10 y11 y12 : TV),lp' (lim K) t14L1 [x0,.lb [.iv (.int .i64 fn),.iv (.int .i64 rg),.iv (.int .i64 sl),.iv (.int .i64 nd),.iv (.int .i64 pr),.iv (.bool rs),.iv (.sl ti (ins.map encV))],x2,x3,x4,.msl 0 0 0 ins.length ins.length 1,.iv (.int .i64 r),x7,x8,x9,x10,x11,x12] S
   = .ret (.exit 0,[x0,.lb [.iv (.int .i64 fn),.iv (.int .i64 rg),.iv (.int .i64 sl),.iv (.int .i64 nd),.iv (.int .i64 pr),.iv (.bool rs),.iv (.sl ti (ins.map encV))],x2,x3,x4,.msl 0 0 0 ins.length ins.length 1,.iv (.int .i64 (max rg 1 : Nat)),y7,y8,x9,y10,y11,y12],S') ∧ OR S' ins.length ja' R' ∧ ∀ j,j < ins.length → LiveRow ins (max rg 1) R' j
 | 0,r,S,ja,R,x7,x8,x10,x11,x12,h,h1,hO,hR => by
  obtain rfl : r = max rg 1 := by omega
  refine ⟨S,ja,R,x7,x8,.iv (.bool false),x11,x12,loop_at K _ _ t14L1.eq_1 ?_,hO,hR⟩
  simp (config := { maxSteps := 4000000 }) (disch := omega) only [go_sem]
 | k + 1,r,S,ja,R,x7,x8,x10,x11,x12,h,h1,hO,hR => by
  have hr : r < rg := by omega
  obtain ⟨L,c28,hL⟩ := call28 fn rg sl nd pr rs ti ins hn hus hbe (r : Int)
  obtain ⟨S1,ja1,R1,y11,y12,l1,hO1,hR1⟩ := loop14a hn L (r : Int) x0 (.lb [.iv (.int .i64 fn),.iv (.int .i64 rg),.iv (.int .i64 sl),.iv (.int .i64 nd),.iv (.int .i64 pr),.iv (.bool rs),.iv (.sl ti (ins.map encV))]) x2 x3 x4 x9 (.iv (.bool true)) ins.length 0 S ja R x11 x12 (by omega) hO (fun j _ hj => by have := (hR j hj).len; omega)
  rw [show ((0 : Nat) : Int) = 0 from rfl] at l1
  have hR2 : ∀ j,j < ins.length → LiveRow ins (r + 1) R1 j := fun j hj => by
   have a := hR j hj
   have e := hR1 j
   cases hb : L j with
   | true =>
    rw [if_pos ⟨Nat.zero_le _,hj,hb⟩] at e
    have hlv := (hL j hj).1 hb
    refine ⟨?_,fun x => ?_,?_⟩
    ·rw [e,List.pairwise_append]
     refine ⟨a.rise,List.pairwise_singleton _ _,fun p hp q hq => ?_⟩
     have := (a.mem p).1 hp
     rw [List.mem_singleton] at hq
     omega
    ·rw [e,List.mem_append,a.mem,List.mem_singleton]
     constructor
     ·rintro (⟨q1,q2,q3⟩ | rfl)
      ·exact ⟨q1,by omega,q3⟩
      ·exact ⟨by omega,by omega,hlv⟩
     ·rintro ⟨q1,q2,q3⟩
      by_cases q : x = r
      ·exact .inr q
      ·exact .inl ⟨q1,by omega,q3⟩
    ·rw [e,List.length_append]; have := a.len; simp; omega
   | false =>
    rw [if_neg (by simp [hb])] at e
    have hlv : ¬ LvR ins r j := fun q => by rw [(hL j hj).2 q] at hb; cases hb
    refine ⟨by rw [e]; exact a.rise,fun x => ?_,by rw [e]; have := a.len; omega⟩
    rw [e,a.mem]
    constructor
    ·rintro ⟨q1,q2,q3⟩; exact ⟨q1,by omega,q3⟩
    ·rintro ⟨q1,q2,q3⟩
     refine ⟨q1,?_,q3⟩
     by_cases q : x = r
     ·subst q; exact absurd q3 hlv
     ·omega
  obtain ⟨S',ja',R',y7,y8,y10,z11,z12,ih,hx⟩ := loop14b (fn := fn) (sl := sl) (nd := nd) (pr := pr) (rs := rs) (ti := ti) hn hrg hus hbe x0 x2 x3 x4 x9 k (r + 1) S1 ja1 R1 (.iv (.sl .no (rowB L ins.length))) (.iv (.int .i64 ins.length)) (.iv (.bool true)) y11 y12 (by omega) (by omega) hO1 hR2
  rw [show ((r + 1 : Nat) : Int) = (r : Int) + 1 by omega] at ih
  refine ⟨S',ja',R',y7,y8,y10,z11,z12,loop_at K _ _ t14L1.eq_1 ?_,hx⟩
  unfold encG at c28
  generalize rowB L ins.length = RB at *
  generalize ins.length = n at *
  simp (config := { maxSteps := 4000000 }) (disch := omega) only [go_sem,cpR_pure c28]
  rw [l1]
  simp (config := { maxSteps := 4000000 }) (disch := omega) only [go_sem,wrap_i64]
  exact congrArg er ih
def rowsN (R : Nat → List Int) (n : Nat) : List (List IV) := (List.range n).map fun i => [.sl (sTag (oneI (R i))) (oneI (R i))]
theorem toIV1_acc (j : Nat) (l : List (List IV)) : toIV1 (acc j l) = some (.sl (sTag l) l) := by cases l <;> rfl
theorem toIVs_acc (ja : Nat → Nat) (R : Nat → List Int) : ∀ l : List Nat,toIVs (l.map fun i => acc (ja i) (oneI (R i))) = some (l.map fun i => .sl (sTag (oneI (R i))) (oneI (R i)))
 | [] => rfl
 | a :: r => by simp only [List.map_cons,toIVs,toIV1_acc,toIVs_acc ja R r]
theorem resV_OR {S : Store} {n : Nat} {ja : Nat → Nat} {R : Nat → List Int} (h : OR S n ja R) (c : Nat) : TM.resV S (.msl 0 0 0 n c 1) = some (.sl .no (rowsN R n)) := by
 have e1 : sub (cF n fun i => acc (ja i) (oneI (R i))) 0 (n * 1) = some (cF n fun i => acc (ja i) (oneI (R i))) := sub_all (by rw [cF_len]; simp)
 have e2 := toIVs_acc ja R (List.range n)
 have e3 := chunks_one ((List.range n).map fun i => IV.sl (sTag (oneI (R i))) (oneI (R i)))
 rw [List.length_map,List.length_range,List.map_map] at e3
 have hr := h.row
 unfold cF at hr e1
 show (match elemsIV S (.msl 0 0 0 n c 1) with | some l => some (IV.sl .no l) | none => none) = _
 simp only [elemsIV,hr,ne_eq,not_true_eq_false,↓reduceIte,e1,e2,Option.map_some,e3]
 rfl
theorem acc_nilR (j : Nat) : acc j (oneI []) = .iv (.sl .nil []) := acc_nil j
theorem mkV_r {bytes m n : Nat} (hr : roomy n bytes = true) : mkV [.sl .nil []] bytes m (.iv (.int .i64 n)) (.iv (.int .i64 n)) = some (.msl m 0 0 n n 1,.cells 0 false (cF n fun i => acc 0 (oneI []))) := by
 rw [mkV_s hr]
 have : (fun q : Nat => if q < 0 then TV.msl 0 0 0 0 0 1 else .iv (.sl .nil [])) = fun _ => acc 0 (oneI []) := by funext q; rw [if_neg (Nat.not_lt_zero q),acc_nilR]
 rw [this]
theorem call14 (fn sl nd pr : Int) (rg : Nat) (rs : Bool) (ti : Tag) (ins : List VI) (hn : ins.length ≤ 1000000) (hrg : 1 ≤ rg ∧ rg ≤ 10000) (hus : ∀ x ∈ ins,x.us.length ≤ 1000000) (hbe : ∀ i,i < ins.length → ∀ k ∈ behM ins i,0 ≤ k ∧ k < ins.length) (hc : chkM rg sl nd pr ins = true) :
  ∃ R : Nat → List Int,TM.Pure K 14 [.iv (.agg (encG fn rg sl nd pr rs ti ins))] (.tup [.iv (.sl .no (rowsN R ins.length)),.iv (.int .i64 0)]) ∧ ∀ j,j < ins.length → LiveRow ins rg R j := by
 have c27 := call27 fn rg sl nd pr rs ti ins hn hus
 rw [hc,if_pos rfl] at c27
 have hO : OR [.cells 0 false (cF ins.length fun i => acc 0 (oneI []))] ins.length (fun _ => 0) (fun _ => []) := ⟨rfl,fun i _ h => absurd rfl h,fun i k _ _ h => absurd rfl h⟩
 obtain ⟨S',ja',R',y7,y8,y10,y11,y12,l1,hO',hR'⟩ := loop14b (fn := fn) (sl := sl) (nd := nd) (pr := pr) (rs := rs) (ti := ti) hn hrg.2 hus hbe (.iv (.agg (encG fn rg sl nd pr rs ti ins))) (.iv (.sl .nil [])) (.iv (.int .i64 0)) (.iv (.int .i64 0)) (.iv (.bool false)) (rg - 1) 1 _ _ _ (.tup []) (.tup []) (.tup []) (.tup []) (.tup []) (by omega) (Nat.le_refl _) hO (fun j hj => ⟨.nil,fun x => by simp; omega,by simp⟩)
 rw [show max rg 1 = rg by omega] at hR' l1
 rw [show ((1 : Nat) : Int) = 1 from rfl] at l1
 have hlen : (ins.map encV).length = ins.length := List.length_map _
 have hz := fun k => mkV_r (m := k) (bytes := 24) (roomy_ok (n := ins.length) (b := 24) (by omega))
 have hres : TM.resolve S' (.tup [.msl 0 0 0 ins.length ins.length 1,.iv (.int .i64 0)]) = some (.tup [.iv (.sl .no (rowsN R' ins.length)),.iv (.int .i64 0)]) := by
  rw [resolve_tup]
  simp only [resVs,resV_OR hO']
  rfl
 unfold encG at *
 refine ⟨R',TM.pure_ret (S := S') (r := .tup [.msl 0 0 0 ins.length ins.length 1,.iv (.int .i64 0)]) (call_ret' K _ (fn := t14) rfl rfl ?_) hres,hR'⟩
 generalize ins.length = n at *
 simp (config := { maxSteps := 4000000 }) (disch := omega) only [t14,go_sem,TM.undef,hlen,hz,cpR_pure c27]
 rw [l1]
 simp (config := { maxSteps := 4000000 }) (disch := omega) only [go_sem]
theorem not14 (fn rg sl nd pr : Int) (rs : Bool) (ti : Tag) (ins : List VI) (hn : ins.length ≤ 1000000) (hus : ∀ x ∈ ins,x.us.length ≤ 1000000) (hc : chkM rg sl nd pr ins = false) : TM.Pure K 14 [.iv (.agg (encG fn rg sl nd pr rs ti ins))] (.tup [.iv (.sl .nil []),.iv (.int .i64 2)]) := by
 have c27 := call27 fn rg sl nd pr rs ti ins hn hus
 rw [hc,if_neg (by decide)] at c27
 unfold encG at *
 refine call_pure t14 rfl rfl ?_
 simp (config := { maxSteps := 4000000 }) (disch := omega) only [t14,go_sem,TM.undef,cpR_pure c27]
def vF (tg : Nat → Tag) (Q : Nat → List Int) : Nat → TV := fun i => .iv (.sl (tg i) (TM.one (.int .i64) (Q i)))
theorem vF_upd (tg : Nat → Tag) (Q : Nat → List Int) (i : Nat) (t : Tag) (l : List Int) : upd (vF tg Q) i (.iv (.sl t (TM.one (.int .i64) l))) = vF (upd tg i t) (upd Q i l) := by
 funext j; simp only [vF,upd]; split <;> rfl
theorem ix_rowsN {R : Nat → List Int} {n i : Nat} (h : i < n) : indexAddrS 1 (.iv (.sl .no (rowsN R n))) (i : Int) = some (.iv (.cp [.sl (sTag (oneI (R i))) (TM.one (.int .i64) (R i))])) := by
 refine ix_ok (by omega) ?_ rfl
 rw [Int.toNat_natCast]
 unfold rowsN
 rw [List.getElem?_map,List.getElem?_range h]
 rfl
theorem upd_upd {α : Type} (f : Nat → α) (i : Nat) (a b : α) : upd (upd f i a) i b = upd f i b := by
 funext j; unfold upd; split <;> rfl
theorem loop16a {n : Nat} (hn : n ≤ 1000000) (R : Nat → List Int) {i q : Nat} (hi : i < n) (hq : q < n) (hR : (R q).length ≤ 1000) (tb : Tag) {l : List Int} {kk : Nat} (hkk : kk < l.length) (hlq : l.getD kk default = (q : Int)) (x0 x1 x2 x3 x5 x11 x12 x13 : TV) : ∀ (k j : Nat) (S : Store) (tg : Nat → Tag) (Q : Nat → List Int) (x14 : TV),j + k = (R q).length →
  S[0]? = some (.cells 0 false (cF n (vF tg Q))) → TagOk (tg i) (Q i) → (Q i).length ≤ 100000 + j →
  ∃ (S' : Store) (t' : Tag) (y14 : TV),lp' (lim K) t16L0 [x0,x1,x2,x3,.iv (.sl .no (rowsN R n)),x5,.msl 0 0 0 n n 1,.iv (.int .i64 i),.iv (.sl tb (TM.one (.int .i64) l)),.iv (.int .i64 kk),.iv (.int .i64 j),x11,x12,x13,x14] S
   = .ret (.exit 4,[x0,x1,x2,x3,.iv (.sl .no (rowsN R n)),x5,.msl 0 0 0 n n 1,.iv (.int .i64 i),.iv (.sl tb (TM.one (.int .i64) l)),.iv (.int .i64 kk),.iv (.int .i64 (R q).length),x11,x12,x13,y14],S') ∧
   S'[0]? = some (.cells 0 false (cF n (vF (upd tg i t') (upd Q i (((R q).drop j).foldl put1 (Q i)))))) ∧ TagOk t' (((R q).drop j).foldl put1 (Q i))
 | 0,j,S,tg,Q,x14,h,h0,ht,hl => by
  obtain rfl : j = (R q).length := by omega
  have hix := ix_one (f := IV.int .i64) (t := tb) (l := l) (i := (kk : Int)) (by omega)
  rw [Int.toNat_natCast,hlq] at hix
  have hiR := ix_rowsN (R := R) hq
  rw [List.drop_length,List.foldl_nil]
  refine ⟨S,tg i,.iv (.bool false),loop_at K _ _ t16L0.eq_1 ?_,?_,ht⟩
  ·generalize rowsN R n = RR at *
   simp (config := { maxSteps := 4000000 }) (disch := omega) only [go_sem,TM.one_length,hix,hiR]
  ·have e1 : upd tg i (tg i) = tg := by funext a; unfold upd; split <;> simp_all
   have e2 : upd Q i (Q i) = Q := by funext a; unfold upd; split <;> simp_all
   rw [e1,e2]; exact h0
 | k + 1,j,S,tg,Q,x14,h,h0,ht,hl => by
  have hla : j < (R q).length := by omega
  have hix := ix_one (f := IV.int .i64) (t := tb) (l := l) (i := (kk : Int)) (by omega)
  rw [Int.toNat_natCast,hlq] at hix
  have hiR := ix_rowsN (R := R) hq
  have hij := ix_one (f := IV.int .i64) (t := sTag (oneI (R q))) (l := R q) (i := (j : Int)) (by omega)
  rw [Int.toNat_natCast] at hij
  have i1 := ix_RW (j := 0) (v := 0) (cap := n) hi
  have s1 : sub (cF n (vF tg Q)) i 1 = some [.iv (.sl (tg i) (TM.one (.int .i64) (Q i)))] := sub_cF _ hi
  have hbb : i + 1 ≤ (cF n (vF tg Q)).length := by rw [cF_len]; omega
  obtain ⟨t1,ht1,c24⟩ := call24 (tg i) (Q i) ((R q).getD j default) ht (by omega)
  have p1 := put_cF (vF tg Q) (.iv (.sl t1 (TM.one (.int .i64) (put1 (Q i) ((R q).getD j default))))) hi
  rw [vF_upd] at p1
  have hpl := put1_len (Q i) ((R q).getD j default)
  have hlt := lt_get h0
  obtain ⟨S',t',y14,ih,h0',ht'⟩ := loop16a hn R hi hq hR tb hkk hlq x0 x1 x2 x3 x5 x11 x12 x13 k (j + 1) (S.set 0 (.cells 0 false (cF n (vF (upd tg i t1) (upd Q i (put1 (Q i) ((R q).getD j default))))))) _ _ (.iv (.bool true)) (by omega) (get_setS hlt _) (by rw [upd_same,upd_same]; exact ht1) (by rw [upd_same]; omega)
  rw [upd_same,upd_upd,upd_upd] at h0'
  rw [upd_same] at ht'
  rw [show ((j + 1 : Nat) : Int) = (j : Int) + 1 by omega] at ih
  rw [drop_get hla,List.foldl_cons]
  refine ⟨S',t',y14,loop_at K _ _ t16L0.eq_1 ?_,h0',ht'⟩
  generalize put1 (Q i) ((R q).getD j default) = P at *
  generalize (R q).getD j default = v at *
  generalize rowsN R n = RR at *
  simp (config := { maxSteps := 4000000 }) (disch := omega) only [go_sem,TM.one_length,hix,hiR,hij,i1,h0,s1,cpR_pure c24,p1,hbb,wrap_i64]
  exact congrArg er ih
def catR (R : Nat → List Int) (l : List Int) : List Int := l.flatMap fun q => R q.toNat
theorem loop16b {n : Nat} (hn : n ≤ 1000000) (R : Nat → List Int) {i : Nat} (hi : i < n) (hR : ∀ q,q < n → (R q).length ≤ 1000) (tb : Tag) {l : List Int} (hl : l.length ≤ 20) (hin : ∀ x ∈ l,0 ≤ x ∧ x < n) (x0 x1 x2 x3 x5 x11 x12 : TV) : ∀ (k kk : Nat) (S : Store) (tg : Nat → Tag) (Q : Nat → List Int) (x10 x13 x14 : TV),kk + k = l.length →
  S[0]? = some (.cells 0 false (cF n (vF tg Q))) → TagOk (tg i) (Q i) → (Q i).length ≤ 1000 * kk →
  ∃ (S' : Store) (t' : Tag) (y10 y13 y14 : TV),lp' (lim K) t16L1 [x0,x1,x2,x3,.iv (.sl .no (rowsN R n)),x5,.msl 0 0 0 n n 1,.iv (.int .i64 i),.iv (.sl tb (TM.one (.int .i64) l)),.iv (.int .i64 kk),x10,x11,x12,x13,x14] S
   = .ret (.exit 2,[x0,x1,x2,x3,.iv (.sl .no (rowsN R n)),x5,.msl 0 0 0 n n 1,.iv (.int .i64 i),.iv (.sl tb (TM.one (.int .i64) l)),.iv (.int .i64 l.length),y10,x11,x12,y13,y14],S') ∧
   S'[0]? = some (.cells 0 false (cF n (vF (upd tg i t') (upd Q i ((catR R (l.drop kk)).foldl put1 (Q i)))))) ∧ TagOk t' ((catR R (l.drop kk)).foldl put1 (Q i))
 | 0,kk,S,tg,Q,x10,x13,x14,h,h0,ht,hQ => by
  obtain rfl : kk = l.length := by omega
  rw [List.drop_length,show catR R [] = [] from rfl,List.foldl_nil]
  refine ⟨S,tg i,x10,.iv (.bool false),x14,loop_at K _ _ t16L1.eq_1 ?_,?_,ht⟩
  ·simp (config := { maxSteps := 4000000 }) (disch := omega) only [go_sem,TM.one_length]
  ·have e1 : upd tg i (tg i) = tg := by funext a; unfold upd; split <;> simp_all
   have e2 : upd Q i (Q i) = Q := by funext a; unfold upd; split <;> simp_all
   rw [e1,e2]; exact h0
 | k + 1,kk,S,tg,Q,x10,x13,x14,h,h0,ht,hQ => by
  have hla : kk < l.length := by omega
  obtain ⟨q0,q1⟩ := hin (l.getD kk default) (by simp only [List.getD,List.getElem?_eq_getElem hla,Option.getD_some]; exact List.getElem_mem _)
  obtain ⟨q,hq⟩ := Int.eq_ofNat_of_zero_le q0
  have hqn : q < n := by omega
  have hRq := hR q hqn
  obtain ⟨S1,t1,y14,l1,h1,ht1⟩ := loop16a hn R hi hqn hRq tb hla hq x0 x1 x2 x3 x5 x11 x12 (.iv (.bool true)) (R q).length 0 S tg Q x14 (by omega) h0 ht (by omega)
  rw [show ((0 : Nat) : Int) = 0 from rfl] at l1
  rw [List.drop_zero] at h1 ht1
  have hfl := fold_len (R q) (Q i)
  obtain ⟨S',t',z10,z13,z14,ih,h0',ht'⟩ := loop16b hn R hi hR tb hl hin x0 x1 x2 x3 x5 x11 x12 k (kk + 1) S1 _ _ (.iv (.int .i64 (R q).length)) (.iv (.bool true)) y14 (by omega) h1 (by rw [upd_same,upd_same]; exact ht1) (by rw [upd_same]; omega)
  rw [upd_same,upd_upd,upd_upd] at h0'
  rw [upd_same] at ht'
  rw [show ((kk + 1 : Nat) : Int) = (kk : Int) + 1 by omega] at ih
  have hcat : catR R (l.drop kk) = R q ++ catR R (l.drop (kk + 1)) := by
   rw [drop_get hla,hq]
   simp [catR]
  rw [hcat,List.foldl_append]
  refine ⟨S',t',z10,z13,z14,loop_at K _ _ t16L1.eq_1 ?_,h0',ht'⟩
  simp (config := { maxSteps := 4000000 }) (disch := omega) only [go_sem,TM.one_length]
  rw [l1]
  simp (config := { maxSteps := 4000000 }) (disch := omega) only [go_sem,wrap_i64]
  exact congrArg er ih
def outR (ins : List VI) (R : Nat → List Int) (j : Nat) : List Int := tdy (catR R (behM ins j))
theorem behM_len (ins : List VI) (i : Nat) : (behM ins i).length ≤ 2 := by
 unfold behM; split
 ·simp
 ·split <;> split <;> simp
theorem loop16c {fn rg sl nd pr : Int} {rs : Bool} {ti : Tag} {ins : List VI} (hn : ins.length ≤ 1000000) (R : Nat → List Int) (hR : ∀ q,q < ins.length → (R q).length ≤ 1000) (hbe : ∀ i,i < ins.length → ∀ k ∈ behM ins i,0 ≤ k ∧ k < ins.length) (x0 x2 x3 x5 x11 : TV) : ∀ (k i : Nat) (S : Store) (tg : Nat → Tag) (Q : Nat → List Int) (x8 x9 x10 x12 x13 x14 : TV),i + k = ins.length →
  S[0]? = some (.cells 0 false (cF ins.length (vF tg Q))) → (∀ j,i ≤ j → j < ins.length → Q j = []) → (∀ j,j < i → Q j = outR ins R j) →
  ∃ (S' : Store) (tg' : Nat → Tag) (Q' : Nat → List Int) (y8 y9 y10 y12 y13 y14 : TV),lp' (lim K) t16L2 [x0,.lb [.iv (.int .i64 fn),.iv (.int .i64 rg),.iv (.int .i64 sl),.iv (.int .i64 nd),.iv (.int .i64 pr),.iv (.bool rs),.iv (.sl ti (ins.map encV))],x2,x3,.iv (.sl .no (rowsN R ins.length)),x5,.msl 0 0 0 ins.length ins.length 1,.iv (.int .i64 i),x8,x9,x10,x11,x12,x13,x14] S
   = .ret (.exit 0,[x0,.lb [.iv (.int .i64 fn),.iv (.int .i64 rg),.iv (.int .i64 sl),.iv (.int .i64 nd),.iv (.int .i64 pr),.iv (.bool rs),.iv (.sl ti (ins.map encV))],x2,x3,.iv (.sl .no (rowsN R ins.length)),x5,.msl 0 0 0 ins.length ins.length 1,.iv (.int .i64 ins.length),y8,y9,y10,x11,y12,y13,y14],S') ∧
   S'[0]? = some (.cells 0 false (cF ins.length (vF tg' Q'))) ∧ ∀ j,j < ins.length → Q' j = outR ins R j
 | 0,i,S,tg,Q,x8,x9,x10,x12,x13,x14,h,h0,hz,hd => by
  obtain rfl : i = ins.length := by omega
  have hlen : (ins.map encV).length = ins.length := List.length_map _
  refine ⟨S,tg,Q,x8,x9,x10,.iv (.bool false),x13,x14,loop_at K _ _ t16L2.eq_1 ?_,h0,fun j hj => hd j hj⟩
  simp (config := { maxSteps := 4000000 }) (disch := omega) only [go_sem,hlen]
 | k + 1,i,S,tg,Q,x8,x9,x10,x12,x13,x14,h,h0,hz,hd => by
  have hla : i < ins.length := by omega
  have hlen : (ins.map encV).length = ins.length := List.length_map _
  have hQ := hz i (Nat.le_refl _) hla
  obtain ⟨tb,c29⟩ := call29 fn rg sl nd pr rs ti ins hn hla
  have hbl := behM_len ins i
  obtain ⟨S1,t1,y10,y13,y14,l1,h1,ht1⟩ := loop16b hn R hla hR tb (l := behM ins i) (by omega) (hbe i hla) x0 (.lb [.iv (.int .i64 fn),.iv (.int .i64 rg),.iv (.int .i64 sl),.iv (.int .i64 nd),.iv (.int .i64 pr),.iv (.bool rs),.iv (.sl ti (ins.map encV))]) x2 x3 x5 x11 (.iv (.bool true)) (behM ins i).length 0 S tg Q x10 x13 x14 (by omega) h0 (by rw [hQ]; exact fun _ => rfl) (by rw [hQ]; simp)
  rw [show ((0 : Nat) : Int) = 0 from rfl] at l1
  rw [List.drop_zero,hQ,show (catR R (behM ins i)).foldl put1 [] = outR ins R i from rfl] at h1
  obtain ⟨S',tg',Q',y8,y9,z10,y12,z13,z14,ih,hx⟩ := loop16c (fn := fn) (rg := rg) (sl := sl) (nd := nd) (pr := pr) (rs := rs) (ti := ti) hn R hR hbe x0 x2 x3 x5 x11 k (i + 1) S1 _ _ (.iv (.sl tb (TM.one (.int .i64) (behM ins i)))) (.iv (.int .i64 (behM ins i).length)) y10 (.iv (.bool true)) y13 y14 (by omega) h1 (fun j h2 h3 => by rw [upd_ne _ _ (by omega)]; exact hz j (by omega) h3) (fun j hj => by
   by_cases e : j = i
   ·subst e; rw [upd_same]
   ·rw [upd_ne _ _ e]; exact hd j (by omega))
  rw [show ((i + 1 : Nat) : Int) = (i : Int) + 1 by omega] at ih
  refine ⟨S',tg',Q',y8,y9,z10,y12,z13,z14,loop_at K _ _ t16L2.eq_1 ?_,hx⟩
  unfold encG at c29
  generalize behM ins i = bl at *
  generalize rowsN R ins.length = RR at *
  generalize ins.length = n at *
  simp (config := { maxSteps := 4000000 }) (disch := omega) only [go_sem,hlen,cpR_pure c29]
  rw [l1]
  simp (config := { maxSteps := 4000000 }) (disch := omega) only [go_sem,wrap_i64]
  exact congrArg er ih
def rowsT (tg : Nat → Tag) (Q : Nat → List Int) (n : Nat) : List (List IV) := (List.range n).map fun i => [.sl (tg i) (TM.one (.int .i64) (Q i))]
theorem resV_vF {S : Store} {n : Nat} {tg : Nat → Tag} {Q : Nat → List Int} (h : S[0]? = some (.cells 0 false (cF n (vF tg Q)))) (c : Nat) : TM.resV S (.msl 0 0 0 n c 1) = some (.sl .no (rowsT tg Q n)) := by
 have e1 : sub (cF n (vF tg Q)) 0 (n * 1) = some (cF n (vF tg Q)) := sub_all (by rw [cF_len]; simp)
 have e2 : toIVs (cF n (vF tg Q)) = some ((List.range n).map fun i => IV.sl (tg i) (TM.one (.int .i64) (Q i))) := by
  have : cF n (vF tg Q) = ((List.range n).map fun i => IV.sl (tg i) (TM.one (.int .i64) (Q i))).map .iv := by rw [List.map_map]; rfl
  rw [this,toIVs_ivs]
 have e3 := chunks_one ((List.range n).map fun i => IV.sl (tg i) (TM.one (.int .i64) (Q i)))
 rw [List.length_map,List.length_range,List.map_map] at e3
 show (match elemsIV S (.msl 0 0 0 n c 1) with | some l => some (IV.sl .no l) | none => none) = _
 simp only [elemsIV,h,ne_eq,not_true_eq_false,↓reduceIte,e1,e2,Option.map_some,e3]
 rfl
theorem mkV_v {bytes m n : Nat} (hr : roomy n bytes = true) : mkV [.sl .nil []] bytes m (.iv (.int .i64 n)) (.iv (.int .i64 n)) = some (.msl m 0 0 n n 1,.cells 0 false (cF n (vF (fun _ => .nil) fun _ => []))) := by
 rw [mkV_s hr]
 have : (fun q : Nat => if q < 0 then TV.msl 0 0 0 0 0 1 else .iv (.sl .nil [])) = vF (fun _ => .nil) fun _ => [] := by funext q; rw [if_neg (Nat.not_lt_zero q)]; rfl
 rw [this]
theorem call16 (fn sl nd pr : Int) (rg : Nat) (rs : Bool) (ti : Tag) (ins : List VI) (hn : ins.length ≤ 1000000) (hrg : 1 ≤ rg ∧ rg ≤ 1000) (hus : ∀ x ∈ ins,x.us.length ≤ 1000000) (hbe : ∀ i,i < ins.length → ∀ k ∈ behM ins i,0 ≤ k ∧ k < ins.length) (hc : chkM rg sl nd pr ins = true) :
  ∃ (R : Nat → List Int) (tg : Nat → Tag) (Q : Nat → List Int),TM.Pure K 16 [.iv (.agg (encG fn rg sl nd pr rs ti ins))] (.tup [.iv (.sl .no (rowsT tg Q ins.length)),.iv (.int .i64 0)]) ∧ (∀ j,j < ins.length → LiveRow ins rg R j) ∧ ∀ j,j < ins.length → Q j = outR ins R j := by
 obtain ⟨R,c14,hR⟩ := call14 fn sl nd pr rg rs ti ins hn ⟨hrg.1,by omega⟩ hus hbe hc
 obtain ⟨S',tg',Q',y8,y9,y10,y12,y13,y14,l1,h1,hQ⟩ := loop16c (fn := fn) (rg := rg) (sl := sl) (nd := nd) (pr := pr) (rs := rs) (ti := ti) hn R (fun q hq => by have := (hR q hq).len; omega) hbe (.iv (.agg (encG fn rg sl nd pr rs ti ins))) (.iv (.sl .nil [])) (.iv (.int .i64 0)) (.iv (.int .i64 0)) (.iv (.bool false)) ins.length 0 [.cells 0 false (cF ins.length (vF (fun _ => .nil) fun _ => []))] (fun _ => .nil) (fun _ => []) (.tup []) (.tup []) (.tup []) (.tup []) (.tup []) (.tup []) (by omega) rfl (fun _ _ _ => rfl) (fun j hj => by omega)
 rw [show ((0 : Nat) : Int) = 0 from rfl] at l1
 have hlen : (ins.map encV).length = ins.length := List.length_map _
 have hz := fun k => mkV_v (m := k) (bytes := 24) (roomy_ok (n := ins.length) (b := 24) (by omega))
 have hres : TM.resolve S' (.tup [.msl 0 0 0 ins.length ins.length 1,.iv (.int .i64 0)]) = some (.tup [.iv (.sl .no (rowsT tg' Q' ins.length)),.iv (.int .i64 0)]) := by
  rw [resolve_tup]
  simp only [resVs,resV_vF h1]
  rfl
 unfold encG at *
 refine ⟨R,tg',Q',TM.pure_ret (S := S') (r := .tup [.msl 0 0 0 ins.length ins.length 1,.iv (.int .i64 0)]) (call_ret' K _ (fn := t16) rfl rfl ?_) hres,hR,hQ⟩
 generalize rowsN R ins.length = RR at *
 generalize ins.length = n at *
 simp (config := { maxSteps := 4000000 }) (disch := omega) only [t16,go_sem,TM.undef,hlen,hz,cpR_pure c14]
 rw [l1]
 simp (config := { maxSteps := 4000000 }) (disch := omega) only [go_sem]
theorem not16 (fn rg sl nd pr : Int) (rs : Bool) (ti : Tag) (ins : List VI) (hn : ins.length ≤ 1000000) (hus : ∀ x ∈ ins,x.us.length ≤ 1000000) (hc : chkM rg sl nd pr ins = false) : TM.Pure K 16 [.iv (.agg (encG fn rg sl nd pr rs ti ins))] (.tup [.iv (.sl .nil []),.iv (.int .i64 2)]) := by
 have c14 := not14 fn rg sl nd pr rs ti ins hn hus hc
 unfold encG at *
 refine call_pure t16 rfl rfl ?_
 simp (config := { maxSteps := 4000000 }) (disch := omega) only [t16,go_sem,TM.undef,cpR_pure c14]
theorem loop8 (t t' : Tag) {l : List Int} (hl : l.length ≤ 1000000) (x2 x4 : TV) (S : Store) : ∀ (k i : Nat) (x5 x6 : TV),i + k = l.length →
  ∃ (y5 y6 : TV),lp' (lim K) t8L0 [.iv (.sl t (TM.one (.int .i64) l)),.iv (.sl t' (TM.one (.int .i64) l)),x2,.iv (.int .i64 i),x4,x5,x6] S
   = .ret (.exit 0,[.iv (.sl t (TM.one (.int .i64) l)),.iv (.sl t' (TM.one (.int .i64) l)),x2,.iv (.int .i64 l.length),x4,y5,y6],S)
 | 0,i,x5,x6,h => by
  obtain rfl : i = l.length := by omega
  refine ⟨.iv (.bool false),x6,loop_at K _ _ t8L0.eq_1 ?_⟩
  simp (config := { maxSteps := 4000000 }) (disch := omega) only [go_sem,TM.one_length]
 | k + 1,i,x5,x6,h => by
  have hla : i < l.length := by omega
  have h1 := ix_one (f := IV.int .i64) (t := t) (l := l) (i := (i : Int)) (by omega)
  have h2 := ix_one (f := IV.int .i64) (t := t') (l := l) (i := (i : Int)) (by omega)
  rw [Int.toNat_natCast] at h1 h2
  obtain ⟨y5,y6,ih⟩ := loop8 t t' hl x2 x4 S k (i + 1) (.iv (.bool true)) (.iv (.bool false)) (by omega)
  rw [show ((i + 1 : Nat) : Int) = (i : Int) + 1 by omega] at ih
  generalize l.getD i default = v at *
  refine ⟨y5,y6,loop_at K _ _ t8L0.eq_1 ?_⟩
  simp (config := { maxSteps := 4000000 }) (disch := omega) only [go_sem,TM.one_length,h1,h2,wrap_i64]
  exact congrArg er ih
theorem call8 (t t' : Tag) {l : List Int} (hl : l.length ≤ 1000000) : TM.Pure K 8 [.iv (.sl t (TM.one (.int .i64) l)),.iv (.sl t' (TM.one (.int .i64) l))] (.iv (.bool true)) := by
 obtain ⟨y5,y6,l1⟩ := loop8 t t' hl (.iv (.bool false)) (.iv (.bool false)) [] l.length 0 (.tup []) (.tup []) (by omega)
 rw [show ((0 : Nat) : Int) = 0 from rfl] at l1
 refine call_pure t8 rfl rfl ?_
 simp (config := { maxSteps := 4000000 }) (disch := omega) only [t8,go_sem,TM.undef,TM.one_length]
 rw [l1]
 simp (config := { maxSteps := 4000000 }) (disch := omega) only [go_sem]
theorem ix_rowsT {tg : Nat → Tag} {R : Nat → List Int} {n i : Nat} (h : i < n) (t : Tag) : indexAddrS 1 (.iv (.sl t (rowsT tg R n))) (i : Int) = some (.iv (.cp [.sl (tg i) (TM.one (.int .i64) (R i))])) := by
 refine ix_ok (by omega) ?_ rfl
 rw [Int.toNat_natCast]
 unfold rowsT
 rw [List.getElem?_map,List.getElem?_range h]
 rfl
theorem rowsT_len (tg : Nat → Tag) (R : Nat → List Int) (n : Nat) : (rowsT tg R n).length = n := by simp [rowsT]
theorem loop17 (ta tb : Tag) {n : Nat} (hn : n ≤ 1000000) {tg tg' : Nat → Tag} {Q Q' : Nat → List Int} (hQ : ∀ i,i < n → Q i = Q' i) (hl : ∀ i,i < n → (Q i).length ≤ 1000000) (x2 x4 : TV) (S : Store) : ∀ (k i : Nat) (x5 x6 : TV),i + k = n →
  ∃ (y5 y6 : TV),lp' (lim K) t17L0 [.iv (.sl ta (rowsT tg Q n)),.iv (.sl tb (rowsT tg' Q' n)),x2,.iv (.int .i64 i),x4,x5,x6] S
   = .ret (.exit 0,[.iv (.sl ta (rowsT tg Q n)),.iv (.sl tb (rowsT tg' Q' n)),x2,.iv (.int .i64 n),x4,y5,y6],S)
 | 0,i,x5,x6,h => by
  obtain rfl : i = n := by omega
  have l1 := rowsT_len tg Q i
  refine ⟨.iv (.bool false),x6,loop_at K _ _ t17L0.eq_1 ?_⟩
  simp (config := { maxSteps := 4000000 }) (disch := omega) only [go_sem,l1]
 | k + 1,i,x5,x6,h => by
  have hla : i < n := by omega
  have l1 := rowsT_len tg Q n
  have h1 := ix_rowsT (tg := tg) (R := Q) hla ta
  have h2 := ix_rowsT (tg := tg') (R := Q') hla tb
  have c8 := call8 (tg i) (tg' i) (hl i hla)
  rw [← hQ i hla] at h2
  obtain ⟨y5,y6,ih⟩ := loop17 ta tb hn hQ hl (tg := tg) (tg' := tg') x2 x4 S k (i + 1) (.iv (.bool true)) (.iv (.bool false)) (by omega)
  rw [show ((i + 1 : Nat) : Int) = (i : Int) + 1 by omega] at ih
  generalize rowsT tg Q n = RA at *
  generalize rowsT tg' Q' n = RB at *
  refine ⟨y5,y6,loop_at K _ _ t17L0.eq_1 ?_⟩
  simp (config := { maxSteps := 4000000 }) (disch := omega) only [go_sem,l1,h1,h2,cpR_pure c8,wrap_i64]
  exact congrArg er ih
theorem call17 (ta tb : Tag) {n : Nat} (hn : n ≤ 1000000) {tg tg' : Nat → Tag} {Q Q' : Nat → List Int} (hQ : ∀ i,i < n → Q i = Q' i) (hl : ∀ i,i < n → (Q i).length ≤ 1000000) : TM.Pure K 17 [.iv (.sl ta (rowsT tg Q n)),.iv (.sl tb (rowsT tg' Q' n))] (.iv (.bool true)) := by
 obtain ⟨y5,y6,lo⟩ := loop17 ta tb hn hQ hl (tg := tg) (tg' := tg') (.iv (.bool false)) (.iv (.bool false)) [] n 0 (.tup []) (.tup []) (by omega)
 rw [show ((0 : Nat) : Int) = 0 from rfl] at lo
 have l1 := rowsT_len tg Q n
 have l2 := rowsT_len tg' Q' n
 generalize rowsT tg Q n = RA at *
 generalize rowsT tg' Q' n = RB at *
 refine call_pure t17 rfl rfl ?_
 simp (config := { maxSteps := 4000000 }) (disch := omega) only [t17,go_sem,TM.undef,l1,l2]
 rw [lo]
 simp (config := { maxSteps := 4000000 }) (disch := omega) only [go_sem]
theorem usesM_posx {v : VI} {x : Int} (h : x ∈ usesM v) : 0 < x := by
 unfold usesM at h
 repeat' split at h
 all_goals first | exact tdy_pos h | cases h
theorem bhd_beh {lb : List (Nat × Int × Int)} {ins : List VI} (h1 : ∀ L,getR lb L = firstL ins L) {i : Nat} (hg : (26 ≤ (ins.getD i default).op ∧ (ins.getD i default).op ≤ 31) ∨ (ins.getD i default).op = 66 → ∃ q : Nat,firstL ins (ins.getD i default).lb = some (q : Int) ∧ q < ins.length) : bhd lb ins i = (behM ins i).map Int.toNat := by
 unfold bhd behM
 split
 ·rfl
 ·rw [List.map_append]
  congr 1
  ·split
   ·rename_i h
    obtain ⟨q,hq,_⟩ := hg h
    unfold cntR
    rw [h1,hq]
    rfl
   ·rfl
  ·split
   ·rfl
   ·rfl
theorem beh_in {ins : List VI} {i : Nat} (hg : (26 ≤ (ins.getD i default).op ∧ (ins.getD i default).op ≤ 31) ∨ (ins.getD i default).op = 66 → ∃ q : Nat,firstL ins (ins.getD i default).lb = some (q : Int) ∧ q < ins.length) : ∀ k ∈ behM ins i,0 ≤ k ∧ k < ins.length := by
 intro k hk
 unfold behM at hk
 split at hk
 ·cases hk
 ·rw [List.mem_append] at hk
  rcases hk with hk | hk
  ·split at hk
   ·rename_i h
    obtain ⟨q,hq,hl⟩ := hg h
    rw [hq,Option.getD_some,List.mem_singleton] at hk
    omega
   ·cases hk
  ·split at hk
   ·rename_i h
    rw [List.mem_singleton] at hk
    omega
   ·cases hk
section
variable {rg : Nat} {lb : List (Nat × Int × Int)} {ins : List VI} {I O U D : Nat → List Nat} (hbd : ∀ i,i < ins.length → bhd lb ins i = (behM ins i).map Int.toNat) (hbe : ∀ i,i < ins.length → ∀ k ∈ behM ins i,0 ≤ k ∧ k < ins.length) (h2 : ∀ j r,j < ins.length → (bit (U j) r = true ↔ (r : Int) ∈ usesM (ins.getD j default) ∧ r < rg)) (h3 : ∀ j r,j < ins.length → (bit (D j) r = true ↔ (r : Int) ∈ defsM (ins.getD j default) ∧ r < rg))
include hbd hbe h2 h3
theorem lv_to {r i : Nat} (h : Lv lb ins U D r i) : i < ins.length → LvR ins r i ∧ 0 < r ∧ r < rg := by
 induction h with
 | use h =>
  intro hi
  obtain ⟨a,b⟩ := (h2 _ r hi).1 h
  have := usesM_posx a
  exact ⟨.use a,by omega,b⟩
 | step hk h hd ih =>
  intro hi
  rw [hbd _ hi,List.mem_map] at hk
  obtain ⟨z,hz,rfl⟩ := hk
  have hzz := hbe _ hi z hz
  obtain ⟨a,b,c⟩ := ih (by omega)
  refine ⟨.step hz a fun hm => ?_,b,c⟩
  rw [(h3 _ r hi).2 ⟨hm,c⟩] at hd
  cases hd
theorem lv_from (h4 : ∀ j,j < ins.length → (∀ r,bit (I j) r = eqn lb ins U D I j r) ∧ ∀ r,bit (O j) r = anyB lb ins I j r) {r : Int} {i : Nat} (h : LvR ins r i) (hr : r < rg) : i < ins.length → 0 ≤ r ∧ bit (I i) r.toNat = true := by
 induction h with
 | use h =>
  intro hi
  have hp := usesM_posx h
  refine ⟨by omega,?_⟩
  rw [(h4 _ hi).1,eqn,(h2 _ r.toNat hi).2 ⟨by rw [Int.toNat_of_nonneg (by omega)]; exact h,by omega⟩,Bool.true_or]
 | @step jj kk hk h hd ih =>
  intro hi
  have hkk := hbe _ hi _ hk
  obtain ⟨h0,hb⟩ := ih (by omega)
  refine ⟨h0,?_⟩
  have hdf : bit (D jj) r.toNat = false := by
   cases e : bit (D jj) r.toNat with
   | false => rfl
   | true =>
    have := ((h3 _ r.toNat hi).1 e).1
    rw [Int.toNat_of_nonneg h0] at this
    exact absurd this hd
  rw [(h4 _ hi).1,eqn,hdf,Bool.not_false,Bool.and_true,Bool.or_eq_true]
  right
  unfold anyB
  rw [hbd _ hi]
  exact List.any_eq_true.2 ⟨_,List.mem_map.2 ⟨_,hk,rfl⟩,hb⟩
theorem in_same (hG : Grow lb ins U D I) (h4 : ∀ j,j < ins.length → (∀ r,bit (I j) r = eqn lb ins U D I j r) ∧ ∀ r,bit (O j) r = anyB lb ins I j r) {R : Nat → List Int} (hR : ∀ j,j < ins.length → LiveRow ins rg R j) {j : Nat} (hj : j < ins.length) : wlI 0 (I j) = R j := by
 refine rise_unique (wlI_pair 0 (I j)) (hR j hj).rise fun x => ?_
 rw [wl_mem,(hR j hj).mem]
 constructor
 ·rintro ⟨k,rfl,hb⟩
  obtain ⟨a,b,c⟩ := lv_to hbd hbe h2 h3 (hG.snd j k hb) hj
  exact ⟨by omega,by omega,a⟩
 ·rintro ⟨a,b,c⟩
  obtain ⟨d,e⟩ := lv_from hbd hbe h2 h3 h4 c b hj
  exact ⟨x.toNat,by omega,e⟩
theorem out_same (hG : Grow lb ins U D I) (h4 : ∀ j,j < ins.length → (∀ r,bit (I j) r = eqn lb ins U D I j r) ∧ ∀ r,bit (O j) r = anyB lb ins I j r) {R : Nat → List Int} (hR : ∀ j,j < ins.length → LiveRow ins rg R j) {j : Nat} (hj : j < ins.length) : wlI 0 (O j) = outR ins R j := by
 refine rise_unique (wlI_pair 0 (O j)) (tdy_tidy _).rise fun x => ?_
 rw [wl_mem,show x ∈ outR ins R j ↔ _ from (tdy_tidy _).mem x]
 unfold catR
 rw [List.mem_flatMap]
 constructor
 ·rintro ⟨k,rfl,hb⟩
  rw [(h4 j hj).2,anyB,hbd j hj] at hb
  obtain ⟨p,hp,hq⟩ := List.any_eq_true.1 hb
  obtain ⟨z,hz,rfl⟩ := List.mem_map.1 hp
  have hzz := hbe j hj z hz
  have hs := in_same hbd hbe h2 h3 hG h4 hR (j := z.toNat) (by omega)
  have hm : (k : Int) ∈ R z.toNat := by rw [← hs]; exact (wl_mem _ _).2 ⟨k,rfl,hq⟩
  have := ((hR z.toNat (by omega)).mem _).1 hm
  exact ⟨⟨z,hz,hm⟩,by omega⟩
 ·rintro ⟨⟨z,hz,hm⟩,h0⟩
  have hzz := hbe j hj z hz
  have hs := in_same hbd hbe h2 h3 hG h4 hR (j := z.toNat) (by omega)
  rw [← hs] at hm
  obtain ⟨k,rfl,hq⟩ := (wl_mem _ _).1 hm
  refine ⟨k,rfl,?_⟩
  rw [(h4 j hj).2,anyB,hbd j hj]
  exact List.any_eq_true.2 ⟨_,List.mem_map.2 ⟨z,hz,rfl⟩,hq⟩
end
end Go.Proofs.YtehlgnfhkidgoaaDoor
namespace Go.Proofs.YtehlgnfhkidgoaaDoor
open Go Go.TM Go.ChangeShapes Go.WideShapes
theorem loop3 {fn rg sl nd pr : Int} {rs : Bool} {ti : Tag} {ins : List VI} (hn : ins.length ≤ 1000) (hus : ∀ x ∈ ins,x.us.length ≤ 999990 ∧ TagOk x.tu x.us) (x0 x2 x4 x5 x6 x7 x8 x9 x10 x11 x12 : TV) (S : Store) : ∀ (k i : Nat) (x13 x14 : TV),i + k = ins.length →
  ∃ (y13 y14 : TV),lp' (lim K) t3L0 [x0,.lb [.iv (.int .i64 fn),.iv (.int .i64 rg),.iv (.int .i64 sl),.iv (.int .i64 nd),.iv (.int .i64 pr),.iv (.bool rs),.iv (.sl ti (ins.map encV))],x2,.iv (.int .i64 i),x4,x5,x6,x7,x8,x9,x10,x11,x12,x13,x14] S
   = .ret (.exit 0,[x0,.lb [.iv (.int .i64 fn),.iv (.int .i64 rg),.iv (.int .i64 sl),.iv (.int .i64 nd),.iv (.int .i64 pr),.iv (.bool rs),.iv (.sl ti (ins.map encV))],x2,.iv (.int .i64 ins.length),x4,x5,x6,x7,x8,x9,x10,x11,x12,y13,y14],S)
 | 0,i,x13,x14,h => by
  obtain rfl : i = ins.length := by omega
  have hlen : (ins.map encV).length = ins.length := List.length_map _
  refine ⟨.iv (.bool false),x14,loop_at K _ _ t3L0.eq_1 ?_⟩
  simp (config := { maxSteps := 4000000 }) (disch := omega) only [go_sem,hlen]
 | k + 1,i,x13,x14,h => by
  have hla : i < ins.length := by omega
  have hlen : (ins.map encV).length = ins.length := List.length_map _
  have hix := ix_map (w := 8) (f := encV) encV_len (t := ti) (l := ins) (i := (i : Int)) (by omega)
  rw [Int.toNat_natCast,encV_eq] at hix
  obtain ⟨hu1,hu2⟩ := hus (ins.getD i default) (by simp only [List.getD,List.getElem?_eq_getElem hla,Option.getD_some]; exact List.getElem_mem _)
  obtain ⟨t9,_,c9⟩ := call9 (ins.getD i default) hu1 hu2
  obtain ⟨t10',_,c10⟩ := call10 (ins.getD i default) (by omega)
  obtain ⟨t11',_,c11⟩ := call11 (ins.getD i default)
  obtain ⟨t12',_,c12⟩ := call12 (ins.getD i default)
  have lU := usesM_len (ins.getD i default)
  have lD := defsM_len (ins.getD i default)
  have c8 := call8 t9 t10' (l := usesM (ins.getD i default)) (by omega)
  have c8' := call8 t11' t12' (l := defsM (ins.getD i default)) (by omega)
  rw [encV_eq] at c9 c10 c11 c12
  obtain ⟨y13,y14,ih⟩ := loop3 (fn := fn) (rg := rg) (sl := sl) (nd := nd) (pr := pr) (rs := rs) (ti := ti) hn hus x0 x2 x4 x5 x6 x7 x8 x9 x10 x11 x12 S k (i + 1) (.iv (.bool true)) (.iv (.bool false)) (by omega)
  rw [show ((i + 1 : Nat) : Int) = (i : Int) + 1 by omega] at ih
  generalize usesM (ins.getD i default) = us at *
  generalize defsM (ins.getD i default) = ds at *
  generalize ins.getD i default = x at *
  refine ⟨y13,y14,loop_at K _ _ t3L0.eq_1 ?_⟩
  simp (config := { maxSteps := 4000000 }) (disch := omega) only [go_sem,hlen,hix,cpR_pure c9,cpR_pure c10,cpR_pure c11,cpR_pure c12,cpR_pure c8,cpR_pure c8',wrap_i64]
  exact congrArg er ih
theorem law3 (fn rg sl nd pr : Int) (rs : Bool) (ti : Tag) (ins : List VI) (hn : ins.length ≤ 9223372036854775807) (ht : ∀ x ∈ ins,TagOk x.tu x.us) : ∃ S,(lim K).call 3 [.iv (.agg (encG fn rg sl nd pr rs ti ins))] [] = .ret (.iv (.bool true),S) := by
 obtain ⟨b,c6,hb⟩ := call6 fn rg sl nd pr rs ti ins hn
 cases b with
 | true =>
  refine ⟨[],call_ret' K _ (fn := t3) rfl rfl ?_⟩
  unfold encG at *
  simp (config := { maxSteps := 4000000 }) (disch := omega) only [t3,go_sem,TM.undef,cpR_pure c6,cpR_pure call7]
 | false =>
  obtain ⟨h80,h120,h30⟩ := hb rfl
  have hus : ∀ x ∈ ins,x.us.length ≤ 999990 ∧ TagOk x.tu x.us := fun x hx => ⟨by have := h30 x hx; omega,ht x hx⟩
  have hus' : ∀ x ∈ ins,x.us.length ≤ 1000000 := fun x hx => by have := h30 x hx; omega
  have c35 := call35 fn rg sl nd pr rs ti ins (by omega) hus
  obtain ⟨y13,y14,l1⟩ := loop3 (fn := fn) (rg := rg) (sl := sl) (nd := nd) (pr := pr) (rs := rs) (ti := ti) (by omega) hus (.iv (.agg (encG fn rg sl nd pr rs ti ins))) (.iv (.bool false)) (.tup []) (.tup []) (.tup []) (.tup []) (.tup []) (.tup []) (.tup []) (.tup []) (.iv (.bool false)) [] ins.length 0 (.tup []) (.tup []) (by omega)
  rw [show ((0 : Nat) : Int) = 0 from rfl] at l1
  refine ⟨[],call_ret' K _ (fn := t3) rfl rfl ?_⟩
  cases hc : chkM rg sl nd pr ins with
  | false =>
   rw [hc,if_neg (by decide)] at c35
   have c13 := bad13 fn rg sl nd pr rs ti ins c35
   have c15 := bad15 fn rg sl nd pr rs ti ins c35
   have c14 := not14 fn rg sl nd pr rs ti ins (by omega) hus' hc
   have c16 := not16 fn rg sl nd pr rs ti ins (by omega) hus' hc
   have c17 := call17 (n := 0) .nil .nil (by omega) (tg := fun _ => .nil) (tg' := fun _ => .nil) (Q := fun _ => []) (Q' := fun _ => []) (fun i hi => by omega) (fun i hi => by omega)
   rw [show rowsT (fun _ => Tag.nil) (fun _ => []) 0 = [] from rfl] at c17
   unfold encG at *
   simp (config := { maxSteps := 4000000 }) (disch := omega) only [t3,go_sem,TM.undef,cpR_pure c6]
   rw [l1]
   simp (config := { maxSteps := 4000000 }) (disch := omega) only [go_sem,cpR_pure c13,cpR_pure c14,cpR_pure c15,cpR_pure c16,cpR_pure c17,cpR_pure call7]
  | true =>
   rw [hc,if_pos rfl] at c35
   have hc' := hc
   unfold chkM at hc
   simp only [Bool.and_eq_true,decide_eq_true_eq,Bool.not_eq_true'] at hc
   obtain ⟨⟨h32,_,_,_,h0⟩,hbad,hlast⟩ := hc
   obtain ⟨g,rfl⟩ := Int.eq_ofNat_of_zero_le (show 0 ≤ rg by omega)
   obtain ⟨lb,I,O,U,D,c13,c15,hG,hok,h1,h2,h3,h4⟩ := inout (f := ⟨fn,g,sl,nd,pr,rs,ti,ins⟩) (by show 32 ≤ g; omega) (by show g ≤ _; omega) (by show ins.length ≤ _; omega) h0 hus c35
   have hg : ∀ i,i < ins.length → (26 ≤ (ins.getD i default).op ∧ (ins.getD i default).op ≤ 31) ∨ (ins.getD i default).op = 66 → ∃ q : Nat,firstL ins (ins.getD i default).lb = some (q : Int) ∧ q < ins.length := fun i hi h => goes_label hbad hi (by
    unfold goesX
    rcases h with h | h
    ·rw [decide_eq_true h]; rfl
    ·rw [decide_eq_true h,Bool.or_true,Bool.true_or])
   have hbd := fun i (hi : i < ins.length) => bhd_beh (lb := lb) (ins := ins) h1 (i := i) (hg i hi)
   have hbe := fun i (hi : i < ins.length) => beh_in (ins := ins) (i := i) (hg i hi)
   obtain ⟨R,c14,hR⟩ := call14 fn sl nd pr g rs ti ins (by omega) ⟨by omega,by omega⟩ hus' hbe hc'
   obtain ⟨R2,tg,Q,c16,hR2,hQ⟩ := call16 fn sl nd pr g rs ti ins (by omega) ⟨by omega,by omega⟩ hus' hbe hc'
   have sI := fun j (hj : j < ins.length) => in_same (O := O) hbd hbe h2 h3 hG h4 hR hj
   have sO := fun j (hj : j < ins.length) => (out_same hbd hbe h2 h3 hG h4 hR2 hj).trans (hQ j hj).symm
   have lI := fun j (hj : j < ins.length) => (show (wlI 0 (I j)).length ≤ 1000000 by rw [sI j hj]; have := (hR j hj).len; omega)
   have lO : ∀ j,j < ins.length → (wlI 0 (O j)).length ≤ 1000000 := fun j hj => by
    have a := wlI_len 0 (O j)
    have b : (O j).length = (g + 63) / 64 := (hok j hj).2.len
    rw [b] at a
    omega
   have cI := call17 (n := ins.length) (sTag (rowsL I ins.length)) .no (by omega) (tg := fun i => sTag (oneI (wlI 0 (I i)))) (tg' := fun i => sTag (oneI (R i))) sI lI
   have cO := call17 (n := ins.length) (sTag (rowsL O ins.length)) .no (by omega) (tg := fun i => sTag (oneI (wlI 0 (O i)))) (tg' := tg) sO lO
   rw [show rowsT (fun i => sTag (oneI (wlI 0 (I i)))) (fun i => wlI 0 (I i)) ins.length = rowsL I ins.length from rfl,show rowsT (fun i => sTag (oneI (R i))) (fun i => R i) ins.length = rowsN R ins.length from rfl] at cI
   rw [show rowsT (fun i => sTag (oneI (wlI 0 (O i)))) (fun i => wlI 0 (O i)) ins.length = rowsL O ins.length from rfl] at cO
   unfold encF at c13 c15
   unfold encG at *
   dsimp only at c13 c15
   generalize rowsL I ins.length = RA at *
   generalize rowsL O ins.length = RB at *
   generalize rowsN R ins.length = RC at *
   generalize rowsT tg Q ins.length = RD at *
   simp (config := { maxSteps := 4000000 }) (disch := omega) only [t3,go_sem,TM.undef,cpR_pure c6]
   rw [l1]
   simp (config := { maxSteps := 4000000 }) (disch := omega) only [go_sem,cpR_pure c13,cpR_pure c14,cpR_pure c15,cpR_pure c16,cpR_pure cI,cpR_pure cO,cpR_pure call7]
variable {H : Type}
theorem ty_ints {d : DataW H} {l : List IV} (h : Ty Tryd.prog 28 d l) : ∃ (t : Tag) (us : List Int),l = [.sl t (TM.one (.int .i64) us)] ∧ TagOk t us := by
 obtain ⟨t,us,rfl,h1,_,_⟩ := ty_slice (f := fun n : Int => [IV.int .i64 n]) (R := fun _ => True) Tryd.underlying28 (fun d l h => by obtain ⟨n,rfl,_⟩ := ty_int Tryd.underlying3 h; exact ⟨n,rfl,trivial⟩) h
 exact ⟨t,us,rfl,h1⟩
theorem ty_vinst {d : DataW H} {l : List IV} (h : Ty Tryd.prog 31 d l) : ∃ v : VI,l = encV v ∧ TagOk v.tu v.us := by
 obtain ⟨ds,ls,rfl,h1⟩ := ty_struct Tryd.underlying31 h
 obtain ⟨d0,l0,ds0,ls0,rfl,k0,h1⟩ := allTy_cons h1
 obtain ⟨d1,l1,ds1,ls1,rfl,k1,h1⟩ := allTy_cons h1
 obtain ⟨d2,l2,ds2,ls2,rfl,k2,h1⟩ := allTy_cons h1
 obtain ⟨d3,l3,ds3,ls3,rfl,k3,h1⟩ := allTy_cons h1
 obtain ⟨d4,l4,ds4,ls4,rfl,k4,h1⟩ := allTy_cons h1
 obtain ⟨d5,l5,ds5,ls5,rfl,k5,h1⟩ := allTy_cons h1
 obtain ⟨d6,l6,ds6,ls6,rfl,k6,h1⟩ := allTy_cons h1
 obtain ⟨d7,l7,ds7,ls7,rfl,k7,h1⟩ := allTy_cons h1
 obtain rfl := allTy_nil h1
 obtain ⟨op,rfl,_⟩ := ty_int Tryd.underlying3 k0
 obtain ⟨a,rfl,_⟩ := ty_int Tryd.underlying3 k1
 obtain ⟨b,rfl,_⟩ := ty_int Tryd.underlying3 k2
 obtain ⟨c,rfl,_⟩ := ty_int Tryd.underlying3 k3
 obtain ⟨e,rfl,_⟩ := ty_int Tryd.underlying3 k4
 obtain ⟨g,rfl,_⟩ := ty_int Tryd.underlying3 k5
 obtain ⟨tu,us,rfl,hu⟩ := ty_ints k6
 obtain ⟨tm,mp,rfl,_⟩ := ty_ints k7
 exact ⟨⟨op,a,b,c,e,g,tu,us,tm,mp⟩,rfl,hu⟩
theorem ty_vfunc {d : DataW H} {l : List IV} (h : Ty Tryd.prog 24 d l) : ∃ (fn rg sl nd pr : Int) (rs : Bool) (ti : Tag) (ins : List VI),l = encG fn rg sl nd pr rs ti ins ∧ ins.length ≤ 9223372036854775807 ∧ ∀ x ∈ ins,TagOk x.tu x.us := by
 obtain ⟨ds,ls,rfl,h1⟩ := ty_struct Tryd.underlying24 h
 obtain ⟨d0,l0,ds0,ls0,rfl,k0,h1⟩ := allTy_cons h1
 obtain ⟨d1,l1,ds1,ls1,rfl,k1,h1⟩ := allTy_cons h1
 obtain ⟨d2,l2,ds2,ls2,rfl,k2,h1⟩ := allTy_cons h1
 obtain ⟨d3,l3,ds3,ls3,rfl,k3,h1⟩ := allTy_cons h1
 obtain ⟨d4,l4,ds4,ls4,rfl,k4,h1⟩ := allTy_cons h1
 obtain ⟨d5,l5,ds5,ls5,rfl,k5,h1⟩ := allTy_cons h1
 obtain ⟨d6,l6,ds6,ls6,rfl,k6,h1⟩ := allTy_cons h1
 obtain rfl := allTy_nil h1
 obtain ⟨fn,rfl,_⟩ := ty_int Tryd.underlying3 k0
 obtain ⟨rg,rfl,_⟩ := ty_int Tryd.underlying3 k1
 obtain ⟨sl,rfl,_⟩ := ty_int Tryd.underlying3 k2
 obtain ⟨nd,rfl,_⟩ := ty_int Tryd.underlying3 k3
 obtain ⟨pr,rfl,_⟩ := ty_int Tryd.underlying3 k4
 obtain ⟨rs,rfl⟩ := ty_bool Tryd.underlying4 k5
 obtain ⟨ti,ins,rfl,_,hR,hn⟩ := ty_slice (f := encV) (R := fun v => TagOk v.tu v.us) Tryd.underlying22 (fun d l h => ty_vinst h) k6
 exact ⟨fn,rg,sl,nd,pr,rs,ti,ins,rfl,hn,hR⟩
variable {H : Type}
theorem inv3 {ds : List (DataW H)} {ls : List (List IV)} (hh0 : AllTy Tryd.prog [24] ds ls) : ((lim K).call 3 (argsOf Tryd.prog [24] ls) []).All fun r => r.1 = .iv (.bool true) := by
 obtain ⟨d0,l0,ds0,ls0,rfl,h0,hh1⟩ := allTy_cons hh0
 obtain ⟨fn,rg,sl,nd,pr,rs,ti,ins,rfl,hn,hR⟩ := ty_vfunc h0
 have e0 : ∀ l,argOf Tryd.prog 24 l = .iv (.agg l) := fun x => argOf_agg (by rw [Tryd.underlying24])
 rw [allTy_nil hh1]
 simp only [argsOf,e0]
 obtain ⟨S,h⟩ := law3 fn rg sl nd pr rs ti ins hn hR
 rw [h]
 exact rfl
end Go.Proofs.YtehlgnfhkidgoaaDoor
