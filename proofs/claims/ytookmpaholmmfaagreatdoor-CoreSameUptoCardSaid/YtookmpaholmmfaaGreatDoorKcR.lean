/- CoreSame: the law. Condition: none. -/
import Derived.Test.YtookmpaholmmfaaGreatDoorKcQ
import Derived.Test.YtookmpaholmmfaaGreatDoorTmE
set_option maxRecDepth 100000
set_option maxHeartbeats 16000000
set_option linter.unusedSimpArgs false
set_option linter.unusedVariables false
namespace Go.Proofs.YtookmpaholmmfaaGreatDoor
open Go Go.TM
theorem works1 : ((ex K 200).call 11 [] []).allB isTrue = true := by kernel_rfl
theorem works : ((lim K).call 11 [] []).All fun r => r.1 = .iv (.bool true) := lim_allB 200 11 works1
theorem worksA : PureA K 11 [] fun v => v = .iv (.bool true) := by
  refine Out.all_mono (fun r hr => ⟨_, ?_, rfl⟩) works
  rw [hr, resolve_iv]
def P4 (p q : Pg) (x0 x1 x6 : TV) (S : Store) (r : Jump × Env × Store) : Prop := ∃ j b y5 y7 y8, (j = .ret ∧ b = true ∨ j = .exit 0 ∧ b = false) ∧ r = (j, [x0, x1, lbP p, lbP q, .iv (.bool b), y5, x6, y7, y8], S)
theorem loop4 (p q : Pg) (hp : p.w ≤ 1048576) (x0 x1 x6 : TV) (S : Store) : ∀ (k i : Nat) (x7 x8 : TV), i + k = p.cs.length →
    (lp' (lim K) t4L0 [x0, x1, lbP p, lbP q, .iv (.bool false), .iv (.int .i64 (i : Int)), x6, x7, x8] S).All (P4 p q x0 x1 x6 S)
  | 0, i, x7, x8, h => by
    refine lp_all t4L0.eq_1 ?_
    simp (config := { maxSteps := 4000000 }) (disch := omega) only [go_sem, encDs_len]
    exact all_ret ⟨_, _, _, _, _, .inr ⟨rfl, rfl⟩, rfl⟩
  | k + 1, i, x7, x8, h => by
    have hpw : p.b.w + Dt.ws p.cs ≤ 1048576 := hp
    have hla : i < p.cs.length := by omega
    have hw2 := Dt.ws_len p.cs
    have hix := ixD (g := p.gc) (ks := p.cs) (i := (i : Int)) (by omega)
    rw [Int.toNat_natCast] at hix
    obtain ⟨b, hc⟩ := call18 1048576 (by omega) 1048576 (p.cs.getD i default) (by have := Dt.ws_mem (get_mem hla); omega) (by omega)
    generalize hx : p.cs.getD i default = x at *
    cases b with
    | true =>
      have ih := loop4 p q hp x0 x1 x6 S k (i + 1) (.iv (.bool true)) (.iv (.bool false)) (by omega)
      rw [show ((i + 1 : Nat) : Int) = (i : Int) + 1 by omega] at ih
      refine lp_all t4L0.eq_1 ?_
      simp (config := { maxSteps := 4000000 }) (disch := omega) only [go_sem, encDs_len, hix, getD5, cpR_pure hc, wrap_i64]
      exact all_er ih
    | false =>
      refine lp_all t4L0.eq_1 ?_
      simp (config := { maxSteps := 4000000 }) (disch := omega) only [go_sem, encDs_len, hix, getD5, cpR_pure hc]
      refine rnd_pureA worksA ?_
      rintro v rfl
      simp (config := { maxSteps := 4000000 }) (disch := omega) only [go_sem]
      exact all_ret ⟨_, _, _, _, _, .inl ⟨rfl, rfl⟩, rfl⟩
theorem law4 (p q : Pg) (hp : p.w ≤ 1048576) (hq : q.w ≤ 1048576) : ((lim K).call 4 [.iv (.agg (encP p)), .iv (.agg (encP q))] []).All fun r => r.1 = .iv (.bool true) := by
  obtain ⟨b1, l1⟩ := call9 p hp []
  obtain ⟨b2, l2⟩ := call9 q hq []
  have s1 := call19 p q hp hq []
  have s2 := call20 p q hp hq []
  have s3 := call19 p p hp hp []
  rw [samP_refl] at s3
  refine call_all' K _ (fn := t4) rfl rfl ?_
  simp only [encP] at l1 l2 s1 s2 s3 ⊢
  cases b1 with
  | true =>
    simp (config := { maxSteps := 4000000 }) (disch := omega) only [t4, go_sem, TM.undef, l1]
    refine fin_pureA worksA ?_
    rintro v rfl
    simp (config := { maxSteps := 4000000 }) (disch := omega) only [go_sem, Out.All]
  | false =>
    cases b2 with
    | true =>
      simp (config := { maxSteps := 4000000 }) (disch := omega) only [t4, go_sem, TM.undef, l1, l2]
      refine fin_pureA worksA ?_
      rintro v rfl
      simp (config := { maxSteps := 4000000 }) (disch := omega) only [go_sem, Out.All]
    | false =>
      have ih := loop4 p q hp (.iv (.agg (encP p))) (.iv (.agg (encP q))) (.iv (.bool false)) [] p.cs.length 0 (.tup []) (.tup []) (by omega)
      rw [show ((0 : Nat) : Int) = 0 from rfl] at ih
      simp only [encP] at ih
      simp (config := { maxSteps := 4000000 }) (disch := omega) only [t4, go_sem, TM.undef, l1, l2]
      refine fin_goL_all ih ?_
      rintro _ _ _ ⟨j, b, y5, y7, y8, hj, e⟩
      obtain ⟨rfl, rfl, rfl⟩ := e
      rcases hj with ⟨rfl, rfl⟩ | ⟨rfl, rfl⟩
      · simp (config := { maxSteps := 4000000 }) (disch := omega) only [go_sem, Out.All]
      · simp (config := { maxSteps := 4000000 }) (disch := omega) only [go_sem, s1, s2, s3]
        refine fin_pureA worksA ?_
        rintro v rfl
        simp (config := { maxSteps := 4000000 }) (disch := omega) only [go_sem, Out.All]
end Go.Proofs.YtookmpaholmmfaaGreatDoor
