/- Some texts of the proof, joined. Condition: none. -/
import Derived.Test.YtookmpaholmmfaaGreatDoorJa
import Derived.Test.YtookmpaholmmfaaGreatDoorJb
set_option maxRecDepth 100000
set_option maxHeartbeats 64000000
set_option linter.unusedSimpArgs false
set_option linter.unusedVariables false
namespace Go.Proofs.YtookmpaholmmfaaGreatDoor
open Go Go.TM
theorem loop59 (n : Nat) (hn : n ≤ 60) (ih : ∀ (x : Dt) (S : Store),x.w ≤ 1048576 → (lim K).call 59 [.iv (.agg (encD x)),.iv (.int .i64 n)] S = .ret (.iv (.int .i64 (partsF n x)),S)) (d : Dt) (hd : d.w ≤ 1048576) (x0 x3 x6 : TV) (S : Store) :
  ∀ (k i : Nat) (acc : Int) (x7 : TV),i + k = d.ks.length → 0 ≤ acc → acc ≤ 400000 → ∃ i' x7',lp' (lim K) t59L0 [x0,.iv (.int .i64 ((n : Int) + 1)),.lb [.iv (.int .i64 d.k),.iv (.int .i64 d.n),.iv (.str d.t),.iv (.sl d.g (encDs d.ks)),.iv (.int .i64 d.p)],x3,.iv (.int .i64 acc),.iv (.int .i64 (i : Int)),x6,x7] S
   = .ret (.exit 0,[x0,.iv (.int .i64 ((n : Int) + 1)),.lb [.iv (.int .i64 d.k),.iv (.int .i64 d.n),.iv (.str d.t),.iv (.sl d.g (encDs d.ks)),.iv (.int .i64 d.p)],x3,.iv (.int .i64 (addUp 5000 (partsF n) acc (d.ks.drop i))),i',x6,x7'],S)
 | 0,i,acc,x7,h,h0,h1 => by
  rw [List.drop_eq_nil_of_le (by omega),addUp]
  have c1 : ¬ ((i : Int) < d.ks.length) := by omega
  refine ⟨?_,?_,loop_at K _ _ t59L0.eq_1 ?_⟩
  rotate_left 2
  ·simp (config := { maxSteps := 4000000 }) (disch := omega) only [go_sem,encDs_len,c1]
   rfl
 | k + 1,i,acc,x7,h,h0,h1 => by
  have c1 : (i : Int) < d.ks.length := by omega
  have hl : i < d.ks.length := by omega
  have hw := Dt.w_eq d
  have hw2 := Dt.ws_len d.ks
  have hdr := drop_get hl
  by_cases ha : acc < 5000
  ·have hb := partsF_in n (d.ks.getD i default)
   obtain ⟨i',x7',ih2⟩ := loop59 n hn ih d hd x0 x3 x6 S k (i + 1) (acc + partsF n (d.ks.getD i default)) (.iv (.bool true)) (by omega) (by omega) (by omega)
   have hi : ((i + 1 : Nat) : Int) = (i : Int) + 1 := by omega
   rw [hdr,addUp,if_pos ha]
   rw [hi] at ih2
   refine ⟨i',x7',loop_at K _ _ t59L0.eq_1 ?_⟩
   have hix := ixD (g := d.g) (ks := d.ks) (i := (i : Int)) (by omega)
   rw [Int.toNat_natCast] at hix
   have w1 : IntKind.i64.wrap ((n : Int) + 1 - 1) = (n : Int) := by rw [wrap_i64 (by omega)]; omega
   have hm := get_mem hl
   have hc := fun S => ih (d.ks.getD i default) S (by have := Dt.kid_lt hm; omega)
   rw [encD_eq] at hc
   generalize hx : d.ks.getD i default = y at *
   simp (config := { maxSteps := 4000000 }) (disch := omega) only [go_sem,encDs_len,c1,ha,hix,getD5,w1,hc,wrap_i64]
   exact congrArg er ih2
  ·rw [hdr,addUp,if_neg ha]
   refine ⟨?_,?_,loop_at K _ _ t59L0.eq_1 ?_⟩
   rotate_left 2
   ·simp (config := { maxSteps := 4000000 }) (disch := omega) only [go_sem,encDs_len,c1,ha]
    rfl
theorem call59 : ∀ (n : Nat) (hn : n ≤ 60) (d : Dt) (hd : d.w ≤ 1048576) (S : Store),(lim K).call 59 [.iv (.agg (encD d)),.iv (.int .i64 n)] S = .ret (.iv (.int .i64 (partsF n d)),S)
 | 0,hn,d,hd,S => by
  refine call_ret' K _ (fn := t59) rfl rfl ?_
  have e1 : ((0 : Nat) : Int) = 0 := rfl
  rw [encD_eq,partsF,e1]
  simp (config := { maxSteps := 4000000 }) (disch := omega) only [t59,go_sem]
 | n + 1,hn,d,hd,S => by
  have hw := Dt.w_eq d
  have hl := Dt.ws_len d.ks
  obtain ⟨i',x7',h⟩ := loop59 n (by omega) (fun x S hx => call59 n (by omega) x hx S) d hd (.iv (.agg [.int .i64 d.k,.int .i64 d.n,.str d.t,.sl d.g (encDs d.ks),.int .i64 d.p])) (.iv (.int .i64 0)) (.iv (.bool false)) S d.ks.length 0 1 (.tup []) (by omega) (by omega) (by omega)
  refine call_ret' K _ (fn := t59) rfl rfl ?_
  have e1 : ((n + 1 : Nat) : Int) = (n : Int) + 1 := by omega
  have e2 : ¬ ((n : Int) + 1 = 0) := by omega
  rw [encD_eq,partsF,e1]
  rw [List.drop_zero,show ((0 : Nat) : Int) = 0 from rfl] at h
  simp (config := { maxSteps := 4000000 }) (disch := omega) only [t59,go_sem,e2,TM.undef]
  rw [h]
  simp (config := { maxSteps := 4000000 }) (disch := omega) only [go_sem]
def nodesG : Nat → Ex → Int
 | 0,_ => 5000
 | n + 1,d => addUp 5000 (nodesG n) (1 + d.vs.length) d.ks
theorem nodesG_in : ∀ (n : Nat) (d : Ex),0 ≤ nodesG n d ∧ nodesG n d ≤ 5000 * (n + 1) + d.w
 | 0,d => by rw [nodesG]; omega
 | n + 1,d => by
  rw [nodesG]
  have hw := Ex.w_eq d
  have := addUp_in 5000 (5000 * (n + 1) + d.w) (by omega) (nodesG n) d.ks (fun x hx => by
   have := nodesG_in n x
   have := Ex.kid_lt hx
   omega) (1 + d.vs.length) (by omega) (by omega)
  omega
theorem loop60 (n : Nat) (hn : n ≤ 400) (ih : ∀ (x : Ex) (S : Store),x.w ≤ 1048576 → (lim K).call 60 [.iv (.agg (encE x)),.iv (.int .i64 n)] S = .ret (.iv (.int .i64 (nodesG n x)),S)) (d : Ex) (hd : d.w ≤ 1048576) (x0 x3 x6 : TV) (S : Store) :
  ∀ (k i : Nat) (acc : Int) (x7 : TV),i + k = d.ks.length → 0 ≤ acc → acc ≤ 100000000 → ∃ i' x7',lp' (lim K) t60L0 [x0,.iv (.int .i64 ((n : Int) + 1)),lbE d,x3,.iv (.int .i64 acc),.iv (.int .i64 (i : Int)),x6,x7] S
   = .ret (.exit 0,[x0,.iv (.int .i64 ((n : Int) + 1)),lbE d,x3,.iv (.int .i64 (addUp 5000 (nodesG n) acc (d.ks.drop i))),i',x6,x7'],S)
 | 0,i,acc,x7,h,h0,h1 => by
  rw [List.drop_eq_nil_of_le (by omega),addUp]
  have c1 : ¬ ((i : Int) < d.ks.length) := by omega
  refine ⟨?_,?_,loop_at K _ _ t60L0.eq_1 ?_⟩
  rotate_left 2
  ·simp (config := { maxSteps := 4000000 }) (disch := omega) only [go_sem,encEs_len,c1]
   rfl
 | k + 1,i,acc,x7,h,h0,h1 => by
  have c1 : (i : Int) < d.ks.length := by omega
  have hl : i < d.ks.length := by omega
  have hw := Ex.w_eq d
  have hw2 := Ex.ws_len d.ks
  have hdr := drop_get hl
  by_cases ha : acc < 5000
  ·have hb := nodesG_in n (d.ks.getD i default)
   have hm := get_mem hl
   have hk := Ex.kid_lt hm
   obtain ⟨i',x7',ih2⟩ := loop60 n hn ih d hd x0 x3 x6 S k (i + 1) (acc + nodesG n (d.ks.getD i default)) (.iv (.bool true)) (by omega) (by omega) (by omega)
   have hi : ((i + 1 : Nat) : Int) = (i : Int) + 1 := by omega
   rw [hdr,addUp,if_pos ha]
   rw [hi] at ih2
   refine ⟨i',x7',loop_at K _ _ t60L0.eq_1 ?_⟩
   have hix := ixE (g := d.g) (ks := d.ks) (i := (i : Int)) (by omega)
   rw [Int.toNat_natCast] at hix
   have w1 : IntKind.i64.wrap ((n : Int) + 1 - 1) = (n : Int) := by rw [wrap_i64 (by omega)]; omega
   have hc := fun S => ih (d.ks.getD i default) S (by omega)
   rw [encE_eq] at hc
   generalize hx : d.ks.getD i default = y at *
   simp (config := { maxSteps := 4000000 }) (disch := omega) only [go_sem,encEs_len,c1,ha,hix,getE5,w1,hc,wrap_i64]
   exact congrArg er ih2
  ·rw [hdr,addUp,if_neg ha]
   refine ⟨?_,?_,loop_at K _ _ t60L0.eq_1 ?_⟩
   rotate_left 2
   ·simp (config := { maxSteps := 4000000 }) (disch := omega) only [go_sem,encEs_len,c1,ha]
    rfl
theorem call60 : ∀ (n : Nat) (hn : n ≤ 400) (d : Ex) (hd : d.w ≤ 1048576) (S : Store),(lim K).call 60 [.iv (.agg (encE d)),.iv (.int .i64 n)] S = .ret (.iv (.int .i64 (nodesG n d)),S)
 | 0,hn,d,hd,S => by
  refine call_ret' K _ (fn := t60) rfl rfl ?_
  have e1 : ((0 : Nat) : Int) = 0 := rfl
  rw [encE_eq,nodesG,e1]
  simp (config := { maxSteps := 4000000 }) (disch := omega) only [t60,go_sem]
 | n + 1,hn,d,hd,S => by
  have hw := Ex.w_eq d
  have hl := Ex.ws_len d.ks
  obtain ⟨i',x7',h⟩ := loop60 n (by omega) (fun x S hx => call60 n (by omega) x hx S) d hd (.iv (.agg [.int .i64 d.k,.int .i64 d.n,.sl d.gv (TM.one (.int .i64) d.vs),.bool d.r,.sl d.g (encEs d.ks)])) (.iv (.int .i64 0)) (.iv (.bool false)) S d.ks.length 0 (1 + d.vs.length) (.tup []) (by omega) (by omega) (by omega)
  refine call_ret' K _ (fn := t60) rfl rfl ?_
  have e1 : ((n + 1 : Nat) : Int) = (n : Int) + 1 := by omega
  have e2 : ¬ ((n : Int) + 1 = 0) := by omega
  rw [encE_eq,nodesG,e1]
  rw [List.drop_zero,show ((0 : Nat) : Int) = 0 from rfl] at h
  simp (config := { maxSteps := 4000000 }) (disch := omega) only [t60,go_sem,e2,TM.undef,wrap_i64]
  rw [h]
  simp (config := { maxSteps := 4000000 }) (disch := omega) only [go_sem]
theorem loop21 (p : Pg) (hp : p.w ≤ 1048576) (x0 : TV) (S : Store) : ∀ (k i : Nat) (x4 x5 : TV),i + k = p.cs.length →
  ∃ j b i' x4' x5',(j = .ret ∧ b = true ∨ j = .exit 0 ∧ b = false) ∧ lp' (lim K) t21L0 [x0,lbP p,.iv (.bool false),.iv (.int .i64 (i : Int)),x4,x5] S = .ret (j,[x0,lbP p,.iv (.bool b),i',x4',x5'],S)
 | 0,i,x4,x5,h => by
  have c1 : ¬ ((i : Int) < p.cs.length) := by omega
  refine ⟨.exit 0,false,?_,?_,?_,.inr ⟨rfl,rfl⟩,loop_at K _ _ t21L0.eq_1 ?_⟩
  rotate_left 3
  ·simp (config := { maxSteps := 4000000 }) (disch := omega) only [go_sem,encDs_len,c1]
   rfl
 | k + 1,i,x4,x5,h => by
  have c1 : (i : Int) < p.cs.length := by omega
  have hl : i < p.cs.length := by omega
  have hw2 := Dt.ws_len p.cs
  have hpw : p.b.w + Dt.ws p.cs ≤ 1048576 := hp
  by_cases h3 : (i : Int) < 30
  ·have hix := ixD (g := p.gc) (ks := p.cs) (i := (i : Int)) (by omega)
   rw [Int.toNat_natCast] at hix
   have hm := Dt.ws_mem (get_mem hl)
   have hc := fun S => call59 60 (by omega) (p.cs.getD i default) (by omega) S
   rw [encD_eq,show ((60 : Nat) : Int) = 60 from rfl] at hc
   generalize hx : p.cs.getD i default = y at *
   by_cases hv : 200 < partsF 60 y
   ·refine ⟨.ret,true,?_,?_,?_,.inl ⟨rfl,rfl⟩,loop_at K _ _ t21L0.eq_1 ?_⟩
    rotate_left 3
    ·simp (config := { maxSteps := 4000000 }) (disch := omega) only [go_sem,encDs_len,c1,h3,hix,getD5,hc,hv]
     rfl
   ·obtain ⟨j,b,i',x4',x5',hj,ih⟩ := loop21 p hp x0 S k (i + 1) (.iv (.bool true)) (.iv (.bool false)) (by omega)
    rw [show ((i + 1 : Nat) : Int) = (i : Int) + 1 by omega] at ih
    refine ⟨j,b,i',x4',x5',hj,loop_at K _ _ t21L0.eq_1 ?_⟩
    simp (config := { maxSteps := 4000000 }) (disch := omega) only [go_sem,encDs_len,c1,h3,hix,getD5,hc,hv,wrap_i64]
    exact congrArg er ih
  ·refine ⟨.exit 0,false,?_,?_,?_,.inr ⟨rfl,rfl⟩,loop_at K _ _ t21L0.eq_1 ?_⟩
   rotate_left 3
   ·simp (config := { maxSteps := 4000000 }) (disch := omega) only [go_sem,encDs_len,c1,h3]
    rfl
theorem call21 (p : Pg) (hp : p.w ≤ 1048576) (S : Store) : ∃ b,(lim K).call 21 [.iv (.agg (encP p))] S = .ret (.iv (.bool b),S) ∧ (b = false → nodesG 400 p.b ≤ 2000 ∧ p.vr ≤ 1099511627776) := by
 obtain ⟨j,b,i',x4',x5',hj,h⟩ := loop21 p hp (.iv (.agg (encP p))) S p.cs.length 0 (.tup []) (.tup []) (by omega)
 rw [show ((0 : Nat) : Int) = 0 from rfl] at h
 have hpw : p.b.w + Dt.ws p.cs ≤ 1048576 := hp
 have hwl := Dt.ws_len p.cs
 have hc := fun S => call60 400 (by omega) p.b (by omega) S
 rw [encE_eq,show ((400 : Nat) : Int) = 400 from rfl] at hc
 rcases hj with ⟨rfl,rfl⟩ | ⟨rfl,rfl⟩
 ·refine ⟨true,call_ret' K _ (fn := t21) rfl rfl ?_,fun h => absurd h (by decide)⟩
  simp only [encP] at h ⊢
  simp (config := { maxSteps := 4000000 }) (disch := omega) only [t21,go_sem,TM.undef]
  rw [h]
  simp (config := { maxSteps := 4000000 }) (disch := omega) only [go_sem]
 ·by_cases hv : 2000 < nodesG 400 p.b
  ·refine ⟨true,call_ret' K _ (fn := t21) rfl rfl ?_,fun h => absurd h (by decide)⟩
   simp only [encP] at h ⊢
   simp (config := { maxSteps := 4000000 }) (disch := omega) only [t21,go_sem,TM.undef]
   rw [h]
   simp (config := { maxSteps := 4000000 }) (disch := omega) only [go_sem,hc,hv]
  ·by_cases hl : (20 : Int) < p.cs.length
   ·refine ⟨true,call_ret' K _ (fn := t21) rfl rfl ?_,fun h => absurd h (by decide)⟩
    simp only [encP] at h ⊢
    simp (config := { maxSteps := 4000000 }) (disch := omega) only [t21,go_sem,TM.undef]
    rw [h]
    simp (config := { maxSteps := 4000000 }) (disch := omega) only [go_sem,hc,hv,encDs_len,hl]
   ·refine ⟨decide (1099511627776 < p.vr),call_ret' K _ (fn := t21) rfl rfl ?_,fun h => ⟨by omega,by simpa using h⟩⟩
    simp only [encP] at h ⊢
    simp (config := { maxSteps := 4000000 }) (disch := omega) only [t21,go_sem,TM.undef]
    rw [h]
    simp (config := { maxSteps := 4000000 }) (disch := omega) only [go_sem,hc,hv,encDs_len,hl]
theorem stN_le : ∀ (N : Nat) (e : Ex),e.w ≤ N → stN e ≤ e.w
 | 0,e,hw => by have := Ex.w_eq e; omega
 | N + 1,e,hw => by
  have hwe := Ex.w_eq e
  have key : ∀ l : List Ex,(∀ x ∈ l,x.w ≤ N) → stNs l ≤ Ex.ws l := by
   intro l
   induction l with
   | nil => intro _; rw [stNs]; omega
   | cons a r ih =>
    intro hl
    have := stN_le N a (hl a (by simp))
    have := ih (fun x hx => hl x (by simp [hx]))
    rw [stNs,Ex.ws]; omega
  have := key e.ks (fun x hx => by have := Ex.kid_lt hx; omega)
  rw [stN_eq]; split <;> omega
theorem dp_le : ∀ (N : Nat) (e : Ex),e.w ≤ N → dp e + 1 ≤ e.w
 | 0,e,hw => by have := Ex.w_eq e; omega
 | N + 1,e,hw => by
  have hwe := Ex.w_eq e
  have key : ∀ l : List Ex,(∀ x ∈ l,x.w ≤ N) → dps l ≤ Ex.ws l := by
   intro l
   induction l with
   | nil => intro _; rw [dps]; omega
   | cons a r ih =>
    intro hl
    have := dp_le N a (hl a (by simp))
    have := ih (fun x hx => hl x (by simp [hx]))
    rw [dps,Ex.ws]; omega
  have := key e.ks (fun x hx => by have := Ex.kid_lt hx; omega)
  rw [dp_eq]; omega
theorem loop31 {N : Nat} (ih : ∀ (e : Ex),e.w ≤ N → TM.Pure K 31 [.iv (.agg (encE e))] (.iv (.int .i64 (stN e : Nat)))) (e : Ex) (hw : e.w ≤ N + 1) (hN : N + 1 ≤ 1048576) (x0 x2 x5 : TV) (S : Store) :
  ∀ (k i a : Nat) (x6 : TV),i + k = e.ks.length → a + Ex.ws (e.ks.drop i) ≤ 4194304 → ∃ y6,lp' (lim K) t31L0 [x0,lbE e,x2,.iv (.int .i64 (a : Int)),.iv (.int .i64 (i : Int)),x5,x6] S
   = .ret (.exit 0,[x0,lbE e,x2,.iv (.int .i64 ((a + stNs (e.ks.drop i) : Nat) : Int)),.iv (.int .i64 e.ks.length),x5,y6],S)
 | 0,i,a,x6,h,ha => by
  obtain rfl : i = e.ks.length := by omega
  refine ⟨?_,loop_at K _ _ t31L0.eq_1 ?_⟩
  rotate_left 1
  ·rw [List.drop_length,stNs,Nat.add_zero]
   simp (config := { maxSteps := 4000000 }) (disch := omega) only [go_sem,encEs_len]
   rfl
 | k + 1,i,a,x6,h,ha => by
  have hla : i < e.ks.length := by omega
  have hwe := Ex.w_eq e
  have hwl := Ex.ws_len e.ks
  have hix := ixE (g := e.g) (ks := e.ks) (i := (i : Int)) (by omega)
  rw [Int.toNat_natCast] at hix
  have hdr := drop_get hla
  have hkw := Ex.kid_lt (d := e) (get_mem hla)
  rw [hdr,Ex.ws] at ha
  generalize hx : e.ks.getD i default = x at *
  have hc := ih x (by omega)
  have hs := stN_le _ x (Nat.le_refl _)
  rw [encE_eq] at hc
  obtain ⟨y6,ih2⟩ := loop31 ih e hw hN x0 x2 x5 S k (i + 1) (a + stN x) (.iv (.bool true)) (by omega) (by omega)
  rw [show ((i + 1 : Nat) : Int) = (i : Int) + 1 by omega,show ((a + stN x : Nat) : Int) = (a : Int) + (stN x : Int) by omega] at ih2
  rw [hdr,stNs,← Nat.add_assoc]
  refine ⟨y6,loop_at K _ _ t31L0.eq_1 ?_⟩
  simp (config := { maxSteps := 4000000 }) (disch := omega) only [go_sem,encEs_len,hix,getE5,cpR_pure hc,wrap_i64]
  exact congrArg er ih2
theorem call31 : ∀ N,N ≤ 1048576 → ∀ e : Ex,e.w ≤ N → TM.Pure K 31 [.iv (.agg (encE e))] (.iv (.int .i64 (stN e : Nat)))
 | 0,hN,e,hw => by have := Ex.w_eq e; omega
 | N + 1,hN,e,hw => by
  have hwe := Ex.w_eq e
  have hwl := Ex.ws_len e.ks
  refine pure_ret (S := []) (r := .iv (.int .i64 (stN e : Nat))) (call_ret' K _ (fn := t31) rfl rfl ?_) (by rw [resolve_iv])
  rw [stN_eq]
  by_cases hk : e.k = 4
  ·obtain ⟨y6,l1⟩ := loop31 (call31 N (by omega)) e hw hN (.iv (.agg (encE e))) (.iv (.int .i64 0)) (.iv (.bool true)) [] e.ks.length 0 1 (.tup []) (by omega) (by rw [List.drop_zero]; omega)
   rw [show ((0 : Nat) : Int) = 0 from rfl,show ((1 : Nat) : Int) = 1 from rfl,List.drop_zero] at l1
   rw [if_pos hk]
   rw [encE_eq] at l1 ⊢
   simp (config := { maxSteps := 4000000 }) (disch := omega) only [t31,go_sem,TM.undef,hk]
   unfold lbE at l1
   rw [hk] at l1
   rw [l1]
   simp (config := { maxSteps := 4000000 }) (disch := omega) only [go_sem]
  ·obtain ⟨y6,l1⟩ := loop31 (call31 N (by omega)) e hw hN (.iv (.agg (encE e))) (.iv (.int .i64 0)) (.iv (.bool false)) [] e.ks.length 0 0 (.tup []) (by omega) (by rw [List.drop_zero]; omega)
   rw [show ((0 : Nat) : Int) = 0 from rfl,List.drop_zero] at l1
   rw [if_neg hk]
   rw [encE_eq] at l1 ⊢
   simp (config := { maxSteps := 4000000 }) (disch := omega) only [t31,go_sem,TM.undef,hk]
   rw [l1]
   simp (config := { maxSteps := 4000000 }) (disch := omega) only [go_sem]
theorem loop32 {N : Nat} (ih : ∀ (e : Ex),e.w ≤ N → TM.Pure K 32 [.iv (.agg (encE e))] (.iv (.int .i64 (dp e : Nat)))) (e : Ex) (hw : e.w ≤ N + 1) (hN : N + 1 ≤ 1048576) (x0 x2 : TV) (S : Store) :
  ∀ (k i a : Nat) (x5 : TV),i + k = e.ks.length → a ≤ 4194304 → ∃ y5,lp' (lim K) t32L0 [x0,lbE e,x2,.iv (.int .i64 (a : Int)),.iv (.int .i64 (i : Int)),x5] S
   = .ret (.exit 0,[x0,lbE e,x2,.iv (.int .i64 ((max a (dps (e.ks.drop i)) : Nat) : Int)),.iv (.int .i64 e.ks.length),y5],S)
 | 0,i,a,x5,h,ha => by
  obtain rfl : i = e.ks.length := by omega
  refine ⟨?_,loop_at K _ _ t32L0.eq_1 ?_⟩
  rotate_left 1
  ·rw [List.drop_length,dps,Nat.max_zero]
   simp (config := { maxSteps := 4000000 }) (disch := omega) only [go_sem,encEs_len]
   rfl
 | k + 1,i,a,x5,h,ha => by
  have hla : i < e.ks.length := by omega
  have hwe := Ex.w_eq e
  have hwl := Ex.ws_len e.ks
  have hix := ixE (g := e.g) (ks := e.ks) (i := (i : Int)) (by omega)
  rw [Int.toNat_natCast] at hix
  have hdr := drop_get hla
  have hkw := Ex.kid_lt (d := e) (get_mem hla)
  generalize hx : e.ks.getD i default = x at *
  have hc := ih x (by omega)
  have hs := dp_le _ x (Nat.le_refl _)
  rw [encE_eq] at hc
  obtain ⟨y5,ih2⟩ := loop32 ih e hw hN x0 x2 S k (i + 1) (max a (dp x + 1)) (.iv (.bool true)) (by omega) (by omega)
  rw [show ((i + 1 : Nat) : Int) = (i : Int) + 1 by omega] at ih2
  rw [hdr,dps,← Nat.max_assoc]
  refine ⟨y5,loop_at K _ _ t32L0.eq_1 ?_⟩
  have hm : (if (a : Int) < 1 + (dp x : Int) then (1 + (dp x : Int)) else (a : Int)) = ((max a (dp x + 1) : Nat) : Int) := by split <;> omega
  simp (config := { maxSteps := 4000000 }) (disch := omega) only [go_sem,encEs_len,hix,getE5,cpR_pure hc,wrap_i64,hm]
  exact congrArg er ih2
theorem call32 : ∀ N,N ≤ 1048576 → ∀ e : Ex,e.w ≤ N → TM.Pure K 32 [.iv (.agg (encE e))] (.iv (.int .i64 (dp e : Nat)))
 | 0,hN,e,hw => by have := Ex.w_eq e; omega
 | N + 1,hN,e,hw => by
  have hwe := Ex.w_eq e
  have hwl := Ex.ws_len e.ks
  refine pure_ret (S := []) (r := .iv (.int .i64 (dp e : Nat))) (call_ret' K _ (fn := t32) rfl rfl ?_) (by rw [resolve_iv])
  rw [dp_eq]
  obtain ⟨y6,l1⟩ := loop32 (call32 N (by omega)) e hw hN (.iv (.agg (encE e))) (.iv (.int .i64 0)) [] e.ks.length 0 0 (.tup []) (by omega) (by omega)
  rw [show ((0 : Nat) : Int) = 0 from rfl,List.drop_zero,Nat.zero_max] at l1
  rw [encE_eq] at l1 ⊢
  simp (config := { maxSteps := 4000000 }) (disch := omega) only [t32,go_sem,TM.undef]
  rw [l1]
  simp (config := { maxSteps := 4000000 }) (disch := omega) only [go_sem]
mutual
theorem same_refl : ∀ d : Dt,same d d = true
 | .mk k n t g ks p => by rw [same,sames_refl ks]; simp
theorem sames_refl : ∀ l : List Dt,sames l l = true
 | [] => by rw [sames]
 | d :: ds => by rw [sames,same_refl d,sames_refl ds]; rfl
end
mutual
theorem eqE_refl : ∀ d : Ex,eqE d d = true
 | .mk k n gv vs r g ks => by rw [eqE,eqEs_refl ks]; simp
theorem eqEs_refl : ∀ l : List Ex,eqEs l l = true
 | [] => by rw [eqEs]
 | d :: ds => by rw [eqEs,eqE_refl d,eqEs_refl ds]; rfl
end
theorem addUp_le (f : Ex → Int) : ∀ (l : List Ex) (a : Int),0 ≤ a → (∀ x ∈ l,0 ≤ f x) → addUp 5000 f a l ≤ 2000 → a ≤ 2000 ∧ (∀ x ∈ l,f x ≤ 2000) ∧ ((∀ x ∈ l,(x.w : Int) ≤ f x) → a + (Ex.ws l : Nat) ≤ 2000)
 | [],a,_,_,h => by rw [addUp] at h; exact ⟨h,by simp,fun _ => by rw [Ex.ws]; omega⟩
 | d :: ds,a,h0,hp,h => by
  rw [addUp] at h
  have hd := hp d (by simp)
  split at h
  ·obtain ⟨h1,h2,h3⟩ := addUp_le f ds (a + f d) (by omega) (fun x hx => hp x (by simp [hx])) h
   refine ⟨by omega,fun x hx => ?_,fun hw => ?_⟩
   ·rcases List.mem_cons.1 hx with rfl | hx
    ·omega
    ·exact h2 x hx
   ·have := h3 (fun x hx => hw x (by simp [hx]))
    have := hw d (by simp)
    rw [Ex.ws]; omega
  ·omega
theorem nodesG_dp : ∀ (n : Nat) (e : Ex),nodesG n e ≤ 2000 → dp e < n ∧ (e.w : Int) ≤ 2000
 | 0,e,h => by rw [nodesG] at h; omega
 | n + 1,e,h => by
  have hwe := Ex.w_eq e
  rw [nodesG] at h
  obtain ⟨h1,h2,h3⟩ := addUp_le (nodesG n) e.ks (1 + e.vs.length) (by omega) (fun x _ => (nodesG_in n x).1) h
  have key : ∀ l : List Ex,(∀ x ∈ l,nodesG n x ≤ 2000) → dps l ≤ n := by
   intro l
   induction l with
   | nil => intro _; rw [dps]; omega
   | cons a r ih =>
    intro hl
    have := (nodesG_dp n a (hl a (by simp))).1
    have := ih (fun x hx => hl x (by simp [hx]))
    rw [dps]; omega
  refine ⟨by have := key e.ks h2; rw [dp_eq]; omega,?_⟩
  have hw : ∀ (n : Nat) (e : Ex),nodesG n e ≤ 2000 → (e.w : Int) ≤ nodesG n e := by
   intro n
   induction n with
   | zero => intro e h; rw [nodesG] at h; omega
   | succ n ih =>
    intro e h
    have hwe := Ex.w_eq e
    rw [nodesG] at h ⊢
    have q : ∀ (l : List Ex) (a : Int),0 ≤ a → addUp 5000 (nodesG n) a l ≤ 2000 → a + (Ex.ws l : Nat) ≤ addUp 5000 (nodesG n) a l := by
     intro l
     induction l with
     | nil => intro a _ _; rw [addUp,Ex.ws]; omega
     | cons d ds ihl =>
      intro a h0 h
      rw [addUp] at h ⊢
      have hd := (nodesG_in n d).1
      split at h
      ·rename_i c
       rw [if_pos c]
       have h4 := ihl (a + nodesG n d) (by omega) h
       have h5 := addUp_le (nodesG n) ds (a + nodesG n d) (by omega) (fun x _ => (nodesG_in n x).1) h
       have := ih d (by omega)
       rw [Ex.ws]; omega
      ·omega
    have := q e.ks (1 + e.vs.length) (by omega) h
    omega
  have := hw (n + 1) e (by rw [nodesG]; exact h)
  rw [nodesG] at this
  omega
theorem st_none : ∀ (N : Nat) (e : Ex),e.w ≤ N → stN e = 0 → gath asgA e = []
 | 0,e,hw,h => by have := Ex.w_eq e; omega
 | N + 1,e,hw,h => by
  rw [stN_eq] at h
  have key : ∀ l : List Ex,(∀ x ∈ l,x.w ≤ N) → stNs l = 0 → gaths asgA l = [] := by
   intro l
   induction l with
   | nil => intro _ _; rw [gaths]
   | cons a r ih =>
    intro hl h
    rw [stNs] at h
    rw [gaths,st_none N a (hl a (by simp)) (by omega),ih (fun x hx => hl x (by simp [hx])) (by omega)]; rfl
  have h4 : e.k ≠ 4 := fun hk => by rw [if_pos hk] at h; omega
  rw [if_neg h4] at h
  rw [gath_eq,key e.ks (fun x hx => by have := Ex.kid_lt hx; omega) (by omega),asgA,if_neg h4]; rfl
theorem cvVs_id {σ : Cv} (h : ∀ v,σ.f v = none) : ∀ l : List Int,cvVs σ l = (l,[],σ)
 | [] => rfl
 | v :: r => by
  have hs : stepV σ v = (v,[],σ) := by unfold stepV; rw [if_neg (by rw [h v]; decide)]
  rw [cvVs,hs]
  simp only [cvVs_id h r]; rfl
theorem cv_id (p : Pg) {σ : Cv} (h : ∀ v,σ.f v = none) : ∀ (N : Nat) (e : Ex),e.w ≤ N → Fr p e → stN e = 0 → eqE e (cvE σ e).1 = true ∧ (cvE σ e).2 = σ
 | 0,e,hw,hf,hs => by have := Ex.w_eq e; omega
 | N + 1,e,hw,hf,hs => by
  rw [Fr_eq] at hf
  rw [stN_eq] at hs
  have key : ∀ l : List Ex,(∀ x ∈ l,x.w ≤ N) → Frs p l → stNs l = 0 → eqEs l (cvEs σ l).1 = true ∧ (cvEs σ l).2 = σ := by
   intro l
   induction l with
   | nil => intro _ _ _; rw [cvEs_nil,eqEs]; exact ⟨rfl,rfl⟩
   | cons a r ih =>
    intro hl hf hs
    rw [Frs] at hf
    rw [stNs] at hs
    obtain ⟨h1,h2⟩ := cv_id p h N a (hl a (by simp)) hf.1 (by omega)
    obtain ⟨h3,h4⟩ := ih (fun x hx => hl x (by simp [hx])) hf.2 (by omega)
    rw [cvEs_cons,h2,eqEs,h1,h3]
    exact ⟨rfl,h4⟩
  have h4 : e.k ≠ 4 := fun hk => by rw [if_pos hk] at hs; omega
  rw [if_neg h4] at hs
  obtain ⟨k1,k2⟩ := key e.ks (fun x hx => by have := Ex.kid_lt hx; omega) hf.2 (by omega)
  rw [cvE_eq]
  by_cases h7 : e.k = 7
  ·obtain ⟨x,hks⟩ := one_kid (frm_ks hf.1 (.inl h7))
   have hn := (frm_lamE hf.1 h7).1
   rw [if_pos h7,cvVs_id h]
   simp only
   rw [k2]
   refine ⟨?_,rfl⟩
   rw [hks,cvEs_cons,cvEs_nil] at k1 ⊢
   simp only [List.headD_cons,lamB,if_pos] at k1 ⊢
   rw [eqE_eq]
   show (decide (e.k = 7) && decide (e.n = 0) && (e.r == e.r) && decide (e.vs = e.vs) && eqEs e.ks [(cvE σ x).1]) = true
   rw [h7,hn,hks,k1]
   simp
  ·rw [if_neg h7,if_neg (by rw [h]; simp),if_neg h4]
   refine ⟨?_,k2⟩
   rw [eqE_eq]
   show (decide (e.k = e.k) && decide (e.n = e.n) && (e.r == e.r) && decide (e.vs = e.vs) && eqEs e.ks (cvEs σ e.ks).1) = true
   rw [k1]
   simp
structure NoneOK (p q : Pg) : Prop where
 st : stN q.b = 0
 chk : chkF q = 0
 dep : dp q.b ≤ 3 * dp p.b + 2
 same : stN p.b = 0 → samP p q = true
 wt : q.b.w ≤ 4 * p.b.w
 cs : q.cs = p.cs
theorem none_ok {p : Pg} {set : List Int} (hc : chkF p = 0) (hd : dp p.b < 400) (hr : RiseOf set (gath asgA p.b)) : NoneOK p (cvA set p) := by
 obtain ⟨⟨g1,g2,g3⟩,hcs,h0⟩ := chkF_zero hc
 obtain ⟨f1,s1,t1,_,_⟩ := chk_to p _ p.b (Nat.le_refl _) _ _ _ _ h0
 have k1 := cv_ok p _ p.b ⟨fun v => if v ∈ set then some 0 else none,p.vr⟩ (Nat.le_refl _) f1 t1.nb (Int.le_refl _) g3
 have hx := cvE_nx _ p.b ⟨fun v => if v ∈ set then some 0 else none,p.vr⟩ (Nat.le_refl _)
 unfold cvA
 generalize hb : cvE ⟨fun v => if v ∈ set then some 0 else none,p.vr⟩ p.b = b at *
 obtain ⟨b,σ'⟩ := b
 simp only at k1 hx ⊢
 refine ⟨k1.no4,?_,k1.dep,fun hs => ?_,k1.wt,rfl⟩
 ·have hdep := k1.dep
  have hq := chk_of ⟨b,p.gl,σ'.nx,clT p.gc p.cs,p.cs⟩ _ b (Nat.le_refl _) 0 [] [] [] (k1.fr _ rfl rfl hx.1 (Int.le_refl _)) (by omega) (k1.sc [] [] s1 (by simp)) ⟨k1.nb,by simp,by rw [k1.cns]; exact t1.nc,by simp⟩
  unfold chkF
  rw [if_neg (by simp only; omega)]
  simp only
  rw [if_neg (by rw [hcs]; decide)]
  exact hq.1
 ·have hg := st_none _ p.b (Nat.le_refl _) hs
  have hset : set = [] := by
   cases set with
   | nil => rfl
   | cons a r => exact absurd ((hr.mem a).1 (by simp)) (by rw [hg]; simp)
  subst hset
  have hi := cv_id p (σ := ⟨fun v => if v ∈ ([] : List Int) then some 0 else none,p.vr⟩) (fun v => by simp) _ p.b (Nat.le_refl _) f1 hs
  rw [hb] at hi
  simp only at hi
  unfold samP
  simp only
  rw [hi.1,hi.2,sames_refl]
  simp
def retTrue' : Out (TV × Store) → Bool
 | .ret (.iv (.bool true),_) => true
 | _ => false
theorem pure_run' {n f : Nat} (h : retTrue' ((ex K n).call f [] []) = true) : TM.Pure K f [] (.iv (.bool true)) := by
 generalize hx : (ex K n).call f [] [] = x at h
 match x,h with
 | .ret (.iv (.bool true),S),_ => exact TM.pure_ret (S := S) (r := .iv (.bool true)) (lim_of hx) (by rw [resolve_iv])
theorem awake22 : retTrue' ((ex K 300).call 22 [] []) = true := by kernel_rfl
theorem awake : TM.Pure K 22 [] (.iv (.bool true)) := pure_run' awake22
theorem law7 (p : Pg) (hp : p.w ≤ 1048576) (hok : p.ok) : (lim K).call 7 [.iv (.agg (encP p))] [] = .ret (.iv (.bool true),[]) := by
 have hpw : p.b.w + Dt.ws p.cs ≤ 1048576 := hp
 obtain ⟨b1,l1,hb1⟩ := call21 p hp []
 refine call_ret' K _ (fn := t7) rfl rfl ?_
 cases b1 with
 | true =>
  unfold encP at l1 ⊢
  simp (config := { maxSteps := 4000000 }) (disch := omega) only [t7,go_sem,TM.undef,l1,cpR_pure awake]
 | false =>
  obtain ⟨hn,hv⟩ := hb1 rfl
  obtain ⟨hd,hw⟩ := nodesG_dp 400 p.b hn
  obtain ⟨q,e,c24,hq⟩ := call24 p hp hok hv
  have zz : samP zeroP zeroP = true := by rfl
  have c19 := fun S => call19 zeroP zeroP ⟨by decide,by decide⟩ ⟨by decide,by decide⟩ S
  rw [zz] at c19
  have herr : e ≠ 0 → q = zeroP → fin' t7.results (go' K (lim K) t7.body [] ([TV.iv (.agg (encP p))] ++ List.replicate (t7.nlocs - t7.nparams) TM.undef) []) = .ret (.iv (.bool true),[]) := by
   intro he hz
   subst hz
   have ez : encP zeroP = [.int .i64 0,.int .i64 0,.sl .nil [],.bool false,.sl .nil [],.int .i64 0,.int .i64 0,.sl .nil []] := by
    unfold encP zeroP
    simp [encEs,encDs,TM.one,Ex.k,Ex.n,Ex.gv,Ex.vs,Ex.r,Ex.g,Ex.ks]
   rw [ez] at c24 c19
   unfold encP at l1 c24 ⊢
   simp (config := { maxSteps := 4000000 }) (disch := omega) only [t7,go_sem,TM.undef,l1,cpR_pure c24,cpR_pure awake,he,c19]
  rcases hq with ⟨h0,hz,he⟩ | ⟨h0,hbx,hz,he⟩ | ⟨h0,hbx,he,set,hr,hqe⟩
  ·exact herr (by rw [he]; exact h0) hz
  ·exact herr (by rw [he]; decide) hz
  ·subst he
   have nk := none_ok h0 hd hr
   rw [← hqe] at nk
   have hqw : q.b.w ≤ 1048576 := by have := nk.wt; omega
   have hqc : Dt.ws q.cs ≤ 1048576 := by rw [nk.cs]; omega
   have cst := call31 1048576 (by omega) q.b hqw
   have csp := call31 1048576 (by omega) p.b (by omega)
   have cdq := call32 1048576 (by omega) q.b hqw
   have cdp := call32 1048576 (by omega) p.b (by omega)
   have cck := call13 q ⟨hqw,hqc⟩
   have csm := fun S => call19 p q ⟨by omega,by omega⟩ ⟨hqw,hqc⟩ S
   rw [nk.st] at cst
   rw [nk.chk] at cck
   have hdep := nk.dep
   rw [encE_eq] at cst csp cdq cdp
   have hle := stN_le _ p.b (Nat.le_refl _)
   have w1 : IntKind.i64.wrap (3 * (dp p.b : Int)) = 3 * (dp p.b : Int) := wrap_i64 (by omega)
   have w2 : IntKind.i64.wrap (3 * (dp p.b : Int) + 2) = 3 * (dp p.b : Int) + 2 := wrap_i64 (by omega)
   unfold encP at l1 c24 cck csm ⊢
   by_cases hs : stN p.b = 0
   ·have hsm := nk.same hs
    rw [hsm] at csm
    rw [hs] at csp
    rw [show ((0 : Nat) : Int) = 0 from rfl] at csp cst
    simp (config := { maxSteps := 4000000 }) (disch := omega) only [t7,go_sem,TM.undef,l1,cpR_pure c24,cpR_pure awake,cpR_pure cst,cpR_pure cck,cpR_pure cdq,cpR_pure cdp,cpR_pure csp,csm,w1,w2]
   ·rw [show ((0 : Nat) : Int) = 0 from rfl] at cst
    simp (config := { maxSteps := 4000000 }) (disch := omega) only [t7,go_sem,TM.undef,l1,cpR_pure c24,cpR_pure awake,cpR_pure cst,cpR_pure cck,cpR_pure cdq,cpR_pure cdp,cpR_pure csp,csm,w1,w2]
end Go.Proofs.YtookmpaholmmfaaGreatDoor
namespace Go.Proofs.YtookmpaholmmfaaGreatDoor
open Go Go.TM Go.ChangeShapes Go.WideShapes
theorem argP (l : List IV) : argOf Tryz.prog 28 l = .iv (.agg l) := argOf_agg (by rw [Tryz.underlying28])
theorem inv7 {H : Type} {ds : List (DataW H)} {ls : List (List IV)} (hh0 : AllTy Tryz.prog [28] ds ls) (hb : Rows.uptoBulkAll ds ≤ 1048576) : ((lim K).call 7 (argsOf Tryz.prog [28] ls) []).All fun r => r.1 = .iv (.bool true) := by
 obtain ⟨d0,l0,ds,ls,rfl,rfl,h0,hh1⟩ := allTy_consE hh0
 obtain rfl := allTy_nilD hh1
 rw [allTy_nil hh1]
 simp only [Rows.uptoBulkAll] at hb
 obtain ⟨p,rfl,b0,r0⟩ := readP h0
 simp only [argsOf,argP]
 rw [law7 p (by omega) r0]
 exact rfl
end Go.Proofs.YtookmpaholmmfaaGreatDoor
