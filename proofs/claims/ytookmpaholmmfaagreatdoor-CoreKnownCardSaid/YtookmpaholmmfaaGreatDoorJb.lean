/- Some texts of the proof, joined. Condition: none. -/
import Derived.Test.YtookmpaholmmfaaGreatDoorJa
set_option maxRecDepth 100000
set_option maxHeartbeats 64000000
set_option linter.unusedSimpArgs false
set_option linter.unusedVariables false
namespace Go.Proofs.YtookmpaholmmfaaGreatDoor
open Go Go.TM
theorem CkS.putC {p : Pg} {ic ib ik ir : Nat} {S : Store} {B C A : List Int} (h : CkS p ic ib ik ir S B C A) {lc : List (Nat × Int × Int)} {cc : Nat} (c1 : S[ik]? = some (.mp (mpR boxI lc) cc)) (c2 : ∀ v,cntR lc v = if v ∈ C then 1 else 0) (k : Int) :
  CkS p ic ib ik ir (S.set ik (.mp (mpR boxI (putR lc cc k 1)) (clkR lc cc k))) B (k :: C) A := by
 refine ⟨h.cb,h.ck,h.cr,h.bk,h.br,h.kr,?_,h.b.keep (get_setN (Ne.symm h.bk) _),MapHas.put c1 c2 k,h.a.keep (get_setN h.kr _),h.sub⟩
 rw [get_setN (Ne.symm h.ck)]; exact h.at'
theorem tail44 {N : Nat} (p : Pg) (ic ib ik ir : Nat) (ih : ChkOK p ic ib ik ir N) (e : Ex) (hw : e.w ≤ N + 1) (hN : N + 1 ≤ 1048576) (depth : Nat) (hd : depth < 4000) (A B1 C1 : List Int) (hB : ∀ v ∈ e.vs,v ∉ A) (x1 x3 x5 x6 x7 x8 x9 x10 x11 x12 x13 x14 x15 x16 x17 x18 x22 x23 x24 x25 x26 x27 : TV) (S : Store) (hs : CkS p ic ib ik ir S B1 C1 (e.vs ++ A)) :
  ∃ j r y6 y7 y21 y22 y23 S2,(j = .ret ∧ r = .iv (.int .i64 (chks p e.ks (depth + 1) B1 C1 (e.vs ++ A)).1) ∧ (chks p e.ks (depth + 1) B1 C1 (e.vs ++ A)).1 ≠ 0 ∧ Keep [ib,ik,ir] S S2 ∨
    j = .exit 3 ∧ r = .iv (.int .i64 0) ∧ (chks p e.ks (depth + 1) B1 C1 (e.vs ++ A)).1 = 0 ∧ ∃ (y8 y27 : TV) (S3 : Store),CkS p ic ib ik ir S3 (chks p e.ks (depth + 1) B1 C1 (e.vs ++ A)).2.1 (chks p e.ks (depth + 1) B1 C1 (e.vs ++ A)).2.2 A ∧ Keep [ib,ik,ir] S S3 ∧
     lp' (lim K) t44L0 [.ptr ic 58 0,x1,.iv (.int .i64 depth),x3,.iv (.int .i64 0),x5,y6,y7,x8,x9,x10,x11,x12,x13,x14,x15,x16,x17,x18,.iv (.sl e.g (encEs e.ks)),.iv (.int .i64 e.ks.length),y21,y22,y23,.iv (.sl e.gv (TM.one (.int .i64) e.vs)),.iv (.int .i64 e.vs.length),.iv (.int .i64 0),x27] S2
      = .ret (.exit 5,[.ptr ic 58 0,x1,.iv (.int .i64 depth),x3,.iv (.int .i64 0),x5,y6,y7,y8,x9,x10,x11,x12,x13,x14,x15,x16,x17,x18,.iv (.sl e.g (encEs e.ks)),.iv (.int .i64 e.ks.length),y21,y22,y23,.iv (.sl e.gv (TM.one (.int .i64) e.vs)),.iv (.int .i64 e.vs.length),.iv (.int .i64 e.vs.length),y27],S3)) ∧
   lp' (lim K) t44L1 [.ptr ic 58 0,x1,.iv (.int .i64 depth),x3,.iv (.int .i64 0),x5,x6,x7,x8,x9,x10,x11,x12,x13,x14,x15,x16,x17,x18,.iv (.sl e.g (encEs e.ks)),.iv (.int .i64 e.ks.length),.iv (.int .i64 0),x22,x23,x24,x25,x26,x27] S
    = .ret (j,[.ptr ic 58 0,x1,.iv (.int .i64 depth),x3,r,x5,y6,y7,x8,x9,x10,x11,x12,x13,x14,x15,x16,x17,x18,.iv (.sl e.g (encEs e.ks)),.iv (.int .i64 e.ks.length),y21,y22,y23,x24,x25,x26,x27],S2) := by
 have hwe := Ex.w_eq e
 obtain ⟨j,r,y6,y7,y21,y22,y23,S2,hj,hk,l1⟩ := loop44k p ic ib ik ir ih e hw hN depth hd (e.vs ++ A) x1 x3 (.iv (.int .i64 0)) x5 x8 x9 x10 x11 x12 x13 x14 x15 x16 x17 x18 x24 x25 x26 x27 e.ks.length 0 x6 x7 x22 x23 S B1 C1 (by omega) hs
 rw [show ((0 : Nat) : Int) = 0 from rfl] at l1
 rw [List.drop_zero] at hj
 refine ⟨j,r,y6,y7,y21,y22,y23,S2,?_,l1⟩
 rcases hj with ⟨h1,h2,h3⟩ | ⟨h1,h2,h3,h4⟩
 ·exact .inl ⟨h1,h2,h3,hk⟩
 ·obtain ⟨y8,y27,S3,h5,hk2,l2⟩ := loop44u p ic ib ik ir e (by omega) _ _ x1 (.iv (.int .i64 depth)) x3 (.iv (.int .i64 0)) x5 y6 y7 x9 x10 x11 x12 x13 x14 x15 x16 x17 x18 (.iv (.sl e.g (encEs e.ks))) (.iv (.int .i64 e.ks.length)) y21 y22 y23 e.vs.length 0 x8 x27 S2 _ (by omega) h4
  rw [show ((0 : Nat) : Int) = 0 from rfl] at l2
  rw [List.drop_zero] at h5
  refine .inr ⟨h1,h2,h3,y8,y27,S3,h5 A (fun v => ?_),hk.trans hk2,l2⟩
  simp only [List.mem_append]
  constructor
  ·exact fun hv => ⟨.inr hv,fun hm => hB v hm hv⟩
  ·rintro ⟨h | h,h'⟩
   ·exact absurd h h'
   ·exact h
theorem call44 (p : Pg) (hp : p.cs.length ≤ 2000000) (ic ib ik ir : Nat) : ∀ N,N ≤ 1048576 → ChkOK p ic ib ik ir N
 | 0,hN => fun e depth S B C A hw hd hs => by have := Ex.w_eq e; omega
 | N + 1,hN => fun e depth S B C A hw hd hs => by
  have hwe := Ex.w_eq e
  rw [chk_eq]
  by_cases hdp : 4000 ≤ depth
  ·rw [if_pos hdp]
   refine ⟨S,call_ret' K _ (fn := t44) rfl rfl ?_,.refl _ _,fun h => absurd h (by decide : ¬ ((5 : Int) = 0))⟩
   rw [encE_eq]
   simp (config := { maxSteps := 4000000 }) (disch := omega) only [t44,go_sem,TM.undef]
  rw [if_neg hdp]
  obtain ⟨S1,h87,hk1⟩ := call87 p ib ik ir ic e (by omega) S hs.at' hp
  rw [encE_eq] at h87
  have hs1 := hs.keep hk1
  have hkk : Keep [ib,ik,ir] S S1 := hk1.mono (by simp)
  cases hf : frmF p e with
  | false =>
   rw [if_pos rfl]
   rw [hf] at h87
   refine ⟨S1,call_ret' K _ (fn := t44) rfl rfl ?_,hkk,fun h => absurd h (by decide : ¬ ((4 : Int) = 0))⟩
   rw [encE_eq]
   simp (config := { maxSteps := 4000000 }) (disch := omega) only [t44,go_sem,TM.undef,h87]
  | true =>
   rw [if_neg (by decide)]
   rw [hf] at h87
   obtain ⟨j,r,y5,y13,y14,y15,S2,hj,hk2,l2⟩ := loop44b p ic ib ik ir e (by omega) C (.iv (.agg (encE e))) (.iv (.int .i64 depth)) (lbE e) (.iv (.int .i64 0)) (.tup []) (.tup []) (.tup []) (.iv (.bool false)) (.iv (.bool false)) (.tup []) (.tup []) (.tup []) (.tup []) (.tup []) (.tup []) (.tup []) (.tup []) (.tup []) (.tup []) (.tup []) (.tup []) e.vs.length 0 (.tup []) (.tup []) (.tup []) S1 B A (by omega) hs1
   rw [show ((0 : Nat) : Int) = 0 from rfl] at l2
   rw [List.drop_zero] at hj
   rcases hj with ⟨rfl,rfl,ha⟩ | ⟨rfl,rfl,B1,ha,hs2⟩
   ·rw [ha]
    refine ⟨S2,call_ret' K _ (fn := t44) rfl rfl ?_,hkk.trans hk2,fun h => absurd h (by decide : ¬ ((14 : Int) = 0))⟩
    rw [encE_eq] at l2 ⊢
    simp (config := { maxSteps := 4000000 }) (disch := omega) only [t44,go_sem,TM.undef,h87,TM.one_length]
    rw [l2]
    simp (config := { maxSteps := 4000000 }) (disch := omega) only [go_sem]
   ·rw [ha]
    simp only
    obtain ⟨m1,m2,m3⟩ := addV_mem ha
    have hs2' : CkS p ic ib ik ir S2 B1 C (e.vs ++ A) := hs2.congrA (fun v => by simp)
    have hB : ∀ v ∈ e.vs,v ∉ A := fun v hv hA => m2 v hv (hs.sub v hA)
    obtain ⟨lc,cc,c1,c2⟩ := hs2'.c
    obtain ⟨la,ca,a1,a2⟩ := hs2'.a
    have hat := hs2'.at'
    have c2n := c2 e.n
    have a2n := a2 e.n
    have n1 := hs.cb
    have n2 := hs.ck
    have n3 := hs.cr
    have n4 := hs.bk
    have n5 := hs.br
    have n6 := hs.kr
    by_cases hk1 : e.k = 1
    ·by_cases hm : e.n ∈ C
     ·rw [if_pos ⟨hk1,hm⟩]
      rw [if_pos hm] at c2n
      refine ⟨S2,call_ret' K _ (fn := t44) rfl rfl ?_,hkk.trans hk2,fun h => absurd h (by decide : ¬ ((14 : Int) = 0))⟩
      rw [encE_eq] at l2 ⊢
      simp (config := { maxSteps := 4000000 }) (disch := omega) only [t44,go_sem,TM.undef,h87,TM.one_length]
      rw [l2]
      simp (config := { maxSteps := 4000000 }) (disch := omega) only [go_sem,hat,c1,c2n]
     ·rw [if_neg (fun h => hm h.2),if_neg (by omega),if_pos hk1]
      rw [if_neg hm] at c2n
      have hs3 := hs2'.putC c1 c2 e.n
      obtain ⟨j,r,y6,y7,y21,y22,y23,S4,hj,l3⟩ := tail44 p ic ib ik ir (call44 p hp ic ib ik ir N (by omega)) e hw hN depth (by omega) A B1 (e.n :: C) hB (.iv (.agg (encE e))) (lbE e) y5 (.tup []) (.tup []) (.tup []) (.iv (.bool false)) (.iv (.bool false)) (.iv (.sl e.gv (TM.one (.int .i64) e.vs))) (.iv (.int .i64 e.vs.length)) y13 y14 y15 (.iv (.bool true)) (.iv (.bool false)) (.iv (.bool false)) (.tup []) (.tup []) (.tup []) (.tup []) (.tup []) (.tup []) _ hs3
      rcases hj with ⟨rfl,rfl,hne,hk4⟩ | ⟨rfl,rfl,h0,y8,y27,S5,hs5,hk5,l5⟩
      ·refine ⟨S4,call_ret' K _ (fn := t44) rfl rfl ?_,(hkk.trans hk2).trans ((Keep.set _ (by simp) _).trans hk4),fun h => absurd h hne⟩
       rw [encE_eq] at l2 l3 ⊢
       simp (config := { maxSteps := 4000000 }) (disch := omega) only [t44,go_sem,TM.undef,h87,TM.one_length]
       rw [l2]
       simp (config := { maxSteps := 4000000 }) (disch := omega) only [go_sem,hat,c1,c2n,encEs_len]
       rw [l3]
       simp (config := { maxSteps := 4000000 }) (disch := omega) only [go_sem]
      ·refine ⟨S5,call_ret' K _ (fn := t44) rfl rfl ?_,(hkk.trans hk2).trans ((Keep.set _ (by simp) _).trans hk5),fun _ => hs5⟩
       rw [h0]
       rw [encE_eq] at l2 l3 l5 ⊢
       simp (config := { maxSteps := 4000000 }) (disch := omega) only [t44,go_sem,TM.undef,h87,TM.one_length]
       rw [l2]
       simp (config := { maxSteps := 4000000 }) (disch := omega) only [go_sem,hat,c1,c2n,encEs_len]
       rw [l3]
       simp (config := { maxSteps := 4000000 }) (disch := omega) only [go_sem,TM.one_length]
       rw [l5]
       simp (config := { maxSteps := 4000000 }) (disch := omega) only [go_sem]
    ·rw [if_neg (fun h => hk1 h.1),if_neg hk1]
     by_cases hk24 : e.k = 2 ∨ e.k = 4
     ·by_cases hm : e.n ∈ e.vs ++ A
      ·rw [if_neg (fun h => h.2 hm)]
       rw [if_pos hm] at a2n
       rcases hk24 with hk24 | hk24
       ·obtain ⟨j,r,y6,y7,y21,y22,y23,S4,hj,l3⟩ := tail44 p ic ib ik ir (call44 p hp ic ib ik ir N (by omega)) e hw hN depth (by omega) A B1 C hB (.iv (.agg (encE e))) (lbE e) y5 (.tup []) (.tup []) (.tup []) (.iv (.bool false)) (.iv (.bool false)) (.iv (.sl e.gv (TM.one (.int .i64) e.vs))) (.iv (.int .i64 e.vs.length)) y13 y14 y15 (.iv (.bool false)) (.tup []) (.iv (.bool false)) (.tup []) (.tup []) (.tup []) (.tup []) (.tup []) (.tup []) _ hs2'
        rcases hj with ⟨rfl,rfl,hne,hk4⟩ | ⟨rfl,rfl,h0,y8,y27,S5,hs5,hk5,l5⟩
        ·refine ⟨S4,call_ret' K _ (fn := t44) rfl rfl ?_,(hkk.trans hk2).trans hk4,fun h => absurd h hne⟩
         rw [encE_eq] at l2 l3 ⊢
         simp (config := { maxSteps := 4000000 }) (disch := omega) only [t44,go_sem,TM.undef,h87,TM.one_length]
         rw [l2]
         simp (config := { maxSteps := 4000000 }) (disch := omega) only [go_sem,hat,encEs_len,a1,a2n]
         rw [l3]
         simp (config := { maxSteps := 4000000 }) (disch := omega) only [go_sem]
        ·refine ⟨S5,call_ret' K _ (fn := t44) rfl rfl ?_,(hkk.trans hk2).trans hk5,fun _ => hs5⟩
         rw [h0]
         rw [encE_eq] at l2 l3 l5 ⊢
         simp (config := { maxSteps := 4000000 }) (disch := omega) only [t44,go_sem,TM.undef,h87,TM.one_length]
         rw [l2]
         simp (config := { maxSteps := 4000000 }) (disch := omega) only [go_sem,hat,encEs_len,a1,a2n]
         rw [l3]
         simp (config := { maxSteps := 4000000 }) (disch := omega) only [go_sem,TM.one_length]
         rw [l5]
         simp (config := { maxSteps := 4000000 }) (disch := omega) only [go_sem]
       ·obtain ⟨j,r,y6,y7,y21,y22,y23,S4,hj,l3⟩ := tail44 p ic ib ik ir (call44 p hp ic ib ik ir N (by omega)) e hw hN depth (by omega) A B1 C hB (.iv (.agg (encE e))) (lbE e) y5 (.tup []) (.tup []) (.tup []) (.iv (.bool false)) (.iv (.bool false)) (.iv (.sl e.gv (TM.one (.int .i64) e.vs))) (.iv (.int .i64 e.vs.length)) y13 y14 y15 (.iv (.bool false)) (.tup []) (.iv (.bool false)) (.tup []) (.tup []) (.tup []) (.tup []) (.tup []) (.tup []) _ hs2'
        rcases hj with ⟨rfl,rfl,hne,hk4⟩ | ⟨rfl,rfl,h0,y8,y27,S5,hs5,hk5,l5⟩
        ·refine ⟨S4,call_ret' K _ (fn := t44) rfl rfl ?_,(hkk.trans hk2).trans hk4,fun h => absurd h hne⟩
         rw [encE_eq] at l2 l3 ⊢
         simp (config := { maxSteps := 4000000 }) (disch := omega) only [t44,go_sem,TM.undef,h87,TM.one_length]
         rw [l2]
         simp (config := { maxSteps := 4000000 }) (disch := omega) only [go_sem,hat,encEs_len,a1,a2n]
         rw [l3]
         simp (config := { maxSteps := 4000000 }) (disch := omega) only [go_sem]
        ·refine ⟨S5,call_ret' K _ (fn := t44) rfl rfl ?_,(hkk.trans hk2).trans hk5,fun _ => hs5⟩
         rw [h0]
         rw [encE_eq] at l2 l3 l5 ⊢
         simp (config := { maxSteps := 4000000 }) (disch := omega) only [t44,go_sem,TM.undef,h87,TM.one_length]
         rw [l2]
         simp (config := { maxSteps := 4000000 }) (disch := omega) only [go_sem,hat,encEs_len,a1,a2n]
         rw [l3]
         simp (config := { maxSteps := 4000000 }) (disch := omega) only [go_sem,TM.one_length]
         rw [l5]
         simp (config := { maxSteps := 4000000 }) (disch := omega) only [go_sem]
      ·rw [if_pos ⟨hk24,hm⟩]
       rw [if_neg hm] at a2n
       refine ⟨S2,call_ret' K _ (fn := t44) rfl rfl ?_,hkk.trans hk2,fun h => absurd h (by decide : ¬ ((6 : Int) = 0))⟩
       rw [encE_eq] at l2 ⊢
       rcases hk24 with hk24 | hk24
       ·simp (config := { maxSteps := 4000000 }) (disch := omega) only [t44,go_sem,TM.undef,h87,TM.one_length]
        rw [l2]
        simp (config := { maxSteps := 4000000 }) (disch := omega) only [go_sem,hat,a1,a2n]
       ·simp (config := { maxSteps := 4000000 }) (disch := omega) only [t44,go_sem,TM.undef,h87,TM.one_length]
        rw [l2]
        simp (config := { maxSteps := 4000000 }) (disch := omega) only [go_sem,hat,a1,a2n]
     ·rw [if_neg (fun h => hk24 h.1)]
      have hk2' : e.k ≠ 2 := fun h => hk24 (.inl h)
      have hk4' : e.k ≠ 4 := fun h => hk24 (.inr h)
      obtain ⟨j,r,y6,y7,y21,y22,y23,S4,hj,l3⟩ := tail44 p ic ib ik ir (call44 p hp ic ib ik ir N (by omega)) e hw hN depth (by omega) A B1 C hB (.iv (.agg (encE e))) (lbE e) y5 (.tup []) (.tup []) (.tup []) (.iv (.bool false)) (.iv (.bool false)) (.iv (.sl e.gv (TM.one (.int .i64) e.vs))) (.iv (.int .i64 e.vs.length)) y13 y14 y15 (.iv (.bool false)) (.tup []) (.iv (.bool false)) (.tup []) (.tup []) (.tup []) (.tup []) (.tup []) (.tup []) _ hs2'
      rcases hj with ⟨rfl,rfl,hne,hk4⟩ | ⟨rfl,rfl,h0,y8,y27,S5,hs5,hk5,l5⟩
      ·refine ⟨S4,call_ret' K _ (fn := t44) rfl rfl ?_,(hkk.trans hk2).trans hk4,fun h => absurd h hne⟩
       rw [encE_eq] at l2 l3 ⊢
       simp (config := { maxSteps := 4000000 }) (disch := omega) only [t44,go_sem,TM.undef,h87,TM.one_length]
       rw [l2]
       simp (config := { maxSteps := 4000000 }) (disch := omega) only [go_sem,hat,encEs_len]
       rw [l3]
       simp (config := { maxSteps := 4000000 }) (disch := omega) only [go_sem]
      ·refine ⟨S5,call_ret' K _ (fn := t44) rfl rfl ?_,(hkk.trans hk2).trans hk5,fun _ => hs5⟩
       rw [h0]
       rw [encE_eq] at l2 l3 l5 ⊢
       simp (config := { maxSteps := 4000000 }) (disch := omega) only [t44,go_sem,TM.undef,h87,TM.one_length]
       rw [l2]
       simp (config := { maxSteps := 4000000 }) (disch := omega) only [go_sem,hat,encEs_len]
       rw [l3]
       simp (config := { maxSteps := 4000000 }) (disch := omega) only [go_sem,TM.one_length]
       rw [l5]
       simp (config := { maxSteps := 4000000 }) (disch := omega) only [go_sem]
theorem loop13 (p : Pg) (hp : p.b.w ≤ 1048576 ∧ Dt.ws p.cs ≤ 1048576) (x0 x1 x4 x5 : TV) (S : Store) : ∀ (k i : Nat) (x3 x9 x10 : TV),i + k = p.cs.length →
  ∃ j r y3 y8 y9 y10,(j = .ret ∧ r = .iv (.int .i64 2) ∧ ((p.cs.drop i).all fun d => mayF d && plF d) = false ∨ j = .exit 0 ∧ r = .iv (.int .i64 0) ∧ ((p.cs.drop i).all fun d => mayF d && plF d) = true) ∧
   lp' (lim K) t13L0 [x0,x1,.iv (.int .i64 0),x3,x4,x5,.iv (.sl p.gc (encDs p.cs)),.iv (.int .i64 p.cs.length),.iv (.int .i64 (i : Int)),x9,x10] S = .ret (j,[x0,x1,r,y3,x4,x5,.iv (.sl p.gc (encDs p.cs)),.iv (.int .i64 p.cs.length),y8,y9,y10],S)
 | 0,i,x3,x9,x10,h => by
  obtain rfl : i = p.cs.length := by omega
  refine ⟨.exit 0,.iv (.int .i64 0),?_,?_,?_,?_,.inr ⟨rfl,rfl,by rw [List.drop_length]; rfl⟩,loop_at K _ _ t13L0.eq_1 ?_⟩
  rotate_left 4
  ·simp (config := { maxSteps := 4000000 }) (disch := omega) only [go_sem]
   rfl
 | k + 1,i,x3,x9,x10,h => by
  have hpw := hp
  have hla : i < p.cs.length := by omega
  have hwl := Dt.ws_len p.cs
  have hix := ixD (g := p.gc) (ks := p.cs) (i := (i : Int)) (by omega)
  rw [Int.toNat_natCast] at hix
  have hdr := drop_get hla
  have hxw := Dt.ws_mem (get_mem hla)
  generalize hx : p.cs.getD i default = x at *
  have hm := call42 1048576 (by omega) x (by omega)
  have hq := call43 1048576 (by omega) x (by omega)
  rw [encD_eq] at hm hq
  cases h1 : mayF x with
  | false =>
   rw [h1] at hm
   refine ⟨.ret,.iv (.int .i64 2),?_,?_,?_,?_,.inl ⟨rfl,rfl,by rw [hdr,List.all_cons,h1,Bool.false_and,Bool.false_and]⟩,loop_at K _ _ t13L0.eq_1 ?_⟩
   rotate_left 4
   ·simp (config := { maxSteps := 4000000 }) (disch := omega) only [go_sem,hix,getD5,cpR_pure hm]
    rfl
  | true =>
   rw [h1] at hm
   cases h2 : plF x with
   | false =>
    rw [h2] at hq
    refine ⟨.ret,.iv (.int .i64 2),?_,?_,?_,?_,.inl ⟨rfl,rfl,by rw [hdr,List.all_cons,h1,h2,Bool.true_and,Bool.false_and]⟩,loop_at K _ _ t13L0.eq_1 ?_⟩
    rotate_left 4
    ·simp (config := { maxSteps := 4000000 }) (disch := omega) only [go_sem,hix,getD5,cpR_pure hm,cpR_pure hq]
     rfl
   | true =>
    rw [h2] at hq
    obtain ⟨j,r,y3,y8,y9,y10,hj,ih⟩ := loop13 p hp x0 x1 x4 x5 S k (i + 1) (lbD' x) (.iv (.bool true)) (.iv (.bool false)) (by omega)
    rw [show ((i + 1 : Nat) : Int) = (i : Int) + 1 by omega] at ih
    refine ⟨j,r,y3,y8,y9,y10,?_,loop_at K _ _ t13L0.eq_1 ?_⟩
    ·rw [hdr,List.all_cons,h1,h2,Bool.true_and,Bool.true_and]; exact hj
    ·simp (config := { maxSteps := 4000000 }) (disch := omega) only [go_sem,hix,getD5,cpR_pure hm,cpR_pure hq,wrap_i64]
     exact congrArg er ih
def chkF (p : Pg) : Int := if p.gl < 0 ∨ 20000 < p.gl ∨ p.vr < 0 then 2 else if (p.cs.all fun d => mayF d && plF d) = false then 2 else (chk p p.b 0 [] [] []).1
theorem call13 (p : Pg) (hp : p.b.w ≤ 1048576 ∧ Dt.ws p.cs ≤ 1048576) : TM.Pure K 13 [.iv (.agg (encP p))] (.iv (.int .i64 (chkF p))) := by
 have hpw := hp
 have hwl := Dt.ws_len p.cs
 unfold chkF
 by_cases hg : p.gl < 0 ∨ 20000 < p.gl ∨ p.vr < 0
 ·rw [if_pos hg]
  refine pure_ret (S := []) (r := .iv (.int .i64 2)) (call_ret' K _ (fn := t13) rfl rfl ?_) (by rw [resolve_iv])
  unfold encP
  by_cases g1 : p.gl < 0
  ·simp (config := { maxSteps := 4000000 }) (disch := omega) only [t13,go_sem,TM.undef]
  ·by_cases g2 : 20000 < p.gl
   ·simp (config := { maxSteps := 4000000 }) (disch := omega) only [t13,go_sem,TM.undef]
   ·simp (config := { maxSteps := 4000000 }) (disch := omega) only [t13,go_sem,TM.undef]
 rw [if_neg hg]
 obtain ⟨j,r,y3,y8,y9,y10,hj,ih⟩ := loop13 p hp (.iv (.agg (encP p))) (lbP p) (.tup []) (.iv (.bool false)) [] p.cs.length 0 (.tup []) (.tup []) (.tup []) (by omega)
 rw [show ((0 : Nat) : Int) = 0 from rfl] at ih
 rw [List.drop_zero] at hj
 rcases hj with ⟨rfl,rfl,ha⟩ | ⟨rfl,rfl,ha⟩
 ·rw [if_pos ha]
  refine pure_ret (S := []) (r := .iv (.int .i64 2)) (call_ret' K _ (fn := t13) rfl rfl ?_) (by rw [resolve_iv])
  unfold encP at ih ⊢
  simp (config := { maxSteps := 4000000 }) (disch := omega) only [t13,go_sem,TM.undef,encDs_len]
  rw [ih]
  simp (config := { maxSteps := 4000000 }) (disch := omega) only [go_sem]
 ·rw [if_neg (by rw [ha]; decide)]
  have hs : CkS p 3 0 1 2 [.mp (mpR boxI []) 0,.mp (mpR boxI []) 0,.mp (mpR boxI []) 0,ckB p 0 1 2] [] [] [] := by
   refine ⟨by decide,by decide,by decide,by decide,by decide,by decide,rfl,⟨[],0,rfl,?_⟩,⟨[],0,rfl,?_⟩,⟨[],0,rfl,?_⟩,by simp⟩ <;> intro v <;> simp [cntR,TM.getR]
  obtain ⟨S',hc,_,_⟩ := call44 p (by omega) 3 0 1 2 1048576 (by omega) p.b 0 _ [] [] [] (by omega) (by omega) hs
  refine pure_ret (S := S') (r := .iv (.int .i64 (chk p p.b 0 [] [] []).1)) (call_ret' K _ (fn := t13) rfl rfl ?_) (by rw [resolve_iv])
  rw [mpR_nil,encE_eq,show ((0 : Nat) : Int) = 0 from rfl] at hc
  simp only [ckB,cellsP,List.cons_append,List.nil_append] at hc
  unfold encP at ih ⊢
  simp (config := { maxSteps := 4000000 }) (disch := omega) only [t13,go_sem,TM.undef,encDs_len]
  rw [ih]
  simp (config := { maxSteps := 4000000 }) (disch := omega) only [go_sem,hc]
theorem call34 (n : Int) (S : Store) : (lim K).call 34 [.iv (.int .i64 n)] S = .ret (.iv (.agg [.int .i64 1,.int .i64 n,.sl .nil [],.bool false,.sl .nil []]),S) := by
 refine call_ret' K _ (fn := t34) rfl rfl ?_
 simp (config := { maxSteps := 4000000 }) (disch := omega) only [t34,go_sem,TM.undef]
theorem call35 (n : Int) (S : Store) : (lim K).call 35 [.iv (.int .i64 n)] S = .ret (.iv (.agg [.int .i64 3,.int .i64 n,.sl .nil [],.bool false,.sl .nil []]),S) := by
 refine call_ret' K _ (fn := t35) rfl rfl ?_
 simp (config := { maxSteps := 4000000 }) (disch := omega) only [t35,go_sem,TM.undef]
theorem call37 (n : Int) (S : Store) : (lim K).call 37 [.iv (.int .i64 n)] S = .ret (.iv (.agg [.int .i64 2,.int .i64 n,.sl .nil [],.bool false,.sl .nil []]),S) := by
 refine call_ret' K _ (fn := t37) rfl rfl ?_
 simp (config := { maxSteps := 4000000 }) (disch := omega) only [t37,go_sem,TM.undef]
theorem call73 (t : Tag) (l : List (List IV)) (S : Store) : (lim K).call 73 [.iv (.sl t l)] S = .ret (.iv (.agg [.int .i64 8,.int .i64 0,.sl .nil [],.bool false,.sl t l]),S) := by
 refine call_ret' K _ (fn := t73) rfl rfl ?_
 simp (config := { maxSteps := 4000000 }) (disch := omega) only [t73,go_sem,TM.undef]
def conE (n : Int) : Ex := .mk 1 n .nil [] false .nil []
abbrev lamL : List IV := [.int .i64 7,.int .i64 0,.sl .full [[.int .i64 0],[.int .i64 1]],.bool true,.sl .full [[.int .i64 6,.int .i64 0,.sl .nil [],.bool false,.sl .full [[.int .i64 2,.int .i64 0,.sl .nil [],.bool false,.sl .nil []],[.int .i64 8,.int .i64 0,.sl .nil [],.bool false,.sl .full [[.int .i64 3,.int .i64 0,.sl .nil [],.bool false,.sl .nil []],[.int .i64 2,.int .i64 1,.sl .nil [],.bool false,.sl .nil []]]],[.int .i64 1,.int .i64 0,.sl .nil [],.bool false,.sl .nil []]]]]]
theorem call36 (S : Store) : (lim K).call 36 [] S = .ret (.iv (.agg lamL),S) := by
 refine call_ret' K _ (fn := t36) rfl rfl ?_
 simp (config := { maxSteps := 4000000 }) (disch := omega) only [t36,go_sem,TM.undef,call34,call35,call37,call73]
def dC (k : Int) (s : List UInt8) : List TV := [.iv (.int .i64 k),.iv (.int .i64 0),.iv (.str s),.iv (.sl .nil []),.iv (.int .i64 0)]
def givC (s : List UInt8) : Block := .cells 0 false (dC 2 s ++ dC 4 [97])
def eC (l : List IV) : List TV := l.map .iv
def setL : List IV := [.int .i64 5,.int .i64 0,.sl .nil [],.bool false,.sl .full [lamL]]
def calL (k n : Int) : List IV := [.int .i64 8,.int .i64 0,.sl .nil [],.bool false,.sl .full [[.int .i64 3,.int .i64 0,.sl .nil [],.bool false,.sl .nil []],[.int .i64 k,.int .i64 n,.sl .nil [],.bool false,.sl .nil []]]]
def givB (l : List IV) : Block := .cells 0 false (eC setL ++ eC l)
abbrev givV (i : Nat) : List TV := [.iv (.int .i64 10),.iv (.int .i64 0),.iv (.sl .nil []),.iv (.bool false),.msl (i + 1) 0 0 2 2 5,.iv (.int .i64 1),.iv (.int .i64 2),.msl i 0 0 2 2 5]
theorem call33 (k n : Int) (S : Store) : (lim K).call 33 [.iv (.agg [.int .i64 k,.int .i64 n,.sl .nil [],.bool false,.sl .nil []])] S = .ret (.agg (givV S.length),S ++ [givC [53]] ++ [givB (calL k n)]) := by
 refine call_ret' K _ (fn := t33) rfl rfl ?_
 simp (config := { maxSteps := 4000000 }) (disch := omega) only [t33,go_sem,TM.undef,call34,call35,call36,call37,call73]
 rw [List.length_append]
 rfl
def deepE : Nat → Ex
 | 0 => conE 0
 | k + 1 => .mk 10 0 .nil [] false .full [deepE k]
theorem loop8 (x0 x1 x2 x3 x4 x7 x8 : TV) (S : Store) : ∀ (k i : Nat) (x9 : TV),i + k = 4000 →
  ∃ y9,lp' (lim K) t8L0 [x0,x1,x2,x3,x4,lbE (deepE i),.iv (.int .i64 i),x7,x8,x9] S = .ret (.exit 0,[x0,x1,x2,x3,x4,lbE (deepE 4000),.iv (.int .i64 4000),x7,x8,y9],S)
 | 0,i,x9,h => by
  obtain rfl : i = 4000 := by omega
  refine ⟨.iv (.bool false),loop_at K _ _ t8L0.eq_1 ?_⟩
  rw [show ((4000 : Nat) : Int) = 4000 from rfl]
  generalize deepE 4000 = e
  simp (config := { maxSteps := 4000000 }) (disch := omega) only [go_sem]
 | k + 1,i,x9,h => by
  obtain ⟨y9,ih⟩ := loop8 x0 x1 x2 x3 x4 x7 x8 S k (i + 1) (.iv (.bool true)) (by omega)
  rw [show ((i + 1 : Nat) : Int) = (i : Int) + 1 by omega] at ih
  refine ⟨y9,loop_at K _ _ t8L0.eq_1 ?_⟩
  have hi : (i : Int) < 4000 := by omega
  generalize deepE 4000 = e4 at *
  rw [deepE] at ih
  generalize deepE i = e at *
  have hlb : lbE (Ex.mk 10 0 .nil [] false .full [e]) = .lb [.iv (.int .i64 10),.iv (.int .i64 0),.iv (.sl .nil []),.iv (.bool false),.iv (.sl .full [[.int .i64 e.k,.int .i64 e.n,.sl e.gv (TM.one (.int .i64) e.vs),.bool e.r,.sl e.g (encEs e.ks)]])] := by
   rw [← encE_eq]; rfl
  rw [hlb] at ih
  simp (config := { maxSteps := 4000000 }) (disch := omega) only [go_sem,hi,wrap_i64]
  exact congrArg er ih
def runV (x : Out (TV × Store)) : Option TV := match x with
 | .ret r => TM.resolve r.2 r.1
 | _ => none
theorem pure_run (n : Nat) {f : Nat} {args : List TV} {v : TV} (h : runV ((ex K n).call f args []) = some v) : TM.Pure K f args v := by
 cases hx : (ex K n).call f args [] with
 | ret r => exact ⟨r.1,r.2,lim_of hx,by rw [hx] at h; exact h⟩
 | _ => rw [hx] at h; cases h
theorem deep_w : ∀ k,(deepE k).w ≤ k + 1
 | 0 => by decide
 | k + 1 => by
  have := deep_w k
  rw [deepE]
  simp only [Ex.w,Ex.ws,List.length_nil]
  omega
theorem chk_deep (p : Pg) : ∀ (k depth : Nat) (B C A : List Int),depth + k = 4000 → (chk p (deepE k) depth B C A).1 = 5
 | 0,depth,B,C,A,h => by
  rw [deepE,conE,chk,if_pos (by omega)]
 | k + 1,depth,B,C,A,h => by
  have ih := chk_deep p k (depth + 1) B C A (by omega)
  have hf : frmF p (.mk 10 0 .nil [] false .full [deepE k]) = true := by
   simp [frmF,frmA,frmB,ofF,Ex.k,Ex.n,Ex.ks,Ex.vs,Ex.r]
  rw [deepE,chk,if_neg (by omega),hf,if_neg (by decide)]
  simp only [addV,chks]
  rw [if_neg (by simp),if_neg (by simp),if_neg (by decide : ¬ (10 : Int) = 1),List.nil_append,if_neg (by rw [ih]; decide)]
  exact ih
abbrev givL (k n : Int) : IV := .agg [.int .i64 10,.int .i64 0,.sl .nil [],.bool false,.sl .no [setL,calL k n],.int .i64 1,.int .i64 2,.sl .no [[.int .i64 2,.int .i64 0,.str [53],.sl .nil [],.int .i64 0],[.int .i64 4,.int .i64 0,.str [97],.sl .nil [],.int .i64 0]]]
abbrev givBd (k n : Int) : IV := .agg [.int .i64 10,.int .i64 0,.sl .nil [],.bool false,.sl .no [setL,calL k n]]
abbrev ifL : IV := .agg [.int .i64 6,.int .i64 0,.sl .nil [],.bool false,.sl .full [[.int .i64 2,.int .i64 0,.sl .nil [],.bool false,.sl .nil []],[.int .i64 8,.int .i64 0,.sl .nil [],.bool false,.sl .full [[.int .i64 3,.int .i64 0,.sl .nil [],.bool false,.sl .nil []],[.int .i64 2,.int .i64 1,.sl .nil [],.bool false,.sl .nil []]]],[.int .i64 1,.int .i64 0,.sl .nil [],.bool false,.sl .nil []]]]
theorem k11 : TM.Pure K 11 [] (.iv (.bool true)) := pure_run 400 (by kernel_rfl)
theorem k15 : TM.Pure K 15 [.iv (givBd 1 1)] (.iv (.sl .no [[.int .i64 0],[.int .i64 1]])) := pure_run 400 (by kernel_rfl)
theorem k17 : TM.Pure K 17 [.iv ifL] (.iv (.sl .no [[.int .i64 0],[.int .i64 1]])) := pure_run 400 (by kernel_rfl)
theorem k14 : TM.Pure K 14 [.iv (givBd 1 1)] (.iv (.sl .nil [])) := pure_run 400 (by kernel_rfl)
theorem k13a : TM.Pure K 13 [.iv (givL 2 0)] (.iv (.int .i64 6)) := pure_run 400 (by kernel_rfl)
theorem k13b : TM.Pure K 13 [.iv (givL 1 0)] (.iv (.int .i64 14)) := pure_run 400 (by kernel_rfl)
abbrev twoE : List IV := [.int .i64 6,.int .i64 0,.sl .nil [],.bool false,.sl .full [[.int .i64 1,.int .i64 1,.sl .nil [],.bool false,.sl .nil []],[.int .i64 3,.int .i64 0,.sl .nil [],.bool false,.sl .nil []]]]
abbrev twoL : IV := .agg [.int .i64 10,.int .i64 0,.sl .nil [],.bool false,.sl .no [setL,twoE],.int .i64 1,.int .i64 2,.sl .no [[.int .i64 2,.int .i64 0,.str [53],.sl .nil [],.int .i64 0],[.int .i64 4,.int .i64 0,.str [97],.sl .nil [],.int .i64 0]]]
theorem k13c : TM.Pure K 13 [.iv twoL] (.iv (.int .i64 4)) := pure_run 400 (by kernel_rfl)
abbrev oddL : IV := .agg [.int .i64 10,.int .i64 0,.sl .nil [],.bool false,.sl .no [setL,calL 1 1],.int .i64 1,.int .i64 2,.sl .no [[.int .i64 2,.int .i64 0,.str [48,53],.sl .nil [],.int .i64 0],[.int .i64 4,.int .i64 0,.str [97],.sl .nil [],.int .i64 0]]]
theorem k13d : TM.Pure K 13 [.iv oddL] (.iv (.int .i64 2)) := pure_run 400 (by kernel_rfl)
theorem k13e : TM.Pure K 13 [.iv (.agg [.int .i64 0,.int .i64 0,.sl .nil [],.bool false,.sl .nil [],.int .i64 0,.int .i64 0,.sl .nil []])] (.iv (.int .i64 4)) := pure_run 400 (by kernel_rfl)
theorem ix31 : indexAddrS 5 (.msl 3 0 0 2 2 5) 1 = some (.ptr 3 0 5) := rfl
abbrev twoV : List TV := [.iv (.int .i64 6),.iv (.int .i64 0),.iv (.sl .nil []),.iv (.bool false),.iv (.sl .full [[.int .i64 1,.int .i64 1,.sl .nil [],.bool false,.sl .nil []],[.int .i64 3,.int .i64 0,.sl .nil [],.bool false,.sl .nil []]])]
theorem st1 (env : Env) : setPt env [givC [53],givB (calL 1 1),givC [53],givB (calL 1 1)] 3 0 5 twoV (some (givB (calL 1 1))) = some (env,[givC [53],givB (calL 1 1),givC [53],givB twoE]) := rfl
abbrev bdV (i : Nat) : TV := .agg [.iv (.int .i64 10),.iv (.int .i64 0),.iv (.sl .nil []),.iv (.bool false),.msl i 0 0 2 2 5]
theorem cl1 : closeArg [givC [53],givB (calL 1 1),givC [53],givB twoE] (bdV 1) = some (.iv (givBd 1 1)) := rfl
theorem im1 (i : Nat) : isMsl (bdV i) = true := rfl
def frB (l : List IV) : Block := .frz 0 (setL ++ l)
theorem fz1 : freezeV [givC [53],givB (calL 1 1),givC [53],givB twoE] [bdV 1] = some [givC [53],frB (calL 1 1),givC [53],givB twoE] := rfl
theorem ix50 (a b c d e : IV) : indexAddrS 5 (.iv (.sl .full [[a,b,c,d,e]])) 0 = some (.iv (.cp [a,b,c,d,e])) := rfl
theorem gc5 (env : Env) (S : Store) (a b c d e : IV) : getCells env S (.iv (.cp [a,b,c,d,e])) 5 = some [.iv a,.iv b,.iv c,.iv d,.iv e] := rfl
theorem ix60 : indexAddrS 5 (.msl 6 0 0 2 2 5) 0 = some (.ptr 6 0 0) := rfl
abbrev S8 : Store := [givC [53],frB (calL 1 1),givC [53],givB twoE,givC [53],givB (calL 1 1),givC [53],givB (calL 1 1)]
abbrev S8o : Store := [givC [53],frB (calL 1 1),givC [53],givB twoE,givC [53],givB (calL 1 1),givC [48,53],givB (calL 1 1)]
theorem st2 (env : Env) : setPt env S8 6 0 2 [.iv (.str [48,53])] (some (givC [53])) = some (env,S8o) := rfl
theorem cl2 : closeArg S8o (bdV 1) = some (.iv (givBd 1 1)) := rfl
theorem fz2 : freezeV S8o [bdV 1] = some S8o := rfl
abbrev prV (i j : Nat) : TV := .agg [.iv (.int .i64 10),.iv (.int .i64 0),.iv (.sl .nil []),.iv (.bool false),.msl i 0 0 2 2 5,.iv (.int .i64 1),.iv (.int .i64 2),.msl j 0 0 2 2 5]
abbrev S10 : Store := [givC [53],frB (calL 1 1),givC [53],givB twoE,givC [53],givB (calL 1 1),givC [48,53],givB (calL 1 1),givC [53],givB (calL 2 0)]
theorem cl3 : closeArg S10 (prV 9 8) = some (.iv (givL 2 0)) := rfl
abbrev S12 : Store := [givC [53],frB (calL 1 1),givC [53],givB twoE,givC [53],givB (calL 1 1),givC [48,53],givB (calL 1 1),givC [53],givB (calL 2 0),givC [53],givB (calL 1 0)]
theorem cl4 : closeArg S12 (prV 11 10) = some (.iv (givL 1 0)) := rfl
theorem cl5 : closeArg S12 (prV 3 2) = some (.iv twoL) := rfl
theorem cl6 : closeArg S12 (prV 7 6) = some (.iv oddL) := rfl
def deepP (d : Ex) : Pg := ⟨d,1,2,.no,[.mk 2 0 [53] .nil [] 0,.mk 4 0 [97] .nil [] 0]⟩
theorem cl7 (d : Ex) : closeArg S12 (.agg [.iv (.int .i64 d.k),.iv (.int .i64 d.n),.iv (.sl d.gv (TM.one (.int .i64) d.vs)),.iv (.bool d.r),.iv (.sl d.g (encEs d.ks)),.iv (.int .i64 1),.iv (.int .i64 2),.msl 4 0 0 2 2 5]) = some (.iv (.agg (encP (deepP d)))) := rfl
theorem i10 : indexAddrS 1 (.iv (.sl .no [[.int .i64 0],[.int .i64 1]])) 0 = some (.iv (.cp [.int .i64 0])) := rfl
theorem i11 : indexAddrS 1 (.iv (.sl .no [[.int .i64 0],[.int .i64 1]])) 1 = some (.iv (.cp [.int .i64 1])) := rfl
theorem gc1 (env : Env) (S : Store) (a : IV) : getCells env S (.iv (.cp [a])) 1 = some [.iv a] := rfl
theorem k13q : TM.Pure K 13 [.iv (.agg (encP (deepP (deepE 4000))))] (.iv (.int .i64 5)) := by
 have hw := deep_w 4000
 have := call13 (deepP (deepE 4000)) ⟨by show (deepE 4000).w ≤ _; omega,by decide⟩
 have h5 : chkF (deepP (deepE 4000)) = 5 := by
  unfold chkF
  rw [if_neg (by show ¬ ((1 : Int) < 0 ∨ 20000 < (1 : Int) ∨ (2 : Int) < 0); decide)]
  rw [if_neg (by show ¬ (([.mk 2 0 [53] .nil [] 0,.mk 4 0 [97] .nil [] 0] : List Dt).all fun d => mayF d && plF d) = false; decide)]
  exact chk_deep _ 4000 0 [] [] [] rfl
 rw [h5] at this
 exact this
theorem k38s : (lim K).call 38 [.iv (.agg [.int .i64 0,.int .i64 0,.sl .nil [],.bool false,.sl .nil []])] S12 = .ret (.iv (.str [63]),S12) := lim_of (n := 400) (by kernel_rfl)
def s39 : Store := [givC [53],frB (calL 1 1),givC [53],givB twoE,givC [53],givB (calL 1 1),givC [48,53],givB (calL 1 1),givC [53],givB (calL 2 0),givC [53],givB (calL 1 0),
 (.cells 98 false [(.ptr 12 98 0),(.tsl 13 [[(.int .u8 103)],[(.int .u8 108)],[(.int .u8 111)],[(.int .u8 98)],[(.int .u8 97)],[(.int .u8 108)],[(.int .u8 115)],[(.int .u8 32)],[(.int .u8 49)],[(.int .u8 32)],[(.int .u8 118)],[(.int .u8 97)],[(.int .u8 114)],[(.int .u8 115)],[(.int .u8 32)],[(.int .u8 50)],[(.int .u8 10)],[(.int .u8 99)],[(.int .u8 48)],[(.int .u8 32)],[(.int .u8 53)],[(.int .u8 10)],[(.int .u8 99)],[(.int .u8 49)],[(.int .u8 32)],[(.int .u8 34)],[(.int .u8 97)],[(.int .u8 34)],[(.int .u8 10)],[(.int .u8 40)],[(.int .u8 98)],[(.int .u8 101)],[(.int .u8 103)],[(.int .u8 105)],[(.int .u8 110)],[(.int .u8 32)],[(.int .u8 40)],[(.int .u8 115)],[(.int .u8 101)],[(.int .u8 116)],[(.int .u8 33)],[(.int .u8 32)],[(.int .u8 103)],[(.int .u8 48)],[(.int .u8 32)],[(.int .u8 40)],[(.int .u8 108)],[(.int .u8 97)],[(.int .u8 109)],[(.int .u8 98)],[(.int .u8 100)],[(.int .u8 97)],[(.int .u8 32)],[(.int .u8 40)],[(.int .u8 118)],[(.int .u8 48)],[(.int .u8 32)],[(.int .u8 46)],[(.int .u8 32)],[(.int .u8 118)],[(.int .u8 49)],[(.int .u8 41)],[(.int .u8 32)],[(.int .u8 40)],[(.int .u8 105)],[(.int .u8 102)],[(.int .u8 32)],[(.int .u8 118)],[(.int .u8 48)],[(.int .u8 32)],[(.int .u8 40)],[(.int .u8 99)],[(.int .u8 97)],[(.int .u8 108)],[(.int .u8 108)],[(.int .u8 32)],[(.int .u8 103)],[(.int .u8 48)],[(.int .u8 32)],[(.int .u8 118)],[(.int .u8 49)],[(.int .u8 41)],[(.int .u8 32)],[(.int .u8 99)],[(.int .u8 48)],[(.int .u8 41)],[(.int .u8 41)],[(.int .u8 41)],[(.int .u8 32)],[(.int .u8 40)],[(.int .u8 99)],[(.int .u8 97)],[(.int .u8 108)],[(.int .u8 108)],[(.int .u8 32)],[(.int .u8 103)],[(.int .u8 48)],[(.int .u8 32)],[(.int .u8 99)],[(.int .u8 49)],[(.int .u8 41)],[(.int .u8 41)]])]),
 (.tok 102 1 5),
 (.cells 129 false [(.ptr 14 129 0),(.tsl 15 [[(.int .u8 53)]]),(.iv (.bool false))]),
 (.tok 1 1 5),
 (.cells 129 false [(.ptr 16 129 0),(.tsl 17 [[(.int .u8 34)],[(.int .u8 97)],[(.int .u8 34)]]),(.iv (.bool false))]),
 (.tok 3 1 5),
 (.sit [97] 1),
 (.cells 0 false [(.iv (.str [98,101,103,105,110]))]),
 (.cells 0 false [(.iv (.str [115,101,116,33,32,103,48]))]),
 (.cells 0 false [(.iv (.str [108,97,109,98,100,97]))]),
 (.cells 2 true [(.iv (.str [118,48])),(.iv (.str [46])),(.iv (.str [118,49]))]),
 (.cells 1 true [(.iv (.str [108,97,109,98,100,97])),(.iv (.str [40,118,48,32,46,32,118,49,41])),(.iv (.str [40,105,102,32,118,48,32,40,99,97,108,108,32,103,48,32,118,49,41,32,99,48,41]))]),
 (.cells 0 false [(.iv (.str [105,102]))]),
 (.cells 0 false [(.iv (.str [118]))]),
 (.cells 2 true [(.iv (.str [105,102])),(.iv (.str [118,48])),(.iv (.str [40,99,97,108,108,32,103,48,32,118,49,41])),(.iv (.str [99,48]))]),
 (.cells 0 false [(.iv (.str [99,97,108,108]))]),
 (.cells 0 false [(.iv (.str [103]))]),
 (.cells 1 true [(.iv (.str [99,97,108,108])),(.iv (.str [103,48])),(.iv (.str [118,49]))]),
 (.cells 0 false [(.iv (.str [118]))]),
 (.cells 0 false [(.iv (.str [99]))]),
 (.cells 0 true [(.iv (.str [115,101,116,33,32,103,48])),(.iv (.str [40,108,97,109,98,100,97,32,40,118,48,32,46,32,118,49,41,32,40,105,102,32,118,48,32,40,99,97,108,108,32,103,48,32,118,49,41,32,99,48,41,41]))]),
 (.cells 1 true [(.iv (.str [98,101,103,105,110])),(.iv (.str [40,115,101,116,33,32,103,48,32,40,108,97,109,98,100,97,32,40,118,48,32,46,32,118,49,41,32,40,105,102,32,118,48,32,40,99,97,108,108,32,103,48,32,118,49,41,32,99,48,41,41,41])),(.iv (.str [40,99,97,108,108,32,103,48,32,99,49,41]))]),
 (.cells 0 false [(.iv (.str [99,97,108,108]))]),
 (.cells 0 false [(.iv (.str [103]))]),
 (.cells 1 true [(.iv (.str [99,97,108,108])),(.iv (.str [103,48])),(.iv (.str [99,49]))]),
 (.cells 0 false [(.iv (.str [99]))])]
abbrev txt39 : List UInt8 := [103,108,111,98,97,108,115,32,49,32,118,97,114,115,32,50,10,99,48,32,53,10,99,49,32,34,97,34,10,40,98,101,103,105,110,32,40,115,101,116,33,32,103,48,32,40,108,97,109,98,100,97,32,40,118,48,32,46,32,118,49,41,32,40,105,102,32,118,48,32,40,99,97,108,108,32,103,48,32,118,49,41,32,99,48,41,41,41,32,40,99,97,108,108,32,103,48,32,99,49,41,41]
theorem k39s : (lim K).call 39 [prV 1 0] S12 = .ret (.iv (.str txt39),s39) := lim_of (n := 400) (by kernel_rfl)
theorem l39 : s39.length = 38 := by kernel_rfl
abbrev S40 : Store := s39 ++ [givC [53],givB (calL 1 1)]
theorem k19s : (lim K).call 19 [prV 1 0,prV 39 38] S40 = .ret (.iv (.bool true),S40) := lim_of (n := 400) (by kernel_rfl)
theorem k19t : (lim K).call 19 [prV 1 0,prV 3 2] S40 = .ret (.iv (.bool false),S40) := lim_of (n := 400) (by kernel_rfl)
theorem law8 : ((lim K).call 8 [] []).All fun r => r.1 = .iv (.bool true) := by
 obtain ⟨y9,l1⟩ := loop8 (.iv (.bool false)) (.lb [.iv (.int .i64 10),.iv (.int .i64 0),.iv (.sl .nil []),.iv (.bool false),.msl 1 0 0 2 2 5,.iv (.int .i64 1),.iv (.int .i64 2),.msl 0 0 0 2 2 5])
  (.lb [.iv (.int .i64 10),.iv (.int .i64 0),.iv (.sl .nil []),.iv (.bool false),.msl 3 0 0 2 2 5,.iv (.int .i64 1),.iv (.int .i64 2),.msl 2 0 0 2 2 5])
  (.iv (.sl .no [[.int .i64 0],[.int .i64 1]])) (.iv (.sl .no [[.int .i64 0],[.int .i64 1]])) (.tup []) (.tup []) [givC [53],frB (calL 1 1),givC [53],givB twoE] 4000 0 (.tup []) rfl
 rw [show ((0 : Nat) : Int) = 0 from rfl,show lbE (deepE 0) = .lb [.iv (.int .i64 1),.iv (.int .i64 0),.iv (.sl .nil []),.iv (.bool false),.iv (.sl .nil [])] from rfl] at l1
 have hq := k13q
 generalize deepE 4000 = d at *
 refine call_all' K _ (fn := t8) rfl rfl ?_
 simp (config := { maxSteps := 4000000 }) (disch := omega) only [t8,go_sem,TM.undef,call34,call35,call33,call36,List.length_append,List.length_cons,List.length_nil,cpR_pure k15,cpR_pure k17,ix31,st1,cl1,im1,fz1,ix50,gc5]
 rw [l1]
 simp (config := { maxSteps := 4000000 }) (disch := omega) only [go_sem,TM.undef,call34,call35,call33,call36,List.length_append,List.length_cons,List.length_nil,ix50,gc5,call37,givV,S8o,S10,S12,ix60,st2,cl2,fz2,im1,cl3,cl4,cl5,cl6,cl7,cpR_pure k11,cpR_pure k14,cpR_pure k13a,cpR_pure k13b,cpR_pure k13c,cpR_pure k13d,cpR_pure k13e,i10,i11,gc1,cpR_pure hq,k38s,k39s,l39,k19s,k19t,List.append_assoc,List.cons_append,List.nil_append,beq_self_eq_true]
 exact rfl
end Go.Proofs.YtookmpaholmmfaaGreatDoor
