/- Some texts of the proof, joined. Condition: none. -/
import Derived.Test.YtookmpaholmmfaaGreatDoorJb
import Derived.Test.YtookmpaholmmfaaGreatDoorJa
set_option maxRecDepth 100000
set_option maxHeartbeats 64000000
set_option linter.unusedSimpArgs false
set_option linter.unusedVariables false
namespace Go.Proofs.YtookmpaholmmfaaGreatDoor
open Go Go.TM
theorem aPg (ga gb:Tag)(l m:List Dt)(hl:l.length=m.length)(hw:l.length≤1048576)(H:∀x∈l,∀y∈m,Pure K 57 [agD x,agD y] (.iv (.bool (same x y))))(x0 x1 x2 x3 x6 x8 x10 x11 x14 x15:TV)(S:aA):∀(k i:Nat) (x12 x13:TV),i+k=l.length →
  ∃j i' x12' x13',(j=.ret∧eG (l.drop i) (m.drop i)=false∨j=.exit 0∧eG (l.drop i) (m.drop i)=true) ∧
   lp' (lim K) t57L1 [x0,x1,x2,x3,.iv (.bool false),.iv (.sl ga (bQ l)),x6,.iv (.sl gb (bQ m)),x8,.iv (.int .i64 (i:Int)),x10,x11,x12,x13,x14,x15] S=.ret (j,[x0,x1,x2,x3,.iv (.bool false),.iv (.sl ga (bQ l)),x6,.iv (.sl gb (bQ m)),x8,i',x10,x11,x12',x13',x14,x15],S)
 | 0,i,x12,x13,h=>by
  have c1:¬((i:Int)<l.length):=by omega
  refine⟨.exit 0,?_,?_,?_,.inr ⟨rfl,?_⟩,aH K _ _ t57L1.eq_1 ?_⟩
  rotate_left 4
  ·simp (config := { maxSteps := 4000000 }) (disch:=omega) only[go_sem,aI,c1]
   rfl
  ·rw[List.drop_eq_nil_of_le (by omega),List.drop_eq_nil_of_le (by omega),eG]
 | k+1,i,x12,x13,h=>by
  have c1:(i:Int)<l.length:=by omega
  have hla:i<l.length:=by omega
  have hlb:i<m.length:=by omega
  have hix:=ixD (g:=ga) (ks:=l) (i:=(i:Int)) (by omega)
  have hiy:=ixD (g:=gb) (ks:=m) (i:=(i:Int)) (by omega)
  rw[Int.toNat_natCast]at hix hiy
  have hc:=H _ (bP hla) _ (bP hlb)
  rw[bM hla,bM hlb,eG]
  generalize hx:l.getD i default=x at *
  generalize hy:m.getD i default=y at *
  by_cases hv:same x y=true
  ·obtain⟨j,i',x12',x13',hj,ih⟩:=aPg ga gb l m hl hw H x0 x1 x2 x3 x6 x8 x10 x11 x14 x15 S k (i+1) (.iv (.bool true)) (.iv (.bool false)) (by omega)
   rw[show ((i+1:Nat):Int)=(i:Int)+1 by omega]at ih
   rw[hv]at hc
   refine⟨j,i',x12',x13',(by rw[hv,Bool.true_and]; exact hj),aH K _ _ t57L1.eq_1 ?_⟩
   simp (config := { maxSteps := 4000000 }) (disch:=omega) only[go_sem,aI,c1,hix,hiy,eZ,aC hc,aF]
   exact congrArg er ih
  ·rw[Bool.not_eq_true]at hv
   rw[hv]at hc
   refine⟨.ret,?_,?_,?_,.inl ⟨rfl,(by rw[hv,Bool.false_and])⟩,aH K _ _ t57L1.eq_1 ?_⟩
   rotate_left 3
   ·simp (config := { maxSteps := 4000000 }) (disch:=omega) only[go_sem,aI,c1,hix,hiy,eZ,aC hc,aF]
    rfl
theorem aPh (a b:Dt)(hl:a.ks.length=b.ks.length)(hw:a.ks.length≤1048576)(H:∀x∈a.ks,∀y∈b.ks,Pure K 57 [agD x,agD y] (.iv (.bool (same x y))))(x0 x1 x2 x3 x5 x7 x9 x11 x12 x13:TV)(S:aA):∀(k i:Nat) (x14 x15:TV),i+k=a.ks.length →
  ∃j i' x14' x15',(j=.ret∧eG (a.ks.drop i) (b.ks.drop i)=false∨j=.exit 2∧eG (a.ks.drop i) (b.ks.drop i)=true) ∧
   lp' (lim K) t57L0 [x0,x1,x2,x3,.iv (.bool false),x5,lbD a,x7,lbD b,x9,.iv (.int .i64 (i:Int)),x11,x12,x13,x14,x15] S=.ret (j,[x0,x1,x2,x3,.iv (.bool false),x5,lbD a,x7,lbD b,x9,i',x11,x12,x13,x14',x15'],S)
 | 0,i,x14,x15,h=>by
  have c1:¬((i:Int)<a.ks.length):=by omega
  refine⟨.exit 2,?_,?_,?_,.inr ⟨rfl,?_⟩,aH K _ _ t57L0.eq_1 ?_⟩
  rotate_left 4
  ·simp (config := { maxSteps := 4000000 }) (disch:=omega) only[go_sem,aI,c1]
   rfl
  ·rw[List.drop_eq_nil_of_le (by omega),List.drop_eq_nil_of_le (by omega),eG]
 | k+1,i,x14,x15,h=>by
  have c1:(i:Int)<a.ks.length:=by omega
  have hla:i<a.ks.length:=by omega
  have hlb:i<b.ks.length:=by omega
  have hix:=ixD (g:=a.g) (ks:=a.ks) (i:=(i:Int)) (by omega)
  have hiy:=ixD (g:=b.g) (ks:=b.ks) (i:=(i:Int)) (by omega)
  rw[Int.toNat_natCast]at hix hiy
  have hc:=H _ (bP hla) _ (bP hlb)
  rw[bM hla,bM hlb,eG]
  generalize hx:a.ks.getD i default=x at *
  generalize hy:b.ks.getD i default=y at *
  by_cases hv:same x y=true
  ·obtain⟨j,i',x14',x15',hj,ih⟩:=aPh a b hl hw H x0 x1 x2 x3 x5 x7 x9 x11 x12 x13 S k (i+1) (.iv (.bool true)) (.iv (.bool false)) (by omega)
   rw[show ((i+1:Nat):Int)=(i:Int)+1 by omega]at ih
   rw[hv]at hc
   refine⟨j,i',x14',x15',(by rw[hv,Bool.true_and]; exact hj),aH K _ _ t57L0.eq_1 ?_⟩
   simp (config := { maxSteps := 4000000 }) (disch:=omega) only[go_sem,aI,c1,hix,hiy,eZ,aC hc,aF]
   exact congrArg er ih
  ·rw[Bool.not_eq_true]at hv
   rw[hv]at hc
   refine⟨.ret,?_,?_,?_,.inl ⟨rfl,(by rw[hv,Bool.false_and])⟩,aH K _ _ t57L0.eq_1 ?_⟩
   rotate_left 3
   ·simp (config := { maxSteps := 4000000 }) (disch:=omega) only[go_sem,aI,c1,hix,hiy,eZ,aC hc,aF]
    rfl
theorem aK0 (W:Nat)(hW:W≤1048576):∀(N:Nat) (a b:Dt),a.w≤N→N≤W→b.w≤W→Pure K 57 [agD a,agD b] (.iv (.bool (same a b)))
 | 0,a,b,h,hN,hb=>by have:=Dt.w_eq a; omega
 | N+1,a,b,h,hN,hb=>by
  have ha5:=aE6 W a (by omega) (by omega)
  have hb5:=aE6 W b (by omega) (by omega)
  have ta:=oR W a (by omega)
  have tb:=oR W b (by omega)
  have la:=rL W a
  have lb:=rL W b
  have ma:=rK W a
  have mb:=rK W b
  have hs:=zW W a b (by omega)
  rw[hs]
  generalize cF W a=q at *
  generalize cF W b=r at *
  obtain⟨l,s⟩:=q
  obtain⟨m,t⟩:=r
  simp only at ta tb la lb ma mb ha5 hb5 ⊢
  rw[bC0 (by rw[ta.1,Bool.false_and])]
  have ws:=Dt.w_eq s
  have wt:=Dt.w_eq t
  have ls:=Dt.ws_len s.ks
  have lt:=Dt.ws_len t.ks
  apply aRg
  refine aB K _ (fn:=t57) rfl rfl ?_
  by_cases c0:l.length=m.length
  ·by_cases c1:s.k=t.k
   ·by_cases c2:s.n=t.n
    ·by_cases c3:s.t=t.t
     ·have e3:(s.t != t.t)=false:=by simp[c3]
      have e4:(s.t==t.t)=true:=by simp[c3]
      by_cases c5:s.ks.length=t.ks.length
      ·obtain⟨j,i',x12',x13',hj,ih⟩:=aPg (eP l) (eP m) l m c0 (by omega) (fun x hx y hy=>aK0 W hW N x y (by have:=ma x hx; omega) (by omega) (by have:=mb y hy; omega)) (agD a) (agD b) (lbD a) (lbD b) (lbD s) (lbD t) u_ (.iv (.bool false)) u_ u_ [] l.length 0 u_ u_ (by omega)
       rw[show ((0:Nat):Int)=0 from rfl]at ih
       rw[List.drop_zero,List.drop_zero]at hj
       simp (config := { maxSteps := 4000000 }) (disch:=omega) only[t57,go_sem,aI,aC ha5,aC hb5,e3,e4,Bool.not_true,jY,iL]
       rw[ih]
       rcases hj with⟨rfl,hs⟩|⟨rfl,hs⟩
       ·simp (config := { maxSteps := 4000000 }) (disch:=omega) only[go_sem,hs,Bool.false_and]
       ·obtain⟨j2,i2,x14',x15',hj2,ih2⟩:=aPh s t c5 (by omega) (fun x hx y hy=>aK0 W hW N x y (by have:=Dt.kid_lt hx; omega) (by omega) (by have:=Dt.kid_lt hy; omega)) (agD a) (agD b) (lbD a) (lbD b) (.iv (.sl (eP l) (bQ l))) (.iv (.sl (eP m) (bQ m))) i' (.iv (.bool false)) x12' x13' [] s.ks.length 0 u_ u_ (by omega)
        rw[show ((0:Nat):Int)=0 from rfl]at ih2
        rw[List.drop_zero,List.drop_zero]at hj2
        simp (config := { maxSteps := 4000000 }) (disch:=omega) only[go_sem]
        rw[ih2]
        rcases hj2 with⟨rfl,hs2⟩|⟨rfl,hs2⟩
        ·simp (config := { maxSteps := 4000000 }) (disch:=omega) only[go_sem,hs2,Bool.and_false]
        ·simp (config := { maxSteps := 4000000 }) (disch:=omega) only[go_sem,hs,hs2,decide_eq_true c1,decide_eq_true c2,decide_eq_true c3,Bool.and_self]
      ·rw[mP c5,Bool.and_false,Bool.and_false]
       simp (config := { maxSteps := 4000000 }) (disch:=omega) only[t57,go_sem,aI,aC ha5,aC hb5,e3,e4,Bool.not_true,jY,iL]
     ·have e3:(s.t != t.t)=true:=by simp[c3]
      have e4:(s.t==t.t)=false:=by simp[c3]
      rw[decide_eq_false c3,Bool.and_false,Bool.false_and,Bool.and_false]
      simp (config := { maxSteps := 4000000 }) (disch:=omega) only[t57,go_sem,aI,aC ha5,aC hb5,e3,e4,Bool.not_false,jY,iL]
    ·rw[decide_eq_false c2,Bool.and_false,Bool.false_and,Bool.false_and,Bool.and_false]
     simp (config := { maxSteps := 4000000 }) (disch:=omega) only[t57,go_sem,aI,aC ha5,aC hb5,jY,iL]
   ·rw[decide_eq_false c1,Bool.false_and,Bool.false_and,Bool.false_and,Bool.and_false]
    simp (config := { maxSteps := 4000000 }) (disch:=omega) only[t57,go_sem,aI,aC ha5,aC hb5,jY,iL]
  ·rw[mP c0,Bool.false_and]
   simp (config := { maxSteps := 4000000 }) (disch:=omega) only[t57,go_sem,aI,aC ha5,aC hb5,jY,iL]
theorem aWh (p q:Pg)(hl:p.cs.length=q.cs.length)(hw:p.cs.length≤1048576)(H:∀x∈p.cs,∀y∈q.cs,Pure K 57 [agD x,agD y] (.iv (.bool (same x y))))(x0 x1 x6:TV)(S:aA):∀(k i:Nat) (x7 x8:TV),i+k=p.cs.length →
  ∃j i' x7' x8',(j=.ret∧eG (p.cs.drop i) (q.cs.drop i)=false∨j=.exit 0∧eG (p.cs.drop i) (q.cs.drop i)=true) ∧
   lp' (lim K) t20L0 [x0,x1,lbP p,lbP q,.iv (.bool false),.iv (.int .i64 (i:Int)),x6,x7,x8] S=.ret (j,[x0,x1,lbP p,lbP q,.iv (.bool false),i',x6,x7',x8'],S)
 | 0,i,x7,x8,h=>by
  have c1:¬((i:Int)<p.cs.length):=by omega
  refine⟨.exit 0,?_,?_,?_,.inr ⟨rfl,?_⟩,aH K _ _ t20L0.eq_1 ?_⟩
  rotate_left 4
  ·simp (disch:=omega) only[go_sem,aI,c1]
   rfl
  ·rw[List.drop_eq_nil_of_le (by omega),List.drop_eq_nil_of_le (by omega),eG]
 | k+1,i,x7,x8,h=>by
  have c1:(i:Int)<p.cs.length:=by omega
  have hla:i<p.cs.length:=by omega
  have hlb:i<q.cs.length:=by omega
  have hix:=ixD (g:=p.gc) (ks:=p.cs) (i:=(i:Int)) (by omega)
  have hiy:=ixD (g:=q.gc) (ks:=q.cs) (i:=(i:Int)) (by omega)
  rw[Int.toNat_natCast]at hix hiy
  have hc:=H _ (bP hla) _ (bP hlb)
  rw[bM hla,bM hlb,eG]
  generalize hx:p.cs.getD i default=x at *
  generalize hy:q.cs.getD i default=y at *
  by_cases hv:same x y=true
  ·obtain⟨j,i',x7',x8',hj,ih⟩:=aWh p q hl hw H x0 x1 x6 S k (i+1) (.iv (.bool true)) (.iv (.bool false)) (by omega)
   rw[show ((i+1:Nat):Int)=(i:Int)+1 by omega]at ih
   rw[hv]at hc
   refine⟨j,i',x7',x8',(by rw[hv,Bool.true_and]; exact hj),aH K _ _ t20L0.eq_1 ?_⟩
   simp (disch:=omega) only[go_sem,aI,c1,hix,hiy,eZ,aC hc,aF]
   exact congrArg er ih
  ·rw[Bool.not_eq_true]at hv
   rw[hv]at hc
   refine⟨.ret,?_,?_,?_,.inl ⟨rfl,(by rw[hv,Bool.false_and])⟩,aH K _ _ t20L0.eq_1 ?_⟩
   rotate_left 3
   ·simp (disch:=omega) only[go_sem,aI,c1,hix,hiy,eZ,aC hc,aF]
    rfl
mutual
theorem aRh:∀d:Dt,same d d=true
 | .mk k n t g ks p=>by rw[same,sZ ks]; simp
theorem sZ:∀l:List Dt,eG l l=true
 | []=>by rw[eG]
 | d::ds=>by rw[eG,aRh d,sZ ds]; rfl
end
mutual
theorem aWi:∀d:Ex,eqE d d=true
 | .mk k n gv vs r g ks=>by rw[eqE,aDa ks]; simp
theorem aDa:∀l:List Ex,eR l l=true
 | []=>by rw[eR]
 | d::ds=>by rw[eR,aWi d,aDa ds]; rfl
end
def pP (e:Ex):Int:=if (ofF e.k e.n).is then (ofF e.k e.n).kids else -1
theorem aRi (n:Int)(h:pI n<0):pI n = -1:=by
 unfold pI at h ⊢
 split
 ·rename_i hn
  rw[if_pos hn]at h
  exfalso
  have:∀k<42,0≤nI.getD k 0:=by decide
  have:=this n.toNat (by omega)
  omega
 ·rfl
theorem aWj (e:Ex)(S:aA):(lim K).call 95 [.iv (.agg (aW e))] S=.ret (.iv (.int .i64 (pP e)),S):=by
 refine aB K _ (fn:=t95) rfl rfl ?_
 rw[aJ]
 unfold pP ofF
 by_cases h1:e.k=1
 ·rw[if_pos h1]; simp (config := { maxSteps := 4000000 }) (disch:=omega) only[t95,go_sem,h1]
 rw[if_neg h1]
 by_cases h2:e.k=2
 ·rw[if_pos h2]; simp (config := { maxSteps := 4000000 }) (disch:=omega) only[t95,go_sem,h2]
 rw[if_neg h2]
 by_cases h3:e.k=3
 ·rw[if_pos h3]; simp (config := { maxSteps := 4000000 }) (disch:=omega) only[t95,go_sem,h3]
 rw[if_neg h3]
 by_cases h4:e.k=4
 ·rw[if_pos h4]; simp (config := { maxSteps := 4000000 }) (disch:=omega) only[t95,go_sem,h4]
 rw[if_neg h4]
 by_cases h5:e.k=5
 ·rw[if_pos h5]; simp (config := { maxSteps := 4000000 }) (disch:=omega) only[t95,go_sem,h5]
 rw[if_neg h5]
 by_cases h6:e.k=6
 ·rw[if_pos h6]; simp (config := { maxSteps := 4000000 }) (disch:=omega) only[t95,go_sem,h6]
 rw[if_neg h6]
 by_cases h7:e.k=7
 ·rw[if_pos h7]; simp (config := { maxSteps := 4000000 }) (disch:=omega) only[t95,go_sem,h7]
 rw[if_neg h7]
 by_cases h8:e.k=8
 ·rw[if_pos h8]; simp (config := { maxSteps := 4000000 }) (disch:=omega) only[t95,go_sem,h8]
 rw[if_neg h8]
 by_cases h9:e.k=9
 ·rw[if_pos h9]
  by_cases hp:0≤pI e.n
  ·rw[decide_eq_true hp,if_pos rfl,show (if 0<pI e.n then pI e.n else 0)=pI e.n by split<;>omega]
   simp (config := { maxSteps := 4000000 }) (disch:=omega) only[t95,go_sem,h9,aEx]
  ·rw[decide_eq_false hp,if_neg (by simp),←aRi e.n (by omega)]
   simp (config := { maxSteps := 4000000 }) (disch:=omega) only[t95,go_sem,h9,aEx]
 rw[if_neg h9]
 by_cases h10:e.k=10
 ·rw[if_pos h10]; simp (config := { maxSteps := 4000000 }) (disch:=omega) only[t95,go_sem,h10]
 rw[if_neg h10]
 by_cases h11:e.k=11
 ·rw[if_pos h11]
  by_cases n0:e.n=0
  ·rw[n0]; simp (config := { maxSteps := 4000000 }) (disch:=omega) only[t95,go_sem,h11,n0]; rfl
  by_cases n1:e.n=1
  ·rw[n1]; simp (config := { maxSteps := 4000000 }) (disch:=omega) only[t95,go_sem,h11,n1]; rfl
  by_cases n2:e.n=2
  ·rw[n2]; simp (config := { maxSteps := 4000000 }) (disch:=omega) only[t95,go_sem,h11,n2]; rfl
  ·rw[if_pos (by omega:e.n<0∨2<e.n)]; simp (config := { maxSteps := 4000000 }) (disch:=omega) only[t95,go_sem,h11,n0,n1,n2,Bool.false_eq_true]
 rw[if_neg h11]
 by_cases h12:e.k=12
 ·rw[if_pos h12]; simp (config := { maxSteps := 4000000 }) (disch:=omega) only[t95,go_sem,h12]
 rw[if_neg h12]
 by_cases h13:e.k=13
 ·rw[if_pos h13]; simp (config := { maxSteps := 4000000 }) (disch:=omega) only[t95,go_sem,h13]
 rw[if_neg h13]
 by_cases h14:e.k=14
 ·rw[if_pos h14]; simp (config := { maxSteps := 4000000 }) (disch:=omega) only[t95,go_sem,h14]
 rw[if_neg h14]
 simp (config := { maxSteps := 4000000 }) (disch:=omega) only[t95,go_sem,h1,h2,h3,h4,h5,h6,h7,h8,h9,h10,h11,h12,h13,h14,Bool.false_eq_true]
def aCh (k:Int):Bool:=decide (1≤k∧k≤5)||decide (k=9)||decide (k=11)
theorem aPi (k:Int)(S:aA):(lim K).call 160 [.iv (.int .i64 k)] S=.ret (.iv (.bool (aCh k)),S):=by
 refine aB K _ (fn:=t160) rfl rfl ?_
 unfold aCh
 by_cases h1:1≤k
 ·by_cases h2:k≤5
  ·simp (config := { maxSteps := 4000000 }) (disch:=omega) only[t160,go_sem,h1,h2,and_self,Bool.true_or]
  ·by_cases h9:k=9
   ·simp (config := { maxSteps := 4000000 }) (disch:=omega) only[t160,go_sem,h9,Bool.or_true,Bool.true_or,and_false,and_true]
   ·by_cases h11:k=11
    ·simp (config := { maxSteps := 4000000 }) (disch:=omega) only[t160,go_sem,h11,Bool.or_true,Bool.true_or,and_false,and_true]
    ·simp (config := { maxSteps := 4000000 }) (disch:=omega) only[t160,go_sem,h1,h2,h9,h11,and_false,Bool.or_self]
 ·have h9:¬k=9:=by omega
  have h11:¬k=11:=by omega
  simp (config := { maxSteps := 4000000 }) (disch:=omega) only[t160,go_sem,h1,h9,h11,false_and,Bool.or_self]
theorem aPj (d:Dt)(hw:d.ks.length≤1048576)(H:∀x∈d.ks,TM.Pure K 102 [agD x] (.iv (.bool (plF x))))(x0 x4:TV):∀(k i:Nat) (x5 x6:TV),i+k=d.ks.length →
  ∃j y3 y5 y6,(j=.ret∧(d.ks.drop i).all plF=false∨j=.exit 0∧(d.ks.drop i).all plF=true) ∧
   lp' (lim K) t102L0 [x0,lbD d,.iv (.bool false),.iv (.int .i64 (i:Int)),x4,x5,x6] []=.ret (j,[x0,lbD d,.iv (.bool false),y3,x4,y5,y6],[])
 | 0,i,x5,x6,h=>by
  obtain rfl:i=d.ks.length:=by omega
  refine⟨.exit 0,.iv (.int .i64 d.ks.length),.iv (.bool false),x6,.inr ⟨rfl,by rw[List.drop_length]; rfl⟩,aH K _ _ t102L0.eq_1 ?_⟩
  simp (config := { maxSteps := 4000000 }) (disch:=omega) only[go_sem,aI]
 | k+1,i,x5,x6,h=>by
  have hla:i<d.ks.length:=by omega
  have hix:=ixD (g:=d.g) (ks:=d.ks) (i:=(i:Int)) (by omega)
  rw[Int.toNat_natCast]at hix
  have hdr:=bM hla
  have hm:=H _ (bP (i:=i) hla)
  generalize hx:d.ks.getD i default=x at *
  cases hv:plF x with
  | false =>
   rw[hv]at hm
   refine⟨.ret,.iv (.int .i64 i),.iv (.bool true),.iv (.bool true),.inl ⟨rfl,by rw[hdr,List.all_cons,hv,Bool.false_and]⟩,aH K _ _ t102L0.eq_1 ?_⟩
   simp (config := { maxSteps := 4000000 }) (disch:=omega) only[go_sem,aI,hix,eZ,aC hm]
  | true =>
   rw[hv]at hm
   obtain⟨j,y3,y5,y6,hj,ih⟩:=aPj d hw H x0 x4 k (i+1) (.iv (.bool true)) (.iv (.bool false)) (by omega)
   rw[show ((i+1:Nat):Int)=(i:Int)+1 by omega]at ih
   refine⟨j,y3,y5,y6,by rw[hdr,List.all_cons,hv,Bool.true_and]; exact hj,aH K _ _ t102L0.eq_1 ?_⟩
   simp (config := { maxSteps := 4000000 }) (disch:=omega) only[go_sem,aI,hix,eZ,aC hm,aF]
   exact congrArg er ih
theorem aPk:∀N,N≤1048576→∀d:Dt,d.w≤N→TM.Pure K 102 [agD d] (.iv (.bool (plF d)))
  | 0,hN=>fun d hw=>by have:=Dt.w_eq d; omega
  | N+1,hN=>fun d hw=>by
    have hwd:=Dt.w_eq d
    have hwl:=Dt.ws_len d.ks
    have H:∀y∈d.ks,TM.Pure K 102 [agD y] (.iv (.bool (plF y))):=fun y hy=>aPk N (by omega) y (by have:=Dt.kid_lt hy; omega)
    rw[aKu]
    by_cases h5:d.k=5∧d.n≠0
    · rw[decide_eq_true h5,Bool.not_true,Bool.false_and]
      obtain⟨h5,hn⟩:=h5
      refine TM.aR (S:=[]) (r:=.iv (.bool false)) (aB K _ (fn:=t102) rfl rfl ?_) (by rw[aN])
      simp (config := { maxSteps := 4000000 }) (disch:=omega) only[t102,go_sem,h5,hn]
    · rw[decide_eq_false h5,Bool.not_false,Bool.true_and]
      obtain⟨j,y3,y5,y6,hj,l1⟩:=aPj d (by omega) H (agD d) (.iv (.bool false)) d.ks.length 0 u_ u_ (by omega)
      rw[show ((0:Nat):Int)=0 from rfl]at l1
      rw[List.drop_zero]at hj
      have hc : ¬ d.k = 5 ∨ d.n = 0 := by by_cases h : d.k = 5; · right; exact Classical.not_not.1 fun hn => h5 ⟨h, hn⟩
                                          · exact .inl h
      rcases hj with⟨rfl,hv⟩|⟨rfl,hv⟩
      · rw[hv]
        refine TM.aR (S:=[]) (r:=.iv (.bool false)) (aB K _ (fn:=t102) rfl rfl ?_) (by rw[aN])
        rcases hc with hc|hc
        · simp (config := { maxSteps := 4000000 }) (disch:=omega) only[t102,go_sem,hc]
          rw[l1]
          simp (config := { maxSteps := 4000000 }) (disch:=omega) only[go_sem]
        · by_cases hk:d.k=5
          · unfold lbD at l1
            rw[hk,hc]at l1
            simp (config := { maxSteps := 4000000 }) (disch:=omega) only[t102,go_sem,hc,hk,bne_self_eq_false]
            rw[l1]
            simp (config := { maxSteps := 4000000 }) (disch:=omega) only[go_sem]
          · simp (config := { maxSteps := 4000000 }) (disch:=omega) only[t102,go_sem,hk]
            rw[l1]
            simp (config := { maxSteps := 4000000 }) (disch:=omega) only[go_sem]
      · rw[hv]
        refine TM.aR (S:=[]) (r:=.iv (.bool true)) (aB K _ (fn:=t102) rfl rfl ?_) (by rw[aN])
        rcases hc with hc|hc
        · simp (config := { maxSteps := 4000000 }) (disch:=omega) only[t102,go_sem,hc]
          rw[l1]
          simp (config := { maxSteps := 4000000 }) (disch:=omega) only[go_sem]
        · by_cases hk:d.k=5
          · unfold lbD at l1
            rw[hk,hc]at l1
            simp (config := { maxSteps := 4000000 }) (disch:=omega) only[t102,go_sem,hc,hk,bne_self_eq_false]
            rw[l1]
            simp (config := { maxSteps := 4000000 }) (disch:=omega) only[go_sem]
          · simp (config := { maxSteps := 4000000 }) (disch:=omega) only[t102,go_sem,hk]
            rw[l1]
            simp (config := { maxSteps := 4000000 }) (disch:=omega) only[go_sem]
theorem bKa (k n:Int)(h:(ofF k n).is=true):(ofF k n).more=decide (k=8∨k=10)∧(ofF k n).num=aCh k∧0≤(ofF k n).kids:=by
 unfold ofF at h ⊢
 unfold aCh
 by_cases h1:k=1
 ·subst h1; simp
 by_cases h2:k=2
 ·subst h2; simp
 by_cases h3:k=3
 ·subst h3; simp
 by_cases h4:k=4
 ·subst h4; simp
 by_cases h5:k=5
 ·subst h5; simp
 by_cases h6:k=6
 ·subst h6; simp
 by_cases h7:k=7
 ·subst h7; simp
 by_cases h8:k=8
 ·subst h8; simp
 by_cases h9:k=9
 ·subst h9; simp; split<;>omega
 by_cases h10:k=10
 ·subst h10; simp
 by_cases h11:k=11
 ·subst h11
  by_cases hn:n<0∨2<n
  ·simp[hn]at h
  ·simp[hn]; split<;>omega
 by_cases h12:k=12
 ·subst h12; simp
 by_cases h13:k=13
 ·subst h13; simp
 by_cases h14:k=14
 ·subst h14; simp
 simp[h1,h2,h3,h4,h5,h6,h7,h8,h9,h10,h11,h12,h13,h14]at h
theorem bC2 (e:Ex):nR e=(decide (pP e<0)||decide ((e.ks.length:Int)<pP e)||(decide (pP e<e.ks.length)&&!decide (e.k=8∨e.k=10))||(!aCh e.k&&decide (e.n≠0))||(decide (e.k≠7)&&(decide (0<e.vs.length)||e.r))||(e.r&&decide (e.vs.length=0))):=by
 unfold nR pP
 cases hi:(ofF e.k e.n).is with
 | false=>simp[hi]
 | true =>
  obtain⟨h1,h2,h3⟩:=bKa e.k e.n hi
  simp only[hi,h1,h2,if_true,Bool.not_true,Bool.false_or]
  rw[decide_eq_false (by omega:¬(ofF e.k e.n).kids<0),Bool.false_or]
theorem aPl (p:Pg)(e:Ex)(hw:e.vs.length≤1048576)(x0 x1 x5 x6 x8 x9 x12 x13 x14:TV):∀(k i:Nat) (x10 x11:TV),i+k=e.vs.length →
  ∃j y7 y10 y11,(j=.ret∧((e.vs.drop i).all fun v=>decide (0≤v∧v<p.vr))=false∨j=.exit 0∧((e.vs.drop i).all fun v=>decide (0≤v∧v<p.vr))=true) ∧
   lp' (lim K) t136L0 [x0,x1,lbP p,lbE e,.iv (.bool false),x5,x6,.iv (.int .i64 (i:Int)),x8,x9,x10,x11,x12,x13,x14] []=.ret (j,[x0,x1,lbP p,lbE e,.iv (.bool false),x5,x6,y7,x8,x9,y10,y11,x12,x13,x14],[])
 | 0,i,x10,x11,h=>by
  obtain rfl:i=e.vs.length:=by omega
  refine⟨.exit 0,.iv (.int .i64 e.vs.length),.iv (.bool false),x11,.inr ⟨rfl,by rw[List.drop_length]; rfl⟩,aH K _ _ t136L0.eq_1 ?_⟩
  simp (config := { maxSteps := 4000000 }) (disch:=omega) only[go_sem]
 | k+1,i,x10,x11,h=>by
  have hla:i<e.vs.length:=by omega
  have hix:=gZ (f:=IV.int .i64) (t:=e.gv) (l:=e.vs) (i:=(i:Int)) (by omega)
  rw[Int.toNat_natCast]at hix
  have hdr:=bM hla
  generalize hx:e.vs.getD i default=v at *
  by_cases h1:v<0
  ·refine⟨.ret,.iv (.int .i64 i),.iv (.bool true),.iv (.bool true),.inl ⟨rfl,by rw[hdr,List.all_cons,decide_eq_false (by omega),Bool.false_and]⟩,aH K _ _ t136L0.eq_1 ?_⟩
   simp (config := { maxSteps := 4000000 }) (disch:=omega) only[go_sem,hix,h1]
  by_cases h2:p.vr≤v
  ·refine⟨.ret,.iv (.int .i64 i),.iv (.bool true),.iv (.bool true),.inl ⟨rfl,by rw[hdr,List.all_cons,decide_eq_false (by omega),Bool.false_and]⟩,aH K _ _ t136L0.eq_1 ?_⟩
   simp (config := { maxSteps := 4000000 }) (disch:=omega) only[go_sem,hix,h1,h2]
  ·obtain⟨j,y7,y10,y11,hj,ih⟩:=aPl p e hw x0 x1 x5 x6 x8 x9 x12 x13 x14 k (i+1) (.iv (.bool true)) (.iv (.bool false)) (by omega)
   rw[show ((i+1:Nat):Int)=(i:Int)+1 by omega]at ih
   refine⟨j,y7,y10,y11,by rw[hdr,List.all_cons,decide_eq_true (by omega),Bool.true_and]; exact hj,aH K _ _ t136L0.eq_1 ?_⟩
   simp (config := { maxSteps := 4000000 }) (disch:=omega) only[go_sem,hix,h1,h2,aF]
   exact congrArg er ih
def aE7:aK:=(.region [⟨.boxL 2 (.loc 0),none,none⟩,⟨.boxL 3 (.loc 1),none,none⟩,⟨.mov (.cst (.bool false)),(some 4),none⟩])
def aK1:aK:=(.region [⟨.loadN 5 (.loc 3),none,none⟩,⟨.call true false 95 [(.reg 0)],none,none⟩,⟨.mov (.reg 1),(some 5),none⟩])
def zX:aK:=(.region [⟨.fieldAddr 0 (.loc 3),none,none⟩,⟨.load1 (.reg 0),none,none⟩,⟨.bin .eql (.reg 1) (.cst (.int .i64 8)),none,none⟩,⟨.mov (.reg 2),none,none⟩,⟨.fieldAddr 0 (.loc 3),none,(some (3,false))⟩,⟨.load1 (.reg 4),none,(some (3,false))⟩,⟨.bin .eql (.reg 5) (.cst (.int .i64 10)),none,(some (3,false))⟩,⟨.pick (.reg 3) (.cst (.bool true)) (.reg 6),none,none⟩,⟨.mov (.reg 7),(some 6),none⟩])
def kL:aK:=(.seq (.region [⟨.mov (.loc 5),none,none⟩,⟨.bin .lss (.reg 0) (.cst (.int .i64 0)),none,none⟩,⟨.mov (.reg 1),none,none⟩,⟨.fieldAddr 4 (.loc 3),none,(some (2,false))⟩,⟨.load1 (.reg 3),none,(some (2,false))⟩,⟨.len .sl (.reg 4),none,(some (2,false))⟩,⟨.mov (.loc 5),none,(some (2,false))⟩,⟨.bin .lss (.reg 5) (.reg 6),none,(some (2,false))⟩,⟨.pick (.reg 2) (.cst (.bool true)) (.reg 7),none,none⟩,⟨.mov (.reg 8),none,none⟩,⟨.fieldAddr 4 (.loc 3),none,(some (9,false))⟩,⟨.load1 (.reg 10),none,(some (9,false))⟩,⟨.len .sl (.reg 11),none,(some (9,false))⟩,⟨.mov (.loc 5),none,(some (9,false))⟩,⟨.bin .gtr (.reg 12) (.reg 13),none,(some (9,false))⟩,⟨.mov (.reg 14),none,(some (9,false))⟩,⟨.mov (.loc 6),none,(some (15,true))⟩,⟨.un .not (.reg 16),none,(some (15,true))⟩,⟨.pick (.reg 15) (.reg 17) (.cst (.bool false)),none,(some (9,false))⟩,⟨.pick (.reg 9) (.cst (.bool true)) (.reg 18),none,none⟩,⟨.mov (.reg 19),none,none⟩,⟨.fieldAddr 0 (.loc 3),none,(some (20,false))⟩,⟨.load1 (.reg 21),none,(some (20,false))⟩,⟨.call true false 160 [(.reg 22)],none,(some (20,false))⟩,⟨.un .not (.reg 23),none,(some (20,false))⟩,⟨.mov (.reg 24),none,(some (20,false))⟩,⟨.fieldAddr 1 (.loc 3),none,(some (25,true))⟩,⟨.load1 (.reg 26),none,(some (25,true))⟩,⟨.bin .neq (.reg 27) (.cst (.int .i64 0)),none,(some (25,true))⟩,⟨.pick (.reg 25) (.reg 28) (.cst (.bool false)),none,(some (20,false))⟩,⟨.pick (.reg 20) (.cst (.bool true)) (.reg 29),(some 8),none⟩])
 (.cond (.loc 8)
  (.seq (.region [⟨.mov (.cst (.bool false)),(some 4),none⟩])
  .ret)
  .skip))
def oS:aK:=(.seq (.region [⟨.fieldAddr 0 (.loc 3),none,none⟩,⟨.load1 (.reg 0),none,none⟩,⟨.bin .neq (.reg 1) (.cst (.int .i64 7)),none,none⟩,⟨.mov (.reg 2),none,none⟩,⟨.fieldAddr 2 (.loc 3),none,(some (3,true))⟩,⟨.load1 (.reg 4),none,(some (3,true))⟩,⟨.len .sl (.reg 5),none,(some (3,true))⟩,⟨.bin .gtr (.reg 6) (.cst (.int .i64 0)),none,(some (3,true))⟩,⟨.mov (.reg 7),none,(some (3,true))⟩,⟨.fieldAddr 3 (.loc 3),none,(some (8,false))⟩,⟨.load1 (.reg 9),none,(some (8,false))⟩,⟨.pick (.reg 8) (.cst (.bool true)) (.reg 10),none,(some (3,true))⟩,⟨.pick (.reg 3) (.reg 11) (.cst (.bool false)),none,none⟩,⟨.mov (.reg 12),none,none⟩,⟨.fieldAddr 3 (.loc 3),none,(some (13,false))⟩,⟨.load1 (.reg 14),none,(some (13,false))⟩,⟨.mov (.reg 15),none,(some (13,false))⟩,⟨.fieldAddr 2 (.loc 3),none,(some (16,true))⟩,⟨.load1 (.reg 17),none,(some (16,true))⟩,⟨.len .sl (.reg 18),none,(some (16,true))⟩,⟨.bin .eql (.reg 19) (.cst (.int .i64 0)),none,(some (16,true))⟩,⟨.pick (.reg 16) (.reg 20) (.cst (.bool false)),none,(some (13,false))⟩,⟨.pick (.reg 13) (.cst (.bool true)) (.reg 21),(some 9),none⟩])
 (.cond (.loc 9)
  (.seq (.region [⟨.mov (.cst (.bool false)),(some 4),none⟩])
  .ret)
  .skip))
def aE8:aK:=(.seq (.region [⟨.mov (.cst (.int .i64 0)),(some 7),none⟩])
 (.block 0
  (.loop t136L0)))
def gG:aK:=(.seq (.region [⟨.fieldAddr 0 (.loc 3),none,none⟩,⟨.load1 (.reg 0),none,none⟩,⟨.bin .eql (.reg 1) (.cst (.int .i64 1)),(some 12),none⟩])
 (.cond (.loc 12)
  (.seq (.region [⟨.fieldAddr 1 (.loc 3),none,none⟩,⟨.load1 (.reg 0),none,none⟩,⟨.bin .geq (.reg 1) (.cst (.int .i64 0)),none,none⟩,⟨.mov (.reg 2),none,none⟩,⟨.fieldAddr 1 (.loc 3),none,(some (3,true))⟩,⟨.load1 (.reg 4),none,(some (3,true))⟩,⟨.fieldAddr 7 (.loc 2),none,(some (3,true))⟩,⟨.load1 (.reg 6),none,(some (3,true))⟩,⟨.len .sl (.reg 7),none,(some (3,true))⟩,⟨.bin .lss (.reg 5) (.reg 8),none,(some (3,true))⟩,⟨.pick (.reg 3) (.reg 9) (.cst (.bool false)),none,none⟩,⟨.mov (.reg 10),(some 4),none⟩])
  .ret)
  .skip))
def gH:aK:=(.seq (.region [⟨.fieldAddr 0 (.loc 3),none,none⟩,⟨.load1 (.reg 0),none,none⟩,⟨.bin .eql (.reg 1) (.cst (.int .i64 2)),none,none⟩,⟨.mov (.reg 2),none,none⟩,⟨.fieldAddr 0 (.loc 3),none,(some (3,false))⟩,⟨.load1 (.reg 4),none,(some (3,false))⟩,⟨.bin .eql (.reg 5) (.cst (.int .i64 4)),none,(some (3,false))⟩,⟨.pick (.reg 3) (.cst (.bool true)) (.reg 6),(some 13),none⟩])
 (.cond (.loc 13)
  (.seq (.region [⟨.fieldAddr 1 (.loc 3),none,none⟩,⟨.load1 (.reg 0),none,none⟩,⟨.bin .geq (.reg 1) (.cst (.int .i64 0)),none,none⟩,⟨.mov (.reg 2),none,none⟩,⟨.fieldAddr 1 (.loc 3),none,(some (3,true))⟩,⟨.load1 (.reg 4),none,(some (3,true))⟩,⟨.fieldAddr 6 (.loc 2),none,(some (3,true))⟩,⟨.load1 (.reg 6),none,(some (3,true))⟩,⟨.bin .lss (.reg 5) (.reg 7),none,(some (3,true))⟩,⟨.pick (.reg 3) (.reg 8) (.cst (.bool false)),none,none⟩,⟨.mov (.reg 9),(some 4),none⟩])
  .ret)
  .skip))
def gJ:aK:=(.seq (.region [⟨.fieldAddr 0 (.loc 3),none,none⟩,⟨.load1 (.reg 0),none,none⟩,⟨.bin .eql (.reg 1) (.cst (.int .i64 3)),none,none⟩,⟨.mov (.reg 2),none,none⟩,⟨.fieldAddr 0 (.loc 3),none,(some (3,false))⟩,⟨.load1 (.reg 4),none,(some (3,false))⟩,⟨.bin .eql (.reg 5) (.cst (.int .i64 5)),none,(some (3,false))⟩,⟨.pick (.reg 3) (.cst (.bool true)) (.reg 6),(some 14),none⟩])
 (.cond (.loc 14)
  (.seq (.region [⟨.fieldAddr 1 (.loc 3),none,none⟩,⟨.load1 (.reg 0),none,none⟩,⟨.bin .geq (.reg 1) (.cst (.int .i64 0)),none,none⟩,⟨.mov (.reg 2),none,none⟩,⟨.fieldAddr 1 (.loc 3),none,(some (3,true))⟩,⟨.load1 (.reg 4),none,(some (3,true))⟩,⟨.fieldAddr 5 (.loc 2),none,(some (3,true))⟩,⟨.load1 (.reg 6),none,(some (3,true))⟩,⟨.bin .lss (.reg 5) (.reg 7),none,(some (3,true))⟩,⟨.pick (.reg 3) (.reg 8) (.cst (.bool false)),none,none⟩,⟨.mov (.reg 9),(some 4),none⟩])
  .ret)
  .skip))
def eS:aK:=(.seq (.region [⟨.mov (.cst (.bool true)),(some 4),none⟩])
 .ret)
theorem bC3:t136.body=(.seq aE7 (.seq aK1 (.seq zX (.seq kL (.seq oS (.seq aE8 (.seq gG (.seq gH (.seq gJ eS))))))))):=rfl
theorem bHn:t136.results=[.loc 4]:=rfl
theorem st1 (p:Pg)(e:Ex)(hw:e.w≤1048576)(r:aK)(fs:List Fr):go' K (lim K) aE7 (Fr.seq r::fs) [.iv (.agg (cA p)),.iv (.agg (aW e)),u_,u_,u_,u_,u_,u_,u_,u_,u_,u_,u_,u_,u_] []=go' K (lim K) r fs [.iv (.agg (cA p)),.iv (.agg (aW e)),lbP p,lbE e,.iv (.bool false),u_,u_,u_,u_,u_,u_,u_,u_,u_,u_] []:=by
 rw[aJ]
 unfold cA
 simp (config := { maxSteps := 4000000 }) (disch:=omega) only[aE7,go_sem,aD,aI]
theorem st2 (p:Pg)(e:Ex)(hw:e.w≤1048576)(r:aK)(fs:List Fr):go' K (lim K) aK1 (Fr.seq r::fs) [.iv (.agg (cA p)),.iv (.agg (aW e)),lbP p,lbE e,.iv (.bool false),u_,u_,u_,u_,u_,u_,u_,u_,u_,u_] []=go' K (lim K) r fs [.iv (.agg (cA p)),.iv (.agg (aW e)),lbP p,lbE e,.iv (.bool false),.iv (.int .i64 (pP e)),u_,u_,u_,u_,u_,u_,u_,u_,u_] []:=by
 have c95:=aWj e []
 rw[aJ]at c95
 simp (config := { maxSteps := 4000000 }) (disch:=omega) only[aK1,go_sem,aD,aI,c95]
theorem st3 (p:Pg)(e:Ex)(hw:e.w≤1048576)(r:aK)(fs:List Fr)(L:Int):go' K (lim K) zX (Fr.seq r::fs) [.iv (.agg (cA p)),.iv (.agg (aW e)),lbP p,lbE e,.iv (.bool false),.iv (.int .i64 L),u_,u_,u_,u_,u_,u_,u_,u_,u_] []=go' K (lim K) r fs [.iv (.agg (cA p)),.iv (.agg (aW e)),lbP p,lbE e,.iv (.bool false),.iv (.int .i64 L),.iv (.bool (decide (e.k=8∨e.k=10))),u_,u_,u_,u_,u_,u_,u_,u_] []:=by
 by_cases k8:e.k=8
 ·rw[decide_eq_true (Or.inl k8)]
  simp (config := { maxSteps := 4000000 }) (disch:=omega) only[zX,go_sem,aD,aI,k8]
 ·by_cases k10:e.k=10
  ·rw[decide_eq_true (Or.inr k10)]
   simp (config := { maxSteps := 4000000 }) (disch:=omega) only[zX,go_sem,aD,aI,k8,k10]
  ·rw[decide_eq_false (by omega)]
   simp (config := { maxSteps := 4000000 }) (disch:=omega) only[zX,go_sem,aD,aI,k8,k10]
def aK2 (e:Ex)(L:Int)(m:Bool):Bool:=decide (L<0)||decide ((e.ks.length:Int)<L)||(decide (L<e.ks.length)&&!m)||(!aCh e.k&&decide (e.n≠0))
theorem bLk (p:Pg)(e:Ex)(hw:e.w≤1048576)(r:aK)(fs:List Fr)(L:Int)(m:Bool)(hb:aK2 e L m=true):go' K (lim K) kL (Fr.seq r::fs) [.iv (.agg (cA p)),.iv (.agg (aW e)),lbP p,lbE e,.iv (.bool false),.iv (.int .i64 L),.iv (.bool m),u_,u_,u_,u_,u_,u_,u_,u_] []=bk' K (lim K) fs .ret [.iv (.agg (cA p)),.iv (.agg (aW e)),lbP p,lbE e,.iv (.bool false),.iv (.int .i64 L),.iv (.bool m),u_,.iv (.bool true),u_,u_,u_,u_,u_,u_] []:=by
 have c160:=aPi e.k []
 by_cases b1:L<0
 ·simp (config := { maxSteps := 4000000 }) (disch:=omega) only[kL,go_sem,aD,aI,b1]
 by_cases b2:(e.ks.length:Int)<L
 ·simp (config := { maxSteps := 4000000 }) (disch:=omega) only[kL,go_sem,aD,aI,b1,b2]
 unfold aK2 at hb
 rw[decide_eq_false b1,decide_eq_false b2,Bool.false_or,Bool.false_or]at hb
 by_cases b3:L<(e.ks.length:Int)
 ·cases m with
  | false =>
   simp (config := { maxSteps := 4000000 }) (disch:=omega) only[kL,go_sem,aD,aI,b1,b2,b3]
  | true =>
   cases hn:aCh e.k with
   | true=>rw[hn]at hb; simp at hb
   | false =>
    rw[hn]at hb c160
    have n0:¬e.n=0:=by simpa using hb
    simp (config := { maxSteps := 4000000 }) (disch:=omega) only[kL,go_sem,aD,aI,b1,b2,b3,c160,n0]
 ·cases hn:aCh e.k with
  | true=>rw[hn,decide_eq_false b3]at hb; simp at hb
  | false =>
   rw[hn,decide_eq_false b3]at hb
   rw[hn]at c160
   have n0:¬e.n=0:=by simpa using hb
   simp (config := { maxSteps := 4000000 }) (disch:=omega) only[kL,go_sem,aD,aI,b1,b2,b3,c160,n0]
theorem bLl (p:Pg)(e:Ex)(hw:e.w≤1048576)(r:aK)(fs:List Fr)(L:Int)(m:Bool)(hb:aK2 e L m=false):go' K (lim K) kL (Fr.seq r::fs) [.iv (.agg (cA p)),.iv (.agg (aW e)),lbP p,lbE e,.iv (.bool false),.iv (.int .i64 L),.iv (.bool m),u_,u_,u_,u_,u_,u_,u_,u_] []=go' K (lim K) r fs [.iv (.agg (cA p)),.iv (.agg (aW e)),lbP p,lbE e,.iv (.bool false),.iv (.int .i64 L),.iv (.bool m),u_,.iv (.bool false),u_,u_,u_,u_,u_,u_] []:=by
 have c160:=aPi e.k []
 unfold aK2 at hb
 simp only[Bool.or_eq_false_iff,decide_eq_false_iff_not]at hb
 obtain⟨⟨⟨b1,b2⟩,hb3⟩,hb4⟩:=hb
 have key:∀(n:Bool),aCh e.k=n→(n=false→e.n=0)→go' K (lim K) kL (Fr.seq r::fs) [.iv (.agg (cA p)),.iv (.agg (aW e)),lbP p,lbE e,.iv (.bool false),.iv (.int .i64 L),.iv (.bool m),u_,u_,u_,u_,u_,u_,u_,u_] []=go' K (lim K) r fs [.iv (.agg (cA p)),.iv (.agg (aW e)),lbP p,lbE e,.iv (.bool false),.iv (.int .i64 L),.iv (.bool m),u_,.iv (.bool false),u_,u_,u_,u_,u_,u_] []:=fun n hn h0=>by
  rw[hn]at c160
  cases n with
  | true =>
   by_cases b3:L<(e.ks.length:Int)
   ·obtain rfl:m=true:=by simpa[b3] using hb3
    simp (config := { maxSteps := 4000000 }) (disch:=omega) only[kL,go_sem,aD,aI,b1,b2,b3,c160]
   ·simp (config := { maxSteps := 4000000 }) (disch:=omega) only[kL,go_sem,aD,aI,b1,b2,b3,c160]
  | false =>
   have n0:=h0 rfl
   by_cases b3:L<(e.ks.length:Int)
   ·obtain rfl:m=true:=by simpa[b3] using hb3
    simp (config := { maxSteps := 4000000 }) (disch:=omega) only[kL,go_sem,aD,aI,b1,b2,b3,c160,n0,bne_self_eq_false]
   ·simp (config := { maxSteps := 4000000 }) (disch:=omega) only[kL,go_sem,aD,aI,b1,b2,b3,c160,n0,bne_self_eq_false]
 exact key _ rfl (fun h=>by rw[h]at hb4; simpa using hb4)
def aK3 (e:Ex):Bool:=(decide (e.k≠7)&&(decide (0<e.vs.length)||e.r))||(e.r&&decide (e.vs.length=0))
theorem bLm (p:Pg)(e:Ex)(hw:e.w≤1048576)(r:aK)(fs:List Fr)(x5 x6:TV)(hb:aK3 e=true):go' K (lim K) oS (Fr.seq r::fs) [.iv (.agg (cA p)),.iv (.agg (aW e)),lbP p,lbE e,.iv (.bool false),x5,x6,u_,.iv (.bool false),u_,u_,u_,u_,u_,u_] []=bk' K (lim K) fs .ret [.iv (.agg (cA p)),.iv (.agg (aW e)),lbP p,lbE e,.iv (.bool false),x5,x6,u_,.iv (.bool false),.iv (.bool true),u_,u_,u_,u_,u_] []:=by
 have hwe:=Ex.w_eq e
 unfold aK3 at hb
 by_cases h7:e.k=7
 ·cases hr:e.r with
  | false=>simp[h7,hr]at hb
  | true =>
   have hv:e.vs.length=0:=by simpa[h7,hr] using hb
   have hv':¬(0:Int)<e.vs.length:=by omega
   simp (config := { maxSteps := 4000000 }) (disch:=omega) only[oS,go_sem,aD,aI,h7,hr,hv,hv',bne_self_eq_false]
 ·by_cases hv:(0:Int)<e.vs.length
  ·simp (config := { maxSteps := 4000000 }) (disch:=omega) only[oS,go_sem,aD,aI,h7,hv]
  ·cases hr:e.r with
   | false =>
    have:¬0<e.vs.length:=by omega
    simp[hr,this]at hb
   | true =>
    simp (config := { maxSteps := 4000000 }) (disch:=omega) only[oS,go_sem,aD,aI,h7,hv,hr]
theorem bLn (p:Pg)(e:Ex)(hw:e.w≤1048576)(r:aK)(fs:List Fr)(x5 x6:TV)(hb:aK3 e=false):go' K (lim K) oS (Fr.seq r::fs) [.iv (.agg (cA p)),.iv (.agg (aW e)),lbP p,lbE e,.iv (.bool false),x5,x6,u_,.iv (.bool false),u_,u_,u_,u_,u_,u_] []=go' K (lim K) r fs [.iv (.agg (cA p)),.iv (.agg (aW e)),lbP p,lbE e,.iv (.bool false),x5,x6,u_,.iv (.bool false),.iv (.bool false),u_,u_,u_,u_,u_] []:=by
 have hwe:=Ex.w_eq e
 unfold aK3 at hb
 by_cases h7:e.k=7
 ·cases hr:e.r with
  | false =>
   simp (config := { maxSteps := 4000000 }) (disch:=omega) only[oS,go_sem,aD,aI,h7,hr,bne_self_eq_false]
  | true =>
   have hv:¬(e.vs.length:Int)=0:=by
    have:¬e.vs.length=0:=by simpa[h7,hr] using hb
    omega
   simp (config := { maxSteps := 4000000 }) (disch:=omega) only[oS,go_sem,aD,aI,h7,hr,hv,bne_self_eq_false]
 ·simp only[h7,ne_eq,not_false_eq_true,decide_true,Bool.true_and,Bool.or_eq_false_iff,decide_eq_false_iff_not]at hb
  have hr:=hb.1.2
  have hv:¬(0:Int)<e.vs.length:=by have:=hb.1.1; omega
  simp (config := { maxSteps := 4000000 }) (disch:=omega) only[oS,go_sem,aD,aI,h7,hv,hr]
theorem st6 (p:Pg)(e:Ex)(hw:e.w≤1048576)(r:aK)(fs:List Fr)(x5 x6:TV):∃y7 y10 y11,go' K (lim K) aE8 (Fr.seq r::fs) [.iv (.agg (cA p)),.iv (.agg (aW e)),lbP p,lbE e,.iv (.bool false),x5,x6,u_,.iv (.bool false),.iv (.bool false),u_,u_,u_,u_,u_] [] =
  if (e.vs.all fun v=>decide (0≤v∧v<p.vr))=true then go' K (lim K) r fs [.iv (.agg (cA p)),.iv (.agg (aW e)),lbP p,lbE e,.iv (.bool false),x5,x6,y7,.iv (.bool false),.iv (.bool false),y10,y11,u_,u_,u_] [] else bk' K (lim K) fs .ret [.iv (.agg (cA p)),.iv (.agg (aW e)),lbP p,lbE e,.iv (.bool false),x5,x6,y7,.iv (.bool false),.iv (.bool false),y10,y11,u_,u_,u_] []:=by
 have hwe:=Ex.w_eq e
 obtain⟨j,y7,y10,y11,hj,l1⟩:=aPl p e (by omega) (.iv (.agg (cA p))) (.iv (.agg (aW e))) x5 x6 (.iv (.bool false)) (.iv (.bool false)) u_ u_ u_ e.vs.length 0 u_ u_ (by omega)
 rw[show ((0:Nat):Int)=0 from rfl]at l1
 rw[List.drop_zero]at hj
 refine⟨y7,y10,y11,?_⟩
 rcases hj with⟨rfl,hv⟩|⟨rfl,hv⟩
 ·rw[hv,if_neg (by decide)]
  simp (config := { maxSteps := 4000000 }) (disch:=omega) only[aE8,go_sem,aD,aI]
  rw[l1]
  simp (config := { maxSteps := 4000000 }) (disch:=omega) only[go_sem]
 ·rw[hv,if_pos rfl]
  simp (config := { maxSteps := 4000000 }) (disch:=omega) only[aE8,go_sem,aD,aI]
  rw[l1]
  simp (config := { maxSteps := 4000000 }) (disch:=omega) only[go_sem]
def bC4 (p:Pg)(e:Ex):Bool:=if e.k=1 then decide (0≤e.n∧e.n<p.cs.length) else if e.k=2∨e.k=4 then decide (0≤e.n∧e.n<p.vr) else if e.k=3∨e.k=5 then decide (0≤e.n∧e.n<p.gl) else true
theorem st7 (p:Pg)(e:Ex)(hw:e.w≤1048576)(hc:p.cs.length≤1048576)(x5 x6 y7 y10 y11:TV):vK [.loc 4] (go' K (lim K) (.seq gG (.seq gH (.seq gJ eS))) [] [.iv (.agg (cA p)),.iv (.agg (aW e)),lbP p,lbE e,.iv (.bool false),x5,x6,y7,.iv (.bool false),.iv (.bool false),y10,y11,u_,u_,u_] [])=.ret (.iv (.bool (bC4 p e)),[]):=by
 unfold bC4
 by_cases k1:e.k=1
 ·rw[if_pos k1]
  by_cases g1:0≤e.n
  ·by_cases g2:e.n<(p.cs.length:Int)
   ·rw[decide_eq_true ⟨g1,g2⟩]
    simp (config := { maxSteps := 4000000 }) (disch:=omega) only[gG,gH,gJ,eS,go_sem,aD,aI,k1,g1,g2,ge_iff_le]
   ·rw[decide_eq_false (by omega)]
    simp (config := { maxSteps := 4000000 }) (disch:=omega) only[gG,gH,gJ,eS,go_sem,aD,aI,k1,g1,g2,ge_iff_le]
  ·rw[decide_eq_false (by omega)]
   simp (config := { maxSteps := 4000000 }) (disch:=omega) only[gG,gH,gJ,eS,go_sem,aD,aI,k1,g1,ge_iff_le]
 rw[if_neg k1]
 by_cases k2:e.k=2
 ·rw[if_pos (Or.inl k2)]
  by_cases g1:0≤e.n
  ·by_cases g2:e.n<p.vr
   ·rw[decide_eq_true ⟨g1,g2⟩]
    simp (config := { maxSteps := 4000000 }) (disch:=omega) only[gG,gH,gJ,eS,go_sem,aD,aI,k2,g1,g2,ge_iff_le]
   ·rw[decide_eq_false (by omega)]
    simp (config := { maxSteps := 4000000 }) (disch:=omega) only[gG,gH,gJ,eS,go_sem,aD,aI,k2,g1,g2,ge_iff_le]
  ·rw[decide_eq_false (by omega)]
   simp (config := { maxSteps := 4000000 }) (disch:=omega) only[gG,gH,gJ,eS,go_sem,aD,aI,k2,g1,ge_iff_le]
 by_cases k4:e.k=4
 ·rw[if_pos (Or.inr k4)]
  by_cases g1:0≤e.n
  ·by_cases g2:e.n<p.vr
   ·rw[decide_eq_true ⟨g1,g2⟩]
    simp (config := { maxSteps := 4000000 }) (disch:=omega) only[gG,gH,gJ,eS,go_sem,aD,aI,k4,g1,g2,ge_iff_le]
   ·rw[decide_eq_false (by omega)]
    simp (config := { maxSteps := 4000000 }) (disch:=omega) only[gG,gH,gJ,eS,go_sem,aD,aI,k4,g1,g2,ge_iff_le]
  ·rw[decide_eq_false (by omega)]
   simp (config := { maxSteps := 4000000 }) (disch:=omega) only[gG,gH,gJ,eS,go_sem,aD,aI,k4,g1,ge_iff_le]
 rw[if_neg (by omega)]
 by_cases k3:e.k=3
 ·rw[if_pos (Or.inl k3)]
  by_cases g1:0≤e.n
  ·by_cases g2:e.n<p.gl
   ·rw[decide_eq_true ⟨g1,g2⟩]
    simp (config := { maxSteps := 4000000 }) (disch:=omega) only[gG,gH,gJ,eS,go_sem,aD,aI,k3,g1,g2,ge_iff_le]
   ·rw[decide_eq_false (by omega)]
    simp (config := { maxSteps := 4000000 }) (disch:=omega) only[gG,gH,gJ,eS,go_sem,aD,aI,k3,g1,g2,ge_iff_le]
  ·rw[decide_eq_false (by omega)]
   simp (config := { maxSteps := 4000000 }) (disch:=omega) only[gG,gH,gJ,eS,go_sem,aD,aI,k3,g1,ge_iff_le]
 by_cases k5:e.k=5
 ·rw[if_pos (Or.inr k5)]
  by_cases g1:0≤e.n
  ·by_cases g2:e.n<p.gl
   ·rw[decide_eq_true ⟨g1,g2⟩]
    simp (config := { maxSteps := 4000000 }) (disch:=omega) only[gG,gH,gJ,eS,go_sem,aD,aI,k5,g1,g2,ge_iff_le]
   ·rw[decide_eq_false (by omega)]
    simp (config := { maxSteps := 4000000 }) (disch:=omega) only[gG,gH,gJ,eS,go_sem,aD,aI,k5,g1,g2,ge_iff_le]
  ·rw[decide_eq_false (by omega)]
   simp (config := { maxSteps := 4000000 }) (disch:=omega) only[gG,gH,gJ,eS,go_sem,aD,aI,k5,g1,ge_iff_le]
 rw[if_neg (by omega)]
 simp (config := { maxSteps := 4000000 }) (disch:=omega) only[gG,gH,gJ,eS,go_sem,aD,aI,k1,k2,k3,k4,k5]
theorem bC5 (p:Pg)(e:Ex):eM p e=(!aK2 e (pP e) (decide (e.k=8∨e.k=10))&&(!aK3 e&&((e.vs.all fun v=>decide (0≤v∧v<p.vr))&&bC4 p e))):=by
 unfold eM
 rw[bC2]
 unfold aK2 aK3
 generalize (decide (pP e<0)||decide ((e.ks.length:Int)<pP e)||(decide (pP e<e.ks.length)&&!decide (e.k=8∨e.k=10))||(!aCh e.k&&decide (e.n≠0)))=A
 rw[Bool.or_assoc]
 generalize hB:((decide (e.k≠7)&&(decide (0<e.vs.length)||e.r))||(e.r&&decide (e.vs.length=0)))=B
 rw[Bool.not_or,Bool.and_assoc]
 congr 1
 cases B with
 | true=>rfl
 | false =>
  rw[Bool.not_false,Bool.true_and,Bool.true_and]
  unfold pT bC4
  by_cases h7:e.k=7
  ·simp[h7]
  ·have hv:e.vs=[]:=by
    simp only[h7,ne_eq,not_false_eq_true,decide_true,Bool.true_and,Bool.or_eq_false_iff,decide_eq_false_iff_not]at hB
    exact List.length_eq_zero_iff.1 (by omega)
   rw[hv]
   simp
theorem bC6 (p:Pg)(e:Ex)(hw:e.w≤1048576)(hc:p.cs.length≤1048576):TM.Pure K 136 [.iv (.agg (cA p)),.iv (.agg (aW e))] (.iv (.bool (eM p e))):=by
 refine TM.aR (S:=[]) (r:=.iv (.bool (eM p e))) (aB K _ (fn:=t136) rfl rfl ?_) (by rw[aN])
 rw[bC3,bHn,bC5,go_seq']
 show vK _ (go' K (lim K) aE7 _ [.iv (.agg (cA p)),.iv (.agg (aW e)),u_,u_,u_,u_,u_,u_,u_,u_,u_,u_,u_,u_,u_] [])=_
 rw[st1 p e hw,go_seq',st2 p e hw,go_seq',st3 p e hw,go_seq']
 cases h1:aK2 e (pP e) (decide (e.k=8∨e.k=10)) with
 | true =>
  rw[bLk p e hw _ _ _ _ h1]
  simp (config := { maxSteps := 4000000 }) (disch:=omega) only[go_sem,Bool.not_true,Bool.false_and]
 | false =>
  rw[bLl p e hw _ _ _ _ h1,go_seq']
  cases h2:aK3 e with
  | true =>
   rw[bLm p e hw _ _ _ _ h2]
   simp (config := { maxSteps := 4000000 }) (disch:=omega) only[go_sem,Bool.not_true,Bool.false_and,Bool.and_false]
  | false =>
   rw[bLn p e hw _ _ _ _ h2,go_seq']
   obtain⟨y7,y10,y11,h6⟩:=st6 p e hw (.seq gG (.seq gH (.seq gJ eS))) [] (.iv (.int .i64 (pP e))) (.iv (.bool (decide (e.k=8∨e.k=10))))
   rw[h6]
   cases hv:(e.vs.all fun v=>decide (0≤v∧v<p.vr)) with
   | true =>
    rw[if_pos rfl,st7 p e hw hc]
    simp
   | false =>
    rw[if_neg (by decide)]
    simp (config := { maxSteps := 4000000 }) (disch:=omega) only[go_sem,Bool.not_false,Bool.true_and,Bool.false_and]
theorem aWk (t:List UInt8)(ht:t.length≤2000000)(x3 x4 x5:TV):∀(k i:Nat) (x6 x7:TV),i+k=t.length →
  ∃j y2 y6 y7,(j=.ret∧(t.drop i).all iN=false∨j=.exit 0∧(t.drop i).all iN=true) ∧
   lp' (lim K) t52L0 [.iv (.str t),.iv (.bool false),.iv (.int .i64 (i:Int)),x3,x4,x5,x6,x7] []=.ret (j,[.iv (.str t),.iv (.bool false),y2,x3,x4,x5,y6,y7],[])
 | 0,i,x6,x7,h=>by
  obtain rfl:i=t.length:=by omega
  refine⟨.exit 0,.iv (.int .i64 t.length),.iv (.bool false),x7,.inr ⟨rfl,by rw[List.drop_length]; rfl⟩,aH K _ _ t52L0.eq_1 ?_⟩
  simp (disch:=omega) only[go_sem]
 | k+1,i,x6,x7,h=>by
  have hla:i<t.length:=by omega
  have hix:=qZ (s:=t) (i:=(i:Int)) (kd:=.i64) (by omega)
  rw[Int.toNat_natCast]at hix
  have hdr:t.drop i=t.getD i 0::t.drop (i+1):=by
   rw[List.drop_eq_getElem_cons hla,List.getD_eq_getElem?_getD,List.getElem?_eq_getElem hla]; rfl
  generalize hx:t.getD i 0=b at *
  have hbl:=b.toNat_lt
  by_cases h1:(b.toNat:Int)<48
  ·refine⟨.ret,.iv (.int .i64 i),.iv (.bool true),.iv (.bool true),.inl ⟨rfl,?_⟩,aH K _ _ t52L0.eq_1 ?_⟩
   ·rw[hdr,List.all_cons]; simp[iN]; omega
   ·simp (disch:=omega) only[go_sem,hix,h1]
  ·by_cases h2:(57:Int)<b.toNat
   ·refine⟨.ret,.iv (.int .i64 i),.iv (.bool true),.iv (.bool true),.inl ⟨rfl,?_⟩,aH K _ _ t52L0.eq_1 ?_⟩
    ·rw[hdr,List.all_cons]; simp[iN]; omega
    ·simp (disch:=omega) only[go_sem,hix,h1,h2]
   ·obtain⟨j,y2,y6,y7,hj,ih⟩:=aWk t ht x3 x4 x5 k (i+1) (.iv (.bool true)) (.iv (.bool false)) (by omega)
    rw[show ((i+1:Nat):Int)=(i:Int)+1 by omega]at ih
    refine⟨j,y2,y6,y7,?_,aH K _ _ t52L0.eq_1 ?_⟩
    ·rw[hdr,List.all_cons,show iN b=true by simp[iN]; omega,Bool.true_and]; exact hj
    ·simp (disch:=omega) only[go_sem,hix,h1,h2,aF]
     exact congrArg er ih
theorem bHo {s:List UInt8}(h:s≠[48]):aKt s=match mA s with
  | []=>false
  | a::r=>if a.toNat=48 then false else (a::r).all iN:=by
 unfold aKt
 cases mA s with
 | nil=>rfl
 | cons a r=>simp[h]
theorem bHp (s:List UInt8)(hs:s.length≤2000000):TM.Pure K 52 [.iv (.str s)] (.iv (.bool (aKt s))):=by
 by_cases hz:s=[48]
 ·subst hz
  refine aR (S:=[]) (r:=.iv (.bool true)) (aB K _ (fn:=t52) rfl rfl ?_) (by rw[aN]; rfl)
  simp (disch:=omega) only[t52,go_sem]
 ·rw[bHo hz]
  have hzb:(s==[(48:UInt8)])=false:=by simp[hz]
  have tail:∀t:List UInt8,t.length≤2000000→∀x3 x4 x5 x6 x7:TV,(t≠[]→(t.getD 0 0).toNat≠48)→∃j y2 y6 y7,(j=.ret∧t.all iN=false∨j=.exit 0∧t.all iN=true) ∧
   lp' (lim K) t52L0 [.iv (.str t),.iv (.bool false),.iv (.int .i64 0),x3,x4,x5,x6,x7] []=.ret (j,[.iv (.str t),.iv (.bool false),y2,x3,x4,x5,y6,y7],[]):=fun t ht x3 x4 x5 x6 x7 _=>by
   have:=aWk t ht x3 x4 x5 t.length 0 x6 x7 (by omega)
   rw[List.drop_zero]at this
   exact this
  cases s with
  | nil =>
   refine aR (S:=[]) (r:=.iv (.bool false)) (aB K _ (fn:=t52) rfl rfl ?_) (by rw[aN]; rfl)
   simp (disch:=omega) only[t52,go_sem,hzb,List.length_nil]
  | cons a r =>
   have hl:(a::r).length=r.length+1:=rfl
   have h4:=bHf a r .i64
   have hbl:=a.toNat_lt
   have hsl:=vM [] (s:=a::r) (a:=1) (by rw[hl]; omega)
   rw[show (1:Int).toNat=1 from rfl,show (a::r).drop 1=r from rfl]at hsl
   by_cases ha:a.toNat=45
   ·have hai:(a.toNat:Int)=45:=by omega
    rw[show mA (a::r)=r by simp[mA,ha]]
    cases r with
    | nil =>
     refine aR (S:=[]) (r:=.iv (.bool false)) (aB K _ (fn:=t52) rfl rfl ?_) (by rw[aN])
     simp (disch:=omega) only[t52,go_sem,hzb,hl,h4,hai,hsl,List.length_nil]
    | cons b r2 =>
     have h5:=bHf b r2 .i64
     have hl2:(b::r2).length=r2.length+1:=rfl
     have hbl2:=b.toNat_lt
     simp only
     by_cases hb:b.toNat=48
     ·have hbi:(b.toNat:Int)=48:=by omega
      rw[if_pos hb]
      refine aR (S:=[]) (r:=.iv (.bool false)) (aB K _ (fn:=t52) rfl rfl ?_) (by rw[aN])
      simp (disch:=omega) only[t52,go_sem,hzb,hl,h4,hai,hsl,hl2,h5,hbi]
     ·have hbi:¬(b.toNat:Int)=48:=by omega
      rw[if_neg hb]
      obtain⟨j,y2,y6,y7,hj,ih⟩:=tail (b::r2) (by simp at hs ⊢; omega) (.iv (.bool false)) (.iv (.bool true)) (.iv (.bool false)) u_ u_ (by intro _; simpa using hb)
      rcases hj with⟨rfl,hv⟩|⟨rfl,hv⟩
      ·refine aR (S:=[]) (r:=.iv (.bool false)) (aB K _ (fn:=t52) rfl rfl ?_) (by rw[aN,hv])
       simp (disch:=omega) only[t52,go_sem,hzb,hl,h4,hai,hsl,hl2,h5,hbi]
       rw[ih]
       simp (disch:=omega) only[go_sem]
      ·refine aR (S:=[]) (r:=.iv (.bool true)) (aB K _ (fn:=t52) rfl rfl ?_) (by rw[aN,hv])
       simp (disch:=omega) only[t52,go_sem,hzb,hl,h4,hai,hsl,hl2,h5,hbi]
       rw[ih]
       simp (disch:=omega) only[go_sem]
   ·have hai:¬(a.toNat:Int)=45:=by omega
    rw[show mA (a::r)=a::r by simp[mA,ha]]
    simp only
    by_cases hb:a.toNat=48
    ·have hbi:(a.toNat:Int)=48:=by omega
     rw[if_pos hb]
     refine aR (S:=[]) (r:=.iv (.bool false)) (aB K _ (fn:=t52) rfl rfl ?_) (by rw[aN])
     simp (disch:=omega) only[t52,go_sem,hzb,hl,h4,hbi]
    ·have hbi:¬(a.toNat:Int)=48:=by omega
     rw[if_neg hb]
     obtain⟨j,y2,y6,y7,hj,ih⟩:=tail (a::r) hs (.iv (.bool false)) (.iv (.bool false)) (.iv (.bool false)) u_ u_ (by intro _; simpa using hb)
     rcases hj with⟨rfl,hv⟩|⟨rfl,hv⟩
     ·refine aR (S:=[]) (r:=.iv (.bool false)) (aB K _ (fn:=t52) rfl rfl ?_) (by rw[aN,hv])
      simp (disch:=omega) only[t52,go_sem,hzb,hl,h4,hai,hbi]
      rw[ih]
      simp (disch:=omega) only[go_sem]
     ·refine aR (S:=[]) (r:=.iv (.bool true)) (aB K _ (fn:=t52) rfl rfl ?_) (by rw[aN,hv])
      simp (disch:=omega) only[t52,go_sem,hzb,hl,h4,hai,hbi]
      rw[ih]
      simp (disch:=omega) only[go_sem]
theorem zY (s:List UInt8)(hl:s.length≤2000000):∃l,TM.Pure K 51 [.iv (.str s)] (.tup [l,.iv (.int .i64 (if okC s then 0 else 4))]):=by
 have h:=aVy s hl
 unfold okC
 cases hc:(cV s.length s 0).2 with
 | none=>rw[hc]at h; exact⟨_,h⟩
 | some p=>rw[hc]at h; exact⟨_,h⟩
theorem vV:∀(n:Nat) (d:Dt),d.w≤n→fN d=((cF n d).1.all fN&&fN (cF n d).2)
 | 0,d,h=>by have:=Dt.w_eq d; omega
 | n+1,d,h=>by
  rw[cF]
  split
  ·rename_i hp
   have h2:=sY hp
   have hk:d.k=6:=by simp only[Dt.pr,Bool.and_eq_true,decide_eq_true_eq]at hp; exact hp.1
   have m1:=Dt.kid_lt (bP (l:=d.ks) (i:=1) (by omega))
   have ih:=vV n (d.ks.getD 1 default) (by omega)
   obtain⟨a,b,hab⟩:=aEv h2
   rw[tZ d,if_pos ⟨hk,h2⟩]
   rw[hab]at ih ⊢
   simp only[List.getD_cons_zero,List.getD_cons_succ,List.all_cons,List.all_nil,Bool.and_true]at ih ⊢
   rw[ih,Bool.and_assoc]
  ·simp
theorem aDb:∀(n:Nat) (d:Dt),d.w≤n→Dt.ws (cF n d).1+(cF n d).1.length+(cF n d).2.w≤d.w
 | 0,d,h=>by have:=Dt.w_eq d; omega
 | n+1,d,h=>by
  rw[cF]
  split
  ·rename_i hp
   have h2:=sY hp
   have m1:=Dt.kid_lt (bP (l:=d.ks) (i:=1) (by omega))
   have ih:=aDb n (d.ks.getD 1 default) (by omega)
   obtain⟨a,b,hab⟩:=aEv h2
   have hw:=Dt.w_eq d
   rw[hab,Dt.ws,Dt.ws,Dt.ws]at hw
   rw[hab]at ih ⊢
   simp only[List.getD_cons_zero,List.getD_cons_succ,List.length_cons,Dt.ws]at ih ⊢
   omega
  ·simp[Dt.ws]
theorem aPm (g:Tag)(l:List Dt)(hw:l.length≤1048576)(H:∀x∈l,TM.Pure K 18 [agD x] (.iv (.bool (fN x))))(x0 x1 x4 x6 x7 x10 x11 x12 x13 x14 x15 x16 x17 x18 x19:TV):∀(k i:Nat) (x8 x9:TV),i+k=l.length →
  ∃j y5 y8 y9,(j=.ret∧(l.drop i).all fN=false∨j=.exit 0∧(l.drop i).all fN=true) ∧
   lp' (lim K) t18L1 [x0,x1,.iv (.bool false),.iv (.sl g (bQ l)),x4,.iv (.int .i64 (i:Int)),x6,x7,x8,x9,x10,x11,x12,x13,x14,x15,x16,x17,x18,x19] []=.ret (j,[x0,x1,.iv (.bool false),.iv (.sl g (bQ l)),x4,y5,x6,x7,y8,y9,x10,x11,x12,x13,x14,x15,x16,x17,x18,x19],[])
 | 0,i,x8,x9,h=>by
  obtain rfl:i=l.length:=by omega
  refine⟨.exit 0,.iv (.int .i64 l.length),.iv (.bool false),x9,.inr ⟨rfl,by rw[List.drop_length]; rfl⟩,aH K _ _ t18L1.eq_1 ?_⟩
  simp (disch:=omega) only[go_sem,aI]
 | k+1,i,x8,x9,h=>by
  have hla:i<l.length:=by omega
  have hix:=ixD (g:=g) (ks:=l) (i:=(i:Int)) (by omega)
  rw[Int.toNat_natCast]at hix
  have hdr:=bM hla
  have hm:=H _ (bP (i:=i) hla)
  generalize hx:l.getD i default=x at *
  cases hv:fN x with
  | false =>
   rw[hv]at hm
   refine⟨.ret,.iv (.int .i64 i),.iv (.bool true),.iv (.bool true),.inl ⟨rfl,by rw[hdr,List.all_cons,hv,Bool.false_and]⟩,aH K _ _ t18L1.eq_1 ?_⟩
   simp (disch:=omega) only[go_sem,aI,hix,eZ,aC hm]
  | true =>
   rw[hv]at hm
   obtain⟨j,y5,y8,y9,hj,ih⟩:=aPm g l hw H x0 x1 x4 x6 x7 x10 x11 x12 x13 x14 x15 x16 x17 x18 x19 k (i+1) (.iv (.bool true)) (.iv (.bool false)) (by omega)
   rw[show ((i+1:Nat):Int)=(i:Int)+1 by omega]at ih
   refine⟨j,y5,y8,y9,by rw[hdr,List.all_cons,hv,Bool.true_and]; exact hj,aH K _ _ t18L1.eq_1 ?_⟩
   simp (disch:=omega) only[go_sem,aI,hix,eZ,aC hm,aF]
   exact congrArg er ih
theorem aE9 (d:Dt)(hw:d.ks.length≤1048576)(H:∀x∈d.ks,TM.Pure K 18 [agD x] (.iv (.bool (fN x))))(x0 x1 x3 x5 x7 x8 x9 x10 x13 x14 x15 x16 x17 x18 x19:TV):∀(k i:Nat) (x11 x12:TV),i+k=d.ks.length →
  ∃j y6 y11 y12,(j=.ret∧(d.ks.drop i).all fN=false∨j=.exit 2∧(d.ks.drop i).all fN=true) ∧
   lp' (lim K) t18L0 [x0,x1,.iv (.bool false),x3,lbD d,x5,.iv (.int .i64 (i:Int)),x7,x8,x9,x10,x11,x12,x13,x14,x15,x16,x17,x18,x19] []=.ret (j,[x0,x1,.iv (.bool false),x3,lbD d,x5,y6,x7,x8,x9,x10,y11,y12,x13,x14,x15,x16,x17,x18,x19],[])
 | 0,i,x11,x12,h=>by
  obtain rfl:i=d.ks.length:=by omega
  refine⟨.exit 2,.iv (.int .i64 d.ks.length),.iv (.bool false),x12,.inr ⟨rfl,by rw[List.drop_length]; rfl⟩,aH K _ _ t18L0.eq_1 ?_⟩
  simp (disch:=omega) only[go_sem,aI]
 | k+1,i,x11,x12,h=>by
  have hla:i<d.ks.length:=by omega
  have hix:=ixD (g:=d.g) (ks:=d.ks) (i:=(i:Int)) (by omega)
  rw[Int.toNat_natCast]at hix
  have hdr:=bM hla
  have hm:=H _ (bP (i:=i) hla)
  generalize hx:d.ks.getD i default=x at *
  cases hv:fN x with
  | false =>
   rw[hv]at hm
   refine⟨.ret,.iv (.int .i64 i),.iv (.bool true),.iv (.bool true),.inl ⟨rfl,by rw[hdr,List.all_cons,hv,Bool.false_and]⟩,aH K _ _ t18L0.eq_1 ?_⟩
   simp (disch:=omega) only[go_sem,aI,hix,eZ,aC hm]
  | true =>
   rw[hv]at hm
   obtain⟨j,y6,y11,y12,hj,ih⟩:=aE9 d hw H x0 x1 x3 x5 x7 x8 x9 x10 x13 x14 x15 x16 x17 x18 x19 k (i+1) (.iv (.bool true)) (.iv (.bool false)) (by omega)
   rw[show ((i+1:Nat):Int)=(i:Int)+1 by omega]at ih
   refine⟨j,y6,y11,y12,by rw[hdr,List.all_cons,hv,Bool.true_and]; exact hj,aH K _ _ t18L0.eq_1 ?_⟩
   simp (disch:=omega) only[go_sem,aI,hix,eZ,aC hm,aF]
   exact congrArg er ih
theorem aK4:∀N,N≤1048576→∀d:Dt,d.w≤N→TM.Pure K 18 [agD d] (.iv (.bool (fN d)))
  | 0,hN=>fun d hw=>by have:=Dt.w_eq d; omega
  | N+1,hN=>fun d hw=>by
    have c50:=aE6 d.w d (Nat.le_refl _) (by omega)
    have ih:=aK4 N (by omega)
    have hmi:=vV d.w d (Nat.le_refl _)
    have htl:=oR d.w d (Nat.le_refl _)
    have hme:=rK d.w d
    have hln:=rL d.w d
    rw[hmi]
    generalize cF d.w d=q at *
    obtain⟨l,x⟩:=q
    simp only at c50 htl hme hln ⊢
    have hwx:=Dt.w_eq x
    have hlx:=Dt.ws_len x.ks
    have H1:∀y∈l,TM.Pure K 18 [agD y] (.iv (.bool (fN y))):=fun y hy=>ih y (by have:=hme y hy; omega)
    have H2:∀y∈x.ks,TM.Pure K 18 [agD y] (.iv (.bool (fN y))):=fun y hy=>ih y (by have:=Dt.kid_lt hy; omega)
    obtain⟨j,y5,y8,y9,hj,l1⟩:=aPm (eP l) l (by omega) H1 (agD d) (lbD d) (lbD x) u_ u_ u_ u_ u_ u_ u_ u_ u_ u_ u_ u_ l.length 0 u_ u_ (by omega)
    rw[show ((0:Nat):Int)=0 from rfl]at l1
    rw[List.drop_zero]at hj
    rcases hj with⟨rfl,hv⟩|⟨rfl,hv⟩
    · rw[hv,Bool.false_and]
      refine aR (S:=[]) (r:=.iv (.bool false)) (aB K _ (fn:=t18) rfl rfl ?_) (by rw[aN])
      simp (config := { maxSteps := 4000000 }) (disch:=omega) only[t18,go_sem,aC c50]
      rw[l1]
      simp (config := { maxSteps := 4000000 }) (disch:=omega) only[go_sem]
    rw[hv,Bool.true_and,tZ,if_neg (by have h1:=htl.1; unfold Dt.pr at h1; simpa using h1)]
    by_cases h7:x.k=7
    · rw[if_pos h7]
      obtain⟨j,y6,y11,y12,hj,l2⟩:=aE9 x (by omega) H2 (agD d) (lbD d) (.iv (.sl (eP l) (bQ l))) y5 u_ y8 y9 (.iv (.bool false)) u_ u_ u_ u_ u_ u_ u_ x.ks.length 0 u_ u_ (by omega)
      rw[show ((0:Nat):Int)=0 from rfl]at l2
      rw[List.drop_zero]at hj
      unfold lbD at l1 l2
      rw[h7]at l1 l2
      rcases hj with⟨rfl,hv2⟩|⟨rfl,hv2⟩
      · rw[hv2]
        refine aR (S:=[]) (r:=.iv (.bool false)) (aB K _ (fn:=t18) rfl rfl ?_) (by rw[aN])
        simp (config := { maxSteps := 4000000 }) (disch:=omega) only[t18,go_sem,aC c50,h7]
        rw[l1]
        simp (config := { maxSteps := 4000000 }) (disch:=omega) only[go_sem]
        rw[l2]
        simp (config := { maxSteps := 4000000 }) (disch:=omega) only[go_sem]
      · rw[hv2]
        obtain⟨lc,hc⟩:=zY x.t (by omega)
        refine aR (S:=[]) (r:=.iv (.bool true)) (aB K _ (fn:=t18) rfl rfl ?_) (by rw[aN])
        simp (config := { maxSteps := 4000000 }) (disch:=omega) only[t18,go_sem,aC c50,h7]
        rw[l1]
        simp (config := { maxSteps := 4000000 }) (disch:=omega) only[go_sem]
        rw[l2]
        simp (config := { maxSteps := 4000000 }) (disch:=omega) only[go_sem,aC hc]
    · rw[if_neg h7]
      by_cases h0:x.ks=[]
      · rw[h0,List.isEmpty_nil,Bool.true_and]
        have hk0:¬(0:Int)<x.ks.length:=by rw[h0]; simp
        obtain⟨j,y6,y11,y12,hj,l2⟩:=aE9 x (by omega) H2 (agD d) (lbD d) (.iv (.sl (eP l) (bQ l))) y5 u_ y8 y9 (.iv (.bool false)) u_ u_ u_ u_ u_ u_ u_ x.ks.length 0 u_ u_ (by omega)
        rw[show ((0:Nat):Int)=0 from rfl]at l2
        rw[h0,List.drop_zero]at hj
        obtain ⟨rfl, _⟩ : j = .exit 2 ∧ True := by rcases hj with ⟨_, h⟩ | ⟨h, _⟩; · simp at h
                                                   · exact⟨h,trivial⟩
        obtain⟨lc,hc⟩:=zY x.t (by omega)
        have h52:=bHp x.t (by omega)
        have h53:=zO x.n
        have key:∀b:Bool,zT x=b→TM.Pure K 18 [agD d] (.iv (.bool b)):=fun b hb=>by
          refine aR (S:=[]) (r:=.iv (.bool b)) (aB K _ (fn:=t18) rfl rfl ?_) (by rw[aN])
          simp (config := { maxSteps := 4000000 }) (disch:=omega) only[t18,go_sem,aC c50]
          rw[l1]
          simp (config := { maxSteps := 4000000 }) (disch:=omega) only[go_sem,h7,aI,hk0]
          rw[l2]
          subst hb
          unfold zT
          by_cases hs:x.k=0∨x.k=8∨x.k=9∨x.k=10
          · rw[if_pos hs]
            rcases hs with h|h|h|h<;>simp (config := { maxSteps := 4000000 }) (disch:=omega) only[go_sem,aC hc,h]
          rw[if_neg hs]
          have n0:¬x.k=0:=fun h=>hs (.inl h)
          have n8:¬x.k=8:=fun h=>hs (.inr (.inl h))
          have n9:¬x.k=9:=fun h=>hs (.inr (.inr (.inl h)))
          have n10:¬x.k=10:=fun h=>hs (.inr (.inr (.inr h)))
          by_cases h1:x.k=1
          · rw[if_pos h1]
            by_cases m0:x.n=0
            · simp (config := { maxSteps := 4000000 }) (disch:=omega) only[go_sem,aC hc,h1,m0,true_or]
            · by_cases m1:x.n=1
              · simp (config := { maxSteps := 4000000 }) (disch:=omega) only[go_sem,aC hc,h1,m1,or_true]
              · simp (config := { maxSteps := 4000000 }) (disch:=omega) only[go_sem,aC hc,h1,m0,m1,or_self]
          rw[if_neg h1]
          by_cases h2:x.k=2
          · rw[if_pos h2]
            simp (config := { maxSteps := 4000000 }) (disch:=omega) only[go_sem,aC hc,aC h52,h2]
          rw[if_neg h2]
          by_cases h3:x.k=3
          · rw[if_pos h3]
            simp (config := { maxSteps := 4000000 }) (disch:=omega) only[go_sem,aC hc,h53,h3]
          rw[if_neg h3]
          by_cases h4:x.k=4
          · rw[if_pos h4]
            cases ho:okC x.t
            · rw[ho]at hc
              simp (config := { maxSteps := 4000000 }) (disch:=omega) only[go_sem,aC hc,h4,Bool.false_eq_true]
            · rw[ho]at hc
              simp (config := { maxSteps := 4000000 }) (disch:=omega) only[go_sem,aC hc,h4]
          rw[if_neg h4]
          by_cases h5:x.k=5
          · rw[if_pos h5]
            cases ho:okC x.t
            · rw[ho]at hc
              simp (config := { maxSteps := 4000000 }) (disch:=omega) only[go_sem,aC hc,h5,Bool.false_eq_true,Bool.false_and]
            · rw[ho]at hc
              cases ht:x.t with
              | nil =>
                rw[ht]at hc
                simp (config := { maxSteps := 4000000 }) (disch:=omega) only[go_sem,aC hc,h5,ht,List.length_nil,List.isEmpty_nil,Bool.not_true,Bool.true_and]
              | cons a r =>
                rw[ht]at hc
                have:(a::r).length=r.length+1:=rfl
                simp (config := { maxSteps := 4000000 }) (disch:=omega) only[go_sem,aC hc,h5,ht,this,List.isEmpty_cons,Bool.not_false,Bool.true_and]
          rw[if_neg h5]
          simp (config := { maxSteps := 4000000 }) (disch:=omega) only[go_sem,aC hc,n0,n8,n9,n10,h1,h2,h3,h4,h5,h7]
        exact key _ rfl
      · rw[show x.ks.isEmpty=false by simpa using h0,Bool.false_and]
        have hk0:(0:Int)<x.ks.length:=by have:x.ks.length≠0:=fun h=>h0 (List.eq_nil_of_length_eq_zero h); omega
        refine aR (S:=[]) (r:=.iv (.bool false)) (aB K _ (fn:=t18) rfl rfl ?_) (by rw[aN])
        simp (config := { maxSteps := 4000000 }) (disch:=omega) only[t18,go_sem,aC c50]
        rw[l1]
        simp (config := { maxSteps := 4000000 }) (disch:=omega) only[go_sem,h7,aI,hk0]
abbrev rcB (p:Pg) (a b:TV):aY:=.cells 121 false (fO p++[a,b])
structure RC (p:Pg) (S:aA) (ic jb jc:Nat) (B C:List Int):Prop where
 cel:S[ic]? = some (rcB p (acc jb (aP B)) (acc jc (aP C)))
 ab:At 1 3 (aP B) jb S
 ac:At 1 3 (aP C) jc S
 ne:aP B≠[]→aP C≠[]→jb≠jc
theorem oE {l:List (List IV)}{i q:Nat}(h:q∈dF l i):l≠[]∧q=i:=by
 unfold dF at h
 split at h
 ·simp at h
 ·rename_i h0; exact⟨h0,by simpa using h⟩
theorem At.ne_cells {w el i j:Nat}{l:List (List IV)}{S:aA}{v:Nat}{b:Bool}{c:List TV}(h:At w el l i S)(hj:S[j]? = some (.cells v b c))(hl:l≠[]):i≠j:=cW (h hl) hj (by simp)
def stB (p:Pg)(S:aA)(ic jb jc:Nat)(B C:List Int)(v:Int):aA:=(gS 1 3 (aP B) jb S).set ic (rcB p (acc (gI (aP B) jb S) (aP (B++[v]))) (acc jc (aP C)))
def stC (p:Pg)(S:aA)(ic jb jc:Nat)(B C:List Int)(v:Int):aA:=(gS 1 3 (aP C) jc S).set ic (rcB p (acc jb (aP B)) (acc (gI (aP C) jc S) (aP (C++[v]))))
theorem aFa {w el i j:Nat}{l:List (List IV)}{S:aA}{v:Nat}{b:Bool}{c:List TV}(h:At w el l i S)(hj:S[j]? = some (.cells v b c)):(gS w el l i S)[j]? = some (.cells v b c) :=
 (kW w el l i S).get _ _ (fun hq=>by obtain⟨h0,rfl⟩:=oE hq; exact At.ne_cells h hj h0 rfl) hj
theorem aWl {p:Pg}{S:aA}{ic jb jc:Nat}{B C:List Int}(v:Int):bW (ic::dF (aP B) jb) S (stB p S ic jb jc B C v) :=
 ((kW 1 3 (aP B) jb S).mono (fun q hq=>List.mem_cons_of_mem _ hq)).trans (bW.set _ (by simp) _)
theorem aWm {p:Pg}{S:aA}{ic jb jc:Nat}{B C:List Int}(v:Int):bW (ic::dF (aP C) jc) S (stC p S ic jb jc B C v) :=
 ((kW 1 3 (aP C) jc S).mono (fun q hq=>List.mem_cons_of_mem _ hq)).trans (bW.set _ (by simp) _)
theorem aDc {p:Pg}{S:aA}{ic jb jc:Nat}{B C:List Int}(h:RC p S ic jb jc B C)(v:Int){l:List (List IV)}{i:Nat}(hi:At 1 3 l i S)(hd:l≠[]→aP B≠[]→i≠jb):At 1 3 l i (stB p S ic jb jc B C v)∧(l≠[]→i≠gI (aP B) jb S):=by
 obtain⟨h1,h2⟩:=At.other (w:=1) (el:=3) (l:=aP B) (i:=jb) hi hd
 exact⟨h1.keep (bW.set (I:=[ic]) _ (by simp) _) (fun hl=>by simpa using At.ne_cells hi h.cel hl),h2⟩
theorem aRj {p:Pg}{S:aA}{ic jb jc:Nat}{B C:List Int}(h:RC p S ic jb jc B C)(v:Int){l:List (List IV)}{i:Nat}(hi:At 1 3 l i S)(hd:l≠[]→aP C≠[]→i≠jc):At 1 3 l i (stC p S ic jb jc B C v)∧(l≠[]→i≠gI (aP C) jc S):=by
 obtain⟨h1,h2⟩:=At.other (w:=1) (el:=3) (l:=aP C) (i:=jc) hi hd
 exact⟨h1.keep (bW.set (I:=[ic]) _ (by simp) _) (fun hl=>by simpa using At.ne_cells hi h.cel hl),h2⟩
theorem bHq {p:Pg}{S:aA}{ic jb jc:Nat}{B C:List Int}(h:RC p S ic jb jc B C)(v:Int):RC p (stB p S ic jb jc B C v) ic (gI (aP B) jb S) jc (B++[v]) C:=by
 have hg:=pH h.ab [.int .i64 v]
 rw[hU]at hg
 have hc:=aFa h.ab h.cel
 have ho:=aDc h v h.ac (fun a b=>(h.ne b a).symm)
 refine⟨fM (dM hc) _,hg.keep (bW.set (I:=[ic]) _ (by simp) _) (fun hl=>by simpa using At.ne_cells hg hc hl),ho.1,fun _ hl=>(ho.2 hl).symm⟩
theorem bHr {p:Pg}{S:aA}{ic jb jc:Nat}{B C:List Int}(h:RC p S ic jb jc B C)(v:Int):RC p (stC p S ic jb jc B C v) ic jb (gI (aP C) jc S) B (C++[v]):=by
 have hg:=pH h.ac [.int .i64 v]
 rw[hU]at hg
 have hc:=aFa h.ac h.cel
 have ho:=aRj h v h.ab (fun a b=>h.ne a b)
 refine⟨fM (dM hc) _,ho.1,hg.keep (bW.set (I:=[ic]) _ (by simp) _) (fun hl=>by simpa using At.ne_cells hg hc hl),fun hl _=>ho.2 hl⟩
theorem RC.keep {p:Pg}{S S':aA}{ic jb jc:Nat}{B C:List Int}{I:List Nat}(h:RC p S ic jb jc B C)(k:bW I S S')(h1:ic∉I)(h2:aP B≠[]→jb∉I)(h3:aP C≠[]→jc∉I):RC p S' ic jb jc B C :=
 ⟨k.get _ _ h1 h.cel,h.ab.keep k h2,h.ac.keep k h3,h.ne⟩
theorem jO (S:aA)(i:Nat)(l:List Int):lJ S (acc i (aP l))=some (.iv (.sl (eP (aP l)) (TM.one (.int .i64) l))):=vO S i (aP l)
theorem bHs {l:List (List IV)}{i:Nat}{S:aA}:l≠[]∧gI l i S=i∨S.length≤gI l i S:=by
 unfold gI
 split
 ·exact .inr (Nat.le_refl _)
 ·rename_i h; exact .inl ⟨h,rfl⟩
def Nw (S:aA)(l l':List (List IV))(i i':Nat):Prop:=∀q∈dF l' i',q∈dF l i∨S.length≤q
theorem Nw.refl (S:aA)(l:List (List IV))(i:Nat):Nw S l l i i:=fun q hq=>.inl hq
theorem Nw.step (S:aA)(l l':List (List IV))(i:Nat):Nw S l l' i (gI l i S):=fun q hq=>by
 obtain⟨_,rfl⟩:=oE hq
 rcases bHs (l:=l) (i:=i) (S:=S) with⟨h,he⟩|h
 ·left; rw[he]; unfold dF; rw[if_neg h]; simp
 ·exact .inr h
theorem Nw.trans {S S':aA}{l l' l'':List (List IV)}{i i' i'':Nat}(h:Nw S l l' i i')(g:Nw S' l' l'' i' i'')(hs:S.length≤S'.length):Nw S l l'' i i'':=fun q hq=>by
 rcases g q hq with h1|h1
 ·exact h q h1
 ·exact .inr (Nat.le_trans hs h1)
theorem aHr (p:Pg)(e:Ex)(hw:e.w≤1048576)(ic jc:Nat)(Cs:List Int)(x1 x2 x3 x8 x9 x10 x11 x14 x15 x16 x17 x18:TV):∀(k i:Nat) (Bs ins B:List Int) (jb ji:Nat) (S:aA) (x12 x13:TV),i+k=e.vs.length →
  RC p S ic jb jc Bs Cs→(∀v,v∈Bs↔v∈B)→At 1 3 (aP ins) ji S→(aP ins≠[]→aP Bs≠[]→ji≠jb)→(aP ins≠[]→aP Cs≠[]→ji≠jc)→Bs.length+k≤4194304→ins.length+k≤8388608 →
  ∃j r y6 y7 y12 y13 S',(j=.ret∧r=.iv (.int .i64 14)∧oD (e.vs.drop i) B=none∨j=.exit 0∧r=.iv (.int .i64 0)∧∃B1 Bs' jb' ji',oD (e.vs.drop i) B=some B1∧(∀v,v∈Bs'↔v∈B1)∧Bs'.length=Bs.length+k∧y6=acc ji' (aP (ins++e.vs.drop i)) ∧
    RC p S' ic jb' jc Bs' Cs∧At 1 3 (aP (ins++e.vs.drop i)) ji' S'∧(aP (ins++e.vs.drop i)≠[]→aP Bs'≠[]→ji'≠jb')∧(aP (ins++e.vs.drop i)≠[]→aP Cs≠[]→ji'≠jc)∧Nw S (aP Bs) (aP Bs') jb jb'∧Nw S (aP ins) (aP (ins++e.vs.drop i)) ji ji')∧bW (ic::(dF (aP Bs) jb++dF (aP ins) ji)) S S' ∧
   lp' (lim K) t103L1 [.ptr ic 121 0,x1,x2,x3,lbE e,.iv (.int .i64 0),acc ji (aP ins),.iv (.int .i64 (i:Int)),x8,x9,x10,x11,x12,x13,x14,x15,x16,x17,x18] S
    = .ret (j,[.ptr ic 121 0,x1,x2,x3,lbE e,r,y6,y7,x8,x9,x10,x11,y12,y13,x14,x15,x16,x17,x18],S')
 | 0,i,Bs,ins,B,jb,ji,S,x12,x13,h,hrc,hB,hin,d1,d2,b1,b2=>by
  obtain rfl:i=e.vs.length:=by omega
  have hnil:ins++e.vs.drop e.vs.length=ins:=by rw[List.drop_length,List.append_nil]
  refine⟨.exit 0,_,acc ji (aP ins),.iv (.int .i64 e.vs.length),.iv (.bool false),x13,S,.inr ⟨rfl,rfl,B,Bs,jb,ji,by rw[List.drop_length]; rfl,hB,rfl,by rw[hnil],hrc,by rw[hnil]; exact hin,by rw[hnil]; exact d1,by rw[hnil]; exact d2,Nw.refl _ _ _,by rw[hnil]; exact Nw.refl _ _ _⟩,bW.refl _ _,aH K _ _ t103L1.eq_1 ?_⟩
  simp (disch:=omega) only[go_sem]
 | k+1,i,Bs,ins,B,jb,ji,S,x12,x13,h,hrc,hB,hin,d1,d2,b1,b2=>by
  have hwe:=Ex.w_eq e
  have hla:i<e.vs.length:=by omega
  have hix:=gZ (f:=IV.int .i64) (t:=e.gv) (l:=e.vs) (i:=(i:Int)) (by omega)
  rw[Int.toNat_natCast]at hix
  have hdr:=bM hla
  generalize hx:e.vs.getD i default=v at *
  have hcel:=hrc.cel
  have c104:=tV (eP (aP Bs)) Bs v (by omega) []
  by_cases hv:v∈Bs
  ·rw[decide_eq_true hv]at c104
   refine⟨.ret,_,acc ji (aP ins),.iv (.int .i64 i),.iv (.bool true),.iv (.bool true),S,.inl ⟨rfl,rfl,by rw[hdr,oD,if_pos ((hB v).1 hv)]⟩,bW.refl _ _,aH K _ _ t103L1.eq_1 ?_⟩
   simp (disch:=omega) only[go_sem,hix,hcel,rcB,jO,c104]
  ·rw[decide_eq_false hv]at c104
   have e1:=yJ (b:=8) (c:=[.int .i64 v]) (t:=.full) hrc.ab ⟨rfl,rfl⟩ (jD Bs) (cM (by rw[eC]; omega))
   rw[hU]at e1
   have hc1:=aFa hrc.ab hrc.cel
   have hrc2:=bHq hrc v
   have ho:=aDc hrc v hin d1
   have hk2:=aWl (p:=p) (S:=S) (ic:=ic) (jb:=jb) (jc:=jc) (B:=Bs) (C:=Cs) v
   have hst:(gS 1 3 (aP Bs) jb S).set ic (.cells 121 false [.iv (.int .i64 p.b.k),.iv (.int .i64 p.b.n),.iv (.sl p.b.gv (TM.one (.int .i64) p.b.vs)),.iv (.bool p.b.r),.iv (.sl p.b.g (aQ p.b.ks)),.iv (.int .i64 p.gl),.iv (.int .i64 p.vr),.iv (.sl p.gc (bQ p.cs)),acc (gI (aP Bs) jb S) (aP (Bs++[v])),acc jc (aP Cs)])=stB p S ic jb jc Bs Cs v:=rfl
   have e2:=yJ (b:=8) (c:=[.int .i64 v]) (t:=.full) ho.1 ⟨rfl,rfl⟩ (jD ins) (cM (by rw[eC]; omega))
   rw[hU]at e2
   have hg2:=pH ho.1 [.int .i64 v]
   rw[hU]at hg2
   have hk3:=kW 1 3 (aP ins) ji (stB p S ic jb jc Bs Cs v)
   have hrc3:=hrc2.keep hk3 (fun hq=>by obtain⟨h0,h1⟩:=oE hq; exact At.ne_cells ho.1 hrc2.cel h0 h1.symm) (fun hb hq=>by obtain⟨h0,h1⟩:=oE hq; exact ho.2 h0 h1.symm) (fun hc hq=>by obtain⟨h0,h1⟩:=oE hq; exact d2 h0 hc h1.symm)
   generalize hS3:gS 1 3 (aP ins) ji (stB p S ic jb jc Bs Cs v)=S3 at *
   have hgn:∀(l:List Int),aP l≠[]→∀j,At 1 3 (aP l) j (stB p S ic jb jc Bs Cs v)→(aP ins≠[]→ji≠j)→gI (aP ins) ji (stB p S ic jb jc Bs Cs v)≠j:=fun l hl j ha hj=>aOf (ha hl) hj
   obtain⟨j,r,y6,y7,y12,y13,S',hj,q9,ih⟩:=aHr p e hw ic jc Cs x1 x2 x3 x8 x9 x10 x11 x14 x15 x16 x17 x18 k (i+1) (Bs++[v]) (ins++[v]) (v::B) _ _ S3 (.iv (.bool true)) (.iv (.bool false)) (by omega) hrc3 (fun u=>by simp[hB u,or_comm]) hg2
    (fun _ hb=>hgn _ hb _ hrc2.ab (fun h0=>ho.2 h0)) (fun _ hc=>hgn _ hc _ hrc2.ac (fun h0=>d2 h0 hc)) (by simp; omega) (by simp; omega)
   rw[show ((i+1:Nat):Int)=(i:Int)+1 by omega]at ih
   have hadd:oD (e.vs.drop i) B=oD (e.vs.drop (i+1)) (v::B):=by rw[hdr,oD,if_neg (fun h=>hv ((hB v).2 h))]
   have happ:ins++e.vs.drop i=(ins++[v])++e.vs.drop (i+1):=by rw[hdr]; simp
   have hl23:S.length≤(stB p S ic jb jc Bs Cs v).length:=hk2.len
   refine⟨j,r,y6,y7,y12,y13,S',?_,?_,aH K _ _ t103L1.eq_1 ?_⟩
   ·rw[hadd,happ]
    rcases hj with hj|⟨hj,hr,B1,Bs',jb',ji',q1,q2,q3,q4,q5,q6,q7,q8,q10,q11⟩
    ·exact .inl hj
    ·refine .inr ⟨hj,hr,B1,Bs',jb',ji',q1,q2,by rw[q3]; simp; omega,q4,q5,q6,q7,q8,?_,?_⟩
     ·exact Nw.trans (Nw.step S _ _ _) q10 (Nat.le_trans hl23 hk3.len)
     ·exact Nw.trans (fun q hq=>by
       rcases Nw.step (stB p S ic jb jc Bs Cs v) (aP ins) _ ji q hq with h|h
       ·exact .inl h
       ·exact .inr (Nat.le_trans hl23 h)) q11 (Nat.le_trans hl23 hk3.len)
   ·refine dQ (dQ (I:=ic::(dF (aP Bs) jb++dF (aP ins) ji)) (hk2.mono fun q hq=>?_) hk3 fun q hq=>?_) q9 fun q hq=>?_
    ·simp only[List.mem_cons,List.mem_append]at hq ⊢
     rcases hq with h|h
     ·exact .inl h
     ·exact .inr (.inl h)
    ·left; simp only[List.mem_cons,List.mem_append]; exact .inr (.inr hq)
    ·simp only[List.mem_cons,List.mem_append]at hq ⊢
     rcases hq with h|h|h
     ·exact .inl (.inl h)
     ·rcases Nw.step S (aP Bs) _ jb q h with h|h
      ·exact .inl (.inr (.inl h))
      ·exact .inr h
     ·rcases Nw.step (stB p S ic jb jc Bs Cs v) (aP ins) _ ji q h with h|h
      ·exact .inl (.inr (.inr h))
      ·exact .inr (Nat.le_trans hl23 h)
   ·simp (disch:=omega) only[go_sem,hix,hcel,rcB,jO,c104,e1,hc1,hst,e2,hS3,aF]
    exact congrArg er ih
def inS (S:aA)(As:List Int):aA:=if As=[] then S else S++[.tok As.length 1 3]
theorem bKb (S:aA)(ja:Nat)(As:List Int)(hl:As.length≤8388608):cI false 1 8 3 S (.iv (.sl .nil [])) (acc ja (aP As))=some (acc S.length (aP As),inS S As):=by
 unfold inS
 by_cases h:As=[]
 ·subst h
  rw[if_pos rfl]
  exact aB6 rfl (oA.sl ..)
 ·rw[if_neg h]
  have h0:aP As≠[]:=by simpa[eB] using h
  have:=wV (w:=1) (b:=8) (el:=3) (S:=S) (t:=.nil) (l:=[]) (ys:=aP As) (x:=.tsl ja (aP As)) (by decide) (oA.tsl ..) (jD As) (by simp[fD]) h0 (cM (by rw[eC]; simp; omega))
  rw[gN _ h0,gN _ h0,this]
  simp[eC]
theorem bHt (S:aA)(As:List Int):At 1 3 (aP As) S.length (inS S As):=fun h=>by
 have h0:As≠[]:=by simpa[eB] using h
 unfold inS
 rw[if_neg h0,dG,eC]
theorem aWn (S:aA)(As:List Int):bW [] S (inS S As):=by
 unfold inS
 split
 ·exact bW.refl _ _
 ·exact bW.app _ _ _
def aDd (p:Pg)(ic:Nat)(S S':aA)(Bs Cs:List Int)(jb jc n:Nat)(f:Int×List Int×List Int):Prop :=
 bW (ic::(dF (aP Bs) jb++dF (aP Cs) jc)) S S'∧(f.1=0→∃Bs' Cs' jb' jc',RC p S' ic jb' jc' Bs' Cs'∧(∀v,v∈Bs'↔v∈f.2.1)∧(∀v,v∈Cs'↔v∈f.2.2)∧Bs'.length+Cs'.length≤Bs.length+Cs.length+n∧Nw S (aP Bs) (aP Bs') jb jb'∧Nw S (aP Cs) (aP Cs') jc jc')
theorem mV {p:Pg}{ic:Nat}{S S1 S':aA}{Bs Cs Bs1 Cs1:List Int}{jb jc jb1 jc1 n1 n2 n:Nat}{f:Int×List Int×List Int}
  (hk:bW (ic::(dF (aP Bs) jb++dF (aP Cs) jc)) S S1) (hB:Nw S (aP Bs) (aP Bs1) jb jb1) (hC:Nw S (aP Cs) (aP Cs1) jc jc1) (hl:Bs1.length+Cs1.length≤Bs.length+Cs.length+n1)
  (h:aDd p ic S1 S' Bs1 Cs1 jb1 jc1 n2 f) (hn:n1+n2≤n):aDd p ic S S' Bs Cs jb jc n f:=by
 obtain⟨h1,h2⟩:=h
 refine⟨dQ hk h1 fun q hq=>?_,fun h0=>?_⟩
 ·simp only[List.mem_cons,List.mem_append]at hq ⊢
  rcases hq with h|h|h
  ·exact .inl (.inl h)
  ·rcases hB q h with h|h
   ·exact .inl (.inr (.inl h))
   ·exact .inr h
  ·rcases hC q h with h|h
   ·exact .inl (.inr (.inr h))
   ·exact .inr h
 ·obtain⟨Bs',Cs',jb',jc',q1,q2,q3,q4,q5,q6⟩:=h2 h0
  exact⟨Bs',Cs',jb',jc',q1,q2,q3,by omega,Nw.trans hB q5 hk.len,Nw.trans hC q6 hk.len⟩
theorem aRk {p:Pg}{ic:Nat}{S:aA}{Bs Cs B C:List Int}{jb jc n:Nat}{f:Int}(h:RC p S ic jb jc Bs Cs)(hB:∀v,v∈Bs↔v∈B)(hC:∀v,v∈Cs↔v∈C):aDd p ic S S Bs Cs jb jc n (f,B,C) :=
 ⟨bW.refl _ _,fun _=>⟨Bs,Cs,jb,jc,h,hB,hC,by omega,Nw.refl _ _ _,Nw.refl _ _ _⟩⟩
theorem mQ {p:Pg}{ic:Nat}{S S':aA}{Bs Cs B C:List Int}{jb jc n:Nat}{f:Int}(hf:f≠0)(hk:bW (ic::(dF (aP Bs) jb++dF (aP Cs) jc)) S S'):aDd p ic S S' Bs Cs jb jc n (f,B,C) :=
 ⟨hk,fun h=>absurd h hf⟩
def bKc (p:Pg)(ic N:Nat):Prop:=∀(e:Ex) (depth:Nat) (S:aA) (Bs Cs As B C A:List Int) (jb jc ja:Nat),e.w≤N→depth≤4000→RC p S ic jb jc Bs Cs→(∀v,v∈Bs↔v∈B)→(∀v,v∈Cs↔v∈C)→(∀v,v∈As↔v∈A) →
 Bs.length+Cs.length+e.w≤2097152→As.length+e.w≤2097152 →
 ∃S',(lim K).call 103 [.ptr ic 121 0,.iv (.agg (aW e)),acc ja (aP As),.iv (.int .i64 (depth:Int))] S=.ret (.iv (.int .i64 (chk p e depth B C A).1),S')∧aDd p ic S S' Bs Cs jb jc e.w (chk p e depth B C A)
theorem pU {p:Pg}{ic N:Nat}(ihN:bKc p ic N)(e:Ex)(hw:e.w≤N+1)(hN:N+1≤1048576)(depth:Nat)(hd:depth+1≤4000)(ins A:List Int)(hA:∀v,v∈ins↔v∈A)(ji:Nat)(x1 x2 x7 x10 x11 x12 x13 x14 x15 x16:TV):∀(k i:Nat) (Bs Cs B C:List Int) (jb jc:Nat) (S:aA) (x9 x17 x18:TV),i+k=e.ks.length →
  RC p S ic jb jc Bs Cs→(∀v,v∈Bs↔v∈B)→(∀v,v∈Cs↔v∈C)→Bs.length+Cs.length+Ex.ws (e.ks.drop i)≤2097152→ins.length+Ex.ws (e.ks.drop i)≤2097152 →
  ∃j r y8 y9 y17 y18 S',(j=.ret∧r=(gF p (e.ks.drop i) (depth+1) B C A).1∧r≠0∨j=.exit 2∧r=0∧(gF p (e.ks.drop i) (depth+1) B C A).1=0)∧aDd p ic S S' Bs Cs jb jc (Ex.ws (e.ks.drop i)) (gF p (e.ks.drop i) (depth+1) B C A) ∧
   lp' (lim K) t103L0 [.ptr ic 121 0,x1,x2,.iv (.int .i64 (depth:Int)),lbE e,.iv (.int .i64 0),acc ji (aP ins),x7,.iv (.int .i64 (i:Int)),x9,x10,x11,x12,x13,x14,x15,x16,x17,x18] S
    = .ret (j,[.ptr ic 121 0,x1,x2,.iv (.int .i64 (depth:Int)),lbE e,.iv (.int .i64 r),acc ji (aP ins),x7,y8,y9,x10,x11,x12,x13,x14,x15,x16,y17,y18],S')
 | 0,i,Bs,Cs,B,C,jb,jc,S,x9,x17,x18,h,hrc,hB,hC,b1,b2=>by
  obtain rfl:i=e.ks.length:=by omega
  rw[List.drop_length,gF]
  refine⟨.exit 2,0,.iv (.int .i64 e.ks.length),x9,.iv (.bool false),x18,S,.inr ⟨rfl,rfl,rfl⟩,aRk hrc hB hC,aH K _ _ t103L0.eq_1 ?_⟩
  simp (config := { maxSteps := 4000000 }) (disch:=omega) only[go_sem,aD]
 | k+1,i,Bs,Cs,B,C,jb,jc,S,x9,x17,x18,h,hrc,hB,hC,b1,b2=>by
  have hla:i<e.ks.length:=by omega
  have hwe:=Ex.w_eq e
  have hwl:=Ex.ws_len e.ks
  have hix:=ixE (g:=e.g) (ks:=e.ks) (i:=(i:Int)) (by omega)
  rw[Int.toNat_natCast]at hix
  have hdr:=bM hla
  have hkw:=Ex.kid_lt (d:=e) (bP hla)
  rw[hdr,Ex.ws]at b1 b2
  rw[hdr]
  generalize hxx:e.ks.getD i default=x at *
  obtain⟨S1,c103,ha⟩:=ihN x (depth+1) S Bs Cs ins B C A jb jc ji (by omega) hd hrc hB hC hA (by omega) (by omega)
  rw[show ((depth+1:Nat):Int)=(depth:Int)+1 by omega]at c103
  rw[gF]
  generalize hq:chk p x (depth+1) B C A=q at *
  obtain⟨f,B1,C1⟩:=q
  simp only at c103 ⊢
  rw[aJ x]at c103
  by_cases hf:f=0
  ·subst hf
   rw[if_pos rfl]
   obtain⟨hk1,h0⟩:=ha
   obtain⟨Bs',Cs',jb',jc',q1,q2,q3,q4,q5,q6⟩:=h0 rfl
   obtain⟨j,r,y8,y9,y17,y18,S',hj,hA2,ih⟩:=pU ihN e hw hN depth hd ins A hA ji x1 x2 x7 x10 x11 x12 x13 x14 x15 x16 k (i+1) Bs' Cs' B1 C1 jb' jc' S1 (.iv (.int .i64 0)) (.iv (.bool true)) (.iv (.bool false)) (by omega) q1 q2 q3 (by omega) (by omega)
   rw[show ((i+1:Nat):Int)=(i:Int)+1 by omega]at ih
   refine⟨j,r,y8,y9,y17,y18,S',hj,mV hk1 q5 q6 q4 hA2 (by rw[Ex.ws]; omega),aH K _ _ t103L0.eq_1 ?_⟩
   simp (config := { maxSteps := 4000000 }) (disch:=omega) only[go_sem,aD,hix,fG,c103,aF]
   exact congrArg er ih
  ·rw[if_neg hf]
   refine⟨.ret,f,.iv (.int .i64 i),.iv (.int .i64 f),.iv (.bool true),.iv (.bool true),S1,.inl ⟨rfl,rfl,hf⟩,⟨ha.1,fun h=>absurd h hf⟩,aH K _ _ t103L0.eq_1 ?_⟩
   simp (config := { maxSteps := 4000000 }) (disch:=omega) only[go_sem,aD,hix,fG,c103,hf,aF]
theorem uD (p:Pg)(hpc:p.cs.length≤1048576)(ic:Nat):∀N,N≤1048576→bKc p ic N
 | 0,hN=>fun e depth S Bs Cs As B C A jb jc ja hw=>by have:=Ex.w_eq e; omega
 | N+1,hN=>fun e depth S Bs Cs As B C A jb jc ja hw hd hrc hB hC hA b1 b2=>by
  have hwe:=Ex.w_eq e
  have hwl:=Ex.ws_len e.ks
  have hchk:chk p e depth B C A=if 4000≤depth then (5,B,C) else if eM p e=false then (4,B,C) else match oD e.vs B with
    | none=>(14,B,C)
    | some B1=>if e.k=1∧e.n∈C then (14,B,C) else if (e.k=2∨e.k=4)∧e.n∉e.vs++A then (6,B,C) else gF p e.ks (depth+1) B1 (if e.k=1 then e.n::C else C) (e.vs++A):=by
   cases e; rw[chk]; rfl
  rw[hchk]
  by_cases h4:4000≤depth
  ·rw[if_pos h4]
   refine⟨S,aB K _ (fn:=t103) rfl rfl ?_,mQ (by decide) (bW.refl _ _)⟩
   rw[aJ]
   have:(4000:Int)≤depth:=by omega
   simp (config := { maxSteps := 4000000 }) (disch:=omega) only[t103,go_sem,this,ge_iff_le]
  rw[if_neg h4]
  have h4':¬(4000:Int)≤depth:=by omega
  have c136:=bC6 p e (by omega) hpc
  have hcel:=hrc.cel
  cases hf:eM p e with
  | false =>
   rw[if_pos rfl]
   rw[hf,aJ]at c136
   unfold cA at c136
   refine⟨S,aB K _ (fn:=t103) rfl rfl ?_,mQ (by decide) (bW.refl _ _)⟩
   rw[aJ]
   simp (config := { maxSteps := 4000000 }) (disch:=omega) only[t103,go_sem,h4',ge_iff_le,hcel,rcB,fO,aC c136]
  | true =>
  rw[if_neg (by decide)]
  rw[hf,aJ]at c136
  unfold cA at c136
  have e0:=bKb S ja As (by omega)
  have hk0:=aWn S As
  have hrc0:=hrc.keep hk0 (by simp) (by simp) (by simp)
  have hat0:=bHt S As
  obtain⟨j,r,y6,y7,y12,y13,S1,hj,hkv,l1⟩:=aHr p e (by omega) ic jc Cs (.iv (.agg (aW e))) (acc ja (aP As)) (.iv (.int .i64 (depth:Int))) u_ u_ (.iv (.bool false)) (.iv (.bool false)) u_ u_ u_ u_ u_ e.vs.length 0 Bs As B jb S.length (inS S As) u_ u_ (by omega) hrc0 hB hat0 (fun _ hb he=>by have:=dM (hrc.ab hb); omega) (fun _ hc he=>by have:=dM (hrc.ac hc); omega) (by omega) (by omega)
  rw[show ((0:Nat):Int)=0 from rfl]at l1
  rw[List.drop_zero]at hj
  rw[aJ]at l1
  have hkS1:bW (ic::(dF (aP Bs) jb++dF (aP Cs) jc)) S S1:=dQ (hk0.mono (by simp)) hkv fun q hq=>by
   simp only[List.mem_cons,List.mem_append]at hq ⊢
   rcases hq with h|h|h
   ·exact .inl (.inl h)
   ·exact .inl (.inr (.inl h))
   ·obtain⟨_,rfl⟩:=oE h; exact .inr (Nat.le_refl _)
  rcases hj with⟨rfl,rfl,hv⟩|⟨rfl,rfl,B1,Bs',jb',ji',hv,q2,q3,rfl,q5,q6,q7,q8,q10,q11⟩
  ·rw[hv]
   refine⟨S1,aB K _ (fn:=t103) rfl rfl ?_,mQ (by decide) hkS1⟩
   rw[aJ]
   simp (config := { maxSteps := 4000000 }) (disch:=omega) only[t103,go_sem,h4',ge_iff_le,hcel,rcB,fO,aC c136,e0]
   rw[l1]
   simp (config := { maxSteps := 4000000 }) (disch:=omega) only[go_sem]
  ·rw[hv]
   simp only
   have hmem:∀v,v∈As++e.vs↔v∈e.vs++A:=fun v=>by simp[hA v,or_comm]
   have hnB:Nw S (aP Bs) (aP Bs') jb jb':=fun q hq=>(q10 q hq).imp id (Nat.le_trans hk0.len)
   have hcel1:=q5.cel
   have hl0:=hk0.len
   by_cases h1:e.k=1
   ·have c104:=tV (eP (aP Cs)) Cs e.n (by omega) []
    by_cases hn:e.n∈Cs
    ·rw[if_pos ⟨h1,(hC _).1 hn⟩]
     rw[decide_eq_true hn]at c104
     refine⟨S1,aB K _ (fn:=t103) rfl rfl ?_,mQ (by decide) hkS1⟩
     rw[aJ]
     simp (config := { maxSteps := 4000000 }) (disch:=omega) only[t103,go_sem,h4',ge_iff_le,hcel,rcB,fO,aC c136,e0]
     rw[l1]
     simp (config := { maxSteps := 4000000 }) (disch:=omega) only[go_sem,h1,hcel1,rcB,fO,jO,c104]
    ·rw[if_neg (fun h=>hn ((hC _).2 h.2)),if_neg (fun h=>by omega),if_pos h1]
     rw[decide_eq_false hn]at c104
     have e2:=yJ (b:=8) (c:=[.int .i64 e.n]) (t:=.full) q5.ac ⟨rfl,rfl⟩ (jD Cs) (cM (by rw[eC]; omega))
     rw[hU]at e2
     have hc1:=aFa q5.ac q5.cel
     have hrc2:=bHr q5 e.n
     have hk2:=aWm (p:=p) (S:=S1) (ic:=ic) (jb:=jb') (jc:=jc) (B:=Bs') (C:=Cs) e.n
     have hst:(gS 1 3 (aP Cs) jc S1).set ic (.cells 121 false [.iv (.int .i64 p.b.k),.iv (.int .i64 p.b.n),.iv (.sl p.b.gv (TM.one (.int .i64) p.b.vs)),.iv (.bool p.b.r),.iv (.sl p.b.g (aQ p.b.ks)),.iv (.int .i64 p.gl),.iv (.int .i64 p.vr),.iv (.sl p.gc (bQ p.cs)),acc jb' (aP Bs'),acc (gI (aP Cs) jc S1) (aP (Cs++[e.n]))])=stC p S1 ic jb' jc Bs' Cs e.n:=rfl
     have hkS2:bW (ic::(dF (aP Bs) jb++dF (aP Cs) jc)) S (stC p S1 ic jb' jc Bs' Cs e.n):=hkS1.trans (hk2.mono fun q hq=>by
      simp only[List.mem_cons,List.mem_append]at hq ⊢
      rcases hq with h|h
      ·exact .inl h
      ·exact .inr (.inr h))
     have hnC:Nw S (aP Cs) (aP (Cs++[e.n])) jc (gI (aP Cs) jc S1):=fun q hq=>(Nw.step S1 (aP Cs) _ jc q hq).imp id (Nat.le_trans hkS1.len)
     obtain⟨j,r,y8,y9,y17,y18,S',hj,hA2,l2⟩:=pU (uD p hpc ic N (by omega)) e hw hN depth (by omega) (As++e.vs) (e.vs++A) hmem ji' (.iv (.agg (aW e))) (acc ja (aP As)) y7 (.iv (.bool false)) (.iv (.bool false)) y12 y13 (.iv (.bool true)) (.iv (.bool false)) (.iv (.bool false)) e.ks.length 0 Bs' (Cs++[e.n]) B1 (e.n::C) jb' (gI (aP Cs) jc S1) (stC p S1 ic jb' jc Bs' Cs e.n) u_ u_ u_ (by omega) hrc2 q2 (fun u=>by simp[hC u,or_comm]) (by rw[List.drop_zero]; simp; omega) (by rw[List.drop_zero]; simp; omega)
     rw[show ((0:Nat):Int)=0 from rfl]at l2
     rw[List.drop_zero]at hj hA2
     rw[aJ e]at l2
     refine⟨S',aB K _ (fn:=t103) rfl rfl ?_,mV hkS2 hnB hnC (n1:=e.vs.length+1) (by simp; omega) hA2 (by omega)⟩
     rw[aJ]
     rw[h1]at l2
     rcases hj with⟨rfl,hr,_⟩|⟨rfl,hr,h0⟩
     ·rw[←hr]
      simp (config := { maxSteps := 4000000 }) (disch:=omega) only[t103,go_sem,h4',ge_iff_le,hcel,rcB,fO,aC c136,e0]
      rw[l1]
      simp (config := { maxSteps := 4000000 }) (disch:=omega) only[go_sem,h1,hcel1,rcB,fO,jO,c104,e2,hc1]
      rw[hst,l2]
      simp (config := { maxSteps := 4000000 }) (disch:=omega) only[go_sem]
     ·rw[h0]; subst hr
      simp (config := { maxSteps := 4000000 }) (disch:=omega) only[t103,go_sem,h4',ge_iff_le,hcel,rcB,fO,aC c136,e0]
      rw[l1]
      simp (config := { maxSteps := 4000000 }) (disch:=omega) only[go_sem,h1,hcel1,rcB,fO,jO,c104,e2,hc1]
      rw[hst,l2]
      simp (config := { maxSteps := 4000000 }) (disch:=omega) only[go_sem]
   rw[if_neg (fun h=>h1 h.1),if_neg h1]
   have c104:=tV (eP (aP (As++e.vs))) (As++e.vs) e.n (by simp; omega) []
   have key24:e.k=2∨e.k=4∨(e.k≠2∧e.k≠4):=by omega
   rcases key24 with h2|h2|⟨h2,h3⟩
   ·by_cases hn:e.n∈As++e.vs
    ·rw[if_neg (fun h=>h.2 ((hmem _).1 hn))]
     rw[decide_eq_true hn]at c104
     obtain⟨j,r,y8,y9,y17,y18,S',hj,hA2,l2⟩:=pU (uD p hpc ic N (by omega)) e hw hN depth (by omega) (As++e.vs) (e.vs++A) hmem ji' (.iv (.agg (aW e))) (acc ja (aP As)) y7 (.iv (.bool false)) (.iv (.bool false)) y12 y13 (.iv (.bool false)) u_ (.iv (.bool false)) e.ks.length 0 Bs' Cs B1 C jb' jc S1 u_ u_ u_ (by omega) q5 q2 hC (by rw[List.drop_zero]; omega) (by rw[List.drop_zero]; simp; omega)
     rw[show ((0:Nat):Int)=0 from rfl]at l2
     rw[List.drop_zero]at hj hA2
     rw[aJ e]at l2
     refine⟨S',aB K _ (fn:=t103) rfl rfl ?_,mV hkS1 hnB (Nw.refl _ _ _) (n1:=e.vs.length) (by omega) hA2 (by omega)⟩
     rw[aJ]
     rw[h2]at l2
     rcases hj with⟨rfl,hr,_⟩|⟨rfl,hr,h0⟩
     ·rw[←hr]
      simp (config := { maxSteps := 4000000 }) (disch:=omega) only[t103,go_sem,h4',ge_iff_le,hcel,rcB,fO,aC c136,e0]
      rw[l1]
      simp (config := { maxSteps := 4000000 }) (disch:=omega) only[go_sem,jO,c104,h2]
      rw[l2]
      simp (config := { maxSteps := 4000000 }) (disch:=omega) only[go_sem]
     ·rw[h0]; subst hr
      simp (config := { maxSteps := 4000000 }) (disch:=omega) only[t103,go_sem,h4',ge_iff_le,hcel,rcB,fO,aC c136,e0]
      rw[l1]
      simp (config := { maxSteps := 4000000 }) (disch:=omega) only[go_sem,jO,c104,h2]
      rw[l2]
      simp (config := { maxSteps := 4000000 }) (disch:=omega) only[go_sem]
    ·rw[if_pos ⟨by omega,fun h=>hn ((hmem _).2 h)⟩]
     rw[decide_eq_false hn]at c104
     refine⟨S1,aB K _ (fn:=t103) rfl rfl ?_,mQ (by decide) hkS1⟩
     rw[aJ]
     simp (config := { maxSteps := 4000000 }) (disch:=omega) only[t103,go_sem,h4',ge_iff_le,hcel,rcB,fO,aC c136,e0]
     rw[l1]
     simp (config := { maxSteps := 4000000 }) (disch:=omega) only[go_sem,jO,c104,h2]
   ·by_cases hn:e.n∈As++e.vs
    ·rw[if_neg (fun h=>h.2 ((hmem _).1 hn))]
     rw[decide_eq_true hn]at c104
     obtain⟨j,r,y8,y9,y17,y18,S',hj,hA2,l2⟩:=pU (uD p hpc ic N (by omega)) e hw hN depth (by omega) (As++e.vs) (e.vs++A) hmem ji' (.iv (.agg (aW e))) (acc ja (aP As)) y7 (.iv (.bool false)) (.iv (.bool false)) y12 y13 (.iv (.bool false)) u_ (.iv (.bool false)) e.ks.length 0 Bs' Cs B1 C jb' jc S1 u_ u_ u_ (by omega) q5 q2 hC (by rw[List.drop_zero]; omega) (by rw[List.drop_zero]; simp; omega)
     rw[show ((0:Nat):Int)=0 from rfl]at l2
     rw[List.drop_zero]at hj hA2
     rw[aJ e]at l2
     refine⟨S',aB K _ (fn:=t103) rfl rfl ?_,mV hkS1 hnB (Nw.refl _ _ _) (n1:=e.vs.length) (by omega) hA2 (by omega)⟩
     rw[aJ]
     rw[h2]at l2
     rcases hj with⟨rfl,hr,_⟩|⟨rfl,hr,h0⟩
     ·rw[←hr]
      simp (config := { maxSteps := 4000000 }) (disch:=omega) only[t103,go_sem,h4',ge_iff_le,hcel,rcB,fO,aC c136,e0]
      rw[l1]
      simp (config := { maxSteps := 4000000 }) (disch:=omega) only[go_sem,jO,c104,h2]
      rw[l2]
      simp (config := { maxSteps := 4000000 }) (disch:=omega) only[go_sem]
     ·rw[h0]; subst hr
      simp (config := { maxSteps := 4000000 }) (disch:=omega) only[t103,go_sem,h4',ge_iff_le,hcel,rcB,fO,aC c136,e0]
      rw[l1]
      simp (config := { maxSteps := 4000000 }) (disch:=omega) only[go_sem,jO,c104,h2]
      rw[l2]
      simp (config := { maxSteps := 4000000 }) (disch:=omega) only[go_sem]
    ·rw[if_pos ⟨by omega,fun h=>hn ((hmem _).2 h)⟩]
     rw[decide_eq_false hn]at c104
     refine⟨S1,aB K _ (fn:=t103) rfl rfl ?_,mQ (by decide) hkS1⟩
     rw[aJ]
     simp (config := { maxSteps := 4000000 }) (disch:=omega) only[t103,go_sem,h4',ge_iff_le,hcel,rcB,fO,aC c136,e0]
     rw[l1]
     simp (config := { maxSteps := 4000000 }) (disch:=omega) only[go_sem,jO,c104,h2]
   ·rw[if_neg (fun h=>by omega)]
    obtain⟨j,r,y8,y9,y17,y18,S',hj,hA2,l2⟩:=pU (uD p hpc ic N (by omega)) e hw hN depth (by omega) (As++e.vs) (e.vs++A) hmem ji' (.iv (.agg (aW e))) (acc ja (aP As)) y7 (.iv (.bool false)) (.iv (.bool false)) y12 y13 (.iv (.bool false)) u_ (.iv (.bool false)) e.ks.length 0 Bs' Cs B1 C jb' jc S1 u_ u_ u_ (by omega) q5 q2 hC (by rw[List.drop_zero]; omega) (by rw[List.drop_zero]; simp; omega)
    rw[show ((0:Nat):Int)=0 from rfl]at l2
    rw[List.drop_zero]at hj hA2
    rw[aJ e]at l2
    refine⟨S',aB K _ (fn:=t103) rfl rfl ?_,mV hkS1 hnB (Nw.refl _ _ _) (n1:=e.vs.length) (by omega) hA2 (by omega)⟩
    rw[aJ]
    rcases hj with⟨rfl,hr,_⟩|⟨rfl,hr,h0⟩
    ·rw[←hr]
     simp (config := { maxSteps := 4000000 }) (disch:=omega) only[t103,go_sem,h4',ge_iff_le,hcel,rcB,fO,aC c136,e0]
     rw[l1]
     simp (config := { maxSteps := 4000000 }) (disch:=omega) only[go_sem,jO,c104,h1,h2,h3]
     rw[l2]
     simp (config := { maxSteps := 4000000 }) (disch:=omega) only[go_sem]
    ·rw[h0]; subst hr
     simp (config := { maxSteps := 4000000 }) (disch:=omega) only[t103,go_sem,h4',ge_iff_le,hcel,rcB,fO,aC c136,e0]
     rw[l1]
     simp (config := { maxSteps := 4000000 }) (disch:=omega) only[go_sem,jO,c104,h1,h2,h3]
     rw[l2]
     simp (config := { maxSteps := 4000000 }) (disch:=omega) only[go_sem]
def tw:List Int→Int→Nat
 | [],_=>0
 | a::r,n=>if a<n then tw r n+1 else 0
theorem aWo:∀(l:List Int) (n:Int),tw l n≤l.length
 | [],n=>Nat.le_refl _
 | a::r,n=>by
  have:=aWo r n
  unfold tw; split<;>simp<;>omega
theorem aPn:∀(l:List Int) (n:Int),∀v∈l.take (tw l n),v<n
 | [],n,v,h=>by simp at h
 | a::r,n,v,h=>by
  unfold tw at h
  split at h
  ·rw[List.take_succ_cons]at h
   rcases List.mem_cons.1 h with rfl|h
   ·assumption
   ·exact aPn r n v h
  ·simp at h
theorem aPo:∀(l:List Int) (n:Int),l.Pairwise (·<·)→n∉l→∀v∈l.drop (tw l n),n<v
 | [],n,_,_,v,h=>by simp at h
 | a::r,n,hp,hn,v,h=>by
  rw[List.pairwise_cons]at hp
  simp only[List.mem_cons,not_or]at hn
  unfold tw at h
  split at h
  ·rw[List.drop_succ_cons]at h
   exact aPo r n hp.2 hn.2 v h
  ·rw[List.drop_zero]at h
   rcases List.mem_cons.1 h with rfl|h
   ·omega
   ·have:=hp.1 v h; omega
def zZ (l:List Int)(n:Int):List Int:=if n∈l then l else l.take (tw l n)++n::l.drop (tw l n)
theorem aWp (l:List Int)(n v:Int):v∈zZ l n↔v∈l∨v=n:=by
 unfold zZ
 split
 ·rename_i h
  constructor
  ·exact .inl
  ·rintro (h1|rfl)
   ·exact h1
   ·exact h
 ·have:l.take (tw l n)++l.drop (tw l n)=l:=List.take_append_drop _ _
  rw[List.mem_append,List.mem_cons]
  rw[←this,List.mem_append]
  rw[List.take_append_drop]
  constructor
  ·rintro (h|h|h)
   ·exact .inl (.inl h)
   ·exact .inr h
   ·exact .inl (.inr h)
  ·rintro ((h|h)|h)
   ·exact .inl h
   ·exact .inr (.inr h)
   ·exact .inr (.inl h)
theorem aRl {l:List Int}(n:Int)(hp:l.Pairwise (·<·)):(zZ l n).Pairwise (·<·):=by
 unfold zZ
 split
 ·exact hp
 ·rename_i hn
  have h1:=aPn l n
  have h2:=aPo l n hp hn
  rw[List.pairwise_append,List.pairwise_cons]
  refine⟨List.Pairwise.sublist (List.take_sublist _ _) hp,⟨h2,List.Pairwise.sublist (List.drop_sublist _ _) hp⟩,fun a ha b hb=>?_⟩
  rcases List.mem_cons.1 hb with rfl|hb
  ·exact h1 a ha
  ·have:=h1 a ha; have:=h2 b hb; omega
theorem aWq (l:List Int)(n:Int):(zZ l n).length≤l.length+1:=by
 unfold zZ
 split
 ·omega
 ·have:=aWo l n
  simp; omega
theorem aPp (t:Tag)(l:List Int)(n:Int)(hl:l.length≤1000000000)(x2 x4 x5:TV)(S:aA):∀(k i:Nat) (x6:TV),i+k=l.length →
  ∃y6,lp' (lim K) t137L0 [.iv (.sl t (TM.one (.int .i64) l)),.iv (.int .i64 n),x2,.iv (.int .i64 (i:Int)),x4,x5,x6] S
   = .ret (.exit 0,[.iv (.sl t (TM.one (.int .i64) l)),.iv (.int .i64 n),x2,.iv (.int .i64 ((i+tw (l.drop i) n:Nat):Int)),x4,x5,y6],S)
 | 0,i,x6,h=>by
  obtain rfl:i=l.length:=by omega
  refine⟨.iv (.bool false),aH K _ _ t137L0.eq_1 ?_⟩
  rw[List.drop_length,tw,Nat.add_zero]
  simp (disch:=omega) only[go_sem]
 | k+1,i,x6,h=>by
  have hla:i<l.length:=by omega
  have hix:=gZ (f:=IV.int .i64) (t:=t) (l:=l) (i:=(i:Int)) (by omega)
  rw[Int.toNat_natCast]at hix
  have hdr:=bM hla
  by_cases hn:l.getD i default<n
  ·obtain⟨y6,ih⟩:=aPp t l n hl x2 x4 x5 S k (i+1) (.iv (.bool true)) (by omega)
   rw[show ((i+1:Nat):Int)=(i:Int)+1 by omega]at ih
   refine⟨y6,aH K _ _ t137L0.eq_1 ?_⟩
   rw[hdr,tw,if_pos hn,show i+(tw (l.drop (i+1)) n+1)=i+1+tw (l.drop (i+1)) n by omega]
   simp (disch:=omega) only[go_sem,hix,hn,aF]
   exact congrArg er ih
  ·refine⟨.iv (.bool false),aH K _ _ t137L0.eq_1 ?_⟩
   rw[hdr,tw,if_neg hn,Nat.add_zero]
   simp (disch:=omega) only[go_sem,hix,hn]
theorem aFb {l ys:List Int}{t:Tag}(h:l.length+ys.length≤8000000) :
  cI false 1 8 3 (jK 1 3 (aP l)) (acc 0 (aP l)) (.iv (.sl t (aP ys)))=some (acc 0 (aP (l++ys)),jK 1 3 (aP (l++ys))):=by
 have:=aN7 (w:=1) (b:=8) (el:=3) (l:=aP l) (ys:=aP ys) (x:=.iv (.sl t (aP ys))) (fun S=>oA.sl S t _) (jD ys) (jD l) (cM (by rw[eC,eC]; omega))
 rw[this,show aP l++aP ys=aP (l++ys) by simp[aP,TM.one]]
theorem bC7 (t:Tag)(l:List Int)(n:Int)(ht:dE t l)(hl:l.length≤2000000):∃t',dE t' (zZ l n)∧TM.Pure K 137 [.iv (.sl t (TM.one (.int .i64) l)),.iv (.int .i64 n)] (.iv (.sl t' (TM.one (.int .i64) (zZ l n)))):=by
 have c104:=tV t l n (by omega) []
 unfold zZ
 by_cases hn:n∈l
 ·rw[if_pos hn]
  rw[decide_eq_true hn]at c104
  refine⟨t,ht,TM.aR (S:=[]) (r:=.iv (.sl t (TM.one (.int .i64) l))) (aB K _ (fn:=t137) rfl rfl ?_) (by rw[aN])⟩
  simp (disch:=omega) only[t137,go_sem,c104]
 ·rw[if_neg hn]
  rw[decide_eq_false hn]at c104
  have hk:=aWo l n
  obtain⟨y6,l1⟩:=aPp t l n (by omega) (.iv (.sl .nil [])) u_ (.iv (.bool false)) [] l.length 0 u_ (by omega)
  rw[show ((0:Nat):Int)=0 from rfl,List.drop_zero,Nat.zero_add]at l1
  have s1:=fun S=>aG0 (f:=IV.int .i64) S (t:=t) (l:=l) (b:=(tw l n:Int)) ht (by omega)
  have s2:=fun S=>vL (f:=IV.int .i64) S (t:=t) (l:=l) (a:=(tw l n:Int)) ht (by omega)
  rw[Int.toNat_natCast]at s1 s2
  generalize hA:l.take (tw l n)=A at *
  generalize hB:l.drop (tw l n)=B at *
  have lA:A.length≤l.length:=by rw[←hA]; simp; omega
  have lB:B.length≤l.length:=by rw[←hB]; simp
  generalize lY t l.length (tw l n)=t1 at *
  have e1:=aFb (l:=[]) (ys:=A) (t:=t1) (by simp; omega)
  have e2:=aFb (l:=A) (ys:=[n]) (t:=.full) (by simp; omega)
  have e3:=aFb (l:=A++[n]) (ys:=B) (t:=t) (by simp; omega)
  rw[show jK 1 3 (aP [])=[] from rfl,show acc 0 (aP [])=.iv (.sl .nil []) from rfl,List.nil_append]at e1
  rw[show aP [n]=[[.int .i64 n]] from rfl]at e2
  rw[show A++[n]++B=A++n::B by simp]at e3
  refine⟨eP (aP (A++n::B)),fun h=>?_,TM.aR (S:=jK 1 3 (aP (A++n::B))) (r:=acc 0 (aP (A++n::B))) (aB K _ (fn:=t137) rfl rfl ?_) (yI _ _ _)⟩
  ·have:aP (A++n::B)≠[]:=by simp[eB]
   revert h
   cases hq:aP (A++n::B) with
   | nil=>exact absurd hq this
   | cons a r=>intro h; cases h
  ·simp (disch:=omega) only[t137,go_sem,c104]
   rw[l1]
   unfold aP at e1 e2 e3
   simp (disch:=omega) only[go_sem,s1,s2,e1,e2,e3]
   rfl
structure tA (l l' B:List Int) (t':Tag):Prop where
 tag:dE t' l'
 inc:l.Pairwise (·<·)→l'.Pairwise (·<·)
 mem:∀v,v∈l'↔v∈l∨v∈B
 len:l'.length≤l.length+B.length
theorem tA.trans {l l' l'' B B':List Int}{t' t'':Tag}(h:tA l l' B t')(g:tA l' l'' B' t''):tA l l'' (B++B') t'' :=
 ⟨g.tag,fun hp=>g.inc (h.inc hp),fun v=>by
  rw[g.mem v,h.mem v,List.mem_append]
  constructor
  ·rintro ((h|h)|h)
   ·exact .inl h
   ·exact .inr (.inl h)
   ·exact .inr (.inr h)
  ·rintro (h|h|h)
   ·exact .inl (.inl h)
   ·exact .inl (.inr h)
   ·exact .inr h,by have:=h.len; have:=g.len; simp; omega⟩
def bGm (N:Nat):Prop:=∀(e:Ex) (t:Tag) (l:List Int),e.w≤N→dE t l→l.length+(kJ kC e).length≤1048576 →
 ∃t' l',TM.Pure K 105 [.iv (.sl t (TM.one (.int .i64) l)),.iv (.agg (aW e))] (.iv (.sl t' (TM.one (.int .i64) l')))∧tA l l' (kJ kC e) t'
theorem aFc {N:Nat}(ih:bGm N)(e:Ex)(hw:e.w≤N+1)(hN:N+1≤1048576)(x1 x3 x5:TV)(S:aA):∀(k i:Nat) (t:Tag) (l:List Int) (x6:TV),i+k=e.ks.length→dE t l→l.length+(gB kC (e.ks.drop i)).length≤1048576 →
  ∃t' l' y6,lp' (lim K) t105L0 [.iv (.sl t (TM.one (.int .i64) l)),x1,lbE e,x3,.iv (.int .i64 (i:Int)),x5,x6] S
   = .ret (.exit 0,[.iv (.sl t' (TM.one (.int .i64) l')),x1,lbE e,x3,.iv (.int .i64 e.ks.length),x5,y6],S)∧tA l l' (gB kC (e.ks.drop i)) t'
 | 0,i,t,l,x6,h,ht,hl=>by
  obtain rfl:i=e.ks.length:=by omega
  refine⟨t,l,.iv (.bool false),aH K _ _ t105L0.eq_1 ?_,⟨ht,id,fun v=>by rw[List.drop_length,gB]; simp,by omega⟩⟩
  simp (disch:=omega) only[go_sem,aD]
 | k+1,i,t,l,x6,h,ht,hl=>by
  have hla:i<e.ks.length:=by omega
  have hwe:=Ex.w_eq e
  have hwl:=Ex.ws_len e.ks
  have hix:=ixE (g:=e.g) (ks:=e.ks) (i:=(i:Int)) (by omega)
  rw[Int.toNat_natCast]at hix
  have hdr:=bM hla
  have hkw:=Ex.kid_lt (d:=e) (bP hla)
  rw[hdr,gB,List.length_append]at hl
  generalize hx:e.ks.getD i default=x at *
  obtain⟨t1,l1,hc,hg⟩:=ih x t l (by omega) ht (by omega)
  have hgl:=hg.len
  rw[aJ]at hc
  obtain⟨t',l',y6,ih2,hg2⟩:=aFc ih e hw hN x1 x3 x5 S k (i+1) t1 l1 (.iv (.bool true)) (by omega) hg.tag (by omega)
  rw[show ((i+1:Nat):Int)=(i:Int)+1 by omega]at ih2
  refine⟨t',l',y6,aH K _ _ t105L0.eq_1 ?_,by rw[hdr,gB]; exact hg.trans hg2⟩
  simp (disch:=omega) only[go_sem,aD,hix,fG,aC hc,aF]
  exact congrArg er ih2
theorem aFd:∀N,N≤1048576→bGm N
 | 0,hN=>fun e t l hw ht hl=>by have:=Ex.w_eq e; omega
 | N+1,hN=>fun e t l hw ht hl=>by
  have hwe:=Ex.w_eq e
  have hwl:=Ex.ws_len e.ks
  rw[mE,List.length_append]at hl
  by_cases hk:e.k=4
  ·have ha:kC e=[e.n]:=by unfold kC; rw[if_pos hk]
   rw[ha]at hl
   simp only[List.length_singleton]at hl
   obtain⟨t1,ht1,c137⟩:=bC7 t l e.n ht (by omega)
   have hp:=aWq l e.n
   obtain⟨t',l',y6,l1,hg⟩:=aFc (aFd N (by omega)) e hw hN (.iv (.agg (aW e))) (.iv (.sl .nil [])) (.iv (.bool true)) [] e.ks.length 0 t1 (zZ l e.n) u_ (by omega) ht1 (by rw[List.drop_zero]; omega)
   rw[show ((0:Nat):Int)=0 from rfl]at l1
   rw[List.drop_zero]at hg
   have hg0:tA l (zZ l e.n) [e.n] t1:=⟨ht1,fun h=>aRl _ h,fun v=>by rw[aWp]; simp,by simpa using hp⟩
   refine⟨t',l',TM.aR (S:=[]) (r:=.iv (.sl t' (TM.one (.int .i64) l'))) (aB K _ (fn:=t105) rfl rfl ?_) (by rw[aN]),by rw[mE,ha]; exact hg0.trans hg⟩
   rw[aJ]at l1 ⊢
   unfold lbE at l1
   rw[hk]at l1
   simp (disch:=omega) only[t105,go_sem,hk,aC c137]
   rw[l1]
   simp (disch:=omega) only[go_sem]
  ·have ha:kC e=[]:=by unfold kC; rw[if_neg hk]
   obtain⟨t',l',y6,l1,hg⟩:=aFc (aFd N (by omega)) e hw hN (.iv (.agg (aW e))) (.iv (.sl .nil [])) (.iv (.bool false)) [] e.ks.length 0 t l u_ (by omega) ht (by rw[List.drop_zero]; omega)
   rw[show ((0:Nat):Int)=0 from rfl]at l1
   rw[List.drop_zero]at hg
   refine⟨t',l',TM.aR (S:=[]) (r:=.iv (.sl t' (TM.one (.int .i64) l'))) (aB K _ (fn:=t105) rfl rfl ?_) (by rw[aN]),by rw[mE,ha]; exact hg⟩
   rw[aJ]at l1 ⊢
   simp (disch:=omega) only[t105,go_sem,hk]
   rw[l1]
   simp (disch:=omega) only[go_sem]
theorem bHu (e:Ex)(hw:e.w≤1048576):∃t l,dE t l∧TM.Pure K 71 [.iv (.agg (aW e))] (.iv (.sl t (TM.one (.int .i64) l)))∧oP l (kJ kC e)∧l.length≤1048576:=by
 have hlen:=zN kC aHe _ e (Nat.le_refl _)
 obtain⟨t,l,hc,hg⟩:=aFd 1048576 (by omega) e .nil [] hw dE.nil (by simp; omega)
 rw[show TM.one (IV.int .i64) []=[] from rfl]at hc
 refine⟨t,l,hg.tag,TM.aR (S:=[]) (r:=.iv (.sl t (TM.one (.int .i64) l))) (aB K _ (fn:=t71) rfl rfl ?_) (by rw[aN]),⟨hg.inc List.Pairwise.nil,fun v=>by rw[hg.mem v]; simp⟩,by have:=hg.len; simp at this; omega⟩
 rw[aJ]at hc ⊢
 simp (disch:=omega) only[t71,go_sem,aC hc]
mutual
def mW (set:List Int):Ex→List Int
 | .mk k n gv vs r g ks=>vs.filter (fun v=>decide (v∈set))++gD set ks
def gD (set:List Int):List Ex→List Int
 | []=>[]
 | e::es=>mW set e++gD set es
end
theorem uE (set:List Int)(e:Ex):mW set e=e.vs.filter (fun v=>decide (v∈set))++gD set e.ks:=by cases e; rw[mW]; rfl
theorem aAa (set:List Int):∀(N:Nat) (e:Ex),e.w≤N→(mW set e).length≤e.w
 | 0,e,hw=>by have:=Ex.w_eq e; omega
 | N+1,e,hw=>by
  have hwe:=Ex.w_eq e
  have key:∀l:List Ex,(∀x∈l,x.w≤N)→(gD set l).length≤Ex.ws l:=by
   intro l
   induction l with
   | nil=>intro _; rw[gD]; simp
   | cons a r ih =>
    intro hl
    have:=aAa set N a (hl a (by simp))
    have:=ih (fun x hx=>hl x (by simp[hx]))
    rw[gD,Ex.ws,List.length_append]; omega
  have:=key e.ks (fun x hx=>by have:=Ex.kid_lt hx; omega)
  have:=List.length_filter_le (fun v=>decide (v∈set)) e.vs
  rw[uE,List.length_append]; omega
theorem aFe (ts:Tag)(set:List Int)(hset:set.length≤1048576)(e:Ex)(hw:e.w≤1048576)(x2 x4 x6 x9:TV):∀(k i:Nat) (l:List Int) (j:Nat) (x7 x8:TV) (S:aA),i+k=e.vs.length→At 1 3 (aP l) j S→l.length≤4194304+i →
  ∃j' y7 y8 S',lp' (lim K) t70L1 [acc j (aP l),.iv (.sl ts (TM.one (.int .i64) set)),x2,lbE e,x4,.iv (.int .i64 (i:Int)),x6,x7,x8,x9] S
   = .ret (.exit 0,[acc j' (aP (l++(e.vs.drop i).filter (fun v=>decide (v∈set)))),.iv (.sl ts (TM.one (.int .i64) set)),x2,lbE e,x4,.iv (.int .i64 e.vs.length),x6,y7,y8,x9],S') ∧
   At 1 3 (aP (l++(e.vs.drop i).filter (fun v=>decide (v∈set)))) j' S'∧bW (dF (aP l) j) S S'∧(l≠[]→j'=j)∧(l=[]→S.length≤j'∨(e.vs.drop i).filter (fun v=>decide (v∈set))=[])
 | 0,i,l,j,x7,x8,S,h,hj,hl=>by
  obtain rfl:i=e.vs.length:=by omega
  refine⟨j,.iv (.bool false),x8,S,aH K _ _ t70L1.eq_1 ?_,?_,.refl _ _,fun _=>rfl,fun _=>.inr (by rw[List.drop_length]; rfl)⟩
  ·rw[List.drop_length,List.filter_nil,List.append_nil]
   simp (disch:=omega) only[go_sem]
  ·rw[List.drop_length,List.filter_nil,List.append_nil]; exact hj
 | k+1,i,l,j,x7,x8,S,h,hj,hl=>by
  have hwe:=Ex.w_eq e
  have hla:i<e.vs.length:=by omega
  have hix:=gZ (f:=IV.int .i64) (t:=e.gv) (l:=e.vs) (i:=(i:Int)) (by omega)
  rw[Int.toNat_natCast]at hix
  have hdr:=bM hla
  generalize hx:e.vs.getD i default=x at *
  have hc:=tV ts set x (by omega) []
  by_cases hm:x∈set
  ·rw[decide_eq_true hm]at hc
   have e1:=yJ (b:=8) (c:=[.int .i64 x]) (t:=.full) hj ⟨rfl,rfl⟩ (jD l) (cM (by rw[eC]; omega))
   have hk2:=kW 1 3 (aP l) j S
   have gt:=pH hj [.int .i64 x]
   rw[hU]at e1 gt
   obtain⟨j',y7,y8,S',ih,r1,r2,r3,r4⟩:=aFe ts set hset e hw x2 x4 x6 x9 k (i+1) (l++[x]) _ (.iv (.bool true)) (.iv (.bool true)) _ (by omega) gt (by simp; omega)
   rw[show ((i+1:Nat):Int)=(i:Int)+1 by omega]at ih
   have hj':=r3 (by simp)
   rw[hdr,List.filter_cons,if_pos (by simp[hm])]
   rw[List.append_assoc,List.singleton_append]at ih r1
   refine⟨j',y7,y8,S',aH K _ _ t70L1.eq_1 ?_,r1,?_,fun hl=>?_,fun hl=>.inl ?_⟩
   ·simp (disch:=omega) only[go_sem,hix,hc,e1,aF]
    exact congrArg er ih
   ·refine dQ hk2 r2 fun q hq=>?_
    unfold dF at hq
    split at hq
    ·cases hq
    ·simp at hq
     subst hq
     unfold gI
     split
     ·exact .inr (Nat.le_refl _)
     ·rename_i h0
      left; unfold dF; rw[if_neg h0]; simp
   ·rw[hj']; unfold gI; rw[if_neg (by simpa[eB] using hl)]
   ·rw[hj']; unfold gI; rw[if_pos (by simpa[eB] using hl)]; exact Nat.le_refl _
  ·rw[decide_eq_false hm]at hc
   obtain⟨j',y7,y8,S',ih,r1,r2,r3,r4⟩:=aFe ts set hset e hw x2 x4 x6 x9 k (i+1) l j (.iv (.bool true)) (.iv (.bool false)) S (by omega) hj (by omega)
   rw[show ((i+1:Nat):Int)=(i:Int)+1 by omega]at ih
   rw[hdr,List.filter_cons,if_neg (by simp[hm])]
   refine⟨j',y7,y8,S',aH K _ _ t70L1.eq_1 ?_,r1,r2,r3,r4⟩
   simp (disch:=omega) only[go_sem,hix,hc,aF]
   exact congrArg er ih
structure tB (l m:List Int) (j j':Nat) (S S':aA):Prop where
 at':At 1 3 (aP (l++m)) j' S'
 keep:bW (dF (aP l) j) S S'
 same:l≠[]→j'=j
 new:l=[]→S.length≤j'∨m=[]
theorem tB.trans {l m n:List Int}{j j' j'':Nat}{S S' S'':aA}(h:tB l m j j' S S')(g:tB (l++m) n j' j'' S' S''):tB l (m++n) j j'' S S'':=by
 refine⟨by rw[←List.append_assoc]; exact g.at',dQ h.keep g.keep fun q hq=>?_,fun hl=>?_,fun hl=>?_⟩
 ·unfold dF at hq
  split at hq
  ·cases hq
  ·rename_i h0
   simp at hq
   subst hq
   by_cases hl:l=[]
   ·rcases h.new hl with h1|h1
    ·exact .inr h1
    ·exact absurd (by rw[hl,h1]; rfl) h0
   ·left
    rw[h.same hl]
    unfold dF
    rw[if_neg (by simpa[eB] using hl)]
    simp
 ·rw[g.same (by simp[hl]),h.same hl]
 ·by_cases hm:m=[]
  ·have:=g.new (by rw[hl,hm]; rfl)
   rcases this with h1|h1
   ·exact .inl (Nat.le_trans h.keep.len h1)
   ·exact .inr (by rw[hm,h1]; rfl)
  ·rw[g.same (by simp[hm])]
   rcases h.new hl with h1|h1
   ·exact .inl h1
   ·exact absurd h1 hm
def bGn (ts:Tag)(set:List Int)(N:Nat):Prop:=∀(e:Ex) (l:List Int) (j:Nat) (S:aA),e.w≤N→At 1 3 (aP l) j S→l.length+e.w≤4194304 →
 ∃j' S',(lim K).call 70 [acc j (aP l),.iv (.sl ts (TM.one (.int .i64) set)),.iv (.agg (aW e))] S=.ret (acc j' (aP (l++mW set e)),S')∧tB l (mW set e) j j' S S'
theorem aPq {ts:Tag}{set:List Int}{N:Nat}(ihN:bGn ts set N)(e:Ex)(hw:e.w≤N+1)(hN:N+1≤1048576)(x2 x4 x5 x7 x8:TV):∀(k i:Nat) (l:List Int) (j:Nat) (x9:TV) (S:aA),i+k=e.ks.length→At 1 3 (aP l) j S→l.length+Ex.ws (e.ks.drop i)≤4194304 →
  ∃j' y9 S',lp' (lim K) t70L0 [acc j (aP l),.iv (.sl ts (TM.one (.int .i64) set)),x2,lbE e,x4,x5,.iv (.int .i64 (i:Int)),x7,x8,x9] S
   = .ret (.exit 2,[acc j' (aP (l++gD set (e.ks.drop i))),.iv (.sl ts (TM.one (.int .i64) set)),x2,lbE e,x4,x5,.iv (.int .i64 e.ks.length),x7,x8,y9],S')∧tB l (gD set (e.ks.drop i)) j j' S S'
 | 0,i,l,j,x9,S,h,hj,hl=>by
  obtain rfl:i=e.ks.length:=by omega
  refine⟨j,.iv (.bool false),S,aH K _ _ t70L0.eq_1 ?_,?_⟩
  ·rw[List.drop_length,gD,List.append_nil]
   simp (disch:=omega) only[go_sem,aD]
  ·rw[List.drop_length,gD]
   exact⟨by rw[List.append_nil]; exact hj,.refl _ _,fun _=>rfl,fun _=>.inr rfl⟩
 | k+1,i,l,j,x9,S,h,hj,hl=>by
  have hla:i<e.ks.length:=by omega
  have hwe:=Ex.w_eq e
  have hwl:=Ex.ws_len e.ks
  have hix:=ixE (g:=e.g) (ks:=e.ks) (i:=(i:Int)) (by omega)
  rw[Int.toNat_natCast]at hix
  have hdr:=bM hla
  have hkw:=Ex.kid_lt (d:=e) (bP hla)
  rw[hdr,Ex.ws]at hl
  generalize hx:e.ks.getD i default=x at *
  obtain⟨j1,S1,hc,hg⟩:=ihN x l j S (by omega) hj (by omega)
  have hol:=aAa set _ x (Nat.le_refl _)
  rw[aJ]at hc
  obtain⟨j',y9,S',ih2,hg2⟩:=aPq ihN e hw hN x2 x4 x5 x7 x8 k (i+1) (l++mW set x) j1 (.iv (.bool true)) S1 (by omega) hg.at' (by rw[List.length_append]; omega)
  rw[show ((i+1:Nat):Int)=(i:Int)+1 by omega,List.append_assoc]at ih2
  refine⟨j',y9,S',aH K _ _ t70L0.eq_1 ?_,by rw[hdr,gD]; exact hg.trans hg2⟩
  rw[hdr,gD]
  simp (disch:=omega) only[go_sem,aD,hix,fG,hc,aF]
  exact congrArg er ih2
theorem aWr (ts:Tag)(set:List Int)(hset:set.length≤1048576):∀N,N≤1048576→bGn ts set N
 | 0,hN=>fun e l j S hw hj hl=>by have:=Ex.w_eq e; omega
 | N+1,hN=>fun e l j S hw hj hl=>by
  have hwe:=Ex.w_eq e
  have hwl:=Ex.ws_len e.ks
  have hfl:=List.length_filter_le (fun v=>decide (v∈set)) e.vs
  obtain⟨j1,y7,y8,S1,l1,a1,k1,s1,n1⟩:=aFe ts set hset e (by omega) (.iv (.agg (aW e))) (.iv (.sl .nil [])) u_ u_ e.vs.length 0 l j u_ u_ S (by omega) hj (by omega)
  rw[show ((0:Nat):Int)=0 from rfl]at l1
  rw[List.drop_zero]at l1 a1 n1
  have g1:tB l (e.vs.filter fun v=>decide (v∈set)) j j1 S S1:=⟨a1,k1,s1,n1⟩
  obtain⟨j',y9,S',l2,g2⟩:=aPq (aWr ts set hset N (by omega)) e hw hN (.iv (.agg (aW e))) (.iv (.sl .nil [])) (.iv (.int .i64 e.vs.length)) y7 y8 e.ks.length 0 _ j1 u_ S1 (by omega) a1 (by rw[List.drop_zero,List.length_append]; omega)
  rw[show ((0:Nat):Int)=0 from rfl,List.append_assoc]at l2
  rw[List.drop_zero]at l2 g2
  rw[uE]
  refine⟨j',S',aB K _ (fn:=t70) rfl rfl ?_,g1.trans g2⟩
  rw[aJ]at l1 l2 ⊢
  simp (disch:=omega) only[t70,go_sem]
  rw[l1]
  simp (disch:=omega) only[go_sem]
  rw[l2]
  simp (disch:=omega) only[go_sem]
def outs (vs l:List Int):Nat:=(l.filter fun v=>decide (v∉vs)).length
structure bMo (vs own body:List Int):Prop where
 mem:∀v∈body,(v∈own↔v∉vs)
 len:own.length=outs vs body
theorem aHs (p:Pg):∀(es:List Ex) (depth:Nat) (B C A:List Int),(gF p es depth B C A).1=0→∀x∈es,∃B' C',(chk p x depth B' C' A).1=0
 | [],depth,B,C,A,h,x,hx=>by cases hx
 | e::es,depth,B,C,A,h,x,hx=>by
  have hun:gF p (e::es) depth B C A=if (chk p e depth B C A).1=0 then gF p es depth (chk p e depth B C A).2.1 (chk p e depth B C A).2.2 A else chk p e depth B C A:=by rw[gF]
  rw[hun]at h
  by_cases h0:(chk p e depth B C A).1=0
  ·rw[if_pos h0]at h
   rcases List.mem_cons.1 hx with rfl|hx
   ·exact⟨B,C,h0⟩
   ·exact aHs p es depth _ _ A h x hx
  ·rw[if_neg h0]at h; exact absurd h h0
theorem aWs {p:Pg}{e:Ex}{depth:Nat}{B C A:List Int}(h:(chk p e depth B C A).1=0):eM p e=true∧(∃B1,oD e.vs B=some B1)∧((e.k=2∨e.k=4)→e.n∈e.vs++A)∧∀x∈e.ks,∃B' C',(chk p x (depth+1) B' C' (e.vs++A)).1=0:=by
 rw[aE3]at h
 split at h
 ·exact absurd h (by decide:¬((5:Int)=0))
 split at h
 ·exact absurd h (by decide:¬((4:Int)=0))
 rename_i hf
 split at h
 ·exact absurd h (by decide:¬((14:Int)=0))
 rename_i B1 ha
 split at h
 ·exact absurd h (by decide:¬((14:Int)=0))
 split at h
 ·exact absurd h (by decide:¬((6:Int)=0))
 rename_i hn
 refine⟨by simpa using hf,⟨B1,ha⟩,fun hk=>?_,aHs p e.ks _ _ _ _ h⟩
 rcases Classical.em (e.n∈e.vs++A) with h1|h1
 ·exact h1
 ·exact absurd ⟨hk,h1⟩ hn
theorem pV {p:Pg}{e:Ex}(h:eM p e=true)(hk:e.k≠7):e.vs=[]:=by
 have h0:¬0<e.vs.length:=fun h2=>by
  have h3:nR e=true:=by
   unfold nR
   simp[hk,h2]
  rw[eM,h3]at h
  simp at h
 exact List.eq_nil_of_length_eq_zero (by omega)
theorem aPr {v:Int}:∀ {ks:List Ex},v∈frs ks↔∃x∈ks,v∈fr x
 | []=>by simp[frs]
 | a::r=>by rw[frs,List.mem_append,aPr]; simp
theorem vW {f:Ex→List Int}{v:Int}:∀ {ks:List Ex},v∈gB f ks↔∃x∈ks,v∈kJ f x
 | []=>by simp[gB]
 | a::r=>by rw[gB,List.mem_append,vW]; simp
theorem aWt (p:Pg):∀(N:Nat) (e:Ex),e.w≤N→∀(depth:Nat) (B C A:List Int),(chk p e depth B C A).1=0→(∀v∈fr e,v∈A)∧(∀v∈kJ kC e,v∈kJ aKo e∨v∈A)
 | 0,e,hw,depth,B,C,A,h=>by have:=Ex.w_eq e; omega
 | N+1,e,hw,depth,B,C,A,h=>by
  obtain⟨hf,_,hn,hks⟩:=aWs h
  have hin:(e.k=2∨e.k=4)→e.n∈A:=fun hk=>by
   have hv:=pV hf (by omega)
   have:=hn hk
   rw[hv]at this
   simpa using this
  have ih:∀x∈e.ks,(∀v∈fr x,v∈e.vs++A)∧(∀v∈kJ kC x,v∈kJ aKo x∨v∈e.vs++A):=by
   intro x hx
   obtain⟨B',C',hx0⟩:=hks x hx
   exact aWt p N x (by have:=Ex.kid_lt hx; omega) _ _ _ _ hx0
  refine⟨fun v hv=>?_,fun v hv=>?_⟩
  ·rw[bJ7,List.mem_append]at hv
   rcases hv with hv|hv
   ·split at hv
    ·rename_i hk
     simp only[List.mem_singleton]at hv
     rw[hv]; exact hin hk
    ·cases hv
   ·rw[List.mem_filter,aPr]at hv
    obtain⟨⟨x,hx,hvx⟩,hc⟩:=hv
    have:=(ih x hx).1 v hvx
    rcases List.mem_append.1 this with h1|h1
    ·by_cases hk:e.k=7
     ·simp[hk,h1]at hc
     ·rw[pV hf hk]at h1; cases h1
    ·exact h1
  ·rw[mE,List.mem_append]at hv
   rw[mE,List.mem_append]
   rcases hv with hv|hv
   ·unfold kC at hv
    split at hv
    ·rename_i hk
     simp only[List.mem_singleton]at hv
     rw[hv]; exact .inr (hin (.inr hk))
    ·cases hv
   ·rw[vW]at hv
    obtain⟨x,hx,hvx⟩:=hv
    rcases (ih x hx).2 v hvx with h1|h1
    ·exact .inl (.inr (vW.2 ⟨x,hx,h1⟩))
    ·rcases List.mem_append.1 h1 with h1|h1
     ·by_cases hk:e.k=7
      ·refine .inl (.inl ?_)
       unfold aKo
       rw[if_pos hk]; exact h1
      ·rw[pV hf hk]at h1; cases h1
     ·exact .inr h1
theorem aRm {p:Pg}(h:lH p=0):fr p.b=[]∧∀v∈kJ kC p.b,v∈kJ aKo p.b:=by
 unfold lH at h
 split at h
 ·exact absurd h (by decide:¬((2:Int)=0))
 split at h
 ·exact absurd h (by decide:¬((2:Int)=0))
 obtain⟨h1,h2⟩:=aWt p _ p.b (Nat.le_refl _) _ _ _ _ h
 refine⟨?_,fun v hv=>?_⟩
 ·cases hq:fr p.b with
  | nil=>rfl
  | cons a r=>exact absurd (h1 a (by rw[hq]; simp)) (by simp)
 ·rcases h2 v hv with h3|h3
  ·exact h3
  ·cases h3
def aCi (l:List Int)(σ:Cv):Cv:=⟨fun v=>if v∈l then some 0 else σ.f v,σ.nx⟩
theorem aRn (d:Dt):(gP d).length=5∧(gP d).all iR=true:=by rw[cH]; exact⟨rfl,rfl⟩
theorem pW (l:List Dt):fD 5 (bQ l):=by rw[kG]; exact fD.map aRn l
theorem aWu (t:Tag)(l:List Int)(hl:l.length≤1048576)(ic im:Nat)(x0 x1 x2 x3 x4 x7 x8 x9:TV):∀(k i:Nat) (x6 x13:TV) (S:aA) (σ:Cv),i+k=l.length→CM S ic im σ →
  ∃y6 y13 S',lp' (lim K) t24L0 [x0,x1,x2,x3,x4,.ptr ic 80 0,x6,x7,x8,x9,.iv (.sl t (TM.one (.int .i64) l)),.iv (.int .i64 l.length),.iv (.int .i64 (i:Int)),x13] S
   = .ret (.exit 0,[x0,x1,x2,x3,x4,.ptr ic 80 0,y6,x7,x8,x9,.iv (.sl t (TM.one (.int .i64) l)),.iv (.int .i64 l.length),.iv (.int .i64 l.length),y13],S')∧CM S' ic im (aCi (l.drop i) σ)
 | 0,i,x6,x13,S,σ,h,hc=>by
  obtain rfl:i=l.length:=by omega
  refine⟨x6,.iv (.bool false),S,aH K _ _ t24L0.eq_1 ?_,?_⟩
  ·simp (disch:=omega) only[go_sem]
  ·rw[List.drop_length]
   obtain⟨m,c,h1,h2⟩:=hc.map
   exact⟨hc.at',m,c,h1,fun v=>by rw[h2 v]; simp[aCi]⟩
 | k+1,i,x6,x13,S,σ,h,hc=>by
  have hla:i<l.length:=by omega
  have hix:=gZ (f:=IV.int .i64) (t:=t) (l:=l) (i:=(i:Int)) (by omega)
  rw[Int.toNat_natCast]at hix
  have hdr:=bM hla
  generalize hx:l.getD i default=x at *
  obtain⟨m,c,h1,h2⟩:=hc.map
  have hat:=hc.at'
  have hne:=hc.ne
  have hc1:CM (S.set im (.mp (mpR jB (gA m c x 0)) (rC m c x))) ic im (aCi [x] σ):=by
   refine⟨by rw[bU (Ne.symm hne)]; exact hat,_,_,fM (dM h1) _,fun v=>?_⟩
   rw[rE,h2 v]
   unfold aCi
   by_cases hv:x=v
   ·subst hv; simp
   ·simp[hv,Ne.symm hv]
  obtain⟨y6,y13,S',ih,hc'⟩:=aWu t l hl ic im x0 x1 x2 x3 x4 x7 x8 x9 k (i+1) (.iv (.int .i64 x)) (.iv (.bool true)) _ _ (by omega) hc1
  rw[show ((i+1:Nat):Int)=(i:Int)+1 by omega]at ih
  refine⟨y6,y13,S',aH K _ _ t24L0.eq_1 ?_,?_⟩
  ·simp (disch:=omega) only[go_sem,hix,hat,h1,aF]
   exact congrArg er ih
  ·rw[hdr]
   have:aCi (x::l.drop (i+1)) σ=aCi (l.drop (i+1)) (aCi [x] σ):=by
    unfold aCi
    simp only[Cv.mk.injEq,and_true]
    funext v
    by_cases h1:v∈l.drop (i+1)
    ·simp[h1]
    ·simp[h1]
   rw[this]; exact hc'
theorem bHv (es:List (List IV)):eqB .sl (.iv (.sl .nil es)) (.iv (.sl .nil []))=some true:=id rfl
theorem aFf (es:List (List IV)):eqB .sl (.iv (.sl .full es)) (.iv (.sl .nil []))=some false:=id rfl
theorem aFg (es:List (List IV)):eqB .sl (.iv (.sl .no es)) (.iv (.sl .nil []))=some false:=id rfl
def clT (t:Tag)(cs:List Dt):Tag:=if t=.nil then .nil else if cs=[] then .full else .no
theorem bHw (t:Tag)(cs:List Dt)(ht:dE t cs)(hl:cs.length≤1048576)(S:aA):∃x S',(lim K).call 67 [.iv (.sl t (bQ cs))] S=.ret (x,S')∧bW [] S S' ∧
  (x=.iv (.sl (clT t cs) (bQ cs))∨clT t cs=.no∧x=.msl S.length 0 0 cs.length cs.length 5∧S'=S++[.cells 0 true ((bV (bQ cs)).map .iv)]):=by
 by_cases h0:t=.nil
 ·subst h0
  obtain rfl:=ht rfl
  refine⟨.iv (.sl .nil []),S,aB K _ (fn:=t67) rfl rfl ?_,.refl _ _,.inl (by rw[bQ]; rfl)⟩
  rw[bQ]
  simp (disch:=omega) only[t67,go_sem,bHv]
 ·have hq:(t==Tag.nil)=false:=by simpa using h0
  by_cases h1:cs=[]
  ·subst h1
   refine⟨.iv (.sl .full []),S,aB K _ (fn:=t67) rfl rfl ?_,.refl _ _,.inl (by rw[bQ,clT,if_neg h0,if_pos rfl])⟩
   rw[bQ]
   have e1:cI true 5 64 39 S (.iv (.sl .full [])) (.iv (.sl t []))=some (.iv (.sl .full []),S):=aB6 rfl (oA.sl ..)
   cases t with
   | nil=>exact absurd rfl h0
   | full=>simp (disch:=omega) only[t67,go_sem,aFf,aFg,e1]
   | no=>simp (disch:=omega) only[t67,go_sem,aFf,aFg,e1]
  ·have e1:cI true 5 64 39 S (.iv (.sl .full [])) (.iv (.sl t (bQ cs)))=some (.msl S.length 0 0 cs.length cs.length 5,S++[.cells 0 true ((bV (bQ cs)).map .iv)]):=by
    have hf:=rA (w:=5) (fun y hy=>(pW cs y hy).1)
    have ha:=zK (vN (fun y hy=>(pW cs y hy).2))
    have hn:¬(bQ cs).length=0:=by rw[aI]; exact fun h=>h1 (List.eq_nil_of_length_eq_zero h)
    have hr:gR (0+(bQ cs).length) 64=true:=cM (by rw[aI]; omega)
    simp only[cI,mH,lenOf,List.length_map,hf,ne_eq,not_true_eq_false,ha,Bool.false_eq_true,or_self,↓reduceIte,hn,List.length_nil,hr]
    simp[TM.lG,TM.bV,aI]
   refine⟨.msl S.length 0 0 cs.length cs.length 5,S++[.cells 0 true ((bV (bQ cs)).map .iv)],aB K _ (fn:=t67) rfl rfl ?_,bW.app _ _ _,.inr ⟨by rw[clT,if_neg h0,if_neg h1],rfl,rfl⟩⟩
   cases t with
   | nil=>exact absurd rfl h0
   | full=>simp (disch:=omega) only[t67,go_sem,aFf,aFg,e1]
   | no=>simp (disch:=omega) only[t67,go_sem,aFf,aFg,e1]
theorem xB (S:aA)(cs:List Dt):fE (S++[.cells 0 true ((bV (bQ cs)).map .iv)]) (.msl S.length 0 0 cs.length cs.length 5)=some (bQ cs):=by
 have hf:=rA (w:=5) (fun y hy=>(pW cs y hy).1)
 rw[aI]at hf
 have hg:(S++[aY.cells 0 true ((bV (bQ cs)).map .iv)])[S.length]? = some (.cells 0 true ((bV (bQ cs)).map .iv)):=dG ..
 have hs:sub ((bV (bQ cs)).map TV.iv) 0 (cs.length*5)=some ((bV (bQ cs)).map .iv):=bGd (by rw[List.length_map,hf])
 simp only[fE,hg,ne_eq,not_true_eq_false,↓reduceIte,hs,rY,Option.map_some]
 have:=nP (w:=5) (fun y hy=>(pW cs y hy).1)
 rw[aI]at this
 rw[this]
def mB:Pg:=⟨.mk 0 0 .nil [] false .nil [],0,0,.nil,[]⟩
def cvA (set:List Int)(p:Pg):Pg:=let b:=cvE ⟨fun v=>if v∈set then some 0 else none,p.vr⟩ p.b; ⟨b.1,p.gl,b.2.nx,clT p.gc p.cs,p.cs⟩
theorem vX {p:Pg}{e:Ex}(h:eM p e=true)(hk:e.k=7∨e.k=4):e.ks.length=1:=by
 unfold eM nR ofF at h
 rcases hk with hk|hk
 ·simp[hk]at h; omega
 ·simp[hk]at h; omega
theorem aK5 (p:Pg):∀(N:Nat) (e:Ex),e.w≤N→∀(depth:Nat) (B C A:List Int),(chk p e depth B C A).1=0→Fm e
 | 0,e,hw,depth,B,C,A,h=>by have:=Ex.w_eq e; omega
 | N+1,e,hw,depth,B,C,A,h=>by
  obtain⟨hf,_,hn,hks⟩:=aWs h
  rw[tW]
  refine⟨fun hk=>vX hf hk,fun x hx=>?_⟩
  obtain⟨B',C',hx0⟩:=hks x hx
  exact aK5 p N x (by have:=Ex.kid_lt hx; omega) _ _ _ _ hx0
theorem rM {p:Pg}(h:lH p=0):(0≤p.gl∧p.gl≤20000∧0≤p.vr)∧(p.cs.all fun d=>fN d&&plF d)=true∧(chk p p.b 0 [] [] []).1=0:=by
 unfold lH at h
 split at h
 ·exact absurd h (by decide:¬((2:Int)=0))
 rename_i h1
 split at h
 ·exact absurd h (by decide:¬((2:Int)=0))
 rename_i h2
 exact⟨by omega,by simpa using h2,h⟩
theorem bHx (p:Pg)(hp:p.w≤1048576)(hok:p.ok)(hv:p.vr≤1099511627776):∃q e,TM.Pure K 24 [.iv (.agg (cA p))] (.tup [.iv (.agg (cA q)),.iv (.int .i64 e)]) ∧
  (lH p≠0∧q=mB∧e=lH p∨lH p=0∧bxF p.b=true∧q=mB∧e=2∨lH p=0∧bxF p.b=false∧e=0∧∃set,oP set (kJ kC p.b)∧q=cvA set p):=by
 have hpw:p.b.w+Dt.ws p.cs≤1048576:=hp
 have hwl:=Dt.ws_len p.cs
 have hchk:=bHm p ⟨by omega,by omega⟩
 have hbx:=aVq 1048576 (by omega) p.b [] (by omega)
 by_cases h0:lH p=0
 ·rw[h0]at hchk
  have hbxp:TM.Pure K 65 [.iv (.agg (aW p.b))] (.iv (.bool (bxF p.b))):=aR hbx (by rw[aN])
  cases hb:bxF p.b with
  | true =>
   rw[hb]at hbxp
   refine⟨mB,2,aR (S:=[]) (r:=.tup [.iv (.agg (cA mB)),.iv (.int .i64 2)]) (aB K _ (fn:=t24) rfl rfl ?_) (by rfl),.inr (.inl ⟨h0,rfl,rfl,rfl⟩)⟩
   rw[aJ]at hbxp
   unfold cA at hchk ⊢
   simp (disch:=omega) only[t24,go_sem,aC hchk,aC hbxp]
   rfl
  | false =>
   rw[hb]at hbxp
   obtain⟨set,c14,r14,b14⟩:=bG5 p.b hok.1 (by omega)
   obtain⟨⟨_,_,hvr⟩,_,hc0⟩:=rM h0
   have hfm:=aK5 p _ p.b (Nat.le_refl _) _ _ _ _ hc0
   have hcm0:CM [.mp (mpR jB []) 0,.cells 80 false [.map 0,.iv (.int .i64 p.vr)]] 1 0 ⟨fun _=>none,p.vr⟩:=⟨rfl,[],0,rfl,fun v=>rfl⟩
   obtain⟨y6,y13,S1,l1,hc1⟩:=aWu (eP set) set (by omega) 1 0 (.iv (.agg (cA p))) (lbP p) (.lb [.iv (.int .i64 0),.iv (.int .i64 0),.iv (.sl .nil []),.iv (.bool false),.iv (.sl .nil []),.iv (.int .i64 0),.iv (.int .i64 0),.iv (.sl .nil [])]) (.iv (.int .i64 0)) (.iv (.int .i64 0)) u_ (.iv (.bool false)) (.iv (.bool false)) set.length 0 u_ u_ _ _ (by omega) hcm0
   rw[show ((0:Nat):Int)=0 from rfl]at l1
   rw[List.drop_zero]at hc1
   obtain⟨r,S2,c66,hxv,hc2,hk2⟩:=aE0 1048576 (by omega) p.b S1 1 0 _ (by omega) hfm hc1 (by simp only[aCi]; omega)
   have hs:aCi set ⟨fun _=>none,p.vr⟩=⟨fun v=>if v∈set then some 0 else none,p.vr⟩:=rfl
   rw[hs]at hxv hc2
   obtain⟨x,S3,c67,hk3,hx⟩:=bHw p.gc p.cs hok.2.2.2.1 (by omega) S2
   have hat:=hc2.at'
   generalize hb1:cvE ⟨fun v=>if v∈set then some 0 else none,p.vr⟩ p.b=b1 at *
   obtain⟨b,σ1⟩:=b1
   simp only at hxv hat
   have hq:cvA set p=⟨b,p.gl,σ1.nx,clT p.gc p.cs,p.cs⟩:=by unfold cvA; rw[hb1]
   refine⟨cvA set p,0,?_,.inr (.inr ⟨h0,rfl,rfl,set,r14,rfl⟩)⟩
   rw[hq]
   rw[aJ]at hbxp c14 c66
   unfold cA at hchk l1
   rw[aG8]at l1
   have hat3:=hk3.get _ _ (by simp) hat
   rcases hxv with rfl|⟨i1,hg,rfl⟩
   ·rcases hx with rfl|⟨hct,rfl,rfl⟩
    ·refine aR (S:=S3) (r:=.tup [.iv (.agg (cA ⟨b,p.gl,σ1.nx,clT p.gc p.cs,p.cs⟩)),.iv (.int .i64 0)]) (aB K _ (fn:=t24) rfl rfl ?_) (by rfl)
     unfold cA
     rw[aJ b]at c66
     simp (disch:=omega) only[t24,go_sem,aC hchk,aC hbxp,aC c14]
     rw[l1]
     simp (disch:=omega) only[go_sem,c66,hat,c67,hat3]
    ·have hel:=xB S2 p.cs
     refine aR (S:=S2++[.cells 0 true ((bV (bQ p.cs)).map .iv)]) (r:=.tup [.agg [.iv (.int .i64 b.k),.iv (.int .i64 b.n),.iv (.sl b.gv (TM.one (.int .i64) b.vs)),.iv (.bool b.r),.iv (.sl b.g (aQ b.ks)),.iv (.int .i64 p.gl),.iv (.int .i64 σ1.nx),.msl S2.length 0 0 p.cs.length p.cs.length 5],.iv (.int .i64 0)]) (aB K _ (fn:=t24) rfl rfl ?_) ?_
     ·unfold cA
      rw[aJ b]at c66
      simp (disch:=omega) only[t24,go_sem,aC hchk,aC hbxp,aC c14]
      rw[l1]
      simp (disch:=omega) only[go_sem,c66,hat,c67,hat3]
     ·unfold cA
      simp only[TM.resolve,TM.qA,TM.aCj,TM.aLh,TM.aRt,hel,hct,Option.map_some]
   ·rcases hx with rfl|⟨hct,rfl,rfl⟩
    ·refine aR (S:=S3) (r:=.tup [.iv (.agg (cA ⟨b,p.gl,σ1.nx,clT p.gc p.cs,p.cs⟩)),.iv (.int .i64 0)]) (aB K _ (fn:=t24) rfl rfl ?_) (by rfl)
     unfold cA
     simp (disch:=omega) only[t24,go_sem,aC hchk,aC hbxp,aC c14]
     rw[l1]
     simp (disch:=omega) only[go_sem,c66,hat,c67,hat3,hg]
    ·have hel:=xB S2 p.cs
     refine aR (S:=S2++[.cells 0 true ((bV (bQ p.cs)).map .iv)]) (r:=.tup [.agg [.iv (.int .i64 b.k),.iv (.int .i64 b.n),.iv (.sl b.gv (TM.one (.int .i64) b.vs)),.iv (.bool b.r),.iv (.sl .no (aQ b.ks)),.iv (.int .i64 p.gl),.iv (.int .i64 σ1.nx),.msl S2.length 0 0 p.cs.length p.cs.length 5],.iv (.int .i64 0)]) (aB K _ (fn:=t24) rfl rfl ?_) ?_
     ·unfold cA
      simp (disch:=omega) only[t24,go_sem,aC hchk,aC hbxp,aC c14]
      rw[l1]
      simp (disch:=omega) only[go_sem,c66,hat,c67,hat3]
     ·unfold cA
      simp only[TM.resolve,TM.qA,TM.aCj,TM.aLh,TM.aRt,hel,hct,hg,Option.map_some]
 ·refine⟨mB,lH p,aR (S:=[]) (r:=.tup [.iv (.agg (cA mB)),.iv (.int .i64 (lH p))]) (aB K _ (fn:=t24) rfl rfl ?_) (by rfl),.inl ⟨h0,rfl,rfl⟩⟩
  unfold cA at hchk ⊢
  simp (disch:=omega) only[t24,go_sem,aC hchk,h0]
  rfl
theorem aWv (p:Pg)(hp:Dt.ws p.cs≤1048576)(x0 x4 x5:TV):∀(k i:Nat) (x6 x7:TV),i+k=p.cs.length →
  ∃j r y3 y6 y7,(j=.ret∧r=.iv (.int .i64 2)∧((p.cs.drop i).all fun d=>fN d&&plF d)=false∨j=.exit 0∧r=.iv (.int .i64 0)∧((p.cs.drop i).all fun d=>fN d&&plF d)=true) ∧
   lp' (lim K) t68L0 [x0,lbP p,.iv (.int .i64 0),.iv (.int .i64 (i:Int)),x4,x5,x6,x7] []=.ret (j,[x0,lbP p,r,y3,x4,x5,y6,y7],[])
 | 0,i,x6,x7,h=>by
  obtain rfl:i=p.cs.length:=by omega
  refine⟨.exit 0,.iv (.int .i64 0),.iv (.int .i64 p.cs.length),.iv (.bool false),x7,.inr ⟨rfl,rfl,by rw[List.drop_length]; rfl⟩,aH K _ _ t68L0.eq_1 ?_⟩
  simp (disch:=omega) only[go_sem,aI]
 | k+1,i,x6,x7,h=>by
  have hla:i<p.cs.length:=by omega
  have hwl:=Dt.ws_len p.cs
  have hix:=ixD (g:=p.gc) (ks:=p.cs) (i:=(i:Int)) (by omega)
  rw[Int.toNat_natCast]at hix
  have hdr:=bM hla
  have hxw:=Dt.ws_mem (bP hla)
  generalize hx:p.cs.getD i default=x at *
  have hm:=aK4 1048576 (by omega) x (by omega)
  have hq:=aPk 1048576 (by omega) x (by omega)
  cases h1:fN x with
  | false =>
   rw[h1]at hm
   refine⟨.ret,.iv (.int .i64 2),.iv (.int .i64 i),.iv (.bool true),.iv (.bool true),.inl ⟨rfl,rfl,by rw[hdr,List.all_cons,h1,Bool.false_and,Bool.false_and]⟩,aH K _ _ t68L0.eq_1 ?_⟩
   simp (disch:=omega) only[go_sem,aI,hix,eZ,aC hm]
  | true =>
   rw[h1]at hm
   cases h2:plF x with
   | false =>
    rw[h2]at hq
    refine⟨.ret,.iv (.int .i64 2),.iv (.int .i64 i),.iv (.bool true),.iv (.bool true),.inl ⟨rfl,rfl,by rw[hdr,List.all_cons,h1,h2,Bool.true_and,Bool.false_and]⟩,aH K _ _ t68L0.eq_1 ?_⟩
    simp (disch:=omega) only[go_sem,aI,hix,eZ,aC hm,aC hq]
   | true =>
    rw[h2]at hq
    obtain⟨j,r,y3,y6,y7,hj,ih⟩:=aWv p hp x0 x4 x5 k (i+1) (.iv (.bool true)) (.iv (.bool false)) (by omega)
    rw[show ((i+1:Nat):Int)=(i:Int)+1 by omega]at ih
    refine⟨j,r,y3,y6,y7,?_,aH K _ _ t68L0.eq_1 ?_⟩
    ·rw[hdr,List.all_cons,h1,h2,Bool.true_and,Bool.true_and]; exact hj
    ·simp (disch:=omega) only[go_sem,aI,hix,eZ,aC hm,aC hq,aF]
     exact congrArg er ih
theorem bHy (p:Pg)(hp:p.w≤1048576):TM.Pure K 68 [.iv (.agg (cA p))] (.iv (.int .i64 (lH p))):=by
 have hpw:p.b.w+Dt.ws p.cs≤1048576:=hp
 have hwl:=Dt.ws_len p.cs
 unfold lH
 by_cases hg:p.gl<0∨20000<p.gl∨p.vr<0
 ·rw[if_pos hg]
  refine TM.aR (S:=[]) (r:=.iv (.int .i64 2)) (aB K _ (fn:=t68) rfl rfl ?_) (by rw[aN])
  unfold cA
  by_cases g1:p.gl<0
  ·simp (disch:=omega) only[t68,go_sem,g1]
  ·by_cases g2:20000<p.gl
   ·simp (disch:=omega) only[t68,go_sem,g1,g2]
   ·have g3:p.vr<0:=by omega
    simp (disch:=omega) only[t68,go_sem,g1,g2,g3]
 rw[if_neg hg]
 have g1:¬p.gl<0:=by omega
 have g2:¬20000<p.gl:=by omega
 have g3:¬p.vr<0:=by omega
 obtain⟨j,r,y3,y6,y7,hj,ih⟩:=aWv p (by omega) (.iv (.agg (cA p))) u_ (.iv (.bool false)) p.cs.length 0 u_ u_ (by omega)
 rw[show ((0:Nat):Int)=0 from rfl]at ih
 rw[List.drop_zero]at hj
 rcases hj with⟨rfl,rfl,ha⟩|⟨rfl,rfl,ha⟩
 ·rw[if_pos ha]
  refine TM.aR (S:=[]) (r:=.iv (.int .i64 2)) (aB K _ (fn:=t68) rfl rfl ?_) (by rw[aN])
  unfold cA at ih ⊢
  simp (disch:=omega) only[t68,go_sem,g1,g2,g3]
  rw[ih]
  simp (disch:=omega) only[go_sem]
 ·rw[if_neg (by rw[ha]; decide)]
  have hs:RC p [.cells 121 false (fO p++[acc 0 (aP []),acc 0 (aP [])])] 0 0 0 [] []:=⟨rfl,At.nil,At.nil,fun h=>absurd rfl h⟩
  obtain⟨S',hc,_⟩:=uD p (by omega) 0 1048576 (by omega) p.b 0 _ [] [] [] [] [] [] 0 0 0 (by omega) (by omega) hs (fun _=>Iff.rfl) (fun _=>Iff.rfl) (fun _=>Iff.rfl) (by simp; omega) (by simp; omega)
  refine TM.aR (S:=S') (r:=.iv (.int .i64 (chk p p.b 0 [] [] []).1)) (aB K _ (fn:=t68) rfl rfl ?_) (by rw[aN])
  rw[aJ,show ((0:Nat):Int)=0 from rfl,show acc 0 (aP [])=.iv (.sl .nil []) from rfl]at hc
  simp only[fO,List.cons_append,List.nil_append]at hc
  unfold cA at ih ⊢
  simp (disch:=omega) only[t68,go_sem,g1,g2,g3]
  rw[ih]
  simp (disch:=omega) only[go_sem,hc]
def rfP (set:List Int)(p:Pg):Pg:=⟨rfE (mW set p.b) p.vr p.b,p.gl,p.vr+(mW set p.b).length,eP p.cs,p.cs⟩
theorem aWw (S:aA)(a b a':aY):(S++[a]++[b]).set S.length a'=S++[a']++[b]:=by simp
theorem bHz (p:Pg)(hp:p.w≤1048576)(hok:p.ok)(hv:p.vr≤1099511627776):∃q e,TM.Pure K 25 [.iv (.agg (cA p))] (.tup [.iv (.agg (cA q)),.iv (.int .i64 e)]) ∧
  (lH p≠0∧q=mB∧e=lH p∨lH p=0∧bxF p.b=true∧q=mB∧e=2∨lH p=0∧bxF p.b=false∧e=0∧∃set,oP set (kJ kC p.b)∧q=rfP set p):=by
 have hpw:p.b.w+Dt.ws p.cs≤1048576:=hp
 have hwl:=Dt.ws_len p.cs
 have hchk:=bHy p hp
 have hbx:=aVt 1048576 (by omega) p.b (by omega)
 by_cases h0:lH p=0
 ·rw[h0]at hchk
  cases hb:bxF p.b with
  | true =>
   rw[hb]at hbx
   refine⟨mB,2,TM.aR (S:=[]) (r:=.tup [.iv (.agg (cA mB)),.iv (.int .i64 2)]) (aB K _ (fn:=t25) rfl rfl ?_) (by rfl),.inr (.inl ⟨h0,rfl,rfl,rfl⟩)⟩
   rw[aJ]at hbx
   unfold cA at hchk ⊢
   simp (disch:=omega) only[t25,go_sem,aC hchk,aC hbx]
   rfl
  | false =>
   rw[hb]at hbx
   obtain⟨t71,set,_,c71,r71,b71⟩:=bHu p.b (by omega)
   obtain⟨⟨_,_,hvr⟩,_,hc0⟩:=rM h0
   have hfm:=aK5 p _ p.b (Nat.le_refl _) _ _ _ _ hc0
   obtain⟨j',S1,c70,hg⟩:=aWr t71 set b71 1048576 (by omega) p.b [] 0 [] (by omega) At.nil (by simp; omega)
   rw[List.nil_append]at c70
   have hol:=aAa set _ p.b (Nat.le_refl _)
   have c72:=aV9 (eP (aP (mW set p.b))) (mW set p.b) (by omega) p.vr (by omega) 1048576 (by omega) p.b (by omega) hfm
   have hcl:=jO S1 j' (mW set p.b)
   generalize ho:mW set p.b=o at *
   generalize hq:rfE o p.vr p.b=b at *
   refine⟨rfP set p,0,?_,.inr (.inr ⟨h0,rfl,rfl,set,r71,rfl⟩)⟩
   have hw1:IntKind.i64.wrap (p.vr+(o.length:Int))=p.vr+(o.length:Int):=aF (by omega)
   rw[show acc 0 (aP [])=.iv (.sl .nil []) from rfl]at c70
   rw[aJ]at hbx c71 c70 c72
   unfold cA at hchk
   unfold rfP
   rw[ho,hq]
   have hbE:=aJ b
   rw[hbE,show TM.one (IV.int .i64) o=aP o from rfl]at c72
   by_cases hcs:p.cs=[]
   ·have e1:∀S,cI false 5 64 39 S (.iv (.sl .nil [])) (.iv (.sl p.gc (bQ p.cs)))=some (.iv (.sl .nil []),S):=fun S=>by
     rw[hcs,bQ]; exact aB6 rfl (oA.sl ..)
    refine TM.aR (S:=S1++[.cells 29 false [.iv (.int .i64 b.k),.iv (.int .i64 b.n),.iv (.sl b.gv (TM.one (.int .i64) b.vs)),.iv (.bool b.r),.iv (.sl b.g (aQ b.ks)),.iv (.int .i64 p.gl),.iv (.int .i64 (p.vr+o.length)),.iv (.sl .nil [])]]) (r:=.tup [.iv (.agg (cA ⟨b,p.gl,p.vr+o.length,eP p.cs,p.cs⟩)),.iv (.int .i64 0)]) (aB K _ (fn:=t25) rfl rfl ?_) (by rfl)
    unfold cA
    simp (disch:=omega) only[t25,go_sem,aC hchk,aC hbx,aC c71,c70,hcl,aC c72,aB7,eC,hw1,e1,dG,fV]
    rw[hcs,bQ]
    rfl
   ·have hne:bQ p.cs≠[]:=fun h=>hcs (List.eq_nil_of_length_eq_zero (by rw[←aI p.cs,h]; rfl))
    have e1:∀S,cI false 5 64 39 S (.iv (.sl .nil [])) (.iv (.sl p.gc (bQ p.cs)))=some (.tsl S.length (bQ p.cs),S++[.tok p.cs.length 5 39]):=fun S=>by
     have:=wV (w:=5) (b:=64) (el:=39) (S:=S) (t:=.nil) (l:=[]) (ys:=bQ p.cs) (x:=.iv (.sl p.gc (bQ p.cs))) (by decide) (oA.sl ..) (pW p.cs) (by simp[fD]) hne (cM (by rw[aI]; simp; omega))
     rw[this]
     simp[aI]
    refine TM.aR (S:=S1++[.cells 29 false [.iv (.int .i64 b.k),.iv (.int .i64 b.n),.iv (.sl b.gv (TM.one (.int .i64) b.vs)),.iv (.bool b.r),.iv (.sl b.g (aQ b.ks)),.iv (.int .i64 p.gl),.iv (.int .i64 (p.vr+o.length)),.tsl (S1.length+1) (bQ p.cs)]]++[.tok p.cs.length 5 39]) (r:=.tup [.agg [.iv (.int .i64 b.k),.iv (.int .i64 b.n),.iv (.sl b.gv (TM.one (.int .i64) b.vs)),.iv (.bool b.r),.iv (.sl b.g (aQ b.ks)),.iv (.int .i64 p.gl),.iv (.int .i64 (p.vr+o.length)),.tsl (S1.length+1) (bQ p.cs)],.iv (.int .i64 0)]) (aB K _ (fn:=t25) rfl rfl ?_) (by unfold cA; rw[mG hcs]; rfl)
    unfold cA
    simp (disch:=omega) only[t25,go_sem,aC hchk,aC hbx,aC c71,c70,hcl,aC c72,aB7,eC,hw1,e1,dG,fV,eQ,aWw,List.length_append,List.length_cons,List.length_nil]
 ·refine⟨mB,lH p,TM.aR (S:=[]) (r:=.tup [.iv (.agg (cA mB)),.iv (.int .i64 (lH p))]) (aB K _ (fn:=t25) rfl rfl ?_) (by rfl),.inl ⟨h0,rfl,rfl⟩⟩
  unfold cA at hchk ⊢
  simp (disch:=omega) only[t25,go_sem,aC hchk,h0]
  rfl
end Go.Proofs.YtookmpaholmmfaaGreatDoor
