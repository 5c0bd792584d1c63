/- Some texts of the proof, joined. Condition: none. -/
import Derived.Test.YtmlhjdekfihdnaaGreatDoorTmProg
import Derived.Test.YtmlhjdekfihdnaaGreatDoorTmF
import Derived.Test.YtmlhjdekfihdnaaGreatDoorTmE
set_option maxRecDepth 100000
set_option maxHeartbeats 64000000
set_option linter.unusedSimpArgs false
set_option linter.unusedVariables false
namespace Go.Proofs.YtmlhjdekfihdnaaGreatDoor
open Go Go.TM
abbrev u_:TV:=.tup []
attribute [go_sem] TM.undef
attribute [go_sem] beq_self_eq_true bLy bLz ifT ifF eqT eqF neT neF TM.iT bF1 List.replicate List.cons_append List.nil_append decide_true decide_false
attribute [go_sem] Nat.reduceAdd Nat.reduceSub Nat.reduceMul Nat.reduceLT Nat.reduceLeDiff Nat.reduceEqDiff Nat.reduceBEq reduceIte reduceCtorEq Int.reduceEq Int.reduceLT Int.reduceLE Int.reduceAdd Int.reduceSub Int.reduceMul Int.reduceToNat Int.reduceNeg Int.reduceBEq Int.reduceBNe Int.reduceTDiv Int.reduceTMod Int.reducePow Nat.reducePow Nat.reduceDiv Nat.reduceMod Int.reduceMod Int.reduceDiv Int.reduceNe Int.reduceFDiv
def vI (v:Int):TV:=.iv (.int .i64 v)
theorem vJ {C:List Int}{J:List TV}{i:Nat}(h:i<C.length):sub (C.map vI++J) i 1=some [vI (C.getD i 0)]:=by
 simp only[sub,List.length_append,List.length_map,show i+1≤C.length+J.length by omega,↓reduceIte]
 rw[List.drop_eq_getElem_cons (by simp; omega)]
 simp[List.getElem_append,h,List.getD,List.getElem?_eq_getElem h]
theorem aUd {C:List Int}{J:List TV}{i:Nat}(x:Int)(h:i<C.length):put (C.map vI++J) i [vI x]=(C.set i x).map vI++J:=by
 unfold put
 rw[List.take_append_of_le_length (by simp; omega),List.drop_append_of_le_length (by simp; omega),List.set_eq_take_append_cons_drop,if_pos h]
 simp
theorem iH {j v len cap i:Nat}(h:i<len):indexAddrS 1 (.msl j v 0 len cap 1) (i:Int)=some (.ptr j v i):=by
 rw[bA2 (by omega),Int.toNat_natCast,Nat.zero_add]
theorem aUe {j v off len cap i:Nat}(h:i<len):indexAddrS 1 (.msl j v off len cap 1) (i:Int)=some (.ptr j v (off+i)):=by
 rw[bA2 (by omega),Int.toNat_natCast]
theorem aCt {i d y:Nat}(h:i≤y):jC (some (i:Int)) d y=some i:=by
 simp[jC,h]
theorem aCu {m cap b:Nat}(h2:b≤cap):eD m cap none (some (b:Int)) none=some (0,b,cap):=by
 have:jC none cap cap=some cap:=rfl
 have e:jC none 0 b=some 0:=rfl
 simp[eD,this,aCt h2,e]
theorem vK {m cap a:Nat}(h2:m≤cap)(h3:a≤m):eD m cap (some (a:Int)) none none=some (a,m,cap):=by
 have:jC none cap cap=some cap:=rfl
 have e:jC none m cap=some m:=rfl
 simp[eD,this,e,aCt h3]
theorem yY {S:aA}{jl v m cap:Nat}{b:Bool}{cs:List TV}(hL:S[jl]? = some (.cells v b cs))(lo hi mx:Option Int){l h c:Nat}(hb:eD m cap lo hi mx=some (l,h,c)):eL S (.sl 1) (.msl jl v 0 m cap 1) lo hi mx=some (.msl jl v (if c=l then 0 else 0+l*1) (h-l) (c-l) 1):=by
 have hv:rN S jl v=true:=by simp[rN,hL]
 simp[eL,hv,hb]
theorem aUf {S:aA}{j v cap:Nat}{b:Bool}{C:List Int}{J:List TV}(h:S[j]? = some (.cells v b (C.map vI++J))){i:Nat}(hi:i≤C.length)(hc:C.length≤cap)(c':Nat) :
  ∃J',mT [.int .i64 0] S (.msl j v (if cap=i then 0 else 0+i*1) (C.length-i) c' 1)=some (S.set j (.cells v b ((C.take i).map vI++J'))):=by
 by_cases e:C.length-i=0
 ·obtain rfl:i=C.length:=by omega
  refine⟨J,?_⟩
  have:S.set j (.cells v b (C.map vI++J))=S:=by
   obtain⟨hlt,he⟩:=List.getElem?_eq_some_iff.1 h
   rw[←he,List.set_getElem_self]
  simp only[mT,e,↓reduceIte,List.take_length,this]
 ·have hci:¬cap=i:=by omega
  refine⟨bJ (List.replicate (C.length-i) ([IV.int .i64 0].map .iv))++J,?_⟩
  have hl:(bJ (List.replicate (C.length-i) ([IV.int .i64 0].map TV.iv))).length=C.length-i:=by rw[aJu,aNi]; simp
  have hp:put (C.map vI++J) i (bJ (List.replicate (C.length-i) ([IV.int .i64 0].map TV.iv)))=(C.take i).map vI++(bJ (List.replicate (C.length-i) ([IV.int .i64 0].map .iv))++J):=by
   unfold put
   rw[hl,List.take_append_of_le_length (by simp; omega),show i+(C.length-i)=C.length by omega,List.drop_left' (by simp),←List.map_take]
   simp
  simp only[mT,e,hci,↓reduceIte,h,Nat.zero_add,Nat.mul_one,List.length_cons,List.length_nil,true_and,List.length_append,List.length_map,show i+(C.length-i)≤C.length+J.length by omega,hp,and_self]
theorem aNv (D C:List Int)(x:Int)(h:D.length<C.length):(D++C.drop D.length).set D.length x=(D++[x])++C.drop (D.length+1):=by
 rw[List.set_append_right _ _ (Nat.le_refl _),Nat.sub_self,List.drop_eq_getElem_cons h,List.set_cons_zero]
 simp
theorem yL {D C:List Int}(h:D.length≤C.length):(D++C.drop D.length).length=C.length:=by simp; omega
theorem aNw {D C:List Int}{j:Nat}(h:D.length≤j):(D++C.drop D.length).getD j 0=C.getD j 0:=by
 simp only[List.getD,List.getElem?_append_right h,List.getElem?_drop]
 rw[show D.length+(j-D.length)=j by omega]
theorem aUg (x:Int):Pure K 60 [.iv (.int .i64 x)] (.iv (.bool (decide (x≤0)))):=by
 refine aH t60 rfl rfl ?_
 simp (config := { maxSteps := 4000000 }) (disch:=omega) only[t60,go_sem]
theorem aUh {S:aA}{j v:Nat}{b:Bool}{C:List Int}{J:List TV}(h:S[j]? = some (.cells v b (C.map vI++J)))(hn:C.length≤1000000)(cap:Nat):∀(k i:Nat) (x2 x3 x6 x7:TV),i+k=C.length→(∀q,q<i→0<C.getD q 0) →
  ∃jj y2 y3 y5 y6 y7,lp' (lim K) t45L0 [.msl j v 0 C.length cap 1,.fn 60 [] [],x2,x3,.iv (.int .i64 C.length),.iv (.int .i64 i),x6,x7] S
   = .ret (jj,[.msl j v 0 C.length cap 1,.fn 60 [] [],y2,y3,.iv (.int .i64 C.length),y5,y6,y7],S) ∧
   (jj=.exit 0∧(∀q,q<C.length→0<C.getD q 0)∨jj=.ret∧∃q:Nat,y2=.iv (.int .i64 q)∧q<C.length∧C.getD q 0≤0∧∀p,p<q→0<C.getD p 0)
 | 0,i,x2,x3,x6,x7,hk,hq=>by
  obtain rfl:i=C.length:=by omega
  refine⟨.exit 0,x2,x3,.iv (.int .i64 C.length),.iv (.bool false),x7,aF K _ _ t45L0.eq_1 ?_,.inl ⟨rfl,hq⟩⟩
  simp (config := { maxSteps := 4000000 }) (disch:=omega) only[go_sem]
 | k+1,i,x2,x3,x6,x7,hk,hq=>by
  have hla:i<C.length:=by omega
  have i1:=iH (j:=j) (v:=v) (cap:=cap) hla
  have s1:=vJ (J:=J) hla
  have c31:=aUg (C.getD i 0)
  have h':=h
  simp only[vI]at h' s1
  by_cases hd:C.getD i 0≤0
  ·rw[decide_eq_true hd]at c31
   refine⟨.ret,.iv (.int .i64 i),.iv (.int .i64 i),.iv (.int .i64 i),.iv (.bool true),.iv (.bool true),aF K _ _ t45L0.eq_1 ?_,.inr ⟨rfl,i,rfl,hla,hd,hq⟩⟩
   simp (config := { maxSteps := 4000000 }) (disch:=omega) only[go_sem,i1,h',s1,aB c31]
  ·rw[decide_eq_false hd]at c31
   obtain⟨jj,y2,y3,y5,y6,y7,ih,hj⟩:=aUh h hn cap k (i+1) x2 (.iv (.int .i64 i)) (.iv (.bool true)) (.iv (.bool false)) (by omega) (fun q hq1=>by
    rcases Nat.lt_or_ge q i with h1|h1
    ·exact hq q h1
    ·obtain rfl:q=i:=by omega
     omega)
   rw[show ((i+1:Nat):Int)=(i:Int)+1 by omega]at ih
   refine⟨jj,y2,y3,y5,y6,y7,aF K _ _ t45L0.eq_1 ?_,hj⟩
   simp (config := { maxSteps := 4000000 }) (disch:=omega) only[go_sem,i1,h',s1,aB c31,aD]
   exact congrArg er ih
theorem bGy {S:aA}{j v:Nat}{b:Bool}{C:List Int}{J:List TV}(h:S[j]? = some (.cells v b (C.map vI++J)))(hn:C.length≤1000000)(cap:Nat) :
  ∃w:Int,(lim K).call 45 [.msl j v 0 C.length cap 1,.fn 60 [] []] S=.ret (.iv (.int .i64 w),S)∧(w = -1∧(∀q,q<C.length→0<C.getD q 0)∨∃q:Nat,w=q∧q<C.length∧C.getD q 0≤0∧∀p,p<q→0<C.getD p 0):=by
 obtain⟨jj,y2,y3,y5,y6,y7,l1,hj⟩:=aUh h hn cap C.length 0 (.iv (.int .i64 0)) u_ u_ u_ (by omega) (fun q hq=>by omega)
 rw[show ((0:Nat):Int)=0 from rfl]at l1
 rcases hj with⟨rfl,hj⟩|⟨rfl,q,rfl,h1⟩
 ·refine⟨-1,aP K _ (fn:=t45) rfl rfl ?_,.inl ⟨rfl,hj⟩⟩
  simp (config := { maxSteps := 4000000 }) (disch:=omega) only[t45,go_sem]
  rw[l1]
  simp (config := { maxSteps := 4000000 }) (disch:=omega) only[go_sem]
 ·refine⟨q,aP K _ (fn:=t45) rfl rfl ?_,.inr ⟨q,rfl,h1⟩⟩
  simp (config := { maxSteps := 4000000 }) (disch:=omega) only[t45,go_sem]
  rw[l1]
  simp (config := { maxSteps := 4000000 }) (disch:=omega) only[go_sem]
def pos (C:List Int):List Int:=C.filter fun n=>decide (0<n)
theorem aNx {C:List Int}(h:∀q,q<C.length→0<C.getD q 0):pos C=C:=by
 refine List.filter_eq_self.2 fun a ha=>?_
 obtain⟨i,hi,rfl⟩:=List.getElem_of_mem ha
 have:=h i hi
 simp only[List.getD,List.getElem?_eq_getElem hi,Option.getD_some]at this
 exact decide_eq_true this
theorem aGo {C:List Int}{i:Nat}(h:i<C.length):pos (C.take (i+1))=if 0<C.getD i 0 then pos (C.take i)++[C.getD i 0] else pos (C.take i):=by
 have:C.take (i+1)=C.take i++[C.getD i 0]:=by
  rw[List.take_add_one,List.getElem?_eq_getElem h]
  simp[List.getD,List.getElem?_eq_getElem h]
 rw[this]
 unfold pos
 rw[List.filter_append]
 by_cases h:0<C.getD i 0
 ·rw[if_pos h]; simp only[List.filter_cons,decide_eq_true h,if_true,List.filter_nil]
 ·rw[if_neg h]; simp only[List.filter_cons,decide_eq_false h,List.filter_nil,Bool.false_eq_true,if_false,List.append_nil]
theorem aEj (C:List Int):(pos C).length≤C.length:=List.length_filter_le _ _
theorem mO {S:aA}{j:Nat}{B:aG}(h:S[j]? = some B):S.set j B=S:=by
 obtain⟨hlt,he⟩:=List.getElem?_eq_some_iff.1 h
 rw[←he,List.set_getElem_self]
theorem aJ7 {j v:Nat}{b:Bool}{C:List Int}{J:List TV}(hn:C.length≤1000000)(cap:Nat)(x2 x6:TV):∀(k i:Nat) (S:aA) (x5 x7 x8:TV),i+k=C.length →
  S[j]? = some (.cells v b ((pos (C.take i)++C.drop (pos (C.take i)).length).map vI++J)) →
  ∃y5 y7 y8,lp' (lim K) t59L0 [.msl j v 0 C.length cap 1,.fn 60 [] [],x2,.iv (.int .i64 ((pos (C.take i)).length:Nat)),.iv (.int .i64 i),x5,x6,x7,x8] S
   = .ret (.exit 0,[.msl j v 0 C.length cap 1,.fn 60 [] [],x2,.iv (.int .i64 ((pos C).length:Nat)),.iv (.int .i64 C.length),y5,x6,y7,y8],S.set j (.cells v b ((pos C++C.drop (pos C).length).map vI++J)))
 | 0,i,S,x5,x7,x8,hk,h=>by
  obtain rfl:i=C.length:=by omega
  rw[List.take_length]at h ⊢
  refine⟨x5,.iv (.bool false),x8,aF K _ _ t59L0.eq_1 ?_⟩
  rw[mO h]
  simp (config := { maxSteps := 4000000 }) (disch:=omega) only[go_sem]
 | k+1,i,S,x5,x7,x8,hk,h=>by
  have hla:i<C.length:=by omega
  have hpl:(pos (C.take i)).length≤i:=Nat.le_trans (aEj _) (by simp; omega)
  have hlen:=yL (D:=pos (C.take i)) (C:=C) (by omega)
  have i1:=iH (j:=j) (v:=v) (cap:=cap) hla
  have s1:=vJ (C:=pos (C.take i)++C.drop (pos (C.take i)).length) (J:=J) (i:=i) (by omega)
  rw[aNw hpl]at s1
  have c31:=aUg (C.getD i 0)
  have hpt:=aGo hla
  have h':=h
  simp only[vI]at h' s1
  by_cases hd:C.getD i 0≤0
  ·rw[if_neg (by omega)]at hpt
   rw[decide_eq_true hd]at c31
   obtain⟨y5,y7,y8,ih⟩:=aJ7 (v:=v) (b:=b) (J:=J) hn cap x2 x6 k (i+1) S (.iv (.int .i64 (C.getD i 0))) (.iv (.bool true)) (.iv (.bool false)) (by omega) (by rw[hpt]; exact h)
   rw[hpt,show ((i+1:Nat):Int)=(i:Int)+1 by omega]at ih
   refine⟨y5,y7,y8,aF K _ _ t59L0.eq_1 ?_⟩
   simp (config := { maxSteps := 4000000 }) (disch:=omega) only[go_sem,i1,h',s1,aB c31,aD]
   exact congrArg er ih
  ·rw[if_pos (by omega)]at hpt
   rw[decide_eq_false hd]at c31
   have hD:(pos (C.take i)).length<C.length:=by omega
   have i2:=iH (j:=j) (v:=v) (cap:=cap) hD
   have p1:=aUd (C:=pos (C.take i)++C.drop (pos (C.take i)).length) (J:=J) (i:=(pos (C.take i)).length) (C.getD i 0) (by omega)
   rw[aNv _ _ _ hD]at p1
   have hlt:=cW h
   obtain⟨y5,y7,y8,ih⟩:=aJ7 (v:=v) (b:=b) (J:=J) hn cap x2 x6 k (i+1) (S.set j (.cells v b (((pos (C.take i)++[C.getD i 0])++C.drop ((pos (C.take i)).length+1)).map vI++J))) (.iv (.int .i64 (C.getD i 0))) (.iv (.bool true)) (.iv (.bool true)) (by omega) (by
    rw[hpt,bE hlt]
    simp)
   rw[hpt,show ((i+1:Nat):Int)=(i:Int)+1 by omega,List.length_append,List.length_singleton,List.set_set,show (((pos (C.take i)).length+1:Nat):Int)=((pos (C.take i)).length:Int)+1 by omega]at ih
   have hbb:(pos (C.take i)).length+1≤((pos (C.take i)++C.drop (pos (C.take i)).length).map vI++J).length:=by rw[List.length_append,List.length_map,hlen]; omega
   simp only[vI]at p1 hbb
   refine⟨y5,y7,y8,aF K _ _ t59L0.eq_1 ?_⟩
   simp (config := { maxSteps := 4000000 }) (disch:=omega) only[go_sem,i1,i2,h',s1,aB c31,aD,hbb,p1]
   exact congrArg er ih
theorem bGz {S:aA}{j v:Nat}{b:Bool}{C:List Int}{J:List TV}(h:S[j]? = some (.cells v b (C.map vI++J)))(hn:C.length≤1000000){cap:Nat}(hc:C.length≤cap) :
  ∃J',(lim K).call 59 [.msl j v 0 C.length cap 1,.fn 60 [] []] S=.ret (.msl j v 0 (pos C).length cap 1,S.set j (.cells v b ((pos C).map vI++J'))):=by
 obtain⟨w,c42,hw⟩:=bGy h hn cap
 rcases hw with⟨rfl,hw⟩|⟨q,rfl,hq,hq1,hq2⟩
 ·rw[aNx hw]
  refine⟨J,aP K _ (fn:=t59) rfl rfl ?_⟩
  rw[mO h]
  simp (config := { maxSteps := 4000000 }) (disch:=omega) only[t59,go_sem,c42]
 ·have hpq:pos (C.take q)=C.take q:=aNx fun p hp=>by
   have h1:p<q:=by simp at hp; omega
   have h2:=hq2 p h1
   simp only[List.getD,List.getElem?_take_of_lt h1]at h2 ⊢
   exact h2
  have hpq1:pos (C.take (q+1))=C.take q:=by rw[aGo hq,if_neg (by omega),hpq]
  have hql:(C.take q).length=q:=by simp; omega
  obtain⟨y5,y7,y8,l1⟩:=aJ7 (j:=j) (v:=v) (b:=b) (C:=C) (J:=J) hn cap (.iv (.sl .nil [])) (.iv (.bool false)) (C.length-(q+1)) (q+1) S u_ u_ u_ (by omega) (by
   rw[hpq1,hql,List.take_append_drop]; exact h)
  rw[hpq1,hql,show ((q+1:Nat):Int)=(q:Int)+1 by omega]at l1
  have hlt:=cW h
  have hS1:(S.set j (.cells v b ((pos C++C.drop (pos C).length).map vI++J)))[j]? = some _:=bE hlt _
  have hpl:=aEj C
  have hlen:=yL (D:=pos C) (C:=C) hpl
  have f1:=yY hS1 _ _ _ (vK (m:=C.length) (cap:=cap) (a:=(pos C).length) hc hpl)
  obtain⟨J',f2⟩:=aUf (cap:=cap) hS1 (i:=(pos C).length) (by omega) (by omega) (cap-(pos C).length)
  rw[hlen,List.take_left',List.set_set]at f2
  ·have hS2:(S.set j (.cells v b ((pos C).map vI++J')))[j]? = some _:=bE hlt _
   have f3:=yY hS2 _ _ _ (aCu (m:=C.length) (cap:=cap) (b:=(pos C).length) (by omega))
   rw[show (if cap=0 then 0 else 0+0*1)=0 by split<;>rfl,Nat.sub_zero,Nat.sub_zero]at f3
   have hq':¬(q:Int) = -1:=by omega
   refine⟨J',aP K _ (fn:=t59) rfl rfl ?_⟩
   simp (config := { maxSteps := 4000000 }) (disch:=omega) only[t59,go_sem,c42,hq',aD]
   rw[l1]
   simp (config := { maxSteps := 4000000 }) (disch:=omega) only[go_sem,f1,fun env=>bA8 _ env _ _ _ f2,f3]
  ·rfl
theorem bBr:K.prim 61=some jN:=rfl
theorem aUi (S:aA)(j v o n c e:Nat):prV S (some jN) [.msl j v o n c e]=jN [.msl j v o n c e] S:=id rfl
theorem aPy (C:List Int):(gX C).length=C.length:=(mK C).length_eq
theorem aGp {S:aA}{j v:Nat}{b:Bool}{C:List Int}{J:List TV}(h:S[j]? = some (.cells v b (C.map vI++J)))(hn:C.length≤1000000){cap:Nat}(hc:C.length≤cap) :
  jN [.msl j v 0 C.length cap 1] S=some (u_,S.set j (.cells v b ((gX C).map vI++J))):=by
 by_cases h0:C.length=0
 ·obtain rfl:C=[]:=List.eq_nil_of_length_eq_zero h0
  have e:S.set j (.cells v b ((gX []).map vI++J))=S:=mO h
  rw[e]; rfl
 ·have e1:List.take C.length (List.drop 0 (C.map vI++J))=C.map fun n=>TV.iv (.int .i64 n):=by
   rw[List.drop_zero,List.take_left' (by simp)]; rfl
  have e2:List.drop C.length (C.map vI++J)=J:=List.drop_left' (by simp)
  simp only[jN,h0,↓reduceIte,h,hc,Nat.zero_add,List.length_append,List.length_map,show C.length≤C.length+J.length by omega,show C.length≤1048576 by omega,and_self,e1,aBv,List.take_zero,List.nil_append,e2]
  rfl
theorem iV:∀ {l m:List Int},l.Pairwise (·<·)→m.Pairwise (·<·)→(∀x,x∈l↔x∈m)→l=m
 | [],[],_,_,_=>rfl
 | [],b::m,_,_,h=>by have:=(h b).2 (by simp); cases this
 | a::l,[],_,_,h=>by have:=(h a).1 (by simp); cases this
 | a::l,b::m,hl,hm,h=>by
  rw[List.pairwise_cons]at hl hm
  have hab:a=b:=by
   rcases List.mem_cons.1 ((h a).1 (by simp)) with e|h1
   ·exact e
   ·rcases List.mem_cons.1 ((h b).2 (by simp)) with e|h2
    ·exact e.symm
    ·have:=hm.1 a h1; have:=hl.1 b h2; omega
  subst hab
  rw[iV hl.2 hm.2 fun x=>?_]
  have hx:=h x
  simp only[List.mem_cons]at hx
  constructor
  ·intro h1
   rcases hx.1 (.inr h1) with rfl|h2
   ·have:=hl.1 x h1; omega
   ·exact h2
  ·intro h1
   rcases hx.2 (.inr h1) with rfl|h2
   ·have:=hm.1 x h1; omega
   ·exact h2
theorem yZ {C:List Int}{i:Nat}(h:i<C.length):C.getD i 0∈C:=by
 simp only[List.getD,List.getElem?_eq_getElem h,Option.getD_some]; exact List.getElem_mem _
theorem nX {C:List Int}{i:Nat}(h:i<C.length):C.take (i+1)=C.take i++[C.getD i 0]:=by
 rw[List.take_add_one,List.getElem?_eq_getElem h]
 simp[List.getD,List.getElem?_eq_getElem h]
theorem aCv {C:List Int}(hC:C.Pairwise (·≤·)){p:Nat}(hp:p<C.length)(hp0:0<p)(hne:C.getD p 0≠C.getD (p-1) 0):∀x∈C.take p,x<C.getD p 0:=by
 intro x hx
 obtain⟨i,hi,rfl⟩:=List.getElem_of_mem hx
 simp at hi
 have h1:C.getD (p-1) 0≤C.getD p 0:=by
  simp only[List.getD,List.getElem?_eq_getElem (show p-1<C.length by omega),List.getElem?_eq_getElem hp,Option.getD_some]
  exact List.pairwise_iff_getElem.1 hC (p-1) p _ _ (by omega)
 have h2:C[i]≤C.getD (p-1) 0:=by
  simp only[List.getD,List.getElem?_eq_getElem (show p-1<C.length by omega),Option.getD_some]
  rcases Nat.lt_or_ge i (p-1) with h|h
  ·exact List.pairwise_iff_getElem.1 hC i (p-1) _ _ h
  ·have:i=p-1:=by omega
   subst this; exact Int.le_refl _
 rw[List.getElem_take]
 omega
theorem aEk {j v:Nat}{b:Bool}{C:List Int}{J:List TV}(hC:C.Pairwise (·≤·))(hn:C.length≤1000000){cap:Nat}(hc:C.length≤cap){k0:Nat}(hk0:k0<C.length)(x1 x5 x6 x7:TV):∀(k p:Nat) (D:List Int) (S:aA) (x8 x9:TV),p+k=C.length→k0<p→D.length<p →
  D.Pairwise (·<·)→(∀x,x∈D↔x∈C.take p)→S[j]? = some (.cells v b ((D++C.drop D.length).map vI++J)) →
  ∃(E:List Int) (y8 y9:TV),lp' (lim K) t62L0 [.msl j v 0 C.length cap 1,x1,.iv (.int .i64 (D.length:Nat)),.msl j v k0 (C.length-k0) (cap-k0) 1,.iv (.int .i64 (p-k0:Nat)),x5,x6,x7,x8,x9] S
   = .ret (.exit 2,[.msl j v 0 C.length cap 1,x1,.iv (.int .i64 (E.length:Nat)),.msl j v k0 (C.length-k0) (cap-k0) 1,.iv (.int .i64 (C.length-k0:Nat)),x5,x6,x7,y8,y9],S.set j (.cells v b ((E++C.drop E.length).map vI++J))) ∧
   E.Pairwise (·<·)∧(∀x,x∈E↔x∈C)∧E.length≤C.length
 | 0,p,D,S,x8,x9,hk,hkp,hDp,hD,hm,h=>by
  obtain rfl:p=C.length:=by omega
  rw[List.take_length]at hm
  refine⟨D,.iv (.bool false),x9,aF K _ _ t62L0.eq_1 ?_,hD,hm,by omega⟩
  rw[mO h]
  simp (config := { maxSteps := 4000000 }) (disch:=omega) only[go_sem]
 | k+1,p,D,S,x8,x9,hk,hkp,hDp,hD,hm,h=>by
  have hpl:p<C.length:=by omega
  have hlen:=yL (D:=D) (C:=C) (by omega)
  have e1:k0+(p-k0)=p:=by omega
  have e2:k0+(p-k0-1)=p-1:=by omega
  have i1:=aUe (j:=j) (v:=v) (off:=k0) (cap:=cap-k0) (show p-k0<C.length-k0 by omega)
  have i2:=aUe (j:=j) (v:=v) (off:=k0) (cap:=cap-k0) (show p-k0-1<C.length-k0 by omega)
  rw[e1]at i1
  rw[e2,show ((p-k0-1:Nat):Int)=((p-k0:Nat):Int)-1 by omega]at i2
  have s1:=vJ (C:=D++C.drop D.length) (J:=J) (i:=p) (by omega)
  have s2:=vJ (C:=D++C.drop D.length) (J:=J) (i:=p-1) (by omega)
  rw[aNw (by omega)]at s1 s2
  have h':=h
  simp only[vI]at h' s1 s2
  have hts:=nX hpl
  by_cases hd:C.getD p 0=C.getD (p-1) 0
  ·have hmem:C.getD (p-1) 0∈C.take p:=by
    have:(C.take p).getD (p-1) 0=C.getD (p-1) 0:=by
     simp only[List.getD,List.getElem?_take_of_lt (show p-1<p by omega)]
    rw[←this]
    exact yZ (by simp; omega)
   obtain⟨E,y8,y9,ih,hE⟩:=aEk hC hn hc hk0 x1 x5 x6 x7 k (p+1) D S (.iv (.bool true)) (.iv (.bool false)) (by omega) (by omega) (by omega) hD (fun x=>by
    rw[hts,List.mem_append,List.mem_singleton,hm x]
    constructor
    ·exact .inl
    ·rintro (h1|rfl)
     ·exact h1
     ·rw[hd]; exact hmem) h
   rw[show ((p+1-k0:Nat):Int)=((p-k0:Nat):Int)+1 by omega]at ih
   refine⟨E,y8,y9,aF K _ _ t62L0.eq_1 ?_,hE⟩
   simp (config := { maxSteps := 4000000 }) (disch:=omega) only[go_sem,i1,i2,h',s1,s2,hd,aD]
   exact congrArg er ih
  ·have hlt':=aCv hC hpl (by omega) hd
   have hDl:D.length<C.length:=by omega
   have i3:=iH (j:=j) (v:=v) (cap:=cap) hDl
   have p1:=aUd (C:=D++C.drop D.length) (J:=J) (i:=D.length) (C.getD p 0) (by omega)
   rw[aNv _ _ _ hDl]at p1
   have hlt:=cW h
   obtain⟨E,y8,y9,ih,hE⟩:=aEk (v:=v) (b:=b) (J:=J) hC hn hc hk0 x1 x5 x6 x7 k (p+1) (D++[C.getD p 0]) (S.set j (.cells v b (((D++[C.getD p 0])++C.drop (D.length+1)).map vI++J))) (.iv (.bool true)) (.iv (.bool true)) (by omega) (by omega) (by simp; omega)
    (List.pairwise_append.2 ⟨hD,by simp,fun a ha x hx=>by rw[List.mem_singleton]at hx; subst hx; exact hlt' a ((hm a).1 ha)⟩) (fun x=>by
    rw[hts,List.mem_append,List.mem_append,hm x]) (by
    rw[bE hlt]
    simp)
   rw[show ((p+1-k0:Nat):Int)=((p-k0:Nat):Int)+1 by omega,List.length_append,List.length_singleton,List.set_set,show ((D.length+1:Nat):Int)=(D.length:Int)+1 by omega]at ih
   have hbb:D.length+1≤((D++C.drop D.length).map vI++J).length:=by rw[List.length_append,List.length_map,hlen]; omega
   simp only[vI]at p1 hbb
   refine⟨E,y8,y9,aF K _ _ t62L0.eq_1 ?_,hE⟩
   simp (config := { maxSteps := 4000000 }) (disch:=omega) only[go_sem,i1,i2,i3,h',s1,s2,hd,aD,hbb,p1]
   exact congrArg er ih
theorem aNy {j v:Nat}{b:Bool}{C:List Int}{J:List TV}(hC:C.Pairwise (·≤·))(hn:C.length≤1000000){cap:Nat}(hc:C.length≤cap){S:aA}(h:S[j]? = some (.cells v b (C.map vI++J)))(x1 x5:TV):∀(k i:Nat) (x3 x4 x6 x7 x8 x9:TV),i+k=C.length→0<i→(C.take i).Pairwise (·<·) →
  ∃(jj:aU) (E:List Int) (J':List TV) (y0 y1 y2 y3 y4 y6 y7 y8 y9:TV),lp' (lim K) t62L1 [.msl j v 0 C.length cap 1,x1,.iv (.int .i64 i),x3,x4,x5,x6,x7,x8,x9] S
   = .ret (jj,[y0,y1,y2,y3,y4,x5,y6,y7,y8,y9],S.set j (.cells v b (E.map vI++J')))∧E.Pairwise (·<·)∧(∀x,x∈E↔x∈C) ∧
   (jj=.exit 0∧y0=.msl j v 0 E.length cap 1∨jj=.ret∧y1=.msl j v 0 E.length cap 1)
 | 0,i,x3,x4,x6,x7,x8,x9,hk,hi,hp=>by
  obtain rfl:i=C.length:=by omega
  rw[List.take_length]at hp
  refine⟨.exit 0,C,J,.msl j v 0 C.length cap 1,x1,.iv (.int .i64 C.length),x3,x4,.iv (.bool false),x7,x8,x9,aF K _ _ t62L1.eq_1 ?_,hp,fun x=>Iff.rfl,.inl ⟨rfl,rfl⟩⟩
  rw[mO h]
  simp (config := { maxSteps := 4000000 }) (disch:=omega) only[go_sem]
 | k+1,i,x3,x4,x6,x7,x8,x9,hk,hi,hp=>by
  have hla:i<C.length:=by omega
  have i1:=iH (j:=j) (v:=v) (cap:=cap) hla
  have i2:=iH (j:=j) (v:=v) (cap:=cap) (show i-1<C.length by omega)
  rw[show ((i-1:Nat):Int)=(i:Int)-1 by omega]at i2
  have s1:=vJ (J:=J) hla
  have s2:=vJ (J:=J) (show i-1<C.length by omega)
  have hts:=nX hla
  have h':=h
  simp only[vI]at h' s1 s2
  by_cases hd:C.getD i 0=C.getD (i-1) 0
  ·have hmem:C.getD (i-1) 0∈C.take i:=by
    have:(C.take i).getD (i-1) 0=C.getD (i-1) 0:=by
     simp only[List.getD,List.getElem?_take_of_lt (show i-1<i by omega)]
    rw[←this]
    exact yZ (by simp; omega)
   have hil:(C.take i).length=i:=by simp; omega
   obtain⟨E,y8,y9,l1,hE,hEm,hEl⟩:=aEk (j:=j) (v:=v) (b:=b) (J:=J) hC hn hc hla x1 x5 (.iv (.bool true)) (.iv (.bool true)) (C.length-(i+1)) (i+1) (C.take i) S x8 x9 (by omega) (by omega) (by omega) hp (fun x=>by
    rw[hts,List.mem_append,List.mem_singleton]
    constructor
    ·exact .inl
    ·rintro (h1|rfl)
     ·exact h1
     ·rw[hd]; exact hmem) (by rw[hil,List.take_append_drop]; exact h)
   rw[hil,show i+1-i=1 by omega,show ((1:Nat):Int)=1 from rfl]at l1
   have f1:=yY h _ _ _ (vK (m:=C.length) (cap:=cap) (a:=i) hc (by omega))
   rw[if_neg (show ¬cap=i by omega),Nat.zero_add,Nat.mul_one]at f1
   have hlt:=cW h
   have hS1:(S.set j (.cells v b ((E++C.drop E.length).map vI++J)))[j]? = some _:=bE hlt _
   have hlen:=yL (D:=E) (C:=C) hEl
   have f2:=yY hS1 _ _ _ (vK (m:=C.length) (cap:=cap) (a:=E.length) hc hEl)
   obtain⟨J',f3⟩:=aUf (cap:=cap) hS1 (i:=E.length) (by omega) (by omega) (cap-E.length)
   rw[hlen,List.take_left' rfl,List.set_set]at f3
   have hS2:(S.set j (.cells v b (E.map vI++J')))[j]? = some _:=bE hlt _
   have f4:=yY hS2 _ _ _ (aCu (m:=C.length) (cap:=cap) (b:=E.length) (by omega))
   rw[show (if cap=0 then 0 else 0+0*1)=0 by split<;>rfl,Nat.sub_zero,Nat.sub_zero]at f4
   refine⟨.ret,E,J',.msl j v 0 C.length cap 1,.msl j v 0 E.length cap 1,.iv (.int .i64 (E.length:Nat)),.msl j v i (C.length-i) (cap-i) 1,.iv (.int .i64 (C.length-i:Nat)),.iv (.bool true),.iv (.bool true),y8,y9,aF K _ _ t62L1.eq_1 ?_,hE,hEm,.inr ⟨rfl,rfl⟩⟩
   simp (config := { maxSteps := 4000000 }) (disch:=omega) only[go_sem,i1,i2,h',s1,s2,hd,aD,f1]
   rw[l1]
   simp (config := { maxSteps := 4000000 }) (disch:=omega) only[go_sem,f2,fun env=>bA8 _ env _ _ _ f3,f4]
  ·have hlt':=aCv hC hla (by omega) hd
   obtain⟨jj,E,J',y0,y1,y2,y3,y4,y6,y7,y8,y9,ih,hE⟩:=aNy hC hn hc h x1 x5 k (i+1) x3 x4 (.iv (.bool true)) (.iv (.bool false)) x8 x9 (by omega) (by omega) (by
    rw[hts]
    exact List.pairwise_append.2 ⟨hp,by simp,fun a ha x hx=>by rw[List.mem_singleton]at hx; subst hx; exact hlt' a ha⟩)
   rw[show ((i+1:Nat):Int)=(i:Int)+1 by omega]at ih
   refine⟨jj,E,J',y0,y1,y2,y3,y4,y6,y7,y8,y9,aF K _ _ t62L1.eq_1 ?_,hE⟩
   simp (config := { maxSteps := 4000000 }) (disch:=omega) only[go_sem,i1,i2,h',s1,s2,hd,aD]
   exact congrArg er ih
theorem bG0 {S:aA}{j v:Nat}{b:Bool}{C D:List Int}{J:List TV}(hC:C.Pairwise (·≤·))(hn:C.length≤1000000){cap:Nat}(hc:C.length≤cap)(h:S[j]? = some (.cells v b (C.map vI++J)))(hD:D.Pairwise (·<·))(hm:∀x,x∈D↔x∈C) :
  ∃J',(lim K).call 62 [.msl j v 0 C.length cap 1] S=.ret (.msl j v 0 D.length cap 1,S.set j (.cells v b (D.map vI++J'))):=by
 by_cases h2:C.length<2
 ·have hCD:C=D:=by
   refine iV ?_ hD fun x=>(hm x).symm
   match C,h2 with
   | [],_=>simp
   | [a],_=>simp
  subst hCD
  refine⟨J,aP K _ (fn:=t62) rfl rfl ?_⟩
  rw[mO h]
  have h2':((C.length:Nat):Int)<2:=by omega
  simp (config := { maxSteps := 4000000 }) (disch:=omega) only[t62,go_sem,h2']
 ·obtain⟨jj,E,J',y0,y1,y2,y3,y4,y6,y7,y8,y9,l1,hE,hEm,hy⟩:=aNy hC hn hc h (.iv (.sl .nil [])) (.iv (.bool false)) (C.length-1) 1 u_ u_ u_ u_ u_ u_ (by omega) (by omega) (by
   match C,h2 with
   | a::r,_=>simp)
  rw[show ((1:Nat):Int)=1 from rfl]at l1
  obtain rfl:E=D:=iV hE hD fun x=>(hEm x).trans (hm x).symm
  have h2':¬((C.length:Nat):Int)<2:=by omega
  refine⟨J',aP K _ (fn:=t62) rfl rfl ?_⟩
  rcases hy with⟨rfl,rfl⟩|⟨rfl,rfl⟩
  ·simp (config := { maxSteps := 4000000 }) (disch:=omega) only[t62,go_sem,h2']
   rw[l1]
   simp (config := { maxSteps := 4000000 }) (disch:=omega) only[go_sem]
  ·simp (config := { maxSteps := 4000000 }) (disch:=omega) only[t62,go_sem,h2']
   rw[l1]
   simp (config := { maxSteps := 4000000 }) (disch:=omega) only[go_sem]
structure bG1 (C D:List Int):Prop where
 rise:D.Pairwise (·<·)
 mem:∀x,x∈D↔x∈C∧0<x
theorem vL {S:aA}{j v:Nat}{b:Bool}{C D:List Int}{J:List TV}(hn:C.length≤1000000){cap:Nat}(hc:C.length≤cap)(h:S[j]? = some (.cells v b (C.map vI++J)))(t:bG1 C D) :
  ∃J',(lim K).call 29 [.msl j v 0 C.length cap 1] S=.ret (.msl j v 0 D.length cap 1,S.set j (.cells v b (D.map vI++J'))):=by
 have hlt:=cW h
 obtain⟨J1,c30⟩:=bGz h hn hc
 have hpl:=aEj C
 have hS1:(S.set j (.cells v b ((pos C).map vI++J1)))[j]? = some _:=bE hlt _
 have hp:=aGp hS1 (by omega) (cap:=cap) (by omega)
 rw[List.set_set]at hp
 have hS2:(S.set j (.cells v b ((gX (pos C)).map vI++J1)))[j]? = some _:=bE hlt _
 have hsl:=aPy (pos C)
 obtain⟨J2,c33⟩:=bG0 (D:=D) (sY (pos C)) (by omega) (cap:=cap) (by omega) hS2 t.rise (fun x=>by
  rw[t.mem x,(mK (pos C)).mem_iff]
  simp[pos])
 rw[List.set_set,hsl]at c33
 refine⟨J2,aP K _ (fn:=t29) rfl rfl ?_⟩
 simp (config := { maxSteps := 4000000 }) (disch:=omega) only[t29,go_sem,c30,bBr,aUi,hp,c33]
theorem eX {α:Type}[Inhabited α]{l:List α}{i:Nat}(h:i<l.length):l.drop i=l.getD i default::l.drop (i+1):=by
 rw[List.drop_eq_getElem_cons h,List.getD_eq_getElem?_getD,List.getElem?_eq_getElem h]; rfl
def aT (l:List Int):List (List IV):=TM.one (.int .i64) l
theorem aUj {l:List Int}:aT l=[]↔l=[]:=by simp[aT,TM.one]
theorem eG (l:List Int):(aT l).length=l.length:=by simp[aT,TM.one]
theorem tB (l:List Int):jM 1 (aT l):=jM.one (fun _=>rfl) l
theorem aUk (t:Tag)(l:List Int)(n:Int)(hl:l.length≤1000000000)(S:aA):∀(k i:Nat) (x4 x5:TV),i+k=l.length →
  ∃j b y3 y4 y5,(j=.ret∧b=true∧n∈l.drop i∨j=.exit 0∧b=false∧n∉l.drop i) ∧
   lp' (lim K) t86L0 [.iv (.sl t (TM.one (.int .i64) l)),.iv (.int .i64 n),.iv (.bool false),.iv (.int .i64 (i:Int)),x4,x5] S=.ret (j,[.iv (.sl t (TM.one (.int .i64) l)),.iv (.int .i64 n),.iv (.bool b),y3,y4,y5],S)
 | 0,i,x4,x5,h=>by
  refine⟨.exit 0,false,?_,?_,?_,.inr ⟨rfl,rfl,by rw[List.drop_eq_nil_of_le (by omega)]; simp⟩,aF K _ _ t86L0.eq_1 ?_⟩
  rotate_left 3
  ·simp (config := { maxSteps := 4000000 }) (disch:=omega) only[go_sem]
   rfl
 | k+1,i,x4,x5,h=>by
  have hla:i<l.length:=by omega
  have hix:=jZ (f:=IV.int .i64) (t:=t) (l:=l) (i:=(i:Int)) (by omega)
  rw[Int.toNat_natCast]at hix
  have hdr:=eX hla
  by_cases hn:l.getD i default=n
  ·refine⟨.ret,true,?_,?_,?_,.inl ⟨rfl,rfl,by rw[hdr,hn]; simp⟩,aF K _ _ t86L0.eq_1 ?_⟩
   rotate_left 3
   ·simp (config := { maxSteps := 4000000 }) (disch:=omega) only[go_sem,hix,hn]
    rfl
  ·obtain⟨j,b,y3,y4,y5,hj,ih⟩:=aUk t l n hl S k (i+1) (.iv (.bool true)) (.iv (.bool false)) (by omega)
   rw[show ((i+1:Nat):Int)=(i:Int)+1 by omega]at ih
   refine⟨j,b,y3,y4,y5,?_,aF K _ _ t86L0.eq_1 ?_⟩
   ·rw[hdr]
    simp only[List.mem_cons,Ne.symm hn,false_or]
    exact hj
   ·simp (config := { maxSteps := 4000000 }) (disch:=omega) only[go_sem,hix,hn,aD]
    exact congrArg er ih
theorem aJ8 (t:Tag)(l:List Int)(n:Int)(hl:l.length≤1000000000)(S:aA):(lim K).call 86 [.iv (.sl t (TM.one (.int .i64) l)),.iv (.int .i64 n)] S=.ret (.iv (.bool (decide (n∈l))),S):=by
 obtain⟨j,b,y3,y4,y5,hj,ih⟩:=aUk t l n hl S l.length 0 u_ u_ (by omega)
 rw[show ((0:Nat):Int)=0 from rfl,List.drop_zero]at *
 refine aP K _ (fn:=t86) rfl rfl ?_
 simp (config := { maxSteps := 4000000 }) (disch:=omega) only[t86,go_sem]
 rw[ih]
 rcases hj with⟨rfl,rfl,hm⟩|⟨rfl,rfl,hm⟩
 ·simp (config := { maxSteps := 4000000 }) (disch:=omega) only[go_sem,hm]
 ·simp (config := { maxSteps := 4000000 }) (disch:=omega) only[go_sem,hm]
def tw:List Int→Int→Nat
 | [],_=>0
 | a::r,n=>if a<n then tw r n+1 else 0
theorem aUl:∀(l:List Int) (n:Int),tw l n≤l.length
 | [],n=>Nat.le_refl _
 | a::r,n=>by
  have:=aUl r n
  unfold tw; split<;>simp<;>omega
theorem aNz:∀(l:List Int) (n:Int),∀v∈l.take (tw l n),v<n
 | [],n,v,h=>by simp at h
 | a::r,n,v,h=>by
  unfold tw at h
  split at h
  ·rw[List.take_succ_cons]at h
   rcases List.mem_cons.1 h with rfl|h
   ·assumption
   ·exact aNz r n v h
  ·simp at h
theorem aN0:∀(l:List Int) (n:Int),l.Pairwise (·<·)→n∉l→∀v∈l.drop (tw l n),n<v
 | [],n,_,_,v,h=>by simp at h
 | a::r,n,hp,hn,v,h=>by
  rw[List.pairwise_cons]at hp
  simp only[List.mem_cons,not_or]at hn
  unfold tw at h
  split at h
  ·rw[List.drop_succ_cons]at h
   exact aN0 r n hp.2 hn.2 v h
  ·rw[List.drop_zero]at h
   rcases List.mem_cons.1 h with rfl|h
   ·omega
   ·have:=hp.1 v h; omega
def aB0 (l:List Int)(n:Int):List Int:=if n∈l then l else l.take (tw l n)++n::l.drop (tw l n)
theorem aUm (l:List Int)(n v:Int):v∈aB0 l n↔v∈l∨v=n:=by
 unfold aB0
 split
 ·rename_i h
  constructor
  ·exact .inl
  ·rintro (h1|rfl)
   ·exact h1
   ·exact h
 ·have:l.take (tw l n)++l.drop (tw l n)=l:=List.take_append_drop _ _
  rw[List.mem_append,List.mem_cons]
  rw[←this,List.mem_append]
  rw[List.take_append_drop]
  constructor
  ·rintro (h|h|h)
   ·exact .inl (.inl h)
   ·exact .inr h
   ·exact .inl (.inr h)
  ·rintro ((h|h)|h)
   ·exact .inl h
   ·exact .inr (.inr h)
   ·exact .inr (.inl h)
theorem aPz {l:List Int}(n:Int)(hp:l.Pairwise (·<·)):(aB0 l n).Pairwise (·<·):=by
 unfold aB0
 split
 ·exact hp
 ·rename_i hn
  have h1:=aNz l n
  have h2:=aN0 l n hp hn
  rw[List.pairwise_append,List.pairwise_cons]
  refine⟨List.Pairwise.sublist (List.take_sublist _ _) hp,⟨h2,List.Pairwise.sublist (List.drop_sublist _ _) hp⟩,fun a ha b hb=>?_⟩
  rcases List.mem_cons.1 hb with rfl|hb
  ·exact h1 a ha
  ·have:=h1 a ha; have:=h2 b hb; omega
theorem aUn (l:List Int)(n:Int):(aB0 l n).length≤l.length+1:=by
 unfold aB0
 split
 ·omega
 ·have:=aUl l n
  simp; omega
theorem aUo (t:Tag)(l:List Int)(n:Int)(hl:l.length≤1000000000)(x2 x4 x5:TV)(S:aA):∀(k i:Nat) (x6:TV),i+k=l.length →
  ∃y6,lp' (lim K) t70L0 [.iv (.sl t (TM.one (.int .i64) l)),.iv (.int .i64 n),x2,.iv (.int .i64 (i:Int)),x4,x5,x6] S
   = .ret (.exit 0,[.iv (.sl t (TM.one (.int .i64) l)),.iv (.int .i64 n),x2,.iv (.int .i64 ((i+tw (l.drop i) n:Nat):Int)),x4,x5,y6],S)
 | 0,i,x6,h=>by
  obtain rfl:i=l.length:=by omega
  refine⟨.iv (.bool false),aF K _ _ t70L0.eq_1 ?_⟩
  rw[List.drop_length,tw,Nat.add_zero]
  simp (config := { maxSteps := 4000000 }) (disch:=omega) only[go_sem]
 | k+1,i,x6,h=>by
  have hla:i<l.length:=by omega
  have hix:=jZ (f:=IV.int .i64) (t:=t) (l:=l) (i:=(i:Int)) (by omega)
  rw[Int.toNat_natCast]at hix
  have hdr:=eX hla
  by_cases hn:l.getD i default<n
  ·obtain⟨y6,ih⟩:=aUo t l n hl x2 x4 x5 S k (i+1) (.iv (.bool true)) (by omega)
   rw[show ((i+1:Nat):Int)=(i:Int)+1 by omega]at ih
   refine⟨y6,aF K _ _ t70L0.eq_1 ?_⟩
   rw[hdr,tw,if_pos hn,show i+(tw (l.drop (i+1)) n+1)=i+1+tw (l.drop (i+1)) n by omega]
   simp (config := { maxSteps := 4000000 }) (disch:=omega) only[go_sem,hix,hn,aD]
   exact congrArg er ih
  ·refine⟨.iv (.bool false),aF K _ _ t70L0.eq_1 ?_⟩
   rw[hdr,tw,if_neg hn,Nat.add_zero]
   simp (config := { maxSteps := 4000000 }) (disch:=omega) only[go_sem,hix,hn]
theorem yM {l ys:List Int}{t:Tag}(h:l.length+ys.length≤8000000) :
  bI false 1 8 3 (nU 1 3 (aT l)) (acc 0 (aT l)) (.iv (.sl t (aT ys)))=some (acc 0 (aT (l++ys)),nU 1 3 (aT (l++ys))):=by
 have:=bAt (w:=1) (b:=8) (el:=3) (l:=aT l) (ys:=aT ys) (x:=.iv (.sl t (aT ys))) (fun S=>vB.sl S t _) (tB ys) (tB l) (cX (by rw[eG,eG]; omega))
 rw[this,show aT l++aT ys=aT (l++ys) by simp[aT,TM.one]]
theorem bG2 (t:Tag)(l:List Int)(n:Int)(ht:bN t l)(hl:l.length≤2000000):∃t',bN t' (aB0 l n)∧TM.Pure K 70 [.iv (.sl t (TM.one (.int .i64) l)),.iv (.int .i64 n)] (.iv (.sl t' (TM.one (.int .i64) (aB0 l n)))):=by
 have c40:=aJ8 t l n (by omega) []
 unfold aB0
 by_cases hn:n∈l
 ·rw[if_pos hn]
  rw[decide_eq_true hn]at c40
  refine⟨t,ht,TM.cV (S:=[]) (r:=.iv (.sl t (TM.one (.int .i64) l))) (aP K _ (fn:=t70) rfl rfl ?_) (by rw[mI])⟩
  simp (config := { maxSteps := 4000000 }) (disch:=omega) only[t70,go_sem,c40]
 ·rw[if_neg hn]
  rw[decide_eq_false hn]at c40
  have hk:=aUl l n
  obtain⟨y6,l1⟩:=aUo t l n (by omega) (.iv (.sl .nil [])) u_ (.iv (.bool false)) [] l.length 0 u_ (by omega)
  rw[show ((0:Nat):Int)=0 from rfl,List.drop_zero,Nat.zero_add]at l1
  have s1:=fun S=>aGd (f:=IV.int .i64) S (t:=t) (l:=l) (b:=(tw l n:Int)) ht (by omega)
  have s2:=fun S=>aGe (f:=IV.int .i64) S (t:=t) (l:=l) (a:=(tw l n:Int)) ht (by omega)
  rw[Int.toNat_natCast]at s1 s2
  generalize hA:l.take (tw l n)=A at *
  generalize hB:l.drop (tw l n)=B at *
  have lA:A.length≤l.length:=by rw[←hA]; simp; omega
  have lB:B.length≤l.length:=by rw[←hB]; simp
  generalize qL t l.length (tw l n)=t1 at *
  have e1:=yM (l:=[]) (ys:=A) (t:=t1) (by simp; omega)
  have e2:=yM (l:=A) (ys:=[n]) (t:=.full) (by simp; omega)
  have e3:=yM (l:=A++[n]) (ys:=B) (t:=t) (by simp; omega)
  rw[show nU 1 3 (aT [])=[] from rfl,show acc 0 (aT [])=.iv (.sl .nil []) from rfl,List.nil_append]at e1
  rw[show aT [n]=[[.int .i64 n]] from rfl]at e2
  rw[show A++[n]++B=A++n::B by simp]at e3
  refine⟨mM (aT (A++n::B)),fun h=>?_,TM.cV (S:=nU 1 3 (aT (A++n::B))) (r:=acc 0 (aT (A++n::B))) (aP K _ (fn:=t70) rfl rfl ?_) (qN _ _ _)⟩
  ·have:aT (A++n::B)≠[]:=by simp[aUj]
   revert h
   cases hq:aT (A++n::B) with
   | nil=>exact absurd hq this
   | cons a r=>intro h; cases h
  ·simp (config := { maxSteps := 4000000 }) (disch:=omega) only[t70,go_sem,c40]
   rw[l1]
   unfold aT at e1 e2 e3
   simp (config := { maxSteps := 4000000 }) (disch:=omega) only[go_sem,s1,s2,e1,e2,e3]
   rfl
structure VI where
 op:Int
 d:Int
 a:Int
 b:Int
 im:Int
 lb:Int
 tu:Tag
 us:List Int
 tm:Tag
 mp:List Int
instance:Inhabited VI:=⟨⟨0,0,0,0,0,0,.nil,[],.nil,[]⟩⟩
def aK (v:VI):List IV:=[.int .i64 v.op,.int .i64 v.d,.int .i64 v.a,.int .i64 v.b,.int .i64 v.im,.int .i64 v.lb,.sl v.tu (TM.one (.int .i64) v.us),.sl v.tm (TM.one (.int .i64) v.mp)]
theorem bP (v:VI):aK v=[.int .i64 v.op,.int .i64 v.d,.int .i64 v.a,.int .i64 v.b,.int .i64 v.im,.int .i64 v.lb,.sl v.tu (TM.one (.int .i64) v.us),.sl v.tm (TM.one (.int .i64) v.mp)]:=rfl
theorem aY (v:VI):(aK v).map TV.iv=[.iv (.int .i64 v.op),.iv (.int .i64 v.d),.iv (.int .i64 v.a),.iv (.int .i64 v.b),.iv (.int .i64 v.im),.iv (.int .i64 v.lb),.iv (.sl v.tu (TM.one (.int .i64) v.us)),.iv (.sl v.tm (TM.one (.int .i64) v.mp))]:=rfl
theorem tC:TM.one (IV.int .i64) []=[]:=rfl
def gG (l:List Int)(n:Int):List Int:=if n≤0 then l else aB0 l n
def tdy (C:List Int):List Int:=C.foldl gG []
theorem aUp (l:List Int)(n v:Int):v∈gG l n↔v∈l∨(v=n∧0<n):=by
 unfold gG
 split
 ·rename_i h
  constructor
  ·exact .inl
  ·rintro (h1|⟨_,h2⟩)
   ·exact h1
   ·omega
 ·rename_i h
  rw[aUm]
  constructor
  ·rintro (h1|h1)
   ·exact .inl h1
   ·exact .inr ⟨h1,by omega⟩
  ·rintro (h1|⟨h1,_⟩)
   ·exact .inl h1
   ·exact .inr h1
theorem aP0 {l:List Int}(n:Int)(h:l.Pairwise (·<·)):(gG l n).Pairwise (·<·):=by
 unfold gG
 split
 ·exact h
 ·exact aPz n h
theorem nK (l:List Int)(n:Int):(gG l n).length≤l.length+1:=by
 unfold gG
 split
 ·omega
 ·exact aUn l n
theorem aCw:∀(C l:List Int),l.Pairwise (·<·)→(C.foldl gG l).Pairwise (·<·)∧∀x,x∈C.foldl gG l↔x∈l∨(x∈C∧0<x)
 | [],l,h=>⟨h,fun x=>by simp⟩
 | n::C,l,h=>by
  obtain⟨h1,h2⟩:=aCw C (gG l n) (aP0 n h)
  refine⟨h1,fun x=>?_⟩
  rw[List.foldl_cons,h2 x,aUp,List.mem_cons]
  constructor
  ·rintro ((h3|⟨rfl,h4⟩)|⟨h3,h4⟩)
   ·exact .inl h3
   ·exact .inr ⟨.inl rfl,h4⟩
   ·exact .inr ⟨.inr h3,h4⟩
  ·rintro (h3|⟨rfl|h3,h4⟩)
   ·exact .inl (.inl h3)
   ·exact .inl (.inr ⟨rfl,h4⟩)
   ·exact .inr ⟨h3,h4⟩
theorem pG:∀(C l:List Int),(C.foldl gG l).length≤l.length+C.length
 | [],l=>Nat.le_refl _
 | n::C,l=>by
  have h1:=pG C (gG l n)
  have h2:=nK l n
  rw[List.foldl_cons,List.length_cons]; omega
theorem fV (C:List Int):bG1 C (tdy C):=by
 obtain⟨h1,h2⟩:=aCw C [] .nil
 exact⟨h1,fun x=>by rw[show x∈tdy C↔_ from h2 x]; simp⟩
theorem tF (C:List Int):(tdy C).length≤C.length:=by have:=pG C []; simpa[tdy] using this
theorem aEl {C:List Int}{x:Int}(h:x∈tdy C):0<x:=((fV C).mem x).1 h |>.2
def bV (v:VI):List Int :=
 if (1≤v.op∧v.op≤14)∨(25≤v.op∧v.op≤31) then tdy [v.a,v.b]
 else if (15≤v.op∧v.op≤24∧v.op≠23)∨v.op=64∨v.op=74 then tdy [v.a]
 else if v.op=67∨v.op=68∨v.op=72 then tdy (v.us++[26]) else []
def bY:List Int:=List.map (fun n:Nat=>(n:Int)+1) (List.range 26)
def bM (v:VI):List Int :=
 if (1≤v.op∧v.op≤24)∨v.op=64∨(69≤v.op∧v.op≤71)∨v.op=73 then tdy [v.d]
 else if v.op=67 then tdy (bY++[31,v.d]) else []
theorem nA (t:Tag)(l:List Int)(n:Int)(ht:bN t l)(hl:l.length≤2000000):∃t',bN t' (gG l n)∧TM.Pure K 36 [.iv (.sl t (TM.one (.int .i64) l)),.iv (.int .i64 n)] (.iv (.sl t' (TM.one (.int .i64) (gG l n)))):=by
 unfold gG
 by_cases hn:n≤0
 ·rw[if_pos hn]
  refine⟨t,ht,aH t36 rfl rfl ?_⟩
  simp (config := { maxSteps := 4000000 }) (disch:=omega) only[t36,go_sem,hn]
 ·rw[if_neg hn]
  obtain⟨t',ht',c34⟩:=bG2 t l n ht hl
  refine⟨t',ht',aH t36 rfl rfl ?_⟩
  simp (config := { maxSteps := 4000000 }) (disch:=omega) only[t36,go_sem,hn,aB c34]
theorem aUq (v:VI)(hu:v.us.length≤1000000)(x0 x2 x5 x6 x7:TV)(S:aA):∀(k i:Nat) (t:Tag) (l:List Int) (x8:TV),i+k=v.us.length→bN t l→l.length≤i →
  ∃(t':Tag) (y8:TV),bN t' ((v.us.drop i).foldl gG l)∧lp' (lim K) t87L0 [x0,.lb ((aK v).map .iv),x2,.iv (.sl t (TM.one (.int .i64) l)),.iv (.int .i64 (i:Int)),x5,x6,x7,x8] S
   = .ret (.exit 0,[x0,.lb ((aK v).map .iv),x2,.iv (.sl t' (TM.one (.int .i64) ((v.us.drop i).foldl gG l))),.iv (.int .i64 v.us.length),x5,x6,x7,y8],S)
 | 0,i,t,l,x8,h,ht,hl=>by
  obtain rfl:i=v.us.length:=by omega
  rw[List.drop_length,List.foldl_nil]
  refine⟨t,.iv (.bool false),ht,aF K _ _ t87L0.eq_1 ?_⟩
  simp (config := { maxSteps := 4000000 }) (disch:=omega) only[go_sem,aK,List.map_cons,List.map_nil]
 | k+1,i,t,l,x8,h,ht,hl=>by
  have hla:i<v.us.length:=by omega
  have hix:=jZ (f:=IV.int .i64) (t:=v.tu) (l:=v.us) (i:=(i:Int)) (by omega)
  rw[Int.toNat_natCast]at hix
  have hdr:=eX hla
  obtain⟨t1,ht1,c24⟩:=nA t l (v.us.getD i default) ht (by omega)
  have hpl:=nK l (v.us.getD i default)
  obtain⟨t',y8,ht',ih⟩:=aUq v hu x0 x2 x5 x6 x7 S k (i+1) t1 _ (.iv (.bool true)) (by omega) ht1 (by omega)
  rw[hdr,List.foldl_cons]
  rw[show ((i+1:Nat):Int)=(i:Int)+1 by omega]at ih
  refine⟨t',y8,ht',aF K _ _ t87L0.eq_1 ?_⟩
  simp only[aK,List.map_cons,List.map_nil]at ih ⊢
  simp (config := { maxSteps := 4000000 }) (disch:=omega) only[go_sem,hix,aB c24,aD]
  exact congrArg er ih
def uI (n:Nat):TV:=.iv (.int .u64 (n:Int))
theorem pH {W:List Nat}{i:Nat}(h:i<W.length):sub (W.map uI) i 1=some [uI (W.getD i 0)]:=by
 simp only[sub,List.length_map,show i+1≤W.length by omega,↓reduceIte]
 rw[List.drop_eq_getElem_cons (by simp; omega)]
 simp[List.getD,List.getElem?_eq_getElem h]
theorem aJ9 {W:List Nat}{i:Nat}(x:Nat)(h:i<W.length):put (W.map uI) i [uI x]=(W.set i x).map uI:=by
 unfold put
 rw[List.map_set,List.set_eq_take_append_cons_drop,if_pos (by simpa using h)]
 simp
def bit (W:List Nat)(r:Nat):Bool:=(W.getD (r / 64) 0).testBit (r % 64)
structure WOK (m:Nat) (W:List Nat):Prop where
 len:W.length=m
 lt:∀x∈W,x<18446744073709551616
theorem WOK.get {m:Nat}{W:List Nat}(h:WOK m W)(i:Nat):W.getD i 0<18446744073709551616:=by
 rcases Nat.lt_or_ge i W.length with h1|h1
 ·simp only[List.getD,List.getElem?_eq_getElem h1,Option.getD_some]; exact h.lt _ (List.getElem_mem _)
 ·simp[List.getD,List.getElem?_eq_none h1]
theorem WOK.set {m:Nat}{W:List Nat}(h:WOK m W)(i x:Nat)(hx:x<18446744073709551616):WOK m (W.set i x) :=
 ⟨by rw[List.length_set,h.len],fun y hy=>by
  rcases List.mem_or_eq_of_mem_set hy with h1|rfl
  ·exact h.lt y h1
  ·exact hx⟩
theorem WOK.zero (m:Nat):WOK m (List.replicate m 0):=⟨by simp,fun x hx=>by rw[List.eq_of_mem_replicate hx]; decide⟩
theorem aUr (m r:Nat):bit (List.replicate m 0) r=false:=by
 unfold bit
 have:(List.replicate m 0).getD (r / 64) 0=0:=by
  rcases Nat.lt_or_ge (r / 64) m with h|h
  ·simp[List.getD,h]
  ·rw[List.getD,List.getElem?_eq_none (by simpa using h)]; rfl
 rw[this]; exact Nat.zero_testBit _
theorem zA {W:List Nat}{i j x:Nat}(h:i<W.length):(W.set i x).getD j 0=if j=i then x else W.getD j 0:=by
 simp only[List.getD,List.getElem?_set]
 by_cases e:i=j
 ·subst e; simp[h]
 ·rw[if_neg e,if_neg (Ne.symm e)]
theorem aKa {a b:Nat}(ha:a<18446744073709551616)(hb:b<18446744073709551616):IntKind.u64.wrap (bOr 64 (a:Int) (b:Int))=((a ||| b:Nat):Int):=by
 have h:a ||| b<2 ^ 64:=Nat.or_lt_two_pow (by simpa using ha) (by simpa using hb)
 unfold bOr
 rw[BitVec.toNat_or,iW ⟨by omega,by norm_cast⟩,iW ⟨by omega,by norm_cast⟩,Int.toNat_natCast,Int.toNat_natCast,mJ]
 omega
def kB (a b:Nat):Nat:=(BitVec.ofNat 64 a &&& ~~~ BitVec.ofNat 64 b).toNat
theorem sD (a b:Nat):kB a b<18446744073709551616:=(BitVec.ofNat 64 a &&& ~~~ BitVec.ofNat 64 b).isLt
theorem aGq (a b i:Nat)(hi:i<64):(kB a b).testBit i=(a.testBit i&&!b.testBit i):=by
 unfold kB
 rw[BitVec.testBit_toNat,BitVec.getLsbD_and,BitVec.getLsbD_not,BitVec.getLsbD_ofNat,BitVec.getLsbD_ofNat]
 simp[hi]
theorem aKb (a b:Nat):IntKind.u64.wrap (yW 64 (a:Int) (b:Int))=((kB a b:Nat):Int):=by
 have h:=sD a b
 unfold yW
 rw[BitVec.ofInt_natCast,BitVec.ofInt_natCast,mJ]
 ·rfl
 ·exact⟨by omega,by unfold kB at h; omega⟩
theorem aGr (p:Nat):((p:Int).tdiv 64)=((p / 64:Nat):Int):=by
 rw[Int.tdiv_eq_ediv_of_nonneg (by omega)]; omega
theorem aUs (p:Nat):((p:Int).tmod 64)=((p % 64:Nat):Int):=by
 rw[Int.tmod_eq_emod_of_nonneg (by omega)]; omega
theorem bBs {q:Nat}(hq:q<64){inst:Decidable (((q:Nat):Int).toNat≤64)}:IntKind.u64.wrap (1*2 ^ (@ite Nat (((q:Nat):Int).toNat≤64) inst ((q:Nat):Int).toNat 64))=((2 ^ q:Nat):Int):=by
 have h:2 ^ q<18446744073709551616:=Nat.pow_lt_pow_right (n:=64) (a:=2) (by decide) hq
 have e:((2:Int) ^ q)=((2 ^ q:Nat):Int):=by push_cast; rfl
 rw[if_pos (by omega),Int.toNat_natCast,Int.one_mul,e]
 generalize 2 ^ q=x at *
 rw[mJ (by omega)]
theorem aKc {q:Nat}(hq:q<64):TM.binOp .shl (.iv (.int .u64 1)) (.iv (.int .i64 ((q:Nat):Int)))=some (.int .u64 ((2 ^ q:Nat):Int)):=by
 rw[TM.aD6,if_neg (by omega)]
 have:=bBs hq (inst:=Nat.decLe _ _)
 show some (IV.int .u64 (IntKind.u64.wrap (1*2 ^ (if ((q:Nat):Int).toNat≤64 then ((q:Nat):Int).toNat else 64))))=_
 rw[this]
theorem bBt {q i:Nat}:(2 ^ q).testBit i=decide (q=i):=Nat.testBit_two_pow
theorem aUt {q:Nat}(h:q<64):2 ^ q<18446744073709551616:=Nat.pow_lt_pow_right (n:=64) (a:=2) (by decide) h
theorem aEm {a b:Nat}(ha:a<18446744073709551616)(hb:b<18446744073709551616):a ||| b<18446744073709551616:=Nat.or_lt_two_pow (n:=64) ha hb
theorem bJu {bytes m n:Nat}(hr:dZ n bytes=true):mkV [.int .u64 0] bytes m (.iv (.int .i64 n)) (.iv (.int .i64 n))=some (.msl m 0 0 n n 1,.cells 0 false ((List.replicate n 0).map uI)):=by
 have hf:bJ (List.replicate n ([IV.int .u64 0].map TV.iv))=(List.replicate n 0).map uI:=by
  rw[aJu]
  simp[aBp,uI]
 have:=bEv [.int .u64 0] bytes m .i64 .i64 n n ⟨by omega,by omega,by rw[Int.toNat_natCast]; exact hr⟩
 rw[Int.toNat_natCast,hf]at this
 exact this
theorem bBu {W:List Nat}{p r:Nat}(h:p / 64<W.length):bit (W.set (p / 64) (W.getD (p / 64) 0 ||| 2 ^ (p % 64))) r=(bit W r||decide (r=p)):=by
 unfold bit
 rw[zA h]
 by_cases e:r / 64=p / 64
 ·rw[if_pos e,Nat.testBit_or,bBt,e]
  congr 1
  have:(p % 64=r % 64)↔r=p:=by omega
  simp only[this]
 ·rw[if_neg e]
  have:¬r=p:=by rintro rfl; exact e rfl
  simp[this]
theorem aKd {j m regs:Nat}(hregs:regs≤1000000)(hm:(regs+63) / 64=m)(t:Tag)(l:List Int)(hl:l.length≤2000000)(hpos:∀x∈l,0≤x)(x2:TV):∀(k i:Nat) (W:List Nat) (S:aA) (x4 x8 x9:TV),i+k=l.length→WOK m W→S[j]? = some (.cells 0 false (W.map uI)) →
  ∃(W':List Nat) (y4 y8 y9:TV),lp' (lim K) t55L0 [.iv (.int .i64 regs),.iv (.sl t (TM.one (.int .i64) l)),x2,.msl j 0 0 m m 1,x4,.iv (.sl t (TM.one (.int .i64) l)),.iv (.int .i64 l.length),.iv (.int .i64 i),x8,x9] S
   = .ret (.exit 0,[.iv (.int .i64 regs),.iv (.sl t (TM.one (.int .i64) l)),x2,.msl j 0 0 m m 1,y4,.iv (.sl t (TM.one (.int .i64) l)),.iv (.int .i64 l.length),.iv (.int .i64 l.length),y8,y9],S.set j (.cells 0 false (W'.map uI))) ∧
   WOK m W'∧∀r:Nat,bit W' r=true↔bit W r=true∨((r:Int)∈l.drop i∧r<regs)
 | 0,i,W,S,x4,x8,x9,hk,hW,h=>by
  obtain rfl:i=l.length:=by omega
  refine⟨W,x4,.iv (.bool false),x9,aF K _ _ t55L0.eq_1 ?_,hW,fun r=>by simp⟩
  rw[mO h]
  simp (config := { maxSteps := 4000000 }) (disch:=omega) only[go_sem]
 | k+1,i,W,S,x4,x8,x9,hk,hW,h=>by
  have hla:i<l.length:=by omega
  have hix:=jZ (f:=IV.int .i64) (t:=t) (l:=l) (i:=(i:Int)) (by omega)
  rw[Int.toNat_natCast]at hix
  have hdr:=eX hla
  have hx0:0≤l.getD i default:=hpos _ (by simp only[List.getD,List.getElem?_eq_getElem hla,Option.getD_some]; exact List.getElem_mem _)
  obtain⟨p,hp⟩:=Int.eq_ofNat_of_zero_le hx0
  rw[hp]at hix hdr
  by_cases hpr:p<regs
  ·have hpm:p / 64<m:=by omega
   have hpl:p / 64<W.length:=by rw[hW.len]; exact hpm
   have i1:=iH (j:=j) (v:=0) (cap:=m) hpm
   have s1:=pH hpl
   have hq:p % 64<64:=Nat.mod_lt _ (by decide)
   have hor:=aEm (hW.get (p / 64)) (aUt hq)
   have e1:=aGr p
   have e2:=aUs p
   have e3:=aKc hq
   have e4:=aKa (hW.get (p / 64)) (aUt hq)
   have p1:=aJ9 (W.getD (p / 64) 0 ||| 2 ^ (p % 64)) hpl
   have hlt:=cW h
   obtain⟨W',y4,y8,y9,ih,hW',hb⟩:=aKd hregs hm t l hl hpos x2 k (i+1) _ (S.set j (.cells 0 false ((W.set (p / 64) (W.getD (p / 64) 0 ||| 2 ^ (p % 64))).map uI))) (.iv (.int .i64 p)) (.iv (.bool true)) (.iv (.bool true)) (by omega) (hW.set (p / 64) _ hor) (bE hlt _)
   rw[show ((i+1:Nat):Int)=(i:Int)+1 by omega,List.set_set]at ih
   have hbb:p / 64+1≤(W.map uI).length:=by rw[List.length_map]; omega
   have h':=h
   simp only[uI]at s1 p1 h' hbb
   refine⟨W',y4,y8,y9,aF K _ _ t55L0.eq_1 ?_,hW',fun r=>?_⟩
   ·generalize hA:W.getD (p / 64) 0=A at *
    generalize hB:(2 ^ (p % 64):Nat)=B at *
    generalize hC:A ||| B=C at *
    simp (config := { maxSteps := 4000000 }) (disch:=omega) only[go_sem,hix,i1,h',s1,e1,e2,e3,e4,p1,hbb,aD]
    exact congrArg er ih
   ·rw[hb r,bBu hpl,hdr,List.mem_cons,Bool.or_eq_true,decide_eq_true_eq]
    constructor
    ·rintro ((h1|rfl)|⟨h1,h2⟩)
     ·exact .inl h1
     ·exact .inr ⟨.inl rfl,hpr⟩
     ·exact .inr ⟨.inr h1,h2⟩
    ·rintro (h1|⟨h1|h1,h2⟩)
     ·exact .inl (.inl h1)
     ·exact .inl (.inr (by omega))
     ·exact .inr ⟨h1,h2⟩
  ·obtain⟨W',y4,y8,y9,ih,hW',hb⟩:=aKd hregs hm t l hl hpos x2 k (i+1) W S (.iv (.int .i64 p)) (.iv (.bool true)) (.iv (.bool false)) (by omega) hW h
   rw[show ((i+1:Nat):Int)=(i:Int)+1 by omega]at ih
   refine⟨W',y4,y8,y9,aF K _ _ t55L0.eq_1 ?_,hW',fun r=>?_⟩
   ·simp (config := { maxSteps := 4000000 }) (disch:=omega) only[go_sem,hix,aD]
    exact congrArg er ih
   ·rw[hb r,hdr,List.mem_cons]
    constructor
    ·rintro (h1|⟨h1,h2⟩)
     ·exact .inl h1
     ·exact .inr ⟨.inr h1,h2⟩
    ·rintro (h1|⟨h1|h1,h2⟩)
     ·exact .inl h1
     ·omega
     ·exact .inr ⟨h1,h2⟩
theorem zB {regs:Nat}(hregs:regs≤1000000)(t:Tag)(l:List Int)(hl:l.length≤2000000)(hpos:∀x∈l,0≤x)(S:aA) :
  ∃W:List Nat,(lim K).call 55 [.iv (.int .i64 regs),.iv (.sl t (TM.one (.int .i64) l))] S=.ret (.msl S.length 0 0 ((regs+63) / 64) ((regs+63) / 64) 1,S++[.cells 0 false (W.map uI)]) ∧
   WOK ((regs+63) / 64) W∧∀r:Nat,bit W r=true↔(r:Int)∈l∧r<regs:=by
 generalize hm:(regs+63) / 64=m
 have h0:(S++[.cells 0 false ((List.replicate m 0).map uI)])[S.length]? = some (.cells 0 false ((List.replicate m 0).map uI)):=by simp
 obtain⟨W,y4,y8,y9,l1,hW,hb⟩:=aKd hregs hm t l hl hpos (.iv (.sl .nil [])) l.length 0 (List.replicate m 0) _ u_ u_ u_ (by omega) (WOK.zero m) h0
 rw[show ((0:Nat):Int)=0 from rfl,List.set_append_right _ _ (Nat.le_refl _),Nat.sub_self,List.set_cons_zero]at l1
 have e1:=aGr (regs+63)
 rw[hm,show ((regs+63:Nat):Int)=(regs:Int)+64-1 by omega]at e1
 have hmk:=bJu (bytes:=8) (m:=S.length) (n:=m) (cX (by omega))
 refine⟨W,aP K _ (fn:=t55) rfl rfl ?_,hW,fun r=>?_⟩
 ·simp (config := { maxSteps := 4000000 }) (disch:=omega) only[t55,go_sem,aD,e1,hmk]
  rw[l1]
  simp (config := { maxSteps := 4000000 }) (disch:=omega) only[go_sem]
 ·rw[hb r,aUr,List.drop_zero]
  simp
theorem bBv:∀x:Nat,x≠0→∃k y,x=2 ^ k*(2*y+1):=by
 intro x
 induction x using Nat.strongRecOn with
 | ind x ih =>
  intro h
  by_cases e:x % 2=1
  ·exact⟨0,x / 2,by rw[Nat.pow_zero,Nat.one_mul]; omega⟩
  ·obtain⟨k,y,h1⟩:=ih (x / 2) (by omega) (by omega)
   refine⟨k+1,y,?_⟩
   rw[Nat.pow_succ]
   have:x=2*(x / 2):=by omega
   rw[this,h1]
   rw[show 2 ^ k*2*(2*y+1)=2*(2 ^ k*(2*y+1)) by rw[Nat.mul_comm (2 ^ k) 2,Nat.mul_assoc]]
theorem bG3 (y j:Nat):(2*y+1).testBit j=if j=0 then true else y.testBit (j-1):=by
 cases j with
 | zero=>rw[if_pos rfl,Nat.testBit_zero]; simp
 | succ j=>rw[if_neg (by omega),Nat.testBit_succ,show (2*y+1) / 2=y by omega]; rfl
theorem bBw (y j:Nat):(2*y).testBit j=if j=0 then false else y.testBit (j-1):=by
 cases j with
 | zero=>rw[if_pos rfl,Nat.testBit_zero]; simp
 | succ j=>rw[if_neg (by omega),Nat.testBit_succ,show (2*y) / 2=y by omega]; rfl
theorem bBx (k y j:Nat):(2 ^ k*(2*y+1)).testBit j=if j<k then false else if j=k then true else y.testBit (j-k-1):=by
 have h:=Nat.testBit_two_pow_mul_add (2*y+1) (b:=0) (i:=k) (Nat.two_pow_pos k) j
 rw[Nat.add_zero]at h
 rw[h]
 by_cases e:j<k
 ·rw[if_pos e,if_pos e]; exact Nat.zero_testBit _
 ·rw[if_neg e,if_neg e,bG3]
  by_cases e2:j=k
  ·rw[if_pos (by omega),if_pos e2]
  ·rw[if_neg (by omega),if_neg e2]
theorem bGh (k y j:Nat):(2 ^ k*(2*y+1)-1).testBit j=if j<k then true else if j=k then false else y.testBit (j-k-1):=by
 have hp:=Nat.two_pow_pos k
 have e:2 ^ k*(2*y+1)-1=2 ^ k*(2*y)+(2 ^ k-1):=by
  rw[Nat.mul_add,Nat.mul_one]; omega
 have h:=Nat.testBit_two_pow_mul_add (2*y) (b:=2 ^ k-1) (i:=k) (by omega) j
 rw[e,h]
 by_cases e:j<k
 ·rw[if_pos e,if_pos e,Nat.testBit_two_pow_sub_one]; simp[e]
 ·rw[if_neg e,if_neg e,bBw]
  by_cases e2:j=k
  ·rw[if_pos (by omega),if_pos e2]
  ·rw[if_neg (by omega),if_neg e2]
theorem bBy (k y:Nat)(hx:2 ^ k*(2*y+1)<2 ^ 64):(2 ^ k*(2*y+1)) &&& (2 ^ 64-2 ^ k*(2*y+1))=2 ^ k:=by
 have hp:=Nat.two_pow_pos k
 have hx0:0<2 ^ k*(2*y+1):=Nat.mul_pos hp (by omega)
 apply Nat.eq_of_testBit_eq
 intro j
 have h2:=Nat.testBit_two_pow_sub_succ (x:=2 ^ k*(2*y+1)-1) (n:=64) (by omega) j
 rw[show 2 ^ k*(2*y+1)-1+1=2 ^ k*(2*y+1) by omega]at h2
 have hk:k<64:=by
  rcases Nat.lt_or_ge k 64 with h|h
  ·exact h
  ·have h1:=Nat.pow_le_pow_right (n:=2) (by decide) h
   have h3:2 ^ k*1≤2 ^ k*(2*y+1):=Nat.mul_le_mul_left _ (by omega)
   omega
 rw[Nat.testBit_and,h2,bBx,bGh,Nat.testBit_two_pow]
 by_cases e:j<k
 ·rw[if_pos e,Bool.false_and]
  exact (decide_eq_false (by omega)).symm
 ·rw[if_neg e,if_neg e]
  by_cases e2:j=k
  ·subst e2; simp[hk]
  ·rw[if_neg e2,if_neg e2,decide_eq_false (show ¬k=j by omega)]
   cases y.testBit (j-k-1)<;>simp
theorem aKe {k y:Nat}(hx:2 ^ k*(2*y+1)<18446744073709551616):k<64:=by
 rcases Nat.lt_or_ge k 64 with h|h
 ·exact h
 ·have h1:=Nat.pow_le_pow_right (n:=2) (by decide) h
  have h3:2 ^ k*1≤2 ^ k*(2*y+1):=Nat.mul_le_mul_left _ (by omega)
  omega
theorem zC (k y j:Nat):((2 ^ k*(2*y+1)) &&& (2 ^ k*(2*y+1)-1)).testBit j=(decide (k<j)&&(2 ^ k*(2*y+1)).testBit j):=by
 rw[Nat.testBit_and,bBx,bGh]
 by_cases e:j<k
 ·rw[if_pos e,if_pos e]; simp
 ·rw[if_neg e,if_neg e]
  by_cases e2:j=k
  ·subst e2; simp
  ·rw[if_neg e2,if_neg e2,decide_eq_true (show k<j by omega)]; simp
theorem aUu {a b m:Nat}{W V:List Nat}{S:aA}(hm:m≤1000000)(hW:S[a]? = some (.cells 0 false (W.map uI)))(hV:S[b]? = some (.cells 0 false (V.map uI)))(hWl:W.length=m)(hVl:V.length=m)(x2 x4:TV):∀(k i:Nat) (x3 x7 x8:TV),i+k=m→(∀q,q<i→W.getD q 0=V.getD q 0) →
  ∃(jj:aU) (y2 y3 y6 y7 y8:TV),lp' (lim K) t79L0 [.msl a 0 0 m m 1,.msl b 0 0 m m 1,x2,x3,x4,.iv (.int .i64 m),.iv (.int .i64 i),x7,x8] S
   = .ret (jj,[.msl a 0 0 m m 1,.msl b 0 0 m m 1,y2,y3,x4,.iv (.int .i64 m),y6,y7,y8],S) ∧
   (jj=.exit 0∧(∀q,q<m→W.getD q 0=V.getD q 0)∨jj=.ret∧y2=.iv (.bool false)∧W≠V)
 | 0,i,x3,x7,x8,hk,hq=>by
  obtain rfl:i=m:=by omega
  refine⟨.exit 0,x2,x3,.iv (.int .i64 i),.iv (.bool false),x8,aF K _ _ t79L0.eq_1 ?_,.inl ⟨rfl,hq⟩⟩
  simp (config := { maxSteps := 4000000 }) (disch:=omega) only[go_sem]
 | k+1,i,x3,x7,x8,hk,hq=>by
  have him:i<m:=by omega
  have i1:=iH (j:=a) (v:=0) (cap:=m) him
  have i2:=iH (j:=b) (v:=0) (cap:=m) him
  have s1:=pH (W:=W) (i:=i) (by omega)
  have s2:=pH (W:=V) (i:=i) (by omega)
  have hW':=hW
  have hV':=hV
  simp only[uI]at s1 s2 hW' hV'
  by_cases e:W.getD i 0=V.getD i 0
  ·obtain⟨jj,y2,y3,y6,y7,y8,ih,hj⟩:=aUu hm hW hV hWl hVl x2 x4 k (i+1) (.iv (.int .i64 i)) (.iv (.bool true)) (.iv (.bool false)) (by omega) (fun q h1=>by
    rcases Nat.lt_or_ge q i with h2|h2
    ·exact hq q h2
    ·obtain rfl:q=i:=by omega
     exact e)
   rw[show ((i+1:Nat):Int)=(i:Int)+1 by omega]at ih
   refine⟨jj,y2,y3,y6,y7,y8,aF K _ _ t79L0.eq_1 ?_,hj⟩
   rw[e]at s1
   simp (config := { maxSteps := 4000000 }) (disch:=omega) only[go_sem,i1,i2,hW',hV',s1,s2,aD]
   exact congrArg er ih
  ·refine⟨.ret,.iv (.bool false),.iv (.int .i64 i),.iv (.int .i64 i),.iv (.bool true),.iv (.bool true),aF K _ _ t79L0.eq_1 ?_,.inr ⟨rfl,rfl,fun h=>e (by rw[h])⟩⟩
   have e':¬((W.getD i 0:Nat):Int)=((V.getD i 0:Nat):Int):=by omega
   simp (config := { maxSteps := 4000000 }) (disch:=omega) only[go_sem,i1,i2,hW',hV',s1,s2,e']
theorem bG4 {a b m:Nat}{W V:List Nat}{S:aA}(hm:m≤1000000)(hW:S[a]? = some (.cells 0 false (W.map uI)))(hV:S[b]? = some (.cells 0 false (V.map uI)))(hWl:W.length=m)(hVl:V.length=m) :
  (lim K).call 79 [.msl a 0 0 m m 1,.msl b 0 0 m m 1] S=.ret (.iv (.bool (decide (W=V))),S):=by
 obtain⟨jj,y2,y3,y6,y7,y8,l1,hj⟩:=aUu hm hW hV hWl hVl (.iv (.bool false)) (.iv (.bool false)) m 0 u_ u_ u_ (by omega) (fun q h=>by omega)
 rw[show ((0:Nat):Int)=0 from rfl]at l1
 rcases hj with⟨rfl,hj⟩|⟨rfl,rfl,hj⟩
 ·have e:W=V:=by
   apply List.ext_getElem (by omega)
   intro q h1 h2
   have:=hj q (by omega)
   simpa[List.getD,List.getElem?_eq_getElem h1,List.getElem?_eq_getElem h2] using this
  rw[decide_eq_true e]
  refine aP K _ (fn:=t79) rfl rfl ?_
  simp (config := { maxSteps := 4000000 }) (disch:=omega) only[t79,go_sem]
  rw[l1]
  simp (config := { maxSteps := 4000000 }) (disch:=omega) only[go_sem]
 ·rw[decide_eq_false hj]
  refine aP K _ (fn:=t79) rfl rfl ?_
  simp (config := { maxSteps := 4000000 }) (disch:=omega) only[t79,go_sem]
  rw[l1]
  simp (config := { maxSteps := 4000000 }) (disch:=omega) only[go_sem]
def dbm (k:Nat):Nat:=(2 ^ k*285870213051353865) % 18446744073709551616
def bJv:List Nat:=[0,1,56,2,57,49,28,3,61,58,42,50,38,29,17,4,62,47,59,36,45,43,51,22,53,39,33,30,24,18,12,5,63,55,48,27,60,41,37,16,46,35,44,21,52,32,23,11,54,26,40,15,34,20,31,10,25,14,19,9,13,8,7,6]
theorem bJw:g0=bJv.map fun n:Nat=>IV.int .u8 (n:Int):=rfl
theorem bBz (k:Nat)(hk:k<64):dbm k / 288230376151711744<64∧g0[dbm k / 288230376151711744]? = some (.int .u8 (k:Int)):=by
 have key:∀k<64,dbm k / 288230376151711744<64∧bJv[dbm k / 288230376151711744]? = some k:=by decide +kernel
 obtain⟨h1,h2⟩:=key k hk
 refine⟨h1,?_⟩
 rw[bJw,List.getElem?_map,h2]; rfl
theorem gl0 {i k:Nat}(hi:i<64)(h:g0[i]? = some (.int .u8 (k:Int))):∃p,ixA 64 1 (aXm (K.glob 0)) (.iv (.int .u64 (i:Int)))=some p∧∀env S,bO env S p 1=some [.iv (.int .u8 (k:Int))]:=by
 have hl:g0.length=64:=rfl
 have hk':i<g0.length:=by omega
 refine⟨.iv (.cp (g0.drop i)),?_,fun env S=>?_⟩
 ·rw[aPh,if_pos (by omega),Int.toNat_natCast,Nat.mul_one]
  show (if i≤g0.length then some (TV.iv (.cp (g0.drop i))) else none)=_
  rw[if_pos (by omega)]
 ·rw[aJq]
  unfold sub
  rw[if_pos (by rw[List.length_drop]; omega),List.drop_zero,List.drop_eq_getElem_cons hk']
  rw[List.getElem?_eq_getElem hk']at h
  rw[Option.some.inj h]
  rfl
theorem bG5 {k y:Nat}(hx:2 ^ k*(2*y+1)<18446744073709551616):TM.Pure K 80 [.iv (.int .u64 ((2 ^ k*(2*y+1):Nat):Int))] (.iv (.int .i64 (k:Int))):=by
 have hk:=aKe hx
 have hand:=bBy k y hx
 have hp:=Nat.two_pow_pos k
 have hx0:0<2 ^ k*(2*y+1):=Nat.mul_pos hp (by omega)
 obtain⟨d1,d2⟩:=bBz k hk
 obtain⟨p,f5,f6⟩:=gl0 d1 d2
 have hd:dbm k<18446744073709551616:=Nat.mod_lt _ (by decide)
 have f3:TM.binOp .mul (.iv (.int .u64 ((2 ^ k:Nat):Int))) (.iv (.int .u64 285870213051353865))=some (.int .u64 ((dbm k:Nat):Int)):=by
  rw[TM.aD5]
  congr 2
 generalize dbm k=D at *
 generalize hX:2 ^ k*(2*y+1)=X at *
 generalize (2 ^ k:Nat)=Z at *
 have f1:TM.unOp .neg (.iv (.int .u64 (X:Int)))=some (.int .u64 ((2 ^ 64-X:Nat):Int)):=by
  rw[aIt]
  congr 2
  show (0-(X:Int)) % 18446744073709551616=_
  omega
 have f2:TM.binOp .and (.iv (.int .u64 (X:Int))) (.iv (.int .u64 ((2 ^ 64-X:Nat):Int)))=some (.int .u64 ((Z:Nat):Int)):=by
  rw[TM.rG]
  congr 2
  have hZ:Z<18446744073709551616:=by rw[←hand]; exact Nat.lt_of_le_of_lt Nat.and_le_left hx
  show IntKind.u64.wrap ((((BitVec.ofInt 64 (X:Int)) &&& (BitVec.ofInt 64 ((2 ^ 64-X:Nat):Int))).toNat:Nat):Int)=_
  rw[BitVec.toNat_and,iW ⟨by omega,by norm_cast⟩,iW ⟨by omega,by omega⟩,Int.toNat_natCast,Int.toNat_natCast,hand,mJ (by omega)]
 have f4:TM.binOp .shr (.iv (.int .u64 ((D:Nat):Int))) (.iv (.int .u64 58))=some (.int .u64 ((D / 288230376151711744:Nat):Int)):=by
  rw[TM.wJ,if_neg (by decide)]
  congr 2
  show ((D:Nat):Int).fdiv 288230376151711744=_
  rw[Int.fdiv_eq_ediv_of_nonneg _ (by decide)]
  omega
 refine aH t80 rfl rfl ?_
 have hne:¬((X:Nat):Int)=0:=by omega
 simp (config := { maxSteps := 4000000 }) (disch:=omega) only[t80,go_sem,hne,f1,f2,f3,f4,f5,f6,aD]
def uV (n:Nat):IV:=.int .u64 (n:Int)
def iZ (x:Nat):List Int:=((List.range 64).filter x.testBit).map fun n:Nat=>(n:Int)
theorem lT (x:Nat)(v:Int):v∈iZ x↔∃n:Nat,v=n∧n<64∧x.testBit n=true:=by
 simp only[iZ,List.mem_map,List.mem_filter,List.mem_range]
 constructor
 ·rintro⟨n,⟨h1,h2⟩,rfl⟩; exact⟨n,rfl,h1,h2⟩
 ·rintro⟨n,rfl,h1,h2⟩; exact⟨n,⟨h1,h2⟩,rfl⟩
theorem sE (x:Nat):(iZ x).Pairwise (·<·):=by
 refine List.Pairwise.map _ (R:=(·<·)) (fun a b h=>by omega) (List.Pairwise.filter _ List.pairwise_lt_range)
theorem aKf:iZ 0=[]:=by
 unfold iZ
 rw[List.filter_eq_nil_iff.2]
 ·rfl
 ·intro a _; simp
theorem aP1 {k y:Nat}(hx:2 ^ k*(2*y+1)<18446744073709551616):iZ (2 ^ k*(2*y+1))=(k:Int)::iZ ((2 ^ k*(2*y+1)) &&& (2 ^ k*(2*y+1)-1)):=by
 have hk:=aKe hx
 refine iV (sE _) ?_ fun v=>?_
 ·rw[List.pairwise_cons]
  refine⟨fun a ha=>?_,sE _⟩
  obtain⟨n,rfl,h1,h2⟩:=(lT _ _).1 ha
  rw[zC]at h2
  simp only[Bool.and_eq_true,decide_eq_true_eq]at h2
  omega
 ·rw[List.mem_cons,lT,lT]
  constructor
  ·rintro⟨n,rfl,h1,h2⟩
   rcases Nat.lt_trichotomy n k with h|h|h
   ·rw[bBx,if_pos h]at h2; cases h2
   ·exact .inl (by omega)
   ·refine .inr ⟨n,rfl,h1,?_⟩
    rw[zC,h2,decide_eq_true h]; rfl
  ·rintro (rfl|⟨n,rfl,h1,h2⟩)
   ·exact⟨k,rfl,hk,by rw[bBx,if_neg (by omega),if_pos rfl]⟩
   ·rw[zC]at h2
    simp only[Bool.and_eq_true]at h2
    exact⟨n,rfl,h1,h2.2⟩
theorem aN1 {k:Nat}(hk:k≤100000)(x0 x4 x5 x6 x7:TV):∀(n x:Nat) (out:List Int) (x8:TV),x≤n→x<18446744073709551616→out.length+(iZ x).length≤7000000 →
  ∃y8:TV,lp' (lim K) t58L0 [x0,acc 0 (aT out),.iv (.int .i64 k),.iv (.int .u64 x),x4,x5,x6,x7,x8] (nU 1 3 (aT out))
   = .ret (.exit 2,[x0,acc 0 (aT (out++(iZ x).map fun v=>64*(k:Int)+v)),.iv (.int .i64 k),.iv (.int .u64 0),x4,x5,x6,x7,y8],nU 1 3 (aT (out++(iZ x).map fun v=>64*(k:Int)+v)))
 | n,x,out,x8,hn,hx,ho=>by
  by_cases h0:x=0
  ·subst h0
   rw[aKf,List.map_nil,List.append_nil]
   refine⟨.iv (.bool false),aF K _ _ t58L0.eq_1 ?_⟩
   simp (config := { maxSteps := 4000000 }) (disch:=omega) only[go_sem,Int.natCast_zero]
  ·obtain⟨q,y,e⟩:=bBv x h0
   have hb:=aP1 (k:=q) (y:=y) (by rw[←e]; exact hx)
   have c51:=bG5 (k:=q) (y:=y) (by rw[←e]; exact hx)
   have hq:=aKe (k:=q) (y:=y) (by rw[←e]; exact hx)
   rw[←e]at hb c51
   have hlt:x &&& (x-1)≤x-1:=Nat.and_le_right
   match n,hn with
   | 0,hn=>omega
   | n+1,hn =>
    have hbl:(iZ x).length=(iZ (x &&& (x-1))).length+1:=by rw[hb,List.length_cons]
    obtain⟨y8,ih⟩:=aN1 hk x0 x4 x5 x6 x7 n (x &&& (x-1)) (out++[64*(k:Int)+q]) (.iv (.bool true)) (by omega) (by omega) (by rw[List.length_append,List.length_singleton]; omega)
    have ha:=yM (l:=out) (ys:=[64*(k:Int)+q]) (t:=.full) (by simp; omega)
    rw[show aT [64*(k:Int)+q]=[[.int .i64 (64*(k:Int)+q)]] from rfl]at ha
    have f1:TM.binOp .sub (.iv (.int .u64 (x:Int))) (.iv (.int .u64 1))=some (.int .u64 ((x-1:Nat):Int)):=by
     rw[TM.aD4]
     congr 2
     rw[mJ (by omega)]; omega
    have f2:TM.binOp .and (.iv (.int .u64 (x:Int))) (.iv (.int .u64 ((x-1:Nat):Int)))=some (.int .u64 ((x &&& (x-1):Nat):Int)):=by
     rw[TM.rG]
     congr 2
     show IntKind.u64.wrap ((((BitVec.ofInt 64 (x:Int)) &&& (BitVec.ofInt 64 ((x-1:Nat):Int))).toNat:Nat):Int)=_
     rw[BitVec.toNat_and,iW ⟨by omega,by omega⟩,iW ⟨by omega,by omega⟩,Int.toNat_natCast,Int.toNat_natCast,mJ (by omega)]
    rw[hb,List.map_cons]
    rw[List.append_assoc,List.singleton_append]at ih
    refine⟨y8,aF K _ _ t58L0.eq_1 ?_⟩
    have hne:¬(x:Int)=0:=by omega
    generalize hO:(out++((64*(k:Int)+q)::(iZ (x &&& (x-1))).map fun v:Int=>64*(k:Int)+v))=O at *
    generalize hP:out++[64*(k:Int)+q]=P at *
    simp (config := { maxSteps := 4000000 }) (disch:=omega) only[go_sem,hne,aB c51,aD,ha,f1,f2]
    exact congrArg er ih
def wlI:Nat→List Nat→List Int
 | _,[]=>[]
 | k,x::r=>(iZ x).map (fun v:Int=>64*(k:Int)+v)++wlI (k+1) r
theorem aCx (x:Nat):(iZ x).length≤64:=by
 unfold iZ
 rw[List.length_map]
 exact Nat.le_trans (List.length_filter_le _ _) (by simp)
theorem aN2:∀(k:Nat) (W:List Nat),(wlI k W).length≤64*W.length
 | _,[]=>by simp[wlI]
 | k,x::r=>by
  have h1:=aN2 (k+1) r
  have h2:=aCx x
  rw[wlI,List.length_append,List.length_map,List.length_cons]; omega
theorem aEn:∀(k:Nat) (W:List Nat) (v:Int),v∈wlI k W↔∃(i n:Nat),v=64*((k+i:Nat):Int)+n∧n<64∧(W.getD i 0).testBit n=true
 | k,[],v=>by simp[wlI,List.getD]
 | k,x::r,v=>by
  rw[wlI,List.mem_append,aEn (k+1) r v,List.mem_map]
  constructor
  ·rintro (⟨b,hb,rfl⟩|⟨i,n,rfl,h1,h2⟩)
   ·obtain⟨n,rfl,h1,h2⟩:=(lT _ _).1 hb
    exact⟨0,n,by simp,h1,by simpa[List.getD] using h2⟩
   ·exact⟨i+1,n,by omega,h1,by simpa[List.getD] using h2⟩
  ·rintro⟨i,n,rfl,h1,h2⟩
   cases i with
   | zero=>exact .inl ⟨n,(lT _ _).2 ⟨n,rfl,h1,by simpa[List.getD] using h2⟩,by simp⟩
   | succ i=>exact .inr ⟨i,n,by omega,h1,by simpa[List.getD] using h2⟩
theorem zD:∀(k:Nat) (W:List Nat),(wlI k W).Pairwise (·<·)
 | _,[]=>by simp[wlI]
 | k,x::r=>by
  rw[wlI,List.pairwise_append]
  refine⟨List.Pairwise.map _ (fun a b h=>by omega) (sE x),zD (k+1) r,fun a ha b hb=>?_⟩
  obtain⟨c,hc,rfl⟩:=List.mem_map.1 ha
  obtain⟨n,rfl,h1,h2⟩:=(lT _ _).1 hc
  obtain⟨i,m,rfl,h3,h4⟩:=(aEn _ _ _).1 hb
  omega
theorem aEo (W:List Nat)(v:Int):v∈wlI 0 W↔∃n:Nat,v=n∧bit W n=true:=by
 rw[aEn]
 constructor
 ·rintro⟨i,n,rfl,h1,h2⟩
  refine⟨64*i+n,by omega,?_⟩
  unfold bit
  rw[show (64*i+n) / 64=i by omega,show (64*i+n) % 64=n by omega]
  exact h2
 ·rintro⟨n,rfl,h⟩
  exact⟨n / 64,n % 64,by omega,Nat.mod_lt _ (by decide),h⟩
theorem aN3 (t:Tag)(W:List Nat)(hW:∀x∈W,x<18446744073709551616)(hl:W.length≤100000):∀(k i:Nat) (out:List Int) (x2 x3 x7 x8:TV),i+k=W.length→out.length≤64*i →
  ∃(y2 y3 y7 y8:TV),lp' (lim K) t58L1 [.iv (.sl t (TM.one uV W)),acc 0 (aT out),x2,x3,.iv (.sl t (TM.one uV W)),.iv (.int .i64 W.length),.iv (.int .i64 i),x7,x8] (nU 1 3 (aT out))
   = .ret (.exit 0,[.iv (.sl t (TM.one uV W)),acc 0 (aT (out++wlI i (W.drop i))),y2,y3,.iv (.sl t (TM.one uV W)),.iv (.int .i64 W.length),.iv (.int .i64 W.length),y7,y8],nU 1 3 (aT (out++wlI i (W.drop i))))
 | 0,i,out,x2,x3,x7,x8,hk,ho=>by
  obtain rfl:i=W.length:=by omega
  rw[List.drop_length,wlI,List.append_nil]
  refine⟨x2,x3,.iv (.bool false),x8,aF K _ _ t58L1.eq_1 ?_⟩
  simp (config := { maxSteps := 4000000 }) (disch:=omega) only[go_sem]
 | k+1,i,out,x2,x3,x7,x8,hk,ho=>by
  have hla:i<W.length:=by omega
  have hix:=jZ (f:=uV) (t:=t) (l:=W) (i:=(i:Int)) (by omega)
  rw[Int.toNat_natCast]at hix
  have hdr:=eX hla
  have hx:W.getD i default<18446744073709551616:=hW _ (by simp only[List.getD,List.getElem?_eq_getElem hla,Option.getD_some]; exact List.getElem_mem _)
  generalize W.getD i default=x at *
  have hbl:=aCx x
  obtain⟨y8,l1⟩:=aN1 (k:=i) (by omega) (.iv (.sl t (TM.one uV W))) (.iv (.sl t (TM.one uV W))) (.iv (.int .i64 W.length)) (.iv (.int .i64 i)) (.iv (.bool true)) x x out x8 (Nat.le_refl _) hx (by omega)
  obtain⟨z2,z3,z7,z8,ih⟩:=aN3 t W hW hl k (i+1) (out++(iZ x).map fun v:Int=>64*(i:Int)+v) (.iv (.int .i64 i)) (.iv (.int .u64 0)) (.iv (.bool true)) y8 (by omega) (by rw[List.length_append,List.length_map]; omega)
  rw[hdr,wlI]
  rw[List.append_assoc,show ((i+1:Nat):Int)=(i:Int)+1 by omega]at ih
  refine⟨z2,z3,z7,z8,aF K _ _ t58L1.eq_1 ?_⟩
  generalize hO:out++((iZ x).map (fun v:Int=>64*(i:Int)+v)++wlI (i+1) (W.drop (i+1)))=O at *
  generalize hP:out++(iZ x).map (fun v:Int=>64*(i:Int)+v)=P at *
  rw[show uV x=IV.int .u64 (x:Int) from rfl]at hix
  simp (config := { maxSteps := 4000000 }) (disch:=omega) only[go_sem,hix]
  rw[l1]
  simp (config := { maxSteps := 4000000 }) (disch:=omega) only[go_sem,aD]
  exact congrArg er ih
theorem bG6 (t:Tag)(W:List Nat)(hW:∀x∈W,x<18446744073709551616)(hl:W.length≤100000):TM.Pure K 58 [.iv (.sl t (TM.one uV W))] (.iv (.sl (mM (aT (wlI 0 W))) (TM.one (.int .i64) (wlI 0 W)))):=by
 obtain⟨y2,y3,y7,y8,l1⟩:=aN3 t W hW hl W.length 0 [] u_ u_ u_ u_ (by omega) (by simp)
 rw[List.drop_zero,List.nil_append,show ((0:Nat):Int)=0 from rfl,show nU 1 3 (aT [])=[] from rfl,show acc 0 (aT [])=.iv (.sl .nil []) from rfl]at l1
 refine TM.cV (S:=nU 1 3 (aT (wlI 0 W))) (r:=acc 0 (aT (wlI 0 W))) (aP K _ (fn:=t58) rfl rfl ?_) (qN _ _ _)
 simp (config := { maxSteps := 4000000 }) (disch:=omega) only[t58,go_sem]
 rw[l1]
 simp (config := { maxSteps := 4000000 }) (disch:=omega) only[go_sem]
def cF (n:Nat)(f:Nat→TV):List TV:=(List.range n).map f
def upd {α:Type}(f:Nat→α)(i:Nat)(x:α):Nat→α:=fun j=>if j=i then x else f j
theorem bW {α:Type}(f:Nat→α)(i:Nat)(x:α):upd f i x i=x:=by simp[upd]
theorem dU {α:Type}(f:Nat→α){i j:Nat}(x:α)(h:j≠i):upd f i x j=f j:=by simp[upd,h]
theorem nY (n:Nat)(f:Nat→TV):(cF n f).length=n:=by simp[cF]
theorem nZ {n i:Nat}(f:Nat→TV)(h:i<n):sub (cF n f) i 1=some [f i]:=by
 simp only[sub,nY,show i+1≤n by omega,↓reduceIte]
 rw[List.drop_eq_getElem_cons (by rw[nY]; exact h)]
 simp[cF]
theorem vM {n i:Nat}(f:Nat→TV)(x:TV)(h:i<n):put (cF n f) i [x]=cF n (upd f i x):=by
 simp only[put,cF]
 apply List.ext_getElem
 ·simp; omega
 ·intro j h1 h2
  simp at h1 h2
  rcases Nat.lt_trichotomy j i with h3|h3|h3
  ·rw[List.getElem_append_left (by simp; omega),List.getElem_append_left (by simp; omega)]
   simp[upd,show ¬j=i by omega]
  ·subst h3
   rw[List.getElem_append_left (by simp; omega),List.getElem_append_right (by simp; omega)]
   simp[upd]
  ·rw[List.getElem_append_right (by simp; omega)]
   have e:i+1+(j-(min i n+1))=j:=by omega
   simp[upd,show ¬j=i by omega,e]
attribute [go_sem] nY
theorem gN0 (S:aA)(a:aG)(r:aA):(S++a::r)[S.length]? = some a:=by simp
theorem gN1 (S:aA)(a b:aG)(r:aA):(S++a::b::r)[S.length+1]? = some b:=by rw[List.getElem?_append_right (by omega)]; simp
theorem gN2 (S:aA)(a b c:aG)(r:aA):(S++a::b::c::r)[S.length+2]? = some c:=by rw[List.getElem?_append_right (by omega)]; simp
theorem gN3 (S:aA)(a b c d:aG)(r:aA):(S++a::b::c::d::r)[S.length+3]? = some d:=by rw[List.getElem?_append_right (by omega)]; simp
theorem gN4 (S:aA)(a b c d e:aG)(r:aA):(S++a::b::c::d::e::r)[S.length+4]? = some e:=by rw[List.getElem?_append_right (by omega)]; simp
theorem gN5 (S:aA)(a b c d e f:aG)(r:aA):(S++a::b::c::d::e::f::r)[S.length+5]? = some f:=by rw[List.getElem?_append_right (by omega)]; simp
theorem gN6 (S:aA)(a b c d e f g:aG)(r:aA):(S++a::b::c::d::e::f::g::r)[S.length+6]? = some g:=by rw[List.getElem?_append_right (by omega)]; simp
theorem gN7 (S:aA)(a b c d e f g h:aG)(r:aA):(S++a::b::c::d::e::f::g::h::r)[S.length+7]? = some h:=by rw[List.getElem?_append_right (by omega)]; simp
theorem sN1 (S:aA)(a b x:aG)(r:aA):(S++a::b::r).set (S.length+1) x=S++a::x::r:=by rw[List.set_append_right _ _ (by omega)]; simp
theorem sN2 (S:aA)(a b c x:aG)(r:aA):(S++a::b::c::r).set (S.length+2) x=S++a::b::x::r:=by rw[List.set_append_right _ _ (by omega)]; simp
theorem sN5 (S:aA)(a b c d e f x:aG)(r:aA):(S++a::b::c::d::e::f::r).set (S.length+5) x=S++a::b::c::d::e::x::r:=by rw[List.set_append_right _ _ (by omega)]; simp
theorem sN6 (S:aA)(a b c d e f g x:aG)(r:aA):(S++a::b::c::d::e::f::g::r).set (S.length+6) x=S++a::b::c::d::e::f::x::r:=by rw[List.set_append_right _ _ (by omega)]; simp
theorem sN7 (S:aA)(a b c d e f g h x:aG)(r:aA):(S++a::b::c::d::e::f::g::h::r).set (S.length+7) x=S++a::b::c::d::e::f::g::x::r:=by rw[List.set_append_right _ _ (by omega)]; simp
attribute [go_sem] gN0 gN1 gN2 gN3 gN4 gN5 gN6 gN7 sN1 sN2 sN5 sN6 sN7
structure VF where
 fn:Int
 regs:Nat
 sl:Int
 nd:Int
 pr:Int
 rs:Bool
 ti:Tag
 ins:List VI
def sF (f:VF):List IV:=[.int .i64 f.fn,.int .i64 f.regs,.int .i64 f.sl,.int .i64 f.nd,.int .i64 f.pr,.bool f.rs,.sl f.ti (f.ins.map aK)]
structure RS (S:aA) (j n m:Nat) (ia:Nat→Nat) (I:Nat→List Nat):Prop where
 row:S[j]? = some (.cells 0 false (cF n fun i=>.msl (ia i) 0 0 m m 1))
 ge:∀i,i<n→6≤ia i
 set:∀i,i<n→S[ia i]? = some (.cells 0 false ((I i).map uI))
 ok:∀i,i<n→WOK m (I i)
structure FlS (S:aA) (f:VF) (lb:List (Nat×Int×Int)) (n m:Nat) (ia oa:Nat→Nat) (I O:Nat→List Nat):Prop where
 lab:∃c,S[0]? = some (.mp (mpR vC lb) c)
 inn:RS S 1 n m ia I
 out:RS S 2 n m oa O
 flw:S[3]? = some (.cells 76 false [.iv (.int .i64 f.fn),.iv (.int .i64 f.regs),.iv (.int .i64 f.sl),.iv (.int .i64 f.nd),.iv (.int .i64 f.pr),.iv (.bool f.rs),.iv (.sl f.ti (f.ins.map aK)),.map 0,.msl 1 0 0 n n 1,.msl 2 0 0 n n 1])
 len:6≤S.length
theorem aN4 {S0:aA}{f:VF}{lb:List (Nat×Int×Int)}{n m:Nat}{ia oa:Nat→Nat}{I O:Nat→List Nat}(hF:FlS S0 f lb n m ia oa I O)(hm:m≤100000)(hn:n≤1000000){kk:Nat}(hkk:kk<n)(R:aA)(x0 x1 x2 x3 x5 x9 x10 x11 x12 x13 x17 x18 x19:TV):∀(k i:Nat) (W:List Nat) (x8 x16:TV),i+k=m→WOK m W →
  ∃(W':List Nat) (y8 y16:TV),lp' (lim K) t57L1 [x0,x1,x2,x3,.ptr S0.length 69 0,x5,.ptr (S0.length+2) 104 0,.iv (.int .i64 kk),x8,x9,x10,x11,x12,x13,.iv (.int .i64 m),.iv (.int .i64 i),x16,x17,x18,x19] (S0++.cells 69 false [.ptr 3 76 0]::.cells 0 false (W.map uI)::.cells 104 false [.msl (S0.length+1) 0 0 m m 1]::R)
   = .ret (.exit 2,[x0,x1,x2,x3,.ptr S0.length 69 0,x5,.ptr (S0.length+2) 104 0,.iv (.int .i64 kk),y8,x9,x10,x11,x12,x13,.iv (.int .i64 m),.iv (.int .i64 m),y16,x17,x18,x19],S0++.cells 69 false [.ptr 3 76 0]::.cells 0 false (W'.map uI)::.cells 104 false [.msl (S0.length+1) 0 0 m m 1]::R) ∧
   WOK m W'∧∀q,W'.getD q 0=if i≤q∧q<m then W.getD q 0 ||| (I kk).getD q 0 else W.getD q 0
 | 0,i,W,x8,x16,hk,hW=>by
  obtain rfl:i=m:=by omega
  refine⟨W,x8,.iv (.bool false),aF K _ _ t57L1.eq_1 ?_,hW,fun q=>by rw[if_neg (by omega)]⟩
  simp (config := { maxSteps := 4000000 }) (disch:=omega) only[go_sem]
 | k+1,i,W,x8,x16,hk,hW=>by
  have him:i<m:=by omega
  have hV:=hF.inn.ok kk hkk
  have i1:=iH (j:=S0.length+1) (v:=0) (cap:=m) him
  have i2:=iH (j:=1) (v:=0) (cap:=n) hkk
  have i3:=iH (j:=ia kk) (v:=0) (cap:=m) him
  have s1:=pH (W:=W) (i:=i) (by rw[hW.len]; exact him)
  have s2:=nZ (fun i=>TV.msl (ia i) 0 0 m m 1) hkk
  have s3:=pH (W:=I kk) (i:=i) (by rw[hV.len]; exact him)
  have g1:=fun L=>aX hF.inn.row L
  have g2:=fun L=>aX (hF.inn.set kk hkk) L
  have g3:=fun L=>aX hF.flw L
  have e4:=aKa (hW.get i) (hV.get i)
  have hor:=aEm (hW.get i) (hV.get i)
  have p1:=aJ9 (W:=W) (i:=i) (W.getD i 0 ||| (I kk).getD i 0) (by rw[hW.len]; exact him)
  have hbb:i+1≤(W.map uI).length:=by rw[List.length_map,hW.len]; omega
  obtain⟨W',y8,y16,ih,hW',hb⟩:=aN4 hF hm hn hkk R x0 x1 x2 x3 x5 x9 x10 x11 x12 x13 x17 x18 x19 k (i+1) (W.set i (W.getD i 0 ||| (I kk).getD i 0)) (.iv (.int .i64 i)) (.iv (.bool true)) (by omega) (hW.set i _ hor)
  rw[show ((i+1:Nat):Int)=(i:Int)+1 by omega]at ih
  simp only[uI]at s1 s3 p1 g2 hbb
  refine⟨W',y8,y16,aF K _ _ t57L1.eq_1 ?_,hW',fun q=>?_⟩
  ·generalize hA:W.getD i 0=A at *
   generalize hB:(I kk).getD i 0=B at *
   generalize hC:A ||| B=C at *
   simp (config := { maxSteps := 4000000 }) (disch:=omega) only[go_sem,i1,i2,i3,s1,s2,s3,g1,g2,g3,e4,p1,hbb,aD]
   exact congrArg er ih
  ·rw[hb q,zA (by rw[hW.len]; exact him)]
   by_cases e:q=i
   ·subst e; rw[if_neg (by omega),if_pos rfl,if_pos (by omega)]
   ·rw[if_neg e]
    by_cases e2:i+1≤q∧q<m
    ·rw[if_pos e2,if_pos (by omega)]
    ·rw[if_neg e2,if_neg (by omega)]
theorem bJx (a:TV):TM.bJ [[a]]=[a]:=rfl
theorem bJy (a b:TV):TM.bJ [[a],[b]]=[a,b]:=rfl
theorem bJz (a b c:TV):TM.bJ [[a],[b],[c]]=[a,b,c]:=rfl
attribute [go_sem] bJx bJy bJz
theorem bG7 (l:List Int):(l.map vI).any bG=false:=by
 rw[List.any_eq_false]
 intro x hx
 obtain⟨m,_,rfl⟩:=List.mem_map.1 hx
 simp[vI,bG]
theorem aUv {S:aA}{j v:Nat}{b:Bool}{C:List Int}{J:List TV}(h:S[j]? = some (.cells v b (C.map vI++J)))(cap:Nat):cG S (.msl j v 0 C.length cap 1)=some (TM.one (.int .i64) C):=by
 have e1:sub (C.map vI++J) 0 (C.length*1)=some (C.map vI):=by
  simp[sub,List.take_append]
 have e2:toIVs (C.map vI)=some (C.map (IV.int .i64)):=by
  have:C.map vI=(C.map (IV.int .i64)).map .iv:=by rw[List.map_map]; rfl
  rw[this,iA]
 have e3:∀L:List Int,cK 1 L.length (L.map (IV.int .i64))=TM.one (.int .i64) L:=by
  intro L
  induction L with
  | nil=>rfl
  | cons a r ih=>simp only[List.map_cons,List.length_cons,cK,List.take_succ_cons,List.take_zero,List.drop_succ_cons,List.drop_zero,ih]; rfl
 simp only[cG,h,ne_eq,not_true_eq_false,↓reduceIte,e1,e2,Option.map_some,e3]
theorem jP {S:aA}{j v:Nat}{b:Bool}{C:List Int}{J:List TV}(h:S[j]? = some (.cells v b (C.map vI++J)))(cap:Nat):TM.resolve S (.msl j v 0 C.length cap 1)=some (.iv (.sl .no (TM.one (.int .i64) C))):=by
 show (match cG S (.msl j v 0 C.length cap 1) with|some l=>some (IV.sl .no l)|none=>none).map TV.iv=_
 rw[aUv h]; rfl
theorem aCy {α:Type}(l:List α):bN .no l:=fun h=>by cases h
theorem aUw {S:aA}{j v:Nat}{C:List Int}(mu:Bool)(r:Int)(h:S[j]? = some (.cells v true (C.map vI)))(hl:C.length≤1000000)(t:Tag) :
  bI mu 1 8 3 S (.msl j v 0 C.length C.length 1) (.iv (.sl t [[.int .i64 r]]))=some (.msl j (v+1) 0 (C.length+1) (C.length+1) 1,S.set j (.cells (v+1) true ((C++[r]).map vI))):=by
 have hs:sub (C.map vI) 0 C.length=some (C.map vI):=lS (by simp)
 have hr:dZ (C.length+1) 8=true:=cX (by omega)
 have hx:fR S (.iv (.sl t [[.int .i64 r]]))=some [vI r]:=rfl
 have hlo:lenOf S (.iv (.sl t [[.int .i64 r]]))=some 1:=rfl
 have hn:bG (vI r)=false:=rfl
 simp[bI,hx,hlo,h,hn,hr,hs,show ¬C.length+1≤C.length by omega]
theorem bB0 {S:aA}{j v:Nat}{C:List Int}(mu:Bool)(r:Int)(h:S[j]? = some (.cells v false (C.map vI)))(hl:C.length≤1000000)(t:Tag) :
  bI mu 1 8 3 S (.msl j v 0 C.length C.length 1) (.iv (.sl t [[.int .i64 r]]))=some (.msl S.length 0 0 (C.length+1) (C.length+1) 1,S++[.cells 0 true ((C++[r]).map vI)]):=by
 have hs:sub (C.map vI) 0 C.length=some (C.map vI):=lS (by simp)
 have hr:dZ (C.length+1) 8=true:=cX (by omega)
 have hx:fR S (.iv (.sl t [[.int .i64 r]]))=some [vI r]:=rfl
 have hlo:lenOf S (.iv (.sl t [[.int .i64 r]]))=some 1:=rfl
 have hn:bG (vI r)=false:=rfl
 simp[bI,hx,hlo,h,hn,hr,hs,show ¬C.length+1≤C.length by omega]
theorem aUx {S:aA}(r:Int){t0:Tag}(h0:t0≠.no)(t:Tag) :
  bI true 1 8 3 S (.iv (.sl t0 [])) (.iv (.sl t [[.int .i64 r]]))=some (.msl S.length 0 0 1 1 1,S++[.cells 0 true [vI r]]):=by
 have hr:dZ 1 8=true:=cX (by omega)
 have hx:fR S (.iv (.sl t [[.int .i64 r]]))=some [vI r]:=rfl
 have hlo:lenOf S (.iv (.sl t [[.int .i64 r]]))=some 1:=rfl
 have hn:bG (vI r)=false:=rfl
 cases t0<;>simp_all[bI,nN,bJ]
theorem bB1 {S:aA}{t:Tag}{l:List Int}(h0:l≠[])(hl:l.length≤1000000):bI true 1 8 3 S (.iv (.sl .full [])) (.iv (.sl t (TM.one (.int .i64) l)))=some (.msl S.length 0 0 l.length l.length 1,S++[.cells 0 true (l.map vI)]):=by
 have e1:fR S (.iv (.sl t (TM.one (.int .i64) l)))=some ((l.map (IV.int .i64)).map .iv):=by rw[(vB.sl S t (TM.one (.int .i64) l)).1,aGi]
 have e2:lenOf S (.iv (.sl t (TM.one (.int .i64) l)))=some l.length:=by rw[(vB.sl S t (TM.one (.int .i64) l)).2,TM.iT]
 have e5:(l.map (IV.int .i64)).map TV.iv=l.map vI:=by rw[List.map_map]; rfl
 have e3:=bG7 l
 have e4:l.length≠0:=by intro h; exact h0 (List.length_eq_zero_iff.1 h)
 have hr:dZ l.length 8=true:=cX (by omega)
 rw[e5]at e1
 simp[bI,e1,e2,e3,e4,hr,bJ,nN]
theorem bB2 {S:aA}{t:Tag}:bI true 1 8 3 S (.iv (.sl .full [])) (.iv (.sl t []))=some (.iv (.sl .full []),S):=by
 simp[bI,fR,lenOf,bJ,aKx]
theorem bB3 (l:List (List IV)):eqB .sl (.iv (.sl .nil l)) (.iv (.sl .nil []))=some true:=id rfl
theorem bB4 (l:List (List IV)):eqB .sl (.iv (.sl .full l)) (.iv (.sl .nil []))=some false:=id rfl
theorem bB5 (l:List (List IV)):eqB .sl (.iv (.sl .no l)) (.iv (.sl .nil []))=some false:=id rfl
theorem bG8 (t:Tag)(l:List Int)(ht:bN t l)(hl:l.length≤1000000)(S:aA) :
  (l=[]∧∃t',t'≠.no∧(lim K).call 77 [.iv (.sl t (TM.one (.int .i64) l))] S=.ret (.iv (.sl t' []),S)) ∨
  (l≠[]∧(lim K).call 77 [.iv (.sl t (TM.one (.int .i64) l))] S=.ret (.msl S.length 0 0 l.length l.length 1,S++[.cells 0 true (l.map vI)])):=by
 by_cases hn:t=.nil
 ·subst hn
  obtain rfl:=ht rfl
  refine .inl ⟨rfl,.nil,by decide,aP K S (fn:=t77) rfl rfl ?_⟩
  simp (config := { maxSteps := 4000000 }) (disch:=omega) only[t77,go_sem,bB3]
 ·have hq:eqB .sl (.iv (.sl t (TM.one (.int .i64) l))) (.iv (.sl .nil []))=some false:=by
   cases t with
   | nil=>exact absurd rfl hn
   | full=>exact bB4 _
   | no=>exact bB5 _
  by_cases h0:l=[]
  ·subst h0
   refine .inl ⟨rfl,.full,by decide,aP K S (fn:=t77) rfl rfl ?_⟩
   rw[tC]at *
   simp (config := { maxSteps := 4000000 }) (disch:=omega) only[t77,go_sem,hq,bB2]
  ·refine .inr ⟨h0,aP K S (fn:=t77) rfl rfl ?_⟩
   have:=bB1 (S:=S) (t:=t) h0 hl
   simp (config := { maxSteps := 4000000 }) (disch:=omega) only[t77,go_sem,hq,this]
theorem zE (x:Int):TM.Pure K 76 [.iv (.int .i64 x)] (.iv (.bool (decide (26≤x∧x≤31)))):=by
 refine aH t76 rfl rfl ?_
 rcases (by omega:x<26∨(26≤x∧x≤31)∨31<x) with h|h|h<;>simp (config := { maxSteps := 4000000 }) (disch:=omega) only[t76,go_sem]
theorem bB6 (v:VI)(h:(1≤v.op∧v.op≤14)∨v.op=25∨(26≤v.op∧v.op≤31)):∃t',bN t' (bV v)∧TM.Pure K 56 [.iv (.agg (aK v))] (.iv (.sl t' (TM.one (.int .i64) (bV v)))):=by
 have hM:bV v=tdy [v.a,v.b]:=by unfold bV; rw[if_pos (by omega)]
 rw[hM]
 have h0:([.cells 0 false [vI v.a,vI v.b]]:aA)[0]? = some (.cells 0 false ([v.a,v.b].map vI++[])):=rfl
 obtain⟨J,c22⟩:=vL (by simp) (cap:=2) (by simp) h0 (fV [v.a,v.b])
 have c21:=zE v.op
 refine⟨.no,aCy _,cV (S:=[.cells 0 false ((tdy [v.a,v.b]).map vI++J)]) (aP K _ (fn:=t56) rfl rfl ?_) (jP (j:=0) (v:=0) (b:=false) (J:=J) rfl 2)⟩
 simp only[vI,List.length_cons,List.length_nil,List.set_cons_zero,Nat.zero_add,Nat.reduceAdd]at c22
 rcases h with h|h|h
 ·simp (config := { maxSteps := 4000000 }) (disch:=omega) only[t56,go_sem,aK,List.map_cons,List.map_nil,c22]
 ·simp (config := { maxSteps := 4000000 }) (disch:=omega) only[t56,go_sem,aK,List.map_cons,List.map_nil,c22]
 ·rw[decide_eq_true h]at c21
  simp (config := { maxSteps := 4000000 }) (disch:=omega) only[t56,go_sem,aK,List.map_cons,List.map_nil,c22,aB c21]
def rA:aJ:=(.region [⟨.mov (.loc 13),(some 7),none⟩])
def rB:aJ:=(.block 1
    (.seq (.region [⟨.load1 (.loc 6),none,none⟩,⟨.len .sl (.reg 0),(some 14),none⟩,⟨.mov (.cst (.int .i64 0)),(some 15),none⟩])
    (.block 2
     (.loop t57L1))))
def rE (N:Nat)(x0 x1 x2 x3 x5 x7 x8 x9 x10 x11 x12 x13 x14 x15 x16 x17 x18 x19:TV):Env:=[x0,x1,x2,x3,.ptr N 69 0,x5,.ptr (N+2) 104 0,x7,x8,x9,x10,x11,x12,x13,x14,x15,x16,x17,x18,x19]
def gS (S0:aA)(m:Nat)(W:List Nat)(b3 b4 Z:aG)(R:aA):aA:=S0++.cells 69 false [.ptr 3 76 0]::.cells 0 false (W.map uI)::.cells 104 false [.msl (S0.length+1) 0 0 m m 1]::b3::b4::Z::R
theorem bG9 {m:Nat}{W V W':List Nat}(hW:WOK m W)(hV:WOK m V)(h:∀q,W'.getD q 0=if 0≤q∧q<m then W.getD q 0 ||| V.getD q 0 else W.getD q 0)(r:Nat):bit W' r=(bit W r||bit V r):=by
 unfold bit
 rw[h]
 by_cases e:r / 64<m
 ·rw[if_pos ⟨Nat.zero_le _,e⟩,Nat.testBit_or]
 ·rw[if_neg (by omega)]
  have:V.getD (r / 64) 0=0:=by rw[List.getD,List.getElem?_eq_none (by rw[hV.len]; omega)]; rfl
  rw[this,Nat.zero_testBit,Bool.or_false]
theorem bJ0 {S0:aA}{f:VF}{lb:List (Nat×Int×Int)}{n m:Nat}{ia oa:Nat→Nat}{I O:Nat→List Nat}(hF:FlS S0 f lb n m ia oa I O)(hm:m≤100000)(hn:n≤1000000){kk:Nat}(hkk:kk<n)(b3 b4:aG)(R:aA)(x0 x1 x2 x3 x5 x7 x8 x9 x10 x11 x12 x13 x14 x15 x16 x17 x18 x19:TV)(W:List Nat)(hW:WOK m W) :
  ∃W':List Nat,(lim K).yld (S0.length+5) [.iv (.int .i64 kk)] (gS S0 m W b3 b4 (.lp .ready none (rE S0.length x0 x1 x2 x3 x5 x7 x8 x9 x10 x11 x12 x13 x14 x15 x16 x17 x18 x19) [13] rA rB) R)
   = .ret (.iv (.bool true),gS S0 m W' b3 b4 (.lp .ready none (rE S0.length x0 x1 x2 x3 x5 x7 x8 x9 x10 x11 x12 x13 x14 x15 x16 x17 x18 x19) [13] rA rB) R)∧WOK m W'∧∀r,bit W' r=(bit W r||bit (I kk) r):=by
 generalize hE:rE S0.length x0 x1 x2 x3 x5 x7 x8 x9 x10 x11 x12 x13 x14 x15 x16 x17 x18 x19=E
 obtain⟨W',y8,y16,l1,hW',hb⟩:=aN4 hF hm hn hkk (b3::b4::.lp .busy none E [13] rA rB::R) x0 x1 x2 x3 x5 x9 x10 x11 x12 (.iv (.int .i64 kk)) x17 x18 x19 m 0 W x8 x16 (by omega) hW
 refine⟨W',?_,hW',bG9 hW (hF.inn.ok kk hkk) hb⟩
 have hy:=aJv (K:=K) (i:=S0.length+5) (args:=[.iv (.int .i64 kk)]) (S:=gS S0 m W b3 b4 (.lp .ready none E [13] rA rB) R) (S1:=gS S0 m W b3 b4 (.lp .ready none E [13] rA rB) R) (S2:=gS S0 m W' b3 b4 (.lp .busy none E [13] rA rB) R)
  (st:=.ready) (p:=none) (p2:=none) (p3:=none) (st3:=.busy) (env:=E) (e2:=E) (e3:=E) (ps:=[13]) (ps2:=[13]) (ps3:=[13]) (a:=rA) (b:=rB) (a2:=rA) (b2:=rB) (a3:=rA) (b3:=rB)
  (env1:=rE S0.length x0 x1 x2 x3 x5 x7 x8 x9 x10 x11 x12 (.iv (.int .i64 kk)) x14 x15 x16 x17 x18 x19)
  (env2:=rE S0.length x0 x1 x2 x3 x5 (.iv (.int .i64 kk)) x8 x9 x10 x11 x12 (.iv (.int .i64 kk)) x14 x15 x16 x17 x18 x19)
  (env3:=rE S0.length x0 x1 x2 x3 x5 (.iv (.int .i64 kk)) y8 x9 x10 x11 x12 (.iv (.int .i64 kk)) (.iv (.int .i64 m)) (.iv (.int .i64 m)) y16 x17 x18 x19)
  (by unfold gS; rw[gN5]) (by rw[←hE]; rfl) ?_ (by unfold gS; rw[gN5]) ?_ (by unfold gS; rw[gN5])
 ·rw[hy]
  unfold gS
  rw[sN5]
 ·unfold rE rA
  simp (config := { maxSteps := 4000000 }) (disch:=omega) only[go_sem]
 ·unfold gS
  rw[sN5]
  rw[show ((0:Nat):Int)=0 from rfl]at l1
  generalize aG.lp .busy none E [13] rA rB=Z at *
  unfold rE rB
  simp (config := { maxSteps := 4000000 }) (disch:=omega) only[go_sem]
  rw[l1]
  simp (config := { maxSteps := 4000000 }) (disch:=omega) only[go_sem]
theorem eQ (v:VI):(aK v).length=8:=rfl
def bhd (lb:List (Nat×Int×Int))(l:List VI)(i:Nat):List Nat :=
 if (l.getD i default).op=68∨(l.getD i default).op=72 then [] else
  (if (26≤(l.getD i default).op∧(l.getD i default).op≤31)∨(l.getD i default).op=66 then [(nJ lb (l.getD i default).lb).toNat] else []) ++
  (if (l.getD i default).op≠66∧i+1<l.length then [i+1] else [])
def aGs (lb:List (Nat×Int×Int))(l:List VI):Prop:=∀i,i<l.length→((26≤(l.getD i default).op∧(l.getD i default).op≤31)∨(l.getD i default).op=66)→0≤nJ lb (l.getD i default).lb∧nJ lb (l.getD i default).lb<l.length
theorem bB7 (env:Env)(S:aA)(a b c d e f g h:IV):bO env S (.iv (.cp [a,b,c,d,e,f,g,h])) 8=some [.iv a,.iv b,.iv c,.iv d,.iv e,.iv f,.iv g,.iv h]:=by simp[bO,sub]
attribute [go_sem] bB7
theorem bB8 {S0:aA}{m:Nat}{W:List Nat}{b3 b4 Z a:aG}(x:aG)(R:aA):(gS S0 m W b3 b4 Z (a::R)).set (S0.length+6) x=gS S0 m W b3 b4 Z (x::R):=by unfold gS; rw[sN6]
theorem bB9 {S0:aA}{m:Nat}{W:List Nat}{b3 b4 Z:aG}(R:aA):(gS S0 m W b3 b4 Z R)[S0.length+3]? = some b3:=by unfold gS; rw[gN3]
theorem bCa {S0:aA}{m:Nat}{W:List Nat}{b3 b4 Z:aG}(R:aA):(gS S0 m W b3 b4 Z R)[S0.length+4]? = some b4:=by unfold gS; rw[gN4]
theorem bCb {S0:aA}{m:Nat}{W:List Nat}{b3 b4 Z a:aG}(R:aA):(gS S0 m W b3 b4 Z (a::R))[S0.length+6]? = some a:=by unfold gS; rw[gN6]
theorem pI {S0:aA}{m:Nat}{W:List Nat}{b3 b4 Z:aG}(R:aA){j:Nat}{b:aG}(h:S0[j]? = some b):(gS S0 m W b3 b4 Z R)[j]? = some b:=by unfold gS; exact aX h _
theorem aKg {S0:aA}{m:Nat}{W:List Nat}{b3 b4 Z:aG}(R:aA):(gS S0 m W b3 b4 Z R).length=S0.length+(6+R.length):=by unfold gS; simp; omega
theorem aUy {S0:aA}{m:Nat}{W:List Nat}{b3 b4 Z:aG}(R L:aA):gS S0 m W b3 b4 Z R++L=gS S0 m W b3 b4 Z (R++L):=by unfold gS; simp
attribute [go_sem] bB8 bB9 bCa bCb aUy
theorem bHa {S0:aA}{f:VF}{lb:List (Nat×Int×Int)}{n m:Nat}{ia oa:Nat→Nat}{I O:Nat→List Nat}(hF:FlS S0 f lb n m ia oa I O)(hm:m≤100000)(hn:n≤1000000)(hfn:f.ins.length=n)(hlb:aGs lb f.ins){i:Nat}(hi:i<n)(x0 x1 x2 x3 x5 x7 x8 x9 x10 x11 x12 x13 x14 x15 x16 x17 x18 x19:TV)(W:List Nat)(hW:WOK m W) :
  ∃(W':List Nat) (B:aG),(lim K).call 89 [.yld (S0.length+5),.ptr (S0.length+3) 69 0,.ptr (S0.length+4) 4 0] (gS S0 m W (.cells 69 false [.ptr 3 76 0]) (.cells 4 false [.iv (.int .i64 i)]) (.lp .ready none (rE S0.length x0 x1 x2 x3 x5 x7 x8 x9 x10 x11 x12 x13 x14 x15 x16 x17 x18 x19) [13] rA rB) [])
   = .ret (u_,gS S0 m W' (.cells 69 false [.ptr 3 76 0]) (.cells 4 false [.iv (.int .i64 i)]) (.lp .ready none (rE S0.length x0 x1 x2 x3 x5 x7 x8 x9 x10 x11 x12 x13 x14 x15 x16 x17 x18 x19) [13] rA rB) [B])∧WOK m W'∧∀r,bit W' r=(bit W r||(bhd lb f.ins i).any fun k=>bit (I k) r):=by
 have hl:=hlb i (by omega)
 obtain⟨c0,hlab⟩:=hF.lab
 have g0:=fun W b3 b4 Z R=>pI (S0:=S0) (m:=m) (W:=W) (b3:=b3) (b4:=b4) (Z:=Z) R hlab
 have g3:=fun W b3 b4 Z R=>pI (S0:=S0) (m:=m) (W:=W) (b3:=b3) (b4:=b4) (Z:=Z) R hF.flw
 have hix:=gJ (w:=8) (f:=aK) eQ (t:=f.ti) (l:=f.ins) (i:=(i:Int)) (by omega)
 rw[Int.toNat_natCast]at hix
 have hlen:(f.ins.map aK).length=n:=by rw[List.length_map,hfn]
 have glen:=fun W b3 b4 Z R=>aKg (S0:=S0) (m:=m) (W:=W) (b3:=b3) (b4:=b4) (Z:=Z) R
 have c21:=zE (f.ins.getD i default).op
 unfold bhd
 generalize hx:f.ins.getD i default=x at *
 rw[bP]at hix
 have yl:=fun kk (hkk:kk<n) b3 b4 R W hW=>bJ0 hF hm hn (kk:=kk) hkk b3 b4 R x0 x1 x2 x3 x5 x7 x8 x9 x10 x11 x12 x13 x14 x15 x16 x17 x18 x19 W hW
 generalize aG.lp .ready none (rE S0.length x0 x1 x2 x3 x5 x7 x8 x9 x10 x11 x12 x13 x14 x15 x16 x17 x18 x19) [13] rA rB=Z at *
 by_cases hT:x.op=68∨x.op=72
 ·rw[if_pos hT]
  refine⟨W,.cells 29 false ((aK x).map .iv),aP K _ (fn:=t89) rfl rfl ?_,hW,fun r=>by simp⟩
  rw[aY]
  ·rcases hT with hT|hT
   ·simp (config := { maxSteps := 4000000 }) (disch:=omega) only[t89,go_sem,g0,g3,hix,hlen,glen]
   ·simp (config := { maxSteps := 4000000 }) (disch:=omega) only[t89,go_sem,g0,g3,hix,hlen,glen]
 ·rw[if_neg hT]
  have hlenI:((n:Nat):Int)=(f.ins.length:Nat):=by omega
  by_cases hJ:x.op=66
  ·obtain⟨h1,h2⟩:=hl (.inr hJ)
   obtain⟨kk,hkk⟩:=Int.eq_ofNat_of_zero_le h1
   rw[if_pos (.inr hJ),if_neg (by omega),List.append_nil,hkk,Int.toNat_natCast]
   obtain⟨W',hy,hW',hb⟩:=yl kk (by omega) (.cells 69 false [.ptr 3 76 0]) (.cells 4 false [.iv (.int .i64 i)]) [.cells 29 false ((aK x).map .iv)] W hW
   rw[aY]at hy
   rw[decide_eq_false (by omega)]at c21
   refine⟨W',.cells 29 false ((aK x).map .iv),aP K _ (fn:=t89) rfl rfl ?_,hW',fun r=>by rw[hb r]; simp⟩
   rw[aY]
   simp (config := { maxSteps := 4000000 }) (disch:=omega) only[t89,go_sem,g0,g3,hix,hlen,glen,aB c21,yX,hkk,hy,er_ret]
  ·by_cases hB:26≤x.op∧x.op≤31
   ·obtain⟨h1,h2⟩:=hl (.inl hB)
    obtain⟨kk,hkk⟩:=Int.eq_ofNat_of_zero_le h1
    rw[if_pos (.inl hB),hkk,Int.toNat_natCast]
    obtain⟨W',hy,hW',hb⟩:=yl kk (by omega) (.cells 69 false [.ptr 3 76 0]) (.cells 4 false [.iv (.int .i64 i)]) [.cells 29 false ((aK x).map .iv)] W hW
    rw[aY]at hy
    rw[decide_eq_true hB]at c21
    by_cases hi1:i+1<n
    ·rw[if_pos ⟨hJ,by omega⟩]
     obtain⟨W2,hy2,hW2,hb2⟩:=yl (i+1) hi1 (.cells 69 false [.ptr 3 76 0]) (.cells 4 false [.iv (.int .i64 i)]) [.cells 29 false ((aK x).map .iv)] W' hW'
     rw[aY,show ((i+1:Nat):Int)=(i:Int)+1 by omega]at hy2
     refine⟨W2,.cells 29 false ((aK x).map .iv),aP K _ (fn:=t89) rfl rfl ?_,hW2,fun r=>by rw[hb2 r,hb r]; simp[Bool.or_assoc]⟩
     rw[aY]
     simp (config := { maxSteps := 4000000 }) (disch:=omega) only[t89,go_sem,g0,g3,hix,hlen,glen,aB c21,yX,hkk,hy,aD,hy2,er_ret]
    ·rw[if_neg (by omega),List.append_nil]
     refine⟨W',.cells 29 false ((aK x).map .iv),aP K _ (fn:=t89) rfl rfl ?_,hW',fun r=>by rw[hb r]; simp⟩
     rw[aY]
     simp (config := { maxSteps := 4000000 }) (disch:=omega) only[t89,go_sem,g0,g3,hix,hlen,glen,aB c21,yX,hkk,hy,aD,er_ret]
   ·rw[if_neg (by omega),List.nil_append]
    rw[decide_eq_false hB]at c21
    by_cases hi1:i+1<n
    ·rw[if_pos ⟨hJ,by omega⟩]
     obtain⟨W2,hy2,hW2,hb2⟩:=yl (i+1) hi1 (.cells 69 false [.ptr 3 76 0]) (.cells 4 false [.iv (.int .i64 i)]) [.cells 29 false ((aK x).map .iv)] W hW
     rw[aY,show ((i+1:Nat):Int)=(i:Int)+1 by omega]at hy2
     refine⟨W2,.cells 29 false ((aK x).map .iv),aP K _ (fn:=t89) rfl rfl ?_,hW2,fun r=>by rw[hb2 r]; simp⟩
     rw[aY]
     simp (config := { maxSteps := 4000000 }) (disch:=omega) only[t89,go_sem,g0,g3,hix,hlen,glen,aB c21,aD,hy2,er_ret]
    ·rw[if_neg (by omega)]
     refine⟨W,.cells 29 false ((aK x).map .iv),aP K _ (fn:=t89) rfl rfl ?_,hW,fun r=>by simp⟩
     rw[aY]
     simp (config := { maxSteps := 4000000 }) (disch:=omega) only[t89,go_sem,g0,g3,hix,hlen,glen,aB c21,aD,er_ret]
theorem bHb (i:Nat)(S:aA):(lim K).call 78 [.ptr 3 76 0,.iv (.int .i64 i)] S=.ret (.fn 89 [] [.ptr S.length 69 0,.ptr (S.length+1) 4 0],S++[.cells 69 false [.ptr 3 76 0],.cells 4 false [.iv (.int .i64 i)]]):=by
 refine aP K _ (fn:=t78) rfl rfl ?_
 simp (config := { maxSteps := 4000000 }) (disch:=omega) only[t78,go_sem,List.length_append,List.length_cons,List.length_nil,List.append_assoc]
theorem bCc {S0:aA}{m:Nat}{W:List Nat}{b3 b4 Z:aG}(R:aA):(gS S0 m W b3 b4 Z R)[S0.length]? = some (.cells 69 false [.ptr 3 76 0]):=by unfold gS; rw[gN0]
theorem aN5 {S0:aA}{m:Nat}{W:List Nat}{b3 b4 Z:aG}(R:aA):(gS S0 m W b3 b4 Z R)[S0.length+1]? = some (.cells 0 false (W.map uI)):=by unfold gS; rw[gN1]
theorem aN6 {S0:aA}{m:Nat}{W:List Nat}{b3 b4 Z:aG}(R:aA):(gS S0 m W b3 b4 Z R)[S0.length+2]? = some (.cells 104 false [.msl (S0.length+1) 0 0 m m 1]):=by unfold gS; rw[gN2]
theorem bCd {S0:aA}{m:Nat}{W:List Nat}{b3 b4 Z:aG}(R:aA):(gS S0 m W b3 b4 Z R)[S0.length+5]? = some Z:=by unfold gS; rw[gN5]
theorem aEp {S0:aA}{m:Nat}{W:List Nat}{b3 b4 Z a b:aG}(R:aA):(gS S0 m W b3 b4 Z (a::b::R))[S0.length+7]? = some b:=by unfold gS; rw[gN7]
theorem bCe {S0:aA}{m:Nat}{W:List Nat}{b3 b4 Z a b:aG}(x:aG)(R:aA):(gS S0 m W b3 b4 Z (a::b::R)).set (S0.length+7) x=gS S0 m W b3 b4 Z (a::x::R):=by unfold gS; rw[sN7]
theorem bCf {S0:aA}{m:Nat}{W:List Nat}{b3 b4 Z:aG}(x:aG)(R:aA):(gS S0 m W b3 b4 Z R).set (S0.length+5) x=gS S0 m W b3 b4 x R:=by unfold gS; rw[sN5]
attribute [go_sem] bCc aN5 aN6 bCd aEp bCe bCf
theorem aN7 {S0:aA}{m:Nat}(hm:m≤100000){ua da:Nat}{U D:List Nat}(hU:WOK m U)(hD:WOK m D)(gU:S0[ua]? = some (.cells 0 false (U.map uI)))(gD:S0[da]? = some (.cells 0 false (D.map uI))){W:List Nat}(hW:WOK m W)(b3 b4 Z B6:aG)(x0 x1 x4 x5 x7 x8 x11 x12 x13 x14 x15 x16:TV):∀(k i:Nat) (V:List Nat) (x10 x19:TV),i+k=m→WOK m V →
  ∃(V':List Nat) (y10 y19:TV),lp' (lim K) t57L0 [x0,x1,.msl ua 0 0 m m 1,.msl da 0 0 m m 1,x4,x5,.ptr (S0.length+2) 104 0,x7,x8,.msl (S0.length+7) 0 0 m m 1,x10,x11,x12,x13,x14,x15,x16,.iv (.int .i64 m),.iv (.int .i64 i),x19] (gS S0 m W b3 b4 Z [B6,.cells 0 false (V.map uI)])
   = .ret (.exit 4,[x0,x1,.msl ua 0 0 m m 1,.msl da 0 0 m m 1,x4,x5,.ptr (S0.length+2) 104 0,x7,x8,.msl (S0.length+7) 0 0 m m 1,y10,x11,x12,x13,x14,x15,x16,.iv (.int .i64 m),.iv (.int .i64 m),y19],gS S0 m W b3 b4 Z [B6,.cells 0 false (V'.map uI)]) ∧
   WOK m V'∧∀q,V'.getD q 0=if i≤q∧q<m then U.getD q 0 ||| kB (W.getD q 0) (D.getD q 0) else V.getD q 0
 | 0,i,V,x10,x19,hk,hV=>by
  obtain rfl:i=m:=by omega
  refine⟨V,x10,.iv (.bool false),aF K _ _ t57L0.eq_1 ?_,hV,fun q=>by rw[if_neg (by omega)]⟩
  simp (config := { maxSteps := 4000000 }) (disch:=omega) only[go_sem]
 | k+1,i,V,x10,x19,hk,hV=>by
  have him:i<m:=by omega
  have i1:=fun j=>iH (j:=j) (v:=0) (cap:=m) him
  have s1:=pH (W:=W) (i:=i) (by rw[hW.len]; exact him)
  have s2:=pH (W:=U) (i:=i) (by rw[hU.len]; exact him)
  have s3:=pH (W:=D) (i:=i) (by rw[hD.len]; exact him)
  have g1:=fun R=>pI (S0:=S0) (m:=m) (W:=W) (b3:=b3) (b4:=b4) (Z:=Z) R gU
  have g2:=fun R=>pI (S0:=S0) (m:=m) (W:=W) (b3:=b3) (b4:=b4) (Z:=Z) R gD
  have e3:=aKb (W.getD i 0) (D.getD i 0)
  have e4:=aKa (hU.get i) (sD (W.getD i 0) (D.getD i 0))
  have hor:=aEm (hU.get i) (sD (W.getD i 0) (D.getD i 0))
  have p1:=aJ9 (W:=V) (i:=i) (U.getD i 0 ||| kB (W.getD i 0) (D.getD i 0)) (by rw[hV.len]; exact him)
  have hbb:i+1≤(V.map uI).length:=by rw[List.length_map,hV.len]; omega
  obtain⟨V',y10,y19,ih,hV',hb⟩:=aN7 hm hU hD gU gD hW b3 b4 Z B6 x0 x1 x4 x5 x7 x8 x11 x12 x13 x14 x15 x16 k (i+1) (V.set i (U.getD i 0 ||| kB (W.getD i 0) (D.getD i 0))) (.iv (.int .i64 i)) (.iv (.bool true)) (by omega) (hV.set i _ hor)
  rw[show ((i+1:Nat):Int)=(i:Int)+1 by omega]at ih
  simp only[uI]at s1 s2 s3 p1 hbb
  refine⟨V',y10,y19,aF K _ _ t57L0.eq_1 ?_,hV',fun q=>?_⟩
  ·generalize hA:kB (W.getD i 0) (D.getD i 0)=A at *
   generalize hA2:W.getD i 0=A2 at *
   generalize hA3:D.getD i 0=A3 at *
   generalize hB:U.getD i 0=B at *
   generalize hC:B ||| A=C at *
   simp (config := { maxSteps := 4000000 }) (disch:=omega) only[go_sem,i1,s1,s2,s3,g1,g2,e3,e4,p1,hbb,aD]
   exact congrArg er ih
  ·rw[hb q,zA (by rw[hV.len]; exact him)]
   by_cases e:q=i
   ·subst e; rw[if_neg (by omega),if_pos rfl,if_pos (by omega)]
   ·rw[if_neg e]
    by_cases e2:i+1≤q∧q<m
    ·rw[if_pos e2,if_pos (by omega)]
    ·rw[if_neg e2,if_neg (by omega)]
theorem aUz {m:Nat}{U W D V V0:List Nat}(hU:WOK m U)(hW:WOK m W)(hD:WOK m D)(hV:WOK m V)(h:∀q,V.getD q 0=if 0≤q∧q<m then U.getD q 0 ||| kB (W.getD q 0) (D.getD q 0) else V0.getD q 0)(r:Nat):bit V r=(bit U r||(bit W r&&!bit D r)):=by
 have z:∀ {X:List Nat},WOK m X→¬r / 64<m→X.getD (r / 64) 0=0:=fun hX hr=>by rw[List.getD,List.getElem?_eq_none (by rw[hX.len]; omega)]; rfl
 unfold bit
 by_cases e:r / 64<m
 ·rw[h,if_pos ⟨Nat.zero_le _,e⟩,Nat.testBit_or,aGq _ _ _ (Nat.mod_lt _ (by decide))]
 ·rw[z hV e,z hU e,z hW e,z hD e]; simp
theorem bCg {α:Type}(g:Nat→α)(a:Nat→Nat)(i x:Nat):upd (fun j=>g (a j)) i (g x)=fun j=>g (upd a i x j):=by
 funext j; unfold upd; split<;>rfl
theorem bHc {S0:aA}{f:VF}{lb:List (Nat×Int×Int)}{n m:Nat}{ia oa:Nat→Nat}{I O:Nat→List Nat}(hF:FlS S0 f lb n m ia oa I O)(hm:(f.regs+63) / 64=m)(hr:f.regs≤1000000)(hn:n≤1000000)(hfn:f.ins.length=n)(hlb:aGs lb f.ins){i:Nat}(hi:i<n)
  {ua da:Nat} {U D:List Nat} (hU:WOK m U) (hD:WOK m D) (gU:S0[ua]? = some (.cells 0 false (U.map uI))) (gD:S0[da]? = some (.cells 0 false (D.map uI))) :
  ∃(S':aA) (A B:List Nat) (a b:Nat),(lim K).call 57 [.ptr 3 76 0,.iv (.int .i64 i),.msl ua 0 0 m m 1,.msl da 0 0 m m 1] S0=.ret (.iv (.bool (!decide (A=I i))),S')∧FlS S' f lb n m (upd ia i a) (upd oa i b) (upd I i A) (upd O i B)∧WOK m A∧WOK m B ∧
   (∀r,bit B r=(bhd lb f.ins i).any fun k=>bit (I k) r)∧(∀r,bit A r=(bit U r||(bit B r&&!bit D r)))∧iE [1,2] S0 S':=by
 have hm':m≤100000:=by omega
 obtain⟨c0,hlab⟩:=hF.lab
 have h6:=hF.len
 -- the set behind,empty
 have c36:=fun S=>zB hr .nil [] (by simp) (by simp) S
 rw[tC,hm]at c36
 obtain⟨W0,e0,hW0,hb0⟩:=c36 (S0++[.cells 69 false [.ptr 3 76 0]])
 have e1:=bHb i (S0++[.cells 69 false [.ptr 3 76 0]]++[.cells 0 false (W0.map uI)]++[.cells 104 false [.msl (S0.length+1) 0 0 m m 1]])
 simp only[List.length_append,List.length_cons,List.length_nil,Nat.zero_add,List.append_assoc,List.cons_append,List.nil_append,Nat.add_assoc,Nat.reduceAdd]at e0 e1
 obtain⟨W,B6,e2,hW,hbW⟩:=bHa hF hm' hn hfn hlb hi (.ptr 3 76 0) (.iv (.int .i64 i)) (.msl ua 0 0 m m 1) (.msl da 0 0 m m 1) (.iv (.bool false)) u_ u_ u_ u_ u_ (.fn 89 [] [.ptr (S0.length+3) 69 0,.ptr (S0.length+4) 4 0]) u_ u_ u_ u_ u_ u_ u_ W0 hW0
 have e2':(lim K).call 89 [.yld (S0.length+5),.ptr (S0.length+3) 69 0,.ptr (S0.length+4) 4 0] (S0++[.cells 69 false [.ptr 3 76 0],.cells 0 false (W0.map uI),.cells 104 false [.msl (S0.length+1) 0 0 m m 1],.cells 69 false [.ptr 3 76 0],.cells 4 false [.iv (.int .i64 i)],
   .lp .ready none [.ptr 3 76 0,.iv (.int .i64 i),.msl ua 0 0 m m 1,.msl da 0 0 m m 1,.ptr S0.length 69 0,.iv (.bool false),.ptr (S0.length+2) 104 0,u_,u_,u_,u_,u_,.fn 89 [] [.ptr (S0.length+3) 69 0,.ptr (S0.length+4) 4 0],u_,u_,u_,u_,u_,u_,u_] [13] (.region [⟨.mov (.loc 13),(some 7),none⟩]) (.block 1 (.seq (.region [⟨.load1 (.loc 6),none,none⟩,⟨.len .sl (.reg 0),(some 14),none⟩,⟨.mov (.cst (.int .i64 0)),(some 15),none⟩]) (.block 2 (.loop t57L1))))])=_:=e2
 clear e2
 have hb0':∀r,bit W0 r=false:=fun r=>by
  cases h:bit W0 r with
  | false=>rfl
  | true=>have:=(hb0 r).1 h; simp at this
 generalize hE:rE S0.length (.ptr 3 76 0) (.iv (.int .i64 i)) (.msl ua 0 0 m m 1) (.msl da 0 0 m m 1) (.iv (.bool false)) u_ u_ u_ u_ u_ (.fn 89 [] [.ptr (S0.length+3) 69 0,.ptr (S0.length+4) 4 0]) u_ u_ u_ u_ u_ u_ u_=E at *
 obtain⟨V0,e3,hV0,_⟩:=c36 (gS S0 m W (.cells 69 false [.ptr 3 76 0]) (.cells 4 false [.iv (.int .i64 i)]) (.lp .exhausted none E [13] rA rB) [B6])
 rw[aKg,aUy]at e3
 simp only[List.length_cons,List.length_nil,Nat.zero_add,Nat.reduceAdd,List.cons_append,List.nil_append]at e3
 obtain⟨V,y10,y19,l1,hV,hbV⟩:=aN7 (S0:=S0) hm' hU hD gU gD hW (.cells 69 false [.ptr 3 76 0]) (.cells 4 false [.iv (.int .i64 i)]) (.lp .exhausted none E [13] rA rB) B6 (.ptr 3 76 0) (.iv (.int .i64 i)) (.ptr S0.length 69 0) (.iv (.bool false)) u_ u_ u_ (.fn 89 [] [.ptr (S0.length+3) 69 0,.ptr (S0.length+4) 4 0]) u_ u_ u_ u_ m 0 V0 u_ u_ (by omega) hV0
 rw[show ((0:Nat):Int)=0 from rfl]at l1
 have gI:=fun R=>pI (S0:=S0) (m:=m) (W:=W) (b3:=.cells 69 false [.ptr 3 76 0]) (b4:=.cells 4 false [.iv (.int .i64 i)]) (Z:=.lp .exhausted none E [13] rA rB) R (hF.inn.set i hi)
 have g1:=fun R=>pI (S0:=S0) (m:=m) (W:=W) (b3:=.cells 69 false [.ptr 3 76 0]) (b4:=.cells 4 false [.iv (.int .i64 i)]) (Z:=.lp .exhausted none E [13] rA rB) R hF.inn.row
 have g2:=fun R=>pI (S0:=S0) (m:=m) (W:=W) (b3:=.cells 69 false [.ptr 3 76 0]) (b4:=.cells 4 false [.iv (.int .i64 i)]) (Z:=.lp .exhausted none E [13] rA rB) R hF.out.row
 have g3:=fun R=>pI (S0:=S0) (m:=m) (W:=W) (b3:=.cells 69 false [.ptr 3 76 0]) (b4:=.cells 4 false [.iv (.int .i64 i)]) (Z:=.lp .exhausted none E [13] rA rB) R hF.flw
 have g3':=fun L=>aX hF.flw L
 have c50:=bG4 (a:=S0.length+7) (b:=ia i) (m:=m) (by omega) (aEp (S0:=S0) (m:=m) (W:=W) (b3:=.cells 69 false [.ptr 3 76 0]) (b4:=.cells 4 false [.iv (.int .i64 i)]) (Z:=.lp .exhausted none E [13] rA rB) (a:=B6) (b:=.cells 0 false (V.map uI)) []) (gI _) hV.len (hF.inn.ok i hi).len
 have i1:=fun j=>iH (j:=j) (v:=0) (cap:=n) hi
 have s1:=nZ (fun i=>TV.msl (ia i) 0 0 m m 1) hi
 have p1:=vM (fun i=>TV.msl (ia i) 0 0 m m 1) (.msl (S0.length+7) 0 0 m m 1) hi
 have p2:=vM (fun i=>TV.msl (oa i) 0 0 m m 1) (.msl (S0.length+1) 0 0 m m 1) hi
 rw[bCg (fun x=>TV.msl x 0 0 m m 1)]at p1 p2
 have q2:=fun X R=>(aL (i:=1) (j:=2) (by decide) X).trans (g2 R)
 have q3:=fun X R=>(aL (i:=1) (j:=S0.length+2) (by omega) X).trans (aN6 (S0:=S0) (m:=m) (W:=W) (b3:=.cells 69 false [.ptr 3 76 0]) (b4:=.cells 4 false [.iv (.int .i64 i)]) (Z:=.lp .exhausted none E [13] rA rB) R)
 have hS:(gS S0 m W (.cells 69 false [.ptr 3 76 0]) (.cells 4 false [.iv (.int .i64 i)]) (.lp .exhausted none E [13] rA rB) [B6,.cells 0 false (V.map uI)])=S0++(.cells 69 false [.ptr 3 76 0]::.cells 0 false (W.map uI)::.cells 104 false [.msl (S0.length+1) 0 0 m m 1]::.cells 69 false [.ptr 3 76 0]::.cells 4 false [.iv (.int .i64 i)]::.lp .exhausted none E [13] rA rB::[B6,.cells 0 false (V.map uI)]):=rfl
 have hlen:(gS S0 m W (.cells 69 false [.ptr 3 76 0]) (.cells 4 false [.iv (.int .i64 i)]) (.lp .exhausted none E [13] rA rB) [B6,.cells 0 false (V.map uI)]).length=S0.length+8:=by rw[aKg]; rfl
 refine⟨((gS S0 m W (.cells 69 false [.ptr 3 76 0]) (.cells 4 false [.iv (.int .i64 i)]) (.lp .exhausted none E [13] rA rB) [B6,.cells 0 false (V.map uI)]).set 1 (.cells 0 false (cF n fun j=>.msl (upd ia i (S0.length+7) j) 0 0 m m 1))).set 2 (.cells 0 false (cF n fun j=>.msl (upd oa i (S0.length+1) j) 0 0 m m 1)),V,W,S0.length+7,S0.length+1,aP K _ (fn:=t57) rfl rfl ?_,?_,hV,hW,fun r=>by rw[hbW r,hb0' r,Bool.false_or],aUz hU hW hD hV hbV,?_⟩
 ·simp (config := { maxSteps := 4000000 }) (disch:=omega) only[t57,go_sem,List.length_append,List.length_cons,List.length_nil,List.append_assoc,Nat.add_assoc,g3',g3,e0,e1,e2',e3]
  rw[l1]
  simp (config := { maxSteps := 4000000 }) (disch:=omega) only[go_sem,g3,i1,g1,g2,s1,c50,p1,p2,q2,q3]
 ·refine⟨⟨c0,?_⟩,⟨?_,?_,?_,?_⟩,⟨?_,?_,?_,?_⟩,?_,?_⟩
  ·rw[aL (by decide),aL (by decide),hS]; exact aX hlab _
  ·rw[aL (by decide),bE (by rw[hlen]; omega)]
  ·intro j hj
   unfold upd; split
   ·omega
   ·exact hF.inn.ge j hj
  ·intro j hj
   by_cases e:j=i
   ·subst e
    rw[bW,bW,aL (by omega),aL (by omega),aEp]
   ·rw[dU _ _ e,dU _ _ e]
    have h7:=hF.inn.ge j hj
    rw[aL (by omega),aL (by omega),hS]
    exact aX (hF.inn.set j hj) _
  ·intro j hj
   unfold upd; split
   ·exact hV
   ·exact hF.inn.ok j hj
  ·rw[bE (by rw[List.length_set,hlen]; omega)]
  ·intro j hj
   unfold upd; split
   ·omega
   ·exact hF.out.ge j hj
  ·intro j hj
   by_cases e:j=i
   ·subst e
    rw[bW,bW,aL (by omega),aL (by omega),aN5]
   ·rw[dU _ _ e,dU _ _ e]
    have h7:=hF.out.ge j hj
    rw[aL (by omega),aL (by omega),hS]
    exact aX (hF.out.set j hj) _
  ·intro j hj
   unfold upd; split
   ·exact hW
   ·exact hF.out.ok j hj
  ·rw[aL (by decide),aL (by decide)]; exact g3 _
  ·rw[List.length_set,List.length_set,hlen]; omega
 ·have k1:iE [1,2] S0 (gS S0 m W (.cells 69 false [.ptr 3 76 0]) (.cells 4 false [.iv (.int .i64 i)]) (.lp .exhausted none E [13] rA rB) [B6,.cells 0 false (V.map uI)]):=by rw[hS]; exact iE.app _ _ _
  exact (k1.trans (iE.set _ (by simp) _)).trans (iE.set _ (by simp) _)
theorem aU0 {α:Type}(l:List α)(p q:α→Bool)(h:∀x,q x=true→p x=true):(l.filter q).length≤(l.filter p).length:=by
 induction l with
 | nil=>exact Nat.le_refl _
 | cons a l ih =>
  cases hq:q a with
  | true=>rw[List.filter_cons_of_pos hq,List.filter_cons_of_pos (h a hq)]; simpa using ih
  | false =>
   rw[List.filter_cons_of_neg (by rw[hq]; simp)]
   cases hp:p a with
   | true=>rw[List.filter_cons_of_pos hp,List.length_cons]; omega
   | false=>rw[List.filter_cons_of_neg (by rw[hp]; simp)]; exact ih
theorem aU1 {α:Type}(l:List α)(p q:α→Bool)(h:∀x,q x=true→p x=true){y:α}(hy:y∈l)(hp:p y=true)(hq:q y=false):(l.filter q).length<(l.filter p).length:=by
 induction l with
 | nil=>cases hy
 | cons a l ih =>
  rcases List.mem_cons.1 hy with rfl|hy
  ·rw[List.filter_cons_of_pos hp,List.filter_cons_of_neg (by rw[hq]; simp),List.length_cons]
   have:=aU0 l p q h
   omega
  ·have h1:=ih hy
   cases hq':q a with
   | true=>rw[List.filter_cons_of_pos hq',List.filter_cons_of_pos (h a hq')]; simpa using h1
   | false =>
    rw[List.filter_cons_of_neg (by rw[hq']; simp)]
    cases hp':p a with
    | true=>rw[List.filter_cons_of_pos hp',List.length_cons]; omega
    | false=>rw[List.filter_cons_of_neg (by rw[hp']; simp)]; exact h1
def aKh (n m:Nat):List (Nat×Nat):=(List.range n).flatMap fun i=>(List.range (64*m)).map fun r=>(i,r)
theorem aKi (n m i r:Nat):(i,r)∈aKh n m↔i<n∧r<64*m:=by
 simp only[aKh,List.mem_flatMap,List.mem_range,List.mem_map,Prod.mk.injEq]
 constructor
 ·rintro⟨a,ha,b,hb,rfl,rfl⟩; exact⟨ha,hb⟩
 ·rintro⟨h1,h2⟩; exact⟨i,h1,r,h2,rfl,rfl⟩
def aEq (n m:Nat)(I:Nat→List Nat):Nat:=((aKh n m).filter fun p=>!bit (I p.1) p.2).length
theorem bCh {m:Nat}{W:List Nat}(hW:WOK m W){r:Nat}(hr:64*m≤r):bit W r=false:=by
 unfold bit
 rw[List.getD,List.getElem?_eq_none (by rw[hW.len]; omega)]
 exact Nat.zero_testBit _
theorem aU2 {m:Nat}{W V:List Nat}(hW:WOK m W)(hV:WOK m V)(h:∀r,bit W r=bit V r):W=V:=by
 apply List.ext_getElem (by rw[hW.len,hV.len])
 intro q h1 h2
 apply Nat.eq_of_testBit_eq
 intro j
 by_cases hj:j<64
 ·have:=h (64*q+j)
  unfold bit at this
  rw[show (64*q+j) / 64=q by omega,show (64*q+j) % 64=j by omega]at this
  simpa only[List.getD,List.getElem?_eq_getElem h1,List.getElem?_eq_getElem h2,Option.getD_some] using this
 ·have hp:(18446744073709551616:Nat)≤2 ^ j:=Nat.pow_le_pow_right (n:=2) (by decide) (show 64≤j by omega)
  rw[Nat.testBit_lt_two_pow (Nat.lt_of_lt_of_le (hW.lt _ (List.getElem_mem h1)) hp),Nat.testBit_lt_two_pow (Nat.lt_of_lt_of_le (hV.lt _ (List.getElem_mem h2)) hp)]
theorem bCi {m:Nat}{W V:List Nat}(hW:WOK m W)(hV:WOK m V)(h:W≠V)(hs:∀r,bit V r=true→bit W r=true):∃r,r<64*m∧bit W r=true∧bit V r=false:=by
 apply Classical.byContradiction
 intro hn
 apply h
 refine aU2 hW hV fun r=>?_
 cases hw:bit W r with
 | false =>
  cases hv:bit V r with
  | false=>rfl
  | true=>rw[hs r hv]at hw; cases hw
 | true =>
  cases hv:bit V r with
  | true=>rfl
  | false =>
   refine absurd ⟨r,?_,hw,hv⟩ hn
   rcases Nat.lt_or_ge r (64*m) with h1|h1
   ·exact h1
   ·rw[bCh hW h1]at hw; cases hw
def tG (lb:List (Nat×Int×Int))(l:List VI)(I:Nat→List Nat)(i r:Nat):Bool:=(bhd lb l i).any fun k=>bit (I k) r
def eqn (lb:List (Nat×Int×Int))(l:List VI)(U D I:Nat→List Nat)(i r:Nat):Bool:=bit (U i) r||(tG lb l I i r&&!bit (D i) r)
inductive Lv (lb:List (Nat×Int×Int)) (l:List VI) (U D:Nat→List Nat) (r:Nat):Nat→Prop
 | use {i:Nat} (h:bit (U i) r=true):Lv lb l U D r i
 | step {i k:Nat} (hk:k∈bhd lb l i) (h:Lv lb l U D r k) (hd:bit (D i) r=false):Lv lb l U D r i
theorem aU3 {lb:List (Nat×Int×Int)}{l:List VI}{U D I I':Nat→List Nat}(h:∀k r,bit (I k) r=true→bit (I' k) r=true)(i r:Nat)(he:eqn lb l U D I i r=true):eqn lb l U D I' i r=true:=by
 unfold eqn tG at *
 rw[Bool.or_eq_true]at he ⊢
 rcases he with he|he
 ·exact .inl he
 ·rw[Bool.and_eq_true]at he ⊢
  refine .inr ⟨?_,he.2⟩
  obtain⟨k,hk,hb⟩:=List.any_eq_true.1 he.1
  exact List.any_eq_true.2 ⟨k,hk,h k r hb⟩
theorem bHd {lb:List (Nat×Int×Int)}{l:List VI}{U D I:Nat→List Nat}(h:∀k r,bit (I k) r=true→Lv lb l U D r k)(i r:Nat)(he:eqn lb l U D I i r=true):Lv lb l U D r i:=by
 unfold eqn tG at he
 rw[Bool.or_eq_true,Bool.and_eq_true]at he
 rcases he with he|⟨he,hd⟩
 ·exact .use he
 ·obtain⟨k,hk,hb⟩:=List.any_eq_true.1 he
  exact .step hk (h k r hb) (by simpa using hd)
structure zF (lb:List (Nat×Int×Int)) (l:List VI) (U D I:Nat→List Nat):Prop where
 pre:∀i r,bit (I i) r=true→eqn lb l U D I i r=true
 snd:∀i r,bit (I i) r=true→Lv lb l U D r i
theorem aU4 {I:Nat→List Nat}{i:Nat}{A:List Nat}(h:∀r,bit (I i) r=true→bit A r=true)(k r:Nat)(hb:bit (I k) r=true):bit (upd I i A k) r=true:=by
 unfold upd; split
 ·subst_vars; exact h r hb
 ·exact hb
theorem zF.upd {lb:List (Nat×Int×Int)}{l:List VI}{U D I:Nat→List Nat}(h:zF lb l U D I){i:Nat}{A:List Nat}(hA:∀r,bit A r=eqn lb l U D I i r):zF lb l U D (upd I i A):=by
 have hle:=aU4 (I:=I) (i:=i) (A:=A) fun r hb=>by rw[hA]; exact h.pre i r hb
 refine⟨fun j r hb=>?_,fun j r hb=>?_⟩
 ·refine aU3 hle j r ?_
  unfold Proofs.YtmlhjdekfihdnaaGreatDoor.upd at hb
  split at hb
  ·subst_vars; rw[←hA]; exact hb
  ·exact h.pre j r hb
 ·unfold Proofs.YtmlhjdekfihdnaaGreatDoor.upd at hb
  split at hb
  ·subst_vars; rw[hA]at hb; exact bHd h.snd _ r hb
  ·exact h.snd j r hb
theorem bCj {n m:Nat}{I I':Nat→List Nat}(h:∀k r,bit (I k) r=true→bit (I' k) r=true):aEq n m I'≤aEq n m I:=by
 refine aU0 _ _ _ fun p hp=>?_
 simp only[Bool.not_eq_true']at hp ⊢
 cases hb:bit (I p.1) p.2 with
 | false=>rfl
 | true=>rw[h _ _ hb]at hp; cases hp
theorem bCk {n m:Nat}{I I':Nat→List Nat}(h:∀k r,bit (I k) r=true→bit (I' k) r=true){i r:Nat}(hi:i<n)(hr:r<64*m)(h1:bit (I' i) r=true)(h2:bit (I i) r=false):aEq n m I'<aEq n m I:=by
 refine aU1 _ _ _ (fun p hp=>?_) ((aKi n m i r).2 ⟨hi,hr⟩) (by simp[h2]) (by simp[h1])
 simp only[Bool.not_eq_true']at hp ⊢
 cases hb:bit (I p.1) p.2 with
 | false=>rfl
 | true=>rw[h _ _ hb]at hp; cases hp
theorem RS.keep {S S':aA}{j n m:Nat}{ia:Nat→Nat}{I:Nat→List Nat}(h:RS S j n m ia I)(k:iE [1,2] S S')(hj:j∉[1,2]):RS S' j n m ia I :=
 ⟨k.get _ _ hj h.row,h.ge,fun i hi=>k.get _ _ (by have:=h.ge i hi; simp; omega) (h.set i hi),h.ok⟩
structure Rd (lb:List (Nat×Int×Int)) (l:List VI) (n m:Nat) (U D I0 I O:Nat→List Nat) (i:Nat) (ch:Bool):Prop where
 grow:zF lb l U D I
 more:aEq n m I≤aEq n m I0
 yes:ch=true→aEq n m I<aEq n m I0
 no:ch=false→I=I0∧∀j,i≤j→j<n→(∀r,bit (I j) r=eqn lb l U D I j r)∧∀r,bit (O j) r=tG lb l I j r
theorem Rd.step {lb:List (Nat×Int×Int)}{l:List VI}{n m:Nat}{U D I0 I O:Nat→List Nat}{i:Nat}{ch:Bool}(h:Rd lb l n m U D I0 I O (i+1) ch)(hi:i<n){A B:List Nat}(hA:WOK m A)(hI:WOK m (I i))(hB:∀r,bit B r=tG lb l I i r)(hA2:∀r,bit A r=eqn lb l U D I i r) :
  Rd lb l n m U D I0 (upd I i A) (upd O i B) i (!decide (A=I i)||ch):=by
 have hge:∀r,bit (I i) r=true→bit A r=true:=fun r hb=>by rw[hA2]; exact h.grow.pre i r hb
 have hle:=aU4 (I:=I) (i:=i) (A:=A) hge
 have hl:=bCj (n:=n) (m:=m) hle
 by_cases e:A=I i
 ·have hu:upd I i A=I:=by funext j; unfold upd; split<;>simp_all
  rw[decide_eq_true e,Bool.not_true,Bool.false_or,hu]
  refine⟨h.grow,h.more,h.yes,fun hc=>?_⟩
  obtain⟨h1,h2⟩:=h.no hc
  refine⟨h1,fun j hj hjn=>?_⟩
  by_cases ej:j=i
  ·subst ej
   rw[bW]
   exact⟨fun r=>by rw[←e]; exact hA2 r,hB⟩
  ·rw[dU _ _ ej]
   exact h2 j (by omega) hjn
 ·rw[decide_eq_false e,Bool.not_false,Bool.true_or]
  obtain⟨r,hr,h1,h2⟩:=bCi hA hI e hge
  have hlt:=bCk (n:=n) (m:=m) hle hi hr (by rw[bW]; exact h1) h2
  refine⟨h.grow.upd hA2,by have:=h.more; omega,fun _=>by have:=h.more; omega,fun hc=>by cases hc⟩
theorem aN8 {f:VF}{lb:List (Nat×Int×Int)}{n m:Nat}{U D I0:Nat→List Nat}{ua da:Nat→Nat}(hm:(f.regs+63) / 64=m)(hr:f.regs≤1000000)(hn:n≤1000000)(hfn:f.ins.length=n)(hlb:aGs lb f.ins)(x0 x1 x2 x3 x4 x5 x9 x10 x11 x12 x15 x16 x17 x18 x19 x20 x21:TV):∀(i:Nat) (S:aA) (ia oa:Nat→Nat) (I O:Nat→List Nat) (ch:Bool) (x22:TV),i≤n →
  FlS S f lb n m ia oa I O→RS S 4 n m ua U→RS S 5 n m da D→Rd lb f.ins n m U D I0 I O i ch →
  ∃(S':aA) (ia' oa':Nat→Nat) (I' O':Nat→List Nat) (ch':Bool) (y22:TV),lp' (lim K) t27L0 [x0,x1,x2,x3,x4,x5,.ptr 3 76 0,.msl 4 0 0 n n 1,.msl 5 0 0 n n 1,x9,x10,x11,x12,.iv (.bool ch),.iv (.int .i64 ((i:Int)-1)),x15,x16,x17,x18,x19,x20,x21,x22] S
   = .ret (.exit 4,[x0,x1,x2,x3,x4,x5,.ptr 3 76 0,.msl 4 0 0 n n 1,.msl 5 0 0 n n 1,x9,x10,x11,x12,.iv (.bool ch'),.iv (.int .i64 (-1)),x15,x16,x17,x18,x19,x20,x21,y22],S') ∧
   FlS S' f lb n m ia' oa' I' O'∧RS S' 4 n m ua U∧RS S' 5 n m da D∧Rd lb f.ins n m U D I0 I' O' 0 ch'
 | 0,S,ia,oa,I,O,ch,x22,hi,hF,hU,hD,hR=>by
  refine⟨S,ia,oa,I,O,ch,.iv (.bool false),aF K _ _ t27L0.eq_1 ?_,hF,hU,hD,hR⟩
  rw[show ((0:Nat):Int)-1 = -1 from rfl]
  simp (config := { maxSteps := 4000000 }) (disch:=omega) only[go_sem]
 | i+1,S,ia,oa,I,O,ch,x22,hi,hF,hU,hD,hR=>by
  have hin:i<n:=by omega
  obtain⟨S1,A,B,a,b,c37,hF1,hA,hB,hbB,hbA,hk⟩:=bHc hF hm hr hn hfn hlb hin (hU.ok i hin) (hD.ok i hin) (hU.set i hin) (hD.set i hin)
  have hR1:=hR.step hin hA (hF.inn.ok i hin) (B:=B) hbB (fun r=>by rw[hbA r,hbB r]; rfl)
  have hU1:=hU.keep hk (by simp)
  have hD1:=hD.keep hk (by simp)
  have i1:=fun j=>iH (j:=j) (v:=0) (cap:=n) hin
  have s1:=nZ (fun i=>TV.msl (ua i) 0 0 m m 1) hin
  have s2:=nZ (fun i=>TV.msl (da i) 0 0 m m 1) hin
  have g1:=hU.row
  have g2:=hD.row
  rw[show (((i+1:Nat):Int)-1)=(i:Int) by omega]
  generalize (!decide (A=I i))=bb at *
  obtain⟨S',ia',oa',I',O',ch',y22,ih,hx⟩:=aN8 hm hr hn hfn hlb x0 x1 x2 x3 x4 x5 x9 x10 x11 x12 x15 x16 x17 x18 x19 x20 x21 i S1 _ _ _ _ (bb||ch) (.iv (.bool true)) (by omega) hF1 hU1 hD1 hR1
  refine⟨S',ia',oa',I',O',ch',y22,aF K _ _ t27L0.eq_1 ?_,hx⟩
  cases bb with
  | true =>
   rw[Bool.true_or]at ih
   simp (config := { maxSteps := 4000000 }) (disch:=omega) only[go_sem,i1,g1,g2,s1,s2,c37,aD]
   exact congrArg er ih
  | false =>
   rw[Bool.false_or]at ih
   simp (config := { maxSteps := 4000000 }) (disch:=omega) only[go_sem,i1,g1,g2,s1,s2,c37,aD]
   exact congrArg er ih
theorem aN9 {f:VF}{lb:List (Nat×Int×Int)}{n m:Nat}{U D:Nat→List Nat}{ua da:Nat→Nat}(hm:(f.regs+63) / 64=m)(hr:f.regs≤1000000)(hn:n≤1000000)(hfn:f.ins.length=n)(hlb:aGs lb f.ins)(x0 x1 x2 x3 x4 x9 x10 x11 x12 x15 x16 x17 x18 x19 x20:TV):∀(q:Nat) (S:aA) (ia oa:Nat→Nat) (I O:Nat→List Nat) (x14 x21 x22:TV),aEq n m I≤q →
  FlS S f lb n m ia oa I O→RS S 4 n m ua U→RS S 5 n m da D→zF lb f.ins U D I →
  ∃(S':aA) (ia' oa':Nat→Nat) (I' O':Nat→List Nat) (y14 y21 y22:TV),lp' (lim K) t27L1 [x0,x1,x2,x3,x4,.iv (.int .i64 n),.ptr 3 76 0,.msl 4 0 0 n n 1,.msl 5 0 0 n n 1,x9,x10,x11,x12,.iv (.bool true),x14,x15,x16,x17,x18,x19,x20,x21,x22] S
   = .ret (.exit 2,[x0,x1,x2,x3,x4,.iv (.int .i64 n),.ptr 3 76 0,.msl 4 0 0 n n 1,.msl 5 0 0 n n 1,x9,x10,x11,x12,.iv (.bool false),y14,x15,x16,x17,x18,x19,x20,y21,y22],S') ∧
   FlS S' f lb n m ia' oa' I' O'∧RS S' 4 n m ua U∧RS S' 5 n m da D∧zF lb f.ins U D I'∧∀j,j<n→(∀r,bit (I' j) r=eqn lb f.ins U D I' j r)∧∀r,bit (O' j) r=tG lb f.ins I' j r
 | q,S,ia,oa,I,O,x14,x21,x22,hq,hF,hU,hD,hG=>by
  obtain⟨S1,ia1,oa1,I1,O1,ch,y22,l1,hF1,hU1,hD1,hR⟩:=aN8 (I0:=I) hm hr hn hfn hlb x0 x1 x2 x3 x4 (.iv (.int .i64 n)) x9 x10 x11 x12 x15 x16 x17 x18 x19 x20 (.iv (.bool true)) n S ia oa I O false x22 (Nat.le_refl _) hF hU hD ⟨hG,Nat.le_refl _,(fun h=>by cases h),fun _=>⟨rfl,fun j h1 h2=>by omega⟩⟩
  cases ch with
  | false =>
   obtain⟨h1,h2⟩:=hR.no rfl
   refine⟨S1,ia1,oa1,I1,O1,.iv (.int .i64 (-1)),.iv (.bool false),y22,?_,hF1,hU1,hD1,hR.grow,fun j hj=>h2 j (Nat.zero_le _) hj⟩
   have l2:lp' (lim K) t27L1 [x0,x1,x2,x3,x4,.iv (.int .i64 n),.ptr 3 76 0,.msl 4 0 0 n n 1,.msl 5 0 0 n n 1,x9,x10,x11,x12,.iv (.bool false),.iv (.int .i64 (-1)),x15,x16,x17,x18,x19,x20,.iv (.bool true),y22] S1=.ret (.exit 2,[x0,x1,x2,x3,x4,.iv (.int .i64 n),.ptr 3 76 0,.msl 4 0 0 n n 1,.msl 5 0 0 n n 1,x9,x10,x11,x12,.iv (.bool false),.iv (.int .i64 (-1)),x15,x16,x17,x18,x19,x20,.iv (.bool false),y22],S1):=by
    refine aF K _ _ t27L1.eq_1 ?_
    simp (config := { maxSteps := 4000000 }) (disch:=omega) only[go_sem]
   refine aF K _ _ t27L1.eq_1 ?_
   simp (config := { maxSteps := 4000000 }) (disch:=omega) only[go_sem,aD]
   rw[l1]
   simp (config := { maxSteps := 4000000 }) (disch:=omega) only[go_sem]
   exact congrArg er l2
  | true =>
   have hlt:=hR.yes rfl
   match q,hq with
   | 0,hq=>omega
   | q+1,hq =>
    obtain⟨S',ia',oa',I',O',y14,y21,z22,ih,hx⟩:=aN9 hm hr hn hfn hlb x0 x1 x2 x3 x4 x9 x10 x11 x12 x15 x16 x17 x18 x19 x20 q S1 ia1 oa1 I1 O1 (.iv (.int .i64 (-1))) (.iv (.bool true)) y22 (by omega) hF1 hU1 hD1 hR.grow
    refine⟨S',ia',oa',I',O',y14,y21,z22,aF K _ _ t27L1.eq_1 ?_,hx⟩
    simp (config := { maxSteps := 4000000 }) (disch:=omega) only[go_sem,aD]
    rw[l1]
    simp (config := { maxSteps := 4000000 }) (disch:=omega) only[go_sem]
    exact congrArg er ih
theorem bCl (v:VI)(h:(15≤v.op∧v.op≤22)∨v.op=24∨v.op=64∨v.op=74):∃t',bN t' (bV v)∧TM.Pure K 56 [.iv (.agg (aK v))] (.iv (.sl t' (TM.one (.int .i64) (bV v)))):=by
 have hM:bV v=tdy [v.a]:=by unfold bV; rw[if_neg (by omega),if_pos (by omega)]
 rw[hM]
 have h0:([.cells 0 false [vI v.a]]:aA)[0]? = some (.cells 0 false ([v.a].map vI++[])):=rfl
 obtain⟨J,c22⟩:=vL (by simp) (cap:=1) (by simp) h0 (fV [v.a])
 have c21:=zE v.op
 rw[decide_eq_false (by omega)]at c21
 refine⟨.no,aCy _,cV (S:=[.cells 0 false ((tdy [v.a]).map vI++J)]) (aP K _ (fn:=t56) rfl rfl ?_) (jP (j:=0) (v:=0) (b:=false) (J:=J) rfl 1)⟩
 simp only[vI,List.length_cons,List.length_nil,List.set_cons_zero,Nat.zero_add,Nat.reduceAdd]at c22
 rcases h with h|h|h|h<;>simp (config := { maxSteps := 4000000 }) (disch:=omega) only[t56,go_sem,aK,List.map_cons,List.map_nil,c22,aB c21]
theorem bCm (v:VI)(h:v.op<1∨v.op=23∨(32≤v.op∧v.op≤63)∨v.op=65∨v.op=66∨v.op=69∨v.op=70∨v.op=71∨v.op=73∨74<v.op):∃t',bN t' (bV v)∧TM.Pure K 56 [.iv (.agg (aK v))] (.iv (.sl t' (TM.one (.int .i64) (bV v)))):=by
 have hM:bV v=[]:=by unfold bV; rw[if_neg (by omega),if_neg (by omega),if_neg (by omega)]
 rw[hM]
 have c21:=zE v.op
 rw[decide_eq_false (by omega)]at c21
 refine⟨.nil,bN.nil,aH t56 rfl rfl ?_⟩
 rcases h with h|h|h|h|h|h|h|h|h|h<;>simp (config := { maxSteps := 4000000 }) (disch:=omega) only[t56,go_sem,aK,List.map_cons,List.map_nil,aB c21]<;>rfl
theorem bCn (v:VI)(hu:v.us.length≤999990)(ht:bN v.tu v.us)(h:v.op=67∨v.op=68∨v.op=72):∃t',bN t' (bV v)∧TM.Pure K 56 [.iv (.agg (aK v))] (.iv (.sl t' (TM.one (.int .i64) (bV v)))):=by
 have hM:bV v=tdy (v.us++[26]):=by unfold bV; rw[if_neg (by omega),if_neg (by omega),if_pos h]
 rw[hM]
 have c21:=zE v.op
 rw[decide_eq_false (by omega)]at c21
 rcases bG8 v.tu v.us ht (by omega) [] with⟨hu0,t0,ht0,c23⟩|⟨hu0,c23⟩
 ·rw[hu0]at c23 ⊢
  have e1:=aUx (S:=[]) 26 ht0 .full
  have h0:([.cells 0 true [vI 26]]:aA)[0]? = some (.cells 0 true ([(26:Int)].map vI++[])):=rfl
  obtain⟨J,c22⟩:=vL (by simp) (cap:=1) (by simp) h0 (fV [(26:Int)])
  refine⟨.no,aCy _,cV (S:=[.cells 0 true ((tdy [(26:Int)]).map vI++J)]) (aP K _ (fn:=t56) rfl rfl ?_) (jP (j:=0) (v:=0) (b:=true) (J:=J) rfl 1)⟩
  simp only[vI,List.length_cons,List.length_nil,List.set_cons_zero,Nat.zero_add,Nat.reduceAdd,List.nil_append]at c22 e1
  rcases h with h|h|h<;>simp (config := { maxSteps := 4000000 }) (disch:=omega) only[t56,go_sem,aK,List.map_cons,List.map_nil,hu0,c23,e1,c22,aB c21]
 ·have hS0:([.cells 0 true (v.us.map vI)]:aA)[0]? = some (.cells 0 true (v.us.map vI)):=rfl
  have e1:=aUw (S:=[.cells 0 true (v.us.map vI)]) true 26 hS0 (by omega) .full
  have h0:([.cells 1 true ((v.us++[26]).map vI)]:aA)[0]? = some (.cells 1 true ((v.us++[(26:Int)]).map vI++[])):=by simp
  obtain⟨J,c22⟩:=vL (by simp; omega) (cap:=v.us.length+1) (by simp) h0 (fV (v.us++[(26:Int)]))
  refine⟨.no,aCy _,cV (S:=[.cells 1 true ((tdy (v.us++[(26:Int)])).map vI++J)]) (aP K _ (fn:=t56) rfl rfl ?_) (jP (j:=0) (v:=1) (b:=true) (J:=J) rfl (v.us.length+1))⟩
  rw[List.length_append,List.length_singleton]at c22
  simp only[List.set_cons_zero,Nat.zero_add,List.nil_append,List.length_nil]at c22 e1 c23
  rcases h with h|h|h<;>simp (config := { maxSteps := 4000000 }) (disch:=omega) only[t56,go_sem,aK,List.map_cons,List.map_nil,c23,e1,c22,aB c21]
theorem bHe (v:VI)(hu:v.us.length≤999990)(ht:bN v.tu v.us):∃t',bN t' (bV v)∧TM.Pure K 56 [.iv (.agg (aK v))] (.iv (.sl t' (TM.one (.int .i64) (bV v)))):=by
 by_cases h1:(1≤v.op∧v.op≤14)∨v.op=25∨(26≤v.op∧v.op≤31)
 ·exact bB6 v h1
 ·by_cases h2:(15≤v.op∧v.op≤22)∨v.op=24∨v.op=64∨v.op=74
  ·exact bCl v h2
  ·by_cases h3:v.op=67∨v.op=68∨v.op=72
   ·exact bCn v hu ht h3
   ·exact bCm v (by omega)
theorem aU5 (d:Int)(b0:aG)(x0 x1 x2 x5 x6 x7:TV):∀(k i:Nat) (x4 x9:TV),i+k=25→1≤i →
  ∃y4 y9,lp' (lim K) t12L0 [x0,x1,x2,.msl 1 (i-1) 0 (3+i) (3+i) 1,x4,x5,x6,x7,.iv (.int .i64 (i:Int)),x9] [b0,.cells (i-1) true (([d,26,31]++bY.take i).map vI)]
   = .ret (.exit 1,[x0,x1,x2,.msl 1 24 0 28 28 1,y4,x5,x6,x7,.iv (.int .i64 25),y9],[b0,.cells 24 true (([d,26,31]++bY.take 25).map vI)])
 | 0,i,x4,x9,h,hi=>by
  obtain rfl:i=25:=by omega
  refine⟨x4,.iv (.bool false),aF K _ _ t12L0.eq_1 ?_⟩
  simp (config := { maxSteps := 4000000 }) (disch:=omega) only[go_sem]
  rfl
 | k+1,i,x4,x9,h,hi=>by
  have hlen:([d,26,31]++bY.take i).length=3+i:=by simp[bY]; omega
  have e1:=aUw (S:=[b0,.cells (i-1) true (([d,26,31]++bY.take i).map vI)]) (j:=1) false ((i:Int)+1) rfl (by omega) .full
  have ht:([d,26,31]++bY.take i)++[(i:Int)+1]=[d,26,31]++bY.take (i+1):=by
   rw[nX (by simp[bY]; omega),←List.append_assoc]
   congr 2
   simp[bY,List.getD,show i<26 by omega]
  rw[ht,hlen,show i-1+1=i by omega]at e1
  obtain⟨y4,y9,ih⟩:=aU5 d b0 x0 x1 x2 x5 x6 x7 k (i+1) (.iv (.int .i64 i)) (.iv (.bool true)) (by omega) (by omega)
  rw[show ((i+1:Nat):Int)=(i:Int)+1 by omega,show i+1-1=i by omega,show 3+(i+1)=3+i+1 by omega]at ih
  refine⟨y4,y9,aF K _ _ t12L0.eq_1 ?_⟩
  simp only[List.set_cons_succ,List.set_cons_zero]at e1
  generalize hX:([d,26,31]++bY.take i).map vI=X at *
  simp (config := { maxSteps := 4000000 }) (disch:=omega) only[go_sem,e1,aD]
  exact congrArg er ih
theorem bCo (d:Int)(x0 x1 x2 x4 x5 x6 x7 x9:TV) : 
  ∃y4 y9,lp' (lim K) t12L0 [x0,x1,x2,.msl 0 0 0 3 3 1,x4,x5,x6,x7,.iv (.int .i64 0),x9] [.cells 0 false ([d,26,31].map vI)]
   = .ret (.exit 1,[x0,x1,x2,.msl 1 24 0 28 28 1,y4,x5,x6,x7,.iv (.int .i64 25),y9],[.cells 0 false ([d,26,31].map vI),.cells 24 true (([d,26,31]++bY.take 25).map vI)]):=by
 have e1:=bB0 (S:=[.cells 0 false ([d,26,31].map vI)]) (j:=0) (C:=[d,26,31]) false 1 rfl (by simp) .full
 obtain⟨y4,y9,ih⟩:=aU5 d (.cells 0 false ([d,26,31].map vI)) x0 x1 x2 x5 x6 x7 24 1 (.iv (.int .i64 0)) (.iv (.bool true)) (by omega) (by omega)
 refine⟨y4,y9,aF K _ _ t12L0.eq_1 ?_⟩
 rw[show ((1:Nat):Int)=1 from rfl,show 1-1=0 from rfl,show 3+1=4 from rfl,show bY.take 1=[1] by decide]at ih
 simp only[List.length_cons,List.length_nil,Nat.zero_add,Nat.reduceAdd,List.cons_append,List.nil_append]at e1
 generalize hX:[d,26,31].map vI=X at *
 have hw:IntKind.i64.wrap 1=1:=by decide
 simp (config := { maxSteps := 4000000 }) (disch:=omega) only[go_sem,hw,e1]
 exact congrArg er ih
theorem bCp (v:VI)(h:(1≤v.op∧v.op≤24)∨v.op=64∨v.op=69∨v.op=70∨v.op=71∨v.op=73):∃t',bN t' (bM v)∧TM.Pure K 12 [.iv (.agg (aK v))] (.iv (.sl t' (TM.one (.int .i64) (bM v)))):=by
 have hM:bM v=tdy [v.d]:=by unfold bM; rw[if_pos (by omega)]
 rw[hM]
 have h0:([.cells 0 false [vI v.d]]:aA)[0]? = some (.cells 0 false ([v.d].map vI++[])):=rfl
 obtain⟨J,c22⟩:=vL (by simp) (cap:=1) (by simp) h0 (fV [v.d])
 refine⟨.no,aCy _,cV (S:=[.cells 0 false ((tdy [v.d]).map vI++J)]) (aP K _ (fn:=t12) rfl rfl ?_) (jP (j:=0) (v:=0) (b:=false) (J:=J) rfl 1)⟩
 simp only[vI,List.length_cons,List.length_nil,List.set_cons_zero,Nat.zero_add,Nat.reduceAdd]at c22
 rcases h with h|h|h|h|h|h<;>simp (config := { maxSteps := 4000000 }) (disch:=omega) only[t12,go_sem,aK,List.map_cons,List.map_nil,c22]
theorem bCq (v:VI)(h:v.op<1∨(25≤v.op∧v.op≤63)∨v.op=65∨v.op=66∨v.op=68∨v.op=72∨73<v.op):∃t',bN t' (bM v)∧TM.Pure K 12 [.iv (.agg (aK v))] (.iv (.sl t' (TM.one (.int .i64) (bM v)))):=by
 have hM:bM v=[]:=by unfold bM; rw[if_neg (by omega),if_neg (by omega)]
 rw[hM]
 refine⟨.nil,bN.nil,aH t12 rfl rfl ?_⟩
 rcases h with h|h|h|h|h|h|h<;>simp (config := { maxSteps := 4000000 }) (disch:=omega) only[t12,go_sem,aK,List.map_cons,List.map_nil]<;>rfl
theorem bCr (v:VI)(h:v.op=67):∃t',bN t' (bM v)∧TM.Pure K 12 [.iv (.agg (aK v))] (.iv (.sl t' (TM.one (.int .i64) (bM v)))):=by
 have hM:bG1 ([v.d,26,31]++bY.take 25) (bM v):=by
  unfold bM
  rw[if_neg (by omega),if_pos h]
  have t:=fV (bY++[31,v.d])
  refine⟨t.rise,fun x=>(t.mem x).trans ?_⟩
  have h26:∀x:Int,x∈bY↔x=26∨x∈bY.take 25:=by
   intro x
   have e:bY=bY.take 25++[26]:=by decide
   conv=>lhs; rw[e]
   simp only[List.mem_append,List.mem_singleton]
   constructor<;>(rintro (h|h)<;>simp[h])
  simp only[List.mem_append,List.mem_cons,List.not_mem_nil,or_false,h26]
  constructor
  ·rintro⟨h1,h2⟩
   refine⟨?_,h2⟩
   rcases h1 with (h1|h1)|h1|h1
   ·exact .inl (.inr (.inl h1))
   ·exact .inr h1
   ·exact .inl (.inr (.inr h1))
   ·exact .inl (.inl h1)
  ·rintro⟨h1,h2⟩
   refine⟨?_,h2⟩
   rcases h1 with (h1|h1|h1)|h1
   ·exact .inr (.inr h1)
   ·exact .inl (.inl h1)
   ·exact .inr (.inl h1)
   ·exact .inl (.inr h1)
 have hlen:([v.d,26,31]++bY.take 25).length=28:=by simp[bY]
 obtain⟨y4,y9,lo⟩:=bCo v.d (.iv (.agg (aK v))) (.lb ((aK v).map .iv)) (.iv (.sl .nil [])) u_ (.iv (.bool false)) (.iv (.bool false)) (.iv (.bool true)) u_
 rw[aY,bP]at lo
 have h0:([.cells 0 false ([v.d,26,31].map vI),.cells 24 true (([v.d,26,31]++bY.take 25).map vI)]:aA)[1]? = some (.cells 24 true (([v.d,26,31]++bY.take 25).map vI++[])):=by rw[List.append_nil]; rfl
 obtain⟨J,c22⟩:=vL (by omega) (cap:=28) (by omega) h0 hM
 rw[hlen]at c22
 refine⟨.no,aCy _,cV (S:=[.cells 0 false ([v.d,26,31].map vI),.cells 24 true ((bM v).map vI++J)]) (aP K _ (fn:=t12) rfl rfl ?_) (jP (j:=1) (v:=24) (b:=true) (J:=J) rfl 28)⟩
 simp only[List.set_cons_succ,List.set_cons_zero]at c22
 simp (config := { maxSteps := 4000000 }) (disch:=omega) only[t12,go_sem,aK,List.map_cons,List.map_nil]
 have hd3:[v.d,26,31].map vI=[TV.iv (.int .i64 v.d),.iv (.int .i64 26),.iv (.int .i64 31)]:=rfl
 generalize hX:([v.d,26,31]++bY.take 25).map vI=X at *
 rw[hd3]at lo c22
 rw[lo]
 simp (config := { maxSteps := 4000000 }) (disch:=omega) only[go_sem,c22]
 rfl
theorem aU6 (v:VI):∃t',bN t' (bM v)∧TM.Pure K 12 [.iv (.agg (aK v))] (.iv (.sl t' (TM.one (.int .i64) (bM v)))):=by
 by_cases h1:(1≤v.op∧v.op≤24)∨v.op=64∨v.op=69∨v.op=70∨v.op=71∨v.op=73
 ·exact bCp v h1
 ·by_cases h3:v.op=67
  ·exact bCr v h3
  ·exact bCq v (by omega)
theorem aGt (l:List (Nat×Int×Int))(c:Nat)(k:Int):lkB (.leaf .int) (.agg [.int .i64 0]) true (some (.mp (mpR vC l) c)) (.iv (.int .i64 k))=some (.tup [.iv (.agg [.int .i64 (nJ l k)]),.iv (.bool (nV l k))]):=by
 rw[aNm]
 simp only[nJ,nV]
 cases gN l k<;>rfl
def dB (l:List VI)(L:Int):Option Int:=(l.findIdx? fun x=>decide (x.op=65)&&decide (x.lb=L)).map fun k:Nat=>(k:Int)
theorem aGu (l:List VI)(x:VI)(L:Int):dB (l++[x]) L=match dB l L with
  | some k=>some k
  | none=>if x.op=65∧x.lb=L then some (l.length:Int) else none:=by
 unfold dB
 rw[List.findIdx?_append]
 cases h:l.findIdx? (fun x=>decide (x.op=65)&&decide (x.lb=L)) with
 | some k=>simp
 | none =>
  by_cases e:x.op=65∧x.lb=L
  ·simp[e]
  ·rw[if_neg e]
   have:(decide (x.op=65)&&decide (x.lb=L))=false:=by
    cases h1:(decide (x.op=65)&&decide (x.lb=L)) with
    | false=>rfl
    | true=>simp at h1; exact absurd h1 e
   simp[List.findIdx?_cons,this]
structure RP (S:aA) (j n m i:Nat) (ia:Nat→Nat) (I:Nat→List Nat):Prop where
 row:S[j]? = some (.cells 0 false (cF n fun q=>if q<i then .msl (ia q) 0 0 m m 1 else .iv (.sl .nil [])))
 ge:∀q,q<i→6≤ia q
 set:∀q,q<i→S[ia q]? = some (.cells 0 false ((I q).map uI))
 ok:∀q,q<i→WOK m (I q)
theorem RP.done {S:aA}{j n m:Nat}{ia:Nat→Nat}{I:Nat→List Nat}(h:RP S j n m n ia I):RS S j n m ia I:=by
 refine⟨?_,h.ge,h.set,h.ok⟩
 rw[h.row]
 congr 2
 apply List.map_congr_left
 intro q hq
 rw[if_pos (List.mem_range.1 hq)]
def LOW:List Nat:=[0,1,2,4,5]
theorem RP.step {S S':aA}{j n m i:Nat}{ia:Nat→Nat}{I:Nat→List Nat}(h:RP S j n m i ia I)(k:iE LOW S S'){a:Nat}{W:List Nat}(ha:6≤a)(hW:WOK m W)(hr:S'[j]? = some (.cells 0 false (cF n (upd (fun q=>if q<i then .msl (ia q) 0 0 m m 1 else .iv (.sl .nil [])) i (.msl a 0 0 m m 1)))))(hs:S'[a]? = some (.cells 0 false (W.map uI))):RP S' j n m (i+1) (upd ia i a) (upd I i W):=by
 refine⟨?_,fun q hq=>?_,fun q hq=>?_,fun q hq=>?_⟩
 ·rw[hr]
  congr 3
  funext q
  unfold upd
  by_cases e:q=i
  ·subst e; simp
  ·by_cases e2:q<i
   ·rw[if_neg e,if_neg e]; dsimp only; rw[if_pos e2,if_pos (by omega)]
   ·rw[if_neg e]; dsimp only; rw[if_neg e2,if_neg (by omega)]
 ·unfold upd; split
  ·exact ha
  ·exact h.ge q (by omega)
 ·by_cases e:q=i
  ·subst e; rw[bW,bW]; exact hs
  ·rw[dU _ _ e,dU _ _ e]
   have:=h.ge q (by omega)
   exact k.get _ _ (by simp[LOW]; omega) (h.set q (by omega))
 ·unfold upd; split
  ·exact hW
  ·exact h.ok q (by omega)
structure FP (S:aA) (f:VF) (lb:List (Nat×Int×Int)) (n m i:Nat) (ia oa ua da:Nat→Nat) (I O U D:Nat→List Nat):Prop where
 lab:∃c,S[0]? = some (.mp (mpR vC lb) c)
 lbs:∀L,gN lb L=dB (f.ins.take i) L
 inn:RP S 1 n m i ia I
 out:RP S 2 n m i oa O
 us:RP S 4 n m i ua U
 ds:RP S 5 n m i da D
 flw:S[3]? = some (.cells 76 false [.iv (.int .i64 f.fn),.iv (.int .i64 f.regs),.iv (.int .i64 f.sl),.iv (.int .i64 f.nd),.iv (.int .i64 f.pr),.iv (.bool f.rs),.iv (.sl f.ti (f.ins.map aK)),.map 0,.msl 1 0 0 n n 1,.msl 2 0 0 n n 1])
 len:6≤S.length
 zer:∀q r,q<i→bit (I q) r=false
 use:∀q r,q<i→(bit (U q) r=true↔(r:Int)∈bV (f.ins.getD q default)∧r<f.regs)
 dfn:∀q r,q<i→(bit (D q) r=true↔(r:Int)∈bM (f.ins.getD q default)∧r<f.regs)
theorem aP2 (v:VI):∀x∈bV v,0≤x:=by
 intro x hx
 unfold bV at hx
 repeat' split at hx
 all_goals first|(have:=aEl hx; omega)|cases hx
theorem aP3 (v:VI):∀x∈bM v,0≤x:=by
 intro x hx
 unfold bM at hx
 repeat' split at hx
 all_goals first|(have:=aEl hx; omega)|cases hx
theorem aCz (v:VI):(bV v).length≤v.us.length+2:=by
 unfold bV
 repeat' split
 ·exact Nat.le_trans (tF _) (by simp)
 ·exact Nat.le_trans (tF _) (by simp)
 ·exact Nat.le_trans (tF _) (by simp)
 ·simp
theorem qU (v:VI):(bM v).length≤30:=by
 unfold bM
 repeat' split
 ·exact Nat.le_trans (tF _) (by simp)
 ·exact Nat.le_trans (tF _) (by simp[bY])
 ·simp
def pJ (T:aA)(r1 r2 r4 r5 cU cD cI cO:aG):aA:=((((T++[cU]++[cD]).set 4 r4).set 5 r5++[cI]++[cO]).set 1 r1).set 2 r2
theorem aEr {T:aA}(r1 r2 r4 r5 cU cD cI cO:aG)(h6:6≤T.length):pJ T r1 r2 r4 r5 cU cD cI cO=(((T.set 4 r4).set 5 r5).set 1 r1).set 2 r2++[cU,cD,cI,cO]:=by
 unfold pJ
 have e1:T++[cU]++[cD]=T++[cU,cD]:=by simp
 have e2:((T++[cU,cD]).set 4 r4).set 5 r5=(T.set 4 r4).set 5 r5++[cU,cD]:=by
  rw[List.set_append_left _ _ (by omega),List.set_append_left _ _ (by rw[List.length_set]; omega)]
 have hX:((T.set 4 r4).set 5 r5).length=T.length:=by simp
 rw[e1,e2]
 generalize (T.set 4 r4).set 5 r5=X at *
 have e3:X++[cU,cD]++[cI]++[cO]=X++[cU,cD,cI,cO]:=by simp
 rw[e3,List.set_append_left _ _ (by omega),List.set_append_left _ _ (by rw[List.length_set]; omega)]
theorem aGv (T:aA)(r1 r2 r4 r5 cU cD cI cO:aG):(pJ T r1 r2 r4 r5 cU cD cI cO).length=T.length+4:=by unfold pJ; simp
theorem aU7 {T:aA}(r1 r2 r4 r5 cU cD cI cO:aG)(h6:6≤T.length):(pJ T r1 r2 r4 r5 cU cD cI cO)[0]? = T[0]? ∧ (pJ T r1 r2 r4 r5 cU cD cI cO)[3]? = T[3]? ∧ (pJ T r1 r2 r4 r5 cU cD cI cO)[1]? = some r1∧(pJ T r1 r2 r4 r5 cU cD cI cO)[2]? = some r2∧(pJ T r1 r2 r4 r5 cU cD cI cO)[4]? = some r4∧(pJ T r1 r2 r4 r5 cU cD cI cO)[5]? = some r5:=by
 rw[aEr _ _ _ _ _ _ _ _ h6]
 refine⟨?_,?_,?_,?_,?_,?_⟩<;>rw[List.getElem?_append_left (by simp; omega)]
 ·rw[aL (by decide),aL (by decide),aL (by decide),aL (by decide)]
 ·rw[aL (by decide),aL (by decide),aL (by decide),aL (by decide)]
 ·rw[aL (by decide),bE (by simp; omega)]
 ·rw[bE (by simp; omega)]
 ·rw[aL (by decide),aL (by decide),aL (by decide),bE (by omega)]
 ·rw[aL (by decide),aL (by decide),bE (by simp; omega)]
theorem aU8 {T:aA}(r1 r2 r4 r5 cU cD cI cO:aG)(h6:6≤T.length):(pJ T r1 r2 r4 r5 cU cD cI cO)[T.length]? = some cU∧(pJ T r1 r2 r4 r5 cU cD cI cO)[T.length+1]? = some cD∧(pJ T r1 r2 r4 r5 cU cD cI cO)[T.length+2]? = some cI∧(pJ T r1 r2 r4 r5 cU cD cI cO)[T.length+3]? = some cO:=by
 rw[aEr _ _ _ _ _ _ _ _ h6]
 have hl:((((T.set 4 r4).set 5 r5).set 1 r1).set 2 r2).length=T.length:=by simp
 generalize (((T.set 4 r4).set 5 r5).set 1 r1).set 2 r2=X at *
 rw[←hl]
 exact⟨gN0 ..,gN1 ..,gN2 ..,gN3 ..⟩
theorem aP4 {T:aA}(r1 r2 r4 r5 cU cD cI cO:aG)(h6:6≤T.length):iE LOW T (pJ T r1 r2 r4 r5 cU cD cI cO):=by
 refine⟨by rw[aGv]; omega,fun q b hq hb=>?_⟩
 simp only[LOW,List.mem_cons,List.not_mem_nil,or_false,not_or]at hq
 rw[aEr _ _ _ _ _ _ _ _ h6]
 refine aX ?_ _
 rw[aL (by omega),aL (by omega),aL (by omega),aL (by omega)]
 exact hb
def flB (f:VF)(n:Nat):aG:=.cells 76 false [.iv (.int .i64 f.fn),.iv (.int .i64 f.regs),.iv (.int .i64 f.sl),.iv (.int .i64 f.nd),.iv (.int .i64 f.pr),.iv (.bool f.rs),.iv (.sl f.ti (f.ins.map aK)),.map 0,.msl 1 0 0 n n 1,.msl 2 0 0 n n 1]
theorem aP5 {f:VF}{n m:Nat}(hm:(f.regs+63) / 64=m)(hr:f.regs≤1000000)(T:aA)(h6:6≤T.length)(g1 g2 g4 g5:Nat→TV)(b1:T[1]? = some (aG.cells 0 false (cF n g1)))(b2:T[2]? = some (aG.cells 0 false (cF n g2)))(b4:T[4]? = some (aG.cells 0 false (cF n g4)))(b5:T[5]? = some (aG.cells 0 false (cF n g5)))(b3:T[3]? = some (flB f n))
  (tU tD:Tag) (U D:List Int) (hU:U.length≤2000000) (hD:D.length≤2000000) (pU:∀x∈U,0≤x) (pD:∀x∈D,0≤x) (r1 r2 r4 r5:aG) :
  ∃WU WD WI WO:List Nat,(lim K).call 55 [.iv (.int .i64 f.regs),.iv (.sl tU (TM.one (.int .i64) U))] T=.ret (.msl T.length 0 0 m m 1,T++[aG.cells 0 false (WU.map uI)]) ∧
   (lim K).call 55 [.iv (.int .i64 f.regs),.iv (.sl tD (TM.one (.int .i64) D))] (T++[aG.cells 0 false (WU.map uI)])=.ret (.msl (T.length+1) 0 0 m m 1,T++[aG.cells 0 false (WU.map uI)]++[aG.cells 0 false (WD.map uI)]) ∧
   (lim K).call 55 [.iv (.int .i64 f.regs),.iv (.sl .nil [])] (((T++[aG.cells 0 false (WU.map uI)]++[aG.cells 0 false (WD.map uI)]).set 4 r4).set 5 r5)=.ret (.msl (T.length+2) 0 0 m m 1,((T++[aG.cells 0 false (WU.map uI)]++[aG.cells 0 false (WD.map uI)]).set 4 r4).set 5 r5++[aG.cells 0 false (WI.map uI)]) ∧
   (lim K).call 55 [.iv (.int .i64 f.regs),.iv (.sl .nil [])] (((T++[aG.cells 0 false (WU.map uI)]++[aG.cells 0 false (WD.map uI)]).set 4 r4).set 5 r5++[aG.cells 0 false (WI.map uI)])=.ret (.msl (T.length+3) 0 0 m m 1,((T++[aG.cells 0 false (WU.map uI)]++[aG.cells 0 false (WD.map uI)]).set 4 r4).set 5 r5++[aG.cells 0 false (WI.map uI)]++[aG.cells 0 false (WO.map uI)]) ∧
   (T++[aG.cells 0 false (WU.map uI)]++[aG.cells 0 false (WD.map uI)])[4]? = some (aG.cells 0 false (cF n g4))∧((T++[aG.cells 0 false (WU.map uI)]++[aG.cells 0 false (WD.map uI)]).set 4 r4)[5]? = some (aG.cells 0 false (cF n g5)) ∧
   (((T++[aG.cells 0 false (WU.map uI)]++[aG.cells 0 false (WD.map uI)]).set 4 r4).set 5 r5)[3]? = some (flB f n) ∧
   (((T++[aG.cells 0 false (WU.map uI)]++[aG.cells 0 false (WD.map uI)]).set 4 r4).set 5 r5++[aG.cells 0 false (WI.map uI)]++[aG.cells 0 false (WO.map uI)])[1]? = some (aG.cells 0 false (cF n g1)) ∧
   ((((T++[aG.cells 0 false (WU.map uI)]++[aG.cells 0 false (WD.map uI)]).set 4 r4).set 5 r5++[aG.cells 0 false (WI.map uI)]++[aG.cells 0 false (WO.map uI)]).set 1 r1)[2]? = some (aG.cells 0 false (cF n g2)) ∧
   WOK m WU∧WOK m WD∧WOK m WI∧WOK m WO∧(∀r:Nat,bit WU r=true↔(r:Int)∈U∧r<f.regs)∧(∀r:Nat,bit WD r=true↔(r:Int)∈D∧r<f.regs)∧(∀r:Nat,bit WI r=false):=by
 obtain⟨WU,e1,w1,u1⟩:=zB hr tU U hU pU T
 rw[hm]at e1 w1
 obtain⟨WD,e2,w2,u2⟩:=zB hr tD D hD pD (T++[aG.cells 0 false (WU.map uI)])
 rw[hm]at e2 w2
 obtain⟨WI,e3,w3,u3⟩:=zB hr .nil [] (by simp) (by simp) (((T++[aG.cells 0 false (WU.map uI)]++[aG.cells 0 false (WD.map uI)]).set 4 r4).set 5 r5)
 rw[hm]at e3 w3
 obtain⟨WO,e4,w4,u4⟩:=zB hr .nil [] (by simp) (by simp) (((T++[aG.cells 0 false (WU.map uI)]++[aG.cells 0 false (WD.map uI)]).set 4 r4).set 5 r5++[aG.cells 0 false (WI.map uI)])
 rw[hm]at e4 w4
 rw[tC]at e3 e4
 have l2:(T++[aG.cells 0 false (WU.map uI)]).length=T.length+1:=by simp
 have l3:(((T++[aG.cells 0 false (WU.map uI)]++[aG.cells 0 false (WD.map uI)]).set 4 r4).set 5 r5).length=T.length+2:=by simp
 have l4:(((T++[aG.cells 0 false (WU.map uI)]++[aG.cells 0 false (WD.map uI)]).set 4 r4).set 5 r5++[aG.cells 0 false (WI.map uI)]).length=T.length+3:=by simp
 rw[l2]at e2
 rw[l3]at e3
 rw[l4]at e4
 refine⟨WU,WD,WI,WO,e1,e2,e3,e4,?_,?_,?_,?_,?_,w1,w2,w3,w4,u1,u2,fun r=>?_⟩
 ·exact aX (aX b4 _) _
 ·rw[aL (by decide)]; exact aX (aX b5 _) _
 ·rw[aL (by decide),aL (by decide)]; exact aX (aX b3 _) _
 ·refine aX (aX ?_ _) _
  rw[aL (by decide),aL (by decide)]; exact aX (aX b1 _) _
 ·rw[aL (by decide)]
  refine aX (aX ?_ _) _
  rw[aL (by decide),aL (by decide)]; exact aX (aX b2 _) _
 ·cases h:bit WI r with
  | false=>rfl
  | true=>have:=(u3 r).1 h; simp at this
end Go.Proofs.YtmlhjdekfihdnaaGreatDoor
