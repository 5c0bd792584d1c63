/- Some texts of the proof, joined. Condition: none. -/
import Derived.Test.YtmlhjdekfihdnaaGreatDoorJc
import Derived.Test.YtmlhjdekfihdnaaGreatDoorJa
import Derived.Test.YtmlhjdekfihdnaaGreatDoorTmF
import Derived.Test.YtmlhjdekfihdnaaGreatDoorTmE
import Derived.Test.YtmlhjdekfihdnaaGreatDoorKr2
set_option maxRecDepth 100000
set_option maxHeartbeats 64000000
set_option linter.unusedSimpArgs false
set_option linter.unusedVariables false
namespace Go.Proofs.YtmlhjdekfihdnaaGreatDoor
open Go Go.TM
structure OR (S:aA) (n:Nat) (ja:Nat→Nat) (R:Nat→List Int):Prop where
 row:S[0]? = some (.cells 0 false (cF n fun i=>acc (ja i) (aT (R i))))
 tok:∀i,i<n→R i≠[]→S[ja i]? = some (.tok (R i).length 1 3)
 inj:∀i k,i<n→k<n→R i≠[]→R k≠[]→ja i=ja k→i=k
theorem vO {l:List Int}:aT l=[]↔l=[]:=by
 constructor
 ·intro h
  have:=eG l
  rw[h]at this
  exact List.length_eq_zero_iff.1 this.symm
 ·rintro rfl; rfl
theorem aQd (l:List Int)(x:Int):aT l++[[.int .i64 x]]=aT (l++[x]):=by simp[aT,TM.one]
theorem OR.push {S:aA}{n:Nat}{ja:Nat→Nat}{R:Nat→List Int}(h:OR S n ja R){i:Nat}(hi:i<n)(x:Int)(hl:(R i).length≤100000) :
  ∃(j':Nat) (S1:aA),bI false 1 8 3 S (acc (ja i) (aT (R i))) (.iv (.sl .full [[.int .i64 x]]))=some (acc j' (aT (R i++[x])),S1) ∧
   S1[0]? = some (.cells 0 false (cF n fun i=>acc (ja i) (aT (R i)))) ∧
   OR (S1.set 0 (.cells 0 false (cF n (upd (fun i=>acc (ja i) (aT (R i))) i (acc j' (aT (R i++[x]))))))) n (upd ja i j') (upd R i (R i++[x])):=by
 have hat:At 1 3 (aT (R i)) (ja i) S:=fun h0=>by rw[eG]; exact h.tok i hi (fun e=>h0 (vO.2 e))
 have ap:=aVb (b:=8) (c:=[.int .i64 x]) (t:=.full) hat ⟨rfl,rfl⟩ (tB (R i)) (cX (by rw[eG]; omega))
 rw[aQd]at ap
 have hrow:=qV hat h.row (by simp)
 have h0:=cW h.row
 have hne:∀k,k<n→R k≠[]→ja k≠0:=fun k hk hr e=>by
  have:=h.tok k hk hr
  rw[e,h.row]at this
  cases this
 have hf:∀j',upd (fun i=>acc (ja i) (aT (R i))) i (acc j' (aT (R i++[x])))=fun k=>acc (upd ja i j' k) (aT (upd R i (R i++[x]) k)):=fun j'=>by
  funext k
  unfold Proofs.YtmlhjdekfihdnaaGreatDoor.upd
  split<;>simp_all
 refine⟨_,_,ap,hrow,?_⟩
 rw[hf]
 unfold gI gS1 at *
 by_cases e:R i=[]
 ·have e':aT (R i)=[]:=vO.2 e
  simp only[if_pos e']at hrow ⊢
  refine⟨by rw[bE (by simp)],fun k hk hr=>?_,fun a b ha hb hra hrb hab=>?_⟩
  ·by_cases ek:k=i
   ·subst ek
    rw[bW,bW,aL (by omega),e]
    simp
   ·rw[dU _ _ ek]at hr
    rw[dU _ _ ek,dU _ _ ek,aL (Ne.symm (hne k hk hr))]
    exact aX (h.tok k hk hr) _
  ·by_cases ea:a=i
   ·by_cases eb:b=i
    ·rw[ea,eb]
    ·rw[ea,bW,dU _ _ eb]at hab
     rw[dU _ _ eb]at hrb
     have:=cW (h.tok b hb hrb)
     omega
   ·by_cases eb:b=i
    ·rw[eb,bW,dU _ _ ea]at hab
     rw[dU _ _ ea]at hra
     have:=cW (h.tok a ha hra)
     omega
    ·rw[dU _ _ ea,dU _ _ eb]at hab
     rw[dU _ _ ea]at hra
     rw[dU _ _ eb]at hrb
     exact h.inj a b ha hb hra hrb hab
 ·have e':¬aT (R i)=[]:=fun q=>e (vO.1 q)
  simp only[if_neg e']at hrow ⊢
  have hti:=h.tok i hi e
  have hji:=hne i hi e
  refine⟨by rw[bE (by simpa using h0)],fun k hk hr=>?_,fun a b ha hb hra hrb hab=>?_⟩
  ·by_cases ek:k=i
   ·subst ek
    rw[bW,bW,aL (Ne.symm hji),bE (cW hti),eG,List.length_append]
    rfl
   ·rw[dU _ _ ek]at hr
    have hjk:ja i≠ja k:=fun q=>ek (h.inj i k hi hk e hr q).symm
    rw[dU _ _ ek,dU _ _ ek,aL (Ne.symm (hne k hk hr)),aL hjk]
    exact h.tok k hk hr
  ·have eR:∀k,k<n→upd R i (R i++[x]) k≠[]→R k≠[]:=fun k hk hr=>by
    by_cases ek:k=i
    ·rw[ek]; exact e
    ·rwa [dU _ _ ek]at hr
   have eJ:∀k,upd ja i (ja i) k=ja k:=fun k=>by
    unfold Proofs.YtmlhjdekfihdnaaGreatDoor.upd; split
    ·subst_vars; rfl
    ·rfl
   rw[eJ,eJ]at hab
   exact h.inj a b ha hb (eR a ha hra) (eR b hb hrb) hab
theorem bC8 {L:Nat→Bool}{n i:Nat}(h:i<n):indexAddrS 1 (.iv (.sl .no (yA L n))) (i:Int)=some (.iv (.cp [.bool (L i)])):=by
 refine aBk (by omega) ?_ rfl
 rw[Int.toNat_natCast]
 unfold yA
 rw[List.getElem?_map,List.getElem?_range h]
 rfl
theorem aG2 (L:Nat→Bool)(n:Nat):(yA L n).length=n:=by simp[yA]
theorem aEx {n:Nat}(hn:n≤1000000)(L:Nat→Bool)(r:Int)(x0 x1 x2 x3 x4 x9 x10:TV):∀(k i:Nat) (S:aA) (ja:Nat→Nat) (R:Nat→List Int) (x11 x12:TV),i+k=n→OR S n ja R→(∀j,i≤j→j<n→(R j).length≤10000) →
  ∃(S':aA) (ja':Nat→Nat) (R':Nat→List Int) (y11 y12:TV),lp' (lim K) t34L0 [x0,x1,x2,x3,x4,.msl 0 0 0 n n 1,.iv (.int .i64 r),.iv (.sl .no (yA L n)),.iv (.int .i64 i),x9,x10,x11,x12] S
   = .ret (.exit 2,[x0,x1,x2,x3,x4,.msl 0 0 0 n n 1,.iv (.int .i64 r),.iv (.sl .no (yA L n)),.iv (.int .i64 n),x9,x10,y11,y12],S')∧OR S' n ja' R'∧∀j,R' j=if i≤j∧j<n∧L j=true then R j++[r] else R j
 | 0,i,S,ja,R,x11,x12,h,hO,hl=>by
  obtain rfl:i=n:=by omega
  have hlen:=aG2 L i
  refine⟨S,ja,R,.iv (.bool false),x12,aF K _ _ t34L0.eq_1 ?_,hO,fun j=>by rw[if_neg (by omega)]⟩
  simp (config := { maxSteps := 4000000 }) (disch:=omega) only[go_sem,hlen]
 | k+1,i,S,ja,R,x11,x12,h,hO,hl=>by
  have hla:i<n:=by omega
  have hlen:=aG2 L n
  have hix:=bC8 (L:=L) hla
  have i1:=iH (j:=0) (v:=0) (cap:=n) hla
  have s1:sub (cF n fun i=>acc (ja i) (aT (R i))) i 1=some [acc (ja i) (aT (R i))]:=nZ _ hla
  have h0:=hO.row
  have hbb:i+1≤(cF n fun i=>acc (ja i) (aT (R i))).length:=by rw[nY]; omega
  cases hLi:L i with
  | false =>
   rw[hLi]at hix
   obtain⟨S',ja',R',y11,y12,ih,hO',hR'⟩:=aEx hn L r x0 x1 x2 x3 x4 x9 x10 k (i+1) S ja R (.iv (.bool true)) (.iv (.bool false)) (by omega) hO (fun j hj=>hl j (by omega))
   rw[show ((i+1:Nat):Int)=(i:Int)+1 by omega]at ih
   refine⟨S',ja',R',y11,y12,aF K _ _ t34L0.eq_1 ?_,hO',fun j=>?_⟩
   ·generalize yA L n=RB at *
    simp (config := { maxSteps := 4000000 }) (disch:=omega) only[go_sem,hlen,hix,aD]
    exact congrArg er ih
   ·rw[hR' j]
    by_cases e:j=i
    ·subst e; rw[if_neg (by omega),if_neg (by simp[hLi])]
    ·by_cases e2:i+1≤j∧j<n∧L j=true
     ·rw[if_pos e2,if_pos ⟨by omega,e2.2⟩]
     ·rw[if_neg e2,if_neg (fun h=>e2 ⟨by omega,h.2⟩)]
  | true =>
   rw[hLi]at hix
   obtain⟨j',S1,ap,hrow,hO1⟩:=hO.push hla r (by have:=hl i (Nat.le_refl _) hla; omega)
   have p1:=vM (fun i=>acc (ja i) (aT (R i))) (acc j' (aT (R i++[r]))) hla
   obtain⟨S',ja',R',y11,y12,ih,hO',hR'⟩:=aEx hn L r x0 x1 x2 x3 x4 x9 x10 k (i+1) _ _ _ (.iv (.bool true)) (.iv (.bool true)) (by omega) hO1 (fun j hj hjn=>by
    rw[dU _ _ (by omega)]; exact hl j (by omega) hjn)
   rw[show ((i+1:Nat):Int)=(i:Int)+1 by omega]at ih
   refine⟨S',ja',R',y11,y12,aF K _ _ t34L0.eq_1 ?_,hO',fun j=>?_⟩
   ·generalize yA L n=RB at *
    simp (config := { maxSteps := 4000000 }) (disch:=omega) only[go_sem,hlen,hix,i1,h0,s1,ap,hrow,p1,hbb,aD]
    exact congrArg er ih
   ·rw[hR' j]
    by_cases e:j=i
    ·subst e; rw[if_neg (by omega),bW,if_pos ⟨Nat.le_refl _,hla,hLi⟩]
    ·rw[dU _ _ e]
     by_cases e2:i+1≤j∧j<n∧L j=true
     ·rw[if_pos e2,if_pos ⟨by omega,e2.2⟩]
     ·rw[if_neg e2,if_neg (fun h=>e2 ⟨by omega,h.2⟩)]
structure mP (ins:List VI) (r:Nat) (R:Nat→List Int) (j:Nat):Prop where
 rise:(R j).Pairwise (·<·)
 mem:∀x,x∈R j↔1≤x∧x<r∧LvR ins x j
 len:(R j).length+1≤r
theorem aOn {fn sl nd pr:Int}{rg:Nat}{rs:Bool}{ti:Tag}{ins:List VI}(hn:ins.length≤1000000)(hrg:rg≤10000)(hus:∀x∈ins,x.us.length≤1000000)(hbe:∀i,i<ins.length→∀k∈iI ins i,0≤k∧k<ins.length)(x0 x2 x3 x4 x9:TV):∀(k r:Nat) (S:aA) (ja:Nat→Nat) (R:Nat→List Int) (x7 x8 x10 x11 x12:TV),r+k=max rg 1→1≤r→OR S ins.length ja R→(∀j,j<ins.length→mP ins r R j) →
  ∃(S':aA) (ja':Nat→Nat) (R':Nat→List Int) (y7 y8 y10 y11 y12:TV),lp' (lim K) t34L1 [x0,.lb [.iv (.int .i64 fn),.iv (.int .i64 rg),.iv (.int .i64 sl),.iv (.int .i64 nd),.iv (.int .i64 pr),.iv (.bool rs),.iv (.sl ti (ins.map aK))],x2,x3,x4,.msl 0 0 0 ins.length ins.length 1,.iv (.int .i64 r),x7,x8,x9,x10,x11,x12] S
   = .ret (.exit 0,[x0,.lb [.iv (.int .i64 fn),.iv (.int .i64 rg),.iv (.int .i64 sl),.iv (.int .i64 nd),.iv (.int .i64 pr),.iv (.bool rs),.iv (.sl ti (ins.map aK))],x2,x3,x4,.msl 0 0 0 ins.length ins.length 1,.iv (.int .i64 (max rg 1:Nat)),y7,y8,x9,y10,y11,y12],S')∧OR S' ins.length ja' R'∧∀j,j<ins.length→mP ins (max rg 1) R' j
 | 0,r,S,ja,R,x7,x8,x10,x11,x12,h,h1,hO,hR=>by
  obtain rfl:r=max rg 1:=by omega
  refine⟨S,ja,R,x7,x8,.iv (.bool false),x11,x12,aF K _ _ t34L1.eq_1 ?_,hO,hR⟩
  simp (config := { maxSteps := 4000000 }) (disch:=omega) only[go_sem]
 | k+1,r,S,ja,R,x7,x8,x10,x11,x12,h,h1,hO,hR=>by
  have hr:r<rg:=by omega
  obtain⟨L,c28,hL⟩:=bHs fn rg sl nd pr rs ti ins hn hus hbe (r:Int)
  obtain⟨S1,ja1,R1,y11,y12,l1,hO1,hR1⟩:=aEx hn L (r:Int) x0 (.lb [.iv (.int .i64 fn),.iv (.int .i64 rg),.iv (.int .i64 sl),.iv (.int .i64 nd),.iv (.int .i64 pr),.iv (.bool rs),.iv (.sl ti (ins.map aK))]) x2 x3 x4 x9 (.iv (.bool true)) ins.length 0 S ja R x11 x12 (by omega) hO (fun j _ hj=>by have:=(hR j hj).len; omega)
  rw[show ((0:Nat):Int)=0 from rfl]at l1
  have hR2:∀j,j<ins.length→mP ins (r+1) R1 j:=fun j hj=>by
   have a:=hR j hj
   have e:=hR1 j
   cases hb:L j with
   | true =>
    rw[if_pos ⟨Nat.zero_le _,hj,hb⟩]at e
    have hlv:=(hL j hj).1 hb
    refine⟨?_,fun x=>?_,?_⟩
    ·rw[e,List.pairwise_append]
     refine⟨a.rise,List.pairwise_singleton _ _,fun p hp q hq=>?_⟩
     have:=(a.mem p).1 hp
     rw[List.mem_singleton]at hq
     omega
    ·rw[e,List.mem_append,a.mem,List.mem_singleton]
     constructor
     ·rintro (⟨q1,q2,q3⟩|rfl)
      ·exact⟨q1,by omega,q3⟩
      ·exact⟨by omega,by omega,hlv⟩
     ·rintro⟨q1,q2,q3⟩
      by_cases q:x=r
      ·exact .inr q
      ·exact .inl ⟨q1,by omega,q3⟩
    ·rw[e,List.length_append]; have:=a.len; simp; omega
   | false =>
    rw[if_neg (by simp[hb])]at e
    have hlv:¬LvR ins r j:=fun q=>by rw[(hL j hj).2 q]at hb; cases hb
    refine⟨by rw[e]; exact a.rise,fun x=>?_,by rw[e]; have:=a.len; omega⟩
    rw[e,a.mem]
    constructor
    ·rintro⟨q1,q2,q3⟩; exact⟨q1,by omega,q3⟩
    ·rintro⟨q1,q2,q3⟩
     refine⟨q1,?_,q3⟩
     by_cases q:x=r
     ·subst q; exact absurd q3 hlv
     ·omega
  obtain⟨S',ja',R',y7,y8,y10,z11,z12,ih,hx⟩:=aOn (fn:=fn) (sl:=sl) (nd:=nd) (pr:=pr) (rs:=rs) (ti:=ti) hn hrg hus hbe x0 x2 x3 x4 x9 k (r+1) S1 ja1 R1 (.iv (.sl .no (yA L ins.length))) (.iv (.int .i64 ins.length)) (.iv (.bool true)) y11 y12 (by omega) (by omega) hO1 hR2
  rw[show ((r+1:Nat):Int)=(r:Int)+1 by omega]at ih
  refine⟨S',ja',R',y7,y8,y10,z11,z12,aF K _ _ t34L1.eq_1 ?_,hx⟩
  unfold bH at c28
  generalize yA L ins.length=RB at *
  generalize ins.length=n at *
  simp (config := { maxSteps := 4000000 }) (disch:=omega) only[go_sem,aB c28]
  rw[l1]
  simp (config := { maxSteps := 4000000 }) (disch:=omega) only[go_sem,aD]
  exact congrArg er ih
def lX (R:Nat→List Int)(n:Nat):List (List IV):=(List.range n).map fun i=>[.sl (mM (aT (R i))) (aT (R i))]
theorem aQe (j:Nat)(l:List (List IV)):mR (acc j l)=some (.sl (mM l) l):=by cases l<;>rfl
theorem aC4 (ja:Nat→Nat)(R:Nat→List Int):∀l:List Nat,toIVs (l.map fun i=>acc (ja i) (aT (R i)))=some (l.map fun i=>.sl (mM (aT (R i))) (aT (R i)))
 | []=>rfl
 | a::r=>by simp only[List.map_cons,toIVs,aQe,aC4 ja R r]
theorem bC9 {S:aA}{n:Nat}{ja:Nat→Nat}{R:Nat→List Int}(h:OR S n ja R)(c:Nat):TM.zQ S (.msl 0 0 0 n c 1)=some (.sl .no (lX R n)):=by
 have e1:sub (cF n fun i=>acc (ja i) (aT (R i))) 0 (n*1)=some (cF n fun i=>acc (ja i) (aT (R i))):=lS (by rw[nY]; simp)
 have e2:=aC4 ja R (List.range n)
 have e3:=oA ((List.range n).map fun i=>IV.sl (mM (aT (R i))) (aT (R i)))
 rw[List.length_map,List.length_range,List.map_map]at e3
 have hr:=h.row
 unfold cF at hr e1
 show (match cG S (.msl 0 0 0 n c 1) with|some l=>some (IV.sl .no l)|none=>none)=_
 simp only[cG,hr,ne_eq,not_true_eq_false,↓reduceIte,e1,e2,Option.map_some,e3]
 rfl
theorem aVo (j:Nat):acc j (aT [])=.iv (.sl .nil []):=kG j
theorem bKe {bytes m n:Nat}(hr:dZ n bytes=true):mkV [.sl .nil []] bytes m (.iv (.int .i64 n)) (.iv (.int .i64 n))=some (.msl m 0 0 n n 1,.cells 0 false (cF n fun i=>acc 0 (aT []))):=by
 rw[aU9 hr]
 have:(fun q:Nat=>if q<0 then TV.msl 0 0 0 0 0 1 else .iv (.sl .nil []))=fun _=>acc 0 (aT []):=by funext q; rw[if_neg (Nat.not_lt_zero q),aVo]
 rw[this]
theorem bH1 (fn sl nd pr:Int)(rg:Nat)(rs:Bool)(ti:Tag)(ins:List VI)(hn:ins.length≤1000000)(hrg:1≤rg∧rg≤10000)(hus:∀x∈ins,x.us.length≤1000000)(hbe:∀i,i<ins.length→∀k∈iI ins i,0≤k∧k<ins.length)(hc:aB1 rg sl nd pr ins=true) :
  ∃R:Nat→List Int,TM.Pure K 34 [.iv (.agg (bH fn rg sl nd pr rs ti ins))] (.tup [.iv (.sl .no (lX R ins.length)),.iv (.int .i64 0)])∧∀j,j<ins.length→mP ins rg R j:=by
 have c27:=aVn fn rg sl nd pr rs ti ins hn hus
 rw[hc,if_pos rfl]at c27
 have hO:OR [.cells 0 false (cF ins.length fun i=>acc 0 (aT []))] ins.length (fun _=>0) (fun _=>[]):=⟨rfl,fun i _ h=>absurd rfl h,fun i k _ _ h=>absurd rfl h⟩
 obtain⟨S',ja',R',y7,y8,y10,y11,y12,l1,hO',hR'⟩:=aOn (fn:=fn) (sl:=sl) (nd:=nd) (pr:=pr) (rs:=rs) (ti:=ti) hn hrg.2 hus hbe (.iv (.agg (bH fn rg sl nd pr rs ti ins))) (.iv (.sl .nil [])) (.iv (.int .i64 0)) (.iv (.int .i64 0)) (.iv (.bool false)) (rg-1) 1 _ _ _ u_ u_ u_ u_ u_ (by omega) (Nat.le_refl _) hO (fun j hj=>⟨.nil,fun x=>by simp; omega,by simp⟩)
 rw[show max rg 1=rg by omega]at hR' l1
 rw[show ((1:Nat):Int)=1 from rfl]at l1
 have hlen:(ins.map aK).length=ins.length:=List.length_map _
 have hz:=fun k=>bKe (m:=k) (bytes:=24) (cX (n:=ins.length) (b:=24) (by omega))
 have hres:TM.resolve S' (.tup [.msl 0 0 0 ins.length ins.length 1,.iv (.int .i64 0)])=some (.tup [.iv (.sl .no (lX R' ins.length)),.iv (.int .i64 0)]):=by
  rw[mZ]
  simp only[oW,bC9 hO']
  rfl
 unfold bH at *
 refine⟨R',TM.cV (S:=S') (r:=.tup [.msl 0 0 0 ins.length ins.length 1,.iv (.int .i64 0)]) (aP K _ (fn:=t34) rfl rfl ?_) hres,hR'⟩
 generalize ins.length=n at *
 simp (config := { maxSteps := 4000000 }) (disch:=omega) only[t34,go_sem,hlen,hz,aB c27]
 rw[l1]
 simp (config := { maxSteps := 4000000 }) (disch:=omega) only[go_sem]
theorem bKf (fn rg sl nd pr:Int)(rs:Bool)(ti:Tag)(ins:List VI)(hn:ins.length≤1000000)(hus:∀x∈ins,x.us.length≤1000000)(hc:aB1 rg sl nd pr ins=false):TM.Pure K 34 [.iv (.agg (bH fn rg sl nd pr rs ti ins))] (.tup [.iv (.sl .nil []),.iv (.int .i64 2)]):=by
 have c27:=aVn fn rg sl nd pr rs ti ins hn hus
 rw[hc,if_neg (by decide)]at c27
 unfold bH at *
 refine aH t34 rfl rfl ?_
 simp (config := { maxSteps := 4000000 }) (disch:=omega) only[t34,go_sem,aB c27]
def vF (tg:Nat→Tag)(Q:Nat→List Int):Nat→TV:=fun i=>.iv (.sl (tg i) (TM.one (.int .i64) (Q i)))
theorem bH2 (tg:Nat→Tag)(Q:Nat→List Int)(i:Nat)(t:Tag)(l:List Int):upd (vF tg Q) i (.iv (.sl t (TM.one (.int .i64) l)))=vF (upd tg i t) (upd Q i l):=by
 funext j; simp only[vF,upd]; split<;>rfl
theorem aG3 {R:Nat→List Int}{n i:Nat}(h:i<n):indexAddrS 1 (.iv (.sl .no (lX R n))) (i:Int)=some (.iv (.cp [.sl (mM (aT (R i))) (TM.one (.int .i64) (R i))])):=by
 refine aBk (by omega) ?_ rfl
 rw[Int.toNat_natCast]
 unfold lX
 rw[List.getElem?_map,List.getElem?_range h]
 rfl
theorem yO {α:Type}(f:Nat→α)(i:Nat)(a b:α):upd (upd f i a) i b=upd f i b:=by
 funext j; unfold upd; split<;>rfl
theorem aOo {n:Nat}(hn:n≤1000000)(R:Nat→List Int){i q:Nat}(hi:i<n)(hq:q<n)(hR:(R q).length≤1000)(tb:Tag){l:List Int}{kk:Nat}(hkk:kk<l.length)(hlq:l.getD kk default=(q:Int))(x0 x1 x2 x3 x5 x11 x12 x13:TV):∀(k j:Nat) (S:aA) (tg:Nat→Tag) (Q:Nat→List Int) (x14:TV),j+k=(R q).length →
  S[0]? = some (.cells 0 false (cF n (vF tg Q)))→bN (tg i) (Q i)→(Q i).length≤100000+j →
  ∃(S':aA) (t':Tag) (y14:TV),lp' (lim K) t15L0 [x0,x1,x2,x3,.iv (.sl .no (lX R n)),x5,.msl 0 0 0 n n 1,.iv (.int .i64 i),.iv (.sl tb (TM.one (.int .i64) l)),.iv (.int .i64 kk),.iv (.int .i64 j),x11,x12,x13,x14] S
   = .ret (.exit 4,[x0,x1,x2,x3,.iv (.sl .no (lX R n)),x5,.msl 0 0 0 n n 1,.iv (.int .i64 i),.iv (.sl tb (TM.one (.int .i64) l)),.iv (.int .i64 kk),.iv (.int .i64 (R q).length),x11,x12,x13,y14],S') ∧
   S'[0]? = some (.cells 0 false (cF n (vF (upd tg i t') (upd Q i (((R q).drop j).foldl gG (Q i))))))∧bN t' (((R q).drop j).foldl gG (Q i))
 | 0,j,S,tg,Q,x14,h,h0,ht,hl=>by
  obtain rfl:j=(R q).length:=by omega
  have hix:=jZ (f:=IV.int .i64) (t:=tb) (l:=l) (i:=(kk:Int)) (by omega)
  rw[Int.toNat_natCast,hlq]at hix
  have hiR:=aG3 (R:=R) hq
  rw[List.drop_length,List.foldl_nil]
  refine⟨S,tg i,.iv (.bool false),aF K _ _ t15L0.eq_1 ?_,?_,ht⟩
  ·generalize lX R n=RR at *
   simp (config := { maxSteps := 4000000 }) (disch:=omega) only[go_sem,hix,hiR]
  ·have e1:upd tg i (tg i)=tg:=by funext a; unfold upd; split<;>simp_all
   have e2:upd Q i (Q i)=Q:=by funext a; unfold upd; split<;>simp_all
   rw[e1,e2]; exact h0
 | k+1,j,S,tg,Q,x14,h,h0,ht,hl=>by
  have hla:j<(R q).length:=by omega
  have hix:=jZ (f:=IV.int .i64) (t:=tb) (l:=l) (i:=(kk:Int)) (by omega)
  rw[Int.toNat_natCast,hlq]at hix
  have hiR:=aG3 (R:=R) hq
  have hij:=jZ (f:=IV.int .i64) (t:=mM (aT (R q))) (l:=R q) (i:=(j:Int)) (by omega)
  rw[Int.toNat_natCast]at hij
  have i1:=iH (j:=0) (v:=0) (cap:=n) hi
  have s1:sub (cF n (vF tg Q)) i 1=some [.iv (.sl (tg i) (TM.one (.int .i64) (Q i)))]:=nZ _ hi
  have hbb:i+1≤(cF n (vF tg Q)).length:=by rw[nY]; omega
  obtain⟨t1,ht1,c24⟩:=nA (tg i) (Q i) ((R q).getD j default) ht (by omega)
  have p1:=vM (vF tg Q) (.iv (.sl t1 (TM.one (.int .i64) (gG (Q i) ((R q).getD j default))))) hi
  rw[bH2]at p1
  have hpl:=nK (Q i) ((R q).getD j default)
  have hlt:=cW h0
  obtain⟨S',t',y14,ih,h0',ht'⟩:=aOo hn R hi hq hR tb hkk hlq x0 x1 x2 x3 x5 x11 x12 x13 k (j+1) (S.set 0 (.cells 0 false (cF n (vF (upd tg i t1) (upd Q i (gG (Q i) ((R q).getD j default))))))) _ _ (.iv (.bool true)) (by omega) (bE hlt _) (by rw[bW,bW]; exact ht1) (by rw[bW]; omega)
  rw[bW,yO,yO]at h0'
  rw[bW]at ht'
  rw[show ((j+1:Nat):Int)=(j:Int)+1 by omega]at ih
  rw[eX hla,List.foldl_cons]
  refine⟨S',t',y14,aF K _ _ t15L0.eq_1 ?_,h0',ht'⟩
  generalize gG (Q i) ((R q).getD j default)=P at *
  generalize (R q).getD j default=v at *
  generalize lX R n=RR at *
  simp (config := { maxSteps := 4000000 }) (disch:=omega) only[go_sem,hix,hiR,hij,i1,h0,s1,aB c24,p1,hbb,aD]
  exact congrArg er ih
def aB2 (R:Nat→List Int)(l:List Int):List Int:=l.flatMap fun q=>R q.toNat
theorem aOp {n:Nat}(hn:n≤1000000)(R:Nat→List Int){i:Nat}(hi:i<n)(hR:∀q,q<n→(R q).length≤1000)(tb:Tag){l:List Int}(hl:l.length≤20)(hin:∀x∈l,0≤x∧x<n)(x0 x1 x2 x3 x5 x11 x12:TV):∀(k kk:Nat) (S:aA) (tg:Nat→Tag) (Q:Nat→List Int) (x10 x13 x14:TV),kk+k=l.length →
  S[0]? = some (.cells 0 false (cF n (vF tg Q)))→bN (tg i) (Q i)→(Q i).length≤1000*kk →
  ∃(S':aA) (t':Tag) (y10 y13 y14:TV),lp' (lim K) t15L1 [x0,x1,x2,x3,.iv (.sl .no (lX R n)),x5,.msl 0 0 0 n n 1,.iv (.int .i64 i),.iv (.sl tb (TM.one (.int .i64) l)),.iv (.int .i64 kk),x10,x11,x12,x13,x14] S
   = .ret (.exit 2,[x0,x1,x2,x3,.iv (.sl .no (lX R n)),x5,.msl 0 0 0 n n 1,.iv (.int .i64 i),.iv (.sl tb (TM.one (.int .i64) l)),.iv (.int .i64 l.length),y10,x11,x12,y13,y14],S') ∧
   S'[0]? = some (.cells 0 false (cF n (vF (upd tg i t') (upd Q i ((aB2 R (l.drop kk)).foldl gG (Q i))))))∧bN t' ((aB2 R (l.drop kk)).foldl gG (Q i))
 | 0,kk,S,tg,Q,x10,x13,x14,h,h0,ht,hQ=>by
  obtain rfl:kk=l.length:=by omega
  rw[List.drop_length,show aB2 R []=[] from rfl,List.foldl_nil]
  refine⟨S,tg i,x10,.iv (.bool false),x14,aF K _ _ t15L1.eq_1 ?_,?_,ht⟩
  ·simp (config := { maxSteps := 4000000 }) (disch:=omega) only[go_sem]
  ·have e1:upd tg i (tg i)=tg:=by funext a; unfold upd; split<;>simp_all
   have e2:upd Q i (Q i)=Q:=by funext a; unfold upd; split<;>simp_all
   rw[e1,e2]; exact h0
 | k+1,kk,S,tg,Q,x10,x13,x14,h,h0,ht,hQ=>by
  have hla:kk<l.length:=by omega
  obtain⟨q0,q1⟩:=hin (l.getD kk default) (by simp only[List.getD,List.getElem?_eq_getElem hla,Option.getD_some]; exact List.getElem_mem _)
  obtain⟨q,hq⟩:=Int.eq_ofNat_of_zero_le q0
  have hqn:q<n:=by omega
  have hRq:=hR q hqn
  obtain⟨S1,t1,y14,l1,h1,ht1⟩:=aOo hn R hi hqn hRq tb hla hq x0 x1 x2 x3 x5 x11 x12 (.iv (.bool true)) (R q).length 0 S tg Q x14 (by omega) h0 ht (by omega)
  rw[show ((0:Nat):Int)=0 from rfl]at l1
  rw[List.drop_zero]at h1 ht1
  have hfl:=pG (R q) (Q i)
  obtain⟨S',t',z10,z13,z14,ih,h0',ht'⟩:=aOp hn R hi hR tb hl hin x0 x1 x2 x3 x5 x11 x12 k (kk+1) S1 _ _ (.iv (.int .i64 (R q).length)) (.iv (.bool true)) y14 (by omega) h1 (by rw[bW,bW]; exact ht1) (by rw[bW]; omega)
  rw[bW,yO,yO]at h0'
  rw[bW]at ht'
  rw[show ((kk+1:Nat):Int)=(kk:Int)+1 by omega]at ih
  have hcat:aB2 R (l.drop kk)=R q++aB2 R (l.drop (kk+1)):=by
   rw[eX hla,hq]
   simp[aB2]
  rw[hcat,List.foldl_append]
  refine⟨S',t',z10,z13,z14,aF K _ _ t15L1.eq_1 ?_,h0',ht'⟩
  simp (config := { maxSteps := 4000000 }) (disch:=omega) only[go_sem]
  rw[l1]
  simp (config := { maxSteps := 4000000 }) (disch:=omega) only[go_sem,aD]
  exact congrArg er ih
def aG4 (ins:List VI)(R:Nat→List Int)(j:Nat):List Int:=tdy (aB2 R (iI ins j))
theorem aVp (ins:List VI)(i:Nat):(iI ins i).length≤2:=by
 unfold iI; split
 ·simp
 ·split<;>split<;>simp
theorem aOq {fn rg sl nd pr:Int}{rs:Bool}{ti:Tag}{ins:List VI}(hn:ins.length≤1000000)(R:Nat→List Int)(hR:∀q,q<ins.length→(R q).length≤1000)(hbe:∀i,i<ins.length→∀k∈iI ins i,0≤k∧k<ins.length)(x0 x2 x3 x5 x11:TV):∀(k i:Nat) (S:aA) (tg:Nat→Tag) (Q:Nat→List Int) (x8 x9 x10 x12 x13 x14:TV),i+k=ins.length →
  S[0]? = some (.cells 0 false (cF ins.length (vF tg Q)))→(∀j,i≤j→j<ins.length→Q j=[])→(∀j,j<i→Q j=aG4 ins R j) →
  ∃(S':aA) (tg':Nat→Tag) (Q':Nat→List Int) (y8 y9 y10 y12 y13 y14:TV),lp' (lim K) t15L2 [x0,.lb [.iv (.int .i64 fn),.iv (.int .i64 rg),.iv (.int .i64 sl),.iv (.int .i64 nd),.iv (.int .i64 pr),.iv (.bool rs),.iv (.sl ti (ins.map aK))],x2,x3,.iv (.sl .no (lX R ins.length)),x5,.msl 0 0 0 ins.length ins.length 1,.iv (.int .i64 i),x8,x9,x10,x11,x12,x13,x14] S
   = .ret (.exit 0,[x0,.lb [.iv (.int .i64 fn),.iv (.int .i64 rg),.iv (.int .i64 sl),.iv (.int .i64 nd),.iv (.int .i64 pr),.iv (.bool rs),.iv (.sl ti (ins.map aK))],x2,x3,.iv (.sl .no (lX R ins.length)),x5,.msl 0 0 0 ins.length ins.length 1,.iv (.int .i64 ins.length),y8,y9,y10,x11,y12,y13,y14],S') ∧
   S'[0]? = some (.cells 0 false (cF ins.length (vF tg' Q')))∧∀j,j<ins.length→Q' j=aG4 ins R j
 | 0,i,S,tg,Q,x8,x9,x10,x12,x13,x14,h,h0,hz,hd=>by
  obtain rfl:i=ins.length:=by omega
  have hlen:(ins.map aK).length=ins.length:=List.length_map _
  refine⟨S,tg,Q,x8,x9,x10,.iv (.bool false),x13,x14,aF K _ _ t15L2.eq_1 ?_,h0,fun j hj=>hd j hj⟩
  simp (config := { maxSteps := 4000000 }) (disch:=omega) only[go_sem,hlen]
 | k+1,i,S,tg,Q,x8,x9,x10,x12,x13,x14,h,h0,hz,hd=>by
  have hla:i<ins.length:=by omega
  have hlen:(ins.map aK).length=ins.length:=List.length_map _
  have hQ:=hz i (Nat.le_refl _) hla
  obtain⟨tb,c29⟩:=aVj fn rg sl nd pr rs ti ins hn hla
  have hbl:=aVp ins i
  obtain⟨S1,t1,y10,y13,y14,l1,h1,ht1⟩:=aOp hn R hla hR tb (l:=iI ins i) (by omega) (hbe i hla) x0 (.lb [.iv (.int .i64 fn),.iv (.int .i64 rg),.iv (.int .i64 sl),.iv (.int .i64 nd),.iv (.int .i64 pr),.iv (.bool rs),.iv (.sl ti (ins.map aK))]) x2 x3 x5 x11 (.iv (.bool true)) (iI ins i).length 0 S tg Q x10 x13 x14 (by omega) h0 (by rw[hQ]; exact fun _=>rfl) (by rw[hQ]; simp)
  rw[show ((0:Nat):Int)=0 from rfl]at l1
  rw[List.drop_zero,hQ,show (aB2 R (iI ins i)).foldl gG []=aG4 ins R i from rfl]at h1
  obtain⟨S',tg',Q',y8,y9,z10,y12,z13,z14,ih,hx⟩:=aOq (fn:=fn) (rg:=rg) (sl:=sl) (nd:=nd) (pr:=pr) (rs:=rs) (ti:=ti) hn R hR hbe x0 x2 x3 x5 x11 k (i+1) S1 _ _ (.iv (.sl tb (TM.one (.int .i64) (iI ins i)))) (.iv (.int .i64 (iI ins i).length)) y10 (.iv (.bool true)) y13 y14 (by omega) h1 (fun j h2 h3=>by rw[dU _ _ (by omega)]; exact hz j (by omega) h3) (fun j hj=>by
   by_cases e:j=i
   ·subst e; rw[bW]
   ·rw[dU _ _ e]; exact hd j (by omega))
  rw[show ((i+1:Nat):Int)=(i:Int)+1 by omega]at ih
  refine⟨S',tg',Q',y8,y9,z10,y12,z13,z14,aF K _ _ t15L2.eq_1 ?_,hx⟩
  unfold bH at c29
  generalize iI ins i=bl at *
  generalize lX R ins.length=RR at *
  generalize ins.length=n at *
  simp (config := { maxSteps := 4000000 }) (disch:=omega) only[go_sem,hlen,aB c29]
  rw[l1]
  simp (config := { maxSteps := 4000000 }) (disch:=omega) only[go_sem,aD]
  exact congrArg er ih
def fW (tg:Nat→Tag)(Q:Nat→List Int)(n:Nat):List (List IV):=(List.range n).map fun i=>[.sl (tg i) (TM.one (.int .i64) (Q i))]
theorem bDa {S:aA}{n:Nat}{tg:Nat→Tag}{Q:Nat→List Int}(h:S[0]? = some (.cells 0 false (cF n (vF tg Q))))(c:Nat):TM.zQ S (.msl 0 0 0 n c 1)=some (.sl .no (fW tg Q n)):=by
 have e1:sub (cF n (vF tg Q)) 0 (n*1)=some (cF n (vF tg Q)):=lS (by rw[nY]; simp)
 have e2:toIVs (cF n (vF tg Q))=some ((List.range n).map fun i=>IV.sl (tg i) (TM.one (.int .i64) (Q i))):=by
  have:cF n (vF tg Q)=((List.range n).map fun i=>IV.sl (tg i) (TM.one (.int .i64) (Q i))).map .iv:=by rw[List.map_map]; rfl
  rw[this,iA]
 have e3:=oA ((List.range n).map fun i=>IV.sl (tg i) (TM.one (.int .i64) (Q i)))
 rw[List.length_map,List.length_range,List.map_map]at e3
 show (match cG S (.msl 0 0 0 n c 1) with|some l=>some (IV.sl .no l)|none=>none)=_
 simp only[cG,h,ne_eq,not_true_eq_false,↓reduceIte,e1,e2,Option.map_some,e3]
 rfl
theorem bKg {bytes m n:Nat}(hr:dZ n bytes=true):mkV [.sl .nil []] bytes m (.iv (.int .i64 n)) (.iv (.int .i64 n))=some (.msl m 0 0 n n 1,.cells 0 false (cF n (vF (fun _=>.nil) fun _=>[]))):=by
 rw[aU9 hr]
 have:(fun q:Nat=>if q<0 then TV.msl 0 0 0 0 0 1 else .iv (.sl .nil []))=vF (fun _=>.nil) fun _=>[]:=by funext q; rw[if_neg (Nat.not_lt_zero q)]; rfl
 rw[this]
theorem bH3 (fn sl nd pr:Int)(rg:Nat)(rs:Bool)(ti:Tag)(ins:List VI)(hn:ins.length≤1000000)(hrg:1≤rg∧rg≤1000)(hus:∀x∈ins,x.us.length≤1000000)(hbe:∀i,i<ins.length→∀k∈iI ins i,0≤k∧k<ins.length)(hc:aB1 rg sl nd pr ins=true) :
  ∃(R:Nat→List Int) (tg:Nat→Tag) (Q:Nat→List Int),TM.Pure K 15 [.iv (.agg (bH fn rg sl nd pr rs ti ins))] (.tup [.iv (.sl .no (fW tg Q ins.length)),.iv (.int .i64 0)])∧(∀j,j<ins.length→mP ins rg R j)∧∀j,j<ins.length→Q j=aG4 ins R j:=by
 obtain⟨R,c14,hR⟩:=bH1 fn sl nd pr rg rs ti ins hn ⟨hrg.1,by omega⟩ hus hbe hc
 obtain⟨S',tg',Q',y8,y9,y10,y12,y13,y14,l1,h1,hQ⟩:=aOq (fn:=fn) (rg:=rg) (sl:=sl) (nd:=nd) (pr:=pr) (rs:=rs) (ti:=ti) hn R (fun q hq=>by have:=(hR q hq).len; omega) hbe (.iv (.agg (bH fn rg sl nd pr rs ti ins))) (.iv (.sl .nil [])) (.iv (.int .i64 0)) (.iv (.int .i64 0)) (.iv (.bool false)) ins.length 0 [.cells 0 false (cF ins.length (vF (fun _=>.nil) fun _=>[]))] (fun _=>.nil) (fun _=>[]) u_ u_ u_ u_ u_ u_ (by omega) rfl (fun _ _ _=>rfl) (fun j hj=>by omega)
 rw[show ((0:Nat):Int)=0 from rfl]at l1
 have hlen:(ins.map aK).length=ins.length:=List.length_map _
 have hz:=fun k=>bKg (m:=k) (bytes:=24) (cX (n:=ins.length) (b:=24) (by omega))
 have hres:TM.resolve S' (.tup [.msl 0 0 0 ins.length ins.length 1,.iv (.int .i64 0)])=some (.tup [.iv (.sl .no (fW tg' Q' ins.length)),.iv (.int .i64 0)]):=by
  rw[mZ]
  simp only[oW,bDa h1]
  rfl
 unfold bH at *
 refine⟨R,tg',Q',TM.cV (S:=S') (r:=.tup [.msl 0 0 0 ins.length ins.length 1,.iv (.int .i64 0)]) (aP K _ (fn:=t15) rfl rfl ?_) hres,hR,hQ⟩
 generalize lX R ins.length=RR at *
 generalize ins.length=n at *
 simp (config := { maxSteps := 4000000 }) (disch:=omega) only[t15,go_sem,hlen,hz,aB c14]
 rw[l1]
 simp (config := { maxSteps := 4000000 }) (disch:=omega) only[go_sem]
theorem bKh (fn rg sl nd pr:Int)(rs:Bool)(ti:Tag)(ins:List VI)(hn:ins.length≤1000000)(hus:∀x∈ins,x.us.length≤1000000)(hc:aB1 rg sl nd pr ins=false):TM.Pure K 15 [.iv (.agg (bH fn rg sl nd pr rs ti ins))] (.tup [.iv (.sl .nil []),.iv (.int .i64 2)]):=by
 have c14:=bKf fn rg sl nd pr rs ti ins hn hus hc
 unfold bH at *
 refine aH t15 rfl rfl ?_
 simp (config := { maxSteps := 4000000 }) (disch:=omega) only[t15,go_sem,aB c14]
theorem aVq {tg:Nat→Tag}{R:Nat→List Int}{n i:Nat}(h:i<n)(t:Tag):indexAddrS 1 (.iv (.sl t (fW tg R n))) (i:Int)=some (.iv (.cp [.sl (tg i) (TM.one (.int .i64) (R i))])):=by
 refine aBk (by omega) ?_ rfl
 rw[Int.toNat_natCast]
 unfold fW
 rw[List.getElem?_map,List.getElem?_range h]
 rfl
theorem zK {v:VI}{x:Int}(h:x∈bV v):0<x:=by
 unfold bV at h
 repeat' split at h
 all_goals first|exact aEl h|cases h
theorem bDb {lb:List (Nat×Int×Int)}{ins:List VI}(h1:∀L,gN lb L=dB ins L){i:Nat}(hg:(26≤(ins.getD i default).op∧(ins.getD i default).op≤31)∨(ins.getD i default).op=66→∃q:Nat,dB ins (ins.getD i default).lb=some (q:Int)∧q<ins.length):bhd lb ins i=(iI ins i).map Int.toNat:=by
 unfold bhd iI
 split
 ·rfl
 ·rw[List.map_append]
  congr 1
  ·split
   ·rename_i h
    obtain⟨q,hq,_⟩:=hg h
    unfold nJ
    rw[h1,hq]
    rfl
   ·rfl
  ·split
   ·rfl
   ·rfl
theorem bH4 {ins:List VI}{i:Nat}(hg:(26≤(ins.getD i default).op∧(ins.getD i default).op≤31)∨(ins.getD i default).op=66→∃q:Nat,dB ins (ins.getD i default).lb=some (q:Int)∧q<ins.length):∀k∈iI ins i,0≤k∧k<ins.length:=by
 intro k hk
 unfold iI at hk
 split at hk
 ·cases hk
 ·rw[List.mem_append]at hk
  rcases hk with hk|hk
  ·split at hk
   ·rename_i h
    obtain⟨q,hq,hl⟩:=hg h
    rw[hq,Option.getD_some,List.mem_singleton]at hk
    omega
   ·cases hk
  ·split at hk
   ·rename_i h
    rw[List.mem_singleton]at hk
    omega
   ·cases hk
section
variable {rg:Nat}{lb:List (Nat×Int×Int)}{ins:List VI}{I O U D:Nat→List Nat}(hbd:∀i,i<ins.length→bhd lb ins i=(iI ins i).map Int.toNat)(hbe:∀i,i<ins.length→∀k∈iI ins i,0≤k∧k<ins.length)(h2:∀j r,j<ins.length→(bit (U j) r=true↔(r:Int)∈bV (ins.getD j default)∧r<rg))(h3:∀j r,j<ins.length→(bit (D j) r=true↔(r:Int)∈bM (ins.getD j default)∧r<rg))
include hbd hbe h2 h3
theorem bKi {r i:Nat}(h:Lv lb ins U D r i):i<ins.length→LvR ins r i∧0<r∧r<rg:=by
 induction h with
 | use h =>
  intro hi
  obtain⟨a,b⟩:=(h2 _ r hi).1 h
  have:=zK a
  exact⟨.use a,by omega,b⟩
 | step hk h hd ih =>
  intro hi
  rw[hbd _ hi,List.mem_map]at hk
  obtain⟨z,hz,rfl⟩:=hk
  have hzz:=hbe _ hi z hz
  obtain⟨a,b,c⟩:=ih (by omega)
  refine⟨.step hz a fun hm=>?_,b,c⟩
  rw[(h3 _ r hi).2 ⟨hm,c⟩]at hd
  cases hd
theorem bDc (h4:∀j,j<ins.length→(∀r,bit (I j) r=eqn lb ins U D I j r)∧∀r,bit (O j) r=tG lb ins I j r){r:Int}{i:Nat}(h:LvR ins r i)(hr:r<rg):i<ins.length→0≤r∧bit (I i) r.toNat=true:=by
 induction h with
 | use h =>
  intro hi
  have hp:=zK h
  refine⟨by omega,?_⟩
  rw[(h4 _ hi).1,eqn,(h2 _ r.toNat hi).2 ⟨by rw[Int.toNat_of_nonneg (by omega)]; exact h,by omega⟩,Bool.true_or]
 | @step jj kk hk h hd ih =>
  intro hi
  have hkk:=hbe _ hi _ hk
  obtain⟨h0,hb⟩:=ih (by omega)
  refine⟨h0,?_⟩
  have hdf:bit (D jj) r.toNat=false:=by
   cases e:bit (D jj) r.toNat with
   | false=>rfl
   | true =>
    have:=((h3 _ r.toNat hi).1 e).1
    rw[Int.toNat_of_nonneg h0]at this
    exact absurd this hd
  rw[(h4 _ hi).1,eqn,hdf,Bool.not_false,Bool.and_true,Bool.or_eq_true]
  right
  unfold tG
  rw[hbd _ hi]
  exact List.any_eq_true.2 ⟨_,List.mem_map.2 ⟨_,hk,rfl⟩,hb⟩
theorem aOr (hG:zF lb ins U D I)(h4:∀j,j<ins.length→(∀r,bit (I j) r=eqn lb ins U D I j r)∧∀r,bit (O j) r=tG lb ins I j r){R:Nat→List Int}(hR:∀j,j<ins.length→mP ins rg R j){j:Nat}(hj:j<ins.length):wlI 0 (I j)=R j:=by
 refine iV (zD 0 (I j)) (hR j hj).rise fun x=>?_
 rw[aEo,(hR j hj).mem]
 constructor
 ·rintro⟨k,rfl,hb⟩
  obtain⟨a,b,c⟩:=bKi hbd hbe h2 h3 (hG.snd j k hb) hj
  exact⟨by omega,by omega,a⟩
 ·rintro⟨a,b,c⟩
  obtain⟨d,e⟩:=bDc hbd hbe h2 h3 h4 c b hj
  exact⟨x.toNat,by omega,e⟩
theorem aVr (hG:zF lb ins U D I)(h4:∀j,j<ins.length→(∀r,bit (I j) r=eqn lb ins U D I j r)∧∀r,bit (O j) r=tG lb ins I j r){R:Nat→List Int}(hR:∀j,j<ins.length→mP ins rg R j){j:Nat}(hj:j<ins.length):wlI 0 (O j)=aG4 ins R j:=by
 refine iV (zD 0 (O j)) (fV _).rise fun x=>?_
 rw[aEo,show x∈aG4 ins R j↔_ from (fV _).mem x]
 unfold aB2
 rw[List.mem_flatMap]
 constructor
 ·rintro⟨k,rfl,hb⟩
  rw[(h4 j hj).2,tG,hbd j hj]at hb
  obtain⟨p,hp,hq⟩:=List.any_eq_true.1 hb
  obtain⟨z,hz,rfl⟩:=List.mem_map.1 hp
  have hzz:=hbe j hj z hz
  have hs:=aOr hbd hbe h2 h3 hG h4 hR (j:=z.toNat) (by omega)
  have hm:(k:Int)∈R z.toNat:=by rw[←hs]; exact (aEo _ _).2 ⟨k,rfl,hq⟩
  have:=((hR z.toNat (by omega)).mem _).1 hm
  exact⟨⟨z,hz,hm⟩,by omega⟩
 ·rintro⟨⟨z,hz,hm⟩,h0⟩
  have hzz:=hbe j hj z hz
  have hs:=aOr hbd hbe h2 h3 hG h4 hR (j:=z.toNat) (by omega)
  rw[←hs]at hm
  obtain⟨k,rfl,hq⟩:=(aEo _ _).1 hm
  refine⟨k,rfl,?_⟩
  rw[(h4 j hj).2,tG,hbd j hj]
  exact List.any_eq_true.2 ⟨_,List.mem_map.2 ⟨z,hz,rfl⟩,hq⟩
end
def ltq (x y:Int×Int):Prop:=x.1<y.1∨(x.1=y.1∧x.2<y.2)
theorem aC5 {l m:List (Int×Int)}(hl:l.Pairwise ltq)(hm:m.Pairwise ltq)(h:∀p,p∈l↔p∈m):l=m:=by
 have nd:∀ {l:List (Int×Int)},l.Pairwise ltq→l.Nodup:=fun h=>h.imp fun {a b} h e=>by subst e; unfold ltq at h; omega
 refine List.Perm.eq_of_pairwise (le:=ltq) (fun a b _ _ h1 h2=>absurd h1 (by unfold ltq at *; omega)) hl hm ((List.perm_ext_iff_of_nodup (nd hl) (nd hm)).2 h)
theorem aVs {l:List (Int×Int)}(h:l.Nodup):(fN l).Pairwise ltq:=by
 have hn:(fN l).Nodup:=((iU l).nodup_iff).2 h
 refine (List.Pairwise.and (oT l) hn).imp fun {a b} ⟨h1,h2⟩=>?_
 unfold leP at h1
 rw[decide_eq_true_eq]at h1
 unfold ltq
 rcases h1 with h1|⟨h1,h3⟩
 ·exact .inl h1
 ·refine .inr ⟨h1,?_⟩
  by_cases e:a.2=b.2
  ·exact absurd (Prod.ext h1 e) h2
  ·omega
def prP (a b:Int):Int×Int:=if a≤b then (a,b) else (b,a)
theorem aG5 (a b:Int):prP a b=prP b a:=by
 unfold prP
 by_cases h1:a≤b
 ·by_cases h2:b≤a
  ·have:a=b:=by omega
   subst this; rfl
  ·rw[if_pos h1,if_neg h2]
 ·rw[if_neg h1,if_pos (by omega)]
theorem aKp {a b c d:Int}:prP a b=prP c d↔(a=c∧b=d)∨(a=d∧b=c):=by
 unfold prP
 split<;>split<;>simp only[Prod.mk.injEq]<;>omega
theorem aKq {a b:Int}(h:a<b):prP a b=(a,b):=by unfold prP; rw[if_pos (by omega)]
def mvP (x:VI)(p:Int×Int):Prop:=x.op=64∧p=prP x.a x.d
def aKr (x:VI)(O:List Int)(p:Int×Int):Prop:=∃d∈bM x,∃r∈O++bM x,r≠d∧¬mvP x (prP d r)∧p=prP d r
def nB (ins:List VI)(O:Nat→List Int)(p:Int×Int):Prop:=∃i,i<ins.length∧aKr (ins.getD i default) (O i) p
def sH (ins:List VI)(p:Int×Int):Prop:=∃i,i<ins.length∧(ins.getD i default).op=64∧(ins.getD i default).a≠(ins.getD i default).d∧(ins.getD i default).a≠0∧(ins.getD i default).d≠0∧p=prP (ins.getD i default).a (ins.getD i default).d
def mvB (x:VI)(a b:Int):Bool:=decide (x.op=64)&&(decide (x.a=a)&&decide (x.d=b)||decide (x.a=b)&&decide (x.d=a))
def tJ (x:VI)(O:List Int)(a b:Int):Bool:=!mvB x a b&&(decide (a∈bM x)&&(decide (b∈O)||decide (b∈bM x))||decide (b∈bM x)&&decide (a∈O))
theorem aEy (x:VI){a b:Int}(h:a<b):mvB x a b=true↔mvP x (a,b):=by
 unfold mvB mvP
 rw[←aKq h,aKp]
 simp only[Bool.and_eq_true,Bool.or_eq_true,decide_eq_true_eq]
 constructor
 ·rintro⟨h1,h2|h2⟩
  ·exact⟨h1,.inl ⟨h2.1.symm,h2.2.symm⟩⟩
  ·exact⟨h1,.inr ⟨h2.2.symm,h2.1.symm⟩⟩
 ·rintro⟨h1,h2|h2⟩
  ·exact⟨h1,.inl ⟨h2.1.symm,h2.2.symm⟩⟩
  ·exact⟨h1,.inr ⟨h2.2.symm,h2.1.symm⟩⟩
theorem aG6 (x:VI)(O:List Int){a b:Int}(h:a<b):tJ x O a b=true↔aKr x O (a,b):=by
 have hm:=aEy x h
 have hp:=aKq h
 unfold tJ
 simp only[Bool.and_eq_true,Bool.or_eq_true,decide_eq_true_eq,Bool.not_eq_true',←Bool.not_eq_true,hm]
 constructor
 ·rintro⟨h1,⟨h2,h3|h3⟩|⟨h2,h3⟩⟩
  ·exact⟨a,h2,b,List.mem_append_left _ h3,by omega,by rw[hp]; exact h1,hp.symm⟩
  ·exact⟨a,h2,b,List.mem_append_right _ h3,by omega,by rw[hp]; exact h1,hp.symm⟩
  ·exact⟨b,h2,a,List.mem_append_left _ h3,by omega,by rw[aG5,hp]; exact h1,by rw[aG5,hp]⟩
 ·rintro⟨d,hd,r,hr,hne,hmv,he⟩
  rw[←he]at hmv
  refine⟨hmv,?_⟩
  rw[←hp,aKp]at he
  rcases he with⟨rfl,rfl⟩|⟨rfl,rfl⟩
  ·left
   refine⟨hd,?_⟩
   rcases List.mem_append.1 hr with h|h
   ·exact .inl h
   ·exact .inr h
  ·rcases List.mem_append.1 hr with h|h
   ·exact .inr ⟨hd,h⟩
   ·exact .inl ⟨h,.inr hd⟩
def mQ (ins:List VI)(O:Nat→List Int)(a b:Int):Bool:=(List.range ins.length).any fun i=>tJ (ins.getD i default) (O i) a b
theorem aC6 (ins:List VI)(O:Nat→List Int){a b:Int}(h:a<b):mQ ins O a b=true↔nB ins O (a,b):=by
 unfold mQ nB
 rw[List.any_eq_true]
 constructor
 ·rintro⟨i,hi,h1⟩; exact⟨i,List.mem_range.1 hi,(aG6 _ _ h).1 h1⟩
 ·rintro⟨i,hi,h1⟩; exact⟨i,List.mem_range.2 hi,(aG6 _ _ h).2 h1⟩
def lY (ins:List VI)(a b:Int):Bool:=(List.range ins.length).any fun i=>mvB (ins.getD i default) a b
theorem zL (ins:List VI){a b:Int}(h0:1≤a)(h:a<b):lY ins a b=true↔sH ins (a,b):=by
 unfold lY sH
 rw[List.any_eq_true]
 constructor
 ·rintro⟨i,hi,h1⟩
  obtain⟨h2,h3⟩:=(aEy _ h).1 h1
  have h4:=h3
  rw[←aKq h,aKp]at h4
  exact⟨i,List.mem_range.1 hi,h2,by omega,by omega,by omega,h3⟩
 ·rintro⟨i,hi,h2,_,_,_,h3⟩
  exact⟨i,List.mem_range.2 hi,(aEy _ h).2 ⟨h2,h3⟩⟩
def InP (rg:Int)(p:Int×Int):Prop:=1≤p.1∧p.1<p.2∧p.2<rg
theorem aVt {rg a b:Int}(ha:1≤a∧a<rg)(hb:1≤b∧b<rg)(h:a≠b):InP rg (prP a b):=by
 unfold prP InP
 split<;>simp only<;>omega
theorem bDd {rg:Int}{ins:List VI}{O:Nat→List Int}(hD:∀i,i<ins.length→∀d∈bM (ins.getD i default),1≤d∧d<rg)(hO:∀i,i<ins.length→∀d∈O i,1≤d∧d<rg){p:Int×Int}(h:nB ins O p):InP rg p:=by
 obtain⟨i,hi,d,hd,r,hr,hne,_,rfl⟩:=h
 refine aVt (hD i hi d hd) ?_ (Ne.symm hne)
 rcases List.mem_append.1 hr with h|h
 ·exact hO i hi r h
 ·exact hD i hi r h
theorem bDe {rg:Int}{ins:List VI}(hA:∀i,i<ins.length→0≤(ins.getD i default).a∧(ins.getD i default).a<rg)(hB:∀i,i<ins.length→(ins.getD i default).op=64→0≤(ins.getD i default).d∧(ins.getD i default).d<rg){p:Int×Int}(h:sH ins p):InP rg p:=by
 obtain⟨i,hi,h1,h2,h3,h4,rfl⟩:=h
 have a:=hA i hi
 have b:=hB i hi h1
 exact aVt (by omega) (by omega) h2
structure mL (rg a b:Int) (f:Int→Int→Bool) (L:List (Int×Int)):Prop where
 inc:L.Pairwise ltq
 mem:∀p,p∈L↔InP rg p∧(p.1<a∨(p.1=a∧p.2<b))∧f p.1 p.2=true
theorem mL.step {rg a b:Int}{f:Int→Int→Bool}{L:List (Int×Int)}(h:mL rg a b f L)(h1:1≤a)(h2:a<b)(h3:b<rg):mL rg a (b+1) f (if f a b then L++[(a,b)] else L):=by
 by_cases hf:f a b=true
 ·rw[if_pos hf]
  refine⟨?_,fun p=>?_⟩
  ·rw[List.pairwise_append]
   refine⟨h.inc,List.pairwise_singleton _ _,fun p hp q hq=>?_⟩
   rw[List.mem_singleton]at hq
   subst hq
   have:=((h.mem p).1 hp).2.1
   exact this
  ·rw[List.mem_append,h.mem,List.mem_singleton]
   constructor
   ·rintro (⟨q1,q2,q3⟩|rfl)
    ·exact⟨q1,by omega,q3⟩
    ·exact⟨⟨h1,h2,h3⟩,.inr ⟨rfl,by show b<b+1; omega⟩,hf⟩
   ·rintro⟨q1,q2,q3⟩
    by_cases e:p.1=a∧p.2=b
    ·exact .inr (Prod.ext e.1 e.2)
    ·exact .inl ⟨q1,by omega,q3⟩
 ·rw[if_neg hf]
  refine⟨h.inc,fun p=>?_⟩
  rw[h.mem]
  constructor
  ·rintro⟨q1,q2,q3⟩; exact⟨q1,by omega,q3⟩
  ·rintro⟨q1,q2,q3⟩
   refine⟨q1,?_,q3⟩
   by_cases e:p.1=a∧p.2=b
   ·rw[e.1,e.2]at q3; exact absurd q3 hf
   ·omega
theorem mL.row {rg a:Int}{b b':Int}{f:Int→Int→Bool}{L:List (Int×Int)}(h:mL rg a b f L)(hb:rg≤b)(h2:b'=a+2):mL rg (a+1) b' f L:=by
 refine⟨h.inc,fun p=>?_⟩
 rw[h.mem]
 unfold InP
 constructor
 ·rintro⟨q1,q2,q3⟩; exact⟨q1,by omega,q3⟩
 ·rintro⟨q1,q2,q3⟩; exact⟨q1,by omega,q3⟩
theorem mL.zero (rg:Int)(f:Int→Int→Bool):mL rg 1 2 f []:=⟨.nil,fun p=>⟨fun h=>(by cases h),fun⟨q1,q2,_⟩=>(by unfold InP at q1; omega)⟩⟩
theorem aVu (t:Tag)(l:List Int)(n:Int)(hl:l.length≤1000000)(S:aA):∀(k i:Nat) (x2 x4 x5:TV),i+k=l.length →
  ∃j y2 y3 y4 y5,lp' (lim K) t38L0 [.iv (.sl t (TM.one (.int .i64) l)),.iv (.int .i64 n),x2,.iv (.int .i64 i),x4,x5] S=.ret (j,[.iv (.sl t (TM.one (.int .i64) l)),.iv (.int .i64 n),y2,y3,y4,y5],S) ∧
   ((j=.exit 0∧n∉l.drop i)∨(j=.ret∧n∈l.drop i∧y2=.iv (.bool true)))
 | 0,i,x2,x4,x5,h=>by
  obtain rfl:i=l.length:=by omega
  refine⟨.exit 0,x2,.iv (.int .i64 l.length),.iv (.bool false),x5,aF K _ _ t38L0.eq_1 ?_,.inl ⟨rfl,by simp⟩⟩
  simp (config := { maxSteps := 4000000 }) (disch:=omega) only[go_sem]
 | k+1,i,x2,x4,x5,h=>by
  have hla:i<l.length:=by omega
  have h1:=jZ (f:=IV.int .i64) (t:=t) (l:=l) (i:=(i:Int)) (by omega)
  rw[Int.toNat_natCast]at h1
  have hdr:=eX hla
  generalize l.getD i default=v at *
  by_cases he:v=n
  ·refine⟨.ret,.iv (.bool true),.iv (.int .i64 i),.iv (.bool true),.iv (.bool true),aF K _ _ t38L0.eq_1 ?_,.inr ⟨rfl,by rw[hdr,he]; simp,rfl⟩⟩
   simp (config := { maxSteps := 4000000 }) (disch:=omega) only[go_sem,h1,he]
  ·obtain⟨j,y2,y3,y4,y5,hlp,hj⟩:=aVu t l n hl S k (i+1) x2 (.iv (.bool true)) (.iv (.bool false)) (by omega)
   refine⟨j,y2,y3,y4,y5,aF K _ _ t38L0.eq_1 ?_,?_⟩
   ·rw[show ((i+1:Nat):Int)=(i:Int)+1 by omega]at hlp
    simp (config := { maxSteps := 4000000 }) (disch:=omega) only[go_sem,h1,he,aD]
    exact congrArg er hlp
   ·rw[hdr,List.mem_cons]
    have:n≠v:=fun h=>he h.symm
    simpa[this] using hj
theorem aEz (t:Tag)(l:List Int)(hl:l.length≤1000000)(n:Int):TM.Pure K 38 [.iv (.sl t (TM.one (.int .i64) l)),.iv (.int .i64 n)] (.iv (.bool (decide (n∈l)))):=by
 obtain⟨j,y2,y3,y4,y5,hlp,hj⟩:=aVu t l n hl [] l.length 0 (.iv (.bool false)) u_ u_ (by omega)
 rw[List.drop_zero]at hj
 rw[show ((0:Nat):Int)=0 from rfl]at hlp
 rcases hj with⟨rfl,hm⟩|⟨rfl,hm,rfl⟩
 ·rw[decide_eq_false hm]
  refine aH t38 rfl rfl ?_
  simp (config := { maxSteps := 4000000 }) (disch:=omega) only[t38,go_sem]
  rw[hlp]
  simp (config := { maxSteps := 4000000 }) (disch:=omega) only[go_sem]
 ·rw[decide_eq_true hm]
  refine aH t38 rfl rfl ?_
  simp (config := { maxSteps := 4000000 }) (disch:=omega) only[t38,go_sem]
  rw[hlp]
  simp (config := { maxSteps := 4000000 }) (disch:=omega) only[go_sem]
theorem aVv {x:VI}{a b:Int}(h:mvB x a b=false):(x.op≠64)∨(x.op=64∧x.a=a∧x.d≠b∧x.a≠b)∨(x.op=64∧x.a≠a∧x.a=b∧x.d≠a)∨(x.op=64∧x.a≠a∧x.a≠b)∨(x.op=64∧x.a=a∧x.d≠b∧x.a=b∧x.d≠a):=by
 have hmv':¬(x.op=64∧(x.a=a∧x.d=b∨x.a=b∧x.d=a)):=by
  intro hc
  have:mvB x a b=true:=by unfold mvB; simp only[Bool.and_eq_true,Bool.or_eq_true,decide_eq_true_eq]; exact hc
  rw[this]at h; cases h
 omega
theorem bDf {x:VI}{a b:Int}(h:mvB x a b=true):(x.op=64∧x.a=a∧x.d=b)∨(x.op=64∧x.a≠a∧x.a=b∧x.d=a)∨(x.op=64∧x.a=a∧x.d≠b∧x.a=b∧x.d=a):=by
 unfold mvB at h
 simp only[Bool.and_eq_true,Bool.or_eq_true,decide_eq_true_eq]at h
 omega
theorem bKj (x:VI){a b:Int}(hab:a<b)(fs:List TM.Fr)(x0 x1 x4 x5 x6 x8 x9 x10 x11 x12:TV)(S:aA):go' K (lim K) (.region [⟨.fieldAddr 0 (.loc 7),none,none⟩,⟨.load1 (.reg 0),none,none⟩,⟨.bin .eql (.reg 1) (.cst (.int .i64 64)),none,none⟩,⟨.mov (.reg 2),none,none⟩,⟨.fieldAddr 2 (.loc 7),none,(some (3,true))⟩,⟨.load1 (.reg 4),none,(some (3,true))⟩,⟨.mov (.loc 2),none,(some (3,true))⟩,⟨.bin .eql (.reg 5) (.reg 6),none,(some (3,true))⟩,⟨.mov (.reg 7),none,(some (3,true))⟩,⟨.fieldAddr 1 (.loc 7),none,(some (8,true))⟩,⟨.load1 (.reg 9),none,(some (8,true))⟩,⟨.mov (.loc 3),none,(some (8,true))⟩,⟨.bin .eql (.reg 10) (.reg 11),none,(some (8,true))⟩,⟨.pick (.reg 8) (.reg 12) (.cst (.bool false)),none,(some (3,true))⟩,⟨.mov (.reg 13),none,(some (3,true))⟩,⟨.fieldAddr 2 (.loc 7),none,(some (14,false))⟩,⟨.load1 (.reg 15),none,(some (14,false))⟩,⟨.mov (.loc 3),none,(some (14,false))⟩,⟨.bin .eql (.reg 16) (.reg 17),none,(some (14,false))⟩,⟨.mov (.reg 18),none,(some (14,false))⟩,⟨.fieldAddr 1 (.loc 7),none,(some (19,true))⟩,⟨.load1 (.reg 20),none,(some (19,true))⟩,⟨.mov (.loc 2),none,(some (19,true))⟩,⟨.bin .eql (.reg 21) (.reg 22),none,(some (19,true))⟩,⟨.pick (.reg 19) (.reg 23) (.cst (.bool false)),none,(some (14,false))⟩,⟨.pick (.reg 14) (.cst (.bool true)) (.reg 24),none,(some (3,true))⟩,⟨.pick (.reg 3) (.reg 25) (.cst (.bool false)),none,none⟩,⟨.mov (.reg 26),(some 9),none⟩]) fs [x0,x1,.iv (.int .i64 a),.iv (.int .i64 b),x4,x5,x6,.lb [.iv (.int .i64 x.op),.iv (.int .i64 x.d),.iv (.int .i64 x.a),.iv (.int .i64 x.b),.iv (.int .i64 x.im),.iv (.int .i64 x.lb),.iv (.sl x.tu (TM.one (.int .i64) x.us)),.iv (.sl x.tm (TM.one (.int .i64) x.mp))],x8,x9,x10,x11,x12] S
  = bk' K (lim K) fs .normal [x0,x1,.iv (.int .i64 a),.iv (.int .i64 b),x4,x5,x6,.lb [.iv (.int .i64 x.op),.iv (.int .i64 x.d),.iv (.int .i64 x.a),.iv (.int .i64 x.b),.iv (.int .i64 x.im),.iv (.int .i64 x.lb),.iv (.sl x.tu (TM.one (.int .i64) x.us)),.iv (.sl x.tm (TM.one (.int .i64) x.mp))],x8,.iv (.bool (mvB x a b)),x10,x11,x12] S:=by
 cases hm:mvB x a b with
 | true =>
  rcases bDf hm with⟨p1,p2,p3⟩|⟨p1,p2,p3,p4⟩|⟨p1,p2,p3,p4,p5⟩
  ·rw[p1,p2,p3]
   simp (config := { maxSteps := 4000000 }) (disch:=omega) only[go_sem]
  ·rw[p1,p3,p4]
   have p5:¬b=a:=by omega
   simp (config := { maxSteps := 4000000 }) (disch:=omega) only[go_sem,p5]
  ·omega
 | false =>
  rcases aVv hm with p1|⟨p1,p2,p3,p4⟩|⟨p1,p2,p3,p4⟩|⟨p1,p2,p3⟩|⟨p1,p2,p3,p4,p5⟩
  ·simp (config := { maxSteps := 4000000 }) (disch:=omega) only[go_sem,p1]
  ·rw[p1]
   simp (config := { maxSteps := 4000000 }) (disch:=omega) only[go_sem]
  ·rw[p1]
   simp (config := { maxSteps := 4000000 }) (disch:=omega) only[go_sem]
  ·rw[p1]
   simp (config := { maxSteps := 4000000 }) (disch:=omega) only[go_sem]
  ·omega
theorem bKk {to:Tag}{tg:Nat→Tag}{Q:Nat→List Int}{n i:Nat}(hla:i<n)(hQi:(Q i).length≤1000000){dd:List Int}(hdl:dd.length≤1000000)(t':Tag)(a b:Int)(fs:List TM.Fr)(x0 x4 x5 x7 x9 x10 x11 x12:TV)(S:aA):go' K (lim K) (.region [⟨.mov (.loc 8),none,none⟩,⟨.mov (.loc 2),none,none⟩,⟨.call true false 38 [(.reg 0),(.reg 1)],none,none⟩,⟨.mov (.reg 2),none,none⟩,⟨.mov (.loc 1),none,(some (3,true))⟩,⟨.mov (.loc 6),none,(some (3,true))⟩,⟨.indexAddrS 1 (.reg 4) (.reg 5),none,(some (3,true))⟩,⟨.load1 (.reg 6),none,(some (3,true))⟩,⟨.mov (.loc 3),none,(some (3,true))⟩,⟨.call true false 38 [(.reg 7),(.reg 8)],none,(some (3,true))⟩,⟨.mov (.reg 9),none,(some (3,true))⟩,⟨.mov (.loc 8),none,(some (10,false))⟩,⟨.mov (.loc 3),none,(some (10,false))⟩,⟨.call true false 38 [(.reg 11),(.reg 12)],none,(some (10,false))⟩,⟨.pick (.reg 10) (.cst (.bool true)) (.reg 13),none,(some (3,true))⟩,⟨.pick (.reg 3) (.reg 14) (.cst (.bool false)),none,none⟩,⟨.mov (.reg 15),none,none⟩,⟨.mov (.loc 8),none,(some (16,false))⟩,⟨.mov (.loc 3),none,(some (16,false))⟩,⟨.call true false 38 [(.reg 17),(.reg 18)],none,(some (16,false))⟩,⟨.mov (.reg 19),none,(some (16,false))⟩,⟨.mov (.loc 1),none,(some (20,true))⟩,⟨.mov (.loc 6),none,(some (20,true))⟩,⟨.indexAddrS 1 (.reg 21) (.reg 22),none,(some (20,true))⟩,⟨.load1 (.reg 23),none,(some (20,true))⟩,⟨.mov (.loc 2),none,(some (20,true))⟩,⟨.call true false 38 [(.reg 24),(.reg 25)],none,(some (20,true))⟩,⟨.pick (.reg 20) (.reg 26) (.cst (.bool false)),none,(some (16,false))⟩,⟨.pick (.reg 16) (.cst (.bool true)) (.reg 27),(some 12),none⟩]) fs [x0,.iv (.sl to (fW tg Q n)),.iv (.int .i64 a),.iv (.int .i64 b),x4,x5,.iv (.int .i64 (i:Int)),x7,.iv (.sl t' (TM.one (.int .i64) dd)),x9,x10,x11,x12] S
  = bk' K (lim K) fs .normal [x0,.iv (.sl to (fW tg Q n)),.iv (.int .i64 a),.iv (.int .i64 b),x4,x5,.iv (.int .i64 (i:Int)),x7,.iv (.sl t' (TM.one (.int .i64) dd)),x9,x10,x11,.iv (.bool (decide (a∈dd)&&(decide (b∈Q i)||decide (b∈dd))||decide (b∈dd)&&decide (a∈Q i)))] S:=by
 have hro:=aVq (tg:=tg) (R:=Q) hla to
 have ca:=aEz t' dd (by omega) a
 have cb:=aEz t' dd (by omega) b
 have oa:=aEz (tg i) (Q i) hQi a
 have ob:=aEz (tg i) (Q i) hQi b
 generalize decide (a∈dd)=ba at *
 generalize decide (b∈dd)=bb at *
 generalize decide (a∈Q i)=qa at *
 generalize decide (b∈Q i)=qb at *
 generalize fW tg Q n=RT at *
 cases ba with
 | true =>
  cases qb with
  | true =>
   simp (config := { maxSteps := 4000000 }) (disch:=omega) only[go_sem,hro,aB ca,aB ob,Bool.true_or,Bool.true_and]
   all_goals rfl
  | false =>
   cases bb with
   | true =>
    simp (config := { maxSteps := 4000000 }) (disch:=omega) only[go_sem,hro,aB ca,aB cb,aB ob,Bool.true_or,Bool.true_and,Bool.or_true]
    all_goals rfl
   | false =>
    simp (config := { maxSteps := 4000000 }) (disch:=omega) only[go_sem,hro,aB ca,aB cb,aB ob,Bool.false_or,Bool.false_and,Bool.or_false,Bool.and_false]
    all_goals rfl
 | false =>
  cases bb with
  | true =>
   cases qa with
   | true =>
    simp (config := { maxSteps := 4000000 }) (disch:=omega) only[go_sem,hro,aB ca,aB cb,aB oa,Bool.false_or,Bool.false_and,Bool.true_and]
    all_goals rfl
   | false =>
    simp (config := { maxSteps := 4000000 }) (disch:=omega) only[go_sem,hro,aB ca,aB cb,aB oa,Bool.false_or,Bool.false_and,Bool.and_false]
    all_goals rfl
  | false =>
   simp (config := { maxSteps := 4000000 }) (disch:=omega) only[go_sem,hro,aB ca,aB cb,Bool.false_or,Bool.false_and]
   all_goals rfl
def aE0:aJ:=(.region [⟨.allocH 42 [(.int .i64 0),(.int .i64 0)],(some 4),none⟩,⟨.store 2 (.reg 0) (.loc 6),none,none⟩])
def aB3:aJ:=(.block 1
  (.region [⟨.load1 (.loc 2),none,none⟩,⟨.loadN 2 (.loc 4),none,none⟩,⟨.lit false [(.int .i64 0),(.int .i64 0)] 1 [(0,(.reg 1))],none,none⟩,⟨.append true 2 16 41 (.reg 0) (.reg 2),none,none⟩,⟨.store 1 (.loc 2) (.reg 3),none,none⟩]))
def e83 (n:Nat)(x4 x6:TV):Env:=[.iv (.sl .nil []),.fn 65 [] [.ptr n 47 0],.ptr (n+1) 30 0,.iv (.sl .nil []),x4,.fn 65 [] [.ptr n 47 0],x6]
def kS (ks:List (Int×Int)):List TV:=(fM ks).map fun n=>.iv (.int .i64 n)
def vP (jr:Nat)(ks:List (Int×Int)):TV:=if ks=[] then .iv (.sl .nil []) else .msl jr (ks.length-1) 0 ks.length ks.length 2
theorem fG (jr:Nat):vP jr []=.iv (.sl .nil []):=rfl
theorem cY (jr:Nat){ks:List (Int×Int)}(h:ks≠[]):vP jr ks=.msl jr (ks.length-1) 0 ks.length ks.length 2:=if_neg h
def zM (S:aA)(jr:Nat)(ks:List (Int×Int)):Prop:=ks≠[]→S[jr]? = some (.cells (ks.length-1) true (kS ks))
theorem tK (ks:List (Int×Int)):(kS ks).length=ks.length*2:=by unfold kS; rw[List.length_map,lW]; omega
theorem aKs (ks:List (Int×Int))(a b:Int):fM (ks++[(a,b)])=fM ks++[a,b]:=by
 induction ks with
 | nil=>rfl
 | cons x r ih=>rw[List.cons_append,fM,ih,fM]; rfl
theorem aQf (ks:List (Int×Int))(a b:Int):kS (ks++[(a,b)])=kS ks++[.iv (.int .i64 a),.iv (.int .i64 b)]:=by
 unfold kS; rw[aKs,List.map_append]; rfl
theorem bDg {S:aA}{jr:Nat}{ks:List (Int×Int)}(h:zM S jr ks)(a b:Int)(hl:ks.length≤1000000) :
  ∃(j':Nat) (S1:aA),bI true 2 16 41 S (vP jr ks) (.iv (.sl .full [[.int .i64 a,.int .i64 b]]))=some (vP j' (ks++[(a,b)]),S1)∧zM S1 j' (ks++[(a,b)])∧(ks=[]∧j'=S.length∨ks≠[]∧j'=jr)∧S.length≤S1.length∧∀q B,S[q]? = some B→(ks≠[]→q≠jr)→S1[q]? = some B:=by
 have hne:ks++[(a,b)]≠[]:=by simp
 have hx:fR S (.iv (.sl .full [[.int .i64 a,.int .i64 b]]))=some [.iv (.int .i64 a),.iv (.int .i64 b)]:=rfl
 have hlx:lenOf S (.iv (.sl .full [[.int .i64 a,.int .i64 b]]))=some 1:=rfl
 by_cases h0:ks=[]
 ·subst h0
  refine⟨S.length,S++[.cells 0 true (kS [(a,b)])],?_,fun _=>by simp,.inl ⟨rfl,rfl⟩,by simp,fun q B hq _=>aX hq _⟩
  rw[fG,cY _ hne]
  simp[bI,fR,lenOf,TM.bJ,bG,TM.nN,dZ,kS,fM]
 ·have hr:=h h0
  have hn:0<ks.length:=List.length_pos_iff.2 h0
  have hs:sub (kS ks) 0 (ks.length*2)=some (kS ks):=lS (tK ks)
  have hro:dZ (ks.length+1) 16=true:=cX (by omega)
  have hcl:=tK ks
  refine⟨jr,S.set jr (.cells ks.length true (kS (ks++[(a,b)]))),?_,fun _=>?_,.inr ⟨h0,rfl⟩,by simp,fun q B hq hne=>by rw[aL (Ne.symm (hne h0))]; exact hq⟩
  ·rw[cY _ h0,cY _ hne,aQf,List.length_append,List.length_singleton,Nat.add_sub_cancel]
   generalize kS ks=cs at *
   generalize ks.length=n at *
   simp[bI,hx,hlx,hr,bG,hs,hro,show ¬n+1≤n by omega,show n-1+1=n by omega]
  ·rw[List.length_append,List.length_singleton,Nat.add_sub_cancel]
   exact bE (cW hr) _
structure YK (S:aA) (n jm jr:Nat) (l:List (Nat×(Int×Int)×Int)) (c:Nat) (ks:List (Int×Int)):Prop where
 a:S[n]? = some (.cells 47 false [.map jm])
 b:S[n+1]? = some (.cells 30 false [vP jr ks])
 y:∃x4 x6,S[n+2]? = some (.lp .ready none (e83 n x4 x6) [6] aE0 aB3)
 r:zM S jr ks
 m:S[jm]? = some (.mp (mpK en2 nW l) c)
 lt:jm<n
 jr:ks≠[]→n+3<jr
theorem bH5 {S:aA}{n jm jr:Nat}{l:List (Nat×(Int×Int)×Int)}{c:Nat}{ks:List (Int×Int)}(h:YK S n jm jr l c ks)(a b:Int)(hl:ks.length≤1000000)(hS:n+3<S.length) :
  ∃(j':Nat) (S':aA),(lim K).yld (n+2) [.iv (.agg [.int .i64 a,.int .i64 b])] S=.ret (.iv (.bool true),S')∧YK S' n jm j' l c (ks++[(a,b)])∧S.length≤S'.length∧∀q B,S[q]? = some B→q≠n+1→q≠n+2→(ks≠[]→q≠jr)→S'[q]? = some B:=by
 obtain⟨x4,x6,hy⟩:=h.y
 have hjr:=h.jr
 have hlt:=h.lt
 generalize hS1:S++[aG.cells 42 false [.iv (.int .i64 a),.iv (.int .i64 b)]]=S1
 have hS1l:S1.length=S.length+1:=by rw[←hS1]; simp
 have k1:∀q B,S[q]? = some B→S1[q]? = some B:=fun q B hq=>by rw[←hS1]; exact aX hq _
 have y1:=k1 _ _ hy
 generalize hT:S1.set (n+2) (.lp .busy none (e83 n x4 x6) [6] aE0 aB3)=T
 have hTl:T.length=S1.length:=by rw[←hT]; simp
 have kT:∀q B,S1[q]? = some B→q≠n+2→T[q]? = some B:=fun q B hq hn=>by rw[←hT,aL (Ne.symm hn)]; exact hq
 have tb:=kT _ _ (k1 _ _ h.b) (by omega)
 have t4:T[S.length]? = some (.cells 42 false [.iv (.int .i64 a),.iv (.int .i64 b)]):=kT _ _ (by rw[←hS1,vD]) (by omega)
 have ty:T[n+2]? = some (.lp .busy none (e83 n x4 x6) [6] aE0 aB3):=by rw[←hT]; exact bE (cW y1) _
 have tr:zM T jr ks:=fun h0=>kT _ _ (k1 _ _ (h.r h0)) (by have:=hjr h0; omega)
 obtain⟨j',S2,ap,r2,hj',hl2,k2⟩:=bDg tr a b hl
 have b2:=k2 _ _ tb (fun h0=>by have:=hjr h0; omega)
 have y2:=k2 _ _ ty (fun h0=>by have:=hjr h0; omega)
 have hj4:n+3<j':=by rcases hj' with⟨_,rfl⟩|⟨h0,rfl⟩; omega; exact hjr h0
 refine⟨j',(S2.set (n+1) (.cells 30 false [vP j' (ks++[(a,b)])])).set (n+2) (.lp .ready none (e83 n x4 x6) [6] aE0 aB3),?_,?_,?_,?_⟩
 ·refine aJv (env2:=[.iv (.sl .nil []),.fn 65 [] [.ptr n 47 0],.ptr (n+1) 30 0,.iv (.sl .nil []),.ptr S.length 42 0,.fn 65 [] [.ptr n 47 0],.iv (.agg [.int .i64 a,.int .i64 b])]) (env3:=[.iv (.sl .nil []),.fn 65 [] [.ptr n 47 0],.ptr (n+1) 30 0,.iv (.sl .nil []),.ptr S.length 42 0,.fn 65 [] [.ptr n 47 0],.iv (.agg [.int .i64 a,.int .i64 b])]) (S1:=S1) (S2:=S2.set (n+1) (.cells 30 false [vP j' (ks++[(a,b)])])) hy rfl ?_ y1 ?_ (by rw[aL (by omega)]; exact y2)
  ·subst hS1
   simp (config := { maxSteps := 4000000 }) (disch:=omega) only[aE0,e83,go_sem]
  ·rw[hT]
   rw[cY _ (show ks++[(a,b)]≠[] by simp)]at ap ⊢
   by_cases h0:ks=[]
   ·subst h0
    rw[fG]at ap tb b2
    simp (config := { maxSteps := 4000000 }) (disch:=omega) only[aB3,go_sem,t4,tb,ap,b2]
   ·rw[cY _ h0]at ap tb b2
    simp (config := { maxSteps := 4000000 }) (disch:=omega) only[aB3,go_sem,t4,tb,ap,b2]
 ·have kk:∀q B,S[q]? = some B→q≠n+1→q≠n+2→(ks≠[]→q≠jr)→((S2.set (n+1) (.cells 30 false [vP j' (ks++[(a,b)])])).set (n+2) (.lp .ready none (e83 n x4 x6) [6] aE0 aB3))[q]? = some B:=fun q B hq h1 h2 h3=>by
   rw[aL (Ne.symm h2),aL (Ne.symm h1)]; exact k2 _ _ (kT _ _ (k1 _ _ hq) h2) h3
  refine⟨kk _ _ h.a (by omega) (by omega) (fun h0=>by have:=hjr h0; omega),?_,⟨x4,x6,bE (by rw[List.length_set]; exact cW y2) _⟩,fun h0=>?_,kk _ _ h.m (by omega) (by omega) (fun h0=>by have:=hjr h0; omega),hlt,fun _=>hj4⟩
  ·rw[aL (by omega)]; exact bE (cW b2) _
  ·rw[aL (by omega),aL (by omega)]; exact r2 h0
 ·rw[List.length_set,List.length_set]; omega
 ·intro q B hq h1 h2 h3
  rw[aL (Ne.symm h2),aL (Ne.symm h1)]; exact k2 _ _ (kT _ _ (k1 _ _ hq) h2) h3
structure Met (l:List (Nat×(Int×Int)×Int)) (seen:List Nat) (ks:List (Int×Int)):Prop where
 nd:ks.Nodup
 mem:∀k,k∈ks↔∃x∈l,x.1∈seen∧x.2.1=k
 len:ks.length≤seen.length
 sl:seen.length+xZ l seen≤l.length
theorem bDh {l:List (Nat×(Int×Int)×Int)}(h:(l.map (·.2.1)).Nodup){x y:Nat×(Int×Int)×Int}(hx:x∈l)(hy:y∈l)(e:x.2.1=y.2.1):x=y:=by
 induction l with
 | nil=>cases hx
 | cons z l ih =>
  rw[List.map_cons,List.nodup_cons]at h
  rcases List.mem_cons.1 hx with hx1|hx1
  ·rcases List.mem_cons.1 hy with hy1|hy1
   ·rw[hx1,hy1]
   ·exact absurd (by rw[←hx1,e]; exact List.mem_map_of_mem (f:=fun y:Nat×(Int×Int)×Int=>y.2.1) hy1) h.1
  ·rcases List.mem_cons.1 hy with hy1|hy1
   ·exact absurd (by rw[←hy1,←e]; exact List.mem_map_of_mem (f:=fun y:Nat×(Int×Int)×Int=>y.2.1) hx1) h.1
   ·exact ih h.2 hx1 hy1
theorem Met.next {l:List (Nat×(Int×Int)×Int)}{c:Nat}(ho:eN l c){seen:List Nat}{ks:List (Int×Int)}(h:Met l seen ks){x:Nat×(Int×Int)×Int}(hx:x∈l)(hs:x.1∉seen):Met l (seen++[x.1]) (ks++[x.2.1]):=by
 refine⟨?_,fun k=>?_,by rw[List.length_append,List.length_append]; have:=h.len; simp; omega,?_⟩
 ·rw[List.nodup_append]
  refine⟨h.nd,by simp,fun a ha b hb e=>?_⟩
  rw[List.mem_singleton]at hb
  subst hb; subst e
  obtain⟨y,hy,h1,h2⟩:=(h.mem _).1 ha
  rw[bDh ho.keys hy hx h2]at h1
  exact hs h1
 ·rw[List.mem_append,h.mem,List.mem_singleton]
  constructor
  ·rintro (⟨y,hy,h1,h2⟩|rfl)
   ·exact⟨y,hy,by simp[h1],h2⟩
   ·exact⟨x,hx,by simp,rfl⟩
  ·rintro⟨y,hy,h1,h2⟩
   rcases List.mem_append.1 h1 with h1|h1
   ·exact .inl ⟨y,hy,h1,h2⟩
   ·rw[List.mem_singleton]at h1
    right
    rw[←h2]
    have key:∀l:List (Nat×(Int×Int)×Int),(l.map (·.1)).Nodup→x∈l→y∈l→y=x:=by
     intro l
     induction l with
     | nil=>intro _ h; cases h
     | cons z l ih =>
      intro hn hx hy
      rw[List.map_cons,List.nodup_cons]at hn
      rcases List.mem_cons.1 hx with hx1|hx1
      ·rcases List.mem_cons.1 hy with hy1|hy1
       ·rw[hx1,hy1]
       ·exact absurd (by rw[←hx1,←h1]; exact List.mem_map_of_mem (f:=fun y:Nat×(Int×Int)×Int=>y.1) hy1) hn.1
      ·rcases List.mem_cons.1 hy with hy1|hy1
       ·exact absurd (by rw[←hy1,h1]; exact List.mem_map_of_mem (f:=fun y:Nat×(Int×Int)×Int=>y.1) hx1) hn.1
       ·exact ih hn.2 hx1 hy1
    rw[key l ho.once hx hy]
 ·have:=aJ3 hx hs
  have:=h.sl
  simp; omega
theorem aQg (l:List (Nat×(Int×Int)×Int)):xZ l []=l.length:=by
 unfold xZ
 rw[List.filter_eq_self.2 (by simp)]
theorem Met.nil (l:List (Nat×(Int×Int)×Int)):Met l [] []:=⟨.nil,fun k=>by simp,by simp,by rw[aQg]; simp⟩
theorem Met.done {l:List (Nat×(Int×Int)×Int)}{c:Nat}(ho:eN l c){seen:List Nat}{ks:List (Int×Int)}(h:Met l seen ks)(ha:∀x∈l,x.1∈seen):ks.Perm (l.map (·.2.1)):=by
 rw[List.perm_ext_iff_of_nodup h.nd ho.keys]
 intro k
 rw[h.mem,List.mem_map]
 exact⟨fun⟨x,hx,_,he⟩=>⟨x,hx,he⟩,fun⟨x,hx,he⟩=>⟨x,hx,ha x hx,he⟩⟩
def Kp (n0:Nat)(S S':aA):Prop:=∀q B,q<n0→S[q]? = some B→S'[q]? = some B
theorem aVw {n jm:Nat}{l:List (Nat×(Int×Int)×Int)}{c:Nat}(ho:eN l c)(hll:l.length≤1000000):∀(q:Nat) (S:aA) (jr:Nat) (ks:List (Int×Int)) (seen:List Nat) (x2 x4 x5:TV),xZ l seen<q→YK S n jm jr l c ks→S[n+3]? = some (.mit (some jm) c seen c)→Met l seen ks→n+3<S.length →
  (lp' (lim K) t65L0 [.yld (n+2),.ptr n 47 0,x2,.it (n+3),x4,x5] S).All fun r=>r.1=.exit 0∧(∃y2 y4 y5,r.2.1=[.yld (n+2),.ptr n 47 0,y2,.it (n+3),y4,y5])∧Kp n S r.2.2∧∃(j':Nat) (ks':List (Int×Int)),YK r.2.2 n jm j' l c ks'∧ks'.Perm (l.map (·.2.1))
 | 0,S,jr,ks,seen,x2,x4,x5,hq,hY,hi,hM,hS=>by omega
 | q+1,S,jr,ks,seen,x2,x4,x5,hq,hY,hi,hM,hS=>by
  refine aGj t65L0.eq_1 ?_
  simp (config := { maxSteps := 4000000 }) (disch:=omega) only[go_sem]
  refine aCr hi hY.m ho.born (Nat.le_refl _) (fun ha=>?_) (fun x hx hs=>?_)
  ·simp (config := { maxSteps := 4000000 }) (disch:=omega) only[go_sem]
   exact eC ⟨rfl,⟨_,_,_,rfl⟩,fun q B _ hq=>hq,jr,ks,hY,hM.done ho ha⟩
  ·have hjr:=hY.jr
   have hlt:=hY.lt
   have hsl:=hM.sl
   have hlen:=hM.len
   generalize hS1:S.set (n+3) (.mit (some jm) c (seen++[x.1]) c)=S1
   have hl1:S1.length=S.length:=by rw[←hS1]; simp
   have k1:∀q B,S[q]? = some B→q≠n+3→S1[q]? = some B:=fun q B hq hn=>by rw[←hS1,aL (Ne.symm hn)]; exact hq
   have hi1:S1[n+3]? = some (.mit (some jm) c (seen++[x.1]) c):=by rw[←hS1]; exact bE hS _
   obtain⟨x4',x6',hy'⟩:=hY.y
   have hY1:YK S1 n jm jr l c ks:=⟨k1 _ _ hY.a (by omega),k1 _ _ hY.b (by omega),⟨x4',x6',k1 _ _ hy' (by omega)⟩,fun h0=>k1 _ _ (hY.r h0) (by have:=hjr h0; omega),k1 _ _ hY.m (by omega),hlt,hjr⟩
   have he:=bGe (f:=nW) hi1 hY1.m hx ho.once
   obtain⟨j2,S2,cy,hY2,hl2,k2⟩:=bH5 hY1 x.2.1.1 x.2.1.2 (by omega) (by omega)
   have hi2:=k2 _ _ hi1 (by omega) (by omega) (fun h0=>by have:=hjr h0; omega)
   have ih:=aVw ho hll q S2 j2 (ks++[(x.2.1.1,x.2.1.2)]) (seen++[x.1]) (.lb [.iv (.int .i64 x.2.1.1),.iv (.int .i64 x.2.1.2)]) (.iv (.bool true)) (.iv (.bool false)) (by have:=aJ3 hx hs; omega) hY2 hi2 (hM.next ho hx hs) (by omega)
   rw[show en2 x.2.1=.agg [.int .i64 x.2.1.1,.int .i64 x.2.1.2] from rfl]at he ⊢
   simp (config := { maxSteps := 4000000 }) (disch:=omega) only[go_sem,he,cy,er_ret]
   refine aNj (Out.all_mono ?_ ih)
   rintro⟨j,e,S'⟩ ⟨a1,a2,a3,a4⟩
   exact⟨a1,a2,fun q B hqn hq=>a3 q B hqn (k2 _ _ (k1 _ _ hq (by omega)) (by omega) (by omega) (fun h0=>by have:=hjr h0; omega)),a4⟩
theorem bH6 {n jm:Nat}{l:List (Nat×(Int×Int)×Int)}{c:Nat}(ho:eN l c)(hll:l.length≤1000000){S:aA}(hn:S.length=n+3){x4 x6:TV}(ha:S[n]? = some (.cells 47 false [.map jm]))(hb:S[n+1]? = some (.cells 30 false [.iv (.sl .nil [])]))(hy:S[n+2]? = some (.lp .ready none (e83 n x4 x6) [6] aE0 aB3))(hm:S[jm]? = some (.mp (mpK en2 nW l) c))(hlt:jm<n) :
  ((lim K).call 65 [.yld (n+2),.ptr n 47 0] S).All fun r=>Kp n S r.2∧∃(j':Nat) (ks':List (Int×Int)),YK r.2 n jm j' l c ks'∧ks'.Perm (l.map (·.2.1)):=by
 have rx:=aNp hm
 have k1:∀q B,S[q]? = some B→(S++[aG.mit (some jm) c [] c])[q]? = some B:=fun q B hq=>aX hq _
 have hY:YK (S++[aG.mit (some jm) c [] c]) n jm 0 l c []:=⟨k1 _ _ ha,k1 _ _ hb,⟨x4,x6,k1 _ _ hy⟩,fun h=>absurd rfl h,k1 _ _ hm,hlt,fun h=>absurd rfl h⟩
 have l1:=aVw ho hll (xZ l []+1) (S++[aG.mit (some jm) c [] c]) 0 [] [] u_ u_ u_ (by omega) hY (by rw[←hn,vD]) (Met.nil l) (by simp; omega)
 rw[←hn]at l1
 refine jY K _ (fn:=t65) rfl rfl ?_
 simp (config := { maxSteps := 4000000 }) (disch:=omega) only[t65,go_sem,ha,rx]
 refine xW l1 ?_
 rintro j e S' ⟨a1,⟨y2,y4,y5,a2⟩,a3,a4⟩
 dsimp only at a1 a2 a3 a4
 subst a1; subst a2
 simp (config := { maxSteps := 4000000 }) (disch:=omega) only[go_sem]
 exact eC ⟨fun q B hqn hq=>a3 q B hqn (k1 _ _ hq),a4⟩
theorem bH7 {n jm:Nat}{l:List (Nat×(Int×Int)×Int)}{c:Nat}(ho:eN l c)(hll:l.length≤1000000){S:aA}(hn:S.length=n+1)(ha:S[n]? = some (.cells 47 false [.map jm]))(hm:S[jm]? = some (.mp (mpK en2 nW l) c))(hlt:jm<n) :
  ((lim K).call 83 [.iv (.sl .nil []),.fn 65 [] [.ptr n 47 0]] S).All fun r=>Kp n S r.2∧∃(j':Nat) (ks':List (Int×Int)),r.1=vP j' ks'∧zM r.2 j' ks'∧(ks'≠[]→n+3<j')∧ks'.Perm (l.map (·.2.1)):=by
 have h65:=bH6 ho hll (S:=S++[.cells 30 false [.iv (.sl .nil [])]]++[.lp .ready none (e83 n u_ u_) [6] aE0 aB3]) (n:=n) (jm:=jm) (x4:=u_) (x6:=u_) (by simp; omega) (by rw[List.append_assoc]; exact aX ha _) (by rw[←hn,List.append_assoc]; exact gN0 _ _ _) (by rw[show n+2=(S++[aG.cells 30 false [.iv (.sl .nil [])]]).length by simp; omega]; exact vD _ _) (by rw[List.append_assoc]; exact aX hm _) hlt
 have hl1:(S++[aG.cells 30 false [TV.iv (.sl .nil [])]]).length=n+2:=by simp; omega
 unfold e83 aE0 aB3 at h65
 rw[show n+1=S.length from hn.symm]at h65
 refine jY K _ (fn:=t83) rfl rfl ?_
 simp (config := { maxSteps := 4000000 }) (disch:=omega) only[t83,go_sem,hl1,List.map_cons,List.map_nil]
 refine aJ4 h65 ?_
 rintro v S' ⟨a1,j',ks',hY,hp⟩
 obtain⟨x4,x6,hy⟩:=hY.y
 have hb:=hY.b
 have hlt':=cW hy
 have gb:=fun B=>aL (S:=S') (show n+2≠n+1 by omega) B
 rw[hn.symm]at hb gb
 have hkp:∀B,Kp n S (S'.set (n+2) B):=fun B q X hq hX=>by
  rw[aL (by omega)]; exact a1 q X hq (by rw[List.append_assoc]; exact aX hX _)
 have hjr:=hY.jr
 have hrb:∀B,zM (S'.set (n+2) B) j' ks':=fun B h0=>by have:=hjr h0; rw[aL (by omega)]; exact hY.r h0
 rw[aPp,hl1]
 by_cases h0:ks'=[]
 ·subst h0
  rw[fG]at hb
  simp (config := { maxSteps := 4000000 }) (disch:=omega) only[go_sem,hy,gb,hb]
  exact eC ⟨hkp _,j',[],rfl,hrb _,hjr,hp⟩
 ·rw[cY _ h0]at hb
  simp (config := { maxSteps := 4000000 }) (disch:=omega) only[go_sem,hy,gb,hb]
  exact eC ⟨hkp _,j',ks',(cY _ h0).symm,hrb _,hjr,hp⟩
theorem aB4 {a b:List (Int×Int)}(h:a.Perm b):fN a=fN b:=vE ((iU a).trans h) (oT a)
theorem aC7 (a:List (Int×Int)):(fN a).length=a.length:=(iU a).length_eq
theorem aQh {a:List (Int×Int)}:fN a=[]↔a=[]:=by rw[←List.length_eq_zero_iff,aC7,List.length_eq_zero_iff]
theorem bDi:K.prim 64=some (gF 33):=rfl
theorem aQi (S:aA)(j v o n c e:Nat):prV S (some (gF 33)) [.msl j v o n c e,.fn 33 [] []]=gF 33 [.msl j v o n c e,.fn 33 [] []] S:=id rfl
theorem aQj (S:aA):prV S (some (gF 33)) [.iv (.sl .nil []),.fn 33 [] []]=some (u_,S):=id rfl
theorem aQk {S:aA}{j:Nat}{ks:List (Int×Int)}(h:S[j]? = some (.cells (ks.length-1) true (kS ks)))(hn:ks.length≤1000000)(h0:ks≠[]) :
  gF 33 [.msl j (ks.length-1) 0 ks.length ks.length 2,.fn 33 [] []] S=some (u_,S.set j (.cells (ks.length-1) true (kS (fN ks)))):=by
 have hp:0<ks.length:=List.length_pos_iff.2 h0
 have hl:=tK ks
 have e1:(kS ks).take (2*ks.length)=kS ks:=List.take_of_length_le (by omega)
 have e2:(kS ks).drop (2*ks.length)=[]:=List.drop_eq_nil_of_le (by omega)
 have e3:qQ (kS ks)=some (fM ks):=aBs _
 simp only[gF,ne_eq,not_true_eq_false,↓reduceIte,show ¬ks.length=0 by omega,h,Nat.le_refl,Nat.zero_add,show 2*ks.length≤(kS ks).length by omega,show ks.length≤1048576 by omega,and_self,List.drop_zero,e1,e2,e3,aBt,List.take_zero,List.nil_append,List.append_nil]
 rfl
attribute [go_sem] bDi aQi aQj
def bH8 (n0:Nat)(S:aA)(ks:List (Int×Int))(r:TV×aA):Prop:=Kp n0 S r.2∧∃j',r.1=vP j' (fN ks)∧zM r.2 j' (fN ks)
theorem bH9 {n jm:Nat}{l:List (Nat×(Int×Int)×Int)}{c:Nat}(ho:eN l c)(hll:l.length≤1000000){S:aA}(hn:S.length=n+1)(ha:S[n]? = some (.cells 47 false [.map jm]))(hm:S[jm]? = some (.mp (mpK en2 nW l) c))(hlt:jm<n) :
  ((lim K).call 63 [.fn 65 [] [.ptr n 47 0]] S).All fun r=>Kp n S r.2∧∃(j':Nat) (ks':List (Int×Int)),r.1=vP j' ks'∧zM r.2 j' ks'∧(ks'≠[]→n+3<j')∧ks'.Perm (l.map (·.2.1)):=by
 refine jY K _ (fn:=t63) rfl rfl ?_
 simp (config := { maxSteps := 4000000 }) (disch:=omega) only[t63,go_sem]
 refine iX (bH7 ho hll hn ha hm hlt) ?_
 rintro v S' ⟨a1,j',ks',a2,a3,a4,a5⟩
 dsimp only at a1 a2 a3
 subst a2
 by_cases h0:ks'=[]
 ·subst h0
  rw[fG]
  simp (config := { maxSteps := 4000000 }) (disch:=omega) only[go_sem]
  exact eC ⟨a1,j',[],rfl,a3,a4,a5⟩
 ·rw[cY _ h0]
  simp (config := { maxSteps := 4000000 }) (disch:=omega) only[go_sem]
  exact eC ⟨a1,j',ks',(cY _ h0).symm,a3,a4,a5⟩
theorem bIa {n jm:Nat}{l:List (Nat×(Int×Int)×Int)}{c:Nat}(ho:eN l c)(hll:l.length≤1000000){S:aA}(hn:S.length=n+1)(ha:S[n]? = some (.cells 47 false [.map jm]))(hm:S[jm]? = some (.mp (mpK en2 nW l) c))(hlt:jm<n) :
  ((lim K).call 31 [.fn 65 [] [.ptr n 47 0],.fn 33 [] []] S).All (bH8 n S (l.map (·.2.1))):=by
 refine jY K _ (fn:=t31) rfl rfl ?_
 simp (config := { maxSteps := 4000000 }) (disch:=omega) only[t31,go_sem]
 refine iX (bH9 ho hll hn ha hm hlt) ?_
 rintro v S' ⟨a1,j',ks',a2,a3,a4,a5⟩
 dsimp only at a1 a2 a3
 subst a2
 have hkl:=a5.length_eq
 rw[List.length_map]at hkl
 unfold bH8
 rw[←aB4 a5]
 by_cases h0:ks'=[]
 ·subst h0
  rw[fG]
  simp (config := { maxSteps := 4000000 }) (disch:=omega) only[go_sem]
  exact eC ⟨a1,j',rfl,fun h=>absurd rfl h⟩
 ·have hp:=aQk (a3 h0) (by omega) h0
  have hs0:fN ks'≠[]:=fun h=>h0 (aQh.1 h)
  have hsl:=aC7 ks'
  have hj:=a4 h0
  rw[cY _ h0]
  simp (config := { maxSteps := 4000000 }) (disch:=omega) only[go_sem,hp]
  refine eC ⟨fun q B hq hB=>?_,j',?_,fun _=>?_⟩
  ·rw[aL (by omega)]; exact a1 q B hq hB
  ·rw[cY _ hs0,hsl]
  ·rw[hsl]; exact bE (cW (a3 h0)) _
theorem bIb (S:aA)(jm:Nat):(lim K).call 32 [.map jm] S=.ret (.fn 65 [] [.ptr S.length 47 0],S++[.cells 47 false [.map jm]]):=by
 refine aP K _ (fn:=t32) rfl rfl ?_
 simp (config := { maxSteps := 4000000 }) (disch:=omega) only[t32,go_sem]
theorem aVx {jm:Nat}{l:List (Nat×(Int×Int)×Int)}{c:Nat}(ho:eN l c)(hll:l.length≤1000000){S:aA}(hm:S[jm]? = some (.mp (mpK en2 nW l) c)) :
  ((lim K).call 14 [.map jm] S).All (bH8 S.length S (l.map (·.2.1))):=by
 have c32:=bIb S jm
 have c31:=bIa ho hll (n:=S.length) (S:=S++[.cells 47 false [.map jm]]) (by simp) (vD _ _) (aX hm _) (cW hm)
 refine jY K _ (fn:=t14) rfl rfl ?_
 simp (config := { maxSteps := 4000000 }) (disch:=omega) only[t14,go_sem,c32]
 refine iX c31 ?_
 rintro v S' ⟨a1,j',a2,a3⟩
 dsimp only at a1 a2 a3
 subst a2
 have hk:Kp S.length S S':=fun q B hq hB=>a1 q B hq (aX hB _)
 generalize hks:fN (l.map (·.2.1))=ks at *
 by_cases h0:ks=[]
 ·rw[h0,fG]
  simp (config := { maxSteps := 4000000 }) (disch:=omega) only[go_sem]
  exact eC ⟨hk,j',by rw[hks,h0]; rfl,by rw[hks]; exact a3⟩
 ·rw[cY _ h0]
  simp (config := { maxSteps := 4000000 }) (disch:=omega) only[go_sem]
  exact eC ⟨hk,j',by rw[hks]; exact (cY _ h0).symm,by rw[hks]; exact a3⟩
theorem mm0 (a b:Int):minmax false (.int .i64 a) [.iv (.int .i64 b)]=some (.int .i64 (prP a b).1):=by
 unfold prP
 by_cases h:a≤b
 ·simp[minmax,min2,h,show ¬b<a by omega]
 ·simp[minmax,min2,h,show b<a by omega]
theorem mm1 (a b:Int):minmax true (.int .i64 a) [.iv (.int .i64 b)]=some (.int .i64 (prP a b).2):=by
 unfold prP
 by_cases h:a≤b
 ·by_cases h2:a<b
  ·simp[minmax,min2,h,h2]
  ·have:a=b:=by omega
   subst this
   simp[minmax,min2]
 ·simp[minmax,min2,h,show ¬a<b by omega]
theorem aKt (a b:Int):TM.Pure K 11 [.iv (.int .i64 a),.iv (.int .i64 b)] (.iv (.agg [.int .i64 (prP a b).1,.int .i64 (prP a b).2])):=by
 refine aH t11 rfl rfl ?_
 simp (config := { maxSteps := 4000000 }) (disch:=omega) only[t11,go_sem,mm0,mm1]
theorem bLg (p q:Int×Int):eqAgg false [(0,.int),(1,.int)] (.iv (.agg [.int .i64 p.1,.int .i64 p.2])) (.iv (.agg [.int .i64 q.1,.int .i64 q.2]))=some (.bool (decide (p=q))):=by
 obtain⟨a,b⟩:=p
 obtain⟨c,d⟩:=q
 by_cases h1:a=c
 ·subst h1
  by_cases h2:b=d
  ·subst h2; simp[eqAgg,dV,fP]
  ·simp[eqAgg,dV,fP,h2,show (b==d)=false by simp[h2]]
 ·simp[eqAgg,dV,fP,h1,show (a==c)=false by simp[h1]]
def MpP (S:aA)(j:Nat)(l:List (Nat×(Int×Int)×Int))(c:Nat):Prop:=S[j]? = some (.mp (mpK en2 nW l) c)∧eN l c
def aOs (x:VI)(d:Int)(C:List Int)(p:Int×Int):Prop:=∃r∈C,r≠d∧¬mvP x (prP d r)∧p=prP d r
theorem aG7 {l:List Int}{i:Nat}(h:i<l.length):l.drop i=l.getD i 0::l.drop (i+1):=by
 rw[List.drop_eq_getElem_cons h]
 simp[List.getD,h]
theorem aC8 (l:List (Nat×(Int×Int)×Int))(c:Nat)(k:Int×Int)(a:Int):vG (eV l c k a) k=a:=by unfold vG; rw[aBw,if_pos rfl]; rfl
theorem aKu {x:VI}{C:List Int}(hC:C.length≤1000)(d:Int)(jc:Nat)(x0 x1 x2 x3 x4 x5 x7 x8 x10 x13 x14 x15 x16 x17 x18 x19 x20 x21 x22:TV):∀(k i:Nat) (S:aA) (l:List (Nat×(Int×Int)×Int)) (c:Nat) (x12 x26 x27:TV),i+k=C.length→MpP S 0 l c →
  ∃(S':aA) (l':List (Nat×(Int×Int)×Int)) (c':Nat) (y12 y26 y27:TV),lp' (lim K) t5L0 [x0,x1,x2,x3,x4,x5,.map 0,x7,x8,.lb ((aK x).map .iv),x10,.iv (.int .i64 d),x12,x13,x14,x15,x16,x17,x18,x19,x20,x21,x22,.tsl jc (aT C),.iv (.int .i64 C.length),.iv (.int .i64 i),x26,x27] S
   = .ret (.exit 4,[x0,x1,x2,x3,x4,x5,.map 0,x7,x8,.lb ((aK x).map .iv),x10,.iv (.int .i64 d),y12,x13,x14,x15,x16,x17,x18,x19,x20,x21,x22,.tsl jc (aT C),.iv (.int .i64 C.length),.iv (.int .i64 C.length),y26,y27],S')∧MpP S' 0 l' c'∧(∀p,dT l' p=true↔dT l p=true∨aOs x d (C.drop i) p)∧l'.length≤l.length+k∧iE [0] S S'
 | 0,i,S,l,c,x12,x26,x27,h,hm=>by
  obtain rfl:i=C.length:=by omega
  refine⟨S,l,c,x12,.iv (.bool false),x27,aF K _ _ t5L0.eq_1 ?_,hm,fun p=>?_,by omega,iE.refl _ _⟩
  ·simp (config := { maxSteps := 4000000 }) (disch:=omega) only[go_sem]
  ·rw[List.drop_length]
   exact⟨.inl,fun h=>by rcases h with h|⟨r,hr,_⟩; exact h; cases hr⟩
 | k+1,i,S,l,c,x12,x26,x27,h,hm=>by
  have hla:i<C.length:=by omega
  have hix:=bJ4 (j:=jc) hla
  have hdr:=aG7 hla
  generalize C.getD i 0=r at *
  have c1:=aKt d r
  have c2:=aKt x.a x.d
  have e1:((i+1:Nat):Int)=(i:Int)+1:=by omega
  have heq:=bLg (prP d r) (prP x.a x.d)
  rw[aY]at *
  have step:∀(p:Int×Int),aOs x d (C.drop i) p↔(r≠d∧¬mvP x (prP d r)∧p=prP d r)∨aOs x d (C.drop (i+1)) p:=fun p=>by
   rw[hdr]
   constructor
   ·rintro⟨q,hq,h1⟩
    rcases List.mem_cons.1 hq with rfl|hq
    ·exact .inl h1
    ·exact .inr ⟨q,hq,h1⟩
   ·rintro (h1|⟨q,hq,h1⟩)
    ·exact⟨r,by simp,h1⟩
    ·exact⟨q,by simp[hq],h1⟩
  by_cases hskip:r=d∨mvP x (prP d r)
  ·obtain⟨S',l',c',y12,y26,y27,ih,hm',hk',hl',hK⟩:=aKu (x:=x) hC d jc x0 x1 x2 x3 x4 x5 x7 x8 x10 x13 x14 x15 x16 x17 x18 x19 x20 x21 x22 k (i+1) S l c (.iv (.int .i64 r)) (.iv (.bool true)) (.iv (.bool true)) (by omega) hm
   rw[e1,aY]at ih
   refine⟨S',l',c',y12,y26,y27,aF K _ _ t5L0.eq_1 ?_,hm',fun p=>?_,by omega,hK⟩
   ·by_cases hrd:r=d
    ·simp (config := { maxSteps := 4000000 }) (disch:=omega) only[go_sem,hix,hrd,aD]
     rw[hrd]at ih
     exact congrArg er ih
    ·have hmv:=hskip.resolve_left hrd
     obtain⟨h64,hpq⟩:=hmv
     rw[decide_eq_true hpq]at heq
     simp (config := { maxSteps := 4000000 }) (disch:=omega) only[go_sem,hix,hrd,h64,aB c1,aB c2,heq,aD]
     rw[h64]at ih
     exact congrArg er ih
   ·rw[hk',step]
    constructor
    ·rintro (h1|h1)
     ·exact .inl h1
     ·exact .inr (.inr h1)
    ·rintro (h1|⟨h1,h2,_⟩|h1)
     ·exact .inl h1
     ·exact absurd hskip (by simp[h1,h2])
     ·exact .inr h1
  ·have hrd:r≠d:=fun e=>hskip (.inl e)
   have hmv:¬mvP x (prP d r):=fun e=>hskip (.inr e)
   obtain⟨hm1,ho⟩:=hm
   have hl0:=cW hm1
   have hes:=es2 ho (wN l c (prP d r)) 
   have g1:∀b,(S.set 0 b)[0]? = some b:=fun b=>bE hl0 b
   have hmN:MpP ((S.set 0 (.mp (mpK en2 nW (eV l c (prP d r) (vG l (prP d r)))) (wN l c (prP d r)))).set 0 (.mp (mpK en2 nW (eV l c (prP d r) (IntKind.i64.wrap (vG l (prP d r)+1)))) (wN l c (prP d r)))) 0 (eV l c (prP d r) (IntKind.i64.wrap (vG l (prP d r)+1))) (wN l c (prP d r)):=⟨bE (by simpa using hl0) _,ho.put _ _⟩
   obtain⟨S',l',c',y12,y26,y27,ih,hm',hk',hl',hK⟩:=aKu (x:=x) hC d jc x0 x1 x2 x3 x4 x5 x7 x8 x10 x13 x14 x15 x16 x17 x18 x19 x20 x21 x22 k (i+1) _ _ _ (.iv (.int .i64 r)) (.iv (.bool true)) (.iv (.bool false)) (by omega) hmN
   rw[e1,aY]at ih
   refine⟨S',l',c',y12,y26,y27,aF K _ _ t5L0.eq_1 ?_,hm',fun p=>?_,by have:=xY l c (prP d r) (IntKind.i64.wrap (vG l (prP d r)+1)); omega,((iE.set S (by simp) _).trans (iE.set _ (by simp) _)).trans hK⟩
   ·have hpq:x.op=64→¬prP d r=prP x.a x.d:=fun h64 e=>hmv ⟨h64,e⟩
    have hck:=aC8 l c (prP d r) (vG l (prP d r))
    generalize prP d r=pd at *
    generalize prP x.a x.d=qd at *
    obtain⟨pa,pb⟩:=pd
    dsimp only at *
    by_cases h64:x.op=64
    ·rw[decide_eq_false (hpq h64)]at heq
     simp (config := { maxSteps := 4000000 }) (disch:=omega) only[go_sem,hix,hrd,h64,aB c1,aB c2,heq,hm1,g1,hes,hck,aD]
     rw[h64]at ih
     exact congrArg er ih
    ·simp (config := { maxSteps := 4000000 }) (disch:=omega) only[go_sem,hix,hrd,h64,aB c1,hm1,g1,hes,hck,aD]
     exact congrArg er ih
   ·rw[hk',step,aJ2,Bool.or_eq_true,decide_eq_true_eq]
    constructor
    ·rintro ((h1|h1)|h1)
     ·exact .inr (.inl ⟨hrd,hmv,h1.symm⟩)
     ·exact .inl h1
     ·exact .inr (.inr h1)
    ·rintro (h1|⟨_,_,h1⟩|h1)
     ·exact .inl (.inr h1)
     ·exact .inl (.inl h1.symm)
     ·exact .inr h1
theorem aVy {x:VI}{O:Nat→List Nat}{n i:Nat}(hi:i<n)(hO:(wlI 0 (O i)).length≤70){D:List Int}(hD:D.length≤30)(tO td:Tag)(x0 x1 x2 x3 x5 x7 x13 x14 x15 x16 x17 x18:TV):∀(k j:Nat) (S:aA) (l:List (Nat×(Int×Int)×Int)) (c:Nat) (x11 x12 x22 x23 x24 x25 x26 x27:TV),j+k=D.length→MpP S 0 l c →
  ∃(S':aA) (l':List (Nat×(Int×Int)×Int)) (c':Nat) (y11 y12 y22 y23 y24 y25 y26 y27:TV),lp' (lim K) t5L1 [x0,x1,x2,x3,.iv (.sl tO (fC O n)),x5,.map 0,x7,.iv (.int .i64 i),.lb ((aK x).map .iv),.iv (.sl td (aT D)),x11,x12,x13,x14,x15,x16,x17,x18,.iv (.sl td (aT D)),.iv (.int .i64 D.length),.iv (.int .i64 j),x22,x23,x24,x25,x26,x27] S
   = .ret (.exit 2,[x0,x1,x2,x3,.iv (.sl tO (fC O n)),x5,.map 0,x7,.iv (.int .i64 i),.lb ((aK x).map .iv),.iv (.sl td (aT D)),y11,y12,x13,x14,x15,x16,x17,x18,.iv (.sl td (aT D)),.iv (.int .i64 D.length),.iv (.int .i64 D.length),y22,y23,y24,y25,y26,y27],S')∧MpP S' 0 l' c'∧(∀p,dT l' p=true↔dT l p=true∨∃d∈D.drop j,aOs x d (wlI 0 (O i)++D) p)∧l'.length≤l.length+k*100∧iE [0] S S'
 | 0,j,S,l,c,x11,x12,x22,x23,x24,x25,x26,x27,h,hm=>by
  obtain rfl:j=D.length:=by omega
  refine⟨S,l,c,x11,x12,.iv (.bool false),x23,x24,x25,x26,x27,aF K _ _ t5L1.eq_1 ?_,hm,fun p=>?_,by omega,iE.refl _ _⟩
  ·simp (config := { maxSteps := 4000000 }) (disch:=omega) only[go_sem]
  ·rw[List.drop_length]
   exact⟨.inl,fun h=>by rcases h with h|⟨r,hr,_⟩; exact h; cases hr⟩
 | k+1,j,S,l,c,x11,x12,x22,x23,x24,x25,x26,x27,h,hm=>by
  have hla:j<D.length:=by omega
  have h1:indexAddrS 1 (.iv (.sl td (aT D))) (j:Int)=some (.iv (.cp [.int .i64 (D.getD j 0)])):=jZ (f:=IV.int .i64) (t:=td) (l:=D) (i:=(j:Int)) (by omega)
  have hdr:=aG7 hla
  have hxL:indexAddrS 1 (.iv (.sl tO (fC O n))) (i:Int)=some (.iv (.cp [.sl (mM (aT (wlI 0 (O i)))) (aT (wlI 0 (O i)))])):=ixL (I:=O) (n:=n) hi tO
  let E:List (Tag×List Int):=[(mM (aT (wlI 0 (O i))),wlI 0 (O i)),(td,D)]
  have hcat:zI E=wlI 0 (O i)++D:=by show wlI 0 (O i)++(D++[])=_; rw[List.append_nil]
  have hsum:rI E=(wlI 0 (O i)).length+D.length:=by show (wlI 0 (O i)).length+(D.length+0)=_; omega
  have c13:=aVg E (by simp[E]) (by rw[hsum]; omega) (by rw[hsum]; omega) S
  rw[hcat]at c13
  have hEm:E.map tH=[[.sl (mM (aT (wlI 0 (O i)))) (aT (wlI 0 (O i)))],[.sl td (aT D)]]:=rfl
  rw[hEm]at c13
  have hCl:(wlI 0 (O i)++D).length≤1000:=by rw[List.length_append]; omega
  have hm1:MpP (S++[.tok (wlI 0 (O i)++D).length 1 3]) 0 l c:=⟨aX hm.1 _,hm.2⟩
  obtain⟨S1,l1,c1,y12,y26,y27,lp,hm2,hk2,hl2,hK2⟩:=aKu (x:=x) hCl (D.getD j 0) S.length x0 x1 x2 x3 (.iv (.sl tO (fC O n))) x5 x7 (.iv (.int .i64 i)) (.iv (.sl td (aT D))) x13 x14 x15 x16 x17 x18 (.iv (.sl td (aT D))) (.iv (.int .i64 D.length)) (.iv (.int .i64 j)) (.iv (.bool true)) (wlI 0 (O i)++D).length 0 _ l c x12 x26 x27 (by omega) hm1
  rw[show ((0:Nat):Int)=0 from rfl]at lp
  rw[List.drop_zero]at hk2
  obtain⟨S',l',c',z11,z12,z22,z23,z24,z25,z26,z27,ih,hm',hk',hl',hK'⟩:=aVy (x:=x) hi hO hD tO td x0 x1 x2 x3 x5 x7 x13 x14 x15 x16 x17 x18 k (j+1) S1 l1 c1 (.iv (.int .i64 (D.getD j 0))) y12 (.iv (.bool true)) (.tsl S.length (aT (wlI 0 (O i)++D))) (.iv (.int .i64 (wlI 0 (O i)++D).length)) (.iv (.int .i64 (wlI 0 (O i)++D).length)) y26 y27 (by omega) hm2
  rw[show ((j+1:Nat):Int)=(j:Int)+1 by omega]at ih
  refine⟨S',l',c',z11,z12,z22,z23,z24,z25,z26,z27,aF K _ _ t5L1.eq_1 ?_,hm',fun p=>?_,?_,?_⟩
  ·generalize D.getD j 0=d at *
   have hlen:=eG (wlI 0 (O i)++D)
   generalize hC:wlI 0 (O i)++D=C at *
   generalize fC O n=RL at *
   clear hk2 hk' hdr
   generalize wlI 0 (O i)=W at *
   simp (config := { maxSteps := 4000000 }) (disch:=omega) only[go_sem,h1,hxL,c13,hlen]
   rw[lp]
   simp (config := { maxSteps := 4000000 }) (disch:=omega) only[go_sem,aD]
   exact congrArg er ih
  ·rw[hk',hk2,hdr]
   constructor
   ·rintro ((h1|h1)|⟨d,hd,h1⟩)
    ·exact .inl h1
    ·exact .inr ⟨_,List.mem_cons_self,h1⟩
    ·exact .inr ⟨d,List.mem_cons_of_mem _ hd,h1⟩
   ·rintro (h1|⟨d,hd,h1⟩)
    ·exact .inl (.inl h1)
    ·rcases List.mem_cons.1 hd with rfl|hd
     ·exact .inl (.inr h1)
     ·exact .inr ⟨d,hd,h1⟩
  ·rw[List.length_append]at hl2; omega
  ·refine⟨?_,fun q B hq hB=>hK'.get q B hq (hK2.get q B hq (aX hB _))⟩
   have h1:=hK2.len
   have h2:=hK'.len
   rw[List.length_append]at h1
   omega
def aVz (x:VI)(p:Int×Int):Prop:=x.op=64∧x.a≠x.d∧x.a≠0∧x.d≠0∧p=prP x.a x.d
def mvS (S:aA)(x:VI)(m:List (Nat×(Int×Int)×Int))(cm:Nat):aA :=
 if x.op=64∧x.a≠x.d∧x.a≠0∧x.d≠0 then (S.set 1 (.mp (mpK en2 nW (eV m cm (prP x.a x.d) (vG m (prP x.a x.d)))) (wN m cm (prP x.a x.d)))).set 1 (.mp (mpK en2 nW (eV m cm (prP x.a x.d) (IntKind.i64.wrap (vG m (prP x.a x.d)+1)))) (wN m cm (prP x.a x.d))) else S
theorem bIc {S:aA}{x:VI}{m:List (Nat×(Int×Int)×Int)}{cm:Nat}(h:MpP S 1 m cm):∃m' cm',MpP (mvS S x m cm) 1 m' cm'∧(∀p,dT m' p=true↔dT m p=true∨aVz x p)∧m'.length≤m.length+1∧∀q B,q≠1→S[q]? = some B→(mvS S x m cm)[q]? = some B:=by
 unfold mvS
 by_cases hc:x.op=64∧x.a≠x.d∧x.a≠0∧x.d≠0
 ·rw[if_pos hc]
  refine⟨_,_,⟨bE (by simpa using cW h.1) _,h.2.put _ _⟩,fun p=>?_,xY ..,fun q B hq hB=>by rw[aL (Ne.symm hq),aL (Ne.symm hq)]; exact hB⟩
  rw[aJ2,Bool.or_eq_true,decide_eq_true_eq]
  exact⟨fun h1=>h1.elim (fun e=>.inr ⟨hc.1,hc.2.1,hc.2.2.1,hc.2.2.2,e.symm⟩) .inl,fun h1=>h1.elim .inr (fun e=>.inl e.2.2.2.2.symm)⟩
 ·rw[if_neg hc]
  exact⟨m,cm,h,fun p=>⟨.inl,fun h1=>h1.elim id (fun e=>absurd ⟨e.1,e.2.1,e.2.2.1,e.2.2.2.1⟩ hc)⟩,by omega,fun q B _ hB=>hB⟩
theorem aV0 {ti:Tag}{ins:List VI}(hn:ins.length≤1000){O:Nat→List Nat}(hO:∀i,i<ins.length→(wlI 0 (O i)).length≤70)(tO:Tag)(x0 x1 x2 x3 x5 x13:TV):∀(k i:Nat) (S:aA) (l:List (Nat×(Int×Int)×Int)) (c:Nat) (m:List (Nat×(Int×Int)×Int)) (cm:Nat) (x8 x9 x10 x11 x12 x17 x18 x19 x20 x21 x22 x23 x24 x25 x26 x27:TV),i+k=ins.length→MpP S 0 l c→MpP S 1 m cm →
  ∃(S':aA) (l':List (Nat×(Int×Int)×Int)) (c':Nat) (m':List (Nat×(Int×Int)×Int)) (cm':Nat) (y8 y9 y10 y11 y12 y17 y18 y19 y20 y21 y22 y23 y24 y25 y26 y27:TV),lp' (lim K) t5L2 [x0,x1,x2,x3,.iv (.sl tO (fC O ins.length)),x5,.map 0,.map 1,x8,x9,x10,x11,x12,x13,.iv (.sl ti (ins.map aK)),.iv (.int .i64 ins.length),.iv (.int .i64 (i:Int)),x17,x18,x19,x20,x21,x22,x23,x24,x25,x26,x27] S
   = .ret (.exit 0,[x0,x1,x2,x3,.iv (.sl tO (fC O ins.length)),x5,.map 0,.map 1,y8,y9,y10,y11,y12,x13,.iv (.sl ti (ins.map aK)),.iv (.int .i64 ins.length),.iv (.int .i64 ins.length),y17,y18,y19,y20,y21,y22,y23,y24,y25,y26,y27],S')∧MpP S' 0 l' c'∧MpP S' 1 m' cm'∧(∀p,dT l' p=true↔dT l p=true∨∃q,i≤q∧q<ins.length∧aKr (ins.getD q default) (wlI 0 (O q)) p)∧(∀p,dT m' p=true↔dT m p=true∨∃q,i≤q∧q<ins.length∧aVz (ins.getD q default) p)∧l'.length≤l.length+k*3000∧m'.length≤m.length+k
 | 0,i,S,l,c,m,cm,x8,x9,x10,x11,x12,x17,x18,x19,x20,x21,x22,x23,x24,x25,x26,x27,h,hm,hmm=>by
  obtain rfl:i=ins.length:=by omega
  refine⟨S,l,c,m,cm,x8,x9,x10,x11,x12,.iv (.bool false),x18,x19,x20,x21,x22,x23,x24,x25,x26,x27,aF K _ _ t5L2.eq_1 ?_,hm,hmm,fun p=>⟨.inl,fun h=>h.elim id (fun⟨q,h1,h2,_⟩=>by omega)⟩,fun p=>⟨.inl,fun h=>h.elim id (fun⟨q,h1,h2,_⟩=>by omega)⟩,by omega,by omega⟩
  simp (config := { maxSteps := 4000000 }) (disch:=omega) only[go_sem]
 | k+1,i,S,l,c,m,cm,x8,x9,x10,x11,x12,x17,x18,x19,x20,x21,x22,x23,x24,x25,x26,x27,h,hm,hmm=>by
  have hla:i<ins.length:=by omega
  have hix:=gJ (w:=8) (f:=aK) eQ (t:=ti) (l:=ins) (i:=(i:Int)) (by omega)
  rw[Int.toNat_natCast,bP]at hix
  obtain⟨t',_,c12⟩:=aU6 (ins.getD i default)
  rw[bP]at c12
  have hdl:=eG (bM (ins.getD i default))
  have hd30:=qU (ins.getD i default)
  obtain⟨m1,cm1,hm1,hkm1,hlm1,hkS⟩:=bIc (x:=ins.getD i default) hmm
  have hm0:MpP (mvS S (ins.getD i default) m cm) 0 l c:=⟨hkS 0 _ (by decide) hm.1,hm.2⟩
  have P:=fun (x11 x12 x22 x23 x24 x25 x26 x27:TV) (b18:Bool)=>aVy (x:=ins.getD i default) hla (hO i hla) hd30 tO t' x0 x1 x2 x3 x5 (.map 1) x13 (.iv (.sl ti (ins.map aK))) (.iv (.int .i64 ins.length)) (.iv (.int .i64 (i:Int))) (.iv (.bool true)) (.iv (.bool b18)) (bM (ins.getD i default)).length 0 (mvS S (ins.getD i default) m cm) l c x11 x12 x22 x23 x24 x25 x26 x27 (by omega) hm0
  obtain⟨S1,l1,c1,y11,y12,y22,y23,y24,y25,y26,y27,lp,hm2,hk1,hl1,hK1⟩:=P x11 x12 x22 x23 x24 x25 x26 x27 (decide ((ins.getD i default).op=64∧(ins.getD i default).a≠(ins.getD i default).d∧(ins.getD i default).a≠0∧(ins.getD i default).d≠0))
  rw[show ((0:Nat):Int)=0 from rfl]at lp
  rw[List.drop_zero]at hk1
  have hm3:MpP S1 1 m1 cm1:=⟨hK1.get 1 _ (by simp) hm1.1,hm1.2⟩
  obtain⟨S',l',c',m',cm',z8,z9,z10,z11,z12,z17,z18,z19,z20,z21,z22,z23,z24,z25,z26,z27,ih,hmA,hmB,hkA,hkB,hlA,hlB⟩:=aV0 (ti:=ti) hn hO tO x0 x1 x2 x3 x5 x13 k (i+1) S1 l1 c1 m1 cm1 (.iv (.int .i64 (i:Int))) (.lb ((aK (ins.getD i default)).map .iv)) (.iv (.sl t' (aT (bM (ins.getD i default))))) y11 y12 (.iv (.bool true)) (.iv (.bool (decide ((ins.getD i default).op=64∧(ins.getD i default).a≠(ins.getD i default).d∧(ins.getD i default).a≠0∧(ins.getD i default).d≠0)))) (.iv (.sl t' (aT (bM (ins.getD i default))))) (.iv (.int .i64 (bM (ins.getD i default)).length)) (.iv (.int .i64 (bM (ins.getD i default)).length)) y22 y23 y24 y25 y26 y27 (by omega) hm2 hm3
  rw[show ((i+1:Nat):Int)=(i:Int)+1 by omega,aY]at ih
  rw[aY]at lp
  refine⟨S',l',c',m',cm',z8,z9,z10,z11,z12,z17,z18,z19,z20,z21,z22,z23,z24,z25,z26,z27,aF K _ _ t5L2.eq_1 ?_,hmA,hmB,fun p=>?_,fun p=>?_,?_,by omega⟩
  ·clear hk1 hkA hkB hl1 hlA hlB hkm1 hm0 hm3 hmA hmB P
   have c12':TM.Pure K 12 [.iv (.agg [.int .i64 (ins.getD i default).op,.int .i64 (ins.getD i default).d,.int .i64 (ins.getD i default).a,.int .i64 (ins.getD i default).b,.int .i64 (ins.getD i default).im,.int .i64 (ins.getD i default).lb,.sl (ins.getD i default).tu (TM.one (.int .i64) (ins.getD i default).us),.sl (ins.getD i default).tm (TM.one (.int .i64) (ins.getD i default).mp)])] (.iv (.sl t' (aT (bM (ins.getD i default))))):=c12
   clear c12
   have c11:=aKt (ins.getD i default).a (ins.getD i default).d
   unfold mvS at lp
   generalize bM (ins.getD i default)=DD at *
   generalize hx:ins.getD i default=x at *
   generalize fC O ins.length=RL at *
   by_cases hc:x.op=64∧x.a≠x.d∧x.a≠0∧x.d≠0
   ·rw[if_pos hc,decide_eq_true hc]at lp
    rw[decide_eq_true hc]at ih
    obtain⟨p1,p2,p3,p4⟩:=hc
    obtain⟨hq1,hq2⟩:=hmm
    have hes:=es2 hq2 (wN m cm (prP x.a x.d))
    have hl0:=cW hq1
    have g1:∀b,(S.set 1 b)[1]? = some b:=fun b=>bE hl0 b
    have hck:=aC8 m cm (prP x.a x.d) (vG m (prP x.a x.d))
    generalize prP x.a x.d=pd at *
    obtain⟨pa,pb⟩:=pd
    dsimp only at *
    rw[p1]at lp ih c12' hix
    simp (config := { maxSteps := 4000000 }) (disch:=omega) only[go_sem,hix,p2,p3,p4,aB c11,hq1,g1,hes,hck,aB c12',hdl,ne_eq,not_false_eq_true,not_true_eq_false]
    rw[lp]
    simp (config := { maxSteps := 4000000 }) (disch:=omega) only[go_sem,aD]
    exact congrArg er ih
   ·rw[if_neg hc,decide_eq_false hc]at lp
    rw[decide_eq_false hc]at ih
    rcases (by omega:x.op≠64∨(x.op=64∧x.a=x.d)∨(x.op=64∧x.a≠x.d∧x.a=0)∨(x.op=64∧x.a≠x.d∧x.a≠0∧x.d=0)) with p1|⟨p1,p2⟩|⟨p1,p2,p3⟩|⟨p1,p2,p3,p4⟩
    ·simp (config := { maxSteps := 4000000 }) (disch:=omega) only[go_sem,hix,p1,aB c12',hdl]
     rw[lp]
     simp (config := { maxSteps := 4000000 }) (disch:=omega) only[go_sem,aD]
     exact congrArg er ih
    ·rw[p1,p2]at lp ih c12' hix
     simp (config := { maxSteps := 4000000 }) (disch:=omega) only[go_sem,hix,aB c12',hdl,ne_eq,not_false_eq_true,not_true_eq_false]
     rw[lp]
     simp (config := { maxSteps := 4000000 }) (disch:=omega) only[go_sem,aD]
     exact congrArg er ih
    ·rw[p3]at p2
     rw[p1,p3]at lp ih c12' hix
     simp (config := { maxSteps := 4000000 }) (disch:=omega) only[go_sem,hix,p2,aB c12',hdl,ne_eq,not_false_eq_true,not_true_eq_false]
     rw[lp]
     simp (config := { maxSteps := 4000000 }) (disch:=omega) only[go_sem,aD]
     exact congrArg er ih
    ·rw[p4]at p2
     rw[p1,p4]at lp ih c12' hix
     simp (config := { maxSteps := 4000000 }) (disch:=omega) only[go_sem,hix,p2,p3,aB c12',hdl,ne_eq,not_false_eq_true,not_true_eq_false]
     rw[lp]
     simp (config := { maxSteps := 4000000 }) (disch:=omega) only[go_sem,aD]
     exact congrArg er ih
  ·rw[hkA,hk1]
   constructor
   ·rintro ((h1|⟨d,hd,h1⟩)|⟨q,h1,h2,h3⟩)
    ·exact .inl h1
    ·exact .inr ⟨i,Nat.le_refl _,hla,d,hd,h1⟩
    ·exact .inr ⟨q,by omega,h2,h3⟩
   ·rintro (h1|⟨q,h1,h2,h3⟩)
    ·exact .inl (.inl h1)
    ·by_cases e:q=i
     ·subst e
      obtain⟨d,hd,h4⟩:=h3
      exact .inl (.inr ⟨d,hd,h4⟩)
     ·exact .inr ⟨q,by omega,h2,h3⟩
  ·rw[hkB,hkm1]
   constructor
   ·rintro ((h1|h1)|⟨q,h1,h2,h3⟩)
    ·exact .inl h1
    ·exact .inr ⟨i,Nat.le_refl _,hla,h1⟩
    ·exact .inr ⟨q,by omega,h2,h3⟩
   ·rintro (h1|⟨q,h1,h2,h3⟩)
    ·exact .inl (.inl h1)
    ·by_cases e:q=i
     ·subst e; exact .inl (.inr h3)
     ·exact .inr ⟨q,by omega,h2,h3⟩
  ·have:=Nat.mul_le_mul_right 100 hd30
   omega
def bC (ks:List (Int×Int)):List (List IV):=ks.map fun p=>[.int .i64 p.1,.int .i64 p.2]
def tL (ks:List (Int×Int)):Tag:=if ks=[] then .nil else .no
theorem aOt:∀ks:List (Int×Int),cK 2 ks.length ((fM ks).map (IV.int .i64))=bC ks
 | []=>rfl
 | x::r=>by
  rw[List.length_cons,fM,List.map_cons,List.map_cons,cK]
  simp only[List.take_succ_cons,List.take_zero,List.drop_succ_cons,List.drop_zero,aOt r]
  rfl
theorem aKv {S:aA}{j:Nat}{ks:List (Int×Int)}(h:S[j]? = some (.cells (ks.length-1) true (kS ks))):cG S (.msl j (ks.length-1) 0 ks.length ks.length 2)=some (bC ks):=by
 have hs:sub (kS ks) 0 (ks.length*2)=some (kS ks):=lS (tK ks)
 have hc:toIVs (kS ks)=some ((fM ks).map (IV.int .i64)):=by
  have:kS ks=((fM ks).map (IV.int .i64)).map TV.iv:=by unfold kS; rw[List.map_map]; rfl
  rw[this,iA]
 simp only[cG,h,ne_eq,not_true_eq_false,if_false,hs,hc,Option.map_some,aOt]
structure lH (Q:Int×Int→Prop) (E:List (Int×Int)):Prop where
 inc:E.Pairwise ltq
 mem:∀p,p∈E↔Q p
theorem aG8 {l:List (Nat×(Int×Int)×Int)}{c:Nat}(ho:eN l c){Q:Int×Int→Prop}(h:∀p,dT l p=true↔Q p):lH Q (fN (l.map (·.2.1))) :=
 ⟨aVs ho.keys,fun p=>by rw[(iU _).mem_iff,←aBx]; exact h p⟩
theorem bId {fn rg sl nd pr:Int}{rs:Bool}{ti:Tag}{ins:List VI}(hn:ins.length≤60){O:Nat→List Nat}(hO:∀i,i<ins.length→(wlI 0 (O i)).length≤70)
  (c10:TM.Pure K 10 [.iv (.agg (bH fn rg sl nd pr rs ti ins))] (.tup [.iv (.sl (mM (fC O ins.length)) (fC O ins.length)),.iv (.int .i64 0)])) :
  oZ K 5 [.iv (.agg (bH fn rg sl nd pr rs ti ins))] fun v=>∃E M,v=.tup [.iv (.agg [.int .i64 rg,.sl (tL E) (bC E),.sl (tL M) (bC M)]),.iv (.int .i64 0)]∧lH (nB ins fun i=>wlI 0 (O i)) E∧lH (sH ins) M:=by
 obtain⟨S',l',c',m',cm',y8,y9,y10,y11,y12,y17,y18,y19,y20,y21,y22,y23,y24,y25,y26,y27,lp,hm1,hm2,hk1,hk2,hl1,hl2⟩:=aV0 (ti:=ti) (ins:=ins) (by omega) hO (mM (fC O ins.length)) (.iv (.agg (bH fn rg sl nd pr rs ti ins))) (.lb [.iv (.int .i64 fn),.iv (.int .i64 rg),.iv (.int .i64 sl),.iv (.int .i64 nd),.iv (.int .i64 pr),.iv (.bool rs),.iv (.sl ti (ins.map aK))]) (.lb [.iv (.int .i64 0),.iv (.sl .nil []),.iv (.sl .nil [])]) (.iv (.int .i64 0)) (.iv (.int .i64 0)) (.iv (.bool false)) ins.length 0 [.mp [] 0,.mp [] 0] [] 0 [] 0 u_ u_ u_ u_ u_ u_ u_ u_ u_ u_ u_ u_ u_ u_ u_ u_ (by omega) ⟨rfl,eN.nil 0⟩ ⟨rfl,eN.nil 0⟩
 rw[show ((0:Nat):Int)=0 from rfl]at lp
 have hE:lH (nB ins fun i=>wlI 0 (O i)) (fN (l'.map (·.2.1))):=aG8 hm1.2 fun p=>by
  rw[hk1]
  exact⟨fun h=>h.elim (fun h=>by cases h) (fun⟨q,_,h2,h3⟩=>⟨q,h2,h3⟩),fun⟨q,h2,h3⟩=>.inr ⟨q,Nat.zero_le _,h2,h3⟩⟩
 have hM:lH (sH ins) (fN (m'.map (·.2.1))):=aG8 hm2.2 fun p=>by
  rw[hk2]
  exact⟨fun h=>h.elim (fun h=>by cases h) (fun⟨q,_,h2,h3⟩=>⟨q,h2,h3⟩),fun⟨q,h2,h3⟩=>.inr ⟨q,Nat.zero_le _,h2,h3⟩⟩
 have hlen:(ins.map aK).length=ins.length:=List.length_map _
 simp only[List.length_nil]at hl1 hl2
 have s1:=aVx hm1.2 (by omega) hm1.1
 unfold oZ
 unfold bH at *
 refine jY K _ (fn:=t5) rfl rfl ?_
 generalize hks1:l'.map (·.2.1)=k1 at *
 generalize hks2:m'.map (·.2.1)=k2 at *
 simp (config := { maxSteps := 4000000 }) (disch:=omega) only[t5,go_sem,aB c10,hlen]
 rw[lp]
 simp (config := { maxSteps := 4000000 }) (disch:=omega) only[go_sem]
 refine iX s1 ?_
 rintro v S1 ⟨a1,j1,rfl,r1⟩
 have hm2':=a1 1 _ (cW hm2.1) hm2.1
 have s2:=aVx hm2.2 (by omega) hm2'
 rw[hks2]at s2
 generalize hq1:fN k1=q1 at *
 generalize hq2:fN k2=q2 at *
 have fin:∀(S2:aA) (j2:Nat),zM S2 j1 q1→zM S2 j2 q2→∀r:TV×aA,(r.1=.tup [(if q1=[]∧q2=[] then .iv (.agg [.int .i64 rg,.sl .nil [],.sl .nil []]) else .agg [.iv (.int .i64 rg),vP j1 q1,vP j2 q2]),.iv (.int .i64 0)]∧r.2=S2)→∃v,TM.resolve r.2 r.1=some v∧∃E M,v=.tup [.iv (.agg [.int .i64 rg,.sl (tL E) (bC E),.sl (tL M) (bC M)]),.iv (.int .i64 0)]∧lH (nB ins fun i=>wlI 0 (O i)) E∧lH (sH ins) M:=by
  rintro S2 j2 b1 b2 ⟨r,_⟩ ⟨h1,rfl⟩
  dsimp only at h1
  subst h1
  refine⟨_,?_,q1,q2,rfl,hE,hM⟩
  by_cases z1:q1=[]
  ·by_cases z2:q2=[]
   ·rw[if_pos ⟨z1,z2⟩,z1,z2]
    rfl
   ·have e2:=aKv (b2 z2)
    rw[if_neg (fun h=>z2 h.2),z1,fG,cY _ z2]
    unfold tL
    rw[if_neg z2]
    simp (config := { maxSteps := 4000000 }) (disch:=omega) only[go_sem,e2]
    rfl
  ·have e1:=aKv (b1 z1)
   by_cases z2:q2=[]
   ·rw[if_neg (fun h=>z1 h.1),z2,fG,cY _ z1]
    unfold tL
    rw[if_neg z1]
    simp (config := { maxSteps := 4000000 }) (disch:=omega) only[go_sem,e1]
    rfl
   ·have e2:=aKv (b2 z2)
    rw[if_neg (fun h=>z1 h.1),cY _ z1,cY _ z2]
    unfold tL
    rw[if_neg z1,if_neg z2]
    simp (config := { maxSteps := 4000000 }) (disch:=omega) only[go_sem,e1,e2]
 by_cases z1:q1=[]
 ·rw[z1,fG]
  simp (config := { maxSteps := 4000000 }) (disch:=omega) only[go_sem]
  refine iX s2 ?_
  rintro v S2 ⟨a2,j2,rfl,r2⟩
  dsimp only at a2 r2
  rw[hq2]at r2 ⊢
  by_cases z2:q2=[]
  ·rw[z2,fG]
   simp (config := { maxSteps := 4000000 }) (disch:=omega) only[go_sem]
   refine eC (fin S2 j2 (fun h=>absurd z1 h) r2 _ ⟨?_,rfl⟩)
   rw[if_pos ⟨z1,z2⟩]
  ·rw[cY _ z2]
   simp (config := { maxSteps := 4000000 }) (disch:=omega) only[go_sem]
   refine eC (fin S2 j2 (fun h=>absurd z1 h) r2 _ ⟨?_,rfl⟩)
   rw[if_neg (fun h=>z2 h.2),z1,fG,cY _ z2]
 ·have b1:=r1 z1
  rw[cY _ z1]
  simp (config := { maxSteps := 4000000 }) (disch:=omega) only[go_sem]
  refine iX s2 ?_
  rintro v S2 ⟨a2,j2,rfl,r2⟩
  dsimp only at a2 r2
  rw[hq2]at r2 ⊢
  have b1':zM S2 j1 q1:=fun h=>a2 j1 _ (cW b1) b1
  by_cases z2:q2=[]
  ·rw[z2,fG]
   simp (config := { maxSteps := 4000000 }) (disch:=omega) only[go_sem]
   refine eC (fin S2 j2 b1' r2 _ ⟨?_,rfl⟩)
   rw[if_neg (fun h=>z1 h.1),z2,fG,cY _ z1]
  ·rw[cY _ z2]
   simp (config := { maxSteps := 4000000 }) (disch:=omega) only[go_sem]
   refine eC (fin S2 j2 b1' r2 _ ⟨?_,rfl⟩)
   rw[if_neg (fun h=>z1 h.1),cY _ z1,cY _ z2]
theorem bLh {fn rg sl nd pr:Int}{rs:Bool}{ti:Tag}{ins:List VI}(c10:TM.Pure K 10 [.iv (.agg (bH fn rg sl nd pr rs ti ins))] (.tup [.iv (.sl .nil []),.iv (.int .i64 2)])):TM.Pure K 5 [.iv (.agg (bH fn rg sl nd pr rs ti ins))] (.tup [.iv (.agg [.int .i64 0,.sl .nil [],.sl .nil []]),.iv (.int .i64 2)]):=by
 unfold bH at *
 refine aH t5 rfl rfl ?_
 simp (config := { maxSteps := 4000000 }) (disch:=omega) only[t5,go_sem,aB c10]
theorem aV1 {fn rg sl nd pr:Int}{rs:Bool}{ti:Tag}{ins:List VI}(hn:ins.length≤1000000){a b:Int}(hab:a<b)(x0 x2 x3 x4 x5 x6 x12 x13 x14 x15 x17:TV)(S:aA):∀(k i:Nat) (mv:Bool) (x11 x16:TV),i+k=ins.length →
    ∃(r:Bool) (y11 y16:TV),lp' (lim K) t6L0 [x0,.lb [.iv (.int .i64 fn),.iv (.int .i64 rg),.iv (.int .i64 sl),.iv (.int .i64 nd),.iv (.int .i64 pr),.iv (.bool rs),.iv (.sl ti (ins.map aK))],x2,x3,x4,x5,x6,.iv (.int .i64 a),.iv (.int .i64 b),.iv (.bool mv),.iv (.int .i64 (i:Int)),x11,x12,x13,x14,x15,x16,x17] S
      = .ret (.exit 4,[x0,.lb [.iv (.int .i64 fn),.iv (.int .i64 rg),.iv (.int .i64 sl),.iv (.int .i64 nd),.iv (.int .i64 pr),.iv (.bool rs),.iv (.sl ti (ins.map aK))],x2,x3,x4,x5,x6,.iv (.int .i64 a),.iv (.int .i64 b),.iv (.bool r),.iv (.int .i64 ins.length),y11,x12,x13,x14,x15,y16,x17],S)∧(r=true↔mv=true∨∃q,i≤q∧q<ins.length∧mvB (ins.getD q default) a b=true)
  | 0,i,mv,x11,x16,h=>by
    obtain rfl:i=ins.length:=by omega
    have hlen:(ins.map aK).length=ins.length:=List.length_map _
    refine⟨mv,x11,.iv (.bool false),aF K _ _ t6L0.eq_1 ?_,⟨.inl,fun h=>h.elim id fun⟨q,h1,h2,_⟩=>by omega⟩⟩
    simp (config := { maxSteps := 4000000 }) (disch:=omega) only[go_sem,hlen]
  | k+1,i,mv,x11,x16,h=>by
    have hla:i<ins.length:=by omega
    have hlen:(ins.map aK).length=ins.length:=List.length_map _
    have hix:=gJ (w:=8) (f:=aK) eQ (t:=ti) (l:=ins) (i:=(i:Int)) (by omega)
    rw[Int.toNat_natCast]at hix
    have e1:((i+1:Nat):Int)=(i:Int)+1:=by omega
    have step:∀(r1:Bool),(r1=true↔(mv||mvB (ins.getD i default) a b)=true∨∃q,i+1≤q∧q<ins.length∧mvB (ins.getD q default) a b=true)→(r1=true↔mv=true∨∃q,i≤q∧q<ins.length∧mvB (ins.getD q default) a b=true):=fun r1 hr=>by
      rw[hr,Bool.or_eq_true]
      constructor
      · rintro ((h1|h1)|⟨q,h1,h2,h3⟩)
        · exact .inl h1
        · exact .inr ⟨i,Nat.le_refl _,hla,h1⟩
        · exact .inr ⟨q,by omega,h2,h3⟩
      · rintro (h1|⟨q,h1,h2,h3⟩)
        · exact .inl (.inl h1)
        · by_cases e:q=i
          · subst e; exact .inl (.inr h3)
          · exact .inr ⟨q,by omega,h2,h3⟩
    obtain⟨r,y11,y16,ih,hr⟩:=aV1 (fn:=fn) (rg:=rg) (sl:=sl) (nd:=nd) (pr:=pr) (rs:=rs) (ti:=ti) hn hab x0 x2 x3 x4 x5 x6 x12 x13 x14 x15 x17 S k (i+1) (mv||mvB (ins.getD i default) a b) (.lb ((aK (ins.getD i default)).map .iv)) (.iv (.bool true)) (by omega)
    rw[e1,aY]at ih
    refine⟨r,y11,y16,aF K _ _ t6L0.eq_1 ?_,step r hr⟩
    clear step hr
    have hmv:mvB (ins.getD i default) a b=(decide ((ins.getD i default).op=64)&&(decide ((ins.getD i default).a=a)&&decide ((ins.getD i default).d=b)||decide ((ins.getD i default).a=b)&&decide ((ins.getD i default).d=a))):=rfl
    generalize mvB (ins.getD i default) a b=m at *
    generalize hx:ins.getD i default=x at *
    rw[bP]at hix
    cases mv with
    | true =>
      rw[Bool.true_or]at ih
      simp (config := { maxSteps := 4000000 }) (disch:=omega) only[go_sem,hlen,hix,aD]
      exact congrArg er ih
    | false =>
      rw[Bool.false_or]at ih
      cases m with
      | true =>
        have P:(x.op=64∧x.a=a∧x.d=b)∨(x.op=64∧x.a≠a∧x.a=b∧x.d=a):=by
          simp only[Bool.true_eq,Bool.and_eq_true,Bool.or_eq_true,decide_eq_true_eq]at hmv
          omega
        rcases P with⟨p1,p2,p3⟩|⟨p1,p2,p3,p4⟩
        · rw[p1,p2,p3]at ih hix
          simp (config := { maxSteps := 4000000 }) (disch:=omega) only[go_sem,hlen,hix,aD]
          exact congrArg er ih
        · rw[p1,p3,p4]at ih hix
          have p5:¬b=a:=by omega
          simp (config := { maxSteps := 4000000 }) (disch:=omega) only[go_sem,hlen,hix,p5,aD]
          exact congrArg er ih
      | false =>
        have hmv':¬(x.op=64∧(x.a=a∧x.d=b∨x.a=b∧x.d=a)):=by
          intro hc
          have:(decide (x.op=64)&&(decide (x.a=a)&&decide (x.d=b)||decide (x.a=b)&&decide (x.d=a)))=true:=by
            simp only[Bool.and_eq_true,Bool.or_eq_true,decide_eq_true_eq]; exact hc
          rw[this]at hmv; cases hmv
        rcases (by omega:(x.op≠64)∨(x.op=64∧x.a=a∧x.d≠b∧x.a≠b)∨(x.op=64∧x.a≠a∧x.a=b∧x.d≠a)∨(x.op=64∧x.a≠a∧x.a≠b)) with p1|⟨p1,p2,p3,p4⟩|⟨p1,p2,p3,p4⟩|⟨p1,p2,p3⟩ <;>
          (simp (config := { maxSteps := 4000000 }) (disch:=omega) only[go_sem,hlen,hix,p1,aD]
           (try rw[p1]at ih)
           exact congrArg er ih)
structure GR (S:aA) (je jm:Nat) (E M:List (Int×Int)):Prop where
 e:At 2 41 (bC E) je S
 m:At 2 41 (bC M) jm S
 ne:E≠[]→M≠[]→je≠jm
theorem nL {E:List (Int×Int)}:bC E=[]↔E=[]:=by unfold bC; exact List.map_eq_nil_iff
theorem jQ (E:List (Int×Int)):(bC E).length=E.length:=List.length_map _
theorem aKw (E:List (Int×Int))(a b:Int):bC E++[[.int .i64 a,.int .i64 b]]=bC (E++[(a,b)]):=by unfold bC; rw[List.map_append]; rfl
theorem aV2 (E:List (Int×Int)):jM 2 (bC E):=by
 intro y hy
 unfold bC at hy
 obtain⟨p,_,rfl⟩:=List.mem_map.1 hy
 exact⟨rfl,rfl⟩
theorem GR.nil (S:aA):GR S 0 0 [] []:=⟨fun h=>absurd rfl h,fun h=>absurd rfl h,fun h=>absurd rfl h⟩
theorem GR.pushE {S:aA}{je jm:Nat}{E M:List (Int×Int)}(h:GR S je jm E M)(a b:Int)(hl:E.length≤100000) :
  ∃(j':Nat) (S':aA),bI false 2 16 41 S (acc je (bC E)) (.iv (.sl .full [[.int .i64 a,.int .i64 b]]))=some (acc j' (bC (E++[(a,b)])),S')∧GR S' j' jm (E++[(a,b)]) M:=by
 have ap:=aVb (b:=16) (c:=[.int .i64 a,.int .i64 b]) (t:=.full) h.e ⟨rfl,rfl⟩ (aV2 E) (cX (by rw[jQ]; omega))
 rw[aKw]at ap
 refine⟨_,_,ap,?_⟩
 unfold gI gS1
 by_cases e:E=[]
 ·rw[if_pos (nL.2 e),if_pos (nL.2 e)]
  refine⟨fun _=>by rw[jQ,e]; simp,fun hm=>aX (h.m hm) _,fun _ hm=>?_⟩
  have:=cW (h.m (fun q=>hm (nL.1 q)))
  omega
 ·have e':¬bC E=[]:=fun q=>e (nL.1 q)
  rw[if_neg e',if_neg e']
  refine⟨fun _=>by rw[bE (cW (h.e e')),jQ,jQ,List.length_append]; rfl,fun hm=>?_,fun _ hm=>h.ne e hm⟩
  rw[aL (h.ne e (fun q=>hm (nL.2 q)))]
  exact h.m hm
theorem GR.swap {S:aA}{je jm:Nat}{E M:List (Int×Int)}(h:GR S je jm E M):GR S jm je M E:=⟨h.m,h.e,fun h1 h2=>(h.ne h2 h1).symm⟩
theorem GR.pushM {S:aA}{je jm:Nat}{E M:List (Int×Int)}(h:GR S je jm E M)(a b:Int)(hl:M.length≤100000) :
  ∃(j':Nat) (S':aA),bI false 2 16 41 S (acc jm (bC M)) (.iv (.sl .full [[.int .i64 a,.int .i64 b]]))=some (acc j' (bC (M++[(a,b)])),S')∧GR S' je j' E (M++[(a,b)]):=by
 obtain⟨j',S',h1,h2⟩:=h.swap.pushE a b hl
 exact⟨j',S',h1,h2.swap⟩
theorem aV3 {fn rg sl nd pr:Int}{rs:Bool}{ti:Tag}{ins:List VI}(hn:ins.length≤1000000){to:Tag}{tg:Nat→Tag}{Q:Nat→List Int}(hQ:∀i,i<ins.length→(Q i).length≤1000000){a b:Int}(hab:a<b)(x0:TV)(S:aA):∀(k i:Nat) (x5 x7 x8 x9 x10 x11 x12:TV),i+k=ins.length →
  ∃(j:aU) (y5 y6 y7 y8 y9 y10 y11 y12:TV),lp' (lim K) t16L0 [x0,.iv (.sl to (fW tg Q ins.length)),.iv (.int .i64 a),.iv (.int .i64 b),.lb [.iv (.int .i64 fn),.iv (.int .i64 rg),.iv (.int .i64 sl),.iv (.int .i64 nd),.iv (.int .i64 pr),.iv (.bool rs),.iv (.sl ti (ins.map aK))],x5,.iv (.int .i64 (i:Int)),x7,x8,x9,x10,x11,x12] S
   = .ret (j,[x0,.iv (.sl to (fW tg Q ins.length)),.iv (.int .i64 a),.iv (.int .i64 b),.lb [.iv (.int .i64 fn),.iv (.int .i64 rg),.iv (.int .i64 sl),.iv (.int .i64 nd),.iv (.int .i64 pr),.iv (.bool rs),.iv (.sl ti (ins.map aK))],y5,y6,y7,y8,y9,y10,y11,y12],S) ∧
   ((j=.exit 0∧∀q,i≤q→q<ins.length→tJ (ins.getD q default) (Q q) a b=false)∨(j=.ret∧y5=.iv (.bool true)∧∃q,i≤q∧q<ins.length∧tJ (ins.getD q default) (Q q) a b=true))
 | 0,i,x5,x7,x8,x9,x10,x11,x12,h=>by
  obtain rfl:i=ins.length:=by omega
  have hlen:(ins.map aK).length=ins.length:=List.length_map _
  refine⟨.exit 0,x5,.iv (.int .i64 ins.length),x7,x8,x9,.iv (.bool false),x11,x12,aF K _ _ t16L0.eq_1 ?_,.inl ⟨rfl,fun q h1 h2=>by omega⟩⟩
  generalize fW tg Q ins.length=RT at *
  simp (config := { maxSteps := 4000000 }) (disch:=omega) only[go_sem,hlen]
 | k+1,i,x5,x7,x8,x9,x10,x11,x12,h=>by
  have hla:i<ins.length:=by omega
  have hlen:(ins.map aK).length=ins.length:=List.length_map _
  have hix:=gJ (w:=8) (f:=aK) eQ (t:=ti) (l:=ins) (i:=(i:Int)) (by omega)
  rw[Int.toNat_natCast,bP]at hix
  have e1:((i+1:Nat):Int)=(i:Int)+1:=by omega
  obtain⟨t',_,c37⟩:=aVl (ins.getD i default)
  rw[bP]at c37
  have hdl:(bM (ins.getD i default)).length≤1000000:=by have:=qU (ins.getD i default); omega
  have IH:=fun (x8 x9 x11 x12:TV)=>aV3 (fn:=fn) (rg:=rg) (sl:=sl) (nd:=nd) (pr:=pr) (rs:=rs) (ti:=ti) hn (to:=to) (tg:=tg) hQ hab x0 S k (i+1) x5 (.lb ((aK (ins.getD i default)).map .iv)) x8 x9 (.iv (.bool true)) x11 x12 (by omega)
  simp only[e1,aY]at IH
  have sm:=fun (fs:List TM.Fr) (x0 x1 x4 x5 x6 x8 x9 x10 x11 x12:TV)=>bKj (ins.getD i default) hab fs x0 x1 x4 x5 x6 x8 x9 x10 x11 x12 S
  have sh:=fun (fs:List TM.Fr) (x0 x4 x5 x7 x9 x10 x11 x12:TV)=>bKk (to:=to) (tg:=tg) (Q:=Q) hla (hQ i hla) hdl t' a b fs x0 x4 x5 x7 x9 x10 x11 x12 S
  have step:tJ (ins.getD i default) (Q i) a b=false→∀(j:aU) (y5:TV),((j=.exit 0∧∀q,i+1≤q→q<ins.length→tJ (ins.getD q default) (Q q) a b=false)∨(j=.ret∧y5=.iv (.bool true)∧∃q,i+1≤q∧q<ins.length∧tJ (ins.getD q default) (Q q) a b=true))→((j=.exit 0∧∀q,i≤q→q<ins.length→tJ (ins.getD q default) (Q q) a b=false)∨(j=.ret∧y5=.iv (.bool true)∧∃q,i≤q∧q<ins.length∧tJ (ins.getD q default) (Q q) a b=true)):=by
   intro hm j y5 hj
   rcases hj with⟨h1,h2⟩|⟨h1,h2,q,h3,h4,h5⟩
   ·refine .inl ⟨h1,fun q h3 h4=>?_⟩
    by_cases e:q=i
    ·subst e; exact hm
    ·exact h2 q (by omega) h4
   ·exact .inr ⟨h1,h2,q,by omega,h4,h5⟩
  have hyes:tJ (ins.getD i default) (Q i) a b=true→∃q,i≤q∧q<ins.length∧tJ (ins.getD q default) (Q q) a b=true:=fun hm=>⟨i,Nat.le_refl _,hla,hm⟩
  have hmet:tJ (ins.getD i default) (Q i) a b=(!mvB (ins.getD i default) a b&&(decide (a∈bM (ins.getD i default))&&(decide (b∈Q i)||decide (b∈bM (ins.getD i default)))||decide (b∈bM (ins.getD i default))&&decide (a∈Q i))):=rfl
  generalize tJ (ins.getD i default) (Q i) a b=mt at *
  generalize mvB (ins.getD i default) a b=mv at *
  generalize (decide (a∈bM (ins.getD i default))&&(decide (b∈Q i)||decide (b∈bM (ins.getD i default)))||decide (b∈bM (ins.getD i default))&&decide (a∈Q i))=hs at *
  generalize bM (ins.getD i default)=DD at *
  generalize ins.getD i default=x at *
  generalize fW tg Q ins.length=RT at *
  have dl:=eG DD
  cases mv with
  | true =>
   rw[show mt=false from hmet]at step
   obtain⟨j,y5,y6,y7,y8,y9,y10,y11,y12,ih,hj⟩:=IH (.iv (.sl t' (aT DD))) (.iv (.bool true)) (.iv (.bool true)) x12
   refine⟨j,y5,y6,y7,y8,y9,y10,y11,y12,aF K _ _ t16L0.eq_1 ?_,step rfl j y5 hj⟩
   simp (config := { maxSteps := 4000000 }) (disch:=omega) only[sm,sh,go_sem,hlen,hix,aB c37,aD]
   exact congrArg er ih
  | false =>
   cases hs with
   | false =>
    rw[show mt=false from hmet]at step
    obtain⟨j,y5,y6,y7,y8,y9,y10,y11,y12,ih,hj⟩:=IH (.iv (.sl t' (aT DD))) (.iv (.bool false)) (.iv (.bool false)) (.iv (.bool false))
    refine⟨j,y5,y6,y7,y8,y9,y10,y11,y12,aF K _ _ t16L0.eq_1 ?_,step rfl j y5 hj⟩
    simp (config := { maxSteps := 4000000 }) (disch:=omega) only[sm,sh,go_sem,hlen,hix,aB c37,aD]
    exact congrArg er ih
   | true =>
    refine⟨.ret,.iv (.bool true),.iv (.int .i64 (i:Int)),.lb [.iv (.int .i64 x.op),.iv (.int .i64 x.d),.iv (.int .i64 x.a),.iv (.int .i64 x.b),.iv (.int .i64 x.im),.iv (.int .i64 x.lb),.iv (.sl x.tu (TM.one (.int .i64) x.us)),.iv (.sl x.tm (TM.one (.int .i64) x.mp))],.iv (.sl t' (TM.one (.int .i64) DD)),.iv (.bool false),.iv (.bool true),.iv (.bool false),.iv (.bool true),aF K _ _ t16L0.eq_1 ?_,.inr ⟨rfl,rfl,hyes hmet⟩⟩
    simp (config := { maxSteps := 4000000 }) (disch:=omega) only[sm,sh,go_sem,hlen,hix,aB c37,aD]
theorem bIe {fn rg sl nd pr:Int}{rs:Bool}{ti:Tag}{ins:List VI}(hn:ins.length≤1000000){to:Tag}{tg:Nat→Tag}{Q:Nat→List Int}(hQ:∀i,i<ins.length→(Q i).length≤1000000){a b:Int}(hab:a<b) :
  TM.Pure K 16 [.iv (.agg (bH fn rg sl nd pr rs ti ins)),.iv (.sl to (fW tg Q ins.length)),.iv (.int .i64 a),.iv (.int .i64 b)] (.iv (.bool (mQ ins Q a b))):=by
 obtain⟨j,y5,y6,y7,y8,y9,y10,y11,y12,hlp,hj⟩:=aV3 (fn:=fn) (rg:=rg) (sl:=sl) (nd:=nd) (pr:=pr) (rs:=rs) (ti:=ti) hn (to:=to) (tg:=tg) hQ hab (.iv (.agg (bH fn rg sl nd pr rs ti ins))) [] ins.length 0 (.iv (.bool false)) u_ u_ u_ u_ u_ u_ (by omega)
 rw[show ((0:Nat):Int)=0 from rfl]at hlp
 have hm:(j=.exit 0∧mQ ins Q a b=false)∨(j=.ret∧y5=.iv (.bool true)∧mQ ins Q a b=true):=by
  unfold mQ
  rw[List.any_eq_false,List.any_eq_true]
  rcases hj with⟨h1,h2⟩|⟨h1,h2,q,_,h4,h5⟩
  ·exact .inl ⟨h1,fun q hq=>by rw[h2 q (Nat.zero_le _) (List.mem_range.1 hq)]; simp⟩
  ·exact .inr ⟨h1,h2,q,List.mem_range.2 h4,h5⟩
 clear hj
 generalize mQ ins Q a b=mm at *
 generalize fW tg Q ins.length=RT at *
 unfold bH at *
 rcases hm with⟨rfl,rfl⟩|⟨rfl,rfl,rfl⟩
 ·refine aH t16 rfl rfl ?_
  simp (config := { maxSteps := 4000000 }) (disch:=omega) only[t16,go_sem]
  rw[hlp]
  simp (config := { maxSteps := 4000000 }) (disch:=omega) only[go_sem]
 ·refine aH t16 rfl rfl ?_
  simp (config := { maxSteps := 4000000 }) (disch:=omega) only[t16,go_sem]
  rw[hlp]
  simp (config := { maxSteps := 4000000 }) (disch:=omega) only[go_sem]
theorem aV4 {fn rg sl nd pr:Int}(hrg:rg≤1000){rs:Bool}{ti:Tag}{ins:List VI}(hn:ins.length≤1000000){tg:Nat→Tag}{Q:Nat→List Int}(hQ:∀i,i<ins.length→(Q i).length≤1000000){a:Int}(ha:1≤a)(x0 x2 x3 x5 x12 x13:TV):∀(k:Nat) (b:Int) (S:aA) (je jm:Nat) (E M:List (Int×Int)) (c:Nat) (x9 x10 x11 x14 x15 x16 x17:TV),b+k=rg→a<b→GR S je jm E M→mL rg a b (mQ ins Q) E→mL rg a b (lY ins) M→E.length≤c→M.length≤c→c+k≤90000 →
  ∃(S':aA) (je' jm':Nat) (E' M':List (Int×Int)) (y9 y10 y11 y14 y15 y16 y17:TV),lp' (lim K) t6L1 [x0,.lb [.iv (.int .i64 fn),.iv (.int .i64 rg),.iv (.int .i64 sl),.iv (.int .i64 nd),.iv (.int .i64 pr),.iv (.bool rs),.iv (.sl ti (ins.map aK))],x2,x3,.iv (.sl .no (fW tg Q ins.length)),x5,.lb [.iv (.int .i64 rg),acc je (bC E),acc jm (bC M)],.iv (.int .i64 a),.iv (.int .i64 b),x9,x10,x11,x12,x13,x14,x15,x16,x17] S
   = .ret (.exit 2,[x0,.lb [.iv (.int .i64 fn),.iv (.int .i64 rg),.iv (.int .i64 sl),.iv (.int .i64 nd),.iv (.int .i64 pr),.iv (.bool rs),.iv (.sl ti (ins.map aK))],x2,x3,.iv (.sl .no (fW tg Q ins.length)),x5,.lb [.iv (.int .i64 rg),acc je' (bC E'),acc jm' (bC M')],.iv (.int .i64 a),.iv (.int .i64 rg),y9,y10,y11,x12,x13,y14,y15,y16,y17],S')∧GR S' je' jm' E' M'∧mL rg a rg (mQ ins Q) E'∧mL rg a rg (lY ins) M'∧E'.length≤c+k∧M'.length≤c+k
 | 0,b,S,je,jm,E,M,c,x9,x10,x11,x14,x15,x16,x17,h,hab,hG,hE,hM,lE,lM,hc=>by
  obtain rfl:b=rg:=by omega
  refine⟨S,je,jm,E,M,x9,x10,x11,.iv (.bool false),x15,x16,x17,aF K _ _ t6L1.eq_1 ?_,hG,hE,hM,by omega,by omega⟩
  generalize fW tg Q ins.length=RT at *
  simp (config := { maxSteps := 4000000 }) (disch:=omega) only[go_sem]
 | k+1,b,S,je,jm,E,M,c,x9,x10,x11,x14,x15,x16,x17,h,hab,hG,hE,hM,lE,lM,hc=>by
  have hbr:b<rg:=by omega
  have c16:=bIe (fn:=fn) (rg:=rg) (sl:=sl) (nd:=nd) (pr:=pr) (rs:=rs) (ti:=ti) hn (to:=.no) (tg:=tg) hQ hab
  have hlen:(ins.map aK).length=ins.length:=List.length_map _
  have uE:=hE.step ha hab hbr
  have uM:=hM.step ha hab hbr
  have hmv:∀r:Bool,(r=true↔false=true∨∃q,0≤q∧q<ins.length∧mvB (ins.getD q default) a b=true)→r=lY ins a b:=fun r hr=>by
   rw[Bool.eq_iff_iff,hr]
   unfold lY
   rw[List.any_eq_true]
   constructor
   ·rintro (h|⟨q,_,h2,h3⟩)
    ·cases h
    ·exact⟨q,List.mem_range.2 h2,h3⟩
   ·rintro⟨q,h2,h3⟩
    exact .inr ⟨q,Nat.zero_le _,List.mem_range.1 h2,h3⟩
  have L0:=fun (x6 x12 x13 x14 x15 x17:TV) (S:aA)=>aV1 (fn:=fn) (rg:=rg) (sl:=sl) (nd:=nd) (pr:=pr) (rs:=rs) (ti:=ti) hn hab x0 x2 x3 (.iv (.sl .no (fW tg Q ins.length))) x5 x6 x12 x13 x14 x15 x17 S ins.length 0 false x11 x16 (by omega)
  have IH:=fun (S1:aA) (je1 jm1:Nat) (E1 M1:List (Int×Int))=>aV4 (fn:=fn) (rg:=rg) (sl:=sl) (nd:=nd) (pr:=pr) hrg (rs:=rs) (ti:=ti) hn (tg:=tg) hQ ha x0 x2 x3 x5 x12 x13 k (b+1) S1 je1 jm1 E1 M1 (c+1)
  unfold bH at *
  generalize mQ ins Q a b=mt at *
  generalize hmm:lY ins a b=mm at *
  have PE:∃(S1:aA) (je1:Nat),GR S1 je1 jm (if mt=true then E++[(a,b)] else E) M∧(mt=true→bI false 2 16 41 S (acc je (bC E)) (.iv (.sl .full [[.int .i64 a,.int .i64 b]]))=some (acc je1 (bC (E++[(a,b)])),S1))∧(mt=false→S1=S∧je1=je)∧(if mt=true then E++[(a,b)] else E).length≤c+1:=by
   cases mt with
   | true =>
    obtain⟨je1,S1,p1,p2⟩:=hG.pushE a b (by omega)
    exact⟨S1,je1,p2,fun _=>p1,fun h=>(by cases h),by rw[if_pos rfl,List.length_append]; simp; omega⟩
   | false=>exact⟨S,je,hG,fun h=>(by cases h),fun _=>⟨rfl,rfl⟩,by rw[if_neg (by simp)]; omega⟩
  obtain⟨S1,je1,hG1,pe1,pe2,le1⟩:=PE
  have PM:∃(S2:aA) (jm1:Nat),GR S2 je1 jm1 (if mt=true then E++[(a,b)] else E) (if mm=true then M++[(a,b)] else M)∧(mm=true→bI false 2 16 41 S1 (acc jm (bC M)) (.iv (.sl .full [[.int .i64 a,.int .i64 b]]))=some (acc jm1 (bC (M++[(a,b)])),S2))∧(mm=false→S2=S1∧jm1=jm)∧(if mm=true then M++[(a,b)] else M).length≤c+1:=by
   cases mm with
   | true =>
    obtain⟨jm1,S2,p1,p2⟩:=hG1.pushM a b (by omega)
    exact⟨S2,jm1,p2,fun _=>p1,fun h=>(by cases h),by rw[if_pos rfl,List.length_append]; simp; omega⟩
   | false=>exact⟨S1,jm,hG1,fun h=>(by cases h),fun _=>⟨rfl,rfl⟩,by rw[if_neg (by simp)]; omega⟩
  obtain⟨S2,jm1,hG2,pm1,pm2,lm1⟩:=PM
  obtain⟨r,y11,y16,l0,hr⟩:=L0 (.lb [.iv (.int .i64 rg),acc je1 (bC (if mt=true then E++[(a,b)] else E)),acc jm (bC M)]) x12 x13 (.iv (.bool true)) (.iv (.bool mt)) x17 S1
  obtain rfl:=hmv r hr
  rw[show ((0:Nat):Int)=0 from rfl]at l0
  obtain⟨S',je',jm',E',M',y9,y10,z11,y14,y15,z16,y17,ih,hG',uE',uM',lE',lM'⟩:=IH S2 je1 jm1 _ _ (.iv (.bool r)) (.iv (.int .i64 ins.length)) y11 (.iv (.bool true)) (.iv (.bool mt)) y16 (.iv (.bool r)) (by omega) (by omega) hG2 uE uM le1 lm1 (by omega)
  refine⟨S',je',jm',E',M',y9,y10,z11,y14,y15,z16,y17,aF K _ _ t6L1.eq_1 ?_,hG',uE',uM',by omega,by omega⟩
  clear L0 IH hmv hG hE hM hG1 hG2 hG' uE' uM' uE uM hr hQ hmm
  generalize fW tg Q ins.length=RT at *
  cases mt with
  | true =>
   have ap1:=pe1 rfl
   rw[if_pos rfl]at l0 ih
   generalize bC (E++[(a,b)])=RE1 at *
   generalize bC E=RE at *
   cases r with
   | true =>
    have ap2:=pm1 rfl
    rw[if_pos rfl]at ih
    generalize bC (M++[(a,b)])=RM1 at *
    generalize bC M=RM at *
    simp (config := { maxSteps := 4000000 }) (disch:=omega) only[go_sem,aB c16,ap1]
    rw[l0]
    simp (config := { maxSteps := 4000000 }) (disch:=omega) only[go_sem,ap2,aD]
    exact congrArg er ih
   | false =>
    obtain⟨rfl,rfl⟩:=pm2 rfl
    rw[if_neg (by simp)]at ih
    generalize bC M=RM at *
    simp (config := { maxSteps := 4000000 }) (disch:=omega) only[go_sem,aB c16,ap1]
    rw[l0]
    simp (config := { maxSteps := 4000000 }) (disch:=omega) only[go_sem,aD]
    exact congrArg er ih
  | false =>
   obtain⟨rfl,rfl⟩:=pe2 rfl
   rw[if_neg (by simp)]at l0 ih
   generalize bC E=RE at *
   cases r with
   | true =>
    have ap2:=pm1 rfl
    rw[if_pos rfl]at ih
    generalize bC (M++[(a,b)])=RM1 at *
    generalize bC M=RM at *
    simp (config := { maxSteps := 4000000 }) (disch:=omega) only[go_sem,aB c16]
    rw[l0]
    simp (config := { maxSteps := 4000000 }) (disch:=omega) only[go_sem,ap2,aD]
    exact congrArg er ih
   | false =>
    obtain⟨rfl,rfl⟩:=pm2 rfl
    rw[if_neg (by simp)]at ih
    generalize bC M=RM at *
    simp (config := { maxSteps := 4000000 }) (disch:=omega) only[go_sem,aB c16]
    rw[l0]
    simp (config := { maxSteps := 4000000 }) (disch:=omega) only[go_sem,aD]
    exact congrArg er ih
theorem aV5 {fn rg sl nd pr:Int}(hrg:rg≤80){rs:Bool}{ti:Tag}{ins:List VI}(hn:ins.length≤1000000){tg:Nat→Tag}{Q:Nat→List Int}(hQ:∀i,i<ins.length→(Q i).length≤1000000)(x0 x2 x3 x5 x12:TV):∀(k:Nat) (a:Int) (S:aA) (je jm:Nat) (E M:List (Int×Int)) (c:Nat) (x8 x9 x10 x11 x13 x14 x15 x16 x17:TV),a+k=rg→1≤a→GR S je jm E M→mL rg a (a+1) (mQ ins Q) E→mL rg a (a+1) (lY ins) M→E.length≤c→M.length≤c→c+100*k≤80000 →
  ∃(S':aA) (je' jm':Nat) (E' M':List (Int×Int)) (y8 y9 y10 y11 y13 y14 y15 y16 y17:TV),lp' (lim K) t6L2 [x0,.lb [.iv (.int .i64 fn),.iv (.int .i64 rg),.iv (.int .i64 sl),.iv (.int .i64 nd),.iv (.int .i64 pr),.iv (.bool rs),.iv (.sl ti (ins.map aK))],x2,x3,.iv (.sl .no (fW tg Q ins.length)),x5,.lb [.iv (.int .i64 rg),acc je (bC E),acc jm (bC M)],.iv (.int .i64 a),x8,x9,x10,x11,x12,x13,x14,x15,x16,x17] S
   = .ret (.exit 0,[x0,.lb [.iv (.int .i64 fn),.iv (.int .i64 rg),.iv (.int .i64 sl),.iv (.int .i64 nd),.iv (.int .i64 pr),.iv (.bool rs),.iv (.sl ti (ins.map aK))],x2,x3,.iv (.sl .no (fW tg Q ins.length)),x5,.lb [.iv (.int .i64 rg),acc je' (bC E'),acc jm' (bC M')],.iv (.int .i64 rg),y8,y9,y10,y11,x12,y13,y14,y15,y16,y17],S')∧GR S' je' jm' E' M'∧mL rg rg (rg+1) (mQ ins Q) E'∧mL rg rg (rg+1) (lY ins) M'
 | 0,a,S,je,jm,E,M,c,x8,x9,x10,x11,x13,x14,x15,x16,x17,h,ha,hG,hE,hM,lE,lM,hc=>by
  obtain rfl:a=rg:=by omega
  refine⟨S,je,jm,E,M,x8,x9,x10,x11,.iv (.bool false),x14,x15,x16,x17,aF K _ _ t6L2.eq_1 ?_,hG,hE,hM⟩
  generalize fW tg Q ins.length=RT at *
  simp (config := { maxSteps := 4000000 }) (disch:=omega) only[go_sem]
 | k+1,a,S,je,jm,E,M,c,x8,x9,x10,x11,x13,x14,x15,x16,x17,h,ha,hG,hE,hM,lE,lM,hc=>by
  have har:a<rg:=by omega
  obtain⟨S1,je1,jm1,E1,M1,y9,y10,y11,y14,y15,y16,y17,l1,hG1,hE1,hM1,lE1,lM1⟩:=aV4 (fn:=fn) (rg:=rg) (sl:=sl) (nd:=nd) (pr:=pr) (by omega) (rs:=rs) (ti:=ti) hn (tg:=tg) hQ ha x0 x2 x3 x5 x12 (.iv (.bool true)) (rg-a-1).toNat (a+1) S je jm E M c x9 x10 x11 x14 x15 x16 x17 (by omega) (by omega) hG hE hM lE lM (by omega)
  obtain⟨S',je',jm',E',M',z8,z9,z10,z11,z13,z14,z15,z16,z17,ih,hG',hE',hM'⟩:=aV5 (fn:=fn) (rg:=rg) (sl:=sl) (nd:=nd) (pr:=pr) hrg (rs:=rs) (ti:=ti) hn (tg:=tg) hQ x0 x2 x3 x5 x12 k (a+1) S1 je1 jm1 E1 M1 (c+100) (.iv (.int .i64 rg)) y9 y10 y11 (.iv (.bool true)) y14 y15 y16 y17 (by omega) (by omega) hG1 (hE1.row (by omega) (by omega)) (hM1.row (by omega) (by omega)) (by omega) (by omega) (by omega)
  refine⟨S',je',jm',E',M',z8,z9,z10,z11,z13,z14,z15,z16,z17,aF K _ _ t6L2.eq_1 ?_,hG',hE',hM'⟩
  clear hG hE hM hG1 hE1 hM1 hG' hE' hM' hQ
  generalize fW tg Q ins.length=RT at *
  generalize bC E=RE at *
  generalize bC M=RM at *
  generalize bC E1=RE1 at *
  generalize bC M1=RM1 at *
  simp (config := { maxSteps := 4000000 }) (disch:=omega) only[go_sem,aD]
  rw[l1]
  simp (config := { maxSteps := 4000000 }) (disch:=omega) only[go_sem,aD]
  exact congrArg er ih
theorem aV6 (E:List (Int×Int)):mM (bC E)=tL E:=by cases E<;>rfl
theorem bKl {fn rg sl nd pr:Int}(hrg:1≤rg∧rg≤80){rs:Bool}{ti:Tag}{ins:List VI}(hn:ins.length≤1000000){tg:Nat→Tag}{Q:Nat→List Int}(hQ:∀i,i<ins.length→(Q i).length≤1000000)
  (c15:TM.Pure K 15 [.iv (.agg (bH fn rg sl nd pr rs ti ins))] (.tup [.iv (.sl .no (fW tg Q ins.length)),.iv (.int .i64 0)])) :
  ∃E M,TM.Pure K 6 [.iv (.agg (bH fn rg sl nd pr rs ti ins))] (.tup [.iv (.agg [.int .i64 rg,.sl (tL E) (bC E),.sl (tL M) (bC M)]),.iv (.int .i64 0)])∧mL rg rg (rg+1) (mQ ins Q) E∧mL rg rg (rg+1) (lY ins) M:=by
 obtain⟨S',je',jm',E',M',z8,z9,z10,z11,z13,z14,z15,z16,z17,lp,hG',hE',hM'⟩:=aV5 (fn:=fn) (rg:=rg) (sl:=sl) (nd:=nd) (pr:=pr) hrg.2 (rs:=rs) (ti:=ti) hn (tg:=tg) hQ (.iv (.agg (bH fn rg sl nd pr rs ti ins))) (.lb [.iv (.int .i64 0),.iv (.sl .nil []),.iv (.sl .nil [])]) (.iv (.int .i64 0)) (.iv (.int .i64 0)) (.iv (.bool false)) (rg-1).toNat 1 [] 0 0 [] [] 0 u_ u_ u_ u_ u_ u_ u_ u_ u_ (by omega) (by omega) (GR.nil []) (mL.zero rg _) (mL.zero rg _) (Nat.le_refl _) (Nat.le_refl _) (by omega)
 rw[show acc 0 (bC [])=.iv (.sl .nil []) from rfl]at lp
 refine⟨E',M',?_,hE',hM'⟩
 clear hG' hE' hM' hQ
 rw[←aV6,←aV6]
 generalize fW tg Q ins.length=RT at *
 unfold bH at *
 have fin:TM.resolve S' (.tup [(if bC E'=[]∧bC M'=[] then .iv (.agg [.int .i64 rg,.sl .nil [],.sl .nil []]) else .agg [.iv (.int .i64 rg),acc je' (bC E'),acc jm' (bC M')]),.iv (.int .i64 0)])=some (.tup [.iv (.agg [.int .i64 rg,.sl (mM (bC E')) (bC E'),.sl (mM (bC M')) (bC M')]),.iv (.int .i64 0)]):=by
  generalize bC E'=q1
  generalize bC M'=q2
  cases q1<;>cases q2<;>simp<;>rfl
 refine TM.cV (S:=S') (aP K _ (fn:=t6) rfl rfl ?_) fin
 generalize hq1:bC E'=q1 at *
 generalize hq2:bC M'=q2 at *
 simp (config := { maxSteps := 4000000 }) (disch:=omega) only[t6,go_sem,aB c15]
 rw[lp]
 cases q1 with
 | nil =>
  cases q2 with
  | nil =>
   rw[kG,kG]
   simp (config := { maxSteps := 4000000 }) (disch:=omega) only[go_sem]
  | cons z w =>
   rw[kG,nI _ (by simp)]
   simp (config := { maxSteps := 4000000 }) (disch:=omega) only[go_sem]
 | cons x y =>
  cases q2 with
  | nil =>
   rw[kG,nI _ (by simp)]
   simp (config := { maxSteps := 4000000 }) (disch:=omega) only[go_sem]
  | cons z w =>
   rw[nI _ (by simp),nI _ (by simp)]
   simp (config := { maxSteps := 4000000 }) (disch:=omega) only[go_sem]
theorem bLi {fn rg sl nd pr:Int}{rs:Bool}{ti:Tag}{ins:List VI}(c15:TM.Pure K 15 [.iv (.agg (bH fn rg sl nd pr rs ti ins))] (.tup [.iv (.sl .nil []),.iv (.int .i64 2)])):TM.Pure K 6 [.iv (.agg (bH fn rg sl nd pr rs ti ins))] (.tup [.iv (.agg [.int .i64 0,.sl .nil [],.sl .nil []]),.iv (.int .i64 2)]):=by
 unfold bH at *
 refine aH t6 rfl rfl ?_
 simp (config := { maxSteps := 4000000 }) (disch:=omega) only[t6,go_sem,aB c15]
theorem bIf:((ex K 60).call 4 [] []).allB isTrue=true:=by kernel_rfl
theorem aE1:oZ K 4 [] fun v=>v=.iv (.bool true):=by
 refine Out.all_mono (fun r hr=>⟨_,?_,rfl⟩) (bA1 60 4 bIf)
 rw[hr,mI]
def enP (p:Int×Int):List IV:=[.int .i64 p.1,.int .i64 p.2]
theorem aOu (p:Int×Int):(enP p).length=2:=rfl
theorem bLj (a b:Int):eqAgg true [(0,.int),(1,.int)] (.iv (.agg [.int .i64 a,.int .i64 b])) (.iv (.agg [.int .i64 a,.int .i64 b]))=some (.bool false):=by simp[eqAgg,dV,fP]
theorem bGk (t t':Tag){E:List (Int×Int)}(hl:E.length≤1000000)(x2 x4:TV):∀(k i:Nat) (x5 x6:TV),i+k=E.length →
  ∃y5 y6,lp' (lim K) t7L0 [.iv (.sl t (bC E)),.iv (.sl t' (bC E)),x2,.iv (.int .i64 (i:Int)),x4,x5,x6] []=.ret (.exit 0,[.iv (.sl t (bC E)),.iv (.sl t' (bC E)),x2,.iv (.int .i64 E.length),x4,y5,y6],[])
 | 0,i,x5,x6,h=>by
  obtain rfl:i=E.length:=by omega
  have hlen:=jQ E
  refine⟨.iv (.bool false),x6,aF K _ _ t7L0.eq_1 ?_⟩
  simp (config := { maxSteps := 4000000 }) (disch:=omega) only[go_sem,hlen]
 | k+1,i,x5,x6,h=>by
  have hla:i<E.length:=by omega
  have hlen:=jQ E
  have h1:=gJ (w:=2) (f:=enP) aOu (t:=t) (l:=E) (i:=(i:Int)) (by omega)
  have h2:=gJ (w:=2) (f:=enP) aOu (t:=t') (l:=E) (i:=(i:Int)) (by omega)
  rw[Int.toNat_natCast]at h1 h2
  obtain⟨y5,y6,ih⟩:=bGk t t' hl x2 x4 k (i+1) (.iv (.bool true)) (.iv (.bool false)) (by omega)
  rw[show ((i+1:Nat):Int)=(i:Int)+1 by omega]at ih
  refine⟨y5,y6,aF K _ _ t7L0.eq_1 ?_⟩
  rw[show E.map enP=bC E from rfl]at h1 h2
  generalize E.getD i default=p at *
  obtain⟨a,b⟩:=p
  unfold enP at h1 h2
  dsimp only at h1 h2
  generalize bC E=RE at *
  simp (config := { maxSteps := 4000000 }) (disch:=omega) only[go_sem,hlen,h1,h2,bLj,aD]
  exact congrArg er ih
theorem bGl (t t':Tag){E:List (Int×Int)}(hl:E.length≤1000000):TM.Pure K 7 [.iv (.sl t (bC E)),.iv (.sl t' (bC E))] (.iv (.bool true)):=by
 obtain⟨y5,y6,l1⟩:=bGk t t' hl (.iv (.bool false)) (.iv (.bool false)) E.length 0 u_ u_ (by omega)
 rw[show ((0:Nat):Int)=0 from rfl]at l1
 have hlen:=jQ E
 refine aH t7 rfl rfl ?_
 generalize bC E=RE at *
 simp (config := { maxSteps := 4000000 }) (disch:=omega) only[t7,go_sem,hlen]
 rw[l1]
 simp (config := { maxSteps := 4000000 }) (disch:=omega) only[go_sem]
theorem bGm {fn rg sl nd pr:Int}{rs:Bool}{ti:Tag}{ins:List VI}(hn:ins.length≤1000)(x0 x2 x4 x5 x6 x7 x8:TV):∀(k i:Nat) (x9 x10:TV),i+k=ins.length →
  (lp' (lim K) t3L0 [x0,.lb [.iv (.int .i64 fn),.iv (.int .i64 rg),.iv (.int .i64 sl),.iv (.int .i64 nd),.iv (.int .i64 pr),.iv (.bool rs),.iv (.sl ti (ins.map aK))],x2,.iv (.int .i64 (i:Int)),x4,x5,x6,x7,x8,x9,x10] []).All fun q=>(q.1=.exit 0∧q.2.2=[]∧(∀m,i≤m→m<ins.length→(ins.getD m default).us.length≤10)∧∃y9 y10,q.2.1=[x0,.lb [.iv (.int .i64 fn),.iv (.int .i64 rg),.iv (.int .i64 sl),.iv (.int .i64 nd),.iv (.int .i64 pr),.iv (.bool rs),.iv (.sl ti (ins.map aK))],x2,.iv (.int .i64 ins.length),x4,x5,x6,x7,x8,y9,y10])∨(q.1=.ret∧∃y3 y9 y10,q.2.1=[x0,.lb [.iv (.int .i64 fn),.iv (.int .i64 rg),.iv (.int .i64 sl),.iv (.int .i64 nd),.iv (.int .i64 pr),.iv (.bool rs),.iv (.sl ti (ins.map aK))],.iv (.bool true),y3,x4,x5,x6,x7,x8,y9,y10])
 | 0,i,x9,x10,h=>by
  obtain rfl:i=ins.length:=by omega
  have hlen:(ins.map aK).length=ins.length:=List.length_map _
  refine aGj t3L0.eq_1 ?_
  simp (config := { maxSteps := 4000000 }) (disch:=omega) only[go_sem,hlen]
  exact eC (.inl ⟨rfl,rfl,fun q h1 h2=>by omega,_,_,rfl⟩)
 | k+1,i,x9,x10,h=>by
  have hla:i<ins.length:=by omega
  have hlen:(ins.map aK).length=ins.length:=List.length_map _
  have hix:=gJ (w:=8) (f:=aK) eQ (t:=ti) (l:=ins) (i:=(i:Int)) (by omega)
  rw[Int.toNat_natCast,bP]at hix
  have ih:=bGm (fn:=fn) (rg:=rg) (sl:=sl) (nd:=nd) (pr:=pr) (rs:=rs) (ti:=ti) hn x0 x2 x4 x5 x6 x7 x8 k (i+1) (.iv (.bool true)) (.iv (.bool false)) (by omega)
  rw[show ((i+1:Nat):Int)=(i:Int)+1 by omega]at ih
  have hl1:=TM.iT (.int .i64) (ins.getD i default).us
  by_cases hu:(ins.getD i default).us.length≤10
  ·refine Out.all_mono (Q:=fun q:aU×Env×aA=>(q.1=.exit 0∧q.2.2=[]∧(∀m,i+1≤m→m<ins.length→(ins.getD m default).us.length≤10)∧∃y9 y10,q.2.1=[x0,.lb [.iv (.int .i64 fn),.iv (.int .i64 rg),.iv (.int .i64 sl),.iv (.int .i64 nd),.iv (.int .i64 pr),.iv (.bool rs),.iv (.sl ti (ins.map aK))],x2,.iv (.int .i64 ins.length),x4,x5,x6,x7,x8,y9,y10])∨(q.1=.ret∧∃y3 y9 y10,q.2.1=[x0,.lb [.iv (.int .i64 fn),.iv (.int .i64 rg),.iv (.int .i64 sl),.iv (.int .i64 nd),.iv (.int .i64 pr),.iv (.bool rs),.iv (.sl ti (ins.map aK))],.iv (.bool true),y3,x4,x5,x6,x7,x8,y9,y10])) ?_ ?_
   ·rintro q (⟨h1,h2,h3,h4⟩|h1)
    ·refine .inl ⟨h1,h2,fun m h5 h6=>?_,h4⟩
     by_cases e:m=i
     ·subst e; exact hu
     ·exact h3 m (by omega) h6
    ·exact .inr h1
   ·refine aGj t3L0.eq_1 ?_
    generalize ins.getD i default=x at *
    simp (config := { maxSteps := 4000000 }) (disch:=omega) only[go_sem,hlen,hix,ao0,hl1,aD]
    exact aNj ih
  ·refine aGj t3L0.eq_1 ?_
   generalize ins.getD i default=x at *
   simp (config := { maxSteps := 4000000 }) (disch:=omega) only[go_sem,hlen,hix,ao0,hl1,aD]
   refine aT9 aE1 ?_
   rintro v rfl
   simp (config := { maxSteps := 4000000 }) (disch:=omega) only[go_sem]
   exact eC (.inr ⟨rfl,_,_,_,rfl⟩)
theorem aOv {rg:Int}{ins:List VI}(hb:ins.any (pK rg ins)=false){i:Nat}(hi:i<ins.length){r:Int}(hr:r∈dC (ins.getD i default)):0≤r∧r<rg:=by
 have h1:=List.any_eq_false.1 hb (ins.getD i default) (by simp only[List.getD,List.getElem?_eq_getElem hi,Option.getD_some]; exact List.getElem_mem _)
 generalize ins.getD i default=x at *
 unfold pK at h1
 have h2:(dC x).any (aZ rg)=false:=by
  cases h:(dC x).any (aZ rg) with
  | false=>rfl
  | true=>rw[h]at h1; simp at h1
 have h3:=List.any_eq_false.1 h2 r hr
 unfold aZ at h3
 simp only[decide_eq_true_eq]at h3
 omega
theorem bLk {rg:Int}{ins:List VI}(hb:ins.any (pK rg ins)=false){i:Nat}(hi:i<ins.length):0≤(ins.getD i default).a∧(ins.getD i default).a<rg:=aOv hb hi (by unfold dC; simp)
theorem bKm {rg:Int}{ins:List VI}(hb:ins.any (pK rg ins)=false){i:Nat}(hi:i<ins.length)(h:(ins.getD i default).op≠67∨0≤(ins.getD i default).d):0≤(ins.getD i default).d∧(ins.getD i default).d<rg:=aOv hb hi (by unfold dC; rw[if_pos h]; simp)
theorem bDj {rg:Int}(h32:32≤rg){ins:List VI}(hb:ins.any (pK rg ins)=false){i:Nat}(hi:i<ins.length):∀d∈bM (ins.getD i default),1≤d∧d<rg:=by
 intro d hd
 have hp:=bKm hb hi
 generalize ins.getD i default=x at *
 unfold bM at hd
 split at hd
 ·rename_i h
  obtain⟨h1,h2⟩:=((fV _).mem d).1 hd
  rw[List.mem_singleton]at h1
  subst h1
  have:=hp (.inl (by omega))
  omega
 ·split at hd
  ·obtain⟨h1,h2⟩:=((fV _).mem d).1 hd
   rw[List.mem_append]at h1
   rcases h1 with h1|h1
   ·unfold bY at h1
    obtain⟨n,hn,rfl⟩:=List.mem_map.1 h1
    rw[List.mem_range]at hn
    omega
   ·simp only[List.mem_cons,List.not_mem_nil,or_false]at h1
    rcases h1 with rfl|rfl
    ·omega
    ·have:=hp (.inr (by omega))
     omega
  ·cases hd
theorem bIg {rg:Nat}{ins:List VI}{R:Nat→List Int}(hR:∀j,j<ins.length→mP ins rg R j){i:Nat}(hbe:∀k∈iI ins i,0≤k∧k<ins.length):∀d∈aG4 ins R i,1≤d∧d<(rg:Int):=by
 intro d hd
 unfold aG4 at hd
 obtain⟨h1,h2⟩:=((fV _).mem d).1 hd
 unfold aB2 at h1
 obtain⟨l,h3,h4⟩:=List.mem_flatMap.1 h1
 have hk:=hbe l h3
 have:=((hR l.toNat (by omega)).mem d).1 h4
 omega
theorem aV7:∀(l:List (Int×Int)) (lo hi:Int),l.Pairwise ltq→(∀p∈l,lo≤p.1*100+p.2∧p.1*100+p.2<hi∧0≤p.2∧p.2<100)→lo≤hi→(l.length:Int)≤hi-lo
 | [],lo,hi,_,_,h=>by simp; omega
 | p::r,lo,hi,h1,h2,h3=>by
  have a:=h2 p (List.mem_cons_self ..)
  have b:=aV7 r (p.1*100+p.2+1) hi (List.pairwise_cons.1 h1).2 (fun q hq=>by
   have c:=(List.pairwise_cons.1 h1).1 q hq
   have d:=h2 q (List.mem_cons_of_mem _ hq)
   unfold ltq at c
   omega) (by omega)
  rw[List.length_cons]
  omega
theorem aG9 {rg:Int}(hr:rg≤60){E:List (Int×Int)}(h1:E.Pairwise ltq)(h2:∀p∈E,InP rg p):E.length≤1000000:=by
 have:=aV7 E 0 10000 h1 (fun p hp=>by
  have:=h2 p hp
  unfold InP at this
  omega) (by omega)
 omega
theorem same {rg:Nat}{ins:List VI}{Q P:Nat→List Int}(h32:32≤rg)(hbad:ins.any (pK rg ins)=false)(hQP:∀i,i<ins.length→P i=Q i)(hO:∀i,i<ins.length→∀d∈Q i,1≤d∧d<(rg:Int)){E M E' M':List (Int×Int)}(hE:lH (nB ins P) E)(hM:lH (sH ins) M)(hE':mL rg rg (rg+1) (mQ ins Q) E')(hM':mL rg rg (rg+1) (lY ins) M'):E=E'∧M=M':=by
 have hPQ:∀p,nB ins P p↔nB ins Q p:=fun p=>by
  unfold nB
  constructor
  ·rintro⟨i,hi,h⟩; rw[hQP i hi]at h; exact⟨i,hi,h⟩
  ·rintro⟨i,hi,h⟩; rw[←hQP i hi]at h; exact⟨i,hi,h⟩
 constructor
 ·refine aC5 hE.inc hE'.inc fun p=>?_
  rw[hE.mem,hPQ,hE'.mem]
  constructor
  ·intro h
   have hp:=bDd (rg:=rg) (fun i hi=>bDj (by omega) hbad hi) hO h
   refine⟨hp,.inl ?_,(aC6 ins Q hp.2.1).2 h⟩
   have:=hp.2.2
   have:=hp.2.1
   omega
  ·rintro⟨hp,_,h⟩
   exact (aC6 ins Q hp.2.1).1 h
 ·refine aC5 hM.inc hM'.inc fun p=>?_
  rw[hM.mem,hM'.mem]
  constructor
  ·intro h
   have hp:=bDe (rg:=rg) (fun i hi=>bLk hbad hi) (fun i hi h=>bKm hbad hi (.inl (by omega))) h
   refine⟨hp,.inl ?_,(zL ins hp.1 hp.2.1).2 h⟩
   have:=hp.2.2
   have:=hp.2.1
   omega
  ·rintro⟨hp,_,h⟩
   exact (zL ins hp.1 hp.2.1).1 h
theorem law3 (fn rg sl nd pr:Int)(rs:Bool)(ti:Tag)(ins:List VI)(hn:ins.length≤9223372036854775807)(ht:∀x∈ins,bN x.tu x.us):((lim K).call 3 [.iv (.agg (bH fn rg sl nd pr rs ti ins))] []).All fun r=>r.1=.iv (.bool true):=by
 have hlen:(ins.map aK).length=ins.length:=List.length_map _
 refine jY K _ (fn:=t3) rfl rfl ?_
 by_cases g1:60<ins.length
 ·unfold bH at *
  simp (config := { maxSteps := 4000000 }) (disch:=omega) only[t3,go_sem,hlen]
  refine rH aE1 ?_
  rintro v rfl
  simp (config := { maxSteps := 4000000 }) (disch:=omega) only[go_sem]
  exact eC rfl
 by_cases g2:60<rg
 ·unfold bH at *
  simp (config := { maxSteps := 4000000 }) (disch:=omega) only[t3,go_sem,hlen]
  refine rH aE1 ?_
  rintro v rfl
  simp (config := { maxSteps := 4000000 }) (disch:=omega) only[go_sem]
  exact eC rfl
 have L3:=bGm (fn:=fn) (rg:=rg) (sl:=sl) (nd:=nd) (pr:=pr) (rs:=rs) (ti:=ti) (ins:=ins) (by omega) (.iv (.agg (bH fn rg sl nd pr rs ti ins))) (.iv (.bool false)) u_ u_ u_ u_ (.iv (.bool false)) ins.length 0 u_ u_ (by omega)
 rw[show ((0:Nat):Int)=0 from rfl]at L3
 have V:(∀m,m<ins.length→(ins.getD m default).us.length≤10)→∃E M rg' e tE tM tE' tM',oZ K 5 [.iv (.agg (bH fn rg sl nd pr rs ti ins))] (fun v=>v=.tup [.iv (.agg [.int .i64 rg',.sl tE (bC E),.sl tM (bC M)]),.iv (.int .i64 e)])∧TM.Pure K 6 [.iv (.agg (bH fn rg sl nd pr rs ti ins))] (.tup [.iv (.agg [.int .i64 rg',.sl tE' (bC E),.sl tM' (bC M)]),.iv (.int .i64 e)])∧E.length≤1000000∧M.length≤1000000:=by
  intro h10
  have h10':∀x∈ins,x.us.length≤10:=fun x hx=>by
   obtain⟨m,hm,rfl⟩:=List.getElem_of_mem hx
   have:=h10 m hm
   simpa[List.getD,List.getElem?_eq_getElem hm] using this
  have hus:∀x∈ins,x.us.length≤999990∧bN x.tu x.us:=fun x hx=>⟨by have:=h10' x hx; omega,ht x hx⟩
  have hus':∀x∈ins,x.us.length≤1000000:=fun x hx=>by have:=h10' x hx; omega
  have c54:=bHl fn rg sl nd pr rs ti ins (by omega) hus
  cases hc:aB1 rg sl nd pr ins with
  | false =>
   rw[hc,if_neg (by decide)]at c54
   have c10:=bJ6 fn rg sl nd pr rs ti ins c54
   have c5:=bLh c10
   have c15:=bKh fn rg sl nd pr rs ti ins (by omega) hus' hc
   have c6:=bLi c15
   exact⟨[],[],0,2,.nil,.nil,.nil,.nil,.of c5 rfl,c6,by simp,by simp⟩
  | true =>
   rw[hc,if_pos rfl]at c54
   have hc':=hc
   unfold aB1 at hc
   simp only[Bool.and_eq_true,decide_eq_true_eq,Bool.not_eq_true']at hc
   obtain⟨⟨h32,_,_,_,h0⟩,hbad,hlast⟩:=hc
   obtain⟨g,rfl⟩:=Int.eq_ofNat_of_zero_le (show 0≤rg by omega)
   obtain⟨lb,I,O,U,D,c10,hG,hok,h1,h2,h3,h4⟩:=bJ1 (f:=⟨fn,g,sl,nd,pr,rs,ti,ins⟩) (by show 32≤g; omega) (by show g≤_; omega) (by show ins.length≤_; omega) h0 hus c54
   have hg:∀i,i<ins.length→(26≤(ins.getD i default).op∧(ins.getD i default).op≤31)∨(ins.getD i default).op=66→∃q:Nat,dB ins (ins.getD i default).lb=some (q:Int)∧q<ins.length:=fun i hi h=>aKo hbad hi (by
    unfold eU
    rcases h with h|h
    ·rw[decide_eq_true h]; rfl
    ·rw[decide_eq_true h,Bool.or_true,Bool.true_or])
   have hbd:=fun i (hi:i<ins.length)=>bDb (lb:=lb) (ins:=ins) h1 (i:=i) (hg i hi)
   have hbe:=fun i (hi:i<ins.length)=>bH4 (ins:=ins) (i:=i) (hg i hi)
   obtain⟨R,tg,Q,c15,hR,hQ⟩:=bH3 fn sl nd pr g rs ti ins (by omega) ⟨by omega,by omega⟩ hus' hbe hc'
   have sO:=fun j (hj:j<ins.length)=>(aVr hbd hbe h2 h3 hG h4 hR hj).trans (hQ j hj).symm
   have lO:∀j,j<ins.length→(wlI 0 (O j)).length≤70:=fun j hj=>by
    have a:=aN2 0 (O j)
    have b:(O j).length=(g+63) / 64:=(hok j hj).2.len
    rw[b]at a
    omega
   have oI:∀i,i<ins.length→∀d∈Q i,1≤d∧d<(g:Int):=fun i hi=>by
    rw[hQ i hi]
    exact bIg hR (hbe i hi)
   have lQ:∀i,i<ins.length→(Q i).length≤1000000:=fun i hi=>by
    rw[←sO i hi]
    have:=lO i hi
    omega
   unfold sF at c10
   dsimp only at c10
   have c5:=bId (fn:=fn) (rg:=g) (sl:=sl) (nd:=nd) (pr:=pr) (rs:=rs) (ti:=ti) (ins:=ins) (by omega) lO c10
   obtain⟨E',M',c6,hE',hM'⟩:=bKl (fn:=fn) (rg:=g) (sl:=sl) (nd:=nd) (pr:=pr) (rs:=rs) (ti:=ti) (ins:=ins) (by omega) (by omega) (tg:=tg) (Q:=Q) lQ c15
   refine⟨E',M',g,0,tL E',tL M',tL E',tL M',c5.mono ?_,c6,aG9 (rg:=g) (by omega) hE'.inc fun p hp=>((hE'.mem p).1 hp).1,aG9 (rg:=g) (by omega) hM'.inc fun p hp=>((hM'.mem p).1 hp).1⟩
   rintro v ⟨E,M,rfl,hE,hM⟩
   obtain⟨rfl,rfl⟩:=same (by omega) hbad sO oI hE hM hE' hM'
   rfl
 unfold bH at *
 simp (config := { maxSteps := 4000000 }) (disch:=omega) only[t3,go_sem,hlen]
 refine xW L3 ?_
 rintro j e S2 (⟨e1,e2,h10,y9,y10,e3⟩|⟨e1,y3,y9,y10,e3⟩)
 ·dsimp only at e1 e2 e3
  subst e1 e2 e3
  obtain⟨E,M,rg',e,tE,tM,tE',tM',c5,c6,lE,lM⟩:=V fun m hm=>h10 m (Nat.zero_le _) hm
  have cE:=bGl tE tE' lE
  have cM:=bGl tM tM' lM
  generalize bC E=RE at *
  generalize bC M=RM at *
  simp (config := { maxSteps := 4000000 }) (disch:=omega) only[go_sem]
  refine rH c5 ?_
  rintro v rfl
  simp (config := { maxSteps := 4000000 }) (disch:=omega) only[go_sem,aB c6,aB cE,aB cM]
  refine rH aE1 ?_
  rintro v rfl
  simp (config := { maxSteps := 4000000 }) (disch:=omega) only[go_sem]
  exact eC rfl
 ·dsimp only at e1 e3
  subst e1 e3
  simp (config := { maxSteps := 4000000 }) (disch:=omega) only[go_sem]
  exact eC rfl
end Go.Proofs.YtmlhjdekfihdnaaGreatDoor
namespace Go.Proofs.YtmlhjdekfihdnaaGreatDoor
open Go Go.TM Go.ChangeShapes Go.WideShapes
variable {H:Type}
theorem aE2 {d:DataW H}{l:List IV}(h:Ty Tryz.prog 26 d l):∃(t:Tag) (us:List Int),l=[.sl t (TM.one (.int .i64) us)]∧bN t us:=by
 obtain⟨t,us,rfl,h1,_,_⟩:=aBn (f:=fun n:Int=>[IV.int .i64 n]) (R:=fun _=>True) Tryz.underlying26 (fun d l h=>by obtain⟨n,rfl,_⟩:=kA Tryz.underlying3 h; exact⟨n,rfl,trivial⟩) h
 exact⟨t,us,rfl,h1⟩
theorem aV8 {d:DataW H}{l:List IV}(h:Ty Tryz.prog 28 d l):∃v:VI,l=aK v∧bN v.tu v.us:=by
 obtain⟨ds,ls,rfl,h1⟩:=aEa Tryz.underlying28 h
 obtain⟨d0,l0,ds0,ls0,rfl,k0,h1⟩:=cQ h1
 obtain⟨d1,l1,ds1,ls1,rfl,k1,h1⟩:=cQ h1
 obtain⟨d2,l2,ds2,ls2,rfl,k2,h1⟩:=cQ h1
 obtain⟨d3,l3,ds3,ls3,rfl,k3,h1⟩:=cQ h1
 obtain⟨d4,l4,ds4,ls4,rfl,k4,h1⟩:=cQ h1
 obtain⟨d5,l5,ds5,ls5,rfl,k5,h1⟩:=cQ h1
 obtain⟨d6,l6,ds6,ls6,rfl,k6,h1⟩:=cQ h1
 obtain⟨d7,l7,ds7,ls7,rfl,k7,h1⟩:=cQ h1
 obtain rfl:=wK h1
 obtain⟨op,rfl,_⟩:=kA Tryz.underlying3 k0
 obtain⟨a,rfl,_⟩:=kA Tryz.underlying3 k1
 obtain⟨b,rfl,_⟩:=kA Tryz.underlying3 k2
 obtain⟨c,rfl,_⟩:=kA Tryz.underlying3 k3
 obtain⟨e,rfl,_⟩:=kA Tryz.underlying3 k4
 obtain⟨g,rfl,_⟩:=kA Tryz.underlying3 k5
 obtain⟨tu,us,rfl,hu⟩:=aE2 k6
 obtain⟨tm,mp,rfl,_⟩:=aE2 k7
 exact⟨⟨op,a,b,c,e,g,tu,us,tm,mp⟩,rfl,hu⟩
theorem aV9 {d:DataW H}{l:List IV}(h:Ty Tryz.prog 24 d l):∃(fn rg sl nd pr:Int) (rs:Bool) (ti:Tag) (ins:List VI),l=bH fn rg sl nd pr rs ti ins∧ins.length≤9223372036854775807∧∀x∈ins,bN x.tu x.us:=by
 obtain⟨ds,ls,rfl,h1⟩:=aEa Tryz.underlying24 h
 obtain⟨d0,l0,ds0,ls0,rfl,k0,h1⟩:=cQ h1
 obtain⟨d1,l1,ds1,ls1,rfl,k1,h1⟩:=cQ h1
 obtain⟨d2,l2,ds2,ls2,rfl,k2,h1⟩:=cQ h1
 obtain⟨d3,l3,ds3,ls3,rfl,k3,h1⟩:=cQ h1
 obtain⟨d4,l4,ds4,ls4,rfl,k4,h1⟩:=cQ h1
 obtain⟨d5,l5,ds5,ls5,rfl,k5,h1⟩:=cQ h1
 obtain⟨d6,l6,ds6,ls6,rfl,k6,h1⟩:=cQ h1
 obtain rfl:=wK h1
 obtain⟨fn,rfl,_⟩:=kA Tryz.underlying3 k0
 obtain⟨rg,rfl,_⟩:=kA Tryz.underlying3 k1
 obtain⟨sl,rfl,_⟩:=kA Tryz.underlying3 k2
 obtain⟨nd,rfl,_⟩:=kA Tryz.underlying3 k3
 obtain⟨pr,rfl,_⟩:=kA Tryz.underlying3 k4
 obtain⟨rs,rfl⟩:=bF4 Tryz.underlying4 k5
 obtain⟨ti,ins,rfl,_,hR,hn⟩:=aBn (f:=aK) (R:=fun v=>bN v.tu v.us) Tryz.underlying22 (fun d l h=>aV8 h) k6
 exact⟨fn,rg,sl,nd,pr,rs,ti,ins,rfl,hn,hR⟩
variable {H:Type}
theorem inv3 {ds:List (DataW H)}{ls:List (List IV)}(hh0:qO Tryz.prog [24] ds ls):((lim K).call 3 (aGh Tryz.prog [24] ls) []).All fun r=>r.1=.iv (.bool true):=by
 obtain⟨d0,l0,ds0,ls0,rfl,h0,hh1⟩:=cQ hh0
 obtain⟨fn,rg,sl,nd,pr,rs,ti,ins,rfl,hn,hR⟩:=aV9 h0
 have e0:∀l,aDx Tryz.prog 24 l=.iv (.agg l):=fun x=>aT5 (by rw[Tryz.underlying24])
 rw[wK hh1]
 simp only[aGh,e0]
 exact law3 fn rg sl nd pr rs ti ins hn hR
end Go.Proofs.YtmlhjdekfihdnaaGreatDoor
