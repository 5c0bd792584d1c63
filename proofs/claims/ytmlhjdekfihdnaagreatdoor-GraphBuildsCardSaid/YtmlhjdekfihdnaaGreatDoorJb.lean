/- Some texts of the proof, joined. Condition: none. -/
import Derived.Test.YtmlhjdekfihdnaaGreatDoorJa
set_option maxRecDepth 100000
set_option maxHeartbeats 64000000
set_option linter.unusedSimpArgs false
set_option linter.unusedVariables false
namespace Go.Proofs.YtmlhjdekfihdnaaGreatDoor
open Go Go.TM
theorem sN0 (S:aA)(a x:aG)(r:aA):(S++a::r).set S.length x=S++x::r:=by rw[List.set_append_right _ _ (by omega)]; simp
attribute [go_sem] sN0
theorem FP.step {S T:aA}{f:VF}{lb lb':List (Nat×Int×Int)}{n m i:Nat}{ia oa ua da:Nat→Nat}{I O U D:Nat→List Nat}(h:FP S f lb n m i ia oa ua da I O U D)(k:iE LOW S T)(hl:S.length≤T.length)(t1:T[1]? = S[1]?)(t2:T[2]? = S[2]?)(t3:T[3]? = S[3]?)(t4:T[4]? = S[4]?)(t5:T[5]? = S[5]?)(t0:∃c,T[0]? = some (.mp (mpR vC lb') c))(hlb:∀L,gN lb' L=dB (f.ins.take (i+1)) L)
  {WU WD WI WO:List Nat} (w1:WOK m WU) (w2:WOK m WD) (w3:WOK m WI) (w4:WOK m WO) (u1:∀r:Nat,bit WU r=true↔(r:Int)∈bV (f.ins.getD i default)∧r<f.regs) (u2:∀r:Nat,bit WD r=true↔(r:Int)∈bM (f.ins.getD i default)∧r<f.regs) (u3:∀r,bit WI r=false) {r1 r2 r4 r5:aG}
  (e1:r1=.cells 0 false (cF n (upd (fun q=>if q<i then .msl (ia q) 0 0 m m 1 else .iv (.sl .nil [])) i (.msl (T.length+2) 0 0 m m 1)))) (e2:r2=.cells 0 false (cF n (upd (fun q=>if q<i then .msl (oa q) 0 0 m m 1 else .iv (.sl .nil [])) i (.msl (T.length+3) 0 0 m m 1))))
  (e4:r4=.cells 0 false (cF n (upd (fun q=>if q<i then .msl (ua q) 0 0 m m 1 else .iv (.sl .nil [])) i (.msl T.length 0 0 m m 1)))) (e5:r5=.cells 0 false (cF n (upd (fun q=>if q<i then .msl (da q) 0 0 m m 1 else .iv (.sl .nil [])) i (.msl (T.length+1) 0 0 m m 1)))) :
  FP (pJ T r1 r2 r4 r5 (.cells 0 false (WU.map uI)) (.cells 0 false (WD.map uI)) (.cells 0 false (WI.map uI)) (.cells 0 false (WO.map uI))) f lb' n m (i+1) (upd ia i (T.length+2)) (upd oa i (T.length+3)) (upd ua i T.length) (upd da i (T.length+1)) (upd I i WI) (upd O i WO) (upd U i WU) (upd D i WD):=by
 have h6:6≤T.length:=by have:=h.len; omega
 obtain⟨a0,a3,a1,a2,a4,a5⟩:=aU7 r1 r2 r4 r5 (.cells 0 false (WU.map uI)) (.cells 0 false (WD.map uI)) (.cells 0 false (WI.map uI)) (.cells 0 false (WO.map uI)) h6
 obtain⟨n1,n2,n3,n4⟩:=aU8 r1 r2 r4 r5 (.cells 0 false (WU.map uI)) (.cells 0 false (WD.map uI)) (.cells 0 false (WI.map uI)) (.cells 0 false (WO.map uI)) h6
 have hk:=k.trans (aP4 r1 r2 r4 r5 (.cells 0 false (WU.map uI)) (.cells 0 false (WD.map uI)) (.cells 0 false (WI.map uI)) (.cells 0 false (WO.map uI)) h6)
 have hlen:=aGv T r1 r2 r4 r5 (.cells 0 false (WU.map uI)) (.cells 0 false (WD.map uI)) (.cells 0 false (WI.map uI)) (.cells 0 false (WO.map uI))
 generalize pJ T r1 r2 r4 r5 (.cells 0 false (WU.map uI)) (.cells 0 false (WD.map uI)) (.cells 0 false (WI.map uI)) (.cells 0 false (WO.map uI))=X at *
 refine⟨?_,hlb,h.inn.step hk (by omega) w3 (by rw[a1,e1]) n3,h.out.step hk (by omega) w4 (by rw[a2,e2]) n4,h.us.step hk (by omega) w1 (by rw[a4,e4]) n1,h.ds.step hk (by omega) w2 (by rw[a5,e5]) n2,by rw[a3,t3]; exact h.flw,by omega,fun q r hq=>?_,fun q r hq=>?_,fun q r hq=>?_⟩
 ·rw[a0]; exact t0
 ·unfold upd; split
  ·exact u3 r
  ·exact h.zer q r (by omega)
 ·unfold upd; split
  ·subst_vars; exact u1 r
  ·exact h.use q r (by omega)
 ·unfold upd; split
  ·subst_vars; exact u2 r
  ·exact h.dfn q r (by omega)
theorem aOa {f:VF}{n m:Nat}(hm:(f.regs+63) / 64=m)(hr:f.regs≤1000000)(hn:n≤1000000)(hfn:f.ins.length=n)(hus:∀x∈f.ins,x.us.length≤999990∧bN x.tu x.us)(x0 x2 x3 x4 x13 x14 x15 x21 x22:TV):∀(k i:Nat) (S:aA) (lb:List (Nat×Int×Int)) (ia oa ua da:Nat→Nat) (I O U D:Nat→List Nat) (x9 x10 x11 x12 x19 x20:TV),i+k=n →
  FP S f lb n m i ia oa ua da I O U D →
  ∃(S':aA) (lb':List (Nat×Int×Int)) (ia' oa' ua' da':Nat→Nat) (I' O' U' D':Nat→List Nat) (y9 y10 y11 y12 y19 y20:TV),lp' (lim K) t27L2 [x0,.lb ((sF f).map .iv),x2,x3,x4,.iv (.int .i64 n),.ptr 3 76 0,.msl 4 0 0 n n 1,.msl 5 0 0 n n 1,x9,x10,x11,x12,x13,x14,x15,.iv (.sl f.ti (f.ins.map aK)),.iv (.int .i64 n),.iv (.int .i64 i),x19,x20,x21,x22] S
   = .ret (.exit 0,[x0,.lb ((sF f).map .iv),x2,x3,x4,.iv (.int .i64 n),.ptr 3 76 0,.msl 4 0 0 n n 1,.msl 5 0 0 n n 1,y9,y10,y11,y12,x13,x14,x15,.iv (.sl f.ti (f.ins.map aK)),.iv (.int .i64 n),.iv (.int .i64 n),y19,y20,x21,x22],S') ∧
   FP S' f lb' n m n ia' oa' ua' da' I' O' U' D'
 | 0,i,S,lb,ia,oa,ua,da,I,O,U,D,x9,x10,x11,x12,x19,x20,hk,hF=>by
  obtain rfl:i=n:=by omega
  refine⟨S,lb,ia,oa,ua,da,I,O,U,D,x9,x10,x11,x12,.iv (.bool false),x20,aF K _ _ t27L2.eq_1 ?_,hF⟩
  simp (config := { maxSteps := 4000000 }) (disch:=omega) only[go_sem]
 | k+1,i,S,lb,ia,oa,ua,da,I,O,U,D,x9,x10,x11,x12,x19,x20,hk,hF=>by
  have hin:i<n:=by omega
  have hla:i<f.ins.length:=by omega
  have hix:=gJ (w:=8) (f:=aK) eQ (t:=f.ti) (l:=f.ins) (i:=(i:Int)) (by omega)
  rw[Int.toNat_natCast]at hix
  obtain⟨hu1,hu2⟩:=hus (f.ins.getD i default) (by simp only[List.getD,List.getElem?_eq_getElem hla,Option.getD_some]; exact List.getElem_mem _)
  obtain⟨c0,hlab⟩:=hF.lab
  have h6:=hF.len
  have hts:f.ins.take (i+1)=f.ins.take i++[f.ins.getD i default]:=by
   rw[List.take_add_one,List.getElem?_eq_getElem hla]
   simp[List.getD,List.getElem?_eq_getElem hla]
  have htl:(f.ins.take i).length=i:=by simp; omega
  have hfs:=fun L=>aGu (f.ins.take i) (f.ins.getD i default) L
  simp only[←hts,htl]at hfs
  obtain⟨tU,htU,c9⟩:=bHe (f.ins.getD i default) hu1 hu2
  obtain⟨tD,htD,c11⟩:=aU6 (f.ins.getD i default)
  have lU:=aCz (f.ins.getD i default)
  have lD:=qU (f.ins.getD i default)
  have pU:=aP2 (f.ins.getD i default)
  have pD:=aP3 (f.ins.getD i default)
  have lf:=fun T h6 g1 g2 g4 g5 b1 b2 b4 b5 b3 r1 r2 r4 r5=>aP5 (f:=f) (n:=n) hm hr T h6 g1 g2 g4 g5 b1 b2 b4 b5 b3 tU tD (bV (f.ins.getD i default)) (bM (f.ins.getD i default)) (by omega) (by omega) pU pD r1 r2 r4 r5
  have fst:=fun T lb'=>FP.step (T:=T) (lb':=lb') hF
  have ihs:=fun S lb ia oa ua da I O U D x9 x10 x11 x12 x19 x20=>aOa hm hr hn hfn hus x0 x2 x3 x4 x13 x14 x15 x21 x22 k (i+1) S lb ia oa ua da I O U D x9 x10 x11 x12 x19 x20 (by omega)
  have i1:=fun j=>iH (j:=j) (v:=0) (cap:=n) hin
  have pc:=fun g x=>vM (n:=n) (i:=i) g x hin
  generalize hx:f.ins.getD i default=x at *
  have hnew:∀L,gN lb L=dB (f.ins.take i) L:=hF.lbs
  have old:∀(P:aG) (q:Nat),q<6→(S++[P])[q]? = S[q]? := fun P q hq=>List.getElem?_append_left (by omega)
  rw[bP]at hix
  by_cases hB:x.op=65∧nV lb x.lb=false
  ·obtain⟨hop,hh⟩:=hB
   have hg:gN lb x.lb=none:=by
    cases h:gN lb x.lb with
    | none=>rfl
    | some a=>simp[nV,h]at hh
   generalize hP:aG.cells 101 false [.iv (.int .i64 (nJ lb x.lb))]=P
   have hlab1:(S++[P])[0]? = some (.mp (mpR vC lb) c0):=aX hlab _
   have hflw1:=aX hF.flw [P]
   generalize hT:(S++[P]).set 0 (.mp (mpR vC (rL lb c0 x.lb (i:Int))) (aNl lb c0 x.lb))=T
   have hTl:T.length=S.length+1:=by rw[←hT]; simp
   have old2:∀q,0<q→q<6→T[q]? = S[q]? := fun q h1 h2=>by rw[←hT,aL (by omega),old P q h2]
   have hk:iE LOW S T:=by rw[←hT]; exact (iE.app LOW S [P]).trans (iE.set _ (by simp[LOW]) _)
   have hT0:∃c,T[0]? = some (.mp (mpR vC (rL lb c0 x.lb (i:Int))) c):=⟨_,by rw[←hT]; exact bE (by simp) _⟩
   have hflT:T[3]? = some (flB f n):=(old2 3 (by omega) (by omega)).trans hF.flw
   obtain⟨WU,WD,WI,WO,e1,e2,e3,e4,d4,d5,d3,d1,d2,w1,w2,w3,w4,u1,u2,u3⟩:=lf T (by omega) _ _ _ _ ((old2 1 (by omega) (by omega)).trans hF.inn.row) ((old2 2 (by omega) (by omega)).trans hF.out.row) ((old2 4 (by omega) (by omega)).trans hF.us.row) ((old2 5 (by omega) (by omega)).trans hF.ds.row) hflT
    (.cells 0 false (cF n (upd (fun q=>if q<i then .msl (ia q) 0 0 m m 1 else .iv (.sl .nil [])) i (.msl (T.length+2) 0 0 m m 1)))) (.cells 0 false (cF n (upd (fun q=>if q<i then .msl (oa q) 0 0 m m 1 else .iv (.sl .nil [])) i (.msl (T.length+3) 0 0 m m 1))))
    (.cells 0 false (cF n (upd (fun q=>if q<i then .msl (ua q) 0 0 m m 1 else .iv (.sl .nil [])) i (.msl T.length 0 0 m m 1)))) (.cells 0 false (cF n (upd (fun q=>if q<i then .msl (da q) 0 0 m m 1 else .iv (.sl .nil [])) i (.msl (T.length+1) 0 0 m m 1))))
   have hF2:=fst T (rL lb c0 x.lb (i:Int)) hk (by omega) (old2 1 (by omega) (by omega)) (old2 2 (by omega) (by omega)) (old2 3 (by omega) (by omega)) (old2 4 (by omega) (by omega)) (old2 5 (by omega) (by omega)) hT0 (fun L=>by
    rw[aBr,hfs L,←hnew L]
    by_cases e:x.lb=L
    ·subst e; rw[if_pos rfl,hg]; simp[hop]
    ·rw[if_neg e]
     cases gN lb L with
     | some a=>rfl
     | none=>rw[if_neg (fun h=>e h.2)]) w1 w2 w3 w4 u1 u2 u3 rfl rfl rfl rfl
   obtain⟨S',lb',ia',oa',ua',da',I',O',U',D',y9,y10,y11,y12,y19,y20,ih,hx2⟩:=ihs _ _ _ _ _ _ _ _ _ _ (.iv (.int .i64 i)) (.lb ((aK x).map .iv)) (.ptr S.length 101 0) (.iv (.bool false)) (.iv (.bool true)) (.iv (.bool true)) hF2
   refine⟨S',lb',ia',oa',ua',da',I',O',U',D',y9,y10,y11,y12,y19,y20,aF K _ _ t27L2.eq_1 ?_,hx2⟩
   rw[show ((i+1:Nat):Int)=(i:Int)+1 by omega,aY]at ih
   have g3:=hF.flw
   have l2:=aGt lb c0 x.lb
   rw[hh]at l2
   unfold flB at d3
   have d3a:=aX d3 [.cells 0 false (WI.map uI)]
   have d3b:=aX d3a [.cells 0 false (WO.map uI)]
   rw[bP]at c9 c11
   unfold sF at *
   simp only[List.map_cons,List.map_nil]at ih ⊢
   simp (config := { maxSteps := 4000000 }) (disch:=omega) only[go_sem,hix,i1,hlab,g3,l2,hP,hlab1,hflw1,aPt,hT,aB c9,aB c11,e1,e2,d4,d5,pc,d3,d3a,d3b,e3,e4,d1,d2,aD]
   exact congrArg er ih
  ·have hnb:∀L,gN lb L=dB (f.ins.take (i+1)) L:=fun L=>by
    rw[hfs L,←hnew L]
    cases h:gN lb L with
    | some a=>rfl
    | none =>
     dsimp only
     rw[if_neg]
     rintro⟨h1,rfl⟩
     exact hB ⟨h1,by simp[nV,h]⟩
   generalize hP:aG.cells 101 false [.iv (.int .i64 (nJ lb x.lb))]=P
   generalize hT:S++[P]=T
   have hTl:T.length=S.length+1:=by rw[←hT]; simp
   have old2:∀q,q<6→T[q]? = S[q]? := fun q h2=>by rw[←hT,old P q h2]
   have hk:iE LOW S T:=by rw[←hT]; exact iE.app LOW S [P]
   have hT0:∃c,T[0]? = some (.mp (mpR vC lb) c):=⟨c0,by rw[old2 0 (by omega)]; exact hlab⟩
   have hflT:T[3]? = some (flB f n):=(old2 3 (by omega)).trans hF.flw
   obtain⟨WU,WD,WI,WO,e1,e2,e3,e4,d4,d5,d3,d1,d2,w1,w2,w3,w4,u1,u2,u3⟩:=lf T (by omega) _ _ _ _ ((old2 1 (by omega)).trans hF.inn.row) ((old2 2 (by omega)).trans hF.out.row) ((old2 4 (by omega)).trans hF.us.row) ((old2 5 (by omega)).trans hF.ds.row) hflT
    (.cells 0 false (cF n (upd (fun q=>if q<i then .msl (ia q) 0 0 m m 1 else .iv (.sl .nil [])) i (.msl (T.length+2) 0 0 m m 1)))) (.cells 0 false (cF n (upd (fun q=>if q<i then .msl (oa q) 0 0 m m 1 else .iv (.sl .nil [])) i (.msl (T.length+3) 0 0 m m 1))))
    (.cells 0 false (cF n (upd (fun q=>if q<i then .msl (ua q) 0 0 m m 1 else .iv (.sl .nil [])) i (.msl T.length 0 0 m m 1)))) (.cells 0 false (cF n (upd (fun q=>if q<i then .msl (da q) 0 0 m m 1 else .iv (.sl .nil [])) i (.msl (T.length+1) 0 0 m m 1))))
   have hF2:=fst T lb hk (by omega) (old2 1 (by omega)) (old2 2 (by omega)) (old2 3 (by omega)) (old2 4 (by omega)) (old2 5 (by omega)) hT0 hnb w1 w2 w3 w4 u1 u2 u3 rfl rfl rfl rfl
   have g3:=hF.flw
   have l2:=aGt lb c0 x.lb
   unfold flB at d3
   have d3a:=aX d3 [.cells 0 false (WI.map uI)]
   have d3b:=aX d3a [.cells 0 false (WO.map uI)]
   rw[bP]at c9 c11
   by_cases hop:x.op=65
   ·have hh:nV lb x.lb=true:=by
     cases h:nV lb x.lb with
     | true=>rfl
     | false=>exact absurd ⟨hop,h⟩ hB
    rw[hh]at l2
    obtain⟨S',lb',ia',oa',ua',da',I',O',U',D',y9,y10,y11,y12,y19,y20,ih,hx2⟩:=ihs _ _ _ _ _ _ _ _ _ _ (.iv (.int .i64 i)) (.lb ((aK x).map .iv)) (.ptr S.length 101 0) (.iv (.bool true)) (.iv (.bool true)) (.iv (.bool false)) hF2
    refine⟨S',lb',ia',oa',ua',da',I',O',U',D',y9,y10,y11,y12,y19,y20,aF K _ _ t27L2.eq_1 ?_,hx2⟩
    rw[show ((i+1:Nat):Int)=(i:Int)+1 by omega,aY]at ih
    unfold sF at *
    simp only[List.map_cons,List.map_nil]at ih ⊢
    simp (config := { maxSteps := 4000000 }) (disch:=omega) only[go_sem,hix,i1,hlab,g3,l2,hP,hT,aB c9,aB c11,e1,e2,d4,d5,pc,d3,d3a,d3b,e3,e4,d1,d2,aD]
    exact congrArg er ih
   ·generalize nV lb x.lb=hb at *
    obtain⟨S',lb',ia',oa',ua',da',I',O',U',D',y9,y10,y11,y12,y19,y20,ih,hx2⟩:=ihs _ _ _ _ _ _ _ _ _ _ (.iv (.int .i64 i)) (.lb ((aK x).map .iv)) (.ptr S.length 101 0) (.iv (.bool hb)) (.iv (.bool true)) (.iv (.bool false)) hF2
    refine⟨S',lb',ia',oa',ua',da',I',O',U',D',y9,y10,y11,y12,y19,y20,aF K _ _ t27L2.eq_1 ?_,hx2⟩
    rw[show ((i+1:Nat):Int)=(i:Int)+1 by omega,aY]at ih
    unfold sF at *
    simp only[List.map_cons,List.map_nil]at ih ⊢
    simp (config := { maxSteps := 4000000 }) (disch:=omega) only[go_sem,hix,i1,hlab,g3,l2,hP,hT,aB c9,aB c11,e1,e2,d4,d5,pc,d3,d3a,d3b,e3,e4,d1,d2,aD]
    exact congrArg er ih
theorem yN (f:VF):sF f=[.int .i64 f.fn,.int .i64 f.regs,.int .i64 f.sl,.int .i64 f.nd,.int .i64 f.pr,.bool f.rs,.sl f.ti (f.ins.map aK)]:=rfl
theorem bCs (f:VF):(sF f).map TV.iv=[.iv (.int .i64 f.fn),.iv (.int .i64 f.regs),.iv (.int .i64 f.sl),.iv (.int .i64 f.nd),.iv (.int .i64 f.pr),.iv (.bool f.rs),.iv (.sl f.ti (f.ins.map aK))]:=rfl
theorem aKj (x:TV):∀n,TM.bJ (List.replicate n [x])=cF n fun _=>x
 | 0=>rfl
 | n+1=>by
  have:=aKj x n
  rw[List.replicate_succ,show TM.bJ ([x]::List.replicate n [x])=x::TM.bJ (List.replicate n [x]) from rfl,this]
  unfold cF
  rw[List.map_const',List.map_const',List.length_range,List.length_range,List.replicate_succ]
theorem aU9 {bytes m n:Nat}(hr:dZ n bytes=true):mkV [.sl .nil []] bytes m (.iv (.int .i64 n)) (.iv (.int .i64 n))=some (.msl m 0 0 n n 1,.cells 0 false (cF n fun q=>if q<0 then .msl 0 0 0 0 0 1 else .iv (.sl .nil []))):=by
 have hz:=aKj (.iv (.sl .nil [])) n
 have e:(fun q:Nat=>if q<0 then TV.msl 0 0 0 0 0 1 else .iv (.sl .nil []))=fun _=>.iv (.sl .nil []):=by funext q; rw[if_neg (Nat.not_lt_zero q)]
 rw[e]
 simp[mkV,TM.eH,hr,hz]
theorem aC0 {l:List VI}{L k:Int}(h:dB l L=some k):0≤k∧k<l.length:=by
 unfold dB at h
 rw[Option.map_eq_some_iff]at h
 obtain⟨i,hi,rfl⟩:=h
 rw[List.findIdx?_eq_some_iff_getElem]at hi
 obtain⟨h1,_⟩:=hi
 omega
theorem aVa {lb:List (Nat×Int×Int)}{l:List VI}(h0:0<l.length)(h:∀L,gN lb L=dB l L):aGs lb l:=by
 intro i hi _
 unfold nJ
 rw[h]
 cases e:dB l (l.getD i default).lb with
 | none=>simp; omega
 | some k=>have:=aC0 e; simpa using this
theorem bHf {f:VF}(h32:32≤f.regs)(hr:f.regs≤1000000)(hn:f.ins.length≤1000000)(h0:0<f.ins.length)(hus:∀x∈f.ins,x.us.length≤999990∧bN x.tu x.us)(h35:TM.Pure K 54 [.iv (.agg (sF f))] (.iv (.int .i64 0))) :
  ∃(S':aA) (lb:List (Nat×Int×Int)) (ia oa:Nat→Nat) (I O U D:Nat→List Nat),(lim K).call 27 [.iv (.agg (sF f))] []=.ret (.tup [.ptr 3 76 0,.iv (.int .i64 0)],S')∧FlS S' f lb f.ins.length ((f.regs+63) / 64) ia oa I O∧zF lb f.ins U D I ∧
   (∀L,gN lb L=dB f.ins L)∧(∀j r,j<f.ins.length→(bit (U j) r=true↔(r:Int)∈bV (f.ins.getD j default)∧r<f.regs))∧(∀j r,j<f.ins.length→(bit (D j) r=true↔(r:Int)∈bM (f.ins.getD j default)∧r<f.regs)) ∧
   ∀j,j<f.ins.length→(∀r,bit (I j) r=eqn lb f.ins U D I j r)∧∀r,bit (O j) r=tG lb f.ins I j r:=by
 generalize hn':f.ins.length=n at *
 generalize hm:(f.regs+63) / 64=m
 have hz:=fun k=>aU9 (m:=k) (bytes:=24) (cX (n:=n) (b:=24) (by omega))
 have hP:FP [.mp (mpR vC []) 0,.cells 0 false (cF n fun q=>if q<0 then .msl 0 0 0 0 0 1 else .iv (.sl .nil [])),.cells 0 false (cF n fun q=>if q<0 then .msl 0 0 0 0 0 1 else .iv (.sl .nil [])),flB f n,.cells 0 false (cF n fun q=>if q<0 then .msl 0 0 0 0 0 1 else .iv (.sl .nil [])),.cells 0 false (cF n fun q=>if q<0 then .msl 0 0 0 0 0 1 else .iv (.sl .nil []))] f [] n m 0 (fun _=>0) (fun _=>0) (fun _=>0) (fun _=>0) (fun _=>[]) (fun _=>[]) (fun _=>[]) (fun _=>[]):=by
  have hrow:∀q:Nat,(if q<0 then TV.msl 0 0 0 m m 1 else .iv (.sl .nil []))=(if q<0 then TV.msl 0 0 0 0 0 1 else .iv (.sl .nil [])):=fun q=>by rw[if_neg (Nat.not_lt_zero q),if_neg (Nat.not_lt_zero q)]
  refine⟨⟨0,rfl⟩,fun L=>rfl,⟨?_,by omega,by omega,by omega⟩,⟨?_,by omega,by omega,by omega⟩,⟨?_,by omega,by omega,by omega⟩,⟨?_,by omega,by omega,by omega⟩,rfl,by simp,by omega,by omega,by omega⟩<;>(simp only[hrow]; rfl)
 obtain⟨S1,lb,ia,oa,ua,da,I,O,U,D,y9,y10,y11,y12,y19,y20,l1,hF⟩:=aOa hm hr hn hn' hus (.iv (.agg (sF f))) (.iv .nilp) (.iv (.int .i64 0)) (.iv (.int .i64 0)) u_ u_ (.iv (.bool false)) u_ u_ n 0 _ _ _ _ _ _ _ _ _ _ u_ u_ u_ u_ u_ u_ (by omega) hP
 have hlbs:∀L,gN lb L=dB f.ins L:=fun L=>by rw[hF.lbs L,List.take_of_length_le (by omega)]
 have hlb:=aVa (by omega) hlbs
 have hI:∀j r,bit (if j<n then I j else []) r=false:=fun j r=>by
  split
  ·exact hF.zer j r (by assumption)
  ·simp[bit]
 have hFS:FlS S1 f lb n m ia oa (fun j=>if j<n then I j else []) O :=
  ⟨hF.lab,⟨hF.inn.done.row,hF.inn.done.ge,fun i hi=>by rw[if_pos hi]; exact hF.inn.set i hi,fun i hi=>by rw[if_pos hi]; exact hF.inn.ok i hi⟩,hF.out.done,hF.flw,hF.len⟩
 have hG:zF lb f.ins U D (fun j=>if j<n then I j else []):=⟨(fun i r hb=>by rw[hI]at hb; cases hb),(fun i r hb=>by rw[hI]at hb; cases hb)⟩
 obtain⟨S2,ia2,oa2,I2,O2,y14,y21,y22,l2,hF2,_,_,hG2,he⟩:=aN9 hm hr hn hn' hlb (.iv (.agg (sF f))) (.lb ((sF f).map .iv)) (.iv .nilp) (.iv (.int .i64 0)) (.iv (.int .i64 0)) y9 y10 y11 y12 (.iv (.bool false)) (.iv (.sl f.ti (f.ins.map aK))) (.iv (.int .i64 n)) (.iv (.int .i64 n)) y19 y20 _ S1 ia oa _ O u_ u_ u_ (Nat.le_refl _) hFS hF.us.done hF.ds.done hG
 refine⟨S2,lb,ia2,oa2,I2,O2,U,D,aP K _ (fn:=t27) rfl rfl ?_,hF2,hG2,hlbs,hF.use,hF.dfn,he⟩
 rw[show ((0:Nat):Int)=0 from rfl]at l1
 have hlen:(f.ins.map aK).length=n:=by rw[List.length_map,hn']
 unfold flB at l1
 rw[show mpR vC []=[] from rfl]at l1
 rw[bCs,yN]at l1 l2
 rw[yN]at h35
 rw[yN]
 generalize hR:aG.cells 0 false (cF n fun q=>if q<0 then .msl 0 0 0 0 0 1 else .iv (.sl .nil []))=R at *
 simp (config := { maxSteps := 4000000 }) (disch:=omega) only[t27,go_sem,aB h35,hlen,hz]
 rw[l1]
 simp (config := { maxSteps := 4000000 }) (disch:=omega) only[go_sem]
 rw[l2]
 simp (config := { maxSteps := 4000000 }) (disch:=omega) only[go_sem]
theorem aGw (i:Nat)(l:List (List IV)):cellsOf (acc i l)=[acc i l]:=by unfold acc; split<;>rfl
theorem aKk (i:Nat)(l:List (List IV)):bG (acc i l)=false:=by unfold acc; split<;>rfl
attribute [go_sem] aGw aKk
def gI (l:List (List IV))(i:Nat)(S:aA):Nat:=if l=[] then S.length else i
def gS1 (w el:Nat)(l:List (List IV))(i:Nat)(S:aA):aA:=if l=[] then S++[.tok 1 w el] else S.set i (.tok (l.length+1) w el)
def At (w el:Nat)(l:List (List IV))(i:Nat)(S:aA):Prop:=l≠[]→S[i]? = some (.tok l.length w el)
theorem aKl {w el:Nat}{l:List (List IV)}{i:Nat}{S:aA}(h:At w el l i S)(c:List IV):At w el (l++[c]) (gI l i S) (gS1 w el l i S):=by
 intro _
 unfold gI gS1
 by_cases h0:l=[]
 ·rw[if_pos h0,if_pos h0,h0]; simp
 ·rw[if_neg h0,if_neg h0,bE (cW (h h0))]; simp
theorem aVb {w el b:Nat}{l:List (List IV)}{i:Nat}{S:aA}{t:Tag}{c:List IV}(h:At w el l i S)(hc:c.length=w∧c.all oS=true)(hl:jM w l)(hr:dZ (l.length+1) b=true) :
  bI false w b el S (acc i l) (.iv (.sl t [c]))=some (acc (gI l i S) (l++[c]),gS1 w el l i S):=by
 have hx:vB S (.iv (.sl t [c])) [c]:=vB.sl ..
 have hw:jM w [c]:=by intro y hy; simp at hy; subst hy; exact hc
 by_cases h0:l=[]
 ·subst h0
  rw[kG,bAr (by decide) hx hw hl (by simp) hr,List.nil_append,bAs]
  simp[gI,gS1]
 ·rw[nI _ h0,aNf hx hw hl (h h0) hr,nI _ (by simp)]
  simp[gI,gS1,h0]
theorem qV {w el:Nat}{l:List (List IV)}{i:Nat}{S:aA}(h:At w el l i S){q:Nat}{b:aG}(hq:S[q]? = some b)(hb:∀n w el,b≠.tok n w el):(gS1 w el l i S)[q]? = some b:=by
 unfold gS1
 by_cases h0:l=[]
 ·rw[if_pos h0]; exact aX hq _
 ·rw[if_neg h0,aL]
  ·exact hq
  ·rintro rfl
   rw[h h0]at hq
   exact hb _ _ _ (Option.some.inj hq).symm
def zG (S:aA)(j:Nat)(W:List Nat):Prop:=S[j]? = some (.cells 0 false (W.map uI))∨S[j]? = some (.frz 0 (W.map uV))
theorem bGi (W:List Nat):W.map uI=(W.map uV).map .iv:=by rw[List.map_map]; rfl
theorem aP6 {S:aA}{j:Nat}{W:List Nat}(h:zG S j W)(cap:Nat):cG S (.msl j 0 0 W.length cap 1)=some (TM.one uV W):=by
 have e3:∀L:List Nat,cK 1 L.length (L.map uV)=TM.one uV L:=by
  intro L
  induction L with
  | nil=>rfl
  | cons a r ih=>simp only[List.map_cons,List.length_cons,cK,List.take_succ_cons,List.take_zero,List.drop_succ_cons,List.drop_zero,ih]; rfl
 rcases h with h|h
 ·have e1:sub (W.map uI) 0 (W.length*1)=some (W.map uI):=lS (by simp)
  have e2:toIVs (W.map uI)=some (W.map uV):=by rw[bGi,iA]
  simp only[cG,h,ne_eq,not_true_eq_false,↓reduceIte,e1,e2,Option.map_some,e3]
 ·have e1:sub (W.map uV) 0 (W.length*1)=some (W.map uV):=lS (by simp)
  simp only[cG,h,ne_eq,not_true_eq_false,↓reduceIte,e1,Option.map_some,e3]
theorem aP7 {S:aA}{j:Nat}{W:List Nat}(h:zG S j W)(cap:Nat):mA S (.msl j 0 0 W.length cap 1)=some (.iv (.sl .no (TM.one uV W))):=by
 show ((match cG S (.msl j 0 0 W.length cap 1) with|some l=>some (IV.sl .no l)|none=>none).map TV.iv)=_
 rw[aP6 h]; rfl
theorem aKm {S:aA}{j:Nat}{W:List Nat}(h:zG S j W)(v o n c w:Nat):∃S',dR S [.msl j v o n c w]=some S'∧S'.length=S.length∧(∀q,q≠j→S'[q]? = S[q]?)∧S'[j]? = some (.frz 0 (W.map uV)):=by
 rcases h with h|h
 ·refine⟨S.set j (.frz 0 (W.map uV)),?_,by simp,fun q hq=>aL (Ne.symm hq) _,bE (cW h) _⟩
  simp only[dR,oD,h,bGi,iA,Option.map_some]
 ·refine⟨S,?_,rfl,fun q _=>rfl,h⟩
  simp only[dR,oD,h]
def aVc (I:Nat→List Nat)(q:Nat):List IV:=[.sl (mM (aT (wlI 0 (I q)))) (TM.one (.int .i64) (wlI 0 (I q)))]
def fC (I:Nat→List Nat)(i:Nat):List (List IV):=(List.range i).map (aVc I)
theorem aP8 (I:Nat→List Nat)(i:Nat):(fC I i).length=i:=by simp[fC]
theorem aVd (I:Nat→List Nat)(i:Nat):jM 1 (fC I i):=by
 intro y hy
 obtain⟨q,_,rfl⟩:=List.mem_map.1 hy
 exact⟨rfl,rfl⟩
theorem aVe {j n m:Nat}(hn:n≤1000000)(hm:m≤100000){ia:Nat→Nat}{I:Nat→List Nat}(hok:∀i,i<n→WOK m (I i))(hne:∀i,i<n→ia i≠j):∀(k i:Nat) (S:aA) (jo:Nat) (x2 x6:TV),i+k=n →
  S[j]? = some (.cells 0 false (cF n fun i=>.msl (ia i) 0 0 m m 1))→(∀q,q<n→zG S (ia q) (I q))→At 1 26 (fC I i) jo S →
  ∃(S':aA) (jo':Nat) (y2 y6:TV),lp' (lim K) t28L0 [.msl j 0 0 n n 1,acc jo (fC I i),x2,.msl j 0 0 n n 1,.iv (.int .i64 n),.iv (.int .i64 i),x6] S
   = .ret (.exit 0,[.msl j 0 0 n n 1,acc jo' (fC I n),y2,.msl j 0 0 n n 1,.iv (.int .i64 n),.iv (.int .i64 n),y6],S')
 | 0,i,S,jo,x2,x6,h,hr,hs,ha=>by
  obtain rfl:i=n:=by omega
  refine⟨S,jo,x2,.iv (.bool false),aF K _ _ t28L0.eq_1 ?_⟩
  simp (config := { maxSteps := 4000000 }) (disch:=omega) only[go_sem]
 | k+1,i,S,jo,x2,x6,h,hr,hs,ha=>by
  have hin:i<n:=by omega
  have hW:=hok i hin
  have i1:=iH (j:=j) (v:=0) (cap:=n) hin
  have s1:=nZ (fun i=>TV.msl (ia i) 0 0 m m 1) hin
  have c38:=bG6 .no (I i) hW.lt (by rw[hW.len]; exact hm)
  have hcl:=aP7 (hs i hin) m
  rw[hW.len]at hcl
  obtain⟨S1,f1,f2,f3,f4⟩:=aKm (hs i hin) 0 0 m m 1
  have hr1:S1[j]? = some (.cells 0 false (cF n fun i=>.msl (ia i) 0 0 m m 1)):=by rw[f3 j (Ne.symm (hne i hin))]; exact hr
  have hs1:∀q,q<n→zG S1 (ia q) (I q):=fun q hq=>by
   by_cases e:ia q=ia i
   ·have hq':=hs q hq
    have hi':=hs i hin
    rw[e]at hq' ⊢
    right
    rw[f4]
    have:(I q).map uV=(I i).map uV:=by
     have inj:∀A B:List Nat,A.map uI=B.map uI→A.map uV=B.map uV:=fun A B hAB=>by
      have:A=B:=(List.map_inj_right (fun a b hab=>by simp[uI]at hab; exact_mod_cast hab)).1 hAB
      rw[this]
     rcases hq' with a|a<;>rcases hi' with b|b<;>rw[a]at b<;>simp at b
     ·exact inj _ _ (by simpa using b)
     ·simpa using b
    rw[this]
   ·unfold zG
    rw[f3 _ e]; exact hs q hq
  have ha1:At 1 26 (fC I i) jo S1:=fun h0=>by
   have:=ha h0
   rw[f3 jo]
   ·exact this
   ·rintro rfl
    rcases hs i hin with b|b<;>rw[this]at b<;>simp at b
  have ap:=aVb (b:=24) (c:=aVc I i) (t:=.full) ha1 ⟨rfl,rfl⟩ (aVd I i) (cX (by rw[aP8]; omega))
  have hsn:fC I i++[aVc I i]=fC I (i+1):=by simp[fC,List.range_succ]
  have hat:=aKl ha1 (aVc I i)
  rw[hsn]at ap hat
  have hr2:=qV ha1 hr1 (by simp)
  have hs2:∀q,q<n→zG (gS1 1 26 (fC I i) jo S1) (ia q) (I q):=fun q hq=>by
   rcases hs1 q hq with b|b
   ·exact .inl (qV ha1 b (by simp))
   ·exact .inr (qV ha1 b (by simp))
  obtain⟨S',jo',y2,y6,ih⟩:=aVe hn hm hok hne k (i+1) _ _ (.msl (ia i) 0 0 m m 1) (.iv (.bool true)) (by omega) hr2 hs2 hat
  rw[show ((i+1:Nat):Int)=(i:Int)+1 by omega]at ih
  refine⟨S',jo',y2,y6,aF K _ _ t28L0.eq_1 ?_⟩
  unfold aVc at ap
  simp (config := { maxSteps := 4000000 }) (disch:=omega) only[go_sem,i1,hr,s1,hcl,aB c38,f1,ap,aD]
  exact congrArg er ih
theorem aVf {S:aA}{j n m:Nat}(hn:n≤1000000)(hm:m≤100000){ia:Nat→Nat}{I:Nat→List Nat}(h:RS S j n m ia I)(hj:j<6):∃(S':aA) (jo:Nat),(lim K).call 28 [.msl j 0 0 n n 1] S=.ret (acc jo (fC I n),S'):=by
 obtain⟨S',jo,y2,y6,l1⟩:=aVe hn hm h.ok (fun i hi=>by have:=h.ge i hi; omega) n 0 S 0 u_ u_ (by omega) h.row (fun q hq=>.inl (h.set q hq)) (fun h0=>absurd rfl h0)
 rw[show ((0:Nat):Int)=0 from rfl,show fC I 0=[] from rfl,kG]at l1
 refine⟨S',jo,aP K S (fn:=t28) rfl rfl ?_⟩
 simp (config := { maxSteps := 4000000 }) (disch:=omega) only[t28,go_sem]
 rw[l1]
 simp (config := { maxSteps := 4000000 }) (disch:=omega) only[go_sem]
theorem bCt (S:aA)(jo:Nat)(l:List (List IV))(n:Int):TM.resolve S (.tup [acc jo l,.iv (.int .i64 n)])=some (.tup [.iv (.sl (mM l) l),.iv (.int .i64 n)]):=by
 rw[mZ]
 simp only[oW,aD9]
 rfl
theorem bJ1 {f:VF}(h32:32≤f.regs)(hr:f.regs≤1000000)(hn:f.ins.length≤1000000)(h0:0<f.ins.length)(hus:∀x∈f.ins,x.us.length≤999990∧bN x.tu x.us)(h35:TM.Pure K 54 [.iv (.agg (sF f))] (.iv (.int .i64 0))) :
  ∃(lb:List (Nat×Int×Int)) (I O U D:Nat→List Nat),TM.Pure K 10 [.iv (.agg (sF f))] (.tup [.iv (.sl (mM (fC O f.ins.length)) (fC O f.ins.length)),.iv (.int .i64 0)])∧zF lb f.ins U D I ∧
   (∀i,i<f.ins.length→WOK ((f.regs+63) / 64) (I i)∧WOK ((f.regs+63) / 64) (O i)) ∧
   (∀L,gN lb L=dB f.ins L)∧(∀j r,j<f.ins.length→(bit (U j) r=true↔(r:Int)∈bV (f.ins.getD j default)∧r<f.regs))∧(∀j r,j<f.ins.length→(bit (D j) r=true↔(r:Int)∈bM (f.ins.getD j default)∧r<f.regs)) ∧
   ∀j,j<f.ins.length→(∀r,bit (I j) r=eqn lb f.ins U D I j r)∧∀r,bit (O j) r=tG lb f.ins I j r:=by
 obtain⟨S,lb,ia,oa,I,O,U,D,c25,hF,hG,h1,h2,h3,h4⟩:=bHf h32 hr hn h0 hus h35
 obtain⟨S1,j1,e1⟩:=aVf (by omega) (by omega) hF.inn (by omega)
 obtain⟨S2,j2,e2⟩:=aVf (by omega) (by omega) hF.out (by omega)
 have hw:=hF.flw
 refine⟨lb,I,O,U,D,?_,hG,fun i hi=>⟨hF.inn.ok i hi,hF.out.ok i hi⟩,h1,h2,h3,h4⟩
 ·refine TM.cV (S:=S2) (aP K _ (fn:=t10) rfl rfl ?_) (bCt S2 j2 _ 0)
  rw[yN]at c25 ⊢
  generalize f.ins.length=n at *
  simp (config := { maxSteps := 4000000 }) (disch:=omega) only[t10,go_sem,c25,hw,e2]
end Go.Proofs.YtmlhjdekfihdnaaGreatDoor
