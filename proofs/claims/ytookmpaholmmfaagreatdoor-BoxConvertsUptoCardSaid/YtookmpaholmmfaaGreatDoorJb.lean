/- Some texts of the proof, joined. Condition: none. -/
import Derived.Test.YtookmpaholmmfaaGreatDoorJa
import Derived.Test.YtookmpaholmmfaaGreatDoorTmF
set_option maxRecDepth 100000
set_option maxHeartbeats 64000000
set_option linter.unusedSimpArgs false
set_option linter.unusedVariables false
namespace Go.Proofs.YtookmpaholmmfaaGreatDoor
open Go Go.TM
def okC (t:List UInt8):Bool:=(cV t.length t 0).2.isNone
def zT (d:Dt):Bool :=
 if d.k=0∨d.k=8∨d.k=9∨d.k=10 then true else if d.k=1 then decide (d.n=0∨d.n=1) else if d.k=2 then aKt d.t else if d.k=3 then isC d.n
 else if d.k=4 then okC d.t else if d.k=5 then okC d.t&&!d.t.isEmpty else false
theorem aV0 (s:List UInt8)(hl:s.length≤2000000):∃l,Pure K 118 [.iv (.str s)] (.tup [l,.iv (.int .i64 (if okC s then 0 else 4))]):=by
 have h:=bCs s hl
 unfold okC
 cases hc:(cV s.length s 0).2 with
 | none=>rw[hc]at h; exact⟨_,h⟩
 | some p=>rw[hc]at h; exact⟨_,h⟩
theorem bCx (t:List UInt8):(t==[])=t.isEmpty:=by cases t<;>rfl
theorem bHg (d:Dt)(hd:d.w≤1048576):Pure K 85 [.iv (.agg (gP d))] (.iv (.bool (zT d))):=by
 have hw:=Dt.w_eq d
 obtain⟨l,hc⟩:=aV0 d.t (by omega)
 have h116:=bCw d.t (by omega)
 have h117:=bCg d.n
 unfold zT
 by_cases hs:d.k=0∨d.k=8∨d.k=9∨d.k=10
 ·refine aR (S:=[]) (r:=.iv (.bool true)) (aB K _ (fn:=t85) rfl rfl ?_) (by rw[aN]; simp[hs])
  rw[cH]
  rcases hs with h|h|h|h<;>simp (disch:=omega) only[t85,go_sem]
 ·by_cases h1:d.k=1
  ·refine aR (S:=[]) (r:=.iv (.bool (decide (d.n=0∨d.n=1)))) (aB K _ (fn:=t85) rfl rfl ?_) (by rw[aN]; simp[h1])
   rw[cH]
   by_cases n0:d.n=0
   ·simp (disch:=omega) only[t85,go_sem]
   ·by_cases n1:d.n=1
    ·simp (disch:=omega) only[t85,go_sem]
    ·simp (disch:=omega) only[t85,go_sem]
  ·by_cases h2:d.k=2
   ·refine aR (S:=[]) (r:=.iv (.bool (aKt d.t))) (aB K _ (fn:=t85) rfl rfl ?_) (by rw[aN]; simp[h2])
    rw[cH]
    simp (disch:=omega) only[t85,go_sem,aC h116]
   ·by_cases h3:d.k=3
    ·refine aR (S:=[]) (r:=.iv (.bool (isC d.n))) (aB K _ (fn:=t85) rfl rfl ?_) (by rw[aN]; simp[h3])
     rw[cH]
     simp (disch:=omega) only[t85,go_sem,h117]
    ·by_cases h4:d.k=4
     ·refine aR (S:=[]) (r:=.iv (.bool (okC d.t))) (aB K _ (fn:=t85) rfl rfl ?_) (by rw[aN]; simp[h4])
      rw[cH]
      cases ho:okC d.t
      ·rw[ho]at hc
       simp (disch:=omega) only[t85,go_sem,aC hc,Bool.false_eq_true]
      ·rw[ho]at hc
       simp (disch:=omega) only[t85,go_sem,aC hc]
     ·by_cases h5:d.k=5
      ·refine aR (S:=[]) (r:=.iv (.bool (okC d.t&&!d.t.isEmpty))) (aB K _ (fn:=t85) rfl rfl ?_) (by rw[aN]; simp[h5])
       rw[cH]
       cases ho:okC d.t
       ·rw[ho]at hc
        simp (disch:=omega) only[t85,go_sem,aC hc,Bool.false_eq_true,Bool.false_and]
       ·rw[ho]at hc
        simp (disch:=omega) only[t85,go_sem,aC hc,Bool.true_and,bCx]
      ·refine aR (S:=[]) (r:=.iv (.bool false)) (aB K _ (fn:=t85) rfl rfl ?_) (by rw[aN]; simp[hs,h1,h2,h3,h4,h5])
       rw[cH]
       simp (disch:=omega) only[t85,go_sem]
theorem aO0 (f:Nat)(act:Dt→Bool)(g:Tag)(ks:List Dt)(hl:ks.length≤2000000)(hf:∀x∈ks,TM.Pure K f [.iv (.agg (gP x))] (.iv (.bool (act x))))(x2:TV)(S:aA):∀(k i:Nat) (x3 x6 x7:TV),i+k=ks.length →
  ∃j r y3 y5 y6 y7,(j=.ret∧(∃n:Int,r=.iv (.int .i64 n)∧0≤n)∧(ks.drop i).any act=true∨j=.exit 0∧r=x2∧(ks.drop i).any act=false) ∧
   lp' (lim K) t115L0 [.iv (.sl g (bQ ks)),.fn f [] [],x2,x3,.iv (.int .i64 ks.length),.iv (.int .i64 (i:Int)),x6,x7] S=.ret (j,[.iv (.sl g (bQ ks)),.fn f [] [],r,y3,.iv (.int .i64 ks.length),y5,y6,y7],S)
 | 0,i,x3,x6,x7,h=>by
  obtain rfl:i=ks.length:=by omega
  refine⟨.exit 0,x2,?_,?_,?_,?_,.inr ⟨rfl,rfl,by rw[List.drop_length]; rfl⟩,aH K _ _ t115L0.eq_1 ?_⟩
  rotate_left 4
  ·simp (disch:=omega) only[go_sem]
   rfl
 | k+1,i,x3,x6,x7,h=>by
  have hla:i<ks.length:=by omega
  have hix:=ixD (g:=g) (ks:=ks) (i:=(i:Int)) (by omega)
  rw[Int.toNat_natCast]at hix
  have hdr:=bM hla
  have hc:=hf _ (bP hla)
  generalize hx:ks.getD i default=x at *
  rw[cH]at hc
  cases ha:act x with
  | true =>
   rw[ha]at hc
   refine⟨.ret,.iv (.int .i64 (i:Int)),?_,?_,?_,?_,.inl ⟨rfl,⟨_,rfl,by omega⟩,by rw[hdr,List.any_cons,ha,Bool.true_or]⟩,aH K _ _ t115L0.eq_1 ?_⟩
   rotate_left 4
   ·simp (disch:=omega) only[go_sem,hix,eZ,aC hc]
    rfl
  | false =>
   rw[ha]at hc
   obtain⟨j,r,y3,y5,y6,y7,hj,ih⟩:=aO0 f act g ks hl hf x2 S k (i+1) (.iv (.int .i64 (i:Int))) (.iv (.bool true)) (.iv (.bool false)) (by omega)
   rw[show ((i+1:Nat):Int)=(i:Int)+1 by omega]at ih
   refine⟨j,r,y3,y5,y6,y7,?_,aH K _ _ t115L0.eq_1 ?_⟩
   ·rw[hdr,List.any_cons,ha,Bool.false_or]; exact hj
   ·simp (disch:=omega) only[go_sem,hix,eZ,aC hc,aF]
    exact congrArg er ih
theorem aV1 (f:Nat)(act:Dt→Bool)(g:Tag)(ks:List Dt)(hl:ks.length≤2000000)(hf:∀x∈ks,TM.Pure K f [.iv (.agg (gP x))] (.iv (.bool (act x))))(S:aA) :
  (lim K).call 83 [.iv (.sl g (bQ ks)),.fn f [] []] S=.ret (.iv (.bool (ks.any act)),S):=by
 obtain⟨j,r,y3,y5,y6,y7,hj,ih⟩:=aO0 f act g ks hl hf (.iv (.int .i64 0)) S ks.length 0 u_ u_ u_ (by omega)
 rw[show ((0:Nat):Int)=0 from rfl,List.drop_zero]at *
 have h115:∃n:Int,(0≤n↔ks.any act=true)∧(lim K).call 115 [.iv (.sl g (bQ ks)),.fn f [] []] S=.ret (.iv (.int .i64 n),S):=by
  rcases hj with⟨rfl,⟨n,rfl,hn⟩,ha⟩|⟨rfl,rfl,ha⟩
  ·refine⟨n,by simp[hn,ha],aB K _ (fn:=t115) rfl rfl ?_⟩
   simp (disch:=omega) only[t115,go_sem,aI]
   rw[ih]
   simp (disch:=omega) only[go_sem]
  ·refine⟨-1,by simp[ha],aB K _ (fn:=t115) rfl rfl ?_⟩
   simp (disch:=omega) only[t115,go_sem,aI]
   rw[ih]
   simp (disch:=omega) only[go_sem]
 obtain⟨n,hn,h115⟩:=h115
 refine aB K _ (fn:=t83) rfl rfl ?_
 by_cases h0:0≤n
 ·rw[hn.1 h0]
  simp (disch:=omega) only[t83,go_sem,h115]
 ·have:ks.any act=false:=by
   cases h:ks.any act with
   | true=>exact absurd (hn.2 h) h0
   | false=>rfl
  rw[this]
  simp (disch:=omega) only[t83,go_sem,h115]
theorem bHh (d:Dt)(hd:d.w≤2000000)(S:aA):(lim K).call 82 [.iv (.agg (gP d))] S=.ret (.iv (.bool (decide (d.k=6∧d.ks.length=2))),S):=by
 have hw:=Dt.w_eq d
 have hl:=Dt.ws_len d.ks
 refine aB K _ (fn:=t82) rfl rfl ?_
 rw[cH]
 by_cases hk:d.k=6
 ·by_cases h2:d.ks.length=2
  ·have:((d.ks.length:Int)==2)=true:=by simp[h2]
   simp (disch:=omega) only[t82,go_sem,aI]
  ·simp (disch:=omega) only[t82,go_sem,aI]
 ·simp (disch:=omega) only[t82,go_sem,aI]
mutual
def fN:Dt→Bool
 | .mk k n t g ks p=>if k=6∧ks.length=2 then aRd ks else if k=7 then aRd ks else ks.isEmpty&&zT (.mk k n t g ks p)
def aRd:List Dt→Bool
 | []=>true
 | d::ds=>fN d&&aRd ds
end
theorem aHo:∀ks:List Dt,aRd ks=ks.all fN
 | []=>by rw[aRd]; rfl
 | d::ds=>by rw[aRd,aHo ds]; rfl
theorem tZ (d:Dt):fN d=if d.k=6∧d.ks.length=2 then d.ks.all fN else if d.k=7 then d.ks.all fN else d.ks.isEmpty&&zT d:=by
 cases d; rw[fN,aHo]; rfl
abbrev aV2 (d:Dt):TV:=.lb [.iv (.int .i64 d.k),.iv (.int .i64 d.n),.iv (.str d.t),.iv (.sl d.g (bQ d.ks)),.iv (.int .i64 d.p)]
theorem aEv {d:Dt}(h:d.ks.length=2):∃a b,d.ks=[a,b]:=by
 cases hk:d.ks with
 | nil=>rw[hk]at h; simp at h
 | cons a r =>
  cases r with
  | nil=>rw[hk]at h; simp at h
  | cons b r =>
   cases r with
   | nil=>exact⟨a,b,rfl⟩
   | cons c r=>rw[hk]at h; simp at h
theorem ix0 (g:Tag)(a b:Dt):indexAddrS 5 (.iv (.sl g (bQ [a,b]))) 0=some (.iv (.cp (gP a))):=ixD (g:=g) (ks:=[a,b]) (i:=0) (by simp)
theorem ix1 (g:Tag)(a b:Dt):indexAddrS 5 (.iv (.sl g (bQ [a,b]))) 1=some (.iv (.cp (gP b))):=ixD (g:=g) (ks:=[a,b]) (i:=1) (by simp)
theorem aV3 (M:Nat)(hM:M≤1048576)(ih:∀d:Dt,d.w≤M→TM.Pure K 42 [.iv (.agg (gP d))] (.iv (.bool (fN d))))(x0:TV)(S:aA):∀(N:Nat),N≤M+1→∀(d:Dt) (x2 x3 x4 x5:TV),d.w≤N →
  ∃j d' r y3 y4,(j=.ret∧r=.iv (.bool false)∧fN d=false∨j=.exit 0∧r=x2∧fN d'=fN d∧d'.w≤d.w∧¬(d'.k=6∧d'.ks.length=2)) ∧
   lp' (lim K) t42L0 [x0,aV2 d,x2,x3,x4,x5] S=.ret (j,[x0,aV2 d',r,y3,y4,x5],S)
 | 0,hN,d,x2,x3,x4,x5,hd=>by have:=Dt.w_eq d; omega
 | N+1,hN,d,x2,x3,x4,x5,hd=>by
  have hw:=Dt.w_eq d
  have hp:=bHh d (by omega) S
  rw[cH]at hp
  by_cases h2:d.k=6∧d.ks.length=2
  ·obtain⟨a,b,hk⟩:=aEv h2.2
   have hab:a.w+b.w+1≤d.w:=by rw[hw,hk,Dt.ws,Dt.ws,Dt.ws]; omega
   have ha:=ih a (by omega)
   rw[cH]at ha
   have hm:fN d=(fN a&&fN b):=by rw[tZ d,if_pos h2,hk]; simp
   have i0:=ix0 d.g a b
   have i1:=ix1 d.g a b
   rw[←hk]at i0 i1
   rw[bK0 h2]at hp
   cases hma:fN a with
   | false =>
    rw[hma]at ha
    refine⟨.ret,d,.iv (.bool false),?_,?_,.inl ⟨rfl,rfl,by rw[hm,hma,Bool.false_and]⟩,aH K _ _ t42L0.eq_1 ?_⟩
    rotate_left 2
    ·simp (disch:=omega) only[go_sem,hp,i0,eZ,aC ha]
     rfl
   | true =>
    rw[hma]at ha
    obtain⟨j,d',r,y3,y4,hj,ih2⟩:=aV3 M hM ih x0 S N (by omega) b x2 (.iv (.bool true)) (.iv (.bool false)) x5 (by omega)
    refine⟨j,d',r,y3,y4,?_,aH K _ _ t42L0.eq_1 ?_⟩
    ·rw[hm,hma,Bool.true_and]
     rcases hj with h|⟨h1,h2,h3,h4,h5⟩
     ·exact .inl h
     ·exact .inr ⟨h1,h2,h3,by omega,h5⟩
    ·simp (disch:=omega) only[go_sem,hp,i0,i1,eZ,aC ha]
     exact congrArg er ih2
  ·rw[bK1 h2]at hp
   refine⟨.exit 0,d,x2,?_,?_,.inr ⟨rfl,rfl,rfl,Nat.le_refl _,h2⟩,aH K _ _ t42L0.eq_1 ?_⟩
   rotate_left 2
   ·simp (disch:=omega) only[go_sem,hp]
    rfl
theorem aEw (ks:List Dt)(f:Dt→Bool):(!(ks.any fun x=>!f x))=ks.all f:=by
 induction ks with
 | nil=>rfl
 | cons a r ih=>simp only[List.any_cons,List.all_cons,Bool.not_or,Bool.not_not,ih]
theorem aV4:∀(N:Nat),N≤1048576→∀d:Dt,d.w≤N→TM.Pure K 42 [.iv (.agg (gP d))] (.iv (.bool (fN d)))
 | 0,hN,d,hd=>by have:=Dt.w_eq d; omega
 | N+1,hN,d,hd=>by
  have ih:=aV4 N (by omega)
  obtain⟨j,d',r,y3,y4,hj,hl⟩:=aV3 N (by omega) ih (.iv (.agg (gP d))) [] (N+1) (by omega) d (.iv (.bool false)) u_ u_ u_ hd
  rcases hj with⟨rfl,rfl,hm⟩|⟨rfl,rfl,hm,hw',hn⟩
  ·refine aR (S:=[]) (r:=.iv (.bool false)) (aB K _ (fn:=t42) rfl rfl ?_) (by rw[aN,hm])
   rw[cH]at hl ⊢
   simp (disch:=omega) only[t42,go_sem]
   rw[hl]
   simp (disch:=omega) only[go_sem]
  ·have hwd:=Dt.w_eq d'
   have hwl:=Dt.ws_len d'.ks
   have h84:∀x∈d'.ks,TM.Pure K 84 [.iv (.agg (gP x))] (.iv (.bool (!fN x))):=by
    intro x hx
    have hc:=ih x (by have:=Dt.kid_lt hx; omega)
    refine aR (S:=[]) (r:=.iv (.bool (!fN x))) (aB K _ (fn:=t84) rfl rfl ?_) (by rw[aN])
    rw[cH]at hc ⊢
    simp (disch:=omega) only[t84,go_sem,aC hc]
   have h83:=aV1 84 (fun x=>!fN x) d'.g d'.ks (by omega) h84 []
   have h85:=bHg d' (by omega)
   rw[cH]at h85
   refine aR (S:=[]) (r:=.iv (.bool (fN d'))) (aB K _ (fn:=t42) rfl rfl ?_) (by rw[aN,hm])
   rw[cH]at hl ⊢
   rw[tZ d',if_neg hn]
   simp (disch:=omega) only[t42,go_sem]
   rw[hl]
   by_cases h7:d'.k=7
   ·rw[if_pos h7]
    simp (disch:=omega) only[go_sem,h83,aEw]
   ·rw[if_neg h7]
    by_cases he:d'.ks.length=0
    ·have:d'.ks.isEmpty=true:=by rw[List.isEmpty_iff]; exact List.eq_nil_of_length_eq_zero he
     have e0:((d'.ks.length:Int)==0)=true:=by simp[he]
     simp (disch:=omega) only[go_sem,aI,e0,aC h85,this,Bool.true_and]
    ·have:d'.ks.isEmpty=false:=by
      cases hk:d'.ks with
      | nil=>rw[hk]at he; exact absurd rfl he
      | cons a r=>rfl
     simp (disch:=omega) only[go_sem,aI,this,Bool.false_and]
mutual
def plF:Dt→Bool
 | .mk k n t g ks p=>!decide (k=5∧n≠0)&&pls ks
def pls:List Dt→Bool
 | []=>true
 | d::ds=>plF d&&pls ds
end
theorem aO1:∀ks:List Dt,pls ks=ks.all plF
 | []=>by rw[pls]; rfl
 | d::ds=>by rw[pls,aO1 ds]; rfl
theorem aKu (d:Dt):plF d=(!decide (d.k=5∧d.n≠0)&&d.ks.all plF):=by
 cases d; rw[plF,aO1]; rfl
theorem aV5 (M:Nat)(hM:M≤1048576)(ih:∀d:Dt,d.w≤M→TM.Pure K 43 [.iv (.agg (gP d))] (.iv (.bool (plF d))))(x0:TV)(S:aA):∀(N:Nat),N≤M+1→∀(d:Dt) (x2 x3 x4 x5:TV),d.w≤N →
  ∃j d' r y3 y4,(j=.ret∧r=.iv (.bool false)∧plF d=false∨j=.exit 0∧r=x2∧plF d'=plF d∧d'.w≤d.w) ∧
   lp' (lim K) t43L0 [x0,aV2 d,x2,x3,x4,x5] S=.ret (j,[x0,aV2 d',r,y3,y4,x5],S)
 | 0,hN,d,x2,x3,x4,x5,hd=>by have:=Dt.w_eq d; omega
 | N+1,hN,d,x2,x3,x4,x5,hd=>by
  have hw:=Dt.w_eq d
  have hl:=Dt.ws_len d.ks
  by_cases h2:d.k=6∧d.ks.length=2
  ·obtain⟨a,b,hk⟩:=aEv h2.2
   have hab:a.w+b.w+1≤d.w:=by rw[hw,hk,Dt.ws,Dt.ws,Dt.ws]; omega
   have ha:=ih a (by omega)
   rw[cH]at ha
   have hm:plF d=(plF a&&plF b):=by rw[aKu d,hk]; simp[h2.1]
   have i0:=ix0 d.g a b
   have i1:=ix1 d.g a b
   rw[←hk]at i0 i1
   have h6:=h2.1
   have hl2:((d.ks.length:Int)==2)=true:=by simp[h2.2]
   cases hma:plF a with
   | false =>
    rw[hma]at ha
    refine⟨.ret,d,.iv (.bool false),?_,?_,.inl ⟨rfl,rfl,by rw[hm,hma,Bool.false_and]⟩,aH K _ _ t43L0.eq_1 ?_⟩
    rotate_left 2
    ·simp (disch:=omega) only[go_sem,aI,hl2,i0,eZ,aC ha]
     rfl
   | true =>
    rw[hma]at ha
    obtain⟨j,d',r,y3,y4,hj,ih2⟩:=aV5 M hM ih x0 S N (by omega) b x2 (.iv (.bool true)) (.iv (.bool false)) x5 (by omega)
    refine⟨j,d',r,y3,y4,?_,aH K _ _ t43L0.eq_1 ?_⟩
    ·rw[hm,hma,Bool.true_and]
     rcases hj with h|⟨h1,h2,h3,h4⟩
     ·exact .inl h
     ·exact .inr ⟨h1,h2,h3,by omega⟩
    ·simp (disch:=omega) only[go_sem,aI,hl2,i0,i1,eZ,aC ha]
     exact congrArg er ih2
  ·refine⟨.exit 0,d,x2,?_,?_,.inr ⟨rfl,rfl,rfl,Nat.le_refl _⟩,aH K _ _ t43L0.eq_1 ?_⟩
   rotate_left 2
   ·by_cases h6:d.k=6
    ·have hl2:((d.ks.length:Int)==2)=false:=by
      have:d.ks.length≠2:=fun e=>h2 ⟨h6,e⟩
      simp; omega
     simp (disch:=omega) only[go_sem,aI,hl2]
     rfl
    ·simp (disch:=omega) only[go_sem,aI]
     first|done|rfl
theorem aV6:∀(N:Nat),N≤1048576→∀d:Dt,d.w≤N→TM.Pure K 43 [.iv (.agg (gP d))] (.iv (.bool (plF d)))
 | 0,hN,d,hd=>by have:=Dt.w_eq d; omega
 | N+1,hN,d,hd=>by
  have ih:=aV6 N (by omega)
  obtain⟨j,d',r,y3,y4,hj,hl⟩:=aV5 N (by omega) ih (.iv (.agg (gP d))) [] (N+1) (by omega) d (.iv (.bool false)) u_ u_ u_ hd
  rcases hj with⟨rfl,rfl,hm⟩|⟨rfl,rfl,hm,hw'⟩
  ·refine aR (S:=[]) (r:=.iv (.bool false)) (aB K _ (fn:=t43) rfl rfl ?_) (by rw[aN,hm])
   rw[cH]at hl ⊢
   simp (disch:=omega) only[t43,go_sem]
   rw[hl]
   simp (disch:=omega) only[go_sem]
  ·have hwd:=Dt.w_eq d'
   have hwl:=Dt.ws_len d'.ks
   have h86:∀x∈d'.ks,TM.Pure K 86 [.iv (.agg (gP x))] (.iv (.bool (!plF x))):=by
    intro x hx
    have hc:=ih x (by have:=Dt.kid_lt hx; omega)
    refine aR (S:=[]) (r:=.iv (.bool (!plF x))) (aB K _ (fn:=t86) rfl rfl ?_) (by rw[aN])
    rw[cH]at hc ⊢
    simp (disch:=omega) only[t86,go_sem,aC hc]
   have h83:=aV1 86 (fun x=>!plF x) d'.g d'.ks (by omega) h86 []
   refine aR (S:=[]) (r:=.iv (.bool (plF d'))) (aB K _ (fn:=t43) rfl rfl ?_) (by rw[aN,hm])
   rw[cH]at hl ⊢
   rw[aKu d']
   simp (disch:=omega) only[t43,go_sem]
   rw[hl]
   by_cases h5:d'.k=5
   ·by_cases h0:d'.n=0
    ·have:decide (d'.k=5∧d'.n≠0)=false:=by simp[h0]
     simp (disch:=omega) only[go_sem,h83,aEw,this,Bool.not_false,Bool.true_and]
    ·have:decide (d'.k=5∧d'.n≠0)=true:=by simp[h0,h5]
     simp (disch:=omega) only[go_sem,this,Bool.not_true,Bool.false_and]
   ·have:decide (d'.k=5∧d'.n≠0)=false:=by simp[h5]
    simp (disch:=omega) only[go_sem,h83,aEw,this,Bool.not_false,Bool.true_and]
def nI:List Int:=[2,1,2,1,1,2,2,1,2,2,2,2,2,2,2,1,1,1,1,2,1,2,3,1,1,1,1,2,1,2,3,1,2,1,2,3,1,0,1,1,0,0]
def nJ:List (List UInt8):=[[101,113,63],[112,97,105,114,63],[99,111,110,115],[99,97,114],[99,100,114],[115,101,116,45,99,97,114,33],[115,101,116,45,99,100,114,33],[105,110,116,101,103,101,114,63],[37,43],[37,45],[37,42],[113,117,111,116,105,101,110,116],[114,101,109,97,105,110,100,101,114],[37,61],[37,60],[99,104,97,114,63],[99,104,97,114,45,62,105,110,116,101,103,101,114],[105,110,116,101,103,101,114,45,62,99,104,97,114],[115,116,114,105,110,103,63],[109,97,107,101,45,115,116,114,105,110,103],[115,116,114,105,110,103,45,108,101,110,103,116,104],[115,116,114,105,110,103,45,114,101,102],[115,116,114,105,110,103,45,115,101,116,33],[115,121,109,98,111,108,63],[115,121,109,98,111,108,45,62,115,116,114,105,110,103],[115,116,114,105,110,103,45,62,115,121,109,98,111,108],[118,101,99,116,111,114,63],[109,97,107,101,45,118,101,99,116,111,114],[118,101,99,116,111,114,45,108,101,110,103,116,104],[118,101,99,116,111,114,45,114,101,102],[118,101,99,116,111,114,45,115,101,116,33],[98,121,116,101,118,101,99,116,111,114,63],[109,97,107,101,45,98,121,116,101,118,101,99,116,111,114],[98,121,116,101,118,101,99,116,111,114,45,108,101,110,103,116,104],[98,121,116,101,118,101,99,116,111,114,45,117,56,45,114,101,102],[98,121,116,101,118,101,99,116,111,114,45,117,56,45,115,101,116,33],[112,114,111,99,101,100,117,114,101,63],[114,101,97,100,45,117,56],[119,114,105,116,101,45,117,56],[37,104,97,108,116],[101,111,102,45,111,98,106,101,99,116],[37,110,111,110,101]]
def pI (n:Int):Int:=if 0≤n∧n<42 then nI.getD n.toNat 0 else -1
theorem aHp {α:Type}(f:α→TV)(d:α){l:List α}{k:Nat}(h:k<l.length):sub (l.map f) k 1=some [f (l.getD k d)]:=by
 have e:k+1≤(l.map f).length:=by rw[List.length_map]; omega
 simp only[sub,e,↓reduceIte]
 rw[List.drop_eq_getElem_cons (by rw[List.length_map]; omega)]
 simp[List.getD,List.getElem?_eq_getElem h]
theorem aEx (n:Int)(S:aA):(lim K).call 108 [.iv (.int .i64 n)] S=.ret (.iv (.int .i64 (pI n)),S):=by
 refine aB K _ (fn:=t108) rfl rfl ?_
 unfold pI
 by_cases h:0≤n∧n<42
 ·rw[if_pos h]
  have hs:=aHp (fun a=>TV.iv (.int .i64 a)) 0 (l:=nI) (k:=0+n.toNat*1) (by rw[show nI.length=42 from rfl]; omega)
  rw[show nI.getD (0+n.toNat*1) 0=nI.getD n.toNat 0 by congr 1; omega]at hs
  generalize nI.getD n.toNat 0=r at *
  simp only[nI,List.map_cons,List.map_nil]at hs
  simp (disch:=omega) only[t108,go_sem,hs]
 ·rw[if_neg h]
  by_cases h0:n<0
  ·simp (disch:=omega) only[t108,go_sem]
  ·simp (disch:=omega) only[t108,go_sem]
def aC9 (n:Int):List UInt8:=if 0≤n∧n<42 then nJ.getD n.toNat [] else []
theorem aO2 (n:Int)(S:aA):(lim K).call 109 [.iv (.int .i64 n)] S=.ret (.iv (.str (aC9 n)),S):=by
 refine aB K _ (fn:=t109) rfl rfl ?_
 unfold aC9
 by_cases h:0≤n∧n<42
 ·rw[if_pos h]
  have hs:=aHp (fun a=>TV.iv (.str a)) [] (l:=nJ) (k:=0+n.toNat*1) (by rw[show nJ.length=42 from rfl]; omega)
  rw[show nJ.getD (0+n.toNat*1) []=nJ.getD n.toNat [] by congr 1; omega]at hs
  generalize nJ.getD n.toNat []=r at *
  simp only[nJ,List.map_cons,List.map_nil]at hs
  simp (disch:=omega) only[t109,go_sem,hs]
 ·rw[if_neg h]
  by_cases h0:n<0
  ·simp (disch:=omega) only[t109,go_sem]
  ·simp (disch:=omega) only[t109,go_sem]
structure FM (S:aA) (ia im:Nat) (A:Int→Int) (B:List Int) (m:Nat):Prop where
 ne:ia≠im
 cnt:∃l c,S[ia]? = some (.mp (mpR jB l) c)∧∀v,rF l v=A v
 map:∃l c,S[im]? = some (.mp (mpR jB l) c)∧oB l c∧l.length≤m∧∀v,fT l v=true↔v∈B
mutual
def fr:Ex→List Int
 | .mk k n gv vs r g ks=>(if k=2∨k=4 then [n] else [])++(frs ks).filter fun v=>!decide (k=7∧v∈vs)
def frs:List Ex→List Int
 | []=>[]
 | d::ds=>fr d++frs ds
end
theorem bJ7 (e:Ex):fr e=(if e.k=2∨e.k=4 then [e.n] else [])++(frs e.ks).filter fun v=>!decide (e.k=7∧v∈e.vs):=by cases e; rw[fr]; rfl
theorem bLi (a b:Int):TM.minmax true (.int .i64 a) [.iv (.int .i64 b)]=some (.int .i64 (if a<b then b else a)):=by simp[TM.minmax,min2]
theorem bLj (a b:Int):TM.minmax false (.int .i64 a) [.iv (.int .i64 b)]=some (.int .i64 (if b<a then b else a)):=by simp[TM.minmax,min2]
attribute [go_sem] bLi bLj
structure Shp where
 num:Bool
 kids:Int
 more:Bool
 word:List UInt8
 is:Bool
def bJ8 (n:Int):List UInt8:=if n=0 then [99,97,108,108,47,99,99] else if n=1 then [97,112,112,108,121] else [99,97,108,108,45,119,105,116,104,45,118,97,108,117,101,115]
def ofF (k n:Int):Shp :=
 if k=1 then ⟨true,0,false,[99],true⟩ else if k=2 then ⟨true,0,false,[118],true⟩ else if k=3 then ⟨true,0,false,[103],true⟩
 else if k=4 then ⟨true,1,false,[115,101,116,33,32,118],true⟩ else if k=5 then ⟨true,1,false,[115,101,116,33,32,103],true⟩
 else if k=6 then ⟨false,3,false,[105,102],true⟩ else if k=7 then ⟨false,1,false,[108,97,109,98,100,97],true⟩ else if k=8 then ⟨false,1,true,[99,97,108,108],true⟩
 else if k=9 then ⟨true,if 0<pI n then pI n else 0,false,aC9 n,decide (0≤pI n)⟩ else if k=10 then ⟨false,1,true,[98,101,103,105,110],true⟩
 else if k=11 then (if n<0∨2<n then ⟨false,0,false,[],false⟩ else ⟨true,if 2<n+1 then 2 else n+1,false,bJ8 n,true⟩)
 else if k=12 then ⟨false,1,false,[98,111,120],true⟩ else if k=13 then ⟨false,1,false,[117,110,98,111,120],true⟩ else if k=14 then ⟨false,2,false,[115,101,116,45,98,111,120,33],true⟩
 else ⟨false,0,false,[],false⟩
def aV7 (s:Shp):TV:=.tup [.iv (.agg [.bool s.num,.int .i64 s.kids,.bool s.more,.str s.word]),.iv (.bool s.is)]
theorem aKv (e:Ex)(S:aA):(lim K).call 74 [.iv (.agg (aW e))] S=.ret (aV7 (ofF e.k e.n),S):=by
 refine aB K _ (fn:=t74) rfl rfl ?_
 rw[aJ]
 unfold ofF aV7
 by_cases h1:e.k=1
 ·rw[if_pos h1]; simp (disch:=omega) only[t74,go_sem]
 rw[if_neg h1]
 by_cases h2:e.k=2
 ·rw[if_pos h2]; simp (disch:=omega) only[t74,go_sem]
 rw[if_neg h2]
 by_cases h3:e.k=3
 ·rw[if_pos h3]; simp (disch:=omega) only[t74,go_sem]
 rw[if_neg h3]
 by_cases h4:e.k=4
 ·rw[if_pos h4]; simp (disch:=omega) only[t74,go_sem]
 rw[if_neg h4]
 by_cases h5:e.k=5
 ·rw[if_pos h5]; simp (disch:=omega) only[t74,go_sem]
 rw[if_neg h5]
 by_cases h6:e.k=6
 ·rw[if_pos h6]; simp (disch:=omega) only[t74,go_sem]
 rw[if_neg h6]
 by_cases h7:e.k=7
 ·rw[if_pos h7]; simp (disch:=omega) only[t74,go_sem]
 rw[if_neg h7]
 by_cases h8:e.k=8
 ·rw[if_pos h8]; simp (disch:=omega) only[t74,go_sem]
 rw[if_neg h8]
 by_cases h9:e.k=9
 ·rw[if_pos h9]; simp (disch:=omega) only[t74,go_sem,aEx,aO2]
 rw[if_neg h9]
 by_cases h10:e.k=10
 ·rw[if_pos h10]; simp (disch:=omega) only[t74,go_sem]
 rw[if_neg h10]
 by_cases h11:e.k=11
 ·rw[if_pos h11]
  by_cases hn:e.n<0∨2<e.n
  ·rw[if_pos hn]
   rcases hn with hn|hn<;>simp (disch:=omega) only[t74,go_sem]
  ·rw[if_neg hn]
   have hc:e.n=0∨e.n=1∨e.n=2:=by omega
   rcases hc with hc|hc|hc<;>rw[hc]<;>simp (disch:=omega) only[t74,go_sem,aF,bJ8,List.map_cons,List.map_nil]
 rw[if_neg h11]
 by_cases h12:e.k=12
 ·rw[if_pos h12]; simp (disch:=omega) only[t74,go_sem]
 rw[if_neg h12]
 by_cases h13:e.k=13
 ·rw[if_pos h13]; simp (disch:=omega) only[t74,go_sem]
 rw[if_neg h13]
 by_cases h14:e.k=14
 ·rw[if_pos h14]; simp (disch:=omega) only[t74,go_sem]
 rw[if_neg h14]
 simp (disch:=omega) only[t74,go_sem]
theorem yZ (n m:Int)(S:aA):(lim K).call 119 [.iv (.int .i64 n),.iv (.int .i64 m)] S=.ret (.iv (.bool (decide (0≤n∧n<m))),S):=by
 refine aB K _ (fn:=t119) rfl rfl ?_
 by_cases h0:0≤n
 ·by_cases h1:n<m
  ·simp (disch:=omega) only[t119,go_sem]
  ·simp (disch:=omega) only[t119,go_sem]
 ·simp (disch:=omega) only[t119,go_sem]
theorem aO3 (f:Nat)(act:Int→Bool)(a b c d:Nat)(g:Tag)(l:List Int)(hl:l.length≤2000000)(S:aA)(hf:∀x∈l,(lim K).call f [.iv (.int .i64 x),.ptr a b 0,.ptr c d 0] S=.ret (.iv (.bool (act x)),S))(x2:TV):∀(k i:Nat) (x3 x6 x7:TV),i+k=l.length →
  ∃j r y3 y5 y6 y7,(j=.ret∧(∃n:Int,r=.iv (.int .i64 n)∧0≤n)∧(l.drop i).any act=true∨j=.exit 0∧r=x2∧(l.drop i).any act=false) ∧
   lp' (lim K) t153L0 [.iv (.sl g (TM.one (.int .i64) l)),.fn f [] [.ptr a b 0,.ptr c d 0],x2,x3,.iv (.int .i64 l.length),.iv (.int .i64 (i:Int)),x6,x7] S=.ret (j,[.iv (.sl g (TM.one (.int .i64) l)),.fn f [] [.ptr a b 0,.ptr c d 0],r,y3,.iv (.int .i64 l.length),y5,y6,y7],S)
 | 0,i,x3,x6,x7,h=>by
  obtain rfl:i=l.length:=by omega
  refine⟨.exit 0,x2,?_,?_,?_,?_,.inr ⟨rfl,rfl,by rw[List.drop_length]; rfl⟩,aH K _ _ t153L0.eq_1 ?_⟩
  rotate_left 4
  ·simp (disch:=omega) only[go_sem]
   rfl
 | k+1,i,x3,x6,x7,h=>by
  have hla:i<l.length:=by omega
  have hix:=gZ (f:=IV.int .i64) (t:=g) (l:=l) (i:=(i:Int)) (by omega)
  rw[Int.toNat_natCast]at hix
  have hdr:=bM hla
  have hc:=hf _ (bP hla)
  generalize hx:l.getD i default=x at *
  cases ha:act x with
  | true =>
   rw[ha]at hc
   refine⟨.ret,.iv (.int .i64 (i:Int)),?_,?_,?_,?_,.inl ⟨rfl,⟨_,rfl,by omega⟩,by rw[hdr,List.any_cons,ha,Bool.true_or]⟩,aH K _ _ t153L0.eq_1 ?_⟩
   rotate_left 4
   ·simp (disch:=omega) only[go_sem,hix,hc]
    rfl
  | false =>
   rw[ha]at hc
   obtain⟨j,r,y3,y5,y6,y7,hj,ih⟩:=aO3 f act a b c d g l hl S hf x2 k (i+1) (.iv (.int .i64 (i:Int))) (.iv (.bool true)) (.iv (.bool false)) (by omega)
   rw[show ((i+1:Nat):Int)=(i:Int)+1 by omega]at ih
   refine⟨j,r,y3,y5,y6,y7,?_,aH K _ _ t153L0.eq_1 ?_⟩
   ·rw[hdr,List.any_cons,ha,Bool.false_or]; exact hj
   ·simp (disch:=omega) only[go_sem,hix,hc,aF]
    exact congrArg er ih
theorem aEy (f:Nat)(act:Int→Bool)(a b c d:Nat)(g:Tag)(l:List Int)(hl:l.length≤2000000)(S:aA)(hf:∀x∈l,(lim K).call f [.iv (.int .i64 x),.ptr a b 0,.ptr c d 0] S=.ret (.iv (.bool (act x)),S)) :
  (lim K).call 120 [.iv (.sl g (TM.one (.int .i64) l)),.fn f [] [.ptr a b 0,.ptr c d 0]] S=.ret (.iv (.bool (l.any act)),S):=by
 obtain⟨j,r,y3,y5,y6,y7,hj,ih⟩:=aO3 f act a b c d g l hl S hf (.iv (.int .i64 0)) l.length 0 u_ u_ u_ (by omega)
 rw[show ((0:Nat):Int)=0 from rfl,List.drop_zero]at *
 have h153:∃n:Int,(0≤n↔l.any act=true)∧(lim K).call 153 [.iv (.sl g (TM.one (.int .i64) l)),.fn f [] [.ptr a b 0,.ptr c d 0]] S=.ret (.iv (.int .i64 n),S):=by
  rcases hj with⟨rfl,⟨n,rfl,hn⟩,ha⟩|⟨rfl,rfl,ha⟩
  ·refine⟨n,by simp[hn,ha],aB K _ (fn:=t153) rfl rfl ?_⟩
   simp (disch:=omega) only[t153,go_sem]
   rw[ih]
   simp (disch:=omega) only[go_sem]
  ·refine⟨-1,by simp[ha],aB K _ (fn:=t153) rfl rfl ?_⟩
   simp (disch:=omega) only[t153,go_sem]
   rw[ih]
   simp (disch:=omega) only[go_sem]
 obtain⟨n,hn,h153⟩:=h153
 refine aB K _ (fn:=t120) rfl rfl ?_
 by_cases h0:0≤n
 ·rw[hn.1 h0]
  simp (disch:=omega) only[t120,go_sem,h153]
 ·have:l.any act=false:=by
   cases h:l.any act with
   | true=>exact absurd (hn.2 h) h0
   | false=>rfl
  rw[this]
  simp (disch:=omega) only[t120,go_sem,h153]
abbrev fO (p:Pg):List TV:=[.iv (.int .i64 p.b.k),.iv (.int .i64 p.b.n),.iv (.sl p.b.gv (TM.one (.int .i64) p.b.vs)),.iv (.bool p.b.r),.iv (.sl p.b.g (aQ p.b.ks)),.iv (.int .i64 p.gl),.iv (.int .i64 p.vr),.iv (.sl p.gc (bQ p.cs))]
abbrev ckB (p:Pg) (ib ik ir:Nat):aY:=.cells 58 false (fO p++[.map ib,.map ik,.map ir])
theorem aEz (p:Pg)(ib ik ir ic jb jf:Nat)(v:Int)(S:aA)(hc:S[ic]? = some (ckB p ib ik ir))(hb:S[jb]? = some (.cells 55 false [.ptr ic 58 0]))(hf:S[jf]? = some (.cells 135 false [.fn 119 [] []])) :
  (lim K).call 121 [.iv (.int .i64 v),.ptr jf 135 0,.ptr jb 55 0] S=.ret (.iv (.bool (!decide (0≤v∧v<p.vr))),S):=by
 refine aB K _ (fn:=t121) rfl rfl ?_
 simp (disch:=omega) only[t121,go_sem,hc,hb,hf,yZ]
def nR (e:Ex):Bool :=
 let s:=ofF e.k e.n
 !s.is||decide ((e.ks.length:Int)<s.kids)||(decide (s.kids<e.ks.length)&&!s.more)||(!s.num&&decide (e.n≠0))||(decide (e.k≠7)&&(decide (0<e.vs.length)||e.r))||(e.r&&decide (e.vs.length=0))
def pT (p:Pg)(e:Ex):Bool :=
 if e.k=1 then decide (0≤e.n∧e.n<p.cs.length) else if e.k=2∨e.k=4 then decide (0≤e.n∧e.n<p.vr) else if e.k=3∨e.k=5 then decide (0≤e.n∧e.n<p.gl)
 else e.vs.all fun v=>decide (0≤v∧v<p.vr)
def eM (p:Pg)(e:Ex):Bool:=!nR e&&pT p e
theorem bG (l:List Int)(f:Int→Bool):(!(l.any fun x=>!f x))=l.all f:=by
 induction l with
 | nil=>rfl
 | cons a r ih=>simp only[List.any_cons,List.all_cons,Bool.not_or,Bool.not_not,ih]
theorem fV (S:aA)(b b':aY):(S++[b]).set S.length b'=S++[b']:=by simp
def aKw (p:Pg)(ib ik ir ic:Nat)(e:Ex)(S:aA)(b:Bool):Prop:=∃S',(lim K).call 87 [.ptr ic 58 0,.iv (.agg (aW e))] S=.ret (.iv (.bool b),S')∧bW [] S S'
theorem kX {ks:List Ex}(h:ks.length=1):∃x,ks=[x]:=by
 cases ks with
 | nil=>simp at h
 | cons a r=>cases r with
  | nil=>exact⟨a,rfl⟩
  | cons b r=>simp at h
theorem oQ (ij:Nat)(l:List Int):(l=[]∧acc ij (aP l)=.iv (.sl .nil []))∨(l≠[]∧acc ij (aP l)=.tsl ij (TM.one (.int .i64) l)):=by
 by_cases h:l=[]
 ·subst h; exact .inl ⟨rfl,rfl⟩
 ·exact .inr ⟨h,gN _ (by simpa[eB] using h)⟩
theorem mG {α:Type}{l:List α}(h:l≠[]):eP l=.no:=by cases l with|nil=>exact absurd rfl h|cons a r=>rfl
theorem aRe {σ:Cv}{l:List Int}(h:(cX σ l).1=[]):(cX σ l).2.1=[]:=by
 cases l with
 | nil=>rfl
 | cons a r=>simp[cX]at h
theorem aO4 {w b el:Nat}{S:aA}{c:List IV}{j:Nat}{ys:List (List IV)}(hc:c.length=w∧c.all iR=true)(hw:fD w ys)(h0:ys≠[])(hr:gR (1+ys.length) b=true) :
  cI false w b el S (.iv (.sl .full [c])) (.tsl j ys)=some (.tsl S.length (c::ys),S++[.tok (1+ys.length) w el]) :=
 wV (by decide) (oA.tsl ..) hw (by intro y hy; simp at hy; subst hy; exact hc) h0 hr
theorem bHi {N:Nat}(ihN:bCd N)(e:Ex)(hk:e.k=7)(hf:Fm e)(hw:e.w≤N+1)(hN:N+1≤1048576)(S:aA)(ic im:Nat)(σ:Cv)(hc:CM S ic im σ)(hx:-1≤σ.nx∧σ.nx≤4611686017427387904-e.w) :
  ∃r S',(lim K).call 98 [.ptr ic 80 0,.iv (.agg (aW e))] S=.ret (r,S')∧r=.iv (.agg (aW (cvE σ e).1))∧CM S' ic im (cvE σ e).2∧bW [ic,im] S S':=by
 have hwe:=Ex.w_eq e
 obtain⟨x,hks⟩:=kX (((tW e).1 hf).1 (.inl hk))
 have hxw:=Ex.kid_lt (d:=e) (x:=x) (by rw[hks]; simp)
 have hxf:Fm x:=((tW e).1 hf).2 x (by rw[hks]; simp)
 have hws:Ex.ws e.ks=x.w:=by rw[hks,Ex.ws,Ex.ws]; rfl
 have hix:=ixE (g:=e.g) (ks:=e.ks) (i:=0) (by rw[hks]; simp)
 rw[show e.ks.getD (0:Int).toNat default=x by rw[hks]; rfl]at hix
 have k1:=bW.app [] S [aY.cells 77 false [.ptr ic 80 0]]
 have k2:=k1.trans (bW.app [] _ [aY.cells 23 false [.iv (.sl .nil [])]])
 have g2:=eQ S (.cells 77 false [.ptr ic 80 0]) (.cells 23 false [.iv (.sl .nil [])])
 have g5:=dG (S++[aY.cells 77 false [.ptr ic 80 0]]) (.cells 23 false [.iv (.sl .nil [])])
 have hc2:=hc.keep k2
 have hl5:S.length<(S++[aY.cells 77 false [TV.ptr ic 80 0]]).length:=by simp
 obtain⟨ij,io,S3,c132,hc3,ho3,hk3⟩:=bCa e.gv e.vs ic im S.length (S++[aY.cells 77 false [.ptr ic 80 0]]).length (by omega) _ σ hc2 g2 g5 (by omega)
 obtain⟨lm2,cm2,hm2,_⟩:=hc2.map
 have n1:=cW g2 hc2.at' (by simp)
 have n2:=cW g2 hm2 (by simp)
 have n3:=cW g2 g5 (by simp)
 have g23:=hk3.get _ _ (by simp[n1,n2,n3]) g2
 have hnx:=rH e.vs σ
 have gz3:=dG S3 (.cells 26 false [.iv (.int .i64 0),.iv (.int .i64 0),.iv (.sl .nil []),.iv (.bool false),.iv (.sl .nil [])])
 obtain⟨r,S4,c66,hxv,hc4,hk4⟩:=ihN x (S3++[.cells 26 false [.iv (.int .i64 0),.iv (.int .i64 0),.iv (.sl .nil []),.iv (.bool false),.iv (.sl .nil [])]]) ic im (cX σ e.vs).2.2 (by omega) hxf (hc3.keep (bW.app _ _ _)) (by omega)
 have hcv:fA (cX σ e.vs).2.2 e.ks=([(cvE (cX σ e.vs).2.2 x).1],(cvE (cX σ e.vs).2.2 x).2):=by rw[hks,dO,dS]
 rw[mU,if_pos hk,hcv]
 simp only[List.headD_cons]
 have hvl:(cX σ e.vs).2.1.length≤1048576:=by
  have key:∀(l:List Int) (σ:Cv),(cX σ l).2.1.length≤l.length:=by
   intro l
   induction l with
   | nil=>intro σ; simp[cX]
   | cons a r ih=>intro σ; have:=ih (gC σ a).2.2; have:=aC6 σ a; simp[cX]; omega
  have:=key e.vs σ; omega
 have hno:=@aRe σ e.vs
 generalize hb:cvE (cX σ e.vs).2.2 x=b at *
 obtain⟨b,σ2⟩:=b
 simp only at hxv hc4 ⊢
 generalize hv:cX σ e.vs=v at *
 obtain⟨vs',own,σ1⟩:=v
 simp only at c132 hc3 ho3 hnx c66 hvl hno hb ⊢
 obtain⟨lm3,cm3,hm3,_⟩:=hc3.map
 have hc3':=hc3.keep (bW.app [] _ [aY.cells 26 false [.iv (.int .i64 0),.iv (.int .i64 0),.iv (.sl .nil []),.iv (.bool false),.iv (.sl .nil [])]])
 obtain⟨lm3',cm3',hm3',_⟩:=hc3'.map
 have gz4:=hk4.get _ _ (by simp only[List.mem_cons,List.not_mem_nil,or_false,not_or]; exact⟨cW gz3 hc3'.at' (by simp),cW gz3 hm3' (by simp)⟩) gz3
 have g24:=hk4.get _ _ (by simp only[List.mem_cons,List.not_mem_nil,or_false,not_or]; exact⟨cW g23 hc3.at' (by simp),cW g23 hm3 (by simp)⟩) (kB g23 _)
 have nb1:=cW ho3.box hc3.at' (by simp)
 have nb2:=cW ho3.box hm3 (by simp)
 have gb4:=hk4.get _ _ (by simp only[List.mem_cons,List.not_mem_nil,or_false,not_or]; exact⟨nb1,nb2⟩) (kB ho3.box _)
 have n13:S.length<S3.length:=dM g23
 have nb3:=dM ho3.box
 generalize hi5:(S++[aY.cells 77 false [TV.ptr ic 80 0]]).length=i5 at *
 have kk3:bW [ic,im] S S3:=by
  refine dQ (k2.mono (by simp)) hk3 fun j hj=>?_
  simp only[List.mem_cons,List.not_mem_nil,or_false]at hj
  rcases hj with h|h|h
  ·simp[h]
  ·simp[h]
  ·right; omega
 have kk:bW [ic,im] S S4:=(kk3.trans (bW.app _ _ _)).trans hk4
 have lz4:=dM gz4
 have q1:=dM hc3.at'
 have q2:=dM hm3
 have kz:bW [S3.length] S4 (S4.set S3.length (.cells 26 false (cellsOf r))):=bW.set _ (by simp) _
 have hc5:CM (S4.set S3.length (.cells 26 false (cellsOf r))) ic im σ2:=hc4.keepI kz (by simp; omega) (by simp; omega)
 have g25:(S4.set S3.length (.cells 26 false (cellsOf r)))[S.length]? = some (.cells 77 false [.ptr ic 80 0]):=kz.get _ _ (by simp; omega) g24
 have gb5:(S4.set S3.length (.cells 26 false (cellsOf r)))[i5]? = some (.cells 23 false [acc io (aP own)]):=kz.get _ _ (by simp; omega) gb4
 have gz5:(S4.set S3.length (.cells 26 false (cellsOf r)))[S3.length]? = some (.cells 26 false (cellsOf r)):=fM lz4 _
 have kk5:bW [ic,im] S (S4.set S3.length (.cells 26 false (cellsOf r))):=dQ kk kz (fun j hj=>by simp at hj; subst hj; exact .inr (by omega))
 by_cases hown:own=[]
 ·subst hown
  rw[pO,if_pos rfl]
  rw[show acc io (aP [])=.iv (.sl .nil []) from rfl]at gb5
  refine⟨.iv (.agg [.int .i64 7,.int .i64 0,.sl (eP vs') (TM.one (.int .i64) vs'),.bool e.r,.sl .full [[.int .i64 b.k,.int .i64 b.n,.sl b.gv (TM.one (.int .i64) b.vs),.bool b.r,.sl b.g (aQ b.ks)]]]),S4.set S3.length (.cells 26 false (cellsOf r)),aB K _ (fn:=t98) rfl rfl ?_,(by rw[aW,aQ,aQ,aJ b]),hc5,kk5⟩
  rw[aJ x]at c66
  rw[aJ]
  rcases hxv with rfl|⟨i1,hg,rfl⟩
  ·rw[aJ b]at c66 gb5 gz5 ⊢
   simp (config := { maxSteps := 4000000 }) (disch:=omega) only[cellsOf,List.map_cons,List.map_nil]at gb5 gz5 ⊢
   rcases oQ ij vs' with⟨hv0,ha⟩|⟨hv0,ha⟩
   ·subst hv0
    rw[ha]at c132
    simp (config := { maxSteps := 4000000 }) (disch:=omega) only[t98,go_sem,hi5,c132,g23,hix,fG,c66,gz4,gb5,gz5]
    rfl
   ·rw[ha]at c132
    rw[mG hv0]
    simp (config := { maxSteps := 4000000 }) (disch:=omega) only[t98,go_sem,hi5,c132,g23,hix,fG,c66,gz4,gb5,gz5]
  ·rw[hg]
   simp (config := { maxSteps := 4000000 }) (disch:=omega) only[cellsOf,List.map_cons,List.map_nil]at gb5 gz5 ⊢
   rcases oQ ij vs' with⟨hv0,ha⟩|⟨hv0,ha⟩
   ·subst hv0
    rw[ha]at c132
    simp (config := { maxSteps := 4000000 }) (disch:=omega) only[t98,go_sem,hi5,c132,g23,hix,fG,c66,gz4,gb5,gz5]
    rfl
   ·rw[ha]at c132
    rw[mG hv0]
    simp (config := { maxSteps := 4000000 }) (disch:=omega) only[t98,go_sem,hi5,c132,g23,hix,fG,c66,gz4,gb5,gz5]
 ·have hv0:vs'≠[]:=fun h=>hown (hno h)
  rcases oQ ij vs' with⟨h,_⟩|⟨_,ha⟩
  ·exact absurd h hv0
  rcases oQ io own with⟨h,_⟩|⟨_,hao⟩
  ·exact absurd h hown
  rw[hao]at gb5
  rw[pO,if_neg hown]
  obtain⟨j7,S6,c134,hk6⟩:=bCc own hown ic im S.length io (by omega) _ σ2 hc5 g25
  have gb6:=hk6.get _ _ (by simp) gb5
  have gz6:=hk6.get _ _ (by simp) gz5
  generalize hbs:(own.map fun v=>gQ ((σ2.f v).getD 0))=bs at *
  have hbl:bs.length=own.length:=by rw[←hbs,List.length_map]
  have e1:=aO4 (w:=5) (b:=72) (el:=25) (S:=S6) (j:=j7) (c:=[.int .i64 7,.int .i64 0,.sl .no (TM.one (.int .i64) own),.bool false,.sl .full [[.int .i64 b.k,.int .i64 b.n,.sl b.gv (TM.one (.int .i64) b.vs),.bool b.r,.sl b.g (aQ b.ks)]]]) ⟨rfl,rfl⟩ (oC bs) (fun h=>hown (by have:=kK.1 h; rw[this]at hbl; exact List.eq_nil_of_length_eq_zero hbl.symm)) (cM (by rw[aD]; omega))
  have hl4:S3.length<S6.length:=dM gz6
  have gz7:(S6++[aY.tok (1+(aQ bs).length) 5 25])[S3.length]? = some (.cells 26 false (cellsOf r)):=kB gz6 _
  have gz8:∀b8,((S6++[aY.tok (1+(aQ bs).length) 5 25]).set S3.length b8)[S3.length]? = some b8:=fun b8=>fM (by simp; omega) _
  have kk8:∀b8,bW [ic,im] S ((S6++[aY.tok (1+(aQ bs).length) 5 25]).set S3.length b8):=fun b8 =>
   dQ ((kk5.trans (hk6.mono (by simp))).trans (bW.app _ _ _)) (bW.set (I:=[S3.length]) _ (by simp) b8) (fun j hj=>by simp at hj; subst hj; exact .inr (by omega))
  have hc8:∀b8,CM ((S6++[aY.tok (1+(aQ bs).length) 5 25]).set S3.length b8) ic im σ2:=fun b8=>by
   have h1:=(hc5.keep hk6).keep (bW.app _ _ [aY.tok (1+(aQ bs).length) 5 25])
   obtain⟨lm4,cm4,hm4,_⟩:=hc4.map
   exact h1.keepI (bW.set (I:=[S3.length]) _ (by simp) b8) (by simp; omega) (by simp; omega)
  generalize hb8:aY.cells 26 false [TV.iv (.int .i64 8),.iv (.int .i64 0),.iv (.sl .nil []),.iv (.bool false),.iv (.sl .no ([.int .i64 7,.int .i64 0,.sl .no (TM.one (.int .i64) own),.bool false,.sl .full [[.int .i64 b.k,.int .i64 b.n,.sl b.gv (TM.one (.int .i64) b.vs),.bool b.r,.sl b.g (aQ b.ks)]]]::aQ bs))]=b8
  have hol:0<own.length:=List.length_pos_iff.2 hown
  refine⟨.iv (.agg [.int .i64 7,.int .i64 0,.sl .no (TM.one (.int .i64) vs'),.bool e.r,.sl .full [[.int .i64 8,.int .i64 0,.sl .nil [],.bool false,.sl .no ([.int .i64 7,.int .i64 0,.sl .no (TM.one (.int .i64) own),.bool false,.sl .full [[.int .i64 b.k,.int .i64 b.n,.sl b.gv (TM.one (.int .i64) b.vs),.bool b.r,.sl b.g (aQ b.ks)]]]::aQ bs)]]]),(S6++[aY.tok (1+(aQ bs).length) 5 25]).set S3.length b8,aB K _ (fn:=t98) rfl rfl ?_,(by rw[aW,mG hv0,aQ,aQ,aW,aQ,aW,aQ,aQ,aJ b]; rfl),hc8 _,kk8 _⟩
  rw[ha]at c132
  rw[aJ x]at c66
  rw[aJ]
  have gz9:=gz8 b8
  rw[←hb8]at gz9 ⊢
  rcases hxv with rfl|⟨i1,hg,rfl⟩
  ·rw[aJ b]at c66 gb5 gz5 c134 gz6 gz7
   simp (config := { maxSteps := 4000000 }) (disch:=omega) only[cellsOf,List.map_cons,List.map_nil]at gb5 gz5 c134 gz6 gz7
   simp (config := { maxSteps := 4000000 }) (disch:=omega) only[t98,go_sem,hi5,c132,g23,hix,fG,c66,gz4,gb5,gz5,c134,gb6,gz6,e1,gz7,gz9]
  ·simp (config := { maxSteps := 4000000 }) (disch:=omega) only[cellsOf,List.map_cons,List.map_nil]at gb5 gz5 c134 gz6 gz7
   rw[hg]at e1 gz9 ⊢
   simp (config := { maxSteps := 4000000 }) (disch:=omega) only[t98,go_sem,hi5,c132,g23,hix,fG,c66,gz4,gb5,gz5,c134,gb6,gz6,e1,gz7,gz9]
theorem sX (ij:Nat)(l:List Ex):(l=[]∧acc ij (aQ l)=.iv (.sl .nil []))∨(l≠[]∧acc ij (aQ l)=.tsl ij (aQ l)):=by
 by_cases h:l=[]
 ·subst h; exact .inl ⟨rfl,by rw[aQ]; rfl⟩
 ·exact .inr ⟨h,gN _ (by simpa[kK] using h)⟩
theorem aE0:∀N,N≤1048576→bCd N
 | 0,hN=>fun e S ic im σ hw hf hc hx=>by have:=Ex.w_eq e; omega
 | N+1,hN=>fun e S ic im σ hw hf hc hx=>by
  have hwe:=Ex.w_eq e
  by_cases h7:e.k=7
  ·obtain⟨r,S',c98,hxv,hc',hk⟩:=bHi (aE0 N (by omega)) e h7 hf hw hN S ic im σ hc hx
   refine⟨r,S',aB K _ (fn:=t66) rfl rfl ?_,.inl hxv,hc',hk⟩
   obtain rfl:=hxv
   rw[aJ e]at c98 ⊢
   rw[h7]at c98
   rw[aJ (cvE σ e).1]at c98 ⊢
   simp (config := { maxSteps := 4000000 }) (disch:=omega) only[t66,go_sem,h7,c98]
  by_cases h4:e.k=4
  ·obtain⟨x,hks⟩:=kX (((tW e).1 hf).1 (.inr h4))
   have hxw:=Ex.kid_lt (d:=e) (x:=x) (by rw[hks]; simp)
   have hxf:Fm x:=((tW e).1 hf).2 x (by rw[hks]; simp)
   have hix:=ixE (g:=e.g) (ks:=e.ks) (i:=0) (by rw[hks]; simp)
   rw[show e.ks.getD (0:Int).toNat default=x by rw[hks]; rfl]at hix
   obtain⟨r,S',c66,hxv,hc',hk⟩:=aE0 N (by omega) x S ic im σ (by omega) hxf hc (by omega)
   have hcv:fA σ e.ks=([(cvE σ x).1],(cvE σ x).2):=by rw[hks,dO,dS]
   rw[mU,if_neg h7,if_neg (by omega),if_pos h4,hcv]
   simp only[List.headD_cons]
   generalize hb:cvE σ x=b at *
   obtain⟨b,σ1⟩:=b
   simp only at hxv hc' ⊢
   have c100:=aOe e.n
   rw[aW,aQ,TM.one]at c100
   refine⟨.iv (.agg [.int .i64 14,.int .i64 0,.sl .nil [],.bool false,.sl .full [[.int .i64 2,.int .i64 e.n,.sl .nil [],.bool false,.sl .nil []],[.int .i64 b.k,.int .i64 b.n,.sl b.gv (TM.one (.int .i64) b.vs),.bool b.r,.sl b.g (aQ b.ks)]]]),S',aB K _ (fn:=t66) rfl rfl ?_,(.inl (by unfold loX; rw[aW,aQ,aQ,aQ,aW,aJ b,aQ]; rfl)),hc',hk⟩
   rw[aJ x]at c66
   rw[aJ]
   rcases hxv with rfl|⟨i1,hg,rfl⟩
   ·rw[aJ b]at c66
    simp (config := { maxSteps := 4000000 }) (disch:=omega) only[t66,go_sem,h4,aC c100,hix,fG,c66,List.map_nil]
   ·simp (config := { maxSteps := 4000000 }) (disch:=omega) only[t66,go_sem,h4,aC c100,hix,fG,c66,hg,List.map_nil]
  by_cases h2:e.k=2∧(σ.f e.n).isSome=true
  ·rw[mU,if_neg h7,if_pos h2]
   have c99:=aKp hc e.n
   rw[h2.2]at c99
   refine⟨.iv (.agg [.int .i64 13,.int .i64 0,.sl .nil [],.bool false,.sl .full [[.int .i64 e.k,.int .i64 e.n,.sl e.gv (TM.one (.int .i64) e.vs),.bool e.r,.sl e.g (aQ e.ks)]]]),S,aB K _ (fn:=t66) rfl rfl ?_,(.inl (by rw[aW,aQ,aQ,aJ e]; rfl)),hc,.refl _ _⟩
   rw[aJ]
   simp (config := { maxSteps := 4000000 }) (disch:=omega) only[t66,go_sem,h2.1,c99]
  ·obtain⟨ij,S',c101,hc',hk⟩:=bCe (aE0 N (by omega)) e hf hw hN ic im S σ hc (by omega)
   rw[mU,if_neg h7,if_neg h2,if_neg h4]
   have c99:∀(h:e.k=2),(lim K).call 99 [.ptr ic 80 0,.iv (.int .i64 e.n)] S=.ret (.iv (.bool false),S):=fun h=>by
    have:=aKp hc e.n
    cases hs:(σ.f e.n).isSome with
    | true=>exact absurd ⟨h,hs⟩ h2
    | false=>rw[hs]at this; exact this
   rcases sX ij (fA σ e.ks).1 with⟨h0,ha⟩|⟨h0,ha⟩
   ·rw[ha]at c101
    refine⟨.iv (.agg [.int .i64 e.k,.int .i64 e.n,.sl e.gv (TM.one (.int .i64) e.vs),.bool e.r,.sl .nil []]),S',aB K _ (fn:=t66) rfl rfl ?_,.inl (by rw[aW,h0,aQ]; rfl),hc',hk⟩
    rw[aJ]
    by_cases hk2:e.k=2
    ·simp (config := { maxSteps := 4000000 }) (disch:=omega) only[t66,go_sem,hk2,c99 hk2,c101]
    ·simp (config := { maxSteps := 4000000 }) (disch:=omega) only[t66,go_sem,hk2,h7,h4,c101]
   ·rw[ha]at c101
    refine⟨.agg [.iv (.int .i64 e.k),.iv (.int .i64 e.n),.iv (.sl e.gv (TM.one (.int .i64) e.vs)),.iv (.bool e.r),.tsl ij (aQ (fA σ e.ks).1)],S',aB K _ (fn:=t66) rfl rfl ?_,.inr ⟨ij,mG h0,rfl⟩,hc',hk⟩
    rw[aJ]
    by_cases hk2:e.k=2
    ·simp (config := { maxSteps := 4000000 }) (disch:=omega) only[t66,go_sem,hk2,c99 hk2,c101]
    ·simp (config := { maxSteps := 4000000 }) (disch:=omega) only[t66,go_sem,hk2,h7,h4,c101]
theorem aO5:∀(l:List Int) (n s:Int),0≤s→poF l n s = -1∨s≤poF l n s∧poF l n s<s+l.length
 | [],n,s,h=>.inl rfl
 | a::r,n,s,h=>by
  rw[poF]
  split
  ·right; simp; omega
  ·rcases aO5 r n (s+1) (by omega) with h1|h1
   ·exact .inl h1
   ·right; simp; omega
theorem At.other {w el w' el' i i':Nat}{l l':List (List IV)}{S:aA}(h':At w' el' l' i' S)(hd:l'≠[]→l≠[]→i'≠i):At w' el' l' i' (gS w el l i S)∧(l'≠[]→i'≠gI l i S):=by
 refine⟨h'.keep (kW w el l i S) fun hl=>?_,fun hl=>?_⟩
 ·unfold dF
  split
  ·simp
  ·rename_i h0; simpa using hd hl h0
 ·unfold gI
  split
  ·have:=dM (h' hl); omega
  ·rename_i h0; exact hd hl h0
def rvV (o:List Int)(f:Int)(v:Int):Int:=if poF o v 0<0 then v else f+poF o v 0
def rwn (o:List Int)(l:List Int):List Int:=l.filter fun v=>decide (0≤poF o v 0)
def rbx (o:List Int)(f:Int)(l:List Int):List Ex:=(rwn o l).map fun v=>gQ (f+poF o v 0)
theorem aE1 (to:Tag)(o:List Int)(ho:o.length≤1048576)(f:Int)(hf:-1≤f∧f≤4611686018427387904)(e:Ex)(hw:e.w≤1048576)(x0 x4 x5 x6 x7 c0 c1 c3 c4 x13 x14 x15 x16 x17 x18 x21:TV):∀(k i:Nat) (vars own:List Int) (bx:List Ex) (jv jo jb:Nat) (x12 x19 x20:TV) (S:aA),i+k=e.vs.length →
  At 1 3 (aP vars) jv S→At 1 3 (aP own) jo S→At 5 25 (aQ bx) jb S→(aP own≠[]→aP vars≠[]→jo≠jv)→vars.length≤i→own.length≤i→bx.length≤i →
  ∃jv' jo' jb' y12 y19 y20 S',lp' (lim K) t72L0 [x0,.iv (.sl to (TM.one (.int .i64) o)),.iv (.int .i64 f),lbE e,x4,x5,x6,x7,.lb [c0,c1,acc jv (aP vars),c3,c4],acc jo (aP own),acc jb (aQ bx),.iv (.int .i64 (i:Int)),x12,x13,x14,x15,x16,x17,x18,x19,x20,x21] S
   = .ret (.exit 2,[x0,.iv (.sl to (TM.one (.int .i64) o)),.iv (.int .i64 f),lbE e,x4,x5,x6,x7,.lb [c0,c1,acc jv' (aP (vars++(e.vs.drop i).map (rvV o f))),c3,c4],acc jo' (aP (own++rwn o (e.vs.drop i))),acc jb' (aQ (bx++rbx o f (e.vs.drop i))),.iv (.int .i64 e.vs.length),y12,x13,x14,x15,x16,x17,x18,y19,y20,x21],S')
 | 0,i,vars,own,bx,jv,jo,jb,x12,x19,x20,S,h,hv,hown,hb,hd,b1,b2,b3=>by
  obtain rfl:i=e.vs.length:=by omega
  refine⟨jv,jo,jb,x12,.iv (.bool false),x20,S,aH K _ _ t72L0.eq_1 ?_⟩
  rw[List.drop_length,rbx,rwn,List.filter_nil,List.map_nil,List.map_nil,List.append_nil,List.append_nil,List.append_nil]
  simp (config := { maxSteps := 4000000 }) (disch:=omega) only[go_sem]
 | k+1,i,vars,own,bx,jv,jo,jb,x12,x19,x20,S,h,hv,hown,hb,hd,b1,b2,b3=>by
  have hwe:=Ex.w_eq e
  have hla:i<e.vs.length:=by omega
  have hix:=gZ (f:=IV.int .i64) (t:=e.gv) (l:=e.vs) (i:=(i:Int)) (by omega)
  rw[Int.toNat_natCast]at hix
  have hdr:=bM hla
  generalize hx:e.vs.getD i default=x at *
  have c106:=aOk to o x (by omega) []
  have hr:=aO5 o x 0 (by omega)
  generalize hp:poF o x 0=p at *
  by_cases hn:p<0
  ·have e1:=yJ (b:=8) (c:=[.int .i64 x]) (t:=.full) hv ⟨rfl,rfl⟩ (jD vars) (cM (by rw[eC]; omega))
   have gt:=pH hv [.int .i64 x]
   have o1:=At.other (w:=1) (el:=3) (l:=aP vars) (i:=jv) hown hd
   have o2:=At.other (w:=1) (el:=3) (l:=aP vars) (i:=jv) hb (fun h1 h2=>cW (hb h1) (hv h2) (by simp))
   rw[hU]at e1 gt
   obtain⟨jv',jo',jb',y12,y19,y20,S',ih⟩:=aE1 to o ho f hf e hw x0 x4 x5 x6 x7 c0 c1 c3 c4 x13 x14 x15 x16 x17 x18 x21 k (i+1) (vars++[x]) own bx _ jo jb (.iv (.int .i64 p)) (.iv (.bool true)) (.iv (.bool true)) _ (by omega) gt o1.1 o2.1 (fun h1 h2=>o1.2 h1) (by simp; omega) (by omega) (by omega)
   rw[show ((i+1:Nat):Int)=(i:Int)+1 by omega]at ih
   refine⟨jv',jo',jb',y12,y19,y20,S',aH K _ _ t72L0.eq_1 ?_⟩
   rw[hdr,rbx,rwn,List.filter_cons,if_neg (by simp[hp]; omega),List.map_cons,show rvV o f x=x by rw[rvV,hp,if_pos hn]]
   rw[List.append_assoc,List.singleton_append,rbx,rwn]at ih
   simp (config := { maxSteps := 4000000 }) (disch:=omega) only[go_sem,hix,c106,hn,e1,aF]
   exact congrArg er ih
  ·have c107:=aOl (f+p) []
   have e1:=yJ (b:=8) (c:=[.int .i64 (f+p)]) (t:=.full) hv ⟨rfl,rfl⟩ (jD vars) (cM (by rw[eC]; omega))
   have gt:=pH hv [.int .i64 (f+p)]
   have o1:=At.other (w:=1) (el:=3) (l:=aP vars) (i:=jv) hown hd
   have o2:=At.other (w:=1) (el:=3) (l:=aP vars) (i:=jv) hb (fun h1 h2=>cW (hb h1) (hv h2) (by simp))
   have e2:=yJ (b:=8) (c:=[.int .i64 x]) (t:=.full) o1.1 ⟨rfl,rfl⟩ (jD own) (cM (by rw[eC]; omega))
   have gt2:=pH o1.1 [.int .i64 x]
   have p1:=At.other (w:=1) (el:=3) (l:=aP own) (i:=jo) gt (fun _ h2=>(Ne.symm (o1.2 h2)))
   have p2:=At.other (w:=1) (el:=3) (l:=aP own) (i:=jo) o2.1 (fun h1 h2=>cW (o2.1 h1) (o1.1 h2) (by simp))
   have e3:=yJ (b:=72) (c:=aW (gQ (f+p))) (t:=.full) p2.1 (mO _) (oC bx) (cM (by rw[aD]; omega))
   have gt3:=pH p2.1 (aW (gQ (f+p)))
   have q1:=At.other (w:=5) (el:=25) (l:=aQ bx) (i:=jb) p1.1 (fun h1 h2=>cW (p1.1 h1) (p2.1 h2) (by simp))
   have q2:=At.other (w:=5) (el:=25) (l:=aQ bx) (i:=jb) gt2 (fun h1 h2=>cW (gt2 h1) (p2.1 h2) (by simp))
   rw[hU]at e1 gt e2 gt2 p1 q1 q2
   rw[rI]at gt3 e3
   obtain⟨jv',jo',jb',y12,y19,y20,S',ih⟩:=aE1 to o ho f hf e hw x0 x4 x5 x6 x7 c0 c1 c3 c4 x13 x14 x15 x16 x17 x18 x21 k (i+1) (vars++[f+p]) (own++[x]) (bx++[gQ (f+p)]) _ _ _ (.iv (.int .i64 p)) (.iv (.bool true)) (.iv (.bool false)) _ (by omega) q1.1 q2.1 gt3 (fun h1 h2=>(p1.2 h2).symm) (by simp; omega) (by simp; omega) (by simp; omega)
   rw[show ((i+1:Nat):Int)=(i:Int)+1 by omega]at ih
   refine⟨jv',jo',jb',y12,y19,y20,S',aH K _ _ t72L0.eq_1 ?_⟩
   rw[hdr,rbx,rwn,List.filter_cons,if_pos (by simp[hp]; omega),List.map_cons,List.map_cons,show rvV o f x=f+p by rw[rvV,hp,if_neg hn],hp]
   simp only[List.append_assoc,List.singleton_append,rbx,rwn]at ih
   have hbX:aW (gQ (f+p))=[.int .i64 12,.int .i64 0,.sl .nil [],.bool false,.sl .full [[.int .i64 2,.int .i64 (f+p),.sl .nil [],.bool false,.sl .nil []]]]:=by unfold gQ loX; rw[aW,aQ,aQ,aW,aQ]; rfl
   rw[hbX]at e3
   simp (config := { maxSteps := 4000000 }) (disch:=omega) only[go_sem,hix,c106,c107,hn,e1,e2,e3,aF]
   exact congrArg er ih
theorem aRf:TM.one (IV.int .i64) []=[]:=rfl
def aV8 (o:List Int)(f:Int)(vs:List Int)(b:List Ex):List Ex:=if rwn o vs=[] then b else [.mk 8 0 .nil [] false .no (.mk 7 0 .no (rwn o vs) false (eP b) b::rbx o f vs)]
mutual
def rfE (o:List Int)(f:Int):Ex→Ex
 | .mk k n gv vs r g ks =>
  if k=2∧0≤poF o n 0 then .mk 13 0 .nil [] false .full [loX n]
  else if k=4 then .mk 14 0 .nil [] false .full [loX n,(iJ o f ks).headD default]
  else if k=7 then .mk k n (eP vs) (vs.map (rvV o f)) r (if rwn o vs=[] then eP (iJ o f ks) else .full) (aV8 o f vs (iJ o f ks))
  else .mk k n .nil [] r (eP (iJ o f ks)) (iJ o f ks)
def iJ (o:List Int)(f:Int):List Ex→List Ex
 | []=>[]
 | e::es=>rfE o f e::iJ o f es
end
theorem aKx (o:List Int)(f:Int)(e:Ex):rfE o f e=if e.k=2∧0≤poF o e.n 0 then .mk 13 0 .nil [] false .full [loX e.n]
  else if e.k=4 then .mk 14 0 .nil [] false .full [loX e.n,(iJ o f e.ks).headD default]
  else if e.k=7 then .mk e.k e.n (eP e.vs) (e.vs.map (rvV o f)) e.r (if rwn o e.vs=[] then eP (iJ o f e.ks) else .full) (aV8 o f e.vs (iJ o f e.ks))
  else .mk e.k e.n .nil [] e.r (eP (iJ o f e.ks)) (iJ o f e.ks):=by
 cases e; rw[rfE]; rfl
def bJ9 (to:Tag)(o:List Int)(f:Int)(N:Nat):Prop:=∀(e:Ex),e.w≤N→Fm e→TM.Pure K 72 [.iv (.agg (aW e)),.iv (.sl to (TM.one (.int .i64) o)),.iv (.int .i64 f)] (.iv (.agg (aW (rfE o f e))))
theorem aO6 {to:Tag}{o:List Int}{f:Int}{N:Nat}(ih:bJ9 to o f N)(e:Ex)(hfm:Fm e)(hw:e.w≤N+1)(hN:N+1≤1048576)(x0 x4 x8 x9 x10 x11 x12 x13 x14 x16 x17 x18 x19 x20 x21:TV):∀(k i:Nat) (outs:List Ex) (x7 x15:TV),i+k=e.ks.length→outs.length≤i →
  ∃y7 y15,lp' (lim K) t72L1 [x0,.iv (.sl to (TM.one (.int .i64) o)),.iv (.int .i64 f),lbE e,x4,acc 0 (aQ outs),.iv (.int .i64 (i:Int)),x7,x8,x9,x10,x11,x12,x13,x14,x15,x16,x17,x18,x19,x20,x21] (jK 5 25 (aQ outs))
   = .ret (.exit 0,[x0,.iv (.sl to (TM.one (.int .i64) o)),.iv (.int .i64 f),lbE e,x4,acc 0 (aQ (outs++iJ o f (e.ks.drop i))),.iv (.int .i64 e.ks.length),y7,x8,x9,x10,x11,x12,x13,x14,y15,x16,x17,x18,x19,x20,x21],jK 5 25 (aQ (outs++iJ o f (e.ks.drop i))))
 | 0,i,outs,x7,x15,h,b1=>by
  obtain rfl:i=e.ks.length:=by omega
  refine⟨x7,.iv (.bool false),aH K _ _ t72L1.eq_1 ?_⟩
  rw[List.drop_length,iJ,List.append_nil]
  simp (config := { maxSteps := 4000000 }) (disch:=omega) only[go_sem,aD]
 | k+1,i,outs,x7,x15,h,b1=>by
  have hla:i<e.ks.length:=by omega
  have hwe:=Ex.w_eq e
  have hwl:=Ex.ws_len e.ks
  have hix:=ixE (g:=e.g) (ks:=e.ks) (i:=(i:Int)) (by omega)
  rw[Int.toNat_natCast]at hix
  have hdr:=bM hla
  have hkw:=Ex.kid_lt (d:=e) (bP hla)
  have hkf:Fm (e.ks.getD i default):=((tW e).1 hfm).2 _ (bP hla)
  generalize hxx:e.ks.getD i default=x at *
  have hc:=ih x (by omega) hkf
  generalize hb:rfE o f x=b at *
  have e1:=aN7 (w:=5) (b:=72) (el:=25) (l:=aQ outs) (ys:=[aW b]) (x:=.iv (.sl .full [aW b])) (fun S=>oA.sl S _ _) (by intro y hy; simp at hy; subst hy; exact mO b) (oC outs) (cM (by rw[aD]; simp; omega))
  rw[rI]at e1
  obtain⟨y7,y15,ih2⟩:=aO6 ih e hfm hw hN x0 x4 x8 x9 x10 x11 x12 x13 x14 x16 x17 x18 x19 x20 x21 k (i+1) (outs++[b]) (lbE b) (.iv (.bool true)) (by omega) (by simp; omega)
  rw[show ((i+1:Nat):Int)=(i:Int)+1 by omega,List.append_assoc,List.singleton_append]at ih2
  refine⟨y7,y15,aH K _ _ t72L1.eq_1 ?_⟩
  rw[hdr,iJ,hb]
  rw[aJ x,aJ b]at hc
  rw[aJ b]at e1
  unfold lbE at ih2 ⊢
  simp (config := { maxSteps := 4000000 }) (disch:=omega) only[go_sem,aD,hix,fG,aC hc,e1,aF]
  exact congrArg er ih2
theorem zU (ij:Nat)(l:List Int):(l=[]∧acc ij (aP l)=.iv (.sl .nil []))∨(l≠[]∧acc ij (aP l)=.tsl ij (aP l)):=by
 by_cases h:l=[]
 ·subst h; exact .inl ⟨rfl,rfl⟩
 ·exact .inr ⟨h,gN _ (by simpa[eB] using h)⟩
theorem aV9 (to:Tag)(o:List Int)(ho:o.length≤1048576)(f:Int)(hf:-1≤f∧f≤4611686018427387904):∀N,N≤1048576→bJ9 to o f N
 | 0,hN=>fun e hw hfm=>by have:=Ex.w_eq e; omega
 | N+1,hN=>fun e hw hfm=>by
  have hwe:=Ex.w_eq e
  have hwl:=Ex.ws_len e.ks
  obtain⟨y7,y15,l1⟩:=aO6 (aV9 to o ho f hf N (by omega)) e hfm hw hN (.iv (.agg (aW e))) (.lb [.iv (.int .i64 0),.iv (.int .i64 0),.iv (.sl .nil []),.iv (.bool false),.iv (.sl .nil [])]) u_ u_ u_ u_ u_ u_ u_ u_ u_ u_ u_ u_ u_ e.ks.length 0 [] u_ u_ (by omega) (by simp)
  rw[show ((0:Nat):Int)=0 from rfl,show acc 0 (aQ [])=.iv (.sl .nil []) by rw[aQ]; rfl,show jK 5 25 (aQ [])=[] by rw[aQ]; rfl,List.nil_append,List.drop_zero]at l1
  have c106:=aOk to o e.n (by omega) []
  have c107:=aOl e.n []
  rw[aKx]
  generalize hks:iJ o f e.ks=ks' at *
  by_cases h2:e.k=2
  ·by_cases hp:0≤poF o e.n 0
   ·rw[if_pos ⟨h2,hp⟩]
    refine TM.aR (S:=jK 5 25 (aQ ks')) (r:=.iv (.agg (aW (.mk 13 0 .nil [] false .full [loX e.n])))) (aB K _ (fn:=t72) rfl rfl ?_) (by rw[aN])
    rw[aJ e]at l1 ⊢
    unfold lbE at l1
    rw[h2]at l1
    simp (config := { maxSteps := 4000000 }) (disch:=omega) only[t72,go_sem,h2]
    rw[l1]
    unfold loX
    simp (config := { maxSteps := 4000000 }) (disch:=omega) only[go_sem,c106,c107,hp,aW,aQ,aRf,ge_iff_le]
   ·rw[if_neg (fun h=>hp h.2),if_neg (by omega),if_neg (by omega)]
    refine TM.aR (S:=jK 5 25 (aQ ks')) (r:=.iv (.agg (aW (.mk e.k e.n .nil [] e.r (eP ks') ks')))) (aB K _ (fn:=t72) rfl rfl ?_) (by rw[aN])
    rw[aJ e]at l1 ⊢
    unfold lbE at l1
    rw[h2]at l1
    simp (config := { maxSteps := 4000000 }) (disch:=omega) only[t72,go_sem,h2]
    rw[l1]
    rcases sX 0 ks' with⟨h0,ha⟩|⟨h0,ha⟩
    ·subst h0
     simp (config := { maxSteps := 4000000 }) (disch:=omega) only[go_sem,c106,c107,hp,aW,aQ,aRf,ha,ge_iff_le,eP,jF]
    ·simp (config := { maxSteps := 4000000 }) (disch:=omega) only[go_sem,c106,c107,hp,aW,aRf,ha,ge_iff_le,mG h0]
  by_cases h4:e.k=4
  ·rw[if_neg (by omega),if_pos h4]
   obtain⟨x,hkx⟩:=kX (((tW e).1 hfm).1 (.inr h4))
   obtain⟨y,hy⟩:∃y,ks'=[y]:=⟨rfE o f x,by rw[←hks,hkx,iJ,iJ]⟩
   subst hy
   have hix:=ixE (g:=.no) (ks:=[y]) (i:=0) (by simp)
   rw[show [y].getD (0:Int).toNat default=y from rfl]at hix
   have hixt:indexAddrS 5 (.tsl 0 (aQ [y])) 0=indexAddrS 5 (.iv (.sl .no (aQ [y]))) 0:=rfl
   rw[List.headD_cons]
   refine TM.aR (S:=jK 5 25 (aQ [y])) (r:=.iv (.agg (aW (.mk 14 0 .nil [] false .full [loX e.n,y])))) (aB K _ (fn:=t72) rfl rfl ?_) (by rw[aN])
   rw[aJ e]at l1 ⊢
   unfold lbE at l1
   rw[h4]at l1
   simp (config := { maxSteps := 4000000 }) (disch:=omega) only[t72,go_sem,h4]
   have hE:aW (.mk 14 0 .nil [] false .full [loX e.n,y])=[.int .i64 14,.int .i64 0,.sl .nil [],.bool false,.sl .full [[.int .i64 2,.int .i64 e.n,.sl .nil [],.bool false,.sl .nil []],aW y]]:=by unfold loX; simp only[aW,aQ,TM.one,List.map_nil]
   rw[l1,gN 0 (by simp[kK]),hE,aJ y]
   simp (config := { maxSteps := 4000000 }) (disch:=omega) only[go_sem,c107,hixt,hix,fG,aRf]
  by_cases h7:e.k=7
  ·rw[if_neg (by omega),if_neg h4,if_pos h7]
   obtain⟨x,hkx⟩:=kX (((tW e).1 hfm).1 (.inl h7))
   obtain⟨y,hy⟩:∃y,ks'=[y]:=⟨rfE o f x,by rw[←hks,hkx,iJ,iJ]⟩
   subst hy
   obtain⟨jv,jo,jb,y12,y19,y20,S',l2⟩:=aE1 to o ho f hf e (by omega) (.iv (.agg (aW e))) (.lb [.iv (.int .i64 0),.iv (.int .i64 0),.iv (.sl .nil []),.iv (.bool false),.iv (.sl .nil [])]) (.tsl 0 (aQ [y])) (.iv (.int .i64 e.ks.length)) y7 (.iv (.int .i64 7)) (.iv (.int .i64 e.n)) (.iv (.bool e.r)) (.iv (.sl .no (aQ [y]))) u_ u_ y15 (.iv (.bool false)) (.iv (.bool false)) (.iv (.bool false)) u_ e.vs.length 0 [] [] [] 0 0 0 u_ u_ u_ (jK 5 25 (aQ [y])) (by omega) At.nil At.nil (by rw[aQ]; exact At.nil) (fun h=>absurd rfl h) (by simp) (by simp) (by simp)
   rw[show ((0:Nat):Int)=0 from rfl,show acc 0 (aQ [])=.iv (.sl .nil []) by rw[aQ]; rfl,show acc 0 (aP [])=.iv (.sl .nil []) from rfl,List.nil_append,List.nil_append,List.nil_append,List.drop_zero]at l2
   have hrl:=List.length_filter_le (fun v=>decide (0≤poF o v 0)) e.vs
   unfold aV8
   rw[aJ e]at l1 l2 ⊢
   unfold lbE at l1 l2
   rw[h7]at l1 l2
   rw[gN 0 (show aQ [y]≠[] by simp[kK])]at l1
   by_cases hown:rwn o e.vs=[]
   ·rw[if_pos hown,if_pos hown]
    have hbx:rbx o f e.vs=[]:=by rw[rbx,hown]; rfl
    rw[hown,hbx,show acc jb (aQ [])=.iv (.sl .nil []) by rw[aQ]; rfl,show acc jo (aP [])=.iv (.sl .nil []) from rfl]at l2
    refine TM.aR (S:=S') (r:=oG [.iv (.int .i64 7),.iv (.int .i64 e.n),acc jv (aP (e.vs.map (rvV o f))),.iv (.bool e.r),.iv (.sl .no (aQ [y]))]) (aB K _ (fn:=t72) rfl rfl ?_) ?_
    ·simp (config := { maxSteps := 4000000 }) (disch:=omega) only[t72,go_sem,h7]
     rw[l1]
     simp (config := { maxSteps := 4000000 }) (disch:=omega) only[go_sem]
     rw[l2]
     rcases zU jv (e.vs.map (rvV o f)) with⟨h0,ha⟩|⟨h0,ha⟩
     ·rw[ha]
      simp (config := { maxSteps := 4000000 }) (disch:=omega) only[go_sem]
     ·rw[ha]
      simp (config := { maxSteps := 4000000 }) (disch:=omega) only[go_sem]
    ·rcases zU jv (e.vs.map (rvV o f)) with⟨h0,ha⟩|⟨h0,ha⟩
     ·rw[ha]
      have:e.vs=[]:=by simpa using h0
      rw[this,h7,aW]
      rfl
     ·rw[ha]
      have:e.vs≠[]:=by simpa using h0
      rw[aW,h7,mG this]
      rfl
   ·rw[if_neg hown,if_neg hown]
    have hvs:e.vs≠[]:=fun h=>hown (by rw[h]; rfl)
    have hbx:rbx o f e.vs≠[]:=by simpa[rbx] using hown
    rw[gN jv (by simpa[eB] using hvs),gN jo (by simpa[eB] using hown),gN jb (by simpa[kK] using hbx)]at l2
    have e1:=fun S=>aO4 (w:=5) (b:=72) (el:=25) (S:=S) (c:=aW (.mk 7 0 .no (rwn o e.vs) false .no [y])) (j:=jb) (ys:=aQ (rbx o f e.vs)) (mO _) (oC _) (by simpa[kK] using hbx) (cM (by rw[aD]; unfold rbx rwn; rw[List.length_map]; omega))
    have hc7:aW (.mk 7 0 .no (rwn o e.vs) false .no [y])=[.int .i64 7,.int .i64 0,.sl .no (aP (rwn o e.vs)),.bool false,.sl .no (aQ [y])]:=by rw[aW]; rfl
    have hc8:aW (.mk 8 0 .nil [] false .no (.mk 7 0 .no (rwn o e.vs) false .no [y]::rbx o f e.vs))=[.int .i64 8,.int .i64 0,.sl .nil [],.bool false,.sl .no (aW (.mk 7 0 .no (rwn o e.vs) false .no [y])::aQ (rbx o f e.vs))]:=by rw[aW,aQ]; rfl
    rw[hc7]at e1 hc8
    refine TM.aR (S:=S'++[.tok (1+(aQ (rbx o f e.vs)).length) 5 25]) (r:=.agg [.iv (.int .i64 7),.iv (.int .i64 e.n),.tsl jv (aP (e.vs.map (rvV o f))),.iv (.bool e.r),.iv (.sl .full [aW (.mk 8 0 .nil [] false .no (.mk 7 0 .no (rwn o e.vs) false .no [y]::rbx o f e.vs))])]) (aB K _ (fn:=t72) rfl rfl ?_) ?_
    ·have hlen:(aP (rwn o e.vs)).length≠0:=by rw[eC]; exact fun h=>hown (List.eq_nil_of_length_eq_zero h)
     simp (config := { maxSteps := 4000000 }) (disch:=omega) only[t72,go_sem,h7]
     rw[l1]
     simp (config := { maxSteps := 4000000 }) (disch:=omega) only[go_sem]
     rw[l2]
     simp (config := { maxSteps := 4000000 }) (disch:=omega) only[go_sem,e1]
     rw[hc8]
    ·rw[hc8,h7,mG hvs]
     simp only[aW,aQ]
     rfl
  ·rw[if_neg (by omega),if_neg h4,if_neg h7]
   refine TM.aR (S:=jK 5 25 (aQ ks')) (r:=.iv (.agg (aW (.mk e.k e.n .nil [] e.r (eP ks') ks')))) (aB K _ (fn:=t72) rfl rfl ?_) (by rw[aN])
   rw[aJ e]at l1 ⊢
   unfold lbE at l1
   simp (config := { maxSteps := 4000000 }) (disch:=omega) only[t72,go_sem,h2]
   rw[l1]
   rcases sX 0 ks' with⟨h0,ha⟩|⟨h0,ha⟩
   ·subst h0
    simp (config := { maxSteps := 4000000 }) (disch:=omega) only[go_sem,h2,h4,h7,aW,aQ,aRf,ha,eP,jF]
   ·simp (config := { maxSteps := 4000000 }) (disch:=omega) only[go_sem,h2,h4,h7,aW,aRf,ha,mG h0]
theorem uA (x:Int)(h:0≤x∧x≤255):∃s:List UInt8,s.length=1∧bsV (some [[.int .u8 x]])=some (.iv (.str s)):=by
 exact⟨[UInt8.ofNat x.toNat],rfl,rfl⟩
def Txt (L:Nat)(f:Nat)(args:List TV):Prop:=∃s:List UInt8,s.length≤L∧TM.Pure K f args (.iv (.str s))
theorem aE2 (n:Int)(h:0≤n∧n<10):Txt 1 62 [.iv (.int .i64 n)]:=by
 obtain⟨s,hl,hb⟩:=uA (48+n) (by omega)
 refine⟨s,by omega,aV t62 rfl rfl ?_⟩
 simp (disch:=omega) only[t62,go_sem,aF,rX,hb]
theorem aO7:∀(k:Nat) (n:Int),n.natAbs<10 ^ (k+1)→k≤19→iO n→Txt (k+2) 62 [.iv (.int .i64 n)]
 | 0,n,h,hk,hn=>by
  by_cases h1:n<0
  ·obtain⟨s,hl,hs⟩:=aE2 (0-n) (by omega)
   refine⟨[45]++s,by simp; omega,aV t62 rfl rfl ?_⟩
   simp (disch:=omega) only[t62,go_sem,aF,aC hs,List.length_cons,List.length_nil,List.length_append]
  ·obtain⟨s,hl,hs⟩:=aE2 n (by omega)
   exact⟨s,by omega,hs⟩
 | k+1,n,h,hk,hn=>by
  have hn':=hn
  unfold iO at hn'
  have hp:10 ^ (k+1+1)=10*10 ^ (k+1):=by rw[Nat.pow_succ,Nat.mul_comm]
  by_cases h9:n.natAbs<10
  ·obtain⟨s,hl,hs⟩:=aO7 0 n (by omega) (by omega) hn
   exact⟨s,by omega,hs⟩
  by_cases h1:n<0
  ·have d1:n.tdiv 10 = -((-n) / 10):=by rw[show n = -(-n) by omega,Int.neg_tdiv,Int.tdiv_eq_ediv_of_nonneg (by omega)]; simp
   have d2:n.tmod 10 = -((-n) % 10):=by rw[show n = -(-n) by omega,Int.neg_tmod,Int.tmod_eq_emod_of_nonneg (by omega)]; simp
   obtain⟨s,hl,hs⟩:=aO7 k (n.tdiv 10) (by rw[d1]; omega) (by omega) (by unfold iO; rw[d1]; omega)
   obtain⟨s2,hl2,hs2⟩:=aE2 (0-n.tmod 10) (by rw[d2]; omega)
   have w1:IntKind.i64.wrap (n.tdiv 10)=n.tdiv 10:=aF (by rw[d1]; omega)
   have w2:IntKind.i64.wrap (n.tmod 10)=n.tmod 10:=aF (by rw[d2]; omega)
   have w3:IntKind.i64.wrap (0-n.tmod 10)=0-n.tmod 10:=aF (by rw[d2]; omega)
   refine⟨s++s2,by simp; omega,aV t62 rfl rfl ?_⟩
   simp (disch:=omega) only[t62,go_sem,w1,w2,w3,aC hs,aC hs2]
  ·have d1:n.tdiv 10=n / 10:=Int.tdiv_eq_ediv_of_nonneg (by omega)
   have d2:n.tmod 10=n % 10:=Int.tmod_eq_emod_of_nonneg (by omega)
   obtain⟨s,hl,hs⟩:=aO7 k (n.tdiv 10) (by rw[d1]; omega) (by omega) (by unfold iO; rw[d1]; omega)
   obtain⟨s2,hl2,hs2⟩:=aE2 (n.tmod 10) (by rw[d2]; omega)
   have w1:IntKind.i64.wrap (n.tdiv 10)=n.tdiv 10:=aF (by rw[d1]; omega)
   have w2:IntKind.i64.wrap (n.tmod 10)=n.tmod 10:=aF (by rw[d2]; omega)
   refine⟨s++s2,by simp; omega,aV t62 rfl rfl ?_⟩
   simp (disch:=omega) only[t62,go_sem,w1,w2,aC hs,aC hs2]
theorem vU (n:Int)(h:iO n):Txt 21 62 [.iv (.int .i64 n)]:=aO7 19 n (by unfold iO at h; rw[show (10:Nat) ^ (19+1)=100000000000000000000 from rfl]; omega) (by omega) h
theorem aWa:∀(k:Nat) (n:Int),n<10 ^ (k+1)→k≤19→0≤n→n≤1048576→Txt (k+1) 130 [.iv (.int .i64 n)]
 | k,n,h,hk,h0,hm=>by
  by_cases h2:n<10
  ·obtain⟨s,hl,hb⟩:=uA (48+n) (by omega)
   refine⟨s,by omega,aV t130 rfl rfl ?_⟩
   simp (disch:=omega) only[t130,go_sem,aF,rX,hb]
  ·match k,h,hk with
   | 0,h,hk=>omega
   | k+1,h,hk =>
   have hp:(10:Int) ^ (k+1+1)=10*10 ^ (k+1):=by rw[Int.pow_succ,Int.mul_comm]
   have d1:n.tdiv 10=n / 10:=Int.tdiv_eq_ediv_of_nonneg (by omega)
   have d2:n.tmod 10=n % 10:=Int.tmod_eq_emod_of_nonneg (by omega)
   obtain⟨s,hl,hs⟩:=aWa k (n.tdiv 10) (by rw[d1]; omega) (by omega) (by rw[d1]; omega) (by rw[d1]; omega)
   have w1:IntKind.i64.wrap (n.tdiv 10)=n.tdiv 10:=aF (by rw[d1]; omega)
   have w2:IntKind.i64.wrap (n.tmod 10)=n.tmod 10:=aF (by rw[d2]; omega)
   have w3:IntKind.i64.wrap (48+n.tmod 10)=48+n.tmod 10:=aF (by rw[d2]; omega)
   have w4:IntKind.u8.wrap (48+n.tmod 10)=48+n.tmod 10:=rX (by rw[d2]; omega)
   obtain⟨s2,hl2,hb⟩:=uA (48+n.tmod 10) (by rw[d2]; omega)
   refine⟨s++s2,by simp; omega,aV t130 rfl rfl ?_⟩
   simp (disch:=omega) only[t130,go_sem,w1,w2,w3,w4,aC hs,hb]
theorem bCy (n:Int)(h:0≤n∧n≤1048576):Txt 8 130 [.iv (.int .i64 n)]:=aWa 7 n (by rw[show (10:Int) ^ (7+1)=100000000 from rfl]; omega) (by omega) (by omega) (by omega)
theorem aWb:∀(k:Nat) (n:Int),n<16 ^ (k+1)→k≤19→0≤n→n≤1048576→Txt (k+1) 159 [.iv (.int .i64 n)]
 | k,n,h,hk,h0,hm=>by
  by_cases h2:n<16
  ·have hi:=qZ (s:=[48,49,50,51,52,53,54,55,56,57,97,98,99,100,101,102]) (i:=n) (kd:=.i64) (by simp; omega)
   generalize ([48,49,50,51,52,53,54,55,56,57,97,98,99,100,101,102]:List UInt8).getD n.toNat 0=b at *
   have:=b.toNat_lt
   obtain⟨s,hl,hb⟩:=uA b.toNat (by omega)
   refine⟨s,by omega,aV t159 rfl rfl ?_⟩
   simp (disch:=omega) only[t159,go_sem,aF,rX,hi,hb]
  ·match k,h,hk with
   | 0,h,hk=>omega
   | k+1,h,hk =>
   have hp:(16:Int) ^ (k+1+1)=16*16 ^ (k+1):=by rw[Int.pow_succ,Int.mul_comm]
   have d1:n.tdiv 16=n / 16:=Int.tdiv_eq_ediv_of_nonneg (by omega)
   have d2:n.tmod 16=n % 16:=Int.tmod_eq_emod_of_nonneg (by omega)
   obtain⟨s,hl,hs⟩:=aWb k (n.tdiv 16) (by rw[d1]; omega) (by omega) (by rw[d1]; omega) (by rw[d1]; omega)
   have w1:IntKind.i64.wrap (n.tdiv 16)=n.tdiv 16:=aF (by rw[d1]; omega)
   have w2:IntKind.i64.wrap (n.tmod 16)=n.tmod 16:=aF (by rw[d2]; omega)
   have hi:=qZ (s:=[48,49,50,51,52,53,54,55,56,57,97,98,99,100,101,102]) (i:=n.tmod 16) (kd:=.i64) (by rw[d2]; simp; omega)
   generalize ([48,49,50,51,52,53,54,55,56,57,97,98,99,100,101,102]:List UInt8).getD (n.tmod 16).toNat 0=b at *
   have:=b.toNat_lt
   obtain⟨s2,hl2,hb⟩:=uA b.toNat (by omega)
   refine⟨s++s2,by simp; omega,aV t159 rfl rfl ?_⟩
   simp (disch:=omega) only[t159,go_sem,w1,w2,hi,aC hs,hb]
theorem zA (n:Int)(h:0≤n∧n≤1048576):Txt 6 159 [.iv (.int .i64 n)]:=aWb 5 n (by rw[show (16:Int) ^ (5+1)=16777216 from rfl]; omega) (by omega) (by omega) (by omega)
theorem aKy (n:Int):(eJ n).length≤4:=by
 unfold eJ
 repeat' split
 all_goals simp
theorem aO8 (n:Int):∃s e,s.length≤4∧TM.Pure K 126 [.iv (.int .i64 n)] (.tup [.iv (.str s),.iv (.int .i64 e)]):=by
 have h53:=zO n
 cases hc:isC n with
 | false =>
  rw[hc]at h53
  refine⟨[],2,by simp,aV t126 rfl rfl ?_⟩
  simp (disch:=omega) only[t126,go_sem,h53]
 | true =>
  have h158:=aEq n hc
  rw[hc]at h53
  refine⟨eJ n,0,aKy n,aV t126 rfl rfl ?_⟩
  simp (disch:=omega) only[t126,go_sem,h53,h158]
theorem bCz (n:Int)(h:isC n=true):Txt 8 127 [.iv (.int .i64 n)]:=by
 have hn:0≤n:=by unfold isC at h; simp at h; omega
 obtain⟨s,e,hl,h126⟩:=aO8 n
 by_cases h1:n=32
 ·exact⟨[115,112,97,99,101],by decide,aV t127 rfl rfl (by simp (disch:=omega) only[t127,go_sem,h1])⟩
 by_cases h2:n=10
 ·exact⟨[110,101,119,108,105,110,101],by decide,aV t127 rfl rfl (by simp (disch:=omega) only[t127,go_sem,h2])⟩
 by_cases h3:n=9
 ·exact⟨[116,97,98],by decide,aV t127 rfl rfl (by simp (disch:=omega) only[t127,go_sem,h3])⟩
 by_cases h4:n<32
 ·obtain⟨s,hl,hs⟩:=zA n (by omega)
  exact⟨[120]++s,by simp; omega,aV t127 rfl rfl (by simp (disch:=omega) only[t127,go_sem,h1,h2,h3,h4,aC hs,List.length_cons,List.length_nil,List.length_append])⟩
 by_cases h5:n=127
 ·obtain⟨s,hl,hs⟩:=zA n (by omega)
  rw[h5]at hs
  exact⟨[120]++s,by simp; omega,aV t127 rfl rfl (by simp (disch:=omega) only[t127,go_sem,h5,aC hs,List.length_cons,List.length_nil,List.length_append])⟩
 ·exact⟨s,by omega,aV t127 rfl rfl (by simp (disch:=omega) only[t127,go_sem,h1,h2,h3,h4,h5,aC h126])⟩
def oD:List Int→List Int→Option (List Int)
 | [],B=>some B
 | v::r,B=>if v∈B then none else oD r (v::B)
mutual
def chk (p:Pg):Ex→Nat→List Int→List Int→List Int→Int×List Int×List Int
 | .mk k n gv vs r g ks,depth,B,C,A =>
  if 4000≤depth then (5,B,C) else if eM p (.mk k n gv vs r g ks)=false then (4,B,C) else
  match oD vs B with
  | none=>(14,B,C)
  | some B1 =>
   if k=1∧n∈C then (14,B,C) else
   if (k=2∨k=4)∧n∉vs++A then (6,B,C) else
   gF p ks (depth+1) B1 (if k=1 then n::C else C) (vs++A)
def gF (p:Pg):List Ex→Nat→List Int→List Int→List Int→Int×List Int×List Int
 | [],_,B,C,_=>(0,B,C)
 | e::es,depth,B,C,A =>
  match chk p e depth B C A with
  | (f,B1,C1)=>if f=0 then gF p es depth B1 C1 A else (f,B1,C1)
end
theorem aE3 (p:Pg)(e:Ex)(depth:Nat)(B C A:List Int):chk p e depth B C A=if 4000≤depth then (5,B,C) else if eM p e=false then (4,B,C) else
  match oD e.vs B with
  | none=>(14,B,C)
  | some B1 =>
   if e.k=1∧e.n∈C then (14,B,C) else
   if (e.k=2∨e.k=4)∧e.n∉e.vs++A then (6,B,C) else
   gF p e.ks (depth+1) B1 (if e.k=1 then e.n::C else C) (e.vs++A):=by
 cases e; rw[chk]; rfl
def iA (S:aA)(i:Nat)(B:List Int):Prop:=∃l c,S[i]? = some (.mp (mpR jB l) c)∧∀v,rF l v=if v∈B then 1 else 0
theorem iA.congr {S:aA}{i:Nat}{B B':List Int}(h:iA S i B)(hb:∀v,v∈B↔v∈B'):iA S i B':=by
 obtain⟨l,c,h1,h2⟩:=h
 refine⟨l,c,h1,fun v=>?_⟩
 rw[h2 v]
 by_cases hv:v∈B
 ·rw[if_pos hv,if_pos ((hb v).1 hv)]
 ·rw[if_neg hv,if_neg (fun h=>hv ((hb v).2 h))]
theorem iA.put {S:aA}{i:Nat}{B:List Int}{l:List (Nat×Int×Int)}{c:Nat}(h1:S[i]? = some (.mp (mpR jB l) c))(h2:∀v,rF l v=if v∈B then 1 else 0)(k:Int) :
  iA (S.set i (.mp (mpR jB (gA l c k 1)) (rC l c k))) i (k::B):=by
 refine⟨_,_,fM (dM h1) _,fun v=>?_⟩
 rw[aCc]
 by_cases e:k=v
 ·subst e; simp
 ·simp[e,h2 v,Ne.symm e]
theorem iA.del {S:aA}{i:Nat}{B B':List Int}{l:List (Nat×Int×Int)}{c:Nat}(h1:S[i]? = some (.mp (mpR jB l) c))(h2:∀v,rF l v=if v∈B then 1 else 0)(k:Int)(hb:∀v,v∈B'↔v∈B∧v≠k) :
  iA (S.set i (.mp (mpR jB (gA l c k 0)) (rC l c k))) i B':=by
 refine⟨_,_,fM (dM h1) _,fun v=>?_⟩
 rw[aCc]
 by_cases e:k=v
 ·subst e
  have:k∉B':=fun h=>((hb k).1 h).2 rfl
  simp[this]
 ·rw[if_neg e,h2 v]
  by_cases hv:v∈B
  ·rw[if_pos hv,if_pos ((hb v).2 ⟨hv,Ne.symm e⟩)]
  ·rw[if_neg hv,if_neg (fun h=>hv ((hb v).1 h).1)]
theorem iA.keep {S S':aA}{i:Nat}{B:List Int}(h:iA S i B)(k:S'[i]? = S[i]?):iA S' i B:=by
 obtain⟨l,c,h1,h2⟩:=h
 exact⟨l,c,k.trans h1,h2⟩
structure CkS (p:Pg) (ic ib ik ir:Nat) (S:aA) (B C A:List Int):Prop where
 cb:ic≠ib
 ck:ic≠ik
 cr:ic≠ir
 bk:ib≠ik
 br:ib≠ir
 kr:ik≠ir
 at':S[ic]? = some (ckB p ib ik ir)
 b:iA S ib B
 c:iA S ik C
 a:iA S ir A
 sub:∀v∈A,v∈B
theorem CkS.keep {p:Pg}{ic ib ik ir:Nat}{S S':aA}{B C A:List Int}(h:CkS p ic ib ik ir S B C A)(k:bW [] S S'):CkS p ic ib ik ir S' B C A:=by
 obtain⟨lb,cb,b1,b2⟩:=h.b
 obtain⟨lk,ck,k1,k2⟩:=h.c
 obtain⟨la,ca,a1,a2⟩:=h.a
 exact⟨h.cb,h.ck,h.cr,h.bk,h.br,h.kr,k.get _ _ (by simp) h.at',⟨lb,cb,k.get _ _ (by simp) b1,b2⟩,⟨lk,ck,k.get _ _ (by simp) k1,k2⟩,⟨la,ca,k.get _ _ (by simp) a1,a2⟩,h.sub⟩
theorem CkS.congrA {p:Pg}{ic ib ik ir:Nat}{S:aA}{B C A A':List Int}(h:CkS p ic ib ik ir S B C A)(ha:∀v,v∈A↔v∈A'):CkS p ic ib ik ir S B C A' :=
 ⟨h.cb,h.ck,h.cr,h.bk,h.br,h.kr,h.at',h.b,h.c,h.a.congr ha,fun v hv=>h.sub v ((ha v).2 hv)⟩
theorem CkS.putV {p:Pg}{ic ib ik ir:Nat}{S:aA}{B C A:List Int}(h:CkS p ic ib ik ir S B C A){lb:List (Nat×Int×Int)}{cb:Nat}(b1:S[ib]? = some (.mp (mpR jB lb) cb))(b2:∀v,rF lb v=if v∈B then 1 else 0)
  {la:List (Nat×Int×Int)} {ca:Nat} (a1:S[ir]? = some (.mp (mpR jB la) ca)) (a2:∀v,rF la v=if v∈A then 1 else 0) (k:Int) :
  CkS p ic ib ik ir ((S.set ib (.mp (mpR jB (gA lb cb k 1)) (rC lb cb k))).set ir (.mp (mpR jB (gA la ca k 1)) (rC la ca k))) (k::B) C (k::A):=by
 have hbr:=h.br
 have hkr:=h.kr
 have hbk:=h.bk
 refine⟨h.cb,h.ck,h.cr,h.bk,h.br,h.kr,?_,?_,?_,?_,?_⟩
 ·rw[bU (Ne.symm h.cr),bU (Ne.symm h.cb)]; exact h.at'
 ·exact (iA.put b1 b2 k).keep (bU (Ne.symm hbr) _)
 ·exact h.c.keep (by rw[bU (Ne.symm hkr),bU hbk])
 ·exact iA.put (by rw[bU hbr]; exact a1) a2 k
 ·intro v hv
  rcases List.mem_cons.1 hv with rfl|hv
  ·simp
  ·exact List.mem_cons_of_mem _ (h.sub v hv)
theorem aO9 (p:Pg)(ic ib ik ir:Nat)(e:Ex)(hw:e.w≤1048576)(C:List Int)(x1 x2 x3 x4 x6 x7 x8 x9 x10 x16 x17 x18 x19 x20 x21 x22 x23 x24 x25 x26 x27:TV):∀(k i:Nat) (x5 x14 x15:TV) (S:aA) (B A:List Int),i+k=e.vs.length→CkS p ic ib ik ir S B C A →
  ∃j r y5 y13 y14 y15 S',(j=.ret∧r=.iv (.int .i64 14)∧oD (e.vs.drop i) B=none∨j=.exit 1∧r=x4∧∃B1,oD (e.vs.drop i) B=some B1∧CkS p ic ib ik ir S' B1 C ((e.vs.drop i).reverse++A))∧bW [ib,ik,ir] S S' ∧
   lp' (lim K) t44L2 [.ptr ic 58 0,x1,x2,x3,x4,x5,x6,x7,x8,x9,x10,.iv (.sl e.gv (TM.one (.int .i64) e.vs)),.iv (.int .i64 e.vs.length),.iv (.int .i64 (i:Int)),x14,x15,x16,x17,x18,x19,x20,x21,x22,x23,x24,x25,x26,x27] S
    = .ret (j,[.ptr ic 58 0,x1,x2,x3,r,y5,x6,x7,x8,x9,x10,.iv (.sl e.gv (TM.one (.int .i64) e.vs)),.iv (.int .i64 e.vs.length),y13,y14,y15,x16,x17,x18,x19,x20,x21,x22,x23,x24,x25,x26,x27],S')
 | 0,i,x5,x14,x15,S,B,A,h,hs=>by
  obtain rfl:i=e.vs.length:=by omega
  refine⟨.exit 1,x4,?_,?_,?_,?_,S,.inr ⟨rfl,rfl,B,by rw[List.drop_length]; rfl,by rw[List.drop_length]; exact hs⟩,.refl _ _,aH K _ _ t44L2.eq_1 ?_⟩
  rotate_left 4
  ·simp (disch:=omega) only[go_sem]
   rfl
 | k+1,i,x5,x14,x15,S,B,A,h,hs=>by
  have hwe:=Ex.w_eq e
  have hla:i<e.vs.length:=by omega
  have hix:=gZ (f:=IV.int .i64) (t:=e.gv) (l:=e.vs) (i:=(i:Int)) (by omega)
  rw[Int.toNat_natCast]at hix
  have hdr:=bM hla
  obtain⟨lb,cb,b1,b2⟩:=hs.b
  obtain⟨la,ca,a1,a2⟩:=hs.a
  have hat:=hs.at'
  have n1:=hs.cb
  have n2:=hs.ck
  have n3:=hs.cr
  have n4:=hs.bk
  have n5:=hs.br
  have n6:=hs.kr
  generalize hx:e.vs.getD i default=x at *
  have b2x:=b2 x
  by_cases hm:x∈B
  ·rw[if_pos hm]at b2x
   refine⟨.ret,.iv (.int .i64 14),?_,?_,?_,?_,S,.inl ⟨rfl,rfl,by rw[hdr,oD,if_pos hm]⟩,.refl _ _,aH K _ _ t44L2.eq_1 ?_⟩
   rotate_left 4
   ·simp (disch:=omega) only[go_sem,hix,hat,b1,b2x]
    rfl
  ·rw[if_neg hm]at b2x
   obtain⟨j,r,y5,y13,y14,y15,S',hj,hk,ih⟩:=aO9 p ic ib ik ir e hw C x1 x2 x3 x4 x6 x7 x8 x9 x10 x16 x17 x18 x19 x20 x21 x22 x23 x24 x25 x26 x27 k (i+1) (.iv (.int .i64 x)) (.iv (.bool true)) (.iv (.bool false)) _ _ _ (by omega) (hs.putV b1 b2 a1 a2 x)
   rw[show ((i+1:Nat):Int)=(i:Int)+1 by omega]at ih
   refine⟨j,r,y5,y13,y14,y15,S',?_,((bW.set S (by simp) _).trans (bW.set _ (by simp) _)).trans hk,aH K _ _ t44L2.eq_1 ?_⟩
   ·rw[hdr,oD,if_neg hm,List.reverse_cons,List.append_assoc]
    exact hj
   ·simp (disch:=omega) only[go_sem,hix,hat,b1,b2x,a1,bU,aF]
    exact congrArg er ih
theorem uB:∀ {l B B1:List Int},oD l B=some B1→(∀v,v∈B1↔v∈l∨v∈B)∧(∀v∈l,v∉B)∧l.Nodup
 | [],B,B1,h=>by simp[oD]at h; subst h; simp
 | x::r,B,B1,h=>by
  unfold oD at h
  split at h
  ·cases h
  ·rename_i hx
   obtain⟨h1,h2,h3⟩:=uB h
   refine⟨fun v=>?_,?_,?_⟩
   ·rw[h1 v]
    simp only[List.mem_cons]
    constructor
    ·rintro (h|h|h)
     ·exact .inl (.inr h)
     ·exact .inl (.inl h)
     ·exact .inr h
    ·rintro ((h|h)|h)
     ·exact .inr (.inl h)
     ·exact .inl h
     ·exact .inr (.inr h)
   ·intro v hv
    rcases List.mem_cons.1 hv with rfl|hv
    ·exact hx
    ·exact fun hb=>h2 v hv (List.mem_cons_of_mem _ hb)
   ·rw[List.nodup_cons]
    exact⟨fun hm=>h2 x hm (by simp),h3⟩
theorem CkS.delA {p:Pg}{ic ib ik ir:Nat}{S:aA}{B C A:List Int}(h:CkS p ic ib ik ir S B C A){la:List (Nat×Int×Int)}{ca:Nat}(a1:S[ir]? = some (.mp (mpR jB la) ca))(a2:∀v,rF la v=if v∈A then 1 else 0)(k:Int){A':List Int}(ha:∀v,v∈A'↔v∈A∧v≠k) :
  CkS p ic ib ik ir (S.set ir (.mp (mpR jB (gA la ca k 0)) (rC la ca k))) B C A':=by
 refine⟨h.cb,h.ck,h.cr,h.bk,h.br,h.kr,?_,h.b.keep (bU (Ne.symm h.br) _),h.c.keep (bU (Ne.symm h.kr) _),iA.del a1 a2 k ha,fun v hv=>h.sub v ((ha v).1 hv).1⟩
 rw[bU (Ne.symm h.cr)]; exact h.at'
theorem aPa (p:Pg)(ic ib ik ir:Nat)(e:Ex)(hw:e.w≤1048576)(B C:List Int)(x1 x2 x3 x4 x5 x6 x7 x9 x10 x11 x12 x13 x14 x15 x16 x17 x18 x19 x20 x21 x22 x23:TV):∀(k i:Nat) (x8 x27:TV) (S:aA) (A:List Int),i+k=e.vs.length→CkS p ic ib ik ir S B C A →
  ∃y8 y27 S',(∀A',(∀v,v∈A'↔v∈A∧v∉e.vs.drop i)→CkS p ic ib ik ir S' B C A')∧bW [ib,ik,ir] S S' ∧
   lp' (lim K) t44L0 [.ptr ic 58 0,x1,x2,x3,x4,x5,x6,x7,x8,x9,x10,x11,x12,x13,x14,x15,x16,x17,x18,x19,x20,x21,x22,x23,.iv (.sl e.gv (TM.one (.int .i64) e.vs)),.iv (.int .i64 e.vs.length),.iv (.int .i64 (i:Int)),x27] S
    = .ret (.exit 5,[.ptr ic 58 0,x1,x2,x3,x4,x5,x6,x7,y8,x9,x10,x11,x12,x13,x14,x15,x16,x17,x18,x19,x20,x21,x22,x23,.iv (.sl e.gv (TM.one (.int .i64) e.vs)),.iv (.int .i64 e.vs.length),.iv (.int .i64 e.vs.length),y27],S')
 | 0,i,x8,x27,S,A,h,hs=>by
  obtain rfl:i=e.vs.length:=by omega
  refine⟨?_,?_,S,fun A' ha=>hs.congrA (fun v=>by rw[ha v,List.drop_length]; simp),.refl _ _,aH K _ _ t44L0.eq_1 ?_⟩
  rotate_left 2
  ·simp (disch:=omega) only[go_sem]
   rfl
 | k+1,i,x8,x27,S,A,h,hs=>by
  have hwe:=Ex.w_eq e
  have hla:i<e.vs.length:=by omega
  have hix:=gZ (f:=IV.int .i64) (t:=e.gv) (l:=e.vs) (i:=(i:Int)) (by omega)
  rw[Int.toNat_natCast]at hix
  have hdr:=bM hla
  obtain⟨la,ca,a1,a2⟩:=hs.a
  have hat:=hs.at'
  generalize hx:e.vs.getD i default=x at *
  obtain⟨y8,y27,S',hj,hk,ih⟩:=aPa p ic ib ik ir e hw B C x1 x2 x3 x4 x5 x6 x7 x9 x10 x11 x12 x13 x14 x15 x16 x17 x18 x19 x20 x21 x22 x23 k (i+1) (.iv (.int .i64 x)) (.iv (.bool true)) _ (A.filter fun v=>decide (v≠x)) (by omega) (hs.delA a1 a2 x (fun v=>by simp))
  rw[show ((i+1:Nat):Int)=(i:Int)+1 by omega]at ih
  refine⟨y8,y27,S',fun A' ha=>hj A' (fun v=>?_),(bW.set S (by simp) _).trans hk,aH K _ _ t44L0.eq_1 ?_⟩
  ·rw[ha v,hdr]
   simp only[List.mem_cons,not_or,List.mem_filter,decide_eq_true_eq]
   constructor
   ·rintro⟨h1,h2,h3⟩; exact⟨⟨h1,h2⟩,h3⟩
   ·rintro⟨⟨h1,h2⟩,h3⟩; exact⟨h1,h2,h3⟩
  ·simp (disch:=omega) only[go_sem,hix,hat,a1,aF]
   exact congrArg er ih
def aWc (p:Pg)(ic ib ik ir:Nat)(N:Nat):Prop:=∀(e:Ex) (depth:Nat) (S:aA) (B C A:List Int),e.w≤N→depth≤4000→CkS p ic ib ik ir S B C A →
 ∃S',(lim K).call 44 [.ptr ic 58 0,.iv (.agg (aW e)),.iv (.int .i64 depth)] S=.ret (.iv (.int .i64 (chk p e depth B C A).1),S')∧bW [ib,ik,ir] S S'∧((chk p e depth B C A).1=0→CkS p ic ib ik ir S' (chk p e depth B C A).2.1 (chk p e depth B C A).2.2 A)
theorem aPb {N:Nat}(p:Pg)(ic ib ik ir:Nat)(ih:aWc p ic ib ik ir N)(e:Ex)(hw:e.w≤N+1)(hN:N+1≤1048576)(depth:Nat)(hd:depth<4000)(A:List Int)(x1 x3 x4 x5 x8 x9 x10 x11 x12 x13 x14 x15 x16 x17 x18 x24 x25 x26 x27:TV):∀(k i:Nat) (x6 x7 x22 x23:TV) (S:aA) (B C:List Int),i+k=e.ks.length→CkS p ic ib ik ir S B C A →
  ∃j r y6 y7 y21 y22 y23 S',(j=.ret∧r=.iv (.int .i64 (gF p (e.ks.drop i) (depth+1) B C A).1)∧(gF p (e.ks.drop i) (depth+1) B C A).1≠0∨j=.exit 3∧r=x4∧(gF p (e.ks.drop i) (depth+1) B C A).1=0∧CkS p ic ib ik ir S' (gF p (e.ks.drop i) (depth+1) B C A).2.1 (gF p (e.ks.drop i) (depth+1) B C A).2.2 A)∧bW [ib,ik,ir] S S' ∧
   lp' (lim K) t44L1 [.ptr ic 58 0,x1,.iv (.int .i64 depth),x3,x4,x5,x6,x7,x8,x9,x10,x11,x12,x13,x14,x15,x16,x17,x18,.iv (.sl e.g (aQ e.ks)),.iv (.int .i64 e.ks.length),.iv (.int .i64 (i:Int)),x22,x23,x24,x25,x26,x27] S
    = .ret (j,[.ptr ic 58 0,x1,.iv (.int .i64 depth),x3,r,x5,y6,y7,x8,x9,x10,x11,x12,x13,x14,x15,x16,x17,x18,.iv (.sl e.g (aQ e.ks)),.iv (.int .i64 e.ks.length),y21,y22,y23,x24,x25,x26,x27],S')
 | 0,i,x6,x7,x22,x23,S,B,C,h,hs=>by
  obtain rfl:i=e.ks.length:=by omega
  refine⟨.exit 3,x4,?_,?_,?_,?_,?_,S,.inr ⟨rfl,rfl,by rw[List.drop_length,gF],by rw[List.drop_length,gF]; exact hs⟩,.refl _ _,aH K _ _ t44L1.eq_1 ?_⟩
  rotate_left 5
  ·simp (disch:=omega) only[go_sem]
   rfl
 | k+1,i,x6,x7,x22,x23,S,B,C,h,hs=>by
  have hla:i<e.ks.length:=by omega
  have hwe:=Ex.w_eq e
  have hwl:=Ex.ws_len e.ks
  have hix:=ixE (g:=e.g) (ks:=e.ks) (i:=(i:Int)) (by omega)
  rw[Int.toNat_natCast]at hix
  have hdr:=bM hla
  have hkw:=Ex.kid_lt (d:=e) (bP hla)
  generalize hx:e.ks.getD i default=x at *
  obtain⟨S1,hc,hk1,hs1⟩:=ih x (depth+1) S B C A (by omega) (by omega) hs
  rw[show ((depth+1:Nat):Int)=(depth:Int)+1 by omega]at hc
  rw[aJ]at hc
  have hun:gF p (x::e.ks.drop (i+1)) (depth+1) B C A=if (chk p x (depth+1) B C A).1=0 then gF p (e.ks.drop (i+1)) (depth+1) (chk p x (depth+1) B C A).2.1 (chk p x (depth+1) B C A).2.2 A else chk p x (depth+1) B C A:=by
   rw[gF]
  rw[hdr,hun]
  generalize hq:chk p x (depth+1) B C A=q at *
  obtain⟨f,B1,C1⟩:=q
  simp only at hc hs1 ⊢
  by_cases hf:f=0
  ·obtain⟨j,r,y6,y7,y21,y22,y23,S',hj,hk,ih2⟩:=aPb p ic ib ik ir ih e hw hN depth hd A x1 x3 x4 x5 x8 x9 x10 x11 x12 x13 x14 x15 x16 x17 x18 x24 x25 x26 x27 k (i+1) (lbE x) (.iv (.int .i64 f)) (.iv (.bool true)) (.iv (.bool false)) S1 B1 C1 (by omega) (hs1 hf)
   rw[show ((i+1:Nat):Int)=(i:Int)+1 by omega]at ih2
   refine⟨j,r,y6,y7,y21,y22,y23,S',?_,hk1.trans hk,aH K _ _ t44L1.eq_1 ?_⟩
   ·rw[if_pos hf]; exact hj
   ·simp (disch:=omega) only[go_sem,hix,fG,hc,aF]
    exact congrArg er ih2
  ·refine⟨.ret,.iv (.int .i64 f),?_,?_,?_,?_,?_,S1,.inl ⟨rfl,by rw[if_neg hf],by rw[if_neg hf]; exact hf⟩,hk1,aH K _ _ t44L1.eq_1 ?_⟩
   rotate_left 5
   ·simp (disch:=omega) only[go_sem,hix,fG,hc,aF]
    rfl
theorem aWd (p:Pg)(ib ik ir ic:Nat)(e:Ex)(hw:e.w≤1048576)(S:aA)(hc:S[ic]? = some (ckB p ib ik ir))(hcl:p.cs.length≤2000000)(kids:Int)(word:List UInt8)(is:Bool)(hs:ofF e.k e.n=⟨true,kids,false,word,is⟩)(h7:e.k≠7):aKw p ib ik ir ic e S (eM p e):=by
 have hwe:=Ex.w_eq e
 have hwl:=Ex.ws_len e.ks
 have h74:=aKv e []
 rw[hs]at h74
 simp only[aV7]at h74
 have hlt:=dM hc
 have h119:=yZ
 have hk1:=bW.app [] S [aY.cells 55 false [.ptr ic 58 0]]
 have hk2:=hk1.trans (bW.app [] _ [aY.cells 135 false [.fn 119 [] []]])
 have hc1:(S++[aY.cells 55 false [.ptr ic 58 0]])[ic]? = some (ckB p ib ik ir):=kB hc _
 have hc2:(S++[aY.cells 55 false [.ptr ic 58 0]]++[aY.cells 135 false [.fn 119 [] []]])[ic]? = some (ckB p ib ik ir):=kB hc1 _
 have h120:=aEy 121 (fun v=>!decide (0≤v∧v<p.vr)) (S++[aY.cells 55 false [TV.ptr ic 58 0]]).length 135 S.length 55 e.gv e.vs (by omega) _ (fun x _=>aEz p ib ik ir ic S.length (S++[aY.cells 55 false [.ptr ic 58 0]]).length x (S++[aY.cells 55 false [.ptr ic 58 0]]++[aY.cells 135 false [.fn 119 [] []]]) hc2 (eQ ..) (dG ..))
 have hf:eM p e=(!(!is||decide ((e.ks.length:Int)<kids)||(decide (kids<e.ks.length)&&!false)||(!true&&decide (e.n≠0))||(decide (e.k≠7)&&(decide (0<e.vs.length)||e.r))||(e.r&&decide (e.vs.length=0)))&&pT p e):=by
  unfold eM nR; rw[hs]
 rw[hf]
 clear hf hs
 unfold pT
 rw[aJ]at h74
 unfold aKw
 rw[aJ]
 generalize e.r=r at h74 ⊢
 cases is
 ·exact⟨_,aB K _ (fn:=t87) rfl rfl (by simp (config := { maxSteps := 4000000 }) (disch:=omega) only[t87,go_sem,h74,aD,Bool.true_or,Bool.or_true,Bool.false_or,Bool.or_false,Bool.true_and,Bool.false_and,Bool.and_true,Bool.and_false,Bool.not_true,Bool.not_false,bG]<;>simp (disch:=omega) only[go_sem,Bool.true_or,Bool.or_true,Bool.false_or,Bool.or_false,Bool.true_and,Bool.false_and,Bool.and_true,Bool.and_false,Bool.not_true,Bool.not_false,bG]),hk1⟩
 by_cases b1:(e.ks.length:Int)<kids
 ·exact⟨_,aB K _ (fn:=t87) rfl rfl (by simp (config := { maxSteps := 4000000 }) (disch:=omega) only[t87,go_sem,h74,aD,Bool.true_or,Bool.or_true,Bool.false_or,Bool.or_false,Bool.true_and,Bool.false_and,Bool.and_true,Bool.and_false,Bool.not_true,Bool.not_false,bG]<;>simp (disch:=omega) only[go_sem,Bool.true_or,Bool.or_true,Bool.false_or,Bool.or_false,Bool.true_and,Bool.false_and,Bool.and_true,Bool.and_false,Bool.not_true,Bool.not_false,bG]),hk1⟩
 by_cases b2:kids<(e.ks.length:Int)
 ·exact⟨_,aB K _ (fn:=t87) rfl rfl (by simp (config := { maxSteps := 4000000 }) (disch:=omega) only[t87,go_sem,h74,aD,Bool.true_or,Bool.or_true,Bool.false_or,Bool.or_false,Bool.true_and,Bool.false_and,Bool.and_true,Bool.and_false,Bool.not_true,Bool.not_false,bG]<;>simp (disch:=omega) only[go_sem,Bool.true_or,Bool.or_true,Bool.false_or,Bool.or_false,Bool.true_and,Bool.false_and,Bool.and_true,Bool.and_false,Bool.not_true,Bool.not_false,bG]),hk1⟩
 by_cases b4:0<e.vs.length
 ·exact⟨_,aB K _ (fn:=t87) rfl rfl (by simp (config := { maxSteps := 4000000 }) (disch:=omega) only[t87,go_sem,h74,aD,Bool.true_or,Bool.or_true,Bool.false_or,Bool.or_false,Bool.true_and,Bool.false_and,Bool.and_true,Bool.and_false,Bool.not_true,Bool.not_false,bG]<;>simp (disch:=omega) only[go_sem,Bool.true_or,Bool.or_true,Bool.false_or,Bool.or_false,Bool.true_and,Bool.false_and,Bool.and_true,Bool.and_false,Bool.not_true,Bool.not_false,bG]),hk1⟩
 cases r
 rotate_left
 ·exact⟨_,aB K _ (fn:=t87) rfl rfl (by simp (config := { maxSteps := 4000000 }) (disch:=omega) only[t87,go_sem,h74,aD,Bool.true_or,Bool.or_true,Bool.false_or,Bool.or_false,Bool.true_and,Bool.false_and,Bool.and_true,Bool.and_false,Bool.not_true,Bool.not_false,bG]<;>simp (disch:=omega) only[go_sem,Bool.true_or,Bool.or_true,Bool.false_or,Bool.or_false,Bool.true_and,Bool.false_and,Bool.and_true,Bool.and_false,Bool.not_true,Bool.not_false,bG]),hk1⟩
 by_cases k1:e.k=1
 ·exact⟨_,aB K _ (fn:=t87) rfl rfl (by simp (config := { maxSteps := 4000000 }) (disch:=omega) only[t87,go_sem,h74,aD,Bool.true_or,Bool.or_true,Bool.false_or,Bool.or_false,Bool.true_and,Bool.false_and,Bool.and_true,Bool.and_false,Bool.not_true,Bool.not_false,bG,hc1,hc2,dG,eQ,fV,h119,h120,aI]<;>simp (disch:=omega) only[go_sem,Bool.true_or,Bool.or_true,Bool.false_or,Bool.or_false,Bool.true_and,Bool.false_and,Bool.and_true,Bool.and_false,Bool.not_true,Bool.not_false,bG]),hk2⟩
 by_cases k2:e.k=2
 ·exact⟨_,aB K _ (fn:=t87) rfl rfl (by simp (config := { maxSteps := 4000000 }) (disch:=omega) only[t87,go_sem,h74,aD,Bool.true_or,Bool.or_true,Bool.false_or,Bool.or_false,Bool.true_and,Bool.false_and,Bool.and_true,Bool.and_false,Bool.not_true,Bool.not_false,bG,hc1,hc2,dG,eQ,fV,h119,h120]<;>simp (disch:=omega) only[go_sem,Bool.true_or,Bool.or_true,Bool.false_or,Bool.or_false,Bool.true_and,Bool.false_and,Bool.and_true,Bool.and_false,Bool.not_true,Bool.not_false,bG]),hk2⟩
 by_cases k4:e.k=4
 ·exact⟨_,aB K _ (fn:=t87) rfl rfl (by simp (config := { maxSteps := 4000000 }) (disch:=omega) only[t87,go_sem,h74,aD,Bool.true_or,Bool.or_true,Bool.false_or,Bool.or_false,Bool.true_and,Bool.false_and,Bool.and_true,Bool.and_false,Bool.not_true,Bool.not_false,bG,hc1,hc2,dG,eQ,fV,h119,h120]<;>simp (disch:=omega) only[go_sem,Bool.true_or,Bool.or_true,Bool.false_or,Bool.or_false,Bool.true_and,Bool.false_and,Bool.and_true,Bool.and_false,Bool.not_true,Bool.not_false,bG]),hk2⟩
 by_cases k3:e.k=3
 ·exact⟨_,aB K _ (fn:=t87) rfl rfl (by simp (config := { maxSteps := 4000000 }) (disch:=omega) only[t87,go_sem,h74,aD,Bool.true_or,Bool.or_true,Bool.false_or,Bool.or_false,Bool.true_and,Bool.false_and,Bool.and_true,Bool.and_false,Bool.not_true,Bool.not_false,bG,hc1,hc2,dG,eQ,fV,h119,h120]<;>simp (disch:=omega) only[go_sem,Bool.true_or,Bool.or_true,Bool.false_or,Bool.or_false,Bool.true_and,Bool.false_and,Bool.and_true,Bool.and_false,Bool.not_true,Bool.not_false,bG]),hk2⟩
 by_cases k5:e.k=5
 ·exact⟨_,aB K _ (fn:=t87) rfl rfl (by simp (config := { maxSteps := 4000000 }) (disch:=omega) only[t87,go_sem,h74,aD,Bool.true_or,Bool.or_true,Bool.false_or,Bool.or_false,Bool.true_and,Bool.false_and,Bool.and_true,Bool.and_false,Bool.not_true,Bool.not_false,bG,hc1,hc2,dG,eQ,fV,h119,h120]<;>simp (disch:=omega) only[go_sem,Bool.true_or,Bool.or_true,Bool.false_or,Bool.or_false,Bool.true_and,Bool.false_and,Bool.and_true,Bool.and_false,Bool.not_true,Bool.not_false,bG]),hk2⟩
 exact⟨_,aB K _ (fn:=t87) rfl rfl (by simp (config := { maxSteps := 4000000 }) (disch:=omega) only[t87,go_sem,h74,aD,Bool.true_or,Bool.or_true,Bool.false_or,Bool.or_false,Bool.true_and,Bool.false_and,Bool.and_true,Bool.and_false,Bool.not_true,Bool.not_false,bG,hc1,hc2,dG,eQ,fV,h119,h120]<;>simp (disch:=omega) only[go_sem,Bool.true_or,Bool.or_true,Bool.false_or,Bool.or_false,Bool.true_and,Bool.false_and,Bool.and_true,Bool.and_false,Bool.not_true,Bool.not_false,bG]),hk2⟩
theorem bHj (p:Pg)(ib ik ir ic:Nat)(e:Ex)(hw:e.w≤1048576)(S:aA)(hc:S[ic]? = some (ckB p ib ik ir))(hcl:p.cs.length≤2000000)(kids:Int)(word:List UInt8)(is:Bool)(hs:ofF e.k e.n=⟨false,kids,false,word,is⟩)(hk:e.k≠1∧e.k≠2∧e.k≠3∧e.k≠4∧e.k≠5):aKw p ib ik ir ic e S (eM p e):=by
 have hwe:=Ex.w_eq e
 have hwl:=Ex.ws_len e.ks
 have h74:=aKv e []
 rw[hs]at h74
 simp only[aV7]at h74
 have hlt:=dM hc
 have h119:=yZ
 have hk1:=bW.app [] S [aY.cells 55 false [.ptr ic 58 0]]
 have hk2:=hk1.trans (bW.app [] _ [aY.cells 135 false [.fn 119 [] []]])
 have hc1:(S++[aY.cells 55 false [.ptr ic 58 0]])[ic]? = some (ckB p ib ik ir):=kB hc _
 have hc2:(S++[aY.cells 55 false [.ptr ic 58 0]]++[aY.cells 135 false [.fn 119 [] []]])[ic]? = some (ckB p ib ik ir):=kB hc1 _
 have h120:=aEy 121 (fun v=>!decide (0≤v∧v<p.vr)) (S++[aY.cells 55 false [TV.ptr ic 58 0]]).length 135 S.length 55 e.gv e.vs (by omega) _ (fun x _=>aEz p ib ik ir ic S.length (S++[aY.cells 55 false [.ptr ic 58 0]]).length x (S++[aY.cells 55 false [.ptr ic 58 0]]++[aY.cells 135 false [.fn 119 [] []]]) hc2 (eQ ..) (dG ..))
 have hf:eM p e=(!(!is||decide ((e.ks.length:Int)<kids)||(decide (kids<e.ks.length)&&!false)||(!false&&decide (e.n≠0))||(decide (e.k≠7)&&(decide (0<e.vs.length)||e.r))||(e.r&&decide (e.vs.length=0)))&&pT p e):=by
  unfold eM nR; rw[hs]
 rw[hf]
 clear hf hs
 unfold pT
 rw[aJ]at h74
 unfold aKw
 rw[aJ]
 generalize e.r=r at h74 ⊢
 cases is
 ·exact⟨_,aB K _ (fn:=t87) rfl rfl (by simp (config := { maxSteps := 4000000 }) (disch:=omega) only[t87,go_sem,h74,aD,Bool.true_or,Bool.or_true,Bool.false_or,Bool.or_false,Bool.true_and,Bool.false_and,Bool.and_true,Bool.and_false,Bool.not_true,Bool.not_false,bG]<;>simp (disch:=omega) only[go_sem,Bool.true_or,Bool.or_true,Bool.false_or,Bool.or_false,Bool.true_and,Bool.false_and,Bool.and_true,Bool.and_false,Bool.not_true,Bool.not_false,bG]),hk1⟩
 by_cases b1:(e.ks.length:Int)<kids
 ·exact⟨_,aB K _ (fn:=t87) rfl rfl (by simp (config := { maxSteps := 4000000 }) (disch:=omega) only[t87,go_sem,h74,aD,Bool.true_or,Bool.or_true,Bool.false_or,Bool.or_false,Bool.true_and,Bool.false_and,Bool.and_true,Bool.and_false,Bool.not_true,Bool.not_false,bG]<;>simp (disch:=omega) only[go_sem,Bool.true_or,Bool.or_true,Bool.false_or,Bool.or_false,Bool.true_and,Bool.false_and,Bool.and_true,Bool.and_false,Bool.not_true,Bool.not_false,bG]),hk1⟩
 by_cases b2:kids<(e.ks.length:Int)
 ·exact⟨_,aB K _ (fn:=t87) rfl rfl (by simp (config := { maxSteps := 4000000 }) (disch:=omega) only[t87,go_sem,h74,aD,Bool.true_or,Bool.or_true,Bool.false_or,Bool.or_false,Bool.true_and,Bool.false_and,Bool.and_true,Bool.and_false,Bool.not_true,Bool.not_false,bG]<;>simp (disch:=omega) only[go_sem,Bool.true_or,Bool.or_true,Bool.false_or,Bool.or_false,Bool.true_and,Bool.false_and,Bool.and_true,Bool.and_false,Bool.not_true,Bool.not_false,bG]),hk1⟩
 by_cases b3:e.n=0
 rotate_left
 ·exact⟨_,aB K _ (fn:=t87) rfl rfl (by simp (config := { maxSteps := 4000000 }) (disch:=omega) only[t87,go_sem,h74,aD,Bool.true_or,Bool.or_true,Bool.false_or,Bool.or_false,Bool.true_and,Bool.false_and,Bool.and_true,Bool.and_false,Bool.not_true,Bool.not_false,bG]<;>simp (disch:=omega) only[go_sem,Bool.true_or,Bool.or_true,Bool.false_or,Bool.or_false,Bool.true_and,Bool.false_and,Bool.and_true,Bool.and_false,Bool.not_true,Bool.not_false,bG]),hk1⟩
 by_cases k7:e.k=7
 ·cases r
  ·exact⟨_,aB K _ (fn:=t87) rfl rfl (by simp (config := { maxSteps := 4000000 }) (disch:=omega) only[t87,go_sem,h74,aD,Bool.true_or,Bool.or_true,Bool.false_or,Bool.or_false,Bool.true_and,Bool.false_and,Bool.and_true,Bool.and_false,Bool.not_true,Bool.not_false,bG,hc1,hc2,dG,eQ,fV,h119,h120]<;>simp (disch:=omega) only[go_sem,Bool.true_or,Bool.or_true,Bool.false_or,Bool.or_false,Bool.true_and,Bool.false_and,Bool.and_true,Bool.and_false,Bool.not_true,Bool.not_false,bG]),hk2⟩
  ·by_cases b5:e.vs.length=0
   ·exact⟨_,aB K _ (fn:=t87) rfl rfl (by simp (config := { maxSteps := 4000000 }) (disch:=omega) only[t87,go_sem,h74,aD,Bool.true_or,Bool.or_true,Bool.false_or,Bool.or_false,Bool.true_and,Bool.false_and,Bool.and_true,Bool.and_false,Bool.not_true,Bool.not_false,bG]<;>simp (disch:=omega) only[go_sem,Bool.true_or,Bool.or_true,Bool.false_or,Bool.or_false,Bool.true_and,Bool.false_and,Bool.and_true,Bool.and_false,Bool.not_true,Bool.not_false,bG]),hk1⟩
   ·exact⟨_,aB K _ (fn:=t87) rfl rfl (by simp (config := { maxSteps := 4000000 }) (disch:=omega) only[t87,go_sem,h74,aD,Bool.true_or,Bool.or_true,Bool.false_or,Bool.or_false,Bool.true_and,Bool.false_and,Bool.and_true,Bool.and_false,Bool.not_true,Bool.not_false,bG,hc1,hc2,dG,eQ,fV,h119,h120]<;>simp (disch:=omega) only[go_sem,Bool.true_or,Bool.or_true,Bool.false_or,Bool.or_false,Bool.true_and,Bool.false_and,Bool.and_true,Bool.and_false,Bool.not_true,Bool.not_false,bG]),hk2⟩
 by_cases b4:0<e.vs.length
 ·exact⟨_,aB K _ (fn:=t87) rfl rfl (by simp (config := { maxSteps := 4000000 }) (disch:=omega) only[t87,go_sem,h74,aD,Bool.true_or,Bool.or_true,Bool.false_or,Bool.or_false,Bool.true_and,Bool.false_and,Bool.and_true,Bool.and_false,Bool.not_true,Bool.not_false,bG]<;>simp (disch:=omega) only[go_sem,Bool.true_or,Bool.or_true,Bool.false_or,Bool.or_false,Bool.true_and,Bool.false_and,Bool.and_true,Bool.and_false,Bool.not_true,Bool.not_false,bG]),hk1⟩
 cases r
 rotate_left
 ·exact⟨_,aB K _ (fn:=t87) rfl rfl (by simp (config := { maxSteps := 4000000 }) (disch:=omega) only[t87,go_sem,h74,aD,Bool.true_or,Bool.or_true,Bool.false_or,Bool.or_false,Bool.true_and,Bool.false_and,Bool.and_true,Bool.and_false,Bool.not_true,Bool.not_false,bG]<;>simp (disch:=omega) only[go_sem,Bool.true_or,Bool.or_true,Bool.false_or,Bool.or_false,Bool.true_and,Bool.false_and,Bool.and_true,Bool.and_false,Bool.not_true,Bool.not_false,bG]),hk1⟩
 exact⟨_,aB K _ (fn:=t87) rfl rfl (by simp (config := { maxSteps := 4000000 }) (disch:=omega) only[t87,go_sem,h74,aD,Bool.true_or,Bool.or_true,Bool.false_or,Bool.or_false,Bool.true_and,Bool.false_and,Bool.and_true,Bool.and_false,Bool.not_true,Bool.not_false,bG,hc1,hc2,dG,eQ,fV,h119,h120]<;>simp (disch:=omega) only[go_sem,Bool.true_or,Bool.or_true,Bool.false_or,Bool.or_false,Bool.true_and,Bool.false_and,Bool.and_true,Bool.and_false,Bool.not_true,Bool.not_false,bG]),hk2⟩
theorem bHk (p:Pg)(ib ik ir ic:Nat)(e:Ex)(hw:e.w≤1048576)(S:aA)(hc:S[ic]? = some (ckB p ib ik ir))(hcl:p.cs.length≤2000000)(kids:Int)(word:List UInt8)(is:Bool)(hs:ofF e.k e.n=⟨false,kids,true,word,is⟩)(h7:e.k≠7)(hk:e.k≠1∧e.k≠2∧e.k≠3∧e.k≠4∧e.k≠5):aKw p ib ik ir ic e S (eM p e):=by
 have hwe:=Ex.w_eq e
 have hwl:=Ex.ws_len e.ks
 have h74:=aKv e []
 rw[hs]at h74
 simp only[aV7]at h74
 have hlt:=dM hc
 have h119:=yZ
 have hk1:=bW.app [] S [aY.cells 55 false [.ptr ic 58 0]]
 have hk2:=hk1.trans (bW.app [] _ [aY.cells 135 false [.fn 119 [] []]])
 have hc1:(S++[aY.cells 55 false [.ptr ic 58 0]])[ic]? = some (ckB p ib ik ir):=kB hc _
 have hc2:(S++[aY.cells 55 false [.ptr ic 58 0]]++[aY.cells 135 false [.fn 119 [] []]])[ic]? = some (ckB p ib ik ir):=kB hc1 _
 have h120:=aEy 121 (fun v=>!decide (0≤v∧v<p.vr)) (S++[aY.cells 55 false [TV.ptr ic 58 0]]).length 135 S.length 55 e.gv e.vs (by omega) _ (fun x _=>aEz p ib ik ir ic S.length (S++[aY.cells 55 false [.ptr ic 58 0]]).length x (S++[aY.cells 55 false [.ptr ic 58 0]]++[aY.cells 135 false [.fn 119 [] []]]) hc2 (eQ ..) (dG ..))
 have hf:eM p e=(!(!is||decide ((e.ks.length:Int)<kids)||(decide (kids<e.ks.length)&&!true)||(!false&&decide (e.n≠0))||(decide (e.k≠7)&&(decide (0<e.vs.length)||e.r))||(e.r&&decide (e.vs.length=0)))&&pT p e):=by
  unfold eM nR; rw[hs]
 rw[hf]
 clear hf hs
 unfold pT
 rw[aJ]at h74
 unfold aKw
 rw[aJ]
 generalize e.r=r at h74 ⊢
 cases is
 ·exact⟨_,aB K _ (fn:=t87) rfl rfl (by simp (config := { maxSteps := 4000000 }) (disch:=omega) only[t87,go_sem,h74,aD,Bool.true_or,Bool.or_true,Bool.false_or,Bool.or_false,Bool.true_and,Bool.false_and,Bool.and_true,Bool.and_false,Bool.not_true,Bool.not_false,bG]<;>simp (disch:=omega) only[go_sem,Bool.true_or,Bool.or_true,Bool.false_or,Bool.or_false,Bool.true_and,Bool.false_and,Bool.and_true,Bool.and_false,Bool.not_true,Bool.not_false,bG]),hk1⟩
 by_cases b1:(e.ks.length:Int)<kids
 ·exact⟨_,aB K _ (fn:=t87) rfl rfl (by simp (config := { maxSteps := 4000000 }) (disch:=omega) only[t87,go_sem,h74,aD,Bool.true_or,Bool.or_true,Bool.false_or,Bool.or_false,Bool.true_and,Bool.false_and,Bool.and_true,Bool.and_false,Bool.not_true,Bool.not_false,bG]<;>simp (disch:=omega) only[go_sem,Bool.true_or,Bool.or_true,Bool.false_or,Bool.or_false,Bool.true_and,Bool.false_and,Bool.and_true,Bool.and_false,Bool.not_true,Bool.not_false,bG]),hk1⟩
 by_cases b2:kids<(e.ks.length:Int)
 ·by_cases b3:e.n=0
  rotate_left
  ·exact⟨_,aB K _ (fn:=t87) rfl rfl (by simp (config := { maxSteps := 4000000 }) (disch:=omega) only[t87,go_sem,h74,aD,Bool.true_or,Bool.or_true,Bool.false_or,Bool.or_false,Bool.true_and,Bool.false_and,Bool.and_true,Bool.and_false,Bool.not_true,Bool.not_false,bG]<;>simp (disch:=omega) only[go_sem,Bool.true_or,Bool.or_true,Bool.false_or,Bool.or_false,Bool.true_and,Bool.false_and,Bool.and_true,Bool.and_false,Bool.not_true,Bool.not_false,bG]),hk1⟩
  by_cases b4:0<e.vs.length
  ·exact⟨_,aB K _ (fn:=t87) rfl rfl (by simp (config := { maxSteps := 4000000 }) (disch:=omega) only[t87,go_sem,h74,aD,Bool.true_or,Bool.or_true,Bool.false_or,Bool.or_false,Bool.true_and,Bool.false_and,Bool.and_true,Bool.and_false,Bool.not_true,Bool.not_false,bG]<;>simp (disch:=omega) only[go_sem,Bool.true_or,Bool.or_true,Bool.false_or,Bool.or_false,Bool.true_and,Bool.false_and,Bool.and_true,Bool.and_false,Bool.not_true,Bool.not_false,bG]),hk1⟩
  cases r
  rotate_left
  ·exact⟨_,aB K _ (fn:=t87) rfl rfl (by simp (config := { maxSteps := 4000000 }) (disch:=omega) only[t87,go_sem,h74,aD,Bool.true_or,Bool.or_true,Bool.false_or,Bool.or_false,Bool.true_and,Bool.false_and,Bool.and_true,Bool.and_false,Bool.not_true,Bool.not_false,bG]<;>simp (disch:=omega) only[go_sem,Bool.true_or,Bool.or_true,Bool.false_or,Bool.or_false,Bool.true_and,Bool.false_and,Bool.and_true,Bool.and_false,Bool.not_true,Bool.not_false,bG]),hk1⟩
  exact⟨_,aB K _ (fn:=t87) rfl rfl (by simp (config := { maxSteps := 4000000 }) (disch:=omega) only[t87,go_sem,h74,aD,Bool.true_or,Bool.or_true,Bool.false_or,Bool.or_false,Bool.true_and,Bool.false_and,Bool.and_true,Bool.and_false,Bool.not_true,Bool.not_false,bG,hc1,hc2,dG,eQ,fV,h119,h120]<;>simp (disch:=omega) only[go_sem,Bool.true_or,Bool.or_true,Bool.false_or,Bool.or_false,Bool.true_and,Bool.false_and,Bool.and_true,Bool.and_false,Bool.not_true,Bool.not_false,bG]),hk2⟩
 by_cases b3:e.n=0
 rotate_left
 ·exact⟨_,aB K _ (fn:=t87) rfl rfl (by simp (config := { maxSteps := 4000000 }) (disch:=omega) only[t87,go_sem,h74,aD,Bool.true_or,Bool.or_true,Bool.false_or,Bool.or_false,Bool.true_and,Bool.false_and,Bool.and_true,Bool.and_false,Bool.not_true,Bool.not_false,bG]<;>simp (disch:=omega) only[go_sem,Bool.true_or,Bool.or_true,Bool.false_or,Bool.or_false,Bool.true_and,Bool.false_and,Bool.and_true,Bool.and_false,Bool.not_true,Bool.not_false,bG]),hk1⟩
 by_cases b4:0<e.vs.length
 ·exact⟨_,aB K _ (fn:=t87) rfl rfl (by simp (config := { maxSteps := 4000000 }) (disch:=omega) only[t87,go_sem,h74,aD,Bool.true_or,Bool.or_true,Bool.false_or,Bool.or_false,Bool.true_and,Bool.false_and,Bool.and_true,Bool.and_false,Bool.not_true,Bool.not_false,bG]<;>simp (disch:=omega) only[go_sem,Bool.true_or,Bool.or_true,Bool.false_or,Bool.or_false,Bool.true_and,Bool.false_and,Bool.and_true,Bool.and_false,Bool.not_true,Bool.not_false,bG]),hk1⟩
 cases r
 rotate_left
 ·exact⟨_,aB K _ (fn:=t87) rfl rfl (by simp (config := { maxSteps := 4000000 }) (disch:=omega) only[t87,go_sem,h74,aD,Bool.true_or,Bool.or_true,Bool.false_or,Bool.or_false,Bool.true_and,Bool.false_and,Bool.and_true,Bool.and_false,Bool.not_true,Bool.not_false,bG]<;>simp (disch:=omega) only[go_sem,Bool.true_or,Bool.or_true,Bool.false_or,Bool.or_false,Bool.true_and,Bool.false_and,Bool.and_true,Bool.and_false,Bool.not_true,Bool.not_false,bG]),hk1⟩
 exact⟨_,aB K _ (fn:=t87) rfl rfl (by simp (config := { maxSteps := 4000000 }) (disch:=omega) only[t87,go_sem,h74,aD,Bool.true_or,Bool.or_true,Bool.false_or,Bool.or_false,Bool.true_and,Bool.false_and,Bool.and_true,Bool.and_false,Bool.not_true,Bool.not_false,bG,hc1,hc2,dG,eQ,fV,h119,h120]<;>simp (disch:=omega) only[go_sem,Bool.true_or,Bool.or_true,Bool.false_or,Bool.or_false,Bool.true_and,Bool.false_and,Bool.and_true,Bool.and_false,Bool.not_true,Bool.not_false,bG]),hk2⟩
theorem bHl (p:Pg)(ib ik ir ic:Nat)(e:Ex)(hw:e.w≤1048576)(S:aA)(hc:S[ic]? = some (ckB p ib ik ir))(hcl:p.cs.length≤2000000):aKw p ib ik ir ic e S (eM p e):=by
 have hs:∃num kids more word is,ofF e.k e.n=⟨num,kids,more,word,is⟩:=⟨_,_,_,_,_,rfl⟩
 obtain⟨num,kids,more,word,is,hs⟩:=hs
 by_cases a:e.k=1∨e.k=2∨e.k=3∨e.k=4∨e.k=5∨e.k=9
 ·have h1:num=true∧more=false:=by
   unfold ofF at hs
   rcases a with a|a|a|a|a|a<;>rw[a]at hs<;>simp at hs<;>(first|exact⟨hs.1.symm,hs.2.2.1.symm⟩|exact⟨hs.1,hs.2.2.1⟩|exact⟨hs.1,hs.2.2.1.symm⟩|exact⟨hs.1.symm,hs.2.2.1⟩)
  obtain⟨rfl,rfl⟩:=h1
  exact aWd p ib ik ir ic e hw S hc hcl kids word is hs (by omega)
 by_cases b:e.k=8∨e.k=10
 ·have h1:num=false∧more=true:=by
   unfold ofF at hs
   rcases b with a|a<;>rw[a]at hs<;>simp at hs<;>(first|exact⟨hs.1.symm,hs.2.2.1.symm⟩|exact⟨hs.1,hs.2.2.1⟩|exact⟨hs.1,hs.2.2.1.symm⟩|exact⟨hs.1.symm,hs.2.2.1⟩)
  obtain⟨rfl,rfl⟩:=h1
  exact bHk p ib ik ir ic e hw S hc hcl kids word is hs (by omega) (by omega)
 by_cases c:e.k=11∧¬(e.n<0∨2<e.n)
 ·have h1:num=true∧more=false:=by
   unfold ofF at hs
   rw[c.1]at hs
   simp only[Int.reduceEq,↓reduceIte,if_neg c.2,Shp.mk.injEq]at hs
   (first|exact⟨hs.1.symm,hs.2.2.1.symm⟩|exact⟨hs.1,hs.2.2.1⟩|exact⟨hs.1,hs.2.2.1.symm⟩|exact⟨hs.1.symm,hs.2.2.1⟩)
  obtain⟨rfl,rfl⟩:=h1
  exact aWd p ib ik ir ic e hw S hc hcl kids word is hs (by omega)
 ·have h1:num=false∧more=false:=by
   unfold ofF at hs
   have e1:e.k≠1:=by omega
   have e2:e.k≠2:=by omega
   have e3:e.k≠3:=by omega
   have e4:e.k≠4:=by omega
   have e5:e.k≠5:=by omega
   have e8:e.k≠8:=by omega
   have e9:e.k≠9:=by omega
   have e10:e.k≠10:=by omega
   simp only[e1,e2,e3,e4,e5,e8,e9,e10,↓reduceIte]at hs
   by_cases e6:e.k=6
   ·simp[e6]at hs; (first|exact⟨hs.1.symm,hs.2.2.1.symm⟩|exact⟨hs.1,hs.2.2.1⟩|exact⟨hs.1,hs.2.2.1.symm⟩|exact⟨hs.1.symm,hs.2.2.1⟩)
   by_cases e7:e.k=7
   ·simp[e7]at hs; (first|exact⟨hs.1.symm,hs.2.2.1.symm⟩|exact⟨hs.1,hs.2.2.1⟩|exact⟨hs.1,hs.2.2.1.symm⟩|exact⟨hs.1.symm,hs.2.2.1⟩)
   by_cases e11:e.k=11
   ·have hn:e.n<0∨2<e.n:=by
     rcases Classical.em (e.n<0∨2<e.n) with h|h
     ·exact h
     ·exact absurd ⟨e11,h⟩ c
    simp[e11,hn]at hs; (first|exact⟨hs.1.symm,hs.2.2.1.symm⟩|exact⟨hs.1,hs.2.2.1⟩|exact⟨hs.1,hs.2.2.1.symm⟩|exact⟨hs.1.symm,hs.2.2.1⟩)
   by_cases e12:e.k=12
   ·simp[e12]at hs; (first|exact⟨hs.1.symm,hs.2.2.1.symm⟩|exact⟨hs.1,hs.2.2.1⟩|exact⟨hs.1,hs.2.2.1.symm⟩|exact⟨hs.1.symm,hs.2.2.1⟩)
   by_cases e13:e.k=13
   ·simp[e13]at hs; (first|exact⟨hs.1.symm,hs.2.2.1.symm⟩|exact⟨hs.1,hs.2.2.1⟩|exact⟨hs.1,hs.2.2.1.symm⟩|exact⟨hs.1.symm,hs.2.2.1⟩)
   by_cases e14:e.k=14
   ·simp[e14]at hs; (first|exact⟨hs.1.symm,hs.2.2.1.symm⟩|exact⟨hs.1,hs.2.2.1⟩|exact⟨hs.1,hs.2.2.1.symm⟩|exact⟨hs.1.symm,hs.2.2.1⟩)
   simp[e6,e7,e11,e12,e13,e14]at hs; (first|exact⟨hs.1.symm,hs.2.2.1.symm⟩|exact⟨hs.1,hs.2.2.1⟩|exact⟨hs.1,hs.2.2.1.symm⟩|exact⟨hs.1.symm,hs.2.2.1⟩)
  obtain⟨rfl,rfl⟩:=h1
  exact bHj p ib ik ir ic e hw S hc hcl kids word is hs (by omega)
theorem CkS.putC {p:Pg}{ic ib ik ir:Nat}{S:aA}{B C A:List Int}(h:CkS p ic ib ik ir S B C A){lc:List (Nat×Int×Int)}{cc:Nat}(c1:S[ik]? = some (.mp (mpR jB lc) cc))(c2:∀v,rF lc v=if v∈C then 1 else 0)(k:Int) :
  CkS p ic ib ik ir (S.set ik (.mp (mpR jB (gA lc cc k 1)) (rC lc cc k))) B (k::C) A:=by
 refine⟨h.cb,h.ck,h.cr,h.bk,h.br,h.kr,?_,h.b.keep (bU (Ne.symm h.bk) _),iA.put c1 c2 k,h.a.keep (bU h.kr _),h.sub⟩
 rw[bU (Ne.symm h.ck)]; exact h.at'
theorem aE4 {N:Nat}(p:Pg)(ic ib ik ir:Nat)(ih:aWc p ic ib ik ir N)(e:Ex)(hw:e.w≤N+1)(hN:N+1≤1048576)(depth:Nat)(hd:depth<4000)(A B1 C1:List Int)(hB:∀v∈e.vs,v∉A)(x1 x3 x5 x6 x7 x8 x9 x10 x11 x12 x13 x14 x15 x16 x17 x18 x22 x23 x24 x25 x26 x27:TV)(S:aA)(hs:CkS p ic ib ik ir S B1 C1 (e.vs++A)) :
  ∃j r y6 y7 y21 y22 y23 S2,(j=.ret∧r=.iv (.int .i64 (gF p e.ks (depth+1) B1 C1 (e.vs++A)).1)∧(gF p e.ks (depth+1) B1 C1 (e.vs++A)).1≠0∧bW [ib,ik,ir] S S2 ∨
    j=.exit 3∧r=.iv (.int .i64 0)∧(gF p e.ks (depth+1) B1 C1 (e.vs++A)).1=0∧∃(y8 y27:TV) (S3:aA),CkS p ic ib ik ir S3 (gF p e.ks (depth+1) B1 C1 (e.vs++A)).2.1 (gF p e.ks (depth+1) B1 C1 (e.vs++A)).2.2 A∧bW [ib,ik,ir] S S3 ∧
     lp' (lim K) t44L0 [.ptr ic 58 0,x1,.iv (.int .i64 depth),x3,.iv (.int .i64 0),x5,y6,y7,x8,x9,x10,x11,x12,x13,x14,x15,x16,x17,x18,.iv (.sl e.g (aQ e.ks)),.iv (.int .i64 e.ks.length),y21,y22,y23,.iv (.sl e.gv (TM.one (.int .i64) e.vs)),.iv (.int .i64 e.vs.length),.iv (.int .i64 0),x27] S2
      = .ret (.exit 5,[.ptr ic 58 0,x1,.iv (.int .i64 depth),x3,.iv (.int .i64 0),x5,y6,y7,y8,x9,x10,x11,x12,x13,x14,x15,x16,x17,x18,.iv (.sl e.g (aQ e.ks)),.iv (.int .i64 e.ks.length),y21,y22,y23,.iv (.sl e.gv (TM.one (.int .i64) e.vs)),.iv (.int .i64 e.vs.length),.iv (.int .i64 e.vs.length),y27],S3)) ∧
   lp' (lim K) t44L1 [.ptr ic 58 0,x1,.iv (.int .i64 depth),x3,.iv (.int .i64 0),x5,x6,x7,x8,x9,x10,x11,x12,x13,x14,x15,x16,x17,x18,.iv (.sl e.g (aQ e.ks)),.iv (.int .i64 e.ks.length),.iv (.int .i64 0),x22,x23,x24,x25,x26,x27] S
    = .ret (j,[.ptr ic 58 0,x1,.iv (.int .i64 depth),x3,r,x5,y6,y7,x8,x9,x10,x11,x12,x13,x14,x15,x16,x17,x18,.iv (.sl e.g (aQ e.ks)),.iv (.int .i64 e.ks.length),y21,y22,y23,x24,x25,x26,x27],S2):=by
 have hwe:=Ex.w_eq e
 obtain⟨j,r,y6,y7,y21,y22,y23,S2,hj,hk,l1⟩:=aPb p ic ib ik ir ih e hw hN depth hd (e.vs++A) x1 x3 (.iv (.int .i64 0)) x5 x8 x9 x10 x11 x12 x13 x14 x15 x16 x17 x18 x24 x25 x26 x27 e.ks.length 0 x6 x7 x22 x23 S B1 C1 (by omega) hs
 rw[show ((0:Nat):Int)=0 from rfl]at l1
 rw[List.drop_zero]at hj
 refine⟨j,r,y6,y7,y21,y22,y23,S2,?_,l1⟩
 rcases hj with⟨h1,h2,h3⟩|⟨h1,h2,h3,h4⟩
 ·exact .inl ⟨h1,h2,h3,hk⟩
 ·obtain⟨y8,y27,S3,h5,hk2,l2⟩:=aPa p ic ib ik ir e (by omega) _ _ x1 (.iv (.int .i64 depth)) x3 (.iv (.int .i64 0)) x5 y6 y7 x9 x10 x11 x12 x13 x14 x15 x16 x17 x18 (.iv (.sl e.g (aQ e.ks))) (.iv (.int .i64 e.ks.length)) y21 y22 y23 e.vs.length 0 x8 x27 S2 _ (by omega) h4
  rw[show ((0:Nat):Int)=0 from rfl]at l2
  rw[List.drop_zero]at h5
  refine .inr ⟨h1,h2,h3,y8,y27,S3,h5 A (fun v=>?_),hk.trans hk2,l2⟩
  simp only[List.mem_append]
  constructor
  ·exact fun hv=>⟨.inr hv,fun hm=>hB v hm hv⟩
  ·rintro⟨h|h,h'⟩
   ·exact absurd h h'
   ·exact h
theorem zV (p:Pg)(hp:p.cs.length≤2000000)(ic ib ik ir:Nat):∀N,N≤1048576→aWc p ic ib ik ir N
 | 0,hN=>fun e depth S B C A hw hd hs=>by have:=Ex.w_eq e; omega
 | N+1,hN=>fun e depth S B C A hw hd hs=>by
  have hwe:=Ex.w_eq e
  rw[aE3]
  by_cases hdp:4000≤depth
  ·rw[if_pos hdp]
   refine⟨S,aB K _ (fn:=t44) rfl rfl ?_,.refl _ _,fun h=>absurd h (by decide:¬((5:Int)=0))⟩
   rw[aJ]
   simp (config := { maxSteps := 4000000 }) (disch:=omega) only[t44,go_sem]
  rw[if_neg hdp]
  obtain⟨S1,h87,hk1⟩:=bHl p ib ik ir ic e (by omega) S hs.at' hp
  rw[aJ]at h87
  have hs1:=hs.keep hk1
  have hkk:bW [ib,ik,ir] S S1:=hk1.mono (by simp)
  cases hf:eM p e with
  | false =>
   rw[if_pos rfl]
   rw[hf]at h87
   refine⟨S1,aB K _ (fn:=t44) rfl rfl ?_,hkk,fun h=>absurd h (by decide:¬((4:Int)=0))⟩
   rw[aJ]
   simp (config := { maxSteps := 4000000 }) (disch:=omega) only[t44,go_sem,h87]
  | true =>
   rw[if_neg (by decide)]
   rw[hf]at h87
   obtain⟨j,r,y5,y13,y14,y15,S2,hj,hk2,l2⟩:=aO9 p ic ib ik ir e (by omega) C (.iv (.agg (aW e))) (.iv (.int .i64 depth)) (lbE e) (.iv (.int .i64 0)) u_ u_ u_ (.iv (.bool false)) (.iv (.bool false)) u_ u_ u_ u_ u_ u_ u_ u_ u_ u_ u_ u_ e.vs.length 0 u_ u_ u_ S1 B A (by omega) hs1
   rw[show ((0:Nat):Int)=0 from rfl]at l2
   rw[List.drop_zero]at hj
   rcases hj with⟨rfl,rfl,ha⟩|⟨rfl,rfl,B1,ha,hs2⟩
   ·rw[ha]
    refine⟨S2,aB K _ (fn:=t44) rfl rfl ?_,hkk.trans hk2,fun h=>absurd h (by decide:¬((14:Int)=0))⟩
    rw[aJ]at l2 ⊢
    simp (config := { maxSteps := 4000000 }) (disch:=omega) only[t44,go_sem,h87]
    rw[l2]
    simp (config := { maxSteps := 4000000 }) (disch:=omega) only[go_sem]
   ·rw[ha]
    simp only
    obtain⟨m1,m2,m3⟩:=uB ha
    have hs2':CkS p ic ib ik ir S2 B1 C (e.vs++A):=hs2.congrA (fun v=>by simp)
    have hB:∀v∈e.vs,v∉A:=fun v hv hA=>m2 v hv (hs.sub v hA)
    obtain⟨lc,cc,c1,c2⟩:=hs2'.c
    obtain⟨la,ca,a1,a2⟩:=hs2'.a
    have hat:=hs2'.at'
    have c2n:=c2 e.n
    have a2n:=a2 e.n
    have n1:=hs.cb
    have n2:=hs.ck
    have n3:=hs.cr
    have n4:=hs.bk
    have n5:=hs.br
    have n6:=hs.kr
    by_cases hk1:e.k=1
    ·by_cases hm:e.n∈C
     ·rw[if_pos ⟨hk1,hm⟩]
      rw[if_pos hm]at c2n
      refine⟨S2,aB K _ (fn:=t44) rfl rfl ?_,hkk.trans hk2,fun h=>absurd h (by decide:¬((14:Int)=0))⟩
      rw[aJ]at l2 ⊢
      simp (config := { maxSteps := 4000000 }) (disch:=omega) only[t44,go_sem,h87]
      rw[l2]
      simp (config := { maxSteps := 4000000 }) (disch:=omega) only[go_sem,hat,c1,c2n]
     ·rw[if_neg (fun h=>hm h.2),if_neg (by omega),if_pos hk1]
      rw[if_neg hm]at c2n
      have hs3:=hs2'.putC c1 c2 e.n
      obtain⟨j,r,y6,y7,y21,y22,y23,S4,hj,l3⟩:=aE4 p ic ib ik ir (zV p hp ic ib ik ir N (by omega)) e hw hN depth (by omega) A B1 (e.n::C) hB (.iv (.agg (aW e))) (lbE e) y5 u_ u_ u_ (.iv (.bool false)) (.iv (.bool false)) (.iv (.sl e.gv (TM.one (.int .i64) e.vs))) (.iv (.int .i64 e.vs.length)) y13 y14 y15 (.iv (.bool true)) (.iv (.bool false)) (.iv (.bool false)) u_ u_ u_ u_ u_ u_ _ hs3
      rcases hj with⟨rfl,rfl,hne,hk4⟩|⟨rfl,rfl,h0,y8,y27,S5,hs5,hk5,l5⟩
      ·refine⟨S4,aB K _ (fn:=t44) rfl rfl ?_,(hkk.trans hk2).trans ((bW.set _ (by simp) _).trans hk4),fun h=>absurd h hne⟩
       rw[aJ]at l2 l3 ⊢
       simp (config := { maxSteps := 4000000 }) (disch:=omega) only[t44,go_sem,h87]
       rw[l2]
       simp (config := { maxSteps := 4000000 }) (disch:=omega) only[go_sem,hat,c1,c2n,aD]
       rw[l3]
       simp (config := { maxSteps := 4000000 }) (disch:=omega) only[go_sem]
      ·refine⟨S5,aB K _ (fn:=t44) rfl rfl ?_,(hkk.trans hk2).trans ((bW.set _ (by simp) _).trans hk5),fun _=>hs5⟩
       rw[h0]
       rw[aJ]at l2 l3 l5 ⊢
       simp (config := { maxSteps := 4000000 }) (disch:=omega) only[t44,go_sem,h87]
       rw[l2]
       simp (config := { maxSteps := 4000000 }) (disch:=omega) only[go_sem,hat,c1,c2n,aD]
       rw[l3]
       simp (config := { maxSteps := 4000000 }) (disch:=omega) only[go_sem]
       rw[l5]
       simp (config := { maxSteps := 4000000 }) (disch:=omega) only[go_sem]
    ·rw[if_neg (fun h=>hk1 h.1),if_neg hk1]
     by_cases hk24:e.k=2∨e.k=4
     ·by_cases hm:e.n∈e.vs++A
      ·rw[if_neg (fun h=>h.2 hm)]
       rw[if_pos hm]at a2n
       rcases hk24 with hk24|hk24
       ·obtain⟨j,r,y6,y7,y21,y22,y23,S4,hj,l3⟩:=aE4 p ic ib ik ir (zV p hp ic ib ik ir N (by omega)) e hw hN depth (by omega) A B1 C hB (.iv (.agg (aW e))) (lbE e) y5 u_ u_ u_ (.iv (.bool false)) (.iv (.bool false)) (.iv (.sl e.gv (TM.one (.int .i64) e.vs))) (.iv (.int .i64 e.vs.length)) y13 y14 y15 (.iv (.bool false)) u_ (.iv (.bool false)) u_ u_ u_ u_ u_ u_ _ hs2'
        rcases hj with⟨rfl,rfl,hne,hk4⟩|⟨rfl,rfl,h0,y8,y27,S5,hs5,hk5,l5⟩
        ·refine⟨S4,aB K _ (fn:=t44) rfl rfl ?_,(hkk.trans hk2).trans hk4,fun h=>absurd h hne⟩
         rw[aJ]at l2 l3 ⊢
         simp (config := { maxSteps := 4000000 }) (disch:=omega) only[t44,go_sem,h87]
         rw[l2]
         simp (config := { maxSteps := 4000000 }) (disch:=omega) only[go_sem,hat,aD,a1,a2n]
         rw[l3]
         simp (config := { maxSteps := 4000000 }) (disch:=omega) only[go_sem]
        ·refine⟨S5,aB K _ (fn:=t44) rfl rfl ?_,(hkk.trans hk2).trans hk5,fun _=>hs5⟩
         rw[h0]
         rw[aJ]at l2 l3 l5 ⊢
         simp (config := { maxSteps := 4000000 }) (disch:=omega) only[t44,go_sem,h87]
         rw[l2]
         simp (config := { maxSteps := 4000000 }) (disch:=omega) only[go_sem,hat,aD,a1,a2n]
         rw[l3]
         simp (config := { maxSteps := 4000000 }) (disch:=omega) only[go_sem]
         rw[l5]
         simp (config := { maxSteps := 4000000 }) (disch:=omega) only[go_sem]
       ·obtain⟨j,r,y6,y7,y21,y22,y23,S4,hj,l3⟩:=aE4 p ic ib ik ir (zV p hp ic ib ik ir N (by omega)) e hw hN depth (by omega) A B1 C hB (.iv (.agg (aW e))) (lbE e) y5 u_ u_ u_ (.iv (.bool false)) (.iv (.bool false)) (.iv (.sl e.gv (TM.one (.int .i64) e.vs))) (.iv (.int .i64 e.vs.length)) y13 y14 y15 (.iv (.bool false)) u_ (.iv (.bool false)) u_ u_ u_ u_ u_ u_ _ hs2'
        rcases hj with⟨rfl,rfl,hne,hk4⟩|⟨rfl,rfl,h0,y8,y27,S5,hs5,hk5,l5⟩
        ·refine⟨S4,aB K _ (fn:=t44) rfl rfl ?_,(hkk.trans hk2).trans hk4,fun h=>absurd h hne⟩
         rw[aJ]at l2 l3 ⊢
         simp (config := { maxSteps := 4000000 }) (disch:=omega) only[t44,go_sem,h87]
         rw[l2]
         simp (config := { maxSteps := 4000000 }) (disch:=omega) only[go_sem,hat,aD,a1,a2n]
         rw[l3]
         simp (config := { maxSteps := 4000000 }) (disch:=omega) only[go_sem]
        ·refine⟨S5,aB K _ (fn:=t44) rfl rfl ?_,(hkk.trans hk2).trans hk5,fun _=>hs5⟩
         rw[h0]
         rw[aJ]at l2 l3 l5 ⊢
         simp (config := { maxSteps := 4000000 }) (disch:=omega) only[t44,go_sem,h87]
         rw[l2]
         simp (config := { maxSteps := 4000000 }) (disch:=omega) only[go_sem,hat,aD,a1,a2n]
         rw[l3]
         simp (config := { maxSteps := 4000000 }) (disch:=omega) only[go_sem]
         rw[l5]
         simp (config := { maxSteps := 4000000 }) (disch:=omega) only[go_sem]
      ·rw[if_pos ⟨hk24,hm⟩]
       rw[if_neg hm]at a2n
       refine⟨S2,aB K _ (fn:=t44) rfl rfl ?_,hkk.trans hk2,fun h=>absurd h (by decide:¬((6:Int)=0))⟩
       rw[aJ]at l2 ⊢
       rcases hk24 with hk24|hk24
       ·simp (config := { maxSteps := 4000000 }) (disch:=omega) only[t44,go_sem,h87]
        rw[l2]
        simp (config := { maxSteps := 4000000 }) (disch:=omega) only[go_sem,hat,a1,a2n]
       ·simp (config := { maxSteps := 4000000 }) (disch:=omega) only[t44,go_sem,h87]
        rw[l2]
        simp (config := { maxSteps := 4000000 }) (disch:=omega) only[go_sem,hat,a1,a2n]
     ·rw[if_neg (fun h=>hk24 h.1)]
      have hk2':e.k≠2:=fun h=>hk24 (.inl h)
      have hk4':e.k≠4:=fun h=>hk24 (.inr h)
      obtain⟨j,r,y6,y7,y21,y22,y23,S4,hj,l3⟩:=aE4 p ic ib ik ir (zV p hp ic ib ik ir N (by omega)) e hw hN depth (by omega) A B1 C hB (.iv (.agg (aW e))) (lbE e) y5 u_ u_ u_ (.iv (.bool false)) (.iv (.bool false)) (.iv (.sl e.gv (TM.one (.int .i64) e.vs))) (.iv (.int .i64 e.vs.length)) y13 y14 y15 (.iv (.bool false)) u_ (.iv (.bool false)) u_ u_ u_ u_ u_ u_ _ hs2'
      rcases hj with⟨rfl,rfl,hne,hk4⟩|⟨rfl,rfl,h0,y8,y27,S5,hs5,hk5,l5⟩
      ·refine⟨S4,aB K _ (fn:=t44) rfl rfl ?_,(hkk.trans hk2).trans hk4,fun h=>absurd h hne⟩
       rw[aJ]at l2 l3 ⊢
       simp (config := { maxSteps := 4000000 }) (disch:=omega) only[t44,go_sem,h87]
       rw[l2]
       simp (config := { maxSteps := 4000000 }) (disch:=omega) only[go_sem,hat,aD]
       rw[l3]
       simp (config := { maxSteps := 4000000 }) (disch:=omega) only[go_sem]
      ·refine⟨S5,aB K _ (fn:=t44) rfl rfl ?_,(hkk.trans hk2).trans hk5,fun _=>hs5⟩
       rw[h0]
       rw[aJ]at l2 l3 l5 ⊢
       simp (config := { maxSteps := 4000000 }) (disch:=omega) only[t44,go_sem,h87]
       rw[l2]
       simp (config := { maxSteps := 4000000 }) (disch:=omega) only[go_sem,hat,aD]
       rw[l3]
       simp (config := { maxSteps := 4000000 }) (disch:=omega) only[go_sem]
       rw[l5]
       simp (config := { maxSteps := 4000000 }) (disch:=omega) only[go_sem]
theorem aWe (p:Pg)(hp:p.b.w≤1048576∧Dt.ws p.cs≤1048576)(x0 x1 x4 x5:TV)(S:aA):∀(k i:Nat) (x3 x9 x10:TV),i+k=p.cs.length →
  ∃j r y3 y8 y9 y10,(j=.ret∧r=.iv (.int .i64 2)∧((p.cs.drop i).all fun d=>fN d&&plF d)=false∨j=.exit 0∧r=.iv (.int .i64 0)∧((p.cs.drop i).all fun d=>fN d&&plF d)=true) ∧
   lp' (lim K) t13L0 [x0,x1,.iv (.int .i64 0),x3,x4,x5,.iv (.sl p.gc (bQ p.cs)),.iv (.int .i64 p.cs.length),.iv (.int .i64 (i:Int)),x9,x10] S=.ret (j,[x0,x1,r,y3,x4,x5,.iv (.sl p.gc (bQ p.cs)),.iv (.int .i64 p.cs.length),y8,y9,y10],S)
 | 0,i,x3,x9,x10,h=>by
  obtain rfl:i=p.cs.length:=by omega
  refine⟨.exit 0,.iv (.int .i64 0),?_,?_,?_,?_,.inr ⟨rfl,rfl,by rw[List.drop_length]; rfl⟩,aH K _ _ t13L0.eq_1 ?_⟩
  rotate_left 4
  ·simp (disch:=omega) only[go_sem]
   rfl
 | k+1,i,x3,x9,x10,h=>by
  have hpw:=hp
  have hla:i<p.cs.length:=by omega
  have hwl:=Dt.ws_len p.cs
  have hix:=ixD (g:=p.gc) (ks:=p.cs) (i:=(i:Int)) (by omega)
  rw[Int.toNat_natCast]at hix
  have hdr:=bM hla
  have hxw:=Dt.ws_mem (bP hla)
  generalize hx:p.cs.getD i default=x at *
  have hm:=aV4 1048576 (by omega) x (by omega)
  have hq:=aV6 1048576 (by omega) x (by omega)
  rw[cH]at hm hq
  cases h1:fN x with
  | false =>
   rw[h1]at hm
   refine⟨.ret,.iv (.int .i64 2),?_,?_,?_,?_,.inl ⟨rfl,rfl,by rw[hdr,List.all_cons,h1,Bool.false_and,Bool.false_and]⟩,aH K _ _ t13L0.eq_1 ?_⟩
   rotate_left 4
   ·simp (disch:=omega) only[go_sem,hix,eZ,aC hm]
    rfl
  | true =>
   rw[h1]at hm
   cases h2:plF x with
   | false =>
    rw[h2]at hq
    refine⟨.ret,.iv (.int .i64 2),?_,?_,?_,?_,.inl ⟨rfl,rfl,by rw[hdr,List.all_cons,h1,h2,Bool.true_and,Bool.false_and]⟩,aH K _ _ t13L0.eq_1 ?_⟩
    rotate_left 4
    ·simp (disch:=omega) only[go_sem,hix,eZ,aC hm,aC hq]
     rfl
   | true =>
    rw[h2]at hq
    obtain⟨j,r,y3,y8,y9,y10,hj,ih⟩:=aWe p hp x0 x1 x4 x5 S k (i+1) (aV2 x) (.iv (.bool true)) (.iv (.bool false)) (by omega)
    rw[show ((i+1:Nat):Int)=(i:Int)+1 by omega]at ih
    refine⟨j,r,y3,y8,y9,y10,?_,aH K _ _ t13L0.eq_1 ?_⟩
    ·rw[hdr,List.all_cons,h1,h2,Bool.true_and,Bool.true_and]; exact hj
    ·simp (disch:=omega) only[go_sem,hix,eZ,aC hm,aC hq,aF]
     exact congrArg er ih
def lH (p:Pg):Int:=if p.gl<0∨20000<p.gl∨p.vr<0 then 2 else if (p.cs.all fun d=>fN d&&plF d)=false then 2 else (chk p p.b 0 [] [] []).1
theorem bHm (p:Pg)(hp:p.b.w≤1048576∧Dt.ws p.cs≤1048576):TM.Pure K 13 [.iv (.agg (cA p))] (.iv (.int .i64 (lH p))):=by
 have hpw:=hp
 have hwl:=Dt.ws_len p.cs
 unfold lH
 by_cases hg:p.gl<0∨20000<p.gl∨p.vr<0
 ·rw[if_pos hg]
  refine aR (S:=[]) (r:=.iv (.int .i64 2)) (aB K _ (fn:=t13) rfl rfl ?_) (by rw[aN])
  unfold cA
  by_cases g1:p.gl<0
  ·simp (disch:=omega) only[t13,go_sem]
  ·by_cases g2:20000<p.gl
   ·simp (disch:=omega) only[t13,go_sem]
   ·simp (disch:=omega) only[t13,go_sem]
 rw[if_neg hg]
 obtain⟨j,r,y3,y8,y9,y10,hj,ih⟩:=aWe p hp (.iv (.agg (cA p))) (lbP p) u_ (.iv (.bool false)) [] p.cs.length 0 u_ u_ u_ (by omega)
 rw[show ((0:Nat):Int)=0 from rfl]at ih
 rw[List.drop_zero]at hj
 rcases hj with⟨rfl,rfl,ha⟩|⟨rfl,rfl,ha⟩
 ·rw[if_pos ha]
  refine aR (S:=[]) (r:=.iv (.int .i64 2)) (aB K _ (fn:=t13) rfl rfl ?_) (by rw[aN])
  unfold cA at ih ⊢
  simp (disch:=omega) only[t13,go_sem,aI]
  rw[ih]
  simp (disch:=omega) only[go_sem]
 ·rw[if_neg (by rw[ha]; decide)]
  have hs:CkS p 3 0 1 2 [.mp (mpR jB []) 0,.mp (mpR jB []) 0,.mp (mpR jB []) 0,ckB p 0 1 2] [] [] []:=by
   refine⟨by decide,by decide,by decide,by decide,by decide,by decide,rfl,⟨[],0,rfl,?_⟩,⟨[],0,rfl,?_⟩,⟨[],0,rfl,?_⟩,by simp⟩<;>intro v<;>simp[rF,TM.gO]
  obtain⟨S',hc,_,_⟩:=zV p (by omega) 3 0 1 2 1048576 (by omega) p.b 0 _ [] [] [] (by omega) (by omega) hs
  refine aR (S:=S') (r:=.iv (.int .i64 (chk p p.b 0 [] [] []).1)) (aB K _ (fn:=t13) rfl rfl ?_) (by rw[aN])
  rw[aG8,aJ,show ((0:Nat):Int)=0 from rfl]at hc
  simp only[ckB,fO,List.cons_append,List.nil_append]at hc
  unfold cA at ih ⊢
  simp (disch:=omega) only[t13,go_sem,aI]
  rw[ih]
  simp (disch:=omega) only[go_sem,hc]
def Dt.pr (d:Dt):Bool:=decide (d.k=6)&&decide (d.ks.length=2)
mutual
def same:Dt→Dt→Bool
 | .mk k n t _ ks _,.mk k' n' t' _ ks' _=>decide (k=k')&&((decide (k=6)&&decide (ks.length=2))||(decide (n=n')&&decide (t=t')))&&eG ks ks'
def eG:List Dt→List Dt→Bool
 | [],[]=>true
 | d::ds,e::es=>same d e&&eG ds es
 | [],_::_=>false
 | _::_,[]=>false
end
theorem uC (a b:Dt):same a b=(decide (a.k=b.k)&&(a.pr||(decide (a.n=b.n)&&decide (a.t=b.t)))&&eG a.ks b.ks):=by
 cases a; cases b; rw[same]; rfl
theorem mP:∀ {a b:List Dt},a.length≠b.length→eG a b=false
 | [],[],h=>absurd rfl h
 | [],_::_,_=>by rw[eG]
 | _::_,[],_=>by rw[eG]
 | x::a,y::b,h=>by
  rw[eG,mP (by simpa using h),Bool.and_false]
theorem bC0 {a b:Dt}(h:(a.pr&&b.pr)=false):same a b=(decide (a.k=b.k)&&decide (a.n=b.n)&&decide (a.t=b.t)&&eG a.ks b.ks):=by
 rw[uC]
 by_cases hk:a.k=b.k
 ·by_cases hl:a.ks.length=b.ks.length
  ·have:a.pr=false:=by
    have e:a.pr=b.pr:=by unfold Dt.pr; rw[hk,hl]
    rw[←e,Bool.and_self]at h; exact h
   rw[this]; simp[Bool.and_assoc]
  ·rw[mP hl]; simp
 ·simp[hk]
theorem bC1 {a b:Dt}(ha:a.pr=true)(hb:b.pr=true):same a b=(same (a.ks.getD 0 default) (b.ks.getD 0 default)&&same (a.ks.getD 1 default) (b.ks.getD 1 default)):=by
 rw[uC,ha]
 simp only[Dt.pr,Bool.and_eq_true,decide_eq_true_eq]at ha hb
 rw[decide_eq_true (show a.k=b.k by omega)]
 match h1:a.ks,h2:b.ks with
 | [x,y],[z,u]=>simp[eG]
 | [],_=>rw[h1]at ha; simp at ha
 | [_],_=>rw[h1]at ha; simp at ha
 | _::_::_::_,_=>rw[h1]at ha; simp at ha
 | _,[]=>rw[h2]at hb; simp at hb
 | _,[_]=>rw[h2]at hb; simp at hb
 | _,_::_::_::_=>rw[h2]at hb; simp at hb
abbrev lbD (d:Dt):TV:=.lb [.iv (.int .i64 d.k),.iv (.int .i64 d.n),.iv (.str d.t),.iv (.sl d.g (bQ d.ks)),.iv (.int .i64 d.p)]
abbrev agD (d:Dt):TV:=.iv (.agg [.int .i64 d.k,.int .i64 d.n,.str d.t,.sl d.g (bQ d.ks),.int .i64 d.p])
theorem aRg {f:Nat}{args:List TV}{v:IV}(h:(lim K).call f args []=.ret (.iv v,[])):Pure K f args (.iv v):=⟨_,_,h,rfl⟩
mutual
def eqE:Ex→Ex→Bool
 | .mk k n _ vs r _ ks,.mk k' n' _ vs' r' _ ks'=>decide (k=k')&&decide (n=n')&&(r==r')&&decide (vs=vs')&&eR ks ks'
def eR:List Ex→List Ex→Bool
 | [],[]=>true
 | d::ds,e::es=>eqE d e&&eR ds es
 | [],_::_=>false
 | _::_,[]=>false
end
theorem aE5 (a b:Ex):eqE a b=(decide (a.k=b.k)&&decide (a.n=b.n)&&(a.r==b.r)&&decide (a.vs=b.vs)&&eR a.ks b.ks):=by
 cases a; cases b; rw[eqE]; rfl
theorem aHq:∀ {a b:List Ex},a.length≠b.length→eR a b=false
 | [],[],h=>absurd rfl h
 | [],_::_,_=>by rw[eR]
 | _::_,[],_=>by rw[eR]
 | x::a,y::b,h=>by
  rw[eR,aHq (by simpa using h),Bool.and_false]
abbrev agE (d:Ex):TV:=.iv (.agg [.int .i64 d.k,.int .i64 d.n,.sl d.gv (TM.one (.int .i64) d.vs),.bool d.r,.sl d.g (aQ d.ks)])
def aKz (p q:Pg):Bool:=decide (p.gl=q.gl)&&decide (p.vr=q.vr)&&eG p.cs q.cs&&eqE p.b q.b
theorem aPc (a b:Ex)(hl:a.vs.length=b.vs.length)(ha:a.w≤1048576)(x0 x1 x6 x7:TV)(S:aA):∀(k i:Nat) (x8 x9 x10 x11:TV),i+k=a.vs.length →
  ∃j i' x8' x9',(j=.ret∧a.vs.drop i≠b.vs.drop i∨j=.exit 0∧a.vs.drop i=b.vs.drop i) ∧
   lp' (lim K) t58L1 [x0,x1,lbE a,lbE b,.iv (.bool false),.iv (.int .i64 (i:Int)),x6,x7,x8,x9,x10,x11] S=.ret (j,[x0,x1,lbE a,lbE b,.iv (.bool false),i',x6,x7,x8',x9',x10,x11],S)
 | 0,i,x8,x9,x10,x11,h=>by
  have c1:¬((i:Int)<a.vs.length):=by omega
  refine⟨.exit 0,?_,?_,?_,.inr ⟨rfl,?_⟩,aH K _ _ t58L1.eq_1 ?_⟩
  rotate_left 4
  ·simp (config := { maxSteps := 4000000 }) (disch:=omega) only[go_sem,c1]
   rfl
  ·rw[List.drop_eq_nil_of_le (by omega),List.drop_eq_nil_of_le (by omega)]
 | k+1,i,x8,x9,x10,x11,h=>by
  have c1:(i:Int)<a.vs.length:=by omega
  have hw:=Ex.w_eq a
  have hla:i<a.vs.length:=by omega
  have hlb:i<b.vs.length:=by omega
  have hix:=gZ (IV.int .i64) (t:=a.gv) (l:=a.vs) (i:=(i:Int)) (by omega)
  have hiy:=gZ (IV.int .i64) (t:=b.gv) (l:=b.vs) (i:=(i:Int)) (by omega)
  rw[Int.toNat_natCast]at hix hiy
  rw[bM hla,bM hlb]
  generalize hx:a.vs.getD i default=x at *
  generalize hy:b.vs.getD i default=y at *
  by_cases hv:x=y
  ·obtain⟨j,i',x8',x9',hj,ih⟩:=aPc a b hl ha x0 x1 x6 x7 S k (i+1) (.iv (.bool true)) (.iv (.bool false)) x10 x11 (by omega)
   rw[show ((i+1:Nat):Int)=(i:Int)+1 by omega]at ih
   refine⟨j,i',x8',x9',(by rw[hv]; simpa using hj),aH K _ _ t58L1.eq_1 ?_⟩
   simp (config := { maxSteps := 4000000 }) (disch:=omega) only[go_sem,c1,hix,hiy,hv,bne_self_eq_false,aF]
   exact congrArg er ih
  ·refine⟨.ret,?_,?_,?_,.inl ⟨rfl,(by simp[hv])⟩,aH K _ _ t58L1.eq_1 ?_⟩
   rotate_left 3
   ·simp (config := { maxSteps := 4000000 }) (disch:=omega) only[go_sem,c1,hix,hiy,hv,aF]
    rfl
theorem aPd (a b:Ex)(hl:a.ks.length=b.ks.length)(ha:a.w≤1048576)(x0 x1 x5 x7 x8 x9:TV)(S:aA)(H:∀x∈a.ks,∀y∈b.ks,(lim K).call 58 [agE x,agE y] S=.ret (.iv (.bool (eqE x y)),S)):∀(k i:Nat) (x10 x11:TV),i+k=a.ks.length →
  ∃j i' x10' x11',(j=.ret∧eR (a.ks.drop i) (b.ks.drop i)=false∨j=.exit 2∧eR (a.ks.drop i) (b.ks.drop i)=true) ∧
   lp' (lim K) t58L0 [x0,x1,lbE a,lbE b,.iv (.bool false),x5,.iv (.int .i64 (i:Int)),x7,x8,x9,x10,x11] S=.ret (j,[x0,x1,lbE a,lbE b,.iv (.bool false),x5,i',x7,x8,x9,x10',x11'],S)
 | 0,i,x10,x11,h=>by
  have c1:¬((i:Int)<a.ks.length):=by omega
  refine⟨.exit 2,?_,?_,?_,.inr ⟨rfl,?_⟩,aH K _ _ t58L0.eq_1 ?_⟩
  rotate_left 4
  ·simp (config := { maxSteps := 4000000 }) (disch:=omega) only[go_sem,aD,c1]
   rfl
  ·rw[List.drop_eq_nil_of_le (by omega),List.drop_eq_nil_of_le (by omega),eR]
 | k+1,i,x10,x11,h=>by
  have c1:(i:Int)<a.ks.length:=by omega
  have hw:=Ex.w_eq a
  have hw2:=Ex.ws_len a.ks
  have hla:i<a.ks.length:=by omega
  have hlb:i<b.ks.length:=by omega
  have hix:=ixE (g:=a.g) (ks:=a.ks) (i:=(i:Int)) (by omega)
  have hiy:=ixE (g:=b.g) (ks:=b.ks) (i:=(i:Int)) (by omega)
  rw[Int.toNat_natCast]at hix hiy
  have hc:=H _ (bP hla) _ (bP hlb)
  rw[bM hla,bM hlb,eR]
  generalize hx:a.ks.getD i default=x at *
  generalize hy:b.ks.getD i default=y at *
  by_cases hv:eqE x y=true
  ·obtain⟨j,i',x10',x11',hj,ih⟩:=aPd a b hl ha x0 x1 x5 x7 x8 x9 S H k (i+1) (.iv (.bool true)) (.iv (.bool false)) (by omega)
   rw[show ((i+1:Nat):Int)=(i:Int)+1 by omega]at ih
   rw[hv]at hc
   refine⟨j,i',x10',x11',(by rw[hv,Bool.true_and]; exact hj),aH K _ _ t58L0.eq_1 ?_⟩
   simp (config := { maxSteps := 4000000 }) (disch:=omega) only[go_sem,aD,c1,hix,hiy,fG,hc,aF]
   exact congrArg er ih
  ·rw[Bool.not_eq_true]at hv
   rw[hv]at hc
   refine⟨.ret,?_,?_,?_,.inl ⟨rfl,(by rw[hv,Bool.false_and])⟩,aH K _ _ t58L0.eq_1 ?_⟩
   rotate_left 3
   ·simp (config := { maxSteps := 4000000 }) (disch:=omega) only[go_sem,aD,c1,hix,hiy,fG,hc,aF]
    rfl
theorem aWf:∀(N:Nat) (a b:Ex) (S:aA),a.w≤N→N≤1048576→b.w≤1048576→(lim K).call 58 [agE a,agE b] S=.ret (.iv (.bool (eqE a b)),S)
 | 0,a,b,S,h,hN,hb=>by have:=Ex.w_eq a; omega
 | N+1,a,b,S,h,hN,hb=>by
  refine aB K _ (fn:=t58) rfl rfl ?_
  rw[aE5]
  by_cases c1:a.k=b.k
  ·by_cases c2:a.n=b.n
   ·by_cases c3:a.r=b.r
    ·have e3:(a.r != b.r)=false:=by simp[c3]
     have e4:(a.r==b.r)=true:=by simp[c3]
     by_cases c4:a.vs.length=b.vs.length
     ·have c4':(a.vs.length:Int)=b.vs.length:=by omega
      by_cases c5:a.ks.length=b.ks.length
      ·have c5':(a.ks.length:Int)=b.ks.length:=by omega
       obtain⟨j,i',x8',x9',hj,ih⟩:=aPc a b c4 (by omega) (agE a) (agE b) u_ (.iv (.bool false)) S a.vs.length 0 u_ u_ u_ u_ (by omega)
       rw[show ((0:Nat):Int)=0 from rfl]at ih
       rw[List.drop_zero,List.drop_zero]at hj
       rcases hj with⟨rfl,hs⟩|⟨rfl,hs⟩
       ·rw[decide_eq_false hs]
        simp (config := { maxSteps := 4000000 }) (disch:=omega) only[t58,go_sem,aD,e3,e4,Bool.not_true]
        rw[ih]
        simp (config := { maxSteps := 4000000 }) (disch:=omega) only[go_sem]
       ·obtain⟨j2,i2,x10',x11',hj2,ih2⟩:=aPd a b c5 (by omega) (agE a) (agE b) i' (.iv (.bool false)) x8' x9' S (fun x hx y hy=>aWf N x y S (by have:=Ex.kid_lt hx; omega) (by omega) (by have:=Ex.kid_lt hy; omega)) a.ks.length 0 u_ u_ (by omega)
        rw[show ((0:Nat):Int)=0 from rfl]at ih2
        rw[List.drop_zero,List.drop_zero]at hj2
        simp (config := { maxSteps := 4000000 }) (disch:=omega) only[t58,go_sem,aD,e3,e4,Bool.not_true]
        rw[ih]
        simp (config := { maxSteps := 4000000 }) (disch:=omega) only[go_sem]
        rw[ih2]
        rcases hj2 with⟨rfl,hs2⟩|⟨rfl,hs2⟩
        ·rw[hs2]
         simp (config := { maxSteps := 4000000 }) (disch:=omega) only[go_sem]
        ·rw[hs2]
         simp (config := { maxSteps := 4000000 }) (disch:=omega) only[go_sem]
      ·have c5':¬((a.ks.length:Int)=b.ks.length):=by omega
       rw[aHq c5,Bool.and_false]
       simp (config := { maxSteps := 4000000 }) (disch:=omega) only[t58,go_sem,aD,e3,e4,Bool.not_true]
     ·have c4':¬((a.vs.length:Int)=b.vs.length):=by omega
      rw[decide_eq_false (show ¬a.vs=b.vs from fun e=>c4 (by rw[e])),Bool.and_false,Bool.false_and]
      simp (config := { maxSteps := 4000000 }) (disch:=omega) only[t58,go_sem,aD,e3,e4,Bool.not_true]
    ·have c5:(a.r==b.r)=false:=by simp[c3]
     have c6:(a.r != b.r)=true:=by simp[c3]
     rw[c5,Bool.and_false,Bool.false_and,Bool.false_and]
     simp (config := { maxSteps := 4000000 }) (disch:=omega) only[t58,go_sem,c5,c6,Bool.not_false]
   ·rw[decide_eq_false c2,Bool.and_false,Bool.false_and,Bool.false_and,Bool.false_and]
    simp (config := { maxSteps := 4000000 }) (disch:=omega) only[t58,go_sem]
  ·rw[decide_eq_false c1,Bool.false_and,Bool.false_and,Bool.false_and,Bool.false_and]
   simp (config := { maxSteps := 4000000 }) (disch:=omega) only[t58,go_sem]
def cF:Nat→Dt→List Dt×Dt
 | 0,d=>([],d)
 | n+1,d=>if d.pr then (d.ks.getD 0 default::(cF n (d.ks.getD 1 default)).1,(cF n (d.ks.getD 1 default)).2) else ([],d)
theorem sY {d:Dt}(h:d.pr=true):d.ks.length=2:=by
 simp only[Dt.pr,Bool.and_eq_true,decide_eq_true_eq]at h; exact h.2
theorem oR:∀(n:Nat) (d:Dt),d.w≤n→(cF n d).2.pr=false∧(cF n d).2.w≤d.w
 | 0,d,h=>by have:=Dt.w_eq d; omega
 | n+1,d,h=>by
  rw[cF]
  split
  ·rename_i hp
   have h2:=sY hp
   have m1:=Dt.kid_lt (bP (l:=d.ks) (i:=1) (by omega))
   have ih:=oR n (d.ks.getD 1 default) (by omega)
   exact⟨ih.1,Nat.le_trans ih.2 (by omega)⟩
  ·rename_i hp
   exact⟨by simpa using hp,Nat.le_refl _⟩
theorem rK:∀(n:Nat) (d:Dt),∀x∈(cF n d).1,x.w<d.w
 | 0,d,x,h=>by simp[cF]at h
 | n+1,d,x,h=>by
  rw[cF]at h
  split at h
  ·rename_i hp
   have h2:=sY hp
   have m0:=Dt.kid_lt (bP (l:=d.ks) (i:=0) (by omega))
   have m1:=Dt.kid_lt (bP (l:=d.ks) (i:=1) (by omega))
   rcases List.mem_cons.1 h with rfl|h
   ·exact m0
   ·have:=rK n _ x h; omega
  ·simp at h
theorem rL:∀(n:Nat) (d:Dt),(cF n d).1.length≤d.w
 | 0,d=>by simp[cF]
 | n+1,d=>by
  rw[cF]
  split
  ·rename_i hp
   have h2:=sY hp
   have m1:=Dt.kid_lt (bP (l:=d.ks) (i:=1) (by omega))
   have:=rL n (d.ks.getD 1 default)
   rw[List.length_cons]; omega
  ·simp
theorem aPe {a b:Dt}(h:a.pr≠b.pr):same a b=false:=by
 rw[uC]
 by_cases hk:a.k=b.k
 ·by_cases hl:a.ks.length=b.ks.length
  ·exact absurd (by unfold Dt.pr; rw[hk,hl]) h
  ·rw[mP hl]; simp
 ·simp[hk]
theorem zW:∀(n:Nat) (a b:Dt),a.w≤n→same a b=(eG (cF n a).1 (cF n b).1&&same (cF n a).2 (cF n b).2)
 | 0,a,b,h=>by have:=Dt.w_eq a; omega
 | n+1,a,b,h=>by
  rw[cF,cF]
  by_cases ha:a.pr=true
  ·by_cases hb:b.pr=true
   ·have h2:=sY ha
    have m1:=Dt.kid_lt (bP (l:=a.ks) (i:=1) (by omega))
    rw[if_pos ha,if_pos hb,bC1 ha hb,zW n _ (b.ks.getD 1 default) (by omega)]
    simp only[eG,Bool.and_assoc]
   ·rw[if_pos ha,if_neg hb,aPe (fun e=>hb (by rw[←e]; exact ha))]
    simp[eG]
  ·by_cases hb:b.pr=true
   ·rw[if_neg ha,if_pos hb,aPe (fun e=>ha (by rw[e]; exact hb))]
    simp[eG]
   ·rw[if_neg ha,if_neg hb]; simp[eG]
theorem aPf (d:Dt):(gP d).length=5∧(gP d).all iR=true:=by rw[cH]; exact⟨rfl,rfl⟩
theorem aWg (x0 x2 x3:TV):∀(n:Nat) (d:Dt) (done:List Dt) (x5:TV),d.w≤n→done.length+d.w≤1048576 →
  ∃x5' S',lp' (lim K) t50L0 [x0,lbD d,x2,x3,acc 0 (done.map gP),x5] (jK 5 39 (done.map gP))=.ret (.exit 0,[x0,lbD (cF n d).2,x2,x3,acc 0 ((done++(cF n d).1).map gP),x5'],S')
 | 0,d,done,x5,h,hl=>by have:=Dt.w_eq d; omega
 | n+1,d,done,x5,h,hl=>by
  by_cases hp:d.pr=true
  ·have h2:=sY hp
   have h6:d.k=6:=by simp only[Dt.pr,Bool.and_eq_true,decide_eq_true_eq]at hp; exact hp.1
   have m0:=Dt.kid_lt (bP (l:=d.ks) (i:=0) (by omega))
   have m1:=Dt.kid_lt (bP (l:=d.ks) (i:=1) (by omega))
   have hx:=ixD (g:=d.g) (ks:=d.ks) (i:=0) (by omega)
   have hx1:=ixD (g:=d.g) (ks:=d.ks) (i:=1) (by omega)
   rw[Int.toNat_zero]at hx
   rw[show (1:Int).toNat=1 from rfl]at hx1
   rw[cF,if_pos hp]
   generalize d.ks.getD 0 default=u at *
   generalize d.ks.getD 1 default=u1 at *
   obtain⟨x5',S',ih⟩:=aWg x0 x2 x3 n u1 (done++[u]) (.iv (.bool true)) (by omega) (by simp only[List.length_append,List.length_cons,List.length_nil]; omega)
   have ha:=zL (w:=5) (b:=64) (el:=39) (t:=.full) (aPf u) (fD.map aPf done) (cM (by rw[List.length_map]; omega))
   have em:(done++[u]).map gP=done.map gP++[gP u]:=by simp
   rw[em,List.append_assoc]at ih
   refine⟨x5',S',aH K _ _ t50L0.eq_1 ?_⟩
   have h2':(d.ks.length:Int)=2:=by omega
   rw[cH u]at ha ih
   simp (disch:=omega) only[go_sem,aI,h6,h2',hx,hx1,eZ,ha,jY,iL]
   exact congrArg er ih
  ·rw[cF,if_neg hp,List.append_nil]
   rw[Bool.not_eq_true,Dt.pr]at hp
   refine⟨?_,?_,aH K _ _ t50L0.eq_1 ?_⟩
   rotate_left 2
   ·by_cases h6:d.k=6
    ·have h2:¬((d.ks.length:Int)=2):=by intro e; rw[h6]at hp; simp at hp; omega
     simp (disch:=omega) only[go_sem,aI]
     rfl
    ·simp (disch:=omega) only[go_sem,aI]
theorem aE6 (n:Nat)(d:Dt)(hn:d.w≤n)(hd:d.w≤1048576):Pure K 50 [agD d] (.tup [.iv (.sl (eP (cF n d).1) (bQ (cF n d).1)),agD (cF n d).2]):=by
 obtain⟨x5',S',e⟩:=aWg (agD d) (.iv (.sl .nil [])) (.lb [.iv (.int .i64 0),.iv (.int .i64 0),.iv (.str []),.iv (.sl .nil []),.iv (.int .i64 0)]) n d [] u_ hn (by simp only[List.length_nil]; omega)
 rw[List.map_nil,jF,jZ,List.nil_append]at e
 rw[kG]
 generalize cF n d=q at *
 obtain⟨q1,q2⟩:=q
 refine aV t50 rfl rfl ?_
 simp only at e ⊢
 simp (disch:=omega) only[t50,go_sem]
 rw[e]
 simp (disch:=omega) only[go_sem,rB,jY,iL]
end Go.Proofs.YtookmpaholmmfaaGreatDoor
