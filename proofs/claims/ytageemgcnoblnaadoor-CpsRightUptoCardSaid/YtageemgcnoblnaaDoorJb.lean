/- Some texts of the proof, joined. Condition: none. -/
import Derived.Test.YtageemgcnoblnaaDoorJa
import Derived.Test.YtageemgcnoblnaaDoorTmE
import Derived.Test.YtageemgcnoblnaaDoorTmF
set_option maxRecDepth 100000
set_option maxHeartbeats 64000000
set_option linter.unusedSimpArgs false
set_option linter.unusedVariables false
namespace Go.Proofs.YtageemgcnoblnaaDoor
open Go Go.TM
theorem aZe {S:aA}{g:Tag}{l:List Ex}{z:Ex}(hz:l.getLast? = some z):indexAddrS 5 (.iv (.sl g (bS l))) ((l.length:Int)-1)=some (.iv (.cp (eT z))):=by
 have hne:l≠[]:=by rintro rfl; simp at hz
 have hp:0<l.length:=List.length_pos_iff.2 hne
 have hg:(bS l)[((l.length:Int)-1).toNat]? = some (eT z):=by
  rw[show ((l.length:Int)-1).toNat=l.length-1 by omega,fI,List.getElem?_map,←List.getLast?_eq_getElem?,hz]
  rfl
 exact pJ (by omega) hg (nR z)
theorem bD8 (j:Nat)(q:Nat)(S:aA):(lim K).call 76 [acc j (stl q)] S=.ret (.fn 96 [] [.ptr S.length 23 0],S++[.cells 23 false [acc j (stl q)]]):=by
 refine aB K _ (fn:=t76) rfl rfl ?_
 by_cases h:stl q=[]
 ·rw[h,gS]
  simp (config := { maxSteps := 4000000 }) (disch:=omega) only[t76,go_sem]
 ·rw[eP _ h]
  simp (config := { maxSteps := 4000000 }) (disch:=omega) only[t76,go_sem]
theorem yN (env:Env)(S:aA)(a b c d e:IV):bB env S (.iv (.cp [a,b,c,d,e])) 5=some [.iv a,.iv b,.iv c,.iv d,.iv e]:=by simp[bB,sub]
attribute [go_sem] yN
theorem aS1 {b0:Int}{N:Nat}(hb0:0≤b0∧b0≤1152921504606846976)(hC:pQ b0 N)(hVs:∀m,m≤N→kE b0 m)(hLd:∀m,m≤N→sK b0 m):aSr b0 (N+1):=by
 intro l g k0 k1 σ x S jm jf hx ho htg hlen hb hB hM
 rw[nC]at hx
 split at hx
 ·cases hx
 rename_i z hz
 obtain⟨v,hv,hx⟩:=Option.bind_eq_some_iff.1 hx
 obtain⟨u,hu,hx⟩:=Option.bind_eq_some_iff.1 hx
 obtain⟨w,hw,hx⟩:=Option.bind_eq_some_iff.1 hx
 have hne:l≠[]:=by rintro rfl; simp at hz
 have hp:0<l.length:=List.length_pos_iff.2 hne
 have hzm:z∈l:=List.mem_of_getLast? hz
 generalize hq:(l.length-1) / 64=q at *
 have hq1:64*q≤l.length-1:=by omega
 have l1:=(mono N).values hv
 have l2:=(mono N).code hu
 have l3:=(mono N).laid hw
 have l4:=(mono N).parts hx
 have hBw:Bd b0 w.2:=hB.le l4
 have hBu:Bd b0 u.2:=hBw.le l3
 have hBv:Bd b0 v.2.2:=hBu.le l2
 have n1:=l1.nv
 have n2:=l2.nv
 have n3:=l3.nv
 have hj:jm<S.length∧jf<S.length:=⟨bD hM.own,bD hM.row⟩
 have hle:=aL l
 -- the two boxes
 generalize hS2:S++[aM.cells 62 false [TV.ptr jm 64 0]]++[aM.cells 24 false [TV.iv (IV.sl g (bS l))]]=S2
 have hl2:S2.length=S.length+2:=by rw[←hS2]; simp
 have k2:bC [] S S2:=by rw[←hS2]; exact (bC.app _ _ _).trans (bC.app _ _ _)
 have a2:S2[S.length]? = some (aM.cells 62 false [TV.ptr jm 64 0]):=by rw[←hS2]; simp
 have b2:S2[S.length+1]? = some (aM.cells 24 false [TV.iv (IV.sl g (bS l))]):=by rw[←hS2]; simp
 have hM2:=hM.keep k2 (by simp) (by simp)
 obtain⟨j,S3,lp1,hg3,hk3,hl3⟩:=aSz (n0:=S2.length) (L:=l.length) (by omega) (b:=S.length+1) (g:=g) rfl (.ptr jm 64 0) (.iv (.sl g (bS l))) (.iv (.agg [.int .i64 k0,.int .i64 k1])) (.ptr S.length 62 0) (.lb [.iv (.int .i64 k0),.iv (.int .i64 k1)]) (.lb [.iv (.int .i64 0),.iv (.int .i64 0),.iv (.int .i64 0),.iv (.int .i64 0),.iv (.int .i64 0),.iv (.sl .nil []),.iv (.sl .nil [])]) u_ u_ u_ u_ u_ u_ u_ u_ u_ u_ q 0 0 S2 u_ (by omega) (Gl.nil ..) b2 (by omega) (by omega)
 rw[hq]at lp1 hg3
 rw[show stl 0=[] from rfl,gS,show ((64*0:Nat):Int)=0 from rfl,show ((64*q:Nat):Int)=64*(q:Int) by omega]at lp1
 have k3:bC [] S2 S3:=hk3 rfl (bC.refl _ _)
 have a3:=k3.get _ _ (by simp) a2
 have b3:=k3.get _ _ (by simp) b2
 have hM3:=hM2.keep k3 (by simp) (by simp)
 -- the last part's values
 obtain⟨t',sl⟩:=aSv htg (a:=64*q) (b:=l.length-1) (by omega) (by omega)
 rw[show ((64*q:Nat):Int)=64*(q:Int) by omega,show ((l.length-1:Nat):Int)=(l.length:Int)-1 by omega]at sl
 rw[List.drop_take]at hv
 have hXl:∀e∈(l.drop (64*q)).take (l.length-1-64*q),XO e:=fun e he=>ho e (List.mem_of_mem_drop (List.mem_of_mem_take he))
 obtain⟨jp,ja,S4,c45,g1,g2,hd,hM4,k4⟩:=hVs N (Nat.le_refl _) (g:=t') hv hXl (by simp; omega) hb hBv hM3
 obtain⟨s1,s2,s3,s4⟩:=(dP N).values hv hXl
 have a4:=k4.get _ _ (by simp; omega) a3
 have b4:=k4.get _ _ (by simp; omega) b3
 -- the last one's code
 have ix:=aZe (S:=S4) (g:=g) hz
 generalize hS5:S4++[aM.cells 46 false [.iv (.int .i64 0),.iv (.int .i64 0),.iv (.int .i64 0),.iv (.int .i64 0),.iv (.int .i64 0),.iv (.sl .nil []),.iv (.sl .nil [])]]=S5
 have k5:bC [] S4 S5:=by rw[←hS5]; exact bC.app _ _ _
 have o5:S5[S4.length]? = some (aM.cells 46 false [.iv (.int .i64 0),.iv (.int .i64 0),.iv (.int .i64 0),.iv (.int .i64 0),.iv (.int .i64 0),.iv (.sl .nil []),.iv (.sl .nil [])]):=by rw[←hS5]; simp
 have a5:=k5.get _ _ (by simp) a4
 have b5:=k5.get _ _ (by simp) b4
 obtain⟨S6,c24,hM6,k6⟩:=hC hu (ho z hzm) (by omega) hBu (hM4.keep k5 (by simp) (by simp))
 have tu:=(dP N).code hu (ho z hzm)
 obtain⟨S7,c23,hM7,k7⟩:=hLd N (Nat.le_refl _) hw (SR.acc jp _) tu s2 (by have:=hBv.hi; omega) (by omega) hBw hM6
 have tw:=(dP N).laid hw tu (fun s hs=>s2 s (List.mem_reverse.1 hs))
 have k57:=k6.trans k7
 have hS4l:S.length+2≤S4.length:=by have:=k4.len; omega
 have o7:=k57.get _ _ (by simp; omega) o5
 have a7:=k57.get _ _ (by simp; omega) a5
 have b7:=k57.get _ _ (by simp; omega) b5
 have a6:=k6.get _ _ (by simp; omega) a5
 have b6:=k6.get _ _ (by simp; omega) b5
 obtain⟨w0,w1,w2,w3,w4,w5,w6,u5,u6,hwe⟩:=tw
 generalize hS8:S7.set S4.length (aM.cells 46 false [.iv (.int .i64 w0),.iv (.int .i64 w1),.iv (.int .i64 w2),.iv (.int .i64 w3),.iv (.int .i64 w4),.iv (.sl w5 u5),.iv (.sl w6 u6)])=S8
 have k8:bC [S4.length] S7 S8:=by rw[←hS8]; exact bC.set _ (by simp) _
 have o8:S8[S4.length]? = some (aM.cells 46 false [.iv (.int .i64 w0),.iv (.int .i64 w1),.iv (.int .i64 w2),.iv (.int .i64 w3),.iv (.int .i64 w4),.iv (.sl w5 u5),.iv (.sl w6 u6)]):=by rw[←hS8]; exact bW (bD o7) _
 have c76:=bD8 j q S8
 generalize he:e49 jm S.length (S.length+1) S4.length S8.length (.iv (.sl g (bS l))) (.iv (.agg [.int .i64 k0,.int .i64 k1])) (acc j (stl q)) (.iv (.int .i64 (64*(q:Int)))) (.iv (.int .i64 (64*(q:Int)))) (acc jp (dS v.1)) (.iv (.bool false))=e
 generalize hSa:S8++[aM.cells 23 false [acc j (stl q)]]++[aM.lp .ready none e [18,19] aFy aFz]=Sa
 have ka:bC [] S8 Sa:=by rw[←hSa]; exact (bC.app _ _ _).trans (bC.app _ _ _)
 have hlt8:=bD o8
 have hZ:ZS Sa S.length (S.length+1) S4.length S8.length (S8.length+1) jm jf g l e (acc j (stl q)) w.1 w.2:=by
  refine⟨ka.get _ _ (by simp) (k8.get _ _ (by simp; omega) a7),ka.get _ _ (by simp) (k8.get _ _ (by simp; omega) b7),?_,?_,?_,(hM7.keep k8 (by simp; omega) (by simp; omega)).keep ka (by simp) (by simp),by omega⟩
  ·rw[hwe]; exact ka.get _ _ (by simp) o8
  ·rw[←hSa]; simp
  ·rw[←hSa]; simp
 rw[←he]at hZ
 obtain⟨Sb,y3,y4,lp2,hZb,kb⟩:=aS0 hb0 hVs hLd ho htg hlen (q:=q) (by omega) q N w.1 w.2 x Sa u_ u_ (Nat.le_refl _) (by omega) hx ((dP N).laid hw tu (fun s hs=>s2 s (List.mem_reverse.1 hs))) (by omega) hB hZ
 have hlen23:aB6 .sl Sa (acc j (stl q))=some (.iv (.int .i64 q)):=by rw[(SR.acc j (stl q)).len Sa,yM]
 have hca:=hZ.fc
 have c96:(lim K).call 96 [.yld (S8.length+1),.ptr S8.length 23 0] Sa=.ret (u_,Sb):=by
  refine aB K _ (fn:=t96) rfl rfl ?_
  simp (config := { maxSteps := 4000000 }) (disch:=omega) only[t96,go_sem,hca,hlen23,aF]
  rw[lp2]
  simp (config := { maxSteps := 4000000 }) (disch:=omega) only[go_sem]
 have hyb:=hZb.fy
 have hob:=hZb.fo
 have tx:=(dP N).parts hx ⟨w0,w1,w2,w3,w4,w5,w6,u5,u6,hwe⟩ ho
 obtain⟨x0,x1,x2,x3,x4,x5,x6,z5,z6,hxe⟩:=tx
 rw[hxe]at hob ⊢
 simp only[List.map_cons,List.map_nil]at hob
 have hob':∀X,(Sb.set (S8.length+1) X)[S4.length]? = some (aM.cells 46 false [.iv (.int .i64 x0),.iv (.int .i64 x1),.iv (.int .i64 x2),.iv (.int .i64 x3),.iv (.int .i64 x4),.iv (.sl x5 z5),.iv (.sl x6 z6)]):=fun X=>by rw[bK (by omega)]; exact hob
 rw[he]at hyb
 refine⟨Sb.set (S8.length+1) (.lp .exhausted none e [18,19] aFy aFz),aB K _ (fn:=t49) rfl rfl ?_,hZb.ms.keep (bC.set (I:=[S8.length+1]) _ (by simp) _) (by simp; omega) (by simp; omega),?_⟩
 ·simp (config := { maxSteps := 4000000 }) (disch:=omega) only[t49,go_sem]
  rw[hS2,show (S++[aM.cells 62 false [TV.ptr jm 64 0]]).length=S.length+1 by simp,lp1]
  rw[aZ]at ix c24
  rw[hwe]at c23
  subst he
  unfold aFy aFz e49 at hSa hyb
  have hl8:(S8++[aM.cells 23 false [acc j (stl q)]]).length=S8.length+1:=by simp
  simp (config := { maxSteps := 4000000 }) (disch:=omega) only[go_sem,aF,yM,a3,b3,hle,sl,c45,a4,b4,hS5,a5,b5,ix,c24,a6,b6,c23,a7,b7,o7,hS8,c76,go_rangeFunc,aYo,hl8,hSa,c96,hyb,hob']
  rfl
 ·refine⟨?_,fun r B hr hb=>?_⟩
  ·have h1:=k57.len
   have h2:=k8.len
   have h3:=ka.len
   have h4:=kb.len
   have h5:=k5.len
   simp; omega
  ·simp at hr
   have hlr:=bD hb
   have u1:=k57.get r B (by simp; omega) (k5.get r B (by simp) (k4.get r B (by simp; omega) (k3.get r B (by simp) (k2.get r B (by simp) hb))))
   have u2:=ka.get r B (by simp) (k8.get r B (by simp; omega) u1)
   rw[bK (by omega)]
   exact kb.get r B (by simp; omega) u2
structure bG0 (b0:Int) (n:Nat):Prop where
 v:tI b0 n
 vs:kE b0 n
 l:aSn b0 n
 d:sK b0 n
 c:pQ b0 n
 t:aSq b0 n
 s:aSr b0 n
theorem aS2 {b0:Int}(hb0:0≤b0∧b0≤1152921504606846976):∀N n,n≤N→bG0 b0 n
 | 0,n,h=>by
  obtain rfl:n=0:=by omega
  refine⟨?_,?_,?_,?_,?_,?_,?_⟩
  ·intro e σ x S jm jf hx; simp[eG]at hx
  ·intro l g σ x S jm jf hx; simp[bP]at hx
  ·intro e σ x S jm jf hx; simp[eQ]at hx
  ·intro l r t σ x S jm jf hx; simp[cC]at hx
  ·intro e k0 k1 σ x S jm jf hx; simp[eS]at hx
  ·intro e k0 k1 σ x S jm jf hx; simp[nB]at hx
  ·intro l g k0 k1 σ x S jm jf hx; simp[nC]at hx
 | N+1,n,h=>by
  have ih:=aS2 hb0 N
  by_cases h1:n≤N
  ·exact ih n h1
  ·obtain rfl:n=N+1:=by omega
   have a:=ih N (Nat.le_refl _)
   exact⟨aI2 hb0 a.l a.vs,aFx fun m hm=>(ih m hm).v,aSo hb0 a.c,aOb hb0 fun m hm=>(ih m hm).c,aOc hb0 a.v a.vs a.d a.c a.t a.s,aSt hb0 a.vs a.d,aS1 hb0 a.c (fun m hm=>(ih m hm).vs) fun m hm=>(ih m hm).d⟩
def lH:Nat→Ex→Bool
 | 0,_=>false
 | n+1,e=>decide (e.k=4)||e.ks.any (lH n)
theorem aS3 {n:Nat}(ih:∀e:Ex,e.w≤n→∀S,(lim K).call 19 [.iv (.agg (eT e))] S=.ret (.iv (.bool (lH n e)),S)){g:Tag}{ks:List Ex}(hw:∀x∈ks,x.w≤n)(hl:ks.length≤1048576)(x0 x1 x2:TV)(S:aA):∀(k i:Nat) (x2 x3 x6 x7:TV),i+k=ks.length →
  ∃j y2 y3 y5 y6 y7,lp' (lim K) t70L0 [.iv (.sl g (bS ks)),.fn 19 [] [],x2,x3,.iv (.int .i64 ks.length),.iv (.int .i64 i),x6,x7] S=.ret (j,[.iv (.sl g (bS ks)),.fn 19 [] [],y2,y3,.iv (.int .i64 ks.length),y5,y6,y7],S) ∧
   ((j=.exit 0∧(ks.drop i).any (lH n)=false)∨(j=.ret∧(ks.drop i).any (lH n)=true∧∃q:Nat,y2=.iv (.int .i64 q)))
 | 0,i,x2,x3,x6,x7,h=>by
  obtain rfl:i=ks.length:=by omega
  refine⟨.exit 0,x2,x3,.iv (.int .i64 ks.length),.iv (.bool false),x7,aN K _ _ t70L0.eq_1 ?_,.inl ⟨rfl,by rw[List.drop_length]; rfl⟩⟩
  simp (config := { maxSteps := 4000000 }) (disch:=omega) only[go_sem]
 | k+1,i,x2,x3,x6,x7,h=>by
  have hla:i<ks.length:=by omega
  have hix:indexAddrS 5 (.iv (.sl g (bS ks))) (i:Int)=some (.iv (.cp (eT ks[i]))):=by
   refine pJ (by omega) ?_ (nR _)
   rw[Int.toNat_natCast,fI,List.getElem?_map,List.getElem?_eq_getElem hla]
   rfl
  have hc:=cJ (ih ks[i] (hw _ (List.getElem_mem _)) []) rfl
  have hdr:=List.drop_eq_getElem_cons hla
  rw[aZ]at hix hc
  cases hs:lH n ks[i] with
  | true =>
   rw[hs]at hc
   refine⟨.ret,.iv (.int .i64 (i:Nat)),.iv (.int .i64 (i:Nat)),.iv (.int .i64 (i:Nat)),.iv (.bool true),.iv (.bool true),aN K _ _ t70L0.eq_1 ?_,.inr ⟨rfl,by rw[hdr,List.any_cons,hs]; rfl,i,rfl⟩⟩
   simp (config := { maxSteps := 4000000 }) (disch:=omega) only[go_sem,hix,yN,aQ hc]
  | false =>
   rw[hs]at hc
   obtain⟨j,y2,y3,y5,y6,y7,hlp,hj⟩:=aS3 ih hw hl x0 x1 x2 S k (i+1) x2 (.iv (.int .i64 (i:Nat))) (.iv (.bool true)) (.iv (.bool false)) (by omega)
   refine⟨j,y2,y3,y5,y6,y7,aN K _ _ t70L0.eq_1 ?_,by rw[hdr,List.any_cons,hs]; exact hj⟩
   rw[show ((i+1:Nat):Int)=(i:Int)+1 by omega]at hlp
   simp (config := { maxSteps := 4000000 }) (disch:=omega) only[go_sem,hix,yN,aQ hc,aF]
   exact congrArg er hlp
theorem aI5:∀(n:Nat) (e:Ex),e.w≤n→n≤1048576→∀S,(lim K).call 19 [.iv (.agg (eT e))] S=.ret (.iv (.bool (lH n e)),S)
 | 0,e,hw,_,S=>by have:=Ex.w_eq e; omega
 | n+1,e,hw,hn,S=>by
  have hkl:=Ex.ws_len e.ks
  have hwe:=Ex.w_eq e
  have ih:∀x:Ex,x.w≤n→∀S,(lim K).call 19 [.iv (.agg (eT x))] S=.ret (.iv (.bool (lH n x)),S):=fun x hx S=>aI5 n x hx (by omega) S
  obtain⟨j,y2,y3,y5,y6,y7,hlp,hj⟩:=aS3 ih (g:=e.g) (ks:=e.ks) (fun x hx=>by have:=Ex.kid_lt hx; omega) (by omega) u_ u_ u_ S e.ks.length 0 (.iv (.int .i64 0)) u_ u_ u_ (by omega)
  rw[List.drop_zero]at hj
  have hle:=aL e.ks
  have c70:∃q:Int,(lim K).call 70 [.iv (.sl e.g (bS e.ks)),.fn 19 [] []] S=.ret (.iv (.int .i64 q),S)∧decide (0≤q)=e.ks.any (lH n):=by
   rcases hj with⟨rfl,ha⟩|⟨rfl,ha,q,rfl⟩
   ·refine⟨-1,aB K _ (fn:=t70) rfl rfl ?_,by rw[ha]; rfl⟩
    simp (config := { maxSteps := 4000000 }) (disch:=omega) only[t70,go_sem,hle]
    rw[show ((0:Nat):Int)=0 from rfl]at hlp
    rw[hlp]
    simp (config := { maxSteps := 4000000 }) (disch:=omega) only[go_sem]
   ·refine⟨q,aB K _ (fn:=t70) rfl rfl ?_,by rw[ha]; simp⟩
    simp (config := { maxSteps := 4000000 }) (disch:=omega) only[t70,go_sem,hle]
    rw[show ((0:Nat):Int)=0 from rfl]at hlp
    rw[hlp]
    simp (config := { maxSteps := 4000000 }) (disch:=omega) only[go_sem]
  obtain⟨q,c70,hq⟩:=c70
  have c43:(lim K).call 43 [.iv (.sl e.g (bS e.ks)),.fn 19 [] []] S=.ret (.iv (.bool (e.ks.any (lH n))),S):=by
   refine aB K _ (fn:=t43) rfl rfl ?_
   rw[←hq]
   simp (config := { maxSteps := 4000000 }) (disch:=omega) only[t43,go_sem,c70]
  refine aB K _ (fn:=t19) rfl rfl ?_
  rw[aZ,lH]
  by_cases h4:e.k=4
  ·simp (config := { maxSteps := 4000000 }) (disch:=omega) only[t19,go_sem,h4,c43]
  ·simp (config := { maxSteps := 4000000 }) (disch:=omega) only[t19,go_sem,h4,c43]
def isC (c:Int):Bool:=decide (0≤c)&&decide (c≤1114111)&&(decide (c<55296)||decide (57343<c))
theorem yO (c:Int):isC c=true↔0≤c∧c≤1114111∧(c<55296∨57343<c):=by
 simp[isC]; omega
theorem aZf (c:Int):(lim K).call 103 [.iv (.int .i32 c)] []=.ret (.iv (.bool (isC c)),[]):=by
 refine aB K [] (fn:=t103) rfl rfl ?_
 simp only[t103,go_sem]
 repeat' (first|(first|refine cU (fun h=>?_) (fun h=>?_)|refine cV (fun h=>?_) (fun h=>?_)|refine cW (fun h=>?_) (fun h=>?_)|refine dV (fun h=>?_) (fun h=>?_))|simp (disch:=omega) only[go_sem])
 all_goals (congr 4; simp[isC, *]; try omega)
theorem bD9 (c:Int):(lim K).call 86 [.iv (.int .i64 c)] []=.ret (.iv (.bool (isC c)),[]):=by
 refine aB K [] (fn:=t86) rfl rfl ?_
 simp only[t86,go_sem]
 repeat' (first|(first|refine cU (fun h=>?_) (fun h=>?_)|refine cV (fun h=>?_) (fun h=>?_)|refine cW (fun h=>?_) (fun h=>?_)|refine dV (fun h=>?_) (fun h=>?_))|simp (disch:=omega) only[go_sem,aZf,aR])
 all_goals (congr 4; simp[isC, *])
 all_goals (try omega)
def bytes (c:Int):List UInt8:=(Utf8.encode c).data.toList
def nD (c:Int):List UInt8 :=
 if c<128 then [UInt8.ofNat c.toNat]
 else if c<2048 then [UInt8.ofNat (192+c.toNat / 64),UInt8.ofNat (128+c.toNat % 64)]
 else if c<65536 then [UInt8.ofNat (224+c.toNat / 4096),UInt8.ofNat (128+c.toNat / 64 % 64),UInt8.ofNat (128+c.toNat % 64)]
 else [UInt8.ofNat (240+c.toNat / 262144),UInt8.ofNat (128+c.toNat / 4096 % 64),UInt8.ofNat (128+c.toNat / 64 % 64),UInt8.ofNat (128+c.toNat % 64)]
def tab (n:Nat):Nat :=
 if n<128 then 240 else if n<194 then 241 else if n<224 then 2 else if n=224 then 19 else if n<237 then 3 else if n=237 then 35 else if n<240 then 3 else if n=240 then 52 else if n<244 then 4 else if n=244 then 68 else 241
theorem aZg:(List.range 256).all (fun n=>match g0[n]? with|some (.int .u8 m)=>m==(tab n:Int)|_=>false)=true:=by kernel_rfl
theorem aZh {n:Nat}(h:n<256):g0[n]? = some (.int .u8 (tab n)):=by
 have:=List.all_eq_true.1 aZg n (List.mem_range.2 h)
 split at this
 ·rename_i m e; rw[e]; simp at this; rw[this]
 ·cases this
theorem hK0:K.glob 0=some g0:=rfl
theorem hK1:K.glob 1=some g1:=rfl
theorem bEa:g0.length=256:=by kernel_rfl
def fol (b:UInt8):Bool:=decide (128≤b.toNat)&&decide (b.toNat≤191)
def D:List UInt8→Nat×Nat
 | []=>(65533,0)
 | a::r =>
  if a.toNat<128 then (a.toNat,1)
  else if a.toNat<194 then (65533,1)
  else if a.toNat<224 then match r with
   | b::_=>if fol b then (a.toNat % 32*64+b.toNat % 64,2) else (65533,1)
   | _=>(65533,1)
  else if a.toNat<240 then match r with
   | b::c::_=>if (decide ((if a.toNat=224 then 160 else 128)≤b.toNat)&&decide (b.toNat≤(if a.toNat=237 then 159 else 191)))&&fol c then (a.toNat % 16*4096+b.toNat % 64*64+c.toNat % 64,3) else (65533,1)
   | _=>(65533,1)
  else if a.toNat<245 then match r with
   | b::c::d::_=>if (decide ((if a.toNat=240 then 144 else 128)≤b.toNat)&&decide (b.toNat≤(if a.toNat=244 then 143 else 191)))&&fol c&&fol d then (a.toNat % 8*262144+b.toNat % 64*4096+c.toNat % 64*64+d.toNat % 64,4) else (65533,1)
   | _=>(65533,1)
  else (65533,1)
theorem bl (b:UInt8):b.toNat<256:=b.toNat_lt
theorem aH (a:UInt8)(r:List UInt8):bL (a::r)=[.int .u8 a.toNat]::bL r:=rfl
theorem aF0 (t:Tag):(lim K).call 130 [.iv (.sl t (bL []))] []=.ret (.tup [.iv (.int .i32 65533),.iv (.int .i64 0)],[]):=by
 refine aB K [] (fn:=t130) rfl rfl ?_
 simp (disch:=omega) only[t130,go_sem]
theorem eJ {a:UInt8}:ixA 256 1 (.iv (.cp g0)) (.iv (.int .u8 a.toNat))=some (.iv (.cp (g0.drop a.toNat))):=by
 have:=bl a
 rw[aNx]
 have h:(0:Int)≤(a.toNat:Int)∧(a.toNat:Int)<((256:Nat):Int):=by omega
 simp only[h,and_self,↓reduceIte,Int.toNat_natCast,Nat.mul_one]
 exact aR2 (by rw[bEa]; omega)
theorem ld0 {a:UInt8}(env:Env)(S:aA):bB env S (.iv (.cp (g0.drop a.toNat))) 1=some [.iv (.int .u8 (tab a.toNat))]:=aYg (aZh (bl a))
theorem w2:IntKind.u8.wrap (pN 8 2 7)=2:=by decide
theorem w240:IntKind.i32.wrap 515396075520=0:=by decide
theorem bG1:IntKind.i32.wrap 240=240:=by decide
theorem w241:IntKind.i32.wrap 517543559168 = -2147483648:=by decide
theorem bG2:IntKind.i32.wrap 241=241:=by decide
theorem m0:IntKind.i32.wrap (pN 32 65533 0)=0:=by decide
theorem aZi {a:Int}(h:0≤a∧a≤2147483647):IntKind.i32.wrap (bOr 32 a 0)=a:=by
 have e:BitVec.ofInt 32 a ||| BitVec.ofInt 32 0=BitVec.ofInt 32 a:=by simp
 unfold bOr
 rw[e,iN ⟨h.1,by omega⟩,aR (by omega)]
 omega
theorem m1:IntKind.i32.wrap (pN 32 65533 (-1))=65533:=by decide
theorem o1:IntKind.i32.wrap (bOr 32 0 65533)=65533:=by decide
set_option maxHeartbeats 4000000 in
theorem aOd (t:Tag)(a:UInt8)(r:List UInt8)(h1:a.toNat<128):(lim K).call 130 [.iv (.sl t (bL (a::r)))] []=.ret (.tup [.iv (.int .i32 a.toNat),.iv (.int .i64 1)],[]):=by
 have ha:=bl a
 refine aB K [] (fn:=t130) rfl rfl ?_
 have ht:tab a.toNat=240:=by simp[tab]; omega
 simp (disch:=omega) only[t130,go_sem,aH,Int.natCast_add,Int.cast_ofNat_Int,indexAddrS,hK0,hK1,eJ,ld0,ht,w240,bG1,aFm,m0,aR,aZi]
set_option maxHeartbeats 4000000 in
theorem aZj (t:Tag)(a:UInt8)(r:List UInt8)(h1:tab a.toNat=241):(lim K).call 130 [.iv (.sl t (bL (a::r)))] []=.ret (.tup [.iv (.int .i32 65533),.iv (.int .i64 1)],[]):=by
 have ha:=bl a
 refine aB K [] (fn:=t130) rfl rfl ?_
 simp (disch:=omega) only[t130,go_sem,aH,Int.natCast_add,Int.cast_ofNat_Int,indexAddrS,hK0,hK1,eJ,ld0,h1,w241,bG2,aFn,m1,o1,aR]
theorem tJ (a:UInt8)(r:List UInt8)(h:a.toNat<128):D (a::r)=(a.toNat,1):=by simp[D,h]
theorem aMj (a:UInt8)(r:List UInt8)(h:128≤a.toNat∧a.toNat<194∨245≤a.toNat):D (a::r)=(65533,1):=by
 have h1:¬a.toNat<128:=by omega
 by_cases h2:a.toNat<194
 ·simp[D,h1,h2]
 ·have h3:¬a.toNat<224:=by omega
  have h4:¬a.toNat<240:=by omega
  have h5:¬a.toNat<245:=by omega
  simp[D,h1,h2,h3,h4,h5]
theorem aF1 (a:UInt8)(r:List UInt8)(h:194≤a.toNat∧a.toNat<224):D (a::r)=match r with
      | b::_=>if fol b then (a.toNat % 32*64+b.toNat % 64,2) else (65533,1)
      | _=>(65533,1):=by
  have h1:¬a.toNat<128:=by omega
  have h2:¬a.toNat<194:=by omega
  simp only[D,h1,h2,h.2,↓reduceIte]
theorem iQ (a:UInt8)(r:List UInt8)(h:224≤a.toNat∧a.toNat<240):D (a::r)=match r with
      | b::c::_=>if (decide ((if a.toNat=224 then 160 else 128)≤b.toNat)&&decide (b.toNat≤(if a.toNat=237 then 159 else 191)))&&fol c then (a.toNat % 16*4096+b.toNat % 64*64+c.toNat % 64,3) else (65533,1)
      | _=>(65533,1):=by
  have h1:¬a.toNat<128:=by omega
  have h2:¬a.toNat<194:=by omega
  have h3:¬a.toNat<224:=by omega
  simp only[D,h1,h2,h3,h.2,↓reduceIte]
theorem iF (a:UInt8)(r:List UInt8)(h:240≤a.toNat∧a.toNat<245):D (a::r)=match r with
      | b::c::d::_=>if (decide ((if a.toNat=240 then 144 else 128)≤b.toNat)&&decide (b.toNat≤(if a.toNat=244 then 143 else 191)))&&fol c&&fol d then (a.toNat % 8*262144+b.toNat % 64*4096+c.toNat % 64*64+d.toNat % 64,4) else (65533,1)
      | _=>(65533,1):=by
  have h1:¬a.toNat<128:=by omega
  have h2:¬a.toNat<194:=by omega
  have h3:¬a.toNat<224:=by omega
  have h4:¬a.toNat<240:=by omega
  simp only[D,h1,h2,h3,h4,h.2,↓reduceIte]
theorem aMk {b:UInt8}(h:128≤b.toNat∧b.toNat≤191):fol b=true:=by simp[fol]; omega
theorem bG3 {b:UInt8}(h:¬(128≤b.toNat∧b.toNat≤191)):fol b=false:=by simp[fol]; omega
theorem bDf (a b:UInt8)(r:List UInt8)(h:194≤a.toNat∧a.toNat<224)(hb:128≤b.toNat∧b.toNat≤191):D (a::b::r)=(a.toNat % 32*64+b.toNat % 64,2):=by
 rw[aF1 a _ h]; simp[aMk hb]
theorem bDg (a b:UInt8)(r:List UInt8)(h:194≤a.toNat∧a.toNat<224)(hb:¬(128≤b.toNat∧b.toNat≤191)):D (a::b::r)=(65533,1):=by
 rw[aF1 a _ h]; simp[bG3 hb]
theorem aMl (a b c:UInt8)(r:List UInt8)(h:224≤a.toNat∧a.toNat<240)(hb:(a.toNat=224→160≤b.toNat)∧128≤b.toNat∧(a.toNat=237→b.toNat≤159)∧b.toNat≤191)(hc:128≤c.toNat∧c.toNat≤191):D (a::b::c::r)=(a.toNat % 16*4096+b.toNat % 64*64+c.toNat % 64,3):=by
 rw[iQ a _ h]
 have e1:(if a.toNat=224 then 160 else 128)≤b.toNat:=by split<;>omega
 have e2:b.toNat≤(if a.toNat=237 then 159 else 191):=by split<;>omega
 simp only[aMk hc,e1,e2,decide_true,Bool.and_self,↓reduceIte]
theorem aMm (a b c:UInt8)(r:List UInt8)(h:224≤a.toNat∧a.toNat<240)(hb:¬((a.toNat=224→160≤b.toNat)∧128≤b.toNat∧(a.toNat=237→b.toNat≤159)∧b.toNat≤191)∨¬(128≤c.toNat∧c.toNat≤191)):D (a::b::c::r)=(65533,1):=by
 rw[iQ a _ h]
 simp only[fol,Bool.and_eq_true,decide_eq_true_eq]
 rw[if_neg]
 intro⟨⟨h1,h2⟩,h3⟩
 split at h1<;>split at h2<;>omega
theorem aMn (a b c d:UInt8)(r:List UInt8)(h:240≤a.toNat∧a.toNat<245)(hb:(a.toNat=240→144≤b.toNat)∧128≤b.toNat∧(a.toNat=244→b.toNat≤143)∧b.toNat≤191)(hc:128≤c.toNat∧c.toNat≤191)(hd:128≤d.toNat∧d.toNat≤191):D (a::b::c::d::r)=(a.toNat % 8*262144+b.toNat % 64*4096+c.toNat % 64*64+d.toNat % 64,4):=by
 rw[iF a _ h]
 have e1:(if a.toNat=240 then 144 else 128)≤b.toNat:=by split<;>omega
 have e2:b.toNat≤(if a.toNat=244 then 143 else 191):=by split<;>omega
 simp only[aMk hc,aMk hd,e1,e2,decide_true,Bool.and_self,↓reduceIte]
theorem aMo (a b c d:UInt8)(r:List UInt8)(h:240≤a.toNat∧a.toNat<245)(hb:¬((a.toNat=240→144≤b.toNat)∧128≤b.toNat∧(a.toNat=244→b.toNat≤143)∧b.toNat≤191)∨¬(128≤c.toNat∧c.toNat≤191)∨¬(128≤d.toNat∧d.toNat≤191)):D (a::b::c::d::r)=(65533,1):=by
 rw[iF a _ h]
 simp only[fol,Bool.and_eq_true,decide_eq_true_eq]
 rw[if_neg]
 intro⟨⟨⟨h1,h2⟩,h3⟩,h4⟩
 split at h1<;>split at h2<;>omega
set_option maxHeartbeats 8000000 in
theorem aZk (t:Tag)(a:UInt8)(r:List UInt8)(h1:tab a.toNat=2)(h2:194≤a.toNat∧a.toNat<224):(lim K).call 130 [.iv (.sl t (bL (a::r)))] []=.ret (.tup [.iv (.int .i32 (D (a::r)).1),.iv (.int .i64 (D (a::r)).2)],[]):=by
 have ha:=bl a
 refine aB K [] (fn:=t130) rfl rfl ?_
 have e0:dY (.iv (.cp g1)) 0=some (.iv (.cp g1)):=rfl
 have e1:∀env S,bB env S (.iv (.cp g1)) 2=some [.iv (.int .u8 128),.iv (.int .u8 191)]:=fun _ _=>rfl
 have sz:IntKind.u8.wrap (pN 8 2 7)=2:=by decide
 cases r with
 | nil =>
  simp (disch:=omega) only[t130,go_sem,aH,Int.natCast_add,Int.cast_ofNat_Int,indexAddrS,hK0,hK1,eJ,ld0,h1,aR,aF,e0,e1,sz,aS,aT,bF,aU,bG,aW,aX]
  repeat' (first|(first|refine cU (fun h=>?_) (fun h=>?_)|refine cV (fun h=>?_) (fun h=>?_)|refine cW (fun h=>?_) (fun h=>?_)|refine dV (fun h=>?_) (fun h=>?_))|simp (disch:=omega) only[go_sem,aH,Int.natCast_add,Int.cast_ofNat_Int,indexAddrS,hK0,hK1,eJ,ld0,h1,aR,aF,e0,e1,sz,aS,aT,bF,aU,bG,aW,aX])
  all_goals (rw[aF1 a _ (by omega)]; rfl)
 | cons b r =>
  have hb:=bl b; simp (disch:=omega) only[t130,go_sem,aH,Int.natCast_add,Int.cast_ofNat_Int,indexAddrS,hK0,hK1,eJ,ld0,h1,aR,aF,e0,e1,sz,aS,aT,bF,aU,bG,aW,aX]
  repeat' (first|(first|refine cU (fun h=>?_) (fun h=>?_)|refine cV (fun h=>?_) (fun h=>?_)|refine cW (fun h=>?_) (fun h=>?_)|refine dV (fun h=>?_) (fun h=>?_))|simp (disch:=omega) only[go_sem,aH,Int.natCast_add,Int.cast_ofNat_Int,indexAddrS,hK0,hK1,eJ,ld0,h1,aR,aF,e0,e1,sz,aS,aT,bF,aU,bG,aW,aX])
  all_goals (first|(rw[bDg a b _ (by omega) (by omega)]; rfl)|(rw[bDf a b _ (by omega) (by omega)]; simp))
set_option maxHeartbeats 8000000 in
theorem bEb (t:Tag)(a:UInt8)(r:List UInt8)(h1:tab a.toNat=19)(h2:a.toNat=224):(lim K).call 130 [.iv (.sl t (bL (a::r)))] []=.ret (.tup [.iv (.int .i32 (D (a::r)).1),.iv (.int .i64 (D (a::r)).2)],[]):=by
 have ha:=bl a
 refine aB K [] (fn:=t130) rfl rfl ?_
 have e0:dY (.iv (.cp g1)) 2=some (.iv (.cp (g1.drop 2))):=rfl
 have e1:∀env S,bB env S (.iv (.cp (g1.drop 2))) 2=some [.iv (.int .u8 160),.iv (.int .u8 191)]:=fun _ _=>rfl
 have sz:IntKind.u8.wrap (pN 8 19 7)=3:=by decide
 cases r with
 | nil =>
  simp (disch:=omega) only[t130,go_sem,aH,Int.natCast_add,Int.cast_ofNat_Int,indexAddrS,hK0,hK1,eJ,ld0,h1,aR,aF,e0,e1,sz,aS,aT,bF,aU,bG,aW,aX]
  repeat' (first|(first|refine cU (fun h=>?_) (fun h=>?_)|refine cV (fun h=>?_) (fun h=>?_)|refine cW (fun h=>?_) (fun h=>?_)|refine dV (fun h=>?_) (fun h=>?_))|simp (disch:=omega) only[go_sem,aH,Int.natCast_add,Int.cast_ofNat_Int,indexAddrS,hK0,hK1,eJ,ld0,h1,aR,aF,e0,e1,sz,aS,aT,bF,aU,bG,aW,aX])
  all_goals (rw[iQ a _ (by omega)]; rfl)
 | cons b r =>
  cases r with
  | nil =>
   have hb:=bl b; simp (disch:=omega) only[t130,go_sem,aH,Int.natCast_add,Int.cast_ofNat_Int,indexAddrS,hK0,hK1,eJ,ld0,h1,aR,aF,e0,e1,sz,aS,aT,bF,aU,bG,aW,aX]
   repeat' (first|(first|refine cU (fun h=>?_) (fun h=>?_)|refine cV (fun h=>?_) (fun h=>?_)|refine cW (fun h=>?_) (fun h=>?_)|refine dV (fun h=>?_) (fun h=>?_))|simp (disch:=omega) only[go_sem,aH,Int.natCast_add,Int.cast_ofNat_Int,indexAddrS,hK0,hK1,eJ,ld0,h1,aR,aF,e0,e1,sz,aS,aT,bF,aU,bG,aW,aX])
   all_goals (rw[iQ a _ (by omega)]; rfl)
  | cons c r =>
   have hb:=bl b; have hc:=bl c; simp (disch:=omega) only[t130,go_sem,aH,Int.natCast_add,Int.cast_ofNat_Int,indexAddrS,hK0,hK1,eJ,ld0,h1,aR,aF,e0,e1,sz,aS,aT,bF,aU,bG,aW,aX]
   repeat' (first|(first|refine cU (fun h=>?_) (fun h=>?_)|refine cV (fun h=>?_) (fun h=>?_)|refine cW (fun h=>?_) (fun h=>?_)|refine dV (fun h=>?_) (fun h=>?_))|simp (disch:=omega) only[go_sem,aH,Int.natCast_add,Int.cast_ofNat_Int,indexAddrS,hK0,hK1,eJ,ld0,h1,aR,aF,e0,e1,sz,aS,aT,bF,aU,bG,aW,aX])
   all_goals (first|(rw[aMm a b c _ (by omega) (by omega)]; rfl)|(rw[aMl a b c _ (by omega) (by omega) (by omega)]; simp))
set_option maxHeartbeats 8000000 in
theorem bEc (t:Tag)(a:UInt8)(r:List UInt8)(h1:tab a.toNat=3)(h2:224<a.toNat∧a.toNat<237∨237<a.toNat∧a.toNat<240):(lim K).call 130 [.iv (.sl t (bL (a::r)))] []=.ret (.tup [.iv (.int .i32 (D (a::r)).1),.iv (.int .i64 (D (a::r)).2)],[]):=by
 have ha:=bl a
 refine aB K [] (fn:=t130) rfl rfl ?_
 have e0:dY (.iv (.cp g1)) 0=some (.iv (.cp g1)):=rfl
 have e1:∀env S,bB env S (.iv (.cp g1)) 2=some [.iv (.int .u8 128),.iv (.int .u8 191)]:=fun _ _=>rfl
 have sz:IntKind.u8.wrap (pN 8 3 7)=3:=by decide
 cases r with
 | nil =>
  simp (disch:=omega) only[t130,go_sem,aH,Int.natCast_add,Int.cast_ofNat_Int,indexAddrS,hK0,hK1,eJ,ld0,h1,aR,aF,e0,e1,sz,aS,aT,bF,aU,bG,aW,aX]
  repeat' (first|(first|refine cU (fun h=>?_) (fun h=>?_)|refine cV (fun h=>?_) (fun h=>?_)|refine cW (fun h=>?_) (fun h=>?_)|refine dV (fun h=>?_) (fun h=>?_))|simp (disch:=omega) only[go_sem,aH,Int.natCast_add,Int.cast_ofNat_Int,indexAddrS,hK0,hK1,eJ,ld0,h1,aR,aF,e0,e1,sz,aS,aT,bF,aU,bG,aW,aX])
  all_goals (rw[iQ a _ (by omega)]; rfl)
 | cons b r =>
  cases r with
  | nil =>
   have hb:=bl b; simp (disch:=omega) only[t130,go_sem,aH,Int.natCast_add,Int.cast_ofNat_Int,indexAddrS,hK0,hK1,eJ,ld0,h1,aR,aF,e0,e1,sz,aS,aT,bF,aU,bG,aW,aX]
   repeat' (first|(first|refine cU (fun h=>?_) (fun h=>?_)|refine cV (fun h=>?_) (fun h=>?_)|refine cW (fun h=>?_) (fun h=>?_)|refine dV (fun h=>?_) (fun h=>?_))|simp (disch:=omega) only[go_sem,aH,Int.natCast_add,Int.cast_ofNat_Int,indexAddrS,hK0,hK1,eJ,ld0,h1,aR,aF,e0,e1,sz,aS,aT,bF,aU,bG,aW,aX])
   all_goals (rw[iQ a _ (by omega)]; rfl)
  | cons c r =>
   have hb:=bl b; have hc:=bl c; simp (disch:=omega) only[t130,go_sem,aH,Int.natCast_add,Int.cast_ofNat_Int,indexAddrS,hK0,hK1,eJ,ld0,h1,aR,aF,e0,e1,sz,aS,aT,bF,aU,bG,aW,aX]
   repeat' (first|(first|refine cU (fun h=>?_) (fun h=>?_)|refine cV (fun h=>?_) (fun h=>?_)|refine cW (fun h=>?_) (fun h=>?_)|refine dV (fun h=>?_) (fun h=>?_))|simp (disch:=omega) only[go_sem,aH,Int.natCast_add,Int.cast_ofNat_Int,indexAddrS,hK0,hK1,eJ,ld0,h1,aR,aF,e0,e1,sz,aS,aT,bF,aU,bG,aW,aX])
   all_goals (first|(rw[aMm a b c _ (by omega) (by omega)]; rfl)|(rw[aMl a b c _ (by omega) (by omega) (by omega)]; simp))
set_option maxHeartbeats 8000000 in
theorem bEd (t:Tag)(a:UInt8)(r:List UInt8)(h1:tab a.toNat=35)(h2:a.toNat=237):(lim K).call 130 [.iv (.sl t (bL (a::r)))] []=.ret (.tup [.iv (.int .i32 (D (a::r)).1),.iv (.int .i64 (D (a::r)).2)],[]):=by
 have ha:=bl a
 refine aB K [] (fn:=t130) rfl rfl ?_
 have e0:dY (.iv (.cp g1)) 4=some (.iv (.cp (g1.drop 4))):=rfl
 have e1:∀env S,bB env S (.iv (.cp (g1.drop 4))) 2=some [.iv (.int .u8 128),.iv (.int .u8 159)]:=fun _ _=>rfl
 have sz:IntKind.u8.wrap (pN 8 35 7)=3:=by decide
 cases r with
 | nil =>
  simp (disch:=omega) only[t130,go_sem,aH,Int.natCast_add,Int.cast_ofNat_Int,indexAddrS,hK0,hK1,eJ,ld0,h1,aR,aF,e0,e1,sz,aS,aT,bF,aU,bG,aW,aX]
  repeat' (first|(first|refine cU (fun h=>?_) (fun h=>?_)|refine cV (fun h=>?_) (fun h=>?_)|refine cW (fun h=>?_) (fun h=>?_)|refine dV (fun h=>?_) (fun h=>?_))|simp (disch:=omega) only[go_sem,aH,Int.natCast_add,Int.cast_ofNat_Int,indexAddrS,hK0,hK1,eJ,ld0,h1,aR,aF,e0,e1,sz,aS,aT,bF,aU,bG,aW,aX])
  all_goals (rw[iQ a _ (by omega)]; rfl)
 | cons b r =>
  cases r with
  | nil =>
   have hb:=bl b; simp (disch:=omega) only[t130,go_sem,aH,Int.natCast_add,Int.cast_ofNat_Int,indexAddrS,hK0,hK1,eJ,ld0,h1,aR,aF,e0,e1,sz,aS,aT,bF,aU,bG,aW,aX]
   repeat' (first|(first|refine cU (fun h=>?_) (fun h=>?_)|refine cV (fun h=>?_) (fun h=>?_)|refine cW (fun h=>?_) (fun h=>?_)|refine dV (fun h=>?_) (fun h=>?_))|simp (disch:=omega) only[go_sem,aH,Int.natCast_add,Int.cast_ofNat_Int,indexAddrS,hK0,hK1,eJ,ld0,h1,aR,aF,e0,e1,sz,aS,aT,bF,aU,bG,aW,aX])
   all_goals (rw[iQ a _ (by omega)]; rfl)
  | cons c r =>
   have hb:=bl b; have hc:=bl c; simp (disch:=omega) only[t130,go_sem,aH,Int.natCast_add,Int.cast_ofNat_Int,indexAddrS,hK0,hK1,eJ,ld0,h1,aR,aF,e0,e1,sz,aS,aT,bF,aU,bG,aW,aX]
   repeat' (first|(first|refine cU (fun h=>?_) (fun h=>?_)|refine cV (fun h=>?_) (fun h=>?_)|refine cW (fun h=>?_) (fun h=>?_)|refine dV (fun h=>?_) (fun h=>?_))|simp (disch:=omega) only[go_sem,aH,Int.natCast_add,Int.cast_ofNat_Int,indexAddrS,hK0,hK1,eJ,ld0,h1,aR,aF,e0,e1,sz,aS,aT,bF,aU,bG,aW,aX])
   all_goals (first|(rw[aMm a b c _ (by omega) (by omega)]; rfl)|(rw[aMl a b c _ (by omega) (by omega) (by omega)]; simp))
set_option maxHeartbeats 8000000 in
theorem bEe (t:Tag)(a:UInt8)(r:List UInt8)(h1:tab a.toNat=52)(h2:a.toNat=240):(lim K).call 130 [.iv (.sl t (bL (a::r)))] []=.ret (.tup [.iv (.int .i32 (D (a::r)).1),.iv (.int .i64 (D (a::r)).2)],[]):=by
 have ha:=bl a
 refine aB K [] (fn:=t130) rfl rfl ?_
 have e0:dY (.iv (.cp g1)) 6=some (.iv (.cp (g1.drop 6))):=rfl
 have e1:∀env S,bB env S (.iv (.cp (g1.drop 6))) 2=some [.iv (.int .u8 144),.iv (.int .u8 191)]:=fun _ _=>rfl
 have sz:IntKind.u8.wrap (pN 8 52 7)=4:=by decide
 cases r with
 | nil =>
  simp (disch:=omega) only[t130,go_sem,aH,Int.natCast_add,Int.cast_ofNat_Int,indexAddrS,hK0,hK1,eJ,ld0,h1,aR,aF,e0,e1,sz,aS,aT,bF,aU,bG,aW,aX]
  repeat' (first|(first|refine cU (fun h=>?_) (fun h=>?_)|refine cV (fun h=>?_) (fun h=>?_)|refine cW (fun h=>?_) (fun h=>?_)|refine dV (fun h=>?_) (fun h=>?_))|simp (disch:=omega) only[go_sem,aH,Int.natCast_add,Int.cast_ofNat_Int,indexAddrS,hK0,hK1,eJ,ld0,h1,aR,aF,e0,e1,sz,aS,aT,bF,aU,bG,aW,aX])
  all_goals (rw[iF a _ (by omega)]; rfl)
 | cons b r =>
  cases r with
  | nil =>
   have hb:=bl b; simp (disch:=omega) only[t130,go_sem,aH,Int.natCast_add,Int.cast_ofNat_Int,indexAddrS,hK0,hK1,eJ,ld0,h1,aR,aF,e0,e1,sz,aS,aT,bF,aU,bG,aW,aX]
   repeat' (first|(first|refine cU (fun h=>?_) (fun h=>?_)|refine cV (fun h=>?_) (fun h=>?_)|refine cW (fun h=>?_) (fun h=>?_)|refine dV (fun h=>?_) (fun h=>?_))|simp (disch:=omega) only[go_sem,aH,Int.natCast_add,Int.cast_ofNat_Int,indexAddrS,hK0,hK1,eJ,ld0,h1,aR,aF,e0,e1,sz,aS,aT,bF,aU,bG,aW,aX])
   all_goals (rw[iF a _ (by omega)]; rfl)
  | cons c r =>
   cases r with
   | nil =>
    have hb:=bl b; have hc:=bl c; simp (disch:=omega) only[t130,go_sem,aH,Int.natCast_add,Int.cast_ofNat_Int,indexAddrS,hK0,hK1,eJ,ld0,h1,aR,aF,e0,e1,sz,aS,aT,bF,aU,bG,aW,aX]
    repeat' (first|(first|refine cU (fun h=>?_) (fun h=>?_)|refine cV (fun h=>?_) (fun h=>?_)|refine cW (fun h=>?_) (fun h=>?_)|refine dV (fun h=>?_) (fun h=>?_))|simp (disch:=omega) only[go_sem,aH,Int.natCast_add,Int.cast_ofNat_Int,indexAddrS,hK0,hK1,eJ,ld0,h1,aR,aF,e0,e1,sz,aS,aT,bF,aU,bG,aW,aX])
    all_goals (rw[iF a _ (by omega)]; rfl)
   | cons d r =>
    have hb:=bl b; have hc:=bl c; have hd:=bl d; simp (disch:=omega) only[t130,go_sem,aH,Int.natCast_add,Int.cast_ofNat_Int,indexAddrS,hK0,hK1,eJ,ld0,h1,aR,aF,e0,e1,sz,aS,aT,bF,aU,bG,aW,aX]
    repeat' (first|(first|refine cU (fun h=>?_) (fun h=>?_)|refine cV (fun h=>?_) (fun h=>?_)|refine cW (fun h=>?_) (fun h=>?_)|refine dV (fun h=>?_) (fun h=>?_))|simp (disch:=omega) only[go_sem,aH,Int.natCast_add,Int.cast_ofNat_Int,indexAddrS,hK0,hK1,eJ,ld0,h1,aR,aF,e0,e1,sz,aS,aT,bF,aU,bG,aW,aX])
    all_goals (first|(rw[aMo a b c d _ (by omega) (by omega)]; rfl)|(rw[aMn a b c d _ (by omega) (by omega) (by omega) (by omega)]; simp))
set_option maxHeartbeats 8000000 in
theorem bEf (t:Tag)(a:UInt8)(r:List UInt8)(h1:tab a.toNat=4)(h2:240<a.toNat∧a.toNat<244):(lim K).call 130 [.iv (.sl t (bL (a::r)))] []=.ret (.tup [.iv (.int .i32 (D (a::r)).1),.iv (.int .i64 (D (a::r)).2)],[]):=by
 have ha:=bl a
 refine aB K [] (fn:=t130) rfl rfl ?_
 have e0:dY (.iv (.cp g1)) 0=some (.iv (.cp g1)):=rfl
 have e1:∀env S,bB env S (.iv (.cp g1)) 2=some [.iv (.int .u8 128),.iv (.int .u8 191)]:=fun _ _=>rfl
 have sz:IntKind.u8.wrap (pN 8 4 7)=4:=by decide
 cases r with
 | nil =>
  simp (disch:=omega) only[t130,go_sem,aH,Int.natCast_add,Int.cast_ofNat_Int,indexAddrS,hK0,hK1,eJ,ld0,h1,aR,aF,e0,e1,sz,aS,aT,bF,aU,bG,aW,aX]
  repeat' (first|(first|refine cU (fun h=>?_) (fun h=>?_)|refine cV (fun h=>?_) (fun h=>?_)|refine cW (fun h=>?_) (fun h=>?_)|refine dV (fun h=>?_) (fun h=>?_))|simp (disch:=omega) only[go_sem,aH,Int.natCast_add,Int.cast_ofNat_Int,indexAddrS,hK0,hK1,eJ,ld0,h1,aR,aF,e0,e1,sz,aS,aT,bF,aU,bG,aW,aX])
  all_goals (rw[iF a _ (by omega)]; rfl)
 | cons b r =>
  cases r with
  | nil =>
   have hb:=bl b; simp (disch:=omega) only[t130,go_sem,aH,Int.natCast_add,Int.cast_ofNat_Int,indexAddrS,hK0,hK1,eJ,ld0,h1,aR,aF,e0,e1,sz,aS,aT,bF,aU,bG,aW,aX]
   repeat' (first|(first|refine cU (fun h=>?_) (fun h=>?_)|refine cV (fun h=>?_) (fun h=>?_)|refine cW (fun h=>?_) (fun h=>?_)|refine dV (fun h=>?_) (fun h=>?_))|simp (disch:=omega) only[go_sem,aH,Int.natCast_add,Int.cast_ofNat_Int,indexAddrS,hK0,hK1,eJ,ld0,h1,aR,aF,e0,e1,sz,aS,aT,bF,aU,bG,aW,aX])
   all_goals (rw[iF a _ (by omega)]; rfl)
  | cons c r =>
   cases r with
   | nil =>
    have hb:=bl b; have hc:=bl c; simp (disch:=omega) only[t130,go_sem,aH,Int.natCast_add,Int.cast_ofNat_Int,indexAddrS,hK0,hK1,eJ,ld0,h1,aR,aF,e0,e1,sz,aS,aT,bF,aU,bG,aW,aX]
    repeat' (first|(first|refine cU (fun h=>?_) (fun h=>?_)|refine cV (fun h=>?_) (fun h=>?_)|refine cW (fun h=>?_) (fun h=>?_)|refine dV (fun h=>?_) (fun h=>?_))|simp (disch:=omega) only[go_sem,aH,Int.natCast_add,Int.cast_ofNat_Int,indexAddrS,hK0,hK1,eJ,ld0,h1,aR,aF,e0,e1,sz,aS,aT,bF,aU,bG,aW,aX])
    all_goals (rw[iF a _ (by omega)]; rfl)
   | cons d r =>
    have hb:=bl b; have hc:=bl c; have hd:=bl d; simp (disch:=omega) only[t130,go_sem,aH,Int.natCast_add,Int.cast_ofNat_Int,indexAddrS,hK0,hK1,eJ,ld0,h1,aR,aF,e0,e1,sz,aS,aT,bF,aU,bG,aW,aX]
    repeat' (first|(first|refine cU (fun h=>?_) (fun h=>?_)|refine cV (fun h=>?_) (fun h=>?_)|refine cW (fun h=>?_) (fun h=>?_)|refine dV (fun h=>?_) (fun h=>?_))|simp (disch:=omega) only[go_sem,aH,Int.natCast_add,Int.cast_ofNat_Int,indexAddrS,hK0,hK1,eJ,ld0,h1,aR,aF,e0,e1,sz,aS,aT,bF,aU,bG,aW,aX])
    all_goals (first|(rw[aMo a b c d _ (by omega) (by omega)]; rfl)|(rw[aMn a b c d _ (by omega) (by omega) (by omega) (by omega)]; simp))
set_option maxHeartbeats 8000000 in
theorem bEg (t:Tag)(a:UInt8)(r:List UInt8)(h1:tab a.toNat=68)(h2:a.toNat=244):(lim K).call 130 [.iv (.sl t (bL (a::r)))] []=.ret (.tup [.iv (.int .i32 (D (a::r)).1),.iv (.int .i64 (D (a::r)).2)],[]):=by
 have ha:=bl a
 refine aB K [] (fn:=t130) rfl rfl ?_
 have e0:dY (.iv (.cp g1)) 8=some (.iv (.cp (g1.drop 8))):=rfl
 have e1:∀env S,bB env S (.iv (.cp (g1.drop 8))) 2=some [.iv (.int .u8 128),.iv (.int .u8 143)]:=fun _ _=>rfl
 have sz:IntKind.u8.wrap (pN 8 68 7)=4:=by decide
 cases r with
 | nil =>
  simp (disch:=omega) only[t130,go_sem,aH,Int.natCast_add,Int.cast_ofNat_Int,indexAddrS,hK0,hK1,eJ,ld0,h1,aR,aF,e0,e1,sz,aS,aT,bF,aU,bG,aW,aX]
  repeat' (first|(first|refine cU (fun h=>?_) (fun h=>?_)|refine cV (fun h=>?_) (fun h=>?_)|refine cW (fun h=>?_) (fun h=>?_)|refine dV (fun h=>?_) (fun h=>?_))|simp (disch:=omega) only[go_sem,aH,Int.natCast_add,Int.cast_ofNat_Int,indexAddrS,hK0,hK1,eJ,ld0,h1,aR,aF,e0,e1,sz,aS,aT,bF,aU,bG,aW,aX])
  all_goals (rw[iF a _ (by omega)]; rfl)
 | cons b r =>
  cases r with
  | nil =>
   have hb:=bl b; simp (disch:=omega) only[t130,go_sem,aH,Int.natCast_add,Int.cast_ofNat_Int,indexAddrS,hK0,hK1,eJ,ld0,h1,aR,aF,e0,e1,sz,aS,aT,bF,aU,bG,aW,aX]
   repeat' (first|(first|refine cU (fun h=>?_) (fun h=>?_)|refine cV (fun h=>?_) (fun h=>?_)|refine cW (fun h=>?_) (fun h=>?_)|refine dV (fun h=>?_) (fun h=>?_))|simp (disch:=omega) only[go_sem,aH,Int.natCast_add,Int.cast_ofNat_Int,indexAddrS,hK0,hK1,eJ,ld0,h1,aR,aF,e0,e1,sz,aS,aT,bF,aU,bG,aW,aX])
   all_goals (rw[iF a _ (by omega)]; rfl)
  | cons c r =>
   cases r with
   | nil =>
    have hb:=bl b; have hc:=bl c; simp (disch:=omega) only[t130,go_sem,aH,Int.natCast_add,Int.cast_ofNat_Int,indexAddrS,hK0,hK1,eJ,ld0,h1,aR,aF,e0,e1,sz,aS,aT,bF,aU,bG,aW,aX]
    repeat' (first|(first|refine cU (fun h=>?_) (fun h=>?_)|refine cV (fun h=>?_) (fun h=>?_)|refine cW (fun h=>?_) (fun h=>?_)|refine dV (fun h=>?_) (fun h=>?_))|simp (disch:=omega) only[go_sem,aH,Int.natCast_add,Int.cast_ofNat_Int,indexAddrS,hK0,hK1,eJ,ld0,h1,aR,aF,e0,e1,sz,aS,aT,bF,aU,bG,aW,aX])
    all_goals (rw[iF a _ (by omega)]; rfl)
   | cons d r =>
    have hb:=bl b; have hc:=bl c; have hd:=bl d; simp (disch:=omega) only[t130,go_sem,aH,Int.natCast_add,Int.cast_ofNat_Int,indexAddrS,hK0,hK1,eJ,ld0,h1,aR,aF,e0,e1,sz,aS,aT,bF,aU,bG,aW,aX]
    repeat' (first|(first|refine cU (fun h=>?_) (fun h=>?_)|refine cV (fun h=>?_) (fun h=>?_)|refine cW (fun h=>?_) (fun h=>?_)|refine dV (fun h=>?_) (fun h=>?_))|simp (disch:=omega) only[go_sem,aH,Int.natCast_add,Int.cast_ofNat_Int,indexAddrS,hK0,hK1,eJ,ld0,h1,aR,aF,e0,e1,sz,aS,aT,bF,aU,bG,aW,aX])
    all_goals (first|(rw[aMo a b c d _ (by omega) (by omega)]; rfl)|(rw[aMn a b c d _ (by omega) (by omega) (by omega) (by omega)]; simp))
theorem aMp (t:Tag)(l:List UInt8):(lim K).call 130 [.iv (.sl t (bL l))] []=.ret (.tup [.iv (.int .i32 (D l).1),.iv (.int .i64 (D l).2)],[]):=by
 cases l with
 | nil=>exact aF0 t
 | cons a r =>
  have ha:=bl a
  by_cases h1:a.toNat<128
  ·rw[aOd t a r h1,tJ a r h1]; rfl
  by_cases h2:a.toNat<194∨245≤a.toNat
  ·rw[aZj t a r (by simp only[tab]; (repeat' split)<;>omega),aMj a r (by omega)]; rfl
  by_cases h3:a.toNat<224
  ·exact aZk t a r (by simp only[tab]; (repeat' split)<;>omega) (by omega)
  by_cases h4:a.toNat=224
  ·exact bEb t a r (by simp only[tab]; (repeat' split)<;>omega) h4
  by_cases h5:a.toNat=237
  ·exact bEd t a r (by simp only[tab]; (repeat' split)<;>omega) h5
  by_cases h6:a.toNat<240
  ·exact bEc t a r (by simp only[tab]; (repeat' split)<;>omega) (by omega)
  by_cases h7:a.toNat=240
  ·exact bEe t a r (by simp only[tab]; (repeat' split)<;>omega) h7
  by_cases h8:a.toNat=244
  ·exact bEg t a r (by simp only[tab]; (repeat' split)<;>omega) h8
  ·exact bEf t a r (by simp only[tab]; (repeat' split)<;>omega) (by omega)
theorem aF2 (t:Tag):lp' (lim K) t113L0 [.iv (.sl t (bL [])),.iv (.int .i32 0),.iv (.int .i64 0),u_,.iv (.sl t (bL [])),.iv (.int .i64 0),.iv (.int .i64 0),u_,u_] []=.ret (.exit 0,[.iv (.sl t (bL [])),.iv (.int .i32 0),.iv (.int .i64 0),u_,.iv (.sl t (bL [])),.iv (.int .i64 0),.iv (.int .i64 0),.iv (.bool false),u_],[]):=by
 refine rP K _ _ ?_
 simp (disch:=omega) only[t113L0,go_sem]
theorem aZl (t:Tag)(l:List UInt8):(lim K).call 113 [.iv (.sl t (bL l))] []=.ret (.tup [.iv (.int .i32 (D l).1),.iv (.int .i64 (D l).2)],[]):=by
 refine aB K [] (fn:=t113) rfl rfl ?_
 cases l with
 | nil=>simp (disch:=omega) only[t113,go_sem,Int.cast_ofNat_Int,aF2,aMp]
 | cons a r =>
  have ha:=bl a
  by_cases h:a.toNat<128
  ·have hl:lp' (lim K) t113L0 [.iv (.sl t (bL (a::r))),.iv (.int .i32 0),.iv (.int .i64 0),u_,.iv (.sl t (bL (a::r))),.iv (.int .i64 ((r.length+1:Nat):Int)),.iv (.int .i64 0),u_,u_] []=.ret (.ret,[.iv (.sl t (bL (a::r))),.iv (.int .i32 a.toNat),.iv (.int .i64 1),.iv (.int .u8 a.toNat),.iv (.sl t (bL (a::r))),.iv (.int .i64 ((r.length+1:Nat):Int)),.iv (.int .i64 0),.iv (.bool true),.iv (.bool true)],[]):=by
    refine rP K _ _ ?_
    simp (disch:=omega) only[t113L0,go_sem,aH,indexAddrS,aR]
   simp (disch:=omega) only[t113,go_sem,Int.cast_ofNat_Int,hl,tJ a r h]
  ·have hl:lp' (lim K) t113L0 [.iv (.sl t (bL (a::r))),.iv (.int .i32 0),.iv (.int .i64 0),u_,.iv (.sl t (bL (a::r))),.iv (.int .i64 ((r.length+1:Nat):Int)),.iv (.int .i64 0),u_,u_] []=.ret (.exit 0,[.iv (.sl t (bL (a::r))),.iv (.int .i32 0),.iv (.int .i64 0),.iv (.int .u8 a.toNat),.iv (.sl t (bL (a::r))),.iv (.int .i64 ((r.length+1:Nat):Int)),.iv (.int .i64 0),.iv (.bool true),.iv (.bool false)],[]):=by
    refine rP K _ _ ?_
    simp (disch:=omega) only[t113L0,go_sem,aH,indexAddrS,aR]
   simp (disch:=omega) only[t113,go_sem,Int.cast_ofNat_Int,hl,aMp]
def bad (l:List UInt8):Bool:=decide ((D l).1=65533)&&decide ((D l).2≤1)
theorem aMq (c n:Int):(lim K).call 114 [.iv (.int .i32 c),.iv (.int .i64 n)] []=.ret (.iv (.bool (decide (c=65533)&&decide (n≤1))),[]):=by
 refine aB K [] (fn:=t114) rfl rfl ?_
 simp only[t114,go_sem]
 repeat' (first|(first|refine cU (fun h=>?_) (fun h=>?_)|refine cV (fun h=>?_) (fun h=>?_)|refine cW (fun h=>?_) (fun h=>?_)|refine dV (fun h=>?_) (fun h=>?_))|simp (disch:=omega) only[go_sem])
 all_goals (congr 4; simp[*])
theorem bIh (l:List UInt8):(D l).1<2097152∧(D l).2≤4:=by
 cases l with
 | nil=>simp[D]
 | cons a r =>
  have ha:=bl a
  simp only[D]
  repeat' split
  all_goals (simp only; try omega)
def bDh (n:Int):List UInt8→Int
 | []=>n
 | b::r=>bDh (64*n+b.toNat % 64) r
def bDi:List UInt8→Int
 | []=>0
 | a::r=>bDh (if r.length=1 then a.toNat % 32 else if r.length=2 then a.toNat % 16 else if r.length=3 then a.toNat % 8 else a.toNat) r
theorem bIi {n:Nat}(h:n<256):(UInt8.ofNat n).toNat=n:=by simp[UInt8.toNat_ofNat]; omega
theorem eq8 {a:UInt8}{n:Nat}(h:a.toNat=n):a=UInt8.ofNat n:=by
 have:=bl a
 apply UInt8.toNat_inj.1
 rw[bIi (by omega),h]
theorem aZm {c:Int}(h:c<128):nD c=[UInt8.ofNat c.toNat]:=by simp[nD,h]
theorem aZn {c:Int}(h:128≤c∧c<2048):nD c=[UInt8.ofNat (192+c.toNat / 64),UInt8.ofNat (128+c.toNat % 64)]:=by
 have h1:¬c<128:=by omega
 simp[nD,h1,h.2]
theorem aZo {c:Int}(h:2048≤c∧c<65536):nD c=[UInt8.ofNat (224+c.toNat / 4096),UInt8.ofNat (128+c.toNat / 64 % 64),UInt8.ofNat (128+c.toNat % 64)]:=by
 have h1:¬c<128:=by omega
 have h2:¬c<2048:=by omega
 simp[nD,h1,h2,h.2]
theorem aZp {c:Int}(h:65536≤c):nD c=[UInt8.ofNat (240+c.toNat / 262144),UInt8.ofNat (128+c.toNat / 4096 % 64),UInt8.ofNat (128+c.toNat / 64 % 64),UInt8.ofNat (128+c.toNat % 64)]:=by
 have h1:¬c<128:=by omega
 have h2:¬c<2048:=by omega
 have h3:¬c<65536:=by omega
 simp[nD,h1,h2,h3]
theorem aS4 {s:List UInt8}(h:bad s=false):isC ((D s).1:Nat)=true∧nD ((D s).1:Nat)=s.take (D s).2∧1≤(D s).2∧(D s).2≤s.length:=by
 cases s with
 | nil=>simp[bad,D]at h
 | cons a r =>
  have ha:=bl a
  by_cases h1:a.toNat<128
  ·rw[tJ a r h1]
   refine⟨(yO _).2 (by omega),?_,by simp,by simp⟩
   rw[aZm (by omega)]
   simp
  by_cases h2:a.toNat<194∨245≤a.toNat
  ·simp[bad,aMj a r (by omega)]at h
  by_cases h3:a.toNat<224
  ·cases r with
   | nil=>rw[bad,aF1 a _ (by omega)]at h; simp at h
   | cons b r =>
    have hb:=bl b
    by_cases hf:128≤b.toNat∧b.toNat≤191
    ·rw[bDf a b r (by omega) hf]
     refine⟨(yO _).2 (by simp only; omega),?_,by simp,by simp⟩
     rw[aZn (by simp only; omega)]
     simp only[List.take_succ_cons,List.take_zero,Int.toNat_natCast]
     rw[←eq8 (a:=a) (by omega),←eq8 (a:=b) (by omega)]
    ·simp[bad,bDg a b r (by omega) hf]at h
  by_cases h4:a.toNat<240
  ·match r with
   | []=>rw[bad,iQ a _ (by omega)]at h; simp at h
   | [b]=>rw[bad,iQ a _ (by omega)]at h; simp at h
   | b::c::r =>
    have hb:=bl b
    have hc:=bl c
    by_cases hf:((a.toNat=224→160≤b.toNat)∧128≤b.toNat∧(a.toNat=237→b.toNat≤159)∧b.toNat≤191)∧(128≤c.toNat∧c.toNat≤191)
    ·rw[aMl a b c r (by omega) hf.1 hf.2]
     refine⟨(yO _).2 (by simp only; omega),?_,by simp,by simp⟩
     rw[aZo (by simp only; omega)]
     simp only[List.take_succ_cons,List.take_zero,Int.toNat_natCast]
     rw[←eq8 (a:=a) (by omega),←eq8 (a:=b) (by omega),←eq8 (a:=c) (by omega)]
    ·simp[bad,aMm a b c r (by omega) (by omega)]at h
  ·match r with
   | []=>rw[bad,iF a _ (by omega)]at h; simp at h
   | [b]=>rw[bad,iF a _ (by omega)]at h; simp at h
   | [b,c]=>rw[bad,iF a _ (by omega)]at h; simp at h
   | b::c::d::r =>
    have hb:=bl b
    have hc:=bl c
    have hd:=bl d
    by_cases hf:((a.toNat=240→144≤b.toNat)∧128≤b.toNat∧(a.toNat=244→b.toNat≤143)∧b.toNat≤191)∧(128≤c.toNat∧c.toNat≤191)∧(128≤d.toNat∧d.toNat≤191)
    ·rw[aMn a b c d r (by omega) hf.1 hf.2.1 hf.2.2]
     refine⟨(yO _).2 (by simp only; omega),?_,by simp,by simp⟩
     rw[aZp (by simp only; omega)]
     simp only[List.take_succ_cons,List.take_zero,Int.toNat_natCast]
     rw[←eq8 (a:=a) (by omega),←eq8 (a:=b) (by omega),←eq8 (a:=c) (by omega),←eq8 (a:=d) (by omega)]
    ·simp[bad,aMo a b c d r (by omega) (by omega)]at h
def nE (s:List UInt8)(n:Nat):Bool:=isC (bDi (s.take n))&&(nD (bDi (s.take n))==s.take n)
def fX:Nat→List UInt8→Int→List (Int×Int)×Option Int
 | 0,_,_=>([],none)
 | k+1,s,i=>if s=[] then ([],none) else if bad s then ([],some i) else
  ((((D s).1:Int),i)::(fX k (s.drop (D s).2) (i+(D s).2)).1,(fX k (s.drop (D s).2) (i+(D s).2)).2)
def nF (c:Int×Int):List IV:=[.int .i64 c.1,.int .i64 c.2]
theorem aMr (c:Int×Int):(nF c).length=2∧(nF c).all hG=true:=⟨rfl,rfl⟩
theorem aZq (l:List UInt8)(i:Nat):ByteArray.get! ⟨l.toArray⟩ i=l.getD i 0:=by
 show l.toArray[i]! = _
 simp[List.getD,getElem!_def]
 cases l[i]? <;> rfl
set_option maxHeartbeats 4000000 in
theorem aCl (l:List UInt8)(i:Nat)(h:i<l.length):Utf8.decode ⟨l.toArray⟩ i=D (l.drop i):=by
 have hs:(ByteArray.mk l.toArray).size=l.length:=by simp[ByteArray.size]
 have hg:∀k,l.getD (i+k) 0=(l.drop i).getD k 0:=by intro k; simp[List.getD,List.getElem?_drop]
 have hlen:∀k,(i+k<l.length)↔k<(l.drop i).length:=by intro k; rw[List.length_drop]; omega
 have hpos:0<(l.drop i).length:=by rw[List.length_drop]; omega
 simp only[Utf8.decode,hs,aZq,hg,hlen]
 generalize l.drop i=s at *
 cases s with
 | nil=>simp at hpos
 | cons a r =>
  have ha:=bl a
  match r with
  | [] =>
   simp only[List.getD_cons_zero,List.getD_cons_succ,List.getD_nil,List.length_cons,List.length_nil,D,fol,Utf8.valid,Utf8.runeError,Bool.and_eq_true,Bool.or_eq_true,beq_iff_eq,decide_eq_true_eq]
   repeat' split
   all_goals (first|rfl|(simp only[Prod.mk.injEq]; omega)|(exfalso; omega))
  | [b] =>
   have hb:=bl b
   simp only[List.getD_cons_zero,List.getD_cons_succ,List.getD_nil,List.length_cons,List.length_nil,D,fol,Utf8.valid,Utf8.runeError,Bool.and_eq_true,Bool.or_eq_true,beq_iff_eq,decide_eq_true_eq]
   repeat' split
   all_goals (first|rfl|(simp only[Prod.mk.injEq]; omega)|(exfalso; omega))
  | [b,c] =>
   have hb:=bl b
   have hc:=bl c
   simp only[List.getD_cons_zero,List.getD_cons_succ,List.getD_nil,List.length_cons,List.length_nil,D,fol,Utf8.valid,Utf8.runeError,Bool.and_eq_true,Bool.or_eq_true,beq_iff_eq,decide_eq_true_eq]
   repeat' split
   all_goals (first|rfl|(simp only[Prod.mk.injEq]; omega)|(exfalso; omega))
  | b::c::d::r =>
   have hb:=bl b
   have hc:=bl c
   have hd:=bl d
   simp only[List.getD_cons_zero,List.getD_cons_succ,List.getD_nil,List.length_cons,List.length_nil,D,fol,Utf8.valid,Utf8.runeError,Bool.and_eq_true,Bool.or_eq_true,beq_iff_eq,decide_eq_true_eq]
   repeat' split
   all_goals (first|rfl|(simp only[Prod.mk.injEq]; omega)|(exfalso; omega))
set_option maxHeartbeats 4000000 in
theorem aMs (t:Tag)(l:List UInt8)(ht:fN t l)(hl:l.length≤2000000):∀(k:Nat) (i:Nat) (done:List (Int×Int)) (x4 x5 x6 x8 x9 x10 x11:TV),i≤l.length→l.length-i≤k→done.length≤i →
  ∃y3 y4 y5 y6 y8 y9 y10 y11 S',lp' (lim K) t104L0 [.iv (.sl t (bL l)),.iv (.sl .nil []),.lb [.iv (.int .i64 0),.iv (.int .i64 0)],acc 1 (done.map nF),x4,x5,x6,.it 0,x8,x9,x10,x11] (.sit l i::tC 2 170 (done.map nF))=.ret (match (fX k (l.drop i) i).2 with
   | none=>(.exit 0,[.iv (.sl t (bL l)),.iv (.sl .nil []),.lb [.iv (.int .i64 0),.iv (.int .i64 0)],acc 1 ((done++(fX k (l.drop i) i).1).map nF),y4,y5,y6,.it 0,y8,y9,y10,y11],S')
   | some p=>(.ret,[.iv (.sl t (bL l)),.iv (.sl .nil []),.lb [.iv (.int .i64 4),.iv (.int .i64 p)],y3,y4,y5,y6,.it 0,y8,y9,y10,y11],S'))
 | 0,i,done,x4,x5,x6,x8,x9,x10,x11,h1,h2,h3=>by
  refine⟨?_,?_,?_,?_,?_,?_,?_,?_,?_,aN K _ _ t104L0.eq_1 ?_⟩
  rotate_left 9
  ·simp (disch:=omega) only[go_sem,fX,List.append_nil]
   rfl
  exact .hole
 | k+1,i,done,x4,x5,x6,x8,x9,x10,x11,h1,h2,h3=>by
  by_cases hi:i=l.length
  ·have e:l.drop i=[]:=List.drop_of_length_le (by omega)
   refine⟨?_,?_,?_,?_,?_,?_,?_,?_,?_,aN K _ _ t104L0.eq_1 ?_⟩
   rotate_left 9
   ·simp (disch:=omega) only[go_sem,fX,e,List.append_nil]
    rfl
   exact .hole
  ·have hs:(l.drop i).length=l.length-i:=List.length_drop
   have hde:=aCl l i (by omega)
   have hne:¬l.drop i=[]:=by intro e; rw[e]at hs; simp at hs; omega
   have h25:=fun tg=>aZl tg (l.drop i)
   have hdl:=bIh (l.drop i)
   have hbad:bad (l.drop i)=(decide ((((D (l.drop i)).1:Nat):Int)=65533)&&decide ((((D (l.drop i)).2:Nat):Int)≤1)):=by
    rw[bad,Bool.eq_iff_iff]; simp; omega
   have hsl:=fun S=>aBe S (t:=t) (l:=l) (a:=(i:Int)) ht (by omega)
   cases hb:bad (l.drop i)
   ·have hg:=aS4 hb
    have hdr:(l.drop i).drop (D (l.drop i)).2=l.drop (i+(D (l.drop i)).2):=by
     rw[List.drop_drop]
    have ih:=fun x4 x5 x6 x8 x9 x10 x11=>aMs t l ht hl k (i+(D (l.drop i)).2) (done++[(((D (l.drop i)).1:Int),(i:Int))]) x4 x5 x6 x8 x9 x10 x11 (by omega) (by omega) (by simp; omega)
    simp only[fX,hne,hb,↓reduceIte,Bool.false_eq_true]
    rw[hdr]
    have ha:=aYi (w:=2) (b:=16) (el:=170) (t:=.full) (.sit l (i+(D (l.drop i)).2)) (aMr (((D (l.drop i)).1:Int),(i:Int))) (cX.map aMr done) (fA (by rw[List.length_map]; omega))
    have em:(done++[(((D (l.drop i)).1:Int),(i:Int))]).map nF=done.map nF++[[.int .i64 (D (l.drop i)).1,.int .i64 i]]:=by simp[nF]
    rw[em]at ih
    generalize D (l.drop i)=d at *
    simp only[nF]at ha
    rw[hb]at hbad
    by_cases hc:(d.1:Int)=65533
    ·have h26:¬(d.2:Int)≤1:=by intro q; simp[hc,q]at hbad
     obtain⟨y3,y4,y5,y6,y8,y9,y10,y11,S',ih⟩:=ih (.iv (.int .i64 i)) (.iv (.int .i32 d.1)) (.iv (.int .i64 d.2)) (.tup [.iv (.bool true),.iv (.int .i64 i),.iv (.int .i32 d.1)]) (.iv (.bool true)) (.iv (.bool true)) (.iv (.bool false))
     refine⟨y3,y4,y5,y6,y8,y9,y10,y11,S',aN K _ _ t104L0.eq_1 ?_⟩
     simp (config := { maxSteps := 4000000 }) (disch:=omega) only[go_sem,hde,hsl,Int.toNat_natCast,h25,aMq,h26,aF,ha,ih]
     simp only[Int.natCast_add,List.map_append,List.map_cons,List.map_nil,nF,List.append_assoc,List.cons_append,List.nil_append]
     cases (fX k (l.drop (i+d.2)) ((i:Int)+(d.2:Int))).2<;>rfl
    ·obtain⟨y3,y4,y5,y6,y8,y9,y10,y11,S',ih⟩:=ih (.iv (.int .i64 i)) (.iv (.int .i32 d.1)) x6 (.tup [.iv (.bool true),.iv (.int .i64 i),.iv (.int .i32 d.1)]) (.iv (.bool true)) (.iv (.bool false)) x11
     refine⟨y3,y4,y5,y6,y8,y9,y10,y11,S',aN K _ _ t104L0.eq_1 ?_⟩
     simp (config := { maxSteps := 4000000 }) (disch:=omega) only[go_sem,hde,aF,ha,ih]
     simp only[Int.natCast_add,List.map_append,List.map_cons,List.map_nil,nF,List.append_assoc,List.cons_append,List.nil_append]
     cases (fX k (l.drop (i+d.2)) ((i:Int)+(d.2:Int))).2<;>rfl
   ·rw[hb]at hbad
    have h26:=hbad.symm
    have hc:(((D (l.drop i)).1:Nat):Int)=65533:=by simp at h26; omega
    have hc2:(((D (l.drop i)).2:Nat):Int)≤1:=by simp at h26; omega
    refine⟨?_,?_,?_,?_,?_,?_,?_,?_,?_,aN K _ _ t104L0.eq_1 ?_⟩
    rotate_left 9
    ·simp (config := { maxSteps := 4000000 }) (disch:=omega) only[go_sem,fX,hne,hb,hde,hsl,Int.toNat_natCast,h25,aMq,h26,hc]
     rfl
theorem aZr (t:Tag)(l:List UInt8)(ht:fN t l)(hl:l.length≤2000000):Pure K 104 [.iv (.sl t (bL l))] (match (fX l.length l 0).2 with
      | none=>.tup [.iv (.sl (tD (fX l.length l 0).1) ((fX l.length l 0).1.map nF)),.iv (.agg [.int .i64 0,.int .i64 0])]
      | some p=>.tup [.iv (.sl .nil []),.iv (.agg [.int .i64 4,.int .i64 p])]):=by
  obtain⟨y3,y4,y5,y6,y8,y9,y10,y11,S',e⟩:=aMs t l ht hl l.length 0 [] u_ u_ u_ u_ u_ u_ u_ (by omega) (by omega) (by simp)
  rw[List.map_nil,gS,oF]at e
  simp only[List.nil_append,List.drop_zero,Int.cast_ofNat_Int]at e
  generalize fX l.length l 0=q at *
  obtain⟨q1,q2⟩:=q
  refine gR t104 rfl rfl ?_
  cases q2 with
  | none =>
    simp only at e ⊢
    simp (disch:=omega) only[t104,go_sem,e,aIo]
  | some p =>
    simp only at e ⊢
    simp (disch:=omega) only[t104,go_sem,e]
theorem bIj (c:Int×Int):sub (nF c) 0 2=some (nF c):=by simp[sub,nF]
theorem aS5 (a:Int):hG (i64 a)=true:=rfl
def nS (cs:List (Int×Int)):List Int:=cs.map (·.1)
theorem aI6 (cs:List (Int×Int))(i:Nat)(h:i<cs.length):nS (cs.take (i+1))=nS (cs.take i)++[(cs.getD i default).1]:=by
 rw[aBi (d:=default) h]; simp[nS]
theorem zA:∀(k:Nat) (s:List UInt8) (i:Int),(fX k s i).1.length≤s.length
 | 0,s,i=>by simp[fX]
 | k+1,s,i=>by
  simp only[fX]
  split
  ·simp
  ·split
   ·simp
   ·rename_i h1 h2
    have hb:bad s=false:=by simpa using h2
    have hg:=aS4 hb
    have:=zA k (s.drop (D s).2) (i+(D s).2)
    rw[List.length_drop]at this
    simp only[List.length_cons]
    omega
theorem aOe (s:List UInt8)(hl:s.length≤2000000):(fX s.length s 0).1.length≤2000000:=by
 have:=zA s.length s 0
 omega
set_option maxHeartbeats 4000000 in
theorem aS6 (s:TV)(tg:Tag)(cs:List (Int×Int))(hl:cs.length≤2000000)(f a7:TV):∀(k i:Nat) (x6 x11:TV),i+k=cs.length →
  ∃y6 y11,lp' (lim K) t87L0 [s,.iv (.sl .nil []),.iv (.int .i64 0),.iv (.sl tg (cs.map nF)),f,acc 0 (TM.one i64 (nS (cs.take i))),x6,a7,.iv (.sl tg (cs.map nF)),.iv (.int .i64 cs.length),.iv (.int .i64 i),x11] (tC 1 3 (TM.one i64 (nS (cs.take i))))=.ret (.exit 0,[s,.iv (.sl .nil []),.iv (.int .i64 0),.iv (.sl tg (cs.map nF)),f,acc 0 (TM.one i64 (nS cs)),y6,a7,.iv (.sl tg (cs.map nF)),.iv (.int .i64 cs.length),.iv (.int .i64 cs.length),y11],tC 1 3 (TM.one i64 (nS cs)))
 | 0,i,x6,x11,h=>by
  obtain rfl:i=cs.length:=by omega
  rw[List.take_length]
  refine⟨?_,?_,aN K _ _ t87L0.eq_1 ?_⟩
  rotate_left 2
  ·simp (disch:=omega) only[go_sem]
   rfl
 | k+1,i,x6,x11,h=>by
  have hc:=aI6 cs i (by omega)
  have hcl:(nS (cs.take i)).length≤2000000:=by simp[nS]; omega
  obtain⟨y6,y11,ih⟩:=aS6 s tg cs hl f a7 k (i+1) (.lb [.iv (.int .i64 (cs.getD i default).1),.iv (.int .i64 (cs.getD i default).2)]) (.iv (.bool true)) (by omega)
  rw[hc,←aL3]at ih
  have ha:=bCr (w:=1) (b:=8) (el:=3) (t:=.full) (l:=TM.one i64 (nS (cs.take i))) (c:=[.int .i64 (cs.getD i default).1]) ⟨rfl,rfl⟩ (cX.one aS5 _) (fA (by rw[TM.mH]; omega))
  have hg:=aL7 (w:=2) (f:=nF) (fun _=>rfl) (t:=tg) (l:=cs) (i:=(i:Int)) (by omega)
  refine⟨y6,y11,aN K _ _ t87L0.eq_1 ?_⟩
  simp (config := { maxSteps := 4000000 }) (disch:=omega) only[go_sem,hg,aIn,bIj,Int.toNat_natCast,nF,aF,ha]
  exact congrArg er ih
theorem bEh (s:List UInt8)(hl:s.length≤2000000):Pure K 87 [.iv (.str s)] (match (fX s.length s 0).2 with
      | none=>.tup [.iv (.sl (tD (fX s.length s 0).1) (TM.one i64 (nS (fX s.length s 0).1))),.iv (.int .i64 0)]
      | some p=>.tup [.iv (.sl .nil []),.iv (.int .i64 4)]):=by
  have h17:=aZr .no s (fN.no _) hl
  have hcl:(fX s.length s 0).1.length≤2000000:=aOe s hl
  generalize fX s.length s 0=q at *
  obtain⟨q1,q2⟩:=q
  refine gR t87 rfl rfl ?_
  cases q2 with
  | none =>
    simp only at h17 hcl ⊢
    simp (config := { maxSteps := 4000000 }) (disch:=omega) only[t87,go_sem,aQ h17,List.length_map]
    obtain⟨y6,y11,e⟩:=aS6 (.iv (.str s)) (tD q1) q1 hcl (.lb [.iv (.int .i64 0),.iv (.int .i64 0)]) (.iv (.bool false)) q1.length 0 u_ u_ (by omega)
    rw[List.take_zero,show nS []=[] from rfl,show TM.one i64 []=[] from rfl,gS,oF,show ((0:Nat):Int)=0 from rfl]at e
    simp (config := { maxSteps := 4000000 }) (disch:=omega) only[go_sem,e]
    simp only[TM.one,nS,aIo]
  | some p =>
    simp only at h17 ⊢
    simp (config := { maxSteps := 4000000 }) (disch:=omega) only[t87,go_sem,aQ h17]
theorem tK {c:Bool}{x n:Nat}(h:c=true→128≤x):128≤(if c=true then (x,n) else (65533,1)).1:=by
 cases c with
 | false=>exact (by decide:128≤65533)
 | true=>exact h rfl
theorem bEi (a:UInt8)(r:List UInt8)(h:128≤a.toNat):128≤(D (a::r)).1:=by
 have ha:=bl a
 by_cases h1:a.toNat<194
 ·rw[aMj a r (.inl ⟨h,h1⟩)]; decide
 by_cases h2:a.toNat<224
 ·rw[aF1 a r ⟨by omega,h2⟩]
  split
  ·split
   ·simp only; omega
   ·decide
  ·decide
 by_cases h3:a.toNat<240
 ·rw[iQ a r ⟨by omega,h3⟩]
  split
  ·rename_i b c t
   have hb:=bl b
   by_cases e:a.toNat=224
   ·simp only[e,↓reduceIte]
    refine tK fun hc=>?_
    simp only[Bool.and_eq_true,decide_eq_true_eq]at hc
    rw[if_neg (by decide)]at hc
    omega
   ·simp only[e,↓reduceIte]
    generalize (if a.toNat=237 then 159 else 191)=z
    exact tK fun _=>by omega
  ·decide
 by_cases h4:a.toNat<245
 ·rw[iF a r ⟨by omega,h4⟩]
  split
  ·rename_i b c d t
   have hb:=bl b
   by_cases e:a.toNat=240
   ·simp only[e,↓reduceIte]
    refine tK fun hc=>?_
    simp only[Bool.and_eq_true,decide_eq_true_eq]at hc
    rw[if_neg (by decide)]at hc
    omega
   ·simp only[e,↓reduceIte]
    generalize (if a.toNat=244 then 143 else 191)=z
    exact tK fun _=>by omega
  ·decide
 ·rw[aMj a r (.inr (by omega))]; decide
def nT (a:UInt8):Bool:=decide (48≤a.toNat∧a.toNat≤57)
theorem bG4 (a:UInt8)(r:List UInt8):(nT a=true→D (a::r)=(a.toNat,1))∧(nT a=false→(D (a::r)).1<48∨57<(D (a::r)).1):=by
 unfold nT
 constructor
 ·intro h
  simp only[decide_eq_true_eq]at h
  exact tJ a r (by omega)
 ·intro h
  simp only[decide_eq_false_iff_not]at h
  by_cases h1:a.toNat<128
  ·rw[tJ a r h1]; simp only; omega
  ·have:=bEi a r (by omega); omega
theorem aMt (c:Int)(S:aA):(lim K).call 102 [.iv (.int .i32 c)] S=.ret (.iv (.bool (decide (c<48)||decide (57<c))),S):=by
 refine aB K S (fn:=t102) rfl rfl ?_
 by_cases h1:c<48
 ·simp (disch:=omega) only[t102,go_sem,Bool.true_or]
 ·by_cases h2:57<c
  ·simp (disch:=omega) only[t102,go_sem,Bool.false_or]
  ·simp (disch:=omega) only[t102,go_sem,Bool.false_or]
theorem zB {l:List UInt8}{i:Nat}(h:i<l.length):l.drop i=l.getD i 0::l.drop (i+1):=by
 rw[List.drop_eq_getElem_cons h,List.getD_eq_getElem?_getD,List.getElem?_eq_getElem h]; rfl
theorem aMu (s:List UInt8)(hs:s.length≤2000000):∀(k i:Nat) (x3:Int) (x4 x5 x7 x8 x9:TV),i+k=s.length →
  ∃j r y4 y5 y7 y8 y9 S',(j=.ret∧0≤r∧(s.drop i).all nT=false∨j=.exit 0∧r=x3∧(s.drop i).all nT=true) ∧
   lp' (lim K) t129L0 [.iv (.str s),.fn 102 [] [],.iv (.bool true),.iv (.int .i64 x3),x4,x5,.it 0,x7,x8,x9] [.sit s i]=.ret (j,[.iv (.str s),.fn 102 [] [],.iv (.bool true),.iv (.int .i64 r),y4,y5,.it 0,y7,y8,y9],S')
 | 0,i,x3,x4,x5,x7,x8,x9,h=>by
  refine⟨.exit 0,x3,?_,?_,?_,?_,?_,?_,.inr ⟨rfl,rfl,by rw[List.drop_eq_nil_of_le (by omega)]; rfl⟩,aN K _ _ t129L0.eq_1 ?_⟩
  rotate_left 6
  ·simp (disch:=omega) only[go_sem]
   rfl
 | k+1,i,x3,x4,x5,x7,x8,x9,h=>by
  have hla:i<s.length:=by omega
  have hde:=aCl s i hla
  rw[zB hla]at hde
  obtain⟨hd1,hd2⟩:=bG4 (s.getD i 0) (s.drop (i+1))
  have hdr:=zB hla
  generalize s.getD i 0=a at *
  cases hb:nT a with
  | true =>
   rw[hd1 hb]at hde
   have hb':=hb
   unfold nT at hb'
   simp only[decide_eq_true_eq]at hb'
   obtain⟨j,r,y4,y5,y7,y8,y9,S',hj,ih⟩:=aMu s hs k (i+1) x3 (.iv (.int .i64 i)) (.iv (.int .i32 a.toNat)) (.tup [.iv (.bool true),.iv (.int .i64 i),.iv (.int .i32 a.toNat)]) (.iv (.bool true)) (.iv (.bool false)) (by omega)
   refine⟨j,r,y4,y5,y7,y8,y9,S',?_,aN K _ _ t129L0.eq_1 ?_⟩
   ·rw[hdr,List.all_cons,hb,Bool.true_and]; exact hj
   ·simp (disch:=omega) only[go_sem,hla,hde,aMt,Bool.or_false]
    exact congrArg er ih
  | false =>
   have hb2:=hd2 hb
   generalize D (a::s.drop (i+1))=d at *
   refine⟨.ret,(i:Int),?_,?_,?_,?_,?_,?_,.inl ⟨rfl,by omega,by rw[hdr,List.all_cons,hb,Bool.false_and]⟩,aN K _ _ t129L0.eq_1 ?_⟩
   rotate_left 6
   ·have hor:(decide ((d.1:Int)<48)||decide (57<(d.1:Int)))=true:=by simp; omega
    simp (disch:=omega) only[go_sem,hla,hde,aMt,hor]
    rfl
theorem aZs (s:List UInt8)(hs:s.length≤2000000):∃r S',(0≤r↔s.all nT=false)∧(lim K).call 129 [.iv (.str s),.fn 102 [] [],.iv (.bool true)] []=.ret (.iv (.int .i64 r),S'):=by
 obtain⟨j,r,y4,y5,y7,y8,y9,S',hj,ih⟩:=aMu s hs s.length 0 0 u_ u_ u_ u_ u_ (by omega)
 rw[List.drop_zero]at hj
 rcases hj with⟨rfl,hr,ha⟩|⟨rfl,hr,ha⟩
 ·refine⟨r,S',by simp[hr,ha],aB K _ (fn:=t129) rfl rfl ?_⟩
  simp (config := { maxSteps := 4000000 }) (disch:=omega) only[t129,go_sem]
  rw[ih]
  simp (config := { maxSteps := 4000000 }) (disch:=omega) only[go_sem]
 ·refine⟨-1,S',by simp[ha],aB K _ (fn:=t129) rfl rfl ?_⟩
  simp (config := { maxSteps := 4000000 }) (disch:=omega) only[t129,go_sem]
  rw[ih]
  simp (config := { maxSteps := 4000000 }) (disch:=omega) only[go_sem]
theorem aZt (s:List UInt8)(hs:s.length≤2000000):∃S',(lim K).call 101 [.iv (.str s),.fn 102 [] []] []=.ret (.iv (.bool (!s.all nT)),S'):=by
 obtain⟨r,S',hr,ih⟩:=aZs s hs
 have h171:(lim K).call 112 [.iv (.str s),.fn 102 [] []] []=.ret (.iv (.int .i64 r),S'):=by
  refine aB K _ (fn:=t112) rfl rfl ?_
  simp (config := { maxSteps := 4000000 }) (disch:=omega) only[t112,go_sem,ih]
 refine⟨S',aB K _ (fn:=t101) rfl rfl ?_⟩
 cases ha:s.all nT with
 | true =>
  have:¬0≤r:=fun h=>by rw[hr,ha]at h; cases h
  simp (config := { maxSteps := 4000000 }) (disch:=omega) only[t101,go_sem,h171,Bool.not_true]
 | false =>
  have:0≤r:=hr.2 ha
  simp (config := { maxSteps := 4000000 }) (disch:=omega) only[t101,go_sem,h171,Bool.not_false]
theorem bIk (c:UInt8)(r:List UInt8)(k:IntKind):aDk (.iv (.str (c::r))) (.iv (.int k 0))=some (.iv (.int .u8 c.toNat)):=by
 have:=aYd (s:=c::r) (i:=0) (kd:=k) (by simp)
 simpa using this
def rU:List UInt8→List UInt8
 | a::r=>if a.toNat=45 then r else a::r
 | []=>[]
theorem aZu (s:List UInt8)(hs:s.length≤2000000)(S:aA):(lim K).call 100 [.iv (.str s),.iv (.str [45])] S=.ret (.iv (.str (rU s)),S):=by
 have h190:(lim K).call 128 [.iv (.str s),.iv (.str [45])] []=.ret (.iv (.bool (match s with|a::_=>decide (a.toNat=45)|[]=>false)),[]):=by
  refine aB K _ (fn:=t128) rfl rfl ?_
  cases s with
  | nil=>simp (config := { maxSteps := 4000000 }) (disch:=omega) only[t128,go_sem,List.length_nil,List.length_cons]
  | cons a r =>
   have hl:(a::r).length=r.length+1:=rfl
   have h1:=aFi [] (s:=a::r) (b:=((1:Nat):Int)) (by rw[hl]; omega)
   rw[show (((1:Nat):Int)).toNat=1 from rfl,show (a::r).take 1=[a] from rfl]at h1
   have h2:([a]==[(45:UInt8)])=decide (a.toNat=45):=by
    rw[Bool.eq_iff_iff]
    simp only[beq_iff_eq,List.cons.injEq,and_true,decide_eq_true_eq]
    constructor
    ·rintro rfl; rfl
    ·intro h; exact UInt8.toNat_inj.1 h
   simp (config := { maxSteps := 4000000 }) (disch:=omega) only[t128,go_sem,hl,List.length_nil,List.length_cons,h1,h2]
 have h170:(lim K).call 111 [.iv (.str s),.iv (.str [45])] []=.ret (.iv (.str (rU s)),[]):=by
  refine aB K _ (fn:=t111) rfl rfl ?_
  cases s with
  | nil=>simp (config := { maxSteps := 4000000 }) (disch:=omega) only[t111,go_sem,h190,rU]
  | cons a r =>
   have hl:(a::r).length=r.length+1:=rfl
   have h1:=aFj [] (s:=a::r) (a:=((1:Nat):Int)) (by rw[hl]; omega)
   rw[show (((1:Nat):Int)).toNat=1 from rfl,show (a::r).drop 1=r from rfl]at h1
   by_cases ha:a.toNat=45
   ·simp (config := { maxSteps := 4000000 }) (disch:=omega) only[t111,go_sem,h190,rU,ha,List.length_nil,List.length_cons,h1]
   ·simp (config := { maxSteps := 4000000 }) (disch:=omega) only[t111,go_sem,h190,rU,ha,List.length_nil,List.length_cons,h1]
 refine aB K _ (fn:=t100) rfl rfl ?_
 simp (config := { maxSteps := 4000000 }) (disch:=omega) only[t100,go_sem,h170]
theorem aS7 (s:List UInt8):(rU s).length≤s.length:=by
 cases s with
 | nil=>simp[rU]
 | cons a r=>simp only[rU]; split<;>simp
def aZv (s:List UInt8):Bool :=
 match rU s with
 | []=>false
 | a::r=>if a.toNat=48∧s≠[48] then false else (a::r).all nT
theorem bEj (s:List UInt8)(hs:s.length≤2000000):Pure K 85 [.iv (.str s)] (.iv (.bool (aZv s))):=by
 have h1:=aZu s hs []
 have h2:=aS7 s
 unfold aZv
 cases ht:rU s with
 | nil =>
  rw[ht]at h1
  refine cJ (S:=[]) (aB K _ (fn:=t85) rfl rfl ?_) (by rw[bQ])
  simp (config := { maxSteps := 4000000 }) (disch:=omega) only[t85,go_sem,h1]
 | cons a r =>
  rw[ht]at h1 h2
  obtain⟨S',h3⟩:=aZt (a::r) (by omega)
  have h4:=bIk a r .i64
  have h5:((a::r)==([]:List UInt8))=false:=rfl
  by_cases ha:a.toNat=48
  ·by_cases hz:s=[48]
   ·have h6:(s==[(48:UInt8)])=true:=by simp[hz]
    refine cJ (S:=S') (r:=.iv (.bool ((a::r).all nT))) (aB K _ (fn:=t85) rfl rfl ?_) (by rw[bQ]; simp[ha,hz])
    simp (config := { maxSteps := 4000000 }) (disch:=omega) only[t85,go_sem,h1,h3,h4,h5,h6,ha,Bool.not_not,Bool.not_true]
   ·have h6:(s==[(48:UInt8)])=false:=by simp[hz]
    refine cJ (S:=[]) (r:=.iv (.bool false)) (aB K _ (fn:=t85) rfl rfl ?_) (by rw[bQ]; simp[ha,hz])
    simp (config := { maxSteps := 4000000 }) (disch:=omega) only[t85,go_sem,h1,h3,h4,h5,h6,ha,Bool.not_not,Bool.not_false]
  ·refine cJ (S:=S') (r:=.iv (.bool ((a::r).all nT))) (aB K _ (fn:=t85) rfl rfl ?_) (by rw[bQ]; simp[ha])
   simp (config := { maxSteps := 4000000 }) (disch:=omega) only[t85,go_sem,h1,h3,h4,h5,Bool.not_not]
def okC (t:List UInt8):Bool:=(fX t.length t 0).2.isNone
def aMv (d:Dt):Bool :=
 if d.k=0∨d.k=8∨d.k=9∨d.k=10 then true else if d.k=1 then decide (d.n=0∨d.n=1) else if d.k=2 then aZv d.t else if d.k=3 then isC d.n
 else if d.k=4 then okC d.t else if d.k=5 then okC d.t&&!d.t.isEmpty else false
theorem aS8 (s:List UInt8)(hl:s.length≤2000000):∃l,Pure K 87 [.iv (.str s)] (.tup [l,.iv (.int .i64 (if okC s then 0 else 4))]):=by
 have h:=bEh s hl
 unfold okC
 cases hc:(fX s.length s 0).2 with
 | none=>rw[hc]at h; exact⟨_,h⟩
 | some p=>rw[hc]at h; exact⟨_,h⟩
theorem aZw (t:List UInt8):(t==[])=t.isEmpty:=by cases t<;>rfl
theorem bEk (d:Dt)(hd:d.w≤1048576):Pure K 59 [.iv (.agg (kC d))] (.iv (.bool (aMv d))):=by
 have hw:=Dt.w_eq d
 obtain⟨l,hc⟩:=aS8 d.t (by omega)
 have h116:=bEj d.t (by omega)
 have h117:=bD9 d.n
 unfold aMv
 by_cases hs:d.k=0∨d.k=8∨d.k=9∨d.k=10
 ·refine cJ (S:=[]) (r:=.iv (.bool true)) (aB K _ (fn:=t59) rfl rfl ?_) (by rw[bQ]; simp[hs])
  rw[dI]
  rcases hs with h|h|h|h<;>simp (config := { maxSteps := 4000000 }) (disch:=omega) only[t59,go_sem]
 ·by_cases h1:d.k=1
  ·refine cJ (S:=[]) (r:=.iv (.bool (decide (d.n=0∨d.n=1)))) (aB K _ (fn:=t59) rfl rfl ?_) (by rw[bQ]; simp[h1])
   rw[dI]
   by_cases n0:d.n=0
   ·simp (config := { maxSteps := 4000000 }) (disch:=omega) only[t59,go_sem]
   ·by_cases n1:d.n=1
    ·simp (config := { maxSteps := 4000000 }) (disch:=omega) only[t59,go_sem]
    ·simp (config := { maxSteps := 4000000 }) (disch:=omega) only[t59,go_sem]
  ·by_cases h2:d.k=2
   ·refine cJ (S:=[]) (r:=.iv (.bool (aZv d.t))) (aB K _ (fn:=t59) rfl rfl ?_) (by rw[bQ]; simp[h2])
    rw[dI]
    simp (config := { maxSteps := 4000000 }) (disch:=omega) only[t59,go_sem,aQ h116]
   ·by_cases h3:d.k=3
    ·refine cJ (S:=[]) (r:=.iv (.bool (isC d.n))) (aB K _ (fn:=t59) rfl rfl ?_) (by rw[bQ]; simp[h3])
     rw[dI]
     simp (config := { maxSteps := 4000000 }) (disch:=omega) only[t59,go_sem,h117]
    ·by_cases h4:d.k=4
     ·refine cJ (S:=[]) (r:=.iv (.bool (okC d.t))) (aB K _ (fn:=t59) rfl rfl ?_) (by rw[bQ]; simp[h4])
      rw[dI]
      cases ho:okC d.t
      ·rw[ho]at hc
       simp (config := { maxSteps := 4000000 }) (disch:=omega) only[t59,go_sem,aQ hc,Bool.false_eq_true]
      ·rw[ho]at hc
       simp (config := { maxSteps := 4000000 }) (disch:=omega) only[t59,go_sem,aQ hc]
     ·by_cases h5:d.k=5
      ·refine cJ (S:=[]) (r:=.iv (.bool (okC d.t&&!d.t.isEmpty))) (aB K _ (fn:=t59) rfl rfl ?_) (by rw[bQ]; simp[h5])
       rw[dI]
       cases ho:okC d.t
       ·rw[ho]at hc
        simp (config := { maxSteps := 4000000 }) (disch:=omega) only[t59,go_sem,aQ hc,Bool.false_eq_true,Bool.false_and]
       ·rw[ho]at hc
        simp (config := { maxSteps := 4000000 }) (disch:=omega) only[t59,go_sem,aQ hc,Bool.true_and,aZw]
      ·refine cJ (S:=[]) (r:=.iv (.bool false)) (aB K _ (fn:=t59) rfl rfl ?_) (by rw[bQ]; simp[hs,h1,h2,h3,h4,h5])
       rw[dI]
       simp (config := { maxSteps := 4000000 }) (disch:=omega) only[t59,go_sem]
theorem aS9 (f:Nat)(act:Dt→Bool)(g:Tag)(ks:List Dt)(hl:ks.length≤2000000)(hf:∀x∈ks,TM.Pure K f [.iv (.agg (kC x))] (.iv (.bool (act x))))(x2:TV)(S:aA):∀(k i:Nat) (x3 x6 x7:TV),i+k=ks.length →
  ∃j r y3 y5 y6 y7,(j=.ret∧(∃n:Int,r=.iv (.int .i64 n)∧0≤n)∧(ks.drop i).any act=true∨j=.exit 0∧r=x2∧(ks.drop i).any act=false) ∧
   lp' (lim K) t84L0 [.iv (.sl g (eW ks)),.fn f [] [],x2,x3,.iv (.int .i64 ks.length),.iv (.int .i64 (i:Int)),x6,x7] S=.ret (j,[.iv (.sl g (eW ks)),.fn f [] [],r,y3,.iv (.int .i64 ks.length),y5,y6,y7],S)
 | 0,i,x3,x6,x7,h=>by
  obtain rfl:i=ks.length:=by omega
  refine⟨.exit 0,x2,?_,?_,?_,?_,.inr ⟨rfl,rfl,by rw[List.drop_length]; rfl⟩,aN K _ _ t84L0.eq_1 ?_⟩
  rotate_left 4
  ·simp (config := { maxSteps := 4000000 }) (disch:=omega) only[go_sem]
   rfl
 | k+1,i,x3,x6,x7,h=>by
  have hla:i<ks.length:=by omega
  have hix:=ixD (g:=g) (ks:=ks) (i:=(i:Int)) (by omega)
  rw[Int.toNat_natCast]at hix
  have hdr:=kD hla
  have hc:=hf _ (oG hla)
  generalize hx:ks.getD i default=x at *
  rw[dI]at hc
  cases ha:act x with
  | true =>
   rw[ha]at hc
   refine⟨.ret,.iv (.int .i64 (i:Int)),?_,?_,?_,?_,.inl ⟨rfl,⟨_,rfl,by omega⟩,by rw[hdr,List.any_cons,ha,Bool.true_or]⟩,aN K _ _ t84L0.eq_1 ?_⟩
   rotate_left 4
   ·simp (config := { maxSteps := 4000000 }) (disch:=omega) only[go_sem,hix,tG,aQ hc]
    rfl
  | false =>
   rw[ha]at hc
   obtain⟨j,r,y3,y5,y6,y7,hj,ih⟩:=aS9 f act g ks hl hf x2 S k (i+1) (.iv (.int .i64 (i:Int))) (.iv (.bool true)) (.iv (.bool false)) (by omega)
   rw[show ((i+1:Nat):Int)=(i:Int)+1 by omega]at ih
   refine⟨j,r,y3,y5,y6,y7,?_,aN K _ _ t84L0.eq_1 ?_⟩
   ·rw[hdr,List.any_cons,ha,Bool.false_or]; exact hj
   ·simp (config := { maxSteps := 4000000 }) (disch:=omega) only[go_sem,hix,tG,aQ hc,aF]
    exact congrArg er ih
theorem aTa (f:Nat)(act:Dt→Bool)(g:Tag)(ks:List Dt)(hl:ks.length≤2000000)(hf:∀x∈ks,TM.Pure K f [.iv (.agg (kC x))] (.iv (.bool (act x))))(S:aA) :
  (lim K).call 57 [.iv (.sl g (eW ks)),.fn f [] []] S=.ret (.iv (.bool (ks.any act)),S):=by
 obtain⟨j,r,y3,y5,y6,y7,hj,ih⟩:=aS9 f act g ks hl hf (.iv (.int .i64 0)) S ks.length 0 u_ u_ u_ (by omega)
 rw[show ((0:Nat):Int)=0 from rfl,List.drop_zero]at *
 have h115:∃n:Int,(0≤n↔ks.any act=true)∧(lim K).call 84 [.iv (.sl g (eW ks)),.fn f [] []] S=.ret (.iv (.int .i64 n),S):=by
  rcases hj with⟨rfl,⟨n,rfl,hn⟩,ha⟩|⟨rfl,rfl,ha⟩
  ·refine⟨n,by simp[hn,ha],aB K _ (fn:=t84) rfl rfl ?_⟩
   simp (config := { maxSteps := 4000000 }) (disch:=omega) only[t84,go_sem,dF]
   rw[ih]
   simp (config := { maxSteps := 4000000 }) (disch:=omega) only[go_sem]
  ·refine⟨-1,by simp[ha],aB K _ (fn:=t84) rfl rfl ?_⟩
   simp (config := { maxSteps := 4000000 }) (disch:=omega) only[t84,go_sem,dF]
   rw[ih]
   simp (config := { maxSteps := 4000000 }) (disch:=omega) only[go_sem]
 obtain⟨n,hn,h115⟩:=h115
 refine aB K _ (fn:=t57) rfl rfl ?_
 by_cases h0:0≤n
 ·rw[hn.1 h0]
  simp (config := { maxSteps := 4000000 }) (disch:=omega) only[t57,go_sem,h115]
 ·have:ks.any act=false:=by
   cases h:ks.any act with
   | true=>exact absurd (hn.2 h) h0
   | false=>rfl
  rw[this]
  simp (config := { maxSteps := 4000000 }) (disch:=omega) only[t57,go_sem,h115]
theorem bEl (d:Dt)(hd:d.w≤2000000)(S:aA):(lim K).call 56 [.iv (.agg (kC d))] S=.ret (.iv (.bool (decide (d.k=6∧d.ks.length=2))),S):=by
 have hw:=Dt.w_eq d
 have hl:=Dt.ws_len d.ks
 refine aB K _ (fn:=t56) rfl rfl ?_
 rw[dI]
 by_cases hk:d.k=6
 ·by_cases h2:d.ks.length=2
  ·have:((d.ks.length:Int)==2)=true:=by simp[h2]
   simp (config := { maxSteps := 4000000 }) (disch:=omega) only[t56,go_sem,dF]
  ·simp (config := { maxSteps := 4000000 }) (disch:=omega) only[t56,go_sem,dF]
 ·simp (config := { maxSteps := 4000000 }) (disch:=omega) only[t56,go_sem,dF]
mutual
def kZ:Dt→Bool
 | .mk k n t g ks p=>if k=6∧ks.length=2 then aOf ks else if k=7 then aOf ks else ks.isEmpty&&aMv (.mk k n t g ks p)
def aOf:List Dt→Bool
 | []=>true
 | d::ds=>kZ d&&aOf ds
end
theorem aF3:∀ks:List Dt,aOf ks=ks.all kZ
 | []=>by rw[aOf]; rfl
 | d::ds=>by rw[aOf,aF3 ds]; rfl
theorem aMw (d:Dt):kZ d=if d.k=6∧d.ks.length=2 then d.ks.all kZ else if d.k=7 then d.ks.all kZ else d.ks.isEmpty&&aMv d:=by
 cases d; rw[kZ,aF3]; rfl
abbrev aTb (d:Dt):TV:=.lb [.iv (.int .i64 d.k),.iv (.int .i64 d.n),.iv (.str d.t),.iv (.sl d.g (eW d.ks)),.iv (.int .i64 d.p)]
theorem aTc {d:Dt}(h:d.ks.length=2):∃a b,d.ks=[a,b]:=by
 cases hk:d.ks with
 | nil=>rw[hk]at h; simp at h
 | cons a r =>
  cases r with
  | nil=>rw[hk]at h; simp at h
  | cons b r =>
   cases r with
   | nil=>exact⟨a,b,rfl⟩
   | cons c r=>rw[hk]at h; simp at h
theorem ix0 (g:Tag)(a b:Dt):indexAddrS 5 (.iv (.sl g (eW [a,b]))) 0=some (.iv (.cp (kC a))):=ixD (g:=g) (ks:=[a,b]) (i:=0) (by simp)
theorem ix1 (g:Tag)(a b:Dt):indexAddrS 5 (.iv (.sl g (eW [a,b]))) 1=some (.iv (.cp (kC b))):=ixD (g:=g) (ks:=[a,b]) (i:=1) (by simp)
theorem aTd (M:Nat)(hM:M≤1048576)(ih:∀d:Dt,d.w≤M→TM.Pure K 34 [.iv (.agg (kC d))] (.iv (.bool (kZ d))))(x0:TV)(S:aA):∀(N:Nat),N≤M+1→∀(d:Dt) (x2 x3 x4 x5:TV),d.w≤N →
  ∃j d' r y3 y4,(j=.ret∧r=.iv (.bool false)∧kZ d=false∨j=.exit 0∧r=x2∧kZ d'=kZ d∧d'.w≤d.w∧¬(d'.k=6∧d'.ks.length=2)) ∧
   lp' (lim K) t34L0 [x0,aTb d,x2,x3,x4,x5] S=.ret (j,[x0,aTb d',r,y3,y4,x5],S)
 | 0,hN,d,x2,x3,x4,x5,hd=>by have:=Dt.w_eq d; omega
 | N+1,hN,d,x2,x3,x4,x5,hd=>by
  have hw:=Dt.w_eq d
  have hp:=bEl d (by omega) S
  rw[dI]at hp
  by_cases h2:d.k=6∧d.ks.length=2
  ·obtain⟨a,b,hk⟩:=aTc h2.2
   have hab:a.w+b.w+1≤d.w:=by rw[hw,hk,Dt.ws,Dt.ws,Dt.ws]; omega
   have ha:=ih a (by omega)
   rw[dI]at ha
   have hm:kZ d=(kZ a&&kZ b):=by rw[aMw d,if_pos h2,hk]; simp
   have i0:=ix0 d.g a b
   have i1:=ix1 d.g a b
   rw[←hk]at i0 i1
   rw[bF8 h2]at hp
   cases hma:kZ a with
   | false =>
    rw[hma]at ha
    refine⟨.ret,d,.iv (.bool false),?_,?_,.inl ⟨rfl,rfl,by rw[hm,hma,Bool.false_and]⟩,aN K _ _ t34L0.eq_1 ?_⟩
    rotate_left 2
    ·simp (config := { maxSteps := 4000000 }) (disch:=omega) only[go_sem,hp,i0,tG,aQ ha]
     rfl
   | true =>
    rw[hma]at ha
    obtain⟨j,d',r,y3,y4,hj,ih2⟩:=aTd M hM ih x0 S N (by omega) b x2 (.iv (.bool true)) (.iv (.bool false)) x5 (by omega)
    refine⟨j,d',r,y3,y4,?_,aN K _ _ t34L0.eq_1 ?_⟩
    ·rw[hm,hma,Bool.true_and]
     rcases hj with h|⟨h1,h2,h3,h4,h5⟩
     ·exact .inl h
     ·exact .inr ⟨h1,h2,h3,by omega,h5⟩
    ·simp (config := { maxSteps := 4000000 }) (disch:=omega) only[go_sem,hp,i0,i1,tG,aQ ha]
     exact congrArg er ih2
  ·rw[bF9 h2]at hp
   refine⟨.exit 0,d,x2,?_,?_,.inr ⟨rfl,rfl,rfl,Nat.le_refl _,h2⟩,aN K _ _ t34L0.eq_1 ?_⟩
   rotate_left 2
   ·simp (config := { maxSteps := 4000000 }) (disch:=omega) only[go_sem,hp]
    rfl
theorem aDw (ks:List Dt)(f:Dt→Bool):(!(ks.any fun x=>!f x))=ks.all f:=by
 induction ks with
 | nil=>rfl
 | cons a r ih=>simp only[List.any_cons,List.all_cons,Bool.not_or,Bool.not_not,ih]
theorem aTe:∀(N:Nat),N≤1048576→∀d:Dt,d.w≤N→TM.Pure K 34 [.iv (.agg (kC d))] (.iv (.bool (kZ d)))
 | 0,hN,d,hd=>by have:=Dt.w_eq d; omega
 | N+1,hN,d,hd=>by
  have ih:=aTe N (by omega)
  obtain⟨j,d',r,y3,y4,hj,hl⟩:=aTd N (by omega) ih (.iv (.agg (kC d))) [] (N+1) (by omega) d (.iv (.bool false)) u_ u_ u_ hd
  rcases hj with⟨rfl,rfl,hm⟩|⟨rfl,rfl,hm,hw',hn⟩
  ·refine cJ (S:=[]) (r:=.iv (.bool false)) (aB K _ (fn:=t34) rfl rfl ?_) (by rw[bQ,hm])
   rw[dI]at hl ⊢
   simp (config := { maxSteps := 4000000 }) (disch:=omega) only[t34,go_sem]
   rw[hl]
   simp (config := { maxSteps := 4000000 }) (disch:=omega) only[go_sem]
  ·have hwd:=Dt.w_eq d'
   have hwl:=Dt.ws_len d'.ks
   have h84:∀x∈d'.ks,TM.Pure K 58 [.iv (.agg (kC x))] (.iv (.bool (!kZ x))):=by
    intro x hx
    have hc:=ih x (by have:=Dt.kid_lt hx; omega)
    refine cJ (S:=[]) (r:=.iv (.bool (!kZ x))) (aB K _ (fn:=t58) rfl rfl ?_) (by rw[bQ])
    rw[dI]at hc ⊢
    simp (config := { maxSteps := 4000000 }) (disch:=omega) only[t58,go_sem,aQ hc]
   have h83:=aTa 58 (fun x=>!kZ x) d'.g d'.ks (by omega) h84 []
   have h85:=bEk d' (by omega)
   rw[dI]at h85
   refine cJ (S:=[]) (r:=.iv (.bool (kZ d'))) (aB K _ (fn:=t34) rfl rfl ?_) (by rw[bQ,hm])
   rw[dI]at hl ⊢
   rw[aMw d',if_neg hn]
   simp (config := { maxSteps := 4000000 }) (disch:=omega) only[t34,go_sem]
   rw[hl]
   by_cases h7:d'.k=7
   ·rw[if_pos h7]
    simp (config := { maxSteps := 4000000 }) (disch:=omega) only[go_sem,h83,aDw]
   ·rw[if_neg h7]
    by_cases he:d'.ks.length=0
    ·have:d'.ks.isEmpty=true:=by rw[List.isEmpty_iff]; exact List.eq_nil_of_length_eq_zero he
     have e0:((d'.ks.length:Int)==0)=true:=by simp[he]
     simp (config := { maxSteps := 4000000 }) (disch:=omega) only[go_sem,dF,e0,aQ h85,this,Bool.true_and]
    ·have:d'.ks.isEmpty=false:=by
      cases hk:d'.ks with
      | nil=>rw[hk]at he; exact absurd rfl he
      | cons a r=>rfl
     simp (config := { maxSteps := 4000000 }) (disch:=omega) only[go_sem,dF,this,Bool.false_and]
mutual
def plF:Dt→Bool
 | .mk k n t g ks p=>!decide (k=5∧n≠0)&&pls ks
def pls:List Dt→Bool
 | []=>true
 | d::ds=>plF d&&pls ds
end
theorem aMx:∀ks:List Dt,pls ks=ks.all plF
 | []=>by rw[pls]; rfl
 | d::ds=>by rw[pls,aMx ds]; rfl
theorem aTf (d:Dt):plF d=(!decide (d.k=5∧d.n≠0)&&d.ks.all plF):=by
 cases d; rw[plF,aMx]; rfl
theorem aTg (M:Nat)(hM:M≤1048576)(ih:∀d:Dt,d.w≤M→TM.Pure K 35 [.iv (.agg (kC d))] (.iv (.bool (plF d))))(x0:TV)(S:aA):∀(N:Nat),N≤M+1→∀(d:Dt) (x2 x3 x4 x5:TV),d.w≤N →
  ∃j d' r y3 y4,(j=.ret∧r=.iv (.bool false)∧plF d=false∨j=.exit 0∧r=x2∧plF d'=plF d∧d'.w≤d.w) ∧
   lp' (lim K) t35L0 [x0,aTb d,x2,x3,x4,x5] S=.ret (j,[x0,aTb d',r,y3,y4,x5],S)
 | 0,hN,d,x2,x3,x4,x5,hd=>by have:=Dt.w_eq d; omega
 | N+1,hN,d,x2,x3,x4,x5,hd=>by
  have hw:=Dt.w_eq d
  have hl:=Dt.ws_len d.ks
  by_cases h2:d.k=6∧d.ks.length=2
  ·obtain⟨a,b,hk⟩:=aTc h2.2
   have hab:a.w+b.w+1≤d.w:=by rw[hw,hk,Dt.ws,Dt.ws,Dt.ws]; omega
   have ha:=ih a (by omega)
   rw[dI]at ha
   have hm:plF d=(plF a&&plF b):=by rw[aTf d,hk]; simp[h2.1]
   have i0:=ix0 d.g a b
   have i1:=ix1 d.g a b
   rw[←hk]at i0 i1
   have h6:=h2.1
   have hl2:((d.ks.length:Int)==2)=true:=by simp[h2.2]
   cases hma:plF a with
   | false =>
    rw[hma]at ha
    refine⟨.ret,d,.iv (.bool false),?_,?_,.inl ⟨rfl,rfl,by rw[hm,hma,Bool.false_and]⟩,aN K _ _ t35L0.eq_1 ?_⟩
    rotate_left 2
    ·simp (config := { maxSteps := 4000000 }) (disch:=omega) only[go_sem,dF,hl2,i0,tG,aQ ha]
     rfl
   | true =>
    rw[hma]at ha
    obtain⟨j,d',r,y3,y4,hj,ih2⟩:=aTg M hM ih x0 S N (by omega) b x2 (.iv (.bool true)) (.iv (.bool false)) x5 (by omega)
    refine⟨j,d',r,y3,y4,?_,aN K _ _ t35L0.eq_1 ?_⟩
    ·rw[hm,hma,Bool.true_and]
     rcases hj with h|⟨h1,h2,h3,h4⟩
     ·exact .inl h
     ·exact .inr ⟨h1,h2,h3,by omega⟩
    ·simp (config := { maxSteps := 4000000 }) (disch:=omega) only[go_sem,dF,hl2,i0,i1,tG,aQ ha]
     exact congrArg er ih2
  ·refine⟨.exit 0,d,x2,?_,?_,.inr ⟨rfl,rfl,rfl,Nat.le_refl _⟩,aN K _ _ t35L0.eq_1 ?_⟩
   rotate_left 2
   ·by_cases h6:d.k=6
    ·have hl2:((d.ks.length:Int)==2)=false:=by
      have:d.ks.length≠2:=fun e=>h2 ⟨h6,e⟩
      simp; omega
     simp (config := { maxSteps := 4000000 }) (disch:=omega) only[go_sem,dF,hl2]
     rfl
    ·simp (config := { maxSteps := 4000000 }) (disch:=omega) only[go_sem,dF]
     first|done|rfl
theorem aTh:∀(N:Nat),N≤1048576→∀d:Dt,d.w≤N→TM.Pure K 35 [.iv (.agg (kC d))] (.iv (.bool (plF d)))
 | 0,hN,d,hd=>by have:=Dt.w_eq d; omega
 | N+1,hN,d,hd=>by
  have ih:=aTh N (by omega)
  obtain⟨j,d',r,y3,y4,hj,hl⟩:=aTg N (by omega) ih (.iv (.agg (kC d))) [] (N+1) (by omega) d (.iv (.bool false)) u_ u_ u_ hd
  rcases hj with⟨rfl,rfl,hm⟩|⟨rfl,rfl,hm,hw'⟩
  ·refine cJ (S:=[]) (r:=.iv (.bool false)) (aB K _ (fn:=t35) rfl rfl ?_) (by rw[bQ,hm])
   rw[dI]at hl ⊢
   simp (config := { maxSteps := 4000000 }) (disch:=omega) only[t35,go_sem]
   rw[hl]
   simp (config := { maxSteps := 4000000 }) (disch:=omega) only[go_sem]
  ·have hwd:=Dt.w_eq d'
   have hwl:=Dt.ws_len d'.ks
   have h86:∀x∈d'.ks,TM.Pure K 60 [.iv (.agg (kC x))] (.iv (.bool (!plF x))):=by
    intro x hx
    have hc:=ih x (by have:=Dt.kid_lt hx; omega)
    refine cJ (S:=[]) (r:=.iv (.bool (!plF x))) (aB K _ (fn:=t60) rfl rfl ?_) (by rw[bQ])
    rw[dI]at hc ⊢
    simp (config := { maxSteps := 4000000 }) (disch:=omega) only[t60,go_sem,aQ hc]
   have h83:=aTa 60 (fun x=>!plF x) d'.g d'.ks (by omega) h86 []
   refine cJ (S:=[]) (r:=.iv (.bool (plF d'))) (aB K _ (fn:=t35) rfl rfl ?_) (by rw[bQ,hm])
   rw[dI]at hl ⊢
   rw[aTf d']
   simp (config := { maxSteps := 4000000 }) (disch:=omega) only[t35,go_sem]
   rw[hl]
   by_cases h5:d'.k=5
   ·by_cases h0:d'.n=0
    ·have:decide (d'.k=5∧d'.n≠0)=false:=by simp[h0]
     simp (config := { maxSteps := 4000000 }) (disch:=omega) only[go_sem,h83,aDw,this,Bool.not_false,Bool.true_and]
    ·have:decide (d'.k=5∧d'.n≠0)=true:=by simp[h0,h5]
     simp (config := { maxSteps := 4000000 }) (disch:=omega) only[go_sem,this,Bool.not_true,Bool.false_and]
   ·have:decide (d'.k=5∧d'.n≠0)=false:=by simp[h5]
    simp (config := { maxSteps := 4000000 }) (disch:=omega) only[go_sem,h83,aDw,this,Bool.not_false,Bool.true_and]
def oJ:List Int:=[2,1,2,1,1,2,2,1,2,2,2,2,2,2,2,1,1,1,1,2,1,2,3,1,1,1,1,2,1,2,3,1,2,1,2,3,1,0,1,1,0,0]
def oK:List (List UInt8):=[[101,113,63],[112,97,105,114,63],[99,111,110,115],[99,97,114],[99,100,114],[115,101,116,45,99,97,114,33],[115,101,116,45,99,100,114,33],[105,110,116,101,103,101,114,63],[37,43],[37,45],[37,42],[113,117,111,116,105,101,110,116],[114,101,109,97,105,110,100,101,114],[37,61],[37,60],[99,104,97,114,63],[99,104,97,114,45,62,105,110,116,101,103,101,114],[105,110,116,101,103,101,114,45,62,99,104,97,114],[115,116,114,105,110,103,63],[109,97,107,101,45,115,116,114,105,110,103],[115,116,114,105,110,103,45,108,101,110,103,116,104],[115,116,114,105,110,103,45,114,101,102],[115,116,114,105,110,103,45,115,101,116,33],[115,121,109,98,111,108,63],[115,121,109,98,111,108,45,62,115,116,114,105,110,103],[115,116,114,105,110,103,45,62,115,121,109,98,111,108],[118,101,99,116,111,114,63],[109,97,107,101,45,118,101,99,116,111,114],[118,101,99,116,111,114,45,108,101,110,103,116,104],[118,101,99,116,111,114,45,114,101,102],[118,101,99,116,111,114,45,115,101,116,33],[98,121,116,101,118,101,99,116,111,114,63],[109,97,107,101,45,98,121,116,101,118,101,99,116,111,114],[98,121,116,101,118,101,99,116,111,114,45,108,101,110,103,116,104],[98,121,116,101,118,101,99,116,111,114,45,117,56,45,114,101,102],[98,121,116,101,118,101,99,116,111,114,45,117,56,45,115,101,116,33],[112,114,111,99,101,100,117,114,101,63],[114,101,97,100,45,117,56],[119,114,105,116,101,45,117,56],[37,104,97,108,116],[101,111,102,45,111,98,106,101,99,116],[37,110,111,110,101]]
def tL (n:Int):Int:=if 0≤n∧n<42 then oJ.getD n.toNat 0 else -1
theorem aF4 {α:Type}(f:α→TV)(d:α){l:List α}{k:Nat}(h:k<l.length):sub (l.map f) k 1=some [f (l.getD k d)]:=by
 have e:k+1≤(l.map f).length:=by rw[List.length_map]; omega
 simp only[sub,e,↓reduceIte]
 rw[List.drop_eq_getElem_cons (by rw[List.length_map]; omega)]
 simp[List.getD,List.getElem?_eq_getElem h]
theorem aTi (n:Int)(S:aA):(lim K).call 92 [.iv (.int .i64 n)] S=.ret (.iv (.int .i64 (tL n)),S):=by
 refine aB K _ (fn:=t92) rfl rfl ?_
 unfold tL
 by_cases h:0≤n∧n<42
 ·rw[if_pos h]
  have hs:=aF4 (fun a=>TV.iv (.int .i64 a)) 0 (l:=oJ) (k:=0+n.toNat*1) (by rw[show oJ.length=42 from rfl]; omega)
  rw[show oJ.getD (0+n.toNat*1) 0=oJ.getD n.toNat 0 by congr 1; omega]at hs
  generalize oJ.getD n.toNat 0=r at *
  simp only[oJ,List.map_cons,List.map_nil]at hs
  simp (config := { maxSteps := 4000000 }) (disch:=omega) only[t92,go_sem,hs]
 ·rw[if_neg h]
  by_cases h0:n<0
  ·simp (config := { maxSteps := 4000000 }) (disch:=omega) only[t92,go_sem]
  ·simp (config := { maxSteps := 4000000 }) (disch:=omega) only[t92,go_sem]
def aTj (n:Int):List UInt8:=if 0≤n∧n<42 then oK.getD n.toNat [] else []
theorem aZx (n:Int)(S:aA):(lim K).call 105 [.iv (.int .i64 n)] S=.ret (.iv (.str (aTj n)),S):=by
 refine aB K _ (fn:=t105) rfl rfl ?_
 unfold aTj
 by_cases h:0≤n∧n<42
 ·rw[if_pos h]
  have hs:=aF4 (fun a=>TV.iv (.str a)) [] (l:=oK) (k:=0+n.toNat*1) (by rw[show oK.length=42 from rfl]; omega)
  rw[show oK.getD (0+n.toNat*1) []=oK.getD n.toNat [] by congr 1; omega]at hs
  generalize oK.getD n.toNat []=r at *
  simp only[oK,List.map_cons,List.map_nil]at hs
  simp (config := { maxSteps := 4000000 }) (disch:=omega) only[t105,go_sem,hs]
 ·rw[if_neg h]
  by_cases h0:n<0
  ·simp (config := { maxSteps := 4000000 }) (disch:=omega) only[t105,go_sem]
  ·simp (config := { maxSteps := 4000000 }) (disch:=omega) only[t105,go_sem]
structure FM (S:aA) (ia im:Nat) (A:Int→Int) (B:List Int) (m:Nat):Prop where
 ne:ia≠im
 cnt:∃l c,S[ia]? = some (.mp (mpR kX l) c)∧∀v,uZ l v=A v
 map:∃l c,S[im]? = some (.mp (mpR kX l) c)∧nO l c∧l.length≤m∧∀v,fG l v=true↔v∈B
mutual
def fr:Ex→List Int
 | .mk k n gv vs r g ks=>(if k=2∨k=4 then [n] else [])++(frs ks).filter fun v=>!decide (k=7∧v∈vs)
def frs:List Ex→List Int
 | []=>[]
 | d::ds=>fr d++frs ds
end
theorem bIl (a b:Int):TM.minmax true (.int .i64 a) [.iv (.int .i64 b)]=some (.int .i64 (if a<b then b else a)):=by simp[TM.minmax,min2]
theorem bIm (a b:Int):TM.minmax false (.int .i64 a) [.iv (.int .i64 b)]=some (.int .i64 (if b<a then b else a)):=by simp[TM.minmax,min2]
attribute [go_sem] bIl bIm
structure Shp where
 num:Bool
 kids:Int
 more:Bool
 word:List UInt8
 is:Bool
def bG5 (n:Int):List UInt8:=if n=0 then [99,97,108,108,47,99,99] else if n=1 then [97,112,112,108,121] else [99,97,108,108,45,119,105,116,104,45,118,97,108,117,101,115]
def ofF (k n:Int):Shp :=
 if k=1 then ⟨true,0,false,[99],true⟩ else if k=2 then ⟨true,0,false,[118],true⟩ else if k=3 then ⟨true,0,false,[103],true⟩
 else if k=4 then ⟨true,1,false,[115,101,116,33,32,118],true⟩ else if k=5 then ⟨true,1,false,[115,101,116,33,32,103],true⟩
 else if k=6 then ⟨false,3,false,[105,102],true⟩ else if k=7 then ⟨false,1,false,[108,97,109,98,100,97],true⟩ else if k=8 then ⟨false,1,true,[99,97,108,108],true⟩
 else if k=9 then ⟨true,if 0<tL n then tL n else 0,false,aTj n,decide (0≤tL n)⟩ else if k=10 then ⟨false,1,true,[98,101,103,105,110],true⟩
 else if k=11 then (if n<0∨2<n then ⟨false,0,false,[],false⟩ else ⟨true,if 2<n+1 then 2 else n+1,false,bG5 n,true⟩)
 else if k=12 then ⟨false,1,false,[98,111,120],true⟩ else if k=13 then ⟨false,1,false,[117,110,98,111,120],true⟩ else if k=14 then ⟨false,2,false,[115,101,116,45,98,111,120,33],true⟩
 else ⟨false,0,false,[],false⟩
def aTk (s:Shp):TV:=.tup [.iv (.agg [.bool s.num,.int .i64 s.kids,.bool s.more,.str s.word]),.iv (.bool s.is)]
theorem aI7 (e:Ex)(S:aA):(lim K).call 88 [.iv (.agg (eT e))] S=.ret (aTk (ofF e.k e.n),S):=by
 refine aB K _ (fn:=t88) rfl rfl ?_
 rw[aZ]
 unfold ofF aTk
 by_cases h1:e.k=1
 ·rw[if_pos h1]; simp (config := { maxSteps := 4000000 }) (disch:=omega) only[t88,go_sem]
 rw[if_neg h1]
 by_cases h2:e.k=2
 ·rw[if_pos h2]; simp (config := { maxSteps := 4000000 }) (disch:=omega) only[t88,go_sem]
 rw[if_neg h2]
 by_cases h3:e.k=3
 ·rw[if_pos h3]; simp (config := { maxSteps := 4000000 }) (disch:=omega) only[t88,go_sem]
 rw[if_neg h3]
 by_cases h4:e.k=4
 ·rw[if_pos h4]; simp (config := { maxSteps := 4000000 }) (disch:=omega) only[t88,go_sem]
 rw[if_neg h4]
 by_cases h5:e.k=5
 ·rw[if_pos h5]; simp (config := { maxSteps := 4000000 }) (disch:=omega) only[t88,go_sem]
 rw[if_neg h5]
 by_cases h6:e.k=6
 ·rw[if_pos h6]; simp (config := { maxSteps := 4000000 }) (disch:=omega) only[t88,go_sem]
 rw[if_neg h6]
 by_cases h7:e.k=7
 ·rw[if_pos h7]; simp (config := { maxSteps := 4000000 }) (disch:=omega) only[t88,go_sem]
 rw[if_neg h7]
 by_cases h8:e.k=8
 ·rw[if_pos h8]; simp (config := { maxSteps := 4000000 }) (disch:=omega) only[t88,go_sem]
 rw[if_neg h8]
 by_cases h9:e.k=9
 ·rw[if_pos h9]; simp (config := { maxSteps := 4000000 }) (disch:=omega) only[t88,go_sem,aTi,aZx]
 rw[if_neg h9]
 by_cases h10:e.k=10
 ·rw[if_pos h10]; simp (config := { maxSteps := 4000000 }) (disch:=omega) only[t88,go_sem]
 rw[if_neg h10]
 by_cases h11:e.k=11
 ·rw[if_pos h11]
  by_cases hn:e.n<0∨2<e.n
  ·rw[if_pos hn]
   rcases hn with hn|hn<;>simp (config := { maxSteps := 4000000 }) (disch:=omega) only[t88,go_sem]
  ·rw[if_neg hn]
   have hc:e.n=0∨e.n=1∨e.n=2:=by omega
   rcases hc with hc|hc|hc<;>rw[hc]<;>simp (config := { maxSteps := 4000000 }) (disch:=omega) only[t88,go_sem,aF,bG5,List.map_cons,List.map_nil]
 rw[if_neg h11]
 by_cases h12:e.k=12
 ·rw[if_pos h12]; simp (config := { maxSteps := 4000000 }) (disch:=omega) only[t88,go_sem]
 rw[if_neg h12]
 by_cases h13:e.k=13
 ·rw[if_pos h13]; simp (config := { maxSteps := 4000000 }) (disch:=omega) only[t88,go_sem]
 rw[if_neg h13]
 by_cases h14:e.k=14
 ·rw[if_pos h14]; simp (config := { maxSteps := 4000000 }) (disch:=omega) only[t88,go_sem]
 rw[if_neg h14]
 simp (config := { maxSteps := 4000000 }) (disch:=omega) only[t88,go_sem]
theorem aDx (n m:Int)(S:aA):(lim K).call 89 [.iv (.int .i64 n),.iv (.int .i64 m)] S=.ret (.iv (.bool (decide (0≤n∧n<m))),S):=by
 refine aB K _ (fn:=t89) rfl rfl ?_
 by_cases h0:0≤n
 ·by_cases h1:n<m
  ·simp (config := { maxSteps := 4000000 }) (disch:=omega) only[t89,go_sem]
  ·simp (config := { maxSteps := 4000000 }) (disch:=omega) only[t89,go_sem]
 ·simp (config := { maxSteps := 4000000 }) (disch:=omega) only[t89,go_sem]
theorem aMy (f:Nat)(act:Int→Bool)(a b c d:Nat)(g:Tag)(l:List Int)(hl:l.length≤2000000)(S:aA)(hf:∀x∈l,(lim K).call f [.iv (.int .i64 x),.ptr a b 0,.ptr c d 0] S=.ret (.iv (.bool (act x)),S))(x2:TV):∀(k i:Nat) (x3 x6 x7:TV),i+k=l.length →
  ∃j r y3 y5 y6 y7,(j=.ret∧(∃n:Int,r=.iv (.int .i64 n)∧0≤n)∧(l.drop i).any act=true∨j=.exit 0∧r=x2∧(l.drop i).any act=false) ∧
   lp' (lim K) t106L0 [.iv (.sl g (TM.one (.int .i64) l)),.fn f [] [.ptr a b 0,.ptr c d 0],x2,x3,.iv (.int .i64 l.length),.iv (.int .i64 (i:Int)),x6,x7] S=.ret (j,[.iv (.sl g (TM.one (.int .i64) l)),.fn f [] [.ptr a b 0,.ptr c d 0],r,y3,.iv (.int .i64 l.length),y5,y6,y7],S)
 | 0,i,x3,x6,x7,h=>by
  obtain rfl:i=l.length:=by omega
  refine⟨.exit 0,x2,?_,?_,?_,?_,.inr ⟨rfl,rfl,by rw[List.drop_length]; rfl⟩,aN K _ _ t106L0.eq_1 ?_⟩
  rotate_left 4
  ·simp (config := { maxSteps := 4000000 }) (disch:=omega) only[go_sem]
   rfl
 | k+1,i,x3,x6,x7,h=>by
  have hla:i<l.length:=by omega
  have hix:=aBf (f:=IV.int .i64) (t:=g) (l:=l) (i:=(i:Int)) (by omega)
  rw[Int.toNat_natCast]at hix
  have hdr:=kD hla
  have hc:=hf _ (oG hla)
  generalize hx:l.getD i default=x at *
  cases ha:act x with
  | true =>
   rw[ha]at hc
   refine⟨.ret,.iv (.int .i64 (i:Int)),?_,?_,?_,?_,.inl ⟨rfl,⟨_,rfl,by omega⟩,by rw[hdr,List.any_cons,ha,Bool.true_or]⟩,aN K _ _ t106L0.eq_1 ?_⟩
   rotate_left 4
   ·simp (config := { maxSteps := 4000000 }) (disch:=omega) only[go_sem,hix,hc]
    rfl
  | false =>
   rw[ha]at hc
   obtain⟨j,r,y3,y5,y6,y7,hj,ih⟩:=aMy f act a b c d g l hl S hf x2 k (i+1) (.iv (.int .i64 (i:Int))) (.iv (.bool true)) (.iv (.bool false)) (by omega)
   rw[show ((i+1:Nat):Int)=(i:Int)+1 by omega]at ih
   refine⟨j,r,y3,y5,y6,y7,?_,aN K _ _ t106L0.eq_1 ?_⟩
   ·rw[hdr,List.any_cons,ha,Bool.false_or]; exact hj
   ·simp (config := { maxSteps := 4000000 }) (disch:=omega) only[go_sem,hix,hc,aF]
    exact congrArg er ih
theorem aI8 (f:Nat)(act:Int→Bool)(a b c d:Nat)(g:Tag)(l:List Int)(hl:l.length≤2000000)(S:aA)(hf:∀x∈l,(lim K).call f [.iv (.int .i64 x),.ptr a b 0,.ptr c d 0] S=.ret (.iv (.bool (act x)),S)) :
  (lim K).call 90 [.iv (.sl g (TM.one (.int .i64) l)),.fn f [] [.ptr a b 0,.ptr c d 0]] S=.ret (.iv (.bool (l.any act)),S):=by
 obtain⟨j,r,y3,y5,y6,y7,hj,ih⟩:=aMy f act a b c d g l hl S hf (.iv (.int .i64 0)) l.length 0 u_ u_ u_ (by omega)
 rw[show ((0:Nat):Int)=0 from rfl,List.drop_zero]at *
 have h153:∃n:Int,(0≤n↔l.any act=true)∧(lim K).call 106 [.iv (.sl g (TM.one (.int .i64) l)),.fn f [] [.ptr a b 0,.ptr c d 0]] S=.ret (.iv (.int .i64 n),S):=by
  rcases hj with⟨rfl,⟨n,rfl,hn⟩,ha⟩|⟨rfl,rfl,ha⟩
  ·refine⟨n,by simp[hn,ha],aB K _ (fn:=t106) rfl rfl ?_⟩
   simp (config := { maxSteps := 4000000 }) (disch:=omega) only[t106,go_sem]
   rw[ih]
   simp (config := { maxSteps := 4000000 }) (disch:=omega) only[go_sem]
  ·refine⟨-1,by simp[ha],aB K _ (fn:=t106) rfl rfl ?_⟩
   simp (config := { maxSteps := 4000000 }) (disch:=omega) only[t106,go_sem]
   rw[ih]
   simp (config := { maxSteps := 4000000 }) (disch:=omega) only[go_sem]
 obtain⟨n,hn,h153⟩:=h153
 refine aB K _ (fn:=t90) rfl rfl ?_
 by_cases h0:0≤n
 ·rw[hn.1 h0]
  simp (config := { maxSteps := 4000000 }) (disch:=omega) only[t90,go_sem,h153]
 ·have:l.any act=false:=by
   cases h:l.any act with
   | true=>exact absurd (hn.2 h) h0
   | false=>rfl
  rw[this]
  simp (config := { maxSteps := 4000000 }) (disch:=omega) only[t90,go_sem,h153]
abbrev aTl (p:Pg):List TV:=[.iv (.int .i64 p.b.k),.iv (.int .i64 p.b.n),.iv (.sl p.b.gv (TM.one (.int .i64) p.b.vs)),.iv (.bool p.b.r),.iv (.sl p.b.g (bS p.b.ks)),.iv (.int .i64 p.gl),.iv (.int .i64 p.vr),.iv (.sl p.gc (eW p.cs))]
abbrev ckB (p:Pg) (ib ik ir:Nat):aM:=.cells 89 false (aTl p++[.map ib,.map ik,.map ir])
theorem aI9 (p:Pg)(ib ik ir ic jb jf:Nat)(v:Int)(S:aA)(hc:S[ic]? = some (ckB p ib ik ir))(hb:S[jb]? = some (.cells 86 false [.ptr ic 89 0]))(hf:S[jf]? = some (.cells 154 false [.fn 89 [] []])) :
  (lim K).call 91 [.iv (.int .i64 v),.ptr jf 154 0,.ptr jb 86 0] S=.ret (.iv (.bool (!decide (0≤v∧v<p.vr))),S):=by
 refine aB K _ (fn:=t91) rfl rfl ?_
 simp (config := { maxSteps := 4000000 }) (disch:=omega) only[t91,go_sem,hc,hb,hf,aDx]
def aJa (e:Ex):Bool :=
 let s:=ofF e.k e.n
 !s.is||decide ((e.ks.length:Int)<s.kids)||(decide (s.kids<e.ks.length)&&!s.more)||(!s.num&&decide (e.n≠0))||(decide (e.k≠7)&&(decide (0<e.vs.length)||e.r))||(e.r&&decide (e.vs.length=0))
def zC (p:Pg)(e:Ex):Bool :=
 if e.k=1 then decide (0≤e.n∧e.n<p.cs.length) else if e.k=2∨e.k=4 then decide (0≤e.n∧e.n<p.vr) else if e.k=3∨e.k=5 then decide (0≤e.n∧e.n<p.gl)
 else e.vs.all fun v=>decide (0≤v∧v<p.vr)
def pK (p:Pg)(e:Ex):Bool:=!aJa e&&zC p e
theorem aY (l:List Int)(f:Int→Bool):(!(l.any fun x=>!f x))=l.all f:=by
 induction l with
 | nil=>rfl
 | cons a r ih=>simp only[List.any_cons,List.all_cons,Bool.not_or,Bool.not_not,ih]
theorem gH (S:aA)(b b':aM):(S++[b]).set S.length b'=S++[b']:=by simp
def aJb (p:Pg)(ib ik ir ic:Nat)(e:Ex)(S:aA)(b:Bool):Prop:=∃S',(lim K).call 61 [.ptr ic 89 0,.iv (.agg (eT e))] S=.ret (.iv (.bool b),S')∧bC [] S S'
def aBu:List Int→List Int→Option (List Int)
 | [],B=>some B
 | v::r,B=>if v∈B then none else aBu r (v::B)
mutual
def chk (p:Pg):Ex→Nat→List Int→List Int→List Int→Int×List Int×List Int
 | .mk k n gv vs r g ks,depth,B,C,A =>
  if 4000≤depth then (5,B,C) else if pK p (.mk k n gv vs r g ks)=false then (4,B,C) else
  match aBu vs B with
  | none=>(14,B,C)
  | some B1 =>
   if k=1∧n∈C then (14,B,C) else
   if (k=2∨k=4)∧n∉vs++A then (6,B,C) else
   lC p ks (depth+1) B1 (if k=1 then n::C else C) (vs++A)
def lC (p:Pg):List Ex→Nat→List Int→List Int→List Int→Int×List Int×List Int
 | [],_,B,C,_=>(0,B,C)
 | e::es,depth,B,C,A =>
  match chk p e depth B C A with
  | (f,B1,C1)=>if f=0 then lC p es depth B1 C1 A else (f,B1,C1)
end
theorem aTm (p:Pg)(e:Ex)(depth:Nat)(B C A:List Int):chk p e depth B C A=if 4000≤depth then (5,B,C) else if pK p e=false then (4,B,C) else
  match aBu e.vs B with
  | none=>(14,B,C)
  | some B1 =>
   if e.k=1∧e.n∈C then (14,B,C) else
   if (e.k=2∨e.k=4)∧e.n∉e.vs++A then (6,B,C) else
   lC p e.ks (depth+1) B1 (if e.k=1 then e.n::C else C) (e.vs++A):=by
 cases e; rw[chk]; rfl
def gI (S:aA)(i:Nat)(B:List Int):Prop:=∃l c,S[i]? = some (.mp (mpR kX l) c)∧∀v,uZ l v=if v∈B then 1 else 0
theorem gI.congr {S:aA}{i:Nat}{B B':List Int}(h:gI S i B)(hb:∀v,v∈B↔v∈B'):gI S i B':=by
 obtain⟨l,c,h1,h2⟩:=h
 refine⟨l,c,h1,fun v=>?_⟩
 rw[h2 v]
 by_cases hv:v∈B
 ·rw[if_pos hv,if_pos ((hb v).1 hv)]
 ·rw[if_neg hv,if_neg (fun h=>hv ((hb v).2 h))]
theorem gI.put {S:aA}{i:Nat}{B:List Int}{l:List (Nat×Int×Int)}{c:Nat}(h1:S[i]? = some (.mp (mpR kX l) c))(h2:∀v,uZ l v=if v∈B then 1 else 0)(k:Int) :
  gI (S.set i (.mp (mpR kX (gU l c k 1)) (wH l c k))) i (k::B):=by
 refine⟨_,_,bW (bD h1) _,fun v=>?_⟩
 rw[aIw]
 by_cases e:k=v
 ·subst e; simp
 ·simp[e,h2 v,Ne.symm e]
theorem gI.del {S:aA}{i:Nat}{B B':List Int}{l:List (Nat×Int×Int)}{c:Nat}(h1:S[i]? = some (.mp (mpR kX l) c))(h2:∀v,uZ l v=if v∈B then 1 else 0)(k:Int)(hb:∀v,v∈B'↔v∈B∧v≠k) :
  gI (S.set i (.mp (mpR kX (gU l c k 0)) (wH l c k))) i B':=by
 refine⟨_,_,bW (bD h1) _,fun v=>?_⟩
 rw[aIw]
 by_cases e:k=v
 ·subst e
  have:k∉B':=fun h=>((hb k).1 h).2 rfl
  simp[this]
 ·rw[if_neg e,h2 v]
  by_cases hv:v∈B
  ·rw[if_pos hv,if_pos ((hb v).2 ⟨hv,Ne.symm e⟩)]
  ·rw[if_neg hv,if_neg (fun h=>hv ((hb v).1 h).1)]
theorem gI.keep {S S':aA}{i:Nat}{B:List Int}(h:gI S i B)(k:S'[i]? = S[i]?):gI S' i B:=by
 obtain⟨l,c,h1,h2⟩:=h
 exact⟨l,c,k.trans h1,h2⟩
structure CkS (p:Pg) (ic ib ik ir:Nat) (S:aA) (B C A:List Int):Prop where
 cb:ic≠ib
 ck:ic≠ik
 cr:ic≠ir
 bk:ib≠ik
 br:ib≠ir
 kr:ik≠ir
 at':S[ic]? = some (ckB p ib ik ir)
 b:gI S ib B
 c:gI S ik C
 a:gI S ir A
 sub:∀v∈A,v∈B
theorem CkS.keep {p:Pg}{ic ib ik ir:Nat}{S S':aA}{B C A:List Int}(h:CkS p ic ib ik ir S B C A)(k:bC [] S S'):CkS p ic ib ik ir S' B C A:=by
 obtain⟨lb,cb,b1,b2⟩:=h.b
 obtain⟨lk,ck,k1,k2⟩:=h.c
 obtain⟨la,ca,a1,a2⟩:=h.a
 exact⟨h.cb,h.ck,h.cr,h.bk,h.br,h.kr,k.get _ _ (by simp) h.at',⟨lb,cb,k.get _ _ (by simp) b1,b2⟩,⟨lk,ck,k.get _ _ (by simp) k1,k2⟩,⟨la,ca,k.get _ _ (by simp) a1,a2⟩,h.sub⟩
theorem CkS.congrA {p:Pg}{ic ib ik ir:Nat}{S:aA}{B C A A':List Int}(h:CkS p ic ib ik ir S B C A)(ha:∀v,v∈A↔v∈A'):CkS p ic ib ik ir S B C A' :=
 ⟨h.cb,h.ck,h.cr,h.bk,h.br,h.kr,h.at',h.b,h.c,h.a.congr ha,fun v hv=>h.sub v ((ha v).2 hv)⟩
theorem CkS.putV {p:Pg}{ic ib ik ir:Nat}{S:aA}{B C A:List Int}(h:CkS p ic ib ik ir S B C A){lb:List (Nat×Int×Int)}{cb:Nat}(b1:S[ib]? = some (.mp (mpR kX lb) cb))(b2:∀v,uZ lb v=if v∈B then 1 else 0)
  {la:List (Nat×Int×Int)} {ca:Nat} (a1:S[ir]? = some (.mp (mpR kX la) ca)) (a2:∀v,uZ la v=if v∈A then 1 else 0) (k:Int) :
  CkS p ic ib ik ir ((S.set ib (.mp (mpR kX (gU lb cb k 1)) (wH lb cb k))).set ir (.mp (mpR kX (gU la ca k 1)) (wH la ca k))) (k::B) C (k::A):=by
 have hbr:=h.br
 have hkr:=h.kr
 have hbk:=h.bk
 refine⟨h.cb,h.ck,h.cr,h.bk,h.br,h.kr,?_,?_,?_,?_,?_⟩
 ·rw[bK (Ne.symm h.cr),bK (Ne.symm h.cb)]; exact h.at'
 ·exact (gI.put b1 b2 k).keep (bK (Ne.symm hbr) _)
 ·exact h.c.keep (by rw[bK (Ne.symm hkr),bK hbk])
 ·exact gI.put (by rw[bK hbr]; exact a1) a2 k
 ·intro v hv
  rcases List.mem_cons.1 hv with rfl|hv
  ·simp
  ·exact List.mem_cons_of_mem _ (h.sub v hv)
theorem aMz (p:Pg)(ic ib ik ir:Nat)(e:Ex)(hw:e.w≤1048576)(C:List Int)(x1 x2 x3 x4 x6 x7 x8 x9 x10 x16 x17 x18 x19 x20 x21 x22 x23 x24 x25 x26 x27:TV):∀(k i:Nat) (x5 x14 x15:TV) (S:aA) (B A:List Int),i+k=e.vs.length→CkS p ic ib ik ir S B C A →
  ∃j r y5 y13 y14 y15 S',(j=.ret∧r=.iv (.int .i64 14)∧aBu (e.vs.drop i) B=none∨j=.exit 1∧r=x4∧∃B1,aBu (e.vs.drop i) B=some B1∧CkS p ic ib ik ir S' B1 C ((e.vs.drop i).reverse++A))∧bC [ib,ik,ir] S S' ∧
   lp' (lim K) t36L2 [.ptr ic 89 0,x1,x2,x3,x4,x5,x6,x7,x8,x9,x10,.iv (.sl e.gv (TM.one (.int .i64) e.vs)),.iv (.int .i64 e.vs.length),.iv (.int .i64 (i:Int)),x14,x15,x16,x17,x18,x19,x20,x21,x22,x23,x24,x25,x26,x27] S
    = .ret (j,[.ptr ic 89 0,x1,x2,x3,r,y5,x6,x7,x8,x9,x10,.iv (.sl e.gv (TM.one (.int .i64) e.vs)),.iv (.int .i64 e.vs.length),y13,y14,y15,x16,x17,x18,x19,x20,x21,x22,x23,x24,x25,x26,x27],S')
 | 0,i,x5,x14,x15,S,B,A,h,hs=>by
  obtain rfl:i=e.vs.length:=by omega
  refine⟨.exit 1,x4,?_,?_,?_,?_,S,.inr ⟨rfl,rfl,B,by rw[List.drop_length]; rfl,by rw[List.drop_length]; exact hs⟩,.refl _ _,aN K _ _ t36L2.eq_1 ?_⟩
  rotate_left 4
  ·simp (config := { maxSteps := 4000000 }) (disch:=omega) only[go_sem]
   rfl
 | k+1,i,x5,x14,x15,S,B,A,h,hs=>by
  have hwe:=Ex.w_eq e
  have hla:i<e.vs.length:=by omega
  have hix:=aBf (f:=IV.int .i64) (t:=e.gv) (l:=e.vs) (i:=(i:Int)) (by omega)
  rw[Int.toNat_natCast]at hix
  have hdr:=kD hla
  obtain⟨lb,cb,b1,b2⟩:=hs.b
  obtain⟨la,ca,a1,a2⟩:=hs.a
  have hat:=hs.at'
  have n1:=hs.cb
  have n2:=hs.ck
  have n3:=hs.cr
  have n4:=hs.bk
  have n5:=hs.br
  have n6:=hs.kr
  generalize hx:e.vs.getD i default=x at *
  have b2x:=b2 x
  by_cases hm:x∈B
  ·rw[if_pos hm]at b2x
   refine⟨.ret,.iv (.int .i64 14),?_,?_,?_,?_,S,.inl ⟨rfl,rfl,by rw[hdr,aBu,if_pos hm]⟩,.refl _ _,aN K _ _ t36L2.eq_1 ?_⟩
   rotate_left 4
   ·simp (config := { maxSteps := 4000000 }) (disch:=omega) only[go_sem,hix,hat,b1,b2x]
    rfl
  ·rw[if_neg hm]at b2x
   obtain⟨j,r,y5,y13,y14,y15,S',hj,hk,ih⟩:=aMz p ic ib ik ir e hw C x1 x2 x3 x4 x6 x7 x8 x9 x10 x16 x17 x18 x19 x20 x21 x22 x23 x24 x25 x26 x27 k (i+1) (.iv (.int .i64 x)) (.iv (.bool true)) (.iv (.bool false)) _ _ _ (by omega) (hs.putV b1 b2 a1 a2 x)
   rw[show ((i+1:Nat):Int)=(i:Int)+1 by omega]at ih
   refine⟨j,r,y5,y13,y14,y15,S',?_,((bC.set S (by simp) _).trans (bC.set _ (by simp) _)).trans hk,aN K _ _ t36L2.eq_1 ?_⟩
   ·rw[hdr,aBu,if_neg hm,List.reverse_cons,List.append_assoc]
    exact hj
   ·simp (config := { maxSteps := 4000000 }) (disch:=omega) only[go_sem,hix,hat,b1,b2x,a1,bK,aF]
    exact congrArg er ih
theorem zD:∀ {l B B1:List Int},aBu l B=some B1→(∀v,v∈B1↔v∈l∨v∈B)∧(∀v∈l,v∉B)∧l.Nodup
 | [],B,B1,h=>by simp[aBu]at h; subst h; simp
 | x::r,B,B1,h=>by
  unfold aBu at h
  split at h
  ·cases h
  ·rename_i hx
   obtain⟨h1,h2,h3⟩:=zD h
   refine⟨fun v=>?_,?_,?_⟩
   ·rw[h1 v]
    simp only[List.mem_cons]
    constructor
    ·rintro (h|h|h)
     ·exact .inl (.inr h)
     ·exact .inl (.inl h)
     ·exact .inr h
    ·rintro ((h|h)|h)
     ·exact .inr (.inl h)
     ·exact .inl h
     ·exact .inr (.inr h)
   ·intro v hv
    rcases List.mem_cons.1 hv with rfl|hv
    ·exact hx
    ·exact fun hb=>h2 v hv (List.mem_cons_of_mem _ hb)
   ·rw[List.nodup_cons]
    exact⟨fun hm=>h2 x hm (by simp),h3⟩
theorem CkS.delA {p:Pg}{ic ib ik ir:Nat}{S:aA}{B C A:List Int}(h:CkS p ic ib ik ir S B C A){la:List (Nat×Int×Int)}{ca:Nat}(a1:S[ir]? = some (.mp (mpR kX la) ca))(a2:∀v,uZ la v=if v∈A then 1 else 0)(k:Int){A':List Int}(ha:∀v,v∈A'↔v∈A∧v≠k) :
  CkS p ic ib ik ir (S.set ir (.mp (mpR kX (gU la ca k 0)) (wH la ca k))) B C A':=by
 refine⟨h.cb,h.ck,h.cr,h.bk,h.br,h.kr,?_,h.b.keep (bK (Ne.symm h.br) _),h.c.keep (bK (Ne.symm h.kr) _),gI.del a1 a2 k ha,fun v hv=>h.sub v ((ha v).1 hv).1⟩
 rw[bK (Ne.symm h.cr)]; exact h.at'
theorem aM0 (p:Pg)(ic ib ik ir:Nat)(e:Ex)(hw:e.w≤1048576)(B C:List Int)(x1 x2 x3 x4 x5 x6 x7 x9 x10 x11 x12 x13 x14 x15 x16 x17 x18 x19 x20 x21 x22 x23:TV):∀(k i:Nat) (x8 x27:TV) (S:aA) (A:List Int),i+k=e.vs.length→CkS p ic ib ik ir S B C A →
  ∃y8 y27 S',(∀A',(∀v,v∈A'↔v∈A∧v∉e.vs.drop i)→CkS p ic ib ik ir S' B C A')∧bC [ib,ik,ir] S S' ∧
   lp' (lim K) t36L0 [.ptr ic 89 0,x1,x2,x3,x4,x5,x6,x7,x8,x9,x10,x11,x12,x13,x14,x15,x16,x17,x18,x19,x20,x21,x22,x23,.iv (.sl e.gv (TM.one (.int .i64) e.vs)),.iv (.int .i64 e.vs.length),.iv (.int .i64 (i:Int)),x27] S
    = .ret (.exit 5,[.ptr ic 89 0,x1,x2,x3,x4,x5,x6,x7,y8,x9,x10,x11,x12,x13,x14,x15,x16,x17,x18,x19,x20,x21,x22,x23,.iv (.sl e.gv (TM.one (.int .i64) e.vs)),.iv (.int .i64 e.vs.length),.iv (.int .i64 e.vs.length),y27],S')
 | 0,i,x8,x27,S,A,h,hs=>by
  obtain rfl:i=e.vs.length:=by omega
  refine⟨?_,?_,S,fun A' ha=>hs.congrA (fun v=>by rw[ha v,List.drop_length]; simp),.refl _ _,aN K _ _ t36L0.eq_1 ?_⟩
  rotate_left 2
  ·simp (config := { maxSteps := 4000000 }) (disch:=omega) only[go_sem]
   rfl
 | k+1,i,x8,x27,S,A,h,hs=>by
  have hwe:=Ex.w_eq e
  have hla:i<e.vs.length:=by omega
  have hix:=aBf (f:=IV.int .i64) (t:=e.gv) (l:=e.vs) (i:=(i:Int)) (by omega)
  rw[Int.toNat_natCast]at hix
  have hdr:=kD hla
  obtain⟨la,ca,a1,a2⟩:=hs.a
  have hat:=hs.at'
  generalize hx:e.vs.getD i default=x at *
  obtain⟨y8,y27,S',hj,hk,ih⟩:=aM0 p ic ib ik ir e hw B C x1 x2 x3 x4 x5 x6 x7 x9 x10 x11 x12 x13 x14 x15 x16 x17 x18 x19 x20 x21 x22 x23 k (i+1) (.iv (.int .i64 x)) (.iv (.bool true)) _ (A.filter fun v=>decide (v≠x)) (by omega) (hs.delA a1 a2 x (fun v=>by simp))
  rw[show ((i+1:Nat):Int)=(i:Int)+1 by omega]at ih
  refine⟨y8,y27,S',fun A' ha=>hj A' (fun v=>?_),(bC.set S (by simp) _).trans hk,aN K _ _ t36L0.eq_1 ?_⟩
  ·rw[ha v,hdr]
   simp only[List.mem_cons,not_or,List.mem_filter,decide_eq_true_eq]
   constructor
   ·rintro⟨h1,h2,h3⟩; exact⟨⟨h1,h2⟩,h3⟩
   ·rintro⟨⟨h1,h2⟩,h3⟩; exact⟨h1,h2,h3⟩
  ·simp (config := { maxSteps := 4000000 }) (disch:=omega) only[go_sem,hix,hat,a1,aF]
   exact congrArg er ih
def aTn (p:Pg)(ic ib ik ir:Nat)(N:Nat):Prop:=∀(e:Ex) (depth:Nat) (S:aA) (B C A:List Int),e.w≤N→depth≤4000→CkS p ic ib ik ir S B C A →
 ∃S',(lim K).call 36 [.ptr ic 89 0,.iv (.agg (eT e)),.iv (.int .i64 depth)] S=.ret (.iv (.int .i64 (chk p e depth B C A).1),S')∧bC [ib,ik,ir] S S'∧((chk p e depth B C A).1=0→CkS p ic ib ik ir S' (chk p e depth B C A).2.1 (chk p e depth B C A).2.2 A)
theorem aM1 {N:Nat}(p:Pg)(ic ib ik ir:Nat)(ih:aTn p ic ib ik ir N)(e:Ex)(hw:e.w≤N+1)(hN:N+1≤1048576)(depth:Nat)(hd:depth<4000)(A:List Int)(x1 x3 x4 x5 x8 x9 x10 x11 x12 x13 x14 x15 x16 x17 x18 x24 x25 x26 x27:TV):∀(k i:Nat) (x6 x7 x22 x23:TV) (S:aA) (B C:List Int),i+k=e.ks.length→CkS p ic ib ik ir S B C A →
  ∃j r y6 y7 y21 y22 y23 S',(j=.ret∧r=.iv (.int .i64 (lC p (e.ks.drop i) (depth+1) B C A).1)∧(lC p (e.ks.drop i) (depth+1) B C A).1≠0∨j=.exit 3∧r=x4∧(lC p (e.ks.drop i) (depth+1) B C A).1=0∧CkS p ic ib ik ir S' (lC p (e.ks.drop i) (depth+1) B C A).2.1 (lC p (e.ks.drop i) (depth+1) B C A).2.2 A)∧bC [ib,ik,ir] S S' ∧
   lp' (lim K) t36L1 [.ptr ic 89 0,x1,.iv (.int .i64 depth),x3,x4,x5,x6,x7,x8,x9,x10,x11,x12,x13,x14,x15,x16,x17,x18,.iv (.sl e.g (bS e.ks)),.iv (.int .i64 e.ks.length),.iv (.int .i64 (i:Int)),x22,x23,x24,x25,x26,x27] S
    = .ret (j,[.ptr ic 89 0,x1,.iv (.int .i64 depth),x3,r,x5,y6,y7,x8,x9,x10,x11,x12,x13,x14,x15,x16,x17,x18,.iv (.sl e.g (bS e.ks)),.iv (.int .i64 e.ks.length),y21,y22,y23,x24,x25,x26,x27],S')
 | 0,i,x6,x7,x22,x23,S,B,C,h,hs=>by
  obtain rfl:i=e.ks.length:=by omega
  refine⟨.exit 3,x4,?_,?_,?_,?_,?_,S,.inr ⟨rfl,rfl,by rw[List.drop_length,lC],by rw[List.drop_length,lC]; exact hs⟩,.refl _ _,aN K _ _ t36L1.eq_1 ?_⟩
  rotate_left 5
  ·simp (config := { maxSteps := 4000000 }) (disch:=omega) only[go_sem]
   rfl
 | k+1,i,x6,x7,x22,x23,S,B,C,h,hs=>by
  have hla:i<e.ks.length:=by omega
  have hwe:=Ex.w_eq e
  have hwl:=Ex.ws_len e.ks
  have hix:=ixE (g:=e.g) (ks:=e.ks) (i:=(i:Int)) (by omega)
  rw[Int.toNat_natCast]at hix
  have hdr:=kD hla
  have hkw:=Ex.kid_lt (d:=e) (oG hla)
  generalize hx:e.ks.getD i default=x at *
  obtain⟨S1,hc,hk1,hs1⟩:=ih x (depth+1) S B C A (by omega) (by omega) hs
  rw[show ((depth+1:Nat):Int)=(depth:Int)+1 by omega]at hc
  rw[aZ]at hc
  have hun:lC p (x::e.ks.drop (i+1)) (depth+1) B C A=if (chk p x (depth+1) B C A).1=0 then lC p (e.ks.drop (i+1)) (depth+1) (chk p x (depth+1) B C A).2.1 (chk p x (depth+1) B C A).2.2 A else chk p x (depth+1) B C A:=by
   rw[lC]
  rw[hdr,hun]
  generalize hq:chk p x (depth+1) B C A=q at *
  obtain⟨f,B1,C1⟩:=q
  simp only at hc hs1 ⊢
  by_cases hf:f=0
  ·obtain⟨j,r,y6,y7,y21,y22,y23,S',hj,hk,ih2⟩:=aM1 p ic ib ik ir ih e hw hN depth hd A x1 x3 x4 x5 x8 x9 x10 x11 x12 x13 x14 x15 x16 x17 x18 x24 x25 x26 x27 k (i+1) (lbE x) (.iv (.int .i64 f)) (.iv (.bool true)) (.iv (.bool false)) S1 B1 C1 (by omega) (hs1 hf)
   rw[show ((i+1:Nat):Int)=(i:Int)+1 by omega]at ih2
   refine⟨j,r,y6,y7,y21,y22,y23,S',?_,hk1.trans hk,aN K _ _ t36L1.eq_1 ?_⟩
   ·rw[if_pos hf]; exact hj
   ·simp (config := { maxSteps := 4000000 }) (disch:=omega) only[go_sem,hix,wL,hc,aF]
    exact congrArg er ih2
  ·refine⟨.ret,.iv (.int .i64 f),?_,?_,?_,?_,?_,S1,.inl ⟨rfl,by rw[if_neg hf],by rw[if_neg hf]; exact hf⟩,hk1,aN K _ _ t36L1.eq_1 ?_⟩
   rotate_left 5
   ·simp (config := { maxSteps := 4000000 }) (disch:=omega) only[go_sem,hix,wL,hc,aF]
    rfl
mutual
def bvE:Ex→List Int
 | .mk k n gv vs r g ks=>vs++pS ks
def pS:List Ex→List Int
 | []=>[]
 | e::es=>bvE e++pS es
end
mutual
def ccE:Ex→List Int
 | .mk k n gv vs r g ks=>(if k=1 then [n] else [])++aJc ks
def aJc:List Ex→List Int
 | []=>[]
 | e::es=>ccE e++aJc es
end
mutual
def Sc (A:List Int):Ex→Prop
 | .mk k n gv vs r g ks=>(k=2∨k=4→n∈vs++A)∧Scs (vs++A) ks
def Scs (A:List Int):List Ex→Prop
 | []=>True
 | e::es=>Sc A e∧Scs A es
end
mutual
def Fr (p:Pg):Ex→Prop
 | .mk k n gv vs r g ks=>pK p (.mk k n gv vs r g ks)=true∧Frs p ks
def Frs (p:Pg):List Ex→Prop
 | []=>True
 | e::es=>Fr p e∧Frs p es
end
mutual
def dp:Ex→Nat
 | .mk k n gv vs r g ks=>dps ks
def dps:List Ex→Nat
 | []=>0
 | e::es=>max (dp e+1) (dps es)
end
theorem aM2 (e:Ex):bvE e=e.vs++pS e.ks:=by cases e; rw[bvE]; rfl
theorem bG6 (e:Ex):ccE e=(if e.k=1 then [e.n] else [])++aJc e.ks:=by cases e; rw[ccE]; rfl
theorem aM3 (A:List Int)(e:Ex):Sc A e↔(e.k=2∨e.k=4→e.n∈e.vs++A)∧Scs (e.vs++A) e.ks:=by cases e; rw[Sc]; rfl
theorem pT (p:Pg)(e:Ex):Fr p e↔pK p e=true∧Frs p e.ks:=by cases e; rw[Fr]; rfl
theorem aDy {A:List Int}:∀ {l:List Ex},Scs A l↔∀x∈l,Sc A x
 | []=>by simp[Scs]
 | a::r=>by rw[Scs,aDy]; simp
theorem mP {p:Pg}:∀ {l:List Ex},Frs p l↔∀x∈l,Fr p x
 | []=>by simp[Frs]
 | a::r=>by rw[Frs,mP]; simp
theorem aM4 {v:Int}:∀ {l:List Ex},v∈pS l↔∃x∈l,v∈bvE x
 | []=>by simp[pS]
 | a::r=>by rw[pS,List.mem_append,aM4]; simp
theorem aM5:∀(N:Nat) (e:Ex),e.w≤N→∀(A A':List Int),Sc A e→(∀v∈A,v∈A')→Sc A' e
 | 0,e,hw,A,A',h,ha=>by have:=Ex.w_eq e; omega
 | N+1,e,hw,A,A',h,ha=>by
  rw[aM3]at h ⊢
  refine⟨fun hk=>?_,?_⟩
  ·have:=h.1 hk
   simp only[List.mem_append]at this ⊢
   rcases this with h1|h1
   ·exact .inl h1
   ·exact .inr (ha _ h1)
  ·rw[aDy]at h ⊢
   intro x hx
   refine aM5 N x (by have:=Ex.kid_lt hx; omega) _ _ (h.2 x hx) fun v hv=>?_
   simp only[List.mem_append]at hv ⊢
   rcases hv with h1|h1
   ·exact .inl h1
   ·exact .inr (ha _ h1)
structure Fit (bs cs B C:List Int):Prop where
 nb:bs.Nodup
 db:∀v∈bs,v∉B
 nc:cs.Nodup
 dc:∀n∈cs,n∉C
theorem Fit.join {b1 b2 c1 c2 B C B1 C1:List Int}(h:Fit b1 c1 B C)(g:Fit b2 c2 B1 C1)(hb:∀v,v∈B1↔v∈b1∨v∈B)(hc:∀v,v∈C1↔v∈c1∨v∈C):Fit (b1++b2) (c1++c2) B C:=by
 refine⟨List.nodup_append.2 ⟨h.nb,g.nb,fun a ha b hb' e=>?_⟩,fun v hv=>?_,List.nodup_append.2 ⟨h.nc,g.nc,fun a ha b hb' e=>?_⟩,fun v hv=>?_⟩
 ·subst e; exact g.db a hb' ((hb a).2 (.inl ha))
 ·rcases List.mem_append.1 hv with h1|h1
  ·exact h.db v h1
  ·exact fun hB=>g.db v h1 ((hb v).2 (.inr hB))
 ·subst e; exact g.dc a hb' ((hc a).2 (.inl ha))
 ·rcases List.mem_append.1 hv with h1|h1
  ·exact h.dc v h1
  ·exact fun hC=>g.dc v h1 ((hc v).2 (.inr hC))
theorem aM6 (p:Pg)(e:Ex)(es:List Ex)(depth:Nat)(B C A:List Int):lC p (e::es) depth B C A=if (chk p e depth B C A).1=0 then lC p es depth (chk p e depth B C A).2.1 (chk p e depth B C A).2.2 A else chk p e depth B C A:=by rw[lC]
theorem aJd (p:Pg):∀(N:Nat) (e:Ex),e.w≤N→∀(depth:Nat) (B C A:List Int),(chk p e depth B C A).1=0 →
  Fr p e∧Sc A e∧Fit (bvE e) (ccE e) B C∧(∀v,v∈(chk p e depth B C A).2.1↔v∈bvE e∨v∈B)∧(∀n,n∈(chk p e depth B C A).2.2↔n∈ccE e∨n∈C)
 | 0,e,hw,depth,B,C,A,h=>by have:=Ex.w_eq e; omega
 | N+1,e,hw,depth,B,C,A,h=>by
  have key:∀(l:List Ex) (A:List Int) (B C:List Int),(∀x∈l,x.w≤N)→(lC p l (depth+1) B C A).1=0 →
    Frs p l∧Scs A l∧Fit (pS l) (aJc l) B C∧(∀v,v∈(lC p l (depth+1) B C A).2.1↔v∈pS l∨v∈B)∧(∀n,n∈(lC p l (depth+1) B C A).2.2↔n∈aJc l∨n∈C):=by
   intro l A
   induction l with
   | nil=>intro B C _ _; rw[lC,pS,aJc,Frs,Scs]; exact⟨trivial,trivial,⟨by simp,by simp,by simp,by simp⟩,by simp,by simp⟩
   | cons a r ih =>
    intro B C hl h
    rw[aM6]at h
    by_cases h0:(chk p a (depth+1) B C A).1=0
    ·rw[if_pos h0]at h
     obtain⟨f1,s1,t1,b1,c1⟩:=aJd p N a (hl a (by simp)) _ _ _ _ h0
     obtain⟨f2,s2,t2,b2,c2⟩:=ih _ _ (fun x hx=>hl x (by simp[hx])) h
     rw[aM6,if_pos h0,pS,aJc,Frs,Scs]
     refine⟨⟨f1,f2⟩,⟨s1,s2⟩,t1.join t2 b1 c1,fun v=>?_,fun v=>?_⟩
     ·rw[b2 v,b1 v,List.mem_append]
      constructor
      ·rintro (h|h|h)
       ·exact .inl (.inr h)
       ·exact .inl (.inl h)
       ·exact .inr h
      ·rintro ((h|h)|h)
       ·exact .inr (.inl h)
       ·exact .inl h
       ·exact .inr (.inr h)
     ·rw[c2 v,c1 v,List.mem_append]
      constructor
      ·rintro (h|h|h)
       ·exact .inl (.inr h)
       ·exact .inl (.inl h)
       ·exact .inr h
      ·rintro ((h|h)|h)
       ·exact .inr (.inl h)
       ·exact .inl h
       ·exact .inr (.inr h)
    ·rw[if_neg h0]at h; exact absurd h h0
  rw[aTm]at h ⊢
  split at h
  ·exact absurd h (by decide:¬((5:Int)=0))
  rename_i hd
  rw[if_neg hd]
  split at h
  ·exact absurd h (by decide:¬((4:Int)=0))
  rename_i hf
  rw[if_neg hf]
  split at h
  ·exact absurd h (by decide:¬((14:Int)=0))
  rename_i B1 ha
  split at h
  ·exact absurd h (by decide:¬((14:Int)=0))
  rename_i hc0
  rw[if_neg hc0]
  split at h
  ·exact absurd h (by decide:¬((6:Int)=0))
  rename_i hn
  rw[if_neg hn]
  obtain⟨m1,m2,m3⟩:=zD ha
  obtain⟨f2,s2,t2,b2,c2⟩:=key e.ks (e.vs++A) B1 _ (fun x hx=>by have:=Ex.kid_lt hx; omega) h
  have hC1:∀v,v∈(if e.k=1 then e.n::C else C)↔v∈(if e.k=1 then [e.n] else [])∨v∈C:=by
   intro v; split<;>simp
  have t1:Fit e.vs (if e.k=1 then [e.n] else []) B C:=by
   refine⟨m3,m2,by split<;>simp,fun v hv hC=>?_⟩
   split at hv
   ·rename_i hk
    simp at hv; subst hv
    exact hc0 ⟨hk,hC⟩
   ·cases hv
  rw[pT,aM3,aM2,bG6]
  refine⟨⟨by simpa using hf,f2⟩,⟨fun hk=>?_,s2⟩,t1.join t2 m1 hC1,fun v=>?_,fun v=>?_⟩
  ·rcases Classical.em (e.n∈e.vs++A) with h1|h1
   ·exact h1
   ·exact absurd ⟨hk,h1⟩ hn
  ·rw[b2 v,m1 v,List.mem_append]
   constructor
   ·rintro (h|h|h)
    ·exact .inl (.inr h)
    ·exact .inl (.inl h)
    ·exact .inr h
   ·rintro ((h|h)|h)
    ·exact .inr (.inl h)
    ·exact .inl h
    ·exact .inr (.inr h)
  ·rw[c2 v,hC1 v,List.mem_append]
   constructor
   ·rintro (h|h|h)
    ·exact .inl (.inr h)
    ·exact .inl (.inl h)
    ·exact .inr h
   ·rintro ((h|h)|h)
    ·exact .inr (.inl h)
    ·exact .inl h
    ·exact .inr (.inr h)
mutual
def sz:Ex→Nat
 | .mk k n gv vs r g ks=>szs ks+1
def szs:List Ex→Nat
 | []=>0
 | e::es=>sz e+szs es
end
theorem aCm (e:Ex):sz e=szs e.ks+1:=by cases e; rw[sz]; rfl
theorem rE:∀(a b:List Ex),szs (a++b)=szs a+szs b
 | [],b=>by rw[List.nil_append,szs,Nat.zero_add]
 | x::a,b=>by rw[List.cons_append,szs,szs,rE a b]; omega
theorem tM:∀l:List Ex,l.length≤szs l
 | []=>by simp[szs]
 | x::a=>by have:=tM a; have:=aCm x; rw[szs,List.length_cons]; omega
theorem yP {x:Ex}:∀ {l:List Ex},x∈l→sz x≤szs l
 | a::r,h=>by
  rw[szs]
  rcases List.mem_cons.1 h with rfl|h
  ·omega
  ·have:=yP h; omega
theorem aTo (l:List Ex)(a b:Nat):szs ((l.drop a).take b)+l.length≤szs l+((l.drop a).take b).length:=by
 have h1:=rE (l.take a) (l.drop a)
 have h2:=rE ((l.drop a).take b) ((l.drop a).drop b)
 rw[List.take_append_drop]at h1 h2
 have h3:=tM (l.take a)
 have h4:=tM ((l.drop a).drop b)
 have h5:l.length=(l.take a).length+(l.drop a).length:=by rw[←List.length_append,List.take_append_drop]
 have h6:(l.drop a).length=((l.drop a).take b).length+((l.drop a).drop b).length:=by rw[←List.length_append,List.take_append_drop]
 omega
def wtS:St→Nat
 | .tm _ _=>1
 | .rs e _=>11*sz e
def wts:List St→Nat
 | []=>0
 | s::r=>wtS s+wts r
def coS:St→Int
 | .tm _ _=>0
 | .rs e _=>10*sz e-3
def cos:List St→Int
 | []=>0
 | s::r=>coS s+cos r
theorem oL:∀(a b:List St),wts (a++b)=wts a+wts b
 | [],b=>by rw[List.nil_append,wts,Nat.zero_add]
 | x::a,b=>by rw[List.cons_append,wts,wts,oL a b]; omega
theorem oM:∀(a b:List St),cos (a++b)=cos a+cos b
 | [],b=>by rw[List.nil_append,cos,Int.zero_add]
 | x::a,b=>by rw[List.cons_append,cos,cos,oM a b]; omega
theorem mQ (l:List St):wts l.reverse=wts l:=by
 induction l with
 | nil=>rfl
 | cons a r ih=>rw[List.reverse_cons,oL,ih,wts,wts,wts]; omega
theorem mR (l:List St):cos l.reverse=cos l:=by
 induction l with
 | nil=>rfl
 | cons a r ih=>rw[List.reverse_cons,oM,ih,cos,cos,cos]; omega
def Gd (p:Pg)(b:Nat):St→Prop
 | .tm _ _=>True
 | .rs e _=>Fr p e∧sz e≤b
theorem Gd.mono {p:Pg}{b c:Nat}{s:St}(h:Gd p b s)(hb:b≤c):Gd p c s:=by
 cases s with
 | tm t to=>trivial
 | rs e to=>exact⟨h.1,by have:=h.2; omega⟩
def pot (σ:Mk):Int:=σ.nv+σ.fs.length
theorem gF (σ:Mk):pot σ.var=pot σ+1:=by show σ.nv+1+(σ.fs.length:Int)=σ.nv+σ.fs.length+1; omega
theorem nU (σ:Mk)(f:List IV):pot (σ.push f)=pot σ+1:=by unfold pot Mk.push; simp; omega
def bEm (e:Ex):Prop:=(e.k=10∧64<e.ks.length)∨e.k=8∨e.k=6∨e.k=11
structure VT (p:Pg) (e:Ex) (σ:Mk) (x:List St×List IV×Mk):Prop where
 g:∀s∈x.1,Gd p (sz e) s
 c:pot x.2.2+cos x.1+2≤pot σ+10*sz e
 w:wts x.1≤11*sz e
 n:¬bEm e→(∀s∈x.1,Gd p (sz e-1) s)∧wts x.1+10≤11*sz e∧pot x.2.2+cos x.1+5≤pot σ+10*sz e
def aTp (p:Pg)(e:Ex):Prop:=∀n σ,11*sz e≤n+4→∃x,eG n e σ=some x∧VT p e σ x
def aZy (p:Pg)(e:Ex):Prop:=∀n k σ,11*sz e≤n+1→∃x,eS n e k σ=some x∧pot x.2+5≤pot σ+10*sz e
theorem hP {p:Pg}{b:Nat}(hC:∀e,sz e≤b→Fr p e→aZy p e):∀(l:List St) (n:Nat) (t:List IV) (σ:Mk),(∀s∈l,Gd p b s)→wts l+1≤n→∃x,cC n l t σ=some x∧pot x.2≤pot σ+cos l
 | [],n+1,t,σ,_,_=>⟨_,by rw[cC],by show pot σ≤pot σ+cos []; rw[cos]; omega⟩
 | [],0,t,σ,_,h=>by omega
 | .tm c to::l,0,t,σ,_,h=>by omega
 | .tm c to::l,n+1,t,σ,hg,h=>by
  rw[wts]at h
  obtain⟨x,hx,hp⟩:=hP hC l n (c.set 6 (.sl .full [t])) σ (fun s hs=>hg s (List.mem_cons_of_mem _ hs)) (by simp only[wtS]at h; omega)
  exact⟨x,by rw[cC]; exact hx,by rw[cos,coS]; omega⟩
 | .rs e to::l,0,t,σ,_,h=>by omega
 | .rs e to::l,n+1,t,σ,hg,h=>by
  rw[wts]at h
  have he:=hg _ (List.mem_cons_self)
  have hse:=aCm e
  simp only[wtS]at h
  obtain⟨y,hy,hyp⟩:=hC e he.2 he.1 n (aV σ.nv) (σ.push (fnF .full [to] false true t)).var (by omega)
  obtain⟨x,hx,hp⟩:=hP hC l n (fP σ.nv σ.fs.length (.sl .full [y.1])) y.2 (fun s hs=>hg s (List.mem_cons_of_mem _ hs)) (by omega)
  refine⟨x,by rw[cC,hy]; exact hx,?_⟩
  rw[gF,nU]at hyp
  rw[cos,coS]; omega
theorem iG {p:Pg}{b:Nat}:∀(l:List Ex) (n:Nat) (σ:Mk),(∀e∈l,aTp p e∧sz e≤b)→11*szs l+1≤n→∃x,bP n l σ=some x∧(∀s∈x.1,Gd p b s)∧pot x.2.2+cos x.1+2*l.length≤pot σ+10*szs l∧wts x.1≤11*szs l∧x.2.1.length=l.length
 | [],n+1,σ,_,_=>⟨_,by rw[bP],by simp,by simp[cos,szs],by simp[wts],rfl⟩
 | [],0,σ,_,h=>by omega
 | e::l,0,σ,_,h=>by omega
 | e::l,n+1,σ,hv,h=>by
  rw[szs]at h
  have hse:=aCm e
  obtain⟨x,hx,hX⟩:=(hv e (by simp)).1 n σ (by omega)
  obtain⟨y,hy,g,c,w,hl⟩:=iG l n x.2.2 (fun e he=>hv e (List.mem_cons_of_mem _ he)) (by omega)
  have h1:=hX.c
  have h2:=hX.w
  refine⟨_,by rw[bP,hx,Option.bind_some,hy,Option.bind_some],fun s hs=>?_,?_,?_,by simp[hl]⟩
  ·rcases List.mem_append.1 hs with hs|hs
   ·exact (hX.g s hs).mono (hv e (by simp)).2
   ·exact g s hs
  ·show pot y.2.2+cos (x.1++y.1)+2*((l.length+1:Nat):Int)≤_
   rw[oM,szs]; omega
  ·show wts (x.1++y.1)≤_
   rw[oL,szs]; omega
structure FN (e:Ex):Prop where
 k7:e.k=7→e.ks.length=1
 k8:e.k=8→1≤e.ks.length
 k10:e.k=10→1≤e.ks.length
 k6:e.k=6→e.ks.length=3
 k11:e.k=11→(e.n=0∧e.ks.length=1)∨(e.n=1∧e.ks.length=2)∨(e.n=2∧e.ks.length=2)
theorem frN {p:Pg}{e:Ex}(h:Fr p e):FN e:=by
 have h1:=((pT p e).1 h).1
 unfold pK at h1
 simp only[Bool.and_eq_true,Bool.not_eq_true']at h1
 have h2:=h1.1
 unfold aJa at h2
 simp only[Bool.or_eq_false_iff,Bool.and_eq_false_iff,decide_eq_false_iff_not,Bool.not_eq_false']at h2
 obtain⟨⟨⟨⟨⟨a1,a2⟩,a3⟩,a4⟩,a5⟩,a6⟩:=h2
 unfold ofF at *
 refine⟨fun hk=>?_,fun hk=>?_,fun hk=>?_,fun hk=>?_,fun hk=>?_⟩
 ·simp[hk]at a2 a3; omega
 ·simp[hk]at a2; omega
 ·simp[hk]at a2; omega
 ·simp[hk]at a2 a3; omega
 ·simp only[hk]at a1 a2 a3
  by_cases h0:e.n<0∨2<e.n
  ·simp[h0]at a1
  ·simp[h0]at a2 a3
   split at a2<;>rename_i h3<;>simp[h3]at a3<;>omega
theorem aCn {p:Pg}{b:Nat}(hC:∀e,sz e≤b→Fr p e→aZy p e){l:List Ex}(hV:∀e∈l,aTp p e∧sz e≤b):∀(i n:Nat) (t:List IV) (σ:Mk),64*i<l.length→1≤n→(i=0∨11*szs l+708≤n+11*l.length)→∃x,dA (n+i) i l t σ=some x∧pot x.2≤pot σ+10*szs (l.take (64*i))
 | 0,n,t,σ,hi,h1,hn=>by
  cases n with
  | zero=>omega
  | succ n=>exact⟨(t,σ),by rw[Nat.add_zero,dA],by show pot σ≤pot σ+_; omega⟩
 | i+1,n,t,σ,hi,h1,hn=>by
  have hn:11*szs l+708≤n+11*l.length:=by omega
  have hp1:=aTo l (64*i) 64
  have hpl:((l.drop (64*i)).take 64).length=64:=by simp; omega
  have hsp:szs (l.take (64*(i+1)))=szs (l.take (64*i))+szs ((l.drop (64*i)).take 64):=by
   rw[←rE,show 64*(i+1)=64*i+64 by omega,List.take_add]
  have hpz:=tM ((l.drop (64*i)).take 64)
  obtain⟨x,hx,g,c,w,hl⟩:=iG (b:=b) ((l.drop (64*i)).take 64) (n+i) (σ.var.push (fnF .full [σ.nv] true true t)).var (fun e he=>hV e (List.mem_of_mem_drop (List.mem_of_mem_take he))) (by omega)
  obtain⟨y,hy,hyp⟩:=hP hC (St.tm (fP (σ.nv+1) σ.fs.length (.sl .nil [])) (σ.nv+1)::x.1).reverse (n+i) (jH .full [aV (σ.nv+1)]) x.2.2 (fun s hs=>by
   rcases List.mem_cons.1 (List.mem_reverse.1 hs) with rfl|hs
   ·trivial
   ·exact g s hs) (by rw[mQ,wts]; simp only[wtS]; omega)
  obtain⟨z,hz,hzp⟩:=aCn hC hV i n y.1 y.2 (by omega) h1 (.inr hn)
  refine⟨z,?_,?_⟩
  ·rw[←Nat.add_assoc,dA,hx,Option.bind_some,hy,Option.bind_some]
   exact hz
  ·rw[gF,nU,gF]at c
   rw[mR,cos]at hyp
   simp only[coS]at hyp
   rw[hsp]
   rw[hpl]at c
   omega
theorem tot (p:Pg):∀(N:Nat) (e:Ex),sz e≤N→Fr p e→aTp p e∧aZy p e
 | 0,e,hN,hf=>by have:=aCm e; omega
 | N+1,e,hN,hf=>by
  have hse:=aCm e
  have hfn:=frN hf
  have hK:∀x∈e.ks,Fr p x:=mP.1 ((pT p e).1 hf).2
  have hC:∀x,sz x≤sz e-1→Fr p x→aZy p x:=fun x hx hf=>(tot p N x (by omega) hf).2
  have hKv:∀x∈e.ks,aTp p x∧sz x≤sz e-1:=fun x hx=>by
   have:=yP hx
   exact⟨(tot p N x (by omega) (hK x hx)).1,by omega⟩
  have hv:aTp p e:=by
   intro n σ hn
   cases n with
   | zero=>omega
   | succ n =>
    rw[eG]
    by_cases h1:e.k=1
    ·rw[if_pos h1]
     exact⟨_,rfl,by simp,by show pot σ+cos []+2≤_; rw[cos]; omega,by simp[wts],fun _=>⟨by simp,by show 0+10≤_; omega,by show pot σ+cos []+5≤_; rw[cos]; omega⟩⟩
    rw[if_neg h1]
    by_cases h2:e.k=2
    ·rw[if_pos h2]
     exact⟨_,rfl,by simp,by show pot σ+cos []+2≤_; rw[cos]; omega,by simp[wts],fun _=>⟨by simp,by show 0+10≤_; omega,by show pot σ+cos []+5≤_; rw[cos]; omega⟩⟩
    rw[if_neg h2]
    by_cases h7:e.k=7
    ·rw[if_pos h7]
     have hl:=hfn.k7 h7
     obtain⟨b,hb⟩:∃b,e.ks=[b]:=List.length_eq_one_iff.1 hl
     have hbm:b∈e.ks:=by rw[hb]; simp
     have hbz:=yP hbm
     cases n with
     | zero=>omega
     | succ n =>
      obtain⟨y,hy,hyp⟩:=hC b (by omega) (hK b hbm) n (aV σ.nv) σ.var (by omega)
      rw[eQ,hb]
      simp only[hy,Option.bind_some]
      rw[gF]at hyp
      refine⟨_,rfl,fun s hs=>?_,?_,?_,fun _=>⟨fun s hs=>?_,?_⟩⟩
      ·rw[List.mem_singleton]at hs; subst hs; trivial
      ·show pot (Mk.var (Mk.push _ _))+cos [_]+2≤_
       rw[gF,nU,cos,cos]; simp only[coS]; omega
      ·show wts [_]≤_
       rw[wts,wts]; simp only[wtS]; omega
      ·rw[List.mem_singleton]at hs; subst hs; trivial
      ·refine⟨?_,?_⟩
       ·show wts [_]+10≤_
        rw[wts,wts]; simp only[wtS]; omega
       ·show pot (Mk.var (Mk.push _ _))+cos [_]+5≤_
        rw[gF,nU,cos,cos]; simp only[coS]; omega
    rw[if_neg h7]
    by_cases h10:e.k=10∧e.ks.length≤64
    ·rw[if_pos h10]
     obtain⟨x,hx,g,c,w,hl⟩:=iG (b:=sz e-1) e.ks n σ hKv (by omega)
     have hl1:=hfn.k10 h10.1
     rw[hx,Option.bind_some]
     have hne:x.2.1≠[]:=by intro h0; rw[h0]at hl; simp at hl; omega
     rw[List.getLast?_eq_some_getLast hne,Option.bind_some]
     refine⟨_,rfl,fun s hs=>(g s hs).mono (by omega),?_,?_,fun _=>⟨g,?_⟩⟩
     ·show pot x.2.2+cos x.1+2≤_; omega
     ·show wts x.1≤_; omega
     ·exact⟨by show wts x.1+10≤_; omega,by show pot x.2.2+cos x.1+5≤_; omega⟩
    rw[if_neg h10]
    by_cases hla:e.k=10∨e.k=8∨e.k=6∨e.k=11
    ·rw[if_pos hla]
     have hL:bEm e:=by
      unfold bEm
      rcases hla with h|h|h|h
      ·left; exact⟨h,by omega⟩
      ·right; left; exact h
      ·right; right; left; exact h
      ·right; right; right; exact h
     refine⟨_,rfl,fun s hs=>?_,?_,?_,fun hn=>absurd hL hn⟩
     ·rw[List.mem_singleton]at hs; subst hs; exact⟨hf,Nat.le_refl _⟩
     ·show pot σ.var+cos [_]+2≤_
      rw[gF,cos,cos]; simp only[coS]; omega
     ·show wts [_]≤_
      rw[wts,wts]; simp only[wtS]; omega
    rw[if_neg hla]
    obtain⟨x,hx,g,c,w,hl⟩:=iG (b:=sz e-1) e.ks n σ hKv (by omega)
    rw[hx,Option.bind_some]
    refine⟨_,rfl,fun s hs=>?_,?_,?_,fun _=>⟨fun s hs=>?_,?_⟩⟩
    ·rcases List.mem_append.1 hs with hs|hs
     ·exact (g s hs).mono (by omega)
     ·rw[List.mem_singleton]at hs; subst hs; trivial
    ·show pot x.2.2.var+cos (_++[_])+2≤_
     rw[gF,oM,cos,cos]; simp only[coS]; omega
    ·show wts (_++[_])≤_
     rw[oL,wts,wts]; simp only[wtS]; omega
    ·rcases List.mem_append.1 hs with hs|hs
     ·exact g s hs
     ·rw[List.mem_singleton]at hs; subst hs; trivial
    ·refine⟨?_,?_⟩
     ·show wts (_++[_])+10≤_
      rw[oL,wts,wts]; simp only[wtS]; omega
     ·show pot x.2.2.var+cos (_++[_])+5≤_
      rw[gF,oM,cos,cos]; simp only[coS]; omega
  refine⟨hv,fun n k σ hn=>?_⟩
  cases n with
  | zero=>omega
  | succ n =>
   rw[eS]
   by_cases h8:e.k=8
   ·rw[if_pos h8]
    obtain⟨x,hx,g,c,w,hl⟩:=iG (b:=sz e-1) e.ks n σ hKv (by omega)
    have hl1:=hfn.k8 h8
    rw[hx,Option.bind_some]
    split
    ·rename_i h0; rw[h0]at hl; simp at hl; omega
    ·obtain⟨y,hy,hyp⟩:=hP hC x.1.reverse n _ x.2.2 (fun s hs=>g s (List.mem_reverse.1 hs)) (by rw[mQ]; omega)
     rw[mR]at hyp
     exact⟨y,hy,by omega⟩
   rw[if_neg h8]
   by_cases h6:e.k=6
   ·rw[if_pos h6]
    have hl:=hfn.k6 h6
    match hks:e.ks,hl with
    | [c0,p0,q0],_ =>
     rw[hks]at hKv hK hse
     simp only[szs]at hse
     obtain⟨x,hx,hX⟩:=(hKv c0 (by simp)).1 n σ (by omega)
     obtain⟨y,hy,hyp⟩:=hC p0 (by omega) (hK p0 (by simp)) n k x.2.2 (by omega)
     obtain⟨z,hz,hzp⟩:=hC q0 (by omega) (hK q0 (by simp)) n k y.2 (by omega)
     have h1:=hX.c
     have h2:=hX.w
     obtain⟨u,hu,hup⟩:=hP hC x.1.reverse n (ifT x.2.1 y.1 z.1) z.2 (fun s hs=>(hX.g s (List.mem_reverse.1 hs)).mono (by omega)) (by rw[mQ]; omega)
     rw[mR]at hup
     simp only[hx,hy,hz,Option.bind_some]
     exact⟨u,hu,by omega⟩
   rw[if_neg h6]
   by_cases h10:e.k=10
   ·rw[if_pos h10]
    have hl1:=hfn.k10 h10
    have hne:e.ks≠[]:=by intro h0; rw[h0]at hl1; simp at hl1
    cases n with
    | zero=>omega
    | succ n =>
     rw[nC,List.getLast?_eq_some_getLast hne]
     generalize hz0:e.ks.getLast hne=z0
     have hzm:z0∈e.ks:=by rw[←hz0]; exact List.getLast_mem hne
     have hzz:=yP hzm
     generalize hq:(e.ks.length-1) / 64=q
     have hsplit:e.ks=e.ks.take (64*q)++(((e.ks.take (e.ks.length-1)).drop (64*q))++[z0]):=by
      have h1:e.ks=e.ks.take (e.ks.length-1)++[z0]:=by rw[←hz0,←List.dropLast_eq_take]; exact (List.dropLast_concat_getLast hne).symm
      have h2:e.ks.take (64*q)=(e.ks.take (e.ks.length-1)).take (64*q):=by rw[List.take_take,Nat.min_eq_left (by omega)]
      rw[h2,←List.append_assoc,List.take_append_drop]
      exact h1
     have hss:=congrArg szs hsplit
     rw[rE,rE]at hss
     simp only[szs]at hss
     obtain⟨x,hx,g,c,w,hl⟩:=iG (b:=sz e-1) ((e.ks.take (e.ks.length-1)).drop (64*q)) n σ (fun y hy=>hKv y (List.mem_of_mem_take (List.mem_of_mem_drop hy))) (by omega)
     obtain⟨y,hy,hyp⟩:=hC z0 (by omega) (hK z0 hzm) n k x.2.2 (by omega)
     obtain⟨u,hu,hup⟩:=hP hC x.1.reverse n y.1 y.2 (fun s hs=>g s (List.mem_reverse.1 hs)) (by rw[mQ]; omega)
     rw[mR]at hup
     have hql:=tM e.ks
     obtain⟨v,hv,hvp⟩:=aCn hC hKv q (n-q) u.1 u.2 (by omega) (by omega) (by omega)
     rw[show n-q+q=n by omega]at hv
     simp only[hx,hy,hu,Option.bind_some]
     exact⟨v,hv,by omega⟩
   rw[if_neg h10]
   by_cases h11:e.k=11
   ·rw[if_pos h11]
    cases n with
    | zero=>omega
    | succ n =>
     rw[nB]
     obtain⟨x,hx,g,c,w,hl⟩:=iG (b:=sz e-1) e.ks n σ hKv (by omega)
     have h3:=hfn.k11 h11
     rw[hx,Option.bind_some]
     by_cases hn1:e.n=1
     ·rw[if_pos hn1]
      split
      ·obtain⟨y,hy,hyp⟩:=hP hC x.1.reverse n _ x.2.2 (fun s hs=>g s (List.mem_reverse.1 hs)) (by rw[mQ]; omega)
       rw[mR]at hyp
       exact⟨y,hy,by omega⟩
      ·rename_i h0
       match ha:x.2.1,hl with
       | [],hl=>simp at hl; omega
       | [a],hl=>simp at hl; omega
       | a::b::r,_=>exact absurd ha (h0 a b r)
     rw[if_neg hn1]
     by_cases hn0:e.n=0
     ·rw[if_pos hn0]
      split
      ·obtain⟨y,hy,hyp⟩:=hP hC (x.1++[St.tm (fP (x.2.2.nv+2) x.2.2.fs.length (.sl .nil [])) (x.2.2.nv+2)]).reverse n _ _ (fun s hs=>by
        rcases List.mem_append.1 (List.mem_reverse.1 hs) with hs|hs
        ·exact g s hs
        ·rw[List.mem_singleton]at hs; subst hs; trivial) (by rw[mQ,oL,wts,wts]; simp only[wtS]; omega)
       refine⟨y,hy,?_⟩
       rw[mR,oM,cos,cos,gF,nU,gF,gF]at hyp
       simp only[coS]at hyp
       omega
      ·rename_i h0
       match ha:x.2.1,hl with
       | [],hl=>simp at hl; omega
       | a::r,_=>exact absurd ha (h0 a r)
     rw[if_neg hn0]
     split
     ·obtain⟨y,hy,hyp⟩:=hP hC (x.1++[St.tm (fP (x.2.2.nv+1) x.2.2.fs.length (.sl .nil [])) (x.2.2.nv+1)]).reverse n _ _ (fun s hs=>by
       rcases List.mem_append.1 (List.mem_reverse.1 hs) with hs|hs
       ·exact g s hs
       ·rw[List.mem_singleton]at hs; subst hs; trivial) (by rw[mQ,oL,wts,wts]; simp only[wtS]; omega)
      refine⟨y,hy,?_⟩
      rw[mR,oM,cos,cos,gF,nU,gF]at hyp
      simp only[coS]at hyp
      omega
     ·rename_i h0
      match ha:x.2.1,hl with
      | [],hl=>simp at hl; omega
      | [a],hl=>simp at hl; omega
      | a::b::r,_=>exact absurd ha (h0 a b r)
   rw[if_neg h11]
   obtain⟨x,hx,hX⟩:=hv n σ (by omega)
   have hnl:e.k=10∧64<e.ks.length∨e.k=8∨e.k=6∨e.k=11→False:=by omega
   obtain⟨g,w,h1⟩:=hX.n hnl
   rw[hx,Option.bind_some]
   obtain⟨y,hy,hyp⟩:=hP hC x.1.reverse n (jH .full [k,x.2.1]) x.2.2 (fun s hs=>g s (List.mem_reverse.1 hs)) (by rw[mQ]; omega)
   rw[mR]at hyp
   exact⟨y,hy,by omega⟩
abbrev lbX (e:Ex):TV:=.lb [.iv (.int .i64 e.k),.iv (.int .i64 e.n),.iv (.sl e.gv (TM.one (.int .i64) e.vs)),.iv (.bool e.r),.iv (.sl e.g (bS e.ks))]
abbrev agX (e:Ex):TV:=.iv (.agg [.int .i64 e.k,.int .i64 e.n,.sl e.gv (TM.one (.int .i64) e.vs),.bool e.r,.sl e.g (bS e.ks)])
theorem bIn {g:Tag}{ks:List Ex}{i:Nat}(h:i<ks.length):indexAddrS 5 (.iv (.sl g (bS ks))) (i:Int)=some (.iv (.cp [.int .i64 ks[i].k,.int .i64 ks[i].n,.sl ks[i].gv (TM.one (.int .i64) ks[i].vs),.bool ks[i].r,.sl ks[i].g (bS ks[i].ks)])):=by
 rw[←aZ]
 refine pJ (by omega) ?_ (nR _)
 rw[Int.toNat_natCast,fI,List.getElem?_map,List.getElem?_eq_getElem h]
 rfl
end Go.Proofs.YtageemgcnoblnaaDoor
