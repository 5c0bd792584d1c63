/- Some texts of the proof, joined. Condition: none. -/
import Derived.Test.YtageemgcnoblnaaDoorJa
import Derived.Test.YtageemgcnoblnaaDoorTmE
import Derived.Test.YtageemgcnoblnaaDoorTmF
set_option maxRecDepth 100000
set_option maxHeartbeats 64000000
set_option linter.unusedSimpArgs false
set_option linter.unusedVariables false
namespace Go.Proofs.YtageemgcnoblnaaDoor
open Go Go.TM
theorem bCk {S:aA}{g:Tag}{l:List Ex}{z:Ex}(hz:l.getLast? = some z):indexAddrS 5 (.iv (.sl g (bW l))) ((l.length:Int)-1)=some (.iv (.cp (cD z))):=by
 have hne:l≠[]:=by rintro rfl;simp at hz
 have hp:0<l.length:=List.length_pos_iff.2 hne
 have hg:(bW l)[((l.length:Int)-1).toNat]? = some (cD z):=by
  rw[show((l.length:Int)-1).toNat=l.length-1 by omega,eF,List.getElem?_map,<-List.getLast?_eq_getElem?,hz]
  rfl
 exact sT (by omega) hg (nM z)
theorem bHh (j:Nat)(q:Nat)(S:aA):(lim K).call 76 [acc j (stl q)] S=.ret (.fn 96 [] [.ptr S.length 23 0],S++[.cells 23 false [acc j (stl q)]]):=by
 refine aB K _ (fn:=t76) rfl rfl ?_
 by_cases h:stl q=[]
 ·rw[h,fG]
  simp (disch:=omega) only[t76,go_sem]
 ·rw[dE _ h]
  simp (disch:=omega) only[t76,go_sem]
theorem aAq (env:Env)(S:aA)(a b c d e:IV):bL env S (.iv (.cp [a,b,c,d,e])) 5=some [.iv a,.iv b,.iv c,.iv d,.iv e]:=by simp[bL,sub]
attribute [go_sem] aAq
theorem aV4 {b0:Int}{N:Nat}(hb0:0<=b0∧b0<=1152921504606846976)(hC:rJ b0 N)(hVs:∀m,m<=N->lT b0 m)(hLd:∀m,m<=N->uU b0 m):aVu b0 (N+1):=by
 intro l g k0 k1 σ x S jm jf hx ho htg hlen hb hB hM
 rw[jT]at hx
 split at hx
 ·cases hx
 rename_i z hz
 obtain⟨v,hv,hx⟩:=b_ hx
 obtain⟨u,hu,hx⟩:=b_ hx
 obtain⟨w,hw,hx⟩:=b_ hx
 have hne:l≠[]:=by rintro rfl;simp at hz
 have hp:0<l.length:=List.length_pos_iff.2 hne
 have hzm:z∈l:=List.mem_of_getLast? hz
 generalize hq:(l.length-1) / 64=q at *
 have hq1:64*q<=l.length-1:=by omega
 have l1:=(mono N).values hv
 have l2:=(mono N).code hu
 have l3:=(mono N).laid hw
 have l4:=(mono N).parts hx
 have hBw:Bd b0 w.2:=hB.le l4
 have hBu:Bd b0 u.2:=hBw.le l3
 have hBv:Bd b0 v.2.2:=hBu.le l2
 have n1:=l1.nv
 have n2:=l2.nv
 have n3:=l3.nv
 have hj:jm<S.length∧jf<S.length:=⟨aO hM.own,aO hM.row⟩
 have hle:=aG l
 -- the two boxes
 generalize hS2:S++[aP.cells 62 false [TV.ptr jm 64 0]]++[aP.cells 24 false [TV.iv (IV.sl g (bW l))]]=S2
 have hl2:S2.length=S.length+2:=by rw[<-hS2];simp
 have k2:aJ [] S S2:=by rw[<-hS2];exact(aJ.app _ _ _).trans (aJ.app _ _ _)
 have a2:S2[S.length]? = some (aP.cells 62 false [TV.ptr jm 64 0]):=by rw[<-hS2];simp
 have b2:S2[S.length+1]? = some (aP.cells 24 false [TV.iv (IV.sl g (bW l))]):=by rw[<-hS2];simp
 have hM2:=hM.keep k2 (by simp) (by simp)
 obtain⟨j,S3,lp1,hg3,hk3,hl3⟩:=aV2 (n0:=S2.length) (L:=l.length) (by omega) (b:=S.length+1) (g:=g) rfl (.ptr jm 64 0) (.iv (.sl g (bW l))) (.iv (.agg [.int .i64 k0,.int .i64 k1])) (.ptr S.length 62 0) (.lb [j_ k0,j_ k1]) (.lb [j_ 0,j_ 0,j_ 0,j_ 0,j_ 0,k_,k_]) u_ u_ u_ u_ u_ u_ u_ u_ u_ u_ q 0 0 S2 u_ (by omega) (Gl.nil ..) b2 (by omega) (by omega)
 rw[hq]at lp1 hg3
 rw[show stl 0=[] from rfl,fG,show((64*0:Nat):Int)=0 from rfl,show((64*q:Nat):Int)=64*(q:Int) by omega]at lp1
 have k3:aJ [] S2 S3:=hk3 rfl (aJ.refl _ _)
 have a3:=k3.get _ _ (by simp) a2
 have b3:=k3.get _ _ (by simp) b2
 have hM3:=hM2.keep k3 (by simp) (by simp)
 -- the last part's values
 obtain⟨t',sl⟩:=aVy htg (a:=64*q) (b:=l.length-1) (by omega) (by omega)
 rw[show((64*q:Nat):Int)=64*(q:Int) by omega,show((l.length-1:Nat):Int)=(l.length:Int)-1 by omega]at sl
 rw[List.drop_take]at hv
 have hXl:∀e∈(l.drop (64*q)).take (l.length-1-64*q),XO e:=fun e he=>ho e (List.mem_of_mem_drop (List.mem_of_mem_take he))
 obtain⟨jp,ja,S4,c45,g1,g2,hd,hM4,k4⟩:=hVs N (Nat.le_refl _) (g:=t') hv hXl (by simp;omega) hb hBv hM3
 obtain⟨s1,s2,s3,s4⟩:=(cW N).values hv hXl
 have a4:=k4.get _ _ (by simp;omega) a3
 have b4:=k4.get _ _ (by simp;omega) b3
 -- the last one's code
 have ix:=bCk (S:=S4) (g:=g) hz
 generalize hS5:S4++[aP.cells 46 false [j_ 0,j_ 0,j_ 0,j_ 0,j_ 0,k_,k_]]=S5
 have k5:aJ [] S4 S5:=by rw[<-hS5];exact aJ.app _ _ _
 have o5:S5[S4.length]? = some (aP.cells 46 false [j_ 0,j_ 0,j_ 0,j_ 0,j_ 0,k_,k_]):=by rw[<-hS5];simp
 have a5:=k5.get _ _ (by simp) a4
 have b5:=k5.get _ _ (by simp) b4
 obtain⟨S6,c24,hM6,k6⟩:=hC hu (ho z hzm) (by omega) hBu (hM4.keep k5 (by simp) (by simp))
 have tu:=(cW N).code hu (ho z hzm)
 obtain⟨S7,c23,hM7,k7⟩:=hLd N (Nat.le_refl _) hw (SR.acc jp _) tu s2 (by have:=hBv.hi;omega) (by omega) hBw hM6
 have tw:=(cW N).laid hw tu (fun s hs=>s2 s (List.mem_reverse.1 hs))
 have k57:=k6.trans k7
 have hS4l:S.length+2<=S4.length:=by have:=k4.len;omega
 have o7:=k57.get _ _ (by simp;omega) o5
 have a7:=k57.get _ _ (by simp;omega) a5
 have b7:=k57.get _ _ (by simp;omega) b5
 have a6:=k6.get _ _ (by simp;omega) a5
 have b6:=k6.get _ _ (by simp;omega) b5
 obtain⟨w0,w1,w2,w3,w4,w5,w6,u5,u6,hwe⟩:=tw
 generalize hS8:S7.set S4.length (aP.cells 46 false [j_ w0,j_ w1,j_ w2,j_ w3,j_ w4,.iv (.sl w5 u5),.iv (.sl w6 u6)])=S8
 have k8:aJ [S4.length] S7 S8:=by rw[<-hS8];exact aJ.set _ (by simp) _
 have o8:S8[S4.length]? = some (aP.cells 46 false [j_ w0,j_ w1,j_ w2,j_ w3,j_ w4,.iv (.sl w5 u5),.iv (.sl w6 u6)]):=by rw[<-hS8];exact bQ (aO o7) _
 have c76:=bHh j q S8
 generalize he:e49 jm S.length (S.length+1) S4.length S8.length (.iv (.sl g (bW l))) (.iv (.agg [.int .i64 k0,.int .i64 k1])) (acc j (stl q)) (j_ (64*(q:Int))) (j_ (64*(q:Int))) (acc jp (eQ v.1)) z_=e
 generalize hSa:S8++[aP.cells 23 false [acc j (stl q)]]++[aP.lp .ready none e [18,19] aIg aIh]=Sa
 have ka:aJ [] S8 Sa:=by rw[<-hSa];exact(aJ.app _ _ _).trans (aJ.app _ _ _)
 have hlt8:=aO o8
 have hZ:ZS Sa S.length (S.length+1) S4.length S8.length (S8.length+1) jm jf g l e (acc j (stl q)) w.1 w.2:=by
  refine⟨ka.get _ _ (by simp) (k8.get _ _ (by simp;omega) a7),ka.get _ _ (by simp) (k8.get _ _ (by simp;omega) b7),?_,?_,?_,(hM7.keep k8 (by simp;omega) (by simp;omega)).keep ka (by simp) (by simp),by omega⟩
  ·rw[hwe];exact ka.get _ _ (by simp) o8
  ·rw[<-hSa];simp
  ·rw[<-hSa];simp
 rw[<-he]at hZ
 obtain⟨Sb,y3,y4,lp2,hZb,kb⟩:=aV3 hb0 hVs hLd ho htg hlen (q:=q) (by omega) q N w.1 w.2 x Sa u_ u_ (Nat.le_refl _) (by omega) hx ((cW N).laid hw tu (fun s hs=>s2 s (List.mem_reverse.1 hs))) (by omega) hB hZ
 have hlen23:aC2 .sl Sa (acc j (stl q))=some (j_ q):=by rw[(SR.acc j (stl q)).len Sa,aAp]
 have hca:=hZ.fc
 have c96:(lim K).call 96 [.yld (S8.length+1),.ptr S8.length 23 0] Sa=.ret (u_,Sb):=by
  refine aB K _ (fn:=t96) rfl rfl ?_
  simp (disch:=omega) only[t96,go_sem,hca,hlen23,aH]
  rw[lp2]
  simp (disch:=omega) only[go_sem]
 have hyb:=hZb.fy
 have hob:=hZb.fo
 have tx:=(cW N).parts hx ⟨w0,w1,w2,w3,w4,w5,w6,u5,u6,hwe⟩ ho
 obtain⟨x0,x1,x2,x3,x4,x5,x6,z5,z6,hxe⟩:=tx
 rw[hxe]at hob ⊢
 simp only[List.map_cons,List.map_nil]at hob
 have hob':∀X,(Sb.set (S8.length+1) X)[S4.length]? = some (aP.cells 46 false [j_ x0,j_ x1,j_ x2,j_ x3,j_ x4,.iv (.sl x5 z5),.iv (.sl x6 z6)]):=fun X=>by rw[aU (by omega)];exact hob
 rw[he]at hyb
 refine⟨Sb.set (S8.length+1) (.lp .exhausted none e [18,19] aIg aIh),aB K _ (fn:=t49) rfl rfl ?_,hZb.ms.keep (aJ.set (I:=[S8.length+1]) _ (by simp) _) (by simp;omega) (by simp;omega),?_⟩
 ·simp (disch:=omega) only[t49,go_sem]
  rw[hS2,show(S++[aP.cells 62 false [TV.ptr jm 64 0]]).length=S.length+1 by simp,lp1]
  rw[aL]at ix c24
  rw[hwe]at c23
  subst he
  unfold aIg aIh e49 at hSa hyb
  have hl8:(S8++[aP.cells 23 false [acc j (stl q)]]).length=S8.length+1:=by simp
  simp (disch:=omega) only[go_sem,aH,aAp,a3,b3,hle,sl,c45,a4,b4,hS5,a5,b5,ix,c24,a6,b6,c23,a7,b7,o7,hS8,c76,go_rangeFunc,bB2,hl8,hSa,c96,hyb,hob']
  rfl
 ·refine⟨?_,fun r B hr hb=>?_⟩
  ·have h1:=k57.len
   have h2:=k8.len
   have h3:=ka.len
   have h4:=kb.len
   have h5:=k5.len
   simp;omega
  ·simp at hr
   have hlr:=aO hb
   have u1:=k57.get r B (by simp;omega) (k5.get r B (by simp) (k4.get r B (by simp;omega) (k3.get r B (by simp) (k2.get r B (by simp) hb))))
   have u2:=ka.get r B (by simp) (k8.get r B (by simp;omega) u1)
   rw[aU (by omega)]
   exact kb.get r B (by simp;omega) u2
structure bKo (b0:Int) (n:Nat):Prop where
 v:vS b0 n
 vs:lT b0 n
 l:aVq b0 n
 d:uU b0 n
 c:rJ b0 n
 t:aVt b0 n
 s:aVu b0 n
theorem aV5 {b0:Int}(hb0:0<=b0∧b0<=1152921504606846976):∀N n,n<=N->bKo b0 n
 | 0,n,h=>by
  obtain rfl:n=0:=by omega
  refine⟨?_,?_,?_,?_,?_,?_,?_⟩
  ·intro e σ x S jm jf hx;simp[dQ]at hx
  ·intro l g σ x S jm jf hx;simp[bP]at hx
  ·intro e σ x S jm jf hx;simp[eO]at hx
  ·intro l r t σ x S jm jf hx;simp[bN]at hx
  ·intro e k0 k1 σ x S jm jf hx;simp[dR]at hx
  ·intro e k0 k1 σ x S jm jf hx;simp[nO]at hx
  ·intro l g k0 k1 σ x S jm jf hx;simp[jT]at hx
 | N+1,n,h=>by
  have ih:=aV5 hb0 N
  by_cases h1:n<=N
  ·exact ih n h1
  ·obtain rfl:n=N+1:=by omega
   have a:=ih N (Nat.le_refl _)
   exact⟨aLs hb0 a.l a.vs,aIf fun m hm=>(ih m hm).v,aVr hb0 a.c,aQ9 hb0 fun m hm=>(ih m hm).c,aRa hb0 a.v a.vs a.d a.c a.t a.s,aVw hb0 a.vs a.d,aV4 hb0 a.c (fun m hm=>(ih m hm).vs) fun m hm=>(ih m hm).d⟩
def gL:Nat->Ex->Bool
 | 0,_=>false
 | n+1,e=>decide (e.k=4)||e.ks.any (gL n)
theorem aV6 {n:Nat}(ih:∀e:Ex,e.w<=n->∀S,(lim K).call 19 [.iv (.agg (cD e))] S=.ret (.iv (.bool (gL n e)),S)){g:Tag}{ks:List Ex}(hw:∀x∈ks,x.w<=n)(hl:ks.length<=1048576)(x0 x1 x2:TV)(S:aA):∀(k i:Nat) (x2 x3 x6 x7:TV),i+k=ks.length ->
  ∃j y2 y3 y5 y6 y7,lp' (lim K) t70L0 [.iv (.sl g (bW ks)),.fn 19 [] [],x2,x3,j_ ks.length,j_ i,x6,x7] S=.ret (j,[.iv (.sl g (bW ks)),.fn 19 [] [],y2,y3,j_ ks.length,y5,y6,y7],S) ∧
   ((j=.exit 0∧(ks.drop i).any (gL n)=false)∨(j=.ret∧(ks.drop i).any (gL n)=true∧∃q:Nat,y2=j_ q))
 | 0,i,x2,x3,x6,x7,h=>by
  obtain rfl:i=ks.length:=by omega
  refine⟨.exit 0,x2,x3,j_ ks.length,z_,x7,aI K _ _ t70L0.eq_1 ?_,.inl ⟨rfl,by rw[List.drop_length];rfl⟩⟩
  simp (disch:=omega) only[go_sem]
 | k+1,i,x2,x3,x6,x7,h=>by
  have hla:i<ks.length:=by omega
  have hix:indexAddrS 5 (.iv (.sl g (bW ks))) (i:Int)=some (.iv (.cp (cD ks[i]))):=by
   refine sT (by omega) ?_ (nM _)
   rw[Int.toNat_natCast,eF,List.getElem?_map,List.getElem?_eq_getElem hla]
   rfl
  have hc:=bO (ih ks[i] (hw _ (List.getElem_mem _)) []) rfl
  have hdr:=List.drop_eq_getElem_cons hla
  rw[aL]at hix hc
  cases hs:gL n ks[i]with
  | true =>
   rw[hs]at hc
   refine⟨.ret,j_ (i:Nat),j_ (i:Nat),j_ (i:Nat),e_,e_,aI K _ _ t70L0.eq_1 ?_,.inr ⟨rfl,by rw[hdr,List.any_cons,hs];rfl,i,rfl⟩⟩
   simp (disch:=omega) only[go_sem,hix,aAq,aF hc]
  | false =>
   rw[hs]at hc
   obtain⟨j,y2,y3,y5,y6,y7,hlp,hj⟩:=aV6 ih hw hl x0 x1 x2 S k (i+1) x2 (j_ (i:Nat)) e_ z_ (by omega)
   refine⟨j,y2,y3,y5,y6,y7,aI K _ _ t70L0.eq_1 ?_,by rw[hdr,List.any_cons,hs];exact hj⟩
   rw[show((i+1:Nat):Int)=(i:Int)+1 by omega]at hlp
   simp (disch:=omega) only[go_sem,hix,aAq,aF hc,aH]
   exact congrArg er hlp
theorem aLv:∀(n:Nat) (e:Ex),e.w<=n->n<=1048576->∀S,(lim K).call 19 [.iv (.agg (cD e))] S=.ret (.iv (.bool (gL n e)),S)
 | 0,e,hw,_,S=>by have:=Ex.w_eq e;omega
 | n+1,e,hw,hn,S=>by
  have hkl:=Ex.ws_len e.ks
  have hwe:=Ex.w_eq e
  have ih:∀x:Ex,x.w<=n->∀S,(lim K).call 19 [.iv (.agg (cD x))] S=.ret (.iv (.bool (gL n x)),S):=fun x hx S=>aLv n x hx (by omega) S
  obtain⟨j,y2,y3,y5,y6,y7,hlp,hj⟩:=aV6 ih (g:=e.g) (ks:=e.ks) (fun x hx=>by have:=Ex.kid_lt hx;omega) (by omega) u_ u_ u_ S e.ks.length 0 (j_ 0) u_ u_ u_ (by omega)
  rw[List.drop_zero]at hj
  have hle:=aG e.ks
  have c70:∃q:Int,(lim K).call 70 [.iv (.sl e.g (bW e.ks)),.fn 19 [] []] S=.ret (j_ q,S)∧decide (0<=q)=e.ks.any (gL n):=by
   rcases hj with⟨rfl,ha⟩|⟨rfl,ha,q,rfl⟩
   ·refine⟨-1,aB K _ (fn:=t70) rfl rfl ?_,by rw[ha];rfl⟩
    simp (disch:=omega) only[t70,go_sem,hle]
    rw[n0_]at hlp
    rw[hlp]
    simp (disch:=omega) only[go_sem]
   ·refine⟨q,aB K _ (fn:=t70) rfl rfl ?_,by rw[ha];simp⟩
    simp (disch:=omega) only[t70,go_sem,hle]
    rw[n0_]at hlp
    rw[hlp]
    simp (disch:=omega) only[go_sem]
  obtain⟨q,c70,hq⟩:=c70
  have c43:(lim K).call 43 [.iv (.sl e.g (bW e.ks)),.fn 19 [] []] S=.ret (.iv (.bool (e.ks.any (gL n))),S):=by
   refine aB K _ (fn:=t43) rfl rfl ?_
   rw[<-hq]
   simp (disch:=omega) only[t43,go_sem,c70]
  refine aB K _ (fn:=t19) rfl rfl ?_
  rw[aL,gL]
  by_cases h4:e.k=4
  ·simp (disch:=omega) only[t19,go_sem,h4,c43]
  ·simp (disch:=omega) only[t19,go_sem,h4,c43]
def mkC (jf:Nat)(σ:Mk):aP:=.cells 78 false [.msl jf (σ.fs.length-1) 0 σ.fs.length σ.fs.length 11,.iv (.int .i64 σ.nv)]
structure MkC (S:aA) (jm jf:Nat) (σ:Mk):Prop where
 own:S[jm]? = some (mkC jf σ)
 row:S[jf]? = some (.cells (σ.fs.length-1) true (cG σ.fs))
 ne:σ.fs≠[]
 wid:∀f∈σ.fs,f.length=11∧f.all fY=true
 ok:0<=σ.nv∧σ.nv<=4611686018427387904∧σ.fs.length<=1000000
theorem MkC.jne {S:aA}{jm jf:Nat}{σ:Mk}(h:MkC S jm jf σ):jm≠jf:=by
 rintro rfl
 have a:=h.own
 rw[h.row]at a
 unfold mkC at a
 simp at a
theorem MkC.keep {S S':aA}{jm jf:Nat}{σ:Mk}{I:List Nat}(h:MkC S jm jf σ)(k:aJ I S S')(h1:jm∉I)(h2:jf∉I):MkC S' jm jf σ :=
 ⟨k.get _ _ h1 h.own,k.get _ _ h2 h.row,h.ne,h.wid,h.ok⟩
theorem rL {S:aA}{jm jf:Nat}{σ:Mk}(h:MkC S jm jf σ):(lim K).call 28 [.ptr jm 78 0] S=.ret (j_ σ.nv,S.set jm (mkC jf σ.var)):=by
 have h1:=h.own
 have h2:=aO h1
 have h3:=h.ok
 have e1:=fun b=>bQ h2 b
 unfold mkC Mk.var at *
 generalize σ.fs.length=n at *
 refine aB K _ (fn:=t28) rfl rfl ?_
 simp (disch:=omega) only[t28,go_sem,h1,e1,aH,Int.add_sub_cancel]
theorem MkC.var {S:aA}{jm jf:Nat}{σ:Mk}(h:MkC S jm jf σ)(hv:σ.nv<4611686018427387904):MkC (S.set jm (mkC jf σ.var)) jm jf σ.var :=
 ⟨bQ (aO h.own) _,by rw[aU h.jne];exact h.row,h.ne,h.wid,by have:=h.ok;show 0<=σ.nv+1∧σ.nv+1<=_∧σ.fs.length<=_;omega⟩
theorem aPe {S:aA}{jm jf:Nat}{σ:Mk}(h:MkC S jm jf σ)(f0 f1 f2 f3 f4 f5 f6 f7 f8 f9 f10:IV)(hc:[f0,f1,f2,f3,f4,f5,f6,f7,f8,f9,f10].all fY=true):
  bY true 11 144 47 (S++[.cells 0 false (TM.cA [[TV.iv f0,.iv f1,.iv f2,.iv f3,.iv f4,.iv f5,.iv f6,.iv f7,.iv f8,.iv f9,.iv f10]])]) (.msl jf (σ.fs.length-1) 0 σ.fs.length σ.fs.length 11) (.msl S.length 0 0 1 1 11)=some (.msl jf σ.fs.length 0 (σ.fs.length+1) (σ.fs.length+1) 11,(S++[aP.cells 0 false (TM.cA [[TV.iv f0,.iv f1,.iv f2,.iv f3,.iv f4,.iv f5,.iv f6,.iv f7,.iv f8,.iv f9,.iv f10]])]).set jf (.cells σ.fs.length true (cG (σ.fs++[[f0,f1,f2,f3,f4,f5,f6,f7,f8,f9,f10]])))):=by
 have hfl:TM.cA [[TV.iv f0,.iv f1,.iv f2,.iv f3,.iv f4,.iv f5,.iv f6,.iv f7,.iv f8,.iv f9,.iv f10]]=[f0,f1,f2,f3,f4,f5,f6,f7,f8,f9,f10].map TV.iv:=rfl
 rw[hfl]
 have hr:(S++[.cells 0 false ([f0,f1,f2,f3,f4,f5,f6,f7,f8,f9,f10].map TV.iv)])[jf]? = some (.cells (σ.fs.length-1) true (cG σ.fs)):=iP h.row _
 have hn:0<σ.fs.length:=List.length_pos_iff.2 h.ne
 have hs:sub (cG σ.fs) 0 (σ.fs.length*11)=some (cG σ.fs):=aH9 (aA7 fun f hf=>(h.wid f hf).1)
 have hro:fZ (σ.fs.length+1) 144=true:=cI (by have:=h.ok;omega)
 have ha:=tX hc
 have hx:iR (S++[.cells 0 false ([f0,f1,f2,f3,f4,f5,f6,f7,f8,f9,f10].map TV.iv)]) (.msl S.length 0 0 1 1 11)=some ([f0,f1,f2,f3,f4,f5,f6,f7,f8,f9,f10].map TV.iv):=by
  simp[iR,TM.sub]
 have hl:lenOf (S++[.cells 0 false ([f0,f1,f2,f3,f4,f5,f6,f7,f8,f9,f10].map TV.iv)]) (.msl S.length 0 0 1 1 11)=some 1:=rfl
 have hfc:([f0,f1,f2,f3,f4,f5,f6,f7,f8,f9,f10].map TV.iv).length=11:=rfl
 rw[yR]
 generalize [f0,f1,f2,f3,f4,f5,f6,f7,f8,f9,f10].map TV.iv=fc at *
 generalize S++[aP.cells 0 false fc]=SS at *
 generalize cG σ.fs=cs at *
 generalize σ.fs.length=n at *
 simp[bY,hx,hl,hr,ha,hs,hro,hfc,show ¬n+1<=n by omega,show n-1+1=n by omega]
theorem aPf {S:aA}{jm jf:Nat}{σ:Mk}(h:MkC S jm jf σ)(L:aA){f:List IV}(hf:f.length=11)(hc:f.all fY=true)(hn:σ.fs.length<1000000):MkC (((S++L).set jf (.cells σ.fs.length true (cG (σ.fs++[f])))).set jm (mkC jf (σ.push f))) jm jf (σ.push f)∧aJ [jm,jf] S (((S++L).set jf (.cells σ.fs.length true (cG (σ.fs++[f])))).set jm (mkC jf (σ.push f))):=by
 have hl:(σ.push f).fs.length-1=σ.fs.length:=by simp[Mk.push]
 have l1:=aO h.own
 have l2:=aO h.row
 refine⟨⟨bQ (by simp;omega) _,?_,by simp[Mk.push],fun g hg=>?_,?_⟩,((aJ.app [jm,jf] S L).trans (aJ.set _ (by simp) _)).trans (aJ.set _ (by simp) _)⟩
 ·rw[aU h.jne,hl,bQ (by simp;omega)]
  rfl
 ·rcases List.mem_append.1 hg with hg|hg
  ·exact h.wid g hg
  ·rw[List.mem_singleton]at hg;subst hg;exact⟨hf,hc⟩
 ·have:=h.ok
  show 0<=σ.nv∧σ.nv<=_∧(σ.fs++[f]).length<=_
  rw[List.length_append,List.length_singleton];omega
theorem aF1 {S:aA}{jm jf:Nat}{σ:Mk}(h:MkC S jm jf σ)(hn:σ.fs.length<1000000)(tg:Tag)(ps:M_)(r c:Bool)(c0 c1 c2 c3 c4:Int)(t5:Tag)(l5:M_)(t6:Tag)(l6:M_):∃S',(lim K).call 30 [.ptr jm 78 0,.iv (.sl tg ps),.iv (.bool r),.iv (.bool c),.iv (.agg [.int .i64 c0,.int .i64 c1,.int .i64 c2,.int .i64 c3,.int .i64 c4,.sl t5 l5,.sl t6 l6])] S
  = .ret (j_ σ.fs.length,S')∧MkC S' jm jf (σ.push [.sl tg ps,.bool r,.bool c,.sl .nil [],.int .i64 c0,.int .i64 c1,.int .i64 c2,.int .i64 c3,.int .i64 c4,.sl t5 l5,.sl t6 l6])∧aJ [jm,jf] S S':=by
 obtain⟨hM,hk⟩:=aPf h [.cells 0 false (TM.cA [[TV.iv (.sl tg ps),.iv (.bool r),.iv (.bool c),k_,j_ c0,j_ c1,j_ c2,j_ c3,j_ c4,.iv (.sl t5 l5),.iv (.sl t6 l6)]])] (f:=[.sl tg ps,.bool r,.bool c,.sl .nil [],.int .i64 c0,.int .i64 c1,.int .i64 c2,.int .i64 c3,.int .i64 c4,.sl t5 l5,.sl t6 l6]) rfl rfl hn
 refine⟨_,?_,hM,hk⟩
 have ap:=aPe h (.sl tg ps) (.bool r) (.bool c) (.sl .nil []) (.int .i64 c0) (.int .i64 c1) (.int .i64 c2) (.int .i64 c3) (.int .i64 c4) (.sl t5 l5) (.sl t6 l6) rfl
 have h1:=h.own
 have hne:=h.jne
 have h2:=aO h1
 have h3:=h.ok
 have g0:∀L:aA,(S++L)[jm]? = S[jm]? := fun L=>List.getElem?_append_left h2
 have g1:∀(L:aA) b,((S++L).set jf b)[jm]? = S[jm]? := fun L b=>by rw[aU (Ne.symm hne) b];exact g0 L
 have g2:∀(L:aA) b c,(((S++L).set jf b).set jm c)[jm]? = some c:=fun L b c=>bQ (by simp;omega) c
 have hl:(σ.push [.sl tg ps,.bool r,.bool c,.sl .nil [],.int .i64 c0,.int .i64 c1,.int .i64 c2,.int .i64 c3,.int .i64 c4,.sl t5 l5,.sl t6 l6]).fs.length=σ.fs.length+1:=by simp[Mk.push]
 unfold mkC at *
 rw[hl,Nat.add_sub_cancel,show(σ.push [.sl tg ps,.bool r,.bool c,.sl .nil [],.int .i64 c0,.int .i64 c1,.int .i64 c2,.int .i64 c3,.int .i64 c4,.sl t5 l5,.sl t6 l6]).nv=σ.nv from rfl]
 clear hM hk
 generalize σ.fs.length=n at *
 have e1:((n+1:Nat):Int)-1=n:=by omega
 refine aB K _ (fn:=t30) rfl rfl ?_
 simp (disch:=omega) only[t30,go_sem,h1,ap,g0,g1,g2,aH,e1,Bool.or_self,Bool.false_eq_true]
theorem bCl {S:aA}{jm jf:Nat}{σ:Mk}(h:MkC S jm jf σ)(hn:σ.fs.length<1000000)(j:Nat)(ps:M_)(r c:Bool)(c0 c1 c2 c3 c4:Int)(t5:Tag)(l5:M_)(t6:Tag)(l6:M_):∃S',(lim K).call 30 [.ptr jm 78 0,.tsl j ps,.iv (.bool r),.iv (.bool c),.iv (.agg [.int .i64 c0,.int .i64 c1,.int .i64 c2,.int .i64 c3,.int .i64 c4,.sl t5 l5,.sl t6 l6])] S
  = .ret (j_ σ.fs.length,S')∧MkC S' jm jf (σ.push [.sl .no ps,.bool r,.bool c,.sl .nil [],.int .i64 c0,.int .i64 c1,.int .i64 c2,.int .i64 c3,.int .i64 c4,.sl t5 l5,.sl t6 l6])∧aJ [jm,jf] S S':=by
 obtain⟨hM,hk⟩:=aPf h [.cells 0 false (TM.cA [[TV.iv (.sl .no ps),.iv (.bool r),.iv (.bool c),k_,j_ c0,j_ c1,j_ c2,j_ c3,j_ c4,.iv (.sl t5 l5),.iv (.sl t6 l6)]])] (f:=[.sl .no ps,.bool r,.bool c,.sl .nil [],.int .i64 c0,.int .i64 c1,.int .i64 c2,.int .i64 c3,.int .i64 c4,.sl t5 l5,.sl t6 l6]) rfl rfl hn
 refine⟨_,?_,hM,hk⟩
 have ap:=aPe h (.sl .no ps) (.bool r) (.bool c) (.sl .nil []) (.int .i64 c0) (.int .i64 c1) (.int .i64 c2) (.int .i64 c3) (.int .i64 c4) (.sl t5 l5) (.sl t6 l6) rfl
 have h1:=h.own
 have hne:=h.jne
 have h2:=aO h1
 have h3:=h.ok
 have g0:∀L:aA,(S++L)[jm]? = S[jm]? := fun L=>List.getElem?_append_left h2
 have g1:∀(L:aA) b,((S++L).set jf b)[jm]? = S[jm]? := fun L b=>by rw[aU (Ne.symm hne) b];exact g0 L
 have g2:∀(L:aA) b c,(((S++L).set jf b).set jm c)[jm]? = some c:=fun L b c=>bQ (by simp;omega) c
 have hl:(σ.push [.sl .no ps,.bool r,.bool c,.sl .nil [],.int .i64 c0,.int .i64 c1,.int .i64 c2,.int .i64 c3,.int .i64 c4,.sl t5 l5,.sl t6 l6]).fs.length=σ.fs.length+1:=by simp[Mk.push]
 unfold mkC at *
 rw[hl,Nat.add_sub_cancel,show(σ.push [.sl .no ps,.bool r,.bool c,.sl .nil [],.int .i64 c0,.int .i64 c1,.int .i64 c2,.int .i64 c3,.int .i64 c4,.sl t5 l5,.sl t6 l6]).nv=σ.nv from rfl]
 clear hM hk
 generalize σ.fs.length=n at *
 have e1:((n+1:Nat):Int)-1=n:=by omega
 refine aB K _ (fn:=t30) rfl rfl ?_
 simp (disch:=omega) only[t30,go_sem,h1,ap,g0,g1,g2,aH,e1,Bool.or_self,Bool.false_eq_true]
theorem bCm {S:aA}{jm jf:Nat}{σ:Mk}(h:MkC S jm jf σ)(hn:σ.fs.length<1000000)(j:Nat){ps:M_}(hp:ps≠[])(r c:Bool)(c0 c1 c2 c3 c4:Int)(t5:Tag)(l5:M_)(t6:Tag)(l6:M_):∃S',(lim K).call 30 [.ptr jm 78 0,acc j ps,.iv (.bool r),.iv (.bool c),.iv (.agg [.int .i64 c0,.int .i64 c1,.int .i64 c2,.int .i64 c3,.int .i64 c4,.sl t5 l5,.sl t6 l6])] S
  = .ret (j_ σ.fs.length,S')∧MkC S' jm jf (σ.push [.sl .no ps,.bool r,.bool c,.sl .nil [],.int .i64 c0,.int .i64 c1,.int .i64 c2,.int .i64 c3,.int .i64 c4,.sl t5 l5,.sl t6 l6])∧aJ [jm,jf] S S':=by
 rw[dE _ hp]
 exact bCl h hn j ps r c c0 c1 c2 c3 c4 t5 l5 t6 l6
theorem mK (v:Int):TM.Pure K 32 [j_ v] (.iv (.agg [.int .i64 1,.int .i64 v])):=by
 refine eM t32 rfl rfl ?_
 simp (disch:=omega) only[t32,go_sem]
def oD (v f:Int):List IV:=[.bool false,.int .i64 2,.int .i64 v,.int .i64 0,.int .i64 0,.int .i64 f,.sl .nil [],.sl .nil [],.int .i64 0,.int .i64 0,.sl .nil [],.bool false,.sl .nil [],.int .i64 v]
theorem aA8 {S:aA}{jm jf:Nat}{σ:Mk}(h:MkC S jm jf σ)(f:Int):(lim K).call 29 [.ptr jm 78 0,j_ f] S=.ret (.iv (.agg (oD σ.nv f)),S.set jm (mkC jf σ.var)):=by
 have c28:=rL h
 unfold oD
 refine aB K _ (fn:=t29) rfl rfl ?_
 simp (disch:=omega) only[t29,go_sem,c28]
def rM:St->List IV
 | .tm t to=>.bool false::(t++[.int .i64 0,.int .i64 0,.sl .nil [],.bool false,.sl .nil [],.int .i64 to])
 | .rs e to=>.bool true::(zT++(cD e++[.int .i64 to]))
def cJ (l:List St):List (List IV):=l.map rM
theorem nR {l:List St}(h:∀s∈l,SO s):cO 14 (cJ l):=by
 intro y hy
 obtain⟨s,hs,rfl⟩:=List.mem_map.1 hy
 cases s with
 | tm t to =>
  obtain⟨c0,c1,c2,c3,c4,t5,t6,l5,l6,rfl⟩:=(show TmO t from h _ hs)
  exact⟨rfl,rfl⟩
 | rs e to =>
  rw[show rM (.rs e to)=.bool true::(zT++(cD e++[.int .i64 to])) from rfl,aL]
  exact⟨rfl,rfl⟩
theorem xO (a b:List St):cJ (a++b)=cJ a++cJ b:=List.map_append
theorem nK (a:List St):(cJ a).length=a.length:=List.length_map _
inductive RT:List IV->List IV->Prop
 | prim (v op n:Int) (tg:Tag) (ats:List (List IV)) (ho:eN op) (hn:eN n) {c d:List IV} (h:RT c d):RT [.int .i64 1,.int .i64 v,.int .i64 op,.int .i64 n,.int .i64 0,.sl tg ats,.sl .full [c]] [.int .i64 1,.int .i64 v,.int .i64 op,.int .i64 n,.int .i64 0,.sl tg ats,.sl .full [d]]
 | fn (v f:Int) {c d:List IV} (h:RT c d):RT (bX v (f+1) (.sl .full [c])) (bX v f (.sl .full [d]))
 | ite (a:List IV) {c d x y:List IV} (h:RT c d) (g:RT x y):RT (ifT a c x) (ifT a d y)
 | call (tg th:Tag) (ats:List (List IV)):RT (cU tg ats) (cU th ats)
 | appl (ats:List (List IV)):RT (eD ats) (eD ats)
inductive RSt:St->St->Prop
 | prim (v op n:Int) (ats:List (List IV)) (ho:eN op) (hn:eN n):RSt (.tm (kR v op n ats) v) (.tm (kR v op n ats) v)
 | fn (v f:Int):RSt (.tm (bX v (f+1) (.sl .nil [])) v) (.tm (bX v f (.sl .nil [])) v)
 | rs (e:Ex) (to:Int):RSt (.rs e to) (.rs e to)
inductive RSs:List St->List St->Prop
 | nil:RSs [] []
 | cons {s s':St} {l l':List St} (h:RSt s s') (g:RSs l l'):RSs (s::l) (s'::l')
theorem RSs.app {a a' b b':List St}(h:RSs a a')(g:RSs b b'):RSs (a++b) (a'++b'):=by
 induction h with
 | nil=>exact g
 | cons h _ ih=>exact .cons h ih
theorem RSs.len {a a':List St}(h:RSs a a'):a.length=a'.length:=by
 induction h with
 | nil=>rfl
 | cons _ _ ih=>rw[List.length_cons,List.length_cons,ih]
inductive RF:List IV->List IV->Prop
 | mk (tg th:Tag) (ps:List Int) (r c:Bool) {b d:List IV} (h:RT b d):RF (fnF tg ps r c b) (fnF th ps r c d)
inductive RL:List (List IV)->List (List IV)->Prop
 | top (v:Int) (z e:List IV):RL [e,z] [e]
 | snoc {a b:List (List IV)} {f g:List IV} (h:RL a b) (k:RF f g):RL (a++[f]) (b++[g])
structure RM (σ ρ:Mk):Prop where
 nv:σ.nv=ρ.nv
 fs:RL σ.fs ρ.fs
theorem RL.len {a b:M_}(h:RL a b):a.length=b.length+1:=by
 induction h with
 | top=>rfl
 | snoc _ _ ih=>rw[List.length_append,List.length_append,List.length_singleton,List.length_singleton,ih]
theorem RM.len {σ ρ:Mk}(h:RM σ ρ):σ.fs.length=ρ.fs.length+1:=h.fs.len
theorem RM.var {σ ρ:Mk}(h:RM σ ρ):RM σ.var ρ.var:=⟨by show σ.nv+1=ρ.nv+1;rw[h.nv],h.fs⟩
theorem RM.push {σ ρ:Mk}(h:RM σ ρ){f g:List IV}(k:RF f g):RM (σ.push f) (ρ.push g):=⟨h.nv,h.fs.snoc k⟩
theorem RT.o {c d:List IV}(h:RT c d):TmO d:=by
 cases h with
 | prim=>exact⟨_,_,_,_,_,_,_,_,_,rfl⟩
 | fn=>exact⟨_,_,_,_,_,_,_,_,_,rfl⟩
 | ite=>exact⟨_,_,_,_,_,_,_,_,_,rfl⟩
 | call=>exact⟨_,_,_,_,_,_,_,_,_,rfl⟩
 | appl=>exact⟨_,_,_,_,_,_,_,_,_,rfl⟩
theorem RSt.o {s s':St}(h:RSt s s')(g:SO s):SO s':=by
 cases h with
 | prim=>exact TmO.prim ..
 | fn=>exact TmO.fun ..
 | rs=>exact g
theorem RSs.o {l l':List St}(h:RSs l l')(g:∀s∈l,SO s):∀s∈l',SO s:=by
 induction h with
 | nil=>intro s hs;cases hs
 | cons h _ ih =>
  intro s hs
  rcases List.mem_cons.1 hs with rfl|hs
  ·exact h.o (g _ (by simp))
  ·exact ih (fun s hs=>g s (by simp[hs])) s hs
def isC (c:Int):Bool:=decide (0<=c)&&decide (c<=1114111)&&(decide (c<55296)||decide (57343<c))
theorem oH (c:Int):isC c=true↔0<=c∧c<=1114111∧(c<55296∨57343<c):=by
 simp[isC];omega
theorem aF2 (c:Int):(lim K).call 81 [j_ c] []=.ret (.iv (.bool (isC c)),[]):=by
 refine aB K [] (fn:=t81) rfl rfl ?_
 simp only[t81,go_sem]
 repeat' (first|(first|refine cX (fun h=>?_) (fun h=>?_)|refine cY (fun h=>?_) (fun h=>?_)|refine cZ (fun h=>?_) (fun h=>?_)|refine eC (fun h=>?_) (fun h=>?_))|simp (disch:=omega) only[go_sem])
 all_goals (congr 4;simp[isC, *])
theorem bCn (c:Int):(lim K).call 103 [.iv (.int .i32 c)] []=.ret (.iv (.bool (isC c)),[]):=by
 refine aB K [] (fn:=t103) rfl rfl ?_
 simp only[t103,go_sem]
 repeat' (first|(first|refine cX (fun h=>?_) (fun h=>?_)|refine cY (fun h=>?_) (fun h=>?_)|refine cZ (fun h=>?_) (fun h=>?_)|refine eC (fun h=>?_) (fun h=>?_))|simp (disch:=omega) only[go_sem])
 all_goals (congr 4;simp[isC, *];try omega)
theorem bHi (c:Int):(lim K).call 86 [j_ c] []=.ret (.iv (.bool (isC c)),[]):=by
 refine aB K [] (fn:=t86) rfl rfl ?_
 simp only[t86,go_sem]
 repeat' (first|(first|refine cX (fun h=>?_) (fun h=>?_)|refine cY (fun h=>?_) (fun h=>?_)|refine cZ (fun h=>?_) (fun h=>?_)|refine eC (fun h=>?_) (fun h=>?_))|simp (disch:=omega) only[go_sem,bCn,aW])
 all_goals (congr 4;simp[isC, *])
 all_goals (try omega)
def bytes (c:Int):List UInt8:=(Utf8.encode c).data.toList
def fN (c:Int):List UInt8 :=
 if c<128 then [UInt8.ofNat c.toNat]
 else if c<2048 then [UInt8.ofNat (192+c.toNat / 64),UInt8.ofNat (128+c.toNat % 64)]
 else if c<65536 then [UInt8.ofNat (224+c.toNat / 4096),UInt8.ofNat (128+c.toNat / 64 % 64),UInt8.ofNat (128+c.toNat % 64)]
 else [UInt8.ofNat (240+c.toNat / 262144),UInt8.ofNat (128+c.toNat / 4096 % 64),UInt8.ofNat (128+c.toNat / 64 % 64),UInt8.ofNat (128+c.toNat % 64)]
theorem aRb (n:Nat)(h:n<256):(((UInt8.ofNat n).toNat:Nat):Int)=(n:Int):=by
 simp[UInt8.toNat_ofNat];omega
theorem uD {m:Int}{n:Nat}(h:m=n)(hn:n<256):IntKind.u8.wrap m=(((UInt8.ofNat n).toNat:Nat):Int):=by
 subst h
 rw[aA5 (by omega),aRb n hn]
set_option maxHeartbeats 4000000 in
theorem aPg (c:Int)(h:isC c=true):(lim K).call 127 [j_ c] []=.ret (.iv (.sl .full (bF (fN c))),[]):=by
 have hc:=(oH c).1 h
 refine aB K [] (fn:=t127) rfl rfl ?_
 simp only[t127,go_sem]
 repeat' (first|(first|refine cX (fun h=>?_) (fun h=>?_)|refine cY (fun h=>?_) (fun h=>?_)|refine cZ (fun h=>?_) (fun h=>?_)|refine eC (fun h=>?_) (fun h=>?_))|simp (disch:=omega) only[go_sem,aH,Int.tdiv_eq_ediv_of_nonneg,Int.tmod_eq_emod_of_nonneg])
 ·rw[uD (n:=c.toNat) (by omega) (by omega)]
  simp only[fN, *,↓reduceIte];rfl
 ·rw[uD (n:=192+c.toNat / 64) (by omega) (by omega),uD (n:=128+c.toNat % 64) (by omega) (by omega)]
  simp only[fN, *,↓reduceIte];rfl
 ·rw[uD (n:=224+c.toNat / 4096) (by omega) (by omega),uD (n:=128+c.toNat / 64 % 64) (by omega) (by omega),uD (n:=128+c.toNat % 64) (by omega) (by omega)]
  simp only[fN, *,↓reduceIte];rfl
 ·rw[uD (n:=240+c.toNat / 262144) (by omega) (by omega),uD (n:=128+c.toNat / 4096 % 64) (by omega) (by omega),uD (n:=128+c.toNat / 64 % 64) (by omega) (by omega),uD (n:=128+c.toNat % 64) (by omega) (by omega)]
  simp only[fN, *,↓reduceIte];rfl
def tab (n:Nat):Nat :=
 if n<128 then 240 else if n<194 then 241 else if n<224 then 2 else if n=224 then 19 else if n<237 then 3 else if n=237 then 35 else if n<240 then 3 else if n=240 then 52 else if n<244 then 4 else if n=244 then 68 else 241
theorem bCo:(List.range 256).all (fun n=>match g0[n]? with|some (.int .u8 m)=>m==(tab n:Int)|_=>false)=true:=by kernel_rfl
theorem bCp {n:Nat}(h:n<256):g0[n]? = some (.int .u8 (tab n)):=by
 have:=List.all_eq_true.1 bCo n (List.mem_range.2 h)
 split at this
 ·rename_i m e;rw[e];simp at this;rw[this]
 ·cases this
theorem hK0:K.glob 0=some g0:=rfl
theorem hK1:K.glob 1=some g1:=rfl
theorem bHj:g0.length=256:=by kernel_rfl
def fol (b:UInt8):Bool:=decide (128<=b.toNat)&&decide (b.toNat<=191)
def D:List UInt8->Nat×Nat
 | []=>(65533,0)
 | a::r =>
  if a.toNat<128 then(a.toNat,1)
  else if a.toNat<194 then(65533,1)
  else if a.toNat<224 then match r with
   | b::_=>if fol b then(a.toNat % 32*64+b.toNat % 64,2)else(65533,1)
   | _=>(65533,1)
  else if a.toNat<240 then match r with
   | b::c::_=>if(decide ((if a.toNat=224 then 160 else 128)<=b.toNat)&&decide (b.toNat<=(if a.toNat=237 then 159 else 191)))&&fol c then(a.toNat % 16*4096+b.toNat % 64*64+c.toNat % 64,3)else(65533,1)
   | _=>(65533,1)
  else if a.toNat<245 then match r with
   | b::c::d::_=>if(decide ((if a.toNat=240 then 144 else 128)<=b.toNat)&&decide (b.toNat<=(if a.toNat=244 then 143 else 191)))&&fol c&&fol d then(a.toNat % 8*262144+b.toNat % 64*4096+c.toNat % 64*64+d.toNat % 64,4)else(65533,1)
   | _=>(65533,1)
  else(65533,1)
theorem bl (b:UInt8):b.toNat<256:=b.toNat_lt
theorem aN (a:UInt8)(r:List UInt8):bF (a::r)=[.int .u8 a.toNat]::bF r:=rfl
theorem aIi (t:Tag):(lim K).call 130 [.iv (.sl t (bF []))] []=.ret (.tup [.iv (.int .i32 65533),j_ 0],[]):=by
 refine aB K [] (fn:=t130) rfl rfl ?_
 simp (disch:=omega) only[t130,go_sem]
theorem fI {a:UInt8}:ixA 256 1 (.iv (.cp g0)) (.iv (.int .u8 a.toNat))=some (.iv (.cp (g0.drop a.toNat))):=by
 have:=bl a
 rw[aQy]
 have h:(0:Int)<=(a.toNat:Int)∧(a.toNat:Int)<((256:Nat):Int):=by omega
 simp only[h,and_self,↓reduceIte,Int.toNat_natCast,Nat.mul_one]
 exact aFw (by rw[bHj];omega)
theorem ld0 {a:UInt8}(env:Env)(S:aA):bL env S (.iv (.cp (g0.drop a.toNat))) 1=some [.iv (.int .u8 (tab a.toNat))]:=bBr (bCp (bl a))
theorem w2:IntKind.u8.wrap (rE 8 2 7)=2:=by decide
theorem w240:IntKind.i32.wrap 515396075520=0:=by decide
theorem bKp:IntKind.i32.wrap 240=240:=by decide
theorem w241:IntKind.i32.wrap 517543559168 = -2147483648:=by decide
theorem bKq:IntKind.i32.wrap 241=241:=by decide
theorem m0:IntKind.i32.wrap (rE 32 65533 0)=0:=by decide
theorem bCq {a:Int}(h:0<=a∧a<=2147483647):IntKind.i32.wrap (bOr 32 a 0)=a:=by
 have e:BitVec.ofInt 32 a ||| BitVec.ofInt 32 0=BitVec.ofInt 32 a:=by simp
 unfold bOr
 rw[e,jS ⟨h.1,by omega⟩,aW (by omega)]
 omega
theorem m1:IntKind.i32.wrap (rE 32 65533 (-1))=65533:=by decide
theorem o1:IntKind.i32.wrap (bOr 32 0 65533)=65533:=by decide
set_option maxHeartbeats 4000000 in
theorem aRc (t:Tag)(a:UInt8)(r:List UInt8)(h1:a.toNat<128):(lim K).call 130 [.iv (.sl t (bF (a::r)))] []=.ret (.tup [.iv (.int .i32 a.toNat),j_ 1],[]):=by
 have ha:=bl a
 refine aB K [] (fn:=t130) rfl rfl ?_
 have ht:tab a.toNat=240:=by simp[tab];omega
 simp (disch:=omega) only[t130,go_sem,aN,Int.natCast_add,Int.cast_ofNat_Int,indexAddrS,hK0,hK1,fI,ld0,ht,w240,bKp,aH4,m0,aW,bCq]
set_option maxHeartbeats 4000000 in
theorem bCr (t:Tag)(a:UInt8)(r:List UInt8)(h1:tab a.toNat=241):(lim K).call 130 [.iv (.sl t (bF (a::r)))] []=.ret (.tup [.iv (.int .i32 65533),j_ 1],[]):=by
 have ha:=bl a
 refine aB K [] (fn:=t130) rfl rfl ?_
 simp (disch:=omega) only[t130,go_sem,aN,Int.natCast_add,Int.cast_ofNat_Int,indexAddrS,hK0,hK1,fI,ld0,h1,w241,bKq,aH5,m1,o1,aW]
theorem tF (a:UInt8)(r:List UInt8)(h:a.toNat<128):D (a::r)=(a.toNat,1):=by simp[D,h]
theorem aPh (a:UInt8)(r:List UInt8)(h:128<=a.toNat∧a.toNat<194∨245<=a.toNat):D (a::r)=(65533,1):=by
 have h1:¬a.toNat<128:=by omega
 by_cases h2:a.toNat<194
 ·simp[D,h1,h2]
 ·have h3:¬a.toNat<224:=by omega
  have h4:¬a.toNat<240:=by omega
  have h5:¬a.toNat<245:=by omega
  simp[D,h1,h2,h3,h4,h5]
theorem aIj (a:UInt8)(r:List UInt8)(h:194<=a.toNat∧a.toNat<224):D (a::r)=match r with
      | b::_=>if fol b then(a.toNat % 32*64+b.toNat % 64,2)else(65533,1)
      | _=>(65533,1):=by
  have h1:¬a.toNat<128:=by omega
  have h2:¬a.toNat<194:=by omega
  simp only[D,h1,h2,h.2,↓reduceIte]
theorem jX (a:UInt8)(r:List UInt8)(h:224<=a.toNat∧a.toNat<240):D (a::r)=match r with
      | b::c::_=>if(decide ((if a.toNat=224 then 160 else 128)<=b.toNat)&&decide (b.toNat<=(if a.toNat=237 then 159 else 191)))&&fol c then(a.toNat % 16*4096+b.toNat % 64*64+c.toNat % 64,3)else(65533,1)
      | _=>(65533,1):=by
  have h1:¬a.toNat<128:=by omega
  have h2:¬a.toNat<194:=by omega
  have h3:¬a.toNat<224:=by omega
  simp only[D,h1,h2,h3,h.2,↓reduceIte]
theorem jJ (a:UInt8)(r:List UInt8)(h:240<=a.toNat∧a.toNat<245):D (a::r)=match r with
      | b::c::d::_=>if(decide ((if a.toNat=240 then 144 else 128)<=b.toNat)&&decide (b.toNat<=(if a.toNat=244 then 143 else 191)))&&fol c&&fol d then(a.toNat % 8*262144+b.toNat % 64*4096+c.toNat % 64*64+d.toNat % 64,4)else(65533,1)
      | _=>(65533,1):=by
  have h1:¬a.toNat<128:=by omega
  have h2:¬a.toNat<194:=by omega
  have h3:¬a.toNat<224:=by omega
  have h4:¬a.toNat<240:=by omega
  simp only[D,h1,h2,h3,h4,h.2,↓reduceIte]
theorem aPi {b:UInt8}(h:128<=b.toNat∧b.toNat<=191):fol b=true:=by simp[fol];omega
theorem bKr {b:UInt8}(h:¬(128<=b.toNat∧b.toNat<=191)):fol b=false:=by simp[fol];omega
theorem aV7 (a b:UInt8)(r:List UInt8)(h:194<=a.toNat∧a.toNat<224)(hb:128<=b.toNat∧b.toNat<=191):D (a::b::r)=(a.toNat % 32*64+b.toNat % 64,2):=by
 rw[aIj a _ h];simp[aPi hb]
theorem bGp (a b:UInt8)(r:List UInt8)(h:194<=a.toNat∧a.toNat<224)(hb:¬(128<=b.toNat∧b.toNat<=191)):D (a::b::r)=(65533,1):=by
 rw[aIj a _ h];simp[bKr hb]
theorem aIk (a b c:UInt8)(r:List UInt8)(h:224<=a.toNat∧a.toNat<240)(hb:(a.toNat=224->160<=b.toNat)∧128<=b.toNat∧(a.toNat=237->b.toNat<=159)∧b.toNat<=191)(hc:128<=c.toNat∧c.toNat<=191):D (a::b::c::r)=(a.toNat % 16*4096+b.toNat % 64*64+c.toNat % 64,3):=by
 rw[jX a _ h]
 have e1:(if a.toNat=224 then 160 else 128)<=b.toNat:=by split<;>omega
 have e2:b.toNat<=(if a.toNat=237 then 159 else 191):=by split<;>omega
 simp only[aPi hc,e1,e2,decide_true,Bool.and_self,↓reduceIte]
theorem aPj (a b c:UInt8)(r:List UInt8)(h:224<=a.toNat∧a.toNat<240)(hb:¬((a.toNat=224->160<=b.toNat)∧128<=b.toNat∧(a.toNat=237->b.toNat<=159)∧b.toNat<=191)∨¬(128<=c.toNat∧c.toNat<=191)):D (a::b::c::r)=(65533,1):=by
 rw[jX a _ h]
 simp only[fol,Bool.and_eq_true,decide_eq_true_eq]
 rw[if_neg]
 intro⟨⟨h1,h2⟩,h3⟩
 split at h1<;>split at h2<;>omega
theorem aIl (a b c d:UInt8)(r:List UInt8)(h:240<=a.toNat∧a.toNat<245)(hb:(a.toNat=240->144<=b.toNat)∧128<=b.toNat∧(a.toNat=244->b.toNat<=143)∧b.toNat<=191)(hc:128<=c.toNat∧c.toNat<=191)(hd:128<=d.toNat∧d.toNat<=191):D (a::b::c::d::r)=(a.toNat % 8*262144+b.toNat % 64*4096+c.toNat % 64*64+d.toNat % 64,4):=by
 rw[jJ a _ h]
 have e1:(if a.toNat=240 then 144 else 128)<=b.toNat:=by split<;>omega
 have e2:b.toNat<=(if a.toNat=244 then 143 else 191):=by split<;>omega
 simp only[aPi hc,aPi hd,e1,e2,decide_true,Bool.and_self,↓reduceIte]
theorem aPk (a b c d:UInt8)(r:List UInt8)(h:240<=a.toNat∧a.toNat<245)(hb:¬((a.toNat=240->144<=b.toNat)∧128<=b.toNat∧(a.toNat=244->b.toNat<=143)∧b.toNat<=191)∨¬(128<=c.toNat∧c.toNat<=191)∨¬(128<=d.toNat∧d.toNat<=191)):D (a::b::c::d::r)=(65533,1):=by
 rw[jJ a _ h]
 simp only[fol,Bool.and_eq_true,decide_eq_true_eq]
 rw[if_neg]
 intro⟨⟨⟨h1,h2⟩,h3⟩,h4⟩
 split at h1<;>split at h2<;>omega
set_option maxHeartbeats 8000000 in
theorem bCs (t:Tag)(a:UInt8)(r:List UInt8)(h1:tab a.toNat=2)(h2:194<=a.toNat∧a.toNat<224):(lim K).call 130 [.iv (.sl t (bF (a::r)))] []=.ret (.tup [.iv (.int .i32 (D (a::r)).1),.iv (.int .i64 (D (a::r)).2)],[]):=by
 have ha:=bl a
 refine aB K [] (fn:=t130) rfl rfl ?_
 have e0:dP (.iv (.cp g1)) 0=some (.iv (.cp g1)):=rfl
 have e1:∀env S,bL env S (.iv (.cp g1)) 2=some [.iv (.int .u8 128),.iv (.int .u8 191)]:=fun _ _=>rfl
 have sz:IntKind.u8.wrap (rE 8 2 7)=2:=by decide
 cases r with
 | nil =>
  simp (disch:=omega) only[t130,go_sem,aN,Int.natCast_add,Int.cast_ofNat_Int,indexAddrS,hK0,hK1,fI,ld0,h1,aW,aH,e0,e1,sz,aX,aY,bJ,aZ,bK,bA,bB]
  repeat' (first|(first|refine cX (fun h=>?_) (fun h=>?_)|refine cY (fun h=>?_) (fun h=>?_)|refine cZ (fun h=>?_) (fun h=>?_)|refine eC (fun h=>?_) (fun h=>?_))|simp (disch:=omega) only[go_sem,aN,Int.natCast_add,Int.cast_ofNat_Int,indexAddrS,hK0,hK1,fI,ld0,h1,aW,aH,e0,e1,sz,aX,aY,bJ,aZ,bK,bA,bB])
  all_goals (rw[aIj a _ (by omega)];rfl)
 | cons b r =>
  have hb:=bl b;simp (disch:=omega) only[t130,go_sem,aN,Int.natCast_add,Int.cast_ofNat_Int,indexAddrS,hK0,hK1,fI,ld0,h1,aW,aH,e0,e1,sz,aX,aY,bJ,aZ,bK,bA,bB]
  repeat' (first|(first|refine cX (fun h=>?_) (fun h=>?_)|refine cY (fun h=>?_) (fun h=>?_)|refine cZ (fun h=>?_) (fun h=>?_)|refine eC (fun h=>?_) (fun h=>?_))|simp (disch:=omega) only[go_sem,aN,Int.natCast_add,Int.cast_ofNat_Int,indexAddrS,hK0,hK1,fI,ld0,h1,aW,aH,e0,e1,sz,aX,aY,bJ,aZ,bK,bA,bB])
  all_goals (first|(rw[bGp a b _ (by omega) (by omega)];rfl)|(rw[aV7 a b _ (by omega) (by omega)];simp))
set_option maxHeartbeats 8000000 in
theorem bHk (t:Tag)(a:UInt8)(r:List UInt8)(h1:tab a.toNat=19)(h2:a.toNat=224):(lim K).call 130 [.iv (.sl t (bF (a::r)))] []=.ret (.tup [.iv (.int .i32 (D (a::r)).1),.iv (.int .i64 (D (a::r)).2)],[]):=by
 have ha:=bl a
 refine aB K [] (fn:=t130) rfl rfl ?_
 have e0:dP (.iv (.cp g1)) 2=some (.iv (.cp (g1.drop 2))):=rfl
 have e1:∀env S,bL env S (.iv (.cp (g1.drop 2))) 2=some [.iv (.int .u8 160),.iv (.int .u8 191)]:=fun _ _=>rfl
 have sz:IntKind.u8.wrap (rE 8 19 7)=3:=by decide
 cases r with
 | nil =>
  simp (disch:=omega) only[t130,go_sem,aN,Int.natCast_add,Int.cast_ofNat_Int,indexAddrS,hK0,hK1,fI,ld0,h1,aW,aH,e0,e1,sz,aX,aY,bJ,aZ,bK,bA,bB]
  repeat' (first|(first|refine cX (fun h=>?_) (fun h=>?_)|refine cY (fun h=>?_) (fun h=>?_)|refine cZ (fun h=>?_) (fun h=>?_)|refine eC (fun h=>?_) (fun h=>?_))|simp (disch:=omega) only[go_sem,aN,Int.natCast_add,Int.cast_ofNat_Int,indexAddrS,hK0,hK1,fI,ld0,h1,aW,aH,e0,e1,sz,aX,aY,bJ,aZ,bK,bA,bB])
  all_goals (rw[jX a _ (by omega)];rfl)
 | cons b r =>
  cases r with
  | nil =>
   have hb:=bl b;simp (disch:=omega) only[t130,go_sem,aN,Int.natCast_add,Int.cast_ofNat_Int,indexAddrS,hK0,hK1,fI,ld0,h1,aW,aH,e0,e1,sz,aX,aY,bJ,aZ,bK,bA,bB]
   repeat' (first|(first|refine cX (fun h=>?_) (fun h=>?_)|refine cY (fun h=>?_) (fun h=>?_)|refine cZ (fun h=>?_) (fun h=>?_)|refine eC (fun h=>?_) (fun h=>?_))|simp (disch:=omega) only[go_sem,aN,Int.natCast_add,Int.cast_ofNat_Int,indexAddrS,hK0,hK1,fI,ld0,h1,aW,aH,e0,e1,sz,aX,aY,bJ,aZ,bK,bA,bB])
   all_goals (rw[jX a _ (by omega)];rfl)
  | cons c r =>
   have hb:=bl b;have hc:=bl c;simp (disch:=omega) only[t130,go_sem,aN,Int.natCast_add,Int.cast_ofNat_Int,indexAddrS,hK0,hK1,fI,ld0,h1,aW,aH,e0,e1,sz,aX,aY,bJ,aZ,bK,bA,bB]
   repeat' (first|(first|refine cX (fun h=>?_) (fun h=>?_)|refine cY (fun h=>?_) (fun h=>?_)|refine cZ (fun h=>?_) (fun h=>?_)|refine eC (fun h=>?_) (fun h=>?_))|simp (disch:=omega) only[go_sem,aN,Int.natCast_add,Int.cast_ofNat_Int,indexAddrS,hK0,hK1,fI,ld0,h1,aW,aH,e0,e1,sz,aX,aY,bJ,aZ,bK,bA,bB])
   all_goals (first|(rw[aPj a b c _ (by omega) (by omega)];rfl)|(rw[aIk a b c _ (by omega) (by omega) (by omega)];simp))
set_option maxHeartbeats 8000000 in
theorem bHl (t:Tag)(a:UInt8)(r:List UInt8)(h1:tab a.toNat=3)(h2:224<a.toNat∧a.toNat<237∨237<a.toNat∧a.toNat<240):(lim K).call 130 [.iv (.sl t (bF (a::r)))] []=.ret (.tup [.iv (.int .i32 (D (a::r)).1),.iv (.int .i64 (D (a::r)).2)],[]):=by
 have ha:=bl a
 refine aB K [] (fn:=t130) rfl rfl ?_
 have e0:dP (.iv (.cp g1)) 0=some (.iv (.cp g1)):=rfl
 have e1:∀env S,bL env S (.iv (.cp g1)) 2=some [.iv (.int .u8 128),.iv (.int .u8 191)]:=fun _ _=>rfl
 have sz:IntKind.u8.wrap (rE 8 3 7)=3:=by decide
 cases r with
 | nil =>
  simp (disch:=omega) only[t130,go_sem,aN,Int.natCast_add,Int.cast_ofNat_Int,indexAddrS,hK0,hK1,fI,ld0,h1,aW,aH,e0,e1,sz,aX,aY,bJ,aZ,bK,bA,bB]
  repeat' (first|(first|refine cX (fun h=>?_) (fun h=>?_)|refine cY (fun h=>?_) (fun h=>?_)|refine cZ (fun h=>?_) (fun h=>?_)|refine eC (fun h=>?_) (fun h=>?_))|simp (disch:=omega) only[go_sem,aN,Int.natCast_add,Int.cast_ofNat_Int,indexAddrS,hK0,hK1,fI,ld0,h1,aW,aH,e0,e1,sz,aX,aY,bJ,aZ,bK,bA,bB])
  all_goals (rw[jX a _ (by omega)];rfl)
 | cons b r =>
  cases r with
  | nil =>
   have hb:=bl b;simp (disch:=omega) only[t130,go_sem,aN,Int.natCast_add,Int.cast_ofNat_Int,indexAddrS,hK0,hK1,fI,ld0,h1,aW,aH,e0,e1,sz,aX,aY,bJ,aZ,bK,bA,bB]
   repeat' (first|(first|refine cX (fun h=>?_) (fun h=>?_)|refine cY (fun h=>?_) (fun h=>?_)|refine cZ (fun h=>?_) (fun h=>?_)|refine eC (fun h=>?_) (fun h=>?_))|simp (disch:=omega) only[go_sem,aN,Int.natCast_add,Int.cast_ofNat_Int,indexAddrS,hK0,hK1,fI,ld0,h1,aW,aH,e0,e1,sz,aX,aY,bJ,aZ,bK,bA,bB])
   all_goals (rw[jX a _ (by omega)];rfl)
  | cons c r =>
   have hb:=bl b;have hc:=bl c;simp (disch:=omega) only[t130,go_sem,aN,Int.natCast_add,Int.cast_ofNat_Int,indexAddrS,hK0,hK1,fI,ld0,h1,aW,aH,e0,e1,sz,aX,aY,bJ,aZ,bK,bA,bB]
   repeat' (first|(first|refine cX (fun h=>?_) (fun h=>?_)|refine cY (fun h=>?_) (fun h=>?_)|refine cZ (fun h=>?_) (fun h=>?_)|refine eC (fun h=>?_) (fun h=>?_))|simp (disch:=omega) only[go_sem,aN,Int.natCast_add,Int.cast_ofNat_Int,indexAddrS,hK0,hK1,fI,ld0,h1,aW,aH,e0,e1,sz,aX,aY,bJ,aZ,bK,bA,bB])
   all_goals (first|(rw[aPj a b c _ (by omega) (by omega)];rfl)|(rw[aIk a b c _ (by omega) (by omega) (by omega)];simp))
set_option maxHeartbeats 8000000 in
theorem bHm (t:Tag)(a:UInt8)(r:List UInt8)(h1:tab a.toNat=35)(h2:a.toNat=237):(lim K).call 130 [.iv (.sl t (bF (a::r)))] []=.ret (.tup [.iv (.int .i32 (D (a::r)).1),.iv (.int .i64 (D (a::r)).2)],[]):=by
 have ha:=bl a
 refine aB K [] (fn:=t130) rfl rfl ?_
 have e0:dP (.iv (.cp g1)) 4=some (.iv (.cp (g1.drop 4))):=rfl
 have e1:∀env S,bL env S (.iv (.cp (g1.drop 4))) 2=some [.iv (.int .u8 128),.iv (.int .u8 159)]:=fun _ _=>rfl
 have sz:IntKind.u8.wrap (rE 8 35 7)=3:=by decide
 cases r with
 | nil =>
  simp (disch:=omega) only[t130,go_sem,aN,Int.natCast_add,Int.cast_ofNat_Int,indexAddrS,hK0,hK1,fI,ld0,h1,aW,aH,e0,e1,sz,aX,aY,bJ,aZ,bK,bA,bB]
  repeat' (first|(first|refine cX (fun h=>?_) (fun h=>?_)|refine cY (fun h=>?_) (fun h=>?_)|refine cZ (fun h=>?_) (fun h=>?_)|refine eC (fun h=>?_) (fun h=>?_))|simp (disch:=omega) only[go_sem,aN,Int.natCast_add,Int.cast_ofNat_Int,indexAddrS,hK0,hK1,fI,ld0,h1,aW,aH,e0,e1,sz,aX,aY,bJ,aZ,bK,bA,bB])
  all_goals (rw[jX a _ (by omega)];rfl)
 | cons b r =>
  cases r with
  | nil =>
   have hb:=bl b;simp (disch:=omega) only[t130,go_sem,aN,Int.natCast_add,Int.cast_ofNat_Int,indexAddrS,hK0,hK1,fI,ld0,h1,aW,aH,e0,e1,sz,aX,aY,bJ,aZ,bK,bA,bB]
   repeat' (first|(first|refine cX (fun h=>?_) (fun h=>?_)|refine cY (fun h=>?_) (fun h=>?_)|refine cZ (fun h=>?_) (fun h=>?_)|refine eC (fun h=>?_) (fun h=>?_))|simp (disch:=omega) only[go_sem,aN,Int.natCast_add,Int.cast_ofNat_Int,indexAddrS,hK0,hK1,fI,ld0,h1,aW,aH,e0,e1,sz,aX,aY,bJ,aZ,bK,bA,bB])
   all_goals (rw[jX a _ (by omega)];rfl)
  | cons c r =>
   have hb:=bl b;have hc:=bl c;simp (disch:=omega) only[t130,go_sem,aN,Int.natCast_add,Int.cast_ofNat_Int,indexAddrS,hK0,hK1,fI,ld0,h1,aW,aH,e0,e1,sz,aX,aY,bJ,aZ,bK,bA,bB]
   repeat' (first|(first|refine cX (fun h=>?_) (fun h=>?_)|refine cY (fun h=>?_) (fun h=>?_)|refine cZ (fun h=>?_) (fun h=>?_)|refine eC (fun h=>?_) (fun h=>?_))|simp (disch:=omega) only[go_sem,aN,Int.natCast_add,Int.cast_ofNat_Int,indexAddrS,hK0,hK1,fI,ld0,h1,aW,aH,e0,e1,sz,aX,aY,bJ,aZ,bK,bA,bB])
   all_goals (first|(rw[aPj a b c _ (by omega) (by omega)];rfl)|(rw[aIk a b c _ (by omega) (by omega) (by omega)];simp))
set_option maxHeartbeats 8000000 in
theorem bHn (t:Tag)(a:UInt8)(r:List UInt8)(h1:tab a.toNat=52)(h2:a.toNat=240):(lim K).call 130 [.iv (.sl t (bF (a::r)))] []=.ret (.tup [.iv (.int .i32 (D (a::r)).1),.iv (.int .i64 (D (a::r)).2)],[]):=by
 have ha:=bl a
 refine aB K [] (fn:=t130) rfl rfl ?_
 have e0:dP (.iv (.cp g1)) 6=some (.iv (.cp (g1.drop 6))):=rfl
 have e1:∀env S,bL env S (.iv (.cp (g1.drop 6))) 2=some [.iv (.int .u8 144),.iv (.int .u8 191)]:=fun _ _=>rfl
 have sz:IntKind.u8.wrap (rE 8 52 7)=4:=by decide
 cases r with
 | nil =>
  simp (disch:=omega) only[t130,go_sem,aN,Int.natCast_add,Int.cast_ofNat_Int,indexAddrS,hK0,hK1,fI,ld0,h1,aW,aH,e0,e1,sz,aX,aY,bJ,aZ,bK,bA,bB]
  repeat' (first|(first|refine cX (fun h=>?_) (fun h=>?_)|refine cY (fun h=>?_) (fun h=>?_)|refine cZ (fun h=>?_) (fun h=>?_)|refine eC (fun h=>?_) (fun h=>?_))|simp (disch:=omega) only[go_sem,aN,Int.natCast_add,Int.cast_ofNat_Int,indexAddrS,hK0,hK1,fI,ld0,h1,aW,aH,e0,e1,sz,aX,aY,bJ,aZ,bK,bA,bB])
  all_goals (rw[jJ a _ (by omega)];rfl)
 | cons b r =>
  cases r with
  | nil =>
   have hb:=bl b;simp (disch:=omega) only[t130,go_sem,aN,Int.natCast_add,Int.cast_ofNat_Int,indexAddrS,hK0,hK1,fI,ld0,h1,aW,aH,e0,e1,sz,aX,aY,bJ,aZ,bK,bA,bB]
   repeat' (first|(first|refine cX (fun h=>?_) (fun h=>?_)|refine cY (fun h=>?_) (fun h=>?_)|refine cZ (fun h=>?_) (fun h=>?_)|refine eC (fun h=>?_) (fun h=>?_))|simp (disch:=omega) only[go_sem,aN,Int.natCast_add,Int.cast_ofNat_Int,indexAddrS,hK0,hK1,fI,ld0,h1,aW,aH,e0,e1,sz,aX,aY,bJ,aZ,bK,bA,bB])
   all_goals (rw[jJ a _ (by omega)];rfl)
  | cons c r =>
   cases r with
   | nil =>
    have hb:=bl b;have hc:=bl c;simp (disch:=omega) only[t130,go_sem,aN,Int.natCast_add,Int.cast_ofNat_Int,indexAddrS,hK0,hK1,fI,ld0,h1,aW,aH,e0,e1,sz,aX,aY,bJ,aZ,bK,bA,bB]
    repeat' (first|(first|refine cX (fun h=>?_) (fun h=>?_)|refine cY (fun h=>?_) (fun h=>?_)|refine cZ (fun h=>?_) (fun h=>?_)|refine eC (fun h=>?_) (fun h=>?_))|simp (disch:=omega) only[go_sem,aN,Int.natCast_add,Int.cast_ofNat_Int,indexAddrS,hK0,hK1,fI,ld0,h1,aW,aH,e0,e1,sz,aX,aY,bJ,aZ,bK,bA,bB])
    all_goals (rw[jJ a _ (by omega)];rfl)
   | cons d r =>
    have hb:=bl b;have hc:=bl c;have hd:=bl d;simp (disch:=omega) only[t130,go_sem,aN,Int.natCast_add,Int.cast_ofNat_Int,indexAddrS,hK0,hK1,fI,ld0,h1,aW,aH,e0,e1,sz,aX,aY,bJ,aZ,bK,bA,bB]
    repeat' (first|(first|refine cX (fun h=>?_) (fun h=>?_)|refine cY (fun h=>?_) (fun h=>?_)|refine cZ (fun h=>?_) (fun h=>?_)|refine eC (fun h=>?_) (fun h=>?_))|simp (disch:=omega) only[go_sem,aN,Int.natCast_add,Int.cast_ofNat_Int,indexAddrS,hK0,hK1,fI,ld0,h1,aW,aH,e0,e1,sz,aX,aY,bJ,aZ,bK,bA,bB])
    all_goals (first|(rw[aPk a b c d _ (by omega) (by omega)];rfl)|(rw[aIl a b c d _ (by omega) (by omega) (by omega) (by omega)];simp))
set_option maxHeartbeats 8000000 in
theorem bHo (t:Tag)(a:UInt8)(r:List UInt8)(h1:tab a.toNat=4)(h2:240<a.toNat∧a.toNat<244):(lim K).call 130 [.iv (.sl t (bF (a::r)))] []=.ret (.tup [.iv (.int .i32 (D (a::r)).1),.iv (.int .i64 (D (a::r)).2)],[]):=by
 have ha:=bl a
 refine aB K [] (fn:=t130) rfl rfl ?_
 have e0:dP (.iv (.cp g1)) 0=some (.iv (.cp g1)):=rfl
 have e1:∀env S,bL env S (.iv (.cp g1)) 2=some [.iv (.int .u8 128),.iv (.int .u8 191)]:=fun _ _=>rfl
 have sz:IntKind.u8.wrap (rE 8 4 7)=4:=by decide
 cases r with
 | nil =>
  simp (disch:=omega) only[t130,go_sem,aN,Int.natCast_add,Int.cast_ofNat_Int,indexAddrS,hK0,hK1,fI,ld0,h1,aW,aH,e0,e1,sz,aX,aY,bJ,aZ,bK,bA,bB]
  repeat' (first|(first|refine cX (fun h=>?_) (fun h=>?_)|refine cY (fun h=>?_) (fun h=>?_)|refine cZ (fun h=>?_) (fun h=>?_)|refine eC (fun h=>?_) (fun h=>?_))|simp (disch:=omega) only[go_sem,aN,Int.natCast_add,Int.cast_ofNat_Int,indexAddrS,hK0,hK1,fI,ld0,h1,aW,aH,e0,e1,sz,aX,aY,bJ,aZ,bK,bA,bB])
  all_goals (rw[jJ a _ (by omega)];rfl)
 | cons b r =>
  cases r with
  | nil =>
   have hb:=bl b;simp (disch:=omega) only[t130,go_sem,aN,Int.natCast_add,Int.cast_ofNat_Int,indexAddrS,hK0,hK1,fI,ld0,h1,aW,aH,e0,e1,sz,aX,aY,bJ,aZ,bK,bA,bB]
   repeat' (first|(first|refine cX (fun h=>?_) (fun h=>?_)|refine cY (fun h=>?_) (fun h=>?_)|refine cZ (fun h=>?_) (fun h=>?_)|refine eC (fun h=>?_) (fun h=>?_))|simp (disch:=omega) only[go_sem,aN,Int.natCast_add,Int.cast_ofNat_Int,indexAddrS,hK0,hK1,fI,ld0,h1,aW,aH,e0,e1,sz,aX,aY,bJ,aZ,bK,bA,bB])
   all_goals (rw[jJ a _ (by omega)];rfl)
  | cons c r =>
   cases r with
   | nil =>
    have hb:=bl b;have hc:=bl c;simp (disch:=omega) only[t130,go_sem,aN,Int.natCast_add,Int.cast_ofNat_Int,indexAddrS,hK0,hK1,fI,ld0,h1,aW,aH,e0,e1,sz,aX,aY,bJ,aZ,bK,bA,bB]
    repeat' (first|(first|refine cX (fun h=>?_) (fun h=>?_)|refine cY (fun h=>?_) (fun h=>?_)|refine cZ (fun h=>?_) (fun h=>?_)|refine eC (fun h=>?_) (fun h=>?_))|simp (disch:=omega) only[go_sem,aN,Int.natCast_add,Int.cast_ofNat_Int,indexAddrS,hK0,hK1,fI,ld0,h1,aW,aH,e0,e1,sz,aX,aY,bJ,aZ,bK,bA,bB])
    all_goals (rw[jJ a _ (by omega)];rfl)
   | cons d r =>
    have hb:=bl b;have hc:=bl c;have hd:=bl d;simp (disch:=omega) only[t130,go_sem,aN,Int.natCast_add,Int.cast_ofNat_Int,indexAddrS,hK0,hK1,fI,ld0,h1,aW,aH,e0,e1,sz,aX,aY,bJ,aZ,bK,bA,bB]
    repeat' (first|(first|refine cX (fun h=>?_) (fun h=>?_)|refine cY (fun h=>?_) (fun h=>?_)|refine cZ (fun h=>?_) (fun h=>?_)|refine eC (fun h=>?_) (fun h=>?_))|simp (disch:=omega) only[go_sem,aN,Int.natCast_add,Int.cast_ofNat_Int,indexAddrS,hK0,hK1,fI,ld0,h1,aW,aH,e0,e1,sz,aX,aY,bJ,aZ,bK,bA,bB])
    all_goals (first|(rw[aPk a b c d _ (by omega) (by omega)];rfl)|(rw[aIl a b c d _ (by omega) (by omega) (by omega) (by omega)];simp))
set_option maxHeartbeats 8000000 in
theorem bHp (t:Tag)(a:UInt8)(r:List UInt8)(h1:tab a.toNat=68)(h2:a.toNat=244):(lim K).call 130 [.iv (.sl t (bF (a::r)))] []=.ret (.tup [.iv (.int .i32 (D (a::r)).1),.iv (.int .i64 (D (a::r)).2)],[]):=by
 have ha:=bl a
 refine aB K [] (fn:=t130) rfl rfl ?_
 have e0:dP (.iv (.cp g1)) 8=some (.iv (.cp (g1.drop 8))):=rfl
 have e1:∀env S,bL env S (.iv (.cp (g1.drop 8))) 2=some [.iv (.int .u8 128),.iv (.int .u8 143)]:=fun _ _=>rfl
 have sz:IntKind.u8.wrap (rE 8 68 7)=4:=by decide
 cases r with
 | nil =>
  simp (disch:=omega) only[t130,go_sem,aN,Int.natCast_add,Int.cast_ofNat_Int,indexAddrS,hK0,hK1,fI,ld0,h1,aW,aH,e0,e1,sz,aX,aY,bJ,aZ,bK,bA,bB]
  repeat' (first|(first|refine cX (fun h=>?_) (fun h=>?_)|refine cY (fun h=>?_) (fun h=>?_)|refine cZ (fun h=>?_) (fun h=>?_)|refine eC (fun h=>?_) (fun h=>?_))|simp (disch:=omega) only[go_sem,aN,Int.natCast_add,Int.cast_ofNat_Int,indexAddrS,hK0,hK1,fI,ld0,h1,aW,aH,e0,e1,sz,aX,aY,bJ,aZ,bK,bA,bB])
  all_goals (rw[jJ a _ (by omega)];rfl)
 | cons b r =>
  cases r with
  | nil =>
   have hb:=bl b;simp (disch:=omega) only[t130,go_sem,aN,Int.natCast_add,Int.cast_ofNat_Int,indexAddrS,hK0,hK1,fI,ld0,h1,aW,aH,e0,e1,sz,aX,aY,bJ,aZ,bK,bA,bB]
   repeat' (first|(first|refine cX (fun h=>?_) (fun h=>?_)|refine cY (fun h=>?_) (fun h=>?_)|refine cZ (fun h=>?_) (fun h=>?_)|refine eC (fun h=>?_) (fun h=>?_))|simp (disch:=omega) only[go_sem,aN,Int.natCast_add,Int.cast_ofNat_Int,indexAddrS,hK0,hK1,fI,ld0,h1,aW,aH,e0,e1,sz,aX,aY,bJ,aZ,bK,bA,bB])
   all_goals (rw[jJ a _ (by omega)];rfl)
  | cons c r =>
   cases r with
   | nil =>
    have hb:=bl b;have hc:=bl c;simp (disch:=omega) only[t130,go_sem,aN,Int.natCast_add,Int.cast_ofNat_Int,indexAddrS,hK0,hK1,fI,ld0,h1,aW,aH,e0,e1,sz,aX,aY,bJ,aZ,bK,bA,bB]
    repeat' (first|(first|refine cX (fun h=>?_) (fun h=>?_)|refine cY (fun h=>?_) (fun h=>?_)|refine cZ (fun h=>?_) (fun h=>?_)|refine eC (fun h=>?_) (fun h=>?_))|simp (disch:=omega) only[go_sem,aN,Int.natCast_add,Int.cast_ofNat_Int,indexAddrS,hK0,hK1,fI,ld0,h1,aW,aH,e0,e1,sz,aX,aY,bJ,aZ,bK,bA,bB])
    all_goals (rw[jJ a _ (by omega)];rfl)
   | cons d r =>
    have hb:=bl b;have hc:=bl c;have hd:=bl d;simp (disch:=omega) only[t130,go_sem,aN,Int.natCast_add,Int.cast_ofNat_Int,indexAddrS,hK0,hK1,fI,ld0,h1,aW,aH,e0,e1,sz,aX,aY,bJ,aZ,bK,bA,bB]
    repeat' (first|(first|refine cX (fun h=>?_) (fun h=>?_)|refine cY (fun h=>?_) (fun h=>?_)|refine cZ (fun h=>?_) (fun h=>?_)|refine eC (fun h=>?_) (fun h=>?_))|simp (disch:=omega) only[go_sem,aN,Int.natCast_add,Int.cast_ofNat_Int,indexAddrS,hK0,hK1,fI,ld0,h1,aW,aH,e0,e1,sz,aX,aY,bJ,aZ,bK,bA,bB])
    all_goals (first|(rw[aPk a b c d _ (by omega) (by omega)];rfl)|(rw[aIl a b c d _ (by omega) (by omega) (by omega) (by omega)];simp))
theorem aPl (t:Tag)(l:List UInt8):(lim K).call 130 [.iv (.sl t (bF l))] []=.ret (.tup [.iv (.int .i32 (D l).1),.iv (.int .i64 (D l).2)],[]):=by
 cases l with
 | nil=>exact aIi t
 | cons a r =>
  have ha:=bl a
  by_cases h1:a.toNat<128
  ·rw[aRc t a r h1,tF a r h1];rfl
  by_cases h2:a.toNat<194∨245<=a.toNat
  ·rw[bCr t a r (by simp only[tab];(repeat' split)<;>omega),aPh a r (by omega)];rfl
  by_cases h3:a.toNat<224
  ·exact bCs t a r (by simp only[tab];(repeat' split)<;>omega) (by omega)
  by_cases h4:a.toNat=224
  ·exact bHk t a r (by simp only[tab];(repeat' split)<;>omega) h4
  by_cases h5:a.toNat=237
  ·exact bHm t a r (by simp only[tab];(repeat' split)<;>omega) h5
  by_cases h6:a.toNat<240
  ·exact bHl t a r (by simp only[tab];(repeat' split)<;>omega) (by omega)
  by_cases h7:a.toNat=240
  ·exact bHn t a r (by simp only[tab];(repeat' split)<;>omega) h7
  by_cases h8:a.toNat=244
  ·exact bHp t a r (by simp only[tab];(repeat' split)<;>omega) h8
  ·exact bHo t a r (by simp only[tab];(repeat' split)<;>omega) (by omega)
theorem aIm (t:Tag):lp' (lim K) t113L0 [.iv (.sl t (bF [])),.iv (.int .i32 0),j_ 0,u_,.iv (.sl t (bF [])),j_ 0,j_ 0,u_,u_] []=.ret (.exit 0,[.iv (.sl t (bF [])),.iv (.int .i32 0),j_ 0,u_,.iv (.sl t (bF [])),j_ 0,j_ 0,z_,u_],[]):=by
 refine tW K _ _ ?_
 simp (disch:=omega) only[t113L0,go_sem]
theorem bCt (t:Tag)(l:List UInt8):(lim K).call 113 [.iv (.sl t (bF l))] []=.ret (.tup [.iv (.int .i32 (D l).1),.iv (.int .i64 (D l).2)],[]):=by
 refine aB K [] (fn:=t113) rfl rfl ?_
 cases l with
 | nil=>simp (disch:=omega) only[t113,go_sem,Int.cast_ofNat_Int,aIm,aPl]
 | cons a r =>
  have ha:=bl a
  by_cases h:a.toNat<128
  ·have hl:lp' (lim K) t113L0 [.iv (.sl t (bF (a::r))),.iv (.int .i32 0),j_ 0,u_,.iv (.sl t (bF (a::r))),j_ ((r.length+1:Nat):Int),j_ 0,u_,u_] []=.ret (.ret,[.iv (.sl t (bF (a::r))),.iv (.int .i32 a.toNat),j_ 1,.iv (.int .u8 a.toNat),.iv (.sl t (bF (a::r))),j_ ((r.length+1:Nat):Int),j_ 0,e_,e_],[]):=by
    refine tW K _ _ ?_
    simp (disch:=omega) only[t113L0,go_sem,aN,indexAddrS,aW]
   simp (disch:=omega) only[t113,go_sem,Int.cast_ofNat_Int,hl,tF a r h]
  ·have hl:lp' (lim K) t113L0 [.iv (.sl t (bF (a::r))),.iv (.int .i32 0),j_ 0,u_,.iv (.sl t (bF (a::r))),j_ ((r.length+1:Nat):Int),j_ 0,u_,u_] []=.ret (.exit 0,[.iv (.sl t (bF (a::r))),.iv (.int .i32 0),j_ 0,.iv (.int .u8 a.toNat),.iv (.sl t (bF (a::r))),j_ ((r.length+1:Nat):Int),j_ 0,e_,z_],[]):=by
    refine tW K _ _ ?_
    simp (disch:=omega) only[t113L0,go_sem,aN,indexAddrS,aW]
   simp (disch:=omega) only[t113,go_sem,Int.cast_ofNat_Int,hl,aPl]
def bad (l:List UInt8):Bool:=decide ((D l).1=65533)&&decide ((D l).2<=1)
theorem aPm (c n:Int):(lim K).call 114 [.iv (.int .i32 c),j_ n] []=.ret (.iv (.bool (decide (c=65533)&&decide (n<=1))),[]):=by
 refine aB K [] (fn:=t114) rfl rfl ?_
 simp only[t114,go_sem]
 repeat' (first|(first|refine cX (fun h=>?_) (fun h=>?_)|refine cY (fun h=>?_) (fun h=>?_)|refine cZ (fun h=>?_) (fun h=>?_)|refine eC (fun h=>?_) (fun h=>?_))|simp (disch:=omega) only[go_sem])
 all_goals (congr 4;simp[*])
theorem bKs (l:List UInt8):(D l).1<2097152∧(D l).2<=4:=by
 cases l with
 | nil=>simp[D]
 | cons a r =>
  have ha:=bl a
  simp only[D]
  repeat' split
  all_goals (simp only;try omega)
def aA9 (l:List UInt8)(i:Int):Int×Int×Int :=
 if i<0∨(l.length:Int)<=i then(0,0,2)
 else if bad (l.drop i.toNat)then(0,0,4)
 else((D (l.drop i.toNat)).1,(D (l.drop i.toNat)).2,0)
def aLw (x:Int×Int×Int):TV:=.tup [.iv (.int .i64 x.1),.iv (.int .i64 x.2.1),.iv (.int .i64 x.2.2)]
def yS (n:Int):List UInt8->Int
 | []=>n
 | b::r=>yS (64*n+b.toNat % 64) r
def jB:List UInt8->Int
 | []=>0
 | a::r=>yS (if r.length=1 then a.toNat % 32 else if r.length=2 then a.toNat % 16 else if r.length=3 then a.toNat % 8 else a.toNat) r
theorem aLx (l:List UInt8)(i:Int)(h:0<=i∧i<l.length):l.drop i.toNat=l.getD i.toNat 0::l.drop (i+1).toNat:=by
 have h1:i.toNat<l.length:=by omega
 rw[List.drop_eq_getElem_cons h1,show(i+1).toNat=i.toNat+1 by omega]
 simp[List.getD,List.getElem?_eq_getElem h1]
theorem vT (t:Tag)(l:List UInt8)(r0 f a b c:TV)(hl:l.length<=4):∀(k:Nat) (i n:Int) (x:TV),i+k=l.length->1<=i->0<=n->(n+1)*64 ^ k<=1099511627776 ->
  lp' (lim K) t126L0 [.iv (.sl t (bF l)),r0,f,j_ n,j_ i,a,b,c,x] []=.ret (.exit 0,[.iv (.sl t (bF l)),r0,f,j_ (yS n (l.drop i.toNat)),j_ l.length,a,b,c,z_],[])
 | 0,i,n,x,hk,hi,hn,hb=>by
  have e:l.drop i.toNat=[]:=List.drop_of_length_le (by omega)
  obtain rfl:i=l.length:=by omega
  refine aI K _ _ t126L0.eq_1 ?_
  simp (disch:=omega) only[go_sem,e,yS]
 | k+1,i,n,x,hk,hi,hn,hb=>by
  refine aI K _ _ t126L0.eq_1 ?_
  have hx:=bl (l.getD i.toNat 0)
  have h1:(1:Int)<=64 ^ k:=Int.pow_pos (by decide)
  have h2:(n+1)*64 ^ (k+1)=(64*(n+1))*64 ^ k:=by rw[Int.pow_succ];ac_rfl
  have h3:64*(n+1)*1<=(64*(n+1))*64 ^ k:=Int.mul_le_mul_of_nonneg_left h1 (by omega)
  have h4:(64*n+(l.getD i.toNat 0).toNat % 64+1)*64 ^ k<=(64*(n+1))*64 ^ k:=Int.mul_le_mul_of_nonneg_right (by omega) (by omega)
  simp (disch:=omega) only[go_sem,sV,aH,Int.tmod_eq_emod_of_nonneg]
  rw[vT t l r0 f a b c hl k (i+1) _ _ (by omega) (by omega) (by omega) (by omega)]
  rw[aLx l i (by omega)]
  rfl
theorem bCu (t:Tag)(l:List UInt8)(h:1<=l.length∧l.length<=4):(lim K).call 126 [.iv (.sl t (bF l))] []=.ret (j_ (jB l),[]):=by
 refine aB K [] (fn:=t126) rfl rfl ?_
 cases l with
 | nil=>simp at h
 | cons a r =>
  have ha:=bl a
  simp only[List.length_cons]at h
  have hl:r.length<=3:=by omega
  have hp:(64:Int) ^ r.length<=64 ^ 3:=by
   have:=Nat.pow_le_pow_right (n:=64) (by decide) hl
   exact_mod_cast this
  have key:∀n:Int,0<=n->n<=255->(n+1)*64 ^ r.length<=1099511627776:=by
   intro n h0 h1
   have e1:(n+1)*64 ^ r.length<=(n+1)*64 ^ 3:=Int.mul_le_mul_of_nonneg_left hp (by omega)
   omega
  by_cases h1:r.length=1
  ·have e:=vT t (a::r) (j_ 0) (j_ a.toNat) e_ z_ z_ (by simp;omega) r.length 1 (a.toNat % 32) u_ (by simp;omega) (by omega) (by omega) (key _ (by omega) (by omega))
   simp (disch:=omega) only[t126,go_sem,sV,aH,Int.tmod_eq_emod_of_nonneg,indexAddrS,aN,h1,Int.cast_ofNat_Int]
   simp only[aN]at e
   simp (disch:=omega) only[go_sem,e,jB,h1]
  by_cases h2:r.length=2
  ·have e:=vT t (a::r) (j_ 0) (j_ a.toNat) z_ e_ z_ (by simp;omega) r.length 1 (a.toNat % 16) u_ (by simp;omega) (by omega) (by omega) (key _ (by omega) (by omega))
   simp (disch:=omega) only[t126,go_sem,sV,aH,Int.tmod_eq_emod_of_nonneg,indexAddrS,aN,h2,Int.cast_ofNat_Int]
   simp only[aN]at e
   simp (disch:=omega) only[go_sem,e,jB,h2]
  by_cases h3:r.length=3
  ·have e:=vT t (a::r) (j_ 0) (j_ a.toNat) z_ z_ e_ (by simp;omega) r.length 1 (a.toNat % 8) u_ (by simp;omega) (by omega) (by omega) (key _ (by omega) (by omega))
   simp (disch:=omega) only[t126,go_sem,sV,aH,Int.tmod_eq_emod_of_nonneg,indexAddrS,aN,h3,Int.cast_ofNat_Int]
   simp only[aN]at e
   simp (disch:=omega) only[go_sem,e,jB,h3]
  ·have e:=vT t (a::r) (j_ 0) (j_ a.toNat) z_ z_ z_ (by simp;omega) r.length 1 a.toNat u_ (by simp;omega) (by omega) (by omega) (key _ (by omega) (by omega))
   have h0:r.length=0:=by omega
   simp (disch:=omega) only[t126,go_sem,sV,aH,Int.tmod_eq_emod_of_nonneg,indexAddrS,aN,h0,Int.cast_ofNat_Int]
   simp only[aN]at e
   simp (disch:=omega) only[go_sem,e,jB,h0]
theorem jC {n:Nat}(h:n<256):(UInt8.ofNat n).toNat=n:=by simp[UInt8.toNat_ofNat];omega
theorem eq8 {a:UInt8}{n:Nat}(h:a.toNat=n):a=UInt8.ofNat n:=by
 have:=bl a
 apply UInt8.toNat_inj.1
 rw[jC (by omega),h]
theorem aF3 {c:Int}(h:c<128):fN c=[UInt8.ofNat c.toNat]:=by simp[fN,h]
theorem aF4 {c:Int}(h:128<=c∧c<2048):fN c=[UInt8.ofNat (192+c.toNat / 64),UInt8.ofNat (128+c.toNat % 64)]:=by
 have h1:¬c<128:=by omega
 simp[fN,h1,h.2]
theorem aF5 {c:Int}(h:2048<=c∧c<65536):fN c=[UInt8.ofNat (224+c.toNat / 4096),UInt8.ofNat (128+c.toNat / 64 % 64),UInt8.ofNat (128+c.toNat % 64)]:=by
 have h1:¬c<128:=by omega
 have h2:¬c<2048:=by omega
 simp[fN,h1,h2,h.2]
theorem aF6 {c:Int}(h:65536<=c):fN c=[UInt8.ofNat (240+c.toNat / 262144),UInt8.ofNat (128+c.toNat / 4096 % 64),UInt8.ofNat (128+c.toNat / 64 % 64),UInt8.ofNat (128+c.toNat % 64)]:=by
 have h1:¬c<128:=by omega
 have h2:¬c<2048:=by omega
 have h3:¬c<65536:=by omega
 simp[fN,h1,h2,h3]
theorem aPn {c:Int}(h:isC c=true)(r:List UInt8):D (fN c++r)=(c.toNat,(fN c).length):=by
 have hc:=(oH c).1 h
 by_cases h1:c<128
 ·rw[aF3 h1]
  simp only[List.cons_append,List.nil_append]
  rw[tF _ _ (by rw[jC (by omega)];omega),jC (by omega)];rfl
 by_cases h2:c<2048
 ·rw[aF4 (by omega)]
  simp only[List.cons_append,List.nil_append]
  rw[aV7 _ _ _ (by rw[jC (by omega)];omega) (by rw[jC (by omega)];omega),jC (by omega),jC (by omega)]
  simp;omega
 by_cases h3:c<65536
 ·rw[aF5 (by omega)]
  simp only[List.cons_append,List.nil_append]
  rw[aIk _ _ _ _ (by rw[jC (by omega)];omega) (by rw[jC (by omega),jC (by omega)];omega) (by rw[jC (by omega)];omega),jC (by omega),jC (by omega),jC (by omega)]
  simp;omega
 ·rw[aF6 (by omega)]
  simp only[List.cons_append,List.nil_append]
  rw[aIl _ _ _ _ _ (by rw[jC (by omega)];omega) (by rw[jC (by omega),jC (by omega)];omega) (by rw[jC (by omega)];omega) (by rw[jC (by omega)];omega),jC (by omega),jC (by omega),jC (by omega),jC (by omega)]
  simp;omega
theorem bCv {c:Int}(h:isC c=true)(r:List UInt8):bad (fN c++r)=false:=by
 have hc:=(oH c).1 h
 simp only[bad,aPn h]
 by_cases e:c=65533
 ·subst e;rfl
 ·have:¬c.toNat=65533:=by omega
  simp[this]
theorem uV {s:List UInt8}(h:bad s=false):isC ((D s).1:Nat)=true∧fN ((D s).1:Nat)=s.take (D s).2∧1<=(D s).2∧(D s).2<=s.length:=by
 cases s with
 | nil=>simp[bad,D]at h
 | cons a r =>
  have ha:=bl a
  by_cases h1:a.toNat<128
  ·rw[tF a r h1]
   refine⟨(oH _).2 (by omega),?_,by simp,by simp⟩
   rw[aF3 (by omega)]
   simp
  by_cases h2:a.toNat<194∨245<=a.toNat
  ·simp[bad,aPh a r (by omega)]at h
  by_cases h3:a.toNat<224
  ·cases r with
   | nil=>rw[bad,aIj a _ (by omega)]at h;simp at h
   | cons b r =>
    have hb:=bl b
    by_cases hf:128<=b.toNat∧b.toNat<=191
    ·rw[aV7 a b r (by omega) hf]
     refine⟨(oH _).2 (by simp only;omega),?_,by simp,by simp⟩
     rw[aF4 (by simp only;omega)]
     simp only[List.take_succ_cons,List.take_zero,Int.toNat_natCast]
     rw[<-eq8 (a:=a) (by omega),<-eq8 (a:=b) (by omega)]
    ·simp[bad,bGp a b r (by omega) hf]at h
  by_cases h4:a.toNat<240
  ·match r with
   | []=>rw[bad,jX a _ (by omega)]at h;simp at h
   | [b]=>rw[bad,jX a _ (by omega)]at h;simp at h
   | b::c::r =>
    have hb:=bl b
    have hc:=bl c
    by_cases hf:((a.toNat=224->160<=b.toNat)∧128<=b.toNat∧(a.toNat=237->b.toNat<=159)∧b.toNat<=191)∧(128<=c.toNat∧c.toNat<=191)
    ·rw[aIk a b c r (by omega) hf.1 hf.2]
     refine⟨(oH _).2 (by simp only;omega),?_,by simp,by simp⟩
     rw[aF5 (by simp only;omega)]
     simp only[List.take_succ_cons,List.take_zero,Int.toNat_natCast]
     rw[<-eq8 (a:=a) (by omega),<-eq8 (a:=b) (by omega),<-eq8 (a:=c) (by omega)]
    ·simp[bad,aPj a b c r (by omega) (by omega)]at h
  ·match r with
   | []=>rw[bad,jJ a _ (by omega)]at h;simp at h
   | [b]=>rw[bad,jJ a _ (by omega)]at h;simp at h
   | [b,c]=>rw[bad,jJ a _ (by omega)]at h;simp at h
   | b::c::d::r =>
    have hb:=bl b
    have hc:=bl c
    have hd:=bl d
    by_cases hf:((a.toNat=240->144<=b.toNat)∧128<=b.toNat∧(a.toNat=244->b.toNat<=143)∧b.toNat<=191)∧(128<=c.toNat∧c.toNat<=191)∧(128<=d.toNat∧d.toNat<=191)
    ·rw[aIl a b c d r (by omega) hf.1 hf.2.1 hf.2.2]
     refine⟨(oH _).2 (by simp only;omega),?_,by simp,by simp⟩
     rw[aF6 (by simp only;omega)]
     simp only[List.take_succ_cons,List.take_zero,Int.toNat_natCast]
     rw[<-eq8 (a:=a) (by omega),<-eq8 (a:=b) (by omega),<-eq8 (a:=c) (by omega),<-eq8 (a:=d) (by omega)]
    ·simp[bad,aPk a b c d r (by omega) (by omega)]at h
theorem aBa {c:Int}(h:isC c=true):jB (fN c)=c:=by
 have hc:=(oH c).1 h
 by_cases h1:c<128
 ·rw[aF3 h1];simp[jB,yS,UInt8.toNat_ofNat];omega
 by_cases h2:c<2048
 ·rw[aF4 (by omega)];simp only[jB,yS,List.length_cons,List.length_nil,↓reduceIte,Nat.reduceAdd];rw[jC (by omega),jC (by omega)];omega
 by_cases h3:c<65536
 ·rw[aF5 (by omega)];simp only[jB,yS,List.length_cons,List.length_nil,↓reduceIte,Nat.reduceAdd,Nat.reduceEqDiff];rw[jC (by omega),jC (by omega),jC (by omega)];omega
 ·rw[aF6 (by omega)];simp only[jB,yS,List.length_cons,List.length_nil,↓reduceIte,Nat.reduceAdd,Nat.reduceEqDiff];rw[jC (by omega),jC (by omega),jC (by omega),jC (by omega)];omega
def iE (s:List UInt8)(n:Nat):Bool:=isC (jB (s.take n))&&(fN (jB (s.take n))==s.take n)
theorem aV8 {s:List UInt8}{n:Nat}(hn:1<=n∧n<=s.length):iE s n=true↔bad s=false∧(D s).2=n:=by
 constructor
 ·intro h
  simp only[iE,Bool.and_eq_true,beq_iff_eq]at h
  have e:s=fN (jB (s.take n))++s.drop n:=by rw[h.2,List.take_append_drop]
  have hb:=bCv h.1 (s.drop n)
  have hd:=aPn h.1 (s.drop n)
  rw[<-e]at hb hd
  refine⟨hb,?_⟩
  rw[hd,h.2]
  simp;omega
 ·intro⟨hb,hd⟩
  obtain⟨h1,h2,h3,h4⟩:=uV hb
  rw[hd]at h2
  have ht:jB (s.take n)=(D s).1:=by rw[<-h2,aBa h1]
  simp only[iE,ht,h1,h2,beq_self_eq_true,Bool.and_self]
theorem aPo (t:Tag)(l:List UInt8)(at':Int)(ht:dN t l)(hat:0<=at'∧at'<l.length)(hl:l.length<=4611686018427387904)(r2 r3 r4 a:TV):∀(k:Nat) (n:Int) (x6 x8 x9:TV),n+k=5->1<=n->(bad (l.drop at'.toNat)=false->n<=(D (l.drop at'.toNat)).2) ->
  ∃y5 y6 y8 y9,lp' (lim K) t110L0 [.iv (.sl t (bF l)),j_ at',r2,r3,r4,j_ n,x6,a,x8,x9] []=.ret (if bad (l.drop at'.toNat)then(.exit 0,[.iv (.sl t (bF l)),j_ at',r2,r3,r4,y5,y6,a,y8,y9],[])else(.ret,[.iv (.sl t (bF l)),j_ at',.iv (.int .i64 (D (l.drop at'.toNat)).1),.iv (.int .i64 (D (l.drop at'.toNat)).2),j_ 0,y5,y6,a,y8,y9],[]))
 | 0,n,x6,x8,x9,hk,hn,hd=>by
  have hb:bad (l.drop at'.toNat)=true:=by
   cases hb:bad (l.drop at'.toNat)
   ·have:=bKs (l.drop at'.toNat);have:=hd hb;omega
   ·rfl
  refine⟨?_,?_,?_,?_,aI K _ _ t110L0.eq_1 ?_⟩
  rotate_left 4
  ·simp (disch:=omega) only[go_sem,hb]
   rfl
 | k+1,n,x6,x8,x9,hk,hn,hd=>by
  by_cases hlen:at'+n<=l.length
  ·have hs:(l.drop at'.toNat).length=l.length-at'.toNat:=List.length_drop
   have e1:(at'+n).toNat-at'.toNat=n.toNat:=by omega
   have hsl:cH [] (.sl 1) (.iv (.sl t (bF l))) (some at') (some (at'+n)) none=some (.iv (.sl (lL t l.length (at'+n).toNat) (bF ((l.drop at'.toNat).take n.toNat)))):=by
    rw[aLh [] ht (by omega),e1]
   have h27:=fun tg=>bCu tg ((l.drop at'.toNat).take n.toNat) (by rw[List.length_take,hs];omega)
   have hfi:=aV8 (s:=l.drop at'.toNat) (n:=n.toNat) (by rw[hs];omega)
   have ih0:=aPo t l at' ht hat hl r2 r3 r4 a k
   generalize l.drop at'.toNat=s at *
   cases hf:iE s n.toNat
   ·have hnd:bad s=false->n+1<=(D s).2:=by
     intro hb
     have h1:=hd hb
     have h2:¬(D s).2=n.toNat:=by
      intro h3
      have:=hfi.2 ⟨hb,h3⟩
      rw[hf]at this;cases this
     omega
    cases hc:isC (jB (s.take n.toNat))
    ·obtain⟨y5,y6,y8,y9,ih⟩:=ih0 (n+1) (j_ (jB (s.take n.toNat))) e_ z_ (by omega) (by omega) hnd
     refine⟨y5,y6,y8,y9,aI K _ _ t110L0.eq_1 ?_⟩
     simp (disch:=omega) only[go_sem,aH,hsl,h27,aF2,hc,ih]
     cases bad s<;>rfl
    ·obtain⟨y5,y6,y8,y9,ih⟩:=ih0 (n+1) (j_ (jB (s.take n.toNat))) e_ z_ (by omega) (by omega) hnd
     have he:(fN (jB (s.take n.toNat))==s.take n.toNat)=false:=by simpa[iE,hc] using hf
     refine⟨y5,y6,y8,y9,aI K _ _ t110L0.eq_1 ?_⟩
     simp (disch:=omega) only[go_sem,aH,hsl,h27,aF2,hc,aPg _ hc,he,ih]
     cases bad s<;>rfl
   ·obtain⟨hb,hsz⟩:=hfi.1 hf
    have hc:isC (jB (s.take n.toNat))=true:=by simp[iE]at hf;exact hf.1
    have he:(fN (jB (s.take n.toNat))==s.take n.toNat)=true:=by simp[iE]at hf;simp[hf.2]
    have hv:jB (s.take n.toNat)=(D s).1:=by
     have g:=uV hb
     rw[<-hsz,<-g.2.1,aBa g.1]
    have hv2:((D s).2:Int)=n:=by omega
    refine⟨?_,?_,?_,?_,aI K _ _ t110L0.eq_1 ?_⟩
    rotate_left 4
    ·simp (disch:=omega) only[go_sem,aH,hsl,h27,aF2,hc,aPg _ hc,he,hb,hv2]
     simp only[hv]
     rfl
  ·have hb:bad (l.drop at'.toNat)=true:=by
    cases hb:bad (l.drop at'.toNat)
    ·have q:=(uV hb).2.2.2;have p:=hd hb;rw[List.length_drop]at q;omega
    ·rfl
   refine⟨?_,?_,?_,?_,aI K _ _ t110L0.eq_1 ?_⟩
   rotate_left 4
   ·simp (disch:=omega) only[go_sem,hb,aH]
    rfl
theorem bCw (t:Tag)(l:List UInt8)(i:Int)(ht:dN t l)(hl:l.length<=4611686018427387904):(lim K).call 110 [.iv (.sl t (bF l)),j_ i] []=.ret (aLw (aA9 l i),[]):=by
 refine aB K [] (fn:=t110) rfl rfl ?_
 by_cases h:i<0∨(l.length:Int)<=i
 ·by_cases h0:i<0
  ·simp (disch:=omega) only[t110,go_sem,aA9,h,aLw]
  ·simp (disch:=omega) only[t110,go_sem,aA9,h,aLw]
 ·obtain⟨y5,y6,y8,y9,e⟩:=aPo t l i ht (by omega) hl (j_ 0) (j_ 0) (j_ 0) z_ 4 1 u_ u_ u_ (by omega) (by omega) (fun hb=>by have:=(uV hb).2.2.1;omega)
  cases hb:bad (l.drop i.toNat)
  ·simp only[hb]at e
   simp (disch:=omega) only[t110,go_sem,aA9,h,aLw,e,hb]
  ·simp only[hb]at e
   simp (disch:=omega) only[t110,go_sem,aA9,h,aLw,e,hb]
def dK:Nat->List UInt8->Int->List (Int×Int)×Option Int
 | 0,_,_=>([],none)
 | k+1,s,i=>if s=[]then([],none)else if bad s then([],some i)else
  ((((D s).1:Int),i)::(dK k (s.drop (D s).2) (i+(D s).2)).1,(dK k (s.drop (D s).2) (i+(D s).2)).2)
def iB (c:Int×Int):List IV:=[.int .i64 c.1,.int .i64 c.2]
theorem aAr (c:Int×Int):(iB c).length=2∧(iB c).all fY=true:=⟨rfl,rfl⟩
set_option maxHeartbeats 4000000 in
theorem aV9 (t:Tag)(l:List UInt8)(ht:dN t l)(hl:l.length<=2000000):∀(k:Nat) (i:Int) (done:List (Int×Int)) (x6 x7 x8 x9 x10:TV),0<=i->i<=l.length->(l.length:Int)-i<=k->(done.length:Int)<=i ->
  ∃y5 y6 y7 y8 y9 y10 y4 S',lp' (lim K) t97L0 [.iv (.sl t (bF l)),k_,j_ 0,j_ 0,acc 0 (done.map iB),j_ i,x6,x7,x8,x9,x10] (qW 2 161 (done.map iB))=.ret (match(dK k (l.drop i.toNat) i).2 with
   | none=>(.exit 0,[.iv (.sl t (bF l)),k_,j_ 0,j_ 0,acc 0 ((done++(dK k (l.drop i.toNat) i).1).map iB),y5,y6,y7,y8,y9,y10],S')
   | some p=>(.ret,[.iv (.sl t (bF l)),k_,j_ 4,j_ p,y4,y5,y6,y7,y8,y9,y10],S'))
 | 0,i,done,x6,x7,x8,x9,x10,h0,h1,h2,h3=>by
  refine⟨?_,?_,?_,?_,?_,?_,?_,?_,aI K _ _ t97L0.eq_1 ?_⟩
  rotate_left 8
  ·simp (disch:=omega) only[go_sem,dK,List.append_nil]
   rfl
  exact .hole
 | k+1,i,done,x6,x7,x8,x9,x10,h0,h1,h2,h3=>by
  by_cases hi:i=l.length
  ·have e:l.drop i.toNat=[]:=List.drop_of_length_le (by omega)
   refine⟨?_,?_,?_,?_,?_,?_,?_,?_,aI K _ _ t97L0.eq_1 ?_⟩
   rotate_left 8
   ·simp (disch:=omega) only[go_sem,dK,e,List.append_nil]
    rfl
   exact .hole
  ·have hs:(l.drop i.toNat).length=l.length-i.toNat:=List.length_drop
   have h13:=bCw t l i ht (by omega)
   have hR:aA9 l i=if bad (l.drop i.toNat)then(0,0,4)else(((D (l.drop i.toNat)).1:Int),((D (l.drop i.toNat)).2:Int),0):=by
    simp only[aA9];rw[if_neg (by omega)]
   rw[hR]at h13
   have hne:¬l.drop i.toNat=[]:=by intro e;rw[e]at hs;simp at hs;omega
   cases hb:bad (l.drop i.toNat)
   ·have hg:=uV hb
    have hdr:(l.drop i.toNat).drop (D (l.drop i.toNat)).2=l.drop (i+(D (l.drop i.toNat)).2).toNat:=by
     rw[List.drop_drop];congr 1;omega
    obtain⟨y5,y6,y7,y8,y9,y10,y4,S',ih⟩:=aV9 t l ht hl k (i+(D (l.drop i.toNat)).2) (done++[(((D (l.drop i.toNat)).1:Int),i)]) (.iv (.int .i64 (D (l.drop i.toNat)).1)) (.iv (.int .i64 (D (l.drop i.toNat)).2)) (j_ 0) e_ z_ (by omega) (by omega) (by omega) (by simp;omega)
    simp only[dK,hne,hb,↓reduceIte,Bool.false_eq_true]
    rw[hdr]
    generalize D (l.drop i.toNat)=d at *
    rw[hb]at h13
    simp only[Bool.false_eq_true,↓reduceIte]at h13
    have ha:=aA6 (w:=2) (b:=16) (el:=161) (t:=.full) (aAr ((d.1:Int),i)) (cO.map aAr done) (cI (by rw[List.length_map];omega))
    refine⟨y5,y6,y7,y8,y9,y10,y4,S',aI K _ _ t97L0.eq_1 ?_⟩
    simp only[iB]at ha
    have em:(done++[((d.1:Int),i)]).map iB=done.map iB++[[.int .i64 d.1,.int .i64 i]]:=by simp[iB]
    rw[em]at ih
    simp (disch:=omega) only[go_sem,h13,aLw,aH,ha,ih]
    simp only[List.map_append,List.map_cons,List.map_nil,iB,List.append_assoc,List.cons_append,List.nil_append]
    cases (dK k (l.drop (i+d.2).toNat) (i+d.2)).2<;>rfl
   ·refine⟨?_,?_,?_,?_,?_,?_,?_,?_,aI K _ _ t97L0.eq_1 ?_⟩
    rotate_left 8
    ·rw[hb]at h13
     simp only[↓reduceIte]at h13
     simp (disch:=omega) only[go_sem,dK,hne,hb,h13,aLw,List.append_nil]
     rfl
theorem bHq (t:Tag)(l:List UInt8)(ht:dN t l)(hl:l.length<=2000000):Pure K 97 [.iv (.sl t (bF l))] (match(dK l.length l 0).2 with
      | none=>.tup [.iv (.sl (nG (dK l.length l 0).1) ((dK l.length l 0).1.map iB)),j_ 0,j_ 0]
      | some p=>.tup [k_,j_ 4,j_ p]):=by
  obtain⟨y5,y6,y7,y8,y9,y10,y4,S',e⟩:=aV9 t l ht hl l.length 0 [] u_ u_ u_ u_ u_ (by omega) (by omega) (by omega) (by simp)
  rw[List.map_nil,fG,kQ]at e
  simp only[List.nil_append,Int.toNat_zero,List.drop_zero]at e
  generalize dK l.length l 0=q at *
  obtain⟨q1,q2⟩:=q
  refine eM t97 rfl rfl ?_
  cases q2 with
  | none =>
    simp only at e ⊢
    simp (disch:=omega) only[t97,go_sem,e,sY]
  | some p =>
    simp only at e ⊢
    simp (disch:=omega) only[t97,go_sem,e]
theorem bCx (l:List UInt8)(i:Nat):ByteArray.get! ⟨l.toArray⟩ i=l.getD i 0:=by
 show l.toArray[i]! = _
 simp[List.getD,getElem!_def]
 cases l[i]? <;> rfl
set_option maxHeartbeats 4000000 in
theorem aEi (l:List UInt8)(i:Nat)(h:i<l.length):Utf8.decode ⟨l.toArray⟩ i=D (l.drop i):=by
 have hs:(ByteArray.mk l.toArray).size=l.length:=by simp[ByteArray.size]
 have hg:∀k,l.getD (i+k) 0=(l.drop i).getD k 0:=by intro k;simp[List.getD,List.getElem?_drop]
 have hlen:∀k,(i+k<l.length)↔k<(l.drop i).length:=by intro k;rw[List.length_drop];omega
 have hpos:0<(l.drop i).length:=by rw[List.length_drop];omega
 simp only[Utf8.decode,hs,bCx,hg,hlen]
 generalize l.drop i=s at *
 cases s with
 | nil=>simp at hpos
 | cons a r =>
  have ha:=bl a
  match r with
  | [] =>
   simp only[List.getD_cons_zero,List.getD_cons_succ,List.getD_nil,List.length_cons,List.length_nil,D,fol,Utf8.valid,Utf8.runeError,Bool.and_eq_true,Bool.or_eq_true,beq_iff_eq,decide_eq_true_eq]
   repeat' split
   all_goals (first|rfl|(simp only[Prod.mk.injEq];omega)|(exfalso;omega))
  | [b] =>
   have hb:=bl b
   simp only[List.getD_cons_zero,List.getD_cons_succ,List.getD_nil,List.length_cons,List.length_nil,D,fol,Utf8.valid,Utf8.runeError,Bool.and_eq_true,Bool.or_eq_true,beq_iff_eq,decide_eq_true_eq]
   repeat' split
   all_goals (first|rfl|(simp only[Prod.mk.injEq];omega)|(exfalso;omega))
  | [b,c] =>
   have hb:=bl b
   have hc:=bl c
   simp only[List.getD_cons_zero,List.getD_cons_succ,List.getD_nil,List.length_cons,List.length_nil,D,fol,Utf8.valid,Utf8.runeError,Bool.and_eq_true,Bool.or_eq_true,beq_iff_eq,decide_eq_true_eq]
   repeat' split
   all_goals (first|rfl|(simp only[Prod.mk.injEq];omega)|(exfalso;omega))
  | b::c::d::r =>
   have hb:=bl b
   have hc:=bl c
   have hd:=bl d
   simp only[List.getD_cons_zero,List.getD_cons_succ,List.getD_nil,List.length_cons,List.length_nil,D,fol,Utf8.valid,Utf8.runeError,Bool.and_eq_true,Bool.or_eq_true,beq_iff_eq,decide_eq_true_eq]
   repeat' split
   all_goals (first|rfl|(simp only[Prod.mk.injEq];omega)|(exfalso;omega))
set_option maxHeartbeats 4000000 in
theorem aPp (t:Tag)(l:List UInt8)(ht:dN t l)(hl:l.length<=2000000):∀(k:Nat) (i:Nat) (done:List (Int×Int)) (x4 x5 x6 x8 x9 x10 x11:TV),i<=l.length->l.length-i<=k->done.length<=i ->
  ∃y3 y4 y5 y6 y8 y9 y10 y11 S',lp' (lim K) t104L0 [.iv (.sl t (bF l)),k_,.lb [j_ 0,j_ 0],acc 1 (done.map iB),x4,x5,x6,.it 0,x8,x9,x10,x11] (.sit l i::qW 2 170 (done.map iB))=.ret (match(dK k (l.drop i) i).2 with
   | none=>(.exit 0,[.iv (.sl t (bF l)),k_,.lb [j_ 0,j_ 0],acc 1 ((done++(dK k (l.drop i) i).1).map iB),y4,y5,y6,.it 0,y8,y9,y10,y11],S')
   | some p=>(.ret,[.iv (.sl t (bF l)),k_,.lb [j_ 4,j_ p],y3,y4,y5,y6,.it 0,y8,y9,y10,y11],S'))
 | 0,i,done,x4,x5,x6,x8,x9,x10,x11,h1,h2,h3=>by
  refine⟨?_,?_,?_,?_,?_,?_,?_,?_,?_,aI K _ _ t104L0.eq_1 ?_⟩
  rotate_left 9
  ·simp (disch:=omega) only[go_sem,dK,List.append_nil]
   rfl
  exact .hole
 | k+1,i,done,x4,x5,x6,x8,x9,x10,x11,h1,h2,h3=>by
  by_cases hi:i=l.length
  ·have e:l.drop i=[]:=List.drop_of_length_le (by omega)
   refine⟨?_,?_,?_,?_,?_,?_,?_,?_,?_,aI K _ _ t104L0.eq_1 ?_⟩
   rotate_left 9
   ·simp (disch:=omega) only[go_sem,dK,e,List.append_nil]
    rfl
   exact .hole
  ·have hs:(l.drop i).length=l.length-i:=List.length_drop
   have hde:=aEi l i (by omega)
   have hne:¬l.drop i=[]:=by intro e;rw[e]at hs;simp at hs;omega
   have h25:=fun tg=>bCt tg (l.drop i)
   have hdl:=bKs (l.drop i)
   have hbad:bad (l.drop i)=(decide ((((D (l.drop i)).1:Nat):Int)=65533)&&decide ((((D (l.drop i)).2:Nat):Int)<=1)):=by
    rw[bad,Bool.eq_iff_iff];simp;omega
   have hsl:=fun S=>aDi S (t:=t) (l:=l) (a:=(i:Int)) ht (by omega)
   cases hb:bad (l.drop i)
   ·have hg:=uV hb
    have hdr:(l.drop i).drop (D (l.drop i)).2=l.drop (i+(D (l.drop i)).2):=by
     rw[List.drop_drop]
    have ih:=fun x4 x5 x6 x8 x9 x10 x11=>aPp t l ht hl k (i+(D (l.drop i)).2) (done++[(((D (l.drop i)).1:Int),(i:Int))]) x4 x5 x6 x8 x9 x10 x11 (by omega) (by omega) (by simp;omega)
    simp only[dK,hne,hb,↓reduceIte,Bool.false_eq_true]
    rw[hdr]
    have ha:=bBu (w:=2) (b:=16) (el:=170) (t:=.full) (.sit l (i+(D (l.drop i)).2)) (aAr (((D (l.drop i)).1:Int),(i:Int))) (cO.map aAr done) (cI (by rw[List.length_map];omega))
    have em:(done++[(((D (l.drop i)).1:Int),(i:Int))]).map iB=done.map iB++[[.int .i64 (D (l.drop i)).1,.int .i64 i]]:=by simp[iB]
    rw[em]at ih
    generalize D (l.drop i)=d at *
    simp only[iB]at ha
    rw[hb]at hbad
    by_cases hc:(d.1:Int)=65533
    ·have h26:¬(d.2:Int)<=1:=by intro q;simp[hc,q]at hbad
     obtain⟨y3,y4,y5,y6,y8,y9,y10,y11,S',ih⟩:=ih (j_ i) (.iv (.int .i32 d.1)) (j_ d.2) (.tup [e_,j_ i,.iv (.int .i32 d.1)]) e_ e_ z_
     refine⟨y3,y4,y5,y6,y8,y9,y10,y11,S',aI K _ _ t104L0.eq_1 ?_⟩
     simp (disch:=omega) only[go_sem,hde,hsl,Int.toNat_natCast,h25,aPm,h26,aH,ha,ih]
     simp only[Int.natCast_add,List.map_append,List.map_cons,List.map_nil,iB,List.append_assoc,List.cons_append,List.nil_append]
     cases (dK k (l.drop (i+d.2)) ((i:Int)+(d.2:Int))).2<;>rfl
    ·obtain⟨y3,y4,y5,y6,y8,y9,y10,y11,S',ih⟩:=ih (j_ i) (.iv (.int .i32 d.1)) x6 (.tup [e_,j_ i,.iv (.int .i32 d.1)]) e_ z_ x11
     refine⟨y3,y4,y5,y6,y8,y9,y10,y11,S',aI K _ _ t104L0.eq_1 ?_⟩
     simp (disch:=omega) only[go_sem,hde,aH,ha,ih]
     simp only[Int.natCast_add,List.map_append,List.map_cons,List.map_nil,iB,List.append_assoc,List.cons_append,List.nil_append]
     cases (dK k (l.drop (i+d.2)) ((i:Int)+(d.2:Int))).2<;>rfl
   ·rw[hb]at hbad
    have h26:=hbad.symm
    have hc:(((D (l.drop i)).1:Nat):Int)=65533:=by simp at h26;omega
    have hc2:(((D (l.drop i)).2:Nat):Int)<=1:=by simp at h26;omega
    refine⟨?_,?_,?_,?_,?_,?_,?_,?_,?_,aI K _ _ t104L0.eq_1 ?_⟩
    rotate_left 9
    ·simp (disch:=omega) only[go_sem,dK,hne,hb,hde,hsl,Int.toNat_natCast,h25,aPm,h26,hc]
     rfl
theorem bCy (t:Tag)(l:List UInt8)(ht:dN t l)(hl:l.length<=2000000):Pure K 104 [.iv (.sl t (bF l))] (match(dK l.length l 0).2 with
      | none=>.tup [.iv (.sl (nG (dK l.length l 0).1) ((dK l.length l 0).1.map iB)),.iv (.agg [.int .i64 0,.int .i64 0])]
      | some p=>.tup [k_,.iv (.agg [.int .i64 4,.int .i64 p])]):=by
  obtain⟨y3,y4,y5,y6,y8,y9,y10,y11,S',e⟩:=aPp t l ht hl l.length 0 [] u_ u_ u_ u_ u_ u_ u_ (by omega) (by omega) (by simp)
  rw[List.map_nil,fG,kQ]at e
  simp only[List.nil_append,List.drop_zero,Int.cast_ofNat_Int]at e
  generalize dK l.length l 0=q at *
  obtain⟨q1,q2⟩:=q
  refine eM t104 rfl rfl ?_
  cases q2 with
  | none =>
    simp only at e ⊢
    simp (disch:=omega) only[t104,go_sem,e,sY]
  | some p =>
    simp only at e ⊢
    simp (disch:=omega) only[t104,go_sem,e]
theorem bMd (c:Int×Int):sub (iB c) 0 2=some (iB c):=by simp[sub,iB]
theorem aIn (a:Int):fY (i64 a)=true:=rfl
def iF (cs:List (Int×Int)):List Int:=cs.map (·.1)
theorem aBb (cs:List (Int×Int))(i:Nat)(h:i<cs.length):iF (cs.take (i+1))=iF (cs.take i)++[(cs.getD i default).1]:=by
 rw[aDl (d:=default) h];simp[iF]
theorem aBc:∀(k:Nat) (s:List UInt8) (i:Int),(dK k s i).1.length<=s.length
 | 0,s,i=>by simp[dK]
 | k+1,s,i=>by
  simp only[dK]
  split
  ·simp
  ·split
   ·simp
   ·rename_i h1 h2
    have hb:bad s=false:=by simpa using h2
    have hg:=uV hb
    have:=aBc k (s.drop (D s).2) (i+(D s).2)
    rw[List.length_drop]at this
    simp only[List.length_cons]
    omega
theorem aEj (s:List UInt8)(hl:s.length<=2000000):(dK s.length s 0).1.length<=2000000:=by
 have:=aBc s.length s 0
 omega
set_option maxHeartbeats 4000000 in
theorem aWa (s:TV)(tg:Tag)(cs:List (Int×Int))(hl:cs.length<=2000000)(f a7:TV):∀(k i:Nat) (x6 x11:TV),i+k=cs.length ->
  ∃y6 y11,lp' (lim K) t87L0 [s,k_,j_ 0,.iv (.sl tg (cs.map iB)),f,acc 0 (TM.one i64 (iF (cs.take i))),x6,a7,.iv (.sl tg (cs.map iB)),j_ cs.length,j_ i,x11] (qW 1 3 (TM.one i64 (iF (cs.take i))))=.ret (.exit 0,[s,k_,j_ 0,.iv (.sl tg (cs.map iB)),f,acc 0 (TM.one i64 (iF cs)),y6,a7,.iv (.sl tg (cs.map iB)),j_ cs.length,j_ cs.length,y11],qW 1 3 (TM.one i64 (iF cs)))
 | 0,i,x6,x11,h=>by
  obtain rfl:i=cs.length:=by omega
  rw[List.take_length]
  refine⟨?_,?_,aI K _ _ t87L0.eq_1 ?_⟩
  rotate_left 2
  ·simp (disch:=omega) only[go_sem]
   rfl
 | k+1,i,x6,x11,h=>by
  have hc:=aBb cs i (by omega)
  have hcl:(iF (cs.take i)).length<=2000000:=by simp[iF];omega
  obtain⟨y6,y11,ih⟩:=aWa s tg cs hl f a7 k (i+1) (.lb [.iv (.int .i64 (cs.getD i default).1),.iv (.int .i64 (cs.getD i default).2)]) e_ (by omega)
  rw[hc,<-aDf]at ih
  have ha:=aA6 (w:=1) (b:=8) (el:=3) (t:=.full) (l:=TM.one i64 (iF (cs.take i))) (c:=[.int .i64 (cs.getD i default).1]) ⟨rfl,rfl⟩ (cO.one aIn _) (cI (by rw[TM.dL];omega))
  have hg:=aH6 (w:=2) (f:=iB) (fun _=>rfl) (t:=tg) (l:=cs) (i:=(i:Int)) (by omega)
  refine⟨y6,y11,aI K _ _ t87L0.eq_1 ?_⟩
  simp (disch:=omega) only[go_sem,hg,aLj,bMd,Int.toNat_natCast,iB,aH,ha]
  exact congrArg er ih
set_option maxHeartbeats 4000000 in
theorem aWb (s:TV)(tg:Tag)(cs:List (Int×Int))(hl:cs.length<=2000000)(f a7:TV):∀(k i:Nat) (x8:TV),i+k=cs.length ->
  ∃y8,lp' (lim K) t79L0 [s,k_,j_ 0,.iv (.sl tg (cs.map iB)),f,acc 0 (TM.one i64 (iF (cs.take i))),j_ i,a7,x8] (qW 1 3 (TM.one i64 (iF (cs.take i))))=.ret (.exit 0,[s,k_,j_ 0,.iv (.sl tg (cs.map iB)),f,acc 0 (TM.one i64 (iF cs)),j_ cs.length,a7,y8],qW 1 3 (TM.one i64 (iF cs)))
 | 0,i,x8,h=>by
  obtain rfl:i=cs.length:=by omega
  rw[List.take_length]
  refine⟨?_,aI K _ _ t79L0.eq_1 ?_⟩
  rotate_left 1
  ·simp (disch:=omega) only[go_sem,List.length_map]
   rfl
 | k+1,i,x8,h=>by
  have hc:=aBb cs i (by omega)
  have hcl:(iF (cs.take i)).length<=2000000:=by simp[iF];omega
  obtain⟨y8,ih⟩:=aWb s tg cs hl f a7 k (i+1) e_ (by omega)
  rw[hc,<-aDf]at ih
  have ha:=aA6 (w:=1) (b:=8) (el:=3) (t:=.full) (l:=TM.one i64 (iF (cs.take i))) (c:=[.int .i64 (cs.getD i default).1]) ⟨rfl,rfl⟩ (cO.one aIn _) (cI (by rw[TM.dL];omega))
  have hg:=aH6 (w:=2) (f:=iB) (fun _=>rfl) (t:=tg) (l:=cs) (i:=(i:Int)) (by omega)
  have hz:dP (.iv (.cp (iB (cs.getD i default)))) 0=some (.iv (.cp (iB (cs.getD i default)))):=rfl
  refine⟨y8,aI K _ _ t79L0.eq_1 ?_⟩
  simp (disch:=omega) only[go_sem,List.length_map,hg,hz,Int.toNat_natCast,iB,aH,ha,aFw]
  exact congrArg er ih
theorem bHr (s:List UInt8)(hl:s.length<=2000000):Pure K 87 [.iv (.str s)] (match(dK s.length s 0).2 with
      | none=>.tup [.iv (.sl (nG (dK s.length s 0).1) (TM.one i64 (iF (dK s.length s 0).1))),j_ 0]
      | some p=>.tup [k_,j_ 4]):=by
  have h17:=bCy .no s (dN.no _) hl
  have hcl:(dK s.length s 0).1.length<=2000000:=aEj s hl
  generalize dK s.length s 0=q at *
  obtain⟨q1,q2⟩:=q
  refine eM t87 rfl rfl ?_
  cases q2 with
  | none =>
    simp only at h17 hcl ⊢
    simp (disch:=omega) only[t87,go_sem,aF h17,List.length_map]
    obtain⟨y6,y11,e⟩:=aWa (.iv (.str s)) (nG q1) q1 hcl (.lb [j_ 0,j_ 0]) z_ q1.length 0 u_ u_ (by omega)
    rw[List.take_zero,show iF []=[] from rfl,show TM.one i64 []=[] from rfl,fG,kQ,n0_]at e
    simp (disch:=omega) only[go_sem,e]
    simp only[TM.one,iF,sY]
  | some p =>
    simp only at h17 ⊢
    simp (disch:=omega) only[t87,go_sem,aF h17]
theorem bHs (s:List UInt8)(hl:s.length<=2000000):Pure K 79 [.iv (.str s)] (match(dK s.length s 0).2 with
      | none=>.tup [.iv (.sl (nG (dK s.length s 0).1) (TM.one i64 (iF (dK s.length s 0).1))),j_ 0]
      | some p=>.tup [k_,j_ 4]):=by
  have h18:=bHq .no s (dN.no _) hl
  have hcl:(dK s.length s 0).1.length<=2000000:=aEj s hl
  generalize dK s.length s 0=q at *
  obtain⟨q1,q2⟩:=q
  refine eM t79 rfl rfl ?_
  cases q2 with
  | none =>
    simp only at h18 hcl ⊢
    simp (disch:=omega) only[t79,go_sem,aF h18,List.length_map]
    obtain⟨y8,e⟩:=aWb (.iv (.str s)) (nG q1) q1 hcl (j_ 0) z_ q1.length 0 u_ (by omega)
    rw[List.take_zero,show iF []=[] from rfl,show TM.one i64 []=[] from rfl,fG,kQ,n0_]at e
    simp (disch:=omega) only[go_sem,e]
    simp only[TM.one,iF,sY]
  | some p =>
    simp only at h18 ⊢
    simp (disch:=omega) only[t79,go_sem,aF h18]
theorem vU {c:Bool}{x n:Nat}(h:c=true->128<=x):128<=(if c=true then(x,n)else(65533,1)).1:=by
 cases c with
 | false=>exact(by decide:128<=65533)
 | true=>exact h rfl
theorem bHt (a:UInt8)(r:List UInt8)(h:128<=a.toNat):128<=(D (a::r)).1:=by
 have ha:=bl a
 by_cases h1:a.toNat<194
 ·rw[aPh a r (.inl ⟨h,h1⟩)];decide
 by_cases h2:a.toNat<224
 ·rw[aIj a r ⟨by omega,h2⟩]
  split
  ·split
   ·simp only;omega
   ·decide
  ·decide
 by_cases h3:a.toNat<240
 ·rw[jX a r ⟨by omega,h3⟩]
  split
  ·rename_i b c t
   have hb:=bl b
   by_cases e:a.toNat=224
   ·simp only[e,↓reduceIte]
    refine vU fun hc=>?_
    simp only[Bool.and_eq_true,decide_eq_true_eq]at hc
    rw[if_neg (by decide)]at hc
    omega
   ·simp only[e,↓reduceIte]
    generalize (if a.toNat=237 then 159 else 191)=z
    exact vU fun _=>by omega
  ·decide
 by_cases h4:a.toNat<245
 ·rw[jJ a r ⟨by omega,h4⟩]
  split
  ·rename_i b c d t
   have hb:=bl b
   by_cases e:a.toNat=240
   ·simp only[e,↓reduceIte]
    refine vU fun hc=>?_
    simp only[Bool.and_eq_true,decide_eq_true_eq]at hc
    rw[if_neg (by decide)]at hc
    omega
   ·simp only[e,↓reduceIte]
    generalize (if a.toNat=244 then 143 else 191)=z
    exact vU fun _=>by omega
  ·decide
 ·rw[aPh a r (.inr (by omega))];decide
def iV (a:UInt8):Bool:=decide (48<=a.toNat∧a.toNat<=57)
theorem bKt (a:UInt8)(r:List UInt8):(iV a=true->D (a::r)=(a.toNat,1))∧(iV a=false->(D (a::r)).1<48∨57<(D (a::r)).1):=by
 unfold iV
 constructor
 ·intro h
  simp only[decide_eq_true_eq]at h
  exact tF a r (by omega)
 ·intro h
  simp only[decide_eq_false_iff_not]at h
  by_cases h1:a.toNat<128
  ·rw[tF a r h1];simp only;omega
  ·have:=bHt a r (by omega);omega
theorem aPq (c:Int)(S:aA):(lim K).call 102 [.iv (.int .i32 c)] S=.ret (.iv (.bool (decide (c<48)||decide (57<c))),S):=by
 refine aB K S (fn:=t102) rfl rfl ?_
 by_cases h1:c<48
 ·simp (disch:=omega) only[t102,go_sem,Bool.true_or]
 ·by_cases h2:57<c
  ·simp (disch:=omega) only[t102,go_sem,Bool.false_or]
  ·simp (disch:=omega) only[t102,go_sem,Bool.false_or]
theorem aBd {l:List UInt8}{i:Nat}(h:i<l.length):l.drop i=l.getD i 0::l.drop (i+1):=by
 rw[List.drop_eq_getElem_cons h,List.getD_eq_getElem?_getD,List.getElem?_eq_getElem h];rfl
theorem aPr (s:List UInt8)(hs:s.length<=2000000):∀(k i:Nat) (x3:Int) (x4 x5 x7 x8 x9:TV),i+k=s.length ->
  ∃j r y4 y5 y7 y8 y9 S',(j=.ret∧0<=r∧(s.drop i).all iV=false∨j=.exit 0∧r=x3∧(s.drop i).all iV=true) ∧
   lp' (lim K) t129L0 [.iv (.str s),.fn 102 [] [],e_,j_ x3,x4,x5,.it 0,x7,x8,x9] [.sit s i]=.ret (j,[.iv (.str s),.fn 102 [] [],e_,j_ r,y4,y5,.it 0,y7,y8,y9],S')
 | 0,i,x3,x4,x5,x7,x8,x9,h=>by
  refine⟨.exit 0,x3,?_,?_,?_,?_,?_,?_,.inr ⟨rfl,rfl,by rw[List.drop_eq_nil_of_le (by omega)];rfl⟩,aI K _ _ t129L0.eq_1 ?_⟩
  rotate_left 6
  ·simp (disch:=omega) only[go_sem]
   rfl
 | k+1,i,x3,x4,x5,x7,x8,x9,h=>by
  have hla:i<s.length:=by omega
  have hde:=aEi s i hla
  rw[aBd hla]at hde
  obtain⟨hd1,hd2⟩:=bKt (s.getD i 0) (s.drop (i+1))
  have hdr:=aBd hla
  generalize s.getD i 0=a at *
  cases hb:iV a with
  | true =>
   rw[hd1 hb]at hde
   have hb':=hb
   unfold iV at hb'
   simp only[decide_eq_true_eq]at hb'
   obtain⟨j,r,y4,y5,y7,y8,y9,S',hj,ih⟩:=aPr s hs k (i+1) x3 (j_ i) (.iv (.int .i32 a.toNat)) (.tup [e_,j_ i,.iv (.int .i32 a.toNat)]) e_ z_ (by omega)
   refine⟨j,r,y4,y5,y7,y8,y9,S',?_,aI K _ _ t129L0.eq_1 ?_⟩
   ·rw[hdr,List.all_cons,hb,Bool.true_and];exact hj
   ·simp (disch:=omega) only[go_sem,hla,hde,aPq,Bool.or_false]
    exact congrArg er ih
  | false =>
   have hb2:=hd2 hb
   generalize D (a::s.drop (i+1))=d at *
   refine⟨.ret,(i:Int),?_,?_,?_,?_,?_,?_,.inl ⟨rfl,by omega,by rw[hdr,List.all_cons,hb,Bool.false_and]⟩,aI K _ _ t129L0.eq_1 ?_⟩
   rotate_left 6
   ·have hor:(decide ((d.1:Int)<48)||decide (57<(d.1:Int)))=true:=by simp;omega
    simp (disch:=omega) only[go_sem,hla,hde,aPq,hor]
    rfl
theorem bCz (s:List UInt8)(hs:s.length<=2000000):∃r S',(0<=r↔s.all iV=false)∧(lim K).call 129 [.iv (.str s),.fn 102 [] [],e_] []=.ret (j_ r,S'):=by
 obtain⟨j,r,y4,y5,y7,y8,y9,S',hj,ih⟩:=aPr s hs s.length 0 0 u_ u_ u_ u_ u_ (by omega)
 rw[List.drop_zero]at hj
 rcases hj with⟨rfl,hr,ha⟩|⟨rfl,hr,ha⟩
 ·refine⟨r,S',by simp[hr,ha],aB K _ (fn:=t129) rfl rfl ?_⟩
  simp (disch:=omega) only[t129,go_sem]
  rw[ih]
  simp (disch:=omega) only[go_sem]
 ·refine⟨-1,S',by simp[ha],aB K _ (fn:=t129) rfl rfl ?_⟩
  simp (disch:=omega) only[t129,go_sem]
  rw[ih]
  simp (disch:=omega) only[go_sem]
theorem bC0 (s:List UInt8)(hs:s.length<=2000000):∃S',(lim K).call 101 [.iv (.str s),.fn 102 [] []] []=.ret (.iv (.bool (!s.all iV)),S'):=by
 obtain⟨r,S',hr,ih⟩:=bCz s hs
 have h171:(lim K).call 112 [.iv (.str s),.fn 102 [] []] []=.ret (j_ r,S'):=by
  refine aB K _ (fn:=t112) rfl rfl ?_
  simp (disch:=omega) only[t112,go_sem,ih]
 refine⟨S',aB K _ (fn:=t101) rfl rfl ?_⟩
 cases ha:s.all iV with
 | true =>
  have:¬0<=r:=fun h=>by rw[hr,ha]at h;cases h
  simp (disch:=omega) only[t101,go_sem,h171,Bool.not_true]
 | false =>
  have:0<=r:=hr.2 ha
  simp (disch:=omega) only[t101,go_sem,h171,Bool.not_false]
theorem bHu (c:UInt8)(r:List UInt8)(k:IntKind):aFp (.iv (.str (c::r))) (.iv (.int k 0))=some (.iv (.int .u8 c.toNat)):=by
 have:=aLi (s:=c::r) (i:=0) (kd:=k) (by simp)
 simpa using this
def mQ:List UInt8->List UInt8
 | a::r=>if a.toNat=45 then r else a::r
 | []=>[]
theorem bC1 (s:List UInt8)(hs:s.length<=2000000)(S:aA):(lim K).call 100 [.iv (.str s),.iv (.str [45])] S=.ret (.iv (.str (mQ s)),S):=by
 have h190:(lim K).call 128 [.iv (.str s),.iv (.str [45])] []=.ret (.iv (.bool (match s with|a::_=>decide (a.toNat=45)|[]=>false)),[]):=by
  refine aB K _ (fn:=t128) rfl rfl ?_
  cases s with
  | nil=>simp (disch:=omega) only[t128,go_sem,List.length_nil,List.length_cons]
  | cons a r =>
   have hl:(a::r).length=r.length+1:=rfl
   have h1:=aH1 [] (s:=a::r) (b:=((1:Nat):Int)) (by rw[hl];omega)
   rw[show(((1:Nat):Int)).toNat=1 from rfl,show(a::r).take 1=[a] from rfl]at h1
   have h2:([a]==[(45:UInt8)])=decide (a.toNat=45):=by
    rw[Bool.eq_iff_iff]
    simp only[beq_iff_eq,List.cons.injEq,and_true,decide_eq_true_eq]
    constructor
    ·rintro rfl;rfl
    ·intro h;exact UInt8.toNat_inj.1 h
   simp (disch:=omega) only[t128,go_sem,hl,List.length_nil,List.length_cons,h1,h2]
 have h170:(lim K).call 111 [.iv (.str s),.iv (.str [45])] []=.ret (.iv (.str (mQ s)),[]):=by
  refine aB K _ (fn:=t111) rfl rfl ?_
  cases s with
  | nil=>simp (disch:=omega) only[t111,go_sem,h190,mQ]
  | cons a r =>
   have hl:(a::r).length=r.length+1:=rfl
   have h1:=xF [] (s:=a::r) (a:=((1:Nat):Int)) (by rw[hl];omega)
   rw[show(((1:Nat):Int)).toNat=1 from rfl,show(a::r).drop 1=r from rfl]at h1
   by_cases ha:a.toNat=45
   ·simp (disch:=omega) only[t111,go_sem,h190,mQ,ha,List.length_nil,List.length_cons,h1]
   ·simp (disch:=omega) only[t111,go_sem,h190,mQ,ha,List.length_nil,List.length_cons,h1]
 refine aB K _ (fn:=t100) rfl rfl ?_
 simp (disch:=omega) only[t100,go_sem,h170]
theorem aWc (s:List UInt8):(mQ s).length<=s.length:=by
 cases s with
 | nil=>simp[mQ]
 | cons a r=>simp only[mQ];split<;>simp
def aLy (s:List UInt8):Bool :=
 match mQ s with
 | []=>false
 | a::r=>if a.toNat=48∧s≠[48]then false else(a::r).all iV
theorem bHv (s:List UInt8)(hs:s.length<=2000000):Pure K 85 [.iv (.str s)] (.iv (.bool (aLy s))):=by
 have h1:=bC1 s hs []
 have h2:=aWc s
 unfold aLy
 cases ht:mQ s with
 | nil =>
  rw[ht]at h1
  refine bO (S:=[]) (aB K _ (fn:=t85) rfl rfl ?_) (by rw[aT])
  simp (disch:=omega) only[t85,go_sem,h1]
 | cons a r =>
  rw[ht]at h1 h2
  obtain⟨S',h3⟩:=bC0 (a::r) (by omega)
  have h4:=bHu a r .i64
  have h5:((a::r)==([]:List UInt8))=false:=rfl
  by_cases ha:a.toNat=48
  ·by_cases hz:s=[48]
   ·have h6:(s==[(48:UInt8)])=true:=by simp[hz]
    refine bO (S:=S') (r:=.iv (.bool ((a::r).all iV))) (aB K _ (fn:=t85) rfl rfl ?_) (by rw[aT];simp[ha,hz])
    simp (disch:=omega) only[t85,go_sem,h1,h3,h4,h5,h6,ha,Bool.not_not,Bool.not_true]
   ·have h6:(s==[(48:UInt8)])=false:=by simp[hz]
    refine bO (S:=[]) (r:=z_) (aB K _ (fn:=t85) rfl rfl ?_) (by rw[aT];simp[ha,hz])
    simp (disch:=omega) only[t85,go_sem,h1,h3,h4,h5,h6,ha,Bool.not_not,Bool.not_false]
  ·refine bO (S:=S') (r:=.iv (.bool ((a::r).all iV))) (aB K _ (fn:=t85) rfl rfl ?_) (by rw[aT];simp[ha])
   simp (disch:=omega) only[t85,go_sem,h1,h3,h4,h5,Bool.not_not]
def okC (t:List UInt8):Bool:=(dK t.length t 0).2.isNone
def aEk (d:Dt):Bool :=
 if d.k=0∨d.k=8∨d.k=9∨d.k=10 then true else if d.k=1 then decide (d.n=0∨d.n=1)else if d.k=2 then aLy d.t else if d.k=3 then isC d.n
 else if d.k=4 then okC d.t else if d.k=5 then okC d.t&&!d.t.isEmpty else false
theorem aWd (s:List UInt8)(hl:s.length<=2000000):∃l,Pure K 87 [.iv (.str s)] (.tup [l,j_ (if okC s then 0 else 4)]):=by
 have h:=bHr s hl
 unfold okC
 cases hc:(dK s.length s 0).2 with
 | none=>rw[hc]at h;exact⟨_,h⟩
 | some p=>rw[hc]at h;exact⟨_,h⟩
theorem bC2 (t:List UInt8):(t==[])=t.isEmpty:=by cases t<;>rfl
theorem bHw (d:Dt)(hd:d.w<=1048576):Pure K 59 [.iv (.agg (iQ d))] (.iv (.bool (aEk d))):=by
 have hw:=Dt.w_eq d
 obtain⟨l,hc⟩:=aWd d.t (by omega)
 have h116:=bHv d.t (by omega)
 have h117:=bHi d.n
 unfold aEk
 by_cases hs:d.k=0∨d.k=8∨d.k=9∨d.k=10
 ·refine bO (S:=[]) (r:=e_) (aB K _ (fn:=t59) rfl rfl ?_) (by rw[aT];simp[hs])
  rw[dO]
  rcases hs with h|h|h|h<;>simp (disch:=omega) only[t59,go_sem]
 ·by_cases h1:d.k=1
  ·refine bO (S:=[]) (r:=.iv (.bool (decide (d.n=0∨d.n=1)))) (aB K _ (fn:=t59) rfl rfl ?_) (by rw[aT];simp[h1])
   rw[dO]
   by_cases n0:d.n=0
   ·simp (disch:=omega) only[t59,go_sem]
   ·by_cases n1:d.n=1
    ·simp (disch:=omega) only[t59,go_sem]
    ·simp (disch:=omega) only[t59,go_sem]
  ·by_cases h2:d.k=2
   ·refine bO (S:=[]) (r:=.iv (.bool (aLy d.t))) (aB K _ (fn:=t59) rfl rfl ?_) (by rw[aT];simp[h2])
    rw[dO]
    simp (disch:=omega) only[t59,go_sem,aF h116]
   ·by_cases h3:d.k=3
    ·refine bO (S:=[]) (r:=.iv (.bool (isC d.n))) (aB K _ (fn:=t59) rfl rfl ?_) (by rw[aT];simp[h3])
     rw[dO]
     simp (disch:=omega) only[t59,go_sem,h117]
    ·by_cases h4:d.k=4
     ·refine bO (S:=[]) (r:=.iv (.bool (okC d.t))) (aB K _ (fn:=t59) rfl rfl ?_) (by rw[aT];simp[h4])
      rw[dO]
      cases ho:okC d.t
      ·rw[ho]at hc
       simp (disch:=omega) only[t59,go_sem,aF hc,Bool.false_eq_true]
      ·rw[ho]at hc
       simp (disch:=omega) only[t59,go_sem,aF hc]
     ·by_cases h5:d.k=5
      ·refine bO (S:=[]) (r:=.iv (.bool (okC d.t&&!d.t.isEmpty))) (aB K _ (fn:=t59) rfl rfl ?_) (by rw[aT];simp[h5])
       rw[dO]
       cases ho:okC d.t
       ·rw[ho]at hc
        simp (disch:=omega) only[t59,go_sem,aF hc,Bool.false_eq_true,Bool.false_and]
       ·rw[ho]at hc
        simp (disch:=omega) only[t59,go_sem,aF hc,Bool.true_and,bC2]
      ·refine bO (S:=[]) (r:=z_) (aB K _ (fn:=t59) rfl rfl ?_) (by rw[aT];simp[hs,h1,h2,h3,h4,h5])
       rw[dO]
       simp (disch:=omega) only[t59,go_sem]
theorem aWe (f:Nat)(act:Dt->Bool)(g:Tag)(ks:List Dt)(hl:ks.length<=2000000)(hf:∀x∈ks,TM.Pure K f [.iv (.agg (iQ x))] (.iv (.bool (act x))))(x2:TV)(S:aA):∀(k i:Nat) (x3 x6 x7:TV),i+k=ks.length ->
  ∃j r y3 y5 y6 y7,(j=.ret∧(∃n:Int,r=j_ n∧0<=n)∧(ks.drop i).any act=true∨j=.exit 0∧r=x2∧(ks.drop i).any act=false) ∧
   lp' (lim K) t84L0 [.iv (.sl g (dW ks)),.fn f [] [],x2,x3,j_ ks.length,j_ (i:Int),x6,x7] S=.ret (j,[.iv (.sl g (dW ks)),.fn f [] [],r,y3,j_ ks.length,y5,y6,y7],S)
 | 0,i,x3,x6,x7,h=>by
  obtain rfl:i=ks.length:=by omega
  refine⟨.exit 0,x2,?_,?_,?_,?_,.inr ⟨rfl,rfl,by rw[List.drop_length];rfl⟩,aI K _ _ t84L0.eq_1 ?_⟩
  rotate_left 4
  ·simp (disch:=omega) only[go_sem]
   rfl
 | k+1,i,x3,x6,x7,h=>by
  have hla:i<ks.length:=by omega
  have hix:=ixD (g:=g) (ks:=ks) (i:=(i:Int)) (by omega)
  rw[Int.toNat_natCast]at hix
  have hdr:=fP hla
  have hc:=hf _ (gD hla)
  generalize hx:ks.getD i default=x at *
  rw[dO]at hc
  cases ha:act x with
  | true =>
   rw[ha]at hc
   refine⟨.ret,j_ (i:Int),?_,?_,?_,?_,.inl ⟨rfl,⟨_,rfl,by omega⟩,by rw[hdr,List.any_cons,ha,Bool.true_or]⟩,aI K _ _ t84L0.eq_1 ?_⟩
   rotate_left 4
   ·simp (disch:=omega) only[go_sem,hix,jV,aF hc]
    rfl
  | false =>
   rw[ha]at hc
   obtain⟨j,r,y3,y5,y6,y7,hj,ih⟩:=aWe f act g ks hl hf x2 S k (i+1) (j_ (i:Int)) e_ z_ (by omega)
   rw[show((i+1:Nat):Int)=(i:Int)+1 by omega]at ih
   refine⟨j,r,y3,y5,y6,y7,?_,aI K _ _ t84L0.eq_1 ?_⟩
   ·rw[hdr,List.any_cons,ha,Bool.false_or];exact hj
   ·simp (disch:=omega) only[go_sem,hix,jV,aF hc,aH]
    exact congrArg er ih
theorem aWf (f:Nat)(act:Dt->Bool)(g:Tag)(ks:List Dt)(hl:ks.length<=2000000)(hf:∀x∈ks,TM.Pure K f [.iv (.agg (iQ x))] (.iv (.bool (act x))))(S:aA):
  (lim K).call 57 [.iv (.sl g (dW ks)),.fn f [] []] S=.ret (.iv (.bool (ks.any act)),S):=by
 obtain⟨j,r,y3,y5,y6,y7,hj,ih⟩:=aWe f act g ks hl hf (j_ 0) S ks.length 0 u_ u_ u_ (by omega)
 rw[n0_,List.drop_zero]at *
 have h115:∃n:Int,(0<=n↔ks.any act=true)∧(lim K).call 84 [.iv (.sl g (dW ks)),.fn f [] []] S=.ret (j_ n,S):=by
  rcases hj with⟨rfl,⟨n,rfl,hn⟩,ha⟩|⟨rfl,rfl,ha⟩
  ·refine⟨n,by simp[hn,ha],aB K _ (fn:=t84) rfl rfl ?_⟩
   simp (disch:=omega) only[t84,go_sem,aK]
   rw[ih]
   simp (disch:=omega) only[go_sem]
  ·refine⟨-1,by simp[ha],aB K _ (fn:=t84) rfl rfl ?_⟩
   simp (disch:=omega) only[t84,go_sem,aK]
   rw[ih]
   simp (disch:=omega) only[go_sem]
 obtain⟨n,hn,h115⟩:=h115
 refine aB K _ (fn:=t57) rfl rfl ?_
 by_cases h0:0<=n
 ·rw[hn.1 h0]
  simp (disch:=omega) only[t57,go_sem,h115]
 ·have:ks.any act=false:=by
   cases h:ks.any act with
   | true=>exact absurd (hn.2 h) h0
   | false=>rfl
  rw[this]
  simp (disch:=omega) only[t57,go_sem,h115]
theorem bHx (d:Dt)(hd:d.w<=2000000)(S:aA):(lim K).call 56 [.iv (.agg (iQ d))] S=.ret (.iv (.bool (decide (d.k=6∧d.ks.length=2))),S):=by
 have hw:=Dt.w_eq d
 have hl:=Dt.ws_len d.ks
 refine aB K _ (fn:=t56) rfl rfl ?_
 rw[dO]
 by_cases hk:d.k=6
 ·by_cases h2:d.ks.length=2
  ·have:((d.ks.length:Int)==2)=true:=by simp[h2]
   simp (disch:=omega) only[t56,go_sem,aK]
  ·simp (disch:=omega) only[t56,go_sem,aK]
 ·simp (disch:=omega) only[t56,go_sem,aK]
mutual
def gC:Dt->Bool
 | .mk k n t g ks p=>if k=6∧ks.length=2 then aRd ks else if k=7 then aRd ks else ks.isEmpty&&aEk (.mk k n t g ks p)
def aRd:List Dt->Bool
 | []=>true
 | d::ds=>gC d&&aRd ds
end
theorem aIo:∀ks:List Dt,aRd ks=ks.all gC
 | []=>by rw[aRd];rfl
 | d::ds=>by rw[aRd,aIo ds];rfl
theorem aAs (d:Dt):gC d=if d.k=6∧d.ks.length=2 then d.ks.all gC else if d.k=7 then d.ks.all gC else d.ks.isEmpty&&aEk d:=by
 cases d;rw[gC,aIo];rfl
abbrev aWg (d:Dt):TV:=.lb [.iv (.int .i64 d.k),.iv (.int .i64 d.n),.iv (.str d.t),.iv (.sl d.g (dW d.ks)),.iv (.int .i64 d.p)]
theorem aLz {d:Dt}(h:d.ks.length=2):∃a b,d.ks=[a,b]:=by
 cases hk:d.ks with
 | nil=>rw[hk]at h;simp at h
 | cons a r =>
  cases r with
  | nil=>rw[hk]at h;simp at h
  | cons b r =>
   cases r with
   | nil=>exact⟨a,b,rfl⟩
   | cons c r=>rw[hk]at h;simp at h
theorem ix0 (g:Tag)(a b:Dt):indexAddrS 5 (.iv (.sl g (dW [a,b]))) 0=some (.iv (.cp (iQ a))):=ixD (g:=g) (ks:=[a,b]) (i:=0) (by simp)
theorem ix1 (g:Tag)(a b:Dt):indexAddrS 5 (.iv (.sl g (dW [a,b]))) 1=some (.iv (.cp (iQ b))):=ixD (g:=g) (ks:=[a,b]) (i:=1) (by simp)
theorem aWh (M:Nat)(hM:M<=1048576)(ih:∀d:Dt,d.w<=M->TM.Pure K 34 [.iv (.agg (iQ d))] (.iv (.bool (gC d))))(x0:TV)(S:aA):∀(N:Nat),N<=M+1->∀(d:Dt) (x2 x3 x4 x5:TV),d.w<=N ->
  ∃j d' r y3 y4,(j=.ret∧r=z_∧gC d=false∨j=.exit 0∧r=x2∧gC d'=gC d∧d'.w<=d.w∧¬(d'.k=6∧d'.ks.length=2)) ∧
   lp' (lim K) t34L0 [x0,aWg d,x2,x3,x4,x5] S=.ret (j,[x0,aWg d',r,y3,y4,x5],S)
 | 0,hN,d,x2,x3,x4,x5,hd=>by have:=Dt.w_eq d;omega
 | N+1,hN,d,x2,x3,x4,x5,hd=>by
  have hw:=Dt.w_eq d
  have hp:=bHx d (by omega) S
  rw[dO]at hp
  by_cases h2:d.k=6∧d.ks.length=2
  ·obtain⟨a,b,hk⟩:=aLz h2.2
   have hab:a.w+b.w+1<=d.w:=by rw[hw,hk,Dt.ws,Dt.ws,Dt.ws];omega
   have ha:=ih a (by omega)
   rw[dO]at ha
   have hm:gC d=(gC a&&gC b):=by rw[aAs d,if_pos h2,hk];simp
   have i0:=ix0 d.g a b
   have i1:=ix1 d.g a b
   rw[<-hk]at i0 i1
   rw[bJv h2]at hp
   cases hma:gC a with
   | false =>
    rw[hma]at ha
    refine⟨.ret,d,z_,?_,?_,.inl ⟨rfl,rfl,by rw[hm,hma,Bool.false_and]⟩,aI K _ _ t34L0.eq_1 ?_⟩
    rotate_left 2
    ·simp (disch:=omega) only[go_sem,hp,i0,jV,aF ha]
     rfl
   | true =>
    rw[hma]at ha
    obtain⟨j,d',r,y3,y4,hj,ih2⟩:=aWh M hM ih x0 S N (by omega) b x2 e_ z_ x5 (by omega)
    refine⟨j,d',r,y3,y4,?_,aI K _ _ t34L0.eq_1 ?_⟩
    ·rw[hm,hma,Bool.true_and]
     rcases hj with h|⟨h1,h2,h3,h4,h5⟩
     ·exact .inl h
     ·exact .inr ⟨h1,h2,h3,by omega,h5⟩
    ·simp (disch:=omega) only[go_sem,hp,i0,i1,jV,aF ha]
     exact congrArg er ih2
  ·rw[bJw h2]at hp
   refine⟨.exit 0,d,x2,?_,?_,.inr ⟨rfl,rfl,rfl,Nat.le_refl _,h2⟩,aI K _ _ t34L0.eq_1 ?_⟩
   rotate_left 2
   ·simp (disch:=omega) only[go_sem,hp]
    rfl
theorem aF7 (ks:List Dt)(f:Dt->Bool):(!(ks.any fun x=>!f x))=ks.all f:=by
 induction ks with
 | nil=>rfl
 | cons a r ih=>simp only[List.any_cons,List.all_cons,Bool.not_or,Bool.not_not,ih]
theorem aWi:∀(N:Nat),N<=1048576->∀d:Dt,d.w<=N->TM.Pure K 34 [.iv (.agg (iQ d))] (.iv (.bool (gC d)))
 | 0,hN,d,hd=>by have:=Dt.w_eq d;omega
 | N+1,hN,d,hd=>by
  have ih:=aWi N (by omega)
  obtain⟨j,d',r,y3,y4,hj,hl⟩:=aWh N (by omega) ih (.iv (.agg (iQ d))) [] (N+1) (by omega) d z_ u_ u_ u_ hd
  rcases hj with⟨rfl,rfl,hm⟩|⟨rfl,rfl,hm,hw',hn⟩
  ·refine bO (S:=[]) (r:=z_) (aB K _ (fn:=t34) rfl rfl ?_) (by rw[aT,hm])
   rw[dO]at hl ⊢
   simp (disch:=omega) only[t34,go_sem]
   rw[hl]
   simp (disch:=omega) only[go_sem]
  ·have hwd:=Dt.w_eq d'
   have hwl:=Dt.ws_len d'.ks
   have h84:∀x∈d'.ks,TM.Pure K 58 [.iv (.agg (iQ x))] (.iv (.bool (!gC x))):=by
    intro x hx
    have hc:=ih x (by have:=Dt.kid_lt hx;omega)
    refine bO (S:=[]) (r:=.iv (.bool (!gC x))) (aB K _ (fn:=t58) rfl rfl ?_) (by rw[aT])
    rw[dO]at hc ⊢
    simp (disch:=omega) only[t58,go_sem,aF hc]
   have h83:=aWf 58 (fun x=>!gC x) d'.g d'.ks (by omega) h84 []
   have h85:=bHw d' (by omega)
   rw[dO]at h85
   refine bO (S:=[]) (r:=.iv (.bool (gC d'))) (aB K _ (fn:=t34) rfl rfl ?_) (by rw[aT,hm])
   rw[dO]at hl ⊢
   rw[aAs d',if_neg hn]
   simp (disch:=omega) only[t34,go_sem]
   rw[hl]
   by_cases h7:d'.k=7
   ·rw[if_pos h7]
    simp (disch:=omega) only[go_sem,h83,aF7]
   ·rw[if_neg h7]
    by_cases he:d'.ks.length=0
    ·have:d'.ks.isEmpty=true:=by rw[List.isEmpty_iff];exact List.eq_nil_of_length_eq_zero he
     have e0:((d'.ks.length:Int)==0)=true:=by simp[he]
     simp (disch:=omega) only[go_sem,aK,e0,aF h85,this,Bool.true_and]
    ·have:d'.ks.isEmpty=false:=by
      cases hk:d'.ks with
      | nil=>rw[hk]at he;exact absurd rfl he
      | cons a r=>rfl
     simp (disch:=omega) only[go_sem,aK,this,Bool.false_and]
mutual
def plF:Dt->Bool
 | .mk k n t g ks p=>!decide (k=5∧n≠0)&&pls ks
def pls:List Dt->Bool
 | []=>true
 | d::ds=>plF d&&pls ds
end
theorem aPs:∀ks:List Dt,pls ks=ks.all plF
 | []=>by rw[pls];rfl
 | d::ds=>by rw[pls,aPs ds];rfl
theorem aL0 (d:Dt):plF d=(!decide (d.k=5∧d.n≠0)&&d.ks.all plF):=by
 cases d;rw[plF,aPs];rfl
theorem aWj (M:Nat)(hM:M<=1048576)(ih:∀d:Dt,d.w<=M->TM.Pure K 35 [.iv (.agg (iQ d))] (.iv (.bool (plF d))))(x0:TV)(S:aA):∀(N:Nat),N<=M+1->∀(d:Dt) (x2 x3 x4 x5:TV),d.w<=N ->
  ∃j d' r y3 y4,(j=.ret∧r=z_∧plF d=false∨j=.exit 0∧r=x2∧plF d'=plF d∧d'.w<=d.w) ∧
   lp' (lim K) t35L0 [x0,aWg d,x2,x3,x4,x5] S=.ret (j,[x0,aWg d',r,y3,y4,x5],S)
 | 0,hN,d,x2,x3,x4,x5,hd=>by have:=Dt.w_eq d;omega
 | N+1,hN,d,x2,x3,x4,x5,hd=>by
  have hw:=Dt.w_eq d
  have hl:=Dt.ws_len d.ks
  by_cases h2:d.k=6∧d.ks.length=2
  ·obtain⟨a,b,hk⟩:=aLz h2.2
   have hab:a.w+b.w+1<=d.w:=by rw[hw,hk,Dt.ws,Dt.ws,Dt.ws];omega
   have ha:=ih a (by omega)
   rw[dO]at ha
   have hm:plF d=(plF a&&plF b):=by rw[aL0 d,hk];simp[h2.1]
   have i0:=ix0 d.g a b
   have i1:=ix1 d.g a b
   rw[<-hk]at i0 i1
   have h6:=h2.1
   have hl2:((d.ks.length:Int)==2)=true:=by simp[h2.2]
   cases hma:plF a with
   | false =>
    rw[hma]at ha
    refine⟨.ret,d,z_,?_,?_,.inl ⟨rfl,rfl,by rw[hm,hma,Bool.false_and]⟩,aI K _ _ t35L0.eq_1 ?_⟩
    rotate_left 2
    ·simp (disch:=omega) only[go_sem,aK,hl2,i0,jV,aF ha]
     rfl
   | true =>
    rw[hma]at ha
    obtain⟨j,d',r,y3,y4,hj,ih2⟩:=aWj M hM ih x0 S N (by omega) b x2 e_ z_ x5 (by omega)
    refine⟨j,d',r,y3,y4,?_,aI K _ _ t35L0.eq_1 ?_⟩
    ·rw[hm,hma,Bool.true_and]
     rcases hj with h|⟨h1,h2,h3,h4⟩
     ·exact .inl h
     ·exact .inr ⟨h1,h2,h3,by omega⟩
    ·simp (disch:=omega) only[go_sem,aK,hl2,i0,i1,jV,aF ha]
     exact congrArg er ih2
  ·refine⟨.exit 0,d,x2,?_,?_,.inr ⟨rfl,rfl,rfl,Nat.le_refl _⟩,aI K _ _ t35L0.eq_1 ?_⟩
   rotate_left 2
   ·by_cases h6:d.k=6
    ·have hl2:((d.ks.length:Int)==2)=false:=by
      have:d.ks.length≠2:=fun e=>h2 ⟨h6,e⟩
      simp;omega
     simp (disch:=omega) only[go_sem,aK,hl2]
     rfl
    ·simp (disch:=omega) only[go_sem,aK]
     first|done|rfl
theorem aWk:∀(N:Nat),N<=1048576->∀d:Dt,d.w<=N->TM.Pure K 35 [.iv (.agg (iQ d))] (.iv (.bool (plF d)))
 | 0,hN,d,hd=>by have:=Dt.w_eq d;omega
 | N+1,hN,d,hd=>by
  have ih:=aWk N (by omega)
  obtain⟨j,d',r,y3,y4,hj,hl⟩:=aWj N (by omega) ih (.iv (.agg (iQ d))) [] (N+1) (by omega) d z_ u_ u_ u_ hd
  rcases hj with⟨rfl,rfl,hm⟩|⟨rfl,rfl,hm,hw'⟩
  ·refine bO (S:=[]) (r:=z_) (aB K _ (fn:=t35) rfl rfl ?_) (by rw[aT,hm])
   rw[dO]at hl ⊢
   simp (disch:=omega) only[t35,go_sem]
   rw[hl]
   simp (disch:=omega) only[go_sem]
  ·have hwd:=Dt.w_eq d'
   have hwl:=Dt.ws_len d'.ks
   have h86:∀x∈d'.ks,TM.Pure K 60 [.iv (.agg (iQ x))] (.iv (.bool (!plF x))):=by
    intro x hx
    have hc:=ih x (by have:=Dt.kid_lt hx;omega)
    refine bO (S:=[]) (r:=.iv (.bool (!plF x))) (aB K _ (fn:=t60) rfl rfl ?_) (by rw[aT])
    rw[dO]at hc ⊢
    simp (disch:=omega) only[t60,go_sem,aF hc]
   have h83:=aWf 60 (fun x=>!plF x) d'.g d'.ks (by omega) h86 []
   refine bO (S:=[]) (r:=.iv (.bool (plF d'))) (aB K _ (fn:=t35) rfl rfl ?_) (by rw[aT,hm])
   rw[dO]at hl ⊢
   rw[aL0 d']
   simp (disch:=omega) only[t35,go_sem]
   rw[hl]
   by_cases h5:d'.k=5
   ·by_cases h0:d'.n=0
    ·have:decide (d'.k=5∧d'.n≠0)=false:=by simp[h0]
     simp (disch:=omega) only[go_sem,h83,aF7,this,Bool.not_false,Bool.true_and]
    ·have:decide (d'.k=5∧d'.n≠0)=true:=by simp[h0,h5]
     simp (disch:=omega) only[go_sem,this,Bool.not_true,Bool.false_and]
   ·have:decide (d'.k=5∧d'.n≠0)=false:=by simp[h5]
    simp (disch:=omega) only[go_sem,h83,aF7,this,Bool.not_false,Bool.true_and]
def oJ:List Int:=[2,1,2,1,1,2,2,1,2,2,2,2,2,2,2,1,1,1,1,2,1,2,3,1,1,1,1,2,1,2,3,1,2,1,2,3,1,0,1,1,0,0]
def pY:List (List UInt8):=[[101,113,63],[112,97,105,114,63],[99,111,110,115],[99,97,114],[99,100,114],[115,101,116,45,99,97,114,33],[115,101,116,45,99,100,114,33],[105,110,116,101,103,101,114,63],[37,43],[37,45],[37,42],[113,117,111,116,105,101,110,116],[114,101,109,97,105,110,100,101,114],[37,61],[37,60],[99,104,97,114,63],[99,104,97,114,45,62,105,110,116,101,103,101,114],[105,110,116,101,103,101,114,45,62,99,104,97,114],[115,116,114,105,110,103,63],[109,97,107,101,45,115,116,114,105,110,103],[115,116,114,105,110,103,45,108,101,110,103,116,104],[115,116,114,105,110,103,45,114,101,102],[115,116,114,105,110,103,45,115,101,116,33],[115,121,109,98,111,108,63],[115,121,109,98,111,108,45,62,115,116,114,105,110,103],[115,116,114,105,110,103,45,62,115,121,109,98,111,108],[118,101,99,116,111,114,63],[109,97,107,101,45,118,101,99,116,111,114],[118,101,99,116,111,114,45,108,101,110,103,116,104],[118,101,99,116,111,114,45,114,101,102],[118,101,99,116,111,114,45,115,101,116,33],[98,121,116,101,118,101,99,116,111,114,63],[109,97,107,101,45,98,121,116,101,118,101,99,116,111,114],[98,121,116,101,118,101,99,116,111,114,45,108,101,110,103,116,104],[98,121,116,101,118,101,99,116,111,114,45,117,56,45,114,101,102],[98,121,116,101,118,101,99,116,111,114,45,117,56,45,115,101,116,33],[112,114,111,99,101,100,117,114,101,63],[114,101,97,100,45,117,56],[119,114,105,116,101,45,117,56],[37,104,97,108,116],[101,111,102,45,111,98,106,101,99,116],[37,110,111,110,101]]
def mR (n:Int):Int:=if 0<=n∧n<42 then oJ.getD n.toNat 0 else -1
theorem aIp {α:Type}(f:α->TV)(d:α){l:List α}{k:Nat}(h:k<l.length):sub (l.map f) k 1=some [f (l.getD k d)]:=by
 have e:k+1<=(l.map f).length:=by rw[List.length_map];omega
 simp only[sub,e,↓reduceIte]
 rw[List.drop_eq_getElem_cons (by rw[List.length_map];omega)]
 simp[List.getD,List.getElem?_eq_getElem h]
theorem aL1 (n:Int)(S:aA):(lim K).call 92 [j_ n] S=.ret (j_ (mR n),S):=by
 refine aB K _ (fn:=t92) rfl rfl ?_
 unfold mR
 by_cases h:0<=n∧n<42
 ·rw[if_pos h]
  have hs:=aIp (fun a=>TV.iv (.int .i64 a)) 0 (l:=oJ) (k:=0+n.toNat*1) (by rw[show oJ.length=42 from rfl];omega)
  rw[show oJ.getD (0+n.toNat*1) 0=oJ.getD n.toNat 0 by congr 1;omega]at hs
  generalize oJ.getD n.toNat 0=r at *
  simp only[oJ,List.map_cons,List.map_nil]at hs
  simp (disch:=omega) only[t92,go_sem,hs]
 ·rw[if_neg h]
  by_cases h0:n<0
  ·simp (disch:=omega) only[t92,go_sem]
  ·simp (disch:=omega) only[t92,go_sem]
def aWl (n:Int):List UInt8:=if 0<=n∧n<42 then pY.getD n.toNat []else []
theorem bC3 (n:Int)(S:aA):(lim K).call 105 [j_ n] S=.ret (.iv (.str (aWl n)),S):=by
 refine aB K _ (fn:=t105) rfl rfl ?_
 unfold aWl
 by_cases h:0<=n∧n<42
 ·rw[if_pos h]
  have hs:=aIp (fun a=>TV.iv (.str a)) [] (l:=pY) (k:=0+n.toNat*1) (by rw[show pY.length=42 from rfl];omega)
  rw[show pY.getD (0+n.toNat*1) []=pY.getD n.toNat [] by congr 1;omega]at hs
  generalize pY.getD n.toNat []=r at *
  simp only[pY,List.map_cons,List.map_nil]at hs
  simp (disch:=omega) only[t105,go_sem,hs]
 ·rw[if_neg h]
  by_cases h0:n<0
  ·simp (disch:=omega) only[t105,go_sem]
  ·simp (disch:=omega) only[t105,go_sem]
structure FM (S:aA) (ia im:Nat) (A:Int->Int) (B:List Int) (m:Nat):Prop where
 ne:ia≠im
 cnt:∃l c,S[ia]? = some (.mp (mpR oC l) c)∧∀v,xI l v=A v
 map:∃l c,S[im]? = some (.mp (mpR oC l) c)∧bB6 l c∧l.length<=m∧∀v,xH l v=true↔v∈B
mutual
def fr:Ex->List Int
 | .mk k n gv vs r g ks=>(if k=2∨k=4 then [n]else [])++(frs ks).filter fun v=>!decide (k=7∧v∈vs)
def frs:List Ex->List Int
 | []=>[]
 | d::ds=>fr d++frs ds
end
theorem bMe (a b:Int):TM.minmax true (.int .i64 a) [j_ b]=some (.int .i64 (if a<b then b else a)):=by simp[TM.minmax,min2]
theorem bMf (a b:Int):TM.minmax false (.int .i64 a) [j_ b]=some (.int .i64 (if b<a then b else a)):=by simp[TM.minmax,min2]
attribute [go_sem] bMe bMf
structure Shp where
 num:Bool
 kids:Int
 more:Bool
 word:List UInt8
 is:Bool
def bKu (n:Int):List UInt8:=if n=0 then [99,97,108,108,47,99,99]else if n=1 then [97,112,112,108,121]else [99,97,108,108,45,119,105,116,104,45,118,97,108,117,101,115]
def ofF (k n:Int):Shp :=
 if k=1 then⟨true,0,false,[99],true⟩else if k=2 then⟨true,0,false,[118],true⟩else if k=3 then⟨true,0,false,[103],true⟩
 else if k=4 then⟨true,1,false,[115,101,116,33,32,118],true⟩else if k=5 then⟨true,1,false,[115,101,116,33,32,103],true⟩
 else if k=6 then⟨false,3,false,[105,102],true⟩else if k=7 then⟨false,1,false,[108,97,109,98,100,97],true⟩else if k=8 then⟨false,1,true,[99,97,108,108],true⟩
 else if k=9 then⟨true,if 0<mR n then mR n else 0,false,aWl n,decide (0<=mR n)⟩else if k=10 then⟨false,1,true,[98,101,103,105,110],true⟩
 else if k=11 then(if n<0∨2<n then⟨false,0,false,[],false⟩else⟨true,if 2<n+1 then 2 else n+1,false,bKu n,true⟩)
 else if k=12 then⟨false,1,false,[98,111,120],true⟩else if k=13 then⟨false,1,false,[117,110,98,111,120],true⟩else if k=14 then⟨false,2,false,[115,101,116,45,98,111,120,33],true⟩
 else⟨false,0,false,[],false⟩
def aWm (s:Shp):TV:=.tup [.iv (.agg [.bool s.num,.int .i64 s.kids,.bool s.more,.str s.word]),.iv (.bool s.is)]
theorem aL2 (e:Ex)(S:aA):(lim K).call 88 [.iv (.agg (cD e))] S=.ret (aWm (ofF e.k e.n),S):=by
 refine aB K _ (fn:=t88) rfl rfl ?_
 rw[aL]
 unfold ofF aWm
 by_cases h1:e.k=1
 ·rw[if_pos h1];simp (disch:=omega) only[t88,go_sem]
 rw[if_neg h1]
 by_cases h2:e.k=2
 ·rw[if_pos h2];simp (disch:=omega) only[t88,go_sem]
 rw[if_neg h2]
 by_cases h3:e.k=3
 ·rw[if_pos h3];simp (disch:=omega) only[t88,go_sem]
 rw[if_neg h3]
 by_cases h4:e.k=4
 ·rw[if_pos h4];simp (disch:=omega) only[t88,go_sem]
 rw[if_neg h4]
 by_cases h5:e.k=5
 ·rw[if_pos h5];simp (disch:=omega) only[t88,go_sem]
 rw[if_neg h5]
 by_cases h6:e.k=6
 ·rw[if_pos h6];simp (disch:=omega) only[t88,go_sem]
 rw[if_neg h6]
 by_cases h7:e.k=7
 ·rw[if_pos h7];simp (disch:=omega) only[t88,go_sem]
 rw[if_neg h7]
 by_cases h8:e.k=8
 ·rw[if_pos h8];simp (disch:=omega) only[t88,go_sem]
 rw[if_neg h8]
 by_cases h9:e.k=9
 ·rw[if_pos h9];simp (disch:=omega) only[t88,go_sem,aL1,bC3]
 rw[if_neg h9]
 by_cases h10:e.k=10
 ·rw[if_pos h10];simp (disch:=omega) only[t88,go_sem]
 rw[if_neg h10]
 by_cases h11:e.k=11
 ·rw[if_pos h11]
  by_cases hn:e.n<0∨2<e.n
  ·rw[if_pos hn]
   rcases hn with hn|hn<;>simp (disch:=omega) only[t88,go_sem]
  ·rw[if_neg hn]
   have hc:e.n=0∨e.n=1∨e.n=2:=by omega
   rcases hc with hc|hc|hc<;>rw[hc]<;>simp (disch:=omega) only[t88,go_sem,aH,bKu,List.map_cons,List.map_nil]
 rw[if_neg h11]
 by_cases h12:e.k=12
 ·rw[if_pos h12];simp (disch:=omega) only[t88,go_sem]
 rw[if_neg h12]
 by_cases h13:e.k=13
 ·rw[if_pos h13];simp (disch:=omega) only[t88,go_sem]
 rw[if_neg h13]
 by_cases h14:e.k=14
 ·rw[if_pos h14];simp (disch:=omega) only[t88,go_sem]
 rw[if_neg h14]
 simp (disch:=omega) only[t88,go_sem]
theorem aF8 (n m:Int)(S:aA):(lim K).call 89 [j_ n,j_ m] S=.ret (.iv (.bool (decide (0<=n∧n<m))),S):=by
 refine aB K _ (fn:=t89) rfl rfl ?_
 by_cases h0:0<=n
 ·by_cases h1:n<m
  ·simp (disch:=omega) only[t89,go_sem]
  ·simp (disch:=omega) only[t89,go_sem]
 ·simp (disch:=omega) only[t89,go_sem]
theorem aPt (f:Nat)(act:Int->Bool)(a b c d:Nat)(g:Tag)(l:List Int)(hl:l.length<=2000000)(S:aA)(hf:∀x∈l,(lim K).call f [j_ x,.ptr a b 0,.ptr c d 0] S=.ret (.iv (.bool (act x)),S))(x2:TV):∀(k i:Nat) (x3 x6 x7:TV),i+k=l.length ->
  ∃j r y3 y5 y6 y7,(j=.ret∧(∃n:Int,r=j_ n∧0<=n)∧(l.drop i).any act=true∨j=.exit 0∧r=x2∧(l.drop i).any act=false) ∧
   lp' (lim K) t106L0 [.iv (.sl g (TM.one (.int .i64) l)),.fn f [] [.ptr a b 0,.ptr c d 0],x2,x3,j_ l.length,j_ (i:Int),x6,x7] S=.ret (j,[.iv (.sl g (TM.one (.int .i64) l)),.fn f [] [.ptr a b 0,.ptr c d 0],r,y3,j_ l.length,y5,y6,y7],S)
 | 0,i,x3,x6,x7,h=>by
  obtain rfl:i=l.length:=by omega
  refine⟨.exit 0,x2,?_,?_,?_,?_,.inr ⟨rfl,rfl,by rw[List.drop_length];rfl⟩,aI K _ _ t106L0.eq_1 ?_⟩
  rotate_left 4
  ·simp (disch:=omega) only[go_sem]
   rfl
 | k+1,i,x3,x6,x7,h=>by
  have hla:i<l.length:=by omega
  have hix:=sU (f:=IV.int .i64) (t:=g) (l:=l) (i:=(i:Int)) (by omega)
  rw[Int.toNat_natCast]at hix
  have hdr:=fP hla
  have hc:=hf _ (gD hla)
  generalize hx:l.getD i default=x at *
  cases ha:act x with
  | true =>
   rw[ha]at hc
   refine⟨.ret,j_ (i:Int),?_,?_,?_,?_,.inl ⟨rfl,⟨_,rfl,by omega⟩,by rw[hdr,List.any_cons,ha,Bool.true_or]⟩,aI K _ _ t106L0.eq_1 ?_⟩
   rotate_left 4
   ·simp (disch:=omega) only[go_sem,hix,hc]
    rfl
  | false =>
   rw[ha]at hc
   obtain⟨j,r,y3,y5,y6,y7,hj,ih⟩:=aPt f act a b c d g l hl S hf x2 k (i+1) (j_ (i:Int)) e_ z_ (by omega)
   rw[show((i+1:Nat):Int)=(i:Int)+1 by omega]at ih
   refine⟨j,r,y3,y5,y6,y7,?_,aI K _ _ t106L0.eq_1 ?_⟩
   ·rw[hdr,List.any_cons,ha,Bool.false_or];exact hj
   ·simp (disch:=omega) only[go_sem,hix,hc,aH]
    exact congrArg er ih
theorem aL3 (f:Nat)(act:Int->Bool)(a b c d:Nat)(g:Tag)(l:List Int)(hl:l.length<=2000000)(S:aA)(hf:∀x∈l,(lim K).call f [j_ x,.ptr a b 0,.ptr c d 0] S=.ret (.iv (.bool (act x)),S)):
  (lim K).call 90 [.iv (.sl g (TM.one (.int .i64) l)),.fn f [] [.ptr a b 0,.ptr c d 0]] S=.ret (.iv (.bool (l.any act)),S):=by
 obtain⟨j,r,y3,y5,y6,y7,hj,ih⟩:=aPt f act a b c d g l hl S hf (j_ 0) l.length 0 u_ u_ u_ (by omega)
 rw[n0_,List.drop_zero]at *
 have h153:∃n:Int,(0<=n↔l.any act=true)∧(lim K).call 106 [.iv (.sl g (TM.one (.int .i64) l)),.fn f [] [.ptr a b 0,.ptr c d 0]] S=.ret (j_ n,S):=by
  rcases hj with⟨rfl,⟨n,rfl,hn⟩,ha⟩|⟨rfl,rfl,ha⟩
  ·refine⟨n,by simp[hn,ha],aB K _ (fn:=t106) rfl rfl ?_⟩
   simp (disch:=omega) only[t106,go_sem]
   rw[ih]
   simp (disch:=omega) only[go_sem]
  ·refine⟨-1,by simp[ha],aB K _ (fn:=t106) rfl rfl ?_⟩
   simp (disch:=omega) only[t106,go_sem]
   rw[ih]
   simp (disch:=omega) only[go_sem]
 obtain⟨n,hn,h153⟩:=h153
 refine aB K _ (fn:=t90) rfl rfl ?_
 by_cases h0:0<=n
 ·rw[hn.1 h0]
  simp (disch:=omega) only[t90,go_sem,h153]
 ·have:l.any act=false:=by
   cases h:l.any act with
   | true=>exact absurd (hn.2 h) h0
   | false=>rfl
  rw[this]
  simp (disch:=omega) only[t90,go_sem,h153]
abbrev fT (p:Pg):List TV:=[.iv (.int .i64 p.b.k),.iv (.int .i64 p.b.n),.iv (.sl p.b.gv (TM.one (.int .i64) p.b.vs)),.iv (.bool p.b.r),.iv (.sl p.b.g (bW p.b.ks)),.iv (.int .i64 p.gl),.iv (.int .i64 p.vr),.iv (.sl p.gc (dW p.cs))]
abbrev ckB (p:Pg) (ib ik ir:Nat):aP:=.cells 89 false (fT p++[.map ib,.map ik,.map ir])
theorem aL4 (p:Pg)(ib ik ir ic jb jf:Nat)(v:Int)(S:aA)(hc:S[ic]? = some (ckB p ib ik ir))(hb:S[jb]? = some (.cells 86 false [.ptr ic 89 0]))(hf:S[jf]? = some (.cells 154 false [.fn 89 [] []])):
  (lim K).call 91 [j_ v,.ptr jf 154 0,.ptr jb 86 0] S=.ret (.iv (.bool (!decide (0<=v∧v<p.vr))),S):=by
 refine aB K _ (fn:=t91) rfl rfl ?_
 simp (disch:=omega) only[t91,go_sem,hc,hb,hf,aF8]
def aF9 (e:Ex):Bool :=
 let s:=ofF e.k e.n
 !s.is||decide ((e.ks.length:Int)<s.kids)||(decide (s.kids<e.ks.length)&&!s.more)||(!s.num&&decide (e.n≠0))||(decide (e.k≠7)&&(decide (0<e.vs.length)||e.r))||(e.r&&decide (e.vs.length=0))
def aAc (p:Pg)(e:Ex):Bool :=
 if e.k=1 then decide (0<=e.n∧e.n<p.cs.length)else if e.k=2∨e.k=4 then decide (0<=e.n∧e.n<p.vr)else if e.k=3∨e.k=5 then decide (0<=e.n∧e.n<p.gl)
 else e.vs.all fun v=>decide (0<=v∧v<p.vr)
def mX (p:Pg)(e:Ex):Bool:=!aF9 e&&aAc p e
theorem bD (l:List Int)(f:Int->Bool):(!(l.any fun x=>!f x))=l.all f:=by
 induction l with
 | nil=>rfl
 | cons a r ih=>simp only[List.any_cons,List.all_cons,Bool.not_or,Bool.not_not,ih]
theorem iG (S:aA)(b b':aP):(S++[b]).set S.length b'=S++[b']:=by simp
def aL5 (p:Pg)(ib ik ir ic:Nat)(e:Ex)(S:aA)(b:Bool):Prop:=∃S',(lim K).call 61 [.ptr ic 89 0,.iv (.agg (cD e))] S=.ret (.iv (.bool b),S')∧aJ [] S S'
def rN:List Int->List Int->Option (List Int)
 | [],B=>some B
 | v::r,B=>if v∈B then none else rN r (v::B)
mutual
def chk (p:Pg):Ex->Nat->List Int->List Int->List Int->Int×List Int×List Int
 | .mk k n gv vs r g ks,depth,B,C,A =>
  if 4000<=depth then(5,B,C)else if mX p (.mk k n gv vs r g ks)=false then(4,B,C)else
  match rN vs B with
  | none=>(14,B,C)
  | some B1 =>
   if k=1∧n∈C then(14,B,C)else
   if(k=2∨k=4)∧n∉vs++A then(6,B,C)else
   jK p ks (depth+1) B1 (if k=1 then n::C else C) (vs++A)
def jK (p:Pg):List Ex->Nat->List Int->List Int->List Int->Int×List Int×List Int
 | [],_,B,C,_=>(0,B,C)
 | e::es,depth,B,C,A =>
  match chk p e depth B C A with
  | (f,B1,C1)=>if f=0 then jK p es depth B1 C1 A else(f,B1,C1)
end
theorem aWn (p:Pg)(e:Ex)(depth:Nat)(B C A:List Int):chk p e depth B C A=if 4000<=depth then(5,B,C)else if mX p e=false then(4,B,C)else
  match rN e.vs B with
  | none=>(14,B,C)
  | some B1 =>
   if e.k=1∧e.n∈C then(14,B,C)else
   if(e.k=2∨e.k=4)∧e.n∉e.vs++A then(6,B,C)else
   jK p e.ks (depth+1) B1 (if e.k=1 then e.n::C else C) (e.vs++A):=by
 cases e;rw[chk];rfl
def iH (S:aA)(i:Nat)(B:List Int):Prop:=∃l c,S[i]? = some (.mp (mpR oC l) c)∧∀v,xI l v=if v∈B then 1 else 0
theorem iH.congr {S:aA}{i:Nat}{B B':List Int}(h:iH S i B)(hb:∀v,v∈B↔v∈B'):iH S i B':=by
 obtain⟨l,c,h1,h2⟩:=h
 refine⟨l,c,h1,fun v=>?_⟩
 rw[h2 v]
 by_cases hv:v∈B
 ·rw[if_pos hv,if_pos ((hb v).1 hv)]
 ·rw[if_neg hv,if_neg (fun h=>hv ((hb v).2 h))]
theorem iH.put {S:aA}{i:Nat}{B:List Int}{l:List (Nat×Int×Int)}{c:Nat}(h1:S[i]? = some (.mp (mpR oC l) c))(h2:∀v,xI l v=if v∈B then 1 else 0)(k:Int):
  iH (S.set i (.mp (mpR oC (rF l c k 1)) (aEf l c k))) i (k::B):=by
 refine⟨_,_,bQ (aO h1) _,fun v=>?_⟩
 rw[aLn]
 by_cases e:k=v
 ·subst e;simp
 ·simp[e,h2 v,Ne.symm e]
theorem iH.del {S:aA}{i:Nat}{B B':List Int}{l:List (Nat×Int×Int)}{c:Nat}(h1:S[i]? = some (.mp (mpR oC l) c))(h2:∀v,xI l v=if v∈B then 1 else 0)(k:Int)(hb:∀v,v∈B'↔v∈B∧v≠k):
  iH (S.set i (.mp (mpR oC (rF l c k 0)) (aEf l c k))) i B':=by
 refine⟨_,_,bQ (aO h1) _,fun v=>?_⟩
 rw[aLn]
 by_cases e:k=v
 ·subst e
  have:k∉B':=fun h=>((hb k).1 h).2 rfl
  simp[this]
 ·rw[if_neg e,h2 v]
  by_cases hv:v∈B
  ·rw[if_pos hv,if_pos ((hb v).2 ⟨hv,Ne.symm e⟩)]
  ·rw[if_neg hv,if_neg (fun h=>hv ((hb v).1 h).1)]
theorem iH.keep {S S':aA}{i:Nat}{B:List Int}(h:iH S i B)(k:S'[i]? = S[i]?):iH S' i B:=by
 obtain⟨l,c,h1,h2⟩:=h
 exact⟨l,c,k.trans h1,h2⟩
structure CkS (p:Pg) (ic ib ik ir:Nat) (S:aA) (B C A:List Int):Prop where
 cb:ic≠ib
 ck:ic≠ik
 cr:ic≠ir
 bk:ib≠ik
 br:ib≠ir
 kr:ik≠ir
 at':S[ic]? = some (ckB p ib ik ir)
 b:iH S ib B
 c:iH S ik C
 a:iH S ir A
 sub:∀v∈A,v∈B
theorem CkS.keep {p:Pg}{ic ib ik ir:Nat}{S S':aA}{B C A:List Int}(h:CkS p ic ib ik ir S B C A)(k:aJ [] S S'):CkS p ic ib ik ir S' B C A:=by
 obtain⟨lb,cb,b1,b2⟩:=h.b
 obtain⟨lk,ck,k1,k2⟩:=h.c
 obtain⟨la,ca,a1,a2⟩:=h.a
 exact⟨h.cb,h.ck,h.cr,h.bk,h.br,h.kr,k.get _ _ (by simp) h.at',⟨lb,cb,k.get _ _ (by simp) b1,b2⟩,⟨lk,ck,k.get _ _ (by simp) k1,k2⟩,⟨la,ca,k.get _ _ (by simp) a1,a2⟩,h.sub⟩
theorem CkS.congrA {p:Pg}{ic ib ik ir:Nat}{S:aA}{B C A A':List Int}(h:CkS p ic ib ik ir S B C A)(ha:∀v,v∈A↔v∈A'):CkS p ic ib ik ir S B C A' :=
 ⟨h.cb,h.ck,h.cr,h.bk,h.br,h.kr,h.at',h.b,h.c,h.a.congr ha,fun v hv=>h.sub v ((ha v).2 hv)⟩
theorem CkS.putV {p:Pg}{ic ib ik ir:Nat}{S:aA}{B C A:List Int}(h:CkS p ic ib ik ir S B C A){lb:List (Nat×Int×Int)}{cb:Nat}(b1:S[ib]? = some (.mp (mpR oC lb) cb))(b2:∀v,xI lb v=if v∈B then 1 else 0)
  {la:List (Nat×Int×Int)} {ca:Nat} (a1:S[ir]? = some (.mp (mpR oC la) ca)) (a2:∀v,xI la v=if v∈A then 1 else 0) (k:Int):
  CkS p ic ib ik ir ((S.set ib (.mp (mpR oC (rF lb cb k 1)) (aEf lb cb k))).set ir (.mp (mpR oC (rF la ca k 1)) (aEf la ca k))) (k::B) C (k::A):=by
 have hbr:=h.br
 have hkr:=h.kr
 have hbk:=h.bk
 refine⟨h.cb,h.ck,h.cr,h.bk,h.br,h.kr,?_,?_,?_,?_,?_⟩
 ·rw[aU (Ne.symm h.cr),aU (Ne.symm h.cb)];exact h.at'
 ·exact(iH.put b1 b2 k).keep (aU (Ne.symm hbr) _)
 ·exact h.c.keep (by rw[aU (Ne.symm hkr),aU hbk])
 ·exact iH.put (by rw[aU hbr];exact a1) a2 k
 ·intro v hv
  rcases List.mem_cons.1 hv with rfl|hv
  ·simp
  ·exact List.mem_cons_of_mem _ (h.sub v hv)
theorem aPu (p:Pg)(ic ib ik ir:Nat)(e:Ex)(hw:e.w<=1048576)(C:List Int)(x1 x2 x3 x4 x6 x7 x8 x9 x10 x16 x17 x18 x19 x20 x21 x22 x23 x24 x25 x26 x27:TV):∀(k i:Nat) (x5 x14 x15:TV) (S:aA) (B A:List Int),i+k=e.vs.length->CkS p ic ib ik ir S B C A ->
  ∃j r y5 y13 y14 y15 S',(j=.ret∧r=j_ 14∧rN (e.vs.drop i) B=none∨j=.exit 1∧r=x4∧∃B1,rN (e.vs.drop i) B=some B1∧CkS p ic ib ik ir S' B1 C ((e.vs.drop i).reverse++A))∧aJ [ib,ik,ir] S S' ∧
   lp' (lim K) t36L2 [.ptr ic 89 0,x1,x2,x3,x4,x5,x6,x7,x8,x9,x10,.iv (.sl e.gv (TM.one (.int .i64) e.vs)),j_ e.vs.length,j_ (i:Int),x14,x15,x16,x17,x18,x19,x20,x21,x22,x23,x24,x25,x26,x27] S
    = .ret (j,[.ptr ic 89 0,x1,x2,x3,r,y5,x6,x7,x8,x9,x10,.iv (.sl e.gv (TM.one (.int .i64) e.vs)),j_ e.vs.length,y13,y14,y15,x16,x17,x18,x19,x20,x21,x22,x23,x24,x25,x26,x27],S')
 | 0,i,x5,x14,x15,S,B,A,h,hs=>by
  obtain rfl:i=e.vs.length:=by omega
  refine⟨.exit 1,x4,?_,?_,?_,?_,S,.inr ⟨rfl,rfl,B,by rw[List.drop_length];rfl,by rw[List.drop_length];exact hs⟩,.refl _ _,aI K _ _ t36L2.eq_1 ?_⟩
  rotate_left 4
  ·simp (disch:=omega) only[go_sem]
   rfl
 | k+1,i,x5,x14,x15,S,B,A,h,hs=>by
  have hwe:=Ex.w_eq e
  have hla:i<e.vs.length:=by omega
  have hix:=sU (f:=IV.int .i64) (t:=e.gv) (l:=e.vs) (i:=(i:Int)) (by omega)
  rw[Int.toNat_natCast]at hix
  have hdr:=fP hla
  obtain⟨lb,cb,b1,b2⟩:=hs.b
  obtain⟨la,ca,a1,a2⟩:=hs.a
  have hat:=hs.at'
  have n1:=hs.cb
  have n2:=hs.ck
  have n3:=hs.cr
  have n4:=hs.bk
  have n5:=hs.br
  have n6:=hs.kr
  generalize hx:e.vs.getD i default=x at *
  have b2x:=b2 x
  by_cases hm:x∈B
  ·rw[if_pos hm]at b2x
   refine⟨.ret,j_ 14,?_,?_,?_,?_,S,.inl ⟨rfl,rfl,by rw[hdr,rN,if_pos hm]⟩,.refl _ _,aI K _ _ t36L2.eq_1 ?_⟩
   rotate_left 4
   ·simp (disch:=omega) only[go_sem,hix,hat,b1,b2x]
    rfl
  ·rw[if_neg hm]at b2x
   obtain⟨j,r,y5,y13,y14,y15,S',hj,hk,ih⟩:=aPu p ic ib ik ir e hw C x1 x2 x3 x4 x6 x7 x8 x9 x10 x16 x17 x18 x19 x20 x21 x22 x23 x24 x25 x26 x27 k (i+1) (j_ x) e_ z_ _ _ _ (by omega) (hs.putV b1 b2 a1 a2 x)
   rw[show((i+1:Nat):Int)=(i:Int)+1 by omega]at ih
   refine⟨j,r,y5,y13,y14,y15,S',?_,((aJ.set S (by simp) _).trans (aJ.set _ (by simp) _)).trans hk,aI K _ _ t36L2.eq_1 ?_⟩
   ·rw[hdr,rN,if_neg hm,List.reverse_cons,List.append_assoc]
    exact hj
   ·simp (disch:=omega) only[go_sem,hix,hat,b1,b2x,a1,aU,aH]
    exact congrArg er ih
end Go.Proofs.YtageemgcnoblnaaDoor
