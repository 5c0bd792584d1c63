/- Some texts of the proof, joined. Condition: none. -/
import Derived.Test.YtageemgcnoblnaaDoorJd
import Derived.Test.YtageemgcnoblnaaDoorJa
import Derived.Test.YtageemgcnoblnaaDoorJb
import Derived.Test.YtageemgcnoblnaaDoorJc
set_option maxRecDepth 100000
set_option maxHeartbeats 64000000
set_option linter.unusedSimpArgs false
set_option linter.unusedVariables false
namespace Go.Proofs.YtageemgcnoblnaaDoor
open Go Go.TM
theorem aMd {S:aA}{jm jf:Nat}{ρ:Mk}(hM:MkC S jm jf ρ)(hn:ρ.fs.length<1000000)(hv:ρ.nv+1<4611686018427387904)(r c:Bool)(d0 d1 d2 d3 d4:Int)(d5:Tag)(f5:M_)(d6:Tag)(f6:M_):
  ∃S4 S5 S6 S7,(lim K).call 28 [.ptr jm 78 0] (S++[bS])=.ret (j_ ρ.nv,S4)∧(lim K).call 30 [.ptr jm 78 0,.iv (.sl .full [[.int .i64 ρ.nv]]),.iv (.bool r),.iv (.bool c),.iv (.agg [.int .i64 d0,.int .i64 d1,.int .i64 d2,.int .i64 d3,.int .i64 d4,.sl d5 f5,.sl d6 f6])] S4=.ret (j_ ρ.fs.length,S5) ∧
   (lim K).call 29 [.ptr jm 78 0,j_ ρ.fs.length] S5=.ret (.iv (.agg (oD (ρ.nv+1) ρ.fs.length)),S6)∧S6[S.length]? = some bS∧S6.set S.length (bM (ρ.nv+1) ρ.fs.length)=S7∧S7[S.length]? = some (bM (ρ.nv+1) ρ.fs.length) ∧
   MkC S7 jm jf (ρ.var.push [.sl .full [[.int .i64 ρ.nv]],.bool r,.bool c,.sl .nil [],.int .i64 d0,.int .i64 d1,.int .i64 d2,.int .i64 d3,.int .i64 d4,.sl d5 f5,.sl d6 f6]).var∧aJ [jm,jf] S S7:=by
 have j1:jm<S.length∧jf<S.length:=⟨aO hM.own,aO hM.row⟩
 have hM1:=hM.keep (I:=[]) (aJ.app [] S [bS]) (by simp) (by simp)
 have c28:=rL hM1
 have hM4:=hM1.var (by omega)
 have k4:=aJ.set (I:=[jm,jf]) (S++[bS]) (by simp:jm∈[jm,jf]) (mkC jf ρ.var)
 obtain⟨S5,c30,hM5,k5⟩:=aF1 hM4 hn .full [[.int .i64 ρ.nv]] r c d0 d1 d2 d3 d4 d5 f5 d6 f6
 have c29:=aA8 hM5 (ρ.fs.length)
 rw[show(ρ.var.push [.sl .full [[.int .i64 ρ.nv]],.bool r,.bool c,.sl .nil [],.int .i64 d0,.int .i64 d1,.int .i64 d2,.int .i64 d3,.int .i64 d4,.sl d5 f5,.sl d6 f6]).nv=ρ.nv+1 from rfl]at c29
 have hM6:=hM5.var (by show ρ.nv+1<_;omega)
 have k456:=(k4.trans k5).trans (aJ.set S5 (by simp:jm∈[jm,jf]) (mkC jf (ρ.var.push [.sl .full [[.int .i64 ρ.nv]],.bool r,.bool c,.sl .nil [],.int .i64 d0,.int .i64 d1,.int .i64 d2,.int .i64 d3,.int .i64 d4,.sl d5 f5,.sl d6 f6]).var))
 have k6:=(aJ.app [jm,jf] S [bS]).trans k456
 have z6:=k456.get S.length bS (by simp;omega) (by simp)
 refine⟨_,S5,_,_,c28,c30,c29,z6,rfl,bQ (aO z6) _,⟨by rw[aU (by omega)];exact hM6.own,by rw[aU (by omega)];exact hM6.row,hM6.ne,hM6.wid,hM6.ok⟩,?_⟩
 refine⟨by rw[List.length_set];exact k6.len,fun i b hi hb=>?_⟩
 rw[aU (by have:=aO hb;omega)]
 exact k6.get _ _ hi hb
theorem bK2 {b0:Int}{n:Nat}(hb0:0<=b0∧b0<=1152921504606846976)(hC:∀m,m<=n->mT b0 m)(hVs:∀m,m<=n->kE b0 m):∀(N:Nat) {e:Ex} {k0 k1:Int} {σ ρ:Mk} {x:List IV×Mk} {S:aA} {jm jf:Nat} (hk:e.k=10) (hN:e.ks.length<=N) (hx:jT n e.ks [.int .i64 k0,.int .i64 k1] σ=some x) (ho:XO e) (hb:b0<=σ.nv) (hB:Bd b0 x.2) (hR:RM σ ρ) (hM:MkC S jm jf ρ),
  ∃t ρ' S',(lim K).call 31 [.ptr jm 78 0,.iv (.agg (cD e)),.iv (.agg [.int .i64 k0,.int .i64 k1])] S=.ret (.iv (.agg t),S')∧RT x.1 t∧RM x.2 ρ'∧MkC S' jm jf ρ'∧aJ [jm,jf] S S'
 | 0,e,k0,k1,σ,ρ,x,S,jm,jf,hk,hN,hx,ho,hb,hB,hR,hM=>aW8 hb0 hC hVs hk (by omega) hx ho hb hB hR hM
 | N+1,e,k0,k1,σ,ρ,x,S,jm,jf,hk,hN,hx,ho,hb,hB,hR,hM=>by
  by_cases hlen:e.ks.length<=64
  ·exact aW8 hb0 hC hVs hk hlen hx ho hb hB hR hM
  cases n with
  | zero=>rw[jT]at hx;cases hx
  | succ n =>
   obtain⟨q,y,z,hy,hq,hz,hw⟩:=aW6 (by omega) hx
   have hlE:=aG e.ks
   have hok:=(Ex.ok_eq e).1 ho.1
   have hot:=hok.2.2.2.2.1
   have hXd:∀a∈e.ks.drop 64,XO a:=fun a ha=>ho.kid (List.mem_of_mem_drop ha)
   have hXt:∀a∈e.ks.take 64,XO a:=fun a ha=>ho.kid (List.mem_of_mem_take ha)
   have hwd:Ex.ws (e.ks.drop 64)<=Ex.ws e.ks:=by
    have:∀(a b:List Ex),Ex.ws (a++b)=Ex.ws a+Ex.ws b:=fun a b=>by
     induction a with
     | nil=>rw[List.nil_append,Ex.ws,Nat.zero_add]
     | cons c a ih=>rw[List.cons_append,Ex.ws,Ex.ws,ih];omega
    have h2:=this (e.ks.take 64) (e.ks.drop 64)
    rw[List.take_append_drop]at h2
    omega
   have hod:XO (.mk e.k e.n e.gv e.vs e.r e.g (e.ks.drop 64)):=by
    refine⟨(Ex.ok_eq _).2 ⟨hok.1,hok.2.1,hok.2.2.1,hok.2.2.2.1,fun h=>?_,fun a ha=>hok.2.2.2.2.2 a (List.mem_of_mem_drop ha)⟩,?_⟩
    ·show e.ks.drop 64=[]
     rw[hot h];rfl
    ·have h1:=ho.2
     rw[Ex.w_eq]at h1 ⊢
     show e.vs.length+Ex.ws (e.ks.drop 64)+1<=_
     omega
   have l1:=(mono _).sq hy
   have l2:Le y.2 (y.2.var.push (fnF .full [y.2.nv] true true y.1)).var:=((Le.var _).trans (Le.push _ _)).trans (Le.var _)
   have l3:=(mono _).values hz
   have l4:=(mono _).laid hw
   have hB4:=hB.le l4
   have hB3:=hB4.le l3
   have hB2:=hB3.le l2
   obtain⟨t1,ρ1,S1,c31,hT1,hR1,hM1,k1'⟩:=bK2 hb0 hC hVs N (e:=.mk e.k e.n e.gv e.vs e.r e.g (e.ks.drop 64)) hk (by show(e.ks.drop 64).length<=N;rw[List.length_drop];omega) hy hod hb hB2 hR hM
   obtain⟨d0,d1,d2,d3,d4,d5,d6,f5,f6,rfl⟩:=hT1.o
   have hvn:=hR1.nv
   have hfl:=hR1.len
   have hv3:y.2.nv+2<=b0+1000000:=by have h2:=hB3.hi;have h3:(y.2.var.push (fnF .full [y.2.nv] true true y.1)).var.nv=y.2.nv+1+1:=rfl;omega
   have hf3:y.2.fs.length+1<=1000000:=by have h2:=hB3.fs;simp only[Mk.var,Mk.push,List.length_append,List.length_singleton]at h2;omega
   obtain⟨S4,S5,S6,S7,c28,c30,c29,z6,e7,z7,hM7,k7⟩:=aMd hM1 (by omega) (by omega) true true d0 d1 d2 d3 d4 d5 f5 d6 f6
   have hR7:=((hR1.var).push (RF.mk .full .full [y.2.nv] true true hT1)).var
   rw[hvn]at hR7
   have hz':=hz
   rw[hvn]at hz'
   obtain⟨s1,s2,s3,s4⟩:=(cW _).values hz hXt
   obtain⟨js,ja,l,ρ8,S8,c55,hrs,g1,g2,hd,hR8,hM8,k8⟩:=hVs q (by omega) (g:=lL e.g (bW e.ks).length ((64:Int).toNat)) hz' hXt (by rw[List.length_take];omega) (by
    have:=l1.nv
    show b0<=y.2.nv+1+1
    omega) hB4 hR7 hM7
   have z8:=k8.get S1.length _ (by
    have:=aO hM1.own;have:=aO hM1.row;simp;omega) z7
   have hfn:(y.2.fs.length:Int)=(ρ1.fs.length:Int)+1:=by omega
   have hrs8:RSs (St.tm (bX (y.2.nv+1) y.2.fs.length (.sl .nil [])) (y.2.nv+1)::z.1) (.tm (bX (ρ1.nv+1) ρ1.fs.length (.sl .nil [])) (ρ1.nv+1)::l):=by
    rw[hvn,hfn]
    exact .cons (RSt.fn _ _) hrs
   have hso8:∀s∈St.tm (bX (y.2.nv+1) y.2.fs.length (.sl .nil [])) (y.2.nv+1)::z.1,SO s:=fun s hs=>by
    rcases List.mem_cons.1 hs with rfl|hs
    ·exact TmO.fun ..
    ·exact s2 s hs
   have hb8:b0<=z.2.2.nv:=by
    have:=l1.nv;have:=l2.nv;have:=l3.nv
    omega
   have hsd:=fun S=>aDh S (w:=5) (t:=e.g) (l:=bW e.ks) (a:=64) (bIb hot) (aW7 _) (by rw[hlE];omega)
   have hst:=fun S=>aLg S (w:=5) (t:=e.g) (l:=bW e.ks) (b:=64) (bIb hot) (aW7 _) (by rw[hlE];omega)
   rw[aMc,show(64:Int).toNat=64 from rfl]at hsd
   rw[aBm,show(64:Int).toNat=64 from rfl,hlE]at hst
   rw[show(64:Int).toNat=64 from rfl,hlE]at c55
   have c32:=mK (ρ1.nv+1)
   have hlL:∀s∈l,SO s:=hrs.o s2
   have hys:cJ (.tm (bX (ρ1.nv+1) ρ1.fs.length (.sl .nil [])) (ρ1.nv+1)::l)=oD (ρ1.nv+1) ρ1.fs.length::cJ l:=rfl
   have hEd:cD (.mk e.k e.n e.gv e.vs e.r e.g (e.ks.drop 64))=[.int .i64 e.k,.int .i64 e.n,.sl e.gv (TM.one (.int .i64) e.vs),.bool e.r,.sl e.g (bW (e.ks.drop 64))]:=rfl
   rw[hEd,hk]at c31
   have hs3:(z.1.length:Int)+(y.2.nv+1+1)<=z.2.2.nv:=s3
   have hl1n:=l1.nv
   by_cases hl0:l=[]
   ·subst hl0
    rw[show acc js (cJ [])=k_ from fG js]at c55
    have ap:∀S,bY false 14 176 79 S (.iv (.sl .full [oD (ρ1.nv+1) ρ1.fs.length])) k_=some (.iv (.sl .full [oD (ρ1.nv+1) ρ1.fs.length]),S):=fun S=>sX rfl (hP.sl ..)
    obtain⟨t2,ρ9,S9,c33,hT,hR9,hM9,k9⟩:=kX hb0 hC _ _ q _ _ _ _ x S8 (.iv (.sl .full (cJ (.tm (bX (ρ1.nv+1) ρ1.fs.length (.sl .nil [])) (ρ1.nv+1)::[])))) (by omega) hw (.inl ⟨_,(fun h=>by cases h),rfl⟩) hrs8 (RT.call .full .full _) hso8 hb8 hB hR8 hM8
    obtain⟨m0,m1,m2,m3,m4,m5,m6,q5,q6,rfl⟩:=hT.o
    refine⟨_,ρ9,S9,aB K _ (fn:=t31) rfl rfl ?_,hT,hR9,hM9,((k1'.trans k7).trans k8).trans k9⟩
    rw[show cJ (.tm (bX (ρ1.nv+1) ρ1.fs.length (.sl .nil [])) (ρ1.nv+1)::[])=[oD (ρ1.nv+1) ρ1.fs.length] from rfl]at c33
    rw[hvn]at c33
    unfold cU aV at c33
    unfold bS at *
    unfold bM at *
    unfold oD at *
    rw[aL]
    clear hT hR9 hM9 k8 k9 hR1 hM1 hrs g1 g2 hd hM8 hM7 hR8 hrs8 hso8 k7 k1' hR7 hT1
    generalize bW (e.ks.drop 64)=ED at *
    generalize bW (e.ks.take 64)=ET at *
    simp (disch:=omega) only[t31,go_sem,hlE,hk,hsd,hst,c31,c28,c30,c29,z6,e7,z7,c55,z8,ap,aF c32,c33]
   ·have hYl:cJ l≠[]:=fun h=>hl0 (List.map_eq_nil_iff.1 h)
    have hap:∀S:aA,bY false 14 176 79 S (.iv (.sl .full [oD (ρ1.nv+1) ρ1.fs.length])) (acc js (cJ l))=some (.tsl S.length (oD (ρ1.nv+1) ρ1.fs.length::cJ l),S++[.tok ((cJ l).length+1) 14 79]):=fun S=>by
     have:=qV (S:=S) (w:=14) (b:=176) (el:=79) (t:=.full) (l:=[oD (ρ1.nv+1) ρ1.fs.length]) (by decide) ((SR.acc js (cJ l)).el S) (nR hlL) (by intro y hy;rw[List.mem_singleton]at hy;subst hy;exact⟨rfl,rfl⟩) hYl (cI (by rw[nK,<-hrs.len];have:=hB4.hi;simp only[List.length_singleton];omega))
     rw[this]
     simp
     omega
    have hM8':=hM8.keep (I:=[]) (aJ.app [] S8 [.tok ((cJ l).length+1) 14 79]) (by simp) (by simp)
    have z9:=iP z8 [.tok ((cJ l).length+1) 14 79]
    obtain⟨t2,ρ9,S9,c33,hT,hR9,hM9,k9⟩:=kX hb0 hC _ _ q _ _ _ _ x _ (.tsl S8.length (cJ (.tm (bX (ρ1.nv+1) ρ1.fs.length (.sl .nil [])) (ρ1.nv+1)::l))) (by omega) hw (.inr ⟨_,rfl⟩) hrs8 (RT.call .full .full _) hso8 hb8 hB hR8 hM8'
    obtain⟨m0,m1,m2,m3,m4,m5,m6,q5,q6,rfl⟩:=hT.o
    refine⟨_,ρ9,S9,aB K _ (fn:=t31) rfl rfl ?_,hT,hR9,hM9,(((k1'.trans k7).trans k8).trans (aJ.app _ _ _)).trans k9⟩
    rw[hys]at c33
    rw[hvn]at c33
    rw[dE js hYl]at c55 hap
    unfold cU aV at c33
    unfold bS at *
    unfold bM at *
    unfold oD at *
    rw[aL]
    clear hT hR9 hM9 k8 k9 hR1 hM1 hrs g1 g2 hd hM8 hM7 hR8 hrs8 hso8 k7 k1' hR7 hT1 hM8' hlL
    generalize bW (e.ks.drop 64)=ED at *
    generalize bW (e.ks.take 64)=ET at *
    generalize cJ l=YL at *
    simp (disch:=omega) only[t31,go_sem,hlE,hk,hsd,hst,c31,c28,c30,c29,z6,e7,z7,c55,z8,hap,z9,aF c32,c33]
theorem aMe {b0:Int}{n:Nat}(hb0:0<=b0∧b0<=1152921504606846976)(hC:∀m,m<=n->mT b0 m)(hV:∀m,m<=n->uZ b0 m)(hVs:∀m,m<=n->kE b0 m):mT b0 (n+1):=by
 intro e k0 k1 σ ρ x S jm jf hx ho hb hB hR hM
 rw[dR]at hx
 by_cases h8:e.k=8
 ·rw[if_pos h8]at hx
  obtain⟨y,hy,hx⟩:=b_ hx
  split at hx
  ·cases hx
  ·rename_i a rr ha
   exact bDd hb0 hC (hVs n (Nat.le_refl _)) h8 hy ha hx ho hb hB hR hM
 rw[if_neg h8]at hx
 by_cases h6:e.k=6
 ·rw[if_pos h6]at hx
  split at hx
  ·rename_i c p q r hks
   obtain⟨y,hy,hx⟩:=b_ hx
   obtain⟨u,hu,hx⟩:=b_ hx
   obtain⟨v,hv,hx⟩:=b_ hx
   exact bDe hb0 hC (hV n (Nat.le_refl _)) h6 hks hy hu hv hx ho hb hB hR hM
  ·cases hx
 rw[if_neg h6]at hx
 by_cases h10:e.k=10
 ·rw[if_pos h10]at hx
  exact bK2 hb0 hC hVs e.ks.length h10 (Nat.le_refl _) hx ho hb hB hR hM
 rw[if_neg h10]at hx
 by_cases h11:e.k=11
 ·rw[if_pos h11]at hx
  cases n with
  | zero=>rw[nO]at hx;cases hx
  | succ n =>
   rw[nO]at hx
   obtain⟨y,hy,hx⟩:=b_ hx
   have hC':∀m,m<=n->mT b0 m:=fun m hm=>hC m (by omega)
   by_cases q1:e.n=1
   ·rw[if_pos q1]at hx
    split at hx
    ·rename_i a b rr ha
     exact aRj hb0 hC' (hVs n (by omega)) h11 q1 hy ha hx ho hb hB hR hM
    ·cases hx
   rw[if_neg q1]at hx
   by_cases q0:e.n=0
   ·rw[if_pos q0]at hx
    split at hx
    ·rename_i a rr ha
     exact aRk hb0 hC' (hVs n (by omega)) h11 q0 hy ha hx ho hb hB hR hM
    ·cases hx
   rw[if_neg q0]at hx
   split at hx
   ·rename_i a b rr ha
    exact aRl hb0 hC' (hVs n (by omega)) h11 ⟨q0,q1⟩ hy ha hx ho hb hB hR hM
   ·cases hx
 rw[if_neg h11]at hx
 obtain⟨y,hy,hx⟩:=b_ hx
 exact bDc hb0 hC (hV n (Nat.le_refl _)) ⟨h8,h6,h10,h11⟩ hy hx ho hb hB hR hM
structure bMl (b0:Int) (n:Nat):Prop where
 v:uZ b0 n
 vs:kE b0 n
 c:mT b0 n
theorem bDf {b0:Int}(hb0:0<=b0∧b0<=1152921504606846976):∀(N n:Nat),n<=N->bMl b0 n
 | 0,n,h=>by
  obtain rfl:n=0:=by omega
  exact⟨fun h=>by simp[dQ]at h,fun h=>by simp[bP]at h,fun h=>by simp[dR]at h⟩
 | N+1,n,h=>by
  by_cases hn:n<=N
  ·exact bDf hb0 N n hn
  obtain rfl:n=N+1:=by omega
  have ih:=bDf hb0 N
  exact⟨aIu hb0 (fun m hm=>(ih m hm).c) (ih N (Nat.le_refl _)).vs,aGh fun m hm=>(ih m hm).v,aMe hb0 (fun m hm=>(ih m hm).c) (fun m hm=>(ih m hm).v) (fun m hm=>(ih m hm).vs)⟩
mutual
def bxF:Ex->Bool
 | .mk k n gv vs r g ks=>(decide (12<=k)&&decide (k<=14))||bK3 ks
def bK3:List Ex->Bool
 | []=>false
 | e::es=>bxF e||bK3 es
end
theorem aW9 (t:Tag)(l:List Int)(n:Int)(hl:l.length<=1000000000)(S:aA):∀(k i:Nat) (x4 x5:TV),i+k=l.length ->
  ∃j b y3 y4 y5,(j=.ret∧b=true∧n∈l.drop i∨j=.exit 0∧b=false∧n∉l.drop i) ∧
   lp' (lim K) t83L0 [.iv (.sl t (TM.one (.int .i64) l)),j_ n,z_,j_ (i:Int),x4,x5] S=.ret (j,[.iv (.sl t (TM.one (.int .i64) l)),j_ n,.iv (.bool b),y3,y4,y5],S)
 | 0,i,x4,x5,h=>by
  refine⟨.exit 0,false,?_,?_,?_,.inr ⟨rfl,rfl,by rw[List.drop_eq_nil_of_le (by omega)];simp⟩,aI K _ _ t83L0.eq_1 ?_⟩
  rotate_left 3
  ·simp (disch:=omega) only[go_sem]
   rfl
 | k+1,i,x4,x5,h=>by
  have hla:i<l.length:=by omega
  have hix:=sU (f:=IV.int .i64) (t:=t) (l:=l) (i:=(i:Int)) (by omega)
  rw[Int.toNat_natCast]at hix
  have hdr:=fP hla
  by_cases hn:l.getD i default=n
  ·refine⟨.ret,true,?_,?_,?_,.inl ⟨rfl,rfl,by rw[hdr,hn];simp⟩,aI K _ _ t83L0.eq_1 ?_⟩
   rotate_left 3
   ·simp (disch:=omega) only[go_sem,hix,hn]
    rfl
  ·obtain⟨j,b,y3,y4,y5,hj,ih⟩:=aW9 t l n hl S k (i+1) e_ z_ (by omega)
   rw[show((i+1:Nat):Int)=(i:Int)+1 by omega]at ih
   refine⟨j,b,y3,y4,y5,?_,aI K _ _ t83L0.eq_1 ?_⟩
   ·rw[hdr]
    simp only[List.mem_cons,Ne.symm hn,false_or]
    exact hj
   ·simp (disch:=omega) only[go_sem,hix,hn,aH]
    exact congrArg er ih
theorem aMf (t:Tag)(l:List Int)(n:Int)(hl:l.length<=1000000000)(S:aA):(lim K).call 83 [.iv (.sl t (TM.one (.int .i64) l)),j_ n] S=.ret (.iv (.bool (decide (n∈l))),S):=by
 obtain⟨j,b,y3,y4,y5,hj,ih⟩:=aW9 t l n hl S l.length 0 u_ u_ (by omega)
 rw[n0_,List.drop_zero]at *
 refine aB K _ (fn:=t83) rfl rfl ?_
 simp (disch:=omega) only[t83,go_sem]
 rw[ih]
 rcases hj with⟨rfl,rfl,hm⟩|⟨rfl,rfl,hm⟩
 ·simp (disch:=omega) only[go_sem,hm]
 ·simp (disch:=omega) only[go_sem,hm]
def Dt.pr (d:Dt):Bool:=decide (d.k=6)&&decide (d.ks.length=2)
mutual
def same:Dt->Dt->Bool
 | .mk k n t _ ks _,.mk k' n' t' _ ks' _=>decide (k=k')&&((decide (k=6)&&decide (ks.length=2))||(decide (n=n')&&decide (t=t')))&&aEu ks ks'
def aEu:List Dt->List Dt->Bool
 | [],[]=>true
 | d::ds,e::es=>same d e&&aEu ds es
 | [],_::_=>false
 | _::_,[]=>false
end
theorem aP7 (a b:Dt):same a b=(decide (a.k=b.k)&&(a.pr||(decide (a.n=b.n)&&decide (a.t=b.t)))&&aEu a.ks b.ks):=by
 cases a;cases b;rw[same];rfl
abbrev lbD (d:Dt):TV:=.lb [.iv (.int .i64 d.k),.iv (.int .i64 d.n),.iv (.str d.t),.iv (.sl d.g (dW d.ks)),.iv (.int .i64 d.p)]
abbrev agD (d:Dt):TV:=.iv (.agg [.int .i64 d.k,.int .i64 d.n,.str d.t,.sl d.g (dW d.ks),.int .i64 d.p])
mutual
def eqE:Ex->Ex->Bool
 | .mk k n _ vs r _ ks,.mk k' n' _ vs' r' _ ks'=>decide (k=k')&&decide (n=n')&&(r==r')&&decide (vs=vs')&&aXa ks ks'
def aXa:List Ex->List Ex->Bool
 | [],[]=>true
 | d::ds,e::es=>eqE d e&&aXa ds es
 | [],_::_=>false
 | _::_,[]=>false
end
def fL:Nat->Dt->List Dt×Dt
 | 0,d=>([],d)
 | n+1,d=>if d.pr then(d.ks.getD 0 default::(fL n (d.ks.getD 1 default)).1,(fL n (d.ks.getD 1 default)).2)else([],d)
theorem aBn {d:Dt}(h:d.pr=true):d.ks.length=2:=by
 simp only[Dt.pr,Bool.and_eq_true,decide_eq_true_eq]at h;exact h.2
theorem aBo:∀(n:Nat) (d:Dt),d.w<=n->(fL n d).2.pr=false∧(fL n d).2.w<=d.w
 | 0,d,h=>by have:=Dt.w_eq d;omega
 | n+1,d,h=>by
  rw[fL]
  split
  ·rename_i hp
   have h2:=aBn hp
   have m1:=Dt.kid_lt (gD (l:=d.ks) (i:=1) (by omega))
   have ih:=aBo n (d.ks.getD 1 default) (by omega)
   exact⟨ih.1,Nat.le_trans ih.2 (by omega)⟩
  ·rename_i hp
   exact⟨by simpa using hp,Nat.le_refl _⟩
theorem aEv:∀(n:Nat) (d:Dt),∀x∈(fL n d).1,x.w<d.w
 | 0,d,x,h=>by simp[fL]at h
 | n+1,d,x,h=>by
  rw[fL]at h
  split at h
  ·rename_i hp
   have h2:=aBn hp
   have m0:=Dt.kid_lt (gD (l:=d.ks) (i:=0) (by omega))
   have m1:=Dt.kid_lt (gD (l:=d.ks) (i:=1) (by omega))
   rcases List.mem_cons.1 h with rfl|h
   ·exact m0
   ·have:=aEv n _ x h;omega
  ·simp at h
theorem aEw:∀(n:Nat) (d:Dt),(fL n d).1.length<=d.w
 | 0,d=>by simp[fL]
 | n+1,d=>by
  rw[fL]
  split
  ·rename_i hp
   have h2:=aBn hp
   have m1:=Dt.kid_lt (gD (l:=d.ks) (i:=1) (by omega))
   have:=aEw n (d.ks.getD 1 default)
   rw[List.length_cons];omega
  ·simp
theorem aP8 (d:Dt):(iQ d).length=5∧(iQ d).all fY=true:=by rw[dO];exact⟨rfl,rfl⟩
theorem aXb (x0 x2 x3:TV):∀(n:Nat) (d:Dt) (done:List Dt) (x5:TV),d.w<=n->done.length+d.w<=1048576 ->
  ∃x5' S',lp' (lim K) t78L0 [x0,lbD d,x2,x3,acc 0 (done.map iQ),x5] (qW 5 51 (done.map iQ))=.ret (.exit 0,[x0,lbD (fL n d).2,x2,x3,acc 0 ((done++(fL n d).1).map iQ),x5'],S')
 | 0,d,done,x5,h,hl=>by have:=Dt.w_eq d;omega
 | n+1,d,done,x5,h,hl=>by
  by_cases hp:d.pr=true
  ·have h2:=aBn hp
   have h6:d.k=6:=by simp only[Dt.pr,Bool.and_eq_true,decide_eq_true_eq]at hp;exact hp.1
   have m0:=Dt.kid_lt (gD (l:=d.ks) (i:=0) (by omega))
   have m1:=Dt.kid_lt (gD (l:=d.ks) (i:=1) (by omega))
   have hx:=ixD (g:=d.g) (ks:=d.ks) (i:=0) (by omega)
   have hx1:=ixD (g:=d.g) (ks:=d.ks) (i:=1) (by omega)
   rw[Int.toNat_zero]at hx
   rw[show(1:Int).toNat=1 from rfl]at hx1
   rw[fL,if_pos hp]
   generalize d.ks.getD 0 default=u at *
   generalize d.ks.getD 1 default=u1 at *
   obtain⟨x5',S',ih⟩:=aXb x0 x2 x3 n u1 (done++[u]) e_ (by omega) (by simp only[n_];omega)
   have ha:=aA6 (w:=5) (b:=64) (el:=51) (t:=.full) (aP8 u) (cO.map aP8 done) (cI (by rw[List.length_map];omega))
   have em:(done++[u]).map iQ=done.map iQ++[iQ u]:=by simp
   rw[em,List.append_assoc]at ih
   refine⟨x5',S',aI K _ _ t78L0.eq_1 ?_⟩
   have h2':(d.ks.length:Int)=2:=by omega
   rw[dO u]at ha ih
   simp (disch:=omega) only[go_sem,aK,h6,h2',hx,hx1,jV,ha,aDc,yN]
   exact congrArg er ih
  ·rw[fL,if_neg hp,List.append_nil]
   rw[Bool.not_eq_true,Dt.pr]at hp
   refine⟨?_,?_,aI K _ _ t78L0.eq_1 ?_⟩
   rotate_left 2
   ·by_cases h6:d.k=6
    ·have h2:¬((d.ks.length:Int)=2):=by intro e;rw[h6]at hp;simp at hp;omega
     simp (disch:=omega) only[go_sem,aK]
     rfl
    ·simp (disch:=omega) only[go_sem,aK]
theorem bIc (n:Nat)(d:Dt)(hn:d.w<=n)(hd:d.w<=1048576):Pure K 78 [agD d] (.tup [.iv (.sl (nG (fL n d).1) (dW (fL n d).1)),agD (fL n d).2]):=by
 obtain⟨x5',S',e⟩:=aXb (agD d) k_ (.lb [j_ 0,j_ 0,.iv (.str []),k_,j_ 0]) n d [] u_ hn (by simp only[List.length_nil];omega)
 rw[List.map_nil,fG,kQ,List.nil_append]at e
 rw[nH]
 generalize fL n d=q at *
 obtain⟨q1,q2⟩:=q
 refine eM t78 rfl rfl ?_
 simp only at e ⊢
 simp (disch:=omega) only[t78,go_sem]
 rw[e]
 simp (disch:=omega) only[go_sem,sY,aDc,yN]
mutual
theorem aRm:∀d:Dt,same d d=true
 | .mk k n t g ks p=>by rw[same,aBp ks];simp
theorem aBp:∀l:List Dt,aEu l l=true
 | []=>by rw[aEu]
 | d::ds=>by rw[aEu,aRm d,aBp ds];rfl
end
mutual
theorem aXc:∀d:Ex,eqE d d=true
 | .mk k n gv vs r g ks=>by rw[eqE,aEx ks];simp
theorem aEx:∀l:List Ex,aXa l l=true
 | []=>by rw[aXa]
 | d::ds=>by rw[aXa,aXc d,aEx ds];rfl
end
def xS (e:Ex):Int:=if(ofF e.k e.n).is then(ofF e.k e.n).kids else -1
theorem aRn (n:Int)(h:mR n<0):mR n = -1:=by
 unfold mR at h ⊢
 split
 ·rename_i hn
  rw[if_pos hn]at h
  exfalso
  have:∀k<42,0<=oJ.getD k 0:=by decide
  have:=this n.toNat (by omega)
  omega
 ·rfl
theorem bId (e:Ex)(S:aA):(lim K).call 98 [.iv (.agg (cD e))] S=.ret (j_ (xS e),S):=by
 refine aB K _ (fn:=t98) rfl rfl ?_
 rw[aL]
 unfold xS ofF
 by_cases h1:e.k=1
 ·rw[if_pos h1];simp (disch:=omega) only[t98,go_sem,h1]
 rw[if_neg h1]
 by_cases h2:e.k=2
 ·rw[if_pos h2];simp (disch:=omega) only[t98,go_sem,h2]
 rw[if_neg h2]
 by_cases h3:e.k=3
 ·rw[if_pos h3];simp (disch:=omega) only[t98,go_sem,h3]
 rw[if_neg h3]
 by_cases h4:e.k=4
 ·rw[if_pos h4];simp (disch:=omega) only[t98,go_sem,h4]
 rw[if_neg h4]
 by_cases h5:e.k=5
 ·rw[if_pos h5];simp (disch:=omega) only[t98,go_sem,h5]
 rw[if_neg h5]
 by_cases h6:e.k=6
 ·rw[if_pos h6];simp (disch:=omega) only[t98,go_sem,h6]
 rw[if_neg h6]
 by_cases h7:e.k=7
 ·rw[if_pos h7];simp (disch:=omega) only[t98,go_sem,h7]
 rw[if_neg h7]
 by_cases h8:e.k=8
 ·rw[if_pos h8];simp (disch:=omega) only[t98,go_sem,h8]
 rw[if_neg h8]
 by_cases h9:e.k=9
 ·rw[if_pos h9]
  by_cases hp:0<=mR e.n
  ·rw[decide_eq_true hp,if_pos rfl,show(if 0<mR e.n then mR e.n else 0)=mR e.n by split<;>omega]
   simp (disch:=omega) only[t98,go_sem,h9,aL1]
  ·rw[decide_eq_false hp,if_neg (by simp),<-aRn e.n (by omega)]
   simp (disch:=omega) only[t98,go_sem,h9,aL1]
 rw[if_neg h9]
 by_cases h10:e.k=10
 ·rw[if_pos h10];simp (disch:=omega) only[t98,go_sem,h10]
 rw[if_neg h10]
 by_cases h11:e.k=11
 ·rw[if_pos h11]
  by_cases n0:e.n=0
  ·rw[n0];simp (disch:=omega) only[t98,go_sem,h11,n0];rfl
  by_cases n1:e.n=1
  ·rw[n1];simp (disch:=omega) only[t98,go_sem,h11,n1];rfl
  by_cases n2:e.n=2
  ·rw[n2];simp (disch:=omega) only[t98,go_sem,h11,n2];rfl
  ·rw[if_pos (by omega:e.n<0∨2<e.n)];simp (disch:=omega) only[t98,go_sem,h11,n0,n1,n2,Bool.false_eq_true]
 rw[if_neg h11]
 by_cases h12:e.k=12
 ·rw[if_pos h12];simp (disch:=omega) only[t98,go_sem,h12]
 rw[if_neg h12]
 by_cases h13:e.k=13
 ·rw[if_pos h13];simp (disch:=omega) only[t98,go_sem,h13]
 rw[if_neg h13]
 by_cases h14:e.k=14
 ·rw[if_pos h14];simp (disch:=omega) only[t98,go_sem,h14]
 rw[if_neg h14]
 simp (disch:=omega) only[t98,go_sem,h1,h2,h3,h4,h5,h6,h7,h8,h9,h10,h11,h12,h13,h14,Bool.false_eq_true]
def aDu (k:Int):Bool:=decide (1<=k∧k<=5)||decide (k=9)||decide (k=11)
theorem aXd (k:Int)(S:aA):(lim K).call 99 [j_ k] S=.ret (.iv (.bool (aDu k)),S):=by
 refine aB K _ (fn:=t99) rfl rfl ?_
 unfold aDu
 by_cases h1:1<=k
 ·by_cases h2:k<=5
  ·simp (disch:=omega) only[t99,go_sem,h1,h2,and_self,Bool.true_or]
  ·by_cases h9:k=9
   ·simp (disch:=omega) only[t99,go_sem,h9,Bool.or_true,Bool.true_or,and_false,and_true]
   ·by_cases h11:k=11
    ·simp (disch:=omega) only[t99,go_sem,h11,Bool.or_true,Bool.true_or,and_false,and_true]
    ·simp (disch:=omega) only[t99,go_sem,h1,h2,h9,h11,and_false,Bool.or_self]
 ·have h9:¬k=9:=by omega
  have h11:¬k=11:=by omega
  simp (disch:=omega) only[t99,go_sem,h1,h9,h11,false_and,Bool.or_self]
theorem aXe (d:Dt)(hw:d.ks.length<=1048576)(H:∀x∈d.ks,TM.Pure K 52 [agD x] (.iv (.bool (plF x))))(x0 x4:TV):∀(k i:Nat) (x5 x6:TV),i+k=d.ks.length ->
  ∃j y3 y5 y6,(j=.ret∧(d.ks.drop i).all plF=false∨j=.exit 0∧(d.ks.drop i).all plF=true) ∧
   lp' (lim K) t52L0 [x0,lbD d,z_,j_ (i:Int),x4,x5,x6] []=.ret (j,[x0,lbD d,z_,y3,x4,y5,y6],[])
 | 0,i,x5,x6,h=>by
  obtain rfl:i=d.ks.length:=by omega
  refine⟨.exit 0,j_ d.ks.length,z_,x6,.inr ⟨rfl,by rw[List.drop_length];rfl⟩,aI K _ _ t52L0.eq_1 ?_⟩
  simp (disch:=omega) only[go_sem,aK]
 | k+1,i,x5,x6,h=>by
  have hla:i<d.ks.length:=by omega
  have hix:=ixD (g:=d.g) (ks:=d.ks) (i:=(i:Int)) (by omega)
  rw[Int.toNat_natCast]at hix
  have hdr:=fP hla
  have hm:=H _ (gD (i:=i) hla)
  generalize hx:d.ks.getD i default=x at *
  cases hv:plF x with
  | false =>
   rw[hv]at hm
   refine⟨.ret,j_ i,e_,e_,.inl ⟨rfl,by rw[hdr,List.all_cons,hv,Bool.false_and]⟩,aI K _ _ t52L0.eq_1 ?_⟩
   simp (disch:=omega) only[go_sem,aK,hix,jV,aF hm]
  | true =>
   rw[hv]at hm
   obtain⟨j,y3,y5,y6,hj,ih⟩:=aXe d hw H x0 x4 k (i+1) e_ z_ (by omega)
   rw[show((i+1:Nat):Int)=(i:Int)+1 by omega]at ih
   refine⟨j,y3,y5,y6,by rw[hdr,List.all_cons,hv,Bool.true_and];exact hj,aI K _ _ t52L0.eq_1 ?_⟩
   simp (disch:=omega) only[go_sem,aK,hix,jV,aF hm,aH]
   exact congrArg er ih
theorem aXf:∀N,N<=1048576->∀d:Dt,d.w<=N->TM.Pure K 52 [agD d] (.iv (.bool (plF d)))
  | 0,hN=>fun d hw=>by have:=Dt.w_eq d;omega
  | N+1,hN=>fun d hw=>by
    have hwd:=Dt.w_eq d
    have hwl:=Dt.ws_len d.ks
    have H:∀y∈d.ks,TM.Pure K 52 [agD y] (.iv (.bool (plF y))):=fun y hy=>aXf N (by omega) y (by have:=Dt.kid_lt hy;omega)
    rw[aL0]
    by_cases h5:d.k=5∧d.n≠0
    · rw[decide_eq_true h5,Bool.not_true,Bool.false_and]
      obtain⟨h5,hn⟩:=h5
      refine TM.bO (S:=[]) (r:=z_) (aB K _ (fn:=t52) rfl rfl ?_) (by rw[aT])
      simp (disch:=omega) only[t52,go_sem,h5,hn]
    · rw[decide_eq_false h5,Bool.not_false,Bool.true_and]
      obtain⟨j,y3,y5,y6,hj,l1⟩:=aXe d (by omega) H (agD d) z_ d.ks.length 0 u_ u_ (by omega)
      rw[n0_]at l1
      rw[List.drop_zero]at hj
      have hc : ¬ d.k = 5 ∨ d.n = 0 := by by_cases h : d.k = 5;· right;exact Classical.not_not.1 fun hn => h5 ⟨h, hn⟩
                                          · exact .inl h
      rcases hj with⟨rfl,hv⟩|⟨rfl,hv⟩
      · rw[hv]
        refine TM.bO (S:=[]) (r:=z_) (aB K _ (fn:=t52) rfl rfl ?_) (by rw[aT])
        rcases hc with hc|hc
        · simp (disch:=omega) only[t52,go_sem,hc]
          rw[l1]
          simp (disch:=omega) only[go_sem]
        · by_cases hk:d.k=5
          · unfold lbD at l1
            rw[hk,hc]at l1
            simp (disch:=omega) only[t52,go_sem,hc,hk,bne_self_eq_false]
            rw[l1]
            simp (disch:=omega) only[go_sem]
          · simp (disch:=omega) only[t52,go_sem,hk]
            rw[l1]
            simp (disch:=omega) only[go_sem]
      · rw[hv]
        refine TM.bO (S:=[]) (r:=e_) (aB K _ (fn:=t52) rfl rfl ?_) (by rw[aT])
        rcases hc with hc|hc
        · simp (disch:=omega) only[t52,go_sem,hc]
          rw[l1]
          simp (disch:=omega) only[go_sem]
        · by_cases hk:d.k=5
          · unfold lbD at l1
            rw[hk,hc]at l1
            simp (disch:=omega) only[t52,go_sem,hc,hk,bne_self_eq_false]
            rw[l1]
            simp (disch:=omega) only[go_sem]
          · simp (disch:=omega) only[t52,go_sem,hk]
            rw[l1]
            simp (disch:=omega) only[go_sem]
theorem bK4 (k n:Int)(h:(ofF k n).is=true):(ofF k n).more=decide (k=8∨k=10)∧(ofF k n).num=aDu k∧0<=(ofF k n).kids:=by
 unfold ofF at h ⊢
 unfold aDu
 by_cases h1:k=1
 ·subst h1;simp
 by_cases h2:k=2
 ·subst h2;simp
 by_cases h3:k=3
 ·subst h3;simp
 by_cases h4:k=4
 ·subst h4;simp
 by_cases h5:k=5
 ·subst h5;simp
 by_cases h6:k=6
 ·subst h6;simp
 by_cases h7:k=7
 ·subst h7;simp
 by_cases h8:k=8
 ·subst h8;simp
 by_cases h9:k=9
 ·subst h9;simp;split<;>omega
 by_cases h10:k=10
 ·subst h10;simp
 by_cases h11:k=11
 ·subst h11
  by_cases hn:n<0∨2<n
  ·simp[hn]at h
  ·simp[hn];split<;>omega
 by_cases h12:k=12
 ·subst h12;simp
 by_cases h13:k=13
 ·subst h13;simp
 by_cases h14:k=14
 ·subst h14;simp
 simp[h1,h2,h3,h4,h5,h6,h7,h8,h9,h10,h11,h12,h13,h14]at h
theorem bDg (e:Ex):aF9 e=(decide (xS e<0)||decide ((e.ks.length:Int)<xS e)||(decide (xS e<e.ks.length)&&!decide (e.k=8∨e.k=10))||(!aDu e.k&&decide (e.n≠0))||(decide (e.k≠7)&&(decide (0<e.vs.length)||e.r))||(e.r&&decide (e.vs.length=0))):=by
 unfold aF9 xS
 cases hi:(ofF e.k e.n).is with
 | false=>simp[hi]
 | true =>
  obtain⟨h1,h2,h3⟩:=bK4 e.k e.n hi
  simp only[hi,h1,h2,if_true,Bool.not_true,Bool.false_or]
  rw[decide_eq_false (by omega:¬(ofF e.k e.n).kids<0),Bool.false_or]
theorem aXg (p:Pg)(e:Ex)(hw:e.vs.length<=1048576)(x0 x1 x5 x6 x8 x9 x12 x13 x14:TV):∀(k i:Nat) (x10 x11:TV),i+k=e.vs.length ->
  ∃j y7 y10 y11,(j=.ret∧((e.vs.drop i).all fun v=>decide (0<=v∧v<p.vr))=false∨j=.exit 0∧((e.vs.drop i).all fun v=>decide (0<=v∧v<p.vr))=true) ∧
   lp' (lim K) t82L0 [x0,x1,lbP p,lbE e,z_,x5,x6,j_ (i:Int),x8,x9,x10,x11,x12,x13,x14] []=.ret (j,[x0,x1,lbP p,lbE e,z_,x5,x6,y7,x8,x9,y10,y11,x12,x13,x14],[])
 | 0,i,x10,x11,h=>by
  obtain rfl:i=e.vs.length:=by omega
  refine⟨.exit 0,j_ e.vs.length,z_,x11,.inr ⟨rfl,by rw[List.drop_length];rfl⟩,aI K _ _ t82L0.eq_1 ?_⟩
  simp (disch:=omega) only[go_sem]
 | k+1,i,x10,x11,h=>by
  have hla:i<e.vs.length:=by omega
  have hix:=sU (f:=IV.int .i64) (t:=e.gv) (l:=e.vs) (i:=(i:Int)) (by omega)
  rw[Int.toNat_natCast]at hix
  have hdr:=fP hla
  generalize hx:e.vs.getD i default=v at *
  by_cases h1:v<0
  ·refine⟨.ret,j_ i,e_,e_,.inl ⟨rfl,by rw[hdr,List.all_cons,decide_eq_false (by omega),Bool.false_and]⟩,aI K _ _ t82L0.eq_1 ?_⟩
   simp (disch:=omega) only[go_sem,hix,h1]
  by_cases h2:p.vr<=v
  ·refine⟨.ret,j_ i,e_,e_,.inl ⟨rfl,by rw[hdr,List.all_cons,decide_eq_false (by omega),Bool.false_and]⟩,aI K _ _ t82L0.eq_1 ?_⟩
   simp (disch:=omega) only[go_sem,hix,h1,h2]
  ·obtain⟨j,y7,y10,y11,hj,ih⟩:=aXg p e hw x0 x1 x5 x6 x8 x9 x12 x13 x14 k (i+1) e_ z_ (by omega)
   rw[show((i+1:Nat):Int)=(i:Int)+1 by omega]at ih
   refine⟨j,y7,y10,y11,by rw[hdr,List.all_cons,decide_eq_true (by omega),Bool.true_and];exact hj,aI K _ _ t82L0.eq_1 ?_⟩
   simp (disch:=omega) only[go_sem,hix,h1,h2,aH]
   exact congrArg er ih
def aGi:aQ:=(.region [⟨.boxL 2 (.loc 0),none,none⟩,⟨.boxL 3 (.loc 1),none,none⟩,⟨.mov (.cst (.bool false)),(some 4),none⟩])
def aMg:aQ:=(.region [⟨.loadN 5 (.loc 3),none,none⟩,⟨.call true false 98 [(.reg 0)],none,none⟩,⟨.mov (.reg 1),(some 5),none⟩])
def aBq:aQ:=(.region [⟨.fieldAddr 0 (.loc 3),none,none⟩,⟨.load1 (.reg 0),none,none⟩,⟨.bin .eql (.reg 1) (.cst (.int .i64 8)),none,none⟩,⟨.mov (.reg 2),none,none⟩,⟨.fieldAddr 0 (.loc 3),none,(some (3,false))⟩,⟨.load1 (.reg 4),none,(some (3,false))⟩,⟨.bin .eql (.reg 5) (.cst (.int .i64 10)),none,(some (3,false))⟩,⟨.pick (.reg 3) (.cst (.bool true)) (.reg 6),none,none⟩,⟨.mov (.reg 7),(some 6),none⟩])
def kY:aQ:=(.seq (.region [⟨.mov (.loc 5),none,none⟩,⟨.bin .lss (.reg 0) (.cst (.int .i64 0)),none,none⟩,⟨.mov (.reg 1),none,none⟩,⟨.fieldAddr 4 (.loc 3),none,(some (2,false))⟩,⟨.load1 (.reg 3),none,(some (2,false))⟩,⟨.len .sl (.reg 4),none,(some (2,false))⟩,⟨.mov (.loc 5),none,(some (2,false))⟩,⟨.bin .lss (.reg 5) (.reg 6),none,(some (2,false))⟩,⟨.pick (.reg 2) (.cst (.bool true)) (.reg 7),none,none⟩,⟨.mov (.reg 8),none,none⟩,⟨.fieldAddr 4 (.loc 3),none,(some (9,false))⟩,⟨.load1 (.reg 10),none,(some (9,false))⟩,⟨.len .sl (.reg 11),none,(some (9,false))⟩,⟨.mov (.loc 5),none,(some (9,false))⟩,⟨.bin .gtr (.reg 12) (.reg 13),none,(some (9,false))⟩,⟨.mov (.reg 14),none,(some (9,false))⟩,⟨.mov (.loc 6),none,(some (15,true))⟩,⟨.un .not (.reg 16),none,(some (15,true))⟩,⟨.pick (.reg 15) (.reg 17) (.cst (.bool false)),none,(some (9,false))⟩,⟨.pick (.reg 9) (.cst (.bool true)) (.reg 18),none,none⟩,⟨.mov (.reg 19),none,none⟩,⟨.fieldAddr 0 (.loc 3),none,(some (20,false))⟩,⟨.load1 (.reg 21),none,(some (20,false))⟩,⟨.call true false 99 [(.reg 22)],none,(some (20,false))⟩,⟨.un .not (.reg 23),none,(some (20,false))⟩,⟨.mov (.reg 24),none,(some (20,false))⟩,⟨.fieldAddr 1 (.loc 3),none,(some (25,true))⟩,⟨.load1 (.reg 26),none,(some (25,true))⟩,⟨.bin .neq (.reg 27) (.cst (.int .i64 0)),none,(some (25,true))⟩,⟨.pick (.reg 25) (.reg 28) (.cst (.bool false)),none,(some (20,false))⟩,⟨.pick (.reg 20) (.cst (.bool true)) (.reg 29),(some 8),none⟩])
 (.cond (.loc 8)
  (.seq (.region [⟨.mov (.cst (.bool false)),(some 4),none⟩])
  .ret)
  .skip))
def qH:aQ:=(.seq (.region [⟨.fieldAddr 0 (.loc 3),none,none⟩,⟨.load1 (.reg 0),none,none⟩,⟨.bin .neq (.reg 1) (.cst (.int .i64 7)),none,none⟩,⟨.mov (.reg 2),none,none⟩,⟨.fieldAddr 2 (.loc 3),none,(some (3,true))⟩,⟨.load1 (.reg 4),none,(some (3,true))⟩,⟨.len .sl (.reg 5),none,(some (3,true))⟩,⟨.bin .gtr (.reg 6) (.cst (.int .i64 0)),none,(some (3,true))⟩,⟨.mov (.reg 7),none,(some (3,true))⟩,⟨.fieldAddr 3 (.loc 3),none,(some (8,false))⟩,⟨.load1 (.reg 9),none,(some (8,false))⟩,⟨.pick (.reg 8) (.cst (.bool true)) (.reg 10),none,(some (3,true))⟩,⟨.pick (.reg 3) (.reg 11) (.cst (.bool false)),none,none⟩,⟨.mov (.reg 12),none,none⟩,⟨.fieldAddr 3 (.loc 3),none,(some (13,false))⟩,⟨.load1 (.reg 14),none,(some (13,false))⟩,⟨.mov (.reg 15),none,(some (13,false))⟩,⟨.fieldAddr 2 (.loc 3),none,(some (16,true))⟩,⟨.load1 (.reg 17),none,(some (16,true))⟩,⟨.len .sl (.reg 18),none,(some (16,true))⟩,⟨.bin .eql (.reg 19) (.cst (.int .i64 0)),none,(some (16,true))⟩,⟨.pick (.reg 16) (.reg 20) (.cst (.bool false)),none,(some (13,false))⟩,⟨.pick (.reg 13) (.cst (.bool true)) (.reg 21),(some 9),none⟩])
 (.cond (.loc 9)
  (.seq (.region [⟨.mov (.cst (.bool false)),(some 4),none⟩])
  .ret)
  .skip))
def aGj:aQ:=(.seq (.region [⟨.mov (.cst (.int .i64 0)),(some 7),none⟩])
 (.block 0
  (.loop t82L0)))
def gN:aQ:=(.seq (.region [⟨.fieldAddr 0 (.loc 3),none,none⟩,⟨.load1 (.reg 0),none,none⟩,⟨.bin .eql (.reg 1) (.cst (.int .i64 1)),(some 12),none⟩])
 (.cond (.loc 12)
  (.seq (.region [⟨.fieldAddr 1 (.loc 3),none,none⟩,⟨.load1 (.reg 0),none,none⟩,⟨.bin .geq (.reg 1) (.cst (.int .i64 0)),none,none⟩,⟨.mov (.reg 2),none,none⟩,⟨.fieldAddr 1 (.loc 3),none,(some (3,true))⟩,⟨.load1 (.reg 4),none,(some (3,true))⟩,⟨.fieldAddr 7 (.loc 2),none,(some (3,true))⟩,⟨.load1 (.reg 6),none,(some (3,true))⟩,⟨.len .sl (.reg 7),none,(some (3,true))⟩,⟨.bin .lss (.reg 5) (.reg 8),none,(some (3,true))⟩,⟨.pick (.reg 3) (.reg 9) (.cst (.bool false)),none,none⟩,⟨.mov (.reg 10),(some 4),none⟩])
  .ret)
  .skip))
def gO:aQ:=(.seq (.region [⟨.fieldAddr 0 (.loc 3),none,none⟩,⟨.load1 (.reg 0),none,none⟩,⟨.bin .eql (.reg 1) (.cst (.int .i64 2)),none,none⟩,⟨.mov (.reg 2),none,none⟩,⟨.fieldAddr 0 (.loc 3),none,(some (3,false))⟩,⟨.load1 (.reg 4),none,(some (3,false))⟩,⟨.bin .eql (.reg 5) (.cst (.int .i64 4)),none,(some (3,false))⟩,⟨.pick (.reg 3) (.cst (.bool true)) (.reg 6),(some 13),none⟩])
 (.cond (.loc 13)
  (.seq (.region [⟨.fieldAddr 1 (.loc 3),none,none⟩,⟨.load1 (.reg 0),none,none⟩,⟨.bin .geq (.reg 1) (.cst (.int .i64 0)),none,none⟩,⟨.mov (.reg 2),none,none⟩,⟨.fieldAddr 1 (.loc 3),none,(some (3,true))⟩,⟨.load1 (.reg 4),none,(some (3,true))⟩,⟨.fieldAddr 6 (.loc 2),none,(some (3,true))⟩,⟨.load1 (.reg 6),none,(some (3,true))⟩,⟨.bin .lss (.reg 5) (.reg 7),none,(some (3,true))⟩,⟨.pick (.reg 3) (.reg 8) (.cst (.bool false)),none,none⟩,⟨.mov (.reg 9),(some 4),none⟩])
  .ret)
  .skip))
def gP:aQ:=(.seq (.region [⟨.fieldAddr 0 (.loc 3),none,none⟩,⟨.load1 (.reg 0),none,none⟩,⟨.bin .eql (.reg 1) (.cst (.int .i64 3)),none,none⟩,⟨.mov (.reg 2),none,none⟩,⟨.fieldAddr 0 (.loc 3),none,(some (3,false))⟩,⟨.load1 (.reg 4),none,(some (3,false))⟩,⟨.bin .eql (.reg 5) (.cst (.int .i64 5)),none,(some (3,false))⟩,⟨.pick (.reg 3) (.cst (.bool true)) (.reg 6),(some 14),none⟩])
 (.cond (.loc 14)
  (.seq (.region [⟨.fieldAddr 1 (.loc 3),none,none⟩,⟨.load1 (.reg 0),none,none⟩,⟨.bin .geq (.reg 1) (.cst (.int .i64 0)),none,none⟩,⟨.mov (.reg 2),none,none⟩,⟨.fieldAddr 1 (.loc 3),none,(some (3,true))⟩,⟨.load1 (.reg 4),none,(some (3,true))⟩,⟨.fieldAddr 5 (.loc 2),none,(some (3,true))⟩,⟨.load1 (.reg 6),none,(some (3,true))⟩,⟨.bin .lss (.reg 5) (.reg 7),none,(some (3,true))⟩,⟨.pick (.reg 3) (.reg 8) (.cst (.bool false)),none,none⟩,⟨.mov (.reg 9),(some 4),none⟩])
  .ret)
  .skip))
def fA:aQ:=(.seq (.region [⟨.mov (.cst (.bool true)),(some 4),none⟩])
 .ret)
theorem bDh:t82.body=(.seq aGi (.seq aMg (.seq aBq (.seq kY (.seq qH (.seq aGj (.seq gN (.seq gO (.seq gP fA))))))))):=rfl
theorem bIe:t82.results=[.loc 4]:=rfl
theorem st1 (p:Pg)(e:Ex)(hw:e.w<=1048576)(r:aQ)(fs:List TM.Fr):go' K (lim K) aGi (TM.Fr.seq r::fs) [.iv (.agg (dY p)),.iv (.agg (cD e)),u_,u_,u_,u_,u_,u_,u_,u_,u_,u_,u_,u_,u_] []=go' K (lim K) r fs [.iv (.agg (dY p)),.iv (.agg (cD e)),lbP p,lbE e,z_,u_,u_,u_,u_,u_,u_,u_,u_,u_,u_] []:=by
 rw[aL]
 unfold dY
 simp (disch:=omega) only[aGi,go_sem,aG,aK]
theorem st2 (p:Pg)(e:Ex)(hw:e.w<=1048576)(r:aQ)(fs:List TM.Fr):go' K (lim K) aMg (TM.Fr.seq r::fs) [.iv (.agg (dY p)),.iv (.agg (cD e)),lbP p,lbE e,z_,u_,u_,u_,u_,u_,u_,u_,u_,u_,u_] []=go' K (lim K) r fs [.iv (.agg (dY p)),.iv (.agg (cD e)),lbP p,lbE e,z_,j_ (xS e),u_,u_,u_,u_,u_,u_,u_,u_,u_] []:=by
 have c95:=bId e []
 rw[aL]at c95
 simp (disch:=omega) only[aMg,go_sem,aG,aK,c95]
theorem st3 (p:Pg)(e:Ex)(hw:e.w<=1048576)(r:aQ)(fs:List TM.Fr)(L:Int):go' K (lim K) aBq (TM.Fr.seq r::fs) [.iv (.agg (dY p)),.iv (.agg (cD e)),lbP p,lbE e,z_,j_ L,u_,u_,u_,u_,u_,u_,u_,u_,u_] []=go' K (lim K) r fs [.iv (.agg (dY p)),.iv (.agg (cD e)),lbP p,lbE e,z_,j_ L,.iv (.bool (decide (e.k=8∨e.k=10))),u_,u_,u_,u_,u_,u_,u_,u_] []:=by
 by_cases k8:e.k=8
 ·rw[decide_eq_true (Or.inl k8)]
  simp (disch:=omega) only[aBq,go_sem,aG,aK,k8]
 ·by_cases k10:e.k=10
  ·rw[decide_eq_true (Or.inr k10)]
   simp (disch:=omega) only[aBq,go_sem,aG,aK,k8,k10]
  ·rw[decide_eq_false (by omega)]
   simp (disch:=omega) only[aBq,go_sem,aG,aK,k8,k10]
def aMh (e:Ex)(L:Int)(m:Bool):Bool:=decide (L<0)||decide ((e.ks.length:Int)<L)||(decide (L<e.ks.length)&&!m)||(!aDu e.k&&decide (e.n≠0))
theorem bMm (p:Pg)(e:Ex)(hw:e.w<=1048576)(r:aQ)(fs:List TM.Fr)(L:Int)(m:Bool)(hb:aMh e L m=true):go' K (lim K) kY (TM.Fr.seq r::fs) [.iv (.agg (dY p)),.iv (.agg (cD e)),lbP p,lbE e,z_,j_ L,.iv (.bool m),u_,u_,u_,u_,u_,u_,u_,u_] []=bk' K (lim K) fs .ret [.iv (.agg (dY p)),.iv (.agg (cD e)),lbP p,lbE e,z_,j_ L,.iv (.bool m),u_,e_,u_,u_,u_,u_,u_,u_] []:=by
 have c160:=aXd e.k []
 by_cases b1:L<0
 ·simp (config := { maxSteps := 4000000 }) (disch:=omega) only[kY,go_sem,aG,aK,b1]
 by_cases b2:(e.ks.length:Int)<L
 ·simp (config := { maxSteps := 4000000 }) (disch:=omega) only[kY,go_sem,aG,aK,b1,b2]
 unfold aMh at hb
 rw[decide_eq_false b1,decide_eq_false b2,Bool.false_or,Bool.false_or]at hb
 by_cases b3:L<(e.ks.length:Int)
 ·cases m with
  | false =>
   simp (config := { maxSteps := 4000000 }) (disch:=omega) only[kY,go_sem,aG,aK,b1,b2,b3]
  | true =>
   cases hn:aDu e.k with
   | true=>rw[hn]at hb;simp at hb
   | false =>
    rw[hn]at hb c160
    have n0:¬e.n=0:=by simpa using hb
    simp (config := { maxSteps := 4000000 }) (disch:=omega) only[kY,go_sem,aG,aK,b1,b2,b3,c160,n0]
 ·cases hn:aDu e.k with
  | true=>rw[hn,decide_eq_false b3]at hb;simp at hb
  | false =>
   rw[hn,decide_eq_false b3]at hb
   rw[hn]at c160
   have n0:¬e.n=0:=by simpa using hb
   simp (config := { maxSteps := 4000000 }) (disch:=omega) only[kY,go_sem,aG,aK,b1,b2,b3,c160,n0]
theorem bMn (p:Pg)(e:Ex)(hw:e.w<=1048576)(r:aQ)(fs:List TM.Fr)(L:Int)(m:Bool)(hb:aMh e L m=false):go' K (lim K) kY (TM.Fr.seq r::fs) [.iv (.agg (dY p)),.iv (.agg (cD e)),lbP p,lbE e,z_,j_ L,.iv (.bool m),u_,u_,u_,u_,u_,u_,u_,u_] []=go' K (lim K) r fs [.iv (.agg (dY p)),.iv (.agg (cD e)),lbP p,lbE e,z_,j_ L,.iv (.bool m),u_,z_,u_,u_,u_,u_,u_,u_] []:=by
 have c160:=aXd e.k []
 unfold aMh at hb
 simp only[Bool.or_eq_false_iff,decide_eq_false_iff_not]at hb
 obtain⟨⟨⟨b1,b2⟩,hb3⟩,hb4⟩:=hb
 have key:∀(n:Bool),aDu e.k=n->(n=false->e.n=0)->go' K (lim K) kY (TM.Fr.seq r::fs) [.iv (.agg (dY p)),.iv (.agg (cD e)),lbP p,lbE e,z_,j_ L,.iv (.bool m),u_,u_,u_,u_,u_,u_,u_,u_] []=go' K (lim K) r fs [.iv (.agg (dY p)),.iv (.agg (cD e)),lbP p,lbE e,z_,j_ L,.iv (.bool m),u_,z_,u_,u_,u_,u_,u_,u_] []:=fun n hn h0=>by
  rw[hn]at c160
  cases n with
  | true =>
   by_cases b3:L<(e.ks.length:Int)
   ·obtain rfl:m=true:=by simpa[b3] using hb3
    simp (config := { maxSteps := 4000000 }) (disch:=omega) only[kY,go_sem,aG,aK,b1,b2,b3,c160]
   ·simp (config := { maxSteps := 4000000 }) (disch:=omega) only[kY,go_sem,aG,aK,b1,b2,b3,c160]
  | false =>
   have n0:=h0 rfl
   by_cases b3:L<(e.ks.length:Int)
   ·obtain rfl:m=true:=by simpa[b3] using hb3
    simp (config := { maxSteps := 4000000 }) (disch:=omega) only[kY,go_sem,aG,aK,b1,b2,b3,c160,n0,bne_self_eq_false]
   ·simp (config := { maxSteps := 4000000 }) (disch:=omega) only[kY,go_sem,aG,aK,b1,b2,b3,c160,n0,bne_self_eq_false]
 exact key _ rfl (fun h=>by rw[h]at hb4;simpa using hb4)
def aMi (e:Ex):Bool:=(decide (e.k≠7)&&(decide (0<e.vs.length)||e.r))||(e.r&&decide (e.vs.length=0))
theorem bMo (p:Pg)(e:Ex)(hw:e.w<=1048576)(r:aQ)(fs:List TM.Fr)(x5 x6:TV)(hb:aMi e=true):go' K (lim K) qH (TM.Fr.seq r::fs) [.iv (.agg (dY p)),.iv (.agg (cD e)),lbP p,lbE e,z_,x5,x6,u_,z_,u_,u_,u_,u_,u_,u_] []=bk' K (lim K) fs .ret [.iv (.agg (dY p)),.iv (.agg (cD e)),lbP p,lbE e,z_,x5,x6,u_,z_,e_,u_,u_,u_,u_,u_] []:=by
 have hwe:=Ex.w_eq e
 unfold aMi at hb
 by_cases h7:e.k=7
 ·cases hr:e.r with
  | false=>simp[h7,hr]at hb
  | true =>
   have hv:e.vs.length=0:=by simpa[h7,hr] using hb
   have hv':¬(0:Int)<e.vs.length:=by omega
   simp (disch:=omega) only[qH,go_sem,aG,aK,h7,hr,hv,hv',bne_self_eq_false]
 ·by_cases hv:(0:Int)<e.vs.length
  ·simp (disch:=omega) only[qH,go_sem,aG,aK,h7,hv]
  ·cases hr:e.r with
   | false =>
    have:¬0<e.vs.length:=by omega
    simp[hr,this]at hb
   | true =>
    simp (disch:=omega) only[qH,go_sem,aG,aK,h7,hv,hr]
theorem bMp (p:Pg)(e:Ex)(hw:e.w<=1048576)(r:aQ)(fs:List TM.Fr)(x5 x6:TV)(hb:aMi e=false):go' K (lim K) qH (TM.Fr.seq r::fs) [.iv (.agg (dY p)),.iv (.agg (cD e)),lbP p,lbE e,z_,x5,x6,u_,z_,u_,u_,u_,u_,u_,u_] []=go' K (lim K) r fs [.iv (.agg (dY p)),.iv (.agg (cD e)),lbP p,lbE e,z_,x5,x6,u_,z_,z_,u_,u_,u_,u_,u_] []:=by
 have hwe:=Ex.w_eq e
 unfold aMi at hb
 by_cases h7:e.k=7
 ·cases hr:e.r with
  | false =>
   simp (disch:=omega) only[qH,go_sem,aG,aK,h7,hr,bne_self_eq_false]
  | true =>
   have hv:¬(e.vs.length:Int)=0:=by
    have:¬e.vs.length=0:=by simpa[h7,hr] using hb
    omega
   simp (disch:=omega) only[qH,go_sem,aG,aK,h7,hr,hv,bne_self_eq_false]
 ·simp only[h7,ne_eq,not_false_eq_true,decide_true,Bool.true_and,Bool.or_eq_false_iff,decide_eq_false_iff_not]at hb
  have hr:=hb.1.2
  have hv:¬(0:Int)<e.vs.length:=by have:=hb.1.1;omega
  simp (disch:=omega) only[qH,go_sem,aG,aK,h7,hv,hr]
theorem st6 (p:Pg)(e:Ex)(hw:e.w<=1048576)(r:aQ)(fs:List TM.Fr)(x5 x6:TV):∃y7 y10 y11,go' K (lim K) aGj (TM.Fr.seq r::fs) [.iv (.agg (dY p)),.iv (.agg (cD e)),lbP p,lbE e,z_,x5,x6,u_,z_,z_,u_,u_,u_,u_,u_] [] =
  if(e.vs.all fun v=>decide (0<=v∧v<p.vr))=true then go' K (lim K) r fs [.iv (.agg (dY p)),.iv (.agg (cD e)),lbP p,lbE e,z_,x5,x6,y7,z_,z_,y10,y11,u_,u_,u_] []else bk' K (lim K) fs .ret [.iv (.agg (dY p)),.iv (.agg (cD e)),lbP p,lbE e,z_,x5,x6,y7,z_,z_,y10,y11,u_,u_,u_] []:=by
 have hwe:=Ex.w_eq e
 obtain⟨j,y7,y10,y11,hj,l1⟩:=aXg p e (by omega) (.iv (.agg (dY p))) (.iv (.agg (cD e))) x5 x6 z_ z_ u_ u_ u_ e.vs.length 0 u_ u_ (by omega)
 rw[n0_]at l1
 rw[List.drop_zero]at hj
 refine⟨y7,y10,y11,?_⟩
 rcases hj with⟨rfl,hv⟩|⟨rfl,hv⟩
 ·rw[hv,if_neg (by decide)]
  simp (disch:=omega) only[aGj,go_sem,aG,aK]
  rw[l1]
  simp (disch:=omega) only[go_sem]
 ·rw[hv,if_pos rfl]
  simp (disch:=omega) only[aGj,go_sem,aG,aK]
  rw[l1]
  simp (disch:=omega) only[go_sem]
def bDi (p:Pg)(e:Ex):Bool:=if e.k=1 then decide (0<=e.n∧e.n<p.cs.length)else if e.k=2∨e.k=4 then decide (0<=e.n∧e.n<p.vr)else if e.k=3∨e.k=5 then decide (0<=e.n∧e.n<p.gl)else true
theorem st7 (p:Pg)(e:Ex)(hw:e.w<=1048576)(hc:p.cs.length<=1048576)(x5 x6 y7 y10 y11:TV):aDd [.loc 4] (go' K (lim K) (.seq gN (.seq gO (.seq gP fA))) [] [.iv (.agg (dY p)),.iv (.agg (cD e)),lbP p,lbE e,z_,x5,x6,y7,z_,z_,y10,y11,u_,u_,u_] [])=.ret (.iv (.bool (bDi p e)),[]):=by
 unfold bDi
 by_cases k1:e.k=1
 ·rw[if_pos k1]
  by_cases g1:0<=e.n
  ·by_cases g0:e.n<(p.cs.length:Int)
   ·rw[decide_eq_true ⟨g1,g0⟩]
    simp (disch:=omega) only[gN,gO,gP,fA,go_sem,aG,aK,k1,g1,g0,ge_iff_le]
   ·rw[decide_eq_false (by omega)]
    simp (disch:=omega) only[gN,gO,gP,fA,go_sem,aG,aK,k1,g1,g0,ge_iff_le]
  ·rw[decide_eq_false (by omega)]
   simp (disch:=omega) only[gN,gO,gP,fA,go_sem,aG,aK,k1,g1,ge_iff_le]
 rw[if_neg k1]
 by_cases k2:e.k=2
 ·rw[if_pos (Or.inl k2)]
  by_cases g1:0<=e.n
  ·by_cases g0:e.n<p.vr
   ·rw[decide_eq_true ⟨g1,g0⟩]
    simp (disch:=omega) only[gN,gO,gP,fA,go_sem,aG,aK,k2,g1,g0,ge_iff_le]
   ·rw[decide_eq_false (by omega)]
    simp (disch:=omega) only[gN,gO,gP,fA,go_sem,aG,aK,k2,g1,g0,ge_iff_le]
  ·rw[decide_eq_false (by omega)]
   simp (disch:=omega) only[gN,gO,gP,fA,go_sem,aG,aK,k2,g1,ge_iff_le]
 by_cases k4:e.k=4
 ·rw[if_pos (Or.inr k4)]
  by_cases g1:0<=e.n
  ·by_cases g0:e.n<p.vr
   ·rw[decide_eq_true ⟨g1,g0⟩]
    simp (disch:=omega) only[gN,gO,gP,fA,go_sem,aG,aK,k4,g1,g0,ge_iff_le]
   ·rw[decide_eq_false (by omega)]
    simp (disch:=omega) only[gN,gO,gP,fA,go_sem,aG,aK,k4,g1,g0,ge_iff_le]
  ·rw[decide_eq_false (by omega)]
   simp (disch:=omega) only[gN,gO,gP,fA,go_sem,aG,aK,k4,g1,ge_iff_le]
 rw[if_neg (by omega)]
 by_cases k3:e.k=3
 ·rw[if_pos (Or.inl k3)]
  by_cases g1:0<=e.n
  ·by_cases g0:e.n<p.gl
   ·rw[decide_eq_true ⟨g1,g0⟩]
    simp (disch:=omega) only[gN,gO,gP,fA,go_sem,aG,aK,k3,g1,g0,ge_iff_le]
   ·rw[decide_eq_false (by omega)]
    simp (disch:=omega) only[gN,gO,gP,fA,go_sem,aG,aK,k3,g1,g0,ge_iff_le]
  ·rw[decide_eq_false (by omega)]
   simp (disch:=omega) only[gN,gO,gP,fA,go_sem,aG,aK,k3,g1,ge_iff_le]
 by_cases k5:e.k=5
 ·rw[if_pos (Or.inr k5)]
  by_cases g1:0<=e.n
  ·by_cases g0:e.n<p.gl
   ·rw[decide_eq_true ⟨g1,g0⟩]
    simp (disch:=omega) only[gN,gO,gP,fA,go_sem,aG,aK,k5,g1,g0,ge_iff_le]
   ·rw[decide_eq_false (by omega)]
    simp (disch:=omega) only[gN,gO,gP,fA,go_sem,aG,aK,k5,g1,g0,ge_iff_le]
  ·rw[decide_eq_false (by omega)]
   simp (disch:=omega) only[gN,gO,gP,fA,go_sem,aG,aK,k5,g1,ge_iff_le]
 rw[if_neg (by omega)]
 simp (disch:=omega) only[gN,gO,gP,fA,go_sem,aG,aK,k1,k2,k3,k4,k5]
theorem bDj (p:Pg)(e:Ex):mX p e=(!aMh e (xS e) (decide (e.k=8∨e.k=10))&&(!aMi e&&((e.vs.all fun v=>decide (0<=v∧v<p.vr))&&bDi p e))):=by
 unfold mX
 rw[bDg]
 unfold aMh aMi
 generalize (decide (xS e<0)||decide ((e.ks.length:Int)<xS e)||(decide (xS e<e.ks.length)&&!decide (e.k=8∨e.k=10))||(!aDu e.k&&decide (e.n≠0)))=A
 rw[Bool.or_assoc]
 generalize hB:((decide (e.k≠7)&&(decide (0<e.vs.length)||e.r))||(e.r&&decide (e.vs.length=0)))=B
 rw[Bool.not_or,Bool.and_assoc]
 congr 1
 cases B with
 | true=>rfl
 | false =>
  rw[Bool.not_false,Bool.true_and,Bool.true_and]
  unfold aAc bDi
  by_cases h7:e.k=7
  ·simp[h7]
  ·have hv:e.vs=[]:=by
    simp only[h7,ne_eq,not_false_eq_true,decide_true,Bool.true_and,Bool.or_eq_false_iff,decide_eq_false_iff_not]at hB
    exact List.length_eq_zero_iff.1 (by omega)
   rw[hv]
   simp
theorem bIf (p:Pg)(e:Ex)(hw:e.w<=1048576)(hc:p.cs.length<=1048576):TM.Pure K 82 [.iv (.agg (dY p)),.iv (.agg (cD e))] (.iv (.bool (mX p e))):=by
 refine TM.bO (S:=[]) (r:=.iv (.bool (mX p e))) (aB K _ (fn:=t82) rfl rfl ?_) (by rw[aT])
 rw[bDh,bIe,bDj,go_seq']
 show aDd _ (go' K (lim K) aGi _ [.iv (.agg (dY p)),.iv (.agg (cD e)),u_,u_,u_,u_,u_,u_,u_,u_,u_,u_,u_,u_,u_] [])=_
 rw[st1 p e hw,go_seq',st2 p e hw,go_seq',st3 p e hw,go_seq']
 cases h1:aMh e (xS e) (decide (e.k=8∨e.k=10))with
 | true =>
  rw[bMm p e hw _ _ _ _ h1]
  simp (disch:=omega) only[go_sem,Bool.not_true,Bool.false_and]
 | false =>
  rw[bMn p e hw _ _ _ _ h1,go_seq']
  cases h2:aMi e with
  | true =>
   rw[bMo p e hw _ _ _ _ h2]
   simp (disch:=omega) only[go_sem,Bool.not_true,Bool.false_and,Bool.and_false]
  | false =>
   rw[bMp p e hw _ _ _ _ h2,go_seq']
   obtain⟨y7,y10,y11,h6⟩:=st6 p e hw (.seq gN (.seq gO (.seq gP fA))) [] (j_ (xS e)) (.iv (.bool (decide (e.k=8∨e.k=10))))
   rw[h6]
   cases hv:(e.vs.all fun v=>decide (0<=v∧v<p.vr))with
   | true =>
    rw[if_pos rfl,st7 p e hw hc]
    simp
   | false =>
    rw[if_neg (by decide)]
    simp (disch:=omega) only[go_sem,Bool.not_false,Bool.true_and,Bool.false_and]
theorem aXh (t:List UInt8)(ht:t.length<=2000000)(x3 x4 x5:TV):∀(k i:Nat) (x6 x7:TV),i+k=t.length ->
  ∃j y2 y6 y7,(j=.ret∧(t.drop i).all iV=false∨j=.exit 0∧(t.drop i).all iV=true) ∧
   lp' (lim K) t80L0 [.iv (.str t),z_,j_ (i:Int),x3,x4,x5,x6,x7] []=.ret (j,[.iv (.str t),z_,y2,x3,x4,x5,y6,y7],[])
 | 0,i,x6,x7,h=>by
  obtain rfl:i=t.length:=by omega
  refine⟨.exit 0,j_ t.length,z_,x7,.inr ⟨rfl,by rw[List.drop_length];rfl⟩,aI K _ _ t80L0.eq_1 ?_⟩
  simp (disch:=omega) only[go_sem]
 | k+1,i,x6,x7,h=>by
  have hla:i<t.length:=by omega
  have hix:=aLi (s:=t) (i:=(i:Int)) (kd:=.i64) (by omega)
  rw[Int.toNat_natCast]at hix
  have hdr:t.drop i=t.getD i 0::t.drop (i+1):=by
   rw[List.drop_eq_getElem_cons hla,List.getD_eq_getElem?_getD,List.getElem?_eq_getElem hla];rfl
  generalize hx:t.getD i 0=b at *
  have hbl:=b.toNat_lt
  by_cases h1:(b.toNat:Int)<48
  ·refine⟨.ret,j_ i,e_,e_,.inl ⟨rfl,?_⟩,aI K _ _ t80L0.eq_1 ?_⟩
   ·rw[hdr,List.all_cons];simp[iV];omega
   ·simp (disch:=omega) only[go_sem,hix,h1]
  ·by_cases h2:(57:Int)<b.toNat
   ·refine⟨.ret,j_ i,e_,e_,.inl ⟨rfl,?_⟩,aI K _ _ t80L0.eq_1 ?_⟩
    ·rw[hdr,List.all_cons];simp[iV];omega
    ·simp (disch:=omega) only[go_sem,hix,h1,h2]
   ·obtain⟨j,y2,y6,y7,hj,ih⟩:=aXh t ht x3 x4 x5 k (i+1) e_ z_ (by omega)
    rw[show((i+1:Nat):Int)=(i:Int)+1 by omega]at ih
    refine⟨j,y2,y6,y7,?_,aI K _ _ t80L0.eq_1 ?_⟩
    ·rw[hdr,List.all_cons,show iV b=true by simp[iV];omega,Bool.true_and];exact hj
    ·simp (disch:=omega) only[go_sem,hix,h1,h2,aH]
     exact congrArg er ih
theorem bIg {s:List UInt8}(h:s≠[48]):aLy s=match mQ s with
  | []=>false
  | a::r=>if a.toNat=48 then false else(a::r).all iV:=by
 unfold aLy
 cases mQ s with
 | nil=>rfl
 | cons a r=>simp[h]
theorem bIh (s:List UInt8)(hs:s.length<=2000000):TM.Pure K 80 [.iv (.str s)] (.iv (.bool (aLy s))):=by
 by_cases hz:s=[48]
 ·subst hz
  refine bO (S:=[]) (r:=e_) (aB K _ (fn:=t80) rfl rfl ?_) (by rw[aT];rfl)
  simp (disch:=omega) only[t80,go_sem]
 ·rw[bIg hz]
  have hzb:(s==[(48:UInt8)])=false:=by simp[hz]
  have tail:∀t:List UInt8,t.length<=2000000->∀x3 x4 x5 x6 x7:TV,(t≠[]->(t.getD 0 0).toNat≠48)->∃j y2 y6 y7,(j=.ret∧t.all iV=false∨j=.exit 0∧t.all iV=true) ∧
   lp' (lim K) t80L0 [.iv (.str t),z_,j_ 0,x3,x4,x5,x6,x7] []=.ret (j,[.iv (.str t),z_,y2,x3,x4,x5,y6,y7],[]):=fun t ht x3 x4 x5 x6 x7 _=>by
   have:=aXh t ht x3 x4 x5 t.length 0 x6 x7 (by omega)
   rw[List.drop_zero]at this
   exact this
  cases s with
  | nil =>
   refine bO (S:=[]) (r:=z_) (aB K _ (fn:=t80) rfl rfl ?_) (by rw[aT];rfl)
   simp (disch:=omega) only[t80,go_sem,hzb,List.length_nil]
  | cons a r =>
   have hl:(a::r).length=r.length+1:=rfl
   have h4:=bHu a r .i64
   have hbl:=a.toNat_lt
   have hsl:=xF [] (s:=a::r) (a:=1) (by rw[hl];omega)
   rw[show(1:Int).toNat=1 from rfl,show(a::r).drop 1=r from rfl]at hsl
   by_cases ha:a.toNat=45
   ·have hai:(a.toNat:Int)=45:=by omega
    rw[show mQ (a::r)=r by simp[mQ,ha]]
    cases r with
    | nil =>
     refine bO (S:=[]) (r:=z_) (aB K _ (fn:=t80) rfl rfl ?_) (by rw[aT])
     simp (disch:=omega) only[t80,go_sem,hzb,hl,h4,hai,hsl,List.length_nil]
    | cons b r2 =>
     have h5:=bHu b r2 .i64
     have hl2:(b::r2).length=r2.length+1:=rfl
     have hbl2:=b.toNat_lt
     simp only
     by_cases hb:b.toNat=48
     ·have hbi:(b.toNat:Int)=48:=by omega
      rw[if_pos hb]
      refine bO (S:=[]) (r:=z_) (aB K _ (fn:=t80) rfl rfl ?_) (by rw[aT])
      simp (disch:=omega) only[t80,go_sem,hzb,hl,h4,hai,hsl,hl2,h5,hbi]
     ·have hbi:¬(b.toNat:Int)=48:=by omega
      rw[if_neg hb]
      obtain⟨j,y2,y6,y7,hj,ih⟩:=tail (b::r2) (by simp at hs ⊢;omega) z_ e_ z_ u_ u_ (by intro _;simpa using hb)
      rcases hj with⟨rfl,hv⟩|⟨rfl,hv⟩
      ·refine bO (S:=[]) (r:=z_) (aB K _ (fn:=t80) rfl rfl ?_) (by rw[aT,hv])
       simp (disch:=omega) only[t80,go_sem,hzb,hl,h4,hai,hsl,hl2,h5,hbi]
       rw[ih]
       simp (disch:=omega) only[go_sem]
      ·refine bO (S:=[]) (r:=e_) (aB K _ (fn:=t80) rfl rfl ?_) (by rw[aT,hv])
       simp (disch:=omega) only[t80,go_sem,hzb,hl,h4,hai,hsl,hl2,h5,hbi]
       rw[ih]
       simp (disch:=omega) only[go_sem]
   ·have hai:¬(a.toNat:Int)=45:=by omega
    rw[show mQ (a::r)=a::r by simp[mQ,ha]]
    simp only
    by_cases hb:a.toNat=48
    ·have hbi:(a.toNat:Int)=48:=by omega
     rw[if_pos hb]
     refine bO (S:=[]) (r:=z_) (aB K _ (fn:=t80) rfl rfl ?_) (by rw[aT])
     simp (disch:=omega) only[t80,go_sem,hzb,hl,h4,hbi]
    ·have hbi:¬(a.toNat:Int)=48:=by omega
     rw[if_neg hb]
     obtain⟨j,y2,y6,y7,hj,ih⟩:=tail (a::r) hs z_ z_ z_ u_ u_ (by intro _;simpa using hb)
     rcases hj with⟨rfl,hv⟩|⟨rfl,hv⟩
     ·refine bO (S:=[]) (r:=z_) (aB K _ (fn:=t80) rfl rfl ?_) (by rw[aT,hv])
      simp (disch:=omega) only[t80,go_sem,hzb,hl,h4,hai,hbi]
      rw[ih]
      simp (disch:=omega) only[go_sem]
     ·refine bO (S:=[]) (r:=e_) (aB K _ (fn:=t80) rfl rfl ?_) (by rw[aT,hv])
      simp (disch:=omega) only[t80,go_sem,hzb,hl,h4,hai,hbi]
      rw[ih]
      simp (disch:=omega) only[go_sem]
theorem aBr (s:List UInt8)(hl:s.length<=2000000):∃l,TM.Pure K 79 [.iv (.str s)] (.tup [l,j_ (if okC s then 0 else 4)]):=by
 have h:=bHs s hl
 unfold okC
 cases hc:(dK s.length s 0).2 with
 | none=>rw[hc]at h;exact⟨_,h⟩
 | some p=>rw[hc]at h;exact⟨_,h⟩
theorem aEy:∀(n:Nat) (d:Dt),d.w<=n->gC d=((fL n d).1.all gC&&gC (fL n d).2)
 | 0,d,h=>by have:=Dt.w_eq d;omega
 | n+1,d,h=>by
  rw[fL]
  split
  ·rename_i hp
   have h2:=aBn hp
   have hk:d.k=6:=by simp only[Dt.pr,Bool.and_eq_true,decide_eq_true_eq]at hp;exact hp.1
   have m1:=Dt.kid_lt (gD (l:=d.ks) (i:=1) (by omega))
   have ih:=aEy n (d.ks.getD 1 default) (by omega)
   obtain⟨a,b,hab⟩:=aLz h2
   rw[aAs d,if_pos ⟨hk,h2⟩]
   rw[hab]at ih ⊢
   simp only[List.getD_cons_zero,List.getD_cons_succ,List.all_cons,List.all_nil,Bool.and_true]at ih ⊢
   rw[ih,Bool.and_assoc]
  ·simp
theorem aP9 (g:Tag)(l:List Dt)(hw:l.length<=1048576)(H:∀x∈l,TM.Pure K 51 [agD x] (.iv (.bool (gC x))))(x0 x1 x4 x6 x7 x10 x11 x12 x13 x14 x15 x16 x17 x18 x19:TV):∀(k i:Nat) (x8 x9:TV),i+k=l.length ->
  ∃j y5 y8 y9,(j=.ret∧(l.drop i).all gC=false∨j=.exit 0∧(l.drop i).all gC=true) ∧
   lp' (lim K) t51L1 [x0,x1,z_,.iv (.sl g (dW l)),x4,j_ (i:Int),x6,x7,x8,x9,x10,x11,x12,x13,x14,x15,x16,x17,x18,x19] []=.ret (j,[x0,x1,z_,.iv (.sl g (dW l)),x4,y5,x6,x7,y8,y9,x10,x11,x12,x13,x14,x15,x16,x17,x18,x19],[])
 | 0,i,x8,x9,h=>by
  obtain rfl:i=l.length:=by omega
  refine⟨.exit 0,j_ l.length,z_,x9,.inr ⟨rfl,by rw[List.drop_length];rfl⟩,aI K _ _ t51L1.eq_1 ?_⟩
  simp (disch:=omega) only[go_sem,aK]
 | k+1,i,x8,x9,h=>by
  have hla:i<l.length:=by omega
  have hix:=ixD (g:=g) (ks:=l) (i:=(i:Int)) (by omega)
  rw[Int.toNat_natCast]at hix
  have hdr:=fP hla
  have hm:=H _ (gD (i:=i) hla)
  generalize hx:l.getD i default=x at *
  cases hv:gC x with
  | false =>
   rw[hv]at hm
   refine⟨.ret,j_ i,e_,e_,.inl ⟨rfl,by rw[hdr,List.all_cons,hv,Bool.false_and]⟩,aI K _ _ t51L1.eq_1 ?_⟩
   simp (disch:=omega) only[go_sem,aK,hix,jV,aF hm]
  | true =>
   rw[hv]at hm
   obtain⟨j,y5,y8,y9,hj,ih⟩:=aP9 g l hw H x0 x1 x4 x6 x7 x10 x11 x12 x13 x14 x15 x16 x17 x18 x19 k (i+1) e_ z_ (by omega)
   rw[show((i+1:Nat):Int)=(i:Int)+1 by omega]at ih
   refine⟨j,y5,y8,y9,by rw[hdr,List.all_cons,hv,Bool.true_and];exact hj,aI K _ _ t51L1.eq_1 ?_⟩
   simp (disch:=omega) only[go_sem,aK,hix,jV,aF hm,aH]
   exact congrArg er ih
theorem aGk (d:Dt)(hw:d.ks.length<=1048576)(H:∀x∈d.ks,TM.Pure K 51 [agD x] (.iv (.bool (gC x))))(x0 x1 x3 x5 x7 x8 x9 x10 x13 x14 x15 x16 x17 x18 x19:TV):∀(k i:Nat) (x11 x12:TV),i+k=d.ks.length ->
  ∃j y6 y11 y12,(j=.ret∧(d.ks.drop i).all gC=false∨j=.exit 2∧(d.ks.drop i).all gC=true) ∧
   lp' (lim K) t51L0 [x0,x1,z_,x3,lbD d,x5,j_ (i:Int),x7,x8,x9,x10,x11,x12,x13,x14,x15,x16,x17,x18,x19] []=.ret (j,[x0,x1,z_,x3,lbD d,x5,y6,x7,x8,x9,x10,y11,y12,x13,x14,x15,x16,x17,x18,x19],[])
 | 0,i,x11,x12,h=>by
  obtain rfl:i=d.ks.length:=by omega
  refine⟨.exit 2,j_ d.ks.length,z_,x12,.inr ⟨rfl,by rw[List.drop_length];rfl⟩,aI K _ _ t51L0.eq_1 ?_⟩
  simp (disch:=omega) only[go_sem,aK]
 | k+1,i,x11,x12,h=>by
  have hla:i<d.ks.length:=by omega
  have hix:=ixD (g:=d.g) (ks:=d.ks) (i:=(i:Int)) (by omega)
  rw[Int.toNat_natCast]at hix
  have hdr:=fP hla
  have hm:=H _ (gD (i:=i) hla)
  generalize hx:d.ks.getD i default=x at *
  cases hv:gC x with
  | false =>
   rw[hv]at hm
   refine⟨.ret,j_ i,e_,e_,.inl ⟨rfl,by rw[hdr,List.all_cons,hv,Bool.false_and]⟩,aI K _ _ t51L0.eq_1 ?_⟩
   simp (disch:=omega) only[go_sem,aK,hix,jV,aF hm]
  | true =>
   rw[hv]at hm
   obtain⟨j,y6,y11,y12,hj,ih⟩:=aGk d hw H x0 x1 x3 x5 x7 x8 x9 x10 x13 x14 x15 x16 x17 x18 x19 k (i+1) e_ z_ (by omega)
   rw[show((i+1:Nat):Int)=(i:Int)+1 by omega]at ih
   refine⟨j,y6,y11,y12,by rw[hdr,List.all_cons,hv,Bool.true_and];exact hj,aI K _ _ t51L0.eq_1 ?_⟩
   simp (disch:=omega) only[go_sem,aK,hix,jV,aF hm,aH]
   exact congrArg er ih
theorem aXi:∀N,N<=1048576->∀d:Dt,d.w<=N->TM.Pure K 51 [agD d] (.iv (.bool (gC d)))
  | 0,hN=>fun d hw=>by have:=Dt.w_eq d;omega
  | N+1,hN=>fun d hw=>by
    have c50:=bIc d.w d (Nat.le_refl _) (by omega)
    have ih:=aXi N (by omega)
    have hmi:=aEy d.w d (Nat.le_refl _)
    have htl:=aBo d.w d (Nat.le_refl _)
    have hme:=aEv d.w d
    have hln:=aEw d.w d
    rw[hmi]
    generalize fL d.w d=q at *
    obtain⟨l,x⟩:=q
    simp only at c50 htl hme hln ⊢
    have hwx:=Dt.w_eq x
    have hlx:=Dt.ws_len x.ks
    have H1:∀y∈l,TM.Pure K 51 [agD y] (.iv (.bool (gC y))):=fun y hy=>ih y (by have:=hme y hy;omega)
    have H2:∀y∈x.ks,TM.Pure K 51 [agD y] (.iv (.bool (gC y))):=fun y hy=>ih y (by have:=Dt.kid_lt hy;omega)
    obtain⟨j,y5,y8,y9,hj,l1⟩:=aP9 (nG l) l (by omega) H1 (agD d) (lbD d) (lbD x) u_ u_ u_ u_ u_ u_ u_ u_ u_ u_ u_ u_ l.length 0 u_ u_ (by omega)
    rw[n0_]at l1
    rw[List.drop_zero]at hj
    rcases hj with⟨rfl,hv⟩|⟨rfl,hv⟩
    · rw[hv,Bool.false_and]
      refine bO (S:=[]) (r:=z_) (aB K _ (fn:=t51) rfl rfl ?_) (by rw[aT])
      simp (disch:=omega) only[t51,go_sem,aF c50]
      rw[l1]
      simp (disch:=omega) only[go_sem]
    rw[hv,Bool.true_and,aAs,if_neg (by have h1:=htl.1;unfold Dt.pr at h1;simpa using h1)]
    by_cases h7:x.k=7
    · rw[if_pos h7]
      obtain⟨j,y6,y11,y12,hj,l2⟩:=aGk x (by omega) H2 (agD d) (lbD d) (.iv (.sl (nG l) (dW l))) y5 u_ y8 y9 z_ u_ u_ u_ u_ u_ u_ u_ x.ks.length 0 u_ u_ (by omega)
      rw[n0_]at l2
      rw[List.drop_zero]at hj
      unfold lbD at l1 l2
      rw[h7]at l1 l2
      rcases hj with⟨rfl,hv2⟩|⟨rfl,hv2⟩
      · rw[hv2]
        refine bO (S:=[]) (r:=z_) (aB K _ (fn:=t51) rfl rfl ?_) (by rw[aT])
        simp (disch:=omega) only[t51,go_sem,aF c50,h7]
        rw[l1]
        simp (disch:=omega) only[go_sem]
        rw[l2]
        simp (disch:=omega) only[go_sem]
      · rw[hv2]
        obtain⟨lc,hc⟩:=aBr x.t (by omega)
        refine bO (S:=[]) (r:=e_) (aB K _ (fn:=t51) rfl rfl ?_) (by rw[aT])
        simp (disch:=omega) only[t51,go_sem,aF c50,h7]
        rw[l1]
        simp (disch:=omega) only[go_sem]
        rw[l2]
        simp (disch:=omega) only[go_sem,aF hc]
    · rw[if_neg h7]
      by_cases h0:x.ks=[]
      · rw[h0,List.isEmpty_nil,Bool.true_and]
        have hk0:¬(0:Int)<x.ks.length:=by rw[h0];simp
        obtain⟨j,y6,y11,y12,hj,l2⟩:=aGk x (by omega) H2 (agD d) (lbD d) (.iv (.sl (nG l) (dW l))) y5 u_ y8 y9 z_ u_ u_ u_ u_ u_ u_ u_ x.ks.length 0 u_ u_ (by omega)
        rw[n0_]at l2
        rw[h0,List.drop_zero]at hj
        obtain⟨rfl,_⟩:j=.exit 2∧True:=by rcases hj with⟨_,h⟩|⟨h,_⟩<;>first|exact⟨h,trivial⟩|(simp at h)
        obtain⟨lc,hc⟩:=aBr x.t (by omega)
        have h52:=bIh x.t (by omega)
        have h53:=aF2 x.n
        have key:∀b:Bool,aEk x=b->TM.Pure K 51 [agD d] (.iv (.bool b)):=fun b hb=>by
          refine bO (S:=[]) (r:=.iv (.bool b)) (aB K _ (fn:=t51) rfl rfl ?_) (by rw[aT])
          simp (disch:=omega) only[t51,go_sem,aF c50]
          rw[l1]
          simp (disch:=omega) only[go_sem,h7,aK,hk0]
          rw[l2]
          subst hb
          unfold aEk
          by_cases hs:x.k=0∨x.k=8∨x.k=9∨x.k=10
          · rw[if_pos hs]
            rcases hs with h|h|h|h<;>simp (disch:=omega) only[go_sem,aF hc,h]
          rw[if_neg hs]
          have n0:¬x.k=0:=fun h=>hs (.inl h)
          have n8:¬x.k=8:=fun h=>hs (.inr (.inl h))
          have n9:¬x.k=9:=fun h=>hs (.inr (.inr (.inl h)))
          have n10:¬x.k=10:=fun h=>hs (.inr (.inr (.inr h)))
          by_cases h1:x.k=1
          · rw[if_pos h1]
            by_cases m0:x.n=0
            · simp (disch:=omega) only[go_sem,aF hc,h1,m0,true_or]
            · by_cases m1:x.n=1
              · simp (disch:=omega) only[go_sem,aF hc,h1,m1,or_true]
              · simp (disch:=omega) only[go_sem,aF hc,h1,m0,m1,or_self]
          rw[if_neg h1]
          by_cases h2:x.k=2
          · rw[if_pos h2]
            simp (disch:=omega) only[go_sem,aF hc,aF h52,h2]
          rw[if_neg h2]
          by_cases h3:x.k=3
          · rw[if_pos h3]
            simp (disch:=omega) only[go_sem,aF hc,h53,h3]
          rw[if_neg h3]
          by_cases h4:x.k=4
          · rw[if_pos h4]
            cases ho:okC x.t
            · rw[ho]at hc
              simp (disch:=omega) only[go_sem,aF hc,h4,Bool.false_eq_true]
            · rw[ho]at hc
              simp (disch:=omega) only[go_sem,aF hc,h4]
          rw[if_neg h4]
          by_cases h5:x.k=5
          · rw[if_pos h5]
            cases ho:okC x.t
            · rw[ho]at hc
              simp (disch:=omega) only[go_sem,aF hc,h5,Bool.false_eq_true,Bool.false_and]
            · rw[ho]at hc
              cases ht:x.t with
              | nil =>
                rw[ht]at hc
                simp (disch:=omega) only[go_sem,aF hc,h5,ht,List.length_nil,List.isEmpty_nil,Bool.not_true,Bool.true_and]
              | cons a r =>
                rw[ht]at hc
                have:(a::r).length=r.length+1:=rfl
                simp (disch:=omega) only[go_sem,aF hc,h5,ht,this,List.isEmpty_cons,Bool.not_false,Bool.true_and]
          rw[if_neg h5]
          simp (disch:=omega) only[go_sem,aF hc,n0,n8,n9,n10,h1,h2,h3,h4,h5,h7]
        exact key _ rfl
      · rw[show x.ks.isEmpty=false by simpa using h0,Bool.false_and]
        have hk0:(0:Int)<x.ks.length:=by have:x.ks.length≠0:=fun h=>h0 (List.eq_nil_of_length_eq_zero h);omega
        refine bO (S:=[]) (r:=z_) (aB K _ (fn:=t51) rfl rfl ?_) (by rw[aT])
        simp (disch:=omega) only[t51,go_sem,aF c50]
        rw[l1]
        simp (disch:=omega) only[go_sem,h7,aK,hk0]
theorem aGl (i:Nat)(l:M_):cellsOf (acc i l)=[acc i l]:=by unfold acc;split<;>rfl
theorem aIv (i:Nat)(l:M_):cB (acc i l)=false:=by unfold acc;split<;>rfl
attribute [go_sem] aGl aIv
def gI (l:List (List IV))(i:Nat)(S:aA):Nat:=if l=[]then S.length else i
def gS (w el:Nat)(l:List (List IV))(i:Nat)(S:aA):aA:=if l=[]then S++[.tok 1 w el]else S.set i (.tok (l.length+1) w el)
def At (w el:Nat)(l:List (List IV))(i:Nat)(S:aA):Prop:=l≠[]->S[i]? = some (.tok l.length w el)
def mZ (l:List (List IV))(i:Nat):List Nat:=if l=[]then []else [i]
theorem At.nil {w el i:Nat}{S:aA}:At w el [] i S:=fun h=>absurd rfl h
theorem At.keep {w el i:Nat}{S S':aA}{l:M_}{I:List Nat}(h:At w el l i S)(k:aJ I S S')(hi:l≠[]->i∉I):At w el l i S':=fun hl=>k.get _ _ (hi hl) (h hl)
theorem vZ (w el:Nat)(l:M_)(i:Nat)(S:aA):aJ (mZ l i) S (gS w el l i S):=by
 unfold mZ gS
 by_cases h:l=[]
 ·rw[if_pos h,if_pos h];exact aJ.app _ _ _
 ·rw[if_neg h,if_neg h];exact aJ.set _ (by simp) _
theorem aXj {w el:Nat}{l:M_}{i:Nat}{S:aA}(h:At w el l i S)(c:List IV):At w el (l++[c]) (gI l i S) (gS w el l i S):=by
 intro _
 unfold gI gS
 by_cases h0:l=[]
 ·rw[if_pos h0,if_pos h0,h0];simp
 ·rw[if_neg h0,if_neg h0,bQ (aO (h h0))];simp
theorem bIi {w el b:Nat}{l:M_}{i:Nat}{S:aA}{t:Tag}{c:List IV}(h:At w el l i S)(hc:c.length=w∧c.all fY=true)(hl:cO w l)(hr:fZ (l.length+1) b=true):
  bY false w b el S (acc i l) (.iv (.sl t [c]))=some (acc (gI l i S) (l++[c]),gS w el l i S):=by
 have hx:hP S (.iv (.sl t [c])) [c]:=hP.sl ..
 have hw:cO w [c]:=by intro y hy;simp at hy;subst hy;exact hc
 by_cases h0:l=[]
 ·subst h0
  rw[fG,qV (by decide) hx hw hl (by simp) hr,List.nil_append,bBt]
  simp[gI,gS]
 ·rw[dE _ h0,aDm hx hw hl (h h0) hr,dE _ (by simp)]
  simp[gI,gS,h0]
theorem bK5 {l:M_}{i j:Nat}{S:aA}{b:aP}(hj:S[j]? = some b)(h:l≠[]->i≠j):gI l i S≠j:=by
 unfold gI
 split
 ·have:=aO hj;omega
 ·rename_i h0;exact h h0
def bU (l:List Int):List (List IV):=TM.one (.int .i64) l
theorem pO (l:List Int)(v:Int):bU l++[[.int .i64 v]]=bU (l++[v]):=by simp[bU,TM.one]
theorem aIw {l:List Int}:bU l=[]↔l=[]:=by simp[bU,TM.one]
theorem pP (l:List Int):(bU l).length=l.length:=by simp[bU,TM.one]
theorem aAx (l:List Int):cO 1 (bU l):=cO.one (fun _=>rfl) l
structure Own (S:aA) (i5 io:Nat) (own:List Int):Prop where
 box:S[i5]? = some (.cells 23 false [acc io (bU own)])
 tok:At 1 3 (bU own) io S
theorem bIj {S:aA}{i j:Nat}{a b:aP}(h:S[i]? = some a)(g:S[j]? = some b)(hab:a≠b):i≠j:=by
 rintro rfl
 rw[h]at g;exact hab (Option.some.inj g)
theorem oQ {I J:List Nat}{S S' S'':aA}(h:aJ I S S')(g:aJ J S' S'')(hj:∀j∈J,j∈I∨S.length<=j):aJ I S S'' :=
 ⟨Nat.le_trans h.len g.len,fun i b hi hb=>g.get i b (fun hJ=>by
  rcases hj i hJ with h1|h1
  ·exact hi h1
  ·have:=aO hb;omega) (h.get i b hi hb)⟩
theorem At.other {w el w' el' i i':Nat}{l l':M_}{S:aA}(h':At w' el' l' i' S)(hd:l'≠[]->l≠[]->i'≠i):At w' el' l' i' (gS w el l i S)∧(l'≠[]->i'≠gI l i S):=by
 refine⟨h'.keep (vZ w el l i S) fun hl=>?_,fun hl=>?_⟩
 ·unfold mZ
  split
  ·simp
  ·rename_i h0;simpa using hd hl h0
 ·unfold gI
  split
  ·have:=aO (h' hl);omega
  ·rename_i h0;exact hd hl h0
abbrev rcB (p:Pg) (a b:TV):aP:=.cells 115 false (fT p++[a,b])
structure RC (p:Pg) (S:aA) (ic jb jc:Nat) (B C:List Int):Prop where
 cel:S[ic]? = some (rcB p (acc jb (bU B)) (acc jc (bU C)))
 ab:At 1 3 (bU B) jb S
 ac:At 1 3 (bU C) jc S
 ne:bU B≠[]->bU C≠[]->jb≠jc
theorem pQ {l:M_}{i q:Nat}(h:q∈mZ l i):l≠[]∧q=i:=by
 unfold mZ at h
 split at h
 ·simp at h
 ·rename_i h0;exact⟨h0,by simpa using h⟩
theorem At.ne_cells {w el i j:Nat}{l:M_}{S:aA}{v:Nat}{b:Bool}{c:List TV}(h:At w el l i S)(hj:S[j]? = some (.cells v b c))(hl:l≠[]):i≠j:=bIj (h hl) hj (by simp)
def aBs (p:Pg)(S:aA)(ic jb jc:Nat)(B C:List Int)(v:Int):aA:=(gS 1 3 (bU B) jb S).set ic (rcB p (acc (gI (bU B) jb S) (bU (B++[v]))) (acc jc (bU C)))
def aRo (p:Pg)(S:aA)(ic jb jc:Nat)(B C:List Int)(v:Int):aA:=(gS 1 3 (bU C) jc S).set ic (rcB p (acc jb (bU B)) (acc (gI (bU C) jc S) (bU (C++[v]))))
theorem aGm {w el i j:Nat}{l:M_}{S:aA}{v:Nat}{b:Bool}{c:List TV}(h:At w el l i S)(hj:S[j]? = some (.cells v b c)):(gS w el l i S)[j]? = some (.cells v b c) :=
 (vZ w el l i S).get _ _ (fun hq=>by obtain⟨h0,rfl⟩:=pQ hq;exact At.ne_cells h hj h0 rfl) hj
theorem aXk {p:Pg}{S:aA}{ic jb jc:Nat}{B C:List Int}(v:Int):aJ (ic::mZ (bU B) jb) S (aBs p S ic jb jc B C v) :=
 ((vZ 1 3 (bU B) jb S).mono (fun q hq=>List.mem_cons_of_mem _ hq)).trans (aJ.set _ (by simp) _)
theorem aXl {p:Pg}{S:aA}{ic jb jc:Nat}{B C:List Int}(v:Int):aJ (ic::mZ (bU C) jc) S (aRo p S ic jb jc B C v) :=
 ((vZ 1 3 (bU C) jc S).mono (fun q hq=>List.mem_cons_of_mem _ hq)).trans (aJ.set _ (by simp) _)
theorem aEz {p:Pg}{S:aA}{ic jb jc:Nat}{B C:List Int}(h:RC p S ic jb jc B C)(v:Int){l:M_}{i:Nat}(hi:At 1 3 l i S)(hd:l≠[]->bU B≠[]->i≠jb):At 1 3 l i (aBs p S ic jb jc B C v)∧(l≠[]->i≠gI (bU B) jb S):=by
 obtain⟨h1,h2⟩:=At.other (w:=1) (el:=3) (l:=bU B) (i:=jb) hi hd
 exact⟨h1.keep (aJ.set (I:=[ic]) _ (by simp) _) (fun hl=>by simpa using At.ne_cells hi h.cel hl),h2⟩
theorem aRp {p:Pg}{S:aA}{ic jb jc:Nat}{B C:List Int}(h:RC p S ic jb jc B C)(v:Int){l:M_}{i:Nat}(hi:At 1 3 l i S)(hd:l≠[]->bU C≠[]->i≠jc):At 1 3 l i (aRo p S ic jb jc B C v)∧(l≠[]->i≠gI (bU C) jc S):=by
 obtain⟨h1,h2⟩:=At.other (w:=1) (el:=3) (l:=bU C) (i:=jc) hi hd
 exact⟨h1.keep (aJ.set (I:=[ic]) _ (by simp) _) (fun hl=>by simpa using At.ne_cells hi h.cel hl),h2⟩
theorem bIk {p:Pg}{S:aA}{ic jb jc:Nat}{B C:List Int}(h:RC p S ic jb jc B C)(v:Int):RC p (aBs p S ic jb jc B C v) ic (gI (bU B) jb S) jc (B++[v]) C:=by
 have hg:=aXj h.ab [.int .i64 v]
 rw[pO]at hg
 have hc:=aGm h.ab h.cel
 have ho:=aEz h v h.ac (fun a b=>(h.ne b a).symm)
 refine⟨bQ (aO hc) _,hg.keep (aJ.set (I:=[ic]) _ (by simp) _) (fun hl=>by simpa using At.ne_cells hg hc hl),ho.1,fun _ hl=>(ho.2 hl).symm⟩
theorem bIl {p:Pg}{S:aA}{ic jb jc:Nat}{B C:List Int}(h:RC p S ic jb jc B C)(v:Int):RC p (aRo p S ic jb jc B C v) ic jb (gI (bU C) jc S) B (C++[v]):=by
 have hg:=aXj h.ac [.int .i64 v]
 rw[pO]at hg
 have hc:=aGm h.ac h.cel
 have ho:=aRp h v h.ab (fun a b=>h.ne a b)
 refine⟨bQ (aO hc) _,ho.1,hg.keep (aJ.set (I:=[ic]) _ (by simp) _) (fun hl=>by simpa using At.ne_cells hg hc hl),fun hl _=>ho.2 hl⟩
theorem RC.keep {p:Pg}{S S':aA}{ic jb jc:Nat}{B C:List Int}{I:List Nat}(h:RC p S ic jb jc B C)(k:aJ I S S')(h1:ic∉I)(h2:bU B≠[]->jb∉I)(h3:bU C≠[]->jc∉I):RC p S' ic jb jc B C :=
 ⟨k.get _ _ h1 h.cel,h.ab.keep k h2,h.ac.keep k h3,h.ne⟩
theorem kZ (S:aA)(i:Nat)(l:List Int):lZ S (acc i (bU l))=some (.iv (.sl (nG (bU l)) (TM.one (.int .i64) l))):=xG S i (bU l)
theorem bIm {l:M_}{i:Nat}{S:aA}:l≠[]∧gI l i S=i∨S.length<=gI l i S:=by
 unfold gI
 split
 ·exact .inr (Nat.le_refl _)
 ·rename_i h;exact .inl ⟨h,rfl⟩
def Nw (S:aA)(l l':List (List IV))(i i':Nat):Prop:=∀q∈mZ l' i',q∈mZ l i∨S.length<=q
theorem Nw.refl (S:aA)(l:M_)(i:Nat):Nw S l l i i:=fun q hq=>.inl hq
theorem Nw.step (S:aA)(l l':M_)(i:Nat):Nw S l l' i (gI l i S):=fun q hq=>by
 obtain⟨_,rfl⟩:=pQ hq
 rcases bIm (l:=l) (i:=i) (S:=S)with⟨h,he⟩|h
 ·left;rw[he];unfold mZ;rw[if_neg h];simp
 ·exact .inr h
theorem Nw.trans {S S':aA}{l l' l'':M_}{i i' i'':Nat}(h:Nw S l l' i i')(g:Nw S' l' l'' i' i'')(hs:S.length<=S'.length):Nw S l l'' i i'':=fun q hq=>by
 rcases g q hq with h1|h1
 ·exact h q h1
 ·exact .inr (Nat.le_trans hs h1)
theorem aQa (p:Pg)(e:Ex)(hw:e.w<=1048576)(ic jc:Nat)(Cs:List Int)(x1 x2 x3 x8 x9 x10 x11 x14 x15 x16 x17 x18:TV):∀(k i:Nat) (Bs ins B:List Int) (jb ji:Nat) (S:aA) (x12 x13:TV),i+k=e.vs.length ->
  RC p S ic jb jc Bs Cs->(∀v,v∈Bs↔v∈B)->At 1 3 (bU ins) ji S->(bU ins≠[]->bU Bs≠[]->ji≠jb)->(bU ins≠[]->bU Cs≠[]->ji≠jc)->Bs.length+k<=4194304->ins.length+k<=8388608 ->
  ∃j r y6 y7 y12 y13 S',(j=.ret∧r=j_ 14∧rN (e.vs.drop i) B=none∨j=.exit 0∧r=j_ 0∧∃B1 Bs' jb' ji',rN (e.vs.drop i) B=some B1∧(∀v,v∈Bs'↔v∈B1)∧Bs'.length=Bs.length+k∧y6=acc ji' (bU (ins++e.vs.drop i)) ∧
    RC p S' ic jb' jc Bs' Cs∧At 1 3 (bU (ins++e.vs.drop i)) ji' S'∧(bU (ins++e.vs.drop i)≠[]->bU Bs'≠[]->ji'≠jb')∧(bU (ins++e.vs.drop i)≠[]->bU Cs≠[]->ji'≠jc)∧Nw S (bU Bs) (bU Bs') jb jb'∧Nw S (bU ins) (bU (ins++e.vs.drop i)) ji ji')∧aJ (ic::(mZ (bU Bs) jb++mZ (bU ins) ji)) S S' ∧
   lp' (lim K) t53L1 [.ptr ic 115 0,x1,x2,x3,lbE e,j_ 0,acc ji (bU ins),j_ (i:Int),x8,x9,x10,x11,x12,x13,x14,x15,x16,x17,x18] S
    = .ret (j,[.ptr ic 115 0,x1,x2,x3,lbE e,r,y6,y7,x8,x9,x10,x11,y12,y13,x14,x15,x16,x17,x18],S')
 | 0,i,Bs,ins,B,jb,ji,S,x12,x13,h,hrc,hB,hin,d1,d2,b1,b2=>by
  obtain rfl:i=e.vs.length:=by omega
  have hnil:ins++e.vs.drop e.vs.length=ins:=by rw[List.drop_length,List.append_nil]
  refine⟨.exit 0,_,acc ji (bU ins),j_ e.vs.length,z_,x13,S,.inr ⟨rfl,rfl,B,Bs,jb,ji,by rw[List.drop_length];rfl,hB,rfl,by rw[hnil],hrc,by rw[hnil];exact hin,by rw[hnil];exact d1,by rw[hnil];exact d2,Nw.refl _ _ _,by rw[hnil];exact Nw.refl _ _ _⟩,aJ.refl _ _,aI K _ _ t53L1.eq_1 ?_⟩
  simp (disch:=omega) only[go_sem]
 | k+1,i,Bs,ins,B,jb,ji,S,x12,x13,h,hrc,hB,hin,d1,d2,b1,b2=>by
  have hwe:=Ex.w_eq e
  have hla:i<e.vs.length:=by omega
  have hix:=sU (f:=IV.int .i64) (t:=e.gv) (l:=e.vs) (i:=(i:Int)) (by omega)
  rw[Int.toNat_natCast]at hix
  have hdr:=fP hla
  generalize hx:e.vs.getD i default=v at *
  have hcel:=hrc.cel
  have c104:=aMf (nG (bU Bs)) Bs v (by omega) []
  by_cases hv:v∈Bs
  ·rw[decide_eq_true hv]at c104
   refine⟨.ret,_,acc ji (bU ins),j_ i,e_,e_,S,.inl ⟨rfl,rfl,by rw[hdr,rN,if_pos ((hB v).1 hv)]⟩,aJ.refl _ _,aI K _ _ t53L1.eq_1 ?_⟩
   simp (disch:=omega) only[go_sem,hix,hcel,rcB,kZ,c104]
  ·rw[decide_eq_false hv]at c104
   have e1:=bIi (b:=8) (c:=[.int .i64 v]) (t:=.full) hrc.ab ⟨rfl,rfl⟩ (aAx Bs) (cI (by rw[pP];omega))
   rw[pO]at e1
   have hc1:=aGm hrc.ab hrc.cel
   have hrc2:=bIk hrc v
   have ho:=aEz hrc v hin d1
   have hk2:=aXk (p:=p) (S:=S) (ic:=ic) (jb:=jb) (jc:=jc) (B:=Bs) (C:=Cs) v
   have hst:(gS 1 3 (bU Bs) jb S).set ic (.cells 115 false [j_ p.b.k,j_ p.b.n,.iv (.sl p.b.gv (TM.one (.int .i64) p.b.vs)),.iv (.bool p.b.r),.iv (.sl p.b.g (bW p.b.ks)),j_ p.gl,j_ p.vr,.iv (.sl p.gc (dW p.cs)),acc (gI (bU Bs) jb S) (bU (Bs++[v])),acc jc (bU Cs)])=aBs p S ic jb jc Bs Cs v:=rfl
   have e2:=bIi (b:=8) (c:=[.int .i64 v]) (t:=.full) ho.1 ⟨rfl,rfl⟩ (aAx ins) (cI (by rw[pP];omega))
   rw[pO]at e2
   have hg2:=aXj ho.1 [.int .i64 v]
   rw[pO]at hg2
   have hk3:=vZ 1 3 (bU ins) ji (aBs p S ic jb jc Bs Cs v)
   have hrc3:=hrc2.keep hk3 (fun hq=>by obtain⟨h0,h1⟩:=pQ hq;exact At.ne_cells ho.1 hrc2.cel h0 h1.symm) (fun hb hq=>by obtain⟨h0,h1⟩:=pQ hq;exact ho.2 h0 h1.symm) (fun hc hq=>by obtain⟨h0,h1⟩:=pQ hq;exact d2 h0 hc h1.symm)
   generalize hS3:gS 1 3 (bU ins) ji (aBs p S ic jb jc Bs Cs v)=S3 at *
   have hgn:∀(l:List Int),bU l≠[]->∀j,At 1 3 (bU l) j (aBs p S ic jb jc Bs Cs v)->(bU ins≠[]->ji≠j)->gI (bU ins) ji (aBs p S ic jb jc Bs Cs v)≠j:=fun l hl j ha hj=>bK5 (ha hl) hj
   obtain⟨j,r,y6,y7,y12,y13,S',hj,q9,ih⟩:=aQa p e hw ic jc Cs x1 x2 x3 x8 x9 x10 x11 x14 x15 x16 x17 x18 k (i+1) (Bs++[v]) (ins++[v]) (v::B) _ _ S3 e_ z_ (by omega) hrc3 (fun u=>by simp[hB u,or_comm]) hg2
    (fun _ hb=>hgn _ hb _ hrc2.ab (fun h0=>ho.2 h0)) (fun _ hc=>hgn _ hc _ hrc2.ac (fun h0=>d2 h0 hc)) (by simp;omega) (by simp;omega)
   rw[show((i+1:Nat):Int)=(i:Int)+1 by omega]at ih
   have hadd:rN (e.vs.drop i) B=rN (e.vs.drop (i+1)) (v::B):=by rw[hdr,rN,if_neg (fun h=>hv ((hB v).2 h))]
   have happ:ins++e.vs.drop i=(ins++[v])++e.vs.drop (i+1):=by rw[hdr];simp
   have hl23:S.length<=(aBs p S ic jb jc Bs Cs v).length:=hk2.len
   refine⟨j,r,y6,y7,y12,y13,S',?_,?_,aI K _ _ t53L1.eq_1 ?_⟩
   ·rw[hadd,happ]
    rcases hj with hj|⟨hj,hr,B1,Bs',jb',ji',q1,q2,q3,q4,q5,q6,q7,q8,q10,q11⟩
    ·exact .inl hj
    ·refine .inr ⟨hj,hr,B1,Bs',jb',ji',q1,q2,by rw[q3];simp;omega,q4,q5,q6,q7,q8,?_,?_⟩
     ·exact Nw.trans (Nw.step S _ _ _) q10 (Nat.le_trans hl23 hk3.len)
     ·exact Nw.trans (fun q hq=>by
       rcases Nw.step (aBs p S ic jb jc Bs Cs v) (bU ins) _ ji q hq with h|h
       ·exact .inl h
       ·exact .inr (Nat.le_trans hl23 h)) q11 (Nat.le_trans hl23 hk3.len)
   ·refine oQ (oQ (I:=ic::(mZ (bU Bs) jb++mZ (bU ins) ji)) (hk2.mono fun q hq=>?_) hk3 fun q hq=>?_) q9 fun q hq=>?_
    ·simp only[List.mem_cons,List.mem_append]at hq ⊢
     rcases hq with h|h
     ·exact .inl h
     ·exact .inr (.inl h)
    ·left;simp only[List.mem_cons,List.mem_append];exact .inr (.inr hq)
    ·simp only[List.mem_cons,List.mem_append]at hq ⊢
     rcases hq with h|h|h
     ·exact .inl (.inl h)
     ·rcases Nw.step S (bU Bs) _ jb q h with h|h
      ·exact .inl (.inr (.inl h))
      ·exact .inr h
     ·rcases Nw.step (aBs p S ic jb jc Bs Cs v) (bU ins) _ ji q h with h|h
      ·exact .inl (.inr (.inr h))
      ·exact .inr (Nat.le_trans hl23 h)
   ·simp (disch:=omega) only[go_sem,hix,hcel,rcB,kZ,c104,e1,hc1,hst,e2,hS3,aH]
    exact congrArg er ih
def inS (S:aA)(As:List Int):aA:=if As=[]then S else S++[.tok As.length 1 3]
theorem bK6 (S:aA)(ja:Nat)(As:List Int)(hl:As.length<=8388608):bY false 1 8 3 S k_ (acc ja (bU As))=some (acc S.length (bU As),inS S As):=by
 unfold inS
 by_cases h:As=[]
 ·subst h
  rw[if_pos rfl]
  exact sX rfl (hP.sl ..)
 ·rw[if_neg h]
  have h0:bU As≠[]:=by simpa[aIw] using h
  have:=qV (w:=1) (b:=8) (el:=3) (S:=S) (t:=.nil) (l:=[]) (ys:=bU As) (x:=.tsl ja (bU As)) (by decide) (hP.tsl ..) (aAx As) (by simp[cO]) h0 (cI (by rw[pP];simp;omega))
  rw[dE _ h0,dE _ h0,this]
  simp[pP]
theorem bIn (S:aA)(As:List Int):At 1 3 (bU As) S.length (inS S As):=fun h=>by
 have h0:As≠[]:=by simpa[aIw] using h
 unfold inS
 rw[if_neg h0,dG,pP]
theorem aXm (S:aA)(As:List Int):aJ [] S (inS S As):=by
 unfold inS
 split
 ·exact aJ.refl _ _
 ·exact aJ.app _ _ _
def aE0 (p:Pg)(ic:Nat)(S S':aA)(Bs Cs:List Int)(jb jc n:Nat)(f:Int×List Int×List Int):Prop :=
 aJ (ic::(mZ (bU Bs) jb++mZ (bU Cs) jc)) S S'∧(f.1=0->∃Bs' Cs' jb' jc',RC p S' ic jb' jc' Bs' Cs'∧(∀v,v∈Bs'↔v∈f.2.1)∧(∀v,v∈Cs'↔v∈f.2.2)∧Bs'.length+Cs'.length<=Bs.length+Cs.length+n∧Nw S (bU Bs) (bU Bs') jb jb'∧Nw S (bU Cs) (bU Cs') jc jc')
theorem nS {p:Pg}{ic:Nat}{S S1 S':aA}{Bs Cs Bs1 Cs1:List Int}{jb jc jb1 jc1 n1 n2 n:Nat}{f:Int×List Int×List Int}
  (hk:aJ (ic::(mZ (bU Bs) jb++mZ (bU Cs) jc)) S S1) (hB:Nw S (bU Bs) (bU Bs1) jb jb1) (hC:Nw S (bU Cs) (bU Cs1) jc jc1) (hl:Bs1.length+Cs1.length<=Bs.length+Cs.length+n1)
  (h:aE0 p ic S1 S' Bs1 Cs1 jb1 jc1 n2 f) (hn:n1+n2<=n):aE0 p ic S S' Bs Cs jb jc n f:=by
 obtain⟨h1,h2⟩:=h
 refine⟨oQ hk h1 fun q hq=>?_,fun h0=>?_⟩
 ·simp only[List.mem_cons,List.mem_append]at hq ⊢
  rcases hq with h|h|h
  ·exact .inl (.inl h)
  ·rcases hB q h with h|h
   ·exact .inl (.inr (.inl h))
   ·exact .inr h
  ·rcases hC q h with h|h
   ·exact .inl (.inr (.inr h))
   ·exact .inr h
 ·obtain⟨Bs',Cs',jb',jc',q1,q2,q3,q4,q5,q6⟩:=h2 h0
  exact⟨Bs',Cs',jb',jc',q1,q2,q3,by omega,Nw.trans hB q5 hk.len,Nw.trans hC q6 hk.len⟩
theorem aRq {p:Pg}{ic:Nat}{S:aA}{Bs Cs B C:List Int}{jb jc n:Nat}{f:Int}(h:RC p S ic jb jc Bs Cs)(hB:∀v,v∈Bs↔v∈B)(hC:∀v,v∈Cs↔v∈C):aE0 p ic S S Bs Cs jb jc n (f,B,C) :=
 ⟨aJ.refl _ _,fun _=>⟨Bs,Cs,jb,jc,h,hB,hC,by omega,Nw.refl _ _ _,Nw.refl _ _ _⟩⟩
theorem nL {p:Pg}{ic:Nat}{S S':aA}{Bs Cs B C:List Int}{jb jc n:Nat}{f:Int}(hf:f≠0)(hk:aJ (ic::(mZ (bU Bs) jb++mZ (bU Cs) jc)) S S'):aE0 p ic S S' Bs Cs jb jc n (f,B,C) :=
 ⟨hk,fun h=>absurd h hf⟩
def bK7 (p:Pg)(ic N:Nat):Prop:=∀(e:Ex) (depth:Nat) (S:aA) (Bs Cs As B C A:List Int) (jb jc ja:Nat),e.w<=N->depth<=4000->RC p S ic jb jc Bs Cs->(∀v,v∈Bs↔v∈B)->(∀v,v∈Cs↔v∈C)->(∀v,v∈As↔v∈A) ->
 Bs.length+Cs.length+e.w<=2097152->As.length+e.w<=2097152 ->
 ∃S',(lim K).call 53 [.ptr ic 115 0,.iv (.agg (cD e)),acc ja (bU As),.iv (.int .i64 (depth:Int))] S=.ret (.iv (.int .i64 (chk p e depth B C A).1),S')∧aE0 p ic S S' Bs Cs jb jc e.w (chk p e depth B C A)
theorem wA {p:Pg}{ic N:Nat}(ihN:bK7 p ic N)(e:Ex)(hw:e.w<=N+1)(hN:N+1<=1048576)(depth:Nat)(hd:depth+1<=4000)(ins A:List Int)(hA:∀v,v∈ins↔v∈A)(ji:Nat)(x1 x2 x7 x10 x11 x12 x13 x14 x15 x16:TV):∀(k i:Nat) (Bs Cs B C:List Int) (jb jc:Nat) (S:aA) (x9 x17 x18:TV),i+k=e.ks.length ->
  RC p S ic jb jc Bs Cs->(∀v,v∈Bs↔v∈B)->(∀v,v∈Cs↔v∈C)->Bs.length+Cs.length+Ex.ws (e.ks.drop i)<=2097152->ins.length+Ex.ws (e.ks.drop i)<=2097152 ->
  ∃j r y8 y9 y17 y18 S',(j=.ret∧r=(jK p (e.ks.drop i) (depth+1) B C A).1∧r≠0∨j=.exit 2∧r=0∧(jK p (e.ks.drop i) (depth+1) B C A).1=0)∧aE0 p ic S S' Bs Cs jb jc (Ex.ws (e.ks.drop i)) (jK p (e.ks.drop i) (depth+1) B C A) ∧
   lp' (lim K) t53L0 [.ptr ic 115 0,x1,x2,j_ (depth:Int),lbE e,j_ 0,acc ji (bU ins),x7,j_ (i:Int),x9,x10,x11,x12,x13,x14,x15,x16,x17,x18] S
    = .ret (j,[.ptr ic 115 0,x1,x2,j_ (depth:Int),lbE e,j_ r,acc ji (bU ins),x7,y8,y9,x10,x11,x12,x13,x14,x15,x16,y17,y18],S')
 | 0,i,Bs,Cs,B,C,jb,jc,S,x9,x17,x18,h,hrc,hB,hC,b1,b2=>by
  obtain rfl:i=e.ks.length:=by omega
  rw[List.drop_length,jK]
  refine⟨.exit 2,0,j_ e.ks.length,x9,z_,x18,S,.inr ⟨rfl,rfl,rfl⟩,aRq hrc hB hC,aI K _ _ t53L0.eq_1 ?_⟩
  simp (disch:=omega) only[go_sem,aG]
 | k+1,i,Bs,Cs,B,C,jb,jc,S,x9,x17,x18,h,hrc,hB,hC,b1,b2=>by
  have hla:i<e.ks.length:=by omega
  have hwe:=Ex.w_eq e
  have hwl:=Ex.ws_len e.ks
  have hix:=ixE (g:=e.g) (ks:=e.ks) (i:=(i:Int)) (by omega)
  rw[Int.toNat_natCast]at hix
  have hdr:=fP hla
  have hkw:=Ex.kid_lt (d:=e) (gD hla)
  rw[hdr,Ex.ws]at b1 b2
  rw[hdr]
  generalize hxx:e.ks.getD i default=x at *
  obtain⟨S1,c103,ha⟩:=ihN x (depth+1) S Bs Cs ins B C A jb jc ji (by omega) hd hrc hB hC hA (by omega) (by omega)
  rw[show((depth+1:Nat):Int)=(depth:Int)+1 by omega]at c103
  rw[jK]
  generalize hq:chk p x (depth+1) B C A=q at *
  obtain⟨f,B1,C1⟩:=q
  simp only at c103 ⊢
  rw[aL x]at c103
  by_cases hf:f=0
  ·subst hf
   rw[if_pos rfl]
   obtain⟨hk1,h0⟩:=ha
   obtain⟨Bs',Cs',jb',jc',q1,q2,q3,q4,q5,q6⟩:=h0 rfl
   obtain⟨j,r,y8,y9,y17,y18,S',hj,hA2,ih⟩:=wA ihN e hw hN depth hd ins A hA ji x1 x2 x7 x10 x11 x12 x13 x14 x15 x16 k (i+1) Bs' Cs' B1 C1 jb' jc' S1 (j_ 0) e_ z_ (by omega) q1 q2 q3 (by omega) (by omega)
   rw[show((i+1:Nat):Int)=(i:Int)+1 by omega]at ih
   refine⟨j,r,y8,y9,y17,y18,S',hj,nS hk1 q5 q6 q4 hA2 (by rw[Ex.ws];omega),aI K _ _ t53L0.eq_1 ?_⟩
   simp (disch:=omega) only[go_sem,aG,hix,mP,c103,aH]
   exact congrArg er ih
  ·rw[if_neg hf]
   refine⟨.ret,f,j_ i,j_ f,e_,e_,S1,.inl ⟨rfl,rfl,hf⟩,⟨ha.1,fun h=>absurd h hf⟩,aI K _ _ t53L0.eq_1 ?_⟩
   simp (disch:=omega) only[go_sem,aG,hix,mP,c103,hf,aH]
theorem aBt (p:Pg)(hpc:p.cs.length<=1048576)(ic:Nat):∀N,N<=1048576->bK7 p ic N
 | 0,hN=>fun e depth S Bs Cs As B C A jb jc ja hw=>by have:=Ex.w_eq e;omega
 | N+1,hN=>fun e depth S Bs Cs As B C A jb jc ja hw hd hrc hB hC hA b1 b2=>by
  have hwe:=Ex.w_eq e
  have hwl:=Ex.ws_len e.ks
  have hchk:chk p e depth B C A=if 4000<=depth then(5,B,C)else if mX p e=false then(4,B,C)else match rN e.vs B with
    | none=>(14,B,C)
    | some B1=>if e.k=1∧e.n∈C then(14,B,C)else if(e.k=2∨e.k=4)∧e.n∉e.vs++A then(6,B,C)else jK p e.ks (depth+1) B1 (if e.k=1 then e.n::C else C) (e.vs++A):=by
   cases e;rw[chk];rfl
  rw[hchk]
  by_cases h4:4000<=depth
  ·rw[if_pos h4]
   refine⟨S,aB K _ (fn:=t53) rfl rfl ?_,nL (by decide) (aJ.refl _ _)⟩
   rw[aL]
   have:(4000:Int)<=depth:=by omega
   simp (disch:=omega) only[t53,go_sem,this,ge_iff_le]
  rw[if_neg h4]
  have h4':¬(4000:Int)<=depth:=by omega
  have c136:=bIf p e (by omega) hpc
  have hcel:=hrc.cel
  cases hf:mX p e with
  | false =>
   rw[if_pos rfl]
   rw[hf,aL]at c136
   unfold dY at c136
   refine⟨S,aB K _ (fn:=t53) rfl rfl ?_,nL (by decide) (aJ.refl _ _)⟩
   rw[aL]
   simp (disch:=omega) only[t53,go_sem,h4',ge_iff_le,hcel,rcB,fT,aF c136]
  | true =>
  rw[if_neg (by decide)]
  rw[hf,aL]at c136
  unfold dY at c136
  have e0:=bK6 S ja As (by omega)
  have hk0:=aXm S As
  have hrc0:=hrc.keep hk0 (by simp) (by simp) (by simp)
  have hat0:=bIn S As
  obtain⟨j,r,y6,y7,y12,y13,S1,hj,hkv,l1⟩:=aQa p e (by omega) ic jc Cs (.iv (.agg (cD e))) (acc ja (bU As)) (j_ (depth:Int)) u_ u_ z_ z_ u_ u_ u_ u_ u_ e.vs.length 0 Bs As B jb S.length (inS S As) u_ u_ (by omega) hrc0 hB hat0 (fun _ hb he=>by have:=aO (hrc.ab hb);omega) (fun _ hc he=>by have:=aO (hrc.ac hc);omega) (by omega) (by omega)
  rw[n0_]at l1
  rw[List.drop_zero]at hj
  rw[aL]at l1
  have hkS1:aJ (ic::(mZ (bU Bs) jb++mZ (bU Cs) jc)) S S1:=oQ (hk0.mono (by simp)) hkv fun q hq=>by
   simp only[List.mem_cons,List.mem_append]at hq ⊢
   rcases hq with h|h|h
   ·exact .inl (.inl h)
   ·exact .inl (.inr (.inl h))
   ·obtain⟨_,rfl⟩:=pQ h;exact .inr (Nat.le_refl _)
  rcases hj with⟨rfl,rfl,hv⟩|⟨rfl,rfl,B1,Bs',jb',ji',hv,q2,q3,rfl,q5,q6,q7,q8,q10,q11⟩
  ·rw[hv]
   refine⟨S1,aB K _ (fn:=t53) rfl rfl ?_,nL (by decide) hkS1⟩
   rw[aL]
   simp (disch:=omega) only[t53,go_sem,h4',ge_iff_le,hcel,rcB,fT,aF c136,e0]
   rw[l1]
   simp (disch:=omega) only[go_sem]
  ·rw[hv]
   simp only
   have hmem:∀v,v∈As++e.vs↔v∈e.vs++A:=fun v=>by simp[hA v,or_comm]
   have hnB:Nw S (bU Bs) (bU Bs') jb jb':=fun q hq=>(q10 q hq).imp id (Nat.le_trans hk0.len)
   have hcel1:=q5.cel
   have hl0:=hk0.len
   by_cases h1:e.k=1
   ·have c104:=aMf (nG (bU Cs)) Cs e.n (by omega) []
    by_cases hn:e.n∈Cs
    ·rw[if_pos ⟨h1,(hC _).1 hn⟩]
     rw[decide_eq_true hn]at c104
     refine⟨S1,aB K _ (fn:=t53) rfl rfl ?_,nL (by decide) hkS1⟩
     rw[aL]
     simp (disch:=omega) only[t53,go_sem,h4',ge_iff_le,hcel,rcB,fT,aF c136,e0]
     rw[l1]
     simp (disch:=omega) only[go_sem,h1,hcel1,rcB,fT,kZ,c104]
    ·rw[if_neg (fun h=>hn ((hC _).2 h.2)),if_neg (fun h=>by omega),if_pos h1]
     rw[decide_eq_false hn]at c104
     have e2:=bIi (b:=8) (c:=[.int .i64 e.n]) (t:=.full) q5.ac ⟨rfl,rfl⟩ (aAx Cs) (cI (by rw[pP];omega))
     rw[pO]at e2
     have hc1:=aGm q5.ac q5.cel
     have hrc2:=bIl q5 e.n
     have hk2:=aXl (p:=p) (S:=S1) (ic:=ic) (jb:=jb') (jc:=jc) (B:=Bs') (C:=Cs) e.n
     have hst:(gS 1 3 (bU Cs) jc S1).set ic (.cells 115 false [j_ p.b.k,j_ p.b.n,.iv (.sl p.b.gv (TM.one (.int .i64) p.b.vs)),.iv (.bool p.b.r),.iv (.sl p.b.g (bW p.b.ks)),j_ p.gl,j_ p.vr,.iv (.sl p.gc (dW p.cs)),acc jb' (bU Bs'),acc (gI (bU Cs) jc S1) (bU (Cs++[e.n]))])=aRo p S1 ic jb' jc Bs' Cs e.n:=rfl
     have hkS2:aJ (ic::(mZ (bU Bs) jb++mZ (bU Cs) jc)) S (aRo p S1 ic jb' jc Bs' Cs e.n):=hkS1.trans (hk2.mono fun q hq=>by
      simp only[List.mem_cons,List.mem_append]at hq ⊢
      rcases hq with h|h
      ·exact .inl h
      ·exact .inr (.inr h))
     have hnC:Nw S (bU Cs) (bU (Cs++[e.n])) jc (gI (bU Cs) jc S1):=fun q hq=>(Nw.step S1 (bU Cs) _ jc q hq).imp id (Nat.le_trans hkS1.len)
     obtain⟨j,r,y8,y9,y17,y18,S',hj,hA2,l2⟩:=wA (aBt p hpc ic N (by omega)) e hw hN depth (by omega) (As++e.vs) (e.vs++A) hmem ji' (.iv (.agg (cD e))) (acc ja (bU As)) y7 z_ z_ y12 y13 e_ z_ z_ e.ks.length 0 Bs' (Cs++[e.n]) B1 (e.n::C) jb' (gI (bU Cs) jc S1) (aRo p S1 ic jb' jc Bs' Cs e.n) u_ u_ u_ (by omega) hrc2 q2 (fun u=>by simp[hC u,or_comm]) (by rw[List.drop_zero];simp;omega) (by rw[List.drop_zero];simp;omega)
     rw[n0_]at l2
     rw[List.drop_zero]at hj hA2
     rw[aL e]at l2
     refine⟨S',aB K _ (fn:=t53) rfl rfl ?_,nS hkS2 hnB hnC (n1:=e.vs.length+1) (by simp;omega) hA2 (by omega)⟩
     rw[aL]
     rw[h1]at l2
     rcases hj with⟨rfl,hr,_⟩|⟨rfl,hr,h0⟩
     ·rw[<-hr]
      simp (disch:=omega) only[t53,go_sem,h4',ge_iff_le,hcel,rcB,fT,aF c136,e0]
      rw[l1]
      simp (disch:=omega) only[go_sem,h1,hcel1,rcB,fT,kZ,c104,e2,hc1]
      rw[hst,l2]
      simp (disch:=omega) only[go_sem]
     ·rw[h0];subst hr
      simp (disch:=omega) only[t53,go_sem,h4',ge_iff_le,hcel,rcB,fT,aF c136,e0]
      rw[l1]
      simp (disch:=omega) only[go_sem,h1,hcel1,rcB,fT,kZ,c104,e2,hc1]
      rw[hst,l2]
      simp (disch:=omega) only[go_sem]
   rw[if_neg (fun h=>h1 h.1),if_neg h1]
   have c104:=aMf (nG (bU (As++e.vs))) (As++e.vs) e.n (by simp;omega) []
   have key24:e.k=2∨e.k=4∨(e.k≠2∧e.k≠4):=by omega
   rcases key24 with h2|h2|⟨h2,h3⟩
   ·by_cases hn:e.n∈As++e.vs
    ·rw[if_neg (fun h=>h.2 ((hmem _).1 hn))]
     rw[decide_eq_true hn]at c104
     obtain⟨j,r,y8,y9,y17,y18,S',hj,hA2,l2⟩:=wA (aBt p hpc ic N (by omega)) e hw hN depth (by omega) (As++e.vs) (e.vs++A) hmem ji' (.iv (.agg (cD e))) (acc ja (bU As)) y7 z_ z_ y12 y13 z_ u_ z_ e.ks.length 0 Bs' Cs B1 C jb' jc S1 u_ u_ u_ (by omega) q5 q2 hC (by rw[List.drop_zero];omega) (by rw[List.drop_zero];simp;omega)
     rw[n0_]at l2
     rw[List.drop_zero]at hj hA2
     rw[aL e]at l2
     refine⟨S',aB K _ (fn:=t53) rfl rfl ?_,nS hkS1 hnB (Nw.refl _ _ _) (n1:=e.vs.length) (by omega) hA2 (by omega)⟩
     rw[aL]
     rw[h2]at l2
     rcases hj with⟨rfl,hr,_⟩|⟨rfl,hr,h0⟩
     ·rw[<-hr]
      simp (disch:=omega) only[t53,go_sem,h4',ge_iff_le,hcel,rcB,fT,aF c136,e0]
      rw[l1]
      simp (disch:=omega) only[go_sem,kZ,c104,h2]
      rw[l2]
      simp (disch:=omega) only[go_sem]
     ·rw[h0];subst hr
      simp (disch:=omega) only[t53,go_sem,h4',ge_iff_le,hcel,rcB,fT,aF c136,e0]
      rw[l1]
      simp (disch:=omega) only[go_sem,kZ,c104,h2]
      rw[l2]
      simp (disch:=omega) only[go_sem]
    ·rw[if_pos ⟨by omega,fun h=>hn ((hmem _).2 h)⟩]
     rw[decide_eq_false hn]at c104
     refine⟨S1,aB K _ (fn:=t53) rfl rfl ?_,nL (by decide) hkS1⟩
     rw[aL]
     simp (disch:=omega) only[t53,go_sem,h4',ge_iff_le,hcel,rcB,fT,aF c136,e0]
     rw[l1]
     simp (disch:=omega) only[go_sem,kZ,c104,h2]
   ·by_cases hn:e.n∈As++e.vs
    ·rw[if_neg (fun h=>h.2 ((hmem _).1 hn))]
     rw[decide_eq_true hn]at c104
     obtain⟨j,r,y8,y9,y17,y18,S',hj,hA2,l2⟩:=wA (aBt p hpc ic N (by omega)) e hw hN depth (by omega) (As++e.vs) (e.vs++A) hmem ji' (.iv (.agg (cD e))) (acc ja (bU As)) y7 z_ z_ y12 y13 z_ u_ z_ e.ks.length 0 Bs' Cs B1 C jb' jc S1 u_ u_ u_ (by omega) q5 q2 hC (by rw[List.drop_zero];omega) (by rw[List.drop_zero];simp;omega)
     rw[n0_]at l2
     rw[List.drop_zero]at hj hA2
     rw[aL e]at l2
     refine⟨S',aB K _ (fn:=t53) rfl rfl ?_,nS hkS1 hnB (Nw.refl _ _ _) (n1:=e.vs.length) (by omega) hA2 (by omega)⟩
     rw[aL]
     rw[h2]at l2
     rcases hj with⟨rfl,hr,_⟩|⟨rfl,hr,h0⟩
     ·rw[<-hr]
      simp (disch:=omega) only[t53,go_sem,h4',ge_iff_le,hcel,rcB,fT,aF c136,e0]
      rw[l1]
      simp (disch:=omega) only[go_sem,kZ,c104,h2]
      rw[l2]
      simp (disch:=omega) only[go_sem]
     ·rw[h0];subst hr
      simp (disch:=omega) only[t53,go_sem,h4',ge_iff_le,hcel,rcB,fT,aF c136,e0]
      rw[l1]
      simp (disch:=omega) only[go_sem,kZ,c104,h2]
      rw[l2]
      simp (disch:=omega) only[go_sem]
    ·rw[if_pos ⟨by omega,fun h=>hn ((hmem _).2 h)⟩]
     rw[decide_eq_false hn]at c104
     refine⟨S1,aB K _ (fn:=t53) rfl rfl ?_,nL (by decide) hkS1⟩
     rw[aL]
     simp (disch:=omega) only[t53,go_sem,h4',ge_iff_le,hcel,rcB,fT,aF c136,e0]
     rw[l1]
     simp (disch:=omega) only[go_sem,kZ,c104,h2]
   ·rw[if_neg (fun h=>by omega)]
    obtain⟨j,r,y8,y9,y17,y18,S',hj,hA2,l2⟩:=wA (aBt p hpc ic N (by omega)) e hw hN depth (by omega) (As++e.vs) (e.vs++A) hmem ji' (.iv (.agg (cD e))) (acc ja (bU As)) y7 z_ z_ y12 y13 z_ u_ z_ e.ks.length 0 Bs' Cs B1 C jb' jc S1 u_ u_ u_ (by omega) q5 q2 hC (by rw[List.drop_zero];omega) (by rw[List.drop_zero];simp;omega)
    rw[n0_]at l2
    rw[List.drop_zero]at hj hA2
    rw[aL e]at l2
    refine⟨S',aB K _ (fn:=t53) rfl rfl ?_,nS hkS1 hnB (Nw.refl _ _ _) (n1:=e.vs.length) (by omega) hA2 (by omega)⟩
    rw[aL]
    rcases hj with⟨rfl,hr,_⟩|⟨rfl,hr,h0⟩
    ·rw[<-hr]
     simp (disch:=omega) only[t53,go_sem,h4',ge_iff_le,hcel,rcB,fT,aF c136,e0]
     rw[l1]
     simp (disch:=omega) only[go_sem,kZ,c104,h1,h2,h3]
     rw[l2]
     simp (disch:=omega) only[go_sem]
    ·rw[h0];subst hr
     simp (disch:=omega) only[t53,go_sem,h4',ge_iff_le,hcel,rcB,fT,aF c136,e0]
     rw[l1]
     simp (disch:=omega) only[go_sem,kZ,c104,h1,h2,h3]
     rw[l2]
     simp (disch:=omega) only[go_sem]
theorem aXn (p:Pg)(hp:Dt.ws p.cs<=1048576)(x0 x4 x5:TV):∀(k i:Nat) (x6 x7:TV),i+k=p.cs.length ->
  ∃j r y3 y6 y7,(j=.ret∧r=j_ 2∧((p.cs.drop i).all fun d=>gC d&&plF d)=false∨j=.exit 0∧r=j_ 0∧((p.cs.drop i).all fun d=>gC d&&plF d)=true) ∧
   lp' (lim K) t26L0 [x0,lbP p,j_ 0,j_ (i:Int),x4,x5,x6,x7] []=.ret (j,[x0,lbP p,r,y3,x4,x5,y6,y7],[])
 | 0,i,x6,x7,h=>by
  obtain rfl:i=p.cs.length:=by omega
  refine⟨.exit 0,j_ 0,j_ p.cs.length,z_,x7,.inr ⟨rfl,rfl,by rw[List.drop_length];rfl⟩,aI K _ _ t26L0.eq_1 ?_⟩
  simp (disch:=omega) only[go_sem,aK]
 | k+1,i,x6,x7,h=>by
  have hla:i<p.cs.length:=by omega
  have hwl:=Dt.ws_len p.cs
  have hix:=ixD (g:=p.gc) (ks:=p.cs) (i:=(i:Int)) (by omega)
  rw[Int.toNat_natCast]at hix
  have hdr:=fP hla
  have hxw:=Dt.ws_mem (gD hla)
  generalize hx:p.cs.getD i default=x at *
  have hm:=aXi 1048576 (by omega) x (by omega)
  have hq:=aXf 1048576 (by omega) x (by omega)
  cases h1:gC x with
  | false =>
   rw[h1]at hm
   refine⟨.ret,j_ 2,j_ i,e_,e_,.inl ⟨rfl,rfl,by rw[hdr,List.all_cons,h1,Bool.false_and,Bool.false_and]⟩,aI K _ _ t26L0.eq_1 ?_⟩
   simp (disch:=omega) only[go_sem,aK,hix,jV,aF hm]
  | true =>
   rw[h1]at hm
   cases h2:plF x with
   | false =>
    rw[h2]at hq
    refine⟨.ret,j_ 2,j_ i,e_,e_,.inl ⟨rfl,rfl,by rw[hdr,List.all_cons,h1,h2,Bool.true_and,Bool.false_and]⟩,aI K _ _ t26L0.eq_1 ?_⟩
    simp (disch:=omega) only[go_sem,aK,hix,jV,aF hm,aF hq]
   | true =>
    rw[h2]at hq
    obtain⟨j,r,y3,y6,y7,hj,ih⟩:=aXn p hp x0 x4 x5 k (i+1) e_ z_ (by omega)
    rw[show((i+1:Nat):Int)=(i:Int)+1 by omega]at ih
    refine⟨j,r,y3,y6,y7,?_,aI K _ _ t26L0.eq_1 ?_⟩
    ·rw[hdr,List.all_cons,h1,h2,Bool.true_and,Bool.true_and];exact hj
    ·simp (disch:=omega) only[go_sem,aK,hix,jV,aF hm,aF hq,aH]
     exact congrArg er ih
theorem aMj (p:Pg)(hp:p.w<=1048576):TM.Pure K 26 [.iv (.agg (dY p))] (j_ (qE p)):=by
 have hpw:p.b.w+Dt.ws p.cs<=1048576:=hp
 have hwl:=Dt.ws_len p.cs
 unfold qE
 by_cases hg:p.gl<0∨20000<p.gl∨p.vr<0
 ·rw[if_pos hg]
  refine TM.bO (S:=[]) (r:=j_ 2) (aB K _ (fn:=t26) rfl rfl ?_) (by rw[aT])
  unfold dY
  by_cases g1:p.gl<0
  ·simp (disch:=omega) only[t26,go_sem,g1]
  ·by_cases g0:20000<p.gl
   ·simp (disch:=omega) only[t26,go_sem,g1,g0]
   ·have g1:p.vr<0:=by omega
    simp (disch:=omega) only[t26,go_sem,g1,g0,g1]
 rw[if_neg hg]
 have g1:¬p.gl<0:=by omega
 have g0:¬20000<p.gl:=by omega
 have g1:¬p.vr<0:=by omega
 obtain⟨j,r,y3,y6,y7,hj,ih⟩:=aXn p (by omega) (.iv (.agg (dY p))) u_ z_ p.cs.length 0 u_ u_ (by omega)
 rw[n0_]at ih
 rw[List.drop_zero]at hj
 rcases hj with⟨rfl,rfl,ha⟩|⟨rfl,rfl,ha⟩
 ·rw[if_pos ha]
  refine TM.bO (S:=[]) (r:=j_ 2) (aB K _ (fn:=t26) rfl rfl ?_) (by rw[aT])
  unfold dY at ih ⊢
  simp (disch:=omega) only[t26,go_sem,g1,g0,g1]
  rw[ih]
  simp (disch:=omega) only[go_sem]
 ·rw[if_neg (by rw[ha];decide)]
  have hs:RC p [.cells 115 false (fT p++[acc 0 (bU []),acc 0 (bU [])])] 0 0 0 [] []:=⟨rfl,At.nil,At.nil,fun h=>absurd rfl h⟩
  obtain⟨S',hc,_⟩:=aBt p (by omega) 0 1048576 (by omega) p.b 0 _ [] [] [] [] [] [] 0 0 0 (by omega) (by omega) hs (fun _=>Iff.rfl) (fun _=>Iff.rfl) (fun _=>Iff.rfl) (by simp;omega) (by simp;omega)
  refine TM.bO (S:=S') (r:=.iv (.int .i64 (chk p p.b 0 [] [] []).1)) (aB K _ (fn:=t26) rfl rfl ?_) (by rw[aT])
  rw[aL,n0_,show acc 0 (bU [])=k_ from rfl]at hc
  simp only[fT,List.cons_append,List.nil_append]at hc
  unfold dY at ih ⊢
  simp (disch:=omega) only[t26,go_sem,g1,g0,g1]
  rw[ih]
  simp (disch:=omega) only[go_sem,hc]
theorem aXo {n:Nat}(ih:∀e:Ex,e.w<=n->∀S,(lim K).call 27 [.iv (.agg (cD e))] S=.ret (.iv (.bool (gL n e)),S)){e:Ex}(hw:∀x∈e.ks,x.w<=n)(hl:e.ks.length<=1048576)(x0 x4:TV)(S:aA):∀(k i:Nat) (x5 x6:TV),i+k=e.ks.length ->
  ∃j y2 y3 y5 y6,lp' (lim K) t27L0 [x0,lbE e,z_,j_ i,x4,x5,x6] S=.ret (j,[x0,lbE e,y2,y3,x4,y5,y6],S)∧(j=.exit 0∧(e.ks.drop i).any (gL n)=false∧y2=z_∨j=.ret∧(e.ks.drop i).any (gL n)=true∧y2=e_)
 | 0,i,x5,x6,h=>by
  obtain rfl:i=e.ks.length:=by omega
  have hlE:=aG e.ks
  refine⟨.exit 0,z_,j_ e.ks.length,z_,x6,aI K _ _ t27L0.eq_1 ?_,.inl ⟨rfl,by simp,rfl⟩⟩
  simp (disch:=omega) only[go_sem,hlE]
 | k+1,i,x5,x6,h=>by
  have hla:i<e.ks.length:=by omega
  have hlE:=aG e.ks
  have hix:=ixE (g:=e.g) (ks:=e.ks) (i:=(i:Int)) (by omega)
  have hgd:e.ks.getD i default=e.ks[i]:=by simp[List.getD,List.getElem?_eq_getElem hla]
  rw[Int.toNat_natCast,hgd]at hix
  have hget:=mP (d:=e.ks[i])
  have hdr:e.ks.drop i=e.ks[i]::e.ks.drop (i+1):=List.drop_eq_getElem_cons hla
  have c:=ih e.ks[i] (hw _ (List.getElem_mem _)) S
  cases hs:gL n e.ks[i]with
  | true =>
   rw[hs]at c
   refine⟨.ret,e_,j_ i,e_,e_,aI K _ _ t27L0.eq_1 ?_,.inr ⟨rfl,by rw[hdr,List.any_cons,hs];rfl,rfl⟩⟩
   rw[aL]at c hix hget
   simp (disch:=omega) only[go_sem,hlE,hix,hget,c]
  | false =>
   rw[hs]at c
   obtain⟨j,y2,y3,y5,y6,hlp,hj⟩:=aXo ih hw hl x0 x4 S k (i+1) e_ z_ (by omega)
   rw[show((i+1:Nat):Int)=(i:Int)+1 by omega]at hlp
   refine⟨j,y2,y3,y5,y6,aI K _ _ t27L0.eq_1 ?_,by rw[hdr,List.any_cons,hs,Bool.false_or];exact hj⟩
   rw[aL]at c hix hget
   simp (disch:=omega) only[go_sem,hlE,hix,hget,c,aH]
   exact congrArg er hlp
theorem aMk:∀(n:Nat) (e:Ex),e.w<=n->n<=1048576->∀S,(lim K).call 27 [.iv (.agg (cD e))] S=.ret (.iv (.bool (gL n e)),S)
 | 0,e,hw,_,S=>by have:=Ex.w_eq e;omega
 | n+1,e,hw,hn,S=>by
  have hkl:=Ex.ws_len e.ks
  have hwe:=Ex.w_eq e
  have ih:∀x:Ex,x.w<=n->∀S,(lim K).call 27 [.iv (.agg (cD x))] S=.ret (.iv (.bool (gL n x)),S):=fun x hx S=>aMk n x hx (by omega) S
  obtain⟨j,y2,y3,y5,y6,hlp,hj⟩:=aXo ih (e:=e) (fun x hx=>by have:=Ex.kid_lt hx;omega) (by omega) (.iv (.agg (cD e))) z_ S e.ks.length 0 u_ u_ (by omega)
  rw[List.drop_zero]at hj
  rw[n0_]at hlp
  rw[gL]
  refine aB K S (fn:=t27) rfl rfl ?_
  rw[aL]at hlp ⊢
  by_cases h4:e.k=4
  ·rw[decide_eq_true h4,Bool.true_or]
   simp (disch:=omega) only[t27,go_sem,h4]
  ·rw[decide_eq_false h4,Bool.false_or]
   simp (disch:=omega) only[t27,go_sem,h4]
   rw[hlp]
   rcases hj with⟨rfl,ha,rfl⟩|⟨rfl,ha,rfl⟩
   ·rw[ha]
    simp (disch:=omega) only[go_sem]
   ·rw[ha]
    simp (disch:=omega) only[go_sem]
theorem aXp {p:Pg}(hp:p.w<=1048576)(h:qE p≠0):TM.Pure K 10 [.iv (.agg (dY p))] (.tup [.iv (.agg noC),j_ (qE p)]):=by
 have c26:=aMj p hp
 unfold dY at *
 refine eM t10 rfl rfl ?_
 simp (disch:=omega) only[t10,go_sem,aF c26,h,noC]
theorem aRr {p:Pg}(hp:p.w<=1048576)(h:qE p=0)(hs:gL p.b.w p.b=true):TM.Pure K 10 [.iv (.agg (dY p))] (.tup [.iv (.agg noC),j_ 2]):=by
 have c26:=aMj p hp
 have c27:=aMk p.b.w p.b (Nat.le_refl _) (by unfold Pg.w at hp;omega) []
 rw[h]at c26
 rw[hs,aL]at c27
 unfold dY at *
 refine eM t10 rfl rfl ?_
 simp (disch:=omega) only[t10,go_sem,aF c26,c27,noC]
def stC (v:Int):aP:=.cells 78 false [.iv (.sl .nil []),.iv (.int .i64 v)]
theorem bMq (v:Int)(h:0<=v∧v<4611686018427387904):(lim K).call 28 [.ptr 0 78 0] [stC v]=.ret (j_ v,[stC (v+1)]):=by
 unfold stC
 refine aB K _ (fn:=t28) rfl rfl ?_
 simp (disch:=omega) only[t28,go_sem,aH,Int.add_sub_cancel]
def aMl (v:Int):aP:=.cells 0 false (TM.cA [[.iv (.sl .full [[.int .i64 v]]),.iv (.bool false),.iv (.bool true),.iv (.sl .nil []),.iv (.int .i64 7),.iv (.int .i64 0),.iv (.int .i64 0),.iv (.int .i64 0),.iv (.int .i64 0),.iv (.sl .nil []),.iv (.sl .nil [])]])
theorem bIo (v w:Int):bY true 11 144 47 [aP.cells 78 false [k_,j_ w],aMl v] k_ (.msl 1 0 0 1 1 11)=some (.msl 2 0 0 1 1 11,[aP.cells 78 false [k_,j_ w],aMl v,.cells 0 true (cG [gG v])]):=by
 simp[bY,iR,lenOf,TM.cA,gG,cB,TM.iE,fZ,cG,aMl,TM.sub]
theorem bMr (v w:Int):(lim K).call 30 [.ptr 0 78 0,.iv (.sl .full [[.int .i64 v]]),z_,e_,.iv (.agg [.int .i64 7,.int .i64 0,.int .i64 0,.int .i64 0,.int .i64 0,.sl .nil [],.sl .nil []])] [stC w]=.ret (j_ 0,[mkC 2 ⟨[gG v],w⟩,aMl v,.cells 0 true (cG [gG v])]):=by
 have ap:=bIo v w
 generalize hc:cG [gG v]=cs at *
 unfold stC mkC aMl at *
 refine aB K _ (fn:=t30) rfl rfl ?_
 simp (disch:=omega) only[t30,go_sem,aH,ap]
 rfl
theorem RT.fn_inv {v f:Int}{c d:List IV}(h:RT (bX v (f+1) (.sl .full [c])) d):∃e,d=bX v f (.sl .full [e])∧RT c e:=by
 generalize hT:bX v (f+1) (.sl .full [c])=T at h
 cases h with
 | prim=>unfold bX at hT;simp at hT
 | fn v' f' h =>
  unfold bX at hT
  simp only[List.cons.injEq,IV.int.injEq,true_and,IV.sl.injEq,and_true]at hT
  obtain⟨h1,h2,h3⟩:=hT
  subst h3
  have:f'=f:=by omega
  subst this
  subst h1
  exact⟨_,rfl,h⟩
 | ite=>unfold bX ifT at hT;simp at hT
 | call=>unfold bX cU at hT;simp at hT
 | appl=>unfold bX eD at hT;simp at hT
theorem aXq {p:Pg}(hp:p.w<=1048576)(ho:p.b.ok)(hv:0<=p.vr∧p.vr<=1152921504606846976)(h:qE p=0)(hs:gL p.b.w p.b=false){n:Nat}{x:List IV×Mk}(hx:dR n p.b (aV (p.vr+1)) (kC p)=some x)(hB:Bd p.vr x.2):
  ∃(ρ:Mk) (t:List IV),TM.Pure K 10 [.iv (.agg (dY p))] (.tup [.iv (.agg [.sl .no (ρ.fs++[kD (p.vr+1) t]),.int .i64 ρ.fs.length,.int .i64 ρ.nv,.int .i64 p.gl,.sl p.gc (dW p.cs)]),j_ 0])∧RM x.2 ρ∧RT x.1 t:=by
 have c26:=aMj p hp
 have c27:=aMk p.b.w p.b (Nat.le_refl _) (by unfold Pg.w at hp;omega) []
 rw[h]at c26
 rw[hs]at c27
 have hb0:=hv
 have c28:=bMq p.vr (by omega)
 have c30:=bMr p.vr (p.vr+1)
 have hM1:MkC [mkC 2 ⟨[gG p.vr],p.vr+1⟩,aMl p.vr,.cells 0 true (cG [gG p.vr])] 0 2 ⟨[gG p.vr],p.vr+1⟩ :=
  ⟨rfl,rfl,by simp,fun f hf=>by rw[List.mem_singleton]at hf;subst hf;exact⟨rfl,rfl⟩,by show 0<=p.vr+1∧p.vr+1<=_∧1<=1000000;omega⟩
 have c29:=aA8 hM1 0
 have hM2:=hM1.var (by show p.vr+1<_;omega)
 rw[show Mk.var ⟨[gG p.vr],p.vr+1⟩=⟨[gG p.vr],p.vr+2⟩ from by unfold Mk.var;congr 1;show p.vr+1+1=p.vr+2;omega]at hM2 c29
 generalize hS2:[mkC 2 ⟨[gG p.vr],p.vr+1⟩,aMl p.vr,aP.cells 0 true (cG [gG p.vr])].set 0 (mkC 2 ⟨[gG p.vr],p.vr+2⟩)=S2 at *
 have hl2:S2.length=3:=by rw[<-hS2];rfl
 have hR2:RM (kC p) ⟨[gG p.vr],p.vr+2⟩:=⟨rfl,RL.top p.vr uE (gG p.vr)⟩
 obtain⟨d0,d1,d2,d3,d4,d5,d6,f5,f6,ρ3,S3,S4,c31,z3,e4,z4,hM4,k4,hT,hR3⟩:=tL (bDf hb0 n n (Nat.le_refl _)).c hx ⟨ho,by unfold Pg.w at hp;omega⟩ (by show p.vr<=p.vr+2;omega) hB hR2 hM2
 have hle:=(mono n).code hx
 have c32:=mK (p.vr+1)
 obtain⟨t2,ρ5,S5,c33,hT2,hR5,hM5,k5⟩:=kX (N:=1) hb0 (fun m _=>(bDf hb0 m m (Nat.le_refl _)).c) [St.tm (bX (p.vr+1) (0+1) (.sl .nil [])) (p.vr+1)] [.tm (bX (p.vr+1) 0 (.sl .nil [])) (p.vr+1)] 2 x.1 _ x.2 ρ3 (((bX (p.vr+1) (0+1) (.sl .nil [])).set 6 (.sl .full [x.1])),x.2) S4 (.iv (.sl .full (cJ [.tm (bX (p.vr+1) 0 (.sl .nil [])) (p.vr+1)]))) (by omega) (by
  rw[List.reverse_singleton,bN,bN]) (.inl ⟨_,(fun h=>by cases h),rfl⟩) (.cons (RSt.fn _ _) .nil) hT (fun s hs=>by rw[List.mem_singleton]at hs;subst hs;exact TmO.fun ..) (by have:=hle.nv;simp only[kC]at this;omega) hB hR3 hM4
 obtain⟨t,rfl,hTt⟩:=RT.fn_inv hT2
 obtain⟨S6,c30b,hM6,k6⟩:=aF1 hM5 (by have h5:x.2.fs.length=ρ5.fs.length+1:=hR5.len;have:=hB.fs;omega) .nil [] false false 2 (p.vr+1) 0 0 0 .nil [] .full [t]
 refine⟨ρ5,t,?_,hR5,hTt⟩
 rw[show cJ [.tm (bX (p.vr+1) 0 (.sl .nil [])) (p.vr+1)]=[oD (p.vr+1) 0] from rfl]at c33
 have o6:=hM6.own
 have hln:(ρ5.push [.sl .nil [],.bool false,.bool false,.sl .nil [],.int .i64 2,.int .i64 (p.vr+1),.int .i64 0,.int .i64 0,.int .i64 0,.sl .nil [],.sl .full [t]]).fs.length=ρ5.fs.length+1:=by simp[Mk.push]
 have hel:=aEp (S:=S6) (j:=2) (v:=ρ5.fs.length) (fs:=(ρ5.push [.sl .nil [],.bool false,.bool false,.sl .nil [],.int .i64 2,.int .i64 (p.vr+1),.int .i64 0,.int .i64 0,.int .i64 0,.sl .nil [],.sl .full [t]]).fs) (by have:=hM6.row;rw[hln]at this;simpa using this) (fun f hf=>(hM6.wid f hf).1)
 rw[hln]at hel
 unfold mkC at o6
 rw[hln,show ρ5.fs.length+1-1=ρ5.fs.length by omega,show(ρ5.push [.sl .nil [],.bool false,.bool false,.sl .nil [],.int .i64 2,.int .i64 (p.vr+1),.int .i64 0,.int .i64 0,.int .i64 0,.sl .nil [],.sl .full [t]]).nv=ρ5.nv from rfl]at o6
 have hres:TM.resolve S6 (.tup [.agg [.msl 2 ρ5.fs.length 0 (ρ5.fs.length+1) (ρ5.fs.length+1) 11,j_ ρ5.fs.length,j_ ρ5.nv,j_ p.gl,.iv (.sl p.gc (dW p.cs))],j_ 0])=some (.tup [.iv (.agg [.sl .no (ρ5.fs++[kD (p.vr+1) t]),.int .i64 ρ5.fs.length,.int .i64 ρ5.nv,.int .i64 p.gl,.sl p.gc (dW p.cs)]),j_ 0]):=by
  simp (disch:=omega) only[go_sem,hel]
  rfl
 refine TM.bO (S:=S6) (aB K _ (fn:=t10) rfl rfl ?_) hres
 clear hT hR5 hM6 k6 hM5 k5 hT2 hM4 k4 hM2 hM1 hR2 hR3 hTt hel hres hx hB
 unfold bT at *
 unfold oD at *
 unfold bX at *
 have c28':(lim K).call 28 [.ptr 0 78 0] [.cells 78 false [k_,j_ p.vr]]=.ret (j_ p.vr,[stC (p.vr+1)]):=c28
 rw[aL]at c27 c31
 unfold dY at c26 ⊢
 simp (disch:=omega) only[t10,go_sem,aF c26,c27,c28',c30,c29,aF c32,c31,z3,e4,z4,c33,c30b,o6]
def bK8 (e:Ex):Prop:=∀(left:Int) (S:aA),1<=left->left<=2000->∃r:Int,(lim K).call 18 [agX e,.iv (.int .i64 left)] S=.ret (.iv (.int .i64 r),S)∧0<=r∧r<left∧(0<r->sz e+r<=left∧(bvE e).length<=100*sz e)
theorem aQb (e:Ex)(hw:e.w<=1048576)(ih:∀x∈e.ks,bK8 x)(x0 x3 x5:TV)(S:aA):∀(k i:Nat) (left:Int) (x6:TV),i+k=e.ks.length->0<=left->left<=2000 ->
  ∃(r:Int) (y4 y6:TV),lp' (lim K) t18L0 [x0,j_ left,lbX e,x3,j_ i,x5,x6] S=.ret (.exit 0,[x0,j_ r,lbX e,x3,y4,x5,y6],S)∧0<=r∧r<=left∧(0<r->szs (e.ks.drop i)+r<=left∧(rO (e.ks.drop i)).length<=100*szs (e.ks.drop i))
 | 0,i,left,x6,h,h0,h1=>by
  obtain rfl:i=e.ks.length:=by omega
  have hle:=aG e.ks
  refine⟨left,j_ e.ks.length,z_,aI K _ _ t18L0.eq_1 ?_,h0,Int.le_refl _,fun _=>by rw[List.drop_length,szs,rO];exact⟨by omega,by simp⟩⟩
  simp (disch:=omega) only[go_sem,hle]
 | k+1,i,left,x6,h,h0,h1=>by
  have hla:i<e.ks.length:=by omega
  have hle:=aG e.ks
  have hwe:=Ex.w_eq e
  have hkl:=Ex.ws_len e.ks
  have hdr:=List.drop_eq_getElem_cons hla
  by_cases hp:left=0
  ·subst hp
   refine⟨0,j_ i,z_,aI K _ _ t18L0.eq_1 ?_,Int.le_refl _,Int.le_refl _,fun h=>absurd h (by decide)⟩
   simp (disch:=omega) only[go_sem,hle]
  ·have hix:=bMg (g:=e.g) hla
   obtain⟨r1,c18,g0,g1,g2⟩:=ih e.ks[i] (List.getElem_mem _) left S (by omega) h1
   obtain⟨r,y4,y6,hlp,q0,q1,q2⟩:=aQb e hw ih x0 x3 x5 S k (i+1) r1 e_ (by omega) g0 (by omega)
   refine⟨r,y4,y6,aI K _ _ t18L0.eq_1 ?_,q0,by omega,fun hr=>?_⟩
   ·rw[show((i+1:Nat):Int)=(i:Int)+1 by omega]at hlp
    generalize e.ks[i]=y at *
    simp (disch:=omega) only[go_sem,hle,hix,aAq,c18,aH]
    exact congrArg er hlp
   ·have h5:=q2 hr
    have h6:=g2 (by omega)
    rw[hdr,szs,rO,List.length_append];omega
theorem aQc:∀(n:Nat) (e:Ex),e.w<=n->n<=1048576->bK8 e
 | 0,e,hw,_=>by have:=Ex.w_eq e;omega
 | n+1,e,hw,hn=>by
  intro left S h1 h2
  have hse:=aEl e
  have hvw:e.vs.length<=1048576:=by have:=Ex.w_eq e;omega
  have hl1:(TM.one (.int .i64) e.vs).length=e.vs.length:=by unfold TM.one;simp
  by_cases hv:100<e.vs.length
  ·refine⟨0,aB K _ (fn:=t18) rfl rfl ?_,Int.le_refl _,by omega,fun h=>absurd h (by decide)⟩
   simp (disch:=omega) only[t18,go_sem,hl1,aH]
  ·obtain⟨r,y4,y6,hlp,q0,q1,q2⟩:=aQb e (by omega) (fun x hx=>aQc n x (by have:=Ex.kid_lt hx;omega) (by omega)) (agX e) (j_ 0) z_ S e.ks.length 0 (left-1) u_ (by omega) (by omega) (by omega)
   refine⟨r,aB K _ (fn:=t18) rfl rfl ?_,q0,by omega,fun hr=>by have:=q2 hr;rw[List.drop_zero]at this;rw[aPx,List.length_append];omega⟩
   simp (disch:=omega) only[t18,go_sem,hl1,aH]
   rw[n0_]at hlp
   rw[hlp]
   simp (disch:=omega) only[go_sem]
theorem bIp (p:Pg)(hp:p.b.w<=1048576∧Dt.ws p.cs<=1048576)(S:aA):∃b:Bool,(lim K).call 7 [.iv (.agg (dY p))] S=.ret (.iv (.bool b),S)∧(b=true->sz p.b<=2000∧p.cs.length<=2000∧p.vr<=1099511627776∧(bvE p.b).length<=200000):=by
 obtain⟨r,c18,h0,h1,h2⟩:=aQc p.b.w p.b (Nat.le_refl _) hp.1 2000 S (by decide) (by decide)
 have hwl:=Dt.ws_len p.cs
 have hdl:(dW p.cs).length=p.cs.length:=aK p.cs
 refine⟨decide (0<r)&&decide (p.cs.length<=2000)&&decide (p.vr<=1099511627776),aB K _ (fn:=t7) rfl rfl ?_,fun h=>?_⟩
 ·unfold dY
  by_cases g1:0<r
  ·by_cases g2:p.cs.length<=2000
   ·simp (disch:=omega) only[t7,go_sem,c18,hdl,g1,g2]
   ·simp (disch:=omega) only[t7,go_sem,c18,hdl,g1,g2]
  ·simp (disch:=omega) only[t7,go_sem,c18,hdl,g1]
 ·simp only[Bool.and_eq_true,decide_eq_true_eq]at h
  have:=h2 h.1.1
  exact⟨by omega,h.1.2,h.2,by omega⟩
end Go.Proofs.YtageemgcnoblnaaDoor
