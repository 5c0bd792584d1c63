/- Some texts of the proof, joined. Condition: none. -/
import Derived.Test.YtageemgcnoblnaaDoorJb
import Derived.Test.YtageemgcnoblnaaDoorJc
set_option maxRecDepth 100000
set_option maxHeartbeats 64000000
set_option linter.unusedSimpArgs false
set_option linter.unusedVariables false
namespace Go.Proofs.YtageemgcnoblnaaDoor
open Go Go.TM
def noC:List IV:=[.sl .nil [],.int .i64 0,.int .i64 0,.int .i64 0,.sl .nil []]
theorem aZ6 {p:Pg}(hp:p.b.w≤1048576∧Dt.ws p.cs≤1048576)(h:xX p≠0):TM.Pure K 9 [.iv (.agg (mZ p))] (.tup [.iv (.agg noC),.iv (.int .i64 (xX p))]):=by
 have c11:=aJg p hp
 unfold mZ at *
 refine gR t9 rfl rfl ?_
 simp (config := { maxSteps := 4000000 }) (disch:=omega) only[t9,go_sem,aQ c11,h,noC]
theorem aT6 {p:Pg}(hp:p.b.w≤1048576∧Dt.ws p.cs≤1048576)(h:xX p=0)(hs:lH p.b.w p.b=true):TM.Pure K 9 [.iv (.agg (mZ p))] (.tup [.iv (.agg noC),.iv (.int .i64 2)]):=by
 have c11:=aJg p hp
 have c19:=aI5 p.b.w p.b (Nat.le_refl _) hp.1 []
 rw[h]at c11
 rw[hs,aZ]at c19
 unfold mZ at *
 refine gR t9 rfl rfl ?_
 simp (config := { maxSteps := 4000000 }) (disch:=omega) only[t9,go_sem,aQ c11,c19,noC]
def kH (v:Int):List IV:=[.sl .full [[.int .i64 v]],.bool false,.bool true,.sl .nil [],.int .i64 7,.int .i64 0,.int .i64 0,.int .i64 0,.int .i64 0,.sl .nil [],.sl .nil []]
def tP:List IV:=[.sl .nil [],.bool false,.bool false,.sl .nil [],.int .i64 0,.int .i64 0,.int .i64 0,.int .i64 0,.int .i64 0,.sl .nil [],.sl .nil []]
def stB (v:Int):aM:=.cells 64 false [.iv (.sl .nil []),.iv (.int .i64 v)]
theorem bIo (v:Int)(h:0≤v∧v<4611686018427387904):(lim K).call 21 [.ptr 0 64 0] [stB v]=.ret (.iv (.int .i64 v),[stB (v+1)]):=by
 unfold stB
 refine aB K _ (fn:=t21) rfl rfl ?_
 simp (config := { maxSteps := 4000000 }) (disch:=omega) only[t21,go_sem,aF,Int.add_sub_cancel]
theorem bHb (v w:Int):bR true 11 144 47 [aM.cells 64 false [.iv (.sl .nil []),.iv (.int .i64 w)]] (.iv (.sl .nil [])) (.iv (.sl .full [kH v]))=some (.msl 1 0 0 1 1 11,[aM.cells 64 false [.iv (.sl .nil []),.iv (.int .i64 w)],.cells 0 true (cZ [kH v])]):=by
 simp[bR,jV,lenOf,TM.bO,kH,bM,TM.nE,fR,cZ]
theorem bIp (v w:Int):(lim K).call 20 [.ptr 0 64 0,.iv (.agg (kH v))] [stB w]=.ret (.iv (.int .i64 0),[mkB 1 ⟨[kH v],w⟩,.cells 0 true (cZ [kH v])]):=by
 have ap:=bHb v w
 generalize hc:cZ [kH v]=cs at *
 unfold stB kH mkB at *
 refine aB K _ (fn:=t20) rfl rfl ?_
 simp (config := { maxSteps := 4000000 }) (disch:=omega) only[t20,go_sem,aF,ap]
 rfl
theorem aOk {S:aA}{j v:Nat}{fs:List (List IV)}(h:S[j]? = some (.cells v true (cZ fs)))(hw:∀f∈fs,f.length=11):eR S (.msl j v 0 fs.length fs.length 11)=some fs:=by
 have hs:sub (cZ fs) 0 (fs.length*11)=some (cZ fs):=aN9 (aFu hw)
 have hc:toIVs (cZ fs)=some (TM.bO fs):=aCx _
 simp only[eR,h,ne_eq,not_true_eq_false,if_false,hs,hc,Option.map_some]
 rw[mX hw]
def lY (p:Pg):Mk:=⟨[kH p.vr,tP],p.vr+2⟩
theorem aZ7 {p:Pg}(hp:p.b.w≤1048576∧Dt.ws p.cs≤1048576)(ho:p.b.ok)(hv:0≤p.vr∧p.vr≤1152921504606846976)(h:xX p=0)(hs:lH p.b.w p.b=false){n:Nat}{x:List IV×Mk}(hx:eS n p.b (aV (p.vr+1)) (lY p)=some x)(hB:Bd p.vr x.2) :
  ∃tg,TM.Pure K 9 [.iv (.agg (mZ p))] (.tup [.iv (.agg [.sl tg (x.2.fs.set 1 ([.sl .nil [],.bool false,.bool false,.sl .nil []]++fP (p.vr+1) 0 (.sl .full [x.1]))),.int .i64 1,.int .i64 x.2.nv,.int .i64 p.gl,.sl p.gc (eW p.cs)]),.iv (.int .i64 0)]):=by
 have c11:=aJg p hp
 have c19:=aI5 p.b.w p.b (Nat.le_refl _) hp.1 []
 rw[h]at c11
 rw[hs]at c19
 have hb0:=hv
 have c21:=bIo p.vr (by omega)
 have c20:=bIp p.vr (p.vr+1)
 have hM1:MkS [mkB 1 ⟨[kH p.vr],p.vr+1⟩,.cells 0 true (cZ [kH p.vr])] 0 1 ⟨[kH p.vr],p.vr+1⟩ :=
  ⟨rfl,rfl,by simp,fun f hf=>by rw[List.mem_singleton]at hf; subst hf; exact⟨rfl,rfl⟩,by show 0≤p.vr+1∧p.vr+1≤_∧1≤1000000; omega⟩
 have c22:=aDu hM1 0
 have hM2:=hM1.var (by show p.vr+1<_; omega)
 generalize hS2:[mkB 1 ⟨[kH p.vr],p.vr+1⟩,aM.cells 0 true (cZ [kH p.vr])].set 0 (mkB 1 (Mk.var ⟨[kH p.vr],p.vr+1⟩))=S2 at *
 have hl2:S2.length=2:=by rw[←hS2]; rfl
 have c20z:=vC hM2 (.sl .nil []) (.bool false) (.bool false) (.sl .nil []) (.int .i64 0) (.int .i64 0) (.int .i64 0) (.int .i64 0) (.int .i64 0) (.sl .nil []) (.sl .nil []) rfl
 have hM3:=hM2.push (f:=tP) rfl rfl (by show 1<1000000; decide)
 rw[show Mk.push (Mk.var ⟨[kH p.vr],p.vr+1⟩) tP=lY p from by unfold lY Mk.push Mk.var; congr 1; show p.vr+1+1=p.vr+2; omega]at hM3
 rw[show Mk.push (Mk.var ⟨[kH p.vr],p.vr+1⟩) [.sl .nil [],.bool false,.bool false,.sl .nil [],.int .i64 0,.int .i64 0,.int .i64 0,.int .i64 0,.int .i64 0,.sl .nil [],.sl .nil []]=lY p from by unfold lY Mk.push Mk.var; congr 1; show p.vr+1+1=p.vr+2; omega]at c20z
 generalize hS3:(S2.set 1 (.cells (Mk.var ⟨[kH p.vr],p.vr+1⟩).fs.length true (cZ ((Mk.var ⟨[kH p.vr],p.vr+1⟩).fs++[tP])))).set 0 (mkB 1 (lY p))=S3 at *
 have hl3:S3.length=2:=by rw[←hS3]; simp[hl2]
 let Z:aM:=.cells 46 false [.iv (.int .i64 0),.iv (.int .i64 0),.iv (.int .i64 0),.iv (.int .i64 0),.iv (.int .i64 0),.iv (.sl .nil []),.iv (.sl .nil [])]
 have kA:bC [] S3 (S3++[Z]):=bC.app _ _ _
 have hM4:=hM3.keep kA (by simp) (by simp)
 have z4:(S3++[Z])[2]? = some Z:=by rw[←hl3,cY]
 have hle:=(mono n).code hx
 obtain⟨S5,c24,hM5,k5⟩:=(aS2 hb0 n n (Nat.le_refl _)).c hx ⟨ho,hp.1⟩ (by show p.vr≤p.vr+2; omega) hB hM4
 have tx:=(dP n).code hx ⟨ho,hp.1⟩
 obtain⟨S6,c23,hM6,k6⟩:=(aS2 hb0 2 2 (Nat.le_refl _)).d (l:=[St.tm (fP (p.vr+1) 0 (.sl .nil [])) (p.vr+1)]) (t:=x.1) (σ:=x.2) (x:=((fP (p.vr+1) 0 (.sl .nil [])).set 6 (.sl .full [x.1]),x.2)) (by
  rw[List.reverse_singleton,cC,cC]) (.inr (.inr rfl)) tx (fun s hs=>by rw[List.mem_singleton]at hs; subst hs; exact TmO.fun ..) (by simp) (by have:=hle.nv; simp only[lY]at this; omega) hB hM5
 have c25:=kY (p.vr+1)
 have z5:=k5.get _ _ (by simp) z4
 have z6:=k6.get _ _ (by simp) z5
 obtain⟨r,hr⟩:=hle.fs
 obtain⟨a0,a1,a2,a3,a4,a5,a6,b5,b6,hxt⟩:=tx
 rw[aZ]at c19 c24
 unfold mZ at c11 ⊢
 refine⟨.no,gR t9 rfl rfl ?_⟩
 have e1:p.vr+1+1=p.vr+2:=by omega
 have c21':(lim K).call 21 [.ptr 0 64 0] [.cells 64 false [.iv (.sl .nil []),.iv (.int .i64 p.vr)]]=.ret (.iv (.int .i64 p.vr),[stB (p.vr+1)]):=c21
 unfold kH tP at *
 rw[hS3]at c20z
 rw[hxt]at c24 ⊢
 rw[show dS [St.tm (fP (p.vr+1) 0 (.sl .nil [])) (p.vr+1)]=[mO (p.vr+1) 0] from rfl,show (fP (p.vr+1) 0 (.sl .nil [])).set 6 (.sl .full [x.1])=fP (p.vr+1) 0 (.sl .full [x.1]) from rfl,hxt]at c23
 unfold aV mO fP at *
 simp only[Z]at c24 z6
 rw[show (Mk.var ⟨[[.sl .full [[.int .i64 p.vr]],.bool false,.bool true,.sl .nil [],.int .i64 7,.int .i64 0,.int .i64 0,.int .i64 0,.int .i64 0,.sl .nil [],.sl .nil []]],p.vr+1⟩).fs.length=1 from rfl]at c20z
 have o6:=hM6.own
 have r6:=hM6.row
 have q0:∀X,(S6.set 2 X)[0]? = some (mkB 1 x.2):=fun X=>by rw[bK (by decide)]; exact o6
 have q1:∀X,(S6.set 2 X)[1]? = some (.cells (x.2.fs.length-1) true (cZ x.2.fs)):=fun X=>by rw[bK (by decide)]; exact r6
 have q2:∀X,(S6.set 2 X)[2]? = some X:=fun X=>bW (bD z6) X
 unfold mkB at q0
 rw[hr,lY]at q0 q1
 have hLn:([kH p.vr,tP]++r).length=r.length+2:=by simp
 have hc0:cZ ([kH p.vr,tP]++r)=[.iv (.sl .full [[.int .i64 p.vr]]),.iv (.bool false),.iv (.bool true),.iv (.sl .nil []),.iv (.int .i64 7),.iv (.int .i64 0),.iv (.int .i64 0),.iv (.int .i64 0),.iv (.int .i64 0),.iv (.sl .nil []),.iv (.sl .nil []),.iv (.sl .nil []),.iv (.bool false),.iv (.bool false),.iv (.sl .nil []),.iv (.int .i64 0),.iv (.int .i64 0),.iv (.int .i64 0),.iv (.int .i64 0),.iv (.int .i64 0),.iv (.sl .nil []),.iv (.sl .nil [])]++cZ r:=rfl
 rw[hLn]at q0 q1
 rw[hc0]at q1
 rw[show r.length+2-1=r.length+1 by omega]at q0 q1
 generalize hcr:cZ r=cr at *
 have q3:∀X Y,((S6.set 2 X).set 1 Y)[0]? = some (aM.cells 64 false [TV.msl 1 (r.length+1) 0 (r.length+2) (r.length+2) 11,TV.iv (IV.int IntKind.i64 x.2.nv)]):=fun X Y=>by rw[bK (by decide)]; exact q0 X
 have q4:∀X Y,((S6.set 2 X).set 1 Y)[1]? = some Y:=fun X Y=>bW (by simp; exact bD r6) Y
 have hia:indexAddrS 11 (.msl 1 (r.length+1) 0 (r.length+2) (r.length+2) 11) ((1:Nat):Int)=some (.ptr 1 (r.length+1) 11):=by
  simp[indexAddrS]; omega
 simp only[List.cons_append,List.nil_append]at q1
 simp (config := { maxSteps := 4000000 }) (disch:=omega) only[t9,go_sem,aQ c11,c19,c21',c20,c22,c20z,aQ c25,hl3,c24,c23,z5,z6,q0,q1,q2,hia,q3,q4]
 have hfl:(x.2.fs.set 1 ([.sl .nil [],.bool false,.bool false,.sl .nil []]++[.int .i64 2,.int .i64 (p.vr+1),.int .i64 0,.int .i64 0,.int .i64 0,.sl .nil [],.sl .full [[.int .i64 a0,.int .i64 a1,.int .i64 a2,.int .i64 a3,.int .i64 a4,.sl a5 b5,.sl a6 b6]]])).length=r.length+2:=by rw[List.length_set,hr,lY,hLn]
 have he:=fun S=>aOk (S:=S) (j:=1) (v:=r.length+1) (fs:=x.2.fs.set 1 ([.sl .nil [],.bool false,.bool false,.sl .nil []]++[.int .i64 2,.int .i64 (p.vr+1),.int .i64 0,.int .i64 0,.int .i64 0,.sl .nil [],.sl .full [[.int .i64 a0,.int .i64 a1,.int .i64 a2,.int .i64 a3,.int .i64 a4,.sl a5 b5,.sl a6 b6]]]))
 rw[hfl]at he
 rw[he _ (by rw[q4,hr,←hcr]; rfl) (fun f hf=>by
  rcases List.mem_or_eq_of_mem_set hf with hf|rfl
  ·exact (hM6.wid f hf).1
  ·rfl)]
 rfl
def jI (v:Int)(t:List IV):List IV:=[.sl .nil [],.bool false,.bool false,.sl .nil []]++fP v 0 (.sl .full [t])
structure Mdl (p:Pg) (x:List IV×Mk) (r:List (List IV)):Prop where
 fs:x.2.fs=[kH p.vr,tP]++r
 ok:∀f∈r,FOK p.vr f
 ct:∀κ,cFs p.vr κ r=cE κ p.b
 tm:TmO x.1
 bd:Bd p.vr x.2
 ln:x.2.fs.length≤30000
 nv:p.vr+2≤x.2.nv
 nh:x.2.nv≤p.vr+30000
theorem aT7 {p:Pg}(h:xX p=0):Fr p p.b∧Sc [] p.b∧0≤p.vr∧0≤p.gl:=by
 unfold xX at h
 by_cases h1:p.gl<0∨20000<p.gl∨p.vr<0
 ·rw[if_pos h1]at h; cases h
 ·rw[if_neg h1]at h
  by_cases h2:(p.cs.all fun d=>kZ d&&plF d)=false
  ·rw[if_pos h2]at h; cases h
  ·rw[if_neg h2]at h
   obtain⟨a,b,_⟩:=aJd p p.b.w p.b (Nat.le_refl _) 0 [] [] [] h
   exact⟨a,b,by omega,by omega⟩
theorem mdl {p:Pg}(hp:p.b.w≤1048576)(ho:p.b.ok)(h:xX p=0)(hs:sz p.b≤2000):∃n x r,eS n p.b (aV (p.vr+1)) (lY p)=some x∧Mdl p x r:=by
 obtain⟨hf,hsc,hv,_⟩:=aT7 h
 obtain⟨x,hx,hpt⟩:=(tot p (sz p.b) p.b (Nat.le_refl _) hf).2 (11*sz p.b) (aV (p.vr+1)) (lY p) (by omega)
 have hle:=(mono (11*sz p.b)).code hx
 obtain⟨r,hr⟩:=hle.fs
 have hnv:p.vr+2≤x.2.nv:=hle.nv
 have hpc:pot (lY p)=p.vr+2+2:=rfl
 have hpx:pot x.2=x.2.nv+x.2.fs.length:=rfl
 refine⟨_,x,r,hx,hr,?_,fun κ=>?_,(dP _).code hx ⟨ho,hp⟩,⟨by omega,by omega⟩,by omega,hnv,by omega⟩
 ·have:=(funcs p _).code hx ⟨hf,ho,hp⟩ (by show p.vr≤p.vr+2; omega) (fun f hf=>by cases hf)
  intro f hf
  refine this f ?_
  rw[hr,show (lY p).fs=[kH p.vr,tP] from rfl]
  exact hf
 ·have:=(aTq p κ _).code hx hf (by show p.vr≤p.vr+2; omega)
  rw[hr,aDz]at this
  omega
section
variable {p:Pg}{x:List IV×Mk}{r:List (List IV)}(m:Mdl p x r)
include m
theorem Mdl.F:x.2.fs.set 1 (jI (p.vr+1) x.1)=kH p.vr::jI (p.vr+1) x.1::r:=by rw[m.fs]; rfl
end
section
variable {p:Pg}{x:List IV×Mk}{r:List (List IV)}(m:Mdl p x r)
include m
end
theorem tQ (v:Int):∀l:List Int,cn v l=l.count v
 | []=>rfl
 | a::r=>by
  rw[cn,List.count_cons,tQ v r]
  unfold rng
  by_cases h:a=v
  ·subst h; rw[if_pos (by omega)]; simp; omega
  ·rw[if_neg (by omega)]; simp[h]
theorem aNb {a b:List Int}(h:∀v,cn v a=cn v b):a.Perm b:=by
 rw[List.perm_iff_count]
 intro v
 rw[←tQ,←tQ]; exact h v
def oP (a:Int)(n:Nat):List Int:=(List.range n).map fun k=>a+Int.ofNat k
theorem pV (a:Int)(v:Int):∀n:Nat,cn v (oP a n)=rng a (a+n) v
 | 0=>by rw[show ((0:Nat):Int)=0 from rfl,Int.add_zero,fY]; rfl
 | n+1=>by
  have h:oP a (n+1)=oP a n++[a+n]:=by unfold oP; rw[List.range_succ,List.map_append]; rfl
  rw[h,gW,pV a v n,cn,cn,show ((n+1:Nat):Int)=(n:Int)+1 by omega,←Int.add_assoc,cH (by omega:a≤a+n) (by omega:a+(n:Int)≤a+n+1) v]
  omega
theorem aCp (a:Int)(n:Nat):(oP a n).length=n:=by unfold oP; simp
mutual
theorem aF8 (v:Int):∀e:Ex,v∈vB aBs e→v∈bvE e
 | .mk k n gv vs r g ks=>fun h=>by
  rw[vB]at h
  rw[bvE]
  rcases List.mem_append.1 h with h|h
  ·unfold aBs at h
   split at h
   ·exact List.mem_append_left _ h
   ·cases h
  ·exact List.mem_append_right _ (aCq v ks h)
theorem aCq (v:Int):∀l:List Ex,v∈lV aBs l→v∈pS l
 | []=>fun h=>by rw[lV]at h; cases h
 | e::es=>fun h=>by
  rw[lV]at h
  rw[pS]
  rcases List.mem_append.1 h with h|h
  ·exact List.mem_append_left _ (aF8 v e h)
  ·exact List.mem_append_right _ (aCq v es h)
end
theorem aF9 {p:Pg}:∀(N:Nat) (e:Ex),e.w≤N→Fr p e→∀v∈bvE e,0≤v∧v<p.vr
 | 0,e,hw,_=>by have:=Ex.w_eq e; omega
 | N+1,e,hw,hf=>by
  have hK:∀x∈e.ks,Fr p x:=mP.1 ((pT p e).1 hf).2
  intro v hv
  rw[aM2]at hv
  rcases List.mem_append.1 hv with hv|hv
  ·exact (frP hf).kv v hv
  ·obtain⟨x,hx,hv⟩:=aM4.1 hv
   exact aF9 N x (by have:=Ex.kid_lt hx; omega) (hK x hx) v hv
def kI (p:Pg)(T:Tr):Tr:=.fn (p.vr+1) 0 [p.vr] false .halt T
structure MT (p:Pg) (x:List IV×Mk) (T:Tr):Prop where
 dec:Dec (x.2.fs.set 1 (jI (p.vr+1) x.1)) (kI p T) (fP (p.vr+1) 0 (.sl .full [x.1]))
 ok:OkT p.cs.length p.gl [] (kI p T)
 bn:(bvs (kI p T)).Nodup
 br:∀v∈bvs (kI p T),0≤v∧v<x.2.nv
 bp:(bvs (kI p T)).Perm (bvE p.b++oP p.vr (x.2.nv-p.vr).toNat)
 mn:(mks (kI p T)).Nodup
 m1:(1:Int)∉mks (kI p T)
 ml:(mks (kI p T)).length+1=x.2.fs.length
theorem aOl {p:Pg}(hp:p.b.w≤1048576)(ho:p.b.ok)(h:xX p=0)(hst:lH p.b.w p.b=false){n:Nat}{x:List IV×Mk}{r:List (List IV)}(hx:eS n p.b (aV (p.vr+1)) (lY p)=some x)(m:Mdl p x r):∃T,MT p x T:=by
 obtain⟨hf,hsc,hv,hgl⟩:=aT7 h
 have hfit:Fit (bvE p.b) (ccE p.b) [] []:=by
  unfold xX at h
  by_cases h1:p.gl<0∨20000<p.gl∨p.vr<0
  ·rw[if_pos h1]at h; cases h
  ·rw[if_neg h1]at h
   by_cases h2:(p.cs.all fun d=>kZ d&&plF d)=false
   ·rw[if_pos h2]at h; cases h
   ·rw[if_neg h2]at h
    exact (aJd p p.b.w p.b (Nat.le_refl _) 0 [] [] [] h).2.2.1
 have hle:=(mono n).code hx
 have hlen:2≤x.2.fs.length:=hle.len
 have hnv:p.vr+2≤x.2.nv:=m.nv
 have hag:Ag (x.2.fs.set 1 (jI (p.vr+1) x.1)) x.2:=fun i f hi hf=>by
  rw[List.getElem?_set_ne (Ne.symm hi)]; exact hf
 have hes:ES p [p.vr+1] p.b:=ES.mono ⟨⟨hf,ho,hp⟩,hsc,aT3 p.b.w p.b (Nat.le_refl _) hst⟩ (fun v hv=>by cases hv)
 obtain⟨T,d1,d2,d3,d4⟩:=(bDj p (x.2.fs.set 1 (jI (p.vr+1) x.1)) n).code hx hes (okV (by simp)) (by show 2≤2; decide) hag
 have hcn:∀v,cn v (bvs (kI p T))=cn v (bvE p.b++oP p.vr (x.2.nv-p.vr).toNat):=fun v=>by
  rw[gW,pV,show p.vr+((x.2.nv-p.vr).toNat:Int)=x.2.nv by omega,cH (by omega:p.vr≤p.vr+1) (by omega:p.vr+1≤x.2.nv) v,cH (by omega:p.vr+1≤p.vr+1+1) (by omega:p.vr+1+1≤x.2.nv) v]
  unfold kI
  rw[bvs,cn,gW,gW,d3 v,cn,cn,show (lY p).nv=p.vr+2 from rfl,show p.vr+2=p.vr+1+1 by omega]
  show _+(_+0+cn v []+_)=_
  rw[cn]
  show _=cbE v p.b+_
  omega
 have hperm:=aNb hcn
 have hcm:∀i,cn i (mks (kI p T))=rng 0 1 i+rng 2 x.2.fs.length i:=fun i=>by
  unfold kI
  show rng ((0:Nat):Int) (((0:Nat):Int)+1) i+cn i ([]++mks T)=_
  rw[List.nil_append,d4 i]
  rfl
 have hbv:=aF9 p.b.w p.b (Nat.le_refl _) hf
 have hbc:∀v,cn v (bvE p.b)≤1:=fun v=>by
  rw[tQ]; exact List.nodup_iff_count.1 hfit.nb v
 have hF0:(x.2.fs.set 1 (jI (p.vr+1) x.1))[0]? = some (kH p.vr):=by rw[m.F]; rfl
 refine⟨T,⟨?_,?_,?_,?_,hperm,?_,?_,?_⟩⟩
 ·exact⟨x.1,_,_,_,rfl,hF0,rfl,d1⟩
 ·exact⟨(fun h=>by cases h),by simp,trivial,d2⟩
 ·refine zH fun v=>?_
  rw[hcn,gW,pV]
  have h1:=hbc v
  by_cases h2:1≤cn v (bvE p.b)
  ·have:=hbv v (zG.1 h2)
   have h3:rng p.vr (p.vr+((x.2.nv-p.vr).toNat:Int)) v=0:=by unfold rng; rw[if_neg (by omega)]
   omega
  ·have h3:rng p.vr (p.vr+((x.2.nv-p.vr).toNat:Int)) v≤1:=by unfold rng; split<;>omega
   omega
 ·intro v hv'
  rcases List.mem_append.1 (hperm.mem_iff.1 hv') with h1|h1
  ·have:=hbv v h1; omega
  ·have h2:=zG.2 h1
   rw[pV]at h2
   unfold rng at h2
   split at h2<;>omega
 ·refine zH fun i=>?_
  rw[hcm]
  unfold rng
  split<;>split<;>omega
 ·intro h1
  have h2:=zG.2 h1
  rw[hcm]at h2
  unfold rng at h2
  rw[if_neg (by omega),if_neg (by omega)]at h2
  omega
 ·have hp2:(mks (kI p T)).Perm (0::oP 2 (x.2.fs.length-2)):=aNb fun i=>by
   rw[hcm,cn,pV,show (2:Int)+((x.2.fs.length-2:Nat):Int)=x.2.fs.length by omega]
   rfl
  rw[hp2.length_eq,List.length_cons,aCp]; omega
theorem aT8 {C:Cd}{body:Tr}(hB:TmC C body){bt:List IV}{S:aA}{jx:Nat}{fb fm:Bool}{jb jm:Nat}{b m:List Int}{fs:Bool}{js:Nat}{seen:List Int}{tp:Tag}{ps:List Int}{r cc:Bool}(hd:Dec C.F body bt)(hk:OkT C.cs.length C.gl (seen++ps) body)(hr:r=true→ps≠[])(hpl:ps.length≤1048577)(hL:LK S C jx fb fm jb jm b m)(hN:New C (ps++bvs body) (mks body) b m seen) :
  ∃fb' fm' jb' jm' S',(lim K).call 16 [.ptr jx 57 0,.iv (.agg (.sl tp (bX ps)::.bool r::.bool cc::.sl .nil []::bt)),rv fs js (bX seen)] S=.ret (.iv (.bool true),S')∧LK S' C jx fb' fm' jb' jm' (b++(ps++bvs body)) (m++mks body)∧KX S S' jx fb fm fb' fm' jb jm jb' jm' b m (b++(ps++bvs body)) (m++mks body):=by
 have hbl:=hN.bl
 have hsl:=hN.sl
 rw[List.length_append]at hbl hsl
 obtain⟨n1,n2,n3⟩:=List.nodup_append.1 hN.bn
 obtain⟨fi,ji,S1,ap,g⟩:=Rw.more (S:=S) (f:=true) (j:=0) (l:=[]) (ys:=bX seen) ⟨fun h=>by cases h⟩ (aM9 fs js (bX seen) S) (by intro y hy; cases hy) (jT seen) (by rw[gG]; simp; omega)
 rw[List.nil_append,bEr]at ap
 rw[List.nil_append]at g
 obtain⟨hL1,hd1⟩:=hL.other g ⟨fun h=>by cases h⟩ (fun q hq=>by cases hq.1)
 have hX1:=(KX.refl S jx fb fm jb jm b m).other g (fun q hq=>by cases hq.1)
 have hi1:∀q,Tk fi (bX seen) ji q→S.length≤q:=fun q hq=>by
  rcases g.new q hq with h1|h1
  ·cases h1.1
  ·exact h1
 obtain⟨c0,c1,c2,c3,c4,t5,l5,t6,l6,rfl⟩:=hd.cells
 obtain⟨S2,fb2,jb2,fi2,ji2,y7,y8,lp,hL2,hX2⟩:=aT1 (.iv (.agg [.sl tp (bX ps),.bool r,.bool cc,.sl .nil [],.int .i64 c0,.int .i64 c1,.int .i64 c2,.int .i64 c3,.int .i64 c4,.sl t5 l5,.sl t6 l6])) (rv fs js (bX seen)) (.iv (.bool false)) tp ps hpl r cc c0 c1 c2 c3 c4 t5 l5 t6 l6 n1 ps.length 0 S1 fb jb b fi ji seen u_ u_ (by omega) hL1 hX1 g.rw hd1 hi1 (fun v hv=>hN.br v (by rw[List.drop_zero]at hv; simp[hv])) (by omega) (by omega)
 rw[List.drop_zero]at lp hL2 hX2
 rw[show ((0:Nat):Int)=0 from rfl]at lp
 obtain⟨fb3,fm3,jb3,jm3,S3,c39,hL3,hX3⟩:=hB (fs:=fi2) (js:=ji2) hd hk hL2 ⟨n2,fun v hv=>by
  have h1:=hN.br v (by simp[hv])
  refine⟨h1.1,h1.2.1,fun hm=>?_⟩
  rcases List.mem_append.1 hm with hm|hm
  ·exact h1.2.2 hm
  ·exact n3 v hm v hv rfl,hN.mn,hN.mr,by rw[List.length_append]; omega,hN.ml,by rw[List.length_append]; omega⟩
 rw[List.append_assoc]at hL3 hX3
 refine⟨fb3,fm3,jb3,jm3,S3,aB K _ (fn:=t16) rfl rfl ?_,hL3,hX2.trans hX3⟩
 have hle:=gG ps
 simp (config := { maxSteps := 4000000 }) (disch:=omega) only[t16,go_sem,ap]
 rw[lp]
 cases r with
 | false=>simp (config := { maxSteps := 4000000 }) (disch:=omega) only[go_sem,hle,c39]
 | true =>
  have hp:0<ps.length:=List.length_pos_iff.2 (hr rfl)
  simp (config := { maxSteps := 4000000 }) (disch:=omega) only[go_sem,hle,c39]
theorem ix7 {t:Tag}{l:List (List IV)}{i:Nat}{c:List IV}(h:l[i]? = some c)(hl:c.length=7):indexAddrS 7 (.iv (.sl t l)) (i:Int)=some (.iv (.cp c)):=pJ (by omega) (by rw[Int.toNat_natCast]; exact h) hl
theorem aZ8 (env:Env)(S:aA)(a b c d e f g:IV):bB env S (.iv (.cp [a,b,c,d,e,f,g])) 7=some [.iv a,.iv b,.iv c,.iv d,.iv e,.iv f,.iv g]:=by simp[bB,sub]
attribute [go_sem] aZ8
theorem aCr {S:aA}{C:Cd}{jx:Nat}{fb fm:Bool}{jb jm:Nat}{b m:List Int}(hL:LK S C jx fb fm jb jm b m)(fs:Bool)(js:Nat){seen:List Int}(hs:seen.length<1000000)(v:Int) :
  ∃fi ji S1 f2 j2 S2,bR false 1 8 3 S (.iv (.sl .full [])) (rv fs js (bX seen))=some (rv fi ji (bX seen),S1)∧bR false 1 8 3 S1 (rv fi ji (bX seen)) (.iv (.sl .full [[.int .i64 v]]))=some (rv f2 j2 (bX (seen++[v])),S2) ∧
   LK S1 C jx fb fm jb jm b m∧LK S2 C jx fb fm jb jm b m∧KX S S2 jx fb fm fb fm jb jm jb jm b m b m:=by
 obtain⟨fi,ji,S1,ap,g⟩:=Rw.more (S:=S) (f:=true) (j:=0) (l:=[]) (ys:=bX seen) ⟨fun h=>by cases h⟩ (aM9 fs js (bX seen) S) (by intro y hy; cases hy) (jT seen) (by rw[gG]; simp; omega)
 rw[List.nil_append,bEr]at ap
 rw[List.nil_append]at g
 obtain⟨hL1,hd1⟩:=hL.other g ⟨fun h=>by cases h⟩ (fun q hq=>by cases hq.1)
 have hX1:=(KX.refl S jx fb fm jb jm b m).other g (fun q hq=>by cases hq.1)
 have hi1:∀q,Tk fi (bX seen) ji q→S.length≤q:=fun q hq=>by
  rcases g.new q hq with h1|h1
  ·cases h1.1
  ·exact h1
 obtain⟨f2,j2,S2,ap2,g2⟩:=g.rw.more (iJ.sl S1 .full [[.int .i64 v]]) (jT seen) (jT [v]) (by rw[gG]; simp; omega)
 rw[show bX seen++[[.int .i64 v]]=bX (seen++[v]) from (tN seen [v]).symm]at ap2 g2
 obtain⟨hL2,_⟩:=hL1.other g2 g.rw hd1
 exact⟨fi,ji,S1,f2,j2,S2,ap,ap2,hL1,hL2,hX1.other g2 hi1⟩
theorem aOm {C:Cd}(hcs:C.cs.length≤1048576){v op n:Int}{ats:List (List IV)}{k:Tr}(ih:TmC C k):TmC C (.prim v op n ats k):=by
 intro t S jx fb fm jb jm b m fs js seen hd hk hL hN
 obtain⟨tg,tk,c,rfl,hdk⟩:=hd
 obtain⟨k1,k2,k3,k4,k5⟩:=hk
 have hbl:=hN.bl
 have hsl:=hN.sl
 rw[show bvs (.prim v op n ats k)=v::bvs k from rfl,List.length_cons]at hbl hsl
 have hbv:=hN.br v (by rw[bvs]; simp)
 have hbn:=hN.bn
 rw[bvs,List.nodup_cons]at hbn
 have c66:=vF hL hcs 1 v op n 0 tg ats tk [c] fs js seen (by omega) k3 k1
 have c67:=bEw op
 rw[←k2]at c67
 obtain⟨fb1,jb1,S1,c38,hL1,hX1⟩:=aJh hL v (by omega) ⟨hbv.1,hbv.2.1⟩ hbv.2.2
 obtain⟨fi,ji,S2,f2,j2,S3,ap,ap2,hL2,hL3,hX3⟩:=aCr hL1 fs js (seen:=seen) (by omega) v
 obtain⟨fb4,fm4,jb4,jm4,S4,c39,hL4,hX4⟩:=ih (fs:=f2) (js:=j2) hdk k5 hL3 ⟨hbn.2,fun w hw=>by
  have h1:=hN.br w (by rw[bvs]; simp[hw])
  refine⟨h1.1,h1.2.1,fun hm=>?_⟩
  rcases List.mem_append.1 hm with hm|hm
  ·exact h1.2.2 hm
  ·rw[List.mem_singleton]at hm; subst hm; exact hbn.1 hw,hN.mn,hN.mr,by rw[List.length_append,List.length_singleton]; omega,hN.ml,by rw[List.length_append,List.length_singleton]; omega⟩
 rw[List.append_assoc,List.singleton_append]at hL4 hX4
 obtain⟨d0,d1,d2,d3,d4,u5,v5,u6,v6,rfl⟩:=hdk.cells
 have hix:=ix7 (t:=tk) (l:=[[.int .i64 d0,.int .i64 d1,.int .i64 d2,.int .i64 d3,.int .i64 d4,.sl u5 v5,.sl u6 v6]]) (i:=0) rfl rfl
 rw[show ((0:Nat):Int)=0 from rfl]at hix
 have o0:=hL.own
 have o1:=hL1.own
 have o2:=hL2.own
 have o3:=hL3.own
 unfold lkB at o0 o1 o2 o3
 refine⟨fb4,fm4,jb4,jm4,S4,aB K _ (fn:=t39) rfl rfl ?_,hL4,(hX1.trans hX3).trans hX4⟩
 by_cases g1:op=103
 ·obtain⟨p1,p2⟩:=k4 (.inl g1)
  subst g1
  simp (config := { maxSteps := 4000000 }) (disch:=omega) only[t39,go_sem,c66,aQ c67,c38,ap,ap2,hix,c39,o0,o1,o2,o3]
 ·by_cases g2:op=104
  ·obtain⟨p1,p2⟩:=k4 (.inr g2)
   subst g2
   simp (config := { maxSteps := 4000000 }) (disch:=omega) only[t39,go_sem,c66,aQ c67,c38,ap,ap2,hix,c39,o0,o1,o2,o3]
  ·simp (config := { maxSteps := 4000000 }) (disch:=omega) only[t39,go_sem,c66,aQ c67,c38,ap,ap2,hix,c39,o0,o1,o2,o3,g1,g2]
theorem aZ9 {C:Cd}(hcs:C.cs.length≤1048576)(hF:C.F.length≤1000000){v:Int}{f:Nat}{ps:List Int}{r:Bool}{body k:Tr}(ihb:TmC C body)(ihk:TmC C k):TmC C (.fn v f ps r body k):=by
 intro t S jx fb fm jb jm b m fs js seen hd hk hL hN
 obtain⟨c,tp,cc,bt,rfl,hFf,hdb,hdk⟩:=hd
 obtain⟨k1,k2,k3,k4⟩:=hk
 have hbl:=hN.bl
 have hml:=hN.ml
 have hsl:=hN.sl
 have hB:bvs (.fn v f ps r body k)=v::(ps++bvs body++bvs k):=rfl
 have hM:mks (.fn v f ps r body k)=(f:Int)::(mks body++mks k):=rfl
 rw[hB,List.length_cons,List.length_append,List.length_append]at hbl hsl
 rw[hM,List.length_cons,List.length_append]at hml
 have hbv:=hN.br v (by rw[hB]; simp)
 have hmf:=hN.mr f (by rw[hM]; simp)
 have hbn:=hN.bn
 rw[hB,List.nodup_cons]at hbn
 obtain⟨n1,n2,n3⟩:=List.nodup_append.1 hbn.2
 have hmn:=hN.mn
 rw[hM,List.nodup_cons]at hmn
 obtain⟨m1,m2,m3⟩:=List.nodup_append.1 hmn.2
 have hfl:f<C.F.length:=(List.getElem?_eq_some_iff.1 hFf).1
 have c66:=vF hL hcs 2 v 0 0 f .nil [] .full [c] fs js seen (by omega) (by decide) (by intro a ha; cases ha)
 have h14:=aD1 (aTx fm (bX m)) m (by have:=hL.ln; omega) f
 rw[decide_eq_false hmf]at h14
 obtain⟨fb1,jb1,S1,c38,hL1,hX1⟩:=aJh hL v (by omega) ⟨hbv.1,hbv.2.1⟩ hbv.2.2
 obtain⟨fm2,jm2,S2,apm,hx2,hL2,hX2⟩:=hL1.make f (by omega)
 obtain⟨fb3,fm3,jb3,jm3,S3,c16,hL3,hX3⟩:=aT8 ihb (fs:=fs) (js:=js) (seen:=seen) (tp:=tp) (r:=r) (cc:=cc) hdb k3 k1 k2 hL2 ⟨n1,fun w hw=>by
  have h1:=hN.br w (by rw[hB]; exact List.mem_cons_of_mem _ (List.mem_append_left _ hw))
  refine⟨h1.1,h1.2.1,fun hm=>?_⟩
  rcases List.mem_append.1 hm with hm|hm
  ·exact h1.2.2 hm
  ·rw[List.mem_singleton]at hm; subst hm; exact hbn.1 (List.mem_append_left _ hw),m1,fun w hw hm=>by
  rcases List.mem_append.1 hm with hm|hm
  ·exact hN.mr w (by rw[hM]; exact List.mem_cons_of_mem _ (List.mem_append_left _ hw)) hm
  ·rw[List.mem_singleton]at hm; subst hm; exact hmn.1 (List.mem_append_left _ hw),by rw[List.length_append,List.length_singleton,List.length_append]; omega,by rw[List.length_append,List.length_singleton]; omega,by rw[List.length_append]; omega⟩
 obtain⟨fi,ji,S4,f5,j5,S5,ap,ap2,hL4,hL5,hX5⟩:=aCr hL3 fs js (seen:=seen) (by omega) v
 obtain⟨fb6,fm6,jb6,jm6,S6,c39,hL6,hX6⟩:=ihk (fs:=f5) (js:=j5) hdk k4 hL5 ⟨n2,fun w hw=>by
  have h1:=hN.br w (by rw[hB]; exact List.mem_cons_of_mem _ (List.mem_append_right _ hw))
  refine⟨h1.1,h1.2.1,fun hm=>?_⟩
  rw[List.append_assoc,List.singleton_append]at hm
  rcases List.mem_append.1 hm with hm|hm
  ·exact h1.2.2 hm
  ·rcases List.mem_cons.1 hm with rfl|hm
   ·exact hbn.1 (List.mem_append_right _ hw)
   ·exact n3 w hm w hw rfl,m2,fun w hw hm=>by
  rw[List.append_assoc,List.singleton_append]at hm
  rcases List.mem_append.1 hm with hm|hm
  ·exact hN.mr w (by rw[hM]; exact List.mem_cons_of_mem _ (List.mem_append_right _ hw)) hm
  ·rcases List.mem_cons.1 hm with rfl|hm
   ·exact hmn.1 (List.mem_append_right _ hw)
   ·exact m3 w hm w hw rfl,by simp only[List.length_append,List.length_singleton]; omega,by simp only[List.length_append,List.length_singleton]; omega,by rw[List.length_append,List.length_singleton]; omega⟩
 have eB:b++[v]++(ps++bvs body)++bvs k=b++bvs (.fn v f ps r body k):=by rw[hB]; simp
 have eM:m++[(f:Int)]++mks body++mks k=m++mks (.fn v f ps r body k):=by rw[hM]; simp
 rw[eB,eM]at hL6 hX6
 have o0:=hL.own
 have o1:=hL1.own
 have o2:=hL2.own
 have o3:=hL3.own
 have o4:=hL4.own
 have o5:=hL5.own
 have o1l:=bD o1
 obtain⟨d0,d1,d2,d3,d4,u5,v5,u6,v6,hce⟩:=hdk.cells
 have hix:=ix7 (t:=.full) (l:=[c]) (i:=0) rfl (by rw[hce]; rfl)
 rw[show ((0:Nat):Int)=0 from rfl,hce]at hix
 rw[hce]at c66 c39 ⊢
 obtain⟨q0,q1,q2,q3,q4,w5,x5,w6,x6,hbe⟩:=hdb.cells
 have hixF:=ixF (tg:=C.tg) hFf (by rw[hbe]; rfl)
 rw[hbe]at hixF c16
 refine⟨fb6,fm6,jb6,jm6,S6,aB K _ (fn:=t39) rfl rfl ?_,hL6,(((hX1.trans hX2).trans hX3).trans hX5).trans hX6⟩
 have hfi:(f:Int)<C.F.length:=by omega
 unfold lkB at o0 o1 o2 o3 o4 o5 hx2 c16
 simp (config := { maxSteps := 4000000 }) (disch:=omega) only[t39,go_sem,c66,aQ h14,c38,apm,hx2,c16,hixF,ap,ap2,hix,c39,o0,o1,o2,o3,o4,o5]
theorem aT9 {C:Cd}(hcs:C.cs.length≤1048576){a:List IV}{p q:Tr}(ihp:TmC C p)(ihq:TmC C q):TmC C (.ite a p q):=by
 intro t S jx fb fm jb jm b m fs js seen hd hk hL hN
 obtain⟨c,d,rfl,hdp,hdq⟩:=hd
 obtain⟨k1,k2,k3⟩:=hk
 have hbl:=hN.bl
 have hml:=hN.ml
 have hsl:=hN.sl
 have hB:bvs (.ite a p q)=bvs p++bvs q:=rfl
 have hM:mks (.ite a p q)=mks p++mks q:=rfl
 rw[hB,List.length_append]at hbl hsl
 rw[hM,List.length_append]at hml
 have hbn:=hN.bn
 have hmn:=hN.mn
 rw[hB]at hbn
 rw[hM]at hmn
 obtain⟨n1,n2,n3⟩:=List.nodup_append.1 hbn
 obtain⟨m1,m2,m3⟩:=List.nodup_append.1 hmn
 have c66:=vF hL hcs 3 0 0 0 0 .full [a] .full [c,d] fs js seen (by omega) (by simp) (by intro x hx; rw[List.mem_singleton]at hx; subst hx; exact k1)
 obtain⟨fb1,fm1,jb1,jm1,S1,c39,hL1,hX1⟩:=ihp (fs:=fs) (js:=js) hdp k2 hL ⟨n1,fun w hw=>hN.br w (by rw[hB]; simp[hw]),m1,fun w hw=>hN.mr w (by rw[hM]; simp[hw]),by omega,by omega,by omega⟩
 obtain⟨fb2,fm2,jb2,jm2,S2,c39',hL2,hX2⟩:=ihq (fs:=fs) (js:=js) hdq k3 hL1 ⟨n2,fun w hw=>by
  have h1:=hN.br w (by rw[hB]; simp[hw])
  refine⟨h1.1,h1.2.1,fun hm=>?_⟩
  rcases List.mem_append.1 hm with hm|hm
  ·exact h1.2.2 hm
  ·exact n3 w hm w hw rfl,m2,fun w hw hm=>by
  rcases List.mem_append.1 hm with hm|hm
  ·exact hN.mr w (by rw[hM]; simp[hw]) hm
  ·exact m3 w hm w hw rfl,by rw[List.length_append]; omega,by rw[List.length_append]; omega,by omega⟩
 rw[List.append_assoc,List.append_assoc]at hL2 hX2
 obtain⟨d0,d1,d2,d3,d4,u5,v5,u6,v6,hce⟩:=hdp.cells
 obtain⟨q0,q1,q2,q3,q4,w5,x5,w6,x6,hde⟩:=hdq.cells
 have hix:=ix7 (t:=.full) (l:=[c,d]) (i:=0) rfl (by rw[hce]; rfl)
 have hiy:=ix7 (t:=.full) (l:=[c,d]) (i:=1) rfl (by rw[hde]; rfl)
 rw[show ((0:Nat):Int)=0 from rfl,hce,hde]at hix
 rw[show ((1:Nat):Int)=1 from rfl,hce,hde]at hiy
 rw[hce,hde]at c66
 rw[hce]at c39
 rw[hde]at c39'
 refine⟨fb2,fm2,jb2,jm2,S2,aB K _ (fn:=t39) rfl rfl ?_,hL2,hX1.trans hX2⟩
 rw[hce,hde]
 simp (config := { maxSteps := 4000000 }) (disch:=omega) only[t39,go_sem,c66,hix,hiy,c39,c39']
theorem aOn {C:Cd}(hcs:C.cs.length≤1048576){ats:List (List IV)}:TmC C (.call ats):=by
 intro t S jx fb fm jb jm b m fs js seen hd hk hL hN
 obtain⟨tg,rfl⟩:=hd
 obtain⟨k1,k2,k3⟩:=hk
 have hsl:=hN.sl
 have c66:=vF hL hcs 4 0 0 0 0 tg ats .nil [] fs js seen (by omega) k3 k1
 rw[show bvs (.call ats)=[] from rfl,show mks (.call ats)=[] from rfl,List.append_nil,List.append_nil]
 refine⟨fb,fm,jb,jm,S,aB K _ (fn:=t39) rfl rfl ?_,hL,KX.refl ..⟩
 simp (config := { maxSteps := 4000000 }) (disch:=omega) only[t39,go_sem,c66]
theorem aOo {C:Cd}(hcs:C.cs.length≤1048576){ats:List (List IV)}:TmC C (.appl ats):=by
 intro t S jx fb fm jb jm b m fs js seen hd hk hL hN
 obtain⟨tg,rfl⟩:=hd
 obtain⟨k1,k2,k3⟩:=hk
 have hsl:=hN.sl
 have c66:=vF hL hcs 6 0 0 0 0 tg ats .nil [] fs js seen (by omega) k3 k1
 rw[show bvs (.appl ats)=[] from rfl,show mks (.appl ats)=[] from rfl,List.append_nil,List.append_nil]
 refine⟨fb,fm,jb,jm,S,aB K _ (fn:=t39) rfl rfl ?_,hL,KX.refl ..⟩
 simp (config := { maxSteps := 4000000 }) (disch:=omega) only[t39,go_sem,c66]
theorem aOp {C:Cd}(hcs:C.cs.length≤1048576):TmC C .halt:=by
 intro t S jx fb fm jb jm b m fs js seen hd hk hL hN
 obtain rfl:t=_:=hd
 have hsl:=hN.sl
 have c66:=vF hL hcs 7 0 0 0 0 .nil [] .nil [] fs js seen (by omega) (by decide) (by intro x hx; cases hx)
 rw[show bvs .halt=[] from rfl,show mks .halt=[] from rfl,List.append_nil,List.append_nil]
 refine⟨fb,fm,jb,jm,S,aB K _ (fn:=t39) rfl rfl ?_,hL,KX.refl ..⟩
 simp (config := { maxSteps := 4000000 }) (disch:=omega) only[t39,go_sem,c66]
theorem aCs {C:Cd}(hcs:C.cs.length≤1048576)(hF:C.F.length≤1000000):∀T,TmC C T
 | .prim _ _ _ _ k=>aOm hcs (aCs hcs hF k)
 | .fn _ _ _ _ b k=>aZ9 hcs hF (aCs hcs hF b) (aCs hcs hF k)
 | .ite _ p q=>aT9 hcs (aCs hcs hF p) (aCs hcs hF q)
 | .call _=>aOn hcs
 | .appl _=>aOo hcs
 | .halt=>aOp hcs
end Go.Proofs.YtageemgcnoblnaaDoor
