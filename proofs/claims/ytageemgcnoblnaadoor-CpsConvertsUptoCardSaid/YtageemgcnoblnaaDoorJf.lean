/- Some texts of the proof, joined. Condition: none. -/
import Derived.Test.YtageemgcnoblnaaDoorJe
import Derived.Test.YtageemgcnoblnaaDoorJd
import Derived.Test.YtageemgcnoblnaaDoorKr1
set_option maxRecDepth 100000
set_option maxHeartbeats 64000000
set_option linter.unusedSimpArgs false
set_option linter.unusedVariables false
namespace Go.Proofs.YtageemgcnoblnaaDoor
open Go Go.TM Go.ChangeShapes Go.WideShapes
theorem bMs (l:List IV):aFl Tryd.prog 28 l=.iv (.agg l):=aVb (by rw[Tryd.underlying28])
theorem bK9 {p:Pg}(hp:p.b.w<=1048576∧Dt.ws p.cs<=1048576)(ho:p.b.ok)(hvr:p.vr<=1099511627776)(hbl:(bvE p.b).length<=200000)(hcl:p.cs.length<=2000)(hck:qE p=0)(hst:gL p.b.w p.b=false){n:Nat}{x:List IV×Mk}{r:M_}(hx:dR n p.b (aV (p.vr+1)) (kC p)=some x)(m:Mdl p x r){ρ:Mk}{t:List IV}(hR:RM x.2 ρ)(hT:RT x.1 t)(tg tg':Tag)(S:aA):
  ∃S',(lim K).call 12 [.iv (.agg [.sl tg (x.2.fs.set 1 (kD (p.vr+1) x.1)),.int .i64 1,.int .i64 x.2.nv,.int .i64 p.gl,.sl p.gc (dW p.cs)]),.iv (.agg [.sl tg' (ρ.fs++[kD (p.vr+1) t]),.int .i64 ρ.fs.length,.int .i64 ρ.nv,.int .i64 p.gl,.sl p.gc (dW p.cs)])] S=.ret (e_,S'):=by
 obtain⟨T,mt⟩:=aRi hp.1 ho hck hst hx m
 obtain⟨hf,hsc,hv,hgl⟩:=aP5 hck
 have hln:=m.ln
 have hnv:=m.nv
 have hnh:=m.nh
 have hlen:=hR.len
 have hle:=(mono n).code hx
 have hF2:2<=x.2.fs.length:=hle.len
 have hFl:(x.2.fs.set 1 (kD (p.vr+1) x.1)).length=x.2.fs.length:=List.length_set
 have hdl:(dW p.cs).length=p.cs.length:=aK p.cs
 obtain⟨U,hU1,hU2,hU3⟩:=aEo _ _ mt.dec
 have hmn:=mt.mn
 have hm1:=mt.m1
 have hsz:=mt.sz
 rw[<-hU1,<-aEr]at hsz
 rw[<-hU3]at hmn hm1
 have hrg:=oP U _ hU2
 rw[hFl]at hrg
 have hok:=mt.ok
 have hbr:=mt.br
 rw[<-hU1]at hok hbr
 -- the tree of the main function
 unfold mS at hU1
 cases U with
 | prim=>rw[erC]at hU1;cases hU1
 | ite=>rw[erC]at hU1;cases hU1
 | call=>rw[erC]at hU1;cases hU1
 | appl=>rw[erC]at hU1;cases hU1
 | halt=>rw[erC]at hU1;cases hU1
 | fn v f ps rr cc body U0 =>
  rw[erC]at hU1
  injection hU1 with e1 e2 e3 e4 e5 e6
  subst e1 e3 e4
  have e5':body=.halt:=by cases body<;>rw[erC]at e5<;>first|rfl|cases e5
  subst e5'
  obtain⟨c,tp,bt,hc,h0,hF,hb,hk⟩:=hU2
  have hf0:f=0:=by omega
  subst hf0
  have hcx:c=x.1:=by
   unfold bX at hc
   simp only[List.cons.injEq,IV.sl.injEq,true_and,and_true]at hc
   exact hc.symm
  subst hcx
  rw[cQ]at hmn hm1 hrg hU3
  rw[show cQ Tc.halt=[] from rfl,List.nil_append]at hmn hm1 hrg
  obtain⟨n1,n2⟩:=List.nodup_cons.1 hmn
  have hge:∀i∈cQ U0,2<=i:=fun i hi=>by
   have h1:=hrg i (List.mem_cons_of_mem _ hi)
   have h2:i≠0:=fun h=>n1 (h▸hi)
   have h3:i≠1:=fun h=>hm1 (List.mem_cons_of_mem _ (h▸hi))
   omega
  have htb:=bDb hR.fs (kD (p.vr+1) x.1) (kD (p.vr+1) t)
  have hop:=xR htb U0 _ _ hk hT hge
  have hD':=xP htb U0 _ _ hk hT hge
  obtain⟨e,z,r1,r2,ha,hb'⟩:=hR.fs.zero
  have hF0:(ρ.fs++[kD (p.vr+1) t])[0]? = some (fnF tp [p.vr] false cc bt):=by
   rw[hb']
   rw[ha]at hF
   exact hF
  have hG:oO (.fn (p.vr+1) 0 [p.vr] false cc .halt U0):=tJ (nc:=p.cs.length) (gl:=p.gl) (by omega) _ [] hok (fun v hv=>by cases hv) (fun v hv=>by have:=hbr v hv;unfold eN;omega) ⟨trivial,hop⟩
  have hG':oO (.fn (p.vr+1) 0 [p.vr] false cc .halt (shT U0)):=⟨hG.1,hG.2.1,tK _ hG.2.2⟩
  have hmx:mtx (.fn (p.vr+1) 0 [p.vr] false cc .halt U0)=mtx (.fn (p.vr+1) 0 [p.vr] false cc .halt (shT U0)):=by
   unfold mtx
   simp only[txtT,xN]
  have hl2:(x.2.fs.set 1 (kD (p.vr+1) x.1)).length=(ρ.fs++[kD (p.vr+1) t]).length:=by
   rw[hFl,List.length_append,List.length_singleton];omega
  rw[<-hR.nv]
  refine bH9 (b:=bX (p.vr+1) 0 (.sl .full [x.1])) (b':=bX (p.vr+1) 0 (.sl .full [t])) (U:=.fn (p.vr+1) 0 [p.vr] false cc .halt U0) (V:=.fn (p.vr+1) 0 [p.vr] false cc .halt (shT U0)) hl2 (by omega) rfl (by omega) (by omega) (by rw[<-hl2];omega) ?_ ?_ ⟨x.1,tp,bt,rfl,by omega,hF,hb,hk⟩ ⟨t,tp,bt,rfl,by omega,hF0,hb,hD'⟩ hG hG' ?_ ?_ ?_ ?_ ?_ ?_ hmx
  ·rw[show(1:Int).toNat=1 from rfl,List.getElem?_set_self (by omega)];rfl
  ·rw[Int.toNat_natCast,List.getElem?_append_right (Nat.le_refl _),Nat.sub_self];rfl
  ·intro j hj
   rw[cQ,show cQ Tc.halt=[] from rfl,List.nil_append]at hj
   rintro rfl
   exact hm1 hj
  ·intro j hj
   rw[cQ,show cQ Tc.halt=[] from rfl,List.nil_append,uY]at hj
   rcases List.mem_cons.1 hj with rfl|hj
   ·omega
   ·obtain⟨i,hi,rfl⟩:=List.mem_map.1 hj
    have:=hrg i (List.mem_cons_of_mem _ hi)
    omega
  ·rw[cQ,show cQ Tc.halt=[] from rfl,List.nil_append];exact hmn
  ·rw[cQ,show cQ Tc.halt=[] from rfl,List.nil_append,uY]
   refine List.nodup_cons.2 ⟨fun hj=>?_,?_⟩
   ·obtain⟨i,hi,h⟩:=List.mem_map.1 hj
    have:=hge i hi
    omega
   ·exact List.pairwise_map.2 (List.Pairwise.imp (fun h e=>h (by omega)) n2)
  ·omega
  ·rw[szC,aEs]
   rw[szC]at hsz
   omega
theorem law3 (p:Pg)(hp:p.w<=1048576)(ho:p.ok):∃S',(lim K).call 3 [.iv (.agg (dY p))] []=.ret (e_,S'):=by
 have hpw:p.b.w<=1048576∧Dt.ws p.cs<=1048576:=by unfold Pg.w at hp;omega
 obtain⟨b,c7,hfew⟩:=bIp p hpw []
 have c8:=bLa
 cases b with
 | false =>
  refine⟨[],aB K _ (fn:=t3) rfl rfl ?_⟩
  unfold dY at *
  simp (disch:=omega) only[t3,go_sem,c7,aF c8]
 | true =>
  obtain⟨hsz,hcl,hvr,hbl⟩:=hfew rfl
  have c11:=aGe p hpw
  by_cases hck:qE p=0
  ·obtain⟨hf,hsc,hv,hgl⟩:=aP5 hck
   rw[hck]at c11
   cases hst:gL p.b.w p.b with
   | true =>
    have c9:=aW3 hpw hck hst
    have c10:=aRr hp hck hst
    unfold noC at c9 c10
    refine⟨[],aB K _ (fn:=t3) rfl rfl ?_⟩
    unfold dY at *
    simp (disch:=omega) only[t3,go_sem,c7,aF c8,aF c9,aF c10]
   | false =>
    obtain⟨n,x,r,hx,m⟩:=mdl hpw.1 ho.1 hck hsz
    obtain⟨tg,c9⟩:=bDa hpw ho.1 (by omega) hck hst hx m.bd
    rw[show [IV.sl .nil [],.bool false,.bool false,.sl .nil []]++bX (p.vr+1) 0 (.sl .full [x.1])=kD (p.vr+1) x.1 from rfl]at c9
    obtain⟨ρ,t,c10,hR,hT⟩:=aXq hp ho.1 (by omega) hck hst hx m.bd
    have c12:=bK9 hpw ho.1 hvr hbl hcl hck hst hx m hR hT tg .no
    obtain⟨S',c12⟩:=c12 []
    refine⟨S',aB K _ (fn:=t3) rfl rfl ?_⟩
    generalize x.2.fs.set 1 (kD (p.vr+1) x.1)=F at *
    generalize ρ.fs++[kD (p.vr+1) t]=F' at *
    unfold dY at *
    simp (disch:=omega) only[t3,go_sem,c7,aF c8,aF c9,aF c10,aF c11,c12]
  ·have c9:=bC9 hpw hck
   have c10:=aXp hp hck
   unfold noC at c9 c10
   refine⟨[],aB K _ (fn:=t3) rfl rfl ?_⟩
   unfold dY at *
   simp (disch:=omega) only[t3,go_sem,c7,aF c8,aF c9,aF c10,hck]
theorem inv3 {H:Type}{ds:List (DataW H)}{ls:M_}(hh0:oW Tryd.prog [28] ds ls)(hb:Rows.uptoBulkAll ds<=1048576):((lim K).call 3 (aH7 Tryd.prog [28] ls) []).All fun r=>r.1=e_:=by
 obtain⟨d0,l0,ds,ls,rfl,rfl,h0,hh1⟩:=dA hh0
 obtain rfl:=oB hh1
 rw[tZ hh1]
 simp only[Rows.uptoBulkAll]at hb
 obtain⟨p,rfl,b0,r0⟩:=bKj h0
 simp only[aH7,bMs]
 have hpw:p.w<=1048576:=by omega
 obtain⟨S',h⟩:=law3 p hpw r0
 rw[h]
 exact rfl
end Go.Proofs.YtageemgcnoblnaaDoor
