/- Some texts of the proof, joined. Condition: none. -/
import Derived.Test.YtehlgnfhkidgoaaGreatDoorJi
import Derived.Test.YtehlgnfhkidgoaaGreatDoorJc
import Derived.Test.YtehlgnfhkidgoaaGreatDoorTmE
set_option linter.unusedSectionVars false
set_option maxRecDepth 100000
set_option maxHeartbeats 64000000
set_option linter.unusedSimpArgs false
set_option linter.unusedVariables false
namespace Go.Proofs.YtehlgnfhkidgoaaGreatDoor
open Go Go.TM
theorem bEp{S:aA}{jm:Nat}(h:jm<S.length)(lo:Bool)(C:List Bool):(mS S jm lo C)[jm]?=some (.cells 0 lo (C.map bX)):=aM h _
theorem bSe(S:aA)(jm:Nat)(lo:Bool)(C C':List Bool):(mS S jm lo C).set jm (.cells 0 lo (C'.map bX))=mS S jm lo C':=by unfold mS;rw[G9]
theorem bSf{fn rg sl nd pr:Int}{rs:Bool}{t:Tag}{R:List VI}(hR:R.length<=1000){s:Int}{S:aA}{jm:Nat}(h1:jm<S.length){lo:Bool}:∀(U:Nat) (C:List Bool) (c:Nat) (x5 x6 x7 x8 x9 x10 x11 x12 x13 x14:TV), C.length=R.length->unm C<=U->c<=R.length->∃(Q:aW) (b:Bool) (C':List Bool) (Z y6 T y8 y9 E A r u D:TV), lp' (lim K) t11L1 [.iv (.agg (gG fn rg sl nd pr rs t R)), j_ s, j_ c, .msl jm 0 0 R.length R.length 1, .lb [j_ fn, j_ rg, j_ sl, j_ nd, j_ pr, .iv (.bool rs), .iv (.sl t (R.map aJ))], z_, x6, x7, x8, x9, x10, x11, x12, x13, x14] (mS S jm lo C) = .ret (Q,[.iv (.agg (gG fn rg sl nd pr rs t R)),j_ s,Z,.msl jm 0 0 R.length R.length 1,.lb [j_ fn,j_ rg,j_ sl,j_ nd,j_ pr,.iv (.bool rs),.iv (.sl t (R.map aJ))],.iv (.bool b),y6,T,y8,y9,E,A,r,u,D],mS S jm lo C')/\C'.length=R.length/\unm C'<=unm C/\(Q=.exit 0/\b=false\/Q=.ret/\(b=true->RdX R s c)):=fun U=>by
  induction U with
  |zero =>
    intro C c x5 x6 x7 x8 x9 x10 x11 x12 x13 x14 hC hU h5;have I:(R.map aJ).length=R.length:=L_ _;by_cases hla:c<R.length
    . have e:(c:Int)<(R.length:Int):=A_;have h0:C.getD c false=true:=by
        cases hc:C.getD c false with
        |true=>rfl
        |false=>have:=aJ4 C c A_ hc;omega
      have J:=iO (j:=jm) (v:=0) (cap:=R.length) hla;have L:=bEp h1 lo C;have F:=bPz (C:=C) (i:=c) A_;rw[h0]at F;refine⟨.exit 0,false,C,j_ c,x6,x7,z_,x9,x10,x11,x12,x13,x14,aE K _ _ t11L1.eq_1 ?_,hC,O_ _,.inl ⟨rfl,rfl⟩⟩;simp(disch:=omega)only[go_sem,I,e,J,L,F]
    . have e:¬(c:Int)<(R.length:Int):=A_;refine⟨.exit 0,false,C,j_ c,x6,x7,z_,x9,x10,x11,x12,x13,x14,aE K _ _ t11L1.eq_1 ?_,hC,O_ _,.inl ⟨rfl,rfl⟩⟩;simp(disch:=omega)only[go_sem,I,e]
  |succ U ihl =>
    intro C c x5 x6 x7 x8 x9 x10 x11 x12 x13 x14 hC hU h5;have h7:=aHc hR h1 ihl;have I:(R.map aJ).length=R.length:=L_ _;by_cases hla:c<R.length
    . have e:(c:Int)<(R.length:Int):=A_;have J:=iO (j:=jm) (v:=0) (cap:=R.length) hla;have L:=bEp h1 lo C;have F:=bPz (C:=C) (i:=c) A_;cases h0:C.getD c false with
      |true =>rw[h0]at F;refine⟨.exit 0,false,C,j_ c,x6,x7,z_,x9,x10,x11,x12,x13,x14,aE K _ _ t11L1.eq_1 ?_,hC,O_ _,.inl ⟨rfl,rfl⟩⟩;simp(disch:=omega)only[go_sem,I,e,J,L,F]
      |false =>
        rw[h0]at F;have P:=bU1 (C:=C) (i:=c) true A_;have q:c+1<=(C.map bX).length:=by rw[L_];omega
        have h8:=aJ4 C c A_ h0;have H:(C.set c true).length=R.length:=by rw[F6];exact hC
        have N:=bSe S jm lo C (C.set c true);have p:=gC (w:=8) (f:=aJ) eZ (t:=t) (l:=R) (i:=(c:Int)) A_;rw[Int.toNat_natCast,cV]at p;have ld:=@RdX.load R s c;have fa:=@RdX.fall R s c;have ju:=fun j=>@RdX.jump R s c j;have la:=fun x0 x2 x8 x9 x10 x11 x14=>aCj hR h1 h7 (R.getD c default).op (R.getD c default).d (R.getD c default).a (R.getD c default).b (R.getD c default).im (R.getD c default).lb x0 x2 u_ x8 x9 x10 x11 x14 (.iv (.sl (R.getD c default).tu (TM.one (.int .i64) (R.getD c default).us))) (.iv (.sl (R.getD c default).tm (TM.one (.int .i64) (R.getD c default).mp))) R.length 0 (C.set c true);rw[n0_]at la;generalize C.set c true=C1 at *
        generalize R.getD c default=y at *
        rcases(by omega:y.op=73\/y.op=74\/y.op=68\/y.op=72\/y.op=66\/(26<=y.op/\y.op<=31)\/(y.op<26)\/(31<y.op/\y.op≠73/\y.op≠74/\y.op≠68/\y.op≠72/\y.op≠66))with ho|ho|ho|ho|ho|ho|ho|ho
        . by_cases hi:y.im=s;. have o:(y.op==73)=true:=F5.2 A_;have g:(y.op==74)=false:=S_.2 A_;have n:(y.op==68)=false:=S_.2 A_;have k:(y.op==72)=false:=S_.2 A_;have m:(y.op==66)=false:=S_.2 A_;have V:(y.im==s)=true:=F5.2 hi;refine⟨.ret,true,C1,j_ c,.lb ((aJ y).map .iv),x7,e_,e_,x10,x11,x12,x13,x14,aE K _ _ t11L1.eq_1 ?_,H,by omega,.inr ⟨rfl,fun _=>ld A_ hi⟩⟩;simp(disch:=omega)only[go_sem,I,e,J,L,F,P,q,N,p,aS,o,g,n,k,m,V]
          . have o:(y.op==73)=true:=F5.2 A_;have g:(y.op==74)=false:=S_.2 A_;have n:(y.op==68)=false:=S_.2 A_;have k:(y.op==72)=false:=S_.2 A_;have m:(y.op==66)=false:=S_.2 A_;have V:(y.im==s)=false:=S_.2 hi;have z:y.op≥26:=A_;have G:¬y.op<=31:=A_;obtain⟨Q,b,C',Z,y6,T,y8,y9,E,A,r,u,D,W,Y,k2,x⟩:=ihl C1 (c+1) z_ (.lb ((aJ y).map .iv)) x7 e_ z_ z_ z_ x12 x13 x14 H A_ A_;rw[show((c+1:Nat):Int)=(c:Int)+1 by omega]at W;refine⟨Q,b,C',Z,y6,T,y8,y9,E,A,r,u,D,aE K _ _ t11L1.eq_1 ?_,Y,by omega,?_⟩;. simp(disch:=omega)only[go_sem,I,e,J,L,F,P,q,N,p,aS,o,g,n,k,m,V,z,G,aC];exact X_ er W
            . rcases x with x|⟨x,k4⟩;. exact .inl x
              . exact .inr ⟨x,fun h=>fa (by unfold sV;omega) A_ (k4 h)⟩
        . by_cases hi:y.im=s;. have o:(y.op==73)=false:=S_.2 A_;have g:(y.op==74)=true:=F5.2 A_;have n:(y.op==68)=false:=S_.2 A_;have k:(y.op==72)=false:=S_.2 A_;have m:(y.op==66)=false:=S_.2 A_;have V:(y.im==s)=true:=F5.2 hi;refine⟨.ret,false,C1,j_ c,.lb ((aJ y).map .iv),x7,e_,z_,e_,x11,x12,x13,x14,aE K _ _ t11L1.eq_1 ?_,H,by omega,.inr ⟨rfl,fun h=>by cases h⟩⟩;simp(disch:=omega)only[go_sem,I,e,J,L,F,P,q,N,p,aS,o,g,n,k,m,V]
          . have o:(y.op==73)=false:=S_.2 A_;have g:(y.op==74)=true:=F5.2 A_;have n:(y.op==68)=false:=S_.2 A_;have k:(y.op==72)=false:=S_.2 A_;have m:(y.op==66)=false:=S_.2 A_;have V:(y.im==s)=false:=S_.2 hi;have z:y.op≥26:=A_;have G:¬y.op<=31:=A_;obtain⟨Q,b,C',Z,y6,T,y8,y9,E,A,r,u,D,W,Y,k2,x⟩:=ihl C1 (c+1) z_ (.lb ((aJ y).map .iv)) x7 e_ z_ z_ z_ x12 x13 x14 H A_ A_;rw[show((c+1:Nat):Int)=(c:Int)+1 by omega]at W;refine⟨Q,b,C',Z,y6,T,y8,y9,E,A,r,u,D,aE K _ _ t11L1.eq_1 ?_,Y,by omega,?_⟩;. simp(disch:=omega)only[go_sem,I,e,J,L,F,P,q,N,p,aS,o,g,n,k,m,V,z,G,aC];exact X_ er W
            . rcases x with x|⟨x,k4⟩;. exact .inl x
              . exact .inr ⟨x,fun h=>fa (by unfold sV;omega) A_ (k4 h)⟩
        . have o:(y.op==73)=false:=S_.2 A_;have g:(y.op==74)=false:=S_.2 A_;have n:(y.op==68)=true:=F5.2 A_;have k:(y.op==72)=false:=S_.2 A_;have m:(y.op==66)=false:=S_.2 A_;refine⟨.ret,false,C1,j_ c,.lb ((aJ y).map .iv),x7,e_,z_,e_,x11,x12,x13,x14,aE K _ _ t11L1.eq_1 ?_,H,by omega,.inr ⟨rfl,fun h=>by cases h⟩⟩;simp(disch:=omega)only[go_sem,I,e,J,L,F,P,q,N,p,aS,o,g,n,k,m]
        . have o:(y.op==73)=false:=S_.2 A_;have g:(y.op==74)=false:=S_.2 A_;have n:(y.op==68)=false:=S_.2 A_;have k:(y.op==72)=true:=F5.2 A_;have m:(y.op==66)=false:=S_.2 A_;refine⟨.ret,false,C1,j_ c,.lb ((aJ y).map .iv),x7,e_,z_,e_,x11,x12,x13,x14,aE K _ _ t11L1.eq_1 ?_,H,by omega,.inr ⟨rfl,fun h=>by cases h⟩⟩;simp(disch:=omega)only[go_sem,I,e,J,L,F,P,q,N,p,aS,o,g,n,k,m]
        . have o:(y.op==73)=false:=S_.2 A_;have g:(y.op==74)=false:=S_.2 A_;have n:(y.op==68)=false:=S_.2 A_;have k:(y.op==72)=false:=S_.2 A_;have m:(y.op==66)=true:=F5.2 A_;obtain⟨Q,bb,C',T,r,u,l1,Y,k2,x⟩:=la (.iv (.agg (gG fn rg sl nd pr rs t R))) (j_ c) e_ z_ z_ e_ x14 x12 x13 A_ H A_;rcases x with⟨rfl,rfl⟩|⟨rfl,rfl,j,q1,q2,q3,q4⟩;. refine⟨.ret,false,C',j_ c,.lb ((aJ y).map .iv),T,e_,z_,z_,e_,r,u,e_,aE K _ _ t11L1.eq_1 ?_,Y,by omega,.inr ⟨rfl,fun h=>by cases h⟩⟩;simp(disch:=omega)only[go_sem,I,e,J,L,F,P,q,N,p,aS,o,g,n,k,m];rw[l1];simp(disch:=omega)only[go_sem,I,e,J,L,F,P,q,N,p,aS,o,g,n,k,m]
          . refine⟨.ret,true,C',j_ c,.lb ((aJ y).map .iv),T,e_,z_,z_,e_,r,u,x14,aE K _ _ t11L1.eq_1 ?_,Y,by omega,.inr ⟨rfl,fun _=>ju j (by unfold sV;omega) A_ q1 q2 q3 q4⟩⟩;simp(disch:=omega)only[go_sem,I,e,J,L,F,P,q,N,p,aS,o,g,n,k,m];rw[l1];simp(disch:=omega)only[go_sem,I,e,J,L,F,P,q,N,p,aS,o,g,n,k,m]
        . have o:(y.op==73)=false:=S_.2 A_;have g:(y.op==74)=false:=S_.2 A_;have n:(y.op==68)=false:=S_.2 A_;have k:(y.op==72)=false:=S_.2 A_;have m:(y.op==66)=false:=S_.2 A_;have z:y.op≥26:=A_;have G:y.op<=31:=A_;obtain⟨Q,bb,C',T,r,u,l1,Y,k2,x⟩:=la (.iv (.agg (gG fn rg sl nd pr rs t R))) (j_ c) e_ z_ z_ e_ x14 x12 x13 A_ H A_;rcases x with⟨rfl,rfl⟩|⟨rfl,rfl,j,q1,q2,q3,q4⟩
          . obtain⟨Q,b,C2,Z,y6,h6,y8,y9,E,A,h2,h4,D,W,k4,k5,k6⟩:=ihl C' (c+1) z_ (.lb ((aJ y).map .iv)) T e_ z_ z_ e_ r u z_ Y A_ A_;rw[show((c+1:Nat):Int)=(c:Int)+1 by omega]at W;refine⟨Q,b,C2,Z,y6,h6,y8,y9,E,A,h2,h4,D,aE K _ _ t11L1.eq_1 ?_,k4,by omega,?_⟩;. simp(disch:=omega)only[go_sem,I,e,J,L,F,P,q,N,p,aS,o,g,n,k,m,z,G];rw[l1];simp(disch:=omega)only[go_sem,I,e,J,L,F,P,q,N,p,aS,o,g,n,k,m,z,G,aC];exact X_ er W
            . rcases k6 with k6|⟨k6,k7⟩;. exact .inl k6
              . exact .inr ⟨k6,fun h=>fa (by unfold sV;omega) A_ (k7 h)⟩
          . refine⟨.ret,true,C',j_ c,.lb ((aJ y).map .iv),T,e_,z_,z_,e_,r,u,x14,aE K _ _ t11L1.eq_1 ?_,Y,by omega,.inr ⟨rfl,fun _=>ju j (by unfold sV;omega) A_ q1 q2 q3 q4⟩⟩;simp(disch:=omega)only[go_sem,I,e,J,L,F,P,q,N,p,aS,o,g,n,k,m,z,G];rw[l1];simp(disch:=omega)only[go_sem,I,e,J,L,F,P,q,N,p,aS,o,g,n,k,m,z,G]
        . have o:(y.op==73)=false:=S_.2 A_;have g:(y.op==74)=false:=S_.2 A_;have n:(y.op==68)=false:=S_.2 A_;have k:(y.op==72)=false:=S_.2 A_;have m:(y.op==66)=false:=S_.2 A_;have z:¬y.op≥26:=A_;obtain⟨Q,b,C',Z,y6,T,y8,y9,E,A,r,u,D,W,Y,k2,x⟩:=ihl C1 (c+1) z_ (.lb ((aJ y).map .iv)) x7 e_ z_ z_ z_ x12 x13 x14 H A_ A_;rw[show((c+1:Nat):Int)=(c:Int)+1 by omega]at W;refine⟨Q,b,C',Z,y6,T,y8,y9,E,A,r,u,D,aE K _ _ t11L1.eq_1 ?_,Y,by omega,?_⟩;. simp(disch:=omega)only[go_sem,I,e,J,L,F,P,q,N,p,aS,o,g,n,k,m,z,aC];exact X_ er W
          . rcases x with x|⟨x,k4⟩;. exact .inl x
            . exact .inr ⟨x,fun h=>fa (by unfold sV;omega) A_ (k4 h)⟩
        . have o:(y.op==73)=false:=S_.2 A_;have g:(y.op==74)=false:=S_.2 A_;have n:(y.op==68)=false:=S_.2 A_;have k:(y.op==72)=false:=S_.2 A_;have m:(y.op==66)=false:=S_.2 A_;have z:y.op≥26:=A_;have G:¬y.op<=31:=A_;obtain⟨Q,b,C',Z,y6,T,y8,y9,E,A,r,u,D,W,Y,k2,x⟩:=ihl C1 (c+1) z_ (.lb ((aJ y).map .iv)) x7 e_ z_ z_ z_ x12 x13 x14 H A_ A_;rw[show((c+1:Nat):Int)=(c:Int)+1 by omega]at W;refine⟨Q,b,C',Z,y6,T,y8,y9,E,A,r,u,D,aE K _ _ t11L1.eq_1 ?_,Y,by omega,?_⟩;. simp(disch:=omega)only[go_sem,I,e,J,L,F,P,q,N,p,aS,o,g,n,k,m,z,G,aC];exact X_ er W
          . rcases x with x|⟨x,k4⟩;. exact .inl x
            . exact .inr ⟨x,fun h=>fa (by unfold sV;omega) A_ (k4 h)⟩
    . have e:¬(c:Int)<(R.length:Int):=A_;refine⟨.exit 0,false,C,j_ c,x6,x7,z_,x9,x10,x11,x12,x13,x14,aE K _ _ t11L1.eq_1 ?_,hC,O_ _,.inl ⟨rfl,rfl⟩⟩;simp(disch:=omega)only[go_sem,I,e]
theorem bSg{fn rg sl nd pr:Int}{rs:Bool}{t:Tag}{R:List VI}(b:R.length<=1000){s:Int}{S:aA}{jm:Nat}(a:jm<S.length){lo:Bool}(U:Nat):aQw fn rg sl nd pr rs t R s S jm lo U:=aHc b a (bSf b a U)
theorem bSh(C:List Bool):unm C<=C.length:=D8 _ _
theorem bWf(n:Nat):cF n (fun _=>z_)=(List.replicate n false).map bX:=by unfold cF bX;rw[List.map_replicate];exact List.eq_replicate_iff.2 ⟨by simp,fun b a=>by obtain⟨_,_,rfl⟩:=A0.1 a;rfl⟩
section
variable {fn nd pr:Int}{rs:Bool}{t:Tag}{R:List VI}(hR:R.length<=1000){ns:Nat}(hns:ns<=100000)
include hR hns
theorem bEq{i:Nat}(v:i<R.length)(p:(R.getD i default).mp.length<=100000)(q:Int)(x0 o x2 x4 x9 x10 x11 x12 x13 x15:TV)(S:aA):∀(m k:Nat) (fd:Bool) (x14:TV),k+m=(R.getD i default).mp.length->fd=decide (q∈(R.getD i default).mp.take k) ->lp' (lim K) t4L0 [x0,o,x2,.lb [j_ fn,j_ 32,j_ ns,j_ nd,j_ pr,.iv (.bool rs),.iv (.sl t (R.map aJ))],x4,j_ i,j_ q,.iv (.bool fd),j_ k,x9,x10,x11,x12,x13,x14,x15] S = .ret (.exit 4,[x0,o,x2,.lb [j_ fn,j_ 32,j_ ns,j_ nd,j_ pr,.iv (.bool rs),.iv (.sl t (R.map aJ))],x4,j_ i,j_ q,.iv (.bool (decide (q∈(R.getD i default).mp))),.iv (.int .i64 (R.getD i default).mp.length),x9,x10,x11,x12,x13,z_,x15],S)
 |0,k,fd,x14,h,hf=>by
  obtain rfl:k=(R.getD i default).mp.length:=A_;rw[B9]at hf;subst hf;have a:=gC (w:=8) (f:=aJ) eZ (t:=t) (l:=R) (i:=(i:Int)) A_;rw[Int.toNat_natCast,cV]at a;refine aE K _ _ t4L0.eq_1 ?_;have d:(TM.one (IV.int .i64) (R.getD i default).mp).length=(R.getD i default).mp.length:=TM.kB ..;generalize R.getD i default=y at *
  simp(disch:=omega)only[go_sem,a,ao7,d]
 |m+1,k,fd,x14,h,hf=>by
  have u:k<(R.getD i default).mp.length:=A_;have a:=gC (w:=8) (f:=aJ) eZ (t:=t) (l:=R) (i:=(i:Int)) A_;rw[Int.toNat_natCast,cV]at a;have g:=pI (f:=IV.int .i64) (t:=(R.getD i default).tm) (l:=(R.getD i default).mp) (i:=(k:Int)) A_;rw[Int.toNat_natCast]at g;have x:(R.getD i default).mp.getD k default=(R.getD i default).mp.getD k 0:=rfl;rw[x]at g;have ts:=aHa u;have d:(TM.one (IV.int .i64) (R.getD i default).mp).length=(R.getD i default).mp.length:=TM.kB ..;have e:=fun j r=>bEq v p q x0 o x2 x4 x9 x10 x11 x12 x13 x15 S m (k+1) j e_ A_ r;rw[show((k+1:Nat):Int)=(k:Int)+1 by omega]at e;rw[ts]at e;generalize R.getD i default=y at *
  generalize y.mp.getD k 0=w at *
  refine aE K _ _ t4L0.eq_1 ?_;cases fd with
  |true =>have b:=e true (by have:=M9 hf.symm;rw[V_ (G4 _ this)]);simp(disch:=omega)only[go_sem,a,ao7,d,aC];exact X_ er b
  |false =>
   have s:q∉y.mp.take k:=fun c=>by rw[V_ c]at hf;cases hf
   by_cases hw:w=q;.have n:(w==q)=true:=F5.2 hw;have b:=e true (by rw[V_ (G0 _ (by rw[hw];simp))]);simp(disch:=omega)only[go_sem,a,ao7,d,g,n,aC];exact X_ er b
   .have n:(w==q)=false:=S_.2 hw;have b:=e false (by
     refine(l_ fun c=>?_).symm;rcases a_.1 c with c|c;.exact s c
     .rw[U_]at c;exact hw c.symm)
    simp(disch:=omega)only[go_sem,a,ao7,d,g,n,aC];exact X_ er b
theorem aQx{i:Nat}(u:i<R.length)(f:(R.getD i default).mp.length<=100000)(g:∀q:Nat,q<ns->(q:Int)∉(R.getD i default).mp->¬RdX R q (i+1))(x0 j x2 x4 x9 x10 x11 x12:TV):∀(m q:Nat) (S:aA) (x7 x8 x13 x14 x15:TV),q+m=ns ->∃S' k l c d a,lp' (lim K) t4L1 [x0,j,x2,.lb [j_ fn,j_ 32,j_ ns,j_ nd,j_ pr,.iv (.bool rs),.iv (.sl t (R.map aJ))],x4,j_ i,j_ q,x7,x8,x9,x10,x11,x12,x13,x14,x15] S = .ret (.exit 2,[x0,j,x2,.lb [j_ fn,j_ 32,j_ ns,j_ nd,j_ pr,.iv (.bool rs),.iv (.sl t (R.map aJ))],x4,j_ i,j_ ns,k,l,x9,x10,x11,x12,c,d,a],S')
 |0,q,S,x7,x8,x13,x14,x15,h=>by obtain rfl:q=ns:=A_;refine⟨S,x7,x8,z_,x14,x15,aE K _ _ t4L1.eq_1 ?_⟩;simp(disch:=omega)only[go_sem]
 |m+1,q,S,x7,x8,x13,x14,x15,h=>by
  have r:(q:Int)<(ns:Int):=A_;have o:=fun x9 x10 x11 x12 x13 x14 x15 S=>bEq (fn:=fn) (nd:=nd) (pr:=pr) (rs:=rs) (t:=t) hR hns u f (q:Int) x0 j x2 x4 x9 x10 x11 x12 x13 x15 S (R.getD i default).mp.length 0 false x14 A_ B_;rw[n0_]at o;have y:(R.map aJ).length=R.length:=L_ _;by_cases hf:(q:Int)∈(R.getD i default).mp;.rw[V_ hf]at o;obtain⟨S',k,l,c,d,a,p⟩:=aQx u f g x0 j x2 x4 x9 x10 x11 x12 m (q+1) S e_ (.iv (.int .i64 (R.getD i default).mp.length)) e_ z_ z_ A_;rw[show((q+1:Nat):Int)=(q:Int)+1 by omega]at p;refine⟨S',k,l,c,d,a,aE K _ _ t4L1.eq_1 ?_⟩;simp(disch:=omega)only[go_sem,r];rw[o];simp(disch:=omega)only[go_sem,r,aC];exact X_ er p
  .rw[l_ hf]at o;have v:=fun m=>aU1 (z:=.bool false) (m:=m) (bR (n:=R.length) (b:=1) A_);rw[bWf]at v;have x:=bSg (fn:=fn) (rg:=32) (sl:=ns) (nd:=nd) (pr:=pr) (rs:=rs) (t:=t) hR (s:=(q:Int)) (S:=S++[.cells 0 false ((List.replicate R.length false).map bX)]) (jm:=S.length) B_ (lo:=false) R.length;obtain⟨b,C',e,_,_,w⟩:=x (List.replicate R.length false) (i+1) B_ (by have:=bSh (List.replicate R.length false);rw[F9]at this;exact this) A_;have A:mS (S++[.cells 0 false ((List.replicate R.length false).map bX)]) S.length false (List.replicate R.length false)=S++[.cells 0 false ((List.replicate R.length false).map bX)]:=by unfold mS;simp
   rw[A]at e;obtain rfl:b=false:=by
    cases b with
    |false=>rfl
    |true=>exact absurd (w rfl) (g q A_ hf)
   rw[show((i+1:Nat):Int)=(i:Int)+1 by omega]at e;unfold gG at e;generalize mS (S++[.cells 0 false ((List.replicate R.length false).map bX)]) S.length false C'=S1 at *
   generalize (List.replicate R.length false).map bX=B at *
   obtain⟨S',k,l,c,d,a,p⟩:=aQx u f g x0 j x2 x4 x9 x10 x11 x12 m (q+1) S1 z_ (.iv (.int .i64 (R.getD i default).mp.length)) e_ z_ z_ A_;rw[show((q+1:Nat):Int)=(q:Int)+1 by omega]at p;refine⟨S',k,l,c,d,a,aE K _ _ t4L1.eq_1 ?_⟩;simp(disch:=omega)only[go_sem,r];rw[o];simp(disch:=omega)only[go_sem,r,y,v,e,aC];exact X_ er p
theorem aQy(j:∀x∈R,x.mp.length<=100000)(k:∀i,i<R.length->(R.getD i default).op=67->∀q:Nat,q<ns->(q:Int)∉(R.getD i default).mp->¬RdX R q (i+1))(x0 o x2 x4 x9 x10:TV):∀(m i:Nat) (S:aA) (x6 x7 x8 x11 x12 x13 x14 x15:TV),i+m=R.length ->∃S' n p s b c d e a,lp' (lim K) t4L2 [x0,o,x2,.lb [j_ fn,j_ 32,j_ ns,j_ nd,j_ pr,.iv (.bool rs),.iv (.sl t (R.map aJ))],x4,j_ i,x6,x7,x8,x9,x10,x11,x12,x13,x14,x15] S = .ret (.exit 0,[x0,o,x2,.lb [j_ fn,j_ 32,j_ ns,j_ nd,j_ pr,.iv (.bool rs),.iv (.sl t (R.map aJ))],x4,j_ R.length,n,p,s,x9,x10,b,c,d,e,a],S')
 |0,i,S,x6,x7,x8,x11,x12,x13,x14,x15,h=>by obtain rfl:i=R.length:=A_;have v:(R.map aJ).length=R.length:=L_ _;refine⟨S,x6,x7,x8,z_,x12,x13,x14,x15,aE K _ _ t4L2.eq_1 ?_⟩;simp(disch:=omega)only[go_sem,v]
 |m+1,i,S,x6,x7,x8,x11,x12,x13,x14,x15,h=>by
  have A:i<R.length:=A_;have r:(i:Int)<(R.length:Int):=A_;have v:(R.map aJ).length=R.length:=L_ _;have g:=gC (w:=8) (f:=aJ) eZ (t:=t) (l:=R) (i:=(i:Int)) A_;rw[Int.toNat_natCast,cV]at g;by_cases hop:(R.getD i default).op=67
  .have F:((R.getD i default).op==67)=true:=F5.2 hop;obtain⟨S1,H,G,D,C,z,E⟩:=aQx (fn:=fn) (nd:=nd) (pr:=pr) (rs:=rs) (t:=t) hR hns A (j _ (bQ A)) (k i A hop) x0 o x2 x4 x9 x10 e_ z_ ns 0 S x7 x8 x13 x14 x15 A_;rw[n0_]at E;obtain⟨S',n,p,s,b,c,d,e,a,u⟩:=aQy j k x0 o x2 x4 x9 x10 m (i+1) S1 (j_ ns) H G e_ z_ D C z A_;rw[show((i+1:Nat):Int)=(i:Int)+1 by omega]at u;refine⟨S',n,p,s,b,c,d,e,a,aE K _ _ t4L2.eq_1 ?_⟩;generalize R.getD i default=y at *
   simp(disch:=omega)only[go_sem,v,r,g,ao0,hop];rw[E];simp(disch:=omega)only[go_sem,aC];exact X_ er u
  .obtain⟨S',n,p,s,b,c,d,e,a,u⟩:=aQy j k x0 o x2 x4 x9 x10 m (i+1) S x6 x7 x8 e_ e_ x13 x14 x15 A_;rw[show((i+1:Nat):Int)=(i:Int)+1 by omega]at u;refine⟨S',n,p,s,b,c,d,e,a,aE K _ _ t4L2.eq_1 ?_⟩;generalize R.getD i default=y at *
   simp(disch:=omega)only[go_sem,v,r,g,ao0,hop,aC];exact X_ er u
end
theorem bSi{W:Ta_}{r:Nat}(b:W.Pairwise (·<·))(h:∀x∈W,1<=x/\x<r):W.length<=r:=by
 have:=xF W ((List.range r).map fun n:Nat=>(n:Int)) (b.imp fun h=>A_) fun x a=>by have:=h x a;exact A0.2 ⟨x.toNat,C5.2 A_,by omega⟩
 rw[L_,F8]at this;exact this
theorem bSj{f:VF}{v:TV}{σ:Ta_}{n:Nat}{o:Tg_}{O:Te_}{R:List VI}{t:Tag}(h:zK f v σ n o O R t):∀x∈R,x.mp.length<=f.regs:=fun x d=>by
 by_cases hop:x.op=67
 .obtain⟨k,i,rfl⟩:=H8 d
  have m:R.getD k default=R[k]:=by rw[W_,D_ i];rfl
  rw[<-m]at hop |-
  have b:k<(bG σ f.regs f.ins).length:=by rw[<-h.acc.len];exact i
  obtain⟨t,e⟩:=h.acc.at_ k b
  rw[e,(aCi ..).1]at hop
  rw[e]
  unfold rX
  rw[K_ hop]
  show(eG (slF σ _)).length<=_
  rw[uH]
  refine C0 (aJ2 σ _) ?_
  obtain⟨c,j,g,l,rfl⟩:=eS b
  have a:=aVj σ f.ins f.regs 0 c j g l
  rw[A7]at a
  rw[W_,a,Option.getD_some,Int.toNat_natCast]
  exact bSi (aC4 ..) fun x d=>by have:=(h.out c g x).1 d;omega
 .rw[mpT h.bare h x d hop];simp
theorem bU2(fn rg sl nd pr:Int)(rs:Bool)(ti:Tag)(ins:List VI)(D:∀x∈ins,cB x.tu x.us):((lim K).call 4 [.iv (.agg (gG fn rg sl nd pr rs ti ins))] []).All fun r=>r.1=e_:=by
 obtain⟨b,a,s⟩:=bR9 fn rg sl nd pr rs ti ins;have h:=bU0;refine dJ K _ (fn:=t4) rfl rfl ?_;unfold gG at a |-;cases b with
 |true =>simp(disch:=omega)only[t4,go_sem,aD a];refine nS h ?_;rintro v rfl;simp(disch:=omega)only[go_sem];exact bE rfl
 |false =>
  obtain⟨J,I,h3⟩:=s rfl;have l:=bUl (fn:=fn) (sl:=sl) (nd:=nd) (pr:=pr) (rs:=rs) (ti:=ti) (ins:=ins) (show rg<=110 by omega) A_ fun x d=>⟨by have:=h3 x d;omega,D x d⟩
  unfold gG at l;simp(disch:=omega)only[t4,go_sem,aD a];refine nS l ?_;rintro v (rfl|⟨f,m,j,σ,n,o,O,R,t,c⟩);.unfold noV;simp(disch:=omega)only[go_sem];refine nS h ?_;rintro v rfl;simp(disch:=omega)only[go_sem];exact bE rfl
  .have Q:=c.reach.ok.len;have C:=j.r;have F:=j.n;have e:R.length<=1000:=by have:=(lF σ f.regs f.ins).2;rw[<-c.acc.len]at this;omega
   have w:=bSj c;obtain⟨S',L,N,P,u,y,A,H,p,k⟩:=aQy (fn:=f.fn) (nd:=f.nd) (pr:=f.pr) (rs:=f.rs) (t:=t) e (ns:=σ.length) A_ (fun x d=>by have:=w x d;omega) (fun i z g q G E=>bEo c z g G E) (.iv (.agg [.int .i64 fn,.int .i64 rg,.int .i64 sl,.int .i64 nd,.int .i64 pr,.bool rs,.sl ti (ins.map aJ)])) (.lb [j_ fn,j_ rg,j_ sl,j_ nd,j_ pr,.iv (.bool rs),.iv (.sl ti (ins.map aJ))]) z_ (j_ 0) z_ z_ R.length 0 [] u_ u_ u_ u_ u_ u_ u_ u_ A_;rw[n0_]at k;rw[c.val];simp(disch:=omega)only[go_sem];rw[k];simp(disch:=omega)only[go_sem];refine nS h ?_;rintro v rfl;simp(disch:=omega)only[go_sem];exact bE rfl
end Go.Proofs.YtehlgnfhkidgoaaGreatDoor
namespace Go.Proofs.YtehlgnfhkidgoaaGreatDoor
open Go Go.TM Go.ChangeShapes Go.WideShapes
variable {H:Type}
theorem aJ6{d:DataW H}{l:Tq_}(h:Ty Tryz.prog 26 d l):∃(t:Tag) (us:Ta_),l=[.sl t (TM.one (.int .i64) us)]/\cB t us:=by obtain⟨t,us,rfl,a,_,_⟩:=aFn (f:=fun n:Int=>[IV.int .i64 n]) (R:=fun _=>True) Tryz.underlying26 (fun d l h=>by obtain⟨n,rfl,_⟩:=lP Tryz.underlying3 h;exact⟨n,rfl,trivial⟩) h;exact⟨t,us,rfl,a⟩
theorem bEr{d:DataW H}{l:Tq_}(h:Ty Tryz.prog 28 d l):∃v:VI,l=aJ v/\cB v.tu v.us:=by obtain⟨ds,ls,rfl,f⟩:=aIf Tryz.underlying28 h;obtain⟨R,P,p,x,rfl,k0,f⟩:=dE f;obtain⟨T,l1,I,s,rfl,q,f⟩:=dE f;obtain⟨L,l2,E,G,rfl,w,f⟩:=dE f;obtain⟨d3,U,C,F,rfl,A,f⟩:=dE f;obtain⟨Y,W,r,i,rfl,y,f⟩:=dE f;obtain⟨Q,l5,D,t,rfl,u,f⟩:=dE f;obtain⟨V,Z,j,k,rfl,o,f⟩:=dE f;obtain⟨N,l7,z,m,rfl,J,f⟩:=dE f;obtain rfl:=aAh f;obtain⟨op,rfl,_⟩:=lP Tryz.underlying3 k0;obtain⟨a,rfl,_⟩:=lP Tryz.underlying3 q;obtain⟨b,rfl,_⟩:=lP Tryz.underlying3 w;obtain⟨c,rfl,_⟩:=lP Tryz.underlying3 A;obtain⟨e,rfl,_⟩:=lP Tryz.underlying3 y;obtain⟨g,rfl,_⟩:=lP Tryz.underlying3 u;obtain⟨tu,us,rfl,n⟩:=aJ6 o;obtain⟨tm,mp,rfl,_⟩:=aJ6 J;exact⟨⟨op,a,b,c,e,g,tu,us,tm,mp⟩,rfl,n⟩
theorem bEs{d:DataW H}{l:Tq_}(h:Ty Tryz.prog 24 d l):∃(fn rg sl nd pr:Int) (rs:Bool) (ti:Tag) (ins:List VI),l=gG fn rg sl nd pr rs ti ins/\ins.length<=9223372036854775807/\∀x∈ins,cB x.tu x.us:=by obtain⟨ds,ls,rfl,a⟩:=aIf Tryz.underlying24 h;obtain⟨I,F,i,q,rfl,k0,a⟩:=dE a;obtain⟨J,U,D,m,rfl,j,a⟩:=dE a;obtain⟨E,l2,z,C,rfl,p,a⟩:=dE a;obtain⟨W,L,u,A,rfl,s,a⟩:=dE a;obtain⟨Q,P,k,b,rfl,r,a⟩:=dE a;obtain⟨G,V,w,n,rfl,o,a⟩:=dE a;obtain⟨N,T,c,e,rfl,g,a⟩:=dE a;obtain rfl:=aAh a;obtain⟨fn,rfl,_⟩:=lP Tryz.underlying3 k0;obtain⟨rg,rfl,_⟩:=lP Tryz.underlying3 j;obtain⟨sl,rfl,_⟩:=lP Tryz.underlying3 p;obtain⟨nd,rfl,_⟩:=lP Tryz.underlying3 s;obtain⟨pr,rfl,_⟩:=lP Tryz.underlying3 r;obtain⟨rs,rfl⟩:=bO2 Tryz.underlying4 o;obtain⟨ti,ins,rfl,_,t,y⟩:=aFn (f:=aJ) (R:=fun v=>cB v.tu v.us) Tryz.underlying22 (fun d l h=>bEr h) g;exact⟨fn,rg,sl,nd,pr,rs,ti,ins,rfl,y,t⟩
variable {H:Type}
theorem inv4{ds:List (DataW H)}{ls:M_}(a:tZ Tryz.prog [24] ds ls):((lim K).call 4 (aLk Tryz.prog [24] ls) []).All fun r=>r.1=e_:=by obtain⟨j,h,e,c,rfl,f,b⟩:=dE a;obtain⟨fn,rg,sl,nd,pr,rs,ti,ins,rfl,i,d⟩:=bEs f;have g:∀l,aH2 Tryz.prog 24 l=.iv (.agg l):=fun x=>bBo (by rw[Tryz.underlying24]);rw[aAh b];simp only[aLk,g];exact bU2 fn rg sl nd pr rs ti ins d
end Go.Proofs.YtehlgnfhkidgoaaGreatDoor
