/- Some texts of the proof, joined. Condition: none. -/
import Derived.Test.YtehlgnfhkidgoaaGreatDoorJh
import Derived.Test.YtehlgnfhkidgoaaGreatDoorTmE
set_option linter.unusedSectionVars false
set_option maxRecDepth 100000
set_option maxHeartbeats 64000000
set_option linter.unusedSimpArgs false
set_option linter.unusedVariables false
namespace Go.Proofs.YtehlgnfhkidgoaaGreatDoor
open Go Go.TM
structure FOK (f:VF):Prop where
 bare:sP f
 n:f.ins.length<=100
 r:f.regs<=110
 us:∀x∈f.ins,x.us.length<=1000/\cB x.tu x.us
theorem bL0{t:Tag}{l:Ta_}(h:cB t l):cB (zC t l) l:=fun e=>by
 unfold zC at e
 split at e
 .assumption
 .cases e
theorem aVi{f:VF}(h:FOK f)(σ:Ta_):∀y∈plC σ f.regs f.ins,y.us.length<=999990/\cB y.tu y.us:=fun y d=>by
 unfold plC bG at d
 obtain⟨z,o,rfl⟩:=A0.1 d
 obtain⟨k,g,rfl⟩:=H8 o
 obtain⟨c,j,b,i,rfl⟩:=eS (σ:=σ) (r:=f.regs) (ins:=f.ins) g
 have e:=qO (σ:=σ) (r:=f.regs) b i
 have m:(bG σ f.regs f.ins)[ofs σ f.regs f.ins c+j]?=some ((rwM σ f.regs f.ins).flatten[ofs σ f.regs f.ins c+j]):=D_ g
 rw[m]at e
 have a:∀v:VI,v.us=[]->v.tu=.nil->v.us.length<=999990/\cB v.tu v.us:=fun v l p=>by rw[l];exact⟨by simp,fun _=>rfl⟩
 rcases jF e.symm with⟨_,n,k,q,_,_,e2⟩|⟨_,e2⟩|⟨_,q,k,_,_,_,e2⟩
 .rw[e2]
  have:plI (ldI q k)=⟨69,q,0,0,0,0,.nil,[],.nil,[]⟩:=by unfold plI ldI;simp
  rw[this];exact a _ rfl rfl
 .rw[e2,sK (xI h.bare) (bQ b)]
  have:=h.us _ (bQ b)
  exact⟨by show(f.ins.getD c default).us.length<=_;omega,bL0 this.2⟩
 .rw[e2]
  have:plI (stI q k)=⟨64,0,q,0,0,0,.nil,[],.nil,[]⟩:=by unfold plI stI;simp
  rw[this];exact a _ rfl rfl
theorem bR0{f:VF}(h:FOK f){σ:Ta_}(z:aBw σ):∃n:Nat,(n:Int)=rwR σ f.regs f.ins/\n<=410/\fP K 34 [.iv (.agg [.int .i64 f.fn,.int .i64 n,.int .i64 f.sl,.int .i64 f.nd,.int .i64 f.pr,.bool f.rs,.sl .no ((plC σ f.regs f.ins).map aJ)])] fun v=>∃r tE E tM M,v=.tup [.iv (.agg [.int .i64 r,.sl tE E,.sl tM M]),j_ 0] /\fP K 36 [.iv (.agg [.int .i64 r,.sl tE E,.sl tM M])] fun v=>∃o:Nat->Int,v=.iv (.sl .no (TM.one (.int .i64) ((List.range n).map o)))/\aDs (plC σ f.regs f.ins) n o:=by
 have F:=aDm σ f.regs f.ins;have G:=h.n;have D:=h.r;have A:=(qP h.bare).1.1;obtain⟨n,l⟩:=H3 (show 0<=rwR σ f.regs f.ins by omega);have s:(plC σ f.regs f.ins).length<=400:=by have:=(lF σ f.regs f.ins).2;unfold plC;rw[L_];omega
 have a:=bDd h.bare z;rw[l]at a;have q:=aVi h σ;obtain⟨I,O,_,g,e⟩:=aQa (f:=⟨f.fn,n,f.sl,f.nd,f.pr,f.rs,.no,plC σ f.regs f.ins⟩) (by show n<=_;omega) (by show _<=1000000;dsimp only;omega) q a;dsimp only at *
 have t:∀i,i<(plC σ f.regs f.ins).length->∀x,x∈wlI 0 (O i)↔1<=x/\x<n/\zB (plC σ f.regs f.ins) x i:=fun i c=>(e i c).2.2;have b:(plC σ f.regs f.ins).any (qM n (plC σ f.regs f.ins))=false:=by unfold sI at a;simp only[P_,D7]at a;exact a.2.1
 have j:∀p,oZ (plC σ f.regs f.ins) (fun i=>wlI 0 (O i)) p->InP n p:=fun p m=>bK3 (fun i c=>bLo A_ b c) (fun i c d u=>by have:=(t i c d).1 u;omega) m;have k:∀p,sL (plC σ f.regs f.ins) p->InP n p:=fun p m=>bK4 (fun i c=>bV4 b c) (fun i c h=>bUf b c (.inl A_)) m;have w:=bQ8 (fn:=f.fn) (rg:=n) (sl:=f.sl) (nd:=f.nd) (pr:=f.pr) (rs:=f.rs) (ti:=.no) (ins:=plC σ f.regs f.ins) A_ A_ (O:=O) (fun i c=>by have:=(e i c).1.2;omega) j k (by unfold kY at g;exact g);refine⟨n,l.symm,by omega,fP.mono w ?_⟩;rintro v ⟨E,M,rfl,C,y⟩;exact⟨n,_,_,_,_,rfl,bV5 A_ A_ t C y j k _ _⟩
structure bR1 (f:VF) (out:IV) (j jm:Nat) (S:aA) (v:TV) (S':aA):Prop where
 ex:∃(σ:List Int) (n:Nat) (o:Nat->Int) (a:Ax),v=.iv (.sl .no (TM.one (.int .i64) ((List.range n).map o)))/\SpS S' a f out (sk0 σ f)/\a.j=j/\a.jm=jm/\Reach f σ/\(n:Int)=rwR σ f.regs f.ins/\aDs (plC σ f.regs f.ins) n o/\jN n o=[]
 kn:KN [j,jm] S S'
theorem bEd{A:TV}(h:cA A=false)(q:Nat):qA q A=false:=by cases A<;>simp_all[cA,qA]
theorem aQq{S:aA}{v:TV}{a:IV}(h:wI S v=some a)(b:∀g x y,v≠.fn g x y):cY S [v]=some [.iv a]:=by
 have:jP S v=some (.iv a):=by
  unfold jP;split;.rename_i g x y;exact absurd rfl (b g x y)
  .rw[h];rfl
 simp only[cY,this]
theorem Kp0.kn{S S':aA}(h:Kp0 S.length S S')(I:Tc_):KN I S S':=⟨h.1,fun q b _ _ a=>h.2 q b (aN a) a⟩
theorem SpS.kp{S S':aA}{a:Ax}{f:VF}{out:IV}{k:Sk}(h:SpS S a f out k)(g:Kp0 S.length S S'):SpS S' a f out k:=by obtain⟨l,d,c,e⟩:=h.map;exact⟨g.2 _ _ (aN h.blk) h.blk,⟨l,d,g.2 _ _ (aN c) c,e⟩,fun b=>g.2 _ _ (aN (h.ti b)) (h.ti b),fun b=>g.2 _ _ (aN (h.tf b)) (h.tf b),h.ne,h.oc⟩
theorem bL1{j:Nat}{S S':aA}(h:bL [j] S S')(I:Tc_):KN (j::I) S S':=⟨h.len,fun q b a _ h3=>h.get q b (fun e=>a (by rw[U_]at e;rw[e];exact N5 ..)) h3⟩
theorem KN.above{I:Tc_}{S S' S'':aA}(h:KN I S S'){q:Nat}(g:KN (q::I) S' S'')(d:S.length<=q):KN I S S'':=by
 refine⟨C0 h.len g.len,fun x b a c h3=>g.get x b (fun e=>?_) c (h.get x b a c h3)⟩;rcases J_.1 e with e|e;.have:=aN h3;omega
 .exact a e
theorem bEe{f:VF}(d:FOK f){out:IV}{a:Ax}{S:aA}{σ L:Ta_}{c b:Nat}(t:SpS S a f out (sk0 σ f))(N:RwB S c L)(A:L≠[])(hL:L.length<=900000)(s:S[b]?=some (.cells 40 false [.ptr a.j 43 0]))(o:c≠a.j)(m:c≠a.jm)(y:c≠b)(G:b≠a.j)(U:b≠a.jm)(P:aBw (wH σ (flp (pR f.regs) L))): ∃X S5 S6 S7 e,(lim K).call 40 [rwV c L,.fn 41 [] [.ptr b 40 0]] S=.ret (X,S5)/\(lim K).call 39 [.ptr a.j 43 0,X] S5=.ret (u_,S6)/\(lim K).call 14 [.ptr a.j 43 0] S6=.ret (u_,S7)/\(∀q,mX q X=X)/\cA X=false/\S5[b]?=some (.cells 40 false [.ptr a.j 43 0])/\S6[b]?=some (.cells 40 false [.ptr a.j 43 0])/\S7[b]?=some (.cells 40 false [.ptr a.j 43 0])/\SpS S7 e f out (sk0 (wH σ (flp (pR f.regs) L)) f)/\KN [c,a.j,a.jm] S S7/\e.j=a.j/\e.jm=a.jm:=by
 have g:=N A;obtain⟨J',p⟩:=aUm (J:=[]) (by rw[A4];exact g) A_ (O_ _) 41 [.ptr b 40 0] (bb:=false) rfl rfl (pR f.regs) (fun B x=>aVf (bRy (t.setO g B_ o m B) (by rw[aB y];exact s) x));have i:=aN g;have T:=t.setO g B_ o m (.cells (L.length-1) true ((flp (pR f.regs) L).map vI++J'));have F:=aM i (.cells (L.length-1) true ((flp (pR f.regs) L).map vI++J'));have z:(S.set c (.cells (L.length-1) true ((flp (pR f.regs) L).map vI++J')))[b]?=some (.cells 40 false [.ptr a.j 43 0]):=by rw[aB y];exact s
 have I:=KN.set c S (.cells (L.length-1) true ((flp (pR f.regs) L).map vI++J'));have Z:=aJj (pR f.regs) L;obtain⟨S6,k,V,v⟩:=bRz (cp:=L.length) A_ o m T F;have w:=v.get1 U B_ z;obtain⟨S7,e,l,D,C,R,e2⟩:=bRt V (by have:=d.n;omega) (by have:=d.r;omega) (fun x h=>⟨by have:=(d.us x h).1;omega,(d.us x h).2⟩) (fun x h u E=>jA.2 fun H=>by have Y:=(zH d.bare h).1 u E;have W:=P u H;omega);have Q:=C.get1 G B_ w;refine⟨_,_,S6,S7,e,by rw[sU _ A];exact p,k,l,fun q=>rfl,rfl,z,w,Q,D,((I.mono B_).trans (v.mono B_)).trans (C.mono B_),R,e2⟩
theorem aQr{f:VF}(t:FOK f){out:IV}{j jm b:Nat}(l:b≠j)(s:b≠jm)(Y:jm≠j)(x0:TV):∀(m:Nat) (S:aA) (a:Ax) (σ:Ta_) (x2 x3 x4 x5 x6 x7 x8 x9:TV),f.regs-32-σ.length<m->SpS S a f out (sk0 σ f)->a.j=j->a.jm=jm->Reach f σ->S[b]?=some (.cells 40 false [.ptr j 43 0]) ->(lp' (lim K) t15L1 [x0,.ptr b 40 0,x2,x3,x4,x5,x6,x7,x8,x9] S).All fun q=>q.1=.ret/\∃v y3 y4 y5 y6 Z y8 H,q.2.1=[x0,.ptr b 40 0,v,y3,y4,y5,y6,Z,y8,H]/\bR1 f out j jm S v q.2.2
 |0,S,a,σ,x2,x3,x4,x5,x6,x7,x8,x9,hm,_,_,_,_,_=>A_
 |m+1,S,a,σ,x2,x3,x4,x5,x6,x7,x8,x9,hm,hs,hj,hjm,hre,hbx=>by
  have V:=hre.ok;have hv:=V.virt;have hR:=aDm σ f.regs f.ins;have hl:=t.n;have hk:=t.r;have ho:=(qP t.bare).1;have hi:=lF σ f.regs f.ins;have hb:(sk0 σ f).c≠[]:=fun e=>by
   have:(bG σ f.regs f.ins).length=0:=by show(sk0 σ f).c.length=0;rw[e];rfl
   omega
  obtain⟨n,hn,hr,hg⟩:=bR0 t hv;have z:=bRv hs hb (by show(bG σ f.regs f.ins).length<=_;omega);rw[hj]at z;have G:cC ((sk0 σ f).c.map plI)=cC (plC σ f.regs f.ins):=rfl;have h4:(sk0 σ f).c.length=(plC σ f.regs f.ins).length:=(L_ _).symm;rw[G,h4,show(sk0 σ f).r=(n:Int) from hn.symm]at z;have g1:=cN S (aG.cells 0 true (cC (plC σ f.regs f.ins)));have s1:=hs.app [aG.cells 0 true (cC (plC σ f.regs f.ins))];have b1:=aR hbx [aG.cells 0 true (cC (plC σ f.regs f.ins))];have el:=bLw g1;have rv:wI (S++[aG.cells 0 true (cC (plC σ f.regs f.ins))]) (.agg [j_ f.fn,j_ n,j_ f.sl,j_ f.nd,j_ f.pr,.iv (.bool f.rs),.msl S.length 0 0 (plC σ f.regs f.ins).length (plC σ f.regs f.ins).length 8])=some (.agg [.int .i64 f.fn,.int .i64 n,.int .i64 f.sl,.int .i64 f.nd,.int .i64 f.pr,.bool f.rs,.sl .no ((plC σ f.regs f.ins).map aJ)]):=by simp only[wI,xP,aDw,el,Option.map_some]
  have ca:=aQq rv B_;have fz:cJ (S++[aG.cells 0 true (cC (plC σ f.regs f.ins))]) [.agg [j_ f.fn,j_ n,j_ f.sl,j_ f.nd,j_ f.pr,.iv (.bool f.rs),.msl S.length 0 0 (plC σ f.regs f.ins).length (plC σ f.regs f.ins).length 8]]=some ((S++[aG.cells 0 true (cC (plC σ f.regs f.ins))]).set S.length (.frz 0 (TM.bC ((plC σ f.regs f.ins).map aJ)))):=by
   have e2:toIVs (cC (plC σ f.regs f.ins))=some (TM.bC ((plC σ f.regs f.ins).map aJ)):=by unfold cC;rw[fM]
   simp only[cJ,cJ.freezeC,lY,g1,e2,Option.map_some]
  have s2:=s1.setO g1 B_ (by have:=aN hs.blk;omega) (by obtain⟨_,_,q,_⟩:=hs.map;have:=aN q;omega) (.frz 0 (TM.bC ((plC σ f.regs f.ins).map aJ)));have b2:((S++[aG.cells 0 true (cC (plC σ f.regs f.ins))]).set S.length (.frz 0 (TM.bC ((plC σ f.regs f.ins).map aJ))))[b]?=some (.cells 40 false [.ptr j 43 0]):=by rw[aB (by have:=aN hbx;omega)];exact b1
  have k2:KN [j,jm] S ((S++[aG.cells 0 true (cC (plC σ f.regs f.ins))]).set S.length (.frz 0 (TM.bC ((plC σ f.regs f.ins).map aJ)))):=⟨by simp,fun q B _ _ hq=>by rw[aB (by have:=aN hq;omega)];exact aR hq _⟩
  generalize hS1:S++[aG.cells 0 true (cC (plC σ f.regs f.ins))]=S1 at *
  generalize hS2:S1.set S.length (.frz 0 (TM.bC ((plC σ f.regs f.ins).map aJ)))=S2 at *
  generalize hA:(TV.agg [j_ f.fn,j_ n,j_ f.sl,j_ f.nd,j_ f.pr,.iv (.bool f.rs),.msl S.length 0 0 (plC σ f.regs f.ins).length (plC σ f.regs f.ins).length 8])=A at *
  have hp:∀q,mX q A=A:=fun q=>by rw[<-hA];rfl
  have h8:cA A=false:=by rw[<-hA];rfl
  have h9:pZ A=true:=by rw[<-hA];rfl
  have U:=bEd h8;simp only[qA]at U;refine fE t15L1.eq_1 ?_;simp(disch:=omega)only[go_sem,hbx,z,ca];refine aIg hg ?_;rintro v ⟨r,tE,E,tM,M,rfl,h7⟩;have he:fW (.tup [.iv (.agg [.int .i64 r,.sl tE E,.sl tM M]),j_ 0])=false:=by simp[fW,iP]
  simp(disch:=omega)only[go_sem,h9,U,he,fz];refine aIg h7 ?_;rintro v ⟨o,rfl,hc⟩;obtain⟨S3,C,h6,i,k3,h5⟩:=bRw .no ((List.range n).map o) (by simp;omega) S2;have eW:aBy ((List.range n).map o)=jN n o:=rfl;rw[eW]at h6 i h5;have u:=lV i;have u1:=u.loc;have u2:=u.wb;have u3:=bLz S3 C (jN n o);have u4:=u.nlp;simp(disch:=omega)only[go_sem,h6,u1,u2,u3,u4];have N:a.j<S2.length/\a.jm<S2.length/\b<S2.length:=⟨aN s2.blk,by obtain⟨_,_,q,_⟩:=s2.map;exact aN q,aN b2⟩
  have s3:=s2.kp k3;have b3:=k3.2 _ _ N.2.2 b2;have D:KN [j,jm] S S3:=k2.trans (k3.kn _);by_cases h0:jN n o=[]
  .rw[h0];simp(disch:=omega)only[go_sem,List.length_nil];refine bE ⟨rfl,_,_,_,_,_,_,_,_,rfl,⟨σ,n,o,a,rfl,s3,hj,hjm,hre,hn,hc,h0⟩,D⟩
  .have I:¬((jN n o).length:Int)=0:=by have:=N2.2 h0;omega
   have hW:(jN n o).length<=100000:=by have:=aMr ((List.range n).map o) ((List.range n).map o).length;rw[L_,F8]at this;show(aBz _ ((List.range n).map o).length).length<=_;rw[L_,F8];omega
   have hh:=h5 h0;have w:C≠a.j:=A_;have p:C≠a.jm:=A_;have J:C≠b:=A_;have bw:=aCd u A_ 38 [.ptr b 40 0] (b:=false) rfl rfl (pR f.regs) (fun x _=>aVf (bRx s3 (by rw[hj];exact b3) x));have m1:=more t.bare V hn hc h0;have g:=Reach.step hre hn hc h0;cases ha:(jN n o).any (pR f.regs)with
   |false =>
    rw[ha]at bw;have eN:zJ f.regs (jN n o)=flp (pR f.regs) (jN n o):=by unfold zJ;rw[ha];rfl
    obtain⟨X,S5,S6,S7,a',d1,P,T,d4,d5,R,Q,y,d9,d,k,h⟩:=bEe t s3 i h0 A_ (by rw[hj];exact b3) w p J (by rw[hj];exact l) (by rw[hjm];exact s) (by rw[<-eN];exact g.ok.virt);rw[hj]at P T R Q y d k;rw[hjm]at d h;rw[<-eN]at d9;simp(disch:=omega)only[go_sem,I,bw,b3,d1,P,T,d4,d5,R,Q,y,u1,u2,u4];have L:KN [j,jm] S S7:=KN.above D d (by have:=k2.len;omega);have l2:=g.ok.len;have ih:=aQr t l s Y x0 m S7 a' _ x2 (.lb [j_ r,.iv (.sl tE E),.iv (.sl tM M)]) (.iv (.sl .no (TM.one (.int .i64) ((List.range n).map o)))) (rwV C (jN n o)) x6 z_ z_ x9 A_ d9 k h g y;exact cQ (Out.all_mono (fun q ⟨h1,v,y3,y4,y5,y6,Z,y8,H,h2,h3⟩=>⟨h1,v,y3,y4,y5,y6,Z,y8,H,h2,h3.ex,L.trans h3.kn⟩) ih)
   |true =>
    rw[ha]at bw;have eN:zJ f.regs (jN n o)=flp (pR f.regs) (jN n o++nA f.regs 32):=by unfold zJ;rw[ha];rfl
    have hV:(nA f.regs 32).length<=f.regs:=by unfold nA;simp
    obtain⟨S4,H,l4,W,k4⟩:=aVg (f:=f) (out:=out) (a:=a) (k0:=sk0 σ f) A_ w p J x0 x2 (.lb [j_ r,.iv (.sl tE E),.iv (.sl tM M)]) (.iv (.sl .no (TM.one (.int .i64) ((List.range n).map o)))) z_ e_ (max 32 f.regs-32) 32 S3 (jN n o) x9 A_ A_ h0 i s3 (by rw[hj];exact b3);rw[show((32:Nat):Int)=32 from rfl]at l4;have s4:=s3.keepO k4 (i h0) B_ w p;have b4:=k4.get _ _ (by simp;omega) b3;have hd:KN [C,j,jm] S3 S4:=bL1 k4 _;obtain⟨X,S5,S6,S7,a',d1,P,T,d4,d5,R,Q,y,d9,d,k,h⟩:=bEe t s4 W (by simp[h0]) (by rw[H_];omega) (by rw[hj];exact b4) w p J (by rw[hj];exact l) (by rw[hjm];exact s) (by rw[<-eN];exact g.ok.virt);rw[hj]at P T R Q y d k;rw[hjm]at d h;rw[<-eN]at d9;have F:=lV W;have q1:=F.loc;have q2:=F.wb;have q4:=F.nlp;simp(disch:=omega)only[go_sem,I,bw,b3,d1,P,T,d4,d5,R,Q,y,u1,u2,u4];rw[l4];simp(disch:=omega)only[go_sem,I,b4,d1,P,T,d4,d5,R,Q,y,q1,q2,q4];have L:KN [j,jm] S S7:=KN.above D (hd.trans d) (by have:=k2.len;omega);have l2:=g.ok.len;have ih:=aQr t l s Y x0 m S7 a' _ x2 (.lb [j_ r,.iv (.sl tE E),.iv (.sl tM M)]) (.iv (.sl .no (TM.one (.int .i64) ((List.range n).map o)))) (rwV C (jN n o++nA f.regs 32)) (j_ (max 32 f.regs:Nat)) z_ e_ H A_ d9 k h g y;exact cQ (Out.all_mono (fun q ⟨h1,v,y3,y4,y5,y6,Z,y8,H,h2,h3⟩=>⟨h1,v,y3,y4,y5,y6,Z,y8,H,h2,h3.ex,L.trans h3.kn⟩) ih)
theorem bR2{f:VF}(m:FOK f){out:IV}{S:aA}{a:Ax}(c:SpS S a f out (sk0 [] f)):((lim K).call 15 [.ptr a.j 43 0] S).All fun q=>bR1 f out a.j a.jm S q.1 q.2:=by
 have e:=c.app [.cells 40 false [.ptr a.j 43 0]];have l:=cN S (.cells 40 false [.ptr a.j 43 0]);have x:=aN c.blk;have l2:a.jm<S.length:=by obtain⟨_,_,q,_⟩:=c.map;exact aN q
 have k:=aQr m (b:=S.length) A_ A_ c.jne (.ptr a.j 43 0) (f.regs+1) _ a [] k_ u_ u_ u_ u_ u_ u_ u_ (by simp;omega) e rfl rfl .nil l;refine dJ K _ (fn:=t15) rfl rfl ?_;simp(disch:=omega)only[t15,go_sem];refine dN k ?_;rintro p z SS ⟨rfl,v,u,s,t,y,A,r,w,rfl,h⟩;obtain⟨⟨σ,n,o,g,rfl,i⟩,d⟩:=h;simp(disch:=omega)only[go_sem];exact bE ⟨⟨σ,n,o,g,rfl,i⟩,(KN.app [a.j,a.jm] S _).trans d⟩
def slF(σ W:List Int):List Int:=W.filterMap fun x=>(bV σ x).map fun i:Nat=>(i:Int)
theorem aJ2(σ:Ta_)(W:Ta_):(slF σ W).length<=W.length:=List.length_filterMap_le _ _
theorem bEf(σ W:Ta_)(x:Int):slF σ (W++[x])=slF σ W++(match bV σ x with|some q=>[(q:Int)]|none=>[]):=by unfold slF;rw[List.filterMap_append];cases h:bV σ x<;>simp[List.filterMap_cons,h]
theorem aHa{l:Ta_}{i:Nat}(h:i<l.length):l.take (i+1)=l.take i++[l.getD i 0]:=by rw[M6 h];simp[List.getD,D_ h]
theorem bL2{S:aA}{j:Nat}{l:Ta_}(h:RwB S j l)(b:l.length<=1000000):∃S',iH [rwV j l] S=some (u_,S')/\RwB S' j (eG l)/\rwV j (eG l)=rwV j l/\(S'=S\/l≠[]/\∃B,S'=S.set j B):=by
 have e:=uH l;by_cases h0:l=[]
 .subst h0;exact⟨S,rfl,fun h=>absurd rfl h,rfl,.inl rfl⟩
 .have a:eG l≠[]:=fun c=>h0 (Z_ (by rw[<-e,c];rfl));have g:=h h0;have p:=aAo (J:=[]) (by rw[A4];exact g) b (O_ _);rw[A4]at p;refine⟨_,by rw[sU _ h0];exact p,fun _=>by rw[e];exact aM (aN g) _,by rw[sU _ h0,sU _ a,e],.inr ⟨h0,_,rfl⟩⟩
theorem aQs{f:VF}{out:IV}{a:Ax}{k:Sk}{W:Ta_}(hW:W.length<=100000)(tw:Tag)(g:Nat)(ha:a.j<g)(hm:a.jm<g)(T:TV):∀(m i:Nat) (S:aA) (j:Nat) (P x4 x5 x9 x10:TV),i+m=W.length->RwB S j (slF k.s (W.take i))->g<=S.length->(slF k.s (W.take i)≠[]->g<=j)->SpS S a f out k ->∃S' o J F E H e,lp' (lim K) t18L0 [.ptr a.j 43 0,T,rwV j (slF k.s (W.take i)),P,x4,x5,.iv (.sl tw (TM.one (.int .i64) W)),j_ W.length,j_ i,x9,x10] S = .ret (.exit 0,[.ptr a.j 43 0,T,rwV o (slF k.s W),J,F,E,.iv (.sl tw (TM.one (.int .i64) W)),j_ W.length,j_ W.length,H,e],S')/\RwB S' o (slF k.s W)/\(∀q b,q<g->S[q]?=some b->S'[q]?=some b)/\S.length<=S'.length/\(slF k.s W≠[]->g<=o)
 |0,i,S,j,P,x4,x5,x9,x10,h,hb,hn,hj,hs=>by
  obtain rfl:i=W.length:=A_;rw[B9]at *
  refine⟨S,j,P,x4,x5,z_,x10,aE K _ _ t18L0.eq_1 ?_,hb,fun q b _ h=>h,O_ _,hj⟩;simp(disch:=omega)only[go_sem]
 |m+1,i,S,j,P,x4,x5,x9,x10,h,hb,hn,hj,hs=>by
  have U:i<W.length:=A_;have R:=pI (f:=IV.int .i64) (t:=tw) (l:=W) (i:=(i:Int)) A_;rw[Int.toNat_natCast]at R;have e0:W.getD i default=W.getD i 0:=rfl;rw[e0]at R;have d:=bEf k.s (W.take i) (W.getD i 0);rw[<-aHa U]at d;have w:=lV hb;have w1:=w.wb;have w2:=w.loc;have Q:=hs.blk;obtain⟨l,c,h3,h4,_⟩:=hs.map;have h6:=aJ2 k.s (W.take i);rw[K0]at h6;generalize W.getD i 0=x at *
  cases u:bV k.s x with
  |some q =>
   rw[u]at d;dsimp only at d;have V:=uT (c:=c) (l:=l) (m:=x) (v:=(q:Int)) (by rw[h4,u];rfl);obtain⟨j1,S1,ap,L,y,D,G⟩:=bEb hb A_ (q:Int);have C:g<=j1:=by
    by_cases h0:slF k.s (W.take i)=[]
    .rw[G h0];exact hn
    .rw[D h0];exact hj h0
   have v1:=(lV L).wb;have Z:=y.len;have Y:SpS S1 a f out k:=by
    by_cases h0:slF k.s (W.take i)=[]
    .have hk:=y;have I:=G h0;refine hs.kp ⟨hk.len,fun z b hz h1=>hk.get z b (by rw[U_];omega) h1⟩
    .have I:=D h0;rw[I]at y;exact hs.keepO y (hb h0) B_ (by have:=hj h0;omega) (by have:=hj h0;omega)
   obtain⟨S',o,J,F,E,H,e,N,n,p,A,r⟩:=aQs hW tw g ha hm T m (i+1) S1 j1 (j_ x) (.lb [j_ q]) e_ e_ e_ A_ (by rw[d];exact L) A_ (fun _=>C) Y;rw[d,show((i+1:Nat):Int)=(i:Int)+1 by omega]at N;refine⟨S',o,J,F,E,H,e,aE K _ _ t18L0.eq_1 ?_,n,fun q b u h5=>p q b u (y.get q b (by simp;omega) h5),by omega,r⟩;unfold spB at Q;simp(disch:=omega)only[go_sem,R,Q,h3,V,w1,w2,ap,v1,aC];exact X_ er N
  |none =>rw[u]at d;dsimp only at d;rw[A4]at d;have V:=xM (c:=c) (l:=l) (m:=x) (by rw[h4,u];rfl);obtain⟨S',o,J,F,E,H,e,N,n,p,A,r⟩:=aQs hW tw g ha hm T m (i+1) S j (j_ x) (.lb [j_ 0]) z_ e_ z_ A_ (by rw[d];exact hb) hn (by rw[d];exact hj) hs;rw[d,show((i+1:Nat):Int)=(i:Int)+1 by omega]at N;refine⟨S',o,J,F,E,H,e,aE K _ _ t18L0.eq_1 ?_,n,p,A,r⟩;unfold spB at Q;simp(disch:=omega)only[go_sem,R,Q,h3,V,w1,w2,aC];exact X_ er N
theorem bR3{f:VF}{a:Ax}{k:Sk}{O:Te_}{n i:Nat}{r:Tag}{S:aA}(U:i<n)(Y:(wlI 0 (O i)).length<=100000)(u:SpS S a f (.sl r (bK O n)) k): ∃v S1 S' t,(lim K).call 18 [.ptr a.j 43 0,j_ i] S=.ret (v,S1)/\zN v S1=some (.iv (.sl t (TM.one (.int .i64) (eG (slF k.s (wlI 0 (O i)))))),S')/\Kp0 S.length S S'/\cB t (eG (slF k.s (wlI 0 (O i)))):=by
 have hx:=ixL (I:=O) U r;have w:=u.blk;obtain⟨S2,p,y3,R,y5,T,A,N,F,H,L,E⟩:=aQs (f:=f) (out:=.sl r (bK O n)) (a:=a) (k:=k) Y (jL (aZ (wlI 0 (O i)))) S.length (aN w) (by obtain⟨_,_,q,_⟩:=u.map;exact aN q) (j_ i) (wlI 0 (O i)).length 0 S 0 u_ u_ u_ u_ u_ A_ (fun h=>absurd rfl h) (O_ _) (fun h=>absurd rfl h) u;rw[n0_,show rwV 0 (slF k.s ((wlI 0 (O i)).take 0))=k_ from rfl]at N;have Z:=aJ2 k.s (wlI 0 (O i));obtain⟨S3,ps,D,e3,x⟩:=bL2 F A_;have g:=lV F;have w1:=g.wb;have Q:=g.loc;have V:∀S,kP [.loc 2] [.ptr a.j 43 0,j_ i,rwV p (slF k.s (wlI 0 (O i))),y3,R,y5,.iv (.sl (jL (aZ (wlI 0 (O i)))) (TM.one (.int .i64) (wlI 0 (O i)))),.iv (.int .i64 (wlI 0 (O i)).length),.iv (.int .i64 (wlI 0 (O i)).length),T,A] S=some (rwV p (slF k.s (wlI 0 (O i)))):=fun S=>by rcases g.frm with⟨a,e⟩|⟨j,l,e⟩|⟨a,b,c,d,P,f,e⟩<;>rw[e]<;>rfl
 have W:∀S,prV S (some iH) [rwV p (slF k.s (wlI 0 (O i)))]=iH [rwV p (slF k.s (wlI 0 (O i)))] S:=fun S=>by simp only[prV,List.any_cons,List.any_nil,g.nlp,O7,b_,J3]
 have y:Kp0 S.length S S3:=by
  rcases x with rfl|⟨o,B,rfl⟩;.exact⟨L,H⟩
  .refine⟨by simpa using L,fun q b C m=>?_⟩;rw[aB (by have:=E o;omega)];exact H q b C m
 have c:(lim K).call 18 [.ptr a.j 43 0,j_ i] S=.ret (rwV p (eG (slF k.s (wlI 0 (O i)))),S3):=by
  refine aI K _ (fn:=t18) rfl rfl ?_;unfold spB at w;rw[e3];generalize hR:bK O n=RL at *
  simp(disch:=omega)only[t18,go_sem,w,hx];rw[N];simp(disch:=omega)only[t18,go_sem,w1,Q,V,aTr,W,ps]
 by_cases o:eG (slF k.s (wlI 0 (O i)))=[]
 .rw[o,bLy]at c;rw[o];exact⟨_,S3,S3,.nil,c,rfl,y,fun _=>rfl⟩
 .have G:=D o;have z:slF k.s (wlI 0 (O i))≠[]:=fun e=>o (Z_ (by rw[uH,e];rfl));generalize eG (slF k.s (wlI 0 (O i)))=l at *
  have P:=aC6 (J:=[]) (by rw[A4];exact G) l.length;have e2:toIVs (l.map vI)=some (l.map (IV.int .i64)):=by
   have:l.map vI=(l.map (IV.int .i64)).map .iv:=by rw[M3];rfl
   rw[this,fM]
  rw[sU _ o]at c;refine⟨_,S3,S3.set p (.frz (l.length-1) (l.map (IV.int .i64))),.no,c,?_,⟨by simpa using y.1,fun q b C m=>by rw[aB (by have:=E z;omega)];exact y.2 q b C m⟩,fun h=>by cases h⟩;simp only[zN,wI,xP,aDw,P,Option.map_some,cJ,cJ.freezeC,lY,G,e2]
def jH(o:Nat->Int)(x:Int):Int:=o x.toNat
theorem bEg{S:aA}{b n:Nat}{o:Tg_}(c:S[b]?=some (.cells 27 false [.iv (.sl .no (TM.one (.int .i64) ((List.range n).map o)))])){x:Int}(h:0<=x/\x<n):(lim K).call 16 [j_ x,.ptr b 27 0] S=.ret (j_ (jH o x),S):=by
 obtain⟨q,rfl⟩:=H3 h.1;have a:=pI (f:=IV.int .i64) (t:=.no) (l:=(List.range n).map o) (i:=(q:Int)) (by simp;omega);have e:((List.range n).map o).getD (q:Int).toNat default=jH o q:=by unfold jH;rw[Int.toNat_natCast,W_,p_,F0 A_];rfl
 rw[e]at a;generalize jH o q=w at *
 refine aI K _ (fn:=t16) rfl rfl ?_;simp(disch:=omega)only[t16,go_sem,c,a]
def rnR(g:Int->Int)(us:List Int)(a:Int):Int:=if a∈us then g a else low a
def fnI(g:Int->Int)(x:VI):VI:={x with a:=rnR g (bF x) x.a,b:=rnR g (bF x) x.b,d:=rnR g (aY x) x.d,us:=x.us.map g,tu:=zC x.tu x.us}
theorem bEh{x:VI}{n:Int}(h:n∈aY x):0<n:=by
 unfold aY at h;split at h;.exact(cW.1 h).2
 .split at h;.exact(cW.1 h).2
  .cases h
theorem bL3{S:aA}{c n:Nat}{o:Tg_}(k:S[c]?=some (.cells 27 false [.iv (.sl .no (TM.one (.int .i64) ((List.range n).map o)))]))(x:VI)(i:x.us.length<=999990)(m:cB x.tu x.us)(e:∀r∈bS x,0<=r/\r<n): ∃v S1 S',(lim K).call 17 [.iv (.agg (aJ x)),.fn 16 [] [.ptr c 27 0],.fn 16 [] [.ptr c 27 0]] S=.ret (v,S1)/\zN v S1=some (.iv (.agg (aJ (fnI (jH o) x))),S')/\Kp0 S.length S S':=by
 have l:(cpS S (x.us.map (jH o)))[c]?=some (.cells 27 false [.iv (.sl .no (TM.one (.int .i64) ((List.range n).map o)))]):=by
  unfold cpS;split;.exact k
  .exact aR k _
 have f:∀(us:Ta_) (a:Int),(a∈us->0<=a/\a<n)->nZ 16 [.ptr c 27 0] us a (rnR (jH o) us a) (cpS S (x.us.map (jH o))) (cpS S (x.us.map (jH o))):=fun us a h=>by
  unfold nZ rnR;by_cases hm:a∈us;.rw[K_ hm,K_ hm];exact bEg l (h hm)
  .rw[I_ hm,I_ hm];exact⟨rfl,rfl⟩
 obtain⟨v,j,p⟩:=bD7 (fu:=16) (fd:=16) (cu:=[.ptr c 27 0]) (cd:=[.ptr c 27 0]) x i m rfl rfl rfl rfl (g:=jH o) (S:=S) (S2:=cpS S (x.us.map (jH o))) (S3:=cpS S (x.us.map (jH o))) (S4:=cpS S (x.us.map (jH o))) (ra:=rnR (jH o) (bF x) x.a) (rb:=rnR (jH o) (bF x) x.b) (rd:=rnR (jH o) (aY x) x.d)
  (fun B u i=>bEg (aR k _) (e u (by unfold bS;simp[i])))
  (f _ _ fun _=>e _ (by unfold bS;simp)) (f _ _ fun _=>e _ (by unfold bS;simp)) (f _ _ fun h=>e _ (by have:=bEh h;unfold bS;rw[K_ (.inr A_)];simp))
  (fun s=>by
   have:x.us.map (jH o)≠[]:=by simpa using s
   unfold cpS;rw[I_ this];exact cN ..)
 refine⟨v,_,_,j,p,?_⟩;unfold frS cpS;split;.exact⟨O_ _,fun q b _ h=>h⟩
 .refine⟨by simp,fun q b t h=>?_⟩;rw[aB A_];exact aR h _
theorem bL4{y:VI}(h:y.op≠67\/True)(a:(∃q k,y=ldI q k)\/(∃q k,y=stI q k)\/plI y=y):bS (plI y)=bS y:=by
 rcases a with⟨q,k,rfl⟩|⟨q,k,rfl⟩|e;.unfold plI ldI bS;simp
 .unfold plI stI bS;simp
 .rw[e]
theorem aXr{f:VF}(h:FOK f){σ:Ta_}(t:aBw σ){k:Nat}(i:k<(bG σ f.regs f.ins).length):(∀r∈bS ((bG σ f.regs f.ins).getD k default),0<=r/\r<rwR σ f.regs f.ins)/\((bG σ f.regs f.ins).getD k default).us.length<=999990/\cB ((bG σ f.regs f.ins).getD k default).tu ((bG σ f.regs f.ins).getD k default).us:=by
 have a:=bDd h.bare t;have d:(plC σ f.regs f.ins).any (qM (rwR σ f.regs f.ins) (plC σ f.regs f.ins))=false:=by unfold sI at a;simp only[P_,D7]at a;exact a.2.1
 have g:k<(plC σ f.regs f.ins).length:=by unfold plC;rw[L_];exact i
 have e:(plC σ f.regs f.ins).getD k default=plI ((bG σ f.regs f.ins).getD k default):=by unfold plC;rw[W_,p_,W_,D_ i];rfl
 obtain⟨c,j,o,m,rfl⟩:=eS i;have e2:=aG3 (σ:=σ) (r:=f.regs) o m;have p:(∃q k,(bG σ f.regs f.ins).getD (ofs σ f.regs f.ins c+j) default=ldI q k)\/(∃q k,(bG σ f.regs f.ins).getD (ofs σ f.regs f.ins c+j) default=stI q k)\/plI ((bG σ f.regs f.ins).getD (ofs σ f.regs f.ins c+j) default)=(bG σ f.regs f.ins).getD (ofs σ f.regs f.ins c+j) default:=by
  rw[e2];rcases jF (D_ m)with⟨_,_,w,q,_,_,e3⟩|⟨_,e3⟩|⟨_,q,w,_,_,_,e3⟩;.exact .inl ⟨_,_,e3⟩
  .exact .inr (.inr (by rw[e3];exact sK (xI h.bare) (bQ o) ..))
  .exact .inr (.inl ⟨_,_,e3⟩)
 refine⟨fun r s=>aJz d g (by rw[e,bL4 (.inr trivial) p];exact s),?_⟩;have l:=aVi h σ _ (bQ g);rw[e]at l;have n:(plI ((bG σ f.regs f.ins).getD (ofs σ f.regs f.ins c+j) default)).us=((bG σ f.regs f.ins).getD (ofs σ f.regs f.ins c+j) default).us/\(plI ((bG σ f.regs f.ins).getD (ofs σ f.regs f.ins c+j) default)).tu=((bG σ f.regs f.ins).getD (ofs σ f.regs f.ins c+j) default).tu:=by
  rcases p with⟨q,k,b⟩|⟨q,k,b⟩|b;.rw[b];unfold plI ldI;simp
  .rw[b];unfold plI stI;simp
  .rw[b];exact⟨rfl,rfl⟩
 rw[n.1,n.2]at l;exact l
theorem aXs(B:List VI)(L:List (List VI))(c:Nat):cL (B::L) (c+1)=B.length+cL L c:=by unfold cL;rw[List.take_succ_cons,Q_,List.sum_cons]
theorem aVj(σ:Ta_):∀(l:List VI) (r:Int) (b c j:Nat),c<l.length->j<(dM σ (cnt σ r l c) (l.getD c default)).length->(frM σ r l b)[ofs σ r l c+j]?=some ((b+c:Nat):Int)
 |[],r,b,c,j,hc,hj=>by simp at hc
 |x::l,r,b,0,j,hc,hj=>by
  have:ofs σ r (x::l) 0=0:=by unfold ofs cL;simp
  rw[this,frM,A7,Nat.add_zero,Y_ (by rw[F9];exact hj),I7,K_ (show j<(dM σ r x).length from hj)];rfl
 |x::l,r,b,c+1,j,hc,hj=>by
  have e:ofs σ r (x::l) (c+1)=(dM σ r x).length+ofs σ (eL σ r x) l c:=by unfold ofs;rw[rwM,aXs]
  have a:=aVj σ l (eL σ r x) (b+1) c j (by simpa using hc) hj;rw[e,frM,r_ (by rw[F9];omega),F9,show(dM σ r x).length+ofs σ (eL σ r x) l c+j-(dM σ r x).length=ofs σ (eL σ r x) l c+j by omega,a];congr 2;omega
theorem bEi(σ:Ta_):∀(l:List VI) (r:Int) (b:Nat),(frM σ r l b).length=(bG σ r l).length
 |[],r,b=>rfl
 |x::l,r,b=>by have a:=bEi σ l (eL σ r x) (b+1);unfold bG at a |-;rw[frM,rwM,List.flatten_cons,H_,H_,F9,a]
def rX(g:Int->Int)(σ W:List Int)(t:Tag)(y:VI):VI:=if y.op=67 then {fnI g y with mp:=eG (slF σ W),tm:=t} else fnI g y
structure aXt (f:VF) (σ:List Int) (o:Nat->Int) (O:Nat->List Nat) (R:List VI) (i:Nat):Prop where
 len:R.length=i
 at_:∀k,k<i->∃t,R.getD k default=rX (jH o) σ (wlI 0 (O ((frM σ f.regs f.ins 0).getD k 0).toNat)) t ((bG σ f.regs f.ins).getD k default)
theorem aXt.snoc{f:VF}{σ:Ta_}{o:Tg_}{O:Te_}{R:List VI}{i:Nat}(h:aXt f σ o O R i)(t:Tag):aXt f σ o O (R++[rX (jH o) σ (wlI 0 (O ((frM σ f.regs f.ins 0).getD i 0).toNat)) t ((bG σ f.regs f.ins).getD i default)]) (i+1):=by
 refine⟨by rw[H_,h.len];rfl,fun k c=>?_⟩;by_cases e:k=i;.subst e;refine⟨t,?_⟩;rw[W_,r_ (by rw[h.len];omega),h.len,M8];rfl
 .obtain⟨b,a⟩:=h.at_ k A_;refine⟨b,?_⟩;rw[<-a,W_,Y_ (by rw[h.len];omega),<-W_]
theorem bUk{j:Nat}{l:List VI}{i:Nat}(h:i<l.length):indexAddrS 8 (.tsl j (l.map aJ)) (i:Int)=some (.iv (.cp (aJ (l.getD i default)))):=by have a:=gC (w:=8) (f:=aJ) eZ (t:=.no) (l:=l) (i:=(i:Int)) A_;rw[Int.toNat_natCast]at a;exact a
theorem Kp0.trans'{a:Nat}{S S' S'':aA}(h:Kp0 a S S')(g:Kp0 S'.length S' S''):Kp0 a S S'':=⟨C0 h.1 g.1,fun q b c d=>by
 have:=h.2 q b c d
 exact g.2 q b (aN this) this⟩
theorem bEj{f:VF}(hf:FOK f){σ:Ta_}(hv:aBw σ){n:Nat}(hn:(n:Int)=rwR σ f.regs f.ins){o:Tg_}{O:Te_}(hO:∀i,i<f.ins.length->(wlI 0 (O i)).length<=100000){tO:Tag}{a:Ax}{S0:aA}(hs:SpS S0 a f (.sl tO (bK O f.ins.length)) (sk0 σ f)){Z:Nat}(P:S0[Z]?=some (.cells 27 false [.iv (.sl .no (TM.one (.int .i64) ((List.range n).map o)))])) (x0 x1 x2 x3 x4 x5 c0 c1 c2 c3 c4 c5 x12 x13:TV):∀(m i:Nat) (S:aA) (d:Nat) (R:List VI) (x10 x11 T H:TV),i+m=(bG σ f.regs f.ins).length->Kp0 S0.length S0 S->At 8 28 (R.map aJ) d S->(R≠[]->S0.length<=d)->aXt f σ o O R i ->∃S' u R' A g p r,lp' (lim K) t6L0 [x0,x1,x2,x3,x4,x5,.ptr a.j 43 0,.ptr Z 27 0,.fn 16 [] [.ptr Z 27 0],.lb [c0,c1,c2,c3,c4,c5,acc d (R.map aJ)],x10,x11,x12,x13,.tsl a.ji ((bG σ f.regs f.ins).map aJ),.iv (.int .i64 (bG σ f.regs f.ins).length),j_ i,T,H] S = .ret (.exit 0,[x0,x1,x2,x3,x4,x5,.ptr a.j 43 0,.ptr Z 27 0,.fn 16 [] [.ptr Z 27 0],.lb [c0,c1,c2,c3,c4,c5,acc u (R'.map aJ)],A,g,x12,x13,.tsl a.ji ((bG σ f.regs f.ins).map aJ),.iv (.int .i64 (bG σ f.regs f.ins).length),.iv (.int .i64 (bG σ f.regs f.ins).length),p,r],S')/\Kp0 S0.length S0 S'/\aXt f σ o O R' (bG σ f.regs f.ins).length
 |0,i,S,d,R,x10,x11,T,H,h,hk,ha,hj,hR=>by obtain rfl:i=(bG σ f.regs f.ins).length:=A_;refine⟨S,d,R,x10,x11,z_,H,aE K _ _ t6L0.eq_1 ?_,hk,hR⟩;simp(disch:=omega)only[go_sem]
 |m+1,i,S,d,R,x10,x11,T,H,h,hk,ha,hj,hR=>by
  have N:i<(bG σ f.regs f.ins).length:=A_;have hh:=lF σ f.regs f.ins;have hi:=hf.n;have U:=bUk (j:=a.ji) N;obtain⟨h8,hd,hg⟩:=aXr hf hv N;obtain⟨v,S1,S2,E,fz,k2⟩:=bL3 (n:=n) (hk.2 _ _ (aN P) P) _ hd hg (by rw[hn];exact h8);have h4:=hk.trans' k2;have fl:=bEi σ f.ins f.regs 0;have h1:=bKw (j:=a.jf) (l:=frM σ f.regs f.ins 0) (i:=i) A_;have he:frM σ f.regs f.ins 0≠[]:=fun e=>by rw[e]at fl;simp at fl;omega
  have fc:∃c,c<f.ins.length/\(frM σ f.regs f.ins 0).getD i 0=((c:Nat):Int):=by obtain⟨c,j,P,hj,e⟩:=eS N;have:=aVj σ f.ins f.regs 0 c j P hj;rw[<-e,A7]at this;exact⟨c,P,by rw[W_,this];rfl⟩
  obtain⟨c,J,Y⟩:=fc;have s2:=hs.kp h4;have Q:=s2.blk;have sn:=fun t=>hR.snoc (f:=f) t;rw[Y,Int.toNat_natCast]at sn;rw[Y]at h1;have hl:∀ {x:VI},(aJ x).length=8/\(aJ x).all mZ=true:=fun {x}=>uS x;have L:At 8 28 (R.map aJ) d S2:=fun F=>k2.2 _ _ (aN (ha F)) (ha F);have h6:(R.map aJ).length=i:=by rw[L_,hR.len]
  have I:∀(S3:aA) (z:VI),Kp0 S2.length S2 S3->At 8 28 (R.map aJ) d S3/\Kp0 S0.length S0 (gS1 8 28 (R.map aJ) d S3)/\At 8 28 ((R++[z]).map aJ) (gI (R.map aJ) d S3) (gS1 8 28 (R.map aJ) d S3)/\(R++[z]≠[]->S0.length<=gI (R.map aJ) d S3)/\bA false 8 96 28 S3 (acc d (R.map aJ)) (.iv (.sl .full [aJ z]))=some (acc (gI (R.map aJ) d S3) ((R++[z]).map aJ),gS1 8 28 (R.map aJ) d S3):=fun S3 z h3=>by
   have k:=h4.trans' h3;have a3:At 8 28 (R.map aJ) d S3:=fun F=>h3.2 _ _ (aN (L F)) (L F);have C:=bKs (b:=96) (t:=.full) a3 (uS z) (aVb _) (bR (by rw[h6];omega));refine⟨a3,?_,?_,fun _=>?_,?_⟩
   .unfold gS1;split;.exact⟨by rw[H_];have:=k.1;omega,fun q b hq hb=>aR (k.2 q b hq hb) _⟩
    .rename_i F;refine⟨by rw[F6];exact k.1,fun q b hq hb=>?_⟩;have:=hj (fun e=>F (by rw[e];rfl));rw[aB A_];exact k.2 q b hq hb
   .rw[E1];exact aI1 a3 (aJ z)
   .unfold gI;split;.exact k.1
    .rename_i F;exact hj (fun e=>F (by rw[e];rfl))
   .rw[E1];exact C
  rw[cV]at U;generalize hy:(bG σ f.regs f.ins).getD i default=y at *
  by_cases hop:y.op=67
  .obtain⟨w,S3,S4,t,h9,h2,k4,_⟩:=bR3 (i:=c) J (hO c J) s2;obtain⟨a4,kg,ag,jg,C⟩:=I S4 (rX (jH o) σ (wlI 0 (O c)) t y) k4;obtain⟨S',u,R',A,g,p,r,D,V,W⟩:=bEj hf hv hn hO hs P x0 x1 x2 x3 x4 x5 c0 c1 c2 c3 c4 c5 x12 x13 m (i+1) _ _ _ (j_ i) (.lb ((aJ (rX (jH o) σ (wlI 0 (O c)) t y)).map .iv)) e_ e_ A_ kg ag jg (sn t);rw[show((i+1:Nat):Int)=(i:Int)+1 by omega]at D;refine⟨S',u,R',A,g,p,r,aE K _ _ t6L0.eq_1 ?_,V,W⟩;have ef:rX (jH o) σ (wlI 0 (O c)) t y={fnI (jH o) y with mp:=eG (slF σ (wlI 0 (O c))),tm:=t}:=by unfold rX;rw[K_ hop]
   rw[ef]at D C ag;have es:(sk0 σ f).s=σ:=rfl;rw[es]at h2;have G:aZ (frM σ f.regs f.ins 0)≠[]:=fun e=>he (by unfold aZ TM.one at e;exact List.map_eq_nil_iff.1 e);have h7:acc a.jf (aZ (sk0 σ f).o)=.tsl a.jf (aZ (frM σ f.regs f.ins 0)):=lO _ G;unfold spB at Q;rw[h7]at Q;generalize gS1 8 28 (R.map aJ) d S4=S5 at *
   generalize gI (R.map aJ) d S4=jd5 at *
   generalize eG (slF σ (wlI 0 (O c)))=M at *
   generalize (R++[{fnI (jH o) y with mp:=M,tm:=t}]).map aJ=L5 at *
   have eo:(fnI (jH o) y).op=y.op:=rfl;rw[<-eo]at hop;generalize fnI (jH o) y=z at *
   rw[cV]at C fz E;rw[aS]at D;dsimp only at C D;generalize acc a.ji ((sk0 σ f).c.map aJ)=AC at *
   generalize (bG σ f.regs f.ins).length=CL at *
   generalize (bG σ f.regs f.ins).map aJ=CV at *
   generalize aZ (frM σ f.regs f.ins 0)=FR at *
   generalize bK O f.ins.length=RL at *
   have h5:(z.op==67)=true:=by simp[hop]
   simp(disch:=omega)only[go_sem,U,E,fz,h5,Q,h1,h9,h2,C,aC];exact X_ er D
  .obtain⟨a4,kg,ag,jg,C⟩:=I S2 (rX (jH o) σ (wlI 0 (O c)) .no y) ⟨O_ _,fun q b _ h=>h⟩;obtain⟨S',u,R',A,g,p,r,D,V,W⟩:=bEj hf hv hn hO hs P x0 x1 x2 x3 x4 x5 c0 c1 c2 c3 c4 c5 x12 x13 m (i+1) _ _ _ (j_ i) (.lb ((aJ (rX (jH o) σ (wlI 0 (O c)) .no y)).map .iv)) e_ z_ A_ kg ag jg (sn .no);rw[show((i+1:Nat):Int)=(i:Int)+1 by omega]at D;refine⟨S',u,R',A,g,p,r,aE K _ _ t6L0.eq_1 ?_,V,W⟩;have ef:rX (jH o) σ (wlI 0 (O c)) .no y=fnI (jH o) y:=by unfold rX;rw[I_ hop]
   rw[ef]at D C ag;generalize gS1 8 28 (R.map aJ) d S2=S5 at *
   generalize gI (R.map aJ) d S2=jd5 at *
   generalize (R++[fnI (jH o) y]).map aJ=L5 at *
   have eo:(fnI (jH o) y).op=y.op:=rfl;generalize fnI (jH o) y=z at *
   rw[cV]at C fz E;rw[aS]at D;rw[<-eo]at hop;generalize (bG σ f.regs f.ins).length=CL at *
   generalize (bG σ f.regs f.ins).map aJ=CV at *
   simp(disch:=omega)only[go_sem,U,E,fz,hop,C,aC];exact X_ er D
structure zK (f:VF) (v:TV) (σ:List Int) (n:Nat) (o:Nat->Int) (O:Nat->List Nat) (R:List VI) (t:Tag):Prop where
 bare:sP f
 reach:Reach f σ
 hn:(n:Int)=rwR σ f.regs f.ins
 col:aDs (plC σ f.regs f.ins) n o
 wan:jN n o=[]
 out:∀i,i<f.ins.length->∀x,x∈wlI 0 (O i)↔1<=x/\x<f.regs/\zB f.ins x i
 acc:aXt f σ o O R (bG σ f.regs f.ins).length
 val:v=.tup [.iv (.agg [.int .i64 f.fn,.int .i64 32,.int .i64 σ.length,.int .i64 f.nd,.int .i64 f.pr,.bool f.rs,.sl t (R.map aJ)]),.iv (.int .i64 σ.length),.iv (.int .i64 0)]
def noV:TV:=.tup [.iv (.agg [.int .i64 0,.int .i64 0,.int .i64 0,.int .i64 0,.int .i64 0,.bool false,.sl .nil []]),.iv (.int .i64 0),.iv (.int .i64 2)]
theorem bEk{fn rg sl nd pr:Int}{rs:Bool}{ti:Tag}{ins:List VI}(a:TM.Pure K 12 [.iv (.agg (gG fn rg sl nd pr rs ti ins))] z_):fP K 6 [.iv (.agg (gG fn rg sl nd pr rs ti ins))] (·=noV):=by
 refine fP.of ?_ rfl;unfold gG at *
 refine aT t6 rfl rfl ?_;simp(disch:=omega)only[t6,go_sem,aD a];rfl
theorem bL5{fn rg sl nd pr:Int}{rs:Bool}{ti:Tag}{ins:List VI}(d:ins.length<=1000000)(b:∀x∈ins,x.us.length<=999990/\cB x.tu x.us)(c:sI rg sl nd pr ins=false):TM.Pure K 12 [.iv (.agg (gG fn rg sl nd pr rs ti ins))] z_:=by
 have a:=aP9 fn rg sl nd pr rs ti ins d b;rw[c,I_ C_]at a;unfold gG at *
 refine aT t12 rfl rfl ?_;simp(disch:=omega)only[t12,go_sem,aD a]
theorem aQt(f:VF)(hr:f.regs<=110)(hn:f.ins.length<=100)(d:∀x∈f.ins,x.us.length<=1000/\cB x.tu x.us)(H:TM.Pure K 12 [.iv (.agg (kY f))] e_)(g:sP f):fP K 6 [.iv (.agg (kY f))] fun v=>∃σ n o O R t,zK f v σ n o O R t:=by
 have Y:FOK f:=⟨g,hn,hr,d⟩
 obtain⟨I,O,_,N,p⟩:=aQa (f:=f) A_ A_ (fun x z=>⟨by have:=(d x z).1;omega,(d x z).2⟩) g.chk;have J:SpS ((([aG.mp [] 0]:aA)++[aG.cells 43 false [j_ f.fn,j_ f.regs,j_ f.sl,j_ f.nd,j_ f.pr,.iv (.bool f.rs),.iv (.sl f.ti (f.ins.map aJ)),j_ 0,j_ 0,j_ 0,j_ 0,j_ 0,z_,k_,k_,.map 0,.iv (.sl (jL (bK O f.ins.length)) (bK O f.ins.length))]]).set 1 (spB ⟨1,0,0,0⟩ f (.sl (jL (bK O f.ins.length)) (bK O f.ins.length)) ⟨[],f.regs,[],[]⟩)) ⟨1,0,0,0⟩ f (.sl (jL (bK O f.ins.length)) (bK O f.ins.length)) ⟨[],f.regs,[],[]⟩ :=
  ⟨rfl,⟨[],0,rfl,fun n=>rfl,rfl⟩,fun h=>absurd rfl h,fun h=>absurd rfl h,fun h=>absurd rfl h,rfl⟩
 obtain⟨S1,a1,r,s1,k1,Z,u⟩:=aVe (a:=⟨1,0,0,0⟩) (σ:=[]) _ _ _ _ _ _ _ _ rfl J A_ A_ (fun x z=>⟨by have:=(d x z).1;omega,(d x z).2⟩) (fun _ _ _ _=>rfl);have s:=bR2 Y s1;rw[Z,u]at s;dsimp only at r s Z u;simp only[List.cons_append,List.nil_append]at r;unfold fP;unfold kY at *
 refine dJ K _ (fn:=t6) rfl rfl ?_;have hO:=fun i Q=>(p i Q).2.2;have D:∀i,i<f.ins.length->(wlI 0 (O i)).length<=100000:=fun i Q=>by have:=(p i Q).1.2;omega
 clear p;simp(disch:=omega)only[t6,go_sem,aD H,aD N,r];refine aBr (P:=fun q=>bR1 f (.sl (jL (bK O f.ins.length)) (bK O f.ins.length)) 1 0 S1 q.1 q.2) (aCv s fun v S' h=>by rw[aFh];exact h) fun v S2 h=>?_;obtain⟨⟨σ,n,o,a,rfl,s2,W,w,m,y,A,hw⟩,k2⟩:=h;have hσ:=m.ok.len;have C:=s2.app [.cells 27 false [.iv (.sl .no (TM.one (.int .i64) ((List.range n).map o)))]];have b3:=cN S2 (.cells 27 false [.iv (.sl .no (TM.one (.int .i64) ((List.range n).map o)))]);have h3:=C.blk;have h1:=lF σ f.regs f.ins;have h2:=(qP g).1;have E:(bG σ f.regs f.ins).map aJ≠[]:=fun e=>by have:=X_ List.length e;rw[L_,List.length_nil]at this;omega
 obtain⟨S',h7,R',h8,h0,h4,h5,l6,k6,U⟩:=bEj Y m.ok.virt y (o:=o) D C b3 (.iv (.agg [.int .i64 f.fn,.int .i64 f.regs,.int .i64 f.sl,.int .i64 f.nd,.int .i64 f.pr,.bool f.rs,.sl f.ti (f.ins.map aJ)])) (.lb [j_ f.fn,j_ f.regs,j_ f.sl,j_ f.nd,j_ f.pr,.iv (.bool f.rs),.iv (.sl f.ti (f.ins.map aJ))]) (.lb [j_ 0,j_ 0,j_ 0,j_ 0,j_ 0,z_,k_]) (j_ 0) (j_ 0) (.iv (.sl (jL (bK O f.ins.length)) (bK O f.ins.length))) (j_ f.fn) (j_ 32) (j_ σ.length) (j_ f.nd) (j_ f.pr) (.iv (.bool f.rs)) z_ z_ (bG σ f.regs f.ins).length 0 _ 0 [] u_ u_ u_ u_ A_ ⟨O_ _,fun q b _ h=>h⟩ (fun h=>absurd rfl h) (fun h=>absurd rfl h) ⟨rfl,fun k hk=>absurd hk (R4 _)⟩;rw[n0_,show([]:List VI).map aJ=[] from rfl,mB,W]at l6;have V:=C.kp k6;have T:=V.blk;have j:∀ {S:aA},SpS S a f (.sl (jL (bK O f.ins.length)) (bK O f.ins.length)) (sk0 σ f)->rZ .mp S (.map 0)=some (j_ σ.length):=fun {S} hs=>by
  obtain⟨l,c,u,_,m3⟩:=hs.map;rw[w]at u;have:(mpR kC l).length=σ.length:=by rw[aLp,m3];rfl
  simp[rZ,zM,lenOf,u,this];rfl
 have F:R'.map aJ≠[]:=fun e=>by have:=X_ List.length e;rw[L_,U.len,List.length_nil]at this;omega
 have e3:=j C;have e6:=j V;have G:acc a.ji ((sk0 σ f).c.map aJ)=.tsl a.ji ((bG σ f.regs f.ins).map aJ):=lO _ E;have L:((bG σ f.regs f.ins).map aJ).length=(bG σ f.regs f.ins).length:=L_ _;unfold spB at h3 T;rw[G,W,w]at h3 T;generalize hRL:bK O f.ins.length=RL at *
 simp(disch:=omega)only[go_sem,h3,e3,L];rw[l6,lO _ F];simp(disch:=omega)only[go_sem,T,e6];exact bE ⟨_,rfl,⟨σ,n,o,O,R',_,⟨g,m,y,A,hw,hO,U,rfl⟩⟩⟩
theorem bUl{fn rg sl nd pr:Int}{rs:Bool}{ti:Tag}{ins:List VI}(k:rg<=110)(g:ins.length<=100)(a:∀x∈ins,x.us.length<=1000/\cB x.tu x.us):fP K 6 [.iv (.agg (gG fn rg sl nd pr rs ti ins))] fun v=>v=noV\/∃f:VF,f.ins=ins/\FOK f/\∃σ n o O R t,zK f v σ n o O R t:=by
 have c:∀x∈ins,x.us.length<=999990/\cB x.tu x.us:=fun x i=>⟨by have:=(a x i).1;omega,(a x i).2⟩
 cases hc:sI rg sl nd pr ins with
 |false=>exact fP.mono (bEk (bL5 A_ c hc)) fun v h=>.inl h
 |true =>
  have j:(32:Int)<=rg:=by unfold sI at hc;simp only[P_,q_]at hc;exact hc.1.1
  obtain⟨r,rfl⟩:=H3 (show 0<=rg by omega);obtain⟨b,d,e⟩:=aQf ⟨fn,r,sl,nd,pr,rs,ti,ins⟩ (by dsimp only;omega) (by dsimp only;omega) c;cases b with
  |false=>exact fP.mono (bEk d) fun v h=>.inl h
  |true=>exact fP.mono (aQt ⟨fn,r,sl,nd,pr,rs,ti,ins⟩ (by dsimp only;omega) g a d (e rfl)) fun v h=>.inr ⟨_,rfl,⟨e rfl,g,by dsimp only;omega,a⟩,h⟩
def isB(b:Bool):Out (TV×aA)->Bool
 |.ret (.iv (.bool c),_)=>c==b
 |_=>false
theorem aMs{n f:Nat}{a:Tn_}{b:Bool}(h:isB b ((ex K n).call f a [])=true):TM.Pure K f a (.iv (.bool b)):=by
 unfold isB at h;split at h;.rename_i c S e;refine⟨_,S,aRo e,?_⟩;rw[eq_of_beq h];rfl
 .cases h
def gI1:VI:=⟨64,32,4,0,0,0,.nil,[],.nil,[]⟩
def gIc:VI:=⟨67,4,0,0,8,0,.nil,[],.nil,[]⟩
def gI2:List VI:=[⟨64,33,4,0,0,0,.nil,[],.nil,[]⟩,⟨64,4,32,0,0,0,.nil,[],.nil,[]⟩,⟨64,5,33,0,0,0,.nil,[],.nil,[]⟩,⟨68,0,0,0,-1,0,.full,[4,5],.nil,[]⟩]
def fT:VF:=⟨0,34,0,0,0,false,.no,gI1::gIc::gI2⟩
def fF:VF:=⟨0,34,0,0,0,false,.no,gI1::gI2⟩
theorem bPw:TM.Pure K 12 [.iv (.agg (kY fT))] e_:=aMs (n:=60) (by kernel_rfl)
theorem bPx:TM.Pure K 12 [.iv (.agg (kY fF))] e_:=aMs (n:=60) (by kernel_rfl)
def aHb(Q:List VI)(T:List (List Int)):Bool:=(List.range Q.length).all fun k=>(bF (Q.getD k default)).all (fun w=>decide (w∈T.getD k []))&&(mD Q k).all fun k'=>(T.getD k'.toNat []).all fun w=>decide (w∈aY (Q.getD k default))||decide (w∈T.getD k [])
def bUm(l:List Int):List Int->List Int
 |[]=>l
 |x::m=>bUm (if x∈l then l else x::l) m
def bUn(Q:List VI)(T:List (List Int)):List (List Int):=(List.range Q.length).map fun k=>bUm (bF (Q.getD k default)) ((mD Q k).flatMap fun k'=>(T.getD k'.toNat []).filter fun w=>decide (w∉aY (Q.getD k default)))
def itT(Q:List VI):Nat->List (List Int)
 |0=>[]
 |n+1=>bUn Q (itT Q n)
theorem bR4{Q:List VI}{T:List (List Int)}(h:aHb Q T=true){w:Int}{k:Nat}(c:LvR Q w k):w∈T.getD k []:=by
 have b:∀k,k<Q.length->(∀w∈bF (Q.getD k default),w∈T.getD k [])/\∀k'∈mD Q k,∀w∈T.getD k'.toNat [],w∈aY (Q.getD k default)\/w∈T.getD k []:=fun k b=>by have a:=C6.1 h k (C5.2 b);simp only[P_,C6,D3,q_]at a;exact a
 have out:∀k,¬k<Q.length->Q.getD k default=default:=fun k h=>by rw[W_,B5 A_];rfl
 induction c with
 |@use k a =>
  by_cases hq:k<Q.length;.exact(b k hq).1 _ a
  .rw[out k hq]at a;cases a
 |@step k k' a _ h3 ih =>
  by_cases hq:k<Q.length
  .rcases(b k hq).2 k' a _ ih with h4|h4;.exact absurd h4 h3
   .exact h4
  .unfold mD at a;rw[out k hq]at a;have e:¬(((default:VI).op=68)\/(default:VI).op=72):=C_;have e2:¬((26<=(default:VI).op/\(default:VI).op<=31)\/(default:VI).op=66):=C_;rw[I_ e,I_ e2,I_ A_]at a;cases a
def bUo(Q:List VI)(T:List (List Int))(i:Nat):List Int:=(mD Q i).flatMap fun k=>T.getD k.toNat []
def aXu(Q:List VI)(T:List (List Int))(m:Int):List Int:=(List.range Q.length).flatMap fun i=>(aY (Q.getD i default)).flatMap fun d=>(aY (Q.getD i default)++bUo Q T i).flatMap fun w=>if w=d then []else(if d=m then [w]else [])++(if w=m then [d]else [])
theorem aXv{a b c d:Int}(h:prP a b=prP c d):(a=c/\b=d)\/(a=d/\b=c):=by unfold prP at h;split at h<;>split at h<;>simp only[B7]at h<;>omega
theorem aXw{Q:List VI}{T:List (List Int)}(h:aHb Q T=true){m t:Int}(f:aFz Q m t):t∈aXu Q T m:=by
 obtain⟨i,j,d,w,e,a,h3,_,c⟩:=f;refine H7.2 ⟨i,C5.2 j,H7.2 ⟨d,e,H7.2 ⟨w,?_,?_⟩⟩⟩
 .rcases a with a|⟨k,g,l⟩;.exact G4 _ a
  .exact G0 _ (H7.2 ⟨k,g,bR4 h l⟩)
 .rw[I_ h3];rcases aXv c with⟨b,e2⟩|⟨b,e2⟩;.rw[K_ b.symm];simp[e2]
  .rw[K_ b.symm];simp[e2]
theorem qS{Q:List VI}{T:List (List Int)}(h:aHb Q T=true){n:Nat}{o:Tg_}(f:aDs Q n o){m:Nat}(k:32<=m)(g:m<n)(v:Int)(q:(aXu Q T m).all (fun t=>decide (t=v)||decide (3<=t/\t<32))=true):¬o m<0:=by
 intro j;have r:o m = -1:=by have:=f.virt m k g;omega
 have s:=f.spill m k g r;have one:∀d:Nat,1<=d->d<=2->0<=v/\o v.toNat=d:=fun d c p=>by
  obtain⟨t,l,i⟩:=s d c A_;have:=C6.1 q _ (aXw h l);simp only[D3,q_]at this;rcases this with e|⟨e2,e3⟩;.rw[<-e,Int.toNat_natCast];exact⟨by omega,i⟩
  .rw[f.mach t A_]at i;omega
 have a:=(one 1 A_ A_).2;have b:=(one 2 A_ A_).2;rw[a]at b;omega
theorem aQu{n:Nat}{o:Tg_}{p:Tj_}(h:∀m,m<n->(o m<0↔p m=true)):jN n o=((List.range n).filter p).map fun i:Nat=>(i:Int):=by
 unfold jN aBy;rw[L_,F8];congr 1;refine V4 fun m b=>?_;have a:=C5.1 b;have e:((List.range n).map o).getD m 0=o m:=by rw[W_,p_,F0 a];rfl
 rw[e];cases hp:p m with
 |true=>exact V_ ((h m a).2 hp)
 |false=>exact l_ fun c=>by rw[(h m a).1 c]at hp;cases hp
theorem aJ3{Q:List VI}{n:Nat}{o:Tg_}(a:aDs Q n o){m:Nat}(h:m<32):¬o m<0:=by rw[a.mach m h];omega
theorem rwF:rwR [] 34 fF.ins=34:=by kernel_rfl
theorem bUp:aHb (plC [] 34 fF.ins) (itT (plC [] 34 fF.ins) 8)=true:=by kernel_rfl
theorem bUq:(aXu (plC [] 34 fF.ins) (itT (plC [] 34 fF.ins) 8) 32).all (fun t=>decide (t=33)||decide (3<=t/\t<32))=true:=by kernel_rfl
theorem bUr:(aXu (plC [] 34 fF.ins) (itT (plC [] 34 fF.ins) 8) 33).all (fun t=>decide (t=32)||decide (3<=t/\t<32))=true:=by kernel_rfl
theorem bWa{n:Nat}{o:Tg_}(d:(n:Int)=rwR [] fF.regs fF.ins)(b:aDs (plC [] fF.regs fF.ins) n o):jN n o=[]:=by
 have e:rwR [] fF.regs fF.ins=34:=rwF;obtain rfl:n=34:=A_;rw[aQu (p:=fun _=>false) fun m c=>?_];.rfl
 .refine⟨fun a=>?_,fun a=>by cases a⟩;by_cases h32:m<32;.exact absurd a (aJ3 b h32)
  .rcases(by omega:m=32\/m=33)with rfl|rfl;.exact absurd a (qS bUp b A_ A_ 33 bUq)
   .exact absurd a (qS bUp b A_ A_ 32 bUr)
theorem bR5{σ:Ta_}(h:Reach fF σ):σ=[]:=by
 induction h with
 |nil=>rfl
 |step _ hn hc h0 ih =>subst ih;exact absurd (bWa hn hc) h0
theorem bWb:rwR [] 34 fT.ins=34:=by kernel_rfl
theorem bUs:aHb (plC [] 34 fT.ins) (itT (plC [] 34 fT.ins) 8)=true:=by kernel_rfl
theorem bUt:(aXu (plC [] 34 fT.ins) (itT (plC [] 34 fT.ins) 8) 33).all (fun t=>decide (t=32)||decide (3<=t/\t<32))=true:=by kernel_rfl
theorem bUu:LvR (plC [] 34 fT.ins) 32 2:=.step (k:=3) (by decide +kernel) (.use (by decide +kernel)) (by decide +kernel)
theorem bUv{d:Nat}(a:1<=d)(b:d<=24):aFz (plC [] 34 fT.ins) (32:Nat) d:=by
 refine⟨1,by decide +kernel,d,32,?_,.inr ⟨2,by decide +kernel,bUu⟩,by omega,fun h=>?_,bC0 _ _⟩
 .have h3:∀d:Fin 25,1<=d.1->((d.1:Int))∈aY ((plC [] 34 fT.ins).getD 1 default):=by decide +kernel
  exact h3 ⟨d,by omega⟩ a
 .exact absurd h.1 (by decide +kernel)
theorem bPy{n:Nat}{o:Tg_}(i:(n:Int)=rwR [] fT.regs fT.ins)(b:aDs (plC [] fT.regs fT.ins) n o):jN n o=[32]:=by
 have e:rwR [] fT.regs fT.ins=34:=bWb;obtain rfl:n=34:=A_;have c:o 32 = -1:=by
  rcases b.virt 32 A_ A_ with h|⟨h1,h2⟩;.exact h
  .obtain⟨d,f⟩:=H3 (show 0<=o 32 by omega);exact b.edge 32 d A_ A_ (bUv A_ A_) (by rw[b.mach d A_];exact f)
 rw[aQu (p:=fun m=>m==32) fun m g=>?_];.rfl
 .by_cases hm32:m<32;.exact⟨fun a=>absurd a (aJ3 b hm32),fun a=>by rw[eq_of_beq a]at hm32;omega⟩
  .rcases(by omega:m=32\/m=33)with rfl|rfl;.exact⟨fun _=>rfl,fun _=>by rw[c];decide⟩
   .refine⟨fun a=>?_,fun a=>by cases a⟩;exact absurd a (qS bUs b A_ A_ 32 bUt)
theorem bWc:rwR [32] 34 fT.ins=36:=by kernel_rfl
theorem aVk:aHb (plC [32] 34 fT.ins) (itT (plC [32] 34 fT.ins) 12)=true:=by kernel_rfl
theorem nbT:[(32,0),(33,35),(34,0),(35,33)].all (fun p:Int×Int=>(aXu (plC [32] 34 fT.ins) (itT (plC [32] 34 fT.ins) 12) p.1).all (fun t=>decide (t=p.2)||decide (3<=t/\t<32)))=true:=by kernel_rfl
theorem bUw{n:Nat}{o:Tg_}(f:(n:Int)=rwR [32] fT.regs fT.ins)(b:aDs (plC [32] fT.regs fT.ins) n o):jN n o=[]:=by
 have e:rwR [32] fT.regs fT.ins=36:=bWc;obtain rfl:n=36:=A_;have c:=C6.1 nbT;rw[aQu (p:=fun _=>false) fun m d=>?_];.rfl
 .refine⟨fun a=>?_,fun a=>by cases a⟩;by_cases h32:m<32;.exact absurd a (aJ3 b h32)
  .rcases(by omega:m=32\/m=33\/m=34\/m=35)with rfl|rfl|rfl|rfl;.exact absurd a (qS aVk b A_ A_ 0 (c (32,0) B_))
   .exact absurd a (qS aVk b A_ A_ 35 (c (33,35) B_))
   .exact absurd a (qS aVk b A_ A_ 0 (c (34,0) B_))
   .exact absurd a (qS aVk b A_ A_ 33 (c (35,33) B_))
theorem bR6{σ:Ta_}(h:Reach fT σ):σ=[]\/σ=[32]:=by
 induction h with
 |nil=>exact .inl rfl
 |step _ hn hc h0 ih =>
  rcases ih with rfl|rfl;.rw[bPy hn hc];exact .inr (by decide +kernel)
  .exact absurd (bUw hn hc) h0
def S5T:aA:=match(ex K 30).call 5 [.iv (.bool true)] []with | .ret r=>r.2|_=>[]
def A5(j v n:Nat):TV:=.agg [.iv (.int .i64 0),.iv (.int .i64 34),.iv (.int .i64 0),.iv (.int .i64 0),.iv (.int .i64 0),.iv (.bool false),.msl j v 0 n n 8]
def aXx(S:aA)(A:TV):aA:=(cJ S [A]).getD []
def S5F:aA:=match(ex K 30).call 5 [.iv (.bool false)] (aXx S5T (A5 1 1 6))with | .ret r=>r.2|_=>[]
theorem bR7:(lim K).call 5 [e_] []=.ret (A5 1 1 6,S5T):=aRo (n:=30) (by kernel_rfl)
theorem bR8:(lim K).call 5 [z_] (aXx S5T (A5 1 1 6))=.ret (A5 3 0 5,S5F):=aRo (n:=30) (by kernel_rfl)
theorem bL6:cY S5T [A5 1 1 6]=some [.iv (.agg (kY fT))]:=by kernel_rfl
theorem bL7:cY S5F [A5 3 0 5]=some [.iv (.agg (kY fF))]:=by kernel_rfl
theorem ao7(a b c d e f g h:IV):fY (.iv (.cp [a,b,c,d,e,f,g,h])) 7=some (.iv (.cp [h])):=by simp[fY]
theorem bUx:cJ S5T [A5 1 1 6]=some (aXx S5T (A5 1 1 6)):=by kernel_rfl
theorem bUy:cJ S5F [A5 3 0 5]=some (aXx S5F (A5 3 0 5)):=by kernel_rfl
theorem bEl{fn rg sl nd pr:Int}{rs:Bool}{ti:Tag}{ins:List VI}(x0:TV):∀(m i:Nat) (x4 x5:TV),i+m=min ins.length 100->(∀x∈ins.take i,x.us.length<=12) ->∃(j:aW) (b:Bool) (p n q:TV),lp' (lim K) t10L0 [x0,.lb [j_ fn,j_ rg,j_ sl,j_ nd,j_ pr,.iv (.bool rs),.iv (.sl ti (ins.map aJ))],z_,j_ i,x4,x5] [] = .ret (j,[x0,.lb [j_ fn,j_ rg,j_ sl,j_ nd,j_ pr,.iv (.bool rs),.iv (.sl ti (ins.map aJ))],.iv (.bool b),p,n,q],[])/\(j=.exit 0/\b=false/\(∀x∈ins.take (min ins.length 100),x.us.length<=12)\/j=.ret/\b=true)
 |0,i,x4,x5,h,hq=>by
  have z:i=min ins.length 100:=A_;refine⟨.exit 0,false,j_ i,z_,x5,aE K _ _ t10L0.eq_1 ?_,.inl ⟨rfl,rfl,by rw[<-z];exact hq⟩⟩;have k:(ins.map aJ).length=ins.length:=L_ _;by_cases h1:i<ins.length;.have u:i=100:=A_;subst u;have h3:((100:Nat):Int)<(ins.length:Int):=A_;simp(disch:=omega)only[go_sem,k,h3]
  .have h3:¬((i:Int)<(ins.length:Int)):=A_;simp(disch:=omega)only[go_sem,k,h3]
 |m+1,i,x4,x5,h,hq=>by
  have c:i<ins.length:=A_;have a:(i:Int)<100:=A_;have k:(ins.map aJ).length=ins.length:=L_ _;have d:=gC (w:=8) (f:=aJ) eZ (t:=ti) (l:=ins) (i:=(i:Int)) A_;rw[Int.toNat_natCast,cV]at d;have A:=bQ c;have o:ins.take (i+1)=ins.take i++[ins.getD i default]:=by rw[M6 c];simp[List.getD,D_ c]
  have r:(TM.one (IV.int .i64) (ins.getD i default).us).length=(ins.getD i default).us.length:=TM.kB ..;generalize ins.getD i default=x at *
  by_cases h12:12<x.us.length;.have e:(x.us.length:Int)>12:=A_;refine⟨.ret,true,j_ i,e_,e_,aE K _ _ t10L0.eq_1 ?_,.inr ⟨rfl,rfl⟩⟩;simp(disch:=omega)only[go_sem,k,a,d,r,e]
  .have e:¬((x.us.length:Int)>12):=A_;obtain⟨j,b,p,n,q,s,v⟩:=bEl (fn:=fn) (rg:=rg) (sl:=sl) (nd:=nd) (pr:=pr) (rs:=rs) (ti:=ti) (ins:=ins) x0 m (i+1) e_ z_ A_ (by
    rw[o];intro y g;rcases a_.1 g with g|g;.exact hq y g
    .rw[U_]at g;rw[g];omega)
   rw[show((i+1:Nat):Int)=(i:Int)+1 by omega]at s;refine⟨j,b,p,n,q,aE K _ _ t10L0.eq_1 ?_,v⟩;simp(disch:=omega)only[go_sem,k,a,d,r,e,aC];exact X_ er s
theorem bR9(fn rg sl nd pr:Int)(rs:Bool)(ti:Tag)(ins:List VI):∃b,TM.Pure K 10 [.iv (.agg (gG fn rg sl nd pr rs ti ins))] (.iv (.bool b))/\(b=false->ins.length<=90/\rg<=100/\∀x∈ins,x.us.length<=12):=by
 obtain⟨j,b,l,k,m,c,i⟩:=bEl (fn:=fn) (rg:=rg) (sl:=sl) (nd:=nd) (pr:=pr) (rs:=rs) (ti:=ti) (ins:=ins) (.iv (.agg (gG fn rg sl nd pr rs ti ins))) (min ins.length 100) 0 u_ u_ A_ (fun x e=>by simp at e);rw[n0_]at c;have f:(ins.map aJ).length=ins.length:=L_ _;unfold gG at *
 rcases i with⟨rfl,rfl,g⟩|⟨rfl,rfl⟩
 .by_cases h90:ins.length<=90
  .by_cases h100:rg<=100;.refine⟨false,aT t10 rfl rfl ?_,fun _=>⟨h90,h100,fun x e=>g x (by rw[K5 A_];exact e)⟩⟩;have a:¬((ins.length:Int)>90):=A_;have d:¬(rg>100):=A_;simp(disch:=omega)only[t10,go_sem];rw[c];simp(disch:=omega)only[go_sem,f,a,d]
   .refine⟨true,aT t10 rfl rfl ?_,fun h=>by cases h⟩;have a:¬((ins.length:Int)>90):=A_;have d:rg>100:=A_;simp(disch:=omega)only[t10,go_sem];rw[c];simp(disch:=omega)only[go_sem,f,a,d]
  .refine⟨true,aT t10 rfl rfl ?_,fun h=>by cases h⟩;have a:(ins.length:Int)>90:=A_;simp(disch:=omega)only[t10,go_sem];rw[c];simp(disch:=omega)only[go_sem,f,a]
 .refine⟨true,aT t10 rfl rfl ?_,fun h=>by cases h⟩;simp(disch:=omega)only[t10,go_sem];rw[c];simp(disch:=omega)only[go_sem]
def pA(R:List VI):List Int:=R.flatMap fun x=>if x.op=67 then x.mp else []
def vG(R:List VI):Nat:=(R.filter fun x=>x.op==67).length
theorem aXy(R:List VI)(x:VI):pA (R++[x])=pA R++if x.op=67 then x.mp else []:=by unfold pA;rw[List.flatMap_append];simp
theorem aXz(R:List VI)(x:VI):vG (R++[x])=vG R+if x.op=67 then 1 else 0:=by unfold vG;rw[I5,H_];by_cases h:x.op=67<;>simp[h]
theorem aQv{cs:Tn_}{fn rg sl nd pr:Int}{rs:Bool}{ti:Tag}{R:List VI}(p:R.length<=1000)(g:∀x∈R,x.mp.length<=1000)(x0:TV):∀(m i:Nat) (x5 x6:TV),i+m=R.length->(pA (R.take i)).length<=i*1000 ->∃(n j:TV),lp' (lim K) t19L0 [x0,.lb [j_ fn,j_ rg,j_ sl,j_ nd,j_ pr,.iv (.bool rs),.iv (.sl ti (R.map aJ))],acc 0 (aZ (pA (R.take i))),j_ (vG (R.take i)),j_ i,x5,x6] (vH 1 3 (aZ (pA (R.take i)))) = .ret (.exit 0,[x0,.lb [j_ fn,j_ rg,j_ sl,j_ nd,j_ pr,.iv (.bool rs),.iv (.sl ti (R.map aJ))],acc 0 (aZ (pA R)),j_ (vG R),j_ R.length,n,j],vH 1 3 (aZ (pA R)))
 |0,i,x5,x6,h,hl=>by
  obtain rfl:i=R.length:=A_;rw[B9]at *
  have a:(R.map aJ).length=R.length:=L_ _;refine⟨z_,x6,aE K _ _ t19L0.eq_1 ?_⟩;simp(disch:=omega)only[go_sem,a]
 |m+1,i,x5,x6,h,hl=>by
  have d:i<R.length:=A_;have a:(R.map aJ).length=R.length:=L_ _;have e:=gC (w:=8) (f:=aJ) eZ (t:=ti) (l:=R) (i:=(i:Int)) A_;rw[Int.toNat_natCast,cV]at e;have u:=bQ d;have o:R.take (i+1)=R.take i++[R.getD i default]:=by rw[M6 d];simp[List.getD,D_ d]
  have c:=aXy (R.take i) (R.getD i default);have e2:=aXz (R.take i) (R.getD i default);rw[<-o]at c e2;have s:(vG (R.take i))<=i:=by unfold vG;have:=D8 (fun x:VI=>x.op==67) (R.take i);rw[K0]at this;omega
  have r:=g _ u;generalize R.getD i default=x at *
  by_cases hop:x.op=67
  .rw[K_ hop]at c e2;have q:=bI1 (w:=1) (b:=8) (el:=3) (x:=.iv (.sl x.tm (TM.one (.int .i64) x.mp))) (ys:=aZ x.mp) (fun S=>rO.sl ..) (nB _) (nB (pA (R.take i))) (bR (by rw[eK,eK];omega));rw[show aZ (pA (R.take i))++aZ x.mp=aZ (pA (R.take i)++x.mp) by simp[aZ,TM.one],<-c]at q;obtain⟨n,j,k⟩:=aQv (cs:=cs) (fn:=fn) (rg:=rg) (sl:=sl) (nd:=nd) (pr:=pr) (rs:=rs) (ti:=ti) p g x0 m (i+1) e_ e_ A_ (by rw[c,H_];omega);rw[show((i+1:Nat):Int)=(i:Int)+1 by omega,e2,show((vG (R.take i)+1:Nat):Int)=(vG (R.take i):Int)+1 by omega]at k;refine⟨n,j,aE K _ _ t19L0.eq_1 ?_⟩;generalize vG (R.take i)=cn at *
   generalize aZ (pA (R.take i))=A at *
   generalize aZ (pA (R.take (i+1)))=B at *
   simp(disch:=omega)only[go_sem,a,e,hop,ao7,q,aC];exact X_ er k
  .rw[I_ hop]at c e2;rw[A4]at c;obtain⟨n,j,k⟩:=aQv (cs:=cs) (fn:=fn) (rg:=rg) (sl:=sl) (nd:=nd) (pr:=pr) (rs:=rs) (ti:=ti) p g x0 m (i+1) e_ z_ A_ (by rw[c];omega);rw[show((i+1:Nat):Int)=(i:Int)+1 by omega,c,e2,Nat.add_zero]at k;refine⟨n,j,aE K _ _ t19L0.eq_1 ?_⟩;generalize vG (R.take i)=cn at *
   generalize aZ (pA (R.take i))=A at *
   simp(disch:=omega)only[go_sem,a,e,hop,aC];exact X_ er k
theorem bSa(fn rg sl nd pr:Int)(rs:Bool)(ti:Tag){R:List VI}(c:R.length<=1000)(a:∀x∈R,x.mp.length<=1000):∃t,TM.Pure K 19 [.iv (.agg (gG fn rg sl nd pr rs ti R))] (.tup [.iv (.sl t (aZ (pA R))),j_ (vG R)]):=by
 obtain⟨e,d,b⟩:=aQv (cs:=[]) (fn:=fn) (rg:=rg) (sl:=sl) (nd:=nd) (pr:=pr) (rs:=rs) (ti:=ti) c a (.iv (.agg (gG fn rg sl nd pr rs ti R))) R.length 0 u_ u_ A_ (by simp[pA]);rw[n0_,show pA (R.take 0)=[] from rfl,show((vG (R.take 0):Nat):Int)=0 from rfl,show aZ []=[] from rfl,mB,aFl]at b;refine⟨jL (aZ (pA R)),?_⟩
 .unfold gG at *
  refine aT t19 rfl rfl ?_;simp(disch:=omega)only[t19,go_sem];rw[b];simp(disch:=omega)only[go_sem,aI2]
theorem aCi(g:Int->Int)(σ W:Ta_)(t:Tag)(y:VI):(rX g σ W t y).op=y.op/\(rX g σ W t y).im=y.im/\(rX g σ W t y).lb=y.lb:=by unfold rX;split<;>exact⟨rfl,rfl,rfl⟩
theorem aVl(a:Int):∀W:List Int,W.Pairwise (·<·)->slF [a] W=if a∈W then [0]else []
 |[],_=>by simp[slF]
 |x::W,h=>by
  rw[E6]at h;have c:=aVl a W h.2;have e:slF [a] (x::W)=(match bV [a] x with|some q=>[(q:Int)]|none=>[])++slF [a] W:=by unfold slF;cases h:bV [a] x<;>simp[List.filterMap_cons,h]
  rw[e,c];by_cases hx:a=x
  .subst hx;have:bV [a] a=some 0:=by simp[bV]
   rw[this,I_ (fun b=>by have:=h.1 a b;omega),K_ (N5 ..)];rfl
  .have:bV [a] x=none:=by simp[bV,hx]
   rw[this];by_cases b:a∈W;.rw[K_ b,K_ (M5 _ b)];rfl
   .rw[I_ b,I_ (fun h=>by rcases J_.1 h with h|h;exact hx h;exact b h)];rfl
theorem aVm:(bG [32] 34 fT.ins).length=8:=by kernel_rfl
theorem bWd:(bG [32] 34 fT.ins).map (·.op)=[64,74,67,64,73,64,64,68]:=by kernel_rfl
theorem frT:(frM [32] 34 fT.ins 0).getD 2 0=1:=by kernel_rfl
theorem bWe:zB fT.ins 32 1:=⟨2,by decide +kernel,.step (k:=3) (by decide +kernel) (.use (by decide +kernel)) (by decide +kernel)⟩
theorem bUz{α:Type}{R:List α}(h:R.length=8):∃a b c d e f g i,R=[a,b,c,d,e,f,g,i]:=by
 match R,h with
 |[a,b,c,d,e,f,g,i],_=>exact⟨a,b,c,d,e,f,g,i,rfl⟩
theorem bSb{v:TV}{σ:Ta_}{n:Nat}{o:Tg_}{O:Te_}{R:List VI}{t:Tag}(h:zK fT v σ n o O R t):v=.tup [.iv (.agg (gG 0 32 1 0 0 false t R)),j_ 1,j_ 0]/\R.length<=1000/\(∀x∈R,x.op=67->x.mp=[0])/\pA R=[0]/\vG R=1:=by
 have C:σ=[32]:=by
  rcases bR6 h.reach with rfl|rfl;.have:=bPy h.hn h.col;rw[h.wan]at this;cases this
  .rfl
 subst C;have y:R.length=8:=by rw[h.acc.len];exact aVm
 have op:∀k,k<8->(R.getD k default).op=((bG [32] 34 fT.ins).getD k default).op:=fun k b=>by obtain⟨t,e⟩:=h.acc.at_ k (by show k<(bG [32] 34 fT.ins).length;rw[aVm];exact b);rw[e];exact(aCi ..).1
 have c:∀k,k<8->((bG [32] 34 fT.ins).getD k default).op=[64,74,67,64,73,64,64,68].getD k 0:=fun k b=>by rw[<-bWd,W_,W_,p_];rw[D_ (by rw[aVm];exact b)];rfl
 have f:(R.getD 2 default).mp=[0]:=by
  obtain⟨t,e⟩:=h.acc.at_ 2 (by show 2<(bG [32] 34 fT.ins).length;rw[aVm];omega);rw[e];unfold rX;have d:((bG [32] fT.regs fT.ins).getD 2 default).op=67:=c 2 A_;rw[K_ d];show eG (slF [32] (wlI 0 (O ((frM [32] fT.regs fT.ins 0).getD 2 0).toNat)))=[0]
  rw[show(frM [32] fT.regs fT.ins 0).getD 2 0=1 from frT,show((1:Int)).toNat=1 from rfl,aVl _ _ (aC4 ..),K_ ((h.out 1 C_ 32).2 ⟨by omega,by decide,bWe⟩)];rfl
 have a:=fun k b=>(op k b).trans (c k b);obtain⟨z,A,a2,a3,a4,a5,a6,a7,rfl⟩:=bUz y;have j:z.op=64:=a 0 A_;have r:A.op=74:=a 1 A_;have q:a2.op=67:=a 2 A_;have p:a3.op=64:=a 3 A_;have u:a4.op=73:=a 4 A_;have m:a5.op=64:=a 5 A_;have l:a6.op=64:=a 6 A_;have i:a7.op=68:=a 7 A_;have g:a2.mp=[0]:=f;refine⟨h.val,by simp,fun x s w=>?_,by simp[pA,j,r,q,p,u,m,l,i,g],by simp[vG,j,r,q,p,u,m,l,i]⟩;simp only[J_,D5,I4]at s;rcases s with rfl|rfl|rfl|rfl|rfl|rfl|rfl|rfl<;>first|exact g|omega
theorem mpT{v:TV}{σ:Ta_}{n:Nat}{o:Tg_}{O:Te_}{R:List VI}{t:Tag}{f:VF}(i:sP f)(h:zK f v σ n o O R t):∀x∈R,x.op≠67->x.mp=[]:=fun x l a=>by
 obtain⟨k,b,rfl⟩:=H8 l
 have m:R.getD k default=R[k]:=by rw[W_,D_ b];rfl
 rw[<-m]at a |-
 obtain⟨t,e⟩:=h.acc.at_ k (by rw[<-h.acc.len];exact b)
 rw[e,(aCi ..).1]at a
 rw[e]
 unfold rX
 rw[I_ a]
 show((bG σ f.regs f.ins).getD k default).mp=[]
 obtain⟨c,j,g,d,rfl⟩:=eS (σ:=σ) (r:=f.regs) (ins:=f.ins) (by rw[<-h.acc.len];exact b)
 rw[aG3 g d]
 rcases jF (D_ d)with⟨_,_,w,q,_,_,e3⟩|⟨_,e3⟩|⟨_,q,w,_,_,_,e3⟩
 .rw[e3];rfl
 .rw[e3];exact(zH i (bQ g)).2.2.2.2.1
 .rw[e3];rfl
def bSc(x:VI):Bool:=match x.tu,x.us with | .nil,[]=>true | .nil,_::_=>false|_,_=>true
theorem bL8{x:VI}(h:bSc x=true):cB x.tu x.us:=fun e=>by
 unfold bSc at h
 rw[e]at h
 cases hu:x.us with
 |nil=>rfl
 |cons a l=>rw[hu]at h;cases h
theorem gus(l:List VI)(n:Nat)(h:l.all (fun x=>decide (x.us.length<=n)&&bSc x)=true):∀x∈l,x.us.length<=n/\cB x.tu x.us:=fun x a=>by
 have:=C6.1 h x a
 simp only[P_,q_]at this
 exact⟨this.1,bL8 this.2⟩
theorem bEm:sP fT:=by
 obtain⟨b,c,h⟩:=aQf fT C_ C_ (gus _ _ C_);obtain⟨r,S,d,e2⟩:=c;obtain⟨e,S',e3,a⟩:=bPw;rw[d]at e3;cases e3
 rw[e2]at a;refine h ?_;cases b
 .cases a
 .rfl
theorem bSd:sP fF:=by
 obtain⟨b,c,h⟩:=aQf fF C_ C_ (gus _ _ C_);obtain⟨r,S,d,e2⟩:=c;obtain⟨e,S',e3,a⟩:=bPx;rw[d]at e3;cases e3
 rw[e2]at a;refine h ?_;cases b
 .cases a
 .rfl
theorem alT:fP K 6 [.iv (.agg (kY fT))] fun v=>∃t R,v=.tup [.iv (.agg (gG 0 32 1 0 0 false t R)),j_ 1,j_ 0]/\R.length<=1000/\(∀x∈R,x.mp.length<=1000)/\pA R=[0]/\vG R=1 :=
 fP.mono (aQt fT C_ C_ (gus _ _ C_) bPw bEm) fun v ⟨σ,n,o,O,R,t,h⟩=>by
  obtain⟨b,d,h3,c,e⟩:=bSb h;refine⟨t,R,b,d,fun x a=>?_,c,e⟩;by_cases hop:x.op=67;.rw[h3 x a hop];simp
  .rw[mpT bEm h x a hop];simp
theorem alF:fP K 6 [.iv (.agg (kY fF))] fun v=>∃t R,v=.tup [.iv (.agg (gG 0 32 0 0 0 false t R)),j_ 0,j_ 0] :=
 fP.mono (aQt fF C_ C_ (gus _ _ C_) bPx bSd) fun v ⟨σ,n,o,O,R,t,h⟩=>by have a:=bR5 h.reach;subst a;exact⟨t,R,h.val⟩
theorem bU0:fP K 7 [] (·=e_):=by
 have d:pZ (A5 1 1 6)=true:=rfl;have a2:pZ (A5 3 0 5)=true:=rfl;have h:cA (A5 1 1 6)=false:=rfl;have l2:cA (A5 3 0 5)=false:=rfl;have e:=bEd h;have g:=bEd l2;simp only[qA]at e g;have j:∀q,mX q (A5 1 1 6)=A5 1 1 6:=fun q=>rfl;have k:∀q,mX q (A5 3 0 5)=A5 3 0 5:=fun q=>rfl;have p:=bR7;have r:=bR8;have w:=bL6;have m:=bL7;have n:=bUx;have u:=bUy;generalize aXx S5T (A5 1 1 6)=F1 at *
 generalize aXx S5F (A5 3 0 5)=F2 at *
 have c:∀(a0 d a2 a3 a4 b:Int) (b0:Bool) (t:Tag) (l:M_),fW (.tup [.iv (.agg [.int .i64 a0,.int .i64 d,.int .i64 a2,.int .i64 a3,.int .i64 a4,.bool b0,.sl t l]),j_ b,j_ 0])=false:=fun _ _ _ _ _ _ _ _ _=>by simp[fW,iP]
 generalize A5 1 1 6=A1 at *
 generalize A5 3 0 5=A2 at *
 generalize S5T=S1 at *
 generalize S5F=S2 at *
 have f:∀t,indexAddrS 1 (.iv (.sl t [[.int .i64 0]])) 0=some (.iv (.cp [.int .i64 0])):=fun t=>rfl;unfold fP;refine dJ K _ (fn:=t7) rfl rfl ?_;simp (config := { maxSteps := 4000000 })(disch:=omega)only[t7,go_sem,p,w,d,h,e,j];refine nS alT ?_;rintro v ⟨t,R,rfl,o,i,s,x⟩;obtain⟨t2,a⟩:=bSa 0 32 1 0 0 false t o i;rw[s,x,show((1:Nat):Int)=1 from rfl,show aZ [0]=[[.int .i64 0]] from rfl]at a;unfold gG at *
 simp (config := { maxSteps := 4000000 })(disch:=omega)only[go_sem,d,h,e,j,c,n,aD a,r,m,a2,l2,g,k];refine nS alF ?_;rintro v ⟨y,R3,rfl⟩;simp (config := { maxSteps := 4000000 })(disch:=omega)only[go_sem,gG,a2,l2,g,k,c,u,f];trace_state;exact bE ⟨_,rfl,rfl⟩
def bX(b:Bool):TV:=.iv (.bool b)
theorem bPz{C:List Bool}{i:Nat}(h:i<C.length):sub (C.map bX) i 1=some [.iv (.bool (C.getD i false))]:=by simp only[sub,L_,show i+1<=C.length by omega,↓reduceIte];rw[A6 (by simp;omega)];simp[bX,h,List.getD,D_ h]
theorem bU1{C:List Bool}{i:Nat}(x:Bool)(h:i<C.length):put (C.map bX) i [.iv (.bool x)]=(C.set i x).map bX:=by unfold put;rw[K9,K_ h];simp[bX]
def unm(C:List Bool):Nat:=(C.filter fun b=>!b).length
theorem aJ4:∀(C:List Bool) (i:Nat),i<C.length->C.getD i false=false->unm (C.set i true)+1=unm C
 |[],i,h,_=>by simp at h
 |b::C,0,h,hf=>by simp at hf;subst hf;simp[unm]
 |b::C,i+1,h,hf=>by have a:=aJ4 C i (by simpa using h) (by simpa using hf);unfold unm at a |-;rw[List.set_cons_succ,E4,E4];cases b<;>simp at a |-<;>omega
def sV(s:Int)(y:VI):Prop:=(y.op=74/\y.im=s)\/y.op=68\/y.op=72
inductive RdX (R:List VI) (s:Int):Nat->Prop
 |load {i:Nat} (h:(R.getD i default).op=73) (hs:(R.getD i default).im=s):RdX R s i
 |fall {i:Nat} (h:¬sV s (R.getD i default)) (h2:(R.getD i default).op≠66) (hr:RdX R s (i+1)):RdX R s i
 |jump {i j:Nat} (h:¬sV s (R.getD i default)) (h2:(26<=(R.getD i default).op/\(R.getD i default).op<=31)\/(R.getD i default).op=66) (hj:j<R.length) (h3:(R.getD j default).op=65) (h4:(R.getD j default).lb=(R.getD i default).lb) (hr:RdX R s j):RdX R s i
def mS(S:aA)(jm:Nat)(lo:Bool)(C:List Bool):aA:=S.set jm (.cells 0 lo (C.map bX))
section
variable {fn rg sl nd pr:Int}{rs:Bool}{t:Tag}{R:List VI}(hR:R.length<=1000){s:Int}{S:aA}{jm:Nat}(hjm:jm<S.length){lo:Bool}
include hR hjm
def aQw(fn rg sl nd pr:Int)(rs:Bool)(t:Tag)(R:List VI)(s:Int)(S:aA)(jm:Nat)(lo:Bool)(U:Nat):Prop:=∀(C:List Bool) (at_:Nat),C.length=R.length->unm C<=U->at_<=R.length ->
 ∃b C',(lim K).call 11 [.iv (.agg (gG fn rg sl nd pr rs t R)),.iv (.int .i64 s),.iv (.int .i64 at_),.msl jm 0 0 R.length R.length 1] (mS S jm lo C)=.ret (.iv (.bool b),mS S jm lo C')/\C'.length=R.length/\unm C'<=unm C/\(b=true->RdX R s at_)
theorem aCj{U:Nat}(p:aQw fn rg sl nd pr rs t R s S jm lo U)(op d a b E lb:Int)(x0 x2 v x8 x9 x10 x11 x14:TV)(F A:TV):∀(m j:Nat) (C:List Bool) (x12 x13:TV),j+m=R.length->C.length=R.length->unm C<=U ->∃(o:aW) (bb:Bool) (C':List Bool) (u g k:TV),lp' (lim K) t11L0 [x0,j_ s,x2,.msl jm 0 0 R.length R.length 1,.lb [j_ fn,j_ rg,j_ sl,j_ nd,j_ pr,.iv (.bool rs),.iv (.sl t (R.map aJ))],z_,.lb [j_ op,j_ d,j_ a,j_ b,j_ E,j_ lb,F,A],j_ j,x8,x9,x10,x11,x12,x13,x14] (mS S jm lo C) = .ret (o,[x0,j_ s,x2,.msl jm 0 0 R.length R.length 1,.lb [j_ fn,j_ rg,j_ sl,j_ nd,j_ pr,.iv (.bool rs),.iv (.sl t (R.map aJ))],.iv (.bool bb),.lb [j_ op,j_ d,j_ a,j_ b,j_ E,j_ lb,F,A],u,x8,x9,x10,x11,g,k,x14],mS S jm lo C')/\C'.length=R.length/\unm C'<=unm C /\(o=.exit 2/\bb=false\/o=.ret/\bb=true/\∃j,j<R.length/\(R.getD j default).op=65/\(R.getD j default).lb=lb/\RdX R s j)
 |0,j,C,x12,x13,h,hC,hU=>by obtain rfl:j=R.length:=A_;have x:(R.map aJ).length=R.length:=L_ _;refine⟨.exit 2,false,C,j_ R.length,z_,x13,aE K _ _ t11L0.eq_1 ?_,hC,O_ _,.inl ⟨rfl,rfl⟩⟩;simp (config := { maxSteps := 4000000 })(disch:=omega)only[go_sem,x]
 |m+1,j,C,x12,x13,h,hC,hU=>by
  have H:j<R.length:=A_;have x:(R.map aJ).length=R.length:=L_ _;have n:=gC (w:=8) (f:=aJ) eZ (t:=t) (l:=R) (i:=(j:Int)) A_;rw[Int.toNat_natCast,cV]at n;have L:R.getD j default=R.getD j default:=rfl;by_cases h65:(R.getD j default).op=65
  .by_cases hlb:(R.getD j default).lb=lb
   .obtain⟨bb,C1,r,D,I,J⟩:=p C j hC hU A_;unfold gG at r;cases bb with
    |true =>
     refine⟨.ret,true,C1,j_ j,e_,e_,aE K _ _ t11L0.eq_1 ?_,D,I,.inr ⟨rfl,rfl,j,H,h65,hlb,J rfl⟩⟩;have c:((R.getD j default).op==65)=true:=F5.2 h65;have e:((R.getD j default).lb==lb)=true:=F5.2 hlb;generalize R.getD j default=y at *
     simp (config := { maxSteps := 4000000 })(disch:=omega)only[go_sem,x,n,ao5,c,e,r]
    |false =>
     obtain⟨o,bb,C',u,g,k,q,z,G,h3⟩:=aCj p op d a b E lb x0 x2 v x8 x9 x10 x11 x14 F A m (j+1) C1 e_ z_ A_ D A_;rw[show((j+1:Nat):Int)=(j:Int)+1 by omega]at q;refine⟨o,bb,C',u,g,k,aE K _ _ t11L0.eq_1 ?_,z,by omega,h3⟩;have c:((R.getD j default).op==65)=true:=F5.2 h65;have e:((R.getD j default).lb==lb)=true:=F5.2 hlb;generalize R.getD j default=y at *
     simp (config := { maxSteps := 4000000 })(disch:=omega)only[go_sem,x,n,ao5,c,e,r,aC];exact X_ er q
   .obtain⟨o,bb,C',u,g,k,q,z,G,h3⟩:=aCj p op d a b E lb x0 x2 v x8 x9 x10 x11 x14 F A m (j+1) C e_ z_ A_ hC hU;rw[show((j+1:Nat):Int)=(j:Int)+1 by omega]at q;refine⟨o,bb,C',u,g,k,aE K _ _ t11L0.eq_1 ?_,z,G,h3⟩;have c:((R.getD j default).op==65)=true:=F5.2 h65;have e:((R.getD j default).lb==lb)=false:=S_.2 hlb;generalize R.getD j default=y at *
    simp (config := { maxSteps := 4000000 })(disch:=omega)only[go_sem,x,n,ao5,c,e,aC];exact X_ er q
  .obtain⟨o,bb,C',u,g,k,q,z,G,h3⟩:=aCj p op d a b E lb x0 x2 v x8 x9 x10 x11 x14 F A m (j+1) C e_ z_ A_ hC hU;rw[show((j+1:Nat):Int)=(j:Int)+1 by omega]at q;refine⟨o,bb,C',u,g,k,aE K _ _ t11L0.eq_1 ?_,z,G,h3⟩;have c:((R.getD j default).op==65)=false:=S_.2 h65;generalize R.getD j default=y at *
   simp (config := { maxSteps := 4000000 })(disch:=omega)only[go_sem,x,n,ao5,c,aC];exact X_ er q
theorem aHc{U:Nat}(w:∀(C:List Bool) (a:Nat) (x5 x6 x7 x8 x9 x10 x11 x12 x13 x14:TV), C.length=R.length->unm C<=U->a<=R.length->∃(i:aW) (b:Bool) (C':List Bool) (n m o q l f c d e g:TV), lp' (lim K) t11L1 [.iv (.agg (gG fn rg sl nd pr rs t R)), j_ s, j_ a, .msl jm 0 0 R.length R.length 1, .lb [j_ fn, j_ rg, j_ sl, j_ nd, j_ pr, .iv (.bool rs), .iv (.sl t (R.map aJ))], z_, x6, x7, x8, x9, x10, x11, x12, x13, x14] (mS S jm lo C) = .ret (i,[.iv (.agg (gG fn rg sl nd pr rs t R)),j_ s,n,.msl jm 0 0 R.length R.length 1,.lb [j_ fn,j_ rg,j_ sl,j_ nd,j_ pr,.iv (.bool rs),.iv (.sl t (R.map aJ))],.iv (.bool b),m,o,q,l,f,c,d,e,g],mS S jm lo C')/\C'.length=R.length/\unm C'<=unm C/\(i=.exit 0/\b=false\/i=.ret/\(b=true->RdX R s a))):aQw fn rg sl nd pr rs t R s S jm lo U:=fun C a v u h3=>by
  obtain⟨i,b,C',n,m,o,q,l,f,c,d,e,g,r,k,p,j⟩:=w C a u_ u_ u_ u_ u_ u_ u_ u_ u_ u_ v u h3
  unfold gG at *
  rcases j with⟨rfl,rfl⟩|⟨rfl,j⟩
  . refine⟨false,C',aI K _ (fn:=t11) rfl rfl ?_,k,p,fun h=>by cases h⟩
    simp(disch:=omega)only[t11,go_sem]
    rw[r]
    simp(disch:=omega)only[go_sem]
  . refine⟨b,C',aI K _ (fn:=t11) rfl rfl ?_,k,p,j⟩
    simp(disch:=omega)only[t11,go_sem]
    rw[r]
    simp(disch:=omega)only[go_sem]
end
theorem aVn{R:List VI}{k:Nat}(h:¬k<R.length):R.getD k default=default:=by rw[W_,B5 A_];rfl
theorem aJ5{R:List VI}{s:Int}{k:Nat}(h:RdX R s k):k<R.length:=by
 have b:(default:VI).op=0:=rfl;induction h with
 |@load i h _=>exact U5 fun a=>by rw[aVn a,b]at h;omega
 |fall _ _ _ ih=>omega
 |@jump i j _ h2 _ _ _ _ _=>exact U5 fun a=>by rw[aVn a,b]at h2;omega
theorem aX0{C:List VI}{j:Nat}(c:j<C.length)(h:(C.getD j default).op=65)(d:∀k,k<C.length->(C.getD k default).op=65->(C.getD k default).lb=(C.getD j default).lb->k=j):dL C (C.getD j default).lb=some (j:Int):=by
 unfold dL;have e:∀k (a:k<C.length),C[k]=C.getD k default:=fun k a=>by rw[W_,D_ a];rfl
 have:C.findIdx? (fun x=>decide (x.op=65)&&decide (x.lb=(C.getD j default).lb))=some j:=by
  rw[F4];refine⟨c,?_,fun k a=>?_⟩;.rw[e j c,V_ h,V_ rfl];rfl
  .rw[e k A_];intro b;simp only[P_,q_]at b;have:=d k A_ b.1 b.2;omega
 rw[this];rfl
theorem bEn{ins:List VI}(f:aDf ins){σ:Ta_}{r:Int}{k:Nat}(d:k<(bG σ r ins).length)(h:((bG σ r ins).getD k default).op=65):∃c,c<ins.length/\k=ofs σ r ins c+(bZ σ (cnt σ r ins c) (ins.getD c default)).length/\(ins.getD c default).op=65/\(ins.getD c default).lb=((bG σ r ins).getD k default).lb:=by
 obtain⟨c,j,b,a,rfl⟩:=eS d;rw[aG3 b a]at h |-;rcases jF (D_ a)with⟨_,_,_,_,_,_,e⟩|⟨hje,e⟩|⟨_,_,_,_,_,_,e⟩;.rw[e]at h;exact absurd h (by show ¬(73:Int)=65;decide)
 .rw[e]at h;exact⟨c,b,by rw[hje],h,by rw[e];rfl⟩
 .rw[e]at h;exact absurd h (by show ¬(74:Int)=65;decide)
theorem bL9{ins:List VI}(f:aDf ins){σ:Ta_}{r s:Int}{R:List VI}(y:R.length=(bG σ r ins).length)(c:∀k,k<R.length->(R.getD k default).op=((bG σ r ins).getD k default).op/\(R.getD k default).im=((bG σ r ins).getD k default).im/\(R.getD k default).lb=((bG σ r ins).getD k default).lb){k:Nat}(h:RdX R s k):Rdb (bG σ r ins) s k:=by
 induction h with
 |@load i h b =>have d:=aJ5 (.load h b);obtain⟨a,e2,_⟩:=c i d;exact .load (by rw[<-a];exact h) (by rw[<-e2];exact b)
 |@fall i h h2 hr ih =>have d:=aJ5 hr;obtain⟨a,e2,_⟩:=c i A_;unfold sV at h;rw[a,e2]at h;rw[a]at h2;refine .step (k:=(i:Int)+1) ?_ (by rw[show((i:Int)+1).toNat=i+1 by omega];exact ih) fun b=>h (.inl b);unfold mD;rw[I_ A_];exact G0 _ (by rw[K_ ⟨h2,by omega⟩];simp)
 |@jump i j h h2 hj h3 h4 hr ih =>
  have d:=aJ5 (.jump h h2 hj h3 h4 hr);obtain⟨a,e2,e3⟩:=c i d;obtain⟨x,_,n⟩:=c j hj;unfold sV at h;rw[a,e2]at h;rw[a]at h2;rw[x]at h3;rw[n,e3]at h4;refine .step (k:=(j:Int)) ?_ (by rw[Int.toNat_natCast];exact ih) fun b=>h (.inl b);have w:=aX0 (C:=bG σ r ins) (j:=j) A_ h3 fun k v o p=>by obtain⟨t,g,q,l,m⟩:=bEn f v o;obtain⟨u,e,q4,q5,q6⟩:=bEn f A_ h3;have:=f.one t u g e l q5 (by rw[m,q6,p]);rw[q,q4,this]
  unfold mD;rw[I_ A_];refine G4 _ ?_;rw[K_ h2,<-h4,w];simp
theorem aCk{σ:Ta_}(c:σ.Nodup){s:Nat}(a:s<σ.length):bV σ (σ[s])=some s:=by
 unfold bV;rw[F4];refine⟨a,by simp,fun k b e=>?_⟩;have e':=eq_of_beq e;have:=(List.nodup_iff_pairwise_ne.1 c)
 have:=O6.1 this k s A_ a b;exact this e'
theorem bMa{σ W:Ta_}{x:Int}{s:Nat}(b:x∈W)(a:bV σ x=some s):(s:Int)∈slF σ W:=U1.2 ⟨x,b,by rw[a];rfl⟩
theorem bEo{f:VF}{v:TV}{σ:Ta_}{n:Nat}{o:Tg_}{O:Te_}{R:List VI}{t:Tag}(h:zK f v σ n o O R t){i:Nat}(H:i<R.length)(d:(R.getD i default).op=67){s:Nat}(L:s<σ.length)(C:(s:Int)∉(R.getD i default).mp):¬RdX R s (i+1):=by
 intro N;have b:=h.reach.ok;have G:=xI h.bare;have D:R.length=(bG σ f.regs f.ins).length:=h.acc.len;have P:∀k,k<R.length->(R.getD k default).op=((bG σ f.regs f.ins).getD k default).op/\(R.getD k default).im=((bG σ f.regs f.ins).getD k default).im/\(R.getD k default).lb=((bG σ f.regs f.ins).getD k default).lb:=fun k V=>by obtain⟨t,e⟩:=h.acc.at_ k (by rw[<-D];exact V);rw[e];exact aCi ..
 have U:=bL9 G D P N;have T:=aJ5 N;obtain⟨c,j,u,E,rfl⟩:=eS (σ:=σ) (r:=f.regs) (ins:=f.ins) (by rw[<-D];exact H);have a:=(P _ H).1;rw[d,aG3 u E]at a;have Y:=bQ u;have key:j=(bZ σ (cnt σ f.regs f.ins c) (f.ins.getD c default)).length/\(f.ins.getD c default).op=67:=by
  rcases jF (D_ E)with⟨_,_,_,_,_,_,e⟩|⟨l,e⟩|⟨_,_,_,_,_,_,e⟩;.rw[e]at a;exact absurd a (by show ¬(67:Int)=73;decide)
  .rw[e]at a;exact⟨l,a.symm⟩
  .rw[e]at a;exact absurd a (by show ¬(67:Int)=74;decide)
 obtain⟨l,y⟩:=key;have m:fH σ (cnt σ f.regs f.ins c) (f.ins.getD c default)=[]:=by
  rcases iS σ (cnt σ f.regs f.ins c) (f.ins.getD c default)with⟨h0,_⟩|⟨q,k,_,_,h3⟩;.exact h0
  .have h4:=b.virt _ (B4 (nV h3));have Z:=G.cd _ Y y;omega
 have I:(dM σ (cnt σ f.regs f.ins c) (f.ins.getD c default)).length=j+1:=by unfold dM;rw[m,H_,List.length_cons,List.length_nil,l]
 have A:=xB (σ:=σ) (r:=f.regs) u;rw[I]at A;have z:c+1<f.ins.length:=by apply J7;intro J;have e:c+1=f.ins.length:=A_;rw[e,aJa]at A;omega
 have J:=aCk b.nd L;have g:σ[s]∈σ:=B8 L;have F:=(bCy G b.virt J U (c+1) 0 z (by have:=oP σ (cnt σ f.regs f.ins (c+1)) (f.ins.getD (c+1) default);omega) A_).1 (I3 _);have p:zB f.ins σ[s] c:=by refine⟨(c:Int)+1,?_,by rw[show((c:Int)+1).toNat=c+1 by omega];exact F⟩;unfold mD;rw[I_ A_];exact G0 _ (by rw[K_ ⟨by omega,z⟩];simp)
 have Q:=b.virt _ g;have W:=(h.out c u σ[s]).2 ⟨by omega,b.lt _ g,p⟩;obtain⟨t,e⟩:=h.acc.at_ _ (by rw[<-D];exact H);have w:=aVj σ f.ins f.regs 0 c j u E;rw[A7]at w;have x:(frM σ f.regs f.ins 0).getD (ofs σ f.regs f.ins c+j) 0=(c:Int):=by rw[W_,w];rfl
 rw[x,Int.toNat_natCast]at e;rw[e]at d C;unfold rX at d C;by_cases h6:((bG σ f.regs f.ins).getD (ofs σ f.regs f.ins c+j) default).op=67;.rw[K_ h6]at C;exact C ((lQ _).mem_iff.2 (bMa W J))
 .rw[I_ h6]at d;exact h6 d
end Go.Proofs.YtehlgnfhkidgoaaGreatDoor
