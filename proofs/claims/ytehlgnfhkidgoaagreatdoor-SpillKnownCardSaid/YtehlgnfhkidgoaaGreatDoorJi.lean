/- Some texts of the proof, joined. Condition: none. -/
import Derived.Test.YtehlgnfhkidgoaaGreatDoorJh
import Derived.Test.YtehlgnfhkidgoaaGreatDoorTmE
set_option linter.unusedSectionVars false
set_option maxRecDepth 100000
set_option maxHeartbeats 64000000
set_option linter.unusedSimpArgs false
set_option linter.unusedVariables false
namespace Go.Proofs.YtehlgnfhkidgoaaGreatDoor
open Go Go.TM
structure FOK (f:VF):Prop where
 bare:qB f
 n:f.ins.length<=100
 r:f.regs<=110
 us:∀x∈f.ins,x.us.length<=1000/\cY x.tu x.us
theorem bL9{t:Tag}{l:Ta_}(h:cY t l):cY (zI t l) l:=fun e=>by
 unfold zI at e
 split at e
 .assumption
 .cases e
theorem aVd{f:VF}(h:FOK f)(σ:Ta_):∀y∈plC σ f.regs f.ins,y.us.length<=999990/\cY y.tu y.us:=fun y d=>by
 unfold plC bK at d
 obtain⟨z,i,rfl⟩:=r_.1 d
 obtain⟨k,g,rfl⟩:=H3 i
 obtain⟨c,j,b,l,rfl⟩:=gG (σ:=σ) (r:=f.regs) (ins:=f.ins) g
 have e:=qW (σ:=σ) (r:=f.regs) b l
 have o:(bK σ f.regs f.ins)[ofs σ f.regs f.ins c+j]?=some ((rwM σ f.regs f.ins).flatten[ofs σ f.regs f.ins c+j]):=D_ g
 rw[o]at e
 have a:∀v:VI,v.us=[]->v.tu=.nil->v.us.length<=999990/\cY v.tu v.us:=fun v m p=>by rw[m];exact⟨by simp,fun _=>rfl⟩
 rcases oA e.symm with⟨_,n,k,q,_,_,e2⟩|⟨_,e2⟩|⟨_,q,k,_,_,_,e2⟩
 .rw[e2]
  have:plI (ldI q k)=⟨69,q,0,0,0,0,.nil,[],.nil,[]⟩:=by unfold plI ldI;simp
  rw[this];exact a _ rfl rfl
 .rw[e2,sQ (aCg h.bare) (bS b)]
  have:=h.us _ (bS b)
  exact⟨by show(f.ins.getD c default).us.length<=_;omega,bL9 this.2⟩
 .rw[e2]
  have:plI (stI q k)=⟨64,0,q,0,0,0,.nil,[],.nil,[]⟩:=by unfold plI stI;simp
  rw[this];exact a _ rfl rfl
theorem bSb{f:VF}(h:FOK f){σ:Ta_}(C:aDg σ):∃n:Nat,(n:Int)=rwR σ f.regs f.ins/\n<=410/\gP K 34 [.iv (.agg [.int .i64 f.fn,.int .i64 n,.int .i64 f.sl,.int .i64 f.nd,.int .i64 f.pr,.bool f.rs,.sl .no ((plC σ f.regs f.ins).map aJ)])] fun v=>∃r tE E tM M,v=.tup [.iv (.agg [.int .i64 r,.sl tE E,.sl tM M]),j_ 0] /\gP K 36 [.iv (.agg [.int .i64 r,.sl tE E,.sl tM M])] fun v=>∃o:Nat->Int,v=.iv (.sl .no (TM.one (.int .i64) ((List.range n).map o)))/\zO (plC σ f.regs f.ins) n o:=by
 have F:=aDp σ f.regs f.ins;have G:=h.n;have D:=h.r;have z:=(pG h.bare).1.1;obtain⟨n,k⟩:=H6 (show 0<=rwR σ f.regs f.ins by omega);have t:(plC σ f.regs f.ins).length<=400:=by have:=(lI σ f.regs f.ins).2;unfold plC;rw[P_];omega
 have a:=bDc h.bare C;rw[k]at a;have m:=aVd h σ;obtain⟨I,O,_,l,e⟩:=aI6 (f:=⟨f.fn,n,f.sl,f.nd,f.pr,f.rs,.no,plC σ f.regs f.ins⟩) (by show n<=_;omega) (by show _<=1000000;dsimp only;omega) m a;dsimp only at *
 have s:∀i,i<(plC σ f.regs f.ins).length->∀x,x∈wlI 0 (O i)↔1<=x/\x<n/\zH (plC σ f.regs f.ins) x i:=fun i b=>(e i b).2.2;have c:(plC σ f.regs f.ins).any (qV n (plC σ f.regs f.ins))=false:=by unfold vL at a;simp only[O_,D5]at a;exact a.2.1
 have g:∀p,pF (plC σ f.regs f.ins) (fun i=>wlI 0 (O i)) p->InP n p:=fun p q=>bLc (fun i b=>bLx A_ c b) (fun i b d A=>by have:=(s i b d).1 A;omega) q;have j:∀p,sR (plC σ f.regs f.ins) p->InP n p:=fun p q=>bLd (fun i b=>bWf c b) (fun i b h=>bUj c b (.inl A_)) q;have u:=bRj (fn:=f.fn) (rg:=n) (sl:=f.sl) (nd:=f.nd) (pr:=f.pr) (rs:=f.rs) (ti:=.no) (ins:=plC σ f.regs f.ins) A_ A_ (O:=O) (fun i b=>by have:=(e i b).1.2;omega) g j (by unfold iT at l;exact l);refine⟨n,k.symm,by omega,gP.mono u ?_⟩;rintro v ⟨E,M,rfl,w,y⟩;exact⟨n,_,_,_,_,rfl,bWg A_ A_ s w y g j _ _⟩
structure bSc (f:VF) (out:IV) (j jm:Nat) (S:aA) (v:TV) (S':aA):Prop where
 ex:∃(σ:List Int) (n:Nat) (o:Nat->Int) (a:Ax),v=.iv (.sl .no (TM.one (.int .i64) ((List.range n).map o)))/\SpS S' a f out (sk0 σ f)/\a.j=j/\a.jm=jm/\Reach f σ/\(n:Int)=rwR σ f.regs f.ins/\zO (plC σ f.regs f.ins) n o/\gY n o=[]
 kn:KN [j,jm] S S'
theorem bEd{A:TV}(h:bY A=false)(q:Nat):qJ q A=false:=by cases A<;>simp_all[bY,qJ]
theorem aQm{S:aA}{v:TV}{a:IV}(h:wO S v=some a)(b:∀g x y,v≠.fn g x y):cG S [v]=some [.iv a]:=by
 have:iY S v=some (.iv a):=by
  unfold iY;split;.rename_i g x y;exact absurd rfl (b g x y)
  .rw[h];rfl
 simp only[cG,this]
theorem Kp0.kn{S S':aA}(h:Kp0 S.length S S')(I:Tc_):KN I S S':=⟨h.1,fun q b _ _ a=>h.2 q b (aN a) a⟩
theorem SpS.kp{S S':aA}{a:Ax}{f:VF}{out:IV}{k:Sk}(h:SpS S a f out k)(g:Kp0 S.length S S'):SpS S' a f out k:=by obtain⟨l,d,c,e⟩:=h.map;exact⟨g.2 _ _ (aN h.blk) h.blk,⟨l,d,g.2 _ _ (aN c) c,e⟩,fun b=>g.2 _ _ (aN (h.ti b)) (h.ti b),fun b=>g.2 _ _ (aN (h.tf b)) (h.tf b),h.ne,h.oc⟩
theorem bMa{j:Nat}{S S':aA}(h:bL [j] S S')(I:Tc_):KN (j::I) S S':=⟨h.len,fun q b a _ c=>h.get q b (fun e=>a (by rw[S_]at e;rw[e];exact N1 ..)) c⟩
theorem KN.above{I:Tc_}{S S' S'':aA}(h:KN I S S'){q:Nat}(g:KN (q::I) S' S'')(f:S.length<=q):KN I S S'':=by
 refine⟨C0 h.len g.len,fun x b a c d=>g.get x b (fun e=>?_) c (h.get x b a c d)⟩;rcases J_.1 e with e|e;.have:=aN d;omega
 .exact a e
theorem bEe{f:VF}(d:FOK f){out:IV}{a:Ax}{S:aA}{σ L:Ta_}{c b:Nat}(t:SpS S a f out (sk0 σ f))(F:RwB S c L)(z:L≠[])(Y:L.length<=900000)(w:S[b]?=some (.cells 40 false [.ptr a.j 43 0]))(o:c≠a.j)(p:c≠a.jm)(v:c≠b)(R:b≠a.j)(N:b≠a.jm)(T:aDg (sF σ (flp (pR f.regs) L))): ∃X S5 S6 S7 e,(lim K).call 40 [rwV c L,.fn 41 [] [.ptr b 40 0]] S=.ret (X,S5)/\(lim K).call 39 [.ptr a.j 43 0,X] S5=.ret (u_,S6)/\(lim K).call 14 [.ptr a.j 43 0] S6=.ret (u_,S7)/\(∀q,mZ q X=X)/\bY X=false/\S5[b]?=some (.cells 40 false [.ptr a.j 43 0])/\S6[b]?=some (.cells 40 false [.ptr a.j 43 0])/\S7[b]?=some (.cells 40 false [.ptr a.j 43 0])/\SpS S7 e f out (sk0 (sF σ (flp (pR f.regs) L)) f)/\KN [c,a.j,a.jm] S S7/\e.j=a.j/\e.jm=a.jm:=by
 have g:=F z;obtain⟨J',m⟩:=aUk (J:=[]) (by rw[A0];exact g) A_ (L_ _) 41 [.ptr b 40 0] (bb:=false) rfl rfl (pR f.regs) (fun B x=>aVa (bR9 (t.setO g B_ o p B) (by rw[aB v];exact w) x));have i:=aN g;have P:=t.setO g B_ o p (.cells (L.length-1) true ((flp (pR f.regs) L).map vI++J'));have I:=aM i (.cells (L.length-1) true ((flp (pR f.regs) L).map vI++J'));have y:(S.set c (.cells (L.length-1) true ((flp (pR f.regs) L).map vI++J')))[b]?=some (.cells 40 false [.ptr a.j 43 0]):=by rw[aB v];exact w
 have D:=KN.set c S (.cells (L.length-1) true ((flp (pR f.regs) L).map vI++J'));have Z:=aJh (pR f.regs) L;obtain⟨S6,k,V,A⟩:=bSa (cp:=L.length) A_ o p P I;have s:=A.get1 N B_ y;obtain⟨S7,e,l,G,C,Q,e2⟩:=bR4 V (by have:=d.n;omega) (by have:=d.r;omega) (fun x h=>⟨by have:=(d.us x h).1;omega,(d.us x h).2⟩) (fun x h u E=>jG.2 fun H=>by have W:=(zM d.bare h).1 u E;have h2:=T u H;omega);have U:=C.get1 R B_ s;refine⟨_,_,S6,S7,e,by rw[sZ _ z];exact m,k,l,fun q=>rfl,rfl,y,s,U,G,((D.mono B_).trans (A.mono B_)).trans (C.mono B_),Q,e2⟩
theorem aQn{f:VF}(s:FOK f){out:IV}{j jm b:Nat}(w:b≠j)(p:b≠jm)(h4:jm≠j)(x0:TV):∀(m:Nat) (S:aA) (a:Ax) (σ:Ta_) (x2 x3 x4 x5 x6 x7 x8 x9:TV),f.regs-32-σ.length<m->SpS S a f out (sk0 σ f)->a.j=j->a.jm=jm->Reach f σ->S[b]?=some (.cells 40 false [.ptr j 43 0]) ->(lp' (lim K) t15L1 [x0,.ptr b 40 0,x2,x3,x4,x5,x6,x7,x8,x9] S).All fun q=>q.1=.ret/\∃v y3 y4 y5 y6 U y8 C,q.2.1=[x0,.ptr b 40 0,v,y3,y4,y5,y6,U,y8,C]/\bSc f out j jm S v q.2.2
 |0,S,a,σ,x2,x3,x4,x5,x6,x7,x8,x9,hm,_,_,_,_,_=>A_
 |m+1,S,a,σ,x2,x3,x4,x5,x6,x7,x8,x9,hm,hs,hj,hjm,hre,hbx=>by
  have V:=hre.ok;have hv:=V.virt;have hR:=aDp σ f.regs f.ins;have hu:=s.n;have ht:=s.r;have hr:=(pG s.bare).1;have hp:=lI σ f.regs f.ins;have hd:(sk0 σ f).c≠[]:=fun e=>by
   have:(bK σ f.regs f.ins).length=0:=by show(sk0 σ f).c.length=0;rw[e];rfl
   omega
  obtain⟨n,hn,hk,hg⟩:=bSb s hv;have I:=bR6 hs hd (by show(bK σ f.regs f.ins).length<=_;omega);rw[hj]at I;have G:bZ ((sk0 σ f).c.map plI)=bZ (plC σ f.regs f.ins):=rfl;have h5:(sk0 σ f).c.length=(plC σ f.regs f.ins).length:=(P_ _).symm;rw[G,h5,show(sk0 σ f).r=(n:Int) from hn.symm]at I;have g1:=cM S (aG.cells 0 true (bZ (plC σ f.regs f.ins)));have s1:=hs.app [aG.cells 0 true (bZ (plC σ f.regs f.ins))];have b1:=aR hbx [aG.cells 0 true (bZ (plC σ f.regs f.ins))];have el:=bL5 g1;have rv:wO (S++[aG.cells 0 true (bZ (plC σ f.regs f.ins))]) (.agg [j_ f.fn,j_ n,j_ f.sl,j_ f.nd,j_ f.pr,.iv (.bool f.rs),.msl S.length 0 0 (plC σ f.regs f.ins).length (plC σ f.regs f.ins).length 8])=some (.agg [.int .i64 f.fn,.int .i64 n,.int .i64 f.sl,.int .i64 f.nd,.int .i64 f.pr,.bool f.rs,.sl .no ((plC σ f.regs f.ins).map aJ)]):=by simp only[wO,xU,aDy,el,Option.map_some]
  have ca:=aQm rv B_;have fz:bW (S++[aG.cells 0 true (bZ (plC σ f.regs f.ins))]) [.agg [j_ f.fn,j_ n,j_ f.sl,j_ f.nd,j_ f.pr,.iv (.bool f.rs),.msl S.length 0 0 (plC σ f.regs f.ins).length (plC σ f.regs f.ins).length 8]]=some ((S++[aG.cells 0 true (bZ (plC σ f.regs f.ins))]).set S.length (.frz 0 (TM.bE ((plC σ f.regs f.ins).map aJ)))):=by
   have e2:toIVs (bZ (plC σ f.regs f.ins))=some (TM.bE ((plC σ f.regs f.ins).map aJ)):=by unfold bZ;rw[fL]
   simp only[bW,bW.freezeC,mA,g1,e2,Option.map_some]
  have s2:=s1.setO g1 B_ (by have:=aN hs.blk;omega) (by obtain⟨_,_,q,_⟩:=hs.map;have:=aN q;omega) (.frz 0 (TM.bE ((plC σ f.regs f.ins).map aJ)));have b2:((S++[aG.cells 0 true (bZ (plC σ f.regs f.ins))]).set S.length (.frz 0 (TM.bE ((plC σ f.regs f.ins).map aJ))))[b]?=some (.cells 40 false [.ptr j 43 0]):=by rw[aB (by have:=aN hbx;omega)];exact b1
  have k2:KN [j,jm] S ((S++[aG.cells 0 true (bZ (plC σ f.regs f.ins))]).set S.length (.frz 0 (TM.bE ((plC σ f.regs f.ins).map aJ)))):=⟨by simp,fun q B _ _ hq=>by rw[aB (by have:=aN hq;omega)];exact aR hq _⟩
  generalize hS1:S++[aG.cells 0 true (bZ (plC σ f.regs f.ins))]=S1 at *
  generalize hS2:S1.set S.length (.frz 0 (TM.bE ((plC σ f.regs f.ins).map aJ)))=S2 at *
  generalize hA:(TV.agg [j_ f.fn,j_ n,j_ f.sl,j_ f.nd,j_ f.pr,.iv (.bool f.rs),.msl S.length 0 0 (plC σ f.regs f.ins).length (plC σ f.regs f.ins).length 8])=A at *
  have hl:∀q,mZ q A=A:=fun q=>by rw[<-hA];rfl
  have hb:bY A=false:=by rw[<-hA];rfl
  have he:mI A=true:=by rw[<-hA];rfl
  have h6:=bEd hb;simp only[qJ]at h6;refine fC t15L1.eq_1 ?_;simp(disch:=omega)only[go_sem,hbx,I,ca];refine aIf hg ?_;rintro v ⟨r,tE,E,tM,M,rfl,h9⟩;have hh:eY (.tup [.iv (.agg [.int .i64 r,.sl tE E,.sl tM M]),j_ 0])=false:=by simp[eY,iA]
  simp(disch:=omega)only[go_sem,he,h6,hh,fz];refine aIf h9 ?_;rintro v ⟨o,rfl,hc⟩;obtain⟨S3,D,h8,k,k3,h7⟩:=bR7 .no ((List.range n).map o) (by simp;omega) S2;have eW:zP ((List.range n).map o)=gY n o:=rfl;rw[eW]at h8 k h7;have l:=lX k;have u1:=l.loc;have u2:=l.wb;have u3:=bL8 S3 D (gY n o);have u4:=l.nlp;simp(disch:=omega)only[go_sem,h8,u1,u2,u3,u4];have H:a.j<S2.length/\a.jm<S2.length/\b<S2.length:=⟨aN s2.blk,by obtain⟨_,_,q,_⟩:=s2.map;exact aN q,aN b2⟩
  have s3:=s2.kp k3;have b3:=k3.2 _ _ H.2.2 b2;have z:KN [j,jm] S S3:=k2.trans (k3.kn _);by_cases h0:gY n o=[]
  .rw[h0];simp(disch:=omega)only[go_sem,List.length_nil];refine bG ⟨rfl,_,_,_,_,_,_,_,_,rfl,⟨σ,n,o,a,rfl,s3,hj,hjm,hre,hn,hc,h0⟩,z⟩
  .have N:¬((gY n o).length:Int)=0:=by have:=M7.2 h0;omega
   have hW:(gY n o).length<=100000:=by have:=aMq ((List.range n).map o) ((List.range n).map o).length;rw[P_,F6]at this;show(aB3 _ ((List.range n).map o).length).length<=_;rw[P_,F6];omega
   have ho:=h7 h0;have t:D≠a.j:=A_;have u:D≠a.jm:=A_;have J:D≠b:=A_;have bw:=xM l A_ 38 [.ptr b 40 0] (b:=false) rfl rfl (pR f.regs) (fun x _=>aVa (bR8 s3 (by rw[hj];exact b3) x));have m1:=more s.bare V hn hc h0;have g:=Reach.step hre hn hc h0;cases ha:(gY n o).any (pR f.regs)with
   |false =>
    rw[ha]at bw;have W:wN f.regs (gY n o)=flp (pR f.regs) (gY n o):=by unfold wN;rw[ha];rfl
    obtain⟨X,S5,S6,S7,a',d1,Q,R,d4,d5,T,P,y,Z,d,i,h⟩:=bEe s s3 k h0 A_ (by rw[hj];exact b3) t u J (by rw[hj];exact w) (by rw[hjm];exact p) (by rw[<-W];exact g.ok.virt);rw[hj]at Q R T P y d i;rw[hjm]at d h;rw[<-W]at Z;simp(disch:=omega)only[go_sem,N,bw,b3,d1,Q,R,d4,d5,T,P,y,u1,u2,u4];have F:KN [j,jm] S S7:=KN.above z d (by have:=k2.len;omega);have l2:=g.ok.len;have ih:=aQn s w p h4 x0 m S7 a' _ x2 (.lb [j_ r,.iv (.sl tE E),.iv (.sl tM M)]) (.iv (.sl .no (TM.one (.int .i64) ((List.range n).map o)))) (rwV D (gY n o)) x6 z_ z_ x9 A_ Z i h g y;exact cP (Out.all_mono (fun q ⟨h1,v,y3,y4,y5,y6,U,y8,C,h2,h3⟩=>⟨h1,v,y3,y4,y5,y6,U,y8,C,h2,h3.ex,F.trans h3.kn⟩) ih)
   |true =>
    rw[ha]at bw;have W:wN f.regs (gY n o)=flp (pR f.regs) (gY n o++nE f.regs 32):=by unfold wN;rw[ha];rfl
    have hV:(nE f.regs 32).length<=f.regs:=by unfold nE;simp
    obtain⟨S4,C,l4,Y,k4⟩:=aVb (f:=f) (out:=out) (a:=a) (k0:=sk0 σ f) A_ t u J x0 x2 (.lb [j_ r,.iv (.sl tE E),.iv (.sl tM M)]) (.iv (.sl .no (TM.one (.int .i64) ((List.range n).map o)))) z_ e_ (max 32 f.regs-32) 32 S3 (gY n o) x9 A_ A_ h0 k s3 (by rw[hj];exact b3);rw[show((32:Nat):Int)=32 from rfl]at l4;have s4:=s3.keepO k4 (k h0) B_ t u;have b4:=k4.get _ _ (by simp;omega) b3;have hi:KN [D,j,jm] S3 S4:=bMa k4 _;obtain⟨X,S5,S6,S7,a',d1,Q,R,d4,d5,T,P,y,Z,d,i,h⟩:=bEe s s4 Y (by simp[h0]) (by rw[H_];omega) (by rw[hj];exact b4) t u J (by rw[hj];exact w) (by rw[hjm];exact p) (by rw[<-W];exact g.ok.virt);rw[hj]at Q R T P y d i;rw[hjm]at d h;rw[<-W]at Z;have L:=lX Y;have q1:=L.loc;have q2:=L.wb;have q4:=L.nlp;simp(disch:=omega)only[go_sem,N,bw,b3,d1,Q,R,d4,d5,T,P,y,u1,u2,u4];rw[l4];simp(disch:=omega)only[go_sem,N,b4,d1,Q,R,d4,d5,T,P,y,q1,q2,q4];have F:KN [j,jm] S S7:=KN.above z (hi.trans d) (by have:=k2.len;omega);have l2:=g.ok.len;have ih:=aQn s w p h4 x0 m S7 a' _ x2 (.lb [j_ r,.iv (.sl tE E),.iv (.sl tM M)]) (.iv (.sl .no (TM.one (.int .i64) ((List.range n).map o)))) (rwV D (gY n o++nE f.regs 32)) (j_ (max 32 f.regs:Nat)) z_ e_ C A_ Z i h g y;exact cP (Out.all_mono (fun q ⟨h1,v,y3,y4,y5,y6,U,y8,C,h2,h3⟩=>⟨h1,v,y3,y4,y5,y6,U,y8,C,h2,h3.ex,F.trans h3.kn⟩) ih)
theorem bSd{f:VF}(k:FOK f){out:IV}{S:aA}{a:Ax}(c:SpS S a f out (sk0 [] f)):((lim K).call 15 [.ptr a.j 43 0] S).All fun q=>bSc f out a.j a.jm S q.1 q.2:=by
 have i:=c.app [.cells 40 false [.ptr a.j 43 0]];have d:=cM S (.cells 40 false [.ptr a.j 43 0]);have x:=aN c.blk;have l2:a.jm<S.length:=by obtain⟨_,_,q,_⟩:=c.map;exact aN q
 have g:=aQn k (b:=S.length) A_ A_ c.jne (.ptr a.j 43 0) (f.regs+1) _ a [] k_ u_ u_ u_ u_ u_ u_ u_ (by simp;omega) i rfl rfl .nil d;refine dG K _ (fn:=t15) rfl rfl ?_;simp(disch:=omega)only[t15,go_sem];refine dJ g ?_;rintro z p SS ⟨rfl,v,u,t,w,A,r,s,y,rfl,h⟩;obtain⟨⟨σ,n,o,l,rfl,e⟩,m⟩:=h;simp(disch:=omega)only[go_sem];exact bG ⟨⟨σ,n,o,l,rfl,e⟩,(KN.app [a.j,a.jm] S _).trans m⟩
def slF(σ W:List Int):List Int:=W.filterMap fun x=>(cC σ x).map fun i:Nat=>(i:Int)
theorem aVe(σ:Ta_)(W:Ta_):(slF σ W).length<=W.length:=List.length_filterMap_le _ _
theorem bEf(σ W:Ta_)(x:Int):slF σ (W++[x])=slF σ W++(match cC σ x with|some q=>[(q:Int)]|none=>[]):=by unfold slF;rw[List.filterMap_append];cases h:cC σ x<;>simp[List.filterMap_cons,h]
theorem aXq{l:Ta_}{i:Nat}(h:i<l.length):l.take (i+1)=l.take i++[l.getD i 0]:=by rw[P7 h];simp[List.getD,D_ h]
theorem bMb{S:aA}{j:Nat}{l:Ta_}(h:RwB S j l)(a:l.length<=1000000):∃S',iK [rwV j l] S=some (u_,S')/\RwB S' j (eM l)/\rwV j (eM l)=rwV j l/\(S'=S\/l≠[]/\∃B,S'=S.set j B):=by
 have e:=zE l;by_cases h0:l=[]
 .subst h0;exact⟨S,rfl,fun h=>absurd rfl h,rfl,.inl rfl⟩
 .have b:eM l≠[]:=fun c=>h0 (a_ (by rw[<-e,c];rfl));have g:=h h0;have p:=aAt (J:=[]) (by rw[A0];exact g) a (L_ _);rw[A0]at p;refine⟨_,by rw[sZ _ h0];exact p,fun _=>by rw[e];exact aM (aN g) _,by rw[sZ _ h0,sZ _ b,e],.inr ⟨h0,_,rfl⟩⟩
theorem aQo{f:VF}{out:IV}{a:Ax}{k:Sk}{W:Ta_}(hW:W.length<=100000)(tw:Tag)(g:Nat)(ha:a.j<g)(hm:a.jm<g)(Q:TV):∀(m i:Nat) (S:aA) (j:Nat) (P x4 x5 x9 x10:TV),i+m=W.length->RwB S j (slF k.s (W.take i))->g<=S.length->(slF k.s (W.take i)≠[]->g<=j)->SpS S a f out k ->∃S' p G F E w e,lp' (lim K) t18L0 [.ptr a.j 43 0,Q,rwV j (slF k.s (W.take i)),P,x4,x5,.iv (.sl tw (TM.one (.int .i64) W)),j_ W.length,j_ i,x9,x10] S = .ret (.exit 0,[.ptr a.j 43 0,Q,rwV p (slF k.s W),G,F,E,.iv (.sl tw (TM.one (.int .i64) W)),j_ W.length,j_ W.length,w,e],S')/\RwB S' p (slF k.s W)/\(∀q b,q<g->S[q]?=some b->S'[q]?=some b)/\S.length<=S'.length/\(slF k.s W≠[]->g<=p)
 |0,i,S,j,P,x4,x5,x9,x10,h,hb,hn,hj,hs=>by
  obtain rfl:i=W.length:=A_;rw[C5]at *
  refine⟨S,j,P,x4,x5,z_,x10,aE K _ _ t18L0.eq_1 ?_,hb,fun q b _ h=>h,L_ _,hj⟩;simp(disch:=omega)only[go_sem]
 |m+1,i,S,j,P,x4,x5,x9,x10,h,hb,hn,hj,hs=>by
  have V:i<W.length:=A_;have R:=pO (f:=IV.int .i64) (t:=tw) (l:=W) (i:=(i:Int)) A_;rw[Int.toNat_natCast]at R;have e0:W.getD i default=W.getD i 0:=rfl;rw[e0]at R;have d:=bEf k.s (W.take i) (W.getD i 0);rw[<-aXq V]at d;have A:=lX hb;have w1:=A.wb;have w2:=A.loc;have T:=hs.blk;obtain⟨l,c,h3,h4,_⟩:=hs.map;have U:=aVe k.s (W.take i);rw[J7]at U;generalize W.getD i 0=x at *
  cases u:cC k.s x with
  |some q =>
   rw[u]at d;dsimp only at d;have e1:=uW (c:=c) (l:=l) (m:=x) (v:=(q:Int)) (by rw[h4,u];rfl);obtain⟨j1,S1,ap,L,H,y,N⟩:=bEb hb A_ (q:Int);have I:g<=j1:=by
    by_cases h0:slF k.s (W.take i)=[]
    .rw[N h0];exact hn
    .rw[y h0];exact hj h0
   have v1:=(lX L).wb;have h5:=H.len;have Y:SpS S1 a f out k:=by
    by_cases h0:slF k.s (W.take i)=[]
    .have hk:=H;have J:=N h0;refine hs.kp ⟨hk.len,fun z b hz Z=>hk.get z b (by rw[S_];omega) Z⟩
    .have J:=y h0;rw[J]at H;exact hs.keepO H (hb h0) B_ (by have:=hj h0;omega) (by have:=hj h0;omega)
   obtain⟨S',p,G,F,E,w,e,D,o,n,C,r⟩:=aQo hW tw g ha hm Q m (i+1) S1 j1 (j_ x) (.lb [j_ q]) e_ e_ e_ A_ (by rw[d];exact L) A_ (fun _=>I) Y;rw[d,show((i+1:Nat):Int)=(i:Int)+1 by omega]at D;refine⟨S',p,G,F,E,w,e,aE K _ _ t18L0.eq_1 ?_,o,fun q b u h1=>n q b u (H.get q b (by simp;omega) h1),by omega,r⟩;unfold spB at T;simp(disch:=omega)only[go_sem,R,T,h3,e1,w1,w2,ap,v1,aC];exact X_ er D
  |none =>rw[u]at d;dsimp only at d;rw[A0]at d;have e1:=xS (c:=c) (l:=l) (m:=x) (by rw[h4,u];rfl);obtain⟨S',p,G,F,E,w,e,D,o,n,C,r⟩:=aQo hW tw g ha hm Q m (i+1) S j (j_ x) (.lb [j_ 0]) z_ e_ z_ A_ (by rw[d];exact hb) hn (by rw[d];exact hj) hs;rw[d,show((i+1:Nat):Int)=(i:Int)+1 by omega]at D;refine⟨S',p,G,F,E,w,e,aE K _ _ t18L0.eq_1 ?_,o,n,C,r⟩;unfold spB at T;simp(disch:=omega)only[go_sem,R,T,h3,e1,w1,w2,aC];exact X_ er D
theorem bSe{f:VF}{a:Ax}{k:Sk}{O:Te_}{n i:Nat}{C:Tag}{S:aA}(Y:i<n)(hW:(wlI 0 (O i)).length<=100000)(w:SpS S a f (.sl C (bF O n)) k): ∃v S1 S' t,(lim K).call 18 [.ptr a.j 43 0,j_ i] S=.ret (v,S1)/\zT v S1=some (.iv (.sl t (TM.one (.int .i64) (eM (slF k.s (wlI 0 (O i)))))),S')/\Kp0 S.length S S'/\cY t (eM (slF k.s (wlI 0 (O i)))):=by
 have V:=ixL (I:=O) Y C;have x:=w.blk;obtain⟨S2,p,U,T,y5,W,r,F,E,P,L,H⟩:=aQo (f:=f) (out:=.sl C (bF O n)) (a:=a) (k:=k) hW (iJ (aZ (wlI 0 (O i)))) S.length (aN x) (by obtain⟨_,_,q,_⟩:=w.map;exact aN q) (j_ i) (wlI 0 (O i)).length 0 S 0 u_ u_ u_ u_ u_ A_ (fun h=>absurd rfl h) (L_ _) (fun h=>absurd rfl h) w;rw[n0_,show rwV 0 (slF k.s ((wlI 0 (O i)).take 0))=k_ from rfl]at F;have R:=aVe k.s (wlI 0 (O i));obtain⟨S3,ps,D,e3,u⟩:=bMb E A_;have g:=lX E;have w1:=g.wb;have w2:=g.loc;have Q:∀S,kV [.loc 2] [.ptr a.j 43 0,j_ i,rwV p (slF k.s (wlI 0 (O i))),U,T,y5,.iv (.sl (iJ (aZ (wlI 0 (O i)))) (TM.one (.int .i64) (wlI 0 (O i)))),.iv (.int .i64 (wlI 0 (O i)).length),.iv (.int .i64 (wlI 0 (O i)).length),W,r] S=some (rwV p (slF k.s (wlI 0 (O i)))):=fun S=>by rcases g.frm with⟨a,e⟩|⟨j,l,e⟩|⟨a,b,c,d,N,f,e⟩<;>rw[e]<;>rfl
 have Z:∀S,prV S (some iK) [rwV p (slF k.s (wlI 0 (O i)))]=iK [rwV p (slF k.s (wlI 0 (O i)))] S:=fun S=>by simp only[prV,List.any_cons,List.any_nil,g.nlp,O5,Y_,I5]
 have z:Kp0 S.length S S3:=by
  rcases u with rfl|⟨m,B,rfl⟩;.exact⟨L,P⟩
  .refine⟨by simpa using L,fun q b y o=>?_⟩;rw[aB (by have:=H m;omega)];exact P q b y o
 have c:(lim K).call 18 [.ptr a.j 43 0,j_ i] S=.ret (rwV p (eM (slF k.s (wlI 0 (O i)))),S3):=by
  refine aI K _ (fn:=t18) rfl rfl ?_;unfold spB at x;rw[e3];generalize hR:bF O n=RL at *
  simp(disch:=omega)only[t18,go_sem,x,V];rw[F];simp(disch:=omega)only[t18,go_sem,w1,w2,Q,aTo,Z,ps]
 by_cases m:eM (slF k.s (wlI 0 (O i)))=[]
 .rw[m,bL7]at c;rw[m];exact⟨_,S3,S3,.nil,c,rfl,z,fun _=>rfl⟩
 .have G:=D m;have A:slF k.s (wlI 0 (O i))≠[]:=fun e=>m (a_ (by rw[zE,e];rfl));generalize eM (slF k.s (wlI 0 (O i)))=l at *
  have N:=aC5 (J:=[]) (by rw[A0];exact G) l.length;have e2:toIVs (l.map vI)=some (l.map (IV.int .i64)):=by
   have:l.map vI=(l.map (IV.int .i64)).map .iv:=by rw[L6];rfl
   rw[this,fL]
  rw[sZ _ m]at c;refine⟨_,S3,S3.set p (.frz (l.length-1) (l.map (IV.int .i64))),.no,c,?_,⟨by simpa using z.1,fun q b y o=>by rw[aB (by have:=H A;omega)];exact z.2 q b y o⟩,fun h=>by cases h⟩;simp only[zT,wO,xU,aDy,N,Option.map_some,bW,bW.freezeC,mA,G,e2]
def iU(o:Nat->Int)(x:Int):Int:=o x.toNat
theorem bEg{S:aA}{b n:Nat}{o:Tg_}(c:S[b]?=some (.cells 27 false [.iv (.sl .no (TM.one (.int .i64) ((List.range n).map o)))])){x:Int}(h:0<=x/\x<n):(lim K).call 16 [j_ x,.ptr b 27 0] S=.ret (j_ (iU o x),S):=by
 obtain⟨q,rfl⟩:=H6 h.1;have a:=pO (f:=IV.int .i64) (t:=.no) (l:=(List.range n).map o) (i:=(q:Int)) (by simp;omega);have e:((List.range n).map o).getD (q:Int).toNat default=iU o q:=by unfold iU;rw[Int.toNat_natCast,b_,l_,E8 A_];rfl
 rw[e]at a;generalize iU o q=w at *
 refine aI K _ (fn:=t16) rfl rfl ?_;simp(disch:=omega)only[t16,go_sem,c,a]
def rnR(g:Int->Int)(us:List Int)(a:Int):Int:=if a∈us then g a else low a
def fnI(g:Int->Int)(x:VI):VI:={x with a:=rnR g (bB x) x.a,b:=rnR g (bB x) x.b,d:=rnR g (aW x) x.d,us:=x.us.map g,tu:=zI x.tu x.us}
theorem aMr{x:VI}{n:Int}(h:n∈bB x):0<n:=by
 unfold bB at h;split at h;.exact(cT.1 h).2
 .split at h;.exact(cT.1 h).2
  .split at h;.exact(cT.1 h).2
   .cases h
theorem aMs{x:VI}{n:Int}(h:n∈aW x):0<n:=by
 unfold aW at h;split at h;.exact(cT.1 h).2
 .split at h;.exact(cT.1 h).2
  .cases h
theorem bMc{S:aA}{c n:Nat}{o:Tg_}(f:S[c]?=some (.cells 27 false [.iv (.sl .no (TM.one (.int .i64) ((List.range n).map o)))]))(x:VI)(i:x.us.length<=999990)(s:cY x.tu x.us)(e:∀r∈bN x,0<=r/\r<n): ∃v S1 S',(lim K).call 17 [.iv (.agg (aJ x)),.fn 16 [] [.ptr c 27 0],.fn 16 [] [.ptr c 27 0]] S=.ret (v,S1)/\zT v S1=some (.iv (.agg (aJ (fnI (iU o) x))),S')/\Kp0 S.length S S':=by
 have j:(cpS S (x.us.map (iU o)))[c]?=some (.cells 27 false [.iv (.sl .no (TM.one (.int .i64) ((List.range n).map o)))]):=by
  unfold cpS;split;.exact f
  .exact aR f _
 have l:∀(us:Ta_) (a:Int),(a∈us->0<=a/\a<n)->oE 16 [.ptr c 27 0] us a (rnR (iU o) us a) (cpS S (x.us.map (iU o))) (cpS S (x.us.map (iU o))):=fun us a h=>by
  unfold oE rnR;by_cases hm:a∈us;.rw[K_ hm,K_ hm];exact bEg j (h hm)
  .rw[I_ hm,I_ hm];exact⟨rfl,rfl⟩
 obtain⟨v,k,p⟩:=bD7 (fu:=16) (fd:=16) (cu:=[.ptr c 27 0]) (cd:=[.ptr c 27 0]) x i s rfl rfl rfl rfl (g:=iU o) (S:=S) (S2:=cpS S (x.us.map (iU o))) (S3:=cpS S (x.us.map (iU o))) (S4:=cpS S (x.us.map (iU o))) (ra:=rnR (iU o) (bB x) x.a) (rb:=rnR (iU o) (bB x) x.b) (rd:=rnR (iU o) (aW x) x.d)
  (fun B u i=>bEg (aR f _) (e u (by unfold bN;simp[i])))
  (l _ _ fun _=>e _ (by unfold bN;simp)) (l _ _ fun _=>e _ (by unfold bN;simp)) (l _ _ fun h=>e _ (by have:=aMs h;unfold bN;rw[K_ (.inr A_)];simp))
  (fun m=>by
   have:x.us.map (iU o)≠[]:=by simpa using m
   unfold cpS;rw[I_ this];exact cM ..)
 refine⟨v,_,_,k,p,?_⟩;unfold frS cpS;split;.exact⟨L_ _,fun q b _ h=>h⟩
 .refine⟨by simp,fun q b t h=>?_⟩;rw[aB A_];exact aR h _
theorem bMd{y:VI}(h:y.op≠67\/True)(a:(∃q k,y=ldI q k)\/(∃q k,y=stI q k)\/plI y=y):bN (plI y)=bN y:=by
 rcases a with⟨q,k,rfl⟩|⟨q,k,rfl⟩|e;.unfold plI ldI bN;simp
 .unfold plI stI bN;simp
 .rw[e]
theorem aHd{f:VF}(h:FOK f){σ:Ta_}(t:aDg σ){k:Nat}(l:k<(bK σ f.regs f.ins).length):(∀r∈bN ((bK σ f.regs f.ins).getD k default),0<=r/\r<rwR σ f.regs f.ins)/\((bK σ f.regs f.ins).getD k default).us.length<=999990/\cY ((bK σ f.regs f.ins).getD k default).tu ((bK σ f.regs f.ins).getD k default).us:=by
 have a:=bDc h.bare t;have g:(plC σ f.regs f.ins).any (qV (rwR σ f.regs f.ins) (plC σ f.regs f.ins))=false:=by unfold vL at a;simp only[O_,D5]at a;exact a.2.1
 have d:k<(plC σ f.regs f.ins).length:=by unfold plC;rw[P_];exact l
 have e:(plC σ f.regs f.ins).getD k default=plI ((bK σ f.regs f.ins).getD k default):=by unfold plC;rw[b_,l_,b_,D_ l];rfl
 obtain⟨c,j,p,m,rfl⟩:=gG l;have e2:=bPw (σ:=σ) (r:=f.regs) p m;have o:(∃q k,(bK σ f.regs f.ins).getD (ofs σ f.regs f.ins c+j) default=ldI q k)\/(∃q k,(bK σ f.regs f.ins).getD (ofs σ f.regs f.ins c+j) default=stI q k)\/plI ((bK σ f.regs f.ins).getD (ofs σ f.regs f.ins c+j) default)=(bK σ f.regs f.ins).getD (ofs σ f.regs f.ins c+j) default:=by
  rw[e2];rcases oA (D_ m)with⟨_,_,w,q,_,_,e3⟩|⟨_,e3⟩|⟨_,q,w,_,_,_,e3⟩;.exact .inl ⟨_,_,e3⟩
  .exact .inr (.inr (by rw[e3];exact sQ (aCg h.bare) (bS p) ..))
  .exact .inr (.inl ⟨_,_,e3⟩)
 refine⟨fun r s=>aJy g d (by rw[e,bMd (.inr trivial) o];exact s),?_⟩;have i:=aVd h σ _ (bS d);rw[e]at i;have n:(plI ((bK σ f.regs f.ins).getD (ofs σ f.regs f.ins c+j) default)).us=((bK σ f.regs f.ins).getD (ofs σ f.regs f.ins c+j) default).us/\(plI ((bK σ f.regs f.ins).getD (ofs σ f.regs f.ins c+j) default)).tu=((bK σ f.regs f.ins).getD (ofs σ f.regs f.ins c+j) default).tu:=by
  rcases o with⟨q,k,b⟩|⟨q,k,b⟩|b;.rw[b];unfold plI ldI;simp
  .rw[b];unfold plI stI;simp
  .rw[b];exact⟨rfl,rfl⟩
 rw[n.1,n.2]at i;exact i
theorem aXr(B:List VI)(L:List (List VI))(c:Nat):cK (B::L) (c+1)=B.length+cK L c:=by unfold cK;rw[List.take_succ_cons,Q_,List.sum_cons]
theorem bP5(σ:Ta_):∀(l:List VI) (r:Int) (b c j:Nat),c<l.length->j<(dR σ (cnt σ r l c) (l.getD c default)).length->(frM σ r l b)[ofs σ r l c+j]?=some ((b+c:Nat):Int)
 |[],r,b,c,j,hc,hj=>by simp at hc
 |x::l,r,b,0,j,hc,hj=>by
  have:ofs σ r (x::l) 0=0:=by unfold ofs cK;simp
  rw[this,frM,A9,Nat.add_zero,W_ (by rw[G3];exact hj),H8,K_ (show j<(dR σ r x).length from hj)];rfl
 |x::l,r,b,c+1,j,hc,hj=>by
  have e:ofs σ r (x::l) (c+1)=(dR σ r x).length+ofs σ (eH σ r x) l c:=by unfold ofs;rw[rwM,aXr]
  have a:=bP5 σ l (eH σ r x) (b+1) c j (by simpa using hc) hj;rw[e,frM,t_ (by rw[G3];omega),G3,show(dR σ r x).length+ofs σ (eH σ r x) l c+j-(dR σ r x).length=ofs σ (eH σ r x) l c+j by omega,a];congr 2;omega
theorem bEh(σ:Ta_):∀(l:List VI) (r:Int) (b:Nat),(frM σ r l b).length=(bK σ r l).length
 |[],r,b=>rfl
 |x::l,r,b=>by have a:=bEh σ l (eH σ r x) (b+1);unfold bK at a |-;rw[frM,rwM,List.flatten_cons,H_,H_,G3,a]
def sG(g:Int->Int)(σ W:List Int)(t:Tag)(y:VI):VI:=if y.op=67 then {fnI g y with mp:=eM (slF σ W),tm:=t} else fnI g y
structure aXs (f:VF) (σ:List Int) (o:Nat->Int) (O:Nat->List Nat) (R:List VI) (i:Nat):Prop where
 len:R.length=i
 at_:∀k,k<i->∃t,R.getD k default=sG (iU o) σ (wlI 0 (O ((frM σ f.regs f.ins 0).getD k 0).toNat)) t ((bK σ f.regs f.ins).getD k default)
theorem aXs.snoc{f:VF}{σ:Ta_}{o:Tg_}{O:Te_}{R:List VI}{i:Nat}(h:aXs f σ o O R i)(t:Tag):aXs f σ o O (R++[sG (iU o) σ (wlI 0 (O ((frM σ f.regs f.ins 0).getD i 0).toNat)) t ((bK σ f.regs f.ins).getD i default)]) (i+1):=by
 refine⟨by rw[H_,h.len];rfl,fun k c=>?_⟩;by_cases e:k=i;.subst e;refine⟨t,?_⟩;rw[b_,t_ (by rw[h.len];omega),h.len,M3];rfl
 .obtain⟨a,b⟩:=h.at_ k A_;refine⟨a,?_⟩;rw[<-b,b_,W_ (by rw[h.len];omega),<-b_]
theorem bUo{j:Nat}{l:List VI}{i:Nat}(h:i<l.length):indexAddrS 8 (.tsl j (l.map aJ)) (i:Int)=some (.iv (.cp (aJ (l.getD i default)))):=by have a:=jF (w:=8) (f:=aJ) iF (t:=.no) (l:=l) (i:=(i:Int)) A_;rw[Int.toNat_natCast]at a;exact a
theorem Kp0.trans'{a:Nat}{S S' S'':aA}(h:Kp0 a S S')(g:Kp0 S'.length S' S''):Kp0 a S S'':=⟨C0 h.1 g.1,fun q b d c=>by
 have:=h.2 q b d c
 exact g.2 q b (aN this) this⟩
theorem bEi{f:VF}(hf:FOK f){σ:Ta_}(hv:aDg σ){n:Nat}(hn:(n:Int)=rwR σ f.regs f.ins){o:Tg_}{O:Te_}(hO:∀i,i<f.ins.length->(wlI 0 (O i)).length<=100000){tO:Tag}{a:Ax}{S0:aA}(hs:SpS S0 a f (.sl tO (bF O f.ins.length)) (sk0 σ f)){jc:Nat}(W:S0[jc]?=some (.cells 27 false [.iv (.sl .no (TM.one (.int .i64) ((List.range n).map o)))])) (x0 x1 x2 x3 x4 x5 c0 c1 c2 c3 c4 c5 x12 x13:TV):∀(m i:Nat) (S:aA) (d:Nat) (R:List VI) (x10 x11 P G:TV),i+m=(bK σ f.regs f.ins).length->Kp0 S0.length S0 S->At 8 28 (R.map aJ) d S->(R≠[]->S0.length<=d)->aXs f σ o O R i ->∃S' u R' g r p k,lp' (lim K) t6L0 [x0,x1,x2,x3,x4,x5,.ptr a.j 43 0,.ptr jc 27 0,.fn 16 [] [.ptr jc 27 0],.lb [c0,c1,c2,c3,c4,c5,acc d (R.map aJ)],x10,x11,x12,x13,.tsl a.ji ((bK σ f.regs f.ins).map aJ),.iv (.int .i64 (bK σ f.regs f.ins).length),j_ i,P,G] S = .ret (.exit 0,[x0,x1,x2,x3,x4,x5,.ptr a.j 43 0,.ptr jc 27 0,.fn 16 [] [.ptr jc 27 0],.lb [c0,c1,c2,c3,c4,c5,acc u (R'.map aJ)],g,r,x12,x13,.tsl a.ji ((bK σ f.regs f.ins).map aJ),.iv (.int .i64 (bK σ f.regs f.ins).length),.iv (.int .i64 (bK σ f.regs f.ins).length),p,k],S')/\Kp0 S0.length S0 S'/\aXs f σ o O R' (bK σ f.regs f.ins).length
 |0,i,S,d,R,x10,x11,P,G,h,hk,ha,hj,hR=>by obtain rfl:i=(bK σ f.regs f.ins).length:=A_;refine⟨S,d,R,x10,x11,z_,G,aE K _ _ t6L0.eq_1 ?_,hk,hR⟩;simp(disch:=omega)only[go_sem]
 |m+1,i,S,d,R,x10,x11,P,G,h,hk,ha,hj,hR=>by
  have N:i<(bK σ f.regs f.ins).length:=A_;have hg:=lI σ f.regs f.ins;have hi:=hf.n;have T:=bUo (j:=a.ji) N;obtain⟨h8,h5,h6⟩:=aHd hf hv N;obtain⟨v,S1,S2,H,fz,k2⟩:=bMc (n:=n) (hk.2 _ _ (aN W) W) _ h5 h6 (by rw[hn];exact h8);have h1:=hk.trans' k2;have fl:=bEh σ f.ins f.regs 0;have h4:=bK4 (j:=a.jf) (l:=frM σ f.regs f.ins 0) (i:=i) A_;have hd:frM σ f.regs f.ins 0≠[]:=fun e=>by rw[e]at fl;simp at fl;omega
  have fc:∃c,c<f.ins.length/\(frM σ f.regs f.ins 0).getD i 0=((c:Nat):Int):=by obtain⟨c,j,W,hj,e⟩:=gG N;have:=bP5 σ f.ins f.regs 0 c j W hj;rw[<-e,A9]at this;exact⟨c,W,by rw[b_,this];rfl⟩
  obtain⟨c,I,Y⟩:=fc;have s2:=hs.kp h1;have V:=s2.blk;have sn:=fun t=>hR.snoc (f:=f) t;rw[Y,Int.toNat_natCast]at sn;rw[Y]at h4;have hh:∀ {x:VI},(aJ x).length=8/\(aJ x).all nB=true:=fun {x}=>qF x;have J:At 8 28 (R.map aJ) d S2:=fun F=>k2.2 _ _ (aN (ha F)) (ha F);have he:(R.map aJ).length=i:=by rw[P_,hR.len]
  have L:∀(S3:aA) (z:VI),Kp0 S2.length S2 S3->At 8 28 (R.map aJ) d S3/\Kp0 S0.length S0 (gS1 8 28 (R.map aJ) d S3)/\At 8 28 ((R++[z]).map aJ) (gI (R.map aJ) d S3) (gS1 8 28 (R.map aJ) d S3)/\(R++[z]≠[]->S0.length<=gI (R.map aJ) d S3)/\bA false 8 96 28 S3 (acc d (R.map aJ)) (.iv (.sl .full [aJ z]))=some (acc (gI (R.map aJ) d S3) ((R++[z]).map aJ),gS1 8 28 (R.map aJ) d S3):=fun S3 z h3=>by
   have A:=h1.trans' h3;have a3:At 8 28 (R.map aJ) d S3:=fun F=>h3.2 _ _ (aN (J F)) (J F);have D:=bCk (b:=96) (t:=.full) a3 (qF z) (aJz _) (bR (by rw[he];omega));refine⟨a3,?_,?_,fun _=>?_,?_⟩
   .unfold gS1;split;.exact⟨by rw[H_];have:=A.1;omega,fun q b hq hb=>aR (A.2 q b hq hb) _⟩
    .rename_i F;refine⟨by rw[F5];exact A.1,fun q b hq hb=>?_⟩;have:=hj (fun e=>F (by rw[e];rfl));rw[aB A_];exact A.2 q b hq hb
   .rw[D0];exact aC7 a3 (aJ z)
   .unfold gI;split;.exact A.1
    .rename_i F;exact hj (fun e=>F (by rw[e];rfl))
   .rw[D0];exact D
  rw[dH]at T;generalize hy:(bK σ f.regs f.ins).getD i default=y at *
  by_cases hop:y.op=67
  .obtain⟨w,S3,S4,t,h9,h2,k4,_⟩:=bSe (i:=c) I (hO c I) s2;obtain⟨a4,kg,ag,jg,D⟩:=L S4 (sG (iU o) σ (wlI 0 (O c)) t y) k4;obtain⟨S',u,R',g,r,p,k,C,U,Q⟩:=bEi hf hv hn hO hs W x0 x1 x2 x3 x4 x5 c0 c1 c2 c3 c4 c5 x12 x13 m (i+1) _ _ _ (j_ i) (.lb ((aJ (sG (iU o) σ (wlI 0 (O c)) t y)).map .iv)) e_ e_ A_ kg ag jg (sn t);rw[show((i+1:Nat):Int)=(i:Int)+1 by omega]at C;refine⟨S',u,R',g,r,p,k,aE K _ _ t6L0.eq_1 ?_,U,Q⟩;have ef:sG (iU o) σ (wlI 0 (O c)) t y={fnI (iU o) y with mp:=eM (slF σ (wlI 0 (O c))),tm:=t}:=by unfold sG;rw[K_ hop]
   rw[ef]at C D ag;have es:(sk0 σ f).s=σ:=rfl;rw[es]at h2;have E:aZ (frM σ f.regs f.ins 0)≠[]:=fun e=>hd (by unfold aZ TM.one at e;exact List.map_eq_nil_iff.1 e);have h7:acc a.jf (aZ (sk0 σ f).o)=.tsl a.jf (aZ (frM σ f.regs f.ins 0)):=jQ _ E;unfold spB at V;rw[h7]at V;generalize gS1 8 28 (R.map aJ) d S4=S5 at *
   generalize gI (R.map aJ) d S4=jd5 at *
   generalize eM (slF σ (wlI 0 (O c)))=M at *
   generalize (R++[{fnI (iU o) y with mp:=M,tm:=t}]).map aJ=L5 at *
   have eo:(fnI (iU o) y).op=y.op:=rfl;rw[<-eo]at hop;generalize fnI (iU o) y=z at *
   rw[dH]at D fz H;rw[aY]at C;dsimp only at D C;generalize acc a.ji ((sk0 σ f).c.map aJ)=AC at *
   generalize (bK σ f.regs f.ins).length=CL at *
   generalize (bK σ f.regs f.ins).map aJ=CV at *
   generalize aZ (frM σ f.regs f.ins 0)=FR at *
   generalize bF O f.ins.length=RL at *
   have Z:(z.op==67)=true:=by simp[hop]
   simp(disch:=omega)only[go_sem,T,H,fz,Z,V,h4,h9,h2,D,aC];exact X_ er C
  .obtain⟨a4,kg,ag,jg,D⟩:=L S2 (sG (iU o) σ (wlI 0 (O c)) .no y) ⟨L_ _,fun q b _ h=>h⟩;obtain⟨S',u,R',g,r,p,k,C,U,Q⟩:=bEi hf hv hn hO hs W x0 x1 x2 x3 x4 x5 c0 c1 c2 c3 c4 c5 x12 x13 m (i+1) _ _ _ (j_ i) (.lb ((aJ (sG (iU o) σ (wlI 0 (O c)) .no y)).map .iv)) e_ z_ A_ kg ag jg (sn .no);rw[show((i+1:Nat):Int)=(i:Int)+1 by omega]at C;refine⟨S',u,R',g,r,p,k,aE K _ _ t6L0.eq_1 ?_,U,Q⟩;have ef:sG (iU o) σ (wlI 0 (O c)) .no y=fnI (iU o) y:=by unfold sG;rw[I_ hop]
   rw[ef]at C D ag;generalize gS1 8 28 (R.map aJ) d S2=S5 at *
   generalize gI (R.map aJ) d S2=jd5 at *
   generalize (R++[fnI (iU o) y]).map aJ=L5 at *
   have eo:(fnI (iU o) y).op=y.op:=rfl;generalize fnI (iU o) y=z at *
   rw[dH]at D fz H;rw[aY]at C;rw[<-eo]at hop;generalize (bK σ f.regs f.ins).length=CL at *
   generalize (bK σ f.regs f.ins).map aJ=CV at *
   simp(disch:=omega)only[go_sem,T,H,fz,hop,D,aC];exact X_ er C
structure aJ1 (f:VF) (v:TV) (σ:List Int) (n:Nat) (o:Nat->Int) (O:Nat->List Nat) (R:List VI) (t:Tag):Prop where
 bare:qB f
 reach:Reach f σ
 hn:(n:Int)=rwR σ f.regs f.ins
 col:zO (plC σ f.regs f.ins) n o
 wan:gY n o=[]
 out:∀i,i<f.ins.length->∀x,x∈wlI 0 (O i)↔1<=x/\x<f.regs/\zH f.ins x i
 acc:aXs f σ o O R (bK σ f.regs f.ins).length
 val:v=.tup [.iv (.agg [.int .i64 f.fn,.int .i64 32,.int .i64 σ.length,.int .i64 f.nd,.int .i64 f.pr,.bool f.rs,.sl t (R.map aJ)]),.iv (.int .i64 σ.length),.iv (.int .i64 0)]
def noV:TV:=.tup [.iv (.agg [.int .i64 0,.int .i64 0,.int .i64 0,.int .i64 0,.int .i64 0,.bool false,.sl .nil []]),.iv (.int .i64 0),.iv (.int .i64 2)]
theorem aQp{fn rg sl nd pr:Int}{rs:Bool}{ti:Tag}{ins:List VI}(a:TM.Pure K 12 [.iv (.agg (kN fn rg sl nd pr rs ti ins))] z_):gP K 6 [.iv (.agg (kN fn rg sl nd pr rs ti ins))] (·=noV):=by
 refine gP.of ?_ rfl;unfold kN at *
 refine aT t6 rfl rfl ?_;simp(disch:=omega)only[t6,go_sem,aD a];rfl
theorem aQq(f:VF)(hr:f.regs<=110)(hn:f.ins.length<=100)(d:∀x∈f.ins,x.us.length<=1000/\cY x.tu x.us)(N:TM.Pure K 12 [.iv (.agg (iT f))] e_)(g:qB f):gP K 6 [.iv (.agg (iT f))] fun v=>∃σ n o O R t,aJ1 f v σ n o O R t:=by
 have Y:FOK f:=⟨g,hn,hr,d⟩
 obtain⟨I,O,_,T,m⟩:=aI6 (f:=f) A_ A_ (fun x y=>⟨by have:=(d x y).1;omega,(d x y).2⟩) g.chk;have E:SpS ((([aG.mp [] 0]:aA)++[aG.cells 43 false [j_ f.fn,j_ f.regs,j_ f.sl,j_ f.nd,j_ f.pr,.iv (.bool f.rs),.iv (.sl f.ti (f.ins.map aJ)),j_ 0,j_ 0,j_ 0,j_ 0,j_ 0,z_,k_,k_,.map 0,.iv (.sl (iJ (bF O f.ins.length)) (bF O f.ins.length))]]).set 1 (spB ⟨1,0,0,0⟩ f (.sl (iJ (bF O f.ins.length)) (bF O f.ins.length)) ⟨[],f.regs,[],[]⟩)) ⟨1,0,0,0⟩ f (.sl (iJ (bF O f.ins.length)) (bF O f.ins.length)) ⟨[],f.regs,[],[]⟩ :=
  ⟨rfl,⟨[],0,rfl,fun n=>rfl,rfl⟩,fun h=>absurd rfl h,fun h=>absurd rfl h,fun h=>absurd rfl h,rfl⟩
 obtain⟨S1,a1,s,s1,k1,Z,u⟩:=aU9 (a:=⟨1,0,0,0⟩) (σ:=[]) _ _ _ _ _ _ _ _ rfl E A_ A_ (fun x y=>⟨by have:=(d x y).1;omega,(d x y).2⟩) (fun _ _ _ _=>rfl);have r:=bSd Y s1;rw[Z,u]at r;dsimp only at s r Z u;simp only[List.cons_append,List.nil_append]at s;unfold gP;unfold iT at *
 refine dG K _ (fn:=t6) rfl rfl ?_;have hO:=fun i D=>(m i D).2.2;have Q:∀i,i<f.ins.length->(wlI 0 (O i)).length<=100000:=fun i D=>by have:=(m i D).1.2;omega
 clear m;simp(disch:=omega)only[t6,go_sem,aD N,aD T,s];refine aBx (P:=fun q=>bSc f (.sl (iJ (bF O f.ins.length)) (bF O f.ins.length)) 1 0 S1 q.1 q.2) (aCu r fun v S' h=>by rw[aFk];exact h) fun v S2 h=>?_;obtain⟨⟨σ,n,o,a,rfl,s2,hj,w,p,A,z,hw⟩,k2⟩:=h;have hσ:=p.ok.len;have C:=s2.app [.cells 27 false [.iv (.sl .no (TM.one (.int .i64) ((List.range n).map o)))]];have b3:=cM S2 (.cells 27 false [.iv (.sl .no (TM.one (.int .i64) ((List.range n).map o)))]);have U:=C.blk;have h5:=lI σ f.regs f.ins;have h8:=(pG g).1;have G:(bK σ f.regs f.ins).map aJ≠[]:=fun e=>by have:=X_ List.length e;rw[P_,List.length_nil]at this;omega
 obtain⟨S',h7,R',h0,h4,h2,h1,W,k6,hR⟩:=bEi Y p.ok.virt A (o:=o) Q C b3 (.iv (.agg [.int .i64 f.fn,.int .i64 f.regs,.int .i64 f.sl,.int .i64 f.nd,.int .i64 f.pr,.bool f.rs,.sl f.ti (f.ins.map aJ)])) (.lb [j_ f.fn,j_ f.regs,j_ f.sl,j_ f.nd,j_ f.pr,.iv (.bool f.rs),.iv (.sl f.ti (f.ins.map aJ))]) (.lb [j_ 0,j_ 0,j_ 0,j_ 0,j_ 0,z_,k_]) (j_ 0) (j_ 0) (.iv (.sl (iJ (bF O f.ins.length)) (bF O f.ins.length))) (j_ f.fn) (j_ 32) (j_ σ.length) (j_ f.nd) (j_ f.pr) (.iv (.bool f.rs)) z_ z_ (bK σ f.regs f.ins).length 0 _ 0 [] u_ u_ u_ u_ A_ ⟨L_ _,fun q b _ h=>h⟩ (fun h=>absurd rfl h) (fun h=>absurd rfl h) ⟨rfl,fun k hk=>absurd hk (R4 _)⟩;rw[n0_,show([]:List VI).map aJ=[] from rfl,mD,hj]at W;have V:=C.kp k6;have L:=V.blk;have j:∀ {S:aA},SpS S a f (.sl (iJ (bF O f.ins.length)) (bF O f.ins.length)) (sk0 σ f)->sI .mp S (.map 0)=some (j_ σ.length):=fun {S} hs=>by
  obtain⟨l,c,u,_,m3⟩:=hs.map;rw[w]at u;have:(mpR kE l).length=σ.length:=by rw[aLn,m3];rfl
  simp[sI,zS,lenOf,u,this];rfl
 have F:R'.map aJ≠[]:=fun e=>by have:=X_ List.length e;rw[P_,hR.len,List.length_nil]at this;omega
 have e3:=j C;have e6:=j V;have H:acc a.ji ((sk0 σ f).c.map aJ)=.tsl a.ji ((bK σ f.regs f.ins).map aJ):=jQ _ G;have J:((bK σ f.regs f.ins).map aJ).length=(bK σ f.regs f.ins).length:=P_ _;unfold spB at U L;rw[H,hj,w]at U L;generalize hRL:bF O f.ins.length=RL at *
 simp(disch:=omega)only[go_sem,U,e3,J];rw[W,jQ _ F];simp(disch:=omega)only[go_sem,L,e6];exact bG ⟨_,rfl,⟨σ,n,o,O,R',_,⟨g,p,A,z,hw,hO,hR,rfl⟩⟩⟩
def isB(b:Bool):Out (TV×aA)->Bool
 |.ret (.iv (.bool c),_)=>c==b
 |_=>false
theorem tA{n f:Nat}{a:Tn_}{b:Bool}(h:isB b ((ex K n).call f a [])=true):TM.Pure K f a (.iv (.bool b)):=by
 unfold isB at h;split at h;.rename_i c S e;refine⟨_,S,aE2 e,?_⟩;rw[eq_of_beq h];rfl
 .cases h
def gI1:VI:=⟨64,32,4,0,0,0,.nil,[],.nil,[]⟩
def gIc:VI:=⟨67,4,0,0,8,0,.nil,[],.nil,[]⟩
def gI2:List VI:=[⟨64,33,4,0,0,0,.nil,[],.nil,[]⟩,⟨64,4,32,0,0,0,.nil,[],.nil,[]⟩,⟨64,5,33,0,0,0,.nil,[],.nil,[]⟩,⟨68,0,0,0,-1,0,.full,[4,5],.nil,[]⟩]
def fT:VF:=⟨0,34,0,0,0,false,.no,gI1::gIc::gI2⟩
def fF:VF:=⟨0,34,0,0,0,false,.no,gI1::gI2⟩
theorem bP6:TM.Pure K 12 [.iv (.agg (iT fT))] e_:=tA (n:=60) (by kernel_rfl)
theorem bP7:TM.Pure K 12 [.iv (.agg (iT fF))] e_:=tA (n:=60) (by kernel_rfl)
def aAy(Q:List VI)(T:List (List Int)):Bool:=(List.range Q.length).all fun k=>(bB (Q.getD k default)).all (fun w=>decide (w∈T.getD k []))&&(nJ Q k).all fun k'=>(T.getD k'.toNat []).all fun w=>decide (w∈aW (Q.getD k default))||decide (w∈T.getD k [])
def bUp(l:List Int):List Int->List Int
 |[]=>l
 |x::m=>bUp (if x∈l then l else x::l) m
def bUq(Q:List VI)(T:List (List Int)):List (List Int):=(List.range Q.length).map fun k=>bUp (bB (Q.getD k default)) ((nJ Q k).flatMap fun k'=>(T.getD k'.toNat []).filter fun w=>decide (w∉aW (Q.getD k default)))
def itT(Q:List VI):Nat->List (List Int)
 |0=>[]
 |n+1=>bUq Q (itT Q n)
theorem bEj{Q:List VI}{T:List (List Int)}(h:aAy Q T=true){w:Int}{k:Nat}(c:LvR Q w k):w∈T.getD k []:=by
 have b:∀k,k<Q.length->(∀w∈bB (Q.getD k default),w∈T.getD k [])/\∀k'∈nJ Q k,∀w∈T.getD k'.toNat [],w∈aW (Q.getD k default)\/w∈T.getD k []:=fun k b=>by have a:=C1.1 h k (C2.2 b);simp only[O_,C1,D3,p_]at a;exact a
 have out:∀k,¬k<Q.length->Q.getD k default=default:=fun k h=>by rw[b_,B7 A_];rfl
 induction c with
 |@use k a =>
  by_cases hq:k<Q.length;.exact(b k hq).1 _ a
  .rw[out k hq]at a;cases a
 |@step k k' a _ h3 ih =>
  by_cases hq:k<Q.length
  .rcases(b k hq).2 k' a _ ih with h4|h4;.exact absurd h4 h3
   .exact h4
  .unfold nJ at a;rw[out k hq]at a;have e:¬(((default:VI).op=68)\/(default:VI).op=72):=C_;have e2:¬((26<=(default:VI).op/\(default:VI).op<=31)\/(default:VI).op=66):=C_;rw[I_ e,I_ e2,I_ A_]at a;cases a
def aVf(Q:List VI)(T:List (List Int))(i:Nat):List Int:=(nJ Q i).flatMap fun k=>T.getD k.toNat []
def aXt(Q:List VI)(T:List (List Int))(m:Int):List Int:=(List.range Q.length).flatMap fun i=>(aW (Q.getD i default)).flatMap fun d=>(aW (Q.getD i default)++aVf Q T i).flatMap fun w=>if w=d then []else(if d=m then [w]else [])++(if w=m then [d]else [])
theorem aXu{a b c d:Int}(h:prP a b=prP c d):(a=c/\b=d)\/(a=d/\b=c):=by unfold prP at h;split at h<;>split at h<;>simp only[B4]at h<;>omega
theorem aXv{Q:List VI}{T:List (List Int)}(h:aAy Q T=true){m t:Int}(c:aDm Q m t):t∈aXt Q T m:=by
 obtain⟨i,l,d,w,f,b,n,_,j⟩:=c;refine G2.2 ⟨i,C2.2 l,G2.2 ⟨d,f,G2.2 ⟨w,?_,?_⟩⟩⟩
 .rcases b with b|⟨k,g,e⟩;.exact G9 _ b
  .exact J5 _ (G2.2 ⟨k,g,bEj h e⟩)
 .rw[I_ n];rcases aXu j with⟨a,e2⟩|⟨a,e2⟩;.rw[K_ a.symm];simp[e2]
  .rw[K_ a.symm];simp[e2]
theorem qZ{Q:List VI}{T:List (List Int)}(h:aAy Q T=true){n:Nat}{o:Tg_}(f:zO Q n o){m:Nat}(g:32<=m)(i:m<n)(v:Int)(p:(aXt Q T m).all (fun t=>decide (t=v)||decide (3<=t/\t<32))=true):¬o m<0:=by
 intro j;have r:o m = -1:=by have:=f.virt m g i;omega
 have q:=f.spill m g i r;have one:∀d:Nat,1<=d->d<=2->0<=v/\o v.toNat=d:=fun d c l=>by
  obtain⟨t,s,k⟩:=q d c A_;have:=C1.1 p _ (aXv h s);simp only[D3,p_]at this;rcases this with e|⟨e2,e3⟩;.rw[<-e,Int.toNat_natCast];exact⟨by omega,k⟩
  .rw[f.mach t A_]at k;omega
 have a:=(one 1 A_ A_).2;have b:=(one 2 A_ A_).2;rw[a]at b;omega
theorem aQr{n:Nat}{o:Tg_}{p:Tj_}(h:∀m,m<n->(o m<0↔p m=true)):gY n o=((List.range n).filter p).map fun i:Nat=>(i:Int):=by
 unfold gY zP;rw[P_,F6];congr 1;refine P5 fun m c=>?_;have a:=C2.1 c;have e:((List.range n).map o).getD m 0=o m:=by rw[b_,l_,E8 a];rfl
 rw[e];cases hp:p m with
 |true=>exact V_ ((h m a).2 hp)
 |false=>exact Z_ fun b=>by rw[(h m a).1 b]at hp;cases hp
theorem aJ2{Q:List VI}{n:Nat}{o:Tg_}(a:zO Q n o){m:Nat}(h:m<32):¬o m<0:=by rw[a.mach m h];omega
theorem rwF:rwR [] 34 fF.ins=34:=by kernel_rfl
theorem bUr:aAy (plC [] 34 fF.ins) (itT (plC [] 34 fF.ins) 8)=true:=by kernel_rfl
theorem bUs:(aXt (plC [] 34 fF.ins) (itT (plC [] 34 fF.ins) 8) 32).all (fun t=>decide (t=33)||decide (3<=t/\t<32))=true:=by kernel_rfl
theorem bUt:(aXt (plC [] 34 fF.ins) (itT (plC [] 34 fF.ins) 8) 33).all (fun t=>decide (t=32)||decide (3<=t/\t<32))=true:=by kernel_rfl
theorem bWl{n:Nat}{o:Tg_}(c:(n:Int)=rwR [] fF.regs fF.ins)(b:zO (plC [] fF.regs fF.ins) n o):gY n o=[]:=by
 have e:rwR [] fF.regs fF.ins=34:=rwF;obtain rfl:n=34:=A_;rw[aQr (p:=fun _=>false) fun m d=>?_];.rfl
 .refine⟨fun a=>?_,fun a=>by cases a⟩;by_cases h32:m<32;.exact absurd a (aJ2 b h32)
  .rcases(by omega:m=32\/m=33)with rfl|rfl;.exact absurd a (qZ bUr b A_ A_ 33 bUs)
   .exact absurd a (qZ bUr b A_ A_ 32 bUt)
theorem bSf{σ:Ta_}(h:Reach fF σ):σ=[]:=by
 induction h with
 |nil=>rfl
 |step _ hn hc h0 ih =>subst ih;exact absurd (bWl hn hc) h0
theorem bWm:rwR [] 34 fT.ins=34:=by kernel_rfl
theorem bUu:aAy (plC [] 34 fT.ins) (itT (plC [] 34 fT.ins) 8)=true:=by kernel_rfl
theorem bUv:(aXt (plC [] 34 fT.ins) (itT (plC [] 34 fT.ins) 8) 33).all (fun t=>decide (t=32)||decide (3<=t/\t<32))=true:=by kernel_rfl
theorem bUw:LvR (plC [] 34 fT.ins) 32 2:=.step (k:=3) (by decide +kernel) (.use (by decide +kernel)) (by decide +kernel)
theorem bUx{d:Nat}(a:1<=d)(c:d<=24):aDm (plC [] 34 fT.ins) (32:Nat) d:=by
 refine⟨1,by decide +kernel,d,32,?_,.inr ⟨2,by decide +kernel,bUw⟩,by omega,fun h=>?_,bCv _ _⟩
 .have b:∀d:Fin 25,1<=d.1->((d.1:Int))∈aW ((plC [] 34 fT.ins).getD 1 default):=by decide +kernel
  exact b ⟨d,by omega⟩ a
 .exact absurd h.1 (by decide +kernel)
theorem bP8{n:Nat}{o:Tg_}(g:(n:Int)=rwR [] fT.regs fT.ins)(b:zO (plC [] fT.regs fT.ins) n o):gY n o=[32]:=by
 have e:rwR [] fT.regs fT.ins=34:=bWm;obtain rfl:n=34:=A_;have c:o 32 = -1:=by
  rcases b.virt 32 A_ A_ with h|⟨h1,h2⟩;.exact h
  .obtain⟨d,f⟩:=H6 (show 0<=o 32 by omega);exact b.edge 32 d A_ A_ (bUx A_ A_) (by rw[b.mach d A_];exact f)
 rw[aQr (p:=fun m=>m==32) fun m i=>?_];.rfl
 .by_cases hm32:m<32;.exact⟨fun a=>absurd a (aJ2 b hm32),fun a=>by rw[eq_of_beq a]at hm32;omega⟩
  .rcases(by omega:m=32\/m=33)with rfl|rfl;.exact⟨fun _=>rfl,fun _=>by rw[c];decide⟩
   .refine⟨fun a=>?_,fun a=>by cases a⟩;exact absurd a (qZ bUu b A_ A_ 32 bUv)
theorem bWn:rwR [32] 34 fT.ins=36:=by kernel_rfl
theorem aVg:aAy (plC [32] 34 fT.ins) (itT (plC [32] 34 fT.ins) 12)=true:=by kernel_rfl
theorem nbT:[(32,0),(33,35),(34,0),(35,33)].all (fun p:Int×Int=>(aXt (plC [32] 34 fT.ins) (itT (plC [32] 34 fT.ins) 12) p.1).all (fun t=>decide (t=p.2)||decide (3<=t/\t<32)))=true:=by kernel_rfl
theorem bUy{n:Nat}{o:Tg_}(d:(n:Int)=rwR [32] fT.regs fT.ins)(b:zO (plC [32] fT.regs fT.ins) n o):gY n o=[]:=by
 have e:rwR [32] fT.regs fT.ins=36:=bWn;obtain rfl:n=36:=A_;have c:=C1.1 nbT;rw[aQr (p:=fun _=>false) fun m f=>?_];.rfl
 .refine⟨fun a=>?_,fun a=>by cases a⟩;by_cases h32:m<32;.exact absurd a (aJ2 b h32)
  .rcases(by omega:m=32\/m=33\/m=34\/m=35)with rfl|rfl|rfl|rfl;.exact absurd a (qZ aVg b A_ A_ 0 (c (32,0) B_))
   .exact absurd a (qZ aVg b A_ A_ 35 (c (33,35) B_))
   .exact absurd a (qZ aVg b A_ A_ 0 (c (34,0) B_))
   .exact absurd a (qZ aVg b A_ A_ 33 (c (35,33) B_))
theorem bSg{σ:Ta_}(h:Reach fT σ):σ=[]\/σ=[32]:=by
 induction h with
 |nil=>exact .inl rfl
 |step _ hn hc h0 ih =>
  rcases ih with rfl|rfl;.rw[bP8 hn hc];exact .inr (by decide +kernel)
  .exact absurd (bUy hn hc) h0
def S5T:aA:=match(ex K 30).call 5 [.iv (.bool true)] []with | .ret r=>r.2|_=>[]
def A5(j v n:Nat):TV:=.agg [.iv (.int .i64 0),.iv (.int .i64 34),.iv (.int .i64 0),.iv (.int .i64 0),.iv (.int .i64 0),.iv (.bool false),.msl j v 0 n n 8]
def aJ3(S:aA)(A:TV):aA:=(bW S [A]).getD []
def S5F:aA:=match(ex K 30).call 5 [.iv (.bool false)] (aJ3 S5T (A5 1 1 6))with | .ret r=>r.2|_=>[]
theorem bEk:(lim K).call 5 [e_] []=.ret (A5 1 1 6,S5T):=aE2 (n:=30) (by kernel_rfl)
theorem bSh:(lim K).call 5 [z_] (aJ3 S5T (A5 1 1 6))=.ret (A5 3 0 5,S5F):=aE2 (n:=30) (by kernel_rfl)
theorem bMe:cG S5T [A5 1 1 6]=some [.iv (.agg (iT fT))]:=by kernel_rfl
theorem bMf:cG S5F [A5 3 0 5]=some [.iv (.agg (iT fF))]:=by kernel_rfl
theorem ao7(a b c d e f g h:IV):iX (.iv (.cp [a,b,c,d,e,f,g,h])) 7=some (.iv (.cp [h])):=by simp[iX]
theorem bUz:bW S5T [A5 1 1 6]=some (aJ3 S5T (A5 1 1 6)):=by kernel_rfl
theorem bU0:bW S5F [A5 3 0 5]=some (aJ3 S5F (A5 3 0 5)):=by kernel_rfl
def pH(R:List VI):List Int:=R.flatMap fun x=>if x.op=67 then x.mp else []
def vM(R:List VI):Nat:=(R.filter fun x=>x.op==67).length
theorem aXw(R:List VI)(x:VI):pH (R++[x])=pH R++if x.op=67 then x.mp else []:=by unfold pH;rw[List.flatMap_append];simp
theorem aXx(R:List VI)(x:VI):vM (R++[x])=vM R+if x.op=67 then 1 else 0:=by unfold vM;rw[H5,H_];by_cases h:x.op=67<;>simp[h]
theorem aQs{cs:Tn_}{fn rg sl nd pr:Int}{rs:Bool}{ti:Tag}{R:List VI}(q:R.length<=1000)(d:∀x∈R,x.mp.length<=1000)(x0:TV):∀(m i:Nat) (x5 x6:TV),i+m=R.length->(pH (R.take i)).length<=i*1000 ->∃(k n:TV),lp' (lim K) t19L0 [x0,.lb [j_ fn,j_ rg,j_ sl,j_ nd,j_ pr,.iv (.bool rs),.iv (.sl ti (R.map aJ))],acc 0 (aZ (pH (R.take i))),j_ (vM (R.take i)),j_ i,x5,x6] (vN 1 3 (aZ (pH (R.take i)))) = .ret (.exit 0,[x0,.lb [j_ fn,j_ rg,j_ sl,j_ nd,j_ pr,.iv (.bool rs),.iv (.sl ti (R.map aJ))],acc 0 (aZ (pH R)),j_ (vM R),j_ R.length,k,n],vN 1 3 (aZ (pH R)))
 |0,i,x5,x6,h,hl=>by
  obtain rfl:i=R.length:=A_;rw[C5]at *
  have a:(R.map aJ).length=R.length:=P_ _;refine⟨z_,x6,aE K _ _ t19L0.eq_1 ?_⟩;simp(disch:=omega)only[go_sem,a]
 |m+1,i,x5,x6,h,hl=>by
  have e:i<R.length:=A_;have a:(R.map aJ).length=R.length:=P_ _;have g:=jF (w:=8) (f:=aJ) iF (t:=ti) (l:=R) (i:=(i:Int)) A_;rw[Int.toNat_natCast,dH]at g;have r:=bS e;have o:R.take (i+1)=R.take i++[R.getD i default]:=by rw[P7 e];simp[List.getD,D_ e]
  have c:=aXw (R.take i) (R.getD i default);have e2:=aXx (R.take i) (R.getD i default);rw[<-o]at c e2;have s:(vM (R.take i))<=i:=by unfold vM;have:=E0 (fun x:VI=>x.op==67) (R.take i);rw[J7]at this;omega
  have u:=d _ r;generalize R.getD i default=x at *
  by_cases hop:x.op=67
  .rw[K_ hop]at c e2;have p:=bI8 (w:=1) (b:=8) (el:=3) (x:=.iv (.sl x.tm (TM.one (.int .i64) x.mp))) (ys:=aZ x.mp) (fun S=>qQ.sl ..) (nF _) (nF (pH (R.take i))) (bR (by rw[eG,eG];omega));rw[show aZ (pH (R.take i))++aZ x.mp=aZ (pH (R.take i)++x.mp) by simp[aZ,TM.one],<-c]at p;obtain⟨k,n,j⟩:=aQs (cs:=cs) (fn:=fn) (rg:=rg) (sl:=sl) (nd:=nd) (pr:=pr) (rs:=rs) (ti:=ti) q d x0 m (i+1) e_ e_ A_ (by rw[c,H_];omega);rw[show((i+1:Nat):Int)=(i:Int)+1 by omega,e2,show((vM (R.take i)+1:Nat):Int)=(vM (R.take i):Int)+1 by omega]at j;refine⟨k,n,aE K _ _ t19L0.eq_1 ?_⟩;generalize vM (R.take i)=cn at *
   generalize aZ (pH (R.take i))=A at *
   generalize aZ (pH (R.take (i+1)))=B at *
   simp(disch:=omega)only[go_sem,a,g,hop,ao7,p,aC];exact X_ er j
  .rw[I_ hop]at c e2;rw[A0]at c;obtain⟨k,n,j⟩:=aQs (cs:=cs) (fn:=fn) (rg:=rg) (sl:=sl) (nd:=nd) (pr:=pr) (rs:=rs) (ti:=ti) q d x0 m (i+1) e_ z_ A_ (by rw[c];omega);rw[show((i+1:Nat):Int)=(i:Int)+1 by omega,c,e2,Nat.add_zero]at j;refine⟨k,n,aE K _ _ t19L0.eq_1 ?_⟩;generalize vM (R.take i)=cn at *
   generalize aZ (pH (R.take i))=A at *
   simp(disch:=omega)only[go_sem,a,g,hop,aC];exact X_ er j
theorem bSi(fn rg sl nd pr:Int)(rs:Bool)(ti:Tag){R:List VI}(c:R.length<=1000)(a:∀x∈R,x.mp.length<=1000):∃t,TM.Pure K 19 [.iv (.agg (kN fn rg sl nd pr rs ti R))] (.tup [.iv (.sl t (aZ (pH R))),j_ (vM R)]):=by
 obtain⟨d,e,b⟩:=aQs (cs:=[]) (fn:=fn) (rg:=rg) (sl:=sl) (nd:=nd) (pr:=pr) (rs:=rs) (ti:=ti) c a (.iv (.agg (kN fn rg sl nd pr rs ti R))) R.length 0 u_ u_ A_ (by simp[pH]);rw[n0_,show pH (R.take 0)=[] from rfl,show((vM (R.take 0):Nat):Int)=0 from rfl,show aZ []=[] from rfl,mD,aFo]at b;refine⟨iJ (aZ (pH R)),?_⟩
 .unfold kN at *
  refine aT t19 rfl rfl ?_;simp(disch:=omega)only[t19,go_sem];rw[b];simp(disch:=omega)only[go_sem,aI0]
theorem aVh(g:Int->Int)(σ W:Ta_)(t:Tag)(y:VI):(sG g σ W t y).op=y.op/\(sG g σ W t y).im=y.im/\(sG g σ W t y).lb=y.lb:=by unfold sG;split<;>exact⟨rfl,rfl,rfl⟩
theorem aVi(a:Int):∀W:List Int,W.Pairwise (·<·)->slF [a] W=if a∈W then [0]else []
 |[],_=>by simp[slF]
 |x::W,h=>by
  rw[E3]at h;have c:=aVi a W h.2;have e:slF [a] (x::W)=(match cC [a] x with|some q=>[(q:Int)]|none=>[])++slF [a] W:=by unfold slF;cases h:cC [a] x<;>simp[List.filterMap_cons,h]
  rw[e,c];by_cases hx:a=x
  .subst hx;have:cC [a] a=some 0:=by simp[cC]
   rw[this,I_ (fun b=>by have:=h.1 a b;omega),K_ (N1 ..)];rfl
  .have:cC [a] x=none:=by simp[cC,hx]
   rw[this];by_cases b:a∈W;.rw[K_ b,K_ (L7 _ b)];rfl
   .rw[I_ b,I_ (fun h=>by rcases J_.1 h with h|h;exact hx h;exact b h)];rfl
theorem aVj:(bK [32] 34 fT.ins).length=8:=by kernel_rfl
theorem bWo:(bK [32] 34 fT.ins).map (·.op)=[64,74,67,64,73,64,64,68]:=by kernel_rfl
theorem frT:(frM [32] 34 fT.ins 0).getD 2 0=1:=by kernel_rfl
theorem bWp:zH fT.ins 32 1:=⟨2,by decide +kernel,.step (k:=3) (by decide +kernel) (.use (by decide +kernel)) (by decide +kernel)⟩
theorem bU1{α:Type}{R:List α}(h:R.length=8):∃a b c d e f g i,R=[a,b,c,d,e,f,g,i]:=by
 match R,h with
 |[a,b,c,d,e,f,g,i],_=>exact⟨a,b,c,d,e,f,g,i,rfl⟩
theorem bSj{v:TV}{σ:Ta_}{n:Nat}{o:Tg_}{O:Te_}{R:List VI}{t:Tag}(h:aJ1 fT v σ n o O R t):v=.tup [.iv (.agg (kN 0 32 1 0 0 false t R)),j_ 1,j_ 0]/\R.length<=1000/\(∀x∈R,x.op=67->x.mp=[0])/\pH R=[0]/\vM R=1:=by
 have y:σ=[32]:=by
  rcases bSg h.reach with rfl|rfl;.have:=bP8 h.hn h.col;rw[h.wan]at this;cases this
  .rfl
 subst y;have A:R.length=8:=by rw[h.acc.len];exact aVj
 have op:∀k,k<8->(R.getD k default).op=((bK [32] 34 fT.ins).getD k default).op:=fun k b=>by obtain⟨t,e⟩:=h.acc.at_ k (by show k<(bK [32] 34 fT.ins).length;rw[aVj];exact b);rw[e];exact(aVh ..).1
 have c:∀k,k<8->((bK [32] 34 fT.ins).getD k default).op=[64,74,67,64,73,64,64,68].getD k 0:=fun k b=>by rw[<-bWo,b_,b_,l_];rw[D_ (by rw[aVj];exact b)];rfl
 have d:(R.getD 2 default).mp=[0]:=by
  obtain⟨t,e⟩:=h.acc.at_ 2 (by show 2<(bK [32] 34 fT.ins).length;rw[aVj];omega);rw[e];unfold sG;have f:((bK [32] fT.regs fT.ins).getD 2 default).op=67:=c 2 A_;rw[K_ f];show eM (slF [32] (wlI 0 (O ((frM [32] fT.regs fT.ins 0).getD 2 0).toNat)))=[0]
  rw[show(frM [32] fT.regs fT.ins 0).getD 2 0=1 from frT,show((1:Int)).toNat=1 from rfl,aVi _ _ (aC3 ..),K_ ((h.out 1 C_ 32).2 ⟨by omega,by decide,bWp⟩)];rfl
 have a:=fun k b=>(op k b).trans (c k b);obtain⟨w,C,a2,a3,D,a5,a6,a7,rfl⟩:=bU1 A;have i:w.op=64:=a 0 A_;have l:C.op=74:=a 1 A_;have q:a2.op=67:=a 2 A_;have g:a3.op=64:=a 3 A_;have s:D.op=73:=a 4 A_;have p:a5.op=64:=a 5 A_;have m:a6.op=64:=a 6 A_;have u:a7.op=68:=a 7 A_;have r:a2.mp=[0]:=d;refine⟨h.val,by simp,fun x j z=>?_,by simp[pH,i,l,q,g,s,p,m,u,r],by simp[vM,i,l,q,g,s,p,m,u]⟩;simp only[J_,D1,H2]at j;rcases j with rfl|rfl|rfl|rfl|rfl|rfl|rfl|rfl<;>first|exact r|omega
theorem mpT{v:TV}{σ:Ta_}{n:Nat}{o:Tg_}{O:Te_}{R:List VI}{t:Tag}{f:VF}(l:qB f)(h:aJ1 f v σ n o O R t):∀x∈R,x.op≠67->x.mp=[]:=fun x m a=>by
 obtain⟨k,b,rfl⟩:=H3 m
 have i:R.getD k default=R[k]:=by rw[b_,D_ b];rfl
 rw[<-i]at a |-
 obtain⟨t,e⟩:=h.acc.at_ k (by rw[<-h.acc.len];exact b)
 rw[e,(aVh ..).1]at a
 rw[e]
 unfold sG
 rw[I_ a]
 show((bK σ f.regs f.ins).getD k default).mp=[]
 obtain⟨c,j,g,d,rfl⟩:=gG (σ:=σ) (r:=f.regs) (ins:=f.ins) (by rw[<-h.acc.len];exact b)
 rw[bPw g d]
 rcases oA (D_ d)with⟨_,_,w,q,_,_,e3⟩|⟨_,e3⟩|⟨_,q,w,_,_,_,e3⟩
 .rw[e3];rfl
 .rw[e3];exact(zM l (bS g)).2.2.2.2.1
 .rw[e3];rfl
def bSk(x:VI):Bool:=match x.tu,x.us with | .nil,[]=>true | .nil,_::_=>false|_,_=>true
theorem bMg{x:VI}(h:bSk x=true):cY x.tu x.us:=fun e=>by
 unfold bSk at h
 rw[e]at h
 cases hu:x.us with
 |nil=>rfl
 |cons a l=>rw[hu]at h;cases h
theorem gus(l:List VI)(n:Nat)(h:l.all (fun x=>decide (x.us.length<=n)&&bSk x)=true):∀x∈l,x.us.length<=n/\cY x.tu x.us:=fun x a=>by
 have:=C1.1 h x a
 simp only[O_,p_]at this
 exact⟨this.1,bMg this.2⟩
theorem bEl:qB fT:=by
 obtain⟨b,c,h⟩:=bC9 fT C_ C_ (gus _ _ C_);obtain⟨r,S,d,e2⟩:=c;obtain⟨e,S',e3,a⟩:=bP6;rw[d]at e3;cases e3
 rw[e2]at a;refine h ?_;cases b
 .cases a
 .rfl
theorem bSl:qB fF:=by
 obtain⟨b,c,h⟩:=bC9 fF C_ C_ (gus _ _ C_);obtain⟨r,S,d,e2⟩:=c;obtain⟨e,S',e3,a⟩:=bP7;rw[d]at e3;cases e3
 rw[e2]at a;refine h ?_;cases b
 .cases a
 .rfl
theorem alT:gP K 6 [.iv (.agg (iT fT))] fun v=>∃t R,v=.tup [.iv (.agg (kN 0 32 1 0 0 false t R)),j_ 1,j_ 0]/\R.length<=1000/\(∀x∈R,x.mp.length<=1000)/\pH R=[0]/\vM R=1 :=
 gP.mono (aQq fT C_ C_ (gus _ _ C_) bP6 bEl) fun v ⟨σ,n,o,O,R,t,h⟩=>by
  obtain⟨b,d,f,c,e⟩:=bSj h;refine⟨t,R,b,d,fun x a=>?_,c,e⟩;by_cases hop:x.op=67;.rw[f x a hop];simp
  .rw[mpT bEl h x a hop];simp
theorem alF:gP K 6 [.iv (.agg (iT fF))] fun v=>∃t R,v=.tup [.iv (.agg (kN 0 32 0 0 0 false t R)),j_ 0,j_ 0] :=
 gP.mono (aQq fF C_ C_ (gus _ _ C_) bP7 bSl) fun v ⟨σ,n,o,O,R,t,h⟩=>by have a:=bSf h.reach;subst a;exact⟨t,R,h.val⟩
theorem bU2:gP K 7 [] (·=e_):=by
 have d:mI (A5 1 1 6)=true:=rfl;have a2:mI (A5 3 0 5)=true:=rfl;have g:bY (A5 1 1 6)=false:=rfl;have l2:bY (A5 3 0 5)=false:=rfl;have i:=bEd g;have f:=bEd l2;simp only[qJ]at i f;have j:∀q,mZ q (A5 1 1 6)=A5 1 1 6:=fun q=>rfl;have k:∀q,mZ q (A5 3 0 5)=A5 3 0 5:=fun q=>rfl;have u:=bEk;have p:=bSh;have n:=bMe;have m:=bMf;have w:=bUz;have r:=bU0;generalize aJ3 S5T (A5 1 1 6)=F1 at *
 generalize aJ3 S5F (A5 3 0 5)=F2 at *
 have c:∀(a0 d a2 a3 a4 b:Int) (b0:Bool) (t:Tag) (l:M_),eY (.tup [.iv (.agg [.int .i64 a0,.int .i64 d,.int .i64 a2,.int .i64 a3,.int .i64 a4,.bool b0,.sl t l]),j_ b,j_ 0])=false:=fun _ _ _ _ _ _ _ _ _=>by simp[eY,iA]
 generalize A5 1 1 6=A1 at *
 generalize A5 3 0 5=A2 at *
 generalize S5T=S1 at *
 generalize S5F=S2 at *
 have h:∀t,indexAddrS 1 (.iv (.sl t [[.int .i64 0]])) 0=some (.iv (.cp [.int .i64 0])):=fun t=>rfl;unfold gP;refine dG K _ (fn:=t7) rfl rfl ?_;simp (config := { maxSteps := 4000000 })(disch:=omega)only[t7,go_sem,u,n,d,g,i,j];refine lS alT ?_;rintro v ⟨t,R,rfl,o,e,x,s⟩;obtain⟨t2,a⟩:=bSi 0 32 1 0 0 false t o e;rw[x,s,show((1:Nat):Int)=1 from rfl,show aZ [0]=[[.int .i64 0]] from rfl]at a;unfold kN at *
 simp (config := { maxSteps := 4000000 })(disch:=omega)only[go_sem,d,g,i,j,c,w,aD a,p,m,a2,l2,f,k];refine lS alF ?_;rintro v ⟨t3,R3,rfl⟩;simp (config := { maxSteps := 4000000 })(disch:=omega)only[go_sem,kN,a2,l2,f,k,c,r,h];trace_state;exact bG ⟨_,rfl,rfl⟩
def aQt(x:Int):Bool:=decide (x<=24)
theorem bEm{W:Tc_}{L:Ta_}(h:∀x,x∈wlI 0 W->x∈L)(e:(L.filter aQt).length<=16):crM (wlI 0 W)=false:=by
 unfold crM;refine Z_ fun d=>?_;have:=oU (flp p24 (wlI 0 W)) (L.filter aQt) (((aC3 0 W).imp fun h=>A_).filter _) fun x b=>by obtain⟨c,a⟩:=B5.1 b;refine B5.2 ⟨h x c,?_⟩;unfold p24 at a;unfold aQt;simp at a |-;exact a
 omega
structure bP9 (f:VF) (T:List (List Int)):Prop where
 chk:vL f.regs f.sl f.nd f.pr f.ins=true
 sl0:f.sl=0
 tab:aAy f.ins T=true
 in0:(T.getD 0 []).any p32=false
 crd:(List.range f.ins.length).all (fun i=>decide (((T.getD i []).filter aQt).length<=16)&&decide (((aVf f.ins T i).filter aQt).length<=16))=true
 b28:f.ins.any b28=false
theorem bU3{f:VF}{T:List (List Int)}(h:bP9 f T)(Q:f.regs<=100000)(Z:f.ins.length<=100000)(j:∀x∈f.ins,x.us.length<=999990/\cY x.tu x.us):TM.Pure K 12 [.iv (.agg (iT f))] e_/\qB f:=by
 have lv:∀ {w i},LvR f.ins w i->w∈T.getD i []:=fun R=>bEj h.tab R;have J:∀ {w i},zH f.ins w i->w∈aVf f.ins T i:=fun {w i} ⟨k,W,v⟩=>G2.2 ⟨k,W,lv v⟩;have c:=fun i (z:i<f.ins.length)=>C1.1 h.crd i (C2.2 z);simp only[O_,p_]at c;have H:qB f:=⟨h.chk,h.sl0,fun i z=>⟨_,_,fun t _ G v=>B5.2 ⟨lv v,V_ G⟩,(c i z).1,fun t _ G v=>B5.2 ⟨J v,V_ G⟩,(c i z).2⟩,fun x g=>by simpa using q_.1 h.b28 x g⟩
 refine⟨?_,H⟩;have u:∀x∈f.ins,x.us.length<=1000000:=fun x g=>by have:=(j x g).1;omega
 have l:=aP7 f.fn f.regs f.sl f.nd f.pr f.rs f.ti f.ins A_ j;obtain⟨I,O,m,p,b⟩:=aI6 (f:=f) Q A_ j h.chk;have C:0<f.ins.length:=(pG H).1.2.2.2.2;have U:(wlI 0 (I 0)).any p32=false:=q_.2 fun x g=>q_.1 h.in0 x (lv (((b 0 C).2.1 x).1 g).2.2);have V:((nD I f.ins.length++nD O f.ins.length).any fun e=>crM e.2)=false:=q_.2 fun e d=>by
  rcases U_.1 d with d|d;all_goals
   obtain⟨q,D,rfl⟩:=r_.1 d
   have a:=C2.1 D
  .rw[bEm (fun x g=>lv (((b q a).2.1 x).1 g).2.2) (c q a).1];decide
  .rw[bEm (fun x g=>J (((b q a).2.2 x).1 g).2.2) (c q a).2];decide
 have Y:=h.chk;have L:=h.sl0;have N:=h.b28;obtain⟨fn,rg,sl,nd,pr,rs,ti,ins⟩:=f;dsimp only at *
 subst L;rw[Y,K_ rfl]at l;rw[oT]at m p |-;dsimp only at m p |-;unfold kN at l;have x0:indexAddrS 1 (.iv (.sl (iJ (bF I ins.length)) (bF I ins.length))) 0=some (.iv (.cp [.sl (iJ (aZ (wlI 0 (I 0)))) (TM.one (.int .i64) (wlI 0 (I 0)))])):=ixL (i:=0) C _;have F:=pW I ins.length;have s:=bC2 I O (n:=ins.length) A_ (iJ (bF I ins.length)) (iJ (bF O ins.length)) [];have y:=xM (S:=[]) (Slc.iv [] (iJ (aZ (wlI 0 (I 0)))) (wlI 0 (I 0))) (by have:=(b 0 C).1.1;omega) 23 [] rfl rfl p32 (fun x _=>xN (wJ x) []);have P:bF I ins.length++bF O ins.length=(nD I ins.length++nD O ins.length).map mT:=by rw[D0,xO,xO]
 have o:=bC6 0 (nD I ins.length++nD O ins.length) (by simp[nD];omega) [.tok (ins.length+ins.length) 1 26] (fun e d=>by
  rcases U_.1 d with d|d;all_goals
   obtain⟨q,D,rfl⟩:=r_.1 d
   have a:=C2.1 D
   have:=(b q a).1
   exact⟨aJj _,by dsimp only;omega⟩)
 rw[<-P]at o;have r:=fun S=>bC8 ti ins A_ S u;simp only[List.length_nil,List.nil_append]at s;have E:((ins.length:Int)>0)↔True:=by simp;omega
 rw[U]at y;rw[V]at o;rw[N]at r;generalize bF I ins.length=A at *
 generalize bF O ins.length=B at *
 refine aT t12 rfl rfl ?_;simp (config := { maxSteps := 4000000 })(disch:=omega)only[t12,go_sem,aD l,aD m,aD p,F,E,x0,y,s,o,r]
def kcI(i:Nat):VI:=⟨69,32+(i:Int),0,0,i,0,.nil,[],.nil,[]⟩
def swI(i:Nat):VI:=⟨25,0,32+(i:Int),32+(((i+1) % 40:Nat):Int),0,0,.nil,[],.nil,[]⟩
def bMh:VI:=⟨72,0,0,0,106,0,.nil,[],.nil,[]⟩
def fX:List VI:=(List.range 40).map kcI++(List.range 40).map swI++[bMh]
def fM(t:Tag):VF:=⟨0,72,0,0,0,false,t,fX⟩
def upI(a n:Nat):List Int:=(List.range' a n).map fun n:Nat=>(n:Int)
def bEn:List (List Int):=(List.range 81).map fun k=>26::if k<=40 then upI 32 k else if k<80 then 32::upI (k-8) (80-k)else []
theorem bMi:fX.length=81:=by kernel_rfl
theorem bU4(t:Tag):bP9 (fM t) bEn:=⟨(by kernel_rfl:vL 72 0 0 0 fX=true),rfl,(by kernel_rfl:aAy fX bEn=true),(by kernel_rfl:(bEn.getD 0 []).any p32=false),(by kernel_rfl:(List.range fX.length).all (fun i=>decide (((bEn.getD i []).filter aQt).length<=16)&&decide (((aVf fX bEn i).filter aQt).length<=16))=true),(by kernel_rfl:fX.any b28=false)⟩
theorem plM:plC [] 72 fX=fX:=by kernel_rfl
theorem bU5:rwR [] 72 fX=72:=by kernel_rfl
def bQa(a k:Nat):Bool:=decide ((k:Int)+1∈nJ fX k)&&decide (32+(a:Int)∉aW (fX.getD k default))
theorem bU6:(List.range 40).all (fun a=>(List.range' (a+1) 39).all (bQa a)&&decide (32+(a:Int)∈bB (fX.getD (40+a) default))&&decide (32+(a:Int)∈aW (fX.getD a default)))=true:=by kernel_rfl
theorem aJ4{a:Nat}(c:a<40):(∀k,a+1<=k->k<a+40->(k:Int)+1∈nJ fX k/\32+(a:Int)∉aW (fX.getD k default))/\32+(a:Int)∈bB (fX.getD (40+a) default)/\32+(a:Int)∈aW (fX.getD a default):=by have h:=C1.1 bU6 a (C2.2 c);simp only[O_,p_]at h;refine⟨fun k d e=>?_,h.1.2,h.2⟩;have b:=C1.1 h.1.1 k (L8.2 ⟨d,by omega⟩);unfold bQa at b;simp only[O_,p_]at b;exact b
theorem bQb{a:Nat}(b:a<40):∀m k,k+m=a+40->a+1<=k->LvR fX (32+(a:Int)) k
 |0,k,h,_=>by obtain rfl:k=40+a:=A_;exact .use (aJ4 b).2.1
 |m+1,k,h,h1=>by obtain⟨c,d⟩:=(aJ4 b).1 k h1 A_;refine .step c ?_ d;rw[show((k:Int)+1).toNat=k+1 by omega];exact bQb b m (k+1) A_ A_
theorem opM{k:Nat}(h:k<40):(fX.getD k default).op=69:=by
 have:∀k:Fin 40,(fX.getD k.1 default).op=69:=by decide +kernel
 exact this ⟨k,h⟩
theorem bU7{a b:Nat}(h:a<b)(c:b<40):aDm fX ((32+b:Nat):Int) ((32+a:Nat):Int):=by
 refine⟨b,by rw[bMi];omega,32+(b:Int),32+(a:Int),(aJ4 c).2.2,.inr ⟨(b:Int)+1,?_,?_⟩,by omega,fun d=>?_,by rw[Int.natCast_add,Int.natCast_add];rfl⟩;.exact((aJ4 (show a<40 by omega)).1 b A_ A_).1
 .rw[show((b:Int)+1).toNat=b+1 by omega];exact bQb A_ (a+40-(b+1)) (b+1) A_ A_
 .have:=d.1;rw[opM c]at this;cases this
theorem bU8{n:Nat}{o:Tg_}(z:(n:Int)=rwR [] 72 fX)(u:zO (plC [] 72 fX) n o):16<=(gY n o).length:=by
 rw[bU5]at z;obtain rfl:n=72:=A_;rw[plM]at u;have C:∀m,32<=m->m<72->o m<0\/1<=o m/\o m<=24:=fun m d e=>by have:=u.virt m d e;omega
 have g:∀a b,a<b->b<40->0<=o (32+a)->o (32+a)≠o (32+b):=fun a b h q E v=>by have:=u.edge (32+b) (32+a) A_ A_ (bU7 h q) v.symm;rw[<-v]at this;omega
 have t:(((List.range' 32 40).filter fun m=>decide (¬o m<0)).map o).length<=24:=by
  have:=oU (((List.range' 32 40).filter fun m=>decide (¬o m<0)).map o) (upI 1 24) ?_ ?_;.exact this
  .rw[List.Nodup,V6];refine List.Pairwise.imp_of_mem (R:=(·<·)) ?_ ((W9 ..).filter _);intro a b f i y;obtain⟨f,k⟩:=B5.1 f;obtain⟨i,_⟩:=B5.1 i;rw[L8]at f i;have:=I6 k;have:=g (a-32) (b-32) A_ A_;rw[show 32+(a-32)=a by omega,show 32+(b-32)=b by omega]at this;exact this A_
  .intro x r;obtain⟨m,j,rfl⟩:=r_.1 r;obtain⟨d,e⟩:=B5.1 j;rw[L8]at d;have w:=I6 e;have:=C m A_ A_;exact r_.2 ⟨(o m).toNat,L8.2 A_,by omega⟩
 have c:∀(p:Tj_) (l:Tc_),(l.filter p).length+(l.filter fun m=>!p m).length=l.length:=fun p l=>by
  induction l with
  |nil=>rfl
  |cons a l ih=>cases h:p a<;>simp[E6,h]<;>omega
 have d:=c (fun m=>decide (o m<0)) (List.range' 32 40);have A:((List.range' 32 40).filter fun m=>!decide (o m<0))=(List.range' 32 40).filter fun m=>decide (¬o m<0):=P5 fun m _=>by rw[decide_not]
 rw[A,List.length_range']at d;rw[P_]at t;have e:=oU (((List.range' 32 40).filter fun m=>decide (o m<0)).map fun n:Nat=>(n:Int)) (gY 72 o) ?_ ?_;.rw[P_]at e;omega
 .rw[List.Nodup,V6];exact((W9 (s:=32) (n:=40)).filter _).imp fun h=>A_
 .intro x r;obtain⟨m,j,rfl⟩:=r_.1 r;obtain⟨w,D⟩:=B5.1 j;rw[L8]at w;exact uX.2 ⟨m,by omega,rfl,I6 D⟩
theorem aVk:∀(l σ:Ta_),σ.length<=(sF σ l).length
 |[],σ=>L_ _
 |n::l,σ=>by
  rw[sF];refine C0 ?_ (aVk l _);split;.exact L_ _
  .rw[H_];omega
theorem bSm{t:Tag}{σ:Ta_}(h:Reach (fM t) σ):σ=[]\/16<=σ.length:=by
 induction h with
 |nil=>exact .inl rfl
 |@step σ n o h hn hc h0 b =>
  right;rcases b with rfl|b
  .have d:=bU8 hn hc;have c:n=72:=by have e:rwR [] (fM t).regs (fM t).ins=72:=bU5;omega
   have:=oU (gY n o) (sF [] (wN 72 (gY n o))) ?_ ?_;.exact C0 d this
   .unfold gY zP;rw[List.Nodup,V6];exact((X8 ..).filter _).imp fun h=>A_
   .intro x a;refine(uY ..).2 (.inr ?_);unfold wN flp;obtain⟨m,f,rfl,_⟩:=uX.1 a;refine B5.2 ⟨?_,?_⟩
    .split;.exact G9 _ a
     .exact a
    .unfold pR;simp;omega
  .exact C0 b (aVk _ _)
def zr(n:Int):Prop:=n=0\/32<=n
structure ZI (m:Nat) (y:VI):Prop where
 a:zr y.a
 b:zr y.b
 d:zr y.d
 us:y.us=[]
 mp:y.mp=[]
 op:y.op≠67
 im:y.op=73\/y.op=74->0<=y.im/\y.im<m
theorem aVl{σ:Ta_}{n:Int}{k:Nat}(h:cC σ n=some k):k<σ.length:=(E_.1 (aDf h)).1
theorem bQc{σ:Ta_}{r n:Int}(b:32<=r)(c:zr n):(∀y∈(nZ σ r n).1,ZI σ.length y)/\zr (nZ σ r n).2.1/\32<=(nZ σ r n).2.2:=by
 unfold nZ;cases h:cC σ n with
 |none=>exact⟨fun y a=>(by cases a),c,b⟩
 |some k =>have:=aVl h;refine⟨fun y a=>?_,.inr b,by dsimp only;omega⟩;rw[S_.1 a];exact⟨.inl rfl,.inl rfl,.inr b,rfl,rfl,(by decide:(73:Int)≠67),fun _=>⟨show(0:Int)<=(k:Int) by omega,show(k:Int)<σ.length by omega⟩⟩
theorem bEo{n:Int}(h:zr n):zr (low n):=by
 unfold low zr at *
 split<;>omega
theorem z_A{σ:Ta_}{r:Int}{x:VI}(c:32<=r)(b:zr x.a):(∀y∈(opA σ r x).1,ZI σ.length y)/\zr (opA σ r x).2.1/\32<=(opA σ r x).2.2:=by
 unfold opA;split;.exact bQc c b
 .exact⟨fun y d=>(by cases d),bEo b,c⟩
theorem z_B{σ:Ta_}{r:Int}{x:VI}(h:32<=r)(f:zr x.a)(e:zr x.b):(∀y∈(opB σ r x).1,ZI σ.length y)/\zr (opB σ r x).2.1/\32<=(opB σ r x).2.2:=by
 obtain⟨_,g,d⟩:=z_A (σ:=σ) h f;unfold opB;split
 .split;.exact⟨fun y c=>(by cases c),g,d⟩
  .exact bQc d e
 .exact⟨fun y c=>(by cases c),bEo e,d⟩
theorem z_D{σ:Ta_}{r:Int}{x:VI}(j:32<=r)(g:zr x.a)(i:zr x.b)(f:zr x.d):(∀y∈(opD σ r x).2.1,ZI σ.length y)/\zr (opD σ r x).1/\32<=(opD σ r x).2.2:=by
 obtain⟨_,_,e⟩:=z_B (σ:=σ) j g i;unfold opD;split
 .cases h:cC σ x.d with
  |none=>exact⟨fun y c=>(by cases c),f,e⟩
  |some k =>have:=aVl h;refine⟨fun y c=>?_,.inr e,by dsimp only;omega⟩;rw[S_.1 c];exact⟨.inr e,.inl rfl,.inl rfl,rfl,rfl,(by decide:(74:Int)≠67),fun _=>⟨show(0:Int)<=(k:Int) by omega,show(k:Int)<σ.length by omega⟩⟩
 .exact⟨fun y c=>(by cases c),bEo f,e⟩
theorem bEp(σ:Ta_):∀(l:List VI) (r:Int),32<=r->(∀x∈l,ZI 0 x)->∀y∈bK σ r l,ZI σ.length y
 |[],r,_,_,y,c=>by cases c
 |x::l,r,hr,h,y,c=>by
  have e:=h x B_;obtain⟨i,a2,_⟩:=z_A (σ:=σ) hr e.a;obtain⟨f,b2,_⟩:=z_B (σ:=σ) hr e.a e.b;obtain⟨n,j,m⟩:=z_D (σ:=σ) hr e.a e.b e.d;unfold bK at c;rw[rwM,List.flatten_cons,U_]at c;rcases c with c|c
  .unfold dR cE fE at c;rw[U_,U_,J_]at c;rcases c with(c|c)|rfl|c;.exact i y c
   .exact f y c
   .exact⟨a2,b2,j,e.us,e.mp,e.op,fun k=>by have:=e.im k;omega⟩
   .exact n y c
  .exact bEp σ l _ m (fun x g=>h x (by simp[g])) y c
structure RI (m:Nat) (x:VI):Prop where
 reg:∀n∈[x.a,x.b,x.d],0<=n/\n<=24
 us:x.us=[]
 mp:x.mp=[]
 op:x.op≠67
 im:x.op=73\/x.op=74->0<=x.im/\x.im<m
theorem bEq:∀x∈fX,ZI 0 x:=fun x a=>by
 unfold fX at a
 rw[U_,U_,S_]at a
 rcases a with(a|a)|rfl
 .obtain⟨i,_,rfl⟩:=r_.1 a
  exact⟨.inl rfl,.inl rfl,.inr (show(32:Int)<=32+(i:Int) by omega),rfl,rfl,(by decide:(69:Int)≠67),fun h=>absurd h (by decide:¬((69:Int)=73\/(69:Int)=74))⟩
 .obtain⟨i,_,rfl⟩:=r_.1 a
  exact⟨.inr (show(32:Int)<=32+(i:Int) by omega),.inr (show(32:Int)<=32+(((i+1) % 40:Nat):Int) by omega),.inl rfl,rfl,rfl,(by decide:(25:Int)≠67),fun h=>absurd h (by decide:¬((25:Int)=73\/(25:Int)=74))⟩
 .exact⟨.inl rfl,.inl rfl,.inl rfl,rfl,rfl,by decide,fun h=>absurd h C_⟩
theorem bEr{Q:List VI}{n:Nat}{o:Tg_}(c:zO Q n o)(a:gY n o=[]){us:Ta_}{x:Int}(b:zr x)(d:x∈us->0<x/\x<n):0<=rnR (iU o) us x/\rnR (iU o) us x<=24:=by
 unfold rnR;split
 .rename_i hm;obtain⟨g,i⟩:=d hm;have e:32<=x:=by unfold zr at b;omega
  have f:¬o x.toNat<0:=fun h=>by have:((x.toNat:Nat):Int)∈gY n o:=uX.2 ⟨x.toNat,by omega,rfl,h⟩;rw[a]at this;cases this
  have:=c.virt x.toNat A_ A_;unfold iU;omega
 .unfold low zr at *
  split<;>omega
theorem bSn{t:Tag}{v:TV}{σ:Ta_}{n:Nat}{o:Tg_}{O:Te_}{R:List VI}{p:Tag}(z:FOK (fM t))(h:aJ1 (fM t) v σ n o O R p):16<=σ.length/\σ.length<=40/\R.length<=1000/\∀x∈R,RI σ.length x:=by
 have A:=h.reach.ok.len;have j:=lI σ 72 fX;rw[bMi]at j;refine⟨?_,A,by rw[h.acc.len];show(bK σ 72 fX).length<=_;omega,fun x C=>?_⟩
 .rcases bSm h.reach with rfl|D;.have:=bU8 h.hn h.col;rw[h.wan]at this;simp at this
  .exact D
 .obtain⟨k,l,rfl⟩:=H3 C;have g:k<(bK σ 72 fX).length:=by rw[h.acc.len]at l;exact l
  have q:R.getD k default=R[k]:=by rw[b_,D_ l];rfl
  obtain⟨t,e⟩:=h.acc.at_ k g;have f:ZI σ.length ((bK σ 72 fX).getD k default):=bEp σ fX 72 A_ bEq _ (bS g);obtain⟨m,_⟩:=aHd z h.reach.ok.virt g;have i:∀r∈bN ((bK σ 72 fX).getD k default),r<n:=fun r c=>by have:=(m r c).2;have:=h.hn;omega
  clear m;rw[<-q,e];show RI _ (sG _ _ _ _ ((bK σ 72 fX).getD k default));generalize (bK σ 72 fX).getD k default=y at *
  unfold sG;rw[I_ f.op];have s:=bEr h.col h.wan f.a (us:=bB y) fun c=>⟨aMr c,i _ (by unfold bN;simp)⟩
  have u:=bEr h.col h.wan f.b (us:=bB y) fun c=>⟨aMr c,i _ (by unfold bN;simp)⟩
  have w:=bEr h.col h.wan f.d (us:=aW y) fun c=>⟨aMs c,i _ (by unfold bN;rw[K_ (.inl f.op)];simp)⟩
  refine⟨fun r c=>?_,by show y.us.map _=[];rw[f.us];rfl,f.mp,f.op,f.im⟩;simp only[J_,D1,H2]at c;rcases c with rfl|rfl|rfl;.exact s
  .exact u
  .exact w
end Go.Proofs.YtehlgnfhkidgoaaGreatDoor
