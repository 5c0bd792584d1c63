/- Some texts of the proof, joined. Condition: none. -/
import Derived.Test.YtehlgnfhkidgoaaGreatDoorJi
set_option linter.unusedSectionVars false
set_option maxRecDepth 100000
set_option maxHeartbeats 64000000
set_option linter.unusedSimpArgs false
set_option linter.unusedVariables false
namespace Go.Proofs.YtehlgnfhkidgoaaGreatDoor
open Go Go.TM
theorem bEs{t:Tag}{l:Ta_}(r:l.length<=1000)(j:∀n∈l,0<=n/\n<=24)(x0 d x2 c x4 x7:TV)(S:aA):∀(m i:Nat) (x8 x9:TV),i+m=l.length ->∃b e,lp' (lim K) t8L0 [x0,d,x2,c,x4,.iv (.sl t (TM.one (.int .i64) l)),j_ i,x7,x8,x9] S = .ret (.exit 2,[x0,d,x2,c,x4,.iv (.sl t (TM.one (.int .i64) l)),j_ l.length,x7,b,e],S)
 |0,i,x8,x9,h=>by obtain rfl:i=l.length:=A_;have a:(TM.one (IV.int .i64) l).length=l.length:=TM.lR ..;refine⟨z_,x9,aE K _ _ t8L0.eq_1 ?_⟩;simp (config := { maxSteps := 4000000 })(disch:=omega)only[go_sem,a]
 |m+1,i,x8,x9,h=>by
  have o:i<l.length:=A_;have a:(TM.one (IV.int .i64) l).length=l.length:=TM.lR ..;have g:=pO (f:=IV.int .i64) (t:=t) (l:=l) (i:=(i:Int)) A_;rw[Int.toNat_natCast]at g;have u:0<=l.getD i default/\l.getD i default<=24:=j _ (by simp only[List.getD,D_ o,Option.getD_some];exact B8 o);obtain⟨b,e,k⟩:=bEs (t:=t) r j x0 d x2 c x4 x7 S m (i+1) e_ z_ A_;rw[show((i+1:Nat):Int)=(i:Int)+1 by omega]at k;generalize l.getD i default=w at *
  have q:¬(w>31):=A_;have s:(w==25)=false:=M8.2 A_;have p:¬(w≥27):=A_;refine⟨b,e,aE K _ _ t8L0.eq_1 ?_⟩;simp (config := { maxSteps := 4000000 })(disch:=omega)only[go_sem,a,g,q,s,p,aC];exact X_ er k
theorem bSo{y:VI}(g:y.mp=[])(x0 e x2 c x6 x7 x8 x9:TV)(S:aA):lp' (lim K) t9L0 [x0,e,x2,c,.lb [j_ y.op,j_ y.d,j_ y.a,j_ y.b,j_ y.im,j_ y.lb,.iv (.sl y.tu (TM.one (.int .i64) y.us)),.iv (.sl y.tm (TM.one (.int .i64) y.mp))],j_ 0,x6,x7,x8,x9] S = .ret (.exit 2,[x0,e,x2,c,.lb [j_ y.op,j_ y.d,j_ y.a,j_ y.b,j_ y.im,j_ y.lb,.iv (.sl y.tu (TM.one (.int .i64) y.us)),.iv (.sl y.tm (TM.one (.int .i64) y.mp))],j_ 0,x6,x7,z_,x9],S):=by
 have f:(TM.one (IV.int .i64) y.mp).length=0:=by rw[g];rfl
 refine aE K _ _ t9L0.eq_1 ?_;simp (config := { maxSteps := 4000000 })(disch:=omega)only[go_sem,f]
section
variable {fn rg nd pr:Int}{rs:Bool}{t:Tag}{R:List VI}{ns:Nat}(hR:R.length<=1000)(hq:∀x∈R,RI ns x)
include hR hq
theorem bEt(x0 x2:TV)(S:aA):∀(m i:Nat) (x4 x5 x6 x7 x8 x9:TV),i+m=R.length ->∃n o g e j q,lp' (lim K) t8L1 [x0,.lb [j_ fn,j_ rg,j_ ns,j_ nd,j_ pr,.iv (.bool rs),.iv (.sl t (R.map aJ))],x2,j_ i,x4,x5,x6,x7,x8,x9] S = .ret (.exit 0,[x0,.lb [j_ fn,j_ rg,j_ ns,j_ nd,j_ pr,.iv (.bool rs),.iv (.sl t (R.map aJ))],x2,j_ R.length,n,o,g,e,j,q],S)
 |0,i,x4,x5,x6,x7,x8,x9,h=>by obtain rfl:i=R.length:=A_;have p:(R.map aJ).length=R.length:=P_ _;refine⟨x4,x5,x6,z_,x8,x9,aE K _ _ t8L1.eq_1 ?_⟩;simp (config := { maxSteps := 4000000 })(disch:=omega)only[go_sem,p]
 |m+1,i,x4,x5,x6,x7,x8,x9,h=>by
  have z:i<R.length:=A_;have p:(R.map aJ).length=R.length:=P_ _;have c:=jF (w:=8) (f:=aJ) iF (t:=t) (l:=R) (i:=(i:Int)) A_;rw[Int.toNat_natCast,dH]at c;have r:=hq _ (bS z);have u:=r.us;have v:bA false 1 8 3 S (.iv (.sl .full [[.int .i64 (R.getD i default).a],[.int .i64 (R.getD i default).b],[.int .i64 (R.getD i default).d]])) (.iv (.sl (R.getD i default).tu (TM.one (.int .i64) (R.getD i default).us)))=some (.iv (.sl .full [[.int .i64 (R.getD i default).a],[.int .i64 (R.getD i default).b],[.int .i64 (R.getD i default).d]]),S):=by rw[u];exact aS9 rfl (qQ.sl S _ [])
  obtain⟨x,A,k⟩:=bEs (t:=.full) (l:=[(R.getD i default).a,(R.getD i default).b,(R.getD i default).d]) B_ r.reg x0 (.lb [j_ fn,j_ rg,j_ ns,j_ nd,j_ pr,.iv (.bool rs),.iv (.sl t (R.map aJ))]) x2 (j_ i) (.lb ((aJ (R.getD i default)).map .iv)) e_ S 3 0 x8 x9 rfl;rw[aY,n0_]at k;rw[show TM.one (.int .i64) [(R.getD i default).a,(R.getD i default).b,(R.getD i default).d]=[[.int .i64 (R.getD i default).a],[.int .i64 (R.getD i default).b],[.int .i64 (R.getD i default).d]] from rfl]at k;obtain⟨n,o,g,e,j,q,s⟩:=bEt x0 x2 S m (i+1) (.lb ((aJ (R.getD i default)).map .iv)) (.iv (.sl .full [[.int .i64 (R.getD i default).a],[.int .i64 (R.getD i default).b],[.int .i64 (R.getD i default).d]])) (j_ ([(R.getD i default).a,(R.getD i default).b,(R.getD i default).d].length:Nat)) e_ x A A_;rw[aY,show((i+1:Nat):Int)=(i:Int)+1 by omega]at s;generalize R.getD i default=y at *
  refine⟨n,o,g,e,j,q,aE K _ _ t8L1.eq_1 ?_⟩;simp (config := { maxSteps := 4000000 })(disch:=omega)only[go_sem,p,c,v,aC];rw[k];simp (config := { maxSteps := 4000000 })(disch:=omega)only[go_sem,aC];exact X_ er s
theorem bU9:TM.Pure K 8 [.iv (.agg (kN fn rg ns nd pr rs t R))] e_:=by
 obtain⟨g,d,f,c,b,e,a⟩:=bEt (fn:=fn) (rg:=rg) (nd:=nd) (pr:=pr) (rs:=rs) (t:=t) hR hq (.iv (.agg (kN fn rg ns nd pr rs t R))) z_ [] R.length 0 u_ u_ u_ u_ u_ u_ A_;rw[n0_]at a;unfold kN at *
 refine aT t8 rfl rfl ?_;simp (config := { maxSteps := 4000000 })(disch:=omega)only[t8,go_sem];rw[a];simp (config := { maxSteps := 4000000 })(disch:=omega)only[go_sem]
theorem bEu(x0 x2:TV)(S:aA):∀(m i:Nat) (x4 x5 x6 x7 x8 x9:TV),i+m=R.length ->∃k s u j r n,lp' (lim K) t9L1 [x0,.lb [j_ fn,j_ rg,j_ ns,j_ nd,j_ pr,.iv (.bool rs),.iv (.sl t (R.map aJ))],x2,j_ i,x4,x5,x6,x7,x8,x9] S = .ret (.exit 0,[x0,.lb [j_ fn,j_ rg,j_ ns,j_ nd,j_ pr,.iv (.bool rs),.iv (.sl t (R.map aJ))],x2,j_ R.length,k,s,u,j,r,n],S)
 |0,i,x4,x5,x6,x7,x8,x9,h=>by obtain rfl:i=R.length:=A_;have c:(R.map aJ).length=R.length:=P_ _;refine⟨x4,x5,z_,x7,x8,x9,aE K _ _ t9L1.eq_1 ?_⟩;simp (config := { maxSteps := 4000000 })(disch:=omega)only[go_sem,c]
 |m+1,i,x4,x5,x6,x7,x8,x9,h=>by
  have C:i<R.length:=A_;have c:(R.map aJ).length=R.length:=P_ _;have a:=jF (w:=8) (f:=aJ) iF (t:=t) (l:=R) (i:=(i:Int)) A_;rw[Int.toNat_natCast,dH]at a;have d:=hq _ (bS C);have q:(TM.one (IV.int .i64) (R.getD i default).mp).length=0:=by rw[d.mp];rfl
  have b:((R.getD i default).op != 67)=true:=Z8.2 d.op;have lb:=fun x0 A x2 z x6 x7 x8 x9=>bSo d.mp x0 A x2 z x6 x7 x8 x9 S;obtain⟨k,s,u,j,r,n,g⟩:=bEu x0 x2 S m (i+1) (.lb ((aJ (R.getD i default)).map .iv)) (j_ 0) e_ z_ z_ x9 A_;have x:=d.im;rw[aY,show((i+1:Nat):Int)=(i:Int)+1 by omega]at g;generalize R.getD i default=y at *
  refine⟨k,s,u,j,r,n,aE K _ _ t9L1.eq_1 ?_⟩;by_cases h1:y.op=73;.have e:(y.op==73)=true:=O4.2 h1;have o:¬(y.im<0):=A_;have p:¬(y.im≥(ns:Int)):=A_;simp (config := { maxSteps := 4000000 })(disch:=omega)only[go_sem,c,a,q,b,e,o,p,aC];rw[lb];simp (config := { maxSteps := 4000000 })(disch:=omega)only[go_sem,aC];exact X_ er g
  .have e:(y.op==73)=false:=M8.2 h1;by_cases h2:y.op=74;.have v:(y.op==74)=true:=O4.2 h2;have o:¬(y.im<0):=A_;have p:¬(y.im≥(ns:Int)):=A_;simp (config := { maxSteps := 4000000 })(disch:=omega)only[go_sem,c,a,q,b,e,o,p,v,aC];rw[lb];simp (config := { maxSteps := 4000000 })(disch:=omega)only[go_sem,aC];exact X_ er g
   .have v:(y.op==74)=false:=M8.2 h2;simp (config := { maxSteps := 4000000 })(disch:=omega)only[go_sem,c,a,q,b,e,v,aC];rw[lb];simp (config := { maxSteps := 4000000 })(disch:=omega)only[go_sem,aC];exact X_ er g
theorem bVa:TM.Pure K 9 [.iv (.agg (kN fn rg ns nd pr rs t R))] e_:=by
 obtain⟨g,d,f,c,b,e,a⟩:=bEu (fn:=fn) (rg:=rg) (nd:=nd) (pr:=pr) (rs:=rs) (t:=t) hR hq (.iv (.agg (kN fn rg ns nd pr rs t R))) z_ [] R.length 0 u_ u_ u_ u_ u_ u_ A_;rw[n0_]at a;unfold kN at *
 refine aT t9 rfl rfl ?_;simp (config := { maxSteps := 4000000 })(disch:=omega)only[t9,go_sem];rw[a];simp (config := { maxSteps := 4000000 })(disch:=omega)only[go_sem]
end
def bVb(S:aA):aA:=match(ex K 30).call 5 [.iv (.bool true)] S with | .ret r=>r.2|_=>[]
def S5b:aA:=bVb S5T
def S5c:aA:=bVb S5b
def cs5:List TV:=match(S5c[3]? : Option aG)with|some (aG.cells _ _ l)=>l|_=>[]
def S5d:aA:=S5c.set 3 (.cells 1 true (put cs5 2 [.iv (.int .i64 25)]))
def A6(s:Int)(j n:Nat):TV:=.agg [.iv (.int .i64 0),.iv (.int .i64 34),.iv (.int .i64 s),.iv (.int .i64 0),.iv (.int .i64 0),.iv (.bool false),.msl j 1 0 n 6 8]
def fS:VF:={fT with sl:=1}
def fH:VF:={fT with ins:={gI1 with a:=25}::gIc::gI2}
def fN:VF:={fT with ins:=[gI1,gIc]}
def S5e:aA:=aJ3 S5d (A6 1 1 6)
def S5f:aA:=aJ3 S5e (A6 0 3 6)
def S5g:aA:=aJ3 S5f (A6 0 5 2)
theorem bSp:(lim K).call 5 [e_] S5T=.ret (A5 3 1 6,S5b):=aE2 (n:=30) (by kernel_rfl)
theorem bSq:(lim K).call 5 [e_] S5b=.ret (A5 5 1 6,S5c):=aE2 (n:=30) (by kernel_rfl)
theorem bVc:S5c[3]?=some (.cells 1 true cs5):=by kernel_rfl
theorem bMj:cs5.length=48:=by kernel_rfl
theorem bWq:fA S5d (.sl 8) (.msl 5 1 0 6 6 8) none (some 2) none=some (.msl 5 1 0 2 6 8):=by kernel_rfl
theorem clS:cG S5d [A6 1 1 6]=some [.iv (.agg (iT fS))]:=by kernel_rfl
theorem clH:cG S5e [A6 0 3 6]=some [.iv (.agg (iT fH))]:=by kernel_rfl
theorem clN:cG S5f [A6 0 5 2]=some [.iv (.agg (iT fN))]:=by kernel_rfl
theorem fzS:bW S5d [A6 1 1 6]=some S5e:=by kernel_rfl
theorem fzH:bW S5e [A6 0 3 6]=some S5f:=by kernel_rfl
theorem fzN:bW S5f [A6 0 5 2]=some S5g:=by kernel_rfl
theorem bVd:TM.Pure K 12 [.iv (.agg (iT fS))] z_:=tA (n:=60) (by kernel_rfl)
theorem bVe:TM.Pure K 12 [.iv (.agg (iT fH))] z_:=tA (n:=60) (by kernel_rfl)
theorem bVf:TM.Pure K 12 [.iv (.agg (iT fN))] z_:=tA (n:=60) (by kernel_rfl)
def mBx(j:Nat)(L:List VI):TV:=.lb [.iv (.int .i64 0),.iv (.int .i64 72),.iv (.int .i64 0),.iv (.int .i64 0),.iv (.int .i64 0),.iv (.bool false),acc j (L.map aJ)]
def kL(i:Nat):List VI:=(List.range i).map kcI
def sL(i:Nat):List VI:=kL 40++(List.range i).map swI
theorem bMk(i:Nat):kL (i+1)=kL i++[kcI i]:=by unfold kL;rw[N4,D0];rfl
theorem bMl(i:Nat):sL (i+1)=sL i++[swI i]:=by unfold sL;rw[N4,D0,<-A8];rfl
theorem bEv(i:Nat):(kL i).length=i:=by simp[kL]
theorem bEw(i:Nat):(sL i).length=40+i:=by simp[sL,bEv]
theorem bEx{a:Nat}{S:aA}{R:List VI}(h:At 8 28 (R.map aJ) a S)(c:R.length<=1000)(z:VI):At 8 28 ((R++[z]).map aJ) (gI (R.map aJ) a S) (gS1 8 28 (R.map aJ) a S)/\bA false 8 96 28 S (acc a (R.map aJ)) (.iv (.sl .full [aJ z]))=some (acc (gI (R.map aJ) a S) ((R++[z]).map aJ),gS1 8 28 (R.map aJ) a S):=by rw[D0];exact⟨aC7 h (aJ z),bCk (b:=96) (t:=.full) h (qF z) (aJz _) (bR (by rw[P_];omega))⟩
theorem bQd(j:Nat)(L:M_):cellsOf (acc j L)=[acc j L]/\bH (acc j L)=false:=by unfold acc;split<;>exact⟨rfl,rfl⟩
theorem bEy(x0 f x2 e x4 x5 x6 x7 x8 x9 x12 x13 x14 x15 c:TV):∀(m i:Nat) (S:aA) (a:Nat) (x16:TV),i+m=40->At 8 28 ((kL i).map aJ) a S ->∃S' b d,lp' (lim K) t3L1 [x0,f,x2,e,x4,x5,x6,x7,x8,x9,mBx a (kL i),j_ i,x12,x13,x14,x15,x16,c] S = .ret (.exit 0,[x0,f,x2,e,x4,x5,x6,x7,x8,x9,mBx b (kL 40),j_ 40,x12,x13,x14,x15,d,c],S')/\At 8 28 ((kL 40).map aJ) b S'
 |0,i,S,a,x16,h,ha=>by obtain rfl:i=40:=A_;refine⟨S,a,z_,aE K _ _ t3L1.eq_1 ?_,ha⟩;rw[show((40:Nat):Int)=40 from rfl];simp (config := { maxSteps := 4000000 })(disch:=omega)only[go_sem]
 |m+1,i,S,a,x16,h,ha=>by
  obtain⟨a2,j⟩:=bEx ha (by rw[bEv];omega) (kcI i);rw[<-bMk]at a2 j;obtain⟨S',b,d,g,k⟩:=bEy x0 f x2 e x4 x5 x6 x7 x8 x9 x12 x13 x14 x15 c m (i+1) _ _ e_ A_ a2;rw[show((i+1:Nat):Int)=(i:Int)+1 by omega]at g;refine⟨S',b,d,aE K _ _ t3L1.eq_1 ?_,k⟩;rw[show aJ (kcI i)=[.int .i64 69,.int .i64 (32+(i:Int)),.int .i64 0,.int .i64 0,.int .i64 i,.int .i64 0,.sl .nil [],.sl .nil []] from rfl]at j;have l:(i:Int)<40:=A_;obtain⟨n,b2⟩:=bQd (gI ((kL i).map aJ) a S) ((kL (i+1)).map aJ);unfold mBx at g |-;generalize acc a ((kL i).map aJ)=A at *
  generalize acc (gI ((kL i).map aJ) a S) ((kL (i+1)).map aJ)=B at *
  generalize gS1 8 28 ((kL i).map aJ) a S=S2 at *
  simp (config := { maxSteps := 4000000 })(disch:=omega)only[go_sem,l,j,n,b2,aC];exact X_ er g
theorem bEz(x0 f x2 e x4 x5 x6 x7 x8 x9 x11 x13 x14 x15 x16:TV):∀(m i:Nat) (S:aA) (a:Nat) (c:TV),i+m=40->At 8 28 ((sL i).map aJ) a S ->∃S' b d,lp' (lim K) t3L0 [x0,f,x2,e,x4,x5,x6,x7,x8,x9,mBx a (sL i),x11,j_ i,x13,x14,x15,x16,c] S = .ret (.exit 2,[x0,f,x2,e,x4,x5,x6,x7,x8,x9,mBx b (sL 40),x11,j_ 40,x13,x14,x15,x16,d],S')/\At 8 28 ((sL 40).map aJ) b S'
 |0,i,S,a,c,h,ha=>by obtain rfl:i=40:=A_;refine⟨S,a,z_,aE K _ _ t3L0.eq_1 ?_,ha⟩;rw[show((40:Nat):Int)=40 from rfl];simp (config := { maxSteps := 4000000 })(disch:=omega)only[go_sem]
 |m+1,i,S,a,c,h,ha=>by
  obtain⟨a2,g⟩:=bEx ha (by rw[bEw];omega) (swI i);rw[<-bMl]at a2 g;obtain⟨S',b,d,j,k⟩:=bEz x0 f x2 e x4 x5 x6 x7 x8 x9 x11 x13 x14 x15 x16 m (i+1) _ _ e_ A_ a2;rw[show((i+1:Nat):Int)=(i:Int)+1 by omega]at j;refine⟨S',b,d,aE K _ _ t3L0.eq_1 ?_,k⟩;rw[show aJ (swI i)=[.int .i64 25,.int .i64 0,.int .i64 (32+(i:Int)),.int .i64 (32+(((i+1) % 40:Nat):Int)),.int .i64 0,.int .i64 0,.sl .nil [],.sl .nil []] from rfl]at g;have l:(i:Int)<40:=A_;have n:((i:Int)+1).tmod 40=(((i+1) % 40:Nat):Int):=by rw[U1 A_];omega
  have p:0<=(((i+1) % 40:Nat):Int)/\(((i+1) % 40:Nat):Int)<40:=A_;obtain⟨o,b2⟩:=bQd (gI ((sL i).map aJ) a S) ((sL (i+1)).map aJ);unfold mBx at j |-;generalize (((i+1) % 40:Nat):Int)=r at *
  generalize acc a ((sL i).map aJ)=A at *
  generalize acc (gI ((sL i).map aJ) a S) ((sL (i+1)).map aJ)=B at *
  generalize gS1 8 28 ((sL i).map aJ) a S=S2 at *
  simp (config := { maxSteps := 4000000 })(disch:=omega)only[go_sem,l,g,n,o,b2,aC];exact X_ er j
theorem aVm:∀x∈fX,x.tu=.nil:=fun x a=>by
 unfold fX at a
 rw[U_,U_,S_]at a
 rcases a with(a|a)|rfl
 .obtain⟨i,_,rfl⟩:=r_.1 a;rfl
 .obtain⟨i,_,rfl⟩:=r_.1 a;rfl
 .rfl
theorem law3:((lim K).call 3 [] []).All fun r=>r.1=e_:=by
 have H:=bEk;have c2:=bSp;have F:=bSq;have J:indexAddrS 8 (.msl 3 1 0 6 6 8) 0=some (.ptr 3 1 0):=rfl;have U:=bVc;have hl:=bMj;have W:=clS;have V:=clH;have q3:=clN;have I:=fzS;have z2:=fzH;have N:=fzN;have Q:S5c.set 3 (.cells 1 true (List.take 2 cs5++[j_ 25]++List.drop 3 cs5))=S5d:=rfl;have k:=bWq;generalize S5T=S1 at *
 generalize S5b=S2 at *
 generalize S5c=S3 at *
 generalize S5d=S4 at *
 generalize S5e=S5 at *
 generalize S5f=S6 at *
 generalize S5g=S7 at *
 generalize cs5=cs at *
 have m1:mI (A6 1 1 6)=true:=rfl;have m2:mI (A6 0 3 6)=true:=rfl;have C:mI (A6 0 5 2)=true:=rfl;have a:∀(a0 a1 a2 a3 a4 b c:Int) (b0:Bool) (t:Tag) (l:M_),eY (.tup [.iv (.agg [.int .i64 a0,.int .i64 a1,.int .i64 a2,.int .i64 a3,.int .i64 a4,.bool b0,.sl t l]),j_ b,j_ c])=false:=fun _ _ _ _ _ _ _ _ _ _=>by simp[eY,iA]
 unfold A5 A6 at *
 have s1:=aQp bVd;have s2:=aQp bVe;have s3:=aQp bVf;refine dG K _ (fn:=t3) rfl rfl ?_;simp (config := { maxSteps := 4000000 })(disch:=omega)only[t3,go_sem,H,c2,F,J,U,hl,Q,k,W];refine lS s1 ?_;rintro v rfl;unfold noV;simp (config := { maxSteps := 4000000 })(disch:=omega)only[go_sem,a,m1,I,V];refine lS s2 ?_;rintro v rfl;unfold noV;simp (config := { maxSteps := 4000000 })(disch:=omega)only[go_sem,a,m2,z2,q3];refine lS s3 ?_;rintro v rfl;unfold noV;simp (config := { maxSteps := 4000000 })(disch:=omega)only[go_sem,a,C,N];obtain⟨S8,i,m,j,a8⟩:=bEy z_ (.lb [j_ 0,j_ 34,j_ 1,j_ 0,j_ 0,z_,.msl 1 1 0 6 6 8]) (.lb [j_ 0,j_ 34,j_ 0,j_ 0,j_ 0,z_,.msl 3 1 0 6 6 8]) (.lb [j_ 0,j_ 34,j_ 0,j_ 0,j_ 0,z_,.msl 5 1 0 2 6 8]) (.lb [j_ 0,j_ 0,j_ 0,j_ 0,j_ 0,z_,k_]) (j_ 2) (.lb [j_ 0,j_ 0,j_ 0,j_ 0,j_ 0,z_,k_]) (j_ 2) (.lb [j_ 0,j_ 0,j_ 0,j_ 0,j_ 0,z_,k_]) (j_ 2) u_ u_ u_ u_ u_ 40 0 S7 0 u_ rfl (fun h=>absurd rfl h);obtain⟨S9,q,P,l2,a9⟩:=bEz z_ (.lb [j_ 0,j_ 34,j_ 1,j_ 0,j_ 0,z_,.msl 1 1 0 6 6 8]) (.lb [j_ 0,j_ 34,j_ 0,j_ 0,j_ 0,z_,.msl 3 1 0 6 6 8]) (.lb [j_ 0,j_ 34,j_ 0,j_ 0,j_ 0,z_,.msl 5 1 0 2 6 8]) (.lb [j_ 0,j_ 0,j_ 0,j_ 0,j_ 0,z_,k_]) (j_ 2) (.lb [j_ 0,j_ 0,j_ 0,j_ 0,j_ 0,z_,k_]) (j_ 2) (.lb [j_ 0,j_ 0,j_ 0,j_ 0,j_ 0,z_,k_]) (j_ 2) (j_ 40) u_ u_ u_ m 40 0 S8 i u_ rfl a8;obtain⟨_,A⟩:=bEx a9 (by rw[bEw];omega) bMh;rw[show sL 40++[bMh]=fX from rfl,jQ _ (l:=fX.map aJ) (by unfold fX;simp),jQ _ (l:=(sL 40).map aJ) (by unfold sL kL;simp),show aJ bMh=[.int .i64 72,.int .i64 0,.int .i64 0,.int .i64 0,.int .i64 106,.int .i64 0,.sl .nil [],.sl .nil []] from rfl]at A;rw[show mBx i (sL 0)=mBx i (kL 40) from rfl,n0_]at l2;rw[show mBx 0 (kL 0)=.lb [j_ 0,j_ 72,j_ 0,j_ 0,j_ 0,z_,k_] from rfl,n0_]at j;unfold mBx at j l2;rw[jQ _ (l:=(sL 40).map aJ) (by unfold sL kL;simp)]at l2;generalize gS1 8 28 ((sL 40).map aJ) q S9=S10 at *
 generalize gI ((sL 40).map aJ) q S9=f at *
 rw[j];simp (config := { maxSteps := 4000000 })(disch:=omega)only[go_sem];rw[l2];obtain⟨t,Y⟩:∃t,iY S10 (.agg [j_ 0,j_ 72,j_ 0,j_ 0,j_ 0,z_,.tsl f (fX.map aJ)])=some (.iv (.agg (iT (fM t)))):=⟨_,rfl⟩
 obtain⟨G,d⟩:=bU3 (bU4 t) (by show 72<=100000;omega) (by show fX.length<=_;rw[bMi];omega) fun x e=>by rw[(bEq x e).us,aVm x e];exact⟨by simp,fun _=>rfl⟩
 have g:FOK (fM t):=⟨d,by show fX.length<=_;rw[bMi];omega,by show 72<=110;omega,fun x e=>by rw[(bEq x e).us,aVm x e];exact⟨by simp,fun _=>rfl⟩⟩
 have c6:=aQq (fM t) g.r g.n g.us G d;generalize fX.map aJ=LM at *
 simp (config := { maxSteps := 4000000 })(disch:=omega)only[go_sem,A,Y];refine lS c6 ?_;rintro v ⟨σ,n,o,O,R,s,p⟩;obtain⟨D,E,y,u⟩:=bSn g p;rw[p.val];have z:=bU9 (fn:=(fM t).fn) (rg:=32) (nd:=(fM t).nd) (pr:=(fM t).pr) (rs:=(fM t).rs) (t:=s) y u;have w:=bVa (fn:=(fM t).fn) (rg:=32) (nd:=(fM t).nd) (pr:=(fM t).pr) (rs:=(fM t).rs) (t:=s) y u;unfold kN at z w;have Z:mI (.agg [j_ 0,j_ 72,j_ 0,j_ 0,j_ 0,z_,.tsl f LM])=false:=rfl;simp (config := { maxSteps := 4000000 })(disch:=omega)only[go_sem,a,Z];refine lS bU2 ?_;rintro v rfl;have L:(σ.length:Int)≥16:=A_;have T:(σ.length:Int)<=40:=A_;simp (config := { maxSteps := 4000000 })(disch:=omega)only[go_sem,L,T,aD z,aD w];exact bG rfl
end Go.Proofs.YtehlgnfhkidgoaaGreatDoor
