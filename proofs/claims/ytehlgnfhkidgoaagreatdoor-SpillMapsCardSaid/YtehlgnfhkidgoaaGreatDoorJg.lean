/- Some texts of the proof, joined. Condition: none. -/
import Derived.Test.YtehlgnfhkidgoaaGreatDoorJf
import Derived.Test.YtehlgnfhkidgoaaGreatDoorJc
import Derived.Test.YtehlgnfhkidgoaaGreatDoorTmE
set_option linter.unusedSectionVars false
set_option maxRecDepth 100000
set_option maxHeartbeats 64000000
set_option linter.unusedSimpArgs false
set_option linter.unusedVariables false
namespace Go.Proofs.YtehlgnfhkidgoaaGreatDoor
open Go Go.TM
def S5T:aA:=match(ex K 30).call 5 [.iv (.bool true)] []with | .ret r=>r.2|_=>[]
def A5(j v n:Nat):TV:=.agg [.iv (.int .i64 0),.iv (.int .i64 34),.iv (.int .i64 0),.iv (.int .i64 0),.iv (.int .i64 0),.iv (.bool false),.msl j v 0 n n 8]
def aXy(S:aA)(A:TV):aA:=(cJ S [A]).getD []
def S5F:aA:=match(ex K 30).call 5 [.iv (.bool false)] (aXy S5T (A5 1 1 6))with | .ret r=>r.2|_=>[]
theorem bR7:(lim K).call 5 [e_] []=.ret (A5 1 1 6,S5T):=aRp (n:=30) (by kernel_rfl)
theorem bR8:(lim K).call 5 [z_] (aXy S5T (A5 1 1 6))=.ret (A5 3 0 5,S5F):=aRp (n:=30) (by kernel_rfl)
theorem bL6:cY S5T [A5 1 1 6]=some [.iv (.agg (kY fT))]:=by kernel_rfl
theorem bL7:cY S5F [A5 3 0 5]=some [.iv (.agg (kY fF))]:=by kernel_rfl
theorem ao7(a b c d e f g h:IV):fY (.iv (.cp [a,b,c,d,e,f,g,h])) 7=some (.iv (.cp [h])):=by simp[fY]
theorem bUx:cJ S5T [A5 1 1 6]=some (aXy S5T (A5 1 1 6)):=by kernel_rfl
theorem bUy:cJ S5F [A5 3 0 5]=some (aXy S5F (A5 3 0 5)):=by kernel_rfl
theorem bEl{fn rg sl nd pr:Int}{rs:Bool}{ti:Tag}{ins:List VI}(x0:TV):∀(m i:Nat) (x4 x5:TV),i+m=min ins.length 100->(∀x∈ins.take i,x.us.length<=12) ->∃(k:aW) (b:Bool) (n o p:TV),lp' (lim K) t10L0 [x0,.lb [j_ fn,j_ rg,j_ sl,j_ nd,j_ pr,.iv (.bool rs),.iv (.sl ti (ins.map aJ))],z_,j_ i,x4,x5] [] = .ret (k,[x0,.lb [j_ fn,j_ rg,j_ sl,j_ nd,j_ pr,.iv (.bool rs),.iv (.sl ti (ins.map aJ))],.iv (.bool b),n,o,p],[])/\(k=.exit 0/\b=false/\(∀x∈ins.take (min ins.length 100),x.us.length<=12)\/k=.ret/\b=true)
 |0,i,x4,x5,h,hq=>by
  have u:i=min ins.length 100:=A_;refine⟨.exit 0,false,j_ i,z_,x5,aE K _ _ t10L0.eq_1 ?_,.inl ⟨rfl,rfl,by rw[<-u];exact hq⟩⟩;have j:(ins.map aJ).length=ins.length:=L_ _;by_cases h1:i<ins.length;.have v:i=100:=A_;subst v;have h3:((100:Nat):Int)<(ins.length:Int):=A_;simp(disch:=omega)only[go_sem,j,h3]
  .have h3:¬((i:Int)<(ins.length:Int)):=A_;simp(disch:=omega)only[go_sem,j,h3]
 |m+1,i,x4,x5,h,hq=>by
  have e:i<ins.length:=A_;have a:(i:Int)<100:=A_;have j:(ins.map aJ).length=ins.length:=L_ _;have d:=gC (w:=8) (f:=aJ) eZ (t:=ti) (l:=ins) (i:=(i:Int)) A_;rw[Int.toNat_natCast,cV]at d;have A:=bQ e;have q:ins.take (i+1)=ins.take i++[ins.getD i default]:=by rw[M7 e];simp[List.getD,D_ e]
  have r:(TM.one (IV.int .i64) (ins.getD i default).us).length=(ins.getD i default).us.length:=TM.kB ..;generalize ins.getD i default=x at *
  by_cases h12:12<x.us.length;.have c:(x.us.length:Int)>12:=A_;refine⟨.ret,true,j_ i,e_,e_,aE K _ _ t10L0.eq_1 ?_,.inr ⟨rfl,rfl⟩⟩;simp(disch:=omega)only[go_sem,j,a,d,r,c]
  .have c:¬((x.us.length:Int)>12):=A_;obtain⟨k,b,n,o,p,s,z⟩:=bEl (fn:=fn) (rg:=rg) (sl:=sl) (nd:=nd) (pr:=pr) (rs:=rs) (ti:=ti) (ins:=ins) x0 m (i+1) e_ z_ A_ (by
    rw[q];intro y g;rcases a_.1 g with g|g;.exact hq y g
    .rw[U_]at g;rw[g];omega)
   rw[show((i+1:Nat):Int)=(i:Int)+1 by omega]at s;refine⟨k,b,n,o,p,aE K _ _ t10L0.eq_1 ?_,z⟩;simp(disch:=omega)only[go_sem,j,a,d,r,c,aC];exact X_ er s
theorem bR9(fn rg sl nd pr:Int)(rs:Bool)(ti:Tag)(ins:List VI):∃b,TM.Pure K 10 [.iv (.agg (gG fn rg sl nd pr rs ti ins))] (.iv (.bool b))/\(b=false->ins.length<=90/\rg<=100/\∀x∈ins,x.us.length<=12):=by
 obtain⟨m,b,j,k,l,c,g⟩:=bEl (fn:=fn) (rg:=rg) (sl:=sl) (nd:=nd) (pr:=pr) (rs:=rs) (ti:=ti) (ins:=ins) (.iv (.agg (gG fn rg sl nd pr rs ti ins))) (min ins.length 100) 0 u_ u_ A_ (fun x f=>by simp at f);rw[n0_]at c;have e:(ins.map aJ).length=ins.length:=L_ _;unfold gG at *
 rcases g with⟨rfl,rfl,i⟩|⟨rfl,rfl⟩
 .by_cases h90:ins.length<=90
  .by_cases h100:rg<=100;.refine⟨false,aT t10 rfl rfl ?_,fun _=>⟨h90,h100,fun x f=>i x (by rw[K5 A_];exact f)⟩⟩;have a:¬((ins.length:Int)>90):=A_;have d:¬(rg>100):=A_;simp(disch:=omega)only[t10,go_sem];rw[c];simp(disch:=omega)only[go_sem,e,a,d]
   .refine⟨true,aT t10 rfl rfl ?_,fun h=>by cases h⟩;have a:¬((ins.length:Int)>90):=A_;have d:rg>100:=A_;simp(disch:=omega)only[t10,go_sem];rw[c];simp(disch:=omega)only[go_sem,e,a,d]
  .refine⟨true,aT t10 rfl rfl ?_,fun h=>by cases h⟩;have a:(ins.length:Int)>90:=A_;simp(disch:=omega)only[t10,go_sem];rw[c];simp(disch:=omega)only[go_sem,e,a]
 .refine⟨true,aT t10 rfl rfl ?_,fun h=>by cases h⟩;simp(disch:=omega)only[t10,go_sem];rw[c];simp(disch:=omega)only[go_sem]
def pA(R:List VI):List Int:=R.flatMap fun x=>if x.op=67 then x.mp else []
def vG(R:List VI):Nat:=(R.filter fun x=>x.op==67).length
theorem aXz(R:List VI)(x:VI):pA (R++[x])=pA R++if x.op=67 then x.mp else []:=by unfold pA;rw[List.flatMap_append];simp
theorem aX0(R:List VI)(x:VI):vG (R++[x])=vG R+if x.op=67 then 1 else 0:=by unfold vG;rw[I5,H_];by_cases h:x.op=67<;>simp[h]
theorem aQv{cs:Tn_}{fn rg sl nd pr:Int}{rs:Bool}{ti:Tag}{R:List VI}(p:R.length<=1000)(d:∀x∈R,x.mp.length<=1000)(x0:TV):∀(m i:Nat) (x5 x6:TV),i+m=R.length->(pA (R.take i)).length<=i*1000 ->∃(n j:TV),lp' (lim K) t19L0 [x0,.lb [j_ fn,j_ rg,j_ sl,j_ nd,j_ pr,.iv (.bool rs),.iv (.sl ti (R.map aJ))],acc 0 (aZ (pA (R.take i))),j_ (vG (R.take i)),j_ i,x5,x6] (vH 1 3 (aZ (pA (R.take i)))) = .ret (.exit 0,[x0,.lb [j_ fn,j_ rg,j_ sl,j_ nd,j_ pr,.iv (.bool rs),.iv (.sl ti (R.map aJ))],acc 0 (aZ (pA R)),j_ (vG R),j_ R.length,n,j],vH 1 3 (aZ (pA R)))
 |0,i,x5,x6,h,hl=>by
  obtain rfl:i=R.length:=A_;rw[C0]at *
  have a:(R.map aJ).length=R.length:=L_ _;refine⟨z_,x6,aE K _ _ t19L0.eq_1 ?_⟩;simp(disch:=omega)only[go_sem,a]
 |m+1,i,x5,x6,h,hl=>by
  have g:i<R.length:=A_;have a:(R.map aJ).length=R.length:=L_ _;have e:=gC (w:=8) (f:=aJ) eZ (t:=ti) (l:=R) (i:=(i:Int)) A_;rw[Int.toNat_natCast,cV]at e;have u:=bQ g;have o:R.take (i+1)=R.take i++[R.getD i default]:=by rw[M7 g];simp[List.getD,D_ g]
  have c:=aXz (R.take i) (R.getD i default);have e2:=aX0 (R.take i) (R.getD i default);rw[<-o]at c e2;have r:(vG (R.take i))<=i:=by unfold vG;have:=D8 (fun x:VI=>x.op==67) (R.take i);rw[K0]at this;omega
  have s:=d _ u;generalize R.getD i default=x at *
  by_cases hop:x.op=67
  .rw[K_ hop]at c e2;have q:=bI1 (w:=1) (b:=8) (el:=3) (x:=.iv (.sl x.tm (TM.one (.int .i64) x.mp))) (ys:=aZ x.mp) (fun S=>rO.sl ..) (nB _) (nB (pA (R.take i))) (bR (by rw[eK,eK];omega));rw[show aZ (pA (R.take i))++aZ x.mp=aZ (pA (R.take i)++x.mp) by simp[aZ,TM.one],<-c]at q;obtain⟨n,j,k⟩:=aQv (cs:=cs) (fn:=fn) (rg:=rg) (sl:=sl) (nd:=nd) (pr:=pr) (rs:=rs) (ti:=ti) p d x0 m (i+1) e_ e_ A_ (by rw[c,H_];omega);rw[show((i+1:Nat):Int)=(i:Int)+1 by omega,e2,show((vG (R.take i)+1:Nat):Int)=(vG (R.take i):Int)+1 by omega]at k;refine⟨n,j,aE K _ _ t19L0.eq_1 ?_⟩;generalize vG (R.take i)=cn at *
   generalize aZ (pA (R.take i))=A at *
   generalize aZ (pA (R.take (i+1)))=B at *
   simp(disch:=omega)only[go_sem,a,e,hop,ao7,q,aC];exact X_ er k
  .rw[I_ hop]at c e2;rw[A4]at c;obtain⟨n,j,k⟩:=aQv (cs:=cs) (fn:=fn) (rg:=rg) (sl:=sl) (nd:=nd) (pr:=pr) (rs:=rs) (ti:=ti) p d x0 m (i+1) e_ z_ A_ (by rw[c];omega);rw[show((i+1:Nat):Int)=(i:Int)+1 by omega,c,e2,Nat.add_zero]at k;refine⟨n,j,aE K _ _ t19L0.eq_1 ?_⟩;generalize vG (R.take i)=cn at *
   generalize aZ (pA (R.take i))=A at *
   simp(disch:=omega)only[go_sem,a,e,hop,aC];exact X_ er k
theorem bSa(fn rg sl nd pr:Int)(rs:Bool)(ti:Tag){R:List VI}(c:R.length<=1000)(a:∀x∈R,x.mp.length<=1000):∃t,TM.Pure K 19 [.iv (.agg (gG fn rg sl nd pr rs ti R))] (.tup [.iv (.sl t (aZ (pA R))),j_ (vG R)]):=by
 obtain⟨d,e,b⟩:=aQv (cs:=[]) (fn:=fn) (rg:=rg) (sl:=sl) (nd:=nd) (pr:=pr) (rs:=rs) (ti:=ti) c a (.iv (.agg (gG fn rg sl nd pr rs ti R))) R.length 0 u_ u_ A_ (by simp[pA]);rw[n0_,show pA (R.take 0)=[] from rfl,show((vG (R.take 0):Nat):Int)=0 from rfl,show aZ []=[] from rfl,mB,aFm]at b;refine⟨jL (aZ (pA R)),?_⟩
 .unfold gG at *
  refine aT t19 rfl rfl ?_;simp(disch:=omega)only[t19,go_sem];rw[b];simp(disch:=omega)only[go_sem,aI3]
theorem aCi(g:Int->Int)(σ W:Ta_)(t:Tag)(y:VI):(rX g σ W t y).op=y.op/\(rX g σ W t y).im=y.im/\(rX g σ W t y).lb=y.lb:=by unfold rX;split<;>exact⟨rfl,rfl,rfl⟩
theorem aVm(a:Int):∀W:List Int,W.Pairwise (·<·)->slF [a] W=if a∈W then [0]else []
 |[],_=>by simp[slF]
 |x::W,h=>by
  rw[E6]at h;have c:=aVm a W h.2;have e:slF [a] (x::W)=(match bV [a] x with|some q=>[(q:Int)]|none=>[])++slF [a] W:=by unfold slF;cases h:bV [a] x<;>simp[List.filterMap_cons,h]
  rw[e,c];by_cases hx:a=x
  .subst hx;have:bV [a] a=some 0:=by simp[bV]
   rw[this,I_ (fun b=>by have:=h.1 a b;omega),K_ (N5 ..)];rfl
  .have:bV [a] x=none:=by simp[bV,hx]
   rw[this];by_cases b:a∈W;.rw[K_ b,K_ (M6 _ b)];rfl
   .rw[I_ b,I_ (fun h=>by rcases J_.1 h with h|h;exact hx h;exact b h)];rfl
theorem aVn:(bG [32] 34 fT.ins).length=8:=by kernel_rfl
theorem bWd:(bG [32] 34 fT.ins).map (·.op)=[64,74,67,64,73,64,64,68]:=by kernel_rfl
theorem frT:(frM [32] 34 fT.ins 0).getD 2 0=1:=by kernel_rfl
theorem bWe:zB fT.ins 32 1:=⟨2,by decide +kernel,.step (k:=3) (by decide +kernel) (.use (by decide +kernel)) (by decide +kernel)⟩
theorem bUz{α:Type}{R:List α}(h:R.length=8):∃a b c d e f g i,R=[a,b,c,d,e,f,g,i]:=by
 match R,h with
 |[a,b,c,d,e,f,g,i],_=>exact⟨a,b,c,d,e,f,g,i,rfl⟩
theorem bSb{v:TV}{σ:Ta_}{n:Nat}{o:Tg_}{O:Te_}{R:List VI}{t:Tag}(h:zK fT v σ n o O R t):v=.tup [.iv (.agg (gG 0 32 1 0 0 false t R)),j_ 1,j_ 0]/\R.length<=1000/\(∀x∈R,x.op=67->x.mp=[0])/\pA R=[0]/\vG R=1:=by
 have z:σ=[32]:=by
  rcases bR6 h.reach with rfl|rfl;.have:=bPy h.hn h.col;rw[h.wan]at this;cases this
  .rfl
 subst z;have A:R.length=8:=by rw[h.acc.len];exact aVn
 have op:∀k,k<8->(R.getD k default).op=((bG [32] 34 fT.ins).getD k default).op:=fun k b=>by obtain⟨t,e⟩:=h.acc.at_ k (by show k<(bG [32] 34 fT.ins).length;rw[aVn];exact b);rw[e];exact(aCi ..).1
 have c:∀k,k<8->((bG [32] 34 fT.ins).getD k default).op=[64,74,67,64,73,64,64,68].getD k 0:=fun k b=>by rw[<-bWd,W_,W_,p_];rw[D_ (by rw[aVn];exact b)];rfl
 have f:(R.getD 2 default).mp=[0]:=by
  obtain⟨t,e⟩:=h.acc.at_ 2 (by show 2<(bG [32] 34 fT.ins).length;rw[aVn];omega);rw[e];unfold rX;have d:((bG [32] fT.regs fT.ins).getD 2 default).op=67:=c 2 A_;rw[K_ d];show eG (slF [32] (wlI 0 (O ((frM [32] fT.regs fT.ins 0).getD 2 0).toNat)))=[0]
  rw[show(frM [32] fT.regs fT.ins 0).getD 2 0=1 from frT,show((1:Int)).toNat=1 from rfl,aVm _ _ (aC4 ..),K_ ((h.out 1 C_ 32).2 ⟨by omega,by decide,bWe⟩)];rfl
 have a:=fun k b=>(op k b).trans (c k b);obtain⟨y,w,a2,a3,a4,a5,a6,a7,rfl⟩:=bUz A;have g:y.op=64:=a 0 A_;have j:w.op=74:=a 1 A_;have q:a2.op=67:=a 2 A_;have r:a3.op=64:=a 3 A_;have i:a4.op=73:=a 4 A_;have l:a5.op=64:=a 5 A_;have m:a6.op=64:=a 6 A_;have p:a7.op=68:=a 7 A_;have u:a2.mp=[0]:=f;refine⟨h.val,by simp,fun x s C=>?_,by simp[pA,g,j,q,r,i,l,m,p,u],by simp[vG,g,j,q,r,i,l,m,p]⟩;simp only[J_,D5,I4]at s;rcases s with rfl|rfl|rfl|rfl|rfl|rfl|rfl|rfl<;>first|exact u|omega
theorem mpT{v:TV}{σ:Ta_}{n:Nat}{o:Tg_}{O:Te_}{R:List VI}{t:Tag}{f:VF}(m:sP f)(h:zK f v σ n o O R t):∀x∈R,x.op≠67->x.mp=[]:=fun x l a=>by
 obtain⟨k,b,rfl⟩:=H8 l
 have i:R.getD k default=R[k]:=by rw[W_,D_ b];rfl
 rw[<-i]at a |-
 obtain⟨t,e⟩:=h.acc.at_ k (by rw[<-h.acc.len];exact b)
 rw[e,(aCi ..).1]at a
 rw[e]
 unfold rX
 rw[I_ a]
 show((bG σ f.regs f.ins).getD k default).mp=[]
 obtain⟨c,j,g,d,rfl⟩:=eS (σ:=σ) (r:=f.regs) (ins:=f.ins) (by rw[<-h.acc.len];exact b)
 rw[aG4 g d]
 rcases jF (D_ d)with⟨_,_,w,q,_,_,e3⟩|⟨_,e3⟩|⟨_,q,w,_,_,_,e3⟩
 .rw[e3];rfl
 .rw[e3];exact(zH m (bQ g)).2.2.2.2.1
 .rw[e3];rfl
def bSc(x:VI):Bool:=match x.tu,x.us with | .nil,[]=>true | .nil,_::_=>false|_,_=>true
theorem bL8{x:VI}(h:bSc x=true):cB x.tu x.us:=fun e=>by
 unfold bSc at h
 rw[e]at h
 cases hu:x.us with
 |nil=>rfl
 |cons a l=>rw[hu]at h;cases h
theorem gus(l:List VI)(n:Nat)(h:l.all (fun x=>decide (x.us.length<=n)&&bSc x)=true):∀x∈l,x.us.length<=n/\cB x.tu x.us:=fun x a=>by
 have:=C6.1 h x a
 simp only[P_,q_]at this
 exact⟨this.1,bL8 this.2⟩
theorem bEm:sP fT:=by
 obtain⟨b,c,h⟩:=aQf fT C_ C_ (gus _ _ C_);obtain⟨r,S,d,e2⟩:=c;obtain⟨e,S',e3,a⟩:=bPw;rw[d]at e3;cases e3
 rw[e2]at a;refine h ?_;cases b
 .cases a
 .rfl
theorem bSd:sP fF:=by
 obtain⟨b,c,h⟩:=aQf fF C_ C_ (gus _ _ C_);obtain⟨r,S,d,e2⟩:=c;obtain⟨e,S',e3,a⟩:=bPx;rw[d]at e3;cases e3
 rw[e2]at a;refine h ?_;cases b
 .cases a
 .rfl
theorem alT:fP K 6 [.iv (.agg (kY fT))] fun v=>∃t R,v=.tup [.iv (.agg (gG 0 32 1 0 0 false t R)),j_ 1,j_ 0]/\R.length<=1000/\(∀x∈R,x.mp.length<=1000)/\pA R=[0]/\vG R=1 :=
 fP.mono (aQt fT C_ C_ (gus _ _ C_) bPw bEm) fun v ⟨σ,n,o,O,R,t,h⟩=>by
  obtain⟨b,e,h3,d,c⟩:=bSb h;refine⟨t,R,b,e,fun x a=>?_,d,c⟩;by_cases hop:x.op=67;.rw[h3 x a hop];simp
  .rw[mpT bEm h x a hop];simp
theorem alF:fP K 6 [.iv (.agg (kY fF))] fun v=>∃t R,v=.tup [.iv (.agg (gG 0 32 0 0 0 false t R)),j_ 0,j_ 0] :=
 fP.mono (aQt fF C_ C_ (gus _ _ C_) bPx bSd) fun v ⟨σ,n,o,O,R,t,h⟩=>by have a:=bR5 h.reach;subst a;exact⟨t,R,h.val⟩
theorem bU0:fP K 7 [] (·=e_):=by
 have d:pZ (A5 1 1 6)=true:=rfl;have a2:pZ (A5 3 0 5)=true:=rfl;have f:cA (A5 1 1 6)=false:=rfl;have l2:cA (A5 3 0 5)=false:=rfl;have g:=bEd f;have h:=bEd l2;simp only[qA]at g h;have k:∀q,mX q (A5 1 1 6)=A5 1 1 6:=fun q=>rfl;have j:∀q,mX q (A5 3 0 5)=A5 3 0 5:=fun q=>rfl;have s:=bR7;have u:=bR8;have n:=bL6;have x:=bL7;have o:=bUx;have r:=bUy;generalize aXy S5T (A5 1 1 6)=F1 at *
 generalize aXy S5F (A5 3 0 5)=F2 at *
 have a:∀(a0 d a2 a3 a4 b:Int) (b0:Bool) (t:Tag) (l:M_),fW (.tup [.iv (.agg [.int .i64 a0,.int .i64 d,.int .i64 a2,.int .i64 a3,.int .i64 a4,.bool b0,.sl t l]),j_ b,j_ 0])=false:=fun _ _ _ _ _ _ _ _ _=>by simp[fW,iP]
 generalize A5 1 1 6=A1 at *
 generalize A5 3 0 5=A2 at *
 generalize S5T=S1 at *
 generalize S5F=S2 at *
 have i:∀t,indexAddrS 1 (.iv (.sl t [[.int .i64 0]])) 0=some (.iv (.cp [.int .i64 0])):=fun t=>rfl;unfold fP;refine dJ K _ (fn:=t7) rfl rfl ?_;simp (config := { maxSteps := 4000000 })(disch:=omega)only[t7,go_sem,s,n,d,f,g,k];refine nS alT ?_;rintro v ⟨t,R,rfl,m,e,p,w⟩;obtain⟨t2,c⟩:=bSa 0 32 1 0 0 false t m e;rw[p,w,show((1:Nat):Int)=1 from rfl,show aZ [0]=[[.int .i64 0]] from rfl]at c;unfold gG at *
 simp (config := { maxSteps := 4000000 })(disch:=omega)only[go_sem,d,f,g,k,a,o,aD c,u,x,a2,l2,h,j];refine nS alF ?_;rintro v ⟨y,R3,rfl⟩;simp (config := { maxSteps := 4000000 })(disch:=omega)only[go_sem,gG,a2,l2,h,j,a,r,i];trace_state;exact bE ⟨_,rfl,rfl⟩
def bX(b:Bool):TV:=.iv (.bool b)
theorem bPz{C:List Bool}{i:Nat}(h:i<C.length):sub (C.map bX) i 1=some [.iv (.bool (C.getD i false))]:=by simp only[sub,L_,show i+1<=C.length by omega,↓reduceIte];rw[A6 (by simp;omega)];simp[bX,h,List.getD,D_ h]
theorem bU1{C:List Bool}{i:Nat}(x:Bool)(h:i<C.length):put (C.map bX) i [.iv (.bool x)]=(C.set i x).map bX:=by unfold put;rw[K9,K_ h];simp[bX]
def unm(C:List Bool):Nat:=(C.filter fun b=>!b).length
theorem aJ5:∀(C:List Bool) (i:Nat),i<C.length->C.getD i false=false->unm (C.set i true)+1=unm C
 |[],i,h,_=>by simp at h
 |b::C,0,h,hf=>by simp at hf;subst hf;simp[unm]
 |b::C,i+1,h,hf=>by have a:=aJ5 C i (by simpa using h) (by simpa using hf);unfold unm at a |-;rw[List.set_cons_succ,E4,E4];cases b<;>simp at a |-<;>omega
def sV(s:Int)(y:VI):Prop:=(y.op=74/\y.im=s)\/y.op=68\/y.op=72
inductive RdX (R:List VI) (s:Int):Nat->Prop
 |load {i:Nat} (h:(R.getD i default).op=73) (hs:(R.getD i default).im=s):RdX R s i
 |fall {i:Nat} (h:¬sV s (R.getD i default)) (h2:(R.getD i default).op≠66) (hr:RdX R s (i+1)):RdX R s i
 |jump {i j:Nat} (h:¬sV s (R.getD i default)) (h2:(26<=(R.getD i default).op/\(R.getD i default).op<=31)\/(R.getD i default).op=66) (hj:j<R.length) (h3:(R.getD j default).op=65) (h4:(R.getD j default).lb=(R.getD i default).lb) (hr:RdX R s j):RdX R s i
def mS(S:aA)(jm:Nat)(lo:Bool)(C:List Bool):aA:=S.set jm (.cells 0 lo (C.map bX))
section
variable {fn rg sl nd pr:Int}{rs:Bool}{t:Tag}{R:List VI}(hR:R.length<=1000){s:Int}{S:aA}{jm:Nat}(hjm:jm<S.length){lo:Bool}
include hR hjm
def aQw(fn rg sl nd pr:Int)(rs:Bool)(t:Tag)(R:List VI)(s:Int)(S:aA)(jm:Nat)(lo:Bool)(U:Nat):Prop:=∀(C:List Bool) (at_:Nat),C.length=R.length->unm C<=U->at_<=R.length ->
 ∃b C',(lim K).call 11 [.iv (.agg (gG fn rg sl nd pr rs t R)),.iv (.int .i64 s),.iv (.int .i64 at_),.msl jm 0 0 R.length R.length 1] (mS S jm lo C)=.ret (.iv (.bool b),mS S jm lo C')/\C'.length=R.length/\unm C'<=unm C/\(b=true->RdX R s at_)
theorem aCj{U:Nat}(p:aQw fn rg sl nd pr rs t R s S jm lo U)(op d a b D lb:Int)(x0 x2 v x8 x9 x10 x11 x14:TV)(F z:TV):∀(m j:Nat) (C:List Bool) (x12 x13:TV),j+m=R.length->C.length=R.length->unm C<=U ->∃(o:aW) (bb:Bool) (C':List Bool) (r g k:TV),lp' (lim K) t11L0 [x0,j_ s,x2,.msl jm 0 0 R.length R.length 1,.lb [j_ fn,j_ rg,j_ sl,j_ nd,j_ pr,.iv (.bool rs),.iv (.sl t (R.map aJ))],z_,.lb [j_ op,j_ d,j_ a,j_ b,j_ D,j_ lb,F,z],j_ j,x8,x9,x10,x11,x12,x13,x14] (mS S jm lo C) = .ret (o,[x0,j_ s,x2,.msl jm 0 0 R.length R.length 1,.lb [j_ fn,j_ rg,j_ sl,j_ nd,j_ pr,.iv (.bool rs),.iv (.sl t (R.map aJ))],.iv (.bool bb),.lb [j_ op,j_ d,j_ a,j_ b,j_ D,j_ lb,F,z],r,x8,x9,x10,x11,g,k,x14],mS S jm lo C')/\C'.length=R.length/\unm C'<=unm C /\(o=.exit 2/\bb=false\/o=.ret/\bb=true/\∃j,j<R.length/\(R.getD j default).op=65/\(R.getD j default).lb=lb/\RdX R s j)
 |0,j,C,x12,x13,h,hC,hU=>by obtain rfl:j=R.length:=A_;have x:(R.map aJ).length=R.length:=L_ _;refine⟨.exit 2,false,C,j_ R.length,z_,x13,aE K _ _ t11L0.eq_1 ?_,hC,O_ _,.inl ⟨rfl,rfl⟩⟩;simp (config := { maxSteps := 4000000 })(disch:=omega)only[go_sem,x]
 |m+1,j,C,x12,x13,h,hC,hU=>by
  have I:j<R.length:=A_;have x:(R.map aJ).length=R.length:=L_ _;have n:=gC (w:=8) (f:=aJ) eZ (t:=t) (l:=R) (i:=(j:Int)) A_;rw[Int.toNat_natCast,cV]at n;have L:R.getD j default=R.getD j default:=rfl;by_cases h65:(R.getD j default).op=65
  .by_cases hlb:(R.getD j default).lb=lb
   .obtain⟨bb,C1,u,A,H,J⟩:=p C j hC hU A_;unfold gG at u;cases bb with
    |true =>
     refine⟨.ret,true,C1,j_ j,e_,e_,aE K _ _ t11L0.eq_1 ?_,A,H,.inr ⟨rfl,rfl,j,I,h65,hlb,J rfl⟩⟩;have c:((R.getD j default).op==65)=true:=F5.2 h65;have e:((R.getD j default).lb==lb)=true:=F5.2 hlb;generalize R.getD j default=y at *
     simp (config := { maxSteps := 4000000 })(disch:=omega)only[go_sem,x,n,ao5,c,e,u]
    |false =>
     obtain⟨o,bb,C',r,g,k,q,E,G,h3⟩:=aCj p op d a b D lb x0 x2 v x8 x9 x10 x11 x14 F z m (j+1) C1 e_ z_ A_ A A_;rw[show((j+1:Nat):Int)=(j:Int)+1 by omega]at q;refine⟨o,bb,C',r,g,k,aE K _ _ t11L0.eq_1 ?_,E,by omega,h3⟩;have c:((R.getD j default).op==65)=true:=F5.2 h65;have e:((R.getD j default).lb==lb)=true:=F5.2 hlb;generalize R.getD j default=y at *
     simp (config := { maxSteps := 4000000 })(disch:=omega)only[go_sem,x,n,ao5,c,e,u,aC];exact X_ er q
   .obtain⟨o,bb,C',r,g,k,q,E,G,h3⟩:=aCj p op d a b D lb x0 x2 v x8 x9 x10 x11 x14 F z m (j+1) C e_ z_ A_ hC hU;rw[show((j+1:Nat):Int)=(j:Int)+1 by omega]at q;refine⟨o,bb,C',r,g,k,aE K _ _ t11L0.eq_1 ?_,E,G,h3⟩;have c:((R.getD j default).op==65)=true:=F5.2 h65;have e:((R.getD j default).lb==lb)=false:=S_.2 hlb;generalize R.getD j default=y at *
    simp (config := { maxSteps := 4000000 })(disch:=omega)only[go_sem,x,n,ao5,c,e,aC];exact X_ er q
  .obtain⟨o,bb,C',r,g,k,q,E,G,h3⟩:=aCj p op d a b D lb x0 x2 v x8 x9 x10 x11 x14 F z m (j+1) C e_ z_ A_ hC hU;rw[show((j+1:Nat):Int)=(j:Int)+1 by omega]at q;refine⟨o,bb,C',r,g,k,aE K _ _ t11L0.eq_1 ?_,E,G,h3⟩;have c:((R.getD j default).op==65)=false:=S_.2 h65;generalize R.getD j default=y at *
   simp (config := { maxSteps := 4000000 })(disch:=omega)only[go_sem,x,n,ao5,c,aC];exact X_ er q
theorem aHd{U:Nat}(u:∀(C:List Bool) (a:Nat) (x5 x6 x7 x8 x9 x10 x11 x12 x13 x14:TV), C.length=R.length->unm C<=U->a<=R.length->∃(i:aW) (b:Bool) (C':List Bool) (p q k r l c d f g e:TV), lp' (lim K) t11L1 [.iv (.agg (gG fn rg sl nd pr rs t R)), j_ s, j_ a, .msl jm 0 0 R.length R.length 1, .lb [j_ fn, j_ rg, j_ sl, j_ nd, j_ pr, .iv (.bool rs), .iv (.sl t (R.map aJ))], z_, x6, x7, x8, x9, x10, x11, x12, x13, x14] (mS S jm lo C) = .ret (i,[.iv (.agg (gG fn rg sl nd pr rs t R)),j_ s,p,.msl jm 0 0 R.length R.length 1,.lb [j_ fn,j_ rg,j_ sl,j_ nd,j_ pr,.iv (.bool rs),.iv (.sl t (R.map aJ))],.iv (.bool b),q,k,r,l,c,d,f,g,e],mS S jm lo C')/\C'.length=R.length/\unm C'<=unm C/\(i=.exit 0/\b=false\/i=.ret/\(b=true->RdX R s a))):aQw fn rg sl nd pr rs t R s S jm lo U:=fun C a w v h3=>by
  obtain⟨i,b,C',p,q,k,r,l,c,d,f,g,e,n,o,m,j⟩:=u C a u_ u_ u_ u_ u_ u_ u_ u_ u_ u_ w v h3
  unfold gG at *
  rcases j with⟨rfl,rfl⟩|⟨rfl,j⟩
  .refine⟨false,C',aI K _ (fn:=t11) rfl rfl ?_,o,m,fun h=>by cases h⟩
    simp(disch:=omega)only[t11,go_sem]
    rw[n]
    simp(disch:=omega)only[go_sem]
  .refine⟨b,C',aI K _ (fn:=t11) rfl rfl ?_,o,m,j⟩
    simp(disch:=omega)only[t11,go_sem]
    rw[n]
    simp(disch:=omega)only[go_sem]
end
theorem aVo{R:List VI}{k:Nat}(h:¬k<R.length):R.getD k default=default:=by rw[W_,B7 A_];rfl
theorem aJ6{R:List VI}{s:Int}{k:Nat}(h:RdX R s k):k<R.length:=by
 have b:(default:VI).op=0:=rfl;induction h with
 |@load i h _=>exact V1 fun a=>by rw[aVo a,b]at h;omega
 |fall _ _ _ ih=>omega
 |@jump i j _ h2 _ _ _ _ _=>exact V1 fun a=>by rw[aVo a,b]at h2;omega
theorem aX1{C:List VI}{j:Nat}(c:j<C.length)(h:(C.getD j default).op=65)(d:∀k,k<C.length->(C.getD k default).op=65->(C.getD k default).lb=(C.getD j default).lb->k=j):dL C (C.getD j default).lb=some (j:Int):=by
 unfold dL;have e:∀k (a:k<C.length),C[k]=C.getD k default:=fun k a=>by rw[W_,D_ a];rfl
 have:C.findIdx? (fun x=>decide (x.op=65)&&decide (x.lb=(C.getD j default).lb))=some j:=by
  rw[F4];refine⟨c,?_,fun k a=>?_⟩;.rw[e j c,V_ h,V_ rfl];rfl
  .rw[e k A_];intro b;simp only[P_,q_]at b;have:=d k A_ b.1 b.2;omega
 rw[this];rfl
theorem bEn{ins:List VI}(f:aDf ins){σ:Ta_}{r:Int}{k:Nat}(d:k<(bG σ r ins).length)(h:((bG σ r ins).getD k default).op=65):∃c,c<ins.length/\k=ofs σ r ins c+(bZ σ (cnt σ r ins c) (ins.getD c default)).length/\(ins.getD c default).op=65/\(ins.getD c default).lb=((bG σ r ins).getD k default).lb:=by
 obtain⟨c,j,a,b,rfl⟩:=eS d;rw[aG4 a b]at h |-;rcases jF (D_ b)with⟨_,_,_,_,_,_,e⟩|⟨hje,e⟩|⟨_,_,_,_,_,_,e⟩;.rw[e]at h;exact absurd h (by show ¬(73:Int)=65;decide)
 .rw[e]at h;exact⟨c,a,by rw[hje],h,by rw[e];rfl⟩
 .rw[e]at h;exact absurd h (by show ¬(74:Int)=65;decide)
theorem bL9{ins:List VI}(e:aDf ins){σ:Ta_}{r s:Int}{R:List VI}(y:R.length=(bG σ r ins).length)(c:∀k,k<R.length->(R.getD k default).op=((bG σ r ins).getD k default).op/\(R.getD k default).im=((bG σ r ins).getD k default).im/\(R.getD k default).lb=((bG σ r ins).getD k default).lb){k:Nat}(h:RdX R s k):Rdb (bG σ r ins) s k:=by
 induction h with
 |@load i h b =>have d:=aJ6 (.load h b);obtain⟨a,e2,_⟩:=c i d;exact .load (by rw[<-a];exact h) (by rw[<-e2];exact b)
 |@fall i h h2 hr ih =>have d:=aJ6 hr;obtain⟨a,e2,_⟩:=c i A_;unfold sV at h;rw[a,e2]at h;rw[a]at h2;refine .step (k:=(i:Int)+1) ?_ (by rw[show((i:Int)+1).toNat=i+1 by omega];exact ih) fun b=>h (.inl b);unfold mD;rw[I_ A_];exact G0 _ (by rw[K_ ⟨h2,by omega⟩];simp)
 |@jump i j h h2 hj h3 h4 hr ih =>
  have d:=aJ6 (.jump h h2 hj h3 h4 hr);obtain⟨a,e2,e3⟩:=c i d;obtain⟨t,_,x⟩:=c j hj;unfold sV at h;rw[a,e2]at h;rw[a]at h2;rw[t]at h3;rw[x,e3]at h4;refine .step (k:=(j:Int)) ?_ (by rw[Int.toNat_natCast];exact ih) fun b=>h (.inl b);have m:=aX1 (C:=bG σ r ins) (j:=j) A_ h3 fun k p l o=>by obtain⟨u,f,n,w,q⟩:=bEn e p l;obtain⟨v,g,q4,q5,q6⟩:=bEn e A_ h3;have:=e.one u v f g w q5 (by rw[q,q6,o]);rw[n,q4,this]
  unfold mD;rw[I_ A_];refine G4 _ ?_;rw[K_ h2,<-h4,m];simp
theorem aCk{σ:Ta_}(c:σ.Nodup){s:Nat}(a:s<σ.length):bV σ (σ[s])=some s:=by
 unfold bV;rw[F4];refine⟨a,by simp,fun k b e=>?_⟩;have e':=eq_of_beq e;have:=(List.nodup_iff_pairwise_ne.1 c)
 have:=O6.1 this k s A_ a b;exact this e'
theorem bMa{σ W:Ta_}{x:Int}{s:Nat}(a:x∈W)(b:bV σ x=some s):(s:Int)∈slF σ W:=U0.2 ⟨x,a,by rw[b];rfl⟩
theorem bEo{f:VF}{v:TV}{σ:Ta_}{n:Nat}{o:Tg_}{O:Te_}{R:List VI}{t:Tag}(h:zK f v σ n o O R t){i:Nat}(H:i<R.length)(b:(R.getD i default).op=67){s:Nat}(N:s<σ.length)(D:(s:Int)∉(R.getD i default).mp):¬RdX R s (i+1):=by
 intro Q;have d:=h.reach.ok;have F:=xI h.bare;have C:R.length=(bG σ f.regs f.ins).length:=h.acc.len;have L:∀k,k<R.length->(R.getD k default).op=((bG σ f.regs f.ins).getD k default).op/\(R.getD k default).im=((bG σ f.regs f.ins).getD k default).im/\(R.getD k default).lb=((bG σ f.regs f.ins).getD k default).lb:=fun k U=>by obtain⟨t,e⟩:=h.acc.at_ k (by rw[<-C];exact U);rw[e];exact aCi ..
 have W:=bL9 F C L Q;have T:=aJ6 Q;obtain⟨c,j,z,G,rfl⟩:=eS (σ:=σ) (r:=f.regs) (ins:=f.ins) (by rw[<-C];exact H);have a:=(L _ H).1;rw[b,aG4 z G]at a;have Y:=bQ z;have key:j=(bZ σ (cnt σ f.regs f.ins c) (f.ins.getD c default)).length/\(f.ins.getD c default).op=67:=by
  rcases jF (D_ G)with⟨_,_,_,_,_,_,e⟩|⟨l,e⟩|⟨_,_,_,_,_,_,e⟩;.rw[e]at a;exact absurd a (by show ¬(67:Int)=73;decide)
  .rw[e]at a;exact⟨l,a.symm⟩
  .rw[e]at a;exact absurd a (by show ¬(67:Int)=74;decide)
 obtain⟨l,u⟩:=key;have m:fH σ (cnt σ f.regs f.ins c) (f.ins.getD c default)=[]:=by
  rcases iS σ (cnt σ f.regs f.ins c) (f.ins.getD c default)with⟨h0,_⟩|⟨q,k,_,_,h3⟩;.exact h0
  .have h4:=d.virt _ (B4 (nV h3));have Z:=F.cd _ Y u;omega
 have J:(dM σ (cnt σ f.regs f.ins c) (f.ins.getD c default)).length=j+1:=by unfold dM;rw[m,H_,List.length_cons,List.length_nil,l]
 have w:=xB (σ:=σ) (r:=f.regs) z;rw[J]at w;have y:c+1<f.ins.length:=by apply J7;intro E;have e:c+1=f.ins.length:=A_;rw[e,aJb]at w;omega
 have E:=aCk d.nd N;have g:σ[s]∈σ:=B8 N;have I:=(bCy F d.virt E W (c+1) 0 y (by have:=oP σ (cnt σ f.regs f.ins (c+1)) (f.ins.getD (c+1) default);omega) A_).1 (I3 _);have p:zB f.ins σ[s] c:=by refine⟨(c:Int)+1,?_,by rw[show((c:Int)+1).toNat=c+1 by omega];exact I⟩;unfold mD;rw[I_ A_];exact G0 _ (by rw[K_ ⟨by omega,y⟩];simp)
 have P:=d.virt _ g;have V:=(h.out c z σ[s]).2 ⟨by omega,d.lt _ g,p⟩;obtain⟨t,e⟩:=h.acc.at_ _ (by rw[<-C];exact H);have A:=aVk σ f.ins f.regs 0 c j z G;rw[A7]at A;have x:(frM σ f.regs f.ins 0).getD (ofs σ f.regs f.ins c+j) 0=(c:Int):=by rw[W_,A];rfl
 rw[x,Int.toNat_natCast]at e;rw[e]at b D;unfold rX at b D;by_cases h6:((bG σ f.regs f.ins).getD (ofs σ f.regs f.ins c+j) default).op=67;.rw[K_ h6]at D;exact D ((lQ _).mem_iff.2 (bMa V E))
 .rw[I_ h6]at b;exact h6 b
theorem bEp{S:aA}{jm:Nat}(h:jm<S.length)(lo:Bool)(C:List Bool):(mS S jm lo C)[jm]?=some (.cells 0 lo (C.map bX)):=aM h _
theorem bSe(S:aA)(jm:Nat)(lo:Bool)(C C':List Bool):(mS S jm lo C).set jm (.cells 0 lo (C'.map bX))=mS S jm lo C':=by unfold mS;rw[H0]
theorem bSf{fn rg sl nd pr:Int}{rs:Bool}{t:Tag}{R:List VI}(hR:R.length<=1000){s:Int}{S:aA}{jm:Nat}(h0:jm<S.length){lo:Bool}:∀(U:Nat) (C:List Bool) (c:Nat) (x5 x6 x7 x8 x9 x10 x11 x12 x13 x14:TV), C.length=R.length->unm C<=U->c<=R.length->∃(V:aW) (b:Bool) (C':List Bool) (y2 y6 T y8 y9 A E r u D:TV), lp' (lim K) t11L1 [.iv (.agg (gG fn rg sl nd pr rs t R)), j_ s, j_ c, .msl jm 0 0 R.length R.length 1, .lb [j_ fn, j_ rg, j_ sl, j_ nd, j_ pr, .iv (.bool rs), .iv (.sl t (R.map aJ))], z_, x6, x7, x8, x9, x10, x11, x12, x13, x14] (mS S jm lo C) = .ret (V,[.iv (.agg (gG fn rg sl nd pr rs t R)),j_ s,y2,.msl jm 0 0 R.length R.length 1,.lb [j_ fn,j_ rg,j_ sl,j_ nd,j_ pr,.iv (.bool rs),.iv (.sl t (R.map aJ))],.iv (.bool b),y6,T,y8,y9,A,E,r,u,D],mS S jm lo C')/\C'.length=R.length/\unm C'<=unm C/\(V=.exit 0/\b=false\/V=.ret/\(b=true->RdX R s c)):=fun U=>by
  induction U with
  |zero =>
    intro C c x5 x6 x7 x8 x9 x10 x11 x12 x13 x14 hC hU h5;have H:(R.map aJ).length=R.length:=L_ _;by_cases hla:c<R.length
    .have e:(c:Int)<(R.length:Int):=A_;have Z:C.getD c false=true:=by
        cases hc:C.getD c false with
        |true=>rfl
        |false=>have:=aJ5 C c A_ hc;omega
      have L:=iO (j:=jm) (v:=0) (cap:=R.length) hla;have J:=bEp h0 lo C;have F:=bPz (C:=C) (i:=c) A_;rw[Z]at F;refine⟨.exit 0,false,C,j_ c,x6,x7,z_,x9,x10,x11,x12,x13,x14,aE K _ _ t11L1.eq_1 ?_,hC,O_ _,.inl ⟨rfl,rfl⟩⟩;simp(disch:=omega)only[go_sem,H,e,L,J,F]
    .have e:¬(c:Int)<(R.length:Int):=A_;refine⟨.exit 0,false,C,j_ c,x6,x7,z_,x9,x10,x11,x12,x13,x14,aE K _ _ t11L1.eq_1 ?_,hC,O_ _,.inl ⟨rfl,rfl⟩⟩;simp(disch:=omega)only[go_sem,H,e]
  |succ U ihl =>
    intro C c x5 x6 x7 x8 x9 x10 x11 x12 x13 x14 hC hU h5;have h6:=aHd hR h0 ihl;have H:(R.map aJ).length=R.length:=L_ _;by_cases hla:c<R.length
    .have e:(c:Int)<(R.length:Int):=A_;have L:=iO (j:=jm) (v:=0) (cap:=R.length) hla;have J:=bEp h0 lo C;have F:=bPz (C:=C) (i:=c) A_;cases Z:C.getD c false with
      |true =>rw[Z]at F;refine⟨.exit 0,false,C,j_ c,x6,x7,z_,x9,x10,x11,x12,x13,x14,aE K _ _ t11L1.eq_1 ?_,hC,O_ _,.inl ⟨rfl,rfl⟩⟩;simp(disch:=omega)only[go_sem,H,e,L,J,F]
      |false =>
        rw[Z]at F;have N:=bU1 (C:=C) (i:=c) true A_;have q:c+1<=(C.map bX).length:=by rw[L_];omega
        have h7:=aJ5 C c A_ Z;have G:(C.set c true).length=R.length:=by rw[F6];exact hC
        have P:=bSe S jm lo C (C.set c true);have p:=gC (w:=8) (f:=aJ) eZ (t:=t) (l:=R) (i:=(c:Int)) A_;rw[Int.toNat_natCast,cV]at p;have ld:=@RdX.load R s c;have fa:=@RdX.fall R s c;have ju:=fun j=>@RdX.jump R s c j;have la:=fun x0 x2 x8 x9 x10 x11 x14=>aCj hR h0 h6 (R.getD c default).op (R.getD c default).d (R.getD c default).a (R.getD c default).b (R.getD c default).im (R.getD c default).lb x0 x2 u_ x8 x9 x10 x11 x14 (.iv (.sl (R.getD c default).tu (TM.one (.int .i64) (R.getD c default).us))) (.iv (.sl (R.getD c default).tm (TM.one (.int .i64) (R.getD c default).mp))) R.length 0 (C.set c true);rw[n0_]at la;generalize C.set c true=C1 at *
        generalize R.getD c default=y at *
        rcases(by omega:y.op=73\/y.op=74\/y.op=68\/y.op=72\/y.op=66\/(26<=y.op/\y.op<=31)\/(y.op<26)\/(31<y.op/\y.op≠73/\y.op≠74/\y.op≠68/\y.op≠72/\y.op≠66))with ho|ho|ho|ho|ho|ho|ho|ho
        .by_cases hi:y.im=s;.have n:(y.op==73)=true:=F5.2 A_;have g:(y.op==74)=false:=S_.2 A_;have m:(y.op==68)=false:=S_.2 A_;have k:(y.op==72)=false:=S_.2 A_;have o:(y.op==66)=false:=S_.2 A_;have Q:(y.im==s)=true:=F5.2 hi;refine⟨.ret,true,C1,j_ c,.lb ((aJ y).map .iv),x7,e_,e_,x10,x11,x12,x13,x14,aE K _ _ t11L1.eq_1 ?_,G,by omega,.inr ⟨rfl,fun _=>ld A_ hi⟩⟩;simp(disch:=omega)only[go_sem,H,e,L,J,F,N,q,P,p,aS,n,g,m,k,o,Q]
          .have n:(y.op==73)=true:=F5.2 A_;have g:(y.op==74)=false:=S_.2 A_;have m:(y.op==68)=false:=S_.2 A_;have k:(y.op==72)=false:=S_.2 A_;have o:(y.op==66)=false:=S_.2 A_;have Q:(y.im==s)=false:=S_.2 hi;have z:y.op≥26:=A_;have I:¬y.op<=31:=A_;obtain⟨V,b,C',y2,y6,T,y8,y9,A,E,r,u,D,W,Y,k2,x⟩:=ihl C1 (c+1) z_ (.lb ((aJ y).map .iv)) x7 e_ z_ z_ z_ x12 x13 x14 G A_ A_;rw[show((c+1:Nat):Int)=(c:Int)+1 by omega]at W;refine⟨V,b,C',y2,y6,T,y8,y9,A,E,r,u,D,aE K _ _ t11L1.eq_1 ?_,Y,by omega,?_⟩;.simp(disch:=omega)only[go_sem,H,e,L,J,F,N,q,P,p,aS,n,g,m,k,o,Q,z,I,aC];exact X_ er W
            .rcases x with x|⟨x,k4⟩;.exact .inl x
              .exact .inr ⟨x,fun h=>fa (by unfold sV;omega) A_ (k4 h)⟩
        .by_cases hi:y.im=s;.have n:(y.op==73)=false:=S_.2 A_;have g:(y.op==74)=true:=F5.2 A_;have m:(y.op==68)=false:=S_.2 A_;have k:(y.op==72)=false:=S_.2 A_;have o:(y.op==66)=false:=S_.2 A_;have Q:(y.im==s)=true:=F5.2 hi;refine⟨.ret,false,C1,j_ c,.lb ((aJ y).map .iv),x7,e_,z_,e_,x11,x12,x13,x14,aE K _ _ t11L1.eq_1 ?_,G,by omega,.inr ⟨rfl,fun h=>by cases h⟩⟩;simp(disch:=omega)only[go_sem,H,e,L,J,F,N,q,P,p,aS,n,g,m,k,o,Q]
          .have n:(y.op==73)=false:=S_.2 A_;have g:(y.op==74)=true:=F5.2 A_;have m:(y.op==68)=false:=S_.2 A_;have k:(y.op==72)=false:=S_.2 A_;have o:(y.op==66)=false:=S_.2 A_;have Q:(y.im==s)=false:=S_.2 hi;have z:y.op≥26:=A_;have I:¬y.op<=31:=A_;obtain⟨V,b,C',y2,y6,T,y8,y9,A,E,r,u,D,W,Y,k2,x⟩:=ihl C1 (c+1) z_ (.lb ((aJ y).map .iv)) x7 e_ z_ z_ z_ x12 x13 x14 G A_ A_;rw[show((c+1:Nat):Int)=(c:Int)+1 by omega]at W;refine⟨V,b,C',y2,y6,T,y8,y9,A,E,r,u,D,aE K _ _ t11L1.eq_1 ?_,Y,by omega,?_⟩;.simp(disch:=omega)only[go_sem,H,e,L,J,F,N,q,P,p,aS,n,g,m,k,o,Q,z,I,aC];exact X_ er W
            .rcases x with x|⟨x,k4⟩;.exact .inl x
              .exact .inr ⟨x,fun h=>fa (by unfold sV;omega) A_ (k4 h)⟩
        .have n:(y.op==73)=false:=S_.2 A_;have g:(y.op==74)=false:=S_.2 A_;have m:(y.op==68)=true:=F5.2 A_;have k:(y.op==72)=false:=S_.2 A_;have o:(y.op==66)=false:=S_.2 A_;refine⟨.ret,false,C1,j_ c,.lb ((aJ y).map .iv),x7,e_,z_,e_,x11,x12,x13,x14,aE K _ _ t11L1.eq_1 ?_,G,by omega,.inr ⟨rfl,fun h=>by cases h⟩⟩;simp(disch:=omega)only[go_sem,H,e,L,J,F,N,q,P,p,aS,n,g,m,k,o]
        .have n:(y.op==73)=false:=S_.2 A_;have g:(y.op==74)=false:=S_.2 A_;have m:(y.op==68)=false:=S_.2 A_;have k:(y.op==72)=true:=F5.2 A_;have o:(y.op==66)=false:=S_.2 A_;refine⟨.ret,false,C1,j_ c,.lb ((aJ y).map .iv),x7,e_,z_,e_,x11,x12,x13,x14,aE K _ _ t11L1.eq_1 ?_,G,by omega,.inr ⟨rfl,fun h=>by cases h⟩⟩;simp(disch:=omega)only[go_sem,H,e,L,J,F,N,q,P,p,aS,n,g,m,k,o]
        .have n:(y.op==73)=false:=S_.2 A_;have g:(y.op==74)=false:=S_.2 A_;have m:(y.op==68)=false:=S_.2 A_;have k:(y.op==72)=false:=S_.2 A_;have o:(y.op==66)=true:=F5.2 A_;obtain⟨V,bb,C',T,r,u,l1,Y,k2,x⟩:=la (.iv (.agg (gG fn rg sl nd pr rs t R))) (j_ c) e_ z_ z_ e_ x14 x12 x13 A_ G A_;rcases x with⟨rfl,rfl⟩|⟨rfl,rfl,j,q1,q2,q3,q4⟩;.refine⟨.ret,false,C',j_ c,.lb ((aJ y).map .iv),T,e_,z_,z_,e_,r,u,e_,aE K _ _ t11L1.eq_1 ?_,Y,by omega,.inr ⟨rfl,fun h=>by cases h⟩⟩;simp(disch:=omega)only[go_sem,H,e,L,J,F,N,q,P,p,aS,n,g,m,k,o];rw[l1];simp(disch:=omega)only[go_sem,H,e,L,J,F,N,q,P,p,aS,n,g,m,k,o]
          .refine⟨.ret,true,C',j_ c,.lb ((aJ y).map .iv),T,e_,z_,z_,e_,r,u,x14,aE K _ _ t11L1.eq_1 ?_,Y,by omega,.inr ⟨rfl,fun _=>ju j (by unfold sV;omega) A_ q1 q2 q3 q4⟩⟩;simp(disch:=omega)only[go_sem,H,e,L,J,F,N,q,P,p,aS,n,g,m,k,o];rw[l1];simp(disch:=omega)only[go_sem,H,e,L,J,F,N,q,P,p,aS,n,g,m,k,o]
        .have n:(y.op==73)=false:=S_.2 A_;have g:(y.op==74)=false:=S_.2 A_;have m:(y.op==68)=false:=S_.2 A_;have k:(y.op==72)=false:=S_.2 A_;have o:(y.op==66)=false:=S_.2 A_;have z:y.op≥26:=A_;have I:y.op<=31:=A_;obtain⟨V,bb,C',T,r,u,l1,Y,k2,x⟩:=la (.iv (.agg (gG fn rg sl nd pr rs t R))) (j_ c) e_ z_ z_ e_ x14 x12 x13 A_ G A_;rcases x with⟨rfl,rfl⟩|⟨rfl,rfl,j,q1,q2,q3,q4⟩
          .obtain⟨V,b,C2,y2,y6,h4,y8,y9,A,E,h1,h2,D,W,k4,k5,k6⟩:=ihl C' (c+1) z_ (.lb ((aJ y).map .iv)) T e_ z_ z_ e_ r u z_ Y A_ A_;rw[show((c+1:Nat):Int)=(c:Int)+1 by omega]at W;refine⟨V,b,C2,y2,y6,h4,y8,y9,A,E,h1,h2,D,aE K _ _ t11L1.eq_1 ?_,k4,by omega,?_⟩;.simp(disch:=omega)only[go_sem,H,e,L,J,F,N,q,P,p,aS,n,g,m,k,o,z,I];rw[l1];simp(disch:=omega)only[go_sem,H,e,L,J,F,N,q,P,p,aS,n,g,m,k,o,z,I,aC];exact X_ er W
            .rcases k6 with k6|⟨k6,k7⟩;.exact .inl k6
              .exact .inr ⟨k6,fun h=>fa (by unfold sV;omega) A_ (k7 h)⟩
          .refine⟨.ret,true,C',j_ c,.lb ((aJ y).map .iv),T,e_,z_,z_,e_,r,u,x14,aE K _ _ t11L1.eq_1 ?_,Y,by omega,.inr ⟨rfl,fun _=>ju j (by unfold sV;omega) A_ q1 q2 q3 q4⟩⟩;simp(disch:=omega)only[go_sem,H,e,L,J,F,N,q,P,p,aS,n,g,m,k,o,z,I];rw[l1];simp(disch:=omega)only[go_sem,H,e,L,J,F,N,q,P,p,aS,n,g,m,k,o,z,I]
        .have n:(y.op==73)=false:=S_.2 A_;have g:(y.op==74)=false:=S_.2 A_;have m:(y.op==68)=false:=S_.2 A_;have k:(y.op==72)=false:=S_.2 A_;have o:(y.op==66)=false:=S_.2 A_;have z:¬y.op≥26:=A_;obtain⟨V,b,C',y2,y6,T,y8,y9,A,E,r,u,D,W,Y,k2,x⟩:=ihl C1 (c+1) z_ (.lb ((aJ y).map .iv)) x7 e_ z_ z_ z_ x12 x13 x14 G A_ A_;rw[show((c+1:Nat):Int)=(c:Int)+1 by omega]at W;refine⟨V,b,C',y2,y6,T,y8,y9,A,E,r,u,D,aE K _ _ t11L1.eq_1 ?_,Y,by omega,?_⟩;.simp(disch:=omega)only[go_sem,H,e,L,J,F,N,q,P,p,aS,n,g,m,k,o,z,aC];exact X_ er W
          .rcases x with x|⟨x,k4⟩;.exact .inl x
            .exact .inr ⟨x,fun h=>fa (by unfold sV;omega) A_ (k4 h)⟩
        .have n:(y.op==73)=false:=S_.2 A_;have g:(y.op==74)=false:=S_.2 A_;have m:(y.op==68)=false:=S_.2 A_;have k:(y.op==72)=false:=S_.2 A_;have o:(y.op==66)=false:=S_.2 A_;have z:y.op≥26:=A_;have I:¬y.op<=31:=A_;obtain⟨V,b,C',y2,y6,T,y8,y9,A,E,r,u,D,W,Y,k2,x⟩:=ihl C1 (c+1) z_ (.lb ((aJ y).map .iv)) x7 e_ z_ z_ z_ x12 x13 x14 G A_ A_;rw[show((c+1:Nat):Int)=(c:Int)+1 by omega]at W;refine⟨V,b,C',y2,y6,T,y8,y9,A,E,r,u,D,aE K _ _ t11L1.eq_1 ?_,Y,by omega,?_⟩;.simp(disch:=omega)only[go_sem,H,e,L,J,F,N,q,P,p,aS,n,g,m,k,o,z,I,aC];exact X_ er W
          .rcases x with x|⟨x,k4⟩;.exact .inl x
            .exact .inr ⟨x,fun h=>fa (by unfold sV;omega) A_ (k4 h)⟩
    .have e:¬(c:Int)<(R.length:Int):=A_;refine⟨.exit 0,false,C,j_ c,x6,x7,z_,x9,x10,x11,x12,x13,x14,aE K _ _ t11L1.eq_1 ?_,hC,O_ _,.inl ⟨rfl,rfl⟩⟩;simp(disch:=omega)only[go_sem,H,e]
theorem bSg{fn rg sl nd pr:Int}{rs:Bool}{t:Tag}{R:List VI}(b:R.length<=1000){s:Int}{S:aA}{jm:Nat}(a:jm<S.length){lo:Bool}(U:Nat):aQw fn rg sl nd pr rs t R s S jm lo U:=aHd b a (bSf b a U)
theorem bSh(C:List Bool):unm C<=C.length:=D8 _ _
theorem bWf(n:Nat):cF n (fun _=>TVz_)=(List.replicate n false).map bX:=by unfold cF bX;rw[List.map_replicate];exact List.eq_replicate_iff.2 ⟨by simp,fun b a=>by obtain⟨_,_,rfl⟩:=A0.1 a;rfl⟩
section
variable {fn nd pr:Int}{rs:Bool}{t:Tag}{R:List VI}(hR:R.length<=1000){ns:Nat}(hns:ns<=100000)
include hR hns
theorem bEq{i:Nat}(x:i<R.length)(j:(R.getD i default).mp.length<=100000)(q:Int)(x0 p x2 x4 x9 x10 x11 x12 x13 x15:TV)(S:aA):∀(m k:Nat) (fd:Bool) (x14:TV),k+m=(R.getD i default).mp.length->fd=decide (q∈(R.getD i default).mp.take k) ->lp' (lim K) t4L0 [x0,p,x2,.lb [j_ fn,j_ 32,j_ ns,j_ nd,j_ pr,.iv (.bool rs),.iv (.sl t (R.map aJ))],x4,j_ i,j_ q,.iv (.bool fd),j_ k,x9,x10,x11,x12,x13,x14,x15] S = .ret (.exit 4,[x0,p,x2,.lb [j_ fn,j_ 32,j_ ns,j_ nd,j_ pr,.iv (.bool rs),.iv (.sl t (R.map aJ))],x4,j_ i,j_ q,.iv (.bool (decide (q∈(R.getD i default).mp))),.iv (.int .i64 (R.getD i default).mp.length),x9,x10,x11,x12,x13,z_,x15],S)
 |0,k,fd,x14,h,hf=>by
  obtain rfl:k=(R.getD i default).mp.length:=A_;rw[C0]at hf;subst hf;have a:=gC (w:=8) (f:=aJ) eZ (t:=t) (l:=R) (i:=(i:Int)) A_;rw[Int.toNat_natCast,cV]at a;refine aE K _ _ t4L0.eq_1 ?_;have d:(TM.one (IV.int .i64) (R.getD i default).mp).length=(R.getD i default).mp.length:=TM.kB ..;generalize R.getD i default=y at *
  simp(disch:=omega)only[go_sem,a,ao7,d]
 |m+1,k,fd,x14,h,hf=>by
  have v:k<(R.getD i default).mp.length:=A_;have a:=gC (w:=8) (f:=aJ) eZ (t:=t) (l:=R) (i:=(i:Int)) A_;rw[Int.toNat_natCast,cV]at a;have g:=pI (f:=IV.int .i64) (t:=(R.getD i default).tm) (l:=(R.getD i default).mp) (i:=(k:Int)) A_;rw[Int.toNat_natCast]at g;have u:(R.getD i default).mp.getD k default=(R.getD i default).mp.getD k 0:=rfl;rw[u]at g;have ts:=aHb v;have d:(TM.one (IV.int .i64) (R.getD i default).mp).length=(R.getD i default).mp.length:=TM.kB ..;have e:=fun o s=>bEq x j q x0 p x2 x4 x9 x10 x11 x12 x13 x15 S m (k+1) o e_ A_ s;rw[show((k+1:Nat):Int)=(k:Int)+1 by omega]at e;rw[ts]at e;generalize R.getD i default=y at *
  generalize y.mp.getD k 0=w at *
  refine aE K _ _ t4L0.eq_1 ?_;cases fd with
  |true =>have b:=e true (by have:=M8 hf.symm;rw[V_ (G4 _ this)]);simp(disch:=omega)only[go_sem,a,ao7,d,aC];exact X_ er b
  |false =>
   have r:q∉y.mp.take k:=fun c=>by rw[V_ c]at hf;cases hf
   by_cases hw:w=q;.have n:(w==q)=true:=F5.2 hw;have b:=e true (by rw[V_ (G0 _ (by rw[hw];simp))]);simp(disch:=omega)only[go_sem,a,ao7,d,g,n,aC];exact X_ er b
   .have n:(w==q)=false:=S_.2 hw;have b:=e false (by
     refine(l_ fun c=>?_).symm;rcases a_.1 c with c|c;.exact r c
     .rw[U_]at c;exact hw c.symm)
    simp(disch:=omega)only[go_sem,a,ao7,d,g,n,aC];exact X_ er b
theorem aQx{i:Nat}(u:i<R.length)(g:(R.getD i default).mp.length<=100000)(f:∀q:Nat,q<ns->(q:Int)∉(R.getD i default).mp->¬RdX R q (i+1))(x0 k x2 x4 x9 x10 x11 x12:TV):∀(m q:Nat) (S:aA) (x7 x8 x13 x14 x15:TV),q+m=ns ->∃S' j p d c a,lp' (lim K) t4L1 [x0,k,x2,.lb [j_ fn,j_ 32,j_ ns,j_ nd,j_ pr,.iv (.bool rs),.iv (.sl t (R.map aJ))],x4,j_ i,j_ q,x7,x8,x9,x10,x11,x12,x13,x14,x15] S = .ret (.exit 2,[x0,k,x2,.lb [j_ fn,j_ 32,j_ ns,j_ nd,j_ pr,.iv (.bool rs),.iv (.sl t (R.map aJ))],x4,j_ i,j_ ns,j,p,x9,x10,x11,x12,d,c,a],S')
 |0,q,S,x7,x8,x13,x14,x15,h=>by obtain rfl:q=ns:=A_;refine⟨S,x7,x8,z_,x14,x15,aE K _ _ t4L1.eq_1 ?_⟩;simp(disch:=omega)only[go_sem]
 |m+1,q,S,x7,x8,x13,x14,x15,h=>by
  have r:(q:Int)<(ns:Int):=A_;have l:=fun x9 x10 x11 x12 x13 x14 x15 S=>bEq (fn:=fn) (nd:=nd) (pr:=pr) (rs:=rs) (t:=t) hR hns u g (q:Int) x0 k x2 x4 x9 x10 x11 x12 x13 x15 S (R.getD i default).mp.length 0 false x14 A_ B_;rw[n0_]at l;have x:(R.map aJ).length=R.length:=L_ _;by_cases hf:(q:Int)∈(R.getD i default).mp;.rw[V_ hf]at l;obtain⟨S',j,p,d,c,a,o⟩:=aQx u g f x0 k x2 x4 x9 x10 x11 x12 m (q+1) S e_ (.iv (.int .i64 (R.getD i default).mp.length)) e_ z_ z_ A_;rw[show((q+1:Nat):Int)=(q:Int)+1 by omega]at o;refine⟨S',j,p,d,c,a,aE K _ _ t4L1.eq_1 ?_⟩;simp(disch:=omega)only[go_sem,r];rw[l];simp(disch:=omega)only[go_sem,r,aC];exact X_ er o
  .rw[l_ hf]at l;have v:=fun m=>aU2 (z:=.bool false) (m:=m) (bR (n:=R.length) (b:=1) A_);rw[bWf]at v;have w:=bSg (fn:=fn) (rg:=32) (sl:=ns) (nd:=nd) (pr:=pr) (rs:=rs) (t:=t) hR (s:=(q:Int)) (S:=S++[.cells 0 false ((List.replicate R.length false).map bX)]) (jm:=S.length) B_ (lo:=false) R.length;obtain⟨b,C',e,_,_,A⟩:=w (List.replicate R.length false) (i+1) B_ (by have:=bSh (List.replicate R.length false);rw[G1]at this;exact this) A_;have y:mS (S++[.cells 0 false ((List.replicate R.length false).map bX)]) S.length false (List.replicate R.length false)=S++[.cells 0 false ((List.replicate R.length false).map bX)]:=by unfold mS;simp
   rw[y]at e;obtain rfl:b=false:=by
    cases b with
    |false=>rfl
    |true=>exact absurd (A rfl) (f q A_ hf)
   rw[show((i+1:Nat):Int)=(i:Int)+1 by omega]at e;unfold gG at e;generalize mS (S++[.cells 0 false ((List.replicate R.length false).map bX)]) S.length false C'=S1 at *
   generalize (List.replicate R.length false).map bX=B at *
   obtain⟨S',j,p,d,c,a,o⟩:=aQx u g f x0 k x2 x4 x9 x10 x11 x12 m (q+1) S1 z_ (.iv (.int .i64 (R.getD i default).mp.length)) e_ z_ z_ A_;rw[show((q+1:Nat):Int)=(q:Int)+1 by omega]at o;refine⟨S',j,p,d,c,a,aE K _ _ t4L1.eq_1 ?_⟩;simp(disch:=omega)only[go_sem,r];rw[l];simp(disch:=omega)only[go_sem,r,x,v,e,aC];exact X_ er o
theorem aQy(j:∀x∈R,x.mp.length<=100000)(g:∀i,i<R.length->(R.getD i default).op=67->∀q:Nat,q<ns->(q:Int)∉(R.getD i default).mp->¬RdX R q (i+1))(x0 p x2 x4 x9 x10:TV):∀(m i:Nat) (S:aA) (x6 x7 x8 x11 x12 x13 x14 x15:TV),i+m=R.length ->∃S' r n u b d e c a,lp' (lim K) t4L2 [x0,p,x2,.lb [j_ fn,j_ 32,j_ ns,j_ nd,j_ pr,.iv (.bool rs),.iv (.sl t (R.map aJ))],x4,j_ i,x6,x7,x8,x9,x10,x11,x12,x13,x14,x15] S = .ret (.exit 0,[x0,p,x2,.lb [j_ fn,j_ 32,j_ ns,j_ nd,j_ pr,.iv (.bool rs),.iv (.sl t (R.map aJ))],x4,j_ R.length,r,n,u,x9,x10,b,d,e,c,a],S')
 |0,i,S,x6,x7,x8,x11,x12,x13,x14,x15,h=>by obtain rfl:i=R.length:=A_;have v:(R.map aJ).length=R.length:=L_ _;refine⟨S,x6,x7,x8,z_,x12,x13,x14,x15,aE K _ _ t4L2.eq_1 ?_⟩;simp(disch:=omega)only[go_sem,v]
 |m+1,i,S,x6,x7,x8,x11,x12,x13,x14,x15,h=>by
  have z:i<R.length:=A_;have o:(i:Int)<(R.length:Int):=A_;have v:(R.map aJ).length=R.length:=L_ _;have k:=gC (w:=8) (f:=aJ) eZ (t:=t) (l:=R) (i:=(i:Int)) A_;rw[Int.toNat_natCast,cV]at k;by_cases hop:(R.getD i default).op=67
  .have F:((R.getD i default).op==67)=true:=F5.2 hop;obtain⟨S1,G,H,C,A,D,E⟩:=aQx (fn:=fn) (nd:=nd) (pr:=pr) (rs:=rs) (t:=t) hR hns z (j _ (bQ z)) (g i z hop) x0 p x2 x4 x9 x10 e_ z_ ns 0 S x7 x8 x13 x14 x15 A_;rw[n0_]at E;obtain⟨S',r,n,u,b,d,e,c,a,s⟩:=aQy j g x0 p x2 x4 x9 x10 m (i+1) S1 (j_ ns) G H e_ z_ C A D A_;rw[show((i+1:Nat):Int)=(i:Int)+1 by omega]at s;refine⟨S',r,n,u,b,d,e,c,a,aE K _ _ t4L2.eq_1 ?_⟩;generalize R.getD i default=y at *
   simp(disch:=omega)only[go_sem,v,o,k,ao0,hop];rw[E];simp(disch:=omega)only[go_sem,aC];exact X_ er s
  .obtain⟨S',r,n,u,b,d,e,c,a,s⟩:=aQy j g x0 p x2 x4 x9 x10 m (i+1) S x6 x7 x8 e_ e_ x13 x14 x15 A_;rw[show((i+1:Nat):Int)=(i:Int)+1 by omega]at s;refine⟨S',r,n,u,b,d,e,c,a,aE K _ _ t4L2.eq_1 ?_⟩;generalize R.getD i default=y at *
   simp(disch:=omega)only[go_sem,v,o,k,ao0,hop,aC];exact X_ er s
end
theorem bSi{W:Ta_}{r:Nat}(b:W.Pairwise (·<·))(h:∀x∈W,1<=x/\x<r):W.length<=r:=by
 have:=xF W ((List.range r).map fun n:Nat=>(n:Int)) (b.imp fun h=>A_) fun x a=>by have:=h x a;exact A0.2 ⟨x.toNat,C5.2 A_,by omega⟩
 rw[L_,F8]at this;exact this
theorem bSj{f:VF}{v:TV}{σ:Ta_}{n:Nat}{o:Tg_}{O:Te_}{R:List VI}{t:Tag}(h:zK f v σ n o O R t):∀x∈R,x.mp.length<=f.regs:=fun x d=>by
 by_cases hop:x.op=67
 .obtain⟨k,g,rfl⟩:=H8 d
  have l:R.getD k default=R[k]:=by rw[W_,D_ g];rfl
  rw[<-l]at hop |-
  have a:k<(bG σ f.regs f.ins).length:=by rw[<-h.acc.len];exact g
  obtain⟨t,e⟩:=h.acc.at_ k a
  rw[e,(aCi ..).1]at hop
  rw[e]
  unfold rX
  rw[K_ hop]
  show(eG (slF σ _)).length<=_
  rw[uH]
  refine B9 (aJ3 σ _) ?_
  obtain⟨c,j,i,m,rfl⟩:=eS a
  have b:=aVk σ f.ins f.regs 0 c j i m
  rw[A7]at b
  rw[W_,b,Option.getD_some,Int.toNat_natCast]
  exact bSi (aC4 ..) fun x d=>by have:=(h.out c i x).1 d;omega
 .rw[mpT h.bare h x d hop];simp
theorem bU2(fn rg sl nd pr:Int)(rs:Bool)(ti:Tag)(ins:List VI)(G:∀x∈ins,cB x.tu x.us):((lim K).call 4 [.iv (.agg (gG fn rg sl nd pr rs ti ins))] []).All fun r=>r.1=e_:=by
 obtain⟨b,a,E⟩:=bR9 fn rg sl nd pr rs ti ins;have e:=bU0;refine dJ K _ (fn:=t4) rfl rfl ?_;unfold gG at a |-;cases b with
 |true =>simp(disch:=omega)only[t4,go_sem,aD a];refine nS e ?_;rintro v rfl;simp(disch:=omega)only[go_sem];exact bE rfl
 |false =>
  obtain⟨P,L,h3⟩:=E rfl;have j:=bUl (fn:=fn) (sl:=sl) (nd:=nd) (pr:=pr) (rs:=rs) (ti:=ti) (ins:=ins) (show rg<=110 by omega) A_ fun x d=>⟨by have:=h3 x d;omega,G x d⟩
  unfold gG at j;simp(disch:=omega)only[t4,go_sem,aD a];refine nS j ?_;rintro v (rfl|⟨f,w,l,σ,n,o,O,R,t,c⟩);.unfold noV;simp(disch:=omega)only[go_sem];refine nS e ?_;rintro v rfl;simp(disch:=omega)only[go_sem];exact bE rfl
  .have I:=c.reach.ok.len;have F:=l.r;have z:=l.n;have g:R.length<=1000:=by have:=(lF σ f.regs f.ins).2;rw[<-c.acc.len]at this;omega
   have H:=bSj c;obtain⟨S',N,J,Q,y,C,D,A,s,k⟩:=aQy (fn:=f.fn) (nd:=f.nd) (pr:=f.pr) (rs:=f.rs) (t:=t) g (ns:=σ.length) A_ (fun x d=>by have:=H x d;omega) (fun i p h q u m=>bEo c p h u m) (.iv (.agg [.int .i64 fn,.int .i64 rg,.int .i64 sl,.int .i64 nd,.int .i64 pr,.bool rs,.sl ti (ins.map aJ)])) (.lb [j_ fn,j_ rg,j_ sl,j_ nd,j_ pr,.iv (.bool rs),.iv (.sl ti (ins.map aJ))]) z_ (j_ 0) z_ z_ R.length 0 [] u_ u_ u_ u_ u_ u_ u_ u_ A_;rw[n0_]at k;rw[c.val];simp(disch:=omega)only[go_sem];rw[k];simp(disch:=omega)only[go_sem];refine nS e ?_;rintro v rfl;simp(disch:=omega)only[go_sem];exact bE rfl
end Go.Proofs.YtehlgnfhkidgoaaGreatDoor
namespace Go.Proofs.YtehlgnfhkidgoaaGreatDoor
open Go Go.TM Go.ChangeShapes Go.WideShapes
variable {H:Type}
theorem aJ7{d:DataW H}{l:Tq_}(h:Ty Tryz.prog 26 d l):∃(t:Tag) (us:Ta_),l=[.sl t (TM.one (.int .i64) us)]/\cB t us:=by obtain⟨t,us,rfl,a,_,_⟩:=aFo (f:=fun n:Int=>[IV.int .i64 n]) (R:=fun _=>True) Tryz.underlying26 (fun d l h=>by obtain⟨n,rfl,_⟩:=lP Tryz.underlying3 h;exact⟨n,rfl,trivial⟩) h;exact⟨t,us,rfl,a⟩
theorem bEr{d:DataW H}{l:Tq_}(h:Ty Tryz.prog 28 d l):∃v:VI,l=aJ v/\cB v.tu v.us:=by obtain⟨ds,ls,rfl,f⟩:=aIg Tryz.underlying28 h;obtain⟨T,L,p,G,rfl,k0,f⟩:=dE f;obtain⟨Y,l1,E,z,rfl,A,f⟩:=dE f;obtain⟨d2,l2,I,o,rfl,u,f⟩:=dE f;obtain⟨d3,P,F,q,rfl,y,f⟩:=dE f;obtain⟨W,Z,C,j,rfl,s,f⟩:=dE f;obtain⟨N,R,D,i,rfl,r,f⟩:=dE f;obtain⟨U,Q,x,t,rfl,w,f⟩:=dE f;obtain⟨V,l7,m,J,rfl,k,f⟩:=dE f;obtain rfl:=aAh f;obtain⟨op,rfl,_⟩:=lP Tryz.underlying3 k0;obtain⟨a,rfl,_⟩:=lP Tryz.underlying3 A;obtain⟨b,rfl,_⟩:=lP Tryz.underlying3 u;obtain⟨c,rfl,_⟩:=lP Tryz.underlying3 y;obtain⟨e,rfl,_⟩:=lP Tryz.underlying3 s;obtain⟨g,rfl,_⟩:=lP Tryz.underlying3 r;obtain⟨tu,us,rfl,n⟩:=aJ7 w;obtain⟨tm,mp,rfl,_⟩:=aJ7 k;exact⟨⟨op,a,b,c,e,g,tu,us,tm,mp⟩,rfl,n⟩
theorem bEs{d:DataW H}{l:Tq_}(h:Ty Tryz.prog 24 d l):∃(fn rg sl nd pr:Int) (rs:Bool) (ti:Tag) (ins:List VI),l=gG fn rg sl nd pr rs ti ins/\ins.length<=9223372036854775807/\∀x∈ins,cB x.tu x.us:=by obtain⟨ds,ls,rfl,a⟩:=aIg Tryz.underlying24 h;obtain⟨L,E,j,C,rfl,k0,a⟩:=dE a;obtain⟨Q,U,z,t,rfl,u,a⟩:=dE a;obtain⟨V,l2,D,i,rfl,p,a⟩:=dE a;obtain⟨W,G,A,k,rfl,s,a⟩:=dE a;obtain⟨P,T,w,e,rfl,n,a⟩:=dE a;obtain⟨F,J,y,b,rfl,m,a⟩:=dE a;obtain⟨N,I,r,o,rfl,q,a⟩:=dE a;obtain rfl:=aAh a;obtain⟨fn,rfl,_⟩:=lP Tryz.underlying3 k0;obtain⟨rg,rfl,_⟩:=lP Tryz.underlying3 u;obtain⟨sl,rfl,_⟩:=lP Tryz.underlying3 p;obtain⟨nd,rfl,_⟩:=lP Tryz.underlying3 s;obtain⟨pr,rfl,_⟩:=lP Tryz.underlying3 n;obtain⟨rs,rfl⟩:=bO2 Tryz.underlying4 m;obtain⟨ti,ins,rfl,_,c,g⟩:=aFo (f:=aJ) (R:=fun v=>cB v.tu v.us) Tryz.underlying22 (fun d l h=>bEr h) q;exact⟨fn,rg,sl,nd,pr,rs,ti,ins,rfl,g,c⟩
variable {H:Type}
theorem inv4{ds:List (DataW H)}{ls:M_}(a:tZ Tryz.prog [24] ds ls):((lim K).call 4 (aLk Tryz.prog [24] ls) []).All fun r=>r.1=e_:=by obtain⟨j,i,e,g,rfl,d,b⟩:=dE a;obtain⟨fn,rg,sl,nd,pr,rs,ti,ins,rfl,h,c⟩:=bEs d;have f:∀l,aH3 Tryz.prog 24 l=.iv (.agg l):=fun x=>bBo (by rw[Tryz.underlying24]);rw[aAh b];simp only[aLk,f];exact bU2 fn rg sl nd pr rs ti ins c
end Go.Proofs.YtehlgnfhkidgoaaGreatDoor
