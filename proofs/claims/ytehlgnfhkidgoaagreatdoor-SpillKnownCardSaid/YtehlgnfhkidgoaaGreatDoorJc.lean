/- Some texts of the proof, joined. Condition: none. -/
import Derived.Test.YtehlgnfhkidgoaaGreatDoorJa
import Derived.Test.YtehlgnfhkidgoaaGreatDoorKr2
import Derived.Test.YtehlgnfhkidgoaaGreatDoorTmF
import Derived.Test.YtehlgnfhkidgoaaGreatDoorJb
set_option linter.unusedSectionVars false
set_option maxRecDepth 100000
set_option maxHeartbeats 64000000
set_option linter.unusedSimpArgs false
set_option linter.unusedVariables false
namespace Go.Proofs.YtehlgnfhkidgoaaGreatDoor
open Go Go.TM
theorem aT4(op:Int)(h:1<=op/\op<=25):TM.Pure K 128 [j_ op] (j_ (if op<=14 then 1 else if op=23 then 3 else if op=25 then 4 else 2)):=by
 refine aT t128 rfl rfl ?_;rcases(by omega:op<=14\/op=23\/op=25\/(15<=op/\op<=22)\/op=24)with h1|h1|h1|h1|h1;.rw[K_ h1];simp(disch:=omega)only[t128,go_sem]
 .rw[I_ A_,K_ h1];simp(disch:=omega)only[t128,go_sem]
 .rw[I_ A_,I_ A_,K_ h1];simp(disch:=omega)only[t128,go_sem]
 .rw[I_ A_,I_ A_,I_ A_];simp(disch:=omega)only[t128,go_sem]
 .rw[I_ A_,I_ A_,I_ A_];simp(disch:=omega)only[t128,go_sem]
theorem aWx:TM.Pure K 127 [j_ 1] (.tup [e_,e_,e_,j_ 0]):=by refine aT t127 rfl rfl ?_;simp(disch:=omega)only[t127,go_sem]
theorem aG3:TM.Pure K 127 [j_ 2] (.tup [e_,e_,z_,j_ 16]):=by refine aT t127 rfl rfl ?_;simp(disch:=omega)only[t127,go_sem]
theorem aWy:TM.Pure K 127 [j_ 3] (.tup [e_,z_,z_,j_ 16]):=by refine aT t127 rfl rfl ?_;simp(disch:=omega)only[t127,go_sem]
theorem aWz:TM.Pure K 127 [j_ 4] (.tup [z_,e_,e_,j_ 16]):=by refine aT t127 rfl rfl ?_;simp(disch:=omega)only[t127,go_sem]
theorem aI1(b:Bool):TM.Pure K 133 [.iv (.bool b),j_ 0] e_:=by refine aT t133 rfl rfl ?_;cases b<;>simp(disch:=omega)only[t133,go_sem]
theorem bK1(op:Int)(h:1<=op/\op<=25):TM.Pure K 132 [j_ op] (.tup [j_ (loM op),j_ (hiM op)]):=by
 have a:=aT4 op h;unfold loM hiM;refine aT t132 rfl rfl ?_;rcases(by omega:op<=14\/op=15\/op=16\/op=17\/op=18\/op=19\/op=20\/op=21\/op=22\/op=23\/op=24\/op=25)with h1|h1|h1|h1|h1|h1|h1|h1|h1|h1|h1|h1;.rw[I_ A_,I_ A_,I_ A_,I_ A_];rw[K_ h1]at a;simp(disch:=omega)only[t132,go_sem,aD a]
 all_goals
  subst h1
  simp(disch:=omega)only[t132,go_sem,aD a]
  rfl
theorem aDa(op:Int)(h:1<=op/\op<=25):∃(f:Int) (d a b:Bool) (e:Int),TM.Pure K 128 [j_ op] (j_ f)/\TM.Pure K 127 [j_ f] (.tup [.iv (.bool d),.iv (.bool a),.iv (.bool b),j_ e])/\f≠0/\0<=e/\e<=21:=by
 have c:=aT4 op h;rcases(by omega:op<=14\/op=23\/op=25\/(15<=op/\op<=22)\/op=24)with h1|h1|h1|h1|h1;.rw[K_ h1]at c;exact⟨1,_,_,_,_,c,aWx,by decide,by decide,by decide⟩
 .rw[I_ A_,K_ h1]at c;exact⟨3,_,_,_,_,c,aWy,by decide,by decide,by decide⟩
 .rw[I_ A_,I_ A_,K_ h1]at c;exact⟨4,_,_,_,_,c,aWz,by decide,by decide,by decide⟩
 .rw[I_ A_,I_ A_,I_ A_]at c;exact⟨2,_,_,_,_,c,aG3,by decide,by decide,by decide⟩
 .rw[I_ A_,I_ A_,I_ A_]at c;exact⟨2,_,_,_,_,c,aG3,by decide,by decide,by decide⟩
theorem bK2(op g:Int)(h:1<=op/\op<=25):TM.Pure K 126 [.iv (.agg [.int .i64 op,.int .i64 0,.int .i64 0,.int .i64 0,.int .i64 g])] (j_ (if loM op<=g/\g<=hiM op then 0 else 11)):=by
 obtain⟨n,d,a,b,m,c,e,l,_,_⟩:=aDa op h;have f:=bK1 op h;have k:=aI1 d;have i:=aI1 a;have j:=aI1 b;generalize loM op=lo at *
 generalize hiM op=hi at *
 refine aT t126 rfl rfl ?_;by_cases e1:lo<=g
 .by_cases e2:g<=hi;.rw[K_ ⟨e1,e2⟩];simp (config := { maxSteps := 4000000 })(disch:=omega)only[t126,go_sem,aD c,aD e,aD f,aD k,aD i,aD j]
  .rw[I_ A_];simp (config := { maxSteps := 4000000 })(disch:=omega)only[t126,go_sem,aD c,aD e,aD f,aD k,aD i,aD j]
 .rw[I_ A_];simp (config := { maxSteps := 4000000 })(disch:=omega)only[t126,go_sem,aD c,aD e,aD f,aD k,aD i,aD j]
def aL4(b:Bool):List IV:=[.bool b,.int .i64 0]
theorem aI2(E:List Bool)(r:E.length<=10)(x0 q x2 p x4 x5 x6 x7 x8 x12:TV):∀(k i:Nat) (w c:Int) (x11 x16 m:TV),i+k=E.length->5*(k:Int)<=c->c<=100 ->∃(w' e:Int) (d j g:TV),lp' (lim K) t112L0 [x0,q,x2,p,x4,x5,x6,x7,x8,.iv (.int .u32 w),j_ c,x11,x12,.iv (.sl .full (E.map aL4)),j_ E.length,j_ i,x16,m] [] = .ret (.exit 0,[x0,q,x2,p,x4,x5,x6,x7,x8,.iv (.int .u32 w'),j_ e,d,x12,.iv (.sl .full (E.map aL4)),j_ E.length,j_ E.length,j,g],[])
 |0,i,w,c,x11,x16,m,h,h1,h2=>by obtain rfl:i=E.length:=A_;refine⟨w,c,x11,z_,m,aE K _ _ t112L0.eq_1 ?_⟩;simp(disch:=omega)only[go_sem]
 |k+1,i,w,c,x11,x16,m,h,h1,h2=>by
  have v:i<E.length:=A_;have n:=jF (w:=2) (f:=aL4) (fun _=>rfl) (t:=.full) (l:=E) (i:=(i:Int)) A_;rw[Int.toNat_natCast]at n;generalize E.getD i default=b at *
  rw[show aL4 b=[.bool b,.int .i64 0] from rfl]at n;have s:∀(env:Env) (S:aA) (a b:IV),bQ env S (.iv (.cp [a,b])) 2=some [.iv a,.iv b]:=fun _ _ _ _=>by simp[bQ,sub]
  cases b with
  |true =>have u:IntKind.u32.wrap 0=0:=C_;obtain⟨w',e,d,j,g,o⟩:=aI2 E r x0 q x2 p x4 x5 x6 x7 x8 x12 k (i+1) (IntKind.u32.wrap (bOr 32 w (IntKind.u32.wrap (0*2 ^ (if c.toNat<=32 then c.toNat else 32))))) (c-5) (.lb [e_,j_ 0]) e_ e_ A_ A_ A_;rw[show((i+1:Nat):Int)=(i:Int)+1 by omega]at o;refine⟨w',e,d,j,g,aE K _ _ t112L0.eq_1 ?_⟩;simp(disch:=omega)only[go_sem,n,s,aC,u];exact X_ er o
  |false =>obtain⟨w',e,d,j,g,o⟩:=aI2 E r x0 q x2 p x4 x5 x6 x7 x8 x12 k (i+1) w c (.lb [z_,j_ 0]) e_ z_ A_ A_ A_;rw[show((i+1:Nat):Int)=(i:Int)+1 by omega]at o;refine⟨w',e,d,j,g,aE K _ _ t112L0.eq_1 ?_⟩;simp(disch:=omega)only[go_sem,n,s,aC];exact X_ er o
def aAu(op im:Int):List IV:=[.int .i64 op,.int .i64 0,.int .i64 0,.int .i64 0,.int .i64 im]
theorem bK3(op c:Int)(h:1<=op/\op<=25):∃w:Int,TM.Pure K 112 [.iv (.agg (aAu op c))] (.tup [.iv (.int .u32 w),j_ (if loM op<=c/\c<=hiM op then 0 else 11)]):=by
 have f:=bK2 op c h;obtain⟨r,d,a,b,o,g,i,q,s,t⟩:=aDa op h;by_cases e:loM op<=c/\c<=hiM op;.rw[K_ e]at f |-;have key:=fun m=>aI2 [d,a,b] B_ (.iv (.agg (aAu op c))) (.lb ((aAu op c).map .iv)) (.iv (.int .u32 0)) (j_ 0) (j_ 0) (.iv (.bool d)) (.iv (.bool a)) (.iv (.bool b)) (j_ o) z_ 3 0 m 21 u_ u_ u_ B_ C_ C_;obtain⟨w',n,k,l,p,j⟩:=key (IntKind.u32.wrap (IntKind.u32.wrap op*67108864));rw[n0_,show(([d,a,b].length:Nat):Int)=((3:Nat):Int) from rfl,show(aAu op c).map TV.iv=[j_ op,j_ 0,j_ 0,j_ 0,j_ c] from rfl,show aAu op c=[.int .i64 op,.int .i64 0,.int .i64 0,.int .i64 0,.int .i64 c] from rfl,show [d,a,b].map aL4=[[.bool d,.int .i64 0],[.bool a,.int .i64 0],[.bool b,.int .i64 0]] from rfl]at j;unfold aAu;refine⟨?_,aT t112 rfl rfl ?_⟩;rotate_left;.simp(disch:=omega)only[t112,go_sem,aD g,aD i,aD f];rw[j];simp(disch:=omega)only[go_sem];rfl
 .rw[I_ e]at f |-;refine⟨0,aT t112 rfl rfl ?_⟩;simp(disch:=omega)only[t112,go_sem,aAu,aD f]
def aI3(op im:Int):Bool:=decide (1<=op/\op<=25)&&decide (loM op<=im/\im<=hiM op)
theorem bQ2(v:VI):TM.Pure K 78 [.iv (.agg (aJ v))] (.iv (.bool (aI3 v.op v.im))):=by
 unfold aI3;by_cases h:1<=v.op/\v.op<=25
 .obtain⟨w,a⟩:=bK3 v.op v.im h;rw[V_ h,Q9];unfold aAu at a;refine aT t78 rfl rfl ?_;by_cases e:loM v.op<=v.im/\v.im<=hiM v.op;.rw[K_ e]at a;rw[V_ e];simp(disch:=omega)only[t78,go_sem,aJ,Q_,C3,aD a]
  .rw[I_ e]at a;rw[Z_ e];simp(disch:=omega)only[t78,go_sem,aJ,Q_,C3,aD a]
 .rw[Z_ h,K2];refine aT t78 rfl rfl ?_;rcases(by omega:v.op<1\/25<v.op)with h1|h1 <;>
   simp(disch:=omega)only[t78,go_sem,aJ,Q_,C3]
def nG(op im:Int):Bool:=aI3 op im||decide ((26<=op/\op<=31)\/(64<=op/\op<=72))
theorem bQ3(v:VI):TM.Pure K 48 [.iv (.agg (aJ v))] (.iv (.bool (nG v.op v.im))):=by
 have a:=bQ2 v;unfold nG;rw[dH]at a;refine aT t48 rfl rfl ?_;generalize aI3 v.op v.im=p at *
 cases p with
 |true =>rw[F4];simp(disch:=omega)only[t48,go_sem,aJ,Q_,C3,aD a]
 |false =>
  rw[G0];rcases(by omega:v.op<26\/(26<=v.op/\v.op<=31)\/(31<v.op/\v.op<64)\/(64<=v.op/\v.op<=72)\/72<v.op)with h|h|h|h|h;.rw[Z_ A_];simp(disch:=omega)only[t48,go_sem,aJ,Q_,C3,aD a]
  .rw[V_ A_];simp(disch:=omega)only[t48,go_sem,aJ,Q_,C3,aD a]
  .rw[Z_ A_];simp(disch:=omega)only[t48,go_sem,aJ,Q_,C3,aD a]
  .rw[V_ A_];simp(disch:=omega)only[t48,go_sem,aJ,Q_,C3,aD a]
  .rw[Z_ A_];simp(disch:=omega)only[t48,go_sem,aJ,Q_,C3,aD a]
theorem bUc{S:aA}{j:Nat}{l ys:Ta_}{t:Tag}(h:S[j]?=some (.tok l.length 1 3))(c:l.length+ys.length<=2000000):bA false 1 8 3 S (.tsl j (aZ l)) (.iv (.sl t (aZ ys)))=some (.tsl j (aZ (l++ys)),S.set j (.tok (l.length+ys.length) 1 3)):=by have a:qQ S (.iv (.sl t (aZ ys))) (aZ ys):=qQ.sl ..;have:=aFn (b:=8) a (nF ys) (nF l) (by rw[eG];exact h) (bR (by rw[eG,eG];omega));rw[eG,eG,show aZ l++aZ ys=aZ (l++ys) by simp[aZ,TM.one]]at this;exact this
theorem bQ4(n:Nat)(h:0<n/\n<=2000000)(S:aA):(lim K).call 77 [k_,j_ n] S=.ret (.tsl S.length [],S++[.tok 0 1 3]):=by
 have f:dY n 8=true:=bR A_;have c:¬(n:Int)<=0:=A_;have e:rF 1 8 3 S k_ (n:Int)=some (.rsv S.length [] n,S++[.tok 0 1 3]):=by simp[rF,oR,f,c,Int.toNat_natCast,show ¬n=0 by omega]
 have b:∀n:Int,n-(0-((0:Nat):Int))=n:=fun n=>A_;have d:aYs (aA0 k_)=some (j_ 0):=id rfl;have e2:∀S:aA,fA S (.sl 1) k_ none (some 0) none=some k_:=fun S=>rfl;have e3:∀(S:aA) (i n:Nat),fA S (.sl 1) (.rsv i [] n) none (some 0) none=some (.tsl i []):=fun S i n=>rfl;have a:∀(S:aA) (i n:Nat),fA S (.sl 1) (.rsv i [] n) none (some ((0:Nat):Int)) none=some (.tsl i []):=fun S i n=>rfl;refine aI K S (fn:=t77) rfl rfl ?_;simp(disch:=omega)only[t77,go_sem,d,e2,e3,a,aC,b,fun env=>bJk (env:=env) e]
def mT(p:Tag×List Int):List IV:=[.sl p.1 (aZ p.2)]
def vK:List (Tag×List Int)->Nat
 |[]=>0
 |p::r=>p.2.length+vK r
def aDb:List (Tag×List Int)->List Int
 |[]=>[]
 |p::r=>p.2++aDb r
theorem aL5:∀E:List (Tag×List Int),(aDb E).length=vK E
 |[]=>rfl
 |p::r=>by rw[aDb,vK,H_,aL5 r]
theorem bUd{E:List (Tag×List Int)}{i:Nat}(h:i<E.length):∃p,E.drop i=p::E.drop (i+1)/\indexAddrS 1 (.iv (.sl .full (E.map mT))) (i:Int)=some (.iv (.cp [.sl p.1 (aZ p.2)])):=by refine⟨E[i],A7 h,?_⟩;refine aO5 A_ ?_ rfl;rw[Int.toNat_natCast,l_,D_ h];rfl
theorem aT5(E:List (Tag×List Int))(n:E.length<=10)(f x4 x5 x10 x11 x12 x13 x14:TV)(S:aA):∀(k i z:Nat) (c x9 a:TV),i+k=E.length->z+vK (E.drop i)<=2000000 ->∃g l b:TV,lp' (lim K) t47L1 [.iv (.sl .full (E.map mT)),f,j_ z,c,x4,x5,.iv (.sl .full (E.map mT)),j_ E.length,j_ i,x9,a,x11,x12,x13,x14] S = .ret (.exit 0,[.iv (.sl .full (E.map mT)),f,j_ (z+vK (E.drop i):Nat),g,x4,x5,.iv (.sl .full (E.map mT)),j_ E.length,j_ E.length,l,b,x11,x12,x13,x14],S)
 |0,i,z,c,x9,a,h,hz=>by obtain rfl:i=E.length:=A_;rw[D7,vK,Nat.add_zero];refine⟨c,z_,a,aE K _ _ t47L1.eq_1 ?_⟩;simp(disch:=omega)only[go_sem]
 |k+1,i,z,c,x9,a,h,hz=>by have e:i<E.length:=A_;obtain⟨p,d,j⟩:=bUd e;rw[d,vK]at hz |-;obtain⟨g,l,b,m⟩:=aT5 E n f x4 x5 x10 x11 x12 x13 x14 S k (i+1) (z+p.2.length) (.iv (.sl p.1 (aZ p.2))) e_ z_ A_ A_;rw[show((i+1:Nat):Int)=(i:Int)+1 by omega,show((z+p.2.length:Nat):Int)=(z:Int)+(p.2.length:Int) by omega,F7]at m;refine⟨g,l,b,aE K _ _ t47L1.eq_1 ?_⟩;simp(disch:=omega)only[go_sem,j,eG,aC];exact X_ er m
theorem aT6(E:List (Tag×List Int))(o:E.length<=10)(j:Nat)(e x2 c x6 x7 x8 x9 x10:TV):∀(k i:Nat) (l:Ta_) (S:aA) (x5 x14:TV),i+k=E.length->S[j]?=some (.tok l.length 1 3)->l.length+vK (E.drop i)<=2000000 ->∃f a:TV,lp' (lim K) t47L0 [.iv (.sl .full (E.map mT)),e,x2,c,.tsl j (aZ l),x5,x6,x7,x8,x9,x10,.iv (.sl .full (E.map mT)),j_ E.length,j_ i,x14] S = .ret (.exit 2,[.iv (.sl .full (E.map mT)),e,x2,c,.tsl j (aZ (l++aDb (E.drop i))),f,x6,x7,x8,x9,x10,.iv (.sl .full (E.map mT)),j_ E.length,j_ E.length,a],S.set j (.tok (l.length+vK (E.drop i)) 1 3))
 |0,i,l,S,x5,x14,h,hS,hz=>by obtain rfl:i=E.length:=A_;rw[D7,vK,aDb,Nat.add_zero,A0,jX hS];refine⟨x5,z_,aE K _ _ t47L0.eq_1 ?_⟩;simp(disch:=omega)only[go_sem]
 |k+1,i,l,S,x5,x14,h,hS,hz=>by have d:i<E.length:=A_;obtain⟨p,b,g⟩:=bUd d;rw[b,vK]at hz |-;rw[aDb];have n:=bUc (ys:=p.2) (t:=p.1) hS A_;obtain⟨f,a,m⟩:=aT6 E o j e x2 c x6 x7 x8 x9 x10 k (i+1) (l++p.2) (S.set j (.tok (l.length+p.2.length) 1 3)) (.iv (.sl p.1 (aZ p.2))) e_ A_ (by rw[aM (aN hS),H_]) (by rw[H_];omega);rw[show((i+1:Nat):Int)=(i:Int)+1 by omega,H1,H_,A8,F7]at m;refine⟨f,a,aE K _ _ t47L0.eq_1 ?_⟩;simp(disch:=omega)only[go_sem,g,n,aC];exact X_ er m
theorem bCo(E:List (Tag×List Int))(f:E.length<=10)(g:0<vK E)(b:vK E<=2000000)(S:aA):(lim K).call 47 [.iv (.sl .full (E.map mT))] S=.ret (.tsl S.length (aZ (aDb E)),S++[.tok (aDb E).length 1 3]):=by obtain⟨k,i,a,e⟩:=aT5 E f k_ u_ u_ u_ u_ u_ u_ u_ S E.length 0 0 u_ u_ u_ A_ (by simpa using b);rw[C4,A9,n0_]at e;have c:=bQ4 (vK E) ⟨g,b⟩ S;have j:(S++[.tok 0 1 3])[S.length]?=some (.tok ([]:Ta_).length 1 3):=B_;obtain⟨l,h,l2⟩:=aT6 E f S.length k_ (j_ (vK E:Nat)) k (.iv (.sl .full (E.map mT))) (j_ E.length) (j_ E.length) i a E.length 0 [] _ u_ u_ A_ j (by simpa using b);rw[C4,List.nil_append,n0_,show aZ []=[] from rfl,E1 _ _ (L_ _),M3,List.set_cons_zero,List.length_nil,A9]at l2;rw[aL5];refine aI K S (fn:=t47) rfl rfl ?_;have d:(E.map mT).length=E.length:=P_ _;simp(disch:=omega)only[t47,go_sem,d];rw[e];simp(disch:=omega)only[go_sem,c,d];rw[l2];simp(disch:=omega)only[go_sem]
def bxF(fn rg sl nd pr:Int)(rs:Bool)(ti:Tag)(ins:List VI):aG:=.cells 25 false [.iv (.int .i64 fn),.iv (.int .i64 rg),.iv (.int .i64 sl),.iv (.int .i64 nd),.iv (.int .i64 pr),.iv (.bool rs),.iv (.sl ti (ins.map aJ))]
theorem bQ5{fn rg sl nd pr:Int}{rs:Bool}{ti:Tag}{ins:List VI}{S:aA}(h:S[0]?=some (bxF fn rg sl nd pr rs ti ins))(x:Int):(lim K).call 49 [j_ x,.ptr 0 25 0] S=.ret (.iv (.bool (decide (x<0\/rg<=x))),S):=by
 unfold bxF at h;refine aI K S (fn:=t49) rfl rfl ?_;rcases(by omega:x<0\/(0<=x/\rg<=x)\/(0<=x/\x<rg))with h1|h1|h1;.rw[V_ (.inl h1)];simp(disch:=omega)only[t49,go_sem,h]
 .rw[V_ (.inr h1.2)];simp(disch:=omega)only[t49,go_sem,h]
 .rw[Z_ A_];simp(disch:=omega)only[t49,go_sem,h]
theorem bK4{j:Nat}{l:Ta_}{i:Nat}(h:i<l.length):indexAddrS 1 (.tsl j (aZ l)) (i:Int)=some (.iv (.cp [.int .i64 (l.getD i 0)])):=by have a:=pO (f:=IV.int .i64) (t:=.no) (l:=l) (i:=(i:Int)) A_;rw[Int.toNat_natCast]at a;exact a
def nH(rg x:Int):Bool:=decide (x<0\/rg<=x)
theorem aT7{fn rg sl nd pr:Int}{rs:Bool}{ti:Tag}{ins:List VI}{S:aA}(h:S[0]?=some (bxF fn rg sl nd pr rs ti ins))(j:Nat)(l:Ta_)(u:l.length<=3000000):∀(k i:Nat) (x2 e x6 x7:TV),i+k=l.length->(∀x∈l.take i,nH rg x=false) ->∃(d:aV) (f n o p g:TV),lp' (lim K) t50L0 [.tsl j (aZ l),.fn 49 [] [.ptr 0 25 0],x2,e,j_ l.length,j_ i,x6,x7] S = .ret (d,[.tsl j (aZ l),.fn 49 [] [.ptr 0 25 0],f,n,j_ l.length,o,p,g],S) /\(d=.exit 0/\l.any (nH rg)=false\/d=.ret/\l.any (nH rg)=true/\∃q:Nat,f=j_ q)
 |0,i,x2,e,x6,x7,hk,hq=>by
  obtain rfl:i=l.length:=A_;rw[C5]at hq;refine⟨.exit 0,x2,e,j_ l.length,z_,x7,aE K _ _ t50L0.eq_1 ?_,.inl ⟨rfl,?_⟩⟩;.simp(disch:=omega)only[go_sem]
  .rw[q_];intro x c;rw[hq x c];simp
 |k+1,i,x2,e,x6,x7,hk,hq=>by
  have b:i<l.length:=A_;have r:=bK4 (j:=j) b;have a:=bQ5 h (l.getD i 0);have m:=iV b;cases hd:nH rg (l.getD i 0)with
  |true =>rw[show decide (l.getD i 0<0\/rg<=l.getD i 0)=true from hd]at a;refine⟨.ret,j_ i,j_ i,j_ i,e_,e_,aE K _ _ t50L0.eq_1 ?_,.inr ⟨rfl,E5.2 ⟨_,nY b,hd⟩,i,rfl⟩⟩;simp(disch:=omega)only[go_sem,r,a]
  |false =>
   rw[show decide (l.getD i 0<0\/rg<=l.getD i 0)=false from hd]at a;obtain⟨d,f,n,o,p,g,s,t⟩:=aT7 h j l u k (i+1) x2 (j_ i) e_ z_ A_ (fun x c=>by
    rw[m,U_,S_]at c;rcases c with c|rfl;.exact hq x c
    .exact hd)
   rw[show((i+1:Nat):Int)=(i:Int)+1 by omega]at s;refine⟨d,f,n,o,p,g,aE K _ _ t50L0.eq_1 ?_,t⟩;simp(disch:=omega)only[go_sem,r,a,aC];exact X_ er s
theorem bCp{fn rg sl nd pr:Int}{rs:Bool}{ti:Tag}{ins:List VI}{S:aA}(h:S[0]?=some (bxF fn rg sl nd pr rs ti ins))(j:Nat)(l:Ta_)(e:l.length<=3000000):(lim K).call 22 [.tsl j (aZ l),.fn 49 [] [.ptr 0 25 0]] S=.ret (.iv (.bool (l.any (nH rg))),S):=by
 obtain⟨m,g,i,k,n,f,d,c⟩:=aT7 h j l e l.length 0 (j_ 0) u_ u_ u_ A_ B_;rw[n0_]at d;have b:(aZ l).length=l.length:=eG l;rcases c with⟨rfl,c⟩|⟨rfl,c,q,rfl⟩
 .have a:(lim K).call 50 [.tsl j (aZ l),.fn 49 [] [.ptr 0 25 0]] S=.ret (j_ (-1),S):=by refine aI K S (fn:=t50) rfl rfl ?_;simp(disch:=omega)only[t50,go_sem,b];rw[d];simp(disch:=omega)only[go_sem]
  rw[c];refine aI K S (fn:=t22) rfl rfl ?_;simp(disch:=omega)only[t22,go_sem,a]
 .have a:(lim K).call 50 [.tsl j (aZ l),.fn 49 [] [.ptr 0 25 0]] S=.ret (j_ q,S):=by refine aI K S (fn:=t50) rfl rfl ?_;simp(disch:=omega)only[t50,go_sem,b];rw[d];simp(disch:=omega)only[go_sem]
  rw[c];refine aI K S (fn:=t22) rfl rfl ?_;simp(disch:=omega)only[t22,go_sem,a]
theorem dQ(l:Td_)(c:Nat)(k:Int):lkB (.leaf .int) (.int .i64 0) false (some (.mp (mpR vI l) c)) (j_ k)=some (j_ (lT l k)):=by rw[aAo];simp only[lT,Y_,↓reduceIte];cases dI l k<;>rfl
theorem bCq(l:Td_)(c:Nat)(env:Env)(S:aA)(j:Nat)(k a:Int):upB (.leaf .int) env S j (some (.mp (mpR vI l) c)) (j_ k) (j_ a)=some (TM.undef,env,S.set j (.mp (mpR vI (gT l c k a)) (rV l c k))) :=
 bJi vI l c env S j k a rfl rfl
def oQ(l:List VI)(L:Int):Int:=((l.filter fun x=>decide (x.op=65)&&decide (x.lb=L)).length:Nat)
theorem aW0(l:List VI)(x:VI)(L:Int):oQ (l++[x]) L=if x.op=65/\x.lb=L then oQ l L+1 else oQ l L:=by
 unfold oQ;rw[H5,H_];by_cases e:x.op=65/\x.lb=L;.rw[K_ e];simp[e]
 .rw[I_ e];have:(decide (x.op=65)&&decide (x.lb=L))=false:=by
   cases h1:(decide (x.op=65)&&decide (x.lb=L))with
   |false=>rfl
   |true=>simp at h1;exact absurd h1 e
  simp[E6,this]
theorem bK5(l:List VI)(L:Int):0<=oQ l L/\oQ l L<=l.length:=by unfold oQ;have:=E0 (fun x:VI=>decide (x.op=65)&&decide (x.lb=L)) l;omega
theorem aI4{fn rg sl nd pr:Int}{rs:Bool}{ti:Tag}{ins:List VI}(D:ins.length<=1000000)(x0 y x2 x5 x6 x7 x8 x14 x15 x16 j q o p n:TV):∀(k i:Nat) (S:aA) (a:Td_) (c:Nat) (x4 x12 x13:TV),i+k=ins.length->S[0]?=some (bxF fn rg sl nd pr rs ti ins)->S[1]?=some (.mp (mpR vI a) c)->(∀L,lT a L=oQ (ins.take i) L) ->∃(S':aA) (b:Td_) (c':Nat) (u g d:TV),lp' (lim K) t20L1 [x0,y,x2,.map 1,x4,x5,x6,x7,x8,.iv (.sl ti (ins.map aJ)),j_ ins.length,j_ i,x12,x13,x14,x15,x16,j,q,o,p,n] S = .ret (.exit 0,[x0,y,x2,.map 1,u,x5,x6,x7,x8,.iv (.sl ti (ins.map aJ)),j_ ins.length,j_ ins.length,g,d,x14,x15,x16,j,q,o,p,n],S') /\S'[0]?=some (bxF fn rg sl nd pr rs ti ins)/\S'[1]?=some (.mp (mpR vI b) c')/\∀L,lT b L=oQ ins L
 |0,i,S,a,c,x4,x12,x13,h,h0,h1,hc=>by obtain rfl:i=ins.length:=A_;rw[C5]at hc;refine⟨S,a,c,x4,z_,x13,aE K _ _ t20L1.eq_1 ?_,h0,h1,hc⟩;simp(disch:=omega)only[go_sem]
 |k+1,i,S,a,c,x4,x12,x13,h,h0,h1,hc=>by
  have s:i<ins.length:=A_;have m:=jF (w:=8) (f:=aJ) iF (t:=ti) (l:=ins) (i:=(i:Int)) A_;rw[Int.toNat_natCast]at m;have z:ins.take (i+1)=ins.take i++[ins.getD i default]:=by rw[G4,D_ s];simp[List.getD,D_ s]
  have r:=fun L=>aW0 (ins.take i) (ins.getD i default) L;rw[<-z]at r;have A:=bK5 (ins.take i) (ins.getD i default).lb;rw[J7]at A;generalize ins.getD i default=x at *
  rw[dH]at m;by_cases hop:x.op=65
  .obtain⟨S',b,c',u,g,d,v,C⟩:=aI4 (fn:=fn) (rg:=rg) (sl:=sl) (nd:=nd) (pr:=pr) (rs:=rs) (ti:=ti) D x0 y x2 x5 x6 x7 x8 x14 x15 x16 j q o p n k (i+1) (S.set 1 (.mp (mpR vI (gT a c x.lb (lT a x.lb+1))) (rV a c x.lb))) _ _ (.lb ((aJ x).map .iv)) e_ e_ A_ (by rw[aB C_];exact h0) (aM (aN h1) _) (fun L=>by
    rw[r L];unfold lT;rw[qS];by_cases e:x.lb=L;.subst e;rw[K_ rfl,K_ ⟨hop,rfl⟩,<-hc];rfl
    .rw[I_ e,I_ (fun h=>e h.2),<-hc];rfl)
   rw[show((i+1:Nat):Int)=(i:Int)+1 by omega,aY]at v;refine⟨S',b,c',u,g,d,aE K _ _ t20L1.eq_1 ?_,C⟩;have E:=hc x.lb;have F:IntKind.i64.wrap (lT a x.lb+1)=lT a x.lb+1:=aC A_;simp(disch:=omega)only[go_sem,m,h1,dQ,bCq,F,aC];exact X_ er v
  .obtain⟨S',b,c',u,g,d,v,C⟩:=aI4 (fn:=fn) (rg:=rg) (sl:=sl) (nd:=nd) (pr:=pr) (rs:=rs) (ti:=ti) D x0 y x2 x5 x6 x7 x8 x14 x15 x16 j q o p n k (i+1) S a c (.lb ((aJ x).map .iv)) e_ z_ A_ h0 h1 (fun L=>by rw[r L,I_ (fun h=>hop h.1)];exact hc L);rw[show((i+1:Nat):Int)=(i:Int)+1 by omega,aY]at v;refine⟨S',b,c',u,g,d,aE K _ _ t20L1.eq_1 ?_,C⟩;simp(disch:=omega)only[go_sem,m,aC];exact X_ er v
def bN(x:VI):List Int:=x.a::x.b::x.us++(if x.op≠67\/0<=x.d then [x.d]else [])
def fQ(x:VI):Bool:=decide (26<=x.op/\x.op<=31)||decide (x.op=66)||decide (x.op=65)
def qV(rg:Int)(ins:List VI)(x:VI):Bool:=!nG x.op x.im||((bN x).any (nH rg)||(fQ x&&decide (oQ ins x.lb≠1)))
theorem aT8{fn rg sl nd pr:Int}{rs:Bool}{ti:Tag}{ins:List VI}(hn:ins.length<=1000000)(Y:∀x∈ins,x.us.length<=999990/\cY x.tu x.us){R:Td_}{c:Nat}(hc:∀L,lT R L=oQ ins L)(x0 x4 x8 x9 x10 x11 x12 x13 W V:TV):∀(k i:Nat) (S:aA) (x2 x5 x6 x7 Q P N:TV),i+k=ins.length->S[0]?=some (bxF fn rg sl nd pr rs ti ins)->S[1]?=some (.mp (mpR vI R) c) ->∃(S':aA) (z:aV) (A E F C u s q r:TV),lp' (lim K) t20L0 [x0,.ptr 0 25 0,x2,.map 1,x4,x5,x6,x7,x8,x9,x10,x11,x12,x13,.iv (.sl ti (ins.map aJ)),j_ ins.length,j_ i,Q,P,N,W,V] S = .ret (z,[x0,.ptr 0 25 0,A,.map 1,x4,E,F,C,x8,x9,x10,x11,x12,x13,.iv (.sl ti (ins.map aJ)),j_ ins.length,u,s,q,r,W,V],S') /\S'[0]?=some (bxF fn rg sl nd pr rs ti ins)/\(z=.exit 2/\(ins.drop i).any (qV rg ins)=false\/z=.ret/\A=j_ 2/\(ins.drop i).any (qV rg ins)=true)
 |0,i,S,x2,x5,x6,x7,Q,P,N,h,h0,h1=>by obtain rfl:i=ins.length:=A_;rw[D7];refine⟨S,.exit 2,x2,x5,x6,x7,j_ ins.length,z_,P,N,aE K _ _ t20L0.eq_1 ?_,h0,.inl ⟨rfl,rfl⟩⟩;simp(disch:=omega)only[go_sem]
 |k+1,i,S,x2,x5,x6,x7,Q,P,N,h,h0,h1=>by
  have Z:i<ins.length:=A_;have j:=jF (w:=8) (f:=aJ) iF (t:=ti) (l:=ins) (i:=(i:Int)) A_;rw[Int.toNat_natCast]at j;have h5:=aCz Z;obtain⟨h8,h9⟩:=Y (ins.getD i default) (by simp only[List.getD,D_ Z,Option.getD_some];exact B8 _);have n:=bQ3 (ins.getD i default);have D:=fun S x2 x5 x6 x7 Q P N=>aT8 (fn:=fn) (rg:=rg) (sl:=sl) (nd:=nd) (pr:=pr) (rs:=rs) (ti:=ti) (c:=c) hn Y hc x0 x4 x8 x9 x10 x11 x12 x13 W V k (i+1) S x2 x5 x6 x7 Q P N A_;rw[h5,List.any_cons];have o:=hc (ins.getD i default).lb;generalize ins.getD i default=x at *
  have m:=bCo [(.full,[x.a,x.b]),(x.tu,x.us)] B_ (show 0<2+(x.us.length+0) by omega) (show 2+(x.us.length+0)<=2000000 by omega) S;have h2:aDb [(.full,[x.a,x.b]),(x.tu,x.us)]=x.a::x.b::x.us:=by simp[aDb]
  rw[h2,show [((.full:Tag),[x.a,x.b]),(x.tu,x.us)].map mT=[[.sl .full [[.int .i64 x.a],[.int .i64 x.b]]],[.sl x.tu (TM.one (.int .i64) x.us)]] from rfl]at m;have h4:(S++[aG.tok (x.a::x.b::x.us).length 1 3])[S.length]?=some (.tok (x.a::x.b::x.us).length 1 3):=B_;have v:=bUc (ys:=[x.d]) (t:=.full) h4 (by simp;omega);rw[show aZ [x.d]=[[.int .i64 x.d]] from rfl]at v;have k1:bL [] S (S++[aG.tok (x.a::x.b::x.us).length 1 3]):=bL.app _ _ _;have n0:0<S.length:=aN h0;have n1:1<S.length:=aN h1;have z0:=aR h0 [aG.tok (x.a::x.b::x.us).length 1 3];have z1:=aR h1 [aG.tok (x.a::x.b::x.us).length 1 3];have p:((S++[aG.tok (x.a::x.b::x.us).length 1 3]).set S.length (aG.tok ((x.a::x.b::x.us).length+[x.d].length) 1 3))[0]?=some (bxF fn rg sl nd pr rs ti ins):=by rw[aB A_];exact z0
  have g:((S++[aG.tok (x.a::x.b::x.us).length 1 3]).set S.length (aG.tok ((x.a::x.b::x.us).length+[x.d].length) 1 3))[1]?=some (.mp (mpR vI R) c):=by rw[aB A_];exact z1
  have U:=bCp z0 S.length (x.a::x.b::x.us) (by simp;omega);have e:=bCp p S.length ((x.a::x.b::x.us)++[x.d]) (by simp;omega);rw[dH]at j n;have h3:qV rg ins x=(!nG x.op x.im||((bN x).any (nH rg)||(fQ x&&decide (oQ ins x.lb≠1)))):=rfl;rw[h3];generalize hfm:nG x.op x.im=fm at *
  generalize hcn:oQ ins x.lb=cn at *
  generalize hR1:(x.a::x.b::x.us:Ta_)=R1 at *
  generalize hT1:S++[aG.tok R1.length 1 3]=T1 at *
  generalize hT2:T1.set S.length (.tok (R1.length+[x.d].length) 1 3)=T2 at *
  by_cases hA:x.op=67/\x.d<0
  .obtain⟨hb,h6⟩:=hA;have I:bN x=R1:=by rw[<-hR1];unfold bN;rw[I_ A_,A0]
   have G:fQ x=false:=by unfold fQ;simp;omega
   rw[I,G];generalize (R1).any (nH rg)=an at *
   cases fm with
   |false =>refine⟨T1,.ret,j_ 2,.lb ((aJ x).map .iv),.tsl S.length (aZ (R1)),z_,j_ i,e_,z_,e_,aE K _ _ t20L0.eq_1 ?_,z0,.inr ⟨rfl,rfl,rfl⟩⟩;rw[aY];simp(disch:=omega)only[go_sem,j,m,v,aD n,z1,dQ,U,o,aC]
   |true =>
    cases an with
    |true =>refine⟨T1,.ret,j_ 2,.lb ((aJ x).map .iv),.tsl S.length (aZ (R1)),z_,j_ i,e_,z_,e_,aE K _ _ t20L0.eq_1 ?_,z0,.inr ⟨rfl,rfl,rfl⟩⟩;rw[aY];simp(disch:=omega)only[go_sem,j,m,v,aD n,z1,dQ,U,o,aC]
    |false =>
     obtain⟨S',z,A,E,F,C,u,s,q,r,y,H,J⟩:=D T1 x2 (.lb ((aJ x).map .iv)) (.tsl S.length (aZ (R1))) z_ e_ z_ z_ z0 z1;rw[show((i+1:Nat):Int)=(i:Int)+1 by omega,aY]at y;refine⟨S',z,A,E,F,C,u,s,q,r,aE K _ _ t20L0.eq_1 ?_,H,?_⟩;.simp(disch:=omega)only[go_sem,j,m,v,aD n,z1,dQ,U,o,aC];exact X_ er y
     .simpa  using J
  .have T:x.op≠67\/0<=x.d:=A_;by_cases hB:x.op=67
   .have h7:0<=x.d:=A_;have I:bN x=R1++[x.d]:=by rw[<-hR1];unfold bN;rw[K_ T]
    have G:fQ x=false:=by unfold fQ;simp;omega
    rw[I,G];generalize (R1++[x.d]).any (nH rg)=an at *
    cases fm with
    |false =>refine⟨T2,.ret,j_ 2,.lb ((aJ x).map .iv),.tsl S.length (aZ (R1++[x.d])),z_,j_ i,e_,e_,e_,aE K _ _ t20L0.eq_1 ?_,p,.inr ⟨rfl,rfl,rfl⟩⟩;rw[aY];simp(disch:=omega)only[go_sem,j,m,v,aD n,g,dQ,e,o,aC]
    |true =>
     cases an with
     |true =>refine⟨T2,.ret,j_ 2,.lb ((aJ x).map .iv),.tsl S.length (aZ (R1++[x.d])),z_,j_ i,e_,e_,e_,aE K _ _ t20L0.eq_1 ?_,p,.inr ⟨rfl,rfl,rfl⟩⟩;rw[aY];simp(disch:=omega)only[go_sem,j,m,v,aD n,g,dQ,e,o,aC]
     |false =>
      obtain⟨S',z,A,E,F,C,u,s,q,r,y,H,J⟩:=D T2 x2 (.lb ((aJ x).map .iv)) (.tsl S.length (aZ (R1++[x.d]))) z_ e_ e_ z_ p g;rw[show((i+1:Nat):Int)=(i:Int)+1 by omega,aY]at y;refine⟨S',z,A,E,F,C,u,s,q,r,aE K _ _ t20L0.eq_1 ?_,H,?_⟩;.simp(disch:=omega)only[go_sem,j,m,v,aD n,g,dQ,e,o,aC];exact X_ er y
      .simpa  using J
   .rcases(by omega:x.op<26\/(26<=x.op/\x.op<=31)\/(31<x.op/\x.op<65)\/x.op=65\/x.op=66\/67<x.op)with hC|hC|hC|hC|hC|hC
    .have I:bN x=R1++[x.d]:=by rw[<-hR1];unfold bN;rw[K_ T]
     have G:fQ x=false:=by unfold fQ;simp;omega
     rw[I,G];generalize (R1++[x.d]).any (nH rg)=an at *
     cases fm with
     |false =>refine⟨T2,.ret,j_ 2,.lb ((aJ x).map .iv),.tsl S.length (aZ (R1++[x.d])),z_,j_ i,e_,e_,e_,aE K _ _ t20L0.eq_1 ?_,p,.inr ⟨rfl,rfl,rfl⟩⟩;rw[aY];simp(disch:=omega)only[go_sem,j,m,v,aD n,g,dQ,e,o,aC]
     |true =>
      cases an with
      |true =>refine⟨T2,.ret,j_ 2,.lb ((aJ x).map .iv),.tsl S.length (aZ (R1++[x.d])),z_,j_ i,e_,e_,e_,aE K _ _ t20L0.eq_1 ?_,p,.inr ⟨rfl,rfl,rfl⟩⟩;rw[aY];simp(disch:=omega)only[go_sem,j,m,v,aD n,g,dQ,e,o,aC]
      |false =>
       obtain⟨S',z,A,E,F,C,u,s,q,r,y,H,J⟩:=D T2 x2 (.lb ((aJ x).map .iv)) (.tsl S.length (aZ (R1++[x.d]))) z_ e_ e_ z_ p g;rw[show((i+1:Nat):Int)=(i:Int)+1 by omega,aY]at y;refine⟨S',z,A,E,F,C,u,s,q,r,aE K _ _ t20L0.eq_1 ?_,H,?_⟩;.simp(disch:=omega)only[go_sem,j,m,v,aD n,g,dQ,e,o,aC];exact X_ er y
       .simpa  using J
    .have I:bN x=R1++[x.d]:=by rw[<-hR1];unfold bN;rw[K_ T]
     have G:fQ x=true:=by unfold fQ;simp;omega
     rw[I,G];generalize (R1++[x.d]).any (nH rg)=an at *
     cases fm with
     |false =>refine⟨T2,.ret,j_ 2,.lb ((aJ x).map .iv),.tsl S.length (aZ (R1++[x.d])),e_,j_ i,e_,e_,e_,aE K _ _ t20L0.eq_1 ?_,p,.inr ⟨rfl,rfl,rfl⟩⟩;rw[aY];simp(disch:=omega)only[go_sem,j,m,v,aD n,g,dQ,e,o,aC]
     |true =>
      cases an with
      |true =>refine⟨T2,.ret,j_ 2,.lb ((aJ x).map .iv),.tsl S.length (aZ (R1++[x.d])),e_,j_ i,e_,e_,e_,aE K _ _ t20L0.eq_1 ?_,p,.inr ⟨rfl,rfl,rfl⟩⟩;rw[aY];simp(disch:=omega)only[go_sem,j,m,v,aD n,g,dQ,e,o,aC]
      |false =>
       by_cases hc1:cn=1
       .subst hc1;obtain⟨S',z,A,E,F,C,u,s,q,r,y,H,J⟩:=D T2 x2 (.lb ((aJ x).map .iv)) (.tsl S.length (aZ (R1++[x.d]))) e_ e_ e_ z_ p g;rw[show((i+1:Nat):Int)=(i:Int)+1 by omega,aY]at y;refine⟨S',z,A,E,F,C,u,s,q,r,aE K _ _ t20L0.eq_1 ?_,H,?_⟩;.simp(disch:=omega)only[go_sem,j,m,v,aD n,g,dQ,e,o,aC];exact X_ er y
        .simpa  using J
       .refine⟨T2,.ret,j_ 2,.lb ((aJ x).map .iv),.tsl S.length (aZ (R1++[x.d])),e_,j_ i,e_,e_,e_,aE K _ _ t20L0.eq_1 ?_,p,.inr ⟨rfl,rfl,by simp[hc1]⟩⟩;rw[aY];simp(disch:=omega)only[go_sem,j,m,v,aD n,g,dQ,e,o,aC]
    .have I:bN x=R1++[x.d]:=by rw[<-hR1];unfold bN;rw[K_ T]
     have G:fQ x=false:=by unfold fQ;simp;omega
     rw[I,G];generalize (R1++[x.d]).any (nH rg)=an at *
     cases fm with
     |false =>refine⟨T2,.ret,j_ 2,.lb ((aJ x).map .iv),.tsl S.length (aZ (R1++[x.d])),z_,j_ i,e_,e_,e_,aE K _ _ t20L0.eq_1 ?_,p,.inr ⟨rfl,rfl,rfl⟩⟩;rw[aY];simp(disch:=omega)only[go_sem,j,m,v,aD n,g,dQ,e,o,aC]
     |true =>
      cases an with
      |true =>refine⟨T2,.ret,j_ 2,.lb ((aJ x).map .iv),.tsl S.length (aZ (R1++[x.d])),z_,j_ i,e_,e_,e_,aE K _ _ t20L0.eq_1 ?_,p,.inr ⟨rfl,rfl,rfl⟩⟩;rw[aY];simp(disch:=omega)only[go_sem,j,m,v,aD n,g,dQ,e,o,aC]
      |false =>
       obtain⟨S',z,A,E,F,C,u,s,q,r,y,H,J⟩:=D T2 x2 (.lb ((aJ x).map .iv)) (.tsl S.length (aZ (R1++[x.d]))) z_ e_ e_ z_ p g;rw[show((i+1:Nat):Int)=(i:Int)+1 by omega,aY]at y;refine⟨S',z,A,E,F,C,u,s,q,r,aE K _ _ t20L0.eq_1 ?_,H,?_⟩;.simp(disch:=omega)only[go_sem,j,m,v,aD n,g,dQ,e,o,aC];exact X_ er y
       .simpa  using J
    .have I:bN x=R1++[x.d]:=by rw[<-hR1];unfold bN;rw[K_ T]
     have G:fQ x=true:=by unfold fQ;simp;omega
     rw[I,G];generalize (R1++[x.d]).any (nH rg)=an at *
     cases fm with
     |false =>refine⟨T2,.ret,j_ 2,.lb ((aJ x).map .iv),.tsl S.length (aZ (R1++[x.d])),e_,j_ i,e_,e_,e_,aE K _ _ t20L0.eq_1 ?_,p,.inr ⟨rfl,rfl,rfl⟩⟩;rw[aY];simp(disch:=omega)only[go_sem,j,m,v,aD n,g,dQ,e,o,aC]
     |true =>
      cases an with
      |true =>refine⟨T2,.ret,j_ 2,.lb ((aJ x).map .iv),.tsl S.length (aZ (R1++[x.d])),e_,j_ i,e_,e_,e_,aE K _ _ t20L0.eq_1 ?_,p,.inr ⟨rfl,rfl,rfl⟩⟩;rw[aY];simp(disch:=omega)only[go_sem,j,m,v,aD n,g,dQ,e,o,aC]
      |false =>
       by_cases hc1:cn=1
       .subst hc1;obtain⟨S',z,A,E,F,C,u,s,q,r,y,H,J⟩:=D T2 x2 (.lb ((aJ x).map .iv)) (.tsl S.length (aZ (R1++[x.d]))) e_ e_ e_ z_ p g;rw[show((i+1:Nat):Int)=(i:Int)+1 by omega,aY]at y;refine⟨S',z,A,E,F,C,u,s,q,r,aE K _ _ t20L0.eq_1 ?_,H,?_⟩;.simp(disch:=omega)only[go_sem,j,m,v,aD n,g,dQ,e,o,aC];exact X_ er y
        .simpa  using J
       .refine⟨T2,.ret,j_ 2,.lb ((aJ x).map .iv),.tsl S.length (aZ (R1++[x.d])),e_,j_ i,e_,e_,e_,aE K _ _ t20L0.eq_1 ?_,p,.inr ⟨rfl,rfl,by simp[hc1]⟩⟩;rw[aY];simp(disch:=omega)only[go_sem,j,m,v,aD n,g,dQ,e,o,aC]
    .have I:bN x=R1++[x.d]:=by rw[<-hR1];unfold bN;rw[K_ T]
     have G:fQ x=true:=by unfold fQ;simp;omega
     rw[I,G];generalize (R1++[x.d]).any (nH rg)=an at *
     cases fm with
     |false =>refine⟨T2,.ret,j_ 2,.lb ((aJ x).map .iv),.tsl S.length (aZ (R1++[x.d])),e_,j_ i,e_,e_,e_,aE K _ _ t20L0.eq_1 ?_,p,.inr ⟨rfl,rfl,rfl⟩⟩;rw[aY];simp(disch:=omega)only[go_sem,j,m,v,aD n,g,dQ,e,o,aC]
     |true =>
      cases an with
      |true =>refine⟨T2,.ret,j_ 2,.lb ((aJ x).map .iv),.tsl S.length (aZ (R1++[x.d])),e_,j_ i,e_,e_,e_,aE K _ _ t20L0.eq_1 ?_,p,.inr ⟨rfl,rfl,rfl⟩⟩;rw[aY];simp(disch:=omega)only[go_sem,j,m,v,aD n,g,dQ,e,o,aC]
      |false =>
       by_cases hc1:cn=1
       .subst hc1;obtain⟨S',z,A,E,F,C,u,s,q,r,y,H,J⟩:=D T2 x2 (.lb ((aJ x).map .iv)) (.tsl S.length (aZ (R1++[x.d]))) e_ e_ e_ z_ p g;rw[show((i+1:Nat):Int)=(i:Int)+1 by omega,aY]at y;refine⟨S',z,A,E,F,C,u,s,q,r,aE K _ _ t20L0.eq_1 ?_,H,?_⟩;.simp(disch:=omega)only[go_sem,j,m,v,aD n,g,dQ,e,o,aC];exact X_ er y
        .simpa  using J
       .refine⟨T2,.ret,j_ 2,.lb ((aJ x).map .iv),.tsl S.length (aZ (R1++[x.d])),e_,j_ i,e_,e_,e_,aE K _ _ t20L0.eq_1 ?_,p,.inr ⟨rfl,rfl,by simp[hc1]⟩⟩;rw[aY];simp(disch:=omega)only[go_sem,j,m,v,aD n,g,dQ,e,o,aC]
    .have I:bN x=R1++[x.d]:=by rw[<-hR1];unfold bN;rw[K_ T]
     have G:fQ x=false:=by unfold fQ;simp;omega
     rw[I,G];generalize (R1++[x.d]).any (nH rg)=an at *
     cases fm with
     |false =>refine⟨T2,.ret,j_ 2,.lb ((aJ x).map .iv),.tsl S.length (aZ (R1++[x.d])),z_,j_ i,e_,e_,e_,aE K _ _ t20L0.eq_1 ?_,p,.inr ⟨rfl,rfl,rfl⟩⟩;rw[aY];simp(disch:=omega)only[go_sem,j,m,v,aD n,g,dQ,e,o,aC]
     |true =>
      cases an with
      |true =>refine⟨T2,.ret,j_ 2,.lb ((aJ x).map .iv),.tsl S.length (aZ (R1++[x.d])),z_,j_ i,e_,e_,e_,aE K _ _ t20L0.eq_1 ?_,p,.inr ⟨rfl,rfl,rfl⟩⟩;rw[aY];simp(disch:=omega)only[go_sem,j,m,v,aD n,g,dQ,e,o,aC]
      |false =>
       obtain⟨S',z,A,E,F,C,u,s,q,r,y,H,J⟩:=D T2 x2 (.lb ((aJ x).map .iv)) (.tsl S.length (aZ (R1++[x.d]))) z_ e_ e_ z_ p g;rw[show((i+1:Nat):Int)=(i:Int)+1 by omega,aY]at y;refine⟨S',z,A,E,F,C,u,s,q,r,aE K _ _ t20L0.eq_1 ?_,H,?_⟩;.simp(disch:=omega)only[go_sem,j,m,v,aD n,g,dQ,e,o,aC];exact X_ er y
       .simpa  using J
theorem ao0(l:Tq_):iX (.iv (.cp l)) 0=some (.iv (.cp l)):=by simp[iX]
attribute [go_sem] ao0
def kN(fn rg sl nd pr:Int)(rs:Bool)(ti:Tag)(ins:List VI):List IV:=[.int .i64 fn,.int .i64 rg,.int .i64 sl,.int .i64 nd,.int .i64 pr,.bool rs,.sl ti (ins.map aJ)]
def aI5(ins:List VI):Bool:=decide ((ins.getD (ins.length-1) default).op=66\/(ins.getD (ins.length-1) default).op=68\/(ins.getD (ins.length-1) default).op=72)
def aDc(rg sl nd pr:Int)(ins:List VI):Prop:=32<=rg/\0<=nd/\0<=sl/\0<=pr/\0<ins.length
instance (rg sl nd pr:Int) (ins:List VI):Decidable (aDc rg sl nd pr ins):=by unfold aDc;infer_instance
def vL(rg sl nd pr:Int)(ins:List VI):Bool:=decide (aDc rg sl nd pr ins)&&(!ins.any (qV rg ins)&&aI5 ins)
theorem aP7(fn rg sl nd pr:Int)(rs:Bool)(ti:Tag)(ins:List VI)(q:ins.length<=1000000)(m:∀x∈ins,x.us.length<=999990/\cY x.tu x.us):TM.Pure K 20 [.iv (.agg (kN fn rg sl nd pr rs ti ins))] (j_ (if vL rg sl nd pr ins then 0 else 2)):=by
 unfold vL;have a:(ins.map aJ).length=ins.length:=P_ _;by_cases hh:aDc rg sl nd pr ins
 .rw[V_ hh,Q9];obtain⟨E,N,R,J,F⟩:=hh;obtain⟨S1,p,c,u,o,n,e,g,v,C⟩:=aI4 (fn:=fn) (rg:=rg) (sl:=sl) (nd:=nd) (pr:=pr) (rs:=rs) (ti:=ti) (ins:=ins) q (.iv (.agg (kN fn rg sl nd pr rs ti ins))) (.ptr 0 25 0) (j_ 0) u_ u_ u_ z_ u_ u_ u_ u_ u_ u_ u_ u_ ins.length 0 [bxF fn rg sl nd pr rs ti ins,.mp (mpR vI []) 0] [] 0 u_ u_ u_ A_ rfl rfl (fun L=>by simp[lT,dI,oQ]);obtain⟨S2,P,G,H,Q,D,A,y,r,s,l2,k,j⟩:=aT8 (fn:=fn) (rg:=rg) (sl:=sl) (nd:=nd) (pr:=pr) (rs:=rs) (ti:=ti) q m C (.iv (.agg (kN fn rg sl nd pr rs ti ins))) u z_ (.iv (.sl ti (ins.map aJ))) (j_ ins.length) (j_ ins.length) o n u_ u_ ins.length 0 S1 (j_ 0) u_ u_ u_ u_ u_ u_ A_ g v;rw[n0_]at e l2;rw[C4]at j;have I:ins.length-1<ins.length:=A_;have d:=jF (w:=8) (f:=aJ) iF (t:=ti) (l:=ins) (i:=((ins.length:Int)-1)) A_;rw[show((ins.length:Int)-1).toNat=ins.length-1 by omega,dH]at d;unfold aI5;generalize ins.getD (ins.length-1) default=x at *
  unfold bxF at e g k;rw[show mpR vI []=[] from rfl]at e;rw[show kN fn rg sl nd pr rs ti ins=[.int .i64 fn,.int .i64 rg,.int .i64 sl,.int .i64 nd,.int .i64 pr,.bool rs,.sl ti (ins.map aJ)] from rfl]at e l2 |-;have b:¬((ins.length:Nat):Int)=0:=A_;rcases j with⟨rfl,j⟩|⟨rfl,rfl,j⟩
  .rw[j,P4,Q9];rcases(by omega:x.op=66\/x.op=68\/x.op=72\/(x.op≠66/\x.op≠68/\x.op≠72))with h|h|h|⟨ha,hb,hd⟩;.rw[V_ (.inl h),K_ rfl];refine aT t20 rfl rfl ?_;simp(disch:=omega)only[t20,go_sem,a,b];rw[e];simp(disch:=omega)only[go_sem,g,a];rw[l2];simp(disch:=omega)only[go_sem,k,a,d,aC]
   .rw[V_ (.inr (.inl h)),K_ rfl];refine aT t20 rfl rfl ?_;simp(disch:=omega)only[t20,go_sem,a,b];rw[e];simp(disch:=omega)only[go_sem,g,a];rw[l2];simp(disch:=omega)only[go_sem,k,a,d,aC]
   .rw[V_ (.inr (.inr h)),K_ rfl];refine aT t20 rfl rfl ?_;simp(disch:=omega)only[t20,go_sem,a,b];rw[e];simp(disch:=omega)only[go_sem,g,a];rw[l2];simp(disch:=omega)only[go_sem,k,a,d,aC]
   .rw[Z_ A_,I_ C_];refine aT t20 rfl rfl ?_;simp(disch:=omega)only[t20,go_sem,a,b];rw[e];simp(disch:=omega)only[go_sem,g,a];rw[l2];simp(disch:=omega)only[go_sem,k,a,d,aC]
  .rw[j,E4,K2,I_ C_];refine aT t20 rfl rfl ?_;simp(disch:=omega)only[t20,go_sem,a,b];rw[e];simp(disch:=omega)only[go_sem,g,a];rw[l2];simp(disch:=omega)only[go_sem]
 .rw[Z_ hh,K2,I_ C_];unfold aDc at hh;refine aT t20 rfl rfl ?_;unfold kN;rcases(by omega:rg<32\/(32<=rg/\nd<0)\/(32<=rg/\0<=nd/\sl<0)\/(32<=rg/\0<=nd/\0<=sl/\pr<0)\/(32<=rg/\0<=nd/\0<=sl/\0<=pr/\ins.length=0))with h|h|h|h|h;.simp(disch:=omega)only[t20,go_sem,a]
  .simp(disch:=omega)only[t20,go_sem,a]
  .simp(disch:=omega)only[t20,go_sem,a]
  .simp(disch:=omega)only[t20,go_sem,a]
  .have z:((ins.length:Nat):Int)=0:=A_;simp(disch:=omega)only[t20,go_sem,a,z]
theorem ixL{I:Te_}{n i:Nat}(h:i<n)(t:Tag):indexAddrS 1 (.iv (.sl t (bF I n))) (i:Int)=some (.iv (.cp [.sl (iJ (aZ (wlI 0 (I i)))) (TM.one (.int .i64) (wlI 0 (I i)))])):=by refine aO5 A_ ?_ rfl;rw[Int.toNat_natCast];unfold bF;rw[l_,E8 h];rfl
theorem aDd{rg:Int}{ins:List VI}(h:ins.any (qV rg ins)=false){i:Nat}(d:i<ins.length)(c:fQ (ins.getD i default)=true):∃q:Nat,dP ins (ins.getD i default).lb=some (q:Int)/\q<ins.length:=by
 have a:ins.getD i default∈ins:=by simp only[List.getD,D_ d,Option.getD_some];exact B8 _
 rw[q_]at h;have b:=h _ a;cases hf:dP ins (ins.getD i default).lb with
 |some k =>have:=aG2 hf;exact⟨k.toNat,by rw[R7 this.1],by omega⟩
 |none =>
  exfalso;apply b;have e:oQ ins (ins.getD i default).lb=0:=by unfold dP at hf;rw[Option.map_eq_none_iff,U6]at hf;unfold oQ;rw[H0.2 (fun x a=>by rw[hf x a];simp)];rfl
  rw[show qV rg ins (ins.getD i default)=(!nG (ins.getD i default).op (ins.getD i default).im||((bN (ins.getD i default)).any (nH rg)||(fQ (ins.getD i default)&&decide (oQ ins (ins.getD i default).lb≠1)))) from rfl,c,e];simp
def nJ(l:List VI)(i:Nat):List Int :=
 if(l.getD i default).op=68\/(l.getD i default).op=72 then []else
  (if(26<=(l.getD i default).op/\(l.getD i default).op<=31)\/(l.getD i default).op=66 then [(dP l (l.getD i default).lb).getD (-1)]else []) ++
  (if(l.getD i default).op≠66/\i+1<l.length then [(i:Int)+1]else [])
inductive LvR (ins:List VI) (r:Int):Nat->Prop
 |use {i:Nat} (h:r∈bB (ins.getD i default)):LvR ins r i
 |step {i:Nat} {k:Int} (hk:k∈nJ ins i) (h:LvR ins r k.toNat) (hd:r∉aW (ins.getD i default)):LvR ins r i
theorem aDe{v:VI}{x:Int}(h:x∈bB v):0<x:=by
 unfold bB at h;repeat' split at h
 all_goals first|exact aIs h|cases h
theorem bK6{lb:Td_}{ins:List VI}(a:∀L,dI lb L=dP ins L){i:Nat}(c:(26<=(ins.getD i default).op/\(ins.getD i default).op<=31)\/(ins.getD i default).op=66->∃q:Nat,dP ins (ins.getD i default).lb=some (q:Int)/\q<ins.length):bhd lb ins i=(nJ ins i).map Int.toNat:=by
 unfold bhd nJ;split;.rfl
 .rw[D0];congr 1
  .split;.rename_i h;obtain⟨q,b,_⟩:=c h;unfold lT;rw[a,b];rfl
   .rfl
  .split;.rfl
   .rfl
theorem bQ6{ins:List VI}{i:Nat}(c:(26<=(ins.getD i default).op/\(ins.getD i default).op<=31)\/(ins.getD i default).op=66->∃q:Nat,dP ins (ins.getD i default).lb=some (q:Int)/\q<ins.length):∀k∈nJ ins i,0<=k/\k<ins.length:=by
 intro k a;unfold nJ at a;split at a;.cases a
 .rw[U_]at a;rcases a with a|a
  .split at a;.rename_i h;obtain⟨q,b,d⟩:=c h;rw[b,Option.getD_some,S_]at a;omega
   .cases a
  .split at a;.rename_i h;rw[S_]at a;omega
   .cases a
section
variable {rg:Nat}{lb:List (Nat×Int×Int)}{ins:List VI}{I O U D:Nat->List Nat}(hbd:∀i,i<ins.length->bhd lb ins i=(nJ ins i).map Int.toNat)(hbe:∀i,i<ins.length->∀k∈nJ ins i,0<=k/\k<ins.length)(h2:∀j r,j<ins.length->(bit (U j) r=true↔(r:Int)∈bB (ins.getD j default)/\r<rg))(h3:∀j r,j<ins.length->(bit (D j) r=true↔(r:Int)∈aW (ins.getD j default)/\r<rg))
include hbd hbe h2 h3
theorem bUe{r i:Nat}(h:Lv lb ins U D r i):i<ins.length->LvR ins r i/\0<r/\r<rg:=by
 induction h with
 |use h =>intro d;obtain⟨a,b⟩:=(h2 _ r d).1 h;have:=aDe a;exact⟨.use a,by omega,b⟩
 |step hk h hd ih =>intro d;rw[hbd _ d,r_]at hk;obtain⟨z,e,rfl⟩:=hk;have f:=hbe _ d z e;obtain⟨a,b,c⟩:=ih A_;refine⟨.step e a fun g=>?_,b,c⟩;rw[(h3 _ r d).2 ⟨g,c⟩]at hd;cases hd
theorem bK7(d:∀j,j<ins.length->(∀r,bit (I j) r=eqn lb ins U D I j r)/\∀r,bit (O j) r=aB1 lb ins I j r){r:Int}{i:Nat}(h:LvR ins r i)(l:r<rg):i<ins.length->0<=r/\bit (I i) r.toNat=true:=by
 induction h with
 |use h =>intro a;have k:=aDe h;refine⟨by omega,?_⟩;rw[(d _ a).1,eqn,(h2 _ r.toNat a).2 ⟨by rw[R7 A_];exact h,by omega⟩,F4]
 |@step jj kk hk h hd ih =>
  intro a;have f:=hbe _ a _ hk;obtain⟨c,g⟩:=ih A_;refine⟨c,?_⟩;have b:bit (D jj) r.toNat=false:=by
   cases e:bit (D jj) r.toNat with
   |false=>rfl
   |true =>have:=((h3 _ r.toNat a).1 e).1;rw[R7 c]at this;exact absurd this hd
  rw[(d _ a).1,eqn,b,P4,Z5,D3];right;unfold aB1;rw[hbd _ a];exact E5.2 ⟨_,r_.2 ⟨_,hk,rfl⟩,g⟩
end
theorem cT{C:Ta_}{x:Int}:x∈tdy C↔x∈C/\0<x:=(jR C).mem x
def zH(ins:List VI)(x:Int)(i:Nat):Prop:=∃k∈nJ ins i,LvR ins x k.toNat
theorem aT9{lb:Td_}{ins:List VI}{I:Te_}{i r:Nat}(a:bhd lb ins i=(nJ ins i).map Int.toNat):aB1 lb ins I i r=true↔∃k∈nJ ins i,bit (I k.toNat) r=true:=by
 unfold aB1;rw[a,E5];constructor;.rintro⟨k,c,h⟩;obtain⟨z,b,rfl⟩:=r_.1 c;exact⟨z,b,h⟩
 .rintro⟨z,b,h⟩;exact⟨_,r_.2 ⟨z,b,rfl⟩,h⟩
theorem aI6{f:VF}(Q:f.regs<=100000)(R:f.ins.length<=1000000)(o:∀x∈f.ins,x.us.length<=999990/\cY x.tu x.us)(v:vL f.regs f.sl f.nd f.pr f.ins=true): ∃I O:Nat->List Nat,TM.Pure K 21 [.iv (.agg (iT f))] (.tup [.iv (.sl (iJ (bF I f.ins.length)) (bF I f.ins.length)),j_ 0]) /\TM.Pure K 13 [.iv (.agg (iT f))] (.tup [.iv (.sl (iJ (bF O f.ins.length)) (bF O f.ins.length)),j_ 0]) /\∀i,i<f.ins.length->((wlI 0 (I i)).length<=f.regs+63/\(wlI 0 (O i)).length<=f.regs+63)/\(∀x,x∈wlI 0 (I i)↔1<=x/\x<f.regs/\LvR f.ins x i)/\(∀x,x∈wlI 0 (O i)↔1<=x/\x<f.regs/\zH f.ins x i):=by
 obtain⟨fn,rg,sl,nd,pr,rs,ti,ins⟩:=f;dsimp only at *
 have s:=aP7 fn rg sl nd pr rs ti ins A_ o;rw[v,K_ rfl]at s;have H:=v;unfold vL at v;simp only[O_,p_,D5]at v;obtain⟨⟨P,_,_,_,L⟩,t,z⟩:=v;obtain⟨lb,I,O,U,D,y,C,N,r,J,F,G,A⟩:=bUb (f:=⟨fn,rg,sl,nd,pr,rs,ti,ins⟩) (by show 32<=rg;omega) (by show rg<=_;omega) (by show ins.length<=_;omega) L o s;dsimp only at *
 have E:∀i,i<ins.length->(26<=(ins.getD i default).op/\(ins.getD i default).op<=31)\/(ins.getD i default).op=66->∃q:Nat,dP ins (ins.getD i default).lb=some (q:Int)/\q<ins.length:=fun i g h=>aDd t g (by
  unfold fQ;rcases h with h|h;.rw[V_ h];rfl
  .rw[V_ h,K9,F4])
 have j:=fun i (g:i<ins.length)=>bK6 (lb:=lb) (ins:=ins) J (i:=i) (E i g);have l:=fun i (g:i<ins.length)=>bQ6 (ins:=ins) (i:=i) (E i g);have key:∀(i:Nat) (x:Int),i<ins.length->((∃n:Nat,x=n/\bit (I i) n=true)↔1<=x/\x<rg/\LvR ins x i):=fun i x g=>by
  constructor;.rintro⟨n,rfl,m⟩;obtain⟨a,b,c⟩:=bUe j l F G (N.snd _ _ m) g;exact⟨by omega,by omega,a⟩
  .rintro⟨a,b,c⟩;obtain⟨d,e⟩:=bK7 j l F G A c b g;exact⟨x.toNat,by omega,e⟩
 have p:∀W:List Nat,WOK ((rg+63) / 64) W->(wlI 0 W).length<=rg+63:=fun W h=>by have a:=aTs 0 W;rw[h.len]at a;omega
 refine⟨I,O,y,C,fun i g=>⟨⟨p _ (r i g).1,p _ (r i g).2⟩,fun x=>?_,fun x=>?_⟩⟩;.rw[bB6,key i x g]
 .rw[bB6];constructor;.rintro⟨n,rfl,m⟩;rw[(A i g).2,aT9 (j i g)]at m;obtain⟨k,u,m⟩:=m;have w:=l i g k u;obtain⟨a,b,c⟩:=(key k.toNat n A_).1 ⟨n,rfl,m⟩;exact⟨a,b,k,u,c⟩
  .rintro⟨a,b,k,u,c⟩;have w:=l i g k u;obtain⟨n,e,m⟩:=(key k.toNat x A_).2 ⟨a,b,c⟩;exact⟨n,e,by rw[(A i g).2,aT9 (j i g)];exact⟨k,u,m⟩⟩
def cC(σ:List Int)(n:Int):Option Nat:=σ.findIdx? fun x=>x==n
theorem aDf{σ:Ta_}{n:Int}{k:Nat}(h:cC σ n=some k):σ[k]?=some n:=by unfold cC at h;obtain⟨b,a,_⟩:=I3.1 h;rw[D_ b];simp at a;rw[a]
theorem jG{σ:Ta_}{n:Int}:cC σ n=none↔n∉σ:=by
 unfold cC;rw[U6];constructor;.intro h a;have:=h n a;simp at this
 .intro h x b;simp only[M8,ne_eq];exact fun e=>h (e▸b)
theorem aW1{σ:Ta_}{n:Int}(h:n∈σ):∃k,cC σ n=some k:=by
 cases hs:cC σ n with
 |none=>exact absurd h (jG.1 hs)
 |some k=>exact⟨k,rfl⟩
def ldI(r:Int)(k:Nat):VI:=⟨73,r,0,0,k,0,.nil,[],.nil,[]⟩
def stI(r:Int)(k:Nat):VI:=⟨74,0,r,0,k,0,.nil,[],.nil,[]⟩
def nZ(σ:List Int)(r n:Int):List VI×Int×Int:=match cC σ n with
 |none=>([],n,r)
 |some k=>([ldI r k],r,r+1)
def low(n:Int):Int:=if 32<=n then 0 else n
def opA(σ:List Int)(r:Int)(x:VI):List VI×Int×Int:=if x.a∈bB x then nZ σ r x.a else([],low x.a,r)
def opB(σ:List Int)(r:Int)(x:VI):List VI×Int×Int :=
 if x.b∈bB x then(if x.b=x.a then([],(opA σ r x).2.1,(opA σ r x).2.2)else nZ σ (opA σ r x).2.2 x.b)else([],low x.b,(opA σ r x).2.2)
def opD(σ:List Int)(r:Int)(x:VI):Int×List VI×Int :=
 if x.d∈aW x then(match cC σ x.d with
  |none=>(x.d,[],(opB σ r x).2.2)
  |some k=>((opB σ r x).2.2,[stI (opB σ r x).2.2 k],(opB σ r x).2.2+1))else(low x.d,[],(opB σ r x).2.2)
def zI(t:Tag)(l:List Int):Tag:=if l=[]then(if t=.nil then .nil else .full)else .no
def eP(σ:List Int)(r:Int)(x:VI):VI:={x with a:=(opA σ r x).2.1,b:=(opB σ r x).2.1,d:=(opD σ r x).1,tu:=zI x.tu x.us}
def cE(σ:List Int)(r:Int)(x:VI):List VI:=(opA σ r x).1++(opB σ r x).1
def fE(σ:List Int)(r:Int)(x:VI):List VI:=(opD σ r x).2.1
def dR(σ:List Int)(r:Int)(x:VI):List VI:=cE σ r x++eP σ r x::fE σ r x
def eH(σ:List Int)(r:Int)(x:VI):Int:=(opD σ r x).2.2
def rwM(σ:List Int):Int->List VI->List (List VI)
 |_,[]=>[]
 |r,x::l=>dR σ r x::rwM σ (eH σ r x) l
def rwR(σ:List Int):Int->List VI->Int
 |r,[]=>r
 |r,x::l=>rwR σ (eH σ r x) l
theorem aP8(σ:Ta_):∀(r:Int) (l:List VI),(rwM σ r l).length=l.length
 |_,[]=>rfl
 |r,x::l=>by rw[rwM,List.length_cons,List.length_cons,aP8 σ _ l]
def cnt(σ:List Int):Int->List VI->Nat->Int
 |r,_,0=>r
 |r,[],_+1=>r
 |r,x::l,c+1=>cnt σ (eH σ r x) l c
theorem aI7(σ:Ta_):∀(r:Int) (l:List VI) (c:Nat),c<l.length->(rwM σ r l)[c]?=some (dR σ (cnt σ r l c) (l.getD c default))
 |r,[],c,h=>by simp at h
 |r,x::l,0,h=>by rw[rwM,cnt];rfl
 |r,x::l,c+1,h=>by rw[rwM,cnt,List.getElem?_cons_succ,aI7 σ _ l c (by simpa using h)];rfl
def cK(L:List (List VI))(c:Nat):Nat:=((L.take c).map List.length).sum
theorem aW2{L:List (List VI)}{c:Nat}{B:List VI}(h:L[c]?=some B):cK L (c+1)=cK L c+B.length:=by unfold cK;rw[G4,h,Option.toList,D0,List.sum_append];simp
theorem uN:∀(L:List (List VI)) (c j:Nat) (B:List VI),L[c]?=some B->j<B.length->L.flatten[cK L c+j]?=B[j]?
 |[],c,j,B,h,_=>by simp at h
 |A::L,0,j,B,h,hj=>by simp at h;subst h;rw[List.flatten_cons,show cK (A::L) 0=0 from rfl,A9,W_ hj]
 |A::L,c+1,j,B,h,hj=>by
  have e:cK (A::L) (c+1)=A.length+cK L c:=by unfold cK;rw[List.take_succ_cons,Q_,List.sum_cons]
  rw[List.flatten_cons,e,t_ A_,show A.length+cK L c+j-A.length=cK L c+j by omega];exact uN L c j B (by simpa using h) hj
theorem aG4:∀(L:List (List VI)) (k:Nat),k<L.flatten.length->∃c j B,L[c]?=some B/\j<B.length/\k=cK L c+j
 |[],k,h=>by simp at h
 |A::L,k,h=>by
  rw[List.flatten_cons,H_]at h;by_cases hk:k<A.length;.exact⟨0,k,A,rfl,hk,by show k=0+k;omega⟩
  .obtain⟨c,j,B,a,b,d⟩:=aG4 L (k-A.length) A_;have e:cK (A::L) (c+1)=A.length+cK L c:=by unfold cK;rw[List.take_succ_cons,Q_,List.sum_cons]
   exact⟨c+1,j,B,by simpa using a,b,by rw[e];omega⟩
theorem bCr(L:List (List VI)):cK L L.length=L.flatten.length:=by unfold cK;rw[C5,List.length_flatten]
structure aL6 (ins:List VI):Prop where
 ls:∀x∈ins,x.op≠73/\x.op≠74
 us:∀x∈ins,∀u∈x.us,u<32
 cd:∀x∈ins,x.op=67->x.d<32
 lab:∀x∈ins,((26<=x.op/\x.op<=31)\/x.op=66)->∃c:Nat,dP ins x.lb=some (c:Int)
 one:∀c c':Nat,c<ins.length->c'<ins.length->(ins.getD c default).op=65->(ins.getD c' default).op=65->(ins.getD c default).lb=(ins.getD c' default).lb->c=c'
def aDg(σ:List Int):Prop:=∀n∈σ,32<=n
theorem bS{ins:List VI}{c:Nat}(h:c<ins.length):ins.getD c default∈ins:=by rw[b_,D_ h];exact B8 h
theorem aG5{σ:Ta_}{r n:Int}{y:VI}(h:y∈(nZ σ r n).1):∃k,cC σ n=some k/\y=ldI r k:=by
 unfold nZ at h;split at h;.cases h
 .rename_i k hk;simp at h;exact⟨k,hk,h⟩
theorem aL7{σ:Ta_}{r:Int}{x y:VI}(h:y∈cE σ r x):∃n k q,n∈bB x/\cC σ n=some k/\y=ldI q k:=by
 unfold cE at h;rcases U_.1 h with h|h
 .unfold opA at h;split at h;.rename_i ha;obtain⟨k,a,b⟩:=aG5 h;exact⟨_,k,_,ha,a,b⟩
  .cases h
 .unfold opB at h;split at h
  .rename_i hb;split at h;.cases h
   .obtain⟨k,a,b⟩:=aG5 h;exact⟨_,k,_,hb,a,b⟩
  .cases h
theorem lH(σ:Ta_)(r:Int)(x:VI):(fE σ r x=[]/\(x.d∈aW x->x.d∉σ))\/(∃q k,fE σ r x=[stI q k]/\x.d∈aW x/\cC σ x.d=some k):=by
 unfold fE opD;split
 .rename_i hd;cases hs:cC σ x.d with
  |none=>exact .inl ⟨rfl,fun _=>jG.1 hs⟩
  |some k=>exact .inr ⟨_,k,rfl,hd,rfl⟩
 .rename_i hd;exact .inl ⟨rfl,fun h=>absurd h hd⟩
theorem aUa{σ:Ta_}{r:Int}{x:VI}{j:Nat}(h:j<(cE σ r x).length):∃y∈cE σ r x,(dR σ r x)[j]?=some y:=by refine⟨(cE σ r x)[j],B8 _,?_⟩;unfold dR;rw[W_ h,D_ h]
theorem aI8(σ:Ta_)(r:Int)(x:VI):(dR σ r x)[(cE σ r x).length]?=some (eP σ r x):=by unfold dR;rw[t_ (L_ _),M3];rfl
theorem bCs{σ:Ta_}{r:Int}{x:VI}{j:Nat}(h:(cE σ r x).length<j)(a:j<(dR σ r x).length):∃q k,fE σ r x=[stI q k]/\x.d∈aW x/\cC σ x.d=some k/\j=(cE σ r x).length+1/\(dR σ r x)[j]?=some (stI q k):=by
 unfold dR at a |-;rw[H_,List.length_cons]at a;rcases lH σ r x with⟨b,_⟩|⟨q,k,c,e,f⟩;.rw[b]at a;simp at a;omega
 .rw[c]at a |-;simp at a;obtain rfl:j=(cE σ r x).length+1:=A_;refine⟨q,k,rfl,e,f,rfl,?_⟩;rw[t_ A_,show(cE σ r x).length+1-(cE σ r x).length=1 by omega];rfl
def bK(σ:List Int)(r:Int)(ins:List VI):List VI:=(rwM σ r ins).flatten
def ofs(σ:List Int)(r:Int)(ins:List VI)(c:Nat):Nat:=cK (rwM σ r ins) c
theorem qW{σ:Ta_}{r:Int}{ins:List VI}{c j:Nat}(b:c<ins.length)(a:j<(dR σ (cnt σ r ins c) (ins.getD c default)).length): (bK σ r ins)[ofs σ r ins c+j]?=(dR σ (cnt σ r ins c) (ins.getD c default))[j]? := uN _ _ _ _ (aI7 σ r ins c b) a
theorem gG{σ:Ta_}{r:Int}{ins:List VI}{k:Nat}(d:k<(bK σ r ins).length):∃c j,c<ins.length/\j<(dR σ (cnt σ r ins c) (ins.getD c default)).length/\k=ofs σ r ins c+j:=by
 obtain⟨c,j,B,a,e,f⟩:=aG4 _ k d;have b:c<ins.length:=by have:=(E_.1 a).1;rw[aP8]at this;exact this
 rw[aI7 σ r ins c b]at a;cases a
 exact⟨c,j,b,e,f⟩
theorem aDh{σ:Ta_}{r:Int}{ins:List VI}{c:Nat}(a:c<ins.length):ofs σ r ins (c+1)=ofs σ r ins c+(dR σ (cnt σ r ins c) (ins.getD c default)).length:=aW2 (aI7 σ r ins c a)
theorem aUb(σ:Ta_)(r:Int)(ins:List VI):ofs σ r ins ins.length=(bK σ r ins).length:=by have:=bCr (rwM σ r ins);rw[aP8]at this;exact this
theorem bQ7{σ:Ta_}{r:Int}{ins:List VI}{c c':Nat}(h:c<c')(b:c'<=ins.length):ofs σ r ins c<ofs σ r ins c':=by
 induction c' with
 |zero=>omega
 |succ n ih =>
  have e:=aDh (σ:=σ) (r:=r) (ins:=ins) (c:=n) A_;have a:0<(dR σ (cnt σ r ins n) (ins.getD n default)).length:=by unfold dR;simp;omega
  by_cases h1:c=n;.subst h1;omega
  .have:=ih A_ A_;omega
theorem uO(σ:Ta_)(r:Int)(x:VI):(cE σ r x).length<(dR σ r x).length:=by unfold dR;simp
theorem bK8{σ:Ta_}{r:Int}{x:VI}(h:x.op=65):cE σ r x=[]:=by
 have a:bB x=[]:=by unfold bB;simp[h]
 unfold cE opA opB;simp[a]
theorem aL8{σ:Ta_}{r:Int}{x:VI}(h:x.op=66\/x.op=68\/x.op=72\/x.op=65\/(26<=x.op/\x.op<=31)):fE σ r x=[]:=by
 have c:aW x=[]:=by unfold aW;rw[I_ A_,I_ A_]
 rcases lH σ r x with⟨b,_⟩|⟨q,k,d,a,e⟩;.exact b
 .rw[c]at a;cases a
def bK9(C Q:List VI):Prop:=Q.length=C.length/\∀(k:Nat) (y:VI),C[k]?=some y->∃z:VI,Q[k]?=some z/\z.lb=y.lb/\((y.op≠73/\y.op≠74/\z.op=y.op)\/((y.op=73\/y.op=74)/\(z.op=64\/z.op=69\/z.op=73\/z.op=74)))
theorem oA{σ:Ta_}{r:Int}{x y:VI}{j:Nat}(h:(dR σ r x)[j]?=some y):(j<(cE σ r x).length/\∃n k q,n∈bB x/\cC σ n=some k/\y=ldI q k)\/(j=(cE σ r x).length/\y=eP σ r x)\/(j=(cE σ r x).length+1/\∃q k,fE σ r x=[stI q k]/\x.d∈aW x/\cC σ x.d=some k/\y=stI q k):=by
 have c:=(E_.1 h).1;rcases L9 j (cE σ r x).length with a|a|a
 .obtain⟨z,b,e⟩:=aUa a;rw[h]at e;cases e
  exact .inl ⟨a,aL7 b⟩
 .subst a;have:=aI8 σ r x;rw[h]at this;cases this
  exact .inr (.inl ⟨rfl,rfl⟩)
 .obtain⟨q,k,g,l,f,i,e⟩:=bCs a c;rw[h]at e;cases e
  exact .inr (.inr ⟨i,q,k,g,l,f,rfl⟩)
theorem aAv{l:List VI}{L:Int}{c:Nat}(h:dP l L=some (c:Int)):c<l.length/\(l.getD c default).op=65/\(l.getD c default).lb=L/\∀j,j<c->¬((l.getD j default).op=65/\(l.getD j default).lb=L):=by
 unfold dP at h;obtain⟨c',g,k⟩:=G_.1 h;have:c'=c:=by exact_mod_cast k
 subst this;obtain⟨b,f,i⟩:=I3.1 g;have e:∀j (a:j<l.length),l.getD j default=l[j]:=fun j a=>by rw[b_,D_ a];rfl
 simp only[O_,p_]at f;refine⟨b,by rw[e _ b];exact f.1,by rw[e _ b];exact f.2,fun j a d=>?_⟩;have:=i j a;rw[e _ A_]at d;simp[d.1,d.2]at this
theorem aW3{l:List VI}{L:Int}{c:Nat}(d:c<l.length)(b:(l.getD c default).op=65/\(l.getD c default).lb=L)(g:∀j,j<c->¬((l.getD j default).op=65/\(l.getD j default).lb=L)):dP l L=some (c:Int):=by
 have e:∀j (a:j<l.length),l.getD j default=l[j]:=fun j a=>by rw[b_,D_ a];rfl
 unfold dP;have:l.findIdx? (fun x=>decide (x.op=65)&&decide (x.lb=L))=some c:=by
  rw[I3];refine⟨d,?_,fun j a=>?_⟩;.rw[e _ d]at b;simp[b.1,b.2]
  .have:=g j a;rw[e _ A_]at this;intro f;simp only[O_,p_]at f;exact this f
 rw[this];rfl
theorem getD_some{l:List VI}{k:Nat}{y:VI}(h:l[k]?=some y):l.getD k default=y:=by rw[b_,h];rfl
theorem aP9{ins:List VI}{σ:Ta_}{r:Int}{Q:List VI}(t:bK9 (bK σ r ins) Q){L:Int}{c:Nat}(h:dP ins L=some (c:Int)):dP Q L=some (ofs σ r ins c:Nat):=by
 obtain⟨H,y,G,I⟩:=aAv h;have E:=bK8 (σ:=σ) (r:=cnt σ r ins c) y;have A:=aI8 σ (cnt σ r ins c) (ins.getD c default);rw[E]at A;have C:=uO σ (cnt σ r ins c) (ins.getD c default);have d:=qW (σ:=σ) (r:=r) H (j:=0) A_;rw[show(dR σ (cnt σ r ins c) (ins.getD c default))[0]?=some _ from A,Nat.add_zero]at d;obtain⟨z,l,F,D⟩:=t.2 _ _ d;have v:=(E_.1 l).1;have s:z.op=65:=by
  have:(eP σ (cnt σ r ins c) (ins.getD c default)).op=65:=y;rcases D with⟨_,_,h⟩|⟨h,_⟩;.rw[h];exact this
  .rw[this]at h;omega
 refine aW3 v ⟨by rw[getD_some l];exact s,by rw[getD_some l,F];exact G⟩ fun k N i=>?_;have w:k<(bK σ r ins).length:=by rw[<-t.1];omega
 obtain⟨c',j,o,u,rfl⟩:=gG w;have a:=qW (σ:=σ) (r:=r) o u;rw[D_ u]at a;obtain⟨J,m,f,x⟩:=t.2 _ _ a;rw[getD_some m]at i;have b:(dR σ (cnt σ r ins c') (ins.getD c' default))[j].op=65:=by
  rcases x with⟨_,_,h⟩|⟨_,h⟩;.rw[<-h];exact i.1
  .have:=i.1;omega
 rcases oA (D_ u)with⟨_,n,k,q,_,_,e⟩|⟨_,e⟩|⟨_,q,k,_,_,_,e⟩;.rw[e]at b;exact absurd b (by show ¬(73:Int)=65;decide)
 .rw[e]at b f;have p:c'<c:=by
   rcases L9 c' c with g|g|g;.exact g
   .subst g;omega
   .have:=bQ7 (σ:=σ) (r:=r) (ins:=ins) g A_;omega
  exact I c' p ⟨b,by rw[<-i.2,f];rfl⟩
 .rw[e]at b;exact absurd b (by show ¬(74:Int)=65;decide)
theorem sO{ins:List VI}(C:aL6 ins){σ:Ta_}{r:Int}{Q:List VI}(u:bK9 (bK σ r ins) Q) {c j:Nat} (A:c<ins.length) (v:j<(dR σ (cnt σ r ins c) (ins.getD c default)).length) {k':Int} (b:k'∈nJ Q (ofs σ r ins c+j)): (k'=((ofs σ r ins c+(j+1):Nat):Int)/\j+1<(dR σ (cnt σ r ins c) (ins.getD c default)).length) \/((cE σ (cnt σ r ins c) (ins.getD c default)).length<=j/\∃c':Nat,c'<ins.length/\(c':Int)∈nJ ins c/\k'=(ofs σ r ins c':Nat)/\(j=(cE σ (cnt σ r ins c) (ins.getD c default)).length->fE σ (cnt σ r ins c) (ins.getD c default)=[])):=by
 have m:=qW (σ:=σ) (r:=r) A v;rw[D_ v]at m;obtain⟨z,H,N,E⟩:=u.2 _ _ m;have D:=oA (D_ v);have F:=uO σ (cnt σ r ins c) (ins.getD c default);have g:=bS A;unfold nJ at b;rw[getD_some H]at b;generalize hy:(dR σ (cnt σ r ins c) (ins.getD c default))[j]=y at *
 split at b;.cases b
 rename_i hnt;rcases U_.1 b with b|b
 .split at b
  .rename_i hjm;have f:y.op=z.op:=by
    rcases E with⟨_,_,h⟩|⟨_,h⟩;.exact h.symm
    .omega
   rcases D with⟨_,n,k,q,_,_,e⟩|⟨p,e⟩|⟨_,q,k,_,_,_,e⟩;.exfalso;rw[e]at f;have:(73:Int)=z.op:=f;omega
   .have d:(ins.getD c default).op=z.op:=by rw[<-f,e];rfl
    have w:(ins.getD c default).lb=z.lb:=by rw[N,e];rfl
    obtain⟨c',i⟩:=C.lab _ g (by rw[d];exact hjm);have I:=aP9 u i;rw[<-w,I]at b;rw[S_]at b;refine .inr ⟨by omega,c',(aAv i).1,?_,b,fun _=>aL8 (by rw[d];omega)⟩;unfold nJ;rw[I_ (by rw[d];exact hnt),K_ (by rw[d];exact hjm),i];exact G9 _ (S_.2 rfl)
   .exfalso;rw[e]at f;have:(74:Int)=z.op:=f;omega
  .cases b
 .split at b
  .rename_i hnx;rw[S_]at b;by_cases hl:j+1<(dR σ (cnt σ r ins c) (ins.getD c default)).length;.exact .inl ⟨by rw[b];omega,hl⟩
   .have G:ofs σ r ins c+j+1=ofs σ r ins (c+1):=by rw[aDh A];omega
    have o:c+1<ins.length:=by
     have s:=hnx.2;rw[u.1,G,<-aUb]at s;by_cases l:c+1<ins.length;.exact l
     .have:c+1=ins.length:=A_;rw[this]at s;omega
    have d:¬((ins.getD c default).op=68\/(ins.getD c default).op=72)/\(ins.getD c default).op≠66:=by
     rcases D with⟨L,_⟩|⟨p,e⟩|⟨_,q,k,s,l,_,e⟩;.omega
     .have x:z.op=(ins.getD c default).op:=by
       have J:=C.ls _ g;have:y.op=(ins.getD c default).op:=by rw[e];rfl
       rcases E with⟨_,_,h⟩|⟨h,_⟩;.rw[h,this]
       .rw[this]at h;omega
      rw[x]at hnt hnx;exact⟨hnt,hnx.1⟩
     .unfold aW at l;split at l;.omega
      .split at l;.omega
       .cases l
    refine .inr ⟨by omega,c+1,o,?_,by rw[b,<-G];omega,fun p=>?_⟩;.unfold nJ;rw[I_ d.1];exact J5 _ (by rw[K_ ⟨d.2,o⟩];simp)
    .cases hp:fE σ (cnt σ r ins c) (ins.getD c default)with
     |nil=>rfl
     |cons a t =>exfalso;apply hl;unfold dR;rw[hp,H_,List.length_cons,List.length_cons];omega
  .cases b
theorem aG6(σ:Ta_)(r n:Int):r<=(nZ σ r n).2.2/\(nZ σ r n).2.2<=r+1:=by unfold nZ;split<;>dsimp only<;>omega
theorem bCt(σ:Ta_)(r:Int)(x:VI):r<=(opA σ r x).2.2/\(opA σ r x).2.2<=r+1:=by
 unfold opA;split;.exact aG6 ..
 .dsimp only;omega
theorem aL9(σ:Ta_)(r:Int)(x:VI):r<=(opB σ r x).2.2/\(opB σ r x).2.2<=r+2:=by
 have h:=bCt σ r x;unfold opB;split
 .split;.dsimp only;omega
  .have:=aG6 σ (opA σ r x).2.2 x.b;omega
 .dsimp only;omega
theorem aCf(σ:Ta_)(r:Int)(x:VI):r<=eH σ r x/\eH σ r x<=r+3:=by
 have h:=aL9 σ r x;unfold eH opD;split;.split<;>dsimp only<;>omega
 .dsimp only;omega
theorem sP(σ:Ta_):∀(r:Int) (l:List VI) (c:Nat),r<=cnt σ r l c
 |r,l,0=>by rw[cnt];omega
 |r,[],c+1=>by rw[cnt];omega
 |r,x::l,c+1=>by rw[cnt];have:=sP σ (eH σ r x) l c;have:=aCf σ r x;omega
theorem xI(σ:Ta_)(r:Int)(x:VI):(opA σ r x).2.2=r+(opA σ r x).1.length/\((opA σ r x).1=[]\/∃k,x.a∈bB x/\cC σ x.a=some k/\(opA σ r x).1=[ldI r k]/\(opA σ r x).2.1=r):=by
 unfold opA;split
 .rename_i h;unfold nZ;cases hs:cC σ x.a with
  |none=>exact⟨by simp,.inl rfl⟩
  |some k=>exact⟨rfl,.inr ⟨k,h,rfl,rfl,rfl⟩⟩
 .exact⟨by simp,.inl rfl⟩
theorem aI9(σ:Ta_)(r:Int)(x:VI):(opB σ r x).2.2=(opA σ r x).2.2+(opB σ r x).1.length/\((opB σ r x).1=[]\/∃k,x.b∈bB x/\cC σ x.b=some k/\(opB σ r x).1=[ldI (opA σ r x).2.2 k]/\(opB σ r x).2.1=(opA σ r x).2.2):=by
 unfold opB;split
 .rename_i h;split;.exact⟨by simp,.inl rfl⟩
  .unfold nZ;cases hs:cC σ x.b with
   |none=>exact⟨by simp,.inl rfl⟩
   |some k=>exact⟨rfl,.inr ⟨k,h,rfl,rfl,rfl⟩⟩
 .exact⟨by simp,.inl rfl⟩
theorem jY(σ:Ta_)(r:Int)(x:VI):(opB σ r x).2.2=r+(cE σ r x).length/\(cE σ r x).length<=2:=by
 obtain⟨e,d⟩:=xI σ r x;obtain⟨f,c⟩:=aI9 σ r x;unfold cE;rw[H_];have a:(opA σ r x).1.length<=1:=by rcases d with h|⟨_,_,_,h,_⟩<;>rw[h]<;>simp
 have b:(opB σ r x).1.length<=1:=by rcases c with h|⟨_,_,_,h,_⟩<;>rw[h]<;>simp
 omega
theorem aUc{σ:Ta_}{r:Int}{x y:VI}{j:Nat}(h:(cE σ r x)[j]?=some y):∃n k,n∈bB x/\cC σ n=some k/\y=ldI (r+j) k:=by
 obtain⟨c,l⟩:=xI σ r x;obtain⟨m,f⟩:=aI9 σ r x;unfold cE at h;rcases l with e2|⟨k,i,g,e2,_⟩
 .rw[e2]at h c;rcases f with a|⟨e,d,b,a,_⟩;.rw[a]at h;simp at h
  .rw[a]at h;cases j with
   |zero =>simp at h c;exact⟨_,e,d,b,by rw[<-h,c];simp⟩
   |succ j=>simp at h
 .rw[e2]at h c;cases j with
  |zero =>simp at h;exact⟨_,k,i,g,by rw[<-h];simp⟩
  |succ j =>
   rcases f with a|⟨e,d,b,a,_⟩;.rw[a]at h;simp at h
   .rw[a]at h;cases j with
    |zero =>simp at h c;exact⟨_,e,d,b,by rw[<-h,c];rfl⟩
    |succ j=>simp at h
theorem aJa{n:Int}(h:0<low n):low n=n:=by unfold low at *;split at h;omega;rename_i h1;rw[I_ h1]
theorem aJb(σ:Ta_)(r:Int)(x:VI):(x.a∈bB x/\x.a∉σ/\(opA σ r x).2.1=x.a)\/(∃j:Nat,j<(cE σ r x).length/\(opA σ r x).2.1=r+j)\/(x.a∉bB x/\(opA σ r x).2.1=low x.a):=by
 rcases(xI σ r x).2 with e|⟨k,_,_,e,e2⟩
 .unfold opA at e |-;split
  .rename_i hm;rw[K_ hm]at e;unfold nZ at e |-;cases hs:cC σ x.a with
   |none=>exact .inl ⟨hm,jG.1 hs,rfl⟩
   |some k=>rw[hs]at e;simp at e
  .rename_i hm;exact .inr (.inr ⟨hm,rfl⟩)
 .refine .inr (.inl ⟨0,?_,by rw[e2];simp⟩);unfold cE;rw[e];simp
theorem aUd(σ:Ta_)(r:Int)(x:VI):(x.b∈bB x/\x.b∉σ/\(opB σ r x).2.1=x.b)\/(∃j:Nat,j<(cE σ r x).length/\(opB σ r x).2.1=r+j)\/(x.b∉bB x/\(opB σ r x).2.1=low x.b):=by
 rcases(aI9 σ r x).2 with e|⟨k,_,_,e,e2⟩
 .unfold opB at e |-;split
  .rename_i hm;rw[K_ hm]at e;split
   .rename_i he;rcases aJb σ r x with⟨a,c,d⟩|a|⟨a,_⟩;.exact .inl ⟨hm,by rw[he];exact c,by dsimp only;rw[d,he]⟩
    .exact .inr (.inl a)
    .rw[he]at hm;exact absurd hm a
   .rename_i he;rw[I_ he]at e;unfold nZ at e |-;cases hs:cC σ x.b with
    |none=>exact .inl ⟨hm,jG.1 hs,rfl⟩
    |some k=>rw[hs]at e;simp at e
  .rename_i hm;exact .inr (.inr ⟨hm,rfl⟩)
 .refine .inr (.inl ⟨(opA σ r x).1.length,?_,?_⟩);.unfold cE;rw[e];simp
  .rw[e2,(xI σ r x).1]
theorem xJ{σ:Ta_}(w:aDg σ){r:Int}{x:VI}(s:∀u∈x.us,u<32){n:Int}(h:n∈bB (eP σ r x)):(n∈bB x/\n∉σ)\/∃j:Nat,j<(cE σ r x).length/\n=r+j:=by
 have key:∀m:Int,0<m->m=(opA σ r x).2.1->(x.a∈bB x\/((0<x.a->x.a∈bB x)))->(m∈bB x/\m∉σ)\/∃j:Nat,j<(cE σ r x).length/\m=r+j:=fun m g e i=>by
  rcases aJb σ r x with⟨c,k,o⟩|c|⟨c,k⟩;.rw[e,o];exact .inl ⟨c,k⟩
  .rw[e];exact .inr c
  .rw[e,k]at g;have:=aJa g;rw[this]at g;rcases i with i|i;.exact absurd i c
   .exact absurd (i g) c
 have l:∀m:Int,0<m->m=(opB σ r x).2.1->(0<x.b->x.b∈bB x)->(m∈bB x/\m∉σ)\/∃j:Nat,j<(cE σ r x).length/\m=r+j:=fun m g e i=>by
  rcases aUd σ r x with⟨c,k,o⟩|c|⟨c,k⟩;.rw[e,o];exact .inl ⟨c,k⟩
  .rw[e];exact .inr c
  .rw[e,k]at g;have:=aJa g;rw[this]at g;exact absurd (i g) c
 have p:(eP σ r x).op=x.op:=rfl;have v:(eP σ r x).a=(opA σ r x).2.1:=rfl;have e2:(eP σ r x).b=(opB σ r x).2.1:=rfl;have e3:(eP σ r x).us=x.us:=rfl;unfold bB at h;rw[p,v,e2,e3]at h;split at h
 .rename_i hop;have d:bB x=tdy [x.a,x.b]:=by unfold bB;rw[K_ hop]
  obtain⟨c,f⟩:=cT.1 h;rcases J_.1 c with c|c;.exact key n f c (.inr fun f=>by rw[d];exact cT.2 ⟨by simp,f⟩)
  .rw[S_]at c;exact l n f c fun f=>by rw[d];exact cT.2 ⟨by simp,f⟩
 .rename_i hop;split at h
  .rename_i hop2;have d:bB x=tdy [x.a]:=by unfold bB;rw[I_ hop,K_ hop2]
   obtain⟨c,f⟩:=cT.1 h;rw[S_]at c;exact key n f c (.inr fun f=>by rw[d];exact cT.2 ⟨by simp,f⟩)
  .rename_i hop2;split at h
   .rename_i hop3;have d:bB x=tdy (x.us++[26]):=by unfold bB;rw[I_ hop,I_ hop2,K_ hop3]
    refine .inl ⟨by rw[d];exact h,fun q=>?_⟩;have t:=w n q;obtain⟨c,f⟩:=cT.1 h;rcases U_.1 c with c|c;.have:=s n c;omega
    .rw[S_]at c;omega
   .cases h
theorem aMa{σ:Ta_}{r:Int}{x:VI}{n:Int}(h:n∈aW x)(f:n∉σ):n∈aW (eP σ r x):=by
 have j:(eP σ r x).op=x.op:=rfl;have l:(eP σ r x).d=(opD σ r x).1:=rfl;have i:∀m,m=x.d->m∈aW x->m∉σ->(opD σ r x).1=x.d:=fun m e k b=>by unfold opD;rw[K_ (by rw[<-e];exact k)];have:cC σ x.d=none:=jG.2 (by rw[<-e];exact b);rw[this]
 have g:=h;unfold aW at h |-;rw[j,l];split at h;.rename_i hop;rw[K_ hop];obtain⟨a,c⟩:=cT.1 h;rw[S_]at a;rw[i n a g f];exact cT.2 ⟨by simp[a],c⟩
 .rename_i hop;rw[I_ hop];split at h
  .rename_i hop2;rw[K_ hop2];obtain⟨a,c⟩:=cT.1 h;refine cT.2 ⟨?_,c⟩;rcases U_.1 a with a|a;.exact G9 _ a
   .refine J5 _ ?_;rcases J_.1 a with a|a;.simp[a]
    .rw[S_]at a;rw[i n a g f];simp[a]
  .cases h
def plI(y:VI):VI:=if y.op=73 then⟨69,y.d,0,0,0,0,.nil,[],.nil,[]⟩else if y.op=74 then⟨64,0,y.a,0,0,0,.nil,[],.nil,[]⟩else y
theorem bLa{C:List VI}(a:∀(k:Nat) (y:VI),C[k]?=some y->(y.op=73\/y.op=74)->y.lb=0):bK9 C (C.map plI):=by
 refine⟨P_ _,fun k y h=>⟨plI y,by rw[l_,h];rfl,?_,?_⟩⟩
 .unfold plI;split;.exact(a k y h (.inl (by assumption))).symm
  .split;.exact(a k y h (.inr (by assumption))).symm
   .rfl
 .unfold plI;by_cases h1:y.op=73;.rw[K_ h1];exact .inr ⟨.inl h1,.inr (.inl rfl)⟩
  .rw[I_ h1];by_cases h2:y.op=74;.rw[K_ h2];exact .inr ⟨.inr h2,.inl rfl⟩
   .rw[I_ h2];exact .inl ⟨h1,h2,rfl⟩
theorem bLb{ins:List VI}(d:aL6 ins){σ:Ta_}{r:Int}(k:Nat)(y:VI)(h:(bK σ r ins)[k]?=some y)(a:y.op=73\/y.op=74):y.lb=0:=by
 have i:=(E_.1 h).1;obtain⟨c,j,b,g,rfl⟩:=gG i;rw[qW b g]at h;rcases oA h with⟨_,n,q,m,_,_,e⟩|⟨_,e⟩|⟨_,q,m,_,_,_,e⟩;.rw[e];rfl
 .have:=d.ls _ (bS b);rw[e]at a;have f:(ins.getD c default).op=73\/(ins.getD c default).op=74:=a;omega
 .rw[e];rfl
def plC(σ:List Int)(r:Int)(ins:List VI):List VI:=(bK σ r ins).map plI
theorem pX{ins:List VI}(a:aL6 ins)(σ:Ta_)(r:Int):bK9 (bK σ r ins) (plC σ r ins):=bLa (bLb a)
theorem aDi{σ:Ta_}{r:Int}{ins:List VI}{c j:Nat}(b:c<ins.length)(a:j<(dR σ (cnt σ r ins c) (ins.getD c default)).length): (plC σ r ins).getD (ofs σ r ins c+j) default=plI ((dR σ (cnt σ r ins c) (ins.getD c default))[j]):=by refine getD_some ?_;unfold plC;rw[l_,qW b a,D_ a];rfl
theorem aJc(q:Int)(k:Nat):bB (plI (ldI q k))=[]/\(plI (ldI q k)).op=69/\aW (plI (ldI q k))=tdy [q]:=by unfold plI ldI;refine⟨by simp[bB],by simp,by simp[aW]⟩
theorem aDj(q:Int)(k:Nat):bB (plI (stI q k))=tdy [q]/\aW (plI (stI q k))=tdy [0]:=by unfold plI stI;refine⟨by simp[bB],by simp[aW]⟩
theorem sQ{ins:List VI}(a:aL6 ins){x:VI}(b:x∈ins)(σ:Ta_)(r:Int):plI (eP σ r x)=eP σ r x:=by have:=a.ls x b;unfold plI;rw[I_ (show ¬(eP σ r x).op=73 from this.1),I_ (show ¬(eP σ r x).op=74 from this.2)]
theorem xK{σ:Ta_}{r:Int}{x:VI}{q:Int}{k:Nat}(h:fE σ r x=[stI q k]):(opB σ r x).2.2=q:=by
 unfold fE opD at h;by_cases hd:x.d∈aW x
 .rw[K_ hd]at h;cases hs:cC σ x.d with
  |none=>rw[hs]at h;cases h
  |some m=>rw[hs]at h;exact X_ VI.a (Z7 h).1
 .rw[I_ hd]at h;cases h
theorem bUf{ins:List VI}(g:aL6 ins){σ:Ta_}(C:aDg σ){r n:Int}(F:n<r)(x:n∉σ){k:Nat}(h:LvR (plC σ r ins) n k): ∀c j,c<ins.length->j<(dR σ (cnt σ r ins c) (ins.getD c default)).length->k=ofs σ r ins c+j ->(j<=(cE σ (cnt σ r ins c) (ins.getD c default)).length->LvR ins n c)/\((cE σ (cnt σ r ins c) (ins.getD c default)).length<j->∃c':Nat,(c':Int)∈nJ ins c/\LvR ins n c'):=by
 induction h with
 |@use k h =>
  intro c j b f e;subst e;rw[aDi b f]at h;have E:=sP σ r ins c;rcases oA (D_ f)with⟨hjp,m,q,w,_,_,e⟩|⟨hje,e⟩|⟨hje,q,w,hp,_,_,e⟩;.rw[e,(aJc ..).1]at h;cases h
  .rw[e,sQ g (bS b)]at h;rcases xJ C (g.us _ (bS b)) h with⟨l,_⟩|⟨i,G,l⟩;.exact⟨fun _=>.use l,fun o=>A_⟩
   .omega
  .exfalso;rw[e,(aDj ..).1]at h;obtain⟨l,_⟩:=cT.1 h;rw[S_]at l;have D:=xK hp;have:=aL9 σ (cnt σ r ins c) (ins.getD c default);omega
 |@step k k' hk hlv hd ih =>
  intro c j b f e;subst e;rw[aDi b f]at hd;rcases sO g (pX g σ r) b f hk with⟨u,d⟩|⟨z,c',t,a,u,v⟩
  .obtain⟨s,A⟩:=ih c (j+1) b d (by rw[u,Int.toNat_natCast]);rcases oA (D_ f)with⟨hjp,_⟩|⟨hje,e⟩|⟨hje,q,w,hp,_⟩;.exact⟨fun _=>s A_,fun o=>A_⟩
   .refine⟨fun _=>?_,fun o=>A_⟩;obtain⟨c',a,p⟩:=A A_;rw[e,sQ g (bS b)]at hd;exact .step a (by rw[Int.toNat_natCast];exact p) fun h=>hd (aMa h x)
   .exfalso;unfold dR at d;rw[hp,H_,List.length_cons,List.length_cons,List.length_nil]at d;omega
  .obtain⟨s,_⟩:=ih c' 0 t (by have:=uO σ (cnt σ r ins c') (ins.getD c' default);omega) (by rw[u,Int.toNat_natCast,Nat.add_zero]);have y:=s (I8 _);rcases oA (D_ f)with⟨hjp,_⟩|⟨hje,e⟩|⟨hje,q,w,hp,_⟩;.omega
   .rw[e,sQ g (bS b)]at hd;exact⟨fun _=>.step a (by rw[Int.toNat_natCast];exact y) fun h=>hd (aMa h x),fun o=>A_⟩
   .exact⟨fun o=>A_,fun _=>⟨c',a,y⟩⟩
inductive Rdb (C:List VI) (s:Int):Nat->Prop
 |load {i:Nat} (h:(C.getD i default).op=73) (hs:(C.getD i default).im=s):Rdb C s i
 |step {i:Nat} {k:Int} (hk:k∈nJ C i) (h:Rdb C s k.toNat) (hs:¬((C.getD i default).op=74/\(C.getD i default).im=s)):Rdb C s i
theorem bPw{σ:Ta_}{r:Int}{ins:List VI}{c j:Nat}(b:c<ins.length)(a:j<(dR σ (cnt σ r ins c) (ins.getD c default)).length): (bK σ r ins).getD (ofs σ r ins c+j) default=(dR σ (cnt σ r ins c) (ins.getD c default))[j]:=by refine getD_some ?_;rw[qW b a,D_ a]
end Go.Proofs.YtehlgnfhkidgoaaGreatDoor
