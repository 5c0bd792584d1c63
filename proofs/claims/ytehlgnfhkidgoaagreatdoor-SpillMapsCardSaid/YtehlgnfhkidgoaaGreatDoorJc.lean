/- Some texts of the proof, joined. Condition: none. -/
import Derived.Test.YtehlgnfhkidgoaaGreatDoorJa
import Derived.Test.YtehlgnfhkidgoaaGreatDoorKr2
import Derived.Test.YtehlgnfhkidgoaaGreatDoorTmF
import Derived.Test.YtehlgnfhkidgoaaGreatDoorJb
set_option linter.unusedSectionVars false
set_option maxRecDepth 100000
set_option maxHeartbeats 64000000
set_option linter.unusedSimpArgs false
set_option linter.unusedVariables false
namespace Go.Proofs.YtehlgnfhkidgoaaGreatDoor
open Go Go.TM
theorem aT7(op:Int)(h:1<=op/\op<=25):TM.Pure K 128 [j_ op] (j_ (if op<=14 then 1 else if op=23 then 3 else if op=25 then 4 else 2)):=by
 refine aT t128 rfl rfl ?_;rcases(by omega:op<=14\/op=23\/op=25\/(15<=op/\op<=22)\/op=24)with h1|h1|h1|h1|h1;.rw[K_ h1];simp(disch:=omega)only[t128,go_sem]
 .rw[I_ A_,K_ h1];simp(disch:=omega)only[t128,go_sem]
 .rw[I_ A_,I_ A_,K_ h1];simp(disch:=omega)only[t128,go_sem]
 .rw[I_ A_,I_ A_,I_ A_];simp(disch:=omega)only[t128,go_sem]
 .rw[I_ A_,I_ A_,I_ A_];simp(disch:=omega)only[t128,go_sem]
theorem aWx:TM.Pure K 127 [j_ 1] (.tup [e_,e_,e_,j_ 0]):=by refine aT t127 rfl rfl ?_;simp(disch:=omega)only[t127,go_sem]
theorem aGy:TM.Pure K 127 [j_ 2] (.tup [e_,e_,z_,j_ 16]):=by refine aT t127 rfl rfl ?_;simp(disch:=omega)only[t127,go_sem]
theorem aWy:TM.Pure K 127 [j_ 3] (.tup [e_,z_,z_,j_ 16]):=by refine aT t127 rfl rfl ?_;simp(disch:=omega)only[t127,go_sem]
theorem aWz:TM.Pure K 127 [j_ 4] (.tup [z_,e_,e_,j_ 16]):=by refine aT t127 rfl rfl ?_;simp(disch:=omega)only[t127,go_sem]
theorem aI3(b:Bool):TM.Pure K 133 [.iv (.bool b),j_ 0] e_:=by refine aT t133 rfl rfl ?_;cases b<;>simp(disch:=omega)only[t133,go_sem]
theorem bKt(op:Int)(h:1<=op/\op<=25):TM.Pure K 132 [j_ op] (.tup [j_ (loM op),j_ (hiM op)]):=by
 have a:=aT7 op h;unfold loM hiM;refine aT t132 rfl rfl ?_;rcases(by omega:op<=14\/op=15\/op=16\/op=17\/op=18\/op=19\/op=20\/op=21\/op=22\/op=23\/op=24\/op=25)with h1|h1|h1|h1|h1|h1|h1|h1|h1|h1|h1|h1;.rw[I_ A_,I_ A_,I_ A_,I_ A_];rw[K_ h1]at a;simp(disch:=omega)only[t132,go_sem,aD a]
 all_goals
  subst h1
  simp(disch:=omega)only[t132,go_sem,aD a]
  rfl
theorem aDa(op:Int)(h:1<=op/\op<=25):∃(e:Int) (d a b:Bool) (f:Int),TM.Pure K 128 [j_ op] (j_ e)/\TM.Pure K 127 [j_ e] (.tup [.iv (.bool d),.iv (.bool a),.iv (.bool b),j_ f])/\e≠0/\0<=f/\f<=21:=by
 have c:=aT7 op h;rcases(by omega:op<=14\/op=23\/op=25\/(15<=op/\op<=22)\/op=24)with h1|h1|h1|h1|h1;.rw[K_ h1]at c;exact⟨1,_,_,_,_,c,aWx,by decide,by decide,by decide⟩
 .rw[I_ A_,K_ h1]at c;exact⟨3,_,_,_,_,c,aWy,by decide,by decide,by decide⟩
 .rw[I_ A_,I_ A_,K_ h1]at c;exact⟨4,_,_,_,_,c,aWz,by decide,by decide,by decide⟩
 .rw[I_ A_,I_ A_,I_ A_]at c;exact⟨2,_,_,_,_,c,aGy,by decide,by decide,by decide⟩
 .rw[I_ A_,I_ A_,I_ A_]at c;exact⟨2,_,_,_,_,c,aGy,by decide,by decide,by decide⟩
theorem bKu(op g:Int)(h:1<=op/\op<=25):TM.Pure K 126 [.iv (.agg [.int .i64 op,.int .i64 0,.int .i64 0,.int .i64 0,.int .i64 g])] (j_ (if loM op<=g/\g<=hiM op then 0 else 11)):=by
 obtain⟨n,d,a,b,m,e,f,l,_,_⟩:=aDa op h;have c:=bKt op h;have i:=aI3 d;have j:=aI3 a;have k:=aI3 b;generalize loM op=lo at *
 generalize hiM op=hi at *
 refine aT t126 rfl rfl ?_;by_cases e1:lo<=g
 .by_cases e2:g<=hi;.rw[K_ ⟨e1,e2⟩];simp (config := { maxSteps := 4000000 })(disch:=omega)only[t126,go_sem,aD e,aD f,aD c,aD i,aD j,aD k]
  .rw[I_ A_];simp (config := { maxSteps := 4000000 })(disch:=omega)only[t126,go_sem,aD e,aD f,aD c,aD i,aD j,aD k]
 .rw[I_ A_];simp (config := { maxSteps := 4000000 })(disch:=omega)only[t126,go_sem,aD e,aD f,aD c,aD i,aD j,aD k]
def aL5(b:Bool):List IV:=[.bool b,.int .i64 0]
theorem aI4(E:List Bool)(s:E.length<=10)(x0 q x2 p x4 x5 x6 x7 x8 x12:TV):∀(k i:Nat) (w c:Int) (x11 x16 m:TV),i+k=E.length->5*(k:Int)<=c->c<=100 ->∃(w' e:Int) (g j d:TV),lp' (lim K) t112L0 [x0,q,x2,p,x4,x5,x6,x7,x8,.iv (.int .u32 w),j_ c,x11,x12,.iv (.sl .full (E.map aL5)),j_ E.length,j_ i,x16,m] [] = .ret (.exit 0,[x0,q,x2,p,x4,x5,x6,x7,x8,.iv (.int .u32 w'),j_ e,g,x12,.iv (.sl .full (E.map aL5)),j_ E.length,j_ E.length,j,d],[])
 |0,i,w,c,x11,x16,m,h,h1,h2=>by obtain rfl:i=E.length:=A_;refine⟨w,c,x11,z_,m,aE K _ _ t112L0.eq_1 ?_⟩;simp(disch:=omega)only[go_sem]
 |k+1,i,w,c,x11,x16,m,h,h1,h2=>by
  have u:i<E.length:=A_;have n:=gC (w:=2) (f:=aL5) (fun _=>rfl) (t:=.full) (l:=E) (i:=(i:Int)) A_;rw[Int.toNat_natCast]at n;generalize E.getD i default=b at *
  rw[show aL5 b=[.bool b,.int .i64 0] from rfl]at n;have r:∀(env:Env) (S:aA) (a b:IV),bP env S (.iv (.cp [a,b])) 2=some [.iv a,.iv b]:=fun _ _ _ _=>by simp[bP,sub]
  cases b with
  |true =>have v:IntKind.u32.wrap 0=0:=C_;obtain⟨w',e,g,j,d,o⟩:=aI4 E s x0 q x2 p x4 x5 x6 x7 x8 x12 k (i+1) (IntKind.u32.wrap (bOr 32 w (IntKind.u32.wrap (0*2 ^ (if c.toNat<=32 then c.toNat else 32))))) (c-5) (.lb [e_,j_ 0]) e_ e_ A_ A_ A_;rw[show((i+1:Nat):Int)=(i:Int)+1 by omega]at o;refine⟨w',e,g,j,d,aE K _ _ t112L0.eq_1 ?_⟩;simp(disch:=omega)only[go_sem,n,r,aC,v];exact X_ er o
  |false =>obtain⟨w',e,g,j,d,o⟩:=aI4 E s x0 q x2 p x4 x5 x6 x7 x8 x12 k (i+1) w c (.lb [z_,j_ 0]) e_ z_ A_ A_ A_;rw[show((i+1:Nat):Int)=(i:Int)+1 by omega]at o;refine⟨w',e,g,j,d,aE K _ _ t112L0.eq_1 ?_⟩;simp(disch:=omega)only[go_sem,n,r,aC];exact X_ er o
def aAp(op im:Int):List IV:=[.int .i64 op,.int .i64 0,.int .i64 0,.int .i64 0,.int .i64 im]
theorem bKv(op c:Int)(h:1<=op/\op<=25):∃w:Int,TM.Pure K 112 [.iv (.agg (aAp op c))] (.tup [.iv (.int .u32 w),j_ (if loM op<=c/\c<=hiM op then 0 else 11)]):=by
 have f:=bKu op c h;obtain⟨r,d,a,b,n,i,g,t,s,q⟩:=aDa op h;by_cases e:loM op<=c/\c<=hiM op;.rw[K_ e]at f |-;have key:=fun p=>aI4 [d,a,b] B_ (.iv (.agg (aAp op c))) (.lb ((aAp op c).map .iv)) (.iv (.int .u32 0)) (j_ 0) (j_ 0) (.iv (.bool d)) (.iv (.bool a)) (.iv (.bool b)) (j_ n) z_ 3 0 p 21 u_ u_ u_ B_ C_ C_;obtain⟨w',m,o,k,l,j⟩:=key (IntKind.u32.wrap (IntKind.u32.wrap op*67108864));rw[n0_,show(([d,a,b].length:Nat):Int)=((3:Nat):Int) from rfl,show(aAp op c).map TV.iv=[j_ op,j_ 0,j_ 0,j_ 0,j_ c] from rfl,show aAp op c=[.int .i64 op,.int .i64 0,.int .i64 0,.int .i64 0,.int .i64 c] from rfl,show [d,a,b].map aL5=[[.bool d,.int .i64 0],[.bool a,.int .i64 0],[.bool b,.int .i64 0]] from rfl]at j;unfold aAp;refine⟨?_,aT t112 rfl rfl ?_⟩;rotate_left;.simp(disch:=omega)only[t112,go_sem,aD i,aD g,aD f];rw[j];simp(disch:=omega)only[go_sem];rfl
 .rw[I_ e]at f |-;refine⟨0,aT t112 rfl rfl ?_⟩;simp(disch:=omega)only[t112,go_sem,aAp,aD f]
def aI5(op im:Int):Bool:=decide (1<=op/\op<=25)&&decide (loM op<=im/\im<=hiM op)
theorem bQo(v:VI):TM.Pure K 78 [.iv (.agg (aJ v))] (.iv (.bool (aI5 v.op v.im))):=by
 unfold aI5;by_cases h:1<=v.op/\v.op<=25
 .obtain⟨w,a⟩:=bKv v.op v.im h;rw[V_ h,Q8];unfold aAp at a;refine aT t78 rfl rfl ?_;by_cases e:loM v.op<=v.im/\v.im<=hiM v.op;.rw[K_ e]at a;rw[V_ e];simp(disch:=omega)only[t78,go_sem,aJ,Q_,C3,aD a]
  .rw[I_ e]at a;rw[l_ e];simp(disch:=omega)only[t78,go_sem,aJ,Q_,C3,aD a]
 .rw[l_ h,K6];refine aT t78 rfl rfl ?_;rcases(by omega:v.op<1\/25<v.op)with h1|h1 <;>
   simp(disch:=omega)only[t78,go_sem,aJ,Q_,C3]
def nC(op im:Int):Bool:=aI5 op im||decide ((26<=op/\op<=31)\/(64<=op/\op<=72))
theorem bQp(v:VI):TM.Pure K 48 [.iv (.agg (aJ v))] (.iv (.bool (nC v.op v.im))):=by
 have a:=bQo v;unfold nC;rw[cV]at a;refine aT t48 rfl rfl ?_;generalize aI5 v.op v.im=p at *
 cases p with
 |true =>rw[G2];simp(disch:=omega)only[t48,go_sem,aJ,Q_,C3,aD a]
 |false =>
  rw[G7];rcases(by omega:v.op<26\/(26<=v.op/\v.op<=31)\/(31<v.op/\v.op<64)\/(64<=v.op/\v.op<=72)\/72<v.op)with h|h|h|h|h;.rw[l_ A_];simp(disch:=omega)only[t48,go_sem,aJ,Q_,C3,aD a]
  .rw[V_ A_];simp(disch:=omega)only[t48,go_sem,aJ,Q_,C3,aD a]
  .rw[l_ A_];simp(disch:=omega)only[t48,go_sem,aJ,Q_,C3,aD a]
  .rw[V_ A_];simp(disch:=omega)only[t48,go_sem,aJ,Q_,C3,aD a]
  .rw[l_ A_];simp(disch:=omega)only[t48,go_sem,aJ,Q_,C3,aD a]
theorem bT8{S:aA}{j:Nat}{l ys:Ta_}{t:Tag}(h:S[j]?=some (.tok l.length 1 3))(c:l.length+ys.length<=2000000):bA false 1 8 3 S (.tsl j (aZ l)) (.iv (.sl t (aZ ys)))=some (.tsl j (aZ (l++ys)),S.set j (.tok (l.length+ys.length) 1 3)):=by have a:rO S (.iv (.sl t (aZ ys))) (aZ ys):=rO.sl ..;have:=aFk (b:=8) a (nB ys) (nB l) (by rw[eK];exact h) (bR (by rw[eK,eK];omega));rw[eK,eK,show aZ l++aZ ys=aZ (l++ys) by simp[aZ,TM.one]]at this;exact this
theorem bQq(n:Nat)(h:0<n/\n<=2000000)(S:aA):(lim K).call 77 [k_,j_ n] S=.ret (.tsl S.length [],S++[.tok 0 1 3]):=by
 have a:eA n 8=true:=bR A_;have e:¬(n:Int)<=0:=A_;have d:qU 1 8 3 S k_ (n:Int)=some (.rsv S.length [] n,S++[.tok 0 1 3]):=by simp[qU,oL,a,e,Int.toNat_natCast,show ¬n=0 by omega]
 have b:∀n:Int,n-(0-((0:Nat):Int))=n:=fun n=>A_;have c:aYv (aAu k_)=some (j_ 0):=id rfl;have e2:∀S:aA,fQ S (.sl 1) k_ none (some 0) none=some k_:=fun S=>rfl;have e3:∀(S:aA) (i n:Nat),fQ S (.sl 1) (.rsv i [] n) none (some 0) none=some (.tsl i []):=fun S i n=>rfl;have f:∀(S:aA) (i n:Nat),fQ S (.sl 1) (.rsv i [] n) none (some ((0:Nat):Int)) none=some (.tsl i []):=fun S i n=>rfl;refine aI K S (fn:=t77) rfl rfl ?_;simp(disch:=omega)only[t77,go_sem,c,e2,e3,f,aC,b,fun env=>bJd (env:=env) d]
def nD(p:Tag×List Int):List IV:=[.sl p.1 (aZ p.2)]
def vF:List (Tag×List Int)->Nat
 |[]=>0
 |p::r=>p.2.length+vF r
def aDb:List (Tag×List Int)->List Int
 |[]=>[]
 |p::r=>p.2++aDb r
theorem aL6:∀E:List (Tag×List Int),(aDb E).length=vF E
 |[]=>rfl
 |p::r=>by rw[aDb,vF,H_,aL6 r]
theorem bT9{E:List (Tag×List Int)}{i:Nat}(h:i<E.length):∃p,E.drop i=p::E.drop (i+1)/\indexAddrS 1 (.iv (.sl .full (E.map nD))) (i:Int)=some (.iv (.cp [.sl p.1 (aZ p.2)])):=by refine⟨E[i],A6 h,?_⟩;refine aO4 A_ ?_ rfl;rw[Int.toNat_natCast,p_,D_ h];rfl
theorem aT8(E:List (Tag×List Int))(n:E.length<=10)(j x4 x5 x10 x11 x12 x13 x14:TV)(S:aA):∀(k i z:Nat) (c x9 a:TV),i+k=E.length->z+vF (E.drop i)<=2000000 ->∃f e b:TV,lp' (lim K) t47L1 [.iv (.sl .full (E.map nD)),j,j_ z,c,x4,x5,.iv (.sl .full (E.map nD)),j_ E.length,j_ i,x9,a,x11,x12,x13,x14] S = .ret (.exit 0,[.iv (.sl .full (E.map nD)),j,j_ (z+vF (E.drop i):Nat),f,x4,x5,.iv (.sl .full (E.map nD)),j_ E.length,j_ E.length,e,b,x11,x12,x13,x14],S)
 |0,i,z,c,x9,a,h,hz=>by obtain rfl:i=E.length:=A_;rw[E0,vF,Nat.add_zero];refine⟨c,z_,a,aE K _ _ t47L1.eq_1 ?_⟩;simp(disch:=omega)only[go_sem]
 |k+1,i,z,c,x9,a,h,hz=>by have d:i<E.length:=A_;obtain⟨p,l,g⟩:=bT9 d;rw[l,vF]at hz |-;obtain⟨f,e,b,m⟩:=aT8 E n j x4 x5 x10 x11 x12 x13 x14 S k (i+1) (z+p.2.length) (.iv (.sl p.1 (aZ p.2))) e_ z_ A_ A_;rw[show((i+1:Nat):Int)=(i:Int)+1 by omega,show((z+p.2.length:Nat):Int)=(z:Int)+(p.2.length:Int) by omega,G3]at m;refine⟨f,e,b,aE K _ _ t47L1.eq_1 ?_⟩;simp(disch:=omega)only[go_sem,g,eK,aC];exact X_ er m
theorem aT9(E:List (Tag×List Int))(o:E.length<=10)(j:Nat)(e x2 b x6 x7 x8 x9 x10:TV):∀(k i:Nat) (l:Ta_) (S:aA) (x5 x14:TV),i+k=E.length->S[j]?=some (.tok l.length 1 3)->l.length+vF (E.drop i)<=2000000 ->∃g a:TV,lp' (lim K) t47L0 [.iv (.sl .full (E.map nD)),e,x2,b,.tsl j (aZ l),x5,x6,x7,x8,x9,x10,.iv (.sl .full (E.map nD)),j_ E.length,j_ i,x14] S = .ret (.exit 2,[.iv (.sl .full (E.map nD)),e,x2,b,.tsl j (aZ (l++aDb (E.drop i))),g,x6,x7,x8,x9,x10,.iv (.sl .full (E.map nD)),j_ E.length,j_ E.length,a],S.set j (.tok (l.length+vF (E.drop i)) 1 3))
 |0,i,l,S,x5,x14,h,hS,hz=>by obtain rfl:i=E.length:=A_;rw[E0,vF,aDb,Nat.add_zero,A4,jU hS];refine⟨x5,z_,aE K _ _ t47L0.eq_1 ?_⟩;simp(disch:=omega)only[go_sem]
 |k+1,i,l,S,x5,x14,h,hS,hz=>by have c:i<E.length:=A_;obtain⟨p,f,d⟩:=bT9 c;rw[f,vF]at hz |-;rw[aDb];have n:=bT8 (ys:=p.2) (t:=p.1) hS A_;obtain⟨g,a,m⟩:=aT9 E o j e x2 b x6 x7 x8 x9 x10 k (i+1) (l++p.2) (S.set j (.tok (l.length+p.2.length) 1 3)) (.iv (.sl p.1 (aZ p.2))) e_ A_ (by rw[aM (aN hS),H_]) (by rw[H_];omega);rw[show((i+1:Nat):Int)=(i:Int)+1 by omega,G9,H_,A9,G3]at m;refine⟨g,a,aE K _ _ t47L0.eq_1 ?_⟩;simp(disch:=omega)only[go_sem,d,n,aC];exact X_ er m
theorem bCq(E:List (Tag×List Int))(e:E.length<=10)(i:0<vF E)(c:vF E<=2000000)(S:aA):(lim K).call 47 [.iv (.sl .full (E.map nD))] S=.ret (.tsl S.length (aZ (aDb E)),S++[.tok (aDb E).length 1 3]):=by obtain⟨h,g,b,d⟩:=aT8 E e k_ u_ u_ u_ u_ u_ u_ u_ S E.length 0 0 u_ u_ u_ A_ (by simpa using c);rw[C4,A7,n0_]at d;have a:=bQq (vF E) ⟨i,c⟩ S;have j:(S++[.tok 0 1 3])[S.length]?=some (.tok ([]:Ta_).length 1 3):=B_;obtain⟨l,k,l2⟩:=aT9 E e S.length k_ (j_ (vF E:Nat)) h (.iv (.sl .full (E.map nD))) (j_ E.length) (j_ E.length) g b E.length 0 [] _ u_ u_ A_ j (by simpa using c);rw[C4,List.nil_append,n0_,show aZ []=[] from rfl,E3 _ _ (O_ _),M8,List.set_cons_zero,List.length_nil,A7]at l2;rw[aL6];refine aI K S (fn:=t47) rfl rfl ?_;have f:(E.map nD).length=E.length:=L_ _;simp(disch:=omega)only[t47,go_sem,f];rw[d];simp(disch:=omega)only[go_sem,a,f];rw[l2];simp(disch:=omega)only[go_sem]
def bxF(fn rg sl nd pr:Int)(rs:Bool)(ti:Tag)(ins:List VI):aG:=.cells 25 false [.iv (.int .i64 fn),.iv (.int .i64 rg),.iv (.int .i64 sl),.iv (.int .i64 nd),.iv (.int .i64 pr),.iv (.bool rs),.iv (.sl ti (ins.map aJ))]
theorem bQr{fn rg sl nd pr:Int}{rs:Bool}{ti:Tag}{ins:List VI}{S:aA}(h:S[0]?=some (bxF fn rg sl nd pr rs ti ins))(x:Int):(lim K).call 49 [j_ x,.ptr 0 25 0] S=.ret (.iv (.bool (decide (x<0\/rg<=x))),S):=by
 unfold bxF at h;refine aI K S (fn:=t49) rfl rfl ?_;rcases(by omega:x<0\/(0<=x/\rg<=x)\/(0<=x/\x<rg))with h1|h1|h1;.rw[V_ (.inl h1)];simp(disch:=omega)only[t49,go_sem,h]
 .rw[V_ (.inr h1.2)];simp(disch:=omega)only[t49,go_sem,h]
 .rw[l_ A_];simp(disch:=omega)only[t49,go_sem,h]
theorem bKw{j:Nat}{l:Ta_}{i:Nat}(h:i<l.length):indexAddrS 1 (.tsl j (aZ l)) (i:Int)=some (.iv (.cp [.int .i64 (l.getD i 0)])):=by have a:=pI (f:=IV.int .i64) (t:=.no) (l:=l) (i:=(i:Int)) A_;rw[Int.toNat_natCast]at a;exact a
def nE(rg x:Int):Bool:=decide (x<0\/rg<=x)
theorem aUa{fn rg sl nd pr:Int}{rs:Bool}{ti:Tag}{ins:List VI}{S:aA}(h:S[0]?=some (bxF fn rg sl nd pr rs ti ins))(j:Nat)(l:Ta_)(u:l.length<=3000000):∀(k i:Nat) (x2 e x6 x7:TV),i+k=l.length->(∀x∈l.take i,nE rg x=false) ->∃(d:aW) (f o p m n:TV),lp' (lim K) t50L0 [.tsl j (aZ l),.fn 49 [] [.ptr 0 25 0],x2,e,j_ l.length,j_ i,x6,x7] S = .ret (d,[.tsl j (aZ l),.fn 49 [] [.ptr 0 25 0],f,o,j_ l.length,p,m,n],S) /\(d=.exit 0/\l.any (nE rg)=false\/d=.ret/\l.any (nE rg)=true/\∃q:Nat,f=j_ q)
 |0,i,x2,e,x6,x7,hk,hq=>by
  obtain rfl:i=l.length:=A_;rw[B9]at hq;refine⟨.exit 0,x2,e,j_ l.length,z_,x7,aE K _ _ t50L0.eq_1 ?_,.inl ⟨rfl,?_⟩⟩;.simp(disch:=omega)only[go_sem]
  .rw[t_];intro x c;rw[hq x c];simp
 |k+1,i,x2,e,x6,x7,hk,hq=>by
  have b:i<l.length:=A_;have r:=bKw (j:=j) b;have a:=bQr h (l.getD i 0);have g:=iR b;cases hd:nE rg (l.getD i 0)with
  |true =>rw[show decide (l.getD i 0<0\/rg<=l.getD i 0)=true from hd]at a;refine⟨.ret,j_ i,j_ i,j_ i,e_,e_,aE K _ _ t50L0.eq_1 ?_,.inr ⟨rfl,E8.2 ⟨_,nU b,hd⟩,i,rfl⟩⟩;simp(disch:=omega)only[go_sem,r,a]
  |false =>
   rw[show decide (l.getD i 0<0\/rg<=l.getD i 0)=false from hd]at a;obtain⟨d,f,o,p,m,n,s,t⟩:=aUa h j l u k (i+1) x2 (j_ i) e_ z_ A_ (fun x c=>by
    rw[g,a_,U_]at c;rcases c with c|rfl;.exact hq x c
    .exact hd)
   rw[show((i+1:Nat):Int)=(i:Int)+1 by omega]at s;refine⟨d,f,o,p,m,n,aE K _ _ t50L0.eq_1 ?_,t⟩;simp(disch:=omega)only[go_sem,r,a,aC];exact X_ er s
theorem bCr{fn rg sl nd pr:Int}{rs:Bool}{ti:Tag}{ins:List VI}{S:aA}(h:S[0]?=some (bxF fn rg sl nd pr rs ti ins))(j:Nat)(l:Ta_)(e:l.length<=3000000):(lim K).call 22 [.tsl j (aZ l),.fn 49 [] [.ptr 0 25 0]] S=.ret (.iv (.bool (l.any (nE rg))),S):=by
 obtain⟨f,m,g,n,k,i,d,b⟩:=aUa h j l e l.length 0 (j_ 0) u_ u_ u_ A_ B_;rw[n0_]at d;have c:(aZ l).length=l.length:=eK l;rcases b with⟨rfl,b⟩|⟨rfl,b,q,rfl⟩
 .have a:(lim K).call 50 [.tsl j (aZ l),.fn 49 [] [.ptr 0 25 0]] S=.ret (j_ (-1),S):=by refine aI K S (fn:=t50) rfl rfl ?_;simp(disch:=omega)only[t50,go_sem,c];rw[d];simp(disch:=omega)only[go_sem]
  rw[b];refine aI K S (fn:=t22) rfl rfl ?_;simp(disch:=omega)only[t22,go_sem,a]
 .have a:(lim K).call 50 [.tsl j (aZ l),.fn 49 [] [.ptr 0 25 0]] S=.ret (j_ q,S):=by refine aI K S (fn:=t50) rfl rfl ?_;simp(disch:=omega)only[t50,go_sem,c];rw[d];simp(disch:=omega)only[go_sem]
  rw[b];refine aI K S (fn:=t22) rfl rfl ?_;simp(disch:=omega)only[t22,go_sem,a]
theorem dT(l:Td_)(c:Nat)(k:Int):lkB (.leaf .int) (.int .i64 0) false (some (.mp (mpR vI l) c)) (j_ k)=some (j_ (lR l k)):=by rw[aAj];simp only[lR,b_,↓reduceIte];cases dK l k<;>rfl
theorem bCs(l:Td_)(c:Nat)(env:Env)(S:aA)(j:Nat)(k a:Int):upB (.leaf .int) env S j (some (.mp (mpR vI l) c)) (j_ k) (j_ a)=some (TM.undef,env,S.set j (.mp (mpR vI (gV l c k a)) (rP l c k))) :=
 bJb vI l c env S j k a rfl rfl
def oK(l:List VI)(L:Int):Int:=((l.filter fun x=>decide (x.op=65)&&decide (x.lb=L)).length:Nat)
theorem aW0(l:List VI)(x:VI)(L:Int):oK (l++[x]) L=if x.op=65/\x.lb=L then oK l L+1 else oK l L:=by
 unfold oK;rw[I5,H_];by_cases e:x.op=65/\x.lb=L;.rw[K_ e];simp[e]
 .rw[I_ e];have:(decide (x.op=65)&&decide (x.lb=L))=false:=by
   cases h1:(decide (x.op=65)&&decide (x.lb=L))with
   |false=>rfl
   |true=>simp at h1;exact absurd h1 e
  simp[E4,this]
theorem bKx(l:List VI)(L:Int):0<=oK l L/\oK l L<=l.length:=by unfold oK;have:=D8 (fun x:VI=>decide (x.op=65)&&decide (x.lb=L)) l;omega
theorem aI6{fn rg sl nd pr:Int}{rs:Bool}{ti:Tag}{ins:List VI}(D:ins.length<=1000000)(x0 y x2 x5 x6 x7 x8 x14 x15 x16 j q p m o:TV):∀(k i:Nat) (S:aA) (a:Td_) (c:Nat) (x4 x12 x13:TV),i+k=ins.length->S[0]?=some (bxF fn rg sl nd pr rs ti ins)->S[1]?=some (.mp (mpR vI a) c)->(∀L,lR a L=oK (ins.take i) L) ->∃(S':aA) (b:Td_) (c':Nat) (u d g:TV),lp' (lim K) t20L1 [x0,y,x2,.map 1,x4,x5,x6,x7,x8,.iv (.sl ti (ins.map aJ)),j_ ins.length,j_ i,x12,x13,x14,x15,x16,j,q,p,m,o] S = .ret (.exit 0,[x0,y,x2,.map 1,u,x5,x6,x7,x8,.iv (.sl ti (ins.map aJ)),j_ ins.length,j_ ins.length,d,g,x14,x15,x16,j,q,p,m,o],S') /\S'[0]?=some (bxF fn rg sl nd pr rs ti ins)/\S'[1]?=some (.mp (mpR vI b) c')/\∀L,lR b L=oK ins L
 |0,i,S,a,c,x4,x12,x13,h,h0,h1,hc=>by obtain rfl:i=ins.length:=A_;rw[B9]at hc;refine⟨S,a,c,x4,z_,x13,aE K _ _ t20L1.eq_1 ?_,h0,h1,hc⟩;simp(disch:=omega)only[go_sem]
 |k+1,i,S,a,c,x4,x12,x13,h,h0,h1,hc=>by
  have s:i<ins.length:=A_;have n:=gC (w:=8) (f:=aJ) eZ (t:=ti) (l:=ins) (i:=(i:Int)) A_;rw[Int.toNat_natCast]at n;have z:ins.take (i+1)=ins.take i++[ins.getD i default]:=by rw[H0,D_ s];simp[List.getD,D_ s]
  have r:=fun L=>aW0 (ins.take i) (ins.getD i default) L;rw[<-z]at r;have A:=bKx (ins.take i) (ins.getD i default).lb;rw[K0]at A;generalize ins.getD i default=x at *
  rw[cV]at n;by_cases hop:x.op=65
  .obtain⟨S',b,c',u,d,g,v,C⟩:=aI6 (fn:=fn) (rg:=rg) (sl:=sl) (nd:=nd) (pr:=pr) (rs:=rs) (ti:=ti) D x0 y x2 x5 x6 x7 x8 x14 x15 x16 j q p m o k (i+1) (S.set 1 (.mp (mpR vI (gV a c x.lb (lR a x.lb+1))) (rP a c x.lb))) _ _ (.lb ((aJ x).map .iv)) e_ e_ A_ (by rw[aB C_];exact h0) (aM (aN h1) _) (fun L=>by
    rw[r L];unfold lR;rw[qI];by_cases e:x.lb=L;.subst e;rw[K_ rfl,K_ ⟨hop,rfl⟩,<-hc];rfl
    .rw[I_ e,I_ (fun h=>e h.2),<-hc];rfl)
   rw[show((i+1:Nat):Int)=(i:Int)+1 by omega,aS]at v;refine⟨S',b,c',u,d,g,aE K _ _ t20L1.eq_1 ?_,C⟩;have E:=hc x.lb;have F:IntKind.i64.wrap (lR a x.lb+1)=lR a x.lb+1:=aC A_;simp(disch:=omega)only[go_sem,n,h1,dT,bCs,F,aC];exact X_ er v
  .obtain⟨S',b,c',u,d,g,v,C⟩:=aI6 (fn:=fn) (rg:=rg) (sl:=sl) (nd:=nd) (pr:=pr) (rs:=rs) (ti:=ti) D x0 y x2 x5 x6 x7 x8 x14 x15 x16 j q p m o k (i+1) S a c (.lb ((aJ x).map .iv)) e_ z_ A_ h0 h1 (fun L=>by rw[r L,I_ (fun h=>hop h.1)];exact hc L);rw[show((i+1:Nat):Int)=(i:Int)+1 by omega,aS]at v;refine⟨S',b,c',u,d,g,aE K _ _ t20L1.eq_1 ?_,C⟩;simp(disch:=omega)only[go_sem,n,aC];exact X_ er v
def bS(x:VI):List Int:=x.a::x.b::x.us++(if x.op≠67\/0<=x.d then [x.d]else [])
def fR(x:VI):Bool:=decide (26<=x.op/\x.op<=31)||decide (x.op=66)||decide (x.op=65)
def qM(rg:Int)(ins:List VI)(x:VI):Bool:=!nC x.op x.im||((bS x).any (nE rg)||(fR x&&decide (oK ins x.lb≠1)))
theorem aUb{fn rg sl nd pr:Int}{rs:Bool}{ti:Tag}{ins:List VI}(hn:ins.length<=1000000)(h4:∀x∈ins,x.us.length<=999990/\cB x.tu x.us){Q:Td_}{c:Nat}(hc:∀L,lR Q L=oK ins L)(x0 x4 x8 x9 x10 x11 x12 x13 V T:TV):∀(k i:Nat) (S:aA) (x2 x5 x6 x7 R P N:TV),i+k=ins.length->S[0]?=some (bxF fn rg sl nd pr rs ti ins)->S[1]?=some (.mp (mpR vI Q) c) ->∃(S':aA) (z:aW) (A E F D u r s q:TV),lp' (lim K) t20L0 [x0,.ptr 0 25 0,x2,.map 1,x4,x5,x6,x7,x8,x9,x10,x11,x12,x13,.iv (.sl ti (ins.map aJ)),j_ ins.length,j_ i,R,P,N,V,T] S = .ret (z,[x0,.ptr 0 25 0,A,.map 1,x4,E,F,D,x8,x9,x10,x11,x12,x13,.iv (.sl ti (ins.map aJ)),j_ ins.length,u,r,s,q,V,T],S') /\S'[0]?=some (bxF fn rg sl nd pr rs ti ins)/\(z=.exit 2/\(ins.drop i).any (qM rg ins)=false\/z=.ret/\A=j_ 2/\(ins.drop i).any (qM rg ins)=true)
 |0,i,S,x2,x5,x6,x7,R,P,N,h,h0,h1=>by obtain rfl:i=ins.length:=A_;rw[E0];refine⟨S,.exit 2,x2,x5,x6,x7,j_ ins.length,z_,P,N,aE K _ _ t20L0.eq_1 ?_,h0,.inl ⟨rfl,rfl⟩⟩;simp(disch:=omega)only[go_sem]
 |k+1,i,S,x2,x5,x6,x7,R,P,N,h,h0,h1=>by
  have Y:i<ins.length:=A_;have j:=gC (w:=8) (f:=aJ) eZ (t:=ti) (l:=ins) (i:=(i:Int)) A_;rw[Int.toNat_natCast]at j;have h7:=aC0 Y;obtain⟨h9,h8⟩:=h4 (ins.getD i default) (by simp only[List.getD,D_ Y,Option.getD_some];exact B8 _);have m:=bQp (ins.getD i default);have C:=fun S x2 x5 x6 x7 R P N=>aUb (fn:=fn) (rg:=rg) (sl:=sl) (nd:=nd) (pr:=pr) (rs:=rs) (ti:=ti) (c:=c) hn h4 hc x0 x4 x8 x9 x10 x11 x12 x13 V T k (i+1) S x2 x5 x6 x7 R P N A_;rw[h7,List.any_cons];have o:=hc (ins.getD i default).lb;generalize ins.getD i default=x at *
  have n:=bCq [(.full,[x.a,x.b]),(x.tu,x.us)] B_ (show 0<2+(x.us.length+0) by omega) (show 2+(x.us.length+0)<=2000000 by omega) S;have h5:aDb [(.full,[x.a,x.b]),(x.tu,x.us)]=x.a::x.b::x.us:=by simp[aDb]
  rw[h5,show [((.full:Tag),[x.a,x.b]),(x.tu,x.us)].map nD=[[.sl .full [[.int .i64 x.a],[.int .i64 x.b]]],[.sl x.tu (TM.one (.int .i64) x.us)]] from rfl]at n;have h6:(S++[aG.tok (x.a::x.b::x.us).length 1 3])[S.length]?=some (.tok (x.a::x.b::x.us).length 1 3):=B_;have v:=bT8 (ys:=[x.d]) (t:=.full) h6 (by simp;omega);rw[show aZ [x.d]=[[.int .i64 x.d]] from rfl]at v;have k1:bL [] S (S++[aG.tok (x.a::x.b::x.us).length 1 3]):=bL.app _ _ _;have n0:0<S.length:=aN h0;have n1:1<S.length:=aN h1;have z0:=aR h0 [aG.tok (x.a::x.b::x.us).length 1 3];have Z:=aR h1 [aG.tok (x.a::x.b::x.us).length 1 3];have p:((S++[aG.tok (x.a::x.b::x.us).length 1 3]).set S.length (aG.tok ((x.a::x.b::x.us).length+[x.d].length) 1 3))[0]?=some (bxF fn rg sl nd pr rs ti ins):=by rw[aB A_];exact z0
  have g:((S++[aG.tok (x.a::x.b::x.us).length 1 3]).set S.length (aG.tok ((x.a::x.b::x.us).length+[x.d].length) 1 3))[1]?=some (.mp (mpR vI Q) c):=by rw[aB A_];exact Z
  have W:=bCr z0 S.length (x.a::x.b::x.us) (by simp;omega);have e:=bCr p S.length ((x.a::x.b::x.us)++[x.d]) (by simp;omega);rw[cV]at j m;have h2:qM rg ins x=(!nC x.op x.im||((bS x).any (nE rg)||(fR x&&decide (oK ins x.lb≠1)))):=rfl;rw[h2];generalize hfm:nC x.op x.im=fm at *
  generalize hcn:oK ins x.lb=cn at *
  generalize hR1:(x.a::x.b::x.us:Ta_)=R1 at *
  generalize hT1:S++[aG.tok R1.length 1 3]=T1 at *
  generalize hT2:T1.set S.length (.tok (R1.length+[x.d].length) 1 3)=T2 at *
  by_cases hA:x.op=67/\x.d<0
  .obtain⟨hb,he⟩:=hA;have I:bS x=R1:=by rw[<-hR1];unfold bS;rw[I_ A_,A4]
   have J:fR x=false:=by unfold fR;simp;omega
   rw[I,J];generalize (R1).any (nE rg)=an at *
   cases fm with
   |false =>refine⟨T1,.ret,j_ 2,.lb ((aJ x).map .iv),.tsl S.length (aZ (R1)),z_,j_ i,e_,z_,e_,aE K _ _ t20L0.eq_1 ?_,z0,.inr ⟨rfl,rfl,rfl⟩⟩;rw[aS];simp(disch:=omega)only[go_sem,j,n,v,aD m,Z,dT,W,o,aC]
   |true =>
    cases an with
    |true =>refine⟨T1,.ret,j_ 2,.lb ((aJ x).map .iv),.tsl S.length (aZ (R1)),z_,j_ i,e_,z_,e_,aE K _ _ t20L0.eq_1 ?_,z0,.inr ⟨rfl,rfl,rfl⟩⟩;rw[aS];simp(disch:=omega)only[go_sem,j,n,v,aD m,Z,dT,W,o,aC]
    |false =>
     obtain⟨S',z,A,E,F,D,u,r,s,q,y,H,G⟩:=C T1 x2 (.lb ((aJ x).map .iv)) (.tsl S.length (aZ (R1))) z_ e_ z_ z_ z0 Z;rw[show((i+1:Nat):Int)=(i:Int)+1 by omega,aS]at y;refine⟨S',z,A,E,F,D,u,r,s,q,aE K _ _ t20L0.eq_1 ?_,H,?_⟩;.simp(disch:=omega)only[go_sem,j,n,v,aD m,Z,dT,W,o,aC];exact X_ er y
     .simpa  using G
  .have U:x.op≠67\/0<=x.d:=A_;by_cases hB:x.op=67
   .have hd:0<=x.d:=A_;have I:bS x=R1++[x.d]:=by rw[<-hR1];unfold bS;rw[K_ U]
    have J:fR x=false:=by unfold fR;simp;omega
    rw[I,J];generalize (R1++[x.d]).any (nE rg)=an at *
    cases fm with
    |false =>refine⟨T2,.ret,j_ 2,.lb ((aJ x).map .iv),.tsl S.length (aZ (R1++[x.d])),z_,j_ i,e_,e_,e_,aE K _ _ t20L0.eq_1 ?_,p,.inr ⟨rfl,rfl,rfl⟩⟩;rw[aS];simp(disch:=omega)only[go_sem,j,n,v,aD m,g,dT,e,o,aC]
    |true =>
     cases an with
     |true =>refine⟨T2,.ret,j_ 2,.lb ((aJ x).map .iv),.tsl S.length (aZ (R1++[x.d])),z_,j_ i,e_,e_,e_,aE K _ _ t20L0.eq_1 ?_,p,.inr ⟨rfl,rfl,rfl⟩⟩;rw[aS];simp(disch:=omega)only[go_sem,j,n,v,aD m,g,dT,e,o,aC]
     |false =>
      obtain⟨S',z,A,E,F,D,u,r,s,q,y,H,G⟩:=C T2 x2 (.lb ((aJ x).map .iv)) (.tsl S.length (aZ (R1++[x.d]))) z_ e_ e_ z_ p g;rw[show((i+1:Nat):Int)=(i:Int)+1 by omega,aS]at y;refine⟨S',z,A,E,F,D,u,r,s,q,aE K _ _ t20L0.eq_1 ?_,H,?_⟩;.simp(disch:=omega)only[go_sem,j,n,v,aD m,g,dT,e,o,aC];exact X_ er y
      .simpa  using G
   .rcases(by omega:x.op<26\/(26<=x.op/\x.op<=31)\/(31<x.op/\x.op<65)\/x.op=65\/x.op=66\/67<x.op)with hC|hC|hC|hC|hC|hC
    .have I:bS x=R1++[x.d]:=by rw[<-hR1];unfold bS;rw[K_ U]
     have J:fR x=false:=by unfold fR;simp;omega
     rw[I,J];generalize (R1++[x.d]).any (nE rg)=an at *
     cases fm with
     |false =>refine⟨T2,.ret,j_ 2,.lb ((aJ x).map .iv),.tsl S.length (aZ (R1++[x.d])),z_,j_ i,e_,e_,e_,aE K _ _ t20L0.eq_1 ?_,p,.inr ⟨rfl,rfl,rfl⟩⟩;rw[aS];simp(disch:=omega)only[go_sem,j,n,v,aD m,g,dT,e,o,aC]
     |true =>
      cases an with
      |true =>refine⟨T2,.ret,j_ 2,.lb ((aJ x).map .iv),.tsl S.length (aZ (R1++[x.d])),z_,j_ i,e_,e_,e_,aE K _ _ t20L0.eq_1 ?_,p,.inr ⟨rfl,rfl,rfl⟩⟩;rw[aS];simp(disch:=omega)only[go_sem,j,n,v,aD m,g,dT,e,o,aC]
      |false =>
       obtain⟨S',z,A,E,F,D,u,r,s,q,y,H,G⟩:=C T2 x2 (.lb ((aJ x).map .iv)) (.tsl S.length (aZ (R1++[x.d]))) z_ e_ e_ z_ p g;rw[show((i+1:Nat):Int)=(i:Int)+1 by omega,aS]at y;refine⟨S',z,A,E,F,D,u,r,s,q,aE K _ _ t20L0.eq_1 ?_,H,?_⟩;.simp(disch:=omega)only[go_sem,j,n,v,aD m,g,dT,e,o,aC];exact X_ er y
       .simpa  using G
    .have I:bS x=R1++[x.d]:=by rw[<-hR1];unfold bS;rw[K_ U]
     have J:fR x=true:=by unfold fR;simp;omega
     rw[I,J];generalize (R1++[x.d]).any (nE rg)=an at *
     cases fm with
     |false =>refine⟨T2,.ret,j_ 2,.lb ((aJ x).map .iv),.tsl S.length (aZ (R1++[x.d])),e_,j_ i,e_,e_,e_,aE K _ _ t20L0.eq_1 ?_,p,.inr ⟨rfl,rfl,rfl⟩⟩;rw[aS];simp(disch:=omega)only[go_sem,j,n,v,aD m,g,dT,e,o,aC]
     |true =>
      cases an with
      |true =>refine⟨T2,.ret,j_ 2,.lb ((aJ x).map .iv),.tsl S.length (aZ (R1++[x.d])),e_,j_ i,e_,e_,e_,aE K _ _ t20L0.eq_1 ?_,p,.inr ⟨rfl,rfl,rfl⟩⟩;rw[aS];simp(disch:=omega)only[go_sem,j,n,v,aD m,g,dT,e,o,aC]
      |false =>
       by_cases hc1:cn=1
       .subst hc1;obtain⟨S',z,A,E,F,D,u,r,s,q,y,H,G⟩:=C T2 x2 (.lb ((aJ x).map .iv)) (.tsl S.length (aZ (R1++[x.d]))) e_ e_ e_ z_ p g;rw[show((i+1:Nat):Int)=(i:Int)+1 by omega,aS]at y;refine⟨S',z,A,E,F,D,u,r,s,q,aE K _ _ t20L0.eq_1 ?_,H,?_⟩;.simp(disch:=omega)only[go_sem,j,n,v,aD m,g,dT,e,o,aC];exact X_ er y
        .simpa  using G
       .refine⟨T2,.ret,j_ 2,.lb ((aJ x).map .iv),.tsl S.length (aZ (R1++[x.d])),e_,j_ i,e_,e_,e_,aE K _ _ t20L0.eq_1 ?_,p,.inr ⟨rfl,rfl,by simp[hc1]⟩⟩;rw[aS];simp(disch:=omega)only[go_sem,j,n,v,aD m,g,dT,e,o,aC]
    .have I:bS x=R1++[x.d]:=by rw[<-hR1];unfold bS;rw[K_ U]
     have J:fR x=false:=by unfold fR;simp;omega
     rw[I,J];generalize (R1++[x.d]).any (nE rg)=an at *
     cases fm with
     |false =>refine⟨T2,.ret,j_ 2,.lb ((aJ x).map .iv),.tsl S.length (aZ (R1++[x.d])),z_,j_ i,e_,e_,e_,aE K _ _ t20L0.eq_1 ?_,p,.inr ⟨rfl,rfl,rfl⟩⟩;rw[aS];simp(disch:=omega)only[go_sem,j,n,v,aD m,g,dT,e,o,aC]
     |true =>
      cases an with
      |true =>refine⟨T2,.ret,j_ 2,.lb ((aJ x).map .iv),.tsl S.length (aZ (R1++[x.d])),z_,j_ i,e_,e_,e_,aE K _ _ t20L0.eq_1 ?_,p,.inr ⟨rfl,rfl,rfl⟩⟩;rw[aS];simp(disch:=omega)only[go_sem,j,n,v,aD m,g,dT,e,o,aC]
      |false =>
       obtain⟨S',z,A,E,F,D,u,r,s,q,y,H,G⟩:=C T2 x2 (.lb ((aJ x).map .iv)) (.tsl S.length (aZ (R1++[x.d]))) z_ e_ e_ z_ p g;rw[show((i+1:Nat):Int)=(i:Int)+1 by omega,aS]at y;refine⟨S',z,A,E,F,D,u,r,s,q,aE K _ _ t20L0.eq_1 ?_,H,?_⟩;.simp(disch:=omega)only[go_sem,j,n,v,aD m,g,dT,e,o,aC];exact X_ er y
       .simpa  using G
    .have I:bS x=R1++[x.d]:=by rw[<-hR1];unfold bS;rw[K_ U]
     have J:fR x=true:=by unfold fR;simp;omega
     rw[I,J];generalize (R1++[x.d]).any (nE rg)=an at *
     cases fm with
     |false =>refine⟨T2,.ret,j_ 2,.lb ((aJ x).map .iv),.tsl S.length (aZ (R1++[x.d])),e_,j_ i,e_,e_,e_,aE K _ _ t20L0.eq_1 ?_,p,.inr ⟨rfl,rfl,rfl⟩⟩;rw[aS];simp(disch:=omega)only[go_sem,j,n,v,aD m,g,dT,e,o,aC]
     |true =>
      cases an with
      |true =>refine⟨T2,.ret,j_ 2,.lb ((aJ x).map .iv),.tsl S.length (aZ (R1++[x.d])),e_,j_ i,e_,e_,e_,aE K _ _ t20L0.eq_1 ?_,p,.inr ⟨rfl,rfl,rfl⟩⟩;rw[aS];simp(disch:=omega)only[go_sem,j,n,v,aD m,g,dT,e,o,aC]
      |false =>
       by_cases hc1:cn=1
       .subst hc1;obtain⟨S',z,A,E,F,D,u,r,s,q,y,H,G⟩:=C T2 x2 (.lb ((aJ x).map .iv)) (.tsl S.length (aZ (R1++[x.d]))) e_ e_ e_ z_ p g;rw[show((i+1:Nat):Int)=(i:Int)+1 by omega,aS]at y;refine⟨S',z,A,E,F,D,u,r,s,q,aE K _ _ t20L0.eq_1 ?_,H,?_⟩;.simp(disch:=omega)only[go_sem,j,n,v,aD m,g,dT,e,o,aC];exact X_ er y
        .simpa  using G
       .refine⟨T2,.ret,j_ 2,.lb ((aJ x).map .iv),.tsl S.length (aZ (R1++[x.d])),e_,j_ i,e_,e_,e_,aE K _ _ t20L0.eq_1 ?_,p,.inr ⟨rfl,rfl,by simp[hc1]⟩⟩;rw[aS];simp(disch:=omega)only[go_sem,j,n,v,aD m,g,dT,e,o,aC]
    .have I:bS x=R1++[x.d]:=by rw[<-hR1];unfold bS;rw[K_ U]
     have J:fR x=true:=by unfold fR;simp;omega
     rw[I,J];generalize (R1++[x.d]).any (nE rg)=an at *
     cases fm with
     |false =>refine⟨T2,.ret,j_ 2,.lb ((aJ x).map .iv),.tsl S.length (aZ (R1++[x.d])),e_,j_ i,e_,e_,e_,aE K _ _ t20L0.eq_1 ?_,p,.inr ⟨rfl,rfl,rfl⟩⟩;rw[aS];simp(disch:=omega)only[go_sem,j,n,v,aD m,g,dT,e,o,aC]
     |true =>
      cases an with
      |true =>refine⟨T2,.ret,j_ 2,.lb ((aJ x).map .iv),.tsl S.length (aZ (R1++[x.d])),e_,j_ i,e_,e_,e_,aE K _ _ t20L0.eq_1 ?_,p,.inr ⟨rfl,rfl,rfl⟩⟩;rw[aS];simp(disch:=omega)only[go_sem,j,n,v,aD m,g,dT,e,o,aC]
      |false =>
       by_cases hc1:cn=1
       .subst hc1;obtain⟨S',z,A,E,F,D,u,r,s,q,y,H,G⟩:=C T2 x2 (.lb ((aJ x).map .iv)) (.tsl S.length (aZ (R1++[x.d]))) e_ e_ e_ z_ p g;rw[show((i+1:Nat):Int)=(i:Int)+1 by omega,aS]at y;refine⟨S',z,A,E,F,D,u,r,s,q,aE K _ _ t20L0.eq_1 ?_,H,?_⟩;.simp(disch:=omega)only[go_sem,j,n,v,aD m,g,dT,e,o,aC];exact X_ er y
        .simpa  using G
       .refine⟨T2,.ret,j_ 2,.lb ((aJ x).map .iv),.tsl S.length (aZ (R1++[x.d])),e_,j_ i,e_,e_,e_,aE K _ _ t20L0.eq_1 ?_,p,.inr ⟨rfl,rfl,by simp[hc1]⟩⟩;rw[aS];simp(disch:=omega)only[go_sem,j,n,v,aD m,g,dT,e,o,aC]
    .have I:bS x=R1++[x.d]:=by rw[<-hR1];unfold bS;rw[K_ U]
     have J:fR x=false:=by unfold fR;simp;omega
     rw[I,J];generalize (R1++[x.d]).any (nE rg)=an at *
     cases fm with
     |false =>refine⟨T2,.ret,j_ 2,.lb ((aJ x).map .iv),.tsl S.length (aZ (R1++[x.d])),z_,j_ i,e_,e_,e_,aE K _ _ t20L0.eq_1 ?_,p,.inr ⟨rfl,rfl,rfl⟩⟩;rw[aS];simp(disch:=omega)only[go_sem,j,n,v,aD m,g,dT,e,o,aC]
     |true =>
      cases an with
      |true =>refine⟨T2,.ret,j_ 2,.lb ((aJ x).map .iv),.tsl S.length (aZ (R1++[x.d])),z_,j_ i,e_,e_,e_,aE K _ _ t20L0.eq_1 ?_,p,.inr ⟨rfl,rfl,rfl⟩⟩;rw[aS];simp(disch:=omega)only[go_sem,j,n,v,aD m,g,dT,e,o,aC]
      |false =>
       obtain⟨S',z,A,E,F,D,u,r,s,q,y,H,G⟩:=C T2 x2 (.lb ((aJ x).map .iv)) (.tsl S.length (aZ (R1++[x.d]))) z_ e_ e_ z_ p g;rw[show((i+1:Nat):Int)=(i:Int)+1 by omega,aS]at y;refine⟨S',z,A,E,F,D,u,r,s,q,aE K _ _ t20L0.eq_1 ?_,H,?_⟩;.simp(disch:=omega)only[go_sem,j,n,v,aD m,g,dT,e,o,aC];exact X_ er y
       .simpa  using G
theorem ao0(l:Tq_):fY (.iv (.cp l)) 0=some (.iv (.cp l)):=by simp[fY]
theorem ao5(a b c d e f g h:IV):fY (.iv (.cp [a,b,c,d,e,f,g,h])) 5=some (.iv (.cp [f,g,h])):=by simp[fY]
theorem ao6(a b c d e f g h:IV):fY (.iv (.cp [a,b,c,d,e,f,g,h])) 6=some (.iv (.cp [g,h])):=by simp[fY]
attribute [go_sem] ao0 ao5 ao6
def gG(fn rg sl nd pr:Int)(rs:Bool)(ti:Tag)(ins:List VI):List IV:=[.int .i64 fn,.int .i64 rg,.int .i64 sl,.int .i64 nd,.int .i64 pr,.bool rs,.sl ti (ins.map aJ)]
def aI7(ins:List VI):Bool:=decide ((ins.getD (ins.length-1) default).op=66\/(ins.getD (ins.length-1) default).op=68\/(ins.getD (ins.length-1) default).op=72)
def aDc(rg sl nd pr:Int)(ins:List VI):Prop:=32<=rg/\0<=nd/\0<=sl/\0<=pr/\0<ins.length
instance (rg sl nd pr:Int) (ins:List VI):Decidable (aDc rg sl nd pr ins):=by unfold aDc;infer_instance
def sI(rg sl nd pr:Int)(ins:List VI):Bool:=decide (aDc rg sl nd pr ins)&&(!ins.any (qM rg ins)&&aI7 ins)
theorem aP9(fn rg sl nd pr:Int)(rs:Bool)(ti:Tag)(ins:List VI)(p:ins.length<=1000000)(o:∀x∈ins,x.us.length<=999990/\cB x.tu x.us):TM.Pure K 20 [.iv (.agg (gG fn rg sl nd pr rs ti ins))] (j_ (if sI rg sl nd pr ins then 0 else 2)):=by
 unfold sI;have a:(ins.map aJ).length=ins.length:=L_ _;by_cases hh:aDc rg sl nd pr ins
 .rw[V_ hh,Q8];obtain⟨G,E,h3,H,F⟩:=hh;obtain⟨S1,q,c,y,m,n,e,g,u,v⟩:=aI6 (fn:=fn) (rg:=rg) (sl:=sl) (nd:=nd) (pr:=pr) (rs:=rs) (ti:=ti) (ins:=ins) p (.iv (.agg (gG fn rg sl nd pr rs ti ins))) (.ptr 0 25 0) (j_ 0) u_ u_ u_ z_ u_ u_ u_ u_ u_ u_ u_ u_ ins.length 0 [bxF fn rg sl nd pr rs ti ins,.mp (mpR vI []) 0] [] 0 u_ u_ u_ A_ rfl rfl (fun L=>by simp[lR,dK,oK]);obtain⟨S2,D,J,Q,I,N,A,s,z,r,l2,k,j⟩:=aUb (fn:=fn) (rg:=rg) (sl:=sl) (nd:=nd) (pr:=pr) (rs:=rs) (ti:=ti) p o v (.iv (.agg (gG fn rg sl nd pr rs ti ins))) y z_ (.iv (.sl ti (ins.map aJ))) (j_ ins.length) (j_ ins.length) m n u_ u_ ins.length 0 S1 (j_ 0) u_ u_ u_ u_ u_ u_ A_ g u;rw[n0_]at e l2;rw[C4]at j;have P:ins.length-1<ins.length:=A_;have b:=gC (w:=8) (f:=aJ) eZ (t:=ti) (l:=ins) (i:=((ins.length:Int)-1)) A_;rw[show((ins.length:Int)-1).toNat=ins.length-1 by omega,cV]at b;unfold aI7;generalize ins.getD (ins.length-1) default=x at *
  unfold bxF at e g k;rw[show mpR vI []=[] from rfl]at e;rw[show gG fn rg sl nd pr rs ti ins=[.int .i64 fn,.int .i64 rg,.int .i64 sl,.int .i64 nd,.int .i64 pr,.bool rs,.sl ti (ins.map aJ)] from rfl]at e l2 |-;have d:¬((ins.length:Nat):Int)=0:=A_;rcases j with⟨rfl,j⟩|⟨rfl,rfl,j⟩
  .rw[j,P5,Q8];rcases(by omega:x.op=66\/x.op=68\/x.op=72\/(x.op≠66/\x.op≠68/\x.op≠72))with h|h|h|⟨ha,hb,hd⟩;.rw[V_ (.inl h),K_ rfl];refine aT t20 rfl rfl ?_;simp(disch:=omega)only[t20,go_sem,a,d];rw[e];simp(disch:=omega)only[go_sem,g,a];rw[l2];simp(disch:=omega)only[go_sem,k,a,b,aC]
   .rw[V_ (.inr (.inl h)),K_ rfl];refine aT t20 rfl rfl ?_;simp(disch:=omega)only[t20,go_sem,a,d];rw[e];simp(disch:=omega)only[go_sem,g,a];rw[l2];simp(disch:=omega)only[go_sem,k,a,b,aC]
   .rw[V_ (.inr (.inr h)),K_ rfl];refine aT t20 rfl rfl ?_;simp(disch:=omega)only[t20,go_sem,a,d];rw[e];simp(disch:=omega)only[go_sem,g,a];rw[l2];simp(disch:=omega)only[go_sem,k,a,b,aC]
   .rw[l_ A_,I_ C_];refine aT t20 rfl rfl ?_;simp(disch:=omega)only[t20,go_sem,a,d];rw[e];simp(disch:=omega)only[go_sem,g,a];rw[l2];simp(disch:=omega)only[go_sem,k,a,b,aC]
  .rw[j,E7,K6,I_ C_];refine aT t20 rfl rfl ?_;simp(disch:=omega)only[t20,go_sem,a,d];rw[e];simp(disch:=omega)only[go_sem,g,a];rw[l2];simp(disch:=omega)only[go_sem]
 .rw[l_ hh,K6,I_ C_];unfold aDc at hh;refine aT t20 rfl rfl ?_;unfold gG;rcases(by omega:rg<32\/(32<=rg/\nd<0)\/(32<=rg/\0<=nd/\sl<0)\/(32<=rg/\0<=nd/\0<=sl/\pr<0)\/(32<=rg/\0<=nd/\0<=sl/\0<=pr/\ins.length=0))with h|h|h|h|h;.simp(disch:=omega)only[t20,go_sem,a]
  .simp(disch:=omega)only[t20,go_sem,a]
  .simp(disch:=omega)only[t20,go_sem,a]
  .simp(disch:=omega)only[t20,go_sem,a]
  .have C:((ins.length:Nat):Int)=0:=A_;simp(disch:=omega)only[t20,go_sem,a,C]
theorem ixL{I:Te_}{n i:Nat}(h:i<n)(t:Tag):indexAddrS 1 (.iv (.sl t (bK I n))) (i:Int)=some (.iv (.cp [.sl (jL (aZ (wlI 0 (I i)))) (TM.one (.int .i64) (wlI 0 (I i)))])):=by refine aO4 A_ ?_ rfl;rw[Int.toNat_natCast];unfold bK;rw[p_,F0 h];rfl
theorem aDd{rg:Int}{ins:List VI}(h:ins.any (qM rg ins)=false){i:Nat}(e:i<ins.length)(b:fR (ins.getD i default)=true):∃q:Nat,dL ins (ins.getD i default).lb=some (q:Int)/\q<ins.length:=by
 have a:ins.getD i default∈ins:=by simp only[List.getD,D_ e,Option.getD_some];exact B8 _
 rw[t_]at h;have d:=h _ a;cases hf:dL ins (ins.getD i default).lb with
 |some k =>have:=aGx hf;exact⟨k.toNat,by rw[R7 this.1],by omega⟩
 |none =>
  exfalso;apply d;have c:oK ins (ins.getD i default).lb=0:=by unfold dL at hf;rw[Option.map_eq_none_iff,U6]at hf;unfold oK;rw[H6.2 (fun x a=>by rw[hf x a];simp)];rfl
  rw[show qM rg ins (ins.getD i default)=(!nC (ins.getD i default).op (ins.getD i default).im||((bS (ins.getD i default)).any (nE rg)||(fR (ins.getD i default)&&decide (oK ins (ins.getD i default).lb≠1)))) from rfl,b,c];simp
def mD(l:List VI)(i:Nat):List Int :=
 if(l.getD i default).op=68\/(l.getD i default).op=72 then []else
  (if(26<=(l.getD i default).op/\(l.getD i default).op<=31)\/(l.getD i default).op=66 then [(dL l (l.getD i default).lb).getD (-1)]else []) ++
  (if(l.getD i default).op≠66/\i+1<l.length then [(i:Int)+1]else [])
inductive LvR (ins:List VI) (r:Int):Nat->Prop
 |use {i:Nat} (h:r∈bF (ins.getD i default)):LvR ins r i
 |step {i:Nat} {k:Int} (hk:k∈mD ins i) (h:LvR ins r k.toNat) (hd:r∉aY (ins.getD i default)):LvR ins r i
theorem aDe{v:VI}{x:Int}(h:x∈bF v):0<x:=by
 unfold bF at h;repeat' split at h
 all_goals first|exact aIt h|cases h
theorem bKy{lb:Td_}{ins:List VI}(a:∀L,dK lb L=dL ins L){i:Nat}(b:(26<=(ins.getD i default).op/\(ins.getD i default).op<=31)\/(ins.getD i default).op=66->∃q:Nat,dL ins (ins.getD i default).lb=some (q:Int)/\q<ins.length):bhd lb ins i=(mD ins i).map Int.toNat:=by
 unfold bhd mD;split;.rfl
 .rw[E1];congr 1
  .split;.rename_i h;obtain⟨q,c,_⟩:=b h;unfold lR;rw[a,c];rfl
   .rfl
  .split;.rfl
   .rfl
theorem bQs{ins:List VI}{i:Nat}(b:(26<=(ins.getD i default).op/\(ins.getD i default).op<=31)\/(ins.getD i default).op=66->∃q:Nat,dL ins (ins.getD i default).lb=some (q:Int)/\q<ins.length):∀k∈mD ins i,0<=k/\k<ins.length:=by
 intro k a;unfold mD at a;split at a;.cases a
 .rw[a_]at a;rcases a with a|a
  .split at a;.rename_i h;obtain⟨q,c,d⟩:=b h;rw[c,Option.getD_some,U_]at a;omega
   .cases a
  .split at a;.rename_i h;rw[U_]at a;omega
   .cases a
section
variable {rg:Nat}{lb:List (Nat×Int×Int)}{ins:List VI}{I O U D:Nat->List Nat}(hbd:∀i,i<ins.length->bhd lb ins i=(mD ins i).map Int.toNat)(hbe:∀i,i<ins.length->∀k∈mD ins i,0<=k/\k<ins.length)(h2:∀j r,j<ins.length->(bit (U j) r=true↔(r:Int)∈bF (ins.getD j default)/\r<rg))(h3:∀j r,j<ins.length->(bit (D j) r=true↔(r:Int)∈aY (ins.getD j default)/\r<rg))
include hbd hbe h2 h3
theorem bUa{r i:Nat}(h:Lv lb ins U D r i):i<ins.length->LvR ins r i/\0<r/\r<rg:=by
 induction h with
 |use h =>intro d;obtain⟨a,b⟩:=(h2 _ r d).1 h;have:=aDe a;exact⟨.use a,by omega,b⟩
 |step hk h hd ih =>intro d;rw[hbd _ d,A0]at hk;obtain⟨z,e,rfl⟩:=hk;have g:=hbe _ d z e;obtain⟨a,b,c⟩:=ih A_;refine⟨.step e a fun f=>?_,b,c⟩;rw[(h3 _ r d).2 ⟨f,c⟩]at hd;cases hd
theorem bKz(c:∀j,j<ins.length->(∀r,bit (I j) r=eqn lb ins U D I j r)/\∀r,bit (O j) r=aBv lb ins I j r){r:Int}{i:Nat}(h:LvR ins r i)(k:r<rg):i<ins.length->0<=r/\bit (I i) r.toNat=true:=by
 induction h with
 |use h =>intro a;have l:=aDe h;refine⟨by omega,?_⟩;rw[(c _ a).1,eqn,(h2 _ r.toNat a).2 ⟨by rw[R7 A_];exact h,by omega⟩,G2]
 |@step jj kk hk h hd ih =>
  intro a;have g:=hbe _ a _ hk;obtain⟨d,f⟩:=ih A_;refine⟨d,?_⟩;have b:bit (D jj) r.toNat=false:=by
   cases e:bit (D jj) r.toNat with
   |false=>rfl
   |true =>have:=((h3 _ r.toNat a).1 e).1;rw[R7 d]at this;exact absurd this hd
  rw[(c _ a).1,eqn,b,P5,Z2,D3];right;unfold aBv;rw[hbd _ a];exact E8.2 ⟨_,A0.2 ⟨_,hk,rfl⟩,f⟩
end
theorem cW{C:Ta_}{x:Int}:x∈tdy C↔x∈C/\0<x:=(jM C).mem x
def zB(ins:List VI)(x:Int)(i:Nat):Prop:=∃k∈mD ins i,LvR ins x k.toNat
theorem aUc{lb:Td_}{ins:List VI}{I:Te_}{i r:Nat}(b:bhd lb ins i=(mD ins i).map Int.toNat):aBv lb ins I i r=true↔∃k∈mD ins i,bit (I k.toNat) r=true:=by
 unfold aBv;rw[b,E8];constructor;.rintro⟨k,c,h⟩;obtain⟨z,a,rfl⟩:=A0.1 c;exact⟨z,a,h⟩
 .rintro⟨z,a,h⟩;exact⟨_,A0.2 ⟨z,a,rfl⟩,h⟩
theorem aQa{f:VF}(P:f.regs<=100000)(Q:f.ins.length<=1000000)(u:∀x∈f.ins,x.us.length<=999990/\cB x.tu x.us)(o:sI f.regs f.sl f.nd f.pr f.ins=true): ∃I O:Nat->List Nat,TM.Pure K 21 [.iv (.agg (kY f))] (.tup [.iv (.sl (jL (bK I f.ins.length)) (bK I f.ins.length)),j_ 0]) /\TM.Pure K 13 [.iv (.agg (kY f))] (.tup [.iv (.sl (jL (bK O f.ins.length)) (bK O f.ins.length)),j_ 0]) /\∀i,i<f.ins.length->((wlI 0 (I i)).length<=f.regs+63/\(wlI 0 (O i)).length<=f.regs+63)/\(∀x,x∈wlI 0 (I i)↔1<=x/\x<f.regs/\LvR f.ins x i)/\(∀x,x∈wlI 0 (O i)↔1<=x/\x<f.regs/\zB f.ins x i):=by
 obtain⟨fn,rg,sl,nd,pr,rs,ti,ins⟩:=f;dsimp only at *
 have t:=aP9 fn rg sl nd pr rs ti ins A_ u;rw[o,K_ rfl]at t;have H:=o;unfold sI at o;simp only[P_,q_,D7]at o;obtain⟨⟨L,_,_,_,J⟩,r,A⟩:=o;obtain⟨lb,I,O,U,D,z,w,N,v,G,E,h3,y⟩:=bT7 (f:=⟨fn,rg,sl,nd,pr,rs,ti,ins⟩) (by show 32<=rg;omega) (by show rg<=_;omega) (by show ins.length<=_;omega) J u t;dsimp only at *
 have F:∀i,i<ins.length->(26<=(ins.getD i default).op/\(ins.getD i default).op<=31)\/(ins.getD i default).op=66->∃q:Nat,dL ins (ins.getD i default).lb=some (q:Int)/\q<ins.length:=fun i g h=>aDd r g (by
  unfold fR;rcases h with h|h;.rw[V_ h];rfl
  .rw[V_ h,L9,G2])
 have j:=fun i (g:i<ins.length)=>bKy (lb:=lb) (ins:=ins) G (i:=i) (F i g);have l:=fun i (g:i<ins.length)=>bQs (ins:=ins) (i:=i) (F i g);have key:∀(i:Nat) (x:Int),i<ins.length->((∃n:Nat,x=n/\bit (I i) n=true)↔1<=x/\x<rg/\LvR ins x i):=fun i x g=>by
  constructor;.rintro⟨n,rfl,m⟩;obtain⟨a,b,c⟩:=bUa j l E h3 (N.snd _ _ m) g;exact⟨by omega,by omega,a⟩
  .rintro⟨a,b,c⟩;obtain⟨d,e⟩:=bKz j l E h3 y c b g;exact⟨x.toNat,by omega,e⟩
 have p:∀W:List Nat,WOK ((rg+63) / 64) W->(wlI 0 W).length<=rg+63:=fun W h=>by have a:=aTv 0 W;rw[h.len]at a;omega
 refine⟨I,O,z,w,fun i g=>⟨⟨p _ (v i g).1,p _ (v i g).2⟩,fun x=>?_,fun x=>?_⟩⟩;.rw[bB9,key i x g]
 .rw[bB9];constructor;.rintro⟨n,rfl,m⟩;rw[(y i g).2,aUc (j i g)]at m;obtain⟨k,s,m⟩:=m;have C:=l i g k s;obtain⟨a,b,c⟩:=(key k.toNat n A_).1 ⟨n,rfl,m⟩;exact⟨a,b,k,s,c⟩
  .rintro⟨a,b,k,s,c⟩;have C:=l i g k s;obtain⟨n,e,m⟩:=(key k.toNat x A_).2 ⟨a,b,c⟩;exact⟨n,e,by rw[(y i g).2,aUc (j i g)];exact⟨k,s,m⟩⟩
def bV(σ:List Int)(n:Int):Option Nat:=σ.findIdx? fun x=>x==n
theorem nV{σ:Ta_}{n:Int}{k:Nat}(h:bV σ n=some k):σ[k]?=some n:=by unfold bV at h;obtain⟨b,a,_⟩:=F4.1 h;rw[D_ b];simp at a;rw[a]
theorem jA{σ:Ta_}{n:Int}:bV σ n=none↔n∉σ:=by
 unfold bV;rw[U6];constructor;.intro h b;have:=h n b;simp at this
 .intro h x a;simp only[S_,ne_eq];exact fun e=>h (e▸a)
theorem aW1{σ:Ta_}{n:Int}(h:n∈σ):∃k,bV σ n=some k:=by
 cases hs:bV σ n with
 |none=>exact absurd h (jA.1 hs)
 |some k=>exact⟨k,rfl⟩
theorem bCt{σ:Ta_}{n m:Int}{k:Nat}(h:bV σ n=some k)(g:bV σ m=some k):n=m:=by have b:=nV h;have a:=nV g;rw[b]at a;exact D6 a
def ldI(r:Int)(k:Nat):VI:=⟨73,r,0,0,k,0,.nil,[],.nil,[]⟩
def stI(r:Int)(k:Nat):VI:=⟨74,0,r,0,k,0,.nil,[],.nil,[]⟩
def qN(σ:List Int)(r n:Int):List VI×Int×Int:=match bV σ n with
 |none=>([],n,r)
 |some k=>([ldI r k],r,r+1)
def low(n:Int):Int:=if 32<=n then 0 else n
def opA(σ:List Int)(r:Int)(x:VI):List VI×Int×Int:=if x.a∈bF x then qN σ r x.a else([],low x.a,r)
def opB(σ:List Int)(r:Int)(x:VI):List VI×Int×Int :=
 if x.b∈bF x then(if x.b=x.a then([],(opA σ r x).2.1,(opA σ r x).2.2)else qN σ (opA σ r x).2.2 x.b)else([],low x.b,(opA σ r x).2.2)
def opD(σ:List Int)(r:Int)(x:VI):Int×List VI×Int :=
 if x.d∈aY x then(match bV σ x.d with
  |none=>(x.d,[],(opB σ r x).2.2)
  |some k=>((opB σ r x).2.2,[stI (opB σ r x).2.2 k],(opB σ r x).2.2+1))else(low x.d,[],(opB σ r x).2.2)
def zC(t:Tag)(l:List Int):Tag:=if l=[]then(if t=.nil then .nil else .full)else .no
def eR(σ:List Int)(r:Int)(x:VI):VI:={x with a:=(opA σ r x).2.1,b:=(opB σ r x).2.1,d:=(opD σ r x).1,tu:=zC x.tu x.us}
def bZ(σ:List Int)(r:Int)(x:VI):List VI:=(opA σ r x).1++(opB σ r x).1
def fH(σ:List Int)(r:Int)(x:VI):List VI:=(opD σ r x).2.1
def dM(σ:List Int)(r:Int)(x:VI):List VI:=bZ σ r x++eR σ r x::fH σ r x
def eL(σ:List Int)(r:Int)(x:VI):Int:=(opD σ r x).2.2
def rwM(σ:List Int):Int->List VI->List (List VI)
 |_,[]=>[]
 |r,x::l=>dM σ r x::rwM σ (eL σ r x) l
def rwR(σ:List Int):Int->List VI->Int
 |r,[]=>r
 |r,x::l=>rwR σ (eL σ r x) l
theorem aQb(σ:Ta_):∀(r:Int) (l:List VI),(rwM σ r l).length=l.length
 |_,[]=>rfl
 |r,x::l=>by rw[rwM,List.length_cons,List.length_cons,aQb σ _ l]
def cnt(σ:List Int):Int->List VI->Nat->Int
 |r,_,0=>r
 |r,[],_+1=>r
 |r,x::l,c+1=>cnt σ (eL σ r x) l c
theorem aI8(σ:Ta_):∀(r:Int) (l:List VI) (c:Nat),c<l.length->(rwM σ r l)[c]?=some (dM σ (cnt σ r l c) (l.getD c default))
 |r,[],c,h=>by simp at h
 |r,x::l,0,h=>by rw[rwM,cnt];rfl
 |r,x::l,c+1,h=>by rw[rwM,cnt,List.getElem?_cons_succ,aI8 σ _ l c (by simpa using h)];rfl
def cL(L:List (List VI))(c:Nat):Nat:=((L.take c).map List.length).sum
theorem aW2{L:List (List VI)}{c:Nat}{B:List VI}(h:L[c]?=some B):cL L (c+1)=cL L c+B.length:=by unfold cL;rw[H0,h,Option.toList,E1,List.sum_append];simp
theorem uL:∀(L:List (List VI)) (c j:Nat) (B:List VI),L[c]?=some B->j<B.length->L.flatten[cL L c+j]?=B[j]?
 |[],c,j,B,h,_=>by simp at h
 |A::L,0,j,B,h,hj=>by simp at h;subst h;rw[List.flatten_cons,show cL (A::L) 0=0 from rfl,A7,Y_ hj]
 |A::L,c+1,j,B,h,hj=>by
  have e:cL (A::L) (c+1)=A.length+cL L c:=by unfold cL;rw[List.take_succ_cons,Q_,List.sum_cons]
  rw[List.flatten_cons,e,r_ A_,show A.length+cL L c+j-A.length=cL L c+j by omega];exact uL L c j B (by simpa using h) hj
theorem aGz:∀(L:List (List VI)) (k:Nat),k<L.flatten.length->∃c j B,L[c]?=some B/\j<B.length/\k=cL L c+j
 |[],k,h=>by simp at h
 |A::L,k,h=>by
  rw[List.flatten_cons,H_]at h;by_cases hk:k<A.length;.exact⟨0,k,A,rfl,hk,by show k=0+k;omega⟩
  .obtain⟨c,j,B,a,b,h3⟩:=aGz L (k-A.length) A_;have e:cL (A::L) (c+1)=A.length+cL L c:=by unfold cL;rw[List.take_succ_cons,Q_,List.sum_cons]
   exact⟨c+1,j,B,by simpa using a,b,by rw[e];omega⟩
theorem bCu(L:List (List VI)):cL L L.length=L.flatten.length:=by unfold cL;rw[B9,List.length_flatten]
structure aDf (ins:List VI):Prop where
 ls:∀x∈ins,x.op≠73/\x.op≠74
 us:∀x∈ins,∀u∈x.us,u<32
 cd:∀x∈ins,x.op=67->x.d<32
 lab:∀x∈ins,((26<=x.op/\x.op<=31)\/x.op=66)->∃c:Nat,dL ins x.lb=some (c:Int)
 one:∀c c':Nat,c<ins.length->c'<ins.length->(ins.getD c default).op=65->(ins.getD c' default).op=65->(ins.getD c default).lb=(ins.getD c' default).lb->c=c'
def aBw(σ:List Int):Prop:=∀n∈σ,32<=n
theorem bQ{ins:List VI}{c:Nat}(h:c<ins.length):ins.getD c default∈ins:=by rw[W_,D_ h];exact B8 h
theorem aG0{σ:Ta_}{r n:Int}{y:VI}(h:y∈(qN σ r n).1):∃k,bV σ n=some k/\y=ldI r k:=by
 unfold qN at h;split at h;.cases h
 .rename_i k hk;simp at h;exact⟨k,hk,h⟩
theorem aL7{σ:Ta_}{r:Int}{x y:VI}(h:y∈bZ σ r x):∃n k q,n∈bF x/\bV σ n=some k/\y=ldI q k:=by
 unfold bZ at h;rcases a_.1 h with h|h
 .unfold opA at h;split at h;.rename_i ha;obtain⟨k,a,b⟩:=aG0 h;exact⟨_,k,_,ha,a,b⟩
  .cases h
 .unfold opB at h;split at h
  .rename_i hb;split at h;.cases h
   .obtain⟨k,a,b⟩:=aG0 h;exact⟨_,k,_,hb,a,b⟩
  .cases h
theorem iS(σ:Ta_)(r:Int)(x:VI):(fH σ r x=[]/\(x.d∈aY x->x.d∉σ))\/(∃q k,fH σ r x=[stI q k]/\x.d∈aY x/\bV σ x.d=some k):=by
 unfold fH opD;split
 .rename_i hd;cases hs:bV σ x.d with
  |none=>exact .inl ⟨rfl,fun _=>jA.1 hs⟩
  |some k=>exact .inr ⟨_,k,rfl,hd,rfl⟩
 .rename_i hd;exact .inl ⟨rfl,fun h=>absurd h hd⟩
theorem aUd{σ:Ta_}{r:Int}{x:VI}{j:Nat}(h:j<(bZ σ r x).length):∃y∈bZ σ r x,(dM σ r x)[j]?=some y:=by refine⟨(bZ σ r x)[j],B8 _,?_⟩;unfold dM;rw[Y_ h,D_ h]
theorem aI9(σ:Ta_)(r:Int)(x:VI):(dM σ r x)[(bZ σ r x).length]?=some (eR σ r x):=by unfold dM;rw[r_ (O_ _),M8];rfl
theorem bCv{σ:Ta_}{r:Int}{x:VI}{j:Nat}(h:(bZ σ r x).length<j)(a:j<(dM σ r x).length):∃q k,fH σ r x=[stI q k]/\x.d∈aY x/\bV σ x.d=some k/\j=(bZ σ r x).length+1/\(dM σ r x)[j]?=some (stI q k):=by
 unfold dM at a |-;rw[H_,List.length_cons]at a;rcases iS σ r x with⟨e,_⟩|⟨q,k,c,b,h3⟩;.rw[e]at a;simp at a;omega
 .rw[c]at a |-;simp at a;obtain rfl:j=(bZ σ r x).length+1:=A_;refine⟨q,k,rfl,b,h3,rfl,?_⟩;rw[r_ A_,show(bZ σ r x).length+1-(bZ σ r x).length=1 by omega];rfl
def bG(σ:List Int)(r:Int)(ins:List VI):List VI:=(rwM σ r ins).flatten
def ofs(σ:List Int)(r:Int)(ins:List VI)(c:Nat):Nat:=cL (rwM σ r ins) c
theorem qO{σ:Ta_}{r:Int}{ins:List VI}{c j:Nat}(b:c<ins.length)(a:j<(dM σ (cnt σ r ins c) (ins.getD c default)).length): (bG σ r ins)[ofs σ r ins c+j]?=(dM σ (cnt σ r ins c) (ins.getD c default))[j]? := uL _ _ _ _ (aI8 σ r ins c b) a
theorem eS{σ:Ta_}{r:Int}{ins:List VI}{k:Nat}(d:k<(bG σ r ins).length):∃c j,c<ins.length/\j<(dM σ (cnt σ r ins c) (ins.getD c default)).length/\k=ofs σ r ins c+j:=by
 obtain⟨c,j,B,a,e,h3⟩:=aGz _ k d;have b:c<ins.length:=by have:=(E_.1 a).1;rw[aQb]at this;exact this
 rw[aI8 σ r ins c b]at a;cases a
 exact⟨c,j,b,e,h3⟩
theorem xB{σ:Ta_}{r:Int}{ins:List VI}{c:Nat}(a:c<ins.length):ofs σ r ins (c+1)=ofs σ r ins c+(dM σ (cnt σ r ins c) (ins.getD c default)).length:=aW2 (aI8 σ r ins c a)
theorem aJa(σ:Ta_)(r:Int)(ins:List VI):ofs σ r ins ins.length=(bG σ r ins).length:=by have:=bCu (rwM σ r ins);rw[aQb]at this;exact this
theorem bQt{σ:Ta_}{r:Int}{ins:List VI}{c c':Nat}(h:c<c')(a:c'<=ins.length):ofs σ r ins c<ofs σ r ins c':=by
 induction c' with
 |zero=>omega
 |succ n ih =>
  have e:=xB (σ:=σ) (r:=r) (ins:=ins) (c:=n) A_;have b:0<(dM σ (cnt σ r ins n) (ins.getD n default)).length:=by unfold dM;simp;omega
  by_cases h1:c=n;.subst h1;omega
  .have:=ih A_ A_;omega
theorem oP(σ:Ta_)(r:Int)(x:VI):(bZ σ r x).length<(dM σ r x).length:=by unfold dM;simp
theorem bK0{σ:Ta_}{r:Int}{x:VI}(h:x.op=65):bZ σ r x=[]:=by
 have a:bF x=[]:=by unfold bF;simp[h]
 unfold bZ opA opB;simp[a]
theorem aL8{σ:Ta_}{r:Int}{x:VI}(h:x.op=66\/x.op=68\/x.op=72\/x.op=65\/(26<=x.op/\x.op<=31)):fH σ r x=[]:=by
 have c:aY x=[]:=by unfold aY;rw[I_ A_,I_ A_]
 rcases iS σ r x with⟨b,_⟩|⟨q,k,d,a,h3⟩;.exact b
 .rw[c]at a;cases a
def bCw(C Q:List VI):Prop:=Q.length=C.length/\∀(k:Nat) (y:VI),C[k]?=some y->∃z:VI,Q[k]?=some z/\z.lb=y.lb/\((y.op≠73/\y.op≠74/\z.op=y.op)\/((y.op=73\/y.op=74)/\(z.op=64\/z.op=69\/z.op=73\/z.op=74)))
theorem aW3(C:List VI):bCw C C:=⟨rfl,fun k y h=>⟨y,h,rfl,by
 by_cases h1:y.op=73\/y.op=74
 .exact .inr ⟨h1,by omega⟩
 .exact .inl ⟨by omega,by omega,rfl⟩⟩⟩
theorem jF{σ:Ta_}{r:Int}{x y:VI}{j:Nat}(h:(dM σ r x)[j]?=some y):(j<(bZ σ r x).length/\∃n k q,n∈bF x/\bV σ n=some k/\y=ldI q k)\/(j=(bZ σ r x).length/\y=eR σ r x)\/(j=(bZ σ r x).length+1/\∃q k,fH σ r x=[stI q k]/\x.d∈aY x/\bV σ x.d=some k/\y=stI q k):=by
 have i:=(E_.1 h).1;rcases M7 j (bZ σ r x).length with a|a|a
 .obtain⟨z,g,e⟩:=aUd a;rw[h]at e;cases e
  exact .inl ⟨a,aL7 g⟩
 .subst a;have:=aI9 σ r x;rw[h]at this;cases this
  exact .inr (.inl ⟨rfl,rfl⟩)
 .obtain⟨q,k,b,h3,f,c,e⟩:=bCv a i;rw[h]at e;cases e
  exact .inr (.inr ⟨c,q,k,b,h3,f,rfl⟩)
theorem aAq{l:List VI}{L:Int}{c:Nat}(h:dL l L=some (c:Int)):c<l.length/\(l.getD c default).op=65/\(l.getD c default).lb=L/\∀j,j<c->¬((l.getD j default).op=65/\(l.getD j default).lb=L):=by
 unfold dL at h;obtain⟨c',f,i⟩:=G_.1 h;have:c'=c:=by exact_mod_cast i
 subst this;obtain⟨d,h3,g⟩:=F4.1 f;have e:∀j (a:j<l.length),l.getD j default=l[j]:=fun j a=>by rw[W_,D_ a];rfl
 simp only[P_,q_]at h3;refine⟨d,by rw[e _ d];exact h3.1,by rw[e _ d];exact h3.2,fun j a b=>?_⟩;have:=g j a;rw[e _ A_]at b;simp[b.1,b.2]at this
theorem aW4{l:List VI}{L:Int}{c:Nat}(f:c<l.length)(b:(l.getD c default).op=65/\(l.getD c default).lb=L)(g:∀j,j<c->¬((l.getD j default).op=65/\(l.getD j default).lb=L)):dL l L=some (c:Int):=by
 have e:∀j (a:j<l.length),l.getD j default=l[j]:=fun j a=>by rw[W_,D_ a];rfl
 unfold dL;have:l.findIdx? (fun x=>decide (x.op=65)&&decide (x.lb=L))=some c:=by
  rw[F4];refine⟨f,?_,fun j a=>?_⟩;.rw[e _ f]at b;simp[b.1,b.2]
  .have:=g j a;rw[e _ A_]at this;intro d;simp only[P_,q_]at d;exact this d
 rw[this];rfl
theorem getD_some{l:List VI}{k:Nat}{y:VI}(h:l[k]?=some y):l.getD k default=y:=by rw[W_,h];rfl
theorem aQc{ins:List VI}{σ:Ta_}{r:Int}{Q:List VI}(s:bCw (bG σ r ins) Q){L:Int}{c:Nat}(h:dL ins L=some (c:Int)):dL Q L=some (ofs σ r ins c:Nat):=by
 obtain⟨C,y,D,h3⟩:=aAq h;have F:=bK0 (σ:=σ) (r:=cnt σ r ins c) y;have A:=aI9 σ (cnt σ r ins c) (ins.getD c default);rw[F]at A;have H:=oP σ (cnt σ r ins c) (ins.getD c default);have f:=qO (σ:=σ) (r:=r) C (j:=0) A_;rw[show(dM σ (cnt σ r ins c) (ins.getD c default))[0]?=some _ from A,Nat.add_zero]at f;obtain⟨z,p,G,E⟩:=s.2 _ _ f;have v:=(E_.1 p).1;have x:z.op=65:=by
  have:(eR σ (cnt σ r ins c) (ins.getD c default)).op=65:=y;rcases E with⟨_,_,h⟩|⟨h,_⟩;.rw[h];exact this
  .rw[this]at h;omega
 refine aW4 v ⟨by rw[getD_some p];exact x,by rw[getD_some p,G];exact D⟩ fun k I i=>?_;have m:k<(bG σ r ins).length:=by rw[<-s.1];omega
 obtain⟨c',j,u,l,rfl⟩:=eS m;have a:=qO (σ:=σ) (r:=r) u l;rw[D_ l]at a;obtain⟨J,o,d,w⟩:=s.2 _ _ a;rw[getD_some o]at i;have b:(dM σ (cnt σ r ins c') (ins.getD c' default))[j].op=65:=by
  rcases w with⟨_,_,h⟩|⟨_,h⟩;.rw[<-h];exact i.1
  .have:=i.1;omega
 rcases jF (D_ l)with⟨_,n,k,q,_,_,e⟩|⟨_,e⟩|⟨_,q,k,_,_,_,e⟩;.rw[e]at b;exact absurd b (by show ¬(73:Int)=65;decide)
 .rw[e]at b d;have t:c'<c:=by
   rcases M7 c' c with g|g|g;.exact g
   .subst g;omega
   .have:=bQt (σ:=σ) (r:=r) (ins:=ins) g A_;omega
  exact h3 c' t ⟨b,by rw[<-i.2,d];rfl⟩
 .rw[e]at b;exact absurd b (by show ¬(74:Int)=65;decide)
theorem pM{ins:List VI}(E:aDf ins){σ:Ta_}{r:Int}{Q:List VI}(A:bCw (bG σ r ins) Q) {c j:Nat} (w:c<ins.length) (s:j<(dM σ (cnt σ r ins c) (ins.getD c default)).length) {k':Int} (b:k'∈mD Q (ofs σ r ins c+j)): (k'=((ofs σ r ins c+(j+1):Nat):Int)/\j+1<(dM σ (cnt σ r ins c) (ins.getD c default)).length) \/((bZ σ (cnt σ r ins c) (ins.getD c default)).length<=j/\∃c':Nat,c'<ins.length/\(c':Int)∈mD ins c/\k'=(ofs σ r ins c':Nat)/\(j=(bZ σ (cnt σ r ins c) (ins.getD c default)).length->fH σ (cnt σ r ins c) (ins.getD c default)=[])):=by
 have o:=qO (σ:=σ) (r:=r) w s;rw[D_ s]at o;obtain⟨z,H,J,G⟩:=A.2 _ _ o;have C:=jF (D_ s);have D:=oP σ (cnt σ r ins c) (ins.getD c default);have g:=bQ w;unfold mD at b;rw[getD_some H]at b;generalize hy:(dM σ (cnt σ r ins c) (ins.getD c default))[j]=y at *
 split at b;.cases b
 rename_i hnt;rcases a_.1 b with b|b
 .split at b
  .rename_i hjm;have f:y.op=z.op:=by
    rcases G with⟨_,_,h⟩|⟨_,h⟩;.exact h.symm
    .omega
   rcases C with⟨_,n,k,q,_,_,e⟩|⟨m,e⟩|⟨_,q,k,_,_,_,e⟩;.exfalso;rw[e]at f;have:(73:Int)=z.op:=f;omega
   .have d:(ins.getD c default).op=z.op:=by rw[<-f,e];rfl
    have u:(ins.getD c default).lb=z.lb:=by rw[J,e];rfl
    obtain⟨c',i⟩:=E.lab _ g (by rw[d];exact hjm);have I:=aQc A i;rw[<-u,I]at b;rw[U_]at b;refine .inr ⟨by omega,c',(aAq i).1,?_,b,fun _=>aL8 (by rw[d];omega)⟩;unfold mD;rw[I_ (by rw[d];exact hnt),K_ (by rw[d];exact hjm),i];exact G4 _ (U_.2 rfl)
   .exfalso;rw[e]at f;have:(74:Int)=z.op:=f;omega
  .cases b
 .split at b
  .rename_i hnx;rw[U_]at b;by_cases hl:j+1<(dM σ (cnt σ r ins c) (ins.getD c default)).length;.exact .inl ⟨by rw[b];omega,hl⟩
   .have F:ofs σ r ins c+j+1=ofs σ r ins (c+1):=by rw[xB w];omega
    have p:c+1<ins.length:=by
     have x:=hnx.2;rw[A.1,F,<-aJa]at x;by_cases l:c+1<ins.length;.exact l
     .have:c+1=ins.length:=A_;rw[this]at x;omega
    have d:¬((ins.getD c default).op=68\/(ins.getD c default).op=72)/\(ins.getD c default).op≠66:=by
     rcases C with⟨L,_⟩|⟨m,e⟩|⟨_,q,k,x,l,_,e⟩;.omega
     .have v:z.op=(ins.getD c default).op:=by
       have N:=E.ls _ g;have:y.op=(ins.getD c default).op:=by rw[e];rfl
       rcases G with⟨_,_,h⟩|⟨h,_⟩;.rw[h,this]
       .rw[this]at h;omega
      rw[v]at hnt hnx;exact⟨hnt,hnx.1⟩
     .unfold aY at l;split at l;.omega
      .split at l;.omega
       .cases l
    refine .inr ⟨by omega,c+1,p,?_,by rw[b,<-F];omega,fun m=>?_⟩;.unfold mD;rw[I_ d.1];exact G0 _ (by rw[K_ ⟨d.2,p⟩];simp)
    .cases hp:fH σ (cnt σ r ins c) (ins.getD c default)with
     |nil=>rfl
     |cons a t =>exfalso;apply hl;unfold dM;rw[hp,H_,List.length_cons,List.length_cons];omega
  .cases b
end Go.Proofs.YtehlgnfhkidgoaaGreatDoor
