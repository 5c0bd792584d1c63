/- Some texts of the proof, joined. Condition: none. -/
import Derived.Test.YtehlgnfhkidgoaaGreatDoorJa
import Derived.Test.YtehlgnfhkidgoaaGreatDoorKr2
import Derived.Test.YtehlgnfhkidgoaaGreatDoorTmF
import Derived.Test.YtehlgnfhkidgoaaGreatDoorJb
import Derived.Test.YtehlgnfhkidgoaaGreatDoorTmE
set_option linter.unusedSectionVars false
set_option maxRecDepth 100000
set_option maxHeartbeats 64000000
set_option linter.unusedSimpArgs false
set_option linter.unusedVariables false
namespace Go.Proofs.YtehlgnfhkidgoaaGreatDoor
open Go Go.TM
theorem aT8(op:Int)(h:1<=op/\op<=25):TM.Pure K 128 [j_ op] (j_ (if op<=14 then 1 else if op=23 then 3 else if op=25 then 4 else 2)):=by
 refine aT t128 rfl rfl ?_;rcases(by omega:op<=14\/op=23\/op=25\/(15<=op/\op<=22)\/op=24)with h1|h1|h1|h1|h1;.rw[K_ h1];simp(disch:=omega)only[t128,go_sem]
 .rw[I_ A_,K_ h1];simp(disch:=omega)only[t128,go_sem]
 .rw[I_ A_,I_ A_,K_ h1];simp(disch:=omega)only[t128,go_sem]
 .rw[I_ A_,I_ A_,I_ A_];simp(disch:=omega)only[t128,go_sem]
 .rw[I_ A_,I_ A_,I_ A_];simp(disch:=omega)only[t128,go_sem]
theorem aWy:TM.Pure K 127 [j_ 1] (.tup [e_,e_,e_,j_ 0]):=by refine aT t127 rfl rfl ?_;simp(disch:=omega)only[t127,go_sem]
theorem aGz:TM.Pure K 127 [j_ 2] (.tup [e_,e_,z_,j_ 16]):=by refine aT t127 rfl rfl ?_;simp(disch:=omega)only[t127,go_sem]
theorem aWz:TM.Pure K 127 [j_ 3] (.tup [e_,z_,z_,j_ 16]):=by refine aT t127 rfl rfl ?_;simp(disch:=omega)only[t127,go_sem]
theorem aW0:TM.Pure K 127 [j_ 4] (.tup [z_,e_,e_,j_ 16]):=by refine aT t127 rfl rfl ?_;simp(disch:=omega)only[t127,go_sem]
theorem aI4(b:Bool):TM.Pure K 133 [.iv (.bool b),j_ 0] e_:=by refine aT t133 rfl rfl ?_;cases b<;>simp(disch:=omega)only[t133,go_sem]
theorem bKt(op:Int)(h:1<=op/\op<=25):TM.Pure K 132 [j_ op] (.tup [j_ (loM op),j_ (hiM op)]):=by
 have a:=aT8 op h;unfold loM hiM;refine aT t132 rfl rfl ?_;rcases(by omega:op<=14\/op=15\/op=16\/op=17\/op=18\/op=19\/op=20\/op=21\/op=22\/op=23\/op=24\/op=25)with h1|h1|h1|h1|h1|h1|h1|h1|h1|h1|h1|h1;.rw[I_ A_,I_ A_,I_ A_,I_ A_];rw[K_ h1]at a;simp(disch:=omega)only[t132,go_sem,aD a]
 all_goals
  subst h1
  simp(disch:=omega)only[t132,go_sem,aD a]
  rfl
theorem aDa(op:Int)(h:1<=op/\op<=25):∃(e:Int) (d a b:Bool) (f:Int),TM.Pure K 128 [j_ op] (j_ e)/\TM.Pure K 127 [j_ e] (.tup [.iv (.bool d),.iv (.bool a),.iv (.bool b),j_ f])/\e≠0/\0<=f/\f<=21:=by
 have c:=aT8 op h;rcases(by omega:op<=14\/op=23\/op=25\/(15<=op/\op<=22)\/op=24)with h1|h1|h1|h1|h1;.rw[K_ h1]at c;exact⟨1,_,_,_,_,c,aWy,by decide,by decide,by decide⟩
 .rw[I_ A_,K_ h1]at c;exact⟨3,_,_,_,_,c,aWz,by decide,by decide,by decide⟩
 .rw[I_ A_,I_ A_,K_ h1]at c;exact⟨4,_,_,_,_,c,aW0,by decide,by decide,by decide⟩
 .rw[I_ A_,I_ A_,I_ A_]at c;exact⟨2,_,_,_,_,c,aGz,by decide,by decide,by decide⟩
 .rw[I_ A_,I_ A_,I_ A_]at c;exact⟨2,_,_,_,_,c,aGz,by decide,by decide,by decide⟩
theorem bKu(op g:Int)(h:1<=op/\op<=25):TM.Pure K 126 [.iv (.agg [.int .i64 op,.int .i64 0,.int .i64 0,.int .i64 0,.int .i64 g])] (j_ (if loM op<=g/\g<=hiM op then 0 else 11)):=by
 obtain⟨l,d,a,b,n,f,e,m,_,_⟩:=aDa op h;have c:=bKt op h;have j:=aI4 d;have k:=aI4 a;have i:=aI4 b;generalize loM op=lo at *
 generalize hiM op=hi at *
 refine aT t126 rfl rfl ?_;by_cases e1:lo<=g
 .by_cases e2:g<=hi;.rw[K_ ⟨e1,e2⟩];simp (config := { maxSteps := 4000000 })(disch:=omega)only[t126,go_sem,aD f,aD e,aD c,aD j,aD k,aD i]
  .rw[I_ A_];simp (config := { maxSteps := 4000000 })(disch:=omega)only[t126,go_sem,aD f,aD e,aD c,aD j,aD k,aD i]
 .rw[I_ A_];simp (config := { maxSteps := 4000000 })(disch:=omega)only[t126,go_sem,aD f,aD e,aD c,aD j,aD k,aD i]
def aL5(b:Bool):List IV:=[.bool b,.int .i64 0]
theorem aI5(E:List Bool)(r:E.length<=10)(x0 p x2 q x4 x5 x6 x7 x8 x12:TV):∀(k i:Nat) (w c:Int) (x11 x16 n:TV),i+k=E.length->5*(k:Int)<=c->c<=100 ->∃(w' d:Int) (g j e:TV),lp' (lim K) t112L0 [x0,p,x2,q,x4,x5,x6,x7,x8,.iv (.int .u32 w),j_ c,x11,x12,.iv (.sl .full (E.map aL5)),j_ E.length,j_ i,x16,n] [] = .ret (.exit 0,[x0,p,x2,q,x4,x5,x6,x7,x8,.iv (.int .u32 w'),j_ d,g,x12,.iv (.sl .full (E.map aL5)),j_ E.length,j_ E.length,j,e],[])
 |0,i,w,c,x11,x16,n,h,h1,h2=>by obtain rfl:i=E.length:=A_;refine⟨w,c,x11,z_,n,aE K _ _ t112L0.eq_1 ?_⟩;simp(disch:=omega)only[go_sem]
 |k+1,i,w,c,x11,x16,n,h,h1,h2=>by
  have v:i<E.length:=A_;have m:=gC (w:=2) (f:=aL5) (fun _=>rfl) (t:=.full) (l:=E) (i:=(i:Int)) A_;rw[Int.toNat_natCast]at m;generalize E.getD i default=b at *
  rw[show aL5 b=[.bool b,.int .i64 0] from rfl]at m;have s:∀(env:Env) (S:aA) (a b:IV),bP env S (.iv (.cp [a,b])) 2=some [.iv a,.iv b]:=fun _ _ _ _=>by simp[bP,sub]
  cases b with
  |true =>have u:IntKind.u32.wrap 0=0:=C_;obtain⟨w',d,g,j,e,o⟩:=aI5 E r x0 p x2 q x4 x5 x6 x7 x8 x12 k (i+1) (IntKind.u32.wrap (bOr 32 w (IntKind.u32.wrap (0*2 ^ (if c.toNat<=32 then c.toNat else 32))))) (c-5) (.lb [e_,j_ 0]) e_ e_ A_ A_ A_;rw[show((i+1:Nat):Int)=(i:Int)+1 by omega]at o;refine⟨w',d,g,j,e,aE K _ _ t112L0.eq_1 ?_⟩;simp(disch:=omega)only[go_sem,m,s,aC,u];exact X_ er o
  |false =>obtain⟨w',d,g,j,e,o⟩:=aI5 E r x0 p x2 q x4 x5 x6 x7 x8 x12 k (i+1) w c (.lb [z_,j_ 0]) e_ z_ A_ A_ A_;rw[show((i+1:Nat):Int)=(i:Int)+1 by omega]at o;refine⟨w',d,g,j,e,aE K _ _ t112L0.eq_1 ?_⟩;simp(disch:=omega)only[go_sem,m,s,aC];exact X_ er o
def aAp(op im:Int):List IV:=[.int .i64 op,.int .i64 0,.int .i64 0,.int .i64 0,.int .i64 im]
theorem bKv(op c:Int)(h:1<=op/\op<=25):∃w:Int,TM.Pure K 112 [.iv (.agg (aAp op c))] (.tup [.iv (.int .u32 w),j_ (if loM op<=c/\c<=hiM op then 0 else 11)]):=by
 have f:=bKu op c h;obtain⟨s,d,a,b,n,i,g,q,r,t⟩:=aDa op h;by_cases e:loM op<=c/\c<=hiM op;.rw[K_ e]at f |-;have key:=fun p=>aI5 [d,a,b] B_ (.iv (.agg (aAp op c))) (.lb ((aAp op c).map .iv)) (.iv (.int .u32 0)) (j_ 0) (j_ 0) (.iv (.bool d)) (.iv (.bool a)) (.iv (.bool b)) (j_ n) z_ 3 0 p 21 u_ u_ u_ B_ C_ C_;obtain⟨w',k,m,o,l,j⟩:=key (IntKind.u32.wrap (IntKind.u32.wrap op*67108864));rw[n0_,show(([d,a,b].length:Nat):Int)=((3:Nat):Int) from rfl,show(aAp op c).map TV.iv=[j_ op,j_ 0,j_ 0,j_ 0,j_ c] from rfl,show aAp op c=[.int .i64 op,.int .i64 0,.int .i64 0,.int .i64 0,.int .i64 c] from rfl,show [d,a,b].map aL5=[[.bool d,.int .i64 0],[.bool a,.int .i64 0],[.bool b,.int .i64 0]] from rfl]at j;unfold aAp;refine⟨?_,aT t112 rfl rfl ?_⟩;rotate_left;.simp(disch:=omega)only[t112,go_sem,aD i,aD g,aD f];rw[j];simp(disch:=omega)only[go_sem];rfl
 .rw[I_ e]at f |-;refine⟨0,aT t112 rfl rfl ?_⟩;simp(disch:=omega)only[t112,go_sem,aAp,aD f]
def aI6(op im:Int):Bool:=decide (1<=op/\op<=25)&&decide (loM op<=im/\im<=hiM op)
theorem bQo(v:VI):TM.Pure K 78 [.iv (.agg (aJ v))] (.iv (.bool (aI6 v.op v.im))):=by
 unfold aI6;by_cases h:1<=v.op/\v.op<=25
 .obtain⟨w,a⟩:=bKv v.op v.im h;rw[V_ h,Q8];unfold aAp at a;refine aT t78 rfl rfl ?_;by_cases e:loM v.op<=v.im/\v.im<=hiM v.op;.rw[K_ e]at a;rw[V_ e];simp(disch:=omega)only[t78,go_sem,aJ,Q_,C3,aD a]
  .rw[I_ e]at a;rw[l_ e];simp(disch:=omega)only[t78,go_sem,aJ,Q_,C3,aD a]
 .rw[l_ h,K6];refine aT t78 rfl rfl ?_;rcases(by omega:v.op<1\/25<v.op)with h1|h1 <;>
   simp(disch:=omega)only[t78,go_sem,aJ,Q_,C3]
def nC(op im:Int):Bool:=aI6 op im||decide ((26<=op/\op<=31)\/(64<=op/\op<=72))
theorem bQp(v:VI):TM.Pure K 48 [.iv (.agg (aJ v))] (.iv (.bool (nC v.op v.im))):=by
 have a:=bQo v;unfold nC;rw[cV]at a;refine aT t48 rfl rfl ?_;generalize aI6 v.op v.im=p at *
 cases p with
 |true =>rw[G2];simp(disch:=omega)only[t48,go_sem,aJ,Q_,C3,aD a]
 |false =>
  rw[G8];rcases(by omega:v.op<26\/(26<=v.op/\v.op<=31)\/(31<v.op/\v.op<64)\/(64<=v.op/\v.op<=72)\/72<v.op)with h|h|h|h|h;.rw[l_ A_];simp(disch:=omega)only[t48,go_sem,aJ,Q_,C3,aD a]
  .rw[V_ A_];simp(disch:=omega)only[t48,go_sem,aJ,Q_,C3,aD a]
  .rw[l_ A_];simp(disch:=omega)only[t48,go_sem,aJ,Q_,C3,aD a]
  .rw[V_ A_];simp(disch:=omega)only[t48,go_sem,aJ,Q_,C3,aD a]
  .rw[l_ A_];simp(disch:=omega)only[t48,go_sem,aJ,Q_,C3,aD a]
theorem bT8{S:aA}{j:Nat}{l ys:Ta_}{t:Tag}(h:S[j]?=some (.tok l.length 1 3))(c:l.length+ys.length<=2000000):bA false 1 8 3 S (.tsl j (aZ l)) (.iv (.sl t (aZ ys)))=some (.tsl j (aZ (l++ys)),S.set j (.tok (l.length+ys.length) 1 3)):=by have a:rO S (.iv (.sl t (aZ ys))) (aZ ys):=rO.sl ..;have:=aFl (b:=8) a (nB ys) (nB l) (by rw[eK];exact h) (bR (by rw[eK,eK];omega));rw[eK,eK,show aZ l++aZ ys=aZ (l++ys) by simp[aZ,TM.one]]at this;exact this
theorem bQq(n:Nat)(h:0<n/\n<=2000000)(S:aA):(lim K).call 77 [k_,j_ n] S=.ret (.tsl S.length [],S++[.tok 0 1 3]):=by
 have d:eA n 8=true:=bR A_;have c:¬(n:Int)<=0:=A_;have e:qU 1 8 3 S k_ (n:Int)=some (.rsv S.length [] n,S++[.tok 0 1 3]):=by simp[qU,oL,d,c,Int.toNat_natCast,show ¬n=0 by omega]
 have a:∀n:Int,n-(0-((0:Nat):Int))=n:=fun n=>A_;have b:aYv (aAu k_)=some (j_ 0):=id rfl;have e2:∀S:aA,fQ S (.sl 1) k_ none (some 0) none=some k_:=fun S=>rfl;have e3:∀(S:aA) (i n:Nat),fQ S (.sl 1) (.rsv i [] n) none (some 0) none=some (.tsl i []):=fun S i n=>rfl;have f:∀(S:aA) (i n:Nat),fQ S (.sl 1) (.rsv i [] n) none (some ((0:Nat):Int)) none=some (.tsl i []):=fun S i n=>rfl;refine aI K S (fn:=t77) rfl rfl ?_;simp(disch:=omega)only[t77,go_sem,b,e2,e3,f,aC,a,fun env=>bJd (env:=env) e]
def nD(p:Tag×List Int):List IV:=[.sl p.1 (aZ p.2)]
def vF:List (Tag×List Int)->Nat
 |[]=>0
 |p::r=>p.2.length+vF r
def aDb:List (Tag×List Int)->List Int
 |[]=>[]
 |p::r=>p.2++aDb r
theorem aL6:∀E:List (Tag×List Int),(aDb E).length=vF E
 |[]=>rfl
 |p::r=>by rw[aDb,vF,H_,aL6 r]
theorem bT9{E:List (Tag×List Int)}{i:Nat}(h:i<E.length):∃p,E.drop i=p::E.drop (i+1)/\indexAddrS 1 (.iv (.sl .full (E.map nD))) (i:Int)=some (.iv (.cp [.sl p.1 (aZ p.2)])):=by refine⟨E[i],A6 h,?_⟩;refine aO4 A_ ?_ rfl;rw[Int.toNat_natCast,p_,D_ h];rfl
theorem aT9(E:List (Tag×List Int))(n:E.length<=10)(l x4 x5 x10 x11 x12 x13 x14:TV)(S:aA):∀(k i z:Nat) (c x9 a:TV),i+k=E.length->z+vF (E.drop i)<=2000000 ->∃d j b:TV,lp' (lim K) t47L1 [.iv (.sl .full (E.map nD)),l,j_ z,c,x4,x5,.iv (.sl .full (E.map nD)),j_ E.length,j_ i,x9,a,x11,x12,x13,x14] S = .ret (.exit 0,[.iv (.sl .full (E.map nD)),l,j_ (z+vF (E.drop i):Nat),d,x4,x5,.iv (.sl .full (E.map nD)),j_ E.length,j_ E.length,j,b,x11,x12,x13,x14],S)
 |0,i,z,c,x9,a,h,hz=>by obtain rfl:i=E.length:=A_;rw[E0,vF,Nat.add_zero];refine⟨c,z_,a,aE K _ _ t47L1.eq_1 ?_⟩;simp(disch:=omega)only[go_sem]
 |k+1,i,z,c,x9,a,h,hz=>by have g:i<E.length:=A_;obtain⟨p,e,f⟩:=bT9 g;rw[e,vF]at hz |-;obtain⟨d,j,b,m⟩:=aT9 E n l x4 x5 x10 x11 x12 x13 x14 S k (i+1) (z+p.2.length) (.iv (.sl p.1 (aZ p.2))) e_ z_ A_ A_;rw[show((i+1:Nat):Int)=(i:Int)+1 by omega,show((z+p.2.length:Nat):Int)=(z:Int)+(p.2.length:Int) by omega,G3]at m;refine⟨d,j,b,aE K _ _ t47L1.eq_1 ?_⟩;simp(disch:=omega)only[go_sem,f,eK,aC];exact X_ er m
theorem aUa(E:List (Tag×List Int))(n:E.length<=10)(j:Nat)(g x2 e x6 x7 x8 x9 x10:TV):∀(k i:Nat) (l:Ta_) (S:aA) (x5 x14:TV),i+k=E.length->S[j]?=some (.tok l.length 1 3)->l.length+vF (E.drop i)<=2000000 ->∃f a:TV,lp' (lim K) t47L0 [.iv (.sl .full (E.map nD)),g,x2,e,.tsl j (aZ l),x5,x6,x7,x8,x9,x10,.iv (.sl .full (E.map nD)),j_ E.length,j_ i,x14] S = .ret (.exit 2,[.iv (.sl .full (E.map nD)),g,x2,e,.tsl j (aZ (l++aDb (E.drop i))),f,x6,x7,x8,x9,x10,.iv (.sl .full (E.map nD)),j_ E.length,j_ E.length,a],S.set j (.tok (l.length+vF (E.drop i)) 1 3))
 |0,i,l,S,x5,x14,h,hS,hz=>by obtain rfl:i=E.length:=A_;rw[E0,vF,aDb,Nat.add_zero,A4,jU hS];refine⟨x5,z_,aE K _ _ t47L0.eq_1 ?_⟩;simp(disch:=omega)only[go_sem]
 |k+1,i,l,S,x5,x14,h,hS,hz=>by have d:i<E.length:=A_;obtain⟨p,b,c⟩:=bT9 d;rw[b,vF]at hz |-;rw[aDb];have o:=bT8 (ys:=p.2) (t:=p.1) hS A_;obtain⟨f,a,m⟩:=aUa E n j g x2 e x6 x7 x8 x9 x10 k (i+1) (l++p.2) (S.set j (.tok (l.length+p.2.length) 1 3)) (.iv (.sl p.1 (aZ p.2))) e_ A_ (by rw[aM (aN hS),H_]) (by rw[H_];omega);rw[show((i+1:Nat):Int)=(i:Int)+1 by omega,H0,H_,A9,G3]at m;refine⟨f,a,aE K _ _ t47L0.eq_1 ?_⟩;simp(disch:=omega)only[go_sem,c,o,aC];exact X_ er m
theorem bCq(E:List (Tag×List Int))(e:E.length<=10)(g:0<vF E)(a:vF E<=2000000)(S:aA):(lim K).call 47 [.iv (.sl .full (E.map nD))] S=.ret (.tsl S.length (aZ (aDb E)),S++[.tok (aDb E).length 1 3]):=by obtain⟨h,i,b,f⟩:=aT9 E e k_ u_ u_ u_ u_ u_ u_ u_ S E.length 0 0 u_ u_ u_ A_ (by simpa using a);rw[C4,A7,n0_]at f;have c:=bQq (vF E) ⟨g,a⟩ S;have k:(S++[.tok 0 1 3])[S.length]?=some (.tok ([]:Ta_).length 1 3):=B_;obtain⟨l,j,l2⟩:=aUa E e S.length k_ (j_ (vF E:Nat)) h (.iv (.sl .full (E.map nD))) (j_ E.length) (j_ E.length) i b E.length 0 [] _ u_ u_ A_ k (by simpa using a);rw[C4,List.nil_append,n0_,show aZ []=[] from rfl,E3 _ _ (O_ _),L8,List.set_cons_zero,List.length_nil,A7]at l2;rw[aL6];refine aI K S (fn:=t47) rfl rfl ?_;have d:(E.map nD).length=E.length:=L_ _;simp(disch:=omega)only[t47,go_sem,d];rw[f];simp(disch:=omega)only[go_sem,c,d];rw[l2];simp(disch:=omega)only[go_sem]
def bxF(fn rg sl nd pr:Int)(rs:Bool)(ti:Tag)(ins:List VI):aG:=.cells 25 false [.iv (.int .i64 fn),.iv (.int .i64 rg),.iv (.int .i64 sl),.iv (.int .i64 nd),.iv (.int .i64 pr),.iv (.bool rs),.iv (.sl ti (ins.map aJ))]
theorem bQr{fn rg sl nd pr:Int}{rs:Bool}{ti:Tag}{ins:List VI}{S:aA}(h:S[0]?=some (bxF fn rg sl nd pr rs ti ins))(x:Int):(lim K).call 49 [j_ x,.ptr 0 25 0] S=.ret (.iv (.bool (decide (x<0\/rg<=x))),S):=by
 unfold bxF at h;refine aI K S (fn:=t49) rfl rfl ?_;rcases(by omega:x<0\/(0<=x/\rg<=x)\/(0<=x/\x<rg))with h1|h1|h1;.rw[V_ (.inl h1)];simp(disch:=omega)only[t49,go_sem,h]
 .rw[V_ (.inr h1.2)];simp(disch:=omega)only[t49,go_sem,h]
 .rw[l_ A_];simp(disch:=omega)only[t49,go_sem,h]
theorem bKw{j:Nat}{l:Ta_}{i:Nat}(h:i<l.length):indexAddrS 1 (.tsl j (aZ l)) (i:Int)=some (.iv (.cp [.int .i64 (l.getD i 0)])):=by have a:=pI (f:=IV.int .i64) (t:=.no) (l:=l) (i:=(i:Int)) A_;rw[Int.toNat_natCast]at a;exact a
def nE(rg x:Int):Bool:=decide (x<0\/rg<=x)
theorem aUb{fn rg sl nd pr:Int}{rs:Bool}{ti:Tag}{ins:List VI}{S:aA}(h:S[0]?=some (bxF fn rg sl nd pr rs ti ins))(j:Nat)(l:Ta_)(u:l.length<=3000000):∀(k i:Nat) (x2 f x6 x7:TV),i+k=l.length->(∀x∈l.take i,nE rg x=false) ->∃(d:aW) (e g n o m:TV),lp' (lim K) t50L0 [.tsl j (aZ l),.fn 49 [] [.ptr 0 25 0],x2,f,j_ l.length,j_ i,x6,x7] S = .ret (d,[.tsl j (aZ l),.fn 49 [] [.ptr 0 25 0],e,g,j_ l.length,n,o,m],S) /\(d=.exit 0/\l.any (nE rg)=false\/d=.ret/\l.any (nE rg)=true/\∃q:Nat,e=j_ q)
 |0,i,x2,f,x6,x7,hk,hq=>by
  obtain rfl:i=l.length:=A_;rw[C0]at hq;refine⟨.exit 0,x2,f,j_ l.length,z_,x7,aE K _ _ t50L0.eq_1 ?_,.inl ⟨rfl,?_⟩⟩;.simp(disch:=omega)only[go_sem]
  .rw[t_];intro x c;rw[hq x c];simp
 |k+1,i,x2,f,x6,x7,hk,hq=>by
  have b:i<l.length:=A_;have r:=bKw (j:=j) b;have a:=bQr h (l.getD i 0);have p:=iR b;cases hd:nE rg (l.getD i 0)with
  |true =>rw[show decide (l.getD i 0<0\/rg<=l.getD i 0)=true from hd]at a;refine⟨.ret,j_ i,j_ i,j_ i,e_,e_,aE K _ _ t50L0.eq_1 ?_,.inr ⟨rfl,E8.2 ⟨_,nU b,hd⟩,i,rfl⟩⟩;simp(disch:=omega)only[go_sem,r,a]
  |false =>
   rw[show decide (l.getD i 0<0\/rg<=l.getD i 0)=false from hd]at a;obtain⟨d,e,g,n,o,m,s,t⟩:=aUb h j l u k (i+1) x2 (j_ i) e_ z_ A_ (fun x c=>by
    rw[p,a_,U_]at c;rcases c with c|rfl;.exact hq x c
    .exact hd)
   rw[show((i+1:Nat):Int)=(i:Int)+1 by omega]at s;refine⟨d,e,g,n,o,m,aE K _ _ t50L0.eq_1 ?_,t⟩;simp(disch:=omega)only[go_sem,r,a,aC];exact X_ er s
theorem bCr{fn rg sl nd pr:Int}{rs:Bool}{ti:Tag}{ins:List VI}{S:aA}(h:S[0]?=some (bxF fn rg sl nd pr rs ti ins))(j:Nat)(l:Ta_)(e:l.length<=3000000):(lim K).call 22 [.tsl j (aZ l),.fn 49 [] [.ptr 0 25 0]] S=.ret (.iv (.bool (l.any (nE rg))),S):=by
 obtain⟨n,g,f,m,i,k,d,c⟩:=aUb h j l e l.length 0 (j_ 0) u_ u_ u_ A_ B_;rw[n0_]at d;have b:(aZ l).length=l.length:=eK l;rcases c with⟨rfl,c⟩|⟨rfl,c,q,rfl⟩
 .have a:(lim K).call 50 [.tsl j (aZ l),.fn 49 [] [.ptr 0 25 0]] S=.ret (j_ (-1),S):=by refine aI K S (fn:=t50) rfl rfl ?_;simp(disch:=omega)only[t50,go_sem,b];rw[d];simp(disch:=omega)only[go_sem]
  rw[c];refine aI K S (fn:=t22) rfl rfl ?_;simp(disch:=omega)only[t22,go_sem,a]
 .have a:(lim K).call 50 [.tsl j (aZ l),.fn 49 [] [.ptr 0 25 0]] S=.ret (j_ q,S):=by refine aI K S (fn:=t50) rfl rfl ?_;simp(disch:=omega)only[t50,go_sem,b];rw[d];simp(disch:=omega)only[go_sem]
  rw[c];refine aI K S (fn:=t22) rfl rfl ?_;simp(disch:=omega)only[t22,go_sem,a]
theorem dT(l:Td_)(c:Nat)(k:Int):lkB (.leaf .int) (.int .i64 0) false (some (.mp (mpR vI l) c)) (j_ k)=some (j_ (lR l k)):=by rw[aAj];simp only[lR,b_,↓reduceIte];cases dK l k<;>rfl
theorem bCs(l:Td_)(c:Nat)(env:Env)(S:aA)(j:Nat)(k a:Int):upB (.leaf .int) env S j (some (.mp (mpR vI l) c)) (j_ k) (j_ a)=some (TM.undef,env,S.set j (.mp (mpR vI (gV l c k a)) (rP l c k))) :=
 bJb vI l c env S j k a rfl rfl
def oK(l:List VI)(L:Int):Int:=((l.filter fun x=>decide (x.op=65)&&decide (x.lb=L)).length:Nat)
theorem aW1(l:List VI)(x:VI)(L:Int):oK (l++[x]) L=if x.op=65/\x.lb=L then oK l L+1 else oK l L:=by
 unfold oK;rw[I5,H_];by_cases e:x.op=65/\x.lb=L;.rw[K_ e];simp[e]
 .rw[I_ e];have:(decide (x.op=65)&&decide (x.lb=L))=false:=by
   cases h1:(decide (x.op=65)&&decide (x.lb=L))with
   |false=>rfl
   |true=>simp at h1;exact absurd h1 e
  simp[E4,this]
theorem bKx(l:List VI)(L:Int):0<=oK l L/\oK l L<=l.length:=by unfold oK;have:=D8 (fun x:VI=>decide (x.op=65)&&decide (x.lb=L)) l;omega
theorem aI7{fn rg sl nd pr:Int}{rs:Bool}{ti:Tag}{ins:List VI}(D:ins.length<=1000000)(x0 y x2 x5 x6 x7 x8 x14 x15 x16 p n q j o:TV):∀(k i:Nat) (S:aA) (a:Td_) (c:Nat) (x4 x12 x13:TV),i+k=ins.length->S[0]?=some (bxF fn rg sl nd pr rs ti ins)->S[1]?=some (.mp (mpR vI a) c)->(∀L,lR a L=oK (ins.take i) L) ->∃(S':aA) (b:Td_) (c':Nat) (s d g:TV),lp' (lim K) t20L1 [x0,y,x2,.map 1,x4,x5,x6,x7,x8,.iv (.sl ti (ins.map aJ)),j_ ins.length,j_ i,x12,x13,x14,x15,x16,p,n,q,j,o] S = .ret (.exit 0,[x0,y,x2,.map 1,s,x5,x6,x7,x8,.iv (.sl ti (ins.map aJ)),j_ ins.length,j_ ins.length,d,g,x14,x15,x16,p,n,q,j,o],S') /\S'[0]?=some (bxF fn rg sl nd pr rs ti ins)/\S'[1]?=some (.mp (mpR vI b) c')/\∀L,lR b L=oK ins L
 |0,i,S,a,c,x4,x12,x13,h,h0,h1,hc=>by obtain rfl:i=ins.length:=A_;rw[C0]at hc;refine⟨S,a,c,x4,z_,x13,aE K _ _ t20L1.eq_1 ?_,h0,h1,hc⟩;simp(disch:=omega)only[go_sem]
 |k+1,i,S,a,c,x4,x12,x13,h,h0,h1,hc=>by
  have u:i<ins.length:=A_;have m:=gC (w:=8) (f:=aJ) eZ (t:=ti) (l:=ins) (i:=(i:Int)) A_;rw[Int.toNat_natCast]at m;have A:ins.take (i+1)=ins.take i++[ins.getD i default]:=by rw[G9,D_ u];simp[List.getD,D_ u]
  have r:=fun L=>aW1 (ins.take i) (ins.getD i default) L;rw[<-A]at r;have C:=bKx (ins.take i) (ins.getD i default).lb;rw[K0]at C;generalize ins.getD i default=x at *
  rw[cV]at m;by_cases hop:x.op=65
  .obtain⟨S',b,c',s,d,g,v,z⟩:=aI7 (fn:=fn) (rg:=rg) (sl:=sl) (nd:=nd) (pr:=pr) (rs:=rs) (ti:=ti) D x0 y x2 x5 x6 x7 x8 x14 x15 x16 p n q j o k (i+1) (S.set 1 (.mp (mpR vI (gV a c x.lb (lR a x.lb+1))) (rP a c x.lb))) _ _ (.lb ((aJ x).map .iv)) e_ e_ A_ (by rw[aB C_];exact h0) (aM (aN h1) _) (fun L=>by
    rw[r L];unfold lR;rw[qI];by_cases e:x.lb=L;.subst e;rw[K_ rfl,K_ ⟨hop,rfl⟩,<-hc];rfl
    .rw[I_ e,I_ (fun h=>e h.2),<-hc];rfl)
   rw[show((i+1:Nat):Int)=(i:Int)+1 by omega,aS]at v;refine⟨S',b,c',s,d,g,aE K _ _ t20L1.eq_1 ?_,z⟩;have F:=hc x.lb;have E:IntKind.i64.wrap (lR a x.lb+1)=lR a x.lb+1:=aC A_;simp(disch:=omega)only[go_sem,m,h1,dT,bCs,E,aC];exact X_ er v
  .obtain⟨S',b,c',s,d,g,v,z⟩:=aI7 (fn:=fn) (rg:=rg) (sl:=sl) (nd:=nd) (pr:=pr) (rs:=rs) (ti:=ti) D x0 y x2 x5 x6 x7 x8 x14 x15 x16 p n q j o k (i+1) S a c (.lb ((aJ x).map .iv)) e_ z_ A_ h0 h1 (fun L=>by rw[r L,I_ (fun h=>hop h.1)];exact hc L);rw[show((i+1:Nat):Int)=(i:Int)+1 by omega,aS]at v;refine⟨S',b,c',s,d,g,aE K _ _ t20L1.eq_1 ?_,z⟩;simp(disch:=omega)only[go_sem,m,aC];exact X_ er v
def bS(x:VI):List Int:=x.a::x.b::x.us++(if x.op≠67\/0<=x.d then [x.d]else [])
def fR(x:VI):Bool:=decide (26<=x.op/\x.op<=31)||decide (x.op=66)||decide (x.op=65)
def qM(rg:Int)(ins:List VI)(x:VI):Bool:=!nC x.op x.im||((bS x).any (nE rg)||(fR x&&decide (oK ins x.lb≠1)))
theorem aUc{fn rg sl nd pr:Int}{rs:Bool}{ti:Tag}{ins:List VI}(hn:ins.length<=1000000)(h4:∀x∈ins,x.us.length<=999990/\cB x.tu x.us){Q:Td_}{c:Nat}(hc:∀L,lR Q L=oK ins L)(x0 x4 x8 x9 x10 x11 x12 x13 U V:TV):∀(k i:Nat) (S:aA) (x2 x5 x6 x7 R N P:TV),i+k=ins.length->S[0]?=some (bxF fn rg sl nd pr rs ti ins)->S[1]?=some (.mp (mpR vI Q) c) ->∃(S':aA) (z:aW) (A D E C r s q u:TV),lp' (lim K) t20L0 [x0,.ptr 0 25 0,x2,.map 1,x4,x5,x6,x7,x8,x9,x10,x11,x12,x13,.iv (.sl ti (ins.map aJ)),j_ ins.length,j_ i,R,N,P,U,V] S = .ret (z,[x0,.ptr 0 25 0,A,.map 1,x4,D,E,C,x8,x9,x10,x11,x12,x13,.iv (.sl ti (ins.map aJ)),j_ ins.length,r,s,q,u,U,V],S') /\S'[0]?=some (bxF fn rg sl nd pr rs ti ins)/\(z=.exit 2/\(ins.drop i).any (qM rg ins)=false\/z=.ret/\A=j_ 2/\(ins.drop i).any (qM rg ins)=true)
 |0,i,S,x2,x5,x6,x7,R,N,P,h,h0,h1=>by obtain rfl:i=ins.length:=A_;rw[E0];refine⟨S,.exit 2,x2,x5,x6,x7,j_ ins.length,z_,N,P,aE K _ _ t20L0.eq_1 ?_,h0,.inl ⟨rfl,rfl⟩⟩;simp(disch:=omega)only[go_sem]
 |k+1,i,S,x2,x5,x6,x7,R,N,P,h,h0,h1=>by
  have Z:i<ins.length:=A_;have j:=gC (w:=8) (f:=aJ) eZ (t:=ti) (l:=ins) (i:=(i:Int)) A_;rw[Int.toNat_natCast]at j;have h5:=aC0 Z;obtain⟨h8,hb⟩:=h4 (ins.getD i default) (by simp only[List.getD,D_ Z,Option.getD_some];exact B8 _);have n:=bQp (ins.getD i default);have F:=fun S x2 x5 x6 x7 R N P=>aUc (fn:=fn) (rg:=rg) (sl:=sl) (nd:=nd) (pr:=pr) (rs:=rs) (ti:=ti) (c:=c) hn h4 hc x0 x4 x8 x9 x10 x11 x12 x13 U V k (i+1) S x2 x5 x6 x7 R N P A_;rw[h5,List.any_cons];have o:=hc (ins.getD i default).lb;generalize ins.getD i default=x at *
  have m:=bCq [(.full,[x.a,x.b]),(x.tu,x.us)] B_ (show 0<2+(x.us.length+0) by omega) (show 2+(x.us.length+0)<=2000000 by omega) S;have Y:aDb [(.full,[x.a,x.b]),(x.tu,x.us)]=x.a::x.b::x.us:=by simp[aDb]
  rw[Y,show [((.full:Tag),[x.a,x.b]),(x.tu,x.us)].map nD=[[.sl .full [[.int .i64 x.a],[.int .i64 x.b]]],[.sl x.tu (TM.one (.int .i64) x.us)]] from rfl]at m;have h6:(S++[aG.tok (x.a::x.b::x.us).length 1 3])[S.length]?=some (.tok (x.a::x.b::x.us).length 1 3):=B_;have v:=bT8 (ys:=[x.d]) (t:=.full) h6 (by simp;omega);rw[show aZ [x.d]=[[.int .i64 x.d]] from rfl]at v;have k1:bL [] S (S++[aG.tok (x.a::x.b::x.us).length 1 3]):=bL.app _ _ _;have n0:0<S.length:=aN h0;have n1:1<S.length:=aN h1;have z0:=aR h0 [aG.tok (x.a::x.b::x.us).length 1 3];have z1:=aR h1 [aG.tok (x.a::x.b::x.us).length 1 3];have p:((S++[aG.tok (x.a::x.b::x.us).length 1 3]).set S.length (aG.tok ((x.a::x.b::x.us).length+[x.d].length) 1 3))[0]?=some (bxF fn rg sl nd pr rs ti ins):=by rw[aB A_];exact z0
  have g:((S++[aG.tok (x.a::x.b::x.us).length 1 3]).set S.length (aG.tok ((x.a::x.b::x.us).length+[x.d].length) 1 3))[1]?=some (.mp (mpR vI Q) c):=by rw[aB A_];exact z1
  have W:=bCr z0 S.length (x.a::x.b::x.us) (by simp;omega);have e:=bCr p S.length ((x.a::x.b::x.us)++[x.d]) (by simp;omega);rw[cV]at j n;have h2:qM rg ins x=(!nC x.op x.im||((bS x).any (nE rg)||(fR x&&decide (oK ins x.lb≠1)))):=rfl;rw[h2];generalize hfm:nC x.op x.im=fm at *
  generalize hcn:oK ins x.lb=cn at *
  generalize hR1:(x.a::x.b::x.us:Ta_)=R1 at *
  generalize hT1:S++[aG.tok R1.length 1 3]=T1 at *
  generalize hT2:T1.set S.length (.tok (R1.length+[x.d].length) 1 3)=T2 at *
  by_cases hA:x.op=67/\x.d<0
  .obtain⟨hd,h7⟩:=hA;have H:bS x=R1:=by rw[<-hR1];unfold bS;rw[I_ A_,A4]
   have J:fR x=false:=by unfold fR;simp;omega
   rw[H,J];generalize (R1).any (nE rg)=an at *
   cases fm with
   |false =>refine⟨T1,.ret,j_ 2,.lb ((aJ x).map .iv),.tsl S.length (aZ (R1)),z_,j_ i,e_,z_,e_,aE K _ _ t20L0.eq_1 ?_,z0,.inr ⟨rfl,rfl,rfl⟩⟩;rw[aS];simp(disch:=omega)only[go_sem,j,m,v,aD n,z1,dT,W,o,aC]
   |true =>
    cases an with
    |true =>refine⟨T1,.ret,j_ 2,.lb ((aJ x).map .iv),.tsl S.length (aZ (R1)),z_,j_ i,e_,z_,e_,aE K _ _ t20L0.eq_1 ?_,z0,.inr ⟨rfl,rfl,rfl⟩⟩;rw[aS];simp(disch:=omega)only[go_sem,j,m,v,aD n,z1,dT,W,o,aC]
    |false =>
     obtain⟨S',z,A,D,E,C,r,s,q,u,y,I,G⟩:=F T1 x2 (.lb ((aJ x).map .iv)) (.tsl S.length (aZ (R1))) z_ e_ z_ z_ z0 z1;rw[show((i+1:Nat):Int)=(i:Int)+1 by omega,aS]at y;refine⟨S',z,A,D,E,C,r,s,q,u,aE K _ _ t20L0.eq_1 ?_,I,?_⟩;.simp(disch:=omega)only[go_sem,j,m,v,aD n,z1,dT,W,o,aC];exact X_ er y
     .simpa  using G
  .have T:x.op≠67\/0<=x.d:=A_;by_cases hB:x.op=67
   .have h9:0<=x.d:=A_;have H:bS x=R1++[x.d]:=by rw[<-hR1];unfold bS;rw[K_ T]
    have J:fR x=false:=by unfold fR;simp;omega
    rw[H,J];generalize (R1++[x.d]).any (nE rg)=an at *
    cases fm with
    |false =>refine⟨T2,.ret,j_ 2,.lb ((aJ x).map .iv),.tsl S.length (aZ (R1++[x.d])),z_,j_ i,e_,e_,e_,aE K _ _ t20L0.eq_1 ?_,p,.inr ⟨rfl,rfl,rfl⟩⟩;rw[aS];simp(disch:=omega)only[go_sem,j,m,v,aD n,g,dT,e,o,aC]
    |true =>
     cases an with
     |true =>refine⟨T2,.ret,j_ 2,.lb ((aJ x).map .iv),.tsl S.length (aZ (R1++[x.d])),z_,j_ i,e_,e_,e_,aE K _ _ t20L0.eq_1 ?_,p,.inr ⟨rfl,rfl,rfl⟩⟩;rw[aS];simp(disch:=omega)only[go_sem,j,m,v,aD n,g,dT,e,o,aC]
     |false =>
      obtain⟨S',z,A,D,E,C,r,s,q,u,y,I,G⟩:=F T2 x2 (.lb ((aJ x).map .iv)) (.tsl S.length (aZ (R1++[x.d]))) z_ e_ e_ z_ p g;rw[show((i+1:Nat):Int)=(i:Int)+1 by omega,aS]at y;refine⟨S',z,A,D,E,C,r,s,q,u,aE K _ _ t20L0.eq_1 ?_,I,?_⟩;.simp(disch:=omega)only[go_sem,j,m,v,aD n,g,dT,e,o,aC];exact X_ er y
      .simpa  using G
   .rcases(by omega:x.op<26\/(26<=x.op/\x.op<=31)\/(31<x.op/\x.op<65)\/x.op=65\/x.op=66\/67<x.op)with hC|hC|hC|hC|hC|hC
    .have H:bS x=R1++[x.d]:=by rw[<-hR1];unfold bS;rw[K_ T]
     have J:fR x=false:=by unfold fR;simp;omega
     rw[H,J];generalize (R1++[x.d]).any (nE rg)=an at *
     cases fm with
     |false =>refine⟨T2,.ret,j_ 2,.lb ((aJ x).map .iv),.tsl S.length (aZ (R1++[x.d])),z_,j_ i,e_,e_,e_,aE K _ _ t20L0.eq_1 ?_,p,.inr ⟨rfl,rfl,rfl⟩⟩;rw[aS];simp(disch:=omega)only[go_sem,j,m,v,aD n,g,dT,e,o,aC]
     |true =>
      cases an with
      |true =>refine⟨T2,.ret,j_ 2,.lb ((aJ x).map .iv),.tsl S.length (aZ (R1++[x.d])),z_,j_ i,e_,e_,e_,aE K _ _ t20L0.eq_1 ?_,p,.inr ⟨rfl,rfl,rfl⟩⟩;rw[aS];simp(disch:=omega)only[go_sem,j,m,v,aD n,g,dT,e,o,aC]
      |false =>
       obtain⟨S',z,A,D,E,C,r,s,q,u,y,I,G⟩:=F T2 x2 (.lb ((aJ x).map .iv)) (.tsl S.length (aZ (R1++[x.d]))) z_ e_ e_ z_ p g;rw[show((i+1:Nat):Int)=(i:Int)+1 by omega,aS]at y;refine⟨S',z,A,D,E,C,r,s,q,u,aE K _ _ t20L0.eq_1 ?_,I,?_⟩;.simp(disch:=omega)only[go_sem,j,m,v,aD n,g,dT,e,o,aC];exact X_ er y
       .simpa  using G
    .have H:bS x=R1++[x.d]:=by rw[<-hR1];unfold bS;rw[K_ T]
     have J:fR x=true:=by unfold fR;simp;omega
     rw[H,J];generalize (R1++[x.d]).any (nE rg)=an at *
     cases fm with
     |false =>refine⟨T2,.ret,j_ 2,.lb ((aJ x).map .iv),.tsl S.length (aZ (R1++[x.d])),e_,j_ i,e_,e_,e_,aE K _ _ t20L0.eq_1 ?_,p,.inr ⟨rfl,rfl,rfl⟩⟩;rw[aS];simp(disch:=omega)only[go_sem,j,m,v,aD n,g,dT,e,o,aC]
     |true =>
      cases an with
      |true =>refine⟨T2,.ret,j_ 2,.lb ((aJ x).map .iv),.tsl S.length (aZ (R1++[x.d])),e_,j_ i,e_,e_,e_,aE K _ _ t20L0.eq_1 ?_,p,.inr ⟨rfl,rfl,rfl⟩⟩;rw[aS];simp(disch:=omega)only[go_sem,j,m,v,aD n,g,dT,e,o,aC]
      |false =>
       by_cases hc1:cn=1
       .subst hc1;obtain⟨S',z,A,D,E,C,r,s,q,u,y,I,G⟩:=F T2 x2 (.lb ((aJ x).map .iv)) (.tsl S.length (aZ (R1++[x.d]))) e_ e_ e_ z_ p g;rw[show((i+1:Nat):Int)=(i:Int)+1 by omega,aS]at y;refine⟨S',z,A,D,E,C,r,s,q,u,aE K _ _ t20L0.eq_1 ?_,I,?_⟩;.simp(disch:=omega)only[go_sem,j,m,v,aD n,g,dT,e,o,aC];exact X_ er y
        .simpa  using G
       .refine⟨T2,.ret,j_ 2,.lb ((aJ x).map .iv),.tsl S.length (aZ (R1++[x.d])),e_,j_ i,e_,e_,e_,aE K _ _ t20L0.eq_1 ?_,p,.inr ⟨rfl,rfl,by simp[hc1]⟩⟩;rw[aS];simp(disch:=omega)only[go_sem,j,m,v,aD n,g,dT,e,o,aC]
    .have H:bS x=R1++[x.d]:=by rw[<-hR1];unfold bS;rw[K_ T]
     have J:fR x=false:=by unfold fR;simp;omega
     rw[H,J];generalize (R1++[x.d]).any (nE rg)=an at *
     cases fm with
     |false =>refine⟨T2,.ret,j_ 2,.lb ((aJ x).map .iv),.tsl S.length (aZ (R1++[x.d])),z_,j_ i,e_,e_,e_,aE K _ _ t20L0.eq_1 ?_,p,.inr ⟨rfl,rfl,rfl⟩⟩;rw[aS];simp(disch:=omega)only[go_sem,j,m,v,aD n,g,dT,e,o,aC]
     |true =>
      cases an with
      |true =>refine⟨T2,.ret,j_ 2,.lb ((aJ x).map .iv),.tsl S.length (aZ (R1++[x.d])),z_,j_ i,e_,e_,e_,aE K _ _ t20L0.eq_1 ?_,p,.inr ⟨rfl,rfl,rfl⟩⟩;rw[aS];simp(disch:=omega)only[go_sem,j,m,v,aD n,g,dT,e,o,aC]
      |false =>
       obtain⟨S',z,A,D,E,C,r,s,q,u,y,I,G⟩:=F T2 x2 (.lb ((aJ x).map .iv)) (.tsl S.length (aZ (R1++[x.d]))) z_ e_ e_ z_ p g;rw[show((i+1:Nat):Int)=(i:Int)+1 by omega,aS]at y;refine⟨S',z,A,D,E,C,r,s,q,u,aE K _ _ t20L0.eq_1 ?_,I,?_⟩;.simp(disch:=omega)only[go_sem,j,m,v,aD n,g,dT,e,o,aC];exact X_ er y
       .simpa  using G
    .have H:bS x=R1++[x.d]:=by rw[<-hR1];unfold bS;rw[K_ T]
     have J:fR x=true:=by unfold fR;simp;omega
     rw[H,J];generalize (R1++[x.d]).any (nE rg)=an at *
     cases fm with
     |false =>refine⟨T2,.ret,j_ 2,.lb ((aJ x).map .iv),.tsl S.length (aZ (R1++[x.d])),e_,j_ i,e_,e_,e_,aE K _ _ t20L0.eq_1 ?_,p,.inr ⟨rfl,rfl,rfl⟩⟩;rw[aS];simp(disch:=omega)only[go_sem,j,m,v,aD n,g,dT,e,o,aC]
     |true =>
      cases an with
      |true =>refine⟨T2,.ret,j_ 2,.lb ((aJ x).map .iv),.tsl S.length (aZ (R1++[x.d])),e_,j_ i,e_,e_,e_,aE K _ _ t20L0.eq_1 ?_,p,.inr ⟨rfl,rfl,rfl⟩⟩;rw[aS];simp(disch:=omega)only[go_sem,j,m,v,aD n,g,dT,e,o,aC]
      |false =>
       by_cases hc1:cn=1
       .subst hc1;obtain⟨S',z,A,D,E,C,r,s,q,u,y,I,G⟩:=F T2 x2 (.lb ((aJ x).map .iv)) (.tsl S.length (aZ (R1++[x.d]))) e_ e_ e_ z_ p g;rw[show((i+1:Nat):Int)=(i:Int)+1 by omega,aS]at y;refine⟨S',z,A,D,E,C,r,s,q,u,aE K _ _ t20L0.eq_1 ?_,I,?_⟩;.simp(disch:=omega)only[go_sem,j,m,v,aD n,g,dT,e,o,aC];exact X_ er y
        .simpa  using G
       .refine⟨T2,.ret,j_ 2,.lb ((aJ x).map .iv),.tsl S.length (aZ (R1++[x.d])),e_,j_ i,e_,e_,e_,aE K _ _ t20L0.eq_1 ?_,p,.inr ⟨rfl,rfl,by simp[hc1]⟩⟩;rw[aS];simp(disch:=omega)only[go_sem,j,m,v,aD n,g,dT,e,o,aC]
    .have H:bS x=R1++[x.d]:=by rw[<-hR1];unfold bS;rw[K_ T]
     have J:fR x=true:=by unfold fR;simp;omega
     rw[H,J];generalize (R1++[x.d]).any (nE rg)=an at *
     cases fm with
     |false =>refine⟨T2,.ret,j_ 2,.lb ((aJ x).map .iv),.tsl S.length (aZ (R1++[x.d])),e_,j_ i,e_,e_,e_,aE K _ _ t20L0.eq_1 ?_,p,.inr ⟨rfl,rfl,rfl⟩⟩;rw[aS];simp(disch:=omega)only[go_sem,j,m,v,aD n,g,dT,e,o,aC]
     |true =>
      cases an with
      |true =>refine⟨T2,.ret,j_ 2,.lb ((aJ x).map .iv),.tsl S.length (aZ (R1++[x.d])),e_,j_ i,e_,e_,e_,aE K _ _ t20L0.eq_1 ?_,p,.inr ⟨rfl,rfl,rfl⟩⟩;rw[aS];simp(disch:=omega)only[go_sem,j,m,v,aD n,g,dT,e,o,aC]
      |false =>
       by_cases hc1:cn=1
       .subst hc1;obtain⟨S',z,A,D,E,C,r,s,q,u,y,I,G⟩:=F T2 x2 (.lb ((aJ x).map .iv)) (.tsl S.length (aZ (R1++[x.d]))) e_ e_ e_ z_ p g;rw[show((i+1:Nat):Int)=(i:Int)+1 by omega,aS]at y;refine⟨S',z,A,D,E,C,r,s,q,u,aE K _ _ t20L0.eq_1 ?_,I,?_⟩;.simp(disch:=omega)only[go_sem,j,m,v,aD n,g,dT,e,o,aC];exact X_ er y
        .simpa  using G
       .refine⟨T2,.ret,j_ 2,.lb ((aJ x).map .iv),.tsl S.length (aZ (R1++[x.d])),e_,j_ i,e_,e_,e_,aE K _ _ t20L0.eq_1 ?_,p,.inr ⟨rfl,rfl,by simp[hc1]⟩⟩;rw[aS];simp(disch:=omega)only[go_sem,j,m,v,aD n,g,dT,e,o,aC]
    .have H:bS x=R1++[x.d]:=by rw[<-hR1];unfold bS;rw[K_ T]
     have J:fR x=false:=by unfold fR;simp;omega
     rw[H,J];generalize (R1++[x.d]).any (nE rg)=an at *
     cases fm with
     |false =>refine⟨T2,.ret,j_ 2,.lb ((aJ x).map .iv),.tsl S.length (aZ (R1++[x.d])),z_,j_ i,e_,e_,e_,aE K _ _ t20L0.eq_1 ?_,p,.inr ⟨rfl,rfl,rfl⟩⟩;rw[aS];simp(disch:=omega)only[go_sem,j,m,v,aD n,g,dT,e,o,aC]
     |true =>
      cases an with
      |true =>refine⟨T2,.ret,j_ 2,.lb ((aJ x).map .iv),.tsl S.length (aZ (R1++[x.d])),z_,j_ i,e_,e_,e_,aE K _ _ t20L0.eq_1 ?_,p,.inr ⟨rfl,rfl,rfl⟩⟩;rw[aS];simp(disch:=omega)only[go_sem,j,m,v,aD n,g,dT,e,o,aC]
      |false =>
       obtain⟨S',z,A,D,E,C,r,s,q,u,y,I,G⟩:=F T2 x2 (.lb ((aJ x).map .iv)) (.tsl S.length (aZ (R1++[x.d]))) z_ e_ e_ z_ p g;rw[show((i+1:Nat):Int)=(i:Int)+1 by omega,aS]at y;refine⟨S',z,A,D,E,C,r,s,q,u,aE K _ _ t20L0.eq_1 ?_,I,?_⟩;.simp(disch:=omega)only[go_sem,j,m,v,aD n,g,dT,e,o,aC];exact X_ er y
       .simpa  using G
theorem ao0(l:Tq_):fY (.iv (.cp l)) 0=some (.iv (.cp l)):=by simp[fY]
theorem ao5(a b c d e f g h:IV):fY (.iv (.cp [a,b,c,d,e,f,g,h])) 5=some (.iv (.cp [f,g,h])):=by simp[fY]
theorem ao6(a b c d e f g h:IV):fY (.iv (.cp [a,b,c,d,e,f,g,h])) 6=some (.iv (.cp [g,h])):=by simp[fY]
attribute [go_sem] ao0 ao5 ao6
def gG(fn rg sl nd pr:Int)(rs:Bool)(ti:Tag)(ins:List VI):List IV:=[.int .i64 fn,.int .i64 rg,.int .i64 sl,.int .i64 nd,.int .i64 pr,.bool rs,.sl ti (ins.map aJ)]
def aI8(ins:List VI):Bool:=decide ((ins.getD (ins.length-1) default).op=66\/(ins.getD (ins.length-1) default).op=68\/(ins.getD (ins.length-1) default).op=72)
def aDc(rg sl nd pr:Int)(ins:List VI):Prop:=32<=rg/\0<=nd/\0<=sl/\0<=pr/\0<ins.length
instance (rg sl nd pr:Int) (ins:List VI):Decidable (aDc rg sl nd pr ins):=by unfold aDc;infer_instance
def sI(rg sl nd pr:Int)(ins:List VI):Bool:=decide (aDc rg sl nd pr ins)&&(!ins.any (qM rg ins)&&aI8 ins)
theorem aP9(fn rg sl nd pr:Int)(rs:Bool)(ti:Tag)(ins:List VI)(p:ins.length<=1000000)(m:∀x∈ins,x.us.length<=999990/\cB x.tu x.us):TM.Pure K 20 [.iv (.agg (gG fn rg sl nd pr rs ti ins))] (j_ (if sI rg sl nd pr ins then 0 else 2)):=by
 unfold sI;have a:(ins.map aJ).length=ins.length:=L_ _;by_cases hh:aDc rg sl nd pr ins
 .rw[V_ hh,Q8];obtain⟨P,I,h3,Q,D⟩:=hh;obtain⟨S1,q,c,u,n,o,e,g,z,C⟩:=aI7 (fn:=fn) (rg:=rg) (sl:=sl) (nd:=nd) (pr:=pr) (rs:=rs) (ti:=ti) (ins:=ins) p (.iv (.agg (gG fn rg sl nd pr rs ti ins))) (.ptr 0 25 0) (j_ 0) u_ u_ u_ z_ u_ u_ u_ u_ u_ u_ u_ u_ ins.length 0 [bxF fn rg sl nd pr rs ti ins,.mp (mpR vI []) 0] [] 0 u_ u_ u_ A_ rfl rfl (fun L=>by simp[lR,dK,oK]);obtain⟨S2,H,J,G,N,E,A,r,v,s,l2,k,j⟩:=aUc (fn:=fn) (rg:=rg) (sl:=sl) (nd:=nd) (pr:=pr) (rs:=rs) (ti:=ti) p m C (.iv (.agg (gG fn rg sl nd pr rs ti ins))) u z_ (.iv (.sl ti (ins.map aJ))) (j_ ins.length) (j_ ins.length) n o u_ u_ ins.length 0 S1 (j_ 0) u_ u_ u_ u_ u_ u_ A_ g z;rw[n0_]at e l2;rw[C4]at j;have F:ins.length-1<ins.length:=A_;have d:=gC (w:=8) (f:=aJ) eZ (t:=ti) (l:=ins) (i:=((ins.length:Int)-1)) A_;rw[show((ins.length:Int)-1).toNat=ins.length-1 by omega,cV]at d;unfold aI8;generalize ins.getD (ins.length-1) default=x at *
  unfold bxF at e g k;rw[show mpR vI []=[] from rfl]at e;rw[show gG fn rg sl nd pr rs ti ins=[.int .i64 fn,.int .i64 rg,.int .i64 sl,.int .i64 nd,.int .i64 pr,.bool rs,.sl ti (ins.map aJ)] from rfl]at e l2 |-;have b:¬((ins.length:Nat):Int)=0:=A_;rcases j with⟨rfl,j⟩|⟨rfl,rfl,j⟩
  .rw[j,P8,Q8];rcases(by omega:x.op=66\/x.op=68\/x.op=72\/(x.op≠66/\x.op≠68/\x.op≠72))with h|h|h|⟨ha,hb,hd⟩;.rw[V_ (.inl h),K_ rfl];refine aT t20 rfl rfl ?_;simp(disch:=omega)only[t20,go_sem,a,b];rw[e];simp(disch:=omega)only[go_sem,g,a];rw[l2];simp(disch:=omega)only[go_sem,k,a,d,aC]
   .rw[V_ (.inr (.inl h)),K_ rfl];refine aT t20 rfl rfl ?_;simp(disch:=omega)only[t20,go_sem,a,b];rw[e];simp(disch:=omega)only[go_sem,g,a];rw[l2];simp(disch:=omega)only[go_sem,k,a,d,aC]
   .rw[V_ (.inr (.inr h)),K_ rfl];refine aT t20 rfl rfl ?_;simp(disch:=omega)only[t20,go_sem,a,b];rw[e];simp(disch:=omega)only[go_sem,g,a];rw[l2];simp(disch:=omega)only[go_sem,k,a,d,aC]
   .rw[l_ A_,I_ C_];refine aT t20 rfl rfl ?_;simp(disch:=omega)only[t20,go_sem,a,b];rw[e];simp(disch:=omega)only[go_sem,g,a];rw[l2];simp(disch:=omega)only[go_sem,k,a,d,aC]
  .rw[j,E7,K6,I_ C_];refine aT t20 rfl rfl ?_;simp(disch:=omega)only[t20,go_sem,a,b];rw[e];simp(disch:=omega)only[go_sem,g,a];rw[l2];simp(disch:=omega)only[go_sem]
 .rw[l_ hh,K6,I_ C_];unfold aDc at hh;refine aT t20 rfl rfl ?_;unfold gG;rcases(by omega:rg<32\/(32<=rg/\nd<0)\/(32<=rg/\0<=nd/\sl<0)\/(32<=rg/\0<=nd/\0<=sl/\pr<0)\/(32<=rg/\0<=nd/\0<=sl/\0<=pr/\ins.length=0))with h|h|h|h|h;.simp(disch:=omega)only[t20,go_sem,a]
  .simp(disch:=omega)only[t20,go_sem,a]
  .simp(disch:=omega)only[t20,go_sem,a]
  .simp(disch:=omega)only[t20,go_sem,a]
  .have y:((ins.length:Nat):Int)=0:=A_;simp(disch:=omega)only[t20,go_sem,a,y]
theorem ixL{I:Te_}{n i:Nat}(h:i<n)(t:Tag):indexAddrS 1 (.iv (.sl t (bK I n))) (i:Int)=some (.iv (.cp [.sl (jL (aZ (wlI 0 (I i)))) (TM.one (.int .i64) (wlI 0 (I i)))])):=by refine aO4 A_ ?_ rfl;rw[Int.toNat_natCast];unfold bK;rw[p_,F3 h];rfl
theorem aDd{rg:Int}{ins:List VI}(h:ins.any (qM rg ins)=false){i:Nat}(b:i<ins.length)(e:fR (ins.getD i default)=true):∃q:Nat,dL ins (ins.getD i default).lb=some (q:Int)/\q<ins.length:=by
 have a:ins.getD i default∈ins:=by simp only[List.getD,D_ b,Option.getD_some];exact B8 _
 rw[t_]at h;have d:=h _ a;cases hf:dL ins (ins.getD i default).lb with
 |some k =>have:=aGy hf;exact⟨k.toNat,by rw[R7 this.1],by omega⟩
 |none =>
  exfalso;apply d;have c:oK ins (ins.getD i default).lb=0:=by unfold dL at hf;rw[Option.map_eq_none_iff,U5]at hf;unfold oK;rw[H6.2 (fun x a=>by rw[hf x a];simp)];rfl
  rw[show qM rg ins (ins.getD i default)=(!nC (ins.getD i default).op (ins.getD i default).im||((bS (ins.getD i default)).any (nE rg)||(fR (ins.getD i default)&&decide (oK ins (ins.getD i default).lb≠1)))) from rfl,e,c];simp
def mD(l:List VI)(i:Nat):List Int :=
 if(l.getD i default).op=68\/(l.getD i default).op=72 then []else
  (if(26<=(l.getD i default).op/\(l.getD i default).op<=31)\/(l.getD i default).op=66 then [(dL l (l.getD i default).lb).getD (-1)]else []) ++
  (if(l.getD i default).op≠66/\i+1<l.length then [(i:Int)+1]else [])
inductive LvR (ins:List VI) (r:Int):Nat->Prop
 |use {i:Nat} (h:r∈bF (ins.getD i default)):LvR ins r i
 |step {i:Nat} {k:Int} (hk:k∈mD ins i) (h:LvR ins r k.toNat) (hd:r∉aY (ins.getD i default)):LvR ins r i
theorem aDe{v:VI}{x:Int}(h:x∈bF v):0<x:=by
 unfold bF at h;repeat' split at h
 all_goals first|exact aIu h|cases h
theorem bKy{lb:Td_}{ins:List VI}(a:∀L,dK lb L=dL ins L){i:Nat}(b:(26<=(ins.getD i default).op/\(ins.getD i default).op<=31)\/(ins.getD i default).op=66->∃q:Nat,dL ins (ins.getD i default).lb=some (q:Int)/\q<ins.length):bhd lb ins i=(mD ins i).map Int.toNat:=by
 unfold bhd mD;split;.rfl
 .rw[E2];congr 1
  .split;.rename_i h;obtain⟨q,c,_⟩:=b h;unfold lR;rw[a,c];rfl
   .rfl
  .split;.rfl
   .rfl
theorem bQs{ins:List VI}{i:Nat}(b:(26<=(ins.getD i default).op/\(ins.getD i default).op<=31)\/(ins.getD i default).op=66->∃q:Nat,dL ins (ins.getD i default).lb=some (q:Int)/\q<ins.length):∀k∈mD ins i,0<=k/\k<ins.length:=by
 intro k a;unfold mD at a;split at a;.cases a
 .rw[a_]at a;rcases a with a|a
  .split at a;.rename_i h;obtain⟨q,c,d⟩:=b h;rw[c,Option.getD_some,U_]at a;omega
   .cases a
  .split at a;.rename_i h;rw[U_]at a;omega
   .cases a
section
variable {rg:Nat}{lb:List (Nat×Int×Int)}{ins:List VI}{I O U D:Nat->List Nat}(hbd:∀i,i<ins.length->bhd lb ins i=(mD ins i).map Int.toNat)(hbe:∀i,i<ins.length->∀k∈mD ins i,0<=k/\k<ins.length)(h2:∀j r,j<ins.length->(bit (U j) r=true↔(r:Int)∈bF (ins.getD j default)/\r<rg))(h3:∀j r,j<ins.length->(bit (D j) r=true↔(r:Int)∈aY (ins.getD j default)/\r<rg))
include hbd hbe h2 h3
theorem bUa{r i:Nat}(h:Lv lb ins U D r i):i<ins.length->LvR ins r i/\0<r/\r<rg:=by
 induction h with
 |use h =>intro d;obtain⟨a,b⟩:=(h2 _ r d).1 h;have:=aDe a;exact⟨.use a,by omega,b⟩
 |step hk h hd ih =>intro d;rw[hbd _ d,A0]at hk;obtain⟨z,e,rfl⟩:=hk;have f:=hbe _ d z e;obtain⟨a,b,c⟩:=ih A_;refine⟨.step e a fun g=>?_,b,c⟩;rw[(h3 _ r d).2 ⟨g,c⟩]at hd;cases hd
theorem bKz(d:∀j,j<ins.length->(∀r,bit (I j) r=eqn lb ins U D I j r)/\∀r,bit (O j) r=aBv lb ins I j r){r:Int}{i:Nat}(h:LvR ins r i)(k:r<rg):i<ins.length->0<=r/\bit (I i) r.toNat=true:=by
 induction h with
 |use h =>intro a;have l:=aDe h;refine⟨by omega,?_⟩;rw[(d _ a).1,eqn,(h2 _ r.toNat a).2 ⟨by rw[R7 A_];exact h,by omega⟩,G2]
 |@step jj kk hk h hd ih =>
  intro a;have g:=hbe _ a _ hk;obtain⟨c,f⟩:=ih A_;refine⟨c,?_⟩;have b:bit (D jj) r.toNat=false:=by
   cases e:bit (D jj) r.toNat with
   |false=>rfl
   |true =>have:=((h3 _ r.toNat a).1 e).1;rw[R7 c]at this;exact absurd this hd
  rw[(d _ a).1,eqn,b,P8,Z3,D3];right;unfold aBv;rw[hbd _ a];exact E8.2 ⟨_,A0.2 ⟨_,hk,rfl⟩,f⟩
end
theorem cW{C:Ta_}{x:Int}:x∈tdy C↔x∈C/\0<x:=(jM C).mem x
def zB(ins:List VI)(x:Int)(i:Nat):Prop:=∃k∈mD ins i,LvR ins x k.toNat
theorem aUd{lb:Td_}{ins:List VI}{I:Te_}{i r:Nat}(b:bhd lb ins i=(mD ins i).map Int.toNat):aBv lb ins I i r=true↔∃k∈mD ins i,bit (I k.toNat) r=true:=by
 unfold aBv;rw[b,E8];constructor;.rintro⟨k,c,h⟩;obtain⟨z,a,rfl⟩:=A0.1 c;exact⟨z,a,h⟩
 .rintro⟨z,a,h⟩;exact⟨_,A0.2 ⟨z,a,rfl⟩,h⟩
theorem aQa{f:VF}(Q:f.regs<=100000)(P:f.ins.length<=1000000)(s:∀x∈f.ins,x.us.length<=999990/\cB x.tu x.us)(u:sI f.regs f.sl f.nd f.pr f.ins=true): ∃I O:Nat->List Nat,TM.Pure K 21 [.iv (.agg (kY f))] (.tup [.iv (.sl (jL (bK I f.ins.length)) (bK I f.ins.length)),j_ 0]) /\TM.Pure K 13 [.iv (.agg (kY f))] (.tup [.iv (.sl (jL (bK O f.ins.length)) (bK O f.ins.length)),j_ 0]) /\∀i,i<f.ins.length->((wlI 0 (I i)).length<=f.regs+63/\(wlI 0 (O i)).length<=f.regs+63)/\(∀x,x∈wlI 0 (I i)↔1<=x/\x<f.regs/\LvR f.ins x i)/\(∀x,x∈wlI 0 (O i)↔1<=x/\x<f.regs/\zB f.ins x i):=by
 obtain⟨fn,rg,sl,nd,pr,rs,ti,ins⟩:=f;dsimp only at *
 have p:=aP9 fn rg sl nd pr rs ti ins A_ s;rw[u,K_ rfl]at p;have H:=u;unfold sI at u;simp only[P_,q_,D7]at u;obtain⟨⟨J,_,_,_,L⟩,t,y⟩:=u;obtain⟨lb,I,O,U,D,A,w,G,o,N,F,h3,C⟩:=bT7 (f:=⟨fn,rg,sl,nd,pr,rs,ti,ins⟩) (by show 32<=rg;omega) (by show rg<=_;omega) (by show ins.length<=_;omega) L s p;dsimp only at *
 have E:∀i,i<ins.length->(26<=(ins.getD i default).op/\(ins.getD i default).op<=31)\/(ins.getD i default).op=66->∃q:Nat,dL ins (ins.getD i default).lb=some (q:Int)/\q<ins.length:=fun i g h=>aDd t g (by
  unfold fR;rcases h with h|h;.rw[V_ h];rfl
  .rw[V_ h,M9,G2])
 have l:=fun i (g:i<ins.length)=>bKy (lb:=lb) (ins:=ins) N (i:=i) (E i g);have j:=fun i (g:i<ins.length)=>bQs (ins:=ins) (i:=i) (E i g);have key:∀(i:Nat) (x:Int),i<ins.length->((∃n:Nat,x=n/\bit (I i) n=true)↔1<=x/\x<rg/\LvR ins x i):=fun i x g=>by
  constructor;.rintro⟨n,rfl,m⟩;obtain⟨a,b,c⟩:=bUa l j F h3 (G.snd _ _ m) g;exact⟨by omega,by omega,a⟩
  .rintro⟨a,b,c⟩;obtain⟨d,e⟩:=bKz l j F h3 C c b g;exact⟨x.toNat,by omega,e⟩
 have v:∀W:List Nat,WOK ((rg+63) / 64) W->(wlI 0 W).length<=rg+63:=fun W h=>by have a:=aTw 0 W;rw[h.len]at a;omega
 refine⟨I,O,A,w,fun i g=>⟨⟨v _ (o i g).1,v _ (o i g).2⟩,fun x=>?_,fun x=>?_⟩⟩;.rw[bB9,key i x g]
 .rw[bB9];constructor;.rintro⟨n,rfl,m⟩;rw[(C i g).2,aUd (l i g)]at m;obtain⟨k,r,m⟩:=m;have z:=j i g k r;obtain⟨a,b,c⟩:=(key k.toNat n A_).1 ⟨n,rfl,m⟩;exact⟨a,b,k,r,c⟩
  .rintro⟨a,b,k,r,c⟩;have z:=j i g k r;obtain⟨n,e,m⟩:=(key k.toNat x A_).2 ⟨a,b,c⟩;exact⟨n,e,by rw[(C i g).2,aUd (l i g)];exact⟨k,r,m⟩⟩
def bV(σ:List Int)(n:Int):Option Nat:=σ.findIdx? fun x=>x==n
theorem nV{σ:Ta_}{n:Int}{k:Nat}(h:bV σ n=some k):σ[k]?=some n:=by unfold bV at h;obtain⟨b,a,_⟩:=F4.1 h;rw[D_ b];simp at a;rw[a]
theorem jA{σ:Ta_}{n:Int}:bV σ n=none↔n∉σ:=by
 unfold bV;rw[U5];constructor;.intro h b;have:=h n b;simp at this
 .intro h x a;simp only[S_,ne_eq];exact fun e=>h (e▸a)
theorem aW2{σ:Ta_}{n:Int}(h:n∈σ):∃k,bV σ n=some k:=by
 cases hs:bV σ n with
 |none=>exact absurd h (jA.1 hs)
 |some k=>exact⟨k,rfl⟩
theorem bCt{σ:Ta_}{n m:Int}{k:Nat}(h:bV σ n=some k)(g:bV σ m=some k):n=m:=by have b:=nV h;have a:=nV g;rw[b]at a;exact D6 a
def ldI(r:Int)(k:Nat):VI:=⟨73,r,0,0,k,0,.nil,[],.nil,[]⟩
def stI(r:Int)(k:Nat):VI:=⟨74,0,r,0,k,0,.nil,[],.nil,[]⟩
def qN(σ:List Int)(r n:Int):List VI×Int×Int:=match bV σ n with
 |none=>([],n,r)
 |some k=>([ldI r k],r,r+1)
def low(n:Int):Int:=if 32<=n then 0 else n
def opA(σ:List Int)(r:Int)(x:VI):List VI×Int×Int:=if x.a∈bF x then qN σ r x.a else([],low x.a,r)
def opB(σ:List Int)(r:Int)(x:VI):List VI×Int×Int :=
 if x.b∈bF x then(if x.b=x.a then([],(opA σ r x).2.1,(opA σ r x).2.2)else qN σ (opA σ r x).2.2 x.b)else([],low x.b,(opA σ r x).2.2)
def opD(σ:List Int)(r:Int)(x:VI):Int×List VI×Int :=
 if x.d∈aY x then(match bV σ x.d with
  |none=>(x.d,[],(opB σ r x).2.2)
  |some k=>((opB σ r x).2.2,[stI (opB σ r x).2.2 k],(opB σ r x).2.2+1))else(low x.d,[],(opB σ r x).2.2)
def zC(t:Tag)(l:List Int):Tag:=if l=[]then(if t=.nil then .nil else .full)else .no
def eR(σ:List Int)(r:Int)(x:VI):VI:={x with a:=(opA σ r x).2.1,b:=(opB σ r x).2.1,d:=(opD σ r x).1,tu:=zC x.tu x.us}
def bZ(σ:List Int)(r:Int)(x:VI):List VI:=(opA σ r x).1++(opB σ r x).1
def fH(σ:List Int)(r:Int)(x:VI):List VI:=(opD σ r x).2.1
def dM(σ:List Int)(r:Int)(x:VI):List VI:=bZ σ r x++eR σ r x::fH σ r x
def eL(σ:List Int)(r:Int)(x:VI):Int:=(opD σ r x).2.2
def rwM(σ:List Int):Int->List VI->List (List VI)
 |_,[]=>[]
 |r,x::l=>dM σ r x::rwM σ (eL σ r x) l
def rwR(σ:List Int):Int->List VI->Int
 |r,[]=>r
 |r,x::l=>rwR σ (eL σ r x) l
theorem aQb(σ:Ta_):∀(r:Int) (l:List VI),(rwM σ r l).length=l.length
 |_,[]=>rfl
 |r,x::l=>by rw[rwM,List.length_cons,List.length_cons,aQb σ _ l]
def cnt(σ:List Int):Int->List VI->Nat->Int
 |r,_,0=>r
 |r,[],_+1=>r
 |r,x::l,c+1=>cnt σ (eL σ r x) l c
theorem aI9(σ:Ta_):∀(r:Int) (l:List VI) (c:Nat),c<l.length->(rwM σ r l)[c]?=some (dM σ (cnt σ r l c) (l.getD c default))
 |r,[],c,h=>by simp at h
 |r,x::l,0,h=>by rw[rwM,cnt];rfl
 |r,x::l,c+1,h=>by rw[rwM,cnt,List.getElem?_cons_succ,aI9 σ _ l c (by simpa using h)];rfl
def cL(L:List (List VI))(c:Nat):Nat:=((L.take c).map List.length).sum
theorem aW3{L:List (List VI)}{c:Nat}{B:List VI}(h:L[c]?=some B):cL L (c+1)=cL L c+B.length:=by unfold cL;rw[G9,h,Option.toList,E2,List.sum_append];simp
theorem uL:∀(L:List (List VI)) (c j:Nat) (B:List VI),L[c]?=some B->j<B.length->L.flatten[cL L c+j]?=B[j]?
 |[],c,j,B,h,_=>by simp at h
 |A::L,0,j,B,h,hj=>by simp at h;subst h;rw[List.flatten_cons,show cL (A::L) 0=0 from rfl,A7,Y_ hj]
 |A::L,c+1,j,B,h,hj=>by
  have e:cL (A::L) (c+1)=A.length+cL L c:=by unfold cL;rw[List.take_succ_cons,Q_,List.sum_cons]
  rw[List.flatten_cons,e,r_ A_,show A.length+cL L c+j-A.length=cL L c+j by omega];exact uL L c j B (by simpa using h) hj
theorem aG0:∀(L:List (List VI)) (k:Nat),k<L.flatten.length->∃c j B,L[c]?=some B/\j<B.length/\k=cL L c+j
 |[],k,h=>by simp at h
 |A::L,k,h=>by
  rw[List.flatten_cons,H_]at h;by_cases hk:k<A.length;.exact⟨0,k,A,rfl,hk,by show k=0+k;omega⟩
  .obtain⟨c,j,B,a,b,h3⟩:=aG0 L (k-A.length) A_;have e:cL (A::L) (c+1)=A.length+cL L c:=by unfold cL;rw[List.take_succ_cons,Q_,List.sum_cons]
   exact⟨c+1,j,B,by simpa using a,b,by rw[e];omega⟩
theorem bCu(L:List (List VI)):cL L L.length=L.flatten.length:=by unfold cL;rw[C0,List.length_flatten]
structure aDf (ins:List VI):Prop where
 ls:∀x∈ins,x.op≠73/\x.op≠74
 us:∀x∈ins,∀u∈x.us,u<32
 cd:∀x∈ins,x.op=67->x.d<32
 lab:∀x∈ins,((26<=x.op/\x.op<=31)\/x.op=66)->∃c:Nat,dL ins x.lb=some (c:Int)
 one:∀c c':Nat,c<ins.length->c'<ins.length->(ins.getD c default).op=65->(ins.getD c' default).op=65->(ins.getD c default).lb=(ins.getD c' default).lb->c=c'
def aBw(σ:List Int):Prop:=∀n∈σ,32<=n
theorem bQ{ins:List VI}{c:Nat}(h:c<ins.length):ins.getD c default∈ins:=by rw[W_,D_ h];exact B8 h
theorem aG1{σ:Ta_}{r n:Int}{y:VI}(h:y∈(qN σ r n).1):∃k,bV σ n=some k/\y=ldI r k:=by
 unfold qN at h;split at h;.cases h
 .rename_i k hk;simp at h;exact⟨k,hk,h⟩
theorem aL7{σ:Ta_}{r:Int}{x y:VI}(h:y∈bZ σ r x):∃n k q,n∈bF x/\bV σ n=some k/\y=ldI q k:=by
 unfold bZ at h;rcases a_.1 h with h|h
 .unfold opA at h;split at h;.rename_i ha;obtain⟨k,a,b⟩:=aG1 h;exact⟨_,k,_,ha,a,b⟩
  .cases h
 .unfold opB at h;split at h
  .rename_i hb;split at h;.cases h
   .obtain⟨k,a,b⟩:=aG1 h;exact⟨_,k,_,hb,a,b⟩
  .cases h
theorem iS(σ:Ta_)(r:Int)(x:VI):(fH σ r x=[]/\(x.d∈aY x->x.d∉σ))\/(∃q k,fH σ r x=[stI q k]/\x.d∈aY x/\bV σ x.d=some k):=by
 unfold fH opD;split
 .rename_i hd;cases hs:bV σ x.d with
  |none=>exact .inl ⟨rfl,fun _=>jA.1 hs⟩
  |some k=>exact .inr ⟨_,k,rfl,hd,rfl⟩
 .rename_i hd;exact .inl ⟨rfl,fun h=>absurd h hd⟩
theorem aUe{σ:Ta_}{r:Int}{x:VI}{j:Nat}(h:j<(bZ σ r x).length):∃y∈bZ σ r x,(dM σ r x)[j]?=some y:=by refine⟨(bZ σ r x)[j],B8 _,?_⟩;unfold dM;rw[Y_ h,D_ h]
theorem aJa(σ:Ta_)(r:Int)(x:VI):(dM σ r x)[(bZ σ r x).length]?=some (eR σ r x):=by unfold dM;rw[r_ (O_ _),L8];rfl
theorem bCv{σ:Ta_}{r:Int}{x:VI}{j:Nat}(h:(bZ σ r x).length<j)(a:j<(dM σ r x).length):∃q k,fH σ r x=[stI q k]/\x.d∈aY x/\bV σ x.d=some k/\j=(bZ σ r x).length+1/\(dM σ r x)[j]?=some (stI q k):=by
 unfold dM at a |-;rw[H_,List.length_cons]at a;rcases iS σ r x with⟨b,_⟩|⟨q,k,c,e,h3⟩;.rw[b]at a;simp at a;omega
 .rw[c]at a |-;simp at a;obtain rfl:j=(bZ σ r x).length+1:=A_;refine⟨q,k,rfl,e,h3,rfl,?_⟩;rw[r_ A_,show(bZ σ r x).length+1-(bZ σ r x).length=1 by omega];rfl
def bG(σ:List Int)(r:Int)(ins:List VI):List VI:=(rwM σ r ins).flatten
def ofs(σ:List Int)(r:Int)(ins:List VI)(c:Nat):Nat:=cL (rwM σ r ins) c
theorem qO{σ:Ta_}{r:Int}{ins:List VI}{c j:Nat}(a:c<ins.length)(b:j<(dM σ (cnt σ r ins c) (ins.getD c default)).length): (bG σ r ins)[ofs σ r ins c+j]?=(dM σ (cnt σ r ins c) (ins.getD c default))[j]? := uL _ _ _ _ (aI9 σ r ins c a) b
theorem eS{σ:Ta_}{r:Int}{ins:List VI}{k:Nat}(d:k<(bG σ r ins).length):∃c j,c<ins.length/\j<(dM σ (cnt σ r ins c) (ins.getD c default)).length/\k=ofs σ r ins c+j:=by
 obtain⟨c,j,B,a,e,h3⟩:=aG0 _ k d;have b:c<ins.length:=by have:=(E_.1 a).1;rw[aQb]at this;exact this
 rw[aI9 σ r ins c b]at a;cases a
 exact⟨c,j,b,e,h3⟩
theorem xB{σ:Ta_}{r:Int}{ins:List VI}{c:Nat}(a:c<ins.length):ofs σ r ins (c+1)=ofs σ r ins c+(dM σ (cnt σ r ins c) (ins.getD c default)).length:=aW3 (aI9 σ r ins c a)
theorem aJb(σ:Ta_)(r:Int)(ins:List VI):ofs σ r ins ins.length=(bG σ r ins).length:=by have:=bCu (rwM σ r ins);rw[aQb]at this;exact this
theorem bQt{σ:Ta_}{r:Int}{ins:List VI}{c c':Nat}(h:c<c')(a:c'<=ins.length):ofs σ r ins c<ofs σ r ins c':=by
 induction c' with
 |zero=>omega
 |succ n ih =>
  have e:=xB (σ:=σ) (r:=r) (ins:=ins) (c:=n) A_;have b:0<(dM σ (cnt σ r ins n) (ins.getD n default)).length:=by unfold dM;simp;omega
  by_cases h1:c=n;.subst h1;omega
  .have:=ih A_ A_;omega
theorem oP(σ:Ta_)(r:Int)(x:VI):(bZ σ r x).length<(dM σ r x).length:=by unfold dM;simp
theorem bK0{σ:Ta_}{r:Int}{x:VI}(h:x.op=65):bZ σ r x=[]:=by
 have a:bF x=[]:=by unfold bF;simp[h]
 unfold bZ opA opB;simp[a]
theorem aL8{σ:Ta_}{r:Int}{x:VI}(h:x.op=66\/x.op=68\/x.op=72\/x.op=65\/(26<=x.op/\x.op<=31)):fH σ r x=[]:=by
 have c:aY x=[]:=by unfold aY;rw[I_ A_,I_ A_]
 rcases iS σ r x with⟨b,_⟩|⟨q,k,d,a,h3⟩;.exact b
 .rw[c]at a;cases a
def bCw(C Q:List VI):Prop:=Q.length=C.length/\∀(k:Nat) (y:VI),C[k]?=some y->∃z:VI,Q[k]?=some z/\z.lb=y.lb/\((y.op≠73/\y.op≠74/\z.op=y.op)\/((y.op=73\/y.op=74)/\(z.op=64\/z.op=69\/z.op=73\/z.op=74)))
theorem aW4(C:List VI):bCw C C:=⟨rfl,fun k y h=>⟨y,h,rfl,by
 by_cases h1:y.op=73\/y.op=74
 .exact .inr ⟨h1,by omega⟩
 .exact .inl ⟨by omega,by omega,rfl⟩⟩⟩
theorem jF{σ:Ta_}{r:Int}{x y:VI}{j:Nat}(h:(dM σ r x)[j]?=some y):(j<(bZ σ r x).length/\∃n k q,n∈bF x/\bV σ n=some k/\y=ldI q k)\/(j=(bZ σ r x).length/\y=eR σ r x)\/(j=(bZ σ r x).length+1/\∃q k,fH σ r x=[stI q k]/\x.d∈aY x/\bV σ x.d=some k/\y=stI q k):=by
 have g:=(E_.1 h).1;rcases M3 j (bZ σ r x).length with a|a|a
 .obtain⟨z,b,e⟩:=aUe a;rw[h]at e;cases e
  exact .inl ⟨a,aL7 b⟩
 .subst a;have:=aJa σ r x;rw[h]at this;cases this
  exact .inr (.inl ⟨rfl,rfl⟩)
 .obtain⟨q,k,f,h3,i,c,e⟩:=bCv a g;rw[h]at e;cases e
  exact .inr (.inr ⟨c,q,k,f,h3,i,rfl⟩)
theorem aAq{l:List VI}{L:Int}{c:Nat}(h:dL l L=some (c:Int)):c<l.length/\(l.getD c default).op=65/\(l.getD c default).lb=L/\∀j,j<c->¬((l.getD j default).op=65/\(l.getD j default).lb=L):=by
 unfold dL at h;obtain⟨c',f,g⟩:=G_.1 h;have:c'=c:=by exact_mod_cast g
 subst this;obtain⟨b,h3,i⟩:=F4.1 f;have e:∀j (a:j<l.length),l.getD j default=l[j]:=fun j a=>by rw[W_,D_ a];rfl
 simp only[P_,q_]at h3;refine⟨b,by rw[e _ b];exact h3.1,by rw[e _ b];exact h3.2,fun j a d=>?_⟩;have:=i j a;rw[e _ A_]at d;simp[d.1,d.2]at this
theorem aW5{l:List VI}{L:Int}{c:Nat}(d:c<l.length)(b:(l.getD c default).op=65/\(l.getD c default).lb=L)(g:∀j,j<c->¬((l.getD j default).op=65/\(l.getD j default).lb=L)):dL l L=some (c:Int):=by
 have e:∀j (a:j<l.length),l.getD j default=l[j]:=fun j a=>by rw[W_,D_ a];rfl
 unfold dL;have:l.findIdx? (fun x=>decide (x.op=65)&&decide (x.lb=L))=some c:=by
  rw[F4];refine⟨d,?_,fun j a=>?_⟩;.rw[e _ d]at b;simp[b.1,b.2]
  .have:=g j a;rw[e _ A_]at this;intro f;simp only[P_,q_]at f;exact this f
 rw[this];rfl
theorem getD_some{l:List VI}{k:Nat}{y:VI}(h:l[k]?=some y):l.getD k default=y:=by rw[W_,h];rfl
theorem aQc{ins:List VI}{σ:Ta_}{r:Int}{Q:List VI}(x:bCw (bG σ r ins) Q){L:Int}{c:Nat}(h:dL ins L=some (c:Int)):dL Q L=some (ofs σ r ins c:Nat):=by
 obtain⟨G,A,E,h3⟩:=aAq h;have H:=bK0 (σ:=σ) (r:=cnt σ r ins c) A;have y:=aJa σ (cnt σ r ins c) (ins.getD c default);rw[H]at y;have F:=oP σ (cnt σ r ins c) (ins.getD c default);have d:=qO (σ:=σ) (r:=r) G (j:=0) A_;rw[show(dM σ (cnt σ r ins c) (ins.getD c default))[0]?=some _ from y,Nat.add_zero]at d;obtain⟨z,l,C,D⟩:=x.2 _ _ d;have m:=(E_.1 l).1;have w:z.op=65:=by
  have:(eR σ (cnt σ r ins c) (ins.getD c default)).op=65:=A;rcases D with⟨_,_,h⟩|⟨h,_⟩;.rw[h];exact this
  .rw[this]at h;omega
 refine aW5 m ⟨by rw[getD_some l];exact w,by rw[getD_some l,C];exact E⟩ fun k J i=>?_;have v:k<(bG σ r ins).length:=by rw[<-x.1];omega
 obtain⟨c',j,s,o,rfl⟩:=eS v;have a:=qO (σ:=σ) (r:=r) s o;rw[D_ o]at a;obtain⟨I,p,f,t⟩:=x.2 _ _ a;rw[getD_some p]at i;have b:(dM σ (cnt σ r ins c') (ins.getD c' default))[j].op=65:=by
  rcases t with⟨_,_,h⟩|⟨_,h⟩;.rw[<-h];exact i.1
  .have:=i.1;omega
 rcases jF (D_ o)with⟨_,n,k,q,_,_,e⟩|⟨_,e⟩|⟨_,q,k,_,_,_,e⟩;.rw[e]at b;exact absurd b (by show ¬(73:Int)=65;decide)
 .rw[e]at b f;have u:c'<c:=by
   rcases M3 c' c with g|g|g;.exact g
   .subst g;omega
   .have:=bQt (σ:=σ) (r:=r) (ins:=ins) g A_;omega
  exact h3 c' u ⟨b,by rw[<-i.2,f];rfl⟩
 .rw[e]at b;exact absurd b (by show ¬(74:Int)=65;decide)
theorem pM{ins:List VI}(C:aDf ins){σ:Ta_}{r:Int}{Q:List VI}(w:bCw (bG σ r ins) Q)
  {c j:Nat} (A:c<ins.length) (u:j<(dM σ (cnt σ r ins c) (ins.getD c default)).length) {k':Int} (b:k'∈mD Q (ofs σ r ins c+j)):
  (k'=((ofs σ r ins c+(j+1):Nat):Int)/\j+1<(dM σ (cnt σ r ins c) (ins.getD c default)).length) \/
  ((bZ σ (cnt σ r ins c) (ins.getD c default)).length<=j/\∃c':Nat,c'<ins.length/\(c':Int)∈mD ins c/\k'=(ofs σ r ins c':Nat)/\(j=(bZ σ (cnt σ r ins c) (ins.getD c default)).length->fH σ (cnt σ r ins c) (ins.getD c default)=[])):=by
 have m:=qO (σ:=σ) (r:=r) A u
 rw[D_ u]at m
 obtain⟨z,H,I,F⟩:=w.2 _ _ m
 have G:=jF (D_ u)
 have D:=oP σ (cnt σ r ins c) (ins.getD c default)
 have g:=bQ A
 unfold mD at b
 rw[getD_some H]at b
 generalize hy:(dM σ (cnt σ r ins c) (ins.getD c default))[j]=y at *
 split at b
 .cases b
 rename_i hnt
 rcases a_.1 b with b|b
 ·-- a jump
  split at b
  .rename_i hjm
   have f:y.op=z.op:=by
    rcases F with⟨_,_,h⟩|⟨_,h⟩
    .exact h.symm
    .omega
   rcases G with⟨_,n,k,q,_,_,e⟩|⟨p,e⟩|⟨_,q,k,_,_,_,e⟩
   .exfalso;rw[e]at f;have:(73:Int)=z.op:=f;omega
   .have d:(ins.getD c default).op=z.op:=by rw[<-f,e];rfl
    have s:(ins.getD c default).lb=z.lb:=by rw[I,e];rfl
    obtain⟨c',i⟩:=C.lab _ g (by rw[d];exact hjm)
    have L:=aQc w i
    rw[<-s,L]at b
    rw[U_]at b
    refine .inr ⟨by omega,c',(aAq i).1,?_,b,fun _=>aL8 (by rw[d];omega)⟩
    unfold mD
    rw[I_ (by rw[d];exact hnt),K_ (by rw[d];exact hjm),i]
    exact G4 _ (U_.2 rfl)
   .exfalso;rw[e]at f;have:(74:Int)=z.op:=f;omega
  .cases b
 ·-- the next
  split at b
  .rename_i hnx
   rw[U_]at b
   by_cases hl:j+1<(dM σ (cnt σ r ins c) (ins.getD c default)).length
   .exact .inl ⟨by rw[b];omega,hl⟩
   .have E:ofs σ r ins c+j+1=ofs σ r ins (c+1):=by rw[xB A];omega
    have o:c+1<ins.length:=by
     have v:=hnx.2
     rw[w.1,E,<-aJb]at v
     by_cases l:c+1<ins.length
     .exact l
     .have:c+1=ins.length:=A_
      rw[this]at v;omega
    have d:¬((ins.getD c default).op=68\/(ins.getD c default).op=72)/\(ins.getD c default).op≠66:=by
     rcases G with⟨N,_⟩|⟨p,e⟩|⟨_,q,k,v,l,_,e⟩
     .omega
     .have x:z.op=(ins.getD c default).op:=by
       have J:=C.ls _ g
       have:y.op=(ins.getD c default).op:=by rw[e];rfl
       rcases F with⟨_,_,h⟩|⟨h,_⟩
       .rw[h,this]
       .rw[this]at h;omega
      rw[x]at hnt hnx
      exact⟨hnt,hnx.1⟩
     .unfold aY at l
      split at l
      .omega
      .split at l
       .omega
       .cases l
    refine .inr ⟨by omega,c+1,o,?_,by rw[b,<-E];omega,fun p=>?_⟩
    .unfold mD
     rw[I_ d.1]
     exact G0 _ (by rw[K_ ⟨d.2,o⟩];simp)
    .cases hp:fH σ (cnt σ r ins c) (ins.getD c default)with
     |nil=>rfl
     |cons a t =>
      exfalso
      apply hl
      unfold dM
      rw[hp,H_,List.length_cons,List.length_cons];omega
  .cases b
theorem aG2(σ:Ta_)(r n:Int):r<=(qN σ r n).2.2/\(qN σ r n).2.2<=r+1:=by unfold qN;split<;>dsimp only<;>omega
theorem bCx(σ:Ta_)(r:Int)(x:VI):r<=(opA σ r x).2.2/\(opA σ r x).2.2<=r+1:=by
 unfold opA;split;.exact aG2 ..
 .dsimp only;omega
theorem aL9(σ:Ta_)(r:Int)(x:VI):r<=(opB σ r x).2.2/\(opB σ r x).2.2<=r+2:=by
 have h:=bCx σ r x;unfold opB;split
 .split;.dsimp only;omega
  .have:=aG2 σ (opA σ r x).2.2 x.b;omega
 .dsimp only;omega
theorem aCc(σ:Ta_)(r:Int)(x:VI):r<=eL σ r x/\eL σ r x<=r+3:=by
 have h:=aL9 σ r x;unfold eL opD;split;.split<;>dsimp only<;>omega
 .dsimp only;omega
theorem sJ(σ:Ta_):∀(r:Int) (l:List VI) (c:Nat),r<=cnt σ r l c
 |r,l,0=>by rw[cnt];omega
 |r,[],c+1=>by rw[cnt];omega
 |r,x::l,c+1=>by rw[cnt];have:=sJ σ (eL σ r x) l c;have:=aCc σ r x;omega
theorem xC(σ:Ta_)(r:Int)(x:VI):(opA σ r x).2.2=r+(opA σ r x).1.length/\((opA σ r x).1=[]\/∃k,x.a∈bF x/\bV σ x.a=some k/\(opA σ r x).1=[ldI r k]/\(opA σ r x).2.1=r):=by
 unfold opA;split
 .rename_i h;unfold qN;cases hs:bV σ x.a with
  |none=>exact⟨by simp,.inl rfl⟩
  |some k=>exact⟨rfl,.inr ⟨k,h,rfl,rfl,rfl⟩⟩
 .exact⟨by simp,.inl rfl⟩
theorem aJc(σ:Ta_)(r:Int)(x:VI):(opB σ r x).2.2=(opA σ r x).2.2+(opB σ r x).1.length/\((opB σ r x).1=[]\/∃k,x.b∈bF x/\bV σ x.b=some k/\(opB σ r x).1=[ldI (opA σ r x).2.2 k]/\(opB σ r x).2.1=(opA σ r x).2.2):=by
 unfold opB;split
 .rename_i h;split;.exact⟨by simp,.inl rfl⟩
  .unfold qN;cases hs:bV σ x.b with
   |none=>exact⟨by simp,.inl rfl⟩
   |some k=>exact⟨rfl,.inr ⟨k,h,rfl,rfl,rfl⟩⟩
 .exact⟨by simp,.inl rfl⟩
theorem jV(σ:Ta_)(r:Int)(x:VI):(opB σ r x).2.2=r+(bZ σ r x).length/\(bZ σ r x).length<=2:=by
 obtain⟨e,c⟩:=xC σ r x;obtain⟨h3,d⟩:=aJc σ r x;unfold bZ;rw[H_];have a:(opA σ r x).1.length<=1:=by rcases c with h|⟨_,_,_,h,_⟩<;>rw[h]<;>simp
 have b:(opB σ r x).1.length<=1:=by rcases d with h|⟨_,_,_,h,_⟩<;>rw[h]<;>simp
 omega
theorem aUf{σ:Ta_}{r:Int}{x y:VI}{j:Nat}(h:(bZ σ r x)[j]?=some y):∃n k,n∈bF x/\bV σ n=some k/\y=ldI (r+j) k:=by
 obtain⟨c,g⟩:=xC σ r x;obtain⟨h3,f⟩:=aJc σ r x;unfold bZ at h;rcases g with e2|⟨k,l,i,e2,_⟩
 .rw[e2]at h c;rcases f with a|⟨d,e,b,a,_⟩;.rw[a]at h;simp at h
  .rw[a]at h;cases j with
   |zero =>simp at h c;exact⟨_,d,e,b,by rw[<-h,c];simp⟩
   |succ j=>simp at h
 .rw[e2]at h c;cases j with
  |zero =>simp at h;exact⟨_,k,l,i,by rw[<-h];simp⟩
  |succ j =>
   rcases f with a|⟨d,e,b,a,_⟩;.rw[a]at h;simp at h
   .rw[a]at h;cases j with
    |zero =>simp at h c;exact⟨_,d,e,b,by rw[<-h,c];rfl⟩
    |succ j=>simp at h
theorem aJd{n:Int}(h:0<low n):low n=n:=by unfold low at *;split at h;omega;rename_i h1;rw[I_ h1]
theorem aJe(σ:Ta_)(r:Int)(x:VI):(x.a∈bF x/\x.a∉σ/\(opA σ r x).2.1=x.a)\/(∃j:Nat,j<(bZ σ r x).length/\(opA σ r x).2.1=r+j)\/(x.a∉bF x/\(opA σ r x).2.1=low x.a):=by
 rcases(xC σ r x).2 with e|⟨k,_,_,e,e2⟩
 .unfold opA at e |-;split
  .rename_i hm;rw[K_ hm]at e;unfold qN at e |-;cases hs:bV σ x.a with
   |none=>exact .inl ⟨hm,jA.1 hs,rfl⟩
   |some k=>rw[hs]at e;simp at e
  .rename_i hm;exact .inr (.inr ⟨hm,rfl⟩)
 .refine .inr (.inl ⟨0,?_,by rw[e2];simp⟩);unfold bZ;rw[e];simp
theorem aUg(σ:Ta_)(r:Int)(x:VI):(x.b∈bF x/\x.b∉σ/\(opB σ r x).2.1=x.b)\/(∃j:Nat,j<(bZ σ r x).length/\(opB σ r x).2.1=r+j)\/(x.b∉bF x/\(opB σ r x).2.1=low x.b):=by
 rcases(aJc σ r x).2 with e|⟨k,_,_,e,e2⟩
 .unfold opB at e |-;split
  .rename_i hm;rw[K_ hm]at e;split
   .rename_i he;rcases aJe σ r x with⟨a,c,h3⟩|a|⟨a,_⟩;.exact .inl ⟨hm,by rw[he];exact c,by dsimp only;rw[h3,he]⟩
    .exact .inr (.inl a)
    .rw[he]at hm;exact absurd hm a
   .rename_i he;rw[I_ he]at e;unfold qN at e |-;cases hs:bV σ x.b with
    |none=>exact .inl ⟨hm,jA.1 hs,rfl⟩
    |some k=>rw[hs]at e;simp at e
  .rename_i hm;exact .inr (.inr ⟨hm,rfl⟩)
 .refine .inr (.inl ⟨(opA σ r x).1.length,?_,?_⟩);.unfold bZ;rw[e];simp
  .rw[e2,(xC σ r x).1]
theorem xD{σ:Ta_}(t:aBw σ){r:Int}{x:VI}(o:∀u∈x.us,u<32){n:Int}(h:n∈bF (eR σ r x)):(n∈bF x/\n∉σ)\/∃j:Nat,j<(bZ σ r x).length/\n=r+j:=by
 have key:∀m:Int,0<m->m=(opA σ r x).2.1->(x.a∈bF x\/((0<x.a->x.a∈bF x)))->(m∈bF x/\m∉σ)\/∃j:Nat,j<(bZ σ r x).length/\m=r+j:=fun m g e i=>by
  rcases aJe σ r x with⟨c,k,h3⟩|c|⟨c,k⟩;.rw[e,h3];exact .inl ⟨c,k⟩
  .rw[e];exact .inr c
  .rw[e,k]at g;have:=aJd g;rw[this]at g;rcases i with i|i;.exact absurd i c
   .exact absurd (i g) c
 have l:∀m:Int,0<m->m=(opB σ r x).2.1->(0<x.b->x.b∈bF x)->(m∈bF x/\m∉σ)\/∃j:Nat,j<(bZ σ r x).length/\m=r+j:=fun m g e i=>by
  rcases aUg σ r x with⟨c,k,h3⟩|c|⟨c,k⟩;.rw[e,h3];exact .inl ⟨c,k⟩
  .rw[e];exact .inr c
  .rw[e,k]at g;have:=aJd g;rw[this]at g;exact absurd (i g) c
 have p:(eR σ r x).op=x.op:=rfl;have q:(eR σ r x).a=(opA σ r x).2.1:=rfl;have e2:(eR σ r x).b=(opB σ r x).2.1:=rfl;have e3:(eR σ r x).us=x.us:=rfl;unfold bF at h;rw[p,q,e2,e3]at h;split at h
 .rename_i hop;have d:bF x=tdy [x.a,x.b]:=by unfold bF;rw[K_ hop]
  obtain⟨c,f⟩:=cW.1 h;rcases J_.1 c with c|c;.exact key n f c (.inr fun f=>by rw[d];exact cW.2 ⟨by simp,f⟩)
  .rw[U_]at c;exact l n f c fun f=>by rw[d];exact cW.2 ⟨by simp,f⟩
 .rename_i hop;split at h
  .rename_i hop2;have d:bF x=tdy [x.a]:=by unfold bF;rw[I_ hop,K_ hop2]
   obtain⟨c,f⟩:=cW.1 h;rw[U_]at c;exact key n f c (.inr fun f=>by rw[d];exact cW.2 ⟨by simp,f⟩)
  .rename_i hop2;split at h
   .rename_i hop3;have d:bF x=tdy (x.us++[26]):=by unfold bF;rw[I_ hop,I_ hop2,K_ hop3]
    refine .inl ⟨by rw[d];exact h,fun s=>?_⟩;have v:=t n s;obtain⟨c,f⟩:=cW.1 h;rcases a_.1 c with c|c;.have:=o n c;omega
    .rw[U_]at c;omega
   .cases h
theorem aMa{σ:Ta_}{r:Int}{x:VI}{n:Int}(h:n∈aY x)(f:n∉σ):n∈aY (eR σ r x):=by
 have l:(eR σ r x).op=x.op:=rfl;have k:(eR σ r x).d=(opD σ r x).1:=rfl;have g:∀m,m=x.d->m∈aY x->m∉σ->(opD σ r x).1=x.d:=fun m e j b=>by unfold opD;rw[K_ (by rw[<-e];exact j)];have:bV σ x.d=none:=jA.2 (by rw[<-e];exact b);rw[this]
 have i:=h;unfold aY at h |-;rw[l,k];split at h;.rename_i hop;rw[K_ hop];obtain⟨a,c⟩:=cW.1 h;rw[U_]at a;rw[g n a i f];exact cW.2 ⟨by simp[a],c⟩
 .rename_i hop;rw[I_ hop];split at h
  .rename_i hop2;rw[K_ hop2];obtain⟨a,c⟩:=cW.1 h;refine cW.2 ⟨?_,c⟩;rcases a_.1 a with a|a;.exact G4 _ a
   .refine G0 _ ?_;rcases J_.1 a with a|a;.simp[a]
    .rw[U_]at a;rw[g n a i f];simp[a]
  .cases h
theorem aG3{x:VI}(f:x.op=67->x.d<32){n:Int}(b:32<=n)(h:n∈aY x):n=x.d:=by
 unfold aY at h;split at h;.obtain⟨a,_⟩:=cW.1 h;rw[U_]at a;exact a
 .split at h
  .rename_i hop2;obtain⟨a,_⟩:=cW.1 h;rcases a_.1 a with a|a;.unfold dP at a;obtain⟨m,c,e⟩:=A0.1 a;have:=C5.1 c;omega
   .rcases J_.1 a with a|a;.omega
    .rw[U_]at a;exact a
  .cases h
def plI(y:VI):VI:=if y.op=73 then⟨69,y.d,0,0,0,0,.nil,[],.nil,[]⟩else if y.op=74 then⟨64,0,y.a,0,0,0,.nil,[],.nil,[]⟩else y
theorem bK1{C:List VI}(a:∀(k:Nat) (y:VI),C[k]?=some y->(y.op=73\/y.op=74)->y.lb=0):bCw C (C.map plI):=by
 refine⟨L_ _,fun k y h=>⟨plI y,by rw[p_,h];rfl,?_,?_⟩⟩
 .unfold plI;split;.exact(a k y h (.inl (by assumption))).symm
  .split;.exact(a k y h (.inr (by assumption))).symm
   .rfl
 .unfold plI;by_cases h1:y.op=73;.rw[K_ h1];exact .inr ⟨.inl h1,.inr (.inl rfl)⟩
  .rw[I_ h1];by_cases h2:y.op=74;.rw[K_ h2];exact .inr ⟨.inr h2,.inl rfl⟩
   .rw[I_ h2];exact .inl ⟨h1,h2,rfl⟩
theorem bK2{ins:List VI}(d:aDf ins){σ:Ta_}{r:Int}(k:Nat)(y:VI)(h:(bG σ r ins)[k]?=some y)(a:y.op=73\/y.op=74):y.lb=0:=by
 have i:=(E_.1 h).1;obtain⟨c,j,b,g,rfl⟩:=eS i;rw[qO b g]at h;rcases jF h with⟨_,n,q,m,_,_,e⟩|⟨_,e⟩|⟨_,q,m,_,_,_,e⟩;.rw[e];rfl
 .have:=d.ls _ (bQ b);rw[e]at a;have f:(ins.getD c default).op=73\/(ins.getD c default).op=74:=a;omega
 .rw[e];rfl
def plC(σ:List Int)(r:Int)(ins:List VI):List VI:=(bG σ r ins).map plI
theorem pN{ins:List VI}(a:aDf ins)(σ:Ta_)(r:Int):bCw (bG σ r ins) (plC σ r ins):=bK1 (bK2 a)
theorem aDg{σ:Ta_}{r:Int}{ins:List VI}{c j:Nat}(b:c<ins.length)(a:j<(dM σ (cnt σ r ins c) (ins.getD c default)).length): (plC σ r ins).getD (ofs σ r ins c+j) default=plI ((dM σ (cnt σ r ins c) (ins.getD c default))[j]):=by refine getD_some ?_;unfold plC;rw[p_,qO b a,D_ a];rfl
theorem aJf(q:Int)(k:Nat):bF (plI (ldI q k))=[]/\(plI (ldI q k)).op=69/\aY (plI (ldI q k))=tdy [q]:=by unfold plI ldI;refine⟨by simp[bF],by simp,by simp[aY]⟩
theorem aDh(q:Int)(k:Nat):bF (plI (stI q k))=tdy [q]/\aY (plI (stI q k))=tdy [0]:=by unfold plI stI;refine⟨by simp[bF],by simp[aY]⟩
theorem sK{ins:List VI}(b:aDf ins){x:VI}(a:x∈ins)(σ:Ta_)(r:Int):plI (eR σ r x)=eR σ r x:=by have:=b.ls x a;unfold plI;rw[I_ (show ¬(eR σ r x).op=73 from this.1),I_ (show ¬(eR σ r x).op=74 from this.2)]
theorem xE{σ:Ta_}{r:Int}{x:VI}{q:Int}{k:Nat}(h:fH σ r x=[stI q k]):(opB σ r x).2.2=q:=by
 unfold fH opD at h;by_cases hd:x.d∈aY x
 .rw[K_ hd]at h;cases hs:bV σ x.d with
  |none=>rw[hs]at h;cases h
  |some m=>rw[hs]at h;exact X_ VI.a (Z4 h).1
 .rw[I_ hd]at h;cases h
theorem bUb{ins:List VI}(g:aDf ins){σ:Ta_}(C:aBw σ){r n:Int}(D:n<r)(x:n∉σ){k:Nat}(h:LvR (plC σ r ins) n k): ∀c j,c<ins.length->j<(dM σ (cnt σ r ins c) (ins.getD c default)).length->k=ofs σ r ins c+j ->(j<=(bZ σ (cnt σ r ins c) (ins.getD c default)).length->LvR ins n c)/\((bZ σ (cnt σ r ins c) (ins.getD c default)).length<j->∃c':Nat,(c':Int)∈mD ins c/\LvR ins n c'):=by
 induction h with
 |@use k h =>
  intro c j a d e;subst e;rw[aDg a d]at h;have E:=sJ σ r ins c;rcases jF (D_ d)with⟨hjp,m,q,w,_,_,e⟩|⟨hje,e⟩|⟨hje,q,w,hp,_,_,e⟩;.rw[e,(aJf ..).1]at h;cases h
  .rw[e,sK g (bQ a)]at h;rcases xD C (g.us _ (bQ a)) h with⟨l,_⟩|⟨i,F,l⟩;.exact⟨fun _=>.use l,fun o=>A_⟩
   .omega
  .exfalso;rw[e,(aDh ..).1]at h;obtain⟨l,_⟩:=cW.1 h;rw[U_]at l;have G:=xE hp;have:=aL9 σ (cnt σ r ins c) (ins.getD c default);omega
 |@step k k' hk hlv hd ih =>
  intro c j a d e;subst e;rw[aDg a d]at hd;rcases pM g (pN g σ r) a d hk with⟨s,f⟩|⟨z,c',t,b,s,v⟩
  .obtain⟨p,A⟩:=ih c (j+1) a f (by rw[s,Int.toNat_natCast]);rcases jF (D_ d)with⟨hjp,_⟩|⟨hje,e⟩|⟨hje,q,w,hp,_⟩;.exact⟨fun _=>p A_,fun o=>A_⟩
   .refine⟨fun _=>?_,fun o=>A_⟩;obtain⟨c',b,u⟩:=A A_;rw[e,sK g (bQ a)]at hd;exact .step b (by rw[Int.toNat_natCast];exact u) fun h=>hd (aMa h x)
   .exfalso;unfold dM at f;rw[hp,H_,List.length_cons,List.length_cons,List.length_nil]at f;omega
  .obtain⟨p,_⟩:=ih c' 0 t (by have:=oP σ (cnt σ r ins c') (ins.getD c' default);omega) (by rw[s,Int.toNat_natCast,Nat.add_zero]);have y:=p (I3 _);rcases jF (D_ d)with⟨hjp,_⟩|⟨hje,e⟩|⟨hje,q,w,hp,_⟩;.omega
   .rw[e,sK g (bQ a)]at hd;exact⟨fun _=>.step b (by rw[Int.toNat_natCast];exact y) fun h=>hd (aMa h x),fun o=>A_⟩
   .exact⟨fun o=>A_,fun _=>⟨c',b,y⟩⟩
inductive Rdb (C:List VI) (s:Int):Nat->Prop
 |load {i:Nat} (h:(C.getD i default).op=73) (hs:(C.getD i default).im=s):Rdb C s i
 |step {i:Nat} {k:Int} (hk:k∈mD C i) (h:Rdb C s k.toNat) (hs:¬((C.getD i default).op=74/\(C.getD i default).im=s)):Rdb C s i
theorem aG4{σ:Ta_}{r:Int}{ins:List VI}{c j:Nat}(b:c<ins.length)(a:j<(dM σ (cnt σ r ins c) (ins.getD c default)).length): (bG σ r ins).getD (ofs σ r ins c+j) default=(dM σ (cnt σ r ins c) (ins.getD c default))[j]:=by refine getD_some ?_;rw[qO b a,D_ a]
theorem bCy{ins:List VI}(x:aDf ins){σ:Ta_}(J:aBw σ){r n:Int}{s:Nat}(t:bV σ n=some s){k:Nat}(h:Rdb (bG σ r ins) s k): ∀c j,c<ins.length->j<(dM σ (cnt σ r ins c) (ins.getD c default)).length->k=ofs σ r ins c+j ->(j<=(bZ σ (cnt σ r ins c) (ins.getD c default)).length->LvR ins n c)/\((bZ σ (cnt σ r ins c) (ins.getD c default)).length<j->bV σ (ins.getD c default).d≠some s/\∃c':Nat,(c':Int)∈mD ins c/\LvR ins n c'):=by
 have f:32<=n:=J n (B4 (nV t));induction h with
 |@load k h hs' =>
  intro c j l g e;subst e;rw[aG4 l g]at h hs';rcases jF (D_ g)with⟨hjp,m,w,q,hm,hms,e⟩|⟨hje,e⟩|⟨hje,q,w,hp,_,_,e⟩
  .rw[e]at hs';have G:w=s:=by have:(w:Int)=s:=hs';omega
   subst G;rw[bCt t hms];exact⟨fun _=>.use hm,fun z=>A_⟩
  .rw[e]at h;exact absurd h (x.ls _ (bQ l)).1
  .rw[e]at h;exact absurd h (by show ¬(74:Int)=73;decide)
 |@step k k' hk hlv hns ih =>
  intro c j l g e;subst e;rw[aG4 l g]at hns;have b:=bQ l;have p:∀h:bV σ (ins.getD c default).d≠some s,n∉aY (ins.getD c default):=fun h y=>by have:=aG3 (x.cd _ b) f y;rw[this]at t;exact h t
  rcases pM x (aW4 _) l g hk with⟨A,i⟩|⟨H,c',C,a,A,o⟩
  .obtain⟨D,I⟩:=ih c (j+1) l i (by rw[A,Int.toNat_natCast]);rcases jF (D_ g)with⟨hjp,_⟩|⟨hje,e⟩|⟨hje,q,w,hp,_⟩;.exact⟨fun _=>D A_,fun z=>A_⟩
   .obtain⟨h3,c',a,E⟩:=I A_;exact⟨fun _=>.step a (by rw[Int.toNat_natCast];exact E) (p h3),fun z=>A_⟩
   .exfalso;unfold dM at i;rw[hp,H_,List.length_cons,List.length_cons,List.length_nil]at i;omega
  .obtain⟨D,_⟩:=ih c' 0 C (by have:=oP σ (cnt σ r ins c') (ins.getD c' default);omega) (by rw[A,Int.toNat_natCast,Nat.add_zero]);have F:=D (I3 _);rcases jF (D_ g)with⟨hjp,_⟩|⟨hje,e⟩|⟨hje,q,w,hp,hdd,hsw,e⟩;.omega
   .refine⟨fun _=>.step a (by rw[Int.toNat_natCast];exact F) fun y=>?_,fun z=>A_⟩;have u:=aG3 (x.cd _ b) f y;rcases iS σ (cnt σ r ins c) (ins.getD c default)with⟨_,h0⟩|⟨q,w,h0,_⟩;.exact h0 (by rw[<-u];exact y) (by rw[<-u];exact B4 (nV t))
    .rw[o hje]at h0;cases h0
   .refine⟨fun z=>A_,fun _=>⟨fun v=>hns ?_,c',a,F⟩⟩;rw[e];refine⟨rfl,?_⟩;rw[hsw]at v;have:w=s:=D6 v;rw[this];rfl
def ltq(x y:Int×Int):Prop:=x.1<y.1\/(x.1=y.1/\x.2<y.2)
theorem bCz{l:Tb_}(h:l.Nodup):(gT l).Pairwise ltq:=by
 have f:(gT l).Nodup:=((kD l).nodup_iff).2 h;refine(List.Pairwise.and (rQ l) f).imp fun {a b} ⟨c,d⟩=>?_;unfold leP at c;rw[q_]at c;unfold ltq;rcases c with c|⟨c,h3⟩;.exact .inl c
 .refine .inr ⟨c,?_⟩;by_cases e:a.2=b.2;.exact absurd (Prod.ext c e) d
  .omega
def prP(a b:Int):Int×Int:=if a<=b then(a,b)else(b,a)
theorem bC0(a b:Int):prP a b=prP b a:=by
 unfold prP;by_cases h1:a<=b
 .by_cases h2:b<=a;.have:a=b:=A_;subst this;rfl
  .rw[K_ h1,I_ h2]
 .rw[I_ h1,K_ A_]
theorem aDi{a b c d:Int}:prP a b=prP c d↔(a=c/\b=d)\/(a=d/\b=c):=by unfold prP;split<;>split<;>simp only[B5]<;>omega
def mvP(x:VI)(p:Int×Int):Prop:=x.op=64/\p=prP x.a x.d
def bC1(x:VI)(O:List Int)(p:Int×Int):Prop:=∃d∈aY x,∃r∈O++aY x,r≠d/\¬mvP x (prP d r)/\p=prP d r
def oZ(ins:List VI)(O:Nat->List Int)(p:Int×Int):Prop:=∃i,i<ins.length/\bC1 (ins.getD i default) (O i) p
def sL(ins:List VI)(p:Int×Int):Prop:=∃i,i<ins.length/\(ins.getD i default).op=64/\(ins.getD i default).a≠(ins.getD i default).d/\(ins.getD i default).a≠0/\(ins.getD i default).d≠0/\p=prP (ins.getD i default).a (ins.getD i default).d
def InP(rg:Int)(p:Int×Int):Prop:=1<=p.1/\p.1<p.2/\p.2<rg
theorem bC2{rg a b:Int}(c:1<=a/\a<rg)(d:1<=b/\b<rg)(h:a≠b):InP rg (prP a b):=by unfold prP InP;split<;>simp only<;>omega
theorem bK3{rg:Int}{ins:List VI}{O:Nat->List Int}(c:∀i,i<ins.length->∀d∈aY (ins.getD i default),1<=d/\d<rg)(g:∀i,i<ins.length->∀d∈O i,1<=d/\d<rg){p:Int×Int}(h:oZ ins O p):InP rg p:=by
 obtain⟨i,a,d,f,r,e,b,_,rfl⟩:=h;refine bC2 (c i a d f) ?_ (B0 b);rcases a_.1 e with h|h;.exact g i a r h
 .exact c i a r h
theorem bK4{rg:Int}{ins:List VI}(j:∀i,i<ins.length->0<=(ins.getD i default).a/\(ins.getD i default).a<rg)(g:∀i,i<ins.length->(ins.getD i default).op=64->0<=(ins.getD i default).d/\(ins.getD i default).d<rg){p:Int×Int}(h:sL ins p):InP rg p:=by obtain⟨i,c,e,f,h3,k,rfl⟩:=h;have a:=j i c;have b:=g i c e;exact bC2 A_ A_ f
structure bW1 (rg a b:Int) (f:Int->Int->Bool) (L:List (Int×Int)):Prop where
 inc:L.Pairwise ltq
 mem:∀p,p∈L↔InP rg p/\(p.1<a\/(p.1=a/\p.2<b))/\f p.1 p.2=true
theorem pO{σ:Ta_}(j:aBw σ){r:Int}{x:VI}{n:Int}(h:n∈aY (eR σ r x)):(n∈aY x/\n∉σ)\/(n=r+(bZ σ r x).length/\∃k,fH σ r x=[stI n k]/\x.d∈aY x/\x.d∈σ):=by
 have o:=(jV σ r x).1;have key:n=(opD σ r x).1->(0<x.d->x.d∈aY x)->0<n->(n∈aY x/\n∉σ)\/(n=r+(bZ σ r x).length/\∃k,fH σ r x=[stI n k]/\x.d∈aY x/\x.d∈σ):=fun e b g=>by
  unfold opD at e;unfold fH opD;by_cases hd:x.d∈aY x
  .rw[K_ hd]at e |-;cases c:bV σ x.d with
   |none =>rw[c]at e;dsimp only at e;rw[e];exact .inl ⟨hd,jA.1 c⟩
   |some k =>rw[c]at e;dsimp only at e;exact .inr ⟨by rw[e,o],k,by rw[e],hd,B4 (nV c)⟩
  .rw[I_ hd]at e;dsimp only at e;rw[e]at g;have:=aJd g;rw[this]at g;exact absurd (b g) hd
 unfold aY at h;rw[show(eR σ r x).op=x.op from rfl,show(eR σ r x).d=(opD σ r x).1 from rfl]at h;split at h;.rename_i hop;obtain⟨a,b⟩:=cW.1 h;exact key (U_.1 a) (fun b=>by unfold aY;rw[K_ hop];exact cW.2 ⟨by simp,b⟩) b
 .rename_i hop;split at h
  .rename_i hop2;obtain⟨a,b⟩:=cW.1 h;have f:∀m,m∈dP++[31,x.d]->0<m->m∈aY x:=fun m i l=>by unfold aY;rw[I_ hop,K_ hop2];exact cW.2 ⟨i,l⟩
   rcases a_.1 a with a|a;.refine .inl ⟨f n (G4 _ a) b,fun c=>?_⟩;have:=j n c;unfold dP at a;obtain⟨m,i,e⟩:=A0.1 a;have:=C5.1 i;omega
   .rcases J_.1 a with a|a;.refine .inl ⟨f n (by rw[a];simp) b,fun c=>?_⟩;have:=j n c;omega
    .exact key (U_.1 a) (fun b=>f _ B_ b) b
  .cases h
theorem sM(σ:Ta_):∀(r:Int) (l:List VI) (c:Nat),c<l.length->cnt σ r l (c+1)=eL σ (cnt σ r l c) (l.getD c default)
 |r,[],c,h=>by simp at h
 |r,x::l,0,h=>by rw[cnt,cnt,cnt];rfl
 |r,x::l,c+1,h=>by have:=sM σ (eL σ r x) l c (by simpa using h);rw[cnt,cnt,this];rfl
theorem aUh(σ:Ta_)(r:Int)(x:VI):eL σ r x=r+(bZ σ r x).length+(fH σ r x).length:=by
 have a:=(jV σ r x).1;unfold eL fH opD;split
 .split;.simp[a]
  .simp[a]
 .simp[a]
theorem aDj(σ:Ta_)(r:Int)(l:List VI){c c':Nat}(h:c<=c')(a:c'<=l.length):cnt σ r l c<=cnt σ r l c':=by
 induction c' with
 |zero =>obtain rfl:c=0:=A_;exact Z6 _
 |succ n ih =>
  by_cases e:c=n+1;.rw[e];exact Z6 _
  .have:=ih A_ A_;rw[sM σ r l n A_];have:=(aCc σ (cnt σ r l n) (l.getD n default)).1;omega
def aFz(σ:List Int)(r:Int)(ins:List VI)(c e:Nat):Prop:=c<ins.length/\e<(bZ σ (cnt σ r ins c) (ins.getD c default)).length+(fH σ (cnt σ r ins c) (ins.getD c default)).length
theorem pP{σ:Ta_}{r:Int}{ins:List VI}{c e c' e':Nat}(h:aFz σ r ins c e)(d:aFz σ r ins c' e')(k:cnt σ r ins c+e=cnt σ r ins c'+e'):c=c'/\e=e':=by
 obtain⟨f,i⟩:=h;obtain⟨h3,j⟩:=d;have a:=sM σ r ins c f;have b:=sM σ r ins c' h3;rw[aUh]at a b;rcases M3 c c' with g|g|g;.have:=aDj σ r ins (c:=c+1) (c':=c') A_ A_;omega
 .subst g;exact⟨rfl,by omega⟩
 .have:=aDj σ r ins (c:=c'+1) (c':=c) A_ A_;omega
theorem aUi{σ:Ta_}{r:Int}{ins:List VI}{c e:Nat}:r<=cnt σ r ins c+e:=by have:=sJ σ r ins c;omega
theorem sN(σ:Ta_)(r:Int)(x:VI):(fH σ r x).length<=1:=by rcases iS σ r x with⟨h,_⟩|⟨q,k,h,_⟩<;>rw[h]<;>simp
section
variable {ins:List VI}(hB:aDf ins){σ:List Int}(hv:aBw σ){r:Int}(hr:32<=r)(hin:∀x∈ins,∀n,n∈bF x\/n∈aY x->n<r)
include hB hv hr hin
theorem pQ{c j:Nat}(b:c<ins.length)(a:j<(dM σ (cnt σ r ins c) (ins.getD c default)).length): (j<(bZ σ (cnt σ r ins c) (ins.getD c default)).length/\bF ((plC σ r ins).getD (ofs σ r ins c+j) default)=[]/\aY ((plC σ r ins).getD (ofs σ r ins c+j) default)=[cnt σ r ins c+j]) \/(j=(bZ σ (cnt σ r ins c) (ins.getD c default)).length/\(plC σ r ins).getD (ofs σ r ins c+j) default=eR σ (cnt σ r ins c) (ins.getD c default)) \/(j=(bZ σ (cnt σ r ins c) (ins.getD c default)).length+1/\bF ((plC σ r ins).getD (ofs σ r ins c+j) default)=[cnt σ r ins c+(bZ σ (cnt σ r ins c) (ins.getD c default)).length]/\aY ((plC σ r ins).getD (ofs σ r ins c+j) default)=[]/\(fH σ (cnt σ r ins c) (ins.getD c default)).length=1):=by
 have g:=sJ σ r ins c;have one:∀q:Int,0<q->tdy [q]=[q]:=fun q f=>by rw[bV0];unfold xA;rw[I_ A_];rfl
 have d:tdy [0]=[]:=rfl;rcases jF (D_ a)with⟨hjp,_⟩|⟨hje,e⟩|⟨hje,q,w,hp,_,_,e⟩
 .obtain⟨y,i,e⟩:=aUe hjp;obtain⟨n,k,_,_,e2⟩:=aUf (D_ hjp);have e3:(dM σ (cnt σ r ins c) (ins.getD c default))[j]?=(bZ σ (cnt σ r ins c) (ins.getD c default))[j]? := by unfold dM;rw[Y_ hjp]
  rw[D_ a,D_ hjp]at e3;rw[aDg b a,D6 e3,e2];obtain⟨h,_,p3⟩:=aJf (cnt σ r ins c+j) k;exact .inl ⟨hjp,h,by rw[p3,one _ A_]⟩
 .rw[aDg b a,e,sK hB (bQ b)];exact .inr (.inl ⟨hje,rfl⟩)
 .have f:=xE hp;rw[(jV σ (cnt σ r ins c) (ins.getD c default)).1]at f;rw[aDg b a,e,(aDh q w).1,(aDh q w).2,<-f,one _ A_,d,hp];exact .inr (.inr ⟨hje,rfl,rfl,rfl⟩)
theorem aG5{n:Int}(g:n∈σ)(m:n<r){k:Nat}(e:k<(plC σ r ins).length):n∉bF ((plC σ r ins).getD k default)/\n∉aY ((plC σ r ins).getD k default):=by
 have b:k<(bG σ r ins).length:=by unfold plC at e;simpa using e
 obtain⟨c,j,f,o,rfl⟩:=eS b;have l:=sJ σ r ins c;rcases pQ hB hv hr hin f o with⟨_,a,d⟩|⟨_,a⟩|⟨_,a,d,_⟩;.rw[a,d];simp;omega
 .rw[a];refine⟨fun h=>?_,fun h=>?_⟩
  .rcases xD hv (hB.us _ (bQ f)) h with⟨_,h3⟩|⟨i,_,h3⟩;.exact h3 g
   .omega
  .rcases pO hv h with⟨_,h3⟩|⟨h3,_⟩;.exact h3 g
   .omega
 .rw[a,d];simp;omega
theorem bC3{l:List VI}{k:Nat}(h:¬k<l.length):l.getD k default=default:=by rw[W_,B7 A_];rfl
theorem aG6{n:Int}(b:n∈σ)(a:n<r){k:Nat}:¬LvR (plC σ r ins) n k:=fun h=>by
 induction h with
 |@use k h =>
  by_cases hk:k<(plC σ r ins).length;.exact(aG5 hB hv hr hin b a hk).1 h
  .rw[W_,B7 A_]at h;cases h
 |step _ _ _ ih=>exact ih
theorem aJg:(plC σ r ins).length=(bG σ r ins).length:=L_ _
theorem uM{c0 e:Nat}(n:aFz σ r ins c0 e){k:Nat}(h:LvR (plC σ r ins) (cnt σ r ins c0+e) k):
  ∀c j,c<ins.length->j<(dM σ (cnt σ r ins c) (ins.getD c default)).length->k=ofs σ r ins c+j ->
   c=c0/\e<j/\(e<(bZ σ (cnt σ r ins c0) (ins.getD c0 default)).length->j<=(bZ σ (cnt σ r ins c0) (ins.getD c0 default)).length):=by
 induction h with
 |@use k h =>
  intro c j a o s
  subst s
  have A:=aUi (σ:=σ) (r:=r) (ins:=ins) (c:=c0) (e:=e)
  rcases pQ hB hv hr hin a o with⟨_,g,_⟩|⟨f,g⟩|⟨f,g,_,y⟩
  .rw[g]at h;cases h
  .rw[g]at h
   rcases xD hv (hB.us _ (bQ a)) h with⟨h3,_⟩|⟨i,G,h3⟩
   .have:=hin _ (bQ a) _ (.inl h3);omega
   .obtain⟨rfl,rfl⟩:=pP n (c':=c) (e':=i) ⟨a,by omega⟩ h3
    exact⟨rfl,by omega,fun _=>A_⟩
  .rw[g,U_]at h
   obtain⟨rfl,rfl⟩:=pP n (c':=c) ⟨a,by omega⟩ h
   exact⟨rfl,by omega,fun h=>A_⟩
 |@step k k' s hlv hd ih =>
  intro c j a o p
  subst p
  rcases pM hB (pN hB σ r) a o s with⟨t,u⟩|⟨_,c',v,_,t,_⟩
  .obtain⟨rfl,g,D⟩:=ih c (j+1) a u (by rw[t,Int.toNat_natCast])
   refine⟨rfl,?_,fun h=>by have:=D h;omega⟩
   by_cases e2:e=j
   .exfalso
    subst e2
    rcases pQ hB hv hr hin a o with⟨_,_,h3⟩|⟨f,h3⟩|⟨f,_,_,_⟩
    .exact hd (by rw[h3];simp)
    ·-- what it stores
     rw[h3]at hd
     obtain⟨_,x⟩:=n
     have C:=sN σ (cnt σ r ins c) (ins.getD c default)
     rcases iS σ (cnt σ r ins c) (ins.getD c default)with⟨h0,_⟩|⟨q,w,y,hdd,_⟩
     .rw[h0,List.length_nil]at x;omega
     .have F:=xE y
      rw[(jV σ (cnt σ r ins c) (ins.getD c default)).1]at F
      apply hd
      have E:=hB.cd _ (bQ a)
      have l:(eR σ (cnt σ r ins c) (ins.getD c default)).d=cnt σ r ins c+e:=by
       show(opD σ (cnt σ r ins c) (ins.getD c default)).1=_
       have b:=y
       unfold fH opD at b
       unfold opD
       rw[K_ hdd]at b |-
       cases hs:bV σ (ins.getD c default).d with
       |none=>rw[hs]at b;cases b
       |some m=>dsimp only;rw[f,<-(jV σ (cnt σ r ins c) (ins.getD c default)).1]
      have z:=sJ σ r ins c
      unfold aY at hdd |-
      rw[show(eR σ (cnt σ r ins c) (ins.getD c default)).op=(ins.getD c default).op from rfl,l]
      split at hdd
      .rename_i hop
       rw[K_ hop]
       exact cW.2 ⟨by simp,by omega⟩
      .rename_i hop
       rw[I_ hop]
       split at hdd
       .rename_i hop2
        rw[K_ hop2]
        exact cW.2 ⟨by simp,by omega⟩
       .cases hdd
    .have:=n.2;have:=sN σ (cnt σ r ins c) (ins.getD c default);omega
   .omega
  .obtain⟨_,g,_⟩:=ih c' 0 v (by have:=oP σ (cnt σ r ins c') (ins.getD c' default);omega) (by rw[t,Int.toNat_natCast,Nat.add_zero])
   omega
end
def aF0(Q:List VI)(a b:Int):Prop:=∃i,i<Q.length/\∃d w,d∈aY (Q.getD i default)/\(w∈aY (Q.getD i default)\/zB Q w i)/\w≠d/\¬mvP (Q.getD i default) (prP d w)/\prP a b=prP d w
theorem xF:∀(l m:Ta_),l.Nodup->(∀x∈l,x∈m)->l.length<=m.length
 |[],m,_,_=>I3 _
 |a::l,m,hn,h=>by rw[C8]at hn;have b:=h a B_;have:=xF l (m.erase a) hn.2 fun x c=>(List.mem_erase_of_ne (fun e=>hn.1 (by rw[<-e];exact c))).2 (h x (by simp[c]));rw[List.length_erase_of_mem b]at this;have:=X3 b;rw[List.length_cons];omega
section
variable {ins:List VI}(hB:aDf ins){σ:List Int}(hv:aBw σ){r:Int}(hr:32<=r)(hin:∀x∈ins,∀n,n∈bF x\/n∈aY x->n<r)
include hB hv hr hin
theorem zD{w:Int}{k:Nat}(h:LvR (plC σ r ins) w k):w<r\/∃c e:Nat,aFz σ r ins c e/\w=cnt σ r ins c+e:=by
 induction h with
 |@use k h =>
  by_cases hk:k<(plC σ r ins).length
  .obtain⟨c,j,b,f,rfl⟩:=eS (by rw[<-aJg hB hv hr hin];exact hk);rcases pQ hB hv hr hin b f with⟨_,a,_⟩|⟨_,a⟩|⟨_,a,_,l⟩;.rw[a]at h;cases h
   .rw[a]at h;rcases xD hv (hB.us _ (bQ b)) h with⟨d,_⟩|⟨i,g,d⟩;.exact .inl (hin _ (bQ b) _ (.inl d))
    .exact .inr ⟨c,i,⟨b,by omega⟩,d⟩
   .rw[a,U_]at h;exact .inr ⟨c,_,⟨b,by omega⟩,h⟩
  .rw[bC3 hB hv hr hin hk]at h;cases h
 |step _ _ _ ih=>exact ih
theorem bC4{σ':Ta_}{x:VI}(b:x∈ins)(c:x.d∈σ){w:Int}(a:w∈aY x):w=x.d:=by
 have e:=hv _ c;unfold aY at a;split at a;.exact U_.1 (cW.1 a).1
 .split at a;.rename_i hop;have:=hB.cd x b hop;omega
  .cases a
theorem aDk{c:Nat}(g:c<ins.length)(b:(fH σ (cnt σ r ins c) (ins.getD c default)).length=1){w:Int}(f:w∈aY (eR σ (cnt σ r ins c) (ins.getD c default))):w=cnt σ r ins c+(bZ σ (cnt σ r ins c) (ins.getD c default)).length:=by
 rcases pO hv f with⟨a,e⟩|⟨a,_⟩
 .rcases iS σ (cnt σ r ins c) (ins.getD c default)with⟨h0,_⟩|⟨q,k,_,h3,h4⟩;.rw[h0]at b;cases b
  .have d:=B4 (nV h4);rw[bC4 hB hv hr hin (σ':=σ) (bQ g) d a]at e;exact absurd d e
 .exact a
theorem aW6(G:∀n,32<=n->n<r->n∈σ){c0 e:Nat}(P:aFz σ r ins c0 e){t:Int}(h:aF0 (plC σ r ins) (cnt σ r ins c0+e) t):
  (t<32/\(LvR ins t c0/\e<(bZ σ (cnt σ r ins c0) (ins.getD c0 default)).length\/zB ins t c0/\e=(bZ σ (cnt σ r ins c0) (ins.getD c0 default)).length))\/(∃e':Nat,e'<(bZ σ (cnt σ r ins c0) (ins.getD c0 default)).length/\e<(bZ σ (cnt σ r ins c0) (ins.getD c0 default)).length/\t=cnt σ r ins c0+e'):=by
 have Q:=aUi (σ:=σ) (r:=r) (ins:=ins) (c:=c0) (e:=e)
 have R:=sN σ (cnt σ r ins c0) (ins.getD c0 default)
 have s:aFz σ r ins c0 e:=P
 obtain⟨_,h0⟩:=P
 obtain⟨i,U,d,w,a,m,g,_,hp⟩:=h
 obtain⟨c,j,l,I,rfl⟩:=eS (by rw[<-aJg hB hv hr hin];exact U)
 have q:∀ {w:Int} {k:Nat},LvR (plC σ r ins) w k->w<r->w<32/\w∉σ:=fun {w k} p H=>by
  have b:w∉σ:=fun V=>aG6 hB hv hr hin V H p
  refine⟨?_,b⟩
  by_cases u:32<=w
  .exact absurd (G w u H) b
  .omega
 have pc:=pQ hB hv hr hin l I
 rcases aDi.1 hp with⟨J,e2⟩|⟨J,e2⟩
 ·-- it is defined here
  rw[<-J]at a g
  rw[e2]
  rcases pc with⟨x,_,b⟩|⟨D,b⟩|⟨_,_,b,_⟩
  .rw[b]at a m
   obtain⟨rfl,rfl⟩:=pP s (c':=c) (e':=j) ⟨l,by omega⟩ (U_.1 a)
   rcases m with m|⟨k',F,p⟩
   .exact absurd (U_.1 m) g
   rcases pM hB (pN hB σ r) l I F with⟨e3,o⟩|⟨u,_⟩
   .rcases zD hB hv hr hin p with h3|⟨c1,v,C,rfl⟩
    .obtain⟨E,z⟩:=q p h3
     obtain⟨T,_⟩:=bUb hB hv h3 z p c0 (e+1) l o (by rw[e3,Int.toNat_natCast])
     exact .inl ⟨E,.inl ⟨T A_,x⟩⟩
    .obtain⟨rfl,E,_⟩:=uM hB hv hr hin C p c0 (e+1) l o (by rw[e3,Int.toNat_natCast])
     exact .inr ⟨v,by omega,x,rfl⟩
   .omega
  .rw[b]at a m
   rcases pO hv a with⟨u,_⟩|⟨u,k,A,_,_⟩
   .have:=hin _ (bQ l) _ (.inr u);omega
   have f:(fH σ (cnt σ r ins c) (ins.getD c default)).length=1:=by rw[A];rfl
   obtain⟨rfl,rfl⟩:=pP s (c':=c) ⟨l,by omega⟩ u
   rcases m with m|⟨k',F,p⟩
   .exact absurd (aDk hB hv hr hin l f m) g
   rcases pM hB (pN hB σ r) l I F with⟨e3,o⟩|⟨_,c',_,_,_,h3⟩
   .rcases zD hB hv hr hin p with h3|⟨c1,v,C,rfl⟩
    .obtain⟨E,z⟩:=q p h3
     obtain⟨_,p2⟩:=bUb hB hv h3 z p c0 (j+1) l o (by rw[e3,Int.toNat_natCast])
     obtain⟨c',Z,Y⟩:=p2 A_
     exact .inl ⟨E,.inr ⟨⟨c',Z,by rw[Int.toNat_natCast];exact Y⟩,rfl⟩⟩
    .obtain⟨rfl,E,z⟩:=uM hB hv hr hin C p c0 (j+1) l o (by rw[e3,Int.toNat_natCast])
     exfalso
     have:v=(bZ σ (cnt σ r ins c0) (ins.getD c0 default)).length:=by
      by_cases h6:v<(bZ σ (cnt σ r ins c0) (ins.getD c0 default)).length
      .have:=z h6;omega
      .omega
     rw[this]at g
     exact g rfl
   .rw[h3 D]at f;cases f
  .rw[b]at a;cases a
 ·-- it is live here
  rw[<-J]at m g
  rw[e2]
  have y:∀(f:(fH σ (cnt σ r ins c) (ins.getD c default)).length=1),c=c0->e=(bZ σ (cnt σ r ins c0) (ins.getD c0 default)).length->d∈aY (eR σ (cnt σ r ins c) (ins.getD c default))->False:=fun f N W a=>by
   have:=aDk hB hv hr hin l f a
   subst N
   rw[<-W]at this
   exact g this.symm
  rcases m with m|⟨k',F,p⟩
  .exfalso
   rcases pc with⟨_,_,b⟩|⟨_,b⟩|⟨_,_,b,_⟩
   .rw[b]at a m
    exact g ((U_.1 m).trans (U_.1 a).symm)
   .rw[b]at a m
    rcases pO hv m with⟨u,_⟩|⟨u,k,A,_,_⟩
    .have:=hin _ (bQ l) _ (.inr u);omega
    .have f:(fH σ (cnt σ r ins c) (ins.getD c default)).length=1:=by rw[A];rfl
     obtain⟨rfl,rfl⟩:=pP s (c':=c) ⟨l,by omega⟩ u
     exact y f rfl rfl a
   .rw[b]at a;cases a
  rcases pM hB (pN hB σ r) l I F with⟨e3,o⟩|⟨_,c',L,_,e3,_⟩
  .obtain⟨rfl,E,z⟩:=uM hB hv hr hin s p c (j+1) l o (by rw[e3,Int.toNat_natCast])
   rcases pc with⟨x,_,b⟩|⟨D,b⟩|⟨D,_,b,_⟩
   .rw[b]at a
    exact .inr ⟨j,x,by omega,U_.1 a⟩
   .exfalso
    by_cases h6:e<(bZ σ (cnt σ r ins c) (ins.getD c default)).length
    .have:=z h6;omega
    .rw[b]at a
     exact y A_ rfl A_ a
   .rw[b]at a;cases a
  .obtain⟨_,E,_⟩:=uM hB hv hr hin s p c' 0 L (by have:=oP σ (cnt σ r ins c') (ins.getD c' default);omega) (by rw[e3,Int.toNat_natCast,Nat.add_zero])
   omega
theorem aF1(g:∀n,32<=n->n<r->n∈σ){c0 e:Nat}(q:aFz σ r ins c0 e) {Li Lo:Ta_} (u:∀t,1<=t->t<=24->LvR ins t c0->t∈Li) (l:Li.length<=16) (w:∀t,1<=t->t<=24->zB ins t c0->t∈Lo) (p:Lo.length<=16) {o:Tg_} (f:∀m,m<32->o m=m) (v:∀d:Nat,1<=d->d<=24->∃t:Nat,aF0 (plC σ r ins) (cnt σ r ins c0+e) t/\o t=d):False:=by
 have C:=(jV σ (cnt σ r ins c0) (ins.getD c0 default)).2;have key:∀L:List Int,L.length<=16->(∀t,1<=t->t<=24->(LvR ins t c0/\e<(bZ σ (cnt σ r ins c0) (ins.getD c0 default)).length\/zB ins t c0/\e=(bZ σ (cnt σ r ins c0) (ins.getD c0 default)).length)->t∈L)->False:=fun L A i=>by
  have b:=xF ((List.range 24).map fun n:Nat=>(n:Int)+1) (L++[o (cnt σ r ins c0).toNat,o (cnt σ r ins c0+1).toNat]) C_ (fun x z=>by
   obtain⟨n,s,rfl⟩:=A0.1 z;have y:=C5.1 s;obtain⟨t,k,a⟩:=v (n+1) A_ A_;rcases aW6 hB hv hr hin g q k with⟨j,c⟩|⟨e',j,_,c⟩;.rw[f t A_]at a;have:(t:Int)=(n:Int)+1:=A_;rw[<-this];exact G4 _ (i t A_ A_ c)
   .have:t=(cnt σ r ins c0+e').toNat:=A_;rw[this]at a;refine G0 _ ?_;rcases(by omega:e'=0\/e'=1)with e0|e0;.subst e0;rw[show cnt σ r ins c0+((0:Nat):Int)=cnt σ r ins c0 by omega]at a;rw[a];simp
    .subst e0;rw[show cnt σ r ins c0+((1:Nat):Int)=cnt σ r ins c0+1 by omega]at a;rw[a];simp)
  rw[L_,F8,H_]at b;simp at b;omega
 by_cases he:e<(bZ σ (cnt σ r ins c0) (ins.getD c0 default)).length;.exact key Li l fun t j c h=>u t j c (by rcases h with h|h;exact h.1;omega)
 .exact key Lo p fun t j c h=>w t j c (by rcases h with h|h;omega;exact h.1)
theorem aW7{n:Int}(f:n∈σ)(a:n<r){t:Int}:¬aF0 (plC σ r ins) n t:=by
 rintro⟨i,h,d,w,g,b,j,_,m⟩;have e:=aG5 hB hv hr hin f a h;rcases aDi.1 m with⟨c,e2⟩|⟨c,e2⟩;.rw[<-c]at g;exact e.2 g
 .rw[<-c]at b;rcases b with b|⟨k,_,l⟩;.exact e.2 b
  .exact aG6 hB hv hr hin f a l
theorem aW8{n:Int}(f:r<=n){t:Int}(h:aF0 (plC σ r ins) n t):∃c e:Nat,aFz σ r ins c e/\n=cnt σ r ins c+e:=by
 obtain⟨i,y,d,w,C,m,A,_,D⟩:=h;obtain⟨c,j,l,x,rfl⟩:=eS (by rw[<-aJg hB hv hr hin];exact y);have s:∀q,q∈aY ((plC σ r ins).getD (ofs σ r ins c+j) default)->r<=q->∃c e:Nat,aFz σ r ins c e/\q=cnt σ r ins c+e:=fun q b v=>by
  rcases pQ hB hv hr hin l x with⟨z,_,a⟩|⟨_,a⟩|⟨_,_,a,_⟩;.rw[a]at b;exact⟨c,j,⟨l,by omega⟩,U_.1 b⟩
  .rw[a]at b;rcases pO hv b with⟨p,_⟩|⟨p,k,o,_,_⟩;.have:=hin _ (bQ l) _ (.inr p);omega
   .exact⟨c,_,⟨l,by rw[o];simp⟩,p⟩
  .rw[a]at b;cases b
 rcases aDi.1 D with⟨g,e2⟩|⟨g,e2⟩;.exact s n (by rw[g];exact C) f
 .rcases m with m|⟨k,_,u⟩;.exact s n (by rw[g];exact m) f
  .rw[<-g]at u;rcases zD hB hv hr hin u with a|a;.omega
   .exact a
end
def aJh:aL:=(.region [⟨.allocH 98 [(.int .i64 0),(.int .i64 0)],(some 4),none⟩,⟨.store 2 (.reg 0) (.loc 6),none,none⟩])
def aF2:aL:=(.block 1
  (.region [⟨.load1 (.loc 2),none,none⟩,⟨.loadN 2 (.loc 4),none,none⟩,⟨.lit false [(.int .i64 0),(.int .i64 0)] 1 [(0,(.reg 1))],none,none⟩,⟨.append true 2 16 97 (.reg 0) (.reg 2),none,none⟩,⟨.store 1 (.loc 2) (.reg 3),none,none⟩]))
def e83(n:Nat)(x4 x6:TV):Env:=[.iv (.sl .nil []),.fn 116 [] [.ptr n 97 0],.ptr (n+1) 67 0,.iv (.sl .nil []),x4,.fn 116 [] [.ptr n 97 0],x6]
def mR(ks:List (Int×Int)):List TV:=(gR ks).map fun n=>.iv (.int .i64 n)
def zE(jr:Nat)(ks:List (Int×Int)):TV:=if ks=[]then .iv (.sl .nil [])else .msl jr (ks.length-1) 0 ks.length ks.length 2
theorem gK(a:Nat):zE a []=k_:=rfl
theorem dO(b:Nat){a:Tb_}(h:a≠[]):zE b a=.msl b (a.length-1) 0 a.length a.length 2:=I_ h
def aDl(S:aA)(jr:Nat)(ks:List (Int×Int)):Prop:=ks≠[]->S[jr]?=some (.cells (ks.length-1) true (mR ks))
theorem xG(a:Tb_):(mR a).length=a.length*2:=by unfold mR;rw[L_,nT];omega
theorem aQd(c:Tb_)(a b:Int):gR (c++[(a,b)])=gR c++[a,b]:=by
 induction c with
 |nil=>rfl
 |cons x r ih=>rw[List.cons_append,gR,ih,gR];rfl
theorem aW9(c:Tb_)(a b:Int):mR (c++[(a,b)])=mR c++[j_ a,j_ b]:=by unfold mR;rw[aQd,E2];rfl
theorem bK5{S:aA}{e:Nat}{c:Tb_}(h:aDl S e c)(a b:Int)(s:c.length<=1000000): ∃(f:Nat) (S1:aA),bA true 2 16 97 S (zE e c) (.iv (.sl .full [[.int .i64 a,.int .i64 b]]))=some (zE f (c++[(a,b)]),S1)/\aDl S1 f (c++[(a,b)])/\(c=[]/\f=S.length\/c≠[]/\f=e)/\S.length<=S1.length/\∀q B,S[q]?=some B->(c≠[]->q≠e)->S1[q]?=some B:=by
 have d:c++[(a,b)]≠[]:=B_;have p:dU S (.iv (.sl .full [[.int .i64 a,.int .i64 b]]))=some [j_ a,j_ b]:=rfl;have i:lenOf S (.iv (.sl .full [[.int .i64 a,.int .i64 b]]))=some 1:=rfl;by_cases h0:c=[]
 .subst h0;refine⟨S.length,S++[.cells 0 true (mR [(a,b)])],?_,fun _=>B_,.inl ⟨rfl,rfl⟩,by simp,fun q B k _=>aR k _⟩;rw[gK,dO _ d];simp[bA,dU,lenOf,TM.bC,bJ,TM.oL,eA,mR,gR]
 .have l:=h h0;have r:0<c.length:=N2.2 h0;have o:sub (mR c) 0 (c.length*2)=some (mR c):=mC (xG c);have g:eA (c.length+1) 16=true:=bR A_;have m:=xG c;refine⟨e,S.set e (.cells c.length true (mR (c++[(a,b)]))),?_,fun _=>?_,.inr ⟨h0,rfl⟩,by simp,fun q B k d=>by rw[aB (B0 (d h0))];exact k⟩
  .rw[dO _ h0,dO _ d,aW9,H_,List.length_singleton,N6];generalize mR c=cs at *
   generalize c.length=n at *
   simp[bA,p,i,l,bJ,o,g,show ¬n+1<=n by omega,show n-1+1=n by omega]
  .rw[H_,List.length_singleton,N6];exact aM (aN l) _
structure YK (S:aA) (n jm jr:Nat) (l:List (Nat×(Int×Int)×Int)) (c:Nat) (ks:List (Int×Int)):Prop where
 a:S[n]?=some (.cells 97 false [.map jm])
 b:S[n+1]?=some (.cells 67 false [zE jr ks])
 y:∃x4 x6,S[n+2]?=some (.lp .ready none (e83 n x4 x6) [6] aJh aF2)
 r:aDl S jr ks
 m:S[jm]?=some (.mp (mpK en2 qJ l) c)
 lt:jm<n
 jr:ks≠[]->n+3<jr
theorem bV1(S:aA)(a x:aG)(r:aA):(S++a::r).set S.length x=S++x::r:=by rw[E3 _ _ (O_ _)];simp
attribute [go_sem] bV1
theorem bQu{S:aA}{n jm t:Nat}{l:Tf_}{c:Nat}{f:Tb_}(h:YK S n jm t l c f)(a b:Int)(I:f.length<=1000000)(N:n+3<S.length): ∃(g:Nat) (S':aA),(lim K).yld (n+2) [.iv (.agg [.int .i64 a,.int .i64 b])] S=.ret (e_,S')/\YK S' n jm g l c (f++[(a,b)])/\S.length<=S'.length/\∀q B,S[q]?=some B->q≠n+1->q≠n+2->(f≠[]->q≠t)->S'[q]?=some B:=by
 obtain⟨x4,x6,A⟩:=h.y;have e:=h.jr;have w:=h.lt;generalize hS1:S++[aG.cells 98 false [j_ a,j_ b]]=S1;have C:S1.length=S.length+1:=by rw[<-hS1];simp
 have s:∀q B,S[q]?=some B->S1[q]?=some B:=fun q B i=>by rw[<-hS1];exact aR i _
 have E:=s _ _ A;generalize hT:S1.set (n+2) (.lp .busy none (e83 n x4 x6) [6] aJh aF2)=T;have J:T.length=S1.length:=by rw[<-hT];simp
 have k:∀q B,S1[q]?=some B->q≠n+2->T[q]?=some B:=fun q B i G=>by rw[<-hT,aB (B0 G)];exact i
 have tb:=k _ _ (s _ _ h.b) A_;have t4:T[S.length]?=some (.cells 98 false [j_ a,j_ b]):=k _ _ (by rw[<-hS1,cN]) A_;have ty:T[n+2]?=some (.lp .busy none (e83 n x4 x6) [6] aJh aF2):=by rw[<-hT];exact aM (aN E) _
 have H:aDl T t f:=fun d=>k _ _ (s _ _ (h.r d)) (by have:=e d;omega);obtain⟨g,S2,o,L,v,F,u⟩:=bK5 H a b I;have b2:=u _ _ tb (fun d=>by have:=e d;omega);have D:=u _ _ ty (fun d=>by have:=e d;omega);have z:n+3<g:=by rcases v with⟨_,rfl⟩|⟨d,rfl⟩;omega;exact e d
 refine⟨g,(S2.set (n+1) (.cells 67 false [zE g (f++[(a,b)])])).set (n+2) (.lp .ready none (e83 n x4 x6) [6] aJh aF2),?_,?_,?_,?_⟩
 .refine aPa (env2:=[k_,.fn 116 [] [.ptr n 97 0],.ptr (n+1) 67 0,k_,.ptr S.length 98 0,.fn 116 [] [.ptr n 97 0],.iv (.agg [.int .i64 a,.int .i64 b])]) (env3:=[k_,.fn 116 [] [.ptr n 97 0],.ptr (n+1) 67 0,k_,.ptr S.length 98 0,.fn 116 [] [.ptr n 97 0],.iv (.agg [.int .i64 a,.int .i64 b])]) (S1:=S1) (S2:=S2.set (n+1) (.cells 67 false [zE g (f++[(a,b)])])) A rfl ?_ E ?_ (by rw[aB A_];exact D);.subst hS1;simp(disch:=omega)only[aJh,e83,go_sem]
  .rw[hT];rw[dO _ (show f++[(a,b)]≠[] by simp)]at o |-;by_cases d:f=[]
   .subst d;rw[gK]at o tb b2;simp(disch:=omega)only[aF2,go_sem,t4,tb,o,b2]
   .rw[dO _ d]at o tb b2;simp(disch:=omega)only[aF2,go_sem,t4,tb,o,b2]
 .have kk:∀q B,S[q]?=some B->q≠n+1->q≠n+2->(f≠[]->q≠t)->((S2.set (n+1) (.cells 67 false [zE g (f++[(a,b)])])).set (n+2) (.lp .ready none (e83 n x4 x6) [6] aJh aF2))[q]?=some B:=fun q B i x p h3=>by rw[aB (B0 p),aB (B0 x)];exact u _ _ (k _ _ (s _ _ i) p) h3
  refine⟨kk _ _ h.a A_ A_ (fun d=>by have:=e d;omega),?_,⟨x4,x6,aM (by rw[F6];exact aN D) _⟩,fun d=>?_,kk _ _ h.m A_ A_ (fun d=>by have:=e d;omega),w,fun _=>z⟩;.rw[aB A_];exact aM (aN b2) _
  .rw[aB A_,aB A_];exact L d
 .rw[F6,F6];omega
 .intro q B i x p h3;rw[aB (B0 p),aB (B0 x)];exact u _ _ (k _ _ (s _ _ i) p) h3
structure Met (l:List (Nat×(Int×Int)×Int)) (seen:List Nat) (ks:List (Int×Int)):Prop where
 nd:ks.Nodup
 mem:∀k,k∈ks↔∃x∈l,x.1∈seen/\x.2.1=k
 len:ks.length<=seen.length
 sl:seen.length+aBu l seen<=l.length
theorem bK6{l:Tf_}(h:(l.map (·.2.1)).Nodup){x y:Nat×(Int×Int)×Int}(d:x∈l)(c:y∈l)(e:x.2.1=y.2.1):x=y:=by
 induction l with
 |nil=>cases d
 |cons z l ih =>
  rw[Q_,C8]at h;rcases J_.1 d with b|b
  .rcases J_.1 c with a|a;.rw[b,a]
   .exact absurd (by rw[<-b,e];exact F0 (f:=fun y:Nat×(Int×Int)×Int=>y.2.1) a) h.1
  .rcases J_.1 c with a|a;.exact absurd (by rw[<-a,<-e];exact F0 (f:=fun y:Nat×(Int×Int)×Int=>y.2.1) b) h.1
   .exact ih h.2 b a
theorem Met.next{l:Tf_}{c:Nat}(q:fG l c){i:Tc_}{s:Tb_}(h:Met l i s){x:Nat×(Int×Int)×Int}(n:x∈l)(r:x.1∉i):Met l (i++[x.1]) (s++[x.2.1]):=by
 refine⟨?_,fun k=>?_,by rw[H_,H_];have:=h.len;simp;omega,?_⟩;.rw[H9];refine⟨h.nd,by simp,fun a u b t e=>?_⟩;rw[U_]at t;subst t;subst e;obtain⟨y,m,g,o⟩:=(h.mem _).1 u;rw[bK6 q.keys m n o]at g;exact r g
 .rw[a_,h.mem,U_];constructor
  .rintro(⟨y,m,g,o⟩|rfl);.exact⟨y,m,by simp[g],o⟩
   .exact⟨x,n,by simp,rfl⟩
  .rintro⟨y,m,g,o⟩;rcases a_.1 g with g|g;.exact .inl ⟨y,m,g,o⟩
   .rw[U_]at g;right;rw[<-o];have key:∀l:List (Nat×(Int×Int)×Int),(l.map (·.1)).Nodup->x∈l->y∈l->y=x:=by
     intro l;induction l with
     |nil=>intro _ h;cases h
     |cons z l ih =>
      intro p n m;rw[Q_,C8]at p;rcases J_.1 n with j|j
      .rcases J_.1 m with d|d;.rw[j,d]
       .exact absurd (by rw[<-j,<-g];exact F0 (f:=fun y:Nat×(Int×Int)×Int=>y.1) d) p.1
      .rcases J_.1 m with d|d;.exact absurd (by rw[<-d,g];exact F0 (f:=fun y:Nat×(Int×Int)×Int=>y.1) j) p.1
       .exact ih p.2 j d
    rw[key l q.once n m]
 .have:=aPn n r;have:=h.sl;simp;omega
theorem aXa(l:Tf_):aBu l []=l.length:=by unfold aBu;rw[R8.2 B_]
theorem Met.nil(l:Tf_):Met l [] []:=⟨.nil,fun k=>B_,by simp,by rw[aXa];simp⟩
theorem Met.done{l:Tf_}{c:Nat}(e:fG l c){a:Tc_}{b:Tb_}(h:Met l a b)(d:∀x∈l,x.1∈a):b.Perm (l.map (·.2.1)):=by rw[U2 h.nd e.keys];intro k;rw[h.mem,A0];exact⟨fun⟨x,hx,_,he⟩=>⟨x,hx,he⟩,fun⟨x,hx,he⟩=>⟨x,hx,d x hx,he⟩⟩
def Kp(n0:Nat)(S S':aA):Prop:=∀q B,q<n0->S[q]?=some B->S'[q]?=some B
theorem aUj{n jm:Nat}{l:Tf_}{c:Nat}(t:fG l c)(w:l.length<=1000000):∀(q:Nat) (S:aA) (s:Nat) (i:Tb_) (d:Tc_) (x2 x4 x5:TV),aBu l d<q->YK S n jm s l c i->S[n+3]?=some (.mit (some jm) c d c)->Met l d i->n+3<S.length ->(lp' (lim K) t116L0 [.yld (n+2),.ptr n 97 0,x2,.it (n+3),x4,x5] S).All fun r=>r.1=.exit 0/\(∃y2 U V,r.2.1=[.yld (n+2),.ptr n 97 0,y2,.it (n+3),U,V])/\Kp n S r.2.2/\∃(T:Nat) (v:Tb_),YK r.2.2 n jm T l c v/\v.Perm (l.map (·.2.1))
 |0,S,s,i,d,x2,x4,x5,h,hY,hi,hM,hS=>A_
 |q+1,S,s,i,d,x2,x4,x5,h,hY,hi,hM,hS=>by
  refine fE t116L0.eq_1 ?_;simp(disch:=omega)only[go_sem];refine aGs hi hY.m t.born (O_ _) (fun ha=>?_) (fun x H L=>?_);.simp(disch:=omega)only[go_sem];exact bE ⟨rfl,⟨_,_,_,rfl⟩,fun q B _ h=>h,s,i,hY,hM.done t ha⟩
  .have g:=hY.jr;have z:=hY.lt;have W:=hM.sl;have I:=hM.len;generalize hS1:S.set (n+3) (.mit (some jm) c (d++[x.1]) c)=S1;have h1:S1.length=S.length:=by rw[<-hS1];simp
   have o:∀q B,S[q]?=some B->q≠n+3->S1[q]?=some B:=fun q B h Q=>by rw[<-hS1,aB (B0 Q)];exact h
   have p:S1[n+3]?=some (.mit (some jm) c (d++[x.1]) c):=by rw[<-hS1];exact aM hS _
   obtain⟨F,E,A⟩:=hY.y;have u:YK S1 n jm s l c i:=⟨o _ _ hY.a A_,o _ _ hY.b A_,⟨F,E,o _ _ A A_⟩,fun k=>o _ _ (hY.r k) (by have:=g k;omega),o _ _ hY.m A_,z,g⟩
   have J:=bPf (f:=qJ) p u.m H t.once;obtain⟨Z,S2,Y,G,P,N⟩:=bQu u x.2.1.1 x.2.1.2 A_ A_;have D:=N _ _ p A_ A_ (fun k=>by have:=g k;omega);have ih:=aUj t w q S2 Z (i++[(x.2.1.1,x.2.1.2)]) (d++[x.1]) (.lb [j_ x.2.1.1,j_ x.2.1.2]) e_ z_ (by have:=aPn H L;omega) G D (hM.next t H L) A_;rw[show en2 x.2.1=.agg [.int .i64 x.2.1.1,.int .i64 x.2.1.2] from rfl]at J |-;simp(disch:=omega)only[go_sem,J,Y,er_ret];refine cQ (Out.all_mono ?_ ih);rintro⟨j,e,S'⟩ ⟨R,a2,a3,a4⟩;exact⟨R,a2,fun q B C h=>a3 q B C (N _ _ (o _ _ h A_) A_ A_ (fun k=>by have:=g k;omega)),a4⟩
theorem bK7{n jm:Nat}{l:Tf_}{c:Nat}(u:fG l c)(d:l.length<=1000000){S:aA}(m:S.length=n+3){x4 x6:TV}(p:S[n]?=some (.cells 97 false [.map jm]))(y:S[n+1]?=some (.cells 67 false [k_]))(w:S[n+2]?=some (.lp .ready none (e83 n x4 x6) [6] aJh aF2))(k:S[jm]?=some (.mp (mpK en2 qJ l) c))(g:jm<n): ((lim K).call 116 [.yld (n+2),.ptr n 97 0] S).All fun r=>Kp n S r.2/\∃(v:Nat) (b:Tb_),YK r.2 n jm v l c b/\b.Perm (l.map (·.2.1)):=by
 have t:=kE k;have a:∀q B,S[q]?=some B->(S++[aG.mit (some jm) c [] c])[q]?=some B:=fun q B i=>aR i _;have x:YK (S++[aG.mit (some jm) c [] c]) n jm 0 l c []:=⟨a _ _ p,a _ _ y,⟨x4,x6,a _ _ w⟩,fun h=>absurd rfl h,a _ _ k,g,fun h=>absurd rfl h⟩
 have s:=aUj u d (aBu l []+1) (S++[aG.mit (some jm) c [] c]) 0 [] [] u_ u_ u_ A_ x (by rw[<-m,cN]) (Met.nil l) (by simp;omega);rw[<-m]at s;refine dJ K _ (fn:=t116) rfl rfl ?_;simp(disch:=omega)only[t116,go_sem,p,t];refine dN s ?_;rintro j e S' ⟨o,⟨z,A,C,a2⟩,a3,a4⟩;dsimp only at o a2 a3 a4;subst o;subst a2;simp(disch:=omega)only[go_sem];exact bE ⟨fun q B f i=>a3 q B f (a _ _ i),a4⟩
theorem bK8{n jm:Nat}{l:Tf_}{c:Nat}(F:fG l c)(p:l.length<=1000000){S:aA}(s:S.length=n+1)(G:S[n]?=some (.cells 97 false [.map jm]))(A:S[jm]?=some (.mp (mpK en2 qJ l) c))(t:jm<n): ((lim K).call 129 [k_,.fn 116 [] [.ptr n 97 0]] S).All fun r=>Kp n S r.2/\∃(d:Nat) (a:Tb_),r.1=zE d a/\aDl r.2 d a/\(a≠[]->n+3<d)/\a.Perm (l.map (·.2.1)):=by
 have f:=bK7 F p (S:=S++[.cells 67 false [k_]]++[.lp .ready none (e83 n u_ u_) [6] aJh aF2]) (n:=n) (jm:=jm) (x4:=u_) (x6:=u_) (by simp;omega) (by rw[A9];exact aR G _) (by rw[<-s,A9];exact gN0 _ _ _) (by rw[show n+2=(S++[aG.cells 67 false [k_]]).length by simp;omega];exact cN _ _) (by rw[A9];exact aR A _) t;have h:(S++[aG.cells 67 false [k_]]).length=n+2:=by simp;omega
 unfold e83 aJh aF2 at f;rw[show n+1=S.length from s.symm]at f;refine dJ K _ (fn:=t129) rfl rfl ?_;simp(disch:=omega)only[t129,go_sem,h,Q_,C3];refine sT f ?_;rintro v S' ⟨C,d,a,o,z⟩;obtain⟨x4,x6,u⟩:=o.y;have k:=o.b;have x:=aN u;have w:=fun B=>aB (S:=S') (show n+2≠n+1 by omega) B;rw[s.symm]at k w;have i:∀B,Kp n S (S'.set (n+2) B):=fun B q X E D=>by rw[aB A_];exact C q X E (by rw[A9];exact aR D _)
 have e:=o.jr;have m:∀B,aDl (S'.set (n+2) B) d a:=fun B g=>by have:=e g;rw[aB A_];exact o.r g
 rw[aWh,h];by_cases g:a=[]
 .subst g;rw[gK]at k;simp(disch:=omega)only[go_sem,u,w,k];exact bE ⟨i _,d,[],rfl,m _,e,z⟩
 .rw[dO _ g]at k;simp(disch:=omega)only[go_sem,u,w,k];exact bE ⟨i _,d,a,(dO _ g).symm,m _,e,z⟩
theorem aF3{a b:Tb_}(h:a.Perm b):gT a=gT b:=yW ((kD a).trans h) (rQ a)
theorem zF(a:Tb_):(gT a).length=a.length:=(kD a).length_eq
theorem aXb{a:Tb_}:gT a=[]↔a=[]:=by rw[<-H3,zF,H3]
theorem bK9:K.prim 115=some (iL 84):=rfl
theorem aXc(S:aA)(j v o n c e:Nat):prV S (some (iL 84)) [.msl j v o n c e,.fn 84 [] []]=iL 84 [.msl j v o n c e,.fn 84 [] []] S:=id rfl
theorem aXd(S:aA):prV S (some (iL 84)) [k_,.fn 84 [] []]=some (u_,S):=id rfl
theorem aXe{S:aA}{j:Nat}{a:Tb_}(h:S[j]?=some (.cells (a.length-1) true (mR a)))(d:a.length<=1000000)(c:a≠[]): iL 84 [.msl j (a.length-1) 0 a.length a.length 2,.fn 84 [] []] S=some (u_,S.set j (.cells (a.length-1) true (mR (gT a)))):=by have f:0<a.length:=N2.2 c;have e:=xG a;have b:(mR a).take (2*a.length)=mR a:=K5 A_;have e2:(mR a).drop (2*a.length)=[]:=G6 A_;have e3:uB (mR a)=some (gR a):=aFs _;simp only[iL,ne_eq,C9,↓reduceIte,show ¬a.length=0 by omega,h,O_,A7,show 2*a.length<=(mR a).length by omega,show a.length<=1048576 by omega,W9,C4,b,e2,e3,aFt,List.take_zero,List.nil_append,A4];rfl
attribute [go_sem] bK9 aXc aXd
def bQv(n0:Nat)(S:aA)(ks:List (Int×Int))(r:TV×aA):Prop:=Kp n0 S r.2/\∃j',r.1=zE j' (gT ks)/\aDl r.2 j' (gT ks)
theorem bLa{n jm:Nat}{l:Tf_}{c:Nat}(h:fG l c)(d:l.length<=1000000){S:aA}(g:S.length=n+1)(i:S[n]?=some (.cells 97 false [.map jm]))(k:S[jm]?=some (.mp (mpK en2 qJ l) c))(f:jm<n): ((lim K).call 114 [.fn 116 [] [.ptr n 97 0]] S).All fun r=>Kp n S r.2/\∃(b:Nat) (a:Tb_),r.1=zE b a/\aDl r.2 b a/\(a≠[]->n+3<b)/\a.Perm (l.map (·.2.1)):=by
 refine dJ K _ (fn:=t114) rfl rfl ?_;simp(disch:=omega)only[t114,go_sem];refine fI (bK8 h d g i k f) ?_;rintro v S' ⟨e,b,a,a2,a3,a4,a5⟩;dsimp only at e a2 a3;subst a2;by_cases h0:a=[]
 .subst h0;rw[gK];simp(disch:=omega)only[go_sem];exact bE ⟨e,b,[],rfl,a3,a4,a5⟩
 .rw[dO _ h0];simp(disch:=omega)only[go_sem];exact bE ⟨e,b,a,(dO _ h0).symm,a3,a4,a5⟩
theorem bQw{n jm:Nat}{l:Tf_}{c:Nat}(r:fG l c)(d:l.length<=1000000){S:aA}(o:S.length=n+1)(s:S[n]?=some (.cells 97 false [.map jm]))(m:S[jm]?=some (.mp (mpK en2 qJ l) c))(g:jm<n): ((lim K).call 82 [.fn 116 [] [.ptr n 97 0],.fn 84 [] []] S).All (bQv n S (l.map (·.2.1))):=by
 refine dJ K _ (fn:=t82) rfl rfl ?_;simp(disch:=omega)only[t82,go_sem];refine fI (bLa r d o s m g) ?_;rintro v S' ⟨e,k,a,a2,a3,a4,a5⟩;dsimp only at e a2 a3;subst a2;have f:=a5.length_eq;rw[L_]at f;unfold bQv;rw[<-aF3 a5];by_cases h0:a=[]
 .subst h0;rw[gK];simp(disch:=omega)only[go_sem];exact bE ⟨e,k,rfl,fun h=>absurd rfl h⟩
 .have t:=aXe (a3 h0) A_ h0;have i:gT a≠[]:=fun h=>h0 (aXb.1 h);have b:=zF a;have w:=a4 h0;rw[dO _ h0];simp(disch:=omega)only[go_sem,t];refine bE ⟨fun q B u p=>?_,k,?_,fun _=>?_⟩;.rw[aB A_];exact e q B u p
  .rw[dO _ i,b]
  .rw[b];exact aM (aN (a3 h0)) _
theorem bQx(S:aA)(jm:Nat):(lim K).call 83 [.map jm] S=.ret (.fn 116 [] [.ptr S.length 97 0],S++[.cells 97 false [.map jm]]):=by refine aI K _ (fn:=t83) rfl rfl ?_;simp(disch:=omega)only[t83,go_sem]
theorem bC5{jm:Nat}{l:Tf_}{c:Nat}(k:fG l c)(b:l.length<=1000000){S:aA}(h:S[jm]?=some (.mp (mpK en2 qJ l) c)): ((lim K).call 63 [.map jm] S).All (bQv S.length S (l.map (·.2.1))):=by
 have a:=bQx S jm;have d:=bQw k b (n:=S.length) (S:=S++[.cells 97 false [.map jm]]) B_ (cN _ _) (aR h _) (aN h);refine dJ K _ (fn:=t63) rfl rfl ?_;simp(disch:=omega)only[t63,go_sem,a];refine fI d ?_;rintro v S' ⟨e,f,a2,a3⟩;dsimp only at e a2 a3;subst a2;have g:Kp S.length S S':=fun q B m i=>e q B m (aR i _);generalize hks:gT (l.map (·.2.1))=ks at *
 by_cases h0:ks=[]
 .rw[h0,gK];simp(disch:=omega)only[go_sem];exact bE ⟨g,f,by rw[hks,h0];rfl,by rw[hks];exact a3⟩
 .rw[dO _ h0];simp(disch:=omega)only[go_sem];exact bE ⟨g,f,by rw[hks];exact(dO _ h0).symm,by rw[hks];exact a3⟩
theorem mm0(a b:Int):minmax false (.int .i64 a) [j_ b]=some (.int .i64 (prP a b).1):=by
 unfold prP;by_cases h:a<=b;.simp[minmax,min2,h,show ¬b<a by omega]
 .simp[minmax,min2,h,show b<a by omega]
theorem mm1(a b:Int):minmax true (.int .i64 a) [j_ b]=some (.int .i64 (prP a b).2):=by
 unfold prP;by_cases h:a<=b
 .by_cases h2:a<b;.simp[minmax,min2,h,h2]
  .have:a=b:=A_;subst this;simp[minmax,min2]
 .simp[minmax,min2,h,show ¬a<b by omega]
theorem aQe(a b:Int):TM.Pure K 62 [j_ a,j_ b] (.iv (.agg [.int .i64 (prP a b).1,.int .i64 (prP a b).2])):=by refine aT t62 rfl rfl ?_;simp(disch:=omega)only[t62,go_sem,mm0,mm1]
theorem bV2(p q:Int×Int):eqAgg false [(0,.int),(1,.int)] (.iv (.agg [.int .i64 p.1,.int .i64 p.2])) (.iv (.agg [.int .i64 q.1,.int .i64 q.2]))=some (.bool (decide (p=q))):=by
 obtain⟨a,b⟩:=p;obtain⟨c,d⟩:=q;by_cases h1:a=c
 .subst h1;by_cases h2:b=d;.subst h2;simp[eqAgg,fA,gM]
  .simp[eqAgg,fA,gM,h2,show(b==d)=false by simp[h2]]
 .simp[eqAgg,fA,gM,h1,show(a==c)=false by simp[h1]]
def MpP(S:aA)(j:Nat)(l:List (Nat×(Int×Int)×Int))(c:Nat):Prop:=S[j]?=some (.mp (mpK en2 qJ l) c)/\fG l c
def aUk(x:VI)(d:Int)(C:List Int)(p:Int×Int):Prop:=∃r∈C,r≠d/\¬mvP x (prP d r)/\p=prP d r
theorem sO{l:Ta_}{i:Nat}(h:i<l.length):l.drop i=l.getD i 0::l.drop (i+1):=by rw[A6 h];simp[List.getD,h]
theorem aG7(l:Tf_)(c:Nat)(k:Int×Int)(a:Int):yY (fU l c k a) k=a:=by unfold yY;rw[aFw,K_ rfl];rfl
theorem aJi{x:VI}{C:Ta_}(hC:C.length<=1000)(d:Int)(W:Nat)(x0 Y x2 Z x4 x5 x7 x8 x10 x13 x14 x15 x16 E z D y A u:TV):∀(k i:Nat) (S:aA) (l:Tf_) (c:Nat) (x12 L v:TV),i+k=C.length->MpP S 0 l c ->∃(S':aA) (l':Tf_) (c':Nat) (o n s:TV),lp' (lim K) t34L0 [x0,Y,x2,Z,x4,x5,.map 0,x7,x8,.lb ((aJ x).map .iv),x10,j_ d,x12,x13,x14,x15,x16,E,z,D,y,A,u,.tsl W (aZ C),j_ C.length,j_ i,L,v] S = .ret (.exit 4,[x0,Y,x2,Z,x4,x5,.map 0,x7,x8,.lb ((aJ x).map .iv),x10,j_ d,o,x13,x14,x15,x16,E,z,D,y,A,u,.tsl W (aZ C),j_ C.length,j_ C.length,n,s],S')/\MpP S' 0 l' c'/\(∀p,eJ l' p=true↔eJ l p=true\/aUk x d (C.drop i) p)/\l'.length<=l.length+k/\bL [0] S S'
 |0,i,S,l,c,x12,L,v,h,hm=>by
  obtain rfl:i=C.length:=A_;refine⟨S,l,c,x12,z_,v,aE K _ _ t34L0.eq_1 ?_,hm,fun p=>?_,by omega,bL.refl _ _⟩;.simp(disch:=omega)only[go_sem]
  .rw[E0];exact⟨.inl,fun h=>by rcases h with h|⟨r,hr,_⟩;exact h;cases hr⟩
 |k+1,i,S,l,c,x12,L,v,h,hm=>by
  have V:i<C.length:=A_;have w:=bKw (j:=W) V;have h4:=sO V;generalize C.getD i 0=r at *
  have c1:=aQe d r;have c2:=aQe x.a x.d;have e1:((i+1:Nat):Int)=(i:Int)+1:=A_;have F:=bV2 (prP d r) (prP x.a x.d);rw[aS]at *
  have H:∀(p:Int×Int),aUk x d (C.drop i) p↔(r≠d/\¬mvP x (prP d r)/\p=prP d r)\/aUk x d (C.drop (i+1)) p:=fun p=>by
   rw[h4];constructor
   .rintro⟨q,U,f⟩;rcases J_.1 U with rfl|U;.exact .inl f
    .exact .inr ⟨q,U,f⟩
   .rintro(f|⟨q,U,f⟩);.exact⟨r,by simp,f⟩
    .exact⟨q,by simp[U],f⟩
  by_cases hskip:r=d\/mvP x (prP d r)
  .obtain⟨S',l',c',o,n,s,t,J,P,h0,hK⟩:=aJi (x:=x) hC d W x0 Y x2 Z x4 x5 x7 x8 x10 x13 x14 x15 x16 E z D y A u k (i+1) S l c (j_ r) e_ e_ A_ hm;rw[e1,aS]at t;refine⟨S',l',c',o,n,s,aE K _ _ t34L0.eq_1 ?_,J,fun p=>?_,by omega,hK⟩
   .by_cases m:r=d;.simp(disch:=omega)only[go_sem,w,m,aC];rw[m]at t;exact X_ er t
    .have G:=hskip.resolve_left m;obtain⟨g,I⟩:=G;rw[V_ I]at F;simp(disch:=omega)only[go_sem,w,m,g,aD c1,aD c2,F,aC];rw[g]at t;exact X_ er t
   .rw[P,H];constructor
    .rintro(f|f);.exact .inl f
     .exact .inr (.inr f)
    .rintro(f|⟨f,h2,_⟩|f);.exact .inl f
     .exact absurd hskip (by simp[f,h2])
     .exact .inr f
  .have m:r≠d:=fun e=>hskip (.inl e);have G:¬mvP x (prP d r):=fun e=>hskip (.inr e);obtain⟨N,ho⟩:=hm;have R:=aN N;have T:=es2 ho (aAm l c (prP d r)) ;have g1:∀b,(S.set 0 b)[0]?=some b:=fun b=>aM R b;have h5:MpP ((S.set 0 (.mp (mpK en2 qJ (fU l c (prP d r) (yY l (prP d r)))) (aAm l c (prP d r)))).set 0 (.mp (mpK en2 qJ (fU l c (prP d r) (IntKind.i64.wrap (yY l (prP d r)+1)))) (aAm l c (prP d r)))) 0 (fU l c (prP d r) (IntKind.i64.wrap (yY l (prP d r)+1))) (aAm l c (prP d r)):=⟨aM (by simpa using R) _,ho.put _ _⟩
   obtain⟨S',l',c',o,n,s,t,J,P,h0,hK⟩:=aJi (x:=x) hC d W x0 Y x2 Z x4 x5 x7 x8 x10 x13 x14 x15 x16 E z D y A u k (i+1) _ _ _ (j_ r) e_ z_ A_ h5;rw[e1,aS]at t;refine⟨S',l',c',o,n,s,aE K _ _ t34L0.eq_1 ?_,J,fun p=>?_,by have:=aBt l c (prP d r) (IntKind.i64.wrap (yY l (prP d r)+1));omega,((bL.set S B_ _).trans (bL.set _ B_ _)).trans hK⟩
   .have I:x.op=64->¬prP d r=prP x.a x.d:=fun g e=>G ⟨g,e⟩;have Q:=aG7 l c (prP d r) (yY l (prP d r));generalize prP d r=pd at *
    generalize prP x.a x.d=qd at *
    obtain⟨pa,pb⟩:=pd;dsimp only at *
    by_cases g:x.op=64;.rw[l_ (I g)]at F;simp(disch:=omega)only[go_sem,w,m,g,aD c1,aD c2,F,N,g1,T,Q,aC];rw[g]at t;exact X_ er t
    .simp(disch:=omega)only[go_sem,w,m,g,aD c1,N,g1,T,Q,aC];exact X_ er t
   .rw[P,H,aPm,D3,q_];constructor
    .rintro((f|f)|f);.exact .inr (.inl ⟨m,G,f.symm⟩)
     .exact .inl f
     .exact .inr (.inr f)
    .rintro(f|⟨_,_,f⟩|f);.exact .inl (.inr f)
     .exact .inl (.inl f.symm)
     .exact .inr f
end Go.Proofs.YtehlgnfhkidgoaaGreatDoor
