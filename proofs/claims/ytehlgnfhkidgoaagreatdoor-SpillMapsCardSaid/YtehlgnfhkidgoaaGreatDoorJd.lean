/- Some texts of the proof, joined. Condition: none. -/
import Derived.Test.YtehlgnfhkidgoaaGreatDoorJc
import Derived.Test.YtehlgnfhkidgoaaGreatDoorJa
import Derived.Test.YtehlgnfhkidgoaaGreatDoorTmF
import Derived.Test.YtehlgnfhkidgoaaGreatDoorTmE
import Derived.Test.YtehlgnfhkidgoaaGreatDoorJb
set_option linter.unusedSectionVars false
set_option maxRecDepth 100000
set_option maxHeartbeats 64000000
set_option linter.unusedSimpArgs false
set_option linter.unusedVariables false
namespace Go.Proofs.YtehlgnfhkidgoaaGreatDoor
open Go Go.TM
theorem aG1(σ:Ta_)(r n:Int):r<=(qN σ r n).2.2/\(qN σ r n).2.2<=r+1:=by unfold qN;split<;>dsimp only<;>omega
theorem bCx(σ:Ta_)(r:Int)(x:VI):r<=(opA σ r x).2.2/\(opA σ r x).2.2<=r+1:=by
 unfold opA;split;.exact aG1 ..
 .dsimp only;omega
theorem aL9(σ:Ta_)(r:Int)(x:VI):r<=(opB σ r x).2.2/\(opB σ r x).2.2<=r+2:=by
 have h:=bCx σ r x;unfold opB;split
 .split;.dsimp only;omega
  .have:=aG1 σ (opA σ r x).2.2 x.b;omega
 .dsimp only;omega
theorem aCc(σ:Ta_)(r:Int)(x:VI):r<=eL σ r x/\eL σ r x<=r+3:=by
 have h:=aL9 σ r x;unfold eL opD;split;.split<;>dsimp only<;>omega
 .dsimp only;omega
theorem sJ(σ:Ta_):∀(r:Int) (l:List VI) (c:Nat),r<=cnt σ r l c
 |r,l,0=>by rw[cnt];omega
 |r,[],c+1=>by rw[cnt];omega
 |r,x::l,c+1=>by rw[cnt];have:=sJ σ (eL σ r x) l c;have:=aCc σ r x;omega
theorem xC(σ:Ta_)(r:Int)(x:VI):(opA σ r x).2.2=r+(opA σ r x).1.length/\((opA σ r x).1=[]\/∃k,x.a∈bF x/\bV σ x.a=some k/\(opA σ r x).1=[ldI r k]/\(opA σ r x).2.1=r):=by
 unfold opA;split
 .rename_i h;unfold qN;cases hs:bV σ x.a with
  |none=>exact⟨by simp,.inl rfl⟩
  |some k=>exact⟨rfl,.inr ⟨k,h,rfl,rfl,rfl⟩⟩
 .exact⟨by simp,.inl rfl⟩
theorem aJb(σ:Ta_)(r:Int)(x:VI):(opB σ r x).2.2=(opA σ r x).2.2+(opB σ r x).1.length/\((opB σ r x).1=[]\/∃k,x.b∈bF x/\bV σ x.b=some k/\(opB σ r x).1=[ldI (opA σ r x).2.2 k]/\(opB σ r x).2.1=(opA σ r x).2.2):=by
 unfold opB;split
 .rename_i h;split;.exact⟨by simp,.inl rfl⟩
  .unfold qN;cases hs:bV σ x.b with
   |none=>exact⟨by simp,.inl rfl⟩
   |some k=>exact⟨rfl,.inr ⟨k,h,rfl,rfl,rfl⟩⟩
 .exact⟨by simp,.inl rfl⟩
theorem jV(σ:Ta_)(r:Int)(x:VI):(opB σ r x).2.2=r+(bZ σ r x).length/\(bZ σ r x).length<=2:=by
 obtain⟨e,d⟩:=xC σ r x;obtain⟨h3,c⟩:=aJb σ r x;unfold bZ;rw[H_];have a:(opA σ r x).1.length<=1:=by rcases d with h|⟨_,_,_,h,_⟩<;>rw[h]<;>simp
 have b:(opB σ r x).1.length<=1:=by rcases c with h|⟨_,_,_,h,_⟩<;>rw[h]<;>simp
 omega
theorem aUe{σ:Ta_}{r:Int}{x y:VI}{j:Nat}(h:(bZ σ r x)[j]?=some y):∃n k,n∈bF x/\bV σ n=some k/\y=ldI (r+j) k:=by
 obtain⟨c,i⟩:=xC σ r x;obtain⟨h3,f⟩:=aJb σ r x;unfold bZ at h;rcases i with e2|⟨k,g,l,e2,_⟩
 .rw[e2]at h c;rcases f with b|⟨d,e,a,b,_⟩;.rw[b]at h;simp at h
  .rw[b]at h;cases j with
   |zero =>simp at h c;exact⟨_,d,e,a,by rw[<-h,c];simp⟩
   |succ j=>simp at h
 .rw[e2]at h c;cases j with
  |zero =>simp at h;exact⟨_,k,g,l,by rw[<-h];simp⟩
  |succ j =>
   rcases f with b|⟨d,e,a,b,_⟩;.rw[b]at h;simp at h
   .rw[b]at h;cases j with
    |zero =>simp at h c;exact⟨_,d,e,a,by rw[<-h,c];rfl⟩
    |succ j=>simp at h
theorem aJc{n:Int}(h:0<low n):low n=n:=by unfold low at *;split at h;omega;rename_i h1;rw[I_ h1]
theorem aJd(σ:Ta_)(r:Int)(x:VI):(x.a∈bF x/\x.a∉σ/\(opA σ r x).2.1=x.a)\/(∃j:Nat,j<(bZ σ r x).length/\(opA σ r x).2.1=r+j)\/(x.a∉bF x/\(opA σ r x).2.1=low x.a):=by
 rcases(xC σ r x).2 with e|⟨k,_,_,e,e2⟩
 .unfold opA at e |-;split
  .rename_i hm;rw[K_ hm]at e;unfold qN at e |-;cases hs:bV σ x.a with
   |none=>exact .inl ⟨hm,jA.1 hs,rfl⟩
   |some k=>rw[hs]at e;simp at e
  .rename_i hm;exact .inr (.inr ⟨hm,rfl⟩)
 .refine .inr (.inl ⟨0,?_,by rw[e2];simp⟩);unfold bZ;rw[e];simp
theorem aUf(σ:Ta_)(r:Int)(x:VI):(x.b∈bF x/\x.b∉σ/\(opB σ r x).2.1=x.b)\/(∃j:Nat,j<(bZ σ r x).length/\(opB σ r x).2.1=r+j)\/(x.b∉bF x/\(opB σ r x).2.1=low x.b):=by
 rcases(aJb σ r x).2 with e|⟨k,_,_,e,e2⟩
 .unfold opB at e |-;split
  .rename_i hm;rw[K_ hm]at e;split
   .rename_i he;rcases aJd σ r x with⟨a,c,h3⟩|a|⟨a,_⟩;.exact .inl ⟨hm,by rw[he];exact c,by dsimp only;rw[h3,he]⟩
    .exact .inr (.inl a)
    .rw[he]at hm;exact absurd hm a
   .rename_i he;rw[I_ he]at e;unfold qN at e |-;cases hs:bV σ x.b with
    |none=>exact .inl ⟨hm,jA.1 hs,rfl⟩
    |some k=>rw[hs]at e;simp at e
  .rename_i hm;exact .inr (.inr ⟨hm,rfl⟩)
 .refine .inr (.inl ⟨(opA σ r x).1.length,?_,?_⟩);.unfold bZ;rw[e];simp
  .rw[e2,(xC σ r x).1]
theorem xD{σ:Ta_}(p:aBw σ){r:Int}{x:VI}(o:∀u∈x.us,u<32){n:Int}(h:n∈bF (eR σ r x)):(n∈bF x/\n∉σ)\/∃j:Nat,j<(bZ σ r x).length/\n=r+j:=by
 have key:∀m:Int,0<m->m=(opA σ r x).2.1->(x.a∈bF x\/((0<x.a->x.a∈bF x)))->(m∈bF x/\m∉σ)\/∃j:Nat,j<(bZ σ r x).length/\m=r+j:=fun m g e k=>by
  rcases aJd σ r x with⟨c,i,h3⟩|c|⟨c,i⟩;.rw[e,h3];exact .inl ⟨c,i⟩
  .rw[e];exact .inr c
  .rw[e,i]at g;have:=aJc g;rw[this]at g;rcases k with k|k;.exact absurd k c
   .exact absurd (k g) c
 have l:∀m:Int,0<m->m=(opB σ r x).2.1->(0<x.b->x.b∈bF x)->(m∈bF x/\m∉σ)\/∃j:Nat,j<(bZ σ r x).length/\m=r+j:=fun m g e k=>by
  rcases aUf σ r x with⟨c,i,h3⟩|c|⟨c,i⟩;.rw[e,h3];exact .inl ⟨c,i⟩
  .rw[e];exact .inr c
  .rw[e,i]at g;have:=aJc g;rw[this]at g;exact absurd (k g) c
 have v:(eR σ r x).op=x.op:=rfl;have s:(eR σ r x).a=(opA σ r x).2.1:=rfl;have e2:(eR σ r x).b=(opB σ r x).2.1:=rfl;have e3:(eR σ r x).us=x.us:=rfl;unfold bF at h;rw[v,s,e2,e3]at h;split at h
 .rename_i hop;have d:bF x=tdy [x.a,x.b]:=by unfold bF;rw[K_ hop]
  obtain⟨c,f⟩:=cW.1 h;rcases J_.1 c with c|c;.exact key n f c (.inr fun f=>by rw[d];exact cW.2 ⟨by simp,f⟩)
  .rw[U_]at c;exact l n f c fun f=>by rw[d];exact cW.2 ⟨by simp,f⟩
 .rename_i hop;split at h
  .rename_i hop2;have d:bF x=tdy [x.a]:=by unfold bF;rw[I_ hop,K_ hop2]
   obtain⟨c,f⟩:=cW.1 h;rw[U_]at c;exact key n f c (.inr fun f=>by rw[d];exact cW.2 ⟨by simp,f⟩)
  .rename_i hop2;split at h
   .rename_i hop3;have d:bF x=tdy (x.us++[26]):=by unfold bF;rw[I_ hop,I_ hop2,K_ hop3]
    refine .inl ⟨by rw[d];exact h,fun q=>?_⟩;have t:=p n q;obtain⟨c,f⟩:=cW.1 h;rcases a_.1 c with c|c;.have:=o n c;omega
    .rw[U_]at c;omega
   .cases h
theorem aMa{σ:Ta_}{r:Int}{x:VI}{n:Int}(h:n∈aY x)(i:n∉σ):n∈aY (eR σ r x):=by
 have l:(eR σ r x).op=x.op:=rfl;have k:(eR σ r x).d=(opD σ r x).1:=rfl;have f:∀m,m=x.d->m∈aY x->m∉σ->(opD σ r x).1=x.d:=fun m e j c=>by unfold opD;rw[K_ (by rw[<-e];exact j)];have:bV σ x.d=none:=jA.2 (by rw[<-e];exact c);rw[this]
 have g:=h;unfold aY at h |-;rw[l,k];split at h;.rename_i hop;rw[K_ hop];obtain⟨a,b⟩:=cW.1 h;rw[U_]at a;rw[f n a g i];exact cW.2 ⟨by simp[a],b⟩
 .rename_i hop;rw[I_ hop];split at h
  .rename_i hop2;rw[K_ hop2];obtain⟨a,b⟩:=cW.1 h;refine cW.2 ⟨?_,b⟩;rcases a_.1 a with a|a;.exact G4 _ a
   .refine G0 _ ?_;rcases J_.1 a with a|a;.simp[a]
    .rw[U_]at a;rw[f n a g i];simp[a]
  .cases h
theorem aG2{x:VI}(f:x.op=67->x.d<32){n:Int}(c:32<=n)(h:n∈aY x):n=x.d:=by
 unfold aY at h;split at h;.obtain⟨a,_⟩:=cW.1 h;rw[U_]at a;exact a
 .split at h
  .rename_i hop2;obtain⟨a,_⟩:=cW.1 h;rcases a_.1 a with a|a;.unfold dP at a;obtain⟨m,b,e⟩:=A0.1 a;have:=C5.1 b;omega
   .rcases J_.1 a with a|a;.omega
    .rw[U_]at a;exact a
  .cases h
def plI(y:VI):VI:=if y.op=73 then⟨69,y.d,0,0,0,0,.nil,[],.nil,[]⟩else if y.op=74 then⟨64,0,y.a,0,0,0,.nil,[],.nil,[]⟩else y
theorem bK1{C:List VI}(a:∀(k:Nat) (y:VI),C[k]?=some y->(y.op=73\/y.op=74)->y.lb=0):bCw C (C.map plI):=by
 refine⟨L_ _,fun k y h=>⟨plI y,by rw[p_,h];rfl,?_,?_⟩⟩
 .unfold plI;split;.exact(a k y h (.inl (by assumption))).symm
  .split;.exact(a k y h (.inr (by assumption))).symm
   .rfl
 .unfold plI;by_cases h1:y.op=73;.rw[K_ h1];exact .inr ⟨.inl h1,.inr (.inl rfl)⟩
  .rw[I_ h1];by_cases h2:y.op=74;.rw[K_ h2];exact .inr ⟨.inr h2,.inl rfl⟩
   .rw[I_ h2];exact .inl ⟨h1,h2,rfl⟩
theorem bK2{ins:List VI}(i:aDf ins){σ:Ta_}{r:Int}(k:Nat)(y:VI)(h:(bG σ r ins)[k]?=some y)(b:y.op=73\/y.op=74):y.lb=0:=by
 have g:=(E_.1 h).1;obtain⟨c,j,a,d,rfl⟩:=eS g;rw[qO a d]at h;rcases jF h with⟨_,n,q,m,_,_,e⟩|⟨_,e⟩|⟨_,q,m,_,_,_,e⟩;.rw[e];rfl
 .have:=i.ls _ (bQ a);rw[e]at b;have f:(ins.getD c default).op=73\/(ins.getD c default).op=74:=b;omega
 .rw[e];rfl
def plC(σ:List Int)(r:Int)(ins:List VI):List VI:=(bG σ r ins).map plI
theorem pN{ins:List VI}(a:aDf ins)(σ:Ta_)(r:Int):bCw (bG σ r ins) (plC σ r ins):=bK1 (bK2 a)
theorem aDg{σ:Ta_}{r:Int}{ins:List VI}{c j:Nat}(b:c<ins.length)(a:j<(dM σ (cnt σ r ins c) (ins.getD c default)).length): (plC σ r ins).getD (ofs σ r ins c+j) default=plI ((dM σ (cnt σ r ins c) (ins.getD c default))[j]):=by refine getD_some ?_;unfold plC;rw[p_,qO b a,D_ a];rfl
theorem aJe(q:Int)(k:Nat):bF (plI (ldI q k))=[]/\(plI (ldI q k)).op=69/\aY (plI (ldI q k))=tdy [q]:=by unfold plI ldI;refine⟨by simp[bF],by simp,by simp[aY]⟩
theorem aDh(q:Int)(k:Nat):bF (plI (stI q k))=tdy [q]/\aY (plI (stI q k))=tdy [0]:=by unfold plI stI;refine⟨by simp[bF],by simp[aY]⟩
theorem sK{ins:List VI}(b:aDf ins){x:VI}(a:x∈ins)(σ:Ta_)(r:Int):plI (eR σ r x)=eR σ r x:=by have:=b.ls x a;unfold plI;rw[I_ (show ¬(eR σ r x).op=73 from this.1),I_ (show ¬(eR σ r x).op=74 from this.2)]
theorem xE{σ:Ta_}{r:Int}{x:VI}{q:Int}{k:Nat}(h:fH σ r x=[stI q k]):(opB σ r x).2.2=q:=by
 unfold fH opD at h;by_cases hd:x.d∈aY x
 .rw[K_ hd]at h;cases hs:bV σ x.d with
  |none=>rw[hs]at h;cases h
  |some m=>rw[hs]at h;exact X_ VI.a (Z4 h).1
 .rw[I_ hd]at h;cases h
theorem bUb{ins:List VI}(g:aDf ins){σ:Ta_}(z:aBw σ){r n:Int}(E:n<r)(x:n∉σ){k:Nat}(h:LvR (plC σ r ins) n k): ∀c j,c<ins.length->j<(dM σ (cnt σ r ins c) (ins.getD c default)).length->k=ofs σ r ins c+j ->(j<=(bZ σ (cnt σ r ins c) (ins.getD c default)).length->LvR ins n c)/\((bZ σ (cnt σ r ins c) (ins.getD c default)).length<j->∃c':Nat,(c':Int)∈mD ins c/\LvR ins n c'):=by
 induction h with
 |@use k h =>
  intro c j a d e;subst e;rw[aDg a d]at h;have D:=sJ σ r ins c;rcases jF (D_ d)with⟨hjp,m,q,w,_,_,e⟩|⟨hje,e⟩|⟨hje,q,w,hp,_,_,e⟩;.rw[e,(aJe ..).1]at h;cases h
  .rw[e,sK g (bQ a)]at h;rcases xD z (g.us _ (bQ a)) h with⟨o,_⟩|⟨i,G,o⟩;.exact⟨fun _=>.use o,fun l=>A_⟩
   .omega
  .exfalso;rw[e,(aDh ..).1]at h;obtain⟨o,_⟩:=cW.1 h;rw[U_]at o;have F:=xE hp;have:=aL9 σ (cnt σ r ins c) (ins.getD c default);omega
 |@step k k' hk hlv hd ih =>
  intro c j a d e;subst e;rw[aDg a d]at hd;rcases pM g (pN g σ r) a d hk with⟨v,f⟩|⟨C,c',p,b,v,u⟩
  .obtain⟨s,A⟩:=ih c (j+1) a f (by rw[v,Int.toNat_natCast]);rcases jF (D_ d)with⟨hjp,_⟩|⟨hje,e⟩|⟨hje,q,w,hp,_⟩;.exact⟨fun _=>s A_,fun l=>A_⟩
   .refine⟨fun _=>?_,fun l=>A_⟩;obtain⟨c',b,t⟩:=A A_;rw[e,sK g (bQ a)]at hd;exact .step b (by rw[Int.toNat_natCast];exact t) fun h=>hd (aMa h x)
   .exfalso;unfold dM at f;rw[hp,H_,List.length_cons,List.length_cons,List.length_nil]at f;omega
  .obtain⟨s,_⟩:=ih c' 0 p (by have:=oP σ (cnt σ r ins c') (ins.getD c' default);omega) (by rw[v,Int.toNat_natCast,Nat.add_zero]);have y:=s (I3 _);rcases jF (D_ d)with⟨hjp,_⟩|⟨hje,e⟩|⟨hje,q,w,hp,_⟩;.omega
   .rw[e,sK g (bQ a)]at hd;exact⟨fun _=>.step b (by rw[Int.toNat_natCast];exact y) fun h=>hd (aMa h x),fun l=>A_⟩
   .exact⟨fun l=>A_,fun _=>⟨c',b,y⟩⟩
inductive Rdb (C:List VI) (s:Int):Nat->Prop
 |load {i:Nat} (h:(C.getD i default).op=73) (hs:(C.getD i default).im=s):Rdb C s i
 |step {i:Nat} {k:Int} (hk:k∈mD C i) (h:Rdb C s k.toNat) (hs:¬((C.getD i default).op=74/\(C.getD i default).im=s)):Rdb C s i
theorem aG3{σ:Ta_}{r:Int}{ins:List VI}{c j:Nat}(b:c<ins.length)(a:j<(dM σ (cnt σ r ins c) (ins.getD c default)).length): (bG σ r ins).getD (ofs σ r ins c+j) default=(dM σ (cnt σ r ins c) (ins.getD c default))[j]:=by refine getD_some ?_;rw[qO b a,D_ a]
theorem bCy{ins:List VI}(z:aDf ins){σ:Ta_}(H:aBw σ){r n:Int}{s:Nat}(u:bV σ n=some s){k:Nat}(h:Rdb (bG σ r ins) s k): ∀c j,c<ins.length->j<(dM σ (cnt σ r ins c) (ins.getD c default)).length->k=ofs σ r ins c+j ->(j<=(bZ σ (cnt σ r ins c) (ins.getD c default)).length->LvR ins n c)/\((bZ σ (cnt σ r ins c) (ins.getD c default)).length<j->bV σ (ins.getD c default).d≠some s/\∃c':Nat,(c':Int)∈mD ins c/\LvR ins n c'):=by
 have f:32<=n:=H n (B4 (nV u));induction h with
 |@load k h hs' =>
  intro c j i g e;subst e;rw[aG3 i g]at h hs';rcases jF (D_ g)with⟨hjp,m,w,q,hm,hms,e⟩|⟨hje,e⟩|⟨hje,q,w,hp,_,_,e⟩
  .rw[e]at hs';have J:w=s:=by have:(w:Int)=s:=hs';omega
   subst J;rw[bCt u hms];exact⟨fun _=>.use hm,fun y=>A_⟩
  .rw[e]at h;exact absurd h (z.ls _ (bQ i)).1
  .rw[e]at h;exact absurd h (by show ¬(74:Int)=73;decide)
 |@step k k' hk hlv hns ih =>
  intro c j i g e;subst e;rw[aG3 i g]at hns;have b:=bQ i;have p:∀h:bV σ (ins.getD c default).d≠some s,n∉aY (ins.getD c default):=fun h x=>by have:=aG2 (z.cd _ b) f x;rw[this]at u;exact h u
  rcases pM z (aW3 _) i g hk with⟨E,o⟩|⟨I,c',C,a,E,l⟩
  .obtain⟨A,G⟩:=ih c (j+1) i o (by rw[E,Int.toNat_natCast]);rcases jF (D_ g)with⟨hjp,_⟩|⟨hje,e⟩|⟨hje,q,w,hp,_⟩;.exact⟨fun _=>A A_,fun y=>A_⟩
   .obtain⟨h3,c',a,D⟩:=G A_;exact⟨fun _=>.step a (by rw[Int.toNat_natCast];exact D) (p h3),fun y=>A_⟩
   .exfalso;unfold dM at o;rw[hp,H_,List.length_cons,List.length_cons,List.length_nil]at o;omega
  .obtain⟨A,_⟩:=ih c' 0 C (by have:=oP σ (cnt σ r ins c') (ins.getD c' default);omega) (by rw[E,Int.toNat_natCast,Nat.add_zero]);have F:=A (I3 _);rcases jF (D_ g)with⟨hjp,_⟩|⟨hje,e⟩|⟨hje,q,w,hp,hdd,hsw,e⟩;.omega
   .refine⟨fun _=>.step a (by rw[Int.toNat_natCast];exact F) fun x=>?_,fun y=>A_⟩;have t:=aG2 (z.cd _ b) f x;rcases iS σ (cnt σ r ins c) (ins.getD c default)with⟨_,h0⟩|⟨q,w,h0,_⟩;.exact h0 (by rw[<-t];exact x) (by rw[<-t];exact B4 (nV u))
    .rw[l hje]at h0;cases h0
   .refine⟨fun y=>A_,fun _=>⟨fun v=>hns ?_,c',a,F⟩⟩;rw[e];refine⟨rfl,?_⟩;rw[hsw]at v;have:w=s:=D6 v;rw[this];rfl
def ltq(x y:Int×Int):Prop:=x.1<y.1\/(x.1=y.1/\x.2<y.2)
theorem bCz{l:Tb_}(h:l.Nodup):(gT l).Pairwise ltq:=by
 have f:(gT l).Nodup:=((kD l).nodup_iff).2 h;refine(List.Pairwise.and (rQ l) f).imp fun {a b} ⟨c,d⟩=>?_;unfold leP at c;rw[q_]at c;unfold ltq;rcases c with c|⟨c,h3⟩;.exact .inl c
 .refine .inr ⟨c,?_⟩;by_cases e:a.2=b.2;.exact absurd (Prod.ext c e) d
  .omega
def prP(a b:Int):Int×Int:=if a<=b then(a,b)else(b,a)
theorem bC0(a b:Int):prP a b=prP b a:=by
 unfold prP;by_cases h1:a<=b
 .by_cases h2:b<=a;.have:a=b:=A_;subst this;rfl
  .rw[K_ h1,I_ h2]
 .rw[I_ h1,K_ A_]
theorem aDi{a b c d:Int}:prP a b=prP c d↔(a=c/\b=d)\/(a=d/\b=c):=by unfold prP;split<;>split<;>simp only[B7]<;>omega
def mvP(x:VI)(p:Int×Int):Prop:=x.op=64/\p=prP x.a x.d
def bC1(x:VI)(O:List Int)(p:Int×Int):Prop:=∃d∈aY x,∃r∈O++aY x,r≠d/\¬mvP x (prP d r)/\p=prP d r
def oZ(ins:List VI)(O:Nat->List Int)(p:Int×Int):Prop:=∃i,i<ins.length/\bC1 (ins.getD i default) (O i) p
def sL(ins:List VI)(p:Int×Int):Prop:=∃i,i<ins.length/\(ins.getD i default).op=64/\(ins.getD i default).a≠(ins.getD i default).d/\(ins.getD i default).a≠0/\(ins.getD i default).d≠0/\p=prP (ins.getD i default).a (ins.getD i default).d
def InP(rg:Int)(p:Int×Int):Prop:=1<=p.1/\p.1<p.2/\p.2<rg
theorem bC2{rg a b:Int}(d:1<=a/\a<rg)(c:1<=b/\b<rg)(h:a≠b):InP rg (prP a b):=by unfold prP InP;split<;>simp only<;>omega
theorem bK3{rg:Int}{ins:List VI}{O:Nat->List Int}(c:∀i,i<ins.length->∀d∈aY (ins.getD i default),1<=d/\d<rg)(g:∀i,i<ins.length->∀d∈O i,1<=d/\d<rg){p:Int×Int}(h:oZ ins O p):InP rg p:=by
 obtain⟨i,b,d,f,r,e,a,_,rfl⟩:=h;refine bC2 (c i b d f) ?_ (B0 a);rcases a_.1 e with h|h;.exact g i b r h
 .exact c i b r h
theorem bK4{rg:Int}{ins:List VI}(j:∀i,i<ins.length->0<=(ins.getD i default).a/\(ins.getD i default).a<rg)(f:∀i,i<ins.length->(ins.getD i default).op=64->0<=(ins.getD i default).d/\(ins.getD i default).d<rg){p:Int×Int}(h:sL ins p):InP rg p:=by obtain⟨i,c,e,g,h3,k,rfl⟩:=h;have a:=j i c;have b:=f i c e;exact bC2 A_ A_ g
structure bW1 (rg a b:Int) (f:Int->Int->Bool) (L:List (Int×Int)):Prop where
 inc:L.Pairwise ltq
 mem:∀p,p∈L↔InP rg p/\(p.1<a\/(p.1=a/\p.2<b))/\f p.1 p.2=true
theorem pO{σ:Ta_}(j:aBw σ){r:Int}{x:VI}{n:Int}(h:n∈aY (eR σ r x)):(n∈aY x/\n∉σ)\/(n=r+(bZ σ r x).length/\∃k,fH σ r x=[stI n k]/\x.d∈aY x/\x.d∈σ):=by
 have o:=(jV σ r x).1;have key:n=(opD σ r x).1->(0<x.d->x.d∈aY x)->0<n->(n∈aY x/\n∉σ)\/(n=r+(bZ σ r x).length/\∃k,fH σ r x=[stI n k]/\x.d∈aY x/\x.d∈σ):=fun e b g=>by
  unfold opD at e;unfold fH opD;by_cases hd:x.d∈aY x
  .rw[K_ hd]at e |-;cases c:bV σ x.d with
   |none =>rw[c]at e;dsimp only at e;rw[e];exact .inl ⟨hd,jA.1 c⟩
   |some k =>rw[c]at e;dsimp only at e;exact .inr ⟨by rw[e,o],k,by rw[e],hd,B4 (nV c)⟩
  .rw[I_ hd]at e;dsimp only at e;rw[e]at g;have:=aJc g;rw[this]at g;exact absurd (b g) hd
 unfold aY at h;rw[show(eR σ r x).op=x.op from rfl,show(eR σ r x).d=(opD σ r x).1 from rfl]at h;split at h;.rename_i hop;obtain⟨a,b⟩:=cW.1 h;exact key (U_.1 a) (fun b=>by unfold aY;rw[K_ hop];exact cW.2 ⟨by simp,b⟩) b
 .rename_i hop;split at h
  .rename_i hop2;obtain⟨a,b⟩:=cW.1 h;have f:∀m,m∈dP++[31,x.d]->0<m->m∈aY x:=fun m i l=>by unfold aY;rw[I_ hop,K_ hop2];exact cW.2 ⟨i,l⟩
   rcases a_.1 a with a|a;.refine .inl ⟨f n (G4 _ a) b,fun c=>?_⟩;have:=j n c;unfold dP at a;obtain⟨m,i,e⟩:=A0.1 a;have:=C5.1 i;omega
   .rcases J_.1 a with a|a;.refine .inl ⟨f n (by rw[a];simp) b,fun c=>?_⟩;have:=j n c;omega
    .exact key (U_.1 a) (fun b=>f _ B_ b) b
  .cases h
theorem sM(σ:Ta_):∀(r:Int) (l:List VI) (c:Nat),c<l.length->cnt σ r l (c+1)=eL σ (cnt σ r l c) (l.getD c default)
 |r,[],c,h=>by simp at h
 |r,x::l,0,h=>by rw[cnt,cnt,cnt];rfl
 |r,x::l,c+1,h=>by have:=sM σ (eL σ r x) l c (by simpa using h);rw[cnt,cnt,this];rfl
theorem aUg(σ:Ta_)(r:Int)(x:VI):eL σ r x=r+(bZ σ r x).length+(fH σ r x).length:=by
 have a:=(jV σ r x).1;unfold eL fH opD;split
 .split;.simp[a]
  .simp[a]
 .simp[a]
theorem aDj(σ:Ta_)(r:Int)(l:List VI){c c':Nat}(h:c<=c')(a:c'<=l.length):cnt σ r l c<=cnt σ r l c':=by
 induction c' with
 |zero =>obtain rfl:c=0:=A_;exact Z6 _
 |succ n ih =>
  by_cases e:c=n+1;.rw[e];exact Z6 _
  .have:=ih A_ A_;rw[sM σ r l n A_];have:=(aCc σ (cnt σ r l n) (l.getD n default)).1;omega
def aFy(σ:List Int)(r:Int)(ins:List VI)(c e:Nat):Prop:=c<ins.length/\e<(bZ σ (cnt σ r ins c) (ins.getD c default)).length+(fH σ (cnt σ r ins c) (ins.getD c default)).length
theorem pP{σ:Ta_}{r:Int}{ins:List VI}{c e c' e':Nat}(h:aFy σ r ins c e)(d:aFy σ r ins c' e')(k:cnt σ r ins c+e=cnt σ r ins c'+e'):c=c'/\e=e':=by
 obtain⟨f,i⟩:=h;obtain⟨h3,j⟩:=d;have a:=sM σ r ins c f;have b:=sM σ r ins c' h3;rw[aUg]at a b;rcases M7 c c' with g|g|g;.have:=aDj σ r ins (c:=c+1) (c':=c') A_ A_;omega
 .subst g;exact⟨rfl,by omega⟩
 .have:=aDj σ r ins (c:=c'+1) (c':=c) A_ A_;omega
theorem aUh{σ:Ta_}{r:Int}{ins:List VI}{c e:Nat}:r<=cnt σ r ins c+e:=by have:=sJ σ r ins c;omega
theorem sN(σ:Ta_)(r:Int)(x:VI):(fH σ r x).length<=1:=by rcases iS σ r x with⟨h,_⟩|⟨q,k,h,_⟩<;>rw[h]<;>simp
section
variable {ins:List VI}(hB:aDf ins){σ:List Int}(hv:aBw σ){r:Int}(hr:32<=r)(hin:∀x∈ins,∀n,n∈bF x\/n∈aY x->n<r)
include hB hv hr hin
theorem pQ{c j:Nat}(b:c<ins.length)(a:j<(dM σ (cnt σ r ins c) (ins.getD c default)).length): (j<(bZ σ (cnt σ r ins c) (ins.getD c default)).length/\bF ((plC σ r ins).getD (ofs σ r ins c+j) default)=[]/\aY ((plC σ r ins).getD (ofs σ r ins c+j) default)=[cnt σ r ins c+j]) \/(j=(bZ σ (cnt σ r ins c) (ins.getD c default)).length/\(plC σ r ins).getD (ofs σ r ins c+j) default=eR σ (cnt σ r ins c) (ins.getD c default)) \/(j=(bZ σ (cnt σ r ins c) (ins.getD c default)).length+1/\bF ((plC σ r ins).getD (ofs σ r ins c+j) default)=[cnt σ r ins c+(bZ σ (cnt σ r ins c) (ins.getD c default)).length]/\aY ((plC σ r ins).getD (ofs σ r ins c+j) default)=[]/\(fH σ (cnt σ r ins c) (ins.getD c default)).length=1):=by
 have g:=sJ σ r ins c;have one:∀q:Int,0<q->tdy [q]=[q]:=fun q f=>by rw[bV0];unfold xA;rw[I_ A_];rfl
 have d:tdy [0]=[]:=rfl;rcases jF (D_ a)with⟨hjp,_⟩|⟨hje,e⟩|⟨hje,q,w,hp,_,_,e⟩
 .obtain⟨y,i,e⟩:=aUd hjp;obtain⟨n,k,_,_,e2⟩:=aUe (D_ hjp);have e3:(dM σ (cnt σ r ins c) (ins.getD c default))[j]?=(bZ σ (cnt σ r ins c) (ins.getD c default))[j]? := by unfold dM;rw[Y_ hjp]
  rw[D_ a,D_ hjp]at e3;rw[aDg b a,D6 e3,e2];obtain⟨h,_,p3⟩:=aJe (cnt σ r ins c+j) k;exact .inl ⟨hjp,h,by rw[p3,one _ A_]⟩
 .rw[aDg b a,e,sK hB (bQ b)];exact .inr (.inl ⟨hje,rfl⟩)
 .have f:=xE hp;rw[(jV σ (cnt σ r ins c) (ins.getD c default)).1]at f;rw[aDg b a,e,(aDh q w).1,(aDh q w).2,<-f,one _ A_,d,hp];exact .inr (.inr ⟨hje,rfl,rfl,rfl⟩)
theorem aG4{n:Int}(g:n∈σ)(m:n<r){k:Nat}(e:k<(plC σ r ins).length):n∉bF ((plC σ r ins).getD k default)/\n∉aY ((plC σ r ins).getD k default):=by
 have d:k<(bG σ r ins).length:=by unfold plC at e;simpa using e
 obtain⟨c,j,f,l,rfl⟩:=eS d;have o:=sJ σ r ins c;rcases pQ hB hv hr hin f l with⟨_,a,b⟩|⟨_,a⟩|⟨_,a,b,_⟩;.rw[a,b];simp;omega
 .rw[a];refine⟨fun h=>?_,fun h=>?_⟩
  .rcases xD hv (hB.us _ (bQ f)) h with⟨_,h3⟩|⟨i,_,h3⟩;.exact h3 g
   .omega
  .rcases pO hv h with⟨_,h3⟩|⟨h3,_⟩;.exact h3 g
   .omega
 .rw[a,b];simp;omega
theorem bC3{l:List VI}{k:Nat}(h:¬k<l.length):l.getD k default=default:=by rw[W_,B5 A_];rfl
theorem aG5{n:Int}(b:n∈σ)(a:n<r){k:Nat}:¬LvR (plC σ r ins) n k:=fun h=>by
 induction h with
 |@use k h =>
  by_cases hk:k<(plC σ r ins).length;.exact(aG4 hB hv hr hin b a hk).1 h
  .rw[W_,B5 A_]at h;cases h
 |step _ _ _ ih=>exact ih
theorem aJf:(plC σ r ins).length=(bG σ r ins).length:=L_ _
theorem uM{c0 e:Nat}(o:aFy σ r ins c0 e){k:Nat}(h:LvR (plC σ r ins) (cnt σ r ins c0+e) k): ∀c j,c<ins.length->j<(dM σ (cnt σ r ins c) (ins.getD c default)).length->k=ofs σ r ins c+j ->c=c0/\e<j/\(e<(bZ σ (cnt σ r ins c0) (ins.getD c0 default)).length->j<=(bZ σ (cnt σ r ins c0) (ins.getD c0 default)).length):=by
 induction h with
 |@use k h =>
  intro c j a n t;subst t;have z:=aUh (σ:=σ) (r:=r) (ins:=ins) (c:=c0) (e:=e);rcases pQ hB hv hr hin a n with⟨_,g,_⟩|⟨b,g⟩|⟨b,g,_,v⟩;.rw[g]at h;cases h
  .rw[g]at h;rcases xD hv (hB.us _ (bQ a)) h with⟨h3,_⟩|⟨i,G,h3⟩;.have:=hin _ (bQ a) _ (.inl h3);omega
   .obtain⟨rfl,rfl⟩:=pP o (c':=c) (e':=i) ⟨a,by omega⟩ h3;exact⟨rfl,by omega,fun _=>A_⟩
  .rw[g,U_]at h;obtain⟨rfl,rfl⟩:=pP o (c':=c) ⟨a,by omega⟩ h;exact⟨rfl,by omega,fun h=>A_⟩
 |@step k k' t hlv hd ih =>
  intro c j a n x;subst x;rcases pM hB (pN hB σ r) a n t with⟨u,y⟩|⟨_,c',p,_,u,_⟩
  .obtain⟨rfl,g,C⟩:=ih c (j+1) a y (by rw[u,Int.toNat_natCast]);refine⟨rfl,?_,fun h=>by have:=C h;omega⟩;by_cases e2:e=j
   .exfalso;subst e2;rcases pQ hB hv hr hin a n with⟨_,_,h3⟩|⟨b,h3⟩|⟨b,_,_,_⟩;.exact hd (by rw[h3];simp)
    .rw[h3]at hd;obtain⟨_,s⟩:=o;have A:=sN σ (cnt σ r ins c) (ins.getD c default);rcases iS σ (cnt σ r ins c) (ins.getD c default)with⟨h0,_⟩|⟨q,w,v,hdd,_⟩;.rw[h0,List.length_nil]at s;omega
     .have E:=xE v;rw[(jV σ (cnt σ r ins c) (ins.getD c default)).1]at E;apply hd;have D:=hB.cd _ (bQ a);have l:(eR σ (cnt σ r ins c) (ins.getD c default)).d=cnt σ r ins c+e:=by
       show(opD σ (cnt σ r ins c) (ins.getD c default)).1=_;have f:=v;unfold fH opD at f;unfold opD;rw[K_ hdd]at f |-;cases hs:bV σ (ins.getD c default).d with
       |none=>rw[hs]at f;cases f
       |some m=>dsimp only;rw[b,<-(jV σ (cnt σ r ins c) (ins.getD c default)).1]
      have F:=sJ σ r ins c;unfold aY at hdd |-;rw[show(eR σ (cnt σ r ins c) (ins.getD c default)).op=(ins.getD c default).op from rfl,l];split at hdd;.rename_i hop;rw[K_ hop];exact cW.2 ⟨by simp,by omega⟩
      .rename_i hop;rw[I_ hop];split at hdd;.rename_i hop2;rw[K_ hop2];exact cW.2 ⟨by simp,by omega⟩
       .cases hdd
    .have:=o.2;have:=sN σ (cnt σ r ins c) (ins.getD c default);omega
   .omega
  .obtain⟨_,g,_⟩:=ih c' 0 p (by have:=oP σ (cnt σ r ins c') (ins.getD c' default);omega) (by rw[u,Int.toNat_natCast,Nat.add_zero]);omega
end
def aFz(Q:List VI)(a b:Int):Prop:=∃i,i<Q.length/\∃d w,d∈aY (Q.getD i default)/\(w∈aY (Q.getD i default)\/zB Q w i)/\w≠d/\¬mvP (Q.getD i default) (prP d w)/\prP a b=prP d w
theorem xF:∀(l m:Ta_),l.Nodup->(∀x∈l,x∈m)->l.length<=m.length
 |[],m,_,_=>I3 _
 |a::l,m,hn,h=>by rw[C8]at hn;have c:=h a B_;have:=xF l (m.erase a) hn.2 fun x b=>(List.mem_erase_of_ne (fun e=>hn.1 (by rw[<-e];exact b))).2 (h x (by simp[b]));rw[List.length_erase_of_mem c]at this;have:=X5 c;rw[List.length_cons];omega
section
variable {ins:List VI}(hB:aDf ins){σ:List Int}(hv:aBw σ){r:Int}(hr:32<=r)(hin:∀x∈ins,∀n,n∈bF x\/n∈aY x->n<r)
include hB hv hr hin
theorem zD{w:Int}{k:Nat}(h:LvR (plC σ r ins) w k):w<r\/∃c e:Nat,aFy σ r ins c e/\w=cnt σ r ins c+e:=by
 induction h with
 |@use k h =>
  by_cases hk:k<(plC σ r ins).length
  .obtain⟨c,j,b,f,rfl⟩:=eS (by rw[<-aJf hB hv hr hin];exact hk);rcases pQ hB hv hr hin b f with⟨_,a,_⟩|⟨_,a⟩|⟨_,a,_,g⟩;.rw[a]at h;cases h
   .rw[a]at h;rcases xD hv (hB.us _ (bQ b)) h with⟨d,_⟩|⟨i,l,d⟩;.exact .inl (hin _ (bQ b) _ (.inl d))
    .exact .inr ⟨c,i,⟨b,by omega⟩,d⟩
   .rw[a,U_]at h;exact .inr ⟨c,_,⟨b,by omega⟩,h⟩
  .rw[bC3 hB hv hr hin hk]at h;cases h
 |step _ _ _ ih=>exact ih
theorem bC4{σ':Ta_}{x:VI}(b:x∈ins)(e:x.d∈σ){w:Int}(a:w∈aY x):w=x.d:=by
 have c:=hv _ e;unfold aY at a;split at a;.exact U_.1 (cW.1 a).1
 .split at a;.rename_i hop;have:=hB.cd x b hop;omega
  .cases a
theorem aDk{c:Nat}(f:c<ins.length)(d:(fH σ (cnt σ r ins c) (ins.getD c default)).length=1){w:Int}(g:w∈aY (eR σ (cnt σ r ins c) (ins.getD c default))):w=cnt σ r ins c+(bZ σ (cnt σ r ins c) (ins.getD c default)).length:=by
 rcases pO hv g with⟨a,b⟩|⟨a,_⟩
 .rcases iS σ (cnt σ r ins c) (ins.getD c default)with⟨h0,_⟩|⟨q,k,_,h3,h4⟩;.rw[h0]at d;cases d
  .have e:=B4 (nV h4);rw[bC4 hB hv hr hin (σ':=σ) (bQ f) e a]at b;exact absurd e b
 .exact a
theorem aW5(G:∀n,32<=n->n<r->n∈σ){c0 e:Nat}(P:aFy σ r ins c0 e){t:Int}(h:aFz (plC σ r ins) (cnt σ r ins c0+e) t): (t<32/\(LvR ins t c0/\e<(bZ σ (cnt σ r ins c0) (ins.getD c0 default)).length\/zB ins t c0/\e=(bZ σ (cnt σ r ins c0) (ins.getD c0 default)).length))\/(∃e':Nat,e'<(bZ σ (cnt σ r ins c0) (ins.getD c0 default)).length/\e<(bZ σ (cnt σ r ins c0) (ins.getD c0 default)).length/\t=cnt σ r ins c0+e'):=by
 have Q:=aUh (σ:=σ) (r:=r) (ins:=ins) (c:=c0) (e:=e);have h0:=sN σ (cnt σ r ins c0) (ins.getD c0 default);have q:aFy σ r ins c0 e:=P;obtain⟨_,h7⟩:=P;obtain⟨i,V,d,w,a,o,g,_,U⟩:=h;obtain⟨c,j,l,I,rfl⟩:=eS (by rw[<-aJf hB hv hr hin];exact V);have s:∀ {w:Int} {k:Nat},LvR (plC σ r ins) w k->w<r->w<32/\w∉σ:=fun {w k} p F=>by
  have b:w∉σ:=fun R=>aG5 hB hv hr hin R F p;refine⟨?_,b⟩;by_cases u:32<=w;.exact absurd (G w u F) b
  .omega
 have pc:=pQ hB hv hr hin l I;rcases aDi.1 U with⟨N,e2⟩|⟨N,e2⟩
 .rw[<-N]at a g;rw[e2];rcases pc with⟨x,_,b⟩|⟨z,b⟩|⟨_,_,b,_⟩
  .rw[b]at a o;obtain⟨rfl,rfl⟩:=pP q (c':=c) (e':=j) ⟨l,by omega⟩ (U_.1 a);rcases o with o|⟨k',H,p⟩;.exact absurd (U_.1 o) g
   rcases pM hB (pN hB σ r) l I H with⟨e3,m⟩|⟨u,_⟩
   .rcases zD hB hv hr hin p with h3|⟨T,v,E,rfl⟩;.obtain⟨C,A⟩:=s p h3;obtain⟨W,_⟩:=bUb hB hv h3 A p c0 (e+1) l m (by rw[e3,Int.toNat_natCast]);exact .inl ⟨C,.inl ⟨W A_,x⟩⟩
    .obtain⟨rfl,C,_⟩:=uM hB hv hr hin E p c0 (e+1) l m (by rw[e3,Int.toNat_natCast]);exact .inr ⟨v,by omega,x,rfl⟩
   .omega
  .rw[b]at a o;rcases pO hv a with⟨u,_⟩|⟨u,k,D,_,_⟩;.have:=hin _ (bQ l) _ (.inr u);omega
   have f:(fH σ (cnt σ r ins c) (ins.getD c default)).length=1:=by rw[D];rfl
   obtain⟨rfl,rfl⟩:=pP q (c':=c) ⟨l,by omega⟩ u;rcases o with o|⟨k',H,p⟩;.exact absurd (aDk hB hv hr hin l f o) g
   rcases pM hB (pN hB σ r) l I H with⟨e3,m⟩|⟨_,c',_,_,_,h3⟩
   .rcases zD hB hv hr hin p with h3|⟨T,v,E,rfl⟩;.obtain⟨C,A⟩:=s p h3;obtain⟨_,p2⟩:=bUb hB hv h3 A p c0 (j+1) l m (by rw[e3,Int.toNat_natCast]);obtain⟨c',q1,Z⟩:=p2 A_;exact .inl ⟨C,.inr ⟨⟨c',q1,by rw[Int.toNat_natCast];exact Z⟩,rfl⟩⟩
    .obtain⟨rfl,C,A⟩:=uM hB hv hr hin E p c0 (j+1) l m (by rw[e3,Int.toNat_natCast]);exfalso;have:v=(bZ σ (cnt σ r ins c0) (ins.getD c0 default)).length:=by
      by_cases h6:v<(bZ σ (cnt σ r ins c0) (ins.getD c0 default)).length;.have:=A h6;omega
      .omega
     rw[this]at g;exact g rfl
   .rw[h3 z]at f;cases f
  .rw[b]at a;cases a
 .rw[<-N]at o g;rw[e2];have y:∀(f:(fH σ (cnt σ r ins c) (ins.getD c default)).length=1),c=c0->e=(bZ σ (cnt σ r ins c0) (ins.getD c0 default)).length->d∈aY (eR σ (cnt σ r ins c) (ins.getD c default))->False:=fun f J Y a=>by have:=aDk hB hv hr hin l f a;subst J;rw[<-Y]at this;exact g this.symm
  rcases o with o|⟨k',H,p⟩
  .exfalso;rcases pc with⟨_,_,b⟩|⟨_,b⟩|⟨_,_,b,_⟩;.rw[b]at a o;exact g ((U_.1 o).trans (U_.1 a).symm)
   .rw[b]at a o;rcases pO hv o with⟨u,_⟩|⟨u,k,D,_,_⟩;.have:=hin _ (bQ l) _ (.inr u);omega
    .have f:(fH σ (cnt σ r ins c) (ins.getD c default)).length=1:=by rw[D];rfl
     obtain⟨rfl,rfl⟩:=pP q (c':=c) ⟨l,by omega⟩ u;exact y f rfl rfl a
   .rw[b]at a;cases a
  rcases pM hB (pN hB σ r) l I H with⟨e3,m⟩|⟨_,c',L,_,e3,_⟩
  .obtain⟨rfl,C,A⟩:=uM hB hv hr hin q p c (j+1) l m (by rw[e3,Int.toNat_natCast]);rcases pc with⟨x,_,b⟩|⟨z,b⟩|⟨z,_,b,_⟩;.rw[b]at a;exact .inr ⟨j,x,by omega,U_.1 a⟩
   .exfalso;by_cases h6:e<(bZ σ (cnt σ r ins c) (ins.getD c default)).length;.have:=A h6;omega
    .rw[b]at a;exact y A_ rfl A_ a
   .rw[b]at a;cases a
  .obtain⟨_,C,_⟩:=uM hB hv hr hin q p c' 0 L (by have:=oP σ (cnt σ r ins c') (ins.getD c' default);omega) (by rw[e3,Int.toNat_natCast,Nat.add_zero]);omega
theorem aF0(g:∀n,32<=n->n<r->n∈σ){c0 e:Nat}(q:aFy σ r ins c0 e) {Li Lo:Ta_} (u:∀t,1<=t->t<=24->LvR ins t c0->t∈Li) (k:Li.length<=16) (v:∀t,1<=t->t<=24->zB ins t c0->t∈Lo) (l:Lo.length<=16) {o:Tg_} (j:∀m,m<32->o m=m) (s:∀d:Nat,1<=d->d<=24->∃t:Nat,aFz (plC σ r ins) (cnt σ r ins c0+e) t/\o t=d):False:=by
 have A:=(jV σ (cnt σ r ins c0) (ins.getD c0 default)).2;have key:∀L:List Int,L.length<=16->(∀t,1<=t->t<=24->(LvR ins t c0/\e<(bZ σ (cnt σ r ins c0) (ins.getD c0 default)).length\/zB ins t c0/\e=(bZ σ (cnt σ r ins c0) (ins.getD c0 default)).length)->t∈L)->False:=fun L C f=>by
  have b:=xF ((List.range 24).map fun n:Nat=>(n:Int)+1) (L++[o (cnt σ r ins c0).toNat,o (cnt σ r ins c0+1).toNat]) C_ (fun x z=>by
   obtain⟨n,w,rfl⟩:=A0.1 z;have y:=C5.1 w;obtain⟨t,p,a⟩:=s (n+1) A_ A_;rcases aW5 hB hv hr hin g q p with⟨i,c⟩|⟨e',i,_,c⟩;.rw[j t A_]at a;have:(t:Int)=(n:Int)+1:=A_;rw[<-this];exact G4 _ (f t A_ A_ c)
   .have:t=(cnt σ r ins c0+e').toNat:=A_;rw[this]at a;refine G0 _ ?_;rcases(by omega:e'=0\/e'=1)with e0|e0;.subst e0;rw[show cnt σ r ins c0+((0:Nat):Int)=cnt σ r ins c0 by omega]at a;rw[a];simp
    .subst e0;rw[show cnt σ r ins c0+((1:Nat):Int)=cnt σ r ins c0+1 by omega]at a;rw[a];simp)
  rw[L_,F8,H_]at b;simp at b;omega
 by_cases he:e<(bZ σ (cnt σ r ins c0) (ins.getD c0 default)).length;.exact key Li k fun t i c h=>u t i c (by rcases h with h|h;exact h.1;omega)
 .exact key Lo l fun t i c h=>v t i c (by rcases h with h|h;omega;exact h.1)
theorem aW6{n:Int}(g:n∈σ)(a:n<r){t:Int}:¬aFz (plC σ r ins) n t:=by
 rintro⟨i,l,d,w,f,b,j,_,h⟩;have e:=aG4 hB hv hr hin g a l;rcases aDi.1 h with⟨c,e2⟩|⟨c,e2⟩;.rw[<-c]at f;exact e.2 f
 .rw[<-c]at b;rcases b with b|⟨k,_,m⟩;.exact e.2 b
  .exact aG5 hB hv hr hin g a m
theorem aW7{n:Int}(f:r<=n){t:Int}(h:aFz (plC σ r ins) n t):∃c e:Nat,aFy σ r ins c e/\n=cnt σ r ins c+e:=by
 obtain⟨i,D,d,w,x,p,y,_,C⟩:=h;obtain⟨c,j,g,v,rfl⟩:=eS (by rw[<-aJf hB hv hr hin];exact D);have s:∀q,q∈aY ((plC σ r ins).getD (ofs σ r ins c+j) default)->r<=q->∃c e:Nat,aFy σ r ins c e/\q=cnt σ r ins c+e:=fun q b A=>by
  rcases pQ hB hv hr hin g v with⟨z,_,a⟩|⟨_,a⟩|⟨_,_,a,_⟩;.rw[a]at b;exact⟨c,j,⟨g,by omega⟩,U_.1 b⟩
  .rw[a]at b;rcases pO hv b with⟨m,_⟩|⟨m,k,o,_,_⟩;.have:=hin _ (bQ g) _ (.inr m);omega
   .exact⟨c,_,⟨g,by rw[o];simp⟩,m⟩
  .rw[a]at b;cases b
 rcases aDi.1 C with⟨l,e2⟩|⟨l,e2⟩;.exact s n (by rw[l];exact x) f
 .rcases p with p|⟨k,_,u⟩;.exact s n (by rw[l];exact p) f
  .rw[<-l]at u;rcases zD hB hv hr hin u with a|a;.omega
   .exact a
end
def aJg:aL:=(.region [⟨.allocH 98 [(.int .i64 0),(.int .i64 0)],(some 4),none⟩,⟨.store 2 (.reg 0) (.loc 6),none,none⟩])
def aF1:aL:=(.block 1
  (.region [⟨.load1 (.loc 2),none,none⟩,⟨.loadN 2 (.loc 4),none,none⟩,⟨.lit false [(.int .i64 0),(.int .i64 0)] 1 [(0,(.reg 1))],none,none⟩,⟨.append true 2 16 97 (.reg 0) (.reg 2),none,none⟩,⟨.store 1 (.loc 2) (.reg 3),none,none⟩]))
def e83(n:Nat)(x4 x6:TV):Env:=[.iv (.sl .nil []),.fn 116 [] [.ptr n 97 0],.ptr (n+1) 67 0,.iv (.sl .nil []),x4,.fn 116 [] [.ptr n 97 0],x6]
def mR(ks:List (Int×Int)):List TV:=(gR ks).map fun n=>.iv (.int .i64 n)
def zE(jr:Nat)(ks:List (Int×Int)):TV:=if ks=[]then .iv (.sl .nil [])else .msl jr (ks.length-1) 0 ks.length ks.length 2
theorem gK(a:Nat):zE a []=k_:=rfl
theorem dO(b:Nat){a:Tb_}(h:a≠[]):zE b a=.msl b (a.length-1) 0 a.length a.length 2:=I_ h
def aDl(S:aA)(jr:Nat)(ks:List (Int×Int)):Prop:=ks≠[]->S[jr]?=some (.cells (ks.length-1) true (mR ks))
theorem xG(a:Tb_):(mR a).length=a.length*2:=by unfold mR;rw[L_,nT];omega
theorem aQd(c:Tb_)(a b:Int):gR (c++[(a,b)])=gR c++[a,b]:=by
 induction c with
 |nil=>rfl
 |cons x r ih=>rw[List.cons_append,gR,ih,gR];rfl
theorem aW8(c:Tb_)(a b:Int):mR (c++[(a,b)])=mR c++[j_ a,j_ b]:=by unfold mR;rw[aQd,E1];rfl
theorem bK5{S:aA}{e:Nat}{c:Tb_}(h:aDl S e c)(a b:Int)(s:c.length<=1000000): ∃(f:Nat) (S1:aA),bA true 2 16 97 S (zE e c) (.iv (.sl .full [[.int .i64 a,.int .i64 b]]))=some (zE f (c++[(a,b)]),S1)/\aDl S1 f (c++[(a,b)])/\(c=[]/\f=S.length\/c≠[]/\f=e)/\S.length<=S1.length/\∀q B,S[q]?=some B->(c≠[]->q≠e)->S1[q]?=some B:=by
 have d:c++[(a,b)]≠[]:=B_;have o:dU S (.iv (.sl .full [[.int .i64 a,.int .i64 b]]))=some [j_ a,j_ b]:=rfl;have i:lenOf S (.iv (.sl .full [[.int .i64 a,.int .i64 b]]))=some 1:=rfl;by_cases h0:c=[]
 .subst h0;refine⟨S.length,S++[.cells 0 true (mR [(a,b)])],?_,fun _=>B_,.inl ⟨rfl,rfl⟩,by simp,fun q B k _=>aR k _⟩;rw[gK,dO _ d];simp[bA,dU,lenOf,TM.bC,bJ,TM.oL,eA,mR,gR]
 .have l:=h h0;have r:0<c.length:=N2.2 h0;have m:sub (mR c) 0 (c.length*2)=some (mR c):=mC (xG c);have g:eA (c.length+1) 16=true:=bR A_;have p:=xG c;refine⟨e,S.set e (.cells c.length true (mR (c++[(a,b)]))),?_,fun _=>?_,.inr ⟨h0,rfl⟩,by simp,fun q B k d=>by rw[aB (B0 (d h0))];exact k⟩
  .rw[dO _ h0,dO _ d,aW8,H_,List.length_singleton,N6];generalize mR c=cs at *
   generalize c.length=n at *
   simp[bA,o,i,l,bJ,m,g,show ¬n+1<=n by omega,show n-1+1=n by omega]
  .rw[H_,List.length_singleton,N6];exact aM (aN l) _
structure YK (S:aA) (n jm jr:Nat) (l:List (Nat×(Int×Int)×Int)) (c:Nat) (ks:List (Int×Int)):Prop where
 a:S[n]?=some (.cells 97 false [.map jm])
 b:S[n+1]?=some (.cells 67 false [zE jr ks])
 y:∃x4 x6,S[n+2]?=some (.lp .ready none (e83 n x4 x6) [6] aJg aF1)
 r:aDl S jr ks
 m:S[jm]?=some (.mp (mpK en2 qJ l) c)
 lt:jm<n
 jr:ks≠[]->n+3<jr
theorem bV1(S:aA)(a x:aG)(r:aA):(S++a::r).set S.length x=S++x::r:=by rw[E3 _ _ (O_ _)];simp
attribute [go_sem] bV1
theorem bQu{S:aA}{n jm u:Nat}{l:Tf_}{c:Nat}{f:Tb_}(h:YK S n jm u l c f)(a b:Int)(I:f.length<=1000000)(N:n+3<S.length): ∃(g:Nat) (S':aA),(lim K).yld (n+2) [.iv (.agg [.int .i64 a,.int .i64 b])] S=.ret (e_,S')/\YK S' n jm g l c (f++[(a,b)])/\S.length<=S'.length/\∀q B,S[q]?=some B->q≠n+1->q≠n+2->(f≠[]->q≠u)->S'[q]?=some B:=by
 obtain⟨x4,x6,C⟩:=h.y;have e:=h.jr;have v:=h.lt;generalize hS1:S++[aG.cells 98 false [j_ a,j_ b]]=S1;have E:S1.length=S.length+1:=by rw[<-hS1];simp
 have o:∀q B,S[q]?=some B->S1[q]?=some B:=fun q B i=>by rw[<-hS1];exact aR i _
 have D:=o _ _ C;generalize hT:S1.set (n+2) (.lp .busy none (e83 n x4 x6) [6] aJg aF1)=T;have F:T.length=S1.length:=by rw[<-hT];simp
 have p:∀q B,S1[q]?=some B->q≠n+2->T[q]?=some B:=fun q B i J=>by rw[<-hT,aB (B0 J)];exact i
 have tb:=p _ _ (o _ _ h.b) A_;have t4:T[S.length]?=some (.cells 98 false [j_ a,j_ b]):=p _ _ (by rw[<-hS1,cN]) A_;have ty:T[n+2]?=some (.lp .busy none (e83 n x4 x6) [6] aJg aF1):=by rw[<-hT];exact aM (aN D) _
 have L:aDl T u f:=fun d=>p _ _ (o _ _ (h.r d)) (by have:=e d;omega);obtain⟨g,S2,s,G,z,H,t⟩:=bK5 L a b I;have b2:=t _ _ tb (fun d=>by have:=e d;omega);have A:=t _ _ ty (fun d=>by have:=e d;omega);have w:n+3<g:=by rcases z with⟨_,rfl⟩|⟨d,rfl⟩;omega;exact e d
 refine⟨g,(S2.set (n+1) (.cells 67 false [zE g (f++[(a,b)])])).set (n+2) (.lp .ready none (e83 n x4 x6) [6] aJg aF1),?_,?_,?_,?_⟩
 .refine aPa (env2:=[k_,.fn 116 [] [.ptr n 97 0],.ptr (n+1) 67 0,k_,.ptr S.length 98 0,.fn 116 [] [.ptr n 97 0],.iv (.agg [.int .i64 a,.int .i64 b])]) (env3:=[k_,.fn 116 [] [.ptr n 97 0],.ptr (n+1) 67 0,k_,.ptr S.length 98 0,.fn 116 [] [.ptr n 97 0],.iv (.agg [.int .i64 a,.int .i64 b])]) (S1:=S1) (S2:=S2.set (n+1) (.cells 67 false [zE g (f++[(a,b)])])) C rfl ?_ D ?_ (by rw[aB A_];exact A);.subst hS1;simp(disch:=omega)only[aJg,e83,go_sem]
  .rw[hT];rw[dO _ (show f++[(a,b)]≠[] by simp)]at s |-;by_cases d:f=[]
   .subst d;rw[gK]at s tb b2;simp(disch:=omega)only[aF1,go_sem,t4,tb,s,b2]
   .rw[dO _ d]at s tb b2;simp(disch:=omega)only[aF1,go_sem,t4,tb,s,b2]
 .have kk:∀q B,S[q]?=some B->q≠n+1->q≠n+2->(f≠[]->q≠u)->((S2.set (n+1) (.cells 67 false [zE g (f++[(a,b)])])).set (n+2) (.lp .ready none (e83 n x4 x6) [6] aJg aF1))[q]?=some B:=fun q B i x k h3=>by rw[aB (B0 k),aB (B0 x)];exact t _ _ (p _ _ (o _ _ i) k) h3
  refine⟨kk _ _ h.a A_ A_ (fun d=>by have:=e d;omega),?_,⟨x4,x6,aM (by rw[F6];exact aN A) _⟩,fun d=>?_,kk _ _ h.m A_ A_ (fun d=>by have:=e d;omega),v,fun _=>w⟩;.rw[aB A_];exact aM (aN b2) _
  .rw[aB A_,aB A_];exact G d
 .rw[F6,F6];omega
 .intro q B i x k h3;rw[aB (B0 k),aB (B0 x)];exact t _ _ (p _ _ (o _ _ i) k) h3
structure Met (l:List (Nat×(Int×Int)×Int)) (seen:List Nat) (ks:List (Int×Int)):Prop where
 nd:ks.Nodup
 mem:∀k,k∈ks↔∃x∈l,x.1∈seen/\x.2.1=k
 len:ks.length<=seen.length
 sl:seen.length+aBu l seen<=l.length
theorem bK6{l:Tf_}(h:(l.map (·.2.1)).Nodup){x y:Nat×(Int×Int)×Int}(c:x∈l)(d:y∈l)(e:x.2.1=y.2.1):x=y:=by
 induction l with
 |nil=>cases c
 |cons z l ih =>
  rw[Q_,C8]at h;rcases J_.1 c with b|b
  .rcases J_.1 d with a|a;.rw[b,a]
   .exact absurd (by rw[<-b,e];exact F3 (f:=fun y:Nat×(Int×Int)×Int=>y.2.1) a) h.1
  .rcases J_.1 d with a|a;.exact absurd (by rw[<-a,<-e];exact F3 (f:=fun y:Nat×(Int×Int)×Int=>y.2.1) b) h.1
   .exact ih h.2 b a
theorem Met.next{l:Tf_}{c:Nat}(r:fG l c){j:Tc_}{q:Tb_}(h:Met l j q){x:Nat×(Int×Int)×Int}(o:x∈l)(t:x.1∉j):Met l (j++[x.1]) (q++[x.2.1]):=by
 refine⟨?_,fun k=>?_,by rw[H_,H_];have:=h.len;simp;omega,?_⟩;.rw[H9];refine⟨h.nd,by simp,fun a u b s e=>?_⟩;rw[U_]at s;subst s;subst e;obtain⟨y,m,g,n⟩:=(h.mem _).1 u;rw[bK6 r.keys m o n]at g;exact t g
 .rw[a_,h.mem,U_];constructor
  .rintro(⟨y,m,g,n⟩|rfl);.exact⟨y,m,by simp[g],n⟩
   .exact⟨x,o,by simp,rfl⟩
  .rintro⟨y,m,g,n⟩;rcases a_.1 g with g|g;.exact .inl ⟨y,m,g,n⟩
   .rw[U_]at g;right;rw[<-n];have key:∀l:List (Nat×(Int×Int)×Int),(l.map (·.1)).Nodup->x∈l->y∈l->y=x:=by
     intro l;induction l with
     |nil=>intro _ h;cases h
     |cons z l ih =>
      intro p o m;rw[Q_,C8]at p;rcases J_.1 o with i|i
      .rcases J_.1 m with d|d;.rw[i,d]
       .exact absurd (by rw[<-i,<-g];exact F3 (f:=fun y:Nat×(Int×Int)×Int=>y.1) d) p.1
      .rcases J_.1 m with d|d;.exact absurd (by rw[<-d,g];exact F3 (f:=fun y:Nat×(Int×Int)×Int=>y.1) i) p.1
       .exact ih p.2 i d
    rw[key l r.once o m]
 .have:=aPn o t;have:=h.sl;simp;omega
theorem aW9(l:Tf_):aBu l []=l.length:=by unfold aBu;rw[R8.2 B_]
theorem Met.nil(l:Tf_):Met l [] []:=⟨.nil,fun k=>B_,by simp,by rw[aW9];simp⟩
theorem Met.done{l:Tf_}{c:Nat}(e:fG l c){a:Tc_}{b:Tb_}(h:Met l a b)(d:∀x∈l,x.1∈a):b.Perm (l.map (·.2.1)):=by rw[U2 h.nd e.keys];intro k;rw[h.mem,A0];exact⟨fun⟨x,hx,_,he⟩=>⟨x,hx,he⟩,fun⟨x,hx,he⟩=>⟨x,hx,d x hx,he⟩⟩
def Kp(n0:Nat)(S S':aA):Prop:=∀q B,q<n0->S[q]?=some B->S'[q]?=some B
theorem aUi{n jm:Nat}{l:Tf_}{c:Nat}(s:fG l c)(F:l.length<=1000000):∀(q:Nat) (S:aA) (t:Nat) (h:Tb_) (d:Tc_) (x2 x4 x5:TV),aBu l d<q->YK S n jm t l c h->S[n+3]?=some (.mit (some jm) c d c)->Met l d h->n+3<S.length ->(lp' (lim K) t116L0 [.yld (n+2),.ptr n 97 0,x2,.it (n+3),x4,x5] S).All fun r=>r.1=.exit 0/\(∃U Q y5,r.2.1=[.yld (n+2),.ptr n 97 0,U,.it (n+3),Q,y5])/\Kp n S r.2.2/\∃(V:Nat) (p:Tb_),YK r.2.2 n jm V l c p/\p.Perm (l.map (·.2.1))
 |0,S,t,h,d,x2,x4,x5,i,hY,hi,hM,hS=>A_
 |q+1,S,t,h,d,x2,x4,x5,i,hY,hi,hM,hS=>by
  refine fE t116L0.eq_1 ?_;simp(disch:=omega)only[go_sem];refine aGr hi hY.m s.born (O_ _) (fun Y=>?_) (fun x G I=>?_);.simp(disch:=omega)only[go_sem];exact bE ⟨rfl,⟨_,_,_,rfl⟩,fun q B _ i=>i,t,h,hY,hM.done s Y⟩
  .have g:=hY.jr;have w:=hY.lt;have R:=hM.sl;have N:=hM.len;generalize hS1:S.set (n+3) (.mit (some jm) c (d++[x.1]) c)=S1;have W:S1.length=S.length:=by rw[<-hS1];simp
   have k:∀q B,S[q]?=some B->q≠n+3->S1[q]?=some B:=fun q B i hn=>by rw[<-hS1,aB (B0 hn)];exact i
   have v:S1[n+3]?=some (.mit (some jm) c (d++[x.1]) c):=by rw[<-hS1];exact aM hS _
   obtain⟨H,A,E⟩:=hY.y;have u:YK S1 n jm t l c h:=⟨k _ _ hY.a A_,k _ _ hY.b A_,⟨H,A,k _ _ E A_⟩,fun o=>k _ _ (hY.r o) (by have:=g o;omega),k _ _ hY.m A_,w,g⟩
   have L:=bPf (f:=qJ) v u.m G s.once;obtain⟨j2,S2,P,z,T,J⟩:=bQu u x.2.1.1 x.2.1.2 A_ A_;have D:=J _ _ v A_ A_ (fun o=>by have:=g o;omega);have ih:=aUi s F q S2 j2 (h++[(x.2.1.1,x.2.1.2)]) (d++[x.1]) (.lb [j_ x.2.1.1,j_ x.2.1.2]) e_ z_ (by have:=aPn G I;omega) z D (hM.next s G I) A_;rw[show en2 x.2.1=.agg [.int .i64 x.2.1.1,.int .i64 x.2.1.2] from rfl]at L |-;simp(disch:=omega)only[go_sem,L,P,er_ret];refine cQ (Out.all_mono ?_ ih);rintro⟨j,e,S'⟩ ⟨Z,a2,a3,a4⟩;exact⟨Z,a2,fun q B C i=>a3 q B C (J _ _ (k _ _ i A_) A_ A_ (fun o=>by have:=g o;omega)),a4⟩
theorem bK7{n jm:Nat}{l:Tf_}{c:Nat}(u:fG l c)(f:l.length<=1000000){S:aA}(o:S.length=n+3){x4 x6:TV}(k:S[n]?=some (.cells 97 false [.map jm]))(v:S[n+1]?=some (.cells 67 false [k_]))(w:S[n+2]?=some (.lp .ready none (e83 n x4 x6) [6] aJg aF1))(s:S[jm]?=some (.mp (mpK en2 qJ l) c))(d:jm<n): ((lim K).call 116 [.yld (n+2),.ptr n 97 0] S).All fun r=>Kp n S r.2/\∃(y:Nat) (b:Tb_),YK r.2 n jm y l c b/\b.Perm (l.map (·.2.1)):=by
 have t:=kE s;have a:∀q B,S[q]?=some B->(S++[aG.mit (some jm) c [] c])[q]?=some B:=fun q B g=>aR g _;have x:YK (S++[aG.mit (some jm) c [] c]) n jm 0 l c []:=⟨a _ _ k,a _ _ v,⟨x4,x6,a _ _ w⟩,fun h=>absurd rfl h,a _ _ s,d,fun h=>absurd rfl h⟩
 have p:=aUi u f (aBu l []+1) (S++[aG.mit (some jm) c [] c]) 0 [] [] u_ u_ u_ A_ x (by rw[<-o,cN]) (Met.nil l) (by simp;omega);rw[<-o]at p;refine dJ K _ (fn:=t116) rfl rfl ?_;simp(disch:=omega)only[t116,go_sem,k,t];refine dN p ?_;rintro j e S' ⟨m,⟨A,z,C,a2⟩,a3,a4⟩;dsimp only at m a2 a3 a4;subst m;subst a2;simp(disch:=omega)only[go_sem];exact bE ⟨fun q B i g=>a3 q B i (a _ _ g),a4⟩
theorem bK8{n jm:Nat}{l:Tf_}{c:Nat}(E:fG l c)(w:l.length<=1000000){S:aA}(u:S.length=n+1)(D:S[n]?=some (.cells 97 false [.map jm]))(A:S[jm]?=some (.mp (mpK en2 qJ l) c))(s:jm<n): ((lim K).call 129 [k_,.fn 116 [] [.ptr n 97 0]] S).All fun r=>Kp n S r.2/\∃(f:Nat) (a:Tb_),r.1=zE f a/\aDl r.2 f a/\(a≠[]->n+3<f)/\a.Perm (l.map (·.2.1)):=by
 have e:=bK7 E w (S:=S++[.cells 67 false [k_]]++[.lp .ready none (e83 n u_ u_) [6] aJg aF1]) (n:=n) (jm:=jm) (x4:=u_) (x6:=u_) (by simp;omega) (by rw[A9];exact aR D _) (by rw[<-u,A9];exact gN0 _ _ _) (by rw[show n+2=(S++[aG.cells 67 false [k_]]).length by simp;omega];exact cN _ _) (by rw[A9];exact aR A _) s;have m:(S++[aG.cells 67 false [k_]]).length=n+2:=by simp;omega
 unfold e83 aJg aF1 at e;rw[show n+1=S.length from u.symm]at e;refine dJ K _ (fn:=t129) rfl rfl ?_;simp(disch:=omega)only[t129,go_sem,m,Q_,C3];refine sT e ?_;rintro v S' ⟨F,f,a,o,z⟩;obtain⟨x4,x6,t⟩:=o.y;have h:=o.b;have x:=aN t;have p:=fun B=>aB (S:=S') (show n+2≠n+1 by omega) B;rw[u.symm]at h p;have i:∀B,Kp n S (S'.set (n+2) B):=fun B q X G C=>by rw[aB A_];exact F q X G (by rw[A9];exact aR C _)
 have d:=o.jr;have k:∀B,aDl (S'.set (n+2) B) f a:=fun B g=>by have:=d g;rw[aB A_];exact o.r g
 rw[aWg,m];by_cases g:a=[]
 .subst g;rw[gK]at h;simp(disch:=omega)only[go_sem,t,p,h];exact bE ⟨i _,f,[],rfl,k _,d,z⟩
 .rw[dO _ g]at h;simp(disch:=omega)only[go_sem,t,p,h];exact bE ⟨i _,f,a,(dO _ g).symm,k _,d,z⟩
theorem aF2{a b:Tb_}(h:a.Perm b):gT a=gT b:=yW ((kD a).trans h) (rQ a)
theorem zF(a:Tb_):(gT a).length=a.length:=(kD a).length_eq
theorem aXa{a:Tb_}:gT a=[]↔a=[]:=by rw[<-H4,zF,H4]
theorem bK9:K.prim 115=some (iL 84):=rfl
theorem aXb(S:aA)(j v o n c e:Nat):prV S (some (iL 84)) [.msl j v o n c e,.fn 84 [] []]=iL 84 [.msl j v o n c e,.fn 84 [] []] S:=id rfl
theorem aXc(S:aA):prV S (some (iL 84)) [k_,.fn 84 [] []]=some (u_,S):=id rfl
theorem aXd{S:aA}{j:Nat}{a:Tb_}(h:S[j]?=some (.cells (a.length-1) true (mR a)))(e:a.length<=1000000)(b:a≠[]): iL 84 [.msl j (a.length-1) 0 a.length a.length 2,.fn 84 [] []] S=some (u_,S.set j (.cells (a.length-1) true (mR (gT a)))):=by have d:0<a.length:=N2.2 b;have f:=xG a;have c:(mR a).take (2*a.length)=mR a:=K5 A_;have e2:(mR a).drop (2*a.length)=[]:=G5 A_;have e3:uB (mR a)=some (gR a):=aFr _;simp only[iL,ne_eq,C9,↓reduceIte,show ¬a.length=0 by omega,h,O_,A7,show 2*a.length<=(mR a).length by omega,show a.length<=1048576 by omega,X1,C4,c,e2,e3,aFs,List.take_zero,List.nil_append,A4];rfl
attribute [go_sem] bK9 aXb aXc
def bQv(n0:Nat)(S:aA)(ks:List (Int×Int))(r:TV×aA):Prop:=Kp n0 S r.2/\∃j',r.1=zE j' (gT ks)/\aDl r.2 j' (gT ks)
theorem bLa{n jm:Nat}{l:Tf_}{c:Nat}(h:fG l c)(f:l.length<=1000000){S:aA}(i:S.length=n+1)(g:S[n]?=some (.cells 97 false [.map jm]))(k:S[jm]?=some (.mp (mpK en2 qJ l) c))(d:jm<n): ((lim K).call 114 [.fn 116 [] [.ptr n 97 0]] S).All fun r=>Kp n S r.2/\∃(b:Nat) (a:Tb_),r.1=zE b a/\aDl r.2 b a/\(a≠[]->n+3<b)/\a.Perm (l.map (·.2.1)):=by
 refine dJ K _ (fn:=t114) rfl rfl ?_;simp(disch:=omega)only[t114,go_sem];refine fI (bK8 h f i g k d) ?_;rintro v S' ⟨e,b,a,a2,a3,a4,a5⟩;dsimp only at e a2 a3;subst a2;by_cases h0:a=[]
 .subst h0;rw[gK];simp(disch:=omega)only[go_sem];exact bE ⟨e,b,[],rfl,a3,a4,a5⟩
 .rw[dO _ h0];simp(disch:=omega)only[go_sem];exact bE ⟨e,b,a,(dO _ h0).symm,a3,a4,a5⟩
theorem bQw{n jm:Nat}{l:Tf_}{c:Nat}(o:fG l c)(g:l.length<=1000000){S:aA}(p:S.length=n+1)(m:S[n]?=some (.cells 97 false [.map jm]))(r:S[jm]?=some (.mp (mpK en2 qJ l) c))(e:jm<n): ((lim K).call 82 [.fn 116 [] [.ptr n 97 0],.fn 84 [] []] S).All (bQv n S (l.map (·.2.1))):=by
 refine dJ K _ (fn:=t82) rfl rfl ?_;simp(disch:=omega)only[t82,go_sem];refine fI (bLa o g p m r e) ?_;rintro v S' ⟨f,k,a,a2,a3,a4,a5⟩;dsimp only at f a2 a3;subst a2;have d:=a5.length_eq;rw[L_]at d;unfold bQv;rw[<-aF2 a5];by_cases h0:a=[]
 .subst h0;rw[gK];simp(disch:=omega)only[go_sem];exact bE ⟨f,k,rfl,fun h=>absurd rfl h⟩
 .have s:=aXd (a3 h0) A_ h0;have i:gT a≠[]:=fun h=>h0 (aXa.1 h);have b:=zF a;have w:=a4 h0;rw[dO _ h0];simp(disch:=omega)only[go_sem,s];refine bE ⟨fun q B u t=>?_,k,?_,fun _=>?_⟩;.rw[aB A_];exact f q B u t
  .rw[dO _ i,b]
  .rw[b];exact aM (aN (a3 h0)) _
theorem bQx(S:aA)(jm:Nat):(lim K).call 83 [.map jm] S=.ret (.fn 116 [] [.ptr S.length 97 0],S++[.cells 97 false [.map jm]]):=by refine aI K _ (fn:=t83) rfl rfl ?_;simp(disch:=omega)only[t83,go_sem]
theorem bC5{jm:Nat}{l:Tf_}{c:Nat}(i:fG l c)(d:l.length<=1000000){S:aA}(f:S[jm]?=some (.mp (mpK en2 qJ l) c)): ((lim K).call 63 [.map jm] S).All (bQv S.length S (l.map (·.2.1))):=by
 have a:=bQx S jm;have b:=bQw i d (n:=S.length) (S:=S++[.cells 97 false [.map jm]]) B_ (cN _ _) (aR f _) (aN f);refine dJ K _ (fn:=t63) rfl rfl ?_;simp(disch:=omega)only[t63,go_sem,a];refine fI b ?_;rintro v S' ⟨e,h,a2,a3⟩;dsimp only at e a2 a3;subst a2;have g:Kp S.length S S':=fun q B m k=>e q B m (aR k _);generalize hks:gT (l.map (·.2.1))=ks at *
 by_cases h0:ks=[]
 .rw[h0,gK];simp(disch:=omega)only[go_sem];exact bE ⟨g,h,by rw[hks,h0];rfl,by rw[hks];exact a3⟩
 .rw[dO _ h0];simp(disch:=omega)only[go_sem];exact bE ⟨g,h,by rw[hks];exact(dO _ h0).symm,by rw[hks];exact a3⟩
theorem mm0(a b:Int):minmax false (.int .i64 a) [j_ b]=some (.int .i64 (prP a b).1):=by
 unfold prP;by_cases h:a<=b;.simp[minmax,min2,h,show ¬b<a by omega]
 .simp[minmax,min2,h,show b<a by omega]
theorem mm1(a b:Int):minmax true (.int .i64 a) [j_ b]=some (.int .i64 (prP a b).2):=by
 unfold prP;by_cases h:a<=b
 .by_cases h2:a<b;.simp[minmax,min2,h,h2]
  .have:a=b:=A_;subst this;simp[minmax,min2]
 .simp[minmax,min2,h,show ¬a<b by omega]
theorem aQe(a b:Int):TM.Pure K 62 [j_ a,j_ b] (.iv (.agg [.int .i64 (prP a b).1,.int .i64 (prP a b).2])):=by refine aT t62 rfl rfl ?_;simp(disch:=omega)only[t62,go_sem,mm0,mm1]
theorem bV2(p q:Int×Int):eqAgg false [(0,.int),(1,.int)] (.iv (.agg [.int .i64 p.1,.int .i64 p.2])) (.iv (.agg [.int .i64 q.1,.int .i64 q.2]))=some (.bool (decide (p=q))):=by
 obtain⟨a,b⟩:=p;obtain⟨c,d⟩:=q;by_cases h1:a=c
 .subst h1;by_cases h2:b=d;.subst h2;simp[eqAgg,fA,gM]
  .simp[eqAgg,fA,gM,h2,show(b==d)=false by simp[h2]]
 .simp[eqAgg,fA,gM,h1,show(a==c)=false by simp[h1]]
def MpP(S:aA)(j:Nat)(l:List (Nat×(Int×Int)×Int))(c:Nat):Prop:=S[j]?=some (.mp (mpK en2 qJ l) c)/\fG l c
def aUj(x:VI)(d:Int)(C:List Int)(p:Int×Int):Prop:=∃r∈C,r≠d/\¬mvP x (prP d r)/\p=prP d r
theorem sO{l:Ta_}{i:Nat}(h:i<l.length):l.drop i=l.getD i 0::l.drop (i+1):=by rw[A6 h];simp[List.getD,h]
theorem aG6(l:Tf_)(c:Nat)(k:Int×Int)(a:Int):yY (fU l c k a) k=a:=by unfold yY;rw[aFv,K_ rfl];rfl
theorem aJh{x:VI}{C:Ta_}(hC:C.length<=1000)(d:Int)(U:Nat)(x0 Z x2 Y x4 x5 x7 x8 x10 x13 x14 x15 x16 A z w D v F:TV):∀(k i:Nat) (S:aA) (l:Tf_) (c:Nat) (x12 N y:TV),i+k=C.length->MpP S 0 l c ->∃(S':aA) (l':Tf_) (c':Nat) (o s n:TV),lp' (lim K) t34L0 [x0,Z,x2,Y,x4,x5,.map 0,x7,x8,.lb ((aJ x).map .iv),x10,j_ d,x12,x13,x14,x15,x16,A,z,w,D,v,F,.tsl U (aZ C),j_ C.length,j_ i,N,y] S = .ret (.exit 4,[x0,Z,x2,Y,x4,x5,.map 0,x7,x8,.lb ((aJ x).map .iv),x10,j_ d,o,x13,x14,x15,x16,A,z,w,D,v,F,.tsl U (aZ C),j_ C.length,j_ C.length,s,n],S')/\MpP S' 0 l' c'/\(∀p,eJ l' p=true↔eJ l p=true\/aUj x d (C.drop i) p)/\l'.length<=l.length+k/\bL [0] S S'
 |0,i,S,l,c,x12,N,y,h,hm=>by
  obtain rfl:i=C.length:=A_;refine⟨S,l,c,x12,z_,y,aE K _ _ t34L0.eq_1 ?_,hm,fun p=>?_,by omega,bL.refl _ _⟩;.simp(disch:=omega)only[go_sem]
  .rw[E0];exact⟨.inl,fun h=>by rcases h with h|⟨r,hr,_⟩;exact h;cases hr⟩
 |k+1,i,S,l,c,x12,N,y,h,hm=>by
  have Q:i<C.length:=A_;have E:=bKw (j:=U) Q;have h5:=sO Q;generalize C.getD i 0=r at *
  have c1:=aQe d r;have c2:=aQe x.a x.d;have e1:((i+1:Nat):Int)=(i:Int)+1:=A_;have u:=bV2 (prP d r) (prP x.a x.d);rw[aS]at *
  have H:∀(p:Int×Int),aUj x d (C.drop i) p↔(r≠d/\¬mvP x (prP d r)/\p=prP d r)\/aUj x d (C.drop (i+1)) p:=fun p=>by
   rw[h5];constructor
   .rintro⟨q,V,f⟩;rcases J_.1 V with rfl|V;.exact .inl f
    .exact .inr ⟨q,V,f⟩
   .rintro(f|⟨q,V,f⟩);.exact⟨r,by simp,f⟩
    .exact⟨q,by simp[V],f⟩
  by_cases hskip:r=d\/mvP x (prP d r)
  .obtain⟨S',l',c',o,s,n,t,I,L,h0,hK⟩:=aJh (x:=x) hC d U x0 Z x2 Y x4 x5 x7 x8 x10 x13 x14 x15 x16 A z w D v F k (i+1) S l c (j_ r) e_ e_ A_ hm;rw[e1,aS]at t;refine⟨S',l',c',o,s,n,aE K _ _ t34L0.eq_1 ?_,I,fun p=>?_,by omega,hK⟩
   .by_cases m:r=d;.simp(disch:=omega)only[go_sem,E,m,aC];rw[m]at t;exact X_ er t
    .have G:=hskip.resolve_left m;obtain⟨g,J⟩:=G;rw[V_ J]at u;simp(disch:=omega)only[go_sem,E,m,g,aD c1,aD c2,u,aC];rw[g]at t;exact X_ er t
   .rw[L,H];constructor
    .rintro(f|f);.exact .inl f
     .exact .inr (.inr f)
    .rintro(f|⟨f,h2,_⟩|f);.exact .inl f
     .exact absurd hskip (by simp[f,h2])
     .exact .inr f
  .have m:r≠d:=fun e=>hskip (.inl e);have G:¬mvP x (prP d r):=fun e=>hskip (.inr e);obtain⟨P,ho⟩:=hm;have W:=aN P;have R:=es2 ho (aAm l c (prP d r)) ;have g1:∀b,(S.set 0 b)[0]?=some b:=fun b=>aM W b;have h4:MpP ((S.set 0 (.mp (mpK en2 qJ (fU l c (prP d r) (yY l (prP d r)))) (aAm l c (prP d r)))).set 0 (.mp (mpK en2 qJ (fU l c (prP d r) (IntKind.i64.wrap (yY l (prP d r)+1)))) (aAm l c (prP d r)))) 0 (fU l c (prP d r) (IntKind.i64.wrap (yY l (prP d r)+1))) (aAm l c (prP d r)):=⟨aM (by simpa using W) _,ho.put _ _⟩
   obtain⟨S',l',c',o,s,n,t,I,L,h0,hK⟩:=aJh (x:=x) hC d U x0 Z x2 Y x4 x5 x7 x8 x10 x13 x14 x15 x16 A z w D v F k (i+1) _ _ _ (j_ r) e_ z_ A_ h4;rw[e1,aS]at t;refine⟨S',l',c',o,s,n,aE K _ _ t34L0.eq_1 ?_,I,fun p=>?_,by have:=aBt l c (prP d r) (IntKind.i64.wrap (yY l (prP d r)+1));omega,((bL.set S B_ _).trans (bL.set _ B_ _)).trans hK⟩
   .have J:x.op=64->¬prP d r=prP x.a x.d:=fun g e=>G ⟨g,e⟩;have T:=aG6 l c (prP d r) (yY l (prP d r));generalize prP d r=pd at *
    generalize prP x.a x.d=qd at *
    obtain⟨pa,pb⟩:=pd;dsimp only at *
    by_cases g:x.op=64;.rw[l_ (J g)]at u;simp(disch:=omega)only[go_sem,E,m,g,aD c1,aD c2,u,P,g1,R,T,aC];rw[g]at t;exact X_ er t
    .simp(disch:=omega)only[go_sem,E,m,g,aD c1,P,g1,R,T,aC];exact X_ er t
   .rw[L,H,aPm,D3,q_];constructor
    .rintro((f|f)|f);.exact .inr (.inl ⟨m,G,f.symm⟩)
     .exact .inl f
     .exact .inr (.inr f)
    .rintro(f|⟨_,_,f⟩|f);.exact .inl (.inr f)
     .exact .inl (.inl f.symm)
     .exact .inr f
structure Slc (S:aA) (v:TV) (C:List Int):Prop where
 len:rZ .sl S v=some (.iv (.int .i64 C.length))
 frm:(∃a,v=.iv a)\/(∃j l,v=.tsl j l)\/∃a b c d e f,v=.msl a b c d e f
 ix:∀i:Nat,i<C.length->∃a,indexAddrS 1 v (i:Int)=some a/\∀env,bP env S a 1=some [.iv (.int .i64 (C.getD i 0))]
theorem Slc.loc{S:aA}{v:TV}{C:Ta_}(h:Slc S v C)(q:Nat):mX q v=v:=by rcases h.frm with⟨a,rfl⟩|⟨j,l,rfl⟩|⟨a,b,c,d,e,f,rfl⟩<;>rfl
theorem Slc.nlp{S:aA}{v:TV}{C:Ta_}(h:Slc S v C):cA v=false:=by rcases h.frm with⟨a,rfl⟩|⟨j,l,rfl⟩|⟨a,b,c,d,e,f,rfl⟩<;>rfl
theorem Slc.wb{S0:aA}{v:TV}{C:Ta_}(h:Slc S0 v C)(j:Nat)(ops:List aK)(i:Nat)(M:To_)(n:Nat)(g:List TM.Fr)(env:Env)(S:aA):aAg K (lim K) v j ops i M n g env S=sC K (lim K) ops (i+1) M n g (env.set j v) S:=by
 rcases h.frm with⟨a,rfl⟩|⟨j,l,rfl⟩|⟨a,b,c,d,e,f,rfl⟩;.exact aCu ..
 .exact aFf ..
 .exact aOt ..
theorem Slc.iv(S:aA)(t:Tag)(C:Ta_):Slc S (.iv (.sl t (TM.one (.int .i64) C))) C :=
 ⟨by rw[aWa,TM.kB],.inl ⟨_,rfl⟩,fun i a=>⟨_,pI (f:=IV.int .i64) (t:=t) (l:=C) (i:=(i:Int)) A_,fun env=>by rw[Int.toNat_natCast];rfl⟩⟩
theorem Slc.tsl(S:aA)(j:Nat)(C:Ta_):Slc S (.tsl j (aZ C)) C :=
 ⟨by rw[aNw,eK],.inr (.inl ⟨_,_,rfl⟩),fun i a=>⟨_,bKw a,fun env=>rfl⟩⟩
theorem Slc.msl{S:aA}{j v cap:Nat}{b:Bool}{C:Ta_}{J:Tn_}(h:S[j]?=some (.cells v b (C.map vI++J))):Slc S (.msl j v 0 C.length cap 1) C :=
 ⟨rfl,.inr (.inr ⟨_,_,_,_,_,_,rfl⟩),fun i a=>⟨_,iO a,fun env=>by simp only[bP,h,↓reduceIte];exact oY a⟩⟩
def bC6(p:Int->Bool)(C:List Int):Int:=if C.any p then(C.findIdx p:Nat)else -1
theorem aUk{S:aA}{v:TV}{C:Ta_}(h:Slc S v C)(G:C.length<=9000000)(g:Nat)(cap:Tn_){b:Bool}(o:cap.all kM=b)(p:Int->Bool) (z:∀x∈C,cvA (lim K) b S g (j_ x::cap)=.ret (.iv (.bool (p x)),S)):∀(k i:Nat) (x2 f x6 x7:TV),i+k=C.length->(∀x∈C.take i,p x=false) ->∃(e:aW) (l t u r s:TV),lp' (lim K) t50L0 [v,.fn g [] cap,x2,f,j_ C.length,j_ i,x6,x7] S = .ret (e,[v,.fn g [] cap,l,t,j_ C.length,u,r,s],S) /\(e=.exit 0/\C.any p=false\/e=.ret/\C.any p=true/\l=j_ (C.findIdx p:Nat))
 |0,i,x2,f,x6,x7,hk,hq=>by
  obtain rfl:i=C.length:=A_;rw[B9]at hq;have m:=h.loc;refine⟨.exit 0,x2,f,j_ C.length,z_,x7,aE K _ _ t50L0.eq_1 ?_,.inl ⟨rfl,?_⟩⟩;.simp(disch:=omega)only[go_sem,m]
  .rw[t_];intro x d;rw[hq x d];simp
 |k+1,i,x2,f,x6,x7,hk,hq=>by
  have c:i<C.length:=A_;obtain⟨a,w,A⟩:=h.ix i c;have m:=h.loc;have j:=z (C.getD i 0) (nU c);have q:=iR c;cases hd:p (C.getD i 0)with
  |true =>
   rw[hd]at j;have n:C.findIdx p=i:=by
    have F:C=C.take i++C.getD i 0::C.drop (i+1):=by rw[<-sO c,G1]
    rw[F,List.findIdx_append,I_ (by rw[X4];rintro⟨x,d,y⟩;rw[hq x d]at y;cases y),List.findIdx_cons,hd];simp;omega
   refine⟨.ret,j_ i,j_ i,j_ i,e_,e_,aE K _ _ t50L0.eq_1 ?_,.inr ⟨rfl,E8.2 ⟨_,nU c,hd⟩,by rw[n]⟩⟩;simp(disch:=omega)only[go_sem,m,w,A,o,j]
  |false =>
   rw[hd]at j;obtain⟨e,l,t,u,r,s,D,E⟩:=aUk h G g cap o p z k (i+1) x2 (j_ i) e_ z_ A_ (fun x d=>by
    rw[q,a_,U_]at d;rcases d with d|rfl;.exact hq x d
    .exact hd)
   rw[show((i+1:Nat):Int)=(i:Int)+1 by omega]at D;refine⟨e,l,t,u,r,s,aE K _ _ t50L0.eq_1 ?_,E⟩;simp(disch:=omega)only[go_sem,m,w,A,o,j,aC];exact X_ er D
theorem aJi{S:aA}{v:TV}{C:Ta_}(h:Slc S v C)(i:C.length<=9000000)(g:Nat)(cap:Tn_){b:Bool}(f:cap.all kM=b)(p:Int->Bool) (j:∀x∈C,cvA (lim K) b S g (j_ x::cap)=.ret (.iv (.bool (p x)),S)):(lim K).call 50 [v,.fn g [] cap] S=.ret (j_ (bC6 p C),S):=by
 obtain⟨k,o,m,l,n,q,c,a⟩:=aUk h i g cap f p j C.length 0 (j_ 0) u_ u_ u_ A_ B_;rw[n0_]at c;have e:=h.loc;have d:=h.len;unfold bC6;rcases a with⟨rfl,a⟩|⟨rfl,a,rfl⟩;.rw[a,I_ C_];refine aI K S (fn:=t50) rfl rfl ?_;simp(disch:=omega)only[t50,go_sem,e,d];rw[c];simp(disch:=omega)only[go_sem]
 .rw[a,K_ rfl];refine aI K S (fn:=t50) rfl rfl ?_;simp(disch:=omega)only[t50,go_sem,e,d];rw[c];simp(disch:=omega)only[go_sem]
theorem aCd{S:aA}{v:TV}{C:Ta_}(h:Slc S v C)(i:C.length<=9000000)(g:Nat)(cap:Tn_){b:Bool}(f:cap.all kM=b)(c:cap.any cA=false)(p:Int->Bool) (j:∀x∈C,cvA (lim K) b S g (j_ x::cap)=.ret (.iv (.bool (p x)),S)):(lim K).call 22 [v,.fn g [] cap] S=.ret (.iv (.bool (C.any p)),S):=by
 have a:=aJi h i g cap f p j;have e:=h.loc;have d:=h.nlp;unfold bC6 at a;cases ha:C.any p with
 |true =>rw[ha,K_ rfl]at a;refine aI K S (fn:=t22) rfl rfl ?_;simp(disch:=omega)only[t22,go_sem,e,d,c,a]
 |false =>rw[ha,I_ C_]at a;refine aI K S (fn:=t22) rfl rfl ?_;simp(disch:=omega)only[t22,go_sem,e,d,c,a]
def flp(p:Int->Bool)(C:List Int):List Int:=C.filter fun n=>!p n
theorem aUl{p:Int->Bool}{C:Ta_}(h:∀x∈C,p x=false):flp p C=C:=R8.2 fun a b=>by rw[h a b];rfl
theorem aMb{p:Int->Bool}{C:Ta_}{i:Nat}(h:i<C.length):flp p (C.take (i+1))=if p (C.getD i 0)then flp p (C.take i)else flp p (C.take i)++[C.getD i 0]:=by rw[iR h];unfold flp;rw[I5];generalize C.getD i 0=x;cases hp:p x<;>simp[hp]
theorem aJj(p:Int->Bool)(C:Ta_):(flp p C).length<=C.length:=D8 _ _
theorem aJk{S:aA}{j v:Nat}{b:Bool}{C:Ta_}{J:Tn_}(r:j<S.length)(E:C.length<=9000000)(g:Nat)(cap:Tn_){bb:Bool}(o:cap.all kM=bb)(p:Int->Bool) (t:∀(B:aG) (x:Int),cvA (lim K) bb (S.set j B) g (j_ x::cap)=.ret (.iv (.bool (p x)),S.set j B)) (cp:Nat) (x2 x6:TV):∀(k i:Nat) (x5 x7 x8:TV),i+k=C.length ->∃n e f,lp' (lim K) t40L0 [.msl j v 0 C.length cp 1,.fn g [] cap,x2,.iv (.int .i64 ((flp p (C.take i)).length:Nat)),j_ i,x5,x6,x7,x8] (S.set j (.cells v b ((flp p (C.take i)++C.drop (flp p (C.take i)).length).map vI++J))) = .ret (.exit 0,[.msl j v 0 C.length cp 1,.fn g [] cap,x2,j_ ((flp p C).length:Nat),j_ C.length,n,x6,e,f],S.set j (.cells v b ((flp p C++C.drop (flp p C).length).map vI++J)))
 |0,i,x5,x7,x8,hk=>by obtain rfl:i=C.length:=A_;rw[B9];refine⟨x5,z_,x8,aE K _ _ t40L0.eq_1 ?_⟩;simp(disch:=omega)only[go_sem]
 |k+1,i,x5,x7,x8,hk=>by
  have c:i<C.length:=A_;have w:(flp p (C.take i)).length<=i:=C0 (aJj _ _) (by simp;omega);have l:=uG (D:=flp p (C.take i)) (C:=C) A_;have A:=iO (j:=j) (v:=v) (cap:=cp) c;have q:=oY (C:=flp p (C.take i)++C.drop (flp p (C.take i)).length) (J:=J) (i:=i) A_;rw[aIr w]at q;have d:=t (.cells v b ((flp p (C.take i)++C.drop (flp p (C.take i)).length).map vI++J)) (C.getD i 0);have a:=aMb (p:=p) c;have s:=aM r (.cells v b ((flp p (C.take i)++C.drop (flp p (C.take i)).length).map vI++J));simp only[vI]at s q d;cases hd:p (C.getD i 0)with
  |true =>
   rw[hd]at d;rw[hd,K_ rfl]at a;obtain⟨n,e,f,m⟩:=aJk (v:=v) (b:=b) (J:=J) r E g cap o p t cp x2 x6 k (i+1) (j_ (C.getD i 0)) e_ z_ A_;rw[a,show((i+1:Nat):Int)=(i:Int)+1 by omega]at m;refine⟨n,e,f,aE K _ _ t40L0.eq_1 ?_⟩;generalize hS1:S.set j (.cells v b ((flp p (C.take i)++C.drop (flp p (C.take i)).length).map vI++J))=S1 at *
   simp(disch:=omega)only[go_sem,A,s,q,o,d,aC];exact X_ er m
  |false =>
   rw[hd]at d;rw[hd,I_ C_]at a;have z:(flp p (C.take i)).length<C.length:=A_;have F:=iO (j:=j) (v:=v) (cap:=cp) z;have u:=aIp (C:=flp p (C.take i)++C.drop (flp p (C.take i)).length) (J:=J) (i:=(flp p (C.take i)).length) (C.getD i 0) A_;rw[aIq _ _ _ z]at u;have y:(flp p (C.take i)).length+1<=((flp p (C.take i)++C.drop (flp p (C.take i)).length).map vI++J).length:=by rw[H_,L_,l];omega
   obtain⟨n,e,f,m⟩:=aJk (v:=v) (b:=b) (J:=J) r E g cap o p t cp x2 x6 k (i+1) (j_ (C.getD i 0)) e_ e_ A_;rw[a,show((i+1:Nat):Int)=(i:Int)+1 by omega,H_,List.length_singleton,show(((flp p (C.take i)).length+1:Nat):Int)=((flp p (C.take i)).length:Int)+1 by omega]at m;have G:∀B,(S.set j (.cells v b ((flp p (C.take i)++C.drop (flp p (C.take i)).length).map vI++J))).set j B=S.set j B:=fun B=>G9 ..;simp only[vI]at u;refine⟨n,e,f,aE K _ _ t40L0.eq_1 ?_⟩;generalize hS1:S.set j (.cells v b ((flp p (C.take i)++C.drop (flp p (C.take i)).length).map vI++J))=S1 at *
   simp(disch:=omega)only[go_sem,A,F,s,q,o,d,aC,y,u,G];exact X_ er m
theorem aUm{S:aA}{j v:Nat}{b:Bool}{C:Ta_}{J:Tn_}(h:S[j]?=some (.cells v b (C.map vI++J)))(H:C.length<=9000000){cp:Nat}(P:C.length<=cp)(g:Nat)(cap:Tn_){bb:Bool}(E:cap.all kM=bb)(f:cap.any cA=false)(p:Int->Bool) (G:∀(B:aG) (x:Int),cvA (lim K) bb (S.set j B) g (j_ x::cap)=.ret (.iv (.bool (p x)),S.set j B)): ∃J',(lim K).call 40 [.msl j v 0 C.length cp 1,.fn g [] cap] S=.ret (.msl j v 0 (flp p C).length cp 1,S.set j (.cells v b ((flp p C).map vI++J'))):=by
 have r:=aN h;have c:=aJi (Slc.msl h (cap:=cp)) H g cap E p (fun x _=>by have:=G (.cells v b (C.map vI++J)) x;rw[jU h]at this;exact this);unfold bC6 at c;cases ha:C.any p with
 |false =>
  rw[ha,I_ C_]at c;have e:∀x∈C,p x=false:=fun x A=>by simpa using t_.1 ha x A
  rw[aUl e];refine⟨J,aI K _ (fn:=t40) rfl rfl ?_⟩;rw[jU h];simp(disch:=omega)only[t40,go_sem,f,c]
 |true =>
  rw[ha,K_ rfl]at c;have N:C.findIdx p<C.length:=X4.2 (E8.1 ha);generalize hqq:C.findIdx p=q at *
  have k:∀x∈C.take q,p x=false:=fun x A=>by
   obtain⟨i,Q,rfl⟩:=H8 A;have R:i<q:=by simp at Q;omega
   rw[List.getElem_take];have:=List.not_of_lt_findIdx (p:=p) (xs:=C) (i:=i) A_;simpa using this
  have u:flp p (C.take q)=C.take q:=aUl k;have t:p (C.getD q 0)=true:=by have:=List.findIdx_getElem (p:=p) (xs:=C) (w:=A_);subst hqq;simpa[List.getD,D_ N] using this
  have d:flp p (C.take (q+1))=C.take q:=by rw[aMb N,t,K_ rfl,u]
  have s:(C.take q).length=q:=by simp;omega
  obtain⟨W,U,V,I⟩:=aJk (v:=v) (b:=b) (J:=J) r H g cap E p G cp k_ z_ (C.length-(q+1)) (q+1) u_ u_ u_ A_;rw[d,s,show((q+1:Nat):Int)=(q:Int)+1 by omega,G1,jU h]at I;have o:(S.set j (.cells v b ((flp p C++C.drop (flp p C).length).map vI++J)))[j]?=some _:=aM r _;have l:=aJj p C;have n:=uG (D:=flp p C) (C:=C) l;have T:=wB o _ _ _ (pL (m:=C.length) (cap:=cp) (a:=(flp p C).length) P l);obtain⟨J',L⟩:=aPr (cap:=cp) o (i:=(flp p C).length) A_ A_ (cp-(flp p C).length);rw[n,K4,G9]at L;.have y:(S.set j (.cells v b ((flp p C).map vI++J')))[j]?=some _:=aM r _;have F:=wB y _ _ _ (uF (m:=C.length) (cap:=cp) (b:=(flp p C).length) A_);rw[show(if cp=0 then 0 else 0+0*1)=0 by split<;>rfl,Nat.sub_zero,Nat.sub_zero]at F;have z:¬(q:Int) = -1:=A_;refine⟨J',aI K _ (fn:=t40) rfl rfl ?_⟩;simp(disch:=omega)only[t40,go_sem,f,c,z,aC];rw[I];simp(disch:=omega)only[go_sem,T,fun env=>aLr _ env _ _ _ L,F]
  .rfl
theorem aCe{g:Nat}{x:Int}{v:TV}(h:TM.Pure K g [j_ x] v)(S:aA):cvA (lim K) true S g [j_ x]=.ret (v,S):=by simp only[go_sem,aD h]
theorem bQy(x:Int):TM.Pure K 53 [j_ x] (.iv (.bool (decide (24<x)))):=by refine aT t53 rfl rfl ?_;simp(disch:=omega)only[t53,go_sem]
def p24(x:Int):Bool:=decide (24<x)
def crM(l:List Int):Bool:=decide (16<(flp p24 l).length)
theorem bQz(t:Tag)(l:Ta_)(e:cB t l)(h:l.length<=1000000):TM.Pure K 26 [.iv (.sl t (TM.one (.int .i64) l))] (.iv (.bool (crM l))):=by
 have g:∀(S:aA) (x:Int),cvA (lim K) true S 53 [j_ x]=.ret (.iv (.bool (p24 x)),S):=fun S x=>aCe (bQy x) S;unfold crM;rcases aP2 t l e h []with⟨rfl,t',_,c44⟩|⟨h0,c44⟩
 .have b:=aJi (S:=[]) (Slc.iv [] t' []) B_ 53 [] rfl p24 (fun x c=>by cases c);rw[show bC6 p24 [] = -1 from rfl,qK]at b;have a:(lim K).call 40 [.iv (.sl t' []),.fn 53 [] []] []=.ret (.iv (.sl t' []),[]):=by refine aI K _ (fn:=t40) rfl rfl ?_;simp(disch:=omega)only[t40,go_sem,b]
  rw[qK]at *
  refine TM.gQ (S:=[]) (r:=.iv (.bool (decide (16<(flp p24 []).length)))) (aI K _ (fn:=t26) rfl rfl ?_) (by rw[oH]);rw[show flp p24 []=[] from rfl];simp(disch:=omega)only[t26,go_sem,c44,a]
 .have d:([.cells 0 true (l.map vI)]:aA)[0]?=some (.cells 0 true (l.map vI++[])):=by rw[A4];rfl
  obtain⟨J',a⟩:=aUm d A_ (O_ _) 53 [] rfl rfl p24 (fun B x=>g _ x);simp only[List.nil_append,List.length_nil]at c44;have f:((16:Int)<((flp p24 l).length:Int))↔16<(flp p24 l).length:=A_;simp only[List.set_cons_zero]at a;refine TM.gQ (S:=[aG.cells 0 true ((flp p24 l).map vI++J')]) (r:=.iv (.bool (decide (16<(flp p24 l).length)))) (aI K _ (fn:=t26) rfl rfl ?_) (by rw[oH]);simp(disch:=omega)only[t26,go_sem,c44,a,f]
theorem aUn{S:aA}{j:Nat}{l A:M_}{t:Tag}(c:jE 1 l)(a:jE 1 A)(h:S[j]?=some (.tok l.length 1 26))(d:l.length+A.length<=2000000):bA false 1 24 26 S (.tsl j l) (.iv (.sl t A))=some (.tsl j (l++A),S.set j (.tok (l.length+A.length) 1 26)) :=
 aFk (b:=24) (rO.sl ..) a c h (bR A_)
theorem bQ0(n:Nat)(h:0<n/\n<=2000000)(S:aA):(lim K).call 52 [k_,j_ n] S=.ret (.tsl S.length [],S++[.tok 0 1 26]):=by
 have a:eA n 24=true:=bR A_;have e:¬(n:Int)<=0:=A_;have d:qU 1 24 26 S k_ (n:Int)=some (.rsv S.length [] n,S++[.tok 0 1 26]):=by simp[qU,oL,a,e,Int.toNat_natCast,show ¬n=0 by omega]
 have b:∀n:Int,n-(0-((0:Nat):Int))=n:=fun n=>A_;have c:aYv (aAu k_)=some (j_ 0):=id rfl;have e2:∀S:aA,fQ S (.sl 1) k_ none (some 0) none=some k_:=fun S=>rfl;have e3:∀(S:aA) (i n:Nat),fQ S (.sl 1) (.rsv i [] n) none (some 0) none=some (.tsl i []):=fun S i n=>rfl;have f:∀(S:aA) (i n:Nat),fQ S (.sl 1) (.rsv i [] n) none (some ((0:Nat):Int)) none=some (.tsl i []):=fun S i n=>rfl;refine aI K S (fn:=t52) rfl rfl ?_;simp(disch:=omega)only[t52,go_sem,c,e2,e3,f,aC,b,fun env=>bJd (env:=env) d]
theorem bQ1(I O:Te_){n:Nat}(C:0<n/\n<=100000)(f d:Tag)(S:aA): (lim K).call 25 [.iv (.sl .full [[.sl f (bK I n)],[.sl d (bK O n)]])] S=.ret (.tsl S.length (bK I n++bK O n),S++[.tok (n+n) 1 26]):=by
 have k:=uK I n;have u:=uK O n;have p:=aC9 I n;have x:=aC9 O n;have g:=bQ0 (n+n) A_ S;have w:∀b,(S++[b])[S.length]?=some b:=fun b=>cN S b;have s:=aUn (S:=S++[.tok 0 1 26]) (j:=S.length) (l:=[]) (A:=bK I n) (t:=f) (by intro c m;cases m) p (w _) (by simp;omega);have st:∀b c:aG,(S++[b]).set S.length c=S++[c]:=fun b c=>B_;rw[List.nil_append,List.length_nil,A7,k,st]at s;have a2:=aUn (S:=S++[.tok n 1 26]) (j:=S.length) (l:=bK I n) (A:=bK O n) (t:=d) p x (by rw[k];exact w _) A_;rw[k,u,st]at a2;have x0:indexAddrS 1 (.iv (.sl .full [[.sl f (bK I n)],[.sl d (bK O n)]])) 0=some (.iv (.cp [.sl f (bK I n)])):=rfl;have r:indexAddrS 1 (.iv (.sl .full [[.sl f (bK I n)],[.sl d (bK O n)]])) 1=some (.iv (.cp [.sl d (bK O n)])):=rfl;have m:((n+n:Nat):Int)=(n:Int)+n:=A_;rw[m]at g;generalize bK I n=A at *
 generalize bK O n=B at *
 generalize hX:(TV.iv (.sl .full [[.sl f A],[.sl d B]]))=X at *
 have a:∀q,mX q X=X:=fun q=>by rw[<-hX];rfl
 have h:∀S,rZ .sl S X=some (j_ 2):=fun S=>by rw[<-hX];rfl
 have z:cA X=false:=by rw[<-hX];rfl
 have v:∀(j:Nat) ops i M n o env S,aAg K (lim K) X j ops i M n o env S=sC K (lim K) ops (i+1) M n o (env.set j X) S:=fun j ops i M n o env S=>by rw[<-hX];exact aCu ..
 have L2:∀(e x9 x10:TV),lp' (lim K) t25L1 [X,k_,j_ ((n:Int)+n),e,u_,u_,X,j_ 2,j_ 2,x9,x10,u_,u_,u_,u_] S=.ret (.exit 0,[X,k_,j_ ((n:Int)+n),e,u_,u_,X,j_ 2,j_ 2,z_,x10,u_,u_,u_,u_],S):=fun e x9 x10=>aE K _ _ t25L1.eq_1 (by simp(disch:=omega)only[go_sem,a]);have L1:∀(e x9 x10:TV),lp' (lim K) t25L1 [X,k_,j_ (n:Int),e,u_,u_,X,j_ 2,j_ 1,x9,x10,u_,u_,u_,u_] S=.ret (.exit 0,[X,k_,j_ ((n:Int)+n),.iv (.sl d B),u_,u_,X,j_ 2,j_ 2,z_,z_,u_,u_,u_,u_],S):=fun e x9 x10=>aE K _ _ t25L1.eq_1 (by simp(disch:=omega)only[go_sem,a,r,u,aC];exact X_ er (L2 ..));have L0:∀(e x9 x10:TV),lp' (lim K) t25L1 [X,k_,j_ 0,e,u_,u_,X,j_ 2,j_ 0,x9,x10,u_,u_,u_,u_] S=.ret (.exit 0,[X,k_,j_ ((n:Int)+n),.iv (.sl d B),u_,u_,X,j_ 2,j_ 2,z_,z_,u_,u_,u_,u_],S):=fun e x9 x10=>aE K _ _ t25L1.eq_1 (by simp(disch:=omega)only[go_sem,a,x0,k,aC,Int.zero_add];exact X_ er (L1 ..));have M2:∀(x5 x14 y:TV),lp' (lim K) t25L0 [X,k_,j_ ((n:Int)+n),y,.tsl S.length (A++B),x5,X,j_ 2,j_ 2,z_,z_,X,j_ 2,j_ 2,x14] (S++[.tok (n+n) 1 26])=.ret (.exit 2,[X,k_,j_ ((n:Int)+n),y,.tsl S.length (A++B),x5,X,j_ 2,j_ 2,z_,z_,X,j_ 2,j_ 2,z_],S++[.tok (n+n) 1 26]):=fun x5 x14 y=>aE K _ _ t25L0.eq_1 (by simp(disch:=omega)only[go_sem,a]);have M1:∀(x5 x14 y:TV),lp' (lim K) t25L0 [X,k_,j_ ((n:Int)+n),y,.tsl S.length A,x5,X,j_ 2,j_ 2,z_,z_,X,j_ 2,j_ 1,x14] (S++[.tok n 1 26])=.ret (.exit 2,[X,k_,j_ ((n:Int)+n),y,.tsl S.length (A++B),.iv (.sl d B),X,j_ 2,j_ 2,z_,z_,X,j_ 2,j_ 2,z_],S++[.tok (n+n) 1 26]):=fun x5 x14 y=>aE K _ _ t25L0.eq_1 (by simp(disch:=omega)only[go_sem,a,r,a2,aC];exact X_ er (M2 ..));have M0:∀(x5 x14 y:TV),lp' (lim K) t25L0 [X,k_,j_ ((n:Int)+n),y,.tsl S.length [],x5,X,j_ 2,j_ 2,z_,z_,X,j_ 2,j_ 0,x14] (S++[.tok 0 1 26])=.ret (.exit 2,[X,k_,j_ ((n:Int)+n),y,.tsl S.length (A++B),.iv (.sl d B),X,j_ 2,j_ 2,z_,z_,X,j_ 2,j_ 2,z_],S++[.tok (n+n) 1 26]):=fun x5 x14 y=>aE K _ _ t25L0.eq_1 (by simp(disch:=omega)only[go_sem,a,x0,s,aC];exact X_ er (M1 ..));refine aI K S (fn:=t25) rfl rfl ?_;simp(disch:=omega)only[t25,go_sem,a,h,v];rw[L0];simp(disch:=omega)only[go_sem,g,a,h,v];rw[M0];simp(disch:=omega)only[go_sem]
end Go.Proofs.YtehlgnfhkidgoaaGreatDoor
