/- Some texts of the proof, joined. Condition: none. -/
import Derived.Test.YtageemgcnoblnaaDoorJb
import Derived.Test.YtageemgcnoblnaaDoorJa
set_option maxRecDepth 100000
set_option maxHeartbeats 64000000
set_option linter.unusedSimpArgs false
set_option linter.unusedVariables false
namespace Go.Proofs.YtageemgcnoblnaaDoor
open Go Go.TM
theorem aBe:∀ {l B B1:List Int},rN l B=some B1->(∀v,v∈B1↔v∈l∨v∈B)∧(∀v∈l,v∉B)∧l.Nodup
 | [],B,B1,h=>by simp[rN]at h;subst h;simp
 | x::r,B,B1,h=>by
  unfold rN at h
  split at h
  ·cases h
  ·rename_i hx
   obtain⟨h1,h2,h3⟩:=aBe h
   refine⟨fun v=>?_,?_,?_⟩
   ·rw[h1 v]
    simp only[List.mem_cons]
    constructor
    ·rintro(h|h|h)
     ·exact .inl (.inr h)
     ·exact .inl (.inl h)
     ·exact .inr h
    ·rintro((h|h)|h)
     ·exact .inr (.inl h)
     ·exact .inl h
     ·exact .inr (.inr h)
   ·intro v hv
    rcases List.mem_cons.1 hv with rfl|hv
    ·exact hx
    ·exact fun hb=>h2 v hv (List.mem_cons_of_mem _ hb)
   ·rw[List.nodup_cons]
    exact⟨fun hm=>h2 x hm (by simp),h3⟩
theorem CkS.delA {p:Pg}{ic ib ik ir:Nat}{S:aA}{B C A:List Int}(h:CkS p ic ib ik ir S B C A){la:List (Nat×Int×Int)}{ca:Nat}(a1:S[ir]? = some (.mp (mpR oC la) ca))(a2:∀v,xI la v=if v∈A then 1 else 0)(k:Int){A':List Int}(ha:∀v,v∈A'↔v∈A∧v≠k):
  CkS p ic ib ik ir (S.set ir (.mp (mpR oC (rF la ca k 0)) (aEf la ca k))) B C A':=by
 refine⟨h.cb,h.ck,h.cr,h.bk,h.br,h.kr,?_,h.b.keep (aU (Ne.symm h.br) _),h.c.keep (aU (Ne.symm h.kr) _),iH.del a1 a2 k ha,fun v hv=>h.sub v ((ha v).1 hv).1⟩
 rw[aU (Ne.symm h.cr)];exact h.at'
theorem aPv (p:Pg)(ic ib ik ir:Nat)(e:Ex)(hw:e.w<=1048576)(B C:List Int)(x1 x2 x3 x4 x5 x6 x7 x9 x10 x11 x12 x13 x14 x15 x16 x17 x18 x19 x20 x21 x22 x23:TV):∀(k i:Nat) (x8 x27:TV) (S:aA) (A:List Int),i+k=e.vs.length->CkS p ic ib ik ir S B C A ->
  ∃y8 y27 S',(∀A',(∀v,v∈A'↔v∈A∧v∉e.vs.drop i)->CkS p ic ib ik ir S' B C A')∧aJ [ib,ik,ir] S S' ∧
   lp' (lim K) t36L0 [.ptr ic 89 0,x1,x2,x3,x4,x5,x6,x7,x8,x9,x10,x11,x12,x13,x14,x15,x16,x17,x18,x19,x20,x21,x22,x23,.iv (.sl e.gv (TM.one (.int .i64) e.vs)),j_ e.vs.length,j_ (i:Int),x27] S
    = .ret (.exit 5,[.ptr ic 89 0,x1,x2,x3,x4,x5,x6,x7,y8,x9,x10,x11,x12,x13,x14,x15,x16,x17,x18,x19,x20,x21,x22,x23,.iv (.sl e.gv (TM.one (.int .i64) e.vs)),j_ e.vs.length,j_ e.vs.length,y27],S')
 | 0,i,x8,x27,S,A,h,hs=>by
  obtain rfl:i=e.vs.length:=by omega
  refine⟨?_,?_,S,fun A' ha=>hs.congrA (fun v=>by rw[ha v,List.drop_length];simp),.refl _ _,aI K _ _ t36L0.eq_1 ?_⟩
  rotate_left 2
  ·simp (disch:=omega) only[go_sem]
   rfl
 | k+1,i,x8,x27,S,A,h,hs=>by
  have hwe:=Ex.w_eq e
  have hla:i<e.vs.length:=by omega
  have hix:=sU (f:=IV.int .i64) (t:=e.gv) (l:=e.vs) (i:=(i:Int)) (by omega)
  rw[Int.toNat_natCast]at hix
  have hdr:=fP hla
  obtain⟨la,ca,a1,a2⟩:=hs.a
  have hat:=hs.at'
  generalize hx:e.vs.getD i default=x at *
  obtain⟨y8,y27,S',hj,hk,ih⟩:=aPv p ic ib ik ir e hw B C x1 x2 x3 x4 x5 x6 x7 x9 x10 x11 x12 x13 x14 x15 x16 x17 x18 x19 x20 x21 x22 x23 k (i+1) (j_ x) e_ _ (A.filter fun v=>decide (v≠x)) (by omega) (hs.delA a1 a2 x (fun v=>by simp))
  rw[show((i+1:Nat):Int)=(i:Int)+1 by omega]at ih
  refine⟨y8,y27,S',fun A' ha=>hj A' (fun v=>?_),(aJ.set S (by simp) _).trans hk,aI K _ _ t36L0.eq_1 ?_⟩
  ·rw[ha v,hdr]
   simp only[List.mem_cons,not_or,List.mem_filter,decide_eq_true_eq]
   constructor
   ·rintro⟨h1,h2,h3⟩;exact⟨⟨h1,h2⟩,h3⟩
   ·rintro⟨⟨h1,h2⟩,h3⟩;exact⟨h1,h2,h3⟩
  ·simp (disch:=omega) only[go_sem,hix,hat,a1,aH]
   exact congrArg er ih
def aWo (p:Pg)(ic ib ik ir:Nat)(N:Nat):Prop:=∀(e:Ex) (depth:Nat) (S:aA) (B C A:List Int),e.w<=N->depth<=4000->CkS p ic ib ik ir S B C A ->
 ∃S',(lim K).call 36 [.ptr ic 89 0,.iv (.agg (cD e)),.iv (.int .i64 depth)] S=.ret (.iv (.int .i64 (chk p e depth B C A).1),S')∧aJ [ib,ik,ir] S S'∧((chk p e depth B C A).1=0->CkS p ic ib ik ir S' (chk p e depth B C A).2.1 (chk p e depth B C A).2.2 A)
theorem aPw {N:Nat}(p:Pg)(ic ib ik ir:Nat)(ih:aWo p ic ib ik ir N)(e:Ex)(hw:e.w<=N+1)(hN:N+1<=1048576)(depth:Nat)(hd:depth<4000)(A:List Int)(x1 x3 x4 x5 x8 x9 x10 x11 x12 x13 x14 x15 x16 x17 x18 x24 x25 x26 x27:TV):∀(k i:Nat) (x6 x7 x22 x23:TV) (S:aA) (B C:List Int),i+k=e.ks.length->CkS p ic ib ik ir S B C A ->
  ∃j r y6 y7 y21 y22 y23 S',(j=.ret∧r=.iv (.int .i64 (jK p (e.ks.drop i) (depth+1) B C A).1)∧(jK p (e.ks.drop i) (depth+1) B C A).1≠0∨j=.exit 3∧r=x4∧(jK p (e.ks.drop i) (depth+1) B C A).1=0∧CkS p ic ib ik ir S' (jK p (e.ks.drop i) (depth+1) B C A).2.1 (jK p (e.ks.drop i) (depth+1) B C A).2.2 A)∧aJ [ib,ik,ir] S S' ∧
   lp' (lim K) t36L1 [.ptr ic 89 0,x1,j_ depth,x3,x4,x5,x6,x7,x8,x9,x10,x11,x12,x13,x14,x15,x16,x17,x18,.iv (.sl e.g (bW e.ks)),j_ e.ks.length,j_ (i:Int),x22,x23,x24,x25,x26,x27] S
    = .ret (j,[.ptr ic 89 0,x1,j_ depth,x3,r,x5,y6,y7,x8,x9,x10,x11,x12,x13,x14,x15,x16,x17,x18,.iv (.sl e.g (bW e.ks)),j_ e.ks.length,y21,y22,y23,x24,x25,x26,x27],S')
 | 0,i,x6,x7,x22,x23,S,B,C,h,hs=>by
  obtain rfl:i=e.ks.length:=by omega
  refine⟨.exit 3,x4,?_,?_,?_,?_,?_,S,.inr ⟨rfl,rfl,by rw[List.drop_length,jK],by rw[List.drop_length,jK];exact hs⟩,.refl _ _,aI K _ _ t36L1.eq_1 ?_⟩
  rotate_left 5
  ·simp (disch:=omega) only[go_sem]
   rfl
 | k+1,i,x6,x7,x22,x23,S,B,C,h,hs=>by
  have hla:i<e.ks.length:=by omega
  have hwe:=Ex.w_eq e
  have hwl:=Ex.ws_len e.ks
  have hix:=ixE (g:=e.g) (ks:=e.ks) (i:=(i:Int)) (by omega)
  rw[Int.toNat_natCast]at hix
  have hdr:=fP hla
  have hkw:=Ex.kid_lt (d:=e) (gD hla)
  generalize hx:e.ks.getD i default=x at *
  obtain⟨S1,hc,hk1,hs1⟩:=ih x (depth+1) S B C A (by omega) (by omega) hs
  rw[show((depth+1:Nat):Int)=(depth:Int)+1 by omega]at hc
  rw[aL]at hc
  have hun:jK p (x::e.ks.drop (i+1)) (depth+1) B C A=if(chk p x (depth+1) B C A).1=0 then jK p (e.ks.drop (i+1)) (depth+1) (chk p x (depth+1) B C A).2.1 (chk p x (depth+1) B C A).2.2 A else chk p x (depth+1) B C A:=by
   rw[jK]
  rw[hdr,hun]
  generalize hq:chk p x (depth+1) B C A=q at *
  obtain⟨f,B1,C1⟩:=q
  simp only at hc hs1 ⊢
  by_cases hf:f=0
  ·obtain⟨j,r,y6,y7,y21,y22,y23,S',hj,hk,ih2⟩:=aPw p ic ib ik ir ih e hw hN depth hd A x1 x3 x4 x5 x8 x9 x10 x11 x12 x13 x14 x15 x16 x17 x18 x24 x25 x26 x27 k (i+1) (lbE x) (j_ f) e_ z_ S1 B1 C1 (by omega) (hs1 hf)
   rw[show((i+1:Nat):Int)=(i:Int)+1 by omega]at ih2
   refine⟨j,r,y6,y7,y21,y22,y23,S',?_,hk1.trans hk,aI K _ _ t36L1.eq_1 ?_⟩
   ·rw[if_pos hf];exact hj
   ·simp (disch:=omega) only[go_sem,hix,mP,hc,aH]
    exact congrArg er ih2
  ·refine⟨.ret,j_ f,?_,?_,?_,?_,?_,S1,.inl ⟨rfl,by rw[if_neg hf],by rw[if_neg hf];exact hf⟩,hk1,aI K _ _ t36L1.eq_1 ?_⟩
   rotate_left 5
   ·simp (disch:=omega) only[go_sem,hix,mP,hc,aH]
    rfl
mutual
def bvE:Ex->List Int
 | .mk k n gv vs r g ks=>vs++rO ks
def rO:List Ex->List Int
 | []=>[]
 | e::es=>bvE e++rO es
end
mutual
def ccE:Ex->List Int
 | .mk k n gv vs r g ks=>(if k=1 then [n]else [])++aL6 ks
def aL6:List Ex->List Int
 | []=>[]
 | e::es=>ccE e++aL6 es
end
mutual
def Sc (A:List Int):Ex->Prop
 | .mk k n gv vs r g ks=>(k=2∨k=4->n∈vs++A)∧Scs (vs++A) ks
def Scs (A:List Int):List Ex->Prop
 | []=>True
 | e::es=>Sc A e∧Scs A es
end
mutual
def Fr (p:Pg):Ex->Prop
 | .mk k n gv vs r g ks=>mX p (.mk k n gv vs r g ks)=true∧Frs p ks
def Frs (p:Pg):List Ex->Prop
 | []=>True
 | e::es=>Fr p e∧Frs p es
end
mutual
def dp:Ex->Nat
 | .mk k n gv vs r g ks=>dps ks
def dps:List Ex->Nat
 | []=>0
 | e::es=>max (dp e+1) (dps es)
end
theorem aPx (e:Ex):bvE e=e.vs++rO e.ks:=by cases e;rw[bvE];rfl
theorem bKv (e:Ex):ccE e=(if e.k=1 then [e.n]else [])++aL6 e.ks:=by cases e;rw[ccE];rfl
theorem aPy (A:List Int)(e:Ex):Sc A e↔(e.k=2∨e.k=4->e.n∈e.vs++A)∧Scs (e.vs++A) e.ks:=by cases e;rw[Sc];rfl
theorem rP (p:Pg)(e:Ex):Fr p e↔mX p e=true∧Frs p e.ks:=by cases e;rw[Fr];rfl
theorem aGa {A:List Int}:∀ {l:List Ex},Scs A l↔∀x∈l,Sc A x
 | []=>by simp[Scs]
 | a::r=>by rw[Scs,aGa];simp
theorem oK {p:Pg}:∀ {l:List Ex},Frs p l↔∀x∈l,Fr p x
 | []=>by simp[Frs]
 | a::r=>by rw[Frs,oK];simp
theorem aPz {v:Int}:∀ {l:List Ex},v∈rO l↔∃x∈l,v∈bvE x
 | []=>by simp[rO]
 | a::r=>by rw[rO,List.mem_append,aPz];simp
theorem aP0:∀(N:Nat) (e:Ex),e.w<=N->∀(A A':List Int),Sc A e->(∀v∈A,v∈A')->Sc A' e
 | 0,e,hw,A,A',h,ha=>by have:=Ex.w_eq e;omega
 | N+1,e,hw,A,A',h,ha=>by
  rw[aPy]at h ⊢
  refine⟨fun hk=>?_,?_⟩
  ·have:=h.1 hk
   simp only[List.mem_append]at this ⊢
   rcases this with h1|h1
   ·exact .inl h1
   ·exact .inr (ha _ h1)
  ·rw[aGa]at h ⊢
   intro x hx
   refine aP0 N x (by have:=Ex.kid_lt hx;omega) _ _ (h.2 x hx) fun v hv=>?_
   simp only[List.mem_append]at hv ⊢
   rcases hv with h1|h1
   ·exact .inl h1
   ·exact .inr (ha _ h1)
structure Fit (bs cs B C:List Int):Prop where
 nb:bs.Nodup
 db:∀v∈bs,v∉B
 nc:cs.Nodup
 dc:∀n∈cs,n∉C
theorem Fit.join {b1 b2 c1 c2 B C B1 C1:List Int}(h:Fit b1 c1 B C)(g:Fit b2 c2 B1 C1)(hb:∀v,v∈B1↔v∈b1∨v∈B)(hc:∀v,v∈C1↔v∈c1∨v∈C):Fit (b1++b2) (c1++c2) B C:=by
 refine⟨List.nodup_append.2 ⟨h.nb,g.nb,fun a ha b hb' e=>?_⟩,fun v hv=>?_,List.nodup_append.2 ⟨h.nc,g.nc,fun a ha b hb' e=>?_⟩,fun v hv=>?_⟩
 ·subst e;exact g.db a hb' ((hb a).2 (.inl ha))
 ·rcases List.mem_append.1 hv with h1|h1
  ·exact h.db v h1
  ·exact fun hB=>g.db v h1 ((hb v).2 (.inr hB))
 ·subst e;exact g.dc a hb' ((hc a).2 (.inl ha))
 ·rcases List.mem_append.1 hv with h1|h1
  ·exact h.dc v h1
  ·exact fun hC=>g.dc v h1 ((hc v).2 (.inr hC))
theorem aP1 (p:Pg)(e:Ex)(es:List Ex)(depth:Nat)(B C A:List Int):jK p (e::es) depth B C A=if(chk p e depth B C A).1=0 then jK p es depth (chk p e depth B C A).2.1 (chk p e depth B C A).2.2 A else chk p e depth B C A:=by rw[jK]
theorem aL7 (p:Pg):∀(N:Nat) (e:Ex),e.w<=N->∀(depth:Nat) (B C A:List Int),(chk p e depth B C A).1=0 ->
  Fr p e∧Sc A e∧Fit (bvE e) (ccE e) B C∧(∀v,v∈(chk p e depth B C A).2.1↔v∈bvE e∨v∈B)∧(∀n,n∈(chk p e depth B C A).2.2↔n∈ccE e∨n∈C)
 | 0,e,hw,depth,B,C,A,h=>by have:=Ex.w_eq e;omega
 | N+1,e,hw,depth,B,C,A,h=>by
  have key:∀(l:List Ex) (A:List Int) (B C:List Int),(∀x∈l,x.w<=N)->(jK p l (depth+1) B C A).1=0 ->
    Frs p l∧Scs A l∧Fit (rO l) (aL6 l) B C∧(∀v,v∈(jK p l (depth+1) B C A).2.1↔v∈rO l∨v∈B)∧(∀n,n∈(jK p l (depth+1) B C A).2.2↔n∈aL6 l∨n∈C):=by
   intro l A
   induction l with
   | nil=>intro B C _ _;rw[jK,rO,aL6,Frs,Scs];exact⟨trivial,trivial,⟨by simp,by simp,by simp,by simp⟩,by simp,by simp⟩
   | cons a r ih =>
    intro B C hl h
    rw[aP1]at h
    by_cases h0:(chk p a (depth+1) B C A).1=0
    ·rw[if_pos h0]at h
     obtain⟨f1,s1,t1,b1,c1⟩:=aL7 p N a (hl a (by simp)) _ _ _ _ h0
     obtain⟨f2,s2,t2,b2,c2⟩:=ih _ _ (fun x hx=>hl x (by simp[hx])) h
     rw[aP1,if_pos h0,rO,aL6,Frs,Scs]
     refine⟨⟨f1,f2⟩,⟨s1,s2⟩,t1.join t2 b1 c1,fun v=>?_,fun v=>?_⟩
     ·rw[b2 v,b1 v,List.mem_append]
      constructor
      ·rintro(h|h|h)
       ·exact .inl (.inr h)
       ·exact .inl (.inl h)
       ·exact .inr h
      ·rintro((h|h)|h)
       ·exact .inr (.inl h)
       ·exact .inl h
       ·exact .inr (.inr h)
     ·rw[c2 v,c1 v,List.mem_append]
      constructor
      ·rintro(h|h|h)
       ·exact .inl (.inr h)
       ·exact .inl (.inl h)
       ·exact .inr h
      ·rintro((h|h)|h)
       ·exact .inr (.inl h)
       ·exact .inl h
       ·exact .inr (.inr h)
    ·rw[if_neg h0]at h;exact absurd h h0
  rw[aWn]at h ⊢
  split at h
  ·exact absurd h (by decide:¬((5:Int)=0))
  rename_i hd
  rw[if_neg hd]
  split at h
  ·exact absurd h (by decide:¬((4:Int)=0))
  rename_i hf
  rw[if_neg hf]
  split at h
  ·exact absurd h (by decide:¬((14:Int)=0))
  rename_i B1 ha
  split at h
  ·exact absurd h (by decide:¬((14:Int)=0))
  rename_i hc0
  rw[if_neg hc0]
  split at h
  ·exact absurd h (by decide:¬((6:Int)=0))
  rename_i hn
  rw[if_neg hn]
  obtain⟨m1,m2,m3⟩:=aBe ha
  obtain⟨f2,s2,t2,b2,c2⟩:=key e.ks (e.vs++A) B1 _ (fun x hx=>by have:=Ex.kid_lt hx;omega) h
  have hC1:∀v,v∈(if e.k=1 then e.n::C else C)↔v∈(if e.k=1 then [e.n]else [])∨v∈C:=by
   intro v;split<;>simp
  have t1:Fit e.vs (if e.k=1 then [e.n]else []) B C:=by
   refine⟨m3,m2,by split<;>simp,fun v hv hC=>?_⟩
   split at hv
   ·rename_i hk
    simp at hv;subst hv
    exact hc0 ⟨hk,hC⟩
   ·cases hv
  rw[rP,aPy,aPx,bKv]
  refine⟨⟨by simpa using hf,f2⟩,⟨fun hk=>?_,s2⟩,t1.join t2 m1 hC1,fun v=>?_,fun v=>?_⟩
  ·rcases Classical.em (e.n∈e.vs++A)with h1|h1
   ·exact h1
   ·exact absurd ⟨hk,h1⟩ hn
  ·rw[b2 v,m1 v,List.mem_append]
   constructor
   ·rintro(h|h|h)
    ·exact .inl (.inr h)
    ·exact .inl (.inl h)
    ·exact .inr h
   ·rintro((h|h)|h)
    ·exact .inr (.inl h)
    ·exact .inl h
    ·exact .inr (.inr h)
  ·rw[c2 v,hC1 v,List.mem_append]
   constructor
   ·rintro(h|h|h)
    ·exact .inl (.inr h)
    ·exact .inl (.inl h)
    ·exact .inr h
   ·rintro((h|h)|h)
    ·exact .inr (.inl h)
    ·exact .inl h
    ·exact .inr (.inr h)
mutual
def sz:Ex->Nat
 | .mk k n gv vs r g ks=>szs ks+1
def szs:List Ex->Nat
 | []=>0
 | e::es=>sz e+szs es
end
theorem aEl (e:Ex):sz e=szs e.ks+1:=by cases e;rw[sz];rfl
theorem tG:∀(a b:List Ex),szs (a++b)=szs a+szs b
 | [],b=>by rw[List.nil_append,szs,Nat.zero_add]
 | x::a,b=>by rw[List.cons_append,szs,szs,tG a b];omega
theorem vV:∀l:List Ex,l.length<=szs l
 | []=>by simp[szs]
 | x::a=>by have:=vV a;have:=aEl x;rw[szs,List.length_cons];omega
theorem aAt {x:Ex}:∀ {l:List Ex},x∈l->sz x<=szs l
 | a::r,h=>by
  rw[szs]
  rcases List.mem_cons.1 h with rfl|h
  ·omega
  ·have:=aAt h;omega
theorem aWp (l:List Ex)(a b:Nat):szs ((l.drop a).take b)+l.length<=szs l+((l.drop a).take b).length:=by
 have h1:=tG (l.take a) (l.drop a)
 have h2:=tG ((l.drop a).take b) ((l.drop a).drop b)
 rw[List.take_append_drop]at h1 h2
 have h3:=vV (l.take a)
 have h4:=vV ((l.drop a).drop b)
 have h5:l.length=(l.take a).length+(l.drop a).length:=by rw[<-List.length_append,List.take_append_drop]
 have h6:(l.drop a).length=((l.drop a).take b).length+((l.drop a).drop b).length:=by rw[<-List.length_append,List.take_append_drop]
 omega
def wtS:St->Nat
 | .tm _ _=>1
 | .rs e _=>11*sz e
def wts:List St->Nat
 | []=>0
 | s::r=>wtS s+wts r
def coS:St->Int
 | .tm _ _=>0
 | .rs e _=>10*sz e-3
def cos:List St->Int
 | []=>0
 | s::r=>coS s+cos r
theorem pZ:∀(a b:List St),wts (a++b)=wts a+wts b
 | [],b=>by rw[List.nil_append,wts,Nat.zero_add]
 | x::a,b=>by rw[List.cons_append,wts,wts,pZ a b];omega
theorem qC:∀(a b:List St),cos (a++b)=cos a+cos b
 | [],b=>by rw[List.nil_append,cos,Int.zero_add]
 | x::a,b=>by rw[List.cons_append,cos,cos,qC a b];omega
theorem oL (l:List St):wts l.reverse=wts l:=by
 induction l with
 | nil=>rfl
 | cons a r ih=>rw[List.reverse_cons,pZ,ih,wts,wts,wts];omega
theorem oM (l:List St):cos l.reverse=cos l:=by
 induction l with
 | nil=>rfl
 | cons a r ih=>rw[List.reverse_cons,qC,ih,cos,cos,cos];omega
def Gd (p:Pg)(b:Nat):St->Prop
 | .tm _ _=>True
 | .rs e _=>Fr p e∧sz e<=b
theorem Gd.mono {p:Pg}{b c:Nat}{s:St}(h:Gd p b s)(hb:b<=c):Gd p c s:=by
 cases s with
 | tm t to=>trivial
 | rs e to=>exact⟨h.1,by have:=h.2;omega⟩
def pot (σ:Mk):Int:=σ.nv+σ.fs.length
theorem iA (σ:Mk):pot σ.var=pot σ+1:=by show σ.nv+1+(σ.fs.length:Int)=σ.nv+σ.fs.length+1;omega
theorem pG (σ:Mk)(f:List IV):pot (σ.push f)=pot σ+1:=by unfold pot Mk.push;simp;omega
def bHy (e:Ex):Prop:=(e.k=10∧64<e.ks.length)∨e.k=8∨e.k=6∨e.k=11
structure VT (p:Pg) (e:Ex) (σ:Mk) (x:List St×List IV×Mk):Prop where
 g:∀s∈x.1,Gd p (sz e) s
 c:pot x.2.2+cos x.1+2<=pot σ+10*sz e
 w:wts x.1<=11*sz e
 n:¬bHy e->(∀s∈x.1,Gd p (sz e-1) s)∧wts x.1+10<=11*sz e∧pot x.2.2+cos x.1+5<=pot σ+10*sz e
def aWq (p:Pg)(e:Ex):Prop:=∀n σ,11*sz e<=n+4->∃x,dQ n e σ=some x∧VT p e σ x
def bC4 (p:Pg)(e:Ex):Prop:=∀n k σ,11*sz e<=n+1->∃x,dR n e k σ=some x∧pot x.2+5<=pot σ+10*sz e
theorem jD {p:Pg}{b:Nat}(hC:∀e,sz e<=b->Fr p e->bC4 p e):∀(l:List St) (n:Nat) (t:List IV) (σ:Mk),(∀s∈l,Gd p b s)->wts l+1<=n->∃x,bN n l t σ=some x∧pot x.2<=pot σ+cos l
 | [],n+1,t,σ,_,_=>⟨_,by rw[bN],by show pot σ<=pot σ+cos [];rw[cos];omega⟩
 | [],0,t,σ,_,h=>by omega
 | .tm c to::l,0,t,σ,_,h=>by omega
 | .tm c to::l,n+1,t,σ,hg,h=>by
  rw[wts]at h
  obtain⟨x,hx,hp⟩:=jD hC l n (c.set 6 (.sl .full [t])) σ (fun s hs=>hg s (List.mem_cons_of_mem _ hs)) (by simp only[wtS]at h;omega)
  exact⟨x,by rw[bN];exact hx,by rw[cos,coS];omega⟩
 | .rs e to::l,0,t,σ,_,h=>by omega
 | .rs e to::l,n+1,t,σ,hg,h=>by
  rw[wts]at h
  have he:=hg _ (List.mem_cons_self)
  have hse:=aEl e
  simp only[wtS]at h
  obtain⟨y,hy,hyp⟩:=hC e he.2 he.1 n (aV σ.nv) (σ.push (fnF .full [to] false true t)).var (by omega)
  obtain⟨x,hx,hp⟩:=jD hC l n (bX σ.nv σ.fs.length (.sl .full [y.1])) y.2 (fun s hs=>hg s (List.mem_cons_of_mem _ hs)) (by omega)
  refine⟨x,by rw[bN,hy];exact hx,?_⟩
  rw[iA,pG]at hyp
  rw[cos,coS];omega
theorem jL {p:Pg}{b:Nat}:∀(l:List Ex) (n:Nat) (σ:Mk),(∀e∈l,aWq p e∧sz e<=b)->11*szs l+1<=n->∃x,bP n l σ=some x∧(∀s∈x.1,Gd p b s)∧pot x.2.2+cos x.1+2*l.length<=pot σ+10*szs l∧wts x.1<=11*szs l∧x.2.1.length=l.length
 | [],n+1,σ,_,_=>⟨_,by rw[bP],by simp,by simp[cos,szs],by simp[wts],rfl⟩
 | [],0,σ,_,h=>by omega
 | e::l,0,σ,_,h=>by omega
 | e::l,n+1,σ,hv,h=>by
  rw[szs]at h
  have hse:=aEl e
  obtain⟨x,hx,hX⟩:=(hv e (by simp)).1 n σ (by omega)
  obtain⟨y,hy,g,c,w,hl⟩:=jL l n x.2.2 (fun e he=>hv e (List.mem_cons_of_mem _ he)) (by omega)
  have h1:=hX.c
  have h2:=hX.w
  refine⟨_,by rw[bP,hx,Option.bind_some,hy,Option.bind_some],fun s hs=>?_,?_,?_,by simp[hl]⟩
  ·rcases List.mem_append.1 hs with hs|hs
   ·exact(hX.g s hs).mono (hv e (by simp)).2
   ·exact g s hs
  ·show pot y.2.2+cos (x.1++y.1)+2*((l.length+1:Nat):Int)<=_
   rw[qC,szs];omega
  ·show wts (x.1++y.1)<=_
   rw[pZ,szs];omega
structure FN (e:Ex):Prop where
 k7:e.k=7->e.ks.length=1
 k8:e.k=8->1<=e.ks.length
 k10:e.k=10->1<=e.ks.length
 k6:e.k=6->e.ks.length=3
 k11:e.k=11->(e.n=0∧e.ks.length=1)∨(e.n=1∧e.ks.length=2)∨(e.n=2∧e.ks.length=2)
theorem frN {p:Pg}{e:Ex}(h:Fr p e):FN e:=by
 have h1:=((rP p e).1 h).1
 unfold mX at h1
 simp only[Bool.and_eq_true,Bool.not_eq_true']at h1
 have h2:=h1.1
 unfold aF9 at h2
 simp only[Bool.or_eq_false_iff,Bool.and_eq_false_iff,decide_eq_false_iff_not,Bool.not_eq_false']at h2
 obtain⟨⟨⟨⟨⟨a1,a2⟩,a3⟩,a4⟩,a5⟩,a6⟩:=h2
 unfold ofF at *
 refine⟨fun hk=>?_,fun hk=>?_,fun hk=>?_,fun hk=>?_,fun hk=>?_⟩
 ·simp[hk]at a2 a3;omega
 ·simp[hk]at a2;omega
 ·simp[hk]at a2;omega
 ·simp[hk]at a2 a3;omega
 ·simp only[hk]at a1 a2 a3
  by_cases h0:e.n<0∨2<e.n
  ·simp[h0]at a1
  ·simp[h0]at a2 a3
   split at a2<;>rename_i h3<;>simp[h3]at a3<;>omega
theorem aEm {p:Pg}{b:Nat}(hC:∀e,sz e<=b->Fr p e->bC4 p e){l:List Ex}(hV:∀e∈l,aWq p e∧sz e<=b):∀(i n:Nat) (t:List IV) (σ:Mk),64*i<l.length->1<=n->(i=0∨11*szs l+708<=n+11*l.length)->∃x,cK (n+i) i l t σ=some x∧pot x.2<=pot σ+10*szs (l.take (64*i))
 | 0,n,t,σ,hi,h1,hn=>by
  cases n with
  | zero=>omega
  | succ n=>exact⟨(t,σ),by rw[Nat.add_zero,cK],by show pot σ<=pot σ+_;omega⟩
 | i+1,n,t,σ,hi,h1,hn=>by
  have hn:11*szs l+708<=n+11*l.length:=by omega
  have hp1:=aWp l (64*i) 64
  have hpl:((l.drop (64*i)).take 64).length=64:=by simp;omega
  have hsp:szs (l.take (64*(i+1)))=szs (l.take (64*i))+szs ((l.drop (64*i)).take 64):=by
   rw[<-tG,show 64*(i+1)=64*i+64 by omega,List.take_add]
  have hpz:=vV ((l.drop (64*i)).take 64)
  obtain⟨x,hx,g,c,w,hl⟩:=jL (b:=b) ((l.drop (64*i)).take 64) (n+i) (σ.var.push (fnF .full [σ.nv] true true t)).var (fun e he=>hV e (List.mem_of_mem_drop (List.mem_of_mem_take he))) (by omega)
  obtain⟨y,hy,hyp⟩:=jD hC (St.tm (bX (σ.nv+1) σ.fs.length (.sl .nil [])) (σ.nv+1)::x.1).reverse (n+i) (cU .full [aV (σ.nv+1)]) x.2.2 (fun s hs=>by
   rcases List.mem_cons.1 (List.mem_reverse.1 hs)with rfl|hs
   ·trivial
   ·exact g s hs) (by rw[oL,wts];simp only[wtS];omega)
  obtain⟨z,hz,hzp⟩:=aEm hC hV i n y.1 y.2 (by omega) h1 (.inr hn)
  refine⟨z,?_,?_⟩
  ·rw[<-Nat.add_assoc,cK,hx,Option.bind_some,hy,Option.bind_some]
   exact hz
  ·rw[iA,pG,iA]at c
   rw[oM,cos]at hyp
   simp only[coS]at hyp
   rw[hsp]
   rw[hpl]at c
   omega
theorem tot (p:Pg):∀(N:Nat) (e:Ex),sz e<=N->Fr p e->aWq p e∧bC4 p e
 | 0,e,hN,hf=>by have:=aEl e;omega
 | N+1,e,hN,hf=>by
  have hse:=aEl e
  have hfn:=frN hf
  have hK:∀x∈e.ks,Fr p x:=oK.1 ((rP p e).1 hf).2
  have hC:∀x,sz x<=sz e-1->Fr p x->bC4 p x:=fun x hx hf=>(tot p N x (by omega) hf).2
  have hKv:∀x∈e.ks,aWq p x∧sz x<=sz e-1:=fun x hx=>by
   have:=aAt hx
   exact⟨(tot p N x (by omega) (hK x hx)).1,by omega⟩
  have hv:aWq p e:=by
   intro n σ hn
   cases n with
   | zero=>omega
   | succ n =>
    rw[dQ]
    by_cases h1:e.k=1
    ·rw[if_pos h1]
     exact⟨_,rfl,by simp,by show pot σ+cos []+2<=_;rw[cos];omega,by simp[wts],fun _=>⟨by simp,by show 0+10<=_;omega,by show pot σ+cos []+5<=_;rw[cos];omega⟩⟩
    rw[if_neg h1]
    by_cases h2:e.k=2
    ·rw[if_pos h2]
     exact⟨_,rfl,by simp,by show pot σ+cos []+2<=_;rw[cos];omega,by simp[wts],fun _=>⟨by simp,by show 0+10<=_;omega,by show pot σ+cos []+5<=_;rw[cos];omega⟩⟩
    rw[if_neg h2]
    by_cases h7:e.k=7
    ·rw[if_pos h7]
     have hl:=hfn.k7 h7
     obtain⟨b,hb⟩:∃b,e.ks=[b]:=List.length_eq_one_iff.1 hl
     have hbm:b∈e.ks:=by rw[hb];simp
     have hbz:=aAt hbm
     cases n with
     | zero=>omega
     | succ n =>
      obtain⟨y,hy,hyp⟩:=hC b (by omega) (hK b hbm) n (aV σ.nv) σ.var (by omega)
      rw[eO,hb]
      simp only[hy,Option.bind_some]
      rw[iA]at hyp
      refine⟨_,rfl,fun s hs=>?_,?_,?_,fun _=>⟨fun s hs=>?_,?_⟩⟩
      ·rw[List.mem_singleton]at hs;subst hs;trivial
      ·show pot (Mk.var (Mk.push _ _))+cos [_]+2<=_
       rw[iA,pG,cos,cos];simp only[coS];omega
      ·show wts [_]<=_
       rw[wts,wts];simp only[wtS];omega
      ·rw[List.mem_singleton]at hs;subst hs;trivial
      ·refine⟨?_,?_⟩
       ·show wts [_]+10<=_
        rw[wts,wts];simp only[wtS];omega
       ·show pot (Mk.var (Mk.push _ _))+cos [_]+5<=_
        rw[iA,pG,cos,cos];simp only[coS];omega
    rw[if_neg h7]
    by_cases h10:e.k=10∧e.ks.length<=64
    ·rw[if_pos h10]
     obtain⟨x,hx,g,c,w,hl⟩:=jL (b:=sz e-1) e.ks n σ hKv (by omega)
     have hl1:=hfn.k10 h10.1
     rw[hx,Option.bind_some]
     have hne:x.2.1≠[]:=by intro h0;rw[h0]at hl;simp at hl;omega
     rw[List.getLast?_eq_some_getLast hne,Option.bind_some]
     refine⟨_,rfl,fun s hs=>(g s hs).mono (by omega),?_,?_,fun _=>⟨g,?_⟩⟩
     ·show pot x.2.2+cos x.1+2<=_;omega
     ·show wts x.1<=_;omega
     ·exact⟨by show wts x.1+10<=_;omega,by show pot x.2.2+cos x.1+5<=_;omega⟩
    rw[if_neg h10]
    by_cases hla:e.k=10∨e.k=8∨e.k=6∨e.k=11
    ·rw[if_pos hla]
     have hL:bHy e:=by
      unfold bHy
      rcases hla with h|h|h|h
      ·left;exact⟨h,by omega⟩
      ·right;left;exact h
      ·right;right;left;exact h
      ·right;right;right;exact h
     refine⟨_,rfl,fun s hs=>?_,?_,?_,fun hn=>absurd hL hn⟩
     ·rw[List.mem_singleton]at hs;subst hs;exact⟨hf,Nat.le_refl _⟩
     ·show pot σ.var+cos [_]+2<=_
      rw[iA,cos,cos];simp only[coS];omega
     ·show wts [_]<=_
      rw[wts,wts];simp only[wtS];omega
    rw[if_neg hla]
    obtain⟨x,hx,g,c,w,hl⟩:=jL (b:=sz e-1) e.ks n σ hKv (by omega)
    rw[hx,Option.bind_some]
    refine⟨_,rfl,fun s hs=>?_,?_,?_,fun _=>⟨fun s hs=>?_,?_⟩⟩
    ·rcases List.mem_append.1 hs with hs|hs
     ·exact(g s hs).mono (by omega)
     ·rw[List.mem_singleton]at hs;subst hs;trivial
    ·show pot x.2.2.var+cos (_++[_])+2<=_
     rw[iA,qC,cos,cos];simp only[coS];omega
    ·show wts (_++[_])<=_
     rw[pZ,wts,wts];simp only[wtS];omega
    ·rcases List.mem_append.1 hs with hs|hs
     ·exact g s hs
     ·rw[List.mem_singleton]at hs;subst hs;trivial
    ·refine⟨?_,?_⟩
     ·show wts (_++[_])+10<=_
      rw[pZ,wts,wts];simp only[wtS];omega
     ·show pot x.2.2.var+cos (_++[_])+5<=_
      rw[iA,qC,cos,cos];simp only[coS];omega
  refine⟨hv,fun n k σ hn=>?_⟩
  cases n with
  | zero=>omega
  | succ n =>
   rw[dR]
   by_cases h8:e.k=8
   ·rw[if_pos h8]
    obtain⟨x,hx,g,c,w,hl⟩:=jL (b:=sz e-1) e.ks n σ hKv (by omega)
    have hl1:=hfn.k8 h8
    rw[hx,Option.bind_some]
    split
    ·rename_i h0;rw[h0]at hl;simp at hl;omega
    ·obtain⟨y,hy,hyp⟩:=jD hC x.1.reverse n _ x.2.2 (fun s hs=>g s (List.mem_reverse.1 hs)) (by rw[oL];omega)
     rw[oM]at hyp
     exact⟨y,hy,by omega⟩
   rw[if_neg h8]
   by_cases h6:e.k=6
   ·rw[if_pos h6]
    have hl:=hfn.k6 h6
    match hks:e.ks,hl with
    | [c0,p0,q0],_ =>
     rw[hks]at hKv hK hse
     simp only[szs]at hse
     obtain⟨x,hx,hX⟩:=(hKv c0 (by simp)).1 n σ (by omega)
     obtain⟨y,hy,hyp⟩:=hC p0 (by omega) (hK p0 (by simp)) n k x.2.2 (by omega)
     obtain⟨z,hz,hzp⟩:=hC q0 (by omega) (hK q0 (by simp)) n k y.2 (by omega)
     have h1:=hX.c
     have h2:=hX.w
     obtain⟨u,hu,hup⟩:=jD hC x.1.reverse n (ifT x.2.1 y.1 z.1) z.2 (fun s hs=>(hX.g s (List.mem_reverse.1 hs)).mono (by omega)) (by rw[oL];omega)
     rw[oM]at hup
     simp only[hx,hy,hz,Option.bind_some]
     exact⟨u,hu,by omega⟩
   rw[if_neg h6]
   by_cases h10:e.k=10
   ·rw[if_pos h10]
    have hl1:=hfn.k10 h10
    have hne:e.ks≠[]:=by intro h0;rw[h0]at hl1;simp at hl1
    cases n with
    | zero=>omega
    | succ n =>
     rw[jT,List.getLast?_eq_some_getLast hne]
     generalize hz0:e.ks.getLast hne=z0
     have hzm:z0∈e.ks:=by rw[<-hz0];exact List.getLast_mem hne
     have hzz:=aAt hzm
     generalize hq:(e.ks.length-1) / 64=q
     have hsplit:e.ks=e.ks.take (64*q)++(((e.ks.take (e.ks.length-1)).drop (64*q))++[z0]):=by
      have h1:e.ks=e.ks.take (e.ks.length-1)++[z0]:=by rw[<-hz0,<-List.dropLast_eq_take];exact(List.dropLast_concat_getLast hne).symm
      have h2:e.ks.take (64*q)=(e.ks.take (e.ks.length-1)).take (64*q):=by rw[List.take_take,Nat.min_eq_left (by omega)]
      rw[h2,<-List.append_assoc,List.take_append_drop]
      exact h1
     have hss:=congrArg szs hsplit
     rw[tG,tG]at hss
     simp only[szs]at hss
     obtain⟨x,hx,g,c,w,hl⟩:=jL (b:=sz e-1) ((e.ks.take (e.ks.length-1)).drop (64*q)) n σ (fun y hy=>hKv y (List.mem_of_mem_take (List.mem_of_mem_drop hy))) (by omega)
     obtain⟨y,hy,hyp⟩:=hC z0 (by omega) (hK z0 hzm) n k x.2.2 (by omega)
     obtain⟨u,hu,hup⟩:=jD hC x.1.reverse n y.1 y.2 (fun s hs=>g s (List.mem_reverse.1 hs)) (by rw[oL];omega)
     rw[oM]at hup
     have hql:=vV e.ks
     obtain⟨v,hv,hvp⟩:=aEm hC hKv q (n-q) u.1 u.2 (by omega) (by omega) (by omega)
     rw[show n-q+q=n by omega]at hv
     simp only[hx,hy,hu,Option.bind_some]
     exact⟨v,hv,by omega⟩
   rw[if_neg h10]
   by_cases h11:e.k=11
   ·rw[if_pos h11]
    cases n with
    | zero=>omega
    | succ n =>
     rw[nO]
     obtain⟨x,hx,g,c,w,hl⟩:=jL (b:=sz e-1) e.ks n σ hKv (by omega)
     have h3:=hfn.k11 h11
     rw[hx,Option.bind_some]
     by_cases hn1:e.n=1
     ·rw[if_pos hn1]
      split
      ·obtain⟨y,hy,hyp⟩:=jD hC x.1.reverse n _ x.2.2 (fun s hs=>g s (List.mem_reverse.1 hs)) (by rw[oL];omega)
       rw[oM]at hyp
       exact⟨y,hy,by omega⟩
      ·rename_i h0
       match ha:x.2.1,hl with
       | [],hl=>simp at hl;omega
       | [a],hl=>simp at hl;omega
       | a::b::r,_=>exact absurd ha (h0 a b r)
     rw[if_neg hn1]
     by_cases hn0:e.n=0
     ·rw[if_pos hn0]
      split
      ·obtain⟨y,hy,hyp⟩:=jD hC (x.1++[St.tm (bX (x.2.2.nv+2) x.2.2.fs.length (.sl .nil [])) (x.2.2.nv+2)]).reverse n _ _ (fun s hs=>by
        rcases List.mem_append.1 (List.mem_reverse.1 hs)with hs|hs
        ·exact g s hs
        ·rw[List.mem_singleton]at hs;subst hs;trivial) (by rw[oL,pZ,wts,wts];simp only[wtS];omega)
       refine⟨y,hy,?_⟩
       rw[oM,qC,cos,cos,iA,pG,iA,iA]at hyp
       simp only[coS]at hyp
       omega
      ·rename_i h0
       match ha:x.2.1,hl with
       | [],hl=>simp at hl;omega
       | a::r,_=>exact absurd ha (h0 a r)
     rw[if_neg hn0]
     split
     ·obtain⟨y,hy,hyp⟩:=jD hC (x.1++[St.tm (bX (x.2.2.nv+1) x.2.2.fs.length (.sl .nil [])) (x.2.2.nv+1)]).reverse n _ _ (fun s hs=>by
       rcases List.mem_append.1 (List.mem_reverse.1 hs)with hs|hs
       ·exact g s hs
       ·rw[List.mem_singleton]at hs;subst hs;trivial) (by rw[oL,pZ,wts,wts];simp only[wtS];omega)
      refine⟨y,hy,?_⟩
      rw[oM,qC,cos,cos,iA,pG,iA]at hyp
      simp only[coS]at hyp
      omega
     ·rename_i h0
      match ha:x.2.1,hl with
      | [],hl=>simp at hl;omega
      | [a],hl=>simp at hl;omega
      | a::b::r,_=>exact absurd ha (h0 a b r)
   rw[if_neg h11]
   obtain⟨x,hx,hX⟩:=hv n σ (by omega)
   have hnl:e.k=10∧64<e.ks.length∨e.k=8∨e.k=6∨e.k=11->False:=by omega
   obtain⟨g,w,h1⟩:=hX.n hnl
   rw[hx,Option.bind_some]
   obtain⟨y,hy,hyp⟩:=jD hC x.1.reverse n (cU .full [k,x.2.1]) x.2.2 (fun s hs=>g s (List.mem_reverse.1 hs)) (by rw[oL];omega)
   rw[oM]at hyp
   exact⟨y,hy,by omega⟩
abbrev lbX (e:Ex):TV:=.lb [.iv (.int .i64 e.k),.iv (.int .i64 e.n),.iv (.sl e.gv (TM.one (.int .i64) e.vs)),.iv (.bool e.r),.iv (.sl e.g (bW e.ks))]
abbrev agX (e:Ex):TV:=.iv (.agg [.int .i64 e.k,.int .i64 e.n,.sl e.gv (TM.one (.int .i64) e.vs),.bool e.r,.sl e.g (bW e.ks)])
theorem bMg {g:Tag}{ks:List Ex}{i:Nat}(h:i<ks.length):indexAddrS 5 (.iv (.sl g (bW ks))) (i:Int)=some (.iv (.cp [.int .i64 ks[i].k,.int .i64 ks[i].n,.sl ks[i].gv (TM.one (.int .i64) ks[i].vs),.bool ks[i].r,.sl ks[i].g (bW ks[i].ks)])):=by
 rw[<-aL]
 refine sT (by omega) ?_ (nM _)
 rw[Int.toNat_natCast,eF,List.getElem?_map,List.getElem?_eq_getElem h]
 rfl
attribute [go_sem] beq_self_eq_true bJv bJw ifT ifF eqT eqF neT neF sS TM.dL aH2 List.replicate List.cons_append List.nil_append decide_true decide_false
attribute [go_sem] Nat.reduceAdd Nat.reduceSub Nat.reduceMul Nat.reduceLT Nat.reduceLeDiff Nat.reduceEqDiff Nat.reduceBEq reduceIte reduceCtorEq Int.reduceEq Int.reduceLT Int.reduceLE Int.reduceAdd Int.reduceSub Int.reduceMul Int.reduceToNat Int.reduceNeg Int.reduceBEq Int.reduceBNe Int.reduceTDiv Int.reduceTMod Int.reducePow Nat.reducePow Nat.reduceDiv Nat.reduceMod Int.reduceMod Int.reduceDiv Int.reduceNe Int.reduceFDiv
mutual
def aWr:Ex->List Ex
 | .mk k n gv vs r g ks=>(if k=7 then [.mk k n gv vs r g ks]else [])++aBf ks
def aBf:List Ex->List Ex
 | []=>[]
 | e::es=>aWr e++aBf es
end
mutual
theorem aWs:∀e:Ex,(aWr e).length<=e.w
 | .mk k n gv vs r g ks=>by
  have h1:=aEn ks
  have h2:=Ex.w_eq (.mk k n gv vs r g ks)
  have h3:(Ex.mk k n gv vs r g ks).ks=ks:=rfl
  rw[h3]at h2
  rw[aWr,List.length_append]
  split
  ·rw[List.length_singleton];omega
  ·rw[List.length_nil];omega
theorem aEn:∀l:List Ex,(aBf l).length<=Ex.ws l
 | []=>by simp[aBf]
 | e::es=>by
  have h1:=aWs e
  have h2:=aEn es
  have h3:Ex.ws (e::es)=e.w+Ex.ws es:=by rw[Ex.ws]
  rw[aBf,List.length_append];omega
end
def uW:List (List IV)->List Int
 | [.int _ n]::r=>n::uW r
 | _=>[]
theorem qD:∀l:List Int,uW (TM.one (.int .i64) l)=l
 | []=>rfl
 | a::r=>by
  show a::uW (TM.one (.int .i64) r)=_
  rw[qD r]
def bHz (vr:Int):List IV->List (List Int×Bool)
 | .sl _ ps::.bool r::.bool c::_=>if c then []else if(uW ps).drop 1 |>.any fun v=>decide (vr<=v)then []else [((uW ps).drop 1,r)]
 | _=>[]
section
variable (vr:Int)(κ:List Int×Bool)
def cF (f:List IV):Nat:=(bHz vr f).count κ
def cFs:List (List IV)->Nat
 | []=>0
 | f::r=>cF vr κ f+cFs r
theorem aGb:∀(a b:M_),cFs vr κ (a++b)=cFs vr κ a+cFs vr κ b
 | [],b=>by rw[List.nil_append,cFs,Nat.zero_add]
 | x::a,b=>by rw[List.cons_append,cFs,cFs,aGb a b];omega
theorem rQ (σ:Mk)(f:List IV):cFs vr κ (σ.push f).fs=cFs vr κ σ.fs+cF vr κ f:=by
 show cFs vr κ (σ.fs++[f])=_
 rw[aGb,cFs,cFs];omega
theorem mY (σ:Mk):cFs vr κ σ.var.fs=cFs vr κ σ.fs:=rfl
theorem aGc (tg:Tag)(ps:List Int)(r:Bool)(b:List IV):cF vr κ (fnF tg ps r true b)=0:=rfl
theorem bH0 (tg:Tag)(k:Int)(vs:List Int)(r:Bool)(b:List IV)(h:∀v∈vs,v<vr):cF vr κ (fnF tg (k::vs) r false b)=if(vs,r)=κ then 1 else 0:=by
 unfold cF fnF bHz
 have h1:((uW (TM.one (.int .i64) (k::vs))).drop 1).any (fun v=>decide (vr<=v))=false:=by
  rw[qD,List.drop_succ_cons,List.drop_zero,List.any_eq_false]
  intro v hv;have:=h v hv;simp;omega
 simp only[Bool.false_eq_true,if_false,h1]
 rw[qD,List.drop_succ_cons,List.drop_zero,List.count_singleton]
 by_cases hk:(vs,r)=κ
 ·simp[hk]
 ·simp[hk]
theorem bKw (tg:Tag)(a b:Int)(r:Bool)(t:List IV)(h:vr<=b):cF vr κ (fnF tg [a,b] r false t)=0:=by
 unfold cF fnF bHz
 have h1:((uW (TM.one (.int .i64) [a,b])).drop 1).any (fun v=>decide (vr<=v))=true:=by
  rw[qD];simp;omega
 simp only[Bool.false_eq_true,if_false,h1,if_true]
 rfl
mutual
def cE:Ex->Nat
 | .mk k n gv vs r g ks=>(if k=7∧(vs,r)=κ then 1 else 0)+cEs ks
def cEs:List Ex->Nat
 | []=>0
 | e::es=>cE e+cEs es
end
theorem yT (e:Ex):cE κ e=(if e.k=7∧(e.vs,e.r)=κ then 1 else 0)+cEs κ e.ks:=by cases e;rw[cE];rfl
theorem aAu:∀(a b:List Ex),cEs κ (a++b)=cEs κ a+cEs κ b
 | [],b=>by rw[List.nil_append,cEs,Nat.zero_add]
 | x::a,b=>by rw[List.cons_append,cEs,cEs,aAu a b];omega
def cS:St->Nat
 | .tm _ _=>0
 | .rs e _=>cE κ e
def cSs:List St->Nat
 | []=>0
 | s::r=>cS κ s+cSs r
theorem tH:∀(a b:List St),cSs κ (a++b)=cSs κ a+cSs κ b
 | [],b=>by rw[List.nil_append,cSs,Nat.zero_add]
 | x::a,b=>by rw[List.cons_append,cSs,cSs,tH a b];omega
theorem oN (l:List St):cSs κ l.reverse=cSs κ l:=by
 induction l with
 | nil=>rfl
 | cons a r ih=>rw[List.reverse_cons,tH,ih,cSs,cSs,cSs];omega
end
structure FMn (p:Pg) (e:Ex):Prop where
 k1:e.k=1∨e.k=2->e.ks=[]
 k7:e.k=7->∀v∈e.vs,v<p.vr
theorem frM {p:Pg}{e:Ex}(h:Fr p e):FMn p e:=by
 have h1:=((rP p e).1 h).1
 unfold mX at h1
 simp only[Bool.and_eq_true,Bool.not_eq_true']at h1
 have h2:=h1.1
 unfold aF9 at h2
 simp only[Bool.or_eq_false_iff,Bool.and_eq_false_iff,decide_eq_false_iff_not,Bool.not_eq_false']at h2
 obtain⟨⟨⟨⟨⟨a1,a2⟩,a3⟩,a4⟩,a5⟩,a6⟩:=h2
 unfold ofF at *
 refine⟨fun hk=>?_,fun hk v hv=>?_⟩
 ·rcases hk with hk|hk<;>simp[hk]at a3<;>first|exact a3|exact List.eq_nil_of_length_eq_zero (by omega)
 ·have h3:=h1.2
  unfold aAc at h3
  simp[hk]at h3
  exact(h3 v hv).2
def SF (p:Pg)(l:List St):Prop:=∀s∈l,∀e to,s=.rs e to->Fr p e
structure Ct (p:Pg) (κ:List Int×Bool) (n:Nat):Prop where
 value:∀ {e σ x},dQ n e σ=some x->Fr p e->p.vr<=σ.nv->cFs p.vr κ x.2.2.fs+cSs κ x.1=cFs p.vr κ σ.fs+cE κ e∧SF p x.1
 values:∀ {l σ x},bP n l σ=some x->(∀e∈l,Fr p e)->p.vr<=σ.nv->cFs p.vr κ x.2.2.fs+cSs κ x.1=cFs p.vr κ σ.fs+cEs κ l∧SF p x.1
 lam:∀ {e σ x},eO n e σ=some x->Fr p e->e.k=7->p.vr<=σ.nv->cFs p.vr κ x.2.fs=cFs p.vr κ σ.fs+cE κ e
 laid:∀ {l t σ x},bN n l t σ=some x->SF p l->p.vr<=σ.nv->cFs p.vr κ x.2.fs=cFs p.vr κ σ.fs+cSs κ l
 code:∀ {e k σ x},dR n e k σ=some x->Fr p e->p.vr<=σ.nv->cFs p.vr κ x.2.fs=cFs p.vr κ σ.fs+cE κ e
 ctl:∀ {e k σ x},nO n e k σ=some x->Fr p e->e.k=11->p.vr<=σ.nv->cFs p.vr κ x.2.fs=cFs p.vr κ σ.fs+cE κ e
 sq:∀ {l k σ x},jT n l k σ=some x->(∀e∈l,Fr p e)->p.vr<=σ.nv->cFs p.vr κ x.2.fs=cFs p.vr κ σ.fs+cEs κ l
 parts:∀ {i l t σ x},cK n i l t σ=some x->(∀e∈l,Fr p e)->p.vr<=σ.nv->cFs p.vr κ x.2.fs=cFs p.vr κ σ.fs+cEs κ (l.take (64*i))
theorem SF.app {p:Pg}{a b:List St}(h:SF p a)(g:SF p b):SF p (a++b):=fun s hs=>(List.mem_append.1 hs).elim (h s) (g s)
theorem SF.tm (p:Pg)(t:List IV)(to:Int):SF p [.tm t to]:=fun s hs e to' h=>by rw[List.mem_singleton]at hs;subst hs;cases h
theorem SF.nil (p:Pg):SF p []:=fun s hs=>by cases hs
theorem SF.rev {p:Pg}{l:List St}(h:SF p l):SF p l.reverse:=fun s hs=>h s (List.mem_reverse.1 hs)
theorem aWt (p:Pg)(κ:List Int×Bool):∀n,Ct p κ n
 | 0=>⟨fun h=>by simp[dQ]at h,fun h=>by simp[bP]at h,fun h=>by simp[eO]at h,fun h=>by simp[bN]at h,fun h=>by simp[dR]at h,fun h=>by simp[nO]at h,fun h=>by simp[jT]at h,fun h=>by simp[cK]at h⟩
 | n+1=>by
  have m:=aWt p κ n
  have mo:=mono n
  refine⟨?_,?_,?_,?_,?_,?_,?_,?_⟩
  ·intro e σ x h hf hv
   have hK:∀x∈e.ks,Fr p x:=oK.1 ((rP p e).1 hf).2
   have hM:=frM hf
   rw[yT]
   rw[dQ]at h
   split at h
   ·rename_i hk;cases h;rw[hM.k1 (.inl hk)];simp[cSs,cEs,hk,SF.nil]
   ·split at h
    ·rename_i hk;cases h;rw[hM.k1 (.inr hk)];simp[cSs,cEs,hk,SF.nil]
    ·split at h
     ·rename_i hk
      obtain⟨y,hy,h⟩:=b_ h
      have h1:=m.lam hy hf hk hv
      cases h
      rw[yT]at h1
      exact⟨by show cFs p.vr κ y.2.fs+cSs κ [St.tm _ _]=_;rw[cSs,cSs,cS];omega,SF.tm _ _ _⟩
     ·rename_i h7
      rw[if_neg (fun hh=>h7 hh.1),Nat.zero_add]
      split at h
      ·obtain⟨y,hy,h⟩:=b_ h
       obtain⟨a,ha,h⟩:=b_ h
       cases h;exact m.values hy hK hv
      ·split at h
       ·cases h
        refine⟨?_,fun s hs e' to h=>by rw[List.mem_singleton]at hs;subst hs;cases h;exact hf⟩
        show cFs p.vr κ σ.fs+cSs κ [St.rs e _]=_
        rw[cSs,cSs,cS,yT,if_neg (fun hh=>h7 hh.1)];omega
       ·obtain⟨y,hy,h⟩:=b_ h
        obtain⟨h1,h2⟩:=m.values hy hK hv
        cases h
        refine⟨?_,h2.app (SF.tm _ _ _)⟩
        show cFs p.vr κ y.2.2.fs+cSs κ (y.1++[St.tm _ _])=_
        rw[tH,cSs,cSs,cS];omega
  ·intro l σ x h hf hv
   cases l with
   | nil=>rw[bP]at h;cases h;simp[cSs,cEs,SF.nil]
   | cons e l =>
    rw[bP]at h
    obtain⟨y,hy,h⟩:=b_ h
    obtain⟨z,hz,h⟩:=b_ h
    obtain⟨h1,h2⟩:=m.value hy (hf e (by simp)) hv
    obtain⟨h3,h4⟩:=m.values hz (fun x hx=>hf x (List.mem_cons_of_mem _ hx)) (Int.le_trans hv (mo.value hy).nv)
    cases h
    refine⟨?_,h2.app h4⟩
    show cFs p.vr κ z.2.2.fs+cSs κ (y.1++z.1)=_
    rw[tH,cEs];omega
  ·intro e σ x h hf hk hv
   have hK:∀x∈e.ks,Fr p x:=oK.1 ((rP p e).1 hf).2
   have hl:=(frN hf).k7 hk
   have hM:=frM hf
   rw[eO]at h
   split at h
   ·cases h
   ·rename_i b bs hks
    rw[hks]at hl hK
    have hbs:bs=[]:=by simpa using hl
    subst hbs
    obtain⟨y,hy,h⟩:=b_ h
    have h1:=m.code hy (hK b (by simp)) (by show p.vr<=σ.nv+1;omega)
    cases h
    rw[rQ,bH0 _ _ _ _ _ _ _ (hM.k7 hk),h1,yT κ e,hks,cEs,cEs,mY]
    simp only[hk,true_and]
    omega
  ·intro l t σ x h hs hv
   cases l with
   | nil=>rw[bN]at h;cases h;simp[cSs]
   | cons s l =>
    cases s with
    | tm c to =>
     rw[bN]at h
     have h1:=m.laid h (fun s hs'=>hs s (List.mem_cons_of_mem _ hs')) hv
     rw[cSs,cS];omega
    | rs e to =>
     rw[bN]at h
     obtain⟨y,hy,h⟩:=b_ h
     have h1:=m.code hy (hs _ (List.mem_cons_self) e to rfl) (by show p.vr<=σ.nv+1;omega)
     have hl:σ.nv+1<=y.2.nv:=(mo.code hy).nv
     have h2:=m.laid h (fun s hs'=>hs s (List.mem_cons_of_mem _ hs')) (by omega)
     rw[mY,rQ,aGc]at h1
     rw[cSs,cS];omega
  ·intro e k σ x h hf hv
   have hK:∀x∈e.ks,Fr p x:=oK.1 ((rP p e).1 hf).2
   rw[dR]at h
   split at h
   ·rename_i hk
    obtain⟨y,hy,h⟩:=b_ h
    obtain⟨h1,h2⟩:=m.values hy hK hv
    split at h
    ·cases h
    ·have h3:=m.laid h h2.rev (Int.le_trans hv (mo.values hy).nv)
     rw[oN]at h3
     rw[yT,if_neg (by rw[hk];simp)];omega
   ·split at h
    ·rename_i h8 hk
     split at h
     ·rename_i c0 p0 q0 rr hks
      have hl:=(frN hf).k6 hk
      rw[hks]at hl hK
      have hrr:rr=[]:=by simpa using hl
      subst hrr
      obtain⟨y,hy,h⟩:=b_ h
      obtain⟨z,hz,h⟩:=b_ h
      obtain⟨w,hw,h⟩:=b_ h
      have n1:=(mo.value hy).nv
      have n2:=(mo.code hz).nv
      have n3:=(mo.code hw).nv
      obtain⟨h1,h2⟩:=m.value hy (hK c0 (by simp)) hv
      have h3:=m.code hz (hK p0 (by simp)) (by omega)
      have h4:=m.code hw (hK q0 (by simp)) (by omega)
      have h5:=m.laid h h2.rev (by omega)
      rw[oN]at h5
      rw[yT,if_neg (by rw[hk];simp),hks,cEs,cEs,cEs,cEs];omega
     ·cases h
    ·split at h
     ·rename_i hk
      rw[yT,if_neg (by rw[hk];simp),Nat.zero_add]
      exact m.sq h hK hv
     ·split at h
      ·rename_i hk;exact m.ctl h hf hk hv
      ·obtain⟨y,hy,h⟩:=b_ h
       obtain⟨h1,h2⟩:=m.value hy hf hv
       have h3:=m.laid h h2.rev (Int.le_trans hv (mo.value hy).nv)
       rw[oN]at h3
       omega
  ·intro e k σ x h hf hk hv
   have hK:∀x∈e.ks,Fr p x:=oK.1 ((rP p e).1 hf).2
   rw[nO]at h
   obtain⟨y,hy,h⟩:=b_ h
   obtain⟨h1,h2⟩:=m.values hy hK hv
   have n1:=(mo.values hy).nv
   rw[yT,if_neg (by rw[hk];simp),Nat.zero_add]
   split at h
   ·split at h
    ·have h3:=m.laid h h2.rev (by omega)
     rw[oN]at h3;omega
    ·cases h
   ·split at h
    ·split at h
     ·have h3:=m.laid h (h2.app (SF.tm _ _ _)).rev (by show p.vr<=y.2.2.nv+1+1+1;omega)
      rw[oN,tH,cSs,cSs,cS,mY,rQ,bKw _ _ _ _ _ _ _ (by omega),mY,mY]at h3;omega
     ·cases h
    ·split at h
     ·have h3:=m.laid h (h2.app (SF.tm _ _ _)).rev (by show p.vr<=y.2.2.nv+1+1;omega)
      rw[oN,tH,cSs,cSs,cS,mY,rQ,aGc,mY]at h3;omega
     ·cases h
  ·intro l k σ x h hf hv
   rw[jT]at h
   split at h
   ·cases h
   ·rename_i z0 hz0
    obtain⟨y,hy,h⟩:=b_ h
    obtain⟨z,hz,h⟩:=b_ h
    obtain⟨w,hw,h⟩:=b_ h
    have n1:=(mo.values hy).nv
    have n2:=(mo.code hz).nv
    have n3:=(mo.laid hw).nv
    have hne:l≠[]:=by rintro rfl;simp at hz0
    have hsplit:l=l.take (64*((l.length-1) / 64))++(((l.take (l.length-1)).drop (64*((l.length-1) / 64)))++[z0]):=by
     have h1:l=l.take (l.length-1)++[z0]:=by
      rw[List.getLast?_eq_some_getLast hne]at hz0
      cases hz0
      rw[<-List.dropLast_eq_take];exact(List.dropLast_concat_getLast hne).symm
     have h2:l.take (64*((l.length-1) / 64))=(l.take (l.length-1)).take (64*((l.length-1) / 64)):=by rw[List.take_take,Nat.min_eq_left (by omega)]
     rw[h2,<-List.append_assoc,List.take_append_drop]
     exact h1
    have hss:=congrArg (cEs κ) hsplit
    rw[aAu,aAu,cEs,cEs]at hss
    obtain⟨h1,h2⟩:=m.values hy (fun e he=>hf e (List.mem_of_mem_take (List.mem_of_mem_drop he))) hv
    have h3:=m.code hz (hf z0 (List.mem_of_getLast? hz0)) (by omega)
    have h4:=m.laid hw h2.rev (by omega)
    have h5:=m.parts h hf (by omega)
    rw[oN]at h4
    omega
  ·intro i l t σ x h hf hv
   cases i with
   | zero=>rw[cK]at h;cases h;simp[cEs]
   | succ i =>
    rw[cK]at h
    obtain⟨y,hy,h⟩:=b_ h
    obtain⟨w,hw,h⟩:=b_ h
    have n1:σ.nv+1+1<=y.2.2.nv:=(mo.values hy).nv
    have n2:=(mo.laid hw).nv
    obtain⟨h1,h2⟩:=m.values hy (fun e he=>hf e (List.mem_of_mem_drop (List.mem_of_mem_take he))) (by show p.vr<=σ.nv+1+1;omega)
    have h3:=m.laid hw (show SF p (St.tm _ _::y.1).reverse from((SF.tm _ _ _).app h2).rev) (by omega)
    have h4:=m.parts h hf (by omega)
    rw[mY,rQ,aGc,mY]at h1
    rw[oN,cSs,cS]at h3
    rw[show 64*(i+1)=64*i+64 by omega,List.take_add,aAu]
    omega
def FOK (vr:Int)(f:List IV):Prop:=∃(tg:Tag) (ps:List Int) (r c:Bool) (b:List IV),f=fnF tg ps r c b∧TmO b∧tg≠.nil∧ps.length<=1048577 ∧
 (c=false->(∃k vs,ps=k::vs∧∀v∈vs,v<vr)∨(∃a d,ps=[a,d]∧r=true∧vr<=d∧∃b',b=.int .i64 6::b'))
theorem FOK.cont (vr to:Int)(r:Bool){t:List IV}(h:TmO t):FOK vr (fnF .full [to] r true t):=⟨_,_,_,_,_,rfl,h,by decide,by simp,fun h=>by cases h⟩
def oE (vr:Int)(σ:Mk):Prop:=∀f∈σ.fs.drop 2,FOK vr f
theorem oE.push {vr:Int}{σ:Mk}(h:oE vr σ){f:List IV}(hf:FOK vr f):oE vr (σ.push f):=fun g hg=>by
 have hg':g∈(σ.fs++[f]).drop 2:=hg
 rw[List.drop_append]at hg'
 rcases List.mem_append.1 hg' with hg|hg
 ·exact h g hg
 ·have:=List.mem_of_mem_drop hg
  rw[List.mem_singleton]at this;subst this;exact hf
theorem oE.var {vr:Int}{σ:Mk}(h:oE vr σ):oE vr σ.var:=h
def EO (p:Pg)(e:Ex):Prop:=Fr p e∧XO e
theorem EO.kid {p:Pg}{e x:Ex}(h:EO p e)(hx:x∈e.ks):EO p x:=⟨oK.1 ((rP p e).1 h.1).2 x hx,h.2.kid hx⟩
def SG (p:Pg)(l:List St):Prop:=∀s∈l,∀e to,s=.rs e to->EO p e
theorem SG.app {p:Pg}{a b:List St}(h:SG p a)(g:SG p b):SG p (a++b):=fun s hs=>(List.mem_append.1 hs).elim (h s) (g s)
theorem SG.tm (p:Pg)(t:List IV)(to:Int):SG p [.tm t to]:=fun s hs e to' h=>by rw[List.mem_singleton]at hs;subst hs;cases h
theorem SG.nil (p:Pg):SG p []:=fun s hs=>by cases hs
theorem SG.rev {p:Pg}{l:List St}(h:SG p l):SG p l.reverse:=fun s hs=>h s (List.mem_reverse.1 hs)
theorem aRe (vs:List Int):rH vs≠.nil:=by unfold rH;split<;>decide
structure Fk (p:Pg) (n:Nat):Prop where
 value:∀ {e σ x},dQ n e σ=some x->EO p e->p.vr<=σ.nv->oE p.vr σ->oE p.vr x.2.2∧SG p x.1
 values:∀ {l σ x},bP n l σ=some x->(∀e∈l,EO p e)->p.vr<=σ.nv->oE p.vr σ->oE p.vr x.2.2∧SG p x.1
 lam:∀ {e σ x},eO n e σ=some x->EO p e->e.k=7->p.vr<=σ.nv->oE p.vr σ->oE p.vr x.2
 laid:∀ {l t σ x},bN n l t σ=some x->SG p l->(∀s∈l,SO s)->TmO t->p.vr<=σ.nv->oE p.vr σ->oE p.vr x.2
 code:∀ {e k σ x},dR n e k σ=some x->EO p e->p.vr<=σ.nv->oE p.vr σ->oE p.vr x.2
 ctl:∀ {e k σ x},nO n e k σ=some x->EO p e->p.vr<=σ.nv->oE p.vr σ->oE p.vr x.2
 sq:∀ {l k σ x},jT n l k σ=some x->(∀e∈l,EO p e)->p.vr<=σ.nv->oE p.vr σ->oE p.vr x.2
 parts:∀ {i l t σ x},cK n i l t σ=some x->(∀e∈l,EO p e)->TmO t->p.vr<=σ.nv->oE p.vr σ->oE p.vr x.2
theorem funcs (p:Pg):∀n,Fk p n
 | 0=>⟨fun h=>by simp[dQ]at h,fun h=>by simp[bP]at h,fun h=>by simp[eO]at h,fun h=>by simp[bN]at h,fun h=>by simp[dR]at h,fun h=>by simp[nO]at h,fun h=>by simp[jT]at h,fun h=>by simp[cK]at h⟩
 | n+1=>by
  have m:=funcs p n
  have mo:=mono n
  have sh:=cW n
  refine⟨?_,?_,?_,?_,?_,?_,?_,?_⟩
  ·intro e σ x h hf hv ha
   have hK:∀x∈e.ks,EO p x:=fun x hx=>hf.kid hx
   rw[dQ]at h
   split at h
   ·cases h;exact⟨ha,SG.nil p⟩
   ·split at h
    ·cases h;exact⟨ha,SG.nil p⟩
    ·split at h
     ·rename_i hk
      obtain⟨y,hy,h⟩:=b_ h
      have h1:=m.lam hy hf hk hv ha
      cases h
      exact⟨h1.var,SG.tm _ _ _⟩
     ·split at h
      ·obtain⟨y,hy,h⟩:=b_ h
       obtain⟨a,ha',h⟩:=b_ h
       cases h;exact m.values hy hK hv ha
      ·split at h
       ·cases h
        exact⟨ha.var,fun s hs e' to h=>by rw[List.mem_singleton]at hs;subst hs;cases h;exact hf⟩
       ·obtain⟨y,hy,h⟩:=b_ h
        obtain⟨h1,h2⟩:=m.values hy hK hv ha
        cases h
        exact⟨h1.var,h2.app (SG.tm _ _ _)⟩
  ·intro l σ x h hf hv ha
   cases l with
   | nil=>rw[bP]at h;cases h;exact⟨ha,SG.nil p⟩
   | cons e l =>
    rw[bP]at h
    obtain⟨y,hy,h⟩:=b_ h
    obtain⟨z,hz,h⟩:=b_ h
    obtain⟨h1,h2⟩:=m.value hy (hf e (by simp)) hv ha
    obtain⟨h3,h4⟩:=m.values hz (fun x hx=>hf x (List.mem_cons_of_mem _ hx)) (Int.le_trans hv (mo.value hy).nv) h1
    cases h
    exact⟨h3,h2.app h4⟩
  ·intro e σ x h hf hk hv ha
   have hM:=frM hf.1
   have hw:=Ex.w_eq e
   have hw2:=hf.2.2
   rw[eO]at h
   split at h
   ·cases h
   ·rename_i b bs hks
    have hb:=hf.kid (x:=b) (by rw[hks];simp)
    obtain⟨y,hy,h⟩:=b_ h
    have h1:=m.code hy hb (by show p.vr<=σ.nv+1;omega) ha.var
    have h2:=sh.code hy hb.2
    cases h
    exact h1.push ⟨_,_,_,_,_,rfl,h2,aRe _,by rw[List.length_cons];omega,fun _=>.inl ⟨_,_,rfl,hM.k7 hk⟩⟩
  ·intro l t σ x h hs hso ht hv ha
   cases l with
   | nil=>rw[bN]at h;cases h;exact ha
   | cons s l =>
    cases s with
    | tm c to =>
     rw[bN]at h
     exact m.laid h (fun s hs'=>hs s (List.mem_cons_of_mem _ hs')) (fun s hs'=>hso s (List.mem_cons_of_mem _ hs')) (TmO.kids (show TmO c from hso _ (List.mem_cons_self)) _ _) hv ha
    | rs e to =>
     rw[bN]at h
     obtain⟨y,hy,h⟩:=b_ h
     have h1:=m.code hy (hs _ (List.mem_cons_self) e to rfl) (by show p.vr<=σ.nv+1;omega) (ha.push (FOK.cont _ _ _ ht)).var
     have hl:σ.nv+1<=y.2.nv:=(mo.code hy).nv
     exact m.laid h (fun s hs'=>hs s (List.mem_cons_of_mem _ hs')) (fun s hs'=>hso s (List.mem_cons_of_mem _ hs')) (TmO.fun ..) (by omega) h1
  ·intro e k σ x h hf hv ha
   have hK:∀x∈e.ks,EO p x:=fun x hx=>hf.kid hx
   rw[dR]at h
   split at h
   ·rename_i hk
    obtain⟨y,hy,h⟩:=b_ h
    obtain⟨h1,h2⟩:=m.values hy hK hv ha
    obtain⟨s1,s2,s3,s4⟩:=sh.values hy (fun x hx=>(hK x hx).2)
    split at h
    ·cases h
    ·exact m.laid h h2.rev (fun s hs=>s2 s (List.mem_reverse.1 hs)) (TmO.call ..) (Int.le_trans hv (mo.values hy).nv) h1
   ·split at h
    ·split at h
     ·rename_i h8 hk c0 p0 q0 rr hks
      rw[hks]at hK
      obtain⟨y,hy,h⟩:=b_ h
      obtain⟨z,hz,h⟩:=b_ h
      obtain⟨w,hw,h⟩:=b_ h
      have n1:=(mo.value hy).nv
      have n2:=(mo.code hz).nv
      have n3:=(mo.code hw).nv
      obtain⟨h1,h2⟩:=m.value hy (hK c0 (by simp)) hv ha
      obtain⟨s1,s2,s3⟩:=sh.value hy (hK c0 (by simp)).2
      have h3:=m.code hz (hK p0 (by simp)) (by omega) h1
      have h4:=m.code hw (hK q0 (by simp)) (by omega) h3
      exact m.laid h h2.rev (fun s hs=>s2 s (List.mem_reverse.1 hs)) (TmO.if ..) (by omega) h4
     ·cases h
    ·split at h
     ·exact m.sq h hK hv ha
     ·split at h
      ·exact m.ctl h hf hv ha
      ·obtain⟨y,hy,h⟩:=b_ h
       obtain⟨h1,h2⟩:=m.value hy hf hv ha
       obtain⟨s1,s2,s3⟩:=sh.value hy hf.2
       exact m.laid h h2.rev (fun s hs=>s2 s (List.mem_reverse.1 hs)) (TmO.call ..) (Int.le_trans hv (mo.value hy).nv) h1
  ·intro e k σ x h hf hv ha
   have hK:∀x∈e.ks,EO p x:=fun x hx=>hf.kid hx
   rw[nO]at h
   obtain⟨y,hy,h⟩:=b_ h
   obtain⟨h1,h2⟩:=m.values hy hK hv ha
   obtain⟨s1,s2,s3,s4⟩:=sh.values hy (fun x hx=>(hK x hx).2)
   have n1:=(mo.values hy).nv
   have hso:∀(v f:Int),∀s∈(y.1++[St.tm (bX v f (.sl .nil [])) v]).reverse,SO s:=fun v f s hs=>by
    rcases List.mem_append.1 (List.mem_reverse.1 hs)with hs|hs
    ·exact s2 s hs
    ·rw[List.mem_singleton]at hs;subst hs;exact TmO.fun ..
   split at h
   ·split at h
    ·exact m.laid h h2.rev (fun s hs=>s2 s (List.mem_reverse.1 hs)) (TmO.appl ..) (by omega) h1
    ·cases h
   ·split at h
    ·split at h
     ·exact m.laid h (h2.app (SG.tm _ _ _)).rev (hso _ _) (TmO.call ..) (by show p.vr<=y.2.2.nv+1+1+1;omega) (h1.var.var.push ⟨_,_,_,_,_,rfl,TmO.appl _,by decide,by simp,fun _=>.inr ⟨_,_,rfl,rfl,by omega,_,rfl⟩⟩).var
     ·cases h
    ·split at h
     ·exact m.laid h (h2.app (SG.tm _ _ _)).rev (hso _ _) (TmO.call ..) (by show p.vr<=y.2.2.nv+1+1;omega) (h1.var.push (FOK.cont _ _ _ (TmO.appl _))).var
     ·cases h
  ·intro l k σ x h hf hv ha
   rw[jT]at h
   split at h
   ·cases h
   ·rename_i z0 hz0
    obtain⟨y,hy,h⟩:=b_ h
    obtain⟨z,hz,h⟩:=b_ h
    obtain⟨w,hw,h⟩:=b_ h
    have n1:=(mo.values hy).nv
    have n2:=(mo.code hz).nv
    have n3:=(mo.laid hw).nv
    have hf2:∀e∈(l.take (l.length-1)).drop (64*((l.length-1) / 64)),EO p e:=fun e he=>hf e (List.mem_of_mem_take (List.mem_of_mem_drop he))
    obtain⟨h1,h2⟩:=m.values hy hf2 hv ha
    obtain⟨s1,s2,s3,s4⟩:=sh.values hy (fun x hx=>(hf2 x hx).2)
    have hz1:=hf z0 (List.mem_of_getLast? hz0)
    have h3:=m.code hz hz1 (by omega) h1
    have tz:=sh.code hz hz1.2
    have h4:=m.laid hw h2.rev (fun s hs=>s2 s (List.mem_reverse.1 hs)) tz (by omega) h3
    exact m.parts h hf (sh.laid hw tz (fun s hs=>s2 s (List.mem_reverse.1 hs))) (by omega) h4
  ·intro i l t σ x h hf ht hv ha
   cases i with
   | zero=>rw[cK]at h;cases h;exact ha
   | succ i =>
    rw[cK]at h
    obtain⟨y,hy,h⟩:=b_ h
    obtain⟨w,hw,h⟩:=b_ h
    have n1:σ.nv+1+1<=y.2.2.nv:=(mo.values hy).nv
    have n2:=(mo.laid hw).nv
    have hf2:∀e∈(l.drop (64*i)).take 64,EO p e:=fun e he=>hf e (List.mem_of_mem_drop (List.mem_of_mem_take he))
    obtain⟨h1,h2⟩:=m.values hy hf2 (by show p.vr<=σ.nv+1+1;omega) (ha.var.push (FOK.cont _ _ _ ht)).var
    obtain⟨s1,s2,s3,s4⟩:=sh.values hy (fun x hx=>(hf2 x hx).2)
    have hso:∀s∈(St.tm (bX (σ.nv+1) σ.fs.length (.sl .nil [])) (σ.nv+1)::y.1).reverse,SO s:=fun s hs=>by
     rcases List.mem_cons.1 (List.mem_reverse.1 hs)with rfl|hs
     ·exact TmO.fun ..
     ·exact s2 s hs
    have h3:=m.laid hw (show SG p (St.tm _ _::y.1).reverse from((SG.tm _ _ _).app h2).rev) hso (TmO.call ..) (by omega) h1
    exact m.parts h hf (sh.laid hw (TmO.call ..) hso) (by omega) h3
def bC5 (e:Ex):List Int×Bool:=(e.vs,e.r)
mutual
theorem aL8 (κ:List Int×Bool):∀e:Ex,((aWr e).map bC5).count κ=cE κ e
 | .mk k n gv vs r g ks=>by
  have h:=yU κ ks
  rw[aWr,cE,List.map_append,List.count_append,h]
  by_cases hk:k=7
  ·rw[if_pos hk,List.map_singleton,List.count_singleton]
   have:bC5 (.mk k n gv vs r g ks)=(vs,r):=rfl
   rw[this]
   by_cases he:(vs,r)=κ
   ·simp[hk,he]
   ·simp[hk,he]
  ·rw[if_neg hk,if_neg (fun h=>hk h.1)];rfl
theorem yU (κ:List Int×Bool):∀l:List Ex,((aBf l).map bC5).count κ=cEs κ l
 | []=>rfl
 | e::es=>by
  rw[aBf,cEs,List.map_append,List.count_append,aL8 κ e,yU κ es]
end
structure Gy (J:List Nat) (G:Nat->List Int×Bool) (L:List Ex) (i:Nat) (is R:List Nat):Prop where
 p:(is++R).Perm J
 g:is.map G=(L.take i).map bC5
theorem ao2 (a b c d e:IV):dP (.iv (.cp [a,b,c,d,e])) 2=some (.iv (.cp [c,d,e])):=rfl
theorem ao3 (a b c d e:IV):dP (.iv (.cp [a,b,c,d,e])) 3=some (.iv (.cp [d,e])):=rfl
attribute [go_sem] ao2 ao3
theorem aWu (env:Env)(S:aA)(a b c d e f g h i j k:IV):bL env S (.iv (.cp [a,b,c,d,e,f,g,h,i,j,k])) 11=some [.iv a,.iv b,.iv c,.iv d,.iv e,.iv f,.iv g,.iv h,.iv i,.iv j,.iv k]:=by simp[bL,sub]
attribute [go_sem] aWu
structure FE (f:List IV) (tg:Tag) (ps:List Int) (r c:Bool) (b0 b1 b2 b3 b4:Int) (t5 t6:Tag) (l5 l6:List (List IV)):Prop where
 e:f=[.sl tg (TM.one (.int .i64) ps),.bool r,.bool c,.sl .nil [],.int .i64 b0,.int .i64 b1,.int .i64 b2,.int .i64 b3,.int .i64 b4,.sl t5 l5,.sl t6 l6]
 t:dN tg ps
 l:ps.length<=1048577
theorem ixA {j:Nat}{L:List Ex}{i:Nat}(h:i<L.length):indexAddrS 5 (acc j (bW L)) (i:Int)=some (.iv (.cp [.int .i64 L[i].k,.int .i64 L[i].n,.sl L[i].gv (TM.one (.int .i64) L[i].vs),.bool L[i].r,.sl L[i].g (bW L[i].ks)])):=by
 rw[dE j (by intro e;have h1:=congrArg List.length e;rw[aG,List.length_nil]at h1;omega),<-aL]
 refine kP (by omega) ?_ (nM _)
 rw[Int.toNat_natCast,eF,List.getElem?_map,List.getElem?_eq_getElem h]
 rfl
def rv (f:Bool)(j:Nat)(l:List (List IV)):TV:=if f then .iv (.sl .full l)else acc j l
section
variable (f:Bool)(j:Nat)(l:List (List IV))
end
def Tk (f:Bool)(l:List (List IV))(j q:Nat):Prop:=f=false∧l≠[]∧q=j
structure Rw (S:aA) (f:Bool) (j:Nat) (l:List (List IV)):Prop where
 tok:f=false->l≠[]->S[j]? = some (.tok l.length 1 3)
structure Rg (S S':aA) (f f':Bool) (j j':Nat) (l l':List (List IV)):Prop where
 rw:Rw S' f' j' l'
 len:S.length<=S'.length
 old:∀q B,S[q]? = some B->¬Tk f l j q->S'[q]? = some B
 new:∀q,Tk f' l' j' q->Tk f l j q∨S.length<=q
abbrev vW (l:List Int):List (List IV):=TM.one (.int .i64) l
structure Cd where
 tg:Tag
 F:List (List IV)
 vars:Int
 gl:Int
 gc:Tag
 cs:List (List IV)
def lkB (C:Cd)(fb fm:Bool)(jb jm:Nat)(b m:List Int):aP:=.cells 57 false [.iv (.sl C.tg C.F),.iv (.int .i64 1),.iv (.int .i64 C.vars),.iv (.int .i64 C.gl),.iv (.sl C.gc C.cs),rv fb jb (vW b),rv fm jm (vW m)]
structure LK (S:aA) (C:Cd) (jx:Nat) (fb fm:Bool) (jb jm:Nat) (b m:List Int):Prop where
 own:S[jx]? = some (lkB C fb fm jb jm b m)
 rb:Rw S fb jb (vW b)
 rm:Rw S fm jm (vW m)
 ne:∀q,Tk fb (vW b) jb q->Tk fm (vW m) jm q->False
 ln:b.length<=1000000∧m.length<=1000000
structure KX (S S':aA) (jx:Nat) (fb fm fb' fm':Bool) (jb jm jb' jm':Nat) (b m b' m':List Int):Prop where
 len:S.length<=S'.length
 old:∀q B,S[q]? = some B->q≠jx->¬Tk fb (vW b) jb q->¬Tk fm (vW m) jm q->S'[q]? = some B
 newb:∀q,Tk fb' (vW b') jb' q->Tk fb (vW b) jb q∨S.length<=q
 newm:∀q,Tk fm' (vW m') jm' q->Tk fm (vW m) jm q∨S.length<=q
theorem aWv (p:Pg)(ib ik ir ic:Nat)(e:Ex)(hw:e.w<=1048576)(S:aA)(hc:S[ic]? = some (ckB p ib ik ir))(hcl:p.cs.length<=2000000)(kids:Int)(word:List UInt8)(is:Bool)(hs:ofF e.k e.n=⟨true,kids,false,word,is⟩)(h7:e.k≠7):aL5 p ib ik ir ic e S (mX p e):=by
 have hwe:=Ex.w_eq e
 have hwl:=Ex.ws_len e.ks
 have h74:=aL2 e []
 rw[hs]at h74
 simp only[aWm]at h74
 have hlt:=aO hc
 have h119:=aF8
 have hk1:=aJ.app [] S [aP.cells 86 false [.ptr ic 89 0]]
 have hk2:=hk1.trans (aJ.app [] _ [aP.cells 154 false [.fn 89 [] []]])
 have hc1:(S++[aP.cells 86 false [.ptr ic 89 0]])[ic]? = some (ckB p ib ik ir):=iP hc _
 have hc2:(S++[aP.cells 86 false [.ptr ic 89 0]]++[aP.cells 154 false [.fn 89 [] []]])[ic]? = some (ckB p ib ik ir):=iP hc1 _
 have h120:=aL3 91 (fun v=>!decide (0<=v∧v<p.vr)) (S++[aP.cells 86 false [TV.ptr ic 89 0]]).length 154 S.length 86 e.gv e.vs (by omega) _ (fun x _=>aL4 p ib ik ir ic S.length (S++[aP.cells 86 false [.ptr ic 89 0]]).length x (S++[aP.cells 86 false [.ptr ic 89 0]]++[aP.cells 154 false [.fn 89 [] []]]) hc2 (fS ..) (dG ..))
 have hf:mX p e=(!(!is||decide ((e.ks.length:Int)<kids)||(decide (kids<e.ks.length)&&!false)||(!true&&decide (e.n≠0))||(decide (e.k≠7)&&(decide (0<e.vs.length)||e.r))||(e.r&&decide (e.vs.length=0)))&&aAc p e):=by
  unfold mX aF9;rw[hs]
 rw[hf]
 clear hf hs
 unfold aAc
 rw[aL]at h74
 unfold aL5
 rw[aL]
 generalize e.r=r at h74 ⊢
 cases is
 ·exact⟨_,aB K _ (fn:=t61) rfl rfl (by simp (config := { maxSteps := 4000000 }) (disch:=omega) only[t61,go_sem,h74,aG,q_,bD]<;>simp (disch:=omega) only[go_sem,q_,bD]),hk1⟩
 by_cases b1:(e.ks.length:Int)<kids
 ·exact⟨_,aB K _ (fn:=t61) rfl rfl (by simp (config := { maxSteps := 4000000 }) (disch:=omega) only[t61,go_sem,h74,aG,q_,bD]<;>simp (disch:=omega) only[go_sem,q_,bD]),hk1⟩
 by_cases b2:kids<(e.ks.length:Int)
 ·exact⟨_,aB K _ (fn:=t61) rfl rfl (by simp (config := { maxSteps := 4000000 }) (disch:=omega) only[t61,go_sem,h74,aG,q_,bD]<;>simp (disch:=omega) only[go_sem,q_,bD]),hk1⟩
 by_cases b4:0<e.vs.length
 ·exact⟨_,aB K _ (fn:=t61) rfl rfl (by simp (config := { maxSteps := 4000000 }) (disch:=omega) only[t61,go_sem,h74,aG,q_,bD]<;>simp (disch:=omega) only[go_sem,q_,bD]),hk1⟩
 cases r
 rotate_left
 ·exact⟨_,aB K _ (fn:=t61) rfl rfl (by simp (config := { maxSteps := 4000000 }) (disch:=omega) only[t61,go_sem,h74,aG,q_,bD]<;>simp (disch:=omega) only[go_sem,q_,bD]),hk1⟩
 by_cases k1:e.k=1
 ·exact⟨_,aB K _ (fn:=t61) rfl rfl (by simp (config := { maxSteps := 4000000 }) (disch:=omega) only[t61,go_sem,h74,aG,q_,bD,hc1,hc2,dG,fS,iG,h119,h120,aK]<;>simp (disch:=omega) only[go_sem,q_,bD]),hk2⟩
 by_cases k2:e.k=2
 ·exact⟨_,aB K _ (fn:=t61) rfl rfl (by simp (config := { maxSteps := 4000000 }) (disch:=omega) only[t61,go_sem,h74,aG,q_,bD,hc1,hc2,dG,fS,iG,h119,h120]<;>simp (disch:=omega) only[go_sem,q_,bD]),hk2⟩
 by_cases k4:e.k=4
 ·exact⟨_,aB K _ (fn:=t61) rfl rfl (by simp (config := { maxSteps := 4000000 }) (disch:=omega) only[t61,go_sem,h74,aG,q_,bD,hc1,hc2,dG,fS,iG,h119,h120]<;>simp (disch:=omega) only[go_sem,q_,bD]),hk2⟩
 by_cases k3:e.k=3
 ·exact⟨_,aB K _ (fn:=t61) rfl rfl (by simp (config := { maxSteps := 4000000 }) (disch:=omega) only[t61,go_sem,h74,aG,q_,bD,hc1,hc2,dG,fS,iG,h119,h120]<;>simp (disch:=omega) only[go_sem,q_,bD]),hk2⟩
 by_cases k5:e.k=5
 ·exact⟨_,aB K _ (fn:=t61) rfl rfl (by simp (config := { maxSteps := 4000000 }) (disch:=omega) only[t61,go_sem,h74,aG,q_,bD,hc1,hc2,dG,fS,iG,h119,h120]<;>simp (disch:=omega) only[go_sem,q_,bD]),hk2⟩
 exact⟨_,aB K _ (fn:=t61) rfl rfl (by simp (config := { maxSteps := 4000000 }) (disch:=omega) only[t61,go_sem,h74,aG,q_,bD,hc1,hc2,dG,fS,iG,h119,h120]<;>simp (disch:=omega) only[go_sem,q_,bD]),hk2⟩
theorem bH1 (p:Pg)(ib ik ir ic:Nat)(e:Ex)(hw:e.w<=1048576)(S:aA)(hc:S[ic]? = some (ckB p ib ik ir))(hcl:p.cs.length<=2000000)(kids:Int)(word:List UInt8)(is:Bool)(hs:ofF e.k e.n=⟨false,kids,false,word,is⟩)(hk:e.k≠1∧e.k≠2∧e.k≠3∧e.k≠4∧e.k≠5):aL5 p ib ik ir ic e S (mX p e):=by
 have hwe:=Ex.w_eq e
 have hwl:=Ex.ws_len e.ks
 have h74:=aL2 e []
 rw[hs]at h74
 simp only[aWm]at h74
 have hlt:=aO hc
 have h119:=aF8
 have hk1:=aJ.app [] S [aP.cells 86 false [.ptr ic 89 0]]
 have hk2:=hk1.trans (aJ.app [] _ [aP.cells 154 false [.fn 89 [] []]])
 have hc1:(S++[aP.cells 86 false [.ptr ic 89 0]])[ic]? = some (ckB p ib ik ir):=iP hc _
 have hc2:(S++[aP.cells 86 false [.ptr ic 89 0]]++[aP.cells 154 false [.fn 89 [] []]])[ic]? = some (ckB p ib ik ir):=iP hc1 _
 have h120:=aL3 91 (fun v=>!decide (0<=v∧v<p.vr)) (S++[aP.cells 86 false [TV.ptr ic 89 0]]).length 154 S.length 86 e.gv e.vs (by omega) _ (fun x _=>aL4 p ib ik ir ic S.length (S++[aP.cells 86 false [.ptr ic 89 0]]).length x (S++[aP.cells 86 false [.ptr ic 89 0]]++[aP.cells 154 false [.fn 89 [] []]]) hc2 (fS ..) (dG ..))
 have hf:mX p e=(!(!is||decide ((e.ks.length:Int)<kids)||(decide (kids<e.ks.length)&&!false)||(!false&&decide (e.n≠0))||(decide (e.k≠7)&&(decide (0<e.vs.length)||e.r))||(e.r&&decide (e.vs.length=0)))&&aAc p e):=by
  unfold mX aF9;rw[hs]
 rw[hf]
 clear hf hs
 unfold aAc
 rw[aL]at h74
 unfold aL5
 rw[aL]
 generalize e.r=r at h74 ⊢
 cases is
 ·exact⟨_,aB K _ (fn:=t61) rfl rfl (by simp (config := { maxSteps := 4000000 }) (disch:=omega) only[t61,go_sem,h74,aG,q_,bD]<;>simp (disch:=omega) only[go_sem,q_,bD]),hk1⟩
 by_cases b1:(e.ks.length:Int)<kids
 ·exact⟨_,aB K _ (fn:=t61) rfl rfl (by simp (config := { maxSteps := 4000000 }) (disch:=omega) only[t61,go_sem,h74,aG,q_,bD]<;>simp (disch:=omega) only[go_sem,q_,bD]),hk1⟩
 by_cases b2:kids<(e.ks.length:Int)
 ·exact⟨_,aB K _ (fn:=t61) rfl rfl (by simp (config := { maxSteps := 4000000 }) (disch:=omega) only[t61,go_sem,h74,aG,q_,bD]<;>simp (disch:=omega) only[go_sem,q_,bD]),hk1⟩
 by_cases b3:e.n=0
 rotate_left
 ·exact⟨_,aB K _ (fn:=t61) rfl rfl (by simp (config := { maxSteps := 4000000 }) (disch:=omega) only[t61,go_sem,h74,aG,q_,bD]<;>simp (disch:=omega) only[go_sem,q_,bD]),hk1⟩
 by_cases k7:e.k=7
 ·cases r
  ·exact⟨_,aB K _ (fn:=t61) rfl rfl (by simp (config := { maxSteps := 4000000 }) (disch:=omega) only[t61,go_sem,h74,aG,q_,bD,hc1,hc2,dG,fS,iG,h119,h120]<;>simp (disch:=omega) only[go_sem,q_,bD]),hk2⟩
  ·by_cases b5:e.vs.length=0
   ·exact⟨_,aB K _ (fn:=t61) rfl rfl (by simp (config := { maxSteps := 4000000 }) (disch:=omega) only[t61,go_sem,h74,aG,q_,bD]<;>simp (disch:=omega) only[go_sem,q_,bD]),hk1⟩
   ·exact⟨_,aB K _ (fn:=t61) rfl rfl (by simp (config := { maxSteps := 4000000 }) (disch:=omega) only[t61,go_sem,h74,aG,q_,bD,hc1,hc2,dG,fS,iG,h119,h120]<;>simp (disch:=omega) only[go_sem,q_,bD]),hk2⟩
 by_cases b4:0<e.vs.length
 ·exact⟨_,aB K _ (fn:=t61) rfl rfl (by simp (config := { maxSteps := 4000000 }) (disch:=omega) only[t61,go_sem,h74,aG,q_,bD]<;>simp (disch:=omega) only[go_sem,q_,bD]),hk1⟩
 cases r
 rotate_left
 ·exact⟨_,aB K _ (fn:=t61) rfl rfl (by simp (config := { maxSteps := 4000000 }) (disch:=omega) only[t61,go_sem,h74,aG,q_,bD]<;>simp (disch:=omega) only[go_sem,q_,bD]),hk1⟩
 exact⟨_,aB K _ (fn:=t61) rfl rfl (by simp (config := { maxSteps := 4000000 }) (disch:=omega) only[t61,go_sem,h74,aG,q_,bD,hc1,hc2,dG,fS,iG,h119,h120]<;>simp (disch:=omega) only[go_sem,q_,bD]),hk2⟩
theorem bH2 (p:Pg)(ib ik ir ic:Nat)(e:Ex)(hw:e.w<=1048576)(S:aA)(hc:S[ic]? = some (ckB p ib ik ir))(hcl:p.cs.length<=2000000)(kids:Int)(word:List UInt8)(is:Bool)(hs:ofF e.k e.n=⟨false,kids,true,word,is⟩)(h7:e.k≠7)(hk:e.k≠1∧e.k≠2∧e.k≠3∧e.k≠4∧e.k≠5):aL5 p ib ik ir ic e S (mX p e):=by
 have hwe:=Ex.w_eq e
 have hwl:=Ex.ws_len e.ks
 have h74:=aL2 e []
 rw[hs]at h74
 simp only[aWm]at h74
 have hlt:=aO hc
 have h119:=aF8
 have hk1:=aJ.app [] S [aP.cells 86 false [.ptr ic 89 0]]
 have hk2:=hk1.trans (aJ.app [] _ [aP.cells 154 false [.fn 89 [] []]])
 have hc1:(S++[aP.cells 86 false [.ptr ic 89 0]])[ic]? = some (ckB p ib ik ir):=iP hc _
 have hc2:(S++[aP.cells 86 false [.ptr ic 89 0]]++[aP.cells 154 false [.fn 89 [] []]])[ic]? = some (ckB p ib ik ir):=iP hc1 _
 have h120:=aL3 91 (fun v=>!decide (0<=v∧v<p.vr)) (S++[aP.cells 86 false [TV.ptr ic 89 0]]).length 154 S.length 86 e.gv e.vs (by omega) _ (fun x _=>aL4 p ib ik ir ic S.length (S++[aP.cells 86 false [.ptr ic 89 0]]).length x (S++[aP.cells 86 false [.ptr ic 89 0]]++[aP.cells 154 false [.fn 89 [] []]]) hc2 (fS ..) (dG ..))
 have hf:mX p e=(!(!is||decide ((e.ks.length:Int)<kids)||(decide (kids<e.ks.length)&&!true)||(!false&&decide (e.n≠0))||(decide (e.k≠7)&&(decide (0<e.vs.length)||e.r))||(e.r&&decide (e.vs.length=0)))&&aAc p e):=by
  unfold mX aF9;rw[hs]
 rw[hf]
 clear hf hs
 unfold aAc
 rw[aL]at h74
 unfold aL5
 rw[aL]
 generalize e.r=r at h74 ⊢
 cases is
 ·exact⟨_,aB K _ (fn:=t61) rfl rfl (by simp (config := { maxSteps := 4000000 }) (disch:=omega) only[t61,go_sem,h74,aG,q_,bD]<;>simp (disch:=omega) only[go_sem,q_,bD]),hk1⟩
 by_cases b1:(e.ks.length:Int)<kids
 ·exact⟨_,aB K _ (fn:=t61) rfl rfl (by simp (config := { maxSteps := 4000000 }) (disch:=omega) only[t61,go_sem,h74,aG,q_,bD]<;>simp (disch:=omega) only[go_sem,q_,bD]),hk1⟩
 by_cases b2:kids<(e.ks.length:Int)
 ·by_cases b3:e.n=0
  rotate_left
  ·exact⟨_,aB K _ (fn:=t61) rfl rfl (by simp (config := { maxSteps := 4000000 }) (disch:=omega) only[t61,go_sem,h74,aG,q_,bD]<;>simp (disch:=omega) only[go_sem,q_,bD]),hk1⟩
  by_cases b4:0<e.vs.length
  ·exact⟨_,aB K _ (fn:=t61) rfl rfl (by simp (config := { maxSteps := 4000000 }) (disch:=omega) only[t61,go_sem,h74,aG,q_,bD]<;>simp (disch:=omega) only[go_sem,q_,bD]),hk1⟩
  cases r
  rotate_left
  ·exact⟨_,aB K _ (fn:=t61) rfl rfl (by simp (config := { maxSteps := 4000000 }) (disch:=omega) only[t61,go_sem,h74,aG,q_,bD]<;>simp (disch:=omega) only[go_sem,q_,bD]),hk1⟩
  exact⟨_,aB K _ (fn:=t61) rfl rfl (by simp (config := { maxSteps := 4000000 }) (disch:=omega) only[t61,go_sem,h74,aG,q_,bD,hc1,hc2,dG,fS,iG,h119,h120]<;>simp (disch:=omega) only[go_sem,q_,bD]),hk2⟩
 by_cases b3:e.n=0
 rotate_left
 ·exact⟨_,aB K _ (fn:=t61) rfl rfl (by simp (config := { maxSteps := 4000000 }) (disch:=omega) only[t61,go_sem,h74,aG,q_,bD]<;>simp (disch:=omega) only[go_sem,q_,bD]),hk1⟩
 by_cases b4:0<e.vs.length
 ·exact⟨_,aB K _ (fn:=t61) rfl rfl (by simp (config := { maxSteps := 4000000 }) (disch:=omega) only[t61,go_sem,h74,aG,q_,bD]<;>simp (disch:=omega) only[go_sem,q_,bD]),hk1⟩
 cases r
 rotate_left
 ·exact⟨_,aB K _ (fn:=t61) rfl rfl (by simp (config := { maxSteps := 4000000 }) (disch:=omega) only[t61,go_sem,h74,aG,q_,bD]<;>simp (disch:=omega) only[go_sem,q_,bD]),hk1⟩
 exact⟨_,aB K _ (fn:=t61) rfl rfl (by simp (config := { maxSteps := 4000000 }) (disch:=omega) only[t61,go_sem,h74,aG,q_,bD,hc1,hc2,dG,fS,iG,h119,h120]<;>simp (disch:=omega) only[go_sem,q_,bD]),hk2⟩
theorem bH3 (p:Pg)(ib ik ir ic:Nat)(e:Ex)(hw:e.w<=1048576)(S:aA)(hc:S[ic]? = some (ckB p ib ik ir))(hcl:p.cs.length<=2000000):aL5 p ib ik ir ic e S (mX p e):=by
 have hs:∃num kids more word is,ofF e.k e.n=⟨num,kids,more,word,is⟩:=⟨_,_,_,_,_,rfl⟩
 obtain⟨num,kids,more,word,is,hs⟩:=hs
 by_cases a:e.k=1∨e.k=2∨e.k=3∨e.k=4∨e.k=5∨e.k=9
 ·have h1:num=true∧more=false:=by
   unfold ofF at hs
   rcases a with a|a|a|a|a|a<;>rw[a]at hs<;>simp at hs<;>(first|exact⟨hs.1.symm,hs.2.2.1.symm⟩|exact⟨hs.1,hs.2.2.1⟩|exact⟨hs.1,hs.2.2.1.symm⟩|exact⟨hs.1.symm,hs.2.2.1⟩)
  obtain⟨rfl,rfl⟩:=h1
  exact aWv p ib ik ir ic e hw S hc hcl kids word is hs (by omega)
 by_cases b:e.k=8∨e.k=10
 ·have h1:num=false∧more=true:=by
   unfold ofF at hs
   rcases b with a|a<;>rw[a]at hs<;>simp at hs<;>(first|exact⟨hs.1.symm,hs.2.2.1.symm⟩|exact⟨hs.1,hs.2.2.1⟩|exact⟨hs.1,hs.2.2.1.symm⟩|exact⟨hs.1.symm,hs.2.2.1⟩)
  obtain⟨rfl,rfl⟩:=h1
  exact bH2 p ib ik ir ic e hw S hc hcl kids word is hs (by omega) (by omega)
 by_cases c:e.k=11∧¬(e.n<0∨2<e.n)
 ·have h1:num=true∧more=false:=by
   unfold ofF at hs
   rw[c.1]at hs
   simp only[Int.reduceEq,↓reduceIte,if_neg c.2,Shp.mk.injEq]at hs
   (first|exact⟨hs.1.symm,hs.2.2.1.symm⟩|exact⟨hs.1,hs.2.2.1⟩|exact⟨hs.1,hs.2.2.1.symm⟩|exact⟨hs.1.symm,hs.2.2.1⟩)
  obtain⟨rfl,rfl⟩:=h1
  exact aWv p ib ik ir ic e hw S hc hcl kids word is hs (by omega)
 ·have h1:num=false∧more=false:=by
   unfold ofF at hs
   have e1:e.k≠1:=by omega
   have e2:e.k≠2:=by omega
   have e3:e.k≠3:=by omega
   have e4:e.k≠4:=by omega
   have e5:e.k≠5:=by omega
   have e8:e.k≠8:=by omega
   have e9:e.k≠9:=by omega
   have e10:e.k≠10:=by omega
   simp only[e1,e2,e3,e4,e5,e8,e9,e10,↓reduceIte]at hs
   by_cases e6:e.k=6
   ·simp[e6]at hs;(first|exact⟨hs.1.symm,hs.2.2.1.symm⟩|exact⟨hs.1,hs.2.2.1⟩|exact⟨hs.1,hs.2.2.1.symm⟩|exact⟨hs.1.symm,hs.2.2.1⟩)
   by_cases e7:e.k=7
   ·simp[e7]at hs;(first|exact⟨hs.1.symm,hs.2.2.1.symm⟩|exact⟨hs.1,hs.2.2.1⟩|exact⟨hs.1,hs.2.2.1.symm⟩|exact⟨hs.1.symm,hs.2.2.1⟩)
   by_cases e11:e.k=11
   ·have hn:e.n<0∨2<e.n:=by
     rcases Classical.em (e.n<0∨2<e.n)with h|h
     ·exact h
     ·exact absurd ⟨e11,h⟩ c
    simp[e11,hn]at hs;(first|exact⟨hs.1.symm,hs.2.2.1.symm⟩|exact⟨hs.1,hs.2.2.1⟩|exact⟨hs.1,hs.2.2.1.symm⟩|exact⟨hs.1.symm,hs.2.2.1⟩)
   by_cases e12:e.k=12
   ·simp[e12]at hs;(first|exact⟨hs.1.symm,hs.2.2.1.symm⟩|exact⟨hs.1,hs.2.2.1⟩|exact⟨hs.1,hs.2.2.1.symm⟩|exact⟨hs.1.symm,hs.2.2.1⟩)
   by_cases e13:e.k=13
   ·simp[e13]at hs;(first|exact⟨hs.1.symm,hs.2.2.1.symm⟩|exact⟨hs.1,hs.2.2.1⟩|exact⟨hs.1,hs.2.2.1.symm⟩|exact⟨hs.1.symm,hs.2.2.1⟩)
   by_cases e14:e.k=14
   ·simp[e14]at hs;(first|exact⟨hs.1.symm,hs.2.2.1.symm⟩|exact⟨hs.1,hs.2.2.1⟩|exact⟨hs.1,hs.2.2.1.symm⟩|exact⟨hs.1.symm,hs.2.2.1⟩)
   simp[e6,e7,e11,e12,e13,e14]at hs;(first|exact⟨hs.1.symm,hs.2.2.1.symm⟩|exact⟨hs.1,hs.2.2.1⟩|exact⟨hs.1,hs.2.2.1.symm⟩|exact⟨hs.1.symm,hs.2.2.1⟩)
  obtain⟨rfl,rfl⟩:=h1
  exact bH1 p ib ik ir ic e hw S hc hcl kids word is hs (by omega)
theorem CkS.putC {p:Pg}{ic ib ik ir:Nat}{S:aA}{B C A:List Int}(h:CkS p ic ib ik ir S B C A){lc:List (Nat×Int×Int)}{cc:Nat}(c1:S[ik]? = some (.mp (mpR oC lc) cc))(c2:∀v,xI lc v=if v∈C then 1 else 0)(k:Int):
  CkS p ic ib ik ir (S.set ik (.mp (mpR oC (rF lc cc k 1)) (aEf lc cc k))) B (k::C) A:=by
 refine⟨h.cb,h.ck,h.cr,h.bk,h.br,h.kr,?_,h.b.keep (aU (Ne.symm h.bk) _),iH.put c1 c2 k,h.a.keep (aU h.kr _),h.sub⟩
 rw[aU (Ne.symm h.ck)];exact h.at'
theorem aGd {N:Nat}(p:Pg)(ic ib ik ir:Nat)(ih:aWo p ic ib ik ir N)(e:Ex)(hw:e.w<=N+1)(hN:N+1<=1048576)(depth:Nat)(hd:depth<4000)(A B1 C1:List Int)(hB:∀v∈e.vs,v∉A)(x1 x3 x5 x6 x7 x8 x9 x10 x11 x12 x13 x14 x15 x16 x17 x18 x22 x23 x24 x25 x26 x27:TV)(S:aA)(hs:CkS p ic ib ik ir S B1 C1 (e.vs++A)):
  ∃j r y6 y7 y21 y22 y23 S2,(j=.ret∧r=.iv (.int .i64 (jK p e.ks (depth+1) B1 C1 (e.vs++A)).1)∧(jK p e.ks (depth+1) B1 C1 (e.vs++A)).1≠0∧aJ [ib,ik,ir] S S2 ∨
    j=.exit 3∧r=j_ 0∧(jK p e.ks (depth+1) B1 C1 (e.vs++A)).1=0∧∃(y8 y27:TV) (S3:aA),CkS p ic ib ik ir S3 (jK p e.ks (depth+1) B1 C1 (e.vs++A)).2.1 (jK p e.ks (depth+1) B1 C1 (e.vs++A)).2.2 A∧aJ [ib,ik,ir] S S3 ∧
     lp' (lim K) t36L0 [.ptr ic 89 0,x1,j_ depth,x3,j_ 0,x5,y6,y7,x8,x9,x10,x11,x12,x13,x14,x15,x16,x17,x18,.iv (.sl e.g (bW e.ks)),j_ e.ks.length,y21,y22,y23,.iv (.sl e.gv (TM.one (.int .i64) e.vs)),j_ e.vs.length,j_ 0,x27] S2
      = .ret (.exit 5,[.ptr ic 89 0,x1,j_ depth,x3,j_ 0,x5,y6,y7,y8,x9,x10,x11,x12,x13,x14,x15,x16,x17,x18,.iv (.sl e.g (bW e.ks)),j_ e.ks.length,y21,y22,y23,.iv (.sl e.gv (TM.one (.int .i64) e.vs)),j_ e.vs.length,j_ e.vs.length,y27],S3)) ∧
   lp' (lim K) t36L1 [.ptr ic 89 0,x1,j_ depth,x3,j_ 0,x5,x6,x7,x8,x9,x10,x11,x12,x13,x14,x15,x16,x17,x18,.iv (.sl e.g (bW e.ks)),j_ e.ks.length,j_ 0,x22,x23,x24,x25,x26,x27] S
    = .ret (j,[.ptr ic 89 0,x1,j_ depth,x3,r,x5,y6,y7,x8,x9,x10,x11,x12,x13,x14,x15,x16,x17,x18,.iv (.sl e.g (bW e.ks)),j_ e.ks.length,y21,y22,y23,x24,x25,x26,x27],S2):=by
 have hwe:=Ex.w_eq e
 obtain⟨j,r,y6,y7,y21,y22,y23,S2,hj,hk,l1⟩:=aPw p ic ib ik ir ih e hw hN depth hd (e.vs++A) x1 x3 (j_ 0) x5 x8 x9 x10 x11 x12 x13 x14 x15 x16 x17 x18 x24 x25 x26 x27 e.ks.length 0 x6 x7 x22 x23 S B1 C1 (by omega) hs
 rw[n0_]at l1
 rw[List.drop_zero]at hj
 refine⟨j,r,y6,y7,y21,y22,y23,S2,?_,l1⟩
 rcases hj with⟨h1,h2,h3⟩|⟨h1,h2,h3,h4⟩
 ·exact .inl ⟨h1,h2,h3,hk⟩
 ·obtain⟨y8,y27,S3,h5,hk2,l2⟩:=aPv p ic ib ik ir e (by omega) _ _ x1 (j_ depth) x3 (j_ 0) x5 y6 y7 x9 x10 x11 x12 x13 x14 x15 x16 x17 x18 (.iv (.sl e.g (bW e.ks))) (j_ e.ks.length) y21 y22 y23 e.vs.length 0 x8 x27 S2 _ (by omega) h4
  rw[n0_]at l2
  rw[List.drop_zero]at h5
  refine .inr ⟨h1,h2,h3,y8,y27,S3,h5 A (fun v=>?_),hk.trans hk2,l2⟩
  simp only[List.mem_append]
  constructor
  ·exact fun hv=>⟨.inr hv,fun hm=>hB v hm hv⟩
  ·rintro⟨h|h,h'⟩
   ·exact absurd h h'
   ·exact h
theorem aBg (p:Pg)(hp:p.cs.length<=2000000)(ic ib ik ir:Nat):∀N,N<=1048576->aWo p ic ib ik ir N
 | 0,hN=>fun e depth S B C A hw hd hs=>by have:=Ex.w_eq e;omega
 | N+1,hN=>fun e depth S B C A hw hd hs=>by
  have hwe:=Ex.w_eq e
  rw[aWn]
  by_cases hdp:4000<=depth
  ·rw[if_pos hdp]
   refine⟨S,aB K _ (fn:=t36) rfl rfl ?_,.refl _ _,fun h=>absurd h (by decide:¬((5:Int)=0))⟩
   rw[aL]
   simp (disch:=omega) only[t36,go_sem]
  rw[if_neg hdp]
  obtain⟨S1,h87,hk1⟩:=bH3 p ib ik ir ic e (by omega) S hs.at' hp
  rw[aL]at h87
  have hs1:=hs.keep hk1
  have hkk:aJ [ib,ik,ir] S S1:=hk1.mono (by simp)
  cases hf:mX p e with
  | false =>
   rw[if_pos rfl]
   rw[hf]at h87
   refine⟨S1,aB K _ (fn:=t36) rfl rfl ?_,hkk,fun h=>absurd h (by decide:¬((4:Int)=0))⟩
   rw[aL]
   simp (disch:=omega) only[t36,go_sem,h87]
  | true =>
   rw[if_neg (by decide)]
   rw[hf]at h87
   obtain⟨j,r,y5,y13,y14,y15,S2,hj,hk2,l2⟩:=aPu p ic ib ik ir e (by omega) C (.iv (.agg (cD e))) (j_ depth) (lbE e) (j_ 0) u_ u_ u_ z_ z_ u_ u_ u_ u_ u_ u_ u_ u_ u_ u_ u_ u_ e.vs.length 0 u_ u_ u_ S1 B A (by omega) hs1
   rw[n0_]at l2
   rw[List.drop_zero]at hj
   rcases hj with⟨rfl,rfl,ha⟩|⟨rfl,rfl,B1,ha,hs2⟩
   ·rw[ha]
    refine⟨S2,aB K _ (fn:=t36) rfl rfl ?_,hkk.trans hk2,fun h=>absurd h (by decide:¬((14:Int)=0))⟩
    rw[aL]at l2 ⊢
    simp (disch:=omega) only[t36,go_sem,h87]
    rw[l2]
    simp (disch:=omega) only[go_sem]
   ·rw[ha]
    simp only
    obtain⟨m1,m2,m3⟩:=aBe ha
    have hs2':CkS p ic ib ik ir S2 B1 C (e.vs++A):=hs2.congrA (fun v=>by simp)
    have hB:∀v∈e.vs,v∉A:=fun v hv hA=>m2 v hv (hs.sub v hA)
    obtain⟨lc,cc,c1,c2⟩:=hs2'.c
    obtain⟨la,ca,a1,a2⟩:=hs2'.a
    have hat:=hs2'.at'
    have c2n:=c2 e.n
    have a2n:=a2 e.n
    have n1:=hs.cb
    have n2:=hs.ck
    have n3:=hs.cr
    have n4:=hs.bk
    have n5:=hs.br
    have n6:=hs.kr
    by_cases hk1:e.k=1
    ·by_cases hm:e.n∈C
     ·rw[if_pos ⟨hk1,hm⟩]
      rw[if_pos hm]at c2n
      refine⟨S2,aB K _ (fn:=t36) rfl rfl ?_,hkk.trans hk2,fun h=>absurd h (by decide:¬((14:Int)=0))⟩
      rw[aL]at l2 ⊢
      simp (disch:=omega) only[t36,go_sem,h87]
      rw[l2]
      simp (disch:=omega) only[go_sem,hat,c1,c2n]
     ·rw[if_neg (fun h=>hm h.2),if_neg (by omega),if_pos hk1]
      rw[if_neg hm]at c2n
      have hs3:=hs2'.putC c1 c2 e.n
      obtain⟨j,r,y6,y7,y21,y22,y23,S4,hj,l3⟩:=aGd p ic ib ik ir (aBg p hp ic ib ik ir N (by omega)) e hw hN depth (by omega) A B1 (e.n::C) hB (.iv (.agg (cD e))) (lbE e) y5 u_ u_ u_ z_ z_ (.iv (.sl e.gv (TM.one (.int .i64) e.vs))) (j_ e.vs.length) y13 y14 y15 e_ z_ z_ u_ u_ u_ u_ u_ u_ _ hs3
      rcases hj with⟨rfl,rfl,hne,hk4⟩|⟨rfl,rfl,h0,y8,y27,S5,hs5,hk5,l5⟩
      ·refine⟨S4,aB K _ (fn:=t36) rfl rfl ?_,(hkk.trans hk2).trans ((aJ.set _ (by simp) _).trans hk4),fun h=>absurd h hne⟩
       rw[aL]at l2 l3 ⊢
       simp (disch:=omega) only[t36,go_sem,h87]
       rw[l2]
       simp (disch:=omega) only[go_sem,hat,c1,c2n,aG]
       rw[l3]
       simp (disch:=omega) only[go_sem]
      ·refine⟨S5,aB K _ (fn:=t36) rfl rfl ?_,(hkk.trans hk2).trans ((aJ.set _ (by simp) _).trans hk5),fun _=>hs5⟩
       rw[h0]
       rw[aL]at l2 l3 l5 ⊢
       simp (disch:=omega) only[t36,go_sem,h87]
       rw[l2]
       simp (disch:=omega) only[go_sem,hat,c1,c2n,aG]
       rw[l3]
       simp (disch:=omega) only[go_sem]
       rw[l5]
       simp (disch:=omega) only[go_sem]
    ·rw[if_neg (fun h=>hk1 h.1),if_neg hk1]
     by_cases hk24:e.k=2∨e.k=4
     ·by_cases hm:e.n∈e.vs++A
      ·rw[if_neg (fun h=>h.2 hm)]
       rw[if_pos hm]at a2n
       rcases hk24 with hk24|hk24
       ·obtain⟨j,r,y6,y7,y21,y22,y23,S4,hj,l3⟩:=aGd p ic ib ik ir (aBg p hp ic ib ik ir N (by omega)) e hw hN depth (by omega) A B1 C hB (.iv (.agg (cD e))) (lbE e) y5 u_ u_ u_ z_ z_ (.iv (.sl e.gv (TM.one (.int .i64) e.vs))) (j_ e.vs.length) y13 y14 y15 z_ u_ z_ u_ u_ u_ u_ u_ u_ _ hs2'
        rcases hj with⟨rfl,rfl,hne,hk4⟩|⟨rfl,rfl,h0,y8,y27,S5,hs5,hk5,l5⟩
        ·refine⟨S4,aB K _ (fn:=t36) rfl rfl ?_,(hkk.trans hk2).trans hk4,fun h=>absurd h hne⟩
         rw[aL]at l2 l3 ⊢
         simp (disch:=omega) only[t36,go_sem,h87]
         rw[l2]
         simp (disch:=omega) only[go_sem,hat,aG,a1,a2n]
         rw[l3]
         simp (disch:=omega) only[go_sem]
        ·refine⟨S5,aB K _ (fn:=t36) rfl rfl ?_,(hkk.trans hk2).trans hk5,fun _=>hs5⟩
         rw[h0]
         rw[aL]at l2 l3 l5 ⊢
         simp (disch:=omega) only[t36,go_sem,h87]
         rw[l2]
         simp (disch:=omega) only[go_sem,hat,aG,a1,a2n]
         rw[l3]
         simp (disch:=omega) only[go_sem]
         rw[l5]
         simp (disch:=omega) only[go_sem]
       ·obtain⟨j,r,y6,y7,y21,y22,y23,S4,hj,l3⟩:=aGd p ic ib ik ir (aBg p hp ic ib ik ir N (by omega)) e hw hN depth (by omega) A B1 C hB (.iv (.agg (cD e))) (lbE e) y5 u_ u_ u_ z_ z_ (.iv (.sl e.gv (TM.one (.int .i64) e.vs))) (j_ e.vs.length) y13 y14 y15 z_ u_ z_ u_ u_ u_ u_ u_ u_ _ hs2'
        rcases hj with⟨rfl,rfl,hne,hk4⟩|⟨rfl,rfl,h0,y8,y27,S5,hs5,hk5,l5⟩
        ·refine⟨S4,aB K _ (fn:=t36) rfl rfl ?_,(hkk.trans hk2).trans hk4,fun h=>absurd h hne⟩
         rw[aL]at l2 l3 ⊢
         simp (disch:=omega) only[t36,go_sem,h87]
         rw[l2]
         simp (disch:=omega) only[go_sem,hat,aG,a1,a2n]
         rw[l3]
         simp (disch:=omega) only[go_sem]
        ·refine⟨S5,aB K _ (fn:=t36) rfl rfl ?_,(hkk.trans hk2).trans hk5,fun _=>hs5⟩
         rw[h0]
         rw[aL]at l2 l3 l5 ⊢
         simp (disch:=omega) only[t36,go_sem,h87]
         rw[l2]
         simp (disch:=omega) only[go_sem,hat,aG,a1,a2n]
         rw[l3]
         simp (disch:=omega) only[go_sem]
         rw[l5]
         simp (disch:=omega) only[go_sem]
      ·rw[if_pos ⟨hk24,hm⟩]
       rw[if_neg hm]at a2n
       refine⟨S2,aB K _ (fn:=t36) rfl rfl ?_,hkk.trans hk2,fun h=>absurd h (by decide:¬((6:Int)=0))⟩
       rw[aL]at l2 ⊢
       rcases hk24 with hk24|hk24
       ·simp (disch:=omega) only[t36,go_sem,h87]
        rw[l2]
        simp (disch:=omega) only[go_sem,hat,a1,a2n]
       ·simp (disch:=omega) only[t36,go_sem,h87]
        rw[l2]
        simp (disch:=omega) only[go_sem,hat,a1,a2n]
     ·rw[if_neg (fun h=>hk24 h.1)]
      have hk2':e.k≠2:=fun h=>hk24 (.inl h)
      have hk4':e.k≠4:=fun h=>hk24 (.inr h)
      obtain⟨j,r,y6,y7,y21,y22,y23,S4,hj,l3⟩:=aGd p ic ib ik ir (aBg p hp ic ib ik ir N (by omega)) e hw hN depth (by omega) A B1 C hB (.iv (.agg (cD e))) (lbE e) y5 u_ u_ u_ z_ z_ (.iv (.sl e.gv (TM.one (.int .i64) e.vs))) (j_ e.vs.length) y13 y14 y15 z_ u_ z_ u_ u_ u_ u_ u_ u_ _ hs2'
      rcases hj with⟨rfl,rfl,hne,hk4⟩|⟨rfl,rfl,h0,y8,y27,S5,hs5,hk5,l5⟩
      ·refine⟨S4,aB K _ (fn:=t36) rfl rfl ?_,(hkk.trans hk2).trans hk4,fun h=>absurd h hne⟩
       rw[aL]at l2 l3 ⊢
       simp (disch:=omega) only[t36,go_sem,h87]
       rw[l2]
       simp (disch:=omega) only[go_sem,hat,aG]
       rw[l3]
       simp (disch:=omega) only[go_sem]
      ·refine⟨S5,aB K _ (fn:=t36) rfl rfl ?_,(hkk.trans hk2).trans hk5,fun _=>hs5⟩
       rw[h0]
       rw[aL]at l2 l3 l5 ⊢
       simp (disch:=omega) only[t36,go_sem,h87]
       rw[l2]
       simp (disch:=omega) only[go_sem,hat,aG]
       rw[l3]
       simp (disch:=omega) only[go_sem]
       rw[l5]
       simp (disch:=omega) only[go_sem]
theorem aWw (p:Pg)(hp:p.b.w<=1048576∧Dt.ws p.cs<=1048576)(x0 x1 x4 x5:TV)(S:aA):∀(k i:Nat) (x3 x9 x10:TV),i+k=p.cs.length ->
  ∃j r y3 y8 y9 y10,(j=.ret∧r=j_ 2∧((p.cs.drop i).all fun d=>gC d&&plF d)=false∨j=.exit 0∧r=j_ 0∧((p.cs.drop i).all fun d=>gC d&&plF d)=true) ∧
   lp' (lim K) t11L0 [x0,x1,j_ 0,x3,x4,x5,.iv (.sl p.gc (dW p.cs)),j_ p.cs.length,j_ (i:Int),x9,x10] S=.ret (j,[x0,x1,r,y3,x4,x5,.iv (.sl p.gc (dW p.cs)),j_ p.cs.length,y8,y9,y10],S)
 | 0,i,x3,x9,x10,h=>by
  obtain rfl:i=p.cs.length:=by omega
  refine⟨.exit 0,j_ 0,?_,?_,?_,?_,.inr ⟨rfl,rfl,by rw[List.drop_length];rfl⟩,aI K _ _ t11L0.eq_1 ?_⟩
  rotate_left 4
  ·simp (disch:=omega) only[go_sem]
   rfl
 | k+1,i,x3,x9,x10,h=>by
  have hpw:=hp
  have hla:i<p.cs.length:=by omega
  have hwl:=Dt.ws_len p.cs
  have hix:=ixD (g:=p.gc) (ks:=p.cs) (i:=(i:Int)) (by omega)
  rw[Int.toNat_natCast]at hix
  have hdr:=fP hla
  have hxw:=Dt.ws_mem (gD hla)
  generalize hx:p.cs.getD i default=x at *
  have hm:=aWi 1048576 (by omega) x (by omega)
  have hq:=aWk 1048576 (by omega) x (by omega)
  rw[dO]at hm hq
  cases h1:gC x with
  | false =>
   rw[h1]at hm
   refine⟨.ret,j_ 2,?_,?_,?_,?_,.inl ⟨rfl,rfl,by rw[hdr,List.all_cons,h1,Bool.false_and,Bool.false_and]⟩,aI K _ _ t11L0.eq_1 ?_⟩
   rotate_left 4
   ·simp (disch:=omega) only[go_sem,hix,jV,aF hm]
    rfl
  | true =>
   rw[h1]at hm
   cases h2:plF x with
   | false =>
    rw[h2]at hq
    refine⟨.ret,j_ 2,?_,?_,?_,?_,.inl ⟨rfl,rfl,by rw[hdr,List.all_cons,h1,h2,Bool.true_and,Bool.false_and]⟩,aI K _ _ t11L0.eq_1 ?_⟩
    rotate_left 4
    ·simp (disch:=omega) only[go_sem,hix,jV,aF hm,aF hq]
     rfl
   | true =>
    rw[h2]at hq
    obtain⟨j,r,y3,y8,y9,y10,hj,ih⟩:=aWw p hp x0 x1 x4 x5 S k (i+1) (aWg x) e_ z_ (by omega)
    rw[show((i+1:Nat):Int)=(i:Int)+1 by omega]at ih
    refine⟨j,r,y3,y8,y9,y10,?_,aI K _ _ t11L0.eq_1 ?_⟩
    ·rw[hdr,List.all_cons,h1,h2,Bool.true_and,Bool.true_and];exact hj
    ·simp (disch:=omega) only[go_sem,hix,jV,aF hm,aF hq,aH]
     exact congrArg er ih
def qE (p:Pg):Int:=if p.gl<0∨20000<p.gl∨p.vr<0 then 2 else if(p.cs.all fun d=>gC d&&plF d)=false then 2 else(chk p p.b 0 [] [] []).1
theorem aGe (p:Pg)(hp:p.b.w<=1048576∧Dt.ws p.cs<=1048576):TM.Pure K 11 [.iv (.agg (dY p))] (j_ (qE p)):=by
 have hpw:=hp
 have hwl:=Dt.ws_len p.cs
 unfold qE
 by_cases hg:p.gl<0∨20000<p.gl∨p.vr<0
 ·rw[if_pos hg]
  refine bO (S:=[]) (r:=j_ 2) (aB K _ (fn:=t11) rfl rfl ?_) (by rw[aT])
  unfold dY
  by_cases g1:p.gl<0
  ·simp (disch:=omega) only[t11,go_sem]
  ·by_cases g0:20000<p.gl
   ·simp (disch:=omega) only[t11,go_sem]
   ·simp (disch:=omega) only[t11,go_sem]
 rw[if_neg hg]
 obtain⟨j,r,y3,y8,y9,y10,hj,ih⟩:=aWw p hp (.iv (.agg (dY p))) (lbP p) u_ z_ [] p.cs.length 0 u_ u_ u_ (by omega)
 rw[n0_]at ih
 rw[List.drop_zero]at hj
 rcases hj with⟨rfl,rfl,ha⟩|⟨rfl,rfl,ha⟩
 ·rw[if_pos ha]
  refine bO (S:=[]) (r:=j_ 2) (aB K _ (fn:=t11) rfl rfl ?_) (by rw[aT])
  unfold dY at ih ⊢
  simp (disch:=omega) only[t11,go_sem,aK]
  rw[ih]
  simp (disch:=omega) only[go_sem]
 ·rw[if_neg (by rw[ha];decide)]
  have hs:CkS p 3 0 1 2 [.mp (mpR oC []) 0,.mp (mpR oC []) 0,.mp (mpR oC []) 0,ckB p 0 1 2] [] [] []:=by
   refine⟨by decide,by decide,by decide,by decide,by decide,by decide,rfl,⟨[],0,rfl,?_⟩,⟨[],0,rfl,?_⟩,⟨[],0,rfl,?_⟩,by simp⟩<;>intro v<;>simp[xI,TM.pE]
  obtain⟨S',hc,_,_⟩:=aBg p (by omega) 3 0 1 2 1048576 (by omega) p.b 0 _ [] [] [] (by omega) (by omega) hs
  refine bO (S:=S') (r:=.iv (.int .i64 (chk p p.b 0 [] [] []).1)) (aB K _ (fn:=t11) rfl rfl ?_) (by rw[aT])
  rw[bGc,aL,n0_]at hc
  simp only[ckB,fT,List.cons_append,List.nil_append]at hc
  unfold dY at ih ⊢
  simp (disch:=omega) only[t11,go_sem,aK]
  rw[ih]
  simp (disch:=omega) only[go_sem,hc]
def pH (n:Nat)(seen:List Int)(a:List IV):Prop:=(∃v,a=[.int .i64 1,.int .i64 v]∧v∈seen)∨∃v,a=[.int .i64 2,.int .i64 v]∧0<=v∧v<n
theorem bMh {t:Tag}{l:M_}{i:Nat}{p q:Int}(h:l[i]? = some [.int .i64 p,.int .i64 q]):indexAddrS 2 (.iv (.sl t l)) (i:Int)=some (.iv (.cp [.int .i64 p,.int .i64 q])):=sT (by omega) (by rw[Int.toNat_natCast];exact h) rfl
abbrev lbT (c0 c1 c2 c3 c4:Int) (t5:Tag) (l5:List (List IV)) (t6:Tag) (l6:List (List IV)):TV:=.lb [.iv (.int .i64 c0),.iv (.int .i64 c1),.iv (.int .i64 c2),.iv (.int .i64 c3),.iv (.int .i64 c4),.iv (.sl t5 l5),.iv (.sl t6 l6)]
def bC6 (op:Int):Int:=if op=100∨op=101∨op=104 then 1 else if op=102 then 2 else if op=103 then 0 else mR op
inductive Tr where
 | prim (v op n:Int) (ats:List (List IV)) (k:Tr)
 | fn (v:Int) (f:Nat) (ps:List Int) (r:Bool) (body k:Tr)
 | ite (a:List IV) (p q:Tr)
 | call (ats:List (List IV))
 | appl (ats:List (List IV))
 | halt
def bvs:Tr->List Int
 | .prim v _ _ _ k=>v::bvs k
 | .fn v _ ps _ body k=>v::(ps++bvs body++bvs k)
 | .ite _ p q=>bvs p++bvs q
 | _=>[]
def mks:Tr->List Int
 | .prim _ _ _ _ k=>mks k
 | .fn _ f _ _ body k=>(f:Int)::(mks body++mks k)
 | .ite _ p q=>mks p++mks q
 | _=>[]
def Dec (F:List (List IV)):Tr->List IV->Prop
 | .prim v op n ats k,t=>∃tg tk c,t=[.int .i64 1,.int .i64 v,.int .i64 op,.int .i64 n,.int .i64 0,.sl tg ats,.sl tk [c]]∧Dec F k c
 | .fn v f ps r body k,t=>∃c tp cc bt,t=[.int .i64 2,.int .i64 v,.int .i64 0,.int .i64 0,.int .i64 f,.sl .nil [],.sl .full [c]]∧F[f]? = some (.sl tp (vW ps)::.bool r::.bool cc::.sl .nil []::bt)∧Dec F body bt∧Dec F k c
 | .ite a p q,t=>∃c d,t=[.int .i64 3,.int .i64 0,.int .i64 0,.int .i64 0,.int .i64 0,.sl .full [a],.sl .full [c,d]]∧Dec F p c∧Dec F q d
 | .call ats,t=>∃tg,t=[.int .i64 4,.int .i64 0,.int .i64 0,.int .i64 0,.int .i64 0,.sl tg ats,.sl .nil []]
 | .appl ats,t=>∃tg,t=[.int .i64 6,.int .i64 0,.int .i64 0,.int .i64 0,.int .i64 0,.sl tg ats,.sl .nil []]
 | .halt,t=>t=[.int .i64 7,.int .i64 0,.int .i64 0,.int .i64 0,.int .i64 0,.sl .nil [],.sl .nil []]
def OkT (nc:Nat)(gl:Int):List Int->Tr->Prop
 | seen,.prim v op n ats k=>(∀a∈ats,pH nc seen a)∧(ats.length:Int)=bC6 op∧ats.length<=2000000∧(op=103∨op=104->0<=n∧n<gl)∧OkT nc gl (seen++[v]) k
 | seen,.fn v f ps r body k=>(r=true->ps≠[])∧ps.length<=1048577∧OkT nc gl (seen++ps) body∧OkT nc gl (seen++[v]) k
 | seen,.ite a p q=>pH nc seen a∧OkT nc gl seen p∧OkT nc gl seen q
 | seen,.call ats=>(∀a∈ats,pH nc seen a)∧1<=ats.length∧ats.length<=2000000
 | seen,.appl ats=>(∀a∈ats,pH nc seen a)∧2<=ats.length∧ats.length<=2000000
 | seen,.halt=>True
structure New (C:Cd) (B M:List Int) (b m seen:List Int):Prop where
 bn:B.Nodup
 br:∀v∈B,0<=v∧v<C.vars∧v∉b
 mn:M.Nodup
 mr:∀v∈M,v∉m
 bl:b.length+B.length<=1000000
 ml:m.length+M.length<=1000000
 sl:seen.length+B.length<=1000000
def uA (F:List (List IV)):Tc->List IV->Prop
 | .prim v op n ats k,t=>∃tg tk c,t=[.int .i64 1,.int .i64 v,.int .i64 op,.int .i64 n,.int .i64 0,.sl tg ats,.sl tk [c]]∧uA F k c
 | .fn v f ps r cc body k,t=>∃c tp bt,t=bX v f (.sl .full [c])∧0<=f∧F[f.toNat]? = some (fnF tp ps r cc bt)∧uA F body bt∧uA F k c
 | .ite a p q,t=>∃c d,t=ifT a c d∧uA F p c∧uA F q d
 | .call ats,t=>∃tg,t=cU tg ats
 | .appl ats,t=>∃tg,t=[.int .i64 6,.int .i64 0,.int .i64 0,.int .i64 0,.int .i64 0,.sl tg ats,.sl .nil []]
 | .halt,t=>t=[.int .i64 7,.int .i64 0,.int .i64 0,.int .i64 0,.int .i64 0,.sl .nil [],.sl .nil []]
def erC:Tc->Tr
 | .prim v op n ats k=>.prim v op n ats (erC k)
 | .fn v f ps r _ body k=>.fn v f.toNat ps r (erC body) (erC k)
 | .ite a p q=>.ite a (erC p) (erC q)
 | .call ats=>.call ats
 | .appl ats=>.appl ats
 | .halt=>.halt
theorem aEo {F:M_}:∀(T:Tr) (t:List IV),Dec F T t->∃U,erC U=T∧uA F U t∧cQ U=mks T
 | .prim v op n ats k,t,h=>by
  obtain⟨tg,tk,c,rfl,hk⟩:=h
  obtain⟨U,h1,h2,h3⟩:=aEo k c hk
  exact⟨.prim v op n ats U,by rw[erC,h1],⟨tg,tk,c,rfl,h2⟩,by rw[cQ,mks,h3]⟩
 | .fn v f ps r body k,t,h=>by
  obtain⟨c,tp,cc,bt,rfl,hF,hb,hk⟩:=h
  obtain⟨U,h1,h2,h3⟩:=aEo body bt hb
  obtain⟨V,g1,g2,g3⟩:=aEo k c hk
  refine⟨.fn v f ps r cc U V,by rw[erC,h1,g1,Int.toNat_natCast],⟨c,tp,bt,rfl,by omega,?_,h2,g2⟩,by rw[cQ,mks,h3,g3]⟩
  rw[Int.toNat_natCast]
  exact hF
 | .ite a p q,t,h=>by
  obtain⟨c,d,rfl,hp,hq⟩:=h
  obtain⟨U,h1,h2,h3⟩:=aEo p c hp
  obtain⟨V,g1,g2,g3⟩:=aEo q d hq
  exact⟨.ite a U V,by rw[erC,h1,g1],⟨c,d,rfl,h2,g2⟩,by rw[cQ,mks,h3,g3]⟩
 | .call ats,t,h=>by obtain⟨tg,rfl⟩:=h;exact⟨.call ats,rfl,⟨tg,rfl⟩,rfl⟩
 | .appl ats,t,h=>by obtain⟨tg,rfl⟩:=h;exact⟨.appl ats,rfl,⟨tg,rfl⟩,rfl⟩
 | .halt,t,h=>⟨.halt,rfl,h,rfl⟩
def bH4 (F F':List (List IV)):Prop:=∀(i:Nat) (g:List IV),F[i+2]? = some g->∃g',F'[i+1]? = some g'∧RF g g'
theorem aP2 {tg th:Tag}{ps qs:List Int}{r s c d:Bool}{a b:List IV}(h:fnF tg ps r c a=fnF th qs s d b):ps=qs∧r=s∧c=d∧a=b:=by
 unfold fnF at h
 simp only[List.cons.injEq,IV.sl.injEq,IV.bool.injEq,true_and]at h
 obtain⟨⟨_,h1⟩,h2,h3,h4⟩:=h
 refine⟨?_,h2,h3,h4⟩
 unfold TM.one at h1
 exact(List.map_inj_right (fun x y e=>by simpa using e)).1 h1
theorem xP {F F':M_}(hT:bH4 F F'):∀(U:Tc) (t t':List IV),uA F U t->RT t t'->(∀i∈cQ U,2<=i)->uA F' (shT U) t'
 | .prim v op n ats k,t,t',h,hr,hm=>by
  obtain⟨tg,tk,c,rfl,hk⟩:=h
  rw[cQ]at hm
  generalize he:[IV.int .i64 1,.int .i64 v,.int .i64 op,.int .i64 n,.int .i64 0,.sl tg ats,.sl tk [c]]=T at hr
  cases hr with
  | prim v' op' n' tg' ats' ho hn h =>
   simp only[List.cons.injEq,IV.int.injEq,IV.sl.injEq,true_and,and_true]at he
   obtain⟨rfl,rfl,rfl,⟨rfl,rfl⟩,rfl,rfl⟩:=he
   exact⟨_,_,_,rfl,xP hT k _ _ hk h hm⟩
  | fn=>unfold bX at he;simp at he
  | ite=>unfold ifT at he;simp at he
  | call=>unfold cU at he;simp at he
  | appl=>unfold eD at he;simp at he
 | .fn v f ps r cc body k,t,t',h,hr,hm=>by
  obtain⟨c,tp,bt,rfl,h0,hF,hb,hk⟩:=h
  rw[cQ]at hm
  have hf2:=hm f (by simp)
  generalize he:bX v f (.sl .full [c])=T at hr
  cases hr with
  | prim=>unfold bX at he;simp at he
  | fn v' f' h =>
   unfold bX at he
   simp only[List.cons.injEq,IV.int.injEq,IV.sl.injEq,true_and,and_true]at he
   obtain⟨rfl,rfl,rfl⟩:=he
   obtain⟨i,hi⟩:∃i:Nat,(f'+1).toNat=i+2:=⟨(f'+1).toNat-2,by omega⟩
   rw[hi]at hF
   obtain⟨g',hg,hRF⟩:=hT i _ hF
   generalize hG:fnF tp ps r cc bt=G at hRF
   cases hRF with
   | mk tg th ps' r' c' hbd =>
    obtain⟨rfl,rfl,rfl,rfl⟩:=aP2 hG
    refine⟨_,th,_,by rw[show f'+1-1=f' by omega],by omega,?_,xP hT body _ _ hb hbd (fun i hi=>hm i (by simp[hi])),xP hT k _ _ hk h (fun i hi=>hm i (by simp[hi]))⟩
    rw[show(f'+1-1).toNat=i+1 by omega]
    exact hg
  | ite=>unfold bX ifT at he;simp at he
  | call=>unfold bX cU at he;simp at he
  | appl=>unfold bX eD at he;simp at he
 | .ite a p q,t,t',h,hr,hm=>by
  obtain⟨c,d,rfl,hp,hq⟩:=h
  rw[cQ]at hm
  generalize he:ifT a c d=T at hr
  cases hr with
  | prim=>unfold ifT at he;simp at he
  | fn=>unfold bX ifT at he;simp at he
  | ite a' h g =>
   unfold ifT at he
   simp only[List.cons.injEq,IV.sl.injEq,true_and,and_true]at he
   obtain⟨rfl,rfl,rfl⟩:=he
   exact⟨_,_,rfl,xP hT p _ _ hp h (fun i hi=>hm i (by simp[hi])),xP hT q _ _ hq g (fun i hi=>hm i (by simp[hi]))⟩
  | call=>unfold ifT cU at he;simp at he
  | appl=>unfold ifT eD at he;simp at he
 | .call ats,t,t',h,hr,hm=>by
  obtain⟨tg,rfl⟩:=h
  generalize he:cU tg ats=T at hr
  cases hr with
  | prim=>unfold cU at he;simp at he
  | fn=>unfold bX cU at he;simp at he
  | ite=>unfold ifT cU at he;simp at he
  | call tg' th ats' =>
   unfold cU at he
   simp only[List.cons.injEq,IV.sl.injEq,true_and,and_true]at he
   obtain⟨rfl,rfl⟩:=he
   exact⟨th,rfl⟩
  | appl=>unfold cU eD at he;simp at he
 | .appl ats,t,t',h,hr,hm=>by
  obtain⟨tg,rfl⟩:=h
  generalize he:[IV.int .i64 6,.int .i64 0,.int .i64 0,.int .i64 0,.int .i64 0,.sl tg ats,.sl .nil []]=T at hr
  cases hr with
  | prim=>simp at he
  | fn=>unfold bX at he;simp at he
  | ite=>unfold ifT at he;simp at he
  | call=>unfold cU at he;simp at he
  | appl ats' =>
   unfold eD at he
   simp only[List.cons.injEq,IV.sl.injEq,true_and,and_true]at he
   obtain⟨rfl,rfl⟩:=he
   exact⟨.full,rfl⟩
 | .halt,t,t',h,hr,hm=>by
  rw[show t=_ from h]at hr
  generalize he:[IV.int .i64 7,.int .i64 0,.int .i64 0,.int .i64 0,.int .i64 0,.sl .nil [],.sl .nil []]=T at hr
  cases hr with
  | prim=>simp at he
  | fn=>unfold bX at he;simp at he
  | ite=>unfold ifT at he;simp at he
  | call=>unfold cU at he;simp at he
  | appl=>unfold eD at he;simp at he
theorem gE (n:Int):(dg n).length<=20:=by
 by_cases h:eN n
 ·exact(nQ n h).1
 ·unfold dg;rw[dif_neg h];simp
theorem lN:∀(l:M_) (s:List UInt8) (v:List Int),(atxT s v l).1.length<=s.length+50*l.length∧(atxT s v l).2.length<=v.length+l.length
 | [],s,v=>by rw[atxT];exact⟨by simp,by simp⟩
 | a::r,s,v=>by
  rw[atxT.eq_def]
  split
  ·rename_i h;cases h
  ·rename_i kd n r' h
   injection h with h1 h2
   subst h2
   split
   ·have:=lN r (s++[32]++dg (hH n v)) (eG v n)
    have h3:=gE (hH n v)
    have h4:=lU v n
    simp only[n_]at this ⊢
    omega
   ·have:=lN r (s++[32,99]++dg kd++[46]++dg n) v
    have h3:=gE kd
    have h4:=gE n
    simp only[n_]at this ⊢
    omega
  ·rename_i h
   injection h with h1 h2
   subst h2
   have:=lN r s v
   simp only[List.length_cons]
   omega
theorem aAv:∀(l:List Int) (s:List UInt8) (v:List Int),(ptxT s v l).1.length<=s.length+50*l.length∧(ptxT s v l).2.length<=v.length+l.length
 | [],s,v=>by rw[ptxT];exact⟨by simp,by simp⟩
 | n::r,s,v=>by
  rw[ptxT]
  have:=aAv r (s++[32]++dg (hH n v)) (eG v n)
  have h3:=gE (hH n v)
  have h4:=lU v n
  simp only[n_]at this ⊢
  omega
theorem jY:∀(U:Tc) (v:List Int) (m:Nat),(txtT U v m).1.length<=200*szC U∧(txtT U v m).2.1.length<=v.length+szC U
 | .prim x op n ats k,v,m=>by
  have h1:=lN ats ([40]++dg 1++[32,118]++dg (hH x v)++[32,111]++dg op++[44]++dg n) (eG v x)
  have h2:=jY k (atxT ([40]++dg 1++[32,118]++dg (hH x v)++[32,111]++dg op++[44]++dg n) (eG v x) ats).2 m
  have d1:=gE 1
  have d2:=gE (hH x v)
  have d3:=gE op
  have d4:=gE n
  have h4:=lU v x
  simp only[txtT,szC,n_]at *
  omega
 | .fn x f ps r c body k,v,m=>by
  have h1:=aAv ps ([32,102]++dg m++[91]) (eG v x)
  have h2:=jY body (ptxT ([32,102]++dg m++[91]) (eG v x) ps).2 (m+1)
  have h3:=jY k (txtT body (ptxT ([32,102]++dg m++[91]) (eG v x) ps).2 (m+1)).2.1 (txtT body (ptxT ([32,102]++dg m++[91]) (eG v x) ps).2 (m+1)).2.2
  have d1:=gE 2
  have d2:=gE (hH x v)
  have d3:=gE m
  have h4:=lU v x
  simp only[txtT,szC]
  cases r<;>cases c<;>simp only[Bool.false_eq_true,if_false,if_true,n_]at*<;> omega
 | .ite a p q,v,m=>by
  have h1:=lN [a] ([40]++dg 3) v
  have h2:=jY p (atxT ([40]++dg 3) v [a]).2 m
  have h3:=jY q (txtT p (atxT ([40]++dg 3) v [a]).2 m).2.1 (txtT p (atxT ([40]++dg 3) v [a]).2 m).2.2
  have d1:=gE 3
  simp only[txtT,szC,n_]at *
  omega
 | .call ats,v,m=>by
  have h1:=lN ats ([40]++dg 4) v
  have d1:=gE 4
  simp only[txtT,szC,n_]at *
  omega
 | .appl ats,v,m=>by
  have h1:=lN ats ([40]++dg 6) v
  have d1:=gE 6
  simp only[txtT,szC,n_]at *
  omega
 | .halt,v,m=>by
  have d1:=gE 7
  simp only[txtT,szC,n_]at *
  omega
theorem aBh:∀(U:Tc) (v:List Int) (m:Nat),(txtT U v m).2.2=m+(cQ U).length
 | .prim x op n ats k,v,m=>by simp only[txtT,cQ,aBh k]
 | .fn x f ps r c body k,v,m=>by simp only[txtT,cQ,aBh k,aBh body,List.length_cons,List.length_append];omega
 | .ite a p q,v,m=>by simp only[txtT,cQ,aBh p,aBh q,List.length_append];omega
 | .call ats,v,m=>by simp[txtT,cQ]
 | .appl ats,v,m=>by simp[txtT,cQ]
 | .halt,v,m=>by simp[txtT,cQ]
def AtG (a:List IV):Prop:=∃kd n:Int,a=[.int .i64 kd,.int .i64 n]∧eN kd∧eN n
abbrev lbC (tg:Tag) (F:List (List IV)) (mn vr gl:Int) (gc:Tag) (cs:List (List IV)):TV:=.lb [.iv (.sl tg F),.iv (.int .i64 mn),.iv (.int .i64 vr),.iv (.int .i64 gl),.iv (.sl gc cs)]
theorem tI {n0:Nat}{S0:aA}(h0:S0.length=n0){jx jf:Nat}{f:List Int}(x1 x2 x3 x5 x8 x9 x10 x11 x14:TV)(c0 c1 c2 c3 c4:Int)(t5:Tag)(ats:M_)(t6:Tag)(l6:M_)(ha:∀a∈ats,AtG a)(hl:ats.length<=2000000):∀(k i:Nat) (S:aA) (jv:Nat) (s:List UInt8) (v:List Int) (x12 x13:TV),i+k=ats.length->s.length+50*k<=1000000000000->v.length+k<1000000000->NM n0 S jx jv jf v f->aJ [jx] S0 S ->
  ∃(S':aA) (jv':Nat) (y12 y13:TV),lp' (lim K) t65L1 [.ptr jx 93 0,x1,x2,x3,lbT c0 c1 c2 c3 c4 t5 ats t6 l6,x5,.iv (.str s),j_ (i:Int),x8,x9,x10,x11,x12,x13,x14] S
   = .ret (.exit 0,[.ptr jx 93 0,x1,x2,x3,lbT c0 c1 c2 c3 c4 t5 ats t6 l6,x5,.iv (.str (atxT s v (ats.drop i)).1),j_ ats.length,x8,x9,x10,x11,y12,y13,x14],S')∧NM n0 S' jx jv' jf (atxT s v (ats.drop i)).2 f∧aJ [jx] S0 S'
 | 0,i,S,jv,s,v,x12,x13,h,hs,hv,hN,hk=>by
  obtain rfl:i=ats.length:=by omega
  rw[List.drop_length,atxT]
  refine⟨S,jv,z_,x13,aI K _ _ t65L1.eq_1 ?_,hN,hk⟩
  simp (disch:=omega) only[go_sem]
 | k+1,i,S,jv,s,v,x12,x13,h,hs,hv,hN,hk=>by
  have hla:i<ats.length:=by omega
  have hdr:ats.drop i=ats[i]::ats.drop (i+1):=List.drop_eq_getElem_cons hla
  obtain⟨kd,n,he,hkd,hn⟩:=ha ats[i] (List.getElem_mem _)
  have hix:indexAddrS 2 (.iv (.sl t5 ats)) (i:Int)=some (.iv (.cp [.int .i64 kd,.int .i64 n])):=bMh (by rw[List.getElem?_eq_getElem hla,he])
  have e1:((i+1:Nat):Int)=(i:Int)+1:=by omega
  rw[hdr,he,atxT]
  by_cases h1:kd=1
  ·subst h1
   rw[if_pos rfl]
   obtain⟨jv1,S1,c64,hN1,hk1⟩:=aFz hN h0 hk n (by omega)
   have d1:=gE (hH n v)
   have ml:=lU v n
   obtain⟨S',jv',y12,y13,ih,hN',hk'⟩:=tI h0 x1 x2 x3 x5 x8 x9 x10 x11 x14 c0 c1 c2 c3 c4 t5 ats t6 l6 ha hl k (i+1) S1 jv1 (s++[32]++dg (hH n v)) (eG v n) e_ e_ (by omega) (by simp only[n_];omega) (by omega) hN1 hk1
   rw[e1]at ih
   refine⟨S',jv',y12,y13,aI K _ _ t65L1.eq_1 ?_,hN',hk'⟩
   simp (disch:=omega) only[go_sem,hix,ao0,aoS,c64,aH,n_]
   exact congrArg er ih
  ·rw[if_neg h1]
   obtain⟨d1,p1⟩:=nQ kd hkd
   obtain⟨d2,p2⟩:=nQ n hn
   obtain⟨S',jv',y12,y13,ih,hN',hk'⟩:=tI h0 x1 x2 x3 x5 x8 x9 x10 x11 x14 c0 c1 c2 c3 c4 t5 ats t6 l6 ha hl k (i+1) S jv (s++[32,99]++dg kd++[46]++dg n) v e_ z_ (by omega) (by simp only[n_];omega) (by omega) hN hk
   rw[e1]at ih
   refine⟨S',jv',y12,y13,aI K _ _ t65L1.eq_1 ?_,hN',hk'⟩
   simp (disch:=omega) only[go_sem,hix,ao0,aoS,h1,aF p1,aF p2,aH,n_]
   exact congrArg er ih
theorem aP3 {jx:Nat}{tg:Tag}{F:M_}{mn vr gl:Int}{gc:Tag}{cs:M_}{x1 x2 x5 x7 x9 x10 x11 x12 x13:TV}{c0 c1 c2 c3 c4:Int}{t5:Tag}{l5:M_}{t6:Tag}{l6:M_}(hl:l6.length<=10){i:Nat}{z:Int}(hz:(i:Int)=z){a0 a1 a2 a3 a4:Int}{a5:Tag}{b5:M_}{a6:Tag}{b6:M_}(hi:l6[i]? = some [.int .i64 a0,.int .i64 a1,.int .i64 a2,.int .i64 a3,.int .i64 a4,.sl a5 b5,.sl a6 b6]){S S1:aA}{s w:List UInt8}(hs:s.length+w.length<=4611686018427387904)(hc:(lim K).call 65 [.ptr jx 93 0,.iv (.agg [.sl tg F,.int .i64 mn,.int .i64 vr,.int .i64 gl,.sl gc cs]),.iv (.agg [.int .i64 a0,.int .i64 a1,.int .i64 a2,.int .i64 a3,.int .i64 a4,.sl a5 b5,.sl a6 b6])] S=.ret (.iv (.str w),S1)){x14:TV}{r:bR×Env×aA}
  (ih:lp' (lim K) t65L0 [.ptr jx 93 0,x1,x2,lbC tg F mn vr gl gc cs,lbT c0 c1 c2 c3 c4 t5 l5 t6 l6,x5,.iv (.str (s++w)),x7,j_ (z+1),x9,x10,x11,x12,x13,e_] S1=.ret r):
  lp' (lim K) t65L0 [.ptr jx 93 0,x1,x2,lbC tg F mn vr gl gc cs,lbT c0 c1 c2 c3 c4 t5 l5 t6 l6,x5,.iv (.str s),x7,j_ z,x9,x10,x11,x12,x13,x14] S=.ret r:=by
 subst hz
 have hla:i<l6.length:=by
  rcases Nat.lt_or_ge i l6.length with h|h
  ·exact h
  ·rw[List.getElem?_eq_none h]at hi;cases hi
 have hix:indexAddrS 7 (.iv (.sl t6 l6)) (i:Int)=some (.iv (.cp [.int .i64 a0,.int .i64 a1,.int .i64 a2,.int .i64 a3,.int .i64 a4,.sl a5 b5,.sl a6 b6])):=sT (by omega) (by rw[Int.toNat_natCast];exact hi) rfl
 have hg:∀(E:Env) (T:aA),bL E T (.iv (.cp [.int .i64 a0,.int .i64 a1,.int .i64 a2,.int .i64 a3,.int .i64 a4,.sl a5 b5,.sl a6 b6])) 7=some [j_ a0,j_ a1,j_ a2,j_ a3,j_ a4,.iv (.sl a5 b5),.iv (.sl a6 b6)]:=fun E T=>by simp[bL,TM.sub]
 refine aI K _ _ t65L0.eq_1 ?_
 simp (disch:=omega) only[go_sem,hix,hg,hc,aH]
 exact congrArg er ih
theorem aGf {jx:Nat}{x1 x2 x3 x5 x7 x9 x10 x11 x12 x13 x14:TV}{c0 c1 c2 c3 c4:Int}{t5:Tag}{l5:M_}{t6:Tag}{l6:M_}{z:Int}(hi:(l6.length:Int)=z)(hl:z<=10){S:aA}{s:List UInt8}:
  lp' (lim K) t65L0 [.ptr jx 93 0,x1,x2,x3,lbT c0 c1 c2 c3 c4 t5 l5 t6 l6,x5,.iv (.str s),x7,j_ z,x9,x10,x11,x12,x13,x14] S=.ret (.exit 2,[.ptr jx 93 0,x1,x2,x3,lbT c0 c1 c2 c3 c4 t5 l5 t6 l6,x5,.iv (.str s),x7,j_ z,x9,x10,x11,x12,x13,z_],S):=by
 subst hi
 refine aI K _ _ t65L0.eq_1 ?_
 simp (disch:=omega) only[go_sem]
theorem aP4 {n0:Nat}{S0:aA}(h0:S0.length=n0){jx jf:Nat}{f:List Int}(x1 x2 x3 x4 x5 x6 x10 x11 x13 x14 x15:TV)(tp:Tag)(ps:List Int)(hl:ps.length<=2000000)(r c:Bool)(c0 c1 c2 c3 c4:Int)(t5:Tag)(l5:M_)(t6:Tag)(l6:M_):∀(k i:Nat) (S:aA) (jv:Nat) (s:List UInt8) (v:List Int) (x12:TV),i+k=ps.length->s.length+50*k<=1000000000000->v.length+k<1000000000->NM n0 S jx jv jf v f->aJ [jx] S0 S ->
  ∃(S':aA) (jv':Nat) (y12:TV),lp' (lim K) t37L1 [.ptr jx 93 0,x1,x2,x3,x4,x5,x6,.iv (.str s),.lb [.iv (.sl tp (TM.one (.int .i64) ps)),.iv (.bool r),.iv (.bool c),k_,j_ c0,j_ c1,j_ c2,j_ c3,j_ c4,.iv (.sl t5 l5),.iv (.sl t6 l6)],j_ (i:Int),x10,x11,x12,x13,x14,x15] S
   = .ret (.exit 0,[.ptr jx 93 0,x1,x2,x3,x4,x5,x6,.iv (.str (ptxT s v (ps.drop i)).1),.lb [.iv (.sl tp (TM.one (.int .i64) ps)),.iv (.bool r),.iv (.bool c),k_,j_ c0,j_ c1,j_ c2,j_ c3,j_ c4,.iv (.sl t5 l5),.iv (.sl t6 l6)],j_ ps.length,x10,x11,y12,x13,x14,x15],S')∧NM n0 S' jx jv' jf (ptxT s v (ps.drop i)).2 f∧aJ [jx] S0 S'
 | 0,i,S,jv,s,v,x12,h,hs,hv,hN,hk=>by
  obtain rfl:i=ps.length:=by omega
  have hle:=TM.dL (.int .i64) ps
  rw[List.drop_length,ptxT]
  refine⟨S,jv,z_,aI K _ _ t37L1.eq_1 ?_,hN,hk⟩
  simp (disch:=omega) only[go_sem,hle]
 | k+1,i,S,jv,s,v,x12,h,hs,hv,hN,hk=>by
  have hla:i<ps.length:=by omega
  have hle:=TM.dL (.int .i64) ps
  have hdr:ps.drop i=ps[i]::ps.drop (i+1):=List.drop_eq_getElem_cons hla
  have hix:=sU (f:=IV.int .i64) (t:=tp) (l:=ps) (i:=(i:Int)) (by omega)
  rw[Int.toNat_natCast,show ps.getD i default=ps[i] by simp[List.getD,List.getElem?_eq_getElem hla]]at hix
  have e1:((i+1:Nat):Int)=(i:Int)+1:=by omega
  rw[hdr,ptxT]
  generalize ps[i]=n at *
  obtain⟨jv1,S1,c64,hN1,hk1⟩:=aFz hN h0 hk n (by omega)
  have d1:=gE (hH n v)
  have ml:=lU v n
  obtain⟨S',jv',y12,ih,hN',hk'⟩:=aP4 h0 x1 x2 x3 x4 x5 x6 x10 x11 x13 x14 x15 tp ps hl r c c0 c1 c2 c3 c4 t5 l5 t6 l6 k (i+1) S1 jv1 (s++[32]++dg (hH n v)) (eG v n) e_ (by omega) (by simp only[n_];omega) (by omega) hN1 hk1
  rw[e1]at ih
  refine⟨S',jv',y12,aI K _ _ t37L1.eq_1 ?_,hN',hk'⟩
  simp (disch:=omega) only[go_sem,hle,hix,c64,aH,n_]
  exact congrArg er ih
theorem bH5 (x0 x1 x2 x3 x4 x5 x6 x7 x9 x11 x12 x13 x14 x15:TV)(tp:Tag)(ps:M_)(r c:Bool)(c0 c1 c2 c3 c4:Int)(t5:Tag)(l5:M_)(t6:Tag)(l6:M_)(S:aA):
  lp' (lim K) t37L0 [x0,x1,x2,x3,x4,x5,x6,x7,.lb [.iv (.sl tp ps),.iv (.bool r),.iv (.bool c),k_,j_ c0,j_ c1,j_ c2,j_ c3,j_ c4,.iv (.sl t5 l5),.iv (.sl t6 l6)],x9,j_ 0,x11,x12,x13,x14,x15] S
   = .ret (.exit 2,[x0,x1,x2,x3,x4,x5,x6,x7,.lb [.iv (.sl tp ps),.iv (.bool r),.iv (.bool c),k_,j_ c0,j_ c1,j_ c2,j_ c3,j_ c4,.iv (.sl t5 l5),.iv (.sl t6 l6)],x9,j_ 0,x11,x12,x13,x14,z_],S):=by
 refine aI K _ _ t37L0.eq_1 ?_
 simp (disch:=omega) only[go_sem]
def fnS (r c:Bool)(s:List UInt8):List UInt8 :=
 let s1:=if r then s++[46]else s
 if c then s1++[33]else s1
theorem aWx {tg:Tag}{F:M_}{mn vr gl:Int}{gc:Tag}{cs:M_}{n0:Nat}{S0 S:aA}(h0:S0.length=n0){jx jv jf:Nat}{v f:List Int}(hN:NM n0 S jx jv jf v f)(hk:aJ [jx] S0 S){i:Int}(hi:0<=i∧i<F.length)(hnf:i∉f){tp:Tag}{ps:List Int}{r cc:Bool}{a0 a1 a2 a3 a4:Int}{a5:Tag}{b5:M_}{a6:Tag}{b6:M_}(hF:F[i.toNat]? = some (fnF tp ps r cc [.int .i64 a0,.int .i64 a1,.int .i64 a2,.int .i64 a3,.int .i64 a4,.sl a5 b5,.sl a6 b6]))(hps:ps.length<=2000000)(hv:v.length+ps.length<1000000000)(hf:f.length+1<1000000000){w:List UInt8}{v2 f2:List Int}(hw:w.length<=1000000000000)
  (hB:∀(S:aA) (jv jf:Nat),NM n0 S jx jv jf (ptxT ([32,102]++dg f.length++[91]) v ps).2 (f++[i])->aJ [jx] S0 S->∃jv' jf' S',(lim K).call 65 [.ptr jx 93 0,.iv (.agg [.sl tg F,.int .i64 mn,.int .i64 vr,.int .i64 gl,.sl gc cs]),.iv (.agg [.int .i64 a0,.int .i64 a1,.int .i64 a2,.int .i64 a3,.int .i64 a4,.sl a5 b5,.sl a6 b6])] S=.ret (.iv (.str w),S')∧NM n0 S' jx jv' jf' v2 f2∧aJ [jx] S0 S'):
  ∃jv' jf' S',(lim K).call 37 [.ptr jx 93 0,.iv (.agg [.sl tg F,.int .i64 mn,.int .i64 vr,.int .i64 gl,.sl gc cs]),j_ i] S=.ret (.iv (.str (fnS r cc (ptxT ([32,102]++dg f.length++[91]) v ps).1++w++[93])),S')∧NM n0 S' jx jv' jf' v2 f2∧aJ [jx] S0 S':=by
 obtain⟨j',S1,c62,hm,hg⟩:=aVo hN.gf (by have:=hk.len;omega) (by omega) i
 have g:=hg hnf
 have ho:=hN.own
 have hlt:=hN.lt
 have hp:hH i f=f.length:=aFy f hnf
 have e1:eG f i=f++[i]:=by unfold eG;rw[if_neg hnf]
 rw[hp,e1,decide_eq_false hnf]at c62
 obtain⟨dl,c63⟩:=nQ (f.length:Int) (by unfold eN;omega)
 have o1:S1[jx]? = some (nmB jv jf v f):=g.old _ _ ho fun hl=>by have:=hN.gf.new hl;omega
 have es:=fun b=>bQ (aO o1) b
 obtain⟨gv1,hd⟩:=g.other hN.gv (fun h1 h2=>Ne.symm (hN.ne h2 h1))
 have gl':=g.gl
 rw[aIe]at gl' hd
 have k1:=(g.keep hN.gf hk (by omega)).trans (aJ.set S1 (by simp:jx∈[jx]) (nmB jv j' v (f++[i])))
 have hN1:NM n0 (S1.set jx (nmB jv j' v (f++[i]))) jx jv j' v (f++[i]):=⟨bQ (aO o1) _,gv1.set hlt,gl'.set hlt,fun h1 h2=>Ne.symm (hd h2 h1),hlt,hN.lv,by rw[List.length_append,List.length_singleton];omega⟩
 obtain⟨S2,jv2,y12,l1,hN2,k2⟩:=aP4 h0 (.iv (.agg [.sl tg F,.int .i64 mn,.int .i64 vr,.int .i64 gl,.sl gc cs])) (j_ i) (lbC tg F mn vr gl gc cs) (.iv (.str [])) (j_ f.length) z_ u_ z_ u_ u_ u_ tp ps hps r cc a0 a1 a2 a3 a4 a5 b5 a6 b6 ps.length 0 _ jv ([32,102]++dg f.length++[91]) v u_ (by omega) (by simp only[n_];omega) (by omega) hN1 k1
 rw[List.drop_zero]at l1 hN2
 rw[n0_]at l1
 obtain⟨jv3,jf3,S3,c65,hN3,k3⟩:=hB S2 jv2 j' hN2 k2
 refine⟨jv3,jf3,S3,aB K _ (fn:=t37) rfl rfl ?_,hN3,k3⟩
 have hpl:=aAv ps ([32,102]++dg f.length++[91]) v
 have hix:indexAddrS 11 (.iv (.sl tg F)) i=some (.iv (.cp (fnF tp ps r cc [.int .i64 a0,.int .i64 a1,.int .i64 a2,.int .i64 a3,.int .i64 a4,.sl a5 b5,.sl a6 b6]))):=sT hi.1 hF rfl
 unfold fnF at hix
 generalize hq:ptxT ([32,102]++dg f.length++[91]) v ps=q at *
 have es0:[32,102]++dg f.length++[91]=32::102::(dg f.length++[91]):=by simp
 rw[es0]at l1
 obtain⟨q1,q2⟩:=q
 dsimp only at l1 hpl ⊢
 simp only[n_]at hpl
 have hq1:q1.length<=1000000000:=by omega
 clear hpl hN hN1 hN2 hN3 k1 k2 k3 g gv1 gl' hd hB hk hg hm
 unfold nmB at *
 have hle:=TM.dL (.int .i64) ps
 have fr:=fun(x4 x5 x6 x7 x9 x11 x12 x13 x14 x15:TV)=>bH5 (.ptr jx 93 0) (.iv (.agg [.sl tg F,.int .i64 mn,.int .i64 vr,.int .i64 gl,.sl gc cs])) (j_ i) (lbC tg F mn vr gl gc cs) x4 x5 x6 x7 x9 x11 x12 x13 x14 x15 tp (TM.one (.int .i64) ps) r cc a0 a1 a2 a3 a4 a5 b5 a6 b6 S2
 unfold fnS
 cases r with
 | true =>
  cases cc with
  | true =>
   simp (disch:=omega) only[t37,go_sem,ho,o1,c62,es,aF c63,hix,n_,if_true]
   rw[l1]
   simp (disch:=omega) only[go_sem,fr,n_,c65,if_true]
  | false =>
   simp (disch:=omega) only[t37,go_sem,ho,o1,c62,es,aF c63,hix,n_,if_true]
   rw[l1]
   simp (disch:=omega) only[go_sem,fr,n_,c65,if_true,Bool.false_eq_true,if_false]
 | false =>
  cases cc with
  | true =>
   simp (disch:=omega) only[t37,go_sem,ho,o1,c62,es,aF c63,hix,n_,if_true]
   rw[l1]
   simp (disch:=omega) only[go_sem,fr,n_,c65,if_true,Bool.false_eq_true,if_false]
  | false =>
   simp (disch:=omega) only[t37,go_sem,ho,o1,c62,es,aF c63,hix,n_,if_true]
   rw[l1]
   simp (disch:=omega) only[go_sem,fr,n_,c65,if_true,Bool.false_eq_true,if_false]
theorem uA.cells {F:M_}{U:Tc}{t:List IV}(h:uA F U t):∃(c0 c1 c2 c3 c4:Int) (t5:Tag) (l5:M_) (t6:Tag) (l6:M_),t=[.int .i64 c0,.int .i64 c1,.int .i64 c2,.int .i64 c3,.int .i64 c4,.sl t5 l5,.sl t6 l6]:=by
 cases U with
 | prim v op n ats k=>obtain⟨tg,tk,c,rfl,_⟩:=h;exact⟨_,_,_,_,_,_,_,_,_,rfl⟩
 | fn v f ps r cc body k=>obtain⟨c,tp,bt,rfl,_⟩:=h;exact⟨_,_,_,_,_,_,_,_,_,rfl⟩
 | ite a p q=>obtain⟨c,d,rfl,_⟩:=h;exact⟨_,_,_,_,_,_,_,_,_,rfl⟩
 | call ats=>obtain⟨tg,rfl⟩:=h;exact⟨_,_,_,_,_,_,_,_,_,rfl⟩
 | appl ats=>obtain⟨tg,rfl⟩:=h;exact⟨_,_,_,_,_,_,_,_,_,rfl⟩
 | halt=>rw[show t=_ from h];exact⟨_,_,_,_,_,_,_,_,_,rfl⟩
def oO:Tc->Prop
 | .prim _ op n ats k=>eN op∧eN n∧(∀a∈ats,AtG a)∧ats.length<=2000000∧oO k
 | .fn _ _ ps _ _ body k=>ps.length<=2000000∧oO body∧oO k
 | .ite a p q=>AtG a∧oO p∧oO q
 | .call ats=>(∀a∈ats,AtG a)∧ats.length<=2000000
 | .appl ats=>(∀a∈ats,AtG a)∧ats.length<=2000000
 | .halt=>True
theorem aL9 {tg:Tag}{F:M_}{mn vr gl:Int}{gc:Tag}{cs:M_}{n0:Nat}{S0 S:aA}(h0:S0.length=n0){jx jv jf:Nat}{v f:List Int}(hN:NM n0 S jx jv jf v f)(hk:aJ [jx] S0 S){kd:Int}(hkd:kd=4∨kd=6∨kd=7)(ta:Tag){ats:M_}(ha:∀a∈ats,AtG a)(hl:ats.length<=2000000)(hv:v.length+ats.length<1000000000):
  ∃jv' S',(lim K).call 65 [.ptr jx 93 0,.iv (.agg [.sl tg F,.int .i64 mn,.int .i64 vr,.int .i64 gl,.sl gc cs]),.iv (.agg [.int .i64 kd,.int .i64 0,.int .i64 0,.int .i64 0,.int .i64 0,.sl ta ats,.sl .nil []])] S=.ret (.iv (.str ((atxT ([40]++dg kd) v ats).1++[41])),S')∧NM n0 S' jx jv' jf (atxT ([40]++dg kd) v ats).2 f∧aJ [jx] S0 S':=by
 obtain⟨dl,c63⟩:=nQ kd (by unfold eN;omega)
 obtain⟨S1,jv1,y12,y13,l1,hN1,hk1⟩:=tI h0 (.iv (.agg [.sl tg F,.int .i64 mn,.int .i64 vr,.int .i64 gl,.sl gc cs])) (.iv (.agg [.int .i64 kd,.int .i64 0,.int .i64 0,.int .i64 0,.int .i64 0,.sl ta ats,.sl .nil []])) (lbC tg F mn vr gl gc cs) (.iv (.str [])) u_ z_ z_ z_ u_ kd 0 0 0 0 ta ats .nil [] ha hl ats.length 0 S jv ([40]++dg kd) v u_ u_ (by omega) (by simp only[n_];omega) (by omega) hN hk
 rw[List.drop_zero]at l1 hN1
 rw[n0_]at l1
 have al:=lN ats ([40]++dg kd) v
 have l2:=fun(x9 x10 x11 x12 x13 x14 x7:TV) (s:List UInt8)=>aGf (jx:=jx) (x1:=.iv (.agg [.sl tg F,.int .i64 mn,.int .i64 vr,.int .i64 gl,.sl gc cs])) (x2:=.iv (.agg [.int .i64 kd,.int .i64 0,.int .i64 0,.int .i64 0,.int .i64 0,.sl ta ats,.sl .nil []])) (x3:=lbC tg F mn vr gl gc cs) (x5:=.iv (.str [])) (x7:=x7) (x9:=x9) (x10:=x10) (x11:=x11) (x12:=x12) (x13:=x13) (x14:=x14) (c0:=kd) (c1:=0) (c2:=0) (c3:=0) (c4:=0) (t5:=ta) (l5:=ats) (t6:=.nil) (l6:=[]) (z:=0) rfl (by omega) (S:=S1) (s:=s)
 refine⟨jv1,S1,aB K _ (fn:=t65) rfl rfl ?_,hN1,hk1⟩
 generalize hq:atxT ([40]++dg kd) v ats=q at *
 rw[show [40]++dg kd=40::dg kd from rfl]at l1
 obtain⟨q1,q2⟩:=q
 dsimp only at l1 al ⊢
 simp only[n_]at al
 have hq1:q1.length<=1000000000:=by omega
 clear hN hN1 hk hk1
 rcases hkd with rfl|rfl|rfl
 ·simp (disch:=omega) only[t65,go_sem,aF c63,n_]
  rw[l1]
  simp (disch:=omega) only[go_sem,n_]
  rw[l2]
  simp (disch:=omega) only[go_sem,n_]
 ·simp (disch:=omega) only[t65,go_sem,aF c63,n_]
  rw[l1]
  simp (disch:=omega) only[go_sem,n_]
  rw[l2]
  simp (disch:=omega) only[go_sem,n_]
 ·simp (disch:=omega) only[t65,go_sem,aF c63,n_]
  rw[l1]
  simp (disch:=omega) only[go_sem,n_]
  rw[l2]
  simp (disch:=omega) only[go_sem,n_]
def oX (tg:Tag)(F:List (List IV))(mn vr gl:Int)(gc:Tag)(cs:List (List IV))(U:Tc):Prop:=∀ {n0:Nat} {S0 S:aA} {jx jv jf:Nat} {v f:List Int} {t:List IV},S0.length=n0->uA F U t->oO U->(∀i∈cQ U,0<=i∧i<F.length∧i∉f)->(cQ U).Nodup->szC U<=100000000->v.length+szC U<1000000000->f.length+(cQ U).length+1<1000000000->NM n0 S jx jv jf v f->aJ [jx] S0 S ->
 ∃jv' jf' S',(lim K).call 65 [.ptr jx 93 0,.iv (.agg [.sl tg F,.int .i64 mn,.int .i64 vr,.int .i64 gl,.sl gc cs]),.iv (.agg t)] S=.ret (.iv (.str (txtT U v f.length).1),S')∧NM n0 S' jx jv' jf' (txtT U v f.length).2.1 (f++cQ U)∧aJ [jx] S0 S'
theorem uX {tg:Tag}{F:M_}{mn vr gl:Int}{gc:Tag}{cs:M_}:∀U:Tc,(∃ats,U=.call ats)∨(∃ats,U=.appl ats)∨U=.halt->oX tg F mn vr gl gc cs U:=by
 intro U hU n0 S0 S jx jv jf v f t h0 hD hG hm hn hz hv hf hN hk
 rcases hU with⟨ats,rfl⟩|⟨ats,rfl⟩|rfl
 ·obtain⟨ta,rfl⟩:=hD
  obtain⟨ha,hl⟩:=hG
  obtain⟨jv',S',c,hN',hk'⟩:=aL9 (tg:=tg) (F:=F) (mn:=mn) (vr:=vr) (gl:=gl) (gc:=gc) (cs:=cs) h0 hN hk (kd:=4) (by omega) ta ha hl (by simp only[szC]at hv;omega)
  exact⟨jv',jf,S',c,by rw[show cQ (Tc.call ats)=[] from rfl,List.append_nil];exact hN',hk'⟩
 ·obtain⟨ta,rfl⟩:=hD
  obtain⟨ha,hl⟩:=hG
  obtain⟨jv',S',c,hN',hk'⟩:=aL9 (tg:=tg) (F:=F) (mn:=mn) (vr:=vr) (gl:=gl) (gc:=gc) (cs:=cs) h0 hN hk (kd:=6) (by omega) ta ha hl (by simp only[szC]at hv;omega)
  exact⟨jv',jf,S',c,by rw[show cQ (Tc.appl ats)=[] from rfl,List.append_nil];exact hN',hk'⟩
 ·obtain rfl:t=_:=hD
  obtain⟨jv',S',c,hN',hk'⟩:=aL9 (tg:=tg) (F:=F) (mn:=mn) (vr:=vr) (gl:=gl) (gc:=gc) (cs:=cs) h0 hN hk (kd:=7) (by omega) .nil (ats:=[]) (fun a ha=>by cases ha) (by simp) (by simp only[szC]at hv;simp;omega)
  rw[atxT]at c hN'
  exact⟨jv',jf,S',c,by rw[show cQ Tc.halt=[] from rfl,List.append_nil];exact hN',hk'⟩
theorem aRf {tg:Tag}{F:M_}{mn vr gl:Int}{gc:Tag}{cs:M_}{a:List IV}{p q:Tc}(hp:oX tg F mn vr gl gc cs p)(hq:oX tg F mn vr gl gc cs q):oX tg F mn vr gl gc cs (.ite a p q):=by
 intro n0 S0 S jx jv jf v f t h0 hD hG hm hn hz hv hf hN hk
 obtain⟨c,d,rfl,hDp,hDq⟩:=hD
 obtain⟨ha,hGp,hGq⟩:=hG
 rw[cQ]at hm hn hf
 simp only[szC]at hz hv
 obtain⟨n1,n2,n3⟩:=List.nodup_append.1 hn
 obtain⟨dl,c63⟩:=nQ 3 (by unfold eN;omega)
 obtain⟨S1,jv1,y12,y13,l1,hN1,hk1⟩:=tI h0 (.iv (.agg [.sl tg F,.int .i64 mn,.int .i64 vr,.int .i64 gl,.sl gc cs])) (.iv (.agg (ifT a c d))) (lbC tg F mn vr gl gc cs) (.iv (.str [])) u_ z_ z_ z_ u_ 3 0 0 0 0 .full [a] .full [c,d] (fun b hb=>by rw[List.mem_singleton]at hb;subst hb;exact ha) (by simp) 1 0 S jv ([40]++dg 3) v u_ u_ (by simp) (by simp only[n_];omega) (by omega) hN hk
 rw[List.drop_zero]at l1 hN1
 rw[n0_]at l1
 have al:=lN [a] ([40]++dg 3) v
 simp only[n_]at al hf
 obtain⟨jv2,jf2,S2,c1,hN2,hk2⟩:=hp h0 hDp hGp (fun i hi=>hm i (by simp[hi])) n1 (by omega) (by omega) (by omega) hN1 hk1
 have tl:=jY p (atxT ([40]++dg 3) v [a]).2 f.length
 have tm:=aBh p (atxT ([40]++dg 3) v [a]).2 f.length
 obtain⟨jv3,jf3,S3,c2,hN3,hk3⟩:=hq h0 hDq hGq (fun i hi=>by
  obtain⟨h1,h2,h3⟩:=hm i (by simp[hi])
  refine⟨h1,h2,fun h=>?_⟩
  rcases List.mem_append.1 h with h|h
  ·exact h3 h
  ·exact n3 i h i hi rfl) n2 (by omega) (by omega) (by rw[List.length_append];omega) hN2 hk2
 have el:(f++cQ p).length=(txtT p (atxT ([40]++dg 3) v [a]).2 f.length).2.2:=by rw[List.length_append,tm]
 rw[el]at c2 hN3
 refine⟨jv3,jf3,S3,aB K _ (fn:=t65) rfl rfl ?_,by rw[cQ,<-List.append_assoc];simp only[txtT];exact hN3,hk3⟩
 have tl2:=jY q (txtT p (atxT ([40]++dg 3) v [a]).2 f.length).2.1 (txtT p (atxT ([40]++dg 3) v [a]).2 f.length).2.2
 simp only[txtT]
 obtain⟨b0,b1,b2,b3,b4,b5,k5,b6,k6,rfl⟩:=hDp.cells
 obtain⟨e0,e1,e2,e3,e4,e5,m5,e6,m6,rfl⟩:=hDq.cells
 generalize txtT q (txtT p (atxT ([40]++dg 3) v [a]).2 f.length).2.1 (txtT p (atxT ([40]++dg 3) v [a]).2 f.length).2.2=W at *
 obtain⟨w2,w3⟩:=W
 generalize txtT p (atxT ([40]++dg 3) v [a]).2 f.length=W at *
 obtain⟨w1,w4⟩:=W
 generalize atxT ([40]++dg 3) v [a]=q at *
 obtain⟨q1,q2⟩:=q
 dsimp only at l1 c1 c2 al tl tl2 ⊢
 rw[show [40]++dg 3=40::dg 3 from rfl]at l1
 unfold ifT at *
 have hq1:q1.length<=1000000000:=by omega
 have hw1:w1.length<=100000000000:=by omega
 have hw2:w2.length<=100000000000:=by omega
 have z2:=fun(x7 x9 x10 x11 x12 x13:TV)=>aGf (jx:=jx) (x1:=.iv (.agg [.sl tg F,.int .i64 mn,.int .i64 vr,.int .i64 gl,.sl gc cs])) (x2:=.iv (.agg [.int .i64 3,.int .i64 0,.int .i64 0,.int .i64 0,.int .i64 0,.sl .full [a],.sl .full [[.int .i64 b0,.int .i64 b1,.int .i64 b2,.int .i64 b3,.int .i64 b4,.sl b5 k5,.sl b6 k6],[.int .i64 e0,.int .i64 e1,.int .i64 e2,.int .i64 e3,.int .i64 e4,.sl e5 m5,.sl e6 m6]]])) (x3:=lbC tg F mn vr gl gc cs) (x5:=.iv (.str [])) (x7:=x7) (x9:=x9) (x10:=x10) (x11:=x11) (x12:=x12) (x13:=x13) (x14:=e_) (c0:=3) (c1:=0) (c2:=0) (c3:=0) (c4:=0) (t5:=.full) (l5:=[a]) (t6:=.full) (l6:=[[.int .i64 b0,.int .i64 b1,.int .i64 b2,.int .i64 b3,.int .i64 b4,.sl b5 k5,.sl b6 k6],[.int .i64 e0,.int .i64 e1,.int .i64 e2,.int .i64 e3,.int .i64 e4,.sl e5 m5,.sl e6 m6]]) (z:=0+1+1) rfl (by omega) (S:=S3) (s:=q1++w1++w2)
 have z1:=fun(x7 x9 x10 x11 x12 x13:TV)=>aP3 (i:=1) (z:=0+1) (by simp) rfl rfl (s:=q1++w1) (w:=w2) (by simp only[List.length_append];omega) c2 (x14:=e_) (z2 x7 x9 x10 x11 x12 x13)
 have z0:=fun(x7 x9 x10 x11 x12 x13 x14:TV)=>aP3 (i:=0) (z:=0) (by simp) rfl rfl (s:=q1) (w:=w1) (by omega) c1 (x14:=x14) (z1 x7 x9 x10 x11 x12 x13)
 clear hN hN1 hN2 hN3 hk hk1 hk2 hk3 hp hq hDp hDq
 simp (disch:=omega) only[t65,go_sem,aF c63,n_]
 rw[l1]
 simp (disch:=omega) only[go_sem,n_]
 rw[z0]
 simp (disch:=omega) only[go_sem,n_]
theorem aMa {tg:Tag}{F:M_}{mn vr gl:Int}{gc:Tag}{cs:M_}{x op m:Int}{ats:M_}{p:Tc}(hp:oX tg F mn vr gl gc cs p):oX tg F mn vr gl gc cs (.prim x op m ats p):=by
 intro n0 S0 S jx jv jf v f t h0 hD hG hm hn hz hv hf hN hk
 obtain⟨ta,tk,c,rfl,hDp⟩:=hD
 obtain⟨ho,hmr,ha,hl,hGp⟩:=hG
 rw[cQ]at hm hn hf
 simp only[szC]at hz hv
 obtain⟨dl,c63⟩:=nQ 1 (by unfold eN;omega)
 obtain⟨dlo,c63o⟩:=nQ op ho
 obtain⟨dlm,c63m⟩:=nQ m hmr
 have dlp:=gE (hH x v)
 obtain⟨jv0,Sa,c64,hNa,hka⟩:=aFz hN h0 hk x (by omega)
 have ml:=lU v x
 obtain⟨S1,jv1,y12,y13,l1,hN1,hk1⟩:=tI h0 (.iv (.agg [.sl tg F,.int .i64 mn,.int .i64 vr,.int .i64 gl,.sl gc cs])) (.iv (.agg [.int .i64 1,.int .i64 x,.int .i64 op,.int .i64 m,.int .i64 0,.sl ta ats,.sl tk [c]])) (lbC tg F mn vr gl gc cs) (.iv (.str [])) u_ e_ e_ z_ u_ 1 x op m 0 ta ats tk [c] ha hl ats.length 0 Sa jv0 ([40]++dg 1++[32,118]++dg (hH x v)++[32,111]++dg op++[44]++dg m) (eG v x) u_ u_ (by simp) (by simp only[n_];omega) (by omega) hNa hka
 rw[List.drop_zero]at l1 hN1
 rw[n0_]at l1
 have al:=lN ats ([40]++dg 1++[32,118]++dg (hH x v)++[32,111]++dg op++[44]++dg m) (eG v x)
 simp only[n_]at al
 obtain⟨jv2,jf2,S2,c1,hN2,hk2⟩:=hp h0 hDp hGp hm hn (by omega) (by omega) hf hN1 hk1
 have tl:=jY p (atxT ([40]++dg 1++[32,118]++dg (hH x v)++[32,111]++dg op++[44]++dg m) (eG v x) ats).2 f.length
 refine⟨jv2,jf2,S2,aB K _ (fn:=t65) rfl rfl ?_,by rw[cQ];simp only[txtT];exact hN2,hk2⟩
 simp only[txtT]
 obtain⟨b0,b1,b2,b3,b4,b5,k5,b6,k6,rfl⟩:=hDp.cells
 generalize txtT p (atxT ([40]++dg 1++[32,118]++dg (hH x v)++[32,111]++dg op++[44]++dg m) (eG v x) ats).2 f.length=W at *
 obtain⟨w1,w4⟩:=W
 generalize atxT ([40]++dg 1++[32,118]++dg (hH x v)++[32,111]++dg op++[44]++dg m) (eG v x) ats=q at *
 obtain⟨q1,q2⟩:=q
 dsimp only at l1 c1 al tl ⊢
 simp only[List.cons_append,List.nil_append]at l1
 have hq1:q1.length<=100000000000:=by omega
 have hw1:w1.length<=100000000000:=by omega
 have z2:=fun(x7 x9 x10 x11 x12 x13:TV)=>aGf (jx:=jx) (x1:=.iv (.agg [.sl tg F,.int .i64 mn,.int .i64 vr,.int .i64 gl,.sl gc cs])) (x2:=.iv (.agg [.int .i64 1,.int .i64 x,.int .i64 op,.int .i64 m,.int .i64 0,.sl ta ats,.sl tk [[.int .i64 b0,.int .i64 b1,.int .i64 b2,.int .i64 b3,.int .i64 b4,.sl b5 k5,.sl b6 k6]]])) (x3:=lbC tg F mn vr gl gc cs) (x5:=.iv (.str [])) (x7:=x7) (x9:=x9) (x10:=x10) (x11:=x11) (x12:=x12) (x13:=x13) (x14:=e_) (c0:=1) (c1:=x) (c2:=op) (c3:=m) (c4:=0) (t5:=ta) (l5:=ats) (t6:=tk) (l6:=[[.int .i64 b0,.int .i64 b1,.int .i64 b2,.int .i64 b3,.int .i64 b4,.sl b5 k5,.sl b6 k6]]) (z:=0+1) rfl (by omega) (S:=S2) (s:=q1++w1)
 have z0:=fun(x7 x9 x10 x11 x12 x13 x14:TV)=>aP3 (i:=0) (z:=0) (by simp) rfl rfl (s:=q1) (w:=w1) (by omega) c1 (x14:=x14) (z2 x7 x9 x10 x11 x12 x13)
 clear hN hN1 hN2 hk hk1 hk2 hp hDp hNa hka
 simp (disch:=omega) only[t65,go_sem,aF c63,aF c63o,aF c63m,c64,n_]
 rw[l1]
 simp (disch:=omega) only[go_sem,n_]
 rw[z0]
 simp (disch:=omega) only[go_sem,n_]
end Go.Proofs.YtageemgcnoblnaaDoor
