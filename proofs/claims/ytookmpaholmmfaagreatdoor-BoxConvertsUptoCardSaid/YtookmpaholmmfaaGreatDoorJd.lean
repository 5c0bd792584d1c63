/- Some texts of the proof, joined. Condition: none. -/
import Derived.Test.YtookmpaholmmfaaGreatDoorJc
import Derived.Test.YtookmpaholmmfaaGreatDoorJb
import Derived.Test.YtookmpaholmmfaaGreatDoorJa
set_option maxRecDepth 100000
set_option maxHeartbeats 64000000
set_option linter.unusedSimpArgs false
set_option linter.unusedVariables false
namespace Go.Proofs.YtookmpaholmmfaaGreatDoor
open Go Go.TM
mutual
def bvE:Ex→List Int
 | .mk k n gv vs r g ks=>vs++cR ks
def cR:List Ex→List Int
 | []=>[]
 | e::es=>bvE e++cR es
end
mutual
def ccE:Ex→List Int
 | .mk k n gv vs r g ks=>(if k=1 then [n] else [])++gX ks
def gX:List Ex→List Int
 | []=>[]
 | e::es=>ccE e++gX es
end
mutual
def Sc (A:List Int):Ex→Prop
 | .mk k n gv vs r g ks=>(k=2∨k=4→n∈vs++A)∧Scs (vs++A) ks
def Scs (A:List Int):List Ex→Prop
 | []=>True
 | e::es=>Sc A e∧Scs A es
end
mutual
def Fr (p:Pg):Ex→Prop
 | .mk k n gv vs r g ks=>eM p (.mk k n gv vs r g ks)=true∧Frs p ks
def Frs (p:Pg):List Ex→Prop
 | []=>True
 | e::es=>Fr p e∧Frs p es
end
mutual
def dp:Ex→Nat
 | .mk k n gv vs r g ks=>dps ks
def dps:List Ex→Nat
 | []=>0
 | e::es=>max (dp e+1) (dps es)
end
theorem pJ (e:Ex):bvE e=e.vs++cR e.ks:=by cases e; rw[bvE]; rfl
theorem aAb (e:Ex):ccE e=(if e.k=1 then [e.n] else [])++gX e.ks:=by cases e; rw[ccE]; rfl
theorem aDe (A:List Int)(e:Ex):Sc A e↔(e.k=2∨e.k=4→e.n∈e.vs++A)∧Scs (e.vs++A) e.ks:=by cases e; rw[Sc]; rfl
theorem sF (p:Pg)(e:Ex):Fr p e↔eM p e=true∧Frs p e.ks:=by cases e; rw[Fr]; rfl
theorem aDf (e:Ex):dp e=dps e.ks:=by cases e; rw[dp]; rfl
theorem zB {A:List Int}:∀ {l:List Ex},Scs A l↔∀x∈l,Sc A x
 | []=>by simp[Scs]
 | a::r=>by rw[Scs,zB]; simp
theorem rN {p:Pg}:∀ {l:List Ex},Frs p l↔∀x∈l,Fr p x
 | []=>by simp[Frs]
 | a::r=>by rw[Frs,rN]; simp
theorem aFh {v:Int}:∀ {l:List Ex},v∈cR l↔∃x∈l,v∈bvE x
 | []=>by simp[cR]
 | a::r=>by rw[cR,List.mem_append,aFh]; simp
theorem aPs:∀(N:Nat) (e:Ex),e.w≤N→∀(A A':List Int),Sc A e→(∀v∈A,v∈A')→Sc A' e
 | 0,e,hw,A,A',h,ha=>by have:=Ex.w_eq e; omega
 | N+1,e,hw,A,A',h,ha=>by
  rw[aDe]at h ⊢
  refine⟨fun hk=>?_,?_⟩
  ·have:=h.1 hk
   simp only[List.mem_append]at this ⊢
   rcases this with h1|h1
   ·exact .inl h1
   ·exact .inr (ha _ h1)
  ·rw[zB]at h ⊢
   intro x hx
   refine aPs N x (by have:=Ex.kid_lt hx; omega) _ _ (h.2 x hx) fun v hv=>?_
   simp only[List.mem_append]at hv ⊢
   rcases hv with h1|h1
   ·exact .inl h1
   ·exact .inr (ha _ h1)
theorem aDg:∀ {l B:List Int},l.Nodup→(∀v∈l,v∉B)→∃B1,oD l B=some B1
 | [],B,_,_=>⟨B,rfl⟩
 | x::r,B,hn,hd=>by
  rw[List.nodup_cons]at hn
  unfold oD
  rw[if_neg (hd x (by simp))]
  exact aDg hn.2 fun v hv hm=>by
   rcases List.mem_cons.1 hm with rfl|hm
   ·exact hn.1 hv
   ·exact hd v (by simp[hv]) hm
structure Fit (bs cs B C:List Int):Prop where
 nb:bs.Nodup
 db:∀v∈bs,v∉B
 nc:cs.Nodup
 dc:∀n∈cs,n∉C
theorem Fit.left {b1 b2 c1 c2 B C:List Int}(h:Fit (b1++b2) (c1++c2) B C):Fit b1 c1 B C :=
 ⟨(List.nodup_append.1 h.nb).1,fun v hv=>h.db v (by simp[hv]),(List.nodup_append.1 h.nc).1,fun v hv=>h.dc v (by simp[hv])⟩
theorem Fit.right {b1 b2 c1 c2 B C B1 C1:List Int}(h:Fit (b1++b2) (c1++c2) B C)(hb:∀v,v∈B1↔v∈b1∨v∈B)(hc:∀v,v∈C1↔v∈c1∨v∈C):Fit b2 c2 B1 C1:=by
 have n1:=List.nodup_append.1 h.nb
 have n2:=List.nodup_append.1 h.nc
 refine⟨n1.2.1,fun v hv hm=>?_,n2.2.1,fun v hv hm=>?_⟩
 ·rcases (hb v).1 hm with h1|h1
  ·exact n1.2.2 v h1 v hv rfl
  ·exact h.db v (by simp[hv]) h1
 ·rcases (hc v).1 hm with h1|h1
  ·exact n2.2.2 v h1 v hv rfl
  ·exact h.dc v (by simp[hv]) h1
theorem Fit.join {b1 b2 c1 c2 B C B1 C1:List Int}(h:Fit b1 c1 B C)(g:Fit b2 c2 B1 C1)(hb:∀v,v∈B1↔v∈b1∨v∈B)(hc:∀v,v∈C1↔v∈c1∨v∈C):Fit (b1++b2) (c1++c2) B C:=by
 refine⟨List.nodup_append.2 ⟨h.nb,g.nb,fun a ha b hb' e=>?_⟩,fun v hv=>?_,List.nodup_append.2 ⟨h.nc,g.nc,fun a ha b hb' e=>?_⟩,fun v hv=>?_⟩
 ·subst e; exact g.db a hb' ((hb a).2 (.inl ha))
 ·rcases List.mem_append.1 hv with h1|h1
  ·exact h.db v h1
  ·exact fun hB=>g.db v h1 ((hb v).2 (.inr hB))
 ·subst e; exact g.dc a hb' ((hc a).2 (.inl ha))
 ·rcases List.mem_append.1 hv with h1|h1
  ·exact h.dc v h1
  ·exact fun hC=>g.dc v h1 ((hc v).2 (.inr hC))
theorem aFi (p:Pg)(e:Ex)(es:List Ex)(depth:Nat)(B C A:List Int):gF p (e::es) depth B C A=if (chk p e depth B C A).1=0 then gF p es depth (chk p e depth B C A).2.1 (chk p e depth B C A).2.2 A else chk p e depth B C A:=by rw[gF]
theorem aWx (p:Pg):∀(N:Nat) (e:Ex),e.w≤N→∀(depth:Nat) (B C A:List Int),Fr p e→depth+dp e<4000→Sc A e→Fit (bvE e) (ccE e) B C →
  (chk p e depth B C A).1=0∧(∀v,v∈(chk p e depth B C A).2.1↔v∈bvE e∨v∈B)∧(∀n,n∈(chk p e depth B C A).2.2↔n∈ccE e∨n∈C)
 | 0,e,hw,depth,B,C,A,hf,hd,hs,ht=>by have:=Ex.w_eq e; omega
 | N+1,e,hw,depth,B,C,A,hf,hd,hs,ht=>by
  rw[sF]at hf
  rw[aDe]at hs
  rw[aDf]at hd
  rw[pJ,aAb]at ht
  obtain⟨B1,hB1⟩:=aDg ht.left.nb ht.left.db
  have hm1:=(uB hB1).1
  have key:∀(l:List Ex) (A:List Int) (B C:List Int),(∀x∈l,x.w≤N)→Frs p l→depth+dps l<4000→Scs A l→Fit (cR l) (gX l) B C →
    (gF p l (depth+1) B C A).1=0∧(∀v,v∈(gF p l (depth+1) B C A).2.1↔v∈cR l∨v∈B)∧(∀n,n∈(gF p l (depth+1) B C A).2.2↔n∈gX l∨n∈C):=by
   intro l A
   induction l with
   | nil=>intro B C _ _ _ _ _; rw[gF,cR,gX]; simp
   | cons a r ih =>
    intro B C hl hf hd hs ht
    rw[Frs]at hf
    rw[Scs]at hs
    rw[dps]at hd
    rw[cR,gX]at ht
    obtain⟨h1,h2,h3⟩:=aWx p N a (hl a (by simp)) (depth+1) B C A hf.1 (by omega) hs.1 ht.left
    obtain⟨h4,h5,h6⟩:=ih _ _ (fun x hx=>hl x (by simp[hx])) hf.2 (by omega) hs.2 (ht.right h2 h3)
    rw[aFi,if_pos h1,cR,gX]
    refine⟨h4,fun v=>?_,fun v=>?_⟩
    ·rw[h5 v,h2 v,List.mem_append]
     constructor
     ·rintro (h|h|h)
      ·exact .inl (.inr h)
      ·exact .inl (.inl h)
      ·exact .inr h
     ·rintro ((h|h)|h)
      ·exact .inr (.inl h)
      ·exact .inl h
      ·exact .inr (.inr h)
    ·rw[h6 v,h3 v,List.mem_append]
     constructor
     ·rintro (h|h|h)
      ·exact .inl (.inr h)
      ·exact .inl (.inl h)
      ·exact .inr h
     ·rintro ((h|h)|h)
      ·exact .inr (.inl h)
      ·exact .inl h
      ·exact .inr (.inr h)
  have hC1:∀v,v∈(if e.k=1 then e.n::C else C)↔v∈(if e.k=1 then [e.n] else [])∨v∈C:=by
   intro v; split<;>simp
  obtain⟨h4,h5,h6⟩:=key e.ks (e.vs++A) B1 (if e.k=1 then e.n::C else C) (fun x hx=>by have:=Ex.kid_lt hx; omega) hf.2 (by omega) hs.2 (ht.right hm1 hC1)
  have hc0:¬(e.k=1∧e.n∈C):=fun⟨h1,h2⟩=>ht.left.dc e.n (by rw[if_pos h1]; simp) h2
  have hn0:¬((e.k=2∨e.k=4)∧e.n∉e.vs++A):=fun⟨h1,h2⟩=>h2 (hs.1 h1)
  rw[aE3,if_neg (by omega),if_neg (by rw[hf.1]; decide),hB1]
  simp only[if_neg hc0,if_neg hn0]
  rw[pJ,aAb]
  refine⟨h4,fun v=>?_,fun v=>?_⟩
  ·rw[h5 v,hm1 v,List.mem_append]
   constructor
   ·rintro (h|h|h)
    ·exact .inl (.inr h)
    ·exact .inl (.inl h)
    ·exact .inr h
   ·rintro ((h|h)|h)
    ·exact .inr (.inl h)
    ·exact .inl h
    ·exact .inr (.inr h)
  ·rw[h6 v,hC1 v,List.mem_append]
   constructor
   ·rintro (h|h|h)
    ·exact .inl (.inr h)
    ·exact .inl (.inl h)
    ·exact .inr h
   ·rintro ((h|h)|h)
    ·exact .inr (.inl h)
    ·exact .inl h
    ·exact .inr (.inr h)
theorem aK6 (p:Pg):∀(N:Nat) (e:Ex),e.w≤N→∀(depth:Nat) (B C A:List Int),(chk p e depth B C A).1=0 →
  Fr p e∧Sc A e∧Fit (bvE e) (ccE e) B C∧(∀v,v∈(chk p e depth B C A).2.1↔v∈bvE e∨v∈B)∧(∀n,n∈(chk p e depth B C A).2.2↔n∈ccE e∨n∈C)
 | 0,e,hw,depth,B,C,A,h=>by have:=Ex.w_eq e; omega
 | N+1,e,hw,depth,B,C,A,h=>by
  have key:∀(l:List Ex) (A:List Int) (B C:List Int),(∀x∈l,x.w≤N)→(gF p l (depth+1) B C A).1=0 →
    Frs p l∧Scs A l∧Fit (cR l) (gX l) B C∧(∀v,v∈(gF p l (depth+1) B C A).2.1↔v∈cR l∨v∈B)∧(∀n,n∈(gF p l (depth+1) B C A).2.2↔n∈gX l∨n∈C):=by
   intro l A
   induction l with
   | nil=>intro B C _ _; rw[gF,cR,gX,Frs,Scs]; exact⟨trivial,trivial,⟨by simp,by simp,by simp,by simp⟩,by simp,by simp⟩
   | cons a r ih =>
    intro B C hl h
    rw[aFi]at h
    by_cases h0:(chk p a (depth+1) B C A).1=0
    ·rw[if_pos h0]at h
     obtain⟨f1,s1,t1,b1,c1⟩:=aK6 p N a (hl a (by simp)) _ _ _ _ h0
     obtain⟨f2,s2,t2,b2,c2⟩:=ih _ _ (fun x hx=>hl x (by simp[hx])) h
     rw[aFi,if_pos h0,cR,gX,Frs,Scs]
     refine⟨⟨f1,f2⟩,⟨s1,s2⟩,t1.join t2 b1 c1,fun v=>?_,fun v=>?_⟩
     ·rw[b2 v,b1 v,List.mem_append]
      constructor
      ·rintro (h|h|h)
       ·exact .inl (.inr h)
       ·exact .inl (.inl h)
       ·exact .inr h
      ·rintro ((h|h)|h)
       ·exact .inr (.inl h)
       ·exact .inl h
       ·exact .inr (.inr h)
     ·rw[c2 v,c1 v,List.mem_append]
      constructor
      ·rintro (h|h|h)
       ·exact .inl (.inr h)
       ·exact .inl (.inl h)
       ·exact .inr h
      ·rintro ((h|h)|h)
       ·exact .inr (.inl h)
       ·exact .inl h
       ·exact .inr (.inr h)
    ·rw[if_neg h0]at h; exact absurd h h0
  rw[aE3]at h ⊢
  split at h
  ·exact absurd h (by decide:¬((5:Int)=0))
  rename_i hd
  rw[if_neg hd]
  split at h
  ·exact absurd h (by decide:¬((4:Int)=0))
  rename_i hf
  rw[if_neg hf]
  split at h
  ·exact absurd h (by decide:¬((14:Int)=0))
  rename_i B1 ha
  split at h
  ·exact absurd h (by decide:¬((14:Int)=0))
  rename_i hc0
  rw[if_neg hc0]
  split at h
  ·exact absurd h (by decide:¬((6:Int)=0))
  rename_i hn
  rw[if_neg hn]
  obtain⟨m1,m2,m3⟩:=uB ha
  obtain⟨f2,s2,t2,b2,c2⟩:=key e.ks (e.vs++A) B1 _ (fun x hx=>by have:=Ex.kid_lt hx; omega) h
  have hC1:∀v,v∈(if e.k=1 then e.n::C else C)↔v∈(if e.k=1 then [e.n] else [])∨v∈C:=by
   intro v; split<;>simp
  have t1:Fit e.vs (if e.k=1 then [e.n] else []) B C:=by
   refine⟨m3,m2,by split<;>simp,fun v hv hC=>?_⟩
   split at hv
   ·rename_i hk
    simp at hv; subst hv
    exact hc0 ⟨hk,hC⟩
   ·cases hv
  rw[sF,aDe,pJ,aAb]
  refine⟨⟨by simpa using hf,f2⟩,⟨fun hk=>?_,s2⟩,t1.join t2 m1 hC1,fun v=>?_,fun v=>?_⟩
  ·rcases Classical.em (e.n∈e.vs++A) with h1|h1
   ·exact h1
   ·exact absurd ⟨hk,h1⟩ hn
  ·rw[b2 v,m1 v,List.mem_append]
   constructor
   ·rintro (h|h|h)
    ·exact .inl (.inr h)
    ·exact .inl (.inl h)
    ·exact .inr h
   ·rintro ((h|h)|h)
    ·exact .inr (.inl h)
    ·exact .inl h
    ·exact .inr (.inr h)
  ·rw[c2 v,hC1 v,List.mem_append]
   constructor
   ·rintro (h|h|h)
    ·exact .inl (.inr h)
    ·exact .inl (.inl h)
    ·exact .inr h
   ·rintro ((h|h)|h)
    ·exact .inr (.inl h)
    ·exact .inl h
    ·exact .inr (.inr h)
structure bLo (σ:Cv) (vs:List Int) (o own:List Int) (σ':Cv):Prop where
 dom:∀v,(σ'.f v).isSome=(σ.f v).isSome
 frame:∀v,v∉vs→σ'.f v=σ.f v
 no:o.Nodup
 nown:own.Nodup
 len:o.length=vs.length
 outs:∀v∈o,v∈vs∧(σ.f v).isSome=false∨σ.nx≤v∧v<σ'.nx
 owns:∀v∈own,v∈vs∧(σ.f v).isSome=true
 all:∀v∈vs,v∈o∨v∈own
 twin:∀v∈own,∃t,σ'.f v=some t∧t∈o
 lown:own.length≤vs.length
theorem zC {σ:Cv}{v:Int}(h:(σ.f v).isSome=true)(u:Int):((σ.put v).f u).isSome=(σ.f u).isSome:=by
 unfold Cv.put
 by_cases e:v=u
 ·subst e; simp[h]
 ·simp[e]
theorem aFj:∀(vs:List Int) (σ:Cv),vs.Nodup→(∀v∈vs,v<σ.nx)→bLo σ vs (cX σ vs).1 (cX σ vs).2.1 (cX σ vs).2.2
 | [],σ,hn,hl=>by
  simp only[cX]
  exact⟨fun _=>rfl,fun _ _=>rfl,by simp,by simp,rfl,by simp,by simp,by simp,by simp,by simp⟩
 | v::r,σ,hn,hl=>by
  rw[List.nodup_cons]at hn
  cases hv:(σ.f v).isSome with
  | true =>
   have hs:gC σ v=(σ.nx,[v],σ.put v):=by unfold gC; rw[if_pos hv]
   have ih:=aFj r (σ.put v) hn.2 (fun u hu=>by have:=hl u (by simp[hu]); simp only[Cv.put]; omega)
   have hx:=rH r (σ.put v)
   simp only[cX,hs]
   generalize cX (σ.put v) r=t at *
   obtain⟨o,own,σ'⟩:=t
   simp only at ih hx ⊢
   have hp:(σ.put v).nx=σ.nx+1:=rfl
   refine⟨fun u=>by rw[ih.dom,zC hv],fun u hu=>?_,?_,?_,by simp[ih.len],fun u hu=>?_,fun u hu=>?_,fun u hu=>?_,fun u hu=>?_,by simp only[List.singleton_append,List.length_cons]; have:=ih.lown; omega⟩
   ·simp only[List.mem_cons,not_or]at hu
    rw[ih.frame u hu.2]
    simp[Cv.put,Ne.symm hu.1]
   ·rw[List.nodup_cons]
    refine⟨fun hm=>?_,ih.no⟩
    rcases ih.outs _ hm with⟨h1,_⟩|⟨h1,_⟩
    ·have:=hl _ (List.mem_cons_of_mem _ h1); omega
    ·omega
   ·rw[List.singleton_append,List.nodup_cons]
    exact⟨fun hm=>hn.1 (ih.owns _ hm).1,ih.nown⟩
   ·rcases List.mem_cons.1 hu with rfl|hu
    ·exact .inr (by omega)
    ·rcases ih.outs _ hu with⟨h1,h2⟩|⟨h1,h2⟩
     ·exact .inl ⟨by simp[h1],by rw[zC hv]at h2; exact h2⟩
     ·exact .inr (by omega)
   ·rw[List.singleton_append]at hu
    rcases List.mem_cons.1 hu with rfl|hu
    ·exact⟨by simp,hv⟩
    ·have:=ih.owns _ hu
     rw[zC hv]at this
     exact⟨by simp[this.1],this.2⟩
   ·rcases List.mem_cons.1 hu with rfl|hu
    ·exact .inr (by simp)
    ·rcases ih.all _ hu with h1|h1
     ·exact .inl (by simp[h1])
     ·exact .inr (by simp[h1])
   ·rw[List.singleton_append]at hu
    rcases List.mem_cons.1 hu with rfl|hu
    ·exact⟨σ.nx,by rw[ih.frame _ hn.1]; simp[Cv.put],by simp⟩
    ·obtain⟨t,h1,h2⟩:=ih.twin _ hu
     exact⟨t,h1,by simp[h2]⟩
  | false =>
   have hs:gC σ v=(v,[],σ):=by unfold gC; rw[if_neg (by rw[hv]; decide)]
   have ih:=aFj r σ hn.2 (fun u hu=>hl u (by simp[hu]))
   have hx:=rH r σ
   simp only[cX,hs]
   generalize cX σ r=t at *
   obtain⟨o,own,σ'⟩:=t
   simp only at ih hx ⊢
   refine⟨ih.dom,fun u hu=>ih.frame u (fun h=>hu (by simp[h])),?_,by simpa using ih.nown,by simp[ih.len],fun u hu=>?_,fun u hu=>?_,fun u hu=>?_,fun u hu=>?_,by simp only[List.nil_append,List.length_cons]; have:=ih.lown; omega⟩
   ·rw[List.nodup_cons]
    refine⟨fun hm=>?_,ih.no⟩
    rcases ih.outs _ hm with⟨h1,_⟩|⟨h1,_⟩
    ·exact hn.1 h1
    ·have:=hl v (by simp); omega
   ·rcases List.mem_cons.1 hu with rfl|hu
    ·exact .inl ⟨by simp,hv⟩
    ·rcases ih.outs _ hu with⟨h1,h2⟩|h1
     ·exact .inl ⟨by simp[h1],h2⟩
     ·exact .inr h1
   ·rw[List.nil_append]at hu
    have:=ih.owns _ hu
    exact⟨by simp[this.1],this.2⟩
   ·rcases List.mem_cons.1 hu with rfl|hu
    ·exact .inl (by simp)
    ·rcases ih.all _ hu with h1|h1
     ·exact .inl (by simp[h1])
     ·exact .inr (by simpa using h1)
   ·rw[List.nil_append]at hu
    obtain⟨t,h1,h2⟩:=ih.twin _ hu
    exact⟨t,h1,by simp[h2]⟩
theorem uF {p:Pg}{e:Ex}(h:eM p e=true)(hk:e.k=7):e.n=0∧(e.r=true→e.vs≠[])∧∀v∈e.vs,0≤v∧v<p.vr:=by
 unfold eM nR pT ofF at h
 simp[hk]at h
 refine⟨by omega,fun hr hv=>?_,fun v hv=>?_⟩
 ·simp[hr,hv]at h
 ·exact h.2 v hv
theorem aPt {q:Pg}{gv g:Tag}{vs:List Int}{r:Bool}{b:Ex}(hr:r=true→vs≠[])(hv:∀v∈vs,0≤v∧v<q.vr):eM q (.mk 7 0 gv vs r g [b])=true:=by
 simp[eM,nR,pT,ofF,Ex.k,Ex.n,Ex.vs,Ex.r,Ex.ks]
 refine⟨?_,hv⟩
 cases r with
 | false=>exact .inl rfl
 | true=>exact .inr (hr rfl)
theorem aPu {q:Pg}{v:Int}(h:0≤v∧v<q.vr):eM q (loX v)=true:=by
 simp[loX,eM,nR,pT,ofF,Ex.k,Ex.n,Ex.vs,Ex.r,Ex.ks,h]
theorem aWy {q:Pg}{v:Int}:eM q (gQ v)=true:=by
 simp[gQ,eM,nR,pT,ofF,Ex.k,Ex.n,Ex.vs,Ex.r,Ex.ks]
theorem aWz {q:Pg}{gv g:Tag}{a:Ex}{l:List Ex}:eM q (.mk 8 0 gv [] false g (a::l))=true:=by
 simp[eM,nR,pT,ofF,Ex.k,Ex.n,Ex.vs,Ex.r,Ex.ks]
 omega
theorem aRo {q:Pg}{gv g:Tag}{a:Ex}:eM q (.mk 13 0 gv [] false g [a])=true:=by
 simp[eM,nR,pT,ofF,Ex.k,Ex.n,Ex.vs,Ex.r,Ex.ks]
theorem aK7 {q:Pg}{gv g:Tag}{a b:Ex}:eM q (.mk 14 0 gv [] false g [a,b])=true:=by
 simp[eM,nR,pT,ofF,Ex.k,Ex.n,Ex.vs,Ex.r,Ex.ks]
theorem aPv (p:Pg)(k n:Int)(gv:Tag)(vs:List Int)(r:Bool)(g:Tag)(ks:List Ex):pT p (.mk k n gv vs r g ks)=(if k=1 then decide (0≤n∧n<p.cs.length) else if k=2∨k=4 then decide (0≤n∧n<p.vr) else if k=3∨k=5 then decide (0≤n∧n<p.gl) else vs.all fun v=>decide (0≤v∧v<p.vr)):=rfl
theorem bC8 (k n:Int)(gv gv':Tag)(vs:List Int)(r:Bool)(g g':Tag){ks ks':List Ex}(h:ks.length=ks'.length):nR (.mk k n gv vs r g ks)=nR (.mk k n gv' vs r g' ks'):=by
 have key:∀(a b:Nat),a=b→∀(s:Shp),(!s.is||decide ((a:Int)<s.kids)||(decide (s.kids<a)&&!s.more))=(!s.is||decide ((b:Int)<s.kids)||(decide (s.kids<b)&&!s.more)):=by
  rintro a b rfl s; rfl
 exact congrArg (fun x=>x||(!(ofF k n).num&&decide (n≠0))||(decide (k≠7)&&(decide (0<vs.length)||r))||(r&&decide (vs.length=0))) (key _ _ h (ofF k n))
theorem aDh {p q:Pg}{e:Ex}{gv g:Tag}{ks:List Ex}(h:eM p e=true)(hk:e.k≠7)(hl:ks.length=e.ks.length)(h1:q.gl=p.gl)(h2:q.cs.length=p.cs.length)(h3:p.vr≤q.vr) :
  eM q (.mk e.k e.n gv e.vs e.r g ks)=true:=by
 have hv:=pV h hk
 cases e with
 | mk k n gv0 vs r g0 ks0 =>
  replace hv:vs=[]:=hv
  subst hv
  replace hl:ks.length=ks0.length:=hl
  change eM q (.mk k n gv [] r g ks)=true
  unfold eM at h ⊢
  rw[Bool.and_eq_true,aPv]at h
  rw[Bool.and_eq_true,aPv]
  obtain⟨h0,h4⟩:=h
  refine⟨by rw[←h0]; exact congrArg _ (bC8 _ _ _ _ _ _ _ _ hl),?_⟩
  rw[h1,h2]
  by_cases c1:k=1
  ·rw[if_pos c1]at h4 ⊢; exact h4
  rw[if_neg c1]at h4 ⊢
  by_cases c2:k=2∨k=4
  ·rw[if_pos c2,decide_eq_true_eq]at h4 ⊢
   omega
  rw[if_neg c2]at h4 ⊢
  by_cases c3:k=3∨k=5
  ·rw[if_pos c3]at h4 ⊢; exact h4
  rw[if_neg c3]
  rfl
theorem bKd {p:Pg}{e:Ex}(h:eM p e=true)(hk:e.k=2∨e.k=4):0≤e.n∧e.n<p.vr:=by
 unfold eM pT at h
 rcases hk with hk|hk
 ·simp[hk]at h; exact h.2
 ·simp[hk]at h; exact h.2
theorem aW0 {p:Pg}{e:Ex}(h:eM p e=true)(hk:e.k=2):e.ks=[]:=by
 by_cases h0:e.ks=[]
 ·exact h0
 ·have h3:nR e=true:=by
   unfold nR ofF
   have h5:=List.length_pos_iff.2 h0
   simp[hk,h0,h5]
  rw[eM,h3]at h
  simp at h
theorem aAc (p:Pg):∀(N:Nat) (e:Ex),e.w≤N→Fr p e→∀v∈bvE e,0≤v∧v<p.vr
 | 0,e,hw,hf,v,hv=>by have:=Ex.w_eq e; omega
 | N+1,e,hw,hf,v,hv=>by
  rw[sF,rN]at hf
  rw[pJ,List.mem_append]at hv
  rcases hv with hv|hv
  ·by_cases hk:e.k=7
   ·exact (uF hf.1 hk).2.2 v hv
   ·rw[pV hf.1 hk]at hv; cases hv
  ·obtain⟨x,hx,hv⟩:=aFh.1 hv
   exact aAc p N x (by have:=Ex.kid_lt hx; omega) (hf.2 x hx) v hv
mutual
def stN:Ex→Nat
 | .mk k n gv vs r g ks=>(if k=4 then 1 else 0)+kD ks
def kD:List Ex→Nat
 | []=>0
 | e::es=>stN e+kD es
end
theorem aK8 (e:Ex):stN e=(if e.k=4 then 1 else 0)+kD e.ks:=by cases e; rw[stN]; rfl
theorem bC9 (v:Int):bvE (gQ v)=[]:=by simp[gQ,loX,bvE,cR]
theorem bDa (v:Int):ccE (gQ v)=[]:=by simp[gQ,loX,ccE,gX]
theorem bDb (v:Int):dp (gQ v)=1:=by simp[gQ,loX,dp,dps]
theorem bH0 (v:Int):(gQ v).w=2:=by simp[gQ,loX,Ex.w,Ex.ws]
theorem bDc (v:Int):stN (gQ v)=0:=by simp[gQ,loX,stN,kD]
theorem aPw (f:Int→Int):∀l:List Int,cR (l.map fun v=>gQ (f v))=[]
 | []=>by rw[List.map_nil,cR]
 | a::r=>by rw[List.map_cons,cR,bC9,aPw f r]; rfl
theorem aPx (f:Int→Int):∀l:List Int,gX (l.map fun v=>gQ (f v))=[]
 | []=>by rw[List.map_nil,gX]
 | a::r=>by rw[List.map_cons,gX,bDa,aPx f r]; rfl
theorem aPy (f:Int→Int):∀l:List Int,dps (l.map fun v=>gQ (f v))≤2
 | []=>by rw[List.map_nil,dps]; omega
 | a::r=>by have:=aPy f r; rw[List.map_cons,dps,bDb]; omega
theorem aW1 (f:Int→Int):∀l:List Int,Ex.ws (l.map fun v=>gQ (f v))=2*l.length
 | []=>by rw[List.map_nil,Ex.ws]; rfl
 | a::r=>by rw[List.map_cons,Ex.ws,bH0,aW1 f r,List.length_cons]; omega
theorem aPz (f:Int→Int):∀l:List Int,kD (l.map fun v=>gQ (f v))=0
 | []=>by rw[List.map_nil,kD]
 | a::r=>by rw[List.map_cons,kD,bDc,aPz f r]
theorem aP0 (σ:Cv)(own:List Int)(b:Ex):bvE (pO σ own b)=own++bvE b:=by
 unfold pO
 split
 ·rename_i h; rw[h]; rfl
 ·rw[bvE,cR,bvE,cR,cR,aPw (fun v=>(σ.f v).getD 0)]; simp
theorem bDd (σ:Cv)(own:List Int)(b:Ex):ccE (pO σ own b)=ccE b:=by
 unfold pO
 split
 ·rfl
 ·rw[ccE,gX,ccE,gX,gX,aPx (fun v=>(σ.f v).getD 0)]; simp
theorem bDe (σ:Cv)(own:List Int)(b:Ex):dp (pO σ own b)≤dp b+2:=by
 unfold pO
 split
 ·omega
 ·have:=aPy (fun v=>(σ.f v).getD 0) own
  rw[dp,dps,dp,dps,dps]; omega
theorem bH1 (σ:Cv)(own:List Int)(b:Ex):(pO σ own b).w≤b.w+3*own.length+2:=by
 unfold pO
 split
 ·omega
 ·have:=aW1 (fun v=>(σ.f v).getD 0) own
  rw[Ex.w,Ex.ws,Ex.w,Ex.ws,Ex.ws,this]; simp; omega
theorem bDf (σ:Cv)(own:List Int)(b:Ex):stN (pO σ own b)=stN b:=by
 unfold pO
 split
 ·rfl
 ·rw[stN,kD,stN,kD,kD,aPz (fun v=>(σ.f v).getD 0)]; simp
structure CvK (p:Pg) (e:Ex) (σ:Cv) (b:Ex) (σ':Cv):Prop where
 dom:∀v,(σ'.f v).isSome=(σ.f v).isSome
 frame:∀v,v∉bvE e→σ'.f v=σ.f v
 nb:(bvE b).Nodup
 sb:∀v∈bvE b,v∈bvE e∨σ.nx≤v∧v<σ'.nx
 cns:ccE b=ccE e
 sc:∀A A',Sc A e→(∀v∈A,v∈A')→Sc A' b
 fr:∀q:Pg,q.gl=p.gl→q.cs.length=p.cs.length→p.vr≤q.vr→σ'.nx≤q.vr→Fr q b
 dep:dp b≤3*dp e+2
 wt:b.w≤4*e.w
 no4:stN b=0
structure bLp (p:Pg) (es:List Ex) (σ:Cv) (bs:List Ex) (σ':Cv):Prop where
 dom:∀v,(σ'.f v).isSome=(σ.f v).isSome
 frame:∀v,v∉cR es→σ'.f v=σ.f v
 nb:(cR bs).Nodup
 sb:∀v∈cR bs,v∈cR es∨σ.nx≤v∧v<σ'.nx
 cns:gX bs=gX es
 sc:∀A A',Scs A es→(∀v∈A,v∈A')→Scs A' bs
 fr:∀q:Pg,q.gl=p.gl→q.cs.length=p.cs.length→p.vr≤q.vr→σ'.nx≤q.vr→Frs q bs
 dep:dps bs≤3*dps es
 wt:Ex.ws bs≤4*Ex.ws es
 no4:kD bs=0
 len:bs.length=es.length
theorem aW2 {p:Pg}{N:Nat}(ihN:∀(e:Ex) (σ:Cv),e.w≤N→Fr p e→(bvE e).Nodup→p.vr≤σ.nx→0≤σ.nx→CvK p e σ (cvE σ e).1 (cvE σ e).2) :
  ∀(es:List Ex) (σ:Cv),(∀x∈es,x.w≤N)→Frs p es→(cR es).Nodup→p.vr≤σ.nx→0≤σ.nx→bLp p es σ (fA σ es).1 (fA σ es).2
 | [],σ,hl,hf,hn,h1,h2=>by
  rw[dS]
  exact⟨fun _=>rfl,fun _ _=>rfl,by rw[cR]; simp,by rw[cR]; simp,rfl,fun _ _ _ _=>by rw[Scs]; trivial,fun _ _ _ _ _=>by rw[Frs]; trivial,by simp only[dps]; omega,by simp only[Ex.ws]; omega,by rw[kD],rfl⟩
 | e::es,σ,hl,hf,hn,h1,h2=>by
  rw[Frs]at hf
  rw[cR]at hn
  obtain⟨n1,n2,n3⟩:=List.nodup_append.1 hn
  have hx:=vT _ e σ (Nat.le_refl _)
  have k1:=ihN e σ (hl e (by simp)) hf.1 n1 h1 h2
  have k2:=aW2 ihN es (cvE σ e).2 (fun x hx=>hl x (by simp[hx])) hf.2 n2 (by omega) (by omega)
  have r1:=aAc p _ e (Nat.le_refl _) hf.1
  have r2:∀v∈cR es,0≤v∧v<p.vr:=fun v hv=>by
   obtain⟨x,hx,hv⟩:=aFh.1 hv
   exact aAc p _ x (Nat.le_refl _) (rN.1 hf.2 x hx) v hv
  rw[dO]
  generalize hb:cvE σ e=b at *
  obtain⟨b,σ1⟩:=b
  simp only at k1 k2 hx ⊢
  have hx2:σ1.nx≤(fA σ1 es).2.nx:=by
   have key:∀(l:List Ex) (σ:Cv),σ.nx≤(fA σ l).2.nx:=by
    intro l
    induction l with
    | nil=>intro σ; rw[dS]; exact Int.le_refl _
    | cons a r ih=>intro σ; have:=(vT _ a σ (Nat.le_refl _)).1; have:=ih (cvE σ a).2; rw[dO]; simp only; omega
   exact key es σ1
  generalize hc:fA σ1 es=c at *
  obtain⟨bs,σ2⟩:=c
  simp only at k2 hx2 ⊢
  refine⟨fun v=>by rw[k2.dom,k1.dom],fun v hv=>?_,?_,fun v hv=>?_,by rw[gX,gX,k1.cns,k2.cns],fun A A' hs ha=>?_,fun q q1 q2 q3 q4=>?_,?_,?_,by rw[kD,k1.no4,k2.no4],by simp[k2.len]⟩
  ·rw[cR,List.mem_append,not_or]at hv
   rw[k2.frame v hv.2,k1.frame v hv.1]
  ·rw[cR,List.nodup_append]
   refine⟨k1.nb,k2.nb,fun u hu w hw e=>?_⟩
   subst e
   rcases k1.sb u hu with h3|h3<;>rcases k2.sb u hw with h4|h4
   ·exact n3 u h3 u h4 rfl
   ·have:=r1 u h3; omega
   ·have:=r2 u h4; omega
   ·omega
  ·rw[cR,List.mem_append]at hv
   rw[cR,List.mem_append]
   rcases hv with hv|hv
   ·rcases k1.sb v hv with h3|h3
    ·exact .inl (.inl h3)
    ·exact .inr (by omega)
   ·rcases k2.sb v hv with h3|h3
    ·exact .inl (.inr h3)
    ·exact .inr (by omega)
  ·rw[Scs]at hs ⊢
   exact⟨k1.sc _ _ hs.1 ha,k2.sc _ _ hs.2 ha⟩
  ·rw[Frs]
   exact⟨k1.fr q q1 q2 q3 (by omega),k2.fr q q1 q2 q3 q4⟩
  ·have:=k1.dep; have:=k2.dep
   rw[dps,dps]; omega
  ·have:=k1.wt; have:=k2.wt
   rw[Ex.ws,Ex.ws]; omega
theorem aW3 (p:Pg):∀(N:Nat) (e:Ex) (σ:Cv),e.w≤N→Fr p e→(bvE e).Nodup→p.vr≤σ.nx→0≤σ.nx→CvK p e σ (cvE σ e).1 (cvE σ e).2
 | 0,e,σ,hw,hf,hn,h1,h2=>by have:=Ex.w_eq e; omega
 | N+1,e,σ,hw,hf,hn,h1,h2=>by
  have hwe:=Ex.w_eq e
  have hrng:=aAc p _ e (Nat.le_refl _) hf
  have hf0:=hf
  rw[sF]at hf
  rw[pJ]at hn
  obtain⟨n1,n2,n3⟩:=List.nodup_append.1 hn
  by_cases h7:e.k=7
  ·obtain⟨x,hks⟩:=kX (vX hf.1 (.inl h7))
   have hxw:=Ex.kid_lt (d:=e) (x:=x) (by rw[hks]; simp)
   have hxf:Fr p x:=rN.1 hf.2 x (by rw[hks]; simp)
   obtain⟨l1,l2,l3⟩:=uF hf.1 h7
   have hbe:bvE e=e.vs++bvE x:=by rw[pJ,hks,cR,cR,List.append_nil]
   have hce:ccE e=ccE x:=by rw[aAb,hks,gX,gX,if_neg (by omega)]; simp
   have hde:dp e=dp x+1:=by rw[aDf,hks,dps,dps]; omega
   have hwx:e.w=e.vs.length+x.w+1:=by rw[hwe,hks,Ex.ws,Ex.ws]; omega
   have hbx:cR e.ks=bvE x:=by rw[hks,cR,cR,List.append_nil]
   rw[hbx]at n2 n3
   have v1:=aFj e.vs σ n1 (fun v hv=>by have:=l3 v hv; omega)
   have hx1:=rH e.vs σ
   rw[mU,if_pos h7,hks,dO,dS]
   simp only[List.headD_cons]
   generalize hv:cX σ e.vs=v at *
   obtain⟨o,own,σ1⟩:=v
   simp only at v1 hx1 ⊢
   have k1:=aW3 p N x σ1 (by omega) hxf n2 (by omega) (by omega)
   have hx2:=vT _ x σ1 (Nat.le_refl _)
   generalize hb:cvE σ1 x=b at *
   obtain⟨b,σ2⟩:=b
   simp only at k1 hx2 ⊢
   have hxr:=aAc p _ x (Nat.le_refl _) hxf
   have htw:∀v∈own,(σ2.f v).getD 0∈o:=fun v hv=>by
    obtain⟨t,h3,h4⟩:=v1.twin v hv
    have hvx:v∉bvE x:=fun h=>n3 v (v1.owns v hv).1 v h rfl
    rw[k1.frame v hvx,h3]; exact h4
   have hor:∀(q:Pg),p.vr≤q.vr→σ2.nx≤q.vr→∀v∈o,0≤v∧v<q.vr:=fun q q3 q4 v hv=>by
    rcases v1.outs v hv with h|h
    ·have:=l3 v h.1; omega
    ·omega
   refine⟨fun v=>by rw[k1.dom,v1.dom],fun v hv=>?_,?_,fun v hv=>?_,?_,fun A A' hs ha=>?_,fun q q1 q2 q3 q4=>?_,?_,?_,?_⟩
   ·rw[hbe,List.mem_append,not_or]at hv
    rw[k1.frame v hv.2,v1.frame v hv.1]
   ·rw[bvE,cR,cR,List.append_nil,aP0]
    rw[List.nodup_append,List.nodup_append]
    refine⟨v1.no,⟨v1.nown,k1.nb,fun u hu w hw e=>?_⟩,fun u hu w hw e=>?_⟩
    ·subst e
     have h3:=v1.owns u hu
     rcases k1.sb u hw with h4|h4
     ·exact n3 u h3.1 u h4 rfl
     ·have:=l3 u h3.1; omega
    ·subst e
     rcases List.mem_append.1 hw with hw|hw
     ·have h3:=v1.owns u hw
      rcases v1.outs u hu with h4|h4
      ·rw[h4.2]at h3; exact absurd h3.2 (by decide)
      ·have:=l3 u h3.1; omega
     ·rcases v1.outs u hu with h4|h4
      ·rcases k1.sb u hw with h5|h5
       ·exact n3 u h4.1 u h5 rfl
       ·have:=l3 u h4.1; omega
      ·rcases k1.sb u hw with h5|h5
       ·have:=hxr u h5; omega
       ·omega
   ·rw[bvE,cR,cR,List.append_nil,aP0,List.mem_append,List.mem_append]at hv
    rw[hbe,List.mem_append]
    rcases hv with hv|hv|hv
    ·rcases v1.outs v hv with h4|h4
     ·exact .inl (.inl h4.1)
     ·exact .inr (by omega)
    ·exact .inl (.inl (v1.owns v hv).1)
    ·rcases k1.sb v hv with h5|h5
     ·exact .inl (.inr h5)
     ·exact .inr (by omega)
   ·rw[ccE,gX,gX,bDd,k1.cns,hce]; simp
   ·rw[aDe]at hs
    have hsx:Sc (e.vs++A) x:=zB.1 hs.2 x (by rw[hks]; simp)
    rw[Sc,Scs,Scs]
    refine⟨fun h=>absurd h (by decide),?_,trivial⟩
    unfold pO
    split
    ·rename_i h0
     refine k1.sc _ _ hsx fun v hv=>?_
     rcases List.mem_append.1 hv with h|h
     ·rcases v1.all v h with h3|h3
      ·simp[h3]
      ·rw[h0]at h3; cases h3
     ·simp[ha v h]
    ·rw[Sc,Scs,Sc,Scs,Scs]
     refine⟨fun h=>absurd h (by decide),⟨fun h=>absurd h (by decide),k1.sc _ _ hsx fun v hv=>?_,trivial⟩,zB.2 fun y hy=>?_⟩
     ·rcases List.mem_append.1 hv with h|h
      ·rcases v1.all v h with h3|h3
       ·simp[h3]
       ·simp[h3]
      ·simp[ha v h]
     ·obtain⟨v,hv,rfl⟩:=List.mem_map.1 hy
      have:=htw v hv
      unfold gQ loX
      rw[Sc,Scs,Scs,Sc,Scs]
      refine⟨fun h=>absurd h (by decide),⟨fun _=>by simp[this],trivial⟩,trivial⟩
   ·rw[Fr,Frs,Frs]
    refine⟨aPt (fun hr ho=>?_) (hor q q3 q4),?_,trivial⟩
    ·have:=l2 hr
     have h4:=v1.len
     rw[ho]at h4
     exact this (List.eq_nil_of_length_eq_zero h4.symm)
    ·unfold pO
     split
     ·exact k1.fr q q1 q2 q3 q4
     ·rw[Fr,Frs,Fr,Frs,Frs]
      refine⟨aWz,⟨aPt (by simp) (fun v hv=>by have:=l3 v (v1.owns v hv).1; omega),k1.fr q q1 q2 q3 q4,trivial⟩,rN.2 fun y hy=>?_⟩
      obtain⟨v,hv,rfl⟩:=List.mem_map.1 hy
      have:=hor q q3 q4 _ (htw v hv)
      rw[sF]
      refine⟨aWy,?_⟩
      unfold gQ
      rw[show (Ex.mk 12 0 .nil [] false .full [loX ((σ2.f v).getD 0)]).ks=[loX ((σ2.f v).getD 0)] from rfl,Frs,Frs,sF]
      exact⟨⟨aPu this,by unfold loX; rw[show (Ex.mk 2 ((σ2.f v).getD 0) .nil [] false .nil []).ks=[] from rfl,Frs]; trivial⟩,trivial⟩
   ·have:=bDe σ2 own b; have:=k1.dep
    rw[dp,dps,dps,hde]; omega
   ·have:=bH1 σ2 own b; have:=k1.wt; have:=v1.lown; have:=v1.len
    rw[Ex.w,Ex.ws,Ex.ws,hwx]; omega
   ·rw[stN,kD,kD,bDf,k1.no4]; simp
  by_cases h2k:e.k=2∧(σ.f e.n).isSome=true
  ·have hks:=aW0 hf.1 h2k.1
   have hvs:=pV hf.1 h7
   have hbe:bvE e=[]:=by rw[pJ,hks,hvs,cR]; rfl
   have hce:ccE e=[]:=by rw[aAb,hks,gX,if_neg (by omega)]; rfl
   have hde:dp e=0:=by rw[aDf,hks,dps]
   rw[mU,if_neg h7,if_pos h2k]
   refine⟨fun _=>rfl,fun _ _=>rfl,by rw[bvE,cR,cR,hbe]; simp,fun v hv=>by rw[bvE,cR,cR,hbe]at hv; simp at hv,by rw[ccE,gX,gX,hce]; simp,fun A A' hs ha=>?_,fun q q1 q2 q3 q4=>?_,?_,?_,?_⟩
   ·rw[Sc,Scs,Scs]
    exact⟨fun h=>absurd h (by decide),aPs _ e (Nat.le_refl _) _ _ hs (fun v hv=>by simp[ha v hv]),trivial⟩
   ·rw[Fr,Frs,Frs,sF,hks,Frs]
    refine⟨aRo,⟨?_,trivial⟩,trivial⟩
    have:=aDh (q:=q) (gv:=e.gv) (g:=e.g) (ks:=e.ks) hf.1 h7 rfl q1 q2 q3
    cases e
    exact this
   ·rw[dp,dps,dps,hde]; omega
   ·rw[Ex.w,Ex.ws,Ex.ws]; simp; omega
   ·rw[stN,kD,kD,aK8,hks,kD,if_neg (by decide),if_neg (by omega)]
  have ks1:=aW2 (aW3 p N) e.ks σ (fun x hx=>by have:=Ex.kid_lt hx; omega) hf.2 n2 h1 h2
  by_cases h4:e.k=4
  ·obtain⟨x,hks⟩:=kX (vX hf.1 (.inr h4))
   have hvs:=pV hf.1 h7
   have hnr:=bKd hf.1 (.inr h4)
   rw[mU,if_neg h7,if_neg h2k,if_pos h4]
   have hbe:bvE e=cR e.ks:=by rw[pJ,hvs]; rfl
   have hce:ccE e=gX e.ks:=by rw[aAb,if_neg (by omega)]; rfl
   have hde:dp e=dps e.ks:=aDf e
   generalize hc:fA σ e.ks=c at *
   obtain⟨bs,σ1⟩:=c
   simp only at ks1 ⊢
   have hlen:=ks1.len
   rw[hks,List.length_singleton]at hlen
   obtain⟨b,rfl⟩:=kX hlen
   simp only[List.headD_cons]
   refine⟨ks1.dom,fun v hv=>ks1.frame v (by rw[←hbe]; exact hv),?_,fun v hv=>?_,?_,fun A A' hs ha=>?_,fun q q1 q2 q3 q4=>?_,?_,?_,?_⟩
   ·have:=ks1.nb
    rw[cR,cR,List.append_nil]at this
    rw[bvE,cR,cR,cR,loX,bvE,cR]; simpa using this
   ·rw[bvE,cR,cR,cR,loX,bvE,cR]at hv
    rw[hbe]
    exact ks1.sb v (by rw[cR,cR,List.append_nil]; simpa using hv)
   ·have:=ks1.cns
    rw[gX,gX,List.append_nil]at this
    rw[ccE,gX,gX,gX,loX,ccE,gX,this,hce]; simp
   ·rw[aDe,hvs]at hs
    have h5:=ks1.sc A A' hs.2 ha
    rw[Scs]at h5
    rw[Sc,Scs,Scs,Scs,loX,Sc,Scs]
    refine⟨fun h=>absurd h (by decide),⟨fun _=>?_,trivial⟩,h5.1,trivial⟩
    have:=hs.1 (.inr h4)
    simp only[List.nil_append]at this ⊢
    exact ha _ this
   ·have h5:=ks1.fr q q1 q2 q3 q4
    rw[Frs]at h5
    rw[Fr,Frs,Frs,Frs,sF]
    exact⟨aK7,⟨aPu (by omega),by unfold loX; rw[show (Ex.mk 2 e.n .nil [] false .nil []).ks=[] from rfl,Frs]; trivial⟩,h5.1,trivial⟩
   ·have:=ks1.dep
    rw[dps,dps]at this
    rw[dp,dps,dps,dps,loX,dp,dps,hde]; omega
   ·have:=ks1.wt
    rw[Ex.ws,Ex.ws]at this
    rw[Ex.w,Ex.ws,Ex.ws,Ex.ws,loX,Ex.w,Ex.ws,hwe]; simp; omega
   ·have:=ks1.no4
    rw[kD,kD]at this
    rw[stN,kD,kD,kD,loX,stN,kD]; simp; omega
  ·have hvs:=pV hf.1 h7
   rw[mU,if_neg h7,if_neg h2k,if_neg h4]
   have hbe:bvE e=cR e.ks:=by rw[pJ,hvs]; rfl
   generalize hc:fA σ e.ks=c at *
   obtain⟨bs,σ1⟩:=c
   simp only at ks1 ⊢
   refine⟨ks1.dom,fun v hv=>ks1.frame v (by rw[←hbe]; exact hv),?_,fun v hv=>?_,?_,fun A A' hs ha=>?_,fun q q1 q2 q3 q4=>?_,?_,?_,?_⟩
   ·rw[bvE,hvs]; exact ks1.nb
   ·rw[bvE,hvs]at hv
    rw[hbe]; exact ks1.sb v hv
   ·rw[ccE,aAb,ks1.cns]
   ·rw[aDe]at hs
    rw[hvs]at hs ⊢
    rw[Sc]
    refine⟨fun h=>?_,ks1.sc _ _ hs.2 (fun v hv=>by simpa using ha v (by simpa using hv))⟩
    have:=hs.1 h
    simp only[List.nil_append]at this ⊢
    exact ha _ this
   ·rw[Fr]
    exact⟨aDh hf.1 h7 ks1.len q1 q2 q3,ks1.fr q q1 q2 q3 q4⟩
   ·have:=ks1.dep
    rw[dp,aDf]; omega
   ·have:=ks1.wt
    rw[Ex.w,hwe]; omega
   ·rw[stN,if_neg h4,ks1.no4]
theorem aFk:∀(l:List Int) (n s:Int) (i:Nat),l.Nodup→l[i]? = some n→poF l n s=s+i
 | [],n,s,i,hn,h=>by simp at h
 | a::r,n,s,i,hn,h=>by
  rw[poF]
  cases i with
  | zero=>simp at h; simp[h]
  | succ i =>
   have hn':=List.nodup_cons.1 hn
   simp only[List.getElem?_cons_succ]at h
   have hmem:n∈r:=List.mem_of_getElem? h
   rw[if_neg (by rintro rfl; exact hn'.1 hmem),aFk r n (s+1) i hn'.2 h]
   omega
theorem aK9:∀(l:List Int) (n s:Int),n∉l→poF l n s = -1
 | [],n,s,h=>rfl
 | a::r,n,s,h=>by
  rw[poF,if_neg (fun e=>h (by simp[e])),aK9 r n (s+1) (fun hm=>h (by simp[hm]))]
theorem aFl {l:List Int}{n:Int}(hn:l.Nodup):0≤poF l n 0↔n∈l:=by
 constructor
 ·intro h
  apply Classical.byContradiction
  intro hm
  rw[aK9 l n 0 hm]at h
  omega
 ·intro h
  obtain⟨i,hi⟩:=List.getElem?_of_mem h
  rw[aFk l n 0 i hn hi]; omega
structure Pos (set o:List Int) (f:Int) (σ:Cv) (k:Nat):Prop where
 dom:∀v,(σ.f v).isSome=true↔v∈set
 nx:σ.nx=f+k
 at':∀v i,i<k→o[i]? = some v→σ.f v=some (f+i)
theorem aP1 {α:Type}{o l s:List α}{k:Nat}(h:o.drop k=l++s){i:Nat}{v:α}(hv:l[i]? = some v):o[k+i]? = some v:=by
 rw[←List.getElem?_drop,h,List.getElem?_append_left (by have:=List.getElem?_eq_some_iff.1 hv; exact this.1)]
 exact hv
theorem vY {α:Type}{o l m s:List α}{k:Nat}(h:o.drop k=(l++m)++s):o.drop (k+l.length)=m++s:=by
 rw[←List.drop_drop,h,List.append_assoc,List.drop_left]
theorem bDg {o:List Int}{f v:Int}{k:Nat}(hn:o.Nodup)(h:o[k]? = some v):rvV o f v=f+k:=by
 rw[rvV,aFk o v 0 k hn h,if_neg (by omega)]; omega
theorem bH2 {o:List Int}{f v:Int}(h:v∉o):rvV o f v=v:=by
 rw[rvV,aK9 o v 0 h,if_pos (by decide)]
theorem aLa {set o:List Int}(hso:∀v,v∈set↔v∈o)(hn:o.Nodup)(l:List Int):rwn o l=l.filter fun v=>decide (v∈set):=by
 unfold rwn
 congr 1
 funext v
 rw[decide_eq_decide,aFl hn,hso]
theorem aFm {set o:List Int}{f:Int}(hso:∀v,v∈set↔v∈o)(hn:o.Nodup):∀(vs:List Int) (σ:Cv) (k:Nat) (s:List Int),Pos set o f σ k→o.drop k=vs.filter (fun v=>decide (v∈set))++s →
  (cX σ vs).1=vs.map (rvV o f)∧(cX σ vs).2.1=vs.filter (fun v=>decide (v∈set))∧Pos set o f (cX σ vs).2.2 (k+(vs.filter (fun v=>decide (v∈set))).length)
 | [],σ,k,s,h,hd=>by rw[cX]; exact⟨rfl,rfl,by simpa using h⟩
 | v::r,σ,k,s,h,hd=>by
  rw[cX]
  by_cases hv:v∈set
  ·have hs:(σ.f v).isSome=true:=(h.dom v).2 hv
   rw[gC,if_pos hs]
   rw[List.filter_cons,if_pos (by simpa using hv)]at hd ⊢
   have hk:o[k]? = some v:=by
    have:=aP1 hd (i:=0) (v:=v) rfl
    simpa using this
   have hp:Pos set o f (σ.put v) (k+1):=by
    refine⟨fun u=>by rw[zC hs]; exact h.dom u,by show σ.nx+1=_; rw[h.nx]; omega,fun u i hi hu=>?_⟩
    show (if v=u then some σ.nx else σ.f u)=_
    by_cases hik:i=k
    ·subst hik
     rw[hk]at hu
     rw[if_pos (Option.some.inj hu),h.nx]
    ·rw[if_neg ?_]
     ·exact h.at' u i (by omega) hu
     ·rintro rfl
      have hlt1:=(List.getElem?_eq_some_iff.1 hk).1
      have hlt2:=(List.getElem?_eq_some_iff.1 hu).1
      exact hik ((List.getElem?_inj hlt2 hn).1 (by rw[hu,hk]))
   have hd2:o.drop (k+1)=r.filter (fun v=>decide (v∈set))++s:=by
    have:=vY (l:=[v]) (m:=r.filter (fun v=>decide (v∈set))) (s:=s) (by simpa using hd)
    simpa using this
   obtain⟨i1,i2,i3⟩:=aFm hso hn r (σ.put v) (k+1) s hp hd2
   simp only
   refine⟨by rw[i1,List.map_cons,bDg hn hk,h.nx],by rw[i2]; rfl,?_⟩
   rw[List.length_cons,show k+((r.filter fun v=>decide (v∈set)).length+1)=k+1+(r.filter fun v=>decide (v∈set)).length by omega]
   exact i3
  ·have hs:¬(σ.f v).isSome=true:=fun e=>hv ((h.dom v).1 e)
   rw[gC,if_neg hs]
   rw[List.filter_cons,if_neg (by simpa using hv)]at hd ⊢
   obtain⟨i1,i2,i3⟩:=aFm hso hn r σ k s h hd
   simp only
   exact⟨by rw[i1,List.map_cons,bH2 (fun e=>hv ((hso v).2 e))],by rw[i2]; rfl,i3⟩
theorem aLb {p:Pg}{e:Ex}(h:eM p e=true)(hk:e.k≠7):e.vs=[]∧e.r=false:=by
 unfold eM nR at h
 simp only[Bool.and_eq_true,Bool.not_eq_true',Bool.or_eq_false_iff,Bool.and_eq_false_iff,decide_eq_false_iff_not]at h
 obtain⟨⟨⟨_,h5⟩,_⟩,_⟩:=h
 rcases h5 with h5|h5
 ·exact absurd hk (by simpa using h5)
 ·exact⟨List.length_eq_zero_iff.1 (by omega),h5.2⟩
theorem aP2 (v:Int):eqE (loX v) (loX v)=true:=by unfold loX; rw[eqE,eR]; simp
theorem aW4 (v:Int):eqE (gQ v) (gQ v)=true:=by unfold gQ; rw[eqE,eR,eR,aP2]; simp
theorem aHt (f g:Int→Int):∀l:List Int,(∀v∈l,f v=g v)→eR (l.map fun v=>gQ (f v)) (l.map fun v=>gQ (g v))=true
 | [],h=>by simp[eR]
 | a::r,h=>by
  rw[List.map_cons,List.map_cons,eR,h a (by simp),aW4,aHt f g r (fun v hv=>h v (by simp[hv]))]; rfl
theorem bGo {p:Pg}{set o:List Int}{f:Int}(hso:∀v,v∈set↔v∈o)(hn:o.Nodup):∀(N:Nat) (e:Ex) (σ:Cv) (k:Nat) (s:List Int),e.w≤N→Fr p e→Pos set o f σ k→o.drop k=mW set e++s →
  eqE (cvE σ e).1 (rfE o f e)=true∧Pos set o f (cvE σ e).2 (k+(mW set e).length)
 | 0,e,σ,k,s,hw,hf,hp,hd=>by have:=Ex.w_eq e; omega
 | N+1,e,σ,k,s,hw,hf,hp,hd=>by
  obtain⟨hfe,hfk⟩:=(sF p e).1 hf
  have hfk:=rN.1 hfk
  have key:∀(l:List Ex) (σ:Cv) (k:Nat) (s:List Int),(∀x∈l,x.w≤N)→(∀x∈l,Fr p x)→Pos set o f σ k→o.drop k=gD set l++s →
    eR (fA σ l).1 (iJ o f l)=true∧Pos set o f (fA σ l).2 (k+(gD set l).length):=by
   intro l
   induction l with
   | nil=>intro σ k s _ _ hp _; rw[dS,iJ,gD]; exact⟨rfl,by simpa using hp⟩
   | cons a r ih =>
    intro σ k s h1 h2 hp hd
    rw[gD]at hd ⊢
    obtain⟨a1,a2⟩:=bGo hso hn N a σ k (gD set r++s) (h1 a (by simp)) (h2 a (by simp)) hp (by rw[hd,List.append_assoc])
    obtain⟨b1,b2⟩:=ih (cvE σ a).2 _ s (fun x hx=>h1 x (by simp[hx])) (fun x hx=>h2 x (by simp[hx])) a2 (vY hd)
    rw[dO,iJ,eR,List.length_append,←Nat.add_assoc]
    simp only
    rw[a1,b1]
    exact⟨rfl,b2⟩
  have hkw:∀x∈e.ks,x.w≤N:=fun x hx=>by have:=Ex.kid_lt hx; omega
  rw[uE]at hd ⊢
  rw[mU,aKx]
  by_cases h7:e.k=7
  ·rw[if_pos h7,if_neg (by omega),if_neg (by omega),if_pos h7]
   obtain⟨hn0,_,_⟩:=uF hfe h7
   obtain⟨x,hx⟩:=kX (vX hfe (.inl h7))
   obtain⟨v1,v2,v3⟩:=aFm hso hn e.vs σ k (gD set e.ks++s) hp (by rw[hd,List.append_assoc])
   obtain⟨k1,k2⟩:=key e.ks (cX σ e.vs).2.2 _ s hkw hfk v3 (vY hd)
   rw[List.length_append,←Nat.add_assoc]
   refine⟨?_,k2⟩
   have hown:rwn o e.vs=(cX σ e.vs).2.1:=by rw[aLa hso hn,v2]
   have hlook:∀v∈(cX σ e.vs).2.1,(((fA (cX σ e.vs).2.2 e.ks).2.f v).getD 0)=f+poF o v 0:=fun v hv=>by
    rw[v2]at hv
    obtain⟨i,hi⟩:=List.getElem?_of_mem hv
    have hil:=(List.getElem?_eq_some_iff.1 hi).1
    have ho:=aP1 (l:=e.vs.filter fun v=>decide (v∈set)) (s:=gD set e.ks++s) (by rw[hd,List.append_assoc]) hi
    rw[k2.at' v (k+i) (by omega) ho,aFk o v 0 (k+i) hn ho]
    simp
   generalize (cX σ e.vs).2.2=σ1 at *
   generalize (cX σ e.vs).2.1=own at *
   rw[v1,h7,hn0]
   rw[eqE]
   simp only[decide_true,beq_self_eq_true,Bool.true_and]
   rw[hx]at k1 ⊢
   rw[iJ,iJ]at k1 ⊢
   rw[dO,dS,eR,eR,Bool.and_true]at k1
   try simp only at k1
   rw[dO,dS]
   simp only[List.headD_cons]
   rw[hx,dO,dS]at hlook
   try simp only at hlook
   unfold aV8 pO rbx
   rw[hown]
   by_cases h0:own=[]
   ·rw[if_pos h0,if_pos h0,eR,eR,k1]; rfl
   ·rw[if_neg h0,if_neg h0,eR,eR,Bool.and_true]
    rw[eqE]
    simp only[decide_true,beq_self_eq_true,Bool.true_and]
    rw[eR,aHt _ _ own hlook,Bool.and_true]
    rw[eqE]
    simp only[decide_true,beq_self_eq_true,Bool.true_and]
    rw[eR,eR,k1]; rfl
  rw[if_neg h7]
  obtain⟨hv0,hr0⟩:=aLb hfe h7
  rw[hv0,List.filter_nil,List.nil_append]at hd ⊢
  by_cases h2:e.k=2
  ·have hk0:=aW0 hfe h2
   rw[hk0,gD]at hd ⊢
   by_cases hs:(σ.f e.n).isSome=true
   ·rw[if_pos ⟨h2,hs⟩,if_pos ⟨h2,(aFl hn).2 ((hso _).1 ((hp.dom _).1 hs))⟩]
    refine⟨?_,by simpa using hp⟩
    rw[eqE]
    simp only[decide_true,beq_self_eq_true,Bool.true_and]
    rw[eR,eR,Bool.and_true,aE5]
    show (decide (e.k=2)&&decide (e.n=e.n)&&(e.r==false)&&decide (e.vs=[])&&eR e.ks [])=true
    rw[h2,hv0,hr0,hk0,eR]; simp
   ·rw[if_neg (fun h=>hs h.2),if_neg (by omega),if_neg (fun h=>hs ((hp.dom _).2 ((hso _).2 ((aFl hn).1 h.2)))),if_neg (by omega),if_neg h7]
    refine⟨?_,by rw[dS]; simpa using hp⟩
    rw[eqE]
    simp only[decide_true,beq_self_eq_true,Bool.true_and]
    rw[dS,iJ,eR]
  rw[if_neg (show ¬(e.k=2∧(σ.f e.n).isSome=true) from fun h=>h2 h.1),if_neg (show ¬(e.k=2∧0≤poF o e.n 0) from fun h=>h2 h.1)]
  obtain⟨k1,k2⟩:=key e.ks σ k s hkw hfk hp hd
  by_cases h4:e.k=4
  ·rw[if_pos h4,if_pos h4]
   refine⟨?_,k2⟩
   obtain⟨x,hx⟩:=kX (vX hfe (.inr h4))
   rw[hx]at k1 ⊢
   rw[iJ,iJ]at k1 ⊢
   rw[dO,dS,eR,eR,Bool.and_true]at k1
   try simp only at k1
   rw[dO,dS]
   simp only[List.headD_cons]
   rw[eqE]
   simp only[decide_true,beq_self_eq_true,Bool.true_and]
   rw[eR,eR,eR,aP2,k1]; rfl
  ·rw[if_neg h4,if_neg h4,if_neg h7]
   refine⟨?_,k2⟩
   rw[eqE]
   simp only[decide_true,beq_self_eq_true,Bool.true_and]
   exact k1
theorem aP3 (set:List Int):∀(N:Nat) (e:Ex),e.w≤N→(mW set e).Sublist (bvE e)
 | 0,e,hw=>by have:=Ex.w_eq e; omega
 | N+1,e,hw=>by
  have key:∀l:List Ex,(∀x∈l,x.w≤N)→(gD set l).Sublist (cR l):=by
   intro l
   induction l with
   | nil=>intro _; rw[gD,cR]; exact .slnil
   | cons a r ih =>
    intro hl
    rw[gD,cR]
    exact (aP3 set N a (hl a (by simp))).append (ih fun x hx=>hl x (by simp[hx]))
  rw[uE,pJ]
  exact List.filter_sublist.append (key e.ks fun x hx=>by have:=Ex.kid_lt hx; omega)
theorem aP4 (set:List Int):∀(N:Nat) (e:Ex),e.w≤N→∀v,v∈mW set e↔v∈set∧v∈bvE e
 | 0,e,hw=>by have:=Ex.w_eq e; omega
 | N+1,e,hw=>by
  have key:∀l:List Ex,(∀x∈l,x.w≤N)→∀v,v∈gD set l↔v∈set∧v∈cR l:=by
   intro l
   induction l with
   | nil=>intro _ v; rw[gD,cR]; simp
   | cons a r ih =>
    intro hl v
    rw[gD,cR,List.mem_append,List.mem_append,aP4 set N a (hl a (by simp)) v,ih (fun x hx=>hl x (by simp[hx])) v,and_or_left]
  intro v
  rw[uE,pJ,List.mem_append,List.mem_append,key e.ks (fun x hx=>by have:=Ex.kid_lt hx; omega) v,List.mem_filter]
  simp only[decide_eq_true_eq]
  constructor
  ·rintro (⟨h1,h2⟩|⟨h1,h2⟩)
   ·exact⟨h2,.inl h1⟩
   ·exact⟨h1,.inr h2⟩
  ·rintro⟨h1,h2|h2⟩
   ·exact .inl ⟨h2,h1⟩
   ·exact .inr ⟨h1,h2⟩
theorem aW5:∀(N:Nat) (e:Ex),e.w≤N→∀v∈kJ aKo e,v∈bvE e
 | 0,e,hw=>by have:=Ex.w_eq e; omega
 | N+1,e,hw=>by
  have key:∀l:List Ex,(∀x∈l,x.w≤N)→∀v∈gB aKo l,v∈cR l:=by
   intro l
   induction l with
   | nil=>intro _ v hv; rw[gB]at hv; simp at hv
   | cons a r ih =>
    intro hl v hv
    rw[gB,List.mem_append]at hv
    rw[cR,List.mem_append]
    rcases hv with hv|hv
    ·exact .inl (aW5 N a (hl a (by simp)) v hv)
    ·exact .inr (ih (fun x hx=>hl x (by simp[hx])) v hv)
  intro v hv
  rw[mE,List.mem_append]at hv
  rw[pJ,List.mem_append]
  rcases hv with hv|hv
  ·left
   unfold aKo at hv
   split at hv
   ·exact hv
   ·simp at hv
  ·exact .inr (key e.ks (fun x hx=>by have:=Ex.kid_lt hx; omega) v hv)
theorem bDh {p:Pg}{set:List Int}(hc:lH p=0)(hr:oP set (kJ kC p.b)):aKz (cvA set p) (rfP set p)=true:=by
 obtain⟨⟨g1,g2,g3⟩,hcs,h0⟩:=rM hc
 obtain⟨f1,s1,t1,_,_⟩:=aK6 p _ p.b (Nat.le_refl _) _ _ _ _ h0
 have hcl:=(aRm hc).2
 have hso:∀v,v∈set↔v∈mW set p.b:=fun v=>by
  rw[aP4 set _ p.b (Nat.le_refl _) v]
  constructor
  ·intro h
   exact⟨h,aW5 _ p.b (Nat.le_refl _) v (hcl v ((hr.mem v).1 h))⟩
  ·exact fun h=>h.1
 have hnd:(mW set p.b).Nodup:=(aP3 set _ p.b (Nat.le_refl _)).nodup t1.nb
 obtain⟨h1,h2⟩:=bGo (p:=p) (f:=p.vr) hso hnd _ p.b ⟨fun v=>if v∈set then some 0 else none,p.vr⟩ 0 [] (Nat.le_refl _) f1 ⟨fun v=>by simp only; split<;>simp_all,by simp,fun v i hi=>by omega⟩ (by simp)
 have h3:=h2.nx
 show (decide (p.gl=p.gl)&&decide ((cvE ⟨fun v=>if v∈set then some 0 else none,p.vr⟩ p.b).2.nx=p.vr+((mW set p.b).length:Int))&&eG p.cs p.cs&&eqE (cvE ⟨fun v=>if v∈set then some 0 else none,p.vr⟩ p.b).1 (rfE (mW set p.b) p.vr p.b))=true
 rw[h1,h3,sZ]
 simp
theorem aDi:∀(k:Nat) (s:List UInt8) (i:Int),∀c∈eF (cV k s i).1,0≤c∧c≤1114111
 | 0,s,i,c,h=>by simp[cV,eF]at h
 | k+1,s,i,c,h=>by
  rw[cV]at h
  split at h
  ·simp[eF]at h
  ·split at h
   ·simp[eF]at h
   ·rename_i h1 h2
    have hb:bad s=false:=by simpa using h2
    simp only[eF,List.map_cons,List.mem_cons]at h
    rcases h with rfl|h
    ·have:=pS hb
     have:=(mF _).1 this.1; omega
    ·exact aDi k _ _ c h
theorem aFn (t:Tag)(l:List Int)(hc:∀c∈l,0≤c∧c≤1114111)(hl:l.length≤2000000)(x0 x1:TV):∀(k i:Nat) (o:List UInt8) (x5 x6 x7 x8 x9 x10 x11:TV),i+k=l.length→o.length≤2+16*i →
  ∃o' y5 y6 y7 y8 y9 y10 y11,o'.length≤2+16*l.length∧lp' (lim K) t128L0 [x0,x1,.iv (.sl t (TM.one (.int .i64) l)),.iv (.str o),.iv (.int .i64 (i:Int)),x5,x6,x7,x8,x9,x10,x11] []=.ret (.exit 0,[x0,x1,.iv (.sl t (TM.one (.int .i64) l)),.iv (.str o'),.iv (.int .i64 l.length),y5,y6,y7,y8,y9,y10,y11],[])
 | 0,i,o,x5,x6,x7,x8,x9,x10,x11,h,ho=>by
  obtain rfl:i=l.length:=by omega
  refine⟨o,x5,x6,.iv (.bool false),x8,x9,x10,x11,ho,aH K _ _ t128L0.eq_1 ?_⟩
  simp (config := { maxSteps := 4000000 }) (disch:=omega) only[go_sem]
 | k+1,i,o,x5,x6,x7,x8,x9,x10,x11,h,ho=>by
  have hla:i<l.length:=by omega
  have hix:=gZ (f:=IV.int .i64) (t:=t) (l:=l) (i:=(i:Int)) (by omega)
  rw[Int.toNat_natCast]at hix
  have hcx:=hc _ (bP (i:=i) hla)
  generalize hx:l.getD i default=c at *
  obtain⟨s,e,hs,h126⟩:=aO8 c
  have step:∀(o2:List UInt8) (z8 z9 z10 z11:TV),o2.length≤2+16*(i+1)→∃o' y5 y6 y7 y8 y9 y10 y11,o'.length≤2+16*l.length∧lp' (lim K) t128L0 [x0,x1,.iv (.sl t (TM.one (.int .i64) l)),.iv (.str o2),.iv (.int .i64 ((i:Int)+1)),.iv (.int .i64 c),.iv (.str s),.iv (.bool true),z8,z9,z10,z11] []=.ret (.exit 0,[x0,x1,.iv (.sl t (TM.one (.int .i64) l)),.iv (.str o'),.iv (.int .i64 l.length),y5,y6,y7,y8,y9,y10,y11],[]):=fun o2 z8 z9 z10 z11 h2=>by
   have:=aFn t l hc hl x0 x1 k (i+1) o2 (.iv (.int .i64 c)) (.iv (.str s)) (.iv (.bool true)) z8 z9 z10 z11 (by omega) h2
   rw[show ((i+1:Nat):Int)=(i:Int)+1 by omega]at this
   exact this
  by_cases h1:c=34
  ·obtain⟨o',y5,y6,y7,y8,y9,y10,y11,hl',ih⟩:=step (o++[92]++s) (.iv (.bool true)) x9 x10 x11 (by simp; omega)
   refine⟨o',y5,y6,y7,y8,y9,y10,y11,hl',aH K _ _ t128L0.eq_1 ?_⟩
   subst h1
   simp (config := { maxSteps := 4000000 }) (disch:=omega) only[go_sem,hix,aC h126,aF,List.length_append,List.length_cons,List.length_nil]
   exact congrArg er ih
  by_cases h2:c=92
  ·obtain⟨o',y5,y6,y7,y8,y9,y10,y11,hl',ih⟩:=step (o++[92]++s) (.iv (.bool true)) x9 x10 x11 (by simp; omega)
   refine⟨o',y5,y6,y7,y8,y9,y10,y11,hl',aH K _ _ t128L0.eq_1 ?_⟩
   subst h2
   simp (config := { maxSteps := 4000000 }) (disch:=omega) only[go_sem,hix,aC h126,aF,List.length_append,List.length_cons,List.length_nil]
   exact congrArg er ih
  by_cases h3:c=10
  ·obtain⟨o',y5,y6,y7,y8,y9,y10,y11,hl',ih⟩:=step (o++[92,110]) (.iv (.bool false)) (.iv (.bool true)) x10 x11 (by simp; omega)
   refine⟨o',y5,y6,y7,y8,y9,y10,y11,hl',aH K _ _ t128L0.eq_1 ?_⟩
   subst h3
   simp (config := { maxSteps := 4000000 }) (disch:=omega) only[go_sem,hix,aC h126,aF,List.length_append,List.length_cons,List.length_nil]
   exact congrArg er ih
  by_cases h4:c=9
  ·obtain⟨o',y5,y6,y7,y8,y9,y10,y11,hl',ih⟩:=step (o++[92,116]) (.iv (.bool false)) (.iv (.bool false)) (.iv (.bool true)) x11 (by simp; omega)
   refine⟨o',y5,y6,y7,y8,y9,y10,y11,hl',aH K _ _ t128L0.eq_1 ?_⟩
   subst h4
   simp (config := { maxSteps := 4000000 }) (disch:=omega) only[go_sem,hix,aC h126,aF,List.length_append,List.length_cons,List.length_nil]
   exact congrArg er ih
  by_cases h5:c<32
  ·obtain⟨s2,hs2,h159⟩:=zA c (by omega)
   obtain⟨o',y5,y6,y7,y8,y9,y10,y11,hl',ih⟩:=step (o++[92,120]++s2++[59]) (.iv (.bool false)) (.iv (.bool false)) (.iv (.bool false)) (.iv (.bool true)) (by simp; omega)
   refine⟨o',y5,y6,y7,y8,y9,y10,y11,hl',aH K _ _ t128L0.eq_1 ?_⟩
   simp (config := { maxSteps := 4000000 }) (disch:=omega) only[go_sem,hix,aC h126,aC h159,aF,h1,h2,h3,h4,h5,List.length_append,List.length_cons,List.length_nil]
   exact congrArg er ih
  by_cases h6:c=127
  ·obtain⟨s2,hs2,h159⟩:=zA c (by omega)
   obtain⟨o',y5,y6,y7,y8,y9,y10,y11,hl',ih⟩:=step (o++[92,120]++s2++[59]) (.iv (.bool false)) (.iv (.bool false)) (.iv (.bool false)) (.iv (.bool true)) (by simp; omega)
   refine⟨o',y5,y6,y7,y8,y9,y10,y11,hl',aH K _ _ t128L0.eq_1 ?_⟩
   subst h6
   simp (config := { maxSteps := 4000000 }) (disch:=omega) only[go_sem,hix,aC h126,aC h159,aF,List.length_append,List.length_cons,List.length_nil]
   exact congrArg er ih
  ·obtain⟨o',y5,y6,y7,y8,y9,y10,y11,hl',ih⟩:=step (o++s) (.iv (.bool false)) (.iv (.bool false)) (.iv (.bool false)) (.iv (.bool false)) (by simp; omega)
   refine⟨o',y5,y6,y7,y8,y9,y10,y11,hl',aH K _ _ t128L0.eq_1 ?_⟩
   simp (config := { maxSteps := 4000000 }) (disch:=omega) only[go_sem,hix,aC h126,aF,h1,h2,h3,h4,h5,h6,List.length_append,List.length_cons,List.length_nil]
   exact congrArg er ih
theorem bDi (s:List UInt8)(hl:s.length≤1048576):Txt (3+16*s.length) 128 [.iv (.str s)]:=by
 have h51:=aVy s (by omega)
 have hcl:=sW s.length s 0
 have hcn:=aDi s.length s 0
 generalize cV s.length s 0=q at *
 obtain⟨q1,q2⟩:=q
 have hq:(eF q1).length=q1.length:=by simp[eF]
 cases q2 with
 | none =>
  simp only at h51 hcl hcn
  rw[show TM.one i64 (eF q1)=TM.one (IV.int .i64) (eF q1) from rfl]at h51
  obtain⟨o',y5,y6,y7,y8,y9,y10,y11,hl',ih⟩:=aFn (eP q1) (eF q1) hcn (by omega) (.iv (.str s)) (.iv (.str [])) (eF q1).length 0 [34] u_ u_ u_ u_ u_ u_ u_ (by omega) (by simp)
  rw[show ((0:Nat):Int)=0 from rfl]at ih
  refine⟨o'++[34],by simp; omega,aV t128 rfl rfl ?_⟩
  simp (config := { maxSteps := 4000000 }) (disch:=omega) only[t128,go_sem,aC h51]
  rw[ih]
  simp (config := { maxSteps := 4000000 }) (disch:=omega) only[go_sem,List.length_append,List.length_cons,List.length_nil]
 | some p =>
  simp only at h51
  obtain⟨o',y5,y6,y7,y8,y9,y10,y11,hl',ih⟩:=aFn .nil [] (by simp) (by simp) (.iv (.str s)) (.iv (.str [])) 0 0 [34] u_ u_ u_ u_ u_ u_ u_ (by simp) (by simp)
  rw[show ((0:Nat):Int)=0 from rfl]at ih
  simp only[List.length_nil]at hl'
  refine⟨o'++[34],by simp; omega,aV t128 rfl rfl ?_⟩
  simp (config := { maxSteps := 4000000 }) (disch:=omega) only[t128,go_sem,aC h51]
  rw[show TM.one (.int .i64) []=[] from rfl]at ih
  rw[ih]
  simp (config := { maxSteps := 4000000 }) (disch:=omega) only[go_sem,List.length_append,List.length_cons,List.length_nil]
theorem aP5 {l:List Dt}{i:Nat}(h:i<l.length):Dt.ws (l.drop i)=(l.getD i default).w+Dt.ws (l.drop (i+1)):=by
 rw[bM h,Dt.ws]
theorem aFo (g:Tag)(l:List Dt)(B:Nat)(hB:B≤1099511627776)(hw:l.length≤1048576)(H:∀x∈l,Txt (42*x.w-2) 94 [agD x,.iv (.bool false)])(x2:TV):∀(k i:Nat) (s:List UInt8) (x5 x6:TV),i+k=l.length→s.length+42*Dt.ws (l.drop i)≤B →
  ∃s' y5 y6,s'.length≤B∧lp' (lim K) t129L0 [.iv (.sl g (bQ l)),.iv (.bool false),x2,.iv (.str s),.iv (.int .i64 (i:Int)),x5,x6] []=.ret (.exit 0,[.iv (.sl g (bQ l)),.iv (.bool false),x2,.iv (.str s'),.iv (.int .i64 l.length),y5,y6],[])
 | 0,i,s,x5,x6,h,hs=>by
  obtain rfl:i=l.length:=by omega
  refine⟨s,.iv (.bool false),x6,by omega,aH K _ _ t129L0.eq_1 ?_⟩
  simp (disch:=omega) only[go_sem,aI]
 | k+1,i,s,x5,x6,h,hs=>by
  have hla:i<l.length:=by omega
  have hix:=ixD (g:=g) (ks:=l) (i:=(i:Int)) (by omega)
  rw[Int.toNat_natCast]at hix
  have hm:=H _ (bP (i:=i) hla)
  rw[aP5 hla]at hs
  generalize hx:l.getD i default=x at *
  have hwx:=Dt.w_eq x
  obtain⟨s2,hl2,h94⟩:=hm
  by_cases h0:i=0
  ·subst h0
   rw[show 0+1=1 from rfl]at hs
   obtain⟨s',y5,y6,hl,ih⟩:=aFo g l B hB hw H x2 k 1 (s++s2) (.iv (.bool true)) (.iv (.bool false)) (by omega) (by rw[List.length_append]; omega)
   rw[show ((1:Nat):Int)=1 from rfl]at ih
   rw[show ((0:Nat):Int)=0 from rfl]at hix ⊢
   refine⟨s',y5,y6,hl,aH K _ _ t129L0.eq_1 ?_⟩
   simp (disch:=omega) only[go_sem,aI,hix,eZ,aC h94,aF]
   exact congrArg er ih
  ·obtain⟨s',y5,y6,hl,ih⟩:=aFo g l B hB hw H x2 k (i+1) (s++[32]++s2) (.iv (.bool true)) (.iv (.bool true)) (by omega) (by rw[List.length_append,List.length_append,List.length_singleton]; omega)
   rw[show ((i+1:Nat):Int)=(i:Int)+1 by omega]at ih
   refine⟨s',y5,y6,hl,aH K _ _ t129L0.eq_1 ?_⟩
   have hi:(0:Int)<(i:Int):=by omega
   simp (disch:=omega) only[go_sem,aI,hix,eZ,aC h94,aF,hi,List.length_append,List.length_cons,List.length_nil]
   exact congrArg er ih
theorem aP6 (g:Tag)(l:List Dt)(hw:Dt.ws l≤1048576)(H:∀x∈l,Txt (42*x.w-2) 94 [agD x,.iv (.bool false)]):Txt (42*Dt.ws l) 129 [.iv (.sl g (bQ l)),.iv (.bool false)]:=by
 have hl:=Dt.ws_len l
 obtain⟨s',y5,y6,hl',ih⟩:=aFo g l (42*Dt.ws l) (by omega) (by omega) H (.iv (.str [])) l.length 0 [] u_ u_ (by omega) (by simp)
 rw[show ((0:Nat):Int)=0 from rfl]at ih
 refine⟨s',hl',aV t129 rfl rfl ?_⟩
 simp (disch:=omega) only[t129,go_sem]
 rw[ih]
 simp (disch:=omega) only[go_sem]
theorem aLc (d:Dt)(hw:d.t.length≤1048576)(x0 x1 x3 x4 x7 x8 x9 x10 x11 x12 x13 x14 x15 x16 x17 x18 x19 x20 x23 x24 x25:TV):∀(k i:Nat) (s:List UInt8) (x21 x22:TV),i+k=d.t.length→s.length≤9*i →
  ∃s' y21 y22,s'.length≤9*d.t.length∧lp' (lim K) t94L0 [x0,x1,lbD d,x3,x4,.iv (.str s),.iv (.int .i64 (i:Int)),x7,x8,x9,x10,x11,x12,x13,x14,x15,x16,x17,x18,x19,x20,x21,x22,x23,x24,x25] []=.ret (.exit 1,[x0,x1,lbD d,x3,x4,.iv (.str s'),.iv (.int .i64 d.t.length),x7,x8,x9,x10,x11,x12,x13,x14,x15,x16,x17,x18,x19,x20,y21,y22,x23,x24,x25],[])
 | 0,i,s,x21,x22,h,hs=>by
  obtain rfl:i=d.t.length:=by omega
  refine⟨s,.iv (.bool false),x22,by omega,aH K _ _ t94L0.eq_1 ?_⟩
  simp (disch:=omega) only[go_sem]
 | k+1,i,s,x21,x22,h,hs=>by
  have hla:i<d.t.length:=by omega
  have hix:=qZ (s:=d.t) (i:=(i:Int)) (kd:=.i64) (by omega)
  rw[Int.toNat_natCast]at hix
  generalize hx:d.t.getD i 0=b at *
  have hbl:=b.toNat_lt
  obtain⟨s2,hl2,h130⟩:=bCy b.toNat (by omega)
  by_cases h0:i=0
  ·subst h0
   obtain⟨s',y21,y22,hl,ih⟩:=aLc d hw x0 x1 x3 x4 x7 x8 x9 x10 x11 x12 x13 x14 x15 x16 x17 x18 x19 x20 x23 x24 x25 k 1 (s++s2) (.iv (.bool true)) (.iv (.bool false)) (by omega) (by rw[List.length_append]; omega)
   rw[show ((1:Nat):Int)=1 from rfl]at ih
   rw[show ((0:Nat):Int)=0 from rfl]at hix ⊢
   refine⟨s',y21,y22,hl,aH K _ _ t94L0.eq_1 ?_⟩
   simp (disch:=omega) only[go_sem,hix,aC h130,aF]
   exact congrArg er ih
  ·obtain⟨s',y21,y22,hl,ih⟩:=aLc d hw x0 x1 x3 x4 x7 x8 x9 x10 x11 x12 x13 x14 x15 x16 x17 x18 x19 x20 x23 x24 x25 k (i+1) (s++[32]++s2) (.iv (.bool true)) (.iv (.bool true)) (by omega) (by rw[List.length_append,List.length_append,List.length_singleton]; omega)
   rw[show ((i+1:Nat):Int)=(i:Int)+1 by omega]at ih
   refine⟨s',y21,y22,hl,aH K _ _ t94L0.eq_1 ?_⟩
   have hi:(0:Int)<(i:Int):=by omega
   simp (disch:=omega) only[go_sem,hix,aC h130,aF,hi,List.length_append,List.length_cons,List.length_nil]
   exact congrArg er ih
theorem aRp {d:Dt}(h:d.pr=true):1≤(cF d.w d).1.length:=by
 have hw:=Dt.w_eq d
 obtain⟨m,hm⟩:∃m,d.w=m+1:=⟨d.t.length+Dt.ws d.ks,by omega⟩
 rw[hm,cF,if_pos h,List.length_cons]; omega
theorem aW6:∀N,N≤1048576→∀d:Dt,d.w≤N→fN d=true→Txt (42*d.w-2) 94 [agD d,.iv (.bool false)]
 | 0,hN=>fun d hw hm=>by have:=Dt.w_eq d; omega
 | N+1,hN=>fun d hw hm=>by
  have hwd:=Dt.w_eq d
  have ih:=aW6 N (by omega)
  by_cases hp:d.pr=true
  ·have hk:d.k=6:=by simp only[Dt.pr,Bool.and_eq_true,decide_eq_true_eq]at hp; exact hp.1
   have c50:=aE6 d.w d (Nat.le_refl _) (by omega)
   have hmi:=vV d.w d (Nat.le_refl _)
   have hsm:=aDb d.w d (Nat.le_refl _)
   have h1:=aRp hp
   rw[hm]at hmi
   generalize cF d.w d=q at *
   obtain⟨l,x⟩:=q
   simp only at c50 hsm h1 hmi
   unfold agD at c50
   rw[hk]at c50
   have hmi:=(Bool.and_eq_true _ _).mp hmi.symm
   have hma:=List.all_eq_true.1 hmi.1
   obtain⟨s1,hl1,h129⟩:=aP6 (eP l) l (by omega) (fun y hy=>ih y (by have:=Dt.ws_mem hy; omega) (hma y hy))
   by_cases hx:x.k=0
   ·refine⟨[40]++s1++[41],by simp; omega,aV t94 rfl rfl ?_⟩
    simp (disch:=omega) only[t94,go_sem,hk,aC c50,aC h129,hx,List.length_append,List.length_cons,List.length_nil]
   ·obtain⟨s2,hl2,h94⟩:=ih x (by omega) hmi.2
    refine⟨[40]++s1++[32,46,32]++s2++[41],by simp; omega,aV t94 rfl rfl ?_⟩
    simp (disch:=omega) only[t94,go_sem,hk,aC c50,aC h129,aC h94,hx,List.length_append,List.length_cons,List.length_nil]
  rw[tZ,if_neg (by unfold Dt.pr at hp; simpa using hp)]at hm
  by_cases h7:d.k=7
  ·rw[if_pos h7]at hm
   have hma:=List.all_eq_true.1 hm
   obtain⟨s1,hl1,h129⟩:=aP6 d.g d.ks (by omega) (fun y hy=>ih y (by have:=Dt.kid_lt hy; omega) (hma y hy))
   have:=Dt.ws_len d.ks
   refine⟨[35,40]++s1++[41],by simp; omega,aV t94 rfl rfl ?_⟩
   simp (disch:=omega) only[t94,go_sem,h7,aC h129,List.length_append,List.length_cons,List.length_nil]
  rw[if_neg h7]at hm
  have hb:=((Bool.and_eq_true _ _).mp hm).2
  unfold zT at hb
  by_cases hs:d.k=0∨d.k=8∨d.k=9∨d.k=10
  ·rcases hs with h|h|h|h
   ·refine⟨[40,41],by simp; omega,aV t94 rfl rfl ?_⟩
    simp (disch:=omega) only[t94,go_sem,h]
   ·obtain⟨s',y21,y22,hl,l1⟩:=aLc d (by omega) (agD d) (.iv (.bool false)) (.iv (.str [])) u_ u_ u_ u_ (.iv (.int .i64 8)) (.iv (.bool false)) (.iv (.bool false)) u_ (.iv (.bool false)) (.iv (.bool false)) u_ (.iv (.bool false)) u_ (.iv (.bool false)) (.iv (.bool true)) u_ u_ u_ d.t.length 0 [] u_ u_ (by omega) (by simp)
    unfold lbD at l1
    rw[show ((0:Nat):Int)=0 from rfl,h]at l1
    refine⟨[35,117,56,40]++s'++[41],by simp; omega,aV t94 rfl rfl ?_⟩
    simp (disch:=omega) only[t94,go_sem,h]
    rw[l1]
    simp (disch:=omega) only[go_sem,List.length_append,List.length_cons,List.length_nil]
   ·refine⟨[35,33,101,111,102],by simp; omega,aV t94 rfl rfl ?_⟩
    simp (disch:=omega) only[t94,go_sem,h]
   ·refine⟨[35,33,110,111,110,101],by simp; omega,aV t94 rfl rfl ?_⟩
    simp (disch:=omega) only[t94,go_sem,h]
  rw[if_neg hs]at hb
  by_cases h1:d.k=1
  ·by_cases m1:d.n=1
   ·refine⟨[35,116],by simp; omega,aV t94 rfl rfl ?_⟩
    simp (disch:=omega) only[t94,go_sem,h1,m1]
   ·refine⟨[35,102],by simp; omega,aV t94 rfl rfl ?_⟩
    simp (disch:=omega) only[t94,go_sem,h1,m1]
  by_cases h2:d.k=2
  ·refine⟨d.t,by omega,aV t94 rfl rfl ?_⟩
   simp (disch:=omega) only[t94,go_sem,h2]
  by_cases h5:d.k=5
  ·refine⟨d.t,by omega,aV t94 rfl rfl ?_⟩
   simp (disch:=omega) only[t94,go_sem,h5]
  rw[if_neg h1,if_neg h2]at hb
  by_cases h3:d.k=3
  ·rw[if_pos h3]at hb
   obtain⟨s1,hl1,h127⟩:=bCz d.n hb
   refine⟨[35,92]++s1,by simp; omega,aV t94 rfl rfl ?_⟩
   simp (disch:=omega) only[t94,go_sem,h3,aC h127,List.length_append,List.length_cons,List.length_nil]
  by_cases h4:d.k=4
  ·obtain⟨s1,hl1,h128⟩:=bDi d.t (by omega)
   refine⟨s1,by omega,aV t94 rfl rfl ?_⟩
   simp (disch:=omega) only[t94,go_sem,h4,aC h128]
  ·rw[if_neg h3,if_neg h4,if_neg h5]at hb
   exact absurd hb (by decide)
theorem bH3 (d:Dt)(hd:d.w≤1048576):Txt (42*d.w) 63 [agD d,.iv (.bool false)]:=by
 have h18:=aK4 1048576 (by omega) d hd
 cases hm:fN d with
 | false =>
  rw[hm]at h18
  refine⟨[],by simp,aV t63 rfl rfl ?_⟩
  simp (disch:=omega) only[t63,go_sem,aC h18]
 | true =>
  rw[hm]at h18
  obtain⟨s,hl,h94⟩:=aW6 1048576 (by omega) d hd hm
  refine⟨s,by omega,aV t63 rfl rfl ?_⟩
  simp (disch:=omega) only[t63,go_sem,aC h18,aC h94]
theorem aW7 (n:Int):(aC9 n).length≤40:=by
 unfold aC9
 split
 ·have:∀k<42,(nJ.getD k []).length≤40:=by decide
  exact this _ (by omega)
 ·simp
theorem bH4 (e:Ex)(hn:iO e.n):Txt 40 96 [.iv (.agg (aW e))]:=by
 obtain⟨s,hl,h62⟩:=vU e.n hn
 have hnl:=aW7 e.n
 have c109:=aO2 e.n []
 rw[aJ]
 by_cases h4:e.k=4
 ·exact⟨[115,101,116,33,32,118]++s,by simp; omega,aV t96 rfl rfl (by simp (disch:=omega) only[t96,go_sem,h4,aC h62,List.length_append,List.length_cons,List.length_nil])⟩
 by_cases h5:e.k=5
 ·exact⟨[115,101,116,33,32,103]++s,by simp; omega,aV t96 rfl rfl (by simp (disch:=omega) only[t96,go_sem,h5,aC h62,List.length_append,List.length_cons,List.length_nil])⟩
 by_cases h6:e.k=6
 ·exact⟨[105,102],by decide,aV t96 rfl rfl (by simp (disch:=omega) only[t96,go_sem,h6])⟩
 by_cases h8:e.k=8
 ·exact⟨[99,97,108,108],by decide,aV t96 rfl rfl (by simp (disch:=omega) only[t96,go_sem,h8])⟩
 by_cases h9:e.k=9
 ·exact⟨aC9 e.n,hnl,aV t96 rfl rfl (by simp (disch:=omega) only[t96,go_sem,h9,c109])⟩
 by_cases h10:e.k=10
 ·exact⟨[98,101,103,105,110],by decide,aV t96 rfl rfl (by simp (disch:=omega) only[t96,go_sem,h10])⟩
 by_cases h11:e.k=11
 ·by_cases n0:e.n=0
  ·exact⟨[99,97,108,108,47,99,99],by decide,aV t96 rfl rfl (by simp (disch:=omega) only[t96,go_sem,h11,n0])⟩
  by_cases n1:e.n=1
  ·exact⟨[97,112,112,108,121],by decide,aV t96 rfl rfl (by simp (disch:=omega) only[t96,go_sem,h11,n1])⟩
  ·exact⟨[99,97,108,108,45,119,105,116,104,45,118,97,108,117,101,115],by decide,aV t96 rfl rfl (by simp (disch:=omega) only[t96,go_sem,h11,n0,n1])⟩
 by_cases h12:e.k=12
 ·exact⟨[98,111,120],by decide,aV t96 rfl rfl (by simp (disch:=omega) only[t96,go_sem,h12])⟩
 by_cases h13:e.k=13
 ·exact⟨[117,110,98,111,120],by decide,aV t96 rfl rfl (by simp (disch:=omega) only[t96,go_sem,h13])⟩
 ·exact⟨[115,101,116,45,98,111,120,33],by decide,aV t96 rfl rfl (by simp (disch:=omega) only[t96,go_sem,h4,h5,h6,h8,h9,h10,h11,h12,h13])⟩
theorem aP7 (e:Ex)(hok:∀v∈e.vs,iO v)(hw:e.vs.length≤1048576)(x0 x2 x3 x6 x7 x8 x9 x10 x11 x12 x13 x17 x18 x19:TV):∀(k i:Nat) (s:List UInt8) (x14 x15 x16:TV),i+k=e.vs.length→s.length≤25*i →
  ∃s' y14 y15 y16,s'.length≤25*e.vs.length∧lp' (lim K) t64L1 [x0,lbE e,x2,x3,.iv (.str s),.iv (.int .i64 (i:Int)),x6,x7,x8,x9,x10,x11,x12,x13,x14,x15,x16,x17,x18,x19] []
   = .ret (.exit 0,[x0,lbE e,x2,x3,.iv (.str s'),.iv (.int .i64 e.vs.length),x6,x7,x8,x9,x10,x11,x12,x13,y14,y15,y16,x17,x18,x19],[])
 | 0,i,s,x14,x15,x16,h,hs=>by
  obtain rfl:i=e.vs.length:=by omega
  refine⟨s,.iv (.bool false),x15,x16,hs,aH K _ _ t64L1.eq_1 ?_⟩
  simp (disch:=omega) only[go_sem]
 | k+1,i,s,x14,x15,x16,h,hs=>by
  have hla:i<e.vs.length:=by omega
  have hix:=gZ (f:=IV.int .i64) (t:=e.gv) (l:=e.vs) (i:=(i:Int)) (by omega)
  rw[Int.toNat_natCast]at hix
  have hv:=hok _ (bP (i:=i) hla)
  generalize hx:e.vs.getD i default=v at *
  obtain⟨s2,hl2,h62⟩:=vU v hv
  have w1:IntKind.i64.wrap ((e.vs.length:Int)-1)=(e.vs.length:Int)-1:=aF (by omega)
  have step:∀(s3:List UInt8) (z15 z16:TV),s3.length≤25*(i+1)→∃s' y14 y15 y16,s'.length≤25*e.vs.length∧lp' (lim K) t64L1 [x0,lbE e,x2,x3,.iv (.str s3),.iv (.int .i64 ((i:Int)+1)),x6,x7,x8,x9,x10,x11,x12,x13,.iv (.bool true),z15,z16,x17,x18,x19] []
   = .ret (.exit 0,[x0,lbE e,x2,x3,.iv (.str s'),.iv (.int .i64 e.vs.length),x6,x7,x8,x9,x10,x11,x12,x13,y14,y15,y16,x17,x18,x19],[]):=fun s3 z15 z16 h3=>by
   have:=aP7 e hok hw x0 x2 x3 x6 x7 x8 x9 x10 x11 x12 x13 x17 x18 x19 k (i+1) s3 (.iv (.bool true)) z15 z16 (by omega) h3
   rw[show ((i+1:Nat):Int)=(i:Int)+1 by omega]at this
   exact this
  by_cases h0:(0:Int)<(i:Int)
  ·cases hr:e.r with
   | false =>
    obtain⟨s',y14,y15,y16,hl,ih⟩:=step (s++[32]++[118]++s2) (.iv (.bool true)) (.iv (.bool false)) (by simp; omega)
    refine⟨s',y14,y15,y16,hl,aH K _ _ t64L1.eq_1 ?_⟩
    simp (disch:=omega) only[go_sem,hix,aC h62,aF,h0,w1,hr,List.length_append,List.length_cons,List.length_nil]
    exact congrArg er ih
   | true =>
    by_cases hi:(i:Int)=(e.vs.length:Int)-1
    ·obtain⟨s',y14,y15,y16,hl,ih⟩:=step (s++[32]++[46,32]++[118]++s2) (.iv (.bool true)) (.iv (.bool true)) (by simp; omega)
     refine⟨s',y14,y15,y16,hl,aH K _ _ t64L1.eq_1 ?_⟩
     have hb:((i:Int)==(e.vs.length:Int)-1)=true:=by simpa using hi
     simp (disch:=omega) only[go_sem,hix,aC h62,aF,h0,w1,hr,hb,List.length_append,List.length_cons,List.length_nil]
     exact congrArg er ih
    ·obtain⟨s',y14,y15,y16,hl,ih⟩:=step (s++[32]++[118]++s2) (.iv (.bool true)) (.iv (.bool false)) (by simp; omega)
     refine⟨s',y14,y15,y16,hl,aH K _ _ t64L1.eq_1 ?_⟩
     have hb:((i:Int)==(e.vs.length:Int)-1)=false:=by simpa using hi
     simp (disch:=omega) only[go_sem,hix,aC h62,aF,h0,w1,hr,hb,List.length_append,List.length_cons,List.length_nil]
     exact congrArg er ih
  ·cases hr:e.r with
   | false =>
    obtain⟨s',y14,y15,y16,hl,ih⟩:=step (s++[118]++s2) (.iv (.bool false)) (.iv (.bool false)) (by simp; omega)
    refine⟨s',y14,y15,y16,hl,aH K _ _ t64L1.eq_1 ?_⟩
    simp (disch:=omega) only[go_sem,hix,aC h62,aF,h0,w1,hr,List.length_append,List.length_cons,List.length_nil]
    exact congrArg er ih
   | true =>
    obtain⟨s',y14,y15,y16,hl,ih⟩:=step (s++[118]++s2) (.iv (.bool false)) (.iv (.bool false)) (by simp; omega)
    refine⟨s',y14,y15,y16,hl,aH K _ _ t64L1.eq_1 ?_⟩
    by_cases hi:(i:Int)=(e.vs.length:Int)-1
    ·have hb:((i:Int)==(e.vs.length:Int)-1)=true:=by simpa using hi
     simp (disch:=omega) only[go_sem,hix,aC h62,aF,h0,w1,hr,hb,List.length_append,List.length_cons,List.length_nil]
     exact congrArg er ih
    ·have hb:((i:Int)==(e.vs.length:Int)-1)=false:=by simpa using hi
     simp (disch:=omega) only[go_sem,hix,aC h62,aF,h0,w1,hr,hb,List.length_append,List.length_cons,List.length_nil]
     exact congrArg er ih
theorem aP8 (e:Ex)(m:Nat)(hm:m≤e.ks.length)(hw:Ex.ws e.ks≤1048576)(H:∀x∈e.ks,Txt (66*x.w-1) 64 [.iv (.agg (aW x))])(x0 x2 x3 x4 x5 x9 x10 x11 x12 x13 x14 x15 x16 x17 x18:TV):∀(k i:Nat) (s:List UInt8) (x19:TV),i+k=m→s.length+66*Ex.ws (e.ks.drop i)≤66*Ex.ws e.ks+64 →
  ∃s' y19,s'.length≤66*Ex.ws e.ks+64∧lp' (lim K) t64L0 [x0,lbE e,x2,x3,x4,x5,.iv (.int .i64 (m:Int)),.iv (.str s),.iv (.int .i64 (i:Int)),x9,x10,x11,x12,x13,x14,x15,x16,x17,x18,x19] []
   = .ret (.exit 2,[x0,lbE e,x2,x3,x4,x5,.iv (.int .i64 (m:Int)),.iv (.str s'),.iv (.int .i64 (m:Int)),x9,x10,x11,x12,x13,x14,x15,x16,x17,x18,y19],[])
 | 0,i,s,x19,h,hs=>by
  obtain rfl:i=m:=by omega
  refine⟨s,.iv (.bool false),by omega,aH K _ _ t64L0.eq_1 ?_⟩
  simp (disch:=omega) only[go_sem]
 | k+1,i,s,x19,h,hs=>by
  have hla:i<e.ks.length:=by omega
  have hwl:=Ex.ws_len e.ks
  have hix:=ixE (g:=e.g) (ks:=e.ks) (i:=(i:Int)) (by omega)
  rw[Int.toNat_natCast]at hix
  have hx:=H _ (bP (i:=i) hla)
  rw[bM hla,Ex.ws]at hs
  have hwx:=Ex.w_eq (e.ks.getD i default)
  generalize hxx:e.ks.getD i default=x at *
  obtain⟨s2,hl2,h64⟩:=hx
  rw[aJ]at h64
  obtain⟨s',y19,hl,ih⟩:=aP8 e m hm hw H x0 x2 x3 x4 x5 x9 x10 x11 x12 x13 x14 x15 x16 x17 x18 k (i+1) (s++[32]++s2) (.iv (.bool true)) (by omega) (by simp; omega)
  rw[show ((i+1:Nat):Int)=(i:Int)+1 by omega]at ih
  refine⟨s',y19,hl,aH K _ _ t64L0.eq_1 ?_⟩
  have hi:(i:Int)<(m:Int):=by omega
  simp (disch:=omega) only[go_sem,hi,hix,fG,aC h64,aF,List.length_append,List.length_cons,List.length_nil]
  exact congrArg er ih
def aP9:aK:=(.region [⟨.boxL 1 (.loc 0),none,none⟩,⟨.mov (.cst (.str [])),(some 2),none⟩])
def aW8:aK:=(.region [⟨.loadN 5 (.loc 1),none,none⟩,⟨.call true false 95 [(.reg 0)],none,none⟩,⟨.mov (.reg 1),(some 3),none⟩])
def sG:aK:=(.seq (.region [⟨.mov (.loc 3),none,none⟩,⟨.bin .lss (.reg 0) (.cst (.int .i64 0)),none,none⟩,⟨.mov (.reg 1),none,none⟩,⟨.fieldAddr 4 (.loc 1),none,(some (2,false))⟩,⟨.load1 (.reg 3),none,(some (2,false))⟩,⟨.len .sl (.reg 4),none,(some (2,false))⟩,⟨.mov (.loc 3),none,(some (2,false))⟩,⟨.bin .lss (.reg 5) (.reg 6),none,(some (2,false))⟩,⟨.pick (.reg 2) (.cst (.bool true)) (.reg 7),none,none⟩,⟨.mov (.reg 8),none,none⟩,⟨.fieldAddr 0 (.loc 1),none,(some (9,false))⟩,⟨.load1 (.reg 10),none,(some (9,false))⟩,⟨.bin .eql (.reg 11) (.cst (.int .i64 7)),none,(some (9,false))⟩,⟨.mov (.reg 12),none,(some (9,false))⟩,⟨.fieldAddr 3 (.loc 1),none,(some (13,true))⟩,⟨.load1 (.reg 14),none,(some (13,true))⟩,⟨.pick (.reg 13) (.reg 15) (.cst (.bool false)),none,(some (9,false))⟩,⟨.mov (.reg 16),none,(some (9,false))⟩,⟨.fieldAddr 2 (.loc 1),none,(some (17,true))⟩,⟨.load1 (.reg 18),none,(some (17,true))⟩,⟨.len .sl (.reg 19),none,(some (17,true))⟩,⟨.bin .eql (.reg 20) (.cst (.int .i64 0)),none,(some (17,true))⟩,⟨.pick (.reg 17) (.reg 21) (.cst (.bool false)),none,(some (9,false))⟩,⟨.pick (.reg 9) (.cst (.bool true)) (.reg 22),(some 9),none⟩])
 (.cond (.loc 9)
  (.seq (.region [⟨.mov (.cst (.str [63])),(some 2),none⟩])
  .ret)
  .skip))
def aDj:aK:=(.seq (.region [⟨.fieldAddr 0 (.loc 1),none,none⟩,⟨.load1 (.reg 0),none,none⟩,⟨.bin .eql (.reg 1) (.cst (.int .i64 1)),(some 10),none⟩])
 (.cond (.loc 10)
  (.seq (.region [⟨.fieldAddr 1 (.loc 1),none,none⟩,⟨.load1 (.reg 0),none,none⟩,⟨.call true false 62 [(.reg 1)],none,none⟩,⟨.bin .add (.cst (.str [99])) (.reg 2),none,none⟩,⟨.mov (.reg 3),(some 2),none⟩])
  .ret)
  .skip))
def aDk:aK:=(.seq (.region [⟨.fieldAddr 0 (.loc 1),none,none⟩,⟨.load1 (.reg 0),none,none⟩,⟨.bin .eql (.reg 1) (.cst (.int .i64 2)),(some 11),none⟩])
 (.cond (.loc 11)
  (.seq (.region [⟨.fieldAddr 1 (.loc 1),none,none⟩,⟨.load1 (.reg 0),none,none⟩,⟨.call true false 62 [(.reg 1)],none,none⟩,⟨.bin .add (.cst (.str [118])) (.reg 2),none,none⟩,⟨.mov (.reg 3),(some 2),none⟩])
  .ret)
  .skip))
def aDl:aK:=(.seq (.region [⟨.fieldAddr 0 (.loc 1),none,none⟩,⟨.load1 (.reg 0),none,none⟩,⟨.bin .eql (.reg 1) (.cst (.int .i64 3)),(some 12),none⟩])
 (.cond (.loc 12)
  (.seq (.region [⟨.fieldAddr 1 (.loc 1),none,none⟩,⟨.load1 (.reg 0),none,none⟩,⟨.call true false 62 [(.reg 1)],none,none⟩,⟨.bin .add (.cst (.str [103])) (.reg 2),none,none⟩,⟨.mov (.reg 3),(some 2),none⟩])
  .ret)
  .skip))
def pX:aK:=(.seq (.region [⟨.fieldAddr 0 (.loc 1),none,none⟩,⟨.load1 (.reg 0),none,none⟩,⟨.bin .eql (.reg 1) (.cst (.int .i64 7)),(some 13),none⟩])
 (.cond (.loc 13)
  (.seq (.region [⟨.mov (.cst (.str [])),(some 4),none⟩])
  (.seq (.seq (.region [⟨.mov (.cst (.int .i64 0)),(some 5),none⟩])
  (.block 0
   (.loop t64L1)))
  (.seq (.seq (.region [⟨.fieldAddr 3 (.loc 1),none,none⟩,⟨.load1 (.reg 0),none,none⟩,⟨.un .not (.reg 1),none,none⟩,⟨.mov (.reg 2),none,none⟩,⟨.fieldAddr 2 (.loc 1),none,(some (3,false))⟩,⟨.load1 (.reg 4),none,(some (3,false))⟩,⟨.len .sl (.reg 5),none,(some (3,false))⟩,⟨.bin .gtr (.reg 6) (.cst (.int .i64 1)),none,(some (3,false))⟩,⟨.pick (.reg 3) (.cst (.bool true)) (.reg 7),(some 17),none⟩])
  (.cond (.loc 17)
   (.region [⟨.mov (.loc 4),none,none⟩,⟨.bin .add (.cst (.str [40])) (.reg 0),none,none⟩,⟨.bin .add (.reg 1) (.cst (.str [41])),none,none⟩,⟨.mov (.reg 2),(some 4),none⟩])
   .skip))
  (.seq (.region [⟨.mov (.loc 4),none,none⟩,⟨.bin .add (.cst (.str [40,108,97,109,98,100,97,32])) (.reg 0),none,none⟩,⟨.bin .add (.reg 1) (.cst (.str [32])),none,none⟩,⟨.fieldAddr 4 (.loc 1),none,none⟩,⟨.load1 (.reg 3),none,none⟩,⟨.indexAddrS 5 (.reg 4) (.cst (.int .i64 0)),none,none⟩,⟨.loadN 5 (.reg 5),none,none⟩,⟨.call true false 64 [(.reg 6)],none,none⟩,⟨.bin .add (.reg 2) (.reg 7),none,none⟩,⟨.bin .add (.reg 8) (.cst (.str [41])),none,none⟩,⟨.mov (.reg 9),(some 2),none⟩])
  .ret))))
  .skip))
def aHu:aK:=(.region [⟨.fieldAddr 4 (.loc 1),none,none⟩,⟨.load1 (.reg 0),none,none⟩,⟨.len .sl (.reg 1),none,none⟩,⟨.mov (.reg 2),(some 6),none⟩])
def xC:aK:=(.seq (.region [⟨.fieldAddr 0 (.loc 1),none,none⟩,⟨.load1 (.reg 0),none,none⟩,⟨.bin .neq (.reg 1) (.cst (.int .i64 8)),none,none⟩,⟨.mov (.reg 2),none,none⟩,⟨.fieldAddr 0 (.loc 1),none,(some (3,true))⟩,⟨.load1 (.reg 4),none,(some (3,true))⟩,⟨.bin .neq (.reg 5) (.cst (.int .i64 10)),none,(some (3,true))⟩,⟨.pick (.reg 3) (.reg 6) (.cst (.bool false)),none,none⟩,⟨.mov (.reg 7),none,none⟩,⟨.fieldAddr 0 (.loc 1),none,(some (8,true))⟩,⟨.load1 (.reg 9),none,(some (8,true))⟩,⟨.bin .neq (.reg 10) (.cst (.int .i64 9)),none,(some (8,true))⟩,⟨.pick (.reg 8) (.reg 11) (.cst (.bool false)),(some 18),none⟩])
 (.cond (.loc 18)
  (.region [⟨.mov (.loc 3),none,none⟩,⟨.mov (.reg 0),(some 6),none⟩])
  .skip))
def vZ:aK:=(.region [⟨.loadN 5 (.loc 1),none,none⟩,⟨.call true false 96 [(.reg 0)],none,none⟩,⟨.bin .add (.cst (.str [40])) (.reg 1),none,none⟩,⟨.mov (.reg 2),(some 7),none⟩])
def wA:aK:=(.seq (.region [⟨.mov (.cst (.int .i64 0)),(some 8),none⟩])
 (.block 2
  (.loop t64L0)))
def tC:aK:=(.seq (.region [⟨.mov (.loc 7),none,none⟩,⟨.bin .add (.reg 0) (.cst (.str [41])),none,none⟩,⟨.mov (.reg 1),(some 2),none⟩])
 .ret)
theorem bH5:t64.body=(.seq aP9 (.seq aW8 (.seq sG (.seq aDj (.seq aDk (.seq aDl (.seq pX (.seq aHu (.seq xC (.seq vZ (.seq wA tC))))))))))):=rfl
theorem bKe:t64.results=[.loc 2]:=rfl
theorem u1 (e:Ex)(hw:e.w≤1048576)(r:aK)(fs:List TM.Fr):go' K (lim K) aP9 (TM.Fr.seq r::fs) [.iv (.agg (aW e)),u_,u_,u_,u_,u_,u_,u_,u_,u_,u_,u_,u_,u_,u_,u_,u_,u_,u_,u_] []=go' K (lim K) r fs [.iv (.agg (aW e)),lbE e,.iv (.str []),u_,u_,u_,u_,u_,u_,u_,u_,u_,u_,u_,u_,u_,u_,u_,u_,u_] []:=by
 rw[aJ]
 simp (disch:=omega) only[aP9,go_sem,aD]
theorem u2 (e:Ex)(hw:e.w≤1048576)(r:aK)(fs:List TM.Fr):go' K (lim K) aW8 (TM.Fr.seq r::fs) [.iv (.agg (aW e)),lbE e,.iv (.str []),u_,u_,u_,u_,u_,u_,u_,u_,u_,u_,u_,u_,u_,u_,u_,u_,u_] []=go' K (lim K) r fs [.iv (.agg (aW e)),lbE e,.iv (.str []),.iv (.int .i64 (pP e)),u_,u_,u_,u_,u_,u_,u_,u_,u_,u_,u_,u_,u_,u_,u_,u_] []:=by
 have c95:=aWj e []
 rw[aJ]at c95
 simp (disch:=omega) only[aW8,go_sem,aD,c95]
theorem u3t (e:Ex)(hw:e.w≤1048576)(r:aK)(fs:List TM.Fr)(L:Int)(b:L<0∨(e.ks.length:Int)<L∨e.k=7∧e.r=true∧e.vs.length=0):go' K (lim K) sG (TM.Fr.seq r::fs) [.iv (.agg (aW e)),lbE e,.iv (.str []),.iv (.int .i64 L),u_,u_,u_,u_,u_,u_,u_,u_,u_,u_,u_,u_,u_,u_,u_,u_] []=bk' K (lim K) fs .ret [.iv (.agg (aW e)),lbE e,.iv (.str [63]),.iv (.int .i64 L),u_,u_,u_,u_,u_,.iv (.bool true),u_,u_,u_,u_,u_,u_,u_,u_,u_,u_] []:=by
 by_cases b1:L<0
 ·simp (disch:=omega) only[sG,go_sem,aD,b1]
 by_cases b2:(e.ks.length:Int)<L
 ·simp (disch:=omega) only[sG,go_sem,aD,b1,b2]
 ·rcases b with b|b|⟨b3,b4,b5⟩
  ·exact absurd b b1
  ·exact absurd b b2
  ·simp (disch:=omega) only[sG,go_sem,aD,b1,b2,b3,b4,b5]
theorem u3f (e:Ex)(hw:e.w≤1048576)(r:aK)(fs:List TM.Fr)(L:Int)(b1:¬L<0)(b2:¬(e.ks.length:Int)<L)(b3:¬(e.k=7∧e.r=true∧e.vs.length=0)):go' K (lim K) sG (TM.Fr.seq r::fs) [.iv (.agg (aW e)),lbE e,.iv (.str []),.iv (.int .i64 L),u_,u_,u_,u_,u_,u_,u_,u_,u_,u_,u_,u_,u_,u_,u_,u_] []=go' K (lim K) r fs [.iv (.agg (aW e)),lbE e,.iv (.str []),.iv (.int .i64 L),u_,u_,u_,u_,u_,.iv (.bool false),u_,u_,u_,u_,u_,u_,u_,u_,u_,u_] []:=by
 by_cases h7:e.k=7
 ·cases hr:e.r with
  | false=>simp (disch:=omega) only[sG,go_sem,aD,b1,b2,h7,hr]
  | true =>
   have hv:¬(e.vs.length:Int)=0:=fun h=>b3 ⟨h7,hr,by omega⟩
   simp (disch:=omega) only[sG,go_sem,aD,b1,b2,h7,hr,hv]
 ·simp (disch:=omega) only[sG,go_sem,aD,b1,b2,h7]
theorem u4t (e:Ex)(hw:e.w≤1048576)(r:aK)(fs:List TM.Fr)(L:Int)(h:e.k=1)(sd:List UInt8)(hl:sd.length≤21)(h62:TM.Pure K 62 [.iv (.int .i64 e.n)] (.iv (.str sd))):go' K (lim K) aDj (TM.Fr.seq r::fs) [.iv (.agg (aW e)),lbE e,.iv (.str []),.iv (.int .i64 L),u_,u_,u_,u_,u_,.iv (.bool false),u_,u_,u_,u_,u_,u_,u_,u_,u_,u_] []=bk' K (lim K) fs .ret [.iv (.agg (aW e)),lbE e,.iv (.str ([99]++sd)),.iv (.int .i64 L),u_,u_,u_,u_,u_,.iv (.bool false),.iv (.bool true),u_,u_,u_,u_,u_,u_,u_,u_,u_] []:=by
 simp (disch:=omega) only[aDj,go_sem,aD,h,aC h62,List.length_append,List.length_cons,List.length_nil]
theorem u4f (e:Ex)(hw:e.w≤1048576)(r:aK)(fs:List TM.Fr)(L:Int)(h:¬e.k=1):go' K (lim K) aDj (TM.Fr.seq r::fs) [.iv (.agg (aW e)),lbE e,.iv (.str []),.iv (.int .i64 L),u_,u_,u_,u_,u_,.iv (.bool false),u_,u_,u_,u_,u_,u_,u_,u_,u_,u_] []=go' K (lim K) r fs [.iv (.agg (aW e)),lbE e,.iv (.str []),.iv (.int .i64 L),u_,u_,u_,u_,u_,.iv (.bool false),.iv (.bool false),u_,u_,u_,u_,u_,u_,u_,u_,u_] []:=by
 simp (disch:=omega) only[aDj,go_sem,aD,h]
theorem u5t (e:Ex)(hw:e.w≤1048576)(r:aK)(fs:List TM.Fr)(L:Int)(h:e.k=2)(sd:List UInt8)(hl:sd.length≤21)(h62:TM.Pure K 62 [.iv (.int .i64 e.n)] (.iv (.str sd))):go' K (lim K) aDk (TM.Fr.seq r::fs) [.iv (.agg (aW e)),lbE e,.iv (.str []),.iv (.int .i64 L),u_,u_,u_,u_,u_,.iv (.bool false),.iv (.bool false),u_,u_,u_,u_,u_,u_,u_,u_,u_] []=bk' K (lim K) fs .ret [.iv (.agg (aW e)),lbE e,.iv (.str ([118]++sd)),.iv (.int .i64 L),u_,u_,u_,u_,u_,.iv (.bool false),.iv (.bool false),.iv (.bool true),u_,u_,u_,u_,u_,u_,u_,u_] []:=by
 simp (disch:=omega) only[aDk,go_sem,aD,h,aC h62,List.length_append,List.length_cons,List.length_nil]
theorem u5f (e:Ex)(hw:e.w≤1048576)(r:aK)(fs:List TM.Fr)(L:Int)(h:¬e.k=2):go' K (lim K) aDk (TM.Fr.seq r::fs) [.iv (.agg (aW e)),lbE e,.iv (.str []),.iv (.int .i64 L),u_,u_,u_,u_,u_,.iv (.bool false),.iv (.bool false),u_,u_,u_,u_,u_,u_,u_,u_,u_] []=go' K (lim K) r fs [.iv (.agg (aW e)),lbE e,.iv (.str []),.iv (.int .i64 L),u_,u_,u_,u_,u_,.iv (.bool false),.iv (.bool false),.iv (.bool false),u_,u_,u_,u_,u_,u_,u_,u_] []:=by
 simp (disch:=omega) only[aDk,go_sem,aD,h]
theorem u6t (e:Ex)(hw:e.w≤1048576)(r:aK)(fs:List TM.Fr)(L:Int)(h:e.k=3)(sd:List UInt8)(hl:sd.length≤21)(h62:TM.Pure K 62 [.iv (.int .i64 e.n)] (.iv (.str sd))):go' K (lim K) aDl (TM.Fr.seq r::fs) [.iv (.agg (aW e)),lbE e,.iv (.str []),.iv (.int .i64 L),u_,u_,u_,u_,u_,.iv (.bool false),.iv (.bool false),.iv (.bool false),u_,u_,u_,u_,u_,u_,u_,u_] []=bk' K (lim K) fs .ret [.iv (.agg (aW e)),lbE e,.iv (.str ([103]++sd)),.iv (.int .i64 L),u_,u_,u_,u_,u_,.iv (.bool false),.iv (.bool false),.iv (.bool false),.iv (.bool true),u_,u_,u_,u_,u_,u_,u_] []:=by
 simp (disch:=omega) only[aDl,go_sem,aD,h,aC h62,List.length_append,List.length_cons,List.length_nil]
theorem u6f (e:Ex)(hw:e.w≤1048576)(r:aK)(fs:List TM.Fr)(L:Int)(h:¬e.k=3):go' K (lim K) aDl (TM.Fr.seq r::fs) [.iv (.agg (aW e)),lbE e,.iv (.str []),.iv (.int .i64 L),u_,u_,u_,u_,u_,.iv (.bool false),.iv (.bool false),.iv (.bool false),u_,u_,u_,u_,u_,u_,u_,u_] []=go' K (lim K) r fs [.iv (.agg (aW e)),lbE e,.iv (.str []),.iv (.int .i64 L),u_,u_,u_,u_,u_,.iv (.bool false),.iv (.bool false),.iv (.bool false),.iv (.bool false),u_,u_,u_,u_,u_,u_,u_] []:=by
 simp (disch:=omega) only[aDl,go_sem,aD,h]
theorem u7f (e:Ex)(hw:e.w≤1048576)(r:aK)(fs:List TM.Fr)(L:Int)(h:¬e.k=7):go' K (lim K) pX (TM.Fr.seq r::fs) [.iv (.agg (aW e)),lbE e,.iv (.str []),.iv (.int .i64 L),u_,u_,u_,u_,u_,.iv (.bool false),.iv (.bool false),.iv (.bool false),.iv (.bool false),u_,u_,u_,u_,u_,u_,u_] []=go' K (lim K) r fs [.iv (.agg (aW e)),lbE e,.iv (.str []),.iv (.int .i64 L),u_,u_,u_,u_,u_,.iv (.bool false),.iv (.bool false),.iv (.bool false),.iv (.bool false),.iv (.bool false),u_,u_,u_,u_,u_,u_] []:=by
 simp (disch:=omega) only[pX,go_sem,aD,h]
theorem u7t (e:Ex)(hw:e.w≤1048576)(r:aK)(fs:List TM.Fr)(L:Int)(h7:e.k=7)(hvs:∀v∈e.vs,iO v)(hk1:0<e.ks.length)(s2:List UInt8)(hl2:s2.length≤66*(e.ks.getD 0 default).w-1)(h64:TM.Pure K 64 [.iv (.agg (aW (e.ks.getD 0 default)))] (.iv (.str s2))) :
  ∃s3 y4 y5 y14 y15 y16 y17,s3.length≤66*e.w-1∧go' K (lim K) pX (TM.Fr.seq r::fs) [.iv (.agg (aW e)),lbE e,.iv (.str []),.iv (.int .i64 L),u_,u_,u_,u_,u_,.iv (.bool false),.iv (.bool false),.iv (.bool false),.iv (.bool false),u_,u_,u_,u_,u_,u_,u_] []=bk' K (lim K) fs .ret [.iv (.agg (aW e)),lbE e,.iv (.str s3),.iv (.int .i64 L),y4,y5,u_,u_,u_,.iv (.bool false),.iv (.bool false),.iv (.bool false),.iv (.bool false),.iv (.bool true),y14,y15,y16,y17,u_,u_] []:=by
 have hwe:=Ex.w_eq e
 have hwl:=Ex.ws_len e.ks
 have hix:=ixE (g:=e.g) (ks:=e.ks) (i:=0) (by omega)
 rw[show (0:Int).toNat=0 from rfl]at hix
 have hkw:=Ex.kid_lt (d:=e) (bP (i:=0) hk1)
 have hdr:=bM (l:=e.ks) (i:=0) hk1
 rw[List.drop_zero]at hdr
 have hws:Ex.ws e.ks=(e.ks.getD 0 default).w+Ex.ws (e.ks.drop 1):=by rw[hdr,Ex.ws]; simp
 generalize hxx:e.ks.getD 0 default=x at *
 have hwx:=Ex.w_eq x
 rw[aJ]at h64
 obtain⟨s',y14,y15,y16,hl,l1⟩:=aP7 e hvs (by omega) (.iv (.agg (aW e))) (.iv (.str [])) (.iv (.int .i64 L)) u_ u_ u_ (.iv (.bool false)) (.iv (.bool false)) (.iv (.bool false)) (.iv (.bool false)) (.iv (.bool true)) u_ u_ u_ e.vs.length 0 [] u_ u_ u_ (by omega) (by simp)
 rw[show ((0:Nat):Int)=0 from rfl]at l1
 cases hr:e.r with
 | false =>
  refine⟨[40,108,97,109,98,100,97,32]++([40]++s'++[41])++[32]++s2++[41],.iv (.str ([40]++s'++[41])),.iv (.int .i64 e.vs.length),y14,y15,y16,.iv (.bool true),by simp; omega,?_⟩
  simp (disch:=omega) only[pX,go_sem,aD,h7]
  rw[l1]
  simp (disch:=omega) only[pX,go_sem,aD,h7,hr,hix,fG,aC h64,List.length_append,List.length_cons,List.length_nil]
 | true =>
  by_cases hv1:(1:Int)<e.vs.length
  ·refine⟨[40,108,97,109,98,100,97,32]++([40]++s'++[41])++[32]++s2++[41],.iv (.str ([40]++s'++[41])),.iv (.int .i64 e.vs.length),y14,y15,y16,.iv (.bool true),by simp; omega,?_⟩
   simp (disch:=omega) only[pX,go_sem,aD,h7]
   rw[l1]
   simp (disch:=omega) only[pX,go_sem,aD,h7,hr,hv1,hix,fG,aC h64,List.length_append,List.length_cons,List.length_nil]
  ·refine⟨[40,108,97,109,98,100,97,32]++s'++[32]++s2++[41],.iv (.str s'),.iv (.int .i64 e.vs.length),y14,y15,y16,.iv (.bool false),by simp; omega,?_⟩
   simp (disch:=omega) only[pX,go_sem,aD,h7]
   rw[l1]
   simp (disch:=omega) only[pX,go_sem,aD,h7,hr,hv1,hix,fG,aC h64,List.length_append,List.length_cons,List.length_nil]
theorem u8 (e:Ex)(hw:e.w≤1048576)(r:aK)(fs:List TM.Fr)(L:Int):go' K (lim K) aHu (TM.Fr.seq r::fs) [.iv (.agg (aW e)),lbE e,.iv (.str []),.iv (.int .i64 L),u_,u_,u_,u_,u_,.iv (.bool false),.iv (.bool false),.iv (.bool false),.iv (.bool false),.iv (.bool false),u_,u_,u_,u_,u_,u_] []=go' K (lim K) r fs [.iv (.agg (aW e)),lbE e,.iv (.str []),.iv (.int .i64 L),u_,u_,.iv (.int .i64 e.ks.length),u_,u_,.iv (.bool false),.iv (.bool false),.iv (.bool false),.iv (.bool false),.iv (.bool false),u_,u_,u_,u_,u_,u_] []:=by
 simp (disch:=omega) only[aHu,go_sem,aD]
def aQa (e:Ex)(L:Int):Int:=if e.k=8∨e.k=10∨e.k=9 then e.ks.length else L
theorem u9 (e:Ex)(hw:e.w≤1048576)(r:aK)(fs:List TM.Fr)(L:Int):∃y18,go' K (lim K) xC (TM.Fr.seq r::fs) [.iv (.agg (aW e)),lbE e,.iv (.str []),.iv (.int .i64 L),u_,u_,.iv (.int .i64 e.ks.length),u_,u_,.iv (.bool false),.iv (.bool false),.iv (.bool false),.iv (.bool false),.iv (.bool false),u_,u_,u_,u_,u_,u_] []=go' K (lim K) r fs [.iv (.agg (aW e)),lbE e,.iv (.str []),.iv (.int .i64 L),u_,u_,.iv (.int .i64 (aQa e L)),u_,u_,.iv (.bool false),.iv (.bool false),.iv (.bool false),.iv (.bool false),.iv (.bool false),u_,u_,u_,u_,y18,u_] []:=by
 unfold aQa
 by_cases h8:e.k=8
 ·refine⟨.iv (.bool false),?_⟩
  rw[if_pos (Or.inl h8)]
  simp (disch:=omega) only[xC,go_sem,aD,h8,bne_self_eq_false]
 by_cases h10:e.k=10
 ·refine⟨.iv (.bool false),?_⟩
  rw[if_pos (Or.inr (Or.inl h10))]
  simp (disch:=omega) only[xC,go_sem,aD,h10,bne_self_eq_false]
 by_cases h9:e.k=9
 ·refine⟨.iv (.bool false),?_⟩
  rw[if_pos (Or.inr (Or.inr h9))]
  simp (disch:=omega) only[xC,go_sem,aD,h9,bne_self_eq_false]
 ·refine⟨.iv (.bool true),?_⟩
  rw[if_neg (by omega)]
  simp (disch:=omega) only[xC,go_sem,aD,h8,h9,h10]
theorem u10 (e:Ex)(hw:e.w≤1048576)(r:aK)(fs:List TM.Fr)(L:Int)(x6 x18:TV)(sw:List UInt8)(hl:sw.length≤40)(h96:TM.Pure K 96 [.iv (.agg (aW e))] (.iv (.str sw))):go' K (lim K) vZ (TM.Fr.seq r::fs) [.iv (.agg (aW e)),lbE e,.iv (.str []),.iv (.int .i64 L),u_,u_,x6,u_,u_,.iv (.bool false),.iv (.bool false),.iv (.bool false),.iv (.bool false),.iv (.bool false),u_,u_,u_,u_,x18,u_] []=go' K (lim K) r fs [.iv (.agg (aW e)),lbE e,.iv (.str []),.iv (.int .i64 L),u_,u_,x6,.iv (.str ([40]++sw)),u_,.iv (.bool false),.iv (.bool false),.iv (.bool false),.iv (.bool false),.iv (.bool false),u_,u_,u_,u_,x18,u_] []:=by
 rw[aJ]at h96
 simp (disch:=omega) only[vZ,go_sem,aD,aC h96,List.length_append,List.length_cons,List.length_nil]
theorem u11 (e:Ex)(hw:e.w≤1048576)(r:aK)(fs:List TM.Fr)(L:Int)(x18:TV)(m:Nat)(hm:m≤e.ks.length)(sw:List UInt8)(hl:sw.length≤40)(H:∀x∈e.ks,Txt (66*x.w-1) 64 [.iv (.agg (aW x))]):∃s' y8 y19,s'.length≤66*Ex.ws e.ks+64∧go' K (lim K) wA (TM.Fr.seq r::fs) [.iv (.agg (aW e)),lbE e,.iv (.str []),.iv (.int .i64 L),u_,u_,.iv (.int .i64 (m:Int)),.iv (.str ([40]++sw)),u_,.iv (.bool false),.iv (.bool false),.iv (.bool false),.iv (.bool false),.iv (.bool false),u_,u_,u_,u_,x18,u_] []=go' K (lim K) r fs [.iv (.agg (aW e)),lbE e,.iv (.str []),.iv (.int .i64 L),u_,u_,.iv (.int .i64 (m:Int)),(.iv (.str s')),y8,.iv (.bool false),.iv (.bool false),.iv (.bool false),.iv (.bool false),.iv (.bool false),u_,u_,u_,u_,x18,y19] []:=by
 have hwe:=Ex.w_eq e
 obtain⟨s',y19,hl',l1⟩:=aP8 e m hm (by omega) H (.iv (.agg (aW e))) (.iv (.str [])) (.iv (.int .i64 L)) u_ u_ (.iv (.bool false)) (.iv (.bool false)) (.iv (.bool false)) (.iv (.bool false)) (.iv (.bool false)) u_ u_ u_ u_ x18 m 0 ([40]++sw) u_ (by omega) (by rw[List.drop_zero]; simp; omega)
 rw[show ((0:Nat):Int)=0 from rfl]at l1
 simp only[List.cons_append,List.nil_append]at l1
 refine⟨s',.iv (.int .i64 (m:Int)),y19,hl',?_⟩
 simp (disch:=omega) only[wA,go_sem,aD]
 rw[l1]
 simp (disch:=omega) only[go_sem]
theorem u12 (e:Ex)(x3 x6 x8 x18 x19:TV)(s':List UInt8)(hl:s'.length≤1099511627776):vK [.loc 2] (go' K (lim K) tC [] [.iv (.agg (aW e)),lbE e,.iv (.str []),x3,u_,u_,x6,(.iv (.str s')),x8,.iv (.bool false),.iv (.bool false),.iv (.bool false),.iv (.bool false),.iv (.bool false),u_,u_,u_,u_,x18,x19] [])=.ret (.iv (.str (s'++[41])),[]):=by
 simp (disch:=omega) only[tC,go_sem,aD,List.length_append,List.length_cons,List.length_nil]
theorem aW9:∀N,N≤1048576→∀e:Ex,e.w≤N→e.ok→Txt (66*e.w-1) 64 [.iv (.agg (aW e))]
 | 0,hN=>fun e hw hok=>by have:=Ex.w_eq e; omega
 | N+1,hN=>fun e hw hok=>by
  have hwe:=Ex.w_eq e
  have hwl:=Ex.ws_len e.ks
  have ih:=aW9 N (by omega)
  obtain⟨hk,hn,hvs,hks⟩:iO e.k∧iO e.n∧(∀v∈e.vs,iO v)∧(∀x∈e.ks,x.ok):=by obtain⟨a,b,_,c,_,d⟩:=(Ex.ok_eq e).1 hok; exact⟨a,b,c,d⟩
  have H:∀x∈e.ks,Txt (66*x.w-1) 64 [.iv (.agg (aW x))]:=fun x hx=>ih x (by have:=Ex.kid_lt hx; omega) (hks x hx)
  obtain⟨sd,hld,h62⟩:=vU e.n hn
  obtain⟨sw,hlw,h96⟩:=bH4 e hn
  have hw':e.w≤1048576:=by omega
  have hlst:e.k=7→pP e=1:=fun h=>by unfold pP ofF; rw[h]; rfl
  have start:∀v:List UInt8,v.length≤66*e.w-1→vK [.loc 2] (go' K (lim K) (.seq sG (.seq aDj (.seq aDk (.seq aDl (.seq pX (.seq aHu (.seq xC (.seq vZ (.seq wA tC))))))))) [] [.iv (.agg (aW e)),lbE e,.iv (.str []),.iv (.int .i64 (pP e)),u_,u_,u_,u_,u_,u_,u_,u_,u_,u_,u_,u_,u_,u_,u_,u_] [])=.ret (.iv (.str v),[])→Txt (66*e.w-1) 64 [.iv (.agg (aW e))]:=fun v hv h=>by
   refine⟨v,hv,TM.aR (S:=[]) (r:=.iv (.str v)) (aB K _ (fn:=t64) rfl rfl ?_) (by rw[aN])⟩
   rw[bH5,bKe,go_seq']
   show vK _ (go' K (lim K) aP9 _ [.iv (.agg (aW e)),u_,u_,u_,u_,u_,u_,u_,u_,u_,u_,u_,u_,u_,u_,u_,u_,u_,u_,u_] [])=_
   rw[u1 e hw',go_seq',u2 e hw']
   exact h
  generalize pP e=L at *
  by_cases hb:L<0∨(e.ks.length:Int)<L∨e.k=7∧e.r=true∧e.vs.length=0
  ·refine start [63] (by simp; omega) ?_
   rw[go_seq',u3t e hw' _ _ L hb]
   simp (disch:=omega) only[go_sem]
  have b1:¬L<0:=fun h=>hb (.inl h)
  have b2:¬(e.ks.length:Int)<L:=fun h=>hb (.inr (.inl h))
  have b3:¬(e.k=7∧e.r=true∧e.vs.length=0):=fun h=>hb (.inr (.inr h))
  by_cases h1:e.k=1
  ·refine start ([99]++sd) (by simp; omega) ?_
   rw[go_seq',u3f e hw' _ _ L b1 b2 b3,go_seq',u4t e hw' _ _ L h1 sd hld h62]
   simp (disch:=omega) only[go_sem]
  by_cases h2:e.k=2
  ·refine start ([118]++sd) (by simp; omega) ?_
   rw[go_seq',u3f e hw' _ _ L b1 b2 b3,go_seq',u4f e hw' _ _ L h1,go_seq',u5t e hw' _ _ L h2 sd hld h62]
   simp (disch:=omega) only[go_sem]
  by_cases h3:e.k=3
  ·refine start ([103]++sd) (by simp; omega) ?_
   rw[go_seq',u3f e hw' _ _ L b1 b2 b3,go_seq',u4f e hw' _ _ L h1,go_seq',u5f e hw' _ _ L h2,go_seq',u6t e hw' _ _ L h3 sd hld h62]
   simp (disch:=omega) only[go_sem]
  by_cases h7:e.k=7
  ·have hk1:0<e.ks.length:=by have:=hlst h7; omega
   obtain⟨s2,hl2,h64⟩:=H _ (bP (i:=0) hk1)
   obtain⟨s3,y4,y5,y14,y15,y16,y17,hl3,hu⟩:=u7t e hw' (.seq aHu (.seq xC (.seq vZ (.seq wA tC)))) [] L h7 hvs hk1 s2 hl2 h64
   refine start s3 hl3 ?_
   rw[go_seq',u3f e hw' _ _ L b1 b2 b3,go_seq',u4f e hw' _ _ L h1,go_seq',u5f e hw' _ _ L h2,go_seq',u6f e hw' _ _ L h3,go_seq',hu]
   simp (disch:=omega) only[go_sem]
  ·have hm:∃m:Nat,m≤e.ks.length∧aQa e L=(m:Int):=by
    unfold aQa
    split
    ·exact⟨e.ks.length,Nat.le_refl _,rfl⟩
    ·exact⟨L.toNat,by omega,by omega⟩
   obtain⟨m,hm1,hm2⟩:=hm
   obtain⟨y18,h9⟩:=u9 e hw' (.seq vZ (.seq wA tC)) [] L
   obtain⟨s',y8,y19,hl',h11⟩:=u11 e hw' tC [] L y18 m hm1 sw hlw H
   refine start (s'++[41]) (by simp; omega) ?_
   rw[go_seq',u3f e hw' _ _ L b1 b2 b3,go_seq',u4f e hw' _ _ L h1,go_seq',u5f e hw' _ _ L h2,go_seq',u6f e hw' _ _ L h3,go_seq',u7f e hw' _ _ L h7,go_seq',u8 e hw' _ _ L,go_seq',h9,hm2,go_seq',u10 e hw' _ _ L _ _ sw hlw h96,go_seq',h11]
   exact u12 e _ _ _ _ _ s' (by omega)
theorem aXa (p:Pg)(hw:Dt.ws p.cs≤1048576)(x0 x2:TV):∀(k i:Nat) (s:List UInt8) (x5:TV),i+k=p.cs.length→s.length+42*Dt.ws (p.cs.drop i)+32*(p.cs.length-i)≤1099511627776 →
  ∃s' y5,s'.length≤1099511627776∧lp' (lim K) t23L0 [x0,lbP p,x2,.iv (.str s),.iv (.int .i64 (i:Int)),x5] []=.ret (.exit 0,[x0,lbP p,x2,.iv (.str s'),.iv (.int .i64 p.cs.length),y5],[])
 | 0,i,s,x5,h,hs=>by
  obtain rfl:i=p.cs.length:=by omega
  refine⟨s,.iv (.bool false),by omega,aH K _ _ t23L0.eq_1 ?_⟩
  simp (disch:=omega) only[go_sem,aI]
 | k+1,i,s,x5,h,hs=>by
  have hla:i<p.cs.length:=by omega
  have hwl:=Dt.ws_len p.cs
  have hix:=ixD (g:=p.gc) (ks:=p.cs) (i:=(i:Int)) (by omega)
  rw[Int.toNat_natCast]at hix
  rw[aP5 hla]at hs
  have hxw:=Dt.ws_mem (bP (i:=i) hla)
  generalize hx:p.cs.getD i default=x at *
  obtain⟨s1,hl1,h62⟩:=vU (i:Int) (by unfold iO; omega)
  obtain⟨s2,hl2,h63⟩:=bH3 x (by omega)
  obtain⟨s',y5,hl,ih⟩:=aXa p hw x0 x2 k (i+1) (s++[10,99]++s1++[32]++s2) (.iv (.bool true)) (by omega) (by simp; omega)
  rw[show ((i+1:Nat):Int)=(i:Int)+1 by omega]at ih
  refine⟨s',y5,hl,aH K _ _ t23L0.eq_1 ?_⟩
  simp (disch:=omega) only[go_sem,aI,hix,eZ,aC h62,aC h63,aF,List.length_append,List.length_cons,List.length_nil]
  exact congrArg er ih
theorem bH6 (p:Pg)(hp:p.w≤1048576)(hok:p.ok):∃s:List UInt8,TM.Pure K 23 [.iv (.agg (cA p))] (.iv (.str s)):=by
 have hpw:p.b.w+Dt.ws p.cs≤1048576:=hp
 have hwl:=Dt.ws_len p.cs
 obtain⟨s1,hl1,h1⟩:=vU p.gl hok.2.1
 obtain⟨s2,hl2,h2⟩:=vU p.vr hok.2.2.1
 obtain⟨s3,hl3,h3⟩:=aW9 1048576 (by omega) p.b (by omega) hok.1
 rw[aJ]at h3
 obtain⟨s',y5,hl,l1⟩:=aXa p (by omega) (.iv (.agg (cA p))) (.iv (.str [])) p.cs.length 0 ([103,108,111,98,97,108,115,32]++s1++[32,118,97,114,115,32]++s2) u_ (by omega) (by rw[List.drop_zero]; simp; omega)
 rw[show ((0:Nat):Int)=0 from rfl]at l1
 refine⟨s'++[10]++s3,aV t23 rfl rfl ?_⟩
 unfold cA at l1 ⊢
 simp (disch:=omega) only[t23,go_sem,aC h1,aC h2,List.length_append,List.length_cons,List.length_nil]
 simp only[List.cons_append,List.nil_append]at l1
 rw[l1]
 simp (disch:=omega) only[go_sem,aC h3,List.length_append,List.length_cons,List.length_nil]
theorem aXb (n:Nat)(hn:n≤60)(ih:∀(x:Dt) (S:aA),x.w≤1048576→(lim K).call 59 [.iv (.agg (gP x)),.iv (.int .i64 n)] S=.ret (.iv (.int .i64 (kH n x)),S))(d:Dt)(hd:d.w≤1048576)(x0 x3 x6:TV)(S:aA) :
  ∀(k i:Nat) (acc:Int) (x7:TV),i+k=d.ks.length→0≤acc→acc≤400000→∃i' x7',lp' (lim K) t59L0 [x0,.iv (.int .i64 ((n:Int)+1)),.lb [.iv (.int .i64 d.k),.iv (.int .i64 d.n),.iv (.str d.t),.iv (.sl d.g (bQ d.ks)),.iv (.int .i64 d.p)],x3,.iv (.int .i64 acc),.iv (.int .i64 (i:Int)),x6,x7] S
   = .ret (.exit 0,[x0,.iv (.int .i64 ((n:Int)+1)),.lb [.iv (.int .i64 d.k),.iv (.int .i64 d.n),.iv (.str d.t),.iv (.sl d.g (bQ d.ks)),.iv (.int .i64 d.p)],x3,.iv (.int .i64 (iS 5000 (kH n) acc (d.ks.drop i))),i',x6,x7'],S)
 | 0,i,acc,x7,h,h0,h1=>by
  rw[List.drop_eq_nil_of_le (by omega),iS]
  have c1:¬((i:Int)<d.ks.length):=by omega
  refine⟨?_,?_,aH K _ _ t59L0.eq_1 ?_⟩
  rotate_left 2
  ·simp (disch:=omega) only[go_sem,aI,c1]
   rfl
 | k+1,i,acc,x7,h,h0,h1=>by
  have c1:(i:Int)<d.ks.length:=by omega
  have hl:i<d.ks.length:=by omega
  have hw:=Dt.w_eq d
  have hw2:=Dt.ws_len d.ks
  have hdr:=bM hl
  by_cases ha:acc<5000
  ·have hb:=aC5 n (d.ks.getD i default)
   obtain⟨i',x7',ih2⟩:=aXb n hn ih d hd x0 x3 x6 S k (i+1) (acc+kH n (d.ks.getD i default)) (.iv (.bool true)) (by omega) (by omega) (by omega)
   have hi:((i+1:Nat):Int)=(i:Int)+1:=by omega
   rw[hdr,iS,if_pos ha]
   rw[hi]at ih2
   refine⟨i',x7',aH K _ _ t59L0.eq_1 ?_⟩
   have hix:=ixD (g:=d.g) (ks:=d.ks) (i:=(i:Int)) (by omega)
   rw[Int.toNat_natCast]at hix
   have w1:IntKind.i64.wrap ((n:Int)+1-1)=(n:Int):=by rw[aF (by omega)]; omega
   have hm:=bP hl
   have hc:=fun S=>ih (d.ks.getD i default) S (by have:=Dt.kid_lt hm; omega)
   rw[cH]at hc
   generalize hx:d.ks.getD i default=y at *
   simp (disch:=omega) only[go_sem,aI,c1,ha,hix,eZ,w1,hc,aF]
   exact congrArg er ih2
  ·rw[hdr,iS,if_neg ha]
   refine⟨?_,?_,aH K _ _ t59L0.eq_1 ?_⟩
   rotate_left 2
   ·simp (disch:=omega) only[go_sem,aI,c1,ha]
    rfl
theorem aXc:∀(n:Nat) (hn:n≤60) (d:Dt) (hd:d.w≤1048576) (S:aA),(lim K).call 59 [.iv (.agg (gP d)),.iv (.int .i64 n)] S=.ret (.iv (.int .i64 (kH n d)),S)
 | 0,hn,d,hd,S=>by
  refine aB K _ (fn:=t59) rfl rfl ?_
  have e1:((0:Nat):Int)=0:=rfl
  rw[cH,kH,e1]
  simp (disch:=omega) only[t59,go_sem]
 | n+1,hn,d,hd,S=>by
  have hw:=Dt.w_eq d
  have hl:=Dt.ws_len d.ks
  obtain⟨i',x7',h⟩:=aXb n (by omega) (fun x S hx=>aXc n (by omega) x hx S) d hd (.iv (.agg [.int .i64 d.k,.int .i64 d.n,.str d.t,.sl d.g (bQ d.ks),.int .i64 d.p])) (.iv (.int .i64 0)) (.iv (.bool false)) S d.ks.length 0 1 u_ (by omega) (by omega) (by omega)
  refine aB K _ (fn:=t59) rfl rfl ?_
  have e1:((n+1:Nat):Int)=(n:Int)+1:=by omega
  have e2:¬((n:Int)+1=0):=by omega
  rw[cH,kH,e1]
  rw[List.drop_zero,show ((0:Nat):Int)=0 from rfl]at h
  simp (disch:=omega) only[t59,go_sem,e2]
  rw[h]
  simp (disch:=omega) only[go_sem]
def dI:Nat→Ex→Int
 | 0,_=>5000
 | n+1,d=>iS 5000 (dI n) (1+d.vs.length) d.ks
theorem oF:∀(n:Nat) (d:Ex),0≤dI n d∧dI n d≤5000*(n+1)+d.w
 | 0,d=>by rw[dI]; omega
 | n+1,d=>by
  rw[dI]
  have hw:=Ex.w_eq d
  have:=zM 5000 (5000*(n+1)+d.w) (by omega) (dI n) d.ks (fun x hx=>by
   have:=oF n x
   have:=Ex.kid_lt hx
   omega) (1+d.vs.length) (by omega) (by omega)
  omega
theorem aXd (n:Nat)(hn:n≤400)(ih:∀(x:Ex) (S:aA),x.w≤1048576→(lim K).call 60 [.iv (.agg (aW x)),.iv (.int .i64 n)] S=.ret (.iv (.int .i64 (dI n x)),S))(d:Ex)(hd:d.w≤1048576)(x0 x3 x6:TV)(S:aA) :
  ∀(k i:Nat) (acc:Int) (x7:TV),i+k=d.ks.length→0≤acc→acc≤100000000→∃i' x7',lp' (lim K) t60L0 [x0,.iv (.int .i64 ((n:Int)+1)),lbE d,x3,.iv (.int .i64 acc),.iv (.int .i64 (i:Int)),x6,x7] S
   = .ret (.exit 0,[x0,.iv (.int .i64 ((n:Int)+1)),lbE d,x3,.iv (.int .i64 (iS 5000 (dI n) acc (d.ks.drop i))),i',x6,x7'],S)
 | 0,i,acc,x7,h,h0,h1=>by
  rw[List.drop_eq_nil_of_le (by omega),iS]
  have c1:¬((i:Int)<d.ks.length):=by omega
  refine⟨?_,?_,aH K _ _ t60L0.eq_1 ?_⟩
  rotate_left 2
  ·simp (disch:=omega) only[go_sem,aD,c1]
   rfl
 | k+1,i,acc,x7,h,h0,h1=>by
  have c1:(i:Int)<d.ks.length:=by omega
  have hl:i<d.ks.length:=by omega
  have hw:=Ex.w_eq d
  have hw2:=Ex.ws_len d.ks
  have hdr:=bM hl
  by_cases ha:acc<5000
  ·have hb:=oF n (d.ks.getD i default)
   have hm:=bP hl
   have hk:=Ex.kid_lt hm
   obtain⟨i',x7',ih2⟩:=aXd n hn ih d hd x0 x3 x6 S k (i+1) (acc+dI n (d.ks.getD i default)) (.iv (.bool true)) (by omega) (by omega) (by omega)
   have hi:((i+1:Nat):Int)=(i:Int)+1:=by omega
   rw[hdr,iS,if_pos ha]
   rw[hi]at ih2
   refine⟨i',x7',aH K _ _ t60L0.eq_1 ?_⟩
   have hix:=ixE (g:=d.g) (ks:=d.ks) (i:=(i:Int)) (by omega)
   rw[Int.toNat_natCast]at hix
   have w1:IntKind.i64.wrap ((n:Int)+1-1)=(n:Int):=by rw[aF (by omega)]; omega
   have hc:=fun S=>ih (d.ks.getD i default) S (by omega)
   rw[aJ]at hc
   generalize hx:d.ks.getD i default=y at *
   simp (disch:=omega) only[go_sem,aD,c1,ha,hix,fG,w1,hc,aF]
   exact congrArg er ih2
  ·rw[hdr,iS,if_neg ha]
   refine⟨?_,?_,aH K _ _ t60L0.eq_1 ?_⟩
   rotate_left 2
   ·simp (disch:=omega) only[go_sem,aD,c1,ha]
    rfl
theorem aXe:∀(n:Nat) (hn:n≤400) (d:Ex) (hd:d.w≤1048576) (S:aA),(lim K).call 60 [.iv (.agg (aW d)),.iv (.int .i64 n)] S=.ret (.iv (.int .i64 (dI n d)),S)
 | 0,hn,d,hd,S=>by
  refine aB K _ (fn:=t60) rfl rfl ?_
  have e1:((0:Nat):Int)=0:=rfl
  rw[aJ,dI,e1]
  simp (disch:=omega) only[t60,go_sem]
 | n+1,hn,d,hd,S=>by
  have hw:=Ex.w_eq d
  have hl:=Ex.ws_len d.ks
  obtain⟨i',x7',h⟩:=aXd n (by omega) (fun x S hx=>aXe n (by omega) x hx S) d hd (.iv (.agg [.int .i64 d.k,.int .i64 d.n,.sl d.gv (TM.one (.int .i64) d.vs),.bool d.r,.sl d.g (aQ d.ks)])) (.iv (.int .i64 0)) (.iv (.bool false)) S d.ks.length 0 (1+d.vs.length) u_ (by omega) (by omega) (by omega)
  refine aB K _ (fn:=t60) rfl rfl ?_
  have e1:((n+1:Nat):Int)=(n:Int)+1:=by omega
  have e2:¬((n:Int)+1=0):=by omega
  rw[aJ,dI,e1]
  rw[List.drop_zero,show ((0:Nat):Int)=0 from rfl]at h
  simp (disch:=omega) only[t60,go_sem,e2,aF]
  rw[h]
  simp (disch:=omega) only[go_sem]
theorem aXf (p:Pg)(hp:p.w≤1048576)(x0:TV)(S:aA):∀(k i:Nat) (x4 x5:TV),i+k=p.cs.length →
  ∃j b i' x4' x5',(j=.ret∧b=true∨j=.exit 0∧b=false)∧lp' (lim K) t21L0 [x0,lbP p,.iv (.bool false),.iv (.int .i64 (i:Int)),x4,x5] S=.ret (j,[x0,lbP p,.iv (.bool b),i',x4',x5'],S)
 | 0,i,x4,x5,h=>by
  have c1:¬((i:Int)<p.cs.length):=by omega
  refine⟨.exit 0,false,?_,?_,?_,.inr ⟨rfl,rfl⟩,aH K _ _ t21L0.eq_1 ?_⟩
  rotate_left 3
  ·simp (disch:=omega) only[go_sem,aI,c1]
   rfl
 | k+1,i,x4,x5,h=>by
  have c1:(i:Int)<p.cs.length:=by omega
  have hl:i<p.cs.length:=by omega
  have hw2:=Dt.ws_len p.cs
  have hpw:p.b.w+Dt.ws p.cs≤1048576:=hp
  by_cases h3:(i:Int)<30
  ·have hix:=ixD (g:=p.gc) (ks:=p.cs) (i:=(i:Int)) (by omega)
   rw[Int.toNat_natCast]at hix
   have hm:=Dt.ws_mem (bP hl)
   have hc:=fun S=>aXc 60 (by omega) (p.cs.getD i default) (by omega) S
   rw[cH,show ((60:Nat):Int)=60 from rfl]at hc
   generalize hx:p.cs.getD i default=y at *
   by_cases hv:200<kH 60 y
   ·refine⟨.ret,true,?_,?_,?_,.inl ⟨rfl,rfl⟩,aH K _ _ t21L0.eq_1 ?_⟩
    rotate_left 3
    ·simp (disch:=omega) only[go_sem,aI,c1,h3,hix,eZ,hc,hv]
     rfl
   ·obtain⟨j,b,i',x4',x5',hj,ih⟩:=aXf p hp x0 S k (i+1) (.iv (.bool true)) (.iv (.bool false)) (by omega)
    rw[show ((i+1:Nat):Int)=(i:Int)+1 by omega]at ih
    refine⟨j,b,i',x4',x5',hj,aH K _ _ t21L0.eq_1 ?_⟩
    simp (disch:=omega) only[go_sem,aI,c1,h3,hix,eZ,hc,hv,aF]
    exact congrArg er ih
  ·refine⟨.exit 0,false,?_,?_,?_,.inr ⟨rfl,rfl⟩,aH K _ _ t21L0.eq_1 ?_⟩
   rotate_left 3
   ·simp (disch:=omega) only[go_sem,aI,c1,h3]
    rfl
theorem bH7 (p:Pg)(hp:p.w≤1048576)(S:aA):∃b,(lim K).call 21 [.iv (.agg (cA p))] S=.ret (.iv (.bool b),S)∧(b=false→dI 400 p.b≤2000∧p.vr≤1099511627776):=by
 obtain⟨j,b,i',x4',x5',hj,h⟩:=aXf p hp (.iv (.agg (cA p))) S p.cs.length 0 u_ u_ (by omega)
 rw[show ((0:Nat):Int)=0 from rfl]at h
 have hpw:p.b.w+Dt.ws p.cs≤1048576:=hp
 have hwl:=Dt.ws_len p.cs
 have hc:=fun S=>aXe 400 (by omega) p.b (by omega) S
 rw[aJ,show ((400:Nat):Int)=400 from rfl]at hc
 rcases hj with⟨rfl,rfl⟩|⟨rfl,rfl⟩
 ·refine⟨true,aB K _ (fn:=t21) rfl rfl ?_,fun h=>absurd h (by decide)⟩
  simp only[cA]at h ⊢
  simp (disch:=omega) only[t21,go_sem]
  rw[h]
  simp (disch:=omega) only[go_sem]
 ·by_cases hv:2000<dI 400 p.b
  ·refine⟨true,aB K _ (fn:=t21) rfl rfl ?_,fun h=>absurd h (by decide)⟩
   simp only[cA]at h ⊢
   simp (disch:=omega) only[t21,go_sem]
   rw[h]
   simp (disch:=omega) only[go_sem,hc,hv]
  ·by_cases hl:(20:Int)<p.cs.length
   ·refine⟨true,aB K _ (fn:=t21) rfl rfl ?_,fun h=>absurd h (by decide)⟩
    simp only[cA]at h ⊢
    simp (disch:=omega) only[t21,go_sem]
    rw[h]
    simp (disch:=omega) only[go_sem,hc,hv,aI,hl]
   ·refine⟨decide (1099511627776<p.vr),aB K _ (fn:=t21) rfl rfl ?_,fun h=>⟨by omega,by simpa using h⟩⟩
    simp only[cA]at h ⊢
    simp (disch:=omega) only[t21,go_sem]
    rw[h]
    simp (disch:=omega) only[go_sem,hc,hv,aI,hl]
mutual
theorem aLd:∀d:Dt,same d d=true
 | .mk k n t g ks p=>by rw[same,pY ks]; simp
theorem pY:∀l:List Dt,eG l l=true
 | []=>by rw[eG]
 | d::ds=>by rw[eG,aLd d,pY ds]; rfl
end
mutual
theorem aRq:∀d:Ex,eqE d d=true
 | .mk k n gv vs r g ks=>by rw[eqE,aAd ks]; simp
theorem aAd:∀l:List Ex,eR l l=true
 | []=>by rw[eR]
 | d::ds=>by rw[eR,aRq d,aAd ds]; rfl
end
theorem wB (f:Ex→Int):∀(l:List Ex) (a:Int),0≤a→(∀x∈l,0≤f x)→iS 5000 f a l≤2000→a≤2000∧(∀x∈l,f x≤2000)∧((∀x∈l,(x.w:Int)≤f x)→a+(Ex.ws l:Nat)≤2000)
 | [],a,_,_,h=>by rw[iS]at h; exact⟨h,by simp,fun _=>by rw[Ex.ws]; omega⟩
 | d::ds,a,h0,hp,h=>by
  rw[iS]at h
  have hd:=hp d (by simp)
  split at h
  ·obtain⟨h1,h2,h3⟩:=wB f ds (a+f d) (by omega) (fun x hx=>hp x (by simp[hx])) h
   refine⟨by omega,fun x hx=>?_,fun hw=>?_⟩
   ·rcases List.mem_cons.1 hx with rfl|hx
    ·omega
    ·exact h2 x hx
   ·have:=h3 (fun x hx=>hw x (by simp[hx]))
    have:=hw d (by simp)
    rw[Ex.ws]; omega
  ·omega
theorem aDm:∀(n:Nat) (e:Ex),dI n e≤2000→dp e<n∧(e.w:Int)≤2000
 | 0,e,h=>by rw[dI]at h; omega
 | n+1,e,h=>by
  have hwe:=Ex.w_eq e
  rw[dI]at h
  obtain⟨h1,h2,h3⟩:=wB (dI n) e.ks (1+e.vs.length) (by omega) (fun x _=>(oF n x).1) h
  have key:∀l:List Ex,(∀x∈l,dI n x≤2000)→dps l≤n:=by
   intro l
   induction l with
   | nil=>intro _; rw[dps]; omega
   | cons a r ih =>
    intro hl
    have:=(aDm n a (hl a (by simp))).1
    have:=ih (fun x hx=>hl x (by simp[hx]))
    rw[dps]; omega
  refine⟨by have:=key e.ks h2; rw[aDf]; omega,?_⟩
  have hw:∀(n:Nat) (e:Ex),dI n e≤2000→(e.w:Int)≤dI n e:=by
   intro n
   induction n with
   | zero=>intro e h; rw[dI]at h; omega
   | succ n ih =>
    intro e h
    have hwe:=Ex.w_eq e
    rw[dI]at h ⊢
    have q:∀(l:List Ex) (a:Int),0≤a→iS 5000 (dI n) a l≤2000→a+(Ex.ws l:Nat)≤iS 5000 (dI n) a l:=by
     intro l
     induction l with
     | nil=>intro a _ _; rw[iS,Ex.ws]; omega
     | cons d ds ihl =>
      intro a h0 h
      rw[iS]at h ⊢
      have hd:=(oF n d).1
      split at h
      ·rename_i c
       rw[if_pos c]
       have h4:=ihl (a+dI n d) (by omega) h
       have h5:=wB (dI n) ds (a+dI n d) (by omega) (fun x _=>(oF n x).1) h
       have:=ih d (by omega)
       rw[Ex.ws]; omega
      ·omega
    have:=q e.ks (1+e.vs.length) (by omega) h
    omega
  have:=hw (n+1) e (by rw[dI]; exact h)
  rw[dI]at this
  omega
theorem aQb:∀(N:Nat) (e:Ex),e.w≤N→stN e=0→kJ kC e=[]
 | 0,e,hw,h=>by have:=Ex.w_eq e; omega
 | N+1,e,hw,h=>by
  rw[aK8]at h
  have key:∀l:List Ex,(∀x∈l,x.w≤N)→kD l=0→gB kC l=[]:=by
   intro l
   induction l with
   | nil=>intro _ _; rw[gB]
   | cons a r ih =>
    intro hl h
    rw[kD]at h
    rw[gB,aQb N a (hl a (by simp)) (by omega),ih (fun x hx=>hl x (by simp[hx])) (by omega)]; rfl
  have h4:e.k≠4:=fun hk=>by rw[if_pos hk]at h; omega
  rw[if_neg h4]at h
  rw[mE,key e.ks (fun x hx=>by have:=Ex.kid_lt hx; omega) (by omega),kC,if_neg h4]; rfl
theorem aQc {σ:Cv}(h:∀v,σ.f v=none):∀l:List Int,cX σ l=(l,[],σ)
 | []=>rfl
 | v::r=>by
  have hs:gC σ v=(v,[],σ):=by unfold gC; rw[if_neg (by rw[h v]; decide)]
  rw[cX,hs]
  simp only[aQc h r]; rfl
theorem bGp (p:Pg){σ:Cv}(h:∀v,σ.f v=none):∀(N:Nat) (e:Ex),e.w≤N→Fr p e→stN e=0→eqE e (cvE σ e).1=true∧(cvE σ e).2=σ
 | 0,e,hw,hf,hs=>by have:=Ex.w_eq e; omega
 | N+1,e,hw,hf,hs=>by
  rw[sF]at hf
  rw[aK8]at hs
  have key:∀l:List Ex,(∀x∈l,x.w≤N)→Frs p l→kD l=0→eR l (fA σ l).1=true∧(fA σ l).2=σ:=by
   intro l
   induction l with
   | nil=>intro _ _ _; rw[dS,eR]; exact⟨rfl,rfl⟩
   | cons a r ih =>
    intro hl hf hs
    rw[Frs]at hf
    rw[kD]at hs
    obtain⟨h1,h2⟩:=bGp p h N a (hl a (by simp)) hf.1 (by omega)
    obtain⟨h3,h4⟩:=ih (fun x hx=>hl x (by simp[hx])) hf.2 (by omega)
    rw[dO,h2,eR,h1,h3]
    exact⟨rfl,h4⟩
  have h4:e.k≠4:=fun hk=>by rw[if_pos hk]at hs; omega
  rw[if_neg h4]at hs
  obtain⟨k1,k2⟩:=key e.ks (fun x hx=>by have:=Ex.kid_lt hx; omega) hf.2 (by omega)
  rw[mU]
  by_cases h7:e.k=7
  ·obtain⟨x,hks⟩:=kX (vX hf.1 (.inl h7))
   have hn:=(uF hf.1 h7).1
   rw[if_pos h7,aQc h]
   simp only
   rw[k2]
   refine⟨?_,rfl⟩
   rw[hks,dO,dS]at k1 ⊢
   simp only[List.headD_cons,pO,if_pos]at k1 ⊢
   rw[aE5]
   show (decide (e.k=7)&&decide (e.n=0)&&(e.r==e.r)&&decide (e.vs=e.vs)&&eR e.ks [(cvE σ x).1])=true
   rw[h7,hn,hks,k1]
   simp
  ·rw[if_neg h7,if_neg (by rw[h]; simp),if_neg h4]
   refine⟨?_,k2⟩
   rw[aE5]
   show (decide (e.k=e.k)&&decide (e.n=e.n)&&(e.r==e.r)&&decide (e.vs=e.vs)&&eR e.ks (fA σ e.ks).1)=true
   rw[k1]
   simp
structure bH8 (p q:Pg):Prop where
 st:stN q.b=0
 chk:lH q=0
 dep:dp q.b≤3*dp p.b+2
 same:stN p.b=0→aKz p q=true
 wt:q.b.w≤4*p.b.w
 cs:q.cs=p.cs
theorem bDj {p:Pg}{set:List Int}(hc:lH p=0)(hd:dp p.b<400)(hr:oP set (kJ kC p.b)):bH8 p (cvA set p):=by
 obtain⟨⟨g1,g2,g3⟩,hcs,h0⟩:=rM hc
 obtain⟨f1,s1,t1,_,_⟩:=aK6 p _ p.b (Nat.le_refl _) _ _ _ _ h0
 have k1:=aW3 p _ p.b ⟨fun v=>if v∈set then some 0 else none,p.vr⟩ (Nat.le_refl _) f1 t1.nb (Int.le_refl _) g3
 have hx:=vT _ p.b ⟨fun v=>if v∈set then some 0 else none,p.vr⟩ (Nat.le_refl _)
 unfold cvA
 generalize hb:cvE ⟨fun v=>if v∈set then some 0 else none,p.vr⟩ p.b=b at *
 obtain⟨b,σ'⟩:=b
 simp only at k1 hx ⊢
 refine⟨k1.no4,?_,k1.dep,fun hs=>?_,k1.wt,rfl⟩
 ·have hdep:=k1.dep
  have hq:=aWx ⟨b,p.gl,σ'.nx,clT p.gc p.cs,p.cs⟩ _ b (Nat.le_refl _) 0 [] [] [] (k1.fr _ rfl rfl hx.1 (Int.le_refl _)) (by omega) (k1.sc [] [] s1 (by simp)) ⟨k1.nb,by simp,by rw[k1.cns]; exact t1.nc,by simp⟩
  unfold lH
  rw[if_neg (by simp only; omega)]
  simp only
  rw[if_neg (by rw[hcs]; decide)]
  exact hq.1
 ·have hg:=aQb _ p.b (Nat.le_refl _) hs
  have hset:set=[]:=by
   cases set with
   | nil=>rfl
   | cons a r=>exact absurd ((hr.mem a).1 (by simp)) (by rw[hg]; simp)
  subst hset
  have hi:=bGp p (σ:=⟨fun v=>if v∈([]:List Int) then some 0 else none,p.vr⟩) (fun v=>by simp) _ p.b (Nat.le_refl _) f1 hs
  rw[hb]at hi
  simp only at hi
  unfold aKz
  simp only
  rw[hi.1,hi.2,pY]
  simp
end Go.Proofs.YtookmpaholmmfaaGreatDoor
namespace Go.Proofs.YtookmpaholmmfaaGreatDoor
open Go Go.TM Go.ChangeShapes Go.WideShapes
def aHv:Out (TV×aA)→Bool
 | .ret (.iv (.bool true),_)=>true
 | _=>false
theorem aRr {n f:Nat}(h:aHv ((ex K n).call f [] [])=true):TM.Pure K f [] (.iv (.bool true)):=by
 generalize hx:(ex K n).call f [] []=x at h
 match x,h with
 | .ret (.iv (.bool true),S),_=>exact TM.aR (S:=S) (r:=.iv (.bool true)) (bIj hx) (by rw[aN])
theorem bDk:aHv ((ex K 300).call 22 [] [])=true:=by kernel_rfl
theorem bGq:TM.Pure K 22 [] (.iv (.bool true)):=aRr bDk
theorem bGr (o:List Int)(f:Int):∀(N:Nat) (e:Ex),e.w≤N→(rfE o f e).w≤4*e.w
 | 0,e,hw=>by have:=Ex.w_eq e; omega
 | N+1,e,hw=>by
  have hwe:=Ex.w_eq e
  have key:∀l:List Ex,(∀x∈l,x.w≤N)→Ex.ws (iJ o f l)≤4*Ex.ws l∧(iJ o f l).length=l.length:=by
   intro l
   induction l with
   | nil=>intro _; rw[iJ,Ex.ws]; simp
   | cons a r ih =>
    intro hl
    have h1:=bGr o f N a (hl a (by simp))
    have h2:=ih (fun x hx=>hl x (by simp[hx]))
    rw[iJ,Ex.ws,Ex.ws,List.length_cons,List.length_cons]; omega
  obtain⟨k1,k2⟩:=key e.ks (fun x hx=>by have:=Ex.kid_lt hx; omega)
  have hd:((iJ o f e.ks).headD default).w≤4*Ex.ws e.ks+1:=by
   cases hk:iJ o f e.ks with
   | nil=>rw[List.headD_nil]; have:(default:Ex).w=1:=rfl; omega
   | cons a r=>rw[List.headD_cons]; rw[hk,Ex.ws]at k1; omega
  have hfl:=List.length_filter_le (fun v=>decide (0≤poF o v 0)) e.vs
  have hbx:Ex.ws (rbx o f e.vs)=2*(rwn o e.vs).length:=by
   unfold rbx
   generalize rwn o e.vs=l
   induction l with
   | nil=>simp[Ex.ws]
   | cons a r ih=>rw[List.map_cons,Ex.ws,ih]; simp[gQ,loX,Ex.w,Ex.ws]; omega
  have hrw:(rwn o e.vs).length≤e.vs.length:=hfl
  rw[aKx]
  split
  ·simp[loX,Ex.w,Ex.ws]; omega
  ·split
   ·simp only[Ex.w,Ex.ws,loX,List.length_nil]; omega
   ·split
    ·rw[Ex.w,List.length_map]
     unfold aV8
     split
     ·omega
     ·simp only[Ex.ws,Ex.w,List.length_nil]
      omega
    ·rw[Ex.w,List.length_nil]; omega
theorem bDl (p q:Pg)(hp:p.b.w≤1048576∧Dt.ws p.cs≤1048576)(hq:q.b.w≤1048576∧Dt.ws q.cs≤1048576)(S:aA):(lim K).call 20 [.iv (.agg (cA p)),.iv (.agg (cA q))] S=.ret (.iv (.bool (aKz p q)),S):=by
 refine aB K _ (fn:=t20) rfl rfl ?_
 have hpw:=hp
 have hqw:=hq
 have la:=Dt.ws_len p.cs
 have lb:=Dt.ws_len q.cs
 have hb:=aWf 1048576 p.b q.b S (by omega) (by omega) (by omega)
 unfold aKz cA
 by_cases c1:p.gl=q.gl
 ·by_cases c2:p.vr=q.vr
  ·by_cases c3:p.cs.length=q.cs.length
   ·have c3':(p.cs.length:Int)=q.cs.length:=by omega
    obtain⟨j,i',x7',x8',hj,ih⟩:=aWh p q c3 (by omega) (fun x hx y hy=>aK0 1048576 (by omega) 1048576 x y (by have:=Dt.ws_mem hx; omega) (by omega) (by have:=Dt.ws_mem hy; omega)) (.iv (.agg (cA p))) (.iv (.agg (cA q))) (.iv (.bool false)) S p.cs.length 0 u_ u_ (by omega)
    rw[show ((0:Nat):Int)=0 from rfl]at ih
    rw[List.drop_zero,List.drop_zero]at hj
    simp only[cA]at ih
    simp (config := { maxSteps := 4000000 }) (disch:=omega) only[t20,go_sem,aI]
    rw[ih]
    rcases hj with⟨rfl,hs⟩|⟨rfl,hs⟩
    ·simp (config := { maxSteps := 4000000 }) (disch:=omega) only[go_sem,hs,Bool.false_and,Bool.and_false]
    ·simp (config := { maxSteps := 4000000 }) (disch:=omega) only[go_sem,hs,hb,Bool.true_and,Bool.and_self]
   ·rw[mP c3,Bool.and_false,Bool.false_and]
    simp (config := { maxSteps := 4000000 }) (disch:=omega) only[t20,go_sem,aI]
  ·rw[decide_eq_false c2,Bool.and_false,Bool.false_and,Bool.false_and]
   simp (config := { maxSteps := 4000000 }) (disch:=omega) only[t20,go_sem]
 ·rw[decide_eq_false c1,Bool.false_and,Bool.false_and,Bool.false_and]
  simp (config := { maxSteps := 4000000 }) (disch:=omega) only[t20,go_sem]
theorem law5 (p:Pg)(hp:p.w≤1048576)(hok:p.ok):(lim K).call 5 [.iv (.agg (cA p))] []=.ret (.iv (.bool true),[]):=by
 have hpw:p.b.w+Dt.ws p.cs≤1048576:=hp
 obtain⟨b1,l1,hb1⟩:=bH7 p hp []
 refine aB K _ (fn:=t5) rfl rfl ?_
 cases b1 with
 | true =>
  unfold cA at l1 ⊢
  simp (config := { maxSteps := 4000000 }) (disch:=omega) only[t5,go_sem,l1,aC bGq]
 | false =>
  obtain⟨hn,hv⟩:=hb1 rfl
  obtain⟨hd,hw⟩:=aDm 400 p.b hn
  obtain⟨s,hs⟩:=bH6 p hp hok
  obtain⟨q,e,c24,hq⟩:=bHx p hp hok hv
  obtain⟨q2,e2,c25,hq2⟩:=bHz p hp hok hv
  have hss:(s==s)=true:=by simp
  have key:e2=e∧aKz q q2=true∧(q.b.w≤1048576∧Dt.ws q.cs≤1048576)∧(q2.b.w≤1048576∧Dt.ws q2.cs≤1048576):=by
   have zz:aKz mB mB=true:=rfl
   have zw:mB.b.w≤1048576∧Dt.ws mB.cs≤1048576:=by decide
   rcases hq with⟨h0,rfl,rfl⟩|⟨h0,hbx,rfl,rfl⟩|⟨h0,hbx,rfl,set,hr,rfl⟩
   ·rcases hq2 with⟨_,rfl,rfl⟩|⟨h1,_⟩|⟨h1,_⟩
    ·exact⟨rfl,zz,zw,zw⟩
    ·exact absurd h1 h0
    ·exact absurd h1 h0
   ·rcases hq2 with⟨h1,_⟩|⟨_,_,rfl,rfl⟩|⟨_,h1,_⟩
    ·exact absurd h0 h1
    ·exact⟨rfl,zz,zw,zw⟩
    ·rw[hbx]at h1; cases h1
   ·rcases hq2 with⟨h1,_⟩|⟨_,h1,_⟩|⟨_,_,rfl,set2,hr2,rfl⟩
    ·exact absurd h0 h1
    ·rw[hbx]at h1; cases h1
    ·obtain rfl:=aHf hr hr2
     have nk:=bDj h0 hd hr
     have h1:=nk.wt
     have h2:=nk.cs
     have h3:=bGr (mW set p.b) p.vr _ p.b (Nat.le_refl _)
     refine⟨rfl,bDh h0 hr,?_,?_⟩
     ·rw[h2]; exact⟨by omega,by omega⟩
     ·exact⟨by show (rfE (mW set p.b) p.vr p.b).w≤_; omega,by show Dt.ws p.cs≤_; omega⟩
  obtain⟨rfl,hsm,w1,w2⟩:=key
  have c20:=bDl q q2 w1 w2 []
  rw[hsm]at c20
  unfold cA at l1 hs c24 c25 c20 ⊢
  simp (config := { maxSteps := 4000000 }) (disch:=omega) only[t5,go_sem,l1,aC hs,aC c24,aC c25,c20,aC bGq,hss]
theorem bLq (l:List IV):aEb Tryz.prog 28 l=.iv (.agg l):=aVh (by rw[Tryz.underlying28])
theorem inv5 {H:Type}{ds:List (DataW H)}{ls:List (List IV)}(hh0:nQ Tryz.prog [28] ds ls)(hb:Rows.uptoBulkAll ds≤1048576):((lim K).call 5 (aG6 Tryz.prog [28] ls) []).All fun r=>r.1=.iv (.bool true):=by
 obtain⟨d0,l0,ds,ls,rfl,rfl,h0,hh1⟩:=cQ hh0
 obtain rfl:=nF hh1
 rw[sA hh1]
 simp only[Rows.uptoBulkAll]at hb
 obtain⟨p,rfl,b0,r0⟩:=bJ0 h0
 simp only[aG6,bLq]
 rw[law5 p (by omega) r0]
 exact rfl
end Go.Proofs.YtookmpaholmmfaaGreatDoor
