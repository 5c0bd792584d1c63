/- Some texts of the proof, joined. Condition: none. -/
import Derived.Test.YtehlgnfhkidgoaaGreatDoorTmProg
import Derived.Test.YtehlgnfhkidgoaaGreatDoorTmF
import Derived.Test.YtehlgnfhkidgoaaGreatDoorTmE
set_option linter.unusedSectionVars false
set_option maxRecDepth 100000
set_option maxHeartbeats 64000000
set_option linter.unusedSimpArgs false
set_option linter.unusedVariables false
namespace Go.Proofs.YtehlgnfhkidgoaaGreatDoor
open Go Go.TM
abbrev z_ : TV := .iv (.bool false)
abbrev e_ : TV := .iv (.bool true)
abbrev k_ : TV := .iv (.sl .nil [])
abbrev M_ : Type := List (List IV)
abbrev j_(n : Int) : TV := .iv (.int .i64 n)
theorem n_{α : Type _} : (∀ a b : List α, (a ++ b).length = a.length + b.length) /\ (∀(x : α) (a : List α), (x :: a).length = a.length + 1) /\ ([] : List α).length = 0 := ⟨fun _ _ => H_, fun _ _ => List.length_cons, List.length_nil⟩
theorem n0_ : ((0 : Nat) : Int) = 0 := rfl
abbrev u_:TV:=.tup []
attribute [go_sem] TM.undef
attribute [go_sem] beq_self_eq_true bW1 bW2 ifT ifF eqT eqF neT neF TM.lR bO9 List.replicate List.cons_append List.nil_append decide_true decide_false
attribute [go_sem] Nat.reduceAdd Nat.reduceSub Nat.reduceMul Nat.reduceLT Nat.reduceLeDiff Nat.reduceEqDiff Nat.reduceBEq reduceIte reduceCtorEq Int.reduceEq Int.reduceLT Int.reduceLE Int.reduceAdd Int.reduceSub Int.reduceMul Int.reduceToNat Int.reduceNeg Int.reduceBEq Int.reduceBNe Int.reduceTDiv Int.reduceTMod Int.reducePow Nat.reducePow Nat.reduceDiv Nat.reduceMod Int.reduceMod Int.reduceDiv Int.reduceNe Int.reduceFDiv
def vI(v:Int):TV:=.iv (.int .i64 v)
theorem pE{C:Ta_}{J:Tn_}{i:Nat}(h:i<C.length):sub (C.map vI++J) i 1=some [vI (C.getD i 0)]:=by simp only[sub,H_,P_,show i+1<=C.length+J.length by omega,↓reduceIte];rw[A7 (by simp;omega)];simp[Z2,h,List.getD,D_ h]
theorem aIo{C:Ta_}{J:Tn_}{i:Nat}(x:Int)(h:i<C.length):put (C.map vI++J) i [vI x]=(C.set i x).map vI++J:=by unfold put;rw[K0 (by simp;omega),J9 (by simp;omega),P2,K_ h];simp
theorem jK{j v a cap i:Nat}(h:i<a):indexAddrS 1 (.msl j v 0 a cap 1) (i:Int)=some (.ptr j v i):=by rw[aLk A_,Int.toNat_natCast,A9]
theorem bBt{j v off a cap i:Nat}(h:i<a):indexAddrS 1 (.msl j v off a cap 1) (i:Int)=some (.ptr j v (off+i)):=by rw[aLk A_,Int.toNat_natCast]
theorem lE{i d y:Nat}(h:i<=y):qI (some (i:Int)) d y=some i:=by simp[qI,h]
theorem uK{m cap b:Nat}(a:b<=cap):fO m cap none (some (b:Int)) none=some (0,b,cap):=by have:qI none cap cap=some cap:=rfl;have e:qI none 0 b=some 0:=rfl;simp[fO,this,lE a,e]
theorem pV{m cap a:Nat}(c:m<=cap)(b:a<=m):fO m cap (some (a:Int)) none none=some (a,m,cap):=by have:qI none cap cap=some cap:=rfl;have e:qI none m cap=some m:=rfl;simp[fO,this,e,lE b]
theorem wG{S:aA}{jl v m cap:Nat}{b:Bool}{cs:Tn_}(g:S[jl]?=some (.cells v b cs))(a e d:Option Int){l h c:Nat}(f:fO m cap a e d=some (l,h,c)):fA S (.sl 1) (.msl jl v 0 m cap 1) a e d=some (.msl jl v (if c=l then 0 else 0+l*1) (h-l) (c-l) 1):=by
 have i:rZ S jl v=true:=by simp[rZ,g]
 simp[fA,i,f]
theorem aPp{S:aA}{j v cap:Nat}{b:Bool}{C:Ta_}{J:Tn_}(h:S[j]?=some (.cells v b (C.map vI++J))){i:Nat}(l:i<=C.length)(m:C.length<=cap)(c':Nat): ∃J',lY [.int .i64 0] S (.msl j v (if cap=i then 0 else 0+i*1) (C.length-i) c' 1)=some (S.set j (.cells v b ((C.take i).map vI++J'))):=by
 by_cases e:C.length-i=0
 .obtain rfl:i=C.length:=A_;refine⟨J,?_⟩;have:S.set j (.cells v b (C.map vI++J))=S:=by obtain⟨f,d⟩:=E_.1 h;rw[<-d,J6]
  simp only[lY,e,↓reduceIte,C5,this]
 .have a:¬cap=i:=A_;refine⟨bE (List.replicate (C.length-i) ([IV.int .i64 0].map .iv))++J,?_⟩;have k:(bE (List.replicate (C.length-i) ([IV.int .i64 0].map TV.iv))).length=C.length-i:=by rw[aPa,aTc];simp
  have g:put (C.map vI++J) i (bE (List.replicate (C.length-i) ([IV.int .i64 0].map TV.iv)))=(C.take i).map vI++(bE (List.replicate (C.length-i) ([IV.int .i64 0].map .iv))++J):=by unfold put;rw[k,K0 (by simp;omega),show i+(C.length-i)=C.length by omega,K6 B_,<-List.map_take];simp
  simp only[lY,e,a,↓reduceIte,h,A9,H9,List.length_cons,List.length_nil,AD,H_,P_,show i+(C.length-i)<=C.length+J.length by omega,g,X3]
theorem aIp(D C:Ta_)(x:Int)(h:D.length<C.length):(D++C.drop D.length).set D.length x=(D++[x])++C.drop (D.length+1):=by rw[E1 _ _ (L_ _),M3,A7 h,List.set_cons_zero];simp
theorem uL{D C:Ta_}(h:D.length<=C.length):(D++C.drop D.length).length=C.length:=by simp;omega
theorem aIq{D C:Ta_}{j:Nat}(h:D.length<=j):(D++C.drop D.length).getD j 0=C.getD j 0:=by simp only[List.getD,t_ h,F9];rw[show D.length+(j-D.length)=j by omega]
theorem bBu(x:Int):Pure K 99 [j_ x] (.iv (.bool (decide (x<=0)))):=by refine aT t99 rfl rfl ?_;simp(disch:=omega)only[t99,go_sem]
theorem bBv{S:aA}{j v:Nat}{b:Bool}{C:Ta_}{J:Tn_}(h:S[j]?=some (.cells v b (C.map vI++J)))(y:C.length<=1000000)(cap:Nat):∀(k i:Nat) (x2 e x6 x7:TV),i+k=C.length->(∀q,q<i->0<C.getD q 0) ->∃d f m o r g,lp' (lim K) t50L0 [.msl j v 0 C.length cap 1,.fn 99 [] [],x2,e,j_ C.length,j_ i,x6,x7] S = .ret (d,[.msl j v 0 C.length cap 1,.fn 99 [] [],f,m,j_ C.length,o,r,g],S) /\(d=.exit 0/\(∀q,q<C.length->0<C.getD q 0)\/d=.ret/\∃q:Nat,f=j_ q/\q<C.length/\C.getD q 0<=0/\∀p,p<q->0<C.getD p 0)
 |0,i,x2,e,x6,x7,hk,hq=>by obtain rfl:i=C.length:=A_;refine⟨.exit 0,x2,e,j_ C.length,z_,x7,aE K _ _ t50L0.eq_1 ?_,.inl ⟨rfl,hq⟩⟩;simp(disch:=omega)only[go_sem]
 |k+1,i,x2,e,x6,x7,hk,hq=>by
  have c:i<C.length:=A_;have t:=jK (j:=j) (v:=v) (cap:=cap) c;have n:=pE (J:=J) c;have a:=bBu (C.getD i 0);have l:=h;simp only[vI]at l n;by_cases hd:C.getD i 0<=0;.rw[V_ hd]at a;refine⟨.ret,j_ i,j_ i,j_ i,e_,e_,aE K _ _ t50L0.eq_1 ?_,.inr ⟨rfl,i,rfl,c,hd,hq⟩⟩;simp(disch:=omega)only[go_sem,t,l,n,aD a]
  .rw[Z_ hd]at a;obtain⟨d,f,m,o,r,g,u,x⟩:=bBv h y cap k (i+1) x2 (j_ i) e_ z_ A_ (fun q w=>by
    rcases D2 q i with s|s;.exact hq q s
    .obtain rfl:q=i:=A_;omega)
   rw[show((i+1:Nat):Int)=(i:Int)+1 by omega]at u;refine⟨d,f,m,o,r,g,aE K _ _ t50L0.eq_1 ?_,x⟩;simp(disch:=omega)only[go_sem,t,l,n,aD a,aC];exact X_ er u
theorem bQo{S:aA}{j v:Nat}{b:Bool}{C:Ta_}{J:Tn_}(h:S[j]?=some (.cells v b (C.map vI++J)))(d:C.length<=1000000)(cap:Nat): ∃w:Int,(lim K).call 50 [.msl j v 0 C.length cap 1,.fn 99 [] []] S=.ret (j_ w,S)/\(w = -1/\(∀q,q<C.length->0<C.getD q 0)\/∃q:Nat,w=q/\q<C.length/\C.getD q 0<=0/\∀p,p<q->0<C.getD p 0):=by
 obtain⟨m,i,k,l,n,f,c,a⟩:=bBv h d cap C.length 0 (j_ 0) u_ u_ u_ A_ (fun q g=>A_);rw[n0_]at c;rcases a with⟨rfl,a⟩|⟨rfl,q,rfl,e⟩;.refine⟨-1,aI K _ (fn:=t50) rfl rfl ?_,.inl ⟨rfl,a⟩⟩;simp(disch:=omega)only[t50,go_sem];rw[c];simp(disch:=omega)only[go_sem]
 .refine⟨q,aI K _ (fn:=t50) rfl rfl ?_,.inr ⟨q,rfl,e⟩⟩;simp(disch:=omega)only[t50,go_sem];rw[c];simp(disch:=omega)only[go_sem]
def pos(C:List Int):List Int:=C.filter fun n=>decide (0<n)
theorem aTn{C:Ta_}(h:∀q,q<C.length->0<C.getD q 0):pos C=C:=by refine R8.2 fun a c=>?_;obtain⟨i,b,rfl⟩:=H3 c;have:=h i b;simp only[List.getD,D_ b,Option.getD_some]at this;exact V_ this
theorem aLs{C:Ta_}{i:Nat}(h:i<C.length):pos (C.take (i+1))=if 0<C.getD i 0 then pos (C.take i)++[C.getD i 0]else pos (C.take i):=by
 have:C.take (i+1)=C.take i++[C.getD i 0]:=by rw[G4,D_ h];simp[List.getD,D_ h]
 rw[this];unfold pos;rw[H5];by_cases h:0<C.getD i 0;.rw[K_ h];simp only[E6,V_ h,N6,List.filter_nil]
 .rw[I_ h];simp only[E6,Z_ h,List.filter_nil,Y_,I5,A0]
theorem aIr(C:Ta_):(pos C).length<=C.length:=E0 _ _
theorem jX{S:aA}{j:Nat}{B:aG}(h:S[j]?=some B):S.set j B=S:=by obtain⟨b,a⟩:=E_.1 h;rw[<-a,J6]
theorem aPq{j v:Nat}{b:Bool}{C:Ta_}{J:Tn_}(w:C.length<=1000000)(cap:Nat)(x2 x6:TV):∀(k i:Nat) (S:aA) (x5 x7 x8:TV),i+k=C.length ->S[j]?=some (.cells v b ((pos (C.take i)++C.drop (pos (C.take i)).length).map vI++J)) ->∃m d g,lp' (lim K) t40L0 [.msl j v 0 C.length cap 1,.fn 99 [] [],x2,.iv (.int .i64 ((pos (C.take i)).length:Nat)),j_ i,x5,x6,x7,x8] S = .ret (.exit 0,[.msl j v 0 C.length cap 1,.fn 99 [] [],x2,j_ ((pos C).length:Nat),j_ C.length,m,x6,d,g],S.set j (.cells v b ((pos C++C.drop (pos C).length).map vI++J)))
 |0,i,S,x5,x7,x8,hk,h=>by obtain rfl:i=C.length:=A_;rw[C5]at h |-;refine⟨x5,z_,x8,aE K _ _ t40L0.eq_1 ?_⟩;rw[jX h];simp(disch:=omega)only[go_sem]
 |k+1,i,S,x5,x7,x8,hk,h=>by
  have e:i<C.length:=A_;have r:(pos (C.take i)).length<=i:=C0 (aIr _) (by simp;omega);have f:=uL (D:=pos (C.take i)) (C:=C) A_;have t:=jK (j:=j) (v:=v) (cap:=cap) e;have o:=pE (C:=pos (C.take i)++C.drop (pos (C.take i)).length) (J:=J) (i:=i) A_;rw[aIq r]at o;have c:=bBu (C.getD i 0);have a:=aLs e;have p:=h;simp only[vI]at p o;by_cases hd:C.getD i 0<=0;.rw[I_ A_]at a;rw[V_ hd]at c;obtain⟨m,d,g,l⟩:=aPq (v:=v) (b:=b) (J:=J) w cap x2 x6 k (i+1) S (j_ (C.getD i 0)) e_ z_ A_ (by rw[a];exact h);rw[a,show((i+1:Nat):Int)=(i:Int)+1 by omega]at l;refine⟨m,d,g,aE K _ _ t40L0.eq_1 ?_⟩;simp(disch:=omega)only[go_sem,t,p,o,aD c,aC];exact X_ er l
  .rw[K_ A_]at a;rw[Z_ hd]at c;have u:(pos (C.take i)).length<C.length:=A_;have x:=jK (j:=j) (v:=v) (cap:=cap) u;have s:=aIo (C:=pos (C.take i)++C.drop (pos (C.take i)).length) (J:=J) (i:=(pos (C.take i)).length) (C.getD i 0) A_;rw[aIp _ _ _ u]at s;have q:=aN h;obtain⟨m,d,g,l⟩:=aPq (v:=v) (b:=b) (J:=J) w cap x2 x6 k (i+1) (S.set j (.cells v b (((pos (C.take i)++[C.getD i 0])++C.drop ((pos (C.take i)).length+1)).map vI++J))) (j_ (C.getD i 0)) e_ e_ A_ (by rw[a,aM q];simp);rw[a,show((i+1:Nat):Int)=(i:Int)+1 by omega,H_,List.length_singleton,H1,show(((pos (C.take i)).length+1:Nat):Int)=((pos (C.take i)).length:Int)+1 by omega]at l;have n:(pos (C.take i)).length+1<=((pos (C.take i)++C.drop (pos (C.take i)).length).map vI++J).length:=by rw[H_,P_,f];omega
   simp only[vI]at s n;refine⟨m,d,g,aE K _ _ t40L0.eq_1 ?_⟩;simp(disch:=omega)only[go_sem,t,x,p,o,aD c,aC,n,s];exact X_ er l
theorem bQp{S:aA}{j v:Nat}{b:Bool}{C:Ta_}{J:Tn_}(h:S[j]?=some (.cells v b (C.map vI++J)))(A:C.length<=1000000){cap:Nat}(L:C.length<=cap): ∃J',(lim K).call 40 [.msl j v 0 C.length cap 1,.fn 99 [] []] S=.ret (.msl j v 0 (pos C).length cap 1,S.set j (.cells v b ((pos C).map vI++J'))):=by
 obtain⟨w,l,r⟩:=bQo h A cap;rcases r with⟨rfl,r⟩|⟨q,rfl,I,F,s⟩;.rw[aTn r];refine⟨J,aI K _ (fn:=t40) rfl rfl ?_⟩;rw[jX h];simp(disch:=omega)only[t40,go_sem,l]
 .have t:pos (C.take q)=C.take q:=aTn fun p H=>by
   have x:p<q:=by simp at H;omega
   have E:=s p x;simp only[List.getD,G1 x]at E |-;exact E
  have c:pos (C.take (q+1))=C.take q:=by rw[aLs I,I_ A_,t]
  have e:(C.take q).length=q:=by simp;omega
  obtain⟨Q,N,P,y⟩:=aPq (j:=j) (v:=v) (b:=b) (C:=C) (J:=J) A cap k_ z_ (C.length-(q+1)) (q+1) S u_ u_ u_ A_ (by rw[c,e,F3];exact h);rw[c,e,show((q+1:Nat):Int)=(q:Int)+1 by omega]at y;have d:=aN h;have f:(S.set j (.cells v b ((pos C++C.drop (pos C).length).map vI++J)))[j]?=some _:=aM d _;have k:=aIr C;have g:=uL (D:=pos C) (C:=C) k;have G:=wG f _ _ _ (pV (m:=C.length) (cap:=cap) (a:=(pos C).length) L k);obtain⟨J',u⟩:=aPp (cap:=cap) f (i:=(pos C).length) A_ A_ (cap-(pos C).length);rw[g,K1,H1]at u;.have o:(S.set j (.cells v b ((pos C).map vI++J')))[j]?=some _:=aM d _;have z:=wG o _ _ _ (uK (m:=C.length) (cap:=cap) (b:=(pos C).length) A_);rw[show(if cap=0 then 0 else 0+0*1)=0 by split<;>rfl,Nat.sub_zero,Nat.sub_zero]at z;have n:¬(q:Int) = -1:=A_;refine⟨J',aI K _ (fn:=t40) rfl rfl ?_⟩;simp(disch:=omega)only[t40,go_sem,l,n,aC];rw[y];simp(disch:=omega)only[go_sem,G,fun env=>aLp _ env _ _ _ u,z]
  .rfl
theorem aTo:K.prim 46=some iK:=rfl
theorem bBw(S:aA)(j v o n c e:Nat):prV S (some iK) [.msl j v o n c e]=iK [.msl j v o n c e] S:=id rfl
theorem zE(C:Ta_):(eM C).length=C.length:=(oO C).length_eq
theorem aAt{S:aA}{j v:Nat}{b:Bool}{C:Ta_}{J:Tn_}(h:S[j]?=some (.cells v b (C.map vI++J)))(d:C.length<=1000000){cap:Nat}(c:C.length<=cap): iK [.msl j v 0 C.length cap 1] S=some (u_,S.set j (.cells v b ((eM C).map vI++J))):=by
 by_cases h0:C.length=0;.obtain rfl:C=[]:=a_ h0;have e:S.set j (.cells v b ((eM []).map vI++J))=S:=jX h;rw[e];rfl
 .have a:List.take C.length (List.drop 0 (C.map vI++J))=C.map fun n=>TV.iv (.int .i64 n):=by rw[C4,K1 B_];rfl
  have e2:List.drop C.length (C.map vI++J)=J:=K6 B_;simp only[iK,h0,↓reduceIte,h,c,A9,H_,P_,show C.length<=C.length+J.length by omega,show C.length<=1048576 by omega,X3,a,aFw,List.take_zero,List.nil_append,e2];rfl
theorem oS:∀ {l m:Ta_},l.Pairwise (·<·)->m.Pairwise (·<·)->(∀x,x∈l↔x∈m)->l=m
 |[],[],_,_,_=>rfl
 |[],b::m,_,_,h=>by have:=(h b).2 B_;cases this
 |a::l,[],_,_,h=>by have:=(h a).1 B_;cases this
 |a::l,b::m,hl,hm,h=>by
  rw[E3]at hl hm;have d:a=b:=by
   rcases J_.1 ((h a).1 B_)with e|c;.exact e
   .rcases J_.1 ((h b).2 B_)with e|h2;.exact e.symm
    .have:=hm.1 a c;have:=hl.1 b h2;omega
  subst d;rw[oS hl.2 hm.2 fun x=>?_];have f:=h x;simp only[J_]at f;constructor
  .intro c;rcases f.1 (.inr c)with rfl|h2;.have:=hl.1 x c;omega
   .exact h2
  .intro c;rcases f.2 (.inr c)with rfl|h2;.have:=hm.1 x c;omega
   .exact h2
theorem nY{C:Ta_}{i:Nat}(h:i<C.length):C.getD i 0∈C:=by simp only[List.getD,D_ h,Option.getD_some];exact B8 _
theorem iV{C:Ta_}{i:Nat}(h:i<C.length):C.take (i+1)=C.take i++[C.getD i 0]:=by rw[G4,D_ h];simp[List.getD,D_ h]
theorem aGy{C:Ta_}(a:C.Pairwise (·<=·)){p:Nat}(d:p<C.length)(e:0<p)(c:C.getD p 0≠C.getD (p-1) 0):∀x∈C.take p,x<C.getD p 0:=by
 intro x b;obtain⟨i,f,rfl⟩:=H3 b;simp at f;have g:C.getD (p-1) 0<=C.getD p 0:=by simp only[List.getD,D_ (show p-1<C.length by omega),D_ d,Option.getD_some];exact V2.1 a (p-1) p _ _ A_
 have j:C[i]<=C.getD (p-1) 0:=by
  simp only[List.getD,D_ (show p-1<C.length by omega),Option.getD_some];rcases D2 i (p-1)with h|h;.exact V2.1 a i (p-1) _ _ h
  .have:i=p-1:=A_;subst this;exact AA _
 rw[List.getElem_take];omega
theorem aCy{j v:Nat}{b:Bool}{C:Ta_}{J:Tn_}(F:C.Pairwise (·<=·))(L:C.length<=1000000){cap:Nat}(N:C.length<=cap){k0:Nat}(f:k0<C.length)(s x5 x6 x7:TV):∀(k p:Nat) (D:Ta_) (S:aA) (x8 x9:TV),p+k=C.length->k0<p->D.length<p ->D.Pairwise (·<·)->(∀x,x∈D↔x∈C.take p)->S[j]?=some (.cells v b ((D++C.drop D.length).map vI++J)) ->∃(E:Ta_) (n g:TV),lp' (lim K) t100L0 [.msl j v 0 C.length cap 1,s,j_ (D.length:Nat),.msl j v k0 (C.length-k0) (cap-k0) 1,j_ (p-k0:Nat),x5,x6,x7,x8,x9] S = .ret (.exit 2,[.msl j v 0 C.length cap 1,s,j_ (E.length:Nat),.msl j v k0 (C.length-k0) (cap-k0) 1,j_ (C.length-k0:Nat),x5,x6,x7,n,g],S.set j (.cells v b ((E++C.drop E.length).map vI++J))) /\E.Pairwise (·<·)/\(∀x,x∈E↔x∈C)/\E.length<=C.length
 |0,p,D,S,x8,x9,hk,hkp,hDp,hD,hm,h=>by obtain rfl:p=C.length:=A_;rw[C5]at hm;refine⟨D,z_,x9,aE K _ _ t100L0.eq_1 ?_,hD,hm,by omega⟩;rw[jX h];simp(disch:=omega)only[go_sem]
 |k+1,p,D,S,x8,x9,hk,hkp,hDp,hD,hm,h=>by
  have m:p<C.length:=A_;have l:=uL (D:=D) (C:=C) A_;have T:k0+(p-k0)=p:=A_;have e2:k0+(p-k0-1)=p-1:=A_;have A:=bBt (j:=j) (v:=v) (off:=k0) (cap:=cap-k0) (show p-k0<C.length-k0 by omega);have G:=bBt (j:=j) (v:=v) (off:=k0) (cap:=cap-k0) (show p-k0-1<C.length-k0 by omega);rw[T]at A;rw[e2,show((p-k0-1:Nat):Int)=((p-k0:Nat):Int)-1 by omega]at G;have t:=pE (C:=D++C.drop D.length) (J:=J) (i:=p) A_;have u:=pE (C:=D++C.drop D.length) (J:=J) (i:=p-1) A_;rw[aIq A_]at t u;have w:=h;simp only[vI]at w t u;have c:=iV m;by_cases hd:C.getD p 0=C.getD (p-1) 0
  .have q:C.getD (p-1) 0∈C.take p:=by
    have:(C.take p).getD (p-1) 0=C.getD (p-1) 0:=by simp only[List.getD,G1 (show p-1<p by omega)]
    rw[<-this];exact nY (by simp;omega)
   obtain⟨E,n,g,o,y⟩:=aCy F L N f s x5 x6 x7 k (p+1) D S e_ z_ A_ A_ A_ hD (fun x=>by
    rw[c,U_,S_,hm x];constructor;.exact .inl
    .rintro(P|rfl);.exact P
     .rw[hd];exact q) h
   rw[show((p+1-k0:Nat):Int)=((p-k0:Nat):Int)+1 by omega]at o;refine⟨E,n,g,aE K _ _ t100L0.eq_1 ?_,y⟩;simp(disch:=omega)only[go_sem,A,G,w,t,u,hd,aC];exact X_ er o
  .have d:=aGy F m A_ hd;have e:D.length<C.length:=A_;have R:=jK (j:=j) (v:=v) (cap:=cap) e;have H:=aIo (C:=D++C.drop D.length) (J:=J) (i:=D.length) (C.getD p 0) A_;rw[aIp _ _ _ e]at H;have z:=aN h;obtain⟨E,n,g,o,y⟩:=aCy (v:=v) (b:=b) (J:=J) F L N f s x5 x6 x7 k (p+1) (D++[C.getD p 0]) (S.set j (.cells v b (((D++[C.getD p 0])++C.drop (D.length+1)).map vI++J))) e_ e_ A_ A_ (by simp;omega)
    (N7.2 ⟨hD,by simp,fun a Q x I=>by rw[S_]at I;subst I;exact d a ((hm a).1 Q)⟩) (fun x=>by
    rw[c,U_,U_,hm x]) (by
    rw[aM z]
    simp)
   rw[show((p+1-k0:Nat):Int)=((p-k0:Nat):Int)+1 by omega,H_,List.length_singleton,H1,show((D.length+1:Nat):Int)=(D.length:Int)+1 by omega]at o;have r:D.length+1<=((D++C.drop D.length).map vI++J).length:=by rw[H_,P_,l];omega
   simp only[vI]at H r;refine⟨E,n,g,aE K _ _ t100L0.eq_1 ?_,y⟩;simp(disch:=omega)only[go_sem,A,G,R,w,t,u,hd,aC,r,H];exact X_ er o
theorem aLt{j v:Nat}{b:Bool}{C:Ta_}{J:Tn_}(H:C.Pairwise (·<=·))(Z:C.length<=1000000){cap:Nat}(z:C.length<=cap){S:aA}(h:S[j]?=some (.cells v b (C.map vI++J)))(u x5:TV):∀(k i:Nat) (d x4 x6 x7 x8 x9:TV),i+k=C.length->0<i->(C.take i).Pairwise (·<·) ->∃(p:aV) (E:Ta_) (J':Tn_) (y w I T R P A o g:TV),lp' (lim K) t100L1 [.msl j v 0 C.length cap 1,u,j_ i,d,x4,x5,x6,x7,x8,x9] S = .ret (p,[y,w,I,T,R,x5,P,A,o,g],S.set j (.cells v b (E.map vI++J')))/\E.Pairwise (·<·)/\(∀x,x∈E↔x∈C) /\(p=.exit 0/\y=.msl j v 0 E.length cap 1\/p=.ret/\w=.msl j v 0 E.length cap 1)
 |0,i,d,x4,x6,x7,x8,x9,hk,hi,hp=>by obtain rfl:i=C.length:=A_;rw[C5]at hp;refine⟨.exit 0,C,J,.msl j v 0 C.length cap 1,u,j_ C.length,d,x4,z_,x7,x8,x9,aE K _ _ t100L1.eq_1 ?_,hp,fun x=>Iff.rfl,.inl ⟨rfl,rfl⟩⟩;rw[jX h];simp(disch:=omega)only[go_sem]
 |k+1,i,d,x4,x6,x7,x8,x9,hk,hi,hp=>by
  have c:i<C.length:=A_;have W:=jK (j:=j) (v:=v) (cap:=cap) c;have V:=jK (j:=j) (v:=v) (cap:=cap) (show i-1<C.length by omega);rw[show((i-1:Nat):Int)=(i:Int)-1 by omega]at V;have L:=pE (J:=J) c;have N:=pE (J:=J) (show i-1<C.length by omega);have f:=iV c;have Q:=h;simp only[vI]at Q L N;by_cases hd:C.getD i 0=C.getD (i-1) 0
  .have t:C.getD (i-1) 0∈C.take i:=by
    have:(C.take i).getD (i-1) 0=C.getD (i-1) 0:=by simp only[List.getD,G1 (show i-1<i by omega)]
    rw[<-this];exact nY (by simp;omega)
   have q:(C.take i).length=i:=by simp;omega
   obtain⟨E,o,g,l1,F,G,n⟩:=aCy (j:=j) (v:=v) (b:=b) (J:=J) H Z z c u x5 e_ e_ (C.length-(i+1)) (i+1) (C.take i) S x8 x9 A_ A_ A_ hp (fun x=>by
    rw[f,U_,S_];constructor;.exact .inl
    .rintro(h1|rfl);.exact h1
     .rw[hd];exact t) (by rw[q,F3];exact h)
   rw[q,show i+1-i=1 by omega,show((1:Nat):Int)=1 from rfl]at l1;have f1:=wG h _ _ _ (pV (m:=C.length) (cap:=cap) (a:=i) z A_);rw[I_ (show ¬cap=i by omega),A9,H9]at f1;have e:=aN h;have l:(S.set j (.cells v b ((E++C.drop E.length).map vI++J)))[j]?=some _:=aM e _;have s:=uL (D:=E) (C:=C) n;have f2:=wG l _ _ _ (pV (m:=C.length) (cap:=cap) (a:=E.length) z n);obtain⟨J',f3⟩:=aPp (cap:=cap) l (i:=E.length) A_ A_ (cap-E.length);rw[s,K1 rfl,H1]at f3;have U:(S.set j (.cells v b (E.map vI++J')))[j]?=some _:=aM e _;have f4:=wG U _ _ _ (uK (m:=C.length) (cap:=cap) (b:=E.length) A_);rw[show(if cap=0 then 0 else 0+0*1)=0 by split<;>rfl,Nat.sub_zero,Nat.sub_zero]at f4;refine⟨.ret,E,J',.msl j v 0 C.length cap 1,.msl j v 0 E.length cap 1,j_ (E.length:Nat),.msl j v i (C.length-i) (cap-i) 1,j_ (C.length-i:Nat),e_,e_,o,g,aE K _ _ t100L1.eq_1 ?_,F,G,.inr ⟨rfl,rfl⟩⟩;simp(disch:=omega)only[go_sem,W,V,Q,L,N,hd,aC,f1];rw[l1];simp(disch:=omega)only[go_sem,f2,fun env=>aLp _ env _ _ _ f3,f4]
  .have r:=aGy H c A_ hd;obtain⟨p,E,J',y,w,I,T,R,P,A,o,g,Y,F⟩:=aLt H Z z h u x5 k (i+1) d x4 e_ z_ x8 x9 A_ A_ (by rw[f];exact N7.2 ⟨hp,by simp,fun a ha x hx=>by rw[S_]at hx;subst hx;exact r a ha⟩);rw[show((i+1:Nat):Int)=(i:Int)+1 by omega]at Y;refine⟨p,E,J',y,w,I,T,R,P,A,o,g,aE K _ _ t100L1.eq_1 ?_,F⟩;simp(disch:=omega)only[go_sem,W,V,Q,L,N,hd,aC];exact X_ er Y
theorem bJ1{S:aA}{j v:Nat}{b:Bool}{C D:Ta_}{J:Tn_}(k:C.Pairwise (·<=·))(n:C.length<=1000000){cap:Nat}(o:C.length<=cap)(h:S[j]?=some (.cells v b (C.map vI++J)))(i:D.Pairwise (·<·))(g:∀x,x∈D↔x∈C): ∃J',(lim K).call 100 [.msl j v 0 C.length cap 1] S=.ret (.msl j v 0 D.length cap 1,S.set j (.cells v b (D.map vI++J'))):=by
 by_cases h2:C.length<2
 .have d:C=D:=by
   refine oS ?_ i fun x=>(g x).symm;match C,h2 with
   |[],_=>simp
   |[a],_=>simp
  subst d;refine⟨J,aI K _ (fn:=t100) rfl rfl ?_⟩;rw[jX h];have c:((C.length:Nat):Int)<2:=A_;simp(disch:=omega)only[t100,go_sem,c]
 .obtain⟨A,E,J',q,t,u,y,w,F,p,s,z,e,m,f,l⟩:=aLt k n o h k_ z_ (C.length-1) 1 u_ u_ u_ u_ u_ u_ A_ A_ (by
   match C,h2 with
   |a::r,_=>simp)
  rw[show((1:Nat):Int)=1 from rfl]at e;obtain rfl:E=D:=oS m i fun x=>(f x).trans (g x).symm;have c:¬((C.length:Nat):Int)<2:=A_;refine⟨J',aI K _ (fn:=t100) rfl rfl ?_⟩;rcases l with⟨rfl,rfl⟩|⟨rfl,rfl⟩;.simp(disch:=omega)only[t100,go_sem,c];rw[e];simp(disch:=omega)only[go_sem]
  .simp(disch:=omega)only[t100,go_sem,c];rw[e];simp(disch:=omega)only[go_sem]
structure bQq (C D:List Int):Prop where
 rise:D.Pairwise (·<·)
 mem:∀x,x∈D↔x∈C/\0<x
theorem zF{S:aA}{j v:Nat}{b:Bool}{C D:Ta_}{J:Tn_}(l:C.length<=1000000){cap:Nat}(m:C.length<=cap)(h:S[j]?=some (.cells v b (C.map vI++J)))(t:bQq C D): ∃J',(lim K).call 73 [.msl j v 0 C.length cap 1] S=.ret (.msl j v 0 D.length cap 1,S.set j (.cells v b (D.map vI++J'))):=by have a:=aN h;obtain⟨J1,d⟩:=bQp h l m;have k:=aIr C;have g:(S.set j (.cells v b ((pos C).map vI++J1)))[j]?=some _:=aM a _;have i:=aAt g A_ (cap:=cap) A_;rw[H1]at i;have f:(S.set j (.cells v b ((eM (pos C)).map vI++J1)))[j]?=some _:=aM a _;have e:=zE (pos C);obtain⟨J2,c⟩:=bJ1 (D:=D) (xC (pos C)) A_ (cap:=cap) A_ f t.rise (fun x=>by rw[t.mem x,(oO (pos C)).mem_iff];simp[pos]);rw[H1,e]at c;refine⟨J2,aI K _ (fn:=t73) rfl rfl ?_⟩;simp(disch:=omega)only[t73,go_sem,d,aTo,bBw,i,c]
theorem aCz{α:Type}[Inhabited α]{l:List α}{i:Nat}(h:i<l.length):l.drop i=l.getD i default::l.drop (i+1):=by rw[A7 h,b_,D_ h];rfl
def aZ(l:List Int):List (List IV):=TM.one (.int .i64) l
theorem bBx(l:Ta_)(v:Int):aZ l++[[.int .i64 v]]=aZ (l++[v]):=by simp[aZ,TM.one]
theorem aLu{l:Ta_}:aZ l=[]↔l=[]:=by simp[aZ,TM.one]
theorem eG(l:Ta_):(aZ l).length=l.length:=by simp[aZ,TM.one]
theorem nF(l:Ta_):jL 1 (aZ l):=jL.one (fun _=>rfl) l
def tw:List Int->Int->Nat
 |[],_=>0
 |a::r,n=>if a<n then tw r n+1 else 0
theorem bPt:∀(l:Ta_) (n:Int),tw l n<=l.length
 |[],n=>L_ _
 |a::r,n=>by have:=bPt r n;unfold tw;split<;>simp<;>omega
theorem aTp:∀(l:Ta_) (n:Int),∀v∈l.take (tw l n),v<n
 |[],n,v,h=>by simp at h
 |a::r,n,v,h=>by
  unfold tw at h;split at h
  .rw[List.take_succ_cons]at h;rcases J_.1 h with rfl|h;.assumption
   .exact aTp r n v h
  .simp at h
theorem aTq:∀(l:Ta_) (n:Int),l.Pairwise (·<·)->n∉l->∀v∈l.drop (tw l n),n<v
 |[],n,_,_,v,h=>by simp at h
 |a::r,n,hp,hn,v,h=>by
  rw[E3]at hp;simp only[J_,G6]at hn;unfold tw at h;split at h;.rw[I7]at h;exact aTq r n hp.2 hn.2 v h
  .rw[C4]at h;rcases J_.1 h with rfl|h;.omega
   .have:=hp.1 v h;omega
def aPr(l:List Int)(n:Int):List Int:=if n∈l then l else l.take (tw l n)++n::l.drop (tw l n)
theorem bBy(l:Ta_)(n v:Int):v∈aPr l n↔v∈l\/v=n:=by
 unfold aPr;split
 .rename_i h;constructor;.exact .inl
  .rintro(a|rfl);.exact a
   .exact h
 .have:l.take (tw l n)++l.drop (tw l n)=l:=F3 _ _;rw[U_,J_];rw[<-this,U_];rw[F3];constructor
  .rintro(h|h|h);.exact .inl (.inl h)
   .exact .inr h
   .exact .inl (.inr h)
  .rintro((h|h)|h);.exact .inl h
   .exact .inr (.inr h)
   .exact .inr (.inl h)
theorem aWn{l:Ta_}(n:Int)(c:l.Pairwise (·<·)):(aPr l n).Pairwise (·<·):=by
 unfold aPr;split;.exact c
 .rename_i hn;have f:=aTp l n;have g:=aTq l n c hn;rw[N7,E3];refine⟨Y1 (List.take_sublist _ _) c,⟨g,Y1 (V4 _ _) c⟩,fun a e b d=>?_⟩;rcases J_.1 d with rfl|d;.exact f a e
  .have:=f a e;have:=g b d;omega
theorem bBz(l:Ta_)(n:Int):(aPr l n).length<=l.length+1:=by
 unfold aPr;split;.omega
 .have:=bPt l n;simp;omega
theorem bJ2{l ys:Ta_}{t:Tag}(h:l.length+ys.length<=8000000): bA false 1 8 3 (vN 1 3 (aZ l)) (acc 0 (aZ l)) (.iv (.sl t (aZ ys)))=some (acc 0 (aZ (l++ys)),vN 1 3 (aZ (l++ys))):=by have:=bI8 (w:=1) (b:=8) (el:=3) (l:=aZ l) (ys:=aZ ys) (x:=.iv (.sl t (aZ ys))) (fun S=>qQ.sl S t _) (nF ys) (nF l) (bR (by rw[eG,eG];omega));rw[this,show aZ l++aZ ys=aZ (l++ys) by simp[aZ,TM.one]]
structure VI where
 op:Int
 d:Int
 a:Int
 b:Int
 im:Int
 lb:Int
 tu:Tag
 us:List Int
 tm:Tag
 mp:List Int
instance:Inhabited VI:=⟨⟨0,0,0,0,0,0,.nil,[],.nil,[]⟩⟩
def aJ(v:VI):List IV:=[.int .i64 v.op,.int .i64 v.d,.int .i64 v.a,.int .i64 v.b,.int .i64 v.im,.int .i64 v.lb,.sl v.tu (TM.one (.int .i64) v.us),.sl v.tm (TM.one (.int .i64) v.mp)]
theorem dH(v:VI):aJ v=[.int .i64 v.op,.int .i64 v.d,.int .i64 v.a,.int .i64 v.b,.int .i64 v.im,.int .i64 v.lb,.sl v.tu (TM.one (.int .i64) v.us),.sl v.tm (TM.one (.int .i64) v.mp)]:=rfl
theorem aY(v:VI):(aJ v).map TV.iv=[j_ v.op,j_ v.d,j_ v.a,j_ v.b,j_ v.im,j_ v.lb,.iv (.sl v.tu (TM.one (.int .i64) v.us)),.iv (.sl v.tm (TM.one (.int .i64) v.mp))]:=rfl
theorem qU:TM.one (IV.int .i64) []=[]:=rfl
def xH(l:List Int)(n:Int):List Int:=if n<=0 then l else aPr l n
def tdy(C:List Int):List Int:=C.foldl xH []
theorem bB0(l:Ta_)(n v:Int):v∈xH l n↔v∈l\/(v=n/\0<n):=by
 unfold xH;split
 .rename_i h;constructor;.exact .inl
  .rintro(a|⟨_,b⟩);.exact a
   .omega
 .rename_i h;rw[bBy];constructor
  .rintro(a|a);.exact .inl a
   .exact .inr ⟨a,by omega⟩
  .rintro(a|⟨a,_⟩);.exact .inl a
   .exact .inr a
theorem aWo{l:Ta_}(n:Int)(h:l.Pairwise (·<·)):(xH l n).Pairwise (·<·):=by
 unfold xH;split;.exact h
 .exact aWn n h
theorem bB1(l:Ta_)(n:Int):(xH l n).length<=l.length+1:=by
 unfold xH;split;.omega
 .exact bBz l n
theorem aGz:∀(C l:Ta_),l.Pairwise (·<·)->(C.foldl xH l).Pairwise (·<·)/\∀x,x∈C.foldl xH l↔x∈l\/(x∈C/\0<x)
 |[],l,h=>⟨h,fun x=>B_⟩
 |n::C,l,h=>by
  obtain⟨c,d⟩:=aGz C (xH l n) (aWo n h);refine⟨c,fun x=>?_⟩;rw[List.foldl_cons,d x,bB0,J_];constructor
  .rintro((a|⟨rfl,b⟩)|⟨a,b⟩);.exact .inl a
   .exact .inr ⟨.inl rfl,b⟩
   .exact .inr ⟨.inr a,b⟩
  .rintro(a|⟨rfl|a,b⟩);.exact .inl (.inl a)
   .exact .inl (.inr ⟨rfl,b⟩)
   .exact .inr ⟨a,b⟩
theorem aLv:∀(C l:Ta_),(C.foldl xH l).length<=l.length+C.length
 |[],l=>L_ _
 |n::C,l=>by have a:=aLv C (xH l n);have b:=bB1 l n;rw[List.foldl_cons,List.length_cons];omega
theorem jR(C:Ta_):bQq C (tdy C):=by obtain⟨a,b⟩:=aGz C [] .nil;exact⟨a,fun x=>by rw[show x∈tdy C↔_ from b x];simp⟩
theorem uM(C:Ta_):(tdy C).length<=C.length:=by have:=aLv C [];simpa[tdy] using this
theorem aIs{C:Ta_}{x:Int}(h:x∈tdy C):0<x:=((jR C).mem x).1 h |>.2
def bB(v:VI):List Int :=
 if(1<=v.op/\v.op<=14)\/(25<=v.op/\v.op<=31)then tdy [v.a,v.b]
 else if(15<=v.op/\v.op<=24/\v.op≠23)\/v.op=64\/v.op=74 then tdy [v.a]
 else if v.op=67\/v.op=68\/v.op=72 then tdy (v.us++[26])else []
def dN:List Int:=List.map (fun n:Nat=>(n:Int)+1) (List.range 26)
def aW(v:VI):List Int :=
 if(1<=v.op/\v.op<=24)\/v.op=64\/(69<=v.op/\v.op<=71)\/v.op=73 then tdy [v.d]
 else if v.op=67 then tdy (dN++[31,v.d])else []
theorem bWb(a:Int):tdy [a]=xH [] a:=rfl
def uI(n:Nat):TV:=.iv (.int .u64 (n:Int))
theorem sK{W:Tc_}{i:Nat}(h:i<W.length):sub (W.map uI) i 1=some [uI (W.getD i 0)]:=by simp only[sub,P_,show i+1<=W.length by omega,↓reduceIte];rw[A7 (by simp;omega)];simp[List.getD,D_ h]
theorem aPs{W:Tc_}{i:Nat}(x:Nat)(h:i<W.length):put (W.map uI) i [uI x]=(W.set i x).map uI:=by unfold put;rw[List.map_set,P2,K_ (by simpa using h)];simp
def bit(W:List Nat)(r:Nat):Bool:=(W.getD (r / 64) 0).testBit (r % 64)
structure WOK (m:Nat) (W:List Nat):Prop where
 len:W.length=m
 lt:∀x∈W,x<18446744073709551616
theorem WOK.get{m:Nat}{W:Tc_}(h:WOK m W)(i:Nat):W.getD i 0<18446744073709551616:=by
 rcases D2 i W.length with a|a;.simp only[List.getD,D_ a,Option.getD_some];exact h.lt _ (B8 _)
 .simp[List.getD,B7 a]
theorem WOK.set{m:Nat}{W:Tc_}(h:WOK m W)(i x:Nat)(b:x<18446744073709551616):WOK m (W.set i x) :=
 ⟨by rw[F5,h.len],fun y a=>by
  rcases V1 a with c|rfl;.exact h.lt y c
  .exact b⟩
theorem WOK.zero(m:Nat):WOK m (List.replicate m 0):=⟨by simp,fun x a=>by rw[J8 a];decide⟩
theorem bB2(m r:Nat):bit (List.replicate m 0) r=false:=by
 unfold bit;have:(List.replicate m 0).getD (r / 64) 0=0:=by
  rcases D2 (r / 64) m with h|h;.simp[List.getD,h]
  .rw[List.getD,B7 (by simpa using h)];rfl
 rw[this];exact Q8 _
theorem aC0{W:Tc_}{i j x:Nat}(h:i<W.length):(W.set i x).getD j 0=if j=i then x else W.getD j 0:=by
 simp only[List.getD,V5];by_cases e:i=j;.subst e;simp[h]
 .rw[I_ e,I_ (B0 e)]
theorem aPt{a b:Nat}(c:a<18446744073709551616)(d:b<18446744073709551616):IntKind.u64.wrap (bOr 64 (a:Int) (b:Int))=((a ||| b:Nat):Int):=by have h:a ||| b<2 ^ 64:=Nat.or_lt_two_pow (by simpa using c) (by simpa using d);unfold bOr;rw[BitVec.toNat_or,kJ ⟨by omega,by norm_cast⟩,kJ ⟨by omega,by norm_cast⟩,Int.toNat_natCast,Int.toNat_natCast,qP];omega
def lV(a b:Nat):Nat:=(BitVec.ofNat 64 a &&& ~~~ BitVec.ofNat 64 b).toNat
theorem wH(a b:Nat):lV a b<18446744073709551616:=(BitVec.ofNat 64 a &&& ~~~ BitVec.ofNat 64 b).isLt
theorem aLw(a b i:Nat)(c:i<64):(lV a b).testBit i=(a.testBit i&&!b.testBit i):=by unfold lV;rw[BitVec.testBit_toNat,BitVec.getLsbD_and,BitVec.getLsbD_not,Y3,Y3];simp[c]
theorem aPu(a b:Nat):IntKind.u64.wrap (aCs 64 (a:Int) (b:Int))=((lV a b:Nat):Int):=by
 have h:=wH a b;unfold aCs;rw[BitVec.ofInt_natCast,BitVec.ofInt_natCast,qP];.rfl
 .exact⟨by omega,by unfold lV at h;omega⟩
theorem aLx(p:Nat):((p:Int).tdiv 64)=((p / 64:Nat):Int):=by rw[Int.tdiv_eq_ediv_of_nonneg A_];omega
theorem bB3(p:Nat):((p:Int).tmod 64)=((p % 64:Nat):Int):=by rw[U1 A_];omega
theorem bJ3{q:Nat}(b:q<64){inst:Decidable (((q:Nat):Int).toNat<=64)}:IntKind.u64.wrap (1*2 ^ (@ite Nat (((q:Nat):Int).toNat<=64) inst ((q:Nat):Int).toNat 64))=((2 ^ q:Nat):Int):=by
 have h:2 ^ q<18446744073709551616:=Y9 (n:=64) (a:=2) C_ b;have e:((2:Int) ^ q)=((2 ^ q:Nat):Int):=by push_cast;rfl
 rw[K_ A_,Int.toNat_natCast,Int.one_mul,e];generalize 2 ^ q=x at *
 rw[qP A_]
theorem aPv{q:Nat}(a:q<64):TM.binOp .shl (.iv (.int .u64 1)) (j_ ((q:Nat):Int))=some (.int .u64 ((2 ^ q:Nat):Int)):=by rw[TM.aIa,I_ A_];have:=bJ3 a (inst:=Nat.decLe _ _);show some (IV.int .u64 (IntKind.u64.wrap (1*2 ^ (if((q:Nat):Int).toNat<=64 then((q:Nat):Int).toNat else 64))))=_;rw[this]
theorem bJ4{q i:Nat}:(2 ^ q).testBit i=decide (q=i):=T0
theorem bB4{q:Nat}(h:q<64):2 ^ q<18446744073709551616:=Y9 (n:=64) (a:=2) C_ h
theorem aIt{a b:Nat}(d:a<18446744073709551616)(c:b<18446744073709551616):a ||| b<18446744073709551616:=Nat.or_lt_two_pow (n:=64) d c
theorem bT4{bytes m n:Nat}(b:dY n bytes=true):mkV [.int .u64 0] bytes m (j_ n) (j_ n)=some (.msl m 0 0 n n 1,.cells 0 false ((List.replicate n 0).map uI)):=by
 have a:bE (List.replicate n ([IV.int .u64 0].map TV.iv))=(List.replicate n 0).map uI:=by rw[aPa];simp[aFr,uI]
 have:=bNz [.int .u64 0] bytes m .i64 .i64 n n ⟨by omega,by omega,by rw[Int.toNat_natCast];exact b⟩;rw[Int.toNat_natCast,a]at this;exact this
theorem bJ5{W:Tc_}{p r:Nat}(h:p / 64<W.length):bit (W.set (p / 64) (W.getD (p / 64) 0 ||| 2 ^ (p % 64))) r=(bit W r||decide (r=p)):=by
 unfold bit;rw[aC0 h];by_cases e:r / 64=p / 64;.rw[K_ e,O3,bJ4,e];congr 1;have:(p % 64=r % 64)↔r=p:=A_;simp only[this]
 .rw[I_ e];have:¬r=p:=by rintro rfl;exact e rfl
  simp[this]
theorem aPw{j m a:Nat}(c:a<=1000000)(N:(a+63) / 64=m)(t:Tag)(l:Ta_)(R:l.length<=2000000)(d:∀x∈l,0<=x)(x2:TV):∀(k i:Nat) (W:Tc_) (S:aA) (x4 x8 x9:TV),i+k=l.length->WOK m W->S[j]?=some (.cells 0 false (W.map uI)) ->∃(W':Tc_) (u y w:TV),lp' (lim K) t55L0 [j_ a,.iv (.sl t (TM.one (.int .i64) l)),x2,.msl j 0 0 m m 1,x4,.iv (.sl t (TM.one (.int .i64) l)),j_ l.length,j_ i,x8,x9] S = .ret (.exit 0,[j_ a,.iv (.sl t (TM.one (.int .i64) l)),x2,.msl j 0 0 m m 1,u,.iv (.sl t (TM.one (.int .i64) l)),j_ l.length,j_ l.length,y,w],S.set j (.cells 0 false (W'.map uI))) /\WOK m W'/\∀r:Nat,bit W' r=true↔bit W r=true\/((r:Int)∈l.drop i/\r<a)
 |0,i,W,S,x4,x8,x9,hk,hW,h=>by obtain rfl:i=l.length:=A_;refine⟨W,x4,z_,x9,aE K _ _ t55L0.eq_1 ?_,hW,fun r=>B_⟩;rw[jX h];simp(disch:=omega)only[go_sem]
 |k+1,i,W,S,x4,x8,x9,hk,hW,h=>by
  have s:i<l.length:=A_;have e:=pO (f:=IV.int .i64) (t:=t) (l:=l) (i:=(i:Int)) A_;rw[Int.toNat_natCast]at e;have g:=aCz s;have I:0<=l.getD i default:=d _ (by simp only[List.getD,D_ s,Option.getD_some];exact B8 _);obtain⟨p,V⟩:=H6 I;rw[V]at e g;by_cases hpr:p<a
  .have D:p / 64<m:=A_;have n:p / 64<W.length:=by rw[hW.len];exact D
   have T:=jK (j:=j) (v:=0) (cap:=m) D;have P:=sK n;have J:p % 64<64:=X9 _ C_;have F:=aIt (hW.get (p / 64)) (bB4 J);have Y:=aLx p;have e2:=bB3 p;have e3:=aPv J;have U:=aPt (hW.get (p / 64)) (bB4 J);have Q:=aPs (W.getD (p / 64) 0 ||| 2 ^ (p % 64)) n;have H:=aN h;obtain⟨W',u,y,w,z,o,G⟩:=aPw c N t l R d x2 k (i+1) _ (S.set j (.cells 0 false ((W.set (p / 64) (W.getD (p / 64) 0 ||| 2 ^ (p % 64))).map uI))) (j_ p) e_ e_ A_ (hW.set (p / 64) _ F) (aM H _);rw[show((i+1:Nat):Int)=(i:Int)+1 by omega,H1]at z;have E:p / 64+1<=(W.map uI).length:=by rw[P_];omega
   have L:=h;simp only[uI]at P Q L E;refine⟨W',u,y,w,aE K _ _ t55L0.eq_1 ?_,o,fun r=>?_⟩
   .generalize hA:W.getD (p / 64) 0=A at *
    generalize hB:(2 ^ (p % 64):Nat)=B at *
    generalize hC:A ||| B=C at *
    simp(disch:=omega)only[go_sem,e,T,L,P,Y,e2,e3,U,Q,E,aC];exact X_ er z
   .rw[G r,bJ5 n,g,J_,D3,p_];constructor
    .rintro((b|rfl)|⟨b,q⟩);.exact .inl b
     .exact .inr ⟨.inl rfl,hpr⟩
     .exact .inr ⟨.inr b,q⟩
    .rintro(b|⟨b|b,q⟩);.exact .inl (.inl b)
     .exact .inl (.inr A_)
     .exact .inr ⟨b,q⟩
  .obtain⟨W',u,y,w,z,o,G⟩:=aPw c N t l R d x2 k (i+1) W S (j_ p) e_ z_ A_ hW h;rw[show((i+1:Nat):Int)=(i:Int)+1 by omega]at z;refine⟨W',u,y,w,aE K _ _ t55L0.eq_1 ?_,o,fun r=>?_⟩;.simp(disch:=omega)only[go_sem,e,aC];exact X_ er z
   .rw[G r,g,J_];constructor
    .rintro(b|⟨b,q⟩);.exact .inl b
     .exact .inr ⟨.inr b,q⟩
    .rintro(b|⟨b|b,q⟩);.exact .inl b
     .omega
     .exact .inr ⟨b,q⟩
theorem aC1{a:Nat}(b:a<=1000000)(t:Tag)(l:Ta_)(i:l.length<=2000000)(c:∀x∈l,0<=x)(S:aA): ∃W:List Nat,(lim K).call 55 [j_ a,.iv (.sl t (TM.one (.int .i64) l))] S=.ret (.msl S.length 0 0 ((a+63) / 64) ((a+63) / 64) 1,S++[.cells 0 false (W.map uI)]) /\WOK ((a+63) / 64) W/\∀r:Nat,bit W r=true↔(r:Int)∈l/\r<a:=by
 generalize hm:(a+63) / 64=m;have g:(S++[.cells 0 false ((List.replicate m 0).map uI)])[S.length]?=some (.cells 0 false ((List.replicate m 0).map uI)):=B_;obtain⟨W,o,k,p,e,j,h⟩:=aPw b hm t l i c k_ l.length 0 (List.replicate m 0) _ u_ u_ u_ A_ (WOK.zero m) g;rw[n0_,E1 _ _ (L_ _),M3,List.set_cons_zero]at e;have f:=aLx (a+63);rw[hm,show((a+63:Nat):Int)=(a:Int)+64-1 by omega]at f;have d:=bT4 (bytes:=8) (m:=S.length) (n:=m) (bR A_);refine⟨W,aI K _ (fn:=t55) rfl rfl ?_,j,fun r=>?_⟩;.simp(disch:=omega)only[t55,go_sem,aC,f,d];rw[e];simp(disch:=omega)only[go_sem]
 .rw[h r,bB2,C4];simp
theorem bJ6:∀x:Nat,x≠0->∃k y,x=2 ^ k*(2*y+1):=by
 intro x;induction x using Nat.strongRecOn with
 |ind x ih =>
  intro h;by_cases e:x % 2=1;.exact⟨0,x / 2,by rw[Nat.pow_zero,Nat.one_mul];omega⟩
  .obtain⟨k,y,a⟩:=ih (x / 2) A_ A_;refine⟨k+1,y,?_⟩;rw[Nat.pow_succ];have:x=2*(x / 2):=A_;rw[this,a];rw[show 2 ^ k*2*(2*y+1)=2*(2 ^ k*(2*y+1)) by rw[Nat.mul_comm (2 ^ k) 2,Nat.mul_assoc]]
theorem bQr(y j:Nat):(2*y+1).testBit j=if j=0 then true else y.testBit (j-1):=by
 cases j with
 |zero=>rw[K_ rfl,Nat.testBit_zero];simp
 |succ j=>rw[I_ A_,Nat.testBit_succ,show(2*y+1) / 2=y by omega];rfl
theorem bJ7(y j:Nat):(2*y).testBit j=if j=0 then false else y.testBit (j-1):=by
 cases j with
 |zero=>rw[K_ rfl,Nat.testBit_zero];simp
 |succ j=>rw[I_ A_,Nat.testBit_succ,show(2*y) / 2=y by omega];rfl
theorem bJ8(k y j:Nat):(2 ^ k*(2*y+1)).testBit j=if j<k then false else if j=k then true else y.testBit (j-k-1):=by
 have h:=T8 (2*y+1) (b:=0) (i:=k) (R5 k) j;rw[Nat.add_zero]at h;rw[h];by_cases e:j<k;.rw[K_ e,K_ e];exact Q8 _
 .rw[I_ e,I_ e,bQr];by_cases e2:j=k;.rw[K_ A_,K_ e2]
  .rw[I_ A_,I_ e2]
theorem bPu(k y j:Nat):(2 ^ k*(2*y+1)-1).testBit j=if j<k then true else if j=k then false else y.testBit (j-k-1):=by
 have a:=R5 k;have e:2 ^ k*(2*y+1)-1=2 ^ k*(2*y)+(2 ^ k-1):=by rw[Nat.mul_add,H9];omega
 have h:=T8 (2*y) (b:=2 ^ k-1) (i:=k) A_ j;rw[e,h];by_cases e:j<k;.rw[K_ e,K_ e,Nat.testBit_two_pow_sub_one];simp[e]
 .rw[I_ e,I_ e,bJ7];by_cases e2:j=k;.rw[K_ A_,K_ e2]
  .rw[I_ A_,I_ e2]
theorem bJ9(k y:Nat)(f:2 ^ k*(2*y+1)<2 ^ 64):(2 ^ k*(2*y+1)) &&& (2 ^ 64-2 ^ k*(2*y+1))=2 ^ k:=by
 have d:=R5 k;have b:0<2 ^ k*(2*y+1):=Nat.mul_pos d A_;apply Y8;intro j;have a:=Nat.testBit_two_pow_sub_succ (x:=2 ^ k*(2*y+1)-1) (n:=64) A_ j;rw[show 2 ^ k*(2*y+1)-1+1=2 ^ k*(2*y+1) by omega]at a;have c:k<64:=by
  rcases D2 k 64 with h|h;.exact h
  .have g:=N9 (n:=2) C_ h;have i:2 ^ k*1<=2 ^ k*(2*y+1):=Z4 _ A_;omega
 rw[Y0,a,bJ8,bPu,T0];by_cases e:j<k;.rw[K_ e,K2];exact(Z_ A_).symm
 .rw[I_ e,I_ e];by_cases e2:j=k;.subst e2;simp[c]
  .rw[I_ e2,I_ e2,Z_ (show ¬k=j by omega)];cases y.testBit (j-k-1)<;>simp
theorem aPx{k y:Nat}(a:2 ^ k*(2*y+1)<18446744073709551616):k<64:=by
 rcases D2 k 64 with h|h;.exact h
 .have b:=N9 (n:=2) C_ h;have c:2 ^ k*1<=2 ^ k*(2*y+1):=Z4 _ A_;omega
theorem aC2(k y j:Nat):((2 ^ k*(2*y+1)) &&& (2 ^ k*(2*y+1)-1)).testBit j=(decide (k<j)&&(2 ^ k*(2*y+1)).testBit j):=by
 rw[Y0,bJ8,bPu];by_cases e:j<k;.rw[K_ e,K_ e];simp
 .rw[I_ e,I_ e];by_cases e2:j=k;.subst e2;simp
  .rw[I_ e2,I_ e2,V_ (show k<j by omega)];simp
theorem bB5{a b m:Nat}{W V:Tc_}{S:aA}(F:m<=1000000)(E:S[a]?=some (.cells 0 false (W.map uI)))(C:S[b]?=some (.cells 0 false (V.map uI)))(s:W.length=m)(u:V.length=m)(x2 x4:TV):∀(k i:Nat) (l x7 x8:TV),i+k=m->(∀q,q<i->W.getD q 0=V.getD q 0) ->∃(g:aV) (n r x p t:TV),lp' (lim K) t80L0 [.msl a 0 0 m m 1,.msl b 0 0 m m 1,x2,l,x4,j_ m,j_ i,x7,x8] S = .ret (g,[.msl a 0 0 m m 1,.msl b 0 0 m m 1,n,r,x4,j_ m,x,p,t],S) /\(g=.exit 0/\(∀q,q<m->W.getD q 0=V.getD q 0)\/g=.ret/\n=z_/\W≠V)
 |0,i,l,x7,x8,hk,hq=>by obtain rfl:i=m:=A_;refine⟨.exit 0,x2,l,j_ i,z_,x8,aE K _ _ t80L0.eq_1 ?_,.inl ⟨rfl,hq⟩⟩;simp(disch:=omega)only[go_sem]
 |k+1,i,l,x7,x8,hk,hq=>by
  have f:i<m:=A_;have y:=jK (j:=a) (v:=0) (cap:=m) f;have A:=jK (j:=b) (v:=0) (cap:=m) f;have o:=sK (W:=W) (i:=i) A_;have w:=sK (W:=V) (i:=i) A_;have c:=E;have d:=C;simp only[uI]at o w c d;by_cases e:W.getD i 0=V.getD i 0
  .obtain⟨g,n,r,x,p,t,z,G⟩:=bB5 F E C s u x2 x4 k (i+1) (j_ i) e_ z_ A_ (fun q H=>by
    rcases D2 q i with D|D;.exact hq q D
    .obtain rfl:q=i:=A_;exact e)
   rw[show((i+1:Nat):Int)=(i:Int)+1 by omega]at z;refine⟨g,n,r,x,p,t,aE K _ _ t80L0.eq_1 ?_,G⟩;rw[e]at o;simp(disch:=omega)only[go_sem,y,A,c,d,o,w,aC];exact X_ er z
  .refine⟨.ret,z_,j_ i,j_ i,e_,e_,aE K _ _ t80L0.eq_1 ?_,.inr ⟨rfl,rfl,fun h=>e (by rw[h])⟩⟩;have e':¬((W.getD i 0:Nat):Int)=((V.getD i 0:Nat):Int):=A_;simp(disch:=omega)only[go_sem,y,A,c,d,o,w,e']
theorem bQs{a b m:Nat}{W V:Tc_}{S:aA}(i:m<=1000000)(l:S[a]?=some (.cells 0 false (W.map uI)))(k:S[b]?=some (.cells 0 false (V.map uI)))(g:W.length=m)(f:V.length=m): (lim K).call 80 [.msl a 0 0 m m 1,.msl b 0 0 m m 1] S=.ret (.iv (.bool (decide (W=V))),S):=by
 obtain⟨t,r,s,u,o,p,d,c⟩:=bB5 i l k g f z_ z_ m 0 u_ u_ u_ A_ (fun q h=>A_);rw[n0_]at d;rcases c with⟨rfl,c⟩|⟨rfl,rfl,c⟩
 .have e:W=V:=by apply M9 A_;intro q j n;have:=c q A_;simpa[List.getD,D_ j,D_ n] using this
  rw[V_ e];refine aI K _ (fn:=t80) rfl rfl ?_;simp(disch:=omega)only[t80,go_sem];rw[d];simp(disch:=omega)only[go_sem]
 .rw[Z_ c];refine aI K _ (fn:=t80) rfl rfl ?_;simp(disch:=omega)only[t80,go_sem];rw[d];simp(disch:=omega)only[go_sem]
def dbm(k:Nat):Nat:=(2 ^ k*285870213051353865) % 18446744073709551616
def bT5:List Nat:=[0,1,56,2,57,49,28,3,61,58,42,50,38,29,17,4,62,47,59,36,45,43,51,22,53,39,33,30,24,18,12,5,63,55,48,27,60,41,37,16,46,35,44,21,52,32,23,11,54,26,40,15,34,20,31,10,25,14,19,9,13,8,7,6]
theorem bT6:g0=bT5.map fun n:Nat=>IV.int .u8 (n:Int):=rfl
theorem bKa(k:Nat)(c:k<64):dbm k / 288230376151711744<64/\g0[dbm k / 288230376151711744]?=some (.int .u8 (k:Int)):=by
 have key:∀k<64,dbm k / 288230376151711744<64/\bT5[dbm k / 288230376151711744]?=some k:=by decide +kernel
 obtain⟨b,a⟩:=key k c;refine⟨b,?_⟩;rw[bT6,l_,a];rfl
theorem gl0{i k:Nat}(c:i<64)(h:g0[i]?=some (.int .u8 (k:Int))):∃p,ixA 64 1 (bGb (K.glob 0)) (.iv (.int .u64 (i:Int)))=some p/\∀env S,bQ env S p 1=some [.iv (.int .u8 (k:Int))]:=by
 have b:g0.length=64:=rfl;have a:i<g0.length:=A_;refine⟨.iv (.cp (g0.drop i)),?_,fun env S=>?_⟩;.rw[aV9,K_ A_,Int.toNat_natCast,H9];show(if i<=g0.length then some (TV.iv (.cp (g0.drop i)))else none)=_;rw[K_ A_]
 .rw[aO7];unfold sub;rw[K_ (by rw[W7];omega),C4,A7 a];rw[D_ a]at h;rw[D9 h];rfl
theorem bQt{k y:Nat}(c:2 ^ k*(2*y+1)<18446744073709551616):TM.Pure K 81 [.iv (.int .u64 ((2 ^ k*(2*y+1):Nat):Int))] (j_ (k:Int)):=by
 have m:=aPx c;have a:=bJ9 k y c;have d:=R5 k;have h:0<2 ^ k*(2*y+1):=Nat.mul_pos d A_;obtain⟨f,o⟩:=bKa k m;obtain⟨p,j,e⟩:=gl0 f o;have q:dbm k<18446744073709551616:=X9 _ C_;have n:TM.binOp .mul (.iv (.int .u64 ((2 ^ k:Nat):Int))) (.iv (.int .u64 285870213051353865))=some (.int .u64 ((dbm k:Nat):Int)):=by rw[TM.aH9];congr 2
 generalize dbm k=D at *
 generalize hX:2 ^ k*(2*y+1)=X at *
 generalize (2 ^ k:Nat)=Z at *
 have l:TM.unOp .neg (.iv (.int .u64 (X:Int)))=some (.int .u64 ((2 ^ 64-X:Nat):Int)):=by rw[aN9];congr 2;show(0-(X:Int)) % 18446744073709551616=_;omega
 have g:TM.binOp .and (.iv (.int .u64 (X:Int))) (.iv (.int .u64 ((2 ^ 64-X:Nat):Int)))=some (.int .u64 ((Z:Nat):Int)):=by
  rw[TM.aAl];congr 2;have r:Z<18446744073709551616:=by rw[<-a];exact Nat.lt_of_le_of_lt Nat.and_le_left c
  show IntKind.u64.wrap ((((BitVec.ofInt 64 (X:Int)) &&& (BitVec.ofInt 64 ((2 ^ 64-X:Nat):Int))).toNat:Nat):Int)=_;rw[BitVec.toNat_and,kJ ⟨by omega,by norm_cast⟩,kJ ⟨by omega,by omega⟩,Int.toNat_natCast,Int.toNat_natCast,a,qP A_]
 have i:TM.binOp .shr (.iv (.int .u64 ((D:Nat):Int))) (.iv (.int .u64 58))=some (.int .u64 ((D / 288230376151711744:Nat):Int)):=by rw[TM.aIb,I_ C_];congr 2;show((D:Nat):Int).fdiv 288230376151711744=_;rw[Int.fdiv_eq_ediv_of_nonneg _ C_];omega
 refine aT t81 rfl rfl ?_;have b:¬((X:Nat):Int)=0:=A_;simp(disch:=omega)only[t81,go_sem,b,l,g,n,i,j,e,aC]
def uV(n:Nat):IV:=.int .u64 (n:Int)
def kP(x:Nat):List Int:=((List.range 64).filter x.testBit).map fun n:Nat=>(n:Int)
theorem nU(x:Nat)(v:Int):v∈kP x↔∃n:Nat,v=n/\n<64/\x.testBit n=true:=by
 simp only[kP,r_,B5,C2];constructor;.rintro⟨n,⟨a,b⟩,rfl⟩;exact⟨n,rfl,a,b⟩
 .rintro⟨n,rfl,a,b⟩;exact⟨n,⟨a,b⟩,rfl⟩
theorem wI(x:Nat):(kP x).Pairwise (·<·):=by refine V3 _ (R:=(·<·)) (fun a b h=>A_) (List.Pairwise.filter _ X8)
theorem aPy:kP 0=[]:=by
 unfold kP;rw[H0.2];.rfl
 .intro a _;simp
theorem aWp{k y:Nat}(e:2 ^ k*(2*y+1)<18446744073709551616):kP (2 ^ k*(2*y+1))=(k:Int)::kP ((2 ^ k*(2*y+1)) &&& (2 ^ k*(2*y+1)-1)):=by
 have f:=aPx e;refine oS (wI _) ?_ fun v=>?_;.rw[E3];refine⟨fun a d=>?_,wI _⟩;obtain⟨n,rfl,c,b⟩:=(nU _ _).1 d;rw[aC2]at b;simp only[O_,p_]at b;omega
 .rw[J_,nU,nU];constructor
  .rintro⟨n,rfl,c,b⟩;rcases L9 n k with h|h|h;.rw[bJ8,K_ h]at b;cases b
   .exact .inl A_
   .refine .inr ⟨n,rfl,c,?_⟩;rw[aC2,b,V_ h];rfl
  .rintro(rfl|⟨n,rfl,c,b⟩);.exact⟨k,rfl,f,by rw[bJ8,I_ A_,K_ rfl]⟩
   .rw[aC2]at b;simp only[O_]at b;exact⟨n,rfl,c,b.2⟩
theorem aTr{k:Nat}(o:k<=100000)(x0 x4 x5 x6 x7:TV):∀(n x:Nat) (out:Ta_) (x8:TV),x<=n->x<18446744073709551616->out.length+(kP x).length<=7000000 ->∃d:TV,lp' (lim K) t57L0 [x0,acc 0 (aZ out),j_ k,.iv (.int .u64 x),x4,x5,x6,x7,x8] (vN 1 3 (aZ out)) = .ret (.exit 2,[x0,acc 0 (aZ (out++(kP x).map fun v=>64*(k:Int)+v)),j_ k,.iv (.int .u64 0),x4,x5,x6,x7,d],vN 1 3 (aZ (out++(kP x).map fun v=>64*(k:Int)+v)))
 |n,x,out,x8,hn,hx,ho=>by
  by_cases h0:x=0;.subst h0;rw[aPy,C3,A0];refine⟨z_,aE K _ _ t57L0.eq_1 ?_⟩;simp(disch:=omega)only[go_sem,Int.natCast_zero]
  .obtain⟨q,y,e⟩:=bJ6 x h0;have b:=aWp (k:=q) (y:=y) (by rw[<-e];exact hx);have a:=bQt (k:=q) (y:=y) (by rw[<-e];exact hx);have p:=aPx (k:=q) (y:=y) (by rw[<-e];exact hx);rw[<-e]at b a;have h:x &&& (x-1)<=x-1:=Nat.and_le_right;match n,hn with
   |0,hn=>omega
   |n+1,hn =>
    have j:(kP x).length=(kP (x &&& (x-1))).length+1:=by rw[b,List.length_cons]
    obtain⟨d,g⟩:=aTr o x0 x4 x5 x6 x7 n (x &&& (x-1)) (out++[64*(k:Int)+q]) e_ A_ A_ (by rw[H_,List.length_singleton];omega);have f:=bJ2 (l:=out) (ys:=[64*(k:Int)+q]) (t:=.full) (by simp;omega);rw[show aZ [64*(k:Int)+q]=[[.int .i64 (64*(k:Int)+q)]] from rfl]at f;have m:TM.binOp .sub (.iv (.int .u64 (x:Int))) (.iv (.int .u64 1))=some (.int .u64 ((x-1:Nat):Int)):=by rw[TM.aH8];congr 2;rw[qP A_];omega
    have i:TM.binOp .and (.iv (.int .u64 (x:Int))) (.iv (.int .u64 ((x-1:Nat):Int)))=some (.int .u64 ((x &&& (x-1):Nat):Int)):=by rw[TM.aAl];congr 2;show IntKind.u64.wrap ((((BitVec.ofInt 64 (x:Int)) &&& (BitVec.ofInt 64 ((x-1:Nat):Int))).toNat:Nat):Int)=_;rw[BitVec.toNat_and,kJ ⟨by omega,by omega⟩,kJ ⟨by omega,by omega⟩,Int.toNat_natCast,Int.toNat_natCast,qP A_]
    rw[b,Q_];rw[A8,List.singleton_append]at g;refine⟨d,aE K _ _ t57L0.eq_1 ?_⟩;have c:¬(x:Int)=0:=A_;generalize hO:(out++((64*(k:Int)+q)::(kP (x &&& (x-1))).map fun v:Int=>64*(k:Int)+v))=O at *
    generalize hP:out++[64*(k:Int)+q]=P at *
    simp(disch:=omega)only[go_sem,c,aD a,aC,f,m,i];exact X_ er g
def wlI:Nat->List Nat->List Int
 |_,[]=>[]
 |k,x::r=>(kP x).map (fun v:Int=>64*(k:Int)+v)++wlI (k+1) r
theorem aG0(x:Nat):(kP x).length<=64:=by unfold kP;rw[P_];exact C0 (E0 _ _) B_
theorem aTs:∀(k:Nat) (W:Tc_),(wlI k W).length<=64*W.length
 |_,[]=>by simp[wlI]
 |k,x::r=>by have a:=aTs (k+1) r;have b:=aG0 x;rw[wlI,H_,P_,List.length_cons];omega
theorem aIu:∀(k:Nat) (W:Tc_) (v:Int),v∈wlI k W↔∃(i n:Nat),v=64*((k+i:Nat):Int)+n/\n<64/\(W.getD i 0).testBit n=true
 |k,[],v=>by simp[wlI,List.getD]
 |k,x::r,v=>by
  rw[wlI,U_,aIu (k+1) r v,r_];constructor
  .rintro(⟨b,d,rfl⟩|⟨i,n,rfl,a,c⟩);.obtain⟨n,rfl,a,c⟩:=(nU _ _).1 d;exact⟨0,n,by simp,a,by simpa[List.getD] using c⟩
   .exact⟨i+1,n,by omega,a,by simpa[List.getD] using c⟩
  .rintro⟨i,n,rfl,a,c⟩;cases i with
   |zero=>exact .inl ⟨n,(nU _ _).2 ⟨n,rfl,a,by simpa[List.getD] using c⟩,by simp⟩
   |succ i=>exact .inr ⟨i,n,by omega,a,by simpa[List.getD] using c⟩
theorem aC3:∀(k:Nat) (W:Tc_),(wlI k W).Pairwise (·<·)
 |_,[]=>by simp[wlI]
 |k,x::r=>by rw[wlI,N7];refine⟨V3 _ (fun a b h=>A_) (wI x),aC3 (k+1) r,fun a d b e=>?_⟩;obtain⟨c,f,rfl⟩:=r_.1 d;obtain⟨n,rfl,g,o⟩:=(nU _ _).1 f;obtain⟨i,m,rfl,l,j⟩:=(aIu _ _ _).1 e;omega
theorem bB6(W:Tc_)(v:Int):v∈wlI 0 W↔∃n:Nat,v=n/\bit W n=true:=by
 rw[aIu];constructor;.rintro⟨i,n,rfl,b,a⟩;refine⟨64*i+n,by omega,?_⟩;unfold bit;rw[show(64*i+n) / 64=i by omega,show(64*i+n) % 64=n by omega];exact a
 .rintro⟨n,rfl,h⟩;exact⟨n / 64,n % 64,by omega,X9 _ C_,h⟩
theorem aTt(t:Tag)(W:Tc_)(h:∀x∈W,x<18446744073709551616)(u:W.length<=100000):∀(k i:Nat) (out:Ta_) (x2 c x7 x8:TV),i+k=W.length->out.length<=64*i ->∃(n o j e:TV),lp' (lim K) t57L1 [.iv (.sl t (TM.one uV W)),acc 0 (aZ out),x2,c,.iv (.sl t (TM.one uV W)),j_ W.length,j_ i,x7,x8] (vN 1 3 (aZ out)) = .ret (.exit 0,[.iv (.sl t (TM.one uV W)),acc 0 (aZ (out++wlI i (W.drop i))),n,o,.iv (.sl t (TM.one uV W)),j_ W.length,j_ W.length,j,e],vN 1 3 (aZ (out++wlI i (W.drop i))))
 |0,i,out,x2,c,x7,x8,hk,ho=>by obtain rfl:i=W.length:=A_;rw[D7,wlI,A0];refine⟨x2,c,z_,x8,aE K _ _ t57L1.eq_1 ?_⟩;simp(disch:=omega)only[go_sem]
 |k+1,i,out,x2,c,x7,x8,hk,ho=>by
  have b:i<W.length:=A_;have a:=pO (f:=uV) (t:=t) (l:=W) (i:=(i:Int)) A_;rw[Int.toNat_natCast]at a;have d:=aCz b;have r:W.getD i default<18446744073709551616:=h _ (by simp only[List.getD,D_ b,Option.getD_some];exact B8 _);generalize W.getD i default=x at *
  have p:=aG0 x;obtain⟨e,s⟩:=aTr (k:=i) A_ (.iv (.sl t (TM.one uV W))) (.iv (.sl t (TM.one uV W))) (j_ W.length) (j_ i) e_ x x out x8 (L_ _) r A_;obtain⟨q,y,m,w,g⟩:=aTt t W h u k (i+1) (out++(kP x).map fun v:Int=>64*(i:Int)+v) (j_ i) (.iv (.int .u64 0)) e_ e A_ (by rw[H_,P_];omega);rw[d,wlI];rw[A8,show((i+1:Nat):Int)=(i:Int)+1 by omega]at g;refine⟨q,y,m,w,aE K _ _ t57L1.eq_1 ?_⟩;generalize hO:out++((kP x).map (fun v:Int=>64*(i:Int)+v)++wlI (i+1) (W.drop (i+1)))=O at *
  generalize hP:out++(kP x).map (fun v:Int=>64*(i:Int)+v)=P at *
  rw[show uV x=IV.int .u64 (x:Int) from rfl]at a;simp(disch:=omega)only[go_sem,a];rw[s];simp(disch:=omega)only[go_sem,aC];exact X_ er g
theorem bQu(t:Tag)(W:Tc_)(c:∀x∈W,x<18446744073709551616)(b:W.length<=100000):TM.Pure K 57 [.iv (.sl t (TM.one uV W))] (.iv (.sl (iJ (aZ (wlI 0 W))) (TM.one (.int .i64) (wlI 0 W)))):=by obtain⟨f,g,d,e,a⟩:=aTt t W c b W.length 0 [] u_ u_ u_ u_ A_ B_;rw[C4,List.nil_append,n0_,show vN 1 3 (aZ [])=[] from rfl,show acc 0 (aZ [])=k_ from rfl]at a;refine TM.gO (S:=vN 1 3 (aZ (wlI 0 W))) (r:=acc 0 (aZ (wlI 0 W))) (aI K _ (fn:=t57) rfl rfl ?_) (aBw _ _ _);simp(disch:=omega)only[t57,go_sem];rw[a];simp(disch:=omega)only[go_sem]
def cF(n:Nat)(f:Nat->TV):List TV:=(List.range n).map f
def upd{α:Type}(f:Nat->α)(i:Nat)(x:α):Nat->α:=fun j=>if j=i then x else f j
theorem bU{α:Type}(f:Nat->α)(i:Nat)(x:α):upd f i x i=x:=by simp[upd]
theorem cZ{α:Type}(f:Nat->α){i j:Nat}(x:α)(h:j≠i):upd f i x j=f j:=by simp[upd,h]
theorem aC4(n:Nat)(f:Nat->TV):(cF n f).length=n:=by simp[cF]
theorem dO{n i:Nat}(f:Nat->TV)(h:i<n):sub (cF n f) i 1=some [f i]:=by simp only[sub,aC4,show i+1<=n by omega,↓reduceIte];rw[A7 (by rw[aC4];exact h)];simp[cF]
theorem lF{n i:Nat}(f:Nat->TV)(x:TV)(h:i<n):put (cF n f) i [x]=cF n (upd f i x):=by
 simp only[put,cF];apply M9;.simp;omega
 .intro j b c;simp at b c;rcases L9 j i with a|a|a;.rw[O6 (by simp;omega),O6 (by simp;omega)];simp[upd,show ¬j=i by omega]
  .subst a;rw[O6 (by simp;omega),U8 (by simp;omega)];simp[upd]
  .rw[U8 (by simp;omega)];have e:i+1+(j-(min i n+1))=j:=A_;simp[upd,show ¬j=i by omega,e]
attribute [go_sem] aC4
theorem gN0(S:aA)(a:aG)(r:aA):(S++a::r)[S.length]?=some a:=B_
theorem gN1(S:aA)(a b:aG)(r:aA):(S++a::b::r)[S.length+1]?=some b:=by rw[t_ A_];simp
theorem gN2(S:aA)(a b c:aG)(r:aA):(S++a::b::c::r)[S.length+2]?=some c:=by rw[t_ A_];simp
theorem gN3(S:aA)(a b c d:aG)(r:aA):(S++a::b::c::d::r)[S.length+3]?=some d:=by rw[t_ A_];simp
theorem gN4(S:aA)(a b c d e:aG)(r:aA):(S++a::b::c::d::e::r)[S.length+4]?=some e:=by rw[t_ A_];simp
theorem gN5(S:aA)(a b c d e f:aG)(r:aA):(S++a::b::c::d::e::f::r)[S.length+5]?=some f:=by rw[t_ A_];simp
theorem gN6(S:aA)(a b c d e f g:aG)(r:aA):(S++a::b::c::d::e::f::g::r)[S.length+6]?=some g:=by rw[t_ A_];simp
theorem gN7(S:aA)(a b c d e f g h:aG)(r:aA):(S++a::b::c::d::e::f::g::h::r)[S.length+7]?=some h:=by rw[t_ A_];simp
theorem sN1(S:aA)(a b x:aG)(r:aA):(S++a::b::r).set (S.length+1) x=S++a::x::r:=by rw[E1 _ _ A_];simp
theorem sN2(S:aA)(a b c x:aG)(r:aA):(S++a::b::c::r).set (S.length+2) x=S++a::b::x::r:=by rw[E1 _ _ A_];simp
theorem sN5(S:aA)(a b c d e f x:aG)(r:aA):(S++a::b::c::d::e::f::r).set (S.length+5) x=S++a::b::c::d::e::x::r:=by rw[E1 _ _ A_];simp
theorem sN6(S:aA)(a b c d e f g x:aG)(r:aA):(S++a::b::c::d::e::f::g::r).set (S.length+6) x=S++a::b::c::d::e::f::x::r:=by rw[E1 _ _ A_];simp
theorem sN7(S:aA)(a b c d e f g h x:aG)(r:aA):(S++a::b::c::d::e::f::g::h::r).set (S.length+7) x=S++a::b::c::d::e::f::g::x::r:=by rw[E1 _ _ A_];simp
attribute [go_sem] gN0 gN1 gN2 gN3 gN4 gN5 gN6 gN7 sN1 sN2 sN5 sN6 sN7
structure VF where
 fn:Int
 regs:Nat
 sl:Int
 nd:Int
 pr:Int
 rs:Bool
 ti:Tag
 ins:List VI
def iT(f:VF):List IV:=[.int .i64 f.fn,.int .i64 f.regs,.int .i64 f.sl,.int .i64 f.nd,.int .i64 f.pr,.bool f.rs,.sl f.ti (f.ins.map aJ)]
structure RS (S:aA) (j n m:Nat) (ia:Nat->Nat) (I:Nat->List Nat):Prop where
 row:S[j]?=some (.cells 0 false (cF n fun i=>.msl (ia i) 0 0 m m 1))
 ge:∀i,i<n->6<=ia i
 set:∀i,i<n->S[ia i]?=some (.cells 0 false ((I i).map uI))
 ok:∀i,i<n->WOK m (I i)
structure FlS (S:aA) (f:VF) (lb:List (Nat×Int×Int)) (n m:Nat) (ia oa:Nat->Nat) (I O:Nat->List Nat):Prop where
 lab:∃c,S[0]?=some (.mp (mpR kE lb) c)
 inn:RS S 1 n m ia I
 out:RS S 2 n m oa O
 flw:S[3]?=some (.cells 65 false [.iv (.int .i64 f.fn),.iv (.int .i64 f.regs),.iv (.int .i64 f.sl),.iv (.int .i64 f.nd),.iv (.int .i64 f.pr),.iv (.bool f.rs),.iv (.sl f.ti (f.ins.map aJ)),.map 0,.msl 1 0 0 n n 1,.msl 2 0 0 n n 1])
 len:6<=S.length
theorem aTu{S0:aA}{f:VF}{lb:Td_}{n m:Nat}{t H:Th_}{I O:Te_}(l:FlS S0 f lb n m t H I O)(T:m<=100000)(Y:n<=1000000){kk:Nat}(b:kk<n)(R:aA)(x0 s x2 r x5 x9 x10 x11 x12 x13 c h g:TV):∀(k i:Nat) (W:Tc_) (x8 x16:TV),i+k=m->WOK m W ->∃(W':Tc_) (u d:TV),lp' (lim K) t56L1 [x0,s,x2,r,.ptr S0.length 58 0,x5,.ptr (S0.length+2) 93 0,j_ kk,x8,x9,x10,x11,x12,x13,j_ m,j_ i,x16,c,h,g] (S0++.cells 58 false [.ptr 3 65 0]::.cells 0 false (W.map uI)::.cells 93 false [.msl (S0.length+1) 0 0 m m 1]::R) = .ret (.exit 2,[x0,s,x2,r,.ptr S0.length 58 0,x5,.ptr (S0.length+2) 93 0,j_ kk,u,x9,x10,x11,x12,x13,j_ m,j_ m,d,c,h,g],S0++.cells 58 false [.ptr 3 65 0]::.cells 0 false (W'.map uI)::.cells 93 false [.msl (S0.length+1) 0 0 m m 1]::R) /\WOK m W'/\∀q,W'.getD q 0=if i<=q/\q<m then W.getD q 0 ||| (I kk).getD q 0 else W.getD q 0
 |0,i,W,x8,x16,hk,hW=>by obtain rfl:i=m:=A_;refine⟨W,x8,z_,aE K _ _ t56L1.eq_1 ?_,hW,fun q=>by rw[I_ A_]⟩;simp(disch:=omega)only[go_sem]
 |k+1,i,W,x8,x16,hk,hW=>by
  have a:i<m:=A_;have x:=l.inn.ok kk b;have N:=jK (j:=S0.length+1) (v:=0) (cap:=m) a;have V:=jK (j:=1) (v:=0) (cap:=n) b;have U:=jK (j:=t kk) (v:=0) (cap:=m) a;have D:=sK (W:=W) (i:=i) (by rw[hW.len];exact a);have Z:=dO (fun i=>TV.msl (t i) 0 0 m m 1) b;have F:=sK (W:=I kk) (i:=i) (by rw[x.len];exact a);have J:=fun L=>aR l.inn.row L;have y:=fun L=>aR (l.inn.set kk b) L;have Q:=fun L=>aR l.flw L;have P:=aPt (hW.get i) (x.get i);have p:=aIt (hW.get i) (x.get i);have E:=aPs (W:=W) (i:=i) (W.getD i 0 ||| (I kk).getD i 0) (by rw[hW.len];exact a);have o:i+1<=(W.map uI).length:=by rw[P_,hW.len];omega
  obtain⟨W',u,d,z,w,G⟩:=aTu l T Y b R x0 s x2 r x5 x9 x10 x11 x12 x13 c h g k (i+1) (W.set i (W.getD i 0 ||| (I kk).getD i 0)) (j_ i) e_ A_ (hW.set i _ p);rw[show((i+1:Nat):Int)=(i:Int)+1 by omega]at z;simp only[uI]at D F E y o;refine⟨W',u,d,aE K _ _ t56L1.eq_1 ?_,w,fun q=>?_⟩
  .generalize hA:W.getD i 0=A at *
   generalize hB:(I kk).getD i 0=B at *
   generalize hC:A ||| B=C at *
   simp(disch:=omega)only[go_sem,N,V,U,D,Z,F,J,y,Q,P,E,o,aC];exact X_ er z
  .rw[G q,aC0 (by rw[hW.len];exact a)];by_cases e:q=i;.subst e;rw[I_ A_,K_ rfl,K_ A_]
   .rw[I_ e];by_cases e2:i+1<=q/\q<m;.rw[K_ e2,K_ A_]
    .rw[I_ e2,I_ A_]
theorem bB7(a:TV):TM.bE [[a]]=[a]:=rfl
theorem bT7(a b:TV):TM.bE [[a],[b]]=[a,b]:=rfl
theorem bT8(a b c:TV):TM.bE [[a],[b],[c]]=[a,b,c]:=rfl
attribute [go_sem] bB7 bT7 bT8
theorem bQv(l:Ta_):(l.map vI).any bH=false:=by rw[q_];intro x a;obtain⟨m,_,rfl⟩:=r_.1 a;simp[vI,bH]
theorem aC5{S:aA}{j v:Nat}{b:Bool}{C:Ta_}{J:Tn_}(h:S[j]?=some (.cells v b (C.map vI++J)))(cap:Nat):cH S (.msl j v 0 C.length cap 1)=some (TM.one (.int .i64) C):=by
 have c:sub (C.map vI++J) 0 (C.length*1)=some (C.map vI):=by simp[sub,X2]
 have e2:toIVs (C.map vI)=some (C.map (IV.int .i64)):=by
  have:C.map vI=(C.map (IV.int .i64)).map .iv:=by rw[L6];rfl
  rw[this,fL]
 have e3:∀L:List Int,cN 1 L.length (L.map (IV.int .i64))=TM.one (.int .i64) L:=by
  intro L;induction L with
  |nil=>rfl
  |cons a r ih=>simp only[Q_,List.length_cons,cN,List.take_succ_cons,List.take_zero,I7,C4,ih];rfl
 simp only[cH,h,ne_eq,C8,↓reduceIte,c,e2,Option.map_some,e3]
theorem lG{S:aA}{j v:Nat}{b:Bool}{C:Ta_}{J:Tn_}(h:S[j]?=some (.cells v b (C.map vI++J)))(cap:Nat):TM.resolve S (.msl j v 0 C.length cap 1)=some (.iv (.sl .no (TM.one (.int .i64) C))):=by show(match cH S (.msl j v 0 C.length cap 1)with|some l=>some (IV.sl .no l)|none=>none).map TV.iv=_;rw[aC5 h];rfl
theorem aG1{α:Type}(l:List α):cY .no l:=fun h=>by cases h
theorem aPz{S:aA}{j v:Nat}{C:Ta_}(mu:Bool)(r:Int)(h:S[j]?=some (.cells v true (C.map vI)))(f:C.length<=1000000)(t:Tag): bA mu 1 8 3 S (.msl j v 0 C.length C.length 1) (.iv (.sl t [[.int .i64 r]]))=some (.msl j (v+1) 0 (C.length+1) (C.length+1) 1,S.set j (.cells (v+1) true ((C++[r]).map vI))):=by have b:sub (C.map vI) 0 C.length=some (C.map vI):=mE B_;have e:dY (C.length+1) 8=true:=bR A_;have d:dS S (.iv (.sl t [[.int .i64 r]]))=some [vI r]:=rfl;have a:lenOf S (.iv (.sl t [[.int .i64 r]]))=some 1:=rfl;have c:bH (vI r)=false:=rfl;simp[bA,d,a,h,c,e,b,show ¬C.length+1<=C.length by omega]
theorem bKb{S:aA}{j v:Nat}{C:Ta_}(mu:Bool)(r:Int)(h:S[j]?=some (.cells v false (C.map vI)))(f:C.length<=1000000)(t:Tag): bA mu 1 8 3 S (.msl j v 0 C.length C.length 1) (.iv (.sl t [[.int .i64 r]]))=some (.msl S.length 0 0 (C.length+1) (C.length+1) 1,S++[.cells 0 true ((C++[r]).map vI)]):=by have b:sub (C.map vI) 0 C.length=some (C.map vI):=mE B_;have e:dY (C.length+1) 8=true:=bR A_;have d:dS S (.iv (.sl t [[.int .i64 r]]))=some [vI r]:=rfl;have a:lenOf S (.iv (.sl t [[.int .i64 r]]))=some 1:=rfl;have c:bH (vI r)=false:=rfl;simp[bA,d,a,h,c,e,b,show ¬C.length+1<=C.length by omega]
theorem aLy{S:aA}(r:Int){a:Tag}(e:a≠.no)(t:Tag): bA true 1 8 3 S (.iv (.sl a [])) (.iv (.sl t [[.int .i64 r]]))=some (.msl S.length 0 0 1 1 1,S++[.cells 0 true [vI r]]):=by have f:dY 1 8=true:=bR A_;have d:dS S (.iv (.sl t [[.int .i64 r]]))=some [vI r]:=rfl;have b:lenOf S (.iv (.sl t [[.int .i64 r]]))=some 1:=rfl;have c:bH (vI r)=false:=rfl;cases a<;>simp_all[bA,oR,bE]
theorem bKc{S:aA}{t:Tag}{l:Ta_}(d:l≠[])(f:l.length<=1000000):bA true 1 8 3 S (.iv (.sl .full [])) (.iv (.sl t (TM.one (.int .i64) l)))=some (.msl S.length 0 0 l.length l.length 1,S++[.cells 0 true (l.map vI)]):=by
 have a:dS S (.iv (.sl t (TM.one (.int .i64) l)))=some ((l.map (IV.int .i64)).map .iv):=by rw[(qQ.sl S t (TM.one (.int .i64) l)).1,aLl]
 have e2:lenOf S (.iv (.sl t (TM.one (.int .i64) l)))=some l.length:=by rw[(qQ.sl S t (TM.one (.int .i64) l)).2,TM.lR]
 have c:(l.map (IV.int .i64)).map TV.iv=l.map vI:=by rw[L6];rfl
 have e3:=bQv l;have b:l.length≠0:=by intro h;exact d (G7.1 h)
 have e:dY l.length 8=true:=bR A_;rw[c]at a;simp[bA,a,e2,e3,b,e,bE,oR]
theorem aIv{S:aA}{t:Tag}:bA true 1 8 3 S (.iv (.sl .full [])) (.iv (.sl t []))=some (.iv (.sl .full []),S):=by simp[bA,dS,lenOf,bE,aQu]
theorem aTv(l:M_):eqB .sl (.iv (.sl .nil l)) k_=some true:=id rfl
theorem aTw(l:M_):eqB .sl (.iv (.sl .full l)) k_=some false:=id rfl
theorem aTx(l:M_):eqB .sl (.iv (.sl .no l)) k_=some false:=id rfl
theorem aP0(t:Tag)(l:Ta_)(d:cY t l)(c:l.length<=1000000)(S:aA): (l=[]/\∃a,a≠.no/\(lim K).call 44 [.iv (.sl t (TM.one (.int .i64) l))] S=.ret (.iv (.sl a []),S)) \/(l≠[]/\(lim K).call 44 [.iv (.sl t (TM.one (.int .i64) l))] S=.ret (.msl S.length 0 0 l.length l.length 1,S++[.cells 0 true (l.map vI)])):=by
 by_cases hn:t=.nil;.subst hn;obtain rfl:=d rfl;refine .inl ⟨rfl,.nil,by decide,aI K S (fn:=t44) rfl rfl ?_⟩;simp(disch:=omega)only[t44,go_sem,aTv]
 .have b:eqB .sl (.iv (.sl t (TM.one (.int .i64) l))) k_=some false:=by
   cases t with
   |nil=>exact absurd rfl hn
   |full=>exact aTw _
   |no=>exact aTx _
  by_cases h0:l=[]
  .subst h0;refine .inl ⟨rfl,.full,by decide,aI K S (fn:=t44) rfl rfl ?_⟩;rw[qU]at *
   simp(disch:=omega)only[t44,go_sem,b,aIv]
  .refine .inr ⟨h0,aI K S (fn:=t44) rfl rfl ?_⟩;have:=bKc (S:=S) (t:=t) h0 c;simp(disch:=omega)only[t44,go_sem,b,this]
theorem aC6(x:Int):TM.Pure K 72 [j_ x] (.iv (.bool (decide (26<=x/\x<=31)))):=by refine aT t72 rfl rfl ?_;rcases(by omega:x<26\/(26<=x/\x<=31)\/31<x)with h|h|h<;>simp(disch:=omega)only[t72,go_sem]
theorem bKd(v:VI)(h:(1<=v.op/\v.op<=14)\/v.op=25\/(26<=v.op/\v.op<=31)):∃e,cY e (bB v)/\TM.Pure K 42 [.iv (.agg (aJ v))] (.iv (.sl e (TM.one (.int .i64) (bB v)))):=by
 have g:bB v=tdy [v.a,v.b]:=by unfold bB;rw[K_ A_]
 rw[g];have f:([.cells 0 false [vI v.a,vI v.b]]:aA)[0]?=some (.cells 0 false ([v.a,v.b].map vI++[])):=rfl;obtain⟨J,c⟩:=zF B_ (cap:=2) B_ f (jR [v.a,v.b]);have d:=aC6 v.op;refine⟨.no,aG1 _,gO (S:=[.cells 0 false ((tdy [v.a,v.b]).map vI++J)]) (aI K _ (fn:=t42) rfl rfl ?_) (lG (j:=0) (v:=0) (b:=false) (J:=J) rfl 2)⟩;simp only[vI,List.length_cons,List.length_nil,List.set_cons_zero,A9,Nat.reduceAdd]at c;rcases h with h|h|h;.simp(disch:=omega)only[t42,go_sem,aJ,Q_,C3,c]
 .simp(disch:=omega)only[t42,go_sem,aJ,Q_,C3,c]
 .rw[V_ h]at d;simp(disch:=omega)only[t42,go_sem,aJ,Q_,C3,c,aD d]
def rA:aL:=(.region [⟨.mov (.loc 13),(some 7),none⟩])
def rB:aL:=(.block 1
    (.seq (.region [⟨.load1 (.loc 6),none,none⟩,⟨.len .sl (.reg 0),(some 14),none⟩,⟨.mov (.cst (.int .i64 0)),(some 15),none⟩])
    (.block 2
     (.loop t56L1))))
def rE(N:Nat)(x0 x1 x2 x3 x5 x7 x8 x9 x10 x11 x12 x13 x14 x15 x16 x17 x18 x19:TV):Env:=[x0,x1,x2,x3,.ptr N 58 0,x5,.ptr (N+2) 93 0,x7,x8,x9,x10,x11,x12,x13,x14,x15,x16,x17,x18,x19]
def gS(S0:aA)(m:Nat)(W:List Nat)(b3 b4 Z:aG)(R:aA):aA:=S0++.cells 58 false [.ptr 3 65 0]::.cells 0 false (W.map uI)::.cells 93 false [.msl (S0.length+1) 0 0 m m 1]::b3::b4::Z::R
theorem bQw{m:Nat}{W V W':Tc_}(b:WOK m W)(a:WOK m V)(h:∀q,W'.getD q 0=if 0<=q/\q<m then W.getD q 0 ||| V.getD q 0 else W.getD q 0)(r:Nat):bit W' r=(bit W r||bit V r):=by
 unfold bit;rw[h];by_cases e:r / 64<m;.rw[K_ ⟨I8 _,e⟩,O3]
 .rw[I_ A_];have:V.getD (r / 64) 0=0:=by rw[List.getD,B7 (by rw[a.len];omega)];rfl
  rw[this,Q8,O5]
theorem bT9{S0:aA}{f:VF}{lb:Td_}{n m:Nat}{w v:Th_}{I O:Te_}(o:FlS S0 f lb n m w v I O)(x:m<=100000)(z:n<=1000000){kk:Nat}(j:kk<n)(b3 b4:aG)(R:aA)(x0 h x2 g x5 x7 x8 x9 x10 x11 x12 x13 x14 x15 x16 c e d:TV)(W:Tc_)(s:WOK m W): ∃W':List Nat,(lim K).yld (S0.length+5) [j_ kk] (gS S0 m W b3 b4 (.lp .ready none (rE S0.length x0 h x2 g x5 x7 x8 x9 x10 x11 x12 x13 x14 x15 x16 c e d) [13] rA rB) R) = .ret (e_,gS S0 m W' b3 b4 (.lp .ready none (rE S0.length x0 h x2 g x5 x7 x8 x9 x10 x11 x12 x13 x14 x15 x16 c e d) [13] rA rB) R)/\WOK m W'/\∀r,bit W' r=(bit W r||bit (I kk) r):=by
 generalize hE:rE S0.length x0 h x2 g x5 x7 x8 x9 x10 x11 x12 x13 x14 x15 x16 c e d=E;obtain⟨W',y,k,q,l,u⟩:=aTu o x z j (b3::b4::.lp .busy none E [13] rA rB::R) x0 h x2 g x5 x9 x10 x11 x12 (j_ kk) c e d m 0 W x8 x16 A_ s;refine⟨W',?_,l,bQw s (o.inn.ok kk j) u⟩;have t:=aPb (K:=K) (i:=S0.length+5) (args:=[j_ kk]) (S:=gS S0 m W b3 b4 (.lp .ready none E [13] rA rB) R) (S1:=gS S0 m W b3 b4 (.lp .ready none E [13] rA rB) R) (S2:=gS S0 m W' b3 b4 (.lp .busy none E [13] rA rB) R)
  (st:=.ready) (p:=none) (p2:=none) (p3:=none) (st3:=.busy) (env:=E) (e2:=E) (e3:=E) (ps:=[13]) (ps2:=[13]) (ps3:=[13]) (a:=rA) (b:=rB) (a2:=rA) (b2:=rB) (a3:=rA) (b3:=rB)
  (env1:=rE S0.length x0 h x2 g x5 x7 x8 x9 x10 x11 x12 (j_ kk) x14 x15 x16 c e d)
  (env2:=rE S0.length x0 h x2 g x5 (j_ kk) x8 x9 x10 x11 x12 (j_ kk) x14 x15 x16 c e d)
  (env3:=rE S0.length x0 h x2 g x5 (j_ kk) y x9 x10 x11 x12 (j_ kk) (j_ m) (j_ m) k c e d)
  (by unfold gS;rw[gN5]) (by rw[<-hE];rfl) ?_ (by unfold gS;rw[gN5]) ?_ (by unfold gS;rw[gN5])
 .rw[t];unfold gS;rw[sN5]
 .unfold rE rA;simp(disch:=omega)only[go_sem]
 .unfold gS;rw[sN5];rw[n0_]at q;generalize aG.lp .busy none E [13] rA rB=Z at *
  unfold rE rB;simp(disch:=omega)only[go_sem];rw[q];simp(disch:=omega)only[go_sem]
theorem iF(v:VI):(aJ v).length=8:=rfl
def bhd(lb:List (Nat×Int×Int))(l:List VI)(i:Nat):List Nat :=
 if(l.getD i default).op=68\/(l.getD i default).op=72 then []else
  (if(26<=(l.getD i default).op/\(l.getD i default).op<=31)\/(l.getD i default).op=66 then [(lT lb (l.getD i default).lb).toNat]else []) ++
  (if(l.getD i default).op≠66/\i+1<l.length then [i+1]else [])
def aLz(lb:List (Nat×Int×Int))(l:List VI):Prop:=∀i,i<l.length->((26<=(l.getD i default).op/\(l.getD i default).op<=31)\/(l.getD i default).op=66)->0<=lT lb (l.getD i default).lb/\lT lb (l.getD i default).lb<l.length
theorem bKe(env:Env)(S:aA)(a b c d e f g h:IV):bQ env S (.iv (.cp [a,b,c,d,e,f,g,h])) 8=some [.iv a,.iv b,.iv c,.iv d,.iv e,.iv f,.iv g,.iv h]:=by simp[bQ,sub]
attribute [go_sem] bKe
theorem bKf{S0:aA}{m:Nat}{W:Tc_}{b3 b4 Z a:aG}(x:aG)(R:aA):(gS S0 m W b3 b4 Z (a::R)).set (S0.length+6) x=gS S0 m W b3 b4 Z (x::R):=by unfold gS;rw[sN6]
theorem bKg{S0:aA}{m:Nat}{W:Tc_}{b3 b4 Z:aG}(R:aA):(gS S0 m W b3 b4 Z R)[S0.length+3]?=some b3:=by unfold gS;rw[gN3]
theorem bKh{S0:aA}{m:Nat}{W:Tc_}{b3 b4 Z:aG}(R:aA):(gS S0 m W b3 b4 Z R)[S0.length+4]?=some b4:=by unfold gS;rw[gN4]
theorem bKi{S0:aA}{m:Nat}{W:Tc_}{b3 b4 Z a:aG}(R:aA):(gS S0 m W b3 b4 Z (a::R))[S0.length+6]?=some a:=by unfold gS;rw[gN6]
theorem sM{S0:aA}{m:Nat}{W:Tc_}{b3 b4 Z:aG}(R:aA){j:Nat}{b:aG}(h:S0[j]?=some b):(gS S0 m W b3 b4 Z R)[j]?=some b:=by unfold gS;exact aR h _
theorem aP1{S0:aA}{m:Nat}{W:Tc_}{b3 b4 Z:aG}(R:aA):(gS S0 m W b3 b4 Z R).length=S0.length+(6+R.length):=by unfold gS;simp;omega
theorem bB8{S0:aA}{m:Nat}{W:Tc_}{b3 b4 Z:aG}(R L:aA):gS S0 m W b3 b4 Z R++L=gS S0 m W b3 b4 Z (R++L):=by unfold gS;simp
attribute [go_sem] bKf bKg bKh bKi bB8
theorem bKj{S0:aA}{f:VF}{lb:Td_}{n m:Nat}{V U:Th_}{I O:Te_}(G:FlS S0 f lb n m V U I O)(Q:m<=100000)(T:n<=1000000)(N:f.ins.length=n)(J:aLz lb f.ins){i:Nat}(hi:i<n)(x0 E x2 D x5 x7 x8 x9 x10 x11 x12 x13 x14 x15 x16 h o j:TV)(W:Tc_)(s:WOK m W): ∃(W':Tc_) (B:aG),(lim K).call 113 [.yld (S0.length+5),.ptr (S0.length+3) 58 0,.ptr (S0.length+4) 4 0] (gS S0 m W (.cells 58 false [.ptr 3 65 0]) (.cells 4 false [j_ i]) (.lp .ready none (rE S0.length x0 E x2 D x5 x7 x8 x9 x10 x11 x12 x13 x14 x15 x16 h o j) [13] rA rB) []) = .ret (u_,gS S0 m W' (.cells 58 false [.ptr 3 65 0]) (.cells 4 false [j_ i]) (.lp .ready none (rE S0.length x0 E x2 D x5 x7 x8 x9 x10 x11 x12 x13 x14 x15 x16 h o j) [13] rA rB) [B])/\WOK m W'/\∀r,bit W' r=(bit W r||(bhd lb f.ins i).any fun k=>bit (I k) r):=by
 have P:=J i A_;obtain⟨c0,z⟩:=G.lab;have g0:=fun W b3 b4 Z R=>sM (S0:=S0) (m:=m) (W:=W) (b3:=b3) (b4:=b4) (Z:=Z) R z;have v:=fun W b3 b4 Z R=>sM (S0:=S0) (m:=m) (W:=W) (b3:=b3) (b4:=b4) (Z:=Z) R G.flw;have c:=jF (w:=8) (f:=aJ) iF (t:=f.ti) (l:=f.ins) (i:=(i:Int)) A_;rw[Int.toNat_natCast]at c;have b:(f.ins.map aJ).length=n:=by rw[P_,N]
 have a:=fun W b3 b4 Z R=>aP1 (S0:=S0) (m:=m) (W:=W) (b3:=b3) (b4:=b4) (Z:=Z) R;have d:=aC6 (f.ins.getD i default).op;unfold bhd;generalize hx:f.ins.getD i default=x at *
 rw[dH]at c;have F:=fun kk (e:kk<n) b3 b4 R W s=>bT9 G Q T (kk:=kk) e b3 b4 R x0 E x2 D x5 x7 x8 x9 x10 x11 x12 x13 x14 x15 x16 h o j W s;generalize aG.lp .ready none (rE S0.length x0 E x2 D x5 x7 x8 x9 x10 x11 x12 x13 x14 x15 x16 h o j) [13] rA rB=Z at *
 by_cases A:x.op=68\/x.op=72
 .rw[K_ A];refine⟨W,.cells 29 false ((aJ x).map .iv),aI K _ (fn:=t113) rfl rfl ?_,s,fun r=>B_⟩;rw[aY]
  .rcases A with A|A;.simp(disch:=omega)only[t113,go_sem,g0,v,c,b,a]
   .simp(disch:=omega)only[t113,go_sem,g0,v,c,b,a]
 .rw[I_ A];have H:((n:Nat):Int)=(f.ins.length:Nat):=A_;by_cases hJ:x.op=66;.obtain⟨L,Y⟩:=P (.inr hJ);obtain⟨kk,e⟩:=H6 L;rw[K_ (.inr hJ),I_ A_,A0,e,Int.toNat_natCast];obtain⟨W',y,p,C⟩:=F kk A_ (.cells 58 false [.ptr 3 65 0]) (.cells 4 false [j_ i]) [.cells 29 false ((aJ x).map .iv)] W s;rw[aY]at y;rw[Z_ A_]at d;refine⟨W',.cells 29 false ((aJ x).map .iv),aI K _ (fn:=t113) rfl rfl ?_,p,fun r=>by rw[C r];simp⟩;rw[aY];simp(disch:=omega)only[t113,go_sem,g0,v,c,b,a,aD d,aCv,e,y,er_ret]
  .by_cases hB:26<=x.op/\x.op<=31
   .obtain⟨L,Y⟩:=P (.inl hB);obtain⟨kk,e⟩:=H6 L;rw[K_ (.inl hB),e,Int.toNat_natCast];obtain⟨W',y,p,C⟩:=F kk A_ (.cells 58 false [.ptr 3 65 0]) (.cells 4 false [j_ i]) [.cells 29 false ((aJ x).map .iv)] W s;rw[aY]at y;rw[V_ hB]at d;by_cases hi1:i+1<n;.rw[K_ ⟨hJ,by omega⟩];obtain⟨W2,g,q,u⟩:=F (i+1) hi1 (.cells 58 false [.ptr 3 65 0]) (.cells 4 false [j_ i]) [.cells 29 false ((aJ x).map .iv)] W' p;rw[aY,show((i+1:Nat):Int)=(i:Int)+1 by omega]at g;refine⟨W2,.cells 29 false ((aJ x).map .iv),aI K _ (fn:=t113) rfl rfl ?_,q,fun r=>by rw[u r,C r];simp[Bool.or_assoc]⟩;rw[aY];simp(disch:=omega)only[t113,go_sem,g0,v,c,b,a,aD d,aCv,e,y,aC,g,er_ret]
    .rw[I_ A_,A0];refine⟨W',.cells 29 false ((aJ x).map .iv),aI K _ (fn:=t113) rfl rfl ?_,p,fun r=>by rw[C r];simp⟩;rw[aY];simp(disch:=omega)only[t113,go_sem,g0,v,c,b,a,aD d,aCv,e,y,aC,er_ret]
   .rw[I_ A_,List.nil_append];rw[Z_ hB]at d;by_cases hi1:i+1<n;.rw[K_ ⟨hJ,by omega⟩];obtain⟨W2,g,q,u⟩:=F (i+1) hi1 (.cells 58 false [.ptr 3 65 0]) (.cells 4 false [j_ i]) [.cells 29 false ((aJ x).map .iv)] W s;rw[aY,show((i+1:Nat):Int)=(i:Int)+1 by omega]at g;refine⟨W2,.cells 29 false ((aJ x).map .iv),aI K _ (fn:=t113) rfl rfl ?_,q,fun r=>by rw[u r];simp⟩;rw[aY];simp(disch:=omega)only[t113,go_sem,g0,v,c,b,a,aD d,aC,g,er_ret]
    .rw[I_ A_];refine⟨W,.cells 29 false ((aJ x).map .iv),aI K _ (fn:=t113) rfl rfl ?_,s,fun r=>B_⟩;rw[aY];simp(disch:=omega)only[t113,go_sem,g0,v,c,b,a,aD d,aC,er_ret]
end Go.Proofs.YtehlgnfhkidgoaaGreatDoor
