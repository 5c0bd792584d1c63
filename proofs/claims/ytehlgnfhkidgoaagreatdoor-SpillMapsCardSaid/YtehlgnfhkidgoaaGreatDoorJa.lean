/- Some texts of the proof, joined. Condition: none. -/
import Derived.Test.YtehlgnfhkidgoaaGreatDoorTmProg
import Derived.Test.YtehlgnfhkidgoaaGreatDoorTmF
import Derived.Test.YtehlgnfhkidgoaaGreatDoorTmE
set_option maxRecDepth 100000
set_option maxHeartbeats 64000000
set_option linter.unusedSimpArgs false
set_option linter.unusedVariables false
namespace Go.Proofs.YtehlgnfhkidgoaaGreatDoor
open Go Go.TM
abbrev z_ : TV := .iv (.bool false)
abbrev e_ : TV := .iv (.bool true)
abbrev k_ : TV := .iv (.sl .nil [])
abbrev M_ : Type := List (List IV)
abbrev j_(n : Int) : TV := .iv (.int .i64 n)
theorem n_{α : Type _} : (∀ a b : List α, (a ++ b).length = a.length + b.length) /\ (∀(x : α) (a : List α), (x :: a).length = a.length + 1) /\ ([] : List α).length = 0 := ⟨fun _ _ => H_, fun _ _ => List.length_cons, List.length_nil⟩
theorem n0_ : ((0 : Nat) : Int) = 0 := rfl
abbrev u_:TV:=.tup []
attribute [go_sem] TM.undef
attribute [go_sem] beq_self_eq_true bWq bWr ifT ifF eqT eqF neT neF TM.kB bOy List.replicate List.cons_append List.nil_append decide_true decide_false
attribute [go_sem] Nat.reduceAdd Nat.reduceSub Nat.reduceMul Nat.reduceLT Nat.reduceLeDiff Nat.reduceEqDiff Nat.reduceBEq reduceIte reduceCtorEq Int.reduceEq Int.reduceLT Int.reduceLE Int.reduceAdd Int.reduceSub Int.reduceMul Int.reduceToNat Int.reduceNeg Int.reduceBEq Int.reduceBNe Int.reduceTDiv Int.reduceTMod Int.reducePow Nat.reducePow Nat.reduceDiv Nat.reduceMod Int.reduceMod Int.reduceDiv Int.reduceNe Int.reduceFDiv
def vI(v:Int):TV:=.iv (.int .i64 v)
theorem oY{C:Ta_}{J:Tn_}{i:Nat}(h:i<C.length):sub (C.map vI++J) i 1=some [vI (C.getD i 0)]:=by simp only[sub,H_,L_,show i+1<=C.length+J.length by omega,↓reduceIte];rw[A6 (by simp;omega)];simp[Y7,h,List.getD,D_ h]
theorem aIq{C:Ta_}{J:Tn_}{i:Nat}(x:Int)(h:i<C.length):put (C.map vI++J) i [vI x]=(C.set i x).map vI++J:=by unfold put;rw[K2 (by simp;omega),K3 (by simp;omega),K9,K_ h];simp
theorem iO{j v a cap i:Nat}(h:i<a):indexAddrS 1 (.msl j v 0 a cap 1) (i:Int)=some (.ptr j v i):=by rw[aLm A_,Int.toNat_natCast,A7]
theorem bBw{j v off a cap i:Nat}(h:i<a):indexAddrS 1 (.msl j v off a cap 1) (i:Int)=some (.ptr j v (off+i)):=by rw[aLm A_,Int.toNat_natCast]
theorem lB{i d y:Nat}(h:i<=y):pY (some (i:Int)) d y=some i:=by simp[pY,h]
theorem uF{m cap b:Nat}(a:b<=cap):fN m cap none (some (b:Int)) none=some (0,b,cap):=by have:pY none cap cap=some cap:=rfl;have e:pY none 0 b=some 0:=rfl;simp[fN,this,lB a,e]
theorem pL{m cap a:Nat}(b:m<=cap)(h3:a<=m):fN m cap (some (a:Int)) none none=some (a,m,cap):=by have:pY none cap cap=some cap:=rfl;have e:pY none m cap=some m:=rfl;simp[fN,this,e,lB h3]
theorem wB{S:aA}{jl v m cap:Nat}{b:Bool}{cs:Tn_}(g:S[jl]?=some (.cells v b cs))(lo a d:Option Int){l h c:Nat}(f:fN m cap lo a d=some (l,h,c)):fQ S (.sl 1) (.msl jl v 0 m cap 1) lo a d=some (.msl jl v (if c=l then 0 else 0+l*1) (h-l) (c-l) 1):=by
 have e:rU S jl v=true:=by simp[rU,g]
 simp[fQ,e,f]
theorem aPr{S:aA}{j v cap:Nat}{b:Bool}{C:Ta_}{J:Tn_}(h:S[j]?=some (.cells v b (C.map vI++J))){i:Nat}(l:i<=C.length)(m:C.length<=cap)(c':Nat): ∃J',lW [.int .i64 0] S (.msl j v (if cap=i then 0 else 0+i*1) (C.length-i) c' 1)=some (S.set j (.cells v b ((C.take i).map vI++J'))):=by
 by_cases e:C.length-i=0
 .obtain rfl:i=C.length:=A_;refine⟨J,?_⟩;have:S.set j (.cells v b (C.map vI++J))=S:=by obtain⟨d,f⟩:=E_.1 h;rw[<-f,J8]
  simp only[lW,e,↓reduceIte,C0,this]
 .have a:¬cap=i:=A_;refine⟨bC (List.replicate (C.length-i) ([IV.int .i64 0].map .iv))++J,?_⟩;have g:(bC (List.replicate (C.length-i) ([IV.int .i64 0].map TV.iv))).length=C.length-i:=by rw[aO9,aTi];simp
  have k:put (C.map vI++J) i (bC (List.replicate (C.length-i) ([IV.int .i64 0].map TV.iv)))=(C.take i).map vI++(bC (List.replicate (C.length-i) ([IV.int .i64 0].map .iv))++J):=by unfold put;rw[g,K2 (by simp;omega),show i+(C.length-i)=C.length by omega,L6 B_,<-List.map_take];simp
  simp only[lW,e,a,↓reduceIte,h,A7,I6,List.length_cons,List.length_nil,Z7,H_,L_,show i+(C.length-i)<=C.length+J.length by omega,k,W9]
theorem aIr(D C:Ta_)(x:Int)(h:D.length<C.length):(D++C.drop D.length).set D.length x=(D++[x])++C.drop (D.length+1):=by rw[E3 _ _ (O_ _),L8,A6 h,List.set_cons_zero];simp
theorem uG{D C:Ta_}(h:D.length<=C.length):(D++C.drop D.length).length=C.length:=by simp;omega
theorem aIs{D C:Ta_}{j:Nat}(h:D.length<=j):(D++C.drop D.length).getD j 0=C.getD j 0:=by simp only[List.getD,r_ h,G5];rw[show D.length+(j-D.length)=j by omega]
theorem bBx(x:Int):Pure K 99 [j_ x] (.iv (.bool (decide (x<=0)))):=by refine aT t99 rfl rfl ?_;simp(disch:=omega)only[t99,go_sem]
theorem bBy{S:aA}{j v:Nat}{b:Bool}{C:Ta_}{J:Tn_}(h:S[j]?=some (.cells v b (C.map vI++J)))(w:C.length<=1000000)(cap:Nat):∀(k i:Nat) (x2 f x6 x7:TV),i+k=C.length->(∀q,q<i->0<C.getD q 0) ->∃d e g o r n,lp' (lim K) t50L0 [.msl j v 0 C.length cap 1,.fn 99 [] [],x2,f,j_ C.length,j_ i,x6,x7] S = .ret (d,[.msl j v 0 C.length cap 1,.fn 99 [] [],e,g,j_ C.length,o,r,n],S) /\(d=.exit 0/\(∀q,q<C.length->0<C.getD q 0)\/d=.ret/\∃q:Nat,e=j_ q/\q<C.length/\C.getD q 0<=0/\∀p,p<q->0<C.getD p 0)
 |0,i,x2,f,x6,x7,hk,hq=>by obtain rfl:i=C.length:=A_;refine⟨.exit 0,x2,f,j_ C.length,z_,x7,aE K _ _ t50L0.eq_1 ?_,.inl ⟨rfl,hq⟩⟩;simp(disch:=omega)only[go_sem]
 |k+1,i,x2,f,x6,x7,hk,hq=>by
  have c:i<C.length:=A_;have t:=iO (j:=j) (v:=v) (cap:=cap) c;have l:=oY (J:=J) c;have a:=bBx (C.getD i 0);have m:=h;simp only[vI]at m l;by_cases hd:C.getD i 0<=0;.rw[V_ hd]at a;refine⟨.ret,j_ i,j_ i,j_ i,e_,e_,aE K _ _ t50L0.eq_1 ?_,.inr ⟨rfl,i,rfl,c,hd,hq⟩⟩;simp(disch:=omega)only[go_sem,t,m,l,aD a]
  .rw[l_ hd]at a;obtain⟨d,e,g,o,r,n,u,x⟩:=bBy h w cap k (i+1) x2 (j_ i) e_ z_ A_ (fun q y=>by
    rcases D2 q i with s|s;.exact hq q s
    .obtain rfl:q=i:=A_;omega)
   rw[show((i+1:Nat):Int)=(i:Int)+1 by omega]at u;refine⟨d,e,g,o,r,n,aE K _ _ t50L0.eq_1 ?_,x⟩;simp(disch:=omega)only[go_sem,t,m,l,aD a,aC];exact X_ er u
theorem bQa{S:aA}{j v:Nat}{b:Bool}{C:Ta_}{J:Tn_}(h:S[j]?=some (.cells v b (C.map vI++J)))(d:C.length<=1000000)(cap:Nat): ∃w:Int,(lim K).call 50 [.msl j v 0 C.length cap 1,.fn 99 [] []] S=.ret (j_ w,S)/\(w = -1/\(∀q,q<C.length->0<C.getD q 0)\/∃q:Nat,w=q/\q<C.length/\C.getD q 0<=0/\∀p,p<q->0<C.getD p 0):=by
 obtain⟨m,g,f,l,i,k,c,a⟩:=bBy h d cap C.length 0 (j_ 0) u_ u_ u_ A_ (fun q n=>A_);rw[n0_]at c;rcases a with⟨rfl,a⟩|⟨rfl,q,rfl,e⟩;.refine⟨-1,aI K _ (fn:=t50) rfl rfl ?_,.inl ⟨rfl,a⟩⟩;simp(disch:=omega)only[t50,go_sem];rw[c];simp(disch:=omega)only[go_sem]
 .refine⟨q,aI K _ (fn:=t50) rfl rfl ?_,.inr ⟨q,rfl,e⟩⟩;simp(disch:=omega)only[t50,go_sem];rw[c];simp(disch:=omega)only[go_sem]
def pos(C:List Int):List Int:=C.filter fun n=>decide (0<n)
theorem aTr{C:Ta_}(h:∀q,q<C.length->0<C.getD q 0):pos C=C:=by refine R8.2 fun a c=>?_;obtain⟨i,b,rfl⟩:=H8 c;have:=h i b;simp only[List.getD,D_ b,Option.getD_some]at this;exact V_ this
theorem aLt{C:Ta_}{i:Nat}(h:i<C.length):pos (C.take (i+1))=if 0<C.getD i 0 then pos (C.take i)++[C.getD i 0]else pos (C.take i):=by
 have:C.take (i+1)=C.take i++[C.getD i 0]:=by rw[G9,D_ h];simp[List.getD,D_ h]
 rw[this];unfold pos;rw[I5];by_cases h:0<C.getD i 0;.rw[K_ h];simp only[E4,V_ h,N8,List.filter_nil]
 .rw[I_ h];simp only[E4,l_ h,List.filter_nil,b_,I9,A4]
theorem aIt(C:Ta_):(pos C).length<=C.length:=D8 _ _
theorem jU{S:aA}{j:Nat}{B:aG}(h:S[j]?=some B):S.set j B=S:=by obtain⟨a,b⟩:=E_.1 h;rw[<-b,J8]
theorem aPs{j v:Nat}{b:Bool}{C:Ta_}{J:Tn_}(u:C.length<=1000000)(cap:Nat)(x2 x6:TV):∀(k i:Nat) (S:aA) (x5 x7 x8:TV),i+k=C.length ->S[j]?=some (.cells v b ((pos (C.take i)++C.drop (pos (C.take i)).length).map vI++J)) ->∃f e n,lp' (lim K) t40L0 [.msl j v 0 C.length cap 1,.fn 99 [] [],x2,.iv (.int .i64 ((pos (C.take i)).length:Nat)),j_ i,x5,x6,x7,x8] S = .ret (.exit 0,[.msl j v 0 C.length cap 1,.fn 99 [] [],x2,j_ ((pos C).length:Nat),j_ C.length,f,x6,e,n],S.set j (.cells v b ((pos C++C.drop (pos C).length).map vI++J)))
 |0,i,S,x5,x7,x8,hk,h=>by obtain rfl:i=C.length:=A_;rw[C0]at h |-;refine⟨x5,z_,x8,aE K _ _ t40L0.eq_1 ?_⟩;rw[jU h];simp(disch:=omega)only[go_sem]
 |k+1,i,S,x5,x7,x8,hk,h=>by
  have l:i<C.length:=A_;have p:(pos (C.take i)).length<=i:=B9 (aIt _) (by simp;omega);have d:=uG (D:=pos (C.take i)) (C:=C) A_;have w:=iO (j:=j) (v:=v) (cap:=cap) l;have o:=oY (C:=pos (C.take i)++C.drop (pos (C.take i)).length) (J:=J) (i:=i) A_;rw[aIs p]at o;have c:=bBx (C.getD i 0);have a:=aLt l;have q:=h;simp only[vI]at q o;by_cases hd:C.getD i 0<=0;.rw[I_ A_]at a;rw[V_ hd]at c;obtain⟨f,e,n,m⟩:=aPs (v:=v) (b:=b) (J:=J) u cap x2 x6 k (i+1) S (j_ (C.getD i 0)) e_ z_ A_ (by rw[a];exact h);rw[a,show((i+1:Nat):Int)=(i:Int)+1 by omega]at m;refine⟨f,e,n,aE K _ _ t40L0.eq_1 ?_⟩;simp(disch:=omega)only[go_sem,w,q,o,aD c,aC];exact X_ er m
  .rw[K_ A_]at a;rw[l_ hd]at c;have t:(pos (C.take i)).length<C.length:=A_;have x:=iO (j:=j) (v:=v) (cap:=cap) t;have r:=aIq (C:=pos (C.take i)++C.drop (pos (C.take i)).length) (J:=J) (i:=(pos (C.take i)).length) (C.getD i 0) A_;rw[aIr _ _ _ t]at r;have s:=aN h;obtain⟨f,e,n,m⟩:=aPs (v:=v) (b:=b) (J:=J) u cap x2 x6 k (i+1) (S.set j (.cells v b (((pos (C.take i)++[C.getD i 0])++C.drop ((pos (C.take i)).length+1)).map vI++J))) (j_ (C.getD i 0)) e_ e_ A_ (by rw[a,aM s];simp);rw[a,show((i+1:Nat):Int)=(i:Int)+1 by omega,H_,List.length_singleton,H0,show(((pos (C.take i)).length+1:Nat):Int)=((pos (C.take i)).length:Int)+1 by omega]at m;have g:(pos (C.take i)).length+1<=((pos (C.take i)++C.drop (pos (C.take i)).length).map vI++J).length:=by rw[H_,L_,d];omega
   simp only[vI]at r g;refine⟨f,e,n,aE K _ _ t40L0.eq_1 ?_⟩;simp(disch:=omega)only[go_sem,w,x,q,o,aD c,aC,g,r];exact X_ er m
theorem bQb{S:aA}{j v:Nat}{b:Bool}{C:Ta_}{J:Tn_}(h:S[j]?=some (.cells v b (C.map vI++J)))(u:C.length<=1000000){cap:Nat}(I:C.length<=cap): ∃J',(lim K).call 40 [.msl j v 0 C.length cap 1,.fn 99 [] []] S=.ret (.msl j v 0 (pos C).length cap 1,S.set j (.cells v b ((pos C).map vI++J'))):=by
 obtain⟨w,g,t⟩:=bQa h u cap;rcases t with⟨rfl,t⟩|⟨q,rfl,H,F,n⟩;.rw[aTr t];refine⟨J,aI K _ (fn:=t40) rfl rfl ?_⟩;rw[jU h];simp(disch:=omega)only[t40,go_sem,g]
 .have o:pos (C.take q)=C.take q:=aTr fun p L=>by
   have E:p<q:=by simp at L;omega
   have y:=n p E;simp only[List.getD,G7 E]at y |-;exact y
  have c:pos (C.take (q+1))=C.take q:=by rw[aLt H,I_ A_,o]
  have k:(C.take q).length=q:=by simp;omega
  obtain⟨P,N,Q,z⟩:=aPs (j:=j) (v:=v) (b:=b) (C:=C) (J:=J) u cap k_ z_ (C.length-(q+1)) (q+1) S u_ u_ u_ A_ (by rw[c,k,F9];exact h);rw[c,k,show((q+1:Nat):Int)=(q:Int)+1 by omega]at z;have f:=aN h;have l:(S.set j (.cells v b ((pos C++C.drop (pos C).length).map vI++J)))[j]?=some _:=aM f _;have d:=aIt C;have e:=uG (D:=pos C) (C:=C) d;have G:=wB l _ _ _ (pL (m:=C.length) (cap:=cap) (a:=(pos C).length) I d);obtain⟨J',x⟩:=aPr (cap:=cap) l (i:=(pos C).length) A_ A_ (cap-(pos C).length);rw[e,K4,H0]at x;.have r:(S.set j (.cells v b ((pos C).map vI++J')))[j]?=some _:=aM f _;have A:=wB r _ _ _ (uF (m:=C.length) (cap:=cap) (b:=(pos C).length) A_);rw[show(if cap=0 then 0 else 0+0*1)=0 by split<;>rfl,Nat.sub_zero,Nat.sub_zero]at A;have s:¬(q:Int) = -1:=A_;refine⟨J',aI K _ (fn:=t40) rfl rfl ?_⟩;simp(disch:=omega)only[t40,go_sem,g,s,aC];rw[z];simp(disch:=omega)only[go_sem,G,fun env=>aLr _ env _ _ _ x,A]
  .rfl
theorem aTs:K.prim 46=some iH:=rfl
theorem bBz(S:aA)(j v o n c e:Nat):prV S (some iH) [.msl j v o n c e]=iH [.msl j v o n c e] S:=id rfl
theorem uH(C:Ta_):(eG C).length=C.length:=(lQ C).length_eq
theorem aAo{S:aA}{j v:Nat}{b:Bool}{C:Ta_}{J:Tn_}(h:S[j]?=some (.cells v b (C.map vI++J)))(d:C.length<=1000000){cap:Nat}(c:C.length<=cap): iH [.msl j v 0 C.length cap 1] S=some (u_,S.set j (.cells v b ((eG C).map vI++J))):=by
 by_cases h0:C.length=0;.obtain rfl:C=[]:=Z_ h0;have e:S.set j (.cells v b ((eG []).map vI++J))=S:=jU h;rw[e];rfl
 .have a:List.take C.length (List.drop 0 (C.map vI++J))=C.map fun n=>TV.iv (.int .i64 n):=by rw[C4,K4 B_];rfl
  have e2:List.drop C.length (C.map vI++J)=J:=L6 B_;simp only[iH,h0,↓reduceIte,h,c,A7,H_,L_,show C.length<=C.length+J.length by omega,show C.length<=1048576 by omega,W9,a,aFv,List.take_zero,List.nil_append,e2];rfl
theorem oO:∀ {l m:Ta_},l.Pairwise (·<·)->m.Pairwise (·<·)->(∀x,x∈l↔x∈m)->l=m
 |[],[],_,_,_=>rfl
 |[],b::m,_,_,h=>by have:=(h b).2 B_;cases this
 |a::l,[],_,_,h=>by have:=(h a).1 B_;cases this
 |a::l,b::m,hl,hm,h=>by
  rw[E6]at hl hm;have f:a=b:=by
   rcases J_.1 ((h a).1 B_)with e|c;.exact e
   .rcases J_.1 ((h b).2 B_)with e|h2;.exact e.symm
    .have:=hm.1 a c;have:=hl.1 b h2;omega
  subst f;rw[oO hl.2 hm.2 fun x=>?_];have d:=h x;simp only[J_]at d;constructor
  .intro c;rcases d.1 (.inr c)with rfl|h2;.have:=hl.1 x c;omega
   .exact h2
  .intro c;rcases d.2 (.inr c)with rfl|h2;.have:=hm.1 x c;omega
   .exact h2
theorem nU{C:Ta_}{i:Nat}(h:i<C.length):C.getD i 0∈C:=by simp only[List.getD,D_ h,Option.getD_some];exact B8 _
theorem iR{C:Ta_}{i:Nat}(h:i<C.length):C.take (i+1)=C.take i++[C.getD i 0]:=by rw[G9,D_ h];simp[List.getD,D_ h]
theorem aGu{C:Ta_}(a:C.Pairwise (·<=·)){p:Nat}(f:p<C.length)(b:0<p)(d:C.getD p 0≠C.getD (p-1) 0):∀x∈C.take p,x<C.getD p 0:=by
 intro x e;obtain⟨i,c,rfl⟩:=H8 e;simp at c;have g:C.getD (p-1) 0<=C.getD p 0:=by simp only[List.getD,D_ (show p-1<C.length by omega),D_ f,Option.getD_some];exact O6.1 a (p-1) p _ _ A_
 have j:C[i]<=C.getD (p-1) 0:=by
  simp only[List.getD,D_ (show p-1<C.length by omega),Option.getD_some];rcases D2 i (p-1)with h|h;.exact O6.1 a i (p-1) _ _ h
  .have:i=p-1:=A_;subst this;exact Z6 _
 rw[List.getElem_take];omega
theorem aCz{j v:Nat}{b:Bool}{C:Ta_}{J:Tn_}(H:C.Pairwise (·<=·))(I:C.length<=1000000){cap:Nat}(L:C.length<=cap){k0:Nat}(g:k0<C.length)(t x5 x6 x7:TV):∀(k p:Nat) (D:Ta_) (S:aA) (x8 x9:TV),p+k=C.length->k0<p->D.length<p ->D.Pairwise (·<·)->(∀x,x∈D↔x∈C.take p)->S[j]?=some (.cells v b ((D++C.drop D.length).map vI++J)) ->∃(E:Ta_) (q f:TV),lp' (lim K) t100L0 [.msl j v 0 C.length cap 1,t,j_ (D.length:Nat),.msl j v k0 (C.length-k0) (cap-k0) 1,j_ (p-k0:Nat),x5,x6,x7,x8,x9] S = .ret (.exit 2,[.msl j v 0 C.length cap 1,t,j_ (E.length:Nat),.msl j v k0 (C.length-k0) (cap-k0) 1,j_ (C.length-k0:Nat),x5,x6,x7,q,f],S.set j (.cells v b ((E++C.drop E.length).map vI++J))) /\E.Pairwise (·<·)/\(∀x,x∈E↔x∈C)/\E.length<=C.length
 |0,p,D,S,x8,x9,hk,hkp,hDp,hD,hm,h=>by obtain rfl:p=C.length:=A_;rw[C0]at hm;refine⟨D,z_,x9,aE K _ _ t100L0.eq_1 ?_,hD,hm,by omega⟩;rw[jU h];simp(disch:=omega)only[go_sem]
 |k+1,p,D,S,x8,x9,hk,hkp,hDp,hD,hm,h=>by
  have c:p<C.length:=A_;have d:=uG (D:=D) (C:=C) A_;have Q:k0+(p-k0)=p:=A_;have e2:k0+(p-k0-1)=p-1:=A_;have F:=bBw (j:=j) (v:=v) (off:=k0) (cap:=cap-k0) (show p-k0<C.length-k0 by omega);have G:=bBw (j:=j) (v:=v) (off:=k0) (cap:=cap-k0) (show p-k0-1<C.length-k0 by omega);rw[Q]at F;rw[e2,show((p-k0-1:Nat):Int)=((p-k0:Nat):Int)-1 by omega]at G;have s:=oY (C:=D++C.drop D.length) (J:=J) (i:=p) A_;have u:=oY (C:=D++C.drop D.length) (J:=J) (i:=p-1) A_;rw[aIs A_]at s u;have w:=h;simp only[vI]at w s u;have r:=iR c;by_cases hd:C.getD p 0=C.getD (p-1) 0
  .have n:C.getD (p-1) 0∈C.take p:=by
    have:(C.take p).getD (p-1) 0=C.getD (p-1) 0:=by simp only[List.getD,G7 (show p-1<p by omega)]
    rw[<-this];exact nU (by simp;omega)
   obtain⟨E,q,f,o,y⟩:=aCz H I L g t x5 x6 x7 k (p+1) D S e_ z_ A_ A_ A_ hD (fun x=>by
    rw[r,a_,U_,hm x];constructor;.exact .inl
    .rintro(R|rfl);.exact R
     .rw[hd];exact n) h
   rw[show((p+1-k0:Nat):Int)=((p-k0:Nat):Int)+1 by omega]at o;refine⟨E,q,f,aE K _ _ t100L0.eq_1 ?_,y⟩;simp(disch:=omega)only[go_sem,F,G,w,s,u,hd,aC];exact X_ er o
  .have m:=aGu H c A_ hd;have e:D.length<C.length:=A_;have P:=iO (j:=j) (v:=v) (cap:=cap) e;have z:=aIq (C:=D++C.drop D.length) (J:=J) (i:=D.length) (C.getD p 0) A_;rw[aIr _ _ _ e]at z;have A:=aN h;obtain⟨E,q,f,o,y⟩:=aCz (v:=v) (b:=b) (J:=J) H I L g t x5 x6 x7 k (p+1) (D++[C.getD p 0]) (S.set j (.cells v b (((D++[C.getD p 0])++C.drop (D.length+1)).map vI++J))) e_ e_ A_ A_ (by simp;omega)
    (O4.2 ⟨hD,by simp,fun a T x N=>by rw[U_]at N;subst N;exact m a ((hm a).1 T)⟩) (fun x=>by
    rw[r,a_,a_,hm x]) (by
    rw[aM A]
    simp)
   rw[show((p+1-k0:Nat):Int)=((p-k0:Nat):Int)+1 by omega,H_,List.length_singleton,H0,show((D.length+1:Nat):Int)=(D.length:Int)+1 by omega]at o;have l:D.length+1<=((D++C.drop D.length).map vI++J).length:=by rw[H_,L_,d];omega
   simp only[vI]at z l;refine⟨E,q,f,aE K _ _ t100L0.eq_1 ?_,y⟩;simp(disch:=omega)only[go_sem,F,G,P,w,s,u,hd,aC,l,z];exact X_ er o
theorem aLu{j v:Nat}{b:Bool}{C:Ta_}{J:Tn_}(G:C.Pairwise (·<=·))(hn:C.length<=1000000){cap:Nat}(y:C.length<=cap){S:aA}(h:S[j]?=some (.cells v b (C.map vI++J)))(u x5:TV):∀(k i:Nat) (g x4 x6 x7 x8 x9:TV),i+k=C.length->0<i->(C.take i).Pairwise (·<·) ->∃(p:aW) (E:Ta_) (J':Tn_) (w z T H Q U R t o:TV),lp' (lim K) t100L1 [.msl j v 0 C.length cap 1,u,j_ i,g,x4,x5,x6,x7,x8,x9] S = .ret (p,[w,z,T,H,Q,x5,U,R,t,o],S.set j (.cells v b (E.map vI++J')))/\E.Pairwise (·<·)/\(∀x,x∈E↔x∈C) /\(p=.exit 0/\w=.msl j v 0 E.length cap 1\/p=.ret/\z=.msl j v 0 E.length cap 1)
 |0,i,g,x4,x6,x7,x8,x9,hk,hi,hp=>by obtain rfl:i=C.length:=A_;rw[C0]at hp;refine⟨.exit 0,C,J,.msl j v 0 C.length cap 1,u,j_ C.length,g,x4,z_,x7,x8,x9,aE K _ _ t100L1.eq_1 ?_,hp,fun x=>Iff.rfl,.inl ⟨rfl,rfl⟩⟩;rw[jU h];simp(disch:=omega)only[go_sem]
 |k+1,i,g,x4,x6,x7,x8,x9,hk,hi,hp=>by
  have c:i<C.length:=A_;have i1:=iO (j:=j) (v:=v) (cap:=cap) c;have V:=iO (j:=j) (v:=v) (cap:=cap) (show i-1<C.length by omega);rw[show((i-1:Nat):Int)=(i:Int)-1 by omega]at V;have I:=oY (J:=J) c;have F:=oY (J:=J) (show i-1<C.length by omega);have l:=iR c;have L:=h;simp only[vI]at L I F;by_cases hd:C.getD i 0=C.getD (i-1) 0
  .have e:C.getD (i-1) 0∈C.take i:=by
    have:(C.take i).getD (i-1) 0=C.getD (i-1) 0:=by simp only[List.getD,G7 (show i-1<i by omega)]
    rw[<-this];exact nU (by simp;omega)
   have f:(C.take i).length=i:=by simp;omega
   obtain⟨E,t,o,l1,N,A,s⟩:=aCz (j:=j) (v:=v) (b:=b) (J:=J) G hn y c u x5 e_ e_ (C.length-(i+1)) (i+1) (C.take i) S x8 x9 A_ A_ A_ hp (fun x=>by
    rw[l,a_,U_];constructor;.exact .inl
    .rintro(h1|rfl);.exact h1
     .rw[hd];exact e) (by rw[f,F9];exact h)
   rw[f,show i+1-i=1 by omega,show((1:Nat):Int)=1 from rfl]at l1;have W:=wB h _ _ _ (pL (m:=C.length) (cap:=cap) (a:=i) y A_);rw[I_ (show ¬cap=i by omega),A7,I6]at W;have n:=aN h;have r:(S.set j (.cells v b ((E++C.drop E.length).map vI++J)))[j]?=some _:=aM n _;have d:=uG (D:=E) (C:=C) s;have f2:=wB r _ _ _ (pL (m:=C.length) (cap:=cap) (a:=E.length) y s);obtain⟨J',Y⟩:=aPr (cap:=cap) r (i:=E.length) A_ A_ (cap-E.length);rw[d,K4 rfl,H0]at Y;have P:(S.set j (.cells v b (E.map vI++J')))[j]?=some _:=aM n _;have Z:=wB P _ _ _ (uF (m:=C.length) (cap:=cap) (b:=E.length) A_);rw[show(if cap=0 then 0 else 0+0*1)=0 by split<;>rfl,Nat.sub_zero,Nat.sub_zero]at Z;refine⟨.ret,E,J',.msl j v 0 C.length cap 1,.msl j v 0 E.length cap 1,j_ (E.length:Nat),.msl j v i (C.length-i) (cap-i) 1,j_ (C.length-i:Nat),e_,e_,t,o,aE K _ _ t100L1.eq_1 ?_,N,A,.inr ⟨rfl,rfl⟩⟩;simp(disch:=omega)only[go_sem,i1,V,L,I,F,hd,aC,W];rw[l1];simp(disch:=omega)only[go_sem,f2,fun env=>aLr _ env _ _ _ Y,Z]
  .have q:=aGu G c A_ hd;obtain⟨p,E,J',w,z,T,H,Q,U,R,t,o,ih,N⟩:=aLu G hn y h u x5 k (i+1) g x4 e_ z_ x8 x9 A_ A_ (by rw[l];exact O4.2 ⟨hp,by simp,fun a ha x hx=>by rw[U_]at hx;subst hx;exact q a ha⟩);rw[show((i+1:Nat):Int)=(i:Int)+1 by omega]at ih;refine⟨p,E,J',w,z,T,H,Q,U,R,t,o,aE K _ _ t100L1.eq_1 ?_,N⟩;simp(disch:=omega)only[go_sem,i1,V,L,I,F,hd,aC];exact X_ er ih
theorem bJs{S:aA}{j v:Nat}{b:Bool}{C D:Ta_}{J:Tn_}(o:C.Pairwise (·<=·))(k:C.length<=1000000){cap:Nat}(n:C.length<=cap)(h:S[j]?=some (.cells v b (C.map vI++J)))(i:D.Pairwise (·<·))(g:∀x,x∈D↔x∈C): ∃J',(lim K).call 100 [.msl j v 0 C.length cap 1] S=.ret (.msl j v 0 D.length cap 1,S.set j (.cells v b (D.map vI++J'))):=by
 by_cases h2:C.length<2
 .have d:C=D:=by
   refine oO ?_ i fun x=>(g x).symm;match C,h2 with
   |[],_=>simp
   |[a],_=>simp
  subst d;refine⟨J,aI K _ (fn:=t100) rfl rfl ?_⟩;rw[jU h];have c:((C.length:Nat):Int)<2:=A_;simp(disch:=omega)only[t100,go_sem,c]
 .obtain⟨A,E,J',t,F,q,p,u,s,w,y,z,f,l,e,m⟩:=aLu o k n h k_ z_ (C.length-1) 1 u_ u_ u_ u_ u_ u_ A_ A_ (by
   match C,h2 with
   |a::r,_=>simp)
  rw[show((1:Nat):Int)=1 from rfl]at f;obtain rfl:E=D:=oO l i fun x=>(e x).trans (g x).symm;have c:¬((C.length:Nat):Int)<2:=A_;refine⟨J',aI K _ (fn:=t100) rfl rfl ?_⟩;rcases m with⟨rfl,rfl⟩|⟨rfl,rfl⟩;.simp(disch:=omega)only[t100,go_sem,c];rw[f];simp(disch:=omega)only[go_sem]
  .simp(disch:=omega)only[t100,go_sem,c];rw[f];simp(disch:=omega)only[go_sem]
structure bQc (C D:List Int):Prop where
 rise:D.Pairwise (·<·)
 mem:∀x,x∈D↔x∈C/\0<x
theorem yZ{S:aA}{j v:Nat}{b:Bool}{C D:Ta_}{J:Tn_}(k:C.length<=1000000){cap:Nat}(m:C.length<=cap)(h:S[j]?=some (.cells v b (C.map vI++J)))(t:bQc C D): ∃J',(lim K).call 73 [.msl j v 0 C.length cap 1] S=.ret (.msl j v 0 D.length cap 1,S.set j (.cells v b (D.map vI++J'))):=by have a:=aN h;obtain⟨J1,g⟩:=bQb h k m;have l:=aIt C;have e:(S.set j (.cells v b ((pos C).map vI++J1)))[j]?=some _:=aM a _;have i:=aAo e A_ (cap:=cap) A_;rw[H0]at i;have d:(S.set j (.cells v b ((eG (pos C)).map vI++J1)))[j]?=some _:=aM a _;have f:=uH (pos C);obtain⟨J2,c⟩:=bJs (D:=D) (wW (pos C)) A_ (cap:=cap) A_ d t.rise (fun x=>by rw[t.mem x,(lQ (pos C)).mem_iff];simp[pos]);rw[H0,f]at c;refine⟨J2,aI K _ (fn:=t73) rfl rfl ?_⟩;simp(disch:=omega)only[t73,go_sem,g,aTs,bBz,i,c]
theorem aC0{α:Type}[Inhabited α]{l:List α}{i:Nat}(h:i<l.length):l.drop i=l.getD i default::l.drop (i+1):=by rw[A6 h,W_,D_ h];rfl
def aZ(l:List Int):List (List IV):=TM.one (.int .i64) l
theorem bB0(l:Ta_)(v:Int):aZ l++[[.int .i64 v]]=aZ (l++[v]):=by simp[aZ,TM.one]
theorem aLv{l:Ta_}:aZ l=[]↔l=[]:=by simp[aZ,TM.one]
theorem eK(l:Ta_):(aZ l).length=l.length:=by simp[aZ,TM.one]
theorem nB(l:Ta_):jE 1 (aZ l):=jE.one (fun _=>rfl) l
def tw:List Int->Int->Nat
 |[],_=>0
 |a::r,n=>if a<n then tw r n+1 else 0
theorem bPl:∀(l:Ta_) (n:Int),tw l n<=l.length
 |[],n=>O_ _
 |a::r,n=>by have:=bPl r n;unfold tw;split<;>simp<;>omega
theorem aTt:∀(l:Ta_) (n:Int),∀v∈l.take (tw l n),v<n
 |[],n,v,h=>by simp at h
 |a::r,n,v,h=>by
  unfold tw at h;split at h
  .rw[List.take_succ_cons]at h;rcases J_.1 h with rfl|h;.assumption
   .exact aTt r n v h
  .simp at h
theorem aTu:∀(l:Ta_) (n:Int),l.Pairwise (·<·)->n∉l->∀v∈l.drop (tw l n),n<v
 |[],n,_,_,v,h=>by simp at h
 |a::r,n,hp,hn,v,h=>by
  rw[E6]at hp;simp only[J_,H1]at hn;unfold tw at h;split at h;.rw[J5]at h;exact aTu r n hp.2 hn.2 v h
  .rw[C4]at h;rcases J_.1 h with rfl|h;.omega
   .have:=hp.1 v h;omega
def aPt(l:List Int)(n:Int):List Int:=if n∈l then l else l.take (tw l n)++n::l.drop (tw l n)
theorem bB1(l:Ta_)(n v:Int):v∈aPt l n↔v∈l\/v=n:=by
 unfold aPt;split
 .rename_i h;constructor;.exact .inl
  .rintro(a|rfl);.exact a
   .exact h
 .have:l.take (tw l n)++l.drop (tw l n)=l:=F9 _ _;rw[a_,J_];rw[<-this,a_];rw[F9];constructor
  .rintro(h|h|h);.exact .inl (.inl h)
   .exact .inr h
   .exact .inl (.inr h)
  .rintro((h|h)|h);.exact .inl h
   .exact .inr (.inr h)
   .exact .inr (.inl h)
theorem aWo{l:Ta_}(n:Int)(c:l.Pairwise (·<·)):(aPt l n).Pairwise (·<·):=by
 unfold aPt;split;.exact c
 .rename_i hn;have e:=aTt l n;have g:=aTu l n c hn;rw[O4,E6];refine⟨X8 (List.take_sublist _ _) c,⟨g,X8 (V6 _ _) c⟩,fun a f b d=>?_⟩;rcases J_.1 d with rfl|d;.exact e a f
  .have:=e a f;have:=g b d;omega
theorem bB2(l:Ta_)(n:Int):(aPt l n).length<=l.length+1:=by
 unfold aPt;split;.omega
 .have:=bPl l n;simp;omega
theorem bJt{l ys:Ta_}{t:Tag}(h:l.length+ys.length<=8000000): bA false 1 8 3 (vH 1 3 (aZ l)) (acc 0 (aZ l)) (.iv (.sl t (aZ ys)))=some (acc 0 (aZ (l++ys)),vH 1 3 (aZ (l++ys))):=by have:=bI1 (w:=1) (b:=8) (el:=3) (l:=aZ l) (ys:=aZ ys) (x:=.iv (.sl t (aZ ys))) (fun S=>rO.sl S t _) (nB ys) (nB l) (bR (by rw[eK,eK];omega));rw[this,show aZ l++aZ ys=aZ (l++ys) by simp[aZ,TM.one]]
structure VI where
 op:Int
 d:Int
 a:Int
 b:Int
 im:Int
 lb:Int
 tu:Tag
 us:List Int
 tm:Tag
 mp:List Int
instance:Inhabited VI:=⟨⟨0,0,0,0,0,0,.nil,[],.nil,[]⟩⟩
def aJ(v:VI):List IV:=[.int .i64 v.op,.int .i64 v.d,.int .i64 v.a,.int .i64 v.b,.int .i64 v.im,.int .i64 v.lb,.sl v.tu (TM.one (.int .i64) v.us),.sl v.tm (TM.one (.int .i64) v.mp)]
theorem cV(v:VI):aJ v=[.int .i64 v.op,.int .i64 v.d,.int .i64 v.a,.int .i64 v.b,.int .i64 v.im,.int .i64 v.lb,.sl v.tu (TM.one (.int .i64) v.us),.sl v.tm (TM.one (.int .i64) v.mp)]:=rfl
theorem aS(v:VI):(aJ v).map TV.iv=[j_ v.op,j_ v.d,j_ v.a,j_ v.b,j_ v.im,j_ v.lb,.iv (.sl v.tu (TM.one (.int .i64) v.us)),.iv (.sl v.tm (TM.one (.int .i64) v.mp))]:=rfl
theorem qK:TM.one (IV.int .i64) []=[]:=rfl
def xA(l:List Int)(n:Int):List Int:=if n<=0 then l else aPt l n
def tdy(C:List Int):List Int:=C.foldl xA []
theorem bB3(l:Ta_)(n v:Int):v∈xA l n↔v∈l\/(v=n/\0<n):=by
 unfold xA;split
 .rename_i h;constructor;.exact .inl
  .rintro(a|⟨_,b⟩);.exact a
   .omega
 .rename_i h;rw[bB1];constructor
  .rintro(a|a);.exact .inl a
   .exact .inr ⟨a,by omega⟩
  .rintro(a|⟨a,_⟩);.exact .inl a
   .exact .inr a
theorem aWp{l:Ta_}(n:Int)(h:l.Pairwise (·<·)):(xA l n).Pairwise (·<·):=by
 unfold xA;split;.exact h
 .exact aWo n h
theorem bB4(l:Ta_)(n:Int):(xA l n).length<=l.length+1:=by
 unfold xA;split;.omega
 .exact bB2 l n
theorem aGv:∀(C l:Ta_),l.Pairwise (·<·)->(C.foldl xA l).Pairwise (·<·)/\∀x,x∈C.foldl xA l↔x∈l\/(x∈C/\0<x)
 |[],l,h=>⟨h,fun x=>B_⟩
 |n::C,l,h=>by
  obtain⟨b,c⟩:=aGv C (xA l n) (aWp n h);refine⟨b,fun x=>?_⟩;rw[List.foldl_cons,c x,bB3,J_];constructor
  .rintro((h3|⟨rfl,a⟩)|⟨h3,a⟩);.exact .inl h3
   .exact .inr ⟨.inl rfl,a⟩
   .exact .inr ⟨.inr h3,a⟩
  .rintro(h3|⟨rfl|h3,a⟩);.exact .inl (.inl h3)
   .exact .inl (.inr ⟨rfl,a⟩)
   .exact .inr ⟨h3,a⟩
theorem aLw:∀(C l:Ta_),(C.foldl xA l).length<=l.length+C.length
 |[],l=>O_ _
 |n::C,l=>by have a:=aLw C (xA l n);have b:=bB4 l n;rw[List.foldl_cons,List.length_cons];omega
theorem jM(C:Ta_):bQc C (tdy C):=by obtain⟨a,b⟩:=aGv C [] .nil;exact⟨a,fun x=>by rw[show x∈tdy C↔_ from b x];simp⟩
theorem uJ(C:Ta_):(tdy C).length<=C.length:=by have:=aLw C [];simpa[tdy] using this
theorem aIu{C:Ta_}{x:Int}(h:x∈tdy C):0<x:=((jM C).mem x).1 h |>.2
def bF(v:VI):List Int :=
 if(1<=v.op/\v.op<=14)\/(25<=v.op/\v.op<=31)then tdy [v.a,v.b]
 else if(15<=v.op/\v.op<=24/\v.op≠23)\/v.op=64\/v.op=74 then tdy [v.a]
 else if v.op=67\/v.op=68\/v.op=72 then tdy (v.us++[26])else []
def dP:List Int:=List.map (fun n:Nat=>(n:Int)+1) (List.range 26)
def aY(v:VI):List Int :=
 if(1<=v.op/\v.op<=24)\/v.op=64\/(69<=v.op/\v.op<=71)\/v.op=73 then tdy [v.d]
 else if v.op=67 then tdy (dP++[31,v.d])else []
theorem bV0(a:Int):tdy [a]=xA [] a:=rfl
def uI(n:Nat):TV:=.iv (.int .u64 (n:Int))
theorem sF{W:Tc_}{i:Nat}(h:i<W.length):sub (W.map uI) i 1=some [uI (W.getD i 0)]:=by simp only[sub,L_,show i+1<=W.length by omega,↓reduceIte];rw[A6 (by simp;omega)];simp[List.getD,D_ h]
theorem aPu{W:Tc_}{i:Nat}(x:Nat)(h:i<W.length):put (W.map uI) i [uI x]=(W.set i x).map uI:=by unfold put;rw[List.map_set,K9,K_ (by simpa using h)];simp
def bit(W:List Nat)(r:Nat):Bool:=(W.getD (r / 64) 0).testBit (r % 64)
structure WOK (m:Nat) (W:List Nat):Prop where
 len:W.length=m
 lt:∀x∈W,x<18446744073709551616
theorem WOK.get{m:Nat}{W:Tc_}(h:WOK m W)(i:Nat):W.getD i 0<18446744073709551616:=by
 rcases D2 i W.length with a|a;.simp only[List.getD,D_ a,Option.getD_some];exact h.lt _ (B8 _)
 .simp[List.getD,B7 a]
theorem WOK.set{m:Nat}{W:Tc_}(h:WOK m W)(i x:Nat)(b:x<18446744073709551616):WOK m (W.set i x) :=
 ⟨by rw[F6,h.len],fun y c=>by
  rcases U6 c with a|rfl;.exact h.lt y a
  .exact b⟩
theorem WOK.zero(m:Nat):WOK m (List.replicate m 0):=⟨by simp,fun x a=>by rw[K1 a];decide⟩
theorem bB5(m r:Nat):bit (List.replicate m 0) r=false:=by
 unfold bit;have:(List.replicate m 0).getD (r / 64) 0=0:=by
  rcases D2 (r / 64) m with h|h;.simp[List.getD,h]
  .rw[List.getD,B7 (by simpa using h)];rfl
 rw[this];exact Q4 _
theorem aC1{W:Tc_}{i j x:Nat}(h:i<W.length):(W.set i x).getD j 0=if j=i then x else W.getD j 0:=by
 simp only[List.getD,V5];by_cases e:i=j;.subst e;simp[h]
 .rw[I_ e,I_ (B0 e)]
theorem aPv{a b:Nat}(c:a<18446744073709551616)(d:b<18446744073709551616):IntKind.u64.wrap (bOr 64 (a:Int) (b:Int))=((a ||| b:Nat):Int):=by have h:a ||| b<2 ^ 64:=Nat.or_lt_two_pow (by simpa using c) (by simpa using d);unfold bOr;rw[BitVec.toNat_or,kI ⟨by omega,by norm_cast⟩,kI ⟨by omega,by norm_cast⟩,Int.toNat_natCast,Int.toNat_natCast,qG];omega
def lS(a b:Nat):Nat:=(BitVec.ofNat 64 a &&& ~~~ BitVec.ofNat 64 b).toNat
theorem wC(a b:Nat):lS a b<18446744073709551616:=(BitVec.ofNat 64 a &&& ~~~ BitVec.ofNat 64 b).isLt
theorem aLx(a b i:Nat)(c:i<64):(lS a b).testBit i=(a.testBit i&&!b.testBit i):=by unfold lS;rw[BitVec.testBit_toNat,BitVec.getLsbD_and,BitVec.getLsbD_not,Y1,Y1];simp[c]
theorem aPw(a b:Nat):IntKind.u64.wrap (aCt 64 (a:Int) (b:Int))=((lS a b:Nat):Int):=by
 have h:=wC a b;unfold aCt;rw[BitVec.ofInt_natCast,BitVec.ofInt_natCast,qG];.rfl
 .exact⟨by omega,by unfold lS at h;omega⟩
theorem aLy(p:Nat):((p:Int).tdiv 64)=((p / 64:Nat):Int):=by rw[Int.tdiv_eq_ediv_of_nonneg A_];omega
theorem bB6(p:Nat):((p:Int).tmod 64)=((p % 64:Nat):Int):=by rw[Int.tmod_eq_emod_of_nonneg A_];omega
theorem bJu{q:Nat}(b:q<64){inst:Decidable (((q:Nat):Int).toNat<=64)}:IntKind.u64.wrap (1*2 ^ (@ite Nat (((q:Nat):Int).toNat<=64) inst ((q:Nat):Int).toNat 64))=((2 ^ q:Nat):Int):=by
 have h:2 ^ q<18446744073709551616:=Y3 (n:=64) (a:=2) C_ b;have e:((2:Int) ^ q)=((2 ^ q:Nat):Int):=by push_cast;rfl
 rw[K_ A_,Int.toNat_natCast,Int.one_mul,e];generalize 2 ^ q=x at *
 rw[qG A_]
theorem aPx{q:Nat}(a:q<64):TM.binOp .shl (.iv (.int .u64 1)) (j_ ((q:Nat):Int))=some (.int .u64 ((2 ^ q:Nat):Int)):=by rw[TM.aIb,I_ A_];have:=bJu a (inst:=Nat.decLe _ _);show some (IV.int .u64 (IntKind.u64.wrap (1*2 ^ (if((q:Nat):Int).toNat<=64 then((q:Nat):Int).toNat else 64))))=_;rw[this]
theorem bJv{q i:Nat}:(2 ^ q).testBit i=decide (q=i):=R9
theorem bB7{q:Nat}(h:q<64):2 ^ q<18446744073709551616:=Y3 (n:=64) (a:=2) C_ h
theorem aIv{a b:Nat}(c:a<18446744073709551616)(d:b<18446744073709551616):a ||| b<18446744073709551616:=Nat.or_lt_two_pow (n:=64) c d
theorem bT0{bytes m n:Nat}(a:eA n bytes=true):mkV [.int .u64 0] bytes m (j_ n) (j_ n)=some (.msl m 0 0 n n 1,.cells 0 false ((List.replicate n 0).map uI)):=by
 have b:bC (List.replicate n ([IV.int .u64 0].map TV.iv))=(List.replicate n 0).map uI:=by rw[aO9];simp[aFq,uI]
 have:=bNo [.int .u64 0] bytes m .i64 .i64 n n ⟨by omega,by omega,by rw[Int.toNat_natCast];exact a⟩;rw[Int.toNat_natCast,b]at this;exact this
theorem bJw{W:Tc_}{p r:Nat}(h:p / 64<W.length):bit (W.set (p / 64) (W.getD (p / 64) 0 ||| 2 ^ (p % 64))) r=(bit W r||decide (r=p)):=by
 unfold bit;rw[aC1 h];by_cases e:r / 64=p / 64;.rw[K_ e,N9,bJv,e];congr 1;have:(p % 64=r % 64)↔r=p:=A_;simp only[this]
 .rw[I_ e];have:¬r=p:=by rintro rfl;exact e rfl
  simp[this]
theorem aPy{j m a:Nat}(d:a<=1000000)(L:(a+63) / 64=m)(t:Tag)(l:Ta_)(R:l.length<=2000000)(c:∀x∈l,0<=x)(x2:TV):∀(k i:Nat) (W:Tc_) (S:aA) (x4 x8 x9:TV),i+k=l.length->WOK m W->S[j]?=some (.cells 0 false (W.map uI)) ->∃(W':Tc_) (u E w:TV),lp' (lim K) t55L0 [j_ a,.iv (.sl t (TM.one (.int .i64) l)),x2,.msl j 0 0 m m 1,x4,.iv (.sl t (TM.one (.int .i64) l)),j_ l.length,j_ i,x8,x9] S = .ret (.exit 0,[j_ a,.iv (.sl t (TM.one (.int .i64) l)),x2,.msl j 0 0 m m 1,u,.iv (.sl t (TM.one (.int .i64) l)),j_ l.length,j_ l.length,E,w],S.set j (.cells 0 false (W'.map uI))) /\WOK m W'/\∀r:Nat,bit W' r=true↔bit W r=true\/((r:Int)∈l.drop i/\r<a)
 |0,i,W,S,x4,x8,x9,hk,hW,h=>by obtain rfl:i=l.length:=A_;refine⟨W,x4,z_,x9,aE K _ _ t55L0.eq_1 ?_,hW,fun r=>B_⟩;rw[jU h];simp(disch:=omega)only[go_sem]
 |k+1,i,W,S,x4,x8,x9,hk,hW,h=>by
  have z:i<l.length:=A_;have e:=pI (f:=IV.int .i64) (t:=t) (l:=l) (i:=(i:Int)) A_;rw[Int.toNat_natCast]at e;have o:=aC0 z;have I:0<=l.getD i default:=c _ (by simp only[List.getD,D_ z,Option.getD_some];exact B8 _);obtain⟨p,Y⟩:=H4 I;rw[Y]at e o;by_cases hpr:p<a
  .have s:p / 64<m:=A_;have g:p / 64<W.length:=by rw[hW.len];exact s
   have V:=iO (j:=j) (v:=0) (cap:=m) s;have N:=sF g;have G:p % 64<64:=X4 _ C_;have H:=aIv (hW.get (p / 64)) (bB7 G);have T:=aLy p;have e2:=bB6 p;have e3:=aPx G;have U:=aPv (hW.get (p / 64)) (bB7 G);have Q:=aPu (W.getD (p / 64) 0 ||| 2 ^ (p % 64)) g;have F:=aN h;obtain⟨W',u,E,w,D,q,J⟩:=aPy d L t l R c x2 k (i+1) _ (S.set j (.cells 0 false ((W.set (p / 64) (W.getD (p / 64) 0 ||| 2 ^ (p % 64))).map uI))) (j_ p) e_ e_ A_ (hW.set (p / 64) _ H) (aM F _);rw[show((i+1:Nat):Int)=(i:Int)+1 by omega,H0]at D;have y:p / 64+1<=(W.map uI).length:=by rw[L_];omega
   have P:=h;simp only[uI]at N Q P y;refine⟨W',u,E,w,aE K _ _ t55L0.eq_1 ?_,q,fun r=>?_⟩
   .generalize hA:W.getD (p / 64) 0=A at *
    generalize hB:(2 ^ (p % 64):Nat)=B at *
    generalize hC:A ||| B=C at *
    simp(disch:=omega)only[go_sem,e,V,P,N,T,e2,e3,U,Q,y,aC];exact X_ er D
   .rw[J r,bJw g,o,J_,D3,q_];constructor
    .rintro((b|rfl)|⟨b,n⟩);.exact .inl b
     .exact .inr ⟨.inl rfl,hpr⟩
     .exact .inr ⟨.inr b,n⟩
    .rintro(b|⟨b|b,n⟩);.exact .inl (.inl b)
     .exact .inl (.inr A_)
     .exact .inr ⟨b,n⟩
  .obtain⟨W',u,E,w,D,q,J⟩:=aPy d L t l R c x2 k (i+1) W S (j_ p) e_ z_ A_ hW h;rw[show((i+1:Nat):Int)=(i:Int)+1 by omega]at D;refine⟨W',u,E,w,aE K _ _ t55L0.eq_1 ?_,q,fun r=>?_⟩;.simp(disch:=omega)only[go_sem,e,aC];exact X_ er D
   .rw[J r,o,J_];constructor
    .rintro(b|⟨b,n⟩);.exact .inl b
     .exact .inr ⟨.inr b,n⟩
    .rintro(b|⟨b|b,n⟩);.exact .inl b
     .omega
     .exact .inr ⟨b,n⟩
theorem aC2{a:Nat}(b:a<=1000000)(t:Tag)(l:Ta_)(i:l.length<=2000000)(c:∀x∈l,0<=x)(S:aA): ∃W:List Nat,(lim K).call 55 [j_ a,.iv (.sl t (TM.one (.int .i64) l))] S=.ret (.msl S.length 0 0 ((a+63) / 64) ((a+63) / 64) 1,S++[.cells 0 false (W.map uI)]) /\WOK ((a+63) / 64) W/\∀r:Nat,bit W r=true↔(r:Int)∈l/\r<a:=by
 generalize hm:(a+63) / 64=m;have g:(S++[.cells 0 false ((List.replicate m 0).map uI)])[S.length]?=some (.cells 0 false ((List.replicate m 0).map uI)):=B_;obtain⟨W,k,o,p,f,h,j⟩:=aPy b hm t l i c k_ l.length 0 (List.replicate m 0) _ u_ u_ u_ A_ (WOK.zero m) g;rw[n0_,E3 _ _ (O_ _),L8,List.set_cons_zero]at f;have e:=aLy (a+63);rw[hm,show((a+63:Nat):Int)=(a:Int)+64-1 by omega]at e;have d:=bT0 (bytes:=8) (m:=S.length) (n:=m) (bR A_);refine⟨W,aI K _ (fn:=t55) rfl rfl ?_,h,fun r=>?_⟩;.simp(disch:=omega)only[t55,go_sem,aC,e,d];rw[f];simp(disch:=omega)only[go_sem]
 .rw[j r,bB5,C4];simp
theorem bJx:∀x:Nat,x≠0->∃k y,x=2 ^ k*(2*y+1):=by
 intro x;induction x using Nat.strongRecOn with
 |ind x ih =>
  intro h;by_cases e:x % 2=1;.exact⟨0,x / 2,by rw[Nat.pow_zero,Nat.one_mul];omega⟩
  .obtain⟨k,y,a⟩:=ih (x / 2) A_ A_;refine⟨k+1,y,?_⟩;rw[Nat.pow_succ];have:x=2*(x / 2):=A_;rw[this,a];rw[show 2 ^ k*2*(2*y+1)=2*(2 ^ k*(2*y+1)) by rw[Nat.mul_comm (2 ^ k) 2,Nat.mul_assoc]]
theorem bQd(y j:Nat):(2*y+1).testBit j=if j=0 then true else y.testBit (j-1):=by
 cases j with
 |zero=>rw[K_ rfl,Nat.testBit_zero];simp
 |succ j=>rw[I_ A_,Nat.testBit_succ,show(2*y+1) / 2=y by omega];rfl
theorem bJy(y j:Nat):(2*y).testBit j=if j=0 then false else y.testBit (j-1):=by
 cases j with
 |zero=>rw[K_ rfl,Nat.testBit_zero];simp
 |succ j=>rw[I_ A_,Nat.testBit_succ,show(2*y) / 2=y by omega];rfl
theorem bJz(k y j:Nat):(2 ^ k*(2*y+1)).testBit j=if j<k then false else if j=k then true else y.testBit (j-k-1):=by
 have h:=T0 (2*y+1) (b:=0) (i:=k) (R0 k) j;rw[Nat.add_zero]at h;rw[h];by_cases e:j<k;.rw[K_ e,K_ e];exact Q4 _
 .rw[I_ e,I_ e,bQd];by_cases e2:j=k;.rw[K_ A_,K_ e2]
  .rw[I_ A_,I_ e2]
theorem bPm(k y j:Nat):(2 ^ k*(2*y+1)-1).testBit j=if j<k then true else if j=k then false else y.testBit (j-k-1):=by
 have a:=R0 k;have e:2 ^ k*(2*y+1)-1=2 ^ k*(2*y)+(2 ^ k-1):=by rw[Nat.mul_add,I6];omega
 have h:=T0 (2*y) (b:=2 ^ k-1) (i:=k) A_ j;rw[e,h];by_cases e:j<k;.rw[K_ e,K_ e,Nat.testBit_two_pow_sub_one];simp[e]
 .rw[I_ e,I_ e,bJy];by_cases e2:j=k;.rw[K_ A_,K_ e2]
  .rw[I_ A_,I_ e2]
theorem bJ0(k y:Nat)(g:2 ^ k*(2*y+1)<2 ^ 64):(2 ^ k*(2*y+1)) &&& (2 ^ 64-2 ^ k*(2*y+1))=2 ^ k:=by
 have d:=R0 k;have c:0<2 ^ k*(2*y+1):=Nat.mul_pos d A_;apply Y2;intro j;have a:=Nat.testBit_two_pow_sub_succ (x:=2 ^ k*(2*y+1)-1) (n:=64) A_ j;rw[show 2 ^ k*(2*y+1)-1+1=2 ^ k*(2*y+1) by omega]at a;have b:k<64:=by
  rcases D2 k 64 with h|h;.exact h
  .have f:=O5 (n:=2) C_ h;have h3:2 ^ k*1<=2 ^ k*(2*y+1):=Y8 _ A_;omega
 rw[X7,a,bJz,bPm,R9];by_cases e:j<k;.rw[K_ e,K6];exact(l_ A_).symm
 .rw[I_ e,I_ e];by_cases e2:j=k;.subst e2;simp[b]
  .rw[I_ e2,I_ e2,l_ (show ¬k=j by omega)];cases y.testBit (j-k-1)<;>simp
theorem aPz{k y:Nat}(b:2 ^ k*(2*y+1)<18446744073709551616):k<64:=by
 rcases D2 k 64 with h|h;.exact h
 .have a:=O5 (n:=2) C_ h;have h3:2 ^ k*1<=2 ^ k*(2*y+1):=Y8 _ A_;omega
theorem aC3(k y j:Nat):((2 ^ k*(2*y+1)) &&& (2 ^ k*(2*y+1)-1)).testBit j=(decide (k<j)&&(2 ^ k*(2*y+1)).testBit j):=by
 rw[X7,bJz,bPm];by_cases e:j<k;.rw[K_ e,K_ e];simp
 .rw[I_ e,I_ e];by_cases e2:j=k;.subst e2;simp
  .rw[I_ e2,I_ e2,V_ (show k<j by omega)];simp
theorem bB8{a b m:Nat}{W V:Tc_}{S:aA}(G:m<=1000000)(A:S[a]?=some (.cells 0 false (W.map uI)))(z:S[b]?=some (.cells 0 false (V.map uI)))(t:W.length=m)(x:V.length=m)(x2 x4:TV):∀(k i:Nat) (o x7 x8:TV),i+k=m->(∀q,q<i->W.getD q 0=V.getD q 0) ->∃(g:aW) (n p s r w:TV),lp' (lim K) t80L0 [.msl a 0 0 m m 1,.msl b 0 0 m m 1,x2,o,x4,j_ m,j_ i,x7,x8] S = .ret (g,[.msl a 0 0 m m 1,.msl b 0 0 m m 1,n,p,x4,j_ m,s,r,w],S) /\(g=.exit 0/\(∀q,q<m->W.getD q 0=V.getD q 0)\/g=.ret/\n=z_/\W≠V)
 |0,i,o,x7,x8,hk,hq=>by obtain rfl:i=m:=A_;refine⟨.exit 0,x2,o,j_ i,z_,x8,aE K _ _ t80L0.eq_1 ?_,.inl ⟨rfl,hq⟩⟩;simp(disch:=omega)only[go_sem]
 |k+1,i,o,x7,x8,hk,hq=>by
  have f:i<m:=A_;have C:=iO (j:=a) (v:=0) (cap:=m) f;have D:=iO (j:=b) (v:=0) (cap:=m) f;have l:=sF (W:=W) (i:=i) A_;have u:=sF (W:=V) (i:=i) A_;have d:=A;have c:=z;simp only[uI]at l u d c;by_cases e:W.getD i 0=V.getD i 0
  .obtain⟨g,n,p,s,r,w,E,F⟩:=bB8 G A z t x x2 x4 k (i+1) (j_ i) e_ z_ A_ (fun q H=>by
    rcases D2 q i with y|y;.exact hq q y
    .obtain rfl:q=i:=A_;exact e)
   rw[show((i+1:Nat):Int)=(i:Int)+1 by omega]at E;refine⟨g,n,p,s,r,w,aE K _ _ t80L0.eq_1 ?_,F⟩;rw[e]at l;simp(disch:=omega)only[go_sem,C,D,d,c,l,u,aC];exact X_ er E
  .refine⟨.ret,z_,j_ i,j_ i,e_,e_,aE K _ _ t80L0.eq_1 ?_,.inr ⟨rfl,rfl,fun h=>e (by rw[h])⟩⟩;have e':¬((W.getD i 0:Nat):Int)=((V.getD i 0:Nat):Int):=A_;simp(disch:=omega)only[go_sem,C,D,d,c,l,u,e']
theorem bQe{a b m:Nat}{W V:Tc_}{S:aA}(j:m<=1000000)(k:S[a]?=some (.cells 0 false (W.map uI)))(i:S[b]?=some (.cells 0 false (V.map uI)))(d:W.length=m)(f:V.length=m): (lim K).call 80 [.msl a 0 0 m m 1,.msl b 0 0 m m 1] S=.ret (.iv (.bool (decide (W=V))),S):=by
 obtain⟨u,p,o,r,s,t,g,c⟩:=bB8 j k i d f z_ z_ m 0 u_ u_ u_ A_ (fun q h=>A_);rw[n0_]at g;rcases c with⟨rfl,c⟩|⟨rfl,rfl,c⟩
 .have e:W=V:=by apply N4 A_;intro q l n;have:=c q A_;simpa[List.getD,D_ l,D_ n] using this
  rw[V_ e];refine aI K _ (fn:=t80) rfl rfl ?_;simp(disch:=omega)only[t80,go_sem];rw[g];simp(disch:=omega)only[go_sem]
 .rw[l_ c];refine aI K _ (fn:=t80) rfl rfl ?_;simp(disch:=omega)only[t80,go_sem];rw[g];simp(disch:=omega)only[go_sem]
def dbm(k:Nat):Nat:=(2 ^ k*285870213051353865) % 18446744073709551616
def bT1:List Nat:=[0,1,56,2,57,49,28,3,61,58,42,50,38,29,17,4,62,47,59,36,45,43,51,22,53,39,33,30,24,18,12,5,63,55,48,27,60,41,37,16,46,35,44,21,52,32,23,11,54,26,40,15,34,20,31,10,25,14,19,9,13,8,7,6]
theorem bT2:g0=bT1.map fun n:Nat=>IV.int .u8 (n:Int):=rfl
theorem bJ1(k:Nat)(b:k<64):dbm k / 288230376151711744<64/\g0[dbm k / 288230376151711744]?=some (.int .u8 (k:Int)):=by
 have key:∀k<64,dbm k / 288230376151711744<64/\bT1[dbm k / 288230376151711744]?=some k:=by decide +kernel
 obtain⟨a,c⟩:=key k b;refine⟨a,?_⟩;rw[bT2,p_,c];rfl
theorem gl0{i k:Nat}(b:i<64)(h:g0[i]?=some (.int .u8 (k:Int))):∃p,ixA 64 1 (bF3 (K.glob 0)) (.iv (.int .u64 (i:Int)))=some p/\∀env S,bP env S p 1=some [.iv (.int .u8 (k:Int))]:=by
 have c:g0.length=64:=rfl;have a:i<g0.length:=A_;refine⟨.iv (.cp (g0.drop i)),?_,fun env S=>?_⟩;.rw[aWa,K_ A_,Int.toNat_natCast,I6];show(if i<=g0.length then some (TV.iv (.cp (g0.drop i)))else none)=_;rw[K_ A_]
 .rw[aO6];unfold sub;rw[K_ (by rw[W7];omega),C4,A6 a];rw[D_ a]at h;rw[D6 h];rfl
theorem bQf{k y:Nat}(c:2 ^ k*(2*y+1)<18446744073709551616):TM.Pure K 81 [.iv (.int .u64 ((2 ^ k*(2*y+1):Nat):Int))] (j_ (k:Int)):=by
 have g:=aPz c;have a:=bJ0 k y c;have n:=R0 k;have h:0<2 ^ k*(2*y+1):=Nat.mul_pos n A_;obtain⟨l,e⟩:=bJ1 k g;obtain⟨p,m,i⟩:=gl0 l e;have r:dbm k<18446744073709551616:=X4 _ C_;have o:TM.binOp .mul (.iv (.int .u64 ((2 ^ k:Nat):Int))) (.iv (.int .u64 285870213051353865))=some (.int .u64 ((dbm k:Nat):Int)):=by rw[TM.aIa];congr 2
 generalize dbm k=D at *
 generalize hX:2 ^ k*(2*y+1)=X at *
 generalize (2 ^ k:Nat)=Z at *
 have j:TM.unOp .neg (.iv (.int .u64 (X:Int)))=some (.int .u64 ((2 ^ 64-X:Nat):Int)):=by rw[aN9];congr 2;show(0-(X:Int)) % 18446744073709551616=_;omega
 have f:TM.binOp .and (.iv (.int .u64 (X:Int))) (.iv (.int .u64 ((2 ^ 64-X:Nat):Int)))=some (.int .u64 ((Z:Nat):Int)):=by
  rw[TM.aAf];congr 2;have q:Z<18446744073709551616:=by rw[<-a];exact Nat.lt_of_le_of_lt Nat.and_le_left c
  show IntKind.u64.wrap ((((BitVec.ofInt 64 (X:Int)) &&& (BitVec.ofInt 64 ((2 ^ 64-X:Nat):Int))).toNat:Nat):Int)=_;rw[BitVec.toNat_and,kI ⟨by omega,by norm_cast⟩,kI ⟨by omega,by omega⟩,Int.toNat_natCast,Int.toNat_natCast,a,qG A_]
 have d:TM.binOp .shr (.iv (.int .u64 ((D:Nat):Int))) (.iv (.int .u64 58))=some (.int .u64 ((D / 288230376151711744:Nat):Int)):=by rw[TM.aIc,I_ C_];congr 2;show((D:Nat):Int).fdiv 288230376151711744=_;rw[Int.fdiv_eq_ediv_of_nonneg _ C_];omega
 refine aT t81 rfl rfl ?_;have b:¬((X:Nat):Int)=0:=A_;simp(disch:=omega)only[t81,go_sem,b,j,f,o,d,m,i,aC]
def uV(n:Nat):IV:=.int .u64 (n:Int)
def kL(x:Nat):List Int:=((List.range 64).filter x.testBit).map fun n:Nat=>(n:Int)
theorem nP(x:Nat)(v:Int):v∈kL x↔∃n:Nat,v=n/\n<64/\x.testBit n=true:=by
 simp only[kL,A0,D1,C5];constructor;.rintro⟨n,⟨a,b⟩,rfl⟩;exact⟨n,rfl,a,b⟩
 .rintro⟨n,rfl,a,b⟩;exact⟨n,⟨a,b⟩,rfl⟩
theorem wD(x:Nat):(kL x).Pairwise (·<·):=by refine V3 _ (R:=(·<·)) (fun a b h=>A_) (List.Pairwise.filter _ List.pairwise_lt_range)
theorem aP0:kL 0=[]:=by
 unfold kL;rw[H6.2];.rfl
 .intro a _;simp
theorem aWq{k y:Nat}(f:2 ^ k*(2*y+1)<18446744073709551616):kL (2 ^ k*(2*y+1))=(k:Int)::kL ((2 ^ k*(2*y+1)) &&& (2 ^ k*(2*y+1)-1)):=by
 have d:=aPz f;refine oO (wD _) ?_ fun v=>?_;.rw[E6];refine⟨fun a e=>?_,wD _⟩;obtain⟨n,rfl,c,b⟩:=(nP _ _).1 e;rw[aC3]at b;simp only[P_,q_]at b;omega
 .rw[J_,nP,nP];constructor
  .rintro⟨n,rfl,c,b⟩;rcases M3 n k with h|h|h;.rw[bJz,K_ h]at b;cases b
   .exact .inl A_
   .refine .inr ⟨n,rfl,c,?_⟩;rw[aC3,b,V_ h];rfl
  .rintro(rfl|⟨n,rfl,c,b⟩);.exact⟨k,rfl,d,by rw[bJz,I_ A_,K_ rfl]⟩
   .rw[aC3]at b;simp only[P_]at b;exact⟨n,rfl,c,b.2⟩
theorem aTv{k:Nat}(j:k<=100000)(x0 x4 x5 x6 x7:TV):∀(n x:Nat) (out:Ta_) (x8:TV),x<=n->x<18446744073709551616->out.length+(kL x).length<=7000000 ->∃c:TV,lp' (lim K) t57L0 [x0,acc 0 (aZ out),j_ k,.iv (.int .u64 x),x4,x5,x6,x7,x8] (vH 1 3 (aZ out)) = .ret (.exit 2,[x0,acc 0 (aZ (out++(kL x).map fun v=>64*(k:Int)+v)),j_ k,.iv (.int .u64 0),x4,x5,x6,x7,c],vH 1 3 (aZ (out++(kL x).map fun v=>64*(k:Int)+v)))
 |n,x,out,x8,hn,hx,ho=>by
  by_cases h0:x=0;.subst h0;rw[aP0,C3,A4];refine⟨z_,aE K _ _ t57L0.eq_1 ?_⟩;simp(disch:=omega)only[go_sem,Int.natCast_zero]
  .obtain⟨q,y,e⟩:=bJx x h0;have d:=aWq (k:=q) (y:=y) (by rw[<-e];exact hx);have a:=bQf (k:=q) (y:=y) (by rw[<-e];exact hx);have p:=aPz (k:=q) (y:=y) (by rw[<-e];exact hx);rw[<-e]at d a;have i:x &&& (x-1)<=x-1:=Nat.and_le_right;match n,hn with
   |0,hn=>omega
   |n+1,hn =>
    have o:(kL x).length=(kL (x &&& (x-1))).length+1:=by rw[d,List.length_cons]
    obtain⟨c,f⟩:=aTv j x0 x4 x5 x6 x7 n (x &&& (x-1)) (out++[64*(k:Int)+q]) e_ A_ A_ (by rw[H_,List.length_singleton];omega);have g:=bJt (l:=out) (ys:=[64*(k:Int)+q]) (t:=.full) (by simp;omega);rw[show aZ [64*(k:Int)+q]=[[.int .i64 (64*(k:Int)+q)]] from rfl]at g;have m:TM.binOp .sub (.iv (.int .u64 (x:Int))) (.iv (.int .u64 1))=some (.int .u64 ((x-1:Nat):Int)):=by rw[TM.aH9];congr 2;rw[qG A_];omega
    have h:TM.binOp .and (.iv (.int .u64 (x:Int))) (.iv (.int .u64 ((x-1:Nat):Int)))=some (.int .u64 ((x &&& (x-1):Nat):Int)):=by rw[TM.aAf];congr 2;show IntKind.u64.wrap ((((BitVec.ofInt 64 (x:Int)) &&& (BitVec.ofInt 64 ((x-1:Nat):Int))).toNat:Nat):Int)=_;rw[BitVec.toNat_and,kI ⟨by omega,by omega⟩,kI ⟨by omega,by omega⟩,Int.toNat_natCast,Int.toNat_natCast,qG A_]
    rw[d,Q_];rw[A9,List.singleton_append]at f;refine⟨c,aE K _ _ t57L0.eq_1 ?_⟩;have b:¬(x:Int)=0:=A_;generalize hO:(out++((64*(k:Int)+q)::(kL (x &&& (x-1))).map fun v:Int=>64*(k:Int)+v))=O at *
    generalize hP:out++[64*(k:Int)+q]=P at *
    simp(disch:=omega)only[go_sem,b,aD a,aC,g,m,h];exact X_ er f
def wlI:Nat->List Nat->List Int
 |_,[]=>[]
 |k,x::r=>(kL x).map (fun v:Int=>64*(k:Int)+v)++wlI (k+1) r
theorem aGw(x:Nat):(kL x).length<=64:=by unfold kL;rw[L_];exact B9 (D8 _ _) B_
theorem aTw:∀(k:Nat) (W:Tc_),(wlI k W).length<=64*W.length
 |_,[]=>by simp[wlI]
 |k,x::r=>by have a:=aTw (k+1) r;have b:=aGw x;rw[wlI,H_,L_,List.length_cons];omega
theorem aIw:∀(k:Nat) (W:Tc_) (v:Int),v∈wlI k W↔∃(i n:Nat),v=64*((k+i:Nat):Int)+n/\n<64/\(W.getD i 0).testBit n=true
 |k,[],v=>by simp[wlI,List.getD]
 |k,x::r,v=>by
  rw[wlI,a_,aIw (k+1) r v,A0];constructor
  .rintro(⟨b,d,rfl⟩|⟨i,n,rfl,a,c⟩);.obtain⟨n,rfl,a,c⟩:=(nP _ _).1 d;exact⟨0,n,by simp,a,by simpa[List.getD] using c⟩
   .exact⟨i+1,n,by omega,a,by simpa[List.getD] using c⟩
  .rintro⟨i,n,rfl,a,c⟩;cases i with
   |zero=>exact .inl ⟨n,(nP _ _).2 ⟨n,rfl,a,by simpa[List.getD] using c⟩,by simp⟩
   |succ i=>exact .inr ⟨i,n,by omega,a,by simpa[List.getD] using c⟩
theorem aC4:∀(k:Nat) (W:Tc_),(wlI k W).Pairwise (·<·)
 |_,[]=>by simp[wlI]
 |k,x::r=>by rw[wlI,O4];refine⟨V3 _ (fun a b h=>A_) (wD x),aC4 (k+1) r,fun a e b f=>?_⟩;obtain⟨c,d,rfl⟩:=A0.1 e;obtain⟨n,rfl,g,l⟩:=(nP _ _).1 d;obtain⟨i,m,rfl,h3,j⟩:=(aIw _ _ _).1 f;omega
theorem bB9(W:Tc_)(v:Int):v∈wlI 0 W↔∃n:Nat,v=n/\bit W n=true:=by
 rw[aIw];constructor;.rintro⟨i,n,rfl,b,a⟩;refine⟨64*i+n,by omega,?_⟩;unfold bit;rw[show(64*i+n) / 64=i by omega,show(64*i+n) % 64=n by omega];exact a
 .rintro⟨n,rfl,h⟩;exact⟨n / 64,n % 64,by omega,X4 _ C_,h⟩
theorem aTx(t:Tag)(W:Tc_)(g:∀x∈W,x<18446744073709551616)(s:W.length<=100000):∀(k i:Nat) (out:Ta_) (x2 c x7 x8:TV),i+k=W.length->out.length<=64*i ->∃(m j r e:TV),lp' (lim K) t57L1 [.iv (.sl t (TM.one uV W)),acc 0 (aZ out),x2,c,.iv (.sl t (TM.one uV W)),j_ W.length,j_ i,x7,x8] (vH 1 3 (aZ out)) = .ret (.exit 0,[.iv (.sl t (TM.one uV W)),acc 0 (aZ (out++wlI i (W.drop i))),m,j,.iv (.sl t (TM.one uV W)),j_ W.length,j_ W.length,r,e],vH 1 3 (aZ (out++wlI i (W.drop i))))
 |0,i,out,x2,c,x7,x8,hk,ho=>by obtain rfl:i=W.length:=A_;rw[E0,wlI,A4];refine⟨x2,c,z_,x8,aE K _ _ t57L1.eq_1 ?_⟩;simp(disch:=omega)only[go_sem]
 |k+1,i,out,x2,c,x7,x8,hk,ho=>by
  have b:i<W.length:=A_;have a:=pI (f:=uV) (t:=t) (l:=W) (i:=(i:Int)) A_;rw[Int.toNat_natCast]at a;have d:=aC0 b;have u:W.getD i default<18446744073709551616:=g _ (by simp only[List.getD,D_ b,Option.getD_some];exact B8 _);generalize W.getD i default=x at *
  have w:=aGw x;obtain⟨e,y⟩:=aTv (k:=i) A_ (.iv (.sl t (TM.one uV W))) (.iv (.sl t (TM.one uV W))) (j_ W.length) (j_ i) e_ x x out x8 (O_ _) u A_;obtain⟨p,o,n,q,h⟩:=aTx t W g s k (i+1) (out++(kL x).map fun v:Int=>64*(i:Int)+v) (j_ i) (.iv (.int .u64 0)) e_ e A_ (by rw[H_,L_];omega);rw[d,wlI];rw[A9,show((i+1:Nat):Int)=(i:Int)+1 by omega]at h;refine⟨p,o,n,q,aE K _ _ t57L1.eq_1 ?_⟩;generalize hO:out++((kL x).map (fun v:Int=>64*(i:Int)+v)++wlI (i+1) (W.drop (i+1)))=O at *
  generalize hP:out++(kL x).map (fun v:Int=>64*(i:Int)+v)=P at *
  rw[show uV x=IV.int .u64 (x:Int) from rfl]at a;simp(disch:=omega)only[go_sem,a];rw[y];simp(disch:=omega)only[go_sem,aC];exact X_ er h
theorem bQg(t:Tag)(W:Tc_)(c:∀x∈W,x<18446744073709551616)(b:W.length<=100000):TM.Pure K 57 [.iv (.sl t (TM.one uV W))] (.iv (.sl (jL (aZ (wlI 0 W))) (TM.one (.int .i64) (wlI 0 W)))):=by obtain⟨f,d,e,g,a⟩:=aTx t W c b W.length 0 [] u_ u_ u_ u_ A_ B_;rw[C4,List.nil_append,n0_,show vH 1 3 (aZ [])=[] from rfl,show acc 0 (aZ [])=k_ from rfl]at a;refine TM.gQ (S:=vH 1 3 (aZ (wlI 0 W))) (r:=acc 0 (aZ (wlI 0 W))) (aI K _ (fn:=t57) rfl rfl ?_) (aBq _ _ _);simp(disch:=omega)only[t57,go_sem];rw[a];simp(disch:=omega)only[go_sem]
def cF(n:Nat)(f:Nat->TV):List TV:=(List.range n).map f
def upd{α:Type}(f:Nat->α)(i:Nat)(x:α):Nat->α:=fun j=>if j=i then x else f j
theorem bU{α:Type}(f:Nat->α)(i:Nat)(x:α):upd f i x i=x:=by simp[upd]
theorem dB{α:Type}(f:Nat->α){i j:Nat}(x:α)(h:j≠i):upd f i x j=f j:=by simp[upd,h]
theorem aC5(n:Nat)(f:Nat->TV):(cF n f).length=n:=by simp[cF]
theorem dS{n i:Nat}(f:Nat->TV)(h:i<n):sub (cF n f) i 1=some [f i]:=by simp only[sub,aC5,show i+1<=n by omega,↓reduceIte];rw[A6 (by rw[aC5];exact h)];simp[cF]
theorem lC{n i:Nat}(f:Nat->TV)(x:TV)(h:i<n):put (cF n f) i [x]=cF n (upd f i x):=by
 simp only[put,cF];apply N4;.simp;omega
 .intro j a b;simp at a b;rcases M3 j i with h3|h3|h3;.rw[O7 (by simp;omega),O7 (by simp;omega)];simp[upd,show ¬j=i by omega]
  .subst h3;rw[O7 (by simp;omega),U7 (by simp;omega)];simp[upd]
  .rw[U7 (by simp;omega)];have e:i+1+(j-(min i n+1))=j:=A_;simp[upd,show ¬j=i by omega,e]
attribute [go_sem] aC5
theorem gN0(S:aA)(a:aG)(r:aA):(S++a::r)[S.length]?=some a:=B_
theorem gN1(S:aA)(a b:aG)(r:aA):(S++a::b::r)[S.length+1]?=some b:=by rw[r_ A_];simp
theorem gN2(S:aA)(a b c:aG)(r:aA):(S++a::b::c::r)[S.length+2]?=some c:=by rw[r_ A_];simp
theorem gN3(S:aA)(a b c d:aG)(r:aA):(S++a::b::c::d::r)[S.length+3]?=some d:=by rw[r_ A_];simp
theorem gN4(S:aA)(a b c d e:aG)(r:aA):(S++a::b::c::d::e::r)[S.length+4]?=some e:=by rw[r_ A_];simp
theorem gN5(S:aA)(a b c d e f:aG)(r:aA):(S++a::b::c::d::e::f::r)[S.length+5]?=some f:=by rw[r_ A_];simp
theorem gN6(S:aA)(a b c d e f g:aG)(r:aA):(S++a::b::c::d::e::f::g::r)[S.length+6]?=some g:=by rw[r_ A_];simp
theorem gN7(S:aA)(a b c d e f g h:aG)(r:aA):(S++a::b::c::d::e::f::g::h::r)[S.length+7]?=some h:=by rw[r_ A_];simp
theorem sN1(S:aA)(a b x:aG)(r:aA):(S++a::b::r).set (S.length+1) x=S++a::x::r:=by rw[E3 _ _ A_];simp
theorem sN2(S:aA)(a b c x:aG)(r:aA):(S++a::b::c::r).set (S.length+2) x=S++a::b::x::r:=by rw[E3 _ _ A_];simp
theorem sN5(S:aA)(a b c d e f x:aG)(r:aA):(S++a::b::c::d::e::f::r).set (S.length+5) x=S++a::b::c::d::e::x::r:=by rw[E3 _ _ A_];simp
theorem sN6(S:aA)(a b c d e f g x:aG)(r:aA):(S++a::b::c::d::e::f::g::r).set (S.length+6) x=S++a::b::c::d::e::f::x::r:=by rw[E3 _ _ A_];simp
theorem sN7(S:aA)(a b c d e f g h x:aG)(r:aA):(S++a::b::c::d::e::f::g::h::r).set (S.length+7) x=S++a::b::c::d::e::f::g::x::r:=by rw[E3 _ _ A_];simp
attribute [go_sem] gN0 gN1 gN2 gN3 gN4 gN5 gN6 gN7 sN1 sN2 sN5 sN6 sN7
structure VF where
 fn:Int
 regs:Nat
 sl:Int
 nd:Int
 pr:Int
 rs:Bool
 ti:Tag
 ins:List VI
def kY(f:VF):List IV:=[.int .i64 f.fn,.int .i64 f.regs,.int .i64 f.sl,.int .i64 f.nd,.int .i64 f.pr,.bool f.rs,.sl f.ti (f.ins.map aJ)]
structure RS (S:aA) (j n m:Nat) (ia:Nat->Nat) (I:Nat->List Nat):Prop where
 row:S[j]?=some (.cells 0 false (cF n fun i=>.msl (ia i) 0 0 m m 1))
 ge:∀i,i<n->6<=ia i
 set:∀i,i<n->S[ia i]?=some (.cells 0 false ((I i).map uI))
 ok:∀i,i<n->WOK m (I i)
structure FlS (S:aA) (f:VF) (lb:List (Nat×Int×Int)) (n m:Nat) (ia oa:Nat->Nat) (I O:Nat->List Nat):Prop where
 lab:∃c,S[0]?=some (.mp (mpR kC lb) c)
 inn:RS S 1 n m ia I
 out:RS S 2 n m oa O
 flw:S[3]?=some (.cells 65 false [.iv (.int .i64 f.fn),.iv (.int .i64 f.regs),.iv (.int .i64 f.sl),.iv (.int .i64 f.nd),.iv (.int .i64 f.pr),.iv (.bool f.rs),.iv (.sl f.ti (f.ins.map aJ)),.map 0,.msl 1 0 0 n n 1,.msl 2 0 0 n n 1])
 len:6<=S.length
theorem aTy{S0:aA}{f:VF}{lb:Td_}{n m:Nat}{p Q:Th_}{I O:Te_}(l:FlS S0 f lb n m p Q I O)(Z:m<=100000)(H:n<=1000000){kk:Nat}(b:kk<n)(R:aA)(x0 s x2 w x5 x9 x10 x11 x12 x13 g c h:TV):∀(k i:Nat) (W:Tc_) (x8 x16:TV),i+k=m->WOK m W ->∃(W':Tc_) (x d:TV),lp' (lim K) t56L1 [x0,s,x2,w,.ptr S0.length 58 0,x5,.ptr (S0.length+2) 93 0,j_ kk,x8,x9,x10,x11,x12,x13,j_ m,j_ i,x16,g,c,h] (S0++.cells 58 false [.ptr 3 65 0]::.cells 0 false (W.map uI)::.cells 93 false [.msl (S0.length+1) 0 0 m m 1]::R) = .ret (.exit 2,[x0,s,x2,w,.ptr S0.length 58 0,x5,.ptr (S0.length+2) 93 0,j_ kk,x,x9,x10,x11,x12,x13,j_ m,j_ m,d,g,c,h],S0++.cells 58 false [.ptr 3 65 0]::.cells 0 false (W'.map uI)::.cells 93 false [.msl (S0.length+1) 0 0 m m 1]::R) /\WOK m W'/\∀q,W'.getD q 0=if i<=q/\q<m then W.getD q 0 ||| (I kk).getD q 0 else W.getD q 0
 |0,i,W,x8,x16,hk,hW=>by obtain rfl:i=m:=A_;refine⟨W,x8,z_,aE K _ _ t56L1.eq_1 ?_,hW,fun q=>by rw[I_ A_]⟩;simp(disch:=omega)only[go_sem]
 |k+1,i,W,x8,x16,hk,hW=>by
  have a:i<m:=A_;have r:=l.inn.ok kk b;have T:=iO (j:=S0.length+1) (v:=0) (cap:=m) a;have U:=iO (j:=1) (v:=0) (cap:=n) b;have J:=iO (j:=p kk) (v:=0) (cap:=m) a;have y:=sF (W:=W) (i:=i) (by rw[hW.len];exact a);have V:=dS (fun i=>TV.msl (p i) 0 0 m m 1) b;have F:=sF (W:=I kk) (i:=i) (by rw[r.len];exact a);have G:=fun L=>aR l.inn.row L;have D:=fun L=>aR (l.inn.set kk b) L;have N:=fun L=>aR l.flw L;have P:=aPv (hW.get i) (r.get i);have t:=aIv (hW.get i) (r.get i);have z:=aPu (W:=W) (i:=i) (W.getD i 0 ||| (I kk).getD i 0) (by rw[hW.len];exact a);have o:i+1<=(W.map uI).length:=by rw[L_,hW.len];omega
  obtain⟨W',x,d,E,u,Y⟩:=aTy l Z H b R x0 s x2 w x5 x9 x10 x11 x12 x13 g c h k (i+1) (W.set i (W.getD i 0 ||| (I kk).getD i 0)) (j_ i) e_ A_ (hW.set i _ t);rw[show((i+1:Nat):Int)=(i:Int)+1 by omega]at E;simp only[uI]at y F z D o;refine⟨W',x,d,aE K _ _ t56L1.eq_1 ?_,u,fun q=>?_⟩
  .generalize hA:W.getD i 0=A at *
   generalize hB:(I kk).getD i 0=B at *
   generalize hC:A ||| B=C at *
   simp(disch:=omega)only[go_sem,T,U,J,y,V,F,G,D,N,P,z,o,aC];exact X_ er E
  .rw[Y q,aC1 (by rw[hW.len];exact a)];by_cases e:q=i;.subst e;rw[I_ A_,K_ rfl,K_ A_]
   .rw[I_ e];by_cases e2:i+1<=q/\q<m;.rw[K_ e2,K_ A_]
    .rw[I_ e2,I_ A_]
theorem bCa(a:TV):TM.bC [[a]]=[a]:=rfl
theorem bT3(a b:TV):TM.bC [[a],[b]]=[a,b]:=rfl
theorem bT4(a b c:TV):TM.bC [[a],[b],[c]]=[a,b,c]:=rfl
attribute [go_sem] bCa bT3 bT4
theorem bQh(l:Ta_):(l.map vI).any bJ=false:=by rw[t_];intro x a;obtain⟨m,_,rfl⟩:=A0.1 a;simp[vI,bJ]
theorem aC6{S:aA}{j v:Nat}{b:Bool}{C:Ta_}{J:Tn_}(h:S[j]?=some (.cells v b (C.map vI++J)))(cap:Nat):cH S (.msl j v 0 C.length cap 1)=some (TM.one (.int .i64) C):=by
 have c:sub (C.map vI++J) 0 (C.length*1)=some (C.map vI):=by simp[sub,X2]
 have e2:toIVs (C.map vI)=some (C.map (IV.int .i64)):=by
  have:C.map vI=(C.map (IV.int .i64)).map .iv:=by rw[L7];rfl
  rw[this,fM]
 have e3:∀L:List Int,cP 1 L.length (L.map (IV.int .i64))=TM.one (.int .i64) L:=by
  intro L;induction L with
  |nil=>rfl
  |cons a r ih=>simp only[Q_,List.length_cons,cP,List.take_succ_cons,List.take_zero,J5,C4,ih];rfl
 simp only[cH,h,ne_eq,C9,↓reduceIte,c,e2,Option.map_some,e3]
theorem lE{S:aA}{j v:Nat}{b:Bool}{C:Ta_}{J:Tn_}(h:S[j]?=some (.cells v b (C.map vI++J)))(cap:Nat):TM.resolve S (.msl j v 0 C.length cap 1)=some (.iv (.sl .no (TM.one (.int .i64) C))):=by show(match cH S (.msl j v 0 C.length cap 1)with|some l=>some (IV.sl .no l)|none=>none).map TV.iv=_;rw[aC6 h];rfl
theorem aGx{α:Type}(l:List α):cB .no l:=fun h=>by cases h
theorem aP1{S:aA}{j v:Nat}{C:Ta_}(mu:Bool)(r:Int)(h:S[j]?=some (.cells v true (C.map vI)))(f:C.length<=1000000)(t:Tag): bA mu 1 8 3 S (.msl j v 0 C.length C.length 1) (.iv (.sl t [[.int .i64 r]]))=some (.msl j (v+1) 0 (C.length+1) (C.length+1) 1,S.set j (.cells (v+1) true ((C++[r]).map vI))):=by have b:sub (C.map vI) 0 C.length=some (C.map vI):=mC B_;have d:eA (C.length+1) 8=true:=bR A_;have e:dU S (.iv (.sl t [[.int .i64 r]]))=some [vI r]:=rfl;have a:lenOf S (.iv (.sl t [[.int .i64 r]]))=some 1:=rfl;have c:bJ (vI r)=false:=rfl;simp[bA,e,a,h,c,d,b,show ¬C.length+1<=C.length by omega]
theorem bJ2{S:aA}{j v:Nat}{C:Ta_}(mu:Bool)(r:Int)(h:S[j]?=some (.cells v false (C.map vI)))(f:C.length<=1000000)(t:Tag): bA mu 1 8 3 S (.msl j v 0 C.length C.length 1) (.iv (.sl t [[.int .i64 r]]))=some (.msl S.length 0 0 (C.length+1) (C.length+1) 1,S++[.cells 0 true ((C++[r]).map vI)]):=by have b:sub (C.map vI) 0 C.length=some (C.map vI):=mC B_;have d:eA (C.length+1) 8=true:=bR A_;have e:dU S (.iv (.sl t [[.int .i64 r]]))=some [vI r]:=rfl;have a:lenOf S (.iv (.sl t [[.int .i64 r]]))=some 1:=rfl;have c:bJ (vI r)=false:=rfl;simp[bA,e,a,h,c,d,b,show ¬C.length+1<=C.length by omega]
theorem aLz{S:aA}(r:Int){a:Tag}(c:a≠.no)(t:Tag): bA true 1 8 3 S (.iv (.sl a [])) (.iv (.sl t [[.int .i64 r]]))=some (.msl S.length 0 0 1 1 1,S++[.cells 0 true [vI r]]):=by have e:eA 1 8=true:=bR A_;have f:dU S (.iv (.sl t [[.int .i64 r]]))=some [vI r]:=rfl;have b:lenOf S (.iv (.sl t [[.int .i64 r]]))=some 1:=rfl;have d:bJ (vI r)=false:=rfl;cases a<;>simp_all[bA,oL,bC]
theorem bJ3{S:aA}{t:Tag}{l:Ta_}(b:l≠[])(f:l.length<=1000000):bA true 1 8 3 S (.iv (.sl .full [])) (.iv (.sl t (TM.one (.int .i64) l)))=some (.msl S.length 0 0 l.length l.length 1,S++[.cells 0 true (l.map vI)]):=by
 have a:dU S (.iv (.sl t (TM.one (.int .i64) l)))=some ((l.map (IV.int .i64)).map .iv):=by rw[(rO.sl S t (TM.one (.int .i64) l)).1,aLn]
 have e2:lenOf S (.iv (.sl t (TM.one (.int .i64) l)))=some l.length:=by rw[(rO.sl S t (TM.one (.int .i64) l)).2,TM.kB]
 have c:(l.map (IV.int .i64)).map TV.iv=l.map vI:=by rw[L7];rfl
 have e3:=bQh l;have e:l.length≠0:=by intro h;exact b (H3.1 h)
 have d:eA l.length 8=true:=bR A_;rw[c]at a;simp[bA,a,e2,e3,e,d,bC,oL]
theorem aIx{S:aA}{t:Tag}:bA true 1 8 3 S (.iv (.sl .full [])) (.iv (.sl t []))=some (.iv (.sl .full []),S):=by simp[bA,dU,lenOf,bC,aQz]
theorem aTz(l:M_):eqB .sl (.iv (.sl .nil l)) k_=some true:=id rfl
theorem aT0(l:M_):eqB .sl (.iv (.sl .full l)) k_=some false:=id rfl
theorem aT1(l:M_):eqB .sl (.iv (.sl .no l)) k_=some false:=id rfl
theorem aP2(t:Tag)(l:Ta_)(d:cB t l)(c:l.length<=1000000)(S:aA): (l=[]/\∃a,a≠.no/\(lim K).call 44 [.iv (.sl t (TM.one (.int .i64) l))] S=.ret (.iv (.sl a []),S)) \/(l≠[]/\(lim K).call 44 [.iv (.sl t (TM.one (.int .i64) l))] S=.ret (.msl S.length 0 0 l.length l.length 1,S++[.cells 0 true (l.map vI)])):=by
 by_cases hn:t=.nil;.subst hn;obtain rfl:=d rfl;refine .inl ⟨rfl,.nil,by decide,aI K S (fn:=t44) rfl rfl ?_⟩;simp(disch:=omega)only[t44,go_sem,aTz]
 .have b:eqB .sl (.iv (.sl t (TM.one (.int .i64) l))) k_=some false:=by
   cases t with
   |nil=>exact absurd rfl hn
   |full=>exact aT0 _
   |no=>exact aT1 _
  by_cases h0:l=[]
  .subst h0;refine .inl ⟨rfl,.full,by decide,aI K S (fn:=t44) rfl rfl ?_⟩;rw[qK]at *
   simp(disch:=omega)only[t44,go_sem,b,aIx]
  .refine .inr ⟨h0,aI K S (fn:=t44) rfl rfl ?_⟩;have:=bJ3 (S:=S) (t:=t) h0 c;simp(disch:=omega)only[t44,go_sem,b,this]
theorem aC7(x:Int):TM.Pure K 72 [j_ x] (.iv (.bool (decide (26<=x/\x<=31)))):=by refine aT t72 rfl rfl ?_;rcases(by omega:x<26\/(26<=x/\x<=31)\/31<x)with h|h|h<;>simp(disch:=omega)only[t72,go_sem]
theorem bJ4(v:VI)(h:(1<=v.op/\v.op<=14)\/v.op=25\/(26<=v.op/\v.op<=31)):∃e,cB e (bF v)/\TM.Pure K 42 [.iv (.agg (aJ v))] (.iv (.sl e (TM.one (.int .i64) (bF v)))):=by
 have g:bF v=tdy [v.a,v.b]:=by unfold bF;rw[K_ A_]
 rw[g];have f:([.cells 0 false [vI v.a,vI v.b]]:aA)[0]?=some (.cells 0 false ([v.a,v.b].map vI++[])):=rfl;obtain⟨J,c⟩:=yZ B_ (cap:=2) B_ f (jM [v.a,v.b]);have d:=aC7 v.op;refine⟨.no,aGx _,gQ (S:=[.cells 0 false ((tdy [v.a,v.b]).map vI++J)]) (aI K _ (fn:=t42) rfl rfl ?_) (lE (j:=0) (v:=0) (b:=false) (J:=J) rfl 2)⟩;simp only[vI,List.length_cons,List.length_nil,List.set_cons_zero,A7,Nat.reduceAdd]at c;rcases h with h|h|h;.simp(disch:=omega)only[t42,go_sem,aJ,Q_,C3,c]
 .simp(disch:=omega)only[t42,go_sem,aJ,Q_,C3,c]
 .rw[V_ h]at d;simp(disch:=omega)only[t42,go_sem,aJ,Q_,C3,c,aD d]
def rA:aL:=(.region [⟨.mov (.loc 13),(some 7),none⟩])
def rB:aL:=(.block 1
    (.seq (.region [⟨.load1 (.loc 6),none,none⟩,⟨.len .sl (.reg 0),(some 14),none⟩,⟨.mov (.cst (.int .i64 0)),(some 15),none⟩])
    (.block 2
     (.loop t56L1))))
def rE(N:Nat)(x0 x1 x2 x3 x5 x7 x8 x9 x10 x11 x12 x13 x14 x15 x16 x17 x18 x19:TV):Env:=[x0,x1,x2,x3,.ptr N 58 0,x5,.ptr (N+2) 93 0,x7,x8,x9,x10,x11,x12,x13,x14,x15,x16,x17,x18,x19]
def gS(S0:aA)(m:Nat)(W:List Nat)(b3 b4 Z:aG)(R:aA):aA:=S0++.cells 58 false [.ptr 3 65 0]::.cells 0 false (W.map uI)::.cells 93 false [.msl (S0.length+1) 0 0 m m 1]::b3::b4::Z::R
theorem bQi{m:Nat}{W V W':Tc_}(b:WOK m W)(a:WOK m V)(h:∀q,W'.getD q 0=if 0<=q/\q<m then W.getD q 0 ||| V.getD q 0 else W.getD q 0)(r:Nat):bit W' r=(bit W r||bit V r):=by
 unfold bit;rw[h];by_cases e:r / 64<m;.rw[K_ ⟨I3 _,e⟩,N9]
 .rw[I_ A_];have:V.getD (r / 64) 0=0:=by rw[List.getD,B7 (by rw[a.len];omega)];rfl
  rw[this,Q4,O9]
theorem bT5{S0:aA}{f:VF}{lb:Td_}{n m:Nat}{v w:Th_}{I O:Te_}(o:FlS S0 f lb n m v w I O)(t:m<=100000)(u:n<=1000000){kk:Nat}(j:kk<n)(b3 b4:aG)(R:aA)(x0 g x2 h x5 x7 x8 x9 x10 x11 x12 x13 x14 x15 x16 d c e:TV)(W:Tc_)(s:WOK m W): ∃W':List Nat,(lim K).yld (S0.length+5) [j_ kk] (gS S0 m W b3 b4 (.lp .ready none (rE S0.length x0 g x2 h x5 x7 x8 x9 x10 x11 x12 x13 x14 x15 x16 d c e) [13] rA rB) R) = .ret (e_,gS S0 m W' b3 b4 (.lp .ready none (rE S0.length x0 g x2 h x5 x7 x8 x9 x10 x11 x12 x13 x14 x15 x16 d c e) [13] rA rB) R)/\WOK m W'/\∀r,bit W' r=(bit W r||bit (I kk) r):=by
 generalize hE:rE S0.length x0 g x2 h x5 x7 x8 x9 x10 x11 x12 x13 x14 x15 x16 d c e=E;obtain⟨W',x,l,q,k,y⟩:=aTy o t u j (b3::b4::.lp .busy none E [13] rA rB::R) x0 g x2 h x5 x9 x10 x11 x12 (j_ kk) d c e m 0 W x8 x16 A_ s;refine⟨W',?_,k,bQi s (o.inn.ok kk j) y⟩;have z:=aPa (K:=K) (i:=S0.length+5) (args:=[j_ kk]) (S:=gS S0 m W b3 b4 (.lp .ready none E [13] rA rB) R) (S1:=gS S0 m W b3 b4 (.lp .ready none E [13] rA rB) R) (S2:=gS S0 m W' b3 b4 (.lp .busy none E [13] rA rB) R)
  (st:=.ready) (p:=none) (p2:=none) (p3:=none) (st3:=.busy) (env:=E) (e2:=E) (e3:=E) (ps:=[13]) (ps2:=[13]) (ps3:=[13]) (a:=rA) (b:=rB) (a2:=rA) (b2:=rB) (a3:=rA) (b3:=rB)
  (env1:=rE S0.length x0 g x2 h x5 x7 x8 x9 x10 x11 x12 (j_ kk) x14 x15 x16 d c e)
  (env2:=rE S0.length x0 g x2 h x5 (j_ kk) x8 x9 x10 x11 x12 (j_ kk) x14 x15 x16 d c e)
  (env3:=rE S0.length x0 g x2 h x5 (j_ kk) x x9 x10 x11 x12 (j_ kk) (j_ m) (j_ m) l d c e)
  (by unfold gS;rw[gN5]) (by rw[<-hE];rfl) ?_ (by unfold gS;rw[gN5]) ?_ (by unfold gS;rw[gN5])
 .rw[z];unfold gS;rw[sN5]
 .unfold rE rA;simp(disch:=omega)only[go_sem]
 .unfold gS;rw[sN5];rw[n0_]at q;generalize aG.lp .busy none E [13] rA rB=Z at *
  unfold rE rB;simp(disch:=omega)only[go_sem];rw[q];simp(disch:=omega)only[go_sem]
theorem eZ(v:VI):(aJ v).length=8:=rfl
def bhd(lb:List (Nat×Int×Int))(l:List VI)(i:Nat):List Nat :=
 if(l.getD i default).op=68\/(l.getD i default).op=72 then []else
  (if(26<=(l.getD i default).op/\(l.getD i default).op<=31)\/(l.getD i default).op=66 then [(lR lb (l.getD i default).lb).toNat]else []) ++
  (if(l.getD i default).op≠66/\i+1<l.length then [i+1]else [])
def aL0(lb:List (Nat×Int×Int))(l:List VI):Prop:=∀i,i<l.length->((26<=(l.getD i default).op/\(l.getD i default).op<=31)\/(l.getD i default).op=66)->0<=lR lb (l.getD i default).lb/\lR lb (l.getD i default).lb<l.length
theorem bJ5(env:Env)(S:aA)(a b c d e f g h:IV):bP env S (.iv (.cp [a,b,c,d,e,f,g,h])) 8=some [.iv a,.iv b,.iv c,.iv d,.iv e,.iv f,.iv g,.iv h]:=by simp[bP,sub]
attribute [go_sem] bJ5
theorem bJ6{S0:aA}{m:Nat}{W:Tc_}{b3 b4 Z a:aG}(x:aG)(R:aA):(gS S0 m W b3 b4 Z (a::R)).set (S0.length+6) x=gS S0 m W b3 b4 Z (x::R):=by unfold gS;rw[sN6]
theorem bJ7{S0:aA}{m:Nat}{W:Tc_}{b3 b4 Z:aG}(R:aA):(gS S0 m W b3 b4 Z R)[S0.length+3]?=some b3:=by unfold gS;rw[gN3]
theorem bJ8{S0:aA}{m:Nat}{W:Tc_}{b3 b4 Z:aG}(R:aA):(gS S0 m W b3 b4 Z R)[S0.length+4]?=some b4:=by unfold gS;rw[gN4]
theorem bJ9{S0:aA}{m:Nat}{W:Tc_}{b3 b4 Z a:aG}(R:aA):(gS S0 m W b3 b4 Z (a::R))[S0.length+6]?=some a:=by unfold gS;rw[gN6]
theorem sG{S0:aA}{m:Nat}{W:Tc_}{b3 b4 Z:aG}(R:aA){j:Nat}{b:aG}(h:S0[j]?=some b):(gS S0 m W b3 b4 Z R)[j]?=some b:=by unfold gS;exact aR h _
theorem aP3{S0:aA}{m:Nat}{W:Tc_}{b3 b4 Z:aG}(R:aA):(gS S0 m W b3 b4 Z R).length=S0.length+(6+R.length):=by unfold gS;simp;omega
theorem bCb{S0:aA}{m:Nat}{W:Tc_}{b3 b4 Z:aG}(R L:aA):gS S0 m W b3 b4 Z R++L=gS S0 m W b3 b4 Z (R++L):=by unfold gS;simp
attribute [go_sem] bJ6 bJ7 bJ8 bJ9 bCb
theorem bKa{S0:aA}{f:VF}{lb:Td_}{n m:Nat}{Q Y:Th_}{I O:Te_}(G:FlS S0 f lb n m Q Y I O)(U:m<=100000)(V:n<=1000000)(H:f.ins.length=n)(L:aL0 lb f.ins){i:Nat}(hi:i<n)(x0 C x2 D x5 x7 x8 x9 x10 x11 x12 x13 x14 x15 x16 p h o:TV)(W:Tc_)(u:WOK m W): ∃(W':Tc_) (B:aG),(lim K).call 113 [.yld (S0.length+5),.ptr (S0.length+3) 58 0,.ptr (S0.length+4) 4 0] (gS S0 m W (.cells 58 false [.ptr 3 65 0]) (.cells 4 false [j_ i]) (.lp .ready none (rE S0.length x0 C x2 D x5 x7 x8 x9 x10 x11 x12 x13 x14 x15 x16 p h o) [13] rA rB) []) = .ret (u_,gS S0 m W' (.cells 58 false [.ptr 3 65 0]) (.cells 4 false [j_ i]) (.lp .ready none (rE S0.length x0 C x2 D x5 x7 x8 x9 x10 x11 x12 x13 x14 x15 x16 p h o) [13] rA rB) [B])/\WOK m W'/\∀r,bit W' r=(bit W r||(bhd lb f.ins i).any fun k=>bit (I k) r):=by
 have P:=L i A_;obtain⟨c0,A⟩:=G.lab;have g0:=fun W b3 b4 Z R=>sG (S0:=S0) (m:=m) (W:=W) (b3:=b3) (b4:=b4) (Z:=Z) R A;have q:=fun W b3 b4 Z R=>sG (S0:=S0) (m:=m) (W:=W) (b3:=b3) (b4:=b4) (Z:=Z) R G.flw;have c:=gC (w:=8) (f:=aJ) eZ (t:=f.ti) (l:=f.ins) (i:=(i:Int)) A_;rw[Int.toNat_natCast]at c;have a:(f.ins.map aJ).length=n:=by rw[L_,H]
 have b:=fun W b3 b4 Z R=>aP3 (S0:=S0) (m:=m) (W:=W) (b3:=b3) (b4:=b4) (Z:=Z) R;have e:=aC7 (f.ins.getD i default).op;unfold bhd;generalize hx:f.ins.getD i default=x at *
 rw[cV]at c;have F:=fun kk (d:kk<n) b3 b4 R W u=>bT5 G U V (kk:=kk) d b3 b4 R x0 C x2 D x5 x7 x8 x9 x10 x11 x12 x13 x14 x15 x16 p h o W u;generalize aG.lp .ready none (rE S0.length x0 C x2 D x5 x7 x8 x9 x10 x11 x12 x13 x14 x15 x16 p h o) [13] rA rB=Z at *
 by_cases z:x.op=68\/x.op=72
 .rw[K_ z];refine⟨W,.cells 29 false ((aJ x).map .iv),aI K _ (fn:=t113) rfl rfl ?_,u,fun r=>B_⟩;rw[aS]
  .rcases z with z|z;.simp(disch:=omega)only[t113,go_sem,g0,q,c,a,b]
   .simp(disch:=omega)only[t113,go_sem,g0,q,c,a,b]
 .rw[I_ z];have J:((n:Nat):Int)=(f.ins.length:Nat):=A_;by_cases hJ:x.op=66;.obtain⟨N,T⟩:=P (.inr hJ);obtain⟨kk,d⟩:=H4 N;rw[K_ (.inr hJ),I_ A_,A4,d,Int.toNat_natCast];obtain⟨W',y,j,E⟩:=F kk A_ (.cells 58 false [.ptr 3 65 0]) (.cells 4 false [j_ i]) [.cells 29 false ((aJ x).map .iv)] W u;rw[aS]at y;rw[l_ A_]at e;refine⟨W',.cells 29 false ((aJ x).map .iv),aI K _ (fn:=t113) rfl rfl ?_,j,fun r=>by rw[E r];simp⟩;rw[aS];simp(disch:=omega)only[t113,go_sem,g0,q,c,a,b,aD e,aCw,d,y,er_ret]
  .by_cases hB:26<=x.op/\x.op<=31
   .obtain⟨N,T⟩:=P (.inl hB);obtain⟨kk,d⟩:=H4 N;rw[K_ (.inl hB),d,Int.toNat_natCast];obtain⟨W',y,j,E⟩:=F kk A_ (.cells 58 false [.ptr 3 65 0]) (.cells 4 false [j_ i]) [.cells 29 false ((aJ x).map .iv)] W u;rw[aS]at y;rw[V_ hB]at e;by_cases hi1:i+1<n;.rw[K_ ⟨hJ,by omega⟩];obtain⟨W2,g,s,v⟩:=F (i+1) hi1 (.cells 58 false [.ptr 3 65 0]) (.cells 4 false [j_ i]) [.cells 29 false ((aJ x).map .iv)] W' j;rw[aS,show((i+1:Nat):Int)=(i:Int)+1 by omega]at g;refine⟨W2,.cells 29 false ((aJ x).map .iv),aI K _ (fn:=t113) rfl rfl ?_,s,fun r=>by rw[v r,E r];simp[Bool.or_assoc]⟩;rw[aS];simp(disch:=omega)only[t113,go_sem,g0,q,c,a,b,aD e,aCw,d,y,aC,g,er_ret]
    .rw[I_ A_,A4];refine⟨W',.cells 29 false ((aJ x).map .iv),aI K _ (fn:=t113) rfl rfl ?_,j,fun r=>by rw[E r];simp⟩;rw[aS];simp(disch:=omega)only[t113,go_sem,g0,q,c,a,b,aD e,aCw,d,y,aC,er_ret]
   .rw[I_ A_,List.nil_append];rw[l_ hB]at e;by_cases hi1:i+1<n;.rw[K_ ⟨hJ,by omega⟩];obtain⟨W2,g,s,v⟩:=F (i+1) hi1 (.cells 58 false [.ptr 3 65 0]) (.cells 4 false [j_ i]) [.cells 29 false ((aJ x).map .iv)] W u;rw[aS,show((i+1:Nat):Int)=(i:Int)+1 by omega]at g;refine⟨W2,.cells 29 false ((aJ x).map .iv),aI K _ (fn:=t113) rfl rfl ?_,s,fun r=>by rw[v r];simp⟩;rw[aS];simp(disch:=omega)only[t113,go_sem,g0,q,c,a,b,aD e,aC,g,er_ret]
    .rw[I_ A_];refine⟨W,.cells 29 false ((aJ x).map .iv),aI K _ (fn:=t113) rfl rfl ?_,u,fun r=>B_⟩;rw[aS];simp(disch:=omega)only[t113,go_sem,g0,q,c,a,b,aD e,aC,er_ret]
theorem bQj(i:Nat)(S:aA):(lim K).call 79 [.ptr 3 65 0,j_ i] S=.ret (.fn 113 [] [.ptr S.length 58 0,.ptr (S.length+1) 4 0],S++[.cells 58 false [.ptr 3 65 0],.cells 4 false [j_ i]]):=by refine aI K _ (fn:=t79) rfl rfl ?_;simp(disch:=omega)only[t79,go_sem,n_,A9]
theorem bKb{S0:aA}{m:Nat}{W:Tc_}{b3 b4 Z:aG}(R:aA):(gS S0 m W b3 b4 Z R)[S0.length]?=some (.cells 58 false [.ptr 3 65 0]):=by unfold gS;rw[gN0]
theorem aT2{S0:aA}{m:Nat}{W:Tc_}{b3 b4 Z:aG}(R:aA):(gS S0 m W b3 b4 Z R)[S0.length+1]?=some (.cells 0 false (W.map uI)):=by unfold gS;rw[gN1]
theorem aT3{S0:aA}{m:Nat}{W:Tc_}{b3 b4 Z:aG}(R:aA):(gS S0 m W b3 b4 Z R)[S0.length+2]?=some (.cells 93 false [.msl (S0.length+1) 0 0 m m 1]):=by unfold gS;rw[gN2]
theorem bKc{S0:aA}{m:Nat}{W:Tc_}{b3 b4 Z:aG}(R:aA):(gS S0 m W b3 b4 Z R)[S0.length+5]?=some Z:=by unfold gS;rw[gN5]
theorem aIy{S0:aA}{m:Nat}{W:Tc_}{b3 b4 Z a b:aG}(R:aA):(gS S0 m W b3 b4 Z (a::b::R))[S0.length+7]?=some b:=by unfold gS;rw[gN7]
theorem bKd{S0:aA}{m:Nat}{W:Tc_}{b3 b4 Z a b:aG}(x:aG)(R:aA):(gS S0 m W b3 b4 Z (a::b::R)).set (S0.length+7) x=gS S0 m W b3 b4 Z (a::x::R):=by unfold gS;rw[sN7]
theorem bKe{S0:aA}{m:Nat}{W:Tc_}{b3 b4 Z:aG}(x:aG)(R:aA):(gS S0 m W b3 b4 Z R).set (S0.length+5) x=gS S0 m W b3 b4 x R:=by unfold gS;rw[sN5]
attribute [go_sem] bKb aT2 aT3 bKc aIy bKd bKe
theorem aT4{S0:aA}{m:Nat}(L:m<=100000){h p:Nat}{U D:Tc_}(g:WOK m U)(r:WOK m D)(u:S0[h]?=some (.cells 0 false (U.map uI)))(x:S0[p]?=some (.cells 0 false (D.map uI))){W:Tc_}(w:WOK m W)(b3 b4 Z B6:aG)(x0 l x4 x5 x7 x8 x11 x12 x13 x14 x15 x16:TV):∀(k i:Nat) (V:Tc_) (x10 d:TV),i+k=m->WOK m V ->∃(V':Tc_) (b c:TV),lp' (lim K) t56L0 [x0,l,.msl h 0 0 m m 1,.msl p 0 0 m m 1,x4,x5,.ptr (S0.length+2) 93 0,x7,x8,.msl (S0.length+7) 0 0 m m 1,x10,x11,x12,x13,x14,x15,x16,j_ m,j_ i,d] (gS S0 m W b3 b4 Z [B6,.cells 0 false (V.map uI)]) = .ret (.exit 4,[x0,l,.msl h 0 0 m m 1,.msl p 0 0 m m 1,x4,x5,.ptr (S0.length+2) 93 0,x7,x8,.msl (S0.length+7) 0 0 m m 1,b,x11,x12,x13,x14,x15,x16,j_ m,j_ m,c],gS S0 m W b3 b4 Z [B6,.cells 0 false (V'.map uI)]) /\WOK m V'/\∀q,V'.getD q 0=if i<=q/\q<m then U.getD q 0 ||| lS (W.getD q 0) (D.getD q 0)else V.getD q 0
 |0,i,V,x10,d,hk,hV=>by obtain rfl:i=m:=A_;refine⟨V,x10,z_,aE K _ _ t56L0.eq_1 ?_,hV,fun q=>by rw[I_ A_]⟩;simp(disch:=omega)only[go_sem]
 |k+1,i,V,x10,d,hk,hV=>by
  have a:i<m:=A_;have I:=fun j=>iO (j:=j) (v:=0) (cap:=m) a;have s:=sF (W:=W) (i:=i) (by rw[w.len];exact a);have z:=sF (W:=U) (i:=i) (by rw[g.len];exact a);have E:=sF (W:=D) (i:=i) (by rw[r.len];exact a);have F:=fun R=>sG (S0:=S0) (m:=m) (W:=W) (b3:=b3) (b4:=b4) (Z:=Z) R u;have H:=fun R=>sG (S0:=S0) (m:=m) (W:=W) (b3:=b3) (b4:=b4) (Z:=Z) R x;have e3:=aPw (W.getD i 0) (D.getD i 0);have G:=aPv (g.get i) (wC (W.getD i 0) (D.getD i 0));have o:=aIv (g.get i) (wC (W.getD i 0) (D.getD i 0));have t:=aPu (W:=V) (i:=i) (U.getD i 0 ||| lS (W.getD i 0) (D.getD i 0)) (by rw[hV.len];exact a);have f:i+1<=(V.map uI).length:=by rw[L_,hV.len];omega
  obtain⟨V',b,c,y,n,J⟩:=aT4 L g r u x w b3 b4 Z B6 x0 l x4 x5 x7 x8 x11 x12 x13 x14 x15 x16 k (i+1) (V.set i (U.getD i 0 ||| lS (W.getD i 0) (D.getD i 0))) (j_ i) e_ A_ (hV.set i _ o);rw[show((i+1:Nat):Int)=(i:Int)+1 by omega]at y;simp only[uI]at s z E t f;refine⟨V',b,c,aE K _ _ t56L0.eq_1 ?_,n,fun q=>?_⟩
  .generalize hA:lS (W.getD i 0) (D.getD i 0)=A at *
   generalize hA2:W.getD i 0=A2 at *
   generalize hA3:D.getD i 0=A3 at *
   generalize hB:U.getD i 0=B at *
   generalize hC:B ||| A=C at *
   simp(disch:=omega)only[go_sem,I,s,z,E,F,H,e3,G,t,f,aC];exact X_ er y
  .rw[J q,aC1 (by rw[hV.len];exact a)];by_cases e:q=i;.subst e;rw[I_ A_,K_ rfl,K_ A_]
   .rw[I_ e];by_cases e2:i+1<=q/\q<m;.rw[K_ e2,K_ A_]
    .rw[I_ e2,I_ A_]
theorem bCc{m:Nat}{U W D V V0:Tc_}(c:WOK m U)(d:WOK m W)(a:WOK m D)(f:WOK m V)(h:∀q,V.getD q 0=if 0<=q/\q<m then U.getD q 0 ||| lS (W.getD q 0) (D.getD q 0)else V0.getD q 0)(r:Nat):bit V r=(bit U r||(bit W r&&!bit D r)):=by
 have z:∀ {X:Tc_},WOK m X->¬r / 64<m->X.getD (r / 64) 0=0:=fun b g=>by rw[List.getD,B7 (by rw[b.len];omega)];rfl
 unfold bit;by_cases e:r / 64<m;.rw[h,K_ ⟨I3 _,e⟩,N9,aLx _ _ _ (X4 _ C_)]
 .rw[z f e,z c e,z d e,z a e];simp
theorem bKf{α:Type}(g:Nat->α)(a:Th_)(i x:Nat):upd (fun j=>g (a j)) i (g x)=fun j=>g (upd a i x j):=by funext j;unfold upd;split<;>rfl
theorem bQk{S0:aA}{f:VF}{lb:Td_}{n m:Nat}{p C:Th_}{I O:Te_}(c:FlS S0 f lb n m p C I O)(hm:(f.regs+63) / 64=m)(hr:f.regs<=1000000)(hn:n<=1000000)(P:f.ins.length=n)(Q:aL0 lb f.ins){i:Nat}(l:i<n)
  {q w:Nat} {U D:Tc_} (hU:WOK m U) (hD:WOK m D) (gU:S0[q]?=some (.cells 0 false (U.map uI))) (gD:S0[w]?=some (.cells 0 false (D.map uI))):
  ∃(S':aA) (A B:Tc_) (a b:Nat),(lim K).call 56 [.ptr 3 65 0,j_ i,.msl q 0 0 m m 1,.msl w 0 0 m m 1] S0=.ret (.iv (.bool (!decide (A=I i))),S')/\FlS S' f lb n m (upd p i a) (upd C i b) (upd I i A) (upd O i B)/\WOK m A/\WOK m B /\
   (∀r,bit B r=(bhd lb f.ins i).any fun k=>bit (I k) r)/\(∀r,bit A r=(bit U r||(bit B r&&!bit D r)))/\bL [1,2] S0 S':=by
 have s:m<=100000:=A_
 obtain⟨c0,t⟩:=c.lab
 have h6:=c.len
 -- the set behind,empty
 have o:=fun S=>aC2 hr .nil [] B_ B_ S
 rw[qK,hm]at o
 obtain⟨W0,e0,T,h0⟩:=o (S0++[.cells 58 false [.ptr 3 65 0]])
 have e1:=bQj i (S0++[.cells 58 false [.ptr 3 65 0]]++[.cells 0 false (W0.map uI)]++[.cells 93 false [.msl (S0.length+1) 0 0 m m 1]])
 simp only[n_,A7,A9,List.cons_append,List.nil_append,G3,Nat.reduceAdd]at e0 e1
 obtain⟨W,B6,e2,z,Y⟩:=bKa c s hn P Q l (.ptr 3 65 0) (j_ i) (.msl q 0 0 m m 1) (.msl w 0 0 m m 1) z_ u_ u_ u_ u_ u_ (.fn 113 [] [.ptr (S0.length+3) 58 0,.ptr (S0.length+4) 4 0]) u_ u_ u_ u_ u_ u_ u_ W0 T
 have G:(lim K).call 113 [.yld (S0.length+5),.ptr (S0.length+3) 58 0,.ptr (S0.length+4) 4 0] (S0++[.cells 58 false [.ptr 3 65 0],.cells 0 false (W0.map uI),.cells 93 false [.msl (S0.length+1) 0 0 m m 1],.cells 58 false [.ptr 3 65 0],.cells 4 false [j_ i],
   .lp .ready none [.ptr 3 65 0,j_ i,.msl q 0 0 m m 1,.msl w 0 0 m m 1,.ptr S0.length 58 0,z_,.ptr (S0.length+2) 93 0,u_,u_,u_,u_,u_,.fn 113 [] [.ptr (S0.length+3) 58 0,.ptr (S0.length+4) 4 0],u_,u_,u_,u_,u_,u_,u_] [13] (.region [⟨.mov (.loc 13),(some 7),none⟩]) (.block 1 (.seq (.region [⟨.load1 (.loc 6),none,none⟩,⟨.len .sl (.reg 0),(some 14),none⟩,⟨.mov (.cst (.int .i64 0)),(some 15),none⟩]) (.block 2 (.loop t56L1))))])=_:=e2
 clear e2
 have u:∀r,bit W0 r=false:=fun r=>by
  cases h:bit W0 r with
  |false=>rfl
  |true=>have:=(h0 r).1 h;simp at this
 generalize hE:rE S0.length (.ptr 3 65 0) (j_ i) (.msl q 0 0 m m 1) (.msl w 0 0 m m 1) z_ u_ u_ u_ u_ u_ (.fn 113 [] [.ptr (S0.length+3) 58 0,.ptr (S0.length+4) 4 0]) u_ u_ u_ u_ u_ u_ u_=E at *
 obtain⟨V0,e3,H,_⟩:=o (gS S0 m W (.cells 58 false [.ptr 3 65 0]) (.cells 4 false [j_ i]) (.lp .exhausted none E [13] rA rB) [B6])
 rw[aP3,bCb]at e3
 simp only[List.length_cons,List.length_nil,A7,Nat.reduceAdd,List.cons_append,List.nil_append]at e3
 obtain⟨V,h4,h5,l1,y,h2⟩:=aT4 (S0:=S0) s hU hD gU gD z (.cells 58 false [.ptr 3 65 0]) (.cells 4 false [j_ i]) (.lp .exhausted none E [13] rA rB) B6 (.ptr 3 65 0) (j_ i) (.ptr S0.length 58 0) z_ u_ u_ u_ (.fn 113 [] [.ptr (S0.length+3) 58 0,.ptr (S0.length+4) 4 0]) u_ u_ u_ u_ m 0 V0 u_ u_ A_ H
 rw[n0_]at l1
 have gI:=fun R=>sG (S0:=S0) (m:=m) (W:=W) (b3:=.cells 58 false [.ptr 3 65 0]) (b4:=.cells 4 false [j_ i]) (Z:=.lp .exhausted none E [13] rA rB) R (c.inn.set i l)
 have g1:=fun R=>sG (S0:=S0) (m:=m) (W:=W) (b3:=.cells 58 false [.ptr 3 65 0]) (b4:=.cells 4 false [j_ i]) (Z:=.lp .exhausted none E [13] rA rB) R c.inn.row
 have g2:=fun R=>sG (S0:=S0) (m:=m) (W:=W) (b3:=.cells 58 false [.ptr 3 65 0]) (b4:=.cells 4 false [j_ i]) (Z:=.lp .exhausted none E [13] rA rB) R c.out.row
 have J:=fun R=>sG (S0:=S0) (m:=m) (W:=W) (b3:=.cells 58 false [.ptr 3 65 0]) (b4:=.cells 4 false [j_ i]) (Z:=.lp .exhausted none E [13] rA rB) R c.flw
 have N:=fun L=>aR c.flw L
 have h1:=bQe (a:=S0.length+7) (b:=p i) (m:=m) A_ (aIy (S0:=S0) (m:=m) (W:=W) (b3:=.cells 58 false [.ptr 3 65 0]) (b4:=.cells 4 false [j_ i]) (Z:=.lp .exhausted none E [13] rA rB) (a:=B6) (b:=.cells 0 false (V.map uI)) []) (gI _) y.len (c.inn.ok i l).len
 have i1:=fun j=>iO (j:=j) (v:=0) (cap:=n) l
 have s1:=dS (fun i=>TV.msl (p i) 0 0 m m 1) l
 have p1:=lC (fun i=>TV.msl (p i) 0 0 m m 1) (.msl (S0.length+7) 0 0 m m 1) l
 have p2:=lC (fun i=>TV.msl (C i) 0 0 m m 1) (.msl (S0.length+1) 0 0 m m 1) l
 rw[bKf (fun x=>TV.msl x 0 0 m m 1)]at p1 p2
 have q2:=fun X R=>(aB (i:=1) (j:=2) C_ X).trans (g2 R)
 have q3:=fun X R=>(aB (i:=1) (j:=S0.length+2) A_ X).trans (aT3 (S0:=S0) (m:=m) (W:=W) (b3:=.cells 58 false [.ptr 3 65 0]) (b4:=.cells 4 false [j_ i]) (Z:=.lp .exhausted none E [13] rA rB) R)
 have F:(gS S0 m W (.cells 58 false [.ptr 3 65 0]) (.cells 4 false [j_ i]) (.lp .exhausted none E [13] rA rB) [B6,.cells 0 false (V.map uI)])=S0++(.cells 58 false [.ptr 3 65 0]::.cells 0 false (W.map uI)::.cells 93 false [.msl (S0.length+1) 0 0 m m 1]::.cells 58 false [.ptr 3 65 0]::.cells 4 false [j_ i]::.lp .exhausted none E [13] rA rB::[B6,.cells 0 false (V.map uI)]):=rfl
 have g:(gS S0 m W (.cells 58 false [.ptr 3 65 0]) (.cells 4 false [j_ i]) (.lp .exhausted none E [13] rA rB) [B6,.cells 0 false (V.map uI)]).length=S0.length+8:=by rw[aP3];rfl
 refine⟨((gS S0 m W (.cells 58 false [.ptr 3 65 0]) (.cells 4 false [j_ i]) (.lp .exhausted none E [13] rA rB) [B6,.cells 0 false (V.map uI)]).set 1 (.cells 0 false (cF n fun j=>.msl (upd p i (S0.length+7) j) 0 0 m m 1))).set 2 (.cells 0 false (cF n fun j=>.msl (upd C i (S0.length+1) j) 0 0 m m 1)),V,W,S0.length+7,S0.length+1,aI K _ (fn:=t56) rfl rfl ?_,?_,y,z,fun r=>by rw[Y r,u r,G8],bCc hU z hD y h2,?_⟩
 .simp(disch:=omega)only[t56,go_sem,n_,A9,G3,N,J,e0,e1,G,e3]
  rw[l1]
  simp(disch:=omega)only[go_sem,J,i1,g1,g2,s1,h1,p1,p2,q2,q3]
 .refine⟨⟨c0,?_⟩,⟨?_,?_,?_,?_⟩,⟨?_,?_,?_,?_⟩,?_,?_⟩
  .rw[aB C_,aB C_,F];exact aR t _
  .rw[aB C_,aM (by rw[g];omega)]
  .intro j d
   unfold upd;split
   .omega
   .exact c.inn.ge j d
  .intro j d
   by_cases e:j=i
   .subst e
    rw[bU,bU,aB A_,aB A_,aIy]
   .rw[dB _ _ e,dB _ _ e]
    have h7:=c.inn.ge j d
    rw[aB A_,aB A_,F]
    exact aR (c.inn.set j d) _
  .intro j d
   unfold upd;split
   .exact y
   .exact c.inn.ok j d
  .rw[aM (by rw[F6,g];omega)]
  .intro j d
   unfold upd;split
   .omega
   .exact c.out.ge j d
  .intro j d
   by_cases e:j=i
   .subst e
    rw[bU,bU,aB A_,aB A_,aT2]
   .rw[dB _ _ e,dB _ _ e]
    have h7:=c.out.ge j d
    rw[aB A_,aB A_,F]
    exact aR (c.out.set j d) _
  .intro j d
   unfold upd;split
   .exact z
   .exact c.out.ok j d
  .rw[aB C_,aB C_];exact J _
  .rw[F6,F6,g];omega
 .have k1:bL [1,2] S0 (gS S0 m W (.cells 58 false [.ptr 3 65 0]) (.cells 4 false [j_ i]) (.lp .exhausted none E [13] rA rB) [B6,.cells 0 false (V.map uI)]):=by rw[F];exact bL.app _ _ _
  exact(k1.trans (bL.set _ B_ _)).trans (bL.set _ B_ _)
theorem bCd{α:Type}(l:List α)(p q:α->Bool)(h:∀x,q x=true->p x=true):(l.filter q).length<=(l.filter p).length:=by
 induction l with
 |nil=>exact O_ _
 |cons a l ih =>
  cases hq:q a with
  |true=>rw[D0 hq,D0 (h a hq)];simpa using ih
  |false =>
   rw[E5 (by rw[hq];simp)];cases hp:p a with
   |true=>rw[D0 hp,List.length_cons];omega
   |false=>rw[E5 (by rw[hp];simp)];exact ih
theorem bQl{α:Type}(l:List α)(p q:α->Bool)(h:∀x,q x=true->p x=true){y:α}(b:y∈l)(d:p y=true)(e:q y=false):(l.filter q).length<(l.filter p).length:=by
 induction l with
 |nil=>cases b
 |cons a l ih =>
  rcases J_.1 b with rfl|b;.rw[D0 d,E5 (by rw[e];simp),List.length_cons];have:=bCd l p q h;omega
  .have c:=ih b;cases hq':q a with
   |true=>rw[D0 hq',D0 (h a hq')];simpa using c
   |false =>
    rw[E5 (by rw[hq'];simp)];cases hp':p a with
    |true=>rw[D0 hp',List.length_cons];omega
    |false=>rw[E5 (by rw[hp'];simp)];exact c
def aP4(n m:Nat):List (Nat×Nat):=(List.range n).flatMap fun i=>(List.range (64*m)).map fun r=>(i,r)
theorem aP5(n m i r:Nat):(i,r)∈aP4 n m↔i<n/\r<64*m:=by
 simp only[aP4,H7,C5,A0,B5];constructor;.rintro⟨a,d,b,e,rfl,rfl⟩;exact⟨d,e⟩
 .rintro⟨c,f⟩;exact⟨i,c,r,f,rfl,rfl⟩
def aIz(n m:Nat)(I:Nat->List Nat):Nat:=((aP4 n m).filter fun p=>!bit (I p.1) p.2).length
theorem bKg{m:Nat}{W:Tc_}(a:WOK m W){r:Nat}(b:64*m<=r):bit W r=false:=by unfold bit;rw[List.getD,B7 (by rw[a.len];omega)];exact Q4 _
theorem bCe{m:Nat}{W V:Tc_}(b:WOK m W)(d:WOK m V)(h:∀r,bit W r=bit V r):W=V:=by
 apply N4 (by rw[b.len,d.len]);intro q a c;apply Y2;intro j;by_cases hj:j<64;.have:=h (64*q+j);unfold bit at this;rw[show(64*q+j) / 64=q by omega,show(64*q+j) % 64=j by omega]at this;simpa only[List.getD,D_ a,D_ c,Option.getD_some] using this
 .have e:(18446744073709551616:Nat)<=2 ^ j:=O5 (n:=2) C_ (show 64<=j by omega);rw[P5 (E9 (b.lt _ (B8 a)) e),P5 (E9 (d.lt _ (B8 c)) e)]
theorem bKh{m:Nat}{W V:Tc_}(a:WOK m W)(d:WOK m V)(h:W≠V)(b:∀r,bit V r=true->bit W r=true):∃r,r<64*m/\bit W r=true/\bit V r=false:=by
 apply J7;intro c;apply h;refine bCe a d fun r=>?_;cases hw:bit W r with
 |false =>
  cases hv:bit V r with
  |false=>rfl
  |true=>rw[b r hv]at hw;cases hw
 |true =>
  cases hv:bit V r with
  |true=>rfl
  |false =>
   refine absurd ⟨r,?_,hw,hv⟩ c;rcases D2 r (64*m)with h1|h1;.exact h1
   .rw[bKg a h1]at hw;cases hw
def aBv(lb:List (Nat×Int×Int))(l:List VI)(I:Nat->List Nat)(i r:Nat):Bool:=(bhd lb l i).any fun k=>bit (I k) r
def eqn(lb:List (Nat×Int×Int))(l:List VI)(U D I:Nat->List Nat)(i r:Nat):Bool:=bit (U i) r||(aBv lb l I i r&&!bit (D i) r)
inductive Lv (lb:List (Nat×Int×Int)) (l:List VI) (U D:Nat->List Nat) (r:Nat):Nat->Prop
 |use {i:Nat} (h:bit (U i) r=true):Lv lb l U D r i
 |step {i k:Nat} (hk:k∈bhd lb l i) (h:Lv lb l U D r k) (hd:bit (D i) r=false):Lv lb l U D r i
theorem bCf{lb:Td_}{l:List VI}{U D I I':Te_}(h:∀k r,bit (I k) r=true->bit (I' k) r=true)(i r:Nat)(a:eqn lb l U D I i r=true):eqn lb l U D I' i r=true:=by
 unfold eqn aBv at *
 rw[D3]at a |-;rcases a with a|a;.exact .inl a
 .rw[P_]at a |-;refine .inr ⟨?_,a.2⟩;obtain⟨k,b,c⟩:=E8.1 a.1;exact E8.2 ⟨k,b,h k r c⟩
theorem bQm{lb:Td_}{l:List VI}{U D I:Te_}(h:∀k r,bit (I k) r=true->Lv lb l U D r k)(i r:Nat)(a:eqn lb l U D I i r=true):Lv lb l U D r i:=by
 unfold eqn aBv at a;rw[D3,P_]at a;rcases a with a|⟨a,d⟩;.exact .use a
 .obtain⟨k,b,c⟩:=E8.1 a;exact .step b (h k r c) (by simpa using d)
structure aI0 (lb:List (Nat×Int×Int)) (l:List VI) (U D I:Nat->List Nat):Prop where
 pre:∀i r,bit (I i) r=true->eqn lb l U D I i r=true
 snd:∀i r,bit (I i) r=true->Lv lb l U D r i
theorem bCg{I:Te_}{i:Nat}{A:Tc_}(h:∀r,bit (I i) r=true->bit A r=true)(k r:Nat)(a:bit (I k) r=true):bit (upd I i A k) r=true:=by
 unfold upd;split;.subst_vars;exact h r a
 .exact a
theorem aI0.upd{lb:Td_}{l:List VI}{U D I:Te_}(h:aI0 lb l U D I){i:Nat}{A:Tc_}(b:∀r,bit A r=eqn lb l U D I i r):aI0 lb l U D (upd I i A):=by
 have c:=bCg (I:=I) (i:=i) (A:=A) fun r a=>by rw[b];exact h.pre i r a
 refine⟨fun j r a=>?_,fun j r a=>?_⟩
 .refine bCf c j r ?_;unfold Proofs.YtehlgnfhkidgoaaGreatDoor.upd at a;split at a;.subst_vars;rw[<-b];exact a
  .exact h.pre j r a
 .unfold Proofs.YtehlgnfhkidgoaaGreatDoor.upd at a;split at a;.subst_vars;rw[b]at a;exact bQm h.snd _ r a
  .exact h.snd j r a
theorem bKi{n m:Nat}{I I':Te_}(h:∀k r,bit (I k) r=true->bit (I' k) r=true):aIz n m I'<=aIz n m I:=by
 refine bCd _ _ _ fun p a=>?_;simp only[D7]at a |-;cases hb:bit (I p.1) p.2 with
 |false=>rfl
 |true=>rw[h _ _ hb]at a;cases a
theorem bKj{n m:Nat}{I I':Te_}(h:∀k r,bit (I k) r=true->bit (I' k) r=true){i r:Nat}(c:i<n)(d:r<64*m)(b:bit (I' i) r=true)(e:bit (I i) r=false):aIz n m I'<aIz n m I:=by
 refine bQl _ _ _ (fun p a=>?_) ((aP5 n m i r).2 ⟨c,d⟩) (by simp[e]) (by simp[b]);simp only[D7]at a |-;cases hb:bit (I p.1) p.2 with
 |false=>rfl
 |true=>rw[h _ _ hb]at a;cases a
theorem RS.keep{S S':aA}{j n m:Nat}{b:Th_}{I:Te_}(h:RS S j n m b I)(k:bL [1,2] S S')(c:j∉[1,2]):RS S' j n m b I :=
 ⟨k.get _ _ c h.row,h.ge,fun i a=>k.get _ _ (by have:=h.ge i a;simp;omega) (h.set i a),h.ok⟩
structure Rd (lb:List (Nat×Int×Int)) (l:List VI) (n m:Nat) (U D I0 I O:Nat->List Nat) (i:Nat) (ch:Bool):Prop where
 grow:aI0 lb l U D I
 more:aIz n m I<=aIz n m I0
 yes:ch=true->aIz n m I<aIz n m I0
 no:ch=false->I=I0/\∀j,i<=j->j<n->(∀r,bit (I j) r=eqn lb l U D I j r)/\∀r,bit (O j) r=aBv lb l I j r
theorem Rd.step{lb:Td_}{l:List VI}{n m:Nat}{U D I0 I O:Te_}{i:Nat}{o:Bool}(h:Rd lb l n m U D I0 I O (i+1) o)(v:i<n){A B:Tc_}(s:WOK m A)(t:WOK m (I i))(p:∀r,bit B r=aBv lb l I i r)(a:∀r,bit A r=eqn lb l U D I i r): Rd lb l n m U D I0 (upd I i A) (upd O i B) i (!decide (A=I i)||o):=by
 have b:∀r,bit (I i) r=true->bit A r=true:=fun r x=>by rw[a];exact h.grow.pre i r x
 have c:=bCg (I:=I) (i:=i) (A:=A) b;have z:=bKi (n:=n) (m:=m) c;by_cases e:A=I i
 .have q:upd I i A=I:=by funext j;unfold upd;split<;>simp_all
  rw[V_ e,E7,G8,q];refine⟨h.grow,h.more,h.yes,fun k=>?_⟩;obtain⟨g,f⟩:=h.no k;refine⟨g,fun j y d=>?_⟩;by_cases ej:j=i;.subst ej;rw[bU];exact⟨fun r=>by rw[<-e];exact a r,p⟩
  .rw[dB _ _ ej];exact f j A_ d
 .rw[l_ e,P8,G2];obtain⟨r,w,g,f⟩:=bKh s t e b;have u:=bKj (n:=n) (m:=m) c v w (by rw[bU];exact g) f;refine⟨h.grow.upd a,by have:=h.more;omega,fun _=>by have:=h.more;omega,fun k=>by cases k⟩
theorem aT5{f:VF}{lb:Td_}{n m:Nat}{U D I0:Te_}{F R:Th_}(hm:(f.regs+63) / 64=m)(W:f.regs<=1000000)(hn:n<=1000000)(u:f.ins.length=n)(x:aL0 lb f.ins)(x0 G x2 J x4 x5 x9 x10 x11 x12 x15 x16 s o q k p:TV):∀(i:Nat) (S:aA) (z E:Th_) (I O:Te_) (t:Bool) (e:TV),i<=n ->FlS S f lb n m z E I O->RS S 4 n m F U->RS S 5 n m R D->Rd lb f.ins n m U D I0 I O i t ->∃(S':aA) (l h:Th_) (I' O':Te_) (d:Bool) (g:TV),lp' (lim K) t31L0 [x0,G,x2,J,x4,x5,.ptr 3 65 0,.msl 4 0 0 n n 1,.msl 5 0 0 n n 1,x9,x10,x11,x12,.iv (.bool t),j_ ((i:Int)-1),x15,x16,s,o,q,k,p,e] S = .ret (.exit 4,[x0,G,x2,J,x4,x5,.ptr 3 65 0,.msl 4 0 0 n n 1,.msl 5 0 0 n n 1,x9,x10,x11,x12,.iv (.bool d),j_ (-1),x15,x16,s,o,q,k,p,g],S') /\FlS S' f lb n m l h I' O'/\RS S' 4 n m F U/\RS S' 5 n m R D/\Rd lb f.ins n m U D I0 I' O' 0 d
 |0,S,z,E,I,O,t,e,hi,hF,hU,hD,hR=>by refine⟨S,z,E,I,O,t,z_,aE K _ _ t31L0.eq_1 ?_,hF,hU,hD,hR⟩;rw[show((0:Nat):Int)-1 = -1 from rfl];simp(disch:=omega)only[go_sem]
 |i+1,S,z,E,I,O,t,e,hi,hF,hU,hD,hR=>by
  have c:i<n:=A_;obtain⟨S1,A,B,a,b,y,Q,hA,hB,w,L,V⟩:=bQk hF hm W hn u x c (hU.ok i c) (hD.ok i c) (hU.set i c) (hD.set i c);have N:=hR.step c hA (hF.inn.ok i c) (B:=B) w (fun r=>by rw[L r,w r];rfl);have H:=hU.keep V B_;have P:=hD.keep V B_;have i1:=fun j=>iO (j:=j) (v:=0) (cap:=n) c;have s1:=dS (fun i=>TV.msl (F i) 0 0 m m 1) c;have Z:=dS (fun i=>TV.msl (R i) 0 0 m m 1) c;have T:=hU.row;have Y:=hD.row;rw[show(((i+1:Nat):Int)-1)=(i:Int) by omega];generalize (!decide (A=I i))=bb at *
  obtain⟨S',l,h,I',O',d,g,C,hx⟩:=aT5 hm W hn u x x0 G x2 J x4 x5 x9 x10 x11 x12 x15 x16 s o q k p i S1 _ _ _ _ (bb||t) e_ A_ Q H P N;refine⟨S',l,h,I',O',d,g,aE K _ _ t31L0.eq_1 ?_,hx⟩;cases bb with
  |true =>rw[G2]at C;simp(disch:=omega)only[go_sem,i1,T,Y,s1,Z,y,aC];exact X_ er C
  |false =>rw[G8]at C;simp(disch:=omega)only[go_sem,i1,T,Y,s1,Z,y,aC];exact X_ er C
theorem aT6{f:VF}{lb:Td_}{n m:Nat}{U D:Te_}{H R:Th_}(N:(f.regs+63) / 64=m)(L:f.regs<=1000000)(P:n<=1000000)(u:f.ins.length=n)(w:aL0 lb f.ins)(x0 p x2 s x4 x9 x10 x11 x12 x15 x16 e c d b:TV):∀(q:Nat) (S:aA) (E F:Th_) (I O:Te_) (x14 v g:TV),aIz n m I<=q ->FlS S f lb n m E F I O->RS S 4 n m H U->RS S 5 n m R D->aI0 lb f.ins U D I ->∃(S':aA) (k i:Th_) (I' O':Te_) (l o a:TV),lp' (lim K) t31L1 [x0,p,x2,s,x4,j_ n,.ptr 3 65 0,.msl 4 0 0 n n 1,.msl 5 0 0 n n 1,x9,x10,x11,x12,e_,x14,x15,x16,e,c,d,b,v,g] S = .ret (.exit 2,[x0,p,x2,s,x4,j_ n,.ptr 3 65 0,.msl 4 0 0 n n 1,.msl 5 0 0 n n 1,x9,x10,x11,x12,z_,l,x15,x16,e,c,d,b,o,a],S') /\FlS S' f lb n m k i I' O'/\RS S' 4 n m H U/\RS S' 5 n m R D/\aI0 lb f.ins U D I'/\∀j,j<n->(∀r,bit (I' j) r=eqn lb f.ins U D I' j r)/\∀r,bit (O' j) r=aBv lb f.ins I' j r
 |q,S,E,F,I,O,x14,v,g,hq,hF,hU,hD,hG=>by
  obtain⟨S1,x,A,I1,O1,W,a,Q,z,t,y,C⟩:=aT5 (I0:=I) N L P u w x0 p x2 s x4 (j_ n) x9 x10 x11 x12 x15 x16 e c d b e_ n S E F I O false g (O_ _) hF hU hD ⟨hG,O_ _,(fun h=>by cases h),fun _=>⟨rfl,fun j Z J=>A_⟩⟩;cases W with
  |false =>
   obtain⟨Z,J⟩:=C.no rfl;refine⟨S1,x,A,I1,O1,j_ (-1),z_,a,?_,z,t,y,C.grow,fun j T=>J j (I3 _) T⟩;have l2:lp' (lim K) t31L1 [x0,p,x2,s,x4,j_ n,.ptr 3 65 0,.msl 4 0 0 n n 1,.msl 5 0 0 n n 1,x9,x10,x11,x12,z_,j_ (-1),x15,x16,e,c,d,b,e_,a] S1=.ret (.exit 2,[x0,p,x2,s,x4,j_ n,.ptr 3 65 0,.msl 4 0 0 n n 1,.msl 5 0 0 n n 1,x9,x10,x11,x12,z_,j_ (-1),x15,x16,e,c,d,b,z_,a],S1):=by refine aE K _ _ t31L1.eq_1 ?_;simp(disch:=omega)only[go_sem]
   refine aE K _ _ t31L1.eq_1 ?_;simp(disch:=omega)only[go_sem,aC];rw[Q];simp(disch:=omega)only[go_sem];exact X_ er l2
  |true =>
   have Y:=C.yes rfl;match q,hq with
   |0,hq=>omega
   |q+1,hq =>obtain⟨S',k,i,I',O',l,o,G,V,hx⟩:=aT6 N L P u w x0 p x2 s x4 x9 x10 x11 x12 x15 x16 e c d b q S1 x A I1 O1 (j_ (-1)) e_ a A_ z t y C.grow;refine⟨S',k,i,I',O',l,o,G,aE K _ _ t31L1.eq_1 ?_,hx⟩;simp(disch:=omega)only[go_sem,aC];rw[Q];simp(disch:=omega)only[go_sem];exact X_ er V
theorem bKk(v:VI)(h:(15<=v.op/\v.op<=22)\/v.op=24\/v.op=64\/v.op=74):∃e,cB e (bF v)/\TM.Pure K 42 [.iv (.agg (aJ v))] (.iv (.sl e (TM.one (.int .i64) (bF v)))):=by
 have g:bF v=tdy [v.a]:=by unfold bF;rw[I_ A_,K_ A_]
 rw[g];have f:([.cells 0 false [vI v.a]]:aA)[0]?=some (.cells 0 false ([v.a].map vI++[])):=rfl;obtain⟨J,d⟩:=yZ B_ (cap:=1) B_ f (jM [v.a]);have c:=aC7 v.op;rw[l_ A_]at c;refine⟨.no,aGx _,gQ (S:=[.cells 0 false ((tdy [v.a]).map vI++J)]) (aI K _ (fn:=t42) rfl rfl ?_) (lE (j:=0) (v:=0) (b:=false) (J:=J) rfl 1)⟩;simp only[vI,List.length_cons,List.length_nil,List.set_cons_zero,A7,Nat.reduceAdd]at d;rcases h with h|h|h|h<;>simp(disch:=omega)only[t42,go_sem,aJ,Q_,C3,d,aD c]
theorem bKl(v:VI)(h:v.op<1\/v.op=23\/(32<=v.op/\v.op<=63)\/v.op=65\/v.op=66\/v.op=69\/v.op=70\/v.op=71\/v.op=73\/74<v.op):∃b,cB b (bF v)/\TM.Pure K 42 [.iv (.agg (aJ v))] (.iv (.sl b (TM.one (.int .i64) (bF v)))):=by
 have c:bF v=[]:=by unfold bF;rw[I_ A_,I_ A_,I_ A_]
 rw[c];have a:=aC7 v.op;rw[l_ A_]at a;refine⟨.nil,cB.nil,aT t42 rfl rfl ?_⟩;rcases h with h|h|h|h|h|h|h|h|h|h<;>simp(disch:=omega)only[t42,go_sem,aJ,Q_,C3,aD a]<;>rfl
theorem bKm(v:VI)(l:v.us.length<=999990)(i:cB v.tu v.us)(h:v.op=67\/v.op=68\/v.op=72):∃g,cB g (bF v)/\TM.Pure K 42 [.iv (.agg (aJ v))] (.iv (.sl g (TM.one (.int .i64) (bF v)))):=by
 have k:bF v=tdy (v.us++[26]):=by unfold bF;rw[I_ A_,I_ A_,K_ h]
 rw[k];have c:=aC7 v.op;rw[l_ A_]at c;rcases aP2 v.tu v.us i A_ []with⟨hu0,t0,ht0,c23⟩|⟨hu0,c23⟩;.rw[hu0]at c23 |-;have d:=aLz (S:=[]) 26 ht0 .full;have e:([.cells 0 true [vI 26]]:aA)[0]?=some (.cells 0 true ([(26:Int)].map vI++[])):=rfl;obtain⟨J,a⟩:=yZ B_ (cap:=1) B_ e (jM [(26:Int)]);refine⟨.no,aGx _,gQ (S:=[.cells 0 true ((tdy [(26:Int)]).map vI++J)]) (aI K _ (fn:=t42) rfl rfl ?_) (lE (j:=0) (v:=0) (b:=true) (J:=J) rfl 1)⟩;simp only[vI,List.length_cons,List.length_nil,List.set_cons_zero,A7,Nat.reduceAdd,List.nil_append]at a d;rcases h with h|h|h<;>simp(disch:=omega)only[t42,go_sem,aJ,Q_,C3,hu0,c23,d,a,aD c]
 .have f:([.cells 0 true (v.us.map vI)]:aA)[0]?=some (.cells 0 true (v.us.map vI)):=rfl;have d:=aP1 (S:=[.cells 0 true (v.us.map vI)]) true 26 f A_ .full;have e:([.cells 1 true ((v.us++[26]).map vI)]:aA)[0]?=some (.cells 1 true ((v.us++[(26:Int)]).map vI++[])):=B_;obtain⟨J,a⟩:=yZ (by simp;omega) (cap:=v.us.length+1) B_ e (jM (v.us++[(26:Int)]));refine⟨.no,aGx _,gQ (S:=[.cells 1 true ((tdy (v.us++[(26:Int)])).map vI++J)]) (aI K _ (fn:=t42) rfl rfl ?_) (lE (j:=0) (v:=1) (b:=true) (J:=J) rfl (v.us.length+1))⟩;rw[H_,List.length_singleton]at a;simp only[List.set_cons_zero,A7,List.nil_append,List.length_nil]at a d c23;rcases h with h|h|h<;>simp(disch:=omega)only[t42,go_sem,aJ,Q_,C3,c23,d,a,aD c]
theorem bCh(v:VI)(c:v.us.length<=999990)(b:cB v.tu v.us):∃a,cB a (bF v)/\TM.Pure K 42 [.iv (.agg (aJ v))] (.iv (.sl a (TM.one (.int .i64) (bF v)))):=by
 by_cases h1:(1<=v.op/\v.op<=14)\/v.op=25\/(26<=v.op/\v.op<=31)
 .exact bJ4 v h1
 .by_cases h2:(15<=v.op/\v.op<=22)\/v.op=24\/v.op=64\/v.op=74;.exact bKk v h2
  .by_cases h3:v.op=67\/v.op=68\/v.op=72;.exact bKm v c b h3
   .exact bKl v A_
theorem bCi(d:Int)(b:aG)(x0 g x2 x5 x6 x7:TV):∀(k i:Nat) (x4 x9:TV),i+k=25->1<=i ->∃e f,lp' (lim K) t43L0 [x0,g,x2,.msl 1 (i-1) 0 (3+i) (3+i) 1,x4,x5,x6,x7,j_ (i:Int),x9] [b,.cells (i-1) true (([d,26,31]++dP.take i).map vI)] = .ret (.exit 1,[x0,g,x2,.msl 1 24 0 28 28 1,e,x5,x6,x7,j_ 25,f],[b,.cells 24 true (([d,26,31]++dP.take 25).map vI)])
 |0,i,x4,x9,h,hi=>by obtain rfl:i=25:=A_;refine⟨x4,z_,aE K _ _ t43L0.eq_1 ?_⟩;simp(disch:=omega)only[go_sem];rfl
 |k+1,i,x4,x9,h,hi=>by
  have a:([d,26,31]++dP.take i).length=3+i:=by simp[dP];omega
  have c:=aP1 (S:=[b,.cells (i-1) true (([d,26,31]++dP.take i).map vI)]) (j:=1) false ((i:Int)+1) rfl A_ .full;have m:([d,26,31]++dP.take i)++[(i:Int)+1]=[d,26,31]++dP.take (i+1):=by rw[iR (by simp[dP];omega),<-A9];congr 2;simp[dP,List.getD,show i<26 by omega]
  rw[m,a,show i-1+1=i by omega]at c;obtain⟨e,f,l⟩:=bCi d b x0 g x2 x5 x6 x7 k (i+1) (j_ i) e_ A_ A_;rw[show((i+1:Nat):Int)=(i:Int)+1 by omega,show i+1-1=i by omega,show 3+(i+1)=3+i+1 by omega]at l;refine⟨e,f,aE K _ _ t43L0.eq_1 ?_⟩;simp only[List.set_cons_succ,List.set_cons_zero]at c;generalize hX:([d,26,31]++dP.take i).map vI=X at *
  simp(disch:=omega)only[go_sem,c,aC];exact X_ er l
theorem bKn(d:Int)(x0 c x2 x4 x5 x6 x7 x9:TV) : ∃a b,lp' (lim K) t43L0 [x0,c,x2,.msl 0 0 0 3 3 1,x4,x5,x6,x7,j_ 0,x9] [.cells 0 false ([d,26,31].map vI)] = .ret (.exit 1,[x0,c,x2,.msl 1 24 0 28 28 1,a,x5,x6,x7,j_ 25,b],[.cells 0 false ([d,26,31].map vI),.cells 24 true (([d,26,31]++dP.take 25).map vI)]):=by
 have e:=bJ2 (S:=[.cells 0 false ([d,26,31].map vI)]) (j:=0) (C:=[d,26,31]) false 1 rfl B_ .full;obtain⟨a,b,f⟩:=bCi d (.cells 0 false ([d,26,31].map vI)) x0 c x2 x5 x6 x7 24 1 (j_ 0) e_ A_ A_;refine⟨a,b,aE K _ _ t43L0.eq_1 ?_⟩;rw[show((1:Nat):Int)=1 from rfl,show 1-1=0 from rfl,show 3+1=4 from rfl,show dP.take 1=[1] by decide]at f;simp only[List.length_cons,List.length_nil,A7,Nat.reduceAdd,List.cons_append,List.nil_append]at e;generalize hX:[d,26,31].map vI=X at *
 have g:IntKind.i64.wrap 1=1:=C_;simp(disch:=omega)only[go_sem,g,e];exact X_ er f
theorem bKo(v:VI)(h:(1<=v.op/\v.op<=24)\/v.op=64\/v.op=69\/v.op=70\/v.op=71\/v.op=73):∃c,cB c (aY v)/\TM.Pure K 43 [.iv (.agg (aJ v))] (.iv (.sl c (TM.one (.int .i64) (aY v)))):=by
 have f:aY v=tdy [v.d]:=by unfold aY;rw[K_ A_]
 rw[f];have e:([.cells 0 false [vI v.d]]:aA)[0]?=some (.cells 0 false ([v.d].map vI++[])):=rfl;obtain⟨J,a⟩:=yZ B_ (cap:=1) B_ e (jM [v.d]);refine⟨.no,aGx _,gQ (S:=[.cells 0 false ((tdy [v.d]).map vI++J)]) (aI K _ (fn:=t43) rfl rfl ?_) (lE (j:=0) (v:=0) (b:=false) (J:=J) rfl 1)⟩;simp only[vI,List.length_cons,List.length_nil,List.set_cons_zero,A7,Nat.reduceAdd]at a;rcases h with h|h|h|h|h|h<;>simp(disch:=omega)only[t43,go_sem,aJ,Q_,C3,a]
theorem bKp(v:VI)(h:v.op<1\/(25<=v.op/\v.op<=63)\/v.op=65\/v.op=66\/v.op=68\/v.op=72\/73<v.op):∃a,cB a (aY v)/\TM.Pure K 43 [.iv (.agg (aJ v))] (.iv (.sl a (TM.one (.int .i64) (aY v)))):=by
 have b:aY v=[]:=by unfold aY;rw[I_ A_,I_ A_]
 rw[b];refine⟨.nil,cB.nil,aT t43 rfl rfl ?_⟩;rcases h with h|h|h|h|h|h|h<;>simp(disch:=omega)only[t43,go_sem,aJ,Q_,C3]<;>rfl
theorem bKq(v:VI)(h:v.op=67):∃l,cB l (aY v)/\TM.Pure K 43 [.iv (.agg (aJ v))] (.iv (.sl l (TM.one (.int .i64) (aY v)))):=by
 have n:bQc ([v.d,26,31]++dP.take 25) (aY v):=by
  unfold aY;rw[I_ A_,K_ h];have t:=jM (dP++[31,v.d]);refine⟨t.rise,fun x=>(t.mem x).trans ?_⟩;have i:∀x:Int,x∈dP↔x=26\/x∈dP.take 25:=by
   intro x;have e:dP=dP.take 25++[26]:=C_;conv=>lhs;rw[e]
   simp only[a_,U_];constructor<;>(rintro(h|h)<;>simp[h])
  simp only[a_,J_,D5,I4,i];constructor
  .rintro⟨a,k⟩;refine⟨?_,k⟩;rcases a with(a|a)|a|a;.exact .inl (.inr (.inl a))
   .exact .inr a
   .exact .inl (.inr (.inr a))
   .exact .inl (.inl a)
  .rintro⟨a,k⟩;refine⟨?_,k⟩;rcases a with(a|a|a)|a;.exact .inr (.inr a)
   .exact .inl (.inl a)
   .exact .inr (.inl a)
   .exact .inl (.inr a)
 have f:([v.d,26,31]++dP.take 25).length=28:=by simp[dP]
 obtain⟨o,p,lo⟩:=bKn v.d (.iv (.agg (aJ v))) (.lb ((aJ v).map .iv)) k_ u_ z_ z_ e_ u_;rw[aS,cV]at lo;have m:([.cells 0 false ([v.d,26,31].map vI),.cells 24 true (([v.d,26,31]++dP.take 25).map vI)]:aA)[1]?=some (.cells 24 true (([v.d,26,31]++dP.take 25).map vI++[])):=by rw[A4];rfl
 obtain⟨J,c⟩:=yZ A_ (cap:=28) A_ m n;rw[f]at c;refine⟨.no,aGx _,gQ (S:=[.cells 0 false ([v.d,26,31].map vI),.cells 24 true ((aY v).map vI++J)]) (aI K _ (fn:=t43) rfl rfl ?_) (lE (j:=1) (v:=24) (b:=true) (J:=J) rfl 28)⟩;simp only[List.set_cons_succ,List.set_cons_zero]at c;simp(disch:=omega)only[t43,go_sem,aJ,Q_,C3];have g:[v.d,26,31].map vI=[TV.iv (.int .i64 v.d),j_ 26,j_ 31]:=rfl;generalize hX:([v.d,26,31]++dP.take 25).map vI=X at *
 rw[g]at lo c;rw[lo];simp(disch:=omega)only[go_sem,c];rfl
theorem aP6(v:VI):∃a,cB a (aY v)/\TM.Pure K 43 [.iv (.agg (aJ v))] (.iv (.sl a (TM.one (.int .i64) (aY v)))):=by
 by_cases h1:(1<=v.op/\v.op<=24)\/v.op=64\/v.op=69\/v.op=70\/v.op=71\/v.op=73;.exact bKo v h1
 .by_cases h3:v.op=67;.exact bKq v h3
  .exact bKp v A_
theorem aL1(l:Td_)(c:Nat)(k:Int):lkB (.leaf .int) (.agg [.int .i64 0]) true (some (.mp (mpR kC l) c)) (j_ k)=some (.tup [.iv (.agg [.int .i64 (lR l k)]),.iv (.bool (cG l k))]):=by rw[aAj];simp only[lR,cG];cases dK l k<;>rfl
def dL(l:List VI)(L:Int):Option Int:=(l.findIdx? fun x=>decide (x.op=65)&&decide (x.lb=L)).map fun k:Nat=>(k:Int)
theorem aL2(l:List VI)(x:VI)(L:Int):dL (l++[x]) L=match dL l L with
  |some k=>some k
  |none=>if x.op=65/\x.lb=L then some (l.length:Int)else none:=by
 unfold dL
 rw[X9]
 cases h:l.findIdx? (fun x=>decide (x.op=65)&&decide (x.lb=L))with
 |some k=>simp
 |none =>
  by_cases e:x.op=65/\x.lb=L;.simp[e]
  .rw[I_ e];have:(decide (x.op=65)&&decide (x.lb=L))=false:=by
    cases h1:(decide (x.op=65)&&decide (x.lb=L))with
    |false=>rfl
    |true=>simp at h1;exact absurd h1 e
   simp[P1,this]
structure RP (S:aA) (j n m i:Nat) (ia:Nat->Nat) (I:Nat->List Nat):Prop where
 row:S[j]?=some (.cells 0 false (cF n fun q=>if q<i then .msl (ia q) 0 0 m m 1 else .iv (.sl .nil [])))
 ge:∀q,q<i->6<=ia q
 set:∀q,q<i->S[ia q]?=some (.cells 0 false ((I q).map uI))
 ok:∀q,q<i->WOK m (I q)
theorem RP.done{S:aA}{j n m:Nat}{a:Th_}{I:Te_}(h:RP S j n m n a I):RS S j n m a I:=by refine⟨?_,h.ge,h.set,h.ok⟩;rw[h.row];congr 2;apply R6;intro q b;rw[K_ (C5.1 b)]
def LOW:List Nat:=[0,1,2,4,5]
theorem RP.step{S S':aA}{j n m i:Nat}{b:Th_}{I:Te_}(h:RP S j n m i b I)(k:bL LOW S S'){a:Nat}{W:Tc_}(l:6<=a)(f:WOK m W)(d:S'[j]?=some (.cells 0 false (cF n (upd (fun q=>if q<i then .msl (b q) 0 0 m m 1 else k_) i (.msl a 0 0 m m 1)))))(g:S'[a]?=some (.cells 0 false (W.map uI))):RP S' j n m (i+1) (upd b i a) (upd I i W):=by
 refine⟨?_,fun q c=>?_,fun q c=>?_,fun q c=>?_⟩
 .rw[d];congr 3;funext q;unfold upd;by_cases e:q=i;.subst e;simp
  .by_cases e2:q<i;.rw[I_ e,I_ e];dsimp only;rw[K_ e2,K_ A_]
   .rw[I_ e];dsimp only;rw[I_ e2,I_ A_]
 .unfold upd;split;.exact l
  .exact h.ge q A_
 .by_cases e:q=i;.subst e;rw[bU,bU];exact g
  .rw[dB _ _ e,dB _ _ e];have:=h.ge q A_;exact k.get _ _ (by simp[LOW];omega) (h.set q A_)
 .unfold upd;split;.exact f
  .exact h.ok q A_
structure FP (S:aA) (f:VF) (lb:List (Nat×Int×Int)) (n m i:Nat) (ia oa ua da:Nat->Nat) (I O U D:Nat->List Nat):Prop where
 lab:∃c,S[0]?=some (.mp (mpR kC lb) c)
 lbs:∀L,dK lb L=dL (f.ins.take i) L
 inn:RP S 1 n m i ia I
 out:RP S 2 n m i oa O
 us:RP S 4 n m i ua U
 ds:RP S 5 n m i da D
 flw:S[3]?=some (.cells 65 false [.iv (.int .i64 f.fn),.iv (.int .i64 f.regs),.iv (.int .i64 f.sl),.iv (.int .i64 f.nd),.iv (.int .i64 f.pr),.iv (.bool f.rs),.iv (.sl f.ti (f.ins.map aJ)),.map 0,.msl 1 0 0 n n 1,.msl 2 0 0 n n 1])
 len:6<=S.length
 zer:∀q r,q<i->bit (I q) r=false
 use:∀q r,q<i->(bit (U q) r=true↔(r:Int)∈bF (f.ins.getD q default)/\r<f.regs)
 dfn:∀q r,q<i->(bit (D q) r=true↔(r:Int)∈aY (f.ins.getD q default)/\r<f.regs)
theorem aWr(v:VI):∀x∈bF v,0<=x:=by
 intro x a;unfold bF at a;repeat' split at a
 all_goals first|(have:=aIu a;omega)|cases a
theorem aWs(v:VI):∀x∈aY v,0<=x:=by
 intro x a;unfold aY at a;repeat' split at a
 all_goals first|(have:=aIu a;omega)|cases a
theorem aWt(v:VI):(bF v).length<=v.us.length+2:=by
 unfold bF;repeat' split
 .exact B9 (uJ _) B_
 .exact B9 (uJ _) B_
 .exact B9 (uJ _) B_
 .simp
theorem zA(v:VI):(aY v).length<=30:=by
 unfold aY;repeat' split
 .exact B9 (uJ _) B_
 .exact B9 (uJ _) (by simp[dP])
 .simp
def sH(T:aA)(r1 r2 r4 r5 cU cD cI cO:aG):aA:=((((T++[cU]++[cD]).set 4 r4).set 5 r5++[cI]++[cO]).set 1 r1).set 2 r2
theorem aI1{T:aA}(h g c d a b e f:aG)(k:6<=T.length):sH T h g c d a b e f=(((T.set 4 c).set 5 d).set 1 h).set 2 g++[a,b,e,f]:=by
 unfold sH;have i:T++[a]++[b]=T++[a,b]:=B_;have e2:((T++[a,b]).set 4 c).set 5 d=(T.set 4 c).set 5 d++[a,b]:=by rw[O3 _ _ A_,O3 _ _ (by rw[F6];omega)]
 have j:((T.set 4 c).set 5 d).length=T.length:=B_;rw[i,e2];generalize (T.set 4 c).set 5 d=X at *
 have e3:X++[a,b]++[e]++[f]=X++[a,b,e,f]:=B_;rw[e3,O3 _ _ A_,O3 _ _ (by rw[F6];omega)]
theorem aL3(T:aA)(f c b d a g e h:aG):(sH T f c b d a g e h).length=T.length+4:=by unfold sH;simp
theorem bCj{T:aA}(d b a c e g f h:aG)(i:6<=T.length):(sH T d b a c e g f h)[0]?=T[0]? /\ (sH T d b a c e g f h)[3]?=T[3]? /\ (sH T d b a c e g f h)[1]?=some d/\(sH T d b a c e g f h)[2]?=some b/\(sH T d b a c e g f h)[4]?=some a/\(sH T d b a c e g f h)[5]?=some c:=by
 rw[aI1 _ _ _ _ _ _ _ _ i];refine⟨?_,?_,?_,?_,?_,?_⟩<;>rw[Y_ (by simp;omega)];.rw[aB C_,aB C_,aB C_,aB C_]
 .rw[aB C_,aB C_,aB C_,aB C_]
 .rw[aB C_,aM (by simp;omega)]
 .rw[aM (by simp;omega)]
 .rw[aB C_,aB C_,aB C_,aM A_]
 .rw[aB C_,aB C_,aM (by simp;omega)]
theorem bCk{T:aA}(d b a c e g f h:aG)(j:6<=T.length):(sH T d b a c e g f h)[T.length]?=some e/\(sH T d b a c e g f h)[T.length+1]?=some g/\(sH T d b a c e g f h)[T.length+2]?=some f/\(sH T d b a c e g f h)[T.length+3]?=some h:=by
 rw[aI1 _ _ _ _ _ _ _ _ j];have i:((((T.set 4 a).set 5 c).set 1 d).set 2 b).length=T.length:=B_;generalize (((T.set 4 a).set 5 c).set 1 d).set 2 b=X at *
 rw[<-i];exact⟨gN0 ..,gN1 ..,gN2 ..,gN3 ..⟩
theorem aWu{T:aA}(i d c e a j h k:aG)(g:6<=T.length):bL LOW T (sH T i d c e a j h k):=by refine⟨by rw[aL3];omega,fun q b l f=>?_⟩;simp only[LOW,J_,D5,I4,H1]at l;rw[aI1 _ _ _ _ _ _ _ _ g];refine aR ?_ _;rw[aB A_,aB A_,aB A_,aB A_];exact f
def flB(f:VF)(n:Nat):aG:=.cells 65 false [.iv (.int .i64 f.fn),.iv (.int .i64 f.regs),.iv (.int .i64 f.sl),.iv (.int .i64 f.nd),.iv (.int .i64 f.pr),.iv (.bool f.rs),.iv (.sl f.ti (f.ins.map aJ)),.map 0,.msl 1 0 0 n n 1,.msl 2 0 0 n n 1]
theorem aWv{f:VF}{n m:Nat}(e:(f.regs+63) / 64=m)(d:f.regs<=1000000)(T:aA)(L:6<=T.length)(i s q g:Nat->TV)(I:T[1]?=some (aG.cells 0 false (cF n i)))(b2:T[2]?=some (aG.cells 0 false (cF n s)))(b4:T[4]?=some (aG.cells 0 false (cF n q)))(v:T[5]?=some (aG.cells 0 false (cF n g)))(b3:T[3]?=some (flB f n)) (k u:Tag) (U D:Ta_) (z:U.length<=2000000) (y:D.length<=2000000) (G:∀x∈U,0<=x) (C:∀x∈D,0<=x) (F N a b:aG): ∃WU WD WI WO:List Nat,(lim K).call 55 [j_ f.regs,.iv (.sl k (TM.one (.int .i64) U))] T=.ret (.msl T.length 0 0 m m 1,T++[aG.cells 0 false (WU.map uI)]) /\(lim K).call 55 [j_ f.regs,.iv (.sl u (TM.one (.int .i64) D))] (T++[aG.cells 0 false (WU.map uI)])=.ret (.msl (T.length+1) 0 0 m m 1,T++[aG.cells 0 false (WU.map uI)]++[aG.cells 0 false (WD.map uI)]) /\(lim K).call 55 [j_ f.regs,k_] (((T++[aG.cells 0 false (WU.map uI)]++[aG.cells 0 false (WD.map uI)]).set 4 a).set 5 b)=.ret (.msl (T.length+2) 0 0 m m 1,((T++[aG.cells 0 false (WU.map uI)]++[aG.cells 0 false (WD.map uI)]).set 4 a).set 5 b++[aG.cells 0 false (WI.map uI)]) /\(lim K).call 55 [j_ f.regs,k_] (((T++[aG.cells 0 false (WU.map uI)]++[aG.cells 0 false (WD.map uI)]).set 4 a).set 5 b++[aG.cells 0 false (WI.map uI)])=.ret (.msl (T.length+3) 0 0 m m 1,((T++[aG.cells 0 false (WU.map uI)]++[aG.cells 0 false (WD.map uI)]).set 4 a).set 5 b++[aG.cells 0 false (WI.map uI)]++[aG.cells 0 false (WO.map uI)]) /\(T++[aG.cells 0 false (WU.map uI)]++[aG.cells 0 false (WD.map uI)])[4]?=some (aG.cells 0 false (cF n q))/\((T++[aG.cells 0 false (WU.map uI)]++[aG.cells 0 false (WD.map uI)]).set 4 a)[5]?=some (aG.cells 0 false (cF n g)) /\(((T++[aG.cells 0 false (WU.map uI)]++[aG.cells 0 false (WD.map uI)]).set 4 a).set 5 b)[3]?=some (flB f n) /\(((T++[aG.cells 0 false (WU.map uI)]++[aG.cells 0 false (WD.map uI)]).set 4 a).set 5 b++[aG.cells 0 false (WI.map uI)]++[aG.cells 0 false (WO.map uI)])[1]?=some (aG.cells 0 false (cF n i)) /\((((T++[aG.cells 0 false (WU.map uI)]++[aG.cells 0 false (WD.map uI)]).set 4 a).set 5 b++[aG.cells 0 false (WI.map uI)]++[aG.cells 0 false (WO.map uI)]).set 1 F)[2]?=some (aG.cells 0 false (cF n s)) /\WOK m WU/\WOK m WD/\WOK m WI/\WOK m WO/\(∀r:Nat,bit WU r=true↔(r:Int)∈U/\r<f.regs)/\(∀r:Nat,bit WD r=true↔(r:Int)∈D/\r<f.regs)/\(∀r:Nat,bit WI r=false):=by
 obtain⟨WU,o,p,J⟩:=aC2 d k U z G T;rw[e]at o p;obtain⟨WD,e2,j,w⟩:=aC2 d u D y C (T++[aG.cells 0 false (WU.map uI)]);rw[e]at e2 j;obtain⟨WI,e3,t,H⟩:=aC2 d .nil [] B_ B_ (((T++[aG.cells 0 false (WU.map uI)]++[aG.cells 0 false (WD.map uI)]).set 4 a).set 5 b);rw[e]at e3 t;obtain⟨WO,c,l,P⟩:=aC2 d .nil [] B_ B_ (((T++[aG.cells 0 false (WU.map uI)]++[aG.cells 0 false (WD.map uI)]).set 4 a).set 5 b++[aG.cells 0 false (WI.map uI)]);rw[e]at c l;rw[qK]at e3 c;have l2:(T++[aG.cells 0 false (WU.map uI)]).length=T.length+1:=B_;have A:(((T++[aG.cells 0 false (WU.map uI)]++[aG.cells 0 false (WD.map uI)]).set 4 a).set 5 b).length=T.length+2:=B_;have E:(((T++[aG.cells 0 false (WU.map uI)]++[aG.cells 0 false (WD.map uI)]).set 4 a).set 5 b++[aG.cells 0 false (WI.map uI)]).length=T.length+3:=B_;rw[l2]at e2;rw[A]at e3;rw[E]at c;refine⟨WU,WD,WI,WO,o,e2,e3,c,?_,?_,?_,?_,?_,p,j,t,l,J,w,fun r=>?_⟩;.exact aR (aR b4 _) _
 .rw[aB C_];exact aR (aR v _) _
 .rw[aB C_,aB C_];exact aR (aR b3 _) _
 .refine aR (aR ?_ _) _;rw[aB C_,aB C_];exact aR (aR I _) _
 .rw[aB C_];refine aR (aR ?_ _) _;rw[aB C_,aB C_];exact aR (aR b2 _) _
 .cases h:bit WI r with
  |false=>rfl
  |true=>have:=(H r).1 h;simp at this
theorem sN0(S:aA)(a x:aG)(r:aA):(S++a::r).set S.length x=S++x::r:=by rw[E3 _ _ A_];simp
attribute [go_sem] sN0
theorem FP.step{S T:aA}{f:VF}{lb lb':Td_}{n m i:Nat}{j t l s:Th_}{I O U D:Te_}(h:FP S f lb n m i j t l s I O U D)(k:bL LOW S T)(Z:S.length<=T.length)(t1:T[1]?=S[1]?)(t2:T[2]?=S[2]?)(W:T[3]?=S[3]?)(t4:T[4]?=S[4]?)(t5:T[5]?=S[5]?)(y:∃c,T[0]?=some (.mp (mpR kC lb') c))(o:∀L,dK lb' L=dL (f.ins.take (i+1)) L) {WU WD WI WO:Tc_} (Q:WOK m WU) (C:WOK m WD) (R:WOK m WI) (H:WOK m WO) (A:∀r:Nat,bit WU r=true↔(r:Int)∈bF (f.ins.getD i default)/\r<f.regs) (w:∀r:Nat,bit WD r=true↔(r:Int)∈aY (f.ins.getD i default)/\r<f.regs) (z:∀r,bit WI r=false) {d a e b:aG} (J:d=.cells 0 false (cF n (upd (fun q=>if q<i then .msl (j q) 0 0 m m 1 else k_) i (.msl (T.length+2) 0 0 m m 1)))) (e2:a=.cells 0 false (cF n (upd (fun q=>if q<i then .msl (t q) 0 0 m m 1 else k_) i (.msl (T.length+3) 0 0 m m 1)))) (P:e=.cells 0 false (cF n (upd (fun q=>if q<i then .msl (l q) 0 0 m m 1 else k_) i (.msl T.length 0 0 m m 1)))) (E:b=.cells 0 false (cF n (upd (fun q=>if q<i then .msl (s q) 0 0 m m 1 else k_) i (.msl (T.length+1) 0 0 m m 1)))): FP (sH T d a e b (.cells 0 false (WU.map uI)) (.cells 0 false (WD.map uI)) (.cells 0 false (WI.map uI)) (.cells 0 false (WO.map uI))) f lb' n m (i+1) (upd j i (T.length+2)) (upd t i (T.length+3)) (upd l i T.length) (upd s i (T.length+1)) (upd I i WI) (upd O i WO) (upd U i WU) (upd D i WD):=by
 have p:6<=T.length:=by have:=h.len;omega
 obtain⟨G,a3,F,a2,a4,a5⟩:=bCj d a e b (.cells 0 false (WU.map uI)) (.cells 0 false (WD.map uI)) (.cells 0 false (WI.map uI)) (.cells 0 false (WO.map uI)) p;obtain⟨Y,N,V,x⟩:=bCk d a e b (.cells 0 false (WU.map uI)) (.cells 0 false (WD.map uI)) (.cells 0 false (WI.map uI)) (.cells 0 false (WO.map uI)) p;have g:=k.trans (aWu d a e b (.cells 0 false (WU.map uI)) (.cells 0 false (WD.map uI)) (.cells 0 false (WI.map uI)) (.cells 0 false (WO.map uI)) p);have u:=aL3 T d a e b (.cells 0 false (WU.map uI)) (.cells 0 false (WD.map uI)) (.cells 0 false (WI.map uI)) (.cells 0 false (WO.map uI));generalize sH T d a e b (.cells 0 false (WU.map uI)) (.cells 0 false (WD.map uI)) (.cells 0 false (WI.map uI)) (.cells 0 false (WO.map uI))=X at *
 refine⟨?_,o,h.inn.step g A_ R (by rw[F,J]) V,h.out.step g A_ H (by rw[a2,e2]) x,h.us.step g A_ Q (by rw[a4,P]) Y,h.ds.step g A_ C (by rw[a5,E]) N,by rw[a3,W];exact h.flw,by omega,fun q r v=>?_,fun q r v=>?_,fun q r v=>?_⟩;.rw[G];exact y
 .unfold upd;split;.exact z r
  .exact h.zer q r A_
 .unfold upd;split;.subst_vars;exact A r
  .exact h.use q r A_
 .unfold upd;split;.subst_vars;exact w r
  .exact h.dfn q r A_
theorem aT7{f:VF}{n m:Nat}(hm:(f.regs+63) / 64=m)(hr:f.regs<=1000000)(hn:n<=1000000)(ho:f.ins.length=n)(hj:∀x∈f.ins,x.us.length<=999990/\cB x.tu x.us)(x0 x2 x3 x4 x13 x14 x15 hc h4:TV):∀(k i:Nat) (S:aA) (lb:Td_) (Y Z ua da:Th_) (I O U D:Te_) (x9 x10 x11 x12 Q F:TV),i+k=n ->FP S f lb n m i Y Z ua da I O U D ->∃(S':aA) (lb':Td_) (p o r y:Th_) (I' O' U' D':Te_) (y9 u z A s C:TV),lp' (lim K) t31L2 [x0,.lb ((kY f).map .iv),x2,x3,x4,j_ n,.ptr 3 65 0,.msl 4 0 0 n n 1,.msl 5 0 0 n n 1,x9,x10,x11,x12,x13,x14,x15,.iv (.sl f.ti (f.ins.map aJ)),j_ n,j_ i,Q,F,hc,h4] S = .ret (.exit 0,[x0,.lb ((kY f).map .iv),x2,x3,x4,j_ n,.ptr 3 65 0,.msl 4 0 0 n n 1,.msl 5 0 0 n n 1,y9,u,z,A,x13,x14,x15,.iv (.sl f.ti (f.ins.map aJ)),j_ n,j_ n,s,C,hc,h4],S') /\FP S' f lb' n m n p o r y I' O' U' D'
 |0,i,S,lb,Y,Z,ua,da,I,O,U,D,x9,x10,x11,x12,Q,F,hk,hF=>by obtain rfl:i=n:=A_;refine⟨S,lb,Y,Z,ua,da,I,O,U,D,x9,x10,x11,x12,z_,F,aE K _ _ t31L2.eq_1 ?_,hF⟩;simp(disch:=omega)only[go_sem]
 |k+1,i,S,lb,Y,Z,ua,da,I,O,U,D,x9,x10,x11,x12,Q,F,hk,hF=>by
  have hi:i<n:=A_;have h7:i<f.ins.length:=A_;have G:=gC (w:=8) (f:=aJ) eZ (t:=f.ti) (l:=f.ins) (i:=(i:Int)) A_;rw[Int.toNat_natCast]at G;obtain⟨hu,hv⟩:=hj (f.ins.getD i default) (by simp only[List.getD,D_ h7,Option.getD_some];exact B8 _);obtain⟨c0,d⟩:=hF.lab;have h6:=hF.len;have hw:f.ins.take (i+1)=f.ins.take i++[f.ins.getD i default]:=by rw[G9,D_ h7];simp[List.getD,D_ h7]
  have ht:(f.ins.take i).length=i:=by simp;omega
  have h9:=fun L=>aL2 (f.ins.take i) (f.ins.getD i default) L;simp only[<-hw,ht]at h9;obtain⟨tU,hz,c9⟩:=bCh (f.ins.getD i default) hu hv;obtain⟨tD,hy,R⟩:=aP6 (f.ins.getD i default);have lU:=aWt (f.ins.getD i default);have lD:=zA (f.ins.getD i default);have pU:=aWr (f.ins.getD i default);have pD:=aWs (f.ins.getD i default);have lf:=fun T h6 g1 g2 g4 g5 b1 b2 b4 b5 b3 r1 r2 r4 r5=>aWv (f:=f) (n:=n) hm hr T h6 g1 g2 g4 g5 b1 b2 b4 b5 b3 tU tD (bF (f.ins.getD i default)) (aY (f.ins.getD i default)) A_ A_ pU pD r1 r2 r4 r5;have hl:=fun T lb'=>FP.step (T:=T) (lb':=lb') hF;have ha:=fun S lb Y Z ua da I O U D x9 x10 x11 x12 Q F=>aT7 hm hr hn ho hj x0 x2 x3 x4 x13 x14 x15 hc h4 k (i+1) S lb Y Z ua da I O U D x9 x10 x11 x12 Q F A_;have i1:=fun j=>iO (j:=j) (v:=0) (cap:=n) hi;have pc:=fun g x=>lC (n:=n) (i:=i) g x hi;generalize hx:f.ins.getD i default=x at *
  have h0:∀L,dK lb L=dL (f.ins.take i) L:=hF.lbs;have hf:∀(P:aG) (q:Nat),q<6->(S++[P])[q]?=S[q]? := fun P q hq=>Y_ A_;rw[cV]at G;by_cases hB:x.op=65/\cG lb x.lb=false
  .obtain⟨h8,hh⟩:=hB;have hg:dK lb x.lb=none:=by
    cases h:dK lb x.lb with
    |none=>rfl
    |some a=>simp[cG,h]at hh
   generalize hP:aG.cells 90 false [j_ (lR lb x.lb)]=P;have he:(S++[P])[0]?=some (.mp (mpR kC lb) c0):=aR d _;have h5:=aR hF.flw [P];generalize hT:(S++[P]).set 0 (.mp (mpR kC (gV lb c0 x.lb (i:Int))) (rP lb c0 x.lb))=T;have hs:T.length=S.length+1:=by rw[<-hT];simp
   have b:∀q,0<q->q<6->T[q]?=S[q]? := fun q h1 h2=>by rw[<-hT,aB A_,hf P q h2]
   have hk:bL LOW S T:=by rw[<-hT];exact(bL.app LOW S [P]).trans (bL.set _ (by simp[LOW]) _)
   have hd:∃c,T[0]?=some (.mp (mpR kC (gV lb c0 x.lb (i:Int))) c):=⟨_,by rw[<-hT];exact aM B_ _⟩
   have J:T[3]?=some (flB f n):=(b 3 A_ A_).trans hF.flw;obtain⟨WU,WD,WI,WO,e1,e2,e3,e4,d4,d5,d3,d1,d2,w1,w2,w3,w4,u1,u2,u3⟩:=lf T A_ _ _ _ _ ((b 1 A_ A_).trans hF.inn.row) ((b 2 A_ A_).trans hF.out.row) ((b 4 A_ A_).trans hF.us.row) ((b 5 A_ A_).trans hF.ds.row) J
    (.cells 0 false (cF n (upd (fun q=>if q<i then .msl (Y q) 0 0 m m 1 else k_) i (.msl (T.length+2) 0 0 m m 1)))) (.cells 0 false (cF n (upd (fun q=>if q<i then .msl (Z q) 0 0 m m 1 else k_) i (.msl (T.length+3) 0 0 m m 1))))
    (.cells 0 false (cF n (upd (fun q=>if q<i then .msl (ua q) 0 0 m m 1 else k_) i (.msl T.length 0 0 m m 1)))) (.cells 0 false (cF n (upd (fun q=>if q<i then .msl (da q) 0 0 m m 1 else k_) i (.msl (T.length+1) 0 0 m m 1))))
   have W:=hl T (gV lb c0 x.lb (i:Int)) hk A_ (b 1 A_ A_) (b 2 A_ A_) (b 3 A_ A_) (b 4 A_ A_) (b 5 A_ A_) hd (fun L=>by
    rw[qI,h9 L,<-h0 L];by_cases e:x.lb=L;.subst e;rw[K_ rfl,hg];simp[h8]
    .rw[I_ e];cases dK lb L with
     |some a=>rfl
     |none=>rw[I_ (fun h=>e h.2)]) w1 w2 w3 w4 u1 u2 u3 rfl rfl rfl rfl
   obtain⟨S',lb',p,o,r,y,I',O',U',D',y9,u,z,A,s,C,H,N⟩:=ha _ _ _ _ _ _ _ _ _ _ (j_ i) (.lb ((aJ x).map .iv)) (.ptr S.length 90 0) z_ e_ e_ W;refine⟨S',lb',p,o,r,y,I',O',U',D',y9,u,z,A,s,C,aE K _ _ t31L2.eq_1 ?_,N⟩;rw[show((i+1:Nat):Int)=(i:Int)+1 by omega,aS]at H;have g3:=hF.flw;have l2:=aL1 lb c0 x.lb;rw[hh]at l2;unfold flB at d3;have E:=aR d3 [.cells 0 false (WI.map uI)];have V:=aR E [.cells 0 false (WO.map uI)];rw[cV]at c9 R;unfold kY at *
   simp only[Q_,C3]at H |-;simp(disch:=omega)only[go_sem,G,i1,d,g3,l2,hP,he,h5,aCx,hT,aD c9,aD R,e1,e2,d4,d5,pc,d3,E,V,e3,e4,d1,d2,aC];exact X_ er H
  .have hp:∀L,dK lb L=dL (f.ins.take (i+1)) L:=fun L=>by
    rw[h9 L,<-h0 L];cases h:dK lb L with
    |some a=>rfl
    |none =>dsimp only;rw[I_];rintro⟨h1,rfl⟩;exact hB ⟨h1,by simp[cG,h]⟩
   generalize hP:aG.cells 90 false [j_ (lR lb x.lb)]=P;generalize hT:S++[P]=T;have hs:T.length=S.length+1:=by rw[<-hT];simp
   have b:∀q,q<6->T[q]?=S[q]? := fun q h2=>by rw[<-hT,hf P q h2]
   have hk:bL LOW S T:=by rw[<-hT];exact bL.app LOW S [P]
   have hd:∃c,T[0]?=some (.mp (mpR kC lb) c):=⟨c0,by rw[b 0 A_];exact d⟩
   have J:T[3]?=some (flB f n):=(b 3 A_).trans hF.flw;obtain⟨WU,WD,WI,WO,e1,e2,e3,e4,d4,d5,d3,d1,d2,w1,w2,w3,w4,u1,u2,u3⟩:=lf T A_ _ _ _ _ ((b 1 A_).trans hF.inn.row) ((b 2 A_).trans hF.out.row) ((b 4 A_).trans hF.us.row) ((b 5 A_).trans hF.ds.row) J
    (.cells 0 false (cF n (upd (fun q=>if q<i then .msl (Y q) 0 0 m m 1 else k_) i (.msl (T.length+2) 0 0 m m 1)))) (.cells 0 false (cF n (upd (fun q=>if q<i then .msl (Z q) 0 0 m m 1 else k_) i (.msl (T.length+3) 0 0 m m 1))))
    (.cells 0 false (cF n (upd (fun q=>if q<i then .msl (ua q) 0 0 m m 1 else k_) i (.msl T.length 0 0 m m 1)))) (.cells 0 false (cF n (upd (fun q=>if q<i then .msl (da q) 0 0 m m 1 else k_) i (.msl (T.length+1) 0 0 m m 1))))
   have W:=hl T lb hk A_ (b 1 A_) (b 2 A_) (b 3 A_) (b 4 A_) (b 5 A_) hd hp w1 w2 w3 w4 u1 u2 u3 rfl rfl rfl rfl;have g3:=hF.flw;have l2:=aL1 lb c0 x.lb;unfold flB at d3;have E:=aR d3 [.cells 0 false (WI.map uI)];have V:=aR E [.cells 0 false (WO.map uI)];rw[cV]at c9 R;by_cases h8:x.op=65
   .have hh:cG lb x.lb=true:=by
     cases h:cG lb x.lb with
     |true=>rfl
     |false=>exact absurd ⟨h8,h⟩ hB
    rw[hh]at l2;obtain⟨S',lb',p,o,r,y,I',O',U',D',y9,u,z,A,s,C,H,N⟩:=ha _ _ _ _ _ _ _ _ _ _ (j_ i) (.lb ((aJ x).map .iv)) (.ptr S.length 90 0) e_ e_ z_ W;refine⟨S',lb',p,o,r,y,I',O',U',D',y9,u,z,A,s,C,aE K _ _ t31L2.eq_1 ?_,N⟩;rw[show((i+1:Nat):Int)=(i:Int)+1 by omega,aS]at H;unfold kY at *
    simp only[Q_,C3]at H |-;simp(disch:=omega)only[go_sem,G,i1,d,g3,l2,hP,hT,aD c9,aD R,e1,e2,d4,d5,pc,d3,E,V,e3,e4,d1,d2,aC];exact X_ er H
   .generalize cG lb x.lb=hb at *
    obtain⟨S',lb',p,o,r,y,I',O',U',D',y9,u,z,A,s,C,H,N⟩:=ha _ _ _ _ _ _ _ _ _ _ (j_ i) (.lb ((aJ x).map .iv)) (.ptr S.length 90 0) (.iv (.bool hb)) e_ z_ W;refine⟨S',lb',p,o,r,y,I',O',U',D',y9,u,z,A,s,C,aE K _ _ t31L2.eq_1 ?_,N⟩;rw[show((i+1:Nat):Int)=(i:Int)+1 by omega,aS]at H;unfold kY at *
    simp only[Q_,C3]at H |-;simp(disch:=omega)only[go_sem,G,i1,d,g3,l2,hP,hT,aD c9,aD R,e1,e2,d4,d5,pc,d3,E,V,e3,e4,d1,d2,aC];exact X_ er H
end Go.Proofs.YtehlgnfhkidgoaaGreatDoor
