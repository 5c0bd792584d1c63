/- Some texts of the proof, joined. Condition: none. -/
import Derived.Test.YtehlgnfhkidgoaaGreatDoorTmProg
import Derived.Test.YtehlgnfhkidgoaaGreatDoorTmF
import Derived.Test.YtehlgnfhkidgoaaGreatDoorTmE
set_option linter.unusedSectionVars false
set_option maxRecDepth 100000
set_option maxHeartbeats 64000000
set_option linter.unusedSimpArgs false
set_option linter.unusedVariables false
namespace Go.Proofs.YtehlgnfhkidgoaaGreatDoor
open Go Go.TM
abbrev z_ : TV := .iv (.bool false)
abbrev e_ : TV := .iv (.bool true)
abbrev k_ : TV := .iv (.sl .nil [])
abbrev M_ : Type := List (List IV)
abbrev j_(n : Int) : TV := .iv (.int .i64 n)
theorem n_{α : Type _} : (∀ a b : List α, (a ++ b).length = a.length + b.length) /\ (∀(x : α) (a : List α), (x :: a).length = a.length + 1) /\ ([] : List α).length = 0 := ⟨fun _ _ => H_, fun _ _ => List.length_cons, List.length_nil⟩
theorem n0_ : ((0 : Nat) : Int) = 0 := rfl
abbrev u_:TV:=.tup []
attribute [go_sem] TM.undef
attribute [go_sem] beq_self_eq_true bWq bWr ifT ifF eqT eqF neT neF TM.kB bOy List.replicate List.cons_append List.nil_append decide_true decide_false
attribute [go_sem] Nat.reduceAdd Nat.reduceSub Nat.reduceMul Nat.reduceLT Nat.reduceLeDiff Nat.reduceEqDiff Nat.reduceBEq reduceIte reduceCtorEq Int.reduceEq Int.reduceLT Int.reduceLE Int.reduceAdd Int.reduceSub Int.reduceMul Int.reduceToNat Int.reduceNeg Int.reduceBEq Int.reduceBNe Int.reduceTDiv Int.reduceTMod Int.reducePow Nat.reducePow Nat.reduceDiv Nat.reduceMod Int.reduceMod Int.reduceDiv Int.reduceNe Int.reduceFDiv
def vI(v:Int):TV:=.iv (.int .i64 v)
theorem oY{C:Ta_}{J:Tn_}{i:Nat}(h:i<C.length):sub (C.map vI++J) i 1=some [vI (C.getD i 0)]:=by simp only[sub,H_,L_,show i+1<=C.length+J.length by omega,↓reduceIte];rw[A6 (by simp;omega)];simp[Y9,h,List.getD,D_ h]
theorem aIp{C:Ta_}{J:Tn_}{i:Nat}(x:Int)(h:i<C.length):put (C.map vI++J) i [vI x]=(C.set i x).map vI++J:=by unfold put;rw[K3 (by simp;omega),K2 (by simp;omega),K9,K_ h];simp
theorem iO{j v a cap i:Nat}(h:i<a):indexAddrS 1 (.msl j v 0 a cap 1) (i:Int)=some (.ptr j v i):=by rw[aLm A_,Int.toNat_natCast,A7]
theorem bBw{j v off a cap i:Nat}(h:i<a):indexAddrS 1 (.msl j v off a cap 1) (i:Int)=some (.ptr j v (off+i)):=by rw[aLm A_,Int.toNat_natCast]
theorem lB{i d y:Nat}(h:i<=y):pY (some (i:Int)) d y=some i:=by simp[pY,h]
theorem uF{m cap b:Nat}(a:b<=cap):fN m cap none (some (b:Int)) none=some (0,b,cap):=by have:pY none cap cap=some cap:=rfl;have e:pY none 0 b=some 0:=rfl;simp[fN,this,lB a,e]
theorem pL{m cap a:Nat}(b:m<=cap)(h3:a<=m):fN m cap (some (a:Int)) none none=some (a,m,cap):=by have:pY none cap cap=some cap:=rfl;have e:pY none m cap=some m:=rfl;simp[fN,this,e,lB h3]
theorem wB{S:aA}{jl v m cap:Nat}{b:Bool}{cs:Tn_}(g:S[jl]?=some (.cells v b cs))(lo a d:Option Int){l h c:Nat}(f:fN m cap lo a d=some (l,h,c)):fQ S (.sl 1) (.msl jl v 0 m cap 1) lo a d=some (.msl jl v (if c=l then 0 else 0+l*1) (h-l) (c-l) 1):=by
 have e:rU S jl v=true:=by simp[rU,g]
 simp[fQ,e,f]
theorem aPr{S:aA}{j v cap:Nat}{b:Bool}{C:Ta_}{J:Tn_}(h:S[j]?=some (.cells v b (C.map vI++J))){i:Nat}(m:i<=C.length)(l:C.length<=cap)(c':Nat): ∃J',lW [.int .i64 0] S (.msl j v (if cap=i then 0 else 0+i*1) (C.length-i) c' 1)=some (S.set j (.cells v b ((C.take i).map vI++J'))):=by
 by_cases e:C.length-i=0
 .obtain rfl:i=C.length:=A_;refine⟨J,?_⟩;have:S.set j (.cells v b (C.map vI++J))=S:=by obtain⟨f,d⟩:=E_.1 h;rw[<-d,J9]
  simp only[lW,e,↓reduceIte,B9,this]
 .have a:¬cap=i:=A_;refine⟨bC (List.replicate (C.length-i) ([IV.int .i64 0].map .iv))++J,?_⟩;have k:(bC (List.replicate (C.length-i) ([IV.int .i64 0].map TV.iv))).length=C.length-i:=by rw[aO9,aTh];simp
  have g:put (C.map vI++J) i (bC (List.replicate (C.length-i) ([IV.int .i64 0].map TV.iv)))=(C.take i).map vI++(bC (List.replicate (C.length-i) ([IV.int .i64 0].map .iv))++J):=by unfold put;rw[k,K3 (by simp;omega),show i+(C.length-i)=C.length by omega,L6 B_,<-List.map_take];simp
  simp only[lW,e,a,↓reduceIte,h,A7,I8,List.length_cons,List.length_nil,Z8,H_,L_,show i+(C.length-i)<=C.length+J.length by omega,g,X1]
theorem aIq(D C:Ta_)(x:Int)(h:D.length<C.length):(D++C.drop D.length).set D.length x=(D++[x])++C.drop (D.length+1):=by rw[E3 _ _ (O_ _),M8,A6 h,List.set_cons_zero];simp
theorem uG{D C:Ta_}(h:D.length<=C.length):(D++C.drop D.length).length=C.length:=by simp;omega
theorem aIr{D C:Ta_}{j:Nat}(h:D.length<=j):(D++C.drop D.length).getD j 0=C.getD j 0:=by simp only[List.getD,r_ h,G6];rw[show D.length+(j-D.length)=j by omega]
theorem bBx(x:Int):Pure K 99 [j_ x] (.iv (.bool (decide (x<=0)))):=by refine aT t99 rfl rfl ?_;simp(disch:=omega)only[t99,go_sem]
theorem bBy{S:aA}{j v:Nat}{b:Bool}{C:Ta_}{J:Tn_}(h:S[j]?=some (.cells v b (C.map vI++J)))(y:C.length<=1000000)(cap:Nat):∀(k i:Nat) (x2 e x6 x7:TV),i+k=C.length->(∀q,q<i->0<C.getD q 0) ->∃d f n r l m,lp' (lim K) t50L0 [.msl j v 0 C.length cap 1,.fn 99 [] [],x2,e,j_ C.length,j_ i,x6,x7] S = .ret (d,[.msl j v 0 C.length cap 1,.fn 99 [] [],f,n,j_ C.length,r,l,m],S) /\(d=.exit 0/\(∀q,q<C.length->0<C.getD q 0)\/d=.ret/\∃q:Nat,f=j_ q/\q<C.length/\C.getD q 0<=0/\∀p,p<q->0<C.getD p 0)
 |0,i,x2,e,x6,x7,hk,hq=>by obtain rfl:i=C.length:=A_;refine⟨.exit 0,x2,e,j_ C.length,z_,x7,aE K _ _ t50L0.eq_1 ?_,.inl ⟨rfl,hq⟩⟩;simp(disch:=omega)only[go_sem]
 |k+1,i,x2,e,x6,x7,hk,hq=>by
  have c:i<C.length:=A_;have s:=iO (j:=j) (v:=v) (cap:=cap) c;have o:=oY (J:=J) c;have a:=bBx (C.getD i 0);have g:=h;simp only[vI]at g o;by_cases hd:C.getD i 0<=0;.rw[V_ hd]at a;refine⟨.ret,j_ i,j_ i,j_ i,e_,e_,aE K _ _ t50L0.eq_1 ?_,.inr ⟨rfl,i,rfl,c,hd,hq⟩⟩;simp(disch:=omega)only[go_sem,s,g,o,aD a]
  .rw[l_ hd]at a;obtain⟨d,f,n,r,l,m,u,w⟩:=bBy h y cap k (i+1) x2 (j_ i) e_ z_ A_ (fun q x=>by
    rcases D2 q i with t|t;.exact hq q t
    .obtain rfl:q=i:=A_;omega)
   rw[show((i+1:Nat):Int)=(i:Int)+1 by omega]at u;refine⟨d,f,n,r,l,m,aE K _ _ t50L0.eq_1 ?_,w⟩;simp(disch:=omega)only[go_sem,s,g,o,aD a,aC];exact X_ er u
theorem bQa{S:aA}{j v:Nat}{b:Bool}{C:Ta_}{J:Tn_}(h:S[j]?=some (.cells v b (C.map vI++J)))(d:C.length<=1000000)(cap:Nat): ∃w:Int,(lim K).call 50 [.msl j v 0 C.length cap 1,.fn 99 [] []] S=.ret (j_ w,S)/\(w = -1/\(∀q,q<C.length->0<C.getD q 0)\/∃q:Nat,w=q/\q<C.length/\C.getD q 0<=0/\∀p,p<q->0<C.getD p 0):=by
 obtain⟨f,m,i,g,k,n,c,a⟩:=bBy h d cap C.length 0 (j_ 0) u_ u_ u_ A_ (fun q l=>A_);rw[n0_]at c;rcases a with⟨rfl,a⟩|⟨rfl,q,rfl,e⟩;.refine⟨-1,aI K _ (fn:=t50) rfl rfl ?_,.inl ⟨rfl,a⟩⟩;simp(disch:=omega)only[t50,go_sem];rw[c];simp(disch:=omega)only[go_sem]
 .refine⟨q,aI K _ (fn:=t50) rfl rfl ?_,.inr ⟨q,rfl,e⟩⟩;simp(disch:=omega)only[t50,go_sem];rw[c];simp(disch:=omega)only[go_sem]
def pos(C:List Int):List Int:=C.filter fun n=>decide (0<n)
theorem aTq{C:Ta_}(h:∀q,q<C.length->0<C.getD q 0):pos C=C:=by refine R8.2 fun a c=>?_;obtain⟨i,b,rfl⟩:=H8 c;have:=h i b;simp only[List.getD,D_ b,Option.getD_some]at this;exact V_ this
theorem aLt{C:Ta_}{i:Nat}(h:i<C.length):pos (C.take (i+1))=if 0<C.getD i 0 then pos (C.take i)++[C.getD i 0]else pos (C.take i):=by
 have:C.take (i+1)=C.take i++[C.getD i 0]:=by rw[H0,D_ h];simp[List.getD,D_ h]
 rw[this];unfold pos;rw[I5];by_cases h:0<C.getD i 0;.rw[K_ h];simp only[E4,V_ h,N8,List.filter_nil]
 .rw[I_ h];simp only[E4,l_ h,List.filter_nil,b_,J3,A4]
theorem aIs(C:Ta_):(pos C).length<=C.length:=D8 _ _
theorem jU{S:aA}{j:Nat}{B:aG}(h:S[j]?=some B):S.set j B=S:=by obtain⟨b,a⟩:=E_.1 h;rw[<-a,J9]
theorem aPs{j v:Nat}{b:Bool}{C:Ta_}{J:Tn_}(w:C.length<=1000000)(cap:Nat)(x2 x6:TV):∀(k i:Nat) (S:aA) (x5 x7 x8:TV),i+k=C.length ->S[j]?=some (.cells v b ((pos (C.take i)++C.drop (pos (C.take i)).length).map vI++J)) ->∃n e f,lp' (lim K) t40L0 [.msl j v 0 C.length cap 1,.fn 99 [] [],x2,.iv (.int .i64 ((pos (C.take i)).length:Nat)),j_ i,x5,x6,x7,x8] S = .ret (.exit 0,[.msl j v 0 C.length cap 1,.fn 99 [] [],x2,j_ ((pos C).length:Nat),j_ C.length,n,x6,e,f],S.set j (.cells v b ((pos C++C.drop (pos C).length).map vI++J)))
 |0,i,S,x5,x7,x8,hk,h=>by obtain rfl:i=C.length:=A_;rw[B9]at h |-;refine⟨x5,z_,x8,aE K _ _ t40L0.eq_1 ?_⟩;rw[jU h];simp(disch:=omega)only[go_sem]
 |k+1,i,S,x5,x7,x8,hk,h=>by
  have d:i<C.length:=A_;have s:(pos (C.take i)).length<=i:=C0 (aIs _) (by simp;omega);have g:=uG (D:=pos (C.take i)) (C:=C) A_;have u:=iO (j:=j) (v:=v) (cap:=cap) d;have o:=oY (C:=pos (C.take i)++C.drop (pos (C.take i)).length) (J:=J) (i:=i) A_;rw[aIr s]at o;have c:=bBx (C.getD i 0);have a:=aLt d;have q:=h;simp only[vI]at q o;by_cases hd:C.getD i 0<=0;.rw[I_ A_]at a;rw[V_ hd]at c;obtain⟨n,e,f,m⟩:=aPs (v:=v) (b:=b) (J:=J) w cap x2 x6 k (i+1) S (j_ (C.getD i 0)) e_ z_ A_ (by rw[a];exact h);rw[a,show((i+1:Nat):Int)=(i:Int)+1 by omega]at m;refine⟨n,e,f,aE K _ _ t40L0.eq_1 ?_⟩;simp(disch:=omega)only[go_sem,u,q,o,aD c,aC];exact X_ er m
  .rw[K_ A_]at a;rw[l_ hd]at c;have t:(pos (C.take i)).length<C.length:=A_;have x:=iO (j:=j) (v:=v) (cap:=cap) t;have r:=aIp (C:=pos (C.take i)++C.drop (pos (C.take i)).length) (J:=J) (i:=(pos (C.take i)).length) (C.getD i 0) A_;rw[aIq _ _ _ t]at r;have p:=aN h;obtain⟨n,e,f,m⟩:=aPs (v:=v) (b:=b) (J:=J) w cap x2 x6 k (i+1) (S.set j (.cells v b (((pos (C.take i)++[C.getD i 0])++C.drop ((pos (C.take i)).length+1)).map vI++J))) (j_ (C.getD i 0)) e_ e_ A_ (by rw[a,aM p];simp);rw[a,show((i+1:Nat):Int)=(i:Int)+1 by omega,H_,List.length_singleton,G9,show(((pos (C.take i)).length+1:Nat):Int)=((pos (C.take i)).length:Int)+1 by omega]at m;have l:(pos (C.take i)).length+1<=((pos (C.take i)++C.drop (pos (C.take i)).length).map vI++J).length:=by rw[H_,L_,g];omega
   simp only[vI]at r l;refine⟨n,e,f,aE K _ _ t40L0.eq_1 ?_⟩;simp(disch:=omega)only[go_sem,u,x,q,o,aD c,aC,l,r];exact X_ er m
theorem bQb{S:aA}{j v:Nat}{b:Bool}{C:Ta_}{J:Tn_}(h:S[j]?=some (.cells v b (C.map vI++J)))(z:C.length<=1000000){cap:Nat}(F:C.length<=cap): ∃J',(lim K).call 40 [.msl j v 0 C.length cap 1,.fn 99 [] []] S=.ret (.msl j v 0 (pos C).length cap 1,S.set j (.cells v b ((pos C).map vI++J'))):=by
 obtain⟨w,e,t⟩:=bQa h z cap;rcases t with⟨rfl,t⟩|⟨q,rfl,I,H,o⟩;.rw[aTq t];refine⟨J,aI K _ (fn:=t40) rfl rfl ?_⟩;rw[jU h];simp(disch:=omega)only[t40,go_sem,e]
 .have n:pos (C.take q)=C.take q:=aTq fun p G=>by
   have y:p<q:=by simp at G;omega
   have u:=o p y;simp only[List.getD,G8 y]at u |-;exact u
  have c:pos (C.take (q+1))=C.take q:=by rw[aLt I,I_ A_,n]
  have f:(C.take q).length=q:=by simp;omega
  obtain⟨Q,N,P,A⟩:=aPs (j:=j) (v:=v) (b:=b) (C:=C) (J:=J) z cap k_ z_ (C.length-(q+1)) (q+1) S u_ u_ u_ A_ (by rw[c,f,G1];exact h);rw[c,f,show((q+1:Nat):Int)=(q:Int)+1 by omega]at A;have d:=aN h;have l:(S.set j (.cells v b ((pos C++C.drop (pos C).length).map vI++J)))[j]?=some _:=aM d _;have g:=aIs C;have k:=uG (D:=pos C) (C:=C) g;have L:=wB l _ _ _ (pL (m:=C.length) (cap:=cap) (a:=(pos C).length) F g);obtain⟨J',E⟩:=aPr (cap:=cap) l (i:=(pos C).length) A_ A_ (cap-(pos C).length);rw[k,K4,G9]at E;.have r:(S.set j (.cells v b ((pos C).map vI++J')))[j]?=some _:=aM d _;have x:=wB r _ _ _ (uF (m:=C.length) (cap:=cap) (b:=(pos C).length) A_);rw[show(if cap=0 then 0 else 0+0*1)=0 by split<;>rfl,Nat.sub_zero,Nat.sub_zero]at x;have s:¬(q:Int) = -1:=A_;refine⟨J',aI K _ (fn:=t40) rfl rfl ?_⟩;simp(disch:=omega)only[t40,go_sem,e,s,aC];rw[A];simp(disch:=omega)only[go_sem,L,fun env=>aLr _ env _ _ _ E,x]
  .rfl
theorem aTr:K.prim 46=some iH:=rfl
theorem bBz(S:aA)(j v o n c e:Nat):prV S (some iH) [.msl j v o n c e]=iH [.msl j v o n c e] S:=id rfl
theorem uH(C:Ta_):(eG C).length=C.length:=(lQ C).length_eq
theorem aAo{S:aA}{j v:Nat}{b:Bool}{C:Ta_}{J:Tn_}(h:S[j]?=some (.cells v b (C.map vI++J)))(d:C.length<=1000000){cap:Nat}(a:C.length<=cap): iH [.msl j v 0 C.length cap 1] S=some (u_,S.set j (.cells v b ((eG C).map vI++J))):=by
 by_cases h0:C.length=0;.obtain rfl:C=[]:=Z_ h0;have e:S.set j (.cells v b ((eG []).map vI++J))=S:=jU h;rw[e];rfl
 .have c:List.take C.length (List.drop 0 (C.map vI++J))=C.map fun n=>TV.iv (.int .i64 n):=by rw[C4,K4 B_];rfl
  have e2:List.drop C.length (C.map vI++J)=J:=L6 B_;simp only[iH,h0,↓reduceIte,h,a,A7,H_,L_,show C.length<=C.length+J.length by omega,show C.length<=1048576 by omega,X1,c,aFu,List.take_zero,List.nil_append,e2];rfl
theorem oO:∀ {l m:Ta_},l.Pairwise (·<·)->m.Pairwise (·<·)->(∀x,x∈l↔x∈m)->l=m
 |[],[],_,_,_=>rfl
 |[],b::m,_,_,h=>by have:=(h b).2 B_;cases this
 |a::l,[],_,_,h=>by have:=(h a).1 B_;cases this
 |a::l,b::m,hl,hm,h=>by
  rw[E6]at hl hm;have f:a=b:=by
   rcases J_.1 ((h a).1 B_)with e|c;.exact e
   .rcases J_.1 ((h b).2 B_)with e|h2;.exact e.symm
    .have:=hm.1 a c;have:=hl.1 b h2;omega
  subst f;rw[oO hl.2 hm.2 fun x=>?_];have d:=h x;simp only[J_]at d;constructor
  .intro c;rcases d.1 (.inr c)with rfl|h2;.have:=hl.1 x c;omega
   .exact h2
  .intro c;rcases d.2 (.inr c)with rfl|h2;.have:=hm.1 x c;omega
   .exact h2
theorem nU{C:Ta_}{i:Nat}(h:i<C.length):C.getD i 0∈C:=by simp only[List.getD,D_ h,Option.getD_some];exact B8 _
theorem iR{C:Ta_}{i:Nat}(h:i<C.length):C.take (i+1)=C.take i++[C.getD i 0]:=by rw[H0,D_ h];simp[List.getD,D_ h]
theorem aGt{C:Ta_}(a:C.Pairwise (·<=·)){p:Nat}(d:p<C.length)(b:0<p)(e:C.getD p 0≠C.getD (p-1) 0):∀x∈C.take p,x<C.getD p 0:=by
 intro x c;obtain⟨i,f,rfl⟩:=H8 c;simp at f;have g:C.getD (p-1) 0<=C.getD p 0:=by simp only[List.getD,D_ (show p-1<C.length by omega),D_ d,Option.getD_some];exact O6.1 a (p-1) p _ _ A_
 have j:C[i]<=C.getD (p-1) 0:=by
  simp only[List.getD,D_ (show p-1<C.length by omega),Option.getD_some];rcases D2 i (p-1)with h|h;.exact O6.1 a i (p-1) _ _ h
  .have:i=p-1:=A_;subst this;exact Z6 _
 rw[List.getElem_take];omega
theorem aCz{j v:Nat}{b:Bool}{C:Ta_}{J:Tn_}(G:C.Pairwise (·<=·))(L:C.length<=1000000){cap:Nat}(I:C.length<=cap){k0:Nat}(f:k0<C.length)(s x5 x6 x7:TV):∀(k p:Nat) (D:Ta_) (S:aA) (x8 x9:TV),p+k=C.length->k0<p->D.length<p ->D.Pairwise (·<·)->(∀x,x∈D↔x∈C.take p)->S[j]?=some (.cells v b ((D++C.drop D.length).map vI++J)) ->∃(E:Ta_) (l e:TV),lp' (lim K) t100L0 [.msl j v 0 C.length cap 1,s,j_ (D.length:Nat),.msl j v k0 (C.length-k0) (cap-k0) 1,j_ (p-k0:Nat),x5,x6,x7,x8,x9] S = .ret (.exit 2,[.msl j v 0 C.length cap 1,s,j_ (E.length:Nat),.msl j v k0 (C.length-k0) (cap-k0) 1,j_ (C.length-k0:Nat),x5,x6,x7,l,e],S.set j (.cells v b ((E++C.drop E.length).map vI++J))) /\E.Pairwise (·<·)/\(∀x,x∈E↔x∈C)/\E.length<=C.length
 |0,p,D,S,x8,x9,hk,hkp,hDp,hD,hm,h=>by obtain rfl:p=C.length:=A_;rw[B9]at hm;refine⟨D,z_,x9,aE K _ _ t100L0.eq_1 ?_,hD,hm,by omega⟩;rw[jU h];simp(disch:=omega)only[go_sem]
 |k+1,p,D,S,x8,x9,hk,hkp,hDp,hD,hm,h=>by
  have g:p<C.length:=A_;have m:=uG (D:=D) (C:=C) A_;have T:k0+(p-k0)=p:=A_;have e2:k0+(p-k0-1)=p-1:=A_;have y:=bBw (j:=j) (v:=v) (off:=k0) (cap:=cap-k0) (show p-k0<C.length-k0 by omega);have A:=bBw (j:=j) (v:=v) (off:=k0) (cap:=cap-k0) (show p-k0-1<C.length-k0 by omega);rw[T]at y;rw[e2,show((p-k0-1:Nat):Int)=((p-k0:Nat):Int)-1 by omega]at A;have t:=oY (C:=D++C.drop D.length) (J:=J) (i:=p) A_;have u:=oY (C:=D++C.drop D.length) (J:=J) (i:=p-1) A_;rw[aIr A_]at t u;have z:=h;simp only[vI]at z t u;have d:=iR g;by_cases hd:C.getD p 0=C.getD (p-1) 0
  .have q:C.getD (p-1) 0∈C.take p:=by
    have:(C.take p).getD (p-1) 0=C.getD (p-1) 0:=by simp only[List.getD,G8 (show p-1<p by omega)]
    rw[<-this];exact nU (by simp;omega)
   obtain⟨E,l,e,r,H⟩:=aCz G L I f s x5 x6 x7 k (p+1) D S e_ z_ A_ A_ A_ hD (fun x=>by
    rw[d,a_,U_,hm x];constructor;.exact .inl
    .rintro(Q|rfl);.exact Q
     .rw[hd];exact q) h
   rw[show((p+1-k0:Nat):Int)=((p-k0:Nat):Int)+1 by omega]at r;refine⟨E,l,e,aE K _ _ t100L0.eq_1 ?_,H⟩;simp(disch:=omega)only[go_sem,y,A,z,t,u,hd,aC];exact X_ er r
  .have c:=aGt G g A_ hd;have n:D.length<C.length:=A_;have P:=iO (j:=j) (v:=v) (cap:=cap) n;have F:=aIp (C:=D++C.drop D.length) (J:=J) (i:=D.length) (C.getD p 0) A_;rw[aIq _ _ _ n]at F;have w:=aN h;obtain⟨E,l,e,r,H⟩:=aCz (v:=v) (b:=b) (J:=J) G L I f s x5 x6 x7 k (p+1) (D++[C.getD p 0]) (S.set j (.cells v b (((D++[C.getD p 0])++C.drop (D.length+1)).map vI++J))) e_ e_ A_ A_ (by simp;omega)
    (N9.2 ⟨hD,by simp,fun a R x N=>by rw[U_]at N;subst N;exact c a ((hm a).1 R)⟩) (fun x=>by
    rw[d,a_,a_,hm x]) (by
    rw[aM w]
    simp)
   rw[show((p+1-k0:Nat):Int)=((p-k0:Nat):Int)+1 by omega,H_,List.length_singleton,G9,show((D.length+1:Nat):Int)=(D.length:Int)+1 by omega]at r;have o:D.length+1<=((D++C.drop D.length).map vI++J).length:=by rw[H_,L_,m];omega
   simp only[vI]at F o;refine⟨E,l,e,aE K _ _ t100L0.eq_1 ?_,H⟩;simp(disch:=omega)only[go_sem,y,A,P,z,t,u,hd,aC,o,F];exact X_ er r
theorem aLu{j v:Nat}{b:Bool}{C:Ta_}{J:Tn_}(I:C.Pairwise (·<=·))(hn:C.length<=1000000){cap:Nat}(u:C.length<=cap){S:aA}(h:S[j]?=some (.cells v b (C.map vI++J)))(w x5:TV):∀(k i:Nat) (f x4 x6 x7 x8 x9:TV),i+k=C.length->0<i->(C.take i).Pairwise (·<·) ->∃(e:aW) (E:Ta_) (J':Tn_) (z y G T N P H s q:TV),lp' (lim K) t100L1 [.msl j v 0 C.length cap 1,w,j_ i,f,x4,x5,x6,x7,x8,x9] S = .ret (e,[z,y,G,T,N,x5,P,H,s,q],S.set j (.cells v b (E.map vI++J')))/\E.Pairwise (·<·)/\(∀x,x∈E↔x∈C) /\(e=.exit 0/\z=.msl j v 0 E.length cap 1\/e=.ret/\y=.msl j v 0 E.length cap 1)
 |0,i,f,x4,x6,x7,x8,x9,hk,hi,hp=>by obtain rfl:i=C.length:=A_;rw[B9]at hp;refine⟨.exit 0,C,J,.msl j v 0 C.length cap 1,w,j_ C.length,f,x4,z_,x7,x8,x9,aE K _ _ t100L1.eq_1 ?_,hp,fun x=>Iff.rfl,.inl ⟨rfl,rfl⟩⟩;rw[jU h];simp(disch:=omega)only[go_sem]
 |k+1,i,f,x4,x6,x7,x8,x9,hk,hi,hp=>by
  have c:i<C.length:=A_;have Y:=iO (j:=j) (v:=v) (cap:=cap) c;have F:=iO (j:=j) (v:=v) (cap:=cap) (show i-1<C.length by omega);rw[show((i-1:Nat):Int)=(i:Int)-1 by omega]at F;have U:=oY (J:=J) c;have V:=oY (J:=J) (show i-1<C.length by omega);have g:=iR c;have A:=h;simp only[vI]at A U V;by_cases hd:C.getD i 0=C.getD (i-1) 0
  .have t:C.getD (i-1) 0∈C.take i:=by
    have:(C.take i).getD (i-1) 0=C.getD (i-1) 0:=by simp only[List.getD,G8 (show i-1<i by omega)]
    rw[<-this];exact nU (by simp;omega)
   have d:(C.take i).length=i:=by simp;omega
   obtain⟨E,s,q,l1,L,Q,r⟩:=aCz (j:=j) (v:=v) (b:=b) (J:=J) I hn u c w x5 e_ e_ (C.length-(i+1)) (i+1) (C.take i) S x8 x9 A_ A_ A_ hp (fun x=>by
    rw[g,a_,U_];constructor;.exact .inl
    .rintro(h1|rfl);.exact h1
     .rw[hd];exact t) (by rw[d,G1];exact h)
   rw[d,show i+1-i=1 by omega,show((1:Nat):Int)=1 from rfl]at l1;have f1:=wB h _ _ _ (pL (m:=C.length) (cap:=cap) (a:=i) u A_);rw[I_ (show ¬cap=i by omega),A7,I8]at f1;have p:=aN h;have n:(S.set j (.cells v b ((E++C.drop E.length).map vI++J)))[j]?=some _:=aM p _;have l:=uG (D:=E) (C:=C) r;have f2:=wB n _ _ _ (pL (m:=C.length) (cap:=cap) (a:=E.length) u r);obtain⟨J',Z⟩:=aPr (cap:=cap) n (i:=E.length) A_ A_ (cap-E.length);rw[l,K4 rfl,G9]at Z;have R:(S.set j (.cells v b (E.map vI++J')))[j]?=some _:=aM p _;have W:=wB R _ _ _ (uF (m:=C.length) (cap:=cap) (b:=E.length) A_);rw[show(if cap=0 then 0 else 0+0*1)=0 by split<;>rfl,Nat.sub_zero,Nat.sub_zero]at W;refine⟨.ret,E,J',.msl j v 0 C.length cap 1,.msl j v 0 E.length cap 1,j_ (E.length:Nat),.msl j v i (C.length-i) (cap-i) 1,j_ (C.length-i:Nat),e_,e_,s,q,aE K _ _ t100L1.eq_1 ?_,L,Q,.inr ⟨rfl,rfl⟩⟩;simp(disch:=omega)only[go_sem,Y,F,A,U,V,hd,aC,f1];rw[l1];simp(disch:=omega)only[go_sem,f2,fun env=>aLr _ env _ _ _ Z,W]
  .have o:=aGt I c A_ hd;obtain⟨e,E,J',z,y,G,T,N,P,H,s,q,ih,L⟩:=aLu I hn u h w x5 k (i+1) f x4 e_ z_ x8 x9 A_ A_ (by rw[g];exact N9.2 ⟨hp,by simp,fun a ha x hx=>by rw[U_]at hx;subst hx;exact o a ha⟩);rw[show((i+1:Nat):Int)=(i:Int)+1 by omega]at ih;refine⟨e,E,J',z,y,G,T,N,P,H,s,q,aE K _ _ t100L1.eq_1 ?_,L⟩;simp(disch:=omega)only[go_sem,Y,F,A,U,V,hd,aC];exact X_ er ih
theorem bJs{S:aA}{j v:Nat}{b:Bool}{C D:Ta_}{J:Tn_}(n:C.Pairwise (·<=·))(m:C.length<=1000000){cap:Nat}(k:C.length<=cap)(h:S[j]?=some (.cells v b (C.map vI++J)))(g:D.Pairwise (·<·))(i:∀x,x∈D↔x∈C): ∃J',(lim K).call 100 [.msl j v 0 C.length cap 1] S=.ret (.msl j v 0 D.length cap 1,S.set j (.cells v b (D.map vI++J'))):=by
 by_cases h2:C.length<2
 .have e:C=D:=by
   refine oO ?_ g fun x=>(i x).symm;match C,h2 with
   |[],_=>simp
   |[a],_=>simp
  subst e;refine⟨J,aI K _ (fn:=t100) rfl rfl ?_⟩;rw[jU h];have c:((C.length:Nat):Int)<2:=A_;simp(disch:=omega)only[t100,go_sem,c]
 .obtain⟨p,E,J',A,t,z,u,s,y,F,q,w,d,o,f,l⟩:=aLu n m k h k_ z_ (C.length-1) 1 u_ u_ u_ u_ u_ u_ A_ A_ (by
   match C,h2 with
   |a::r,_=>simp)
  rw[show((1:Nat):Int)=1 from rfl]at d;obtain rfl:E=D:=oO o g fun x=>(f x).trans (i x).symm;have c:¬((C.length:Nat):Int)<2:=A_;refine⟨J',aI K _ (fn:=t100) rfl rfl ?_⟩;rcases l with⟨rfl,rfl⟩|⟨rfl,rfl⟩;.simp(disch:=omega)only[t100,go_sem,c];rw[d];simp(disch:=omega)only[go_sem]
  .simp(disch:=omega)only[t100,go_sem,c];rw[d];simp(disch:=omega)only[go_sem]
structure bQc (C D:List Int):Prop where
 rise:D.Pairwise (·<·)
 mem:∀x,x∈D↔x∈C/\0<x
theorem yZ{S:aA}{j v:Nat}{b:Bool}{C D:Ta_}{J:Tn_}(m:C.length<=1000000){cap:Nat}(k:C.length<=cap)(h:S[j]?=some (.cells v b (C.map vI++J)))(t:bQc C D): ∃J',(lim K).call 73 [.msl j v 0 C.length cap 1] S=.ret (.msl j v 0 D.length cap 1,S.set j (.cells v b (D.map vI++J'))):=by have a:=aN h;obtain⟨J1,g⟩:=bQb h m k;have l:=aIs C;have e:(S.set j (.cells v b ((pos C).map vI++J1)))[j]?=some _:=aM a _;have i:=aAo e A_ (cap:=cap) A_;rw[G9]at i;have d:(S.set j (.cells v b ((eG (pos C)).map vI++J1)))[j]?=some _:=aM a _;have f:=uH (pos C);obtain⟨J2,c⟩:=bJs (D:=D) (wW (pos C)) A_ (cap:=cap) A_ d t.rise (fun x=>by rw[t.mem x,(lQ (pos C)).mem_iff];simp[pos]);rw[G9,f]at c;refine⟨J2,aI K _ (fn:=t73) rfl rfl ?_⟩;simp(disch:=omega)only[t73,go_sem,g,aTr,bBz,i,c]
theorem aC0{α:Type}[Inhabited α]{l:List α}{i:Nat}(h:i<l.length):l.drop i=l.getD i default::l.drop (i+1):=by rw[A6 h,W_,D_ h];rfl
def aZ(l:List Int):List (List IV):=TM.one (.int .i64) l
theorem bB0(l:Ta_)(v:Int):aZ l++[[.int .i64 v]]=aZ (l++[v]):=by simp[aZ,TM.one]
theorem aLv{l:Ta_}:aZ l=[]↔l=[]:=by simp[aZ,TM.one]
theorem eK(l:Ta_):(aZ l).length=l.length:=by simp[aZ,TM.one]
theorem nB(l:Ta_):jE 1 (aZ l):=jE.one (fun _=>rfl) l
def tw:List Int->Int->Nat
 |[],_=>0
 |a::r,n=>if a<n then tw r n+1 else 0
theorem bPl:∀(l:Ta_) (n:Int),tw l n<=l.length
 |[],n=>O_ _
 |a::r,n=>by have:=bPl r n;unfold tw;split<;>simp<;>omega
theorem aTs:∀(l:Ta_) (n:Int),∀v∈l.take (tw l n),v<n
 |[],n,v,h=>by simp at h
 |a::r,n,v,h=>by
  unfold tw at h;split at h
  .rw[List.take_succ_cons]at h;rcases J_.1 h with rfl|h;.assumption
   .exact aTs r n v h
  .simp at h
theorem aTt:∀(l:Ta_) (n:Int),l.Pairwise (·<·)->n∉l->∀v∈l.drop (tw l n),n<v
 |[],n,_,_,v,h=>by simp at h
 |a::r,n,hp,hn,v,h=>by
  rw[E6]at hp;simp only[J_,H2]at hn;unfold tw at h;split at h;.rw[J5]at h;exact aTt r n hp.2 hn.2 v h
  .rw[C4]at h;rcases J_.1 h with rfl|h;.omega
   .have:=hp.1 v h;omega
def aPt(l:List Int)(n:Int):List Int:=if n∈l then l else l.take (tw l n)++n::l.drop (tw l n)
theorem bB1(l:Ta_)(n v:Int):v∈aPt l n↔v∈l\/v=n:=by
 unfold aPt;split
 .rename_i h;constructor;.exact .inl
  .rintro(a|rfl);.exact a
   .exact h
 .have:l.take (tw l n)++l.drop (tw l n)=l:=G1 _ _;rw[a_,J_];rw[<-this,a_];rw[G1];constructor
  .rintro(h|h|h);.exact .inl (.inl h)
   .exact .inr h
   .exact .inl (.inr h)
  .rintro((h|h)|h);.exact .inl h
   .exact .inr (.inr h)
   .exact .inr (.inl h)
theorem aWn{l:Ta_}(n:Int)(c:l.Pairwise (·<·)):(aPt l n).Pairwise (·<·):=by
 unfold aPt;split;.exact c
 .rename_i hn;have e:=aTs l n;have g:=aTt l n c hn;rw[N9,E6];refine⟨X8 (List.take_sublist _ _) c,⟨g,X8 (V3 _ _) c⟩,fun a f b d=>?_⟩;rcases J_.1 d with rfl|d;.exact e a f
  .have:=e a f;have:=g b d;omega
theorem bB2(l:Ta_)(n:Int):(aPt l n).length<=l.length+1:=by
 unfold aPt;split;.omega
 .have:=bPl l n;simp;omega
theorem bJt{l ys:Ta_}{t:Tag}(h:l.length+ys.length<=8000000): bA false 1 8 3 (vH 1 3 (aZ l)) (acc 0 (aZ l)) (.iv (.sl t (aZ ys)))=some (acc 0 (aZ (l++ys)),vH 1 3 (aZ (l++ys))):=by have:=bI1 (w:=1) (b:=8) (el:=3) (l:=aZ l) (ys:=aZ ys) (x:=.iv (.sl t (aZ ys))) (fun S=>rO.sl S t _) (nB ys) (nB l) (bR (by rw[eK,eK];omega));rw[this,show aZ l++aZ ys=aZ (l++ys) by simp[aZ,TM.one]]
structure VI where
 op:Int
 d:Int
 a:Int
 b:Int
 im:Int
 lb:Int
 tu:Tag
 us:List Int
 tm:Tag
 mp:List Int
instance:Inhabited VI:=⟨⟨0,0,0,0,0,0,.nil,[],.nil,[]⟩⟩
def aJ(v:VI):List IV:=[.int .i64 v.op,.int .i64 v.d,.int .i64 v.a,.int .i64 v.b,.int .i64 v.im,.int .i64 v.lb,.sl v.tu (TM.one (.int .i64) v.us),.sl v.tm (TM.one (.int .i64) v.mp)]
theorem cV(v:VI):aJ v=[.int .i64 v.op,.int .i64 v.d,.int .i64 v.a,.int .i64 v.b,.int .i64 v.im,.int .i64 v.lb,.sl v.tu (TM.one (.int .i64) v.us),.sl v.tm (TM.one (.int .i64) v.mp)]:=rfl
theorem aS(v:VI):(aJ v).map TV.iv=[j_ v.op,j_ v.d,j_ v.a,j_ v.b,j_ v.im,j_ v.lb,.iv (.sl v.tu (TM.one (.int .i64) v.us)),.iv (.sl v.tm (TM.one (.int .i64) v.mp))]:=rfl
theorem qK:TM.one (IV.int .i64) []=[]:=rfl
def xA(l:List Int)(n:Int):List Int:=if n<=0 then l else aPt l n
def tdy(C:List Int):List Int:=C.foldl xA []
theorem bB3(l:Ta_)(n v:Int):v∈xA l n↔v∈l\/(v=n/\0<n):=by
 unfold xA;split
 .rename_i h;constructor;.exact .inl
  .rintro(a|⟨_,b⟩);.exact a
   .omega
 .rename_i h;rw[bB1];constructor
  .rintro(a|a);.exact .inl a
   .exact .inr ⟨a,by omega⟩
  .rintro(a|⟨a,_⟩);.exact .inl a
   .exact .inr a
theorem aWo{l:Ta_}(n:Int)(h:l.Pairwise (·<·)):(xA l n).Pairwise (·<·):=by
 unfold xA;split;.exact h
 .exact aWn n h
theorem bB4(l:Ta_)(n:Int):(xA l n).length<=l.length+1:=by
 unfold xA;split;.omega
 .exact bB2 l n
theorem aGu:∀(C l:Ta_),l.Pairwise (·<·)->(C.foldl xA l).Pairwise (·<·)/\∀x,x∈C.foldl xA l↔x∈l\/(x∈C/\0<x)
 |[],l,h=>⟨h,fun x=>B_⟩
 |n::C,l,h=>by
  obtain⟨b,c⟩:=aGu C (xA l n) (aWo n h);refine⟨b,fun x=>?_⟩;rw[List.foldl_cons,c x,bB3,J_];constructor
  .rintro((h3|⟨rfl,a⟩)|⟨h3,a⟩);.exact .inl h3
   .exact .inr ⟨.inl rfl,a⟩
   .exact .inr ⟨.inr h3,a⟩
  .rintro(h3|⟨rfl|h3,a⟩);.exact .inl (.inl h3)
   .exact .inl (.inr ⟨rfl,a⟩)
   .exact .inr ⟨h3,a⟩
theorem aLw:∀(C l:Ta_),(C.foldl xA l).length<=l.length+C.length
 |[],l=>O_ _
 |n::C,l=>by have a:=aLw C (xA l n);have b:=bB4 l n;rw[List.foldl_cons,List.length_cons];omega
theorem jM(C:Ta_):bQc C (tdy C):=by obtain⟨a,b⟩:=aGu C [] .nil;exact⟨a,fun x=>by rw[show x∈tdy C↔_ from b x];simp⟩
theorem uJ(C:Ta_):(tdy C).length<=C.length:=by have:=aLw C [];simpa[tdy] using this
theorem aIt{C:Ta_}{x:Int}(h:x∈tdy C):0<x:=((jM C).mem x).1 h |>.2
def bF(v:VI):List Int :=
 if(1<=v.op/\v.op<=14)\/(25<=v.op/\v.op<=31)then tdy [v.a,v.b]
 else if(15<=v.op/\v.op<=24/\v.op≠23)\/v.op=64\/v.op=74 then tdy [v.a]
 else if v.op=67\/v.op=68\/v.op=72 then tdy (v.us++[26])else []
def dP:List Int:=List.map (fun n:Nat=>(n:Int)+1) (List.range 26)
def aY(v:VI):List Int :=
 if(1<=v.op/\v.op<=24)\/v.op=64\/(69<=v.op/\v.op<=71)\/v.op=73 then tdy [v.d]
 else if v.op=67 then tdy (dP++[31,v.d])else []
theorem bV0(a:Int):tdy [a]=xA [] a:=rfl
def uI(n:Nat):TV:=.iv (.int .u64 (n:Int))
theorem sF{W:Tc_}{i:Nat}(h:i<W.length):sub (W.map uI) i 1=some [uI (W.getD i 0)]:=by simp only[sub,L_,show i+1<=W.length by omega,↓reduceIte];rw[A6 (by simp;omega)];simp[List.getD,D_ h]
theorem aPu{W:Tc_}{i:Nat}(x:Nat)(h:i<W.length):put (W.map uI) i [uI x]=(W.set i x).map uI:=by unfold put;rw[List.map_set,K9,K_ (by simpa using h)];simp
def bit(W:List Nat)(r:Nat):Bool:=(W.getD (r / 64) 0).testBit (r % 64)
structure WOK (m:Nat) (W:List Nat):Prop where
 len:W.length=m
 lt:∀x∈W,x<18446744073709551616
theorem WOK.get{m:Nat}{W:Tc_}(h:WOK m W)(i:Nat):W.getD i 0<18446744073709551616:=by
 rcases D2 i W.length with a|a;.simp only[List.getD,D_ a,Option.getD_some];exact h.lt _ (B8 _)
 .simp[List.getD,B5 a]
theorem WOK.set{m:Nat}{W:Tc_}(h:WOK m W)(i x:Nat)(b:x<18446744073709551616):WOK m (W.set i x) :=
 ⟨by rw[F6,h.len],fun y c=>by
  rcases V1 c with a|rfl;.exact h.lt y a
  .exact b⟩
theorem WOK.zero(m:Nat):WOK m (List.replicate m 0):=⟨by simp,fun x a=>by rw[K1 a];decide⟩
theorem bB5(m r:Nat):bit (List.replicate m 0) r=false:=by
 unfold bit;have:(List.replicate m 0).getD (r / 64) 0=0:=by
  rcases D2 (r / 64) m with h|h;.simp[List.getD,h]
  .rw[List.getD,B5 (by simpa using h)];rfl
 rw[this];exact Q7 _
theorem aC1{W:Tc_}{i j x:Nat}(h:i<W.length):(W.set i x).getD j 0=if j=i then x else W.getD j 0:=by
 simp only[List.getD,V5];by_cases e:i=j;.subst e;simp[h]
 .rw[I_ e,I_ (B0 e)]
theorem aPv{a b:Nat}(c:a<18446744073709551616)(d:b<18446744073709551616):IntKind.u64.wrap (bOr 64 (a:Int) (b:Int))=((a ||| b:Nat):Int):=by have h:a ||| b<2 ^ 64:=Nat.or_lt_two_pow (by simpa using c) (by simpa using d);unfold bOr;rw[BitVec.toNat_or,kI ⟨by omega,by norm_cast⟩,kI ⟨by omega,by norm_cast⟩,Int.toNat_natCast,Int.toNat_natCast,qG];omega
def lS(a b:Nat):Nat:=(BitVec.ofNat 64 a &&& ~~~ BitVec.ofNat 64 b).toNat
theorem wC(a b:Nat):lS a b<18446744073709551616:=(BitVec.ofNat 64 a &&& ~~~ BitVec.ofNat 64 b).isLt
theorem aLx(a b i:Nat)(c:i<64):(lS a b).testBit i=(a.testBit i&&!b.testBit i):=by unfold lS;rw[BitVec.testBit_toNat,BitVec.getLsbD_and,BitVec.getLsbD_not,Y0,Y0];simp[c]
theorem aPw(a b:Nat):IntKind.u64.wrap (aCt 64 (a:Int) (b:Int))=((lS a b:Nat):Int):=by
 have h:=wC a b;unfold aCt;rw[BitVec.ofInt_natCast,BitVec.ofInt_natCast,qG];.rfl
 .exact⟨by omega,by unfold lS at h;omega⟩
theorem aLy(p:Nat):((p:Int).tdiv 64)=((p / 64:Nat):Int):=by rw[Int.tdiv_eq_ediv_of_nonneg A_];omega
theorem bB6(p:Nat):((p:Int).tmod 64)=((p % 64:Nat):Int):=by rw[Int.tmod_eq_emod_of_nonneg A_];omega
theorem bJu{q:Nat}(b:q<64){inst:Decidable (((q:Nat):Int).toNat<=64)}:IntKind.u64.wrap (1*2 ^ (@ite Nat (((q:Nat):Int).toNat<=64) inst ((q:Nat):Int).toNat 64))=((2 ^ q:Nat):Int):=by
 have h:2 ^ q<18446744073709551616:=Y6 (n:=64) (a:=2) C_ b;have e:((2:Int) ^ q)=((2 ^ q:Nat):Int):=by push_cast;rfl
 rw[K_ A_,Int.toNat_natCast,Int.one_mul,e];generalize 2 ^ q=x at *
 rw[qG A_]
theorem aPx{q:Nat}(a:q<64):TM.binOp .shl (.iv (.int .u64 1)) (j_ ((q:Nat):Int))=some (.int .u64 ((2 ^ q:Nat):Int)):=by rw[TM.aIa,I_ A_];have:=bJu a (inst:=Nat.decLe _ _);show some (IV.int .u64 (IntKind.u64.wrap (1*2 ^ (if((q:Nat):Int).toNat<=64 then((q:Nat):Int).toNat else 64))))=_;rw[this]
theorem bJv{q i:Nat}:(2 ^ q).testBit i=decide (q=i):=S9
theorem bB7{q:Nat}(h:q<64):2 ^ q<18446744073709551616:=Y6 (n:=64) (a:=2) C_ h
theorem aIu{a b:Nat}(d:a<18446744073709551616)(c:b<18446744073709551616):a ||| b<18446744073709551616:=Nat.or_lt_two_pow (n:=64) d c
theorem bT0{bytes m n:Nat}(a:eA n bytes=true):mkV [.int .u64 0] bytes m (j_ n) (j_ n)=some (.msl m 0 0 n n 1,.cells 0 false ((List.replicate n 0).map uI)):=by
 have b:bC (List.replicate n ([IV.int .u64 0].map TV.iv))=(List.replicate n 0).map uI:=by rw[aO9];simp[aFp,uI]
 have:=bNo [.int .u64 0] bytes m .i64 .i64 n n ⟨by omega,by omega,by rw[Int.toNat_natCast];exact a⟩;rw[Int.toNat_natCast,b]at this;exact this
theorem bJw{W:Tc_}{p r:Nat}(h:p / 64<W.length):bit (W.set (p / 64) (W.getD (p / 64) 0 ||| 2 ^ (p % 64))) r=(bit W r||decide (r=p)):=by
 unfold bit;rw[aC1 h];by_cases e:r / 64=p / 64;.rw[K_ e,O5,bJv,e];congr 1;have:(p % 64=r % 64)↔r=p:=A_;simp only[this]
 .rw[I_ e];have:¬r=p:=by rintro rfl;exact e rfl
  simp[this]
theorem aPy{j m a:Nat}(d:a<=1000000)(N:(a+63) / 64=m)(t:Tag)(l:Ta_)(Q:l.length<=2000000)(c:∀x∈l,0<=x)(x2:TV):∀(k i:Nat) (W:Tc_) (S:aA) (x4 x8 x9:TV),i+k=l.length->WOK m W->S[j]?=some (.cells 0 false (W.map uI)) ->∃(W':Tc_) (u y w:TV),lp' (lim K) t55L0 [j_ a,.iv (.sl t (TM.one (.int .i64) l)),x2,.msl j 0 0 m m 1,x4,.iv (.sl t (TM.one (.int .i64) l)),j_ l.length,j_ i,x8,x9] S = .ret (.exit 0,[j_ a,.iv (.sl t (TM.one (.int .i64) l)),x2,.msl j 0 0 m m 1,u,.iv (.sl t (TM.one (.int .i64) l)),j_ l.length,j_ l.length,y,w],S.set j (.cells 0 false (W'.map uI))) /\WOK m W'/\∀r:Nat,bit W' r=true↔bit W r=true\/((r:Int)∈l.drop i/\r<a)
 |0,i,W,S,x4,x8,x9,hk,hW,h=>by obtain rfl:i=l.length:=A_;refine⟨W,x4,z_,x9,aE K _ _ t55L0.eq_1 ?_,hW,fun r=>B_⟩;rw[jU h];simp(disch:=omega)only[go_sem]
 |k+1,i,W,S,x4,x8,x9,hk,hW,h=>by
  have s:i<l.length:=A_;have e:=pI (f:=IV.int .i64) (t:=t) (l:=l) (i:=(i:Int)) A_;rw[Int.toNat_natCast]at e;have q:=aC0 s;have H:0<=l.getD i default:=c _ (by simp only[List.getD,D_ s,Option.getD_some];exact B8 _);obtain⟨p,V⟩:=H3 H;rw[V]at e q;by_cases hpr:p<a
  .have E:p / 64<m:=A_;have n:p / 64<W.length:=by rw[hW.len];exact E
   have T:=iO (j:=j) (v:=0) (cap:=m) E;have R:=sF n;have J:p % 64<64:=X6 _ C_;have I:=aIu (hW.get (p / 64)) (bB7 J);have Y:=aLy p;have e2:=bB6 p;have e3:=aPx J;have U:=aPv (hW.get (p / 64)) (bB7 J);have P:=aPu (W.getD (p / 64) 0 ||| 2 ^ (p % 64)) n;have F:=aN h;obtain⟨W',u,y,w,D,o,G⟩:=aPy d N t l Q c x2 k (i+1) _ (S.set j (.cells 0 false ((W.set (p / 64) (W.getD (p / 64) 0 ||| 2 ^ (p % 64))).map uI))) (j_ p) e_ e_ A_ (hW.set (p / 64) _ I) (aM F _);rw[show((i+1:Nat):Int)=(i:Int)+1 by omega,G9]at D;have z:p / 64+1<=(W.map uI).length:=by rw[L_];omega
   have L:=h;simp only[uI]at R P L z;refine⟨W',u,y,w,aE K _ _ t55L0.eq_1 ?_,o,fun r=>?_⟩
   .generalize hA:W.getD (p / 64) 0=A at *
    generalize hB:(2 ^ (p % 64):Nat)=B at *
    generalize hC:A ||| B=C at *
    simp(disch:=omega)only[go_sem,e,T,L,R,Y,e2,e3,U,P,z,aC];exact X_ er D
   .rw[G r,bJw n,q,J_,D3,q_];constructor
    .rintro((b|rfl)|⟨b,g⟩);.exact .inl b
     .exact .inr ⟨.inl rfl,hpr⟩
     .exact .inr ⟨.inr b,g⟩
    .rintro(b|⟨b|b,g⟩);.exact .inl (.inl b)
     .exact .inl (.inr A_)
     .exact .inr ⟨b,g⟩
  .obtain⟨W',u,y,w,D,o,G⟩:=aPy d N t l Q c x2 k (i+1) W S (j_ p) e_ z_ A_ hW h;rw[show((i+1:Nat):Int)=(i:Int)+1 by omega]at D;refine⟨W',u,y,w,aE K _ _ t55L0.eq_1 ?_,o,fun r=>?_⟩;.simp(disch:=omega)only[go_sem,e,aC];exact X_ er D
   .rw[G r,q,J_];constructor
    .rintro(b|⟨b,g⟩);.exact .inl b
     .exact .inr ⟨.inr b,g⟩
    .rintro(b|⟨b|b,g⟩);.exact .inl b
     .omega
     .exact .inr ⟨b,g⟩
theorem aC2{a:Nat}(b:a<=1000000)(t:Tag)(l:Ta_)(j:l.length<=2000000)(c:∀x∈l,0<=x)(S:aA): ∃W:List Nat,(lim K).call 55 [j_ a,.iv (.sl t (TM.one (.int .i64) l))] S=.ret (.msl S.length 0 0 ((a+63) / 64) ((a+63) / 64) 1,S++[.cells 0 false (W.map uI)]) /\WOK ((a+63) / 64) W/\∀r:Nat,bit W r=true↔(r:Int)∈l/\r<a:=by
 generalize hm:(a+63) / 64=m;have i:(S++[.cells 0 false ((List.replicate m 0).map uI)])[S.length]?=some (.cells 0 false ((List.replicate m 0).map uI)):=B_;obtain⟨W,o,k,p,e,g,h⟩:=aPy b hm t l j c k_ l.length 0 (List.replicate m 0) _ u_ u_ u_ A_ (WOK.zero m) i;rw[n0_,E3 _ _ (O_ _),M8,List.set_cons_zero]at e;have f:=aLy (a+63);rw[hm,show((a+63:Nat):Int)=(a:Int)+64-1 by omega]at f;have d:=bT0 (bytes:=8) (m:=S.length) (n:=m) (bR A_);refine⟨W,aI K _ (fn:=t55) rfl rfl ?_,g,fun r=>?_⟩;.simp(disch:=omega)only[t55,go_sem,aC,f,d];rw[e];simp(disch:=omega)only[go_sem]
 .rw[h r,bB5,C4];simp
theorem bJx:∀x:Nat,x≠0->∃k y,x=2 ^ k*(2*y+1):=by
 intro x;induction x using Nat.strongRecOn with
 |ind x ih =>
  intro h;by_cases e:x % 2=1;.exact⟨0,x / 2,by rw[Nat.pow_zero,Nat.one_mul];omega⟩
  .obtain⟨k,y,a⟩:=ih (x / 2) A_ A_;refine⟨k+1,y,?_⟩;rw[Nat.pow_succ];have:x=2*(x / 2):=A_;rw[this,a];rw[show 2 ^ k*2*(2*y+1)=2*(2 ^ k*(2*y+1)) by rw[Nat.mul_comm (2 ^ k) 2,Nat.mul_assoc]]
theorem bQd(y j:Nat):(2*y+1).testBit j=if j=0 then true else y.testBit (j-1):=by
 cases j with
 |zero=>rw[K_ rfl,Nat.testBit_zero];simp
 |succ j=>rw[I_ A_,Nat.testBit_succ,show(2*y+1) / 2=y by omega];rfl
theorem bJy(y j:Nat):(2*y).testBit j=if j=0 then false else y.testBit (j-1):=by
 cases j with
 |zero=>rw[K_ rfl,Nat.testBit_zero];simp
 |succ j=>rw[I_ A_,Nat.testBit_succ,show(2*y) / 2=y by omega];rfl
theorem bJz(k y j:Nat):(2 ^ k*(2*y+1)).testBit j=if j<k then false else if j=k then true else y.testBit (j-k-1):=by
 have h:=T0 (2*y+1) (b:=0) (i:=k) (R5 k) j;rw[Nat.add_zero]at h;rw[h];by_cases e:j<k;.rw[K_ e,K_ e];exact Q7 _
 .rw[I_ e,I_ e,bQd];by_cases e2:j=k;.rw[K_ A_,K_ e2]
  .rw[I_ A_,I_ e2]
theorem bPm(k y j:Nat):(2 ^ k*(2*y+1)-1).testBit j=if j<k then true else if j=k then false else y.testBit (j-k-1):=by
 have a:=R5 k;have e:2 ^ k*(2*y+1)-1=2 ^ k*(2*y)+(2 ^ k-1):=by rw[Nat.mul_add,I8];omega
 have h:=T0 (2*y) (b:=2 ^ k-1) (i:=k) A_ j;rw[e,h];by_cases e:j<k;.rw[K_ e,K_ e,Nat.testBit_two_pow_sub_one];simp[e]
 .rw[I_ e,I_ e,bJy];by_cases e2:j=k;.rw[K_ A_,K_ e2]
  .rw[I_ A_,I_ e2]
theorem bJ0(k y:Nat)(g:2 ^ k*(2*y+1)<2 ^ 64):(2 ^ k*(2*y+1)) &&& (2 ^ 64-2 ^ k*(2*y+1))=2 ^ k:=by
 have c:=R5 k;have d:0<2 ^ k*(2*y+1):=Nat.mul_pos c A_;apply Y5;intro j;have a:=Nat.testBit_two_pow_sub_succ (x:=2 ^ k*(2*y+1)-1) (n:=64) A_ j;rw[show 2 ^ k*(2*y+1)-1+1=2 ^ k*(2*y+1) by omega]at a;have b:k<64:=by
  rcases D2 k 64 with h|h;.exact h
  .have f:=O4 (n:=2) C_ h;have h3:2 ^ k*1<=2 ^ k*(2*y+1):=Z1 _ A_;omega
 rw[X7,a,bJz,bPm,S9];by_cases e:j<k;.rw[K_ e,K6];exact(l_ A_).symm
 .rw[I_ e,I_ e];by_cases e2:j=k;.subst e2;simp[b]
  .rw[I_ e2,I_ e2,l_ (show ¬k=j by omega)];cases y.testBit (j-k-1)<;>simp
theorem aPz{k y:Nat}(b:2 ^ k*(2*y+1)<18446744073709551616):k<64:=by
 rcases D2 k 64 with h|h;.exact h
 .have a:=O4 (n:=2) C_ h;have h3:2 ^ k*1<=2 ^ k*(2*y+1):=Z1 _ A_;omega
theorem aC3(k y j:Nat):((2 ^ k*(2*y+1)) &&& (2 ^ k*(2*y+1)-1)).testBit j=(decide (k<j)&&(2 ^ k*(2*y+1)).testBit j):=by
 rw[X7,bJz,bPm];by_cases e:j<k;.rw[K_ e,K_ e];simp
 .rw[I_ e,I_ e];by_cases e2:j=k;.subst e2;simp
  .rw[I_ e2,I_ e2,V_ (show k<j by omega)];simp
theorem bB8{a b m:Nat}{W V:Tc_}{S:aA}(G:m<=1000000)(C:S[a]?=some (.cells 0 false (W.map uI)))(D:S[b]?=some (.cells 0 false (V.map uI)))(s:W.length=m)(p:V.length=m)(x2 x4:TV):∀(k i:Nat) (l x7 x8:TV),i+k=m->(∀q,q<i->W.getD q 0=V.getD q 0) ->∃(f:aW) (n w r t u:TV),lp' (lim K) t80L0 [.msl a 0 0 m m 1,.msl b 0 0 m m 1,x2,l,x4,j_ m,j_ i,x7,x8] S = .ret (f,[.msl a 0 0 m m 1,.msl b 0 0 m m 1,n,w,x4,j_ m,r,t,u],S) /\(f=.exit 0/\(∀q,q<m->W.getD q 0=V.getD q 0)\/f=.ret/\n=z_/\W≠V)
 |0,i,l,x7,x8,hk,hq=>by obtain rfl:i=m:=A_;refine⟨.exit 0,x2,l,j_ i,z_,x8,aE K _ _ t80L0.eq_1 ?_,.inl ⟨rfl,hq⟩⟩;simp(disch:=omega)only[go_sem]
 |k+1,i,l,x7,x8,hk,hq=>by
  have g:i<m:=A_;have z:=iO (j:=a) (v:=0) (cap:=m) g;have A:=iO (j:=b) (v:=0) (cap:=m) g;have o:=sF (W:=W) (i:=i) A_;have x:=sF (W:=V) (i:=i) A_;have d:=C;have c:=D;simp only[uI]at o x d c;by_cases e:W.getD i 0=V.getD i 0
  .obtain⟨f,n,w,r,t,u,E,F⟩:=bB8 G C D s p x2 x4 k (i+1) (j_ i) e_ z_ A_ (fun q H=>by
    rcases D2 q i with y|y;.exact hq q y
    .obtain rfl:q=i:=A_;exact e)
   rw[show((i+1:Nat):Int)=(i:Int)+1 by omega]at E;refine⟨f,n,w,r,t,u,aE K _ _ t80L0.eq_1 ?_,F⟩;rw[e]at o;simp(disch:=omega)only[go_sem,z,A,d,c,o,x,aC];exact X_ er E
  .refine⟨.ret,z_,j_ i,j_ i,e_,e_,aE K _ _ t80L0.eq_1 ?_,.inr ⟨rfl,rfl,fun h=>e (by rw[h])⟩⟩;have e':¬((W.getD i 0:Nat):Int)=((V.getD i 0:Nat):Int):=A_;simp(disch:=omega)only[go_sem,z,A,d,c,o,x,e']
theorem bQe{a b m:Nat}{W V:Tc_}{S:aA}(l:m<=1000000)(i:S[a]?=some (.cells 0 false (W.map uI)))(n:S[b]?=some (.cells 0 false (V.map uI)))(g:W.length=m)(d:V.length=m): (lim K).call 80 [.msl a 0 0 m m 1,.msl b 0 0 m m 1] S=.ret (.iv (.bool (decide (W=V))),S):=by
 obtain⟨o,t,r,s,u,p,f,c⟩:=bB8 l i n g d z_ z_ m 0 u_ u_ u_ A_ (fun q h=>A_);rw[n0_]at f;rcases c with⟨rfl,c⟩|⟨rfl,rfl,c⟩
 .have e:W=V:=by apply N3 A_;intro q k j;have:=c q A_;simpa[List.getD,D_ k,D_ j] using this
  rw[V_ e];refine aI K _ (fn:=t80) rfl rfl ?_;simp(disch:=omega)only[t80,go_sem];rw[f];simp(disch:=omega)only[go_sem]
 .rw[l_ c];refine aI K _ (fn:=t80) rfl rfl ?_;simp(disch:=omega)only[t80,go_sem];rw[f];simp(disch:=omega)only[go_sem]
def dbm(k:Nat):Nat:=(2 ^ k*285870213051353865) % 18446744073709551616
def bT1:List Nat:=[0,1,56,2,57,49,28,3,61,58,42,50,38,29,17,4,62,47,59,36,45,43,51,22,53,39,33,30,24,18,12,5,63,55,48,27,60,41,37,16,46,35,44,21,52,32,23,11,54,26,40,15,34,20,31,10,25,14,19,9,13,8,7,6]
theorem bT2:g0=bT1.map fun n:Nat=>IV.int .u8 (n:Int):=rfl
theorem bJ1(k:Nat)(c:k<64):dbm k / 288230376151711744<64/\g0[dbm k / 288230376151711744]?=some (.int .u8 (k:Int)):=by
 have key:∀k<64,dbm k / 288230376151711744<64/\bT1[dbm k / 288230376151711744]?=some k:=by decide +kernel
 obtain⟨a,b⟩:=key k c;refine⟨a,?_⟩;rw[bT2,p_,b];rfl
theorem gl0{i k:Nat}(b:i<64)(h:g0[i]?=some (.int .u8 (k:Int))):∃p,ixA 64 1 (bF3 (K.glob 0)) (.iv (.int .u64 (i:Int)))=some p/\∀env S,bP env S p 1=some [.iv (.int .u8 (k:Int))]:=by
 have c:g0.length=64:=rfl;have a:i<g0.length:=A_;refine⟨.iv (.cp (g0.drop i)),?_,fun env S=>?_⟩;.rw[aV9,K_ A_,Int.toNat_natCast,I8];show(if i<=g0.length then some (TV.iv (.cp (g0.drop i)))else none)=_;rw[K_ A_]
 .rw[aO6];unfold sub;rw[K_ (by rw[W6];omega),C4,A6 a];rw[D_ a]at h;rw[D6 h];rfl
theorem bQf{k y:Nat}(c:2 ^ k*(2*y+1)<18446744073709551616):TM.Pure K 81 [.iv (.int .u64 ((2 ^ k*(2*y+1):Nat):Int))] (j_ (k:Int)):=by
 have i:=aPz c;have a:=bJ0 k y c;have l:=R5 k;have f:0<2 ^ k*(2*y+1):=Nat.mul_pos l A_;obtain⟨h,e⟩:=bJ1 k i;obtain⟨p,m,o⟩:=gl0 h e;have q:dbm k<18446744073709551616:=X6 _ C_;have g:TM.binOp .mul (.iv (.int .u64 ((2 ^ k:Nat):Int))) (.iv (.int .u64 285870213051353865))=some (.int .u64 ((dbm k:Nat):Int)):=by rw[TM.aH9];congr 2
 generalize dbm k=D at *
 generalize hX:2 ^ k*(2*y+1)=X at *
 generalize (2 ^ k:Nat)=Z at *
 have n:TM.unOp .neg (.iv (.int .u64 (X:Int)))=some (.int .u64 ((2 ^ 64-X:Nat):Int)):=by rw[aN9];congr 2;show(0-(X:Int)) % 18446744073709551616=_;omega
 have j:TM.binOp .and (.iv (.int .u64 (X:Int))) (.iv (.int .u64 ((2 ^ 64-X:Nat):Int)))=some (.int .u64 ((Z:Nat):Int)):=by
  rw[TM.aAf];congr 2;have r:Z<18446744073709551616:=by rw[<-a];exact Nat.lt_of_le_of_lt Nat.and_le_left c
  show IntKind.u64.wrap ((((BitVec.ofInt 64 (X:Int)) &&& (BitVec.ofInt 64 ((2 ^ 64-X:Nat):Int))).toNat:Nat):Int)=_;rw[BitVec.toNat_and,kI ⟨by omega,by norm_cast⟩,kI ⟨by omega,by omega⟩,Int.toNat_natCast,Int.toNat_natCast,a,qG A_]
 have d:TM.binOp .shr (.iv (.int .u64 ((D:Nat):Int))) (.iv (.int .u64 58))=some (.int .u64 ((D / 288230376151711744:Nat):Int)):=by rw[TM.aIb,I_ C_];congr 2;show((D:Nat):Int).fdiv 288230376151711744=_;rw[Int.fdiv_eq_ediv_of_nonneg _ C_];omega
 refine aT t81 rfl rfl ?_;have b:¬((X:Nat):Int)=0:=A_;simp(disch:=omega)only[t81,go_sem,b,n,j,g,d,m,o,aC]
def uV(n:Nat):IV:=.int .u64 (n:Int)
def kL(x:Nat):List Int:=((List.range 64).filter x.testBit).map fun n:Nat=>(n:Int)
theorem nP(x:Nat)(v:Int):v∈kL x↔∃n:Nat,v=n/\n<64/\x.testBit n=true:=by
 simp only[kL,A0,D1,C5];constructor;.rintro⟨n,⟨a,b⟩,rfl⟩;exact⟨n,rfl,a,b⟩
 .rintro⟨n,rfl,a,b⟩;exact⟨n,⟨a,b⟩,rfl⟩
theorem wD(x:Nat):(kL x).Pairwise (·<·):=by refine V2 _ (R:=(·<·)) (fun a b h=>A_) (List.Pairwise.filter _ List.pairwise_lt_range)
theorem aP0:kL 0=[]:=by
 unfold kL;rw[H6.2];.rfl
 .intro a _;simp
theorem aWp{k y:Nat}(e:2 ^ k*(2*y+1)<18446744073709551616):kL (2 ^ k*(2*y+1))=(k:Int)::kL ((2 ^ k*(2*y+1)) &&& (2 ^ k*(2*y+1)-1)):=by
 have d:=aPz e;refine oO (wD _) ?_ fun v=>?_;.rw[E6];refine⟨fun a f=>?_,wD _⟩;obtain⟨n,rfl,c,b⟩:=(nP _ _).1 f;rw[aC3]at b;simp only[P_,q_]at b;omega
 .rw[J_,nP,nP];constructor
  .rintro⟨n,rfl,c,b⟩;rcases M7 n k with h|h|h;.rw[bJz,K_ h]at b;cases b
   .exact .inl A_
   .refine .inr ⟨n,rfl,c,?_⟩;rw[aC3,b,V_ h];rfl
  .rintro(rfl|⟨n,rfl,c,b⟩);.exact⟨k,rfl,d,by rw[bJz,I_ A_,K_ rfl]⟩
   .rw[aC3]at b;simp only[P_]at b;exact⟨n,rfl,c,b.2⟩
theorem aTu{k:Nat}(j:k<=100000)(x0 x4 x5 x6 x7:TV):∀(n x:Nat) (out:Ta_) (x8:TV),x<=n->x<18446744073709551616->out.length+(kL x).length<=7000000 ->∃b:TV,lp' (lim K) t57L0 [x0,acc 0 (aZ out),j_ k,.iv (.int .u64 x),x4,x5,x6,x7,x8] (vH 1 3 (aZ out)) = .ret (.exit 2,[x0,acc 0 (aZ (out++(kL x).map fun v=>64*(k:Int)+v)),j_ k,.iv (.int .u64 0),x4,x5,x6,x7,b],vH 1 3 (aZ (out++(kL x).map fun v=>64*(k:Int)+v)))
 |n,x,out,x8,hn,hx,ho=>by
  by_cases h0:x=0;.subst h0;rw[aP0,C3,A4];refine⟨z_,aE K _ _ t57L0.eq_1 ?_⟩;simp(disch:=omega)only[go_sem,Int.natCast_zero]
  .obtain⟨q,y,e⟩:=bJx x h0;have d:=aWp (k:=q) (y:=y) (by rw[<-e];exact hx);have a:=bQf (k:=q) (y:=y) (by rw[<-e];exact hx);have p:=aPz (k:=q) (y:=y) (by rw[<-e];exact hx);rw[<-e]at d a;have h:x &&& (x-1)<=x-1:=Nat.and_le_right;match n,hn with
   |0,hn=>omega
   |n+1,hn =>
    have i:(kL x).length=(kL (x &&& (x-1))).length+1:=by rw[d,List.length_cons]
    obtain⟨b,g⟩:=aTu j x0 x4 x5 x6 x7 n (x &&& (x-1)) (out++[64*(k:Int)+q]) e_ A_ A_ (by rw[H_,List.length_singleton];omega);have f:=bJt (l:=out) (ys:=[64*(k:Int)+q]) (t:=.full) (by simp;omega);rw[show aZ [64*(k:Int)+q]=[[.int .i64 (64*(k:Int)+q)]] from rfl]at f;have o:TM.binOp .sub (.iv (.int .u64 (x:Int))) (.iv (.int .u64 1))=some (.int .u64 ((x-1:Nat):Int)):=by rw[TM.aH8];congr 2;rw[qG A_];omega
    have m:TM.binOp .and (.iv (.int .u64 (x:Int))) (.iv (.int .u64 ((x-1:Nat):Int)))=some (.int .u64 ((x &&& (x-1):Nat):Int)):=by rw[TM.aAf];congr 2;show IntKind.u64.wrap ((((BitVec.ofInt 64 (x:Int)) &&& (BitVec.ofInt 64 ((x-1:Nat):Int))).toNat:Nat):Int)=_;rw[BitVec.toNat_and,kI ⟨by omega,by omega⟩,kI ⟨by omega,by omega⟩,Int.toNat_natCast,Int.toNat_natCast,qG A_]
    rw[d,Q_];rw[A9,List.singleton_append]at g;refine⟨b,aE K _ _ t57L0.eq_1 ?_⟩;have c:¬(x:Int)=0:=A_;generalize hO:(out++((64*(k:Int)+q)::(kL (x &&& (x-1))).map fun v:Int=>64*(k:Int)+v))=O at *
    generalize hP:out++[64*(k:Int)+q]=P at *
    simp(disch:=omega)only[go_sem,c,aD a,aC,f,o,m];exact X_ er g
def wlI:Nat->List Nat->List Int
 |_,[]=>[]
 |k,x::r=>(kL x).map (fun v:Int=>64*(k:Int)+v)++wlI (k+1) r
theorem aGv(x:Nat):(kL x).length<=64:=by unfold kL;rw[L_];exact C0 (D8 _ _) B_
theorem aTv:∀(k:Nat) (W:Tc_),(wlI k W).length<=64*W.length
 |_,[]=>by simp[wlI]
 |k,x::r=>by have a:=aTv (k+1) r;have b:=aGv x;rw[wlI,H_,L_,List.length_cons];omega
theorem aIv:∀(k:Nat) (W:Tc_) (v:Int),v∈wlI k W↔∃(i n:Nat),v=64*((k+i:Nat):Int)+n/\n<64/\(W.getD i 0).testBit n=true
 |k,[],v=>by simp[wlI,List.getD]
 |k,x::r,v=>by
  rw[wlI,a_,aIv (k+1) r v,A0];constructor
  .rintro(⟨b,d,rfl⟩|⟨i,n,rfl,a,c⟩);.obtain⟨n,rfl,a,c⟩:=(nP _ _).1 d;exact⟨0,n,by simp,a,by simpa[List.getD] using c⟩
   .exact⟨i+1,n,by omega,a,by simpa[List.getD] using c⟩
  .rintro⟨i,n,rfl,a,c⟩;cases i with
   |zero=>exact .inl ⟨n,(nP _ _).2 ⟨n,rfl,a,by simpa[List.getD] using c⟩,by simp⟩
   |succ i=>exact .inr ⟨i,n,by omega,a,by simpa[List.getD] using c⟩
theorem aC4:∀(k:Nat) (W:Tc_),(wlI k W).Pairwise (·<·)
 |_,[]=>by simp[wlI]
 |k,x::r=>by rw[wlI,N9];refine⟨V2 _ (fun a b h=>A_) (wD x),aC4 (k+1) r,fun a e b f=>?_⟩;obtain⟨c,d,rfl⟩:=A0.1 e;obtain⟨n,rfl,g,l⟩:=(nP _ _).1 d;obtain⟨i,m,rfl,h3,j⟩:=(aIv _ _ _).1 f;omega
theorem bB9(W:Tc_)(v:Int):v∈wlI 0 W↔∃n:Nat,v=n/\bit W n=true:=by
 rw[aIv];constructor;.rintro⟨i,n,rfl,b,a⟩;refine⟨64*i+n,by omega,?_⟩;unfold bit;rw[show(64*i+n) / 64=i by omega,show(64*i+n) % 64=n by omega];exact a
 .rintro⟨n,rfl,h⟩;exact⟨n / 64,n % 64,by omega,X6 _ C_,h⟩
theorem aTw(t:Tag)(W:Tc_)(g:∀x∈W,x<18446744073709551616)(j:W.length<=100000):∀(k i:Nat) (out:Ta_) (x2 c x7 x8:TV),i+k=W.length->out.length<=64*i ->∃(u p w d:TV),lp' (lim K) t57L1 [.iv (.sl t (TM.one uV W)),acc 0 (aZ out),x2,c,.iv (.sl t (TM.one uV W)),j_ W.length,j_ i,x7,x8] (vH 1 3 (aZ out)) = .ret (.exit 0,[.iv (.sl t (TM.one uV W)),acc 0 (aZ (out++wlI i (W.drop i))),u,p,.iv (.sl t (TM.one uV W)),j_ W.length,j_ W.length,w,d],vH 1 3 (aZ (out++wlI i (W.drop i))))
 |0,i,out,x2,c,x7,x8,hk,ho=>by obtain rfl:i=W.length:=A_;rw[E0,wlI,A4];refine⟨x2,c,z_,x8,aE K _ _ t57L1.eq_1 ?_⟩;simp(disch:=omega)only[go_sem]
 |k+1,i,out,x2,c,x7,x8,hk,ho=>by
  have b:i<W.length:=A_;have a:=pI (f:=uV) (t:=t) (l:=W) (i:=(i:Int)) A_;rw[Int.toNat_natCast]at a;have e:=aC0 b;have r:W.getD i default<18446744073709551616:=g _ (by simp only[List.getD,D_ b,Option.getD_some];exact B8 _);generalize W.getD i default=x at *
  have n:=aGv x;obtain⟨d,q⟩:=aTu (k:=i) A_ (.iv (.sl t (TM.one uV W))) (.iv (.sl t (TM.one uV W))) (j_ W.length) (j_ i) e_ x x out x8 (O_ _) r A_;obtain⟨s,y,o,m,h⟩:=aTw t W g j k (i+1) (out++(kL x).map fun v:Int=>64*(i:Int)+v) (j_ i) (.iv (.int .u64 0)) e_ d A_ (by rw[H_,L_];omega);rw[e,wlI];rw[A9,show((i+1:Nat):Int)=(i:Int)+1 by omega]at h;refine⟨s,y,o,m,aE K _ _ t57L1.eq_1 ?_⟩;generalize hO:out++((kL x).map (fun v:Int=>64*(i:Int)+v)++wlI (i+1) (W.drop (i+1)))=O at *
  generalize hP:out++(kL x).map (fun v:Int=>64*(i:Int)+v)=P at *
  rw[show uV x=IV.int .u64 (x:Int) from rfl]at a;simp(disch:=omega)only[go_sem,a];rw[q];simp(disch:=omega)only[go_sem,aC];exact X_ er h
theorem bQg(t:Tag)(W:Tc_)(b:∀x∈W,x<18446744073709551616)(c:W.length<=100000):TM.Pure K 57 [.iv (.sl t (TM.one uV W))] (.iv (.sl (jL (aZ (wlI 0 W))) (TM.one (.int .i64) (wlI 0 W)))):=by obtain⟨f,d,g,e,a⟩:=aTw t W b c W.length 0 [] u_ u_ u_ u_ A_ B_;rw[C4,List.nil_append,n0_,show vH 1 3 (aZ [])=[] from rfl,show acc 0 (aZ [])=k_ from rfl]at a;refine TM.gQ (S:=vH 1 3 (aZ (wlI 0 W))) (r:=acc 0 (aZ (wlI 0 W))) (aI K _ (fn:=t57) rfl rfl ?_) (aBq _ _ _);simp(disch:=omega)only[t57,go_sem];rw[a];simp(disch:=omega)only[go_sem]
def cF(n:Nat)(f:Nat->TV):List TV:=(List.range n).map f
def upd{α:Type}(f:Nat->α)(i:Nat)(x:α):Nat->α:=fun j=>if j=i then x else f j
theorem bU{α:Type}(f:Nat->α)(i:Nat)(x:α):upd f i x i=x:=by simp[upd]
theorem dB{α:Type}(f:Nat->α){i j:Nat}(x:α)(h:j≠i):upd f i x j=f j:=by simp[upd,h]
theorem aC5(n:Nat)(f:Nat->TV):(cF n f).length=n:=by simp[cF]
theorem dS{n i:Nat}(f:Nat->TV)(h:i<n):sub (cF n f) i 1=some [f i]:=by simp only[sub,aC5,show i+1<=n by omega,↓reduceIte];rw[A6 (by rw[aC5];exact h)];simp[cF]
theorem lC{n i:Nat}(f:Nat->TV)(x:TV)(h:i<n):put (cF n f) i [x]=cF n (upd f i x):=by
 simp only[put,cF];apply N3;.simp;omega
 .intro j a b;simp at a b;rcases M7 j i with h3|h3|h3;.rw[O8 (by simp;omega),O8 (by simp;omega)];simp[upd,show ¬j=i by omega]
  .subst h3;rw[O8 (by simp;omega),U8 (by simp;omega)];simp[upd]
  .rw[U8 (by simp;omega)];have e:i+1+(j-(min i n+1))=j:=A_;simp[upd,show ¬j=i by omega,e]
attribute [go_sem] aC5
theorem gN0(S:aA)(a:aG)(r:aA):(S++a::r)[S.length]?=some a:=B_
theorem gN1(S:aA)(a b:aG)(r:aA):(S++a::b::r)[S.length+1]?=some b:=by rw[r_ A_];simp
theorem gN2(S:aA)(a b c:aG)(r:aA):(S++a::b::c::r)[S.length+2]?=some c:=by rw[r_ A_];simp
theorem gN3(S:aA)(a b c d:aG)(r:aA):(S++a::b::c::d::r)[S.length+3]?=some d:=by rw[r_ A_];simp
theorem gN4(S:aA)(a b c d e:aG)(r:aA):(S++a::b::c::d::e::r)[S.length+4]?=some e:=by rw[r_ A_];simp
theorem gN5(S:aA)(a b c d e f:aG)(r:aA):(S++a::b::c::d::e::f::r)[S.length+5]?=some f:=by rw[r_ A_];simp
theorem gN6(S:aA)(a b c d e f g:aG)(r:aA):(S++a::b::c::d::e::f::g::r)[S.length+6]?=some g:=by rw[r_ A_];simp
theorem gN7(S:aA)(a b c d e f g h:aG)(r:aA):(S++a::b::c::d::e::f::g::h::r)[S.length+7]?=some h:=by rw[r_ A_];simp
theorem sN1(S:aA)(a b x:aG)(r:aA):(S++a::b::r).set (S.length+1) x=S++a::x::r:=by rw[E3 _ _ A_];simp
theorem sN2(S:aA)(a b c x:aG)(r:aA):(S++a::b::c::r).set (S.length+2) x=S++a::b::x::r:=by rw[E3 _ _ A_];simp
theorem sN5(S:aA)(a b c d e f x:aG)(r:aA):(S++a::b::c::d::e::f::r).set (S.length+5) x=S++a::b::c::d::e::x::r:=by rw[E3 _ _ A_];simp
theorem sN6(S:aA)(a b c d e f g x:aG)(r:aA):(S++a::b::c::d::e::f::g::r).set (S.length+6) x=S++a::b::c::d::e::f::x::r:=by rw[E3 _ _ A_];simp
theorem sN7(S:aA)(a b c d e f g h x:aG)(r:aA):(S++a::b::c::d::e::f::g::h::r).set (S.length+7) x=S++a::b::c::d::e::f::g::x::r:=by rw[E3 _ _ A_];simp
attribute [go_sem] gN0 gN1 gN2 gN3 gN4 gN5 gN6 gN7 sN1 sN2 sN5 sN6 sN7
structure VF where
 fn:Int
 regs:Nat
 sl:Int
 nd:Int
 pr:Int
 rs:Bool
 ti:Tag
 ins:List VI
def kY(f:VF):List IV:=[.int .i64 f.fn,.int .i64 f.regs,.int .i64 f.sl,.int .i64 f.nd,.int .i64 f.pr,.bool f.rs,.sl f.ti (f.ins.map aJ)]
structure RS (S:aA) (j n m:Nat) (ia:Nat->Nat) (I:Nat->List Nat):Prop where
 row:S[j]?=some (.cells 0 false (cF n fun i=>.msl (ia i) 0 0 m m 1))
 ge:∀i,i<n->6<=ia i
 set:∀i,i<n->S[ia i]?=some (.cells 0 false ((I i).map uI))
 ok:∀i,i<n->WOK m (I i)
structure FlS (S:aA) (f:VF) (lb:List (Nat×Int×Int)) (n m:Nat) (ia oa:Nat->Nat) (I O:Nat->List Nat):Prop where
 lab:∃c,S[0]?=some (.mp (mpR kC lb) c)
 inn:RS S 1 n m ia I
 out:RS S 2 n m oa O
 flw:S[3]?=some (.cells 65 false [.iv (.int .i64 f.fn),.iv (.int .i64 f.regs),.iv (.int .i64 f.sl),.iv (.int .i64 f.nd),.iv (.int .i64 f.pr),.iv (.bool f.rs),.iv (.sl f.ti (f.ins.map aJ)),.map 0,.msl 1 0 0 n n 1,.msl 2 0 0 n n 1])
 len:6<=S.length
theorem aTx{S0:aA}{f:VF}{lb:Td_}{n m:Nat}{r G:Th_}{I O:Te_}(l:FlS S0 f lb n m r G I O)(U:m<=100000)(Y:n<=1000000){kk:Nat}(b:kk<n)(R:aA)(x0 s x2 p x5 x9 x10 x11 x12 x13 c h g:TV):∀(k i:Nat) (W:Tc_) (x8 x16:TV),i+k=m->WOK m W ->∃(W':Tc_) (u d:TV),lp' (lim K) t56L1 [x0,s,x2,p,.ptr S0.length 58 0,x5,.ptr (S0.length+2) 93 0,j_ kk,x8,x9,x10,x11,x12,x13,j_ m,j_ i,x16,c,h,g] (S0++.cells 58 false [.ptr 3 65 0]::.cells 0 false (W.map uI)::.cells 93 false [.msl (S0.length+1) 0 0 m m 1]::R) = .ret (.exit 2,[x0,s,x2,p,.ptr S0.length 58 0,x5,.ptr (S0.length+2) 93 0,j_ kk,u,x9,x10,x11,x12,x13,j_ m,j_ m,d,c,h,g],S0++.cells 58 false [.ptr 3 65 0]::.cells 0 false (W'.map uI)::.cells 93 false [.msl (S0.length+1) 0 0 m m 1]::R) /\WOK m W'/\∀q,W'.getD q 0=if i<=q/\q<m then W.getD q 0 ||| (I kk).getD q 0 else W.getD q 0
 |0,i,W,x8,x16,hk,hW=>by obtain rfl:i=m:=A_;refine⟨W,x8,z_,aE K _ _ t56L1.eq_1 ?_,hW,fun q=>by rw[I_ A_]⟩;simp(disch:=omega)only[go_sem]
 |k+1,i,W,x8,x16,hk,hW=>by
  have a:i<m:=A_;have x:=l.inn.ok kk b;have H:=iO (j:=S0.length+1) (v:=0) (cap:=m) a;have T:=iO (j:=1) (v:=0) (cap:=n) b;have J:=iO (j:=r kk) (v:=0) (cap:=m) a;have E:=sF (W:=W) (i:=i) (by rw[hW.len];exact a);have Z:=dS (fun i=>TV.msl (r i) 0 0 m m 1) b;have z:=sF (W:=I kk) (i:=i) (by rw[x.len];exact a);have V:=fun L=>aR l.inn.row L;have y:=fun L=>aR (l.inn.set kk b) L;have Q:=fun L=>aR l.flw L;have P:=aPv (hW.get i) (x.get i);have t:=aIu (hW.get i) (x.get i);have D:=aPu (W:=W) (i:=i) (W.getD i 0 ||| (I kk).getD i 0) (by rw[hW.len];exact a);have o:i+1<=(W.map uI).length:=by rw[L_,hW.len];omega
  obtain⟨W',u,d,F,w,N⟩:=aTx l U Y b R x0 s x2 p x5 x9 x10 x11 x12 x13 c h g k (i+1) (W.set i (W.getD i 0 ||| (I kk).getD i 0)) (j_ i) e_ A_ (hW.set i _ t);rw[show((i+1:Nat):Int)=(i:Int)+1 by omega]at F;simp only[uI]at E z D y o;refine⟨W',u,d,aE K _ _ t56L1.eq_1 ?_,w,fun q=>?_⟩
  .generalize hA:W.getD i 0=A at *
   generalize hB:(I kk).getD i 0=B at *
   generalize hC:A ||| B=C at *
   simp(disch:=omega)only[go_sem,H,T,J,E,Z,z,V,y,Q,P,D,o,aC];exact X_ er F
  .rw[N q,aC1 (by rw[hW.len];exact a)];by_cases e:q=i;.subst e;rw[I_ A_,K_ rfl,K_ A_]
   .rw[I_ e];by_cases e2:i+1<=q/\q<m;.rw[K_ e2,K_ A_]
    .rw[I_ e2,I_ A_]
theorem bCa(a:TV):TM.bC [[a]]=[a]:=rfl
theorem bT3(a b:TV):TM.bC [[a],[b]]=[a,b]:=rfl
theorem bT4(a b c:TV):TM.bC [[a],[b],[c]]=[a,b,c]:=rfl
attribute [go_sem] bCa bT3 bT4
theorem bQh(l:Ta_):(l.map vI).any bJ=false:=by rw[t_];intro x a;obtain⟨m,_,rfl⟩:=A0.1 a;simp[vI,bJ]
theorem aC6{S:aA}{j v:Nat}{b:Bool}{C:Ta_}{J:Tn_}(h:S[j]?=some (.cells v b (C.map vI++J)))(cap:Nat):cH S (.msl j v 0 C.length cap 1)=some (TM.one (.int .i64) C):=by
 have c:sub (C.map vI++J) 0 (C.length*1)=some (C.map vI):=by simp[sub,X0]
 have e2:toIVs (C.map vI)=some (C.map (IV.int .i64)):=by
  have:C.map vI=(C.map (IV.int .i64)).map .iv:=by rw[M3];rfl
  rw[this,fM]
 have e3:∀L:List Int,cP 1 L.length (L.map (IV.int .i64))=TM.one (.int .i64) L:=by
  intro L;induction L with
  |nil=>rfl
  |cons a r ih=>simp only[Q_,List.length_cons,cP,List.take_succ_cons,List.take_zero,J5,C4,ih];rfl
 simp only[cH,h,ne_eq,C9,↓reduceIte,c,e2,Option.map_some,e3]
theorem lE{S:aA}{j v:Nat}{b:Bool}{C:Ta_}{J:Tn_}(h:S[j]?=some (.cells v b (C.map vI++J)))(cap:Nat):TM.resolve S (.msl j v 0 C.length cap 1)=some (.iv (.sl .no (TM.one (.int .i64) C))):=by show(match cH S (.msl j v 0 C.length cap 1)with|some l=>some (IV.sl .no l)|none=>none).map TV.iv=_;rw[aC6 h];rfl
theorem aGw{α:Type}(l:List α):cB .no l:=fun h=>by cases h
theorem aP1{S:aA}{j v:Nat}{C:Ta_}(mu:Bool)(r:Int)(h:S[j]?=some (.cells v true (C.map vI)))(f:C.length<=1000000)(t:Tag): bA mu 1 8 3 S (.msl j v 0 C.length C.length 1) (.iv (.sl t [[.int .i64 r]]))=some (.msl j (v+1) 0 (C.length+1) (C.length+1) 1,S.set j (.cells (v+1) true ((C++[r]).map vI))):=by have d:sub (C.map vI) 0 C.length=some (C.map vI):=mC B_;have b:eA (C.length+1) 8=true:=bR A_;have c:dU S (.iv (.sl t [[.int .i64 r]]))=some [vI r]:=rfl;have a:lenOf S (.iv (.sl t [[.int .i64 r]]))=some 1:=rfl;have e:bJ (vI r)=false:=rfl;simp[bA,c,a,h,e,b,d,show ¬C.length+1<=C.length by omega]
theorem bJ2{S:aA}{j v:Nat}{C:Ta_}(mu:Bool)(r:Int)(h:S[j]?=some (.cells v false (C.map vI)))(f:C.length<=1000000)(t:Tag): bA mu 1 8 3 S (.msl j v 0 C.length C.length 1) (.iv (.sl t [[.int .i64 r]]))=some (.msl S.length 0 0 (C.length+1) (C.length+1) 1,S++[.cells 0 true ((C++[r]).map vI)]):=by have d:sub (C.map vI) 0 C.length=some (C.map vI):=mC B_;have b:eA (C.length+1) 8=true:=bR A_;have c:dU S (.iv (.sl t [[.int .i64 r]]))=some [vI r]:=rfl;have a:lenOf S (.iv (.sl t [[.int .i64 r]]))=some 1:=rfl;have e:bJ (vI r)=false:=rfl;simp[bA,c,a,h,e,b,d,show ¬C.length+1<=C.length by omega]
theorem aLz{S:aA}(r:Int){a:Tag}(d:a≠.no)(t:Tag): bA true 1 8 3 S (.iv (.sl a [])) (.iv (.sl t [[.int .i64 r]]))=some (.msl S.length 0 0 1 1 1,S++[.cells 0 true [vI r]]):=by have c:eA 1 8=true:=bR A_;have e:dU S (.iv (.sl t [[.int .i64 r]]))=some [vI r]:=rfl;have b:lenOf S (.iv (.sl t [[.int .i64 r]]))=some 1:=rfl;have f:bJ (vI r)=false:=rfl;cases a<;>simp_all[bA,oL,bC]
theorem bJ3{S:aA}{t:Tag}{l:Ta_}(c:l≠[])(f:l.length<=1000000):bA true 1 8 3 S (.iv (.sl .full [])) (.iv (.sl t (TM.one (.int .i64) l)))=some (.msl S.length 0 0 l.length l.length 1,S++[.cells 0 true (l.map vI)]):=by
 have a:dU S (.iv (.sl t (TM.one (.int .i64) l)))=some ((l.map (IV.int .i64)).map .iv):=by rw[(rO.sl S t (TM.one (.int .i64) l)).1,aLn]
 have e2:lenOf S (.iv (.sl t (TM.one (.int .i64) l)))=some l.length:=by rw[(rO.sl S t (TM.one (.int .i64) l)).2,TM.kB]
 have d:(l.map (IV.int .i64)).map TV.iv=l.map vI:=by rw[M3];rfl
 have e3:=bQh l;have e:l.length≠0:=by intro h;exact c (H4.1 h)
 have b:eA l.length 8=true:=bR A_;rw[d]at a;simp[bA,a,e2,e3,e,b,bC,oL]
theorem aIw{S:aA}{t:Tag}:bA true 1 8 3 S (.iv (.sl .full [])) (.iv (.sl t []))=some (.iv (.sl .full []),S):=by simp[bA,dU,lenOf,bC,aQz]
theorem aTy(l:M_):eqB .sl (.iv (.sl .nil l)) k_=some true:=id rfl
theorem aTz(l:M_):eqB .sl (.iv (.sl .full l)) k_=some false:=id rfl
theorem aT0(l:M_):eqB .sl (.iv (.sl .no l)) k_=some false:=id rfl
theorem aP2(t:Tag)(l:Ta_)(c:cB t l)(d:l.length<=1000000)(S:aA): (l=[]/\∃b,b≠.no/\(lim K).call 44 [.iv (.sl t (TM.one (.int .i64) l))] S=.ret (.iv (.sl b []),S)) \/(l≠[]/\(lim K).call 44 [.iv (.sl t (TM.one (.int .i64) l))] S=.ret (.msl S.length 0 0 l.length l.length 1,S++[.cells 0 true (l.map vI)])):=by
 by_cases hn:t=.nil;.subst hn;obtain rfl:=c rfl;refine .inl ⟨rfl,.nil,by decide,aI K S (fn:=t44) rfl rfl ?_⟩;simp(disch:=omega)only[t44,go_sem,aTy]
 .have a:eqB .sl (.iv (.sl t (TM.one (.int .i64) l))) k_=some false:=by
   cases t with
   |nil=>exact absurd rfl hn
   |full=>exact aTz _
   |no=>exact aT0 _
  by_cases h0:l=[]
  .subst h0;refine .inl ⟨rfl,.full,by decide,aI K S (fn:=t44) rfl rfl ?_⟩;rw[qK]at *
   simp(disch:=omega)only[t44,go_sem,a,aIw]
  .refine .inr ⟨h0,aI K S (fn:=t44) rfl rfl ?_⟩;have:=bJ3 (S:=S) (t:=t) h0 d;simp(disch:=omega)only[t44,go_sem,a,this]
theorem aC7(x:Int):TM.Pure K 72 [j_ x] (.iv (.bool (decide (26<=x/\x<=31)))):=by refine aT t72 rfl rfl ?_;rcases(by omega:x<26\/(26<=x/\x<=31)\/31<x)with h|h|h<;>simp(disch:=omega)only[t72,go_sem]
theorem bJ4(v:VI)(h:(1<=v.op/\v.op<=14)\/v.op=25\/(26<=v.op/\v.op<=31)):∃e,cB e (bF v)/\TM.Pure K 42 [.iv (.agg (aJ v))] (.iv (.sl e (TM.one (.int .i64) (bF v)))):=by
 have f:bF v=tdy [v.a,v.b]:=by unfold bF;rw[K_ A_]
 rw[f];have g:([.cells 0 false [vI v.a,vI v.b]]:aA)[0]?=some (.cells 0 false ([v.a,v.b].map vI++[])):=rfl;obtain⟨J,c⟩:=yZ B_ (cap:=2) B_ g (jM [v.a,v.b]);have d:=aC7 v.op;refine⟨.no,aGw _,gQ (S:=[.cells 0 false ((tdy [v.a,v.b]).map vI++J)]) (aI K _ (fn:=t42) rfl rfl ?_) (lE (j:=0) (v:=0) (b:=false) (J:=J) rfl 2)⟩;simp only[vI,List.length_cons,List.length_nil,List.set_cons_zero,A7,Nat.reduceAdd]at c;rcases h with h|h|h;.simp(disch:=omega)only[t42,go_sem,aJ,Q_,C3,c]
 .simp(disch:=omega)only[t42,go_sem,aJ,Q_,C3,c]
 .rw[V_ h]at d;simp(disch:=omega)only[t42,go_sem,aJ,Q_,C3,c,aD d]
def rA:aL:=(.region [⟨.mov (.loc 13),(some 7),none⟩])
def rB:aL:=(.block 1
    (.seq (.region [⟨.load1 (.loc 6),none,none⟩,⟨.len .sl (.reg 0),(some 14),none⟩,⟨.mov (.cst (.int .i64 0)),(some 15),none⟩])
    (.block 2
     (.loop t56L1))))
def rE(N:Nat)(x0 x1 x2 x3 x5 x7 x8 x9 x10 x11 x12 x13 x14 x15 x16 x17 x18 x19:TV):Env:=[x0,x1,x2,x3,.ptr N 58 0,x5,.ptr (N+2) 93 0,x7,x8,x9,x10,x11,x12,x13,x14,x15,x16,x17,x18,x19]
def gS(S0:aA)(m:Nat)(W:List Nat)(b3 b4 Z:aG)(R:aA):aA:=S0++.cells 58 false [.ptr 3 65 0]::.cells 0 false (W.map uI)::.cells 93 false [.msl (S0.length+1) 0 0 m m 1]::b3::b4::Z::R
theorem bQi{m:Nat}{W V W':Tc_}(b:WOK m W)(a:WOK m V)(h:∀q,W'.getD q 0=if 0<=q/\q<m then W.getD q 0 ||| V.getD q 0 else W.getD q 0)(r:Nat):bit W' r=(bit W r||bit V r):=by
 unfold bit;rw[h];by_cases e:r / 64<m;.rw[K_ ⟨I3 _,e⟩,O5]
 .rw[I_ A_];have:V.getD (r / 64) 0=0:=by rw[List.getD,B5 (by rw[a.len];omega)];rfl
  rw[this,Q7,O7]
theorem bT5{S0:aA}{f:VF}{lb:Td_}{n m:Nat}{v t:Th_}{I O:Te_}(q:FlS S0 f lb n m v t I O)(w:m<=100000)(z:n<=1000000){kk:Nat}(j:kk<n)(b3 b4:aG)(R:aA)(x0 h x2 g x5 x7 x8 x9 x10 x11 x12 x13 x14 x15 x16 c e d:TV)(W:Tc_)(o:WOK m W): ∃W':List Nat,(lim K).yld (S0.length+5) [j_ kk] (gS S0 m W b3 b4 (.lp .ready none (rE S0.length x0 h x2 g x5 x7 x8 x9 x10 x11 x12 x13 x14 x15 x16 c e d) [13] rA rB) R) = .ret (e_,gS S0 m W' b3 b4 (.lp .ready none (rE S0.length x0 h x2 g x5 x7 x8 x9 x10 x11 x12 x13 x14 x15 x16 c e d) [13] rA rB) R)/\WOK m W'/\∀r,bit W' r=(bit W r||bit (I kk) r):=by
 generalize hE:rE S0.length x0 h x2 g x5 x7 x8 x9 x10 x11 x12 x13 x14 x15 x16 c e d=E;obtain⟨W',x,k,s,l,u⟩:=aTx q w z j (b3::b4::.lp .busy none E [13] rA rB::R) x0 h x2 g x5 x9 x10 x11 x12 (j_ kk) c e d m 0 W x8 x16 A_ o;refine⟨W',?_,l,bQi o (q.inn.ok kk j) u⟩;have y:=aPa (K:=K) (i:=S0.length+5) (args:=[j_ kk]) (S:=gS S0 m W b3 b4 (.lp .ready none E [13] rA rB) R) (S1:=gS S0 m W b3 b4 (.lp .ready none E [13] rA rB) R) (S2:=gS S0 m W' b3 b4 (.lp .busy none E [13] rA rB) R)
  (st:=.ready) (p:=none) (p2:=none) (p3:=none) (st3:=.busy) (env:=E) (e2:=E) (e3:=E) (ps:=[13]) (ps2:=[13]) (ps3:=[13]) (a:=rA) (b:=rB) (a2:=rA) (b2:=rB) (a3:=rA) (b3:=rB)
  (env1:=rE S0.length x0 h x2 g x5 x7 x8 x9 x10 x11 x12 (j_ kk) x14 x15 x16 c e d)
  (env2:=rE S0.length x0 h x2 g x5 (j_ kk) x8 x9 x10 x11 x12 (j_ kk) x14 x15 x16 c e d)
  (env3:=rE S0.length x0 h x2 g x5 (j_ kk) x x9 x10 x11 x12 (j_ kk) (j_ m) (j_ m) k c e d)
  (by unfold gS;rw[gN5]) (by rw[<-hE];rfl) ?_ (by unfold gS;rw[gN5]) ?_ (by unfold gS;rw[gN5])
 .rw[y];unfold gS;rw[sN5]
 .unfold rE rA;simp(disch:=omega)only[go_sem]
 .unfold gS;rw[sN5];rw[n0_]at s;generalize aG.lp .busy none E [13] rA rB=Z at *
  unfold rE rB;simp(disch:=omega)only[go_sem];rw[s];simp(disch:=omega)only[go_sem]
theorem eZ(v:VI):(aJ v).length=8:=rfl
def bhd(lb:List (Nat×Int×Int))(l:List VI)(i:Nat):List Nat :=
 if(l.getD i default).op=68\/(l.getD i default).op=72 then []else
  (if(26<=(l.getD i default).op/\(l.getD i default).op<=31)\/(l.getD i default).op=66 then [(lR lb (l.getD i default).lb).toNat]else []) ++
  (if(l.getD i default).op≠66/\i+1<l.length then [i+1]else [])
def aL0(lb:List (Nat×Int×Int))(l:List VI):Prop:=∀i,i<l.length->((26<=(l.getD i default).op/\(l.getD i default).op<=31)\/(l.getD i default).op=66)->0<=lR lb (l.getD i default).lb/\lR lb (l.getD i default).lb<l.length
theorem bJ5(env:Env)(S:aA)(a b c d e f g h:IV):bP env S (.iv (.cp [a,b,c,d,e,f,g,h])) 8=some [.iv a,.iv b,.iv c,.iv d,.iv e,.iv f,.iv g,.iv h]:=by simp[bP,sub]
attribute [go_sem] bJ5
theorem bJ6{S0:aA}{m:Nat}{W:Tc_}{b3 b4 Z a:aG}(x:aG)(R:aA):(gS S0 m W b3 b4 Z (a::R)).set (S0.length+6) x=gS S0 m W b3 b4 Z (x::R):=by unfold gS;rw[sN6]
theorem bJ7{S0:aA}{m:Nat}{W:Tc_}{b3 b4 Z:aG}(R:aA):(gS S0 m W b3 b4 Z R)[S0.length+3]?=some b3:=by unfold gS;rw[gN3]
theorem bJ8{S0:aA}{m:Nat}{W:Tc_}{b3 b4 Z:aG}(R:aA):(gS S0 m W b3 b4 Z R)[S0.length+4]?=some b4:=by unfold gS;rw[gN4]
theorem bJ9{S0:aA}{m:Nat}{W:Tc_}{b3 b4 Z a:aG}(R:aA):(gS S0 m W b3 b4 Z (a::R))[S0.length+6]?=some a:=by unfold gS;rw[gN6]
theorem sG{S0:aA}{m:Nat}{W:Tc_}{b3 b4 Z:aG}(R:aA){j:Nat}{b:aG}(h:S0[j]?=some b):(gS S0 m W b3 b4 Z R)[j]?=some b:=by unfold gS;exact aR h _
theorem aP3{S0:aA}{m:Nat}{W:Tc_}{b3 b4 Z:aG}(R:aA):(gS S0 m W b3 b4 Z R).length=S0.length+(6+R.length):=by unfold gS;simp;omega
theorem bCb{S0:aA}{m:Nat}{W:Tc_}{b3 b4 Z:aG}(R L:aA):gS S0 m W b3 b4 Z R++L=gS S0 m W b3 b4 Z (R++L):=by unfold gS;simp
attribute [go_sem] bJ6 bJ7 bJ8 bJ9 bCb
theorem bKa{S0:aA}{f:VF}{lb:Td_}{n m:Nat}{V Q:Th_}{I O:Te_}(N:FlS S0 f lb n m V Q I O)(U:m<=100000)(Y:n<=1000000)(H:f.ins.length=n)(J:aL0 lb f.ins){i:Nat}(hi:i<n)(x0 E x2 C x5 x7 x8 x9 x10 x11 x12 x13 x14 x15 x16 p o h:TV)(W:Tc_)(s:WOK m W): ∃(W':Tc_) (B:aG),(lim K).call 113 [.yld (S0.length+5),.ptr (S0.length+3) 58 0,.ptr (S0.length+4) 4 0] (gS S0 m W (.cells 58 false [.ptr 3 65 0]) (.cells 4 false [j_ i]) (.lp .ready none (rE S0.length x0 E x2 C x5 x7 x8 x9 x10 x11 x12 x13 x14 x15 x16 p o h) [13] rA rB) []) = .ret (u_,gS S0 m W' (.cells 58 false [.ptr 3 65 0]) (.cells 4 false [j_ i]) (.lp .ready none (rE S0.length x0 E x2 C x5 x7 x8 x9 x10 x11 x12 x13 x14 x15 x16 p o h) [13] rA rB) [B])/\WOK m W'/\∀r,bit W' r=(bit W r||(bhd lb f.ins i).any fun k=>bit (I k) r):=by
 have P:=J i A_;obtain⟨c0,z⟩:=N.lab;have g0:=fun W b3 b4 Z R=>sG (S0:=S0) (m:=m) (W:=W) (b3:=b3) (b4:=b4) (Z:=Z) R z;have q:=fun W b3 b4 Z R=>sG (S0:=S0) (m:=m) (W:=W) (b3:=b3) (b4:=b4) (Z:=Z) R N.flw;have c:=gC (w:=8) (f:=aJ) eZ (t:=f.ti) (l:=f.ins) (i:=(i:Int)) A_;rw[Int.toNat_natCast]at c;have a:(f.ins.map aJ).length=n:=by rw[L_,H]
 have b:=fun W b3 b4 Z R=>aP3 (S0:=S0) (m:=m) (W:=W) (b3:=b3) (b4:=b4) (Z:=Z) R;have d:=aC7 (f.ins.getD i default).op;unfold bhd;generalize hx:f.ins.getD i default=x at *
 rw[cV]at c;have F:=fun kk (e:kk<n) b3 b4 R W s=>bT5 N U Y (kk:=kk) e b3 b4 R x0 E x2 C x5 x7 x8 x9 x10 x11 x12 x13 x14 x15 x16 p o h W s;generalize aG.lp .ready none (rE S0.length x0 E x2 C x5 x7 x8 x9 x10 x11 x12 x13 x14 x15 x16 p o h) [13] rA rB=Z at *
 by_cases A:x.op=68\/x.op=72
 .rw[K_ A];refine⟨W,.cells 29 false ((aJ x).map .iv),aI K _ (fn:=t113) rfl rfl ?_,s,fun r=>B_⟩;rw[aS]
  .rcases A with A|A;.simp(disch:=omega)only[t113,go_sem,g0,q,c,a,b]
   .simp(disch:=omega)only[t113,go_sem,g0,q,c,a,b]
 .rw[I_ A];have G:((n:Nat):Int)=(f.ins.length:Nat):=A_;by_cases hJ:x.op=66;.obtain⟨L,T⟩:=P (.inr hJ);obtain⟨kk,e⟩:=H3 L;rw[K_ (.inr hJ),I_ A_,A4,e,Int.toNat_natCast];obtain⟨W',y,j,D⟩:=F kk A_ (.cells 58 false [.ptr 3 65 0]) (.cells 4 false [j_ i]) [.cells 29 false ((aJ x).map .iv)] W s;rw[aS]at y;rw[l_ A_]at d;refine⟨W',.cells 29 false ((aJ x).map .iv),aI K _ (fn:=t113) rfl rfl ?_,j,fun r=>by rw[D r];simp⟩;rw[aS];simp(disch:=omega)only[t113,go_sem,g0,q,c,a,b,aD d,aCw,e,y,er_ret]
  .by_cases hB:26<=x.op/\x.op<=31
   .obtain⟨L,T⟩:=P (.inl hB);obtain⟨kk,e⟩:=H3 L;rw[K_ (.inl hB),e,Int.toNat_natCast];obtain⟨W',y,j,D⟩:=F kk A_ (.cells 58 false [.ptr 3 65 0]) (.cells 4 false [j_ i]) [.cells 29 false ((aJ x).map .iv)] W s;rw[aS]at y;rw[V_ hB]at d;by_cases hi1:i+1<n;.rw[K_ ⟨hJ,by omega⟩];obtain⟨W2,g,v,u⟩:=F (i+1) hi1 (.cells 58 false [.ptr 3 65 0]) (.cells 4 false [j_ i]) [.cells 29 false ((aJ x).map .iv)] W' j;rw[aS,show((i+1:Nat):Int)=(i:Int)+1 by omega]at g;refine⟨W2,.cells 29 false ((aJ x).map .iv),aI K _ (fn:=t113) rfl rfl ?_,v,fun r=>by rw[u r,D r];simp[Bool.or_assoc]⟩;rw[aS];simp(disch:=omega)only[t113,go_sem,g0,q,c,a,b,aD d,aCw,e,y,aC,g,er_ret]
    .rw[I_ A_,A4];refine⟨W',.cells 29 false ((aJ x).map .iv),aI K _ (fn:=t113) rfl rfl ?_,j,fun r=>by rw[D r];simp⟩;rw[aS];simp(disch:=omega)only[t113,go_sem,g0,q,c,a,b,aD d,aCw,e,y,aC,er_ret]
   .rw[I_ A_,List.nil_append];rw[l_ hB]at d;by_cases hi1:i+1<n;.rw[K_ ⟨hJ,by omega⟩];obtain⟨W2,g,v,u⟩:=F (i+1) hi1 (.cells 58 false [.ptr 3 65 0]) (.cells 4 false [j_ i]) [.cells 29 false ((aJ x).map .iv)] W s;rw[aS,show((i+1:Nat):Int)=(i:Int)+1 by omega]at g;refine⟨W2,.cells 29 false ((aJ x).map .iv),aI K _ (fn:=t113) rfl rfl ?_,v,fun r=>by rw[u r];simp⟩;rw[aS];simp(disch:=omega)only[t113,go_sem,g0,q,c,a,b,aD d,aC,g,er_ret]
    .rw[I_ A_];refine⟨W,.cells 29 false ((aJ x).map .iv),aI K _ (fn:=t113) rfl rfl ?_,s,fun r=>B_⟩;rw[aS];simp(disch:=omega)only[t113,go_sem,g0,q,c,a,b,aD d,aC,er_ret]
end Go.Proofs.YtehlgnfhkidgoaaGreatDoor
