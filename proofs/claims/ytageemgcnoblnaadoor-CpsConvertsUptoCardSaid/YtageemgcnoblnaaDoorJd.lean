/- Some texts of the proof, joined. Condition: none. -/
import Derived.Test.YtageemgcnoblnaaDoorJc
import Derived.Test.YtageemgcnoblnaaDoorJb
import Derived.Test.YtageemgcnoblnaaDoorJa
set_option maxRecDepth 100000
set_option maxHeartbeats 64000000
set_option linter.unusedSimpArgs false
set_option linter.unusedVariables false
namespace Go.Proofs.YtageemgcnoblnaaDoor
open Go Go.TM
theorem aWy {tg:Tag}{F:M_}{mn vr gl:Int}{gc:Tag}{cs:M_}{x i:Int}{ps:List Int}{r cc:Bool}{b p:Tc}(hb:oX tg F mn vr gl gc cs b)(hp:oX tg F mn vr gl gc cs p):oX tg F mn vr gl gc cs (.fn x i ps r cc b p):=by
 intro n0 S0 S jx jv jf v f t h0 hD hG hm hn hz hv hf hN hk
 obtain⟨c,tp,bt,rfl,hi0,hF,hDb,hDp⟩:=hD
 obtain⟨hps,hGb,hGp⟩:=hG
 rw[cQ]at hm hn hf
 simp only[szC]at hz hv
 simp only[List.length_append,List.length_cons]at hf
 obtain⟨nn,hn2⟩:=List.nodup_cons.1 hn
 obtain⟨n1,n2,n3⟩:=List.nodup_append.1 hn2
 obtain⟨_,hiF,hif⟩:=hm i (by simp)
 obtain⟨dl,c63⟩:=nQ 2 (by unfold eN;omega)
 have dlp:=gE (hH x v)
 obtain⟨jv0,Sa,c64,hNa,hka⟩:=aFz hN h0 hk x (by omega)
 have ml:=lU v x
 have pl:=aAv ps ([32,102]++dg f.length++[91]) (eG v x)
 have bl:=jY b (ptxT ([32,102]++dg f.length++[91]) (eG v x) ps).2 (f.length+1)
 have bm:=aBh b (ptxT ([32,102]++dg f.length++[91]) (eG v x) ps).2 (f.length+1)
 obtain⟨g0,g1,g2,g3,g4,g5,o5,g6,o6,rfl⟩:=hDb.cells
 have dlm:=gE (f.length:Int)
 obtain⟨jv1,jf1,S1,c37,hN1,hk1⟩:=aWx (tg:=tg) (F:=F) (mn:=mn) (vr:=vr) (gl:=gl) (gc:=gc) (cs:=cs) h0 hNa hka ⟨hi0,hiF⟩ hif hF hps (by omega) (by omega) (w:=(txtT b (ptxT ([32,102]++dg f.length++[91]) (eG v x) ps).2 (f.length+1)).1) (v2:=(txtT b (ptxT ([32,102]++dg f.length++[91]) (eG v x) ps).2 (f.length+1)).2.1) (f2:=(f++[i])++cQ b) (by omega) (fun S jv jf hNM hK=>by
  have:=hb h0 hDb hGb (fun j hj=>by
   obtain⟨h1,h2,h3⟩:=hm j (by simp[hj])
   refine⟨h1,h2,fun h=>?_⟩
   rcases List.mem_append.1 h with h|h
   ·exact h3 h
   ·rw[List.mem_singleton]at h;subst h;exact nn (by simp[hj])) n1 (by omega) (by omega) (by simp only[n_];omega) hNM hK
  rw[show(f++[i]).length=f.length+1 by simp]at this
  exact this)
 obtain⟨S2,jv2,y12,y13,l1,hN2,hk2⟩:=tI h0 (.iv (.agg [.sl tg F,.int .i64 mn,.int .i64 vr,.int .i64 gl,.sl gc cs])) (.iv (.agg (bX x i (.sl .full [c])))) (lbC tg F mn vr gl gc cs) (.iv (.str [])) u_ e_ z_ e_ u_ 2 x 0 0 i .nil [] .full [c] (fun a ha=>by cases ha) (by simp) 0 0 S1 jv1 ([40]++dg 2++[32,118]++dg (hH x v)++(fnS r cc (ptxT ([32,102]++dg f.length++[91]) (eG v x) ps).1++(txtT b (ptxT ([32,102]++dg f.length++[91]) (eG v x) ps).2 (f.length+1)).1++[93])) _ u_ u_ (by simp) (by
  have:(fnS r cc (ptxT ([32,102]++dg f.length++[91]) (eG v x) ps).1).length<=(ptxT ([32,102]++dg f.length++[91]) (eG v x) ps).1.length+2:=by
   unfold fnS
   cases r<;>cases cc<;>simp
  simp only[n_]at *
  omega) (by omega) hN1 hk1
 rw[List.drop_zero,atxT]at l1 hN2
 rw[n0_,show(([]:M_).length:Int)=0 from rfl]at l1
 dsimp only at l1 hN2
 obtain⟨jv3,jf3,S3,c1,hN3,hk3⟩:=hp h0 hDp hGp (fun j hj=>by
  obtain⟨h1,h2,h3⟩:=hm j (by simp[hj])
  refine⟨h1,h2,fun h=>?_⟩
  rcases List.mem_append.1 h with h|h
  ·rcases List.mem_append.1 h with h|h
   ·exact h3 h
   ·rw[List.mem_singleton]at h;subst h;exact nn (by simp[hj])
  ·exact n3 j h j hj rfl) n2 (by omega) (by omega) (by simp only[n_];omega) hN2 hk2
 have el:(f++[i]++cQ b).length=(txtT b (ptxT ([32,102]++dg f.length++[91]) (eG v x) ps).2 (f.length+1)).2.2:=by rw[bm];simp;omega
 rw[el]at c1 hN3
 have tl:=jY p (txtT b (ptxT ([32,102]++dg f.length++[91]) (eG v x) ps).2 (f.length+1)).2.1 (txtT b (ptxT ([32,102]++dg f.length++[91]) (eG v x) ps).2 (f.length+1)).2.2
 refine⟨jv3,jf3,S3,aB K _ (fn:=t65) rfl rfl ?_,by rw[cQ];simp only[txtT];rw[show f++i::(cQ b++cQ p)=f++[i]++cQ b++cQ p by simp];exact hN3,hk3⟩
 have fl:(fnS r cc (ptxT ([32,102]++dg f.length++[91]) (eG v x) ps).1).length<=(ptxT ([32,102]++dg f.length++[91]) (eG v x) ps).1.length+2:=by
  unfold fnS
  cases r<;>cases cc<;>simp
 have fe:fnS r cc (ptxT ([32,102]++dg f.length++[91]) (eG v x) ps).1=(if cc=true then(if r=true then(ptxT ([32,102]++dg f.length++[91]) (eG v x) ps).1++[46]else(ptxT ([32,102]++dg f.length++[91]) (eG v x) ps).1)++[33]else(if r=true then(ptxT ([32,102]++dg f.length++[91]) (eG v x) ps).1++[46]else(ptxT ([32,102]++dg f.length++[91]) (eG v x) ps).1)):=rfl
 simp only[txtT]
 rw[<-fe]
 clear fe
 simp only[n_]at pl
 obtain⟨b0,b1,b2,b3,b4,b5,k5,b6,k6,rfl⟩:=hDp.cells
 generalize txtT p (txtT b (ptxT ([32,102]++dg f.length++[91]) (eG v x) ps).2 (f.length+1)).2.1 (txtT b (ptxT ([32,102]++dg f.length++[91]) (eG v x) ps).2 (f.length+1)).2.2=W at *
 obtain⟨w1,w4⟩:=W
 generalize txtT b (ptxT ([32,102]++dg f.length++[91]) (eG v x) ps).2 (f.length+1)=W at *
 obtain⟨wb,w5⟩:=W
 generalize fnS r cc (ptxT ([32,102]++dg f.length++[91]) (eG v x) ps).1=q1 at *
 generalize ptxT ([32,102]++dg f.length++[91]) (eG v x) ps=q at *
 obtain⟨q3,q4⟩:=q
 dsimp only at l1 c1 c37 pl bl tl fl ⊢
 simp only[List.cons_append,List.nil_append]at l1
 unfold bX at *
 have hq1:q1.length<=100000000000:=by omega
 have hw1:w1.length<=100000000000:=by omega
 have hwb:wb.length<=100000000000:=by omega
 have z2:=fun(s:List UInt8) (x7 x9 x10 x11 x12 x13:TV)=>aGf (jx:=jx) (x1:=.iv (.agg [.sl tg F,.int .i64 mn,.int .i64 vr,.int .i64 gl,.sl gc cs])) (x2:=.iv (.agg [.int .i64 2,.int .i64 x,.int .i64 0,.int .i64 0,.int .i64 i,.sl .nil [],.sl .full [[.int .i64 b0,.int .i64 b1,.int .i64 b2,.int .i64 b3,.int .i64 b4,.sl b5 k5,.sl b6 k6]]])) (x3:=lbC tg F mn vr gl gc cs) (x5:=.iv (.str [])) (x7:=x7) (x9:=x9) (x10:=x10) (x11:=x11) (x12:=x12) (x13:=x13) (x14:=e_) (c0:=2) (c1:=x) (c2:=0) (c3:=0) (c4:=i) (t5:=.nil) (l5:=[]) (t6:=.full) (l6:=[[.int .i64 b0,.int .i64 b1,.int .i64 b2,.int .i64 b3,.int .i64 b4,.sl b5 k5,.sl b6 k6]]) (z:=0+1) rfl (by omega) (S:=S3) (s:=s)
 have z0:=fun(s:List UInt8) (hs:s.length<=1000000000000) (x7 x9 x10 x11 x12 x13 x14:TV)=>aP3 (i:=0) (z:=0) (by simp) rfl rfl (s:=s) (w:=w1) (by omega) c1 (x14:=x14) (z2 (s++w1) x7 x9 x10 x11 x12 x13)
 clear hN hN1 hN2 hN3 hk hk1 hk2 hk3 hp hb hDp hDb hNa hka hm n3 nn hn hn2 n1 n2
 simp (disch:=omega) only[t65,go_sem,aF c63,c64,c37,n_]
 rw[l1]
 simp (disch:=omega) only[go_sem,n_]
 rw[z0 _ (by simp only[n_];omega)]
 simp (disch:=omega) only[go_sem,n_]
theorem pI {tg:Tag}{F:M_}{mn vr gl:Int}{gc:Tag}{cs:M_}:∀U:Tc,oX tg F mn vr gl gc cs U
 | .prim _ _ _ _ k=>aMa (pI k)
 | .fn _ _ _ _ _ b k=>aWy (pI b) (pI k)
 | .ite _ p q=>aRf (pI p) (pI q)
 | .call ats=>uX _ (.inl ⟨ats,rfl⟩)
 | .appl ats=>uX _ (.inr (.inl ⟨ats,rfl⟩))
 | .halt=>uX _ (.inr (.inr rfl))
def rng (a b v:Int):Nat:=if a<=v∧v<b then 1 else 0
theorem cT {a b c:Int}(h:a<=b)(g:b<=c)(v:Int):rng a c v=rng a b v+rng b c v:=by
 unfold rng
 by_cases h1:a<=v∧v<b
 ·rw[if_pos h1,if_pos ⟨h1.1,by omega⟩,if_neg (by omega)]
 ·rw[if_neg h1]
  by_cases h2:b<=v∧v<c
  ·rw[if_pos h2,if_pos ⟨by omega,h2.2⟩]
  ·rw[if_neg h2,if_neg (by omega)]
theorem gT (a v:Int):rng a a v=0:=by unfold rng;rw[if_neg (by omega)]
def cn (v:Int):List Int->Nat
 | []=>0
 | a::r=>rng a (a+1) v+cn v r
theorem iW (v:Int):∀(a b:List Int),cn v (a++b)=cn v a+cn v b
 | [],b=>by rw[List.nil_append,cn,Nat.zero_add]
 | x::a,b=>by rw[List.cons_append,cn,cn,iW v a b];omega
theorem aBi {v:Int}:∀ {l:List Int},1<=cn v l↔v∈l
 | []=>by simp[cn]
 | a::r=>by
  have ih:=@aBi v r
  rw[cn,List.mem_cons,<-ih]
  unfold rng
  split
  ·constructor
   ·intro _;left;omega
   ·intro _;omega
  ·constructor
   ·intro h;right;omega
   ·rintro(h|h)
    ·omega
    ·omega
theorem aBj:∀ {l:List Int},(∀v,cn v l<=1)->l.Nodup
 | [],_=>List.nodup_nil
 | a::r,h=>by
  refine List.nodup_cons.2 ⟨fun hm=>?_,aBj fun v=>?_⟩
  ·have h1:=h a
   rw[cn]at h1
   have:=aBi.2 hm
   have h2:rng a (a+1) a=1:=by unfold rng;rw[if_pos (by omega)]
   omega
  ·have:=h v;rw[cn]at this;omega
mutual
def NoS:Ex->Prop
 | .mk k n gv vs r g ks=>k≠4∧aWz ks
def aWz:List Ex->Prop
 | []=>True
 | e::es=>NoS e∧aWz es
end
theorem aIq:∀ {l:List Ex},aWz l↔∀x∈l,NoS x
 | []=>by simp[aWz]
 | a::r=>by rw[aWz,aIq];simp
theorem aMb (e:Ex):NoS e↔e.k≠4∧∀x∈e.ks,NoS x:=by cases e;rw[NoS,aIq];rfl
theorem aW0:∀(n:Nat) (e:Ex),e.w<=n->gL n e=false->NoS e
 | 0,e,hw,_=>by have:=Ex.w_eq e;omega
 | n+1,e,hw,h=>by
  rw[gL,Bool.or_eq_false_iff,List.any_eq_false]at h
  rw[aMb]
  refine⟨by simpa using h.1,fun x hx=>aW0 n x (by have:=Ex.kid_lt hx;omega) (by simpa using h.2 x hx)⟩
structure FP (p:Pg) (e:Ex):Prop where
 vs:e.k≠7->e.vs=[]
 k1:e.k=1->0<=e.n∧e.n<p.cs.length
 k3:e.k=3∨e.k=5->0<=e.n∧e.n<p.gl
 kv:∀v∈e.vs,0<=v∧v<p.vr
 ar:e.k≠1->e.k≠2->e.k≠4->e.k≠6->e.k≠7->e.k≠8->e.k≠10->e.k≠11->(e.ks.length:Int)=bC6 (opX e)∧(opX e=103∨opX e=104->e.k=3∨e.k=5)
theorem frP {p:Pg}{e:Ex}(h:Fr p e):FP p e:=by
 have h1:=((rP p e).1 h).1
 unfold mX at h1
 simp only[Bool.and_eq_true,Bool.not_eq_true']at h1
 have h3:=h1.2
 have h2:=h1.1
 unfold aF9 at h2
 simp only[Bool.or_eq_false_iff,Bool.and_eq_false_iff,decide_eq_false_iff_not,Bool.not_eq_false']at h2
 obtain⟨⟨⟨⟨⟨a1,a2⟩,a3⟩,a4⟩,a5⟩,a6⟩:=h2
 have hvs:e.k≠7->e.vs=[]:=fun hk=>by
  rcases a5 with a5|a5
  ·exact absurd hk a5
  ·exact List.eq_nil_of_length_eq_zero (by have:=a5.1;omega)
 refine⟨hvs,fun hk=>?_,fun hk=>?_,fun v hv=>?_,fun n1 n2 n4 n6 n7 n8 n10 n11=>?_⟩
 ·unfold aAc at h3;simp[hk]at h3;exact h3
 ·unfold aAc at h3
  rcases hk with hk|hk
  ·simp[hk]at h3;exact h3
  ·simp[hk]at h3;exact h3
 ·by_cases h7:e.k=7
  ·unfold aAc at h3;simp[h7]at h3;exact h3 v hv
  ·rw[hvs h7]at hv;cases hv
 ·unfold ofF at *
  simp only[n1,n2,n4,n6,n7,n8,n10,n11,if_false]at a1 a2 a3
  unfold opX bC6
  by_cases c3:e.k=3
  ·simp[c3]at a2 a3 ⊢
   exact a3
  ·by_cases c5:e.k=5
   ·simp[c5]at a2 a3 ⊢
    omega
   ·by_cases c9:e.k=9
    ·simp[c9]at a1 a2 a3 ⊢
     have hpa:0<=mR e.n->0<=e.n∧e.n<42:=fun hh=>by
      unfold mR at hh
      by_cases hr:0<=e.n∧e.n<42
      ·exact hr
      ·rw[if_neg hr]at hh;omega
     generalize mR e.n=q at *
     have hr:=hpa a1
     rw[if_neg (by omega),if_neg (by omega),if_neg (by omega)]
     refine⟨?_,by omega⟩
     split at a2<;>rename_i hh<;>simp[hh]at a3<;>first|omega|(rw[a3,List.length_nil];omega)
    ·by_cases c12:e.k=12
     ·simp[c12]at a2 a3 ⊢;omega
     ·by_cases c13:e.k=13
      ·simp[c13]at a2 a3 ⊢;omega
      ·by_cases c14:e.k=14
       ·simp[c14]at a2 a3 ⊢;omega
       ·simp[c3,c5,c9,c12,c13,c14]at a1
def cbE (v:Int)(e:Ex):Nat:=cn v (bvE e)
def rC (v:Int)(l:List Ex):Nat:=cn v (rO l)
theorem qF (v:Int)(e:Ex):cbE v e=cn v e.vs+rC v e.ks:=by unfold cbE rC;rw[aPx,iW]
theorem jP (v:Int)(e:Ex)(l:List Ex):rC v (e::l)=cbE v e+rC v l:=by unfold cbE rC;rw[rO,iW]
theorem pJ (v:Int):rC v []=0:=rfl
theorem vX (v:Int):∀(a b:List Ex),rC v (a++b)=rC v a+rC v b
 | [],b=>by rw[List.nil_append,pJ,Nat.zero_add]
 | x::a,b=>by rw[List.cons_append,jP,jP,vX v a b];omega
inductive SI where
 | prim (v op n:Int) (ats:List (List IV))
 | fn (v:Int) (f:Nat) (ps:List Int) (r:Bool) (body:Tr)
 | rs (e:Ex) (to:Int)
def SI.to:SI->Int
 | .prim v _ _ _=>v
 | .fn v _ _ _ _=>v
 | .rs _ to=>to
def cbS (v:Int):SI->Nat
 | .prim w _ _ _=>rng w (w+1) v
 | .fn w _ ps _ body=>rng w (w+1) v+(cn v ps+cn v (bvs body))
 | .rs e to=>rng to (to+1) v+cbE v e
def cmS (i:Int):SI->Nat
 | .fn _ f _ _ body=>rng f (f+1) i+cn i (mks body)
 | _=>0
def iX (v:Int):List SI->Nat
 | []=>0
 | s::r=>cbS v s+iX v r
def jZ (i:Int):List SI->Nat
 | []=>0
 | s::r=>cmS i s+jZ i r
def nzT:Tr->Nat
 | .prim _ _ _ ats k=>1+ats.length+nzT k
 | .fn _ _ ps _ body k=>1+ps.length+nzT body+nzT k
 | .ite _ p q=>1+nzT p+nzT q
 | .call ats=>1+ats.length
 | .appl ats=>1+ats.length
 | .halt=>1
def nzS:SI->Nat
 | .prim _ _ _ ats=>1+ats.length
 | .fn _ _ ps _ body=>1+ps.length+nzT body
 | .rs e _=>20*e.w-1
def iC:List SI->Nat
 | []=>0
 | s::r=>nzS s+iC r
theorem pK:∀(a b:List SI),iC (a++b)=iC a+iC b
 | [],b=>by rw[List.nil_append,iC,Nat.zero_add]
 | x::a,b=>by rw[List.cons_append,iC,iC,pK a b];omega
theorem lV (l:List SI):iC l.reverse=iC l:=by
 induction l with
 | nil=>rfl
 | cons a r ih=>rw[List.reverse_cons,pK,ih,iC,iC,iC];omega
theorem aGg:∀(a b:List Ex),Ex.ws (a++b)=Ex.ws a+Ex.ws b
 | [],b=>by rw[List.nil_append,Ex.ws,Nat.zero_add]
 | x::a,b=>by rw[List.cons_append,Ex.ws,Ex.ws,aGg a b];omega
theorem pL (v:Int):∀(a b:List SI),iX v (a++b)=iX v a+iX v b
 | [],b=>by rw[List.nil_append,iX,Nat.zero_add]
 | x::a,b=>by rw[List.cons_append,iX,iX,pL v a b];omega
theorem pM (v:Int):∀(a b:List SI),jZ v (a++b)=jZ v a+jZ v b
 | [],b=>by rw[List.nil_append,jZ,Nat.zero_add]
 | x::a,b=>by rw[List.cons_append,jZ,jZ,pM v a b];omega
theorem lW (v:Int)(l:List SI):iX v l.reverse=iX v l:=by
 induction l with
 | nil=>rfl
 | cons a r ih=>rw[List.reverse_cons,pL,ih,iX,iX,iX];omega
theorem lX (v:Int)(l:List SI):jZ v l.reverse=jZ v l:=by
 induction l with
 | nil=>rfl
 | cons a r ih=>rw[List.reverse_cons,pM,ih,jZ,jZ,jZ];omega
def bH6 (F:List (List IV))(f:Nat)(ps:List Int)(r:Bool)(body:Tr):Prop:=∃tp cc bt,F[f]? = some (.sl tp (vW ps)::.bool r::.bool cc::.sl .nil []::bt)∧Dec F body bt
def DS (F:List (List IV)):SI->St->Prop
 | .prim v op n ats,s=>s=.tm (kR v op n ats) v
 | .fn v f ps r body,s=>s=.tm (bX v f (.sl .nil [])) v∧bH6 F f ps r body
 | .rs e to,s=>s=.rs e to
def DSs (F:List (List IV)):List SI->List St->Prop
 | [],[]=>True
 | a::r,s::t=>DS F a s∧DSs F r t
 | _,_=>False
theorem DSs.app {F:M_}:∀ {a c:List SI} {b d:List St},DSs F a b->DSs F c d->DSs F (a++c) (b++d)
 | [],_,[],_,_,h=>h
 | _::_,_,_::_,_,h,g=>⟨h.1,DSs.app h.2 g⟩
 | [],_,_::_,_,h,_=>h.elim
 | _::_,_,[],_,h,_=>h.elim
theorem DSs.rev {F:M_}:∀ {a:List SI} {b:List St},DSs F a b->DSs F a.reverse b.reverse
 | [],[],_=>trivial
 | x::a,y::b,h=>by
  rw[List.reverse_cons,List.reverse_cons]
  exact DSs.app (DSs.rev h.2) ⟨h.1,trivial⟩
 | [],_::_,h=>h.elim
 | _::_,[],h=>h.elim
structure ES (p:Pg) (seen:List Int) (e:Ex):Prop where
 eo:EO p e
 sc:Sc seen e
 ns:NoS e
theorem ES.mono {p:Pg}{s s':List Int}{e:Ex}(h:ES p s e)(hs:∀v∈s,v∈s'):ES p s' e:=⟨h.eo,aP0 e.w e (Nat.le_refl _) s s' h.sc hs,h.ns⟩
theorem ES.kid {p:Pg}{s:List Int}{e x:Ex}(h:ES p s e)(hx:x∈e.ks):ES p (e.vs++s) x:=⟨h.eo.kid hx,aGa.1 ((aPy s e).1 h.sc).2 x hx,((aMb e).1 h.ns).2 x hx⟩
theorem ES.kid' {p:Pg}{s:List Int}{e x:Ex}(h:ES p s e)(h7:e.k≠7)(hx:x∈e.ks):ES p s x:=by
 have:=h.kid hx
 rw[(frP h.eo.1).vs h7]at this
 exact this
def OkS (p:Pg)(seen:List Int):SI->Prop
 | .prim v op n ats=>(∀a∈ats,pH p.cs.length seen a)∧(ats.length:Int)=bC6 op∧ats.length<=2000000∧(op=103∨op=104->0<=n∧n<p.gl)
 | .fn v f ps r body=>(r=true->ps≠[])∧ps.length<=1048577∧OkT p.cs.length p.gl (seen++ps) body
 | .rs e to=>ES p seen e
def jU (p:Pg)(seen:List Int)(l:List SI):Prop:=∀i s,l[i]? = some s->OkS p (seen++(l.take i).map SI.to) s
theorem jU.nil (p:Pg)(seen:List Int):jU p seen []:=fun i s h=>by simp at h
theorem jU.one {p:Pg}{seen:List Int}{s:SI}(h:OkS p seen s):jU p seen [s]:=fun i s' hi=>by
 cases i with
 | zero=>simp at hi;subst hi;simpa using h
 | succ i=>simp at hi
theorem jU.app {p:Pg}{seen:List Int}{a b:List SI}(h:jU p seen a)(g:jU p (seen++a.map SI.to) b):jU p seen (a++b):=fun i s hi=>by
 by_cases hl:i<a.length
 ·rw[List.getElem?_append_left hl]at hi
  rw[List.take_append_of_le_length (by omega)]
  exact h i s hi
 ·rw[List.getElem?_append_right (by omega)]at hi
  have:=g (i-a.length) s hi
  rw[List.take_append,List.take_of_length_le (by omega),List.map_append,<-List.append_assoc]
  exact this
theorem jU.snoc {p:Pg}{seen:List Int}{a:List SI}{s:SI}(h:jU p seen (a++[s])):jU p seen a∧OkS p (seen++a.map SI.to) s:=by
 refine⟨fun i s' hi=>?_,?_⟩
 ·have hl:=(List.getElem?_eq_some_iff.1 hi).1
  have:=h i s' (by rw[List.getElem?_append_left hl];exact hi)
  rw[List.take_append_of_le_length (by omega)]at this
  exact this
 ·have:=h a.length s (by rw[List.getElem?_append_right (Nat.le_refl _),Nat.sub_self];rfl)
  rw[List.take_append_of_le_length (Nat.le_refl _),List.take_length]at this
  exact this
theorem pH.mono {n:Nat}{s s':List Int}{a:List IV}(h:pH n s a)(hs:∀v∈s,v∈s'):pH n s' a:=by
 rcases h with⟨v,h1,h2⟩|h
 ·exact .inl ⟨v,h1,hs v h2⟩
 ·exact .inr h
theorem OkT.mono {n:Nat}{gl:Int}:∀ {T:Tr} {s s':List Int},OkT n gl s T->(∀v∈s,v∈s')->OkT n gl s' T
 | .prim v op m ats k,s,s',h,hs=>⟨fun a ha=>(h.1 a ha).mono hs,h.2.1,h.2.2.1,h.2.2.2.1,OkT.mono h.2.2.2.2 fun w hw=>by
   rcases List.mem_append.1 hw with hw|hw
   ·exact List.mem_append_left _ (hs w hw)
   ·exact List.mem_append_right _ hw⟩
 | .fn v f ps r body k,s,s',h,hs=>⟨h.1,h.2.1,OkT.mono h.2.2.1 fun w hw=>by
   rcases List.mem_append.1 hw with hw|hw
   ·exact List.mem_append_left _ (hs w hw)
   ·exact List.mem_append_right _ hw,OkT.mono h.2.2.2 fun w hw=>by
   rcases List.mem_append.1 hw with hw|hw
   ·exact List.mem_append_left _ (hs w hw)
   ·exact List.mem_append_right _ hw⟩
 | .ite a p q,s,s',h,hs=>⟨h.1.mono hs,OkT.mono h.2.1 hs,OkT.mono h.2.2 hs⟩
 | .call ats,s,s',h,hs=>⟨fun a ha=>(h.1 a ha).mono hs,h.2⟩
 | .appl ats,s,s',h,hs=>⟨fun a ha=>(h.1 a ha).mono hs,h.2⟩
 | .halt,s,s',h,hs=>trivial
def Ag (F:List (List IV))(σ:Mk):Prop:=∀i f,i≠1->σ.fs[i]? = some f->F[i]? = some f
theorem Le.get {σ τ:Mk}(h:Le σ τ){i:Nat}{f:List IV}(hf:σ.fs[i]? = some f):τ.fs[i]? = some f:=by
 obtain⟨r,hr⟩:=h.fs
 rw[hr,List.getElem?_append_left (List.getElem?_eq_some_iff.1 hf).1];exact hf
theorem Ag.le {F:M_}{σ τ:Mk}(h:Ag F τ)(l:Le σ τ):Ag F σ:=fun i f hi hf=>h i f hi (l.get hf)
theorem aIr (σ:Mk)(f:List IV):(σ.push f).fs[σ.fs.length]? = some f:=by show(σ.fs++[f])[σ.fs.length]? = _;simp
theorem Ag.fn {F:M_}{σ τ:Mk}{f:List IV}(h:Ag F τ)(l:Le (σ.push f).var τ)(h2:2<=σ.fs.length):F[σ.fs.length]? = some f:=h _ _ (by omega) (l.get (aIr σ f))
theorem jQ {s r:List Int}:∀v∈s,v∈s++r:=fun v hv=>List.mem_append_left _ hv
theorem okV {n:Nat}{s:List Int}{v:Int}(h:v∈s):pH n s (aV v):=.inl ⟨v,rfl,h⟩
structure Tt (p:Pg) (F:List (List IV)) (n:Nat):Prop where
 value:∀ {e σ x seen},dQ n e σ=some x->ES p seen e->2<=σ.fs.length->Ag F x.2.2->∃sis,DSs F sis x.1∧jU p seen sis∧pH p.cs.length (seen++sis.map SI.to) x.2.1∧(iC sis+1<=20*e.w∧(e.k≠6->e.k≠8->e.k≠10->e.k≠11->iC sis+6<=20*e.w))∧(∀v,iX v sis=cbE v e+rng σ.nv x.2.2.nv v)∧∀i,jZ i sis=rng σ.fs.length x.2.2.fs.length i
 values:∀ {l σ x seen},bP n l σ=some x->(∀e∈l,ES p seen e)->2<=σ.fs.length->Ag F x.2.2->∃sis,DSs F sis x.1∧jU p seen sis∧(∀a∈x.2.1,pH p.cs.length (seen++sis.map SI.to) a)∧iC sis+l.length<=20*Ex.ws l∧(∀v,iX v sis=rC v l+rng σ.nv x.2.2.nv v)∧∀i,jZ i sis=rng σ.fs.length x.2.2.fs.length i
 lam:∀ {e σ x seen},eO n e σ=some x->ES p seen e->e.k=7->2<=σ.fs.length->Ag F x.2->∃(f:Nat) (body:Tr),x.1=(f:Int)∧bH6 F f (σ.nv::e.vs) e.r body∧OkT p.cs.length p.gl (seen++(σ.nv::e.vs)) body∧1+(σ.nv::e.vs).length+nzT body+6<=20*e.w∧(∀v,cn v (σ.nv::e.vs)+cn v (bvs body)=cbE v e+rng σ.nv x.2.nv v)∧∀i,rng f (f+1) i+cn i (mks body)=rng σ.fs.length x.2.fs.length i
 laid:∀ {l t σ x seen sis T0},bN n l t σ=some x->DSs F sis l->jU p seen sis.reverse->Dec F T0 t->OkT p.cs.length p.gl (seen++sis.reverse.map SI.to) T0->2<=σ.fs.length->Ag F x.2->∃T,Dec F T x.1∧OkT p.cs.length p.gl seen T∧nzT T<=nzT T0+iC sis∧(∀v,cn v (bvs T)=cn v (bvs T0)+iX v sis+rng σ.nv x.2.nv v)∧∀i,cn i (mks T)=cn i (mks T0)+jZ i sis+rng σ.fs.length x.2.fs.length i
 code:∀ {e k σ x seen},dR n e k σ=some x->ES p seen e->pH p.cs.length seen k->2<=σ.fs.length->Ag F x.2->∃T,Dec F T x.1∧OkT p.cs.length p.gl seen T∧nzT T+3<=20*e.w∧(∀v,cn v (bvs T)=cbE v e+rng σ.nv x.2.nv v)∧∀i,cn i (mks T)=rng σ.fs.length x.2.fs.length i
 ctl:∀ {e k σ x seen},nO n e k σ=some x->ES p seen e->e.k=11->pH p.cs.length seen k->2<=σ.fs.length->Ag F x.2->∃T,Dec F T x.1∧OkT p.cs.length p.gl seen T∧nzT T+3<=20*e.w∧(∀v,cn v (bvs T)=cbE v e+rng σ.nv x.2.nv v)∧∀i,cn i (mks T)=rng σ.fs.length x.2.fs.length i
 sq:∀ {l k σ x seen},jT n l k σ=some x->(∀e∈l,ES p seen e)->pH p.cs.length seen k->2<=σ.fs.length->Ag F x.2->∃T,Dec F T x.1∧OkT p.cs.length p.gl seen T∧nzT T+3<=20*Ex.ws l∧(∀v,cn v (bvs T)=rC v l+rng σ.nv x.2.nv v)∧∀i,cn i (mks T)=rng σ.fs.length x.2.fs.length i
 parts:∀ {i l t σ x seen T0},cK n i l t σ=some x->(∀e∈l,ES p seen e)->Dec F T0 t->OkT p.cs.length p.gl seen T0->2<=σ.fs.length->Ag F x.2->∃T,Dec F T x.1∧OkT p.cs.length p.gl seen T∧nzT T+(l.take (64*i)).length<=nzT T0+20*Ex.ws (l.take (64*i))+4*i∧(∀v,cn v (bvs T)=cn v (bvs T0)+rC v (l.take (64*i))+rng σ.nv x.2.nv v)∧∀j,cn j (mks T)=cn j (mks T0)+rng σ.fs.length x.2.fs.length j
theorem pN {a b c:Nat}(h:a<=b)(g:b<=c)(v:Int):rng (a:Int) c v=rng a b v+rng b c v:=cT (by omega) (by omega) v
theorem gF (σ:Mk)(f:List IV):(σ.push f).fs.length=σ.fs.length+1:=by show(σ.fs++[f]).length=_;simp
theorem aW1 {p:Pg}{F:M_}{n:Nat}(m:Tt p F n){e:Ex}{σ:Mk}{x:List St×List IV×Mk}{seen:List Int}(h:dQ (n+1) e σ=some x)(hs:ES p seen e)(h2:2<=σ.fs.length)(ha:Ag F x.2.2):∃sis,DSs F sis x.1∧jU p seen sis∧pH p.cs.length (seen++sis.map SI.to) x.2.1∧(iC sis+1<=20*e.w∧(e.k≠6->e.k≠8->e.k≠10->e.k≠11->iC sis+6<=20*e.w))∧(∀v,iX v sis=cbE v e+rng σ.nv x.2.2.nv v)∧∀i,jZ i sis=rng σ.fs.length x.2.2.fs.length i:=by
 have mo:=mono n
 have hp:=frP hs.eo.1
 have hm:=frM hs.eo.1
 have hn4:=((aMb e).1 hs.ns).1
 rw[dQ]at h
 split at h
 ·rename_i hk
  cases h
  have h1:=hp.k1 hk
  refine⟨[],trivial,jU.nil _ _,.inr ⟨e.n,rfl,h1.1,h1.2⟩,?_,fun v=>?_,fun i=>?_⟩
  ·have hwx:=Ex.w_eq e
   simp only[iC]
   omega
  ·rw[qF,hp.vs (by omega),hm.k1 (.inl hk),pJ];show 0=0+0+rng σ.nv σ.nv v;rw[gT]
  ·exact(gT ..).symm
 ·split at h
  ·rename_i hk
   cases h
   have h1:=((aPy seen e).1 hs.sc).1 (.inl hk)
   rw[hp.vs (by omega),List.nil_append]at h1
   refine⟨[],trivial,jU.nil _ _,okV (by simpa using h1),?_,fun v=>?_,fun i=>?_⟩
   ·have hwx:=Ex.w_eq e
    simp only[iC]
    omega
   ·rw[qF,hp.vs (by omega),hm.k1 (.inr hk),pJ];show 0=0+0+rng σ.nv σ.nv v;rw[gT]
   ·exact(gT ..).symm
  ·split at h
   ·rename_i hk
    obtain⟨y,hy,h⟩:=b_ h
    have l1:=mo.lam hy
    cases h
    have ha':Ag F y.2:=ha
    obtain⟨f,body,h1,hf,ho,hnz,hb,hmk⟩:=m.lam hy hs hk h2 ha'
    have hw:=Ex.w_eq e
    have hw2:=hs.eo.2.2
    refine⟨[.fn y.2.nv f (σ.nv::e.vs) e.r body],⟨⟨by rw[h1],hf⟩,trivial⟩,jU.one ⟨fun _=>List.cons_ne_nil _ _,by rw[List.length_cons];omega,ho⟩,okV (by simp[SI.to]),?_,fun v=>?_,fun i=>?_⟩
    ·simp only[iC,nzS]
     omega
    ·rw[iX,iX,cbS]
     have:=hb v
     show _=cbE v e+rng σ.nv (y.2.nv+1) v
     rw[cT l1.nv (by omega:y.2.nv<=y.2.nv+1) v]
     omega
    ·rw[jZ,jZ,cmS]
     exact hmk i
   ·rename_i h7
    split at h
    ·rename_i hk
     obtain⟨y,hy,h⟩:=b_ h
     obtain⟨a,ha',h⟩:=b_ h
     cases h
     obtain⟨sis,d1,d2,d3,dn,d4,d5⟩:=m.values hy (fun x hx=>hs.kid' h7 hx) h2 ha
     refine⟨sis,d1,d2,d3 a (List.mem_of_getLast? ha'),(by have hwx:=Ex.w_eq e;omega),fun v=>?_,d5⟩
     rw[qF,hp.vs h7]
     show _=0+_+_
     rw[Nat.zero_add]
     exact d4 v
    ·split at h
     ·cases h
      refine⟨[.rs e σ.nv],⟨rfl,trivial⟩,jU.one hs,okV (by simp[SI.to]),?_,fun v=>?_,fun i=>?_⟩
      ·have hwx:=Ex.w_eq e
       simp only[iC,nzS]
       omega
      ·rw[iX,iX,cbS]
       show _=cbE v e+rng σ.nv (σ.nv+1) v
       omega
      ·exact(gT ..).symm
     ·rename_i hk1 hk2 hk10 hkl
      obtain⟨y,hy,h⟩:=b_ h
      have l1:=mo.values hy
      obtain⟨s1,s2,s3,s4⟩:=(cW n).values hy (fun x hx=>(hs.eo.kid hx).2)
      cases h
      have ha':Ag F y.2.2:=ha
      obtain⟨sis,d1,d2,d3,dn,d4,d5⟩:=m.values hy (fun x hx=>hs.kid' h7 hx) h2 ha'
      have har:=hp.ar (by omega) (by omega) hn4 (by omega) h7 (by omega) (by omega) (by omega)
      have hw:=Ex.w_eq e
      have hw2:=hs.eo.2.2
      have hkl:=Ex.ws_len e.ks
      refine⟨sis++[.prim y.2.2.nv (opX e) (opN e) y.2.1],DSs.app d1 (show DSs F [.prim y.2.2.nv (opX e) (opN e) y.2.1] [_] from⟨rfl,trivial⟩),d2.app (jU.one (show OkS p _ (.prim y.2.2.nv (opX e) (opN e) y.2.1) from⟨d3,by rw[s4];exact har.1,by omega,fun ho=>?_⟩)),okV (by simp[SI.to]),?_,fun v=>?_,fun i=>?_⟩
      ·have hk3:=har.2 ho
       have:=hp.k3 hk3
       have hon:opN e=e.n:=by
        unfold opN
        rcases hk3 with h3|h3
        ·simp[h3]
        ·simp[h3]
       rw[hon];exact this
      ·have hwx:=Ex.w_eq e
       rw[pK,iC,iC,nzS,s4]
       omega
      ·rw[pL,d4 v,iX,iX,cbS,qF,hp.vs h7]
       show _=0+_+rng σ.nv (y.2.2.nv+1) v
       rw[cT l1.nv (by omega:y.2.2.nv<=y.2.2.nv+1) v]
       omega
      ·rw[pM,d5 i]
       rfl
theorem aRg {p:Pg}{F:M_}{n:Nat}(m:Tt p F n){l:List Ex}{σ:Mk}{x:List St×M_×Mk}{seen:List Int}(h:bP (n+1) l σ=some x)(hs:∀e∈l,ES p seen e)(h2:2<=σ.fs.length)(ha:Ag F x.2.2):∃sis,DSs F sis x.1∧jU p seen sis∧(∀a∈x.2.1,pH p.cs.length (seen++sis.map SI.to) a)∧iC sis+l.length<=20*Ex.ws l∧(∀v,iX v sis=rC v l+rng σ.nv x.2.2.nv v)∧∀i,jZ i sis=rng σ.fs.length x.2.2.fs.length i:=by
 have mo:=mono n
 cases l with
 | nil =>
  rw[bP]at h
  cases h
  exact⟨[],trivial,jU.nil _ _,by simp,by simp[iC],fun v=>by(show 0=0+rng σ.nv σ.nv v);rw[gT],fun i=>(gT ..).symm⟩
 | cons e l =>
  rw[bP]at h
  obtain⟨y,hy,h⟩:=b_ h
  obtain⟨z,hz,h⟩:=b_ h
  have l1:=mo.value hy
  have l2:=mo.values hz
  cases h
  have ha':Ag F z.2.2:=ha
  obtain⟨s1,d1,d2,d3,dn,d4,d5⟩:=m.value hy (hs e (by simp)) h2 (ha'.le l2)
  obtain⟨s2,e1,e2,e3,en,e4,e5⟩:=m.values (seen:=seen++s1.map SI.to) hz (fun x hx=>(hs x (List.mem_cons_of_mem _ hx)).mono jQ) (Nat.le_trans h2 l1.len) ha'
  refine⟨s1++s2,DSs.app d1 e1,d2.app e2,fun a hm=>?_,?_,fun v=>?_,fun i=>?_⟩
  ·rw[List.map_append,<-List.append_assoc]
   rcases List.mem_cons.1 hm with rfl|hm
   ·exact d3.mono jQ
   ·exact e3 a hm
  ·rw[pK,Ex.ws,List.length_cons]
   have:=dn.1
   omega
  ·rw[pL,d4 v,e4 v,jP]
   show _=_+rng σ.nv z.2.2.nv v
   rw[cT l1.nv l2.nv v];omega
  ·rw[pM,d5 i,e5 i]
   exact(pN l1.len l2.len i).symm
theorem bH7 {p:Pg}{F:M_}{n:Nat}(m:Tt p F n){e:Ex}{σ:Mk}{x:Int×Mk}{seen:List Int}(h:eO (n+1) e σ=some x)(hs:ES p seen e)(hk:e.k=7)(h2:2<=σ.fs.length)(ha:Ag F x.2):∃(f:Nat) (body:Tr),x.1=(f:Int)∧bH6 F f (σ.nv::e.vs) e.r body∧OkT p.cs.length p.gl (seen++(σ.nv::e.vs)) body∧1+(σ.nv::e.vs).length+nzT body+6<=20*e.w∧(∀v,cn v (σ.nv::e.vs)+cn v (bvs body)=cbE v e+rng σ.nv x.2.nv v)∧∀i,rng f (f+1) i+cn i (mks body)=rng σ.fs.length x.2.fs.length i:=by
 have mo:=mono n
 have hl:=(frN hs.eo.1).k7 hk
 rw[eO]at h
 split at h
 ·cases h
 ·rename_i b bs hks
  rw[hks]at hl
  have hbs:bs=[]:=by simpa using hl
  subst hbs
  have hb:=hs.kid (x:=b) (by rw[hks];simp)
  obtain⟨y,hy,h⟩:=b_ h
  have l1:=mo.code hy
  cases h
  have l2:2<=y.2.fs.length:=Nat.le_trans h2 l1.len
  have hay:Ag F y.2:=ha.le (Le.push _ _)
  have hF:=ha _ _ (by omega:y.2.fs.length≠1) (aIr y.2 _)
  obtain⟨T,d1,d2,dn,d3,d4⟩:=m.code (seen:=seen++(σ.nv::e.vs)) hy (hb.mono fun v hv=>by
   rcases List.mem_append.1 hv with hv|hv
   ·simp[hv]
   ·simp[hv]) (okV (by simp)) h2 hay
  refine⟨y.2.fs.length,T,rfl,⟨_,_,_,hF,d1⟩,d2,?_,fun v=>?_,fun i=>?_⟩
  ·have hwx:=Ex.w_eq e
   rw[hks,Ex.ws,Ex.ws]at hwx
   rw[List.length_cons]
   omega
  ·rw[d3 v,qF v e,hks,jP,pJ,cn]
   show _=_+rng σ.nv y.2.nv v
   have l3:σ.nv+1<=y.2.nv:=l1.nv
   rw[cT (by omega:σ.nv<=σ.nv+1) l3 v,show σ.var.nv=σ.nv+1 from rfl]
   omega
  ·rw[d4 i]
   have l4:σ.fs.length<=y.2.fs.length:=l1.len
   show _+rng (σ.fs.length:Int) y.2.fs.length i=rng (σ.fs.length:Int) ((y.2.push _).fs.length:Nat) i
   rw[gF,pN l4 (by omega:y.2.fs.length<=y.2.fs.length+1) i,show((y.2.fs.length+1:Nat):Int)=(y.2.fs.length:Int)+1 by omega]
   omega
theorem bC7 {p:Pg}{F:M_}{n:Nat}(m:Tt p F n){l:List St}{t:List IV}{σ:Mk}{x:List IV×Mk}{seen:List Int}{sis:List SI}{T0:Tr}(h:bN (n+1) l t σ=some x)(hd:DSs F sis l)(ho:jU p seen sis.reverse)(h0:Dec F T0 t)(hT:OkT p.cs.length p.gl (seen++sis.reverse.map SI.to) T0)(h2:2<=σ.fs.length)(ha:Ag F x.2):
  ∃T,Dec F T x.1∧OkT p.cs.length p.gl seen T∧nzT T<=nzT T0+iC sis∧(∀v,cn v (bvs T)=cn v (bvs T0)+iX v sis+rng σ.nv x.2.nv v)∧∀i,cn i (mks T)=cn i (mks T0)+jZ i sis+rng σ.fs.length x.2.fs.length i:=by
 have mo:=mono n
 match l,sis,hd with
 | [],[],_ =>
  rw[bN]at h
  cases h
  refine⟨T0,h0,by simpa using hT,?_,fun v=>?_,fun i=>?_⟩
  ·rw[iC]
   omega
  ·rw[iX];show _=_+0+rng σ.nv σ.nv v;rw[gT];rfl
  ·rw[jZ];show _=_+0+rng (σ.fs.length:Int) σ.fs.length i;rw[gT];rfl
 | .tm c to::l,s::r,hd =>
  rw[List.reverse_cons]at ho hT
  obtain⟨o1,o2⟩:=ho.snoc
  rw[List.map_append,<-List.append_assoc]at hT
  rw[bN]at h
  cases s with
  | prim v op k ats =>
   have hs:St.tm c to=.tm (kR v op k ats) v:=hd.1
   injection hs with hc hto
   subst hc
   obtain⟨q1,q2,q3,q4⟩:=o2
   obtain⟨T,d1,d2,dn,d3,d4⟩:=m.laid (T0:=.prim v op k ats T0) h hd.2 o1 ⟨_,_,t,rfl,h0⟩ ⟨q1,q2,q3,q4,hT⟩ h2 ha
   refine⟨T,d1,d2,?_,fun w=>?_,fun i=>?_⟩
   ·rw[iC,nzS]
    rw[nzT]at dn
    omega
   ·rw[d3 w,iX,cbS,bvs,cn];omega
   ·rw[d4 i,jZ];show cn i (mks T0)+_+_=_+(0+_)+_;omega
  | fn v f ps rr body =>
   obtain⟨hs,hf⟩:=hd.1
   injection hs with hc hto
   subst hc
   obtain⟨q1,q2,q3⟩:=o2
   obtain⟨tp,cc,bt,hF,hB⟩:=hf
   obtain⟨T,d1,d2,dn,d3,d4⟩:=m.laid (T0:=.fn v f ps rr body T0) h hd.2 o1 ⟨t,tp,cc,bt,rfl,hF,hB,h0⟩ ⟨q1,q2,q3,hT⟩ h2 ha
   refine⟨T,d1,d2,?_,fun w=>?_,fun i=>?_⟩
   ·rw[iC,nzS]
    rw[nzT]at dn
    omega
   ·rw[d3 w,iX,cbS,bvs,cn,iW,iW];omega
   ·rw[d4 i,jZ,cmS,mks,cn,iW];omega
  | rs e to' =>
   have hs:St.tm c to=.rs e to':=hd.1
   cases hs
 | .rs e to::l,s::r,hd =>
  rw[List.reverse_cons]at ho hT
  obtain⟨o1,o2⟩:=ho.snoc
  rw[List.map_append,<-List.append_assoc]at hT
  rw[bN]at h
  cases s with
  | prim v op k ats =>
   have hs:St.rs e to=.tm (kR v op k ats) v:=hd.1
   cases hs
  | fn v f ps rr body =>
   obtain⟨hs,hf⟩:=hd.1
   cases hs
  | rs e' to' =>
   have hs:St.rs e to=.rs e' to':=hd.1
   injection hs with he hto
   subst he;subst hto
   have o2':ES p (seen++r.reverse.map SI.to) e:=o2
   obtain⟨y,hy,h⟩:=b_ h
   have l1:=mo.code hy
   have l2:=mo.laid h
   have l3:σ.nv+1<=y.2.nv:=l1.nv
   have l4:=l1.len
   rw[show((σ.push (fnF .full [to] false true t)).var).fs=(σ.push (fnF .full [to] false true t)).fs from rfl,gF]at l4
   have hay:=ha.le l2
   have hF:=hay.fn l1 h2
   obtain⟨Te,e1,e2,en,e3,e4⟩:=m.code (seen:=seen++r.reverse.map SI.to++[σ.nv]) hy (o2'.mono jQ) (okV (by simp)) (by show 2<=((σ.push _)).fs.length;rw[gF];omega) hay
   obtain⟨T,d1,d2,dn,d3,d4⟩:=m.laid (T0:=.fn σ.nv σ.fs.length [to] false T0 Te) h hd.2 o1 ⟨y.1,_,_,t,rfl,hF,h0,e1⟩ ⟨(fun h=>by cases h),by simp,hT,e2⟩ (by omega) ha
   refine⟨T,d1,d2,?_,fun w=>?_,fun i=>?_⟩
   ·rw[iC,nzS]
    rw[nzT,List.length_singleton]at dn
    omega
   ·rw[d3 w,iX,cbS,bvs,cn,iW,iW,e3 w,cn,cn]
    show _+(_+0+_+(_+rng (σ.nv+1) y.2.nv w))+_+_=_
    rw[cT (by omega:σ.nv<=σ.nv+1) (by have:=l2.nv;omega:σ.nv+1<=x.2.nv) w,cT l3 l2.nv w]
    omega
   ·rw[d4 i,jZ,mks,cn,iW,e4 i]
    show _+(_+rng ((((σ.push (fnF .full [to] false true t)).fs.length:Nat)):Int) y.2.fs.length i)+_+_=_+(0+_)+_
    rw[gF,pN (by omega:σ.fs.length<=σ.fs.length+1) (Nat.le_trans l4 l2.len) i,pN l4 l2.len i,show((σ.fs.length+1:Nat):Int)=(σ.fs.length:Int)+1 by omega]
    omega
theorem aW2 {p:Pg}{F:M_}{n:Nat}(m:Tt p F n){i:Nat}{l:List Ex}{t:List IV}{σ:Mk}{x:List IV×Mk}{seen:List Int}{T0:Tr}(h:cK (n+1) i l t σ=some x)(hs:∀e∈l,ES p seen e)(h0:Dec F T0 t)(hT:OkT p.cs.length p.gl seen T0)(h2:2<=σ.fs.length)(ha:Ag F x.2):
  ∃T,Dec F T x.1∧OkT p.cs.length p.gl seen T∧nzT T+(l.take (64*i)).length<=nzT T0+20*Ex.ws (l.take (64*i))+4*i∧(∀v,cn v (bvs T)=cn v (bvs T0)+rC v (l.take (64*i))+rng σ.nv x.2.nv v)∧∀j,cn j (mks T)=cn j (mks T0)+rng σ.fs.length x.2.fs.length j:=by
 have mo:=mono n
 cases i with
 | zero =>
  rw[cK]at h
  cases h
  refine⟨T0,h0,hT,?_,fun v=>?_,fun i=>?_⟩
  ·simp
  ·show _=_+0+rng σ.nv σ.nv v;rw[gT];rfl
  ·show _=_+rng (σ.fs.length:Int) σ.fs.length i;rw[gT];rfl
 | succ i =>
  rw[cK]at h
  obtain⟨y,hy,h⟩:=b_ h
  obtain⟨w,hw,h⟩:=b_ h
  have l1:=mo.values hy
  have l2:=mo.laid hw
  have l3:=mo.parts h
  have n1:σ.nv+1+1<=y.2.2.nv:=l1.nv
  have n4:=l1.len
  rw[show((σ.var.push (fnF .full [σ.nv] true true t)).var).fs=(σ.var.push (fnF .full [σ.nv] true true t)).fs from rfl,gF,show σ.var.fs.length=σ.fs.length from rfl]at n4
  have haw:=ha.le l3
  have hay:=haw.le l2
  have hF:=hay.fn (σ:=σ.var) l1 h2
  rw[show σ.var.fs.length=σ.fs.length from rfl]at hF
  obtain⟨sis,d1,d2,d3,dn,d4,d5⟩:=m.values (seen:=seen++[σ.nv+1]) hy (fun e he=>(hs e (List.mem_of_mem_drop (List.mem_of_mem_take he))).mono jQ) (by show 2<=(σ.var.push _).fs.length;rw[gF];show 2<=σ.fs.length+1;omega) hay
  have hds:DSs F (.fn (σ.nv+1) σ.fs.length [σ.nv] true T0::sis) (St.tm (bX (σ.nv+1) σ.fs.length (.sl .nil [])) (σ.nv+1)::y.1):=⟨⟨rfl,_,_,t,hF,h0⟩,d1⟩
  have hos:jU p seen (.fn (σ.nv+1) σ.fs.length [σ.nv] true T0::sis):=jU.app (a:=[.fn (σ.nv+1) σ.fs.length [σ.nv] true T0]) (jU.one ⟨fun _=>List.cons_ne_nil _ _,by simp,hT.mono jQ⟩) d2
  obtain⟨T1,e1,e2,en,e3,e4⟩:=m.laid (T0:=.call [aV (σ.nv+1)]) hw hds.rev (by rw[List.reverse_reverse];exact hos) ⟨.full,rfl⟩ ⟨fun a hm=>by rw[List.mem_singleton]at hm;subst hm;exact okV (by rw[List.reverse_reverse];simp[SI.to]),by simp,by simp⟩ (by omega) haw
  obtain⟨T,f1,f2,fn,f3,f4⟩:=m.parts h hs e1 e2 (Nat.le_trans h2 (Nat.le_trans (by omega) l2.len)) ha
  refine⟨T,f1,f2,?_,fun v=>?_,fun j=>?_⟩
  ·rw[show 64*(i+1)=64*i+64 by omega,List.take_add,List.length_append,aGg]
   rw[lV,iC,nzS,nzT,List.length_singleton,List.length_singleton]at en
   omega
  ·rw[f3 v,e3 v,lW,iX,cbS,d4 v,show 64*(i+1)=64*i+64 by omega,List.take_add,vX,cn,cn]
   show cn v []+(_+(_+0+_)+(_+rng (σ.nv+1+1) y.2.2.nv v))+_+_+_=_
   rw[cT (by omega:σ.nv<=σ.nv+1) (by have:=l2.nv;have:=l3.nv;omega:σ.nv+1<=x.2.nv) v,cT (by omega:σ.nv+1<=σ.nv+1+1) (by have:=l2.nv;have:=l3.nv;omega:σ.nv+1+1<=x.2.nv) v,cT n1 (Int.le_trans l2.nv l3.nv) v,cT l2.nv l3.nv v,cn]
   omega
  ·rw[f4 j,e4 j,lX,jZ,cmS,d5 j]
   show cn j []+(_+_+rng (((σ.var.push (fnF .full [σ.nv] true true t)).fs.length:Nat):Int) y.2.2.fs.length j)+_+_=_
   rw[gF,show σ.var.fs.length=σ.fs.length from rfl,pN (by omega:σ.fs.length<=σ.fs.length+1) (Nat.le_trans n4 (Nat.le_trans l2.len l3.len)) j,pN n4 (Nat.le_trans l2.len l3.len) j,pN l2.len l3.len j,cn,show((σ.fs.length+1:Nat):Int)=(σ.fs.length:Int)+1 by omega]
   omega
theorem bKx {p:Pg}{F:M_}{n:Nat}(m:Tt p F n){l:List Ex}{k:List IV}{σ:Mk}{x:List IV×Mk}{seen:List Int}(h:jT (n+1) l k σ=some x)(hs:∀e∈l,ES p seen e)(hk:pH p.cs.length seen k)(h2:2<=σ.fs.length)(ha:Ag F x.2):
  ∃T,Dec F T x.1∧OkT p.cs.length p.gl seen T∧nzT T+3<=20*Ex.ws l∧(∀v,cn v (bvs T)=rC v l+rng σ.nv x.2.nv v)∧∀i,cn i (mks T)=rng σ.fs.length x.2.fs.length i:=by
 have mo:=mono n
 rw[jT]at h
 split at h
 ·cases h
 ·rename_i z0 hz0
  obtain⟨y,hy,h⟩:=b_ h
  obtain⟨z,hz,h⟩:=b_ h
  obtain⟨w,hw,h⟩:=b_ h
  have l1:=mo.values hy
  have l2:=mo.code hz
  have l3:=mo.laid hw
  have l4:=mo.parts h
  have haw:=ha.le l4
  have haz:=haw.le l3
  have hay:=haz.le l2
  have hne:l≠[]:=by rintro rfl;simp at hz0
  have hsplit:l=l.take (64*((l.length-1) / 64))++(((l.take (l.length-1)).drop (64*((l.length-1) / 64)))++[z0]):=by
   have h1:l=l.take (l.length-1)++[z0]:=by
    rw[List.getLast?_eq_some_getLast hne]at hz0
    cases hz0
    rw[<-List.dropLast_eq_take];exact(List.dropLast_concat_getLast hne).symm
   have h2:l.take (64*((l.length-1) / 64))=(l.take (l.length-1)).take (64*((l.length-1) / 64)):=by rw[List.take_take,Nat.min_eq_left (by omega)]
   rw[h2,<-List.append_assoc,List.take_append_drop]
   exact h1
  obtain⟨sis,d1,d2,d3,dn,d4,d5⟩:=m.values hy (fun e he=>hs e (List.mem_of_mem_take (List.mem_of_mem_drop he))) h2 hay
  obtain⟨Tz,z1,z2,zn,z3,z4⟩:=m.code hz (hs z0 (List.mem_of_getLast? hz0)) hk (Nat.le_trans h2 l1.len) haz
  obtain⟨T1,e1,e2,en,e3,e4⟩:=m.laid hw d1.rev (by rw[List.reverse_reverse];exact d2) z1 (z2.mono jQ) (Nat.le_trans h2 (Nat.le_trans l1.len l2.len)) haw
  obtain⟨T,f1,f2,fn,f3,f4⟩:=m.parts h hs e1 e2 (Nat.le_trans h2 (Nat.le_trans l1.len (Nat.le_trans l2.len l3.len))) ha
  refine⟨T,f1,f2,?_,fun v=>?_,fun j=>?_⟩
  ·have hc:=congrArg Ex.ws hsplit
   rw[aGg,aGg,Ex.ws,Ex.ws]at hc
   rw[lV]at en
   rw[List.length_take,Nat.min_eq_left (by omega)]at fn
   omega
  ·have hc:=congrArg (rC v) hsplit
   rw[vX,vX,jP,pJ]at hc
   rw[f3 v,e3 v,z3 v,lW,d4 v,cT l1.nv (Int.le_trans l2.nv (Int.le_trans l3.nv l4.nv)) v,cT l2.nv (Int.le_trans l3.nv l4.nv) v,cT l3.nv l4.nv v]
   omega
  ·rw[f4 j,e4 j,z4 j,lX,d5 j,pN l1.len (Nat.le_trans l2.len (Nat.le_trans l3.len l4.len)) j,pN l2.len (Nat.le_trans l3.len l4.len) j,pN l3.len l4.len j]
   omega
theorem bH8 {p:Pg}{F:M_}{n:Nat}(m:Tt p F n){e:Ex}{k:List IV}{σ:Mk}{x:List IV×Mk}{seen:List Int}(h:nO (n+1) e k σ=some x)(hs:ES p seen e)(hk:e.k=11)(ho:pH p.cs.length seen k)(h2:2<=σ.fs.length)(ha:Ag F x.2):
  ∃T,Dec F T x.1∧OkT p.cs.length p.gl seen T∧nzT T+3<=20*e.w∧(∀v,cn v (bvs T)=cbE v e+rng σ.nv x.2.nv v)∧∀i,cn i (mks T)=rng σ.fs.length x.2.fs.length i:=by
 have mo:=mono n
 have hp:=frP hs.eo.1
 have hvs:=hp.vs (by omega)
 rw[nO]at h
 obtain⟨y,hy,h⟩:=b_ h
 have l1:=mo.values hy
 have hce:∀v,cbE v e=rC v e.ks:=fun v=>by rw[qF,hvs];show 0+_=_;omega
 have hKs:∀x∈e.ks,ES p seen x:=fun x hx=>hs.kid' (by omega) hx
 split at h
 ·split at h
  ·rename_i a b r hat
   have l2:=mo.laid h
   obtain⟨sis,d1,d2,d3,dn,d4,d5⟩:=m.values hy hKs h2 (ha.le l2)
   rw[hat]at d3
   obtain⟨T,f1,f2,fn,f3,f4⟩:=m.laid (T0:=.appl [a,k,b]) h d1.rev (by rw[List.reverse_reverse];exact d2) ⟨.full,rfl⟩ ⟨fun q hq=>by
    rw[List.reverse_reverse]
    rcases List.mem_cons.1 hq with rfl|hq
    ·exact d3 _ (by simp)
    ·rcases List.mem_cons.1 hq with rfl|hq
     ·exact ho.mono jQ
     ·rw[List.mem_singleton]at hq;subst hq;exact d3 _ (by simp),by simp,by simp⟩ (Nat.le_trans h2 l1.len) ha
   refine⟨T,f1,f2,?_,fun v=>?_,fun i=>?_⟩
   ·have hwx:=Ex.w_eq e
    rw[lV,nzT]at fn
    simp only[List.length_cons,List.length_nil]at fn
    omega
   ·rw[f3 v,lW,d4 v,hce,cT l1.nv l2.nv v]
    show 0+_+_=_
    omega
   ·rw[f4 i,lX,d5 i,pN l1.len l2.len i]
    show 0+_+_=_
    omega
  ·cases h
 ·split at h
  ·split at h
   ·rename_i a r hat
    have l2:=mo.laid h
    have l0:Le y.2.2 x.2:=((Le.var _).trans ((Le.var _).trans ((Le.push _ _).trans (Le.var _)))).trans l2
    obtain⟨sis,d1,d2,d3,dn,d4,d5⟩:=m.values hy hKs h2 (ha.le l0)
    rw[hat]at d3
    have h2':2<=y.2.2.fs.length:=Nat.le_trans h2 l1.len
    have hF:=ha.fn (σ:=y.2.2.var.var) l2 h2'
    have hds:DSs F (sis++[.fn (y.2.2.nv+2) y.2.2.fs.length [y.2.2.nv,y.2.2.nv+1] true (.appl [k,aV (y.2.2.nv+1)])]) (y.1++[St.tm (bX (y.2.2.nv+2) y.2.2.fs.length (.sl .nil [])) (y.2.2.nv+2)]):=DSs.app d1 ⟨⟨rfl,_,_,_,hF,.full,rfl⟩,trivial⟩
    have hos:jU p seen (sis++[.fn (y.2.2.nv+2) y.2.2.fs.length [y.2.2.nv,y.2.2.nv+1] true (.appl [k,aV (y.2.2.nv+1)])]):=d2.app (jU.one (show OkS p _ (.fn (y.2.2.nv+2) y.2.2.fs.length [y.2.2.nv,y.2.2.nv+1] true (.appl [k,aV (y.2.2.nv+1)])) from⟨fun _=>List.cons_ne_nil _ _,by simp,fun q hq=>by
     rcases List.mem_cons.1 hq with rfl|hq
     ·exact(ho.mono jQ).mono jQ
     ·rw[List.mem_singleton]at hq;subst hq;exact okV (by simp),by simp,by simp⟩))
    obtain⟨T,f1,f2,fn,f3,f4⟩:=m.laid (T0:=.call [a,k,aV (y.2.2.nv+2)]) h hds.rev (by rw[List.reverse_reverse];exact hos) ⟨.full,rfl⟩ ⟨fun q hq=>by
     rw[List.reverse_reverse,List.map_append,<-List.append_assoc]
     rcases List.mem_cons.1 hq with rfl|hq
     ·exact(d3 _ (by simp)).mono jQ
     ·rcases List.mem_cons.1 hq with rfl|hq
      ·exact(ho.mono jQ).mono jQ
      ·rw[List.mem_singleton]at hq;subst hq;exact okV (by simp[SI.to]),by simp,by simp⟩ (by show 2<=(y.2.2.var.var.push _).fs.length;rw[gF];show 2<=y.2.2.fs.length+1;omega) ha
    have n2:y.2.2.nv+1+1+1<=x.2.nv:=l2.nv
    have n3:=l2.len
    rw[show((y.2.2.var.var.push (fnF .full [y.2.2.nv,y.2.2.nv+1] true false (eD [k,aV (y.2.2.nv+1)]))).var).fs=(y.2.2.var.var.push (fnF .full [y.2.2.nv,y.2.2.nv+1] true false (eD [k,aV (y.2.2.nv+1)]))).fs from rfl,gF,show y.2.2.var.var.fs.length=y.2.2.fs.length from rfl]at n3
    refine⟨T,f1,f2,?_,fun v=>?_,fun i=>?_⟩
    ·have hwx:=Ex.w_eq e
     rw[lV,pK,iC,iC,nzS,nzT,nzT]at fn
     simp only[List.length_cons,List.length_nil]at fn
     omega
    ·rw[f3 v,lW,pL,iX,iX,cbS,d4 v,hce,cT l1.nv l0.nv v,cT (by omega:y.2.2.nv<=y.2.2.nv+1) (by omega:y.2.2.nv+1<=x.2.nv) v,cT (by omega:y.2.2.nv+1<=y.2.2.nv+1+1) (by omega:y.2.2.nv+1+1<=x.2.nv) v,cT (by omega:y.2.2.nv+1+1<=y.2.2.nv+1+1+1) n2 v,cn,cn,cn]
     rw[show y.2.2.nv+2=y.2.2.nv+1+1 by omega]
     show 0+(_+(_+(_+(_+0)+0))+0)+rng (y.2.2.nv+1+1+1) x.2.nv v=_
     omega
    ·rw[f4 i,lX,pM,jZ,jZ,cmS,d5 i,pN l1.len (Nat.le_trans (by omega) n3) i,pN (by omega:y.2.2.fs.length<=y.2.2.fs.length+1) n3 i]
     show 0+(_+(rng (y.2.2.fs.length:Int) ((y.2.2.fs.length:Int)+1) i+0+0))+rng (((y.2.2.var.var.push (fnF .full [y.2.2.nv,y.2.2.nv+1] true false (eD [k,aV (y.2.2.nv+1)]))).fs.length:Nat):Int) x.2.fs.length i=_
     rw[gF,show y.2.2.var.var.fs.length=y.2.2.fs.length from rfl,show((y.2.2.fs.length+1:Nat):Int)=(y.2.2.fs.length:Int)+1 by omega]
     omega
   ·cases h
  ·split at h
   ·rename_i a b r hat
    have l2:=mo.laid h
    have l0:Le y.2.2 x.2:=((Le.var _).trans ((Le.push _ _).trans (Le.var _))).trans l2
    obtain⟨sis,d1,d2,d3,dn,d4,d5⟩:=m.values hy hKs h2 (ha.le l0)
    rw[hat]at d3
    have h2':2<=y.2.2.fs.length:=Nat.le_trans h2 l1.len
    have hF:=ha.fn (σ:=y.2.2.var) l2 h2'
    have hds:DSs F (sis++[.fn (y.2.2.nv+1) y.2.2.fs.length [y.2.2.nv] true (.appl [b,k,aV y.2.2.nv])]) (y.1++[St.tm (bX (y.2.2.nv+1) y.2.2.fs.length (.sl .nil [])) (y.2.2.nv+1)]):=DSs.app d1 ⟨⟨rfl,_,_,_,hF,.full,rfl⟩,trivial⟩
    have hos:jU p seen (sis++[.fn (y.2.2.nv+1) y.2.2.fs.length [y.2.2.nv] true (.appl [b,k,aV y.2.2.nv])]):=d2.app (jU.one (show OkS p _ (.fn (y.2.2.nv+1) y.2.2.fs.length [y.2.2.nv] true (.appl [b,k,aV y.2.2.nv])) from⟨fun _=>List.cons_ne_nil _ _,by simp,fun q hq=>by
     rcases List.mem_cons.1 hq with rfl|hq
     ·exact(d3 _ (by simp)).mono jQ
     ·rcases List.mem_cons.1 hq with rfl|hq
      ·exact(ho.mono jQ).mono jQ
      ·rw[List.mem_singleton]at hq;subst hq;exact okV (by simp),by simp,by simp⟩))
    obtain⟨T,f1,f2,fn,f3,f4⟩:=m.laid (T0:=.call [a,aV (y.2.2.nv+1)]) h hds.rev (by rw[List.reverse_reverse];exact hos) ⟨.full,rfl⟩ ⟨fun q hq=>by
     rw[List.reverse_reverse,List.map_append,<-List.append_assoc]
     rcases List.mem_cons.1 hq with rfl|hq
     ·exact(d3 _ (by simp)).mono jQ
     ·rw[List.mem_singleton]at hq;subst hq;exact okV (by simp[SI.to]),by simp,by simp⟩ (by show 2<=(y.2.2.var.push _).fs.length;rw[gF];show 2<=y.2.2.fs.length+1;omega) ha
    have n2:y.2.2.nv+1+1<=x.2.nv:=l2.nv
    have n3:=l2.len
    rw[show((y.2.2.var.push (fnF .full [y.2.2.nv] true true (eD [b,k,aV y.2.2.nv]))).var).fs=(y.2.2.var.push (fnF .full [y.2.2.nv] true true (eD [b,k,aV y.2.2.nv]))).fs from rfl,gF,show y.2.2.var.fs.length=y.2.2.fs.length from rfl]at n3
    refine⟨T,f1,f2,?_,fun v=>?_,fun i=>?_⟩
    ·have hwx:=Ex.w_eq e
     rw[lV,pK,iC,iC,nzS,nzT,nzT]at fn
     simp only[List.length_cons,List.length_nil]at fn
     omega
    ·rw[f3 v,lW,pL,iX,iX,cbS,d4 v,hce,cT l1.nv l0.nv v,cT (by omega:y.2.2.nv<=y.2.2.nv+1) (by omega:y.2.2.nv+1<=x.2.nv) v,cT (by omega:y.2.2.nv+1<=y.2.2.nv+1+1) n2 v,cn,cn]
     show 0+(_+(_+(_+0+0)+0))+rng (y.2.2.nv+1+1) x.2.nv v=_
     omega
    ·rw[f4 i,lX,pM,jZ,jZ,cmS,d5 i,pN l1.len (Nat.le_trans (by omega) n3) i,pN (by omega:y.2.2.fs.length<=y.2.2.fs.length+1) n3 i]
     show 0+(_+(rng (y.2.2.fs.length:Int) ((y.2.2.fs.length:Int)+1) i+0+0))+rng (((y.2.2.var.push (fnF .full [y.2.2.nv] true true (eD [b,k,aV y.2.2.nv]))).fs.length:Nat):Int) x.2.fs.length i=_
     rw[gF,show y.2.2.var.fs.length=y.2.2.fs.length from rfl,show((y.2.2.fs.length+1:Nat):Int)=(y.2.2.fs.length:Int)+1 by omega]
     omega
   ·cases h
theorem bC8 {p:Pg}{F:M_}{n:Nat}(m:Tt p F n){e:Ex}{k:List IV}{σ:Mk}{x:List IV×Mk}{seen:List Int}(h:dR (n+1) e k σ=some x)(hs:ES p seen e)(ho:pH p.cs.length seen k)(h2:2<=σ.fs.length)(ha:Ag F x.2):
  ∃T,Dec F T x.1∧OkT p.cs.length p.gl seen T∧nzT T+3<=20*e.w∧(∀v,cn v (bvs T)=cbE v e+rng σ.nv x.2.nv v)∧∀i,cn i (mks T)=rng σ.fs.length x.2.fs.length i:=by
 have mo:=mono n
 have hp:=frP hs.eo.1
 have hw:=Ex.w_eq e
 have hw2:=hs.eo.2.2
 have hkl:=Ex.ws_len e.ks
 rw[dR]at h
 split at h
 ·rename_i hk
  have hvs:=hp.vs (by omega)
  have hce:∀v,cbE v e=rC v e.ks:=fun v=>by rw[qF,hvs];show 0+_=_;omega
  obtain⟨y,hy,h⟩:=b_ h
  have l1:=mo.values hy
  obtain⟨s1,s2,s3,s4⟩:=(cW n).values hy (fun x hx=>(hs.eo.kid hx).2)
  split at h
  ·cases h
  ·rename_i a r hat
   have l2:=mo.laid h
   obtain⟨sis,d1,d2,d3,dn,d4,d5⟩:=m.values hy (fun x hx=>hs.kid' (by omega) hx) h2 (ha.le l2)
   rw[hat]at d3 s4
   rw[List.length_cons]at s4
   obtain⟨T,f1,f2,fn,f3,f4⟩:=m.laid (T0:=.call (a::k::r)) h d1.rev (by rw[List.reverse_reverse];exact d2) ⟨.no,rfl⟩ ⟨fun q hq=>by
    rw[List.reverse_reverse]
    rcases List.mem_cons.1 hq with rfl|hq
    ·exact d3 _ (by simp)
    ·rcases List.mem_cons.1 hq with rfl|hq
     ·exact ho.mono jQ
     ·exact d3 _ (List.mem_cons_of_mem _ hq),by simp,by rw[List.length_cons,List.length_cons];omega⟩ (Nat.le_trans h2 l1.len) ha
   refine⟨T,f1,f2,?_,fun v=>?_,fun i=>?_⟩
   ·have hwx:=Ex.w_eq e
    rw[lV,nzT,List.length_cons,List.length_cons]at fn
    omega
   ·rw[f3 v,lW,d4 v,hce,cT l1.nv l2.nv v]
    show 0+_+_=_
    omega
   ·rw[f4 i,lX,d5 i,pN l1.len l2.len i]
    show 0+_+_=_
    omega
 ·split at h
  ·rename_i h8 hk
   split at h
   ·rename_i c0 p0 q0 rr hks
    have hl:=(frN hs.eo.1).k6 hk
    rw[hks]at hl
    have hrr:rr=[]:=by simpa using hl
    subst hrr
    have hvs:=hp.vs (by omega)
    have hK:∀x∈[c0,p0,q0],ES p seen x:=fun x hx=>hs.kid' (by omega) (by rw[hks];exact hx)
    obtain⟨y,hy,h⟩:=b_ h
    obtain⟨z,hz,h⟩:=b_ h
    obtain⟨w,hw',h⟩:=b_ h
    have l1:=mo.value hy
    have l2:=mo.code hz
    have l3:=mo.code hw'
    have l4:=mo.laid h
    have haw:=ha.le l4
    have haz:=haw.le l3
    have hay:=haz.le l2
    obtain⟨sis,d1,d2,d3,dn,d4,d5⟩:=m.value hy (hK c0 (by simp)) h2 hay
    obtain⟨Tp,p1,p2,pn,p3,p4⟩:=m.code hz (hK p0 (by simp)) ho (Nat.le_trans h2 l1.len) haz
    obtain⟨Tq,q1,q2,qn,q3,q4⟩:=m.code hw' (hK q0 (by simp)) ho (Nat.le_trans h2 (Nat.le_trans l1.len l2.len)) haw
    obtain⟨T,f1,f2,fn,f3,f4⟩:=m.laid (T0:=.ite y.2.1 Tp Tq) h d1.rev (by rw[List.reverse_reverse];exact d2) ⟨_,_,rfl,p1,q1⟩ (by rw[List.reverse_reverse];exact⟨d3,p2.mono jQ,q2.mono jQ⟩) (Nat.le_trans h2 (Nat.le_trans l1.len (Nat.le_trans l2.len l3.len))) ha
    refine⟨T,f1,f2,?_,fun v=>?_,fun i=>?_⟩
    ·have hwx:=Ex.w_eq e
     rw[hks,Ex.ws,Ex.ws,Ex.ws,Ex.ws]at hwx
     rw[lV,nzT]at fn
     have:=dn.1
     omega
    ·rw[f3 v,lW,d4 v,qF v e,hvs,hks,jP,jP,jP,pJ,bvs,iW,p3 v,q3 v,cT l1.nv (Int.le_trans l2.nv (Int.le_trans l3.nv l4.nv)) v,cT l2.nv (Int.le_trans l3.nv l4.nv) v,cT l3.nv l4.nv v,cn]
     omega
    ·rw[f4 i,lX,d5 i,mks,iW,p4 i,q4 i,pN l1.len (Nat.le_trans l2.len (Nat.le_trans l3.len l4.len)) i,pN l2.len (Nat.le_trans l3.len l4.len) i,pN l3.len l4.len i]
     omega
   ·cases h
  ·split at h
   ·rename_i hk
    have hvs:=hp.vs (by omega)
    obtain⟨T,f1,f2,fn,f3,f4⟩:=m.sq h (fun x hx=>hs.kid' (by omega) hx) ho h2 ha
    refine⟨T,f1,f2,(by have hwx:=Ex.w_eq e;omega),fun v=>?_,f4⟩
    rw[f3 v,qF,hvs]
    show _=0+_+_
    omega
   ·split at h
    ·rename_i hk;exact m.ctl h hs hk ho h2 ha
    ·obtain⟨y,hy,h⟩:=b_ h
     have l1:=mo.value hy
     have l2:=mo.laid h
     obtain⟨sis,d1,d2,d3,dn,d4,d5⟩:=m.value hy hs h2 (ha.le l2)
     obtain⟨T,f1,f2,fn,f3,f4⟩:=m.laid (T0:=.call [k,y.2.1]) h d1.rev (by rw[List.reverse_reverse];exact d2) ⟨.full,rfl⟩ ⟨fun q hq=>by
      rw[List.reverse_reverse]
      rcases List.mem_cons.1 hq with rfl|hq
      ·exact ho.mono jQ
      ·rw[List.mem_singleton]at hq;subst hq;exact d3,by simp,by simp⟩ (Nat.le_trans h2 l1.len) ha
     refine⟨T,f1,f2,?_,fun v=>?_,fun i=>?_⟩
     ·rw[lV,nzT]at fn
      simp only[List.length_cons,List.length_nil]at fn
      have:=dn.2 (by omega) (by omega) (by omega) (by omega)
      omega
     ·rw[f3 v,lW,d4 v,cT l1.nv l2.nv v]
      show 0+_+_=_
      omega
     ·rw[f4 i,lX,d5 i,pN l1.len l2.len i]
      show 0+_+_=_
      omega
theorem bGq (p:Pg)(F:M_):∀n,Tt p F n
 | 0=>⟨fun h=>by simp[dQ]at h,fun h=>by simp[bP]at h,fun h=>by simp[eO]at h,fun h=>by simp[bN]at h,fun h=>by simp[dR]at h,fun h=>by simp[nO]at h,fun h=>by simp[jT]at h,fun h=>by simp[cK]at h⟩
 | n+1=>by
  have m:=bGq p F n
  exact⟨fun h=>aW1 m h,fun h=>aRg m h,fun h=>bH7 m h,fun h=>bC7 m h,fun h=>bC8 m h,fun h=>bH8 m h,fun h=>bKx m h,fun h=>aW2 m h⟩
def noC:List IV:=[.sl .nil [],.int .i64 0,.int .i64 0,.int .i64 0,.sl .nil []]
theorem bC9 {p:Pg}(hp:p.b.w<=1048576∧Dt.ws p.cs<=1048576)(h:qE p≠0):TM.Pure K 9 [.iv (.agg (dY p))] (.tup [.iv (.agg noC),j_ (qE p)]):=by
 have c11:=aGe p hp
 unfold dY at *
 refine eM t9 rfl rfl ?_
 simp (disch:=omega) only[t9,go_sem,aF c11,h,noC]
theorem aW3 {p:Pg}(hp:p.b.w<=1048576∧Dt.ws p.cs<=1048576)(h:qE p=0)(hs:gL p.b.w p.b=true):TM.Pure K 9 [.iv (.agg (dY p))] (.tup [.iv (.agg noC),j_ 2]):=by
 have c11:=aGe p hp
 have c19:=aLv p.b.w p.b (Nat.le_refl _) hp.1 []
 rw[h]at c11
 rw[hs,aL]at c19
 unfold dY at *
 refine eM t9 rfl rfl ?_
 simp (disch:=omega) only[t9,go_sem,aF c11,c19,noC]
def gG (v:Int):List IV:=[.sl .full [[.int .i64 v]],.bool false,.bool true,.sl .nil [],.int .i64 7,.int .i64 0,.int .i64 0,.int .i64 0,.int .i64 0,.sl .nil [],.sl .nil []]
def uE:List IV:=[.sl .nil [],.bool false,.bool false,.sl .nil [],.int .i64 0,.int .i64 0,.int .i64 0,.int .i64 0,.int .i64 0,.sl .nil [],.sl .nil []]
def stB (v:Int):aP:=.cells 64 false [.iv (.sl .nil []),.iv (.int .i64 v)]
theorem bMi (v:Int)(h:0<=v∧v<4611686018427387904):(lim K).call 21 [.ptr 0 64 0] [stB v]=.ret (j_ v,[stB (v+1)]):=by
 unfold stB
 refine aB K _ (fn:=t21) rfl rfl ?_
 simp (disch:=omega) only[t21,go_sem,aH,Int.add_sub_cancel]
theorem bKy (v w:Int):bY true 11 144 47 [aP.cells 64 false [k_,j_ w]] k_ (.iv (.sl .full [gG v]))=some (.msl 1 0 0 1 1 11,[aP.cells 64 false [k_,j_ w],.cells 0 true (cG [gG v])]):=by
 simp[bY,iR,lenOf,TM.cA,gG,cB,TM.iE,fZ,cG]
theorem bMj (v w:Int):(lim K).call 20 [.ptr 0 64 0,.iv (.agg (gG v))] [stB w]=.ret (j_ 0,[mkB 1 ⟨[gG v],w⟩,.cells 0 true (cG [gG v])]):=by
 have ap:=bKy v w
 generalize hc:cG [gG v]=cs at *
 unfold stB gG mkB at *
 refine aB K _ (fn:=t20) rfl rfl ?_
 simp (disch:=omega) only[t20,go_sem,aH,ap]
 rfl
theorem aEp {S:aA}{j v:Nat}{fs:M_}(h:S[j]? = some (.cells v true (cG fs)))(hw:∀f∈fs,f.length=11):fB S (.msl j v 0 fs.length fs.length 11)=some fs:=by
 have hs:sub (cG fs) 0 (fs.length*11)=some (cG fs):=aH9 (aA7 hw)
 have hc:toIVs (cG fs)=some (TM.cA fs):=aE5 _
 simp only[fB,h,ne_eq,not_true_eq_false,if_false,hs,hc,Option.map_some]
 rw[oV hw]
def kC (p:Pg):Mk:=⟨[gG p.vr,uE],p.vr+2⟩
theorem bDa {p:Pg}(hp:p.b.w<=1048576∧Dt.ws p.cs<=1048576)(ho:p.b.ok)(hv:0<=p.vr∧p.vr<=1152921504606846976)(h:qE p=0)(hs:gL p.b.w p.b=false){n:Nat}{x:List IV×Mk}(hx:dR n p.b (aV (p.vr+1)) (kC p)=some x)(hB:Bd p.vr x.2):
  ∃tg,TM.Pure K 9 [.iv (.agg (dY p))] (.tup [.iv (.agg [.sl tg (x.2.fs.set 1 ([.sl .nil [],.bool false,.bool false,.sl .nil []]++bX (p.vr+1) 0 (.sl .full [x.1]))),.int .i64 1,.int .i64 x.2.nv,.int .i64 p.gl,.sl p.gc (dW p.cs)]),j_ 0]):=by
 have c11:=aGe p hp
 have c19:=aLv p.b.w p.b (Nat.le_refl _) hp.1 []
 rw[h]at c11
 rw[hs]at c19
 have hb0:=hv
 have c21:=bMi p.vr (by omega)
 have c20:=bMj p.vr (p.vr+1)
 have hM1:MkS [mkB 1 ⟨[gG p.vr],p.vr+1⟩,.cells 0 true (cG [gG p.vr])] 0 1 ⟨[gG p.vr],p.vr+1⟩ :=
  ⟨rfl,rfl,by simp,fun f hf=>by rw[List.mem_singleton]at hf;subst hf;exact⟨rfl,rfl⟩,by show 0<=p.vr+1∧p.vr+1<=_∧1<=1000000;omega⟩
 have c22:=aFx hM1 0
 have hM2:=hM1.var (by show p.vr+1<_;omega)
 generalize hS2:[mkB 1 ⟨[gG p.vr],p.vr+1⟩,aP.cells 0 true (cG [gG p.vr])].set 0 (mkB 1 (Mk.var ⟨[gG p.vr],p.vr+1⟩))=S2 at *
 have hl2:S2.length=2:=by rw[<-hS2];rfl
 have c20z:=xL hM2 (.sl .nil []) (.bool false) (.bool false) (.sl .nil []) (.int .i64 0) (.int .i64 0) (.int .i64 0) (.int .i64 0) (.int .i64 0) (.sl .nil []) (.sl .nil []) rfl
 have hM3:=hM2.push (f:=uE) rfl rfl (by show 1<1000000;decide)
 rw[show Mk.push (Mk.var ⟨[gG p.vr],p.vr+1⟩) uE=kC p from by unfold kC Mk.push Mk.var;congr 1;show p.vr+1+1=p.vr+2;omega]at hM3
 rw[show Mk.push (Mk.var ⟨[gG p.vr],p.vr+1⟩) [.sl .nil [],.bool false,.bool false,.sl .nil [],.int .i64 0,.int .i64 0,.int .i64 0,.int .i64 0,.int .i64 0,.sl .nil [],.sl .nil []]=kC p from by unfold kC Mk.push Mk.var;congr 1;show p.vr+1+1=p.vr+2;omega]at c20z
 generalize hS3:(S2.set 1 (.cells (Mk.var ⟨[gG p.vr],p.vr+1⟩).fs.length true (cG ((Mk.var ⟨[gG p.vr],p.vr+1⟩).fs++[uE])))).set 0 (mkB 1 (kC p))=S3 at *
 have hl3:S3.length=2:=by rw[<-hS3];simp[hl2]
 let Z:aP:=.cells 46 false [j_ 0,j_ 0,j_ 0,j_ 0,j_ 0,k_,k_]
 have kA:aJ [] S3 (S3++[Z]):=aJ.app _ _ _
 have hM4:=hM3.keep kA (by simp) (by simp)
 have z4:(S3++[Z])[2]? = some Z:=by rw[<-hl3,dG]
 have hle:=(mono n).code hx
 obtain⟨S5,c24,hM5,k5⟩:=(aV5 hb0 n n (Nat.le_refl _)).c hx ⟨ho,hp.1⟩ (by show p.vr<=p.vr+2;omega) hB hM4
 have tx:=(cW n).code hx ⟨ho,hp.1⟩
 obtain⟨S6,c23,hM6,k6⟩:=(aV5 hb0 2 2 (Nat.le_refl _)).d (l:=[St.tm (bX (p.vr+1) 0 (.sl .nil [])) (p.vr+1)]) (t:=x.1) (σ:=x.2) (x:=((bX (p.vr+1) 0 (.sl .nil [])).set 6 (.sl .full [x.1]),x.2)) (by
  rw[List.reverse_singleton,bN,bN]) (.inr (.inr rfl)) tx (fun s hs=>by rw[List.mem_singleton]at hs;subst hs;exact TmO.fun ..) (by simp) (by have:=hle.nv;simp only[kC]at this;omega) hB hM5
 have c25:=mJ (p.vr+1)
 have z5:=k5.get _ _ (by simp) z4
 have z6:=k6.get _ _ (by simp) z5
 obtain⟨r,hr⟩:=hle.fs
 obtain⟨a0,a1,a2,a3,a4,a5,a6,b5,b6,hxt⟩:=tx
 rw[aL]at c19 c24
 unfold dY at c11 ⊢
 refine⟨.no,eM t9 rfl rfl ?_⟩
 have e1:p.vr+1+1=p.vr+2:=by omega
 have c21':(lim K).call 21 [.ptr 0 64 0] [.cells 64 false [k_,j_ p.vr]]=.ret (j_ p.vr,[stB (p.vr+1)]):=c21
 unfold gG uE at *
 rw[hS3]at c20z
 rw[hxt]at c24 ⊢
 rw[show eQ [St.tm (bX (p.vr+1) 0 (.sl .nil [])) (p.vr+1)]=[oG (p.vr+1) 0] from rfl,show(bX (p.vr+1) 0 (.sl .nil [])).set 6 (.sl .full [x.1])=bX (p.vr+1) 0 (.sl .full [x.1]) from rfl,hxt]at c23
 unfold aV oG bX at *
 simp only[Z]at c24 z6
 rw[show(Mk.var ⟨[[.sl .full [[.int .i64 p.vr]],.bool false,.bool true,.sl .nil [],.int .i64 7,.int .i64 0,.int .i64 0,.int .i64 0,.int .i64 0,.sl .nil [],.sl .nil []]],p.vr+1⟩).fs.length=1 from rfl]at c20z
 have o6:=hM6.own
 have r6:=hM6.row
 have q0:∀X,(S6.set 2 X)[0]? = some (mkB 1 x.2):=fun X=>by rw[aU (by decide)];exact o6
 have q1:∀X,(S6.set 2 X)[1]? = some (.cells (x.2.fs.length-1) true (cG x.2.fs)):=fun X=>by rw[aU (by decide)];exact r6
 have q2:∀X,(S6.set 2 X)[2]? = some X:=fun X=>bQ (aO z6) X
 unfold mkB at q0
 rw[hr,kC]at q0 q1
 have hLn:([gG p.vr,uE]++r).length=r.length+2:=by simp
 have hc0:cG ([gG p.vr,uE]++r)=[.iv (.sl .full [[.int .i64 p.vr]]),z_,e_,k_,j_ 7,j_ 0,j_ 0,j_ 0,j_ 0,k_,k_,k_,z_,z_,k_,j_ 0,j_ 0,j_ 0,j_ 0,j_ 0,k_,k_]++cG r:=rfl
 rw[hLn]at q0 q1
 rw[hc0]at q1
 rw[show r.length+2-1=r.length+1 by omega]at q0 q1
 generalize hcr:cG r=cr at *
 have q3:∀X Y,((S6.set 2 X).set 1 Y)[0]? = some (aP.cells 64 false [TV.msl 1 (r.length+1) 0 (r.length+2) (r.length+2) 11,TV.iv (IV.int IntKind.i64 x.2.nv)]):=fun X Y=>by rw[aU (by decide)];exact q0 X
 have q4:∀X Y,((S6.set 2 X).set 1 Y)[1]? = some Y:=fun X Y=>bQ (by simp;exact aO r6) Y
 have hia:indexAddrS 11 (.msl 1 (r.length+1) 0 (r.length+2) (r.length+2) 11) ((1:Nat):Int)=some (.ptr 1 (r.length+1) 11):=by
  simp[indexAddrS];omega
 simp only[List.cons_append,List.nil_append]at q1
 simp (disch:=omega) only[t9,go_sem,aF c11,c19,c21',c20,c22,c20z,aF c25,hl3,c24,c23,z5,z6,q0,q1,q2,hia,q3,q4]
 have hfl:(x.2.fs.set 1 ([.sl .nil [],.bool false,.bool false,.sl .nil []]++[.int .i64 2,.int .i64 (p.vr+1),.int .i64 0,.int .i64 0,.int .i64 0,.sl .nil [],.sl .full [[.int .i64 a0,.int .i64 a1,.int .i64 a2,.int .i64 a3,.int .i64 a4,.sl a5 b5,.sl a6 b6]]])).length=r.length+2:=by rw[List.length_set,hr,kC,hLn]
 have he:=fun S=>aEp (S:=S) (j:=1) (v:=r.length+1) (fs:=x.2.fs.set 1 ([.sl .nil [],.bool false,.bool false,.sl .nil []]++[.int .i64 2,.int .i64 (p.vr+1),.int .i64 0,.int .i64 0,.int .i64 0,.sl .nil [],.sl .full [[.int .i64 a0,.int .i64 a1,.int .i64 a2,.int .i64 a3,.int .i64 a4,.sl a5 b5,.sl a6 b6]]]))
 rw[hfl]at he
 rw[he _ (by rw[q4,hr,<-hcr];rfl) (fun f hf=>by
  rcases List.mem_or_eq_of_mem_set hf with hf|rfl
  ·exact(hM6.wid f hf).1
  ·rfl)]
 rfl
def kD (v:Int)(t:List IV):List IV:=[.sl .nil [],.bool false,.bool false,.sl .nil []]++bX v 0 (.sl .full [t])
structure Mdl (p:Pg) (x:List IV×Mk) (r:List (List IV)):Prop where
 fs:x.2.fs=[gG p.vr,uE]++r
 ok:∀f∈r,FOK p.vr f
 ct:∀κ,cFs p.vr κ r=cE κ p.b
 tm:TmO x.1
 bd:Bd p.vr x.2
 ln:x.2.fs.length<=30000
 nv:p.vr+2<=x.2.nv
 nh:x.2.nv<=p.vr+30000
theorem aP5 {p:Pg}(h:qE p=0):Fr p p.b∧Sc [] p.b∧0<=p.vr∧0<=p.gl:=by
 unfold qE at h
 by_cases h1:p.gl<0∨20000<p.gl∨p.vr<0
 ·rw[if_pos h1]at h;cases h
 ·rw[if_neg h1]at h
  by_cases h2:(p.cs.all fun d=>gC d&&plF d)=false
  ·rw[if_pos h2]at h;cases h
  ·rw[if_neg h2]at h
   obtain⟨a,b,_⟩:=aL7 p p.b.w p.b (Nat.le_refl _) 0 [] [] [] h
   exact⟨a,b,by omega,by omega⟩
theorem mdl {p:Pg}(hp:p.b.w<=1048576)(ho:p.b.ok)(h:qE p=0)(hs:sz p.b<=2000):∃n x r,dR n p.b (aV (p.vr+1)) (kC p)=some x∧Mdl p x r:=by
 obtain⟨hf,hsc,hv,_⟩:=aP5 h
 obtain⟨x,hx,hpt⟩:=(tot p (sz p.b) p.b (Nat.le_refl _) hf).2 (11*sz p.b) (aV (p.vr+1)) (kC p) (by omega)
 have hle:=(mono (11*sz p.b)).code hx
 obtain⟨r,hr⟩:=hle.fs
 have hnv:p.vr+2<=x.2.nv:=hle.nv
 have hpc:pot (kC p)=p.vr+2+2:=rfl
 have hpx:pot x.2=x.2.nv+x.2.fs.length:=rfl
 refine⟨_,x,r,hx,hr,?_,fun κ=>?_,(cW _).code hx ⟨ho,hp⟩,⟨by omega,by omega⟩,by omega,hnv,by omega⟩
 ·have:=(funcs p _).code hx ⟨hf,ho,hp⟩ (by show p.vr<=p.vr+2;omega) (fun f hf=>by cases hf)
  intro f hf
  refine this f ?_
  rw[hr,show(kC p).fs=[gG p.vr,uE] from rfl]
  exact hf
 ·have:=(aWt p κ _).code hx hf (by show p.vr<=p.vr+2;omega)
  rw[hr,aGb]at this
  omega
section
variable {p:Pg}{x:List IV×Mk}{r:List (List IV)}(m:Mdl p x r)
include m
theorem Mdl.F:x.2.fs.set 1 (kD (p.vr+1) x.1)=gG p.vr::kD (p.vr+1) x.1::r:=by rw[m.fs];rfl
end
section
variable {p:Pg}{x:List IV×Mk}{r:List (List IV)}(m:Mdl p x r)
include m
end
theorem vY (v:Int):∀l:List Int,cn v l=l.count v
 | []=>rfl
 | a::r=>by
  rw[cn,List.count_cons,vY v r]
  unfold rng
  by_cases h:a=v
  ·subst h;rw[if_pos (by omega)];simp;omega
  ·rw[if_neg (by omega)];simp[h]
theorem aP6 {a b:List Int}(h:∀v,cn v a=cn v b):a.Perm b:=by
 rw[List.perm_iff_count]
 intro v
 rw[<-vY,<-vY];exact h v
def qG (a:Int)(n:Nat):List Int:=(List.range n).map fun k=>a+Int.ofNat k
theorem rR (a:Int)(v:Int):∀n:Nat,cn v (qG a n)=rng a (a+n) v
 | 0=>by rw[n0_,Int.add_zero,gT];rfl
 | n+1=>by
  have h:qG a (n+1)=qG a n++[a+n]:=by unfold qG;rw[List.range_succ,List.map_append];rfl
  rw[h,iW,rR a v n,cn,cn,show((n+1:Nat):Int)=(n:Int)+1 by omega,<-Int.add_assoc,cT (by omega:a<=a+n) (by omega:a+(n:Int)<=a+n+1) v]
  omega
theorem aRh (a:Int)(n:Nat):(qG a n).length=n:=by unfold qG;simp
mutual
theorem aW4 (v:Int):∀e:Ex,v∈bG4 bG5 e->v∈bvE e
 | .mk k n gv vs r g ks=>fun h=>by
  rw[bG4]at h
  rw[bvE]
  rcases List.mem_append.1 h with h|h
  ·unfold bG5 at h
   split at h
   ·exact List.mem_append_left _ h
   ·cases h
  ·exact List.mem_append_right _ (aEq v ks h)
theorem aEq (v:Int):∀l:List Ex,v∈aIb bG5 l->v∈rO l
 | []=>fun h=>by rw[aIb]at h;cases h
 | e::es=>fun h=>by
  rw[aIb]at h
  rw[rO]
  rcases List.mem_append.1 h with h|h
  ·exact List.mem_append_left _ (aW4 v e h)
  ·exact List.mem_append_right _ (aEq v es h)
end
theorem aIs {p:Pg}:∀(N:Nat) (e:Ex),e.w<=N->Fr p e->∀v∈bvE e,0<=v∧v<p.vr
 | 0,e,hw,_=>by have:=Ex.w_eq e;omega
 | N+1,e,hw,hf=>by
  have hK:∀x∈e.ks,Fr p x:=oK.1 ((rP p e).1 hf).2
  intro v hv
  rw[aPx]at hv
  rcases List.mem_append.1 hv with hv|hv
  ·exact(frP hf).kv v hv
  ·obtain⟨x,hx,hv⟩:=aPz.1 hv
   exact aIs N x (by have:=Ex.kid_lt hx;omega) (hK x hx) v hv
def mS (p:Pg)(T:Tr):Tr:=.fn (p.vr+1) 0 [p.vr] false .halt T
structure MT (p:Pg) (x:List IV×Mk) (T:Tr):Prop where
 dec:Dec (x.2.fs.set 1 (kD (p.vr+1) x.1)) (mS p T) (bX (p.vr+1) 0 (.sl .full [x.1]))
 ok:OkT p.cs.length p.gl [] (mS p T)
 bn:(bvs (mS p T)).Nodup
 br:∀v∈bvs (mS p T),0<=v∧v<x.2.nv
 bp:(bvs (mS p T)).Perm (bvE p.b++qG p.vr (x.2.nv-p.vr).toNat)
 mn:(mks (mS p T)).Nodup
 m1:(1:Int)∉mks (mS p T)
 ml:(mks (mS p T)).length+1=x.2.fs.length
 sz:nzT (mS p T)<=20*p.b.w
theorem aRi {p:Pg}(hp:p.b.w<=1048576)(ho:p.b.ok)(h:qE p=0)(hst:gL p.b.w p.b=false){n:Nat}{x:List IV×Mk}{r:M_}(hx:dR n p.b (aV (p.vr+1)) (kC p)=some x)(m:Mdl p x r):∃T,MT p x T:=by
 obtain⟨hf,hsc,hv,hgl⟩:=aP5 h
 have hfit:Fit (bvE p.b) (ccE p.b) [] []:=by
  unfold qE at h
  by_cases h1:p.gl<0∨20000<p.gl∨p.vr<0
  ·rw[if_pos h1]at h;cases h
  ·rw[if_neg h1]at h
   by_cases h2:(p.cs.all fun d=>gC d&&plF d)=false
   ·rw[if_pos h2]at h;cases h
   ·rw[if_neg h2]at h
    exact(aL7 p p.b.w p.b (Nat.le_refl _) 0 [] [] [] h).2.2.1
 have hle:=(mono n).code hx
 have hlen:2<=x.2.fs.length:=hle.len
 have hnv:p.vr+2<=x.2.nv:=m.nv
 have hag:Ag (x.2.fs.set 1 (kD (p.vr+1) x.1)) x.2:=fun i f hi hf=>by
  rw[List.getElem?_set_ne (Ne.symm hi)];exact hf
 have hes:ES p [p.vr+1] p.b:=ES.mono ⟨⟨hf,ho,hp⟩,hsc,aW0 p.b.w p.b (Nat.le_refl _) hst⟩ (fun v hv=>by cases hv)
 obtain⟨T,d1,d2,dn,d3,d4⟩:=(bGq p (x.2.fs.set 1 (kD (p.vr+1) x.1)) n).code hx hes (okV (by simp)) (by show 2<=2;decide) hag
 have hcn:∀v,cn v (bvs (mS p T))=cn v (bvE p.b++qG p.vr (x.2.nv-p.vr).toNat):=fun v=>by
  rw[iW,rR,show p.vr+((x.2.nv-p.vr).toNat:Int)=x.2.nv by omega,cT (by omega:p.vr<=p.vr+1) (by omega:p.vr+1<=x.2.nv) v,cT (by omega:p.vr+1<=p.vr+1+1) (by omega:p.vr+1+1<=x.2.nv) v]
  unfold mS
  rw[bvs,cn,iW,iW,d3 v,cn,cn,show(kC p).nv=p.vr+2 from rfl,show p.vr+2=p.vr+1+1 by omega]
  show _+(_+0+cn v []+_)=_
  rw[cn]
  show _=cbE v p.b+_
  omega
 have hperm:=aP6 hcn
 have hcm:∀i,cn i (mks (mS p T))=rng 0 1 i+rng 2 x.2.fs.length i:=fun i=>by
  unfold mS
  show rng ((0:Nat):Int) (((0:Nat):Int)+1) i+cn i ([]++mks T)=_
  rw[List.nil_append,d4 i]
  rfl
 have hbv:=aIs p.b.w p.b (Nat.le_refl _) hf
 have hbc:∀v,cn v (bvE p.b)<=1:=fun v=>by
  rw[vY];exact List.nodup_iff_count.1 hfit.nb v
 have hF0:(x.2.fs.set 1 (kD (p.vr+1) x.1))[0]? = some (gG p.vr):=by rw[m.F];rfl
 refine⟨T,⟨?_,?_,?_,?_,hperm,?_,?_,?_,?_⟩⟩
 ·exact⟨x.1,_,_,_,rfl,hF0,rfl,d1⟩
 ·exact⟨(fun h=>by cases h),by simp,trivial,d2⟩
 ·refine aBj fun v=>?_
  rw[hcn,iW,rR]
  have h1:=hbc v
  by_cases h2:1<=cn v (bvE p.b)
  ·have:=hbv v (aBi.1 h2)
   have h3:rng p.vr (p.vr+((x.2.nv-p.vr).toNat:Int)) v=0:=by unfold rng;rw[if_neg (by omega)]
   omega
  ·have h3:rng p.vr (p.vr+((x.2.nv-p.vr).toNat:Int)) v<=1:=by unfold rng;split<;>omega
   omega
 ·intro v hv'
  rcases List.mem_append.1 (hperm.mem_iff.1 hv')with h1|h1
  ·have:=hbv v h1;omega
  ·have h2:=aBi.2 h1
   rw[rR]at h2
   unfold rng at h2
   split at h2<;>omega
 ·refine aBj fun i=>?_
  rw[hcm]
  unfold rng
  split<;>split<;>omega
 ·intro h1
  have h2:=aBi.2 h1
  rw[hcm]at h2
  unfold rng at h2
  rw[if_neg (by omega),if_neg (by omega)]at h2
  omega
 ·have hp2:(mks (mS p T)).Perm (0::qG 2 (x.2.fs.length-2)):=aP6 fun i=>by
   rw[hcm,cn,rR,show(2:Int)+((x.2.fs.length-2:Nat):Int)=x.2.fs.length by omega]
   rfl
  rw[hp2.length_eq,List.length_cons,aRh];omega
 ·unfold mS
  rw[nzT,nzT,List.length_singleton]
  omega
theorem oP {F:M_}:∀(U:Tc) (t:List IV),uA F U t->∀i∈cQ U,0<=i∧i<F.length
 | .prim v op n ats k,t,h,i,hi=>by
  obtain⟨tg,tk,c,rfl,hk⟩:=h
  exact oP k c hk i hi
 | .fn v f ps r cc body k,t,h,i,hi=>by
  obtain⟨c,tp,bt,rfl,h0,hF,hb,hk⟩:=h
  rw[cQ]at hi
  rcases List.mem_cons.1 hi with rfl|hi
  ·have:=(List.getElem?_eq_some_iff.1 hF).1
   omega
  ·rcases List.mem_append.1 hi with hi|hi
   ·exact oP body bt hb i hi
   ·exact oP k c hk i hi
 | .ite a p q,t,h,i,hi=>by
  obtain⟨c,d,rfl,hp,hq⟩:=h
  rw[cQ]at hi
  rcases List.mem_append.1 hi with hi|hi
  ·exact oP p c hp i hi
  ·exact oP q d hq i hi
 | .call ats,t,h,i,hi=>by cases hi
 | .appl ats,t,h,i,hi=>by cases hi
 | .halt,t,h,i,hi=>by cases hi
theorem aEr:∀U:Tc,szC U=nzT (erC U)
 | .prim v op n ats k=>by rw[szC,erC,nzT,aEr k]
 | .fn v f ps r cc body k=>by rw[szC,erC,nzT,aEr body,aEr k]
 | .ite a p q=>by rw[szC,erC,nzT,aEr p,aEr q]
 | .call ats=>rfl
 | .appl ats=>rfl
 | .halt=>rfl
theorem xQ:∀U:Tc,(cQ U).length<=szC U
 | .prim v op n ats k=>by have:=xQ k;rw[szC,cQ];omega
 | .fn v f ps r cc body k=>by have:=xQ k;have:=xQ body;rw[szC,cQ,List.length_cons,List.length_append];omega
 | .ite a p q=>by have:=xQ p;have:=xQ q;rw[szC,cQ,List.length_append];omega
 | .call ats=>by show([]:List Int).length<=_;exact Nat.zero_le _
 | .appl ats=>by show([]:List Int).length<=_;exact Nat.zero_le _
 | .halt=>by show([]:List Int).length<=_;exact Nat.zero_le _
def OpR:Tc->Prop
 | .prim _ op n _ k=>eN op∧eN n∧OpR k
 | .fn _ _ _ _ _ body k=>OpR body∧OpR k
 | .ite _ p q=>OpR p∧OpR q
 | _=>True
theorem aAw {nc:Nat}(hnc:nc<=1000000){seen:List Int}(hs:∀v∈seen,eN v){a:List IV}(h:pH nc seen a):AtG a:=by
 rcases h with⟨v,rfl,hv⟩|⟨v,rfl,h0,h1⟩
 ·exact⟨1,v,rfl,by unfold eN;omega,hs v hv⟩
 ·exact⟨2,v,rfl,by unfold eN;omega,by unfold eN;omega⟩
theorem tJ {nc:Nat}{gl:Int}(hnc:nc<=1000000):∀(U:Tc) (seen:List Int),OkT nc gl seen (erC U)->(∀v∈seen,eN v)->(∀v∈bvs (erC U),eN v)->OpR U->oO U
 | .prim v op n ats k,seen,h,hs,hb,ho=>by
  obtain⟨h1,h2,h3,h4,h5⟩:=h
  rw[erC,bvs]at hb
  refine⟨ho.1,ho.2.1,fun a ha=>aAw hnc hs (h1 a ha),h3,tJ hnc k _ h5 (fun w hw=>?_) (fun w hw=>hb w (by simp[hw])) ho.2.2⟩
  rcases List.mem_append.1 hw with hw|hw
  ·exact hs w hw
  ·rw[List.mem_singleton]at hw;subst hw;exact hb _ (by simp)
 | .fn v f ps r cc body k,seen,h,hs,hb,ho=>by
  obtain⟨h1,h2,h3,h4⟩:=h
  rw[erC,bvs]at hb
  refine⟨by omega,tJ hnc body _ h3 (fun w hw=>?_) (fun w hw=>hb w (by simp[hw])) ho.1,tJ hnc k _ h4 (fun w hw=>?_) (fun w hw=>hb w (by simp[hw])) ho.2⟩
  ·rcases List.mem_append.1 hw with hw|hw
   ·exact hs w hw
   ·exact hb w (by simp[hw])
  ·rcases List.mem_append.1 hw with hw|hw
   ·exact hs w hw
   ·rw[List.mem_singleton]at hw;subst hw;exact hb _ (by simp)
 | .ite a p q,seen,h,hs,hb,ho=>by
  obtain⟨h1,h2,h3⟩:=h
  rw[erC,bvs]at hb
  exact⟨aAw hnc hs h1,tJ hnc p _ h2 hs (fun w hw=>hb w (by simp[hw])) ho.1,tJ hnc q _ h3 hs (fun w hw=>hb w (by simp[hw])) ho.2⟩
 | .call ats,seen,h,hs,hb,ho=>⟨fun a ha=>aAw hnc hs (h.1 a ha),h.2.2⟩
 | .appl ats,seen,h,hs,hb,ho=>⟨fun a ha=>aAw hnc hs (h.1 a ha),h.2.2⟩
 | .halt,seen,h,hs,hb,ho=>trivial
theorem tK:∀U:Tc,oO U->oO (shT U)
 | .prim v op n ats k,h=>⟨h.1,h.2.1,h.2.2.1,h.2.2.2.1,tK k h.2.2.2.2⟩
 | .fn v f ps r cc body k,h=>⟨h.1,tK body h.2.1,tK k h.2.2⟩
 | .ite a p q,h=>⟨h.1,tK p h.2.1,tK q h.2.2⟩
 | .call ats,h=>h
 | .appl ats,h=>h
 | .halt,h=>h
theorem uY:∀U:Tc,cQ (shT U)=(cQ U).map (·-1)
 | .prim v op n ats k=>by rw[shT,cQ,cQ,uY k]
 | .fn v f ps r cc body k=>by rw[shT,cQ,cQ,uY body,uY k,List.map_cons,List.map_append]
 | .ite a p q=>by rw[shT,cQ,cQ,uY p,uY q,List.map_append]
 | .call ats=>rfl
 | .appl ats=>rfl
 | .halt=>rfl
theorem aEs:∀U:Tc,szC (shT U)=szC U
 | .prim v op n ats k=>by rw[shT,szC,szC,aEs k]
 | .fn v f ps r cc body k=>by rw[shT,szC,szC,aEs body,aEs k]
 | .ite a p q=>by rw[shT,szC,szC,aEs p,aEs q]
 | .call ats=>rfl
 | .appl ats=>rfl
 | .halt=>rfl
theorem xR {F F':M_}(hT:bH4 F F'):∀(U:Tc) (t t':List IV),uA F U t->RT t t'->(∀i∈cQ U,2<=i)->OpR U
 | .prim v op n ats k,t,t',h,hr,hm=>by
  obtain⟨tg,tk,c,rfl,hk⟩:=h
  rw[cQ]at hm
  generalize he:[IV.int .i64 1,.int .i64 v,.int .i64 op,.int .i64 n,.int .i64 0,.sl tg ats,.sl tk [c]]=T at hr
  cases hr with
  | prim v' op' n' tg' ats' ho hn h =>
   simp only[List.cons.injEq,IV.int.injEq,IV.sl.injEq,true_and,and_true]at he
   obtain⟨rfl,rfl,rfl,⟨rfl,rfl⟩,rfl,rfl⟩:=he
   exact⟨ho,hn,xR hT k _ _ hk h hm⟩
  | fn=>unfold bX at he;simp at he
  | ite=>unfold ifT at he;simp at he
  | call=>unfold cU at he;simp at he
  | appl=>unfold eD at he;simp at he
 | .fn v f ps r cc body k,t,t',h,hr,hm=>by
  obtain⟨c,tp,bt,rfl,h0,hF,hb,hk⟩:=h
  rw[cQ]at hm
  have hf2:=hm f (by simp)
  generalize he:bX v f (.sl .full [c])=T at hr
  cases hr with
  | prim=>unfold bX at he;simp at he
  | fn v' f' h =>
   unfold bX at he
   simp only[List.cons.injEq,IV.int.injEq,IV.sl.injEq,true_and,and_true]at he
   obtain⟨rfl,rfl,rfl⟩:=he
   obtain⟨i,hi⟩:∃i:Nat,(f'+1).toNat=i+2:=⟨(f'+1).toNat-2,by omega⟩
   rw[hi]at hF
   obtain⟨g',hg,hRF⟩:=hT i _ hF
   generalize hG:fnF tp ps r cc bt=G at hRF
   cases hRF with
   | mk tg th ps' r' c' hbd =>
    obtain⟨rfl,rfl,rfl,rfl⟩:=aP2 hG
    exact⟨xR hT body _ _ hb hbd (fun i hi=>hm i (by simp[hi])),xR hT k _ _ hk h (fun i hi=>hm i (by simp[hi]))⟩
  | ite=>unfold bX ifT at he;simp at he
  | call=>unfold bX cU at he;simp at he
  | appl=>unfold bX eD at he;simp at he
 | .ite a p q,t,t',h,hr,hm=>by
  obtain⟨c,d,rfl,hp,hq⟩:=h
  rw[cQ]at hm
  generalize he:ifT a c d=T at hr
  cases hr with
  | prim=>unfold ifT at he;simp at he
  | fn=>unfold bX ifT at he;simp at he
  | ite a' h g =>
   unfold ifT at he
   simp only[List.cons.injEq,IV.sl.injEq,true_and,and_true]at he
   obtain⟨rfl,rfl,rfl⟩:=he
   exact⟨xR hT p _ _ hp h (fun i hi=>hm i (by simp[hi])),xR hT q _ _ hq g (fun i hi=>hm i (by simp[hi]))⟩
  | call=>unfold ifT cU at he;simp at he
  | appl=>unfold ifT eD at he;simp at he
 | .call ats,t,t',h,hr,hm=>trivial
 | .appl ats,t,t',h,hr,hm=>trivial
 | .halt,t,t',h,hr,hm=>trivial
theorem RL.at {a b:M_}(h:RL a b):∀(i:Nat) (g:List IV),a[i+2]? = some g->∃g',b[i+1]? = some g'∧RF g g':=by
 induction h with
 | top=>intro i g hg;simp at hg
 | @snoc a b f g h k ih =>
  intro i y hy
  have hl:=h.len
  by_cases hi:i+2<a.length
  ·rw[List.getElem?_append_left hi]at hy
   obtain⟨y',h1,h2⟩:=ih i y hy
   exact⟨y',by rw[List.getElem?_append_left (by omega)];exact h1,h2⟩
  ·rw[List.getElem?_append_right (by omega)]at hy
   have h0:i+2-a.length=0:=by
    have:=(List.getElem?_eq_some_iff.1 hy).1
    rw[List.length_singleton]at this;omega
   rw[h0]at hy
   rw[List.getElem?_cons_zero]at hy
   cases hy
   exact⟨g,by rw[List.getElem?_append_right (by omega),show i+1-b.length=0 by omega];rfl,k⟩
theorem bDb {a b:M_}(h:RL a b)(m m':List IV):bH4 (a.set 1 m) (b++[m']):=fun i g hg=>by
 rw[List.getElem?_set_ne (by omega)]at hg
 obtain⟨g',h1,h2⟩:=h.at i g hg
 exact⟨g',by rw[List.getElem?_append_left (List.getElem?_eq_some_iff.1 h1).1];exact h1,h2⟩
theorem RL.zero {a b:M_}(h:RL a b):∃e z r r',a=e::z::r∧b=e::r':=by
 induction h with
 | top v z e=>exact⟨e,z,[],[],rfl,rfl⟩
 | snoc h k ih =>
  obtain⟨e,z,r,r',rfl,rfl⟩:=ih
  exact⟨e,z,_,_,rfl,rfl⟩
noncomputable def mtx (U:Tc):List UInt8:=fnS false false ([32,102]++dg 0++[91])++(txtT U [] 1).1++[93]
theorem aIt {tg:Tag}{F:M_}{mn vr gl:Int}{gc:Tag}{cs:M_}{S:aA}{jx jv jf:Nat}(hN:NM S.length S jx jv jf [] []){i:Int}(hi:0<=i∧i<F.length){b:List IV}{U:Tc}(hF:F[i.toNat]? = some (fnF .nil [] false false b))(hD:uA F U b)(hG:oO U)(hm:∀j∈cQ U,j≠i)(hn:(cQ U).Nodup)(hz:szC U<=100000000):
  ∃S',(lim K).call 37 [.ptr jx 93 0,.iv (.agg [.sl tg F,.int .i64 mn,.int .i64 vr,.int .i64 gl,.sl gc cs]),j_ i] S=.ret (.iv (.str (mtx U)),S')∧aJ [jx] S S':=by
 have hl:=jY U [] 1
 have hk:=xQ U
 obtain⟨c0,c1,c2,c3,c4,t5,l5,t6,l6,rfl⟩:=hD.cells
 obtain⟨jv',jf',S',c,hN',hk'⟩:=aWx (tg:=tg) (F:=F) (mn:=mn) (vr:=vr) (gl:=gl) (gc:=gc) (cs:=cs) (v:=[]) (f:=[]) rfl hN (aJ.refl [jx] S) hi (by simp) (ps:=[]) hF (by simp) (by simp) (by simp) (w:=(txtT U [] 1).1) (v2:=(txtT U [] 1).2.1) (f2:=[i]++cQ U) (by omega) (fun S1 jv1 jf1 hN1 hK1=>by
  rw[ptxT]at hN1
  exact pI U rfl hD hG (fun j hj=>⟨(oP U _ hD j hj).1,(oP U _ hD j hj).2,by rw[List.nil_append,List.mem_singleton];exact hm j hj⟩) hn hz (by simp;omega) (by simp;omega) hN1 hK1)
 rw[ptxT]at c
 exact⟨S',c,hk'⟩
theorem bH9 {tg tg':Tag}{F F':M_}{mn mn' vr gl:Int}{gc gc':Tag}{cs cs':M_}{S:aA}(hl:F.length=F'.length)(hf:F.length<=1000000)(hcl:cs.length=cs'.length)(hc:cs.length<=1048576){b b':List IV}{U V:Tc}(hi:0<=mn∧mn<F.length)(hi':0<=mn'∧mn'<F'.length)
  (hF:F[mn.toNat]? = some (fnF .nil [] false false b)) (hF':F'[mn'.toNat]? = some (fnF .nil [] false false b')) (hD:uA F U b) (hD':uA F' V b') (hG:oO U) (hG':oO V) (hm:∀j∈cQ U,j≠mn) (hm':∀j∈cQ V,j≠mn') (hn:(cQ U).Nodup) (hn':(cQ V).Nodup) (hz:szC U<=100000000) (hz':szC V<=100000000) (he:mtx U=mtx V):
  ∃S',(lim K).call 12 [.iv (.agg [.sl tg F,.int .i64 mn,.int .i64 vr,.int .i64 gl,.sl gc cs]),.iv (.agg [.sl tg' F',.int .i64 mn',.int .i64 vr,.int .i64 gl,.sl gc' cs'])] S=.ret (e_,S'):=by
 have hN:∀(T:aA) (j:Nat),T[j]? = some (nmB 0 0 [] [])->NM T.length T j 0 0 [] []:=fun T j h=>⟨h,Gl.nil ..,Gl.nil ..,fun h=>absurd rfl h,aO h,by simp,by simp⟩
 have hb:nmB 0 0 [] []=.cells 93 false [k_,k_]:=rfl
 obtain⟨S1,c1,k1⟩:=aIt (tg:=tg) (mn:=mn) (vr:=vr) (gl:=gl) (gc:=gc) (cs:=cs) (hN (S++[nmB 0 0 [] [],nmB 0 0 [] []]) S.length (by simp)) hi hF hD hG hm hn hz
 have h2:S1[S.length+1]? = some (nmB 0 0 [] []):=k1.get _ _ (by simp) (by simp)
 obtain⟨S2,c2,k2⟩:=aIt (tg:=tg') (mn:=mn') (vr:=vr) (gl:=gl) (gc:=gc') (cs:=cs') (hN S1 (S.length+1) h2) hi' hF' hD' hG' hm' hn' hz'
 refine⟨S2,aB K _ (fn:=t12) rfl rfl ?_⟩
 rw[hb]at c1
 rw[<-he]at c2
 have hap:S++[aP.cells 93 false [k_,k_],.cells 93 false [k_,k_]]=S++[aP.cells 93 false [k_,k_]]++[aP.cells 93 false [k_,k_]]:=by simp
 rw[hap]at c1
 have hl1:(S++[aP.cells 93 false [k_,k_]]).length=S.length+1:=by simp
 generalize mtx U=w at *
 simp (config := { maxSteps := 4000000 }) (disch:=omega) only[t12,go_sem,hl,hcl,hl1,c1,c2,decide_true]
theorem aDt.mkc {n0:Nat}{S S':aA}{w el:Nat}{l ys:M_}{j j':Nat}{jm jf:Nat}{σ:Mk}(g:aDt n0 S S' w el l ys j j')(h:Gl n0 S w el l j)(m:MkC S jm jf σ)(h1:jm<n0∧jf<n0):MkC S' jm jf σ :=
 ⟨g.old _ _ m.own fun hl=>by have:=h.new hl;omega,g.old _ _ m.row fun hl=>by have:=h.new hl;omega,m.ne,m.wid,m.ok⟩
def uZ (b0:Int)(n:Nat):Prop:=∀ {e:Ex} {σ ρ:Mk} {x:List St×List IV×Mk} {S:aA} {jm jf:Nat},dQ n e σ=some x->XO e->b0<=σ.nv->Bd b0 x.2.2->RM σ ρ->MkC S jm jf ρ ->
 ∃r l ρ' S',(lim K).call 54 [.ptr jm 78 0,.iv (.agg (cD e))] S=.ret (.tup [r,.iv (.agg x.2.1)],S')∧SR r (cJ l)∧RSs x.1 l∧RM x.2.2 ρ'∧MkC S' jm jf ρ'∧aJ [jm,jf] S S'
def kE (b0:Int)(n:Nat):Prop:=∀ {l:List Ex} {g:Tag} {σ ρ:Mk} {x:List St×List (List IV)×Mk} {S:aA} {jm jf:Nat},bP n l σ=some x->(∀e∈l,XO e)->l.length<=1048576->b0<=σ.nv->Bd b0 x.2.2->RM σ ρ->MkC S jm jf ρ ->
 ∃js ja l' ρ' S',(lim K).call 55 [.ptr jm 78 0,.iv (.sl g (bW l))] S=.ret (.tup [acc js (cJ l'),acc ja x.2.1],S')∧RSs x.1 l'∧Gl S.length S' 14 79 (cJ l') js∧Gl S.length S' 2 53 x.2.1 ja∧(cJ l'≠[]->x.2.1≠[]->js≠ja)∧RM x.2.2 ρ'∧MkC S' jm jf ρ'∧aJ [jm,jf] S S'
theorem aW5 {b0:Int}{N:Nat}(hV:∀m,m<=N->uZ b0 m)(g:Tag){L:List Ex}(hL:∀e∈L,XO e)(hlen:L.length<=1048576){jm jf:Nat}{S0:aA}(hj:jm<S0.length∧jf<S0.length)(x2 x3:TV):∀(n i:Nat) (S:aA) (A B:M_) (js ja:Nat) (σ ρ:Mk) (x:List St×M_×Mk) (y7 y8 y9:TV),n<=N+1->i<=L.length->bP n (L.drop i) σ=some x->b0<=σ.nv->Bd b0 x.2.2->RM σ ρ->MkC S jm jf ρ->aJ [jm,jf] S0 S ->
  Gl S0.length S 14 79 A js->Gl S0.length S 2 53 B ja->(A≠[]->B≠[]->js≠ja)->cO 14 A->cO 2 B->(A.length:Int)+b0<=σ.nv->B.length<=i ->
  ∃(S':aA) (js' ja':Nat) (l:List St) (ρ':Mk) (z7 z8 z9:TV),lp' (lim K) t55L0 [.ptr jm 78 0,.iv (.sl g (bW L)),x2,x3,acc js A,acc ja B,j_ i,y7,y8,y9] S
   = .ret (.exit 0,[.ptr jm 78 0,.iv (.sl g (bW L)),x2,x3,acc js' (A++cJ l),acc ja' (B++x.2.1),j_ L.length,z7,z8,z9],S')∧RSs x.1 l ∧
   Gl S0.length S' 14 79 (A++cJ l) js'∧Gl S0.length S' 2 53 (B++x.2.1) ja'∧(A++cJ l≠[]->B++x.2.1≠[]->js'≠ja')∧RM x.2.2 ρ'∧MkC S' jm jf ρ'∧aJ [jm,jf] S0 S'
 | 0,i,S,A,B,js,ja,σ,ρ,x,y7,y8,y9,hn,hi,hx,_,_,_,_,_,_,_,_,_,_,_,_=>by simp[bP]at hx
 | n+1,i,S,A,B,js,ja,σ,ρ,x,y7,y8,y9,hn,hi,hx,hb,hB,hR,hM,hk,gA,gB,hd,eA,eB,lA,lB=>by
  have hlE:=aG L
  by_cases hla:i<L.length
  ·rw[List.drop_eq_getElem_cons hla,bP]at hx
   obtain⟨y,hy,hx⟩:=b_ hx
   obtain⟨z,hz,hx⟩:=b_ hx
   cases hx
   have hgd:L.getD i default=L[i]:=by simp[List.getD,List.getElem?_eq_getElem hla]
   have hXO:=hL L[i] (List.getElem_mem _)
   have l1:=(mono n).value hy
   have l2:=(mono n).values hz
   have hB1:Bd b0 y.2.2:=Bd.le hB l2
   obtain⟨⟨p,q,hpq⟩,hso,hsl⟩:=(cW n).value hy hXO
   obtain⟨r,ly,ρ1,S1,c54,hr,hrs,hR1,hM1,hk1⟩:=hV n (by omega) hy hXO hb hB1 hR hM
   have hso':=hrs.o hso
   have nI:∀i∈[jm,jf],i<S0.length:=fun i hi=>by simp at hi;rcases hi with rfl|rfl<;>omega
   have gA1:=gA.keep hk1 nI
   have gB1:=gB.keep hk1 nI
   have hlen1:S0.length<=S1.length:=Nat.le_trans hk.len hk1.len
   have hsz:((A.length+(cJ ly).length:Nat):Int)<=1000000:=by rw[nK,<-hrs.len];have:=hB1.hi;omega
   obtain⟨js1,S2,a1,g1⟩:=gA1.more (b:=176) (hr.el S1) (nR hso') eA (cI (by omega)) hlen1
   have hM2:=g1.mkc gA1 hM1 hj
   have hk2:=g1.keep gA1 (hk.trans hk1) (Nat.le_refl _)
   obtain⟨gB2,hd2⟩:=g1.other gB1 hd
   obtain⟨ja1,S3,a2,g2⟩:=gB2.more (b:=16) (hP.sl S2 .full [[.int .i64 p,.int .i64 q]]) (by intro y hy;simp at hy;subst hy;exact⟨rfl,rfl⟩) eB (cI (by simp;omega)) (Nat.le_trans hlen1 g1.len)
   have hM3:=g2.mkc gB2 hM2 hj
   have hk3:=g2.keep gB2 hk2 (Nat.le_refl _)
   obtain⟨gA3,hd3⟩:=g2.other g1.gl (fun h1 h2=>Ne.symm (hd2 h2 h1))
   obtain⟨S',js',ja',lz,ρ',z7,z8,z9,ih,hrz,h1,h2,h3,h4⟩:=aW5 hV g hL hlen hj x2 x3 n (i+1) S3 (A++cJ ly) (B++[[.int .i64 p,.int .i64 q]]) js1 ja1 y.2.2 ρ1 z r (.lb [j_ p,j_ q]) e_ (by omega) hla hz (Int.le_trans hb l1.nv) hB hR1 hM3 hk3 gA3 g2.gl (fun h1 h2=>Ne.symm (hd3 h2 h1)) (tE eA (nR hso')) (tE eB (by intro y hy;simp at hy;subst hy;exact⟨rfl,rfl⟩)) (by rw[List.length_append,nK,<-hrs.len];omega) (by simp;omega)
   rw[show((i+1:Nat):Int)=(i:Int)+1 by omega]at ih
   have hix:=ixE (g:=g) (ks:=L) (i:=(i:Int)) (by omega)
   rw[Int.toNat_natCast,hgd]at hix
   have hget:=mP (d:=L[i])
   rw[hpq]at c54
   rw[aL]at c54 hix hget
   have qA:A++cJ ly++cJ lz=A++cJ (ly++lz):=by rw[xO,List.append_assoc]
   have qB:B++[[.int .i64 p,.int .i64 q]]++z.2.1=B++(y.2.1::z.2.1):=by rw[hpq];simp
   rw[qA,qB]at ih h3
   rw[qA]at h1
   rw[qB]at h2
   refine⟨S',js',ja',ly++lz,ρ',z7,z8,z9,aI K _ _ t55L0.eq_1 ?_,hrs.app hrz,h1,h2,h3,h4⟩
   generalize L[i]=e at *
   rcases hr with⟨_,rfl⟩|⟨j,rfl⟩|rfl
   ·simp (disch:=omega) only[go_sem,hlE,hix,hget,c54,a1,a2,aH]
    exact congrArg er ih
   ·simp (disch:=omega) only[go_sem,hlE,hix,hget,c54,a1,a2,aH]
    exact congrArg er ih
   ·simp (disch:=omega) only[go_sem,hlE,hix,hget,c54,a1,a2,aH]
    exact congrArg er ih
  ·obtain rfl:i=L.length:=by omega
   rw[List.drop_length,bP]at hx
   cases hx
   refine⟨S,js,ja,[],ρ,y7,y8,z_,aI K _ _ t55L0.eq_1 ?_,.nil,by simpa[cJ] using gA,by simpa using gB,by simpa[cJ] using hd,hR,hM,hk⟩
   rw[show cJ []=[] from rfl,List.append_nil,List.append_nil]
   simp (disch:=omega) only[go_sem]
theorem aGh {b0:Int}{N:Nat}(hV:∀m,m<=N->uZ b0 m):kE b0 (N+1):=by
 intro l g σ ρ x S jm jf hx hl hlen hb hB hR hM
 have hj:jm<S.length∧jf<S.length:=⟨aO hM.own,aO hM.row⟩
 obtain⟨S',js',ja',l',ρ',z7,z8,z9,l1,hrs,h1,h2,h3,h4,h5,h6⟩:=aW5 hV g hl hlen hj k_ k_ (N+1) 0 S [] [] 0 0 σ ρ x u_ u_ u_ (Nat.le_refl _) (Nat.zero_le _) (by rw[List.drop_zero];exact hx) hb hB hR hM (aJ.refl _ _) (Gl.nil ..) (Gl.nil ..) (fun h=>absurd rfl h) (by intro y hy;cases hy) (by intro y hy;cases hy) (by simpa using hb) (Nat.le_refl _)
 rw[n0_,List.nil_append,List.nil_append,fG]at l1
 rw[List.nil_append]at h1 h2 h3
 rw[List.nil_append]at h3
 have hlE:=aG l
 refine⟨js',ja',l',ρ',S',aB K _ (fn:=t55) rfl rfl ?_,hrs,h1,h2,h3,h4,h5,h6⟩
 simp (disch:=omega) only[t55,go_sem,hlE]
 rw[l1]
 simp (disch:=omega) only[go_sem]
theorem aBk:∀(a b:List St) (n:Nat) (t:List IV) (σ:Mk) (x:List IV×Mk),bN n (a++b) t σ=some x->∃y,bN n a t σ=some y∧bN (n-a.length) b y.1 y.2=some x
 | [],b,n,t,σ,x,h=>by
  cases n with
  | zero=>rw[bN]at h;cases h
  | succ n=>exact⟨(t,σ),by rw[bN],by simpa using h⟩
 | .tm c to::a,b,n,t,σ,x,h=>by
  cases n with
  | zero=>rw[bN]at h;cases h
  | succ n =>
   rw[List.cons_append,bN]at h
   obtain⟨y,h1,h2⟩:=aBk a b n _ _ x h
   exact⟨y,by rw[bN];exact h1,by rw[List.length_cons,Nat.add_sub_add_right];exact h2⟩
 | .rs e to::a,b,n,t,σ,x,h=>by
  cases n with
  | zero=>rw[bN]at h;cases h
  | succ n =>
   rw[List.cons_append,bN]at h
   obtain⟨z,hz,h⟩:=b_ h
   obtain⟨y,h1,h2⟩:=aBk a b n _ _ x h
   exact⟨y,by rw[bN,hz];exact h1,by rw[List.length_cons,Nat.add_sub_add_right];exact h2⟩
def mT (b0:Int)(n:Nat):Prop:=∀ {e:Ex} {k0 k1:Int} {σ ρ:Mk} {x:List IV×Mk} {S:aA} {jm jf:Nat},dR n e [.int .i64 k0,.int .i64 k1] σ=some x->XO e->b0<=σ.nv->Bd b0 x.2->RM σ ρ->MkC S jm jf ρ ->
 ∃t ρ' S',(lim K).call 31 [.ptr jm 78 0,.iv (.agg (cD e)),.iv (.agg [.int .i64 k0,.int .i64 k1])] S=.ret (.iv (.agg t),S')∧RT x.1 t∧RM x.2 ρ'∧MkC S' jm jf ρ'∧aJ [jm,jf] S S'
def SX (r:TV)(l:List (List IV)):Prop:=(∃tg,dN tg l∧r=.iv (.sl tg l))∨∃j,r=.tsl j l
theorem SR.sx {r:TV}{l:M_}(h:SR r l):SX r l:=by
 rcases h with⟨rfl,rfl⟩|⟨j,rfl⟩|rfl
 ·exact .inl ⟨_,fun _=>rfl,rfl⟩
 ·exact .inr ⟨j,rfl⟩
 ·exact .inl ⟨_,(fun h=>by cases h),rfl⟩
theorem SX.tail {w:Nat}{r:TV}{a:List IV}{l:M_}(h:SX r (a::l))(hw:a.length=w):∃r',SX r' l∧(∃tg,r'=.iv (.sl tg l))∧∀S,cH S (.sl w) r (some 1) none none=some r':=by
 have hf:TM.iE w (a::l)=true:=by simp[TM.iE,hw]
 rcases h with⟨tg,ht,rfl⟩|⟨j,rfl⟩
 ·have hno:tg≠.nil:=fun e=>by have:=ht e;cases this
  refine⟨.iv (.sl tg l),.inl ⟨tg,fun e=>absurd e hno,rfl⟩,⟨_,rfl⟩,fun S=>?_⟩
  rw[aDh S ht hf (by simp;omega)]
  rfl
 ·refine⟨.iv (.sl .no l),.inl ⟨_,(fun h=>by cases h),rfl⟩,⟨_,rfl⟩,fun S=>?_⟩
  simp only[cH,hf,↓reduceIte]
  rw[vO (dN.no _) (by simp;omega)]
  rfl
theorem SX.ix {w:Nat}{r:TV}{a:List IV}{l:M_}(h:SX r (a::l))(hw:a.length=w):indexAddrS w r 0=some (.iv (.cp a)):=by
 rcases h with⟨tg,ht,rfl⟩|⟨j,rfl⟩
 ·exact sT (by omega) rfl hw
 ·exact kP (by omega) rfl hw
theorem SX.len {r:TV}{l:M_}(h:SX r l)(S:aA):aC2 .sl S r=some (j_ l.length):=by
 rcases h with⟨tg,ht,rfl⟩|⟨j,rfl⟩<;>rfl
def bT:aP:=.cells 46 false [.iv (.int .i64 0),.iv (.int .i64 0),.iv (.int .i64 0),.iv (.int .i64 0),.iv (.int .i64 0),.iv (.sl .nil []),.iv (.sl .nil [])]
theorem kX {b0:Int}{N:Nat}(hb0:0<=b0∧b0<=1152921504606846976)(hC:∀m,m<=N->mT b0 m){jm jf:Nat}:∀(l l':List St) (n:Nat) (t t':List IV) (σ ρ:Mk) (x:List IV×Mk) (S:aA) (r:TV),n<=N+1->bN n l.reverse t σ=some x->SX r (cJ l')->RSs l l'->RT t t'->(∀s∈l,SO s)->b0<=σ.nv->Bd b0 x.2->RM σ ρ->MkC S jm jf ρ ->
  ∃t2 ρ' S',(lim K).call 33 [.ptr jm 78 0,r,.iv (.agg t')] S=.ret (.iv (.agg t2),S')∧RT x.1 t2∧RM x.2 ρ'∧MkC S' jm jf ρ'∧aJ [jm,jf] S S'
 | [],l',n,t,t',σ,ρ,x,S,r,hn,hx,hr,hrs,ht,hso,hb,hB,hR,hM=>by
  cases hrs
  cases n with
  | zero=>rw[bN]at hx;cases hx
  | succ n =>
   rw[List.reverse_nil,bN]at hx
   cases hx
   have hl:=fun S=>hr.len S
   rw[show(cJ []).length=0 from rfl]at hl
   obtain⟨c0,c1,c2,c3,c4,t5,t6,l5,l6,rfl⟩:=ht.o
   refine⟨_,ρ,S,aB K _ (fn:=t33) rfl rfl ?_,ht,hR,hM,aJ.refl _ _⟩
   rcases hr with⟨tg,_,rfl⟩|⟨j,rfl⟩
   ·simp (disch:=omega) only[t33,go_sem,hl]
   ·simp (disch:=omega) only[t33,go_sem,hl]
 | s::l,l',n,t,t',σ,ρ,x,S,r,hn,hx,hr,hrs,ht,hso,hb,hB,hR,hM=>by
  obtain⟨s',k,rfl,hs,hk⟩:∃s' k,l'=s'::k∧RSt s s'∧RSs l k:=by cases hrs with|cons h g=>exact⟨_,_,rfl,h,g⟩
  rw[List.reverse_cons]at hx
  obtain⟨y,hy1,hy2⟩:=aBk _ _ _ _ _ _ hx
  have hlen:(cJ (s'::k)).length=k.length+1:=by rw[nK,List.length_cons]
  have hw:(rM s').length=14:=(nR (l:=[s']) (by
   intro q hq
   rw[List.mem_singleton]at hq
   subst hq
   exact hs.o (hso s (by simp))) (rM s') (by simp[cJ])).1
  obtain⟨r',hr',⟨tg',rfl⟩,hsl⟩:=hr.tail hw
  have hix:=hr.ix hw
  have hl:=fun S=>hr.len S
  rw[hlen]at hl
  have hle:Le y.2 x.2:=(mono _).laid hy2
  have hle0:Le σ y.2:=(mono _).laid hy1
  have kS:aJ [jm,jf] S (S++[bT]):=aJ.app _ _ _
  have hM1:=hM.keep (I:=[]) (aJ.app [] S [bT]) (by simp) (by simp)
  obtain⟨t1,ρ1,S2,c33,hT1,hR1,hM2,k2⟩:=kX hb0 hC l k n t t' σ ρ y (S++[bT]) _ hn hy1 hr' hk ht (fun q hq=>hso q (by simp[hq])) hb (hB.le hle) hR hM1
  obtain⟨a0,a1,a2,a3,a4,a5,a6,b5,b6,rfl⟩:=ht.o
  obtain⟨d0,d1,d2,d3,d4,d5,d6,f5,f6,rfl⟩:=hT1.o
  have j1:jm<S.length∧jf<S.length:=⟨aO hM.own,aO hM.row⟩
  have z2:S2[S.length]? = some bT:=k2.get _ _ (by simp;omega) (by simp)
  have z3:=fun b=>bQ (aO z2) b
  have k3:aJ [jm,jf] S (S2.set S.length (.cells 46 false [j_ d0,j_ d1,j_ d2,j_ d3,j_ d4,.iv (.sl d5 f5),.iv (.sl d6 f6)])):=by
   refine⟨by rw[List.length_set];exact Nat.le_trans kS.len k2.len,fun i b hi hb=>?_⟩
   rw[aU (by have:=aO hb;omega)]
   exact k2.get _ _ hi (kS.get _ _ hi hb)
  have hM3:MkC (S2.set S.length (.cells 46 false [j_ d0,j_ d1,j_ d2,j_ d3,j_ d4,.iv (.sl d5 f5),.iv (.sl d6 f6)])) jm jf ρ1:=⟨by rw[aU (by omega)];exact hM2.own,by rw[aU (by omega)];exact hM2.row,hM2.ne,hM2.wid,hM2.ok⟩
  unfold bT at c33 z2
  generalize hm:n-l.reverse.length=m at hy2
  have hmn:m<=n:=by omega
  have hsl':(s'::k).map rM=cJ (s'::k):=rfl
  cases hs with
  | prim v op na ats hho hhn =>
   obtain⟨m,rfl⟩:∃q,m=q+1:=by cases m with|zero=>rw[bN]at hy2;cases hy2|succ q=>exact⟨q,rfl⟩
   rw[bN]at hy2
   obtain⟨m,rfl⟩:∃q,m=q+1:=by cases m with|zero=>rw[bN]at hy2;cases hy2|succ q=>exact⟨q,rfl⟩
   rw[bN]at hy2
   cases hy2
   refine⟨_,ρ1,_,aB K _ (fn:=t33) rfl rfl ?_,RT.prim v op na (nG ats) ats hho hhn hT1,hR1,hM3,k3⟩
   rw[show rM (.tm (kR v op na ats) v)=[.bool false,.int .i64 1,.int .i64 v,.int .i64 op,.int .i64 na,.int .i64 0,.sl (nG ats) ats,.sl .nil [],.int .i64 0,.int .i64 0,.sl .nil [],.bool false,.sl .nil [],.int .i64 v] from rfl]at hix
   clear hT1 hM3 k3 hM2 hM1 hM hB hso hR hC k2 kS
   rcases hr with⟨tg,_,rfl⟩|⟨j,rfl⟩
   ·generalize (cJ (St.tm (kR v op na ats) v::k))=LL at *
    simp (disch:=omega) only[t33,go_sem,hl,hlen,hsl,hix,c33,z2,z3]
   ·generalize (cJ (St.tm (kR v op na ats) v::k))=LL at *
    simp (disch:=omega) only[t33,go_sem,hl,hlen,hsl,hix,c33,z2,z3]
  | fn v f =>
   obtain⟨m,rfl⟩:∃q,m=q+1:=by cases m with|zero=>rw[bN]at hy2;cases hy2|succ q=>exact⟨q,rfl⟩
   rw[bN]at hy2
   obtain⟨m,rfl⟩:∃q,m=q+1:=by cases m with|zero=>rw[bN]at hy2;cases hy2|succ q=>exact⟨q,rfl⟩
   rw[bN]at hy2
   cases hy2
   refine⟨_,ρ1,_,aB K _ (fn:=t33) rfl rfl ?_,RT.fn v f hT1,hR1,hM3,k3⟩
   rw[show rM (.tm (bX v f (.sl .nil [])) v)=[.bool false,.int .i64 2,.int .i64 v,.int .i64 0,.int .i64 0,.int .i64 f,.sl .nil [],.sl .nil [],.int .i64 0,.int .i64 0,.sl .nil [],.bool false,.sl .nil [],.int .i64 v] from rfl]at hix
   clear hT1 hM3 k3 hM2 hM1 hM hB hso hR hC k2 kS
   unfold bX
   rcases hr with⟨tg,_,rfl⟩|⟨j,rfl⟩
   ·simp (disch:=omega) only[t33,go_sem,hl,hlen,hsl,hix,c33,z2,z3]
   ·simp (disch:=omega) only[t33,go_sem,hl,hlen,hsl,hix,c33,z2,z3]
  | rs e to =>
   obtain⟨m,rfl⟩:∃q,m=q+1:=by cases m with|zero=>rw[bN]at hy2;cases hy2|succ q=>exact⟨q,rfl⟩
   rw[bN]at hy2
   obtain⟨w,hw2,hy2⟩:=b_ hy2
   obtain⟨m,rfl⟩:∃q,m=q+1:=by cases m with|zero=>rw[bN]at hy2;cases hy2|succ q=>exact⟨q,rfl⟩
   rw[bN]at hy2
   cases hy2
   have hXO:XO e:=hso (.rs e to) (by simp)
   have hlw:=(mono (m+1)).code hw2
   have hpl:(y.2.push (fnF .full [to] false true y.1)).var.fs.length=y.2.fs.length+1:=by simp[Mk.var,Mk.push]
   have hfl:y.2.fs.length<1000000:=by have:=hlw.len;rw[hpl]at this;have:=hB.fs;simp only at this;omega
   have hvl:y.2.nv<4611686018427387904:=by have h1:=hlw.nv;have h2:=hB.hi;have h3:(y.2.push (fnF .full [to] false true y.1)).var.nv=y.2.nv+1:=rfl;simp only at h2;omega
   obtain⟨S4,c30,hM4,k4⟩:=aF1 hM3 (by have:=hR1.len;omega) .full [[.int .i64 to]] false true d0 d1 d2 d3 d4 d5 f5 d6 f6
   have c29:=aA8 hM4 (ρ1.fs.length)
   have hM5:=hM4.var (by have:=hR1.nv;show ρ1.nv<_;omega)
   have k5:aJ [jm,jf] S4 (S4.set jm (mkC jf (Mk.var (ρ1.push [.sl .full [[.int .i64 to]],.bool false,.bool true,.sl .nil [],.int .i64 d0,.int .i64 d1,.int .i64 d2,.int .i64 d3,.int .i64 d4,.sl d5 f5,.sl d6 f6])))):=aJ.set _ (by simp) _
   have hR5:RM (y.2.push (fnF .full [to] false true y.1)).var (Mk.var (ρ1.push [.sl .full [[.int .i64 to]],.bool false,.bool true,.sl .nil [],.int .i64 d0,.int .i64 d1,.int .i64 d2,.int .i64 d3,.int .i64 d4,.sl d5 f5,.sl d6 f6])):=(hR1.push (RF.mk .full .full [to] false true hT1)).var
   obtain⟨t6,ρ6,S6,c31,hT6,hR6,hM6,k6⟩:=hC (m+1) (by omega) hw2 hXO (by show b0<=y.2.nv+1;have:=hle0.nv;omega) hB hR5 hM5
   obtain⟨g0,g1,g2,g3,g4,g5,g6,p5,p6,rfl⟩:=hT6.o
   have c32:=mK ρ1.nv
   have hpn:(Mk.push ρ1 [.sl .full [[.int .i64 to]],.bool false,.bool true,.sl .nil [],.int .i64 d0,.int .i64 d1,.int .i64 d2,.int .i64 d3,.int .i64 d4,.sl d5 f5,.sl d6 f6]).nv=ρ1.nv:=rfl
   have hnn:=hR1.nv
   have hfn:(y.2.fs.length:Int)=(ρ1.fs.length:Int)+1:=by have:=hR1.len;omega
   refine⟨_,ρ6,S6,aB K _ (fn:=t33) rfl rfl ?_,by rw[hnn,hfn];exact RT.fn ρ1.nv ρ1.fs.length hT6,hR6,hM6,((k3.trans k4).trans k5).trans k6⟩
   rw[show rM (.rs e to)=.bool true::(zT++(cD e++[.int .i64 to])) from rfl]at hix
   unfold zT at hix
   rw[hnn]at c31
   rw[hpn]at c29
   rw[aL]at hix c31
   simp only[List.cons_append,List.nil_append]at hix
   clear hT1 hM3 k3 hM2 hM1 hM hB hso hR hC k2 kS hM4 k4 hM5 k5 hR5 hT6 hR6 hM6 k6
   unfold oD at c29
   unfold bX
   generalize (Mk.push ρ1 [.sl .full [[.int .i64 to]],.bool false,.bool true,.sl .nil [],.int .i64 d0,.int .i64 d1,.int .i64 d2,.int .i64 d3,.int .i64 d4,.sl d5 f5,.sl d6 f6])=ρ2 at *
   rcases hr with⟨tg,_,rfl⟩|⟨j,rfl⟩
   ·simp (disch:=omega) only[t33,go_sem,hl,hlen,hsl,hix,c33,z2,z3,c30,c29,aF c32,c31]
   ·simp (disch:=omega) only[t33,go_sem,hl,hlen,hsl,hix,c33,z2,z3,c30,c29,aF c32,c31]
theorem bMk {b0:Int}{n:Nat}(hb0:0<=b0∧b0<=1152921504606846976)(hC:∀m,m<=n->mT b0 m){e:Ex}{σ ρ:Mk}{y:Int×Mk}{S:aA}{jm jf:Nat}(h7:e.k=7)(hy:eO n e σ=some y)(ho:XO e)(hb:b0<=σ.nv)(hB:Bd b0 y.2.var)(hR:RM σ ρ)(hM:MkC S jm jf ρ):
  ∃r l ρ' S',(lim K).call 54 [.ptr jm 78 0,.iv (.agg (cD e))] S=.ret (.tup [r,.iv (.agg (aV y.2.nv))],S')∧SR r (cJ l)∧RSs [.tm (bX y.2.nv y.1 (.sl .nil [])) y.2.nv] l∧RM y.2.var ρ'∧MkC S' jm jf ρ'∧aJ [jm,jf] S S':=by
 cases n with
 | zero=>rw[eO]at hy;cases hy
 | succ n =>
  rw[eO]at hy
  split at hy
  ·cases hy
  rename_i b rr hks
  obtain⟨z,hz,hy⟩:=b_ hy
  cases hy
  have hle:=(mono n).code hz
  have hpl:∀f,(z.2.push f).fs.length=z.2.fs.length+1:=fun f=>by simp[Mk.push]
  have hlt:z.2.fs.length<1000000:=by have:=hB.fs;simp[Mk.var,Mk.push]at this;omega
  have hzv:z.2.nv+1<=b0+1000000:=hB.hi
  have hBz:Bd b0 z.2:=⟨by omega,by omega⟩
  have hnv:σ.nv<4611686018427387904:=by have h1:=hle.nv;have h3:σ.var.nv=σ.nv+1:=rfl;omega
  have hvn:=hR.nv
  have c28:=rL hM
  have hM1:=hM.var (by omega)
  have k1:aJ [jm,jf] S (S.set jm (mkC jf ρ.var)):=aJ.set _ (by simp) _
  generalize hS1:S.set jm (mkC jf ρ.var)=S1 at *
  have hl1:S1.length=S.length:=by rw[<-hS1,List.length_set]
  have hj1:jm<S1.length∧jf<S1.length:=⟨aO hM1.own,aO hM1.row⟩
  have hbo:XO b:=ho.kid (by rw[hks];simp)
  have hwe:=Ex.w_eq e
  have hw2:=ho.2
  obtain⟨j2,S2,a2,g2⟩:=(Gl.nil S1.length S1 1 3 0).more (b:=8) (hP.sl S1 .full [[.int .i64 ρ.nv]]) (by intro y hy;simp at hy;subst hy;exact⟨rfl,rfl⟩) (by intro y hy;cases hy) (cI (by simp)) (Nat.le_refl _)
  rw[fG]at a2
  have hM2:=g2.mkc (Gl.nil ..) hM1 hj1
  have k2:=g2.keep (I:=[jm,jf]) (Gl.nil ..) (aJ.refl _ _) (Nat.le_refl _)
  have hel:cO 1 (TM.one (IV.int .i64) e.vs):=by
   intro y hy
   obtain⟨m,_,rfl⟩:=List.mem_map.1 hy
   exact⟨rfl,rfl⟩
  obtain⟨j3,S3,a3,g3⟩:=g2.gl.more (b:=8) (hP.sl S2 e.gv (TM.one (IV.int .i64) e.vs)) hel (by intro y hy;simp at hy;subst hy;exact⟨rfl,rfl⟩) (cI (by simp[TM.dL];omega)) g2.len
  have hM3:=g3.mkc g2.gl hM2 hj1
  rw[List.nil_append]at a2 a3
  have k3:=g3.keep g2.gl k2 (Nat.le_refl _)
  have hM4:=hM3.keep (I:=[]) (aJ.app [] S3 [bT]) (by simp) (by simp)
  have k4:aJ [jm,jf] S1 (S3++[bT]):=k3.trans (aJ.app _ _ _)
  obtain⟨t,ρ5,S5,c31,hT,hR5,hM5,k5⟩:=hC n (by omega) hz hbo (by show b0<=σ.nv+1;omega) hBz hR.var hM4
  obtain⟨d0,d1,d2,d3,d4,d5,d6,f5,f6,rfl⟩:=hT.o
  have z5:S5[S3.length]? = some bT:=k5.get _ _ (by
   have h1:=aO hM3.own;have h2:=aO hM3.row;simp;omega) (by simp)
  have z6:=fun b=>bQ (aO z5) b
  have n3:jm<S3.length∧jf<S3.length:=⟨aO hM3.own,aO hM3.row⟩
  let B:aP:=.cells 46 false [j_ d0,j_ d1,j_ d2,j_ d3,j_ d4,.iv (.sl d5 f5),.iv (.sl d6 f6)]
  have hM6:MkC (S5.set S3.length B) jm jf ρ5:=⟨by rw[aU (by omega)];exact hM5.own,by rw[aU (by omega)];exact hM5.row,hM5.ne,hM5.wid,hM5.ok⟩
  have k6:aJ [jm,jf] S1 (S5.set S3.length B):=by
   have h:=k4.trans k5
   refine⟨by rw[List.length_set];exact h.len,fun i b hi hb=>?_⟩
   have:=k3.len
   rw[aU (by have:=aO hb;have:=g3.len;have:=g2.len;omega)]
   exact h.get _ _ hi hb
  have hR5l:=hR5.len
  obtain⟨S7,c30,hM7,k7⟩:=bCm hM6 (by omega) j3 (ps:=[[.int .i64 ρ.nv]]++TM.one (IV.int .i64) e.vs) (by simp) e.r false d0 d1 d2 d3 d4 d5 f5 d6 f6
  have hv5:=hR5.nv
  have c29:=aA8 hM7 (ρ5.fs.length)
  have hM8:=hM7.var (by show ρ5.nv<_;omega)
  have c32:=mK ρ.nv
  have c32b:=mK ρ5.nv
  have hfn:(z.2.fs.length:Int)=(ρ5.fs.length:Int)+1:=by omega
  have hix:=ixE (g:=e.g) (ks:=e.ks) (i:=0) (by rw[hks];simp)
  have hget:=mP (d:=b)
  rw[show e.ks.getD (0:Int).toNat default=b by rw[hks];rfl]at hix
  rw[hvn]at c31
  refine⟨.iv (.sl .full [oD ρ5.nv ρ5.fs.length]),[.tm (bX ρ5.nv ρ5.fs.length (.sl .nil [])) ρ5.nv],_,_,aB K _ (fn:=t54) rfl rfl ?_,.inr (.inr rfl),?_,?_,hM8,(k1.trans (k6.trans k7)).trans (aJ.set _ (by simp) _)⟩
  rotate_left
  ·show RSs [.tm (bX z.2.nv z.2.fs.length (.sl .nil [])) z.2.nv] _
   rw[hv5,hfn]
   exact .cons (RSt.fn _ _) .nil
  ·show RM (z.2.push (fnF (rH e.vs) (σ.nv::e.vs) e.r false z.1)).var _
   rw[hvn]
   exact(hR5.push (RF.mk (rH e.vs) .no (ρ.nv::e.vs) e.r false hT)).var
  have hpn:∀f,(Mk.push ρ5 f).nv=ρ5.nv:=fun f=>rfl
  have hpz:∀f,(Mk.push z.2 f).nv=z.2.nv:=fun f=>rfl
  rw[hpn]at c29
  simp only[hpz,hv5]
  clear hT hM hM1 hM2 hM3 hM4 hM5 hM6 hM7 hM8 k1 k2 k3 k4 k5 k6 k7 hR hR5 hB hBz hC g2 g3
  simp only[B]at c30
  rw[dE j2 (by simp)]at a2 a3
  rw[dE j3 (by simp)]at a3 c30
  unfold bT at *
  unfold oD at *
  unfold aV at *
  generalize [[IV.int .i64 ρ.nv]]++TM.one (IV.int .i64) e.vs=PP at *
  rw[hvn]at *
  generalize (Mk.push ρ5 [.sl .no PP,.bool e.r,.bool false,.sl .nil [],.int .i64 d0,.int .i64 d1,.int .i64 d2,.int .i64 d3,.int .i64 d4,.sl d5 f5,.sl d6 f6])=ρ6 at *
  rw[aL]at hix hget c31 ⊢
  simp (disch:=omega) only[t54,go_sem,h7,c28,hS1,a2,a3,hix,hget,aF c32,aF c32b,c31,z5,z6,c30,c29]
theorem bIa {b0:Int}{e:Ex}{σ ρ:Mk}{S:aA}{jm jf:Nat}(hb0:0<=b0∧b0<=1152921504606846976)(hw:e.ks.length<=1048576)(hl:e.k=10∧¬e.ks.length<=64∨e.k=8∨e.k=6∨e.k=11)(hB:Bd b0 σ.var)(hR:RM σ ρ)(hM:MkC S jm jf ρ):
  ∃r l ρ' S',(lim K).call 54 [.ptr jm 78 0,.iv (.agg (cD e))] S=.ret (.tup [r,.iv (.agg (aV σ.nv))],S')∧SR r (cJ l)∧RSs [.rs e σ.nv] l∧RM σ.var ρ'∧MkC S' jm jf ρ'∧aJ [jm,jf] S S':=by
 have hnv:σ.nv<4611686018427387904:=by have h9:σ.nv+1<=b0+1000000:=hB.hi;omega
 have hvn:=hR.nv
 have c28:=rL hM
 have c32:=mK ρ.nv
 have hlE:=aG e.ks
 refine⟨.iv (.sl .full [rM (.rs e ρ.nv)]),[.rs e ρ.nv],_,_,aB K _ (fn:=t54) rfl rfl ?_,.inr (.inr rfl),by rw[hvn];exact .cons (RSt.rs _ _) .nil,hR.var,hM.var (by omega),aJ.set _ (by simp) _⟩
 rw[show rM (.rs e ρ.nv)=.bool true::(zT++(cD e++[.int .i64 ρ.nv])) from rfl]
 unfold zT aV
 rw[hvn]
 rw[aL]
 rcases hl with⟨hl,h64⟩|hl|hl|hl
 ·simp (disch:=omega) only[t54,go_sem,hlE,hl,c28,aF c32]
 ·simp (disch:=omega) only[t54,go_sem,hlE,hl,c28,aF c32]
 ·simp (disch:=omega) only[t54,go_sem,hlE,hl,c28,aF c32]
 ·simp (disch:=omega) only[t54,go_sem,hlE,hl,c28,aF c32]
theorem bKz {e:Ex}(ho:XO e):eN (opX e):=by
 have h:=((Ex.ok_eq e).1 ho.1).2.1
 unfold opX
 unfold eN at *
 repeat' split
 all_goals omega
theorem bK0 {e:Ex}(ho:XO e):eN (opN e):=by
 have h:=((Ex.ok_eq e).1 ho.1).2.1
 unfold opN
 unfold eN at *
 repeat' split
 all_goals omega
theorem bK1 {b0:Int}{n:Nat}(hb0:0<=b0∧b0<=1152921504606846976)(hVs:kE b0 n){e:Ex}{σ ρ:Mk}{y:List St×M_×Mk}{S:aA}{jm jf:Nat}(hy:bP n e.ks σ=some y)(ho:XO e)(h1:e.k≠1∧e.k≠2∧e.k≠7∧e.k≠10∧e.k≠8∧e.k≠6∧e.k≠11)(hb:b0<=σ.nv)(hB:Bd b0 y.2.2.var)(hR:RM σ ρ)(hM:MkC S jm jf ρ):
  ∃r l ρ' S',(lim K).call 54 [.ptr jm 78 0,.iv (.agg (cD e))] S=.ret (.tup [r,.iv (.agg (aV y.2.2.nv))],S')∧SR r (cJ l)∧RSs (y.1++[.tm (kR y.2.2.nv (opX e) (opN e) y.2.1) y.2.2.nv]) l∧RM y.2.2.var ρ'∧MkC S' jm jf ρ'∧aJ [jm,jf] S S':=by
 have hwe:=Ex.w_eq e
 have hw2:=ho.2
 have hkl:=Ex.ws_len e.ks
 have hlE:=aG e.ks
 have hBy:Bd b0 y.2.2:=hB.le (Le.var _)
 have hnv:y.2.2.nv<4611686018427387904:=by have h9:y.2.2.nv+1<=b0+1000000:=hB.hi;omega
 obtain⟨js,ja,l,ρ1,S1,c55,hrs,g1,g2,hd,hR1,hM1,k1⟩:=hVs (g:=e.g) hy (fun x hx=>ho.kid hx) (by omega) hb hBy hR hM
 obtain⟨s1,s2,s3,s4⟩:=(cW n).values hy (fun x hx=>ho.kid hx)
 have hvn:=hR1.nv
 have c28:=rL hM1
 have hM2:=hM1.var (by omega)
 have k2:aJ [jm,jf] S1 (S1.set jm (mkC jf ρ1.var)):=aJ.set _ (by simp) _
 have hj:∀i∈[jm,jf],i<S.length:=fun i hi=>by
  have:=aO hM.own;have:=aO hM.row
  simp at hi;rcases hi with rfl|rfl<;>omega
 have g1':=g1.keep k2 hj
 obtain⟨js2,S3,a1,gr⟩:=g1'.more (b:=176) (hP.sl (S1.set jm (mkC jf ρ1.var)) .full [rM (.tm (kR ρ1.nv (opX e) (opN e) y.2.1) ρ1.nv)]) (by intro y hy;simp at hy;subst hy;exact⟨rfl,rfl⟩) (nR (hrs.o s2)) (cI (by rw[nK,<-hrs.len];have:=hBy.hi;simp;omega)) (by have:=k1.len;simpa using this)
 have c32:=mK ρ1.nv
 refine⟨acc js2 (cJ l++[rM (.tm (kR ρ1.nv (opX e) (opN e) y.2.1) ρ1.nv)]),l++[.tm (kR ρ1.nv (opX e) (opN e) y.2.1) ρ1.nv],ρ1.var,S3,aB K _ (fn:=t54) rfl rfl ?_,(by rw[xO];exact SR.acc js2 _),hrs.app (by rw[hvn];exact .cons (RSt.prim _ _ _ _ (bKz ho) (bK0 ho)) .nil),hR1.var,gr.mkc g1' hM2 ⟨aO hM.own,aO hM.row⟩,gr.keep g1' (k1.trans k2) (Nat.le_refl _)⟩
 rw[show rM (.tm (kR ρ1.nv (opX e) (opN e) y.2.1) ρ1.nv)=[.bool false,.int .i64 1,.int .i64 ρ1.nv,.int .i64 (opX e),.int .i64 (opN e),.int .i64 0,.sl (nG y.2.1) y.2.1,.sl .nil [],.int .i64 0,.int .i64 0,.sl .nil [],.bool false,.sl .nil [],.int .i64 ρ1.nv] from rfl]at a1 ⊢
 obtain⟨h1,h2,h7,h10,h8,h6,h11⟩:=h1
 unfold aV
 rw[hvn,aL]
 clear hR1 hM1 hM2 k1 k2 g1 g1' g2 gr hd hrs hM hR
 by_cases q1:e.k=12
 ·rw[show opX e=100 by unfold opX;rw[if_pos q1],show opN e=0 by unfold opN;rw[if_pos q1]]at a1 ⊢
  simp (disch:=omega) only[t54,go_sem,hlE,c55,c28,a1,aF c32]
 by_cases q2:e.k=13
 ·rw[show opX e=101 by unfold opX;rw[if_neg q1,if_pos q2],show opN e=0 by unfold opN;rw[if_neg q1,if_pos q2]]at a1 ⊢
  simp (disch:=omega) only[t54,go_sem,hlE,c55,c28,a1,aF c32]
 by_cases q3:e.k=14
 ·rw[show opX e=102 by unfold opX;rw[if_neg q1,if_neg q2,if_pos q3],show opN e=0 by unfold opN;rw[if_neg q1,if_neg q2,if_pos q3]]at a1 ⊢
  simp (disch:=omega) only[t54,go_sem,hlE,c55,c28,a1,aF c32]
 by_cases q4:e.k=3
 ·rw[show opX e=103 by unfold opX;rw[if_neg q1,if_neg q2,if_neg q3,if_pos q4],show opN e=e.n by unfold opN;rw[if_neg q1,if_neg q2,if_neg q3,if_pos (.inl q4)]]at a1 ⊢
  simp (disch:=omega) only[t54,go_sem,hlE,c55,c28,a1,aF c32]
 by_cases q5:e.k=5
 ·rw[show opX e=104 by unfold opX;rw[if_neg q1,if_neg q2,if_neg q3,if_neg q4,if_pos q5],show opN e=e.n by unfold opN;rw[if_neg q1,if_neg q2,if_neg q3,if_pos (.inr q5)]]at a1 ⊢
  simp (disch:=omega) only[t54,go_sem,hlE,c55,c28,a1,aF c32]
 rw[show opX e=e.n by unfold opX;rw[if_neg q1,if_neg q2,if_neg q3,if_neg q4,if_neg q5],show opN e=0 by unfold opN;rw[if_neg q1,if_neg q2,if_neg q3,if_neg (by omega)]]at a1 ⊢
 simp (disch:=omega) only[t54,go_sem,hlE,c55,c28,a1,aF c32]
theorem aIu {b0:Int}{n:Nat}(hb0:0<=b0∧b0<=1152921504606846976)(hC:∀m,m<=n->mT b0 m)(hVs:kE b0 n):uZ b0 (n+1):=by
 intro e σ ρ x S jm jf hx ho hb hB hR hM
 have hwe:=Ex.w_eq e
 have hw2:=ho.2
 have hkl:=Ex.ws_len e.ks
 have hlE:=aG e.ks
 rw[dQ]at hx
 by_cases h1:e.k=1
 ·rw[if_pos h1]at hx
  cases hx
  refine⟨k_,[],ρ,S,aB K _ (fn:=t54) rfl rfl ?_,.inl ⟨rfl,rfl⟩,.nil,hR,hM,aJ.refl _ _⟩
  rw[aL]
  unfold aC
  simp (disch:=omega) only[t54,go_sem]
 rw[if_neg h1]at hx
 by_cases h2:e.k=2
 ·rw[if_pos h2]at hx
  cases hx
  have c32:=mK e.n
  refine⟨k_,[],ρ,S,aB K _ (fn:=t54) rfl rfl ?_,.inl ⟨rfl,rfl⟩,.nil,hR,hM,aJ.refl _ _⟩
  rw[aL]
  unfold aV
  simp (disch:=omega) only[t54,go_sem,aF c32]
 rw[if_neg h2]at hx
 by_cases h7:e.k=7
 ·rw[if_pos h7]at hx
  obtain⟨y,hy,hx⟩:=b_ hx
  cases hx
  exact bMk hb0 hC h7 hy ho hb hB hR hM
 rw[if_neg h7]at hx
 by_cases h10:e.k=10∧e.ks.length<=64
 ·rw[if_pos h10]at hx
  obtain⟨y,hy,hx⟩:=b_ hx
  obtain⟨a,ha,hx⟩:=b_ hx
  cases hx
  obtain⟨js,ja,l,ρ1,S1,c55,hrs,g1,g2,hd,hR1,hM1,k1⟩:=hVs (g:=e.g) hy (fun x hx=>ho.kid hx) (by omega) hb hB hR hM
  have hne:y.2.1≠[]:=by rintro h;rw[h]at ha;cases ha
  obtain⟨p,q,rfl⟩:=((cW n).values hy (fun x hx=>ho.kid hx)).1 a (List.mem_of_getLast? ha)
  have hix:=bGo (j:=ja) hne ha (w:=2) rfl
  have hl1:=((cW n).values hy (fun x hx=>ho.kid hx)).2.2.2
  refine⟨_,l,ρ1,S1,aB K _ (fn:=t54) rfl rfl ?_,SR.acc js _,hrs,hR1,hM1,k1⟩
  obtain⟨h10a,h10b⟩:=h10
  rw[aL]
  clear hR1 hM1 k1 g1 g2 hd hrs hM hR
  rw[dE ja hne]at c55 hix
  simp (disch:=omega) only[t54,go_sem,hlE,c55,hix,oA,aH]
 rw[if_neg h10]at hx
 by_cases hl:e.k=10∨e.k=8∨e.k=6∨e.k=11
 ·rw[if_pos hl]at hx
  cases hx
  exact bIa hb0 (by omega) (by omega) hB hR hM
 rw[if_neg hl]at hx
 obtain⟨y,hy,hx⟩:=b_ hx
 cases hx
 exact bK1 hb0 hVs hy ho (by omega) hb hB hR hM
theorem bDc {b0:Int}{n:Nat}(hb0:0<=b0∧b0<=1152921504606846976)(hC:∀m,m<=n->mT b0 m)(hV:uZ b0 n){e:Ex}{k0 k1:Int}{σ ρ:Mk}{y:List St×List IV×Mk}{x:List IV×Mk}{S:aA}{jm jf:Nat}(hk:e.k≠8∧e.k≠6∧e.k≠10∧e.k≠11)(hy:dQ n e σ=some y)(hx:bN n y.1.reverse (cU .full [[.int .i64 k0,.int .i64 k1],y.2.1]) y.2.2=some x)(ho:XO e)(hb:b0<=σ.nv)(hB:Bd b0 x.2)(hR:RM σ ρ)(hM:MkC S jm jf ρ):
  ∃t ρ' S',(lim K).call 31 [.ptr jm 78 0,.iv (.agg (cD e)),.iv (.agg [.int .i64 k0,.int .i64 k1])] S=.ret (.iv (.agg t),S')∧RT x.1 t∧RM x.2 ρ'∧MkC S' jm jf ρ'∧aJ [jm,jf] S S':=by
 have hlE:=aG e.ks
 have l1:=(mono n).value hy
 have l2:=(mono n).laid hx
 obtain⟨⟨p,q,hpq⟩,hso,hsl⟩:=(cW n).value hy ho
 obtain⟨r,l,ρ1,S1,c54,hr,hrs,hR1,hM1,k1'⟩:=hV hy ho hb (hB.le l2) hR hM
 obtain⟨t2,ρ2,S2,c33,hT,hR2,hM2,k2⟩:=kX hb0 hC y.1 l n _ _ y.2.2 ρ1 x S1 r (by omega) hx hr.sx hrs (RT.call .full .full [[.int .i64 k0,.int .i64 k1],y.2.1]) hso (Int.le_trans hb l1.nv) hB hR1 hM1
 obtain⟨d0,d1,d2,d3,d4,d5,d6,f5,f6,rfl⟩:=hT.o
 refine⟨_,ρ2,S2,aB K _ (fn:=t31) rfl rfl ?_,hT,hR2,hM2,k1'.trans k2⟩
 rw[hpq]at c54 c33
 unfold cU at c33
 obtain⟨h8,h6,h10,h11⟩:=hk
 rw[aL]at c54 ⊢
 clear hT hR2 hM2 k1' k2 hR1 hM1 hrs
 rcases hr with⟨_,rfl⟩|⟨j,rfl⟩|rfl
 ·simp (disch:=omega) only[t31,go_sem,hlE,c54,c33]
 ·simp (disch:=omega) only[t31,go_sem,hlE,c54,c33]
 ·simp (disch:=omega) only[t31,go_sem,hlE,c54,c33]
theorem bDd {b0:Int}{n:Nat}(hb0:0<=b0∧b0<=1152921504606846976)(hC:∀m,m<=n->mT b0 m)(hVs:kE b0 n){e:Ex}{k0 k1:Int}{σ ρ:Mk}{y:List St×M_×Mk}{x:List IV×Mk}{S:aA}{jm jf:Nat}{a:List IV}{rr:M_}(hk:e.k=8)(hy:bP n e.ks σ=some y)(ha:y.2.1=a::rr)(hx:bN n y.1.reverse (cU .no (a::[.int .i64 k0,.int .i64 k1]::rr)) y.2.2=some x)(ho:XO e)(hb:b0<=σ.nv)(hB:Bd b0 x.2)(hR:RM σ ρ)(hM:MkC S jm jf ρ):
  ∃t ρ' S',(lim K).call 31 [.ptr jm 78 0,.iv (.agg (cD e)),.iv (.agg [.int .i64 k0,.int .i64 k1])] S=.ret (.iv (.agg t),S')∧RT x.1 t∧RM x.2 ρ'∧MkC S' jm jf ρ'∧aJ [jm,jf] S S':=by
 have hlE:=aG e.ks
 have hwe:=Ex.w_eq e
 have hw2:=ho.2
 have hkl:=Ex.ws_len e.ks
 have l1:=(mono n).values hy
 have l2:=(mono n).laid hx
 obtain⟨s1,s2,s3,s4⟩:=(cW n).values hy (fun x hx=>ho.kid hx)
 obtain⟨js,ja,l,ρ1,S1,c55,hrs,g1,g2,hd,hR1,hM1,k1'⟩:=hVs (g:=e.g) hy (fun x hx=>ho.kid hx) (by omega) hb (hB.le l2) hR hM
 rw[ha]at c55 s1 s4 g2
 obtain⟨p,q,rfl⟩:=s1 a (by simp)
 have hix:indexAddrS 2 (.tsl ja ([.int .i64 p,.int .i64 q]::rr)) 0=some (.iv (.cp [.int .i64 p,.int .i64 q])):=kP (by decide) rfl rfl
 have hsl:∀S,cH S (.sl 2) (.tsl ja ([.int .i64 p,.int .i64 q]::rr)) (some 1) none none=some (.iv (.sl .no rr)):=fun S=>by
  simp only[cH,TM.iE,List.length_cons,List.length_nil,beq_self_eq_true,↓reduceIte]
  rw[vO (dN.no _) (by simp;omega)]
  rfl
 have hel:cO 2 rr:=AtO.el fun a ha=>s1 a (by simp[ha])
 rw[dE ja (by simp)]at c55
 unfold cU at *
 rw[aL]at *
 by_cases hr0:rr=[]
 ·subst hr0
  have ap:∀S,bY false 2 16 53 S (.iv (.sl .full [[.int .i64 p,.int .i64 q],[.int .i64 k0,.int .i64 k1]])) (.iv (.sl .no []))=some (.iv (.sl .full [[.int .i64 p,.int .i64 q],[.int .i64 k0,.int .i64 k1]]),S):=fun S=>sX rfl (hP.sl ..)
  obtain⟨t2,ρ2,S2,c33,hT,hR2,hM2,k2⟩:=kX hb0 hC y.1 l n _ _ y.2.2 ρ1 x S1 (acc js (cJ l)) (by omega) hx (SR.acc js _).sx hrs (RT.call .no .full _) s2 (Int.le_trans hb l1.nv) hB hR1 hM1
  obtain⟨d0,d1,d2,d3,d4,d5,d6,f5,f6,rfl⟩:=hT.o
  refine⟨_,ρ2,S2,aB K _ (fn:=t31) rfl rfl ?_,hT,hR2,hM2,k1'.trans k2⟩
  unfold cU at c33
  clear hT hR2 hM2 k1' k2 hR1 hM1 hrs g1 g2 hd
  simp (disch:=omega) only[t31,go_sem,hlE,hk,c55,hix,hsl,ap,c33]
 ·have hnn:[[IV.int .i64 p,.int .i64 q],[.int .i64 k0,.int .i64 k1]]++rr≠[]:=by simp
  have ap:∀S:aA,bY false 2 16 53 S (.iv (.sl .full [[.int .i64 p,.int .i64 q],[.int .i64 k0,.int .i64 k1]])) (.iv (.sl .no rr))=some (.tsl S.length ([.int .i64 p,.int .i64 q]::[.int .i64 k0,.int .i64 k1]::rr),S++[.tok (rr.length+1+1) 2 53]):=fun S=>by
   have:=qV (S:=S) (w:=2) (b:=16) (el:=53) (t:=.full) (l:=[[.int .i64 p,.int .i64 q],[.int .i64 k0,.int .i64 k1]]) (by decide) (hP.sl S .no rr) hel (by intro y hy;simp at hy;rcases hy with rfl|rfl<;>exact⟨rfl,rfl⟩) hr0 (cI (by simp at s4 ⊢;omega))
   rw[this]
   simp
   omega
  have hM1':=hM1.keep (I:=[]) (aJ.app [] S1 [.tok (rr.length+1+1) 2 53]) (by simp) (by simp)
  obtain⟨t2,ρ2,S2,c33,hT,hR2,hM2,k2⟩:=kX hb0 hC y.1 l n _ _ y.2.2 ρ1 x _ (acc js (cJ l)) (by omega) hx (SR.acc js _).sx hrs (RT.call .no .no _) s2 (Int.le_trans hb l1.nv) hB hR1 hM1'
  obtain⟨d0,d1,d2,d3,d4,d5,d6,f5,f6,rfl⟩:=hT.o
  refine⟨_,ρ2,S2,aB K _ (fn:=t31) rfl rfl ?_,hT,hR2,hM2,(k1'.trans (aJ.app _ _ _)).trans k2⟩
  unfold cU at c33
  clear hT hR2 hM2 k1' k2 hR1 hM1 hrs g1 g2 hd hM1'
  simp (disch:=omega) only[t31,go_sem,hlE,hk,c55,hix,hsl,ap,c33]
theorem tL {b0:Int}{n:Nat}(hC:mT b0 n){e:Ex}{k0 k1:Int}{σ ρ:Mk}{x:List IV×Mk}{S:aA}{jm jf:Nat}(hx:dR n e [.int .i64 k0,.int .i64 k1] σ=some x)(ho:XO e)(hb:b0<=σ.nv)(hB:Bd b0 x.2)(hR:RM σ ρ)(hM:MkC S jm jf ρ):
  ∃(d0 d1 d2 d3 d4:Int) (d5 d6:Tag) (f5 f6:M_) (ρ':Mk) (S2 S3:aA),(lim K).call 31 [.ptr jm 78 0,.iv (.agg (cD e)),.iv (.agg [.int .i64 k0,.int .i64 k1])] (S++[bT])=.ret (.iv (.agg [.int .i64 d0,.int .i64 d1,.int .i64 d2,.int .i64 d3,.int .i64 d4,.sl d5 f5,.sl d6 f6]),S2)∧S2[S.length]? = some bT ∧
   S2.set S.length (.cells 46 false [j_ d0,j_ d1,j_ d2,j_ d3,j_ d4,.iv (.sl d5 f5),.iv (.sl d6 f6)])=S3∧S3[S.length]? = some (.cells 46 false [j_ d0,j_ d1,j_ d2,j_ d3,j_ d4,.iv (.sl d5 f5),.iv (.sl d6 f6)])∧MkC S3 jm jf ρ'∧aJ [jm,jf] S S3∧RT x.1 [.int .i64 d0,.int .i64 d1,.int .i64 d2,.int .i64 d3,.int .i64 d4,.sl d5 f5,.sl d6 f6]∧RM x.2 ρ':=by
 have j1:jm<S.length∧jf<S.length:=⟨aO hM.own,aO hM.row⟩
 have hM1:=hM.keep (I:=[]) (aJ.app [] S [bT]) (by simp) (by simp)
 obtain⟨t,ρ2,S2,c31,hT,hR2,hM2,k2⟩:=hC hx ho hb hB hR hM1
 obtain⟨d0,d1,d2,d3,d4,d5,d6,f5,f6,rfl⟩:=hT.o
 have z2:S2[S.length]? = some bT:=k2.get _ _ (by simp;omega) (by simp)
 refine⟨d0,d1,d2,d3,d4,d5,d6,f5,f6,ρ2,S2,_,c31,z2,rfl,bQ (aO z2) _,⟨by rw[aU (by omega)];exact hM2.own,by rw[aU (by omega)];exact hM2.row,hM2.ne,hM2.wid,hM2.ok⟩,?_,hT,hR2⟩
 have h:=(aJ.app [jm,jf] S [bT]).trans k2
 refine⟨by rw[List.length_set];exact h.len,fun i b hi hb=>?_⟩
 rw[aU (by have:=aO hb;omega)]
 exact h.get _ _ hi hb
theorem bDe {b0:Int}{n:Nat}(hb0:0<=b0∧b0<=1152921504606846976)(hC:∀m,m<=n->mT b0 m)(hV:uZ b0 n){e:Ex}{k0 k1:Int}{σ ρ:Mk}{c p q:Ex}{ks:List Ex}{y:List St×List IV×Mk}{u v x:List IV×Mk}{S:aA}{jm jf:Nat}(hk:e.k=6)(hks:e.ks=c::p::q::ks)(hy:dQ n c σ=some y)(hu:dR n p [.int .i64 k0,.int .i64 k1] y.2.2=some u)(hv:dR n q [.int .i64 k0,.int .i64 k1] u.2=some v)(hx:bN n y.1.reverse (ifT y.2.1 u.1 v.1) v.2=some x)(ho:XO e)(hb:b0<=σ.nv)(hB:Bd b0 x.2)(hR:RM σ ρ)(hM:MkC S jm jf ρ):
  ∃t ρ' S',(lim K).call 31 [.ptr jm 78 0,.iv (.agg (cD e)),.iv (.agg [.int .i64 k0,.int .i64 k1])] S=.ret (.iv (.agg t),S')∧RT x.1 t∧RM x.2 ρ'∧MkC S' jm jf ρ'∧aJ [jm,jf] S S':=by
 have hlE:=aG e.ks
 have l1:=(mono n).value hy
 have l2:=(mono n).code hu
 have l3:=(mono n).code hv
 have l4:=(mono n).laid hx
 have oc:XO c:=ho.kid (by rw[hks];simp)
 have op:XO p:=ho.kid (by rw[hks];simp)
 have oq:XO q:=ho.kid (by rw[hks];simp)
 have hB3:=hB.le l4
 have hB2:=hB3.le l3
 have b1:=Int.le_trans hb l1.nv
 have b2:=Int.le_trans b1 l2.nv
 have b3:=Int.le_trans b2 l3.nv
 obtain⟨⟨a0,a1,ha⟩,hso,hsl⟩:=(cW n).value hy oc
 obtain⟨r,l,ρ1,S1,c54,hr,hrs,hR1,hM1,k1'⟩:=hV hy oc hb (hB2.le l2) hR hM
 obtain⟨d0,d1,d2,d3,d4,d5,d6,f5,f6,ρ2,S2,S3,c31,z2,e3,z3,hM3,k3,hT2,hR2⟩:=tL (hC n (Nat.le_refl _)) hu op b1 hB2 hR1 hM1
 obtain⟨g0,g1,g2,g3,g4,g5,g6,p5,p6,ρ4,S4,S5,c31b,z4,e5,z5,hM5,k5,hT4,hR4⟩:=tL (hC n (Nat.le_refl _)) hv oq b2 hB3 hR2 hM3
 have z35:=k5.get _ _ (by
  have:=aO hM1.own;have:=aO hM1.row;simp;omega) z3
 obtain⟨t2,ρ6,S6,c33,hT,hR6,hM6,k6⟩:=kX hb0 hC y.1 l n _ _ v.2 ρ4 x S5 r (by omega) hx hr.sx hrs (RT.ite y.2.1 hT2 hT4) hso b3 hB hR4 hM5
 obtain⟨m0,m1,m2,m3,m4,m5,m6,q5,q6,rfl⟩:=hT.o
 have i0:=ixE (g:=e.g) (ks:=e.ks) (i:=0) (by rw[hks];simp;omega)
 have i1:=ixE (g:=e.g) (ks:=e.ks) (i:=1) (by rw[hks];simp;omega)
 have i2:=ixE (g:=e.g) (ks:=e.ks) (i:=2) (by rw[hks];simp;omega)
 rw[show e.ks.getD (0:Int).toNat default=c by rw[hks];rfl]at i0
 rw[show e.ks.getD (1:Int).toNat default=p by rw[hks];rfl]at i1
 rw[show e.ks.getD (2:Int).toNat default=q by rw[hks];rfl]at i2
 have gc:=mP (d:=c)
 have gp:=mP (d:=p)
 have gq:=mP (d:=q)
 refine⟨_,ρ6,S6,aB K _ (fn:=t31) rfl rfl ?_,hT,hR6,hM6,((k1'.trans k3).trans k5).trans k6⟩
 rw[ha]at c54 c33
 unfold ifT at c33
 unfold bT at *
 rw[aL]at c54 c31 c31b i0 i1 i2 gc gp gq ⊢
 clear hT hR6 hM6 k1' k3 k5 k6 hR1 hM1 hrs hM3 hM5 hT2 hT4 hR2 hR4
 rcases hr with⟨_,rfl⟩|⟨j,rfl⟩|rfl
 ·simp (disch:=omega) only[t31,go_sem,hlE,hk,i0,i1,i2,gc,gp,gq,c54,c31,z2,e3,c31b,z4,e5,z5,z35,c33]
 ·simp (disch:=omega) only[t31,go_sem,hlE,hk,i0,i1,i2,gc,gp,gq,c54,c31,z2,e3,c31b,z4,e5,z5,z35,c33]
 ·simp (disch:=omega) only[t31,go_sem,hlE,hk,i0,i1,i2,gc,gp,gq,c54,c31,z2,e3,c31b,z4,e5,z5,z35,c33]
def bS:aP:=.cells 80 false [.iv (.bool false),.iv (.int .i64 0),.iv (.int .i64 0),.iv (.int .i64 0),.iv (.int .i64 0),.iv (.int .i64 0),.iv (.sl .nil []),.iv (.sl .nil []),.iv (.int .i64 0),.iv (.int .i64 0),.iv (.sl .nil []),.iv (.bool false),.iv (.sl .nil []),.iv (.int .i64 0)]
def bM (v f:Int):aP:=.cells 80 false [.iv (.bool false),.iv (.int .i64 2),.iv (.int .i64 v),.iv (.int .i64 0),.iv (.int .i64 0),.iv (.int .i64 f),.iv (.sl .nil []),.iv (.sl .nil []),.iv (.int .i64 0),.iv (.int .i64 0),.iv (.sl .nil []),.iv (.bool false),.iv (.sl .nil []),.iv (.int .i64 v)]
theorem aEt {S:aA}{jm jf:Nat}{ρ:Mk}(hM:MkC S jm jf ρ)(hn:ρ.fs.length<1000000)(hv:ρ.nv<4611686018427387904)(tg:Tag)(ps:M_)(r c:Bool)(d0 d1 d2 d3 d4:Int)(d5:Tag)(f5:M_)(d6:Tag)(f6:M_):
  ∃S5 S6 S7,(lim K).call 30 [.ptr jm 78 0,.iv (.sl tg ps),.iv (.bool r),.iv (.bool c),.iv (.agg [.int .i64 d0,.int .i64 d1,.int .i64 d2,.int .i64 d3,.int .i64 d4,.sl d5 f5,.sl d6 f6])] (S++[bS])=.ret (j_ ρ.fs.length,S5) ∧
   (lim K).call 29 [.ptr jm 78 0,j_ ρ.fs.length] S5=.ret (.iv (.agg (oD ρ.nv ρ.fs.length)),S6)∧S6[S.length]? = some bS∧S6.set S.length (bM ρ.nv ρ.fs.length)=S7∧S7[S.length]? = some (bM ρ.nv ρ.fs.length) ∧
   MkC S7 jm jf (ρ.push [.sl tg ps,.bool r,.bool c,.sl .nil [],.int .i64 d0,.int .i64 d1,.int .i64 d2,.int .i64 d3,.int .i64 d4,.sl d5 f5,.sl d6 f6]).var∧aJ [jm,jf] S S7:=by
 have j1:jm<S.length∧jf<S.length:=⟨aO hM.own,aO hM.row⟩
 have hM1:=hM.keep (I:=[]) (aJ.app [] S [bS]) (by simp) (by simp)
 obtain⟨S5,c30,hM5,k5⟩:=aF1 hM1 hn tg ps r c d0 d1 d2 d3 d4 d5 f5 d6 f6
 have c29:=aA8 hM5 (ρ.fs.length)
 rw[show(ρ.push [.sl tg ps,.bool r,.bool c,.sl .nil [],.int .i64 d0,.int .i64 d1,.int .i64 d2,.int .i64 d3,.int .i64 d4,.sl d5 f5,.sl d6 f6]).nv=ρ.nv from rfl]at c29
 have hM6:=hM5.var (by show ρ.nv<_;omega)
 have k6:=((aJ.app [jm,jf] S [bS]).trans k5).trans (aJ.set S5 (by simp:jm∈[jm,jf]) (mkC jf (ρ.push [.sl tg ps,.bool r,.bool c,.sl .nil [],.int .i64 d0,.int .i64 d1,.int .i64 d2,.int .i64 d3,.int .i64 d4,.sl d5 f5,.sl d6 f6]).var))
 have z6:=(k5.trans (aJ.set S5 (by simp:jm∈[jm,jf]) (mkC jf (ρ.push [.sl tg ps,.bool r,.bool c,.sl .nil [],.int .i64 d0,.int .i64 d1,.int .i64 d2,.int .i64 d3,.int .i64 d4,.sl d5 f5,.sl d6 f6]).var))).get S.length bS (by simp;omega) (by simp)
 refine⟨S5,_,_,c30,c29,z6,rfl,bQ (aO z6) _,⟨by rw[aU (by omega)];exact hM6.own,by rw[aU (by omega)];exact hM6.row,hM6.ne,hM6.wid,hM6.ok⟩,?_⟩
 refine⟨by rw[List.length_set];exact k6.len,fun i b hi hb=>?_⟩
 rw[aU (by have:=aO hb;omega)]
 exact k6.get _ _ hi hb
theorem bGr {n0:Nat}{S0 S T:aA}{jm jf js:Nat}{σ:Mk}{l:List St}{s:St}(hM:MkC T jm jf σ)(hj:jm<n0∧jf<n0)(g:Gl n0 S 14 79 (cJ l) js)(hk:aJ [jm,jf] S T)(h0:n0=S0.length)(hk0:aJ [jm,jf] S0 S)(hs:∀s∈l,SO s)(hss:SO s)(hsl:l.length<=1000000):
  ∃(js':Nat) (T':aA),bY false 14 176 79 T (acc js (cJ l)) (.iv (.sl .full [rM s]))=some (acc js' (cJ (l++[s])),T')∧MkC T' jm jf σ∧aJ [jm,jf] S0 T'∧∀z B,S.length<=z->T[z]? = some B->T'[z]? = some B:=by
 have g4:=g.keep hk (fun i hi=>by simp at hi;rcases hi with rfl|rfl<;>omega)
 obtain⟨js',T',a1,gr⟩:=g4.more (b:=176) (hP.sl _ .full [rM s]) (nR (l:=[s]) (fun x hx=>by rw[List.mem_singleton]at hx;subst hx;exact hss)) (nR hs) (cI (by rw[nK];simp;omega)) (by rw[h0];exact Nat.le_trans hk0.len hk.len)
 refine⟨js',T',by rw[a1,xO];rfl,gr.mkc g4 hM hj,gr.keep g4 (hk0.trans hk) (by omega),fun z B hz hB=>gr.old z B hB fun hl=>by have:=aO (g.tok hl);omega⟩
theorem aRj {b0:Int}{n:Nat}(hb0:0<=b0∧b0<=1152921504606846976)(hC:∀m,m<=n->mT b0 m)(hVs:kE b0 n){e:Ex}{k0 k1:Int}{σ ρ:Mk}{y:List St×M_×Mk}{x:List IV×Mk}{S:aA}{jm jf:Nat}{a b:List IV}{rr:M_}(hk:e.k=11)(hn:e.n=1)(hy:bP n e.ks σ=some y)(ha:y.2.1=a::b::rr)(hx:bN n y.1.reverse (eD [a,[.int .i64 k0,.int .i64 k1],b]) y.2.2=some x)(ho:XO e)(hb:b0<=σ.nv)(hB:Bd b0 x.2)(hR:RM σ ρ)(hM:MkC S jm jf ρ):
  ∃t ρ' S',(lim K).call 31 [.ptr jm 78 0,.iv (.agg (cD e)),.iv (.agg [.int .i64 k0,.int .i64 k1])] S=.ret (.iv (.agg t),S')∧RT x.1 t∧RM x.2 ρ'∧MkC S' jm jf ρ'∧aJ [jm,jf] S S':=by
 have hlE:=aG e.ks
 have hwe:=Ex.w_eq e
 have hw2:=ho.2
 have hkl:=Ex.ws_len e.ks
 have l1:=(mono n).values hy
 have l2:=(mono n).laid hx
 obtain⟨s1,s2,s3,s4⟩:=(cW n).values hy (fun x hx=>ho.kid hx)
 obtain⟨js,ja,l,ρ1,S1,c55,hrs,g1,g2,hd,hR1,hM1,k1'⟩:=hVs (g:=e.g) hy (fun x hx=>ho.kid hx) (by omega) hb (hB.le l2) hR hM
 rw[ha]at c55 s1 s4 g2
 obtain⟨p,q,rfl⟩:=s1 a (by simp)
 obtain⟨p2,q2,rfl⟩:=s1 b (by simp)
 have hix:indexAddrS 2 (.tsl ja ([.int .i64 p,.int .i64 q]::[.int .i64 p2,.int .i64 q2]::rr)) 0=some (.iv (.cp [.int .i64 p,.int .i64 q])):=kP (by decide) rfl rfl
 have hix2:indexAddrS 2 (.tsl ja ([.int .i64 p,.int .i64 q]::[.int .i64 p2,.int .i64 q2]::rr)) 1=some (.iv (.cp [.int .i64 p2,.int .i64 q2])):=kP (by decide) rfl rfl
 rw[dE ja (by simp)]at c55
 obtain⟨t2,ρ2,S2,c33,hT,hR2,hM2,k2⟩:=kX hb0 hC y.1 l n _ _ y.2.2 ρ1 x S1 (acc js (cJ l)) (by omega) hx (SR.acc js _).sx hrs (RT.appl _) s2 (Int.le_trans hb l1.nv) hB hR1 hM1
 obtain⟨d0,d1,d2,d3,d4,d5,d6,f5,f6,rfl⟩:=hT.o
 refine⟨_,ρ2,S2,aB K _ (fn:=t31) rfl rfl ?_,hT,hR2,hM2,k1'.trans k2⟩
 unfold eD at c33
 rw[aL]at *
 clear hT hR2 hM2 k1' k2 hR1 hM1 hrs g1 g2 hd
 simp (disch:=omega) only[t31,go_sem,hlE,hk,hn,c55,hix,hix2,c33]
theorem aRk {b0:Int}{n:Nat}(hb0:0<=b0∧b0<=1152921504606846976)(hC:∀m,m<=n->mT b0 m)(hVs:kE b0 n){e:Ex}{k0 k1:Int}{σ ρ:Mk}{y:List St×M_×Mk}{x:List IV×Mk}{S:aA}{jm jf:Nat}{a:List IV}{rr:M_}(hk:e.k=11)(hn:e.n=0)(hy:bP n e.ks σ=some y)(ha:y.2.1=a::rr)(hx:bN n (y.1++[St.tm (bX (y.2.2.nv+2) y.2.2.fs.length (.sl .nil [])) (y.2.2.nv+2)]).reverse (cU .full [a,[.int .i64 k0,.int .i64 k1],aV (y.2.2.nv+2)]) (y.2.2.var.var.push (fnF .full [y.2.2.nv,y.2.2.nv+1] true false (eD [[.int .i64 k0,.int .i64 k1],aV (y.2.2.nv+1)]))).var=some x)(ho:XO e)(hb:b0<=σ.nv)(hB:Bd b0 x.2)(hR:RM σ ρ)(hM:MkC S jm jf ρ):
  ∃t ρ' S',(lim K).call 31 [.ptr jm 78 0,.iv (.agg (cD e)),.iv (.agg [.int .i64 k0,.int .i64 k1])] S=.ret (.iv (.agg t),S')∧RT x.1 t∧RM x.2 ρ'∧MkC S' jm jf ρ'∧aJ [jm,jf] S S':=by
 have hlE:=aG e.ks
 have hwe:=Ex.w_eq e
 have hw2:=ho.2
 have hkl:=Ex.ws_len e.ks
 have l1:=(mono n).values hy
 have l2:=(mono n).laid hx
 have l0:Le y.2.2 (y.2.2.var.var.push (fnF .full [y.2.2.nv,y.2.2.nv+1] true false (eD [[.int .i64 k0,.int .i64 k1],aV (y.2.2.nv+1)]))).var:=(((Le.var _).trans (Le.var _)).trans (Le.push _ _)).trans (Le.var _)
 have hBy:=hB.le (l0.trans l2)
 have hj:jm<S.length∧jf<S.length:=⟨aO hM.own,aO hM.row⟩
 obtain⟨s1,s2,s3,s4⟩:=(cW n).values hy (fun x hx=>ho.kid hx)
 obtain⟨js,ja,l,ρ1,S1,c55,hrs,g1,g2,hd,hR1,hM1,k1'⟩:=hVs (g:=e.g) hy (fun x hx=>ho.kid hx) (by omega) hb hBy hR hM
 rw[ha]at c55 s1 s4 g2
 obtain⟨p,q,rfl⟩:=s1 a (by simp)
 have hix:indexAddrS 2 (.tsl ja ([.int .i64 p,.int .i64 q]::rr)) 0=some (.iv (.cp [.int .i64 p,.int .i64 q])):=kP (by decide) rfl rfl
 rw[dE ja (by simp)]at c55
 have hvn:=hR1.nv
 have hvx:y.2.2.nv+3<=b0+1000000:=by have h1:=l2.nv;have h2:=hB.hi;have h3:(y.2.2.var.var.push (fnF .full [y.2.2.nv,y.2.2.nv+1] true false (eD [[.int .i64 k0,.int .i64 k1],aV (y.2.2.nv+1)]))).var.nv=y.2.2.nv+1+1+1:=rfl;omega
 have hfx:y.2.2.fs.length+1<=1000000:=by have h1:=l2.len;have h2:=hB.fs;simp only[Mk.var,Mk.push,List.length_append,List.length_singleton]at h1;omega
 have hfl:=hR1.len
 have c28:=rL hM1
 have hM2:=hM1.var (by omega)
 have c28b:=rL hM2
 have hM3:=hM2.var (by show ρ1.nv+1<_;omega)
 have k3:aJ [jm,jf] S1 ((S1.set jm (mkC jf ρ1.var)).set jm (mkC jf ρ1.var.var)):=(aJ.set _ (by simp) _).trans (aJ.set _ (by simp) _)
 generalize hS2:S1.set jm (mkC jf ρ1.var)=S2 at *
 generalize hS3:S2.set jm (mkC jf ρ1.var.var)=S3 at *
 have hl3:S3.length=S1.length:=by rw[<-hS3,List.length_set,<-hS2,List.length_set]
 obtain⟨S5,S6,S7,c30,c29,z6,e7,z7,hM7,k7⟩:=aEt hM3 (by show ρ1.fs.length<_;omega) (by show ρ1.nv+1+1<_;omega) .full [[.int .i64 ρ1.nv],[.int .i64 (ρ1.nv+1)]] true false 6 0 0 0 0 .full [[.int .i64 k0,.int .i64 k1],[.int .i64 1,.int .i64 (ρ1.nv+1)]] .nil []
 have e2:ρ1.nv+1+1=ρ1.nv+2:=by omega
 have c32:=mK (ρ1.nv+1)
 have c32b:=mK (ρ1.nv+2)
 rw[show ρ1.var.nv=ρ1.nv+1 from rfl]at c28b
 rw[show ρ1.var.var.nv=ρ1.nv+2 from e2,show ρ1.var.var.fs=ρ1.fs from rfl]at c29 e7 z7
 rw[show ρ1.var.var.fs=ρ1.fs from rfl]at c30
 obtain⟨js',T',ap,hM8,k8,hold⟩:=bGr (s:=.tm (bX (ρ1.nv+2) ρ1.fs.length (.sl .nil [])) (ρ1.nv+2)) hM7 hj g1 (k3.trans k7) rfl k1' (hrs.o s2) (TmO.fun ..) (by rw[<-hrs.len];have:=hBy.hi;omega)
 have z8:=hold S3.length _ (by omega) z7
 have hR8:=((hR1.var.var).push (RF.mk .full .full [y.2.2.nv,y.2.2.nv+1] true false (RT.appl [[.int .i64 k0,.int .i64 k1],aV (y.2.2.nv+1)]))).var
 have hfn:(y.2.2.fs.length:Int)=(ρ1.fs.length:Int)+1:=by omega
 have hrs8:RSs (y.1++[St.tm (bX (y.2.2.nv+2) y.2.2.fs.length (.sl .nil [])) (y.2.2.nv+2)]) (l++[.tm (bX (ρ1.nv+2) ρ1.fs.length (.sl .nil [])) (ρ1.nv+2)]):=hrs.app (by rw[hvn,hfn];exact .cons (RSt.fn _ _) .nil)
 have hso8:∀s∈y.1++[St.tm (bX (y.2.2.nv+2) y.2.2.fs.length (.sl .nil [])) (y.2.2.nv+2)],SO s:=fun s hs=>by
  rcases List.mem_append.1 hs with hs|hs
  ·exact s2 s hs
  ·rw[List.mem_singleton]at hs;subst hs;exact TmO.fun ..
 have hb8:b0<=(y.2.2.var.var.push (fnF .full [y.2.2.nv,y.2.2.nv+1] true false (eD [[.int .i64 k0,.int .i64 k1],aV (y.2.2.nv+1)]))).var.nv:=Int.le_trans (Int.le_trans hb l1.nv) l0.nv
 rw[hvn]at hR8
 rw[hvn]at hx hb8
 obtain⟨t2,ρ9,S9,c33,hT,hR9,hM9,k9⟩:=kX hb0 hC _ _ n _ _ _ _ x T' (acc js' (cJ (l++[.tm (bX (ρ1.nv+2) ρ1.fs.length (.sl .nil [])) (ρ1.nv+2)]))) (by omega) hx (SR.acc js' _).sx (by rw[hvn]at hrs8;exact hrs8) (RT.call .full .full _) (by rw[hvn]at hso8;exact hso8) hb8 hB hR8 hM8
 obtain⟨d0,d1,d2,d3,d4,d5,d6,f5,f6,rfl⟩:=hT.o
 refine⟨_,ρ9,S9,aB K _ (fn:=t31) rfl rfl ?_,hT,hR9,hM9,k8.trans k9⟩
 rw[show rM (.tm (bX (ρ1.nv+2) ρ1.fs.length (.sl .nil [])) (ρ1.nv+2))=oD (ρ1.nv+2) ρ1.fs.length from rfl]at ap
 generalize cJ (l++[.tm (bX (ρ1.nv+2) ρ1.fs.length (.sl .nil [])) (ρ1.nv+2)])=LL at *
 unfold cU aV at c33
 unfold bS at *
 unfold bM at *
 unfold oD at *
 rw[aL]at *
 clear hT hR9 hM9 k8 k9 hR1 hM1 hrs g1 g2 hd hM8 hM7 hM3 hM2 hR8 hrs8 hso8 k7 k3 k1' hold hx
 simp (disch:=omega) only[t31,go_sem,hlE,hk,hn,c55,hix,c28,hS2,c28b,hS3,aF c32,c30,c29,z6,e7,z7,ap,z8,aF c32b,c33]
theorem aBl:∀(i m:Nat) (l:List Ex) (t:List IV) (σ:Mk) (x:List IV×Mk),cK m (i+1) l t σ=some x ->
  ∃(q:Nat) (y:List IV×Mk) (z:List St×M_×Mk),cK m i (l.drop 64) t σ=some y∧q<m∧bP q (l.take 64) (y.2.var.push (fnF .full [y.2.nv] true true y.1)).var=some z∧bN q (St.tm (bX (y.2.nv+1) y.2.fs.length (.sl .nil [])) (y.2.nv+1)::z.1).reverse (cU .full [aV (y.2.nv+1)]) z.2.2=some x
 | i,0,l,t,σ,x,h=>by rw[cK]at h;cases h
 | 0,m+1,l,t,σ,x,h=>by
  rw[cK]at h
  obtain⟨z,hz,h⟩:=b_ h
  obtain⟨w,hw,h⟩:=b_ h
  cases m with
  | zero=>rw[cK]at h;cases h
  | succ m =>
   rw[cK]at h
   cases h
   refine⟨m+1,(t,σ),z,by rw[cK],by omega,?_,hw⟩
   rw[show 64*0=0 from rfl,List.drop_zero]at hz
   exact hz
 | i+1,m+1,l,t,σ,x,h=>by
  rw[cK]at h
  obtain⟨z,hz,h⟩:=b_ h
  obtain⟨w,hw,h⟩:=b_ h
  obtain⟨q,y,z2,h1,h2,h3,h4⟩:=aBl i m l w.1 w.2 x h
  refine⟨q,y,z2,?_,by omega,h3,h4⟩
  rw[cK,List.drop_drop,show 64+64*i=64*(i+1) by omega,hz]
  show(bN m _ _ _).bind _=_
  rw[hw]
  exact h1
theorem aW6 {n:Nat}{l:List Ex}{k:List IV}{σ:Mk}{x:List IV×Mk}(hl:64<l.length)(h:jT (n+1) l k σ=some x):
  ∃(q:Nat) (y:List IV×Mk) (z:List St×M_×Mk),jT (n+1) (l.drop 64) k σ=some y∧q<n∧bP q (l.take 64) (y.2.var.push (fnF .full [y.2.nv] true true y.1)).var=some z∧bN q (St.tm (bX (y.2.nv+1) y.2.fs.length (.sl .nil [])) (y.2.nv+1)::z.1).reverse (cU .full [aV (y.2.nv+1)]) z.2.2=some x:=by
 rw[jT]at h
 cases hg:l.getLast? with
 | none=>rw[hg]at h;cases h
 | some e =>
  rw[hg]at h
  obtain⟨a,ha,h⟩:=b_ h
  obtain⟨b,hb,h⟩:=b_ h
  obtain⟨w,hw,h⟩:=b_ h
  obtain⟨i,hi⟩:∃i,(l.length-1) / 64=i+1:=⟨(l.length-1) / 64-1,by omega⟩
  rw[hi]at h ha
  obtain⟨q,y,z,h1,h2,h3,h4⟩:=aBl i n l _ _ x h
  refine⟨q,y,z,?_,h2,h3,h4⟩
  have e1:(l.drop 64).getLast? = some e:=by
   rw[List.getLast?_drop,if_neg (by omega),hg]
  have e2:((l.drop 64).length-1) / 64=i:=by rw[List.length_drop];omega
  have e3:((l.drop 64).take ((l.drop 64).length-1)).drop (64*i)=(l.take (l.length-1)).drop (64*(i+1)):=by
   rw[List.length_drop,show 64*(i+1)=64+64*i by omega,<-List.drop_drop]
   congr 1
   rw[List.drop_take]
   congr 1
  rw[jT,e1]
  show(bP n _ σ).bind _=_
  rw[e2,e3,ha]
  show(dR n e k a.2.2).bind _=_
  rw[hb]
  show(bN n _ _ _).bind _=_
  rw[hw]
  exact h1
theorem aW7 (l:List Ex):TM.iE 5 (bW l)=true:=by
 cases l with
 | nil=>rfl
 | cons a r=>rw[bW];simp[TM.iE,nM]
theorem aBm (l:List Ex)(n:Nat):(bW l).take n=bW (l.take n):=by rw[eF,eF,List.map_take]
theorem aMc (l:List Ex)(n:Nat):(bW l).drop n=bW (l.drop n):=by rw[eF,eF,List.map_drop]
theorem bIb {g:Tag}{l:List Ex}(h:dN g l):dN g (bW l):=fun e=>by rw[h e];rfl
theorem aW8 {b0:Int}{n:Nat}(hb0:0<=b0∧b0<=1152921504606846976)(hC:∀m,m<=n->mT b0 m)(hVs:∀m,m<=n->kE b0 m){e:Ex}{k0 k1:Int}{σ ρ:Mk}{x:List IV×Mk}{S:aA}{jm jf:Nat}(hk:e.k=10)(hlen:e.ks.length<=64)(hx:jT n e.ks [.int .i64 k0,.int .i64 k1] σ=some x)(ho:XO e)(hb:b0<=σ.nv)(hB:Bd b0 x.2)(hR:RM σ ρ)(hM:MkC S jm jf ρ):
  ∃t ρ' S',(lim K).call 31 [.ptr jm 78 0,.iv (.agg (cD e)),.iv (.agg [.int .i64 k0,.int .i64 k1])] S=.ret (.iv (.agg t),S')∧RT x.1 t∧RM x.2 ρ'∧MkC S' jm jf ρ'∧aJ [jm,jf] S S':=by
 cases n with
 | zero=>rw[jT]at hx;cases hx
 | succ n =>
  rw[jT]at hx
  cases hg:e.ks.getLast? with
  | none=>rw[hg]at hx;cases hx
  | some z =>
   rw[hg]at hx
   obtain⟨y,hy,hx⟩:=b_ hx
   obtain⟨u,hu,hx⟩:=b_ hx
   obtain⟨w,hw,hx⟩:=b_ hx
   rw[show(e.ks.length-1) / 64=0 by omega]at hx hy
   rw[show 64*0=0 from rfl,List.drop_zero]at hy
   cases n with
   | zero=>rw[cK]at hx;cases hx
   | succ n =>
    rw[cK]at hx
    cases hx
    have hne:e.ks≠[]:=fun h=>by rw[h]at hg;cases hg
    have hl0:0<e.ks.length:=List.length_pos_iff.2 hne
    have hzm:=List.mem_of_getLast? hg
    have hlE:=aG e.ks
    have hot:=((Ex.ok_eq e).1 ho.1).2.2.2.2.1
    have l1:=(mono _).values hy
    have l2:=(mono _).code hu
    have l3:=(mono _).laid hw
    have hB2:=hB.le l3
    have hXt:∀a∈e.ks.take (e.ks.length-1),XO a:=fun a ha=>ho.kid (List.mem_of_mem_take ha)
    obtain⟨s1,s2,s3,s4⟩:=(cW _).values hy hXt
    obtain⟨js,ja,l,ρ1,S1,c55,hrs,g1,g2,hd,hR1,hM1,k1'⟩:=hVs (n+1) (by omega) (g:=lL e.g (bW e.ks).length (((e.ks.length:Int)-1).toNat)) hy hXt (by rw[List.length_take];omega) hb (hB2.le l2) hR hM
    obtain⟨d0,d1,d2,d3,d4,d5,d6,f5,f6,ρ2,S2,S3,c31,z2,e3,z3,hM3,k3,hT2,hR2⟩:=tL (hC (n+1) (by omega)) hu (ho.kid hzm) (Int.le_trans hb l1.nv) hB2 hR1 hM1
    obtain⟨t2,ρ6,S6,c33,hT,hR6,hM6,k6⟩:=kX hb0 hC y.1 l (n+1) _ _ u.2 ρ2 w S3 (acc js (cJ l)) (by omega) hw (SR.acc js _).sx hrs hT2 s2 (Int.le_trans (Int.le_trans hb l1.nv) l2.nv) hB hR2 hM3
    obtain⟨m0,m1,m2,m3,m4,m5,m6,q5,q6,rfl⟩:=hT.o
    have hsl:=fun S=>aLg S (w:=5) (t:=e.g) (l:=bW e.ks) (b:=(e.ks.length:Int)-1) (bIb hot) (aW7 _) (by rw[hlE];omega)
    rw[aBm,show((e.ks.length:Int)-1).toNat=e.ks.length-1 by omega]at hsl
    rw[show((e.ks.length:Int)-1).toNat=e.ks.length-1 by omega,hlE]at c55
    rw[hlE]at hsl
    have hix:=ixE (g:=e.g) (ks:=e.ks) (i:=(e.ks.length:Int)-1) (by omega)
    rw[show((e.ks.length:Int)-1).toNat=e.ks.length-1 by omega,show e.ks.getD (e.ks.length-1) default=z by
     rw[List.getLast?_eq_getElem?]at hg
     simp[List.getD,hg]]at hix
    have hget:=mP (d:=z)
    refine⟨_,ρ6,S6,aB K _ (fn:=t31) rfl rfl ?_,hT,hR6,hM6,(k1'.trans k3).trans k6⟩
    unfold bT at *
    generalize bW (e.ks.take (e.ks.length-1))=EE at *
    rw[aL z]at *
    rw[aL]
    clear hT hR6 hM6 k1' k3 k6 hR1 hM1 hrs hM3 hT2 hR2 g1 g2 hd
    simp (disch:=omega) only[t31,go_sem,hlE,hk,hsl,c55,hix,hget,c31,z2,e3,z3,c33,aH]
theorem aRl {b0:Int}{n:Nat}(hb0:0<=b0∧b0<=1152921504606846976)(hC:∀m,m<=n->mT b0 m)(hVs:kE b0 n){e:Ex}{k0 k1:Int}{σ ρ:Mk}{y:List St×M_×Mk}{x:List IV×Mk}{S:aA}{jm jf:Nat}{a b:List IV}{rr:M_}(hk:e.k=11)(hn:e.n≠0∧e.n≠1)(hy:bP n e.ks σ=some y)(ha:y.2.1=a::b::rr)(hx:bN n (y.1++[St.tm (bX (y.2.2.nv+1) y.2.2.fs.length (.sl .nil [])) (y.2.2.nv+1)]).reverse (cU .full [a,aV (y.2.2.nv+1)]) (y.2.2.var.push (fnF .full [y.2.2.nv] true true (eD [b,[.int .i64 k0,.int .i64 k1],aV y.2.2.nv]))).var=some x)(ho:XO e)(hb:b0<=σ.nv)(hB:Bd b0 x.2)(hR:RM σ ρ)(hM:MkC S jm jf ρ):
  ∃t ρ' S',(lim K).call 31 [.ptr jm 78 0,.iv (.agg (cD e)),.iv (.agg [.int .i64 k0,.int .i64 k1])] S=.ret (.iv (.agg t),S')∧RT x.1 t∧RM x.2 ρ'∧MkC S' jm jf ρ'∧aJ [jm,jf] S S':=by
 have hlE:=aG e.ks
 have hwe:=Ex.w_eq e
 have hw2:=ho.2
 have hkl:=Ex.ws_len e.ks
 have l1:=(mono n).values hy
 have l2:=(mono n).laid hx
 have l0:Le y.2.2 (y.2.2.var.push (fnF .full [y.2.2.nv] true true (eD [b,[.int .i64 k0,.int .i64 k1],aV y.2.2.nv]))).var:=((Le.var _).trans (Le.push _ _)).trans (Le.var _)
 have hBy:=hB.le (l0.trans l2)
 have hj:jm<S.length∧jf<S.length:=⟨aO hM.own,aO hM.row⟩
 obtain⟨s1,s2,s3,s4⟩:=(cW n).values hy (fun x hx=>ho.kid hx)
 obtain⟨js,ja,l,ρ1,S1,c55,hrs,g1,g2,hd,hR1,hM1,k1'⟩:=hVs (g:=e.g) hy (fun x hx=>ho.kid hx) (by omega) hb hBy hR hM
 rw[ha]at c55 s1 s4 g2
 obtain⟨p,q,rfl⟩:=s1 a (by simp)
 obtain⟨p2,q2,rfl⟩:=s1 b (by simp)
 have hix:indexAddrS 2 (.tsl ja ([.int .i64 p,.int .i64 q]::[.int .i64 p2,.int .i64 q2]::rr)) 0=some (.iv (.cp [.int .i64 p,.int .i64 q])):=kP (by decide) rfl rfl
 have hix2:indexAddrS 2 (.tsl ja ([.int .i64 p,.int .i64 q]::[.int .i64 p2,.int .i64 q2]::rr)) 1=some (.iv (.cp [.int .i64 p2,.int .i64 q2])):=kP (by decide) rfl rfl
 rw[dE ja (by simp)]at c55
 have hvn:=hR1.nv
 have hvx:y.2.2.nv+2<=b0+1000000:=by have h1:=l2.nv;have h2:=hB.hi;have h3:(y.2.2.var.push (fnF .full [y.2.2.nv] true true (eD [[.int .i64 p2,.int .i64 q2],[.int .i64 k0,.int .i64 k1],aV y.2.2.nv]))).var.nv=y.2.2.nv+1+1:=rfl;omega
 have hfx:y.2.2.fs.length+1<=1000000:=by have h1:=l2.len;have h2:=hB.fs;simp only[Mk.var,Mk.push,List.length_append,List.length_singleton]at h1;omega
 have hfl:=hR1.len
 have c28:=rL hM1
 have hM2:=hM1.var (by omega)
 have k3:aJ [jm,jf] S1 (S1.set jm (mkC jf ρ1.var)):=aJ.set _ (by simp) _
 generalize hS2:S1.set jm (mkC jf ρ1.var)=S2 at *
 have hl3:S2.length=S1.length:=by rw[<-hS2,List.length_set]
 obtain⟨S5,S6,S7,c30,c29,z6,e7,z7,hM7,k7⟩:=aEt hM2 (by show ρ1.fs.length<_;omega) (by show ρ1.nv+1<_;omega) .full [[.int .i64 ρ1.nv]] true true 6 0 0 0 0 .full [[.int .i64 p2,.int .i64 q2],[.int .i64 k0,.int .i64 k1],[.int .i64 1,.int .i64 ρ1.nv]] .nil []
 have c32:=mK ρ1.nv
 have c32b:=mK (ρ1.nv+1)
 rw[show ρ1.var.nv=ρ1.nv+1 from rfl,show ρ1.var.fs=ρ1.fs from rfl]at c29 e7 z7
 rw[show ρ1.var.fs=ρ1.fs from rfl]at c30
 obtain⟨js',T',ap,hM8,k8,hold⟩:=bGr (s:=.tm (bX (ρ1.nv+1) ρ1.fs.length (.sl .nil [])) (ρ1.nv+1)) hM7 hj g1 (k3.trans k7) rfl k1' (hrs.o s2) (TmO.fun ..) (by rw[<-hrs.len];have:=hBy.hi;omega)
 have z8:=hold S2.length _ (by omega) z7
 have hR8:=((hR1.var).push (RF.mk .full .full [y.2.2.nv] true true (RT.appl [[.int .i64 p2,.int .i64 q2],[.int .i64 k0,.int .i64 k1],aV y.2.2.nv]))).var
 have hfn:(y.2.2.fs.length:Int)=(ρ1.fs.length:Int)+1:=by omega
 have hrs8:RSs (y.1++[St.tm (bX (y.2.2.nv+1) y.2.2.fs.length (.sl .nil [])) (y.2.2.nv+1)]) (l++[.tm (bX (ρ1.nv+1) ρ1.fs.length (.sl .nil [])) (ρ1.nv+1)]):=hrs.app (by rw[hvn,hfn];exact .cons (RSt.fn _ _) .nil)
 have hso8:∀s∈y.1++[St.tm (bX (y.2.2.nv+1) y.2.2.fs.length (.sl .nil [])) (y.2.2.nv+1)],SO s:=fun s hs=>by
  rcases List.mem_append.1 hs with hs|hs
  ·exact s2 s hs
  ·rw[List.mem_singleton]at hs;subst hs;exact TmO.fun ..
 have hb8:b0<=(y.2.2.var.push (fnF .full [y.2.2.nv] true true (eD [[.int .i64 p2,.int .i64 q2],[.int .i64 k0,.int .i64 k1],aV y.2.2.nv]))).var.nv:=Int.le_trans (Int.le_trans hb l1.nv) l0.nv
 rw[hvn]at hR8
 rw[hvn]at hx hb8
 obtain⟨t2,ρ9,S9,c33,hT,hR9,hM9,k9⟩:=kX hb0 hC _ _ n _ _ _ _ x T' (acc js' (cJ (l++[.tm (bX (ρ1.nv+1) ρ1.fs.length (.sl .nil [])) (ρ1.nv+1)]))) (by omega) hx (SR.acc js' _).sx (by rw[hvn]at hrs8;exact hrs8) (RT.call .full .full _) (by rw[hvn]at hso8;exact hso8) hb8 hB hR8 hM8
 obtain⟨d0,d1,d2,d3,d4,d5,d6,f5,f6,rfl⟩:=hT.o
 refine⟨_,ρ9,S9,aB K _ (fn:=t31) rfl rfl ?_,hT,hR9,hM9,k8.trans k9⟩
 rw[show rM (.tm (bX (ρ1.nv+1) ρ1.fs.length (.sl .nil [])) (ρ1.nv+1))=oD (ρ1.nv+1) ρ1.fs.length from rfl]at ap
 generalize cJ (l++[.tm (bX (ρ1.nv+1) ρ1.fs.length (.sl .nil [])) (ρ1.nv+1)])=LL at *
 unfold cU aV at c33
 unfold bS at *
 unfold bM at *
 unfold oD at *
 rw[aL]at *
 clear hT hR9 hM9 k8 k9 hR1 hM1 hrs g1 g2 hd hM8 hM7 hM2 hR8 hrs8 hso8 k7 k3 k1' hold hx
 simp (disch:=omega) only[t31,go_sem,hlE,hk,hn,c55,hix,hix2,c28,hS2,aF c32,c30,c29,z6,e7,z7,ap,z8,aF c32b,c33]
end Go.Proofs.YtageemgcnoblnaaDoor
