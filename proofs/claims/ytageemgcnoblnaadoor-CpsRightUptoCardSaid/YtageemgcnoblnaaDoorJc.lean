/- Some texts of the proof, joined. Condition: none. -/
import Derived.Test.YtageemgcnoblnaaDoorJb
set_option maxRecDepth 100000
set_option maxHeartbeats 64000000
set_option linter.unusedSimpArgs false
set_option linter.unusedVariables false
namespace Go.Proofs.YtageemgcnoblnaaDoor
open Go Go.TM
def bG7 (e:Ex):Prop:=∀(left:Int) (S:aA),1≤left→left≤2000→∃r:Int,(lim K).call 18 [agX e,.iv (.int .i64 left)] S=.ret (.iv (.int .i64 r),S)∧0≤r∧r<left∧(0<r→sz e+r≤left∧(bvE e).length≤100*sz e)
theorem aM7 (e:Ex)(hw:e.w≤1048576)(ih:∀x∈e.ks,bG7 x)(x0 x3 x5:TV)(S:aA):∀(k i:Nat) (left:Int) (x6:TV),i+k=e.ks.length→0≤left→left≤2000 →
  ∃(r:Int) (y4 y6:TV),lp' (lim K) t18L0 [x0,.iv (.int .i64 left),lbX e,x3,.iv (.int .i64 i),x5,x6] S=.ret (.exit 0,[x0,.iv (.int .i64 r),lbX e,x3,y4,x5,y6],S)∧0≤r∧r≤left∧(0<r→szs (e.ks.drop i)+r≤left∧(pS (e.ks.drop i)).length≤100*szs (e.ks.drop i))
 | 0,i,left,x6,h,h0,h1=>by
  obtain rfl:i=e.ks.length:=by omega
  have hle:=aL e.ks
  refine⟨left,.iv (.int .i64 e.ks.length),.iv (.bool false),aN K _ _ t18L0.eq_1 ?_,h0,Int.le_refl _,fun _=>by rw[List.drop_length,szs,pS]; exact⟨by omega,by simp⟩⟩
  simp (config := { maxSteps := 4000000 }) (disch:=omega) only[go_sem,hle]
 | k+1,i,left,x6,h,h0,h1=>by
  have hla:i<e.ks.length:=by omega
  have hle:=aL e.ks
  have hwe:=Ex.w_eq e
  have hkl:=Ex.ws_len e.ks
  have hdr:=List.drop_eq_getElem_cons hla
  by_cases hp:left=0
  ·subst hp
   refine⟨0,.iv (.int .i64 i),.iv (.bool false),aN K _ _ t18L0.eq_1 ?_,Int.le_refl _,Int.le_refl _,fun h=>absurd h (by decide)⟩
   simp (config := { maxSteps := 4000000 }) (disch:=omega) only[go_sem,hle]
  ·have hix:=bIn (g:=e.g) hla
   obtain⟨r1,c18,g0,g1,g2⟩:=ih e.ks[i] (List.getElem_mem _) left S (by omega) h1
   obtain⟨r,y4,y6,hlp,q0,q1,q2⟩:=aM7 e hw ih x0 x3 x5 S k (i+1) r1 (.iv (.bool true)) (by omega) g0 (by omega)
   refine⟨r,y4,y6,aN K _ _ t18L0.eq_1 ?_,q0,by omega,fun hr=>?_⟩
   ·rw[show ((i+1:Nat):Int)=(i:Int)+1 by omega]at hlp
    generalize e.ks[i]=y at *
    simp (config := { maxSteps := 4000000 }) (disch:=omega) only[go_sem,hle,hix,yN,c18,aF]
    exact congrArg er hlp
   ·have h5:=q2 hr
    have h6:=g2 (by omega)
    rw[hdr,szs,pS,List.length_append]; omega
theorem aM8:∀(n:Nat) (e:Ex),e.w≤n→n≤1048576→bG7 e
 | 0,e,hw,_=>by have:=Ex.w_eq e; omega
 | n+1,e,hw,hn=>by
  intro left S h1 h2
  have hse:=aCm e
  have hvw:e.vs.length≤1048576:=by have:=Ex.w_eq e; omega
  have hl1:(TM.one (.int .i64) e.vs).length=e.vs.length:=by unfold TM.one; simp
  by_cases hv:100<e.vs.length
  ·refine⟨0,aB K _ (fn:=t18) rfl rfl ?_,Int.le_refl _,by omega,fun h=>absurd h (by decide)⟩
   simp (config := { maxSteps := 4000000 }) (disch:=omega) only[t18,go_sem,hl1,aF]
  ·obtain⟨r,y4,y6,hlp,q0,q1,q2⟩:=aM7 e (by omega) (fun x hx=>aM8 n x (by have:=Ex.kid_lt hx; omega) (by omega)) (agX e) (.iv (.int .i64 0)) (.iv (.bool false)) S e.ks.length 0 (left-1) u_ (by omega) (by omega) (by omega)
   refine⟨r,aB K _ (fn:=t18) rfl rfl ?_,q0,by omega,fun hr=>by have:=q2 hr; rw[List.drop_zero]at this; rw[aM2,List.length_append]; omega⟩
   simp (config := { maxSteps := 4000000 }) (disch:=omega) only[t18,go_sem,hl1,aF]
   rw[show ((0:Nat):Int)=0 from rfl]at hlp
   rw[hlp]
   simp (config := { maxSteps := 4000000 }) (disch:=omega) only[go_sem]
theorem bEn (p:Pg)(hp:p.b.w≤1048576∧Dt.ws p.cs≤1048576)(S:aA):∃b:Bool,(lim K).call 7 [.iv (.agg (mZ p))] S=.ret (.iv (.bool b),S)∧(b=true→sz p.b≤2000∧p.cs.length≤2000∧p.vr≤1099511627776∧(bvE p.b).length≤200000):=by
 obtain⟨r,c18,h0,h1,h2⟩:=aM8 p.b.w p.b (Nat.le_refl _) hp.1 2000 S (by decide) (by decide)
 have hwl:=Dt.ws_len p.cs
 have hdl:(eW p.cs).length=p.cs.length:=dF p.cs
 refine⟨decide (0<r)&&decide (p.cs.length≤2000)&&decide (p.vr≤1099511627776),aB K _ (fn:=t7) rfl rfl ?_,fun h=>?_⟩
 ·unfold mZ
  by_cases g1:0<r
  ·by_cases g2:p.cs.length≤2000
   ·simp (config := { maxSteps := 4000000 }) (disch:=omega) only[t7,go_sem,c18,hdl,g1,g2]
   ·simp (config := { maxSteps := 4000000 }) (disch:=omega) only[t7,go_sem,c18,hdl,g1,g2]
  ·simp (config := { maxSteps := 4000000 }) (disch:=omega) only[t7,go_sem,c18,hdl,g1]
 ·simp only[Bool.and_eq_true,decide_eq_true_eq]at h
  have:=h2 h.1.1
  exact⟨by omega,h.1.2,h.2,by omega⟩
def sL:List (List IV)→List Int
 | [.int _ n]::r=>n::sL r
 | _=>[]
theorem oN:∀l:List Int,sL (TM.one (.int .i64) l)=l
 | []=>rfl
 | a::r=>by
  show a::sL (TM.one (.int .i64) r)=_
  rw[oN r]
def bEo (vr:Int):List IV→List (List Int×Bool)
 | .sl _ ps::.bool r::.bool c::_=>if c then [] else if (sL ps).drop 1 |>.any fun v=>decide (vr≤v) then [] else [((sL ps).drop 1,r)]
 | _=>[]
section
variable (vr:Int)(κ:List Int×Bool)
def cF (f:List IV):Nat:=(bEo vr f).count κ
def cFs:List (List IV)→Nat
 | []=>0
 | f::r=>cF vr κ f+cFs r
theorem aDz:∀(a b:List (List IV)),cFs vr κ (a++b)=cFs vr κ a+cFs vr κ b
 | [],b=>by rw[List.nil_append,cFs,Nat.zero_add]
 | x::a,b=>by rw[List.cons_append,cFs,cFs,aDz a b]; omega
theorem pU (σ:Mk)(f:List IV):cFs vr κ (σ.push f).fs=cFs vr κ σ.fs+cF vr κ f:=by
 show cFs vr κ (σ.fs++[f])=_
 rw[aDz,cFs,cFs]; omega
theorem lL (σ:Mk):cFs vr κ σ.var.fs=cFs vr κ σ.fs:=rfl
theorem aD0 (tg:Tag)(ps:List Int)(r:Bool)(b:List IV):cF vr κ (fnF tg ps r true b)=0:=rfl
theorem bEp (tg:Tag)(k:Int)(vs:List Int)(r:Bool)(b:List IV)(h:∀v∈vs,v<vr):cF vr κ (fnF tg (k::vs) r false b)=if (vs,r)=κ then 1 else 0:=by
 unfold cF fnF bEo
 have h1:((sL (TM.one (.int .i64) (k::vs))).drop 1).any (fun v=>decide (vr≤v))=false:=by
  rw[oN,List.drop_succ_cons,List.drop_zero,List.any_eq_false]
  intro v hv; have:=h v hv; simp; omega
 simp only[Bool.false_eq_true,if_false,h1]
 rw[oN,List.drop_succ_cons,List.drop_zero,List.count_singleton]
 by_cases hk:(vs,r)=κ
 ·simp[hk]
 ·simp[hk]
theorem bG8 (tg:Tag)(a b:Int)(r:Bool)(t:List IV)(h:vr≤b):cF vr κ (fnF tg [a,b] r false t)=0:=by
 unfold cF fnF bEo
 have h1:((sL (TM.one (.int .i64) [a,b])).drop 1).any (fun v=>decide (vr≤v))=true:=by
  rw[oN]; simp; omega
 simp only[Bool.false_eq_true,if_false,h1,if_true]
 rfl
mutual
def cE:Ex→Nat
 | .mk k n gv vs r g ks=>(if k=7∧(vs,r)=κ then 1 else 0)+cEs ks
def cEs:List Ex→Nat
 | []=>0
 | e::es=>cE e+cEs es
end
theorem wO (e:Ex):cE κ e=(if e.k=7∧(e.vs,e.r)=κ then 1 else 0)+cEs κ e.ks:=by cases e; rw[cE]; rfl
theorem yQ:∀(a b:List Ex),cEs κ (a++b)=cEs κ a+cEs κ b
 | [],b=>by rw[List.nil_append,cEs,Nat.zero_add]
 | x::a,b=>by rw[List.cons_append,cEs,cEs,yQ a b]; omega
def cS:St→Nat
 | .tm _ _=>0
 | .rs e _=>cE κ e
def cSs:List St→Nat
 | []=>0
 | s::r=>cS κ s+cSs r
theorem rF:∀(a b:List St),cSs κ (a++b)=cSs κ a+cSs κ b
 | [],b=>by rw[List.nil_append,cSs,Nat.zero_add]
 | x::a,b=>by rw[List.cons_append,cSs,cSs,rF a b]; omega
theorem mS (l:List St):cSs κ l.reverse=cSs κ l:=by
 induction l with
 | nil=>rfl
 | cons a r ih=>rw[List.reverse_cons,rF,ih,cSs,cSs,cSs]; omega
end
structure FMn (p:Pg) (e:Ex):Prop where
 k1:e.k=1∨e.k=2→e.ks=[]
 k7:e.k=7→∀v∈e.vs,v<p.vr
theorem frM {p:Pg}{e:Ex}(h:Fr p e):FMn p e:=by
 have h1:=((pT p e).1 h).1
 unfold pK at h1
 simp only[Bool.and_eq_true,Bool.not_eq_true']at h1
 have h2:=h1.1
 unfold aJa at h2
 simp only[Bool.or_eq_false_iff,Bool.and_eq_false_iff,decide_eq_false_iff_not,Bool.not_eq_false']at h2
 obtain⟨⟨⟨⟨⟨a1,a2⟩,a3⟩,a4⟩,a5⟩,a6⟩:=h2
 unfold ofF at *
 refine⟨fun hk=>?_,fun hk v hv=>?_⟩
 ·rcases hk with hk|hk<;>simp[hk]at a3<;>first|exact a3|exact List.eq_nil_of_length_eq_zero (by omega)
 ·have h3:=h1.2
  unfold zC at h3
  simp[hk]at h3
  exact (h3 v hv).2
def SF (p:Pg)(l:List St):Prop:=∀s∈l,∀e to,s=.rs e to→Fr p e
structure Ct (p:Pg) (κ:List Int×Bool) (n:Nat):Prop where
 value:∀ {e σ x},eG n e σ=some x→Fr p e→p.vr≤σ.nv→cFs p.vr κ x.2.2.fs+cSs κ x.1=cFs p.vr κ σ.fs+cE κ e∧SF p x.1
 values:∀ {l σ x},bP n l σ=some x→(∀e∈l,Fr p e)→p.vr≤σ.nv→cFs p.vr κ x.2.2.fs+cSs κ x.1=cFs p.vr κ σ.fs+cEs κ l∧SF p x.1
 lam:∀ {e σ x},eQ n e σ=some x→Fr p e→e.k=7→p.vr≤σ.nv→cFs p.vr κ x.2.fs=cFs p.vr κ σ.fs+cE κ e
 laid:∀ {l t σ x},cC n l t σ=some x→SF p l→p.vr≤σ.nv→cFs p.vr κ x.2.fs=cFs p.vr κ σ.fs+cSs κ l
 code:∀ {e k σ x},eS n e k σ=some x→Fr p e→p.vr≤σ.nv→cFs p.vr κ x.2.fs=cFs p.vr κ σ.fs+cE κ e
 ctl:∀ {e k σ x},nB n e k σ=some x→Fr p e→e.k=11→p.vr≤σ.nv→cFs p.vr κ x.2.fs=cFs p.vr κ σ.fs+cE κ e
 sq:∀ {l k σ x},nC n l k σ=some x→(∀e∈l,Fr p e)→p.vr≤σ.nv→cFs p.vr κ x.2.fs=cFs p.vr κ σ.fs+cEs κ l
 parts:∀ {i l t σ x},dA n i l t σ=some x→(∀e∈l,Fr p e)→p.vr≤σ.nv→cFs p.vr κ x.2.fs=cFs p.vr κ σ.fs+cEs κ (l.take (64*i))
theorem SF.app {p:Pg}{a b:List St}(h:SF p a)(g:SF p b):SF p (a++b):=fun s hs=>(List.mem_append.1 hs).elim (h s) (g s)
theorem SF.tm (p:Pg)(t:List IV)(to:Int):SF p [.tm t to]:=fun s hs e to' h=>by rw[List.mem_singleton]at hs; subst hs; cases h
theorem SF.nil (p:Pg):SF p []:=fun s hs=>by cases hs
theorem SF.rev {p:Pg}{l:List St}(h:SF p l):SF p l.reverse:=fun s hs=>h s (List.mem_reverse.1 hs)
theorem aTq (p:Pg)(κ:List Int×Bool):∀n,Ct p κ n
 | 0=>⟨fun h=>by simp[eG]at h,fun h=>by simp[bP]at h,fun h=>by simp[eQ]at h,fun h=>by simp[cC]at h,fun h=>by simp[eS]at h,fun h=>by simp[nB]at h,fun h=>by simp[nC]at h,fun h=>by simp[dA]at h⟩
 | n+1=>by
  have m:=aTq p κ n
  have mo:=mono n
  refine⟨?_,?_,?_,?_,?_,?_,?_,?_⟩
  ·intro e σ x h hf hv
   have hK:∀x∈e.ks,Fr p x:=mP.1 ((pT p e).1 hf).2
   have hM:=frM hf
   rw[wO]
   rw[eG]at h
   split at h
   ·rename_i hk; cases h; rw[hM.k1 (.inl hk)]; simp[cSs,cEs,hk,SF.nil]
   ·split at h
    ·rename_i hk; cases h; rw[hM.k1 (.inr hk)]; simp[cSs,cEs,hk,SF.nil]
    ·split at h
     ·rename_i hk
      obtain⟨y,hy,h⟩:=Option.bind_eq_some_iff.1 h
      have h1:=m.lam hy hf hk hv
      cases h
      rw[wO]at h1
      exact⟨by show cFs p.vr κ y.2.fs+cSs κ [St.tm _ _]=_; rw[cSs,cSs,cS]; omega,SF.tm _ _ _⟩
     ·rename_i h7
      rw[if_neg (fun hh=>h7 hh.1),Nat.zero_add]
      split at h
      ·obtain⟨y,hy,h⟩:=Option.bind_eq_some_iff.1 h
       obtain⟨a,ha,h⟩:=Option.bind_eq_some_iff.1 h
       cases h; exact m.values hy hK hv
      ·split at h
       ·cases h
        refine⟨?_,fun s hs e' to h=>by rw[List.mem_singleton]at hs; subst hs; cases h; exact hf⟩
        show cFs p.vr κ σ.fs+cSs κ [St.rs e _]=_
        rw[cSs,cSs,cS,wO,if_neg (fun hh=>h7 hh.1)]; omega
       ·obtain⟨y,hy,h⟩:=Option.bind_eq_some_iff.1 h
        obtain⟨h1,h2⟩:=m.values hy hK hv
        cases h
        refine⟨?_,h2.app (SF.tm _ _ _)⟩
        show cFs p.vr κ y.2.2.fs+cSs κ (y.1++[St.tm _ _])=_
        rw[rF,cSs,cSs,cS]; omega
  ·intro l σ x h hf hv
   cases l with
   | nil=>rw[bP]at h; cases h; simp[cSs,cEs,SF.nil]
   | cons e l =>
    rw[bP]at h
    obtain⟨y,hy,h⟩:=Option.bind_eq_some_iff.1 h
    obtain⟨z,hz,h⟩:=Option.bind_eq_some_iff.1 h
    obtain⟨h1,h2⟩:=m.value hy (hf e (by simp)) hv
    obtain⟨h3,h4⟩:=m.values hz (fun x hx=>hf x (List.mem_cons_of_mem _ hx)) (Int.le_trans hv (mo.value hy).nv)
    cases h
    refine⟨?_,h2.app h4⟩
    show cFs p.vr κ z.2.2.fs+cSs κ (y.1++z.1)=_
    rw[rF,cEs]; omega
  ·intro e σ x h hf hk hv
   have hK:∀x∈e.ks,Fr p x:=mP.1 ((pT p e).1 hf).2
   have hl:=(frN hf).k7 hk
   have hM:=frM hf
   rw[eQ]at h
   split at h
   ·cases h
   ·rename_i b bs hks
    rw[hks]at hl hK
    have hbs:bs=[]:=by simpa using hl
    subst hbs
    obtain⟨y,hy,h⟩:=Option.bind_eq_some_iff.1 h
    have h1:=m.code hy (hK b (by simp)) (by show p.vr≤σ.nv+1; omega)
    cases h
    rw[pU,bEp _ _ _ _ _ _ _ (hM.k7 hk),h1,wO κ e,hks,cEs,cEs,lL]
    simp only[hk,true_and]
    omega
  ·intro l t σ x h hs hv
   cases l with
   | nil=>rw[cC]at h; cases h; simp[cSs]
   | cons s l =>
    cases s with
    | tm c to =>
     rw[cC]at h
     have h1:=m.laid h (fun s hs'=>hs s (List.mem_cons_of_mem _ hs')) hv
     rw[cSs,cS]; omega
    | rs e to =>
     rw[cC]at h
     obtain⟨y,hy,h⟩:=Option.bind_eq_some_iff.1 h
     have h1:=m.code hy (hs _ (List.mem_cons_self) e to rfl) (by show p.vr≤σ.nv+1; omega)
     have hl:σ.nv+1≤y.2.nv:=(mo.code hy).nv
     have h2:=m.laid h (fun s hs'=>hs s (List.mem_cons_of_mem _ hs')) (by omega)
     rw[lL,pU,aD0]at h1
     rw[cSs,cS]; omega
  ·intro e k σ x h hf hv
   have hK:∀x∈e.ks,Fr p x:=mP.1 ((pT p e).1 hf).2
   rw[eS]at h
   split at h
   ·rename_i hk
    obtain⟨y,hy,h⟩:=Option.bind_eq_some_iff.1 h
    obtain⟨h1,h2⟩:=m.values hy hK hv
    split at h
    ·cases h
    ·have h3:=m.laid h h2.rev (Int.le_trans hv (mo.values hy).nv)
     rw[mS]at h3
     rw[wO,if_neg (by rw[hk]; simp)]; omega
   ·split at h
    ·rename_i h8 hk
     split at h
     ·rename_i c0 p0 q0 rr hks
      have hl:=(frN hf).k6 hk
      rw[hks]at hl hK
      have hrr:rr=[]:=by simpa using hl
      subst hrr
      obtain⟨y,hy,h⟩:=Option.bind_eq_some_iff.1 h
      obtain⟨z,hz,h⟩:=Option.bind_eq_some_iff.1 h
      obtain⟨w,hw,h⟩:=Option.bind_eq_some_iff.1 h
      have n1:=(mo.value hy).nv
      have n2:=(mo.code hz).nv
      have n3:=(mo.code hw).nv
      obtain⟨h1,h2⟩:=m.value hy (hK c0 (by simp)) hv
      have h3:=m.code hz (hK p0 (by simp)) (by omega)
      have h4:=m.code hw (hK q0 (by simp)) (by omega)
      have h5:=m.laid h h2.rev (by omega)
      rw[mS]at h5
      rw[wO,if_neg (by rw[hk]; simp),hks,cEs,cEs,cEs,cEs]; omega
     ·cases h
    ·split at h
     ·rename_i hk
      rw[wO,if_neg (by rw[hk]; simp),Nat.zero_add]
      exact m.sq h hK hv
     ·split at h
      ·rename_i hk; exact m.ctl h hf hk hv
      ·obtain⟨y,hy,h⟩:=Option.bind_eq_some_iff.1 h
       obtain⟨h1,h2⟩:=m.value hy hf hv
       have h3:=m.laid h h2.rev (Int.le_trans hv (mo.value hy).nv)
       rw[mS]at h3
       omega
  ·intro e k σ x h hf hk hv
   have hK:∀x∈e.ks,Fr p x:=mP.1 ((pT p e).1 hf).2
   rw[nB]at h
   obtain⟨y,hy,h⟩:=Option.bind_eq_some_iff.1 h
   obtain⟨h1,h2⟩:=m.values hy hK hv
   have n1:=(mo.values hy).nv
   rw[wO,if_neg (by rw[hk]; simp),Nat.zero_add]
   split at h
   ·split at h
    ·have h3:=m.laid h h2.rev (by omega)
     rw[mS]at h3; omega
    ·cases h
   ·split at h
    ·split at h
     ·have h3:=m.laid h (h2.app (SF.tm _ _ _)).rev (by show p.vr≤y.2.2.nv+1+1+1; omega)
      rw[mS,rF,cSs,cSs,cS,lL,pU,bG8 _ _ _ _ _ _ _ (by omega),lL,lL]at h3; omega
     ·cases h
    ·split at h
     ·have h3:=m.laid h (h2.app (SF.tm _ _ _)).rev (by show p.vr≤y.2.2.nv+1+1; omega)
      rw[mS,rF,cSs,cSs,cS,lL,pU,aD0,lL]at h3; omega
     ·cases h
  ·intro l k σ x h hf hv
   rw[nC]at h
   split at h
   ·cases h
   ·rename_i z0 hz0
    obtain⟨y,hy,h⟩:=Option.bind_eq_some_iff.1 h
    obtain⟨z,hz,h⟩:=Option.bind_eq_some_iff.1 h
    obtain⟨w,hw,h⟩:=Option.bind_eq_some_iff.1 h
    have n1:=(mo.values hy).nv
    have n2:=(mo.code hz).nv
    have n3:=(mo.laid hw).nv
    have hne:l≠[]:=by rintro rfl; simp at hz0
    have hsplit:l=l.take (64*((l.length-1) / 64))++(((l.take (l.length-1)).drop (64*((l.length-1) / 64)))++[z0]):=by
     have h1:l=l.take (l.length-1)++[z0]:=by
      rw[List.getLast?_eq_some_getLast hne]at hz0
      cases hz0
      rw[←List.dropLast_eq_take]; exact (List.dropLast_concat_getLast hne).symm
     have h2:l.take (64*((l.length-1) / 64))=(l.take (l.length-1)).take (64*((l.length-1) / 64)):=by rw[List.take_take,Nat.min_eq_left (by omega)]
     rw[h2,←List.append_assoc,List.take_append_drop]
     exact h1
    have hss:=congrArg (cEs κ) hsplit
    rw[yQ,yQ,cEs,cEs]at hss
    obtain⟨h1,h2⟩:=m.values hy (fun e he=>hf e (List.mem_of_mem_take (List.mem_of_mem_drop he))) hv
    have h3:=m.code hz (hf z0 (List.mem_of_getLast? hz0)) (by omega)
    have h4:=m.laid hw h2.rev (by omega)
    have h5:=m.parts h hf (by omega)
    rw[mS]at h4
    omega
  ·intro i l t σ x h hf hv
   cases i with
   | zero=>rw[dA]at h; cases h; simp[cEs]
   | succ i =>
    rw[dA]at h
    obtain⟨y,hy,h⟩:=Option.bind_eq_some_iff.1 h
    obtain⟨w,hw,h⟩:=Option.bind_eq_some_iff.1 h
    have n1:σ.nv+1+1≤y.2.2.nv:=(mo.values hy).nv
    have n2:=(mo.laid hw).nv
    obtain⟨h1,h2⟩:=m.values hy (fun e he=>hf e (List.mem_of_mem_drop (List.mem_of_mem_take he))) (by show p.vr≤σ.nv+1+1; omega)
    have h3:=m.laid hw (show SF p (St.tm _ _::y.1).reverse from ((SF.tm _ _ _).app h2).rev) (by omega)
    have h4:=m.parts h hf (by omega)
    rw[lL,pU,aD0,lL]at h1
    rw[mS,cSs,cS]at h3
    rw[show 64*(i+1)=64*i+64 by omega,List.take_add,yQ]
    omega
def FOK (vr:Int)(f:List IV):Prop:=∃(tg:Tag) (ps:List Int) (r c:Bool) (b:List IV),f=fnF tg ps r c b∧TmO b∧tg≠.nil∧ps.length≤1048577 ∧
 (c=false→(∃k vs,ps=k::vs∧∀v∈vs,v<vr)∨(∃a d,ps=[a,d]∧r=true∧vr≤d∧∃b',b=.int .i64 6::b'))
theorem FOK.cont (vr to:Int)(r:Bool){t:List IV}(h:TmO t):FOK vr (fnF .full [to] r true t):=⟨_,_,_,_,_,rfl,h,by decide,by simp,fun h=>by cases h⟩
def mM (vr:Int)(σ:Mk):Prop:=∀f∈σ.fs.drop 2,FOK vr f
theorem mM.push {vr:Int}{σ:Mk}(h:mM vr σ){f:List IV}(hf:FOK vr f):mM vr (σ.push f):=fun g hg=>by
 have hg':g∈(σ.fs++[f]).drop 2:=hg
 rw[List.drop_append]at hg'
 rcases List.mem_append.1 hg' with hg|hg
 ·exact h g hg
 ·have:=List.mem_of_mem_drop hg
  rw[List.mem_singleton]at this; subst this; exact hf
theorem mM.var {vr:Int}{σ:Mk}(h:mM vr σ):mM vr σ.var:=h
def EO (p:Pg)(e:Ex):Prop:=Fr p e∧XO e
theorem EO.kid {p:Pg}{e x:Ex}(h:EO p e)(hx:x∈e.ks):EO p x:=⟨mP.1 ((pT p e).1 h.1).2 x hx,h.2.kid hx⟩
def SG (p:Pg)(l:List St):Prop:=∀s∈l,∀e to,s=.rs e to→EO p e
theorem SG.app {p:Pg}{a b:List St}(h:SG p a)(g:SG p b):SG p (a++b):=fun s hs=>(List.mem_append.1 hs).elim (h s) (g s)
theorem SG.tm (p:Pg)(t:List IV)(to:Int):SG p [.tm t to]:=fun s hs e to' h=>by rw[List.mem_singleton]at hs; subst hs; cases h
theorem SG.nil (p:Pg):SG p []:=fun s hs=>by cases hs
theorem SG.rev {p:Pg}{l:List St}(h:SG p l):SG p l.reverse:=fun s hs=>h s (List.mem_reverse.1 hs)
theorem aOg (vs:List Int):vD vs≠.nil:=by unfold vD; split<;>decide
structure Fk (p:Pg) (n:Nat):Prop where
 value:∀ {e σ x},eG n e σ=some x→EO p e→p.vr≤σ.nv→mM p.vr σ→mM p.vr x.2.2∧SG p x.1
 values:∀ {l σ x},bP n l σ=some x→(∀e∈l,EO p e)→p.vr≤σ.nv→mM p.vr σ→mM p.vr x.2.2∧SG p x.1
 lam:∀ {e σ x},eQ n e σ=some x→EO p e→e.k=7→p.vr≤σ.nv→mM p.vr σ→mM p.vr x.2
 laid:∀ {l t σ x},cC n l t σ=some x→SG p l→(∀s∈l,SO s)→TmO t→p.vr≤σ.nv→mM p.vr σ→mM p.vr x.2
 code:∀ {e k σ x},eS n e k σ=some x→EO p e→p.vr≤σ.nv→mM p.vr σ→mM p.vr x.2
 ctl:∀ {e k σ x},nB n e k σ=some x→EO p e→p.vr≤σ.nv→mM p.vr σ→mM p.vr x.2
 sq:∀ {l k σ x},nC n l k σ=some x→(∀e∈l,EO p e)→p.vr≤σ.nv→mM p.vr σ→mM p.vr x.2
 parts:∀ {i l t σ x},dA n i l t σ=some x→(∀e∈l,EO p e)→TmO t→p.vr≤σ.nv→mM p.vr σ→mM p.vr x.2
theorem funcs (p:Pg):∀n,Fk p n
 | 0=>⟨fun h=>by simp[eG]at h,fun h=>by simp[bP]at h,fun h=>by simp[eQ]at h,fun h=>by simp[cC]at h,fun h=>by simp[eS]at h,fun h=>by simp[nB]at h,fun h=>by simp[nC]at h,fun h=>by simp[dA]at h⟩
 | n+1=>by
  have m:=funcs p n
  have mo:=mono n
  have sh:=dP n
  refine⟨?_,?_,?_,?_,?_,?_,?_,?_⟩
  ·intro e σ x h hf hv ha
   have hK:∀x∈e.ks,EO p x:=fun x hx=>hf.kid hx
   rw[eG]at h
   split at h
   ·cases h; exact⟨ha,SG.nil p⟩
   ·split at h
    ·cases h; exact⟨ha,SG.nil p⟩
    ·split at h
     ·rename_i hk
      obtain⟨y,hy,h⟩:=Option.bind_eq_some_iff.1 h
      have h1:=m.lam hy hf hk hv ha
      cases h
      exact⟨h1.var,SG.tm _ _ _⟩
     ·split at h
      ·obtain⟨y,hy,h⟩:=Option.bind_eq_some_iff.1 h
       obtain⟨a,ha',h⟩:=Option.bind_eq_some_iff.1 h
       cases h; exact m.values hy hK hv ha
      ·split at h
       ·cases h
        exact⟨ha.var,fun s hs e' to h=>by rw[List.mem_singleton]at hs; subst hs; cases h; exact hf⟩
       ·obtain⟨y,hy,h⟩:=Option.bind_eq_some_iff.1 h
        obtain⟨h1,h2⟩:=m.values hy hK hv ha
        cases h
        exact⟨h1.var,h2.app (SG.tm _ _ _)⟩
  ·intro l σ x h hf hv ha
   cases l with
   | nil=>rw[bP]at h; cases h; exact⟨ha,SG.nil p⟩
   | cons e l =>
    rw[bP]at h
    obtain⟨y,hy,h⟩:=Option.bind_eq_some_iff.1 h
    obtain⟨z,hz,h⟩:=Option.bind_eq_some_iff.1 h
    obtain⟨h1,h2⟩:=m.value hy (hf e (by simp)) hv ha
    obtain⟨h3,h4⟩:=m.values hz (fun x hx=>hf x (List.mem_cons_of_mem _ hx)) (Int.le_trans hv (mo.value hy).nv) h1
    cases h
    exact⟨h3,h2.app h4⟩
  ·intro e σ x h hf hk hv ha
   have hM:=frM hf.1
   have hw:=Ex.w_eq e
   have hw2:=hf.2.2
   rw[eQ]at h
   split at h
   ·cases h
   ·rename_i b bs hks
    have hb:=hf.kid (x:=b) (by rw[hks]; simp)
    obtain⟨y,hy,h⟩:=Option.bind_eq_some_iff.1 h
    have h1:=m.code hy hb (by show p.vr≤σ.nv+1; omega) ha.var
    have h2:=sh.code hy hb.2
    cases h
    exact h1.push ⟨_,_,_,_,_,rfl,h2,aOg _,by rw[List.length_cons]; omega,fun _=>.inl ⟨_,_,rfl,hM.k7 hk⟩⟩
  ·intro l t σ x h hs hso ht hv ha
   cases l with
   | nil=>rw[cC]at h; cases h; exact ha
   | cons s l =>
    cases s with
    | tm c to =>
     rw[cC]at h
     exact m.laid h (fun s hs'=>hs s (List.mem_cons_of_mem _ hs')) (fun s hs'=>hso s (List.mem_cons_of_mem _ hs')) (TmO.kids (show TmO c from hso _ (List.mem_cons_self)) _ _) hv ha
    | rs e to =>
     rw[cC]at h
     obtain⟨y,hy,h⟩:=Option.bind_eq_some_iff.1 h
     have h1:=m.code hy (hs _ (List.mem_cons_self) e to rfl) (by show p.vr≤σ.nv+1; omega) (ha.push (FOK.cont _ _ _ ht)).var
     have hl:σ.nv+1≤y.2.nv:=(mo.code hy).nv
     exact m.laid h (fun s hs'=>hs s (List.mem_cons_of_mem _ hs')) (fun s hs'=>hso s (List.mem_cons_of_mem _ hs')) (TmO.fun ..) (by omega) h1
  ·intro e k σ x h hf hv ha
   have hK:∀x∈e.ks,EO p x:=fun x hx=>hf.kid hx
   rw[eS]at h
   split at h
   ·rename_i hk
    obtain⟨y,hy,h⟩:=Option.bind_eq_some_iff.1 h
    obtain⟨h1,h2⟩:=m.values hy hK hv ha
    obtain⟨s1,s2,s3,s4⟩:=sh.values hy (fun x hx=>(hK x hx).2)
    split at h
    ·cases h
    ·exact m.laid h h2.rev (fun s hs=>s2 s (List.mem_reverse.1 hs)) (TmO.call ..) (Int.le_trans hv (mo.values hy).nv) h1
   ·split at h
    ·split at h
     ·rename_i h8 hk c0 p0 q0 rr hks
      rw[hks]at hK
      obtain⟨y,hy,h⟩:=Option.bind_eq_some_iff.1 h
      obtain⟨z,hz,h⟩:=Option.bind_eq_some_iff.1 h
      obtain⟨w,hw,h⟩:=Option.bind_eq_some_iff.1 h
      have n1:=(mo.value hy).nv
      have n2:=(mo.code hz).nv
      have n3:=(mo.code hw).nv
      obtain⟨h1,h2⟩:=m.value hy (hK c0 (by simp)) hv ha
      obtain⟨s1,s2,s3⟩:=sh.value hy (hK c0 (by simp)).2
      have h3:=m.code hz (hK p0 (by simp)) (by omega) h1
      have h4:=m.code hw (hK q0 (by simp)) (by omega) h3
      exact m.laid h h2.rev (fun s hs=>s2 s (List.mem_reverse.1 hs)) (TmO.if ..) (by omega) h4
     ·cases h
    ·split at h
     ·exact m.sq h hK hv ha
     ·split at h
      ·exact m.ctl h hf hv ha
      ·obtain⟨y,hy,h⟩:=Option.bind_eq_some_iff.1 h
       obtain⟨h1,h2⟩:=m.value hy hf hv ha
       obtain⟨s1,s2,s3⟩:=sh.value hy hf.2
       exact m.laid h h2.rev (fun s hs=>s2 s (List.mem_reverse.1 hs)) (TmO.call ..) (Int.le_trans hv (mo.value hy).nv) h1
  ·intro e k σ x h hf hv ha
   have hK:∀x∈e.ks,EO p x:=fun x hx=>hf.kid hx
   rw[nB]at h
   obtain⟨y,hy,h⟩:=Option.bind_eq_some_iff.1 h
   obtain⟨h1,h2⟩:=m.values hy hK hv ha
   obtain⟨s1,s2,s3,s4⟩:=sh.values hy (fun x hx=>(hK x hx).2)
   have n1:=(mo.values hy).nv
   have hso:∀(v f:Int),∀s∈(y.1++[St.tm (fP v f (.sl .nil [])) v]).reverse,SO s:=fun v f s hs=>by
    rcases List.mem_append.1 (List.mem_reverse.1 hs) with hs|hs
    ·exact s2 s hs
    ·rw[List.mem_singleton]at hs; subst hs; exact TmO.fun ..
   split at h
   ·split at h
    ·exact m.laid h h2.rev (fun s hs=>s2 s (List.mem_reverse.1 hs)) (TmO.appl ..) (by omega) h1
    ·cases h
   ·split at h
    ·split at h
     ·exact m.laid h (h2.app (SG.tm _ _ _)).rev (hso _ _) (TmO.call ..) (by show p.vr≤y.2.2.nv+1+1+1; omega) (h1.var.var.push ⟨_,_,_,_,_,rfl,TmO.appl _,by decide,by simp,fun _=>.inr ⟨_,_,rfl,rfl,by omega,_,rfl⟩⟩).var
     ·cases h
    ·split at h
     ·exact m.laid h (h2.app (SG.tm _ _ _)).rev (hso _ _) (TmO.call ..) (by show p.vr≤y.2.2.nv+1+1; omega) (h1.var.push (FOK.cont _ _ _ (TmO.appl _))).var
     ·cases h
  ·intro l k σ x h hf hv ha
   rw[nC]at h
   split at h
   ·cases h
   ·rename_i z0 hz0
    obtain⟨y,hy,h⟩:=Option.bind_eq_some_iff.1 h
    obtain⟨z,hz,h⟩:=Option.bind_eq_some_iff.1 h
    obtain⟨w,hw,h⟩:=Option.bind_eq_some_iff.1 h
    have n1:=(mo.values hy).nv
    have n2:=(mo.code hz).nv
    have n3:=(mo.laid hw).nv
    have hf2:∀e∈(l.take (l.length-1)).drop (64*((l.length-1) / 64)),EO p e:=fun e he=>hf e (List.mem_of_mem_take (List.mem_of_mem_drop he))
    obtain⟨h1,h2⟩:=m.values hy hf2 hv ha
    obtain⟨s1,s2,s3,s4⟩:=sh.values hy (fun x hx=>(hf2 x hx).2)
    have hz1:=hf z0 (List.mem_of_getLast? hz0)
    have h3:=m.code hz hz1 (by omega) h1
    have tz:=sh.code hz hz1.2
    have h4:=m.laid hw h2.rev (fun s hs=>s2 s (List.mem_reverse.1 hs)) tz (by omega) h3
    exact m.parts h hf (sh.laid hw tz (fun s hs=>s2 s (List.mem_reverse.1 hs))) (by omega) h4
  ·intro i l t σ x h hf ht hv ha
   cases i with
   | zero=>rw[dA]at h; cases h; exact ha
   | succ i =>
    rw[dA]at h
    obtain⟨y,hy,h⟩:=Option.bind_eq_some_iff.1 h
    obtain⟨w,hw,h⟩:=Option.bind_eq_some_iff.1 h
    have n1:σ.nv+1+1≤y.2.2.nv:=(mo.values hy).nv
    have n2:=(mo.laid hw).nv
    have hf2:∀e∈(l.drop (64*i)).take 64,EO p e:=fun e he=>hf e (List.mem_of_mem_drop (List.mem_of_mem_take he))
    obtain⟨h1,h2⟩:=m.values hy hf2 (by show p.vr≤σ.nv+1+1; omega) (ha.var.push (FOK.cont _ _ _ ht)).var
    obtain⟨s1,s2,s3,s4⟩:=sh.values hy (fun x hx=>(hf2 x hx).2)
    have hso:∀s∈(St.tm (fP (σ.nv+1) σ.fs.length (.sl .nil [])) (σ.nv+1)::y.1).reverse,SO s:=fun s hs=>by
     rcases List.mem_cons.1 (List.mem_reverse.1 hs) with rfl|hs
     ·exact TmO.fun ..
     ·exact s2 s hs
    have h3:=m.laid hw (show SG p (St.tm _ _::y.1).reverse from ((SG.tm _ _ _).app h2).rev) hso (TmO.call ..) (by omega) h1
    exact m.parts h hf (sh.laid hw (TmO.call ..) hso) (by omega) h3
attribute [go_sem] beq_self_eq_true bF8 bF9 ifT ifF eqT eqF neT neF qW TM.mH aFk List.replicate List.cons_append List.nil_append decide_true decide_false
attribute [go_sem] Nat.reduceAdd Nat.reduceSub Nat.reduceMul Nat.reduceLT Nat.reduceLeDiff Nat.reduceEqDiff Nat.reduceBEq reduceIte reduceCtorEq Int.reduceEq Int.reduceLT Int.reduceLE Int.reduceAdd Int.reduceSub Int.reduceMul Int.reduceToNat Int.reduceNeg Int.reduceBEq Int.reduceBNe Int.reduceTDiv Int.reduceTMod Int.reducePow Nat.reducePow Nat.reduceDiv Nat.reduceMod Int.reduceMod Int.reduceDiv Int.reduceNe Int.reduceFDiv
mutual
def aTr:Ex→List Ex
 | .mk k n gv vs r g ks=>(if k=7 then [.mk k n gv vs r g ks] else [])++zE ks
def zE:List Ex→List Ex
 | []=>[]
 | e::es=>aTr e++zE es
end
mutual
theorem aTs:∀e:Ex,(aTr e).length≤e.w
 | .mk k n gv vs r g ks=>by
  have h1:=aCo ks
  have h2:=Ex.w_eq (.mk k n gv vs r g ks)
  have h3:(Ex.mk k n gv vs r g ks).ks=ks:=rfl
  rw[h3]at h2
  rw[aTr,List.length_append]
  split
  ·rw[List.length_singleton]; omega
  ·rw[List.length_nil]; omega
theorem aCo:∀l:List Ex,(zE l).length≤Ex.ws l
 | []=>by simp[zE]
 | e::es=>by
  have h1:=aTs e
  have h2:=aCo es
  have h3:Ex.ws (e::es)=e.w+Ex.ws es:=by rw[Ex.ws]
  rw[zE,List.length_append]; omega
end
theorem gG (l:List Int):(TM.one (.int .i64) l).length=l.length:=by unfold TM.one; simp
theorem aTt {t:Tag}{l:List Int}{i:Nat}(h:i<l.length):indexAddrS 1 (.iv (.sl t (TM.one (.int .i64) l))) (i:Int)=some (.iv (.cp [.int .i64 l[i]])):=by
 refine pJ (by omega) ?_ rfl
 rw[Int.toNat_natCast]
 unfold TM.one
 rw[List.getElem?_map,List.getElem?_eq_getElem h]
 rfl
theorem aTu (t:Tag)(l:List Int)(hl:l.length≤2000000)(n:Int)(S:aA):∀(k i:Nat) (x2 x4 x5:TV),i+k=l.length →
  ∃j y2 y3 y4 y5,lp' (lim K) t14L0 [.iv (.sl t (TM.one (.int .i64) l)),.iv (.int .i64 n),x2,.iv (.int .i64 i),x4,x5] S=.ret (j,[.iv (.sl t (TM.one (.int .i64) l)),.iv (.int .i64 n),y2,y3,y4,y5],S) ∧
   ((j=.exit 0∧n∉l.drop i)∨(j=.ret∧n∈l.drop i∧y2=.iv (.bool true)))
 | 0,i,x2,x4,x5,h=>by
  obtain rfl:i=l.length:=by omega
  have hle:=gG l
  refine⟨.exit 0,x2,.iv (.int .i64 l.length),.iv (.bool false),x5,aN K _ _ t14L0.eq_1 ?_,.inl ⟨rfl,by simp⟩⟩
  simp (config := { maxSteps := 4000000 }) (disch:=omega) only[go_sem,hle]
 | k+1,i,x2,x4,x5,h=>by
  have hla:i<l.length:=by omega
  have hle:=gG l
  have hix:=aTt (t:=t) hla
  have hdr:=List.drop_eq_getElem_cons hla
  by_cases he:l[i]=n
  ·refine⟨.ret,.iv (.bool true),.iv (.int .i64 i),.iv (.bool true),.iv (.bool true),aN K _ _ t14L0.eq_1 ?_,.inr ⟨rfl,by rw[hdr,he]; simp,rfl⟩⟩
   simp (config := { maxSteps := 4000000 }) (disch:=omega) only[go_sem,hle,hix,he]
  ·obtain⟨j,y2,y3,y4,y5,hlp,hj⟩:=aTu t l hl n S k (i+1) x2 (.iv (.bool true)) (.iv (.bool false)) (by omega)
   refine⟨j,y2,y3,y4,y5,aN K _ _ t14L0.eq_1 ?_,?_⟩
   ·rw[show ((i+1:Nat):Int)=(i:Int)+1 by omega]at hlp
    simp (config := { maxSteps := 4000000 }) (disch:=omega) only[go_sem,hle,hix,he,aF]
    exact congrArg er hlp
   ·rw[hdr,List.mem_cons]
    have:n≠l[i]:=fun h=>he h.symm
    simpa[this] using hj
theorem aD1 (t:Tag)(l:List Int)(hl:l.length≤2000000)(n:Int):TM.Pure K 14 [.iv (.sl t (TM.one (.int .i64) l)),.iv (.int .i64 n)] (.iv (.bool (decide (n∈l)))):=by
 obtain⟨j,y2,y3,y4,y5,hlp,hj⟩:=aTu t l hl n [] l.length 0 (.iv (.bool false)) u_ u_ (by omega)
 rw[List.drop_zero]at hj
 rw[show ((0:Nat):Int)=0 from rfl]at hlp
 rcases hj with⟨rfl,hm⟩|⟨rfl,hm,rfl⟩
 ·rw[decide_eq_false hm]
  refine gR t14 rfl rfl ?_
  simp (config := { maxSteps := 4000000 }) (disch:=omega) only[t14,go_sem]
  rw[hlp]
  simp (config := { maxSteps := 4000000 }) (disch:=omega) only[go_sem]
 ·rw[decide_eq_true hm]
  refine gR t14 rfl rfl ?_
  simp (config := { maxSteps := 4000000 }) (disch:=omega) only[t14,go_sem]
  rw[hlp]
  simp (config := { maxSteps := 4000000 }) (disch:=omega) only[go_sem]
def aZz (e:Ex):List Int×Bool:=(e.vs,e.r)
mutual
theorem aJe (κ:List Int×Bool):∀e:Ex,((aTr e).map aZz).count κ=cE κ e
 | .mk k n gv vs r g ks=>by
  have h:=wP κ ks
  rw[aTr,cE,List.map_append,List.count_append,h]
  by_cases hk:k=7
  ·rw[if_pos hk,List.map_singleton,List.count_singleton]
   have:aZz (.mk k n gv vs r g ks)=(vs,r):=rfl
   rw[this]
   by_cases he:(vs,r)=κ
   ·simp[hk,he]
   ·simp[hk,he]
  ·rw[if_neg hk,if_neg (fun h=>hk h.1)]; rfl
theorem wP (κ:List Int×Bool):∀l:List Ex,((zE l).map aZz).count κ=cEs κ l
 | []=>rfl
 | e::es=>by
  rw[zE,cEs,List.map_append,List.count_append,aJe κ e,wP κ es]
end
structure Gy (J:List Nat) (G:Nat→List Int×Bool) (L:List Ex) (i:Nat) (is R:List Nat):Prop where
 p:(is++R).Perm J
 g:is.map G=(L.take i).map aZz
theorem ao2 (a b c d e:IV):dY (.iv (.cp [a,b,c,d,e])) 2=some (.iv (.cp [c,d,e])):=rfl
theorem ao3 (a b c d e:IV):dY (.iv (.cp [a,b,c,d,e])) 3=some (.iv (.cp [d,e])):=rfl
attribute [go_sem] ao2 ao3
theorem aTv (env:Env)(S:aA)(a b c d e f g h i j k:IV):bB env S (.iv (.cp [a,b,c,d,e,f,g,h,i,j,k])) 11=some [.iv a,.iv b,.iv c,.iv d,.iv e,.iv f,.iv g,.iv h,.iv i,.iv j,.iv k]:=by simp[bB,sub]
attribute [go_sem] aTv
theorem aZ0 (a b:List Int):TM.one (.int .i64) (a++b)=TM.one (.int .i64) a++TM.one (.int .i64) b:=by unfold TM.one; rw[List.map_append]
theorem bEq (l:List Int):cX 1 (TM.one (.int .i64) l):=by
 intro y hy
 unfold TM.one at hy
 obtain⟨a,_,rfl⟩:=List.mem_map.1 hy
 exact⟨rfl,rfl⟩
structure FE (f:List IV) (tg:Tag) (ps:List Int) (r c:Bool) (b0 b1 b2 b3 b4:Int) (t5 t6:Tag) (l5 l6:List (List IV)):Prop where
 e:f=[.sl tg (TM.one (.int .i64) ps),.bool r,.bool c,.sl .nil [],.int .i64 b0,.int .i64 b1,.int .i64 b2,.int .i64 b3,.int .i64 b4,.sl t5 l5,.sl t6 l6]
 t:fN tg ps
 l:ps.length≤1048577
theorem ixF {tg:Tag}{F:List (List IV)}{k:Nat}{f:List IV}(h:F[k]? = some f)(hl:f.length=11):indexAddrS 11 (.iv (.sl tg F)) (k:Int)=some (.iv (.cp f)):=pJ (by omega) (by rw[Int.toNat_natCast]; exact h) hl
theorem ixA {j:Nat}{L:List Ex}{i:Nat}(h:i<L.length):indexAddrS 5 (acc j (bS L)) (i:Int)=some (.iv (.cp [.int .i64 L[i].k,.int .i64 L[i].n,.sl L[i].gv (TM.one (.int .i64) L[i].vs),.bool L[i].r,.sl L[i].g (bS L[i].ks)])):=by
 rw[eP j (by intro e; have h1:=congrArg List.length e; rw[aL,List.length_nil]at h1; omega),←aZ]
 refine wB (by omega) ?_ (nR _)
 rw[Int.toNat_natCast,fI,List.getElem?_map,List.getElem?_eq_getElem h]
 rfl
def rv (f:Bool)(j:Nat)(l:List (List IV)):TV:=if f then .iv (.sl .full l) else acc j l
theorem aTw (j:Nat)(l:List (List IV)):rv false j l=acc j l:=rfl
theorem bEr (j:Nat)(l:List (List IV)):rv true j l=.iv (.sl .full l):=rfl
def aTx (f:Bool)(l:List (List IV)):Tag:=if f then .full else tD l
section
variable (f:Bool)(j:Nat)(l:List (List IV))
theorem aJf:cellsOf (rv f j l)=[rv f j l]:=by cases f; exact wN j l; rfl
theorem aOh:bM (rv f j l)=false:=by cases f; exact yZ j l; rfl
theorem aZ1 (S:aA):aB6 .sl S (rv f j l)=some (.iv (.int .i64 l.length)):=by cases f; exact aBk S j l; rfl
theorem aF5 (S:aA):kJ S (rv f j l)=some (.iv (.sl (aTx f l) l)):=by cases f; exact uY S j l; rfl
theorem bEs (K:bI)(O:Orc)(i':Nat)(ops:List aG)(i:Nat)(M:List (Nat×TV))(n:Nat)(fs:List TM.Fr)(env:Env)(S:aA):aCc K O (rv f j l) i' ops i M n fs env S=tB K O ops (i+1) M n fs (env.set i' (rv f j l)) S:=by
 cases f
 ·exact aN2 K O i' j l ops i M n fs env S
 ·exact aFf K O ops i M n fs env S _ i'
theorem aTy:pY (rv f j l)=false:=by cases f; exact aR6 j l; rfl
theorem aZ2 (i:Nat):vV i (rv f j l)=rv f j l:=by cases f; exact aIp i j l; rfl
theorem aZ3:dH (rv f j l)=false:=by cases f; exact aIq j l; rfl
theorem aM9 (S:aA):iJ S (rv f j l) l:=by cases f; exact (SR.acc j l).el S; exact iJ.sl ..
end
attribute [go_sem] aJf aOh aZ1 aF5 bEs aTy aZ2 aZ3
def Tk (f:Bool)(l:List (List IV))(j q:Nat):Prop:=f=false∧l≠[]∧q=j
structure Rw (S:aA) (f:Bool) (j:Nat) (l:List (List IV)):Prop where
 tok:f=false→l≠[]→S[j]? = some (.tok l.length 1 3)
structure Rg (S S':aA) (f f':Bool) (j j':Nat) (l l':List (List IV)):Prop where
 rw:Rw S' f' j' l'
 len:S.length≤S'.length
 old:∀q B,S[q]? = some B→¬Tk f l j q→S'[q]? = some B
 new:∀q,Tk f' l' j' q→Tk f l j q∨S.length≤q
theorem Rw.more {S:aA}{f:Bool}{j:Nat}{l ys:List (List IV)}{x:TV}(h:Rw S f j l)(hx:iJ S x ys)(hl:cX 1 l)(hy:cX 1 ys)(hr:l.length+ys.length≤2000000):∃f' j' S',bR false 1 8 3 S (rv f j l) x=some (rv f' j' (l++ys),S')∧Rg S S' f f' j j' l (l++ys):=by
 by_cases h0:ys=[]
 ·subst h0
  refine⟨f,j,S,?_,?_⟩
  ·rw[List.append_nil,wE (by cases f; exact (by unfold rv acc; simp; split<;>rfl); rfl) hx]
  ·rw[List.append_nil]; exact⟨h,Nat.le_refl _,fun q B hq _=>hq,fun q hq=>.inl hq⟩
 have hne:l++ys≠[]:=by simp[h0]
 have hnew:∀ {t:Tag},t≠.no→bR false 1 8 3 S (.iv (.sl t l)) x=some (acc S.length (l++ys),S++[.tok (l++ys).length 1 3]):=fun {t} ht=>by
  rw[wD ht hx hy hl h0 (fA (by omega)),eP _ hne,List.length_append]
 have hg:∀(f0:Bool),(f0=true∨l=[])→Rg S (S++[.tok (l++ys).length 1 3]) f0 false j S.length l (l++ys):=fun f0 _=>⟨⟨fun _ _=>by simp⟩,by simp,fun q B hq _=>iD hq _,fun q hq=>.inr (by rw[hq.2.2]; exact Nat.le_refl _)⟩
 cases f with
 | true=>exact⟨false,S.length,_,by rw[bEr,aTw]; exact hnew (by decide),hg true (.inl rfl)⟩
 | false =>
  by_cases hl0:l=[]
  ·refine⟨false,S.length,_,?_,hg false (.inr hl0)⟩
   rw[aTw,aTw]
   subst hl0
   rw[gS]
   exact hnew (by decide)
  ·have ht:=h.tok rfl hl0
   refine⟨false,j,S.set j (.tok (l++ys).length 1 3),?_,⟨⟨fun _ _=>bW (bD ht) _⟩,by simp,fun q B hq hn=>by rw[bK (fun e=>hn ⟨rfl,hl0,e.symm⟩)]; exact hq,fun q hq=>.inl ⟨rfl,hl0,hq.2.2⟩⟩⟩
   rw[aTw,aTw,eP _ hl0,aBj hx hy hl ht (fA (by omega)),eP _ hne,List.length_append]
abbrev bX (l:List Int):List (List IV):=TM.one (.int .i64) l
structure Cd where
 tg:Tag
 F:List (List IV)
 vars:Int
 gl:Int
 gc:Tag
 cs:List (List IV)
def lkB (C:Cd)(fb fm:Bool)(jb jm:Nat)(b m:List Int):aM:=.cells 57 false [.iv (.sl C.tg C.F),.iv (.int .i64 1),.iv (.int .i64 C.vars),.iv (.int .i64 C.gl),.iv (.sl C.gc C.cs),rv fb jb (bX b),rv fm jm (bX m)]
structure LK (S:aA) (C:Cd) (jx:Nat) (fb fm:Bool) (jb jm:Nat) (b m:List Int):Prop where
 own:S[jx]? = some (lkB C fb fm jb jm b m)
 rb:Rw S fb jb (bX b)
 rm:Rw S fm jm (bX m)
 ne:∀q,Tk fb (bX b) jb q→Tk fm (bX m) jm q→False
 ln:b.length≤1000000∧m.length≤1000000
structure KX (S S':aA) (jx:Nat) (fb fm fb' fm':Bool) (jb jm jb' jm':Nat) (b m b' m':List Int):Prop where
 len:S.length≤S'.length
 old:∀q B,S[q]? = some B→q≠jx→¬Tk fb (bX b) jb q→¬Tk fm (bX m) jm q→S'[q]? = some B
 newb:∀q,Tk fb' (bX b') jb' q→Tk fb (bX b) jb q∨S.length≤q
 newm:∀q,Tk fm' (bX m') jm' q→Tk fm (bX m) jm q∨S.length≤q
theorem KX.refl (S:aA)(jx:Nat)(fb fm:Bool)(jb jm:Nat)(b m:List Int):KX S S jx fb fm fb fm jb jm jb jm b m b m:=⟨Nat.le_refl _,fun q B h _ _ _=>h,fun q h=>.inl h,fun q h=>.inl h⟩
theorem KX.trans {S S1 S2:aA}{jx:Nat}{fb fm fb1 fm1 fb2 fm2:Bool}{jb jm jb1 jm1 jb2 jm2:Nat}{b m b1 m1 b2 m2:List Int}(h:KX S S1 jx fb fm fb1 fm1 jb jm jb1 jm1 b m b1 m1)(g:KX S1 S2 jx fb1 fm1 fb2 fm2 jb1 jm1 jb2 jm2 b1 m1 b2 m2):KX S S2 jx fb fm fb2 fm2 jb jm jb2 jm2 b m b2 m2:=by
 refine⟨Nat.le_trans h.len g.len,fun q B hq h1 h2 h3=>g.old q B (h.old q B hq h1 h2 h3) h1 (fun hb=>?_) (fun hm=>?_),fun q hq=>?_,fun q hq=>?_⟩
 ·rcases h.newb q hb with h4|h4
  ·exact h2 h4
  ·have:=bD hq; omega
 ·rcases h.newm q hm with h4|h4
  ·exact h3 h4
  ·have:=bD hq; omega
 ·rcases g.newb q hq with h4|h4
  ·exact h.newb q h4
  ·exact .inr (Nat.le_trans h.len h4)
 ·rcases g.newm q hq with h4|h4
  ·exact h.newm q h4
  ·exact .inr (Nat.le_trans h.len h4)
theorem jT (l:List Int):cX 1 (bX l):=bEq l
theorem tN (a b:List Int):bX (a++b)=bX a++bX b:=aZ0 a b
theorem aNa {S:aA}{C:Cd}{jx:Nat}{fb fm:Bool}{jb jm:Nat}{b m:List Int}(h:LK S C jx fb fm jb jm b m):(¬Tk fb (bX b) jb jx)∧¬Tk fm (bX m) jm jx:=by
 refine⟨fun⟨h1,h2,h3⟩=>?_,fun⟨h1,h2,h3⟩=>?_⟩
 ·have:=h.rb.tok h1 h2; rw[←h3,h.own]at this; unfold lkB at this; cases this
 ·have:=h.rm.tok h1 h2; rw[←h3,h.own]at this; unfold lkB at this; cases this
theorem LK.bind {S:aA}{C:Cd}{jx:Nat}{fb fm:Bool}{jb jm:Nat}{b m:List Int}(h:LK S C jx fb fm jb jm b m)(v:Int)(hl:b.length<1000000):∃fb' jb' S1,bR false 1 8 3 S (rv fb jb (bX b)) (.iv (.sl .full [[.int .i64 v]]))=some (rv fb' jb' (bX (b++[v])),S1)∧S1[jx]? = some (lkB C fb fm jb jm b m) ∧
  LK (S1.set jx (lkB C fb' fm jb' jm (b++[v]) m)) C jx fb' fm jb' jm (b++[v]) m∧KX S (S1.set jx (lkB C fb' fm jb' jm (b++[v]) m)) jx fb fm fb' fm jb jm jb' jm b m (b++[v]) m:=by
 obtain⟨t1,t2⟩:=aNa h
 have hll:=h.ln
 obtain⟨fb',jb',S1,ap,g⟩:=h.rb.more (iJ.sl S .full [[.int .i64 v]]) (jT b) (jT [v]) (by rw[gG]; simp; omega)
 have e:bX b++[[.int .i64 v]]=bX (b++[v]):=(tN b [v]).symm
 rw[e]at ap g
 have hx:=g.old jx _ h.own t1
 have hxl:=bD hx
 have hjn:∀q B,S1[q]? = some B→q≠jx→(S1.set jx (lkB C fb' fm jb' jm (b++[v]) m))[q]? = some B:=fun q B hq hn=>by rw[bK (Ne.symm hn)]; exact hq
 have hmt:fm=false→bX m≠[]→S1[jm]? = some (.tok (bX m).length 1 3):=fun h1 h2=>g.old jm _ (h.rm.tok h1 h2) fun ht=>h.ne jm ht ⟨h1,h2,rfl⟩
 refine⟨fb',jb',S1,ap,hx,⟨bW hxl _,⟨fun h1 h2=>?_⟩,⟨fun h1 h2=>?_⟩,fun q hb hm=>?_,by rw[List.length_append,List.length_singleton]; omega⟩,⟨by rw[List.length_set]; exact g.len,fun q B hq h1 h2 h3=>hjn q B (g.old q B hq h2) h1,g.new,fun q hq=>.inl hq⟩⟩
 ·have ht:=g.rw.tok h1 h2
  exact hjn _ _ ht fun e=>by rw[e,hx]at ht; unfold lkB at ht; cases ht
 ·have ht:=hmt h1 h2
  exact hjn _ _ ht fun e=>by rw[e,hx]at ht; unfold lkB at ht; cases ht
 ·rcases g.new q hb with h1|h1
  ·exact h.ne q h1 hm
  ·have:=bD (h.rm.tok hm.1 hm.2.1); have:=hm.2.2; omega
theorem LK.make {S:aA}{C:Cd}{jx:Nat}{fb fm:Bool}{jb jm:Nat}{b m:List Int}(h:LK S C jx fb fm jb jm b m)(v:Int)(hl:m.length<1000000):∃fm' jm' S1,bR false 1 8 3 S (rv fm jm (bX m)) (.iv (.sl .full [[.int .i64 v]]))=some (rv fm' jm' (bX (m++[v])),S1)∧S1[jx]? = some (lkB C fb fm jb jm b m) ∧
  LK (S1.set jx (lkB C fb fm' jb jm' b (m++[v]))) C jx fb fm' jb jm' b (m++[v])∧KX S (S1.set jx (lkB C fb fm' jb jm' b (m++[v]))) jx fb fm fb fm' jb jm jb jm' b m b (m++[v]):=by
 obtain⟨t1,t2⟩:=aNa h
 have hll:=h.ln
 obtain⟨fm',jm',S1,ap,g⟩:=h.rm.more (iJ.sl S .full [[.int .i64 v]]) (jT m) (jT [v]) (by rw[gG]; simp; omega)
 have e:bX m++[[.int .i64 v]]=bX (m++[v]):=(tN m [v]).symm
 rw[e]at ap g
 have hx:=g.old jx _ h.own t2
 have hxl:=bD hx
 have hjn:∀q B,S1[q]? = some B→q≠jx→(S1.set jx (lkB C fb fm' jb jm' b (m++[v])))[q]? = some B:=fun q B hq hn=>by rw[bK (Ne.symm hn)]; exact hq
 have hmt:fb=false→bX b≠[]→S1[jb]? = some (.tok (bX b).length 1 3):=fun h1 h2=>g.old jb _ (h.rb.tok h1 h2) fun ht=>h.ne jb ⟨h1,h2,rfl⟩ ht
 refine⟨fm',jm',S1,ap,hx,⟨bW hxl _,⟨fun h1 h2=>?_⟩,⟨fun h1 h2=>?_⟩,fun q hb hm=>?_,by rw[List.length_append,List.length_singleton]; omega⟩,⟨by rw[List.length_set]; exact g.len,fun q B hq h1 h2 h3=>hjn q B (g.old q B hq h3) h1,fun q hq=>.inl hq,g.new⟩⟩
 ·have ht:=hmt h1 h2
  exact hjn _ _ ht fun e=>by rw[e,hx]at ht; unfold lkB at ht; cases ht
 ·have ht:=g.rw.tok h1 h2
  exact hjn _ _ ht fun e=>by rw[e,hx]at ht; unfold lkB at ht; cases ht
 ·rcases g.new q hm with h1|h1
  ·exact h.ne q hb h1
  ·have:=bD (h.rb.tok hb.1 hb.2.1); have:=hb.2.2; omega
theorem aTz (p:Pg)(ib ik ir ic:Nat)(e:Ex)(hw:e.w≤1048576)(S:aA)(hc:S[ic]? = some (ckB p ib ik ir))(hcl:p.cs.length≤2000000)(kids:Int)(word:List UInt8)(is:Bool)(hs:ofF e.k e.n=⟨true,kids,false,word,is⟩)(h7:e.k≠7):aJb p ib ik ir ic e S (pK p e):=by
 have hwe:=Ex.w_eq e
 have hwl:=Ex.ws_len e.ks
 have h74:=aI7 e []
 rw[hs]at h74
 simp only[aTk]at h74
 have hlt:=bD hc
 have h119:=aDx
 have hk1:=bC.app [] S [aM.cells 86 false [.ptr ic 89 0]]
 have hk2:=hk1.trans (bC.app [] _ [aM.cells 154 false [.fn 89 [] []]])
 have hc1:(S++[aM.cells 86 false [.ptr ic 89 0]])[ic]? = some (ckB p ib ik ir):=iD hc _
 have hc2:(S++[aM.cells 86 false [.ptr ic 89 0]]++[aM.cells 154 false [.fn 89 [] []]])[ic]? = some (ckB p ib ik ir):=iD hc1 _
 have h120:=aI8 91 (fun v=>!decide (0≤v∧v<p.vr)) (S++[aM.cells 86 false [TV.ptr ic 89 0]]).length 154 S.length 86 e.gv e.vs (by omega) _ (fun x _=>aI9 p ib ik ir ic S.length (S++[aM.cells 86 false [.ptr ic 89 0]]).length x (S++[aM.cells 86 false [.ptr ic 89 0]]++[aM.cells 154 false [.fn 89 [] []]]) hc2 (fB ..) (cY ..))
 have hf:pK p e=(!(!is||decide ((e.ks.length:Int)<kids)||(decide (kids<e.ks.length)&&!false)||(!true&&decide (e.n≠0))||(decide (e.k≠7)&&(decide (0<e.vs.length)||e.r))||(e.r&&decide (e.vs.length=0)))&&zC p e):=by
  unfold pK aJa; rw[hs]
 rw[hf]
 clear hf hs
 unfold zC
 rw[aZ]at h74
 unfold aJb
 rw[aZ]
 generalize e.r=r at h74 ⊢
 cases is
 ·exact⟨_,aB K _ (fn:=t61) rfl rfl (by simp (config := { maxSteps := 4000000 }) (disch:=omega) only[t61,go_sem,h74,aL,Bool.true_or,Bool.or_true,Bool.false_or,Bool.or_false,Bool.true_and,Bool.false_and,Bool.and_true,Bool.and_false,Bool.not_true,Bool.not_false,aY]<;>simp (disch:=omega) only[go_sem,Bool.true_or,Bool.or_true,Bool.false_or,Bool.or_false,Bool.true_and,Bool.false_and,Bool.and_true,Bool.and_false,Bool.not_true,Bool.not_false,aY]),hk1⟩
 by_cases b1:(e.ks.length:Int)<kids
 ·exact⟨_,aB K _ (fn:=t61) rfl rfl (by simp (config := { maxSteps := 4000000 }) (disch:=omega) only[t61,go_sem,h74,aL,Bool.true_or,Bool.or_true,Bool.false_or,Bool.or_false,Bool.true_and,Bool.false_and,Bool.and_true,Bool.and_false,Bool.not_true,Bool.not_false,aY]<;>simp (disch:=omega) only[go_sem,Bool.true_or,Bool.or_true,Bool.false_or,Bool.or_false,Bool.true_and,Bool.false_and,Bool.and_true,Bool.and_false,Bool.not_true,Bool.not_false,aY]),hk1⟩
 by_cases b2:kids<(e.ks.length:Int)
 ·exact⟨_,aB K _ (fn:=t61) rfl rfl (by simp (config := { maxSteps := 4000000 }) (disch:=omega) only[t61,go_sem,h74,aL,Bool.true_or,Bool.or_true,Bool.false_or,Bool.or_false,Bool.true_and,Bool.false_and,Bool.and_true,Bool.and_false,Bool.not_true,Bool.not_false,aY]<;>simp (disch:=omega) only[go_sem,Bool.true_or,Bool.or_true,Bool.false_or,Bool.or_false,Bool.true_and,Bool.false_and,Bool.and_true,Bool.and_false,Bool.not_true,Bool.not_false,aY]),hk1⟩
 by_cases b4:0<e.vs.length
 ·exact⟨_,aB K _ (fn:=t61) rfl rfl (by simp (config := { maxSteps := 4000000 }) (disch:=omega) only[t61,go_sem,h74,aL,Bool.true_or,Bool.or_true,Bool.false_or,Bool.or_false,Bool.true_and,Bool.false_and,Bool.and_true,Bool.and_false,Bool.not_true,Bool.not_false,aY]<;>simp (disch:=omega) only[go_sem,Bool.true_or,Bool.or_true,Bool.false_or,Bool.or_false,Bool.true_and,Bool.false_and,Bool.and_true,Bool.and_false,Bool.not_true,Bool.not_false,aY]),hk1⟩
 cases r
 rotate_left
 ·exact⟨_,aB K _ (fn:=t61) rfl rfl (by simp (config := { maxSteps := 4000000 }) (disch:=omega) only[t61,go_sem,h74,aL,Bool.true_or,Bool.or_true,Bool.false_or,Bool.or_false,Bool.true_and,Bool.false_and,Bool.and_true,Bool.and_false,Bool.not_true,Bool.not_false,aY]<;>simp (disch:=omega) only[go_sem,Bool.true_or,Bool.or_true,Bool.false_or,Bool.or_false,Bool.true_and,Bool.false_and,Bool.and_true,Bool.and_false,Bool.not_true,Bool.not_false,aY]),hk1⟩
 by_cases k1:e.k=1
 ·exact⟨_,aB K _ (fn:=t61) rfl rfl (by simp (config := { maxSteps := 4000000 }) (disch:=omega) only[t61,go_sem,h74,aL,Bool.true_or,Bool.or_true,Bool.false_or,Bool.or_false,Bool.true_and,Bool.false_and,Bool.and_true,Bool.and_false,Bool.not_true,Bool.not_false,aY,hc1,hc2,cY,fB,gH,h119,h120,dF]<;>simp (disch:=omega) only[go_sem,Bool.true_or,Bool.or_true,Bool.false_or,Bool.or_false,Bool.true_and,Bool.false_and,Bool.and_true,Bool.and_false,Bool.not_true,Bool.not_false,aY]),hk2⟩
 by_cases k2:e.k=2
 ·exact⟨_,aB K _ (fn:=t61) rfl rfl (by simp (config := { maxSteps := 4000000 }) (disch:=omega) only[t61,go_sem,h74,aL,Bool.true_or,Bool.or_true,Bool.false_or,Bool.or_false,Bool.true_and,Bool.false_and,Bool.and_true,Bool.and_false,Bool.not_true,Bool.not_false,aY,hc1,hc2,cY,fB,gH,h119,h120]<;>simp (disch:=omega) only[go_sem,Bool.true_or,Bool.or_true,Bool.false_or,Bool.or_false,Bool.true_and,Bool.false_and,Bool.and_true,Bool.and_false,Bool.not_true,Bool.not_false,aY]),hk2⟩
 by_cases k4:e.k=4
 ·exact⟨_,aB K _ (fn:=t61) rfl rfl (by simp (config := { maxSteps := 4000000 }) (disch:=omega) only[t61,go_sem,h74,aL,Bool.true_or,Bool.or_true,Bool.false_or,Bool.or_false,Bool.true_and,Bool.false_and,Bool.and_true,Bool.and_false,Bool.not_true,Bool.not_false,aY,hc1,hc2,cY,fB,gH,h119,h120]<;>simp (disch:=omega) only[go_sem,Bool.true_or,Bool.or_true,Bool.false_or,Bool.or_false,Bool.true_and,Bool.false_and,Bool.and_true,Bool.and_false,Bool.not_true,Bool.not_false,aY]),hk2⟩
 by_cases k3:e.k=3
 ·exact⟨_,aB K _ (fn:=t61) rfl rfl (by simp (config := { maxSteps := 4000000 }) (disch:=omega) only[t61,go_sem,h74,aL,Bool.true_or,Bool.or_true,Bool.false_or,Bool.or_false,Bool.true_and,Bool.false_and,Bool.and_true,Bool.and_false,Bool.not_true,Bool.not_false,aY,hc1,hc2,cY,fB,gH,h119,h120]<;>simp (disch:=omega) only[go_sem,Bool.true_or,Bool.or_true,Bool.false_or,Bool.or_false,Bool.true_and,Bool.false_and,Bool.and_true,Bool.and_false,Bool.not_true,Bool.not_false,aY]),hk2⟩
 by_cases k5:e.k=5
 ·exact⟨_,aB K _ (fn:=t61) rfl rfl (by simp (config := { maxSteps := 4000000 }) (disch:=omega) only[t61,go_sem,h74,aL,Bool.true_or,Bool.or_true,Bool.false_or,Bool.or_false,Bool.true_and,Bool.false_and,Bool.and_true,Bool.and_false,Bool.not_true,Bool.not_false,aY,hc1,hc2,cY,fB,gH,h119,h120]<;>simp (disch:=omega) only[go_sem,Bool.true_or,Bool.or_true,Bool.false_or,Bool.or_false,Bool.true_and,Bool.false_and,Bool.and_true,Bool.and_false,Bool.not_true,Bool.not_false,aY]),hk2⟩
 exact⟨_,aB K _ (fn:=t61) rfl rfl (by simp (config := { maxSteps := 4000000 }) (disch:=omega) only[t61,go_sem,h74,aL,Bool.true_or,Bool.or_true,Bool.false_or,Bool.or_false,Bool.true_and,Bool.false_and,Bool.and_true,Bool.and_false,Bool.not_true,Bool.not_false,aY,hc1,hc2,cY,fB,gH,h119,h120]<;>simp (disch:=omega) only[go_sem,Bool.true_or,Bool.or_true,Bool.false_or,Bool.or_false,Bool.true_and,Bool.false_and,Bool.and_true,Bool.and_false,Bool.not_true,Bool.not_false,aY]),hk2⟩
theorem bEt (p:Pg)(ib ik ir ic:Nat)(e:Ex)(hw:e.w≤1048576)(S:aA)(hc:S[ic]? = some (ckB p ib ik ir))(hcl:p.cs.length≤2000000)(kids:Int)(word:List UInt8)(is:Bool)(hs:ofF e.k e.n=⟨false,kids,false,word,is⟩)(hk:e.k≠1∧e.k≠2∧e.k≠3∧e.k≠4∧e.k≠5):aJb p ib ik ir ic e S (pK p e):=by
 have hwe:=Ex.w_eq e
 have hwl:=Ex.ws_len e.ks
 have h74:=aI7 e []
 rw[hs]at h74
 simp only[aTk]at h74
 have hlt:=bD hc
 have h119:=aDx
 have hk1:=bC.app [] S [aM.cells 86 false [.ptr ic 89 0]]
 have hk2:=hk1.trans (bC.app [] _ [aM.cells 154 false [.fn 89 [] []]])
 have hc1:(S++[aM.cells 86 false [.ptr ic 89 0]])[ic]? = some (ckB p ib ik ir):=iD hc _
 have hc2:(S++[aM.cells 86 false [.ptr ic 89 0]]++[aM.cells 154 false [.fn 89 [] []]])[ic]? = some (ckB p ib ik ir):=iD hc1 _
 have h120:=aI8 91 (fun v=>!decide (0≤v∧v<p.vr)) (S++[aM.cells 86 false [TV.ptr ic 89 0]]).length 154 S.length 86 e.gv e.vs (by omega) _ (fun x _=>aI9 p ib ik ir ic S.length (S++[aM.cells 86 false [.ptr ic 89 0]]).length x (S++[aM.cells 86 false [.ptr ic 89 0]]++[aM.cells 154 false [.fn 89 [] []]]) hc2 (fB ..) (cY ..))
 have hf:pK p e=(!(!is||decide ((e.ks.length:Int)<kids)||(decide (kids<e.ks.length)&&!false)||(!false&&decide (e.n≠0))||(decide (e.k≠7)&&(decide (0<e.vs.length)||e.r))||(e.r&&decide (e.vs.length=0)))&&zC p e):=by
  unfold pK aJa; rw[hs]
 rw[hf]
 clear hf hs
 unfold zC
 rw[aZ]at h74
 unfold aJb
 rw[aZ]
 generalize e.r=r at h74 ⊢
 cases is
 ·exact⟨_,aB K _ (fn:=t61) rfl rfl (by simp (config := { maxSteps := 4000000 }) (disch:=omega) only[t61,go_sem,h74,aL,Bool.true_or,Bool.or_true,Bool.false_or,Bool.or_false,Bool.true_and,Bool.false_and,Bool.and_true,Bool.and_false,Bool.not_true,Bool.not_false,aY]<;>simp (disch:=omega) only[go_sem,Bool.true_or,Bool.or_true,Bool.false_or,Bool.or_false,Bool.true_and,Bool.false_and,Bool.and_true,Bool.and_false,Bool.not_true,Bool.not_false,aY]),hk1⟩
 by_cases b1:(e.ks.length:Int)<kids
 ·exact⟨_,aB K _ (fn:=t61) rfl rfl (by simp (config := { maxSteps := 4000000 }) (disch:=omega) only[t61,go_sem,h74,aL,Bool.true_or,Bool.or_true,Bool.false_or,Bool.or_false,Bool.true_and,Bool.false_and,Bool.and_true,Bool.and_false,Bool.not_true,Bool.not_false,aY]<;>simp (disch:=omega) only[go_sem,Bool.true_or,Bool.or_true,Bool.false_or,Bool.or_false,Bool.true_and,Bool.false_and,Bool.and_true,Bool.and_false,Bool.not_true,Bool.not_false,aY]),hk1⟩
 by_cases b2:kids<(e.ks.length:Int)
 ·exact⟨_,aB K _ (fn:=t61) rfl rfl (by simp (config := { maxSteps := 4000000 }) (disch:=omega) only[t61,go_sem,h74,aL,Bool.true_or,Bool.or_true,Bool.false_or,Bool.or_false,Bool.true_and,Bool.false_and,Bool.and_true,Bool.and_false,Bool.not_true,Bool.not_false,aY]<;>simp (disch:=omega) only[go_sem,Bool.true_or,Bool.or_true,Bool.false_or,Bool.or_false,Bool.true_and,Bool.false_and,Bool.and_true,Bool.and_false,Bool.not_true,Bool.not_false,aY]),hk1⟩
 by_cases b3:e.n=0
 rotate_left
 ·exact⟨_,aB K _ (fn:=t61) rfl rfl (by simp (config := { maxSteps := 4000000 }) (disch:=omega) only[t61,go_sem,h74,aL,Bool.true_or,Bool.or_true,Bool.false_or,Bool.or_false,Bool.true_and,Bool.false_and,Bool.and_true,Bool.and_false,Bool.not_true,Bool.not_false,aY]<;>simp (disch:=omega) only[go_sem,Bool.true_or,Bool.or_true,Bool.false_or,Bool.or_false,Bool.true_and,Bool.false_and,Bool.and_true,Bool.and_false,Bool.not_true,Bool.not_false,aY]),hk1⟩
 by_cases k7:e.k=7
 ·cases r
  ·exact⟨_,aB K _ (fn:=t61) rfl rfl (by simp (config := { maxSteps := 4000000 }) (disch:=omega) only[t61,go_sem,h74,aL,Bool.true_or,Bool.or_true,Bool.false_or,Bool.or_false,Bool.true_and,Bool.false_and,Bool.and_true,Bool.and_false,Bool.not_true,Bool.not_false,aY,hc1,hc2,cY,fB,gH,h119,h120]<;>simp (disch:=omega) only[go_sem,Bool.true_or,Bool.or_true,Bool.false_or,Bool.or_false,Bool.true_and,Bool.false_and,Bool.and_true,Bool.and_false,Bool.not_true,Bool.not_false,aY]),hk2⟩
  ·by_cases b5:e.vs.length=0
   ·exact⟨_,aB K _ (fn:=t61) rfl rfl (by simp (config := { maxSteps := 4000000 }) (disch:=omega) only[t61,go_sem,h74,aL,Bool.true_or,Bool.or_true,Bool.false_or,Bool.or_false,Bool.true_and,Bool.false_and,Bool.and_true,Bool.and_false,Bool.not_true,Bool.not_false,aY]<;>simp (disch:=omega) only[go_sem,Bool.true_or,Bool.or_true,Bool.false_or,Bool.or_false,Bool.true_and,Bool.false_and,Bool.and_true,Bool.and_false,Bool.not_true,Bool.not_false,aY]),hk1⟩
   ·exact⟨_,aB K _ (fn:=t61) rfl rfl (by simp (config := { maxSteps := 4000000 }) (disch:=omega) only[t61,go_sem,h74,aL,Bool.true_or,Bool.or_true,Bool.false_or,Bool.or_false,Bool.true_and,Bool.false_and,Bool.and_true,Bool.and_false,Bool.not_true,Bool.not_false,aY,hc1,hc2,cY,fB,gH,h119,h120]<;>simp (disch:=omega) only[go_sem,Bool.true_or,Bool.or_true,Bool.false_or,Bool.or_false,Bool.true_and,Bool.false_and,Bool.and_true,Bool.and_false,Bool.not_true,Bool.not_false,aY]),hk2⟩
 by_cases b4:0<e.vs.length
 ·exact⟨_,aB K _ (fn:=t61) rfl rfl (by simp (config := { maxSteps := 4000000 }) (disch:=omega) only[t61,go_sem,h74,aL,Bool.true_or,Bool.or_true,Bool.false_or,Bool.or_false,Bool.true_and,Bool.false_and,Bool.and_true,Bool.and_false,Bool.not_true,Bool.not_false,aY]<;>simp (disch:=omega) only[go_sem,Bool.true_or,Bool.or_true,Bool.false_or,Bool.or_false,Bool.true_and,Bool.false_and,Bool.and_true,Bool.and_false,Bool.not_true,Bool.not_false,aY]),hk1⟩
 cases r
 rotate_left
 ·exact⟨_,aB K _ (fn:=t61) rfl rfl (by simp (config := { maxSteps := 4000000 }) (disch:=omega) only[t61,go_sem,h74,aL,Bool.true_or,Bool.or_true,Bool.false_or,Bool.or_false,Bool.true_and,Bool.false_and,Bool.and_true,Bool.and_false,Bool.not_true,Bool.not_false,aY]<;>simp (disch:=omega) only[go_sem,Bool.true_or,Bool.or_true,Bool.false_or,Bool.or_false,Bool.true_and,Bool.false_and,Bool.and_true,Bool.and_false,Bool.not_true,Bool.not_false,aY]),hk1⟩
 exact⟨_,aB K _ (fn:=t61) rfl rfl (by simp (config := { maxSteps := 4000000 }) (disch:=omega) only[t61,go_sem,h74,aL,Bool.true_or,Bool.or_true,Bool.false_or,Bool.or_false,Bool.true_and,Bool.false_and,Bool.and_true,Bool.and_false,Bool.not_true,Bool.not_false,aY,hc1,hc2,cY,fB,gH,h119,h120]<;>simp (disch:=omega) only[go_sem,Bool.true_or,Bool.or_true,Bool.false_or,Bool.or_false,Bool.true_and,Bool.false_and,Bool.and_true,Bool.and_false,Bool.not_true,Bool.not_false,aY]),hk2⟩
theorem bEu (p:Pg)(ib ik ir ic:Nat)(e:Ex)(hw:e.w≤1048576)(S:aA)(hc:S[ic]? = some (ckB p ib ik ir))(hcl:p.cs.length≤2000000)(kids:Int)(word:List UInt8)(is:Bool)(hs:ofF e.k e.n=⟨false,kids,true,word,is⟩)(h7:e.k≠7)(hk:e.k≠1∧e.k≠2∧e.k≠3∧e.k≠4∧e.k≠5):aJb p ib ik ir ic e S (pK p e):=by
 have hwe:=Ex.w_eq e
 have hwl:=Ex.ws_len e.ks
 have h74:=aI7 e []
 rw[hs]at h74
 simp only[aTk]at h74
 have hlt:=bD hc
 have h119:=aDx
 have hk1:=bC.app [] S [aM.cells 86 false [.ptr ic 89 0]]
 have hk2:=hk1.trans (bC.app [] _ [aM.cells 154 false [.fn 89 [] []]])
 have hc1:(S++[aM.cells 86 false [.ptr ic 89 0]])[ic]? = some (ckB p ib ik ir):=iD hc _
 have hc2:(S++[aM.cells 86 false [.ptr ic 89 0]]++[aM.cells 154 false [.fn 89 [] []]])[ic]? = some (ckB p ib ik ir):=iD hc1 _
 have h120:=aI8 91 (fun v=>!decide (0≤v∧v<p.vr)) (S++[aM.cells 86 false [TV.ptr ic 89 0]]).length 154 S.length 86 e.gv e.vs (by omega) _ (fun x _=>aI9 p ib ik ir ic S.length (S++[aM.cells 86 false [.ptr ic 89 0]]).length x (S++[aM.cells 86 false [.ptr ic 89 0]]++[aM.cells 154 false [.fn 89 [] []]]) hc2 (fB ..) (cY ..))
 have hf:pK p e=(!(!is||decide ((e.ks.length:Int)<kids)||(decide (kids<e.ks.length)&&!true)||(!false&&decide (e.n≠0))||(decide (e.k≠7)&&(decide (0<e.vs.length)||e.r))||(e.r&&decide (e.vs.length=0)))&&zC p e):=by
  unfold pK aJa; rw[hs]
 rw[hf]
 clear hf hs
 unfold zC
 rw[aZ]at h74
 unfold aJb
 rw[aZ]
 generalize e.r=r at h74 ⊢
 cases is
 ·exact⟨_,aB K _ (fn:=t61) rfl rfl (by simp (config := { maxSteps := 4000000 }) (disch:=omega) only[t61,go_sem,h74,aL,Bool.true_or,Bool.or_true,Bool.false_or,Bool.or_false,Bool.true_and,Bool.false_and,Bool.and_true,Bool.and_false,Bool.not_true,Bool.not_false,aY]<;>simp (disch:=omega) only[go_sem,Bool.true_or,Bool.or_true,Bool.false_or,Bool.or_false,Bool.true_and,Bool.false_and,Bool.and_true,Bool.and_false,Bool.not_true,Bool.not_false,aY]),hk1⟩
 by_cases b1:(e.ks.length:Int)<kids
 ·exact⟨_,aB K _ (fn:=t61) rfl rfl (by simp (config := { maxSteps := 4000000 }) (disch:=omega) only[t61,go_sem,h74,aL,Bool.true_or,Bool.or_true,Bool.false_or,Bool.or_false,Bool.true_and,Bool.false_and,Bool.and_true,Bool.and_false,Bool.not_true,Bool.not_false,aY]<;>simp (disch:=omega) only[go_sem,Bool.true_or,Bool.or_true,Bool.false_or,Bool.or_false,Bool.true_and,Bool.false_and,Bool.and_true,Bool.and_false,Bool.not_true,Bool.not_false,aY]),hk1⟩
 by_cases b2:kids<(e.ks.length:Int)
 ·by_cases b3:e.n=0
  rotate_left
  ·exact⟨_,aB K _ (fn:=t61) rfl rfl (by simp (config := { maxSteps := 4000000 }) (disch:=omega) only[t61,go_sem,h74,aL,Bool.true_or,Bool.or_true,Bool.false_or,Bool.or_false,Bool.true_and,Bool.false_and,Bool.and_true,Bool.and_false,Bool.not_true,Bool.not_false,aY]<;>simp (disch:=omega) only[go_sem,Bool.true_or,Bool.or_true,Bool.false_or,Bool.or_false,Bool.true_and,Bool.false_and,Bool.and_true,Bool.and_false,Bool.not_true,Bool.not_false,aY]),hk1⟩
  by_cases b4:0<e.vs.length
  ·exact⟨_,aB K _ (fn:=t61) rfl rfl (by simp (config := { maxSteps := 4000000 }) (disch:=omega) only[t61,go_sem,h74,aL,Bool.true_or,Bool.or_true,Bool.false_or,Bool.or_false,Bool.true_and,Bool.false_and,Bool.and_true,Bool.and_false,Bool.not_true,Bool.not_false,aY]<;>simp (disch:=omega) only[go_sem,Bool.true_or,Bool.or_true,Bool.false_or,Bool.or_false,Bool.true_and,Bool.false_and,Bool.and_true,Bool.and_false,Bool.not_true,Bool.not_false,aY]),hk1⟩
  cases r
  rotate_left
  ·exact⟨_,aB K _ (fn:=t61) rfl rfl (by simp (config := { maxSteps := 4000000 }) (disch:=omega) only[t61,go_sem,h74,aL,Bool.true_or,Bool.or_true,Bool.false_or,Bool.or_false,Bool.true_and,Bool.false_and,Bool.and_true,Bool.and_false,Bool.not_true,Bool.not_false,aY]<;>simp (disch:=omega) only[go_sem,Bool.true_or,Bool.or_true,Bool.false_or,Bool.or_false,Bool.true_and,Bool.false_and,Bool.and_true,Bool.and_false,Bool.not_true,Bool.not_false,aY]),hk1⟩
  exact⟨_,aB K _ (fn:=t61) rfl rfl (by simp (config := { maxSteps := 4000000 }) (disch:=omega) only[t61,go_sem,h74,aL,Bool.true_or,Bool.or_true,Bool.false_or,Bool.or_false,Bool.true_and,Bool.false_and,Bool.and_true,Bool.and_false,Bool.not_true,Bool.not_false,aY,hc1,hc2,cY,fB,gH,h119,h120]<;>simp (disch:=omega) only[go_sem,Bool.true_or,Bool.or_true,Bool.false_or,Bool.or_false,Bool.true_and,Bool.false_and,Bool.and_true,Bool.and_false,Bool.not_true,Bool.not_false,aY]),hk2⟩
 by_cases b3:e.n=0
 rotate_left
 ·exact⟨_,aB K _ (fn:=t61) rfl rfl (by simp (config := { maxSteps := 4000000 }) (disch:=omega) only[t61,go_sem,h74,aL,Bool.true_or,Bool.or_true,Bool.false_or,Bool.or_false,Bool.true_and,Bool.false_and,Bool.and_true,Bool.and_false,Bool.not_true,Bool.not_false,aY]<;>simp (disch:=omega) only[go_sem,Bool.true_or,Bool.or_true,Bool.false_or,Bool.or_false,Bool.true_and,Bool.false_and,Bool.and_true,Bool.and_false,Bool.not_true,Bool.not_false,aY]),hk1⟩
 by_cases b4:0<e.vs.length
 ·exact⟨_,aB K _ (fn:=t61) rfl rfl (by simp (config := { maxSteps := 4000000 }) (disch:=omega) only[t61,go_sem,h74,aL,Bool.true_or,Bool.or_true,Bool.false_or,Bool.or_false,Bool.true_and,Bool.false_and,Bool.and_true,Bool.and_false,Bool.not_true,Bool.not_false,aY]<;>simp (disch:=omega) only[go_sem,Bool.true_or,Bool.or_true,Bool.false_or,Bool.or_false,Bool.true_and,Bool.false_and,Bool.and_true,Bool.and_false,Bool.not_true,Bool.not_false,aY]),hk1⟩
 cases r
 rotate_left
 ·exact⟨_,aB K _ (fn:=t61) rfl rfl (by simp (config := { maxSteps := 4000000 }) (disch:=omega) only[t61,go_sem,h74,aL,Bool.true_or,Bool.or_true,Bool.false_or,Bool.or_false,Bool.true_and,Bool.false_and,Bool.and_true,Bool.and_false,Bool.not_true,Bool.not_false,aY]<;>simp (disch:=omega) only[go_sem,Bool.true_or,Bool.or_true,Bool.false_or,Bool.or_false,Bool.true_and,Bool.false_and,Bool.and_true,Bool.and_false,Bool.not_true,Bool.not_false,aY]),hk1⟩
 exact⟨_,aB K _ (fn:=t61) rfl rfl (by simp (config := { maxSteps := 4000000 }) (disch:=omega) only[t61,go_sem,h74,aL,Bool.true_or,Bool.or_true,Bool.false_or,Bool.or_false,Bool.true_and,Bool.false_and,Bool.and_true,Bool.and_false,Bool.not_true,Bool.not_false,aY,hc1,hc2,cY,fB,gH,h119,h120]<;>simp (disch:=omega) only[go_sem,Bool.true_or,Bool.or_true,Bool.false_or,Bool.or_false,Bool.true_and,Bool.false_and,Bool.and_true,Bool.and_false,Bool.not_true,Bool.not_false,aY]),hk2⟩
theorem bEv (p:Pg)(ib ik ir ic:Nat)(e:Ex)(hw:e.w≤1048576)(S:aA)(hc:S[ic]? = some (ckB p ib ik ir))(hcl:p.cs.length≤2000000):aJb p ib ik ir ic e S (pK p e):=by
 have hs:∃num kids more word is,ofF e.k e.n=⟨num,kids,more,word,is⟩:=⟨_,_,_,_,_,rfl⟩
 obtain⟨num,kids,more,word,is,hs⟩:=hs
 by_cases a:e.k=1∨e.k=2∨e.k=3∨e.k=4∨e.k=5∨e.k=9
 ·have h1:num=true∧more=false:=by
   unfold ofF at hs
   rcases a with a|a|a|a|a|a<;>rw[a]at hs<;>simp at hs<;>(first|exact⟨hs.1.symm,hs.2.2.1.symm⟩|exact⟨hs.1,hs.2.2.1⟩|exact⟨hs.1,hs.2.2.1.symm⟩|exact⟨hs.1.symm,hs.2.2.1⟩)
  obtain⟨rfl,rfl⟩:=h1
  exact aTz p ib ik ir ic e hw S hc hcl kids word is hs (by omega)
 by_cases b:e.k=8∨e.k=10
 ·have h1:num=false∧more=true:=by
   unfold ofF at hs
   rcases b with a|a<;>rw[a]at hs<;>simp at hs<;>(first|exact⟨hs.1.symm,hs.2.2.1.symm⟩|exact⟨hs.1,hs.2.2.1⟩|exact⟨hs.1,hs.2.2.1.symm⟩|exact⟨hs.1.symm,hs.2.2.1⟩)
  obtain⟨rfl,rfl⟩:=h1
  exact bEu p ib ik ir ic e hw S hc hcl kids word is hs (by omega) (by omega)
 by_cases c:e.k=11∧¬(e.n<0∨2<e.n)
 ·have h1:num=true∧more=false:=by
   unfold ofF at hs
   rw[c.1]at hs
   simp only[Int.reduceEq,↓reduceIte,if_neg c.2,Shp.mk.injEq]at hs
   (first|exact⟨hs.1.symm,hs.2.2.1.symm⟩|exact⟨hs.1,hs.2.2.1⟩|exact⟨hs.1,hs.2.2.1.symm⟩|exact⟨hs.1.symm,hs.2.2.1⟩)
  obtain⟨rfl,rfl⟩:=h1
  exact aTz p ib ik ir ic e hw S hc hcl kids word is hs (by omega)
 ·have h1:num=false∧more=false:=by
   unfold ofF at hs
   have e1:e.k≠1:=by omega
   have e2:e.k≠2:=by omega
   have e3:e.k≠3:=by omega
   have e4:e.k≠4:=by omega
   have e5:e.k≠5:=by omega
   have e8:e.k≠8:=by omega
   have e9:e.k≠9:=by omega
   have e10:e.k≠10:=by omega
   simp only[e1,e2,e3,e4,e5,e8,e9,e10,↓reduceIte]at hs
   by_cases e6:e.k=6
   ·simp[e6]at hs; (first|exact⟨hs.1.symm,hs.2.2.1.symm⟩|exact⟨hs.1,hs.2.2.1⟩|exact⟨hs.1,hs.2.2.1.symm⟩|exact⟨hs.1.symm,hs.2.2.1⟩)
   by_cases e7:e.k=7
   ·simp[e7]at hs; (first|exact⟨hs.1.symm,hs.2.2.1.symm⟩|exact⟨hs.1,hs.2.2.1⟩|exact⟨hs.1,hs.2.2.1.symm⟩|exact⟨hs.1.symm,hs.2.2.1⟩)
   by_cases e11:e.k=11
   ·have hn:e.n<0∨2<e.n:=by
     rcases Classical.em (e.n<0∨2<e.n) with h|h
     ·exact h
     ·exact absurd ⟨e11,h⟩ c
    simp[e11,hn]at hs; (first|exact⟨hs.1.symm,hs.2.2.1.symm⟩|exact⟨hs.1,hs.2.2.1⟩|exact⟨hs.1,hs.2.2.1.symm⟩|exact⟨hs.1.symm,hs.2.2.1⟩)
   by_cases e12:e.k=12
   ·simp[e12]at hs; (first|exact⟨hs.1.symm,hs.2.2.1.symm⟩|exact⟨hs.1,hs.2.2.1⟩|exact⟨hs.1,hs.2.2.1.symm⟩|exact⟨hs.1.symm,hs.2.2.1⟩)
   by_cases e13:e.k=13
   ·simp[e13]at hs; (first|exact⟨hs.1.symm,hs.2.2.1.symm⟩|exact⟨hs.1,hs.2.2.1⟩|exact⟨hs.1,hs.2.2.1.symm⟩|exact⟨hs.1.symm,hs.2.2.1⟩)
   by_cases e14:e.k=14
   ·simp[e14]at hs; (first|exact⟨hs.1.symm,hs.2.2.1.symm⟩|exact⟨hs.1,hs.2.2.1⟩|exact⟨hs.1,hs.2.2.1.symm⟩|exact⟨hs.1.symm,hs.2.2.1⟩)
   simp[e6,e7,e11,e12,e13,e14]at hs; (first|exact⟨hs.1.symm,hs.2.2.1.symm⟩|exact⟨hs.1,hs.2.2.1⟩|exact⟨hs.1,hs.2.2.1.symm⟩|exact⟨hs.1.symm,hs.2.2.1⟩)
  obtain⟨rfl,rfl⟩:=h1
  exact bEt p ib ik ir ic e hw S hc hcl kids word is hs (by omega)
theorem CkS.putC {p:Pg}{ic ib ik ir:Nat}{S:aA}{B C A:List Int}(h:CkS p ic ib ik ir S B C A){lc:List (Nat×Int×Int)}{cc:Nat}(c1:S[ik]? = some (.mp (mpR kX lc) cc))(c2:∀v,uZ lc v=if v∈C then 1 else 0)(k:Int) :
  CkS p ic ib ik ir (S.set ik (.mp (mpR kX (gU lc cc k 1)) (wH lc cc k))) B (k::C) A:=by
 refine⟨h.cb,h.ck,h.cr,h.bk,h.br,h.kr,?_,h.b.keep (bK (Ne.symm h.bk) _),gI.put c1 c2 k,h.a.keep (bK h.kr _),h.sub⟩
 rw[bK (Ne.symm h.ck)]; exact h.at'
theorem aD2 {N:Nat}(p:Pg)(ic ib ik ir:Nat)(ih:aTn p ic ib ik ir N)(e:Ex)(hw:e.w≤N+1)(hN:N+1≤1048576)(depth:Nat)(hd:depth<4000)(A B1 C1:List Int)(hB:∀v∈e.vs,v∉A)(x1 x3 x5 x6 x7 x8 x9 x10 x11 x12 x13 x14 x15 x16 x17 x18 x22 x23 x24 x25 x26 x27:TV)(S:aA)(hs:CkS p ic ib ik ir S B1 C1 (e.vs++A)) :
  ∃j r y6 y7 y21 y22 y23 S2,(j=.ret∧r=.iv (.int .i64 (lC p e.ks (depth+1) B1 C1 (e.vs++A)).1)∧(lC p e.ks (depth+1) B1 C1 (e.vs++A)).1≠0∧bC [ib,ik,ir] S S2 ∨
    j=.exit 3∧r=.iv (.int .i64 0)∧(lC p e.ks (depth+1) B1 C1 (e.vs++A)).1=0∧∃(y8 y27:TV) (S3:aA),CkS p ic ib ik ir S3 (lC p e.ks (depth+1) B1 C1 (e.vs++A)).2.1 (lC p e.ks (depth+1) B1 C1 (e.vs++A)).2.2 A∧bC [ib,ik,ir] S S3 ∧
     lp' (lim K) t36L0 [.ptr ic 89 0,x1,.iv (.int .i64 depth),x3,.iv (.int .i64 0),x5,y6,y7,x8,x9,x10,x11,x12,x13,x14,x15,x16,x17,x18,.iv (.sl e.g (bS e.ks)),.iv (.int .i64 e.ks.length),y21,y22,y23,.iv (.sl e.gv (TM.one (.int .i64) e.vs)),.iv (.int .i64 e.vs.length),.iv (.int .i64 0),x27] S2
      = .ret (.exit 5,[.ptr ic 89 0,x1,.iv (.int .i64 depth),x3,.iv (.int .i64 0),x5,y6,y7,y8,x9,x10,x11,x12,x13,x14,x15,x16,x17,x18,.iv (.sl e.g (bS e.ks)),.iv (.int .i64 e.ks.length),y21,y22,y23,.iv (.sl e.gv (TM.one (.int .i64) e.vs)),.iv (.int .i64 e.vs.length),.iv (.int .i64 e.vs.length),y27],S3)) ∧
   lp' (lim K) t36L1 [.ptr ic 89 0,x1,.iv (.int .i64 depth),x3,.iv (.int .i64 0),x5,x6,x7,x8,x9,x10,x11,x12,x13,x14,x15,x16,x17,x18,.iv (.sl e.g (bS e.ks)),.iv (.int .i64 e.ks.length),.iv (.int .i64 0),x22,x23,x24,x25,x26,x27] S
    = .ret (j,[.ptr ic 89 0,x1,.iv (.int .i64 depth),x3,r,x5,y6,y7,x8,x9,x10,x11,x12,x13,x14,x15,x16,x17,x18,.iv (.sl e.g (bS e.ks)),.iv (.int .i64 e.ks.length),y21,y22,y23,x24,x25,x26,x27],S2):=by
 have hwe:=Ex.w_eq e
 obtain⟨j,r,y6,y7,y21,y22,y23,S2,hj,hk,l1⟩:=aM1 p ic ib ik ir ih e hw hN depth hd (e.vs++A) x1 x3 (.iv (.int .i64 0)) x5 x8 x9 x10 x11 x12 x13 x14 x15 x16 x17 x18 x24 x25 x26 x27 e.ks.length 0 x6 x7 x22 x23 S B1 C1 (by omega) hs
 rw[show ((0:Nat):Int)=0 from rfl]at l1
 rw[List.drop_zero]at hj
 refine⟨j,r,y6,y7,y21,y22,y23,S2,?_,l1⟩
 rcases hj with⟨h1,h2,h3⟩|⟨h1,h2,h3,h4⟩
 ·exact .inl ⟨h1,h2,h3,hk⟩
 ·obtain⟨y8,y27,S3,h5,hk2,l2⟩:=aM0 p ic ib ik ir e (by omega) _ _ x1 (.iv (.int .i64 depth)) x3 (.iv (.int .i64 0)) x5 y6 y7 x9 x10 x11 x12 x13 x14 x15 x16 x17 x18 (.iv (.sl e.g (bS e.ks))) (.iv (.int .i64 e.ks.length)) y21 y22 y23 e.vs.length 0 x8 x27 S2 _ (by omega) h4
  rw[show ((0:Nat):Int)=0 from rfl]at l2
  rw[List.drop_zero]at h5
  refine .inr ⟨h1,h2,h3,y8,y27,S3,h5 A (fun v=>?_),hk.trans hk2,l2⟩
  simp only[List.mem_append]
  constructor
  ·exact fun hv=>⟨.inr hv,fun hm=>hB v hm hv⟩
  ·rintro⟨h|h,h'⟩
   ·exact absurd h h'
   ·exact h
theorem zF (p:Pg)(hp:p.cs.length≤2000000)(ic ib ik ir:Nat):∀N,N≤1048576→aTn p ic ib ik ir N
 | 0,hN=>fun e depth S B C A hw hd hs=>by have:=Ex.w_eq e; omega
 | N+1,hN=>fun e depth S B C A hw hd hs=>by
  have hwe:=Ex.w_eq e
  rw[aTm]
  by_cases hdp:4000≤depth
  ·rw[if_pos hdp]
   refine⟨S,aB K _ (fn:=t36) rfl rfl ?_,.refl _ _,fun h=>absurd h (by decide:¬((5:Int)=0))⟩
   rw[aZ]
   simp (config := { maxSteps := 4000000 }) (disch:=omega) only[t36,go_sem]
  rw[if_neg hdp]
  obtain⟨S1,h87,hk1⟩:=bEv p ib ik ir ic e (by omega) S hs.at' hp
  rw[aZ]at h87
  have hs1:=hs.keep hk1
  have hkk:bC [ib,ik,ir] S S1:=hk1.mono (by simp)
  cases hf:pK p e with
  | false =>
   rw[if_pos rfl]
   rw[hf]at h87
   refine⟨S1,aB K _ (fn:=t36) rfl rfl ?_,hkk,fun h=>absurd h (by decide:¬((4:Int)=0))⟩
   rw[aZ]
   simp (config := { maxSteps := 4000000 }) (disch:=omega) only[t36,go_sem,h87]
  | true =>
   rw[if_neg (by decide)]
   rw[hf]at h87
   obtain⟨j,r,y5,y13,y14,y15,S2,hj,hk2,l2⟩:=aMz p ic ib ik ir e (by omega) C (.iv (.agg (eT e))) (.iv (.int .i64 depth)) (lbE e) (.iv (.int .i64 0)) u_ u_ u_ (.iv (.bool false)) (.iv (.bool false)) u_ u_ u_ u_ u_ u_ u_ u_ u_ u_ u_ u_ e.vs.length 0 u_ u_ u_ S1 B A (by omega) hs1
   rw[show ((0:Nat):Int)=0 from rfl]at l2
   rw[List.drop_zero]at hj
   rcases hj with⟨rfl,rfl,ha⟩|⟨rfl,rfl,B1,ha,hs2⟩
   ·rw[ha]
    refine⟨S2,aB K _ (fn:=t36) rfl rfl ?_,hkk.trans hk2,fun h=>absurd h (by decide:¬((14:Int)=0))⟩
    rw[aZ]at l2 ⊢
    simp (config := { maxSteps := 4000000 }) (disch:=omega) only[t36,go_sem,h87]
    rw[l2]
    simp (config := { maxSteps := 4000000 }) (disch:=omega) only[go_sem]
   ·rw[ha]
    simp only
    obtain⟨m1,m2,m3⟩:=zD ha
    have hs2':CkS p ic ib ik ir S2 B1 C (e.vs++A):=hs2.congrA (fun v=>by simp)
    have hB:∀v∈e.vs,v∉A:=fun v hv hA=>m2 v hv (hs.sub v hA)
    obtain⟨lc,cc,c1,c2⟩:=hs2'.c
    obtain⟨la,ca,a1,a2⟩:=hs2'.a
    have hat:=hs2'.at'
    have c2n:=c2 e.n
    have a2n:=a2 e.n
    have n1:=hs.cb
    have n2:=hs.ck
    have n3:=hs.cr
    have n4:=hs.bk
    have n5:=hs.br
    have n6:=hs.kr
    by_cases hk1:e.k=1
    ·by_cases hm:e.n∈C
     ·rw[if_pos ⟨hk1,hm⟩]
      rw[if_pos hm]at c2n
      refine⟨S2,aB K _ (fn:=t36) rfl rfl ?_,hkk.trans hk2,fun h=>absurd h (by decide:¬((14:Int)=0))⟩
      rw[aZ]at l2 ⊢
      simp (config := { maxSteps := 4000000 }) (disch:=omega) only[t36,go_sem,h87]
      rw[l2]
      simp (config := { maxSteps := 4000000 }) (disch:=omega) only[go_sem,hat,c1,c2n]
     ·rw[if_neg (fun h=>hm h.2),if_neg (by omega),if_pos hk1]
      rw[if_neg hm]at c2n
      have hs3:=hs2'.putC c1 c2 e.n
      obtain⟨j,r,y6,y7,y21,y22,y23,S4,hj,l3⟩:=aD2 p ic ib ik ir (zF p hp ic ib ik ir N (by omega)) e hw hN depth (by omega) A B1 (e.n::C) hB (.iv (.agg (eT e))) (lbE e) y5 u_ u_ u_ (.iv (.bool false)) (.iv (.bool false)) (.iv (.sl e.gv (TM.one (.int .i64) e.vs))) (.iv (.int .i64 e.vs.length)) y13 y14 y15 (.iv (.bool true)) (.iv (.bool false)) (.iv (.bool false)) u_ u_ u_ u_ u_ u_ _ hs3
      rcases hj with⟨rfl,rfl,hne,hk4⟩|⟨rfl,rfl,h0,y8,y27,S5,hs5,hk5,l5⟩
      ·refine⟨S4,aB K _ (fn:=t36) rfl rfl ?_,(hkk.trans hk2).trans ((bC.set _ (by simp) _).trans hk4),fun h=>absurd h hne⟩
       rw[aZ]at l2 l3 ⊢
       simp (config := { maxSteps := 4000000 }) (disch:=omega) only[t36,go_sem,h87]
       rw[l2]
       simp (config := { maxSteps := 4000000 }) (disch:=omega) only[go_sem,hat,c1,c2n,aL]
       rw[l3]
       simp (config := { maxSteps := 4000000 }) (disch:=omega) only[go_sem]
      ·refine⟨S5,aB K _ (fn:=t36) rfl rfl ?_,(hkk.trans hk2).trans ((bC.set _ (by simp) _).trans hk5),fun _=>hs5⟩
       rw[h0]
       rw[aZ]at l2 l3 l5 ⊢
       simp (config := { maxSteps := 4000000 }) (disch:=omega) only[t36,go_sem,h87]
       rw[l2]
       simp (config := { maxSteps := 4000000 }) (disch:=omega) only[go_sem,hat,c1,c2n,aL]
       rw[l3]
       simp (config := { maxSteps := 4000000 }) (disch:=omega) only[go_sem]
       rw[l5]
       simp (config := { maxSteps := 4000000 }) (disch:=omega) only[go_sem]
    ·rw[if_neg (fun h=>hk1 h.1),if_neg hk1]
     by_cases hk24:e.k=2∨e.k=4
     ·by_cases hm:e.n∈e.vs++A
      ·rw[if_neg (fun h=>h.2 hm)]
       rw[if_pos hm]at a2n
       rcases hk24 with hk24|hk24
       ·obtain⟨j,r,y6,y7,y21,y22,y23,S4,hj,l3⟩:=aD2 p ic ib ik ir (zF p hp ic ib ik ir N (by omega)) e hw hN depth (by omega) A B1 C hB (.iv (.agg (eT e))) (lbE e) y5 u_ u_ u_ (.iv (.bool false)) (.iv (.bool false)) (.iv (.sl e.gv (TM.one (.int .i64) e.vs))) (.iv (.int .i64 e.vs.length)) y13 y14 y15 (.iv (.bool false)) u_ (.iv (.bool false)) u_ u_ u_ u_ u_ u_ _ hs2'
        rcases hj with⟨rfl,rfl,hne,hk4⟩|⟨rfl,rfl,h0,y8,y27,S5,hs5,hk5,l5⟩
        ·refine⟨S4,aB K _ (fn:=t36) rfl rfl ?_,(hkk.trans hk2).trans hk4,fun h=>absurd h hne⟩
         rw[aZ]at l2 l3 ⊢
         simp (config := { maxSteps := 4000000 }) (disch:=omega) only[t36,go_sem,h87]
         rw[l2]
         simp (config := { maxSteps := 4000000 }) (disch:=omega) only[go_sem,hat,aL,a1,a2n]
         rw[l3]
         simp (config := { maxSteps := 4000000 }) (disch:=omega) only[go_sem]
        ·refine⟨S5,aB K _ (fn:=t36) rfl rfl ?_,(hkk.trans hk2).trans hk5,fun _=>hs5⟩
         rw[h0]
         rw[aZ]at l2 l3 l5 ⊢
         simp (config := { maxSteps := 4000000 }) (disch:=omega) only[t36,go_sem,h87]
         rw[l2]
         simp (config := { maxSteps := 4000000 }) (disch:=omega) only[go_sem,hat,aL,a1,a2n]
         rw[l3]
         simp (config := { maxSteps := 4000000 }) (disch:=omega) only[go_sem]
         rw[l5]
         simp (config := { maxSteps := 4000000 }) (disch:=omega) only[go_sem]
       ·obtain⟨j,r,y6,y7,y21,y22,y23,S4,hj,l3⟩:=aD2 p ic ib ik ir (zF p hp ic ib ik ir N (by omega)) e hw hN depth (by omega) A B1 C hB (.iv (.agg (eT e))) (lbE e) y5 u_ u_ u_ (.iv (.bool false)) (.iv (.bool false)) (.iv (.sl e.gv (TM.one (.int .i64) e.vs))) (.iv (.int .i64 e.vs.length)) y13 y14 y15 (.iv (.bool false)) u_ (.iv (.bool false)) u_ u_ u_ u_ u_ u_ _ hs2'
        rcases hj with⟨rfl,rfl,hne,hk4⟩|⟨rfl,rfl,h0,y8,y27,S5,hs5,hk5,l5⟩
        ·refine⟨S4,aB K _ (fn:=t36) rfl rfl ?_,(hkk.trans hk2).trans hk4,fun h=>absurd h hne⟩
         rw[aZ]at l2 l3 ⊢
         simp (config := { maxSteps := 4000000 }) (disch:=omega) only[t36,go_sem,h87]
         rw[l2]
         simp (config := { maxSteps := 4000000 }) (disch:=omega) only[go_sem,hat,aL,a1,a2n]
         rw[l3]
         simp (config := { maxSteps := 4000000 }) (disch:=omega) only[go_sem]
        ·refine⟨S5,aB K _ (fn:=t36) rfl rfl ?_,(hkk.trans hk2).trans hk5,fun _=>hs5⟩
         rw[h0]
         rw[aZ]at l2 l3 l5 ⊢
         simp (config := { maxSteps := 4000000 }) (disch:=omega) only[t36,go_sem,h87]
         rw[l2]
         simp (config := { maxSteps := 4000000 }) (disch:=omega) only[go_sem,hat,aL,a1,a2n]
         rw[l3]
         simp (config := { maxSteps := 4000000 }) (disch:=omega) only[go_sem]
         rw[l5]
         simp (config := { maxSteps := 4000000 }) (disch:=omega) only[go_sem]
      ·rw[if_pos ⟨hk24,hm⟩]
       rw[if_neg hm]at a2n
       refine⟨S2,aB K _ (fn:=t36) rfl rfl ?_,hkk.trans hk2,fun h=>absurd h (by decide:¬((6:Int)=0))⟩
       rw[aZ]at l2 ⊢
       rcases hk24 with hk24|hk24
       ·simp (config := { maxSteps := 4000000 }) (disch:=omega) only[t36,go_sem,h87]
        rw[l2]
        simp (config := { maxSteps := 4000000 }) (disch:=omega) only[go_sem,hat,a1,a2n]
       ·simp (config := { maxSteps := 4000000 }) (disch:=omega) only[t36,go_sem,h87]
        rw[l2]
        simp (config := { maxSteps := 4000000 }) (disch:=omega) only[go_sem,hat,a1,a2n]
     ·rw[if_neg (fun h=>hk24 h.1)]
      have hk2':e.k≠2:=fun h=>hk24 (.inl h)
      have hk4':e.k≠4:=fun h=>hk24 (.inr h)
      obtain⟨j,r,y6,y7,y21,y22,y23,S4,hj,l3⟩:=aD2 p ic ib ik ir (zF p hp ic ib ik ir N (by omega)) e hw hN depth (by omega) A B1 C hB (.iv (.agg (eT e))) (lbE e) y5 u_ u_ u_ (.iv (.bool false)) (.iv (.bool false)) (.iv (.sl e.gv (TM.one (.int .i64) e.vs))) (.iv (.int .i64 e.vs.length)) y13 y14 y15 (.iv (.bool false)) u_ (.iv (.bool false)) u_ u_ u_ u_ u_ u_ _ hs2'
      rcases hj with⟨rfl,rfl,hne,hk4⟩|⟨rfl,rfl,h0,y8,y27,S5,hs5,hk5,l5⟩
      ·refine⟨S4,aB K _ (fn:=t36) rfl rfl ?_,(hkk.trans hk2).trans hk4,fun h=>absurd h hne⟩
       rw[aZ]at l2 l3 ⊢
       simp (config := { maxSteps := 4000000 }) (disch:=omega) only[t36,go_sem,h87]
       rw[l2]
       simp (config := { maxSteps := 4000000 }) (disch:=omega) only[go_sem,hat,aL]
       rw[l3]
       simp (config := { maxSteps := 4000000 }) (disch:=omega) only[go_sem]
      ·refine⟨S5,aB K _ (fn:=t36) rfl rfl ?_,(hkk.trans hk2).trans hk5,fun _=>hs5⟩
       rw[h0]
       rw[aZ]at l2 l3 l5 ⊢
       simp (config := { maxSteps := 4000000 }) (disch:=omega) only[t36,go_sem,h87]
       rw[l2]
       simp (config := { maxSteps := 4000000 }) (disch:=omega) only[go_sem,hat,aL]
       rw[l3]
       simp (config := { maxSteps := 4000000 }) (disch:=omega) only[go_sem]
       rw[l5]
       simp (config := { maxSteps := 4000000 }) (disch:=omega) only[go_sem]
theorem aT0 (p:Pg)(hp:p.b.w≤1048576∧Dt.ws p.cs≤1048576)(x0 x1 x4 x5:TV)(S:aA):∀(k i:Nat) (x3 x9 x10:TV),i+k=p.cs.length →
  ∃j r y3 y8 y9 y10,(j=.ret∧r=.iv (.int .i64 2)∧((p.cs.drop i).all fun d=>kZ d&&plF d)=false∨j=.exit 0∧r=.iv (.int .i64 0)∧((p.cs.drop i).all fun d=>kZ d&&plF d)=true) ∧
   lp' (lim K) t11L0 [x0,x1,.iv (.int .i64 0),x3,x4,x5,.iv (.sl p.gc (eW p.cs)),.iv (.int .i64 p.cs.length),.iv (.int .i64 (i:Int)),x9,x10] S=.ret (j,[x0,x1,r,y3,x4,x5,.iv (.sl p.gc (eW p.cs)),.iv (.int .i64 p.cs.length),y8,y9,y10],S)
 | 0,i,x3,x9,x10,h=>by
  obtain rfl:i=p.cs.length:=by omega
  refine⟨.exit 0,.iv (.int .i64 0),?_,?_,?_,?_,.inr ⟨rfl,rfl,by rw[List.drop_length]; rfl⟩,aN K _ _ t11L0.eq_1 ?_⟩
  rotate_left 4
  ·simp (config := { maxSteps := 4000000 }) (disch:=omega) only[go_sem]
   rfl
 | k+1,i,x3,x9,x10,h=>by
  have hpw:=hp
  have hla:i<p.cs.length:=by omega
  have hwl:=Dt.ws_len p.cs
  have hix:=ixD (g:=p.gc) (ks:=p.cs) (i:=(i:Int)) (by omega)
  rw[Int.toNat_natCast]at hix
  have hdr:=kD hla
  have hxw:=Dt.ws_mem (oG hla)
  generalize hx:p.cs.getD i default=x at *
  have hm:=aTe 1048576 (by omega) x (by omega)
  have hq:=aTh 1048576 (by omega) x (by omega)
  rw[dI]at hm hq
  cases h1:kZ x with
  | false =>
   rw[h1]at hm
   refine⟨.ret,.iv (.int .i64 2),?_,?_,?_,?_,.inl ⟨rfl,rfl,by rw[hdr,List.all_cons,h1,Bool.false_and,Bool.false_and]⟩,aN K _ _ t11L0.eq_1 ?_⟩
   rotate_left 4
   ·simp (config := { maxSteps := 4000000 }) (disch:=omega) only[go_sem,hix,tG,aQ hm]
    rfl
  | true =>
   rw[h1]at hm
   cases h2:plF x with
   | false =>
    rw[h2]at hq
    refine⟨.ret,.iv (.int .i64 2),?_,?_,?_,?_,.inl ⟨rfl,rfl,by rw[hdr,List.all_cons,h1,h2,Bool.true_and,Bool.false_and]⟩,aN K _ _ t11L0.eq_1 ?_⟩
    rotate_left 4
    ·simp (config := { maxSteps := 4000000 }) (disch:=omega) only[go_sem,hix,tG,aQ hm,aQ hq]
     rfl
   | true =>
    rw[h2]at hq
    obtain⟨j,r,y3,y8,y9,y10,hj,ih⟩:=aT0 p hp x0 x1 x4 x5 S k (i+1) (aTb x) (.iv (.bool true)) (.iv (.bool false)) (by omega)
    rw[show ((i+1:Nat):Int)=(i:Int)+1 by omega]at ih
    refine⟨j,r,y3,y8,y9,y10,?_,aN K _ _ t11L0.eq_1 ?_⟩
    ·rw[hdr,List.all_cons,h1,h2,Bool.true_and,Bool.true_and]; exact hj
    ·simp (config := { maxSteps := 4000000 }) (disch:=omega) only[go_sem,hix,tG,aQ hm,aQ hq,aF]
     exact congrArg er ih
def xX (p:Pg):Int:=if p.gl<0∨20000<p.gl∨p.vr<0 then 2 else if (p.cs.all fun d=>kZ d&&plF d)=false then 2 else (chk p p.b 0 [] [] []).1
theorem aJg (p:Pg)(hp:p.b.w≤1048576∧Dt.ws p.cs≤1048576):TM.Pure K 11 [.iv (.agg (mZ p))] (.iv (.int .i64 (xX p))):=by
 have hpw:=hp
 have hwl:=Dt.ws_len p.cs
 unfold xX
 by_cases hg:p.gl<0∨20000<p.gl∨p.vr<0
 ·rw[if_pos hg]
  refine cJ (S:=[]) (r:=.iv (.int .i64 2)) (aB K _ (fn:=t11) rfl rfl ?_) (by rw[bQ])
  unfold mZ
  by_cases g1:p.gl<0
  ·simp (config := { maxSteps := 4000000 }) (disch:=omega) only[t11,go_sem]
  ·by_cases g0:20000<p.gl
   ·simp (config := { maxSteps := 4000000 }) (disch:=omega) only[t11,go_sem]
   ·simp (config := { maxSteps := 4000000 }) (disch:=omega) only[t11,go_sem]
 rw[if_neg hg]
 obtain⟨j,r,y3,y8,y9,y10,hj,ih⟩:=aT0 p hp (.iv (.agg (mZ p))) (lbP p) u_ (.iv (.bool false)) [] p.cs.length 0 u_ u_ u_ (by omega)
 rw[show ((0:Nat):Int)=0 from rfl]at ih
 rw[List.drop_zero]at hj
 rcases hj with⟨rfl,rfl,ha⟩|⟨rfl,rfl,ha⟩
 ·rw[if_pos ha]
  refine cJ (S:=[]) (r:=.iv (.int .i64 2)) (aB K _ (fn:=t11) rfl rfl ?_) (by rw[bQ])
  unfold mZ at ih ⊢
  simp (config := { maxSteps := 4000000 }) (disch:=omega) only[t11,go_sem,dF]
  rw[ih]
  simp (config := { maxSteps := 4000000 }) (disch:=omega) only[go_sem]
 ·rw[if_neg (by rw[ha]; decide)]
  have hs:CkS p 3 0 1 2 [.mp (mpR kX []) 0,.mp (mpR kX []) 0,.mp (mpR kX []) 0,ckB p 0 1 2] [] [] []:=by
   refine⟨by decide,by decide,by decide,by decide,by decide,by decide,rfl,⟨[],0,rfl,?_⟩,⟨[],0,rfl,?_⟩,⟨[],0,rfl,?_⟩,by simp⟩<;>intro v<;>simp[uZ,TM.gT]
  obtain⟨S',hc,_,_⟩:=zF p (by omega) 3 0 1 2 1048576 (by omega) p.b 0 _ [] [] [] (by omega) (by omega) hs
  refine cJ (S:=S') (r:=.iv (.int .i64 (chk p p.b 0 [] [] []).1)) (aB K _ (fn:=t11) rfl rfl ?_) (by rw[bQ])
  rw[aN5,aZ,show ((0:Nat):Int)=0 from rfl]at hc
  simp only[ckB,aTl,List.cons_append,List.nil_append]at hc
  unfold mZ at ih ⊢
  simp (config := { maxSteps := 4000000 }) (disch:=omega) only[t11,go_sem,dF]
  rw[ih]
  simp (config := { maxSteps := 4000000 }) (disch:=omega) only[go_sem,hc]
theorem aJh {S:aA}{C:Cd}{jx:Nat}{fb fm:Bool}{jb jm:Nat}{b m:List Int}(h:LK S C jx fb fm jb jm b m)(v:Int)(hl:b.length<1000000)(hv:0≤v∧v<C.vars)(hb:v∉b):∃fb' jb' S',(lim K).call 38 [.ptr jx 57 0,.iv (.int .i64 v)] S=.ret (.iv (.bool true),S')∧LK S' C jx fb' fm jb' jm (b++[v]) m∧KX S S' jx fb fm fb' fm jb jm jb' jm b m (b++[v]) m:=by
 obtain⟨fb',jb',S1,ap,hx,hk,kx⟩:=h.bind v hl
 refine⟨fb',jb',_,?_,hk,kx⟩
 have h14:=aD1 (aTx fb (bX b)) b (by have:=h.ln; omega) v
 rw[decide_eq_false hb]at h14
 have ho:=h.own
 have hll:=h.ln
 unfold lkB at *
 refine aB K _ (fn:=t38) rfl rfl ?_
 simp (config := { maxSteps := 4000000 }) (disch:=omega) only[t38,go_sem,ho,aQ h14,ap,hx]
def nG (n:Nat)(seen:List Int)(a:List IV):Prop:=(∃v,a=[.int .i64 1,.int .i64 v]∧v∈seen)∨∃v,a=[.int .i64 2,.int .i64 v]∧0≤v∧v<n
theorem bG9 {t:Tag}{l:List (List IV)}{i:Nat}{p q:Int}(h:l[i]? = some [.int .i64 p,.int .i64 q]):indexAddrS 2 (.iv (.sl t l)) (i:Int)=some (.iv (.cp [.int .i64 p,.int .i64 q])):=pJ (by omega) (by rw[Int.toNat_natCast]; exact h) rfl
abbrev lbT (c0 c1 c2 c3 c4:Int) (t5:Tag) (l5:List (List IV)) (t6:Tag) (l6:List (List IV)):TV:=.lb [.iv (.int .i64 c0),.iv (.int .i64 c1),.iv (.int .i64 c2),.iv (.int .i64 c3),.iv (.int .i64 c4),.iv (.sl t5 l5),.iv (.sl t6 l6)]
theorem aJi {S:aA}{C:Cd}{jx:Nat}{fb fm:Bool}{jb jm:Nat}{b m:List Int}(h:LK S C jx fb fm jb jm b m)(hcs:C.cs.length≤1048576)(x1 x4:TV)(c0 c1 c2 c3 c4:Int)(t5:Tag)(l5:List (List IV))(t6:Tag)(l6:List (List IV))(fs:Bool)(js:Nat)(seen:List Int)(hs:seen.length≤1000000)(hl:l5.length≤2000000)(ha:∀a∈l5,nG C.cs.length seen a):∀(k i:Nat) (x6 x7 x8:TV),i+k=l5.length →
  ∃(y6 y7 y8:TV),lp' (lim K) t66L0 [.ptr jx 57 0,x1,rv fs js (bX seen),lbT c0 c1 c2 c3 c4 t5 l5 t6 l6,x4,.iv (.int .i64 i),x6,x7,x8] S=.ret (.exit 0,[.ptr jx 57 0,x1,rv fs js (bX seen),lbT c0 c1 c2 c3 c4 t5 l5 t6 l6,x4,.iv (.int .i64 l5.length),y6,y7,y8],S)
 | 0,i,x6,x7,x8,hi=>by
  obtain rfl:i=l5.length:=by omega
  refine⟨x6,.iv (.bool false),x8,aN K _ _ t66L0.eq_1 ?_⟩
  simp (config := { maxSteps := 4000000 }) (disch:=omega) only[go_sem]
 | k+1,i,x6,x7,x8,hi=>by
  have hla:i<l5.length:=by omega
  have ho:=h.own
  have e1:((i+1:Nat):Int)=(i:Int)+1:=by omega
  have hg:l5[i]? = some l5[i]:=List.getElem?_eq_getElem hla
  rcases ha l5[i] (List.getElem_mem _) with⟨v,hv,hm⟩|⟨v,hv,hm⟩
  ·rw[hv]at hg
   have hix:=bG9 (t:=t5) hg
   have h14:=aD1 (aTx fs (bX seen)) seen (by omega) v
   rw[decide_eq_true hm]at h14
   obtain⟨y6,y7,y8,ih⟩:=aJi h hcs x1 x4 c0 c1 c2 c3 c4 t5 l5 t6 l6 fs js seen hs hl ha k (i+1) (.lb [.iv (.int .i64 1),.iv (.int .i64 v)]) (.iv (.bool true)) (.iv (.bool false)) (by omega)
   rw[e1]at ih
   refine⟨y6,y7,y8,aN K _ _ t66L0.eq_1 ?_⟩
   simp (config := { maxSteps := 4000000 }) (disch:=omega) only[go_sem,hix,aQ h14,aF]
   exact congrArg er ih
  ·rw[hv]at hg
   have hix:=bG9 (t:=t5) hg
   obtain⟨y6,y7,y8,ih⟩:=aJi h hcs x1 x4 c0 c1 c2 c3 c4 t5 l5 t6 l6 fs js seen hs hl ha k (i+1) (.lb [.iv (.int .i64 2),.iv (.int .i64 v)]) (.iv (.bool true)) (.iv (.bool false)) (by omega)
   rw[e1]at ih
   refine⟨y6,y7,y8,aN K _ _ t66L0.eq_1 ?_⟩
   unfold lkB at ho
   simp (config := { maxSteps := 4000000 }) (disch:=omega) only[go_sem,hix,ho,aF]
   exact congrArg er ih
theorem vF {S:aA}{C:Cd}{jx:Nat}{fb fm:Bool}{jb jm:Nat}{b m:List Int}(h:LK S C jx fb fm jb jm b m)(hcs:C.cs.length≤1048576)(c0 c1 c2 c3 c4:Int)(t5:Tag)(l5:List (List IV))(t6:Tag)(l6:List (List IV))(fs:Bool)(js:Nat)(seen:List Int)(hs:seen.length≤1000000)(hl:l5.length≤2000000)(ha:∀a∈l5,nG C.cs.length seen a) :
  (lim K).call 66 [.ptr jx 57 0,.iv (.agg [.int .i64 c0,.int .i64 c1,.int .i64 c2,.int .i64 c3,.int .i64 c4,.sl t5 l5,.sl t6 l6]),rv fs js (bX seen)] S=.ret (.iv (.bool true),S):=by
 obtain⟨y6,y7,y8,lp⟩:=aJi h hcs (.iv (.agg [.int .i64 c0,.int .i64 c1,.int .i64 c2,.int .i64 c3,.int .i64 c4,.sl t5 l5,.sl t6 l6])) (.iv (.bool false)) c0 c1 c2 c3 c4 t5 l5 t6 l6 fs js seen hs hl ha l5.length 0 u_ u_ u_ (by omega)
 rw[show ((0:Nat):Int)=0 from rfl]at lp
 refine aB K _ (fn:=t66) rfl rfl ?_
 simp (config := { maxSteps := 4000000 }) (disch:=omega) only[t66,go_sem]
 rw[lp]
 simp (config := { maxSteps := 4000000 }) (disch:=omega) only[go_sem]
def aOi (op:Int):Int:=if op=100∨op=101∨op=104 then 1 else if op=102 then 2 else if op=103 then 0 else tL op
theorem bEw (op:Int):TM.Pure K 67 [.iv (.int .i64 op)] (.iv (.int .i64 (aOi op))):=by
 have h92:=cJ (aTi op []) rfl
 unfold aOi
 refine gR t67 rfl rfl ?_
 by_cases h1:op=100
 ·subst h1; rw[if_pos (by decide)]
  simp (config := { maxSteps := 4000000 }) (disch:=omega) only[t67,go_sem]
 ·by_cases h2:op=101
  ·subst h2; rw[if_pos (by decide)]
   simp (config := { maxSteps := 4000000 }) (disch:=omega) only[t67,go_sem]
  ·by_cases h3:op=104
   ·subst h3; rw[if_pos (by decide)]
    simp (config := { maxSteps := 4000000 }) (disch:=omega) only[t67,go_sem]
   ·rw[if_neg (by omega)]
    by_cases h4:op=102
    ·subst h4
     simp (config := { maxSteps := 4000000 }) (disch:=omega) only[t67,go_sem]
    ·by_cases h5:op=103
     ·subst h5
      simp (config := { maxSteps := 4000000 }) (disch:=omega) only[t67,go_sem]
     ·rw[if_neg h4,if_neg h5]
      simp (config := { maxSteps := 4000000 }) (disch:=omega) only[t67,go_sem,h1,h2,h3,h4,h5,aQ h92]
inductive Tr where
 | prim (v op n:Int) (ats:List (List IV)) (k:Tr)
 | fn (v:Int) (f:Nat) (ps:List Int) (r:Bool) (body k:Tr)
 | ite (a:List IV) (p q:Tr)
 | call (ats:List (List IV))
 | appl (ats:List (List IV))
 | halt
def bvs:Tr→List Int
 | .prim v _ _ _ k=>v::bvs k
 | .fn v _ ps _ body k=>v::(ps++bvs body++bvs k)
 | .ite _ p q=>bvs p++bvs q
 | _=>[]
def mks:Tr→List Int
 | .prim _ _ _ _ k=>mks k
 | .fn _ f _ _ body k=>(f:Int)::(mks body++mks k)
 | .ite _ p q=>mks p++mks q
 | _=>[]
def Dec (F:List (List IV)):Tr→List IV→Prop
 | .prim v op n ats k,t=>∃tg tk c,t=[.int .i64 1,.int .i64 v,.int .i64 op,.int .i64 n,.int .i64 0,.sl tg ats,.sl tk [c]]∧Dec F k c
 | .fn v f ps r body k,t=>∃c tp cc bt,t=[.int .i64 2,.int .i64 v,.int .i64 0,.int .i64 0,.int .i64 f,.sl .nil [],.sl .full [c]]∧F[f]? = some (.sl tp (bX ps)::.bool r::.bool cc::.sl .nil []::bt)∧Dec F body bt∧Dec F k c
 | .ite a p q,t=>∃c d,t=[.int .i64 3,.int .i64 0,.int .i64 0,.int .i64 0,.int .i64 0,.sl .full [a],.sl .full [c,d]]∧Dec F p c∧Dec F q d
 | .call ats,t=>∃tg,t=[.int .i64 4,.int .i64 0,.int .i64 0,.int .i64 0,.int .i64 0,.sl tg ats,.sl .nil []]
 | .appl ats,t=>∃tg,t=[.int .i64 6,.int .i64 0,.int .i64 0,.int .i64 0,.int .i64 0,.sl tg ats,.sl .nil []]
 | .halt,t=>t=[.int .i64 7,.int .i64 0,.int .i64 0,.int .i64 0,.int .i64 0,.sl .nil [],.sl .nil []]
theorem Dec.cells {F:List (List IV)}{T:Tr}{t:List IV}(h:Dec F T t):∃(c0 c1 c2 c3 c4:Int) (t5:Tag) (l5:List (List IV)) (t6:Tag) (l6:List (List IV)),t=[.int .i64 c0,.int .i64 c1,.int .i64 c2,.int .i64 c3,.int .i64 c4,.sl t5 l5,.sl t6 l6]:=by
 cases T with
 | prim v op n ats k=>obtain⟨tg,tk,c,rfl,_⟩:=h; exact⟨_,_,_,_,_,_,_,_,_,rfl⟩
 | fn v f ps r body k=>obtain⟨c,tp,cc,bt,rfl,_⟩:=h; exact⟨_,_,_,_,_,_,_,_,_,rfl⟩
 | ite a p q=>obtain⟨c,d,rfl,_⟩:=h; exact⟨_,_,_,_,_,_,_,_,_,rfl⟩
 | call ats=>obtain⟨tg,rfl⟩:=h; exact⟨_,_,_,_,_,_,_,_,_,rfl⟩
 | appl ats=>obtain⟨tg,rfl⟩:=h; exact⟨_,_,_,_,_,_,_,_,_,rfl⟩
 | halt=>rw[show t=_ from h]; exact⟨_,_,_,_,_,_,_,_,_,rfl⟩
def OkT (nc:Nat)(gl:Int):List Int→Tr→Prop
 | seen,.prim v op n ats k=>(∀a∈ats,nG nc seen a)∧(ats.length:Int)=aOi op∧ats.length≤2000000∧(op=103∨op=104→0≤n∧n<gl)∧OkT nc gl (seen++[v]) k
 | seen,.fn v f ps r body k=>(r=true→ps≠[])∧ps.length≤1048577∧OkT nc gl (seen++ps) body∧OkT nc gl (seen++[v]) k
 | seen,.ite a p q=>nG nc seen a∧OkT nc gl seen p∧OkT nc gl seen q
 | seen,.call ats=>(∀a∈ats,nG nc seen a)∧1≤ats.length∧ats.length≤2000000
 | seen,.appl ats=>(∀a∈ats,nG nc seen a)∧2≤ats.length∧ats.length≤2000000
 | seen,.halt=>True
structure New (C:Cd) (B M:List Int) (b m seen:List Int):Prop where
 bn:B.Nodup
 br:∀v∈B,0≤v∧v<C.vars∧v∉b
 mn:M.Nodup
 mr:∀v∈M,v∉m
 bl:b.length+B.length≤1000000
 ml:m.length+M.length≤1000000
 sl:seen.length+B.length≤1000000
def TmC (C:Cd)(T:Tr):Prop:=∀ {t:List IV} {S:aA} {jx:Nat} {fb fm:Bool} {jb jm:Nat} {b m:List Int} {fs:Bool} {js:Nat} {seen:List Int},Dec C.F T t→OkT C.cs.length C.gl seen T→LK S C jx fb fm jb jm b m→New C (bvs T) (mks T) b m seen →
 ∃fb' fm' jb' jm' S',(lim K).call 39 [.ptr jx 57 0,.iv (.agg t),rv fs js (bX seen)] S=.ret (.iv (.bool true),S')∧LK S' C jx fb' fm' jb' jm' (b++bvs T) (m++mks T)∧KX S S' jx fb fm fb' fm' jb jm jb' jm' b m (b++bvs T) (m++mks T)
theorem LK.other {S S':aA}{C:Cd}{jx:Nat}{fb fm:Bool}{jb jm:Nat}{b m:List Int}{fi fi':Bool}{ji ji':Nat}{l l':List (List IV)}(h:LK S C jx fb fm jb jm b m)(g:Rg S S' fi fi' ji ji' l l')(hr:Rw S fi ji l)(hn:∀q,Tk fi l ji q→¬Tk fb (bX b) jb q∧¬Tk fm (bX m) jm q):LK S' C jx fb fm jb jm b m∧∀q,Tk fi' l' ji' q→¬Tk fb (bX b) jb q∧¬Tk fm (bX m) jm q:=by
 have hb:∀q,Tk fb (bX b) jb q→q<S.length:=fun q hq=>by rw[hq.2.2]; exact bD (h.rb.tok hq.1 hq.2.1)
 have hm:∀q,Tk fm (bX m) jm q→q<S.length:=fun q hq=>by rw[hq.2.2]; exact bD (h.rm.tok hq.1 hq.2.1)
 refine⟨⟨g.old _ _ h.own fun⟨h1,h2,h3⟩=>?_,⟨fun h1 h2=>g.old _ _ (h.rb.tok h1 h2) fun ht=>(hn _ ht).1 ⟨h1,h2,rfl⟩⟩,⟨fun h1 h2=>g.old _ _ (h.rm.tok h1 h2) fun ht=>(hn _ ht).2 ⟨h1,h2,rfl⟩⟩,h.ne,h.ln⟩,fun q hq=>?_⟩
 ·have:=hr.tok h1 h2; rw[←h3,h.own]at this; unfold lkB at this; cases this
 ·rcases g.new q hq with h1|h1
  ·exact hn q h1
  ·exact⟨fun h2=>by have:=hb q h2; omega,fun h2=>by have:=hm q h2; omega⟩
theorem KX.other {S0 S S':aA}{jx:Nat}{fb fm fb' fm':Bool}{jb jm jb' jm':Nat}{b m b' m':List Int}{fi fi':Bool}{ji ji':Nat}{l l':List (List IV)}(h:KX S0 S jx fb fm fb' fm' jb jm jb' jm' b m b' m')(g:Rg S S' fi fi' ji ji' l l')(hi:∀q,Tk fi l ji q→S0.length≤q):KX S0 S' jx fb fm fb' fm' jb jm jb' jm' b m b' m' :=
 ⟨Nat.le_trans h.len g.len,fun q B hq h1 h2 h3=>g.old q B (h.old q B hq h1 h2 h3) fun ht=>by have:=hi q ht; have:=bD hq; omega,h.newb,h.newm⟩
theorem aT1 {C:Cd}{jx:Nat}{fm:Bool}{jm:Nat}{m:List Int}{S0:aA}{fb0:Bool}{jb0:Nat}{b0:List Int}(x1 x2 x4:TV)(tp:Tag)(ps:List Int)(hps:ps.length≤1048577)(r c:Bool)(c0 c1 c2 c3 c4:Int)(t5:Tag)(l5:List (List IV))(t6:Tag)(l6:List (List IV))(hn:ps.Nodup) :
  ∀(k i:Nat) (S:aA) (fb:Bool) (jb:Nat) (b:List Int) (fi:Bool) (ji:Nat) (inn:List Int) (x7 x8:TV),i+k=ps.length→LK S C jx fb fm jb jm b m→KX S0 S jx fb0 fm fb fm jb0 jm jb jm b0 m b m→Rw S fi ji (bX inn)→(∀q,Tk fi (bX inn) ji q→¬Tk fb (bX b) jb q∧¬Tk fm (bX m) jm q)→(∀q,Tk fi (bX inn) ji q→S0.length≤q)→(∀v∈ps.drop i,0≤v∧v<C.vars∧v∉b)→b.length+k≤1000000→inn.length+k≤1000000 →
  ∃(S':aA) (fb':Bool) (jb':Nat) (fi':Bool) (ji':Nat) (y7 y8:TV),lp' (lim K) t16L0 [.ptr jx 57 0,x1,x2,.lb [.iv (.sl tp (bX ps)),.iv (.bool r),.iv (.bool c),.iv (.sl .nil []),.iv (.int .i64 c0),.iv (.int .i64 c1),.iv (.int .i64 c2),.iv (.int .i64 c3),.iv (.int .i64 c4),.iv (.sl t5 l5),.iv (.sl t6 l6)],x4,rv fi ji (bX inn),.iv (.int .i64 i),x7,x8] S
   = .ret (.exit 0,[.ptr jx 57 0,x1,x2,.lb [.iv (.sl tp (bX ps)),.iv (.bool r),.iv (.bool c),.iv (.sl .nil []),.iv (.int .i64 c0),.iv (.int .i64 c1),.iv (.int .i64 c2),.iv (.int .i64 c3),.iv (.int .i64 c4),.iv (.sl t5 l5),.iv (.sl t6 l6)],x4,rv fi' ji' (bX (inn++ps.drop i)),.iv (.int .i64 ps.length),y7,y8],S')∧LK S' C jx fb' fm jb' jm (b++ps.drop i) m∧KX S0 S' jx fb0 fm fb' fm jb0 jm jb' jm b0 m (b++ps.drop i) m
 | 0,i,S,fb,jb,b,fi,ji,inn,x7,x8,h,hL,hX,hr,hd,hi,hv,hbl,hil=>by
  obtain rfl:i=ps.length:=by omega
  have hle:=gG ps
  rw[List.drop_length,List.append_nil,List.append_nil]
  refine⟨S,fb,jb,fi,ji,.iv (.bool false),x8,aN K _ _ t16L0.eq_1 ?_,hL,hX⟩
  simp (config := { maxSteps := 4000000 }) (disch:=omega) only[go_sem,hle]
 | k+1,i,S,fb,jb,b,fi,ji,inn,x7,x8,h,hL,hX,hr,hd,hi,hv,hbl,hil=>by
  have hla:i<ps.length:=by omega
  have hle:=gG ps
  have hix:=aTt (t:=tp) hla
  have hdr:=List.drop_eq_getElem_cons hla
  have hvi:=hv ps[i] (by rw[hdr]; exact List.mem_cons_self)
  have hdn:(ps.drop i).Nodup:=hn.sublist (List.drop_sublist _ _)
  rw[hdr,List.nodup_cons]at hdn
  have e1:((i+1:Nat):Int)=(i:Int)+1:=by omega
  obtain⟨fb1,jb1,S1,c38,hL1,hX1⟩:=aJh hL ps[i] (by omega) ⟨hvi.1,hvi.2.1⟩ hvi.2.2
  have hr1:Rw S1 fi ji (bX inn):=⟨fun h1 h2=>hX1.old _ _ (hr.tok h1 h2) (fun e=>by
   have h3:=hr.tok h1 h2
   rw[e,hL.own]at h3; unfold lkB at h3; cases h3) (hd _ ⟨h1,h2,rfl⟩).1 (hd _ ⟨h1,h2,rfl⟩).2⟩
  have hlt:∀q,Tk fi (bX inn) ji q→q<S.length:=fun q hq=>by rw[hq.2.2]; exact bD (hr.tok hq.1 hq.2.1)
  have hd1:∀q,Tk fi (bX inn) ji q→¬Tk fb1 (bX (b++[ps[i]])) jb1 q∧¬Tk fm (bX m) jm q:=fun q hq=>⟨fun h1=>by
   rcases hX1.newb q h1 with h2|h2
   ·exact (hd q hq).1 h2
   ·have:=hlt q hq; omega,(hd q hq).2⟩
  obtain⟨fi2,ji2,S2,ap,g⟩:=hr1.more (iJ.sl S1 .full [[.int .i64 ps[i]]]) (jT inn) (jT [ps[i]]) (by rw[gG]; simp; omega)
  rw[show bX inn++[[.int .i64 ps[i]]]=bX (inn++[ps[i]]) from (tN inn [ps[i]]).symm]at ap g
  obtain⟨hL2,hd2⟩:=hL1.other g hr1 hd1
  have hX2:=(hX.trans hX1).other g hi
  have hi2:∀q,Tk fi2 (bX (inn++[ps[i]])) ji2 q→S0.length≤q:=fun q hq=>by
   rcases g.new q hq with h1|h1
   ·exact hi q h1
   ·have:=hX.len; have:=hX1.len; omega
  obtain⟨S',fb',jb',fi',ji',y7,y8,ih,hL',hX'⟩:=aT1 x1 x2 x4 tp ps hps r c c0 c1 c2 c3 c4 t5 l5 t6 l6 hn k (i+1) S2 fb1 jb1 (b++[ps[i]]) fi2 ji2 (inn++[ps[i]]) (.iv (.bool true)) (.iv (.bool false)) (by omega) hL2 hX2 g.rw hd2 hi2 (fun v hv'=>by
   have h1:=hv v (by rw[hdr]; exact List.mem_cons_of_mem _ hv')
   refine⟨h1.1,h1.2.1,fun hm=>?_⟩
   rcases List.mem_append.1 hm with hm|hm
   ·exact h1.2.2 hm
   ·rw[List.mem_singleton]at hm; subst hm; exact hdn.1 hv') (by rw[List.length_append,List.length_singleton]; omega) (by rw[List.length_append,List.length_singleton]; omega)
  rw[List.append_assoc,List.singleton_append,←hdr]at hL' hX'
  rw[List.append_assoc,List.singleton_append,←hdr,e1]at ih
  refine⟨S',fb',jb',fi',ji',y7,y8,aN K _ _ t16L0.eq_1 ?_,hL',hX'⟩
  generalize ps[i]=v at *
  simp (config := { maxSteps := 4000000 }) (disch:=omega) only[go_sem,hle,hix,c38,ap,aF]
  exact congrArg er ih
def rng (a b v:Int):Nat:=if a≤v∧v<b then 1 else 0
theorem cH {a b c:Int}(h:a≤b)(g:b≤c)(v:Int):rng a c v=rng a b v+rng b c v:=by
 unfold rng
 by_cases h1:a≤v∧v<b
 ·rw[if_pos h1,if_pos ⟨h1.1,by omega⟩,if_neg (by omega)]
 ·rw[if_neg h1]
  by_cases h2:b≤v∧v<c
  ·rw[if_pos h2,if_pos ⟨by omega,h2.2⟩]
  ·rw[if_neg h2,if_neg (by omega)]
theorem fY (a v:Int):rng a a v=0:=by unfold rng; rw[if_neg (by omega)]
def cn (v:Int):List Int→Nat
 | []=>0
 | a::r=>rng a (a+1) v+cn v r
theorem gW (v:Int):∀(a b:List Int),cn v (a++b)=cn v a+cn v b
 | [],b=>by rw[List.nil_append,cn,Nat.zero_add]
 | x::a,b=>by rw[List.cons_append,cn,cn,gW v a b]; omega
theorem zG {v:Int}:∀ {l:List Int},1≤cn v l↔v∈l
 | []=>by simp[cn]
 | a::r=>by
  have ih:=@zG v r
  rw[cn,List.mem_cons,←ih]
  unfold rng
  split
  ·constructor
   ·intro _; left; omega
   ·intro _; omega
  ·constructor
   ·intro h; right; omega
   ·rintro (h|h)
    ·omega
    ·omega
theorem zH:∀ {l:List Int},(∀v,cn v l≤1)→l.Nodup
 | [],_=>List.nodup_nil
 | a::r,h=>by
  refine List.nodup_cons.2 ⟨fun hm=>?_,zH fun v=>?_⟩
  ·have h1:=h a
   rw[cn]at h1
   have:=zG.2 hm
   have h2:rng a (a+1) a=1:=by unfold rng; rw[if_pos (by omega)]
   omega
  ·have:=h v; rw[cn]at this; omega
mutual
def NoS:Ex→Prop
 | .mk k n gv vs r g ks=>k≠4∧aT2 ks
def aT2:List Ex→Prop
 | []=>True
 | e::es=>NoS e∧aT2 es
end
theorem aF6:∀ {l:List Ex},aT2 l↔∀x∈l,NoS x
 | []=>by simp[aT2]
 | a::r=>by rw[aT2,aF6]; simp
theorem aJj (e:Ex):NoS e↔e.k≠4∧∀x∈e.ks,NoS x:=by cases e; rw[NoS,aF6]; rfl
theorem aT3:∀(n:Nat) (e:Ex),e.w≤n→lH n e=false→NoS e
 | 0,e,hw,_=>by have:=Ex.w_eq e; omega
 | n+1,e,hw,h=>by
  rw[lH,Bool.or_eq_false_iff,List.any_eq_false]at h
  rw[aJj]
  refine⟨by simpa using h.1,fun x hx=>aT3 n x (by have:=Ex.kid_lt hx; omega) (by simpa using h.2 x hx)⟩
structure FP (p:Pg) (e:Ex):Prop where
 vs:e.k≠7→e.vs=[]
 k1:e.k=1→0≤e.n∧e.n<p.cs.length
 k3:e.k=3∨e.k=5→0≤e.n∧e.n<p.gl
 kv:∀v∈e.vs,0≤v∧v<p.vr
 ar:e.k≠1→e.k≠2→e.k≠4→e.k≠6→e.k≠7→e.k≠8→e.k≠10→e.k≠11→(e.ks.length:Int)=aOi (opX e)∧(opX e=103∨opX e=104→e.k=3∨e.k=5)
theorem frP {p:Pg}{e:Ex}(h:Fr p e):FP p e:=by
 have h1:=((pT p e).1 h).1
 unfold pK at h1
 simp only[Bool.and_eq_true,Bool.not_eq_true']at h1
 have h3:=h1.2
 have h2:=h1.1
 unfold aJa at h2
 simp only[Bool.or_eq_false_iff,Bool.and_eq_false_iff,decide_eq_false_iff_not,Bool.not_eq_false']at h2
 obtain⟨⟨⟨⟨⟨a1,a2⟩,a3⟩,a4⟩,a5⟩,a6⟩:=h2
 have hvs:e.k≠7→e.vs=[]:=fun hk=>by
  rcases a5 with a5|a5
  ·exact absurd hk a5
  ·exact List.eq_nil_of_length_eq_zero (by have:=a5.1; omega)
 refine⟨hvs,fun hk=>?_,fun hk=>?_,fun v hv=>?_,fun n1 n2 n4 n6 n7 n8 n10 n11=>?_⟩
 ·unfold zC at h3; simp[hk]at h3; exact h3
 ·unfold zC at h3
  rcases hk with hk|hk
  ·simp[hk]at h3; exact h3
  ·simp[hk]at h3; exact h3
 ·by_cases h7:e.k=7
  ·unfold zC at h3; simp[h7]at h3; exact h3 v hv
  ·rw[hvs h7]at hv; cases hv
 ·unfold ofF at *
  simp only[n1,n2,n4,n6,n7,n8,n10,n11,if_false]at a1 a2 a3
  unfold opX aOi
  by_cases c3:e.k=3
  ·simp[c3]at a2 a3 ⊢
   exact a3
  ·by_cases c5:e.k=5
   ·simp[c5]at a2 a3 ⊢
    omega
   ·by_cases c9:e.k=9
    ·simp[c9]at a1 a2 a3 ⊢
     have hpa:0≤tL e.n→0≤e.n∧e.n<42:=fun hh=>by
      unfold tL at hh
      by_cases hr:0≤e.n∧e.n<42
      ·exact hr
      ·rw[if_neg hr]at hh; omega
     generalize tL e.n=q at *
     have hr:=hpa a1
     rw[if_neg (by omega),if_neg (by omega),if_neg (by omega)]
     refine⟨?_,by omega⟩
     split at a2<;>rename_i hh<;>simp[hh]at a3<;>first|omega|(rw[a3,List.length_nil]; omega)
    ·by_cases c12:e.k=12
     ·simp[c12]at a2 a3 ⊢; omega
     ·by_cases c13:e.k=13
      ·simp[c13]at a2 a3 ⊢; omega
      ·by_cases c14:e.k=14
       ·simp[c14]at a2 a3 ⊢; omega
       ·simp[c3,c5,c9,c12,c13,c14]at a1
def cbE (v:Int)(e:Ex):Nat:=cn v (bvE e)
def pL (v:Int)(l:List Ex):Nat:=cn v (pS l)
theorem oO (v:Int)(e:Ex):cbE v e=cn v e.vs+pL v e.ks:=by unfold cbE pL; rw[aM2,gW]
theorem iL (v:Int)(e:Ex)(l:List Ex):pL v (e::l)=cbE v e+pL v l:=by unfold cbE pL; rw[pS,gW]
theorem nV (v:Int):pL v []=0:=rfl
theorem tO (v:Int):∀(a b:List Ex),pL v (a++b)=pL v a+pL v b
 | [],b=>by rw[List.nil_append,nV,Nat.zero_add]
 | x::a,b=>by rw[List.cons_append,iL,iL,tO v a b]; omega
inductive SI where
 | prim (v op n:Int) (ats:List (List IV))
 | fn (v:Int) (f:Nat) (ps:List Int) (r:Bool) (body:Tr)
 | rs (e:Ex) (to:Int)
def SI.to:SI→Int
 | .prim v _ _ _=>v
 | .fn v _ _ _ _=>v
 | .rs _ to=>to
def cbS (v:Int):SI→Nat
 | .prim w _ _ _=>rng w (w+1) v
 | .fn w _ ps _ body=>rng w (w+1) v+(cn v ps+cn v (bvs body))
 | .rs e to=>rng to (to+1) v+cbE v e
def cmS (i:Int):SI→Nat
 | .fn _ f _ _ body=>rng f (f+1) i+cn i (mks body)
 | _=>0
def gX (v:Int):List SI→Nat
 | []=>0
 | s::r=>cbS v s+gX v r
def iR (i:Int):List SI→Nat
 | []=>0
 | s::r=>cmS i s+iR i r
theorem nW (v:Int):∀(a b:List SI),gX v (a++b)=gX v a+gX v b
 | [],b=>by rw[List.nil_append,gX,Nat.zero_add]
 | x::a,b=>by rw[List.cons_append,gX,gX,nW v a b]; omega
theorem nX (v:Int):∀(a b:List SI),iR v (a++b)=iR v a+iR v b
 | [],b=>by rw[List.nil_append,iR,Nat.zero_add]
 | x::a,b=>by rw[List.cons_append,iR,iR,nX v a b]; omega
theorem kF (v:Int)(l:List SI):gX v l.reverse=gX v l:=by
 induction l with
 | nil=>rfl
 | cons a r ih=>rw[List.reverse_cons,nW,ih,gX,gX,gX]; omega
theorem kG (v:Int)(l:List SI):iR v l.reverse=iR v l:=by
 induction l with
 | nil=>rfl
 | cons a r ih=>rw[List.reverse_cons,nX,ih,iR,iR,iR]; omega
def bEx (F:List (List IV))(f:Nat)(ps:List Int)(r:Bool)(body:Tr):Prop:=∃tp cc bt,F[f]? = some (.sl tp (bX ps)::.bool r::.bool cc::.sl .nil []::bt)∧Dec F body bt
def DS (F:List (List IV)):SI→St→Prop
 | .prim v op n ats,s=>s=.tm (wM v op n ats) v
 | .fn v f ps r body,s=>s=.tm (fP v f (.sl .nil [])) v∧bEx F f ps r body
 | .rs e to,s=>s=.rs e to
def DSs (F:List (List IV)):List SI→List St→Prop
 | [],[]=>True
 | a::r,s::t=>DS F a s∧DSs F r t
 | _,_=>False
theorem DSs.app {F:List (List IV)}:∀ {a c:List SI} {b d:List St},DSs F a b→DSs F c d→DSs F (a++c) (b++d)
 | [],_,[],_,_,h=>h
 | _::_,_,_::_,_,h,g=>⟨h.1,DSs.app h.2 g⟩
 | [],_,_::_,_,h,_=>h.elim
 | _::_,_,[],_,h,_=>h.elim
theorem DSs.rev {F:List (List IV)}:∀ {a:List SI} {b:List St},DSs F a b→DSs F a.reverse b.reverse
 | [],[],_=>trivial
 | x::a,y::b,h=>by
  rw[List.reverse_cons,List.reverse_cons]
  exact DSs.app (DSs.rev h.2) ⟨h.1,trivial⟩
 | [],_::_,h=>h.elim
 | _::_,[],h=>h.elim
structure ES (p:Pg) (seen:List Int) (e:Ex):Prop where
 eo:EO p e
 sc:Sc seen e
 ns:NoS e
theorem ES.mono {p:Pg}{s s':List Int}{e:Ex}(h:ES p s e)(hs:∀v∈s,v∈s'):ES p s' e:=⟨h.eo,aM5 e.w e (Nat.le_refl _) s s' h.sc hs,h.ns⟩
theorem ES.kid {p:Pg}{s:List Int}{e x:Ex}(h:ES p s e)(hx:x∈e.ks):ES p (e.vs++s) x:=⟨h.eo.kid hx,aDy.1 ((aM3 s e).1 h.sc).2 x hx,((aJj e).1 h.ns).2 x hx⟩
theorem ES.kid' {p:Pg}{s:List Int}{e x:Ex}(h:ES p s e)(h7:e.k≠7)(hx:x∈e.ks):ES p s x:=by
 have:=h.kid hx
 rw[(frP h.eo.1).vs h7]at this
 exact this
def OkS (p:Pg)(seen:List Int):SI→Prop
 | .prim v op n ats=>(∀a∈ats,nG p.cs.length seen a)∧(ats.length:Int)=aOi op∧ats.length≤2000000∧(op=103∨op=104→0≤n∧n<p.gl)
 | .fn v f ps r body=>(r=true→ps≠[])∧ps.length≤1048577∧OkT p.cs.length p.gl (seen++ps) body
 | .rs e to=>ES p seen e
def iO (p:Pg)(seen:List Int)(l:List SI):Prop:=∀i s,l[i]? = some s→OkS p (seen++(l.take i).map SI.to) s
theorem iO.nil (p:Pg)(seen:List Int):iO p seen []:=fun i s h=>by simp at h
theorem iO.one {p:Pg}{seen:List Int}{s:SI}(h:OkS p seen s):iO p seen [s]:=fun i s' hi=>by
 cases i with
 | zero=>simp at hi; subst hi; simpa using h
 | succ i=>simp at hi
theorem iO.app {p:Pg}{seen:List Int}{a b:List SI}(h:iO p seen a)(g:iO p (seen++a.map SI.to) b):iO p seen (a++b):=fun i s hi=>by
 by_cases hl:i<a.length
 ·rw[List.getElem?_append_left hl]at hi
  rw[List.take_append_of_le_length (by omega)]
  exact h i s hi
 ·rw[List.getElem?_append_right (by omega)]at hi
  have:=g (i-a.length) s hi
  rw[List.take_append,List.take_of_length_le (by omega),List.map_append,←List.append_assoc]
  exact this
theorem iO.snoc {p:Pg}{seen:List Int}{a:List SI}{s:SI}(h:iO p seen (a++[s])):iO p seen a∧OkS p (seen++a.map SI.to) s:=by
 refine⟨fun i s' hi=>?_,?_⟩
 ·have hl:=(List.getElem?_eq_some_iff.1 hi).1
  have:=h i s' (by rw[List.getElem?_append_left hl]; exact hi)
  rw[List.take_append_of_le_length (by omega)]at this
  exact this
 ·have:=h a.length s (by rw[List.getElem?_append_right (Nat.le_refl _),Nat.sub_self]; rfl)
  rw[List.take_append_of_le_length (Nat.le_refl _),List.take_length]at this
  exact this
theorem nG.mono {n:Nat}{s s':List Int}{a:List IV}(h:nG n s a)(hs:∀v∈s,v∈s'):nG n s' a:=by
 rcases h with⟨v,h1,h2⟩|h
 ·exact .inl ⟨v,h1,hs v h2⟩
 ·exact .inr h
theorem OkT.mono {n:Nat}{gl:Int}:∀ {T:Tr} {s s':List Int},OkT n gl s T→(∀v∈s,v∈s')→OkT n gl s' T
 | .prim v op m ats k,s,s',h,hs=>⟨fun a ha=>(h.1 a ha).mono hs,h.2.1,h.2.2.1,h.2.2.2.1,OkT.mono h.2.2.2.2 fun w hw=>by
   rcases List.mem_append.1 hw with hw|hw
   ·exact List.mem_append_left _ (hs w hw)
   ·exact List.mem_append_right _ hw⟩
 | .fn v f ps r body k,s,s',h,hs=>⟨h.1,h.2.1,OkT.mono h.2.2.1 fun w hw=>by
   rcases List.mem_append.1 hw with hw|hw
   ·exact List.mem_append_left _ (hs w hw)
   ·exact List.mem_append_right _ hw,OkT.mono h.2.2.2 fun w hw=>by
   rcases List.mem_append.1 hw with hw|hw
   ·exact List.mem_append_left _ (hs w hw)
   ·exact List.mem_append_right _ hw⟩
 | .ite a p q,s,s',h,hs=>⟨h.1.mono hs,OkT.mono h.2.1 hs,OkT.mono h.2.2 hs⟩
 | .call ats,s,s',h,hs=>⟨fun a ha=>(h.1 a ha).mono hs,h.2⟩
 | .appl ats,s,s',h,hs=>⟨fun a ha=>(h.1 a ha).mono hs,h.2⟩
 | .halt,s,s',h,hs=>trivial
def Ag (F:List (List IV))(σ:Mk):Prop:=∀i f,i≠1→σ.fs[i]? = some f→F[i]? = some f
theorem Le.get {σ τ:Mk}(h:Le σ τ){i:Nat}{f:List IV}(hf:σ.fs[i]? = some f):τ.fs[i]? = some f:=by
 obtain⟨r,hr⟩:=h.fs
 rw[hr,List.getElem?_append_left (List.getElem?_eq_some_iff.1 hf).1]; exact hf
theorem Ag.le {F:List (List IV)}{σ τ:Mk}(h:Ag F τ)(l:Le σ τ):Ag F σ:=fun i f hi hf=>h i f hi (l.get hf)
theorem aF7 (σ:Mk)(f:List IV):(σ.push f).fs[σ.fs.length]? = some f:=by show (σ.fs++[f])[σ.fs.length]? = _; simp
theorem Ag.fn {F:List (List IV)}{σ τ:Mk}{f:List IV}(h:Ag F τ)(l:Le (σ.push f).var τ)(h2:2≤σ.fs.length):F[σ.fs.length]? = some f:=h _ _ (by omega) (l.get (aF7 σ f))
theorem iM {s r:List Int}:∀v∈s,v∈s++r:=fun v hv=>List.mem_append_left _ hv
theorem okV {n:Nat}{s:List Int}{v:Int}(h:v∈s):nG n s (aV v):=.inl ⟨v,rfl,h⟩
structure Tt (p:Pg) (F:List (List IV)) (n:Nat):Prop where
 value:∀ {e σ x seen},eG n e σ=some x→ES p seen e→2≤σ.fs.length→Ag F x.2.2→∃sis,DSs F sis x.1∧iO p seen sis∧nG p.cs.length (seen++sis.map SI.to) x.2.1∧(∀v,gX v sis=cbE v e+rng σ.nv x.2.2.nv v)∧∀i,iR i sis=rng σ.fs.length x.2.2.fs.length i
 values:∀ {l σ x seen},bP n l σ=some x→(∀e∈l,ES p seen e)→2≤σ.fs.length→Ag F x.2.2→∃sis,DSs F sis x.1∧iO p seen sis∧(∀a∈x.2.1,nG p.cs.length (seen++sis.map SI.to) a)∧(∀v,gX v sis=pL v l+rng σ.nv x.2.2.nv v)∧∀i,iR i sis=rng σ.fs.length x.2.2.fs.length i
 lam:∀ {e σ x seen},eQ n e σ=some x→ES p seen e→e.k=7→2≤σ.fs.length→Ag F x.2→∃(f:Nat) (body:Tr),x.1=(f:Int)∧bEx F f (σ.nv::e.vs) e.r body∧OkT p.cs.length p.gl (seen++(σ.nv::e.vs)) body∧(∀v,cn v (σ.nv::e.vs)+cn v (bvs body)=cbE v e+rng σ.nv x.2.nv v)∧∀i,rng f (f+1) i+cn i (mks body)=rng σ.fs.length x.2.fs.length i
 laid:∀ {l t σ x seen sis T0},cC n l t σ=some x→DSs F sis l→iO p seen sis.reverse→Dec F T0 t→OkT p.cs.length p.gl (seen++sis.reverse.map SI.to) T0→2≤σ.fs.length→Ag F x.2→∃T,Dec F T x.1∧OkT p.cs.length p.gl seen T∧(∀v,cn v (bvs T)=cn v (bvs T0)+gX v sis+rng σ.nv x.2.nv v)∧∀i,cn i (mks T)=cn i (mks T0)+iR i sis+rng σ.fs.length x.2.fs.length i
 code:∀ {e k σ x seen},eS n e k σ=some x→ES p seen e→nG p.cs.length seen k→2≤σ.fs.length→Ag F x.2→∃T,Dec F T x.1∧OkT p.cs.length p.gl seen T∧(∀v,cn v (bvs T)=cbE v e+rng σ.nv x.2.nv v)∧∀i,cn i (mks T)=rng σ.fs.length x.2.fs.length i
 ctl:∀ {e k σ x seen},nB n e k σ=some x→ES p seen e→e.k=11→nG p.cs.length seen k→2≤σ.fs.length→Ag F x.2→∃T,Dec F T x.1∧OkT p.cs.length p.gl seen T∧(∀v,cn v (bvs T)=cbE v e+rng σ.nv x.2.nv v)∧∀i,cn i (mks T)=rng σ.fs.length x.2.fs.length i
 sq:∀ {l k σ x seen},nC n l k σ=some x→(∀e∈l,ES p seen e)→nG p.cs.length seen k→2≤σ.fs.length→Ag F x.2→∃T,Dec F T x.1∧OkT p.cs.length p.gl seen T∧(∀v,cn v (bvs T)=pL v l+rng σ.nv x.2.nv v)∧∀i,cn i (mks T)=rng σ.fs.length x.2.fs.length i
 parts:∀ {i l t σ x seen T0},dA n i l t σ=some x→(∀e∈l,ES p seen e)→Dec F T0 t→OkT p.cs.length p.gl seen T0→2≤σ.fs.length→Ag F x.2→∃T,Dec F T x.1∧OkT p.cs.length p.gl seen T∧(∀v,cn v (bvs T)=cn v (bvs T0)+pL v (l.take (64*i))+rng σ.nv x.2.nv v)∧∀j,cn j (mks T)=cn j (mks T0)+rng σ.fs.length x.2.fs.length j
theorem nY {a b c:Nat}(h:a≤b)(g:b≤c)(v:Int):rng (a:Int) c v=rng a b v+rng b c v:=cH (by omega) (by omega) v
theorem fJ (σ:Mk)(f:List IV):(σ.push f).fs.length=σ.fs.length+1:=by show (σ.fs++[f]).length=_; simp
theorem aT4 {p:Pg}{F:List (List IV)}{n:Nat}(m:Tt p F n){e:Ex}{σ:Mk}{x:List St×List IV×Mk}{seen:List Int}(h:eG (n+1) e σ=some x)(hs:ES p seen e)(h2:2≤σ.fs.length)(ha:Ag F x.2.2):∃sis,DSs F sis x.1∧iO p seen sis∧nG p.cs.length (seen++sis.map SI.to) x.2.1∧(∀v,gX v sis=cbE v e+rng σ.nv x.2.2.nv v)∧∀i,iR i sis=rng σ.fs.length x.2.2.fs.length i:=by
 have mo:=mono n
 have hp:=frP hs.eo.1
 have hm:=frM hs.eo.1
 have hn4:=((aJj e).1 hs.ns).1
 rw[eG]at h
 split at h
 ·rename_i hk
  cases h
  have h1:=hp.k1 hk
  refine⟨[],trivial,iO.nil _ _,.inr ⟨e.n,rfl,h1.1,h1.2⟩,fun v=>?_,fun i=>?_⟩
  ·rw[oO,hp.vs (by omega),hm.k1 (.inl hk),nV]; show 0=0+0+rng σ.nv σ.nv v; rw[fY]
  ·exact (fY ..).symm
 ·split at h
  ·rename_i hk
   cases h
   have h1:=((aM3 seen e).1 hs.sc).1 (.inl hk)
   rw[hp.vs (by omega),List.nil_append]at h1
   refine⟨[],trivial,iO.nil _ _,okV (by simpa using h1),fun v=>?_,fun i=>?_⟩
   ·rw[oO,hp.vs (by omega),hm.k1 (.inr hk),nV]; show 0=0+0+rng σ.nv σ.nv v; rw[fY]
   ·exact (fY ..).symm
  ·split at h
   ·rename_i hk
    obtain⟨y,hy,h⟩:=Option.bind_eq_some_iff.1 h
    have l1:=mo.lam hy
    cases h
    have ha':Ag F y.2:=ha
    obtain⟨f,body,h1,hf,ho,hb,hmk⟩:=m.lam hy hs hk h2 ha'
    have hw:=Ex.w_eq e
    have hw2:=hs.eo.2.2
    refine⟨[.fn y.2.nv f (σ.nv::e.vs) e.r body],⟨⟨by rw[h1],hf⟩,trivial⟩,iO.one ⟨fun _=>List.cons_ne_nil _ _,by rw[List.length_cons]; omega,ho⟩,okV (by simp[SI.to]),fun v=>?_,fun i=>?_⟩
    ·rw[gX,gX,cbS]
     have:=hb v
     show _=cbE v e+rng σ.nv (y.2.nv+1) v
     rw[cH l1.nv (by omega:y.2.nv≤y.2.nv+1) v]
     omega
    ·rw[iR,iR,cmS]
     exact hmk i
   ·rename_i h7
    split at h
    ·rename_i hk
     obtain⟨y,hy,h⟩:=Option.bind_eq_some_iff.1 h
     obtain⟨a,ha',h⟩:=Option.bind_eq_some_iff.1 h
     cases h
     obtain⟨sis,d1,d2,d3,d4,d5⟩:=m.values hy (fun x hx=>hs.kid' h7 hx) h2 ha
     refine⟨sis,d1,d2,d3 a (List.mem_of_getLast? ha'),fun v=>?_,d5⟩
     rw[oO,hp.vs h7]
     show _=0+_+_
     rw[Nat.zero_add]
     exact d4 v
    ·split at h
     ·cases h
      refine⟨[.rs e σ.nv],⟨rfl,trivial⟩,iO.one hs,okV (by simp[SI.to]),fun v=>?_,fun i=>?_⟩
      ·rw[gX,gX,cbS]
       show _=cbE v e+rng σ.nv (σ.nv+1) v
       omega
      ·exact (fY ..).symm
     ·rename_i hk1 hk2 hk10 hkl
      obtain⟨y,hy,h⟩:=Option.bind_eq_some_iff.1 h
      have l1:=mo.values hy
      obtain⟨s1,s2,s3,s4⟩:=(dP n).values hy (fun x hx=>(hs.eo.kid hx).2)
      cases h
      have ha':Ag F y.2.2:=ha
      obtain⟨sis,d1,d2,d3,d4,d5⟩:=m.values hy (fun x hx=>hs.kid' h7 hx) h2 ha'
      have har:=hp.ar (by omega) (by omega) hn4 (by omega) h7 (by omega) (by omega) (by omega)
      have hw:=Ex.w_eq e
      have hw2:=hs.eo.2.2
      have hkl:=Ex.ws_len e.ks
      refine⟨sis++[.prim y.2.2.nv (opX e) (opN e) y.2.1],DSs.app d1 (show DSs F [.prim y.2.2.nv (opX e) (opN e) y.2.1] [_] from⟨rfl,trivial⟩),d2.app (iO.one (show OkS p _ (.prim y.2.2.nv (opX e) (opN e) y.2.1) from⟨d3,by rw[s4]; exact har.1,by omega,fun ho=>?_⟩)),okV (by simp[SI.to]),fun v=>?_,fun i=>?_⟩
      ·have hk3:=har.2 ho
       have:=hp.k3 hk3
       have hon:opN e=e.n:=by
        unfold opN
        rcases hk3 with h3|h3
        ·simp[h3]
        ·simp[h3]
       rw[hon]; exact this
      ·rw[nW,d4 v,gX,gX,cbS,oO,hp.vs h7]
       show _=0+_+rng σ.nv (y.2.2.nv+1) v
       rw[cH l1.nv (by omega:y.2.2.nv≤y.2.2.nv+1) v]
       omega
      ·rw[nX,d5 i]
       rfl
theorem aOj {p:Pg}{F:List (List IV)}{n:Nat}(m:Tt p F n){l:List Ex}{σ:Mk}{x:List St×List (List IV)×Mk}{seen:List Int}(h:bP (n+1) l σ=some x)(hs:∀e∈l,ES p seen e)(h2:2≤σ.fs.length)(ha:Ag F x.2.2):∃sis,DSs F sis x.1∧iO p seen sis∧(∀a∈x.2.1,nG p.cs.length (seen++sis.map SI.to) a)∧(∀v,gX v sis=pL v l+rng σ.nv x.2.2.nv v)∧∀i,iR i sis=rng σ.fs.length x.2.2.fs.length i:=by
 have mo:=mono n
 cases l with
 | nil =>
  rw[bP]at h
  cases h
  exact⟨[],trivial,iO.nil _ _,by simp,fun v=>by (show 0=0+rng σ.nv σ.nv v); rw[fY],fun i=>(fY ..).symm⟩
 | cons e l =>
  rw[bP]at h
  obtain⟨y,hy,h⟩:=Option.bind_eq_some_iff.1 h
  obtain⟨z,hz,h⟩:=Option.bind_eq_some_iff.1 h
  have l1:=mo.value hy
  have l2:=mo.values hz
  cases h
  have ha':Ag F z.2.2:=ha
  obtain⟨s1,d1,d2,d3,d4,d5⟩:=m.value hy (hs e (by simp)) h2 (ha'.le l2)
  obtain⟨s2,e1,e2,e3,e4,e5⟩:=m.values (seen:=seen++s1.map SI.to) hz (fun x hx=>(hs x (List.mem_cons_of_mem _ hx)).mono iM) (Nat.le_trans h2 l1.len) ha'
  refine⟨s1++s2,DSs.app d1 e1,d2.app e2,fun a hm=>?_,fun v=>?_,fun i=>?_⟩
  ·rw[List.map_append,←List.append_assoc]
   rcases List.mem_cons.1 hm with rfl|hm
   ·exact d3.mono iM
   ·exact e3 a hm
  ·rw[nW,d4 v,e4 v,iL]
   show _=_+rng σ.nv z.2.2.nv v
   rw[cH l1.nv l2.nv v]; omega
  ·rw[nX,d5 i,e5 i]
   exact (nY l1.len l2.len i).symm
theorem bEy {p:Pg}{F:List (List IV)}{n:Nat}(m:Tt p F n){e:Ex}{σ:Mk}{x:Int×Mk}{seen:List Int}(h:eQ (n+1) e σ=some x)(hs:ES p seen e)(hk:e.k=7)(h2:2≤σ.fs.length)(ha:Ag F x.2):∃(f:Nat) (body:Tr),x.1=(f:Int)∧bEx F f (σ.nv::e.vs) e.r body∧OkT p.cs.length p.gl (seen++(σ.nv::e.vs)) body∧(∀v,cn v (σ.nv::e.vs)+cn v (bvs body)=cbE v e+rng σ.nv x.2.nv v)∧∀i,rng f (f+1) i+cn i (mks body)=rng σ.fs.length x.2.fs.length i:=by
 have mo:=mono n
 have hl:=(frN hs.eo.1).k7 hk
 rw[eQ]at h
 split at h
 ·cases h
 ·rename_i b bs hks
  rw[hks]at hl
  have hbs:bs=[]:=by simpa using hl
  subst hbs
  have hb:=hs.kid (x:=b) (by rw[hks]; simp)
  obtain⟨y,hy,h⟩:=Option.bind_eq_some_iff.1 h
  have l1:=mo.code hy
  cases h
  have l2:2≤y.2.fs.length:=Nat.le_trans h2 l1.len
  have hay:Ag F y.2:=ha.le (Le.push _ _)
  have hF:=ha _ _ (by omega:y.2.fs.length≠1) (aF7 y.2 _)
  obtain⟨T,d1,d2,d3,d4⟩:=m.code (seen:=seen++(σ.nv::e.vs)) hy (hb.mono fun v hv=>by
   rcases List.mem_append.1 hv with hv|hv
   ·simp[hv]
   ·simp[hv]) (okV (by simp)) h2 hay
  refine⟨y.2.fs.length,T,rfl,⟨_,_,_,hF,d1⟩,d2,fun v=>?_,fun i=>?_⟩
  ·rw[d3 v,oO v e,hks,iL,nV,cn]
   show _=_+rng σ.nv y.2.nv v
   have l3:σ.nv+1≤y.2.nv:=l1.nv
   rw[cH (by omega:σ.nv≤σ.nv+1) l3 v,show σ.var.nv=σ.nv+1 from rfl]
   omega
  ·rw[d4 i]
   have l4:σ.fs.length≤y.2.fs.length:=l1.len
   show _+rng (σ.fs.length:Int) y.2.fs.length i=rng (σ.fs.length:Int) ((y.2.push _).fs.length:Nat) i
   rw[fJ,nY l4 (by omega:y.2.fs.length≤y.2.fs.length+1) i,show ((y.2.fs.length+1:Nat):Int)=(y.2.fs.length:Int)+1 by omega]
   omega
theorem aZ4 {p:Pg}{F:List (List IV)}{n:Nat}(m:Tt p F n){l:List St}{t:List IV}{σ:Mk}{x:List IV×Mk}{seen:List Int}{sis:List SI}{T0:Tr}(h:cC (n+1) l t σ=some x)(hd:DSs F sis l)(ho:iO p seen sis.reverse)(h0:Dec F T0 t)(hT:OkT p.cs.length p.gl (seen++sis.reverse.map SI.to) T0)(h2:2≤σ.fs.length)(ha:Ag F x.2) :
  ∃T,Dec F T x.1∧OkT p.cs.length p.gl seen T∧(∀v,cn v (bvs T)=cn v (bvs T0)+gX v sis+rng σ.nv x.2.nv v)∧∀i,cn i (mks T)=cn i (mks T0)+iR i sis+rng σ.fs.length x.2.fs.length i:=by
 have mo:=mono n
 match l,sis,hd with
 | [],[],_ =>
  rw[cC]at h
  cases h
  refine⟨T0,h0,by simpa using hT,fun v=>?_,fun i=>?_⟩
  ·rw[gX]; show _=_+0+rng σ.nv σ.nv v; rw[fY]; rfl
  ·rw[iR]; show _=_+0+rng (σ.fs.length:Int) σ.fs.length i; rw[fY]; rfl
 | .tm c to::l,s::r,hd =>
  rw[List.reverse_cons]at ho hT
  obtain⟨o1,o2⟩:=ho.snoc
  rw[List.map_append,←List.append_assoc]at hT
  rw[cC]at h
  cases s with
  | prim v op k ats =>
   have hs:St.tm c to=.tm (wM v op k ats) v:=hd.1
   injection hs with hc hto
   subst hc
   obtain⟨q1,q2,q3,q4⟩:=o2
   obtain⟨T,d1,d2,d3,d4⟩:=m.laid (T0:=.prim v op k ats T0) h hd.2 o1 ⟨_,_,t,rfl,h0⟩ ⟨q1,q2,q3,q4,hT⟩ h2 ha
   refine⟨T,d1,d2,fun w=>?_,fun i=>?_⟩
   ·rw[d3 w,gX,cbS,bvs,cn]; omega
   ·rw[d4 i,iR]; show cn i (mks T0)+_+_=_+(0+_)+_; omega
  | fn v f ps rr body =>
   obtain⟨hs,hf⟩:=hd.1
   injection hs with hc hto
   subst hc
   obtain⟨q1,q2,q3⟩:=o2
   obtain⟨tp,cc,bt,hF,hB⟩:=hf
   obtain⟨T,d1,d2,d3,d4⟩:=m.laid (T0:=.fn v f ps rr body T0) h hd.2 o1 ⟨t,tp,cc,bt,rfl,hF,hB,h0⟩ ⟨q1,q2,q3,hT⟩ h2 ha
   refine⟨T,d1,d2,fun w=>?_,fun i=>?_⟩
   ·rw[d3 w,gX,cbS,bvs,cn,gW,gW]; omega
   ·rw[d4 i,iR,cmS,mks,cn,gW]; omega
  | rs e to' =>
   have hs:St.tm c to=.rs e to':=hd.1
   cases hs
 | .rs e to::l,s::r,hd =>
  rw[List.reverse_cons]at ho hT
  obtain⟨o1,o2⟩:=ho.snoc
  rw[List.map_append,←List.append_assoc]at hT
  rw[cC]at h
  cases s with
  | prim v op k ats =>
   have hs:St.rs e to=.tm (wM v op k ats) v:=hd.1
   cases hs
  | fn v f ps rr body =>
   obtain⟨hs,hf⟩:=hd.1
   cases hs
  | rs e' to' =>
   have hs:St.rs e to=.rs e' to':=hd.1
   injection hs with he hto
   subst he; subst hto
   have o2':ES p (seen++r.reverse.map SI.to) e:=o2
   obtain⟨y,hy,h⟩:=Option.bind_eq_some_iff.1 h
   have l1:=mo.code hy
   have l2:=mo.laid h
   have l3:σ.nv+1≤y.2.nv:=l1.nv
   have l4:=l1.len
   rw[show ((σ.push (fnF .full [to] false true t)).var).fs=(σ.push (fnF .full [to] false true t)).fs from rfl,fJ]at l4
   have hay:=ha.le l2
   have hF:=hay.fn l1 h2
   obtain⟨Te,e1,e2,e3,e4⟩:=m.code (seen:=seen++r.reverse.map SI.to++[σ.nv]) hy (o2'.mono iM) (okV (by simp)) (by show 2≤((σ.push _)).fs.length; rw[fJ]; omega) hay
   obtain⟨T,d1,d2,d3,d4⟩:=m.laid (T0:=.fn σ.nv σ.fs.length [to] false T0 Te) h hd.2 o1 ⟨y.1,_,_,t,rfl,hF,h0,e1⟩ ⟨(fun h=>by cases h),by simp,hT,e2⟩ (by omega) ha
   refine⟨T,d1,d2,fun w=>?_,fun i=>?_⟩
   ·rw[d3 w,gX,cbS,bvs,cn,gW,gW,e3 w,cn,cn]
    show _+(_+0+_+(_+rng (σ.nv+1) y.2.nv w))+_+_=_
    rw[cH (by omega:σ.nv≤σ.nv+1) (by have:=l2.nv; omega:σ.nv+1≤x.2.nv) w,cH l3 l2.nv w]
    omega
   ·rw[d4 i,iR,mks,cn,gW,e4 i]
    show _+(_+rng ((((σ.push (fnF .full [to] false true t)).fs.length:Nat)):Int) y.2.fs.length i)+_+_=_+(0+_)+_
    rw[fJ,nY (by omega:σ.fs.length≤σ.fs.length+1) (Nat.le_trans l4 l2.len) i,nY l4 l2.len i,show ((σ.fs.length+1:Nat):Int)=(σ.fs.length:Int)+1 by omega]
    omega
theorem aT5 {p:Pg}{F:List (List IV)}{n:Nat}(m:Tt p F n){i:Nat}{l:List Ex}{t:List IV}{σ:Mk}{x:List IV×Mk}{seen:List Int}{T0:Tr}(h:dA (n+1) i l t σ=some x)(hs:∀e∈l,ES p seen e)(h0:Dec F T0 t)(hT:OkT p.cs.length p.gl seen T0)(h2:2≤σ.fs.length)(ha:Ag F x.2) :
  ∃T,Dec F T x.1∧OkT p.cs.length p.gl seen T∧(∀v,cn v (bvs T)=cn v (bvs T0)+pL v (l.take (64*i))+rng σ.nv x.2.nv v)∧∀j,cn j (mks T)=cn j (mks T0)+rng σ.fs.length x.2.fs.length j:=by
 have mo:=mono n
 cases i with
 | zero =>
  rw[dA]at h
  cases h
  refine⟨T0,h0,hT,fun v=>?_,fun i=>?_⟩
  ·show _=_+0+rng σ.nv σ.nv v; rw[fY]; rfl
  ·show _=_+rng (σ.fs.length:Int) σ.fs.length i; rw[fY]; rfl
 | succ i =>
  rw[dA]at h
  obtain⟨y,hy,h⟩:=Option.bind_eq_some_iff.1 h
  obtain⟨w,hw,h⟩:=Option.bind_eq_some_iff.1 h
  have l1:=mo.values hy
  have l2:=mo.laid hw
  have l3:=mo.parts h
  have n1:σ.nv+1+1≤y.2.2.nv:=l1.nv
  have n4:=l1.len
  rw[show ((σ.var.push (fnF .full [σ.nv] true true t)).var).fs=(σ.var.push (fnF .full [σ.nv] true true t)).fs from rfl,fJ,show σ.var.fs.length=σ.fs.length from rfl]at n4
  have haw:=ha.le l3
  have hay:=haw.le l2
  have hF:=hay.fn (σ:=σ.var) l1 h2
  rw[show σ.var.fs.length=σ.fs.length from rfl]at hF
  obtain⟨sis,d1,d2,d3,d4,d5⟩:=m.values (seen:=seen++[σ.nv+1]) hy (fun e he=>(hs e (List.mem_of_mem_drop (List.mem_of_mem_take he))).mono iM) (by show 2≤(σ.var.push _).fs.length; rw[fJ]; show 2≤σ.fs.length+1; omega) hay
  have hds:DSs F (.fn (σ.nv+1) σ.fs.length [σ.nv] true T0::sis) (St.tm (fP (σ.nv+1) σ.fs.length (.sl .nil [])) (σ.nv+1)::y.1):=⟨⟨rfl,_,_,t,hF,h0⟩,d1⟩
  have hos:iO p seen (.fn (σ.nv+1) σ.fs.length [σ.nv] true T0::sis):=iO.app (a:=[.fn (σ.nv+1) σ.fs.length [σ.nv] true T0]) (iO.one ⟨fun _=>List.cons_ne_nil _ _,by simp,hT.mono iM⟩) d2
  obtain⟨T1,e1,e2,e3,e4⟩:=m.laid (T0:=.call [aV (σ.nv+1)]) hw hds.rev (by rw[List.reverse_reverse]; exact hos) ⟨.full,rfl⟩ ⟨fun a hm=>by rw[List.mem_singleton]at hm; subst hm; exact okV (by rw[List.reverse_reverse]; simp[SI.to]),by simp,by simp⟩ (by omega) haw
  obtain⟨T,f1,f2,f3,f4⟩:=m.parts h hs e1 e2 (Nat.le_trans h2 (Nat.le_trans (by omega) l2.len)) ha
  refine⟨T,f1,f2,fun v=>?_,fun j=>?_⟩
  ·rw[f3 v,e3 v,kF,gX,cbS,d4 v,show 64*(i+1)=64*i+64 by omega,List.take_add,tO,cn,cn]
   show cn v []+(_+(_+0+_)+(_+rng (σ.nv+1+1) y.2.2.nv v))+_+_+_=_
   rw[cH (by omega:σ.nv≤σ.nv+1) (by have:=l2.nv; have:=l3.nv; omega:σ.nv+1≤x.2.nv) v,cH (by omega:σ.nv+1≤σ.nv+1+1) (by have:=l2.nv; have:=l3.nv; omega:σ.nv+1+1≤x.2.nv) v,cH n1 (Int.le_trans l2.nv l3.nv) v,cH l2.nv l3.nv v,cn]
   omega
  ·rw[f4 j,e4 j,kG,iR,cmS,d5 j]
   show cn j []+(_+_+rng (((σ.var.push (fnF .full [σ.nv] true true t)).fs.length:Nat):Int) y.2.2.fs.length j)+_+_=_
   rw[fJ,show σ.var.fs.length=σ.fs.length from rfl,nY (by omega:σ.fs.length≤σ.fs.length+1) (Nat.le_trans n4 (Nat.le_trans l2.len l3.len)) j,nY n4 (Nat.le_trans l2.len l3.len) j,nY l2.len l3.len j,cn,show ((σ.fs.length+1:Nat):Int)=(σ.fs.length:Int)+1 by omega]
   omega
theorem bHa {p:Pg}{F:List (List IV)}{n:Nat}(m:Tt p F n){l:List Ex}{k:List IV}{σ:Mk}{x:List IV×Mk}{seen:List Int}(h:nC (n+1) l k σ=some x)(hs:∀e∈l,ES p seen e)(hk:nG p.cs.length seen k)(h2:2≤σ.fs.length)(ha:Ag F x.2) :
  ∃T,Dec F T x.1∧OkT p.cs.length p.gl seen T∧(∀v,cn v (bvs T)=pL v l+rng σ.nv x.2.nv v)∧∀i,cn i (mks T)=rng σ.fs.length x.2.fs.length i:=by
 have mo:=mono n
 rw[nC]at h
 split at h
 ·cases h
 ·rename_i z0 hz0
  obtain⟨y,hy,h⟩:=Option.bind_eq_some_iff.1 h
  obtain⟨z,hz,h⟩:=Option.bind_eq_some_iff.1 h
  obtain⟨w,hw,h⟩:=Option.bind_eq_some_iff.1 h
  have l1:=mo.values hy
  have l2:=mo.code hz
  have l3:=mo.laid hw
  have l4:=mo.parts h
  have haw:=ha.le l4
  have haz:=haw.le l3
  have hay:=haz.le l2
  have hne:l≠[]:=by rintro rfl; simp at hz0
  have hsplit:l=l.take (64*((l.length-1) / 64))++(((l.take (l.length-1)).drop (64*((l.length-1) / 64)))++[z0]):=by
   have h1:l=l.take (l.length-1)++[z0]:=by
    rw[List.getLast?_eq_some_getLast hne]at hz0
    cases hz0
    rw[←List.dropLast_eq_take]; exact (List.dropLast_concat_getLast hne).symm
   have h2:l.take (64*((l.length-1) / 64))=(l.take (l.length-1)).take (64*((l.length-1) / 64)):=by rw[List.take_take,Nat.min_eq_left (by omega)]
   rw[h2,←List.append_assoc,List.take_append_drop]
   exact h1
  obtain⟨sis,d1,d2,d3,d4,d5⟩:=m.values hy (fun e he=>hs e (List.mem_of_mem_take (List.mem_of_mem_drop he))) h2 hay
  obtain⟨Tz,z1,z2,z3,z4⟩:=m.code hz (hs z0 (List.mem_of_getLast? hz0)) hk (Nat.le_trans h2 l1.len) haz
  obtain⟨T1,e1,e2,e3,e4⟩:=m.laid hw d1.rev (by rw[List.reverse_reverse]; exact d2) z1 (z2.mono iM) (Nat.le_trans h2 (Nat.le_trans l1.len l2.len)) haw
  obtain⟨T,f1,f2,f3,f4⟩:=m.parts h hs e1 e2 (Nat.le_trans h2 (Nat.le_trans l1.len (Nat.le_trans l2.len l3.len))) ha
  refine⟨T,f1,f2,fun v=>?_,fun j=>?_⟩
  ·have hc:=congrArg (pL v) hsplit
   rw[tO,tO,iL,nV]at hc
   rw[f3 v,e3 v,z3 v,kF,d4 v,cH l1.nv (Int.le_trans l2.nv (Int.le_trans l3.nv l4.nv)) v,cH l2.nv (Int.le_trans l3.nv l4.nv) v,cH l3.nv l4.nv v]
   omega
  ·rw[f4 j,e4 j,z4 j,kG,d5 j,nY l1.len (Nat.le_trans l2.len (Nat.le_trans l3.len l4.len)) j,nY l2.len (Nat.le_trans l3.len l4.len) j,nY l3.len l4.len j]
   omega
theorem bEz {p:Pg}{F:List (List IV)}{n:Nat}(m:Tt p F n){e:Ex}{k:List IV}{σ:Mk}{x:List IV×Mk}{seen:List Int}(h:nB (n+1) e k σ=some x)(hs:ES p seen e)(hk:e.k=11)(ho:nG p.cs.length seen k)(h2:2≤σ.fs.length)(ha:Ag F x.2) :
  ∃T,Dec F T x.1∧OkT p.cs.length p.gl seen T∧(∀v,cn v (bvs T)=cbE v e+rng σ.nv x.2.nv v)∧∀i,cn i (mks T)=rng σ.fs.length x.2.fs.length i:=by
 have mo:=mono n
 have hp:=frP hs.eo.1
 have hvs:=hp.vs (by omega)
 rw[nB]at h
 obtain⟨y,hy,h⟩:=Option.bind_eq_some_iff.1 h
 have l1:=mo.values hy
 have hce:∀v,cbE v e=pL v e.ks:=fun v=>by rw[oO,hvs]; show 0+_=_; omega
 have hKs:∀x∈e.ks,ES p seen x:=fun x hx=>hs.kid' (by omega) hx
 split at h
 ·split at h
  ·rename_i a b r hat
   have l2:=mo.laid h
   obtain⟨sis,d1,d2,d3,d4,d5⟩:=m.values hy hKs h2 (ha.le l2)
   rw[hat]at d3
   obtain⟨T,f1,f2,f3,f4⟩:=m.laid (T0:=.appl [a,k,b]) h d1.rev (by rw[List.reverse_reverse]; exact d2) ⟨.full,rfl⟩ ⟨fun q hq=>by
    rw[List.reverse_reverse]
    rcases List.mem_cons.1 hq with rfl|hq
    ·exact d3 _ (by simp)
    ·rcases List.mem_cons.1 hq with rfl|hq
     ·exact ho.mono iM
     ·rw[List.mem_singleton]at hq; subst hq; exact d3 _ (by simp),by simp,by simp⟩ (Nat.le_trans h2 l1.len) ha
   refine⟨T,f1,f2,fun v=>?_,fun i=>?_⟩
   ·rw[f3 v,kF,d4 v,hce,cH l1.nv l2.nv v]
    show 0+_+_=_
    omega
   ·rw[f4 i,kG,d5 i,nY l1.len l2.len i]
    show 0+_+_=_
    omega
  ·cases h
 ·split at h
  ·split at h
   ·rename_i a r hat
    have l2:=mo.laid h
    have l0:Le y.2.2 x.2:=((Le.var _).trans ((Le.var _).trans ((Le.push _ _).trans (Le.var _)))).trans l2
    obtain⟨sis,d1,d2,d3,d4,d5⟩:=m.values hy hKs h2 (ha.le l0)
    rw[hat]at d3
    have h2':2≤y.2.2.fs.length:=Nat.le_trans h2 l1.len
    have hF:=ha.fn (σ:=y.2.2.var.var) l2 h2'
    have hds:DSs F (sis++[.fn (y.2.2.nv+2) y.2.2.fs.length [y.2.2.nv,y.2.2.nv+1] true (.appl [k,aV (y.2.2.nv+1)])]) (y.1++[St.tm (fP (y.2.2.nv+2) y.2.2.fs.length (.sl .nil [])) (y.2.2.nv+2)]):=DSs.app d1 ⟨⟨rfl,_,_,_,hF,.full,rfl⟩,trivial⟩
    have hos:iO p seen (sis++[.fn (y.2.2.nv+2) y.2.2.fs.length [y.2.2.nv,y.2.2.nv+1] true (.appl [k,aV (y.2.2.nv+1)])]):=d2.app (iO.one (show OkS p _ (.fn (y.2.2.nv+2) y.2.2.fs.length [y.2.2.nv,y.2.2.nv+1] true (.appl [k,aV (y.2.2.nv+1)])) from⟨fun _=>List.cons_ne_nil _ _,by simp,fun q hq=>by
     rcases List.mem_cons.1 hq with rfl|hq
     ·exact (ho.mono iM).mono iM
     ·rw[List.mem_singleton]at hq; subst hq; exact okV (by simp),by simp,by simp⟩))
    obtain⟨T,f1,f2,f3,f4⟩:=m.laid (T0:=.call [a,k,aV (y.2.2.nv+2)]) h hds.rev (by rw[List.reverse_reverse]; exact hos) ⟨.full,rfl⟩ ⟨fun q hq=>by
     rw[List.reverse_reverse,List.map_append,←List.append_assoc]
     rcases List.mem_cons.1 hq with rfl|hq
     ·exact (d3 _ (by simp)).mono iM
     ·rcases List.mem_cons.1 hq with rfl|hq
      ·exact (ho.mono iM).mono iM
      ·rw[List.mem_singleton]at hq; subst hq; exact okV (by simp[SI.to]),by simp,by simp⟩ (by show 2≤(y.2.2.var.var.push _).fs.length; rw[fJ]; show 2≤y.2.2.fs.length+1; omega) ha
    have n2:y.2.2.nv+1+1+1≤x.2.nv:=l2.nv
    have n3:=l2.len
    rw[show ((y.2.2.var.var.push (fnF .full [y.2.2.nv,y.2.2.nv+1] true false (lW [k,aV (y.2.2.nv+1)]))).var).fs=(y.2.2.var.var.push (fnF .full [y.2.2.nv,y.2.2.nv+1] true false (lW [k,aV (y.2.2.nv+1)]))).fs from rfl,fJ,show y.2.2.var.var.fs.length=y.2.2.fs.length from rfl]at n3
    refine⟨T,f1,f2,fun v=>?_,fun i=>?_⟩
    ·rw[f3 v,kF,nW,gX,gX,cbS,d4 v,hce,cH l1.nv l0.nv v,cH (by omega:y.2.2.nv≤y.2.2.nv+1) (by omega:y.2.2.nv+1≤x.2.nv) v,cH (by omega:y.2.2.nv+1≤y.2.2.nv+1+1) (by omega:y.2.2.nv+1+1≤x.2.nv) v,cH (by omega:y.2.2.nv+1+1≤y.2.2.nv+1+1+1) n2 v,cn,cn,cn]
     rw[show y.2.2.nv+2=y.2.2.nv+1+1 by omega]
     show 0+(_+(_+(_+(_+0)+0))+0)+rng (y.2.2.nv+1+1+1) x.2.nv v=_
     omega
    ·rw[f4 i,kG,nX,iR,iR,cmS,d5 i,nY l1.len (Nat.le_trans (by omega) n3) i,nY (by omega:y.2.2.fs.length≤y.2.2.fs.length+1) n3 i]
     show 0+(_+(rng (y.2.2.fs.length:Int) ((y.2.2.fs.length:Int)+1) i+0+0))+rng (((y.2.2.var.var.push (fnF .full [y.2.2.nv,y.2.2.nv+1] true false (lW [k,aV (y.2.2.nv+1)]))).fs.length:Nat):Int) x.2.fs.length i=_
     rw[fJ,show y.2.2.var.var.fs.length=y.2.2.fs.length from rfl,show ((y.2.2.fs.length+1:Nat):Int)=(y.2.2.fs.length:Int)+1 by omega]
     omega
   ·cases h
  ·split at h
   ·rename_i a b r hat
    have l2:=mo.laid h
    have l0:Le y.2.2 x.2:=((Le.var _).trans ((Le.push _ _).trans (Le.var _))).trans l2
    obtain⟨sis,d1,d2,d3,d4,d5⟩:=m.values hy hKs h2 (ha.le l0)
    rw[hat]at d3
    have h2':2≤y.2.2.fs.length:=Nat.le_trans h2 l1.len
    have hF:=ha.fn (σ:=y.2.2.var) l2 h2'
    have hds:DSs F (sis++[.fn (y.2.2.nv+1) y.2.2.fs.length [y.2.2.nv] true (.appl [b,k,aV y.2.2.nv])]) (y.1++[St.tm (fP (y.2.2.nv+1) y.2.2.fs.length (.sl .nil [])) (y.2.2.nv+1)]):=DSs.app d1 ⟨⟨rfl,_,_,_,hF,.full,rfl⟩,trivial⟩
    have hos:iO p seen (sis++[.fn (y.2.2.nv+1) y.2.2.fs.length [y.2.2.nv] true (.appl [b,k,aV y.2.2.nv])]):=d2.app (iO.one (show OkS p _ (.fn (y.2.2.nv+1) y.2.2.fs.length [y.2.2.nv] true (.appl [b,k,aV y.2.2.nv])) from⟨fun _=>List.cons_ne_nil _ _,by simp,fun q hq=>by
     rcases List.mem_cons.1 hq with rfl|hq
     ·exact (d3 _ (by simp)).mono iM
     ·rcases List.mem_cons.1 hq with rfl|hq
      ·exact (ho.mono iM).mono iM
      ·rw[List.mem_singleton]at hq; subst hq; exact okV (by simp),by simp,by simp⟩))
    obtain⟨T,f1,f2,f3,f4⟩:=m.laid (T0:=.call [a,aV (y.2.2.nv+1)]) h hds.rev (by rw[List.reverse_reverse]; exact hos) ⟨.full,rfl⟩ ⟨fun q hq=>by
     rw[List.reverse_reverse,List.map_append,←List.append_assoc]
     rcases List.mem_cons.1 hq with rfl|hq
     ·exact (d3 _ (by simp)).mono iM
     ·rw[List.mem_singleton]at hq; subst hq; exact okV (by simp[SI.to]),by simp,by simp⟩ (by show 2≤(y.2.2.var.push _).fs.length; rw[fJ]; show 2≤y.2.2.fs.length+1; omega) ha
    have n2:y.2.2.nv+1+1≤x.2.nv:=l2.nv
    have n3:=l2.len
    rw[show ((y.2.2.var.push (fnF .full [y.2.2.nv] true true (lW [b,k,aV y.2.2.nv]))).var).fs=(y.2.2.var.push (fnF .full [y.2.2.nv] true true (lW [b,k,aV y.2.2.nv]))).fs from rfl,fJ,show y.2.2.var.fs.length=y.2.2.fs.length from rfl]at n3
    refine⟨T,f1,f2,fun v=>?_,fun i=>?_⟩
    ·rw[f3 v,kF,nW,gX,gX,cbS,d4 v,hce,cH l1.nv l0.nv v,cH (by omega:y.2.2.nv≤y.2.2.nv+1) (by omega:y.2.2.nv+1≤x.2.nv) v,cH (by omega:y.2.2.nv+1≤y.2.2.nv+1+1) n2 v,cn,cn]
     show 0+(_+(_+(_+0+0)+0))+rng (y.2.2.nv+1+1) x.2.nv v=_
     omega
    ·rw[f4 i,kG,nX,iR,iR,cmS,d5 i,nY l1.len (Nat.le_trans (by omega) n3) i,nY (by omega:y.2.2.fs.length≤y.2.2.fs.length+1) n3 i]
     show 0+(_+(rng (y.2.2.fs.length:Int) ((y.2.2.fs.length:Int)+1) i+0+0))+rng (((y.2.2.var.push (fnF .full [y.2.2.nv] true true (lW [b,k,aV y.2.2.nv]))).fs.length:Nat):Int) x.2.fs.length i=_
     rw[fJ,show y.2.2.var.fs.length=y.2.2.fs.length from rfl,show ((y.2.2.fs.length+1:Nat):Int)=(y.2.2.fs.length:Int)+1 by omega]
     omega
   ·cases h
theorem aZ5 {p:Pg}{F:List (List IV)}{n:Nat}(m:Tt p F n){e:Ex}{k:List IV}{σ:Mk}{x:List IV×Mk}{seen:List Int}(h:eS (n+1) e k σ=some x)(hs:ES p seen e)(ho:nG p.cs.length seen k)(h2:2≤σ.fs.length)(ha:Ag F x.2) :
  ∃T,Dec F T x.1∧OkT p.cs.length p.gl seen T∧(∀v,cn v (bvs T)=cbE v e+rng σ.nv x.2.nv v)∧∀i,cn i (mks T)=rng σ.fs.length x.2.fs.length i:=by
 have mo:=mono n
 have hp:=frP hs.eo.1
 have hw:=Ex.w_eq e
 have hw2:=hs.eo.2.2
 have hkl:=Ex.ws_len e.ks
 rw[eS]at h
 split at h
 ·rename_i hk
  have hvs:=hp.vs (by omega)
  have hce:∀v,cbE v e=pL v e.ks:=fun v=>by rw[oO,hvs]; show 0+_=_; omega
  obtain⟨y,hy,h⟩:=Option.bind_eq_some_iff.1 h
  have l1:=mo.values hy
  obtain⟨s1,s2,s3,s4⟩:=(dP n).values hy (fun x hx=>(hs.eo.kid hx).2)
  split at h
  ·cases h
  ·rename_i a r hat
   have l2:=mo.laid h
   obtain⟨sis,d1,d2,d3,d4,d5⟩:=m.values hy (fun x hx=>hs.kid' (by omega) hx) h2 (ha.le l2)
   rw[hat]at d3 s4
   rw[List.length_cons]at s4
   obtain⟨T,f1,f2,f3,f4⟩:=m.laid (T0:=.call (a::k::r)) h d1.rev (by rw[List.reverse_reverse]; exact d2) ⟨.no,rfl⟩ ⟨fun q hq=>by
    rw[List.reverse_reverse]
    rcases List.mem_cons.1 hq with rfl|hq
    ·exact d3 _ (by simp)
    ·rcases List.mem_cons.1 hq with rfl|hq
     ·exact ho.mono iM
     ·exact d3 _ (List.mem_cons_of_mem _ hq),by simp,by rw[List.length_cons,List.length_cons]; omega⟩ (Nat.le_trans h2 l1.len) ha
   refine⟨T,f1,f2,fun v=>?_,fun i=>?_⟩
   ·rw[f3 v,kF,d4 v,hce,cH l1.nv l2.nv v]
    show 0+_+_=_
    omega
   ·rw[f4 i,kG,d5 i,nY l1.len l2.len i]
    show 0+_+_=_
    omega
 ·split at h
  ·rename_i h8 hk
   split at h
   ·rename_i c0 p0 q0 rr hks
    have hl:=(frN hs.eo.1).k6 hk
    rw[hks]at hl
    have hrr:rr=[]:=by simpa using hl
    subst hrr
    have hvs:=hp.vs (by omega)
    have hK:∀x∈[c0,p0,q0],ES p seen x:=fun x hx=>hs.kid' (by omega) (by rw[hks]; exact hx)
    obtain⟨y,hy,h⟩:=Option.bind_eq_some_iff.1 h
    obtain⟨z,hz,h⟩:=Option.bind_eq_some_iff.1 h
    obtain⟨w,hw',h⟩:=Option.bind_eq_some_iff.1 h
    have l1:=mo.value hy
    have l2:=mo.code hz
    have l3:=mo.code hw'
    have l4:=mo.laid h
    have haw:=ha.le l4
    have haz:=haw.le l3
    have hay:=haz.le l2
    obtain⟨sis,d1,d2,d3,d4,d5⟩:=m.value hy (hK c0 (by simp)) h2 hay
    obtain⟨Tp,p1,p2,p3,p4⟩:=m.code hz (hK p0 (by simp)) ho (Nat.le_trans h2 l1.len) haz
    obtain⟨Tq,q1,q2,q3,q4⟩:=m.code hw' (hK q0 (by simp)) ho (Nat.le_trans h2 (Nat.le_trans l1.len l2.len)) haw
    obtain⟨T,f1,f2,f3,f4⟩:=m.laid (T0:=.ite y.2.1 Tp Tq) h d1.rev (by rw[List.reverse_reverse]; exact d2) ⟨_,_,rfl,p1,q1⟩ (by rw[List.reverse_reverse]; exact⟨d3,p2.mono iM,q2.mono iM⟩) (Nat.le_trans h2 (Nat.le_trans l1.len (Nat.le_trans l2.len l3.len))) ha
    refine⟨T,f1,f2,fun v=>?_,fun i=>?_⟩
    ·rw[f3 v,kF,d4 v,oO v e,hvs,hks,iL,iL,iL,nV,bvs,gW,p3 v,q3 v,cH l1.nv (Int.le_trans l2.nv (Int.le_trans l3.nv l4.nv)) v,cH l2.nv (Int.le_trans l3.nv l4.nv) v,cH l3.nv l4.nv v,cn]
     omega
    ·rw[f4 i,kG,d5 i,mks,gW,p4 i,q4 i,nY l1.len (Nat.le_trans l2.len (Nat.le_trans l3.len l4.len)) i,nY l2.len (Nat.le_trans l3.len l4.len) i,nY l3.len l4.len i]
     omega
   ·cases h
  ·split at h
   ·rename_i hk
    have hvs:=hp.vs (by omega)
    obtain⟨T,f1,f2,f3,f4⟩:=m.sq h (fun x hx=>hs.kid' (by omega) hx) ho h2 ha
    refine⟨T,f1,f2,fun v=>?_,f4⟩
    rw[f3 v,oO,hvs]
    show _=0+_+_
    omega
   ·split at h
    ·rename_i hk; exact m.ctl h hs hk ho h2 ha
    ·obtain⟨y,hy,h⟩:=Option.bind_eq_some_iff.1 h
     have l1:=mo.value hy
     have l2:=mo.laid h
     obtain⟨sis,d1,d2,d3,d4,d5⟩:=m.value hy hs h2 (ha.le l2)
     obtain⟨T,f1,f2,f3,f4⟩:=m.laid (T0:=.call [k,y.2.1]) h d1.rev (by rw[List.reverse_reverse]; exact d2) ⟨.full,rfl⟩ ⟨fun q hq=>by
      rw[List.reverse_reverse]
      rcases List.mem_cons.1 hq with rfl|hq
      ·exact ho.mono iM
      ·rw[List.mem_singleton]at hq; subst hq; exact d3,by simp,by simp⟩ (Nat.le_trans h2 l1.len) ha
     refine⟨T,f1,f2,fun v=>?_,fun i=>?_⟩
     ·rw[f3 v,kF,d4 v,cH l1.nv l2.nv v]
      show 0+_+_=_
      omega
     ·rw[f4 i,kG,d5 i,nY l1.len l2.len i]
      show 0+_+_=_
      omega
theorem bDj (p:Pg)(F:List (List IV)):∀n,Tt p F n
 | 0=>⟨fun h=>by simp[eG]at h,fun h=>by simp[bP]at h,fun h=>by simp[eQ]at h,fun h=>by simp[cC]at h,fun h=>by simp[eS]at h,fun h=>by simp[nB]at h,fun h=>by simp[nC]at h,fun h=>by simp[dA]at h⟩
 | n+1=>by
  have m:=bDj p F n
  exact⟨fun h=>aT4 m h,fun h=>aOj m h,fun h=>bEy m h,fun h=>aZ4 m h,fun h=>aZ5 m h,fun h=>bEz m h,fun h=>bHa m h,fun h=>aT5 m h⟩
end Go.Proofs.YtageemgcnoblnaaDoor
