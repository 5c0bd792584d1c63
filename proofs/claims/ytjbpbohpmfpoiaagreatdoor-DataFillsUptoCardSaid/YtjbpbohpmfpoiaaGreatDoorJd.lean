/- Some texts of the proof, joined. Condition: none. -/
import Derived.Test.YtjbpbohpmfpoiaaGreatDoorJb
import Derived.Test.YtjbpbohpmfpoiaaGreatDoorKr1
import Derived.Test.YtjbpbohpmfpoiaaGreatDoorJa
import Derived.Test.YtjbpbohpmfpoiaaGreatDoorRows
import Derived.Test.YtjbpbohpmfpoiaaGreatDoorTmE
import Derived.Test.YtjbpbohpmfpoiaaGreatDoorJc
set_option maxRecDepth 100000
set_option maxHeartbeats 64000000
set_option linter.unusedSimpArgs false
set_option linter.unusedVariables false
namespace Go.Proofs.YtjbpbohpmfpoiaaGreatDoor
open Go Go.TM
def pN:Nat→Dt→Int
 | 0,_=>9000
 | n+1,d=>nI 9000 (pN n) (1+d.t.length) d.ks
theorem aE9 {B C:Int}(hC:9000+B≤C)(f:Dt→Int):∀(l:List Dt) (hf:∀x∈l,0≤f x∧f x≤B) (a:Int),0≤a→a≤C→0≤nI 9000 f a l∧nI 9000 f a l≤C
 | [],_,a,h0,h1=>⟨h0,h1⟩
 | x::r,hf,a,h0,h1=>by
  rw[nI]
  split
  ·have:=hf x (by simp)
   exact aE9 hC f r (fun y hy=>hf y (by simp[hy])) _ (by omega) (by omega)
  ·exact⟨h0,h1⟩
theorem aLt:∀(n:Nat) (d:Dt),d.w≤1048576→0≤pN n d∧pN n d≤2000000+9000*n
 | 0,d,h=>by rw[pN]; omega
 | n+1,d,h=>by
  have hw:=Dt.w_eq d
  rw[pN]
  refine (aE9 (B:=2000000+9000*n) (C:=2000000+9000*(n+1:Nat)) (by omega) (pN n) d.ks (fun x hx=>aLt n x (by have:=Dt.ws_mem hx; omega)) _ (by omega) (by omega))
theorem uK (f:Dt→Int):∀(l:List Dt) (hf:∀x∈l,0≤f x∧(f x≤300→(x.w:Int)≤f x)) (a:Int),0≤a→nI 9000 f a l≤300→a+(Dt.ws l:Nat)≤nI 9000 f a l
 | [],_,a,h0,h=>by rw[nI,Dt.ws]; omega
 | x::r,hf,a,h0,h=>by
  rw[nI]at h ⊢
  by_cases ha:a<9000
  ·rw[if_pos ha]at h ⊢
   obtain⟨h1,h2⟩:=hf x (by simp)
   have:=uK f r (fun y hy=>hf y (by simp[hy])) _ (by omega) h
   have:=h2 (by omega)
   rw[Dt.ws]
   omega
  ·rw[if_neg ha]at h; omega
theorem aFa:∀(n:Nat) (d:Dt),d.w≤1048576→pN n d≤300→(d.w:Int)≤pN n d
 | 0,d,h,h0=>by rw[pN]at h0; omega
 | n+1,d,h,h0=>by
  have hw:=Dt.w_eq d
  rw[pN]at h0 ⊢
  have:=uK (pN n) d.ks (fun x hx=>⟨(aLt n x (by have:=Dt.ws_mem hx; omega)).1,aFa n x (by have:=Dt.ws_mem hx; omega)⟩) _ (by omega) h0
  omega
theorem aSg {m:Nat}(hm:m≤1000){d:Dt}(hd:d.ks.length≤1048576)(H:∀x∈d.ks,TM.Pure K 18 [agD x,.iv (.int .i64 m)] (.iv (.int .i64 (pN m x)))∧0≤pN m x∧pN m x≤20000000)(x0 x3:TV)(S:aA):∀(k i:Nat) (n:Int) (x6 x7:TV),i+k=d.ks.length→0≤n∧n≤100000000 →
  ∃y5 y7,lp' (lim K) t18L0 [x0,.iv (.int .i64 ((m:Int)+1)),lbD d,x3,.iv (.int .i64 n),.iv (.int .i64 i),x6,x7] S=.ret (.exit 0,[x0,.iv (.int .i64 ((m:Int)+1)),lbD d,x3,.iv (.int .i64 (nI 9000 (pN m) n (d.ks.drop i))),y5,x6,y7],S)
 | 0,i,n,x6,x7,h,hn=>by
  obtain rfl:i=d.ks.length:=by omega
  have hle:=bN d.ks
  rw[List.drop_length,nI]
  refine⟨.iv (.int .i64 d.ks.length),.iv (.bool false),aP K _ _ t18L0.eq_1 ?_⟩
  unfold lbD
  simp (config := { maxSteps := 4000000 }) (disch:=omega) only[go_sem,hle]
 | k+1,i,n,x6,x7,h,hn=>by
  have hla:i<d.ks.length:=by omega
  have hle:=bN d.ks
  have hdr:d.ks.drop i=d.ks[i]::d.ks.drop (i+1):=List.drop_eq_getElem_cons hla
  obtain⟨c18,hb⟩:=H d.ks[i] (List.getElem_mem _)
  have hix:=ixD (g:=d.g) (ks:=d.ks) (i:=(i:Int)) (by omega)
  have hgd:d.ks.getD i default=d.ks[i]:=by simp[List.getD,List.getElem?_eq_getElem hla]
  rw[Int.toNat_natCast,hgd]at hix
  rw[hdr,nI]
  by_cases hn9:n<9000
  ·rw[if_pos hn9]
   obtain⟨y5,y7,ih⟩:=aSg hm hd H x0 x3 S k (i+1) (n+pN m d.ks[i]) x6 (.iv (.bool true)) (by omega) (by omega)
   rw[show ((i+1:Nat):Int)=(i:Int)+1 by omega]at ih
   refine⟨y5,y7,aP K _ _ t18L0.eq_1 ?_⟩
   generalize d.ks[i]=x at *
   unfold agD at c18
   unfold lbD at ih ⊢
   rw[bC x]at hix
   generalize pN m x=v at *
   simp (config := { maxSteps := 4000000 }) (disch:=omega) only[go_sem,hle,hix,aMo,hn9,aJ c18,Int.add_sub_cancel,aE]
   exact congrArg er ih
  ·rw[if_neg hn9]
   refine⟨.iv (.int .i64 i),.iv (.bool false),aP K _ _ t18L0.eq_1 ?_⟩
   unfold lbD
   simp (config := { maxSteps := 4000000 }) (disch:=omega) only[go_sem,hle,hn9]
theorem aSh:∀(m:Nat),m≤1000→∀d:Dt,d.w≤1048576→TM.Pure K 18 [agD d,.iv (.int .i64 m)] (.iv (.int .i64 (pN m d)))
 | 0,hm,d,hd=>by
  unfold agD
  rw[pN]
  refine bP t18 rfl rfl ?_
  simp (config := { maxSteps := 4000000 }) (disch:=omega) only[t18,go_sem,Int.natCast_zero]
 | m+1,hm,d,hd=>by
  have hw:=Dt.w_eq d
  have hwl:=Dt.ws_len d.ks
  obtain⟨y5,y7,l⟩:=aSg (m:=m) (by omega) (d:=d) (by omega) (fun x hx=>by
   have hxw:x.w≤1048576:=by have:=Dt.ws_mem hx; omega
   have:=aLt m x hxw
   exact⟨aSh m (by omega) x hxw,this.1,by omega⟩) (.iv (.agg [.int .i64 d.k,.int .i64 d.n,.str d.t,.sl d.g (aY d.ks),.int .i64 d.p])) (.iv (.int .i64 0)) [] d.ks.length 0 (1+d.t.length) (.iv (.bool false)) u_ (by omega) (by omega)
  rw[List.drop_zero,show ((0:Nat):Int)=0 from rfl]at l
  rw[pN,show ((m+1:Nat):Int)=(m:Int)+1 by omega]
  unfold agD
  unfold lbD at l
  have hne:¬((m:Int)+1=0):=by omega
  refine bP t18 rfl rfl ?_
  simp (config := { maxSteps := 4000000 }) (disch:=omega) only[t18,go_sem,hne,aE]
  rw[l]
  simp (config := { maxSteps := 4000000 }) (disch:=omega) only[go_sem]
theorem bB3 {cs:List Dt}(g:Tag)(hw:Dt.ws cs≤1048576)(x1:TV)(S:aA):∀(k i:Nat) (x3 x4:TV),i+k=cs.length →
  ∃y2 y3 y4,((i<cs.length∧i<30→∀x∈(cs.drop i).take (30-i),pN 60 x≤300)∧lp' (lim K) t6L0 [.iv (.sl g (aY cs)),.iv (.bool false),.iv (.int .i64 i),x3,x4] S=.ret (.exit 0,[.iv (.sl g (aY cs)),.iv (.bool false),y2,y3,y4],S))∨lp' (lim K) t6L0 [.iv (.sl g (aY cs)),.iv (.bool false),.iv (.int .i64 i),x3,x4] S=.ret (.ret,[.iv (.sl g (aY cs)),.iv (.bool true),y2,y3,y4],S)
 | 0,i,x3,x4,h=>by
  obtain rfl:i=cs.length:=by omega
  have hle:=bN cs
  have hwl:=Dt.ws_len cs
  refine⟨.iv (.int .i64 cs.length),.iv (.bool false),x4,.inl ⟨fun h=>by omega,aP K _ _ t6L0.eq_1 ?_⟩⟩
  simp (config := { maxSteps := 4000000 }) (disch:=omega) only[go_sem,hle]
 | k+1,i,x3,x4,h=>by
  have hla:i<cs.length:=by omega
  have hle:=bN cs
  have hwl:=Dt.ws_len cs
  have hdr:cs.drop i=cs[i]::cs.drop (i+1):=List.drop_eq_getElem_cons hla
  have hwi:cs[i].w≤1048576:=by have:=Dt.ws_mem (List.getElem_mem hla); omega
  have c18:=aSh 60 (by omega) cs[i] hwi
  have hix:=ixD (g:=g) (ks:=cs) (i:=(i:Int)) (by omega)
  have hgd:cs.getD i default=cs[i]:=by simp[List.getD,List.getElem?_eq_getElem hla]
  rw[Int.toNat_natCast,hgd]at hix
  by_cases h30:i<30
  ·by_cases hp:300<pN 60 cs[i]
   ·refine⟨.iv (.int .i64 i),.iv (.bool true),.iv (.bool true),.inr (aP K _ _ t6L0.eq_1 ?_)⟩
    generalize cs[i]=x at *
    unfold agD at c18
    rw[bC x]at hix
    rw[show ((60:Nat):Int)=60 from rfl]at c18
    simp (config := { maxSteps := 4000000 }) (disch:=omega) only[go_sem,hle,hix,aMo,aJ c18,hp]
   ·obtain⟨y2,y3,y4,ih⟩:=bB3 g hw x1 S k (i+1) (.iv (.bool true)) (.iv (.bool false)) (by omega)
    rw[show ((i+1:Nat):Int)=(i:Int)+1 by omega]at ih
    refine⟨y2,y3,y4,?_⟩
    have hpl:¬(300<pN 60 cs[i]):=hp
    have hc:∀ {P:Prop},(i+1<cs.length∧i+1<30→∀x∈(cs.drop (i+1)).take (30-(i+1)),pN 60 x≤300)→(i<cs.length∧i<30→∀x∈(cs.drop i).take (30-i),pN 60 x≤300):=fun hh _ x hx=>by
     rw[hdr,show 30-i=(30-(i+1))+1 by omega,List.take_succ_cons]at hx
     rcases List.mem_cons.1 hx with rfl|hx
     ·omega
     ·by_cases h2:i+1<cs.length∧i+1<30
      ·exact hh h2 x hx
      ·have:(cs.drop (i+1)).take (30-(i+1))=[]:=by
        by_cases h3:i+1<cs.length
        ·rw[show 30-(i+1)=0 by omega,List.take_zero]
        ·rw[List.drop_of_length_le (by omega),List.take_nil]
       rw[this]at hx; cases hx
    rcases ih with⟨e,ih⟩|ih
    ·refine .inl ⟨hc (P:=True) e,aP K _ _ t6L0.eq_1 ?_⟩
     clear hc e
     generalize cs[i]=x at *
     unfold agD at c18
     rw[bC x]at hix
     rw[show ((60:Nat):Int)=60 from rfl]at c18
     simp (config := { maxSteps := 4000000 }) (disch:=omega) only[go_sem,hle,hix,aMo,aJ c18,hpl,aE]
     exact congrArg er ih
    ·refine .inr (aP K _ _ t6L0.eq_1 ?_)
     clear hc
     generalize cs[i]=x at *
     unfold agD at c18
     rw[bC x]at hix
     rw[show ((60:Nat):Int)=60 from rfl]at c18
     simp (config := { maxSteps := 4000000 }) (disch:=omega) only[go_sem,hle,hix,aMo,aJ c18,hpl,aE]
     exact congrArg er ih
  ·refine⟨.iv (.int .i64 i),.iv (.bool false),x4,.inl ⟨fun h=>by omega,aP K _ _ t6L0.eq_1 ?_⟩⟩
   simp (config := { maxSteps := 4000000 }) (disch:=omega) only[go_sem,hle]
theorem bFw {cs:List Dt}(g:Tag)(hw:Dt.ws cs≤1048576):∃r:Bool,TM.Pure K 6 [.iv (.sl g (aY cs))] (.iv (.bool r))∧(r=false→cs.length≤20∧∀d∈cs,d.w≤300):=by
 have hle:=bN cs
 have hwl:=Dt.ws_len cs
 obtain⟨y2,y3,y4,l⟩:=bB3 g hw u_ [] cs.length 0 u_ u_ (by omega)
 rw[show ((0:Nat):Int)=0 from rfl]at l
 rcases l with⟨hs,l⟩|l
 ·refine⟨decide ((20:Int)<cs.length),bP t6 rfl rfl ?_,fun h=>?_⟩
  ·simp (config := { maxSteps := 4000000 }) (disch:=omega) only[t6,go_sem]
   rw[l]
   simp (config := { maxSteps := 4000000 }) (disch:=omega) only[go_sem,hle]
  ·have hl20:cs.length≤20:=by have:=of_decide_eq_false h; omega
   refine⟨hl20,fun d hd=>?_⟩
   have hp:0<cs.length:=List.length_pos_of_mem hd
   have:=hs ⟨hp,by omega⟩ d (by rw[List.drop_zero,List.take_of_length_le (by omega)]; exact hd)
   have:=aFa 60 d (by have:=Dt.ws_mem hd; omega) this
   have:=aLt 60 d (by have:=Dt.ws_mem hd; omega)
   omega
 ·refine⟨true,bP t6 rfl rfl ?_,fun h=>by cases h⟩
  simp (config := { maxSteps := 4000000 }) (disch:=omega) only[t6,go_sem]
  rw[l]
  simp (config := { maxSteps := 4000000 }) (disch:=omega) only[go_sem]
end Go.Proofs.YtjbpbohpmfpoiaaGreatDoor
namespace Go.Proofs.YtjbpbohpmfpoiaaGreatDoor
open Go Go.TM Go.ChangeShapes Go.WideShapes
section
variable {P:Program}{H:Type}
theorem xN {t:TypeId}{fs:Array Field}{d:DataW H}{l:List IV}(hu:P.underlying t=some (.struct fs))(h:Ty P t d l) :
  ∃(ds:List (DataW H)) (ls:List (List IV)),d=.agg ds∧l=bM ls∧nM P (fs.toList.map (·.type)) ds ls:=by
 have h0:=h
 cases h with
 | bool u ht b=>rw[hu]at ht; cases ht
 | int u k ht=>rw[hu]at ht; cases ht
 | str u ht=>rw[hu]at ht; cases ht
 | nilp u e ht=>rw[hu]at ht; cases ht
 | ptr u e ht=>rw[hu]at ht; cases ht
 | nils u e ht=>rw[hu]at ht; cases ht
 | sl u e ht=>rw[hu]at ht; cases ht
 | struct u fs' ht ds ls h1 h2 h hl =>
  rw[hu]at ht; cases ht
  refine⟨ds,ls,rfl,rfl,?_⟩
  have key:∀(fs:List Field) (ds:List (DataW H)) (ls:List (List IV)),ds.length=fs.length→ls.length=fs.length→(∀(i:Nat) (f:Field) (d:DataW H) (l:List IV),fs[i]? = some f→ds[i]? = some d→ls[i]? = some l→Ty P f.type d l)→nM P (fs.map (·.type)) ds ls:=by
   intro fs
   induction fs with
   | nil =>
    intro ds ls h1 h2 _
    have e1:ds=[]:=List.eq_nil_of_length_eq_zero (by simpa using h1)
    have e2:ls=[]:=List.eq_nil_of_length_eq_zero (by simpa using h2)
    subst e1; subst e2; exact trivial
   | cons f fs ih =>
    intro ds ls h1 h2 h
    cases ds with
    | nil=>simp at h1
    | cons d ds =>
     cases ls with
     | nil=>simp at h2
     | cons l ls=>exact⟨h 0 f d l rfl rfl rfl,ih ds ls (by simpa using h1) (by simpa using h2) (fun i f' d' l' hf hd hl'=>h (i+1) f' d' l' (by simpa using hf) (by simpa using hd) (by simpa using hl'))⟩
  exact key fs.toList ds ls (by simpa using h1) (by simpa using h2) (fun i f d l hf hd hl'=>h i f d l (by simpa using hf) hd hl')
 | array u e n ht=>rw[hu]at ht; cases ht
theorem fX {t:TypeId}{ts:List TypeId}{ds:List (DataW H)}{ls:List (List IV)}(h:nM P (t::ts) ds ls):∃(d:DataW H) (l:List IV) (ds':List (DataW H)) (ls':List (List IV)),ds=d::ds'∧ls=l::ls'∧Ty P t d l∧nM P ts ds' ls':=by
 cases ds with
 | nil=>cases ls<;>exact h.elim
 | cons d ds =>
  cases ls with
  | nil=>exact h.elim
  | cons l ls=>exact⟨d,l,ds,ls,rfl,rfl,h.1,h.2⟩
theorem aBa {t e:TypeId}{d:DataW H}{l:List IV}(hu:P.underlying t=some (.slice e))(h:Ty P t d l) :
  ∃(tg:Tag) (ds sp:List (DataW H)) (ls:List (List IV)),(d=.slice ds sp∨d=.nil∧ds=[])∧l=[.sl tg ls]∧(tg=.nil→ls=[])∧ls.length=ds.length∧∀(i:Nat) (d:DataW H) (l:List IV),ds[i]? = some d→ls[i]? = some l→Ty P e d l:=by
 cases h with
 | bool u ht b=>rw[hu]at ht; cases ht
 | int u k ht=>rw[hu]at ht; cases ht
 | str u ht=>rw[hu]at ht; cases ht
 | nilp u e ht=>rw[hu]at ht; cases ht
 | ptr u e ht=>rw[hu]at ht; cases ht
 | nils u e ht=>exact⟨.nil,[],[],[],.inr ⟨rfl,rfl⟩,rfl,fun _=>rfl,rfl,fun i d l h=>by simp at h⟩
 | sl u e' ht ds sp ls tag htag hn hm h hl =>
  rw[hu]at ht; cases ht
  exact⟨tag,ds,sp,ls,.inl rfl,rfl,fun e=>absurd e htag,hn,h⟩
 | struct u fs ht=>rw[hu]at ht; cases ht
 | array u e n ht=>rw[hu]at ht; cases ht
theorem aYm {t:TypeId}{d:DataW H}{l:List IV}{k:IntKind}(hu:P.underlying t=some (.int k))(h:Ty P t d l):∃n,d=.lit (.int k n)∧l=[.int k n]∧k.min≤n∧n≤k.max:=by
 cases h with
 | bool u ht b=>rw[hu]at ht; cases ht
 | int u k' ht n hw =>
  rw[hu]at ht; cases ht
  simp only[Lit.wf,Bool.and_eq_true,decide_eq_true_eq]at hw
  exact⟨n,rfl,rfl,hw⟩
 | str u ht=>rw[hu]at ht; cases ht
 | nilp u e ht=>rw[hu]at ht; cases ht
 | ptr u e ht=>rw[hu]at ht; cases ht
 | nils u e ht=>rw[hu]at ht; cases ht
 | sl u e ht=>rw[hu]at ht; cases ht
 | struct u fs ht=>rw[hu]at ht; cases ht
 | array u e n ht=>rw[hu]at ht; cases ht
theorem aYn {t:TypeId}{d:DataW H}{l:List IV}(hu:P.underlying t=some .string)(h:Ty P t d l):∃s,d=.lit (.string s)∧l=[.str s]:=by
 cases h with
 | bool u ht b=>rw[hu]at ht; cases ht
 | int u k ht=>rw[hu]at ht; cases ht
 | str u ht s hs=>exact⟨s,rfl,rfl⟩
 | nilp u e ht=>rw[hu]at ht; cases ht
 | ptr u e ht=>rw[hu]at ht; cases ht
 | nils u e ht=>rw[hu]at ht; cases ht
 | sl u e ht=>rw[hu]at ht; cases ht
 | struct u fs ht=>rw[hu]at ht; cases ht
 | array u e n ht=>rw[hu]at ht; cases ht
open Rows in
theorem xO {d:DataW H}{ds sp:List (DataW H)}(h:d=.slice ds sp∨d=.nil∧ds=[]):uptoBulkAll ds+1≤uptoBulk d:=by
 rcases h with rfl|⟨rfl,rfl⟩
 ·simp only[uptoBulk]; omega
 ·simp only[uptoBulk,uptoBulkAll]; omega
open Rows in
theorem aBb {d:DataW H}:∀ {l:List (DataW H)},d∈l→uptoBulk d≤uptoBulkAll l
 | x::r,h=>by
  simp only[uptoBulkAll]
  rcases List.mem_cons.1 h with rfl|h
  ·omega
  ·have:=aBb h; omega
open Rows in
theorem aCq {α:Type}{e:TypeId}{f:α→List IV}{R:α→Prop}{w:α→Nat}{ws:List α→Nat}(h0:ws []=0)(h1:∀a l,ws (a::l)=w a+ws l) :
  ∀(ls:List (List IV)) (ds:List (DataW H)),(∀d∈ds,∀l,Ty P e d l→∃a,l=f a∧w a≤uptoBulk d∧R a)→ls.length=ds.length →
  (∀(i:Nat) (d:DataW H) (l:List IV),ds[i]? = some d→ls[i]? = some l→Ty P e d l)→∃ags:List α,ls=ags.map f∧ws ags≤uptoBulkAll ds∧∀a∈ags,R a
 | [],ds,_,_,_=>⟨[],rfl,by rw[h0]; omega,by simp⟩
 | l::ls,[],_,hn,_=>by simp at hn
 | l::ls,d::ds,he,hn,h=>by
  obtain⟨a,rfl,hw,ha⟩:=he d (by simp) l (h 0 d l rfl rfl)
  obtain⟨ags,rfl,hws,has⟩:=aCq h0 h1 ls ds (fun d hd=>he d (by simp[hd])) (by simpa using hn) (fun i d' l' hd hl'=>h (i+1) d' l' (by simpa using hd) (by simpa using hl'))
  refine⟨a::ags,rfl,?_,?_⟩
  ·rw[h1,uptoBulkAll]; omega
  ·intro x hx; rcases List.mem_cons.1 hx with rfl|hx; exact ha; exact has x hx
end
def aCr (n:Int):Prop:=-9223372036854775808≤n∧n≤9223372036854775807
mutual
def Dt.ok:Dt→Prop
 | .mk k n t g ks p=>aCr k∧aCr n∧aCr p∧cF g ks∧Dt.oks ks
def Dt.oks:List Dt→Prop
 | []=>True
 | d::ds=>Dt.ok d∧Dt.oks ds
end
theorem Dt.oks_iff:∀ {ks:List Dt},Dt.oks ks↔∀x∈ks,x.ok
 | []=>by simp[Dt.oks]
 | d::ds=>by rw[Dt.oks,Dt.oks_iff]; simp
theorem Dt.ok_eq (d:Dt):d.ok↔aCr d.k∧aCr d.n∧aCr d.p∧cF d.g d.ks∧∀x∈d.ks,x.ok:=by
 cases d; rw[Dt.ok,Dt.oks_iff]; rfl
theorem aYo {n:Int}(h:IntKind.i64.min≤n∧n≤IntKind.i64.max):aCr n:=by
 obtain⟨h1,h2⟩:=h
 simp[IntKind.min,IntKind.max,IntKind.signed,IntKind.bits]at h1 h2
 unfold aCr; omega
theorem aYp {tg:Tag}{α β:Type}{f:α→β}{l:List α}(h:tg=.nil→l.map f=[]):cF tg l:=fun e=>by simpa using h e
section
variable {H:Type}
open Rows
theorem tyI {d:DataW H}{l:List IV}(h:Ty Tryz.prog 3 d l):∃n,l=[.int .i64 n]∧uptoBulk d=1∧aCr n:=by
 obtain⟨n,rfl,rfl,hr⟩:=aYm Tryz.underlying3 h
 exact⟨n,rfl,by simp[uptoBulk],aYo hr⟩
theorem bB4:∀(n:Nat) (d:DataW H) (l:List IV),uptoBulk d≤n→Ty Tryz.prog 37 d l→∃x:Dt,l=cJ x∧x.w≤uptoBulk d∧x.ok
 | 0,d,l,hb,h=>by
  obtain⟨ds,ls,rfl,rfl,hh⟩:=xN Tryz.underlying37 h
  simp only[uptoBulk]at hb; omega
 | n+1,d,l,hb,h=>by
  obtain⟨ds,ls,rfl,rfl,hh00⟩:=xN Tryz.underlying37 h
  have hh0:nM Tryz.prog [3,3,9,22,3] ds ls:=hh00
  obtain⟨d0,l0,ds,ls,rfl,rfl,h0,hh1⟩:=fX hh0
  obtain⟨d1,l1,ds,ls,rfl,rfl,h1,hh2⟩:=fX hh1
  obtain⟨d2,l2,ds,ls,rfl,rfl,h2,hh3⟩:=fX hh2
  obtain⟨d3,l3,ds,ls,rfl,rfl,h3,hh4⟩:=fX hh3
  obtain⟨d4,l4,ds,ls,rfl,rfl,h4,hh5⟩:=fX hh4
  obtain rfl:=rE hh5
  rw[aB7 hh5]
  simp only[uptoBulk,uptoBulkAll]at hb
  obtain⟨k,rfl,b0,r0⟩:=tyI h0
  obtain⟨m,rfl,b1,r1⟩:=tyI h1
  obtain⟨s,rfl,rfl⟩:=aYn Tryz.underlying9 h2
  obtain⟨tg,es,sp,ls,hd,rfl,ht,hn,hl⟩:=aBa Tryz.underlying22 h3
  obtain⟨p,rfl,b4,r4⟩:=tyI h4
  have hs:=xO hd
  obtain⟨ks,rfl,hw,hr⟩:=aCq (f:=cJ) (R:=Dt.ok) (w:=Dt.w) (ws:=Dt.ws) (by rw[Dt.ws]) (fun a l=>by rw[Dt.ws]) ls es (fun d hd l h=>by
   have:=aBb hd
   exact bB4 n d l (by omega) h) hn hl
  refine⟨.mk k m s tg ks p,?_,?_,?_⟩
  ·rw[cJ,eM]; rfl
  ·rw[Dt.w]; simp only[uptoBulk,uptoBulkAll]; omega
  ·rw[Dt.ok_eq]; exact⟨r0,r1,r4,aYp ht,hr⟩
end
end Go.Proofs.YtjbpbohpmfpoiaaGreatDoor
namespace Go.Proofs.YtjbpbohpmfpoiaaGreatDoor
open Go Go.TM Go.ChangeShapes Go.WideShapes
theorem bB5 {n:Nat}:∀(l:List Dt),(∀d∈l,d.w≤n)→Dt.ws l≤n*l.length
 | [],_=>by rw[Dt.ws]; exact Nat.zero_le _
 | d::l,h=>by
  have:=bB5 l fun x hx=>h x (List.mem_cons_of_mem _ hx)
  have:=h d (by simp)
  rw[Dt.ws,List.length_cons,Nat.mul_add]
  omega
theorem bDn {H:Type}{d:DataW H}{l:List IV}(h:Ty Tryz.prog 22 d l):∃(tg:Tag) (cs:List Dt),l=[.sl tg (aY cs)]∧Dt.ws cs+1≤Rows.uptoBulk d∧∀x∈cs,x.ok:=by
 obtain⟨tg,es,sp,ls,hd,rfl,ht,hn,hl⟩:=aBa Tryz.underlying22 h
 have hs:=xO hd
 obtain⟨ks,rfl,hw,hr⟩:=aCq (f:=cJ) (R:=Dt.ok) (w:=Dt.w) (ws:=Dt.ws) (by rw[Dt.ws]) (fun a l=>by rw[Dt.ws]) ls es (fun d hd l h=>bB4 _ d l (Nat.le_refl _) h) hn hl
 exact⟨tg,ks,by rw[eM],by omega,hr⟩
theorem bB6 {tg:Tag}{ts:List (List UInt8)}{i:Nat}(h:i<ts.length):indexAddrS 5 (.iv (.sl tg (aY (ts.map dR)))) (i:Int)=some (.iv (.cp [.int .i64 5,.int .i64 0,.str ts[i],.sl .nil [],.int .i64 0])):=by
 have:=ixD (g:=tg) (ks:=ts.map dR) (i:=(i:Int)) (by rw[List.length_map]; omega)
 rw[Int.toNat_natCast,show (ts.map dR).getD i default=dR ts[i] by simp[List.getD,List.getElem?_eq_getElem h],aCm]at this
 exact this
theorem aSi {tg:Tag}{ts:List (List UInt8)}(hnd:ts.Nodup)(hl:ts.length≤1000000){i:Nat}(hi:i<ts.length)(S:aA)(x0 x1 x3 x4 x5 x6 x7 x8 x9 x10 x11 x12 x13 x14 x15 x17 x20 x21 x22 x23 x24 x25 x26 x27:TV):∀(n k:Nat) (x28 x29:TV),k+n=i →
  ∃y28 y29,lp' (lim K) t4L0 [x0,x1,.iv (.bool false),x3,x4,x5,x6,x7,x8,x9,x10,x11,x12,x13,x14,x15,.iv (.sl tg (aY (ts.map dR))),x17,.iv (.int .i64 i),.iv (.int .i64 k),x20,x21,x22,x23,x24,x25,x26,x27,x28,x29] S=.ret (.exit 6,[x0,x1,.iv (.bool false),x3,x4,x5,x6,x7,x8,x9,x10,x11,x12,x13,x14,x15,.iv (.sl tg (aY (ts.map dR))),x17,.iv (.int .i64 i),.iv (.int .i64 i),x20,x21,x22,x23,x24,x25,x26,x27,y28,y29],S)
 | 0,k,x28,x29,h=>by
  obtain rfl:k=i:=by omega
  refine⟨.iv (.bool false),x29,aP K _ _ t4L0.eq_1 ?_⟩
  simp (config := { maxSteps := 4000000 }) (disch:=omega) only[go_sem]
 | n+1,k,x28,x29,h=>by
  have h1:=bB6 (tg:=tg) (ts:=ts) (i:=i) hi
  have h2:=bB6 (tg:=tg) (ts:=ts) (i:=k) (by omega)
  have hne:¬ts[i]=ts[k]:=fun e=>by
   exact (List.pairwise_iff_getElem.1 hnd) k i (by omega) hi (by omega) e.symm
  obtain⟨y28,y29,ih⟩:=aSi (tg:=tg) hnd hl hi S x0 x1 x3 x4 x5 x6 x7 x8 x9 x10 x11 x12 x13 x14 x15 x17 x20 x21 x22 x23 x24 x25 x26 x27 n (k+1) (.iv (.bool true)) (.iv (.bool false)) (by omega)
  rw[show ((k+1:Nat):Int)=(k:Int)+1 by omega]at ih
  refine⟨y28,y29,aP K _ _ t4L0.eq_1 ?_⟩
  generalize ts[i]=a at *
  generalize ts[k]=c at *
  clear hnd
  have hbq:(a==c)=false:=by simp[hne]
  simp (config := { maxSteps := 4000000 }) (disch:=omega) only[go_sem,h1,h2,ao0,aoS,hbq,aE]
  exact congrArg er ih
theorem aSj {tg:Tag}{ts:List (List UInt8)}(hnd:ts.Nodup)(hl:ts.length≤1000000)(S:aA)(x0 x1 x3 x4 x5 x6 x7 x8 x9 x10 x11 x12 x13 x14 x15 x17 x20 x21 x22 x23 x24 x25 x26:TV):∀(n i:Nat) (x19 x27 x28 x29:TV),i+n=ts.length →
  ∃y19 y27 y28 y29,lp' (lim K) t4L1 [x0,x1,.iv (.bool false),x3,x4,x5,x6,x7,x8,x9,x10,x11,x12,x13,x14,x15,.iv (.sl tg (aY (ts.map dR))),x17,.iv (.int .i64 i),x19,x20,x21,x22,x23,x24,x25,x26,x27,x28,x29] S=.ret (.exit 4,[x0,x1,.iv (.bool false),x3,x4,x5,x6,x7,x8,x9,x10,x11,x12,x13,x14,x15,.iv (.sl tg (aY (ts.map dR))),x17,.iv (.int .i64 ts.length),y19,x20,x21,x22,x23,x24,x25,x26,y27,y28,y29],S)
 | 0,i,x19,x27,x28,x29,h=>by
  obtain rfl:i=ts.length:=by omega
  have hle:(aY (ts.map dR)).length=ts.length:=by rw[bN,List.length_map]
  refine⟨x19,.iv (.bool false),x28,x29,aP K _ _ t4L1.eq_1 ?_⟩
  simp (config := { maxSteps := 4000000 }) (disch:=omega) only[go_sem,hle]
 | n+1,i,x19,x27,x28,x29,h=>by
  have hle:(aY (ts.map dR)).length=ts.length:=by rw[bN,List.length_map]
  obtain⟨z28,z29,l0⟩:=aSi (tg:=tg) hnd hl (i:=i) (by omega) S x0 x1 x3 x4 x5 x6 x7 x8 x9 x10 x11 x12 x13 x14 x15 x17 x20 x21 x22 x23 x24 x25 x26 (.iv (.bool true)) i 0 x28 x29 (by omega)
  rw[show ((0:Nat):Int)=0 from rfl]at l0
  obtain⟨y19,y27,y28,y29,ih⟩:=aSj (tg:=tg) hnd hl S x0 x1 x3 x4 x5 x6 x7 x8 x9 x10 x11 x12 x13 x14 x15 x17 x20 x21 x22 x23 x24 x25 x26 n (i+1) (.iv (.int .i64 i)) (.iv (.bool true)) z28 z29 (by omega)
  rw[show ((i+1:Nat):Int)=(i:Int)+1 by omega]at ih
  refine⟨y19,y27,y28,y29,aP K _ _ t4L1.eq_1 ?_⟩
  simp (config := { maxSteps := 4000000 }) (disch:=omega) only[go_sem,hle]
  rw[l0]
  simp (config := { maxSteps := 4000000 }) (disch:=omega) only[go_sem,aE]
  exact congrArg er ih
def WdS (S:aA)(V:TV)(W:List Int):Prop:=V=.iv (.sl .full (bE W))∨∃q,V=.tsl q (bE W)∧S[q]? = some (.tok W.length 1 26)
theorem WdS.v {S:aA}{V:TV}{W:List Int}(h:WdS S V W):WdV V W:=by
 rcases h with h|⟨q,h,_⟩
 ·exact .inl h
 ·exact .inr ⟨q,h⟩
theorem aLu {S:aA}{V:TV}{W:List Int}(h:WdS S V W)(hW:W≠[])(tg:Tag)(ys:List Int)(hl:W.length+ys.length≤10000000){B:aW}(hB:∀n,B≠.tok n 1 26)(h0:S[0]? = some B) :
  ∃V' S',bR false 1 4 26 S V (.iv (.sl tg (bE ys)))=some (V',S')∧WdS S' V' (W++ys)∧S'[0]? = some B:=by
 by_cases hy:ys=[]
 ·subst hy
  rw[List.append_nil]
  have hs:aFe V=true:=by rcases h with rfl|⟨q,rfl,_⟩<;>rfl
  exact⟨V,S,aEi hs (iL.sl ..),h,h0⟩
 ·have e:=lV W ys
  have l1:=bY W
  have l2:=bY ys
  rcases h with rfl|⟨q,rfl,ht⟩
  ·refine⟨.tsl S.length (bE (W++ys)),S++[.tok (W++ys).length 1 26],?_,.inr ⟨_,rfl,by simp⟩,iJ h0 _⟩
   rw[aEh (by decide) (iL.sl ..) (jG ys) (jG W) (cQ.2 hy) (eS (by omega)),e,l1,l2,List.length_append]
  ·have hq:q≠0:=fun e0=>by rw[e0,h0]at ht; cases ht; exact hB _ rfl
   refine⟨.tsl q (bE (W++ys)),S.set q (.tok (W++ys).length 1 26),?_,.inr ⟨_,rfl,cX (cA ht) _⟩,by rw[bD hq]; exact h0⟩
   rw[←l1]at ht
   rw[aEg (iL.sl ..) (jG ys) (jG W) ht (eS (by omega)),e,List.length_append,l1,l2]
theorem law4 (g:Tag)(cs:List Dt)(b:Int)(hw:Dt.ws cs≤1048576):∃S',(lim K).call 4 [.iv (.sl g (aY cs)),.iv (.int .i64 b)] []=.ret (.iv (.bool true),S'):=by
  obtain⟨r,c6,hr⟩:=bFw g hw
  have c7:=bFx
  cases r with
  | true =>
    refine⟨[],aD K _ (fn:=t4) rfl rfl ?_⟩
    simp (config := { maxSteps := 4000000 }) (disch:=omega) only[t4,go_sem,aJ c6,aJ c7]
  | false =>
    obtain⟨h1,h2⟩:=hr rfl
    have hwx:∀d∈cs,d.w≤1000:=fun d hd=>by have:=h2 d hd; omega
    have hw2:Dt.ws cs≤6000:=by have:=bB5 cs h2; omega
    by_cases hok:(0≤b∧b≤67108864)∧pS cs=true
    · obtain⟨hgd,hv,hgf,t1,t2,ht1,c8⟩:=bDh g (by omega) hwx hok.1 hok.2
      have hfl:=aLn hgd
      have hvl:(eC b cs).1.length≤cs.length:=nR b _ cs σ0
      have hcl:=Dt.ws_len cs
      by_cases hbig:67108864<b+((cY b cs).2.mem.length:Int)
      · rw[if_pos hbig]at c8
        refine⟨[],aD K _ (fn:=t4) rfl rfl ?_⟩
        simp (config := { maxSteps := 4000000 }) (disch:=omega) only[t4,go_sem,aJ c6,aJ c7,aJ c8]
      · rw[if_neg hbig]at c8
        have hall:∀d∈cs,eB d=true:=fun d hd=>by
          have:=List.all_eq_true.1 hok.2 d hd
          rw[Bool.and_eq_true]at this
          exact this.1
        obtain⟨l,ts,hts,hch,hsy,hnd,hcnt,hll,hvf⟩:=aM3 hall hgd
        have hle:LeS (eC b cs).2 (cY b cs).2:=qM ..
        have hb:0≤b∧b+(cY b cs).2.mem.length≤67108864:=⟨hok.1.1,by omega⟩
        have htw:tsW ts≤3*Dt.ws cs:=by
          obtain⟨ts',e,h⟩:=aSc b cs
          rw[hts,←e]; exact h
        have htl:ts.length≤tsW ts:=by
          have:∀l:List (List UInt8),l.length≤tsW l:=fun l=>by
            induction l with
            | nil=>exact Nat.zero_le _
            | cons a r ih => have : tsW (a :: r) = a.length + 3 + tsW r := by unfold tsW; simp
                             rw[this,List.length_cons]; omega
          exact this ts
        -- the values' words
        have hvw:∀w∈(eC b cs).1.map (wd (eC b cs).2.ad),aIe b (cY b cs).2.L w:=by
          rw[←mA hgd hle hv]
          intro w hw
          obtain⟨v,hv',rfl⟩:=List.mem_map.1 hw
          exact aRq hgf hb ((hv v hv').mono hle.len.2)
        have hsw:aIe b (cY b cs).2.L (wd (cY b cs).2.ad (cY b cs).1):=aRq hgf hb hvf
        have hps:∀n,n<(cY b cs).2.L.length→pos (cY b cs).2.L n<(cY b cs).2.mem.length:=fun n hn=>by
          have:=mR hgf hn
          have:=kZ (cY b cs).2.L[n]
          omega
        have hmo:∀(k:Nat) (w:Int),(cY b cs).2.mem[k]? = some w→_:=fun k w hk=>bDd hgf hb hk
        have hR:RdC b (cY b cs).2 t1:=⟨hgf,hb,ht1⟩
        have c11:=aYg hR (by omega) hch hsy (by omega)
        have hlw:=bFu ts
        have c12:=aRw (lsD (ts.map dR) dF).w (lsD (ts.map dR) dF) (Nat.le_refl _) (by omega)
        rw[aE8 _ _ (Nat.le_refl _)]at c12
        generalize (cY b cs).2=σ at *
        generalize hvs:(eC b cs).1.map (wd (eC b cs).2.ad)=vals at *
        have hvl2:vals.length≤cs.length:=by rw[←hvs,List.length_map]; exact hvl
        generalize hsv:wd σ.ad (cY b cs).1=sw at *
        have hml:=bY σ.mem
        -- heads
        have hfl0:bM (List.replicate (σ.mem.length+1) [TV.iv (.bool false)])=gX aA9 (hdC σ.L 0 (σ.mem.length+1)):=by rw[aSb]; exact aWv aA9 (σ.mem.length+1)
        have hS0:([hdB σ.L 0 σ.mem.length]:aA)[0]? = some (hdB σ.L 0 σ.mem.length):=rfl
        have l3:=fun (x4 x5 x6 x10 x11 x12 x13 x14 x15 x16 x17 x18 x19 x20 x21 x22 x23 x24 x25 x26 x27 x28 x29:TV)=>aSe hgf t1 hb (.iv (.sl g (aY cs))) (.iv (.int .i64 b)) x4 x5 x6 x10 x11 x12 x13 x14 x15 x16 x17 x18 x19 x20 x21 x25 x26 x27 x28 x29 σ.L.length 0 _ x22 x23 x24 (by omega) hS0
        obtain⟨S1,y22,y23,y24,l3,hS1⟩:=l3 (.iv (.sl t2 (bE vals))) (.iv (.int .u32 sw)) (.iv (.int .i64 0)) u_ u_ u_ u_ u_ u_ u_ u_ u_ u_ (.iv (.bool false)) (.iv (.bool false)) u_ u_ u_ u_ u_ u_ u_ u_
        rw[List.take_zero,List.countP_nil,rL,show ((0:Nat):Int)=0 from rfl]at l3
        -- the words
        obtain⟨V1,S2,ap1,hV1,hS2⟩:=aLu (S:=S1) (V:=.iv (.sl .full (bE [sw]))) (.inl rfl) (by simp) t2 vals (by simp; omega) (fun n e=>by unfold hdB at e; cases e) hS1
        obtain⟨V2,S3,ap2,hV2,hS3⟩:=aLu hV1 (by simp) t1 σ.mem (by simp; omega) (fun n e=>by unfold hdB at e; cases e) hS2
        have l2:=fun (x6 x8 x9 x12 x13 x14 x15 x16 x17 x18 x19 x20 x21 x22 x23 x24 x25 x26 x27 x28 x29:TV)=>aSf (b:=b) (L:=σ.L) (mem:=σ.mem) (t:=t1) (tv:=t2) (vals:=vals) (W:=[sw]++vals++σ.mem) (s:=sw) (V:=V2) hV2.v rfl hb (by omega) (by omega) (fun w hw=>by
          rcases List.mem_cons.1 hw with rfl|hw
          · exact hsw
          · exact hvw w hw) hmo hps hS3 (.iv (.sl g (aY cs))) (.iv (.int .u32 sw)) x6 x8 x9 x14 x15 x16 x17 x18 x19 x20 x21 x22 x23 x24 x27 x28 x29 ([sw]++vals++σ.mem).length 0 x12 x13 x25 x26 (by omega)
        obtain⟨y12,y13,y25,y26,l2⟩:=l2 (.iv (.int .i64 0)) (.iv (.int .i64 (σ.L.countP is5:Nat))) (.iv (.int .i64 (σ.mem.length:Nat))) u_ u_ u_ u_ u_ u_ u_ u_ (.iv (.bool false)) (.iv (.bool false)) y22 y23 y24 u_ u_ u_ u_ u_
        rw[show ((0:Nat):Int)=0 from rfl]at l2
        have eln:=bC (lsD (ts.map dR) dF)
        have l1:=fun (x18 x19 x27 x28 x29:TV)=>aSj (tg:=kJ (ts.map dR)) hnd (by omega) S3 (.iv (.sl g (aY cs))) (.iv (.int .i64 b)) (.iv (.sl t1 (bE σ.mem))) (.iv (.sl t2 (bE vals))) (.iv (.int .u32 sw)) (.iv (.int .i64 0)) (.msl 0 0 0 (σ.mem.length+1) (σ.mem.length+1) 1) (.iv (.int .i64 (σ.L.countP is5:Nat))) (.iv (.int .i64 (σ.mem.length:Nat))) V2 (.iv (.int .i64 ([sw]++vals++σ.mem).length)) y12 y13 (lbD (lsD (ts.map dR) dF)) (.iv (.int .i64 0)) (lbD dF) (.iv (.bool false)) (.iv (.bool false)) y22 y23 y24 y25 y26 ts.length 0 x19 x27 x28 x29 (by omega)
        obtain⟨y19,y27,y28,y29,l1⟩:=l1 u_ u_ u_ u_ u_
        rw[show ((0:Nat):Int)=0 from rfl]at l1
        have hle2:(aY (ts.map dR)).length=ts.length:=by rw[bN,List.length_map]
        have hwv:=aCp hV2.v
        have hV1':=hV1.v
        have hV2':=hV2.v
        unfold WdV at hV1' hV2'
        refine⟨S3,aD K _ (fn:=t4) rfl rfl ?_⟩
        unfold agD at c12
        rw[eln]at c11
        have hfl1:∀k:Nat,(k:Int)=(σ.mem.length:Int)+1→bM (List.replicate k [TV.iv (.bool false)])=gX aA9 (hdC σ.L 0 (σ.mem.length+1)):=fun k hk=>by
          rw[show k=σ.mem.length+1 by omega]; exact hfl0
        clear hgd hv hgf hch hsy hnd hvf hle hvw hsw hps hmo hR hV1 hS0 hS1 hS2 hS3 hts
        have hmk:mkV [.bool false] 1 0 (.iv (.int .i64 ((σ.mem.length:Int)+1))) (.iv (.int .i64 ((σ.mem.length:Int)+1)))=some (.msl 0 0 0 (σ.mem.length+1) (σ.mem.length+1) 1,hdB σ.L 0 σ.mem.length):=by
          have hmk:=aZ5 [.bool false] 1 0 .i64 .i64 ((σ.mem.length:Int)+1) ((σ.mem.length:Int)+1) ⟨by omega,by omega,eS (by omega)⟩
          rw[show ((σ.mem.length:Int)+1).toNat=σ.mem.length+1 by omega]at hmk
          rw[hmk]
          show some (TV.msl 0 0 0 (σ.mem.length+1) (σ.mem.length+1) 1,aW.cells 0 false (bM (List.replicate (σ.mem.length+1) [TV.iv (.bool false)])))=_
          rw[hfl0]; rfl
        simp (config := { maxSteps := 4000000 }) (disch:=omega) only[t4,go_sem,aJ c6,aJ c7,aJ c8,hml,aE,hmk]
        rw[l3]
        have ap1':bR false 1 4 26 S1 (.iv (.sl .full [[.int .u32 sw]])) (.iv (.sl t2 (bE vals)))=some (V1,S2):=ap1
        clear ap1
        have hcn:(ts.length:Int)=(σ.L.countP is5:Nat):=by rw[hcnt]
        have e0:lbD (lsD (ts.map dR) dF)=.lb [.iv (.int .i64 (lsD (ts.map dR) dF).k),.iv (.int .i64 (lsD (ts.map dR) dF).n),.iv (.str (lsD (ts.map dR) dF).t),.iv (.sl (lsD (ts.map dR) dF).g (aY (lsD (ts.map dR) dF).ks)),.iv (.int .i64 (lsD (ts.map dR) dF).p)]:=rfl
        have e1:lbD dF=.lb [.iv (.int .i64 0),.iv (.int .i64 0),.iv (.str []),.iv (.sl .nil []),.iv (.int .i64 0)]:=by unfold dF lbD; rw[show Dt.ks (.mk 0 0 [] .nil [] 0)=[] from rfl,aY]; rfl
        have e2:dF.k=0∧dF.n=0∧dF.t=[]∧dF.g=.nil∧aY dF.ks=[]∧dF.p=0:=⟨rfl,rfl,rfl,rfl,by show aY []=[]; rw[aY],rfl⟩
        rw[e0,e1]at l1
        rw[e2.1,e2.2.1,e2.2.2.1,e2.2.2.2.1,e2.2.2.2.2.1,e2.2.2.2.2.2]at c12
        clear e0 e1 e2
        generalize (lsD (ts.map dR) dF).k=dk at *
        generalize (lsD (ts.map dR) dF).n=dn at *
        generalize (lsD (ts.map dR) dF).t=dt at *
        generalize (lsD (ts.map dR) dF).g=dg' at *
        generalize aY (lsD (ts.map dR) dF).ks=dks at *
        generalize (lsD (ts.map dR) dF).p=dp at *
        generalize [sw]++vals++σ.mem=W2 at *
        generalize [sw]++vals=W1 at *
        rcases hV1' with rfl|⟨q1,rfl⟩<;>rcases hV2' with rfl|⟨q2,rfl⟩
        all_goals
          simp (config := { maxSteps := 4000000 }) (disch:=omega) only[go_sem,ap1',ap2]
          rw[l2]
          simp (config := { maxSteps := 4000000 }) (disch:=omega) only[go_sem,aJ c11,aJ c12,gP,fU]
          rw[l1]
          simp (config := { maxSteps := 4000000 }) (disch:=omega) only[go_sem,hle2,hcn,aJ c7]
    · have hbad:b<0∨67108864<b∨pS cs=false:=by
        by_cases h:pS cs=true
        · have:¬(0≤b∧b≤67108864):=fun hh=>hok ⟨hh,h⟩
          omega
        · rw[Bool.not_eq_true]at h; exact .inr (.inr h)
      have c8:=aX7 g (by omega) hbad
      refine⟨[],aD K _ (fn:=t4) rfl rfl ?_⟩
      simp (config := { maxSteps := 4000000 }) (disch:=omega) only[t4,go_sem,aJ c6,aJ c7,aJ c8]
theorem inv4 {H:Type}{ds:List (DataW H)}{ls:List (List IV)}(hh0:nM Tryz.prog [22,3] ds ls)(hb:Rows.uptoBulkAll ds≤1048576):((lim K).call 4 (aEj Tryz.prog [22,3] ls) []).All fun r=>r.1=.iv (.bool true):=by
 obtain⟨d0,l0,ds,ls,rfl,rfl,h0,hh1⟩:=fX hh0
 obtain⟨d1,l1,ds,ls,rfl,rfl,h1,hh2⟩:=fX hh1
 obtain rfl:=rE hh2
 rw[aB7 hh2]
 simp only[Rows.uptoBulkAll]at hb
 obtain⟨tg,cs,rfl,hw,ho⟩:=bDn h0
 obtain⟨b,rfl,hb1,hbr⟩:=tyI h1
 obtain⟨S',h⟩:=law4 tg cs b (by omega)
 have ha:aEj Tryz.prog [22,3] [[.sl tg (aY cs)],[.int .i64 b]]=[.iv (.sl tg (aY cs)),.iv (.int .i64 b)]:=rfl
 rw[ha,h]
 exact rfl
end Go.Proofs.YtjbpbohpmfpoiaaGreatDoor
