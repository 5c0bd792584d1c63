/- Some texts of the proof, joined. Condition: none. -/
import Derived.Test.YtjbpbohpmfpoiaaGreatDoorJc
import Derived.Test.YtjbpbohpmfpoiaaGreatDoorKr1
import Derived.Test.YtjbpbohpmfpoiaaGreatDoorJa
import Derived.Test.YtjbpbohpmfpoiaaGreatDoorRows
import Derived.Test.YtjbpbohpmfpoiaaGreatDoorTmE
set_option maxRecDepth 100000
set_option maxHeartbeats 64000000
set_option linter.unusedSimpArgs false
set_option linter.unusedVariables false
namespace Go.Proofs.YtjbpbohpmfpoiaaGreatDoor
open Go Go.TM
def pN:Nat→Dt→Int
 | 0,_=>9000
 | n+1,d=>nR 9000 (pN n) (1+d.t.length) d.ks
theorem aFt {B C:Int}(hC:9000+B≤C)(f:Dt→Int):∀(l:List Dt) (hf:∀x∈l,0≤f x∧f x≤B) (a:Int),0≤a→a≤C→0≤nR 9000 f a l∧nR 9000 f a l≤C
 | [],_,a,h0,h1=>⟨h0,h1⟩
 | x::r,hf,a,h0,h1=>by
  rw[nR]
  split
  ·have:=hf x (by simp)
   exact aFt hC f r (fun y hy=>hf y (by simp[hy])) _ (by omega) (by omega)
  ·exact⟨h0,h1⟩
theorem aMt:∀(n:Nat) (d:Dt),d.w≤1048576→0≤pN n d∧pN n d≤2000000+9000*n
 | 0,d,h=>by rw[pN]; omega
 | n+1,d,h=>by
  have hw:=Dt.w_eq d
  rw[pN]
  refine (aFt (B:=2000000+9000*n) (C:=2000000+9000*(n+1:Nat)) (by omega) (pN n) d.ks (fun x hx=>aMt n x (by have:=Dt.ws_mem hx; omega)) _ (by omega) (by omega))
theorem vG (f:Dt→Int):∀(l:List Dt) (hf:∀x∈l,0≤f x∧(f x≤300→(x.w:Int)≤f x)) (a:Int),0≤a→nR 9000 f a l≤300→a+(Dt.ws l:Nat)≤nR 9000 f a l
 | [],_,a,h0,h=>by rw[nR,Dt.ws]; omega
 | x::r,hf,a,h0,h=>by
  rw[nR]at h ⊢
  by_cases ha:a<9000
  ·rw[if_pos ha]at h ⊢
   obtain⟨h1,h2⟩:=hf x (by simp)
   have:=vG f r (fun y hy=>hf y (by simp[hy])) _ (by omega) h
   have:=h2 (by omega)
   rw[Dt.ws]
   omega
  ·rw[if_neg ha]at h; omega
theorem aFu:∀(n:Nat) (d:Dt),d.w≤1048576→pN n d≤300→(d.w:Int)≤pN n d
 | 0,d,h,h0=>by rw[pN]at h0; omega
 | n+1,d,h,h0=>by
  have hw:=Dt.w_eq d
  rw[pN]at h0 ⊢
  have:=vG (pN n) d.ks (fun x hx=>⟨(aMt n x (by have:=Dt.ws_mem hx; omega)).1,aFu n x (by have:=Dt.ws_mem hx; omega)⟩) _ (by omega) h0
  omega
theorem aTy {m:Nat}(hm:m≤1000){d:Dt}(hd:d.ks.length≤1048576)(H:∀x∈d.ks,TM.Pure K 18 [agD x,.iv (.int .i64 m)] (.iv (.int .i64 (pN m x)))∧0≤pN m x∧pN m x≤20000000)(x0 x3:TV)(S:aA):∀(k i:Nat) (n:Int) (x6 x7:TV),i+k=d.ks.length→0≤n∧n≤100000000 →
  ∃y5 y7,lp' (lim K) t18L0 [x0,.iv (.int .i64 ((m:Int)+1)),lbD d,x3,.iv (.int .i64 n),.iv (.int .i64 i),x6,x7] S=.ret (.exit 0,[x0,.iv (.int .i64 ((m:Int)+1)),lbD d,x3,.iv (.int .i64 (nR 9000 (pN m) n (d.ks.drop i))),y5,x6,y7],S)
 | 0,i,n,x6,x7,h,hn=>by
  obtain rfl:i=d.ks.length:=by omega
  have hle:=bB d.ks
  rw[List.drop_length,nR]
  refine⟨.iv (.int .i64 d.ks.length),.iv (.bool false),aG K _ _ t18L0.eq_1 ?_⟩
  unfold lbD
  simp (config := { maxSteps := 4000000 }) (disch:=omega) only[go_sem,hle]
 | k+1,i,n,x6,x7,h,hn=>by
  have hla:i<d.ks.length:=by omega
  have hle:=bB d.ks
  have hdr:d.ks.drop i=d.ks[i]::d.ks.drop (i+1):=List.drop_eq_getElem_cons hla
  obtain⟨c18,hb⟩:=H d.ks[i] (List.getElem_mem _)
  have hix:=ixD (g:=d.g) (ks:=d.ks) (i:=(i:Int)) (by omega)
  have hgd:d.ks.getD i default=d.ks[i]:=by simp[List.getD,List.getElem?_eq_getElem hla]
  rw[Int.toNat_natCast,hgd]at hix
  rw[hdr,nR]
  by_cases hn9:n<9000
  ·rw[if_pos hn9]
   obtain⟨y5,y7,ih⟩:=aTy hm hd H x0 x3 S k (i+1) (n+pN m d.ks[i]) x6 (.iv (.bool true)) (by omega) (by omega)
   rw[show ((i+1:Nat):Int)=(i:Int)+1 by omega]at ih
   refine⟨y5,y7,aG K _ _ t18L0.eq_1 ?_⟩
   generalize d.ks[i]=x at *
   unfold agD at c18
   unfold lbD at ih ⊢
   rw[bA x]at hix
   generalize pN m x=v at *
   simp (config := { maxSteps := 4000000 }) (disch:=omega) only[go_sem,hle,hix,sC,hn9,aE c18,Int.add_sub_cancel,aB]
   exact congrArg er ih
  ·rw[if_neg hn9]
   refine⟨.iv (.int .i64 i),.iv (.bool false),aG K _ _ t18L0.eq_1 ?_⟩
   unfold lbD
   simp (config := { maxSteps := 4000000 }) (disch:=omega) only[go_sem,hle,hn9]
theorem aTz:∀(m:Nat),m≤1000→∀d:Dt,d.w≤1048576→TM.Pure K 18 [agD d,.iv (.int .i64 m)] (.iv (.int .i64 (pN m d)))
 | 0,hm,d,hd=>by
  unfold agD
  rw[pN]
  refine aX t18 rfl rfl ?_
  simp (config := { maxSteps := 4000000 }) (disch:=omega) only[t18,go_sem,Int.natCast_zero]
 | m+1,hm,d,hd=>by
  have hw:=Dt.w_eq d
  have hwl:=Dt.ws_len d.ks
  obtain⟨y5,y7,l⟩:=aTy (m:=m) (by omega) (d:=d) (by omega) (fun x hx=>by
   have hxw:x.w≤1048576:=by have:=Dt.ws_mem hx; omega
   have:=aMt m x hxw
   exact⟨aTz m (by omega) x hxw,this.1,by omega⟩) (.iv (.agg [.int .i64 d.k,.int .i64 d.n,.str d.t,.sl d.g (bT d.ks),.int .i64 d.p])) (.iv (.int .i64 0)) [] d.ks.length 0 (1+d.t.length) (.iv (.bool false)) u_ (by omega) (by omega)
  rw[List.drop_zero,show ((0:Nat):Int)=0 from rfl]at l
  rw[pN,show ((m+1:Nat):Int)=(m:Int)+1 by omega]
  unfold agD
  unfold lbD at l
  have hne:¬((m:Int)+1=0):=by omega
  refine aX t18 rfl rfl ?_
  simp (config := { maxSteps := 4000000 }) (disch:=omega) only[t18,go_sem,hne,aB]
  rw[l]
  simp (config := { maxSteps := 4000000 }) (disch:=omega) only[go_sem]
theorem bDp {cs:List Dt}(g:Tag)(hw:Dt.ws cs≤1048576)(x1:TV)(S:aA):∀(k i:Nat) (x3 x4:TV),i+k=cs.length →
  ∃y2 y3 y4,((i<cs.length∧i<30→∀x∈(cs.drop i).take (30-i),pN 60 x≤300)∧lp' (lim K) t6L0 [.iv (.sl g (bT cs)),.iv (.bool false),.iv (.int .i64 i),x3,x4] S=.ret (.exit 0,[.iv (.sl g (bT cs)),.iv (.bool false),y2,y3,y4],S))∨lp' (lim K) t6L0 [.iv (.sl g (bT cs)),.iv (.bool false),.iv (.int .i64 i),x3,x4] S=.ret (.ret,[.iv (.sl g (bT cs)),.iv (.bool true),y2,y3,y4],S)
 | 0,i,x3,x4,h=>by
  obtain rfl:i=cs.length:=by omega
  have hle:=bB cs
  have hwl:=Dt.ws_len cs
  refine⟨.iv (.int .i64 cs.length),.iv (.bool false),x4,.inl ⟨fun h=>by omega,aG K _ _ t6L0.eq_1 ?_⟩⟩
  simp (config := { maxSteps := 4000000 }) (disch:=omega) only[go_sem,hle]
 | k+1,i,x3,x4,h=>by
  have hla:i<cs.length:=by omega
  have hle:=bB cs
  have hwl:=Dt.ws_len cs
  have hdr:cs.drop i=cs[i]::cs.drop (i+1):=List.drop_eq_getElem_cons hla
  have hwi:cs[i].w≤1048576:=by have:=Dt.ws_mem (List.getElem_mem hla); omega
  have c18:=aTz 60 (by omega) cs[i] hwi
  have hix:=ixD (g:=g) (ks:=cs) (i:=(i:Int)) (by omega)
  have hgd:cs.getD i default=cs[i]:=by simp[List.getD,List.getElem?_eq_getElem hla]
  rw[Int.toNat_natCast,hgd]at hix
  by_cases h30:i<30
  ·by_cases hp:300<pN 60 cs[i]
   ·refine⟨.iv (.int .i64 i),.iv (.bool true),.iv (.bool true),.inr (aG K _ _ t6L0.eq_1 ?_)⟩
    generalize cs[i]=x at *
    unfold agD at c18
    rw[bA x]at hix
    rw[show ((60:Nat):Int)=60 from rfl]at c18
    simp (config := { maxSteps := 4000000 }) (disch:=omega) only[go_sem,hle,hix,sC,aE c18,hp]
   ·obtain⟨y2,y3,y4,ih⟩:=bDp g hw x1 S k (i+1) (.iv (.bool true)) (.iv (.bool false)) (by omega)
    rw[show ((i+1:Nat):Int)=(i:Int)+1 by omega]at ih
    refine⟨y2,y3,y4,?_⟩
    have hpl:¬(300<pN 60 cs[i]):=hp
    have hc:∀ {P:Prop},(i+1<cs.length∧i+1<30→∀x∈(cs.drop (i+1)).take (30-(i+1)),pN 60 x≤300)→(i<cs.length∧i<30→∀x∈(cs.drop i).take (30-i),pN 60 x≤300):=fun hh _ x hx=>by
     rw[hdr,show 30-i=(30-(i+1))+1 by omega,List.take_succ_cons]at hx
     rcases List.mem_cons.1 hx with rfl|hx
     ·omega
     ·by_cases h2:i+1<cs.length∧i+1<30
      ·exact hh h2 x hx
      ·have:(cs.drop (i+1)).take (30-(i+1))=[]:=by
        by_cases h3:i+1<cs.length
        ·rw[show 30-(i+1)=0 by omega,List.take_zero]
        ·rw[List.drop_of_length_le (by omega),List.take_nil]
       rw[this]at hx; cases hx
    rcases ih with⟨e,ih⟩|ih
    ·refine .inl ⟨hc (P:=True) e,aG K _ _ t6L0.eq_1 ?_⟩
     clear hc e
     generalize cs[i]=x at *
     unfold agD at c18
     rw[bA x]at hix
     rw[show ((60:Nat):Int)=60 from rfl]at c18
     simp (config := { maxSteps := 4000000 }) (disch:=omega) only[go_sem,hle,hix,sC,aE c18,hpl,aB]
     exact congrArg er ih
    ·refine .inr (aG K _ _ t6L0.eq_1 ?_)
     clear hc
     generalize cs[i]=x at *
     unfold agD at c18
     rw[bA x]at hix
     rw[show ((60:Nat):Int)=60 from rfl]at c18
     simp (config := { maxSteps := 4000000 }) (disch:=omega) only[go_sem,hle,hix,sC,aE c18,hpl,aB]
     exact congrArg er ih
  ·refine⟨.iv (.int .i64 i),.iv (.bool false),x4,.inl ⟨fun h=>by omega,aG K _ _ t6L0.eq_1 ?_⟩⟩
   simp (config := { maxSteps := 4000000 }) (disch:=omega) only[go_sem,hle]
theorem bG9 {cs:List Dt}(g:Tag)(hw:Dt.ws cs≤1048576):∃r:Bool,TM.Pure K 6 [.iv (.sl g (bT cs))] (.iv (.bool r))∧(r=false→cs.length≤20∧∀d∈cs,d.w≤300):=by
 have hle:=bB cs
 have hwl:=Dt.ws_len cs
 obtain⟨y2,y3,y4,l⟩:=bDp g hw u_ [] cs.length 0 u_ u_ (by omega)
 rw[show ((0:Nat):Int)=0 from rfl]at l
 rcases l with⟨hs,l⟩|l
 ·refine⟨decide ((20:Int)<cs.length),aX t6 rfl rfl ?_,fun h=>?_⟩
  ·simp (config := { maxSteps := 4000000 }) (disch:=omega) only[t6,go_sem]
   rw[l]
   simp (config := { maxSteps := 4000000 }) (disch:=omega) only[go_sem,hle]
  ·have hl20:cs.length≤20:=by have:=of_decide_eq_false h; omega
   refine⟨hl20,fun d hd=>?_⟩
   have hp:0<cs.length:=List.length_pos_of_mem hd
   have:=hs ⟨hp,by omega⟩ d (by rw[List.drop_zero,List.take_of_length_le (by omega)]; exact hd)
   have:=aFu 60 d (by have:=Dt.ws_mem hd; omega) this
   have:=aMt 60 d (by have:=Dt.ws_mem hd; omega)
   omega
 ·refine⟨true,aX t6 rfl rfl ?_,fun h=>by cases h⟩
  simp (config := { maxSteps := 4000000 }) (disch:=omega) only[t6,go_sem]
  rw[l]
  simp (config := { maxSteps := 4000000 }) (disch:=omega) only[go_sem]
end Go.Proofs.YtjbpbohpmfpoiaaGreatDoor
namespace Go.Proofs.YtjbpbohpmfpoiaaGreatDoor
open Go Go.TM Go.ChangeShapes Go.WideShapes
section
variable {P:Program}{H:Type}
theorem yE {t:TypeId}{fs:Array Field}{d:DataW H}{l:List IV}(hu:P.underlying t=some (.struct fs))(h:Ty P t d l) :
  ∃(ds:List (DataW H)) (ls:List (List IV)),d=.agg ds∧l=bS ls∧nX P (fs.toList.map (·.type)) ds ls:=by
 have h0:=h
 cases h with
 | bool u ht b=>rw[hu]at ht; cases ht
 | int u k ht=>rw[hu]at ht; cases ht
 | str u ht=>rw[hu]at ht; cases ht
 | nilp u e ht=>rw[hu]at ht; cases ht
 | ptr u e ht=>rw[hu]at ht; cases ht
 | nils u e ht=>rw[hu]at ht; cases ht
 | sl u e ht=>rw[hu]at ht; cases ht
 | struct u fs' ht ds ls h1 h2 h hl =>
  rw[hu]at ht; cases ht
  refine⟨ds,ls,rfl,rfl,?_⟩
  have key:∀(fs:List Field) (ds:List (DataW H)) (ls:List (List IV)),ds.length=fs.length→ls.length=fs.length→(∀(i:Nat) (f:Field) (d:DataW H) (l:List IV),fs[i]? = some f→ds[i]? = some d→ls[i]? = some l→Ty P f.type d l)→nX P (fs.map (·.type)) ds ls:=by
   intro fs
   induction fs with
   | nil =>
    intro ds ls h1 h2 _
    have e1:ds=[]:=List.eq_nil_of_length_eq_zero (by simpa using h1)
    have e2:ls=[]:=List.eq_nil_of_length_eq_zero (by simpa using h2)
    subst e1; subst e2; exact trivial
   | cons f fs ih =>
    intro ds ls h1 h2 h
    cases ds with
    | nil=>simp at h1
    | cons d ds =>
     cases ls with
     | nil=>simp at h2
     | cons l ls=>exact⟨h 0 f d l rfl rfl rfl,ih ds ls (by simpa using h1) (by simpa using h2) (fun i f' d' l' hf hd hl'=>h (i+1) f' d' l' (by simpa using hf) (by simpa using hd) (by simpa using hl'))⟩
  exact key fs.toList ds ls (by simpa using h1) (by simpa using h2) (fun i f d l hf hd hl'=>h i f d l (by simpa using hf) hd hl')
 | array u e n ht=>rw[hu]at ht; cases ht
theorem gH {t:TypeId}{ts:List TypeId}{ds:List (DataW H)}{ls:List (List IV)}(h:nX P (t::ts) ds ls):∃(d:DataW H) (l:List IV) (ds':List (DataW H)) (ls':List (List IV)),ds=d::ds'∧ls=l::ls'∧Ty P t d l∧nX P ts ds' ls':=by
 cases ds with
 | nil=>cases ls<;>exact h.elim
 | cons d ds =>
  cases ls with
  | nil=>exact h.elim
  | cons l ls=>exact⟨d,l,ds,ls,rfl,rfl,h.1,h.2⟩
theorem aBq {t e:TypeId}{d:DataW H}{l:List IV}(hu:P.underlying t=some (.slice e))(h:Ty P t d l) :
  ∃(tg:Tag) (ds sp:List (DataW H)) (ls:List (List IV)),(d=.slice ds sp∨d=.nil∧ds=[])∧l=[.sl tg ls]∧(tg=.nil→ls=[])∧ls.length=ds.length∧∀(i:Nat) (d:DataW H) (l:List IV),ds[i]? = some d→ls[i]? = some l→Ty P e d l:=by
 cases h with
 | bool u ht b=>rw[hu]at ht; cases ht
 | int u k ht=>rw[hu]at ht; cases ht
 | str u ht=>rw[hu]at ht; cases ht
 | nilp u e ht=>rw[hu]at ht; cases ht
 | ptr u e ht=>rw[hu]at ht; cases ht
 | nils u e ht=>exact⟨.nil,[],[],[],.inr ⟨rfl,rfl⟩,rfl,fun _=>rfl,rfl,fun i d l h=>by simp at h⟩
 | sl u e' ht ds sp ls tag htag hn hm h hl =>
  rw[hu]at ht; cases ht
  exact⟨tag,ds,sp,ls,.inl rfl,rfl,fun e=>absurd e htag,hn,h⟩
 | struct u fs ht=>rw[hu]at ht; cases ht
 | array u e n ht=>rw[hu]at ht; cases ht
theorem aZ9 {t:TypeId}{d:DataW H}{l:List IV}{k:IntKind}(hu:P.underlying t=some (.int k))(h:Ty P t d l):∃n,d=.lit (.int k n)∧l=[.int k n]∧k.min≤n∧n≤k.max:=by
 cases h with
 | bool u ht b=>rw[hu]at ht; cases ht
 | int u k' ht n hw =>
  rw[hu]at ht; cases ht
  simp only[Lit.wf,Bool.and_eq_true,decide_eq_true_eq]at hw
  exact⟨n,rfl,rfl,hw⟩
 | str u ht=>rw[hu]at ht; cases ht
 | nilp u e ht=>rw[hu]at ht; cases ht
 | ptr u e ht=>rw[hu]at ht; cases ht
 | nils u e ht=>rw[hu]at ht; cases ht
 | sl u e ht=>rw[hu]at ht; cases ht
 | struct u fs ht=>rw[hu]at ht; cases ht
 | array u e n ht=>rw[hu]at ht; cases ht
theorem bAa {t:TypeId}{d:DataW H}{l:List IV}(hu:P.underlying t=some .string)(h:Ty P t d l):∃s,d=.lit (.string s)∧l=[.str s]:=by
 cases h with
 | bool u ht b=>rw[hu]at ht; cases ht
 | int u k ht=>rw[hu]at ht; cases ht
 | str u ht s hs=>exact⟨s,rfl,rfl⟩
 | nilp u e ht=>rw[hu]at ht; cases ht
 | ptr u e ht=>rw[hu]at ht; cases ht
 | nils u e ht=>rw[hu]at ht; cases ht
 | sl u e ht=>rw[hu]at ht; cases ht
 | struct u fs ht=>rw[hu]at ht; cases ht
 | array u e n ht=>rw[hu]at ht; cases ht
open Rows in
theorem yF {d:DataW H}{ds sp:List (DataW H)}(h:d=.slice ds sp∨d=.nil∧ds=[]):uptoBulkAll ds+1≤uptoBulk d:=by
 rcases h with rfl|⟨rfl,rfl⟩
 ·simp only[uptoBulk]; omega
 ·simp only[uptoBulk,uptoBulkAll]; omega
open Rows in
theorem aBr {d:DataW H}:∀ {l:List (DataW H)},d∈l→uptoBulk d≤uptoBulkAll l
 | x::r,h=>by
  simp only[uptoBulkAll]
  rcases List.mem_cons.1 h with rfl|h
  ·omega
  ·have:=aBr h; omega
open Rows in
theorem aDe {α:Type}{e:TypeId}{f:α→List IV}{R:α→Prop}{w:α→Nat}{ws:List α→Nat}(h0:ws []=0)(h1:∀a l,ws (a::l)=w a+ws l) :
  ∀(ls:List (List IV)) (ds:List (DataW H)),(∀d∈ds,∀l,Ty P e d l→∃a,l=f a∧w a≤uptoBulk d∧R a)→ls.length=ds.length →
  (∀(i:Nat) (d:DataW H) (l:List IV),ds[i]? = some d→ls[i]? = some l→Ty P e d l)→∃ags:List α,ls=ags.map f∧ws ags≤uptoBulkAll ds∧∀a∈ags,R a
 | [],ds,_,_,_=>⟨[],rfl,by rw[h0]; omega,by simp⟩
 | l::ls,[],_,hn,_=>by simp at hn
 | l::ls,d::ds,he,hn,h=>by
  obtain⟨a,rfl,hw,ha⟩:=he d (by simp) l (h 0 d l rfl rfl)
  obtain⟨ags,rfl,hws,has⟩:=aDe h0 h1 ls ds (fun d hd=>he d (by simp[hd])) (by simpa using hn) (fun i d' l' hd hl'=>h (i+1) d' l' (by simpa using hd) (by simpa using hl'))
  refine⟨a::ags,rfl,?_,?_⟩
  ·rw[h1,uptoBulkAll]; omega
  ·intro x hx; rcases List.mem_cons.1 hx with rfl|hx; exact ha; exact has x hx
end
def aDf (n:Int):Prop:=-9223372036854775808≤n∧n≤9223372036854775807
mutual
def Dt.ok:Dt→Prop
 | .mk k n t g ks p=>aDf k∧aDf n∧aDf p∧bP g ks∧Dt.oks ks
def Dt.oks:List Dt→Prop
 | []=>True
 | d::ds=>Dt.ok d∧Dt.oks ds
end
theorem Dt.oks_iff:∀ {ks:List Dt},Dt.oks ks↔∀x∈ks,x.ok
 | []=>by simp[Dt.oks]
 | d::ds=>by rw[Dt.oks,Dt.oks_iff]; simp
theorem Dt.ok_eq (d:Dt):d.ok↔aDf d.k∧aDf d.n∧aDf d.p∧bP d.g d.ks∧∀x∈d.ks,x.ok:=by
 cases d; rw[Dt.ok,Dt.oks_iff]; rfl
theorem bAb {n:Int}(h:IntKind.i64.min≤n∧n≤IntKind.i64.max):aDf n:=by
 obtain⟨h1,h2⟩:=h
 simp[IntKind.min,IntKind.max,IntKind.signed,IntKind.bits]at h1 h2
 unfold aDf; omega
theorem bAc {tg:Tag}{α β:Type}{f:α→β}{l:List α}(h:tg=.nil→l.map f=[]):bP tg l:=fun e=>by simpa using h e
section
variable {H:Type}
open Rows
theorem tyI {d:DataW H}{l:List IV}(h:Ty Tryz.prog 3 d l):∃n,l=[.int .i64 n]∧uptoBulk d=1∧aDf n:=by
 obtain⟨n,rfl,rfl,hr⟩:=aZ9 Tryz.underlying3 h
 exact⟨n,rfl,by simp[uptoBulk],bAb hr⟩
theorem bDq:∀(n:Nat) (d:DataW H) (l:List IV),uptoBulk d≤n→Ty Tryz.prog 37 d l→∃x:Dt,l=eX x∧x.w≤uptoBulk d∧x.ok
 | 0,d,l,hb,h=>by
  obtain⟨ds,ls,rfl,rfl,hh⟩:=yE Tryz.underlying37 h
  simp only[uptoBulk]at hb; omega
 | n+1,d,l,hb,h=>by
  obtain⟨ds,ls,rfl,rfl,hh00⟩:=yE Tryz.underlying37 h
  have hh0:nX Tryz.prog [3,3,9,22,3] ds ls:=hh00
  obtain⟨d0,l0,ds,ls,rfl,rfl,h0,hh1⟩:=gH hh0
  obtain⟨d1,l1,ds,ls,rfl,rfl,h1,hh2⟩:=gH hh1
  obtain⟨d2,l2,ds,ls,rfl,rfl,h2,hh3⟩:=gH hh2
  obtain⟨d3,l3,ds,ls,rfl,rfl,h3,hh4⟩:=gH hh3
  obtain⟨d4,l4,ds,ls,rfl,rfl,h4,hh5⟩:=gH hh4
  obtain rfl:=rZ hh5
  rw[aCp hh5]
  simp only[uptoBulk,uptoBulkAll]at hb
  obtain⟨k,rfl,b0,r0⟩:=tyI h0
  obtain⟨m,rfl,b1,r1⟩:=tyI h1
  obtain⟨s,rfl,rfl⟩:=bAa Tryz.underlying9 h2
  obtain⟨tg,es,sp,ls,hd,rfl,ht,hn,hl⟩:=aBq Tryz.underlying22 h3
  obtain⟨p,rfl,b4,r4⟩:=tyI h4
  have hs:=yF hd
  obtain⟨ks,rfl,hw,hr⟩:=aDe (f:=eX) (R:=Dt.ok) (w:=Dt.w) (ws:=Dt.ws) (by rw[Dt.ws]) (fun a l=>by rw[Dt.ws]) ls es (fun d hd l h=>by
   have:=aBr hd
   exact bDq n d l (by omega) h) hn hl
  refine⟨.mk k m s tg ks p,?_,?_,?_⟩
  ·rw[eX,jF]; rfl
  ·rw[Dt.w]; simp only[uptoBulk,uptoBulkAll]; omega
  ·rw[Dt.ok_eq]; exact⟨r0,r1,r4,bAc ht,hr⟩
end
end Go.Proofs.YtjbpbohpmfpoiaaGreatDoor
namespace Go.Proofs.YtjbpbohpmfpoiaaGreatDoor
open Go Go.TM Go.ChangeShapes Go.WideShapes
theorem bDr {n:Nat}:∀(l:List Dt),(∀d∈l,d.w≤n)→Dt.ws l≤n*l.length
 | [],_=>by rw[Dt.ws]; exact Nat.zero_le _
 | d::l,h=>by
  have:=bDr l fun x hx=>h x (List.mem_cons_of_mem _ hx)
  have:=h d (by simp)
  rw[Dt.ws,List.length_cons,Nat.mul_add]
  omega
theorem law3 (g:Tag)(cs:List Dt)(b:Int)(hw:Dt.ws cs≤1048576):(lim K).call 3 [.iv (.sl g (bT cs)),.iv (.int .i64 b)] []=.ret (.iv (.bool true),[]):=by
 obtain⟨r,c6,hr⟩:=bG9 g hw
 have c7:=bHa
 refine aD K _ (fn:=t3) rfl rfl ?_
 cases r with
 | true=>simp (config := { maxSteps := 4000000 }) (disch:=omega) only[t3,go_sem,aE c6,aE c7]
 | false =>
  obtain⟨h1,h2⟩:=hr rfl
  have hwx:∀d∈cs,d.w≤1000:=fun d hd=>by have:=h2 d hd; omega
  have hw2:Dt.ws cs≤10000:=by have:=bDr cs h2; omega
  by_cases hok:(0≤b∧b≤67108864)∧iN cs=true
  ·obtain⟨hgd,hv,hgf,t1,t2,ht1,c8⟩:=bE8 g hw2 hwx hok.1 hok.2
   obtain⟨u1,u2,c9⟩:=aTw g hw2 hwx hok.1 hok.2
   have hfl:=aC9 hgd
   have hvl:(dF b cs).1.length≤cs.length:=jZ b _ cs σ0
   by_cases hbig:67108864<b+((fK b cs).2.mem.length:Int)
   ·rw[if_pos hbig]at c8 c9
    have c10:=aDd .nil .nil [] (by simp)
    rw[show bC []=[] from rfl]at c10
    simp (config := { maxSteps := 4000000 }) (disch:=omega) only[t3,go_sem,aE c6,aE c7,aE c8,aE c9,aE c10]
   ·rw[if_neg hbig]at c8 c9
    have c10:=aDd t1 u1 (fK b cs).2.mem (by omega)
    have c10b:=aDd t2 u2 ((dF b cs).1.map (wd (dF b cs).2.ad)) (by rw[List.length_map]; omega)
    simp (config := { maxSteps := 4000000 }) (disch:=omega) only[t3,go_sem,aE c6,aE c7,aE c8,aE c9,aE c10,aE c10b]
  ·have hbad:b<0∨67108864<b∨iN cs=false:=by
    by_cases h:iN cs=true
    ·have:¬(0≤b∧b≤67108864):=fun hh=>hok ⟨hh,h⟩
     omega
    ·rw[Bool.not_eq_true]at h; exact .inr (.inr h)
   have c8:=aZx g (by omega) hbad
   have c9:=aN2 g hw2 hwx hbad
   have c10:=aDd .nil .nil [] (by simp)
   rw[show bC []=[] from rfl]at c10
   simp (config := { maxSteps := 4000000 }) (disch:=omega) only[t3,go_sem,aE c6,aE c7,aE c8,aE c9,aE c10]
theorem bFe {H:Type}{d:DataW H}{l:List IV}(h:Ty Tryz.prog 22 d l):∃(tg:Tag) (cs:List Dt),l=[.sl tg (bT cs)]∧Dt.ws cs+1≤Rows.uptoBulk d∧∀x∈cs,x.ok:=by
 obtain⟨tg,es,sp,ls,hd,rfl,ht,hn,hl⟩:=aBq Tryz.underlying22 h
 have hs:=yF hd
 obtain⟨ks,rfl,hw,hr⟩:=aDe (f:=eX) (R:=Dt.ok) (w:=Dt.w) (ws:=Dt.ws) (by rw[Dt.ws]) (fun a l=>by rw[Dt.ws]) ls es (fun d hd l h=>bDq _ d l (Nat.le_refl _) h) hn hl
 exact⟨tg,ks,by rw[jF],by omega,hr⟩
theorem inv3 {H:Type}{ds:List (DataW H)}{ls:List (List IV)}(hh0:nX Tryz.prog [22,3] ds ls)(hb:Rows.uptoBulkAll ds≤1048576):((lim K).call 3 (aE6 Tryz.prog [22,3] ls) []).All fun r=>r.1=.iv (.bool true):=by
 obtain⟨d0,l0,ds,ls,rfl,rfl,h0,hh1⟩:=gH hh0
 obtain⟨d1,l1,ds,ls,rfl,rfl,h1,hh2⟩:=gH hh1
 obtain rfl:=rZ hh2
 rw[aCp hh2]
 simp only[Rows.uptoBulkAll]at hb
 obtain⟨tg,cs,rfl,hw,ho⟩:=bFe h0
 obtain⟨b,rfl,hb1,hbr⟩:=tyI h1
 have h:=law3 tg cs b (by omega)
 have ha:aE6 Tryz.prog [22,3] [[.sl tg (bT cs)],[.int .i64 b]]=[.iv (.sl tg (bT cs)),.iv (.int .i64 b)]:=rfl
 rw[ha,h]
 exact rfl
end Go.Proofs.YtjbpbohpmfpoiaaGreatDoor
