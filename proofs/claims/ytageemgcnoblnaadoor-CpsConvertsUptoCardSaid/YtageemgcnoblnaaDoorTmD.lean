/- A part of the evaluator TM, and of the proof that what it computes the model does. Condition: none. -/
import Derived.Test.YtageemgcnoblnaaDoorTmC
import Derived.Laws.Sem
import Derived.RangeFuncLeaves
import Derived.OpenShut
import Derived.LaidLaws
import Derived.LaidSub
import Derived.ProofKit
import Derived.Carry
import Derived.OpenVars
import Derived.MakeChecks
set_option linter.unusedVariables false
set_option linter.unusedSimpArgs false
namespace Go.TM
open Go
section
variable {P:Program}{O:dM}{K:TM.bV}{A:Ann}
variable {M:Mem}{J:aD}{L:List (Option Nat)}{S S':aA}{env env':Env}{w:World}
theorem LbR.stepN {n:Nat}{M':Mem}{J':aD}{w':World}(h:LbR M J L env w)(t:TrN n (fun _=>False) M J S w M' J' S' w'):LbR M' J' L env w':=by
 refine⟨h.len,fun j cs hj=>?_,h.inj⟩
 obtain⟨cb,h1,h2⟩:=h.box j cs hj
 have hlt:=h2.lt
 exact⟨cb,h1,h2.step (t.frame cb hlt h2.1 (fun h=>h)) t.mle (fun o=>t.mnew cb o hlt h2.1) t.jle (t.has hlt h2.1)⟩
theorem MS.stepN {n:Nat}{M':Mem}{J':aD}{w':World}(h:MS P O K M J L S env w)(hw:WR P O M' J' S' w')(t:TrN n (fun _=>False) M J S w M' J' S' w'):MS P O K M' J' L S' env w' :=
 ⟨hw,h.lb.stepN t,fun g cs hg=>(h.gl g cs hg).mono t.mle⟩
def bLf (P:Program)(O:dM)(K:TM.bV)(A:Ann)(nt n0 fm:Nat)(bef:List Nat)(ops:List Oper)(tops:List aM)(X:Nat->Prop)(run:Nat)(M:Mem)(J:aD)(L:List (Option Nat))(S:aA)(env:Env)(w:World)(rs:List TV)(a:Act)(y:Nat)
  (next:Act->World->Prop):Prop :=
 ∀(al':List (Nat×Nat)) (M':Mem) (J':aD) (w':World) (a':Act),DS P O K A nt n0 fm bef ops tops (fun k=>X k∨k=y) run al' M' J' L S env w' rs a'->a'.defers=a.defers->TrN n0 (dC L) M J S w M' J' S w'->next a' w'
theorem DS.ready {nt n0 fm:Nat}{bef:List Nat}{ops:List Oper}{tops:List aM}(hf:wX P O A nt bef ops tops){X:Nat->Prop}{run:Nat}{al:List (Nat×Nat)}{rs:List TV}{a:Act}(h:DS P O K A nt n0 fm bef ops tops X run al M J L S env w rs a){y:Nat}(hX:¬X y)
  (hr:∀j,B bef y j->X j) {to:aM} (hto:tops[y]? = some to):(∀tx∈bC to.op,aYg A ops X tx)∧∀g want,to.guard=some (g,want)->X g∧∃og t,ops[g]? = some og∧og.dst=some t:=by
 refine⟨fun tx htx=>?_,fun g want hg=>?_⟩
 ·cases tx with
  | reg r=>exact hr r ((hf.opd y to hto _ htx).1 r rfl)
  | loc j =>
   intro k o hk ho t ht hj
   exact hX (h.xc k hk y ((hf.opd y to hto _ htx).2 j rfl k o t ho ht hj))
  | _=>trivial
 ·obtain⟨h1,h2⟩:=hf.gd y to hto g want hg
  exact⟨hr g h1,h2⟩
theorem DS.run_wp {nt n0 fm:Nat}{bef:List Nat}{ops:List Oper}{tops:List aM}(hf:wX P O A nt bef ops tops){F:Fence}(hF:dJ F)(nn:Nat){X:Nat->Prop}{run:Nat}{al:List (Nat×Nat)}{rs:List TV}{a:Act}
  (h:DS P O K A nt n0 fm bef ops tops X run al M J L S env w rs a) {y:Nat} (hy:run.testBit y=true) (hX:¬X y) (hr:∀j,B bef y j->X j) {next:Act->World->Prop}
  (hk:bLf P O K A nt n0 fm bef ops tops X run M J L S env w rs a y next) {Z:Exit->Act->World->Prop}:wpOpIn F nn P ops.toArray Z y next a w:=by
 have hyl:=h.rn y hy
 have hi:ops[y]? = some ops[y]:=List.getElem?_eq_getElem hyl
 obtain⟨to,hto,hca⟩:=hf.ca y ops[y] hi
 obtain⟨hopd,hgd⟩:=h.ready hf hX hr hto
 have htn:=aCt (hf.nl y to hto)
 have hgd':∀g want,ops[y].guard=some (g,want)->X g∧∃og t,ops[g]? = some og∧og.dst=some t:=by rw[<-hca.guard];exact hgd
 have hloc:=fun(_:aS to.op=none) (hl:to.loc=none) (j t:Nat) (hd:ops[y].dst=some t)=>aCq hf.hs hca htn hl j t hd
 have hlp:∀ {env':Env} {v:TV},∀j,aS to.op=some j->rs.any (uB j)=false∧v=.lp j 0∧(∃d,ops[y].dst=some d∧A.slots[j]? = some d)∧(∃cs,env'=env.set j (.lb cs))∧j<env.length:=fun j hj=>by rw[htn]at hj;simp at hj
 have hsub:∀i,(X i∨i=y)->run.testBit i=true:=fun i hi=>hi.elim (h.sub i) (fun e=>e▸hy)
 have hxc:∀i,(X i∨i=y)->∀j,B bef i j->(X j∨j=y):=fun i hi j hj=>hi.elim (fun hi=>.inl (h.xc i hi j hj)) (fun e=>.inl (hr j (e▸hj)))
 have hfx:∀i,run.testBit i=true->fm.testBit i=true∨(X i∨i=y):=fun i hi=>(h.fx i hi).imp id .inl
 have hv:∀ {w':World},MS P O K M J L S env w'->aG2 A ((ops.take y).map (·.dst)) M J L (bH K env rs) a to.op:=fun ms x tx hm hx=>aM0 ms h.rr hx (hopd tx hm)
 have hcr:to.op≠.bad->cP P O A ((ops.take y).map (·.dst)) (ops[y].dst.bind fun t=>eK t A.slots 0) ops[y].op to.op:=fun hb=>hca.op.resolve_left hb
 unfold wpOpIn
 simp only[List.getElem?_toArray,hi]
 by_cases hal:∃i,(y,i)∈al
 · -- a block that stands in the store
  obtain⟨i,hyi⟩:=hal
  obtain⟨_,_,to',vf,b,hto',hg,hrv,hall,hJi,hSi⟩:=h.al1 y i hyi
  rw[hto]at hto'
  simp at hto';subst hto'
  have hw:=kN h.rr hf.hd (by rw[<-hca.guard];exact hg) hgd'
  rw[hw]
  simp only[if_true]
  have hcr:=hcr (by intro e;have:=hall 0;rw[e]at this;simp[bZ]at this)
  obtain⟨_,vf',hall',ob,vm,l,hlay⟩:=aQl hcr a h.ms (hv h.ms) (hall i)
  have hvf:vf i=vf' i:=by have:=hall' i;rw[hall i]at this;simpa using this
  have hp:pU J S l b i (J.set i (some l)) S:=.real i hJi hSi
  have hn0:n0<=i:=h.al3 _ hyi
  obtain⟨wr',tr'⟩:=h.ms.wr.place ob l b hp hlay.cb (hlay.blk _ hp.jle) (n:=n0) (.inr hn0)
  unfold Oper.wpIn
  refine⟨fun f _=>hF.fn f,?_⟩
  rw[Oper.semAt_eq _ _ _ hcr.notDefer,hlay.run,Oper.uponIn_value]
  have hms':=h.ms.stepN wr' tr'
  have hvr:VR M (J.set i (some l)) L (rs.getD y .hole) vm:=by rw[hrv,hvf];exact hlay.val L _ i (hp.at h.ms.wr.len)
  -- registers: as they were,under the aBy
  have hrr0:=h.rr.mono (.refl M) hp.jle
  have hrr:=hrr0.step hf.hd hf.hs hi hto hX (.refl (dC L) M (J.set i (some l)) S (w.alloc ob)) (env':=env) (L':=L) (by rw[htn];exact⟨rfl,.refl _⟩) hvr ⟨rfl,rfl,fun k _=>rfl⟩ hlp hloc
  refine hk (al.filter fun p=>decide (p.1≠y)) M (J.set i (some l)) (w.alloc ob) _ ⟨hrr,hms',hsub,h.cl,hxc,fun z hz hXz=>?_,fun z k hzk=>?_,fun p q hp hq=>?_,h.rn,fun p hp=>?_,by simpa using h.nj,hfx⟩ nX (tr'.weaken (fun _ hh=>hh.elim))
  ·rw[not_or]at hXz
   rcases h.pend z hz hXz.1 with h'|⟨k,hk'⟩
   ·exact .inl h'
   ·exact .inr ⟨k,List.mem_filter.2 ⟨hk',by simpa using hXz.2⟩⟩
  ·obtain⟨h1,h2⟩:=List.mem_filter.1 hzk
   have hzy:z≠y:=by simpa using h2
   obtain⟨e1,e2,t2,vf2,b2,f1,f2,f3,f4,f5,f6⟩:=h.al1 z k h1
   have hki:k≠i:=by
    rintro rfl
    have:=h.al2 (z,k) (y,k) h1 hyi (.inr rfl)
    simp at this;exact hzy this
   exact⟨e1,fun hh=>hh.elim e2 hzy,t2,vf2,b2,f1,f2,f3,f4,by rw[List.getElem?_set_ne (by omega)];exact f5,f6⟩
  ·exact h.al2 p q (List.mem_filter.1 hp).1 (List.mem_filter.1 hq).1
  ·exact h.al3 p (List.mem_filter.1 hp).1
 · -- one that lays none
  have hp1:=(h.pend y hy hX).resolve_right hal
  obtain⟨to',hto',hc⟩:=hp1
  rw[hto]at hto'
  simp at hto';subst hto'
  have rest:∀(M':Mem) (J':aD) (w':World) (v':Value),VR M' J' L (rs.getD y .hole) v'->MS P O K M' J' L S env w'->Tr (dC L) M J S w M' J' S w'->next (a.put ops[y].dst v') w':=by
   intro M' J' w' v' hvr hms' tr
   have hrr:=h.rr.step hf.hd hf.hs hi hto hX tr (env':=env) (L':=L) (by rw[htn];exact⟨rfl,.refl _⟩) hvr ⟨rfl,rfl,fun k _=>rfl⟩ hlp hloc
   refine hk al M' J' w' _ ⟨hrr,hms',hsub,h.cl,hxc,fun z hz hXz=>h.pend z hz (fun hh=>hXz (.inl hh)),fun z k hzk=>?_,h.al2,h.rn,h.al3,Nat.le_trans h.nj tr.jle.1,hfx⟩ nX (tr.trN n0)
   obtain⟨e1,e2,t2,vf2,b2,f1,f2,f3,f4,f5,f6⟩:=h.al1 z k hzk
   exact⟨e1,fun hh=>hh.elim e2 (fun e=>hal ⟨k,e▸hzk⟩),t2,vf2,b2,f1,f2,f3,f4,(tr.ph k f5).1,f6⟩
  rcases hc with⟨hg,hrv⟩|⟨hg,hfl⟩
  ·have hw:=kN h.rr hf.hd (by rw[<-hca.guard];exact hg) hgd'
   rw[hw]
   simp only[Bool.false_eq_true,if_false]
   exact⟨fun f _=>hF.fn f,rest M J w _ (by rw[hrv];exact tO) h.ms (.refl _ _ _ _ _)⟩
  ·have hw:=kN h.rr hf.hd (by rw[<-hca.guard];exact hg) hgd'
   rw[hw]
   simp only[if_true]
   have hcr:=hcr (by intro e;rw[e]at hfl;simp[iJ,bG,aR]at hfl)
   have hsim:=(aYa hcr a h.ms (hv h.ms) (v:=rs.getD y .hole) (by
    unfold iJ at hfl
    split at hfl
    ·rename_i v hp;simp at hfl;subst hfl;exact .inl hp
    ·exact .inr hfl)).2
   refine aJl hF nn hcr.notDefer hsim (Q:=fun r=>r.1=rs.getD y .hole∧r.2.1=env∧r.2.2=S) ⟨rfl,rfl,rfl⟩ ?_
   rintro v env2 S2 M' J' L2 w' v' ⟨rfl,rfl,rfl⟩ hvr hms' tr el
   rw[htn]at el
   obtain⟨rfl,_⟩:=el
   exact rest M' J' w' v' hvr hms' tr
theorem zM {tops:List aM}{rs:List TV}{env:Env}{S:aA}:∀ {chk:List Nat},nC K tops rs env S chk=true->∀y∈chk,∀to,tops[y]? = some to->dS to.guard rs=some true->iJ K to.op env rs S=some (rs.getD y .hole)
 | [],_,y,hy=>by simp at hy
 | i::is,h,y,hy=>by
  simp only[nC,Bool.and_eq_true]at h
  intro to hto hg
  rcases List.mem_cons.1 hy with rfl|hy
  ·have h1:=h.1
   rw[hto]at h1
   simp only[hg]at h1
   split at h1
   ·rename_i v hv
    rw[hv,aP7 h1]
   ·simp at h1
  ·exact zM h.2 y hy to hto hg
theorem DS.effect {nt n0 fm:Nat}{bef:List Nat}{ops:List Oper}{tops:List aM}(hf:wX P O A nt bef ops tops){X:Nat->Prop}{run:Nat}{al:List (Nat×Nat)}{rs:List TV}{a:Act}(h:DS P O K A nt n0 fm bef ops tops X run al M J L S env w rs a)
  {e:Nat} (he:run.testBit e=false) (hel:e<ops.length) (hr:∀j,B bef e j->X j) {to:aM} (hto:tops[e]? = some to) {v:TV} {M':Mem} {J':aD} {L':List (Option Nat)} {w':World} {a':Act}
  (hrr:RR A nt ops tops (fun k=>X k∨k=e) M' J' L' env' (rs.set e v) a') (hms:MS P O K M' J' L' S' env' w') (tr:Tr (dC L) M J S w M' J' S' w') (el:EL w (aS to.op) env env' L L') {chk:List Nat} (hchk:nC K tops (rs.set e v) env' S' chk=true)
  (hcov:∀y,fm.testBit y=true->B bef e y∨y∈chk∨∀ty,tops[y]? = some ty->wF ty.op=false):DS P O K A nt n0 fm bef ops tops (fun k=>X k∨k=e) (run ||| 2 ^ e) al M' J' L' S' env' w' (rs.set e v) a':=by
 have hers:e<rs.length:=by rw[h.rr.rl];exact hel
 obtain⟨k1,k2,k3⟩:=wV hers v
 have htn:=aCt (hf.nl e to hto)
 rw[htn]at el
 have hsl:∀j,eR env' j=eR env j:=fun j=>aCn el.2 j
 have old:∀(y:Nat),run.testBit y=true->∀r,B bef y r->(rs.set e v).getD r .hole=rs.getD r .hole:=fun y hy r hr=>k3 r (fun ee=>by have:=h.cl y hy r hr;rw[ee,he]at this;simp at this)
 have hne:∀y,run.testBit y=true->y≠e:=fun y hy ee=>by rw[ee,he]at hy;simp at hy
 refine⟨hrr,hms,fun i hi=>eP.2 (hi.imp (h.sub i) id),fun i hi j hj=>?_,fun i hi j hj=>?_,fun y hy hX=>?_,fun y k hyk=>?_,h.al2,fun i hi=>?_,h.al3,Nat.le_trans h.nj tr.jle.1,fun y hy=>?_⟩
 ·rcases eP.1 hi with hi|rfl
  ·exact eP.2 (.inl (h.cl i hi j hj))
  ·exact eP.2 (.inl (h.sub j (hr j hj)))
 ·rcases hi with hi|rfl
  ·exact .inl (h.xc i hi j hj)
  ·exact .inl (hr j hj)
 ·rw[not_or]at hX
  have hy:=(eP.1 hy).resolve_right hX.2
  rcases h.pend y hy hX.1 with⟨ty,hty,hc⟩|h'
  ·left
   refine⟨ty,hty,?_⟩
   have hgs:=qR hf hty (old y hy)
   rw[hgs,k3 y (hne y hy)]
   rcases hc with hc|⟨hg,hfl⟩
   ·exact .inl hc
   ·refine .inr ⟨hg,?_⟩
    have hop:=sO (K:=K) hf hty hsl (old y hy)
    unfold iJ at hfl
    cases hpu:bG ty.op (bH K env rs)with
    | some v2 =>
     rw[hpu]at hfl
     unfold iJ
     rw[<-wW hop,hpu]
     exact hfl
    | none =>
     rw[hpu]at hfl
     simp only at hfl
     have hrd:wF ty.op=true:=by
      cases hb:wF ty.op with
      | true=>rfl
      | false=>rw[aJs hb]at hfl;simp at hfl
     rcases hcov y ((h.fx y hy).resolve_right hX.1)with h1|h1|h1
     ·exact absurd (hr y h1) hX.1
     ·have:=zM hchk y h1 ty hty (by rw[hgs];exact hg)
      rw[k3 y (hne y hy)]at this
      exact this
     ·rw[h1 ty hty]at hrd;simp at hrd
  ·exact .inr h'
 ·obtain⟨e1,e2,ty,vf,b,f1,f2,f3,f4,f5,f6⟩:=h.al1 y k hyk
  obtain⟨p1,p2⟩:=tr.ph k f5
  refine⟨eP.2 (.inl e1),fun hh=>hh.elim e2 (hne y e1),ty,vf,b,f1,?_,?_,fun m=>?_,p1,by rw[p2];exact f6⟩
  ·rw[qR hf f1 (old y e1)];exact f2
  ·rw[k3 y (hne y e1)];exact f3
  ·rw[<-pC m (sO hf f1 hsl (old y e1))];exact f4 m
 ·rcases eP.1 hi with hi|rfl
  ·exact h.rn i hi
  ·exact hel
 ·rcases eP.1 hy with hy|rfl
  ·exact(h.fx y hy).imp id .inl
  ·exact .inr (.inr rfl)
theorem DS.fm {nt n0 fm fm':Nat}{bef:List Nat}{ops:List Oper}{tops:List aM}{X:Nat->Prop}{run:Nat}{al:List (Nat×Nat)}{rs:List TV}{a:Act}(h:DS P O K A nt n0 fm bef ops tops X run al M J L S env w rs a)(hm:∀y,fm.testBit y=true->fm'.testBit y=true):
  DS P O K A nt n0 fm' bef ops tops X run al M J L S env w rs a :=
 ⟨h.rr,h.ms,h.sub,h.cl,h.xc,h.pend,h.al1,h.al2,h.rn,h.al3,h.nj,fun y hy=>(h.fx y hy).imp (hm y) id⟩
theorem DS.congr {nt n0 fm:Nat}{bef:List Nat}{ops:List Oper}{tops:List aM}{X X':Nat->Prop}{run:Nat}{al:List (Nat×Nat)}{rs:List TV}{a:Act}(h:DS P O K A nt n0 fm bef ops tops X run al M J L S env w rs a)(hx:∀k,X k↔X' k):
  DS P O K A nt n0 fm bef ops tops X' run al M J L S env w rs a:=by
 have:X=X':=funext fun k=>propext (hx k)
 exact this▸h
theorem aCu {y:Nat}:∀(fl:List Nat) (m:Nat),(fl.foldl (fun m i=>m ||| 2 ^ i) m).testBit y=true↔m.testBit y=true∨y∈fl
 | [],m=>by simp
 | i::fl,m=>by
  simp only[List.foldl_cons]
  rw[aCu fl,eP]
  simp only[List.mem_cons]
  rw[or_assoc]
theorem sP {bef:List Nat}{y:Nat}:∀ {is:List Nat} {run run':Nat},lE bef is run=some run'->(run'.testBit y=true↔run.testBit y=true∨y∈is)
 | [],run,run',h=>by simp[lE]at h;subst h;simp
 | i::is,run,run',h=>by
  obtain⟨_,_,h3⟩:=mG h
  rw[sP h3,eP]
  simp only[List.mem_cons]
  rw[or_assoc]
theorem kO {tops:List aM}{env:Env}:∀ {is:List Nat} {rs:List TV} {S:aA} {q:List TV×aA},eI K tops is rs env S=some q->∀i∈is,i<tops.length
 | [],_,_,_,_,i,hi=>by simp at hi
 | k::is,rs,S,q,h,i,hi=>by
  simp only[eI]at h
  split at h
  ·simp at h
  ·rename_i o ho
   have hk:k<tops.length:=(List.getElem?_eq_some_iff.1 ho).1
   rcases List.mem_cons.1 hi with rfl|hi
   ·exact hk
   ·split at h
    ·simp at h
    ·exact kO h i hi
    ·split at h
     ·exact kO h i hi
     ·split at h
      ·exact kO h i hi
      ·simp at h
theorem lR {bef:List Nat}{tops:List aM}{e:Nat}{chk fl:List Nat}{ps:List (Nat×List Nat×List Nat)}{last:Option Nat}{run fm all:Nat}(h:iK bef tops ((e,chk,fl)::ps) last run fm=some all):
  (∀l,last=some l->B bef e l)∧(∀y,y<tops.length->fm.testBit y=true->B bef e y∨y∈chk∨∀ty,tops[y]? = some ty->wF ty.op=false)∧(∀i∈fl,B bef i e) ∧
   ∃run',lE bef (e::fl) run=some run'∧iK bef tops ps (some e) run' (fm ||| fl.foldl (fun m i=>m ||| 2 ^ i) 0)=some all:=by
 have key:∀ {c0:Bool},(c0=true->∀l,last=some l->B bef e l) ->
   (if(c0&&(List.range tops.length).all (fun i=>!(fm.testBit i)||(bef.getD e 0).testBit i||chk.contains i||!(match tops[i]? with|some o=>wF o.op|none=>true))&&fl.all (fun i=>(bef.getD i 0).testBit e))=true then
    match lE bef (e::fl) run with
    | some run'=>iK bef tops ps (some e) run' (fm ||| fl.foldl (fun m i=>m ||| 2 ^ i) 0)
    | none=>none
   else none)=some all->(∀l,last=some l->B bef e l)∧(∀y,y<tops.length->fm.testBit y=true->B bef e y∨y∈chk∨∀ty,tops[y]? = some ty->wF ty.op=false)∧(∀i∈fl,B bef i e) ∧
   ∃run',lE bef (e::fl) run=some run'∧iK bef tops ps (some e) run' (fm ||| fl.foldl (fun m i=>m ||| 2 ^ i) 0)=some all:=by
  intro c0 hc0 h
  split at h
  ·rename_i hc
   simp only[Bool.and_eq_true,List.all_eq_true]at hc
   obtain⟨⟨h1,h2⟩,h3⟩:=hc
   refine⟨hc0 h1,fun y hy hfy=>?_,fun i hi=>h3 i hi,?_⟩
   ·have:=h2 y (List.mem_range.2 hy)
    simp only[Bool.or_eq_true,Bool.not_eq_true']at this
    rcases this with((h4|h4)|h4)|h4
    ·rw[hfy]at h4;simp at h4
    ·exact .inl h4
    ·exact .inr (.inl (by simpa using h4))
    ·refine .inr (.inr fun ty hty=>?_)
     rw[hty]at h4;exact h4
   ·split at h
    ·rename_i run' hrun
     exact⟨run',hrun,h⟩
    ·simp at h
  ·simp at h
 cases last with
 | none=>exact key (c0:=true) (fun _ l hl=>by simp at hl) h
 | some l0=>exact key (c0:=(bef.getD e 0).testBit l0) (fun hc l hl=>by simp at hl;subst hl;exact hc) h
theorem zN {bef:List Nat}{tops:List aM}{X:Nat->Prop}(hx:∀i,X i->∀j,B bef i j->X j){y:Nat}(hy:∀j,B bef y j->X j):∀ {ps:List (Nat×List Nat×List Nat)} {e:Nat} {chk fl:List Nat} {last:Option Nat} {run fm all:Nat},
  iK bef tops ((e,chk,fl)::ps) last run fm=some all->all.testBit y=true->run.testBit y=false->y=e∨X e
 | ps,e,chk,fl,last,run,fm,all,h,hall,hrun=>by
  obtain⟨_,_,h3,run',h4,h5⟩:=lR h
  obtain⟨_,_,h6⟩:=mG h4
  by_cases hye:y=e
  ·exact .inl hye
  ·by_cases hyf:y∈fl
   ·exact .inr (hy e (h3 y hyf))
   ·have hrun':run'.testBit y=false:=by
     cases hb:run'.testBit y with
     | false=>rfl
     | true =>
      rcases(sP h4).1 hb with h7|h7
      ·rw[hrun]at h7;simp at h7
      ·rcases List.mem_cons.1 h7 with h7|h7
       ·exact absurd h7 hye
       ·exact absurd h7 hyf
    cases ps with
    | nil =>
     simp only[iK,Option.some.injEq]at h5
     rw[h5,hall]at hrun';simp at hrun'
    | cons p ps =>
     obtain⟨e2,chk2,fl2⟩:=p
     have hB:=(lR h5).1 e rfl
     rcases zN hx hy h5 hall hrun' with h7|h7
     ·subst h7;exact .inr (hy e hB)
     ·exact .inr (hx e2 h7 e hB)
theorem yE {bef:List Nat}:∀ {os:List Oper} {i:Nat},aBz bef i os=true->∀ {k:Nat} {o:Oper},os[k]? = some o->(∀e∈o.after.toList,Region.binds .any e=true->e.on<i+k) ∧
  (∀j,B bef (i+k) j->∃e∈o.after.toList,Region.binds .any e=true∧(e.on=j∨B bef e.on j))
 | [],i,_,k,o,hk=>by simp at hk
 | o0::os,i,h,k,o,hk=>by
  simp only[aBz,Bool.and_eq_true]at h
  obtain⟨⟨⟨h1,h2⟩,h3⟩,h4⟩:=h
  cases k with
  | zero =>
   simp at hk;subst hk
   rw[Nat.add_zero]
   simp only[List.all_eq_true]at h1 h2
   refine⟨fun e he hb=>?_,fun j hj=>?_⟩
   ·have:=h1 e he
    rw[hb]at this
    simpa using this
   ·have hji:j<i:=by
     rcases Nat.lt_or_ge j i with hlt|hge
     ·exact hlt
     ·have h5:bef.getD i 0<2 ^ j:=Nat.lt_of_lt_of_le (by simpa using h3) (Nat.pow_le_pow_right (by omega) hge)
      unfold B at hj
      rw[Nat.testBit_lt_two_pow h5]at hj
      simp at hj
    have:=h2 j (List.mem_range.2 hji)
    unfold B at hj
    rw[hj]at this
    simp only[Bool.not_true,Bool.false_or,List.any_eq_true,Bool.and_eq_true,Bool.or_eq_true,beq_iff_eq]at this
    exact this
  | succ k =>
   simp at hk
   have:=yE h4 hk
   rw[show i+1+k=i+(k+1) by omega]at this
   exact this
theorem tP {bef:List Nat}{ws:List (Option Nat)}{ops:List Oper}:∀ {os:List aM} {i:Nat},aI2 bef ws ops i os=true->∀ {k:Nat} {to:aM},os[k]? = some to ->
  (∀tx∈bC to.op,aXu bef ws (i+k) tx=true)∧isL to.op=false∧∀g want,to.guard=some (g,want)->B bef (i+k) g∧∃og t,ops[g]? = some og∧og.dst=some t
 | [],i,_,k,to,hk=>by simp at hk
 | o0::os,i,h,k,to,hk=>by
  simp only[aI2,Bool.and_eq_true]at h
  obtain⟨⟨⟨h1,h2⟩,h3⟩,h4⟩:=h
  cases k with
  | zero =>
   simp at hk;subst hk
   rw[Nat.add_zero]
   refine⟨fun tx hx=>(List.all_eq_true.1 h1) tx hx,by simpa using h2,fun g want hg=>?_⟩
   rw[hg]at h3
   simp only[Bool.and_eq_true]at h3
   refine⟨h3.1,?_⟩
   have h5:=h3.2
   split at h5
   ·rename_i og hog
    obtain⟨t,ht⟩:=Option.isSome_iff_exists.1 h5
    exact⟨og,t,hog,ht⟩
   ·simp at h5
  | succ k =>
   simp at hk
   have:=tP h4 hk
   rw[show i+1+k=i+(k+1) by omega]at this
   exact this
theorem aYh {nt id:Nat}(hs:fE A nt){ops:List Oper}(hd:sK nt ops){bef:List Nat}(h:aI2 bef (ops.map fun o=>o.dst.bind fun t=>eK t A.slots 0) ops 0 (dI P O A id true ops 0 [])=true):
  wX P O A nt bef ops (dI P O A id true ops 0 []):=by
 refine⟨hs,hd,fun k o ho=>?_,eS,fun k to hto tx htx=>?_,fun k to hto=>(tP h hto).2.1,fun k to hto g want hg=>?_⟩
 ·obtain⟨to,h1,h2⟩:=mF (P:=P) (O:=O) (A:=A) (id:=id) (draw:=true) (i:=0) (dsts:=[]) ho
  exact⟨to,h1,by simpa using h2⟩
 ·have:=(tP h hto).1 tx htx
  rw[Nat.zero_add]at this
  refine⟨fun r hr=>by subst hr;exact this,fun j hj wi o t ho ht hjt=>?_⟩
  subst hj
  simp only[aXu,List.all_eq_true]at this
  have h1:=this wi (List.mem_range.2 (by simpa using(List.getElem?_eq_some_iff.1 ho).1))
  have h2:(ops.map fun o=>o.dst.bind fun t=>eK t A.slots 0).getD wi none=some j:=by
   simp[List.getD,ho,ht,aQo hs hjt]
  rw[h2]at h1
  simpa[B] using h1
 ·have:=(tP h hto).2.2 g want hg
  rwa [Nat.zero_add]at this
def X (listed:Array Bool)(i:Nat):Prop:=listed.getD i false=true
theorem aYi {listed:Array Bool}{y:Nat}(hy:y<listed.size)(k:Nat):X (listed.setIfInBounds y true) k↔(X listed k∨k=y):=by
 unfold X
 rw[Array.getD_eq_getD_getElem?,Array.getD_eq_getD_getElem?]
 by_cases h:k=y
 ·subst h
  rw[Array.getElem?_setIfInBounds_self_of_lt hy];simp
 ·rw[Array.getElem?_setIfInBounds_ne (Ne.symm h)]
  simp[h]
theorem aFh {ops:List Oper}{listed:Array Bool}{y:Nat}(h:y∈Region.ready .any ops.toArray listed):y<ops.length∧listed.getD y true=false∧∀o,ops[y]? = some o->∀e∈o.after.toList,Region.binds .any e=true->X listed e.on:=by
 unfold Region.ready at h
 simp only[List.mem_filter,List.mem_range,Bool.and_eq_true,Bool.not_eq_true']at h
 obtain⟨h1,h2,h3⟩:=h
 refine⟨by simpa using h1,h2,fun o ho e he hb=>?_⟩
 simp only[List.getElem?_toArray,ho,Option.map_some,Option.getD_some]at h3
 rw[<-Array.all_toList]at h3
 have:=(List.all_eq_true.1 h3) e he
 rw[hb]at this
 simpa[X] using this
theorem aR9 {ops:List Oper}{listed:Array Bool}(hsz:listed.size=ops.length){y:Nat}(hy:y<ops.length)(hX:¬X listed y)(he:∀o,ops[y]? = some o->∀e∈o.after.toList,Region.binds .any e=true->X listed e.on):y∈Region.ready .any ops.toArray listed:=by
 unfold Region.ready
 simp only[List.mem_filter,List.mem_range,Bool.and_eq_true,Bool.not_eq_true']
 refine⟨by simpa using hy,?_,?_⟩
 ·have hl:y<listed.size:=by omega
  unfold X at hX
  rw[Array.getD_eq_getD_getElem?,Array.getElem?_eq_getElem hl]at hX ⊢
  simpa using hX
 ·have ho:ops[y]? = some ops[y]:=List.getElem?_eq_getElem hy
  simp only[List.getElem?_toArray,ho,Option.map_some,Option.getD_some]
  rw[<-Array.all_toList,List.all_eq_true]
  intro e hee
  cases hb:Region.binds .any e with
  | false=>rfl
  | true =>
   have:=he _ ho e hee hb
   simpa[X] using this
theorem aSa {ops:List Oper}{bef:List Nat}(hbo:aBz bef 0 ops=true){listed:Array Bool}(hsz:listed.size=ops.length)(h:Region.ready .any ops.toArray listed=[]):∀y,y<ops.length->X listed y:=by
 intro y
 induction y using Nat.strongRecOn with
 | _ y ih =>
  intro hy
  by_cases hX:X listed y
  ·exact hX
  ·have:=aR9 hsz hy hX (fun o ho e he hb=>by
    have h1:=(yE hbo ho).1 e he hb
    rw[Nat.zero_add]at h1
    exact ih e.on h1 (by omega))
   rw[h]at this;simp at this
theorem aHb {ops:List Oper}{bef:List Nat}(hbo:aBz bef 0 ops=true){Y:Nat->Prop}(hc:∀i,Y i->∀o,ops[i]? = some o->∀e∈o.after.toList,Region.binds .any e=true->Y e.on)(hlt:∀i,Y i->i<ops.length):
  ∀(y:Nat) (o:Oper),ops[y]? = some o->(∀e∈o.after.toList,Region.binds .any e=true->Y e.on)->∀j,B bef y j->Y j:=by
 intro y
 induction y using Nat.strongRecOn with
 | _ y ih =>
  intro o ho he j hj
  have hg:=yE hbo ho
  rw[Nat.zero_add]at hg
  obtain⟨e,he1,he2,he3⟩:=hg.2 j hj
  rcases he3 with he3|he3
  ·rw[<-he3];exact he e he1 he2
  ·have hon:=he e he1 he2
   have hlt':=hlt _ hon
   exact ih e.on (hg.1 e he1 he2) _ (List.getElem?_eq_getElem hlt') (fun e' h1 h2=>hc e.on hon _ (List.getElem?_eq_getElem hlt') e' h1 h2) j he3
theorem aJv {nt:Nat}{bef:List Nat}{ops:List Oper}{tops:List aM}(hf:wX P O A nt bef ops tops){orc:Orc}{M0:Mem}{J0:aD}{L0:List (Option Nat)}{S0:aA}{w0:World}{a0:Act}{Qf:List TV×Env×aA->Prop}{next:Act->World->Prop}
  (hfin:aQp P O K A nt ops tops M0 J0 L0 S0 w0 a0 Qf next) {Y:Nat->Prop} {run fm all:Nat} {al:List (Nat×Nat)} {rs:List TV} {a:Act} {ps:List (Nat×List Nat×List Nat)} {last:Option Nat} (h:DS P O K A nt J0.length fm bef ops tops Y run al M J L S env w rs a)
  (hph:iK bef tops ps last run fm=some all) (hq:(eJ K orc tops ps rs env S).All Qf) (tr:TrN J0.length (dC L0) M0 J0 S0 w0 M J S w) (og:OG L0 L w0 w) (hdf:a.defers=a0.defers) (hY:∀y,y<ops.length->Y y):next a w:=by
 cases ps with
 | nil=>exact hfin rs env S M J L w a hq (h.rr.congr (fun k=>⟨fun hk=>h.rn k (h.sub k hk),fun hk=>hY k hk⟩)) hdf h.ms tr.tr og
 | cons p ps =>
  obtain⟨e,chk,fl⟩:=p
  obtain⟨_,_,_,run',h4,_⟩:=lR hph
  obtain⟨h5,_,_⟩:=mG h4
  simp only[eJ]at hq
  split at hq
  ·exact hq.elim
  ·rename_i o ho
   have hel:e<ops.length:=by rw[<-hf.tl];exact(List.getElem?_eq_some_iff.1 ho).1
   rw[h.sub e (hY e hel)]at h5
   simp at h5
theorem aYj {orc:Orc}(ha:nY P O K orc){F:Fence}(hF:dJ F)(nn:Nat){nt:Nat}{bef:List Nat}{ops:List Oper}{tops:List aM}(hf:wX P O A nt bef ops tops)(hbo:aBz bef 0 ops=true){Z:Exit->Act->World->Prop}
  {M0:Mem} {J0:aD} {L0:List (Option Nat)} {S0:aA} {w0:World} {a0:Act} {Qf:List TV×Env×aA->Prop} (hfin:aQp P O K A nt ops tops M0 J0 L0 S0 w0 a0 Qf (Z .normal)) {all:Nat} (hall:∀y,y<ops.length->all.testBit y=true):
  ∀(fuel:Nat) (listed:Array Bool) (ps:List (Nat×List Nat×List Nat)) (last:Option Nat) (run fm:Nat) (al:List (Nat×Nat)) (M:Mem) (J:aD) (L:List (Option Nat)) (S:aA) (env:Env) (w:World) (rs:List TV) (a:Act),listed.size=ops.length ->
   listed.toList.count false<=fuel->(∀i,X listed i->∀o,ops[i]? = some o->∀e∈o.after.toList,Region.binds .any e=true->X listed e.on)->DS P O K A nt J0.length fm bef ops tops (X listed) run al M J L S env w rs a ->
   iK bef tops ps last run fm=some all->(eJ K orc tops ps rs env S).All Qf->TrN J0.length (dC L0) M0 J0 S0 w0 M J S w->OG L0 L w0 w->a.defers=a0.defers->wpAnyIn F nn P .any ops.toArray Z fuel listed a w:=by
 intro fuel
 induction fuel with
 | zero =>
  intro listed ps last run fm al M J L S env w rs a hsz hcnt hcl h hph hq tr og hdf
  have hAll:∀y,y<ops.length->X listed y:=by
   intro y hy
   have h0:listed.toList.count false=0:=by omega
   rw[List.count_eq_zero]at h0
   unfold X
   have hl:y<listed.size:=by omega
   rw[Array.getD_eq_getD_getElem?,Array.getElem?_eq_getElem hl]
   cases hb:listed[y]with
   | true=>rfl
   | false=>exact absurd (by rw[<-hb];exact Array.mem_toList_iff.2 (Array.getElem_mem hl)) h0
  refine⟨?_,aJv hf hfin h hph hq tr og hdf hAll⟩
  cases hr:Region.ready .any ops.toArray listed with
  | nil=>rfl
  | cons y r =>
   obtain⟨h1,h2,_⟩:=aFh (y:=y) (by rw[hr];simp)
   have:=hAll y h1
   unfold X at this
   have hl:y<listed.size:=by omega
   rw[Array.getD_eq_getD_getElem?,Array.getElem?_eq_getElem hl]at this h2
   simp at this h2
   rw[h2]at this;simp at this
 | succ fuel ih =>
  intro listed ps last run fm al M J L S env w rs a hsz hcnt hcl h hph hq tr og hdf
  refine⟨fun hr=>aJv hf hfin h hph hq tr og hdf (aSa hbo hsz hr),fun y hy=>?_⟩
  obtain⟨hyl,hyf,hye⟩:=aFh hy
  have hylsz:y<listed.size:=by omega
  have hXy:¬X listed y:=by
   unfold X
   rw[Array.getD_eq_getD_getElem?,Array.getElem?_eq_getElem hylsz]at hyf ⊢
   simp at hyf ⊢;exact hyf
  have hr:∀j,B bef y j->X listed j:=aHb hbo hcl (fun i hi=>h.rn i (h.sub i hi)) y ops[y] (List.getElem?_eq_getElem hyl) (hye _ (List.getElem?_eq_getElem hyl))
  have hsz':(listed.setIfInBounds y true).size=ops.length:=by simpa using hsz
  have hcnt':(listed.setIfInBounds y true).toList.count false<=fuel:=by
   rw[Array.toList_setIfInBounds,List.count_set (by simpa using hylsz)]
   have:listed.toList[y]'(by simpa using hylsz)=false:=by
    rw[Array.getD_eq_getD_getElem?,Array.getElem?_eq_getElem hylsz]at hyf
    simpa using hyf
   rw[this]
   have h1:0<listed.toList.count false:=List.count_pos_iff.2 (by rw[<-this];exact List.getElem_mem _)
   show listed.toList.count false-1+0<=fuel
   omega
  have hcl':∀i,X (listed.setIfInBounds y true) i->∀o,ops[i]? = some o->∀e∈o.after.toList,Region.binds .any e=true->X (listed.setIfInBounds y true) e.on:=by
   intro i hi o ho e he hb
   rw[aYi hylsz]at hi ⊢
   rcases hi with hi|rfl
   ·exact .inl (hcl i hi o ho e he hb)
   ·exact .inl (hye o ho e he hb)
  cases hrun:run.testBit y with
  | true =>
   refine h.run_wp hf hF nn hrun hXy hr ?_
   intro al' M' J' w' a' h' hdf' tr'
   exact ih _ ps last run fm al' M' J' L S env w' rs a' hsz' hcnt' hcl' (h'.congr (fun k=>(aYi hylsz k).symm)) hph hq (tr.trans tr' og.weak) (og.trans (.refl _ _ _) tr.size tr'.size) (hdf'.trans hdf)
  | false =>
   cases ps with
   | nil =>
    simp only[iK,Option.some.injEq]at hph
    rw[hph,hall y hyl]at hrun;simp at hrun
   | cons p ps =>
    obtain⟨e,chk,fl⟩:=p
    obtain⟨_,hcov,hfle,run',hr1,hr2⟩:=lR hph
    obtain⟨hr3,_,hr4⟩:=mG hr1
    have hye':y=e:=by
     rcases zN h.xc hr hph (hall y hyl) hrun with h1|h1
     ·exact h1
     ·rw[h.sub e h1]at hr3;simp at hr3
    subst hye'
    simp only[eJ]at hq
    split at hq
    ·exact hq.elim
    rename_i to hto
    obtain⟨to',hto',hca⟩:=hf.ca y ops[y] (List.getElem?_eq_getElem hyl)
    rw[hto]at hto'
    have hto':=Option.some.inj hto'
    subst hto'
    rw[Out.all_bind]at hq
    obtain⟨hopd,hgd⟩:=h.ready hf hXy hr hto
    refine aFd ha hF nn hf.hd hf.hs (List.getElem?_eq_getElem hyl) hto hca h.rr h.ms (fun x tx hx _=>hopd tx hx) (by rw[<-hca.guard];exact hgd) hXy hq ?_
    intro v env' S' M' J' L' w' a' hQ hrr hdf' hms' tr' og' el
    simp only at hQ
    split at hQ
    ·rename_i hchk
     split at hQ
     ·rename_i q hfl
      have h1:=h.effect hf hr3 hyl hr hto hrr hms' tr' el hchk (fun z hz=>by
       by_cases hzl:z<tops.length
       ·exact hcov z hzl hz
       ·exact .inr (.inr fun ty hty=>absurd (List.getElem?_eq_some_iff.1 hty).1 hzl))
      have h2:=h1.fm (fm':=fm ||| fl.foldl (fun m i=>m ||| 2 ^ i) 0) (fun z hz=>by rw[Nat.testBit_or,hz];rfl)
      obtain⟨al2,J2,h3,tr3⟩:=h2.floats (own:=fun _=>False) hf (fun i hi=>⟨by rw[<-hf.tl];exact kO hfl i hi,by
       rw[Nat.testBit_or,(aCu fl 0).2 (.inr hi),Bool.or_true]⟩) hr4 hfl
      exact ih _ ps (some y) run' _ al2 M' J2 L' q.2 env' w' q.1 a' hsz' hcnt' hcl' (h3.congr (fun k=>(aYi hylsz k).symm)) hr2 hQ ((tr.trans (tr'.trN _) og.weak).trans tr3 (fun b hb=>hb.elim)) (og.trans og' tr.size tr'.size) (hdf'.trans hdf)
     ·exact hQ.elim
    ·exact hQ.elim
theorem bD3 {orc:Orc}(ha:nY P O K orc){F:Fence}(hF:dJ F)(n:Nat){base nt id:Nat}(hs:fE A nt){ops:Array Oper}(hd:xW nt ops.toList=true){c:aXt}
  (hc:aMp A c ops.toList (dI P O A id true ops.toList 0 [])=true)
  {Q:bR×Env×aA->Prop} (hq:(fD K orc (.draw c.f0 c.ph (dI P O A id true ops.toList 0 [])) env S).All Q) {a:Act} {Z:Exit->Act->World->Prop} (cs:CS P O K A base nt M J L S env w a) (hk:sL P O K A base nt M J L S w Q Z):
  (Code.region id ops true).wpIn F n P Z a w:=by
 have hd':=aFe hd
 unfold aMp at hc
 simp only[Bool.and_eq_true]at hc
 obtain⟨⟨hbo,hops⟩,hrun⟩:=hc
 have hf:=aYh (P:=P) (O:=O) (id:=id) hs hd' hops
 split at hrun
 ·rename_i run hr0
  split at hrun
  ·rename_i all hph
   have hall:∀y,y<ops.toList.length->all.testBit y=true:=fun y hy=>(List.all_eq_true.1 hrun) y (List.mem_range.2 hy)
   simp only[fD]at hq
   split at hq
   ·exact hq.elim
   rename_i q hfl
   rw[Out.all_bind]at hq
   refine wpIn_region_any ha.mixed ?_
   obtain⟨wr1,tr1⟩:=cs.ms.wr.drew (fun _=>False)
   have e1:({w with drawn:=w.drawn+1}:World)=w.drew:=rfl
   rw[e1]
   obtain⟨ms1,tr1'⟩:=cs.ms.step' wr1 tr1
   have hoa:ops=ops.toList.toArray:=by simp
   have hXf:∀k,X (Array.replicate ops.size false) k↔False:=by
    intro k
    unfold X
    rw[Array.getD_eq_getD_getElem?,Array.getElem?_replicate]
    split<;>simp
   have h0:DS P O K A nt J.length run c.bef ops.toList (dI P O A id true ops.toList 0 []) (X (Array.replicate ops.size false)) 0 [] M J L S env w.drew (uG (dI P O A id true ops.toList 0 []).length) a:=by
    refine⟨?_,ms1,fun i hi=>((hXf i).1 hi).elim,fun i hi=>by simp at hi,fun i hi=>((hXf i).1 hi).elim,fun y hy=>by simp at hy,fun y i hi=>by simp at hi,fun p q hp=>by simp at hp,fun i hi=>by simp at hi,fun p hp=>by simp at hp,Nat.le_refl _,fun y hy=>by simp at hy⟩
    rw[eS]
    exact(cs.fr.rr ops.toList _).congr (fun k=>(hXf k).symm)
   obtain⟨al1,J1,h1,tr2⟩:=h0.floats (own:=fun _=>False) hf (fun i hi=>⟨by rw[<-hf.tl];exact kO hfl i hi,(sP hr0).2 (.inr hi)⟩) hr0 hfl
   have hfin:aQp P O K A nt ops.toList (dI P O A id true ops.toList 0 []) M J L S w a (fun r=>(match fJ (dI P O A id true ops.toList 0 []) 0 r.1 r.2.1 with
     | some env=>(Out.ret (bR.normal,env,r.2.2):Out (bR×Env×aA))
     | none => .fail "local").All Q) (Z .normal) := by
    intro rs' env' S' M' J' L' w' a' hQ hr hdf ms tr og
    simp only at hQ
    split at hQ
    ·rename_i env2 hwb
     obtain⟨hfr,hlb⟩:=hr.back (P:=P) (O:=O) hd' hs eS (fun k o to ho hto=>by
      obtain⟨to',h1,h2⟩:=mF (P:=P) (O:=O) (A:=A) (id:=id) (draw:=true) (i:=0) (dsts:=[]) ho
      rw[hto]at h1
      simp at h1;subst h1
      exact⟨_,h2⟩) hwb
     exact hk _ env2 S' M' J' L' w' a' .normal hQ trivial ⟨hfr,ms.back (iO hwb).1 hlb,by rw[hdf];exact cs.mks.step tr og,og.lt cs.lt tr.size,Nat.le_trans cs.ba tr.size⟩ tr og
    ·exact hQ.elim
   have:=aYj ha hF n hf hbo hfin hall ops.toList.length (Array.replicate ops.size false) c.ph none run run al1 M J1 L q.2 env w.drew q.1 a (by simp) (by simp) (fun i hi=>((hXf i).1 hi).elim) h1 hph hq ((tr1'.trN _).trans tr2 (fun b hb=>hb.elim)) (.refl _ _ _) rfl
   rw[hoa]
   simpa using this
  ·simp at hrun
 ·simp at hrun
theorem WR.putObj (h:WR P O M J S w){b:Nat}(hb:¬J.has b)(hc:∀o,w.cell? ⟨b,o,none⟩=none)(ob:Obj):WR P O M J S (w.putObj b ob):=by
 have hot:∀k,k≠b->(w.putObj b ob).heap[k]? = w.heap[k]? := fun k hk=>World.putObj_heap_other hk
 refine h.step h.len (.refl _) (.refl _) (fun k o v hm=>?_) (fun i l s hl hs=>.inr ⟨hl,hs,hot _ (fun e=>hb ⟨i,l,hl,e⟩),fun _=>rfl⟩) h.inj (fun i l hl=>by simpa using h.lt i l hl)
 by_cases hk:k=b
 ·subst hk
  have:=h.imm k o v hm
  rw[hc o]at this;simp at this
 ·rw[fH (hot k hk)]
  exact h.imm k o v hm
theorem pD {b:Nat}{ob:Obj}(h:w.heap[b]? = some ob)(hn:∀c e f,ob≠.cells c e f)(hn2:∀c e,ob≠.pending c e)(o:Nat):w.cell? ⟨b,o,none⟩=none:=by
 unfold World.cell?
 simp only[h]
 cases ob<;>simp_all
theorem zO:∀ {ps:List Nat} {ts:List Nat},qK A ps=some ts->ps.map (eK · A.slots 0)=ts.map some
 | [],ts,h=>by simp[qK]at h;subst h;rfl
 | p::ps,ts,h=>by
  simp only[qK]at h
  split at h
  ·rename_i j l h1 h2
   simp at h;subst h
   simp[h1,zO h2]
  ·simp at h
theorem PR.inv {p:Option bR}{c:Option Code}(h:PR p c):(p=Option.none∧c=Option.none)∨(p=some .ret∧c=some .ret)∨∃id,p=some (.exit id)∧c=some (.exit id):=by
 cases h with
 | none=>exact .inl ⟨rfl,rfl⟩
 | ret=>exact .inr (.inl ⟨rfl,rfl⟩)
 | exit id=>exact .inr (.inr ⟨id,rfl,rfl⟩)
abbrev lI (w:World) (fn:FuncId) (a:Act) (ps:Array Tmp) (assign body:Code):World :=
 (w.alloc (.deferred (some []))).alloc (.loop {state:=.ready,pending:=none,fn,tmps:=a.tmps,params:=ps,assign,body,defers:=w.heap.size})
theorem aJw {base nt:Nat}(hs:fE A nt){a:Act}(cs:CS P O K A base nt M J L S env w a)(fn:FuncId)(ps:Array Tmp)(assign body:Code){tps:List Nat}(hps:qK A ps.toList=some tps)(hnr:dT (bI P O A nt assign)=true∧dT (bI P O A nt body)=true):
  let l:Loc:={cb:=w.heap.size+1,d:=0,ver:=0,cap:=0,es:=0,size:=0,loose:=false}
  let w1:=lI w fn a ps assign body
  WR P O M (J++[some l]) (S++[.lp .ready none (env.map noLb) tps (bI P O A nt assign) (bI P O A nt body)]) w1 ∧
  Tr (fun _=>False) M J S w M (J++[some l]) (S++[.lp .ready none (env.map noLb) tps (bI P O A nt assign) (bI P O A nt body)]) w1∧aD.at (J++[some l]) S.length l∧w1.heap[w.heap.size]? = some (.deferred (some [])):=by
 intro l w1
 have hM:M.ext w.heap.size (fun _=>none)=M:=sC cs.ms.wr.none_at
 have h0:=cs.ms.wr.alloc (fun _=>False) (.deferred (some [])) (fun _=>none) (fun o v hm=>by simp at hm)
 rw[hM]at h0
 obtain⟨wr0,tr0⟩:=h0
 have hM1:M.ext (w.alloc (.deferred (some []))).heap.size (fun _=>none)=M:=sC wr0.none_at
 have hsz0:(w.alloc (.deferred (some []))).heap.size=w.heap.size+1:=by simp
 have hb:=wr0.push (fun _=>False) (.loop {state:=.ready,pending:=none,fn,tmps:=a.tmps,params:=ps,assign,body,defers:=w.heap.size}) (fun _=>none) l
  (.lp .ready none (env.map noLb) tps (bI P O A nt assign) (bI P O A nt body)) (by rw[hsz0]) (fun o v hm=>by simp at hm) (by
   rw[hM1]
   refine .lp .ready none _ _ _ _ _ rfl (by show w1.heap[w.heap.size+1]? = _;rw[<-hsz0];exact dD _ _) rfl .none ⟨A,?_,by simpa using cs.fr.len,fun j t x hj hx=>?_,zO hps,?_,?_,hnr.1,hnr.2⟩
   ·show fE A a.tmps.size
    rw[cs.fr.sz];exact hs
   ·simp only[List.getElem?_map,Option.map_eq_some_iff]at hx
    obtain⟨y,hy,rfl⟩:=hx
    have hv:=(cs.fr.val j t hj)
    have e:env.getD j .hole=y:=by simp[List.getD,hy]
    unfold eR at hv
    rw[e]at hv
    cases y with
    | lb cs'=>exact .hole _ _
    | lp k o =>
     obtain⟨c,hc⟩:=cs.fr.nlp j _ hy rfl
     simp at hc
    | _=>exact(hv.frame rfl).mono (.refl _) (.push _ _)
   ·show _=bI P O A a.tmps.size assign
    rw[cs.fr.sz]
   ·show _=bI P O A a.tmps.size body
    rw[cs.fr.sz])
 rw[hM1]at hb
 refine⟨hb.1,tr0.trans hb.2 (fun b h=>h.elim),?_,?_⟩
 ·unfold aD.at
  rw[<-cs.ms.wr.len];simp
 ·show w1.heap[w.heap.size]? = _
  rw[cR _ _ (by rw[hsz0];omega)]
  exact dD w _
theorem aYk {orc:Orc}(ha:nY P O K orc){F:Fence}(hF:dJ F)(hro:F.round=none)(n:Nat){base nt:Nat}(hs:fE A nt){g:Operand}{ps:Array Tmp}{assign body:Code}{tg:aE}(hg:opd A [] g=some tg){tps:List Nat}
  (hps:qK A ps.toList=some tps) (hnr:dT (bI P O A nt assign)=true∧dT (bI P O A nt body)=true)
  {Q:bR×Env×aA->Prop} (hq:(fD K orc (.rangeFunc tg tps (bI P O A nt assign) (bI P O A nt body)) env S).All Q) {a:Act} {X:Exit->Act->World->Prop} (cs:CS P O K A base nt M J L S env w a) (hk:sL P O K A base nt M J L S w Q X):
  (Code.rangeFunc g ps assign body).wpIn F n P X a w:=by
 simp only[fD]at hq
 have hgv:=cs.fr.opd cs.ms hg
 split at hq
 ·rename_i k fst cap hf
  rw[hf]at hgv
  rw[Out.all_bind]at hq
  obtain⟨tf,htf⟩:=ha.known _ _ _ _ hq
  obtain⟨fk,hfk,hfb,hfn⟩:=ha.body k ⟨tf,htf⟩
  generalize hge:a.eval g=gv at hgv
  cases hgv with
  | fn L f fst cap fst' cap' h1 h2 hf1 hcp =>
   refine wpIn_rangeFunc (fun fn _=>?_)
   obtain⟨wr1,tr1,hat,hdef⟩:=aJw hs cs fn ps assign body hps hnr
   have hcall:=ha.ok.call k F hF (n-1) _ _ _ hq M _ _ (fst'.toList++[.func (.yield (w.heap.size+1)) #[] #[]]++cap'.toList) (by
    have e:fst++TV.yld S.length::cap=fst++[TV.yld S.length]++cap:=by simp
    rw[e]
    refine((VRs.ofAgg h1 hf1).mono (.refl _) tr1.jle |>.append (.cons (.yld _ _ _ hat rfl) .nil)).append ((VRs.ofAgg h2 hcp).mono (.refl _) tr1.jle)) wr1 cs.ms.gl
   refine⟨w.heap.size+1,[{target:=.collected w.heap.size,args:=#[]}],lI w fn a ps assign body,{target:=.fn (.func k) cap',args:=fst'++#[.func (.yield (w.heap.size+1)) #[] #[]]},lI w fn a ps assign body,k,fst'++#[.func (.yield (w.heap.size+1)) #[] #[]]++cap',lI w fn a ps assign body,?_,?_,fun f' _=>hF.fn f',?_,fun hd=>by rw[hF.depth]at hd;simp at hd,?_⟩
   ·rw[hro];exact run_enterLoop_outer fn a.tmps ps assign body
   ·have:Go.resolve a.eval (rangeCall g (w.heap.size+1)) 0=pure {target:=.fn (.func k) cap',args:=fst'++#[.func (.yield (w.heap.size+1)) #[] #[]]}:=by
     simp only[Go.resolve,hge,Deferred.ofValue]
     have:Array.map a.eval #[Operand.const (Value.func (Fn.yield (w.heap.size+1)) #[] #[])]=#[Value.func (Fn.yield (w.heap.size+1)) #[] #[]]:=by simp[Act.eval]
     rw[this]
    rw[this];rfl
   ·have:=nE hfk hfb hfn (fst'++#[.func (.yield (w.heap.size+1)) #[] #[]]++cap') (lI w fn a ps assign body)
    exact this
   ·have e:(fst'.toList++[Value.func (Fn.yield (w.heap.size+1)) #[] #[]]++cap'.toList).toArray=fst'++#[Value.func (Fn.yield (w.heap.size+1)) #[] #[]]++cap':=by apply Array.ext';simp
    rw[e]at hcall
    refine hcall.mono (fun en w' he=>?_)
    cases en with
    | panicked c=>exact he.elim
    | outgrown=>exact he.elim
    | returned v' =>
     obtain⟨v,S',M',J',hQ,_,wr',tr'⟩:=he
     simp only at hQ
     have hat':=tr'.jle.fixed hat rfl
     split at hQ
     ·exact hQ.elim
     ·rename_i st pend env' ps' as' bd' hnb hS'
      obtain⟨s,hs'⟩:∃s,s=aP.lp st pend env' ps' as' bd':=⟨_,rfl⟩
      have hbr:=wr'.blk _ _ _ hat' hS'
      cases hbr with
      | lp st pend env' ps' as' bd' r hl hb hst hp hr =>
       have hnb':r.state≠.busy:=by rw[hst];intro e;exact hnb e
       have hsz1:(lI w fn a ps assign body).heap.size=w.heap.size+2:=by simp
       obtain⟨wr2,tr2⟩:=wr'.write (fun _=>False) hat' (w':=w'.putObj (w.heap.size+1) (.loop {r with state:=.exhausted})) (s':=.lp .exhausted pend env' ps' as' bd')
        (.lp .exhausted pend env' ps' as' bd' {r with state:=.exhausted} rfl (World.putObj_heap_same (fV hb)) rfl hp ⟨hr.ex⟩) (by simp) (fun b hb'=>World.putObj_heap_other hb') ⟨rfl,rfl,rfl⟩ (fun o v hm=>by
         have:=wr'.imm _ _ _ hm
         rw[pD hb (by simp) (by simp)]at this;simp at this)
       have trA:Tr (fun _=>False) M J S w M' J' _ _:=(tr1.trans tr' (fun b h=>h.elim)).trans tr2 (fun b h=>h.elim)
       obtain⟨ms2,tr3⟩:=cs.ms.step' wr2 trA
       have hfr2:FR A nt M' J' L env {a with defers:=[{target:=.collected w.heap.size,args:=#[]}]++a.defers} :=
        ⟨cs.fr.sz,cs.fr.len,cs.fr.nlp,fun j t hj=>(cs.fr.val j t hj).mono trA.mle trA.jle⟩
       have hnhas:¬aD.has (J++[some {cb:=w.heap.size+1,d:=0,ver:=0,cap:=0,es:=0,size:=0,loose:=false}]) w.heap.size:=by
        rintro⟨i,l,hl,e⟩
        rcases lQ hl with hl|⟨_,hl⟩
        ·have:=cs.ms.wr.lt i l hl;omega
        ·simp at hl;subst hl;simp at e
       have hdef2:(w'.putObj (w.heap.size+1) (.loop {r with state:=.exhausted})).heap[w.heap.size]? = some (.deferred (some [])):=by
        rw[World.putObj_heap_other (by omega),tr'.frame w.heap.size (by rw[hsz1];omega) hnhas (fun h=>h)]
        exact hdef
       have hmk:aJp base J' L (w'.putObj (w.heap.size+1) (.loop {r with state:=.exhausted})) ([{target:=.collected w.heap.size,args:=#[]}]++a.defers):=by
        obtain⟨bs,e1,e2,e3⟩:=cs.mks.step (L':=L) tr3 (.refl _ _ _)
        obtain⟨bs0,f1,f2,f3⟩:=cs.mks
        refine⟨w.heap.size::bs0,by rw[f1];rfl,List.nodup_cons.2 ⟨fun hm=>?_,f2⟩,fun b hb'=>?_⟩
        ·have:=fV (f3 _ hm).2.1;omega
        ·rcases List.mem_cons.1 hb' with rfl|hb'
         ·exact⟨cs.ba,hdef2,tr'.has (by rw[hsz1];omega) hnhas,fun ho=>by have:=cs.lt _ ho;omega⟩
         ·have hinj:bs=bs0:=by
           have:=e1.symm.trans f1
           exact List.map_inj_right (fun x y hxy=>by simpa using hxy) |>.1 this
          rw[<-hinj]at hb'
          exact e3 b hb'
       have hcs:CS P O K A base nt M' J' L (S'.set S.length (.lp .exhausted pend env' ps' as' bd')) env (w'.putObj (w.heap.size+1) (.loop {r with state:=.exhausted})) {a with defers:=[{target:=.collected w.heap.size,args:=#[]}]++a.defers} :=
        ⟨hfr2,ms2,hmk,fun b hb'=>Nat.lt_of_lt_of_le (cs.lt b hb') trA.size,Nat.le_trans cs.ba trA.size⟩
       refine⟨r.pending,_,run_endLoop hb hnb',?_⟩
       have fin:∀jump,jump=r.pending->(match jump with
         | none=>X .normal {a with defers:=[{target:=.collected w.heap.size,args:=#[]}]++a.defers} (w'.putObj (w.heap.size+1) (.loop {r with state:=.exhausted}))
         | some c=>c.wpIn F n P X {a with defers:=[{target:=.collected w.heap.size,args:=#[]}]++a.defers} (w'.putObj (w.heap.size+1) (.loop {r with state:=.exhausted}))):=by
        intro jump hjump
        rcases hp.inv with⟨h1,h2⟩|⟨h1,h2⟩|⟨id,h1,h2⟩
        ·obtain rfl:=hjump.trans h2
         exact hk (pend.getD .normal) _ _ _ _ _ _ _ _ hQ (by rw[h1];trivial) hcs tr3 (.refl _ _ _)
        ·obtain rfl:=hjump.trans h2
         exact wpIn_ret (hk (pend.getD .normal) _ _ _ _ _ _ _ _ hQ (by rw[h1];trivial) hcs tr3 (.refl _ _ _))
        ·obtain rfl:=hjump.trans h2
         exact wpIn_exit (hk (pend.getD .normal) _ _ _ _ _ _ _ _ hQ (by rw[h1];exact rfl) hcs tr3 (.refl _ _ _))
       exact fin _ rfl
     ·exact hQ.elim
 ·exact hq.elim
theorem aA1 {orc:Orc}(ha:nY P O K orc)(hl:yC P O K orc){F:Fence}(hF:dJ F)(n:Nat){base nt:Nat}(hs:fE A nt):∀(c:Code) {M:Mem} {J:aD} {L:List (Option Nat)} {S:aA} {env:Env} {w:World} {a:Act} {Q:bR×Env×aA->Prop} {X:Exit->Act->World->Prop},
  (fD K orc (bI P O A nt c) env S).All Q->(F.round=none∨dT (bI P O A nt c)=true)->CS P O K A base nt M J L S env w a->sL P O K A base nt M J L S w Q X->c.wpIn F n P X a w:=by
 intro c
 induction c with
 | skip=>intro M J L S env w a Q X hq _ cs hk;exact wpIn_skip (hk _ _ _ _ _ _ _ _ _ hq trivial cs (.refl _ _ _ _ _) (.refl _ _ _))
 | label l=>intro M J L S env w a Q X hq _ cs hk;exact wpIn_label (hk _ _ _ _ _ _ _ _ _ hq trivial cs (.refl _ _ _ _ _) (.refl _ _ _))
 | exit id=>intro M J L S env w a Q X hq _ cs hk;exact wpIn_exit (hk _ _ _ _ _ _ _ _ _ hq rfl cs (.refl _ _ _ _ _) (.refl _ _ _))
 | ret=>intro M J L S env w a Q X hq _ cs hk;exact wpIn_ret (hk _ _ _ _ _ _ _ _ _ hq trivial cs (.refl _ _ _ _ _) (.refl _ _ _))
 | region id ops draw =>
  intro M J L S env w a Q X hq _ cs hk
  simp only[bI,aB0]at hq
  split at hq
  ·exact hq.elim
  rename_i hd
  have hd:xW nt ops.toList=true:=by simpa using hd
  cases draw with
  | false =>
   simp only[Bool.not_false,if_true]at hq
   split at hq
   ·rename_i hsq
    exact aR7 ha hF n hs hd hsq hq cs hk
   ·exact hq.elim
  | true =>
   simp only[Bool.not_true,Bool.false_eq_true,if_false]at hq
   split at hq
   ·rename_i ce _
    split at hq
    ·rename_i hok
     exact bD3 ha hF n hs hd hok hq cs hk
    ·exact hq.elim
   ·exact hq.elim
 | seq x y ihx ihy =>
  intro M J L S env w a Q X hq hr cs hk
  simp only[bI,fD]at hq
  rw[Out.all_bind]at hq
  refine wpIn_seq (ihx hq (hr.imp (fun h=>h) (fun h=>by simp only[bI,dT,Bool.and_eq_true]at h;exact h.1)) cs (fun j env' S' M' J' L' w' a' e hQ hj cs' tr og=>?_))
  cases j with
  | normal =>
   cases e<;>first|exact hj.elim|skip
   exact ihy hQ (hr.imp (fun h=>h) (fun h=>by simp only[bI,dT,Bool.and_eq_true]at h;exact h.2)) cs' (hk.next tr og)
  | exit id =>
   cases e<;>first|exact hj.elim|skip
   exact hk _ _ _ _ _ _ _ _ _ hQ hj cs' tr og
  | ret =>
   cases e<;>first|exact hj.elim|skip
   exact hk _ _ _ _ _ _ _ _ _ hQ hj cs' tr og
 | cond x y z ihy ihz =>
  intro M J L S env w a Q X hq hr cs hk
  simp only[bI]at hq hr
  split at hq
  ·rename_i tx hx
   rw[hx]at hr
   simp only[fD]at hq
   have hv:=cs.fr.opd cs.ms hx
   split at hq
   ·rename_i hb
    exact wpIn_cond_true (xX hb hv) (ihy hq (hr.imp (fun h=>h) (fun h=>by simp only[dT,Bool.and_eq_true]at h;exact h.1)) cs hk)
   ·rename_i hb
    exact wpIn_cond_false (xX hb hv) (ihz hq (hr.imp (fun h=>h) (fun h=>by simp only[dT,Bool.and_eq_true]at h;exact h.2)) cs hk)
   ·exact hq.elim
  ·exact hq.elim
 | block id b ih =>
  intro M J L S env w a Q X hq hr cs hk
  simp only[bI,fD]at hq
  rw[Out.all_bind]at hq
  refine wpIn_block (ih hq (hr.imp (fun h=>h) (fun h=>by simpa only[bI,dT] using h)) cs (fun j env' S' M' J' L' w' a' e hQ hj cs' tr og=>?_))
  cases j with
  | normal =>
   cases e<;>first|exact hj.elim|skip
   exact hk _ _ _ _ _ _ _ _ _ hQ hj cs' tr og
  | exit id' =>
   cases e<;>first|exact hj.elim|skip
   have hj:id'=_:=hj
   subst hj
   simp only at hQ
   simp only[Exit.inBlock]
   split at hQ
   ·rename_i e
    rw[if_pos e]
    exact hk _ _ _ _ _ _ _ _ _ hQ trivial cs' tr og
   ·rename_i e
    rw[if_neg e]
    exact hk _ _ _ _ _ _ _ _ _ hQ rfl cs' tr og
  | ret =>
   cases e<;>first|exact hj.elim|skip
   exact hk _ _ _ _ _ _ _ _ _ hQ hj cs' tr og
 | loop b _ =>
  intro M J L S env w a Q X hq hr cs hk
  simp only[bI,fD]at hq
  exact hl A nt hs F hF n b env S Q hq (hr.imp (fun h=>h) (fun h=>by simpa only[bI,dT] using h)) base M J L w a X cs hk
 | rangeFunc g ps assign body _ _ =>
  intro M J L S env w a Q X hq hr cs hk
  simp only[bI]at hq hr
  split at hq
  ·rename_i tg tps hg hps
   split at hq
   ·rename_i hnr
    rw[hg,hps]at hr
    simp only[if_pos hnr]at hr
    simp only[Bool.and_eq_true]at hnr
    rcases hr with hr|hr
    ·exact aYk ha hF hr n hs hg hps hnr hq cs hk
    ·simp[dT]at hr
   ·exact hq.elim
  ·exact hq.elim
 | _=>intro M J L S env w a Q X hq;exact hq.elim
theorem FR.loc {nt:Nat}{a:Act}(h:FR A nt M J L env a){t j:Nat}(hj:eK t A.slots 0=some j):VR M J L (eR env j) (a.tmps.getD t Go.undef):=h.val j t (lH hj)
def yF (tmps:Array Value):ResultVar->Sem Value
 | .tmp t=>pure (tmps.getD t Go.undef)
 | .cell x t=>do loadVar t (<-asAddr (tmps.getD x Go.undef))
theorem aM3 (fn:Func)(tmps:Array Value):results fn tmps=(do let vs <-fn.results.mapM (yF tmps);pure (if h:vs.size=1 then vs[0]else .tuple vs)):=rfl
theorem bD4 {nt:Nat}{a:Act}(h:FR A nt M J L env a)(ms:MS P O K M J L S env w){r:ResultVar}{tr:nT}(hc:aAy P A r=some tr){v:TV}(hv:jH env S tr=some v):
  ∃v',(yF a.tmps r).run P w=.ok v' w∧VR M J [] v v':=by
 cases r with
 | tmp t =>
  simp only[aAy,Option.map_eq_some_iff]at hc
  obtain⟨j,hj,rfl⟩:=hc
  refine⟨a.tmps.getD t Go.undef,by simp[yF],?_⟩
  have hvr:=h.loc hj
  simp only[jH]at hv
  unfold eR at hvr
  split at hv
  ·simp at hv
  ·simp at hv
  ·rename_i x hn1 hn2
   have hv:=Option.some.inj hv
   subst hv
   split at hvr
   ·rename_i cs hcs;exact absurd hcs (hn1 cs)
   ·refine hvr.frame ?_
    cases hx:env.getD j .hole<;>first|rfl|exact absurd hx (hn1 _)|exact absurd hx (hn2 _ _)
 | cell x t =>
  simp only[aAy]at hc
  split at hc
  ·rename_i j n ag hj hn hag
   simp at hc;subst hc
   simp only[jH]at hv
   split at hv
   ·rename_i cs hg
    have hvr:VR M J L (bH ⟨fun _=>none,fun _=>none,fun _=>none⟩ env [] (.loc j)) (a.tmps.getD x Go.undef):=h.loc hj
    obtain⟨b,off,vs,hva,hvs,hl,hcell⟩:=wH ms hg hvr
    cases ag with
    | true =>
     simp[fU]at hv;subst hv
     simp only[if_true]at hl
     refine⟨.agg vs.toArray,?_,wG hvs⟩
     have:=nU (P:=P) b off vs hcell
     rw[hl]at this
     simp[yF,hva,asAddr,loadVar,isAgg?_run hag,run_size? hn,this]
    | false =>
     simp only[fU,Bool.false_eq_true,if_false]at hv hl
     split at hv
     ·rename_i c
      simp at hv;subst hv
      obtain⟨u,us,rfl,h1,h2⟩:=hvs.cons_inv
      refine⟨u,?_,h1⟩
      have:=hcell 0 u rfl
      simp at this
      simp[yF,hva,asAddr,loadVar,isAgg?_run hag,run_load,this]
     ·simp at hv
   ·simp at hv
  ·simp at hc
theorem wY {nt:Nat}{a:Act}(h:FR A nt M J L env a)(ms:MS P O K M J L S env w):∀ {rs:List ResultVar} {trs:List nT} {vs:List TV},pR P A rs=some trs->fK env S trs=some vs ->
  ∃us,(rs.mapM (yF a.tmps)).run P w=.ok us w∧VRs M J [] vs us
 | [],trs,vs,hc,hv=>by
  simp[pR]at hc;subst hc
  simp[fK]at hv;subst hv
  exact⟨[],by simp,.nil⟩
 | r::rs,trs,vs,hc,hv=>by
  simp only[pR]at hc
  split at hc
  ·rename_i t l h1 h2
   simp at hc;subst hc
   simp only[fK]at hv
   split at hv
   ·rename_i v l' h3 h4
    simp at hv;subst hv
    obtain⟨u,e1,e2⟩:=bD4 h ms h1 h3
    obtain⟨us,e3,e4⟩:=wY h ms h2 h4
    refine⟨u::us,?_,.cons e2 e4⟩
    rw[List.mapM_cons]
    simp only[Sem.run_bind,e1,Result.andThen,e3,Sem.run_pure]
   ·simp at hv
  ·simp at hc
theorem aJx {nt:Nat}{a:Act}(h:FR A nt M J L env a)(ms:MS P O K M J L S env w){fn:Func}{trs:List nT}(hc:pR P A fn.results.toList=some trs){v:TV}(hv:mM trs env S=some v):
  ∃v',(results fn a.tmps).run P w=.ok v' w∧VR M J [] v v':=by
 unfold mM at hv
 have key:∀ {vs:List TV},fK env S trs=some vs->∃us,(results fn a.tmps).run P w=.ok (if h:us.toArray.size=1 then us.toArray[0]else .tuple us.toArray) w∧VRs M J [] vs us:=by
  intro vs hvs
  obtain⟨us,e1,e2⟩:=wY h ms hc hvs
  refine⟨us,?_,e2⟩
  rw[aM3,Array.mapM_eq_mapM_toList]
  simp only[Sem.run_bind,map_eq_pure_bind,e1,Result.andThen,Sem.run_pure]
 split at hv
 ·rename_i v0 hvs
  simp at hv;subst hv
  obtain⟨us,e1,e2⟩:=key hvs
  obtain⟨u,us',rfl,h1,h2⟩:=e2.cons_inv
  have:=h2.nil_inv
  subst this
  exact⟨u,by rw[e1];simp,h1⟩
 ·rename_i vs hne hvs
  simp at hv;subst hv
  obtain⟨us,e1,e2⟩:=key hvs
  refine⟨.tuple us.toArray,?_,.tup _ _ _ (by simpa using e2.1) (fun i x v hx hv=>e2.2 i x v hx (by simpa using hv))⟩
  rw[e1]
  have:us.toArray.size≠1:=by
   intro e
   have e3:vs.length=1:=by rw[<-e2.1];simpa using e
   match vs,e3 with
   | [x],_=>exact hne x rfl
  rw[dif_neg this]
 ·simp at hv
end
end Go.TM
namespace Go.TM
open Go
section
variable {P:Program}{O:dM}{K:TM.bV}{A:Ann}
variable {M:Mem}{J:aD}{L:List (Option Nat)}{S S':aA}{env env':Env}{w:World}
variable (P O K) in
structure KOK:Prop where
 funcs : ∀ k tf, K.funcs k = some tf → ∃ (A : Ann) (fn : Func), P.funcs[k]? = some fn ∧ fn.name ≠ "runtime.NumGoroutine" ∧ rZ P O A fn = some tf
 prim:∀f p,K.prim f=some p->aCl P O K f p
 mixed:P.follows .mixedOrders=true
theorem MS.shut (h:MS P O K M J L S env w){b:Nat}{ds:List Deferred}(hb:w.heap[b]? = some (.deferred (some ds)))(hn:¬J.has b):MS P O K M J L S env (w.putObj b (.deferred none)):=by
 have hot:∀k,k≠b->(w.putObj b (.deferred none)).heap[k]? = w.heap[k]? := fun k hk=>World.putObj_heap_other hk
 refine⟨h.wr.putObj hn (pD hb (by simp) (by simp)) _,⟨h.lb.len,fun j cs hj=>?_,h.lb.inj⟩,h.gl⟩
 obtain⟨cb,h1,h2⟩:=h.lb.box j cs hj
 refine⟨cb,h1,h2.step (hot cb ?_) (.refl _) (fun _=>rfl) (.refl _) h2.1⟩
 rintro rfl
 obtain⟨_,_,cs',e,fz,h3,_⟩:=h2
 rw[hb]at h3;simp at h3
structure bMt (base:Nat) (w w':World):Prop where
 os:w'.os=w.os
 tape:w'.tape=w.tape
 output:w'.output=w.output
 size:w'.heap.size=w.heap.size
 old:∀b,b<base->w'.heap[b]? = w.heap[b]?
theorem zP {F:Fence}(n:Nat){fn:Func}{tmps:Array Value}{R:Ending->World->Prop}{base:Nat}:∀(bs:List Nat) {w:World},bs.Nodup->(∀b∈bs,base<=b∧w.heap[b]? = some (.deferred (some []))∧¬J.has b)->MS P O K M J L S env w ->
  (∀w2,MS P O K M J L S env w2->bMt base w w2->∃v,(results fn tmps).run P w2=.ok v w2∧R (.returned v) w2)->LeavesInM F n P fn tmps R (bs.map fun b=>({target:=.collected b,args:=#[]}:Deferred)) .returning w
 | [],w,_,_,ms,h=>by
  show LeavesIn F n P fn tmps R [] .returning w
  exact h w ms ⟨rfl,rfl,rfl,rfl,fun _ _=>rfl⟩
 | b::bs,w,hnd,hb,ms,h=>by
  obtain⟨h1,h2,h3⟩:=hb b (by simp)
  have hlt:=fV h2
  refine⟨by simp,.inl ⟨b,w.putObj b (.deferred none),rfl,run_takeDeferred h2,?_⟩⟩
  refine zP (base:=base) n bs (List.nodup_cons.1 hnd).2 (fun c hc=>?_) (ms.shut h2 h3) (fun w2 ms2 sh=>h w2 ms2 ⟨sh.os,sh.tape,sh.output,by rw[sh.size];simp,fun c hc=>?_⟩)
  ·obtain⟨e1,e2,e3⟩:=hb c (by simp[hc])
   refine⟨e1,?_,e3⟩
   rw[World.putObj_heap_other (by rintro rfl;exact(List.nodup_cons.1 hnd).1 hc)]
   exact e2
  ·rw[sh.old c hc,World.putObj_heap_other (by omega)]
theorem aDz {F:Fence}{n:Nat}{f:FuncId}{args:Array Value}{R:Ending->World->Prop}(h:CallsIn F.plain n P f args w R):CallsIn F n P f args w R:=h
theorem dJ.plain {F:Fence}(h:dJ F):dJ F.plain:=⟨h.fn,h.depth,h.alive⟩
theorem wZ:∀ {l:List Nat},rY l=true->l.Nodup
 | [],_=>.nil
 | a::r,h=>by
  simp only[rY,Bool.and_eq_true,Bool.not_eq_true']at h
  exact List.nodup_cons.2 ⟨by simpa using h.1,wZ h.2⟩
theorem aM4 {nt:Nat}(h1:rY A.slots=true)(h2:A.slots.all (fun t=>decide (t<nt))=true):fE A nt :=
 ⟨wZ h1,fun t ht=>by simpa using(List.all_eq_true.1 h2) t ht⟩
theorem LbR.none {env:Env}(hl:L.length=env.length)(h:∀(j:Nat) (cs:List TV),env[j]? ≠ some (.lb cs)):LbR M J L env w :=
 ⟨hl,fun j cs hj=>absurd hj (h j cs),fun j _ cs _ _ hj=>absurd hj (h j cs)⟩
theorem aA2 (n:Nat)(b:Nat):¬dC (List.replicate n none) b:=by
 rintro⟨j,hj⟩
 rw[List.getElem?_replicate]at hj
 split at hj<;>simp at hj
theorem aJy {orc:Orc}(hk:KOK P O K)(ha:nY P O K orc)(hl:yC P O K orc)(f:Nat):aG4 P O K f (eY K orc f):=by
 intro F hF n args S Q hq M J w vals hv hw hg
 unfold eY at hq
 split at hq
 ·exact hq.elim
 rename_i tf htf
 split at hq
 ·exact hq.elim
 rename_i hargs
 have hargs:args.length=tf.nparams:=by omega
 rw[Out.all_bind]at hq
 obtain⟨A,fn,hfn,_,hcf⟩:=hk.funcs f tf htf
 unfold rZ at hcf
 split at hcf
 ·rename_i c trs hc hrs
  split at hcf
  ·rename_i hcond
   obtain⟨c1,c2,c3,c4⟩:=hcond
   simp at hcf;subst hcf
   simp only at hargs hq
   have hs:fE A fn.ntmps:=aM4 c3 c4
   have hvl:vals.length=args.length:=hv.1
   have hslen:fn.params.size+fn.nfree<=A.slots.length:=by
    have:=congrArg List.length c1
    simp at this;omega
   refine aDz (callsIn_of_wp_marks hfn hc (hF.plain.fn f) ?_ rfl)
   have hfr:FR A fn.ntmps M J (List.replicate A.slots.length none) (args++List.replicate (A.slots.length-(fn.params.size+fn.nfree)) undef) {tmps:=vals.toArray++Array.replicate (fn.ntmps-vals.toArray.size) Go.undef,defers:=[]}:=by
    refine⟨by simp;omega,by simp;omega,fun j x hx hl=>?_,fun j t hj=>?_⟩
    ·rw[List.getElem?_append]at hx
     split at hx
     ·rename_i hlt
      have:=(hv.2 j x _ hx (List.getElem?_eq_getElem (by omega:j<vals.length))).isLp_nil
      rw[this]at hl;simp at hl
     ·rw[List.getElem?_replicate]at hx
      split at hx
      ·simp at hx;subst hx;simp[eE,undef]at hl
      ·simp at hx
    ·have hjl:j<A.slots.length:=(List.getElem?_eq_some_iff.1 hj).1
     by_cases hjp:j<args.length
     ·have ht:t=j:=by
       have:(A.slots.take (fn.params.size+fn.nfree))[j]? = some t:=by rw[List.getElem?_take,if_pos (by omega)];exact hj
       rw[c1,List.getElem?_range (by omega)]at this
       simpa using this.symm
      subst ht
      have e1:(args++List.replicate (A.slots.length-(fn.params.size+fn.nfree)) undef).getD t .hole=args[t]:=by
       simp[List.getD,List.getElem?_append_left hjp,List.getElem?_eq_getElem hjp]
      have e2:(vals.toArray++Array.replicate (fn.ntmps-vals.toArray.size) Go.undef).getD t Go.undef=vals[t]'(by omega):=by
       rw[Array.getD_eq_getD_getElem?,Array.getElem?_append_left (by simp;omega)]
       simp[List.getElem?_eq_getElem (by omega:t<vals.length)]
      have hvr:=hv.2 t _ _ (List.getElem?_eq_getElem hjp) (List.getElem?_eq_getElem (by omega:t<vals.length))
      rw[e2]
      have hlp:=hvr.isLp_nil
      have:eR (args++List.replicate (A.slots.length-(fn.params.size+fn.nfree)) undef) t=args[t]:=by
       unfold eR
       rw[e1]
       cases hx:args[t]<;>first|rfl|(rw[hx]at hlp;simp[eE]at hlp)
      rw[this]
      exact hvr.ofNil
     ·have hge:fn.params.size+fn.nfree<=t:=by
       rcases Nat.lt_or_ge t (fn.params.size+fn.nfree)with hlt|h'
       ·exfalso
        have:A.slots[t]? = some t:=by
         have e:(A.slots.take (fn.params.size+fn.nfree))[t]? = some t:=by rw[c1,List.getElem?_range hlt]
         rwa [List.getElem?_take,if_pos hlt]at e
        have:t=j:=(List.getElem?_inj (by exact(List.getElem?_eq_some_iff.1 this).1) hs.1).1 (by rw[this,hj])
        omega
       ·exact h'
      have e1:eR (args++List.replicate (A.slots.length-(fn.params.size+fn.nfree)) undef) j=undef:=by
       unfold eR
       have:(args++List.replicate (A.slots.length-(fn.params.size+fn.nfree)) undef).getD j .hole=undef:=by
        simp only[List.getD]
        rw[List.getElem?_append_right (by omega),List.getElem?_replicate,if_pos (by omega)]
        rfl
       rw[this];rfl
      have e2:(vals.toArray++Array.replicate (fn.ntmps-vals.toArray.size) Go.undef).getD t Go.undef=Go.undef:=by
       rw[Array.getD_eq_getD_getElem?,Array.getElem?_append_right (by simp;omega),Array.getElem?_replicate]
       split<;>rfl
      rw[e1,e2]
      exact tO
   have hlb:∀(j:Nat) (cs:List TV),(args++List.replicate (A.slots.length-(fn.params.size+fn.nfree)) undef)[j]? ≠ some (.lb cs):=by
    intro j cs hj
    rw[List.getElem?_append]at hj
    split at hj
    ·rename_i hlt
     have:=(hv.2 j _ _ hj (List.getElem?_eq_getElem (by omega:j<vals.length))).isLp_nil
     simp[eE]at this
    ·rw[List.getElem?_replicate]at hj
     split at hj<;>simp[undef]at hj
   have hms:MS P O K M J (List.replicate A.slots.length none) S (args++List.replicate (A.slots.length-(fn.params.size+fn.nfree)) undef) w:=⟨hw,.none (by simp;omega) hlb,hg⟩
   refine aA1 (base:=w.heap.size) ha hl hF.plain n hs c hq (.inl rfl) ⟨hfr,hms,⟨[],rfl,.nil,fun b hb=>by simp at hb⟩,fun b hb=>(aA2 _ _ hb).elim,Nat.le_refl _⟩ ?_
   intro j env' S' M' J' L' w' a' e hQ hj cs tr og
   have fin:(match mM trs env' S' with
     | some v=>(Out.ret (v,S'):Out (TV×aA))
     | none => .fail "results").All Q → LeavesInM F.plain n P fn a'.tmps (iN P O M J S w Q) a'.defers .returning w' := by
    intro hf
    split at hf
    ·rename_i v hv2
     obtain⟨bs,b1,b2,b3⟩:=cs.mks
     rw[b1]
     refine zP n bs b2 (fun b hb=>let ⟨x,y,z,_⟩:=b3 b hb;⟨x,y,z⟩) cs.ms (fun w2 ms2 sh=>?_)
     obtain⟨v',r1,r2⟩:=aJx cs.fr ms2 hrs hv2
     refine⟨v',r1,v,S',M',J',hf,r2,ms2.wr,?_⟩
     refine⟨sh.os.trans tr.os,sh.tape.trans tr.tape,sh.output.trans tr.output,by rw[sh.size];exact tr.size,tr.mle,tr.mnew,tr.jle,tr.jnew,tr.ph,fun b hb hn _=>?_⟩
     rw[sh.old b hb]
     exact tr.frame b hb hn (aA2 _ _)
    ·exact hf.elim
   cases j with
   | normal=>cases e<;>first|exact hj.elim|exact fin hQ
   | ret=>cases e<;>first|exact hj.elim|exact fin hQ
   | exit id=>exact hQ.elim
  ·simp at hcf
 ·simp at hcf
end
end Go.TM
namespace Go.TM
open Go
section
variable {P:Program}{O:dM}{K:TM.bV}{A:Ann}
variable {M:Mem}{J:aD}{L:List (Option Nat)}{S S':aA}{env env':Env}{w:World}
def qS (A:Ann)(nt:Nat)(M:Mem)(J:aD)(env:Env)(tmps:Array Value):Prop :=
 tmps.size=nt∧env.length=A.slots.length∧∀(j t:Nat) (x:TV),A.slots[j]? = some t->env[j]? = some x->VR M J [] x (tmps.getD t Go.undef)
theorem aCv {nt:Nat}(hs:fE A nt):∀ {ps:List Nat} {args:List TV} {params:List Nat} {vals:List Value} {env env1:Env} {tmps:Array Value},rX env ps args=some env1->params.map (eK · A.slots 0)=ps.map some->VRs M J [] args vals ->
  qS A nt M J env tmps->qS A nt M J env1 ((params.zip vals).foldl (fun tmps (t,a)=>tmps.setIfInBounds t a) tmps)∧params.length=args.length
 | [],args,params,vals,env,env1,tmps,h,hp,hv,hr=>by
  cases args with
  | nil =>
   simp[rX]at h;subst h
   simp at hp;subst hp
   exact⟨by simpa using hr,rfl⟩
  | cons a r=>simp[rX]at h
 | j::ps,args,params,vals,env,env1,tmps,h,hp,hv,hr=>by
  cases args with
  | nil=>simp[rX]at h
  | cons v args =>
   obtain⟨u,us,rfl,h1,h2⟩:=hv.cons_inv
   cases params with
   | nil=>simp at hp
   | cons t params =>
    simp only[List.map_cons,List.cons.injEq]at hp
    simp only[rX]at h
    split at h
    ·simp at h
    ·obtain⟨e1,e2,e3⟩:=hr
     have hjt:=lH hp.1
     have hjl:j<env.length:=by rw[e2];exact(List.getElem?_eq_some_iff.1 hjt).1
     have htn:t<tmps.size:=by rw[e1];exact hs.2 t (List.mem_of_getElem? hjt)
     have hr':qS A nt M J (env.set j v) (tmps.setIfInBounds t u):=by
      refine⟨by simp[e1],by simp[e2],fun j' t' x hj' hx=>?_⟩
      by_cases hjj:j'=j
      ·subst hjj
       rw[hjt]at hj'
       simp at hj';subst hj'
       rw[List.getElem?_set_self hjl]at hx
       simp at hx;subst hx
       rw[Array.getD_eq_getD_getElem?,Array.getElem?_setIfInBounds_self_of_lt htn]
       exact h1
      ·rw[List.getElem?_set_ne (by omega)]at hx
       have:t≠t':=by
        rintro rfl
        exact hjj ((List.getElem?_inj (by exact(List.getElem?_eq_some_iff.1 hj').1) hs.1).1 (by rw[hj',hjt]))
       rw[Array.getD_eq_getD_getElem?,Array.getElem?_setIfInBounds_ne this,<-Array.getD_eq_getD_getElem?]
       exact e3 j' t' x hj' hx
     obtain⟨f1,f2⟩:=aCv hs h hp.2 h2 hr'
     exact⟨by simpa using f1,by simp[f2]⟩
theorem qS.noLb {nt:Nat}{tmps:Array Value}(h:qS A nt M J env tmps)(j:Nat)(x:TV)(hx:env[j]? = some x):eE x=false:=by
 have hj:j<A.slots.length:=by rw[<-h.2.1];exact(List.getElem?_eq_some_iff.1 hx).1
 exact(h.2.2 j _ x (List.getElem?_eq_getElem hj) hx).isLp_nil
theorem qS.fr {nt:Nat}{tmps:Array Value}(h:qS A nt M J env tmps)(ds:List Deferred):FR A nt M J L env {tmps,defers:=ds}:=by
 refine⟨h.1,h.2.1,fun j x hx hl=>by rw[h.noLb j x hx]at hl;simp at hl,fun j t hj=>?_⟩
 have hjl:j<env.length:=by rw[h.2.1];exact(List.getElem?_eq_some_iff.1 hj).1
 have hvr:=h.2.2 j t _ hj (List.getElem?_eq_getElem hjl)
 have hlp:=h.noLb j _ (List.getElem?_eq_getElem hjl)
 have e:env.getD j .hole=env[j]:=by simp[List.getD,List.getElem?_eq_getElem hjl]
 have:eR env j=env[j]:=by
  unfold eR
  rw[e]
  cases hx:env[j]<;>first|rfl|(rw[hx]at hlp;simp[eE]at hlp)
 rw[this]
 exact hvr.ofNil
theorem qS.lb {nt:Nat}{tmps:Array Value}(h:qS A nt M J env tmps)(j:Nat)(cs:List TV):env[j]? ≠ some (.lb cs):=by
 intro hj
 have:=h.noLb j _ hj
 simp[eE]at this
theorem Tr.noOwn {n:Nat}{M':Mem}{J':aD}{w':World}(h:Tr (dC (List.replicate n none)) M J S w M' J' S' w'):Tr (fun _=>False) M J S w M' J' S' w' :=
 ⟨h.os,h.tape,h.output,h.size,h.mle,h.mnew,h.jle,h.jnew,h.ph,fun b hb hn _=>h.frame b hb hn (aA2 _ _)⟩
theorem xA (h:WR P O M J S w){i:Nat}{l:Loc}(hl:J.at i l)(hlo:l.loose=false){r:Loop}(hb:w.heap[l.cb]? = some (.loop r)){env:List TV}{ps:List Nat}{assign body:aQ}(hr:LpR P O M J env ps assign body r)(st:LoopState){pend:Option bR}
  {pc:Option Code} (hp:PR pend pc) (own:Nat->Prop):
  WR P O M J (S.set i (.lp st pend env ps assign body)) (w.putObj l.cb (.loop {r with state:=st,pending:=pc}))∧Tr own M J S w M J (S.set i (.lp st pend env ps assign body)) (w.putObj l.cb (.loop {r with state:=st,pending:=pc})) :=
 h.write own hl (.lp st pend env ps assign body {r with state:=st,pending:=pc} hlo (World.putObj_heap_same (fV hb)) rfl hp ⟨hr.ex⟩) (by simp) (fun b hb'=>World.putObj_heap_other hb') ⟨rfl,rfl,rfl⟩ (fun o v hm=>by
  have:=h.imm _ _ _ hm
  rw[pD hb (by simp) (by simp)]at this;simp at this)
theorem aM5 {orc:Orc}(ha:nY P O K orc)(hlp:yC P O K orc)(i:Nat):bGv P O K i (iT K orc i):=by
 intro F hF n args S Q hq M J w vals hv hw hg l hat
 unfold iT at hq
 split at hq
 ·rename_i st0 pend0 env ps assign body hS
  have hbr:=hw.blk i l _ hat hS
  cases hbr with
  | lp st pend env ps assign body r hlo hb hst hp hr =>
   obtain⟨A,hs,e1,e2,e3,e4,e5,e6,e7⟩:=hr.ex
   split at hq
   ·exact hq.elim
   rename_i env1 hset
   obtain⟨hpl,hpn⟩:=aCv hs hset e3 hv ⟨rfl,e1,e2⟩
   have hvl:=hv.1
   refine⟨r,hb,by simp at hpn;omega,roundIn_of_wpIn (hF.fn r.fn) ?_⟩
   have hfold:(r.params.zip vals.toArray).foldl (fun tmps (t,a)=>tmps.setIfInBounds t a) r.tmps=(r.params.toList.zip vals).foldl (fun tmps (t,a)=>tmps.setIfInBounds t a) r.tmps:=by
    rw[<-Array.foldl_toList];simp
   rw[hfold]
   rw[Out.all_bind]at hq
   have hFr:dJ (F.inRound l.cb):=⟨hF.fn,hF.depth,hF.alive⟩
   rw[e4]at hq e6
   have ms0:MS P O K M J (List.replicate A.slots.length none) S env1 w:=⟨hw,.none (by simp[hpl.2.1]) (fun j cs=>hpl.lb j cs),hg⟩
   refine aA1 (base:=0) ha hlp hFr n hs r.assign hq (.inr e6) ⟨hpl.fr [],ms0,⟨[],rfl,.nil,fun b hb=>by simp at hb⟩,fun b hb=>(aA2 _ _ hb).elim,Nat.zero_le _⟩ ?_
   intro j env2 S2 M2 J2 L2 w2 a2 e hQ hj cs2 tr2 og2
   simp only at hQ
   split at hQ
   ·rename_i p2 ev2 ps2 as2 bd2 hjn hS2
    cases e<;>first|exact hj.elim|skip
    show ∃w3,_
    have hat2:=tr2.jle.fixed hat hlo
    have hbr2:=cs2.ms.wr.blk i l _ hat2 hS2
    cases hbr2 with
    | lp st' pend' env' ps' as' bd' r2 hlo2 hb2 hst2 hp2 hr2 =>
     refine⟨_,run_beginRound hb2 hst2,?_⟩
     obtain⟨wr3,tr3⟩:=xA cs2.ms.wr hat2 hlo hb2 hr2 .busy hp2 (fun _=>False)
     obtain⟨ms3,tr3'⟩:=cs2.ms.step' wr3 tr3
     rw[Out.all_bind]at hQ
     rw[e5]at hQ e7
     refine aA1 (base:=0) ha hlp hFr n hs r.body hQ (.inr e7) ⟨cs2.fr,ms3,cs2.mks.step tr3' (.refl _ _ _),fun b hb=>by have:=cs2.lt b hb;simpa using this,Nat.zero_le _⟩ ?_
     intro j4 env4 S4 M4 J4 L4 w4 a4 e4' hQ4 hj4 cs4 tr4 og4
     simp only at hQ4
     split at hQ4
     ·rename_i st5 pd5 ev5 ps5 as5 bd5 hS5
      have hat4:=tr4.jle.fixed hat2 hlo
      have hbr4:=cs4.ms.wr.blk i l _ hat4 hS5
      cases hbr4 with
      | lp st6 pend6 env6 ps6 as6 bd6 r4 hlo4 hb4 hst4 hp4 hr4 =>
       have trA:Tr (fun _=>False) M J S w M4 J4 S4 w4:=((tr2.trans tr3' (fun b hb=>og2.weak b hb)).trans tr4 (fun b hb=>og2.weak b hb)).noOwn
       have fin:∀ {pd:Option bR} {pc:Option Code} (bb:Bool),PR pd pc->pc.isNone=bb->Q (.iv (.bool bb),S4.set i (.lp (if bb then .ready else .done) pd ev5 ps5 as5 bd5)) ->
         ∃v w',(Instr.endRound l.cb pc).run P w4=.ok v w'∧iN P O M J S w Q (.returned v) w':=by
        intro pd pc bb hpr hbb hQQ
        obtain⟨wr5,tr5⟩:=xA cs4.ms.wr hat4 hlo hb4 hr4 (if bb then .ready else .done) hpr (fun _=>False)
        refine⟨_,_,run_endRound pc hb4,_,_,M4,J4,hQQ,?_,?_,?_⟩
        ·rw[hbb];exact .iv _ (.bool bb)
        ·rw[hbb];exact wr5
        ·rw[hbb];exact trA.trans tr5 (fun b h=>h.elim)
       split at hQ4
       ·rename_i hjn4
        cases e4'<;>first|exact hj4.elim|skip
        exact fin (pd:=none) (pc:=none) true .none rfl hQ4
       ·rename_i hjn4
        cases j4 with
        | normal=>exact absurd rfl hjn4
        | ret =>
         cases e4'<;>first|exact hj4.elim|skip
         exact fin (pd:=some .ret) (pc:=some .ret) false .ret rfl hQ4
        | exit id =>
         cases e4'<;>first|exact hj4.elim|skip
         have hj4:id=_:=hj4
         subst hj4
         exact fin (pd:=some (.exit id)) (pc:=some (.exit id)) false (.exit id) rfl hQ4
     ·exact hQ4.elim
   ·exact hQ.elim
 ·exact hq.elim
end
end Go.TM
namespace Go.TM
open Go
section
variable {P:Program}{O:dM}{K:TM.bV}{A:Ann}
theorem xB {p:Nat->Prop}(h:∃k,p k):∃k,p k∧∀m,p m->k<=m:=by
 obtain⟨k,hk⟩:=h
 induction k using Nat.strongRecOn with
 | _ k ih =>
  by_cases hx:∃m,m<k∧p m
  ·obtain⟨m,hm,hp⟩:=hx
   exact ih m hm hp
  ·refine⟨k,hk,fun m hm=>?_⟩
   rcases Nat.lt_or_ge m k with h'|h'
   ·exact absurd ⟨m,h',hm⟩ hx
   ·exact h'
open Classical in
theorem aCw {α β:Type}(p:Nat->α->β->Prop):∃μ:α->β->Nat,∀a b,(∃k,p k a b)->p (μ a b) a b∧∀m,p m a b->μ a b<=m:=by
 refine⟨fun a b=>if h:∃k,p k a b then Classical.choose (xB h)else 0,fun a b h=>?_⟩
 simp only[dif_pos h]
 exact Classical.choose_spec (xB h)
theorem bD5 {n:Nat}(ih:∀m,m<=n->nY P O K (ex K m)∧yC P O K (ex K m)):yC P O K (ex K (n+1)):=by
 intro A nt hs F hF nn c env S Q hq hro base M J L w a X cs hk
 obtain⟨μ,hμ⟩:=aCw (fun(k:Nat) (a:Act) (w:World)=>∃env S M J L,CS P O K A base nt M J L S env w a∧((ex K k).loop (bI P O A nt c) env S).All Q∧sL P O K A base nt M J L S w Q X)
 refine wpIn_loop (fun a w=>∃k,k<=n+1∧∃env S M J L,CS P O K A base nt M J L S env w a∧((ex K k).loop (bI P O A nt c) env S).All Q∧sL P O K A base nt M J L S w Q X) μ ⟨n+1,Nat.le_refl _,env,S,M,J,L,cs,hq,hk⟩ ?_
 rintro a w ⟨k,hkn,hI⟩
 obtain⟨⟨env,S,M,J,L,cs,hq,hk⟩,hmin⟩:=hμ a w ⟨k,hI⟩
 have hle:=hmin k hI
 generalize hm:μ a w=m at hq hle
 cases m with
 | zero=>exact hq.elim
 | succ m =>
  obtain⟨ha,hl⟩:=ih m (by omega)
  have hq':((fD K (ex K m) (bI P O A nt c) env S).bind fun r=>match r.1 with
    | .normal=>(ex K m).loop (bI P O A nt c) r.2.1 r.2.2
    | j=>.ret (j,r.2.1,r.2.2)).All Q:=hq
  rw[Out.all_bind]at hq'
  refine aA1 (base:=base) ha hl hF nn hs c hq' hro cs ?_
  intro j env' S' M' J' L' w' a' e hQ hj cs' tr og
  cases j with
  | normal =>
   cases e<;>first|exact hj.elim|skip
   show _∧_
   have hI':∃env S M J L,CS P O K A base nt M J L S env w' a'∧((ex K m).loop (bI P O A nt c) env S).All Q∧sL P O K A base nt M J L S w' Q X:=⟨env',S',M',J',L',cs',hQ,hk.next tr og⟩
   refine⟨⟨m,by omega,hI'⟩,?_⟩
   have:=(hμ a' w' ⟨m,hI'⟩).2 m hI'
   omega
  | exit id =>
   cases e<;>first|exact hj.elim|skip
   exact hk _ _ _ _ _ _ _ _ _ hQ hj cs' tr og
  | ret =>
   cases e<;>first|exact hj.elim|skip
   exact hk _ _ _ _ _ _ _ _ _ hQ hj cs' tr og
theorem bGw (hk:KOK P O K):∀n m,m<=n->nY P O K (ex K m)∧yC P O K (ex K m)
 | 0,m,hm=>by
  obtain rfl:m=0:=by omega
  exact⟨⟨⟨fun f F hF n args S Q hq=>hq.elim,fun i F hF n args S Q hq=>hq.elim,hk.prim⟩,fun k ⟨tf,htf⟩=>by
    obtain⟨A,fn,h1,h2,h3⟩:=hk.funcs k tf htf
    refine⟨fn,h1,?_,h2⟩
    unfold rZ at h3
    split at h3
    ·rename_i c _ hc _;simp[hc]
    ·simp at h3,fun k args S Q hq=>hq.elim,hk.mixed⟩,
   fun A nt hs F hF n c env S Q hq=>hq.elim⟩
 | n+1,m,hm=>by
  have ih:=bGw hk n
  by_cases hmn:m<=n
  ·exact ih m hmn
  ·obtain rfl:m=n+1:=by omega
   obtain⟨ha,hl⟩:=ih n (Nat.le_refl _)
   refine⟨⟨⟨aJy hk ha hl,aM5 ha hl,hk.prim⟩,ha.body,fun k args S Q hq=>?_,hk.mixed⟩,bD5 ih⟩
   have hq:(eY K (ex K n) k args S).All Q:=hq
   unfold eY at hq
   split at hq
   ·exact hq.elim
   ·rename_i fn hfn;exact⟨fn,hfn⟩
theorem bLg (hk:KOK P O K){n:Nat}{f:Nat}{args:List TV}{S:aA}{Q:TV×aA->Prop}(hq:((ex K n).call f args S).All Q){M:Mem}{J:aD}{w:World}{vals:List Value}(hv:VRs M J [] args vals)(hw:WR P O M J S w)(hg:qO K M):
  Calls P f vals.toArray w (iN P O M J S w Q) :=
 callsIn_wide (n:=0).1 ((bGw hk n n (Nat.le_refl _)).1.ok.call f Fence.wide dJ.wide 0 args S Q hq M J w vals hv hw hg)
end
end Go.TM
namespace Go.TM
open Go
inductive Ty (P:Program) {H:Type}:TypeId->DataW H->List IV->Prop
 | bool (t:TypeId) (ht:P.underlying t=some .bool) (b:Bool):Ty P t (.lit (.bool b)) [.bool b]
 | int (t:TypeId) (k:IntKind) (ht:P.underlying t=some (.int k)) (n:Int) (hw:(Lit.int k n).wf=true):Ty P t (.lit (.int k n)) [.int k n]
 | str (t:TypeId) (ht:P.underlying t=some .string) (s:List UInt8) (hs:s.length<=maxLen):Ty P t (.lit (.string s)) [.str s]
 | nilp (t e:TypeId) (ht:P.underlying t=some (.pointer e)):Ty P t .nil [.nilp]
 | ptr (t e:TypeId) (ht:P.underlying t=some (.pointer e)) (d:DataW H) (l:List IV) (h:Ty P e d l) (hl:l.length=P.cellsOf e):Ty P t (.ptr d) [.cp l]
 | nils (t e:TypeId) (ht:P.underlying t=some (.slice e)):Ty P t .nil [.sl .nil []]
 | sl (t e:TypeId) (ht:P.underlying t=some (.slice e)) (ds sp:List (DataW H)) (ls:List (List IV)) (tag:Tag) (htag:tag≠.nil) (hn:ls.length=ds.length) (hm:ls.length+sp.length<=maxLen)
   (h:∀(i:Nat) (d:DataW H) (l:List IV),ds[i]? = some d->ls[i]? = some l->Ty P e d l) (hl:∀l∈ls,l.length=P.cellsOf e):Ty P t (.slice ds sp) [.sl tag ls]
 | struct (t:TypeId) (fs:Array Field) (ht:P.underlying t=some (.struct fs)) (ds:List (DataW H)) (ls:List (List IV)) (h1:ds.length=fs.size) (h2:ls.length=fs.size)
   (h:∀(i:Nat) (f:Field) (d:DataW H) (l:List IV),fs[i]? = some f->ds[i]? = some d->ls[i]? = some l->Ty P f.type d l) (hl:∀(i:Nat) (f:Field) (l:List IV),fs[i]? = some f->ls[i]? = some l->l.length=P.cellsOf f.type):Ty P t (.agg ds) (cA ls)
 | array (t e:TypeId) (n:Nat) (ht:P.underlying t=some (.array n e)) (ds:List (DataW H)) (ls:List (List IV)) (h1:ds.length=n) (h2:ls.length=n)
   (h:∀(i:Nat) (d:DataW H) (l:List IV),ds[i]? = some d->ls[i]? = some l->Ty P e d l) (hl:∀l∈ls,l.length=P.cellsOf e):Ty P t (.agg ds) (cA ls)
def lJ:List (Nat×Nat)->Nat->Option Nat
 | [],o=>some o
 | p::r,o=>if p.1=o then lJ r (o+p.2)else none
def aSb (P:Program)(ts:List TypeId):Bool :=
 ts.all fun t=>match P.underlying t with
  | some .bool|some (.int _)|some .string=>true
  | some (.slice e)|some (.pointer e)=>ts.contains e&&P.cellsOf e != 0
  | some (.struct fs)=>lJ (fs.toList.map fun f=>(f.offset,P.cellsOf f.type)) 0==some (P.cellsOf t)&&fs.toList.all fun f=>ts.contains f.type
  | some (.array n e)=>ts.contains e&&P.cellsOf t==n*P.cellsOf e
  | _=>false
def eV (w:World):Mem:=fun b o=>w.cell? ⟨b,o,none⟩
section
variable {P:Program}{H:Type}{enc:TypeId×Value->H}{w:World}{base:Nat}{held:Bool}
def IRs (M:Mem)(l:List IV)(vs:List Value):Prop:=l.length=vs.length∧∀(i:Nat) (a:IV) (v:Value),l[i]? = some a->vs[i]? = some v->IR M a v
theorem IRs.one {M:Mem}{a:IV}{v:Value}(h:IR M a v):IRs M [a] [v]:=by
 refine⟨rfl,fun i b u hb hu=>?_⟩
 cases i with
 | zero=>simp at hb hu;subst hb;subst hu;exact h
 | succ i=>simp at hb
theorem IRs.append {M:Mem}{l l':List IV}{vs vs':List Value}(h:IRs M l vs)(h':IRs M l' vs'):IRs M (l++l') (vs++vs'):=by
 refine⟨by simp[h.1,h'.1],fun i a v ha hv=>?_⟩
 rw[List.getElem?_append]at ha hv
 by_cases hi:i<l.length
 ·rw[if_pos hi]at ha
  rw[if_pos (by rw[<-h.1];exact hi)]at hv
  exact h.2 i a v ha hv
 ·rw[if_neg hi]at ha
  rw[if_neg (by rw[<-h.1];exact hi)]at hv
  rw[<-h.1]at hv
  exact h'.2 _ a v ha hv
theorem yG:∀ {ps:List (Nat×Nat)} {o t:Nat},lJ ps o=some t->o<=t
 | [],o,t,h=>by simp[lJ]at h;omega
 | p::r,o,t,h=>by
  simp only[lJ]at h
  split at h
  ·have:=yG h;omega
  ·simp at h
theorem vK {M:Mem}{cs:List Value}:∀ {ps:List (Nat×Nat)} {o t:Nat} {ls:List (List IV)},lJ ps o=some t->ls.length=ps.length->(∀(i:Nat) (p:Nat×Nat) (l:List IV),ps[i]? = some p->ls[i]? = some l->IRs M l ((cs.drop p.1).take p.2)) ->
  IRs M (cA ls) ((cs.drop o).take (t-o))
 | [],o,t,ls,h,hl,_=>by
  simp[lJ]at h;subst h
  have:ls=[]:=List.eq_nil_of_length_eq_zero (by simpa using hl)
  subst this
  exact⟨by simp[cA],fun i a v ha=>by simp[cA]at ha⟩
 | p::r,o,t,ls,h,hl,hp=>by
  simp only[lJ]at h
  split at h
  ·rename_i hpo
   cases ls with
   | nil=>simp at hl
   | cons l ls =>
    have h1:=hp 0 p l rfl rfl
    have h2:=vK (M:=M) (cs:=cs) (ls:=ls) h (by simpa using hl) (fun i q m hq hm=>hp (i+1) q m (by simpa using hq) (by simpa using hm))
    have hle:=yG h
    have e:(cs.drop o).take (t-o)=(cs.drop p.1).take p.2++(cs.drop (o+p.2)).take (t-(o+p.2)):=by
     rw[hpo,<-List.drop_drop]
     have:t-o=p.2+(t-(o+p.2)):=by omega
     rw[this,List.take_add]
    rw[e]
    exact h1.append h2
  ·simp at h
theorem tQ {a:Addr}{n:Nat}{cs:List Value}(h:w.cells? base a n=some cs):cs.length=n∧(0<n->a.spot=none)∧∀(i:Nat) (v:Value),cs[i]? = some v->eV w a.block (a.off+i)=some v:=by
 unfold World.cells? at h
 split at h
 ·have hl:=mapM_some_length h
  simp at hl
  have hg:∀i,i<n->w.cell? (a.add i)=cs[i]? := fun i hi=>mapM_some_get h i i (by simp[hi])
  have hsp:0<n->a.spot=none:=by
   intro hn
   have h0:=hg 0 hn
   have:cs[0]? = some cs[0]:=List.getElem?_eq_getElem (by omega)
   rw[this]at h0
   simp only[Addr.add,if_true,World.cell?]at h0
   split at h0
   ·split at h0
    ·simp at h0
    ·rename_i hs;simpa using hs
   ·simp at h0
  refine⟨hl,hsp,fun i v hv=>?_⟩
  have hi:i<n:=by rw[<-hl];exact(List.getElem?_eq_some_iff.1 hv).1
  have h1:=hg i hi
  rw[hv]at h1
  have hs:=hsp (by omega)
  unfold eV
  rw[<-h1]
  congr 1
  unfold Addr.add
  split
  ·rename_i h0;subst h0;cases a;simp_all
  ·rfl
 ·simp at h
theorem aJz {a:Addr}(h:a.spot=none):a=⟨a.block,a.off,none⟩:=by cases a;simp_all
theorem aA3 {α β:Type}{Q:Nat->β->Prop}:∀(n:Nat),(∀i,i<n->∃b,Q i b)->∃l:List β,l.length=n∧∀(i:Nat) (b:β),l[i]? = some b->Q i b
 | 0,_=>⟨[],rfl,fun i b h=>by simp at h⟩
 | n+1,h=>by
  obtain⟨l,h1,h2⟩:=aA3 (α:=α) n (fun i hi=>h i (by omega))
  obtain⟨b,hb⟩:=h n (by omega)
  refine⟨l++[b],by simp[h1],fun i c hc=>?_⟩
  rw[List.getElem?_append]at hc
  split at hc
  ·exact h2 i c hc
  ·have:i-l.length=0:=by
    rcases Nat.eq_zero_or_pos (i-l.length)with h'|h'
    ·exact h'
    ·rw[List.getElem?_eq_none (by simp;omega)]at hc;simp at hc
   rw[this]at hc
   simp at hc;subst hc
   have:i=n:=by omega
   rw[this];exact hb
theorem aQs {ts:List TypeId}(hts:aSb P ts=true):∀(fuel:Nat) (t:TypeId) (cs:List Value) (x:DataW H×List MemPlace),t∈ts->DataW.trod enc P w base (fun _=>true) held fuel t cs=some x->∃l,Ty P t x.1 l∧IRs (eV w) l cs:=by
 intro fuel
 induction fuel with
 | zero=>intro t cs x _ h;simp[DataW.trod]at h
 | succ fuel ih =>
  intro t cs x ht h
  have hok:=(List.all_eq_true.1 hts) t ht
  cases hu:P.underlying t with
  | none=>rw[hu]at hok;simp at hok
  | some d =>
   rw[hu]at hok
   cases d with
   | bool =>
    obtain⟨b,rfl,rfl⟩:=DataW.trod_bool hu h
    exact⟨_,.bool t hu b,.one (.bool b)⟩
   | int k =>
    obtain⟨n,rfl,rfl,hw⟩:=DataW.trod_int hu h
    exact⟨_,.int t k hu n hw,.one (.int k n)⟩
   | string =>
    obtain⟨s,rfl,rfl,hs⟩:=DataW.trod_string hu h
    refine⟨_,.str t hu s.data.toList (by rw[Array.length_toList];exact hs),.one ?_⟩
    have:=IR.str (M:=eV w) s.data.toList
    simpa using this
   | pointer e =>
    simp only[Bool.and_eq_true,bne_iff_ne,ne_eq,List.contains_iff_mem]at hok
    rcases DataW.trod_pointer hu h with⟨rfl,rfl⟩|⟨a,cs',y,n,hn,rfl,rfl,hc,hy⟩
    ·exact⟨_,.nilp t e hu,.one .nilp⟩
    ·simp at hn;subst hn
     obtain⟨l,h1,h2⟩:=ih e cs' y hok.1 hy
     obtain⟨c1,c2,c3⟩:=tQ hc
     refine⟨_,.ptr t e hu _ l h1 (by rw[h2.1,c1]),.one ?_⟩
     rw[aJz (c2 (by omega))]
     refine .cp l a.block a.off (fun i=>cs'.getD i Go.undef) (fun i x hx=>?_) (fun i x hx=>?_)
     ·have hi:i<cs'.length:=by rw[<-h2.1];exact(List.getElem?_eq_some_iff.1 hx).1
      simpa[List.getD,List.getElem?_eq_getElem hi] using c3 i _ (List.getElem?_eq_getElem hi)
     ·have hi:i<cs'.length:=by rw[<-h2.1];exact(List.getElem?_eq_some_iff.1 hx).1
      simpa[List.getD,List.getElem?_eq_getElem hi] using h2.2 i x _ hx (List.getElem?_eq_getElem hi)
   | slice e =>
    simp only[Bool.and_eq_true,bne_iff_ne,ne_eq,List.contains_iff_mem]at hok
    rcases DataW.trod_slice hu h with⟨rfl,rfl⟩|⟨a,len,cap,elems,rest,n,hn,rfl,rfl,hb,hlc,hm,hel,he,hsp,_⟩
    ·exact⟨_,.nils t e hu,.one .slNil⟩
    ·simp at hn;subst hn
     obtain⟨hrl,hr⟩:=hsp rfl
     -- each element
     have each:∀i,i<len->∃q:List IV×List Value,Ty P e (elems.getD i (.nil,[])).1 q.1∧IRs (eV w) q.1 q.2∧w.cells? base (a.add (i*P.cellsOf e)) (P.cellsOf e)=some q.2:=by
      intro i hi
      have h1:=he i hi
      have h2:elems[i]? = some (elems.getD i (.nil,[])):=by
       have:i<elems.length:=by omega
       simp[List.getD,List.getElem?_eq_getElem this]
      rw[h2,Option.bind_eq_some_iff]at h1
      obtain⟨cs',h3,h4⟩:=h1
      obtain⟨l,h5,h6⟩:=ih e cs' _ hok.1 h4
      exact⟨(l,cs'),h5,h6,h3⟩
     obtain⟨qs,hq1,hq2⟩:=aA3 (α:=Unit) len each
     have hes:∀l∈qs.map (·.1),l.length=P.cellsOf e:=by
      intro l hl
      obtain⟨q,hq,rfl⟩:=List.mem_map.1 hl
      obtain⟨i,hi⟩:=List.getElem?_of_mem hq
      obtain⟨_,h2,h3⟩:=hq2 i q hi
      rw[h2.1,(tQ h3).1]
     have hty:Ty P t (.slice (elems.map (·.1)) (rest.map (·.1))) [.sl (if cap=len then .full else .no) (qs.map (·.1))]:=by
      refine .sl t e hu _ _ _ _ (by split<;>simp) (by simp[hq1,hel]) (by simp[hq1,hrl];omega) (fun i d l hd hl=>?_) hes
      simp only[List.getElem?_map,Option.map_eq_some_iff]at hd hl
      obtain⟨x,hx,rfl⟩:=hd
      obtain⟨q,hq,rfl⟩:=hl
      obtain⟨h1,_⟩:=hq2 i q hq
      have hx':elems.getD i (.nil,[])=x:=by simp[List.getD,hx]
      rw[hx']at h1
      exact h1
     refine⟨_,hty,.one ?_⟩
     by_cases hc0:cap=0
     ·subst hc0
      have hl0:len=0:=by omega
      subst hl0
      have:qs=[]:=List.eq_nil_of_length_eq_zero hq1
      subst this
      exact .slE _ _ (by simp)
     ·have hspot:a.spot=none:=by
       have key:∀ {n:Nat} {cs':List Value},w.cells? base (a.add 0) n=some cs'->0<n->a.spot=none:=fun hh hn=>(tQ hh).2.1 hn
       by_cases hl0:len=0
       ·have h1:=hr 0 (by omega)
        have h2:rest[0]? = some (rest.getD 0 (.nil,[])):=by
         have:0<rest.length:=by omega
         simp[List.getD,List.getElem?_eq_getElem this]
        rw[h2,Option.bind_eq_some_iff,hl0]at h1
        obtain⟨cs',h3,_⟩:=h1
        simp only[Nat.add_zero,Nat.zero_mul]at h3
        exact key h3 (by omega)
       ·obtain⟨q,hq⟩:∃q,qs[0]? = some q:=⟨_,List.getElem?_eq_getElem (by omega)⟩
        have h3:=(hq2 0 q hq).2.2
        rw[Nat.zero_mul]at h3
        exact key h3 (by omega)
      rw[aJz hspot]
      have hql:len=(qs.map (·.1)).length:=by simp[hq1]
      have base':∀(i:Nat) (q:List IV×List Value),qs[i]? = some q->∀(j:Nat) (v:Value),q.2[j]? = some v->eV w a.block (a.off+i*P.cellsOf e+j)=some v:=by
       intro i q hq j v hv
       obtain⟨_,_,h3⟩:=hq2 i q hq
       have h4:=(tQ h3).2.2 j v hv
       have e1:(a.add (i*P.cellsOf e)).block=a.block:=by unfold Addr.add;split<;>rfl
       have e2:(a.add (i*P.cellsOf e)).off=a.off+i*P.cellsOf e:=by
        unfold Addr.add
        split
        ·rename_i h0;omega
        ·rfl
       rw[e1,e2]at h4
       exact h4
      have:=IR.sl (M:=eV w) (if cap=len then .full else .no) (qs.map (·.1)) a.block a.off cap (P.cellsOf e) (fun i j=>((qs.getD i ([],[])).2).getD j Go.undef) (by split<;>simp) hes (by simp[hq1];exact hlc) (fun hf=>by
       split at hf
       ·rename_i hcl;simp[hq1,hcl]
       ·simp at hf) (fun i c j x hc hx=>by
        simp only[List.getElem?_map,Option.map_eq_some_iff]at hc
        obtain⟨q,hq,rfl⟩:=hc
        have hj:j<q.2.length:=by rw[<-(hq2 i q hq).2.1.1];exact(List.getElem?_eq_some_iff.1 hx).1
        have e0:qs.getD i ([],[])=q:=by simp[List.getD,hq]
        rw[e0]
        simpa[List.getD,List.getElem?_eq_getElem hj] using base' i q hq j _ (List.getElem?_eq_getElem hj)) (fun i c j x hc hx=>by
        simp only[List.getElem?_map,Option.map_eq_some_iff]at hc
        obtain⟨q,hq,rfl⟩:=hc
        have hj:j<q.2.length:=by rw[<-(hq2 i q hq).2.1.1];exact(List.getElem?_eq_some_iff.1 hx).1
        have e0:qs.getD i ([],[])=q:=by simp[List.getD,hq]
        rw[e0]
        simpa[List.getD,List.getElem?_eq_getElem hj] using(hq2 i q hq).2.1.2 j x _ hx (List.getElem?_eq_getElem hj))
      rw[<-hql]at this
      exact this
   | struct fs =>
    simp only[Bool.and_eq_true,beq_iff_eq,List.all_eq_true,List.contains_iff_mem]at hok
    obtain⟨xs,n,hn,rfl,hcl,hxl,hx⟩:=DataW.trod_struct hu h
    simp at hn;subst hn
    have each:∀i,i<fs.size->∃l:List IV,∀f y,fs[i]? = some f->xs[i]? = some y->Ty P f.type y.1 l∧IRs (eV w) l ((cs.drop f.offset).take (P.cellsOf f.type)):=by
     intro i hi
     have hf:fs[i]? = some fs[i]:=Array.getElem?_eq_getElem hi
     have hy:xs[i]? = some xs[i]:=List.getElem?_eq_getElem (by omega)
     have h1:=hx i _ hf
     rw[hy]at h1
     obtain⟨l,h2,h3⟩:=ih _ _ _ (hok.2 _ (by simp)) h1
     refine⟨l,fun f y hf' hy'=>?_⟩
     rw[hf]at hf';rw[hy]at hy'
     simp at hf' hy';subst hf';subst hy'
     exact⟨h2,h3⟩
    obtain⟨ls,hl1,hl2⟩:=aA3 (α:=Unit) fs.size each
    have hcon:=vK (M:=eV w) (cs:=cs) (ls:=ls) hok.1 (by simp[hl1]) (fun i p l hp hl=>by
     simp only[List.getElem?_map,Option.map_eq_some_iff]at hp
     obtain⟨f,hf,rfl⟩:=hp
     have hf:fs[i]? = some f:=by simpa using hf
     have hi:i<fs.size:=(Array.getElem?_eq_some_iff.1 hf).1
     exact(hl2 i l hl f _ hf (List.getElem?_eq_getElem (by omega:i<xs.length))).2)
    rw[List.drop_zero,Nat.sub_zero,<-hcl,List.take_length]at hcon
    refine⟨cA ls,.struct t fs hu _ ls (by simp[hxl]) hl1 (fun i f d l hf hd hl=>?_) (fun i f l hf hl=>?_),hcon⟩
    ·simp only[List.getElem?_map,Option.map_eq_some_iff]at hd
     obtain⟨y,hy,rfl⟩:=hd
     exact(hl2 i l hl f y hf hy).1
    ·have hi:i<fs.size:=(Array.getElem?_eq_some_iff.1 hf).1
     have h3:=(hl2 i l hl f _ hf (List.getElem?_eq_getElem (by omega:i<xs.length))).2
     -- its part lies within
     have hy:=hx i f hf
     rw[h3.1,List.length_take,List.length_drop]
     have hle:f.offset+P.cellsOf f.type<=cs.length:=by
      rw[hcl]
      have key:∀ {ps:List (Nat×Nat)} {o tt:Nat} {k:Nat} {p:Nat×Nat},lJ ps o=some tt->ps[k]? = some p->p.1+p.2<=tt:=by
       intro ps
       induction ps with
       | nil=>intro o tt k p _ hk;simp at hk
       | cons q r ihr =>
        intro o tt k p hc hk
        simp only[lJ]at hc
        split at hc
        ·rename_i hq
         cases k with
         | zero=>simp at hk;subst hk;have:=yG hc;omega
         | succ k=>simp at hk;exact ihr hc hk
        ·simp at hc
      exact key (p:=(f.offset,P.cellsOf f.type)) hok.1 (k:=i) (by simp only[List.getElem?_map,Array.getElem?_toList,hf,Option.map_some])
     omega
   | array n e =>
    simp only[Bool.and_eq_true,beq_iff_eq,List.contains_iff_mem]at hok
    obtain⟨xs,m,hn,rfl,hcl,hxl,hx⟩:=DataW.trod_array hu h
    simp at hn;subst hn
    have each:∀i,i<n->∃l:List IV,∀y,xs[i]? = some y->Ty P e y.1 l∧IRs (eV w) l ((cs.drop (i*P.cellsOf e)).take (P.cellsOf e)):=by
     intro i hi
     have hy:xs[i]? = some xs[i]:=List.getElem?_eq_getElem (by omega)
     have h1:=hx i hi
     rw[hy]at h1
     obtain⟨l,h2,h3⟩:=ih _ _ _ hok.1 h1
     refine⟨l,fun y hy'=>?_⟩
     rw[hy]at hy'
     simp at hy';subst hy'
     exact⟨h2,h3⟩
    obtain⟨ls,hl1,hl2⟩:=aA3 (α:=Unit) n each
    have hcs:∀(k m:Nat),lJ ((List.range' k m).map fun i=>(i*P.cellsOf e,P.cellsOf e)) (k*P.cellsOf e)=some ((k+m)*P.cellsOf e):=by
     intro k m
     induction m generalizing k with
     | zero=>simp[lJ]
     | succ m ihm =>
      rw[List.range'_succ,List.map_cons,lJ,if_pos rfl]
      have:=ihm (k+1)
      rw[Nat.add_mul,Nat.one_mul]at this
      rw[this]
      congr 2;omega
    have hcon:=vK (M:=eV w) (cs:=cs) (ls:=ls) (hcs 0 n) (by simp[hl1]) (fun i p l hp hl=>by
     simp only[List.getElem?_map,Option.map_eq_some_iff]at hp
     obtain⟨k,hk,rfl⟩:=hp
     have hi:i<n:=by rw[<-hl1];exact(List.getElem?_eq_some_iff.1 hl).1
     rw[List.getElem?_range' hi]at hk
     simp at hk;subst hk
     exact(hl2 i l hl _ (List.getElem?_eq_getElem (by omega:i<xs.length))).2)
    rw[Nat.zero_mul,List.drop_zero,Nat.sub_zero,Nat.zero_add,<-hok.2,<-hcl,List.take_length]at hcon
    refine⟨cA ls,.array t e n hu _ ls (by simp[hxl]) hl1 (fun i d l hd hl=>?_) (fun l hl=>?_),hcon⟩
    ·simp only[List.getElem?_map,Option.map_eq_some_iff]at hd
     obtain⟨y,hy,rfl⟩:=hd
     exact(hl2 i l hl y hy).1
    ·obtain⟨i,hi⟩:=List.getElem?_of_mem hl
     have hin:i<n:=by rw[<-hl1];exact(List.getElem?_eq_some_iff.1 hi).1
     have h3:=(hl2 i l hi _ (List.getElem?_eq_getElem (by omega:i<xs.length))).2
     rw[h3.1,List.length_take,List.length_drop,hcl,hok.2]
     have:(i+1)*P.cellsOf e<=n*P.cellsOf e:=Nat.mul_le_mul_right _ hin
     rw[Nat.add_mul]at this
     omega
   | _=>simp at hok
end
end Go.TM
namespace Go.TM
open Go Go.RowKit
mutual
def aJ0 {H:Type}:DataW H->List IV
 | .lit (.bool b)=>[.bool b]
 | .lit (.int k n)=>[.int k n]
 | .lit (.string s)=>[.str s]
 | .agg ps=>aQt ps
 | _=>[]
def aQt {H:Type}:List (DataW H)->List IV
 | []=>[]
 | d::r=>aJ0 d++aQt r
end
mutual
def aD0 {H:Type}:DataW H->Bool
 | .lit _=>true
 | .agg ps=>aQu ps
 | _=>false
def aQu {H:Type}:List (DataW H)->Bool
 | []=>true
 | d::r=>aD0 d&&aQu r
end
theorem yH {H:Type}:∀ {ds:List (DataW H)},aQu ds=true->∀(i:Nat) (d:DataW H),ds[i]? = some d->aD0 d=true
 | [],_,i,d,h=>by simp at h
 | x::r,h,i,d,hd=>by
  simp only[aQu,Bool.and_eq_true]at h
  cases i with
  | zero=>simp at hd;subst hd;exact h.1
  | succ i=>exact yH h.2 i d (by simpa using hd)
theorem vL {H:Type}:∀ {ds:List (DataW H)} {ls:List (List IV)},ls.length=ds.length->(∀(i:Nat) (d:DataW H) (l:List IV),ds[i]? = some d->ls[i]? = some l->l=aJ0 d)->cA ls=aQt ds
 | [],ls,hl,_=>by
  have:ls=[]:=List.eq_nil_of_length_eq_zero (by simpa using hl)
  subst this;rfl
 | d::ds,ls,hl,h=>by
  cases ls with
  | nil=>simp at hl
  | cons l ls =>
   have h1:=h 0 d l rfl rfl
   have h2:=vL (ds:=ds) (ls:=ls) (by simpa using hl) (fun i d' l' hd hl'=>h (i+1) d' l' (by simpa using hd) (by simpa using hl'))
   simp only[cA,aQt,h1,h2]
theorem bIw {P:Program}{H:Type}{t:TypeId}{d:DataW H}{l:List IV}(h:Ty P t d l):aD0 d=true->l=aJ0 d:=by
 induction h with
 | bool t ht b=>intro _;rfl
 | int t k ht n hw=>intro _;rfl
 | str t ht s hs=>intro _;rfl
 | nilp t e ht=>intro h;simp[aD0]at h
 | ptr t e ht d l h hl ih=>intro h;simp[aD0]at h
 | nils t e ht=>intro h;simp[aD0]at h
 | sl t e ht ds sp ls tag htag hn hm h hl ih=>intro h;simp[aD0]at h
 | struct t fs ht ds ls h1 h2 h hl ih =>
  intro hd
  simp only[aD0]at hd
  simp only[aJ0]
  refine vL (by omega) (fun i d l hdi hli=>?_)
  have hi:i<fs.size:=by rw[<-h1];exact(List.getElem?_eq_some_iff.1 hdi).1
  exact ih i fs[i] d l (Array.getElem?_eq_getElem hi) hdi hli (yH hd i d hdi)
 | array t e n ht ds ls h1 h2 h hl ih =>
  intro hd
  simp only[aD0]at hd
  simp only[aJ0]
  exact vL (by omega) (fun i d l hdi hli=>ih i d l hdi hli (yH hd i d hdi))
section
variable {P:Program}{W:World}
theorem yI {ts:List TypeId}(hts:aSb P ts=true):∀ {laid:List (String×DataW Unit)} {ps:List MemPlace},DataW.LaidVars P W laid ps->∀(n:String) (d:DataW Unit),(n,d)∈laid->∀(g:Nat) (t:TypeId),P.globalNamed n=some g->(P.globals[g]?).map (·.type)=some t->t∈ts->aD0 d=true ->
  IR (eV W) (.cp (aJ0 d)) (.pointer (some ⟨g,0,none⟩))
 | [],_,_,n,d,h=>by simp at h
 | (n0,d0)::r,ps,h,n,d,hm=>by
  intro g t hg ht htt hl
  obtain⟨g',t',cs,fuel,p,q,h1,h2,h3,h4,h5,_⟩:=h
  rcases List.mem_cons.1 hm with e|hm
  ·simp only[Prod.mk.injEq]at e
   obtain⟨rfl,rfl⟩:=e
   obtain rfl:=Option.some.inj (hg.symm.trans h1)
   obtain rfl:=Option.some.inj (ht.symm.trans h2)
   obtain⟨l,k1,k2⟩:=aQs hts fuel t cs.toList _ htt h4
   have:=bIw k1 hl
   subst this
   refine .cp _ g 0 (fun i=>cs.getD i Go.undef) (fun i x hx=>?_) (fun i x hx=>?_)
   ·have hi:i<cs.size:=by have:=(List.getElem?_eq_some_iff.1 hx).1;rw[k2.1]at this;simpa using this
    show W.cell? ⟨g,0+i,none⟩=_
    rw[Nat.zero_add,World.var?_cell hg h3 i,Array.getElem?_eq_getElem hi]
    simp[Array.getD_eq_getD_getElem?,Array.getElem?_eq_getElem hi]
   ·have hi:i<cs.size:=by have:=(List.getElem?_eq_some_iff.1 hx).1;rw[k2.1]at this;simpa using this
    have:=k2.2 i x cs[i] hx (by simp[hi])
    simpa[Array.getD_eq_getD_getElem?,Array.getElem?_eq_getElem hi] using this
  ·exact yI hts h5 n d hm g t hg ht htt hl
theorem aSc {O:dM}(W:World):WR P O (eV W) [] [] W:=.empty (fun _ _ _ h=>h)
theorem aYl {M M':Mem}{J':aD}{S':aA}{W':World}(h:Tr (fun _=>False) M [] [] W M' J' S' W'):Below W.heap.size W W' :=
 ⟨h.os,h.tape,h.output,h.size,fun k hk=>h.frame k hk (by rintro⟨i,l,hl,_⟩;simp[aD.at]at hl) (fun h=>h)⟩
theorem aSd {O:dM}{K:TM.bV}(hk:KOK P O K){n f:Nat}{args:List TV}(hq:((ex K n).call f args []).All (fun r=>r.1=.iv (.bool true))){vals:Array Value}(hv:VRs (eV W) [] [] args vals.toList)(hg:qO K (eV W)):
  Calls P f vals W fun e W'=>e=.returned (.bool true)∧Below W.heap.size W W':=by
 have h:=bLg hk hq hv (aSc W) hg
 have e:vals.toList.toArray=vals:=by simp
 rw[e]at h
 refine h.mono (fun en W' he=>?_)
 cases en with
 | returned v' =>
  obtain⟨v,S',M',J',hQ,hvr,_,tr⟩:=he
  simp only at hQ
  subst hQ
  exact⟨by rw[hvr.bool_inv],aYl tr⟩
 | panicked c=>exact he.elim
 | outgrown=>exact he.elim
theorem aFi {H:Type}{enc:TypeId×Value->H}(hl:laidOutB P=true){W':World}(hb:Below W.heap.size W W'):∀ {ts:List TypeId} {vs:List Value} {ds:List (DataW H)} {ps:List MemPlace},(∀t∈ts,P.readableRec t=true∧t<P.types.size) ->
  DataW.TrodAll enc P W 0 (fun _=>true) true ts vs ds ps->(∀x∈ps,x.block<W.heap.size)->DataW.TrodAll enc P W' 0 (fun b=>decide (b<W.heap.size)) true ts vs ds ps
 | [],vs,ds,ps,_,h,_=>by
  obtain⟨rfl,rfl,rfl⟩:=Go.ChangeShapes.trodAll_nil h
  rfl
 | t::ts,vs,ds,ps,ht,h,hlt=>by
  obtain⟨v,vs',d,ds',p,q,rfl,rfl,rfl,h1,h2⟩:=Go.ChangeShapes.trodAll_cons h
  exact⟨p,q,Below.trod hl (ht t (by simp)).1 (ht t (by simp)).2 h1 hb (fun x hx=>hlt x (by simp[hx])),aFi hl hb (fun u hu=>ht u (by simp[hu])) h2 (fun x hx=>hlt x (by simp[hx])),rfl⟩
theorem aYm {H:Type}{enc:TypeId×Value->H}(hl:laidOutB P=true){f:Func}{s:ChangeSpec}{apart fresh handsOn:Bool}{W':World}{args:Array Value}{ds gs:List (DataW H)}{before:List MemPlace}(hW:DataW.Whole enc P f.params.toList s.vars apart W args.toList ds gs before)
  (hs:s.vars=[]) (hfn:s.fn H ds={results:=[.lit (.bool true)],args:=ds}) (hts:f.params.all (fun t=>P.readableRec t&&decide (t<P.types.size))=true) {tb:TypeId} (hrt:f.resultTypes=#[tb]) (htb:P.underlying tb=some .bool) (hb:Below W.heap.size W W'):
  s.post enc P f apart fresh handsOn false W args (.bool true) W':=by
 obtain⟨p,q,hA,hV,hps,hz,hnd⟩:=hW
 have hlt:=hA.lt
 rw[hs]at hV
 obtain⟨hgs,hqe⟩:gs=[]∧q=[]:=by
  cases gs with
  | nil=>exact⟨rfl,hV⟩
  | cons g r=>exact absurd hV (by intro h;cases h)
 subst hgs;subst hqe
 have hA':=aFi hl hb (fun t ht=>by
  rw[<-Array.all_toList,List.all_eq_true]at hts
  have:=hts t ht
  simpa using this) hA hlt
 refine⟨ds,[],before,[],p,[],⟨p,[],hA,by rw[hs];exact rfl,hps,hz,hnd⟩,?_,?_,?_,?_,fun h=>by simp at h⟩
 ·rw[List.append_nil,hfn,hrt]
  exact⟨[],[],⟨1,by cases fresh<;>simp[DataW.trod,htb,Value.cells]⟩,rfl,rfl⟩
 ·rw[List.append_nil,hfn];exact hA'
 ·rw[List.append_nil,hfn,hs];exact rfl
 ·exact hb.frame _
end
def aFj {α:Type}(Q:Nat->α->Prop):Nat->List (Option α)->Prop
 | _,[]=>True
 | i,none::r=>aFj Q (i+1) r
 | i,some t::r=>Q i t∧aFj Q (i+1) r
theorem vM {α:Type}{Q:Nat->α->Prop}:∀ {l:List (Option α)} {i:Nat},aFj Q i l->∀(k:Nat) (t:α),l.getD k none=some t->Q (i+k) t
 | [],i,_,k,t,h=>by simp[List.getD]at h
 | none::r,i,h,k,t,hk=>by
  cases k with
  | zero=>simp[List.getD]at hk
  | succ k =>
   have:=vM (l:=r) (i:=i+1) h k t (by simpa[List.getD] using hk)
   rwa [show i+1+k=i+(k+1) by omega]at this
 | some u::r,i,h,k,t,hk=>by
  cases k with
  | zero=>simp[List.getD]at hk;subst hk;exact h.1
  | succ k =>
   have:=vM (l:=r) (i:=i+1) h.2 k t (by simpa[List.getD] using hk)
   rwa [show i+1+k=i+(k+1) by omega]at this
theorem aFk {α:Type}{Q:Nat->α->Prop}{l:List (Option α)}(h:aFj Q 0 l)(k:Nat)(t:α)(hk:l.getD k none=some t):Q k t:=by
 have:=vM h k t hk
 rwa [Nat.zero_add]at this
end Go.TM
namespace Go.TM
end Go.TM
namespace Go.TM
theorem aQv (K:bV)(n:Nat)(b:aQ)(env:Env)(S:aA):(ex K (n+1)).loop b env S=(fD K (ex K n) b env S).bind fun r=>match r.1 with
  | .normal=>(ex K n).loop b r.2.1 r.2.2
  | j=>.ret (j,r.2.1,r.2.2):=rfl
def cL:TOp->Nat
 | .mov _ | .pick .. | .build .. | .nilCheck _ | .bin .. | .eqB .. | .eqAgg .. | .un .. | .mkFn .. | .fieldAddr .. | .field .. | .indexAddrS .. | .indexAddrA .. | .indexA .. | .indexS .. | .extract .. | .cap _ | .lenC _ | .minmax ..=>0
 | .lit ..=>6
 | .load1 _ | .loadN .. | .slice .. | .lookup .. | .entryM _ | .len ..=>1
 | .allocH .. | .boxH .. | .mkMap | .mkSlice ..=>2
 | .conv ..=>4
 | .call .. | .callv .. | .prim .. | .nextM _=>5
 | _=>3
def Out.need {α:Type}(why:String)(x:Option TV)(f:TV->α):Out α :=
 match x with
 | some v=>.ret (f v)
 | none=>.fail why
@[simp] theorem Out.need_some {α:Type} (why:String) (v:TV) (f:TV->α):Out.need why (some v) f=.ret (f v):=rfl
section
variable (K:bV)(orc:Orc)(env rs:List TV)(S:aA)
theorem mH (o:TOp)(h:cL o≠5):cN K orc o env rs S=Out.ofOpt (rV o) (iY K o env rs S):=by
 cases o<;>first|rfl|simp[cL]at h
theorem ec0 (o:TOp)(h:cL o=0):cN K orc o env rs S=Out.need (rV o) (bG o (bH K env rs)) fun v=>(v,env,S):=by
 rw[mH K orc env rs S o (by omega)]
 have r:∀e,aR o e env S=none:=by intro e;cases o<;>first|rfl|simp[cL]at h
 have a:∀e n,bZ o e n=none:=by
  intro e n
  cases o<;>first|rfl|(simp[cL]at h;done)
 have s:∀e,iI o e rs env S=none:=by intro e;cases o<;>first|rfl|simp[cL]at h
 simp only[iY,iJ]
 cases bG o (bH K env rs)<;>simp[r,a,s,Out.ofOpt,Out.need]
theorem ec1 (o:TOp)(h:cL o=1):cN K orc o env rs S=Out.need (rV o) (aR o (bH K env rs) env S) fun v=>(v,env,S):=by
 rw[mH K orc env rs S o (by omega)]
 have r:∀e,bG o e=none:=by
  intro e
  cases o<;>first|rfl|(simp[cL]at h;done)
 have a:∀e n,bZ o e n=none:=by
  intro e n
  cases o<;>first|rfl|(simp[cL]at h;done)
 have s:∀e,iI o e rs env S=none:=by intro e;cases o<;>first|rfl|simp[cL]at h
 simp only[iY,iJ,r]
 cases aR o (bH K env rs) env S<;>simp[a,s,Out.ofOpt,Out.need]
theorem ec4 (k : CK) (x : aE) : cN K orc (.conv k x) env rs S = Out.need "conv" (match (dB k (bH K env rs x)).map TV.iv with
  | some v=>some v
  | none=>aR (.conv k x) (bH K env rs) env S) fun v=>(v,env,S):=by
 rw[mH K orc env rs S _ (by simp[cL])]
 simp only[iY,iJ,bG,rV]
 cases h1:(dB k (bH K env rs x)).map TV.iv with
 | some v=>simp[Out.ofOpt,Out.need]
 | none =>
  cases h2:aR (.conv k x) (bH K env rs) env S<;>simp[bZ,iI,Out.ofOpt,Out.need]
end
end Go.TM
namespace Go.TM
inductive Out.Le {α:Type}:Out α->Out α->Prop
 | fail (s:String) (y:Out α):Out.Le (.fail s) y
 | ret (a:α):Out.Le (.ret a) (.ret a)
 | pick (n:Nat) (k k':Nat->Out α) (h:∀i,Out.Le (k i) (k' i)):Out.Le (.pick n k) (.pick n k')
theorem Out.Le.refl {α:Type}:∀(x:Out α),Out.Le x x
 | .ret a=>.ret a
 | .fail s=>.fail s _
 | .pick n k=>.pick n k k fun i=>Out.Le.refl (k i)
theorem Out.Le.bind {α β:Type}{f g:α->Out β}(hf:∀a,Out.Le (f a) (g a)){x y:Out α}(h:Out.Le x y):Out.Le (x.bind f) (y.bind g):=by
 induction h with
 | fail s y=>exact .fail s _
 | ret a=>exact hf a
 | pick n k k' h ih=>exact .pick n _ _ ih
structure Orc.Le (o o':Orc):Prop where
 call:∀f a S,Out.Le (o.call f a S) (o'.call f a S)
 yld:∀i a S,Out.Le (o.yld i a S) (o'.yld i a S)
 loop:∀b e S,Out.Le (o.loop b e S) (o'.loop b e S)
variable {K:bV}{o o':Orc}
theorem uP (h:Orc.Le o o')(f:Nat)(args:List TV)(S:aA):Out.Le (eX o f args S) (eX o' f args S):=by
 unfold eX
 split
 ·exact .refl _
 ·exact(h.call _ _ _).bind fun a=>.refl _
theorem zQ (h:Orc.Le o o')(t:Bool)(f:Nat)(args:List TV)(S:aA):Out.Le (iZ o t f args S) (iZ o' t f args S):=by
 unfold iZ
 split
 ·exact .refl _
 ·exact(h.call _ _ _).bind fun a=>.refl _
theorem aD1 (h:Orc.Le o o')(op:TOp)(env rs:List TV)(S:aA):Out.Le (cN K o op env rs S) (cN K o' op env rs S):=by
 unfold cN
 split
 ·refine Out.Le.bind (fun a=>.refl _) ?_
  split
  ·exact uP h _ _ _
  ·exact zQ h _ _ _ _
 ·dsimp only
  split
  ·refine Out.Le.bind (fun a=>.refl _) ?_
   split
   ·exact uP h _ _ _
   ·exact zQ h _ _ _ _
  ·split
   ·exact .refl _
   ·exact Out.Le.bind (fun a=>.refl _) (h.yld _ _ _)
  ·exact .refl _
 all_goals exact .refl _
theorem zR (h:Orc.Le o o')(op:aM)(i:Nat)(rs:List TV)(env:Env)(S:aA):Out.Le (jN K o op i rs env S) (jN K o' op i rs env S):=by
 unfold jN
 split
 ·exact .refl _
 ·exact .refl _
 ·exact(aD1 h _ _ _ _).bind fun a=>.refl _
theorem zS (h:Orc.Le o o'):∀(ops:List aM) (i:Nat) (rs:List TV) (env:Env) (S:aA),Out.Le (kI K o ops i rs env S) (kI K o' ops i rs env S)
 | [],_,_,_,_=>.refl _
 | op::ops,i,rs,env,S=>(zR h op i rs env S).bind fun r=>zS h ops _ _ _ _
theorem sQ (h:Orc.Le o o')(ops:List aM):∀(ps:List (Nat×List Nat×List Nat)) (rs:List TV) (env:Env) (S:aA),Out.Le (eJ K o ops ps rs env S) (eJ K o' ops ps rs env S)
 | [],_,_,_=>.refl _
 | (i,chk,fl)::ps,rs,env,S=>by
  unfold eJ
  split
  ·exact .refl _
  ·refine(zR h _ _ _ _ _).bind fun r=>?_
   split
   ·split
    ·exact sQ h ops ps _ _ _
    ·exact .refl _
   ·exact .refl _
theorem tR (h:Orc.Le o o'):∀(c:aQ) (env:Env) (S:aA),Out.Le (fD K o c env S) (fD K o' c env S):=by
 intro c
 induction c with
 | skip=>exact fun _ _=>.refl _
 | region ops=>exact fun env S=>(zS h _ _ _ _ _).bind fun r=>.refl _
 | draw f0 ph ops =>
  intro env S
  simp only[fD]
  split
  ·exact .refl _
  ·exact(sQ h _ _ _ _ _).bind fun r=>.refl _
 | seq a b iha ihb =>
  intro env S
  simp only[fD]
  refine(iha env S).bind fun r=>?_
  split
  ·exact ihb _ _
  ·exact .refl _
 | cond c a b iha ihb =>
  intro env S
  simp only[fD]
  split
  ·exact iha _ _
  ·exact ihb _ _
  ·exact .refl _
 | block id b ih=>exact fun env S=>(ih env S).bind fun r=>.refl _
 | loop b ih=>exact fun env S=>h.loop _ _ _
 | rangeFunc f ps a b iha ihb =>
  intro env S
  simp only[fD]
  split
  ·exact(h.call _ _ _).bind fun r=>.refl _
  ·exact .refl _
 | exit id=>exact fun _ _=>.refl _
 | ret=>exact fun _ _=>.refl _
 | bad=>exact fun _ _=>.refl _
theorem aD2 (h:Orc.Le o o')(f:Nat)(args:List TV)(S:aA):Out.Le (eY K o f args S) (eY K o' f args S):=by
 unfold eY
 split
 ·exact .refl _
 ·split
  ·exact .refl _
  ·exact(tR h _ _ _).bind fun r=>.refl _
theorem aHc (h:Orc.Le o o')(i:Nat)(args:List TV)(S:aA):Out.Le (iT K o i args S) (iT K o' i args S):=by
 unfold iT
 split
 ·split
  ·exact .refl _
  ·refine(tR h _ _ _).bind fun r=>?_
   split
   ·exact(tR h _ _ _).bind fun q=>.refl _
   ·exact .refl _
 ·exact .refl _
theorem qT:∀(n:Nat),Orc.Le (ex K n) (ex K (n+1))
 | 0=>⟨fun _ _ _=>.fail _ _,fun _ _ _=>.fail _ _,fun _ _ _=>.fail _ _⟩
 | n+1=>by
  have ih:=qT n
  refine⟨fun f a S=>aD2 ih f a S,fun i a S=>aHc ih i a S,fun b e S=>?_⟩
  rw[aQv,aQv]
  refine(tR ih b e S).bind fun r=>?_
  split
  ·exact ih.loop _ _ _
  ·exact .refl _
theorem Out.Le.trans {α:Type}{x y z:Out α}(h:Out.Le x y):Out.Le y z->Out.Le x z:=by
 induction h generalizing z with
 | fail s y=>exact fun _=>.fail s z
 | ret a=>exact id
 | pick n k k' h ih =>
  intro g
  cases g with
  | pick _ _ k2 g=>exact .pick n k k2 fun i=>ih i (g i)
theorem aCx {n m:Nat}(h:n<=m):Orc.Le (ex K n) (ex K m):=by
 induction h with
 | refl=>exact⟨fun _ _ _=>.refl _,fun _ _ _=>.refl _,fun _ _ _=>.refl _⟩
 | step _ ih=>exact⟨fun f a S=>(ih.call f a S).trans ((qT _).call f a S),fun i a S=>(ih.yld i a S).trans ((qT _).yld i a S),fun b e S=>(ih.loop b e S).trans ((qT _).loop b e S)⟩
end Go.TM
namespace Go.TM
open Go Go.ChangeShapes Go.WideShapes
variable {P:Program}{H:Type}{enc:TypeId×Value->H}{W:World}
def aFl (P:Program)(t:TypeId)(l:List IV):TV :=
 match P.underlying t with
 | some (.struct _)|some (.array _ _)=>.iv (.agg l)
 | _=>match l with
  | [x]=>.iv x
  | _=>.hole
theorem aCy {v:Value}{l:List IV}(hc:v.cells.toList=[v])(h:IRs (eV W) l v.cells.toList):∃x,l=[x]∧IR (eV W) x v:=by
 rw[hc]at h
 obtain⟨h1,h2⟩:=h
 match l,h1,h2 with
 | [x],_,h2=>exact⟨x,rfl,h2 0 x v rfl rfl⟩
theorem bIx {ts:List TypeId}(hts:aSb P ts=true){r:Reach}{b base:Nat}{held:Bool}{t:TypeId}{v:Value}{d:DataW H}{ps:List MemPlace}(ht:t∈ts)(hv:Value.okWide P W r b t v)
  (h:DataW.Trod enc P W base (fun _=>true) held t v d ps):∃l,Ty P t d l∧VR (eV W) [] [] (aFl P t l) v:=by
 obtain⟨fuel,h⟩:=h
 obtain⟨l,h1,h2⟩:=aQs hts fuel t _ _ ht h
 refine⟨l,h1,?_⟩
 have hok:=(List.all_eq_true.1 hts) t ht
 unfold aFl
 cases hu:P.underlying t with
 | none=>rw[hu]at hok;simp at hok
 | some ds =>
  rw[hu]at hok
  cases ds with
  | bool =>
   obtain⟨x,rfl⟩:=okWide_bool hu hv
   obtain⟨y,rfl,hy⟩:=aCy rfl h2
   exact .iv _ hy
  | int k =>
   obtain⟨x,rfl⟩:=okWide_int hu hv
   obtain⟨y,rfl,hy⟩:=aCy rfl h2
   exact .iv _ hy
  | string =>
   obtain⟨x,rfl⟩:=okWide_string hu hv
   obtain⟨y,rfl,hy⟩:=aCy rfl h2
   exact .iv _ hy
  | pointer e =>
   obtain⟨x,rfl⟩:=okWide_pointer hu hv
   obtain⟨y,rfl,hy⟩:=aCy rfl h2
   exact .iv _ hy
  | slice e =>
   obtain⟨a,n,c,rfl⟩:=okWide_slice hu hv
   obtain⟨y,rfl,hy⟩:=aCy rfl h2
   exact .iv _ hy
  | struct fs =>
   obtain⟨cs,rfl,_⟩:=okWide_struct hu hv
   have h3:IRs (eV W) l cs.toList:=h2
   exact .iv _ (.agg l cs (by have:=h3.1;simp at this;exact this.symm) fun i x v hx hv=>h3.2 i x v hx (by simpa using hv))
  | array n e =>
   obtain⟨cs,rfl⟩:∃cs,v=.agg cs:=by
    cases v<;>simp[Value.okWide,hu]at hv ⊢
   have h3:IRs (eV W) l cs.toList:=h2
   exact .iv _ (.agg l cs (by have:=h3.1;simp at this;exact this.symm) fun i x v hx hv=>h3.2 i x v hx (by simpa using hv))
  | _=>simp at hok
end Go.TM
namespace Go.TM
def Out.Ok {α:Type}(x:Out α):Prop:=x.All fun _=>True
inductive Out.Eqv {α:Type}:Out α->Out α->Prop
 | ret (a:α):Out.Eqv (.ret a) (.ret a)
 | pick (n:Nat) (k k':Nat->Out α) (h:∀i,i<n->Out.Eqv (k i) (k' i)):Out.Eqv (.pick n k) (.pick n k')
theorem Out.Eqv.refl {α:Type}:∀ {x:Out α},x.Ok->Out.Eqv x x
 | .ret a,_=>.ret a
 | .fail s,h=>by cases h
 | .pick n k,h=>.pick n k k fun i hi=>Out.Eqv.refl (h i hi)
theorem Out.Eqv.symm {α:Type}{x y:Out α}(h:Out.Eqv x y):Out.Eqv y x:=by
 induction h with
 | ret a=>exact .ret a
 | pick n k k' h ih=>exact .pick n k' k ih
theorem Out.Eqv.trans {α:Type}{x y z:Out α}(h:Out.Eqv x y):Out.Eqv y z->Out.Eqv x z:=by
 induction h generalizing z with
 | ret a=>exact id
 | pick n k k' h ih =>
  intro g
  cases g with
  | pick _ _ k2 g=>exact .pick n k k2 fun i hi=>ih i hi (g i hi)
theorem Out.Eqv.all {α:Type}{Q:α->Prop}{x y:Out α}(h:Out.Eqv x y):x.All Q->y.All Q:=by
 induction h with
 | ret a=>exact id
 | pick n k k' h ih=>exact fun q i hi=>ih i hi (q i hi)
theorem Out.Eqv.ok {α:Type}{x y:Out α}(h:Out.Eqv x y):x.Ok:=by
 induction h with
 | ret a=>exact trivial
 | pick n k k' h ih=>exact ih
theorem Out.Eqv.eq {α:Type}{a:α}{x y:Out α}(h:Out.Eqv x y)(hx:x=.ret a):y=.ret a:=by
 subst hx
 cases h
 rfl
theorem Out.Le.eqv {α:Type}{x y:Out α}(h:Out.Le x y):x.Ok->Out.Eqv x y:=by
 induction h with
 | fail s y=>intro h;cases h
 | ret a=>exact fun _=>.ret a
 | pick n k k' h ih=>exact fun q=>.pick n _ _ fun i hi=>ih i (q i hi)
theorem Out.Eqv.bind {α β:Type}{f g:α->Out β}{x y:Out α}(h:Out.Eqv x y):x.All (fun a=>Out.Eqv (f a) (g a))->Out.Eqv (x.bind f) (y.bind g):=by
 induction h with
 | ret a=>exact id
 | pick n k k' h ih=>exact fun q=>.pick n _ _ fun i hi=>ih i hi (q i hi)
def Cont {α:Type}(x:Out α)(y:Nat->Out α):Prop:=x.Ok->∃n0,∀n,n0<=n->Out.Eqv x (y n)
theorem Cont.const {α:Type}(x:Out α):Cont x fun _=>x:=fun h=>⟨0,fun _ _=>.refl h⟩
theorem Out.all_later {α:Type}{Q:Nat->α->Prop}:∀ {x:Out α},x.All (fun a=>∃n0,∀n,n0<=n->Q n a)->∃n0,∀n,n0<=n->x.All (Q n)
 | .ret a,h=>h
 | .fail s,h=>h.elim
 | .pick m k,h=>by
  have:∀j,j<=m->∃n0,∀n,n0<=n->∀i,i<j->(k i).All (Q n):=by
   intro j
   induction j with
   | zero=>exact fun _=>⟨0,fun _ _ i hi=>by omega⟩
   | succ j ih =>
    intro hj
    obtain⟨a,ha⟩:=ih (by omega)
    obtain⟨b,hb⟩:=Out.all_later (h j (by omega))
    refine⟨max a b,fun n hn i hi=>?_⟩
    rcases Nat.lt_succ_iff_lt_or_eq.1 hi with h1|h1
    ·exact ha n (by omega) i h1
    ·subst h1;exact hb n (by omega)
  obtain⟨n0,h0⟩:=this m (Nat.le_refl m)
  exact⟨n0,fun n hn i hi=>h0 n hn i hi⟩
theorem Cont.bind {α β:Type}{f:α->Out β}{g:Nat->α->Out β}{x:Out α}{y:Nat->Out α}(hx:Cont x y)(hf:∀a,Cont (f a) fun n=>g n a):Cont (x.bind f) fun n=>(y n).bind (g n):=by
 intro h
 have h1:x.All fun a=>(f a).Ok:=Out.all_bind.1 h
 obtain⟨a,ha⟩:=hx (Out.all_mono (fun _ _=>trivial) h1)
 obtain⟨b,hb⟩:=Out.all_later (Q:=fun n a=>Out.Eqv (f a) (g n a)) (Out.all_mono (fun r hr=>hf r hr) h1)
 exact⟨max a b,fun n hn=>(ha n (by omega)).bind (hb n (by omega))⟩
structure Orc.Cont (o:Orc) (o':Nat->Orc):Prop where
 call:∀f a S,TM.Cont (o.call f a S) fun n=>(o' n).call f a S
 yld:∀i a S,TM.Cont (o.yld i a S) fun n=>(o' n).yld i a S
 loop:∀b e S,TM.Cont (o.loop b e S) fun n=>(o' n).loop b e S
variable {K:bV}{o:Orc}{o':Nat->Orc}
theorem uQ (h:Orc.Cont o o')(f:Nat)(args:List TV)(S:aA):Cont (eX o f args S) fun n=>eX (o' n) f args S:=by
 unfold eX
 split
 ·exact .const _
 ·exact(h.call _ _ _).bind fun a=>.const _
theorem zU (h:Orc.Cont o o')(t:Bool)(f:Nat)(args:List TV)(S:aA):Cont (iZ o t f args S) fun n=>iZ (o' n) t f args S:=by
 unfold iZ
 split
 ·exact .const _
 ·exact(h.call _ _ _).bind fun a=>.const _
theorem aD3 (h:Orc.Cont o o')(op:TOp)(env rs:List TV)(S:aA):Cont (cN K o op env rs S) fun n=>cN K (o' n) op env rs S:=by
 unfold cN
 split
 ·refine Cont.bind (g:=fun _ r=>_) ?_ (fun a=>.const _)
  split
  ·exact uQ h _ _ _
  ·exact zU h _ _ _ _
 ·dsimp only
  split
  ·refine Cont.bind (g:=fun _ r=>_) ?_ (fun a=>.const _)
   split
   ·exact uQ h _ _ _
   ·exact zU h _ _ _ _
  ·split
   ·exact .const _
   ·exact Cont.bind (g:=fun _ r=>_) (h.yld _ _ _) (fun a=>.const _)
  ·exact .const _
 all_goals exact .const _
theorem zV (h:Orc.Cont o o')(op:aM)(i:Nat)(rs:List TV)(env:Env)(S:aA):Cont (jN K o op i rs env S) fun n=>jN K (o' n) op i rs env S:=by
 unfold jN
 split
 ·exact .const _
 ·exact .const _
 ·exact Cont.bind (g:=fun _ r=>_) (aD3 h _ _ _ _) (fun a=>.const _)
theorem zW (h:Orc.Cont o o'):∀(ops:List aM) (i:Nat) (rs:List TV) (env:Env) (S:aA),Cont (kI K o ops i rs env S) fun n=>kI K (o' n) ops i rs env S
 | [],_,_,_,_=>.const _
 | op::ops,i,rs,env,S=>by
  unfold kI
  exact Cont.bind (g:=fun n r=>kI K (o' n) ops (i+1) r.1 r.2.1 r.2.2) (zV h op i rs env S) (fun r=>zW h ops _ _ _ _)
theorem sR (h:Orc.Cont o o')(ops:List aM):∀(ps:List (Nat×List Nat×List Nat)) (rs:List TV) (env:Env) (S:aA),Cont (eJ K o ops ps rs env S) fun n=>eJ K (o' n) ops ps rs env S
 | [],_,_,_=>.const _
 | (i,chk,fl)::ps,rs,env,S=>by
  unfold eJ
  split
  ·exact .const _
  ·refine Cont.bind (g:=fun n r=>_) (zV h _ _ _ _ _) (fun r=>?_)
   split
   ·split
    ·exact sR h ops ps _ _ _
    ·exact .const _
   ·exact .const _
theorem tS (h:Orc.Cont o o'):∀(c:aQ) (env:Env) (S:aA),Cont (fD K o c env S) fun n=>fD K (o' n) c env S:=by
 intro c
 induction c with
 | skip=>exact fun _ _=>.const _
 | region ops=>exact fun env S=>Cont.bind (g:=fun n r=>_) (zW h _ _ _ _ _) (fun r=>.const _)
 | draw f0 ph ops =>
  intro env S
  simp only[fD]
  split
  ·exact .const _
  ·exact Cont.bind (g:=fun n r=>_) (sR h _ _ _ _ _) (fun r=>.const _)
 | seq a b iha ihb =>
  intro env S
  simp only[fD]
  refine Cont.bind (g:=fun n r=>_) (iha env S) (fun r=>?_)
  split
  ·exact ihb _ _
  ·exact .const _
 | cond c a b iha ihb =>
  intro env S
  simp only[fD]
  split
  ·exact iha _ _
  ·exact ihb _ _
  ·exact .const _
 | block id b ih=>exact fun env S=>Cont.bind (g:=fun n r=>_) (ih env S) (fun r=>.const _)
 | loop b ih=>exact fun env S=>h.loop _ _ _
 | rangeFunc f ps a b iha ihb =>
  intro env S
  simp only[fD]
  split
  ·exact Cont.bind (g:=fun n r=>_) (h.call _ _ _) (fun r=>.const _)
  ·exact .const _
 | exit id=>exact fun _ _=>.const _
 | ret=>exact fun _ _=>.const _
 | bad=>exact fun _ _=>.const _
theorem aD4 (h:Orc.Cont o o')(f:Nat)(args:List TV)(S:aA):Cont (eY K o f args S) fun n=>eY K (o' n) f args S:=by
 unfold eY
 split
 ·exact .const _
 ·split
  ·exact .const _
  ·exact Cont.bind (g:=fun n r=>_) (tS h _ _ _) (fun r=>.const _)
theorem aHd (h:Orc.Cont o o')(i:Nat)(args:List TV)(S:aA):Cont (iT K o i args S) fun n=>iT K (o' n) i args S:=by
 unfold iT
 split
 ·split
  ·exact .const _
  ·refine Cont.bind (g:=fun n r=>_) (tS h _ _ _) (fun r=>?_)
   split
   ·exact Cont.bind (g:=fun n r=>_) (tS h _ _ _) (fun q=>.const _)
   ·exact .const _
 ·exact .const _
open Classical in
noncomputable def limOf {α : Type} (y : Nat → Out α) : Out α := if h : ∃ n, (y n).Ok then y h.choose else .fail "no end"
theorem vN {α:Type}{y:Nat->Out α}(hy:∀n m,n<=m->Out.Le (y n) (y m)):Cont (limOf y) y:=by
 intro h
 unfold limOf at h ⊢
 split at h
 ·rename_i hn
  simp only[hn,↓reduceDIte]
  exact⟨hn.choose,fun n hm=>(hy _ _ hm).eqv h⟩
 ·cases h
theorem tT {α:Type}{y:Nat->Out α}(hy:∀n m,n<=m->Out.Le (y n) (y m)){n:Nat}(h:(y n).Ok):Out.Eqv (y n) (limOf y):=by
 have hn:∃n,(y n).Ok:=⟨n,h⟩
 unfold limOf
 simp only[hn,↓reduceDIte]
 exact((hy _ _ (Nat.le_max_left n hn.choose)).eqv h).trans ((hy _ _ (Nat.le_max_right n hn.choose)).eqv hn.choose_spec).symm
noncomputable def lim (K:bV):Orc :=
 ⟨fun f a S=>limOf fun n=>(ex K n).call f a S,fun i a S=>limOf fun n=>(ex K n).yld i a S,fun b e S=>limOf fun n=>(ex K n).loop b e S⟩
theorem xC:Orc.Cont (lim K) (ex K) :=
 ⟨fun f a S=>vN fun n m h=>(aCx h).call f a S,fun i a S=>vN fun n m h=>(aCx h).yld i a S,fun b e S=>vN fun n m h=>(aCx h).loop b e S⟩
theorem aHe {f:Nat}{a:List TV}{S:aA}(h:(eY K (lim K) f a S).Ok):Out.Eqv (eY K (lim K) f a S) ((lim K).call f a S):=by
 obtain⟨n,hn⟩:=aD4 xC f a S h
 have h1:=hn n (Nat.le_refl n)
 exact h1.trans (tT (y:=fun n=>(ex K n).call f a S) (fun n m h=>(aCx h).call f a S) (n:=n+1) h1.symm.ok)
theorem aJ1 {i:Nat}{a:List TV}{S:aA}(h:(iT K (lim K) i a S).Ok):Out.Eqv (iT K (lim K) i a S) ((lim K).yld i a S):=by
 obtain⟨n,hn⟩:=aHd xC i a S h
 have h1:=hn n (Nat.le_refl n)
 exact h1.trans (tT (y:=fun n=>(ex K n).yld i a S) (fun n m h=>(aCx h).yld i a S) (n:=n+1) h1.symm.ok)
def nZ (K:bV)(orc:Orc)(b:aQ)(env:Env)(S:aA):Out (bR×Env×aA) :=
 (fD K orc b env S).bind fun r=>match r.1 with
  | .normal=>orc.loop b r.2.1 r.2.2
  | j=>.ret (j,r.2.1,r.2.2)
theorem aD5 (h:Orc.Cont o o')(b:aQ)(env:Env)(S:aA):Cont (nZ K o b env S) fun n=>nZ K (o' n) b env S:=by
 unfold nZ
 refine Cont.bind (g:=fun n r=>_) (tS h _ _ _) (fun r=>?_)
 split
 ·exact h.loop _ _ _
 ·exact .const _
theorem aHf {b:aQ}{env:Env}{S:aA}(h:(nZ K (lim K) b env S).Ok):Out.Eqv (nZ K (lim K) b env S) ((lim K).loop b env S):=by
 obtain⟨n,hn⟩:=aD5 xC b env S h
 have h1:=hn n (Nat.le_refl n)
 exact h1.trans (tT (y:=fun n=>(ex K n).loop b env S) (fun n m h=>(aCx h).loop b env S) (n:=n+1) h1.symm.ok)
theorem Out.ok_ret {α:Type}{x:Out α}{r:α}(h:x=.ret r):x.Ok:=by rw[h];trivial
theorem Out.all_ok {α:Type}{Q:α->Prop}{x:Out α}(h:x.All Q):x.Ok:=Out.all_mono (fun _ _=>trivial) h
theorem aYn {f:Nat}{a:List TV}{S:aA}{r:TV×aA}(h:eY K (lim K) f a S=.ret r):(lim K).call f a S=.ret r:=(aHe (Out.ok_ret h)).eq h
theorem bD6 {f:Nat}{a:List TV}{S:aA}{r:TV×aA}(h:iT K (lim K) f a S=.ret r):(lim K).yld f a S=.ret r:=(aJ1 (Out.ok_ret h)).eq h
theorem aYo {b:aQ}{env:Env}{S:aA}{r:bR×Env×aA}(h:nZ K (lim K) b env S=.ret r):(lim K).loop b env S=.ret r:=(aHf (Out.ok_ret h)).eq h
theorem bD7 {f:Nat}{a:List TV}{S:aA}{Q:TV×aA->Prop}(h:((lim K).call f a S).All Q):∃n,((ex K n).call f a S).All Q:=by
 obtain⟨n,hn⟩:=xC.call f a S (Out.all_ok h)
 exact⟨n,(hn n (Nat.le_refl n)).all h⟩
theorem bIy {n f:Nat}{a:List TV}{S:aA}{r:TV×aA}(h:(ex K n).call f a S=.ret r):(lim K).call f a S=.ret r :=
 (tT (y:=fun n=>(ex K n).call f a S) (fun n m h=>(aCx h).call f a S) (n:=n) (Out.ok_ret h)).eq h
end Go.TM
namespace Go.TM
def er {α:Type}:Out α->Out α
 | .ret a=>.ret a
 | .fail _ => .fail ""
 | .pick n k=>.pick n fun i=>er (k i)
@[simp] theorem er_ret {α:Type} (a:α):er (.ret a)=.ret a:=rfl
@[simp] theorem er_fail {α : Type} (s : String) : er (.fail s : Out α) = .fail "" := rfl
theorem uR {α:Type}:∀(x:Out α),er (er x)=er x
 | .ret _=>rfl
 | .fail _=>rfl
 | .pick n k=>by simp only[er];congr;funext i;exact uR (k i)
theorem gQ {α β:Type}(f:α->Out β):∀(x:Out α),er (x.bind f)=(er x).bind fun a=>er (f a)
 | .ret _=>rfl
 | .fail _=>rfl
 | .pick n k=>by simp only[er,Out.bind];congr;funext i;exact gQ f (k i)
theorem aYp {α:Type}{x:Out α}{a:α}(h:er x=.ret a):x=.ret a:=by
 cases x<;>simp[er]at h;rw[h]
def br {α:Type}(B:Bool)(x y:Out α):Out α:=bif B then x else y
@[congr] theorem br_congr {α:Type} {B B':Bool} {x y:Out α} (h:B=B'):br B x y=br B' x y:=by rw[h]
theorem tU {α:Type}(x y:Out α):br true x y=x:=id rfl
theorem pV {α:Type}(x y:Out α):br false x y=y:=id rfl
theorem bIz {α:Type}(B:Bool)(x y:Out α):br (!B) x y=br B y x:=by cases B<;>rfl
theorem bLh {α:Type}{B:Bool}{x y z:Out α}(h:B=true->x=z)(g:B=false->y=z):br B x y=z:=by
 cases B
 ·exact g rfl
 ·exact h rfl
inductive Fr where
 | seq (b:aQ)
 | blk (id:Nat)
section
variable (K:bV)(O:Orc)
def back:List Fr->bR->Env->aA->Out (bR×Env×aA)
 | [],j,e,S=>.ret (j,e,S)
 | .seq b::fs,.normal,e,S=>(fD K O b e S).bind fun r=>back fs r.1 r.2.1 r.2.2
 | .seq _::fs,j,e,S=>back fs j e S
 | .blk id::fs,.exit i,e,S=>if i=id then back fs .normal e S else back fs (.exit i) e S
 | .blk _::fs,j,e,S=>back fs j e S
def bk (fs:List Fr)(j:bR)(e:Env)(S:aA):Out (bR×Env×aA):=er (back K O fs j e S)
def go (c:aQ)(fs:List Fr)(e:Env)(S:aA):Out (bR×Env×aA):=er ((fD K O c e S).bind fun r=>back K O fs r.1 r.2.1 r.2.2)
@[congr] theorem bk_congr (fs:List Fr) (j:bR) (e:Env) (S:aA):bk K O fs j e S=bk K O fs j e S:=rfl
@[congr] theorem go_congr (c:aQ) (fs:List Fr) (e:Env) (S:aA):go K O c fs e S=go K O c fs e S:=rfl
def reg:List (Nat×TV)->Nat->TV
 | [],_=>.hole
 | (i,v)::M,j=>if i=j then v else reg M j
def dH (M:List (Nat×TV))(n:Nat):List TV:=(List.range n).map (reg M)
theorem bD8 (j:Nat):reg [] j=.hole:=id rfl
theorem aYq (i:Nat)(v:TV)(M:List (Nat×TV))(j:Nat):reg ((i,v)::M) j=if i=j then v else reg M j:=id rfl
theorem aSe (M:List (Nat×TV))(n j:Nat):(dH M n).getD j .hole=if j<n then reg M j else .hole:=by
 simp only[dH,List.getD_eq_getElem?_getD,List.getElem?_map]
 by_cases h:j<n
 ·simp[h]
 ·simp[h]
theorem aJ2 (n:Nat):dH [] n=uG n:=by
 apply List.ext_getElem
 ·simp[dH,uG]
 ·intro i h1 h2
  simp[dH,uG,reg]
theorem eU (i:Nat)(v:TV)(M:List (Nat×TV))(n:Nat):(dH M n).set i v=dH ((i,v)::M) n:=by
 apply List.ext_getElem
 ·simp[dH]
 ·intro j h1 h2
  simp only[List.getElem_set,dH,List.getElem_map,List.getElem_range,reg]
theorem aFm {j:Nat}{v:TV}{M:List (Nat×TV)}{n:Nat}(h:(if j<n then reg M j else .hole)=v)(hv:v≠.hole):dH ((j,v)::M) n=dH M n:=by
 have hj:j<n:=by
  by_cases hj:j<n
  ·exact hj
  ·simp[hj]at h;exact absurd h.symm hv
 simp only[hj,↓reduceIte]at h
 apply List.ext_getElem
 ·simp[dH]
 ·intro i h1 h2
  simp only[dH,List.getElem_map,List.getElem_range,reg]
  split
  ·rename_i e;subst e;exact h.symm
  ·rfl
def opv (n:Nat)(env:Env)(M:List (Nat×TV))(x:aE):TV:=bH K env (dH M n) x
def aAg (j:Nat):TV->TV
 | .lb _=>.lp j 0
 | v=>v
theorem bD9 (j:Nat)(c:List TV):aAg j (.lb c)=.lp j 0:=id rfl
theorem bEa (j:Nat)(v:IV):aAg j (.iv v)=.iv v:=id rfl
theorem aYr (j a b c:Nat):aAg j (.ptr a b c)=.ptr a b c:=id rfl
theorem aYs (j a:Nat)(l:List (List IV)):aAg j (.tsl a l)=.tsl a l:=id rfl
theorem bEb (j a:Nat):aAg j (.it a)=.it a:=id rfl
theorem bEc (j f:Nat)(a b:List TV):aAg j (.fn f a b)=.fn f a b:=id rfl
theorem aYt (j a:Nat):aAg j (.yld a)=.yld a:=id rfl
theorem aYu (j:Nat)(c:List TV):aAg j (.tup c)=.tup c:=id rfl
def aYv:Option (List IV)->TV
 | some cs=>.iv (.cp cs)
 | none=>.hole
theorem aM6 (cs:List IV):aYv (some cs)=.iv (.cp cs):=id rfl
theorem aHg (n:Nat)(env:Env)(M:List (Nat×TV))(j:Nat):opv K n env M (.reg j)=if j<n then reg M j else .hole:=aSe M n j
theorem bEd (n:Nat)(env:Env)(M:List (Nat×TV))(j:Nat):opv K n env M (.loc j)=aAg j (env.getD j .hole):=by
 simp only[opv,bH]
 cases List.getD env j .hole<;>rfl
theorem bEe (n:Nat)(env:Env)(M:List (Nat×TV))(v:IV):opv K n env M (.cst v)=.iv v:=id rfl
theorem bI0 (n:Nat)(env:Env)(M:List (Nat×TV))(f:Nat):opv K n env M (.fn f)=.fn f [] []:=id rfl
theorem aYw (n:Nat)(env:Env)(M:List (Nat×TV))(g:Nat):opv K n env M (.glob g)=aYv (K.glob g):=id rfl
@[congr] theorem opv_congr (n:Nat) (env:Env) (M:List (Nat×TV)) (x:aE):opv K n env M x=opv K n env M x:=rfl
@[congr] theorem reg_congr (M:List (Nat×TV)) (x:Nat):reg M x=reg M x:=rfl
inductive Kt where
 | rg (all ops:List aM) (i:Nat)
 | fl (ops:List aM) (is:List Nat) (ph:List (Nat×List Nat×List Nat))
 | ph (ops:List aM) (chk fl:List Nat) (ps:List (Nat×List Nat×List Nat))
def aM7 (all:List aM)(i:Nat)(rs:List TV)(fs:List Fr)(env:Env)(S:aA):Out (bR×Env×aA) :=
 match fJ all i rs env with
 | some env=>back K O fs .normal env S
 | none => .fail "local"
def wbk (ops:List aM)(i:Nat)(M:List (Nat×TV))(n:Nat)(fs:List Fr)(env:Env)(S:aA):Out (bR×Env×aA):=er (aM7 K O ops i (dH M n) fs env S)
def rgR (all ops:List aM)(i:Nat)(M:List (Nat×TV))(n:Nat)(fs:List Fr)(env:Env)(S:aA):Out (bR×Env×aA) :=
 er ((kI K O ops i (dH M n) env S).bind fun r=>aM7 K O all 0 r.1 fs r.2.1 r.2.2)
def aM8 (ops:List aM)(ps:List (Nat×List Nat×List Nat))(rs:List TV)(fs:List Fr)(env:Env)(S:aA):Out (bR×Env×aA) :=
 (eJ K O ops ps rs env S).bind fun r=>aM7 K O ops 0 r.1 fs r.2.1 r.2.2
def phs (ops:List aM)(ps:List (Nat×List Nat×List Nat))(M:List (Nat×TV))(n:Nat)(fs:List Fr)(env:Env)(S:aA):Out (bR×Env×aA):=er (aM8 K O ops ps (dH M n) fs env S)
def yJ (ops:List aM)(is:List Nat)(ps:List (Nat×List Nat×List Nat))(rs:List TV)(fs:List Fr)(env:Env)(S:aA):Out (bR×Env×aA) :=
 match eI K ops is rs env S with
 | none => .fail ""
 | some q=>aM8 K O ops ps q.1 fs env q.2
def fls (ops:List aM)(is:List Nat)(ps:List (Nat×List Nat×List Nat))(M:List (Nat×TV))(n:Nat)(fs:List Fr)(env:Env)(S:aA):Out (bR×Env×aA):=er (yJ K O ops is ps (dH M n) fs env S)
def chk (c:Bool)(ops:List aM)(is:List Nat)(ps:List (Nat×List Nat×List Nat))(M:List (Nat×TV))(n:Nat)(fs:List Fr)(env:Env)(S:aA):Out (bR×Env×aA) :=
 if c then fls K O ops is ps M n fs env S else .fail ""
def cont (k:Kt)(M:List (Nat×TV))(n:Nat)(fs:List Fr)(env:Env)(S:aA):Out (bR×Env×aA) :=
 match k with
 | .rg all ops i=>rgR K O all ops (i+1) M n fs env S
 | .fl ops is ph=>fls K O ops is ph M n fs env S
 | .ph ops c fl ps=>chk K O (nC K ops (dH M n) env S c) ops fl ps M n fs env S
def op1 (o:TOp)(i:Nat)(k:Kt)(M:List (Nat×TV))(n:Nat)(fs:List Fr)(env:Env)(S:aA):Out (bR×Env×aA) :=
 er ((cN K O o env (dH M n) S).bind fun r=>cont K O k ((i,r.1)::M) n fs r.2.1 r.2.2)
def opG (g:TV)(want:Bool)(j:Nat)(o:TOp)(i:Nat)(k:Kt)(M:List (Nat×TV))(n:Nat)(fs:List Fr)(env:Env)(S:aA):Out (bR×Env×aA) :=
 match g with
 | .iv (.bool b)=>br (b==want) (op1 K O o i k ((j,.iv (.bool want))::M) n fs env S) (cont K O k ((i,undef)::(j,.iv (.bool (!want)))::M) n fs env S)
 | .tup []=>cont K O k ((i,undef)::M) n fs env S
 | _ => .fail ""
def opV (v:Option TV)(i:Nat)(k:Kt)(M:List (Nat×TV))(n:Nat)(fs:List Fr)(env:Env)(S:aA):Out (bR×Env×aA) :=
 match v with
 | some v=>cont K O k ((i,v)::M) n fs env S
 | none => .fail ""
def opA (v:Option (TV×aP))(i:Nat)(k:Kt)(M:List (Nat×TV))(n:Nat)(fs:List Fr)(env:Env)(S:aA):Out (bR×Env×aA) :=
 match v with
 | some v=>cont K O k ((i,v.1)::M) n fs env (S++[v.2])
 | none => .fail ""
def opS (v:Option (TV×aA))(i:Nat)(k:Kt)(M:List (Nat×TV))(n:Nat)(fs:List Fr)(env:Env):Out (bR×Env×aA) :=
 match v with
 | some v=>cont K O k ((i,v.1)::M) n fs env v.2
 | none => .fail ""
def opE (v:Option (TV×Env×aA))(i:Nat)(k:Kt)(M:List (Nat×TV))(n:Nat)(fs:List Fr):Out (bR×Env×aA) :=
 match v with
 | some v=>cont K O k ((i,v.1)::M) n fs v.2.1 v.2.2
 | none => .fail ""
def opC (x:Out (TV×aA))(i:Nat)(k:Kt)(M:List (Nat×TV))(n:Nat)(fs:List Fr)(env:Env):Out (bR×Env×aA) :=
 x.bind fun v=>cont K O k ((i,v.1)::M) n fs env v.2
def opP (c a b:TV)(i:Nat)(k:Kt)(M:List (Nat×TV))(n:Nat)(fs:List Fr)(env:Env)(S:aA):Out (bR×Env×aA) :=
 match c with
 | .iv (.bool t)=>br t (cont K O k ((i,a)::M) n fs env S) (cont K O k ((i,b)::M) n fs env S)
 | _ => .fail ""
section
variable (ops:List aM)(is:List Nat)(ps:List (Nat×List Nat×List Nat))(i:Nat)(k:Kt)(M:List (Nat×TV))(n:Nat)(fs:List Fr)(env:Env)(S:aA)
@[congr] theorem wbk_congr {i i':Nat} {env env':Env} (h:i=i') (h2:env=env'):wbk K O ops i M n fs env S=wbk K O ops i' M n fs env' S:=by rw[h,h2]
@[congr] theorem rgR_congr (all:List aM) {i i':Nat} (h:i=i'):rgR K O all ops i M n fs env S=rgR K O all ops i' M n fs env S:=by rw[h]
@[congr] theorem phs_congr:phs K O ops ps M n fs env S=phs K O ops ps M n fs env S:=rfl
@[congr] theorem fls_congr:fls K O ops is ps M n fs env S=fls K O ops is ps M n fs env S:=rfl
@[congr] theorem chk_congr {c c':Bool} (h:c=c'):chk K O c ops is ps M n fs env S=chk K O c' ops is ps M n fs env S:=by rw[h]
@[congr] theorem cont_congr:cont K O k M n fs env S=cont K O k M n fs env S:=rfl
@[congr] theorem op1_congr (o:TOp):op1 K O o i k M n fs env S=op1 K O o i k M n fs env S:=rfl
@[congr] theorem opG_congr {g g':TV} (h:g=g') (want:Bool) (j:Nat) (o:TOp):opG K O g want j o i k M n fs env S=opG K O g' want j o i k M n fs env S:=by rw[h]
@[congr] theorem opV_congr {v v':Option TV} (h:v=v'):opV K O v i k M n fs env S=opV K O v' i k M n fs env S:=by rw[h]
@[congr] theorem opA_congr {v v':Option (TV×aP)} (h:v=v'):opA K O v i k M n fs env S=opA K O v' i k M n fs env S:=by rw[h]
@[congr] theorem opS_congr {v v':Option (TV×aA)} (h:v=v'):opS K O v i k M n fs env=opS K O v' i k M n fs env:=by rw[h]
@[congr] theorem opE_congr {v v':Option (TV×Env×aA)} (h:v=v'):opE K O v i k M n fs=opE K O v' i k M n fs:=by rw[h]
@[congr] theorem opC_congr {v v':Out (TV×aA)} (h:v=v'):opC K O v i k M n fs env=opC K O v' i k M n fs env:=by rw[h]
@[congr] theorem opP_congr {c c' a a' b b':TV} (h:c=c') (ha:a=a') (hb:b=b'):opP K O c a b i k M n fs env S=opP K O c' a' b' i k M n fs env S:=by rw[h,ha,hb]
theorem aYx (v:TV):opV K O (some v) i k M n fs env S=cont K O k ((i,v)::M) n fs env S:=id rfl
theorem aYy (v:TV)(b:aP):opA K O (some (v,b)) i k M n fs env S=opS K O (some (v,S++[b])) i k M n fs env:=id rfl
theorem aYz (v:TV):opS K O (some (v,S)) i k M n fs env=cont K O k ((i,v)::M) n fs env S:=id rfl
theorem aY0 (v:TV):opE K O (some (v,env,S)) i k M n fs=cont K O k ((i,v)::M) n fs env S:=id rfl
theorem bEf (v:TV):opC K O (.ret (v,S)) i k M n fs env=cont K O k ((i,v)::M) n fs env S:=id rfl
theorem aY1 (t:Bool)(a b:TV):opP K O (.iv (.bool t)) a b i k M n fs env S=br t (cont K O k ((i,a)::M) n fs env S) (cont K O k ((i,b)::M) n fs env S):=id rfl
theorem aY2 (b want:Bool)(j:Nat)(o:TOp):opG K O (.iv (.bool b)) want j o i k M n fs env S=br (b==want) (op1 K O o i k ((j,.iv (.bool want))::M) n fs env S) (cont K O k ((i,undef)::(j,.iv (.bool (!want)))::M) n fs env S):=id rfl
theorem aSf (want:Bool)(j:Nat)(o:TOp):opG K O (.tup []) want j o i k M n fs env S=cont K O k ((i,undef)::M) n fs env S:=id rfl
theorem aY3:chk K O true ops is ps M n fs env S=fls K O ops is ps M n fs env S:=id rfl
theorem bI1 (j:bR):bk K O [] j env S=.ret (j,env,S):=id rfl
theorem bI2 (b:aQ):bk K O (.seq b::fs) .normal env S=go K O b fs env S:=id rfl
theorem aM9 (b:aQ):bk K O (.seq b::fs) .ret env S=bk K O fs .ret env S:=id rfl
theorem aJ3 (b:aQ)(id:Nat):bk K O (.seq b::fs) (.exit id) env S=bk K O fs (.exit id) env S:=by simp only[bk,back]
theorem bI3 (id:Nat):bk K O (.blk id::fs) .normal env S=bk K O fs .normal env S:=by simp only[bk,back]
theorem aNa (id:Nat):bk K O (.blk id::fs) .ret env S=bk K O fs .ret env S:=by simp only[bk,back]
theorem aJ4 (id id':Nat):bk K O (.blk id::fs) (.exit id') env S=if id'=id then bk K O fs .normal env S else bk K O fs (.exit id') env S:=by
 simp only[bk,back];split<;>rfl
theorem go_skip:go K O .skip fs env S=bk K O fs .normal env S:=by simp only[bk,go];rfl
theorem go_ret:go K O .ret fs env S=bk K O fs .ret env S:=by simp only[bk,go];rfl
theorem go_exit (id:Nat):go K O (.exit id) fs env S=bk K O fs (.exit id) env S:=by simp only[bk,go];rfl
theorem Out.bind_assoc {α β γ:Type}(f:α->Out β)(g:β->Out γ):∀(x:Out α),(x.bind f).bind g=x.bind fun a=>(f a).bind g
 | .ret _=>rfl
 | .fail _=>rfl
 | .pick n k=>by simp only[Out.bind];congr;funext i;exact Out.bind_assoc f g (k i)
theorem Out.bind_congr {α β:Type}{f g:α->Out β}{x:Out α}(h:∀a,f a=g a):x.bind f=x.bind g:=by
 rw[funext h]
theorem go_seq (a b:aQ):go K O (.seq a b) fs env S=go K O a (.seq b::fs) env S:=by
 simp only[go,fD,Out.bind_assoc]
 congr 1
 refine Out.bind_congr fun r=>?_
 obtain⟨j,e,S'⟩:=r
 cases j<;>rfl
theorem go_block (id:Nat)(b:aQ):go K O (.block id b) fs env S=go K O b (.blk id::fs) env S:=by
 simp only[go,fD,Out.bind_assoc]
 congr 1
 refine Out.bind_congr fun r=>?_
 obtain⟨j,e,S'⟩:=r
 cases j with
 | exit i=>simp only[back];split<;>rfl
 | _=>rfl
def goC (c:TV)(a b:aQ)(fs:List Fr)(env:Env)(S:aA):Out (bR×Env×aA) :=
 match c with
 | .iv (.bool t)=>br t (go K O a fs env S) (go K O b fs env S)
 | _ => .fail ""
@[congr] theorem goC_congr {c c':TV} (h:c=c') (a b:aQ):goC K O c a b fs env S=goC K O c' a b fs env S:=by rw[h]
theorem aY4 (t:Bool)(a b:aQ):goC K O (.iv (.bool t)) a b fs env S=br t (go K O a fs env S) (go K O b fs env S):=id rfl
theorem go_cond (c:aE)(a b:aQ):go K O (.cond c a b) fs env S=goC K O (opv K 0 env [] c) a b fs env S:=by
 simp only[go,fD,goC,opv,dH,List.range_zero,List.map_nil]
 cases bH K env [] c with
 | iv v =>
  cases v with
  | bool t=>cases t<;>rfl
  | _=>rfl
 | _=>rfl
def lp (b:aQ)(env:Env)(S:aA):Out (bR×Env×aA):=O.loop b env S
@[congr] theorem lp_congr (b:aQ):lp O b env S=lp O b env S:=rfl
def goL (x:Out (bR×Env×aA))(fs:List Fr):Out (bR×Env×aA):=er (x.bind fun r=>back K O fs r.1 r.2.1 r.2.2)
@[congr] theorem goL_congr {x x':Out (bR×Env×aA)} (h:x=x'):goL K O x fs=goL K O x' fs:=by rw[h]
theorem bEg (j:bR):goL K O (.ret (j,env,S)) fs=bk K O fs j env S:=id rfl
theorem go_loop (b:aQ):go K O (.loop b) fs env S=goL K O (lp O b env S) fs:=id rfl
def rgN (n:Nat)(ops:List aM)(fs:List Fr)(env:Env)(S:aA):Out (bR×Env×aA):=rgR K O ops ops 0 [] n fs env S
@[congr] theorem rgN_congr {n n':Nat} (h:n=n'):rgN K O n ops fs env S=rgN K O n' ops fs env S:=by rw[h]
def aAh:List aM->Nat->Nat
 | [],n=>n
 | _::l,n=>aAh l (n+1)
theorem aHh:∀(l:List aM) (n:Nat),aAh l n=l.length+n
 | [],n=>by simp[aAh]
 | _::l,n=>by rw[aAh,aHh l];simp;omega
theorem aY5:rgN K O n ops fs env S=rgR K O ops ops 0 [] n fs env S:=id rfl
theorem go_region0:go K O (.region ops) fs env S=rgR K O ops ops 0 [] ops.length fs env S:=by
 simp only[go,fD,rgR,Out.bind_assoc,aJ2]
 congr 1
 refine Out.bind_congr fun r=>?_
 simp only[aM7]
 cases fJ ops 0 r.1 r.2.1<;>rfl
theorem go_draw0 (f0:List Nat):go K O (.draw f0 ps ops) fs env S=fls K O ops f0 ps [] ops.length fs env S:=by
 simp only[go,fD,fls,yJ,aJ2]
 cases eI K ops f0 (uG ops.length) env S with
 | none=>rfl
 | some q =>
  simp only[aM8,Out.bind_assoc]
  congr 1
  refine Out.bind_congr fun r=>?_
  simp only[aM7]
  cases fJ ops 0 r.1 r.2.1<;>rfl
theorem bEh (all:List aM):cont K O (.rg all ops i) M n fs env S=rgR K O all ops (i+1) M n fs env S:=id rfl
theorem aQw:cont K O (.fl ops is ps) M n fs env S=fls K O ops is ps M n fs env S:=id rfl
theorem bEi (all:List aM):rgR K O all [] i M n fs env S=wbk K O all 0 M n fs env S:=id rfl
theorem aY6 (all:List aM)(o:TOp)(l:Option Nat):rgR K O all (⟨o,l,none⟩::ops) i M n fs env S=op1 K O o i (.rg all ops i) M n fs env S:=by
 simp only[rgR,op1,cont,kI,jN,dS,Out.bind_assoc,Out.bind,eU]
 rw[gQ,gQ]
 refine Out.bind_congr fun r=>?_
 rw[uR]
theorem aQx (all:List aM)(o:TOp)(l:Option Nat)(j:Nat)(want:Bool){k:Kt}{X:List TV->Env->aA->Out (bR×Env×aA)}(hX:∀M env S,er (X (dH M n) env S)=cont K O k M n fs env S)(rs:List TV)(hrs:rs=dH M n):
  er ((jN K O ⟨o,l,some (j,want)⟩ i rs env S).bind fun r=>X r.1 r.2.1 r.2.2)=opG K O (opv K n env M (.reg j)) want j o i k M n fs env S:=by
 subst hrs
 have hv:opv K n env M (.reg j)=(dH M n).getD j .hole:=rfl
 simp only[jN,dS]
 rw[<-hv]
 have key:∀b:Bool,opv K n env M (.reg j)=.iv (.bool b)->dH ((j,.iv (.bool b))::M) n=dH M n:=by
  intro b hb
  refine aFm ?_ (by simp)
  rw[<-aHg K n env M j];exact hb
 cases hg:opv K n env M (.reg j)with
 | iv v =>
  cases v with
  | bool b =>
   have hk:=key b hg
   by_cases hw:b=want
   ·subst hw
    have:(b==b)=true:=by cases b<;>rfl
    simp only[opG,this,tU,op1,Out.bind_assoc,Out.bind,hk]
    rw[gQ,gQ]
    refine Out.bind_congr fun r=>?_
    rw[eU,hX]
    have e:cont K O k ((i,r.1)::M) n fs r.2.1 r.2.2=cont K O k ((i,r.1)::(j,.iv (.bool b))::M) n fs r.2.1 r.2.2:=by
     rw[<-hX,<-hX,<-eU,<-eU,hk]
    rw[e,<-hX,uR]
   ·have hb:b=!want:=by cases b<;>cases want<;>simp at hw ⊢
    subst hb
    have:((!want)==want)=false:=by cases want<;>rfl
    simp only[opG,this,pV,Out.bind]
    rw[eU,hX,<-hX,<-hX,<-eU,<-eU,hk]
  | _=>rfl
 | tup vs =>
  cases vs with
  | nil=>simp only[opG,Out.bind];rw[eU,hX]
  | cons a b=>rfl
 | _=>rfl
theorem aSg (all:List aM)(o:TOp)(l:Option Nat)(j:Nat)(want:Bool):rgR K O all (⟨o,l,some (j,want)⟩::ops) i M n fs env S=opG K O (opv K n env M (.reg j)) want j o i (.rg all ops i) M n fs env S:=by
 rw[<-aQx K O i M n fs env S all o l j want (X:=fun rs env S=>(kI K O ops (i+1) rs env S).bind fun r=>aM7 K O all 0 r.1 fs r.2.1 r.2.2) (fun M env S=>rfl) _ rfl]
 simp only[rgR,kI,Out.bind_assoc]
def floats (o:TOp):Bool:=cL o==0||cL o==1||cL o==2||cL o==4||cL o==6
theorem aY7 (o:TOp)(h:floats o=true)(rs:List TV):cN K O o env rs S=Out.ofOpt (rV o) (match iJ K o env rs S with
  | some v=>some (v,env,S)
  | none=>match bZ o (bH K env rs) S.length with
   | some (v,b)=>some (v,env,S++[b])
   | none=>none):=by
 have hk:cL o≠5:=by intro e;simp[floats,e]at h
 rw[mH K O env rs S o hk]
 congr 1
 have s:iI o (bH K env rs) rs env S=none:=by
  cases o<;>first|rfl|(simp[cL,floats]at h;done)
 simp only[iY,s]
 cases iJ K o env rs S with
 | some v=>rfl
 | none =>
  cases bZ o (bH K env rs) S.length with
  | some q=>rfl
  | none=>rfl
theorem aCz (o:TOp)(h:floats o=true)(l:Option Nat){X:List TV->aA->Out (bR×Env×aA)}{k:Kt}(hX:∀M S,er (X (dH M n) S)=cont K O k M n fs env S):
  er (match iJ K o env (dH M n) S with
   | some v=>X ((dH M n).set i v) S
   | none=>match bZ o (bH K env (dH M n)) S.length with
    | some (v,b)=>X ((dH M n).set i v) (S++[b])
    | none => .fail "") = op1 K O o i k M n fs env S := by
 simp only[op1,aY7 K O env S o h]
 cases iJ K o env (dH M n) S with
 | some v=>simp only[Out.ofOpt,Out.bind,eU,hX];rw[<-hX,uR]
 | none =>
  cases bZ o (bH K env (dH M n)) S.length with
  | some q=>obtain⟨v,b⟩:=q;simp only[Out.ofOpt,Out.bind,eU,hX];rw[<-hX,uR]
  | none=>rfl
def yK (l:List aM)(i:Nat):Option aM:=l[i]?
theorem aSh (o:aM)(l:List aM):yK (o::l) 0=some o:=id rfl
theorem aSi (o:aM)(l:List aM)(i:Nat):yK (o::l) (i+1)=yK l i:=by simp[yK]
def flB (c:Bool)(x y:Out (bR×Env×aA)):Out (bR×Env×aA):=bif c then x else y
@[congr] theorem flB_congr {c c':Bool} (h:c=c') (x y:Out (bR×Env×aA)):flB c x y=flB c' x y:=by rw[h]
theorem aC0 (x y:Out (bR×Env×aA)):flB true x y=x:=id rfl
def flO (o:Option aM)(i:Nat)(ops:List aM)(is:List Nat)(ps:List (Nat×List Nat×List Nat))(M:List (Nat×TV))(n:Nat)(fs:List Fr)(env:Env)(S:aA):Out (bR×Env×aA) :=
 match o with
 | some ⟨o,_,none⟩=>flB (floats o) (op1 K O o i (.fl ops is ps) M n fs env S) (fls K O ops (i::is) ps M n fs env S)
 | some ⟨o,_,some (j,want)⟩=>flB (floats o) (opG K O (opv K n env M (.reg j)) want j o i (.fl ops is ps) M n fs env S) (fls K O ops (i::is) ps M n fs env S)
 | none=>fls K O ops (i::is) ps M n fs env S
@[congr] theorem flO_congr {o o':Option aM} (h:o=o'):flO K O o i ops is ps M n fs env S=flO K O o' i ops is ps M n fs env S:=by rw[h]
theorem aJ5 (o:TOp)(l:Option Nat):flO K O (some ⟨o,l,none⟩) i ops is ps M n fs env S=flB (floats o) (op1 K O o i (.fl ops is ps) M n fs env S) (fls K O ops (i::is) ps M n fs env S):=id rfl
theorem aFn (o:TOp)(l:Option Nat)(j:Nat)(want:Bool):flO K O (some ⟨o,l,some (j,want)⟩) i ops is ps M n fs env S=flB (floats o) (opG K O (opv K n env M (.reg j)) want j o i (.fl ops is ps) M n fs env S) (fls K O ops (i::is) ps M n fs env S):=id rfl
theorem bEj:fls K O ops [] ps M n fs env S=phs K O ops ps M n fs env S:=id rfl
theorem aAi (rs:List TV)(o:TOp)(l:Option Nat)(ho:ops[i]? = some ⟨o, l, none⟩):yJ K O ops (i::is) ps rs fs env S=match iJ K o env rs S with
      | some v=>yJ K O ops is ps (rs.set i v) fs env S
      | none=>match bZ o (bH K env rs) S.length with
        | some (v,b)=>yJ K O ops is ps (rs.set i v) fs env (S++[b])
        | none => .fail "" := by
  simp only[yJ,eI,ho,dS]
  cases iJ K o env rs S with
  | some v=>rfl
  | none =>
    cases bZ o (bH K env rs) S.length with
    | some q=>rfl
    | none=>rfl
theorem aC1 (M:List (Nat×TV)):(dH M n).set i undef=dH ((i,undef)::M) n:=eU i undef M n
theorem aY8:fls K O ops (i::is) ps M n fs env S=flO K O (yK ops i) i ops is ps M n fs env S:=by
 unfold yK
 cases ho:ops[i]? with
 | none=>rfl
 | some x =>
  obtain⟨o,l,g⟩:=x
  cases h:floats o with
  | false=>cases g<;>simp only[flO,flB,h,cond_false]
  | true =>
  cases g with
  | none =>
   rw[aJ5 K O ops is ps i M n fs env S o l,h,aC0]
   rw[<-aCz K O i M n fs env S o h l (X:=fun rs S=>yJ K O ops is ps rs fs env S) (fun M S=>rfl)]
   simp only[fls]
   rw[aAi K O ops is ps i fs env S _ o l ho]
  | some q =>
   obtain⟨j,want⟩:=q
   rw[aFn K O ops is ps i M n fs env S o l j want,h,aC0]
   have hv:opv K n env M (.reg j)=(dH M n).getD j .hole:=rfl
   have key:∀b:Bool,opv K n env M (.reg j)=.iv (.bool b)->dH ((j,.iv (.bool b))::M) n=dH M n:=by
    intro b hb
    refine aFm ?_ (by simp)
    rw[<-aHg K n env M j];exact hb
   simp only[fls,yJ,eI,ho,dS]
   rw[<-hv]
   cases hg:opv K n env M (.reg j)with
   | iv v =>
    cases v with
    | bool b =>
     have hk:=key b hg
     by_cases hw:b=want
     ·subst hw
      have e:(b==b)=true:=by cases b<;>rfl
      simp only[opG,e,tU]
      rw[<-aCz K O i ((j,.iv (.bool b))::M) n fs env S o h l (X:=fun rs S=>yJ K O ops is ps rs fs env S) (fun M S=>rfl)]
      simp only[hk]
      cases iJ K o env (dH M n) S with
      | some v=>rfl
      | none =>
       cases bZ o (bH K env (dH M n)) S.length with
       | some q=>rfl
       | none=>rfl
     ·have hb:b=!want:=by cases b<;>cases want<;>simp at hw ⊢
      subst hb
      have e:((!want)==want)=false:=by cases want<;>rfl
      simp only[opG,e,pV]
      show er (yJ K O ops is ps ((dH M n).set i undef) fs env S)=_
      rw[aC1,aQw,fls,<-eU,<-eU,hk]
    | _=>rfl
   | tup vs =>
    cases vs with
    | nil =>
     show er (yJ K O ops is ps ((dH M n).set i undef) fs env S)=_
     rw[aC1];rfl
    | cons a b=>rfl
   | _=>rfl
theorem bEk:phs K O ops [] M n fs env S=wbk K O ops 0 M n fs env S:=id rfl
def phO (o:Option aM)(i:Nat)(ops:List aM)(c fl:List Nat)(ps:List (Nat×List Nat×List Nat))(M:List (Nat×TV))(n:Nat)(fs:List Fr)(env:Env)(S:aA):Out (bR×Env×aA) :=
 match o with
 | some ⟨o,_,none⟩=>op1 K O o i (.ph ops c fl ps) M n fs env S
 | some ⟨o,_,some (j,want)⟩=>opG K O (opv K n env M (.reg j)) want j o i (.ph ops c fl ps) M n fs env S
 | none => .fail ""
@[congr] theorem phO_congr {o o':Option aM} (h:o=o') (c fl:List Nat):phO K O o i ops c fl ps M n fs env S=phO K O o' i ops c fl ps M n fs env S:=by rw[h]
theorem aJ6 (c fl:List Nat)(o:TOp)(l:Option Nat):phO K O (some ⟨o,l,none⟩) i ops c fl ps M n fs env S=op1 K O o i (.ph ops c fl ps) M n fs env S:=id rfl
theorem aFo (c fl:List Nat)(o:TOp)(l:Option Nat)(j:Nat)(want:Bool):phO K O (some ⟨o,l,some (j,want)⟩) i ops c fl ps M n fs env S=opG K O (opv K n env M (.reg j)) want j o i (.ph ops c fl ps) M n fs env S:=id rfl
def phX (c fl:List Nat)(rs:List TV)(env:Env)(S:aA):Out (bR×Env×aA) :=
 if nC K ops rs env S c then yJ K O ops fl ps rs fs env S else .fail ""
theorem aNb (c fl:List Nat)(M:List (Nat×TV))(env:Env)(S:aA):er (phX K O ops ps fs c fl (dH M n) env S)=cont K O (.ph ops c fl ps) M n fs env S:=by
 simp only[phX,cont,chk,fls]
 split<;>rfl
theorem aSj (c fl:List Nat)(rs:List TV)(o:aM)(ho:ops[i]? = some o):er (aM8 K O ops ((i,c,fl)::ps) rs fs env S)=er ((jN K O o i rs env S).bind fun r=>phX K O ops ps fs c fl r.1 r.2.1 r.2.2):=by
 simp only[aM8,eJ,ho,Out.bind_assoc]
 rw[gQ,gQ]
 refine Out.bind_congr fun r=>?_
 simp only[phX,yJ,aM8]
 split
 ·cases eI K ops fl r.1 r.2.1 r.2.2<;>rfl
 ·rfl
theorem aY9 (c fl:List Nat):phs K O ops ((i,c,fl)::ps) M n fs env S=phO K O (yK ops i) i ops c fl ps M n fs env S:=by
 unfold yK
 cases ho:ops[i]? with
 | none=>simp only[phs,aM8,eJ,ho];rfl
 | some x =>
  obtain⟨o,l,g⟩:=x
  simp only[phs]
  rw[aSj K O ops ps i fs env S c fl _ _ ho]
  cases g with
  | none =>
   rw[aJ6]
   simp only[op1,jN,dS,Out.bind_assoc,Out.bind,eU]
   rw[gQ,gQ]
   refine Out.bind_congr fun r=>?_
   rw[aNb,<-aNb,uR]
  | some q =>
   obtain⟨j,want⟩:=q
   rw[aFo]
   exact aQx K O i M n fs env S [] o l j want (X:=fun rs env S=>phX K O ops ps fs c fl rs env S) (fun M env S=>aNb K O ops ps n fs c fl M env S) _ rfl
theorem bEl:wbk K O [] i M n fs env S=bk K O fs .normal env S:=id rfl
theorem aZa (o:TOp)(g:Option (Nat×Bool)):wbk K O (⟨o,none,g⟩::ops) i M n fs env S=wbk K O ops (i+1) M n fs env S:=id rfl
def wbV (v:TV)(j:Nat)(ops:List aM)(i:Nat)(M:List (Nat×TV))(n:Nat)(fs:List Fr)(env:Env)(S:aA):Out (bR×Env×aA) :=
 if eE v then .fail "" else wbk K O ops (i + 1) M n fs (env.set j v) S
@[congr] theorem wbV_congr {v v':TV} (h:v=v') (j:Nat):wbV K O v j ops i M n fs env S=wbV K O v' j ops i M n fs env S:=by rw[h]
theorem aZb (o:TOp)(j:Nat)(g:Option (Nat×Bool)):wbk K O (⟨o,some j,g⟩::ops) i M n fs env S=wbV K O (opv K n env M (.reg i)) j ops i M n fs env S:=by
 have e:opv K n env M (.reg i)=(dH M n).getD i .hole:=rfl
 rw[e]
 simp only[wbk,aM7,fJ,wbV]
 split
 ·rename_i h
  split at h
  ·cases h
  ·rename_i e hl
   simp only[hl,Bool.false_eq_true,↓reduceIte,h]
 ·rename_i h
  split at h
  ·rename_i hl;simp only[hl,↓reduceIte,er]
  ·rename_i e hl
   simp only[hl,Bool.false_eq_true,↓reduceIte,h]
theorem mO {v:TV}(h:eE v=false)(j:Nat):wbV K O v j ops i M n fs env S=wbk K O ops (i+1) M n fs (env.set j v) S:=by
 simp only[wbV,h,Bool.false_eq_true,↓reduceIte]
theorem bI4 (v:IV)(j:Nat):wbV K O (.iv v) j ops i M n fs env S=wbk K O ops (i+1) M n fs (env.set j (.iv v)) S:=mO K O ops i M n fs env S (id rfl) j
theorem bEm (a b c:Nat)(j:Nat):wbV K O (.ptr a b c) j ops i M n fs env S=wbk K O ops (i+1) M n fs (env.set j (.ptr a b c)) S:=mO K O ops i M n fs env S (id rfl) j
theorem bL1 (a b c d e f:Nat)(j:Nat):wbV K O (.msl a b c d e f) j ops i M n fs env S=wbk K O ops (i+1) M n fs (env.set j (.msl a b c d e f)) S:=mO K O ops i M n fs env S (id rfl) j
theorem bEn (a:Nat)(l:List (List IV))(j:Nat):wbV K O (.tsl a l) j ops i M n fs env S=wbk K O ops (i+1) M n fs (env.set j (.tsl a l)) S:=mO K O ops i M n fs env S (id rfl) j
theorem bL2 (a:Nat)(j:Nat):wbV K O (.map a) j ops i M n fs env S=wbk K O ops (i+1) M n fs (env.set j (.map a)) S:=mO K O ops i M n fs env S (id rfl) j
theorem bI5 (a:Nat)(j:Nat):wbV K O (.it a) j ops i M n fs env S=wbk K O ops (i+1) M n fs (env.set j (.it a)) S:=mO K O ops i M n fs env S (id rfl) j
theorem bI6 (f:Nat)(a b:List TV)(j:Nat):wbV K O (.fn f a b) j ops i M n fs env S=wbk K O ops (i+1) M n fs (env.set j (.fn f a b)) S:=mO K O ops i M n fs env S (id rfl) j
theorem bL3 (a:Nat)(j:Nat):wbV K O (.yld a) j ops i M n fs env S=wbk K O ops (i+1) M n fs (env.set j (.yld a)) S:=mO K O ops i M n fs env S (id rfl) j
theorem bL4 (c:List TV)(j:Nat):wbV K O (.agg c) j ops i M n fs env S=wbk K O ops (i+1) M n fs (env.set j (.agg c)) S:=mO K O ops i M n fs env S (id rfl) j
theorem bEo (c:List TV)(j:Nat):wbV K O (.tup c) j ops i M n fs env S=wbk K O ops (i+1) M n fs (env.set j (.tup c)) S:=mO K O ops i M n fs env S (id rfl) j
theorem bLi  (j:Nat):wbV K O (.hole) j ops i M n fs env S=wbk K O ops (i+1) M n fs (env.set j (.hole)) S:=mO K O ops i M n fs env S (id rfl) j
theorem bL5 (a:Nat)(l:List (List IV))(b:Nat)(j:Nat):wbV K O (.rsv a l b) j ops i M n fs env S=wbk K O ops (i+1) M n fs (env.set j (.rsv a l b)) S:=mO K O ops i M n fs env S (id rfl) j
end
end
end Go.TM
