/- A part of the evaluator TM, and of the proof that what it computes the model does. Condition: none. -/
import Derived.Test.YtehlgnfhkidgoaaGreatDoorTmC
import Derived.Laws.Sem
import Derived.RangeFuncLeaves
import Derived.OpenShut
import Derived.LaidLaws
import Derived.LaidSub
import Derived.ProofKit
import Derived.Carry
import Derived.OpenVars
import Derived.MakeChecks
set_option linter.unusedVariables false
set_option linter.unusedSimpArgs false
namespace Go.TM
open Go
section
variable {P:Program}{O:dH}{K:TM.bD}{A:Ann}
variable {M:Mem}{J:aF}{L:List (Option Nat)}{S S':aA}{env env':Env}{w:World}
theorem LbR.stepN{n:Nat}{M':Mem}{J':aF}{w':World}(h:LbR M J L env w)(t:TrN n (fun _=>False) M J S w M' J' S' w'):LbR M' J' L env w':=by refine⟨h.len,fun j cs d=>?_,h.inj⟩;obtain⟨cb,c,b⟩:=h.box j cs d;have a:=b.lt;exact⟨cb,c,b.step (t.frame cb a b.1 (fun h=>h)) t.mle (fun o=>t.mnew cb o a b.1) t.jle (t.has a b.1)⟩
theorem MS.stepN{n:Nat}{M':Mem}{J':aF}{w':World}(h:MS P O K M J L S env w)(b:WR P O M' J' S' w')(t:TrN n (fun _=>False) M J S w M' J' S' w'):MS P O K M' J' L S' env w' :=
 ⟨b,h.lb.stepN t,fun g cs a=>(h.gl g cs a).mono t.mle⟩
def bU7(P:Program)(O:dH)(K:TM.bD)(A:Ann)(nt n0 fm:Nat)(bef:List Nat)(ops:List Oper)(tops:List aK)(X:Nat->Prop)(run:Nat)(M:Mem)(J:aF)(L:List (Option Nat))(S:aA)(env:Env)(w:World)(rs:List TV)(a:Act)(y:Nat)
  (next:Act->World->Prop):Prop :=
 ∀(al':List (Nat×Nat)) (M':Mem) (J':aF) (w':World) (a':Act),DS P O K A nt n0 fm bef ops tops (fun k=>X k\/k=y) run al' M' J' L S env w' rs a'->a'.defers=a.defers->TrN n0 (cS L) M J S w M' J' S w'->next a' w'
theorem DS.ready{l q F:Nat}{d:Tc_}{ops:List Oper}{tops:List aK}(i:yL P O A l d ops tops){X:Tm_}{f:Nat}{z:List (Nat×Nat)}{rs:Tn_}{a:Act}(h:DS P O K A l q F d ops tops X f z M J L S env w rs a){y:Nat}(v:¬X y) (m:∀j,B d y j->X j) {to:aK} (c:tops[y]?=some to):(∀tx∈aQ to.op,bFn A ops X tx)/\∀g b,to.guard=some (g,b)->X g/\∃n t,ops[g]?=some n/\n.dst=some t:=by
 refine⟨fun tx e=>?_,fun g b D=>?_⟩
 .cases tx with
  |reg r=>exact m r ((i.opd y to c _ e).1 r rfl)
  |loc j =>intro k o x E t C p;exact v (h.xc k x y ((i.opd y to c _ e).2 j rfl k o t E C p))
  |_=>trivial
 .obtain⟨u,s⟩:=i.gd y to c g b D;exact⟨m g u,s⟩
theorem DS.run_wp{nt n0 fm:Nat}{T:Tc_}{ops:List Oper}{tops:List aK}(N:yL P O A nt T ops tops){F:Fence}(hF:cZ F)(nn:Nat){X:Tm_}{H:Nat}{al:List (Nat×Nat)}{rs:Tn_}{a:Act} (h:DS P O K A nt n0 fm T ops tops X H al M J L S env w rs a) {y:Nat} (hy:H.testBit y=true) (hX:¬X y) (hr:∀j,B T y j->X j) {next:Act->World->Prop} (hk:bU7 P O K A nt n0 fm T ops tops X H M J L S env w rs a y next) {Z:Exit->Act->World->Prop}:wpOpIn F nn P ops.toArray Z y next a w:=by
 have ge:=h.rn y hy;have E:ops[y]?=some ops[y]:=D_ ge;obtain⟨to,C,D⟩:=N.ca y ops[y] E;obtain⟨hn,g8⟩:=h.ready N hX hr C;have I:=aEu (N.nl y to C);have V:∀g want,ops[y].guard=some (g,want)->X g/\∃og t,ops[g]?=some og/\og.dst=some t:=by rw[<-D.guard];exact g8
 have h5:=fun(_:aP to.op=none) (hl:to.loc=none) (j t:Nat) (hd:ops[y].dst=some t)=>aEr N.hs D I hl j t hd;have ho:∀ {env':Env} {v:TV},∀j,aP to.op=some j->rs.any (qA j)=false/\v=.lp j 0/\(∃d,ops[y].dst=some d/\A.slots[j]?=some d)/\(∃cs,env'=env.set j (.lb cs))/\j<env.length:=fun j hj=>by rw[I]at hj;simp at hj
 have h4:∀i,(X i\/i=y)->H.testBit i=true:=fun i E=>E.elim (h.sub i) (fun e=>e▸hy);have he:∀i,(X i\/i=y)->∀j,B T i j->(X j\/j=y):=fun i E j hj=>E.elim (fun E=>.inl (h.xc i E j hj)) (fun e=>.inl (hr j (e▸hj)));have g2:∀i,H.testBit i=true->fm.testBit i=true\/(X i\/i=y):=fun i E=>(h.fx i E).imp id .inl;have hv:∀ {w':World},MS P O K M J L S env w'->aKj A ((ops.take y).map (·.dst)) M J L (aX K env rs) a to.op:=fun ms x tx hm hx=>aRh ms h.rr hx (hn tx hm);have o:to.op≠.bad->bY P O A ((ops.take y).map (·.dst)) (ops[y].dst.bind fun t=>eE t A.slots 0) ops[y].op to.op:=fun hb=>D.op.resolve_left hb;unfold wpOpIn;simp only[K8,E];by_cases hal:∃i,(y,i)∈al
 .obtain⟨i,h8⟩:=hal;obtain⟨_,_,g5,vf,b,c,hg,h6,G,gb,g9⟩:=h.al1 y i h8;rw[C]at c;simp at c;subst c;have hw:=kV h.rr N.hd (by rw[<-D.guard];exact hg) V;rw[hw];simp only[N8];have o:=o (by intro e;have:=G 0;rw[e]at this;simp[bO]at this);obtain⟨_,gc,h7,ob,vm,l,u⟩:=aVw o a h.ms (hv h.ms) (G i);have ga:vf i=gc i:=by have:=h7 i;rw[G i]at this;simpa using this
  have W:qD J S l b i (J.set i (some l)) S:=.real i gb g9;have g7:n0<=i:=h.al3 _ h8;obtain⟨g6,g3⟩:=h.ms.wr.place ob l b W u.cb (u.blk _ W.jle) (n:=n0) (.inr g7);unfold Oper.wpIn;refine⟨fun f _=>hF.fn f,?_⟩;rw[Oper.semAt_eq _ _ _ o.notDefer,u.run,Oper.uponIn_value];have m:=h.ms.stepN g6 g3;have U:VR M (J.set i (some l)) L (rs.getD y .hole) vm:=by rw[h6,ga];exact u.val L _ i (W.at h.ms.wr.len)
  have g1:=h.rr.mono (.refl M) W.jle;have h9:=g1.step N.hd N.hs E C hX (.refl (cS L) M (J.set i (some l)) S (w.alloc ob)) (env':=env) (L':=L) (by rw[I];exact⟨rfl,.refl _⟩) U ⟨rfl,rfl,fun k _=>rfl⟩ ho h5;refine hk (al.filter fun p=>decide (p.1≠y)) M (J.set i (some l)) (w.alloc ob) _ ⟨h9,m,h4,h.cl,he,fun z hz R=>?_,fun z k Y=>?_,fun p q W hq=>?_,h.rn,fun p W=>?_,by simpa using h.nj,g2⟩ oE (g3.weaken (fun _ hh=>hh.elim))
  .rw[H2]at R;rcases h.pend z hz R.1 with h'|⟨k,gd⟩;.exact .inl h'
   .exact .inr ⟨k,D1.2 ⟨gd,by simpa using R.2⟩⟩
  .obtain⟨h1,h2⟩:=D1.1 Y;have ht:z≠y:=by simpa using h2
   obtain⟨e1,e2,t2,ha,b2,f1,f2,f3,f4,f5,f6⟩:=h.al1 z k h1;have gf:k≠i:=by rintro rfl;have:=h.al2 (z,k) (y,k) h1 h8 (.inr rfl);simp at this;exact ht this
   exact⟨e1,fun hh=>hh.elim e2 ht,t2,ha,b2,f1,f2,f3,f4,by rw[B3 A_];exact f5,f6⟩
  .exact h.al2 p q (D1.1 W).1 (D1.1 hq).1
  .exact h.al3 p (D1.1 W).1
 .have g4:=(h.pend y hy hX).resolve_right hal;obtain⟨g5,c,hc⟩:=g4;rw[C]at c;simp at c;subst c;have h0:∀(M':Mem) (J':aF) (w':World) (v':Value),VR M' J' L (rs.getD y .hole) v'->MS P O K M' J' L S env w'->Tr (cS L) M J S w M' J' S w'->next (a.put ops[y].dst v') w':=by intro M' J' w' v' U m tr;have h9:=h.rr.step N.hd N.hs E C hX tr (env':=env) (L':=L) (by rw[I];exact⟨rfl,.refl _⟩) U ⟨rfl,rfl,fun k _=>rfl⟩ ho h5;refine hk al M' J' w' _ ⟨h9,m,h4,h.cl,he,fun z hz R=>h.pend z hz (fun hh=>R (.inl hh)),fun z k Y=>?_,h.al2,h.rn,h.al3,C0 h.nj tr.jle.1,g2⟩ oE (tr.trN n0);obtain⟨e1,e2,t2,ha,b2,f1,f2,f3,f4,f5,f6⟩:=h.al1 z k Y;exact⟨e1,fun hh=>hh.elim e2 (fun e=>hal ⟨k,e▸Y⟩),t2,ha,b2,f1,f2,f3,f4,(tr.ph k f5).1,f6⟩
  rcases hc with⟨hg,h6⟩|⟨hg,s⟩;.have hw:=kV h.rr N.hd (by rw[<-D.guard];exact hg) V;rw[hw];simp only[b_,J3];exact⟨fun f _=>hF.fn f,h0 M J w _ (by rw[h6];exact nR) h.ms (.refl _ _ _ _ _)⟩
  .have hw:=kV h.rr N.hd (by rw[<-D.guard];exact hg) V;rw[hw];simp only[N8];have o:=o (by intro e;rw[e]at s;simp[iU,aV,aO]at s);have hu:=(bFh o a h.ms (hv h.ms) (v:=rs.getD y .hole) (by
    unfold iU at s;split at s;.rename_i v W;simp at s;subst s;exact .inl W
    .exact .inr s)).2
   refine tL hF nn o.notDefer hu (Q:=fun r=>r.1=rs.getD y .hole/\r.2.1=env/\r.2.2=S) ⟨rfl,rfl,rfl⟩ ?_;rintro v env2 S2 M' J' L2 w' v' ⟨rfl,rfl,rfl⟩ U m tr el;rw[I]at el;obtain⟨rfl,_⟩:=el;exact h0 M' J' w' v' U m tr
theorem aBb{tops:List aK}{rs:Tn_}{env:Env}{S:aA}:∀ {chk:Tc_},nH K tops rs env S chk=true->∀y∈chk,∀to,tops[y]?=some to->dV to.guard rs=some true->iU K to.op env rs S=some (rs.getD y .hole)
 |[],_,y,c=>by simp at c
 |i::is,h,y,c=>by
  simp only[nH,P_]at h;intro to b d;rcases J_.1 c with rfl|c
  .have a:=h.1;rw[b]at a;simp only[d]at a;split at a;.rename_i v hv;rw[hv,bMu a]
   .simp at a
  .exact aBb h.2 y c to b d
theorem DS.effect{N n0 V:Nat}{g:Tc_}{ops:List Oper}{tops:List aK}(G:yL P O A N g ops tops){X:Tm_}{l:Nat}{al:List (Nat×Nat)}{rs:Tn_}{a:Act}(h:DS P O K A N n0 V g ops tops X l al M J L S env w rs a) {e:Nat} (he:l.testBit e=false) (C:e<ops.length) (H:∀j,B g e j->X j) {to:aK} (U:tops[e]?=some to) {v:TV} {M':Mem} {J':aF} {L':Tk_} {w':World} {a':Act} (Z:RR A N ops tops (fun k=>X k\/k=e) M' J' L' env' (rs.set e v) a') (W:MS P O K M' J' L' S' env' w') (tr:Tr (cS L) M J S w M' J' S' w') (el:EL w (aP to.op) env env' L L') {chk:Tc_} (s:nH K tops (rs.set e v) env' S' chk=true) (D:∀y,V.testBit y=true->B g e y\/y∈chk\/∀ty,tops[y]?=some ty->xS ty.op=false):DS P O K A N n0 V g ops tops (fun k=>X k\/k=e) (l ||| 2 ^ e) al M' J' L' S' env' w' (rs.set e v) a':=by
 have x:e<rs.length:=by rw[h.rr.rl];exact C
 obtain⟨k1,k2,I⟩:=jB x v;have Y:=aEu (G.nl e to U);rw[Y]at el;have q:∀j,eP env' j=eP env j:=fun j=>aEo el.2 j;have p:∀(y:Nat),l.testBit y=true->∀r,B g y r->(rs.set e v).getD r .hole=rs.getD r .hole:=fun y c r H=>I r (fun ee=>by have:=h.cl y c r H;rw[ee,he]at this;simp at this);have o:∀y,l.testBit y=true->y≠e:=fun y c ee=>by rw[ee,he]at c;simp at c
 refine⟨Z,W,fun i f=>eH.2 (f.imp (h.sub i) id),fun i f j z=>?_,fun i f j z=>?_,fun y c F=>?_,fun y k Q=>?_,h.al2,fun i f=>?_,h.al3,C0 h.nj tr.jle.1,fun y c=>?_⟩
 .rcases eH.1 f with f|rfl;.exact eH.2 (.inl (h.cl i f j z))
  .exact eH.2 (.inl (h.sub j (H j z)))
 .rcases f with f|rfl;.exact .inl (h.xc i f j z)
  .exact .inl (H j z)
 .rw[H2]at F;have c:=(eH.1 c).resolve_right F.2;rcases h.pend y c F.1 with⟨ty,n,R⟩|h'
  .left;refine⟨ty,n,?_⟩;have t:=rL G n (p y c);rw[t,I y (o y c)];rcases R with R|⟨hg,d⟩;.exact .inl R
   .refine .inr ⟨hg,?_⟩;have T:=tS (K:=K) G n q (p y c);unfold iU at d;cases hpu:aV ty.op (aX K env rs)with
    |some v2 =>rw[hpu]at d;unfold iU;rw[<-yK T,hpu];exact d
    |none =>
     rw[hpu]at d;simp only at d;have E:xS ty.op=true:=by
      cases hb:xS ty.op with
      |true=>rfl
      |false=>rw[aNi hb]at d;simp at d
     rcases D y ((h.fx y c).resolve_right F.1)with h1|h1|h1;.exact absurd (H y h1) F.1
     .have:=aBb s y h1 ty n (by rw[t];exact hg);rw[I y (o y c)]at this;exact this
     .rw[h1 ty n]at E;simp at E
  .exact .inr h'
 .obtain⟨u,e2,ty,vf,b,f1,f2,f3,f4,f5,f6⟩:=h.al1 y k Q;obtain⟨p1,p2⟩:=tr.ph k f5;refine⟨eH.2 (.inl u),fun hh=>hh.elim e2 (o y u),ty,vf,b,f1,?_,?_,fun m=>?_,p1,by rw[p2];exact f6⟩;.rw[rL G f1 (p y u)];exact f2
  .rw[I y (o y u)];exact f3
  .rw[<-pG m (tS G f1 q (p y u))];exact f4 m
 .rcases eH.1 f with f|rfl;.exact h.rn i f
  .exact C
 .rcases eH.1 c with c|rfl;.exact(h.fx y c).imp id .inl
  .exact .inr (.inr rfl)
theorem DS.fm{g e f fm':Nat}{c:Tc_}{ops:List Oper}{tops:List aK}{X:Tm_}{b:Nat}{d:List (Nat×Nat)}{rs:Tn_}{a:Act}(h:DS P O K A g e f c ops tops X b d M J L S env w rs a)(j:∀y,f.testBit y=true->fm'.testBit y=true): DS P O K A g e fm' c ops tops X b d M J L S env w rs a :=
 ⟨h.rr,h.ms,h.sub,h.cl,h.xc,h.pend,h.al1,h.al2,h.rn,h.al3,h.nj,fun y i=>(h.fx y i).imp (j y) id⟩
theorem DS.congr{g e f:Nat}{c:Tc_}{ops:List Oper}{tops:List aK}{X X':Tm_}{b:Nat}{d:List (Nat×Nat)}{rs:Tn_}{a:Act}(h:DS P O K A g e f c ops tops X b d M J L S env w rs a)(i:∀k,X k↔X' k): DS P O K A g e f c ops tops X' b d M J L S env w rs a:=by have:X=X':=funext fun k=>propext (i k);exact this▸h
theorem aEv{y:Nat}:∀(a:Tc_) (m:Nat),(a.foldl (fun m i=>m ||| 2 ^ i) m).testBit y=true↔m.testBit y=true\/y∈a
 |[],m=>B_
 |i::a,m=>by simp only[List.foldl_cons];rw[aEv a,eH];simp only[J_];rw[Z7]
theorem tT{d:Tc_}{y:Nat}:∀ {c:Tc_} {b a:Nat},lI d c b=some a->(a.testBit y=true↔b.testBit y=true\/y∈c)
 |[],b,a,h=>by simp[lI]at h;subst h;simp
 |i::c,b,a,h=>by obtain⟨_,_,h3⟩:=mO h;rw[tT h3,eH];simp only[J_];rw[Z7]
theorem kW{tops:List aK}{env:Env}:∀ {b:Tc_} {rs:Tn_} {S:aA} {q:List TV×aA},eC K tops b rs env S=some q->∀i∈b,i<tops.length
 |[],_,_,_,_,i,a=>by simp at a
 |k::b,rs,S,q,h,i,a=>by
  simp only[eC]at h;split at h;.simp at h
  .rename_i o ho;have c:k<tops.length:=(E_.1 ho).1;rcases J_.1 a with rfl|a;.exact c
   .split at h;.simp at h
    .exact kW h i a
    .split at h;.exact kW h i a
     .split at h;.exact kW h i a
      .simp at h
theorem mA{a:Tc_}{tops:List aK}{e:Nat}{chk d:Tc_}{ps:Tl_}{c:Option Nat}{f k g:Nat}(h:iV a tops ((e,chk,d)::ps) c f k=some g): (∀l,c=some l->B a e l)/\(∀y,y<tops.length->k.testBit y=true->B a e y\/y∈chk\/∀ty,tops[y]?=some ty->xS ty.op=false)/\(∀i∈d,B a i e) /\∃b,lI a (e::d) f=some b/\iV a tops ps (some e) b (k ||| d.foldl (fun m i=>m ||| 2 ^ i) 0)=some g:=by
 have key:∀ {c0:Bool},(c0=true->∀l,c=some l->B a e l) ->
   (if(c0&&(List.range tops.length).all (fun i=>!(k.testBit i)||(a.getD e 0).testBit i||chk.contains i||!(match tops[i]? with|some o=>xS o.op|none=>true))&&d.all (fun i=>(a.getD i 0).testBit e))=true then
    match lI a (e::d) f with
    |some b=>iV a tops ps (some e) b (k ||| d.foldl (fun m i=>m ||| 2 ^ i) 0)
    |none=>none
   else none)=some g->(∀l,c=some l->B a e l)/\(∀y,y<tops.length->k.testBit y=true->B a e y\/y∈chk\/∀ty,tops[y]?=some ty->xS ty.op=false)/\(∀i∈d,B a i e) /\
   ∃b,lI a (e::d) f=some b/\iV a tops ps (some e) b (k ||| d.foldl (fun m i=>m ||| 2 ^ i) 0)=some g:=by
  intro c0 s h
  split at h
  .rename_i n
   simp only[P_,C6]at n
   obtain⟨⟨v,t⟩,h3⟩:=n
   refine⟨s v,fun y u q=>?_,fun i w=>h3 i w,?_⟩
   .have:=t y (C5.2 u)
    simp only[D3,D7]at this
    rcases this with((j|j)|j)|j
    .rw[q]at j;simp at j
    .exact .inl j
    .exact .inr (.inl (by simpa using j))
    .refine .inr (.inr fun ty r=>?_)
     rw[r]at j;exact j
   .split at h
    .rename_i b hrun
     exact⟨b,hrun,h⟩
    .simp at h
  .simp at h
 cases c with
 |none=>exact key (c0:=true) (fun _ l p=>by simp at p) h
 |some l0=>exact key (c0:=(a.getD e 0).testBit l0) (fun n l p=>by simp at p;subst p;exact n) h
theorem aBc{k:Tc_}{tops:List aK}{X:Tm_}(r:∀i,X i->∀j,B k i j->X j){y:Nat}(m:∀j,B k y j->X j):∀ {ps:Tl_} {e:Nat} {chk n:Tc_} {c:Option Nat} {f o g:Nat},iV k tops ((e,chk,n)::ps) c f o=some g->g.testBit y=true->f.testBit y=false->y=e\/X e
 |ps,e,chk,n,c,f,o,g,h,hall,hrun=>by
  obtain⟨_,_,h3,d,q,l⟩:=mA h;obtain⟨_,_,v⟩:=mO q;by_cases hye:y=e;.exact .inl hye
  .by_cases hyf:y∈n;.exact .inr (m e (h3 y hyf))
   .have a:d.testBit y=false:=by
     cases hb:d.testBit y with
     |false=>rfl
     |true =>
      rcases(tT q).1 hb with b|b;.rw[hrun]at b;simp at b
      .rcases J_.1 b with b|b;.exact absurd b hye
       .exact absurd b hyf
    cases ps with
    |nil =>simp only[iV,R_]at l;rw[l,hall]at a;simp at a
    |cons p ps =>
     obtain⟨e2,t,u⟩:=p;have s:=(mA l).1 e rfl;rcases aBc r m l hall a with b|b;.subst b;exact .inr (m e s)
     .exact .inr (r e2 b e s)
theorem zX{a:Tc_}:∀ {os:List Oper} {i:Nat},aDx a i os=true->∀ {k:Nat} {o:Oper},os[k]?=some o->(∀e∈o.after.toList,Region.binds .any e=true->e.on<i+k) /\(∀j,B a (i+k) j->∃e∈o.after.toList,Region.binds .any e=true/\(e.on=j\/B a e.on j))
 |[],i,_,k,o,hk=>by simp at hk
 |o0::os,i,h,k,o,hk=>by
  simp only[aDx,P_]at h;obtain⟨⟨⟨l,g⟩,h3⟩,q⟩:=h;cases k with
  |zero =>
   simp at hk;subst hk;rw[Nat.add_zero];simp only[C6]at l g;refine⟨fun e m p=>?_,fun j b=>?_⟩;.have:=l e m;rw[p]at this;simpa using this
   .have c:j<i:=by
     rcases D2 j i with f|d;.exact f
     .have n:a.getD i 0<2 ^ j:=E9 (by simpa using h3) (O4 A_ d);unfold B at b;rw[P7 n]at b;simp at b
    have:=g j (C5.2 c);unfold B at b;rw[b]at this;simp only[E7,G7,E8,P_,D3,F5]at this;exact this
  |succ k =>simp at hk;have:=zX q hk;rw[show i+1+k=i+(k+1) by omega]at this;exact this
theorem uY{b:Tc_}{e:Tk_}{ops:List Oper}:∀ {os:List aK} {i:Nat},aMt b e ops i os=true->∀ {k:Nat} {to:aK},os[k]?=some to ->(∀tx∈aQ to.op,bEx b e (i+k) tx=true)/\isL to.op=false/\∀g a,to.guard=some (g,a)->B b (i+k) g/\∃c t,ops[g]?=some c/\c.dst=some t
 |[],i,_,k,to,hk=>by simp at hk
 |o0::os,i,h,k,to,hk=>by
  simp only[aMt,P_]at h;obtain⟨⟨⟨m,l⟩,h3⟩,n⟩:=h;cases k with
  |zero =>
   simp at hk;subst hk;rw[Nat.add_zero];refine⟨fun tx o=>(C6.1 m) tx o,by simpa using l,fun g a j=>?_⟩;rw[j]at h3;simp only[P_]at h3;refine⟨h3.1,?_⟩;have d:=h3.2;split at d;.rename_i c hog;obtain⟨t,f⟩:=O9.1 d;exact⟨c,t,hog,f⟩
   .simp at d
  |succ k =>simp at hk;have:=uY n hk;rw[show i+1+k=i+(k+1) by omega]at this;exact this
theorem bFo{m id:Nat}(q:fD A m){ops:List Oper}(x:tN m ops){c:Tc_}(h:aMt c (ops.map fun o=>o.dst.bind fun t=>eE t A.slots 0) ops 0 (dF P O A id true ops 0 [])=true): yL P O A m c ops (dF P O A id true ops 0 []):=by
 refine⟨q,x,fun k o d=>?_,eQ,fun k to a tx n=>?_,fun k to a=>(uY h a).2.1,fun k to a g b w=>?_⟩;.obtain⟨to,e,f⟩:=mN (P:=P) (O:=O) (A:=A) (id:=id) (draw:=true) (i:=0) (dsts:=[]) d;exact⟨to,e,by simpa using f⟩
 .have:=(uY h a).1 tx n;rw[A7]at this;refine⟨fun r u=>by subst u;exact this,fun j s p o t d v l=>?_⟩;subst s;simp only[bEx,C6]at this;have e:=this p (C5.2 (by simpa using(E_.1 d).1));have f:(ops.map fun o=>o.dst.bind fun t=>eE t A.slots 0).getD p none=some j:=by simp[List.getD,d,v,aCk q l]
  rw[f]at e;simpa[B] using e
 .have:=(uY h a).2.2 g b w;rwa [A7]at this
def X(listed:Array Bool)(i:Nat):Prop:=listed.getD i false=true
theorem bFp{a:Array Bool}{y:Nat}(b:y<a.size)(k:Nat):X (a.setIfInBounds y true) k↔(X a k\/k=y):=by
 unfold X;rw[B2,B2];by_cases h:k=y;.subst h;rw[H1 b];simp
 .rw[J6 (B0 h)];simp[h]
theorem aHx{ops:List Oper}{a:Array Bool}{y:Nat}(h:y∈Region.ready .any ops.toArray a):y<ops.length/\a.getD y true=false/\∀o,ops[y]?=some o->∀e∈o.after.toList,Region.binds .any e=true->X a e.on:=by unfold Region.ready at h;simp only[D1,C5,P_,D7]at h;obtain⟨b,d,h3⟩:=h;refine⟨by simpa using b,d,fun o f e c g=>?_⟩;simp only[K8,f,Option.map_some,Option.getD_some]at h3;rw[<-V9]at h3;have:=(C6.1 h3) e c;rw[g]at this;simpa[X] using this
theorem aYk{ops:List Oper}{a:Array Bool}(h:a.size=ops.length){y:Nat}(f:y<ops.length)(c:¬X a y)(g:∀o,ops[y]?=some o->∀e∈o.after.toList,Region.binds .any e=true->X a e.on):y∈Region.ready .any ops.toArray a:=by
 unfold Region.ready;simp only[D1,C5,P_,D7];refine⟨by simpa using f,?_,?_⟩;.have i:y<a.size:=A_;unfold X at c;rw[B2,A8 i]at c |-;simpa using c
 .have d:ops[y]?=some ops[y]:=D_ f;simp only[K8,d,Option.map_some,Option.getD_some];rw[<-V9,C6];intro e b;cases hb:Region.binds .any e with
  |false=>rfl
  |true =>have:=g _ d e b hb;simpa[X] using this
theorem aYl{ops:List Oper}{d:Tc_}(b:aDx d 0 ops=true){a:Array Bool}(c:a.size=ops.length)(h:Region.ready .any ops.toArray a=[]):∀y,y<ops.length->X a y:=by
 intro y;induction y using Nat.strongRecOn with
 |_ y ih =>
  intro k;by_cases hX:X a y;.exact hX
  .have:=aYk c k hX (fun o i e g j=>by have f:=(zX b i).1 e g j;rw[A7]at f;exact ih e.on f A_);rw[h]at this;simp at this
theorem aKr{ops:List Oper}{f:Tc_}(k:aDx f 0 ops=true){Y:Tm_}(p:∀i,Y i->∀o,ops[i]?=some o->∀e∈o.after.toList,Region.binds .any e=true->Y e.on)(h:∀i,Y i->i<ops.length): ∀(y:Nat) (o:Oper),ops[y]?=some o->(∀e∈o.after.toList,Region.binds .any e=true->Y e.on)->∀j,B f y j->Y j:=by
 intro y;induction y using Nat.strongRecOn with
 |_ y ih =>
  intro o r m j n;have l:=zX k r;rw[A7]at l;obtain⟨e,c,d,a⟩:=l.2 j n;rcases a with a|a;.rw[<-a];exact m e c d
  .have g:=m e c d;have b:=h _ g;exact ih e.on (l.1 e c d) _ (D_ b) (fun e' s q=>p e.on g _ (D_ b) e' s q) j a
theorem aNl{n:Nat}{b:Tc_}{ops:List Oper}{tops:List aK}(D:yL P O A n b ops tops){r:Orc}{M0:Mem}{J0:aF}{L0:Tk_}{S0:aA}{m:World}{v:Act}{Qf:List TV×Env×aA->Prop}{next:Act->World->Prop} (f:aV0 P O K A n ops tops M0 J0 L0 S0 m v Qf next) {Y:Tm_} {d x l:Nat} {E:List (Nat×Nat)} {rs:Tn_} {a:Act} {ps:Tl_} {c:Option Nat} (h:DS P O K A n J0.length x b ops tops Y d E M J L S env w rs a) (s:iV b tops ps c d x=some l) (g:(eD K r tops ps rs env S).All Qf) (G:TrN J0.length (cS L0) M0 J0 S0 m M J S w) (F:OG L0 L m w) (j:a.defers=v.defers) (u:∀y,y<ops.length->Y y):next a w:=by
 cases ps with
 |nil=>exact f rs env S M J L w a g (h.rr.congr (fun k=>⟨fun q=>h.rn k (h.sub k q),fun q=>u k q⟩)) j h.ms G.tr F
 |cons p ps =>
  obtain⟨e,chk,H⟩:=p;obtain⟨_,_,_,z,C,_⟩:=mA s;obtain⟨t,_,_⟩:=mO C;simp only[eD]at g;split at g;.exact g.elim
  .rename_i o ho;have i:e<ops.length:=by rw[<-D.tl];exact(E_.1 ho).1
   rw[h.sub e (u e i)]at t;simp at t
theorem bFq{ht:Orc}(ha:oF P O K ht){F:Fence}(hF:cZ F)(nn:Nat){nt:Nat}{H:Tc_}{ops:List Oper}{tops:List aK}(I:yL P O A nt H ops tops)(hh:aDx H 0 ops=true){Z:Exit->Act->World->Prop} {M0:Mem} {J0:aF} {L0:Tk_} {S0:aA} {w0:World} {a0:Act} {Qf:List TV×Env×aA->Prop} (h4:aV0 P O K A nt ops tops M0 J0 L0 S0 w0 a0 Qf (Z .normal)) {hk:Nat} (V:∀y,y<ops.length->hk.testBit y=true): ∀(f:Nat) (c:Array Bool) (ps:Tl_) (n:Option Nat) (t fm:Nat) (al:List (Nat×Nat)) (M:Mem) (J:aF) (L:Tk_) (S:aA) (env:Env) (w:World) (rs:Tn_) (a:Act),c.size=ops.length ->c.toList.count false<=f->(∀i,X c i->∀o,ops[i]?=some o->∀e∈o.after.toList,Region.binds .any e=true->X c e.on)->DS P O K A nt J0.length fm H ops tops (X c) t al M J L S env w rs a ->iV H tops ps n t fm=some hk->(eD K ht tops ps rs env S).All Qf->TrN J0.length (cS L0) M0 J0 S0 w0 M J S w->OG L0 L w0 w->a.defers=a0.defers->wpAnyIn F nn P .any ops.toArray Z f c a w:=by
 intro f;induction f with
 |zero =>
  intro c ps n t fm al M J L S env w rs a h7 h9 h5 h g Q tr og E;have R:∀y,y<ops.length->X c y:=by
   intro y hy;have h0:c.toList.count false=0:=A_;rw[List.count_eq_zero]at h0;unfold X;have hl:y<c.size:=A_;rw[B2,A8 hl];cases hb:c[y]with
   |true=>rfl
   |false=>exact absurd (by rw[<-hb];exact X9.2 (Array.getElem_mem hl)) h0
  refine⟨?_,aNl I h4 h g Q tr og E R⟩;cases Y:Region.ready .any ops.toArray c with
  |nil=>rfl
  |cons y r =>obtain⟨W,h2,_⟩:=aHx (y:=y) (by rw[Y];simp);have:=R y W;unfold X at this;have hl:y<c.size:=A_;rw[B2,A8 hl]at this h2;simp at this h2;rw[h2]at this;simp at this
 |succ f ih =>
  intro c ps n t fm al M J L S env w rs a h7 h9 h5 h g Q tr og E;refine⟨fun Y=>aNl I h4 h g Q tr og E (aYl hh h7 Y),fun y hy=>?_⟩;obtain⟨l,G,hp⟩:=aHx hy;have d:y<c.size:=A_;have h6:¬X c y:=by unfold X;rw[B2,A8 d]at G |-;simp at G |-;exact G
  have Y:∀j,B H y j->X c j:=aKr hh h5 (fun i N=>h.rn i (h.sub i N)) y ops[y] (D_ l) (hp _ (D_ l));have T:(c.setIfInBounds y true).size=ops.length:=by simpa using h7
  have D:(c.setIfInBounds y true).toList.count false<=f:=by
   rw[Array.toList_setIfInBounds,List.count_set (by simpa using d)];have:c.toList[y]'(by simpa using d)=false:=by rw[B2,A8 d]at G;simpa using G
   rw[this];have W:0<c.toList.count false:=List.count_pos_iff.2 (by rw[<-this];exact B8 _);show c.toList.count false-1+0<=f;omega
  have U:∀i,X (c.setIfInBounds y true) i->∀o,ops[i]?=some o->∀e∈o.after.toList,Region.binds .any e=true->X (c.setIfInBounds y true) e.on:=by
   intro i N o ho e he hb;rw[bFp d]at N |-;rcases N with N|rfl;.exact .inl (h5 i N o ho e he hb)
   .exact .inl (hp o ho e he hb)
  cases hrun:t.testBit y with
  |true =>refine h.run_wp I hF nn hrun h6 Y ?_;intro g5 M' J' w' a' h' C u;exact ih _ ps n t fm g5 M' J' L S env w' rs a' T D U (h'.congr (fun k=>(bFp d k).symm)) g Q (tr.trans u og.weak) (og.trans (.refl _ _ _) tr.size u.size) (C.trans E)
  |false =>
   cases ps with
   |nil =>simp only[iV,R_]at g;rw[g,V y l]at hrun;simp at hrun
   |cons p ps =>
    obtain⟨e,chk,fl⟩:=p;obtain⟨_,hm,g9,hj,g4,g7⟩:=mA g;obtain⟨h8,_,g2⟩:=mO g4;have hu:y=e:=by
     rcases aBc h.xc Y g (V y l) hrun with W|W;.exact W
     .rw[h.sub e W]at h8;simp at h8
    subst hu;simp only[eD]at Q;split at Q;.exact Q.elim
    rename_i to hto;obtain⟨ga,s,hn⟩:=I.ca y ops[y] (D_ l);rw[hto]at s;have s:=D6 s;subst s;rw[Out.all_bind]at Q;obtain⟨hg,g3⟩:=h.ready I h6 Y hto;refine aHt ha hF nn I.hd I.hs (D_ l) hto hn h.rr h.ms (fun x tx hx _=>hg tx hx) (by rw[<-hn.guard];exact g3) h6 Q ?_;intro v env' S' M' J' L' w' a' hQ g6 C hc u g1 el;simp only at hQ;split at hQ
    .rename_i hchk;split at hQ
     .rename_i q hfl;have W:=h.effect I h8 l Y hto g6 hc u el hchk (fun z hz=>by
       by_cases hzl:z<tops.length;.exact hm z hzl hz
       .exact .inr (.inr fun ty g8=>absurd (E_.1 g8).1 hzl))
      have h2:=W.fm (fm':=fm ||| fl.foldl (fun m i=>m ||| 2 ^ i) 0) (fun z hz=>by rw[O5,hz];rfl);obtain⟨hv,J2,h3,hw⟩:=h2.floats (own:=fun _=>False) I (fun i N=>⟨by rw[<-I.tl];exact kW hfl i N,by rw[O5,(aEv fl 0).2 (.inr N),L9]⟩) g2 hfl;exact ih _ ps (some y) hj _ hv M' J2 L' q.2 env' w' q.1 a' T D U (h3.congr (fun k=>(bFp d k).symm)) g7 hQ ((tr.trans (u.trN _) og.weak).trans hw (fun b hb=>hb.elim)) (og.trans g1 tr.size u.size) (C.trans E)
     .exact hQ.elim
    .exact hQ.elim
theorem bMw{l:Orc}(ha:oF P O K l){F:Fence}(hF:cZ F)(n:Nat){base g id:Nat}(hs:fD A g){ops:Array Oper}(hd:zQ g ops.toList=true){c:bEw}
  (D:aQ1 A c ops.toList (dF P O A id true ops.toList 0 [])=true)
  {Q:aW×Env×aA->Prop} (t:(eV K l (.draw c.f0 c.ph (dF P O A id true ops.toList 0 [])) env S).All Q) {a:Act} {Z:Exit->Act->World->Prop} (cs:CS P O K A base g M J L S env w a) (hk:tP P O K A base g M J L S w Q Z):
  (Code.region id ops true).wpIn F n P Z a w:=by
 have v:=aHu hd;unfold aQ1 at D;simp only[P_]at D;obtain⟨⟨Y,u⟩,d⟩:=D;have T:=bFo (P:=P) (O:=O) (id:=id) hs v u;split at d
 .rename_i run hr0;split at d
  .rename_i all hph;have h:∀y,y<ops.toList.length->all.testBit y=true:=fun y s=>(C6.1 d) y (C5.2 s);simp only[eV]at t;split at t;.exact t.elim
   rename_i q hfl;rw[Out.all_bind]at t;refine wpIn_region_any ha.mixed ?_;obtain⟨N,h5⟩:=cs.ms.wr.drew (fun _=>False);have e1:({w with drawn:=w.drawn+1}:World)=w.drew:=rfl;rw[e1];obtain⟨h4,x⟩:=cs.ms.step' N h5;have E:ops=ops.toList.toArray:=B_;have f:∀k,X (Array.replicate ops.size false) k↔False:=by intro k;unfold X;rw[B2,V7];split<;>simp
   have h0:DS P O K A g J.length run c.bef ops.toList (dF P O A id true ops.toList 0 []) (X (Array.replicate ops.size false)) 0 [] M J L S env w.drew (vM (dF P O A id true ops.toList 0 []).length) a:=by refine⟨?_,h4,fun i e=>((f i).1 e).elim,fun i e=>by simp at e,fun i e=>((f i).1 e).elim,fun y s=>by simp at s,fun y i e=>by simp at e,fun p q R=>by simp at R,fun i e=>by simp at e,fun p R=>by simp at R,O_ _,fun y s=>by simp at s⟩;rw[eQ];exact(cs.fr.rr ops.toList _).congr (fun k=>(f k).symm)
   obtain⟨H,J1,j,U⟩:=h0.floats (own:=fun _=>False) T (fun i e=>⟨by rw[<-T.tl];exact kW hfl i e,(tT hr0).2 (.inr e)⟩) hr0 hfl;have m:aV0 P O K A g ops.toList (dF P O A id true ops.toList 0 []) M J L S w a (fun r=>(match fJ (dF P O A id true ops.toList 0 []) 0 r.1 r.2.1 with
     |some env=>(Out.ret (aW.normal,env,r.2.2):Out (aW×Env×aA))
     | none => .fail "local").All Q) (Z .normal) := by
    intro h7 env' S' M' J' L' w' a' z hr G ms C og
    simp only at z
    split at z
    .rename_i env2 hwb
     obtain⟨V,I⟩:=hr.back (P:=P) (O:=O) v hs eQ (fun k o to ho W=>by obtain⟨h6,j,h2⟩:=mN (P:=P) (O:=O) (A:=A) (id:=id) (draw:=true) (i:=0) (dsts:=[]) ho;rw[W]at j;simp at j;subst j;exact⟨_,h2⟩) hwb
     exact hk _ env2 S' M' J' L' w' a' .normal z trivial ⟨V,ms.back (iZ hwb).1 I,by rw[G];exact cs.mks.step C og,og.lt cs.lt C.size,C0 cs.ba C.size⟩ C og
    .exact z.elim
   have:=bFq ha hF n T Y m h ops.toList.length (Array.replicate ops.size false) c.ph none run run H M J1 L q.2 env w.drew q.1 a B_ B_ (fun i e=>((f i).1 e).elim) j hph t ((x.trN _).trans U (fun b hb=>hb.elim)) (.refl _ _ _) rfl;rw[E];simpa using this
  .simp at d
 .simp at d
theorem WR.putObj(h:WR P O M J S w){b:Nat}(m:¬J.has b)(j:∀o,w.cell? ⟨b,o,none⟩=none)(f:Obj):WR P O M J S (w.putObj b f):=by
 have a:∀k,k≠b->(w.putObj b f).heap[k]?=w.heap[k]? := fun k c=>World.putObj_heap_other c;refine h.step h.len (.refl _) (.refl _) (fun k o v g=>?_) (fun i l s d n=>.inr ⟨d,n,a _ (fun e=>m ⟨i,l,d,e⟩),fun _=>rfl⟩) h.inj (fun i l d=>by simpa using h.lt i l d);by_cases c:k=b;.subst c;have:=h.imm k o v g;rw[j o]at this;simp at this
 .rw[dR (a k c)];exact h.imm k o v g
theorem pH{b:Nat}{a:Obj}(h:w.heap[b]?=some a)(g:∀c e f,a≠.cells c e f)(d:∀c e,a≠.pending c e)(o:Nat):w.cell? ⟨b,o,none⟩=none:=by unfold World.cell?;simp only[h];cases a<;>simp_all
theorem aBd:∀ {ps:Tc_} {ts:Tc_},qY A ps=some ts->ps.map (eE · A.slots 0)=ts.map some
 |[],ts,h=>by simp[qY]at h;subst h;rfl
 |p::ps,ts,h=>by
  simp only[qY]at h;split at h;.rename_i j l h1 h2;simp at h;subst h;simp[h1,aBd h2]
  .simp at h
theorem PR.inv{p:Option aW}{c:Option Code}(h:PR p c):(p=Option.none/\c=Option.none)\/(p=some .ret/\c=some .ret)\/∃id,p=some (.exit id)/\c=some (.exit id):=by
 cases h with
 |none=>exact .inl ⟨rfl,rfl⟩
 |ret=>exact .inr (.inl ⟨rfl,rfl⟩)
 |exit id=>exact .inr (.inr ⟨id,rfl,rfl⟩)
abbrev lL(w:World) (fn:FuncId) (a:Act) (ps:Array Tmp) (assign body:Code):World :=
 (w.alloc (.deferred (some []))).alloc (.loop {state:=.ready,pending:=none,fn,tmps:=a.tmps,params:=ps,assign,body,defers:=w.heap.size})
theorem aNm{base g:Nat}(H:fD A g){a:Act}(cs:CS P O K A base g M J L S env w a)(fn:FuncId)(ps:Array Tmp)(assign body:Code){tps:Tc_}(r:qY A ps.toList=some tps)(n:dW (bB P O A g assign)=true/\dW (bB P O A g body)=true): let l:Loc:={cb:=w.heap.size+1,d:=0,ver:=0,cap:=0,es:=0,size:=0,loose:=false}
  let i:=lL w fn a ps assign body
  WR P O M (J++[some l]) (S++[.lp .ready none (env.map noLb) tps (bB P O A g assign) (bB P O A g body)]) i /\
  Tr (fun _=>False) M J S w M (J++[some l]) (S++[.lp .ready none (env.map noLb) tps (bB P O A g assign) (bB P O A g body)]) i/\aF.at (J++[some l]) S.length l/\i.heap[w.heap.size]?=some (.deferred (some [])):=by
 intro l i;have I:M.ext w.heap.size (fun _=>none)=M:=tB cs.ms.wr.none_at;have D:=cs.ms.wr.alloc (fun _=>False) (.deferred (some [])) (fun _=>none) (fun o v s=>by simp at s);rw[I]at D;obtain⟨m,z⟩:=D;have p:M.ext (w.alloc (.deferred (some []))).heap.size (fun _=>none)=M:=tB m.none_at;have f:(w.alloc (.deferred (some []))).heap.size=w.heap.size+1:=B_;have q:=m.push (fun _=>False) (.loop {state:=.ready,pending:=none,fn,tmps:=a.tmps,params:=ps,assign,body,defers:=w.heap.size}) (fun _=>none) l
  (.lp .ready none (env.map noLb) tps (bB P O A g assign) (bB P O A g body)) (by rw[f]) (fun o v s=>by simp at s) (by
   rw[p];refine .lp .ready none _ _ _ _ _ rfl (by show i.heap[w.heap.size+1]?=_;rw[<-f];exact dA _ _) rfl .none ⟨A,?_,by simpa using cs.fr.len,fun j t x F E=>?_,aBd r,?_,?_,n.1,n.2⟩;.show fD A a.tmps.size;rw[cs.fr.sz];exact H
   .simp only[p_,G_]at E;obtain⟨y,C,rfl⟩:=E;have u:=(cs.fr.val j t F)
    have e:env.getD j .hole=y:=by simp[List.getD,C]
    unfold eP at u;rw[e]at u;cases y with
    |lb cs'=>exact .hole _ _
    |lp k o =>obtain⟨c,G⟩:=cs.fr.nlp j _ C rfl;simp at G
    |_=>exact(u.frame rfl).mono (.refl _) (.push _ _)
   .show _=bB P O A a.tmps.size assign;rw[cs.fr.sz]
   .show _=bB P O A a.tmps.size body;rw[cs.fr.sz])
 rw[p]at q;refine⟨q.1,z.trans q.2 (fun b h=>h.elim),?_,?_⟩
 .unfold aF.at
  rw[<-cs.ms.wr.len];simp
 .show i.heap[w.heap.size]?=_;rw[cT _ _ (by rw[f];omega)];exact dA w _
theorem bFr{hc:Orc}(ha:oF P O K hc){F:Fence}(hF:cZ F)(ht:F.round=none)(n:Nat){base R:Nat}(hs:fD A R){g:Operand}{ps:Array Tmp}{assign body:Code}{tg:aH}(hg:opd A [] g=some tg){tps:Tc_} (hu:qY A ps.toList=some tps) (hn:dW (bB P O A R assign)=true/\dW (bB P O A R body)=true) {Q:aW×Env×aA->Prop} (hq:(eV K hc (.rangeFunc tg tps (bB P O A R assign) (bB P O A R body)) env S).All Q) {a:Act} {X:Exit->Act->World->Prop} (cs:CS P O K A base R M J L S env w a) (hk:tP P O K A base R M J L S w Q X): (Code.rangeFunc g ps assign body).wpIn F n P X a w:=by
 simp only[eV]at hq;have Z:=cs.fr.opd cs.ms hg;split at hq
 .rename_i k fst cap hf;rw[hf]at Z;rw[Out.all_bind]at hq;obtain⟨tf,g1⟩:=ha.known _ _ _ _ hq;obtain⟨fk,g4,g5,hy⟩:=ha.body k ⟨tf,g1⟩;generalize hge:a.eval g=gv at Z;cases Z with
  |fn L f fst cap fst' cap' h1 V hf1 hcp =>
   refine wpIn_rangeFunc (fun fn _=>?_);obtain⟨hv,h0,h5,h8⟩:=aNm hs cs fn ps assign body hu hn;have D:=ha.ok.call k F hF (n-1) _ _ _ hq M _ _ (fst'.toList++[.func (.yield (w.heap.size+1)) #[] #[]]++cap'.toList) (by have e:fst++TV.yld S.length::cap=fst++[TV.yld S.length]++cap:=B_;rw[e];refine((VRs.ofAgg h1 hf1).mono (.refl _) h0.jle |>.append (.cons (.yld _ _ _ h5 rfl) .nil)).append ((VRs.ofAgg V hcp).mono (.refl _) h0.jle)) hv cs.ms.gl;refine⟨w.heap.size+1,[{target:=.collected w.heap.size,args:=#[]}],lL w fn a ps assign body,{target:=.fn (.func k) cap',args:=fst'++#[.func (.yield (w.heap.size+1)) #[] #[]]},lL w fn a ps assign body,k,fst'++#[.func (.yield (w.heap.size+1)) #[] #[]]++cap',lL w fn a ps assign body,?_,?_,fun f' _=>hF.fn f',?_,fun hd=>by rw[hF.depth]at hd;simp at hd,?_⟩;.rw[ht];exact run_enterLoop_outer fn a.tmps ps assign body
   .have:Go.resolve a.eval (rangeCall g (w.heap.size+1)) 0=pure {target:=.fn (.func k) cap',args:=fst'++#[.func (.yield (w.heap.size+1)) #[] #[]]}:=by
     simp only[Go.resolve,hge,Deferred.ofValue];have:Array.map a.eval #[Operand.const (Value.func (Fn.yield (w.heap.size+1)) #[] #[])]=#[Value.func (Fn.yield (w.heap.size+1)) #[] #[]]:=by simp[Act.eval]
     rw[this]
    rw[this];rfl
   .have:=nL g4 g5 hy (fst'++#[.func (.yield (w.heap.size+1)) #[] #[]]++cap') (lL w fn a ps assign body);exact this
   .have e:(fst'.toList++[Value.func (Fn.yield (w.heap.size+1)) #[] #[]]++cap'.toList).toArray=fst'++#[Value.func (Fn.yield (w.heap.size+1)) #[] #[]]++cap':=by apply N0;simp
    rw[e]at D;refine D.mono (fun en w' he=>?_);cases en with
    |panicked c=>exact he.elim
    |outgrown=>exact he.elim
    |returned v' =>
     obtain⟨v,S',M',J',hQ,_,W,N⟩:=he;simp only at hQ;have T:=N.jle.fixed h5 rfl;split at hQ;.exact hQ.elim
     .rename_i st m env' E u z hnb hS';obtain⟨s,g6⟩:∃s,s=aG.lp st m env' E u z:=⟨_,rfl⟩
      have g2:=W.blk _ _ _ T hS';cases g2 with
      |lp st m env' E u z r hl hb hst hp hr =>
       have h9:r.state≠.busy:=by rw[hst];intro e;exact hnb e
       have U:(lL w fn a ps assign body).heap.size=w.heap.size+2:=B_;obtain⟨g3,hx⟩:=W.write (fun _=>False) T (w':=w'.putObj (w.heap.size+1) (.loop {r with state:=.exhausted})) (s':=.lp .exhausted m env' E u z)
        (.lp .exhausted m env' E u z {r with state:=.exhausted} rfl (World.putObj_heap_same (fZ hb)) rfl hp ⟨hr.ex⟩) B_ (fun b p=>World.putObj_heap_other p) ⟨rfl,rfl,rfl⟩ (fun o v hm=>by have:=W.imm _ _ _ hm;rw[pH hb B_ B_]at this;simp at this)
       have G:Tr (fun _=>False) M J S w M' J' _ _:=(h0.trans N (fun b h=>h.elim)).trans hx (fun b h=>h.elim);obtain⟨hi,I⟩:=cs.ms.step' g3 G;have hh:FR A R M' J' L env {a with defers:=[{target:=.collected w.heap.size,args:=#[]}]++a.defers} :=
        ⟨cs.fr.sz,cs.fr.len,cs.fr.nlp,fun j t hj=>(cs.fr.val j t hj).mono G.mle G.jle⟩
       have C:¬aF.has (J++[some {cb:=w.heap.size+1,d:=0,ver:=0,cap:=0,es:=0,size:=0,loose:=false}]) w.heap.size:=by
        rintro⟨i,l,hl,e⟩;rcases lZ hl with hl|⟨_,hl⟩;.have:=cs.ms.wr.lt i l hl;omega
        .simp at hl;subst hl;simp at e
       have Y:(w'.putObj (w.heap.size+1) (.loop {r with state:=.exhausted})).heap[w.heap.size]?=some (.deferred (some [])):=by rw[World.putObj_heap_other A_,N.frame w.heap.size (by rw[U];omega) C (fun h=>h)];exact h8
       have hw:aNf base J' L (w'.putObj (w.heap.size+1) (.loop {r with state:=.exhausted})) ([{target:=.collected w.heap.size,args:=#[]}]++a.defers):=by
        obtain⟨bs,e1,e2,e3⟩:=cs.mks.step (L':=L) I (.refl _ _ _);obtain⟨h6,f1,f2,f3⟩:=cs.mks;refine⟨w.heap.size::h6,by rw[f1];rfl,C8.2 ⟨fun hm=>?_,f2⟩,fun b p=>?_⟩;.have:=fZ (f3 _ hm).2.1;omega
        .rcases J_.1 p with rfl|p;.exact⟨cs.ba,Y,N.has (by rw[U];omega) C,fun ho=>by have:=cs.lt _ ho;omega⟩
         .have h7:bs=h6:=by have:=e1.symm.trans f1;exact List.map_inj_right (fun x y hz=>by simpa using hz) |>.1 this
          rw[<-h7]at p;exact e3 b p
       have h4:CS P O K A base R M' J' L (S'.set S.length (.lp .exhausted m env' E u z)) env (w'.putObj (w.heap.size+1) (.loop {r with state:=.exhausted})) {a with defers:=[{target:=.collected w.heap.size,args:=#[]}]++a.defers} :=
        ⟨hh,hi,hw,fun b p=>E9 (cs.lt b p) G.size,C0 cs.ba G.size⟩
       refine⟨r.pending,_,run_endLoop hb h9,?_⟩;have fin:∀H,H=r.pending->(match H with
         |none=>X .normal {a with defers:=[{target:=.collected w.heap.size,args:=#[]}]++a.defers} (w'.putObj (w.heap.size+1) (.loop {r with state:=.exhausted}))
         |some c=>c.wpIn F n P X {a with defers:=[{target:=.collected w.heap.size,args:=#[]}]++a.defers} (w'.putObj (w.heap.size+1) (.loop {r with state:=.exhausted}))):=by
        intro H q
        rcases hp.inv with⟨h1,V⟩|⟨h1,V⟩|⟨id,h1,V⟩
        .obtain rfl:=q.trans V
         exact hk (m.getD .normal) _ _ _ _ _ _ _ _ hQ (by rw[h1];trivial) h4 I (.refl _ _ _)
        .obtain rfl:=q.trans V
         exact wpIn_ret (hk (m.getD .normal) _ _ _ _ _ _ _ _ hQ (by rw[h1];trivial) h4 I (.refl _ _ _))
        .obtain rfl:=q.trans V
         exact wpIn_exit (hk (m.getD .normal) _ _ _ _ _ _ _ _ hQ (by rw[h1];exact rfl) h4 I (.refl _ _ _))
       exact fin _ rfl
     .exact hQ.elim
 .exact hq.elim
theorem aCp{s:Orc}(C:oF P O K s)(E:zV P O K s){F:Fence}(v:cZ F)(n:Nat){base r:Nat}(u:fD A r):∀(c:Code) {M:Mem} {J:aF} {L:Tk_} {S:aA} {env:Env} {w:World} {a:Act} {Q:aW×Env×aA->Prop} {X:Exit->Act->World->Prop},(eV K s (bB P O A r c) env S).All Q->(F.round=none\/dW (bB P O A r c)=true)->CS P O K A base r M J L S env w a->tP P O K A base r M J L S w Q X->c.wpIn F n P X a w:=by
 intro c;induction c with
 |skip=>intro M J L S env w a Q X d _ cs f;exact wpIn_skip (f _ _ _ _ _ _ _ _ _ d trivial cs (.refl _ _ _ _ _) (.refl _ _ _))
 |label l=>intro M J L S env w a Q X d _ cs f;exact wpIn_label (f _ _ _ _ _ _ _ _ _ d trivial cs (.refl _ _ _ _ _) (.refl _ _ _))
 |exit id=>intro M J L S env w a Q X d _ cs f;exact wpIn_exit (f _ _ _ _ _ _ _ _ _ d rfl cs (.refl _ _ _ _ _) (.refl _ _ _))
 |ret=>intro M J L S env w a Q X d _ cs f;exact wpIn_ret (f _ _ _ _ _ _ _ _ _ d trivial cs (.refl _ _ _ _ _) (.refl _ _ _))
 |region id ops draw =>
  intro M J L S env w a Q X d _ cs f;simp only[bB,aDy]at d;split at d;.exact d.elim
  rename_i t;have t:zQ r ops.toList=true:=by simpa using t
  cases draw with
  |false =>
   simp only[P5,N8]at d;split at d;.rename_i hsq;exact aYi C v n u t hsq d cs f
   .exact d.elim
  |true =>
   simp only[E7,b_,J3]at d;split at d
   .rename_i ce _;split at d;.rename_i hok;exact bMw C v n u t hok d cs f
    .exact d.elim
   .exact d.elim
 |seq x y ihx ihy =>
  intro M J L S env w a Q X d i cs f;simp only[bB,eV]at d;rw[Out.all_bind]at d;refine wpIn_seq (ihx d (i.imp (fun h=>h) (fun h=>by simp only[bB,dW,P_]at h;exact h.1)) cs (fun j env' S' M' J' L' w' G e o m k q p=>?_));cases j with
  |normal =>
   cases e<;>first|exact m.elim|skip
   exact ihy o (i.imp (fun h=>h) (fun h=>by simp only[bB,dW,P_]at h;exact h.2)) k (f.next q p)
  |exit id =>
   cases e<;>first|exact m.elim|skip
   exact f _ _ _ _ _ _ _ _ _ o m k q p
  |ret =>
   cases e<;>first|exact m.elim|skip
   exact f _ _ _ _ _ _ _ _ _ o m k q p
 |cond x y z ihy ihz =>
  intro M J L S env w a Q X d i cs f;simp only[bB]at d i;split at d
  .rename_i tx hx;rw[hx]at i;simp only[eV]at d;have D:=cs.fr.opd cs.ms hx;split at d;.rename_i hb;exact wpIn_cond_true (zR hb D) (ihy d (i.imp (fun h=>h) (fun h=>by simp only[dW,P_]at h;exact h.1)) cs f)
   .rename_i hb;exact wpIn_cond_false (zR hb D) (ihz d (i.imp (fun h=>h) (fun h=>by simp only[dW,P_]at h;exact h.2)) cs f)
   .exact d.elim
  .exact d.elim
 |block id b ih =>
  intro M J L S env w a Q X d i cs f;simp only[bB,eV]at d;rw[Out.all_bind]at d;refine wpIn_block (ih d (i.imp (fun h=>h) (fun h=>by simpa only[bB,dW] using h)) cs (fun j env' S' M' J' L' w' G e o m k q p=>?_));cases j with
  |normal =>
   cases e<;>first|exact m.elim|skip
   exact f _ _ _ _ _ _ _ _ _ o m k q p
  |exit id' =>
   cases e<;>first|exact m.elim|skip
   have m:id'=_:=m;subst m;simp only at o;simp only[Exit.inBlock];split at o;.rename_i e;rw[K_ e];exact f _ _ _ _ _ _ _ _ _ o trivial k q p
   .rename_i e;rw[I_ e];exact f _ _ _ _ _ _ _ _ _ o rfl k q p
  |ret =>
   cases e<;>first|exact m.elim|skip
   exact f _ _ _ _ _ _ _ _ _ o m k q p
 |loop b _ =>intro M J L S env w a Q X d i cs f;simp only[bB,eV]at d;exact E A r u F v n b env S Q d (i.imp (fun h=>h) (fun h=>by simpa only[bB,dW] using h)) base M J L w a X cs f
 |rangeFunc g ps assign body _ _ =>
  intro M J L S env w a Q X d i cs f;simp only[bB]at d i;split at d
  .rename_i tg tps hg hps;split at d
   .rename_i hnr;rw[hg,hps]at i;simp only[K_ hnr]at i;simp only[P_]at hnr;rcases i with i|i;.exact bFr C v i n u hg hps hnr d cs f
    .simp[dW]at i
   .exact d.elim
  .exact d.elim
 |_=>intro M J L S env w a Q X d;exact d.elim
theorem FR.loc{c:Nat}{a:Act}(h:FR A c M J L env a){t j:Nat}(b:eE t A.slots 0=some j):VR M J L (eP env j) (a.tmps.getD t Go.undef):=h.val j t (lK b)
def zY(tmps:Array Value):ResultVar->Sem Value
 |.tmp t=>pure (tmps.getD t Go.undef)
 |.cell x t=>do loadVar t (<-asAddr (tmps.getD x Go.undef))
theorem aRk(fn:Func)(tmps:Array Value):results fn tmps=(do let vs <-fn.results.mapM (zY tmps);pure (if h:vs.size=1 then vs[0]else .tuple vs)):=rfl
theorem bMx{s:Nat}{a:Act}(h:FR A s M J L env a)(p:MS P O K M J L S env w){r:ResultVar}{o:mU}(g:aCl P A r=some o){v:TV}(d:jQ env S o=some v): ∃v',(zY a.tmps r).run P w=.ok v' w/\VR M J [] v v':=by
 cases r with
 |tmp t =>
  simp only[aCl,G_]at g;obtain⟨j,l,rfl⟩:=g;refine⟨a.tmps.getD t Go.undef,by simp[zY],?_⟩;have f:=h.loc l;simp only[jQ]at d;unfold eP at f;split at d;.simp at d
  .simp at d
  .rename_i x hn1 hn2;have d:=D6 d;subst d;split at f;.rename_i cs hcs;exact absurd hcs (hn1 cs)
   .refine f.frame ?_;cases hx:env.getD j .hole<;>first|rfl|exact absurd hx (hn1 _)|exact absurd hx (hn2 _ _)
 |cell x t =>
  simp only[aCl]at g;split at g
  .rename_i j n ag l hn hag;simp at g;subst g;simp only[jQ]at d;split at d
   .rename_i cs hg;have f:VR M J L (aX ⟨fun _=>none,fun _=>none,fun _=>none⟩ env [] (.loc j)) (a.tmps.getD x Go.undef):=h.loc l;obtain⟨b,off,vs,i,k,m,e⟩:=xU p hg f;cases ag with
    |true =>simp[gL]at d;subst d;simp only[N8]at m;refine⟨.agg vs.toArray,?_,xT k⟩;have:=oA (P:=P) b off vs e;rw[m]at this;simp[zY,i,asAddr,loadVar,isAgg?_run hag,run_size? hn,this]
    |false =>
     simp only[gL,b_,J3]at d m;split at d;.rename_i c;simp at d;subst d;obtain⟨u,us,rfl,q,y⟩:=k.cons_inv;refine⟨u,?_,q⟩;have:=e 0 u rfl;simp at this;simp[zY,i,asAddr,loadVar,isAgg?_run hag,run_load,this]
     .simp at d
   .simp at d
  .simp at g
theorem yM{d:Nat}{a:Act}(h:FR A d M J L env a)(c:MS P O K M J L S env w):∀ {rs:List ResultVar} {b:List mU} {vs:Tn_},qB P A rs=some b->fK env S b=some vs ->∃us,(rs.mapM (zY a.tmps)).run P w=.ok us w/\VRs M J [] vs us
 |[],b,vs,hc,hv=>by simp[qB]at hc;subst hc;simp[fK]at hv;subst hv;exact⟨[],by simp,.nil⟩
 |r::rs,b,vs,hc,hv=>by
  simp only[qB]at hc;split at hc
  .rename_i t l h1 h2;simp at hc;subst hc;simp only[fK]at hv;split at hv;.rename_i v l' h3 h4;simp at hv;subst hv;obtain⟨u,e,e2⟩:=bMx h c h1 h3;obtain⟨us,e3,f⟩:=yM h c h2 h4;refine⟨u::us,?_,.cons e2 f⟩;rw[List.mapM_cons];simp only[Sem.run_bind,e,Result.andThen,e3,Sem.run_pure]
   .simp at hv
  .simp at hc
theorem aNn{n:Nat}{a:Act}(h:FR A n M J L env a)(g:MS P O K M J L S env w){fn:Func}{d:List mU}(j:qB P A fn.results.toList=some d){v:TV}(c:kP d env S=some v): ∃v',(results fn a.tmps).run P w=.ok v' w/\VR M J [] v v':=by
 unfold kP at c;have key:∀ {vs:Tn_},fK env S d=some vs->∃us,(results fn a.tmps).run P w=.ok (if h:us.toArray.size=1 then us.toArray[0]else .tuple us.toArray) w/\VRs M J [] vs us:=by intro vs b;obtain⟨us,f,e2⟩:=yM h g j b;refine⟨us,?_,e2⟩;rw[aRk,Array.mapM_eq_mapM_toList];simp only[Sem.run_bind,map_eq_pure_bind,f,Result.andThen,Sem.run_pure]
 split at c;.rename_i v0 b;simp at c;subst c;obtain⟨us,f,e2⟩:=key b;obtain⟨u,l,rfl,m,k⟩:=e2.cons_inv;have:=k.nil_inv;subst this;exact⟨u,by rw[f];simp,m⟩
 .rename_i vs hne b;simp at c;subst c;obtain⟨us,f,e2⟩:=key b;refine⟨.tuple us.toArray,?_,.tup _ _ _ (by simpa using e2.1) (fun i x v o c=>e2.2 i x v o (by simpa using c))⟩;rw[f];have:us.toArray.size≠1:=by
   intro e;have e3:vs.length=1:=by rw[<-e2.1];simpa using e
   match vs,e3 with
   |[x],_=>exact hne x rfl
  rw[dif_neg this]
 .simp at c
end
end Go.TM
namespace Go.TM
open Go
section
variable {P:Program}{O:dH}{K:TM.bD}{A:Ann}
variable {M:Mem}{J:aF}{L:List (Option Nat)}{S S':aA}{env env':Env}{w:World}
variable (P O K) in
structure KOK:Prop where
 funcs : ∀ k tf, K.funcs k = some tf → ∃ (A : Ann) (fn : Func), P.funcs[k]? = some fn ∧ fn.name ≠ "runtime.NumGoroutine" ∧ sY P O A fn = some tf
 prim:∀f p,K.prim f=some p->rI P O K f p
 mixed:P.follows .mixedOrders=true
theorem MS.shut(h:MS P O K M J L S env w){b:Nat}{ds:List Deferred}(d:w.heap[b]?=some (.deferred (some ds)))(g:¬J.has b):MS P O K M J L S env (w.putObj b (.deferred none)):=by have c:∀k,k≠b->(w.putObj b (.deferred none)).heap[k]?=w.heap[k]? := fun k l=>World.putObj_heap_other l;refine⟨h.wr.putObj g (pH d B_ B_) _,⟨h.lb.len,fun j cs f=>?_,h.lb.inj⟩,h.gl⟩;obtain⟨cb,i,a⟩:=h.lb.box j cs f;refine⟨cb,i,a.step (c cb ?_) (.refl _) (fun _=>rfl) (.refl _) a.1⟩;rintro rfl;obtain⟨_,_,m,e,n,h3,_⟩:=a;rw[d]at h3;simp at h3
structure bWg (base:Nat) (w w':World):Prop where
 os:w'.os=w.os
 tape:w'.tape=w.tape
 output:w'.output=w.output
 size:w'.heap.size=w.heap.size
 old:∀b,b<base->w'.heap[b]?=w.heap[b]?
theorem aBe{F:Fence}(n:Nat){fn:Func}{tmps:Array Value}{R:Ending->World->Prop}{base:Nat}:∀(d:Tc_) {w:World},d.Nodup->(∀b∈d,base<=b/\w.heap[b]?=some (.deferred (some []))/\¬J.has b)->MS P O K M J L S env w ->(∀a,MS P O K M J L S env a->bWg base w a->∃v,(results fn tmps).run P a=.ok v a/\R (.returned v) a)->LeavesInM F n P fn tmps R (d.map fun b=>({target:=.collected b,args:=#[]}:Deferred)) .returning w
 |[],w,_,_,ms,h=>by show LeavesIn F n P fn tmps R [] .returning w;exact h w ms ⟨rfl,rfl,rfl,rfl,fun _ _=>rfl⟩
 |b::d,w,hnd,hb,ms,h=>by
  obtain⟨l,i,h3⟩:=hb b B_;have j:=fZ i;refine⟨by simp,.inl ⟨b,w.putObj b (.deferred none),rfl,run_takeDeferred i,?_⟩⟩;refine aBe (base:=base) n d (C8.1 hnd).2 (fun c f=>?_) (ms.shut i h3) (fun a g e=>h a g ⟨e.os,e.tape,e.output,by rw[e.size];simp,fun c f=>?_⟩);.obtain⟨k,e2,e3⟩:=hb c (by simp[f]);refine⟨k,?_,e3⟩;rw[World.putObj_heap_other (by rintro rfl;exact(C8.1 hnd).1 f)];exact e2
  .rw[e.old c f,World.putObj_heap_other A_]
theorem vW{F:Fence}{n:Nat}{f:FuncId}{args:Array Value}{R:Ending->World->Prop}(h:CallsIn F.plain n P f args w R):CallsIn F n P f args w R:=h
theorem cZ.plain{F:Fence}(h:cZ F):cZ F.plain:=⟨h.fn,h.depth,h.alive⟩
theorem yN:∀ {l:Tc_},sX l=true->l.Nodup
 |[],_=>.nil
 |a::r,h=>by simp only[sX,P_,D7]at h;exact C8.2 ⟨by simpa using h.1,yN h.2⟩
theorem aRl{a:Nat}(b:sX A.slots=true)(c:A.slots.all (fun t=>decide (t<a))=true):fD A a :=
 ⟨yN b,fun t d=>by simpa using(C6.1 c) t d⟩
theorem LbR.none{env:Env}(b:L.length=env.length)(h:∀(j:Nat) (cs:Tn_),env[j]? ≠ some (.lb cs)):LbR M J L env w :=
 ⟨b,fun j cs a=>absurd a (h j cs),fun j _ cs _ _ a=>absurd a (h j cs)⟩
theorem aCq(n:Nat)(b:Nat):¬cS (List.replicate n none) b:=by rintro⟨j,a⟩;rw[I7]at a;split at a<;>simp at a
theorem aNo{p:Orc}(hk:KOK P O K)(ha:oF P O K p)(u:zV P O K p)(f:Nat):aKl P O K f (eM K p f):=by
 intro F Y n args S Q o M J w vals D hw hg;unfold eM at o;split at o;.exact o.elim
 rename_i tf htf;split at o;.exact o.elim
 rename_i i;have i:args.length=tf.nparams:=A_;rw[Out.all_bind]at o;obtain⟨A,fn,T,_,d⟩:=hk.funcs f tf htf;unfold sY at d;split at d
 .rename_i c trs hc hrs;split at d
  .rename_i hcond;obtain⟨H,c2,c3,c4⟩:=hcond;simp at d;subst d;simp only at i o;have W:fD A fn.ntmps:=aRl c3 c4;have h2:vals.length=args.length:=D.1;have E:fn.params.size+fn.nfree<=A.slots.length:=by have:=X_ List.length H;simp at this;omega
   refine vW (callsIn_of_wp_marks T hc (Y.plain.fn f) ?_ rfl);have R:FR A fn.ntmps M J (List.replicate A.slots.length none) (args++List.replicate (A.slots.length-(fn.params.size+fn.nfree)) undef) {tmps:=vals.toArray++Array.replicate (fn.ntmps-vals.toArray.size) Go.undef,defers:=[]}:=by
    refine⟨by simp;omega,by simp;omega,fun j x k u=>?_,fun j t g=>?_⟩
    .rw[F7]at k;split at k;.rename_i hlt;have:=(D.2 j x _ k (D_ (by omega:j<vals.length))).isLp_nil;rw[this]at u;simp at u
     .rw[I7]at k;split at k;.simp at k;subst k;simp[cA,undef]at u
      .simp at k
    .have h0:j<A.slots.length:=(E_.1 g).1;by_cases hjp:j<args.length
     .have ht:t=j:=by
       have:(A.slots.take (fn.params.size+fn.nfree))[j]?=some t:=by rw[D9,K_ A_];exact g
       rw[H,F0 A_]at this;simpa using this.symm
      subst ht;have U:(args++List.replicate (A.slots.length-(fn.params.size+fn.nfree)) undef).getD t .hole=args[t]:=by simp[List.getD,Y_ hjp,D_ hjp]
      have e2:(vals.toArray++Array.replicate (fn.ntmps-vals.toArray.size) Go.undef).getD t Go.undef=vals[t]' A_:=by rw[B2,H5 (by simp;omega)];simp[D_ (by omega:t<vals.length)]
      have C:=D.2 t _ _ (D_ hjp) (D_ (by omega:t<vals.length));rw[e2];have s:=C.isLp_nil;have:eP (args++List.replicate (A.slots.length-(fn.params.size+fn.nfree)) undef) t=args[t]:=by unfold eP;rw[U];cases k:args[t]<;>first|rfl|(rw[k]at s;simp[cA]at s)
      rw[this];exact C.ofNil
     .have h1:fn.params.size+fn.nfree<=t:=by
       rcases D2 t (fn.params.size+fn.nfree)with hlt|h'
       .exfalso;have:A.slots[t]?=some t:=by
         have e:(A.slots.take (fn.params.size+fn.nfree))[t]?=some t:=by rw[H,F0 hlt]
         rwa [D9,K_ hlt]at e
        have:t=j:=(P6 (by exact(E_.1 this).1) W.1).1 (by rw[this,g]);omega
       .exact h'
      have U:eP (args++List.replicate (A.slots.length-(fn.params.size+fn.nfree)) undef) j=undef:=by
       unfold eP;have:(args++List.replicate (A.slots.length-(fn.params.size+fn.nfree)) undef).getD j .hole=undef:=by simp only[List.getD];rw[r_ A_,I7,K_ A_];rfl
       rw[this];rfl
      have e2:(vals.toArray++Array.replicate (fn.ntmps-vals.toArray.size) Go.undef).getD t Go.undef=Go.undef:=by rw[B2,Array.getElem?_append_right (by simp;omega),V7];split<;>rfl
      rw[U,e2];exact nR
   have G:∀(j:Nat) (cs:Tn_),(args++List.replicate (A.slots.length-(fn.params.size+fn.nfree)) undef)[j]? ≠ some (.lb cs):=by
    intro j cs g;rw[F7]at g;split at g;.rename_i hlt;have:=(D.2 j _ _ g (D_ (by omega:j<vals.length))).isLp_nil;simp[cA]at this
    .rw[I7]at g;split at g<;>simp[undef]at g
   have V:MS P O K M J (List.replicate A.slots.length none) S (args++List.replicate (A.slots.length-(fn.params.size+fn.nfree)) undef) w:=⟨hw,.none (by simp;omega) G,hg⟩
   refine aCp (base:=w.heap.size) ha u Y.plain n W c o (.inl rfl) ⟨R,V,⟨[],rfl,.nil,fun b m=>by simp at m⟩,fun b m=>(aCq _ _ m).elim,O_ _⟩ ?_;intro j env' S' M' J' L' w' Z e N g cs l og;have fin:(match kP trs env' S' with
     |some v=>(Out.ret (v,S'):Out (TV×aA))
     | none => .fail "results").All Q → LeavesInM F.plain n P fn Z.tmps (gP P O M J S w Q) Z.defers .returning w' := by
    intro I
    split at I
    .rename_i v hv2
     obtain⟨bs,b1,b2,b3⟩:=cs.mks
     rw[b1]
     refine aBe n bs b2 (fun b m=>let ⟨x,y,z,_⟩:=b3 b m;⟨x,y,z⟩) cs.ms (fun w2 q r=>?_)
     obtain⟨v',r1,r2⟩:=aNn cs.fr q hrs hv2
     refine⟨v',r1,v,S',M',J',I,r2,q.wr,?_⟩
     refine⟨r.os.trans l.os,r.tape.trans l.tape,r.output.trans l.output,by rw[r.size];exact l.size,l.mle,l.mnew,l.jle,l.jnew,l.ph,fun b m hn _=>?_⟩
     rw[r.old b m]
     exact l.frame b m hn (aCq _ _)
    .exact I.elim
   cases j with
   |normal=>cases e<;>first|exact g.elim|exact fin N
   |ret=>cases e<;>first|exact g.elim|exact fin N
   |exit id=>exact N.elim
  .simp at d
 .simp at d
end
end Go.TM
namespace Go.TM
open Go
section
variable {P:Program}{O:dH}{K:TM.bD}{A:Ann}
variable {M:Mem}{J:aF}{L:List (Option Nat)}{S S':aA}{env env':Env}{w:World}
def rM(A:Ann)(nt:Nat)(M:Mem)(J:aF)(env:Env)(tmps:Array Value):Prop :=
 tmps.size=nt/\env.length=A.slots.length/\∀(j t:Nat) (x:TV),A.slots[j]?=some t->env[j]?=some x->VR M J [] x (tmps.getD t Go.undef)
theorem aEw{e:Nat}(i:fD A e):∀ {ps:Tc_} {args:Tn_} {params:Tc_} {vals:List Value} {env env1:Env} {tmps:Array Value},qW env ps args=some env1->params.map (eE · A.slots 0)=ps.map some->VRs M J [] args vals ->rM A e M J env tmps->rM A e M J env1 ((params.zip vals).foldl (fun tmps (t,a)=>tmps.setIfInBounds t a) tmps)/\params.length=args.length
 |[],args,params,vals,env,env1,tmps,h,hp,hv,hr=>by
  cases args with
  |nil =>simp[qW]at h;subst h;simp at hp;subst hp;exact⟨by simpa using hr,rfl⟩
  |cons a r=>simp[qW]at h
 |j::ps,args,params,vals,env,env1,tmps,h,hp,hv,hr=>by
  cases args with
  |nil=>simp[qW]at h
  |cons v args =>
   obtain⟨u,us,rfl,p,o⟩:=hv.cons_inv;cases params with
   |nil=>simp at hp
   |cons t params =>
    simp only[Q_,List.cons.injEq]at hp;simp only[qW]at h;split at h;.simp at h
    .obtain⟨m,e2,e3⟩:=hr;have c:=lK hp.1;have f:j<env.length:=by rw[e2];exact(E_.1 c).1
     have k:t<tmps.size:=by rw[m];exact i.2 t (B4 c)
     have g:rM A e M J (env.set j v) (tmps.setIfInBounds t u):=by
      refine⟨by simp[m],by simp[e2],fun n l x b d=>?_⟩;by_cases hjj:n=j;.subst hjj;rw[c]at b;simp at b;subst b;rw[C7 f]at d;simp at d;subst d;rw[B2,H1 k];exact p
      .rw[B3 A_]at d;have:t≠l:=by rintro rfl;exact hjj ((P6 (by exact(E_.1 b).1) i.1).1 (by rw[b,c]))
       rw[B2,J6 this,<-B2];exact e3 n l x b d
     obtain⟨s,q⟩:=aEw i h hp.2 o g;exact⟨by simpa using s,by simp[q]⟩
theorem rM.noLb{c:Nat}{tmps:Array Value}(h:rM A c M J env tmps)(j:Nat)(x:TV)(a:env[j]?=some x):cA x=false:=by
 have b:j<A.slots.length:=by rw[<-h.2.1];exact(E_.1 a).1
 exact(h.2.2 j _ x (D_ b) a).isLp_nil
theorem rM.fr{g:Nat}{tmps:Array Value}(h:rM A g M J env tmps)(ds:List Deferred):FR A g M J L env {tmps,defers:=ds}:=by
 refine⟨h.1,h.2.1,fun j x c i=>by rw[h.noLb j x c]at i;simp at i,fun j t f=>?_⟩;have a:j<env.length:=by rw[h.2.1];exact(E_.1 f).1
 have d:=h.2.2 j t _ f (D_ a);have b:=h.noLb j _ (D_ a);have e:env.getD j .hole=env[j]:=by simp[List.getD,D_ a]
 have:eP env j=env[j]:=by unfold eP;rw[e];cases c:env[j]<;>first|rfl|(rw[c]at b;simp[cA]at b)
 rw[this];exact d.ofNil
theorem rM.lb{b:Nat}{tmps:Array Value}(h:rM A b M J env tmps)(j:Nat)(cs:Tn_):env[j]? ≠ some (.lb cs):=by intro a;have:=h.noLb j _ a;simp[cA]at this
theorem Tr.noOwn{n:Nat}{M':Mem}{J':aF}{w':World}(h:Tr (cS (List.replicate n none)) M J S w M' J' S' w'):Tr (fun _=>False) M J S w M' J' S' w' :=
 ⟨h.os,h.tape,h.output,h.size,h.mle,h.mnew,h.jle,h.jnew,h.ph,fun b a c _=>h.frame b a c (aCq _ _)⟩
theorem yO(h:WR P O M J S w){i:Nat}{l:Loc}(k:J.at i l)(c:l.loose=false){r:Loop}(e:w.heap[l.cb]?=some (.loop r)){env:Tn_}{ps:Tc_}{assign body:aL}(f:LpR P O M J env ps assign body r)(st:LoopState){a:Option aW} {pc:Option Code} (j:PR a pc) (own:Tm_): WR P O M J (S.set i (.lp st a env ps assign body)) (w.putObj l.cb (.loop {r with state:=st,pending:=pc}))/\Tr own M J S w M J (S.set i (.lp st a env ps assign body)) (w.putObj l.cb (.loop {r with state:=st,pending:=pc})) :=
 h.write own k (.lp st a env ps assign body {r with state:=st,pending:=pc} c (World.putObj_heap_same (fZ e)) rfl j ⟨f.ex⟩) B_ (fun b d=>World.putObj_heap_other d) ⟨rfl,rfl,rfl⟩ (fun o v g=>by have:=h.imm _ _ _ g;rw[pH e B_ B_]at this;simp at this)
theorem aRm{x:Orc}(ha:oF P O K x)(D:zV P O K x)(i:Nat):bP1 P O K i (iA K x i):=by
 intro F T n args S Q p M J w vals hv hw hg l G;unfold iA at p;split at p
 .rename_i st0 pend0 env ps assign body hS;have h0:=hw.blk i l _ G hS;cases h0 with
  |lp st pend env ps assign body r hlo g hst hp hr =>
   obtain⟨A,U,e1,e2,e3,e4,e5,e6,e7⟩:=hr.ex;split at p;.exact p.elim
   rename_i env1 hset;obtain⟨q,h1⟩:=aEw U hset e3 hv ⟨rfl,e1,e2⟩;have hc:=hv.1;refine⟨r,g,by simp at h1;omega,roundIn_of_wpIn (T.fn r.fn) ?_⟩;have u:(r.params.zip vals.toArray).foldl (fun tmps (t,a)=>tmps.setIfInBounds t a) r.tmps=(r.params.toList.zip vals).foldl (fun tmps (t,a)=>tmps.setIfInBounds t a) r.tmps:=by rw[<-Array.foldl_toList];simp
   rw[u];rw[Out.all_bind]at p;have R:cZ (F.inRound l.cb):=⟨T.fn,T.depth,T.alive⟩
   rw[e4]at p e6;have h4:MS P O K M J (List.replicate A.slots.length none) S env1 w:=⟨hw,.none (by simp[q.2.1]) (fun j cs=>q.lb j cs),hg⟩
   refine aCp (base:=0) ha D R n U r.assign p (.inr e6) ⟨q.fr [],h4,⟨[],rfl,.nil,fun b g=>by simp at g⟩,fun b g=>(aCq _ _ g).elim,I3 _⟩ ?_;intro j env2 S2 M2 J2 L2 w2 a2 e z hj f E L;simp only at z;split at z
   .rename_i p2 ev2 ps2 as2 bd2 hjn hS2;cases e<;>first|exact hj.elim|skip
    show ∃w3,_;have k:=E.jle.fixed G hlo;have H:=f.ms.wr.blk i l _ k hS2;cases H with
    |lp st' pend' env' ps' as' bd' r2 hlo2 hb2 hst2 hp2 hr2 =>
     refine⟨_,run_beginRound hb2 hst2,?_⟩;obtain⟨Y,V⟩:=yO f.ms.wr k hlo hb2 hr2 .busy hp2 (fun _=>False);obtain⟨Z,o⟩:=f.ms.step' Y V;rw[Out.all_bind]at z;rw[e5]at z e7;refine aCp (base:=0) ha D R n U r.body z (.inr e7) ⟨f.fr,Z,f.mks.step o (.refl _ _ _),fun b g=>by have:=f.lt b g;simpa using this,I3 _⟩ ?_;intro j4 h8 S4 M4 J4 L4 w4 a4 s c d C N h9;simp only at c;split at c
     .rename_i st5 pd5 ev5 ps5 as5 bd5 hS5;have m:=N.jle.fixed k hlo;have I:=C.ms.wr.blk i l _ m hS5;cases I with
      |lp st6 pend6 env6 ps6 as6 bd6 r4 hlo4 hb4 hst4 hp4 hr4 =>
       have h2:Tr (fun _=>False) M J S w M4 J4 S4 w4:=((E.trans o (fun b g=>L.weak b g)).trans N (fun b g=>L.weak b g)).noOwn;have fin:∀ {pd:Option aW} {pc:Option Code} (bb:Bool),PR pd pc->pc.isNone=bb->Q (.iv (.bool bb),S4.set i (.lp (if bb then .ready else .done) pd ev5 ps5 as5 bd5)) ->
         ∃v w',(Instr.endRound l.cb pc).run P w4=.ok v w'/\gP P O M J S w Q (.returned v) w':=by
        intro pd pc bb h5 y h6
        obtain⟨h7,W⟩:=yO C.ms.wr m hlo hb4 hr4 (if bb then .ready else .done) h5 (fun _=>False)
        refine⟨_,_,run_endRound pc hb4,_,_,M4,J4,h6,?_,?_,?_⟩
        .rw[y];exact .iv _ (.bool bb)
        .rw[y];exact h7
        .rw[y];exact h2.trans W (fun b h=>h.elim)
       split at c
       .rename_i hjn4;cases s<;>first|exact d.elim|skip
        exact fin (pd:=none) (pc:=none) true .none rfl c
       .rename_i hjn4;cases j4 with
        |normal=>exact absurd rfl hjn4
        |ret =>
         cases s<;>first|exact d.elim|skip
         exact fin (pd:=some .ret) (pc:=some .ret) false .ret rfl c
        |exit id =>
         cases s<;>first|exact d.elim|skip
         have d:id=_:=d;subst d;exact fin (pd:=some (.exit id)) (pc:=some (.exit id)) false (.exit id) rfl c
     .exact c.elim
   .exact z.elim
 .exact p.elim
end
end Go.TM
namespace Go.TM
open Go
section
variable {P:Program}{O:dH}{K:TM.bD}{A:Ann}
theorem yP{p:Tm_}(h:∃k,p k):∃k,p k/\∀m,p m->k<=m:=by
 obtain⟨k,c⟩:=h;induction k using Nat.strongRecOn with
 |_ k ih =>
  by_cases hx:∃m,m<k/\p m;.obtain⟨m,a,d⟩:=hx;exact ih m a d
  .refine⟨k,c,fun m a=>?_⟩;rcases D2 m k with b|b;.exact absurd ⟨m,b,a⟩ hx
   .exact b
open Classical in
theorem aEx{α c:Type}(p:Nat->α->c->Prop):∃d:α->c->Nat,∀a b,(∃k,p k a b)->p (d a b) a b/\∀m,p m a b->d a b<=m:=by refine⟨fun a b=>if h:∃k,p k a b then Classical.choose (yP h)else 0,fun a b h=>?_⟩;simp only[dif_pos h];exact Classical.choose_spec (yP h)
theorem bMy{n:Nat}(I:∀m,m<=n->oF P O K (ex K m)/\zV P O K (ex K m)):zV P O K (ex K (n+1)):=by
 intro A b z F G H c env S Q o p base M J L w a X cs h;obtain⟨N,v⟩:=aEx (fun(k:Nat) (a:Act) (w:World)=>∃env S M J L,CS P O K A base b M J L S env w a/\((ex K k).loop (bB P O A b c) env S).All Q/\tP P O K A base b M J L S w Q X);refine wpIn_loop (fun a w=>∃k,k<=n+1/\∃env S M J L,CS P O K A base b M J L S env w a/\((ex K k).loop (bB P O A b c) env S).All Q/\tP P O K A base b M J L S w Q X) N ⟨n+1,O_ _,env,S,M,J,L,cs,o,h⟩ ?_;rintro a w ⟨k,D,x⟩;obtain⟨⟨env,S,M,J,L,cs,o,h⟩,i⟩:=v a w ⟨k,x⟩;have q:=i k x;generalize hm:N a w=m at o q;cases m with
 |zero=>exact o.elim
 |succ m =>
  obtain⟨E,C⟩:=I m A_;have l:((eV K (ex K m) (bB P O A b c) env S).bind fun r=>match r.1 with
    |.normal=>(ex K m).loop (bB P O A b c) r.2.1 r.2.2
    |j=>.ret (j,r.2.1,r.2.2)).All Q:=o
  rw[Out.all_bind]at l;refine aCp (base:=base) E C G H z c l p cs ?_;intro j env' S' M' J' L' w' y e s g f u t;cases j with
  |normal =>
   cases e<;>first|exact g.elim|skip
   show _/\_;have d:∃env S M J L,CS P O K A base b M J L S env w' y/\((ex K m).loop (bB P O A b c) env S).All Q/\tP P O K A base b M J L S w' Q X:=⟨env',S',M',J',L',f,s,h.next u t⟩
   refine⟨⟨m,by omega,d⟩,?_⟩;have:=(v y w' ⟨m,d⟩).2 m d;omega
  |exit id =>
   cases e<;>first|exact g.elim|skip
   exact h _ _ _ _ _ _ _ _ _ s g f u t
  |ret =>
   cases e<;>first|exact g.elim|skip
   exact h _ _ _ _ _ _ _ _ _ s g f u t
theorem bP2(b:KOK P O K):∀n m,m<=n->oF P O K (ex K m)/\zV P O K (ex K m)
 |0,m,hm=>by
  obtain rfl:m=0:=A_;exact⟨⟨⟨fun f F h n args S Q a=>a.elim,fun i F h n args S Q a=>a.elim,b.prim⟩,fun k ⟨l,g⟩=>by
    obtain⟨A,fn,p,o,h3⟩:=b.funcs k l g
    refine⟨fn,p,?_,o⟩
    unfold sY at h3
    split at h3
    .rename_i c _ hc _;simp[hc]
    .simp at h3,fun k args S Q a=>a.elim,b.mixed⟩,
   fun A r q F h n c env S Q a=>a.elim⟩
 |n+1,m,hm=>by
  have e:=bP2 b n;by_cases hmn:m<=n;.exact e m hmn
  .obtain rfl:m=n+1:=A_;obtain⟨d,j⟩:=e n (O_ _);refine⟨⟨⟨aNo b d j,aRm d j,b.prim⟩,d.body,fun k args S Q a=>?_,b.mixed⟩,bMy e⟩;have a:(eM K (ex K n) k args S).All Q:=a;unfold eM at a;split at a;.exact a.elim
   .rename_i fn hfn;exact⟨fn,hfn⟩
theorem bU8(a:KOK P O K){n:Nat}{f:Nat}{args:Tn_}{S:aA}{Q:TV×aA->Prop}(c:((ex K n).call f args S).All Q){M:Mem}{J:aF}{w:World}{vals:List Value}(d:VRs M J [] args vals)(e:WR P O M J S w)(b:rH K M): Calls P f vals.toArray w (gP P O M J S w Q) :=
 callsIn_wide (n:=0).1 ((bP2 a n n (O_ _)).1.ok.call f Fence.wide cZ.wide 0 args S Q c M J w vals d e b)
end
end Go.TM
namespace Go.TM
open Go
inductive Ty (P:Program) {H:Type}:TypeId->DataW H->List IV->Prop
 |bool (t:TypeId) (ht:P.underlying t=some .bool) (b:Bool):Ty P t (.lit (.bool b)) [.bool b]
 |int (t:TypeId) (k:IntKind) (ht:P.underlying t=some (.int k)) (n:Int) (hw:(Lit.int k n).wf=true):Ty P t (.lit (.int k n)) [.int k n]
 |str (t:TypeId) (ht:P.underlying t=some .string) (s:List UInt8) (hs:s.length<=maxLen):Ty P t (.lit (.string s)) [.str s]
 |nilp (t e:TypeId) (ht:P.underlying t=some (.pointer e)):Ty P t .nil [.nilp]
 |ptr (t e:TypeId) (ht:P.underlying t=some (.pointer e)) (d:DataW H) (l:List IV) (h:Ty P e d l) (hl:l.length=P.cellsOf e):Ty P t (.ptr d) [.cp l]
 |nils (t e:TypeId) (ht:P.underlying t=some (.slice e)):Ty P t .nil [.sl .nil []]
 |sl (t e:TypeId) (ht:P.underlying t=some (.slice e)) (ds sp:List (DataW H)) (ls:List (List IV)) (tag:Tag) (htag:tag≠.nil) (hn:ls.length=ds.length) (hm:ls.length+sp.length<=maxLen)
   (h:∀(i:Nat) (d:DataW H) (l:List IV),ds[i]?=some d->ls[i]?=some l->Ty P e d l) (hl:∀l∈ls,l.length=P.cellsOf e):Ty P t (.slice ds sp) [.sl tag ls]
 |struct (t:TypeId) (fs:Array Field) (ht:P.underlying t=some (.struct fs)) (ds:List (DataW H)) (ls:List (List IV)) (h1:ds.length=fs.size) (h2:ls.length=fs.size)
   (h:∀(i:Nat) (f:Field) (d:DataW H) (l:List IV),fs[i]?=some f->ds[i]?=some d->ls[i]?=some l->Ty P f.type d l) (hl:∀(i:Nat) (f:Field) (l:List IV),fs[i]?=some f->ls[i]?=some l->l.length=P.cellsOf f.type):Ty P t (.agg ds) (bC ls)
 |array (t e:TypeId) (n:Nat) (ht:P.underlying t=some (.array n e)) (ds:List (DataW H)) (ls:List (List IV)) (h1:ds.length=n) (h2:ls.length=n)
   (h:∀(i:Nat) (d:DataW H) (l:List IV),ds[i]?=some d->ls[i]?=some l->Ty P e d l) (hl:∀l∈ls,l.length=P.cellsOf e):Ty P t (.agg ds) (bC ls)
def lM:List (Nat×Nat)->Nat->Option Nat
 |[],o=>some o
 |p::r,o=>if p.1=o then lM r (o+p.2)else none
def aYm(P:Program)(ts:List TypeId):Bool :=
 ts.all fun t=>match P.underlying t with
  |some .bool|some (.int _)|some .string=>true
  |some (.slice e)|some (.pointer e)=>ts.contains e&&P.cellsOf e != 0
  |some (.struct fs)=>lM (fs.toList.map fun f=>(f.offset,P.cellsOf f.type)) 0==some (P.cellsOf t)&&fs.toList.all fun f=>ts.contains f.type
  |some (.array n e)=>ts.contains e&&P.cellsOf t==n*P.cellsOf e
  |_=>false
def eY(w:World):Mem:=fun b o=>w.cell? ⟨b,o,none⟩
section
variable {P:Program}{H:Type}{enc:TypeId×Value->H}{w:World}{base:Nat}{held:Bool}
def IRs(M:Mem)(l:List IV)(vs:List Value):Prop:=l.length=vs.length/\∀(i:Nat) (a:IV) (v:Value),l[i]?=some a->vs[i]?=some v->IR M a v
theorem IRs.one{M:Mem}{a:IV}{v:Value}(h:IR M a v):IRs M [a] [v]:=by
 refine⟨rfl,fun i b u c d=>?_⟩;cases i with
 |zero=>simp at c d;subst c;subst d;exact h
 |succ i=>simp at c
theorem IRs.append{M:Mem}{l l':Tq_}{vs d:List Value}(h:IRs M l vs)(e:IRs M l' d):IRs M (l++l') (vs++d):=by
 refine⟨by simp[h.1,e.1],fun i a v c b=>?_⟩;rw[F7]at c b;by_cases hi:i<l.length;.rw[K_ hi]at c;rw[K_ (by rw[<-h.1];exact hi)]at b;exact h.2 i a v c b
 .rw[I_ hi]at c;rw[I_ (by rw[<-h.1];exact hi)]at b;rw[<-h.1]at b;exact e.2 _ a v c b
theorem zZ:∀ {ps:List (Nat×Nat)} {o t:Nat},lM ps o=some t->o<=t
 |[],o,t,h=>by simp[lM]at h;omega
 |p::r,o,t,h=>by
  simp only[lM]at h;split at h;.have:=zZ h;omega
  .simp at h
theorem wS{M:Mem}{cs:List Value}:∀ {ps:List (Nat×Nat)} {o t:Nat} {ls:Tp_},lM ps o=some t->ls.length=ps.length->(∀(i:Nat) (p:Nat×Nat) (l:Tq_),ps[i]?=some p->ls[i]?=some l->IRs M l ((cs.drop p.1).take p.2)) ->IRs M (bC ls) ((cs.drop o).take (t-o))
 |[],o,t,ls,h,hl,_=>by simp[lM]at h;subst h;have:ls=[]:=Z_ (by simpa using hl);subst this;exact⟨by simp[bC],fun i a v b=>by simp[bC]at b⟩
 |p::r,o,t,ls,h,hl,hp=>by
  simp only[lM]at h;split at h
  .rename_i hpo;cases ls with
   |nil=>simp at hl
   |cons l ls =>
    have d:=hp 0 p l rfl rfl;have c:=wS (M:=M) (cs:=cs) (ls:=ls) h (by simpa using hl) (fun i q m g f=>hp (i+1) q m (by simpa using g) (by simpa using f));have j:=zZ h;have e:(cs.drop o).take (t-o)=(cs.drop p.1).take p.2++(cs.drop (o+p.2)).take (t-(o+p.2)):=by rw[hpo,<-U0];have:t-o=p.2+(t-(o+p.2)):=A_;rw[this,List.take_add]
    rw[e];exact d.append c
  .simp at h
theorem uZ{a:Addr}{n:Nat}{cs:List Value}(h:w.cells? base a n=some cs):cs.length=n/\(0<n->a.spot=none)/\∀(i:Nat) (v:Value),cs[i]?=some v->eY w a.block (a.off+i)=some v:=by
 unfold World.cells? at h;split at h
 .have d:=mapM_some_length h;simp at d;have g:∀i,i<n->w.cell? (a.add i)=cs[i]? := fun i e=>mapM_some_get h i i (by simp[e]);have c:0<n->a.spot=none:=by
   intro l;have b:=g 0 l;have:cs[0]?=some cs[0]:=D_ A_;rw[this]at b;simp only[Addr.add,N8,World.cell?]at b;split at b
   .split at b;.simp at b
    .rename_i k;simpa using k
   .simp at b
  refine⟨d,c,fun i v j=>?_⟩;have e:i<n:=by rw[<-d];exact(E_.1 j).1
  have f:=g i e;rw[j]at f;have k:=c A_;unfold eY;rw[<-f];congr 1;unfold Addr.add;split;.rename_i b;subst b;cases a;simp_all
  .rfl
 .simp at h
theorem aNp{a:Addr}(h:a.spot=none):a=⟨a.block,a.off,none⟩:=by cases a;simp_all
theorem aCr{α j:Type}{Q:Nat->j->Prop}:∀(n:Nat),(∀i,i<n->∃b,Q i b)->∃l:List j,l.length=n/\∀(i:Nat) (b:j),l[i]?=some b->Q i b
 |0,_=>⟨[],rfl,fun i b h=>by simp at h⟩
 |n+1,h=>by
  obtain⟨l,d,e⟩:=aCr (α:=α) n (fun i g=>h i A_);obtain⟨b,f⟩:=h n A_;refine⟨l++[b],by simp[d],fun i c a=>?_⟩;rw[F7]at a;split at a;.exact e i c a
  .have:i-l.length=0:=by
    rcases U3 (i-l.length)with h'|h';.exact h'
    .rw[B5 (by simp;omega)]at a;simp at a
   rw[this]at a;simp at a;subst a;have:i=n:=A_;rw[this];exact f
theorem aV3{ts:List TypeId}(g2:aYm P ts=true):∀(Y:Nat) (t:TypeId) (cs:List Value) (x:DataW H×List MemPlace),t∈ts->DataW.trod enc P w base (fun _=>true) held Y t cs=some x->∃l,Ty P t x.1 l/\IRs (eY w) l cs:=by
 intro Y;induction Y with
 |zero=>intro t cs x _ h;simp[DataW.trod]at h
 |succ Y ih =>
  intro t cs x ht h;have g:=(C6.1 g2) t ht;cases hu:P.underlying t with
  |none=>rw[hu]at g;simp at g
  |some d =>
   rw[hu]at g;cases d with
   |bool =>obtain⟨b,rfl,rfl⟩:=DataW.trod_bool hu h;exact⟨_,.bool t hu b,.one (.bool b)⟩
   |int k =>obtain⟨n,rfl,rfl,hw⟩:=DataW.trod_int hu h;exact⟨_,.int t k hu n hw,.one (.int k n)⟩
   |string =>obtain⟨s,rfl,rfl,hs⟩:=DataW.trod_string hu h;refine⟨_,.str t hu s.data.toList (by rw[Array.length_toList];exact hs),.one ?_⟩;have:=IR.str (M:=eY w) s.data.toList;simpa using this
   |pointer e =>
    simp only[P_,bne_iff_ne,ne_eq,N7]at g;rcases DataW.trod_pointer hu h with⟨rfl,rfl⟩|⟨a,z,y,n,hn,rfl,rfl,Z,hy⟩;.exact⟨_,.nilp t e hu,.one .nilp⟩
    .simp at hn;subst hn;obtain⟨l,G,V⟩:=ih e z y g.1 hy;obtain⟨c1,c2,c3⟩:=uZ Z;refine⟨_,.ptr t e hu _ l G (by rw[V.1,c1]),.one ?_⟩;rw[aNp (c2 A_)];refine .cp l a.block a.off (fun i=>z.getD i Go.undef) (fun i x I=>?_) (fun i x I=>?_)
     .have A:i<z.length:=by rw[<-V.1];exact(E_.1 I).1
      simpa[List.getD,D_ A] using c3 i _ (D_ A)
     .have A:i<z.length:=by rw[<-V.1];exact(E_.1 I).1
      simpa[List.getD,D_ A] using V.2 i x _ I (D_ A)
   |slice e =>
    simp only[P_,bne_iff_ne,ne_eq,N7]at g;rcases DataW.trod_slice hu h with⟨rfl,rfl⟩|⟨a,N,cap,u,W,n,hn,rfl,rfl,hb,g3,hm,g6,he,g8,_⟩;.exact⟨_,.nils t e hu,.one .slNil⟩
    .simp at hn;subst hn;obtain⟨g7,hr⟩:=g8 rfl;have C:∀i,i<N->∃q:List IV×List Value,Ty P e (u.getD i (.nil,[])).1 q.1/\IRs (eY w) q.1 q.2/\w.cells? base (a.add (i*P.cellsOf e)) (P.cellsOf e)=some q.2:=by
      intro i A;have G:=he i A;have V:u[i]?=some (u.getD i (.nil,[])):=by have:i<u.length:=A_;simp[List.getD,D_ this]
      rw[V,N4]at G;obtain⟨z,h3,h4⟩:=G;obtain⟨l,h5,h6⟩:=ih e z _ g.1 h4;exact⟨(l,z),h5,h6,h3⟩
     obtain⟨qs,h7,T⟩:=aCr (α:=Unit) N C;have hz:∀l∈qs.map (·.1),l.length=P.cellsOf e:=by intro l E;obtain⟨q,J,rfl⟩:=A0.1 E;obtain⟨i,A⟩:=I6 J;obtain⟨_,V,h3⟩:=T i q A;rw[V.1,(uZ h3).1]
     have ga:Ty P t (.slice (u.map (·.1)) (W.map (·.1))) [.sl (if cap=N then .full else .no) (qs.map (·.1))]:=by
      refine .sl t e hu _ _ _ _ (by split<;>simp) (by simp[h7,g6]) (by simp[h7,g7];omega) (fun i d l hd E=>?_) hz;simp only[p_,G_]at hd E;obtain⟨x,I,rfl⟩:=hd;obtain⟨q,J,rfl⟩:=E;obtain⟨G,_⟩:=T i q J;have g4:u.getD i (.nil,[])=x:=by simp[List.getD,I]
      rw[g4]at G;exact G
     refine⟨_,ga,.one ?_⟩;by_cases hc0:cap=0;.subst hc0;have ho:N=0:=A_;subst ho;have:qs=[]:=Z_ h7;subst this;exact .slE _ _ B_
     .have hg:a.spot=none:=by
       have key:∀ {n:Nat} {z:List Value},w.cells? base (a.add 0) n=some z->0<n->a.spot=none:=fun hh hn=>(uZ hh).2.1 hn;by_cases ho:N=0
       .have G:=hr 0 A_;have V:W[0]?=some (W.getD 0 (.nil,[])):=by have:0<W.length:=A_;simp[List.getD,D_ this]
        rw[V,N4,ho]at G;obtain⟨z,h3,_⟩:=G;simp only[Nat.add_zero,P8]at h3;exact key h3 A_
       .obtain⟨q,J⟩:∃q,qs[0]?=some q:=⟨_,D_ A_⟩
        have h3:=(T 0 q J).2.2;rw[P8]at h3;exact key h3 A_
      rw[aNp hg];have g1:N=(qs.map (·.1)).length:=by simp[h7]
      have h9:∀(i:Nat) (q:List IV×List Value),qs[i]?=some q->∀(j:Nat) (v:Value),q.2[j]?=some v->eY w a.block (a.off+i*P.cellsOf e+j)=some v:=by
       intro i q J j v hv;obtain⟨_,_,h3⟩:=T i q J;have h4:=(uZ h3).2.2 j v hv;have e1:(a.add (i*P.cellsOf e)).block=a.block:=by unfold Addr.add;split<;>rfl
       have e2:(a.add (i*P.cellsOf e)).off=a.off+i*P.cellsOf e:=by
        unfold Addr.add;split;.rename_i h0;omega
        .rfl
       rw[e1,e2]at h4;exact h4
      have:=IR.sl (M:=eY w) (if cap=N then .full else .no) (qs.map (·.1)) a.block a.off cap (P.cellsOf e) (fun i j=>((qs.getD i ([],[])).2).getD j Go.undef) (by split<;>simp) hz (by simp[h7];exact g3) (fun D=>by
       split at D;.rename_i L;simp[h7,L]
       .simp at D) (fun i c j x Z I=>by
        simp only[p_,G_]at Z;obtain⟨q,J,rfl⟩:=Z;have hj:j<q.2.length:=by rw[<-(T i q J).2.1.1];exact(E_.1 I).1
        have e0:qs.getD i ([],[])=q:=by simp[List.getD,J]
        rw[e0];simpa[List.getD,D_ hj] using h9 i q J j _ (D_ hj)) (fun i c j x Z I=>by
        simp only[p_,G_]at Z;obtain⟨q,J,rfl⟩:=Z;have hj:j<q.2.length:=by rw[<-(T i q J).2.1.1];exact(E_.1 I).1
        have e0:qs.getD i ([],[])=q:=by simp[List.getD,J]
        rw[e0];simpa[List.getD,D_ hj] using(T i q J).2.1.2 j x _ I (D_ hj))
      rw[<-g1]at this;exact this
   |struct fs =>
    simp only[P_,F5,C6,N7]at g;obtain⟨xs,n,hn,rfl,L,h8,I⟩:=DataW.trod_struct hu h;simp at hn;subst hn;have C:∀i,i<fs.size->∃l:List IV,∀f y,fs[i]?=some f->xs[i]?=some y->Ty P f.type y.1 l/\IRs (eY w) l ((cs.drop f.offset).take (P.cellsOf f.type)):=by intro i A;have D:fs[i]?=some fs[i]:=A8 A;have hy:xs[i]?=some xs[i]:=D_ A_;have G:=I i _ D;rw[hy]at G;obtain⟨l,V,h3⟩:=ih _ _ _ (g.2 _ B_) G;refine⟨l,fun f y ha U=>?_⟩;rw[D]at ha;rw[hy]at U;simp at ha U;subst ha;subst U;exact⟨V,h3⟩
    obtain⟨ls,R,Q⟩:=aCr (α:=Unit) fs.size C;have F:=wS (M:=eY w) (cs:=cs) (ls:=ls) g.1 (by simp[R]) (fun i p l hp E=>by
     simp only[p_,G_]at hp;obtain⟨f,D,rfl⟩:=hp;have D:fs[i]?=some f:=by simpa using D
     have A:i<fs.size:=(T8.1 D).1;exact(Q i l E f _ D (D_ (by omega:i<xs.length))).2)
    rw[C4,Nat.sub_zero,<-L,B9]at F;refine⟨bC ls,.struct t fs hu _ ls (by simp[h8]) R (fun i f d l D hd E=>?_) (fun i f l D E=>?_),F⟩;.simp only[p_,G_]at hd;obtain⟨y,hy,rfl⟩:=hd;exact(Q i l E f y D hy).1
    .have A:i<fs.size:=(T8.1 D).1;have h3:=(Q i l E f _ D (D_ (by omega:i<xs.length))).2;have hy:=I i f D;rw[h3.1,K0,W6];have gb:f.offset+P.cellsOf f.type<=cs.length:=by
      rw[L];have key:∀ {ps:List (Nat×Nat)} {o tt:Nat} {k:Nat} {p:Nat×Nat},lM ps o=some tt->ps[k]?=some p->p.1+p.2<=tt:=by
       intro ps;induction ps with
       |nil=>intro o tt k p _ hk;simp at hk
       |cons q r ihr =>
        intro o tt k p Z hk;simp only[lM]at Z;split at Z
        .rename_i J;cases k with
         |zero=>simp at hk;subst hk;have:=zZ Z;omega
         |succ k=>simp at hk;exact ihr Z hk
        .simp at Z
      exact key (p:=(f.offset,P.cellsOf f.type)) g.1 (k:=i) (by simp only[p_,K7,D,Option.map_some])
     omega
   |array n e =>
    simp only[P_,F5,N7]at g;obtain⟨xs,m,hn,rfl,L,h8,I⟩:=DataW.trod_array hu h;simp at hn;subst hn;have C:∀i,i<n->∃l:List IV,∀y,xs[i]?=some y->Ty P e y.1 l/\IRs (eY w) l ((cs.drop (i*P.cellsOf e)).take (P.cellsOf e)):=by intro i A;have hy:xs[i]?=some xs[i]:=D_ A_;have G:=I i A;rw[hy]at G;obtain⟨l,V,h3⟩:=ih _ _ _ g.1 G;refine⟨l,fun y U=>?_⟩;rw[hy]at U;simp at U;subst U;exact⟨V,h3⟩
    obtain⟨ls,R,Q⟩:=aCr (α:=Unit) n C;have g9:∀(k m:Nat),lM ((List.range' k m).map fun i=>(i*P.cellsOf e,P.cellsOf e)) (k*P.cellsOf e)=some ((k+m)*P.cellsOf e):=by
     intro k m;induction m generalizing k with
     |zero=>simp[lM]
     |succ m ihm =>rw[W9,Q_,lM,K_ rfl];have:=ihm (k+1);rw[E2,Nat.one_mul]at this;rw[this];congr 2;omega
    have F:=wS (M:=eY w) (cs:=cs) (ls:=ls) (g9 0 n) (by simp[R]) (fun i p l hp E=>by
     simp only[p_,G_]at hp;obtain⟨k,hk,rfl⟩:=hp;have A:i<n:=by rw[<-R];exact(E_.1 E).1
     rw[List.getElem?_range' A]at hk;simp at hk;subst hk;exact(Q i l E _ (D_ (by omega:i<xs.length))).2)
    rw[P8,C4,Nat.sub_zero,A7,<-g.2,<-L,B9]at F;refine⟨bC ls,.array t e n hu _ ls (by simp[h8]) R (fun i d l hd E=>?_) (fun l E=>?_),F⟩;.simp only[p_,G_]at hd;obtain⟨y,hy,rfl⟩:=hd;exact(Q i l E y hy).1
    .obtain⟨i,A⟩:=I6 E;have g5:i<n:=by rw[<-R];exact(E_.1 A).1
     have h3:=(Q i l A _ (D_ (by omega:i<xs.length))).2;rw[h3.1,K0,W6,L,g.2];have:(i+1)*P.cellsOf e<=n*P.cellsOf e:=D4 _ g5;rw[E2]at this;omega
   |_=>simp at g
end
end Go.TM
namespace Go.TM
open Go Go.RowKit
mutual
def aRn{H:Type}:DataW H->List IV
 |.lit (.bool b)=>[.bool b]
 |.lit (.int k n)=>[.int k n]
 |.lit (.string s)=>[.str s]
 |.agg ps=>aV4 ps
 |_=>[]
def aV4{H:Type}:List (DataW H)->List IV
 |[]=>[]
 |d::r=>aRn d++aV4 r
end
mutual
def aGb{H:Type}:DataW H->Bool
 |.lit _=>true
 |.agg ps=>aV5 ps
 |_=>false
def aV5{H:Type}:List (DataW H)->Bool
 |[]=>true
 |d::r=>aGb d&&aV5 r
end
theorem aAa{H:Type}:∀ {ds:List (DataW H)},aV5 ds=true->∀(i:Nat) (d:DataW H),ds[i]?=some d->aGb d=true
 |[],_,i,d,h=>by simp at h
 |x::r,h,i,d,hd=>by
  simp only[aV5,P_]at h;cases i with
  |zero=>simp at hd;subst hd;exact h.1
  |succ i=>exact aAa h.2 i d (by simpa using hd)
theorem wT{H:Type}:∀ {ds:List (DataW H)} {ls:Tp_},ls.length=ds.length->(∀(i:Nat) (d:DataW H) (l:Tq_),ds[i]?=some d->ls[i]?=some l->l=aRn d)->bC ls=aV4 ds
 |[],ls,hl,_=>by have:ls=[]:=Z_ (by simpa using hl);subst this;rfl
 |d::ds,ls,hl,h=>by
  cases ls with
  |nil=>simp at hl
  |cons l ls =>have b:=h 0 d l rfl rfl;have e:=wT (ds:=ds) (ls:=ls) (by simpa using hl) (fun i f l' c a=>h (i+1) f l' (by simpa using c) (by simpa using a));simp only[bC,aV4,b,e]
theorem bSq{P:Program}{H:Type}{t:TypeId}{d:DataW H}{l:Tq_}(h:Ty P t d l):aGb d=true->l=aRn d:=by
 induction h with
 |bool t ht b=>intro _;rfl
 |int t k ht n hw=>intro _;rfl
 |str t ht s hs=>intro _;rfl
 |nilp t e ht=>intro h;simp[aGb]at h
 |ptr t e ht d l h hl ih=>intro h;simp[aGb]at h
 |nils t e ht=>intro h;simp[aGb]at h
 |sl t e ht ds sp ls tag htag hn hm h hl ih=>intro h;simp[aGb]at h
 |struct t fs ht ds ls h1 h2 h hl ih =>
  intro f;simp only[aGb]at f;simp only[aRn];refine wT A_ (fun i d l a c=>?_);have g:i<fs.size:=by rw[<-h1];exact(E_.1 a).1
  exact ih i fs[i] d l (A8 g) a c (aAa f i d a)
 |array t e n ht ds ls h1 h2 h hl ih =>intro f;simp only[aGb]at f;simp only[aRn];exact wT A_ (fun i d l a c=>ih i d l a c (aAa f i d a))
section
variable {P:Program}{W:World}
theorem aHy{ts:List TypeId}(c:aYm P ts=true):∀ {a:List (String×DataW Unit)} {ps:List MemPlace},DataW.LaidVars P W a ps->∀(n:String) (d:DataW Unit),(n,d)∈a->∀(g:Nat) (t:TypeId),P.globalNamed n=some g->(P.globals[g]?).map (·.type)=some t->t∈ts->aGb d=true ->IR (eY W) (.cp (aRn d)) (.pointer (some ⟨g,0,none⟩))
 |[],_,_,n,d,h=>by simp at h
 |(n0,d0)::r,ps,h,n,d,o=>by
  intro g t m u f v;obtain⟨E,D,cs,b,p,q,A,w,h3,C,y,_⟩:=h;rcases J_.1 o with e|o
  .simp only[B7]at e;obtain⟨rfl,rfl⟩:=e;obtain rfl:=D6 (m.symm.trans A);obtain rfl:=D6 (u.symm.trans w);obtain⟨l,z,s⟩:=aV3 c b t cs.toList _ f C;have:=bSq z v;subst this;refine .cp _ g 0 (fun i=>cs.getD i Go.undef) (fun i x k=>?_) (fun i x k=>?_)
   .have j:i<cs.size:=by have:=(E_.1 k).1;rw[s.1]at this;simpa using this
    show W.cell? ⟨g,0+i,none⟩=_;rw[A7,World.var?_cell m h3 i,A8 j];simp[B2,A8 j]
   .have j:i<cs.size:=by have:=(E_.1 k).1;rw[s.1]at this;simpa using this
    have:=s.2 i x cs[i] k (by simp[j]);simpa[B2,A8 j] using this
  .exact aHy c y n d o g t m u f v
theorem aYn{O:dH}(W:World):WR P O (eY W) [] [] W:=.empty (fun _ _ _ h=>h)
theorem bFs{M M':Mem}{J':aF}{S':aA}{W':World}(h:Tr (fun _=>False) M [] [] W M' J' S' W'):Below W.heap.size W W' :=
 ⟨h.os,h.tape,h.output,h.size,fun k a=>h.frame k a (by rintro⟨i,l,b,_⟩;simp[aF.at]at b) (fun h=>h)⟩
theorem aYo{O:dH}{K:TM.bD}(j:KOK P O K){n f:Nat}{args:Tn_}(k:((ex K n).call f args []).All (fun r=>r.1=.iv (.bool true))){vals:Array Value}(i:VRs (eY W) [] [] args vals.toList)(g:rH K (eY W)): Calls P f vals W fun e W'=>e=.returned (.bool true)/\Below W.heap.size W W':=by
 have h:=bU8 j k i (aYn W) g;have e:vals.toList.toArray=vals:=B_;rw[e]at h;refine h.mono (fun en W' a=>?_);cases en with
 |returned v' =>obtain⟨v,S',M',J',d,b,_,l⟩:=a;simp only at d;subst d;exact⟨by rw[b.bool_inv],bFs l⟩
 |panicked c=>exact a.elim
 |outgrown=>exact a.elim
theorem aHz{H:Type}{enc:TypeId×Value->H}(c:laidOutB P=true){W':World}(e:Below W.heap.size W W'):∀ {ts:List TypeId} {vs:List Value} {ds:List (DataW H)} {ps:List MemPlace},(∀t∈ts,P.readableRec t=true/\t<P.types.size) ->DataW.TrodAll enc P W 0 (fun _=>true) true ts vs ds ps->(∀x∈ps,x.block<W.heap.size)->DataW.TrodAll enc P W' 0 (fun b=>decide (b<W.heap.size)) true ts vs ds ps
 |[],vs,ds,ps,_,h,_=>by obtain⟨rfl,rfl,rfl⟩:=Go.ChangeShapes.trodAll_nil h;rfl
 |t::ts,vs,ds,ps,ht,h,hlt=>by obtain⟨v,i,d,k,p,q,rfl,rfl,rfl,j,g⟩:=Go.ChangeShapes.trodAll_cons h;exact⟨p,q,Below.trod c (ht t B_).1 (ht t B_).2 j e (fun x a=>hlt x (by simp[a])),aHz c e (fun u f=>ht u (by simp[f])) g (fun x a=>hlt x (by simp[a])),rfl⟩
theorem bFt{H:Type}{enc:TypeId×Value->H}(D:laidOutB P=true){f:Func}{s:ChangeSpec}{b c d:Bool}{W':World}{args:Array Value}{ds m:List (DataW H)}{a:List MemPlace}(E:DataW.Whole enc P f.params.toList s.vars b W args.toList ds m a) (n:s.vars=[]) (e:s.fn H ds={results:=[.lit (.bool true)],args:=ds}) (i:f.params.all (fun t=>P.readableRec t&&decide (t<P.types.size))=true) {tb:TypeId} (u:f.resultTypes=#[tb]) (w:P.underlying tb=some .bool) (A:Below W.heap.size W W'): s.post enc P f b c d false W args (.bool true) W':=by
 obtain⟨p,q,z,y,o,C,l⟩:=E;have k:=z.lt;rw[n]at y;obtain⟨x,v⟩:m=[]/\q=[]:=by
  cases m with
  |nil=>exact⟨rfl,y⟩
  |cons g r=>exact absurd y (by intro h;cases h)
 subst x;subst v;have j:=aHz D A (fun t F=>by rw[<-V9,C6]at i;have:=i t F;simpa using this) z k;refine⟨ds,[],a,[],p,[],⟨p,[],z,by rw[n];exact rfl,o,C,l⟩,?_,?_,?_,?_,fun h=>by simp at h⟩;.rw[A4,e,u];exact⟨[],[],⟨1,by cases c<;>simp[DataW.trod,w,Value.cells]⟩,rfl,rfl⟩
 .rw[A4,e];exact j
 .rw[A4,e,n];exact rfl
 .exact A.frame _
end
def isTrue(r:TV×aA):Bool :=
 match r.1 with
 |.iv (.bool true)=>true
 |_=>false
def aH0{α:Type}(Q:Nat->α->Prop):Nat->List (Option α)->Prop
 |_,[]=>True
 |i,none::r=>aH0 Q (i+1) r
 |i,some t::r=>Q i t/\aH0 Q (i+1) r
theorem wU{α:Type}{Q:Nat->α->Prop}:∀ {l:List (Option α)} {i:Nat},aH0 Q i l->∀(k:Nat) (t:α),l.getD k none=some t->Q (i+k) t
 |[],i,_,k,t,h=>by simp[List.getD]at h
 |none::r,i,h,k,t,hk=>by
  cases k with
  |zero=>simp[List.getD]at hk
  |succ k =>have:=wU (l:=r) (i:=i+1) h k t (by simpa[List.getD] using hk);rwa [show i+1+k=i+(k+1) by omega]at this
 |some u::r,i,h,k,t,hk=>by
  cases k with
  |zero=>simp[List.getD]at hk;subst hk;exact h.1
  |succ k =>have:=wU (l:=r) (i:=i+1) h.2 k t (by simpa[List.getD] using hk);rwa [show i+1+k=i+(k+1) by omega]at this
theorem aH1{α:Type}{Q:Nat->α->Prop}{l:List (Option α)}(h:aH0 Q 0 l)(k:Nat)(t:α)(a:l.getD k none=some t):Q k t:=by have:=wU h k t a;rwa [A7]at this
end Go.TM
namespace Go.TM
end Go.TM
namespace Go.TM
theorem aV6(K:bD)(n:Nat)(b:aL)(env:Env)(S:aA):(ex K (n+1)).loop b env S=(eV K (ex K n) b env S).bind fun r=>match r.1 with
  |.normal=>(ex K n).loop b r.2.1 r.2.2
  |j=>.ret (j,r.2.1,r.2.2):=rfl
def cE:TOp->Nat
 |.mov _ | .pick .. | .build .. | .nilCheck _ | .bin .. | .eqB .. | .eqAgg .. | .un .. | .mkFn .. | .fieldAddr .. | .field .. | .indexAddrS .. | .indexAddrA .. | .indexA .. | .indexS .. | .extract .. | .cap _ | .lenC _ | .minmax ..=>0
 |.lit ..=>6
 |.load1 _ | .loadN .. | .slice .. | .lookup .. | .entryM _ | .len ..=>1
 |.allocH .. | .boxH .. | .mkMap | .mkSlice ..=>2
 |.conv ..=>4
 |.call .. | .callv .. | .prim .. | .nextM _=>5
 |_=>3
def Out.need{α:Type}(why:String)(x:Option TV)(f:TV->α):Out α :=
 match x with
 |some v=>.ret (f v)
 |none=>.fail why
@[simp] theorem Out.need_some {α:Type} (why:String) (v:TV) (f:TV->α):Out.need why (some v) f=.ret (f v):=rfl
section
variable (K:bD)(orc:Orc)(env rs:List TV)(S:aA)
theorem mP(o:TOp)(h:cE o≠5):bW K orc o env rs S=Out.ofOpt (sW o) (jI K o env rs S):=by cases o<;>first|rfl|simp[cE]at h
theorem ec0(o:TOp)(h:cE o=0):bW K orc o env rs S=Out.need (sW o) (aV o (aX K env rs)) fun v=>(v,env,S):=by
 rw[mP K orc env rs S o A_];have r:∀e,aO o e env S=none:=by intro e;cases o<;>first|rfl|simp[cE]at h
 have a:∀e n,bO o e n=none:=by intro e n;cases o<;>first|rfl|(simp[cE]at h;done)
 have s:∀e,gO o e rs env S=none:=by intro e;cases o<;>first|rfl|simp[cE]at h
 simp only[jI,iU];cases aV o (aX K env rs)<;>simp[r,a,s,Out.ofOpt,Out.need]
theorem ec1(o:TOp)(h:cE o=1):bW K orc o env rs S=Out.need (sW o) (aO o (aX K env rs) env S) fun v=>(v,env,S):=by
 rw[mP K orc env rs S o A_];have r:∀e,aV o e=none:=by intro e;cases o<;>first|rfl|(simp[cE]at h;done)
 have a:∀e n,bO o e n=none:=by intro e n;cases o<;>first|rfl|(simp[cE]at h;done)
 have s:∀e,gO o e rs env S=none:=by intro e;cases o<;>first|rfl|simp[cE]at h
 simp only[jI,iU,r];cases aO o (aX K env rs) env S<;>simp[a,s,Out.ofOpt,Out.need]
theorem ec4 (k : CK) (x : aH) : bW K orc (.conv k x) env rs S = Out.need "conv" (match (dD k (aX K env rs x)).map TV.iv with
  |some v=>some v
  |none=>aO (.conv k x) (aX K env rs) env S) fun v=>(v,env,S):=by
 rw[mP K orc env rs S _ (by simp[cE])]
 simp only[jI,iU,aV,sW]
 cases h1:(dD k (aX K env rs x)).map TV.iv with
 |some v=>simp[Out.ofOpt,Out.need]
 |none =>cases h2:aO (.conv k x) (aX K env rs) env S<;>simp[bO,gO,Out.ofOpt,Out.need]
end
end Go.TM
namespace Go.TM
inductive Out.Le {α:Type}:Out α->Out α->Prop
 |fail (s:String) (y:Out α):Out.Le (.fail s) y
 |ret (a:α):Out.Le (.ret a) (.ret a)
 |pick (n:Nat) (k k':Nat->Out α) (h:∀i,Out.Le (k i) (k' i)):Out.Le (.pick n k) (.pick n k')
theorem Out.Le.refl{α:Type}:∀(x:Out α),Out.Le x x
 |.ret a=>.ret a
 |.fail s=>.fail s _
 |.pick n k=>.pick n k k fun i=>Out.Le.refl (k i)
theorem Out.Le.bind{α c:Type}{f g:α->Out c}(b:∀a,Out.Le (f a) (g a)){x y:Out α}(h:Out.Le x y):Out.Le (x.bind f) (y.bind g):=by
 induction h with
 |fail s y=>exact .fail s _
 |ret a=>exact b a
 |pick n k k' h ih=>exact .pick n _ _ ih
structure Orc.Le (o o':Orc):Prop where
 call:∀f a S,Out.Le (o.call f a S) (o'.call f a S)
 yld:∀i a S,Out.Le (o.yld i a S) (o'.yld i a S)
 loop:∀b e S,Out.Le (o.loop b e S) (o'.loop b e S)
variable {K:bD}{o o':Orc}
theorem vX(h:Orc.Le o o')(f:Nat)(args:Tn_)(S:aA):Out.Le (fC o f args S) (fC o' f args S):=by
 unfold fC;split;.exact .refl _
 .exact(h.call _ _ _).bind fun a=>.refl _
theorem aBf(h:Orc.Le o o')(t:Bool)(f:Nat)(args:Tn_)(S:aA):Out.Le (jJ o t f args S) (jJ o' t f args S):=by
 unfold jJ;split;.exact .refl _
 .exact(h.call _ _ _).bind fun a=>.refl _
theorem aGc(h:Orc.Le o o')(op:TOp)(env rs:Tn_)(S:aA):Out.Le (bW K o op env rs S) (bW K o' op env rs S):=by
 unfold bW;split
 .refine Out.Le.bind (fun a=>.refl _) ?_;split;.exact vX h _ _ _
  .exact aBf h _ _ _ _
 .dsimp only;split
  .refine Out.Le.bind (fun a=>.refl _) ?_;split;.exact vX h _ _ _
   .exact aBf h _ _ _ _
  .split;.exact .refl _
   .exact Out.Le.bind (fun a=>.refl _) (h.yld _ _ _)
  .exact .refl _
 all_goals exact .refl _
theorem aBg(h:Orc.Le o o')(op:aK)(i:Nat)(rs:Tn_)(env:Env)(S:aA):Out.Le (jZ K o op i rs env S) (jZ K o' op i rs env S):=by
 unfold jZ;split;.exact .refl _
 .exact .refl _
 .exact(aGc h _ _ _ _).bind fun a=>.refl _
theorem aBh(h:Orc.Le o o'):∀(ops:List aK) (i:Nat) (rs:Tn_) (env:Env) (S:aA),Out.Le (kO K o ops i rs env S) (kO K o' ops i rs env S)
 |[],_,_,_,_=>.refl _
 |op::ops,i,rs,env,S=>(aBg h op i rs env S).bind fun r=>aBh h ops _ _ _ _
theorem tV(h:Orc.Le o o')(ops:List aK):∀(ps:Tl_) (rs:Tn_) (env:Env) (S:aA),Out.Le (eD K o ops ps rs env S) (eD K o' ops ps rs env S)
 |[],_,_,_=>.refl _
 |(i,chk,fl)::ps,rs,env,S=>by
  unfold eD;split;.exact .refl _
  .refine(aBg h _ _ _ _ _).bind fun r=>?_;split
   .split;.exact tV h ops ps _ _ _
    .exact .refl _
   .exact .refl _
theorem vA(h:Orc.Le o o'):∀(c:aL) (env:Env) (S:aA),Out.Le (eV K o c env S) (eV K o' c env S):=by
 intro c;induction c with
 |skip=>exact fun _ _=>.refl _
 |region ops=>exact fun env S=>(aBh h _ _ _ _ _).bind fun r=>.refl _
 |draw f0 ph ops =>
  intro env S;simp only[eV];split;.exact .refl _
  .exact(tV h _ _ _ _ _).bind fun r=>.refl _
 |seq a b iha ihb =>
  intro env S;simp only[eV];refine(iha env S).bind fun r=>?_;split;.exact ihb _ _
  .exact .refl _
 |cond c a b iha ihb =>
  intro env S;simp only[eV];split;.exact iha _ _
  .exact ihb _ _
  .exact .refl _
 |block id b ih=>exact fun env S=>(ih env S).bind fun r=>.refl _
 |loop b ih=>exact fun env S=>h.loop _ _ _
 |rangeFunc f ps a b iha ihb =>
  intro env S;simp only[eV];split;.exact(h.call _ _ _).bind fun r=>.refl _
  .exact .refl _
 |exit id=>exact fun _ _=>.refl _
 |ret=>exact fun _ _=>.refl _
 |bad=>exact fun _ _=>.refl _
theorem aGd(h:Orc.Le o o')(f:Nat)(args:Tn_)(S:aA):Out.Le (eM K o f args S) (eM K o' f args S):=by
 unfold eM;split;.exact .refl _
 .split;.exact .refl _
  .exact(vA h _ _ _).bind fun r=>.refl _
theorem aKs(h:Orc.Le o o')(i:Nat)(args:Tn_)(S:aA):Out.Le (iA K o i args S) (iA K o' i args S):=by
 unfold iA;split
 .split;.exact .refl _
  .refine(vA h _ _ _).bind fun r=>?_;split;.exact(vA h _ _ _).bind fun q=>.refl _
   .exact .refl _
 .exact .refl _
theorem rN:∀(n:Nat),Orc.Le (ex K n) (ex K (n+1))
 |0=>⟨fun _ _ _=>.fail _ _,fun _ _ _=>.fail _ _,fun _ _ _=>.fail _ _⟩
 |n+1=>by
  have c:=rN n;refine⟨fun f a S=>aGd c f a S,fun i a S=>aKs c i a S,fun b e S=>?_⟩;rw[aV6,aV6];refine(vA c b e S).bind fun r=>?_;split;.exact c.loop _ _ _
  .exact .refl _
theorem Out.Le.trans{α:Type}{x y z:Out α}(h:Out.Le x y):Out.Le y z->Out.Le x z:=by
 induction h generalizing z with
 |fail s y=>exact fun _=>.fail s z
 |ret a=>exact id
 |pick n k k' h ih =>
  intro g;cases g with
  |pick _ _ k2 g=>exact .pick n k k2 fun i=>ih i (g i)
theorem aEy{n m:Nat}(h:n<=m):Orc.Le (ex K n) (ex K m):=by
 induction h with
 |refl=>exact⟨fun _ _ _=>.refl _,fun _ _ _=>.refl _,fun _ _ _=>.refl _⟩
 |step _ ih=>exact⟨fun f a S=>(ih.call f a S).trans ((rN _).call f a S),fun i a S=>(ih.yld i a S).trans ((rN _).yld i a S),fun b e S=>(ih.loop b e S).trans ((rN _).loop b e S)⟩
end Go.TM
namespace Go.TM
open Go Go.ChangeShapes Go.WideShapes
variable {P:Program}{H:Type}{enc:TypeId×Value->H}{W:World}
def aH2(P:Program)(t:TypeId)(l:List IV):TV :=
 match P.underlying t with
 |some (.struct _)|some (.array _ _)=>.iv (.agg l)
 |_=>match l with
  |[x]=>.iv x
  |_=>.hole
theorem aEz{v:Value}{l:Tq_}(c:v.cells.toList=[v])(h:IRs (eY W) l v.cells.toList):∃x,l=[x]/\IR (eY W) x v:=by
 rw[c]at h;obtain⟨b,a⟩:=h;match l,b,a with
 |[x],_,a=>exact⟨x,rfl,a 0 x v rfl rfl⟩
theorem bSr{ts:List TypeId}(p:aYm P ts=true){r:Reach}{b base:Nat}{q:Bool}{t:TypeId}{v:Value}{d:DataW H}{ps:List MemPlace}(u:t∈ts)(f:Value.okWide P W r b t v) (h:DataW.Trod enc P W base (fun _=>true) q t v d ps):∃l,Ty P t d l/\VR (eY W) [] [] (aH2 P t l) v:=by
 obtain⟨o,h⟩:=h;obtain⟨l,w,m⟩:=aV3 p o t _ _ u h;refine⟨l,w,?_⟩;have g:=(C6.1 p) t u;unfold aH2;cases hu:P.underlying t with
 |none=>rw[hu]at g;simp at g
 |some ds =>
  rw[hu]at g;cases ds with
  |bool =>obtain⟨x,rfl⟩:=okWide_bool hu f;obtain⟨y,rfl,j⟩:=aEz rfl m;exact .iv _ j
  |int k =>obtain⟨x,rfl⟩:=okWide_int hu f;obtain⟨y,rfl,j⟩:=aEz rfl m;exact .iv _ j
  |string =>obtain⟨x,rfl⟩:=okWide_string hu f;obtain⟨y,rfl,j⟩:=aEz rfl m;exact .iv _ j
  |pointer e =>obtain⟨x,rfl⟩:=okWide_pointer hu f;obtain⟨y,rfl,j⟩:=aEz rfl m;exact .iv _ j
  |slice e =>obtain⟨a,n,c,rfl⟩:=okWide_slice hu f;obtain⟨y,rfl,j⟩:=aEz rfl m;exact .iv _ j
  |struct fs =>obtain⟨cs,rfl,_⟩:=okWide_struct hu f;have h3:IRs (eY W) l cs.toList:=m;exact .iv _ (.agg l cs (by have:=h3.1;simp at this;exact this.symm) fun i x v s f=>h3.2 i x v s (by simpa using f))
  |array n e =>
   obtain⟨cs,rfl⟩:∃cs,v=.agg cs:=by cases v<;>simp[Value.okWide,hu]at f |-
   have h3:IRs (eY W) l cs.toList:=m;exact .iv _ (.agg l cs (by have:=h3.1;simp at this;exact this.symm) fun i x v s f=>h3.2 i x v s (by simpa using f))
  |_=>simp at g
end Go.TM
namespace Go.TM
def Out.Ok{α:Type}(x:Out α):Prop:=x.All fun _=>True
inductive Out.Eqv {α:Type}:Out α->Out α->Prop
 |ret (a:α):Out.Eqv (.ret a) (.ret a)
 |pick (n:Nat) (k k':Nat->Out α) (h:∀i,i<n->Out.Eqv (k i) (k' i)):Out.Eqv (.pick n k) (.pick n k')
theorem Out.Eqv.refl{α:Type}:∀ {x:Out α},x.Ok->Out.Eqv x x
 |.ret a,_=>.ret a
 |.fail s,h=>by cases h
 |.pick n k,h=>.pick n k k fun i b=>Out.Eqv.refl (h i b)
theorem Out.Eqv.symm{α:Type}{x y:Out α}(h:Out.Eqv x y):Out.Eqv y x:=by
 induction h with
 |ret a=>exact .ret a
 |pick n k k' h ih=>exact .pick n k' k ih
theorem Out.Eqv.trans{α:Type}{x y z:Out α}(h:Out.Eqv x y):Out.Eqv y z->Out.Eqv x z:=by
 induction h generalizing z with
 |ret a=>exact id
 |pick n k k' h ih =>
  intro g;cases g with
  |pick _ _ k2 g=>exact .pick n k k2 fun i b=>ih i b (g i b)
theorem Out.Eqv.all{α:Type}{Q:α->Prop}{x y:Out α}(h:Out.Eqv x y):x.All Q->y.All Q:=by
 induction h with
 |ret a=>exact id
 |pick n k k' h ih=>exact fun q i b=>ih i b (q i b)
theorem Out.Eqv.ok{α:Type}{x y:Out α}(h:Out.Eqv x y):x.Ok:=by
 induction h with
 |ret a=>exact trivial
 |pick n k k' h ih=>exact ih
theorem Out.Eqv.eq{α:Type}{a:α}{x y:Out α}(h:Out.Eqv x y)(b:x=.ret a):y=.ret a:=by
 subst b;cases h
 rfl
theorem Out.Le.eqv{α:Type}{x y:Out α}(h:Out.Le x y):x.Ok->Out.Eqv x y:=by
 induction h with
 |fail s y=>intro h;cases h
 |ret a=>exact fun _=>.ret a
 |pick n k k' h ih=>exact fun q=>.pick n _ _ fun i b=>ih i (q i b)
theorem Out.Eqv.bind{α c:Type}{f g:α->Out c}{x y:Out α}(h:Out.Eqv x y):x.All (fun a=>Out.Eqv (f a) (g a))->Out.Eqv (x.bind f) (y.bind g):=by
 induction h with
 |ret a=>exact id
 |pick n k k' h ih=>exact fun q=>.pick n _ _ fun i b=>ih i b (q i b)
def Cont{α:Type}(x:Out α)(y:Nat->Out α):Prop:=x.Ok->∃n0,∀n,n0<=n->Out.Eqv x (y n)
theorem Cont.const{α:Type}(x:Out α):Cont x fun _=>x:=fun h=>⟨0,fun _ _=>.refl h⟩
theorem Out.all_later{α:Type}{Q:Nat->α->Prop}:∀ {x:Out α},x.All (fun a=>∃c,∀n,c<=n->Q n a)->∃c,∀n,c<=n->x.All (Q n)
 |.ret a,h=>h
 |.fail s,h=>h.elim
 |.pick m k,h=>by
  have:∀j,j<=m->∃c,∀n,c<=n->∀i,i<j->(k i).All (Q n):=by
   intro j;induction j with
   |zero=>exact fun _=>⟨0,fun _ _ i d=>A_⟩
   |succ j ih =>
    intro p;obtain⟨a,g⟩:=ih A_;obtain⟨b,l⟩:=Out.all_later (h j A_);refine⟨max a b,fun n f i d=>?_⟩;rcases Nat.lt_succ_iff_lt_or_eq.1 d with e|e;.exact g n A_ i e
    .subst e;exact l n A_
  obtain⟨c,o⟩:=this m (O_ m);exact⟨c,fun n f i d=>o n f i d⟩
theorem Cont.bind{α m:Type}{f:α->Out m}{g:Nat->α->Out m}{x:Out α}{y:Nat->Out α}(j:Cont x y)(k:∀a,Cont (f a) fun n=>g n a):Cont (x.bind f) fun n=>(y n).bind (g n):=by intro h;have c:x.All fun a=>(f a).Ok:=Out.all_bind.1 h;obtain⟨a,e⟩:=j (Out.all_mono (fun _ _=>trivial) c);obtain⟨b,i⟩:=Out.all_later (Q:=fun n a=>Out.Eqv (f a) (g n a)) (Out.all_mono (fun r d=>k r d) c);exact⟨max a b,fun n l=>(e n A_).bind (i n A_)⟩
structure Orc.Cont (o:Orc) (o':Nat->Orc):Prop where
 call:∀f a S,TM.Cont (o.call f a S) fun n=>(o' n).call f a S
 yld:∀i a S,TM.Cont (o.yld i a S) fun n=>(o' n).yld i a S
 loop:∀b e S,TM.Cont (o.loop b e S) fun n=>(o' n).loop b e S
variable {K:bD}{o:Orc}{o':Nat->Orc}
theorem vY(h:Orc.Cont o o')(f:Nat)(args:Tn_)(S:aA):Cont (fC o f args S) fun n=>fC (o' n) f args S:=by
 unfold fC;split;.exact .const _
 .exact(h.call _ _ _).bind fun a=>.const _
theorem aBi(h:Orc.Cont o o')(t:Bool)(f:Nat)(args:Tn_)(S:aA):Cont (jJ o t f args S) fun n=>jJ (o' n) t f args S:=by
 unfold jJ;split;.exact .const _
 .exact(h.call _ _ _).bind fun a=>.const _
theorem aGe(h:Orc.Cont o o')(op:TOp)(env rs:Tn_)(S:aA):Cont (bW K o op env rs S) fun n=>bW K (o' n) op env rs S:=by
 unfold bW;split
 .refine Cont.bind (g:=fun _ r=>_) ?_ (fun a=>.const _);split;.exact vY h _ _ _
  .exact aBi h _ _ _ _
 .dsimp only;split
  .refine Cont.bind (g:=fun _ r=>_) ?_ (fun a=>.const _);split;.exact vY h _ _ _
   .exact aBi h _ _ _ _
  .split;.exact .const _
   .exact Cont.bind (g:=fun _ r=>_) (h.yld _ _ _) (fun a=>.const _)
  .exact .const _
 all_goals exact .const _
theorem aBj(h:Orc.Cont o o')(op:aK)(i:Nat)(rs:Tn_)(env:Env)(S:aA):Cont (jZ K o op i rs env S) fun n=>jZ K (o' n) op i rs env S:=by
 unfold jZ;split;.exact .const _
 .exact .const _
 .exact Cont.bind (g:=fun _ r=>_) (aGe h _ _ _ _) (fun a=>.const _)
theorem aBk(h:Orc.Cont o o'):∀(ops:List aK) (i:Nat) (rs:Tn_) (env:Env) (S:aA),Cont (kO K o ops i rs env S) fun n=>kO K (o' n) ops i rs env S
 |[],_,_,_,_=>.const _
 |op::ops,i,rs,env,S=>by unfold kO;exact Cont.bind (g:=fun n r=>kO K (o' n) ops (i+1) r.1 r.2.1 r.2.2) (aBj h op i rs env S) (fun r=>aBk h ops _ _ _ _)
theorem tW(h:Orc.Cont o o')(ops:List aK):∀(ps:Tl_) (rs:Tn_) (env:Env) (S:aA),Cont (eD K o ops ps rs env S) fun n=>eD K (o' n) ops ps rs env S
 |[],_,_,_=>.const _
 |(i,chk,fl)::ps,rs,env,S=>by
  unfold eD;split;.exact .const _
  .refine Cont.bind (g:=fun n r=>_) (aBj h _ _ _ _ _) (fun r=>?_);split
   .split;.exact tW h ops ps _ _ _
    .exact .const _
   .exact .const _
theorem vB(h:Orc.Cont o o'):∀(c:aL) (env:Env) (S:aA),Cont (eV K o c env S) fun n=>eV K (o' n) c env S:=by
 intro c;induction c with
 |skip=>exact fun _ _=>.const _
 |region ops=>exact fun env S=>Cont.bind (g:=fun n r=>_) (aBk h _ _ _ _ _) (fun r=>.const _)
 |draw f0 ph ops =>
  intro env S;simp only[eV];split;.exact .const _
  .exact Cont.bind (g:=fun n r=>_) (tW h _ _ _ _ _) (fun r=>.const _)
 |seq a b iha ihb =>
  intro env S;simp only[eV];refine Cont.bind (g:=fun n r=>_) (iha env S) (fun r=>?_);split;.exact ihb _ _
  .exact .const _
 |cond c a b iha ihb =>
  intro env S;simp only[eV];split;.exact iha _ _
  .exact ihb _ _
  .exact .const _
 |block id b ih=>exact fun env S=>Cont.bind (g:=fun n r=>_) (ih env S) (fun r=>.const _)
 |loop b ih=>exact fun env S=>h.loop _ _ _
 |rangeFunc f ps a b iha ihb =>
  intro env S;simp only[eV];split;.exact Cont.bind (g:=fun n r=>_) (h.call _ _ _) (fun r=>.const _)
  .exact .const _
 |exit id=>exact fun _ _=>.const _
 |ret=>exact fun _ _=>.const _
 |bad=>exact fun _ _=>.const _
theorem aGf(h:Orc.Cont o o')(f:Nat)(args:Tn_)(S:aA):Cont (eM K o f args S) fun n=>eM K (o' n) f args S:=by
 unfold eM;split;.exact .const _
 .split;.exact .const _
  .exact Cont.bind (g:=fun n r=>_) (vB h _ _ _) (fun r=>.const _)
theorem aKt(h:Orc.Cont o o')(i:Nat)(args:Tn_)(S:aA):Cont (iA K o i args S) fun n=>iA K (o' n) i args S:=by
 unfold iA;split
 .split;.exact .const _
  .refine Cont.bind (g:=fun n r=>_) (vB h _ _ _) (fun r=>?_);split;.exact Cont.bind (g:=fun n r=>_) (vB h _ _ _) (fun q=>.const _)
   .exact .const _
 .exact .const _
open Classical in
noncomputable def limOf {α : Type} (y : Nat → Out α) : Out α := if h : ∃ n, (y n).Ok then y h.choose else .fail "no end"
theorem wV{α:Type}{y:Nat->Out α}(b:∀n m,n<=m->Out.Le (y n) (y m)):Cont (limOf y) y:=by
 intro h;unfold limOf at h |-;split at h;.rename_i hn;simp only[hn,↓reduceDIte];exact⟨hn.choose,fun n a=>(b _ _ a).eqv h⟩
 .cases h
theorem vC{α:Type}{y:Nat->Out α}(d:∀n m,n<=m->Out.Le (y n) (y m)){n:Nat}(h:(y n).Ok):Out.Eqv (y n) (limOf y):=by
 have c:∃n,(y n).Ok:=⟨n,h⟩
 unfold limOf
 simp only[c,↓reduceDIte]
 exact((d _ _ (Nat.le_max_left n c.choose)).eqv h).trans ((d _ _ (Nat.le_max_right n c.choose)).eqv c.choose_spec).symm
noncomputable def lim (K:bD):Orc :=
 ⟨fun f a S=>limOf fun n=>(ex K n).call f a S,fun i a S=>limOf fun n=>(ex K n).yld i a S,fun b e S=>limOf fun n=>(ex K n).loop b e S⟩
theorem yQ:Orc.Cont (lim K) (ex K) :=
 ⟨fun f a S=>wV fun n m h=>(aEy h).call f a S,fun i a S=>wV fun n m h=>(aEy h).yld i a S,fun b e S=>wV fun n m h=>(aEy h).loop b e S⟩
theorem yR{f:Nat}{a:Tn_}{S:aA}(h:(eM K (lim K) f a S).Ok):Out.Eqv (eM K (lim K) f a S) ((lim K).call f a S):=by obtain⟨n,c⟩:=aGf yQ f a S h;have b:=c n (O_ n);exact b.trans (vC (y:=fun n=>(ex K n).call f a S) (fun n m h=>(aEy h).call f a S) (n:=n+1) b.symm.ok)
theorem aBl{i:Nat}{a:Tn_}{S:aA}(h:(iA K (lim K) i a S).Ok):Out.Eqv (iA K (lim K) i a S) ((lim K).yld i a S):=by obtain⟨n,c⟩:=aKt yQ i a S h;have b:=c n (O_ n);exact b.trans (vC (y:=fun n=>(ex K n).yld i a S) (fun n m h=>(aEy h).yld i a S) (n:=n+1) b.symm.ok)
def jS(K:bD)(orc:Orc)(b:aL)(env:Env)(S:aA):Out (aW×Env×aA) :=
 (eV K orc b env S).bind fun r=>match r.1 with
  |.normal=>orc.loop b r.2.1 r.2.2
  |j=>.ret (j,r.2.1,r.2.2)
theorem aGg(h:Orc.Cont o o')(b:aL)(env:Env)(S:aA):Cont (jS K o b env S) fun n=>jS K (o' n) b env S:=by
 unfold jS;refine Cont.bind (g:=fun n r=>_) (vB h _ _ _) (fun r=>?_);split;.exact h.loop _ _ _
 .exact .const _
theorem yS{b:aL}{env:Env}{S:aA}(h:(jS K (lim K) b env S).Ok):Out.Eqv (jS K (lim K) b env S) ((lim K).loop b env S):=by obtain⟨n,c⟩:=aGg yQ b env S h;have a:=c n (O_ n);exact a.trans (vC (y:=fun n=>(ex K n).loop b env S) (fun n m h=>(aEy h).loop b env S) (n:=n+1) a.symm.ok)
theorem Out.ok_ret{α:Type}{x:Out α}{r:α}(h:x=.ret r):x.Ok:=by rw[h];trivial
theorem Out.all_ok{α:Type}{Q:α->Prop}{x:Out α}(h:x.All Q):x.Ok:=Out.all_mono (fun _ _=>trivial) h
theorem bFu{f:Nat}{a:Tn_}{S:aA}{r:TV×aA}(h:eM K (lim K) f a S=.ret r):(lim K).call f a S=.ret r:=(yR (Out.ok_ret h)).eq h
theorem aKu{f:Nat}{a:Tn_}{S:aA}{Q:TV×aA->Prop}(h:(eM K (lim K) f a S).All Q):((lim K).call f a S).All Q:=(yR (Out.all_ok h)).all h
theorem bMz{f:Nat}{a:Tn_}{S:aA}{r:TV×aA}(h:iA K (lim K) f a S=.ret r):(lim K).yld f a S=.ret r:=(aBl (Out.ok_ret h)).eq h
theorem aNq{f:Nat}{a:Tn_}{S:aA}{Q:TV×aA->Prop}(h:(iA K (lim K) f a S).All Q):((lim K).yld f a S).All Q:=(aBl (Out.all_ok h)).all h
theorem bFv{b:aL}{env:Env}{S:aA}{r:aW×Env×aA}(h:jS K (lim K) b env S=.ret r):(lim K).loop b env S=.ret r:=(yS (Out.ok_ret h)).eq h
theorem aKv{b:aL}{env:Env}{S:aA}{Q:aW×Env×aA->Prop}(h:(jS K (lim K) b env S).All Q):((lim K).loop b env S).All Q:=(yS (Out.all_ok h)).all h
theorem bM0{f:Nat}{a:Tn_}{S:aA}{Q:TV×aA->Prop}(h:((lim K).call f a S).All Q):∃n,((ex K n).call f a S).All Q:=by obtain⟨n,b⟩:=yQ.call f a S (Out.all_ok h);exact⟨n,(b n (O_ n)).all h⟩
theorem aRo{n f:Nat}{a:Tn_}{S:aA}{r:TV×aA}(h:(ex K n).call f a S=.ret r):(lim K).call f a S=.ret r :=
 (vC (y:=fun n=>(ex K n).call f a S) (fun n m h=>(aEy h).call f a S) (n:=n) (Out.ok_ret h)).eq h
end Go.TM
namespace Go.TM
def er{α:Type}:Out α->Out α
 |.ret a=>.ret a
 | .fail _ => .fail ""
 |.pick n k=>.pick n fun i=>er (k i)
@[simp] theorem er_ret {α:Type} (a:α):er (.ret a)=.ret a:=rfl
@[simp] theorem er_fail {α : Type} (s : String) : er (.fail s : Out α) = .fail "" := rfl
theorem vZ{α:Type}:∀(x:Out α),er (er x)=er x
 |.ret _=>rfl
 |.fail _=>rfl
 |.pick n k=>by simp only[er];congr;funext i;exact vZ (k i)
theorem gJ{α b:Type}(f:α->Out b):∀(x:Out α),er (x.bind f)=(er x).bind fun a=>er (f a)
 |.ret _=>rfl
 |.fail _=>rfl
 |.pick n k=>by simp only[er,Out.bind];congr;funext i;exact gJ f (k i)
theorem bFw{α:Type}{x:Out α}{a:α}(h:er x=.ret a):x=.ret a:=by cases x<;>simp[er]at h;rw[h]
theorem aKw{α:Type}{Q:α->Prop}:∀ {x:Out α},(er x).All Q->x.All Q
 |.ret _,h=>h
 |.fail _,h=>h
 |.pick n k,h=>fun i a=>aKw (h i a)
def br{α:Type}(B:Bool)(x y:Out α):Out α:=bif B then x else y
@[congr] theorem br_congr {α:Type} {B B':Bool} {x y:Out α} (h:B=B'):br B x y=br B' x y:=by rw[h]
theorem vD{α:Type}(x y:Out α):br true x y=x:=id rfl
theorem qE{α:Type}(x y:Out α):br false x y=y:=id rfl
theorem bSs{α:Type}(B:Bool)(x y:Out α):br (!B) x y=br B y x:=by cases B<;>rfl
theorem bU9{α:Type}{B:Bool}{x y z:Out α}(h:B=true->x=z)(g:B=false->y=z):br B x y=z:=by
 cases B
 .exact g rfl
 .exact h rfl
inductive Fr where
 |seq (b:aL)
 |blk (id:Nat)
section
variable (K:bD)(O:Orc)
def back:List Fr->aW->Env->aA->Out (aW×Env×aA)
 |[],j,e,S=>.ret (j,e,S)
 |.seq b::fs,.normal,e,S=>(eV K O b e S).bind fun r=>back fs r.1 r.2.1 r.2.2
 |.seq _::fs,j,e,S=>back fs j e S
 |.blk id::fs,.exit i,e,S=>if i=id then back fs .normal e S else back fs (.exit i) e S
 |.blk _::fs,j,e,S=>back fs j e S
def bk(fs:List Fr)(j:aW)(e:Env)(S:aA):Out (aW×Env×aA):=er (back K O fs j e S)
def go(c:aL)(fs:List Fr)(e:Env)(S:aA):Out (aW×Env×aA):=er ((eV K O c e S).bind fun r=>back K O fs r.1 r.2.1 r.2.2)
@[congr] theorem bk_congr (fs:List Fr) (j:aW) (e:Env) (S:aA):bk K O fs j e S=bk K O fs j e S:=rfl
@[congr] theorem go_congr (c:aL) (fs:List Fr) (e:Env) (S:aA):go K O c fs e S=go K O c fs e S:=rfl
def reg:List (Nat×TV)->Nat->TV
 |[],_=>.hole
 |(i,v)::M,j=>if i=j then v else reg M j
def dC(M:List (Nat×TV))(n:Nat):List TV:=(List.range n).map (reg M)
theorem bM1(j:Nat):reg [] j=.hole:=id rfl
theorem bFx(i:Nat)(v:TV)(M:To_)(j:Nat):reg ((i,v)::M) j=if i=j then v else reg M j:=id rfl
theorem aYp(M:To_)(n j:Nat):(dC M n).getD j .hole=if j<n then reg M j else .hole:=by
 simp only[dC,W_,p_];by_cases h:j<n;.simp[h]
 .simp[h]
theorem aNr(n:Nat):dC [] n=vM n:=by
 apply N3;.simp[dC,vM]
 .intro i a b;simp[dC,vM,reg]
theorem eU(i:Nat)(v:TV)(M:To_)(n:Nat):(dC M n).set i v=dC ((i,v)::M) n:=by
 apply N3;.simp[dC]
 .intro j a b;simp only[List.getElem_set,dC,W4,P1,reg]
theorem aH3{j:Nat}{v:TV}{M:To_}{n:Nat}(h:(if j<n then reg M j else .hole)=v)(b:v≠.hole):dC ((j,v)::M) n=dC M n:=by
 have a:j<n:=by
  by_cases a:j<n;.exact a
  .simp[a]at h;exact absurd h.symm b
 simp only[a,↓reduceIte]at h;apply N3;.simp[dC]
 .intro i c d;simp only[dC,W4,P1,reg];split;.rename_i e;subst e;exact h.symm
  .rfl
def opv(n:Nat)(env:Env)(M:List (Nat×TV))(x:aH):TV:=aX K env (dC M n) x
def mX(j:Nat):TV->TV
 |.lb _=>.lp j 0
 |v=>v
theorem bM2(j:Nat)(c:Tn_):mX j (.lb c)=.lp j 0:=id rfl
theorem bM3(j:Nat)(v:IV):mX j (.iv v)=.iv v:=id rfl
theorem bFy(j a b c:Nat):mX j (.ptr a b c)=.ptr a b c:=id rfl
theorem bFz(j a b c d e f:Nat):mX j (.msl a b c d e f)=.msl a b c d e f:=id rfl
theorem bF0(j a:Nat)(l:Tp_):mX j (.tsl a l)=.tsl a l:=id rfl
theorem bF1(j a:Nat):mX j (.map a)=.map a:=id rfl
theorem bM4(j a:Nat):mX j (.it a)=.it a:=id rfl
theorem bM5(j f:Nat)(a b:Tn_):mX j (.fn f a b)=.fn f a b:=id rfl
theorem bF2(j a:Nat):mX j (.yld a)=.yld a:=id rfl
def bF3:Option (List IV)->TV
 |some cs=>.iv (.cp cs)
 |none=>.hole
theorem aKx(n:Nat)(env:Env)(M:To_)(j:Nat):opv K n env M (.reg j)=if j<n then reg M j else .hole:=aYp M n j
theorem bM6(n:Nat)(env:Env)(M:To_)(j:Nat):opv K n env M (.loc j)=mX j (env.getD j .hole):=by simp only[opv,aX];cases List.getD env j .hole<;>rfl
theorem bM7(n:Nat)(env:Env)(M:To_)(v:IV):opv K n env M (.cst v)=.iv v:=id rfl
theorem bSt(n:Nat)(env:Env)(M:To_)(f:Nat):opv K n env M (.fn f)=.fn f [] []:=id rfl
theorem bF4(n:Nat)(env:Env)(M:To_)(g:Nat):opv K n env M (.glob g)=bF3 (K.glob g):=id rfl
@[congr] theorem opv_congr (n:Nat) (env:Env) (M:List (Nat×TV)) (x:aH):opv K n env M x=opv K n env M x:=rfl
@[congr] theorem reg_congr (M:List (Nat×TV)) (x:Nat):reg M x=reg M x:=rfl
inductive Kt where
 |rg (all ops:List aK) (i:Nat)
 |fl (ops:List aK) (is:List Nat) (ph:List (Nat×List Nat×List Nat))
 |ph (ops:List aK) (chk fl:List Nat) (ps:List (Nat×List Nat×List Nat))
def aRp(all:List aK)(i:Nat)(rs:List TV)(fs:List Fr)(env:Env)(S:aA):Out (aW×Env×aA) :=
 match fJ all i rs env with
 |some env=>back K O fs .normal env S
 | none => .fail "local"
def wbk(ops:List aK)(i:Nat)(M:List (Nat×TV))(n:Nat)(fs:List Fr)(env:Env)(S:aA):Out (aW×Env×aA):=er (aRp K O ops i (dC M n) fs env S)
def rgR(all ops:List aK)(i:Nat)(M:List (Nat×TV))(n:Nat)(fs:List Fr)(env:Env)(S:aA):Out (aW×Env×aA) :=
 er ((kO K O ops i (dC M n) env S).bind fun r=>aRp K O all 0 r.1 fs r.2.1 r.2.2)
def aRq(ops:List aK)(ps:List (Nat×List Nat×List Nat))(rs:List TV)(fs:List Fr)(env:Env)(S:aA):Out (aW×Env×aA) :=
 (eD K O ops ps rs env S).bind fun r=>aRp K O ops 0 r.1 fs r.2.1 r.2.2
def phs(ops:List aK)(ps:List (Nat×List Nat×List Nat))(M:List (Nat×TV))(n:Nat)(fs:List Fr)(env:Env)(S:aA):Out (aW×Env×aA):=er (aRq K O ops ps (dC M n) fs env S)
def aAb(ops:List aK)(is:List Nat)(ps:List (Nat×List Nat×List Nat))(rs:List TV)(fs:List Fr)(env:Env)(S:aA):Out (aW×Env×aA) :=
 match eC K ops is rs env S with
 | none => .fail ""
 |some q=>aRq K O ops ps q.1 fs env q.2
def fls(ops:List aK)(is:List Nat)(ps:List (Nat×List Nat×List Nat))(M:List (Nat×TV))(n:Nat)(fs:List Fr)(env:Env)(S:aA):Out (aW×Env×aA):=er (aAb K O ops is ps (dC M n) fs env S)
def chk(c:Bool)(ops:List aK)(is:List Nat)(ps:List (Nat×List Nat×List Nat))(M:List (Nat×TV))(n:Nat)(fs:List Fr)(env:Env)(S:aA):Out (aW×Env×aA) :=
 if c then fls K O ops is ps M n fs env S else .fail ""
def iG(k:Kt)(M:List (Nat×TV))(n:Nat)(fs:List Fr)(env:Env)(S:aA):Out (aW×Env×aA) :=
 match k with
 |.rg all ops i=>rgR K O all ops (i+1) M n fs env S
 |.fl ops is ph=>fls K O ops is ph M n fs env S
 |.ph ops c fl ps=>chk K O (nH K ops (dC M n) env S c) ops fl ps M n fs env S
def op1(o:TOp)(i:Nat)(k:Kt)(M:List (Nat×TV))(n:Nat)(fs:List Fr)(env:Env)(S:aA):Out (aW×Env×aA) :=
 er ((bW K O o env (dC M n) S).bind fun r=>iG K O k ((i,r.1)::M) n fs r.2.1 r.2.2)
def opG(g:TV)(want:Bool)(j:Nat)(o:TOp)(i:Nat)(k:Kt)(M:List (Nat×TV))(n:Nat)(fs:List Fr)(env:Env)(S:aA):Out (aW×Env×aA) :=
 match g with
 |.iv (.bool b)=>br (b==want) (op1 K O o i k ((j,.iv (.bool want))::M) n fs env S) (iG K O k ((i,undef)::(j,.iv (.bool (!want)))::M) n fs env S)
 |.tup []=>iG K O k ((i,undef)::M) n fs env S
 | _ => .fail ""
def opV(v:Option TV)(i:Nat)(k:Kt)(M:List (Nat×TV))(n:Nat)(fs:List Fr)(env:Env)(S:aA):Out (aW×Env×aA) :=
 match v with
 |some v=>iG K O k ((i,v)::M) n fs env S
 | none => .fail ""
def opA(v:Option (TV×aG))(i:Nat)(k:Kt)(M:List (Nat×TV))(n:Nat)(fs:List Fr)(env:Env)(S:aA):Out (aW×Env×aA) :=
 match v with
 |some v=>iG K O k ((i,v.1)::M) n fs env (S++[v.2])
 | none => .fail ""
def opS(v:Option (TV×aA))(i:Nat)(k:Kt)(M:List (Nat×TV))(n:Nat)(fs:List Fr)(env:Env):Out (aW×Env×aA) :=
 match v with
 |some v=>iG K O k ((i,v.1)::M) n fs env v.2
 | none => .fail ""
def opE(v:Option (TV×Env×aA))(i:Nat)(k:Kt)(M:List (Nat×TV))(n:Nat)(fs:List Fr):Out (aW×Env×aA) :=
 match v with
 |some v=>iG K O k ((i,v.1)::M) n fs v.2.1 v.2.2
 | none => .fail ""
def opC(x:Out (TV×aA))(i:Nat)(k:Kt)(M:List (Nat×TV))(n:Nat)(fs:List Fr)(env:Env):Out (aW×Env×aA) :=
 x.bind fun v=>iG K O k ((i,v.1)::M) n fs env v.2
def opP(c a b:TV)(i:Nat)(k:Kt)(M:List (Nat×TV))(n:Nat)(fs:List Fr)(env:Env)(S:aA):Out (aW×Env×aA) :=
 match c with
 |.iv (.bool t)=>br t (iG K O k ((i,a)::M) n fs env S) (iG K O k ((i,b)::M) n fs env S)
 | _ => .fail ""
section
variable (ops:List aK)(is:List Nat)(ps:List (Nat×List Nat×List Nat))(i:Nat)(k:Kt)(M:List (Nat×TV))(n:Nat)(fs:List Fr)(env:Env)(S:aA)
@[congr] theorem wbk_congr {i i':Nat} {env env':Env} (h:i=i') (h2:env=env'):wbk K O ops i M n fs env S=wbk K O ops i' M n fs env' S:=by rw[h,h2]
@[congr] theorem rgR_congr (all:List aK) {i i':Nat} (h:i=i'):rgR K O all ops i M n fs env S=rgR K O all ops i' M n fs env S:=by rw[h]
@[congr] theorem phs_congr:phs K O ops ps M n fs env S=phs K O ops ps M n fs env S:=rfl
@[congr] theorem fls_congr:fls K O ops is ps M n fs env S=fls K O ops is ps M n fs env S:=rfl
@[congr] theorem chk_congr {c c':Bool} (h:c=c'):chk K O c ops is ps M n fs env S=chk K O c' ops is ps M n fs env S:=by rw[h]
@[congr] theorem cont_congr:iG K O k M n fs env S=iG K O k M n fs env S:=rfl
@[congr] theorem op1_congr (o:TOp):op1 K O o i k M n fs env S=op1 K O o i k M n fs env S:=rfl
@[congr] theorem opG_congr {g g':TV} (h:g=g') (want:Bool) (j:Nat) (o:TOp):opG K O g want j o i k M n fs env S=opG K O g' want j o i k M n fs env S:=by rw[h]
@[congr] theorem opV_congr {v v':Option TV} (h:v=v'):opV K O v i k M n fs env S=opV K O v' i k M n fs env S:=by rw[h]
@[congr] theorem opA_congr {v v':Option (TV×aG)} (h:v=v'):opA K O v i k M n fs env S=opA K O v' i k M n fs env S:=by rw[h]
@[congr] theorem opS_congr {v v':Option (TV×aA)} (h:v=v'):opS K O v i k M n fs env=opS K O v' i k M n fs env:=by rw[h]
@[congr] theorem opE_congr {v v':Option (TV×Env×aA)} (h:v=v'):opE K O v i k M n fs=opE K O v' i k M n fs:=by rw[h]
@[congr] theorem opC_congr {v v':Out (TV×aA)} (h:v=v'):opC K O v i k M n fs env=opC K O v' i k M n fs env:=by rw[h]
@[congr] theorem opP_congr {c c' a a' b b':TV} (h:c=c') (ha:a=a') (hb:b=b'):opP K O c a b i k M n fs env S=opP K O c' a' b' i k M n fs env S:=by rw[h,ha,hb]
theorem bF5(v:TV):opV K O (some v) i k M n fs env S=iG K O k ((i,v)::M) n fs env S:=id rfl
theorem bF6(v:TV)(b:aG):opA K O (some (v,b)) i k M n fs env S=opS K O (some (v,S++[b])) i k M n fs env:=id rfl
theorem bF7(v:TV):opS K O (some (v,S)) i k M n fs env=iG K O k ((i,v)::M) n fs env S:=id rfl
theorem bF8(v:TV):opE K O (some (v,env,S)) i k M n fs=iG K O k ((i,v)::M) n fs env S:=id rfl
theorem bM8(v:TV):opC K O (.ret (v,S)) i k M n fs env=iG K O k ((i,v)::M) n fs env S:=id rfl
theorem bF9(t:Bool)(a b:TV):opP K O (.iv (.bool t)) a b i k M n fs env S=br t (iG K O k ((i,a)::M) n fs env S) (iG K O k ((i,b)::M) n fs env S):=id rfl
theorem bGa(b a:Bool)(j:Nat)(o:TOp):opG K O (.iv (.bool b)) a j o i k M n fs env S=br (b==a) (op1 K O o i k ((j,.iv (.bool a))::M) n fs env S) (iG K O k ((i,undef)::(j,.iv (.bool (!a)))::M) n fs env S):=id rfl
theorem aYq(a:Bool)(j:Nat)(o:TOp):opG K O (.tup []) a j o i k M n fs env S=iG K O k ((i,undef)::M) n fs env S:=id rfl
theorem bGb:chk K O true ops is ps M n fs env S=fls K O ops is ps M n fs env S:=id rfl
theorem bSu(j:aW):bk K O [] j env S=.ret (j,env,S):=id rfl
theorem bSv(b:aL):bk K O (.seq b::fs) .normal env S=go K O b fs env S:=id rfl
theorem aRr(b:aL):bk K O (.seq b::fs) .ret env S=bk K O fs .ret env S:=id rfl
theorem aNs(b:aL)(id:Nat):bk K O (.seq b::fs) (.exit id) env S=bk K O fs (.exit id) env S:=by simp only[bk,back]
theorem bSw(id:Nat):bk K O (.blk id::fs) .normal env S=bk K O fs .normal env S:=by simp only[bk,back]
theorem aRs(id:Nat):bk K O (.blk id::fs) .ret env S=bk K O fs .ret env S:=by simp only[bk,back]
theorem aNt(id a:Nat):bk K O (.blk id::fs) (.exit a) env S=if a=id then bk K O fs .normal env S else bk K O fs (.exit a) env S:=by simp only[bk,back];split<;>rfl
theorem go_skip:go K O .skip fs env S=bk K O fs .normal env S:=by simp only[bk,go];rfl
theorem go_ret:go K O .ret fs env S=bk K O fs .ret env S:=by simp only[bk,go];rfl
theorem go_exit(id:Nat):go K O (.exit id) fs env S=bk K O fs (.exit id) env S:=by simp only[bk,go];rfl
theorem Out.bind_assoc{α b c:Type}(f:α->Out b)(g:b->Out c):∀(x:Out α),(x.bind f).bind g=x.bind fun a=>(f a).bind g
 |.ret _=>rfl
 |.fail _=>rfl
 |.pick n k=>by simp only[Out.bind];congr;funext i;exact Out.bind_assoc f g (k i)
theorem Out.bind_congr{α b:Type}{f g:α->Out b}{x:Out α}(h:∀a,f a=g a):x.bind f=x.bind g:=by rw[funext h]
theorem go_seq(a b:aL):go K O (.seq a b) fs env S=go K O a (.seq b::fs) env S:=by simp only[go,eV,Out.bind_assoc];congr 1;refine Out.bind_congr fun r=>?_;obtain⟨j,e,S'⟩:=r;cases j<;>rfl
theorem go_block(id:Nat)(b:aL):go K O (.block id b) fs env S=go K O b (.blk id::fs) env S:=by
 simp only[go,eV,Out.bind_assoc];congr 1;refine Out.bind_congr fun r=>?_;obtain⟨j,e,S'⟩:=r;cases j with
 |exit i=>simp only[back];split<;>rfl
 |_=>rfl
def goC(c:TV)(a b:aL)(fs:List Fr)(env:Env)(S:aA):Out (aW×Env×aA) :=
 match c with
 |.iv (.bool t)=>br t (go K O a fs env S) (go K O b fs env S)
 | _ => .fail ""
@[congr] theorem goC_congr {c c':TV} (h:c=c') (a b:aL):goC K O c a b fs env S=goC K O c' a b fs env S:=by rw[h]
theorem bGc(t:Bool)(a b:aL):goC K O (.iv (.bool t)) a b fs env S=br t (go K O a fs env S) (go K O b fs env S):=id rfl
theorem go_cond(c:aH)(a b:aL):go K O (.cond c a b) fs env S=goC K O (opv K 0 env [] c) a b fs env S:=by
 simp only[go,eV,goC,opv,dC,List.range_zero,C3];cases aX K env [] c with
 |iv v =>
  cases v with
  |bool t=>cases t<;>rfl
  |_=>rfl
 |_=>rfl
def lp(b:aL)(env:Env)(S:aA):Out (aW×Env×aA):=O.loop b env S
@[congr] theorem lp_congr (b:aL):lp O b env S=lp O b env S:=rfl
def goL(x:Out (aW×Env×aA))(fs:List Fr):Out (aW×Env×aA):=er (x.bind fun r=>back K O fs r.1 r.2.1 r.2.2)
@[congr] theorem goL_congr {x x':Out (aW×Env×aA)} (h:x=x'):goL K O x fs=goL K O x' fs:=by rw[h]
theorem bM9(j:aW):goL K O (.ret (j,env,S)) fs=bk K O fs j env S:=id rfl
theorem go_loop(b:aL):go K O (.loop b) fs env S=goL K O (lp O b env S) fs:=id rfl
def rgN(n:Nat)(ops:List aK)(fs:List Fr)(env:Env)(S:aA):Out (aW×Env×aA):=rgR K O ops ops 0 [] n fs env S
@[congr] theorem rgN_congr {n n':Nat} (h:n=n'):rgN K O n ops fs env S=rgN K O n' ops fs env S:=by rw[h]
def aB4:List aK->Nat->Nat
 |[],n=>n
 |_::l,n=>aB4 l (n+1)
theorem aKy:∀(l:List aK) (n:Nat),aB4 l n=l.length+n
 |[],n=>by simp[aB4]
 |_::l,n=>by rw[aB4,aKy l];simp;omega
theorem bGd:rgN K O n ops fs env S=rgR K O ops ops 0 [] n fs env S:=id rfl
theorem go_region0:go K O (.region ops) fs env S=rgR K O ops ops 0 [] ops.length fs env S:=by simp only[go,eV,rgR,Out.bind_assoc,aNr];congr 1;refine Out.bind_congr fun r=>?_;simp only[aRp];cases fJ ops 0 r.1 r.2.1<;>rfl
theorem go_draw0(a:Tc_):go K O (.draw a ps ops) fs env S=fls K O ops a ps [] ops.length fs env S:=by
 simp only[go,eV,fls,aAb,aNr];cases eC K ops a (vM ops.length) env S with
 |none=>rfl
 |some q =>simp only[aRq,Out.bind_assoc];congr 1;refine Out.bind_congr fun r=>?_;simp only[aRp];cases fJ ops 0 r.1 r.2.1<;>rfl
theorem bNa(a:List aK):iG K O (.rg a ops i) M n fs env S=rgR K O a ops (i+1) M n fs env S:=id rfl
theorem aV7:iG K O (.fl ops is ps) M n fs env S=fls K O ops is ps M n fs env S:=id rfl
theorem bNb(a:List aK):rgR K O a [] i M n fs env S=wbk K O a 0 M n fs env S:=id rfl
theorem bGe(a:List aK)(o:TOp)(l:Option Nat):rgR K O a (⟨o,l,none⟩::ops) i M n fs env S=op1 K O o i (.rg a ops i) M n fs env S:=by simp only[rgR,op1,iG,kO,jZ,dV,Out.bind_assoc,Out.bind,eU];rw[gJ,gJ];refine Out.bind_congr fun r=>?_;rw[vZ]
theorem aV8(p:List aK)(o:TOp)(l:Option Nat)(j:Nat)(c:Bool){k:Kt}{X:List TV->Env->aA->Out (aW×Env×aA)}(d:∀M env S,er (X (dC M n) env S)=iG K O k M n fs env S)(rs:Tn_)(f:rs=dC M n): er ((jZ K O ⟨o,l,some (j,c)⟩ i rs env S).bind fun r=>X r.1 r.2.1 r.2.2)=opG K O (opv K n env M (.reg j)) c j o i k M n fs env S:=by
 subst f;have m:opv K n env M (.reg j)=(dC M n).getD j .hole:=rfl;simp only[jZ,dV];rw[<-m];have key:∀b:Bool,opv K n env M (.reg j)=.iv (.bool b)->dC ((j,.iv (.bool b))::M) n=dC M n:=by intro b g;refine aH3 ?_ B_;rw[<-aKx K n env M j];exact g
 cases hg:opv K n env M (.reg j)with
 |iv v =>
  cases v with
  |bool b =>
   have h:=key b hg;by_cases hw:b=c
   .subst hw;have:(b==b)=true:=by cases b<;>rfl
    simp only[opG,this,vD,op1,Out.bind_assoc,Out.bind,h];rw[gJ,gJ];refine Out.bind_congr fun r=>?_;rw[eU,d];have e:iG K O k ((i,r.1)::M) n fs r.2.1 r.2.2=iG K O k ((i,r.1)::(j,.iv (.bool b))::M) n fs r.2.1 r.2.2:=by rw[<-d,<-d,<-eU,<-eU,h]
    rw[e,<-d,vZ]
   .have g:b=!c:=by cases b<;>cases c<;>simp at hw |-
    subst g;have:((!c)==c)=false:=by cases c<;>rfl
    simp only[opG,this,qE,Out.bind];rw[eU,d,<-d,<-d,<-eU,<-eU,h]
  |_=>rfl
 |tup vs =>
  cases vs with
  |nil=>simp only[opG,Out.bind];rw[eU,d]
  |cons a b=>rfl
 |_=>rfl
theorem aYr(b:List aK)(o:TOp)(l:Option Nat)(j:Nat)(a:Bool):rgR K O b (⟨o,l,some (j,a)⟩::ops) i M n fs env S=opG K O (opv K n env M (.reg j)) a j o i (.rg b ops i) M n fs env S:=by rw[<-aV8 K O i M n fs env S b o l j a (X:=fun rs env S=>(kO K O ops (i+1) rs env S).bind fun r=>aRp K O b 0 r.1 fs r.2.1 r.2.2) (fun M env S=>rfl) _ rfl];simp only[rgR,kO,Out.bind_assoc]
def floats(o:TOp):Bool:=cE o==0||cE o==1||cE o==2||cE o==4||cE o==6
theorem bGf(o:TOp)(h:floats o=true)(rs:Tn_):bW K O o env rs S=Out.ofOpt (sW o) (match iU K o env rs S with
  |some v=>some (v,env,S)
  |none=>match bO o (aX K env rs) S.length with
   |some (v,b)=>some (v,env,S++[b])
   |none=>none):=by
 have a:cE o≠5:=by intro e;simp[floats,e]at h
 rw[mP K O env rs S o a]
 congr 1
 have s:gO o (aX K env rs) rs env S=none:=by cases o<;>first|rfl|(simp[cE,floats]at h;done)
 simp only[jI,s]
 cases iU K o env rs S with
 |some v=>rfl
 |none =>
  cases bO o (aX K env rs) S.length with
  |some q=>rfl
  |none=>rfl
theorem aE0(o:TOp)(h:floats o=true)(l:Option Nat){X:List TV->aA->Out (aW×Env×aA)}{k:Kt}(a:∀M S,er (X (dC M n) S)=iG K O k M n fs env S):
  er (match iU K o env (dC M n) S with
   |some v=>X ((dC M n).set i v) S
   |none=>match bO o (aX K env (dC M n)) S.length with
    |some (v,b)=>X ((dC M n).set i v) (S++[b])
    | none => .fail "") = op1 K O o i k M n fs env S := by
 simp only[op1,bGf K O env S o h]
 cases iU K o env (dC M n) S with
 |some v=>simp only[Out.ofOpt,Out.bind,eU,a];rw[<-a,vZ]
 |none =>
  cases bO o (aX K env (dC M n)) S.length with
  |some q=>obtain⟨v,b⟩:=q;simp only[Out.ofOpt,Out.bind,eU,a];rw[<-a,vZ]
  |none=>rfl
def aAc(l:List aK)(i:Nat):Option aK:=l[i]?
theorem aYs(o:aK)(l:List aK):aAc (o::l) 0=some o:=id rfl
theorem aYt(o:aK)(l:List aK)(i:Nat):aAc (o::l) (i+1)=aAc l i:=by simp[aAc]
def flB(c:Bool)(x y:Out (aW×Env×aA)):Out (aW×Env×aA):=bif c then x else y
@[congr] theorem flB_congr {c c':Bool} (h:c=c') (x y:Out (aW×Env×aA)):flB c x y=flB c' x y:=by rw[h]
theorem aE1(x y:Out (aW×Env×aA)):flB true x y=x:=id rfl
def flO(o:Option aK)(i:Nat)(ops:List aK)(is:List Nat)(ps:List (Nat×List Nat×List Nat))(M:List (Nat×TV))(n:Nat)(fs:List Fr)(env:Env)(S:aA):Out (aW×Env×aA) :=
 match o with
 |some ⟨o,_,none⟩=>flB (floats o) (op1 K O o i (.fl ops is ps) M n fs env S) (fls K O ops (i::is) ps M n fs env S)
 |some ⟨o,_,some (j,want)⟩=>flB (floats o) (opG K O (opv K n env M (.reg j)) want j o i (.fl ops is ps) M n fs env S) (fls K O ops (i::is) ps M n fs env S)
 |none=>fls K O ops (i::is) ps M n fs env S
@[congr] theorem flO_congr {o o':Option aK} (h:o=o'):flO K O o i ops is ps M n fs env S=flO K O o' i ops is ps M n fs env S:=by rw[h]
theorem aNu(o:TOp)(l:Option Nat):flO K O (some ⟨o,l,none⟩) i ops is ps M n fs env S=flB (floats o) (op1 K O o i (.fl ops is ps) M n fs env S) (fls K O ops (i::is) ps M n fs env S):=id rfl
theorem aH4(o:TOp)(l:Option Nat)(j:Nat)(a:Bool):flO K O (some ⟨o,l,some (j,a)⟩) i ops is ps M n fs env S=flB (floats o) (opG K O (opv K n env M (.reg j)) a j o i (.fl ops is ps) M n fs env S) (fls K O ops (i::is) ps M n fs env S):=id rfl
theorem bNc:fls K O ops [] ps M n fs env S=phs K O ops ps M n fs env S:=id rfl
theorem aB5(rs:Tn_)(o:TOp)(l:Option Nat)(a:ops[i]?=some ⟨o, l, none⟩):aAb K O ops (i::is) ps rs fs env S=match iU K o env rs S with
      |some v=>aAb K O ops is ps (rs.set i v) fs env S
      |none=>match bO o (aX K env rs) S.length with
        |some (v,b)=>aAb K O ops is ps (rs.set i v) fs env (S++[b])
        | none => .fail "" := by
  simp only[aAb,eC,a,dV]
  cases iU K o env rs S with
  |some v=>rfl
  |none =>
    cases bO o (aX K env rs) S.length with
    |some q=>rfl
    |none=>rfl
theorem aE2(M:To_):(dC M n).set i undef=dC ((i,undef)::M) n:=eU i undef M n
theorem bGg:fls K O ops (i::is) ps M n fs env S=flO K O (aAc ops i) i ops is ps M n fs env S:=by
 unfold aAc;cases ho:ops[i]? with
 |none=>rfl
 |some x =>
  obtain⟨o,l,g⟩:=x;cases h:floats o with
  |false=>cases g<;>simp only[flO,flB,h,cond_false]
  |true =>
  cases g with
  |none =>rw[aNu K O ops is ps i M n fs env S o l,h,aE1];rw[<-aE0 K O i M n fs env S o h l (X:=fun rs S=>aAb K O ops is ps rs fs env S) (fun M S=>rfl)];simp only[fls];rw[aB5 K O ops is ps i fs env S _ o l ho]
  |some q =>
   obtain⟨j,c⟩:=q;rw[aH4 K O ops is ps i M n fs env S o l j c,h,aE1];have k:opv K n env M (.reg j)=(dC M n).getD j .hole:=rfl;have key:∀b:Bool,opv K n env M (.reg j)=.iv (.bool b)->dC ((j,.iv (.bool b))::M) n=dC M n:=by intro b d;refine aH3 ?_ B_;rw[<-aKx K n env M j];exact d
   simp only[fls,aAb,eC,ho,dV];rw[<-k];cases hg:opv K n env M (.reg j)with
   |iv v =>
    cases v with
    |bool b =>
     have f:=key b hg;by_cases hw:b=c
     .subst hw;have e:(b==b)=true:=by cases b<;>rfl
      simp only[opG,e,vD];rw[<-aE0 K O i ((j,.iv (.bool b))::M) n fs env S o h l (X:=fun rs S=>aAb K O ops is ps rs fs env S) (fun M S=>rfl)];simp only[f];cases iU K o env (dC M n) S with
      |some v=>rfl
      |none =>
       cases bO o (aX K env (dC M n)) S.length with
       |some q=>rfl
       |none=>rfl
     .have d:b=!c:=by cases b<;>cases c<;>simp at hw |-
      subst d;have e:((!c)==c)=false:=by cases c<;>rfl
      simp only[opG,e,qE];show er (aAb K O ops is ps ((dC M n).set i undef) fs env S)=_;rw[aE2,aV7,fls,<-eU,<-eU,f]
    |_=>rfl
   |tup vs =>
    cases vs with
    |nil =>show er (aAb K O ops is ps ((dC M n).set i undef) fs env S)=_;rw[aE2];rfl
    |cons a b=>rfl
   |_=>rfl
theorem bNd:phs K O ops [] M n fs env S=wbk K O ops 0 M n fs env S:=id rfl
def phO(o:Option aK)(i:Nat)(ops:List aK)(c fl:List Nat)(ps:List (Nat×List Nat×List Nat))(M:List (Nat×TV))(n:Nat)(fs:List Fr)(env:Env)(S:aA):Out (aW×Env×aA) :=
 match o with
 |some ⟨o,_,none⟩=>op1 K O o i (.ph ops c fl ps) M n fs env S
 |some ⟨o,_,some (j,want)⟩=>opG K O (opv K n env M (.reg j)) want j o i (.ph ops c fl ps) M n fs env S
 | none => .fail ""
@[congr] theorem phO_congr {o o':Option aK} (h:o=o') (c fl:List Nat):phO K O o i ops c fl ps M n fs env S=phO K O o' i ops c fl ps M n fs env S:=by rw[h]
theorem aNv(c a:Tc_)(o:TOp)(l:Option Nat):phO K O (some ⟨o,l,none⟩) i ops c a ps M n fs env S=op1 K O o i (.ph ops c a ps) M n fs env S:=id rfl
theorem aH5(c b:Tc_)(o:TOp)(l:Option Nat)(j:Nat)(a:Bool):phO K O (some ⟨o,l,some (j,a)⟩) i ops c b ps M n fs env S=opG K O (opv K n env M (.reg j)) a j o i (.ph ops c b ps) M n fs env S:=id rfl
def phX(c fl:List Nat)(rs:List TV)(env:Env)(S:aA):Out (aW×Env×aA) :=
 if nH K ops rs env S c then aAb K O ops fl ps rs fs env S else .fail ""
theorem aRt(c a:Tc_)(M:To_)(env:Env)(S:aA):er (phX K O ops ps fs c a (dC M n) env S)=iG K O (.ph ops c a ps) M n fs env S:=by simp only[phX,iG,chk,fls];split<;>rfl
theorem aYu(c a:Tc_)(rs:Tn_)(o:aK)(b:ops[i]?=some o):er (aRq K O ops ((i,c,a)::ps) rs fs env S)=er ((jZ K O o i rs env S).bind fun r=>phX K O ops ps fs c a r.1 r.2.1 r.2.2):=by
 simp only[aRq,eD,b,Out.bind_assoc];rw[gJ,gJ];refine Out.bind_congr fun r=>?_;simp only[phX,aAb,aRq];split;.cases eC K ops a r.1 r.2.1 r.2.2<;>rfl
 .rfl
theorem bGh(c b:Tc_):phs K O ops ((i,c,b)::ps) M n fs env S=phO K O (aAc ops i) i ops c b ps M n fs env S:=by
 unfold aAc;cases ho:ops[i]? with
 |none=>simp only[phs,aRq,eD,ho];rfl
 |some x =>
  obtain⟨o,l,g⟩:=x;simp only[phs];rw[aYu K O ops ps i fs env S c b _ _ ho];cases g with
  |none =>rw[aNv];simp only[op1,jZ,dV,Out.bind_assoc,Out.bind,eU];rw[gJ,gJ];refine Out.bind_congr fun r=>?_;rw[aRt,<-aRt,vZ]
  |some q =>obtain⟨j,a⟩:=q;rw[aH5];exact aV8 K O i M n fs env S [] o l j a (X:=fun rs env S=>phX K O ops ps fs c b rs env S) (fun M env S=>aRt K O ops ps n fs c b M env S) _ rfl
theorem bNe:wbk K O [] i M n fs env S=bk K O fs .normal env S:=id rfl
theorem bGi(o:TOp)(g:Option (Nat×Bool)):wbk K O (⟨o,none,g⟩::ops) i M n fs env S=wbk K O ops (i+1) M n fs env S:=id rfl
def wbV(v:TV)(j:Nat)(ops:List aK)(i:Nat)(M:List (Nat×TV))(n:Nat)(fs:List Fr)(env:Env)(S:aA):Out (aW×Env×aA) :=
 if cA v then .fail "" else wbk K O ops (i + 1) M n fs (env.set j v) S
@[congr] theorem wbV_congr {v v':TV} (h:v=v') (j:Nat):wbV K O v j ops i M n fs env S=wbV K O v' j ops i M n fs env S:=by rw[h]
theorem bGj(o:TOp)(j:Nat)(g:Option (Nat×Bool)):wbk K O (⟨o,some j,g⟩::ops) i M n fs env S=wbV K O (opv K n env M (.reg i)) j ops i M n fs env S:=by
 have e:opv K n env M (.reg i)=(dC M n).getD i .hole:=rfl;rw[e];simp only[wbk,aRp,fJ,wbV];split
 .rename_i h;split at h;.cases h
  .rename_i e hl;simp only[hl,b_,↓reduceIte,h]
 .rename_i h;split at h;.rename_i hl;simp only[hl,↓reduceIte,er]
  .rename_i e hl;simp only[hl,b_,↓reduceIte,h]
theorem mY{v:TV}(h:cA v=false)(j:Nat):wbV K O v j ops i M n fs env S=wbk K O ops (i+1) M n fs (env.set j v) S:=by simp only[wbV,h,b_,↓reduceIte]
theorem bSx(v:IV)(j:Nat):wbV K O (.iv v) j ops i M n fs env S=wbk K O ops (i+1) M n fs (env.set j (.iv v)) S:=mY K O ops i M n fs env S (id rfl) j
theorem bNf(a b c:Nat)(j:Nat):wbV K O (.ptr a b c) j ops i M n fs env S=wbk K O ops (i+1) M n fs (env.set j (.ptr a b c)) S:=mY K O ops i M n fs env S (id rfl) j
theorem bNg(a b c d e f:Nat)(j:Nat):wbV K O (.msl a b c d e f) j ops i M n fs env S=wbk K O ops (i+1) M n fs (env.set j (.msl a b c d e f)) S:=mY K O ops i M n fs env S (id rfl) j
theorem bNh(a:Nat)(l:Tp_)(j:Nat):wbV K O (.tsl a l) j ops i M n fs env S=wbk K O ops (i+1) M n fs (env.set j (.tsl a l)) S:=mY K O ops i M n fs env S (id rfl) j
theorem bNi(a:Nat)(j:Nat):wbV K O (.map a) j ops i M n fs env S=wbk K O ops (i+1) M n fs (env.set j (.map a)) S:=mY K O ops i M n fs env S (id rfl) j
theorem bSy(a:Nat)(j:Nat):wbV K O (.it a) j ops i M n fs env S=wbk K O ops (i+1) M n fs (env.set j (.it a)) S:=mY K O ops i M n fs env S (id rfl) j
theorem bSz(f:Nat)(a b:Tn_)(j:Nat):wbV K O (.fn f a b) j ops i M n fs env S=wbk K O ops (i+1) M n fs (env.set j (.fn f a b)) S:=mY K O ops i M n fs env S (id rfl) j
theorem bVt(a:Nat)(j:Nat):wbV K O (.yld a) j ops i M n fs env S=wbk K O ops (i+1) M n fs (env.set j (.yld a)) S:=mY K O ops i M n fs env S (id rfl) j
theorem bVu(c:Tn_)(j:Nat):wbV K O (.agg c) j ops i M n fs env S=wbk K O ops (i+1) M n fs (env.set j (.agg c)) S:=mY K O ops i M n fs env S (id rfl) j
theorem bVv(c:Tn_)(j:Nat):wbV K O (.tup c) j ops i M n fs env S=wbk K O ops (i+1) M n fs (env.set j (.tup c)) S:=mY K O ops i M n fs env S (id rfl) j
theorem bGk  (j:Nat):wbV K O (.hole) j ops i M n fs env S=wbk K O ops (i+1) M n fs (env.set j (.hole)) S:=mY K O ops i M n fs env S (id rfl) j
theorem bVw(a:Nat)(l:Tp_)(b:Nat)(j:Nat):wbV K O (.rsv a l b) j ops i M n fs env S=wbk K O ops (i+1) M n fs (env.set j (.rsv a l b)) S:=mY K O ops i M n fs env S (id rfl) j
end
end
end Go.TM
