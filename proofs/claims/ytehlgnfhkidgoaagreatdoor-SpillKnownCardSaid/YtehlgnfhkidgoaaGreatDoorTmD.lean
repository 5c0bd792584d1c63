/- A part of the evaluator TM, and of the proof that what it computes the model does. Condition: none. -/
import Derived.Test.YtehlgnfhkidgoaaGreatDoorTmC
import Derived.Laws.Sem
import Derived.RangeFuncLeaves
import Derived.OpenShut
import Derived.LaidLaws
import Derived.LaidSub
import Derived.ProofKit
import Derived.Carry
import Derived.OpenVars
import Derived.MakeChecks
set_option linter.unusedVariables false
set_option linter.unusedSimpArgs false
namespace Go.TM
open Go
section
variable {P:Program}{O:dE}{K:TM.bD}{A:Ann}
variable {M:Mem}{J:aF}{L:List (Option Nat)}{S S':aA}{env env':Env}{w:World}
theorem LbR.stepN{n:Nat}{M':Mem}{J':aF}{w':World}(h:LbR M J L env w)(t:TrN n (fun _=>False) M J S w M' J' S' w'):LbR M' J' L env w':=by refine⟨h.len,fun j cs d=>?_,h.inj⟩;obtain⟨cb,c,b⟩:=h.box j cs d;have a:=b.lt;exact⟨cb,c,b.step (t.frame cb a b.1 (fun h=>h)) t.mle (fun o=>t.mnew cb o a b.1) t.jle (t.has a b.1)⟩
theorem MS.stepN{n:Nat}{M':Mem}{J':aF}{w':World}(h:MS P O K M J L S env w)(a:WR P O M' J' S' w')(t:TrN n (fun _=>False) M J S w M' J' S' w'):MS P O K M' J' L S' env w' :=
 ⟨a,h.lb.stepN t,fun g cs b=>(h.gl g cs b).mono t.mle⟩
def bVk(P:Program)(O:dE)(K:TM.bD)(A:Ann)(nt n0 fm:Nat)(bef:List Nat)(ops:List Oper)(tops:List aK)(X:Nat->Prop)(run:Nat)(M:Mem)(J:aF)(L:List (Option Nat))(S:aA)(env:Env)(w:World)(rs:List TV)(a:Act)(y:Nat)
  (next:Act->World->Prop):Prop :=
 ∀(al':List (Nat×Nat)) (M':Mem) (J':aF) (w':World) (a':Act),DS P O K A nt n0 fm bef ops tops (fun k=>X k\/k=y) run al' M' J' L S env w' rs a'->a'.defers=a.defers->TrN n0 (cR L) M J S w M' J' S w'->next a' w'
theorem DS.ready{m D v:Nat}{c:Tc_}{ops:List Oper}{tops:List aK}(f:yQ P O A m c ops tops){X:Tm_}{i:Nat}{s:List (Nat×Nat)}{rs:Tn_}{a:Act}(h:DS P O K A m D v c ops tops X i s M J L S env w rs a){y:Nat}(C:¬X y) (l:∀j,B c y j->X j) {to:aK} (d:tops[y]?=some to):(∀tx∈aQ to.op,bFu A ops X tx)/\∀g b,to.guard=some (g,b)->X g/\∃n t,ops[g]?=some n/\n.dst=some t:=by
 refine⟨fun tx e=>?_,fun g b z=>?_⟩
 .cases tx with
  |reg r=>exact l r ((f.opd y to d _ e).1 r rfl)
  |loc j =>intro k o E p t u x;exact C (h.xc k E y ((f.opd y to d _ e).2 j rfl k o t p u x))
  |_=>trivial
 .obtain⟨q,F⟩:=f.gd y to d g b z;exact⟨l g q,F⟩
theorem DS.run_wp{nt n0 fm:Nat}{T:Tc_}{ops:List Oper}{tops:List aK}(U:yQ P O A nt T ops tops){F:Fence}(hF:cW F)(nn:Nat){X:Tm_}{H:Nat}{al:List (Nat×Nat)}{rs:Tn_}{a:Act} (h:DS P O K A nt n0 fm T ops tops X H al M J L S env w rs a) {y:Nat} (hy:H.testBit y=true) (hX:¬X y) (hr:∀j,B T y j->X j) {next:Act->World->Prop} (hk:bVk P O K A nt n0 fm T ops tops X H M J L S env w rs a y next) {Z:Exit->Act->World->Prop}:wpOpIn F nn P ops.toArray Z y next a w:=by
 have g8:=h.rn y hy;have E:ops[y]?=some ops[y]:=D_ g8;obtain⟨to,C,D⟩:=U.ca y ops[y] E;obtain⟨ht,g3⟩:=h.ready U hX hr C;have I:=aEw (U.nl y to C);have G:∀g want,ops[y].guard=some (g,want)->X g/\∃og t,ops[g]?=some og/\og.dst=some t:=by rw[<-D.guard];exact g3
 have h3:=fun(_:aP to.op=none) (hl:to.loc=none) (j t:Nat) (hd:ops[y].dst=some t)=>aEt U.hs D I hl j t hd;have g2:∀ {env':Env} {v:TV},∀j,aP to.op=some j->rs.any (qJ j)=false/\v=.lp j 0/\(∃d,ops[y].dst=some d/\A.slots[j]?=some d)/\(∃cs,env'=env.set j (.lb cs))/\j<env.length:=fun j hj=>by rw[I]at hj;simp at hj
 have h0:∀i,(X i\/i=y)->H.testBit i=true:=fun i E=>E.elim (h.sub i) (fun e=>e▸hy);have ha:∀i,(X i\/i=y)->∀j,B T i j->(X j\/j=y):=fun i E j hj=>E.elim (fun E=>.inl (h.xc i E j hj)) (fun e=>.inl (hr j (e▸hj)));have g1:∀i,H.testBit i=true->fm.testBit i=true\/(X i\/i=y):=fun i E=>(h.fx i E).imp id .inl;have hv:∀ {w':World},MS P O K M J L S env w'->aKh A ((ops.take y).map (·.dst)) M J L (aX K env rs) a to.op:=fun ms x tx hm hx=>aRc ms h.rr hx (ht tx hm);have m:to.op≠.bad->bX P O A ((ops.take y).map (·.dst)) (ops[y].dst.bind fun t=>eC t A.slots 0) ops[y].op to.op:=fun hb=>D.op.resolve_left hb;unfold wpOpIn;simp only[K4,E];by_cases hal:∃i,(y,i)∈al
 .obtain⟨i,h6⟩:=hal;obtain⟨_,_,g9,vf,b,c,hg,h7,V,g4,g6⟩:=h.al1 y i h6;rw[C]at c;simp at c;subst c;have hw:=kZ h.rr U.hd (by rw[<-D.guard];exact hg) G;rw[hw];simp only[N6];have m:=m (by intro e;have:=V 0;rw[e]at this;simp[bP]at this);obtain⟨_,gb,h8,ob,vm,l,u⟩:=aVv m a h.ms (hv h.ms) (V i);have ga:vf i=gb i:=by have:=h8 i;rw[V i]at this;simpa using this
  have W:qM J S l b i (J.set i (some l)) S:=.real i g4 g6;have g5:n0<=i:=h.al3 _ h6;obtain⟨gd,hu⟩:=h.ms.wr.place ob l b W u.cb (u.blk _ W.jle) (n:=n0) (.inr g5);unfold Oper.wpIn;refine⟨fun f _=>hF.fn f,?_⟩;rw[Oper.semAt_eq _ _ _ m.notDefer,u.run,Oper.uponIn_value];have o:=h.ms.stepN gd hu;have N:VR M (J.set i (some l)) L (rs.getD y .hole) vm:=by rw[h7,ga];exact u.val L _ i (W.at h.ms.wr.len)
  have ho:=h.rr.mono (.refl M) W.jle;have h9:=ho.step U.hd U.hs E C hX (.refl (cR L) M (J.set i (some l)) S (w.alloc ob)) (env':=env) (L':=L) (by rw[I];exact⟨rfl,.refl _⟩) N ⟨rfl,rfl,fun k _=>rfl⟩ g2 h3;refine hk (al.filter fun p=>decide (p.1≠y)) M (J.set i (some l)) (w.alloc ob) _ ⟨h9,o,h0,h.cl,ha,fun z hz R=>?_,fun z k Y=>?_,fun p q W hq=>?_,h.rn,fun p W=>?_,by simpa using h.nj,g1⟩ oK (hu.weaken (fun _ hh=>hh.elim))
  .rw[G6]at R;rcases h.pend z hz R.1 with h'|⟨k,g7⟩;.exact .inl h'
   .exact .inr ⟨k,B5.2 ⟨g7,by simpa using R.2⟩⟩
  .obtain⟨h1,h2⟩:=B5.1 Y;have he:z≠y:=by simpa using h2
   obtain⟨e1,e2,t2,h5,b2,f1,f2,f3,f4,f5,f6⟩:=h.al1 z k h1;have ge:k≠i:=by rintro rfl;have:=h.al2 (z,k) (y,k) h1 h6 (.inr rfl);simp at this;exact he this
   exact⟨e1,fun hh=>hh.elim e2 he,t2,h5,b2,f1,f2,f3,f4,by rw[B3 A_];exact f5,f6⟩
  .exact h.al2 p q (B5.1 W).1 (B5.1 hq).1
  .exact h.al3 p (B5.1 W).1
 .have gc:=(h.pend y hy hX).resolve_right hal;obtain⟨g9,c,hc⟩:=gc;rw[C]at c;simp at c;subst c;have h4:∀(M':Mem) (J':aF) (w':World) (v':Value),VR M' J' L (rs.getD y .hole) v'->MS P O K M' J' L S env w'->Tr (cR L) M J S w M' J' S w'->next (a.put ops[y].dst v') w':=by intro M' J' w' v' N o tr;have h9:=h.rr.step U.hd U.hs E C hX tr (env':=env) (L':=L) (by rw[I];exact⟨rfl,.refl _⟩) N ⟨rfl,rfl,fun k _=>rfl⟩ g2 h3;refine hk al M' J' w' _ ⟨h9,o,h0,h.cl,ha,fun z hz R=>h.pend z hz (fun hh=>R (.inl hh)),fun z k Y=>?_,h.al2,h.rn,h.al3,C0 h.nj tr.jle.1,g1⟩ oK (tr.trN n0);obtain⟨e1,e2,t2,h5,b2,f1,f2,f3,f4,f5,f6⟩:=h.al1 z k Y;exact⟨e1,fun hh=>hh.elim e2 (fun e=>hal ⟨k,e▸Y⟩),t2,h5,b2,f1,f2,f3,f4,(tr.ph k f5).1,f6⟩
  rcases hc with⟨hg,h7⟩|⟨hg,s⟩;.have hw:=kZ h.rr U.hd (by rw[<-D.guard];exact hg) G;rw[hw];simp only[Y_,I5];exact⟨fun f _=>hF.fn f,h4 M J w _ (by rw[h7];exact nW) h.ms (.refl _ _ _ _ _)⟩
  .have hw:=kZ h.rr U.hd (by rw[<-D.guard];exact hg) G;rw[hw];simp only[N6];have m:=m (by intro e;rw[e]at s;simp[iZ,aU,aO]at s);have hn:=(bFo m a h.ms (hv h.ms) (v:=rs.getD y .hole) (by
    unfold iZ at s;split at s;.rename_i v W;simp at s;subst s;exact .inl W
    .exact .inr s)).2
   refine tS hF nn m.notDefer hn (Q:=fun r=>r.1=rs.getD y .hole/\r.2.1=env/\r.2.2=S) ⟨rfl,rfl,rfl⟩ ?_;rintro v env2 S2 M' J' L2 w' v' ⟨rfl,rfl,rfl⟩ N o tr el;rw[I]at el;obtain⟨rfl,_⟩:=el;exact h4 M' J' w' v' N o tr
theorem aBh{tops:List aK}{rs:Tn_}{env:Env}{S:aA}:∀ {chk:Tc_},nM K tops rs env S chk=true->∀y∈chk,∀to,tops[y]?=some to->dT to.guard rs=some true->iZ K to.op env rs S=some (rs.getD y .hole)
 |[],_,y,a=>by simp at a
 |i::is,h,y,a=>by
  simp only[nM,O_]at h;intro to c d;rcases J_.1 a with rfl|a
  .have b:=h.1;rw[c]at b;simp only[d]at b;split at b;.rename_i v hv;rw[hv,bM5 b]
   .simp at b
  .exact aBh h.2 y a to c d
theorem DS.effect{N n0 U:Nat}{g:Tc_}{ops:List Oper}{tops:List aK}(E:yQ P O A N g ops tops){X:Tm_}{l:Nat}{al:List (Nat×Nat)}{rs:Tn_}{a:Act}(h:DS P O K A N n0 U g ops tops X l al M J L S env w rs a) {e:Nat} (he:l.testBit e=false) (x:e<ops.length) (D:∀j,B g e j->X j) {to:aK} (Q:tops[e]?=some to) {v:TV} {M':Mem} {J':aF} {L':Tk_} {w':World} {a':Act} (h0:RR A N ops tops (fun k=>X k\/k=e) M' J' L' env' (rs.set e v) a') (Z:MS P O K M' J' L' S' env' w') (tr:Tr (cR L) M J S w M' J' S' w') (el:EL w (aP to.op) env env' L L') {chk:Tc_} (s:nM K tops (rs.set e v) env' S' chk=true) (F:∀y,U.testBit y=true->B g e y\/y∈chk\/∀ty,tops[y]?=some ty->xX ty.op=false):DS P O K A N n0 U g ops tops (fun k=>X k\/k=e) (l ||| 2 ^ e) al M' J' L' S' env' w' (rs.set e v) a':=by
 have u:e<rs.length:=by rw[h.rr.rl];exact x
 obtain⟨k1,k2,I⟩:=jH u v;have V:=aEw (E.nl e to Q);rw[V]at el;have t:∀j,eK env' j=eK env j:=fun j=>aEq el.2 j;have o:∀(y:Nat),l.testBit y=true->∀r,B g y r->(rs.set e v).getD r .hole=rs.getD r .hole:=fun y c r D=>I r (fun T=>by have:=h.cl y c r D;rw[T,he]at this;simp at this);have p:∀y,l.testBit y=true->y≠e:=fun y c T=>by rw[T,he]at c;simp at c
 refine⟨h0,Z,fun i f=>eE.2 (f.imp (h.sub i) id),fun i f j G=>?_,fun i f j G=>?_,fun y c H=>?_,fun y k R=>?_,h.al2,fun i f=>?_,h.al3,C0 h.nj tr.jle.1,fun y c=>?_⟩
 .rcases eE.1 f with f|rfl;.exact eE.2 (.inl (h.cl i f j G))
  .exact eE.2 (.inl (h.sub j (D j G)))
 .rcases f with f|rfl;.exact .inl (h.xc i f j G)
  .exact .inl (D j G)
 .rw[G6]at H;have c:=(eE.1 c).resolve_right H.2;rcases h.pend y c H.1 with⟨ty,n,hc⟩|h'
  .left;refine⟨ty,n,?_⟩;have q:=rS E n (o y c);rw[q,I y (p y c)];rcases hc with hc|⟨hg,d⟩;.exact .inl hc
   .refine .inr ⟨hg,?_⟩;have W:=tY (K:=K) E n t (o y c);unfold iZ at d;cases hpu:aU ty.op (aX K env rs)with
    |some v2 =>rw[hpu]at d;unfold iZ;rw[<-yP W,hpu];exact d
    |none =>
     rw[hpu]at d;simp only at d;have C:xX ty.op=true:=by
      cases hb:xX ty.op with
      |true=>rfl
      |false=>rw[aNi hb]at d;simp at d
     rcases F y ((h.fx y c).resolve_right H.1)with h1|h1|h1;.exact absurd (D y h1) H.1
     .have:=aBh s y h1 ty n (by rw[q];exact hg);rw[I y (p y c)]at this;exact this
     .rw[h1 ty n]at C;simp at C
  .exact .inr h'
 .obtain⟨z,e2,ty,vf,b,Y,f2,f3,f4,f5,f6⟩:=h.al1 y k R;obtain⟨p1,p2⟩:=tr.ph k f5;refine⟨eE.2 (.inl z),fun hh=>hh.elim e2 (p y z),ty,vf,b,Y,?_,?_,fun m=>?_,p1,by rw[p2];exact f6⟩;.rw[rS E Y (o y z)];exact f2
  .rw[I y (p y z)];exact f3
  .rw[<-pM m (tY E Y t (o y z))];exact f4 m
 .rcases eE.1 f with f|rfl;.exact h.rn i f
  .exact x
 .rcases eE.1 c with c|rfl;.exact(h.fx y c).imp id .inl
  .exact .inr (.inr rfl)
theorem DS.fm{e f d fm':Nat}{b:Tc_}{ops:List Oper}{tops:List aK}{X:Tm_}{c:Nat}{g:List (Nat×Nat)}{rs:Tn_}{a:Act}(h:DS P O K A e f d b ops tops X c g M J L S env w rs a)(j:∀y,d.testBit y=true->fm'.testBit y=true): DS P O K A e f fm' b ops tops X c g M J L S env w rs a :=
 ⟨h.rr,h.ms,h.sub,h.cl,h.xc,h.pend,h.al1,h.al2,h.rn,h.al3,h.nj,fun y i=>(h.fx y i).imp (j y) id⟩
theorem DS.congr{e f d:Nat}{b:Tc_}{ops:List Oper}{tops:List aK}{X X':Tm_}{c:Nat}{g:List (Nat×Nat)}{rs:Tn_}{a:Act}(h:DS P O K A e f d b ops tops X c g M J L S env w rs a)(i:∀k,X k↔X' k): DS P O K A e f d b ops tops X' c g M J L S env w rs a:=by have:X=X':=funext fun k=>propext (i k);exact this▸h
theorem aEx{y:Nat}:∀(a:Tc_) (m:Nat),(a.foldl (fun m i=>m ||| 2 ^ i) m).testBit y=true↔m.testBit y=true\/y∈a
 |[],m=>B_
 |i::a,m=>by simp only[List.foldl_cons];rw[aEx a,eE];simp only[J_];rw[AB]
theorem tZ{d:Tc_}{y:Nat}:∀ {c:Tc_} {b a:Nat},lL d c b=some a->(a.testBit y=true↔b.testBit y=true\/y∈c)
 |[],b,a,h=>by simp[lL]at h;subst h;simp
 |i::c,b,a,h=>by obtain⟨_,_,e⟩:=mQ h;rw[tZ e,eE];simp only[J_];rw[AB]
theorem lA{tops:List aK}{env:Env}:∀ {b:Tc_} {rs:Tn_} {S:aA} {q:List TV×aA},dZ K tops b rs env S=some q->∀i∈b,i<tops.length
 |[],_,_,_,_,i,a=>by simp at a
 |k::b,rs,S,q,h,i,a=>by
  simp only[dZ]at h;split at h;.simp at h
  .rename_i o ho;have c:k<tops.length:=(E_.1 ho).1;rcases J_.1 a with rfl|a;.exact c
   .split at h;.simp at h
    .exact lA h i a
    .split at h;.exact lA h i a
     .split at h;.exact lA h i a
      .simp at h
theorem mC{a:Tc_}{tops:List aK}{e:Nat}{chk d:Tc_}{ps:Tl_}{c:Option Nat}{j k f:Nat}(h:jA a tops ((e,chk,d)::ps) c j k=some f): (∀l,c=some l->B a e l)/\(∀y,y<tops.length->k.testBit y=true->B a e y\/y∈chk\/∀ty,tops[y]?=some ty->xX ty.op=false)/\(∀i∈d,B a i e) /\∃b,lL a (e::d) j=some b/\jA a tops ps (some e) b (k ||| d.foldl (fun m i=>m ||| 2 ^ i) 0)=some f:=by
 have key:∀ {c0:Bool},(c0=true->∀l,c=some l->B a e l) ->
   (if(c0&&(List.range tops.length).all (fun i=>!(k.testBit i)||(a.getD e 0).testBit i||chk.contains i||!(match tops[i]? with|some o=>xX o.op|none=>true))&&d.all (fun i=>(a.getD i 0).testBit e))=true then
    match lL a (e::d) j with
    |some b=>jA a tops ps (some e) b (k ||| d.foldl (fun m i=>m ||| 2 ^ i) 0)
    |none=>none
   else none)=some f->(∀l,c=some l->B a e l)/\(∀y,y<tops.length->k.testBit y=true->B a e y\/y∈chk\/∀ty,tops[y]?=some ty->xX ty.op=false)/\(∀i∈d,B a i e) /\
   ∃b,lL a (e::d) j=some b/\jA a tops ps (some e) b (k ||| d.foldl (fun m i=>m ||| 2 ^ i) 0)=some f:=by
  intro c0 r h
  split at h
  .rename_i p
   simp only[O_,C1]at p
   obtain⟨⟨u,w⟩,v⟩:=p
   refine⟨r u,fun y t s=>?_,fun i x=>v i x,?_⟩
   .have:=w y (C2.2 t)
    simp only[D3,D5]at this
    rcases this with((g|g)|g)|g
    .rw[s]at g;simp at g
    .exact .inl g
    .exact .inr (.inl (by simpa using g))
    .refine .inr (.inr fun ty q=>?_)
     rw[q]at g;exact g
   .split at h
    .rename_i b hrun
     exact⟨b,hrun,h⟩
    .simp at h
  .simp at h
 cases c with
 |none=>exact key (c0:=true) (fun _ l n=>by simp at n) h
 |some l0=>exact key (c0:=(a.getD e 0).testBit l0) (fun p l n=>by simp at n;subst n;exact p) h
theorem aBi{g:Tc_}{tops:List aK}{X:Tm_}(r:∀i,X i->∀j,B g i j->X j){y:Nat}(m:∀j,B g y j->X j):∀ {ps:Tl_} {e:Nat} {chk n:Tc_} {d:Option Nat} {k q f:Nat},jA g tops ((e,chk,n)::ps) d k q=some f->f.testBit y=true->k.testBit y=false->y=e\/X e
 |ps,e,chk,n,d,k,q,f,h,hall,hrun=>by
  obtain⟨_,_,v,c,t,l⟩:=mC h;obtain⟨_,_,w⟩:=mQ t;by_cases hye:y=e;.exact .inl hye
  .by_cases hyf:y∈n;.exact .inr (m e (v y hyf))
   .have a:c.testBit y=false:=by
     cases hb:c.testBit y with
     |false=>rfl
     |true =>
      rcases(tZ t).1 hb with b|b;.rw[hrun]at b;simp at b
      .rcases J_.1 b with b|b;.exact absurd b hye
       .exact absurd b hyf
    cases ps with
    |nil =>simp only[jA,R_]at l;rw[l,hall]at a;simp at a
    |cons p ps =>
     obtain⟨e2,s,u⟩:=p;have o:=(mC l).1 e rfl;rcases aBi r m l hall a with b|b;.subst b;exact .inr (m e o)
     .exact .inr (r e2 b e o)
theorem aAd{a:Tc_}:∀ {os:List Oper} {i:Nat},aDz a i os=true->∀ {k:Nat} {o:Oper},os[k]?=some o->(∀e∈o.after.toList,Region.binds .any e=true->e.on<i+k) /\(∀j,B a (i+k) j->∃e∈o.after.toList,Region.binds .any e=true/\(e.on=j\/B a e.on j))
 |[],i,_,k,o,hk=>by simp at hk
 |o0::os,i,h,k,o,hk=>by
  simp only[aDz,O_]at h;obtain⟨⟨⟨g,l⟩,r⟩,p⟩:=h;cases k with
  |zero =>
   simp at hk;subst hk;rw[Nat.add_zero];simp only[C1]at g l;refine⟨fun e m n=>?_,fun j b=>?_⟩;.have:=g e m;rw[n]at this;simpa using this
   .have d:j<i:=by
     rcases D2 j i with c|f;.exact c
     .have q:a.getD i 0<2 ^ j:=E7 (by simpa using r) (N9 A_ f);unfold B at b;rw[P8 q]at b;simp at b
    have:=l j (C2.2 d);unfold B at b;rw[b]at this;simp only[E4,G0,E5,O_,D3,O4]at this;exact this
  |succ k =>simp at hk;have:=aAd p hk;rw[show i+1+k=i+(k+1) by omega]at this;exact this
theorem vC{b:Tc_}{f:Tk_}{ops:List Oper}:∀ {os:List aK} {i:Nat},aMt b f ops i os=true->∀ {k:Nat} {to:aK},os[k]?=some to ->(∀tx∈aQ to.op,bE4 b f (i+k) tx=true)/\isL to.op=false/\∀g a,to.guard=some (g,a)->B b (i+k) g/\∃c t,ops[g]?=some c/\c.dst=some t
 |[],i,_,k,to,hk=>by simp at hk
 |o0::os,i,h,k,to,hk=>by
  simp only[aMt,O_]at h;obtain⟨⟨⟨m,o⟩,d⟩,n⟩:=h;cases k with
  |zero =>
   simp at hk;subst hk;rw[Nat.add_zero];refine⟨fun tx l=>(C1.1 m) tx l,by simpa using o,fun g a j=>?_⟩;rw[j]at d;simp only[O_]at d;refine⟨d.1,?_⟩;have e:=d.2;split at e;.rename_i c hog;obtain⟨t,p⟩:=O7.1 e;exact⟨c,t,hog,p⟩
   .simp at e
  |succ k =>simp at hk;have:=vC n hk;rw[show i+1+k=i+(k+1) by omega]at this;exact this
theorem bFv{f id:Nat}(p:fB A f){ops:List Oper}(w:tT f ops){b:Tc_}(h:aMt b (ops.map fun o=>o.dst.bind fun t=>eC t A.slots 0) ops 0 (dC P O A id true ops 0 [])=true): yQ P O A f b ops (dC P O A id true ops 0 []):=by
 refine⟨p,w,fun k o d=>?_,eL,fun k to a tx n=>?_,fun k to a=>(vC h a).2.1,fun k to a g c u=>?_⟩;.obtain⟨to,e,m⟩:=mP (P:=P) (O:=O) (A:=A) (id:=id) (draw:=true) (i:=0) (dsts:=[]) d;exact⟨to,e,by simpa using m⟩
 .have:=(vC h a).1 tx n;rw[A9]at this;refine⟨fun r v=>by subst v;exact this,fun j s q o t d x l=>?_⟩;subst s;simp only[bE4,C1]at this;have e:=this q (C2.2 (by simpa using(E_.1 d).1));have m:(ops.map fun o=>o.dst.bind fun t=>eC t A.slots 0).getD q none=some j:=by simp[List.getD,d,x,aVz p l]
  rw[m]at e;simpa[B] using e
 .have:=(vC h a).2.2 g c u;rwa [A9]at this
def X(listed:Array Bool)(i:Nat):Prop:=listed.getD i false=true
theorem bFw{a:Array Bool}{y:Nat}(b:y<a.size)(k:Nat):X (a.setIfInBounds y true) k↔(X a k\/k=y):=by
 unfold X;rw[B2,B2];by_cases h:k=y;.subst h;rw[G5 b];simp
 .rw[I9 (B0 h)];simp[h]
theorem aHy{ops:List Oper}{a:Array Bool}{y:Nat}(h:y∈Region.ready .any ops.toArray a):y<ops.length/\a.getD y true=false/\∀o,ops[y]?=some o->∀e∈o.after.toList,Region.binds .any e=true->X a e.on:=by unfold Region.ready at h;simp only[B5,C2,O_,D5]at h;obtain⟨f,g,b⟩:=h;refine⟨by simpa using f,g,fun o i e c d=>?_⟩;simp only[K4,i,Option.map_some,Option.getD_some]at b;rw[<-W3]at b;have:=(C1.1 b) e c;rw[d]at this;simpa[X] using this
theorem aYh{ops:List Oper}{a:Array Bool}(h:a.size=ops.length){y:Nat}(d:y<ops.length)(c:¬X a y)(g:∀o,ops[y]?=some o->∀e∈o.after.toList,Region.binds .any e=true->X a e.on):y∈Region.ready .any ops.toArray a:=by
 unfold Region.ready;simp only[B5,C2,O_,D5];refine⟨by simpa using d,?_,?_⟩;.have i:y<a.size:=A_;unfold X at c;rw[B2,A4 i]at c |-;simpa using c
 .have f:ops[y]?=some ops[y]:=D_ d;simp only[K4,f,Option.map_some,Option.getD_some];rw[<-W3,C1];intro e b;cases hb:Region.binds .any e with
  |false=>rfl
  |true =>have:=g _ f e b hb;simpa[X] using this
theorem aYi{ops:List Oper}{d:Tc_}(b:aDz d 0 ops=true){a:Array Bool}(c:a.size=ops.length)(h:Region.ready .any ops.toArray a=[]):∀y,y<ops.length->X a y:=by
 intro y;induction y using Nat.strongRecOn with
 |_ y ih =>
  intro i;by_cases hX:X a y;.exact hX
  .have:=aYh c i hX (fun o k e g j=>by have f:=(aAd b k).1 e g j;rw[A9]at f;exact ih e.on f A_);rw[h]at this;simp at this
theorem aKp{ops:List Oper}{f:Tc_}(h:aDz f 0 ops=true){Y:Tm_}(s:∀i,Y i->∀o,ops[i]?=some o->∀e∈o.after.toList,Region.binds .any e=true->Y e.on)(k:∀i,Y i->i<ops.length): ∀(y:Nat) (o:Oper),ops[y]?=some o->(∀e∈o.after.toList,Region.binds .any e=true->Y e.on)->∀j,B f y j->Y j:=by
 intro y;induction y using Nat.strongRecOn with
 |_ y ih =>
  intro o p m j n;have l:=aAd h p;rw[A9]at l;obtain⟨e,c,d,a⟩:=l.2 j n;rcases a with a|a;.rw[<-a];exact m e c d
  .have g:=m e c d;have b:=k _ g;exact ih e.on (l.1 e c d) _ (D_ b) (fun e' q r=>s e.on g _ (D_ b) e' q r) j a
theorem aNl{l:Nat}{b:Tc_}{ops:List Oper}{tops:List aK}(C:yQ P O A l b ops tops){m:Orc}{M0:Mem}{J0:aF}{L0:Tk_}{S0:aA}{j:World}{t:Act}{Qf:List TV×Env×aA->Prop}{next:Act->World->Prop} (f:aV0 P O K A l ops tops M0 J0 L0 S0 j t Qf next) {Y:Tm_} {d z i:Nat} {D:List (Nat×Nat)} {rs:Tn_} {a:Act} {ps:Tl_} {c:Option Nat} (h:DS P O K A l J0.length z b ops tops Y d D M J L S env w rs a) (q:jA b tops ps c d z=some i) (g:(eA K m tops ps rs env S).All Qf) (E:TrN J0.length (cR L0) M0 J0 S0 j M J S w) (F:OG L0 L j w) (r:a.defers=t.defers) (v:∀y,y<ops.length->Y y):next a w:=by
 cases ps with
 |nil=>exact f rs env S M J L w a g (h.rr.congr (fun k=>⟨fun s=>h.rn k (h.sub k s),fun s=>v k s⟩)) r h.ms E.tr F
 |cons p ps =>
  obtain⟨e,chk,H⟩:=p;obtain⟨_,_,_,u,G,_⟩:=mC q;obtain⟨x,_,_⟩:=mQ G;simp only[eA]at g;split at g;.exact g.elim
  .rename_i o ho;have n:e<ops.length:=by rw[<-C.tl];exact(E_.1 ho).1
   rw[h.sub e (v e n)]at x;simp at x
theorem bFx{hp:Orc}(ha:oL P O K hp){F:Fence}(hF:cW F)(nn:Nat){nt:Nat}{E:Tc_}{ops:List Oper}{tops:List aK}(I:yQ P O A nt E ops tops)(h9:aDz E 0 ops=true){Z:Exit->Act->World->Prop} {M0:Mem} {J0:aF} {L0:Tk_} {S0:aA} {w0:World} {a0:Act} {Qf:List TV×Env×aA->Prop} (U:aV0 P O K A nt ops tops M0 J0 L0 S0 w0 a0 Qf (Z .normal)) {hg:Nat} (Y:∀y,y<ops.length->hg.testBit y=true): ∀(f:Nat) (c:Array Bool) (ps:Tl_) (s:Option Nat) (t fm:Nat) (al:List (Nat×Nat)) (M:Mem) (J:aF) (L:Tk_) (S:aA) (env:Env) (w:World) (rs:Tn_) (a:Act),c.size=ops.length ->c.toList.count false<=f->(∀i,X c i->∀o,ops[i]?=some o->∀e∈o.after.toList,Region.binds .any e=true->X c e.on)->DS P O K A nt J0.length fm E ops tops (X c) t al M J L S env w rs a ->jA E tops ps s t fm=some hg->(eA K hp tops ps rs env S).All Qf->TrN J0.length (cR L0) M0 J0 S0 w0 M J S w->OG L0 L w0 w->a.defers=a0.defers->wpAnyIn F nn P .any ops.toArray Z f c a w:=by
 intro f;induction f with
 |zero =>
  intro c ps s t fm al M J L S env w rs a h7 hc h8 h g Q tr og H;have T:∀y,y<ops.length->X c y:=by
   intro y hy;have h0:c.toList.count false=0:=A_;rw[List.count_eq_zero]at h0;unfold X;have hl:y<c.size:=A_;rw[B2,A4 hl];cases hb:c[y]with
   |true=>rfl
   |false=>exact absurd (by rw[<-hb];exact Y2.2 (Array.getElem_mem hl)) h0
  refine⟨?_,aNl I U h g Q tr og H T⟩;cases V:Region.ready .any ops.toArray c with
  |nil=>rfl
  |cons y r =>obtain⟨W,h2,_⟩:=aHy (y:=y) (by rw[V];simp);have:=T y W;unfold X at this;have hl:y<c.size:=A_;rw[B2,A4 hl]at this h2;simp at this h2;rw[h2]at this;simp at this
 |succ f ih =>
  intro c ps s t fm al M J L S env w rs a h7 hc h8 h g Q tr og H;refine⟨fun V=>aNl I U h g Q tr og H (aYi h9 h7 V),fun y hy=>?_⟩;obtain⟨l,G,hh⟩:=aHy hy;have d:y<c.size:=A_;have h5:¬X c y:=by unfold X;rw[B2,A4 d]at G |-;simp at G |-;exact G
  have V:∀j,B E y j->X c j:=aKp h9 h8 (fun i N=>h.rn i (h.sub i N)) y ops[y] (D_ l) (hh _ (D_ l));have R:(c.setIfInBounds y true).size=ops.length:=by simpa using h7
  have C:(c.setIfInBounds y true).toList.count false<=f:=by
   rw[Array.toList_setIfInBounds,List.count_set (by simpa using d)];have:c.toList[y]'(by simpa using d)=false:=by rw[B2,A4 d]at G;simpa using G
   rw[this];have W:0<c.toList.count false:=List.count_pos_iff.2 (by rw[<-this];exact B8 _);show c.toList.count false-1+0<=f;omega
  have h4:∀i,X (c.setIfInBounds y true) i->∀o,ops[i]?=some o->∀e∈o.after.toList,Region.binds .any e=true->X (c.setIfInBounds y true) e.on:=by
   intro i N o ho e he hb;rw[bFw d]at N |-;rcases N with N|rfl;.exact .inl (h8 i N o ho e he hb)
   .exact .inl (hh o ho e he hb)
  cases hrun:t.testBit y with
  |true =>refine h.run_wp I hF nn hrun h5 V ?_;intro g5 M' J' w' a' h' D u;exact ih _ ps s t fm g5 M' J' L S env w' rs a' R C h4 (h'.congr (fun k=>(bFw d k).symm)) g Q (tr.trans u og.weak) (og.trans (.refl _ _ _) tr.size u.size) (D.trans H)
  |false =>
   cases ps with
   |nil =>simp only[jA,R_]at g;rw[g,Y y l]at hrun;simp at hrun
   |cons p ps =>
    obtain⟨e,chk,fl⟩:=p;obtain⟨_,ht,g9,hj,g4,hv⟩:=mC g;obtain⟨h6,_,g2⟩:=mQ g4;have hu:y=e:=by
     rcases aBi h.xc V g (Y y l) hrun with W|W;.exact W
     .rw[h.sub e W]at h6;simp at h6
    subst hu;simp only[eA]at Q;split at Q;.exact Q.elim
    rename_i to hto;obtain⟨ga,n,hk⟩:=I.ca y ops[y] (D_ l);rw[hto]at n;have n:=D9 n;subst n;rw[Out.all_bind]at Q;obtain⟨hm,g1⟩:=h.ready I h5 V hto;refine aHu ha hF nn I.hd I.hs (D_ l) hto hk h.rr h.ms (fun x tx hx _=>hm tx hx) (by rw[<-hk.guard];exact g1) h5 Q ?_;intro v env' S' M' J' L' w' a' hQ g8 D hn u g7 el;simp only at hQ;split at hQ
    .rename_i hchk;split at hQ
     .rename_i q hfl;have W:=h.effect I h6 l V hto g8 hn u el hchk (fun z hz=>by
       by_cases hzl:z<tops.length;.exact ht z hzl hz
       .exact .inr (.inr fun ty g6=>absurd (E_.1 g6).1 hzl))
      have h2:=W.fm (fm':=fm ||| fl.foldl (fun m i=>m ||| 2 ^ i) 0) (fun z hz=>by rw[O3,hz];rfl);obtain⟨hw,J2,h3,g3⟩:=h2.floats (own:=fun _=>False) I (fun i N=>⟨by rw[<-I.tl];exact lA hfl i N,by rw[O3,(aEx fl 0).2 (.inr N),K9]⟩) g2 hfl;exact ih _ ps (some y) hj _ hw M' J2 L' q.2 env' w' q.1 a' R C h4 (h3.congr (fun k=>(bFw d k).symm)) hv hQ ((tr.trans (u.trN _) og.weak).trans g3 (fun b hb=>hb.elim)) (og.trans g7 tr.size u.size) (D.trans H)
     .exact hQ.elim
    .exact hQ.elim
theorem bM7{m:Orc}(ha:oL P O K m){F:Fence}(hF:cW F)(n:Nat){base g id:Nat}(hs:fB A g){ops:Array Oper}(hd:zW g ops.toList=true){c:bE3}
  (H:aQw A c ops.toList (dC P O A id true ops.toList 0 [])=true)
  {Q:aV×Env×aA->Prop} (u:(eS K m (.draw c.f0 c.ph (dC P O A id true ops.toList 0 [])) env S).All Q) {a:Act} {Z:Exit->Act->World->Prop} (cs:CS P O K A base g M J L S env w a) (hk:tV P O K A base g M J L S w Q Z):
  (Code.region id ops true).wpIn F n P Z a w:=by
 have x:=aHv hd;unfold aQw at H;simp only[O_]at H;obtain⟨⟨T,s⟩,d⟩:=H;have G:=bFv (P:=P) (O:=O) (id:=id) hs x s;split at d
 .rename_i run hr0;split at d
  .rename_i all hph;have t:∀y,y<ops.toList.length->all.testBit y=true:=fun y h=>(C1.1 d) y (C2.2 h);simp only[eS]at u;split at u;.exact u.elim
   rename_i q hfl;rw[Out.all_bind]at u;refine wpIn_region_any ha.mixed ?_;obtain⟨E,V⟩:=cs.ms.wr.drew (fun _=>False);have e1:({w with drawn:=w.drawn+1}:World)=w.drew:=rfl;rw[e1];obtain⟨h4,j⟩:=cs.ms.step' E V;have R:ops=ops.toList.toArray:=B_;have f:∀k,X (Array.replicate ops.size false) k↔False:=by intro k;unfold X;rw[B2,V8];split<;>simp
   have h0:DS P O K A g J.length run c.bef ops.toList (dC P O A id true ops.toList 0 []) (X (Array.replicate ops.size false)) 0 [] M J L S env w.drew (vS (dC P O A id true ops.toList 0 []).length) a:=by refine⟨?_,h4,fun i e=>((f i).1 e).elim,fun i e=>by simp at e,fun i e=>((f i).1 e).elim,fun y h=>by simp at h,fun y i e=>by simp at e,fun p q U=>by simp at U,fun i e=>by simp at e,fun p U=>by simp at U,L_ _,fun y h=>by simp at h⟩;rw[eL];exact(cs.fr.rr ops.toList _).congr (fun k=>(f k).symm)
   obtain⟨N,J1,l,D⟩:=h0.floats (own:=fun _=>False) G (fun i e=>⟨by rw[<-G.tl];exact lA hfl i e,(tZ hr0).2 (.inr e)⟩) hr0 hfl;have v:aV0 P O K A g ops.toList (dC P O A id true ops.toList 0 []) M J L S w a (fun r=>(match fI (dC P O A id true ops.toList 0 []) 0 r.1 r.2.1 with
     |some env=>(Out.ret (aV.normal,env,r.2.2):Out (aV×Env×aA))
     | none => .fail "local").All Q) (Z .normal) := by
    intro h6 env' S' M' J' L' w' a' z hr h3 ms C W
    simp only at z
    split at z
    .rename_i env2 hwb
     obtain⟨Y,h5⟩:=hr.back (P:=P) (O:=O) x hs eL (fun k o to ho I=>by obtain⟨h7,l,h2⟩:=mP (P:=P) (O:=O) (A:=A) (id:=id) (draw:=true) (i:=0) (dsts:=[]) ho;rw[I]at l;simp at l;subst l;exact⟨_,h2⟩) hwb
     exact hk _ env2 S' M' J' L' w' a' .normal z trivial ⟨Y,ms.back (jE hwb).1 h5,by rw[h3];exact cs.mks.step C W,W.lt cs.lt C.size,C0 cs.ba C.size⟩ C W
    .exact z.elim
   have:=bFx ha hF n G T v t ops.toList.length (Array.replicate ops.size false) c.ph none run run N M J1 L q.2 env w.drew q.1 a B_ B_ (fun i e=>((f i).1 e).elim) l hph u ((j.trN _).trans D (fun b hb=>hb.elim)) (.refl _ _ _) rfl;rw[R];simpa using this
  .simp at d
 .simp at d
theorem WR.putObj(h:WR P O M J S w){b:Nat}(m:¬J.has b)(n:∀o,w.cell? ⟨b,o,none⟩=none)(f:Obj):WR P O M J S (w.putObj b f):=by
 have a:∀k,k≠b->(w.putObj b f).heap[k]?=w.heap[k]? := fun k d=>World.putObj_heap_other d;refine h.step h.len (.refl _) (.refl _) (fun k o v g=>?_) (fun i l s c j=>.inr ⟨c,j,a _ (fun e=>m ⟨i,l,c,e⟩),fun _=>rfl⟩) h.inj (fun i l c=>by simpa using h.lt i l c);by_cases d:k=b;.subst d;have:=h.imm k o v g;rw[n o]at this;simp at this
 .rw[dM (a k d)];exact h.imm k o v g
theorem pN{b:Nat}{a:Obj}(h:w.heap[b]?=some a)(g:∀c e f,a≠.cells c e f)(d:∀c e,a≠.pending c e)(o:Nat):w.cell? ⟨b,o,none⟩=none:=by unfold World.cell?;simp only[h];cases a<;>simp_all
theorem aBj:∀ {ps:Tc_} {ts:Tc_},rJ A ps=some ts->ps.map (eC · A.slots 0)=ts.map some
 |[],ts,h=>by simp[rJ]at h;subst h;rfl
 |p::ps,ts,h=>by
  simp only[rJ]at h;split at h;.rename_i j l h1 h2;simp at h;subst h;simp[h1,aBj h2]
  .simp at h
theorem PR.inv{p:Option aV}{c:Option Code}(h:PR p c):(p=Option.none/\c=Option.none)\/(p=some .ret/\c=some .ret)\/∃id,p=some (.exit id)/\c=some (.exit id):=by
 cases h with
 |none=>exact .inl ⟨rfl,rfl⟩
 |ret=>exact .inr (.inl ⟨rfl,rfl⟩)
 |exit id=>exact .inr (.inr ⟨id,rfl,rfl⟩)
abbrev lO(w:World) (fn:FuncId) (a:Act) (ps:Array Tmp) (assign body:Code):World :=
 (w.alloc (.deferred (some []))).alloc (.loop {state:=.ready,pending:=none,fn,tmps:=a.tmps,params:=ps,assign,body,defers:=w.heap.size})
theorem aNm{base g:Nat}(F:fB A g){a:Act}(cs:CS P O K A base g M J L S env w a)(fn:FuncId)(ps:Array Tmp)(assign body:Code){tps:Tc_}(r:rJ A ps.toList=some tps)(n:dU (bC P O A g assign)=true/\dU (bC P O A g body)=true): let l:Loc:={cb:=w.heap.size+1,d:=0,ver:=0,cap:=0,es:=0,size:=0,loose:=false}
  let i:=lO w fn a ps assign body
  WR P O M (J++[some l]) (S++[.lp .ready none (env.map noLb) tps (bC P O A g assign) (bC P O A g body)]) i /\
  Tr (fun _=>False) M J S w M (J++[some l]) (S++[.lp .ready none (env.map noLb) tps (bC P O A g assign) (bC P O A g body)]) i/\aF.at (J++[some l]) S.length l/\i.heap[w.heap.size]?=some (.deferred (some [])):=by
 intro l i;have G:M.ext w.heap.size (fun _=>none)=M:=tJ cs.ms.wr.none_at;have E:=cs.ms.wr.alloc (fun _=>False) (.deferred (some [])) (fun _=>none) (fun o v u=>by simp at u);rw[G]at E;obtain⟨p,s⟩:=E;have m:M.ext (w.alloc (.deferred (some []))).heap.size (fun _=>none)=M:=tJ p.none_at;have f:(w.alloc (.deferred (some []))).heap.size=w.heap.size+1:=B_;have q:=p.push (fun _=>False) (.loop {state:=.ready,pending:=none,fn,tmps:=a.tmps,params:=ps,assign,body,defers:=w.heap.size}) (fun _=>none) l
  (.lp .ready none (env.map noLb) tps (bC P O A g assign) (bC P O A g body)) (by rw[f]) (fun o v u=>by simp at u) (by
   rw[m];refine .lp .ready none _ _ _ _ _ rfl (by show i.heap[w.heap.size+1]?=_;rw[<-f];exact cX _ _) rfl .none ⟨A,?_,by simpa using cs.fr.len,fun j t x H D=>?_,aBj r,?_,?_,n.1,n.2⟩;.show fB A a.tmps.size;rw[cs.fr.sz];exact F
   .simp only[l_,G_]at D;obtain⟨y,C,rfl⟩:=D;have z:=(cs.fr.val j t H)
    have e:env.getD j .hole=y:=by simp[List.getD,C]
    unfold eK at z;rw[e]at z;cases y with
    |lb cs'=>exact .hole _ _
    |lp k o =>obtain⟨c,I⟩:=cs.fr.nlp j _ C rfl;simp at I
    |_=>exact(z.frame rfl).mono (.refl _) (.push _ _)
   .show _=bC P O A a.tmps.size assign;rw[cs.fr.sz]
   .show _=bC P O A a.tmps.size body;rw[cs.fr.sz])
 rw[m]at q;refine⟨q.1,s.trans q.2 (fun b h=>h.elim),?_,?_⟩
 .unfold aF.at
  rw[<-cs.ms.wr.len];simp
 .show i.heap[w.heap.size]?=_;rw[cS _ _ (by rw[f];omega)];exact cX w _
theorem bFy{h8:Orc}(ha:oL P O K h8){F:Fence}(hF:cW F)(hz:F.round=none)(n:Nat){base N:Nat}(hs:fB A N){g:Operand}{ps:Array Tmp}{assign body:Code}{tg:aH}(hg:opd A [] g=some tg){tps:Tc_} (hx:rJ A ps.toList=some tps) (g2:dU (bC P O A N assign)=true/\dU (bC P O A N body)=true) {Q:aV×Env×aA->Prop} (hq:(eS K h8 (.rangeFunc tg tps (bC P O A N assign) (bC P O A N body)) env S).All Q) {a:Act} {X:Exit->Act->World->Prop} (cs:CS P O K A base N M J L S env w a) (hk:tV P O K A base N M J L S w Q X): (Code.rangeFunc g ps assign body).wpIn F n P X a w:=by
 simp only[eS]at hq;have Z:=cs.fr.opd cs.ms hg;split at hq
 .rename_i k fst cap hf;rw[hf]at Z;rw[Out.all_bind]at hq;obtain⟨tf,hn⟩:=ha.known _ _ _ _ hq;obtain⟨fk,hu,hi,g5⟩:=ha.body k ⟨tf,hn⟩;generalize hge:a.eval g=gv at Z;cases Z with
  |fn L f fst cap fst' cap' Y h2 hf1 hcp =>
   refine wpIn_rangeFunc (fun fn _=>?_);obtain⟨hw,h4,h7,h9⟩:=aNm hs cs fn ps assign body hx g2;have z:=ha.ok.call k F hF (n-1) _ _ _ hq M _ _ (fst'.toList++[.func (.yield (w.heap.size+1)) #[] #[]]++cap'.toList) (by have e:fst++TV.yld S.length::cap=fst++[TV.yld S.length]++cap:=B_;rw[e];refine((VRs.ofAgg Y hf1).mono (.refl _) h4.jle |>.append (.cons (.yld _ _ _ h7 rfl) .nil)).append ((VRs.ofAgg h2 hcp).mono (.refl _) h4.jle)) hw cs.ms.gl;refine⟨w.heap.size+1,[{target:=.collected w.heap.size,args:=#[]}],lO w fn a ps assign body,{target:=.fn (.func k) cap',args:=fst'++#[.func (.yield (w.heap.size+1)) #[] #[]]},lO w fn a ps assign body,k,fst'++#[.func (.yield (w.heap.size+1)) #[] #[]]++cap',lO w fn a ps assign body,?_,?_,fun f' _=>hF.fn f',?_,fun hd=>by rw[hF.depth]at hd;simp at hd,?_⟩;.rw[hz];exact run_enterLoop_outer fn a.tmps ps assign body
   .have:Go.resolve a.eval (rangeCall g (w.heap.size+1)) 0=pure {target:=.fn (.func k) cap',args:=fst'++#[.func (.yield (w.heap.size+1)) #[] #[]]}:=by
     simp only[Go.resolve,hge,Deferred.ofValue];have:Array.map a.eval #[Operand.const (Value.func (Fn.yield (w.heap.size+1)) #[] #[])]=#[Value.func (Fn.yield (w.heap.size+1)) #[] #[]]:=by simp[Act.eval]
     rw[this]
    rw[this];rfl
   .have:=nP hu hi g5 (fst'++#[.func (.yield (w.heap.size+1)) #[] #[]]++cap') (lO w fn a ps assign body);exact this
   .have e:(fst'.toList++[Value.func (Fn.yield (w.heap.size+1)) #[] #[]]++cap'.toList).toArray=fst'++#[Value.func (Fn.yield (w.heap.size+1)) #[] #[]]++cap':=by apply M5;simp
    rw[e]at z;refine z.mono (fun en w' he=>?_);cases en with
    |panicked c=>exact he.elim
    |outgrown=>exact he.elim
    |returned v' =>
     obtain⟨v,S',M',J',W,_,h3,R⟩:=he;simp only at W;have T:=R.jle.fixed h7 rfl;split at W;.exact W.elim
     .rename_i st m env' D E C hnb hS';obtain⟨s,g6⟩:∃s,s=aG.lp st m env' D E C:=⟨_,rfl⟩
      have hy:=h3.blk _ _ _ T hS';cases hy with
      |lp st m env' D E C r hl hb hst hp hr =>
       have h5:r.state≠.busy:=by rw[hst];intro e;exact hnb e
       have U:(lO w fn a ps assign body).heap.size=w.heap.size+2:=B_;obtain⟨g1,hv⟩:=h3.write (fun _=>False) T (w':=w'.putObj (w.heap.size+1) (.loop {r with state:=.exhausted})) (s':=.lp .exhausted m env' D E C)
        (.lp .exhausted m env' D E C {r with state:=.exhausted} rfl (World.putObj_heap_same (fY hb)) rfl hp ⟨hr.ex⟩) B_ (fun b p=>World.putObj_heap_other p) ⟨rfl,rfl,rfl⟩ (fun o v hm=>by have:=h3.imm _ _ _ hm;rw[pN hb B_ B_]at this;simp at this)
       have u:Tr (fun _=>False) M J S w M' J' _ _:=(h4.trans R (fun b h=>h.elim)).trans hv (fun b h=>h.elim);obtain⟨g3,I⟩:=cs.ms.step' g1 u;have hh:FR A N M' J' L env {a with defers:=[{target:=.collected w.heap.size,args:=#[]}]++a.defers} :=
        ⟨cs.fr.sz,cs.fr.len,cs.fr.nlp,fun j t hj=>(cs.fr.val j t hj).mono u.mle u.jle⟩
       have H:¬aF.has (J++[some {cb:=w.heap.size+1,d:=0,ver:=0,cap:=0,es:=0,size:=0,loose:=false}]) w.heap.size:=by
        rintro⟨i,l,hl,e⟩;rcases mB hl with hl|⟨_,hl⟩;.have:=cs.ms.wr.lt i l hl;omega
        .simp at hl;subst hl;simp at e
       have h0:(w'.putObj (w.heap.size+1) (.loop {r with state:=.exhausted})).heap[w.heap.size]?=some (.deferred (some [])):=by rw[World.putObj_heap_other A_,R.frame w.heap.size (by rw[U];omega) H (fun h=>h)];exact h9
       have g4:aNf base J' L (w'.putObj (w.heap.size+1) (.loop {r with state:=.exhausted})) ([{target:=.collected w.heap.size,args:=#[]}]++a.defers):=by
        obtain⟨bs,e1,e2,e3⟩:=cs.mks.step (L':=L) I (.refl _ _ _);obtain⟨h6,f1,f2,f3⟩:=cs.mks;refine⟨w.heap.size::h6,by rw[f1];rfl,C7.2 ⟨fun hm=>?_,f2⟩,fun b p=>?_⟩;.have:=fY (f3 _ hm).2.1;omega
        .rcases J_.1 p with rfl|p;.exact⟨cs.ba,h0,R.has (by rw[U];omega) H,fun ho=>by have:=cs.lt _ ho;omega⟩
         .have hc:bs=h6:=by have:=e1.symm.trans f1;exact List.map_inj_right (fun x y ht=>by simpa using ht) |>.1 this
          rw[<-hc]at p;exact e3 b p
       have V:CS P O K A base N M' J' L (S'.set S.length (.lp .exhausted m env' D E C)) env (w'.putObj (w.heap.size+1) (.loop {r with state:=.exhausted})) {a with defers:=[{target:=.collected w.heap.size,args:=#[]}]++a.defers} :=
        ⟨hh,g3,g4,fun b p=>E7 (cs.lt b p) u.size,C0 cs.ba u.size⟩
       refine⟨r.pending,_,run_endLoop hb h5,?_⟩;have fin:∀G,G=r.pending->(match G with
         |none=>X .normal {a with defers:=[{target:=.collected w.heap.size,args:=#[]}]++a.defers} (w'.putObj (w.heap.size+1) (.loop {r with state:=.exhausted}))
         |some c=>c.wpIn F n P X {a with defers:=[{target:=.collected w.heap.size,args:=#[]}]++a.defers} (w'.putObj (w.heap.size+1) (.loop {r with state:=.exhausted}))):=by
        intro G q
        rcases hp.inv with⟨Y,h2⟩|⟨Y,h2⟩|⟨id,Y,h2⟩
        .obtain rfl:=q.trans h2
         exact hk (m.getD .normal) _ _ _ _ _ _ _ _ W (by rw[Y];trivial) V I (.refl _ _ _)
        .obtain rfl:=q.trans h2
         exact wpIn_ret (hk (m.getD .normal) _ _ _ _ _ _ _ _ W (by rw[Y];trivial) V I (.refl _ _ _))
        .obtain rfl:=q.trans h2
         exact wpIn_exit (hk (m.getD .normal) _ _ _ _ _ _ _ _ W (by rw[Y];exact rfl) V I (.refl _ _ _))
       exact fin _ rfl
     .exact W.elim
 .exact hq.elim
theorem aCo{s:Orc}(C:oL P O K s)(G:aAb P O K s){F:Fence}(t:cW F)(n:Nat){base r:Nat}(u:fB A r):∀(c:Code) {M:Mem} {J:aF} {L:Tk_} {S:aA} {env:Env} {w:World} {a:Act} {Q:aV×Env×aA->Prop} {X:Exit->Act->World->Prop},(eS K s (bC P O A r c) env S).All Q->(F.round=none\/dU (bC P O A r c)=true)->CS P O K A base r M J L S env w a->tV P O K A base r M J L S w Q X->c.wpIn F n P X a w:=by
 intro c;induction c with
 |skip=>intro M J L S env w a Q X d _ cs f;exact wpIn_skip (f _ _ _ _ _ _ _ _ _ d trivial cs (.refl _ _ _ _ _) (.refl _ _ _))
 |label l=>intro M J L S env w a Q X d _ cs f;exact wpIn_label (f _ _ _ _ _ _ _ _ _ d trivial cs (.refl _ _ _ _ _) (.refl _ _ _))
 |exit id=>intro M J L S env w a Q X d _ cs f;exact wpIn_exit (f _ _ _ _ _ _ _ _ _ d rfl cs (.refl _ _ _ _ _) (.refl _ _ _))
 |ret=>intro M J L S env w a Q X d _ cs f;exact wpIn_ret (f _ _ _ _ _ _ _ _ _ d trivial cs (.refl _ _ _ _ _) (.refl _ _ _))
 |region id ops draw =>
  intro M J L S env w a Q X d _ cs f;simp only[bC,aD0]at d;split at d;.exact d.elim
  rename_i v;have v:zW r ops.toList=true:=by simpa using v
  cases draw with
  |false =>
   simp only[P4,N6]at d;split at d;.rename_i hsq;exact aYf C t n u v hsq d cs f
   .exact d.elim
  |true =>
   simp only[E4,Y_,I5]at d;split at d
   .rename_i ce _;split at d;.rename_i hok;exact bM7 C t n u v hok d cs f
    .exact d.elim
   .exact d.elim
 |seq x y ihx ihy =>
  intro M J L S env w a Q X d i cs f;simp only[bC,eS]at d;rw[Out.all_bind]at d;refine wpIn_seq (ihx d (i.imp (fun h=>h) (fun h=>by simp only[bC,dU,O_]at h;exact h.1)) cs (fun j env' S' M' J' L' w' E e o m k p q=>?_));cases j with
  |normal =>
   cases e<;>first|exact m.elim|skip
   exact ihy o (i.imp (fun h=>h) (fun h=>by simp only[bC,dU,O_]at h;exact h.2)) k (f.next p q)
  |exit id =>
   cases e<;>first|exact m.elim|skip
   exact f _ _ _ _ _ _ _ _ _ o m k p q
  |ret =>
   cases e<;>first|exact m.elim|skip
   exact f _ _ _ _ _ _ _ _ _ o m k p q
 |cond x y z ihy ihz =>
  intro M J L S env w a Q X d i cs f;simp only[bC]at d i;split at d
  .rename_i tx hx;rw[hx]at i;simp only[eS]at d;have D:=cs.fr.opd cs.ms hx;split at d;.rename_i hb;exact wpIn_cond_true (zX hb D) (ihy d (i.imp (fun h=>h) (fun h=>by simp only[dU,O_]at h;exact h.1)) cs f)
   .rename_i hb;exact wpIn_cond_false (zX hb D) (ihz d (i.imp (fun h=>h) (fun h=>by simp only[dU,O_]at h;exact h.2)) cs f)
   .exact d.elim
  .exact d.elim
 |block id b ih =>
  intro M J L S env w a Q X d i cs f;simp only[bC,eS]at d;rw[Out.all_bind]at d;refine wpIn_block (ih d (i.imp (fun h=>h) (fun h=>by simpa only[bC,dU] using h)) cs (fun j env' S' M' J' L' w' E e o m k p q=>?_));cases j with
  |normal =>
   cases e<;>first|exact m.elim|skip
   exact f _ _ _ _ _ _ _ _ _ o m k p q
  |exit id' =>
   cases e<;>first|exact m.elim|skip
   have m:id'=_:=m;subst m;simp only at o;simp only[Exit.inBlock];split at o;.rename_i e;rw[K_ e];exact f _ _ _ _ _ _ _ _ _ o trivial k p q
   .rename_i e;rw[I_ e];exact f _ _ _ _ _ _ _ _ _ o rfl k p q
  |ret =>
   cases e<;>first|exact m.elim|skip
   exact f _ _ _ _ _ _ _ _ _ o m k p q
 |loop b _ =>intro M J L S env w a Q X d i cs f;simp only[bC,eS]at d;exact G A r u F t n b env S Q d (i.imp (fun h=>h) (fun h=>by simpa only[bC,dU] using h)) base M J L w a X cs f
 |rangeFunc g ps assign body _ _ =>
  intro M J L S env w a Q X d i cs f;simp only[bC]at d i;split at d
  .rename_i tg tps hg hps;split at d
   .rename_i hnr;rw[hg,hps]at i;simp only[K_ hnr]at i;simp only[O_]at hnr;rcases i with i|i;.exact bFy C t i n u hg hps hnr d cs f
    .simp[dU]at i
   .exact d.elim
  .exact d.elim
 |_=>intro M J L S env w a Q X d;exact d.elim
theorem FR.loc{c:Nat}{a:Act}(h:FR A c M J L env a){t j:Nat}(b:eC t A.slots 0=some j):VR M J L (eK env j) (a.tmps.getD t Go.undef):=h.val j t (lN b)
def aAe(tmps:Array Value):ResultVar->Sem Value
 |.tmp t=>pure (tmps.getD t Go.undef)
 |.cell x t=>do loadVar t (<-asAddr (tmps.getD x Go.undef))
theorem aRf(fn:Func)(tmps:Array Value):results fn tmps=(do let vs <-fn.results.mapM (aAe tmps);pure (if h:vs.size=1 then vs[0]else .tuple vs)):=rfl
theorem bM8{p:Nat}{a:Act}(h:FR A p M J L env a)(s:MS P O K M J L S env w){r:ResultVar}{o:mW}(g:aCk P A r=some o){v:TV}(d:jT env S o=some v): ∃v',(aAe a.tmps r).run P w=.ok v' w/\VR M J [] v v':=by
 cases r with
 |tmp t =>
  simp only[aCk,G_]at g;obtain⟨j,l,rfl⟩:=g;refine⟨a.tmps.getD t Go.undef,by simp[aAe],?_⟩;have f:=h.loc l;simp only[jT]at d;unfold eK at f;split at d;.simp at d
  .simp at d
  .rename_i x hn1 hn2;have d:=D9 d;subst d;split at f;.rename_i cs hcs;exact absurd hcs (hn1 cs)
   .refine f.frame ?_;cases hx:env.getD j .hole<;>first|rfl|exact absurd hx (hn1 _)|exact absurd hx (hn2 _ _)
 |cell x t =>
  simp only[aCk]at g;split at g
  .rename_i j n ag l hn hag;simp at g;subst g;simp only[jT]at d;split at d
   .rename_i cs hg;have f:VR M J L (aX ⟨fun _=>none,fun _=>none,fun _=>none⟩ env [] (.loc j)) (a.tmps.getD x Go.undef):=h.loc l;obtain⟨b,off,vs,i,k,m,e⟩:=xZ s hg f;cases ag with
    |true =>simp[gJ]at d;subst d;simp only[N6]at m;refine⟨.agg vs.toArray,?_,xY k⟩;have:=oF (P:=P) b off vs e;rw[m]at this;simp[aAe,i,asAddr,loadVar,isAgg?_run hag,run_size? hn,this]
    |false =>
     simp only[gJ,Y_,I5]at d m;split at d;.rename_i c;simp at d;subst d;obtain⟨u,us,rfl,q,y⟩:=k.cons_inv;refine⟨u,?_,q⟩;have:=e 0 u rfl;simp at this;simp[aAe,i,asAddr,loadVar,isAgg?_run hag,run_load,this]
     .simp at d
   .simp at d
  .simp at g
theorem yR{e:Nat}{a:Act}(h:FR A e M J L env a)(c:MS P O K M J L S env w):∀ {rs:List ResultVar} {b:List mW} {vs:Tn_},qK P A rs=some b->fJ env S b=some vs ->∃us,(rs.mapM (aAe a.tmps)).run P w=.ok us w/\VRs M J [] vs us
 |[],b,vs,hc,hv=>by simp[qK]at hc;subst hc;simp[fJ]at hv;subst hv;exact⟨[],by simp,.nil⟩
 |r::rs,b,vs,hc,hv=>by
  simp only[qK]at hc;split at hc
  .rename_i t l h1 h2;simp at hc;subst hc;simp only[fJ]at hv;split at hv;.rename_i v l' h3 h4;simp at hv;subst hv;obtain⟨u,f,e2⟩:=bM8 h c h1 h3;obtain⟨us,e3,d⟩:=yR h c h2 h4;refine⟨u::us,?_,.cons e2 d⟩;rw[List.mapM_cons];simp only[Sem.run_bind,f,Result.andThen,e3,Sem.run_pure]
   .simp at hv
  .simp at hc
theorem aNn{j:Nat}{a:Act}(h:FR A j M J L env a)(o:MS P O K M J L S env w){fn:Func}{d:List mW}(m:qK P A fn.results.toList=some d){v:TV}(c:kV d env S=some v): ∃v',(results fn a.tmps).run P w=.ok v' w/\VR M J [] v v':=by
 unfold kV at c;have key:∀ {vs:Tn_},fJ env S d=some vs->∃us,(results fn a.tmps).run P w=.ok (if h:us.toArray.size=1 then us.toArray[0]else .tuple us.toArray) w/\VRs M J [] vs us:=by intro vs b;obtain⟨us,f,e2⟩:=yR h o m b;refine⟨us,?_,e2⟩;rw[aRf,Array.mapM_eq_mapM_toList];simp only[Sem.run_bind,map_eq_pure_bind,f,Result.andThen,Sem.run_pure]
 split at c;.rename_i v0 b;simp at c;subst c;obtain⟨us,f,e2⟩:=key b;obtain⟨u,g,rfl,l,n⟩:=e2.cons_inv;have:=n.nil_inv;subst this;exact⟨u,by rw[f];simp,l⟩
 .rename_i vs hne b;simp at c;subst c;obtain⟨us,f,e2⟩:=key b;refine⟨.tuple us.toArray,?_,.tup _ _ _ (by simpa using e2.1) (fun i x v k c=>e2.2 i x v k (by simpa using c))⟩;rw[f];have:us.toArray.size≠1:=by
   intro e;have e3:vs.length=1:=by rw[<-e2.1];simpa using e
   match vs,e3 with
   |[x],_=>exact hne x rfl
  rw[dif_neg this]
 .simp at c
end
end Go.TM
namespace Go.TM
open Go
section
variable {P:Program}{O:dE}{K:TM.bD}{A:Ann}
variable {M:Mem}{J:aF}{L:List (Option Nat)}{S S':aA}{env env':Env}{w:World}
variable (P O K) in
structure KOK:Prop where
 funcs : ∀ k tf, K.funcs k = some tf → ∃ (A : Ann) (fn : Func), P.funcs[k]? = some fn ∧ fn.name ≠ "runtime.NumGoroutine" ∧ tF P O A fn = some tf
 prim:∀f p,K.prim f=some p->rP P O K f p
 mixed:P.follows .mixedOrders=true
theorem MS.shut(h:MS P O K M J L S env w){b:Nat}{ds:List Deferred}(d:w.heap[b]?=some (.deferred (some ds)))(l:¬J.has b):MS P O K M J L S env (w.putObj b (.deferred none)):=by have a:∀k,k≠b->(w.putObj b (.deferred none)).heap[k]?=w.heap[k]? := fun k n=>World.putObj_heap_other n;refine⟨h.wr.putObj l (pN d B_ B_) _,⟨h.lb.len,fun j cs g=>?_,h.lb.inj⟩,h.gl⟩;obtain⟨cb,m,c⟩:=h.lb.box j cs g;refine⟨cb,m,c.step (a cb ?_) (.refl _) (fun _=>rfl) (.refl _) c.1⟩;rintro rfl;obtain⟨_,_,i,e,o,f,_⟩:=c;rw[d]at f;simp at f
structure bWr (base:Nat) (w w':World):Prop where
 os:w'.os=w.os
 tape:w'.tape=w.tape
 output:w'.output=w.output
 size:w'.heap.size=w.heap.size
 old:∀b,b<base->w'.heap[b]?=w.heap[b]?
theorem aBk{F:Fence}(n:Nat){fn:Func}{tmps:Array Value}{R:Ending->World->Prop}{base:Nat}:∀(d:Tc_) {w:World},d.Nodup->(∀b∈d,base<=b/\w.heap[b]?=some (.deferred (some []))/\¬J.has b)->MS P O K M J L S env w ->(∀a,MS P O K M J L S env a->bWr base w a->∃v,(results fn tmps).run P a=.ok v a/\R (.returned v) a)->LeavesInM F n P fn tmps R (d.map fun b=>({target:=.collected b,args:=#[]}:Deferred)) .returning w
 |[],w,_,_,ms,h=>by show LeavesIn F n P fn tmps R [] .returning w;exact h w ms ⟨rfl,rfl,rfl,rfl,fun _ _=>rfl⟩
 |b::d,w,hnd,hb,ms,h=>by
  obtain⟨m,i,l⟩:=hb b B_;have j:=fY i;refine⟨by simp,.inl ⟨b,w.putObj b (.deferred none),rfl,run_takeDeferred i,?_⟩⟩;refine aBk (base:=base) n d (C7.1 hnd).2 (fun c f=>?_) (ms.shut i l) (fun a g e=>h a g ⟨e.os,e.tape,e.output,by rw[e.size];simp,fun c f=>?_⟩);.obtain⟨k,e2,e3⟩:=hb c (by simp[f]);refine⟨k,?_,e3⟩;rw[World.putObj_heap_other (by rintro rfl;exact(C7.1 hnd).1 f)];exact e2
  .rw[e.old c f,World.putObj_heap_other A_]
theorem wB{F:Fence}{n:Nat}{f:FuncId}{args:Array Value}{R:Ending->World->Prop}(h:CallsIn F.plain n P f args w R):CallsIn F n P f args w R:=h
theorem cW.plain{F:Fence}(h:cW F):cW F.plain:=⟨h.fn,h.depth,h.alive⟩
theorem yS:∀ {l:Tc_},tC l=true->l.Nodup
 |[],_=>.nil
 |a::r,h=>by simp only[tC,O_,D5]at h;exact C7.2 ⟨by simpa using h.1,yS h.2⟩
theorem aRg{a:Nat}(c:tC A.slots=true)(b:A.slots.all (fun t=>decide (t<a))=true):fB A a :=
 ⟨yS c,fun t d=>by simpa using(C1.1 b) t d⟩
theorem LbR.none{env:Env}(b:L.length=env.length)(h:∀(j:Nat) (cs:Tn_),env[j]? ≠ some (.lb cs)):LbR M J L env w :=
 ⟨b,fun j cs a=>absurd a (h j cs),fun j _ cs _ _ a=>absurd a (h j cs)⟩
theorem aCp(n:Nat)(b:Nat):¬cR (List.replicate n none) b:=by rintro⟨j,a⟩;rw[H8]at a;split at a<;>simp at a
theorem aNo{p:Orc}(hk:KOK P O K)(ha:oL P O K p)(r:aAb P O K p)(f:Nat):aKj P O K f (eJ K p f):=by
 intro F W n args S Q o M J w vals D hw hg;unfold eJ at o;split at o;.exact o.elim
 rename_i tf htf;split at o;.exact o.elim
 rename_i i;have i:args.length=tf.nparams:=A_;rw[Out.all_bind]at o;obtain⟨A,fn,U,_,d⟩:=hk.funcs f tf htf;unfold tF at d;split at d
 .rename_i c trs hc hrs;split at d
  .rename_i hcond;obtain⟨H,c2,c3,c4⟩:=hcond;simp at d;subst d;simp only at i o;have Y:fB A fn.ntmps:=aRg c3 c4;have h1:vals.length=args.length:=D.1;have E:fn.params.size+fn.nfree<=A.slots.length:=by have:=X_ List.length H;simp at this;omega
   refine wB (callsIn_of_wp_marks U hc (W.plain.fn f) ?_ rfl);have R:FR A fn.ntmps M J (List.replicate A.slots.length none) (args++List.replicate (A.slots.length-(fn.params.size+fn.nfree)) undef) {tmps:=vals.toArray++Array.replicate (fn.ntmps-vals.toArray.size) Go.undef,defers:=[]}:=by
    refine⟨by simp;omega,by simp;omega,fun j x k r=>?_,fun j t g=>?_⟩
    .rw[F0]at k;split at k;.rename_i hlt;have:=(D.2 j x _ k (D_ (by omega:j<vals.length))).isLp_nil;rw[this]at r;simp at r
     .rw[H8]at k;split at k;.simp at k;subst k;simp[bY,undef]at r
      .simp at k
    .have h2:j<A.slots.length:=(E_.1 g).1;by_cases hjp:j<args.length
     .have ht:t=j:=by
       have:(A.slots.take (fn.params.size+fn.nfree))[j]?=some t:=by rw[D6,K_ A_];exact g
       rw[H,E8 A_]at this;simpa using this.symm
      subst ht;have T:(args++List.replicate (A.slots.length-(fn.params.size+fn.nfree)) undef).getD t .hole=args[t]:=by simp[List.getD,W_ hjp,D_ hjp]
      have e2:(vals.toArray++Array.replicate (fn.ntmps-vals.toArray.size) Go.undef).getD t Go.undef=vals[t]' A_:=by rw[B2,G8 (by simp;omega)];simp[D_ (by omega:t<vals.length)]
      have u:=D.2 t _ _ (D_ hjp) (D_ (by omega:t<vals.length));rw[e2];have C:=u.isLp_nil;have:eK (args++List.replicate (A.slots.length-(fn.params.size+fn.nfree)) undef) t=args[t]:=by unfold eK;rw[T];cases k:args[t]<;>first|rfl|(rw[k]at C;simp[bY]at C)
      rw[this];exact u.ofNil
     .have h0:fn.params.size+fn.nfree<=t:=by
       rcases D2 t (fn.params.size+fn.nfree)with hlt|h'
       .exfalso;have:A.slots[t]?=some t:=by
         have e:(A.slots.take (fn.params.size+fn.nfree))[t]?=some t:=by rw[H,E8 hlt]
         rwa [D6,K_ hlt]at e
        have:t=j:=(P6 (by exact(E_.1 this).1) Y.1).1 (by rw[this,g]);omega
       .exact h'
      have T:eK (args++List.replicate (A.slots.length-(fn.params.size+fn.nfree)) undef) j=undef:=by
       unfold eK;have:(args++List.replicate (A.slots.length-(fn.params.size+fn.nfree)) undef).getD j .hole=undef:=by simp only[List.getD];rw[t_ A_,H8,K_ A_];rfl
       rw[this];rfl
      have e2:(vals.toArray++Array.replicate (fn.ntmps-vals.toArray.size) Go.undef).getD t Go.undef=Go.undef:=by rw[B2,Array.getElem?_append_right (by simp;omega),V8];split<;>rfl
      rw[T,e2];exact nW
   have V:∀(j:Nat) (cs:Tn_),(args++List.replicate (A.slots.length-(fn.params.size+fn.nfree)) undef)[j]? ≠ some (.lb cs):=by
    intro j cs g;rw[F0]at g;split at g;.rename_i hlt;have:=(D.2 j _ _ g (D_ (by omega:j<vals.length))).isLp_nil;simp[bY]at this
    .rw[H8]at g;split at g<;>simp[undef]at g
   have N:MS P O K M J (List.replicate A.slots.length none) S (args++List.replicate (A.slots.length-(fn.params.size+fn.nfree)) undef) w:=⟨hw,.none (by simp;omega) V,hg⟩
   refine aCo (base:=w.heap.size) ha r W.plain n Y c o (.inl rfl) ⟨R,N,⟨[],rfl,.nil,fun b m=>by simp at m⟩,fun b m=>(aCp _ _ m).elim,L_ _⟩ ?_;intro j env' S' M' J' L' w' Z e I g cs l og;have fin:(match kV trs env' S' with
     |some v=>(Out.ret (v,S'):Out (TV×aA))
     | none => .fail "results").All Q → LeavesInM F.plain n P fn Z.tmps (gN P O M J S w Q) Z.defers .returning w' := by
    intro G
    split at G
    .rename_i v hv2
     obtain⟨bs,b1,b2,b3⟩:=cs.mks
     rw[b1]
     refine aBk n bs b2 (fun b m=>let ⟨x,y,z,_⟩:=b3 b m;⟨x,y,z⟩) cs.ms (fun w2 s q=>?_)
     obtain⟨v',r1,r2⟩:=aNn cs.fr s hrs hv2
     refine⟨v',r1,v,S',M',J',G,r2,s.wr,?_⟩
     refine⟨q.os.trans l.os,q.tape.trans l.tape,q.output.trans l.output,by rw[q.size];exact l.size,l.mle,l.mnew,l.jle,l.jnew,l.ph,fun b m hn _=>?_⟩
     rw[q.old b m]
     exact l.frame b m hn (aCp _ _)
    .exact G.elim
   cases j with
   |normal=>cases e<;>first|exact g.elim|exact fin I
   |ret=>cases e<;>first|exact g.elim|exact fin I
   |exit id=>exact I.elim
  .simp at d
 .simp at d
end
end Go.TM
namespace Go.TM
open Go
section
variable {P:Program}{O:dE}{K:TM.bD}{A:Ann}
variable {M:Mem}{J:aF}{L:List (Option Nat)}{S S':aA}{env env':Env}{w:World}
def rT(A:Ann)(nt:Nat)(M:Mem)(J:aF)(env:Env)(tmps:Array Value):Prop :=
 tmps.size=nt/\env.length=A.slots.length/\∀(j t:Nat) (x:TV),A.slots[j]?=some t->env[j]?=some x->VR M J [] x (tmps.getD t Go.undef)
theorem aEy{e:Nat}(f:fB A e):∀ {ps:Tc_} {args:Tn_} {params:Tc_} {vals:List Value} {env env1:Env} {tmps:Array Value},rH env ps args=some env1->params.map (eC · A.slots 0)=ps.map some->VRs M J [] args vals ->rT A e M J env tmps->rT A e M J env1 ((params.zip vals).foldl (fun tmps (t,a)=>tmps.setIfInBounds t a) tmps)/\params.length=args.length
 |[],args,params,vals,env,env1,tmps,h,hp,hv,hr=>by
  cases args with
  |nil =>simp[rH]at h;subst h;simp at hp;subst hp;exact⟨by simpa using hr,rfl⟩
  |cons a r=>simp[rH]at h
 |j::ps,args,params,vals,env,env1,tmps,h,hp,hv,hr=>by
  cases args with
  |nil=>simp[rH]at h
  |cons v args =>
   obtain⟨u,us,rfl,q,s⟩:=hv.cons_inv;cases params with
   |nil=>simp at hp
   |cons t params =>
    simp only[Q_,List.cons.injEq]at hp;simp only[rH]at h;split at h;.simp at h
    .obtain⟨m,e2,e3⟩:=hr;have c:=lN hp.1;have g:j<env.length:=by rw[e2];exact(E_.1 c).1
     have i:t<tmps.size:=by rw[m];exact f.2 t (B9 c)
     have k:rT A e M J (env.set j v) (tmps.setIfInBounds t u):=by
      refine⟨by simp[m],by simp[e2],fun n l x b d=>?_⟩;by_cases hjj:n=j;.subst hjj;rw[c]at b;simp at b;subst b;rw[C6 g]at d;simp at d;subst d;rw[B2,G5 i];exact q
      .rw[B3 A_]at d;have:t≠l:=by rintro rfl;exact hjj ((P6 (by exact(E_.1 b).1) f.1).1 (by rw[b,c]))
       rw[B2,I9 this,<-B2];exact e3 n l x b d
     obtain⟨p,o⟩:=aEy f h hp.2 s k;exact⟨by simpa using p,by simp[o]⟩
theorem rT.noLb{c:Nat}{tmps:Array Value}(h:rT A c M J env tmps)(j:Nat)(x:TV)(a:env[j]?=some x):bY x=false:=by
 have b:j<A.slots.length:=by rw[<-h.2.1];exact(E_.1 a).1
 exact(h.2.2 j _ x (D_ b) a).isLp_nil
theorem rT.fr{f:Nat}{tmps:Array Value}(h:rT A f M J env tmps)(ds:List Deferred):FR A f M J L env {tmps,defers:=ds}:=by
 refine⟨h.1,h.2.1,fun j x c g=>by rw[h.noLb j x c]at g;simp at g,fun j t i=>?_⟩;have a:j<env.length:=by rw[h.2.1];exact(E_.1 i).1
 have d:=h.2.2 j t _ i (D_ a);have b:=h.noLb j _ (D_ a);have e:env.getD j .hole=env[j]:=by simp[List.getD,D_ a]
 have:eK env j=env[j]:=by unfold eK;rw[e];cases c:env[j]<;>first|rfl|(rw[c]at b;simp[bY]at b)
 rw[this];exact d.ofNil
theorem rT.lb{b:Nat}{tmps:Array Value}(h:rT A b M J env tmps)(j:Nat)(cs:Tn_):env[j]? ≠ some (.lb cs):=by intro a;have:=h.noLb j _ a;simp[bY]at this
theorem Tr.noOwn{n:Nat}{M':Mem}{J':aF}{w':World}(h:Tr (cR (List.replicate n none)) M J S w M' J' S' w'):Tr (fun _=>False) M J S w M' J' S' w' :=
 ⟨h.os,h.tape,h.output,h.size,h.mle,h.mnew,h.jle,h.jnew,h.ph,fun b c a _=>h.frame b c a (aCp _ _)⟩
theorem yT(h:WR P O M J S w){i:Nat}{l:Loc}(k:J.at i l)(d:l.loose=false){r:Loop}(e:w.heap[l.cb]?=some (.loop r)){env:Tn_}{ps:Tc_}{assign body:aL}(j:LpR P O M J env ps assign body r)(st:LoopState){a:Option aV} {pc:Option Code} (g:PR a pc) (own:Tm_): WR P O M J (S.set i (.lp st a env ps assign body)) (w.putObj l.cb (.loop {r with state:=st,pending:=pc}))/\Tr own M J S w M J (S.set i (.lp st a env ps assign body)) (w.putObj l.cb (.loop {r with state:=st,pending:=pc})) :=
 h.write own k (.lp st a env ps assign body {r with state:=st,pending:=pc} d (World.putObj_heap_same (fY e)) rfl g ⟨j.ex⟩) B_ (fun b c=>World.putObj_heap_other c) ⟨rfl,rfl,rfl⟩ (fun o v f=>by have:=h.imm _ _ _ f;rw[pN e B_ B_]at this;simp at this)
theorem aRh{x:Orc}(ha:oL P O K x)(R:aAb P O K x)(i:Nat):bQf P O K i (iB K x i):=by
 intro F T n args S Q o M J w vals hv hw hg l I;unfold iB at o;split at o
 .rename_i st0 pend0 env ps assign body hS;have h0:=hw.blk i l _ I hS;cases h0 with
  |lp st pend env ps assign body r hlo g hst hp hr =>
   obtain⟨A,Y,e1,e2,e3,e4,e5,e6,e7⟩:=hr.ex;split at o;.exact o.elim
   rename_i env1 hset;obtain⟨y,h1⟩:=aEy Y hset e3 hv ⟨rfl,e1,e2⟩;have h8:=hv.1;refine⟨r,g,by simp at h1;omega,roundIn_of_wpIn (T.fn r.fn) ?_⟩;have q:(r.params.zip vals.toArray).foldl (fun tmps (t,a)=>tmps.setIfInBounds t a) r.tmps=(r.params.toList.zip vals).foldl (fun tmps (t,a)=>tmps.setIfInBounds t a) r.tmps:=by rw[<-Array.foldl_toList];simp
   rw[q];rw[Out.all_bind]at o;have H:cW (F.inRound l.cb):=⟨T.fn,T.depth,T.alive⟩
   rw[e4]at o e6;have U:MS P O K M J (List.replicate A.slots.length none) S env1 w:=⟨hw,.none (by simp[y.2.1]) (fun j cs=>y.lb j cs),hg⟩
   refine aCo (base:=0) ha R H n Y r.assign o (.inr e6) ⟨y.fr [],U,⟨[],rfl,.nil,fun b g=>by simp at g⟩,fun b g=>(aCp _ _ g).elim,I8 _⟩ ?_;intro j env2 S2 M2 J2 L2 w2 a2 e z hj d E D;simp only at z;split at z
   .rename_i p2 ev2 ps2 as2 bd2 hjn hS2;cases e<;>first|exact hj.elim|skip
    show ∃w3,_;have k:=E.jle.fixed I hlo;have L:=d.ms.wr.blk i l _ k hS2;cases L with
    |lp st' pend' env' ps' as' bd' r2 hlo2 hb2 hst2 hp2 hr2 =>
     refine⟨_,run_beginRound hb2 hst2,?_⟩;obtain⟨h5,W⟩:=yT d.ms.wr k hlo hb2 hr2 .busy hp2 (fun _=>False);obtain⟨h2,m⟩:=d.ms.step' h5 W;rw[Out.all_bind]at z;rw[e5]at z e7;refine aCo (base:=0) ha R H n Y r.body z (.inr e7) ⟨d.fr,h2,d.mks.step m (.refl _ _ _),fun b g=>by have:=d.lt b g;simpa using this,I8 _⟩ ?_;intro j4 h7 S4 M4 J4 L4 w4 a4 u c f C G h9;simp only at c;split at c
     .rename_i st5 pd5 ev5 ps5 as5 bd5 hS5;have p:=G.jle.fixed k hlo;have N:=C.ms.wr.blk i l _ p hS5;cases N with
      |lp st6 pend6 env6 ps6 as6 bd6 r4 hlo4 hb4 hst4 hp4 hr4 =>
       have V:Tr (fun _=>False) M J S w M4 J4 S4 w4:=((E.trans m (fun b g=>D.weak b g)).trans G (fun b g=>D.weak b g)).noOwn;have fin:∀ {pd:Option aV} {pc:Option Code} (bb:Bool),PR pd pc->pc.isNone=bb->Q (.iv (.bool bb),S4.set i (.lp (if bb then .ready else .done) pd ev5 ps5 as5 bd5)) ->
         ∃v w',(Instr.endRound l.cb pc).run P w4=.ok v w'/\gN P O M J S w Q (.returned v) w':=by
        intro pd pc bb Z s h3
        obtain⟨h6,h4⟩:=yT C.ms.wr p hlo hb4 hr4 (if bb then .ready else .done) Z (fun _=>False)
        refine⟨_,_,run_endRound pc hb4,_,_,M4,J4,h3,?_,?_,?_⟩
        .rw[s];exact .iv _ (.bool bb)
        .rw[s];exact h6
        .rw[s];exact V.trans h4 (fun b h=>h.elim)
       split at c
       .rename_i hjn4;cases u<;>first|exact f.elim|skip
        exact fin (pd:=none) (pc:=none) true .none rfl c
       .rename_i hjn4;cases j4 with
        |normal=>exact absurd rfl hjn4
        |ret =>
         cases u<;>first|exact f.elim|skip
         exact fin (pd:=some .ret) (pc:=some .ret) false .ret rfl c
        |exit id =>
         cases u<;>first|exact f.elim|skip
         have f:id=_:=f;subst f;exact fin (pd:=some (.exit id)) (pc:=some (.exit id)) false (.exit id) rfl c
     .exact c.elim
   .exact z.elim
 .exact o.elim
end
end Go.TM
namespace Go.TM
open Go
section
variable {P:Program}{O:dE}{K:TM.bD}{A:Ann}
theorem yU{p:Tm_}(h:∃k,p k):∃k,p k/\∀m,p m->k<=m:=by
 obtain⟨k,c⟩:=h;induction k using Nat.strongRecOn with
 |_ k ih =>
  by_cases hx:∃m,m<k/\p m;.obtain⟨m,a,d⟩:=hx;exact ih m a d
  .refine⟨k,c,fun m a=>?_⟩;rcases D2 m k with b|b;.exact absurd ⟨m,b,a⟩ hx
   .exact b
open Classical in
theorem aEz{α c:Type}(p:Nat->α->c->Prop):∃d:α->c->Nat,∀a b,(∃k,p k a b)->p (d a b) a b/\∀m,p m a b->d a b<=m:=by refine⟨fun a b=>if h:∃k,p k a b then Classical.choose (yU h)else 0,fun a b h=>?_⟩;simp only[dif_pos h];exact Classical.choose_spec (yU h)
theorem bM9{n:Nat}(G:∀m,m<=n->oL P O K (ex K m)/\aAb P O K (ex K m)):aAb P O K (ex K (n+1)):=by
 intro A b C F z D c env S Q h q base M J L w a X cs o;obtain⟨N,y⟩:=aEz (fun(k:Nat) (a:Act) (w:World)=>∃env S M J L,CS P O K A base b M J L S env w a/\((ex K k).loop (bC P O A b c) env S).All Q/\tV P O K A base b M J L S w Q X);refine wpIn_loop (fun a w=>∃k,k<=n+1/\∃env S M J L,CS P O K A base b M J L S env w a/\((ex K k).loop (bC P O A b c) env S).All Q/\tV P O K A base b M J L S w Q X) N ⟨n+1,L_ _,env,S,M,J,L,cs,h,o⟩ ?_;rintro a w ⟨k,I,v⟩;obtain⟨⟨env,S,M,J,L,cs,h,o⟩,l⟩:=y a w ⟨k,v⟩;have p:=l k v;generalize hm:N a w=m at h p;cases m with
 |zero=>exact h.elim
 |succ m =>
  obtain⟨E,H⟩:=G m A_;have g:((eS K (ex K m) (bC P O A b c) env S).bind fun r=>match r.1 with
    |.normal=>(ex K m).loop (bC P O A b c) r.2.1 r.2.2
    |j=>.ret (j,r.2.1,r.2.2)).All Q:=h
  rw[Out.all_bind]at g;refine aCo (base:=base) E H z D C c g q cs ?_;intro j env' S' M' J' L' w' x e s i d t u;cases j with
  |normal =>
   cases e<;>first|exact i.elim|skip
   show _/\_;have f:∃env S M J L,CS P O K A base b M J L S env w' x/\((ex K m).loop (bC P O A b c) env S).All Q/\tV P O K A base b M J L S w' Q X:=⟨env',S',M',J',L',d,s,o.next t u⟩
   refine⟨⟨m,by omega,f⟩,?_⟩;have:=(y x w' ⟨m,f⟩).2 m f;omega
  |exit id =>
   cases e<;>first|exact i.elim|skip
   exact o _ _ _ _ _ _ _ _ _ s i d t u
  |ret =>
   cases e<;>first|exact i.elim|skip
   exact o _ _ _ _ _ _ _ _ _ s i d t u
theorem bQg(b:KOK P O K):∀n m,m<=n->oL P O K (ex K m)/\aAb P O K (ex K m)
 |0,m,hm=>by
  obtain rfl:m=0:=A_;exact⟨⟨⟨fun f F j n args S Q a=>a.elim,fun i F j n args S Q a=>a.elim,b.prim⟩,fun k ⟨o,g⟩=>by
    obtain⟨A,fn,p,q,h⟩:=b.funcs k o g
    refine⟨fn,p,?_,q⟩
    unfold tF at h
    split at h
    .rename_i c _ hc _;simp[hc]
    .simp at h,fun k args S Q a=>a.elim,b.mixed⟩,
   fun A s r F j n c env S Q a=>a.elim⟩
 |n+1,m,hm=>by
  have e:=bQg b n;by_cases hmn:m<=n;.exact e m hmn
  .obtain rfl:m=n+1:=A_;obtain⟨d,l⟩:=e n (L_ _);refine⟨⟨⟨aNo b d l,aRh d l,b.prim⟩,d.body,fun k args S Q a=>?_,b.mixed⟩,bM9 e⟩;have a:(eJ K (ex K n) k args S).All Q:=a;unfold eJ at a;split at a;.exact a.elim
   .rename_i fn hfn;exact⟨fn,hfn⟩
theorem bVl(b:KOK P O K){n:Nat}{f:Nat}{args:Tn_}{S:aA}{Q:TV×aA->Prop}(d:((ex K n).call f args S).All Q){M:Mem}{J:aF}{w:World}{vals:List Value}(e:VRs M J [] args vals)(a:WR P O M J S w)(c:rO K M): Calls P f vals.toArray w (gN P O M J S w Q) :=
 callsIn_wide (n:=0).1 ((bQg b n n (L_ _)).1.ok.call f Fence.wide cW.wide 0 args S Q d M J w vals e a c)
end
end Go.TM
namespace Go.TM
open Go
inductive Ty (P:Program) {H:Type}:TypeId->DataW H->List IV->Prop
 |bool (t:TypeId) (ht:P.underlying t=some .bool) (b:Bool):Ty P t (.lit (.bool b)) [.bool b]
 |int (t:TypeId) (k:IntKind) (ht:P.underlying t=some (.int k)) (n:Int) (hw:(Lit.int k n).wf=true):Ty P t (.lit (.int k n)) [.int k n]
 |str (t:TypeId) (ht:P.underlying t=some .string) (s:List UInt8) (hs:s.length<=maxLen):Ty P t (.lit (.string s)) [.str s]
 |nilp (t e:TypeId) (ht:P.underlying t=some (.pointer e)):Ty P t .nil [.nilp]
 |ptr (t e:TypeId) (ht:P.underlying t=some (.pointer e)) (d:DataW H) (l:List IV) (h:Ty P e d l) (hl:l.length=P.cellsOf e):Ty P t (.ptr d) [.cp l]
 |nils (t e:TypeId) (ht:P.underlying t=some (.slice e)):Ty P t .nil [.sl .nil []]
 |sl (t e:TypeId) (ht:P.underlying t=some (.slice e)) (ds sp:List (DataW H)) (ls:List (List IV)) (tag:Tag) (htag:tag≠.nil) (hn:ls.length=ds.length) (hm:ls.length+sp.length<=maxLen)
   (h:∀(i:Nat) (d:DataW H) (l:List IV),ds[i]?=some d->ls[i]?=some l->Ty P e d l) (hl:∀l∈ls,l.length=P.cellsOf e):Ty P t (.slice ds sp) [.sl tag ls]
 |struct (t:TypeId) (fs:Array Field) (ht:P.underlying t=some (.struct fs)) (ds:List (DataW H)) (ls:List (List IV)) (h1:ds.length=fs.size) (h2:ls.length=fs.size)
   (h:∀(i:Nat) (f:Field) (d:DataW H) (l:List IV),fs[i]?=some f->ds[i]?=some d->ls[i]?=some l->Ty P f.type d l) (hl:∀(i:Nat) (f:Field) (l:List IV),fs[i]?=some f->ls[i]?=some l->l.length=P.cellsOf f.type):Ty P t (.agg ds) (bE ls)
 |array (t e:TypeId) (n:Nat) (ht:P.underlying t=some (.array n e)) (ds:List (DataW H)) (ls:List (List IV)) (h1:ds.length=n) (h2:ls.length=n)
   (h:∀(i:Nat) (d:DataW H) (l:List IV),ds[i]?=some d->ls[i]?=some l->Ty P e d l) (hl:∀l∈ls,l.length=P.cellsOf e):Ty P t (.agg ds) (bE ls)
def lP:List (Nat×Nat)->Nat->Option Nat
 |[],o=>some o
 |p::r,o=>if p.1=o then lP r (o+p.2)else none
def aYj(P:Program)(ts:List TypeId):Bool :=
 ts.all fun t=>match P.underlying t with
  |some .bool|some (.int _)|some .string=>true
  |some (.slice e)|some (.pointer e)=>ts.contains e&&P.cellsOf e != 0
  |some (.struct fs)=>lP (fs.toList.map fun f=>(f.offset,P.cellsOf f.type)) 0==some (P.cellsOf t)&&fs.toList.all fun f=>ts.contains f.type
  |some (.array n e)=>ts.contains e&&P.cellsOf t==n*P.cellsOf e
  |_=>false
def eU(w:World):Mem:=fun b o=>w.cell? ⟨b,o,none⟩
section
variable {P:Program}{H:Type}{enc:TypeId×Value->H}{w:World}{base:Nat}{held:Bool}
def IRs(M:Mem)(l:List IV)(vs:List Value):Prop:=l.length=vs.length/\∀(i:Nat) (a:IV) (v:Value),l[i]?=some a->vs[i]?=some v->IR M a v
theorem IRs.one{M:Mem}{a:IV}{v:Value}(h:IR M a v):IRs M [a] [v]:=by
 refine⟨rfl,fun i b u c d=>?_⟩;cases i with
 |zero=>simp at c d;subst c;subst d;exact h
 |succ i=>simp at c
theorem IRs.append{M:Mem}{l l':Tq_}{vs d:List Value}(h:IRs M l vs)(e:IRs M l' d):IRs M (l++l') (vs++d):=by
 refine⟨by simp[h.1,e.1],fun i a v c b=>?_⟩;rw[F0]at c b;by_cases hi:i<l.length;.rw[K_ hi]at c;rw[K_ (by rw[<-h.1];exact hi)]at b;exact h.2 i a v c b
 .rw[I_ hi]at c;rw[I_ (by rw[<-h.1];exact hi)]at b;rw[<-h.1]at b;exact e.2 _ a v c b
theorem aAf:∀ {ps:List (Nat×Nat)} {o t:Nat},lP ps o=some t->o<=t
 |[],o,t,h=>by simp[lP]at h;omega
 |p::r,o,t,h=>by
  simp only[lP]at h;split at h;.have:=aAf h;omega
  .simp at h
theorem wY{M:Mem}{cs:List Value}:∀ {ps:List (Nat×Nat)} {o t:Nat} {ls:Tp_},lP ps o=some t->ls.length=ps.length->(∀(i:Nat) (p:Nat×Nat) (l:Tq_),ps[i]?=some p->ls[i]?=some l->IRs M l ((cs.drop p.1).take p.2)) ->IRs M (bE ls) ((cs.drop o).take (t-o))
 |[],o,t,ls,h,hl,_=>by simp[lP]at h;subst h;have:ls=[]:=a_ (by simpa using hl);subst this;exact⟨by simp[bE],fun i a v b=>by simp[bE]at b⟩
 |p::r,o,t,ls,h,hl,hp=>by
  simp only[lP]at h;split at h
  .rename_i hpo;cases ls with
   |nil=>simp at hl
   |cons l ls =>
    have g:=hp 0 p l rfl rfl;have j:=wY (M:=M) (cs:=cs) (ls:=ls) h (by simpa using hl) (fun i q m d c=>hp (i+1) q m (by simpa using d) (by simpa using c));have f:=aAf h;have e:(cs.drop o).take (t-o)=(cs.drop p.1).take p.2++(cs.drop (o+p.2)).take (t-(o+p.2)):=by rw[hpo,<-U2];have:t-o=p.2+(t-(o+p.2)):=A_;rw[this,List.take_add]
    rw[e];exact g.append j
  .simp at h
theorem vD{a:Addr}{n:Nat}{cs:List Value}(h:w.cells? base a n=some cs):cs.length=n/\(0<n->a.spot=none)/\∀(i:Nat) (v:Value),cs[i]?=some v->eU w a.block (a.off+i)=some v:=by
 unfold World.cells? at h;split at h
 .have d:=mapM_some_length h;simp at d;have k:∀i,i<n->w.cell? (a.add i)=cs[i]? := fun i e=>mapM_some_get h i i (by simp[e]);have c:0<n->a.spot=none:=by
   intro l;have b:=k 0 l;have:cs[0]?=some cs[0]:=D_ A_;rw[this]at b;simp only[Addr.add,N6,World.cell?]at b;split at b
   .split at b;.simp at b
    .rename_i f;simpa using f
   .simp at b
  refine⟨d,c,fun i v j=>?_⟩;have e:i<n:=by rw[<-d];exact(E_.1 j).1
  have g:=k i e;rw[j]at g;have f:=c A_;unfold eU;rw[<-g];congr 1;unfold Addr.add;split;.rename_i b;subst b;cases a;simp_all
  .rfl
 .simp at h
theorem aNp{a:Addr}(h:a.spot=none):a=⟨a.block,a.off,none⟩:=by cases a;simp_all
theorem aCq{α j:Type}{Q:Nat->j->Prop}:∀(n:Nat),(∀i,i<n->∃b,Q i b)->∃l:List j,l.length=n/\∀(i:Nat) (b:j),l[i]?=some b->Q i b
 |0,_=>⟨[],rfl,fun i b h=>by simp at h⟩
 |n+1,h=>by
  obtain⟨l,e,f⟩:=aCq (α:=α) n (fun i g=>h i A_);obtain⟨b,d⟩:=h n A_;refine⟨l++[b],by simp[e],fun i c a=>?_⟩;rw[F0]at a;split at a;.exact f i c a
  .have:i-l.length=0:=by
    rcases U4 (i-l.length)with h'|h';.exact h'
    .rw[B7 (by simp;omega)]at a;simp at a
   rw[this]at a;simp at a;subst a;have:i=n:=A_;rw[this];exact d
theorem aV3{ts:List TypeId}(g2:aYj P ts=true):∀(W:Nat) (t:TypeId) (cs:List Value) (x:DataW H×List MemPlace),t∈ts->DataW.trod enc P w base (fun _=>true) held W t cs=some x->∃l,Ty P t x.1 l/\IRs (eU w) l cs:=by
 intro W;induction W with
 |zero=>intro t cs x _ h;simp[DataW.trod]at h
 |succ W ih =>
  intro t cs x ht h;have g:=(C1.1 g2) t ht;cases hu:P.underlying t with
  |none=>rw[hu]at g;simp at g
  |some d =>
   rw[hu]at g;cases d with
   |bool =>obtain⟨b,rfl,rfl⟩:=DataW.trod_bool hu h;exact⟨_,.bool t hu b,.one (.bool b)⟩
   |int k =>obtain⟨n,rfl,rfl,hw⟩:=DataW.trod_int hu h;exact⟨_,.int t k hu n hw,.one (.int k n)⟩
   |string =>obtain⟨s,rfl,rfl,hs⟩:=DataW.trod_string hu h;refine⟨_,.str t hu s.data.toList (by rw[Array.length_toList];exact hs),.one ?_⟩;have:=IR.str (M:=eU w) s.data.toList;simpa using this
   |pointer e =>
    simp only[O_,Z8,ne_eq,N5]at g;rcases DataW.trod_pointer hu h with⟨rfl,rfl⟩|⟨a,z,y,n,hn,rfl,rfl,hc,hy⟩;.exact⟨_,.nilp t e hu,.one .nilp⟩
    .simp at hn;subst hn;obtain⟨l,L,Z⟩:=ih e z y g.1 hy;obtain⟨c1,c2,c3⟩:=vD hc;refine⟨_,.ptr t e hu _ l L (by rw[Z.1,c1]),.one ?_⟩;rw[aNp (c2 A_)];refine .cp l a.block a.off (fun i=>z.getD i Go.undef) (fun i x J=>?_) (fun i x J=>?_)
     .have A:i<z.length:=by rw[<-Z.1];exact(E_.1 J).1
      simpa[List.getD,D_ A] using c3 i _ (D_ A)
     .have A:i<z.length:=by rw[<-Z.1];exact(E_.1 J).1
      simpa[List.getD,D_ A] using Z.2 i x _ J (D_ A)
   |slice e =>
    simp only[O_,Z8,ne_eq,N5]at g;rcases DataW.trod_slice hu h with⟨rfl,rfl⟩|⟨a,U,cap,u,Y,n,hn,rfl,rfl,hb,ga,hm,g4,he,g3,_⟩;.exact⟨_,.nils t e hu,.one .slNil⟩
    .simp at hn;subst hn;obtain⟨g6,hr⟩:=g3 rfl;have F:∀i,i<U->∃q:List IV×List Value,Ty P e (u.getD i (.nil,[])).1 q.1/\IRs (eU w) q.1 q.2/\w.cells? base (a.add (i*P.cellsOf e)) (P.cellsOf e)=some q.2:=by
      intro i A;have L:=he i A;have Z:u[i]?=some (u.getD i (.nil,[])):=by have:i<u.length:=A_;simp[List.getD,D_ this]
      rw[Z,N0]at L;obtain⟨z,C,h4⟩:=L;obtain⟨l,h5,h6⟩:=ih e z _ g.1 h4;exact⟨(l,z),h5,h6,C⟩
     obtain⟨qs,h7,N⟩:=aCq (α:=Unit) U F;have hz:∀l∈qs.map (·.1),l.length=P.cellsOf e:=by intro l E;obtain⟨q,I,rfl⟩:=r_.1 E;obtain⟨i,A⟩:=H7 I;obtain⟨_,Z,C⟩:=N i q A;rw[Z.1,(vD C).1]
     have g9:Ty P t (.slice (u.map (·.1)) (Y.map (·.1))) [.sl (if cap=U then .full else .no) (qs.map (·.1))]:=by
      refine .sl t e hu _ _ _ _ (by split<;>simp) (by simp[h7,g4]) (by simp[h7,g6];omega) (fun i d l hd E=>?_) hz;simp only[l_,G_]at hd E;obtain⟨x,J,rfl⟩:=hd;obtain⟨q,I,rfl⟩:=E;obtain⟨L,_⟩:=N i q I;have g5:u.getD i (.nil,[])=x:=by simp[List.getD,J]
      rw[g5]at L;exact L
     refine⟨_,g9,.one ?_⟩;by_cases hc0:cap=0;.subst hc0;have ho:U=0:=A_;subst ho;have:qs=[]:=a_ h7;subst this;exact .slE _ _ B_
     .have ha:a.spot=none:=by
       have key:∀ {n:Nat} {z:List Value},w.cells? base (a.add 0) n=some z->0<n->a.spot=none:=fun hh hn=>(vD hh).2.1 hn;by_cases ho:U=0
       .have L:=hr 0 A_;have Z:Y[0]?=some (Y.getD 0 (.nil,[])):=by have:0<Y.length:=A_;simp[List.getD,D_ this]
        rw[Z,N0,ho]at L;obtain⟨z,C,_⟩:=L;simp only[Nat.add_zero,P9]at C;exact key C A_
       .obtain⟨q,I⟩:∃q,qs[0]?=some q:=⟨_,D_ A_⟩
        have C:=(N 0 q I).2.2;rw[P9]at C;exact key C A_
      rw[aNp ha];have g7:U=(qs.map (·.1)).length:=by simp[h7]
      have h8:∀(i:Nat) (q:List IV×List Value),qs[i]?=some q->∀(j:Nat) (v:Value),q.2[j]?=some v->eU w a.block (a.off+i*P.cellsOf e+j)=some v:=by
       intro i q I j v hv;obtain⟨_,_,C⟩:=N i q I;have h4:=(vD C).2.2 j v hv;have e1:(a.add (i*P.cellsOf e)).block=a.block:=by unfold Addr.add;split<;>rfl
       have e2:(a.add (i*P.cellsOf e)).off=a.off+i*P.cellsOf e:=by
        unfold Addr.add;split;.rename_i h0;omega
        .rfl
       rw[e1,e2]at h4;exact h4
      have:=IR.sl (M:=eU w) (if cap=U then .full else .no) (qs.map (·.1)) a.block a.off cap (P.cellsOf e) (fun i j=>((qs.getD i ([],[])).2).getD j Go.undef) (by split<;>simp) hz (by simp[h7];exact ga) (fun D=>by
       split at D;.rename_i R;simp[h7,R]
       .simp at D) (fun i c j x hc J=>by
        simp only[l_,G_]at hc;obtain⟨q,I,rfl⟩:=hc;have hj:j<q.2.length:=by rw[<-(N i q I).2.1.1];exact(E_.1 J).1
        have e0:qs.getD i ([],[])=q:=by simp[List.getD,I]
        rw[e0];simpa[List.getD,D_ hj] using h8 i q I j _ (D_ hj)) (fun i c j x hc J=>by
        simp only[l_,G_]at hc;obtain⟨q,I,rfl⟩:=hc;have hj:j<q.2.length:=by rw[<-(N i q I).2.1.1];exact(E_.1 J).1
        have e0:qs.getD i ([],[])=q:=by simp[List.getD,I]
        rw[e0];simpa[List.getD,D_ hj] using(N i q I).2.1.2 j x _ J (D_ hj))
      rw[<-g7]at this;exact this
   |struct fs =>
    simp only[O_,O4,C1,N5]at g;obtain⟨xs,n,hn,rfl,R,hg,J⟩:=DataW.trod_struct hu h;simp at hn;subst hn;have F:∀i,i<fs.size->∃l:List IV,∀f y,fs[i]?=some f->xs[i]?=some y->Ty P f.type y.1 l/\IRs (eU w) l ((cs.drop f.offset).take (P.cellsOf f.type)):=by intro i A;have D:fs[i]?=some fs[i]:=A4 A;have hy:xs[i]?=some xs[i]:=D_ A_;have L:=J i _ D;rw[hy]at L;obtain⟨l,Z,C⟩:=ih _ _ _ (g.2 _ B_) L;refine⟨l,fun f y h9 T=>?_⟩;rw[D]at h9;rw[hy]at T;simp at h9 T;subst h9;subst T;exact⟨Z,C⟩
    obtain⟨ls,V,Q⟩:=aCq (α:=Unit) fs.size F;have G:=wY (M:=eU w) (cs:=cs) (ls:=ls) g.1 (by simp[V]) (fun i p l hp E=>by
     simp only[l_,G_]at hp;obtain⟨f,D,rfl⟩:=hp;have D:fs[i]?=some f:=by simpa using D
     have A:i<fs.size:=(T9.1 D).1;exact(Q i l E f _ D (D_ (by omega:i<xs.length))).2)
    rw[C4,Nat.sub_zero,<-R,C5]at G;refine⟨bE ls,.struct t fs hu _ ls (by simp[hg]) V (fun i f d l D hd E=>?_) (fun i f l D E=>?_),G⟩;.simp only[l_,G_]at hd;obtain⟨y,hy,rfl⟩:=hd;exact(Q i l E f y D hy).1
    .have A:i<fs.size:=(T9.1 D).1;have C:=(Q i l E f _ D (D_ (by omega:i<xs.length))).2;have hy:=J i f D;rw[C.1,J7,W7];have gb:f.offset+P.cellsOf f.type<=cs.length:=by
      rw[R];have key:∀ {ps:List (Nat×Nat)} {o tt:Nat} {k:Nat} {p:Nat×Nat},lP ps o=some tt->ps[k]?=some p->p.1+p.2<=tt:=by
       intro ps;induction ps with
       |nil=>intro o tt k p _ hk;simp at hk
       |cons q r ihr =>
        intro o tt k p hc hk;simp only[lP]at hc;split at hc
        .rename_i I;cases k with
         |zero=>simp at hk;subst hk;have:=aAf hc;omega
         |succ k=>simp at hk;exact ihr hc hk
        .simp at hc
      exact key (p:=(f.offset,P.cellsOf f.type)) g.1 (k:=i) (by simp only[l_,K3,D,Option.map_some])
     omega
   |array n e =>
    simp only[O_,O4,N5]at g;obtain⟨xs,m,hn,rfl,R,hg,J⟩:=DataW.trod_array hu h;simp at hn;subst hn;have F:∀i,i<n->∃l:List IV,∀y,xs[i]?=some y->Ty P e y.1 l/\IRs (eU w) l ((cs.drop (i*P.cellsOf e)).take (P.cellsOf e)):=by intro i A;have hy:xs[i]?=some xs[i]:=D_ A_;have L:=J i A;rw[hy]at L;obtain⟨l,Z,C⟩:=ih _ _ _ g.1 L;refine⟨l,fun y T=>?_⟩;rw[hy]at T;simp at T;subst T;exact⟨Z,C⟩
    obtain⟨ls,V,Q⟩:=aCq (α:=Unit) n F;have g1:∀(k m:Nat),lP ((List.range' k m).map fun i=>(i*P.cellsOf e,P.cellsOf e)) (k*P.cellsOf e)=some ((k+m)*P.cellsOf e):=by
     intro k m;induction m generalizing k with
     |zero=>simp[lP]
     |succ m ihm =>rw[X1,Q_,lP,K_ rfl];have:=ihm (k+1);rw[D8,Nat.one_mul]at this;rw[this];congr 2;omega
    have G:=wY (M:=eU w) (cs:=cs) (ls:=ls) (g1 0 n) (by simp[V]) (fun i p l hp E=>by
     simp only[l_,G_]at hp;obtain⟨k,hk,rfl⟩:=hp;have A:i<n:=by rw[<-V];exact(E_.1 E).1
     rw[List.getElem?_range' A]at hk;simp at hk;subst hk;exact(Q i l E _ (D_ (by omega:i<xs.length))).2)
    rw[P9,C4,Nat.sub_zero,A9,<-g.2,<-R,C5]at G;refine⟨bE ls,.array t e n hu _ ls (by simp[hg]) V (fun i d l hd E=>?_) (fun l E=>?_),G⟩;.simp only[l_,G_]at hd;obtain⟨y,hy,rfl⟩:=hd;exact(Q i l E y hy).1
    .obtain⟨i,A⟩:=H7 E;have g8:i<n:=by rw[<-V];exact(E_.1 A).1
     have C:=(Q i l A _ (D_ (by omega:i<xs.length))).2;rw[C.1,J7,W7,R,g.2];have:(i+1)*P.cellsOf e<=n*P.cellsOf e:=D4 _ g8;rw[D8]at this;omega
   |_=>simp at g
end
end Go.TM
namespace Go.TM
open Go Go.RowKit
mutual
def aRi{H:Type}:DataW H->List IV
 |.lit (.bool b)=>[.bool b]
 |.lit (.int k n)=>[.int k n]
 |.lit (.string s)=>[.str s]
 |.agg ps=>aV4 ps
 |_=>[]
def aV4{H:Type}:List (DataW H)->List IV
 |[]=>[]
 |d::r=>aRi d++aV4 r
end
mutual
def aGf{H:Type}:DataW H->Bool
 |.lit _=>true
 |.agg ps=>aV5 ps
 |_=>false
def aV5{H:Type}:List (DataW H)->Bool
 |[]=>true
 |d::r=>aGf d&&aV5 r
end
theorem aAg{H:Type}:∀ {ds:List (DataW H)},aV5 ds=true->∀(i:Nat) (d:DataW H),ds[i]?=some d->aGf d=true
 |[],_,i,d,h=>by simp at h
 |x::r,h,i,d,hd=>by
  simp only[aV5,O_]at h;cases i with
  |zero=>simp at hd;subst hd;exact h.1
  |succ i=>exact aAg h.2 i d (by simpa using hd)
theorem wZ{H:Type}:∀ {ds:List (DataW H)} {ls:Tp_},ls.length=ds.length->(∀(i:Nat) (d:DataW H) (l:Tq_),ds[i]?=some d->ls[i]?=some l->l=aRi d)->bE ls=aV4 ds
 |[],ls,hl,_=>by have:ls=[]:=a_ (by simpa using hl);subst this;rfl
 |d::ds,ls,hl,h=>by
  cases ls with
  |nil=>simp at hl
  |cons l ls =>have c:=h 0 d l rfl rfl;have f:=wZ (ds:=ds) (ls:=ls) (by simpa using hl) (fun i b l' e a=>h (i+1) b l' (by simpa using e) (by simpa using a));simp only[bE,aV4,c,f]
theorem bSx{P:Program}{H:Type}{t:TypeId}{d:DataW H}{l:Tq_}(h:Ty P t d l):aGf d=true->l=aRi d:=by
 induction h with
 |bool t ht b=>intro _;rfl
 |int t k ht n hw=>intro _;rfl
 |str t ht s hs=>intro _;rfl
 |nilp t e ht=>intro h;simp[aGf]at h
 |ptr t e ht d l h hl ih=>intro h;simp[aGf]at h
 |nils t e ht=>intro h;simp[aGf]at h
 |sl t e ht ds sp ls tag htag hn hm h hl ih=>intro h;simp[aGf]at h
 |struct t fs ht ds ls h1 h2 h hl ih =>
  intro f;simp only[aGf]at f;simp only[aRi];refine wZ A_ (fun i d l a c=>?_);have g:i<fs.size:=by rw[<-h1];exact(E_.1 a).1
  exact ih i fs[i] d l (A4 g) a c (aAg f i d a)
 |array t e n ht ds ls h1 h2 h hl ih =>intro f;simp only[aGf]at f;simp only[aRi];exact wZ A_ (fun i d l a c=>ih i d l a c (aAg f i d a))
section
variable {P:Program}{W:World}
theorem aHz{ts:List TypeId}(c:aYj P ts=true):∀ {a:List (String×DataW Unit)} {ps:List MemPlace},DataW.LaidVars P W a ps->∀(n:String) (d:DataW Unit),(n,d)∈a->∀(g:Nat) (t:TypeId),P.globalNamed n=some g->(P.globals[g]?).map (·.type)=some t->t∈ts->aGf d=true ->IR (eU W) (.cp (aRi d)) (.pointer (some ⟨g,0,none⟩))
 |[],_,_,n,d,h=>by simp at h
 |(n0,d0)::r,ps,h,n,d,m=>by
  intro g t o v b u;obtain⟨F,E,cs,f,p,q,y,A,D,z,C,_⟩:=h;rcases J_.1 m with e|m
  .simp only[B4]at e;obtain⟨rfl,rfl⟩:=e;obtain rfl:=D9 (o.symm.trans y);obtain rfl:=D9 (v.symm.trans A);obtain⟨l,w,s⟩:=aV3 c f t cs.toList _ b z;have:=bSx w u;subst this;refine .cp _ g 0 (fun i=>cs.getD i Go.undef) (fun i x k=>?_) (fun i x k=>?_)
   .have j:i<cs.size:=by have:=(E_.1 k).1;rw[s.1]at this;simpa using this
    show W.cell? ⟨g,0+i,none⟩=_;rw[A9,World.var?_cell o D i,A4 j];simp[B2,A4 j]
   .have j:i<cs.size:=by have:=(E_.1 k).1;rw[s.1]at this;simpa using this
    have:=s.2 i x cs[i] k (by simp[j]);simpa[B2,A4 j] using this
  .exact aHz c C n d m g t o v b u
theorem aYk{O:dE}(W:World):WR P O (eU W) [] [] W:=.empty (fun _ _ _ h=>h)
theorem bFz{M M':Mem}{J':aF}{S':aA}{W':World}(h:Tr (fun _=>False) M [] [] W M' J' S' W'):Below W.heap.size W W' :=
 ⟨h.os,h.tape,h.output,h.size,fun k b=>h.frame k b (by rintro⟨i,l,a,_⟩;simp[aF.at]at a) (fun h=>h)⟩
theorem aYl{O:dE}{K:TM.bD}(k:KOK P O K){n f:Nat}{args:Tn_}(i:((ex K n).call f args []).All (fun r=>r.1=.iv (.bool true))){vals:Array Value}(l:VRs (eU W) [] [] args vals.toList)(j:rO K (eU W)): Calls P f vals W fun e W'=>e=.returned (.bool true)/\Below W.heap.size W W':=by
 have h:=bVl k i l (aYk W) j;have e:vals.toList.toArray=vals:=B_;rw[e]at h;refine h.mono (fun en W' a=>?_);cases en with
 |returned v' =>obtain⟨v,S',M',J',d,b,_,g⟩:=a;simp only at d;subst d;exact⟨by rw[b.bool_inv],bFz g⟩
 |panicked c=>exact a.elim
 |outgrown=>exact a.elim
theorem aH0{H:Type}{enc:TypeId×Value->H}(e:laidOutB P=true){W':World}(c:Below W.heap.size W W'):∀ {ts:List TypeId} {vs:List Value} {ds:List (DataW H)} {ps:List MemPlace},(∀t∈ts,P.readableRec t=true/\t<P.types.size) ->DataW.TrodAll enc P W 0 (fun _=>true) true ts vs ds ps->(∀x∈ps,x.block<W.heap.size)->DataW.TrodAll enc P W' 0 (fun b=>decide (b<W.heap.size)) true ts vs ds ps
 |[],vs,ds,ps,_,h,_=>by obtain⟨rfl,rfl,rfl⟩:=Go.ChangeShapes.trodAll_nil h;rfl
 |t::ts,vs,ds,ps,ht,h,hlt=>by obtain⟨v,g,d,f,p,q,rfl,rfl,rfl,j,k⟩:=Go.ChangeShapes.trodAll_cons h;exact⟨p,q,Below.trod e (ht t B_).1 (ht t B_).2 j c (fun x a=>hlt x (by simp[a])),aH0 e c (fun u i=>ht u (by simp[i])) k (fun x a=>hlt x (by simp[a])),rfl⟩
theorem bF0{H:Type}{enc:TypeId×Value->H}(E:laidOutB P=true){f:Func}{s:ChangeSpec}{b d c:Bool}{W':World}{args:Array Value}{ds w:List (DataW H)}{a:List MemPlace}(F:DataW.Whole enc P f.params.toList s.vars b W args.toList ds w a) (j:s.vars=[]) (e:s.fn H ds={results:=[.lit (.bool true)],args:=ds}) (i:f.params.all (fun t=>P.readableRec t&&decide (t<P.types.size))=true) {tb:TypeId} (o:f.resultTypes=#[tb]) (z:P.underlying tb=some .bool) (A:Below W.heap.size W W'): s.post enc P f b d c false W args (.bool true) W':=by
 obtain⟨p,q,m,y,u,C,l⟩:=F;have n:=m.lt;rw[j]at y;obtain⟨k,v⟩:w=[]/\q=[]:=by
  cases w with
  |nil=>exact⟨rfl,y⟩
  |cons g r=>exact absurd y (by intro h;cases h)
 subst k;subst v;have x:=aH0 E A (fun t D=>by rw[<-W3,C1]at i;have:=i t D;simpa using this) m n;refine⟨ds,[],a,[],p,[],⟨p,[],m,by rw[j];exact rfl,u,C,l⟩,?_,?_,?_,?_,fun h=>by simp at h⟩;.rw[A0,e,o];exact⟨[],[],⟨1,by cases d<;>simp[DataW.trod,z,Value.cells]⟩,rfl,rfl⟩
 .rw[A0,e];exact x
 .rw[A0,e,j];exact rfl
 .exact A.frame _
end
def isTrue(r:TV×aA):Bool :=
 match r.1 with
 |.iv (.bool true)=>true
 |_=>false
def aH1{α:Type}(Q:Nat->α->Prop):Nat->List (Option α)->Prop
 |_,[]=>True
 |i,none::r=>aH1 Q (i+1) r
 |i,some t::r=>Q i t/\aH1 Q (i+1) r
theorem xA{α:Type}{Q:Nat->α->Prop}:∀ {l:List (Option α)} {i:Nat},aH1 Q i l->∀(k:Nat) (t:α),l.getD k none=some t->Q (i+k) t
 |[],i,_,k,t,h=>by simp[List.getD]at h
 |none::r,i,h,k,t,hk=>by
  cases k with
  |zero=>simp[List.getD]at hk
  |succ k =>have:=xA (l:=r) (i:=i+1) h k t (by simpa[List.getD] using hk);rwa [show i+1+k=i+(k+1) by omega]at this
 |some u::r,i,h,k,t,hk=>by
  cases k with
  |zero=>simp[List.getD]at hk;subst hk;exact h.1
  |succ k =>have:=xA (l:=r) (i:=i+1) h.2 k t (by simpa[List.getD] using hk);rwa [show i+1+k=i+(k+1) by omega]at this
theorem aH2{α:Type}{Q:Nat->α->Prop}{l:List (Option α)}(h:aH1 Q 0 l)(k:Nat)(t:α)(a:l.getD k none=some t):Q k t:=by have:=xA h k t a;rwa [A9]at this
end Go.TM
namespace Go.TM
end Go.TM
namespace Go.TM
theorem aV6(K:bD)(n:Nat)(b:aL)(env:Env)(S:aA):(ex K (n+1)).loop b env S=(eS K (ex K n) b env S).bind fun r=>match r.1 with
  |.normal=>(ex K n).loop b r.2.1 r.2.2
  |j=>.ret (j,r.2.1,r.2.2):=rfl
def cA:TOp->Nat
 |.mov _ | .pick .. | .build .. | .nilCheck _ | .bin .. | .eqB .. | .eqAgg .. | .un .. | .mkFn .. | .fieldAddr .. | .field .. | .indexAddrS .. | .indexAddrA .. | .indexA .. | .indexS .. | .extract .. | .cap _ | .lenC _ | .minmax ..=>0
 |.lit ..=>6
 |.load1 _ | .loadN .. | .slice .. | .lookup .. | .entryM _ | .len ..=>1
 |.allocH .. | .boxH .. | .mkMap | .mkSlice ..=>2
 |.conv ..=>4
 |.call .. | .callv .. | .prim .. | .nextM _=>5
 |_=>3
def Out.need{α:Type}(why:String)(x:Option TV)(f:TV->α):Out α :=
 match x with
 |some v=>.ret (f v)
 |none=>.fail why
@[simp] theorem Out.need_some {α:Type} (why:String) (v:TV) (f:TV->α):Out.need why (some v) f=.ret (f v):=rfl
section
variable (K:bD)(orc:Orc)(env rs:List TV)(S:aA)
theorem mR(o:TOp)(h:cA o≠5):bV K orc o env rs S=Out.ofOpt (tB o) (jN K o env rs S):=by cases o<;>first|rfl|simp[cA]at h
theorem ec0(o:TOp)(h:cA o=0):bV K orc o env rs S=Out.need (tB o) (aU o (aX K env rs)) fun v=>(v,env,S):=by
 rw[mR K orc env rs S o A_];have r:∀e,aO o e env S=none:=by intro e;cases o<;>first|rfl|simp[cA]at h
 have a:∀e n,bP o e n=none:=by intro e n;cases o<;>first|rfl|(simp[cA]at h;done)
 have s:∀e,gM o e rs env S=none:=by intro e;cases o<;>first|rfl|simp[cA]at h
 simp only[jN,iZ];cases aU o (aX K env rs)<;>simp[r,a,s,Out.ofOpt,Out.need]
theorem ec1(o:TOp)(h:cA o=1):bV K orc o env rs S=Out.need (tB o) (aO o (aX K env rs) env S) fun v=>(v,env,S):=by
 rw[mR K orc env rs S o A_];have r:∀e,aU o e=none:=by intro e;cases o<;>first|rfl|(simp[cA]at h;done)
 have a:∀e n,bP o e n=none:=by intro e n;cases o<;>first|rfl|(simp[cA]at h;done)
 have s:∀e,gM o e rs env S=none:=by intro e;cases o<;>first|rfl|simp[cA]at h
 simp only[jN,iZ,r];cases aO o (aX K env rs) env S<;>simp[a,s,Out.ofOpt,Out.need]
theorem ec4 (k : CK) (x : aH) : bV K orc (.conv k x) env rs S = Out.need "conv" (match (dB k (aX K env rs x)).map TV.iv with
  |some v=>some v
  |none=>aO (.conv k x) (aX K env rs) env S) fun v=>(v,env,S):=by
 rw[mR K orc env rs S _ (by simp[cA])]
 simp only[jN,iZ,aU,tB]
 cases h1:(dB k (aX K env rs x)).map TV.iv with
 |some v=>simp[Out.ofOpt,Out.need]
 |none =>cases h2:aO (.conv k x) (aX K env rs) env S<;>simp[bP,gM,Out.ofOpt,Out.need]
end
end Go.TM
namespace Go.TM
inductive Out.Le {α:Type}:Out α->Out α->Prop
 |fail (s:String) (y:Out α):Out.Le (.fail s) y
 |ret (a:α):Out.Le (.ret a) (.ret a)
 |pick (n:Nat) (k k':Nat->Out α) (h:∀i,Out.Le (k i) (k' i)):Out.Le (.pick n k) (.pick n k')
theorem Out.Le.refl{α:Type}:∀(x:Out α),Out.Le x x
 |.ret a=>.ret a
 |.fail s=>.fail s _
 |.pick n k=>.pick n k k fun i=>Out.Le.refl (k i)
theorem Out.Le.bind{α c:Type}{f g:α->Out c}(b:∀a,Out.Le (f a) (g a)){x y:Out α}(h:Out.Le x y):Out.Le (x.bind f) (y.bind g):=by
 induction h with
 |fail s y=>exact .fail s _
 |ret a=>exact b a
 |pick n k k' h ih=>exact .pick n _ _ ih
structure Orc.Le (o o':Orc):Prop where
 call:∀f a S,Out.Le (o.call f a S) (o'.call f a S)
 yld:∀i a S,Out.Le (o.yld i a S) (o'.yld i a S)
 loop:∀b e S,Out.Le (o.loop b e S) (o'.loop b e S)
variable {K:bD}{o o':Orc}
theorem wC(h:Orc.Le o o')(f:Nat)(args:Tn_)(S:aA):Out.Le (eZ o f args S) (eZ o' f args S):=by
 unfold eZ;split;.exact .refl _
 .exact(h.call _ _ _).bind fun a=>.refl _
theorem aBl(h:Orc.Le o o')(t:Bool)(f:Nat)(args:Tn_)(S:aA):Out.Le (jO o t f args S) (jO o' t f args S):=by
 unfold jO;split;.exact .refl _
 .exact(h.call _ _ _).bind fun a=>.refl _
theorem aGg(h:Orc.Le o o')(op:TOp)(env rs:Tn_)(S:aA):Out.Le (bV K o op env rs S) (bV K o' op env rs S):=by
 unfold bV;split
 .refine Out.Le.bind (fun a=>.refl _) ?_;split;.exact wC h _ _ _
  .exact aBl h _ _ _ _
 .dsimp only;split
  .refine Out.Le.bind (fun a=>.refl _) ?_;split;.exact wC h _ _ _
   .exact aBl h _ _ _ _
  .split;.exact .refl _
   .exact Out.Le.bind (fun a=>.refl _) (h.yld _ _ _)
  .exact .refl _
 all_goals exact .refl _
theorem aBm(h:Orc.Le o o')(op:aK)(i:Nat)(rs:Tn_)(env:Env)(S:aA):Out.Le (kC K o op i rs env S) (kC K o' op i rs env S):=by
 unfold kC;split;.exact .refl _
 .exact .refl _
 .exact(aGg h _ _ _ _).bind fun a=>.refl _
theorem aBn(h:Orc.Le o o'):∀(ops:List aK) (i:Nat) (rs:Tn_) (env:Env) (S:aA),Out.Le (kU K o ops i rs env S) (kU K o' ops i rs env S)
 |[],_,_,_,_=>.refl _
 |op::ops,i,rs,env,S=>(aBm h op i rs env S).bind fun r=>aBn h ops _ _ _ _
theorem uA(h:Orc.Le o o')(ops:List aK):∀(ps:Tl_) (rs:Tn_) (env:Env) (S:aA),Out.Le (eA K o ops ps rs env S) (eA K o' ops ps rs env S)
 |[],_,_,_=>.refl _
 |(i,chk,fl)::ps,rs,env,S=>by
  unfold eA;split;.exact .refl _
  .refine(aBm h _ _ _ _ _).bind fun r=>?_;split
   .split;.exact uA h ops ps _ _ _
    .exact .refl _
   .exact .refl _
theorem vE(h:Orc.Le o o'):∀(c:aL) (env:Env) (S:aA),Out.Le (eS K o c env S) (eS K o' c env S):=by
 intro c;induction c with
 |skip=>exact fun _ _=>.refl _
 |region ops=>exact fun env S=>(aBn h _ _ _ _ _).bind fun r=>.refl _
 |draw f0 ph ops =>
  intro env S;simp only[eS];split;.exact .refl _
  .exact(uA h _ _ _ _ _).bind fun r=>.refl _
 |seq a b iha ihb =>
  intro env S;simp only[eS];refine(iha env S).bind fun r=>?_;split;.exact ihb _ _
  .exact .refl _
 |cond c a b iha ihb =>
  intro env S;simp only[eS];split;.exact iha _ _
  .exact ihb _ _
  .exact .refl _
 |block id b ih=>exact fun env S=>(ih env S).bind fun r=>.refl _
 |loop b ih=>exact fun env S=>h.loop _ _ _
 |rangeFunc f ps a b iha ihb =>
  intro env S;simp only[eS];split;.exact(h.call _ _ _).bind fun r=>.refl _
  .exact .refl _
 |exit id=>exact fun _ _=>.refl _
 |ret=>exact fun _ _=>.refl _
 |bad=>exact fun _ _=>.refl _
theorem aGh(h:Orc.Le o o')(f:Nat)(args:Tn_)(S:aA):Out.Le (eJ K o f args S) (eJ K o' f args S):=by
 unfold eJ;split;.exact .refl _
 .split;.exact .refl _
  .exact(vE h _ _ _).bind fun r=>.refl _
theorem aKq(h:Orc.Le o o')(i:Nat)(args:Tn_)(S:aA):Out.Le (iB K o i args S) (iB K o' i args S):=by
 unfold iB;split
 .split;.exact .refl _
  .refine(vE h _ _ _).bind fun r=>?_;split;.exact(vE h _ _ _).bind fun q=>.refl _
   .exact .refl _
 .exact .refl _
theorem rU:∀(n:Nat),Orc.Le (ex K n) (ex K (n+1))
 |0=>⟨fun _ _ _=>.fail _ _,fun _ _ _=>.fail _ _,fun _ _ _=>.fail _ _⟩
 |n+1=>by
  have c:=rU n;refine⟨fun f a S=>aGh c f a S,fun i a S=>aKq c i a S,fun b e S=>?_⟩;rw[aV6,aV6];refine(vE c b e S).bind fun r=>?_;split;.exact c.loop _ _ _
  .exact .refl _
theorem Out.Le.trans{α:Type}{x y z:Out α}(h:Out.Le x y):Out.Le y z->Out.Le x z:=by
 induction h generalizing z with
 |fail s y=>exact fun _=>.fail s z
 |ret a=>exact id
 |pick n k k' h ih =>
  intro g;cases g with
  |pick _ _ k2 g=>exact .pick n k k2 fun i=>ih i (g i)
theorem aE0{n m:Nat}(h:n<=m):Orc.Le (ex K n) (ex K m):=by
 induction h with
 |refl=>exact⟨fun _ _ _=>.refl _,fun _ _ _=>.refl _,fun _ _ _=>.refl _⟩
 |step _ ih=>exact⟨fun f a S=>(ih.call f a S).trans ((rU _).call f a S),fun i a S=>(ih.yld i a S).trans ((rU _).yld i a S),fun b e S=>(ih.loop b e S).trans ((rU _).loop b e S)⟩
end Go.TM
namespace Go.TM
open Go Go.ChangeShapes Go.WideShapes
variable {P:Program}{H:Type}{enc:TypeId×Value->H}{W:World}
def bF1(P:Program)(t:TypeId)(l:List IV):TV :=
 match P.underlying t with
 |some (.struct _)|some (.array _ _)=>.iv (.agg l)
 |_=>match l with
  |[x]=>.iv x
  |_=>.hole
theorem aE1{v:Value}{l:Tq_}(c:v.cells.toList=[v])(h:IRs (eU W) l v.cells.toList):∃x,l=[x]/\IR (eU W) x v:=by
 rw[c]at h;obtain⟨b,a⟩:=h;match l,b,a with
 |[x],_,a=>exact⟨x,rfl,a 0 x v rfl rfl⟩
theorem bSy{ts:List TypeId}(p:aYj P ts=true){r:Reach}{b base:Nat}{o:Bool}{t:TypeId}{v:Value}{d:DataW H}{ps:List MemPlace}(w:t∈ts)(f:Value.okWide P W r b t v) (h:DataW.Trod enc P W base (fun _=>true) o t v d ps):∃l,Ty P t d l/\VR (eU W) [] [] (bF1 P t l) v:=by
 obtain⟨q,h⟩:=h;obtain⟨l,z,m⟩:=aV3 p q t _ _ w h;refine⟨l,z,?_⟩;have j:=(C1.1 p) t w;unfold bF1;cases hu:P.underlying t with
 |none=>rw[hu]at j;simp at j
 |some ds =>
  rw[hu]at j;cases ds with
  |bool =>obtain⟨x,rfl⟩:=okWide_bool hu f;obtain⟨y,rfl,g⟩:=aE1 rfl m;exact .iv _ g
  |int k =>obtain⟨x,rfl⟩:=okWide_int hu f;obtain⟨y,rfl,g⟩:=aE1 rfl m;exact .iv _ g
  |string =>obtain⟨x,rfl⟩:=okWide_string hu f;obtain⟨y,rfl,g⟩:=aE1 rfl m;exact .iv _ g
  |pointer e =>obtain⟨x,rfl⟩:=okWide_pointer hu f;obtain⟨y,rfl,g⟩:=aE1 rfl m;exact .iv _ g
  |slice e =>obtain⟨a,n,c,rfl⟩:=okWide_slice hu f;obtain⟨y,rfl,g⟩:=aE1 rfl m;exact .iv _ g
  |struct fs =>obtain⟨cs,rfl,_⟩:=okWide_struct hu f;have s:IRs (eU W) l cs.toList:=m;exact .iv _ (.agg l cs (by have:=s.1;simp at this;exact this.symm) fun i x v u f=>s.2 i x v u (by simpa using f))
  |array n e =>
   obtain⟨cs,rfl⟩:∃cs,v=.agg cs:=by cases v<;>simp[Value.okWide,hu]at f |-
   have s:IRs (eU W) l cs.toList:=m;exact .iv _ (.agg l cs (by have:=s.1;simp at this;exact this.symm) fun i x v u f=>s.2 i x v u (by simpa using f))
  |_=>simp at j
end Go.TM
namespace Go.TM
def Out.Ok{α:Type}(x:Out α):Prop:=x.All fun _=>True
inductive Out.Eqv {α:Type}:Out α->Out α->Prop
 |ret (a:α):Out.Eqv (.ret a) (.ret a)
 |pick (n:Nat) (k k':Nat->Out α) (h:∀i,i<n->Out.Eqv (k i) (k' i)):Out.Eqv (.pick n k) (.pick n k')
theorem Out.Eqv.refl{α:Type}:∀ {x:Out α},x.Ok->Out.Eqv x x
 |.ret a,_=>.ret a
 |.fail s,h=>by cases h
 |.pick n k,h=>.pick n k k fun i b=>Out.Eqv.refl (h i b)
theorem Out.Eqv.symm{α:Type}{x y:Out α}(h:Out.Eqv x y):Out.Eqv y x:=by
 induction h with
 |ret a=>exact .ret a
 |pick n k k' h ih=>exact .pick n k' k ih
theorem Out.Eqv.trans{α:Type}{x y z:Out α}(h:Out.Eqv x y):Out.Eqv y z->Out.Eqv x z:=by
 induction h generalizing z with
 |ret a=>exact id
 |pick n k k' h ih =>
  intro g;cases g with
  |pick _ _ k2 g=>exact .pick n k k2 fun i b=>ih i b (g i b)
theorem Out.Eqv.all{α:Type}{Q:α->Prop}{x y:Out α}(h:Out.Eqv x y):x.All Q->y.All Q:=by
 induction h with
 |ret a=>exact id
 |pick n k k' h ih=>exact fun q i b=>ih i b (q i b)
theorem Out.Eqv.ok{α:Type}{x y:Out α}(h:Out.Eqv x y):x.Ok:=by
 induction h with
 |ret a=>exact trivial
 |pick n k k' h ih=>exact ih
theorem Out.Eqv.eq{α:Type}{a:α}{x y:Out α}(h:Out.Eqv x y)(b:x=.ret a):y=.ret a:=by
 subst b;cases h
 rfl
theorem Out.Le.eqv{α:Type}{x y:Out α}(h:Out.Le x y):x.Ok->Out.Eqv x y:=by
 induction h with
 |fail s y=>intro h;cases h
 |ret a=>exact fun _=>.ret a
 |pick n k k' h ih=>exact fun q=>.pick n _ _ fun i b=>ih i (q i b)
theorem Out.Eqv.bind{α c:Type}{f g:α->Out c}{x y:Out α}(h:Out.Eqv x y):x.All (fun a=>Out.Eqv (f a) (g a))->Out.Eqv (x.bind f) (y.bind g):=by
 induction h with
 |ret a=>exact id
 |pick n k k' h ih=>exact fun q=>.pick n _ _ fun i b=>ih i b (q i b)
def Cont{α:Type}(x:Out α)(y:Nat->Out α):Prop:=x.Ok->∃n0,∀n,n0<=n->Out.Eqv x (y n)
theorem Cont.const{α:Type}(x:Out α):Cont x fun _=>x:=fun h=>⟨0,fun _ _=>.refl h⟩
theorem Out.all_later{α:Type}{Q:Nat->α->Prop}:∀ {x:Out α},x.All (fun a=>∃c,∀n,c<=n->Q n a)->∃c,∀n,c<=n->x.All (Q n)
 |.ret a,h=>h
 |.fail s,h=>h.elim
 |.pick m k,h=>by
  have:∀j,j<=m->∃c,∀n,c<=n->∀i,i<j->(k i).All (Q n):=by
   intro j;induction j with
   |zero=>exact fun _=>⟨0,fun _ _ i d=>A_⟩
   |succ j ih =>
    intro p;obtain⟨a,g⟩:=ih A_;obtain⟨b,o⟩:=Out.all_later (h j A_);refine⟨max a b,fun n f i d=>?_⟩;rcases Nat.lt_succ_iff_lt_or_eq.1 d with e|e;.exact g n A_ i e
    .subst e;exact o n A_
  obtain⟨c,l⟩:=this m (L_ m);exact⟨c,fun n f i d=>l n f i d⟩
theorem Cont.bind{α m:Type}{f:α->Out m}{g:Nat->α->Out m}{x:Out α}{y:Nat->Out α}(k:Cont x y)(j:∀a,Cont (f a) fun n=>g n a):Cont (x.bind f) fun n=>(y n).bind (g n):=by intro h;have c:x.All fun a=>(f a).Ok:=Out.all_bind.1 h;obtain⟨a,d⟩:=k (Out.all_mono (fun _ _=>trivial) c);obtain⟨b,e⟩:=Out.all_later (Q:=fun n a=>Out.Eqv (f a) (g n a)) (Out.all_mono (fun r i=>j r i) c);exact⟨max a b,fun n l=>(d n A_).bind (e n A_)⟩
structure Orc.Cont (o:Orc) (o':Nat->Orc):Prop where
 call:∀f a S,TM.Cont (o.call f a S) fun n=>(o' n).call f a S
 yld:∀i a S,TM.Cont (o.yld i a S) fun n=>(o' n).yld i a S
 loop:∀b e S,TM.Cont (o.loop b e S) fun n=>(o' n).loop b e S
variable {K:bD}{o:Orc}{o':Nat->Orc}
theorem wD(h:Orc.Cont o o')(f:Nat)(args:Tn_)(S:aA):Cont (eZ o f args S) fun n=>eZ (o' n) f args S:=by
 unfold eZ;split;.exact .const _
 .exact(h.call _ _ _).bind fun a=>.const _
theorem aBo(h:Orc.Cont o o')(t:Bool)(f:Nat)(args:Tn_)(S:aA):Cont (jO o t f args S) fun n=>jO (o' n) t f args S:=by
 unfold jO;split;.exact .const _
 .exact(h.call _ _ _).bind fun a=>.const _
theorem aGi(h:Orc.Cont o o')(op:TOp)(env rs:Tn_)(S:aA):Cont (bV K o op env rs S) fun n=>bV K (o' n) op env rs S:=by
 unfold bV;split
 .refine Cont.bind (g:=fun _ r=>_) ?_ (fun a=>.const _);split;.exact wD h _ _ _
  .exact aBo h _ _ _ _
 .dsimp only;split
  .refine Cont.bind (g:=fun _ r=>_) ?_ (fun a=>.const _);split;.exact wD h _ _ _
   .exact aBo h _ _ _ _
  .split;.exact .const _
   .exact Cont.bind (g:=fun _ r=>_) (h.yld _ _ _) (fun a=>.const _)
  .exact .const _
 all_goals exact .const _
theorem aBp(h:Orc.Cont o o')(op:aK)(i:Nat)(rs:Tn_)(env:Env)(S:aA):Cont (kC K o op i rs env S) fun n=>kC K (o' n) op i rs env S:=by
 unfold kC;split;.exact .const _
 .exact .const _
 .exact Cont.bind (g:=fun _ r=>_) (aGi h _ _ _ _) (fun a=>.const _)
theorem aBq(h:Orc.Cont o o'):∀(ops:List aK) (i:Nat) (rs:Tn_) (env:Env) (S:aA),Cont (kU K o ops i rs env S) fun n=>kU K (o' n) ops i rs env S
 |[],_,_,_,_=>.const _
 |op::ops,i,rs,env,S=>by unfold kU;exact Cont.bind (g:=fun n r=>kU K (o' n) ops (i+1) r.1 r.2.1 r.2.2) (aBp h op i rs env S) (fun r=>aBq h ops _ _ _ _)
theorem uB(h:Orc.Cont o o')(ops:List aK):∀(ps:Tl_) (rs:Tn_) (env:Env) (S:aA),Cont (eA K o ops ps rs env S) fun n=>eA K (o' n) ops ps rs env S
 |[],_,_,_=>.const _
 |(i,chk,fl)::ps,rs,env,S=>by
  unfold eA;split;.exact .const _
  .refine Cont.bind (g:=fun n r=>_) (aBp h _ _ _ _ _) (fun r=>?_);split
   .split;.exact uB h ops ps _ _ _
    .exact .const _
   .exact .const _
theorem vF(h:Orc.Cont o o'):∀(c:aL) (env:Env) (S:aA),Cont (eS K o c env S) fun n=>eS K (o' n) c env S:=by
 intro c;induction c with
 |skip=>exact fun _ _=>.const _
 |region ops=>exact fun env S=>Cont.bind (g:=fun n r=>_) (aBq h _ _ _ _ _) (fun r=>.const _)
 |draw f0 ph ops =>
  intro env S;simp only[eS];split;.exact .const _
  .exact Cont.bind (g:=fun n r=>_) (uB h _ _ _ _ _) (fun r=>.const _)
 |seq a b iha ihb =>
  intro env S;simp only[eS];refine Cont.bind (g:=fun n r=>_) (iha env S) (fun r=>?_);split;.exact ihb _ _
  .exact .const _
 |cond c a b iha ihb =>
  intro env S;simp only[eS];split;.exact iha _ _
  .exact ihb _ _
  .exact .const _
 |block id b ih=>exact fun env S=>Cont.bind (g:=fun n r=>_) (ih env S) (fun r=>.const _)
 |loop b ih=>exact fun env S=>h.loop _ _ _
 |rangeFunc f ps a b iha ihb =>
  intro env S;simp only[eS];split;.exact Cont.bind (g:=fun n r=>_) (h.call _ _ _) (fun r=>.const _)
  .exact .const _
 |exit id=>exact fun _ _=>.const _
 |ret=>exact fun _ _=>.const _
 |bad=>exact fun _ _=>.const _
theorem aGj(h:Orc.Cont o o')(f:Nat)(args:Tn_)(S:aA):Cont (eJ K o f args S) fun n=>eJ K (o' n) f args S:=by
 unfold eJ;split;.exact .const _
 .split;.exact .const _
  .exact Cont.bind (g:=fun n r=>_) (vF h _ _ _) (fun r=>.const _)
theorem aKr(h:Orc.Cont o o')(i:Nat)(args:Tn_)(S:aA):Cont (iB K o i args S) fun n=>iB K (o' n) i args S:=by
 unfold iB;split
 .split;.exact .const _
  .refine Cont.bind (g:=fun n r=>_) (vF h _ _ _) (fun r=>?_);split;.exact Cont.bind (g:=fun n r=>_) (vF h _ _ _) (fun q=>.const _)
   .exact .const _
 .exact .const _
open Classical in
noncomputable def limOf {α : Type} (y : Nat → Out α) : Out α := if h : ∃ n, (y n).Ok then y h.choose else .fail "no end"
theorem xB{α:Type}{y:Nat->Out α}(a:∀n m,n<=m->Out.Le (y n) (y m)):Cont (limOf y) y:=by
 intro h;unfold limOf at h |-;split at h;.rename_i hn;simp only[hn,↓reduceDIte];exact⟨hn.choose,fun n b=>(a _ _ b).eqv h⟩
 .cases h
theorem vG{α:Type}{y:Nat->Out α}(d:∀n m,n<=m->Out.Le (y n) (y m)){n:Nat}(h:(y n).Ok):Out.Eqv (y n) (limOf y):=by
 have c:∃n,(y n).Ok:=⟨n,h⟩
 unfold limOf
 simp only[c,↓reduceDIte]
 exact((d _ _ (Nat.le_max_left n c.choose)).eqv h).trans ((d _ _ (Nat.le_max_right n c.choose)).eqv c.choose_spec).symm
noncomputable def lim (K:bD):Orc :=
 ⟨fun f a S=>limOf fun n=>(ex K n).call f a S,fun i a S=>limOf fun n=>(ex K n).yld i a S,fun b e S=>limOf fun n=>(ex K n).loop b e S⟩
theorem yV:Orc.Cont (lim K) (ex K) :=
 ⟨fun f a S=>xB fun n m h=>(aE0 h).call f a S,fun i a S=>xB fun n m h=>(aE0 h).yld i a S,fun b e S=>xB fun n m h=>(aE0 h).loop b e S⟩
theorem yW{f:Nat}{a:Tn_}{S:aA}(h:(eJ K (lim K) f a S).Ok):Out.Eqv (eJ K (lim K) f a S) ((lim K).call f a S):=by obtain⟨n,c⟩:=aGj yV f a S h;have b:=c n (L_ n);exact b.trans (vG (y:=fun n=>(ex K n).call f a S) (fun n m h=>(aE0 h).call f a S) (n:=n+1) b.symm.ok)
theorem aBr{i:Nat}{a:Tn_}{S:aA}(h:(iB K (lim K) i a S).Ok):Out.Eqv (iB K (lim K) i a S) ((lim K).yld i a S):=by obtain⟨n,c⟩:=aKr yV i a S h;have b:=c n (L_ n);exact b.trans (vG (y:=fun n=>(ex K n).yld i a S) (fun n m h=>(aE0 h).yld i a S) (n:=n+1) b.symm.ok)
def jV(K:bD)(orc:Orc)(b:aL)(env:Env)(S:aA):Out (aV×Env×aA) :=
 (eS K orc b env S).bind fun r=>match r.1 with
  |.normal=>orc.loop b r.2.1 r.2.2
  |j=>.ret (j,r.2.1,r.2.2)
theorem aGk(h:Orc.Cont o o')(b:aL)(env:Env)(S:aA):Cont (jV K o b env S) fun n=>jV K (o' n) b env S:=by
 unfold jV;refine Cont.bind (g:=fun n r=>_) (vF h _ _ _) (fun r=>?_);split;.exact h.loop _ _ _
 .exact .const _
theorem yX{b:aL}{env:Env}{S:aA}(h:(jV K (lim K) b env S).Ok):Out.Eqv (jV K (lim K) b env S) ((lim K).loop b env S):=by obtain⟨n,c⟩:=aGk yV b env S h;have a:=c n (L_ n);exact a.trans (vG (y:=fun n=>(ex K n).loop b env S) (fun n m h=>(aE0 h).loop b env S) (n:=n+1) a.symm.ok)
theorem Out.ok_ret{α:Type}{x:Out α}{r:α}(h:x=.ret r):x.Ok:=by rw[h];trivial
theorem Out.all_ok{α:Type}{Q:α->Prop}{x:Out α}(h:x.All Q):x.Ok:=Out.all_mono (fun _ _=>trivial) h
theorem bF2{f:Nat}{a:Tn_}{S:aA}{r:TV×aA}(h:eJ K (lim K) f a S=.ret r):(lim K).call f a S=.ret r:=(yW (Out.ok_ret h)).eq h
theorem aKs{f:Nat}{a:Tn_}{S:aA}{Q:TV×aA->Prop}(h:(eJ K (lim K) f a S).All Q):((lim K).call f a S).All Q:=(yW (Out.all_ok h)).all h
theorem bNa{f:Nat}{a:Tn_}{S:aA}{r:TV×aA}(h:iB K (lim K) f a S=.ret r):(lim K).yld f a S=.ret r:=(aBr (Out.ok_ret h)).eq h
theorem aNq{f:Nat}{a:Tn_}{S:aA}{Q:TV×aA->Prop}(h:(iB K (lim K) f a S).All Q):((lim K).yld f a S).All Q:=(aBr (Out.all_ok h)).all h
theorem bF3{b:aL}{env:Env}{S:aA}{r:aV×Env×aA}(h:jV K (lim K) b env S=.ret r):(lim K).loop b env S=.ret r:=(yX (Out.ok_ret h)).eq h
theorem aKt{b:aL}{env:Env}{S:aA}{Q:aV×Env×aA->Prop}(h:(jV K (lim K) b env S).All Q):((lim K).loop b env S).All Q:=(yX (Out.all_ok h)).all h
theorem bNb{f:Nat}{a:Tn_}{S:aA}{Q:TV×aA->Prop}(h:((lim K).call f a S).All Q):∃n,((ex K n).call f a S).All Q:=by obtain⟨n,b⟩:=yV.call f a S (Out.all_ok h);exact⟨n,(b n (L_ n)).all h⟩
theorem aE2{n f:Nat}{a:Tn_}{S:aA}{r:TV×aA}(h:(ex K n).call f a S=.ret r):(lim K).call f a S=.ret r :=
 (vG (y:=fun n=>(ex K n).call f a S) (fun n m h=>(aE0 h).call f a S) (n:=n) (Out.ok_ret h)).eq h
end Go.TM
namespace Go.TM
def er{α:Type}:Out α->Out α
 |.ret a=>.ret a
 | .fail _ => .fail ""
 |.pick n k=>.pick n fun i=>er (k i)
@[simp] theorem er_ret {α:Type} (a:α):er (.ret a)=.ret a:=rfl
@[simp] theorem er_fail {α : Type} (s : String) : er (.fail s : Out α) = .fail "" := rfl
theorem wE{α:Type}:∀(x:Out α),er (er x)=er x
 |.ret _=>rfl
 |.fail _=>rfl
 |.pick n k=>by simp only[er];congr;funext i;exact wE (k i)
theorem gF{α b:Type}(f:α->Out b):∀(x:Out α),er (x.bind f)=(er x).bind fun a=>er (f a)
 |.ret _=>rfl
 |.fail _=>rfl
 |.pick n k=>by simp only[er,Out.bind];congr;funext i;exact gF f (k i)
theorem bF4{α:Type}{x:Out α}{a:α}(h:er x=.ret a):x=.ret a:=by cases x<;>simp[er]at h;rw[h]
theorem aKu{α:Type}{Q:α->Prop}:∀ {x:Out α},(er x).All Q->x.All Q
 |.ret _,h=>h
 |.fail _,h=>h
 |.pick n k,h=>fun i a=>aKu (h i a)
def br{α:Type}(B:Bool)(x y:Out α):Out α:=bif B then x else y
@[congr] theorem br_congr {α:Type} {B B':Bool} {x y:Out α} (h:B=B'):br B x y=br B' x y:=by rw[h]
theorem vH{α:Type}(x y:Out α):br true x y=x:=id rfl
theorem qN{α:Type}(x y:Out α):br false x y=y:=id rfl
theorem bSz{α:Type}(B:Bool)(x y:Out α):br (!B) x y=br B y x:=by cases B<;>rfl
theorem bVm{α:Type}{B:Bool}{x y z:Out α}(h:B=true->x=z)(g:B=false->y=z):br B x y=z:=by
 cases B
 .exact g rfl
 .exact h rfl
inductive Fr where
 |seq (b:aL)
 |blk (id:Nat)
section
variable (K:bD)(O:Orc)
def back:List Fr->aV->Env->aA->Out (aV×Env×aA)
 |[],j,e,S=>.ret (j,e,S)
 |.seq b::fs,.normal,e,S=>(eS K O b e S).bind fun r=>back fs r.1 r.2.1 r.2.2
 |.seq _::fs,j,e,S=>back fs j e S
 |.blk id::fs,.exit i,e,S=>if i=id then back fs .normal e S else back fs (.exit i) e S
 |.blk _::fs,j,e,S=>back fs j e S
def bk(fs:List Fr)(j:aV)(e:Env)(S:aA):Out (aV×Env×aA):=er (back K O fs j e S)
def go(c:aL)(fs:List Fr)(e:Env)(S:aA):Out (aV×Env×aA):=er ((eS K O c e S).bind fun r=>back K O fs r.1 r.2.1 r.2.2)
@[congr] theorem bk_congr (fs:List Fr) (j:aV) (e:Env) (S:aA):bk K O fs j e S=bk K O fs j e S:=rfl
@[congr] theorem go_congr (c:aL) (fs:List Fr) (e:Env) (S:aA):go K O c fs e S=go K O c fs e S:=rfl
def reg:List (Nat×TV)->Nat->TV
 |[],_=>.hole
 |(i,v)::M,j=>if i=j then v else reg M j
def dA(M:List (Nat×TV))(n:Nat):List TV:=(List.range n).map (reg M)
theorem bNc(j:Nat):reg [] j=.hole:=id rfl
theorem bF5(i:Nat)(v:TV)(M:To_)(j:Nat):reg ((i,v)::M) j=if i=j then v else reg M j:=id rfl
theorem aYm(M:To_)(n j:Nat):(dA M n).getD j .hole=if j<n then reg M j else .hole:=by
 simp only[dA,b_,l_];by_cases h:j<n;.simp[h]
 .simp[h]
theorem aNr(n:Nat):dA [] n=vS n:=by
 apply M9;.simp[dA,vS]
 .intro i a b;simp[dA,vS,reg]
theorem eR(i:Nat)(v:TV)(M:To_)(n:Nat):(dA M n).set i v=dA ((i,v)::M) n:=by
 apply M9;.simp[dA]
 .intro j b a;simp only[List.getElem_set,dA,W5,O9,reg]
theorem aH3{j:Nat}{v:TV}{M:To_}{n:Nat}(h:(if j<n then reg M j else .hole)=v)(b:v≠.hole):dA ((j,v)::M) n=dA M n:=by
 have a:j<n:=by
  by_cases a:j<n;.exact a
  .simp[a]at h;exact absurd h.symm b
 simp only[a,↓reduceIte]at h;apply M9;.simp[dA]
 .intro i c d;simp only[dA,W5,O9,reg];split;.rename_i e;subst e;exact h.symm
  .rfl
def opv(n:Nat)(env:Env)(M:List (Nat×TV))(x:aH):TV:=aX K env (dA M n) x
def mZ(j:Nat):TV->TV
 |.lb _=>.lp j 0
 |v=>v
theorem bNd(j:Nat)(c:Tn_):mZ j (.lb c)=.lp j 0:=id rfl
theorem bNe(j:Nat)(v:IV):mZ j (.iv v)=.iv v:=id rfl
theorem bF6(j a b c:Nat):mZ j (.ptr a b c)=.ptr a b c:=id rfl
theorem bF7(j a b c d e f:Nat):mZ j (.msl a b c d e f)=.msl a b c d e f:=id rfl
theorem bF8(j a:Nat)(l:Tp_):mZ j (.tsl a l)=.tsl a l:=id rfl
theorem bF9(j a:Nat):mZ j (.map a)=.map a:=id rfl
theorem bNf(j a:Nat):mZ j (.it a)=.it a:=id rfl
theorem bNg(j f:Nat)(a b:Tn_):mZ j (.fn f a b)=.fn f a b:=id rfl
theorem bGa(j a:Nat):mZ j (.yld a)=.yld a:=id rfl
def bGb:Option (List IV)->TV
 |some cs=>.iv (.cp cs)
 |none=>.hole
theorem aKv(n:Nat)(env:Env)(M:To_)(j:Nat):opv K n env M (.reg j)=if j<n then reg M j else .hole:=aYm M n j
theorem bNh(n:Nat)(env:Env)(M:To_)(j:Nat):opv K n env M (.loc j)=mZ j (env.getD j .hole):=by simp only[opv,aX];cases List.getD env j .hole<;>rfl
theorem bNi(n:Nat)(env:Env)(M:To_)(v:IV):opv K n env M (.cst v)=.iv v:=id rfl
theorem bS0(n:Nat)(env:Env)(M:To_)(f:Nat):opv K n env M (.fn f)=.fn f [] []:=id rfl
theorem bGc(n:Nat)(env:Env)(M:To_)(g:Nat):opv K n env M (.glob g)=bGb (K.glob g):=id rfl
@[congr] theorem opv_congr (n:Nat) (env:Env) (M:List (Nat×TV)) (x:aH):opv K n env M x=opv K n env M x:=rfl
@[congr] theorem reg_congr (M:List (Nat×TV)) (x:Nat):reg M x=reg M x:=rfl
inductive Kt where
 |rg (all ops:List aK) (i:Nat)
 |fl (ops:List aK) (is:List Nat) (ph:List (Nat×List Nat×List Nat))
 |ph (ops:List aK) (chk fl:List Nat) (ps:List (Nat×List Nat×List Nat))
def aRj(all:List aK)(i:Nat)(rs:List TV)(fs:List Fr)(env:Env)(S:aA):Out (aV×Env×aA) :=
 match fI all i rs env with
 |some env=>back K O fs .normal env S
 | none => .fail "local"
def wbk(ops:List aK)(i:Nat)(M:List (Nat×TV))(n:Nat)(fs:List Fr)(env:Env)(S:aA):Out (aV×Env×aA):=er (aRj K O ops i (dA M n) fs env S)
def rgR(all ops:List aK)(i:Nat)(M:List (Nat×TV))(n:Nat)(fs:List Fr)(env:Env)(S:aA):Out (aV×Env×aA) :=
 er ((kU K O ops i (dA M n) env S).bind fun r=>aRj K O all 0 r.1 fs r.2.1 r.2.2)
def aRk(ops:List aK)(ps:List (Nat×List Nat×List Nat))(rs:List TV)(fs:List Fr)(env:Env)(S:aA):Out (aV×Env×aA) :=
 (eA K O ops ps rs env S).bind fun r=>aRj K O ops 0 r.1 fs r.2.1 r.2.2
def phs(ops:List aK)(ps:List (Nat×List Nat×List Nat))(M:List (Nat×TV))(n:Nat)(fs:List Fr)(env:Env)(S:aA):Out (aV×Env×aA):=er (aRk K O ops ps (dA M n) fs env S)
def aAh(ops:List aK)(is:List Nat)(ps:List (Nat×List Nat×List Nat))(rs:List TV)(fs:List Fr)(env:Env)(S:aA):Out (aV×Env×aA) :=
 match dZ K ops is rs env S with
 | none => .fail ""
 |some q=>aRk K O ops ps q.1 fs env q.2
def fls(ops:List aK)(is:List Nat)(ps:List (Nat×List Nat×List Nat))(M:List (Nat×TV))(n:Nat)(fs:List Fr)(env:Env)(S:aA):Out (aV×Env×aA):=er (aAh K O ops is ps (dA M n) fs env S)
def chk(c:Bool)(ops:List aK)(is:List Nat)(ps:List (Nat×List Nat×List Nat))(M:List (Nat×TV))(n:Nat)(fs:List Fr)(env:Env)(S:aA):Out (aV×Env×aA) :=
 if c then fls K O ops is ps M n fs env S else .fail ""
def iI(k:Kt)(M:List (Nat×TV))(n:Nat)(fs:List Fr)(env:Env)(S:aA):Out (aV×Env×aA) :=
 match k with
 |.rg all ops i=>rgR K O all ops (i+1) M n fs env S
 |.fl ops is ph=>fls K O ops is ph M n fs env S
 |.ph ops c fl ps=>chk K O (nM K ops (dA M n) env S c) ops fl ps M n fs env S
def op1(o:TOp)(i:Nat)(k:Kt)(M:List (Nat×TV))(n:Nat)(fs:List Fr)(env:Env)(S:aA):Out (aV×Env×aA) :=
 er ((bV K O o env (dA M n) S).bind fun r=>iI K O k ((i,r.1)::M) n fs r.2.1 r.2.2)
def opG(g:TV)(want:Bool)(j:Nat)(o:TOp)(i:Nat)(k:Kt)(M:List (Nat×TV))(n:Nat)(fs:List Fr)(env:Env)(S:aA):Out (aV×Env×aA) :=
 match g with
 |.iv (.bool b)=>br (b==want) (op1 K O o i k ((j,.iv (.bool want))::M) n fs env S) (iI K O k ((i,undef)::(j,.iv (.bool (!want)))::M) n fs env S)
 |.tup []=>iI K O k ((i,undef)::M) n fs env S
 | _ => .fail ""
def opV(v:Option TV)(i:Nat)(k:Kt)(M:List (Nat×TV))(n:Nat)(fs:List Fr)(env:Env)(S:aA):Out (aV×Env×aA) :=
 match v with
 |some v=>iI K O k ((i,v)::M) n fs env S
 | none => .fail ""
def opA(v:Option (TV×aG))(i:Nat)(k:Kt)(M:List (Nat×TV))(n:Nat)(fs:List Fr)(env:Env)(S:aA):Out (aV×Env×aA) :=
 match v with
 |some v=>iI K O k ((i,v.1)::M) n fs env (S++[v.2])
 | none => .fail ""
def opS(v:Option (TV×aA))(i:Nat)(k:Kt)(M:List (Nat×TV))(n:Nat)(fs:List Fr)(env:Env):Out (aV×Env×aA) :=
 match v with
 |some v=>iI K O k ((i,v.1)::M) n fs env v.2
 | none => .fail ""
def opE(v:Option (TV×Env×aA))(i:Nat)(k:Kt)(M:List (Nat×TV))(n:Nat)(fs:List Fr):Out (aV×Env×aA) :=
 match v with
 |some v=>iI K O k ((i,v.1)::M) n fs v.2.1 v.2.2
 | none => .fail ""
def opC(x:Out (TV×aA))(i:Nat)(k:Kt)(M:List (Nat×TV))(n:Nat)(fs:List Fr)(env:Env):Out (aV×Env×aA) :=
 x.bind fun v=>iI K O k ((i,v.1)::M) n fs env v.2
def opP(c a b:TV)(i:Nat)(k:Kt)(M:List (Nat×TV))(n:Nat)(fs:List Fr)(env:Env)(S:aA):Out (aV×Env×aA) :=
 match c with
 |.iv (.bool t)=>br t (iI K O k ((i,a)::M) n fs env S) (iI K O k ((i,b)::M) n fs env S)
 | _ => .fail ""
section
variable (ops:List aK)(is:List Nat)(ps:List (Nat×List Nat×List Nat))(i:Nat)(k:Kt)(M:List (Nat×TV))(n:Nat)(fs:List Fr)(env:Env)(S:aA)
@[congr] theorem wbk_congr {i i':Nat} {env env':Env} (h:i=i') (h2:env=env'):wbk K O ops i M n fs env S=wbk K O ops i' M n fs env' S:=by rw[h,h2]
@[congr] theorem rgR_congr (all:List aK) {i i':Nat} (h:i=i'):rgR K O all ops i M n fs env S=rgR K O all ops i' M n fs env S:=by rw[h]
@[congr] theorem phs_congr:phs K O ops ps M n fs env S=phs K O ops ps M n fs env S:=rfl
@[congr] theorem fls_congr:fls K O ops is ps M n fs env S=fls K O ops is ps M n fs env S:=rfl
@[congr] theorem chk_congr {c c':Bool} (h:c=c'):chk K O c ops is ps M n fs env S=chk K O c' ops is ps M n fs env S:=by rw[h]
@[congr] theorem cont_congr:iI K O k M n fs env S=iI K O k M n fs env S:=rfl
@[congr] theorem op1_congr (o:TOp):op1 K O o i k M n fs env S=op1 K O o i k M n fs env S:=rfl
@[congr] theorem opG_congr {g g':TV} (h:g=g') (want:Bool) (j:Nat) (o:TOp):opG K O g want j o i k M n fs env S=opG K O g' want j o i k M n fs env S:=by rw[h]
@[congr] theorem opV_congr {v v':Option TV} (h:v=v'):opV K O v i k M n fs env S=opV K O v' i k M n fs env S:=by rw[h]
@[congr] theorem opA_congr {v v':Option (TV×aG)} (h:v=v'):opA K O v i k M n fs env S=opA K O v' i k M n fs env S:=by rw[h]
@[congr] theorem opS_congr {v v':Option (TV×aA)} (h:v=v'):opS K O v i k M n fs env=opS K O v' i k M n fs env:=by rw[h]
@[congr] theorem opE_congr {v v':Option (TV×Env×aA)} (h:v=v'):opE K O v i k M n fs=opE K O v' i k M n fs:=by rw[h]
@[congr] theorem opC_congr {v v':Out (TV×aA)} (h:v=v'):opC K O v i k M n fs env=opC K O v' i k M n fs env:=by rw[h]
@[congr] theorem opP_congr {c c' a a' b b':TV} (h:c=c') (ha:a=a') (hb:b=b'):opP K O c a b i k M n fs env S=opP K O c' a' b' i k M n fs env S:=by rw[h,ha,hb]
theorem bGd(v:TV):opV K O (some v) i k M n fs env S=iI K O k ((i,v)::M) n fs env S:=id rfl
theorem bGe(v:TV)(b:aG):opA K O (some (v,b)) i k M n fs env S=opS K O (some (v,S++[b])) i k M n fs env:=id rfl
theorem bGf(v:TV):opS K O (some (v,S)) i k M n fs env=iI K O k ((i,v)::M) n fs env S:=id rfl
theorem bGg(v:TV):opE K O (some (v,env,S)) i k M n fs=iI K O k ((i,v)::M) n fs env S:=id rfl
theorem bNj(v:TV):opC K O (.ret (v,S)) i k M n fs env=iI K O k ((i,v)::M) n fs env S:=id rfl
theorem bGh(t:Bool)(a b:TV):opP K O (.iv (.bool t)) a b i k M n fs env S=br t (iI K O k ((i,a)::M) n fs env S) (iI K O k ((i,b)::M) n fs env S):=id rfl
theorem bGi(b a:Bool)(j:Nat)(o:TOp):opG K O (.iv (.bool b)) a j o i k M n fs env S=br (b==a) (op1 K O o i k ((j,.iv (.bool a))::M) n fs env S) (iI K O k ((i,undef)::(j,.iv (.bool (!a)))::M) n fs env S):=id rfl
theorem aYn(a:Bool)(j:Nat)(o:TOp):opG K O (.tup []) a j o i k M n fs env S=iI K O k ((i,undef)::M) n fs env S:=id rfl
theorem bGj:chk K O true ops is ps M n fs env S=fls K O ops is ps M n fs env S:=id rfl
theorem bS1(j:aV):bk K O [] j env S=.ret (j,env,S):=id rfl
theorem bS2(b:aL):bk K O (.seq b::fs) .normal env S=go K O b fs env S:=id rfl
theorem aRl(b:aL):bk K O (.seq b::fs) .ret env S=bk K O fs .ret env S:=id rfl
theorem aNs(b:aL)(id:Nat):bk K O (.seq b::fs) (.exit id) env S=bk K O fs (.exit id) env S:=by simp only[bk,back]
theorem bS3(id:Nat):bk K O (.blk id::fs) .normal env S=bk K O fs .normal env S:=by simp only[bk,back]
theorem aRm(id:Nat):bk K O (.blk id::fs) .ret env S=bk K O fs .ret env S:=by simp only[bk,back]
theorem aNt(id a:Nat):bk K O (.blk id::fs) (.exit a) env S=if a=id then bk K O fs .normal env S else bk K O fs (.exit a) env S:=by simp only[bk,back];split<;>rfl
theorem go_skip:go K O .skip fs env S=bk K O fs .normal env S:=by simp only[bk,go];rfl
theorem go_ret:go K O .ret fs env S=bk K O fs .ret env S:=by simp only[bk,go];rfl
theorem go_exit(id:Nat):go K O (.exit id) fs env S=bk K O fs (.exit id) env S:=by simp only[bk,go];rfl
theorem Out.bind_assoc{α b c:Type}(f:α->Out b)(g:b->Out c):∀(x:Out α),(x.bind f).bind g=x.bind fun a=>(f a).bind g
 |.ret _=>rfl
 |.fail _=>rfl
 |.pick n k=>by simp only[Out.bind];congr;funext i;exact Out.bind_assoc f g (k i)
theorem Out.bind_congr{α b:Type}{f g:α->Out b}{x:Out α}(h:∀a,f a=g a):x.bind f=x.bind g:=by rw[funext h]
theorem go_seq(a b:aL):go K O (.seq a b) fs env S=go K O a (.seq b::fs) env S:=by simp only[go,eS,Out.bind_assoc];congr 1;refine Out.bind_congr fun r=>?_;obtain⟨j,e,S'⟩:=r;cases j<;>rfl
theorem go_block(id:Nat)(b:aL):go K O (.block id b) fs env S=go K O b (.blk id::fs) env S:=by
 simp only[go,eS,Out.bind_assoc];congr 1;refine Out.bind_congr fun r=>?_;obtain⟨j,e,S'⟩:=r;cases j with
 |exit i=>simp only[back];split<;>rfl
 |_=>rfl
def goC(c:TV)(a b:aL)(fs:List Fr)(env:Env)(S:aA):Out (aV×Env×aA) :=
 match c with
 |.iv (.bool t)=>br t (go K O a fs env S) (go K O b fs env S)
 | _ => .fail ""
@[congr] theorem goC_congr {c c':TV} (h:c=c') (a b:aL):goC K O c a b fs env S=goC K O c' a b fs env S:=by rw[h]
theorem bGk(t:Bool)(a b:aL):goC K O (.iv (.bool t)) a b fs env S=br t (go K O a fs env S) (go K O b fs env S):=id rfl
theorem go_cond(c:aH)(a b:aL):go K O (.cond c a b) fs env S=goC K O (opv K 0 env [] c) a b fs env S:=by
 simp only[go,eS,goC,opv,dA,List.range_zero,C3];cases aX K env [] c with
 |iv v =>
  cases v with
  |bool t=>cases t<;>rfl
  |_=>rfl
 |_=>rfl
def lp(b:aL)(env:Env)(S:aA):Out (aV×Env×aA):=O.loop b env S
@[congr] theorem lp_congr (b:aL):lp O b env S=lp O b env S:=rfl
def goL(x:Out (aV×Env×aA))(fs:List Fr):Out (aV×Env×aA):=er (x.bind fun r=>back K O fs r.1 r.2.1 r.2.2)
@[congr] theorem goL_congr {x x':Out (aV×Env×aA)} (h:x=x'):goL K O x fs=goL K O x' fs:=by rw[h]
theorem bNk(j:aV):goL K O (.ret (j,env,S)) fs=bk K O fs j env S:=id rfl
theorem go_loop(b:aL):go K O (.loop b) fs env S=goL K O (lp O b env S) fs:=id rfl
def rgN(n:Nat)(ops:List aK)(fs:List Fr)(env:Env)(S:aA):Out (aV×Env×aA):=rgR K O ops ops 0 [] n fs env S
@[congr] theorem rgN_congr {n n':Nat} (h:n=n'):rgN K O n ops fs env S=rgN K O n' ops fs env S:=by rw[h]
def aB7:List aK->Nat->Nat
 |[],n=>n
 |_::l,n=>aB7 l (n+1)
theorem aKw:∀(l:List aK) (n:Nat),aB7 l n=l.length+n
 |[],n=>by simp[aB7]
 |_::l,n=>by rw[aB7,aKw l];simp;omega
theorem bGl:rgN K O n ops fs env S=rgR K O ops ops 0 [] n fs env S:=id rfl
theorem go_region0:go K O (.region ops) fs env S=rgR K O ops ops 0 [] ops.length fs env S:=by simp only[go,eS,rgR,Out.bind_assoc,aNr];congr 1;refine Out.bind_congr fun r=>?_;simp only[aRj];cases fI ops 0 r.1 r.2.1<;>rfl
theorem go_draw0(a:Tc_):go K O (.draw a ps ops) fs env S=fls K O ops a ps [] ops.length fs env S:=by
 simp only[go,eS,fls,aAh,aNr];cases dZ K ops a (vS ops.length) env S with
 |none=>rfl
 |some q =>simp only[aRk,Out.bind_assoc];congr 1;refine Out.bind_congr fun r=>?_;simp only[aRj];cases fI ops 0 r.1 r.2.1<;>rfl
theorem bNl(a:List aK):iI K O (.rg a ops i) M n fs env S=rgR K O a ops (i+1) M n fs env S:=id rfl
theorem aV7:iI K O (.fl ops is ps) M n fs env S=fls K O ops is ps M n fs env S:=id rfl
theorem bNm(a:List aK):rgR K O a [] i M n fs env S=wbk K O a 0 M n fs env S:=id rfl
theorem bGm(a:List aK)(o:TOp)(l:Option Nat):rgR K O a (⟨o,l,none⟩::ops) i M n fs env S=op1 K O o i (.rg a ops i) M n fs env S:=by simp only[rgR,op1,iI,kU,kC,dT,Out.bind_assoc,Out.bind,eR];rw[gF,gF];refine Out.bind_congr fun r=>?_;rw[wE]
theorem aV8(m:List aK)(o:TOp)(l:Option Nat)(j:Nat)(c:Bool){k:Kt}{X:List TV->Env->aA->Out (aV×Env×aA)}(d:∀M env S,er (X (dA M n) env S)=iI K O k M n fs env S)(rs:Tn_)(g:rs=dA M n): er ((kC K O ⟨o,l,some (j,c)⟩ i rs env S).bind fun r=>X r.1 r.2.1 r.2.2)=opG K O (opv K n env M (.reg j)) c j o i k M n fs env S:=by
 subst g;have p:opv K n env M (.reg j)=(dA M n).getD j .hole:=rfl;simp only[kC,dT];rw[<-p];have key:∀b:Bool,opv K n env M (.reg j)=.iv (.bool b)->dA ((j,.iv (.bool b))::M) n=dA M n:=by intro b f;refine aH3 ?_ B_;rw[<-aKv K n env M j];exact f
 cases hg:opv K n env M (.reg j)with
 |iv v =>
  cases v with
  |bool b =>
   have h:=key b hg;by_cases hw:b=c
   .subst hw;have:(b==b)=true:=by cases b<;>rfl
    simp only[opG,this,vH,op1,Out.bind_assoc,Out.bind,h];rw[gF,gF];refine Out.bind_congr fun r=>?_;rw[eR,d];have e:iI K O k ((i,r.1)::M) n fs r.2.1 r.2.2=iI K O k ((i,r.1)::(j,.iv (.bool b))::M) n fs r.2.1 r.2.2:=by rw[<-d,<-d,<-eR,<-eR,h]
    rw[e,<-d,wE]
   .have f:b=!c:=by cases b<;>cases c<;>simp at hw |-
    subst f;have:((!c)==c)=false:=by cases c<;>rfl
    simp only[opG,this,qN,Out.bind];rw[eR,d,<-d,<-d,<-eR,<-eR,h]
  |_=>rfl
 |tup vs =>
  cases vs with
  |nil=>simp only[opG,Out.bind];rw[eR,d]
  |cons a b=>rfl
 |_=>rfl
theorem aYo(b:List aK)(o:TOp)(l:Option Nat)(j:Nat)(a:Bool):rgR K O b (⟨o,l,some (j,a)⟩::ops) i M n fs env S=opG K O (opv K n env M (.reg j)) a j o i (.rg b ops i) M n fs env S:=by rw[<-aV8 K O i M n fs env S b o l j a (X:=fun rs env S=>(kU K O ops (i+1) rs env S).bind fun r=>aRj K O b 0 r.1 fs r.2.1 r.2.2) (fun M env S=>rfl) _ rfl];simp only[rgR,kU,Out.bind_assoc]
def floats(o:TOp):Bool:=cA o==0||cA o==1||cA o==2||cA o==4||cA o==6
theorem bGn(o:TOp)(h:floats o=true)(rs:Tn_):bV K O o env rs S=Out.ofOpt (tB o) (match iZ K o env rs S with
  |some v=>some (v,env,S)
  |none=>match bP o (aX K env rs) S.length with
   |some (v,b)=>some (v,env,S++[b])
   |none=>none):=by
 have a:cA o≠5:=by intro e;simp[floats,e]at h
 rw[mR K O env rs S o a]
 congr 1
 have s:gM o (aX K env rs) rs env S=none:=by cases o<;>first|rfl|(simp[cA,floats]at h;done)
 simp only[jN,s]
 cases iZ K o env rs S with
 |some v=>rfl
 |none =>
  cases bP o (aX K env rs) S.length with
  |some q=>rfl
  |none=>rfl
theorem aE3(o:TOp)(h:floats o=true)(l:Option Nat){X:List TV->aA->Out (aV×Env×aA)}{k:Kt}(a:∀M S,er (X (dA M n) S)=iI K O k M n fs env S):
  er (match iZ K o env (dA M n) S with
   |some v=>X ((dA M n).set i v) S
   |none=>match bP o (aX K env (dA M n)) S.length with
    |some (v,b)=>X ((dA M n).set i v) (S++[b])
    | none => .fail "") = op1 K O o i k M n fs env S := by
 simp only[op1,bGn K O env S o h]
 cases iZ K o env (dA M n) S with
 |some v=>simp only[Out.ofOpt,Out.bind,eR,a];rw[<-a,wE]
 |none =>
  cases bP o (aX K env (dA M n)) S.length with
  |some q=>obtain⟨v,b⟩:=q;simp only[Out.ofOpt,Out.bind,eR,a];rw[<-a,wE]
  |none=>rfl
def aAi(l:List aK)(i:Nat):Option aK:=l[i]?
theorem aYp(o:aK)(l:List aK):aAi (o::l) 0=some o:=id rfl
theorem aYq(o:aK)(l:List aK)(i:Nat):aAi (o::l) (i+1)=aAi l i:=by simp[aAi]
def flB(c:Bool)(x y:Out (aV×Env×aA)):Out (aV×Env×aA):=bif c then x else y
@[congr] theorem flB_congr {c c':Bool} (h:c=c') (x y:Out (aV×Env×aA)):flB c x y=flB c' x y:=by rw[h]
theorem aE4(x y:Out (aV×Env×aA)):flB true x y=x:=id rfl
def flO(o:Option aK)(i:Nat)(ops:List aK)(is:List Nat)(ps:List (Nat×List Nat×List Nat))(M:List (Nat×TV))(n:Nat)(fs:List Fr)(env:Env)(S:aA):Out (aV×Env×aA) :=
 match o with
 |some ⟨o,_,none⟩=>flB (floats o) (op1 K O o i (.fl ops is ps) M n fs env S) (fls K O ops (i::is) ps M n fs env S)
 |some ⟨o,_,some (j,want)⟩=>flB (floats o) (opG K O (opv K n env M (.reg j)) want j o i (.fl ops is ps) M n fs env S) (fls K O ops (i::is) ps M n fs env S)
 |none=>fls K O ops (i::is) ps M n fs env S
@[congr] theorem flO_congr {o o':Option aK} (h:o=o'):flO K O o i ops is ps M n fs env S=flO K O o' i ops is ps M n fs env S:=by rw[h]
theorem aNu(o:TOp)(l:Option Nat):flO K O (some ⟨o,l,none⟩) i ops is ps M n fs env S=flB (floats o) (op1 K O o i (.fl ops is ps) M n fs env S) (fls K O ops (i::is) ps M n fs env S):=id rfl
theorem aH4(o:TOp)(l:Option Nat)(j:Nat)(a:Bool):flO K O (some ⟨o,l,some (j,a)⟩) i ops is ps M n fs env S=flB (floats o) (opG K O (opv K n env M (.reg j)) a j o i (.fl ops is ps) M n fs env S) (fls K O ops (i::is) ps M n fs env S):=id rfl
theorem bNn:fls K O ops [] ps M n fs env S=phs K O ops ps M n fs env S:=id rfl
theorem aB8(rs:Tn_)(o:TOp)(l:Option Nat)(a:ops[i]?=some ⟨o, l, none⟩):aAh K O ops (i::is) ps rs fs env S=match iZ K o env rs S with
      |some v=>aAh K O ops is ps (rs.set i v) fs env S
      |none=>match bP o (aX K env rs) S.length with
        |some (v,b)=>aAh K O ops is ps (rs.set i v) fs env (S++[b])
        | none => .fail "" := by
  simp only[aAh,dZ,a,dT]
  cases iZ K o env rs S with
  |some v=>rfl
  |none =>
    cases bP o (aX K env rs) S.length with
    |some q=>rfl
    |none=>rfl
theorem aE5(M:To_):(dA M n).set i undef=dA ((i,undef)::M) n:=eR i undef M n
theorem bGo:fls K O ops (i::is) ps M n fs env S=flO K O (aAi ops i) i ops is ps M n fs env S:=by
 unfold aAi;cases ho:ops[i]? with
 |none=>rfl
 |some x =>
  obtain⟨o,l,g⟩:=x;cases h:floats o with
  |false=>cases g<;>simp only[flO,flB,h,cond_false]
  |true =>
  cases g with
  |none =>rw[aNu K O ops is ps i M n fs env S o l,h,aE4];rw[<-aE3 K O i M n fs env S o h l (X:=fun rs S=>aAh K O ops is ps rs fs env S) (fun M S=>rfl)];simp only[fls];rw[aB8 K O ops is ps i fs env S _ o l ho]
  |some q =>
   obtain⟨j,c⟩:=q;rw[aH4 K O ops is ps i M n fs env S o l j c,h,aE4];have k:opv K n env M (.reg j)=(dA M n).getD j .hole:=rfl;have key:∀b:Bool,opv K n env M (.reg j)=.iv (.bool b)->dA ((j,.iv (.bool b))::M) n=dA M n:=by intro b d;refine aH3 ?_ B_;rw[<-aKv K n env M j];exact d
   simp only[fls,aAh,dZ,ho,dT];rw[<-k];cases hg:opv K n env M (.reg j)with
   |iv v =>
    cases v with
    |bool b =>
     have f:=key b hg;by_cases hw:b=c
     .subst hw;have e:(b==b)=true:=by cases b<;>rfl
      simp only[opG,e,vH];rw[<-aE3 K O i ((j,.iv (.bool b))::M) n fs env S o h l (X:=fun rs S=>aAh K O ops is ps rs fs env S) (fun M S=>rfl)];simp only[f];cases iZ K o env (dA M n) S with
      |some v=>rfl
      |none =>
       cases bP o (aX K env (dA M n)) S.length with
       |some q=>rfl
       |none=>rfl
     .have d:b=!c:=by cases b<;>cases c<;>simp at hw |-
      subst d;have e:((!c)==c)=false:=by cases c<;>rfl
      simp only[opG,e,qN];show er (aAh K O ops is ps ((dA M n).set i undef) fs env S)=_;rw[aE5,aV7,fls,<-eR,<-eR,f]
    |_=>rfl
   |tup vs =>
    cases vs with
    |nil =>show er (aAh K O ops is ps ((dA M n).set i undef) fs env S)=_;rw[aE5];rfl
    |cons a b=>rfl
   |_=>rfl
theorem bNo:phs K O ops [] M n fs env S=wbk K O ops 0 M n fs env S:=id rfl
def phO(o:Option aK)(i:Nat)(ops:List aK)(c fl:List Nat)(ps:List (Nat×List Nat×List Nat))(M:List (Nat×TV))(n:Nat)(fs:List Fr)(env:Env)(S:aA):Out (aV×Env×aA) :=
 match o with
 |some ⟨o,_,none⟩=>op1 K O o i (.ph ops c fl ps) M n fs env S
 |some ⟨o,_,some (j,want)⟩=>opG K O (opv K n env M (.reg j)) want j o i (.ph ops c fl ps) M n fs env S
 | none => .fail ""
@[congr] theorem phO_congr {o o':Option aK} (h:o=o') (c fl:List Nat):phO K O o i ops c fl ps M n fs env S=phO K O o' i ops c fl ps M n fs env S:=by rw[h]
theorem aNv(c a:Tc_)(o:TOp)(l:Option Nat):phO K O (some ⟨o,l,none⟩) i ops c a ps M n fs env S=op1 K O o i (.ph ops c a ps) M n fs env S:=id rfl
theorem aH5(c b:Tc_)(o:TOp)(l:Option Nat)(j:Nat)(a:Bool):phO K O (some ⟨o,l,some (j,a)⟩) i ops c b ps M n fs env S=opG K O (opv K n env M (.reg j)) a j o i (.ph ops c b ps) M n fs env S:=id rfl
def phX(c fl:List Nat)(rs:List TV)(env:Env)(S:aA):Out (aV×Env×aA) :=
 if nM K ops rs env S c then aAh K O ops fl ps rs fs env S else .fail ""
theorem aRn(c a:Tc_)(M:To_)(env:Env)(S:aA):er (phX K O ops ps fs c a (dA M n) env S)=iI K O (.ph ops c a ps) M n fs env S:=by simp only[phX,iI,chk,fls];split<;>rfl
theorem aYr(c a:Tc_)(rs:Tn_)(o:aK)(b:ops[i]?=some o):er (aRk K O ops ((i,c,a)::ps) rs fs env S)=er ((kC K O o i rs env S).bind fun r=>phX K O ops ps fs c a r.1 r.2.1 r.2.2):=by
 simp only[aRk,eA,b,Out.bind_assoc];rw[gF,gF];refine Out.bind_congr fun r=>?_;simp only[phX,aAh,aRk];split;.cases dZ K ops a r.1 r.2.1 r.2.2<;>rfl
 .rfl
theorem bGp(c b:Tc_):phs K O ops ((i,c,b)::ps) M n fs env S=phO K O (aAi ops i) i ops c b ps M n fs env S:=by
 unfold aAi;cases ho:ops[i]? with
 |none=>simp only[phs,aRk,eA,ho];rfl
 |some x =>
  obtain⟨o,l,g⟩:=x;simp only[phs];rw[aYr K O ops ps i fs env S c b _ _ ho];cases g with
  |none =>rw[aNv];simp only[op1,kC,dT,Out.bind_assoc,Out.bind,eR];rw[gF,gF];refine Out.bind_congr fun r=>?_;rw[aRn,<-aRn,wE]
  |some q =>obtain⟨j,a⟩:=q;rw[aH5];exact aV8 K O i M n fs env S [] o l j a (X:=fun rs env S=>phX K O ops ps fs c b rs env S) (fun M env S=>aRn K O ops ps n fs c b M env S) _ rfl
theorem bNp:wbk K O [] i M n fs env S=bk K O fs .normal env S:=id rfl
theorem bGq(o:TOp)(g:Option (Nat×Bool)):wbk K O (⟨o,none,g⟩::ops) i M n fs env S=wbk K O ops (i+1) M n fs env S:=id rfl
def wbV(v:TV)(j:Nat)(ops:List aK)(i:Nat)(M:List (Nat×TV))(n:Nat)(fs:List Fr)(env:Env)(S:aA):Out (aV×Env×aA) :=
 if bY v then .fail "" else wbk K O ops (i + 1) M n fs (env.set j v) S
@[congr] theorem wbV_congr {v v':TV} (h:v=v') (j:Nat):wbV K O v j ops i M n fs env S=wbV K O v' j ops i M n fs env S:=by rw[h]
theorem bGr(o:TOp)(j:Nat)(g:Option (Nat×Bool)):wbk K O (⟨o,some j,g⟩::ops) i M n fs env S=wbV K O (opv K n env M (.reg i)) j ops i M n fs env S:=by
 have e:opv K n env M (.reg i)=(dA M n).getD i .hole:=rfl;rw[e];simp only[wbk,aRj,fI,wbV];split
 .rename_i h;split at h;.cases h
  .rename_i e hl;simp only[hl,Y_,↓reduceIte,h]
 .rename_i h;split at h;.rename_i hl;simp only[hl,↓reduceIte,er]
  .rename_i e hl;simp only[hl,Y_,↓reduceIte,h]
theorem nA{v:TV}(h:bY v=false)(j:Nat):wbV K O v j ops i M n fs env S=wbk K O ops (i+1) M n fs (env.set j v) S:=by simp only[wbV,h,Y_,↓reduceIte]
theorem bS4(v:IV)(j:Nat):wbV K O (.iv v) j ops i M n fs env S=wbk K O ops (i+1) M n fs (env.set j (.iv v)) S:=nA K O ops i M n fs env S (id rfl) j
theorem bNq(a b c:Nat)(j:Nat):wbV K O (.ptr a b c) j ops i M n fs env S=wbk K O ops (i+1) M n fs (env.set j (.ptr a b c)) S:=nA K O ops i M n fs env S (id rfl) j
theorem bNr(a b c d e f:Nat)(j:Nat):wbV K O (.msl a b c d e f) j ops i M n fs env S=wbk K O ops (i+1) M n fs (env.set j (.msl a b c d e f)) S:=nA K O ops i M n fs env S (id rfl) j
theorem bNs(a:Nat)(l:Tp_)(j:Nat):wbV K O (.tsl a l) j ops i M n fs env S=wbk K O ops (i+1) M n fs (env.set j (.tsl a l)) S:=nA K O ops i M n fs env S (id rfl) j
theorem bNt(a:Nat)(j:Nat):wbV K O (.map a) j ops i M n fs env S=wbk K O ops (i+1) M n fs (env.set j (.map a)) S:=nA K O ops i M n fs env S (id rfl) j
theorem bS5(a:Nat)(j:Nat):wbV K O (.it a) j ops i M n fs env S=wbk K O ops (i+1) M n fs (env.set j (.it a)) S:=nA K O ops i M n fs env S (id rfl) j
theorem bS6(f:Nat)(a b:Tn_)(j:Nat):wbV K O (.fn f a b) j ops i M n fs env S=wbk K O ops (i+1) M n fs (env.set j (.fn f a b)) S:=nA K O ops i M n fs env S (id rfl) j
theorem bV4(a:Nat)(j:Nat):wbV K O (.yld a) j ops i M n fs env S=wbk K O ops (i+1) M n fs (env.set j (.yld a)) S:=nA K O ops i M n fs env S (id rfl) j
theorem bV5(c:Tn_)(j:Nat):wbV K O (.agg c) j ops i M n fs env S=wbk K O ops (i+1) M n fs (env.set j (.agg c)) S:=nA K O ops i M n fs env S (id rfl) j
theorem bV6(c:Tn_)(j:Nat):wbV K O (.tup c) j ops i M n fs env S=wbk K O ops (i+1) M n fs (env.set j (.tup c)) S:=nA K O ops i M n fs env S (id rfl) j
theorem bGs  (j:Nat):wbV K O (.hole) j ops i M n fs env S=wbk K O ops (i+1) M n fs (env.set j (.hole)) S:=nA K O ops i M n fs env S (id rfl) j
theorem bV7(a:Nat)(l:Tp_)(b:Nat)(j:Nat):wbV K O (.rsv a l b) j ops i M n fs env S=wbk K O ops (i+1) M n fs (env.set j (.rsv a l b)) S:=nA K O ops i M n fs env S (id rfl) j
end
end
end Go.TM
