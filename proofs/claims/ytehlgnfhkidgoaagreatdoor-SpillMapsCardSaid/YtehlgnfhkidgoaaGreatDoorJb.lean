/- Some texts of the proof, joined. Condition: none. -/
import Derived.Test.YtehlgnfhkidgoaaGreatDoorJa
set_option maxRecDepth 100000
set_option maxHeartbeats 64000000
set_option linter.unusedSimpArgs false
set_option linter.unusedVariables false
namespace Go.Proofs.YtehlgnfhkidgoaaGreatDoor
open Go Go.TM
theorem qL(f:VF):kY f=[.int .i64 f.fn,.int .i64 f.regs,.int .i64 f.sl,.int .i64 f.nd,.int .i64 f.pr,.bool f.rs,.sl f.ti (f.ins.map aJ)]:=rfl
theorem bKr(f:VF):(kY f).map TV.iv=[j_ f.fn,j_ f.regs,j_ f.sl,j_ f.nd,j_ f.pr,.iv (.bool f.rs),.iv (.sl f.ti (f.ins.map aJ))]:=rfl
theorem bCl(x:TV):∀n,TM.bC (List.replicate n [x])=cF n fun _=>x
 |0=>rfl
 |n+1=>by have:=bCl x n;rw[List.replicate_succ,show TM.bC ([x]::List.replicate n [x])=x::TM.bC (List.replicate n [x]) from rfl,this];unfold cF;rw[List.map_const',List.map_const',F8,F8,List.replicate_succ]
theorem bT6{bytes m n:Nat}(b:eA n bytes=true):mkV [.sl .nil []] bytes m (j_ n) (j_ n)=some (.msl m 0 0 n n 1,.cells 0 false (cF n fun q=>if q<0 then .msl 0 0 0 0 0 1 else k_)):=by
 have a:=bCl k_ n;have e:(fun q:Nat=>if q<0 then TV.msl 0 0 0 0 0 1 else k_)=fun _=>k_:=by funext q;rw[I_ (R4 q)]
 rw[e];simp[mkV,TM.fB,b,a]
theorem aGy{l:List VI}{L k:Int}(h:dL l L=some k):0<=k/\k<l.length:=by unfold dL at h;rw[G_]at h;obtain⟨i,a,rfl⟩:=h;rw[F4]at a;obtain⟨b,_⟩:=a;omega
theorem bCm{lb:Td_}{l:List VI}(a:0<l.length)(h:∀L,dK lb L=dL l L):aL0 lb l:=by
 intro i b _;unfold lR;rw[h];cases e:dL l (l.getD i default).lb with
 |none=>simp;omega
 |some k=>have:=aGy e;simpa using this
theorem bQn{f:VF}(h1:32<=f.regs)(P:f.regs<=1000000)(J:f.ins.length<=1000000)(h0:0<f.ins.length)(C:∀x∈f.ins,x.us.length<=999990/\cB x.tu x.us)(g:TM.Pure K 20 [.iv (.agg (kY f))] (j_ 0)): ∃(S':aA) (lb:Td_) (p s:Th_) (I O U D:Te_),(lim K).call 31 [.iv (.agg (kY f))] []=.ret (.tup [.ptr 3 65 0,j_ 0],S')/\FlS S' f lb f.ins.length ((f.regs+63) / 64) p s I O/\aI0 lb f.ins U D I /\(∀L,dK lb L=dL f.ins L)/\(∀j r,j<f.ins.length->(bit (U j) r=true↔(r:Int)∈bF (f.ins.getD j default)/\r<f.regs))/\(∀j r,j<f.ins.length->(bit (D j) r=true↔(r:Int)∈aY (f.ins.getD j default)/\r<f.regs)) /\∀j,j<f.ins.length->(∀r,bit (I j) r=eqn lb f.ins U D I j r)/\∀r,bit (O j) r=aBv lb f.ins I j r:=by
 generalize hn':f.ins.length=n at *
 generalize hm:(f.regs+63) / 64=m;have T:=fun k=>bT6 (m:=k) (bytes:=24) (bR (n:=n) (b:=24) A_);have Z:FP [.mp (mpR kC []) 0,.cells 0 false (cF n fun q=>if q<0 then .msl 0 0 0 0 0 1 else k_),.cells 0 false (cF n fun q=>if q<0 then .msl 0 0 0 0 0 1 else k_),flB f n,.cells 0 false (cF n fun q=>if q<0 then .msl 0 0 0 0 0 1 else k_),.cells 0 false (cF n fun q=>if q<0 then .msl 0 0 0 0 0 1 else k_)] f [] n m 0 (fun _=>0) (fun _=>0) (fun _=>0) (fun _=>0) (fun _=>[]) (fun _=>[]) (fun _=>[]) (fun _=>[]):=by
  have d:∀q:Nat,(if q<0 then TV.msl 0 0 0 m m 1 else k_)=(if q<0 then TV.msl 0 0 0 0 0 1 else k_):=fun q=>by rw[I_ (R4 q),I_ (R4 q)]
  refine⟨⟨0,rfl⟩,fun L=>rfl,⟨?_,by omega,by omega,by omega⟩,⟨?_,by omega,by omega,by omega⟩,⟨?_,by omega,by omega,by omega⟩,⟨?_,by omega,by omega,by omega⟩,rfl,by simp,by omega,by omega,by omega⟩<;>(simp only[d];rfl)
 obtain⟨S1,lb,p,s,ua,da,I,O,U,D,W,t,z,E,u,G,l,a⟩:=aT7 hm P J hn' C (.iv (.agg (kY f))) (.iv .nilp) (j_ 0) (j_ 0) u_ u_ z_ u_ u_ n 0 _ _ _ _ _ _ _ _ _ _ u_ u_ u_ u_ u_ u_ A_ Z;have c:∀L,dK lb L=dL f.ins L:=fun L=>by rw[a.lbs L,K5 A_]
 have F:=bCm A_ c;have N:∀j r,bit (if j<n then I j else []) r=false:=fun j r=>by
  split;.exact a.zer j r (by assumption)
  .simp[bit]
 have w:FlS S1 f lb n m p s (fun j=>if j<n then I j else []) O :=
  ⟨a.lab,⟨a.inn.done.row,a.inn.done.ge,fun i h=>by rw[K_ h];exact a.inn.set i h,fun i h=>by rw[K_ h];exact a.inn.ok i h⟩,a.out.done,a.flw,a.len⟩
 have Q:aI0 lb f.ins U D (fun j=>if j<n then I j else []):=⟨(fun i r o=>by rw[N]at o;cases o),(fun i r o=>by rw[N]at o;cases o)⟩
 obtain⟨S2,v,y,I2,O2,h2,h4,Y,l2,A,_,_,H,V⟩:=aT6 hm P J hn' F (.iv (.agg (kY f))) (.lb ((kY f).map .iv)) (.iv .nilp) (j_ 0) (j_ 0) W t z E z_ (.iv (.sl f.ti (f.ins.map aJ))) (j_ n) (j_ n) u G _ S1 p s _ O u_ u_ u_ (O_ _) w a.us.done a.ds.done Q;refine⟨S2,lb,v,y,I2,O2,U,D,aI K _ (fn:=t31) rfl rfl ?_,A,H,c,a.use,a.dfn,V⟩;rw[n0_]at l;have e:(f.ins.map aJ).length=n:=by rw[L_,hn']
 unfold flB at l;rw[show mpR kC []=[] from rfl]at l;rw[bKr,qL]at l l2;rw[qL]at g;rw[qL];generalize hR:aG.cells 0 false (cF n fun q=>if q<0 then .msl 0 0 0 0 0 1 else k_)=R at *
 simp(disch:=omega)only[t31,go_sem,aD g,e,T];rw[l];simp(disch:=omega)only[go_sem];rw[l2];simp(disch:=omega)only[go_sem]
theorem aL4(i:Nat)(l:M_):cellsOf (acc i l)=[acc i l]:=by unfold acc;split<;>rfl
theorem aP7(i:Nat)(l:M_):bJ (acc i l)=false:=by unfold acc;split<;>rfl
attribute [go_sem] aL4 aP7
def gI(l:List (List IV))(i:Nat)(S:aA):Nat:=if l=[]then S.length else i
def gS1(w el:Nat)(l:List (List IV))(i:Nat)(S:aA):aA:=if l=[]then S++[.tok 1 w el]else S.set i (.tok (l.length+1) w el)
def At(w el:Nat)(l:List (List IV))(i:Nat)(S:aA):Prop:=l≠[]->S[i]?=some (.tok l.length w el)
theorem aI2{w el:Nat}{l:M_}{i:Nat}{S:aA}(h:At w el l i S)(c:Tq_):At w el (l++[c]) (gI l i S) (gS1 w el l i S):=by
 intro _;unfold gI gS1;by_cases h0:l=[]
 .rw[K_ h0,K_ h0,h0];simp
 .rw[I_ h0,I_ h0,aM (aN (h h0))];simp
theorem bKs{w el b:Nat}{l:M_}{i:Nat}{S:aA}{t:Tag}{c:Tq_}(h:At w el l i S)(j:c.length=w/\c.all mZ=true)(e:jE w l)(d:eA (l.length+1) b=true): bA false w b el S (acc i l) (.iv (.sl t [c]))=some (acc (gI l i S) (l++[c]),gS1 w el l i S):=by
 have f:rO S (.iv (.sl t [c])) [c]:=rO.sl ..;have a:jE w [c]:=by intro y g;simp at g;subst g;exact j
 by_cases h0:l=[]
 .subst h0;rw[mB,aLi C_ f a e B_ d,List.nil_append,aO7];simp[gI,gS1]
 .rw[lO _ h0,aFl f a e (h h0) d,lO _ B_];simp[gI,gS1,h0]
theorem nQ{w el:Nat}{l:M_}{i:Nat}{S:aA}(h:At w el l i S){q:Nat}{b:aG}(a:S[q]?=some b)(c:∀n w el,b≠.tok n w el):(gS1 w el l i S)[q]?=some b:=by
 unfold gS1;by_cases h0:l=[]
 .rw[K_ h0];exact aR a _
 .rw[I_ h0,aB];.exact a
  .rintro rfl;rw[h h0]at a;exact c _ _ _ (D6 a).symm
def aC8(S:aA)(j:Nat)(W:List Nat):Prop:=S[j]?=some (.cells 0 false (W.map uI))\/S[j]?=some (.frz 0 (W.map uV))
theorem bPn(W:Tc_):W.map uI=(W.map uV).map .iv:=by rw[L7];rfl
theorem aWw{S:aA}{j:Nat}{W:Tc_}(h:aC8 S j W)(cap:Nat):cH S (.msl j 0 0 W.length cap 1)=some (TM.one uV W):=by
 have e3:∀L:List Nat,cP 1 L.length (L.map uV)=TM.one uV L:=by
  intro L;induction L with
  |nil=>rfl
  |cons a r ih=>simp only[Q_,List.length_cons,cP,List.take_succ_cons,List.take_zero,J5,C4,ih];rfl
 rcases h with h|h
 .have b:sub (W.map uI) 0 (W.length*1)=some (W.map uI):=mC B_;have e2:toIVs (W.map uI)=some (W.map uV):=by rw[bPn,fM]
  simp only[cH,h,ne_eq,C9,↓reduceIte,b,e2,Option.map_some,e3]
 .have b:sub (W.map uV) 0 (W.length*1)=some (W.map uV):=mC B_;simp only[cH,h,ne_eq,C9,↓reduceIte,b,Option.map_some,e3]
theorem aWx{S:aA}{j:Nat}{W:Tc_}(h:aC8 S j W)(cap:Nat):jP S (.msl j 0 0 W.length cap 1)=some (.iv (.sl .no (TM.one uV W))):=by show((match cH S (.msl j 0 0 W.length cap 1)with|some l=>some (IV.sl .no l)|none=>none).map TV.iv)=_;rw[aWw h];rfl
theorem aP8{S:aA}{j:Nat}{W:Tc_}(h:aC8 S j W)(v o n c w:Nat):∃S',cJ S [.msl j v o n c w]=some S'/\S'.length=S.length/\(∀q,q≠j->S'[q]?=S[q]?)/\S'[j]?=some (.frz 0 (W.map uV)):=by
 rcases h with h|h;.refine⟨S.set j (.frz 0 (W.map uV)),?_,by simp,fun q a=>aB (B0 a) _,aM (aN h) _⟩;simp only[cJ,lY,h,bPn,fM,Option.map_some]
 .refine⟨S,?_,rfl,fun q _=>rfl,h⟩;simp only[cJ,lY,h]
def bCn(I:Nat->List Nat)(q:Nat):List IV:=[.sl (jL (aZ (wlI 0 (I q)))) (TM.one (.int .i64) (wlI 0 (I q)))]
def bK(I:Nat->List Nat)(i:Nat):List (List IV):=(List.range i).map (bCn I)
theorem uK(I:Te_)(i:Nat):(bK I i).length=i:=by simp[bK]
theorem aC9(I:Te_)(i:Nat):jE 1 (bK I i):=by intro y a;obtain⟨q,_,rfl⟩:=A0.1 a;exact⟨rfl,rfl⟩
theorem bCo{j n m:Nat}(W:n<=1000000)(U:m<=100000){g:Th_}{I:Te_}(r:∀i,i<n->WOK m (I i))(w:∀i,i<n->g i≠j):∀(k i:Nat) (S:aA) (jo:Nat) (x2 x6:TV),i+k=n ->S[j]?=some (.cells 0 false (cF n fun i=>.msl (g i) 0 0 m m 1))->(∀q,q<n->aC8 S (g q) (I q))->At 1 26 (bK I i) jo S ->∃(S':aA) (l:Nat) (N P:TV),lp' (lim K) t32L0 [.msl j 0 0 n n 1,acc jo (bK I i),x2,.msl j 0 0 n n 1,j_ n,j_ i,x6] S = .ret (.exit 0,[.msl j 0 0 n n 1,acc l (bK I n),N,.msl j 0 0 n n 1,j_ n,j_ n,P],S')
 |0,i,S,jo,x2,x6,h,hr,hs,ha=>by obtain rfl:i=n:=A_;refine⟨S,jo,x2,z_,aE K _ _ t32L0.eq_1 ?_⟩;simp(disch:=omega)only[go_sem]
 |k+1,i,S,jo,x2,x6,h,hr,hs,ha=>by
  have d:i<n:=A_;have Q:=r i d;have i1:=iO (j:=j) (v:=0) (cap:=n) d;have V:=dS (fun i=>TV.msl (g i) 0 0 m m 1) d;have y:=bQg .no (I i) Q.lt (by rw[Q.len];exact U);have o:=aWx (hs i d) m;rw[Q.len]at o;obtain⟨S1,Y,f2,L,f4⟩:=aP8 (hs i d) 0 0 m m 1;have R:S1[j]?=some (.cells 0 false (cF n fun i=>.msl (g i) 0 0 m m 1)):=by rw[L j (B0 (w i d))];exact hr
  have H:∀q,q<n->aC8 S1 (g q) (I q):=fun q x=>by
   by_cases e:g q=g i
   .have u:=hs q x;have E:=hs i d;rw[e]at u |-;right;rw[f4];have:(I q).map uV=(I i).map uV:=by
     have F:∀A B:List Nat,A.map uI=B.map uI->A.map uV=B.map uV:=fun A B G=>by have:A=B:=(List.map_inj_right (fun a b p=>by simp[uI]at p;exact_mod_cast p)).1 G;rw[this]
     rcases u with a|a<;>rcases E with b|b<;>rw[a]at b<;>simp at b;.exact F _ _ (by simpa using b)
     .simpa using b
    rw[this]
   .unfold aC8;rw[L _ e];exact hs q x
  have f:At 1 26 (bK I i) jo S1:=fun Z=>by
   have:=ha Z;rw[L jo];.exact this
   .rintro rfl;rcases hs i d with b|b<;>rw[this]at b<;>simp at b
  have C:=bKs (b:=24) (c:=bCn I i) (t:=.full) f ⟨rfl,rfl⟩ (aC9 I i) (bR (by rw[uK];omega));have J:bK I i++[bCn I i]=bK I (i+1):=by simp[bK,R2]
  have s:=aI2 f (bCn I i);rw[J]at C s;have D:=nQ f R B_;have z:∀q,q<n->aC8 (gS1 1 26 (bK I i) jo S1) (g q) (I q):=fun q x=>by
   rcases H q x with b|b;.exact .inl (nQ f b B_)
   .exact .inr (nQ f b B_)
  obtain⟨S',l,N,P,T⟩:=bCo W U r w k (i+1) _ _ (.msl (g i) 0 0 m m 1) e_ A_ D z s;rw[show((i+1:Nat):Int)=(i:Int)+1 by omega]at T;refine⟨S',l,N,P,aE K _ _ t32L0.eq_1 ?_⟩;unfold bCn at C;simp(disch:=omega)only[go_sem,i1,hr,V,o,aD y,Y,C,aC];exact X_ er T
theorem bCp{S:aA}{j n m:Nat}(d:n<=1000000)(b:m<=100000){f:Th_}{I:Te_}(h:RS S j n m f I)(o:j<6):∃(S':aA) (jo:Nat),(lim K).call 32 [.msl j 0 0 n n 1] S=.ret (acc jo (bK I n),S'):=by obtain⟨S',jo,k,l,a⟩:=bCo d b h.ok (fun i e=>by have:=h.ge i e;omega) n 0 S 0 u_ u_ A_ h.row (fun q g=>.inl (h.set q g)) (fun c=>absurd rfl c);rw[n0_,show bK I 0=[] from rfl,mB]at a;refine⟨S',jo,aI K S (fn:=t32) rfl rfl ?_⟩;simp(disch:=omega)only[t32,go_sem];rw[a];simp(disch:=omega)only[go_sem]
theorem aI3(S:aA)(jo:Nat)(l:M_)(n:Int):TM.resolve S (.tup [acc jo l,j_ n])=some (.tup [.iv (.sl (jL l) l),j_ n]):=by rw[aBo];simp only[vL,aIf];rfl
theorem bT7{f:VF}(d:32<=f.regs)(s:f.regs<=1000000)(l:f.ins.length<=1000000)(p:0<f.ins.length)(e:∀x∈f.ins,x.us.length<=999990/\cB x.tu x.us)(c:TM.Pure K 20 [.iv (.agg (kY f))] (j_ 0)): ∃(lb:Td_) (I O U D:Te_),TM.Pure K 21 [.iv (.agg (kY f))] (.tup [.iv (.sl (jL (bK I f.ins.length)) (bK I f.ins.length)),j_ 0]) /\TM.Pure K 13 [.iv (.agg (kY f))] (.tup [.iv (.sl (jL (bK O f.ins.length)) (bK O f.ins.length)),j_ 0])/\aI0 lb f.ins U D I /\(∀i,i<f.ins.length->WOK ((f.regs+63) / 64) (I i)/\WOK ((f.regs+63) / 64) (O i)) /\(∀L,dK lb L=dL f.ins L)/\(∀j r,j<f.ins.length->(bit (U j) r=true↔(r:Int)∈bF (f.ins.getD j default)/\r<f.regs))/\(∀j r,j<f.ins.length->(bit (D j) r=true↔(r:Int)∈aY (f.ins.getD j default)/\r<f.regs)) /\∀j,j<f.ins.length->(∀r,bit (I j) r=eqn lb f.ins U D I j r)/\∀r,bit (O j) r=aBv lb f.ins I j r:=by
 obtain⟨S,lb,w,y,I,O,U,D,a,b,k,t,o,h3,v⟩:=bQn d s l p e c;obtain⟨S1,u,m⟩:=bCp A_ A_ b.inn A_;obtain⟨S2,q,e2⟩:=bCp A_ A_ b.out A_;have h:=b.flw;refine⟨lb,I,O,U,D,?_,?_,k,fun i g=>⟨b.inn.ok i g,b.out.ok i g⟩,t,o,h3,v⟩
 .refine TM.gQ (S:=S1) (aI K _ (fn:=t21) rfl rfl ?_) (aI3 S1 u _ 0);rw[qL]at a |-;generalize f.ins.length=n at *
  simp(disch:=omega)only[t21,go_sem,a,h,m]
 .refine TM.gQ (S:=S2) (aI K _ (fn:=t13) rfl rfl ?_) (aI3 S2 q _ 0);rw[qL]at a |-;generalize f.ins.length=n at *
  simp(disch:=omega)only[t13,go_sem,a,h,e2]
end Go.Proofs.YtehlgnfhkidgoaaGreatDoor
