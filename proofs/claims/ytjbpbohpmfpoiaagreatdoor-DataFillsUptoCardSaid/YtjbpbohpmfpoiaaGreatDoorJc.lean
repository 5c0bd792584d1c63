/- Some texts of the proof, joined. Condition: none. -/
import Derived.Test.YtjbpbohpmfpoiaaGreatDoorJb
set_option maxRecDepth 100000
set_option maxHeartbeats 64000000
set_option linter.unusedSimpArgs false
set_option linter.unusedVariables false
namespace Go.Proofs.YtjbpbohpmfpoiaaGreatDoor
open Go Go.TM
theorem aE6 (l:List Dt):eR 5 (aY l):=by
 rw[eM]
 intro y hy
 obtain⟨x,_,rfl⟩:=List.mem_map.1 hy
 exact aB9 x
theorem aA8 (a b:List Dt):aY (a++b)=aY a++aY b:=by rw[eM,eM,eM,List.map_append]
theorem aE7 {l:List Dt}:aY l≠[]↔l≠[]:=by rw[eM]; cases l<;>simp
theorem Gl.rowD {S:aA}{ys:List Dt}{jw:Nat}(g:Gl 0 S 5 37 (aY ys) jw)(d:Dt)(hl:ys.length≤10000000):∃jw' S',bR false 5 64 37 S (acc jw (aY ys)) (.iv (.sl .full [cJ d]))=some (acc jw' (aY (ys++[d])),S')∧Gl 0 S' 5 37 (aY (ys++[d])) jw'∧S.length≤S'.length∧(∀q B,S[q]? = some B→(ys≠[]→q≠jw)→S'[q]? = some B):=by
 have e1:aY [d]=[cJ d]:=by rw[aY,aY]
 obtain⟨jw',S',ap,gr⟩:=g.more (x:=.iv (.sl .full (aY [d]))) (iL.sl ..) (aE6 [d]) (aE6 ys) (b:=64) (eS (by rw[bN,bN,List.length_singleton]; omega)) (Nat.zero_le _)
 rw[←aA8]at ap
 have gg:=gr.gl
 rw[←aA8]at gg
 rw[e1]at ap
 exact⟨jw',S',ap,gg,gr.len,fun q B hq hn=>gr.old q B hq fun h=>hn (aE7.1 h)⟩
theorem aYe {b:Int}{σ:Sg}(h:Gd b σ){x:Vv}{t:List UInt8}(hx:aM1 σ x t):t.length≤4*σ.mem.length:=by
 obtain⟨hok,hne,i,k,rfl,hi,hk⟩:=hx
 have h1:=bDj h hk
 have h2:=(aR9 hok hne).2
 have h3:=aCk (chs t) (aCg t)
 rw[h2]at h3
 have h4:(chV t).length=(chs t).length:=by rw[rK,List.length_map]
 dsimp only at h1
 omega
def lbN:TV:=.lb [.iv (.int .i64 0),.iv (.int .i64 0),.iv (.str []),.iv (.sl .nil []),.iv (.int .i64 0)]
theorem aSa {b:Int}{σ:Sg}{tg:Tag}(hR:RdC b σ tg)(hml:σ.mem.length≤200000)(j:Nat):∀(l:List Vv) (ts:List (List UInt8)) (v:Vv) (done:List Dt) (S:aA) (ja:Nat) (p:Int) (x5 x6 x7 x8 x9 x10 x11:TV),lC σ v l→iN σ l ts→S[j]? = some (rdB b tg σ.mem p)→Gl 0 S 5 37 (aY done) ja→0≤p→p+2*l.length<1048576→done.length+l.length≤1000000 →
  ∃S' y1 y4 y5 y6 y7 y8 y9 y10 y11 p',lp' (lim K) t45L0 [.ptr j 77 0,.iv (.int .u32 (wd σ.ad v)),.iv (.int .i64 0),lbN,acc ja (aY done),x5,x6,x7,x8,x9,x10,x11] S=.ret (.ret,[.ptr j 77 0,y1,.iv (.int .i64 0),.lb ((cJ (lsD (done++ts.map dR) dF)).map TV.iv),y4,y5,y6,y7,y8,y9,y10,y11],S')∧S'[j]? = some (rdB b tg σ.mem p')
 | [],ts,v,done,S,ja,p,x5,x6,x7,x8,x9,x10,x11,hc,hs,h,hg,hp,hpl,hdl=>by
  cases hc
  cases hs
  have c30:=aLq h ⟨hp,by simp at hpl; omega⟩ 0 (by omega)
  obtain⟨S',c70,hk⟩:=aYb ja (l:=done) (by simp at hdl; omega) dF (S.set j (rdB b tg σ.mem (p+1)))
  have f1:IntKind.u32.wrap (fP 32 38 3)=2:=eN (by omega)
  have hw:wd σ.ad ⟨4,0⟩=38:=rfl
  rw[List.map_nil,List.append_nil,hw]
  have eln:=bC (lsD done dF)
  rw[aCl]at c30 c70
  refine⟨S',.iv (.int .u32 38),acc ja (aY done),.iv (.int .i64 (-1)),.iv (.sl .nil []),.iv (.bool false),.iv (.bool false),.iv (.bool true),x10,x11,p+1,aP K _ _ t45L0.eq_1 ?_,hk.get j _ (by simp) (cX (cA h) _)⟩
  rw[eln]at c70 ⊢
  unfold rdB lbN at *
  clear hR hk
  simp (config := { maxSteps := 4000000 }) (disch:=omega) only[go_sem,f1,h,c30,c70,List.map_cons,List.map_nil,gP,fU]
 | x::l,ts,v,done,S,ja,p,x5,x6,x7,x8,x9,x10,x11,hc,hs,h,hg,hp,hpl,hdl=>by
  cases hc with
  | @cons n _ v2 _ hn hc2 =>
  cases hs with
  | @cons _ t _ ts2 hx hs2 =>
  rw[List.length_cons]at hpl hdl
  obtain⟨hnl,hne⟩:=List.getElem?_eq_some_iff.1 hn
  obtain⟨g1,c44⟩:=wN hR hnl h
  have eb1:boO σ.ad ⟨0,[x,v2],0⟩=[wd σ.ad x,wd σ.ad v2]:=by unfold boO prO; rw[if_neg (by simp)]; rfl
  rw[hne,eb1]at c44
  have c42:=aCj h (by omega) 0 (by omega)
  have h2:(S.set j (rdB b tg σ.mem (p+1)))[j]? = some (rdB b tg σ.mem (p+1)):=cX (cA h) _
  have htl:=aYe hR.gd hx
  obtain⟨S3,c30,h3,hk3⟩:=aYd hR hx (by omega) h2 (by omega) 1 (by omega)
  have hg3:Gl 0 S3 5 37 (aY done) ja:=⟨fun hn0=>by
   have ht:=hg.tok hn0
   have hj:ja≠j:=fun e=>by rw[e,h]at ht; unfold rdB at ht; cases ht
   refine hk3.get ja _ (by simp[hj]) ?_
   rw[bD (Ne.symm hj)]; exact ht,fun _=>Nat.zero_le _⟩
  obtain⟨ja4,S4,ap,hg4,hl4,ho4⟩:=hg3.rowD (dR t) (by omega)
  have h4:S4[j]? = some (rdB b tg σ.mem (p+1+1)):=ho4 _ _ h3 fun hn0 e=>by
   have ht:=hg3.tok (aE7.2 hn0)
   rw[←e,h3]at ht; unfold rdB at ht; cases ht
  obtain⟨S',y1,y4,y5,y6,y7,y8,y9,y10,y11,p',ih,h'⟩:=aSa hR hml j l ts2 v2 (done++[dR t]) S4 ja4 (p+1+1) (.iv (.int .i64 0)) (.iv (.sl g1 (bE [wd σ.ad x,wd σ.ad v2]))) (.iv (.bool true)) (.iv (.bool false)) (.iv (.bool false)) (.iv (.bool false)) (.iv (.bool false)) hc2 hs2 h4 hg4 (by omega) (by omega) (by rw[List.length_append,List.length_singleton]; omega)
  rw[List.append_assoc,List.singleton_append]at ih
  rw[List.map_cons]
  have hwx:=wd7 hR hnl
  have hpl2:=mR hR.gd hnl
  have hsp:=kZ σ.L[n]
  have hb:=hR.b0
  have f1:IntKind.u32.wrap (fP 32 (wd σ.ad ⟨7,n⟩) 3)=1:=by rw[hwx,eN (by omega)]; omega
  have hi0:indexAddrS 1 (.iv (.sl g1 (bE [wd σ.ad x,wd σ.ad v2]))) 0=some (.iv (.cp [.int .u32 (wd σ.ad x)])):=rfl
  have hi1:indexAddrS 1 (.iv (.sl g1 (bE [wd σ.ad x,wd σ.ad v2]))) 1=some (.iv (.cp [.int .u32 (wd σ.ad v2)])):=rfl
  have hl2:(bE [wd σ.ad x,wd σ.ad v2]).length=2:=rfl
  refine⟨S',y1,y4,y5,y6,y7,y8,y9,y10,y11,p',aP K _ _ t45L0.eq_1 ?_,h'⟩
  rw[aCm]at c30 ap
  generalize (cJ (lsD (done++dR t::ts2.map dR) dF)).map TV.iv=RR at *
  unfold rdB at *
  generalize wd σ.ad ⟨7,(n:Int)⟩=w at *
  generalize wd σ.ad x=w2 at *
  generalize wd σ.ad v2=w3 at *
  generalize aY (done++[dR t])=D2 at *
  clear hR hn hne hnl hpl2 hsp hwx hk3 hg hg3 hg4 ho4 hc2 hs2 hx eb1 h'
  simp (config := { maxSteps := 4000000 }) (disch:=omega) only[go_sem,f1,h,h2,h3,c44,c42,hl2,hi0,hi1,c30,ap,Int.zero_add,aE]
  exact congrArg er ih
theorem aYf {b:Int}{σ:Sg}{tg:Tag}(hR:RdC b σ tg)(hml:σ.mem.length≤200000)(j:Nat){l:List Vv}{ts:List (List UInt8)}{v:Vv}(hc:lC σ v l)(hs:iN σ l ts)(hl:l.length≤100000){S:aA}{p:Int}(h:S[j]? = some (rdB b tg σ.mem p))(hp:0≤p∧p≤1000) :
  ∃S' p',(lim K).call 45 [.ptr j 77 0,.iv (.int .u32 (wd σ.ad v)),.iv (.int .i64 0)] S=.ret (.iv (.agg (cJ (lsD (ts.map dR) dF))),S')∧S'[j]? = some (rdB b tg σ.mem p'):=by
 obtain⟨S',y1,y4,y5,y6,y7,y8,y9,y10,y11,p',lp,h'⟩:=aSa hR hml j l ts v [] S 0 p u_ u_ u_ u_ u_ u_ u_ hc hs h (Gl.nil ..) hp.1 (by omega) (by simp; omega)
 rw[List.nil_append,show aY []=[] from by rw[aY],fL]at lp
 refine⟨S',p',aD K _ (fn:=t45) rfl rfl ?_,h'⟩
 have eln:=bC (lsD (ts.map dR) dF)
 rw[eln]at lp ⊢
 unfold lbN at lp
 rw[List.map_cons,List.map_cons,List.map_cons,List.map_cons,List.map_cons,List.map_nil]at lp
 simp (config := { maxSteps := 4000000 }) (disch:=omega) only[t45,go_sem]
 rw[lp]
 simp (config := { maxSteps := 4000000 }) (disch:=omega) only[go_sem]
theorem aYg {b:Int}{σ:Sg}{tg:Tag}(hR:RdC b σ tg)(hml:σ.mem.length≤200000){l:List Vv}{ts:List (List UInt8)}{v:Vv}(hc:lC σ v l)(hs:iN σ l ts)(hl:l.length≤100000) :
  TM.Pure K 11 [.iv (.sl tg (bE σ.mem)),.iv (.int .i64 b),.iv (.int .u32 (wd σ.ad v))] (.tup [.iv (.agg (cJ (lsD (ts.map dR) dF))),.iv (.int .i64 0)]):=by
 have h0:([rdB b tg σ.mem 0]:aA)[0]? = some (rdB b tg σ.mem 0):=rfl
 obtain⟨S1,p1,c30,h1⟩:∃S1 p1,(lim K).call 30 [.ptr 0 77 0,.iv (.int .u32 (wd σ.ad v)),.iv (.int .i64 0)] [rdB b tg σ.mem 0]=.ret (.iv (.agg (cJ (lsD (ts.map dR) dF))),S1)∧S1[0]? = some (rdB b tg σ.mem p1):=by
  cases hc with
  | nil =>
   cases hs
   have c:=aLq h0 (by omega) 0 (by omega)
   exact⟨_,0+1,c,rfl⟩
  | @cons n x v2 l2 hn hc2 =>
   obtain⟨S2,p2,c45,h2⟩:=aYf hR hml 0 (lC.cons hn hc2) hs hl h0 (by omega)
   obtain⟨hnl,hne⟩:=List.getElem?_eq_some_iff.1 hn
   obtain⟨g1,c44⟩:=wN hR hnl h0
   rw[hne]at c44
   have hwx:=wd7 hR hnl
   have hpl2:=mR hR.gd hnl
   have hsp:=kZ σ.L[n]
   have hb:=hR.b0
   have f1:IntKind.u32.wrap (fP 32 (wd σ.ad ⟨7,n⟩) 3)=1:=by rw[hwx,eN (by omega)]; omega
   refine⟨S2,p2,aD K _ (fn:=t30) rfl rfl ?_,h2⟩
   have eln:=bC (lsD (ts.map dR) dF)
   rw[eln]at c45 ⊢
   unfold rdB at *
   generalize wd σ.ad ⟨7,(n:Int)⟩=w at *
   clear hR hn hne hnl hpl2 hsp hwx hs hc2 eln
   simp (config := { maxSteps := 4000000 }) (disch:=omega) only[t30,go_sem,f1,h0,c44,c45]
 have eln:=bC (lsD (ts.map dR) dF)
 refine bP t11 rfl rfl ?_
 rw[eln]at c30 ⊢
 unfold rdB at *
 generalize wd σ.ad v=w at *
 clear hR hc hs eln
 simp (config := { maxSteps := 4000000 }) (disch:=omega) only[t11,go_sem,c30,h1]
def tsW (l:List (List UInt8)):Nat:=(l.map fun t=>t.length+3).sum
def syW (σ:Sg):Nat:=tsW (σ.sy.map (·.1))
theorem aYh (b z:Int)(σ:Sg):syW (qK b z σ).2=syW σ:=by unfold qK; split<;>rfl
theorem aYi (b:Int)(t:List UInt8)(σ:Sg):syW (qL b t σ).2≤syW σ+t.length+3:=by
 cases hf:σ.sy.find? (fun x=>x.1==t) with
 | some x=>rw[lY hf]; dsimp only; omega
 | none =>
  rw[lX hf]
  show tsW ((σ.sy++[(t,(push b σ ⟨4,chV t,0⟩).2.L.length)]).map (·.1))≤_
  unfold syW tsW
  rw[List.map_append,List.map_append,List.sum_append]
  simp; omega
theorem aLr (b:Int):∀(l:List Vv) (e:Vv) (σ:Sg),syW (fE b l e σ).2=syW σ
 | [],e,σ=>by rw[fE]
 | v::r,e,σ=>by rw[fE,aLr b r]; rfl
mutual
theorem aLs (b:Int):∀(n:Nat) (d:Dt) (σ:Sg),syW (fM b n d σ).2≤syW σ+3*d.w
 | 0,d,σ=>by rw[fM]; dsimp only; omega
 | n+1,d,σ=>by
  have hw:=Dt.w_eq d
  rw[fM]
  split
  ·dsimp only; omega
  split
  ·rw[aYh]; omega
  split
  ·dsimp only; omega
  split
  ·show syW σ≤_; omega
  split
  ·have:=aYi b d.t σ; omega
  split
  ·show syW σ≤_; omega
  split
  ·have:=rO b n d.ks σ
   show syW (cG b n d.ks σ).2≤_; omega
  split
  ·have h0:=oY d.w d (Nat.le_refl _)
   have h1:=rO b n (cE d.w d).1 σ
   have h2:=aLs b n (cE d.w d).2 (cG b n (cE d.w d).1 σ).2
   dsimp only
   rw[aLr]
   omega
  split
  ·dsimp only; omega
  split
  ·dsimp only; omega
  ·dsimp only; omega
theorem rO (b:Int):∀(n:Nat) (l:List Dt) (σ:Sg),syW (cG b n l σ).2≤syW σ+3*Dt.ws l
 | 0,l,σ=>by rw[cG]; dsimp only; omega
 | n+1,[],σ=>by rw[cG]; dsimp only; omega
 | n+1,d::l,σ=>by
  have h1:=aLs b n d σ
  have h2:=rO b n l (fM b n d σ).2
  rw[cG,Dt.ws]
  dsimp only
  omega
end
theorem aYj (l:List (List UInt8)):tsW l.reverse=tsW l:=by unfold tsW; rw[List.map_reverse,List.sum_reverse]
theorem bFu:∀(ts:List (List UInt8)),(lsD (ts.map dR) dF).w≤tsW ts+1
 | []=>by show dF.w≤_; unfold dF; rw[Dt.w_eq]; show (0:Nat)+Dt.ws []+1≤_; rw[Dt.ws]; omega
 | t::r=>by
  have ih:=bFu r
  have h1:=Dt.w_eq (lsD ((t::r).map dR) dF)
  have h2:=Dt.w_eq (dR t)
  have e1:(lsD ((t::r).map dR) dF).t=[]:=rfl
  have e2:(lsD ((t::r).map dR) dF).ks=[dR t,lsD (r.map dR) dF]:=rfl
  have e3:(dR t).t=t:=rfl
  have e4:(dR t).ks=[]:=rfl
  rw[e1,e2,Dt.ws,Dt.ws,Dt.ws]at h1
  rw[e3,e4,Dt.ws]at h2
  have e5:tsW (t::r)=t.length+3+tsW r:=by unfold tsW; simp
  rw[h1,h2,e5]
  simp only[List.length_nil]
  omega
theorem aE8:∀(n:Nat) (l:List Dt),(lsD l dF).w≤n→cE n (lsD l dF)=(l,dF)
 | 0,l,h=>by have:=Dt.w_eq (lsD l dF); omega
 | n+1,[],h=>by
  rw[lsD,cE,if_neg]
  decide
 | n+1,d::r,h=>by
  have h1:=Dt.w_eq (lsD (d::r) dF)
  have e2:(lsD (d::r) dF).ks=[d,lsD r dF]:=rfl
  rw[e2,Dt.ws,Dt.ws,Dt.ws]at h1
  have hd:=Dt.w_eq d
  rw[cE,if_pos (by rfl)]
  have e3:(lsD (d::r) dF).ks.getD 1 default=lsD r dF:=rfl
  have e4:(lsD (d::r) dF).ks.getD 0 default=d:=rfl
  rw[e3,e4,aE8 n r (by omega)]
def hdC (L:List Ob)(i n:Nat):List Int:=(List.range n).map fun k=>if iM L i k then 1 else 0
theorem aCn (L:List Ob)(i n:Nat):(hdC L i n).length=n:=by unfold hdC; simp
theorem aCo (L:List Ob)(i n k:Nat):(hdC L i n)[k]? = if k<n then some (if iM L i k then 1 else 0) else none:=by
 unfold hdC
 rw[List.getElem?_map]
 by_cases h:k<n
 ·rw[if_pos h,List.getElem?_range h]; rfl
 ·rw[if_neg h,List.getElem?_eq_none (by rw[List.length_range]; omega)]; rfl
theorem aSb (L:List Ob)(n:Nat):hdC L 0 n=List.replicate n 0:=by
 refine List.ext_getElem? fun k=>?_
 have:iM L 0 k=false:=rfl
 rw[aCo,List.getElem?_replicate,this]; rfl
theorem aYk (L:List Ob)(i n:Nat)(h:pos L i<n):(hdC L i n).set (pos L i) 1=hdC L (i+1) n:=by
 refine List.ext_getElem? fun k=>?_
 rw[List.getElem?_set,aCo,aCo,aId,aCn]
 by_cases e:pos L i=k
 ·subst e
  have:(pos L i==pos L i)=true:=by simp
  rw[if_pos rfl,if_pos h,if_pos h,this,Bool.or_true]; rfl
 ·have:(pos L i==k)=false:=by simp[e]
  rw[if_neg e,this,Bool.or_false]
theorem aYl (L:List Ob)(i n k:Nat)(h:k<n):(hdC L i n).getD k default=if iM L i k then 1 else 0:=by
 rw[List.getD_eq_getElem?_getD,aCo,if_pos h]; rfl
theorem aSc (b:Int)(cs:List Dt):∃ts:List (List UInt8),ts=((eC b cs).2.sy.map (·.1)).reverse∧tsW ts≤3*Dt.ws cs:=by
 refine⟨_,rfl,?_⟩
 rw[aYj]
 have:=rO b (2*Dt.ws cs+1) cs σ0
 exact Nat.le_trans this (by show 0+_≤_; omega)
def aA9 (n:Int):IV:=.bool (decide (n=1))
def hdB (L:List Ob)(i M:Nat):aW:=.cells 0 false (gX aA9 (hdC L i (M+1)))
theorem aSd {L:List Ob}{i:Nat}(h:i<L.length):(L.take (i+1)).countP is5=(L.take i).countP is5+(if L[i].ty=5 then 1 else 0):=by
 rw[List.take_add_one,List.getElem?_eq_getElem h,Option.toList,List.countP_append]
 unfold is5
 by_cases e:L[i].ty=5
 ·simp[e]
 ·simp[e]
theorem aSe {b:Int}{σ:Sg}(hgd:Gd b σ)(t:Tag)(hb:0≤b∧b+σ.mem.length≤67108864)(x0 x1 x4 x5 x6 x10 x11 x12 x13 x14 x15 x16 x17 x18 x19 x20 x21 x25 x26 x27 x28 x29:TV):∀(k i:Nat) (S:aA) (x22 x23 x24:TV),i+k=σ.L.length→S[0]? = some (hdB σ.L i σ.mem.length) →
  ∃S' y22 y23 y24,lp' (lim K) t4L3 [x0,x1,.iv (.bool false),.iv (.sl t (bE σ.mem)),x4,x5,x6,.msl 0 0 0 (σ.mem.length+1) (σ.mem.length+1) 1,.iv (.int .i64 ((σ.L.take i).countP is5:Nat)),.iv (.int .i64 (pos σ.L i:Nat)),x10,x11,x12,x13,x14,x15,x16,x17,x18,x19,x20,x21,x22,x23,x24,x25,x26,x27,x28,x29] S=.ret (.exit 0,[x0,x1,.iv (.bool false),.iv (.sl t (bE σ.mem)),x4,x5,x6,.msl 0 0 0 (σ.mem.length+1) (σ.mem.length+1) 1,.iv (.int .i64 (σ.L.countP is5:Nat)),.iv (.int .i64 (σ.mem.length:Nat)),x10,x11,x12,x13,x14,x15,x16,x17,x18,x19,x20,x21,y22,y23,y24,x25,x26,x27,x28,x29],S')∧S'[0]? = some (hdB σ.L σ.L.length σ.mem.length)
 | 0,i,S,x22,x23,x24,h,hS=>by
  obtain rfl:i=σ.L.length:=by omega
  have hml:=bY σ.mem
  rw[List.take_length,aLk hgd]
  refine⟨S,.iv (.bool false),x23,x24,aP K _ _ t4L3.eq_1 ?_,hS⟩
  simp (config := { maxSteps := 4000000 }) (disch:=omega) only[go_sem,hml]
 | k+1,i,S,x22,x23,x24,h,hS=>by
  have hla:i<σ.L.length:=by omega
  have hml:=bY σ.mem
  have hpl:=mR hgd hla
  have hps:=rM hla
  have hbl:=aCi σ.ad σ.L[i]
  have hvd:=hgd.vd σ.L[i] (List.getElem_mem _)
  have hty:=hvd.2
  have hhd:=xK hgd hla
  have hsp:=kZ σ.L[i]
  have hct:=aSd hla
  have hcl:(σ.L.take i).countP is5≤σ.L.length:=Nat.le_trans (List.countP_le_length) (by rw[List.length_take]; omega)
  have hLl:=bG9 hgd
  have hix:indexAddrS 1 (.iv (.sl t (bE σ.mem))) (pos σ.L i:Int)=some (.iv (.cp [.int .u32 (hdO σ.ad σ.L[i])])):=by
   refine aHr (by omega) ?_ rfl
   rw[Int.toNat_natCast]
   show (σ.mem.map fun x=>[IV.int .u32 x])[_]? = _
   rw[List.getElem?_map,hhd]; rfl
  have him:indexAddrS 1 (.msl 0 0 0 (σ.mem.length+1) (σ.mem.length+1) 1) (pos σ.L i:Int)=some (.ptr 0 0 (pos σ.L i)):=by
   have:=aWs (j:=0) (v:=0) (off:=0) (len:=σ.mem.length+1) (cap:=σ.mem.length+1) (i:=(pos σ.L i:Int)) (by omega)
   rw[this,Int.toNat_natCast,Nat.zero_add]
  have hst:∀env:Env,setCells env S (.ptr 0 0 (pos σ.L i)) [.iv (.bool true)]=some (env,S.set 0 (hdB σ.L (i+1) σ.mem.length)):=fun env=>by
   have:=aWu (f:=aA9) (fun n=>rfl) hS (i:=pos σ.L i) (by rw[aCn]; omega) 1 env
   rw[aYk _ _ _ (by omega)]at this
   exact this
  have f2:IntKind.u32.wrap (fP 32 (hdO σ.ad σ.L[i]) 3)=3:=by rw[eN (by unfold hdO; omega)]; unfold hdO; omega
  have f4:hdO σ.ad σ.L[i] / 32=(boO σ.ad σ.L[i]).length:=by unfold hdO; omega
  have f5:IntKind.u32.wrap (fP 32 (hdO σ.ad σ.L[i] / 4) 7)=σ.L[i].ty:=by rw[aA6 (by unfold hdO; omega)]; unfold hdO; omega
  have f0:0≤hdO σ.ad σ.L[i]∧hdO σ.ad σ.L[i]≤4294967295:=by unfold hdO; omega
  have hS1:(S.set 0 (hdB σ.L (i+1) σ.mem.length))[0]? = some (hdB σ.L (i+1) σ.mem.length):=cX (cA hS) _
  have hlt:(pos σ.L i:Int)<σ.mem.length:=by omega
  have hng:¬((σ.mem.length:Int)-pos σ.L i-1<(boO σ.ad σ.L[i]).length):=by omega
  obtain⟨S',y22,y23,y24,ih,hS'⟩:=aSe hgd t hb x0 x1 x4 x5 x6 x10 x11 x12 x13 x14 x15 x16 x17 x18 x19 x20 x21 x25 x26 x27 x28 x29 k (i+1) _ (.iv (.bool true)) (.iv (.bool false)) (.iv (.bool (decide (σ.L[i].ty=5)))) (by omega) hS1
  refine⟨S',y22,y23,y24,aP K _ _ t4L3.eq_1 ?_,hS'⟩
  rw[show ((pos σ.L (i+1):Nat):Int)=(pos σ.L i:Int)+1+(boO σ.ad σ.L[i]).length by omega]at ih
  by_cases h5:σ.L[i].ty=5
  ·rw[if_pos h5]at hct
   rw[show (((σ.L.take (i+1)).countP is5:Nat):Int)=((σ.L.take i).countP is5:Int)+1 by omega,decide_eq_true h5]at ih
   rw[h5]at f5
   generalize (boO σ.ad σ.L[i]).length=bl at *
   generalize hdO σ.ad σ.L[i]=hd at *
   generalize (σ.L.take i).countP is5=cc at *
   generalize pos σ.L i=q at *
   clear hvd hgd hps hpl hhd hS hS1 hS' hsp hbl hct hty h5
   simp (config := { maxSteps := 4000000 }) (disch:=omega) only[go_sem,hml,hix,f2,f4,f5,hlt,hng,him,hst,Int.fdiv_eq_ediv_of_nonneg,aE,bJ]
   exact congrArg er ih
  ·rw[if_neg h5]at hct
   rw[show (((σ.L.take (i+1)).countP is5:Nat):Int)=((σ.L.take i).countP is5:Int) by omega,decide_eq_false h5]at ih
   generalize (boO σ.ad σ.L[i]).length=bl at *
   generalize hdO σ.ad σ.L[i]=hd at *
   generalize (σ.L.take i).countP is5=cc at *
   generalize pos σ.L i=q at *
   generalize σ.L[i].ty=ty at *
   clear hvd hgd hps hpl hhd hS hS1 hS' hsp hbl hct
   simp (config := { maxSteps := 4000000 }) (disch:=omega) only[go_sem,hml,hix,f2,f4,f5,hlt,hng,him,hst,h5,Int.fdiv_eq_ediv_of_nonneg,aE,bJ]
   exact congrArg er ih
theorem aIh {L:List Ob}{M:Nat}{S:aA}(hS:S[0]? = some (hdB L L.length M)){k:Nat}(hk:k<M+1)(env:Env):bH env S (.ptr 0 0 k) 1=some [.iv (.bool (iM L L.length k))]:=by
 have:=aWt (f:=aA9) hS (i:=k) (by rw[aCn]; exact hk) env
 rw[aYl _ _ _ _ hk]at this
 rw[this]
 cases iM L L.length k<;>rfl
theorem bFv {M k:Nat}(hk:k<M+1):indexAddrS 1 (.msl 0 0 0 (M+1) (M+1) 1) (k:Int)=some (.ptr 0 0 k):=by
 have:=aWs (j:=0) (v:=0) (off:=0) (len:=M+1) (cap:=M+1) (i:=(k:Int)) (by omega)
 rw[this,Int.toNat_natCast,Nat.zero_add]
def WdV (V:TV)(W:List Int):Prop:=V=.iv (.sl .full (bE W))∨∃q,V=.tsl q (bE W)
theorem bDm {V:TV}{W:List Int}(h:WdV V W){i:Nat}(hi:i<W.length):indexAddrS 1 V (i:Int)=some (.iv (.cp [.int .u32 W[i]])):=by
 rcases h with rfl|⟨q,rfl⟩
 ·exact ixU hi
 ·have hne:bE W≠[]:=cQ.2 (by rintro rfl; simp at hi)
  have:=aR0 (jw:=q) (W:=W) (i:=i) hi
  rw[iI _ hne]at this
  exact this
theorem aCp {V:TV}{W:List Int}(h:WdV V W)(S:aA):aGk .sl S V=some (.iv (.int .i64 W.length)):=by
 have:=bY W
 rcases h with rfl|⟨q,rfl⟩
 ·show some (TV.iv (.int .i64 ((bE W).length:Nat)))=_; rw[this]
 ·show some (TV.iv (.int .i64 ((bE W).length:Nat)))=_; rw[this]
theorem aSf {b:Int}{L:List Ob}{mem:List Int}{t tv:Tag}{vals W:List Int}{s:Int}{V:TV}(hV:WdV V W)(hW:W=s::vals++mem)(hb:0≤b∧b+mem.length≤67108864)(hml:mem.length≤200000)(hvl:vals.length≤100000)
  (hsv:∀w∈s::vals,aIe b L w) (hmo:∀(k:Nat) (w:Int),mem[k]? = some w→(iM L L.length k=true∧w % 4=3∧0≤w∧w≤4294967295)∨(iM L L.length k=false∧aIe b L w)) (hps:∀n,n<L.length→pos L n<mem.length) {S:aA} (hS:S[0]? = some (hdB L L.length mem.length))
  (x0 x5 x6 x8 x9 x14 x15 x16 x17 x18 x19 x20 x21 x22 x23 x24 x27 x28 x29:TV):∀(k i:Nat) (x12 x13 x25 x26:TV),i+k=W.length →
  ∃y12 y13 y25 y26,lp' (lim K) t4L2 [x0,.iv (.int .i64 b),.iv (.bool false),.iv (.sl t (bE mem)),.iv (.sl tv (bE vals)),x5,x6,.msl 0 0 0 (mem.length+1) (mem.length+1) 1,x8,x9,V,.iv (.int .i64 i),x12,x13,x14,x15,x16,x17,x18,x19,x20,x21,x22,x23,x24,x25,x26,x27,x28,x29] S=.ret (.exit 2,[x0,.iv (.int .i64 b),.iv (.bool false),.iv (.sl t (bE mem)),.iv (.sl tv (bE vals)),x5,x6,.msl 0 0 0 (mem.length+1) (mem.length+1) 1,x8,x9,V,.iv (.int .i64 W.length),y12,y13,x14,x15,x16,x17,x18,x19,x20,x21,x22,x23,x24,y25,y26,x27,x28,x29],S)
 | 0,i,x12,x13,x25,x26,h=>by
  obtain rfl:i=W.length:=by omega
  have hlen:=aCp hV
  refine⟨x12,x13,.iv (.bool false),x26,aP K _ _ t4L2.eq_1 ?_⟩
  rcases hV with rfl|⟨q,rfl⟩<;>simp (config := { maxSteps := 4000000 }) (disch:=omega) only[go_sem,hlen]
 | k+1,i,x12,x13,x25,x26,h=>by
  have hla:i<W.length:=by omega
  have hWl:W.length=1+vals.length+mem.length:=by rw[hW]; simp; omega
  have hlen:=aCp hV
  have hix:=bDm hV hla
  have hm1:=bY mem
  have hm2:=bY vals
  have himg:=fun (n:Nat) (hn:n<mem.length+1)=>bFv (M:=mem.length) (k:=n) hn
  obtain⟨y12,y13,y25,y26,ih⟩:=aSf (V:=V) (t:=t) (tv:=tv) hV hW hb hml hvl hsv hmo hps hS x0 x5 x6 x8 x9 x14 x15 x16 x17 x18 x19 x20 x21 x22 x23 x24 x27 x28 x29 k (i+1) (.iv (.int .i64 ((i:Int)-1-vals.length))) (.iv (.int .i64 (W[i] / 4-b))) (.iv (.bool true)) (.iv (.bool false)) (by omega)
  rw[show ((i+1:Nat):Int)=(i:Int)+1 by omega]at ih
  refine⟨y12,y13,y25,y26,aP K _ _ t4L2.eq_1 ?_⟩
  by_cases hi:i<1+vals.length
  · -- the list's word,the constants' words
   have hmem:W[i]∈s::vals:=by
    have:W[i]? = (s::vals)[i]? := by rw[hW,List.getElem?_append_left (by simp; omega)]
    rw[List.getElem?_eq_getElem hla]at this
    exact List.mem_of_getElem? this.symm
   obtain⟨w0,w1,w3,wp⟩:=hsv _ hmem
   generalize W[i]=w at *
   have fw:IntKind.u32.wrap (fP 32 w 3)=w % 4:=eN ⟨w0,w1⟩
   have hk:¬(0≤(i:Int)-1-vals.length):=by omega
   by_cases w4:w % 4=1
   ·obtain⟨n,hn,hp⟩:=wp w4
    have hpn:=hps n hn
    have hg:=fun env=>aIh hS (k:=pos L n) (by omega) env
    have hip:iM L L.length (pos L n)=true:=(oZ ..).2 ⟨n,hn,rfl⟩
    rw[hip]at hg
    have him:=himg (pos L n) (by omega)
    rw[w4]at fw
    rw[hp]at ih
    have hp1:¬((pos L n:Int)<0):=by omega
    have hp2:¬((mem.length:Int)≤pos L n):=by omega
    generalize pos L n=q at *
    clear hsv hmo hps hS himg wp hmem
    rcases hV with rfl|⟨qq,rfl⟩<;>(simp (config := { maxSteps := 4000000 }) (disch:=omega) only[go_sem,hlen,hix,hm1,hm2,fw,hk,hp,hp1,hp2,him,hg,Int.fdiv_eq_ediv_of_nonneg,aE,bJ,Bool.not_true]; exact congrArg er ih)
   ·clear hsv hmo hps hS himg wp hmem
    rcases hV with rfl|⟨qq,rfl⟩<;>(simp (config := { maxSteps := 4000000 }) (disch:=omega) only[go_sem,hlen,hix,hm1,hm2,fw,hk,w4,Int.fdiv_eq_ediv_of_nonneg,aE,bJ,Bool.not_true]; exact congrArg er ih)
  · -- the words
   have hmk:mem[i-1-vals.length]? = some W[i]:=by
    have:W[i]? = mem[i-(1+vals.length)]? := by
     rw[hW,List.getElem?_append_right (by simp; omega)]
     congr 1; simp; omega
    rw[List.getElem?_eq_getElem hla]at this
    rw[show i-1-vals.length=i-(1+vals.length) by omega,←this]
   have hkk:(i:Int)-1-vals.length=((i-1-vals.length:Nat):Int):=by omega
   have hkl:=(List.getElem?_eq_some_iff.1 hmk).1
   have hgk:=fun env=>aIh hS (k:=i-1-vals.length) (by omega) env
   have hik:=himg (i-1-vals.length) (by omega)
   rw[hkk]at ih
   generalize hkn:i-1-vals.length=kn at *
   have hk0:(0:Int)≤(kn:Int):=by omega
   rcases hmo _ _ hmk with⟨hpk,w3,w0,w1⟩|⟨hpk,w0,w1,w3,wp⟩
   ·generalize W[i]=w at *
    rw[hpk]at hgk
    have fw:IntKind.u32.wrap (fP 32 w 3)=3:=by rw[eN ⟨w0,w1⟩,w3]
    clear hsv hmo hps hS himg hmk
    rcases hV with rfl|⟨qq,rfl⟩<;>(simp (config := { maxSteps := 4000000 }) (disch:=omega) only[go_sem,hlen,hix,hm1,hm2,fw,hkk,hk0,hik,hgk,Int.fdiv_eq_ediv_of_nonneg,aE,bJ,Bool.not_true]; exact congrArg er ih)
   ·generalize W[i]=w at *
    rw[hpk]at hgk
    have fw:IntKind.u32.wrap (fP 32 w 3)=w % 4:=eN ⟨w0,w1⟩
    by_cases w4:w % 4=1
    ·obtain⟨n,hn,hp⟩:=wp w4
     have hpn:=hps n hn
     have hg:=fun env=>aIh hS (k:=pos L n) (by omega) env
     have hip:iM L L.length (pos L n)=true:=(oZ ..).2 ⟨n,hn,rfl⟩
     rw[hip]at hg
     have him:=himg (pos L n) (by omega)
     rw[w4]at fw
     rw[hp]at ih
     have hp1:¬((pos L n:Int)<0):=by omega
     have hp2:¬((mem.length:Int)≤pos L n):=by omega
     generalize pos L n=q at *
     clear hsv hmo hps hS himg wp hmk
     rcases hV with rfl|⟨qq,rfl⟩<;>(simp (config := { maxSteps := 4000000 }) (disch:=omega) only[go_sem,hlen,hix,hm1,hm2,fw,hkk,hk0,hik,hgk,hp,hp1,hp2,him,hg,Int.fdiv_eq_ediv_of_nonneg,aE,bJ,Bool.not_true]; exact congrArg er ih)
    ·clear hsv hmo hps hS himg wp hmk
     rcases hV with rfl|⟨qq,rfl⟩<;>(simp (config := { maxSteps := 4000000 }) (disch:=omega) only[go_sem,hlen,hix,hm1,hm2,fw,hkk,hk0,hik,hgk,w3,w4,Int.fdiv_eq_ediv_of_nonneg,aE,bJ,Bool.not_true]; exact congrArg er ih)
end Go.Proofs.YtjbpbohpmfpoiaaGreatDoor
