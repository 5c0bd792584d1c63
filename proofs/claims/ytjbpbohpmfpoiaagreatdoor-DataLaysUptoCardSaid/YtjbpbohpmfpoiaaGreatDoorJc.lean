/- Some texts of the proof, joined. Condition: none. -/
import Derived.Test.YtjbpbohpmfpoiaaGreatDoorJb
import Derived.Test.YtjbpbohpmfpoiaaGreatDoorJa
set_option maxRecDepth 100000
set_option maxHeartbeats 64000000
set_option linter.unusedSimpArgs false
set_option linter.unusedVariables false
namespace Go.Proofs.YtjbpbohpmfpoiaaGreatDoor
open Go Go.TM
theorem gZ (b:Int)(σ:Sg)(o:Ob):(push b σ o).2.mem.length=σ.mem.length+dY o:=by
 show (σ.mem++ow σ.ad o).length=_
 rw[List.length_append,aC6]
theorem yD (b:Int):∀(l:List Vv) (e:Vv) (σ:Sg),(fF b l e σ).2.mem.length=σ.mem.length+3*l.length
 | [],e,σ=>by rw[fF]; simp
 | v::r,e,σ=>by
  rw[fF]
  rw[yD b r,gZ,List.length_cons]
  have:dY ⟨0,[v,e],0⟩=3:=by unfold dY prO; rw[if_neg (by simp)]; rfl
  omega
theorem xG (t:List UInt8):(chV t).length≤t.length:=by
 rw[pU,List.length_map]; exact aC7
mutual
theorem aFp (b:Int):∀(n:Nat) (d:Dt) (σ:Sg),(eP b n d σ).2.mem.length+3≤σ.mem.length+6*d.w
 | 0,d,σ=>by rw[eP]; have:=Dt.w_eq d; dsimp only; omega
 | n+1,d,σ=>by
  have hw:=Dt.w_eq d
  have hwl:=Dt.ws_len d.ks
  have hc:=xG d.t
  rw[eP]
  split
  ·dsimp only; omega
  split
  ·have hz:=aIw d.t
   unfold oE
   split
   ·dsimp only; omega
   ·rw[gZ]
    have:dY ⟨7,[],zP d.t⟩=2+(dg 65536 (zP d.t).natAbs).length:=by unfold dY prO; rw[if_pos rfl]; simp; omega
    omega
  split
  ·dsimp only; omega
  split
  ·rw[gZ]
   have:dY ⟨4,chV d.t,0⟩=1+(chV d.t).length:=by unfold dY prO; rw[if_neg (by simp)]; simp
   omega
  split
  ·cases hf:σ.sy.find? (fun x=>x.1==d.t) with
   | some x=>rw[pW hf]; dsimp only; omega
   | none =>
    rw[pV hf]
    show (push b (push b σ ⟨4,chV d.t,0⟩).2 _).2.mem.length+3≤_
    rw[gZ,gZ]
    have:dY ⟨4,chV d.t,0⟩=1+(chV d.t).length:=by unfold dY prO; rw[if_neg (by simp)]; simp
    have:dY ⟨5,[(push b σ ⟨4,chV d.t,0⟩).1],0⟩=2:=by unfold dY prO; rw[if_neg (by simp)]; simp
    omega
  split
  ·rw[gZ]
   have:dY ⟨6,d.t.map fun c=>⟨1,c.toNat⟩,0⟩=1+d.t.length:=by unfold dY prO; rw[if_neg (by simp)]; simp
   omega
  split
  ·dsimp only
   have h1:=jH b n d.ks σ
   have h2:=jZ b n d.ks σ
   rw[gZ]
   have:dY ⟨1,(cF b n d.ks σ).1,0⟩=1+(cF b n d.ks σ).1.length:=by unfold dY prO; rw[if_neg (by simp)]; simp
   omega
  split
  ·dsimp only
   have h0:=pT d.w d (Nat.le_refl _)
   have h1:=jH b n (bR d.w d).1 σ
   have h2:=aFp b n (bR d.w d).2 (cF b n (bR d.w d).1 σ).2
   have h3:=jZ b n (bR d.w d).1 σ
   rw[yD,List.length_reverse]
   omega
  split
  ·dsimp only; omega
  split
  ·dsimp only; omega
  ·dsimp only; omega
theorem jH (b:Int):∀(n:Nat) (l:List Dt) (σ:Sg),(cF b n l σ).2.mem.length+3*l.length≤σ.mem.length+6*Dt.ws l
 | 0,l,σ=>by rw[cF]; have:=Dt.ws_len l; dsimp only; omega
 | n+1,[],σ=>by rw[cF]; simp
 | n+1,d::l,σ=>by
  have h1:=aFp b n d σ
  have h2:=jH b n l (eP b n d σ).2
  rw[cF,Dt.ws,List.length_cons]
  dsimp only
  omega
end
theorem aTh {d:Dt}(hw:d.w≤1048576):TM.Pure K 21 [.iv (.agg (eX d))] (.iv (.bool (!(dB d&&plF d)))):=by
 have c22:=aSa d.w (by omega) d (Nat.le_refl _)
 cases hm:dB d with
 | false =>
  rw[hm]at c22
  rw[bA]at *
  refine aX t21 rfl rfl ?_
  simp (config := { maxSteps := 4000000 }) (disch:=omega) only[t21,go_sem,aE c22,Bool.false_and]
 | true =>
  have c23:=aS6 d.w (by omega) d (Nat.le_refl _) hm
  rw[hm]at c22
  rw[bA]at *
  rw[Bool.true_and]
  refine aX t21 rfl rfl ?_
  simp (config := { maxSteps := 4000000 }) (disch:=omega) only[t21,go_sem,aE c22,aE c23]
def σ0:Sg:=⟨[],[],[],[]⟩
def dF (b:Int)(cs:List Dt):List Vv×Sg:=cF b (2*Dt.ws cs+1) cs σ0
def cK (σ:Sg):List Vv:=σ.sy.map fun x=>⟨7,x.2⟩
def iN (cs:List Dt):Bool:=cs.all fun d=>dB d&&plF d
theorem gd0 (b:Int):Gd b σ0:=⟨rfl,rfl,(fun o ho=>by cases ho),(fun i hi=>by cases hi),Nat.le_refl _,fun x hx=>by cases hx⟩
theorem bDm {b:Int}{j jp:Nat}(x0 x1 x2 x3 x5 x13:TV){jo:Nat}{W:List Int}{xs:List Vv}(hl:xs.length≤1000000)(hWl:W.length=xs.length):∀(k i:Nat) (S:aA) (Λ:Ly) (v:Vv) (x7 x12:TV),i+k=xs.length→W=xs.map (wd Λ.σ.ad)→(∀u∈xs,OkV Λ.σ.L.length u)→OkV Λ.σ.L.length v→LB b S j jp Λ→(fF b (xs.drop i) v Λ.σ).2.mem.length≤10000000 →
  ∃S' Λ' y7 y12,lp' (lim K) t8L0 [x0,x1,x2,x3,.iv (.int .u32 (wd Λ.σ.ad v)),x5,.ptr j 53 0,x7,.iv (.bool false),acc jo (bC W),.iv (.int .i64 xs.length),.iv (.int .i64 i),x12,x13] S=.ret (.exit 0,[x0,x1,x2,x3,.iv (.int .u32 (wd (fF b (xs.drop i) v Λ.σ).2.ad (fF b (xs.drop i) v Λ.σ).1)),x5,.ptr j 53 0,y7,.iv (.bool false),acc jo (bC W),.iv (.int .i64 xs.length),.iv (.int .i64 xs.length),y12,x13],S')∧LB b S' j jp Λ'∧Λ'.σ=(fF b (xs.drop i) v Λ.σ).2
 | 0,i,S,Λ,v,x7,x12,hi,hW,hx,hv,hL,hm=>by
  obtain rfl:i=xs.length:=by omega
  rw[List.drop_length,fF]
  refine⟨S,Λ,x7,.iv (.bool false),aG K _ _ t8L0.eq_1 ?_,hL,rfl⟩
  simp (config := { maxSteps := 4000000 }) (disch:=omega) only[go_sem]
 | k+1,i,S,Λ,v,x7,x12,hi,hW,hx,hv,hL,hm=>by
  have hla:i<xs.length:=by omega
  have hdr:xs.drop i=xs[i]::xs.drop (i+1):=List.drop_eq_getElem_cons hla
  rw[hdr,fF]at hm ⊢
  have hu:=hx xs[i] (List.getElem_mem _)
  have hix:=bDl (jw:=jo) (W:=W) (i:=i) (by omega)
  have hWk:W[i]'(by omega)=wd Λ.σ.ad xs[i]:=by simp[hW]
  rw[hWk]at hix
  have ebo:boO Λ.σ.ad ⟨0,[xs[i],v],0⟩=[wd Λ.σ.ad xs[i],wd Λ.σ.ad v]:=by
   unfold boO prO
   rw[if_neg (by simp)]; rfl
  obtain⟨S1,jm',c25,hL1,hK1⟩:=rK hL (o:=⟨0,[xs[i],v],0⟩) ⟨fun w hw=>by
   rcases List.mem_cons.1 hw with rfl|hw
   ·exact hu
   ·rw[List.mem_singleton]at hw; subst hw; exact hv,(by show (0:Int)≤0; decide),(by show (0:Int)≤7; decide)⟩ (Nat.le_trans (oG b _ _ _).len.1 hm) (x:=.iv (.sl .full [[.int .u32 (wd Λ.σ.ad xs[i])],[.int .u32 (wd Λ.σ.ad v)]])) (fun i=>rfl) (fun S'=>by rw[ebo]; rfl) (fun S' _=>by rw[ebo]; exact iH.sl ..)
  have hle:=LeS.push b Λ.σ ⟨0,[xs[i],v],0⟩
  have hok1:=fS b Λ.σ ⟨0,[xs[i],v],0⟩
  obtain⟨S',Λ',y7,y12,ih,hL',hσ'⟩:=bDm (b:=b) (j:=j) (jp:=jp) x0 x1 x2 x3 x5 x13 (jo:=jo) hl hWl k (i+1) S1 ⟨jm',Λ.jo,(push b Λ.σ ⟨0,[xs[i],v],0⟩).2,Λ.l,Λ.c⟩ _ (.iv (.int .u32 (wd Λ.σ.ad xs[i]))) (.iv (.bool true)) (by omega) (by show W=xs.map (wd (push b Λ.σ ⟨0,[xs[i],v],0⟩).2.ad); rw[pX hL.gd hle hx]; exact hW) (fun u hu=>(hx u hu).mono hle.len.2) hok1 hL1 hm
  rw[show ((i+1:Nat):Int)=(i:Int)+1 by omega]at ih
  refine⟨S',Λ',y7,y12,aG K _ _ t8L0.eq_1 ?_,hL',hσ'⟩
  dsimp only at ih c25 ⊢
  simp (config := { maxSteps := 4000000 }) (disch:=omega) only[go_sem,hix,c25,aB]
  exact congrArg er ih
theorem aZx {cs:List Dt}{b:Int}(g:Tag)(hw:Dt.ws cs≤1000000)(h:b<0∨67108864<b∨iN cs=false):TM.Pure K 8 [.iv (.sl g (bT cs)),.iv (.int .i64 b)] (.tup [.iv (.sl .nil []),.iv (.sl .nil []),.iv (.int .u32 0),.iv (.int .i64 2)]):=by
 have hwl:=Dt.ws_len cs
 have c20:=aCw 21 (fun d=>!(dB d&&plF d)) g cs (by omega) (fun x hx=>aTh (by have:=Dt.ws_mem hx; omega)) []
 have e:(cs.any fun d=>!(dB d&&plF d))=!iN cs:=by
  unfold iN
  rw[←sG cs (fun d=>dB d&&plF d),Bool.not_not]
 rw[e]at c20
 refine aX t8 rfl rfl ?_
 by_cases h0:b<0
 ·simp (config := { maxSteps := 4000000 }) (disch:=omega) only[t8,go_sem,h0]
 ·by_cases h1:67108864<b
  ·simp (config := { maxSteps := 4000000 }) (disch:=omega) only[t8,go_sem,h0,h1]
  ·have h2:iN cs=false:=by rcases h with h|h|h<;>first|omega|exact h
   rw[h2]at c20
   simp (config := { maxSteps := 4000000 }) (disch:=omega) only[t8,go_sem,h0,h1,c20,Bool.not_false]
def fK (b:Int)(cs:List Dt):Vv×Sg:=fF b (cK (dF b cs).2) ⟨4,0⟩ (dF b cs).2
theorem aC9 {b:Int}{cs:List Dt}(h:Gd b (dF b cs).2):(fK b cs).2.mem.length≤24*Dt.ws cs:=by
 have h1:=jH b (2*Dt.ws cs+1) cs σ0
 have h2:=aMk h
 have h3:(cK (dF b cs).2).length=(dF b cs).2.sy.length:=List.length_map _
 unfold fK
 rw[yD]
 have h4:(dF b cs).2.mem.length≤6*Dt.ws cs:=by unfold dF; have:σ0.mem.length=0:=rfl; omega
 omega
theorem bE8 {cs:List Dt}{b:Int}(g:Tag)(hw:Dt.ws cs≤10000)(hwx:∀d∈cs,d.w≤1000)(hb:0≤b∧b≤67108864)(hok:iN cs=true):Gd b (dF b cs).2∧(∀v∈(dF b cs).1,OkV (dF b cs).2.L.length v)∧Gd b (fK b cs).2∧∃t1 t2,bP t1 (bC (fK b cs).2.mem) ∧
  TM.Pure K 8 [.iv (.sl g (bT cs)),.iv (.int .i64 b)] (if 67108864<b+(fK b cs).2.mem.length then .tup [.iv (.sl .nil []),.iv (.sl .nil []),.iv (.int .u32 0),.iv (.int .i64 3)] else .tup [.iv (.sl t1 (bC (fK b cs).2.mem)),.iv (.sl t2 (bC ((dF b cs).1.map (wd (dF b cs).2.ad)))),.iv (.int .u32 (wd (fK b cs).2.ad (fK b cs).1)),.iv (.int .i64 0)]):=by
 have hwl:=Dt.ws_len cs
 have c20:=aCw 21 (fun d=>!(dB d&&plF d)) g cs (by omega) (fun x hx=>aTh (by have:=Dt.ws_mem hx; omega)) []
 have e:(cs.any fun d=>!(dB d&&plF d))=!iN cs:=by
  unfold iN
  rw[←sG cs (fun d=>dB d&&plF d),Bool.not_not]
 rw[e,hok]at c20
 have hall:∀d∈cs,dB d=true:=fun d hd=>by
  have:=List.all_eq_true.1 hok d hd
  rw[Bool.and_eq_true]at this
  exact this.1
 have hL0:LB b [.mp [] 0,.cells 53 false [.iv (.int .i64 b),.iv (.sl .nil []),.map 0,.iv (.sl .nil [])]] 1 0 ⟨0,0,σ0,[],0⟩:=⟨rfl,Gl.nil ..,Gl.nil ..,rfl,fun q h=>absurd rfl h.1,fun t=>rfl,gd0 b,hb⟩
 have hg0:=jH b (2*Dt.ws cs+1) cs σ0
 have hm0:σ0.mem.length=0:=rfl
 obtain⟨S1,Λ1,jw,c24,hL1,hK1,hσ1,hv1⟩:=aIy (b:=b) (ks:=cs) (fun f x hx hfx=>aFo b x.w x (Nat.le_refl _) (hwx x hx) (hall x hx) f hfx) (by omega) (f:=2*Dt.ws cs+1) (Nat.le_refl _) g hL0 (by show (cF b (2*Dt.ws cs+1) cs σ0).2.mem.length≤_; omega)
 have hgd1:Gd b (dF b cs).2:=by have:=hL1.gd; rw[hσ1]at this; exact this
 have hfl:=aC9 hgd1
 have hlm:=aMk hgd1
 have hll:(dF b cs).2.mem.length≤6*Dt.ws cs:=by unfold dF; omega
 have hsyl:(cK (dF b cs).2).length=(dF b cs).2.sy.length:=List.length_map _
 have hsok:∀u∈cK (dF b cs).2,OkV (dF b cs).2.L.length u:=fun u hu=>by
  obtain⟨x,hx,rfl⟩:=List.mem_map.1 hu
  obtain⟨_,i,h1,h2⟩:=hgd1.sy x hx
  have:=(List.getElem?_eq_some_iff.1 h1).1
  refine⟨fun _=>?_,fun h=>absurd rfl h⟩
  show 0≤((x.2:Nat):Int)∧((x.2:Nat):Int)<_
  omega
 have hW:jC (dF b cs).2=(cK (dF b cs).2).map (wd (dF b cs).2.ad):=by
  unfold jC cK
  rw[List.map_map]; rfl
 have hσ1':Λ1.σ=(dF b cs).2:=hσ1
 have hv1':∀v∈(dF b cs).1,OkV (dF b cs).2.L.length v:=hv1
 have c24':(lim K).call 24 [.ptr 1 53 0,.iv (.sl g (bT cs))] [.mp [] 0,.cells 53 false [.iv (.int .i64 b),.iv (.sl .nil []),.map 0,.iv (.sl .nil [])]]=.ret (acc jw (bC ((dF b cs).1.map (wd (dF b cs).2.ad))),S1):=c24
 have lp:=fun (x5 x7 x12 x13:TV)=>bDm (b:=b) (j:=1) (jp:=0) (.iv (.sl g (bT cs))) (.iv (.int .i64 b)) (.iv (.sl .nil [])) (acc jw (bC ((dF b cs).1.map (wd (dF b cs).2.ad)))) x5 x13 (jo:=Λ1.jo) (W:=jC Λ1.σ) (xs:=cK Λ1.σ) (by rw[hσ1']; omega) (by rw[hσ1',hW,List.length_map]) (cK Λ1.σ).length 0 S1 Λ1 ⟨4,0⟩ x7 x12 (by omega) (by rw[hσ1']; exact hW) (by rw[hσ1']; exact hsok) ⟨(fun h=>by simp at h),fun _=>by simp⟩ hL1 (by rw[List.drop_zero,hσ1']; show (fK b cs).2.mem.length≤_; omega)
 obtain⟨S2,Λ2,y7,y12,l1,hL2,hσ2⟩:=lp (.iv (.int .i64 0)) u_ u_ u_
 rw[List.drop_zero,hσ1']at l1 hσ2
 rw[show ((0:Nat):Int)=0 from rfl]at l1
 have hσ2':Λ2.σ=(fK b cs).2:=hσ2
 have hgd2:Gd b (fK b cs).2:=by have:=hL2.gd; rw[hσ2']at this; exact this
 have o1:=hL1.own
 have o2:=hL2.own
 unfold lyB at o1 o2
 rw[hσ1']at o1
 rw[hσ2']at o2
 refine⟨hgd1,hv1',hgd2,eM (bC (fK b cs).2.mem),eM (bC ((dF b cs).1.map (wd (dF b cs).2.ad))),iZ _,?_⟩
 have hol:(bC (jC (dF b cs).2)).length=(cK (dF b cs).2).length:=by rw[cB,hW,List.length_map]
 have hml:(bC (fK b cs).2.mem).length=(fK b cs).2.mem.length:=cB _
 have h38:wd (dF b cs).2.ad ⟨4,0⟩=38:=rfl
 rw[h38]at l1
 refine aX t8 rfl rfl ?_
 by_cases hbig:67108864<b+((fK b cs).2.mem.length:Int)
 ·rw[if_pos hbig]
  simp (config := { maxSteps := 4000000 }) (disch:=omega) only[t8,go_sem,c20,Bool.not_true,c24',o1,bU,hol]
  rw[l1]
  simp (config := { maxSteps := 4000000 }) (disch:=omega) only[go_sem,o2,bU,hml,aB]
 ·rw[if_neg hbig]
  simp (config := { maxSteps := 4000000 }) (disch:=omega) only[t8,go_sem,c20,Bool.not_true,c24',o1,bU,hol]
  rw[l1]
  simp (config := { maxSteps := 4000000 }) (disch:=omega) only[go_sem,o2,bU,hml,aB]
  rfl
def eY (v:Vv):List IV:=[.int .i64 v.k,.int .i64 v.n]
theorem aMo (v:Vv):(eY v).length=2∧(eY v).all gU=true:=⟨rfl,rfl⟩
def aW (l:List Vv):List (List IV):=l.map eY
theorem mI (l:List Vv):eT 2 (aW l):=by
 intro y hy
 obtain⟨x,_,rfl⟩:=List.mem_map.1 hy
 exact aMo x
theorem cH (l:List Vv):(aW l).length=l.length:=List.length_map _
theorem pY (a b:List Vv):aW (a++b)=aW a++aW b:=List.map_append
theorem eF {l:List Vv}:aW l≠[]↔l≠[]:=by cases l<;>simp[aW]
def aTi (o:Ob)(c:List IV):Prop:=∃t1 t2,bP t2 (dg 10 (o.z.natAbs:Int))∧(dg 10 (o.z.natAbs:Int)).length≤90000∧o.kd.length≤1000000∧c=[.int .i64 o.ty,.int .i64 0,.sl t1 (aW o.kd),.bool (decide (o.z<0)),.sl t2 (TM.one i64 (dg 10 o.z.natAbs))]
theorem aTi.wid {o:Ob}{c:List IV}(h:aTi o c):c.length=5∧c.all gU=true:=by
 obtain⟨t1,t2,_,_,_,rfl⟩:=h; exact⟨rfl,rfl⟩
inductive RO:List Ob→List (List IV)→Prop
 | nil:RO [] []
 | snoc {L:List Ob} {l:List (List IV)} {o:Ob} {c:List IV} (h:RO L l) (g:aTi o c):RO (L++[o]) (l++[c])
theorem RO.len {L:List Ob}{l:List (List IV)}(h:RO L l):l.length=L.length:=by
 induction h with
 | nil=>rfl
 | snoc _ _ ih=>rw[List.length_append,List.length_append,ih]; rfl
theorem RO.el {L:List Ob}{l:List (List IV)}(h:RO L l):eT 5 l:=by
 induction h with
 | nil=>intro y hy; cases hy
 | snoc _ g ih =>
  intro y hy
  rcases List.mem_append.1 hy with hy|hy
  ·exact ih y hy
  ·rw[List.mem_singleton]at hy; subst hy; exact g.wid
theorem RO.at {L:List Ob}{l:List (List IV)}(h:RO L l):∀(i:Nat) (o:Ob),L[i]? = some o→∃c,l[i]? = some c∧aTi o c:=by
 induction h with
 | nil=>intro i o h; simp at h
 | @snoc L l o c h g ih =>
  intro i x hx
  have hl:=h.len
  by_cases hi:i<L.length
  ·rw[List.getElem?_append_left hi]at hx
   obtain⟨d,h1,h2⟩:=ih i x hx
   exact⟨d,by rw[List.getElem?_append_left (by omega)]; exact h1,h2⟩
  ·rw[List.getElem?_append_right (by omega)]at hx
   have h0:i-L.length=0:=by
    have:=(List.getElem?_eq_some_iff.1 hx).1
    rw[List.length_singleton]at this; omega
   rw[h0]at hx
   rw[List.getElem?_cons_zero]at hx
   cases hx
   exact⟨c,by rw[List.getElem?_append_right (by omega),show i-l.length=0 by omega]; rfl,g⟩
structure Rl where
 jl:Nat
 js:Nat
 LO:List (List IV)
 σ:Sg
 load:Int
 wide:Bool
def TkR (P:Rl)(q:Nat):Prop:=(P.LO≠[]∧q=P.jl)∨(cK P.σ≠[]∧q=P.js)
def rB (P:Rl):bG:=.cells 64 false [.iv (.sl .nil []),acc P.jl P.LO,acc P.js (aW (cK P.σ)),.iv (.sl .nil []),.iv (.sl .nil []),.iv (.int .i64 P.load),.iv (.bool P.wide)]
structure RB (b:Int) (S:aA) (j:Nat) (P:Rl):Prop where
 own:S[j]? = some (rB P)
 gl:Gl 0 S 5 67 P.LO P.jl
 gs:Gl 0 S 2 73 (aW (cK P.σ)) P.js
 ro:RO P.σ.L P.LO
 dis:P.LO≠[]→cK P.σ≠[]→P.jl≠P.js
 ld:0≤P.load∧P.load≤3000000
 gd:Gd b P.σ
structure KR (j:Nat) (S S':aA) (P P':Rl):Prop where
 len:S.length≤S'.length
 old:∀q B,S[q]? = some B→q≠j→¬TkR P q→S'[q]? = some B
 new:∀q,TkR P' q→TkR P q∨S.length≤q
theorem KR.refl (j:Nat)(S:aA)(P:Rl):KR j S S P P:=⟨Nat.le_refl _,fun _ _ h _ _=>h,fun q h=>.inl h⟩
theorem KR.trans {j:Nat}{S S1 S2:aA}{A B C:Rl}(h:KR j S S1 A B)(g:KR j S1 S2 B C):KR j S S2 A C:=by
 refine⟨Nat.le_trans h.len g.len,fun q X hq h1 h2=>?_,fun q hq=>?_⟩
 ·refine g.old q X (h.old q X hq h1 h2) h1 fun hb=>?_
  rcases h.new q hb with h3|h3
  ·exact h2 h3
  ·have:=cM hq; omega
 ·rcases g.new q hq with h3|h3
  ·exact h.new q h3
  ·exact .inr (Nat.le_trans h.len h3)
theorem RB.tok {b:Int}{S:aA}{j:Nat}{P:Rl}(h:RB b S j P){q:Nat}(hq:TkR P q):∃n w e,S[q]? = some (.tok n w e):=by
 rcases hq with⟨h1,rfl⟩|⟨h1,rfl⟩
 ·exact⟨_,_,_,h.gl.tok h1⟩
 ·exact⟨_,_,_,h.gs.tok (eF.2 h1)⟩
theorem RB.tkj {b:Int}{S:aA}{j:Nat}{P:Rl}(h:RB b S j P){q:Nat}(hq:TkR P q):q≠j:=fun e=>by
 obtain⟨n,w,el,ht⟩:=h.tok hq
 rw[e,h.own]at ht; unfold rB at ht; cases ht
theorem RB.keep {b:Int}{S S':aA}{j:Nat}{P:Rl}(h:RB b S j P)(k:∀q B,S[q]? = some B→(q=j∨TkR P q)→S'[q]? = some B):RB b S' j P :=
 ⟨k _ _ h.own (.inl rfl),⟨fun hn=>k _ _ (h.gl.tok hn) (.inr (.inl ⟨hn,rfl⟩)),fun _=>Nat.zero_le _⟩,⟨fun hn=>k _ _ (h.gs.tok hn) (.inr (.inr ⟨eF.1 hn,rfl⟩)),fun _=>Nat.zero_le _⟩,h.ro,h.dis,h.ld,h.gd⟩
theorem RB.app {b:Int}{S:aA}{j:Nat}{P:Rl}(h:RB b S j P)(l:aA):RB b (S++l) j P:=h.keep fun q B hq _=>mV hq l
theorem RB.of_keep {b:Int}{S S':aA}{j:Nat}{P:Rl}(h:RB b S j P)(k:jB [] S S'):RB b S' j P:=h.keep fun q B hq _=>k.get q B (by simp) hq
theorem KR.of_keep {S S':aA}(k:jB [] S S')(j:Nat)(P:Rl):KR j S S' P P:=⟨k.len,fun q B hq _ _=>k.get q B (by simp) hq,fun q h=>.inl h⟩
theorem RB.own' {b:Int}{S:aA}{j:Nat}{P:Rl}(h:RB b S j P){l:Int}{w:Bool}(hl:0≤l∧l≤3000000):RB b (S.set j (rB ⟨P.jl,P.js,P.LO,P.σ,l,w⟩)) j ⟨P.jl,P.js,P.LO,P.σ,l,w⟩∧KR j S (S.set j (rB ⟨P.jl,P.js,P.LO,P.σ,l,w⟩)) P ⟨P.jl,P.js,P.LO,P.σ,l,w⟩ :=
 ⟨⟨eI (cM h.own) _,⟨fun hn=>by rw[bV (Ne.symm (h.tkj (.inl ⟨hn,rfl⟩)))]; exact h.gl.tok hn,fun _=>Nat.zero_le _⟩,⟨fun hn=>by rw[bV (Ne.symm (h.tkj (.inr ⟨eF.1 hn,rfl⟩)))]; exact h.gs.tok hn,fun _=>Nat.zero_le _⟩,h.ro,h.dis,hl,h.gd⟩,⟨by rw[List.length_set]; exact Nat.le_refl _,fun q B hq h1 _=>by rw[bV (Ne.symm h1)]; exact hq,fun q hq=>.inl hq⟩⟩
theorem aZy {b:Int}{S:aA}{j:Nat}{P:Rl}(h:RB b S j P)(n:Int)(hn:0≤n∧n≤1000000000):∃S' l w v,(lim K).call 113 [.ptr j 64 0,.iv (.int .i64 n),.iv (.int .i64 64)] S=.ret (.iv (.bool v),S')∧RB b S' j ⟨P.jl,P.js,P.LO,P.σ,l,w⟩∧KR j S S' P ⟨P.jl,P.js,P.LO,P.σ,l,w⟩:=by
 have ho:=h.own
 have hl:=h.ld
 have es:=fun B=>eI (cM ho) B
 by_cases h1:n≤64
 ·refine⟨S,P.load,P.wide,false,aD K _ (fn:=t113) rfl rfl ?_,h,KR.refl ..⟩
  simp (config := { maxSteps := 4000000 }) (disch:=omega) only[t113,go_sem,h1]
 ·by_cases h2:3000000-P.load<n
  ·obtain⟨r1,r2⟩:=h.own' (l:=P.load) (w:=true) hl
   refine⟨_,P.load,true,true,aD K _ (fn:=t113) rfl rfl ?_,r1,r2⟩
   unfold rB at *
   simp (config := { maxSteps := 4000000 }) (disch:=omega) only[t113,go_sem,h1,ho,h2,aB,es]
  ·obtain⟨r1,r2⟩:=h.own' (l:=P.load+n) (w:=P.wide) (by omega)
   refine⟨_,P.load+n,P.wide,false,aD K _ (fn:=t113) rfl rfl ?_,r1,r2⟩
   unfold rB at *
   simp (config := { maxSteps := 4000000 }) (disch:=omega) only[t113,go_sem,h1,ho,h2,aB,es]
theorem rL {b:Int}{S:aA}{j:Nat}{P:Rl}(h:RB b S j P){o:Ob}(ho:OkO P.σ.L.length o)(hkd:o.kd.length≤1000000)(hz:(dg 10 (o.z.natAbs:Int)).length≤90000)(hL:P.σ.L.length≤10000000)(t1:Tag){t2:Tag}(ht2:bP t2 (dg 10 (o.z.natAbs:Int))) :
  ∃S' jl' c l w,(lim K).call 88 [.ptr j 64 0,.iv (.agg [.int .i64 o.ty,.int .i64 0,.sl t1 (aW o.kd),.bool (decide (o.z<0)),.sl t2 (TM.one i64 (dg 10 o.z.natAbs))])] S=.ret (.iv (.agg (eY (push b P.σ o).1)),S')∧RB b S' j ⟨jl',P.js,P.LO++[c],(push b P.σ o).2,l,w⟩∧KR j S S' P ⟨jl',P.js,P.LO++[c],(push b P.σ o).2,l,w⟩:=by
 have hk:=cH o.kd
 have hd:(TM.one i64 (dg 10 (o.z.natAbs:Int))).length=(dg 10 (o.z.natAbs:Int)).length:=TM.bJ ..
 obtain⟨S1,l,w,v,c113,hR1,hK1⟩:=aZy h ((o.kd.length:Int)+(dg 10 (o.z.natAbs:Int)).length) (by omega)
 have hrl:=hR1.ro.len
 obtain⟨jl',S2,ap,g⟩:=hR1.gl.more (x:=.iv (.sl .full [[.int .i64 o.ty,.int .i64 0,.sl t1 (aW o.kd),.bool (decide (o.z<0)),.sl t2 (TM.one i64 (dg 10 o.z.natAbs))]])) (iH.sl ..) (fun y hy=>by rw[List.mem_singleton]at hy; subst hy; exact⟨rfl,rfl⟩) hR1.ro.el (b:=72) (cS (by rw[List.length_singleton]; dsimp only at hrl ⊢; omega)) (Nat.zero_le _)
 dsimp only at ap g hrl
 have o1:=hR1.own
 have tj:∀q,TkR ⟨P.jl,P.js,P.LO,P.σ,l,w⟩ q→q≠j:=fun q hq=>hR1.tkj hq
 have o2:S2[j]? = some (rB ⟨P.jl,P.js,P.LO,P.σ,l,w⟩):=g.old _ _ o1 fun hn e=>tj j (.inl ⟨hn,e⟩) rfl
 have hne:P.LO++[[IV.int .i64 o.ty,.int .i64 0,.sl t1 (aW o.kd),.bool (decide (o.z<0)),.sl t2 (TM.one i64 (dg 10 o.z.natAbs))]]≠[]:=by simp
 have hjl:jl'≠j:=fun e=>by
  have:=g.gl.tok hne
  rw[e,o2]at this; unfold rB at this; cases this
 have hss:cK (push b P.σ o).2=cK P.σ:=rfl
 have es:=fun B=>eI (cM o2) B
 have fr:(P.LO≠[]∧jl'=P.jl)∨S1.length≤jl':=by
  by_cases h0:P.LO=[]
  ·exact .inr (g.frsh h0 (by simp))
  ·exact .inl ⟨h0,g.same h0⟩
 have hdis:cK P.σ≠[]→jl'≠P.js:=fun h1 e=>by
  rcases fr with⟨h0,e1⟩|h0
  ·exact hR1.dis h0 h1 (by rw[←e1]; exact e)
  ·have:=cM (hR1.gs.tok (eF.2 h1)); dsimp only at this; omega
 refine⟨S2.set j (rB ⟨jl',P.js,P.LO++[[.int .i64 o.ty,.int .i64 0,.sl t1 (aW o.kd),.bool (decide (o.z<0)),.sl t2 (TM.one i64 (dg 10 o.z.natAbs))]],(push b P.σ o).2,l,w⟩),jl',_,l,w,aD K _ (fn:=t88) rfl rfl ?_,⟨es _,⟨fun hn=>by rw[bV (Ne.symm hjl)]; exact g.gl.tok hn,fun _=>Nat.zero_le _⟩,⟨fun hn=>?_,fun _=>Nat.zero_le _⟩,.snoc h.ro ⟨t1,t2,ht2,hz,hkd,rfl⟩,fun _ h1=>hdis h1,hR1.ld,sM h.gd ho⟩,hK1.trans ⟨?_,fun q B hq h1 h2=>?_,fun q hq=>?_⟩⟩
 ·have h7:eY (push b P.σ o).1=[.int .i64 7,.int .i64 P.σ.L.length]:=rfl
  rw[h7]
  have hla:(P.LO++[[IV.int .i64 o.ty,.int .i64 0,.sl t1 (aW o.kd),.bool (decide (o.z<0)),.sl t2 (TM.one i64 (dg 10 o.z.natAbs))]]).length=P.σ.L.length+1:=by rw[List.length_append,hrl]; rfl
  have hw:IntKind.i64.wrap ((P.σ.L.length:Int)+1-1)=P.σ.L.length:=by rw[aB (by omega)]; omega
  unfold rB at *
  rw[hss]
  dsimp only at o1 o2 ⊢
  generalize P.LO++[[IV.int .i64 o.ty,.int .i64 0,.sl t1 (aW o.kd),.bool (decide (o.z<0)),.sl t2 (TM.one i64 (dg 10 o.z.natAbs))]]=LO' at *
  simp (config := { maxSteps := 4000000 }) (disch:=omega) only[t88,go_sem,hk,hd,c113,o1,ap,o2,es,bU,hla,aB,fD,eB]
  rw[show ((P.σ.L.length+1:Nat):Int)-1=P.σ.L.length by omega]
 ·rw[hss]at hn
  have hn':=eF.1 hn
  rw[bV (Ne.symm (tj _ (.inr ⟨hn',rfl⟩)))]
  exact g.old _ _ (hR1.gs.tok hn) fun h0 e=>hR1.dis h0 hn' (by dsimp only at e ⊢; exact e.symm)
 ·rw[List.length_set]; exact g.len
 ·rw[bV (Ne.symm h1)]
  exact g.old q B hq fun h0 e=>h2 (.inl ⟨h0,e⟩)
 ·rcases hq with⟨_,e⟩|⟨h1,e⟩
  ·rcases fr with⟨h0,e1⟩|h0
   ·exact .inl (.inl ⟨h0,by dsimp only at e ⊢; rw[e]; exact e1⟩)
   ·exact .inr (by dsimp only at e; omega)
  ·exact .inl (.inr ⟨h1,e⟩)
theorem aZz (s:List UInt8)(hl:s.length≤2000000):∃tg e,TM.Pure K 62 [.iv (.str s)] (.tup [.iv (.sl tg (TM.one i64 (chs s))),.iv (.int .i64 e)]):=by
 have h:=aR1 s hl
 unfold chs
 cases hc:(cD s.length s 0).2 with
 | none=>rw[hc]at h; rw[if_pos rfl]; exact⟨_,_,h⟩
 | some p=>rw[hc]at h; rw[if_neg (by simp)]; exact⟨_,_,h⟩
theorem aTj (x0 x1:TV)(tg:Tag)(cs:List Int)(hl:cs.length≤2000000):∀(k i:Nat) (done:List Vv) (x5:TV),i+k=cs.length→done.length=i →
  ∃y5,lp' (lim K) t89L0 [x0,x1,acc 0 (aW done),.iv (.sl tg (TM.one i64 cs)),.iv (.int .i64 i),x5] (gV 2 73 (aW done))=.ret (.exit 0,[x0,x1,acc 0 (aW (done++(cs.drop i).map (⟨2,·⟩))),.iv (.sl tg (TM.one i64 cs)),.iv (.int .i64 cs.length),y5],gV 2 73 (aW (done++(cs.drop i).map (⟨2,·⟩))))
 | 0,i,done,x5,h,hd=>by
  obtain rfl:i=cs.length:=by omega
  rw[List.drop_length,List.map_nil,List.append_nil]
  refine⟨.iv (.bool false),aG K _ _ t89L0.eq_1 ?_⟩
  simp (config := { maxSteps := 4000000 }) (disch:=omega) only[go_sem]
 | k+1,i,done,x5,h,hd=>by
  have hla:i<cs.length:=by omega
  have hix:=iG (f:=i64) (t:=tg) (l:=cs) (i:=(i:Int)) (by omega)
  rw[Int.toNat_natCast,show cs.getD i default=cs[i] by simp[List.getD,List.getElem?_eq_getElem hla]]at hix
  have hdr:cs.drop i=cs[i]::cs.drop (i+1):=List.drop_eq_getElem_cons hla
  have ha:=jX (w:=2) (b:=16) (el:=73) (t:=.full) (aMo ⟨2,cs[i]⟩) (mI done) (cS (by rw[cH]; omega))
  obtain⟨y5,ih⟩:=aTj x0 x1 tg cs hl k (i+1) (done++[⟨2,cs[i]⟩]) (.iv (.bool true)) (by omega) (by simp[hd])
  rw[pY done,show aW [⟨2,cs[i]⟩]=[eY ⟨2,cs[i]⟩] from rfl,List.append_assoc,List.singleton_append]at ih
  rw[hdr,List.map_cons]
  refine⟨y5,aG K _ _ t89L0.eq_1 ?_⟩
  rw[show ((i+1:Nat):Int)=(i:Int)+1 by omega]at ih
  generalize cs[i]=c at *
  unfold eY i64 at *
  dsimp only at ha ih
  simp (config := { maxSteps := 4000000 }) (disch:=omega) only[go_sem,hix,ha,aB]
  exact congrArg er ih
theorem aTk (t:List UInt8)(hl:t.length≤1000000):TM.Pure K 89 [.iv (.str t)] (.iv (.sl (eM (aW (chV t))) (aW (chV t)))):=by
 obtain⟨tg,e,c62⟩:=aZz t (by omega)
 have hcl:=aC7 (t:=t)
 obtain⟨y5,l1⟩:=aTj (.iv (.str t)) (.iv (.sl .nil [])) tg (chs t) (by omega) (chs t).length 0 [] u_ (by omega) rfl
 rw[List.drop_zero,List.nil_append,←pU]at l1
 rw[show ((0:Nat):Int)=0 from rfl,show aW []=[] from rfl,cQ,eU]at l1
 refine aX t89 rfl rfl ?_
 simp (config := { maxSteps := 4000000 }) (disch:=omega) only[t89,go_sem,aE c62]
 rw[l1]
 simp (config := { maxSteps := 4000000 }) (disch:=omega) only[go_sem]
theorem aZ0 (tg:Tag)(l:List Vv)(hl:l.length≤1000000):∃t',TM.Pure K 115 [.iv (.sl tg (aW l))] (.iv (.sl t' (aW l))):=by
 have ha:=aX7 (w:=2) (b:=16) (el:=73) (l:=[]) (ys:=aW l) (x:=.iv (.sl tg (aW l))) (fun S=>iH.sl ..) (mI l) (fun y hy=>by cases hy) (cS (by rw[cH]; simp; omega))
 rw[cQ,eU,List.nil_append]at ha
 refine⟨eM (aW l),aX t115 rfl rfl ?_⟩
 simp (config := { maxSteps := 4000000 }) (disch:=omega) only[t115,go_sem,ha]
theorem ixV {tg:Tag}{l:List Vv}{i:Nat}(h:i<l.length):indexAddrS 2 (.iv (.sl tg (aW l))) (i:Int)=some (.iv (.cp [.int .i64 l[i].k,.int .i64 l[i].n])):=by
 have he:(aW l)[(i:Int).toNat]? = some (eY l[i]):=by rw[Int.toNat_natCast]; unfold aW; rw[List.getElem?_map,List.getElem?_eq_getElem h]; rfl
 exact aNl (by omega) he rfl
theorem bId (a c x y:Int):eqAgg true [(0,LK.int),(1,LK.int)] (.iv (.agg [.int .i64 a,.int .i64 c])) (.iv (.agg [.int .i64 x,.int .i64 y]))=some (.bool (!(decide (a=x∧c=y)))):=by
 by_cases h1:a=x
 ·by_cases h2:c=y
  ·subst h1; subst h2; simp[eqAgg,fM,jI]
  ·subst h1; simp[eqAgg,fM,jI,h2,show (c==y)=false by simp[h2]]
 ·simp[eqAgg,fM,jI,h1,show (a==x)=false by simp[h1]]
theorem aMp {tg th:Tag}{l m:List Vv}(hlm:l.length=m.length)(hl:l.length≤100000000)(x2 x4:TV)(S:aA):∀(k i:Nat) (x5 x6:TV),i+k=l.length →
  ∃y3 y5 y6,(l.drop i=m.drop i∧lp' (lim K) t114L0 [.iv (.sl tg (aW l)),.iv (.sl th (aW m)),x2,.iv (.int .i64 i),x4,x5,x6] S=.ret (.exit 0,[.iv (.sl tg (aW l)),.iv (.sl th (aW m)),x2,y3,x4,y5,y6],S))∨(l.drop i≠m.drop i∧lp' (lim K) t114L0 [.iv (.sl tg (aW l)),.iv (.sl th (aW m)),x2,.iv (.int .i64 i),x4,x5,x6] S=.ret (.ret,[.iv (.sl tg (aW l)),.iv (.sl th (aW m)),.iv (.bool false),y3,x4,y5,y6],S))
 | 0,i,x5,x6,h=>by
  obtain rfl:i=l.length:=by omega
  have hle:=cH l
  refine⟨.iv (.int .i64 l.length),.iv (.bool false),x6,.inl ⟨by rw[List.drop_length,hlm,List.drop_length],aG K _ _ t114L0.eq_1 ?_⟩⟩
  simp (config := { maxSteps := 4000000 }) (disch:=omega) only[go_sem,hle]
 | k+1,i,x5,x6,h=>by
  have hla:i<l.length:=by omega
  have hlb:i<m.length:=by omega
  have hle:=cH l
  have h1:=ixV (tg:=tg) hla
  have h2:=ixV (tg:=th) hlb
  have d1:l.drop i=l[i]::l.drop (i+1):=List.drop_eq_getElem_cons hla
  have d2:m.drop i=m[i]::m.drop (i+1):=List.drop_eq_getElem_cons hlb
  have gg:∀(E:Env) (T:aA) (a c:Int),bH E T (.iv (.cp [.int .i64 a,.int .i64 c])) 2=some [.iv (.int .i64 a),.iv (.int .i64 c)]:=fun E T a c=>by simp[bH,TM.sub]
  rw[d1,d2]
  have eq2:=bId l[i].k l[i].n m[i].k m[i].n
  by_cases he:l[i]=m[i]
  ·obtain⟨y3,y5,y6,ih⟩:=aMp (tg:=tg) (th:=th) hlm hl x2 x4 S k (i+1) (.iv (.bool true)) (.iv (.bool false)) (by omega)
   rw[show ((i+1:Nat):Int)=(i:Int)+1 by omega]at ih
   refine⟨y3,y5,y6,?_⟩
   rw[←he]at h2 eq2
   rw[decide_eq_true ⟨rfl,rfl⟩]at eq2
   rcases ih with⟨e1,ih⟩|⟨e1,ih⟩
   ·refine .inl ⟨by rw[he,e1],aG K _ _ t114L0.eq_1 ?_⟩
    simp (config := { maxSteps := 4000000 }) (disch:=omega) only[go_sem,hle,h1,h2,gg,eq2,Bool.not_true,Bool.not_false,aB]
    exact congrArg er ih
   ·refine .inr ⟨fun e=>e1 (List.cons.inj e).2,aG K _ _ t114L0.eq_1 ?_⟩
    simp (config := { maxSteps := 4000000 }) (disch:=omega) only[go_sem,hle,h1,h2,gg,eq2,Bool.not_true,Bool.not_false,aB]
    exact congrArg er ih
  ·have hne:¬(l[i].k=m[i].k∧l[i].n=m[i].n):=fun hh=>he (by
    generalize l[i]=u at *
    generalize m[i]=v at *
    obtain⟨u1,u2⟩:=u
    obtain⟨v1,v2⟩:=v
    obtain⟨h3,h4⟩:=hh
    dsimp only at h3 h4
    rw[h3,h4])
   rw[decide_eq_false hne]at eq2
   refine⟨.iv (.int .i64 i),.iv (.bool true),.iv (.bool true),.inr ⟨fun e=>he (List.cons.inj e).1,aG K _ _ t114L0.eq_1 ?_⟩⟩
   simp (config := { maxSteps := 4000000 }) (disch:=omega) only[go_sem,hle,h1,h2,gg,eq2,Bool.not_true,Bool.not_false,aB]
theorem aZ1 {tg th:Tag}{l m:List Vv}(hl:l.length≤100000000)(hm:m.length≤100000000):∃r:Bool,(r=true↔l=m)∧TM.Pure K 114 [.iv (.sl tg (aW l)),.iv (.sl th (aW m))] (.iv (.bool r)):=by
 have h1:=cH l
 have h2:=cH m
 by_cases hlm:l.length=m.length
 ·obtain⟨y3,y5,y6,hh⟩:=aMp (tg:=tg) (th:=th) hlm hl (.iv (.bool false)) (.iv (.bool false)) [] l.length 0 u_ u_ (by omega)
  rw[List.drop_zero,List.drop_zero,show ((0:Nat):Int)=0 from rfl]at hh
  rcases hh with⟨e,lp⟩|⟨e,lp⟩
  ·refine⟨true,by simp[e],aX t114 rfl rfl ?_⟩
   simp (config := { maxSteps := 4000000 }) (disch:=omega) only[t114,go_sem,h1,h2,hlm]
   rw[lp]
   simp (config := { maxSteps := 4000000 }) (disch:=omega) only[go_sem]
  ·refine⟨false,by simp[e],aX t114 rfl rfl ?_⟩
   simp (config := { maxSteps := 4000000 }) (disch:=omega) only[t114,go_sem,h1,h2,hlm]
   rw[lp]
   simp (config := { maxSteps := 4000000 }) (disch:=omega) only[go_sem]
 ·refine⟨false,by simp; rintro rfl; exact hlm rfl,aX t114 rfl rfl ?_⟩
  have hne:¬((l.length:Int)=m.length):=by omega
  simp (config := { maxSteps := 4000000 }) (disch:=omega) only[t114,go_sem,h1,h2,hne]
theorem oJ {w jw:Nat}{W:List (List IV)}{i:Nat}{c:List IV}(h:W[i]? = some c)(hw:c.length=w):indexAddrS w (acc jw W) (i:Int)=some (.iv (.cp c)):=by
 have hne:W≠[]:=by rintro rfl; simp at h
 rw[iI _ hne]
 exact aX4 (by omega) (by rw[Int.toNat_natCast]; exact h) hw
theorem bE9 {b:Int}{σ:Sg}(h:Gd b σ){q:Nat}{o:Ob}(hq:σ.L[q]? = some o):o.kd.length≤σ.mem.length:=by
 have h2:=uG h
 have h3:∀l:List Ob,o∈l→dY o≤(l.map dY).sum:=fun l=>by
  induction l with
  | nil=>intro h; cases h
  | cons a r ih =>
   intro h
   rw[List.map_cons,List.sum_cons]
   rcases List.mem_cons.1 h with rfl|h
   ·omega
   ·have:=ih h; omega
 have:=h3 σ.L (List.mem_of_getElem? hq)
 have:o.kd.length≤dY o:=by unfold dY; omega
 omega
theorem uI {l:List Vv}{i:Nat}(h:i<l.length):(aW l)[i]? = some (eY l[i]):=by unfold aW; rw[List.getElem?_map,List.getElem?_eq_getElem h]; rfl
theorem aTl {b:Int}{j:Nat}{P:Rl}{t:List UInt8}(hok:okC t=true)(ht:t.length≤1000000)(tg:Tag)(x5 x6:TV)(hsl:P.σ.sy.length≤10000000):∀(k i:Nat) (S:aA) (x4 x7 x8:TV),i+k=P.σ.sy.length→RB b S j P→P.σ.mem.length≤10000000 →
  ∃S' y3 y4 y7 y8,jB [] S S'∧((∃x,(P.σ.sy.drop i).find? (fun x=>x.1==t)=some x∧lp' (lim K) t90L0 [.ptr j 64 0,.iv (.sl tg (aW (chV t))),.lb [.iv (.int .i64 0),.iv (.int .i64 0)],.iv (.int .i64 i),x4,x5,x6,x7,x8] S=.ret (.ret,[.ptr j 64 0,.iv (.sl tg (aW (chV t))),.lb [.iv (.int .i64 7),.iv (.int .i64 x.2)],y3,y4,x5,x6,y7,y8],S')) ∨
   ((P.σ.sy.drop i).find? (fun x=>x.1==t)=none∧lp' (lim K) t90L0 [.ptr j 64 0,.iv (.sl tg (aW (chV t))),.lb [.iv (.int .i64 0),.iv (.int .i64 0)],.iv (.int .i64 i),x4,x5,x6,x7,x8] S=.ret (.exit 0,[.ptr j 64 0,.iv (.sl tg (aW (chV t))),.lb [.iv (.int .i64 0),.iv (.int .i64 0)],y3,y4,x5,x6,y7,y8],S')))
 | 0,i,S,x4,x7,x8,h,hR,hxl=>by
  obtain rfl:i=P.σ.sy.length:=by omega
  have hls:(aW (cK P.σ)).length=P.σ.sy.length:=by rw[cH]; exact List.length_map _
  have ho:=hR.own
  unfold rB at ho
  refine⟨S,.iv (.int .i64 P.σ.sy.length),x4,.iv (.bool false),x8,jB.refl _ _,.inr ⟨by rw[List.drop_length]; rfl,aG K _ _ t90L0.eq_1 ?_⟩⟩
  simp (config := { maxSteps := 4000000 }) (disch:=omega) only[go_sem,ho,bU,hls]
 | k+1,i,S,x4,x7,x8,h,hR,hxl=>by
  have hla:i<P.σ.sy.length:=by omega
  have hls:(aW (cK P.σ)).length=P.σ.sy.length:=by rw[cH]; exact List.length_map _
  have hdr:P.σ.sy.drop i=P.σ.sy[i]::P.σ.sy.drop (i+1):=List.drop_eq_getElem_cons hla
  obtain⟨hok2,q,hq1,hq2⟩:=hR.gd.sy P.σ.sy[i] (List.getElem_mem _)
  obtain⟨c1,hc1,t1,t2,_,_,_,e1⟩:=hR.ro.at _ _ hq1
  obtain⟨c2,hc2,t3,t4,_,_,_,e2⟩:=hR.ro.at _ _ hq2
  have hlt:=Nat.le_trans (bE9 hR.gd hq2) hxl
  dsimp only at hlt
  have i0:indexAddrS 2 (acc P.js (aW (cK P.σ))) (i:Int)=some (.iv (.cp [.int .i64 7,.int .i64 P.σ.sy[i].2])):=by
   refine oJ (c:=eY ⟨7,P.σ.sy[i].2⟩) ?_ rfl
   show (((P.σ.sy.map fun x=>(⟨7,x.2⟩:Vv))).map eY)[i]? = _
   rw[List.map_map,List.getElem?_map,List.getElem?_eq_getElem hla]; rfl
  have i1:indexAddrS 5 (acc P.jl P.LO) ((P.σ.sy[i].2:Nat):Int)=some (.iv (.cp c1)):=oJ hc1 (by rw[e1]; rfl)
  have i2:indexAddrS 5 (acc P.jl P.LO) (q:Int)=some (.iv (.cp c2)):=oJ hc2 (by rw[e2]; rfl)
  have i3:indexAddrS 2 (.iv (.sl t1 (aW [⟨7,(q:Int)⟩]))) 0=some (.iv (.cp [.int .i64 7,.int .i64 q])):=rfl
  dsimp only at e1 e2
  rw[e1]at i1
  rw[e2]at i2
  obtain⟨r,hr,c114⟩:=aZ1 (tg:=t3) (th:=tg) (l:=chV P.σ.sy[i].1) (m:=chV t) (by omega) (by have:=xG t; omega)
  have ho:=hR.own
  unfold rB at ho
  have gg:∀(E:Env) (T:aA) (a c:Int),bH E T (.iv (.cp [.int .i64 a,.int .i64 c])) 2=some [.iv (.int .i64 a),.iv (.int .i64 c)]:=fun E T a c=>by simp[bH,TM.sub]
  have ho2:=fun l=>mV ho l
  have hR2:=hR.app [.cells 74 false [.iv (.int .i64 7),.iv (.int .i64 q)]]
  rw[hdr]
  by_cases he:P.σ.sy[i].1=t
  ·have hrt:r=true:=hr.2 (by rw[he])
   rw[hrt]at c114
   refine⟨S++[.cells 74 false [.iv (.int .i64 7),.iv (.int .i64 q)]],.iv (.int .i64 i),.ptr S.length 74 0,.iv (.bool true),.iv (.bool true),jB.app _ _ _,.inl ⟨P.σ.sy[i],by rw[List.find?_cons_of_pos (by simp[he])],aG K _ _ t90L0.eq_1 ?_⟩⟩
   generalize P.σ.sy[i]=y at *
   simp (config := { maxSteps := 4000000 }) (disch:=omega) only[go_sem,ho,ho2,bU,hls,i0,i1,i2,i3,gg,aE c114,ao0,aoS]
  ·have hrf:r=false:=by
    cases r with
    | false=>rfl
    | true=>exact absurd (aZo hok2 hok (hr.1 rfl)) he
   rw[hrf]at c114
   obtain⟨S',y3,y4,y7,y8,hk,ih⟩:=aTl (b:=b) hok ht tg x5 x6 hsl k (i+1) _ (.ptr S.length 74 0) (.iv (.bool true)) (.iv (.bool false)) (by omega) hR2 hxl
   rw[show ((i+1:Nat):Int)=(i:Int)+1 by omega]at ih
   rw[List.find?_cons_of_neg (by simp[he])]
   refine⟨S',y3,y4,y7,y8,(jB.app [] S _).trans hk,?_⟩
   rcases ih with⟨x,e,ih⟩|⟨e,ih⟩
   ·refine .inl ⟨x,e,aG K _ _ t90L0.eq_1 ?_⟩
    generalize P.σ.sy[i]=y at *
    simp (config := { maxSteps := 4000000 }) (disch:=omega) only[go_sem,ho,ho2,bU,hls,i0,i1,i2,i3,gg,aE c114,aB,ao0,aoS]
    exact congrArg er ih
   ·refine .inr ⟨e,aG K _ _ t90L0.eq_1 ?_⟩
    generalize P.σ.sy[i]=y at *
    simp (config := { maxSteps := 4000000 }) (disch:=omega) only[go_sem,ho,ho2,bU,hls,i0,i1,i2,i3,gg,aE c114,aB,ao0,aoS]
    exact congrArg er ih
theorem RB.note {b:Int}{S:aA}{j:Nat}{P:Rl}(h:RB b S j P){t:List UInt8}{i:Nat}(hg:Gd b (gQ P.σ t i))(hl:P.σ.sy.length≤10000000) :
  ∃js' S',bW false 2 16 73 S (acc P.js (aW (cK P.σ))) (.iv (.sl .full [[.int .i64 7,.int .i64 i]]))=some (acc js' (aW (cK (gQ P.σ t i))),S')∧S'[j]? = some (rB P)∧RB b (S'.set j (rB ⟨P.jl,js',P.LO,gQ P.σ t i,P.load,P.wide⟩)) j ⟨P.jl,js',P.LO,gQ P.σ t i,P.load,P.wide⟩∧KR j S (S'.set j (rB ⟨P.jl,js',P.LO,gQ P.σ t i,P.load,P.wide⟩)) P ⟨P.jl,js',P.LO,gQ P.σ t i,P.load,P.wide⟩:=by
 have hls:(aW (cK P.σ)).length=P.σ.sy.length:=by rw[cH]; exact List.length_map _
 obtain⟨js',S',ap,g⟩:=h.gs.more (x:=.iv (.sl .full (aW [⟨7,i⟩]))) (iH.sl ..) (mI [⟨7,(i:Int)⟩]) (mI (cK P.σ)) (b:=16) (cS (by rw[hls,cH,List.length_singleton]; omega)) (Nat.zero_le _)
 have es:aW (cK P.σ)++aW [⟨7,(i:Int)⟩]=aW (cK (gQ P.σ t i)):=by
  rw[←pY]; unfold cK gQ; simp
 have gg:=g.gl
 rw[es]at ap gg
 have tj:∀q,TkR P q→q≠j:=fun q hq=>h.tkj hq
 have o2:S'[j]? = some (rB P):=g.old _ _ h.own fun hn e=>tj j (.inr ⟨eF.1 hn,e⟩) rfl
 have hne:aW (cK (gQ P.σ t i))≠[]:=by rw[←es]; exact fun e=>by simp[aW]at e
 have hjs:js'≠j:=fun e=>by
  have:=gg.tok hne
  rw[e,o2]at this; unfold rB at this; cases this
 have fr:(cK P.σ≠[]∧js'=P.js)∨S.length≤js':=by
  by_cases h0:aW (cK P.σ)=[]
  ·exact .inr (g.frsh h0 (by simp[aW]))
  ·exact .inl ⟨eF.1 h0,g.same h0⟩
 refine⟨js',S',ap,o2,⟨eI (cM o2) _,⟨fun hn=>?_,fun _=>Nat.zero_le _⟩,⟨fun hn=>by rw[bV (Ne.symm hjs)]; exact gg.tok hn,fun _=>Nat.zero_le _⟩,h.ro,fun h1 _ e=>?_,h.ld,hg⟩,⟨by rw[List.length_set]; exact g.len,fun q B hq h1 h2=>?_,fun q hq=>?_⟩⟩
 ·rw[bV (Ne.symm (tj _ (.inl ⟨hn,rfl⟩)))]
  exact g.old _ _ (h.gl.tok hn) fun h0 e=>h.dis hn (eF.1 h0) e
 ·rcases fr with⟨h0,e1⟩|h0
  ·exact h.dis h1 h0 (by dsimp only at e ⊢; rw[e,e1])
  ·have:=cM (h.gl.tok h1); dsimp only at e; omega
 ·rw[bV (Ne.symm h1)]
  exact g.old q B hq fun h0 e=>h2 (.inr ⟨eF.1 h0,e⟩)
 ·rcases hq with⟨h1,e⟩|⟨_,e⟩
  ·exact .inl (.inl ⟨h1,e⟩)
  ·rcases fr with⟨h0,e1⟩|h0
   ·exact .inl (.inr ⟨h0,by dsimp only at e ⊢; rw[e,e1]⟩)
   ·exact .inr (by dsimp only at e; omega)
theorem aAw {b:Int}{σ:Sg}(h:Gd b σ):σ.L.length≤σ.mem.length:=by
 have h2:=uG h
 have h3:∀l:List Ob,l.length≤(l.map dY).sum:=fun l=>by
  induction l with
  | nil=>exact Nat.zero_le _
  | cons a r ih=>rw[List.map_cons,List.sum_cons,List.length_cons]; have:1≤dY a:=(by unfold dY; omega); omega
 have:=h3 σ.L
 omega
theorem aIz:bP .nil (dg 10 ((0:Int).natAbs:Int)):=by rw[show ((0:Int).natAbs:Int)=0 from rfl,dN]; exact bP.nil
theorem bFa {b:Int}{S:aA}{j:Nat}{P:Rl}(h:RB b S j P)(t:List UInt8)(ht:t.length≤100000)(hok:okC t=true)(hm:(oF b t P.σ).2.mem.length≤10000000)(tg:Tag) :
  ∃S' P',(lim K).call 90 [.ptr j 64 0,.iv (.sl tg (aW (chV t)))] S=.ret (.iv (.agg (eY (oF b t P.σ).1)),S')∧RB b S' j P'∧KR j S S' P P'∧P'.σ=(oF b t P.σ).2:=by
 have hle:=(aIu b t P.σ).len.1
 have hm0:P.σ.mem.length≤10000000:=Nat.le_trans hle hm
 have hlm:=aMk h.gd
 have hLm:=aAw h.gd
 have hcv:=xG t
 obtain⟨S1,y3,y4,y7,y8,hk,hh⟩:=aTl (b:=b) hok (by omega) tg u_ u_ (by omega) P.σ.sy.length 0 S u_ u_ u_ (by omega) h hm0
 rw[List.drop_zero,show ((0:Nat):Int)=0 from rfl]at hh
 rcases hh with⟨x,hf,l1⟩|⟨hf,l1⟩
 ·rw[pW hf]
  refine⟨S1,P,aD K _ (fn:=t90) rfl rfl ?_,h.of_keep hk,KR.of_keep hk j P,rfl⟩
  unfold eY
  simp (config := { maxSteps := 4000000 }) (disch:=omega) only[t90,go_sem]
  rw[l1]
  simp (config := { maxSteps := 4000000 }) (disch:=omega) only[go_sem]
 ·have hg3:=aMm (t:=t) h.gd hok
  rw[pV hf]at hm ⊢
  obtain⟨tc,c115⟩:=aZ0 tg (chV t) (by omega)
  have hz:(dg 10 ((0:Int).natAbs:Int)).length=0:=by rw[show ((0:Int).natAbs:Int)=0 from rfl,dN]; rfl
  have hd0:TM.one i64 (dg 10 ((0:Int).natAbs:Int))=[]:=by rw[show ((0:Int).natAbs:Int)=0 from rfl,dN]; rfl
  obtain⟨S2,jl1,c1,ll1,w1,c88,hR1,hK1⟩:=rL (h.of_keep hk) (o:=⟨4,chV t,0⟩) (aC8 _ t 4 (by decide)) (by show (chV t).length≤_; omega) (by show (dg 10 ((0:Int).natAbs:Int)).length≤_; omega) (by omega) tc aIz
  have e1:(push b P.σ ⟨4,chV t,0⟩).2.mem.length≤10000000:=Nat.le_trans (LeS.push b (push b P.σ ⟨4,chV t,0⟩).2 ⟨5,[(push b P.σ ⟨4,chV t,0⟩).1],0⟩).len.1 hm
  have hLm1:=aAw hR1.gd
  obtain⟨S3,jl2,c2,ll2,w2,c88b,hR2,hK2⟩:=rL hR1 (o:=⟨5,[(push b P.σ ⟨4,chV t,0⟩).1],0⟩) hg3.2 (by show 1≤_; omega) (by show (dg 10 ((0:Int).natAbs:Int)).length≤_; omega) (by dsimp only at hLm1 ⊢; omega) .full aIz
  obtain⟨js',S4,ap,o2,hR3,hK3⟩:=hR2.note (t:=t) (i:=(push b P.σ ⟨4,chV t,0⟩).2.L.length) hg3.1 (by show P.σ.sy.length≤_; omega)
  refine⟨_,_,aD K _ (fn:=t90) (r:=(.iv (.agg (eY (push b (push b P.σ ⟨4,chV t,0⟩).2 ⟨5,[(push b P.σ ⟨4,chV t,0⟩).1],0⟩).1)),_)) rfl rfl ?_,hR3,(((KR.of_keep hk j P).trans hK1).trans hK2).trans hK3,rfl⟩
  have o3:=hR2.own
  dsimp only at c88 c88b ap o2 o3 ⊢
  rw[hd0]at c88 c88b
  have v1:eY (push b P.σ ⟨4,chV t,0⟩).1=[.int .i64 7,.int .i64 P.σ.L.length]:=rfl
  have v2:eY (push b (push b P.σ ⟨4,chV t,0⟩).2 ⟨5,[(push b P.σ ⟨4,chV t,0⟩).1],0⟩).1=[.int .i64 7,.int .i64 (push b P.σ ⟨4,chV t,0⟩).2.L.length]:=rfl
  have v3:aW [(push b P.σ ⟨4,chV t,0⟩).1]=[[.int .i64 7,.int .i64 P.σ.L.length]]:=rfl
  rw[v1]at c88
  rw[v2,v3]at c88b
  rw[v2]
  generalize hp1:push b P.σ ⟨4,chV t,0⟩=p1 at *
  generalize hp2:push b p1.2 ⟨5,[p1.1],0⟩=p2 at *
  clear hR1 hK1 hR2 hK2 hR3 hK3 h hg3 hm
  unfold rB at *
  dsimp only at ap o2 o3 ⊢
  have es:=fun B=>eI (cM o2) B
  simp (config := { maxSteps := 4000000 }) (disch:=omega) only[t90,go_sem]
  rw[l1]
  simp (config := { maxSteps := 4000000 }) (disch:=omega) only[go_sem,aE c115,show decide ((0:Int)<0)=false from rfl]at c88 c88b ⊢
  simp (config := { maxSteps := 4000000 }) (disch:=omega) only[go_sem,aE c115,c88,c88b,o3,ap,o2,es]
theorem aZ2 (t:List UInt8)(hl:t.length≤1000):∃tg e,bP tg (dg 10 ((zP t).natAbs:Int))∧TM.Pure K 86 [.iv (.str t)] (.tup [.iv (dd tg (zP t)),.iv (.int .i64 e)]):=by
 obtain⟨tg,ht,c⟩:=aSn t hl
 unfold zP
 by_cases hok:okP t=true
 ·have hall:(body t).all isD=true:=by simp only[okP,Bool.and_eq_true]at hok; exact hok.2
  have h0:=jG hall
  rw[if_pos hok]at c ⊢
  rw[aMe h0]at c
  exact⟨tg,0,by rw[yB _ h0]; exact ht,c⟩
 ·rw[if_neg hok]at c ⊢
  refine⟨.nil,4,aIz,?_⟩
  have e:dd .nil 0=kK false .nil []:=by
   unfold dd
   show kK (decide ((0:Int)<0)) .nil (dg 10 0)=_
   rw[dN]; rfl
  rw[e]; exact c
theorem aI0 {z:Int}(h:-536870912≤z∧z≤536870911):(dg 10 (z.natAbs:Int)).length≤18:=by
 refine oD (by decide) _ _ (by omega) ?_
 have:(10:Int) ^ 18=1000000000000000000:=by decide
 omega
theorem bFb {b:Int}{S:aA}{j:Nat}{P:Rl}(h:RB b S j P)(z:Int)(hz:(dg 10 (z.natAbs:Int)).length≤90000){tg:Tag}(ht:bP tg (dg 10 (z.natAbs:Int)))(hm:(oE b z P.σ).2.mem.length≤10000000) :
  ∃S' P',(lim K).call 87 [.ptr j 64 0,.iv (dd tg z)] S=.ret (.iv (.agg (eY (oE b z P.σ).1)),S')∧RB b S' j P'∧KR j S S' P P'∧P'.σ=(oE b z P.σ).2:=by
 have c111:TM.Pure K 111 [.iv (dd tg z),.iv (.str [45,53,51,54,56,55,48,57,49,50]),.iv (.str [53,51,54,56,55,48,57,49,49])] (.iv (.bool (decide (-536870912≤z∧z≤536870911)))) :=
  bL (aZe tg z hz [45,53,51,54,56,55,48,57,49,50] [53,51,54,56,55,48,57,49,49] (-536870912) 536870911 (by decide) (by decide) (by decide) (by decide) (by decide) (by decide) (by decide +kernel) (by decide +kernel)) rfl
 have hb:=RB.ld h
 have hle:=aAw h.gd
 unfold oE at hm ⊢
 by_cases hs:-536870912≤z∧z≤536870911
 ·rw[if_pos hs]at hm ⊢
  rw[decide_eq_true hs]at c111
  have c112:TM.Pure K 112 [.iv (dd tg z)] (.iv (.int .i64 z)):=by
   have:=aZf (decide (z<0)) tg (dg 10 z.natAbs) (kM (by decide) (by omega)) (aI0 hs)
   rw[lC (by decide) (by omega),bDi]at this
   exact bL this rfl
  refine⟨S,P,aD K _ (fn:=t87) rfl rfl ?_,h,KR.refl ..,rfl⟩
  unfold dd kK eY at *
  simp (config := { maxSteps := 4000000 }) (disch:=omega) only[t87,go_sem,aE c111,aE c112]
 ·rw[if_neg hs]at hm ⊢
  rw[decide_eq_false hs]at c111
  have hp:=gZ b P.σ ⟨7,[],z⟩
  obtain⟨S',jl',c,l,w,c88,hR,hK⟩:=rL h (o:=⟨7,[],z⟩) ⟨(fun v hv=>by cases hv),(by show (0:Int)≤7; decide),(by show (7:Int)≤7; decide)⟩ (by show 0≤_; omega) (by show (dg 10 (z.natAbs:Int)).length≤_; omega) (by omega) .nil ht
  refine⟨S',_,aD K _ (fn:=t87) rfl rfl ?_,hR,hK,rfl⟩
  dsimp only at c88
  have e0:aW []=[]:=rfl
  have v1:eY (push b P.σ ⟨7,[],z⟩).1=[.int .i64 7,.int .i64 P.σ.L.length]:=rfl
  rw[v1]at c88 ⊢
  rw[e0]at c88
  unfold dd kK at *
  simp (config := { maxSteps := 4000000 }) (disch:=omega) only[t87,go_sem,aE c111,c88]
def lbV (v:Vv):TV:=.lb [.iv (.int .i64 v.k),.iv (.int .i64 v.n)]
theorem aDa:(dg 10 ((0:Int).natAbs:Int)).length=0:=by rw[show ((0:Int).natAbs:Int)=0 from rfl,dN]; rfl
theorem aDb:TM.one i64 (dg 10 ((0:Int).natAbs:Int))=[]:=by rw[show ((0:Int).natAbs:Int)=0 from rfl,dN]; rfl
theorem aTm {b:Int}{j:Nat}(x2:TV)(jw:Nat)(x4:TV){l:List Vv}(hl:l.length≤1000000):∀(k:Nat) (S:aA) (P:Rl) (v:Vv) (x6:TV),k≤l.length→(∀u∈l,OkV P.σ.L.length u)→OkV P.σ.L.length v→RB b S j P→(fF b (l.take k).reverse v P.σ).2.mem.length≤10000000 →
  ∃S' P' y6,lp' (lim K) t91L0 [.ptr j 64 0,acc jw (aW l),x2,lbV v,x4,.iv (.int .i64 ((k:Int)-1)),x6] S=.ret (.exit 0,[.ptr j 64 0,acc jw (aW l),x2,lbV (fF b (l.take k).reverse v P.σ).1,x4,.iv (.int .i64 (-1)),y6],S')∧RB b S' j P'∧KR j S S' P P'∧P'.σ=(fF b (l.take k).reverse v P.σ).2
 | 0,S,P,v,x6,hk,hx,hv,hR,hm=>by
  rw[List.take_zero,List.reverse_nil,fF]
  refine⟨S,P,.iv (.bool false),aG K _ _ t91L0.eq_1 ?_,hR,KR.refl ..,rfl⟩
  rw[show ((0:Nat):Int)-1 = -1 by omega]
  simp (config := { maxSteps := 4000000 }) (disch:=omega) only[go_sem]
 | k+1,S,P,v,x6,hk,hx,hv,hR,hm=>by
  have hla:k<l.length:=by omega
  have htk:(l.take (k+1)).reverse=l[k]::(l.take k).reverse:=by
   rw[List.take_add_one,List.getElem?_eq_getElem hla,List.reverse_append]; rfl
  rw[htk,fF]at hm ⊢
  have hu:=hx l[k] (List.getElem_mem _)
  have hix:indexAddrS 2 (acc jw (aW l)) (k:Int)=some (.iv (.cp [.int .i64 l[k].k,.int .i64 l[k].n])):=oJ (uI hla) rfl
  have hpl:=gZ b P.σ ⟨0,[l[k],v],0⟩
  have hlt:=(oG b (l.take k).reverse (push b P.σ ⟨0,[l[k],v],0⟩).1 (push b P.σ ⟨0,[l[k],v],0⟩).2).len.1
  have hLl:=aAw hR.gd
  have hd:=aDa
  obtain⟨S1,jl',c,ld,w,c88,hR1,hK1⟩:=rL hR (o:=⟨0,[l[k],v],0⟩) ⟨(fun u hu'=>by
   rcases List.mem_cons.1 hu' with rfl|hu'
   ·exact hu
   ·rw[List.mem_singleton]at hu'; subst hu'; exact hv),(by show (0:Int)≤0; decide),(by show (0:Int)≤7; decide)⟩ (by show 2≤_; omega) (by show (dg 10 ((0:Int).natAbs:Int)).length≤_; omega) (by omega) .full aIz
  have hle:=LeS.push b P.σ ⟨0,[l[k],v],0⟩
  have hok1:=fS b P.σ ⟨0,[l[k],v],0⟩
  obtain⟨S',P',y6,ih,hR',hK',hσ'⟩:=aTm (b:=b) (j:=j) x2 jw x4 hl k S1 _ (push b P.σ ⟨0,[l[k],v],0⟩).1 (.iv (.bool true)) (by omega) (fun u hu=>(hx u hu).mono hle.len.2) hok1 hR1 hm
  refine⟨S',P',y6,aG K _ _ t91L0.eq_1 ?_,hR',hK1.trans hK',hσ'⟩
  rw[show ((k+1:Nat):Int)-1=k by omega]
  have v1:eY (push b P.σ ⟨0,[l[k],v],0⟩).1=[.int .i64 7,.int .i64 P.σ.L.length]:=rfl
  have v2:lbV (push b P.σ ⟨0,[l[k],v],0⟩).1=.lb [.iv (.int .i64 7),.iv (.int .i64 P.σ.L.length)]:=rfl
  have v3:aW [l[k],v]=[[.int .i64 l[k].k,.int .i64 l[k].n],[.int .i64 v.k,.int .i64 v.n]]:=rfl
  dsimp only at c88 ih ⊢
  rw[aDb,v1,v3,show decide ((0:Int)<0)=false from rfl]at c88
  rw[v2]at ih
  generalize hp:push b P.σ ⟨0,[l[k],v],0⟩=p at *
  generalize l[k]=u at *
  clear hR hR1 hK1 hR' hK' hx hm
  have e3:lbV v=.lb [.iv (.int .i64 v.k),.iv (.int .i64 v.n)]:=rfl
  rw[e3]
  simp (config := { maxSteps := 4000000 }) (disch:=omega) only[go_sem,hix,c88,aB]
  exact congrArg er ih
theorem bFc {b:Int}{S:aA}{j:Nat}{P:Rl}(h:RB b S j P)(jw:Nat){l:List Vv}(hl:l.length≤1000000)(v:Vv)(hx:∀u∈l,OkV P.σ.L.length u)(hv:OkV P.σ.L.length v)(hm:(fF b l.reverse v P.σ).2.mem.length≤10000000) :
  ∃S' P',(lim K).call 91 [.ptr j 64 0,acc jw (aW l),.iv (.agg (eY v))] S=.ret (.iv (.agg (eY (fF b l.reverse v P.σ).1)),S')∧RB b S' j P'∧KR j S S' P P'∧P'.σ=(fF b l.reverse v P.σ).2:=by
 have hle:=cH l
 obtain⟨S',P',y6,l1,hR,hK,hσ⟩:=aTm (b:=b) (j:=j) (.iv (.agg (eY v))) jw (.lb [.iv (.int .i64 0),.iv (.int .i64 0)]) hl l.length S P v u_ (Nat.le_refl _) hx hv h (by rw[List.take_length]; exact hm)
 rw[List.take_length]at l1 hσ
 refine⟨S',P',aD K _ (fn:=t91) rfl rfl ?_,hR,hK,hσ⟩
 unfold lbV eY at *
 simp (config := { maxSteps := 4000000 }) (disch:=omega) only[t91,go_sem,hle,bU,aB]
 rw[l1]
 simp (config := { maxSteps := 4000000 }) (disch:=omega) only[go_sem]
def mJ (b:Int)(n:Nat)(d:Dt):Prop:=∀(S:aA) (j:Nat) (P:Rl),RB b S j P→(eP b n d P.σ).2.mem.length≤10000000 →
 ∃S' P',(lim K).call 65 [.ptr j 64 0,.iv (.agg (eX d))] S=.ret (.iv (.agg (eY (eP b n d P.σ).1)),S')∧RB b S' j P'∧KR j S S' P P'∧P'.σ=(eP b n d P.σ).2∧OkV (eP b n d P.σ).2.L.length (eP b n d P.σ).1
theorem Gl.rowV {n0:Nat}{S:aA}{ys:List Vv}{jw:Nat}(g:Gl n0 S 2 73 (aW ys) jw)(h0:n0≤S.length)(v:Vv)(hl:ys.length≤20000000):∃jw' S',bW false 2 16 73 S (acc jw (aW ys)) (.iv (.sl .full [eY v]))=some (acc jw' (aW (ys++[v])),S')∧Gl n0 S' 2 73 (aW (ys++[v])) jw'∧S.length≤S'.length∧(∀q B,S[q]? = some B→(ys≠[]→q≠jw)→S'[q]? = some B)∧(jw'=jw∧ys≠[]∨S.length≤jw'):=by
 obtain⟨jw',S',ap,gr⟩:=g.more (x:=.iv (.sl .full (aW [v]))) (iH.sl ..) (mI [v]) (mI ys) (b:=16) (cS (by rw[cH,cH,List.length_singleton]; omega)) h0
 rw[←pY]at ap
 have gg:=gr.gl
 rw[←pY]at gg
 refine⟨jw',S',ap,gg,gr.len,fun q B hq hn=>gr.old q B hq fun h=>hn (eF.1 h),?_⟩
 by_cases h:ys=[]
 ·exact .inr (gr.frsh (by rw[h]; rfl) (by simp[aW]))
 ·exact .inl ⟨gr.same (eF.2 h),h⟩
theorem aTn {b:Int}(x2:TV)(j:Nat){g:Tag}{ks:List Dt}(hks:∀f d,d∈ks→2*d.w≤f→mJ b f d)(hl:ks.length≤1048576):∀(k i f:Nat) (S:aA) (P:Rl) (jw:Nat) (done:List Vv) (x5 x6:TV),i+k=ks.length→2*Dt.ws (ks.drop i)+1≤f→RB b S j P→Gl 0 S 2 73 (aW done) jw→(done≠[]→jw≠j∧¬TkR P jw)→(∀v∈done,OkV P.σ.L.length v)→done.length≤i→(cF b f (ks.drop i) P.σ).2.mem.length≤10000000 →
  ∃S' P' jw' y5 y6,lp' (lim K) t40L0 [.ptr j 64 0,.iv (.sl g (bT ks)),x2,acc jw (aW done),.iv (.int .i64 i),x5,x6] S=.ret (.exit 0,[.ptr j 64 0,.iv (.sl g (bT ks)),x2,acc jw' (aW (done++(cF b f (ks.drop i) P.σ).1)),.iv (.int .i64 ks.length),y5,y6],S')∧RB b S' j P'∧(∀S0 P0,KR j S0 S P0 P→(done≠[]→S0.length≤jw)→KR j S0 S' P0 P')∧P'.σ=(cF b f (ks.drop i) P.σ).2∧(∀v∈done++(cF b f (ks.drop i) P.σ).1,OkV (cF b f (ks.drop i) P.σ).2.L.length v)
 | 0,i,f,S,P,jw,done,x5,x6,h,hf,hR,hg,hd,hv,hdl,hm=>by
  obtain rfl:i=ks.length:=by omega
  rw[List.drop_length]at *
  have e:cF b f [] P.σ=([],P.σ):=by cases f<;>rw[cF]
  rw[e,List.append_nil]
  have hle:=bB ks
  refine⟨S,P,jw,x5,.iv (.bool false),aG K _ _ t40L0.eq_1 ?_,hR,fun S0 P0 hk _=>hk,rfl,hv⟩
  simp (config := { maxSteps := 4000000 }) (disch:=omega) only[go_sem,hle]
 | k+1,i,f,S,P,jw,done,x5,x6,h,hf,hR,hg,hd,hv,hdl,hm=>by
  have hla:i<ks.length:=by omega
  have hle:=bB ks
  have hdr:ks.drop i=ks[i]::ks.drop (i+1):=List.drop_eq_getElem_cons hla
  rw[hdr,Dt.ws]at hf
  obtain⟨f,rfl⟩:∃q,f=q+1:=⟨f-1,by omega⟩
  have hwi:=Dt.w_eq ks[i]
  rw[hdr,cF]at hm ⊢
  dsimp only at hm ⊢
  obtain⟨S1,P1,c65,hR1,hK1,hσ1,hv1⟩:=hks f ks[i] (List.getElem_mem _) (by omega) S j P hR (Nat.le_trans (sL b f _ _).len.1 hm)
  have hle1:=oH b f ks[i] P.σ
  have hg1:Gl 0 S1 2 73 (aW done) jw:=⟨fun hn=>by
   have hd':=hd (eF.1 hn)
   exact hK1.old _ _ (hg.tok hn) hd'.1 hd'.2,fun _=>Nat.zero_le _⟩
  obtain⟨jw2,S2,ap,hg2,hl2,ho2,hn2⟩:=hg1.rowV (Nat.zero_le _) (eP b f ks[i] P.σ).1 (by omega)
  have nt1:done≠[]→jw≠j∧¬TkR P1 jw:=fun hn=>by
   have hd':=hd hn
   have hlt:=cM (hg.tok (eF.2 hn))
   refine⟨hd'.1,fun hh=>?_⟩
   rcases hK1.new _ hh with h3|h3
   ·exact hd'.2 h3
   ·omega
  have tlt:∀q,TkR P1 q→q<S1.length:=fun q hq=>by
   obtain⟨n,w,e,ht⟩:=hR1.tok hq
   exact cM ht
  have hR2:RB b S2 j P1:=hR1.keep fun q B hq hh=>ho2 q B hq fun hn e=>by
   have hd':=nt1 hn
   rcases hh with h3|h3
   ·exact hd'.1 (by rw[←e,h3])
   ·exact hd'.2 (e▸h3)
  have nt2:jw2≠j∧¬TkR P1 jw2:=by
   rcases hn2 with⟨e1,hn⟩|hn
   ·rw[e1]; exact nt1 hn
   ·have:=cM hR1.own
    exact⟨by omega,fun hh=>by have:=tlt _ hh; omega⟩
  have hix:=ixD (g:=g) (ks:=ks) (i:=(i:Int)) (by omega)
  have hgd:ks.getD i default=ks[i]:=by simp[List.getD,List.getElem?_eq_getElem hla]
  rw[Int.toNat_natCast,hgd]at hix
  rw[←hσ1]at hm hv1 ⊢
  obtain⟨S',P',jw',y5,y6,ih,hR',hK',hσ',hv'⟩:=aTn x2 j (g:=g) hks hl k (i+1) f S2 P1 jw2 (done++[(eP b f ks[i] P.σ).1]) (lbV (eP b f ks[i] P.σ).1) (.iv (.bool true)) (by omega) (by omega) hR2 hg2 (fun _=>nt2) (fun v hv2=>by
   rcases List.mem_append.1 hv2 with hv2|hv2
   ·exact (hv v hv2).mono (by rw[hσ1]; exact hle1.len.2)
   ·rw[List.mem_singleton]at hv2; subst hv2; exact hv1) (by rw[List.length_append,List.length_singleton]; omega) hm
  rw[List.append_assoc,List.singleton_append]at ih hv'
  rw[show ((i+1:Nat):Int)=(i:Int)+1 by omega]at ih
  refine⟨S',P',jw',y5,y6,aG K _ _ t40L0.eq_1 ?_,hR',fun S0 P0 hk0 hj0=>hK' S0 P0 ?_ ?_,hσ',hv'⟩
  ·have hww:=Dt.w_eq ks[i]
   generalize ks[i]=d at *
   generalize (eP b f d P.σ).1=v at *
   rw[bA d]at c65 hix
   unfold eY lbV at *
   clear hR hR1 hR2 hR' hK' hks
   simp (config := { maxSteps := 4000000 }) (disch:=omega) only[go_sem,hle,hix,sC,c65,ap,aB,fD,eB]
   exact congrArg er ih
  ·have h1:=hk0.trans hK1
   exact⟨Nat.le_trans h1.len hl2,fun q B hq a1 a2=>ho2 q B (h1.old q B hq a1 a2) fun hn e=>by
    have:=hj0 hn
    have:=cM hq
    omega,h1.new⟩
  ·intro _
   rcases hn2 with⟨e1,hn⟩|hn
   ·rw[e1]; exact hj0 hn
   ·exact Nat.le_trans (hk0.trans hK1).len hn
theorem aI1 {b:Int}{ks:List Dt}(hks:∀f d,d∈ks→2*d.w≤f→mJ b f d)(hl:ks.length≤1048576){f:Nat}(hf:2*Dt.ws ks+1≤f)(g:Tag){S:aA}{j:Nat}{P:Rl}(h:RB b S j P)(hm:(cF b f ks P.σ).2.mem.length≤10000000) :
  ∃S' P' jw,(lim K).call 40 [.ptr j 64 0,.iv (.sl g (bT ks))] S=.ret (acc jw (aW (cF b f ks P.σ).1),S')∧RB b S' j P'∧KR j S S' P P'∧P'.σ=(cF b f ks P.σ).2∧∀v∈(cF b f ks P.σ).1,OkV (cF b f ks P.σ).2.L.length v:=by
 have hle:=bB ks
 obtain⟨S',P',jw',y5,y6,l1,hR',hK',hσ',hv'⟩:=aTn (.iv (.sl .nil [])) j (g:=g) hks hl ks.length 0 f S P 0 [] u_ u_ (by omega) (by rw[List.drop_zero]; exact hf) h (Gl.nil ..) (fun h=>absurd rfl h) (fun v hv=>by cases hv) (Nat.le_refl _) (by rw[List.drop_zero]; exact hm)
 rw[List.drop_zero,List.nil_append]at l1 hv'
 rw[List.drop_zero]at hσ'
 rw[show ((0:Nat):Int)=0 from rfl,show aW []=[] from rfl,cQ]at l1
 refine⟨S',P',jw',aD K _ (fn:=t40) rfl rfl ?_,hR',hK' S P (KR.refl ..) (fun h=>absurd rfl h),hσ',hv'⟩
 simp (config := { maxSteps := 4000000 }) (disch:=omega) only[t40,go_sem,hle]
 rw[l1]
 simp (config := { maxSteps := 4000000 }) (disch:=omega) only[go_sem,aAr]
theorem aN0 {b:Int}{n:Nat}{d:Dt}(hm0:dB d=true)(hk:d.k=1∨d.k=3∨d.k=9∨d.k=10∨d.k=0):mJ b (n+1) d:=by
 intro S j P h hm
 rw[eP]at hm ⊢
 have ok:∀k m:Int,k=1∨k=2∨k=3∨k=4∨k=5∨k=6→OkV P.σ.L.length ⟨k,m⟩:=fun k m hh=>⟨(fun h=>by dsimp only at h; omega),fun _=>hh⟩
 rcases hk with hk|hk|hk|hk|hk
 ·rw[if_pos hk]
  refine⟨S,P,aD K _ (fn:=t65) rfl rfl ?_,h,KR.refl ..,rfl,ok _ _ (by omega)⟩
  rw[bA]
  unfold eY
  simp (config := { maxSteps := 4000000 }) (disch:=omega) only[t65,go_sem,hk]
 ·rw[if_neg (by omega),if_neg (by omega),if_pos hk]
  refine⟨S,P,aD K _ (fn:=t65) rfl rfl ?_,h,KR.refl ..,rfl,ok _ _ (by omega)⟩
  rw[bA]
  unfold eY
  simp (config := { maxSteps := 4000000 }) (disch:=omega) only[t65,go_sem,hk]
 ·rw[if_neg (by omega),if_neg (by omega),if_neg (by omega),if_neg (by omega),if_neg (by omega),if_neg (by omega),if_neg (by omega),if_neg (by omega),if_pos hk]
  refine⟨S,P,aD K _ (fn:=t65) rfl rfl ?_,h,KR.refl ..,rfl,ok _ _ (by omega)⟩
  rw[bA]
  unfold eY
  simp (config := { maxSteps := 4000000 }) (disch:=omega) only[t65,go_sem,hk]
 ·rw[if_neg (by omega),if_neg (by omega),if_neg (by omega),if_neg (by omega),if_neg (by omega),if_neg (by omega),if_neg (by omega),if_neg (by omega),if_neg (by omega),if_pos hk]
  refine⟨S,P,aD K _ (fn:=t65) rfl rfl ?_,h,KR.refl ..,rfl,ok _ _ (by omega)⟩
  rw[bA]
  unfold eY
  simp (config := { maxSteps := 4000000 }) (disch:=omega) only[t65,go_sem,hk]
 ·rw[if_neg (by omega),if_neg (by omega),if_neg (by omega),if_neg (by omega),if_neg (by omega),if_neg (by omega),if_neg (by omega),if_neg (by omega),if_neg (by omega),if_neg (by omega)]
  refine⟨S,P,aD K _ (fn:=t65) rfl rfl ?_,h,KR.refl ..,rfl,ok _ _ (by omega)⟩
  rw[bA]
  unfold eY
  simp (config := { maxSteps := 4000000 }) (disch:=omega) only[t65,go_sem,hk]
theorem aZ3 {b:Int}{n:Nat}{d:Dt}(hw:d.w≤1000)(hk:d.k=2):mJ b (n+1) d:=by
 intro S j P h hm
 have hww:=Dt.w_eq d
 obtain⟨tg,e,htg,c86⟩:=aZ2 d.t (by omega)
 have hz:=aIw d.t
 rw[eP,if_neg (by omega),if_pos hk]at hm ⊢
 obtain⟨S',P',c87,hR',hK',hσ'⟩:=bFb h (zP d.t) (by omega) htg hm
 refine⟨S',P',aD K _ (fn:=t65) rfl rfl ?_,hR',hK',hσ',?_⟩
 ·rw[bA]
  generalize (oE b (zP d.t) P.σ).1=v at *
  unfold dd kK eY at *
  simp (config := { maxSteps := 4000000 }) (disch:=omega) only[t65,go_sem,hk,aE c86,c87,fD,eB]
 ·unfold oE
  split
  ·exact⟨(fun h=>by simp at h),fun _=>by simp⟩
  ·exact fS ..
theorem aZ4 {b:Int}{n:Nat}{d:Dt}(hw:d.w≤1000)(hk:d.k=4):mJ b (n+1) d:=by
 intro S j P h hm
 have hww:=Dt.w_eq d
 have hcl:=xG d.t
 rw[eP,if_neg (by omega),if_neg (by omega),if_neg (by omega),if_pos hk]at hm ⊢
 have c89:=aTk d.t (by omega)
 have hLl:=aAw h.gd
 have hle:=(LeS.push b P.σ ⟨4,chV d.t,0⟩).len.1
 obtain⟨S',jl',c,l,w,c88,hR',hK'⟩:=rL h (o:=⟨4,chV d.t,0⟩) (aC8 _ d.t 4 (by decide)) (by show (chV d.t).length≤_; omega) (by rw[aDa]; omega) (by omega) (eM (aW (chV d.t))) aIz
 refine⟨S',_,aD K _ (fn:=t65) rfl rfl ?_,hR',hK',rfl,fS ..⟩
 dsimp only at c88
 rw[aDb]at c88
 have v1:eY (push b P.σ ⟨4,chV d.t,0⟩).1=[.int .i64 7,.int .i64 P.σ.L.length]:=rfl
 rw[v1,show decide ((0:Int)<0)=false from rfl]at c88
 rw[v1,bA]
 simp (config := { maxSteps := 4000000 }) (disch:=omega) only[t65,go_sem,hk,aE c89,c88]
theorem aZ5 {b:Int}{n:Nat}{d:Dt}(hw:d.w≤1000)(hm0:dB d=true)(hk:d.k=5):mJ b (n+1) d:=by
 intro S j P h hm
 have hww:=Dt.w_eq d
 have hok:okC d.t=true:=by
  rw[iM,if_neg (by omega),if_neg (by omega),Bool.and_eq_true]at hm0
  have:=hm0.2; unfold lR at this
  simp[hk]at this
  exact this.1
 rw[eP,if_neg (by omega),if_neg (by omega),if_neg (by omega),if_neg (by omega),if_pos hk]at hm ⊢
 have c89:=aTk d.t (by omega)
 obtain⟨S',P',c90,hR',hK',hσ'⟩:=bFa h d.t (by omega) hok hm (eM (aW (chV d.t)))
 refine⟨S',P',aD K _ (fn:=t65) rfl rfl ?_,hR',hK',hσ',aTb h.gd⟩
 rw[bA]
 generalize (oF b d.t P.σ).1=v at *
 unfold eY at c90 ⊢
 simp (config := { maxSteps := 4000000 }) (disch:=omega) only[t65,go_sem,hk,aE c89,c90]
theorem aMq {b:Int}{S:aA}{j:Nat}{P:Rl}(h:RB b S j P){ty:Int}{kd:List Vv}(ho:OkO P.σ.L.length ⟨ty,kd,0⟩)(hkd:kd.length≤1000000)(hL:P.σ.L.length≤10000000)(jw:Nat) :
  ∃S' P',(kd=[]∧(lim K).call 88 [.ptr j 64 0,.iv (.agg [.int .i64 ty,.int .i64 0,.sl .nil [],.bool false,.sl .nil []])] S=.ret (.iv (.agg [.int .i64 7,.int .i64 P.σ.L.length]),S')∨kd≠[]∧(lim K).call 88 [.ptr j 64 0,.iv (.agg [.int .i64 ty,.int .i64 0,.sl .no (aW kd),.bool false,.sl .nil []])] S=.ret (.iv (.agg [.int .i64 7,.int .i64 P.σ.L.length]),S'))∧RB b S' j P'∧KR j S S' P P'∧P'.σ=(push b P.σ ⟨ty,kd,0⟩).2:=by
 have v1:eY (push b P.σ ⟨ty,kd,0⟩).1=[.int .i64 7,.int .i64 P.σ.L.length]:=rfl
 by_cases h0:kd=[]
 ·obtain⟨S',jl',c,l,w,c88,hR',hK'⟩:=rL h (o:=⟨ty,kd,0⟩) ho hkd (by rw[aDa]; omega) hL .nil aIz
  dsimp only at c88
  rw[aDb,v1,h0]at c88
  exact⟨S',_,.inl ⟨h0,c88⟩,hR',hK',rfl⟩
 ·obtain⟨S',jl',c,l,w,c88,hR',hK'⟩:=rL h (o:=⟨ty,kd,0⟩) ho hkd (by rw[aDa]; omega) hL .no aIz
  dsimp only at c88
  rw[aDb,v1]at c88
  exact⟨S',_,.inr ⟨h0,c88⟩,hR',hK',rfl⟩
theorem aTo {S0:aA}(d:Dt)(x0 x1 x3 x4 x7 x8 x9 x10 x11 x12 x13 x14 x15 x16 x17 x19 x20 x21 x22:TV)(hl:d.t.length≤1000000):∀(k i:Nat) (S:aA) (jw:Nat) (done:List Vv) (x18:TV),i+k=d.t.length→done.length=i→Gl S0.length S 2 73 (aW done) jw→jB [] S0 S →
  ∃S' jw' y18,lp' (lim K) t65L0 [x0,x1,lbD d,x3,x4,acc jw (aW done),.iv (.int .i64 i),x7,x8,x9,x10,x11,x12,x13,x14,x15,x16,x17,x18,x19,x20,x21,x22] S=.ret (.exit 0,[x0,x1,lbD d,x3,x4,acc jw' (aW (done++(d.t.drop i).map fun c=>⟨1,c.toNat⟩)),.iv (.int .i64 d.t.length),x7,x8,x9,x10,x11,x12,x13,x14,x15,x16,x17,y18,x19,x20,x21,x22],S')∧Gl S0.length S' 2 73 (aW (done++(d.t.drop i).map fun c=>⟨1,c.toNat⟩)) jw'∧jB [] S0 S'
 | 0,i,S,jw,done,x18,h,hd,hg,hk=>by
  obtain rfl:i=d.t.length:=by omega
  rw[List.drop_length,List.map_nil,List.append_nil]
  refine⟨S,jw,.iv (.bool false),aG K _ _ t65L0.eq_1 ?_,hg,hk⟩
  unfold lbD
  simp (config := { maxSteps := 4000000 }) (disch:=omega) only[go_sem]
 | k+1,i,S,jw,done,x18,h,hd,hg,hk=>by
  have hla:i<d.t.length:=by omega
  have hix:∀kd,tU (.iv (.str d.t)) (.iv (.int kd (i:Int)))=some (.iv (.int .u8 d.t[i].toNat)):=fun kd=>by
   have:=mS (kd:=kd) (s:=d.t) (i:=(i:Int)) (by omega)
   rw[Int.toNat_natCast,show d.t.getD i 0=d.t[i] by simp[List.getD,List.getElem?_eq_getElem hla]]at this
   exact this
  have hdr:d.t.drop i=d.t[i]::d.t.drop (i+1):=List.drop_eq_getElem_cons hla
  have hb:d.t[i].toNat<256:=d.t[i].toNat_lt
  obtain⟨jw1,S1,ap,hg1,hl1,ho1,_⟩:=hg.rowV hk.len ⟨1,d.t[i].toNat⟩ (by omega)
  have hk1:jB [] S0 S1:=⟨Nat.le_trans hk.len hl1,fun q B hq hb=>ho1 q B (hk.get q B hq hb) fun hn=>by have:=hg.new (eF.2 hn); have:=cM hb; omega⟩
  obtain⟨S',jw',y18,ih,hg',hk'⟩:=aTo (S0:=S0) d x0 x1 x3 x4 x7 x8 x9 x10 x11 x12 x13 x14 x15 x16 x17 x19 x20 x21 x22 hl k (i+1) S1 jw1 (done++[⟨1,d.t[i].toNat⟩]) (.iv (.bool true)) (by omega) (by simp[hd]) hg1 hk1
  rw[List.append_assoc,List.singleton_append]at ih hg'
  rw[hdr,List.map_cons]
  refine⟨S',jw',y18,aG K _ _ t65L0.eq_1 ?_,hg',hk'⟩
  rw[show ((i+1:Nat):Int)=(i:Int)+1 by omega]at ih
  unfold lbD eY at *
  dsimp only at ap ih
  generalize d.t[i].toNat=c at *
  simp (config := { maxSteps := 4000000 }) (disch:=omega) only[go_sem,hix,ap,aB]
  exact congrArg er ih
theorem aN1 {b:Int}{n:Nat}{d:Dt}(hw:d.w≤1000)(hk:d.k=8):mJ b (n+1) d:=by
 intro S j P h hm
 have hww:=Dt.w_eq d
 rw[eP,if_neg (by omega),if_neg (by omega),if_neg (by omega),if_neg (by omega),if_neg (by omega),if_pos hk]at hm ⊢
 have hok:OkO P.σ.L.length ⟨6,d.t.map fun c=>⟨1,c.toNat⟩,0⟩:=⟨fun v hv=>by
  obtain⟨c,_,rfl⟩:=List.mem_map.1 hv
  exact⟨(fun h=>by simp at h),fun _=>.inl rfl⟩,(by show (0:Int)≤6; decide),(by show (6:Int)≤7; decide)⟩
 have hLl:=aAw h.gd
 have hle:=(LeS.push b P.σ ⟨6,d.t.map fun c=>⟨1,c.toNat⟩,0⟩).len.1
 have l0:=fun (x0 x1 x3 x4 x7 x8 x9 x10 x11 x12 x13 x14 x15 x16 x17 x19 x20 x21 x22:TV)=>aTo (S0:=S) d x0 x1 x3 x4 x7 x8 x9 x10 x11 x12 x13 x14 x15 x16 x17 x19 x20 x21 x22 (by omega) d.t.length 0 S 0 [] u_ (by omega) rfl (Gl.nil ..) (jB.refl [] S)
 obtain⟨S1,jw,y18,l1,hg1,hk1⟩:=l0 (.ptr j 64 0) (.iv (.agg [.int .i64 8,.int .i64 d.n,.str d.t,.sl d.g (bT d.ks),.int .i64 d.p])) (.lb [.iv (.int .i64 0),.iv (.int .i64 0)]) u_ u_ u_ u_ u_ u_ (.iv (.bool false)) (.iv (.bool false)) (.iv (.bool false)) (.iv (.bool false)) (.iv (.bool false)) (.iv (.bool true)) u_ u_ u_ u_
 rw[List.drop_zero,List.nil_append]at l1 hg1
 rw[show ((0:Nat):Int)=0 from rfl,show aW []=[] from rfl,cQ]at l1
 obtain⟨S2,P',c88,hR',hK',hσ'⟩:=aMq (h.of_keep hk1) (ty:=6) (kd:=d.t.map fun c=>⟨1,c.toNat⟩) hok (by rw[List.length_map]; omega) (by omega) jw
 have v1:eY (push b P.σ ⟨6,d.t.map fun c=>⟨1,c.toNat⟩,0⟩).1=[.int .i64 7,.int .i64 P.σ.L.length]:=rfl
 rw[v1]
 refine⟨S2,P',aD K _ (fn:=t65) rfl rfl ?_,hR',(KR.of_keep hk1 j P).trans hK',hσ',fS ..⟩
 rw[bA]
 unfold lbD at l1
 rw[hk]at l1
 simp (config := { maxSteps := 4000000 }) (disch:=omega) only[t65,go_sem,hk]
 rw[l1]
 rcases c88 with⟨h0,c88⟩|⟨h0,c88⟩
 ·rw[h0,show aW []=[] from rfl,cQ]
  simp (config := { maxSteps := 4000000 }) (disch:=omega) only[go_sem,c88]
 ·rw[iI _ (eF.2 h0)]
  simp (config := { maxSteps := 4000000 }) (disch:=omega) only[go_sem,c88]
theorem aZ6 {b:Int}{n:Nat}{d:Dt}(hw:d.w≤1000)(hf:2*d.w≤n+1)(hk:d.k=7)(ih:∀f x,x∈d.ks→2*x.w≤f→mJ b f x):mJ b (n+1) d:=by
 intro S j P h hm
 have hww:=Dt.w_eq d
 have hwl:=Dt.ws_len d.ks
 rw[eP,if_neg (by omega),if_neg (by omega),if_neg (by omega),if_neg (by omega),if_neg (by omega),if_neg (by omega),if_pos hk]at hm ⊢
 dsimp only at hm ⊢
 obtain⟨S1,P1,jw,c40,hR1,hK1,hσ1,hv1⟩:=aI1 (b:=b) (ks:=d.ks) ih (by omega) (f:=n) (by omega) d.g h (Nat.le_trans (LeS.push b _ ⟨1,_,0⟩).len.1 hm)
 have hxl:=jZ b n d.ks P.σ
 rw[←hσ1]at hm hv1 ⊢
 generalize (cF b n d.ks P.σ).1=xs at *
 have hLl:=aAw hR1.gd
 have hle:=(LeS.push b P1.σ ⟨1,xs,0⟩).len.1
 obtain⟨S2,P',c88,hR',hK',hσ'⟩:=aMq hR1 (ty:=1) (kd:=xs) ⟨hv1,(by show (0:Int)≤1; decide),(by show (1:Int)≤7; decide)⟩ (by omega) (by omega) jw
 have v1:eY (push b P1.σ ⟨1,xs,0⟩).1=[.int .i64 7,.int .i64 P1.σ.L.length]:=rfl
 rw[v1]
 refine⟨S2,P',aD K _ (fn:=t65) rfl rfl ?_,hR',hK1.trans hK',hσ',fS ..⟩
 rw[bA]
 rcases c88 with⟨h0,c88⟩|⟨h0,c88⟩
 ·rw[h0,show aW []=[] from rfl,cQ]at c40
  simp (config := { maxSteps := 4000000 }) (disch:=omega) only[t65,go_sem,hk,c40,c88]
 ·rw[iI _ (eF.2 h0)]at c40
  simp (config := { maxSteps := 4000000 }) (disch:=omega) only[t65,go_sem,hk,c40,c88]
theorem aTp {b:Int}:∀(l:List Vv) {v:Vv} {σ:Sg},(∀u∈l,OkV σ.L.length u)→OkV σ.L.length v→OkV (fF b l v σ).2.L.length (fF b l v σ).1
 | [],v,σ,_,hv=>by rw[fF]; exact hv
 | u::r,v,σ,hl,hv=>by
  rw[fF]
  exact aTp r (fun w hw=>(hl w (List.mem_cons_of_mem _ hw)).mono (LeS.push ..).len.2) (fS ..)
theorem aTq {b:Int}{n:Nat}{d:Dt}(hw:d.w≤1000)(hf:2*d.w≤n+1)(hk:d.k=6)(hm0:dB d=true)(ih:∀f x,x.w<d.w→dB x=true→2*x.w≤f→mJ b f x):mJ b (n+1) d:=by
 intro S j P h hm
 have hww:=Dt.w_eq d
 have hpr:d.pr=true:=by unfold Dt.pr; simp[hk,bE5 hm0 hk]
 have hsum:=pT d.w d (Nat.le_refl _)
 have hmi:=pS d.w d (Nat.le_refl _)
 rw[hm0,eq_comm,Bool.and_eq_true,List.all_eq_true]at hmi
 have hlt:=pR d.w d
 have hend:(bR d.w d).2.w<d.w:=by
  have h1:(bR d.w d).1≠[]:=by
   obtain⟨m,hm'⟩:∃m,d.w=m+1:=⟨d.w-1,by omega⟩
   rw[hm',bR,if_pos hpr]; simp
  have:=List.length_pos_iff.2 h1
  omega
 have c61:=aR4 d.w d (Nat.le_refl _) (by omega)
 rw[eP,if_neg (by omega),if_neg (by omega),if_neg (by omega),if_neg (by omega),if_neg (by omega),if_neg (by omega),if_neg (by omega),if_pos hk]at hm ⊢
 dsimp only at hm ⊢
 generalize bR d.w d=I at *
 obtain⟨il,ie⟩:=I
 dsimp only at *
 have hm2:=Nat.le_trans (oG b _ _ _).len.1 hm
 have hm1:=Nat.le_trans (oH b n ie _).len.1 hm2
 have hwsl:=Dt.ws_len il
 have hie:=Dt.w_eq ie
 have hxl:=jZ b n il P.σ
 obtain⟨S1,P1,jw,c40,hR1,hK1,hσ1,hv1⟩:=aI1 (b:=b) (ks:=il) (fun f x hx hfx=>ih f x (hlt x hx) (hmi.1 x hx) hfx) (by omega) (f:=n) (by omega) (eM il) h hm1
 rw[←hσ1]at hm hm2 hv1 ⊢
 generalize (cF b n il P.σ).1=xs at *
 have hle2:=oH b n ie P1.σ
 obtain⟨S2,P2,c65,hR2,hK2,hσ2,hv2⟩:=ih n ie hend hmi.2 (by omega) S1 j P1 hR1 hm2
 rw[←hσ2]at hm hv2 hle2 ⊢
 generalize (eP b n ie P1.σ).1=v at *
 obtain⟨S3,P3,c91,hR3,hK3,hσ3⟩:=bFc hR2 jw (by omega) v (fun u hu=>(hv1 u hu).mono hle2.len.2) hv2 hm
 refine⟨S3,P3,aD K _ (fn:=t65) rfl rfl ?_,hR3,(hK1.trans hK2).trans hK3,hσ3,aTp xs.reverse (fun u hu=>(hv1 u (List.mem_reverse.1 hu)).mono hle2.len.2) hv2⟩
 generalize (fF b xs.reverse v P2.σ).1=u at *
 rw[bA]
 rw[show agD d=.iv (.agg [.int .i64 6,.int .i64 d.n,.str d.t,.sl d.g (bT d.ks),.int .i64 d.p]) by unfold agD; rw[hk]]at c61
 unfold agD at c61
 rw[bA]at c65
 unfold eY at *
 clear hR1 hR2 hR3 hK1 hK2 hK3 hm hm1 hm2 ih h
 simp (config := { maxSteps := 4000000 }) (disch:=omega) only[t65,go_sem,hk,aE c61,c40,c65,c91,fD,eB]
theorem aFq (b:Int):∀(N:Nat) (d:Dt),d.w≤N→d.w≤1000→dB d=true→∀f,2*d.w≤f→mJ b f d
 | 0,d,hN,_,_,_,_=>by have:=Dt.w_eq d; omega
 | N+1,d,hN,hw,hm,f,hf=>by
  have hwe:=Dt.w_eq d
  obtain⟨n,rfl⟩:∃n,f=n+1:=⟨f-1,by omega⟩
  have ih:∀f x,x.w<d.w→dB x=true→2*x.w≤f→mJ b f x:=fun f x hx hmx hfx=>aFq b N x (by omega) (by omega) hmx f hfx
  by_cases h7:d.k=7
  ·exact aZ6 hw hf h7 fun f x hx hfx=>ih f x (Dt.kid_lt hx) (sO hm hx) hfx
  by_cases h6:d.k=6
  ·exact aTq hw hf h6 hm ih
  by_cases h2:d.k=2
  ·exact aZ3 hw h2
  by_cases h4:d.k=4
  ·exact aZ4 hw h4
  by_cases h5:d.k=5
  ·exact aZ5 hw hm h5
  by_cases h8:d.k=8
  ·exact aN1 hw h8
  refine aN0 hm ?_
  rw[iM,if_neg (by omega),if_neg h7,Bool.and_eq_true]at hm
  have h:=hm.2
  unfold lR at h
  by_cases h1:d.k=1
  ·exact .inl h1
  by_cases h3:d.k=3
  ·exact .inr (.inl h3)
  by_cases h9:d.k=9
  ·exact .inr (.inr (.inl h9))
  by_cases h10:d.k=10
  ·exact .inr (.inr (.inr (.inl h10)))
  by_cases h0:d.k=0
  ·exact .inr (.inr (.inr (.inr h0)))
  simp[h0,h1,h2,h3,h4,h5,h8,h9,h10]at h
theorem aTr:∀N,N≤1048576→∀d:Dt,d.w≤N→TM.Pure K 38 [agD d] (.iv (.bool (dB d)))
  | 0,hN=>fun d hw=>by have:=Dt.w_eq d; omega
  | N+1,hN=>fun d hw=>by
    have c50:=aR4 d.w d (Nat.le_refl _) (by omega)
    have ih:=aTr N (by omega)
    have hmi:=pS d.w d (Nat.le_refl _)
    have htl:=xU d.w d (Nat.le_refl _)
    have hme:=pR d.w d
    have hln:=aBl d.w d
    rw[hmi]
    generalize bR d.w d=q at *
    obtain⟨l,x⟩:=q
    simp only at c50 htl hme hln ⊢
    have hwx:=Dt.w_eq x
    have hlx:=Dt.ws_len x.ks
    have H1:∀y∈l,TM.Pure K 38 [agD y] (.iv (.bool (dB y))):=fun y hy=>ih y (by have:=hme y hy; omega)
    have H2:∀y∈x.ks,TM.Pure K 38 [agD y] (.iv (.bool (dB y))):=fun y hy=>ih y (by have:=Dt.kid_lt hy; omega)
    obtain⟨j,y5,y8,y9,hj,l1⟩:=aMa (eM l) l (by omega) H1 (agD d) (lbD d) (lbD x) u_ u_ u_ u_ u_ u_ u_ u_ u_ u_ u_ u_ l.length 0 u_ u_ (by omega)
    rw[show ((0:Nat):Int)=0 from rfl]at l1
    rw[List.drop_zero]at hj
    rcases hj with⟨rfl,hv⟩|⟨rfl,hv⟩
    · rw[hv,Bool.false_and]
      refine bL (S:=[]) (r:=.iv (.bool false)) (aD K _ (fn:=t38) rfl rfl ?_) (by rw[aZ])
      simp (config := { maxSteps := 4000000 }) (disch:=omega) only[t38,go_sem,aE c50]
      rw[l1]
      simp (config := { maxSteps := 4000000 }) (disch:=omega) only[go_sem]
    rw[hv,Bool.true_and,iM,if_neg (by have h1:=htl.1; unfold Dt.pr at h1; simpa using h1)]
    by_cases h7:x.k=7
    · rw[if_pos h7]
      obtain⟨j,y6,y11,y12,hj,l2⟩:=aCy x (by omega) H2 (agD d) (lbD d) (.iv (.sl (eM l) (bT l))) y5 u_ y8 y9 (.iv (.bool false)) u_ u_ u_ u_ u_ u_ u_ x.ks.length 0 u_ u_ (by omega)
      rw[show ((0:Nat):Int)=0 from rfl]at l2
      rw[List.drop_zero]at hj
      unfold lbD at l1 l2
      rw[h7]at l1 l2
      rcases hj with⟨rfl,hv2⟩|⟨rfl,hv2⟩
      · rw[hv2]
        refine bL (S:=[]) (r:=.iv (.bool false)) (aD K _ (fn:=t38) rfl rfl ?_) (by rw[aZ])
        simp (config := { maxSteps := 4000000 }) (disch:=omega) only[t38,go_sem,aE c50,h7]
        rw[l1]
        simp (config := { maxSteps := 4000000 }) (disch:=omega) only[go_sem]
        rw[l2]
        simp (config := { maxSteps := 4000000 }) (disch:=omega) only[go_sem]
      · rw[hv2]
        obtain⟨lc,hc⟩:=xW x.t (by omega)
        refine bL (S:=[]) (r:=.iv (.bool true)) (aD K _ (fn:=t38) rfl rfl ?_) (by rw[aZ])
        simp (config := { maxSteps := 4000000 }) (disch:=omega) only[t38,go_sem,aE c50,h7]
        rw[l1]
        simp (config := { maxSteps := 4000000 }) (disch:=omega) only[go_sem]
        rw[l2]
        simp (config := { maxSteps := 4000000 }) (disch:=omega) only[go_sem,aE hc]
    · rw[if_neg h7]
      by_cases h0:x.ks=[]
      · rw[h0,List.isEmpty_nil,Bool.true_and]
        have hk0:¬(0:Int)<x.ks.length:=by rw[h0]; simp
        obtain⟨j,y6,y11,y12,hj,l2⟩:=aCy x (by omega) H2 (agD d) (lbD d) (.iv (.sl (eM l) (bT l))) y5 u_ y8 y9 (.iv (.bool false)) u_ u_ u_ u_ u_ u_ u_ x.ks.length 0 u_ u_ (by omega)
        rw[show ((0:Nat):Int)=0 from rfl]at l2
        rw[h0,List.drop_zero]at hj
        obtain ⟨rfl, _⟩ : j = .exit 2 ∧ True := by rcases hj with ⟨_, h⟩ | ⟨h, _⟩; · simp at h
                                                   · exact⟨h,trivial⟩
        obtain⟨lc,hc⟩:=xW x.t (by omega)
        have h52:=bEk x.t (by omega)
        have h53:=aCr x.n
        have key:∀b:Bool,lR x=b→TM.Pure K 38 [agD d] (.iv (.bool b)):=fun b hb=>by
          refine bL (S:=[]) (r:=.iv (.bool b)) (aD K _ (fn:=t38) rfl rfl ?_) (by rw[aZ])
          simp (config := { maxSteps := 4000000 }) (disch:=omega) only[t38,go_sem,aE c50]
          rw[l1]
          simp (config := { maxSteps := 4000000 }) (disch:=omega) only[go_sem,h7,bB,hk0]
          rw[l2]
          subst hb
          unfold lR
          by_cases hs:x.k=0∨x.k=8∨x.k=9∨x.k=10
          · rw[if_pos hs]
            rcases hs with h|h|h|h<;>simp (config := { maxSteps := 4000000 }) (disch:=omega) only[go_sem,aE hc,h]
          rw[if_neg hs]
          have n0:¬x.k=0:=fun h=>hs (.inl h)
          have n8:¬x.k=8:=fun h=>hs (.inr (.inl h))
          have n9:¬x.k=9:=fun h=>hs (.inr (.inr (.inl h)))
          have n10:¬x.k=10:=fun h=>hs (.inr (.inr (.inr h)))
          by_cases h1:x.k=1
          · rw[if_pos h1]
            by_cases m0:x.n=0
            · simp (config := { maxSteps := 4000000 }) (disch:=omega) only[go_sem,aE hc,h1,m0,true_or]
            · by_cases m1:x.n=1
              · simp (config := { maxSteps := 4000000 }) (disch:=omega) only[go_sem,aE hc,h1,m1,or_true]
              · simp (config := { maxSteps := 4000000 }) (disch:=omega) only[go_sem,aE hc,h1,m0,m1,or_self]
          rw[if_neg h1]
          by_cases h2:x.k=2
          · rw[if_pos h2]
            simp (config := { maxSteps := 4000000 }) (disch:=omega) only[go_sem,aE hc,aE h52,h2]
          rw[if_neg h2]
          by_cases h3:x.k=3
          · rw[if_pos h3]
            simp (config := { maxSteps := 4000000 }) (disch:=omega) only[go_sem,aE hc,h53,h3]
          rw[if_neg h3]
          by_cases h4:x.k=4
          · rw[if_pos h4]
            cases ho:okC x.t
            · rw[ho]at hc
              simp (config := { maxSteps := 4000000 }) (disch:=omega) only[go_sem,aE hc,h4,Bool.false_eq_true]
            · rw[ho]at hc
              simp (config := { maxSteps := 4000000 }) (disch:=omega) only[go_sem,aE hc,h4]
          rw[if_neg h4]
          by_cases h5:x.k=5
          · rw[if_pos h5]
            cases ho:okC x.t
            · rw[ho]at hc
              simp (config := { maxSteps := 4000000 }) (disch:=omega) only[go_sem,aE hc,h5,Bool.false_eq_true,Bool.false_and]
            · rw[ho]at hc
              cases ht:x.t with
              | nil =>
                rw[ht]at hc
                simp (config := { maxSteps := 4000000 }) (disch:=omega) only[go_sem,aE hc,h5,ht,List.length_nil,List.isEmpty_nil,Bool.not_true,Bool.true_and]
              | cons a r =>
                rw[ht]at hc
                have:(a::r).length=r.length+1:=rfl
                simp (config := { maxSteps := 4000000 }) (disch:=omega) only[go_sem,aE hc,h5,ht,this,List.isEmpty_cons,Bool.not_false,Bool.true_and]
          rw[if_neg h5]
          simp (config := { maxSteps := 4000000 }) (disch:=omega) only[go_sem,aE hc,n0,n8,n9,n10,h1,h2,h3,h4,h5,h7]
        exact key _ rfl
      · rw[show x.ks.isEmpty=false by simpa using h0,Bool.false_and]
        have hk0:(0:Int)<x.ks.length:=by have:x.ks.length≠0:=fun h=>h0 (List.eq_nil_of_length_eq_zero h); omega
        refine bL (S:=[]) (r:=.iv (.bool false)) (aD K _ (fn:=t38) rfl rfl ?_) (by rw[aZ])
        simp (config := { maxSteps := 4000000 }) (disch:=omega) only[t38,go_sem,aE c50]
        rw[l1]
        simp (config := { maxSteps := 4000000 }) (disch:=omega) only[go_sem,h7,bB,hk0]
theorem aI2 {cs:List Dt}(g:Tag)(hw:∀d∈cs,d.w≤1048576)(hl:cs.length≤1048576)(x1 x5:TV)(S:aA):∀(k i:Nat) (x6 x7:TV),i+k=cs.length →
  ∃y4 y6 y7,(iN (cs.drop i)=true∧lp' (lim K) t26L0 [.iv (.sl g (bT cs)),x1,.iv .nilp,.iv (.int .i64 0),.iv (.int .i64 i),x5,x6,x7] S=.ret (.exit 0,[.iv (.sl g (bT cs)),x1,.iv .nilp,.iv (.int .i64 0),y4,x5,y6,y7],S))∨(iN (cs.drop i)=false∧lp' (lim K) t26L0 [.iv (.sl g (bT cs)),x1,.iv .nilp,.iv (.int .i64 0),.iv (.int .i64 i),x5,x6,x7] S=.ret (.ret,[.iv (.sl g (bT cs)),x1,.iv .nilp,.iv (.int .i64 2),y4,x5,y6,y7],S))
 | 0,i,x6,x7,h=>by
  obtain rfl:i=cs.length:=by omega
  have hle:=bB cs
  refine⟨.iv (.int .i64 cs.length),.iv (.bool false),x7,.inl ⟨by rw[List.drop_length]; rfl,aG K _ _ t26L0.eq_1 ?_⟩⟩
  simp (config := { maxSteps := 4000000 }) (disch:=omega) only[go_sem,hle]
 | k+1,i,x6,x7,h=>by
  have hla:i<cs.length:=by omega
  have hle:=bB cs
  have hdr:cs.drop i=cs[i]::cs.drop (i+1):=List.drop_eq_getElem_cons hla
  have hok:iN (cs.drop i)=(dB cs[i]&&plF cs[i]&&iN (cs.drop (i+1))):=by rw[hdr]; rfl
  have hix:=ixD (g:=g) (ks:=cs) (i:=(i:Int)) (by omega)
  have hgd:cs.getD i default=cs[i]:=by simp[List.getD,List.getElem?_eq_getElem hla]
  rw[Int.toNat_natCast,hgd]at hix
  have hwi:=hw cs[i] (List.getElem_mem _)
  have c38:=aTr 1048576 (by omega) cs[i] hwi
  have c39:=aS8 1048576 (by omega) cs[i] hwi
  rw[hok]
  obtain⟨y4,y6,y7,ih⟩:=aI2 g hw hl x1 x5 S k (i+1) (.iv (.bool true)) (.iv (.bool false)) (by omega)
  rw[show ((i+1:Nat):Int)=(i:Int)+1 by omega]at ih
  unfold agD at c38 c39
  generalize cs[i]=d at *
  rw[bA d]at hix
  by_cases hm:dB d=true
  ·rw[hm]at c38 ⊢
   by_cases hp:plF d=true
   ·rw[hp]at c39 ⊢
    refine⟨y4,y6,y7,?_⟩
    rcases ih with⟨e,ih⟩|⟨e,ih⟩
    ·refine .inl ⟨by rw[e]; rfl,aG K _ _ t26L0.eq_1 ?_⟩
     simp (config := { maxSteps := 4000000 }) (disch:=omega) only[go_sem,hle,hix,sC,aE c38,aE c39,Bool.not_true,Bool.not_false,aB]
     exact congrArg er ih
    ·refine .inr ⟨by rw[e]; rfl,aG K _ _ t26L0.eq_1 ?_⟩
     simp (config := { maxSteps := 4000000 }) (disch:=omega) only[go_sem,hle,hix,sC,aE c38,aE c39,Bool.not_true,Bool.not_false,aB]
     exact congrArg er ih
   ·rw[Bool.not_eq_true]at hp
    rw[hp]at c39 ⊢
    refine⟨.iv (.int .i64 i),.iv (.bool true),.iv (.bool true),.inr ⟨rfl,aG K _ _ t26L0.eq_1 ?_⟩⟩
    simp (config := { maxSteps := 4000000 }) (disch:=omega) only[go_sem,hle,hix,sC,aE c38,aE c39,Bool.not_true,Bool.not_false]
  ·rw[Bool.not_eq_true]at hm
   rw[hm]at c38 ⊢
   refine⟨.iv (.int .i64 i),.iv (.bool true),.iv (.bool true),.inr ⟨rfl,aG K _ _ t26L0.eq_1 ?_⟩⟩
   simp (config := { maxSteps := 4000000 }) (disch:=omega) only[go_sem,hle,hix,sC,aE c38,Bool.not_true,Bool.not_false]
theorem aI3 {cs:List Dt}(g:Tag)(hw:∀d∈cs,d.w≤1048576)(hl:cs.length≤1048576)(hb:iN cs=false):(lim K).call 26 [.iv (.sl g (bT cs)),.iv (.sl .nil [])] []=.ret (.tup [.iv .nilp,.iv (.int .i64 2)],[]):=by
 obtain⟨y4,y6,y7,l⟩:=aI2 g hw hl (.iv (.sl .nil [])) u_ [] cs.length 0 u_ u_ (by omega)
 rw[List.drop_zero,show ((0:Nat):Int)=0 from rfl]at l
 rcases l with⟨e,l⟩|⟨e,l⟩
 ·rw[hb]at e; cases e
 ·refine aD K _ (fn:=t26) rfl rfl ?_
  simp (config := { maxSteps := 4000000 }) (disch:=omega) only[t26,go_sem]
  rw[l]
  simp (config := { maxSteps := 4000000 }) (disch:=omega) only[go_sem]
def nB (jc:Nat)(vs:List Vv)(P:Rl):bG:=.cells 64 false [acc jc (aW vs),acc P.jl P.LO,acc P.js (aW (cK P.σ)),.iv (.sl .nil []),.iv (.sl .nil []),.iv (.int .i64 P.load),.iv (.bool P.wide)]
theorem aBp {cs:List Dt}{b:Int}(g:Tag)(hw:Dt.ws cs≤10000)(hwx:∀d∈cs,d.w≤1000)(hok:iN cs=true):∃S P j jc,(lim K).call 26 [.iv (.sl g (bT cs)),.iv (.sl .nil [])] []=.ret (.tup [.ptr j 64 0,.iv (.int .i64 0)],S)∧S[j]? = some (nB jc (dF b cs).1 P)∧RO P.σ.L P.LO∧P.σ=(dF b cs).2∧Gd b (dF b cs).2∧(∀v∈(dF b cs).1,OkV (dF b cs).2.L.length v):=by
 have hwl:=Dt.ws_len cs
 have hall:∀d∈cs,dB d=true:=fun d hd=>by
  have:=List.all_eq_true.1 hok d hd
  rw[Bool.and_eq_true]at this
  exact this.1
 obtain⟨y4,y6,y7,l⟩:=aI2 g (fun d hd=>by have:=hwx d hd; omega) (by omega) (.iv (.sl .nil [])) u_ [] cs.length 0 u_ u_ (by omega)
 rw[List.drop_zero,show ((0:Nat):Int)=0 from rfl]at l
 rcases l with⟨e,l⟩|⟨e,l⟩
 ·have hR0:RB b [.cells 64 false [.iv (.sl .nil []),.iv (.sl .nil []),.iv (.sl .nil []),.iv (.sl .nil []),.iv (.sl .nil []),.iv (.int .i64 0),.iv (.bool false)]] 0 ⟨0,0,[],σ0,0,false⟩:=⟨rfl,Gl.nil ..,Gl.nil ..,.nil,fun h=>absurd rfl h,by show (0:Int)≤0∧(0:Int)≤3000000; omega,gd0 b⟩
  have hg0:=jH b (2*Dt.ws cs+1) cs σ0
  have hm0:σ0.mem.length=0:=rfl
  obtain⟨S1,P1,jw,c40,hR1,hK1,hσ1,hv1⟩:=aI1 (b:=b) (ks:=cs) (fun f x hx hfx=>aFq b x.w x (Nat.le_refl _) (hwx x hx) (hall x hx) f hfx) (by omega) (f:=2*Dt.ws cs+1) (Nat.le_refl _) g hR0 (by show (cF b (2*Dt.ws cs+1) cs σ0).2.mem.length≤_; omega)
  have o1:=hR1.own
  have es:=fun B=>eI (cM o1) B
  have hσ:P1.σ=(dF b cs).2:=hσ1
  have hgd:=hR1.gd
  rw[hσ]at hgd
  refine⟨S1.set 0 (nB jw (dF b cs).1 P1),P1,0,jw,aD K _ (fn:=t26) rfl rfl ?_,es _,hR1.ro,hσ,hgd,hv1⟩
  have c40':(lim K).call 40 [.ptr 0 64 0,.iv (.sl g (bT cs))] [.cells 64 false [.iv (.sl .nil []),.iv (.sl .nil []),.iv (.sl .nil []),.iv (.sl .nil []),.iv (.sl .nil []),.iv (.int .i64 0),.iv (.bool false)]]=.ret (acc jw (aW (dF b cs).1),S1):=c40
  unfold rB at o1
  unfold nB at es ⊢
  have hap:∀S:aA,bW false 1 1 5 S (.iv (.sl .nil [])) (.iv (.sl .nil []))=some (.iv (.sl .nil []),S):=fun S=>aAq rfl (iH.sl ..)
  simp (config := { maxSteps := 4000000 }) (disch:=omega) only[t26,go_sem]
  rw[l]
  simp (config := { maxSteps := 4000000 }) (disch:=omega) only[go_sem,hap,c40',o1,es]
 ·rw[hok]at e; cases e
theorem aI4 {v:Vv}{ad:List Int}(hv:OkV ad.length v)(tg:Tag):TM.Pure K 29 [.iv (.agg (eY v)),.iv (.sl tg (TM.one i64 ad))] (.iv (.int .u32 (wd ad v))):=by
 obtain⟨k,n⟩:=v
 obtain⟨hv1,hv2⟩:=hv
 unfold Vd at hv1
 dsimp only at hv1 hv2
 refine aX t29 rfl rfl ?_
 unfold eY wd
 dsimp only
 by_cases h7:k=7
 ·have hb:=hv1 h7
  have hix:=iG (f:=i64) (t:=tg) (l:=ad) (i:=n) hb
  rw[show ad.getD n.toNat default=ad.getD n.toNat 0 from rfl]at hix
  rw[if_neg (by omega),if_neg (by omega),if_neg (by omega),if_neg (by omega),if_neg (by omega),if_neg (by omega),if_neg (by omega)]
  unfold i64 w32 at *
  simp (config := { maxSteps := 4000000 }) (disch:=omega) only[t29,go_sem,h7,hix]
 ·rcases hv2 h7 with h|h|h|h|h|h
  ·rw[if_pos h]
   unfold w32
   simp (config := { maxSteps := 4000000 }) (disch:=omega) only[t29,go_sem,h]
  ·rw[if_neg (by omega),if_pos h]
   unfold w32
   simp (config := { maxSteps := 4000000 }) (disch:=omega) only[t29,go_sem,h]
  ·rw[if_neg (by omega),if_neg (by omega)]
   by_cases h1:n=1
   ·rw[if_pos ⟨h,h1⟩]
    simp (config := { maxSteps := 4000000 }) (disch:=omega) only[t29,go_sem,h,h1]
   ·rw[if_neg (by omega),if_pos h]
    simp (config := { maxSteps := 4000000 }) (disch:=omega) only[t29,go_sem,h,h1]
  ·rw[if_neg (by omega),if_neg (by omega),if_neg (by omega),if_neg (by omega),if_pos h]
   simp (config := { maxSteps := 4000000 }) (disch:=omega) only[t29,go_sem,h]
  ·rw[if_neg (by omega),if_neg (by omega),if_neg (by omega),if_neg (by omega),if_neg (by omega),if_pos h]
   simp (config := { maxSteps := 4000000 }) (disch:=omega) only[t29,go_sem,h]
  ·rw[if_neg (by omega),if_neg (by omega),if_neg (by omega),if_neg (by omega),if_neg (by omega),if_neg (by omega),if_pos h]
   simp (config := { maxSteps := 4000000 }) (disch:=omega) only[t29,go_sem,h]
theorem aMr (x0 x1 x2 x3 x5 x8 x9 x10 x11 x13:TV)(tg:Tag)(ds:List Int)(hd:∀x∈ds,0≤x∧x<65536)(hl:ds.length≤1000000):∀(k i:Nat) (S:aA) (jw:Nat) (done:List Int) (x12:TV),i+k=ds.length→done.length=i+1→Gl 0 S 1 26 (bC done) jw →
  ∃S' jw' y12,lp' (lim K) t28L1 [x0,x1,x2,x3,acc jw (bC done),x5,.iv (.sl tg (TM.one d16 ds)),.iv (.int .i64 i),x8,x9,x10,x11,x12,x13] S=.ret (.exit 0,[x0,x1,x2,x3,acc jw' (bC (done++(ds.drop i).map (4*·))),x5,.iv (.sl tg (TM.one d16 ds)),.iv (.int .i64 ds.length),x8,x9,x10,x11,y12,x13],S')∧Gl 0 S' 1 26 (bC (done++(ds.drop i).map (4*·))) jw'
 | 0,i,S,jw,done,x12,h,hdn,hg=>by
  obtain rfl:i=ds.length:=by omega
  rw[List.drop_length,List.map_nil,List.append_nil]
  have hol:=TM.bJ d16 ds
  refine⟨S,jw,.iv (.bool false),aG K _ _ t28L1.eq_1 ?_,hg⟩
  simp (config := { maxSteps := 4000000 }) (disch:=omega) only[go_sem,hol]
 | k+1,i,S,jw,done,x12,h,hdn,hg=>by
  have hla:i<ds.length:=by omega
  have hol:=TM.bJ d16 ds
  have hix:=iG (f:=d16) (t:=tg) (l:=ds) (i:=(i:Int)) (by omega)
  rw[Int.toNat_natCast,show ds.getD i default=ds[i] by simp[List.getD,List.getElem?_eq_getElem hla]]at hix
  have hdr:ds.drop i=ds[i]::ds.drop (i+1):=List.drop_eq_getElem_cons hla
  have hb:=hd ds[i] (List.getElem_mem _)
  obtain⟨jw1,S1,ap,hg1,hl1,ho1,_⟩:=hg.row (Nat.zero_le _) (4*ds[i]) (by omega)
  obtain⟨S',jw',y12,ih,hg'⟩:=aMr x0 x1 x2 x3 x5 x8 x9 x10 x11 x13 tg ds hd hl k (i+1) S1 jw1 (done++[4*ds[i]]) (.iv (.bool true)) (by omega) (by simp[hdn]) hg1
  rw[List.append_assoc,List.singleton_append]at ih hg'
  rw[hdr,List.map_cons]
  refine⟨S',jw',y12,aG K _ _ t28L1.eq_1 ?_,hg'⟩
  rw[show ((i+1:Nat):Int)=(i:Int)+1 by omega]at ih
  have e1:IntKind.u32.wrap ds[i]=ds[i]:=cC (by omega)
  have e2:IntKind.u32.wrap (4*ds[i])=4*ds[i]:=cC (by omega)
  generalize ds[i]=c at *
  unfold d16 at *
  simp (config := { maxSteps := 4000000 }) (disch:=omega) only[go_sem,hol,hix,e1,e2,ap,aB]
  exact congrArg er ih
theorem aDc (x0 x3 x5 x6 x7 x9 x10 x11 x12:TV)(a1 a2 a3 a4:IV)(tg tk:Tag){ad:List Int}{kd:List Vv}(hk:∀v∈kd,OkV ad.length v)(hl:kd.length≤1000000):∀(k i:Nat) (S:aA) (jw:Nat) (done:List Int) (x13:TV),i+k=kd.length→done.length≤i+1000000→Gl 0 S 1 26 (bC done) jw →
  ∃S' jw' y13,lp' (lim K) t28L0 [x0,.iv (.sl tg (TM.one i64 ad)),.lb [.iv a1,.iv a2,.iv (.sl tk (aW kd)),.iv a3,.iv a4],x3,acc jw (bC done),x5,x6,x7,.iv (.int .i64 i),x9,x10,x11,x12,x13] S=.ret (.exit 2,[x0,.iv (.sl tg (TM.one i64 ad)),.lb [.iv a1,.iv a2,.iv (.sl tk (aW kd)),.iv a3,.iv a4],x3,acc jw' (bC (done++(kd.drop i).map (wd ad))),x5,x6,x7,.iv (.int .i64 kd.length),x9,x10,x11,x12,y13],S')∧Gl 0 S' 1 26 (bC (done++(kd.drop i).map (wd ad))) jw'
 | 0,i,S,jw,done,x13,h,hdn,hg=>by
  obtain rfl:i=kd.length:=by omega
  rw[List.drop_length,List.map_nil,List.append_nil]
  have hol:=cH kd
  refine⟨S,jw,.iv (.bool false),aG K _ _ t28L0.eq_1 ?_,hg⟩
  simp (config := { maxSteps := 4000000 }) (disch:=omega) only[go_sem,hol]
 | k+1,i,S,jw,done,x13,h,hdn,hg=>by
  have hla:i<kd.length:=by omega
  have hol:=cH kd
  have hix:=ixV (tg:=tk) hla
  have hdr:kd.drop i=kd[i]::kd.drop (i+1):=List.drop_eq_getElem_cons hla
  have c29:=aI4 (hk kd[i] (List.getElem_mem _)) tg
  obtain⟨jw1,S1,ap,hg1,hl1,ho1,_⟩:=hg.row (Nat.zero_le _) (wd ad kd[i]) (by omega)
  obtain⟨S',jw',y13,ih,hg'⟩:=aDc x0 x3 x5 x6 x7 x9 x10 x11 x12 a1 a2 a3 a4 tg tk hk hl k (i+1) S1 jw1 (done++[wd ad kd[i]]) (.iv (.bool true)) (by omega) (by rw[List.length_append,List.length_singleton]; omega) hg1
  rw[List.append_assoc,List.singleton_append]at ih hg'
  rw[hdr,List.map_cons]
  refine⟨S',jw',y13,aG K _ _ t28L0.eq_1 ?_,hg'⟩
  rw[show ((i+1:Nat):Int)=(i:Int)+1 by omega]at ih
  generalize kd[i]=c at *
  unfold eY at c29
  simp (config := { maxSteps := 4000000 }) (disch:=omega) only[go_sem,hol,hix,aE c29,ap,aB]
  exact congrArg er ih
theorem bDn {n ty:Int}(hn:0≤n∧n≤20000000)(ht:0≤ty∧ty≤7):IntKind.u32.wrap (IntKind.u32.wrap (IntKind.u32.wrap (32*IntKind.u32.wrap n)+IntKind.u32.wrap (4*IntKind.u32.wrap ty))+3)=32*n+4*ty+3:=by
 rw[cC (m:=n) (by omega),cC (m:=ty) (by omega),cC (m:=32*n) (by omega),cC (m:=4*ty) (by omega),cC (m:=32*n+4*ty) (by omega),cC (by omega)]
theorem bDo {S:aA}{jw:Nat}{bo:List Int}(hdr:Int)(hl:bo.length≤10000000):∃v S' tg,bW false 1 4 26 S (.iv (.sl .full [[.int .u32 hdr]])) (acc jw (bC bo))=some (v,S')∧TM.resolve S' v=some (.iv (.sl tg (bC (hdr::bo))))∧(v=.iv (.sl .full (bC (hdr::bo)))∨∃q,v=.tsl q (bC (hdr::bo))):=by
 have hb:=cB bo
 by_cases h:bo=[]
 ·subst h
  exact⟨_,S,.full,aAq rfl (yC ..),rfl,.inl rfl⟩
 ·have hap:=aE4 (w:=1) (b:=4) (el:=26) (S:=S) (t:=.full) (l:=[[.int .u32 hdr]]) (ys:=bC bo) (x:=acc jw (bC bo)) (by decide) (yC ..) (iB _) (iB [hdr]) (cX.2 h) (cS (by rw[hb,List.length_singleton]; omega))
  exact⟨_,_,.no,hap,rfl,.inr ⟨_,rfl⟩⟩
theorem bFd {o:Ob}{c:List IV}{ad:List Int}(hc:aTi o c)(ho:OkO ad.length o)(tg:Tag):∃tg',TM.Pure K 28 [.iv (.agg c),.iv (.sl tg (TM.one i64 ad))] (.iv (.sl tg' (bC (ow ad o)))):=by
 obtain⟨t1,t2,ht2,hz,hk,rfl⟩:=hc
 obtain⟨hkv,ht⟩:=ho
 have hol:=cH o.kd
 have hle:(dg 65536 (o.z.natAbs:Int)).length≤(dg 10 (o.z.natAbs:Int)).length:=aS1 (by omega)
 by_cases h7:o.ty=7
 ·have c27:=aSk (decide (o.z<0)) t2 (o.z.natAbs:Int) (by omega) ht2 (by omega)
  have hdg:=kM (B:=65536) (n:=(o.z.natAbs:Int)) (by decide) (by omega)
  have hbo:boO ad o=([(if o.z<0 then 4 else 0:Int)]++(dg 65536 (o.z.natAbs:Int)).map (4*·))++o.kd.map (wd ad):=by
   unfold boO prO; rw[if_pos h7]; rfl
  have hbl:(boO ad o).length≤1+90000+1000000:=by rw[hbo]; simp; omega
  have hh:=bDn (n:=(boO ad o).length) (ty:=o.ty) (by omega) ht
  obtain⟨jw0,S0,ap0,hg0,_⟩:=Gl.row (ys:=[]) (n0:=0) (S:=[]) (jw:=0) (Gl.nil 0 [] 1 26 0) (Nat.zero_le _) (if o.z<0 then 4 else 0) (by simp)
  rw[List.nil_append]at ap0 hg0
  rw[show bC []=[] from rfl,cQ]at ap0
  have l1:=fun (x0 x1 x2 x3 x5 x8 x9 x10 x11 x13:TV)=>aMr x0 x1 x2 x3 x5 x8 x9 x10 x11 x13 (eM (dg 65536 (o.z.natAbs:Int))) (dg 65536 (o.z.natAbs:Int)) (fun x hx=>hdg x hx) (by omega) (dg 65536 (o.z.natAbs:Int)).length 0 S0 jw0 [if o.z<0 then 4 else 0] u_ (by omega) rfl hg0
  obtain⟨S1,jw1,y12,l1,hg1⟩:=l1 (.iv (.agg [.int .i64 o.ty,.int .i64 0,.sl t1 (aW o.kd),.bool (decide (o.z<0)),.sl t2 (TM.one i64 (dg 10 o.z.natAbs))])) (.iv (.sl tg (TM.one i64 ad))) (.lb [.iv (.int .i64 o.ty),.iv (.int .i64 0),.iv (.sl t1 (aW o.kd)),.iv (.bool (decide (o.z<0))),.iv (.sl t2 (TM.one i64 (dg 10 o.z.natAbs)))]) (.iv (.sl .nil [])) (.iv (.int .u32 (if o.z<0 then 4 else 0))) u_ u_ (.iv (.bool true)) (.iv (.bool (decide (o.z<0)))) u_
  rw[List.drop_zero]at l1 hg1
  obtain⟨S2,jw2,y13,l2,hg2⟩:=aDc (.iv (.agg [.int .i64 o.ty,.int .i64 0,.sl t1 (aW o.kd),.bool (decide (o.z<0)),.sl t2 (TM.one i64 (dg 10 o.z.natAbs))])) (.iv (.sl .nil [])) (.iv (.int .u32 (if o.z<0 then 4 else 0))) (.iv (.sl (eM (dg 65536 (o.z.natAbs:Int))) (TM.one d16 (dg 65536 (o.z.natAbs:Int))))) (.iv (.int .i64 (dg 65536 (o.z.natAbs:Int)).length)) u_ (.iv (.bool true)) (.iv (.bool (decide (o.z<0)))) y12 (.int .i64 o.ty) (.int .i64 0) (.bool (decide (o.z<0))) (.sl t2 (TM.one i64 (dg 10 o.z.natAbs))) tg t1 hkv hk o.kd.length 0 S1 jw1 ([if o.z<0 then 4 else 0]++(dg 65536 (o.z.natAbs:Int)).map (4*·)) u_ (by omega) (by simp; omega) hg1
  rw[List.drop_zero,←hbo]at l2 hg2
  rw[List.singleton_append]at l2
  obtain⟨v,S3,tg3,ap3,r3,hv⟩:=bDo (S:=S2) (jw:=jw2) (bo:=boO ad o) (32*(boO ad o).length+4*o.ty+3) (by omega)
  have hlb:aEc .sl S2 (acc jw2 (bC (boO ad o)))=some (.iv (.int .i64 (boO ad o).length)):=by rw[bU,cB]
  refine⟨tg3,TM.bL (S:=S3) (r:=v) (aD K _ (fn:=t28) rfl rfl ?_) r3⟩
  clear hbo hbl hg0 hg1 hg2 hkv r3
  unfold kK at c27
  generalize boO ad o=bo at *
  rw[show ((0:Nat):Int)=0 from rfl]at l1 l2
  have ho1:=TM.bJ d16 (dg 65536 (o.z.natAbs:Int))
  rw[h7]at l1 l2 hh ap3 ⊢
  rw[show (4:Int)*7=28 from rfl]at ap3
  by_cases hneg:o.z<0
  ·rw[if_pos hneg]at ap0 l1 l2
   rw[decide_eq_true hneg]at l1 l2 c27 ⊢
   simp (config := { maxSteps := 4000000 }) (disch:=omega) only[t28,go_sem,ap0,aE c27]
   rw[l1]
   simp (config := { maxSteps := 4000000 }) (disch:=omega) only[go_sem]
   rw[l2]
   simp (config := { maxSteps := 4000000 }) (disch:=omega) only[go_sem,hlb,hh,ap3]
   rcases hv with rfl|⟨q,rfl⟩<;>simp (config := { maxSteps := 4000000 }) (disch:=omega) only[go_sem]
  ·rw[if_neg hneg]at ap0 l1 l2
   rw[decide_eq_false hneg]at l1 l2 c27 ⊢
   simp (config := { maxSteps := 4000000 }) (disch:=omega) only[t28,go_sem,ap0,aE c27]
   rw[l1]
   simp (config := { maxSteps := 4000000 }) (disch:=omega) only[go_sem]
   rw[l2]
   simp (config := { maxSteps := 4000000 }) (disch:=omega) only[go_sem,hlb,hh,ap3]
   rcases hv with rfl|⟨q,rfl⟩<;>simp (config := { maxSteps := 4000000 }) (disch:=omega) only[go_sem]
 ·have hbo:boO ad o=o.kd.map (wd ad):=by
   unfold boO prO; rw[if_neg h7]; rfl
  have hbl:(boO ad o).length≤1000000:=by rw[hbo]; simp; omega
  have hh:=bDn (n:=(boO ad o).length) (ty:=o.ty) (by omega) ht
  obtain⟨S2,jw2,y13,l2,hg2⟩:=aDc (.iv (.agg [.int .i64 o.ty,.int .i64 0,.sl t1 (aW o.kd),.bool (decide (o.z<0)),.sl t2 (TM.one i64 (dg 10 o.z.natAbs))])) (.iv (.sl .nil [])) u_ u_ u_ u_ (.iv (.bool false)) u_ u_ (.int .i64 o.ty) (.int .i64 0) (.bool (decide (o.z<0))) (.sl t2 (TM.one i64 (dg 10 o.z.natAbs))) tg t1 hkv hk o.kd.length 0 [] 0 [] u_ (by omega) (by simp) (Gl.nil ..)
  rw[List.drop_zero,List.nil_append,←hbo]at l2 hg2
  rw[show ((0:Nat):Int)=0 from rfl,show bC []=[] from rfl,cQ]at l2
  obtain⟨v,S3,tg3,ap3,r3,hv⟩:=bDo (S:=S2) (jw:=jw2) (bo:=boO ad o) (32*(boO ad o).length+4*o.ty+3) (by omega)
  have hlb:aEc .sl S2 (acc jw2 (bC (boO ad o)))=some (.iv (.int .i64 (boO ad o).length)):=by rw[bU,cB]
  refine⟨tg3,TM.bL (S:=S3) (r:=v) (aD K _ (fn:=t28) rfl rfl ?_) r3⟩
  clear hbo hbl hg2 hkv r3
  generalize boO ad o=bo at *
  simp (config := { maxSteps := 4000000 }) (disch:=omega) only[t28,go_sem,h7]
  rw[l2]
  simp (config := { maxSteps := 4000000 }) (disch:=omega) only[go_sem,hlb,hh,ap3]
  rcases hv with rfl|⟨q,rfl⟩<;>simp (config := { maxSteps := 4000000 }) (disch:=omega) only[go_sem]
theorem aZ7 (env:Env)(S:aA)(a b:IV):bH env S (.iv (.cp [a,b])) 2=some [.iv a,.iv b]:=rfl
theorem aMs (l:List Int):eT 1 (TM.one i64 l):=by
 intro y hy
 obtain⟨x,_,rfl⟩:=List.mem_map.1 hy
 exact⟨rfl,rfl⟩
theorem aFr (a b:List Int):TM.one i64 (a++b)=TM.one i64 a++TM.one i64 b:=List.map_append
theorem xH {l:List Int}:TM.one i64 l≠[]↔l≠[]:=by cases l<;>simp[TM.one]
theorem Gl.rowI {n0:Nat}{S:aA}{ys:List Int}{jw:Nat}(g:Gl n0 S 1 3 (TM.one i64 ys) jw)(h0:n0≤S.length)(v:Int)(hl:ys.length≤20000000):∃jw' S',bW false 1 8 3 S (acc jw (TM.one i64 ys)) (.iv (.sl .full [[.int .i64 v]]))=some (acc jw' (TM.one i64 (ys++[v])),S')∧Gl n0 S' 1 3 (TM.one i64 (ys++[v])) jw'∧S.length≤S'.length∧(∀q B,S[q]? = some B→(ys≠[]→q≠jw)→S'[q]? = some B)∧(jw'=jw∧ys≠[]∨S.length≤jw'):=by
 obtain⟨jw',S',ap,gr⟩:=g.more (x:=.iv (.sl .full (TM.one i64 [v]))) (iH.sl ..) (aMs [v]) (aMs ys) (b:=8) (cS (by rw[TM.bJ,TM.bJ,List.length_singleton]; omega)) h0
 rw[←aFr]at ap
 have gg:=gr.gl
 rw[←aFr]at gg
 refine⟨jw',S',ap,gg,gr.len,fun q B hq hn=>gr.old q B hq fun h=>hn (xH.1 h),?_⟩
 by_cases h:ys=[]
 ·exact .inr (gr.frsh (by rw[h]; rfl) (by simp[TM.one]))
 ·exact .inl ⟨gr.same (xH.2 h),h⟩
structure NS (b:Int) (S:aA) (j jc:Nat) (vs:List Vv) (P:Rl):Prop where
 own:S[j]? = some (nB jc vs P)
 ro:RO P.σ.L P.LO
 gd:Gd b P.σ
 b0:0≤b∧b≤67108864
 me:P.σ.mem.length≤1000000
theorem NS.next {b:Int}{S S':aA}{j jc:Nat}{vs:List Vv}{P:Rl}(h:NS b S j jc vs P)(e:S'[j]? = some (nB jc vs P)):NS b S' j jc vs P:=⟨e,h.ro,h.gd,h.b0,h.me⟩
theorem aFs {L:List Ob}{i:Nat}(h:i<L.length):((L.take (i+1)).map dY).sum=((L.take i).map dY).sum+dY L[i]:=by
 rw[List.take_add_one,List.getElem?_eq_getElem h,Option.toList,List.map_append,List.sum_append]; rfl
theorem vF (L:List Ob)(i:Nat):((L.take i).map dY).sum≤(L.map dY).sum:=by
 conv=>rhs; rw[←List.take_append_drop i L,List.map_append,List.sum_append]
 exact Nat.le_add_right ..
theorem aTs {b:Int}{j jc:Nat}{vs:List Vv}{P:Rl}(x0 x1 x2 x3 x4 x5 x7 x11 x12 x13 x14 x15 x16 x17 x20 x21 x22 x23:TV):∀(k i:Nat) (S:aA) (ja:Nat) (x18 x19:TV),i+k=P.σ.L.length→NS b S j jc vs P→Gl 0 S 1 3 (TM.one i64 (P.σ.ad.take i)) ja →
  ∃S' ja' y9 y18 y19,lp' (lim K) t9L3 [x0,x1,x2,x3,x4,x5,.ptr j 64 0,x7,acc ja (TM.one i64 (P.σ.ad.take i)),.iv (.int .i64 (b+(((P.σ.L.take i).map dY).sum:Nat))),.iv (.int .i64 i),x11,x12,x13,x14,x15,x16,x17,x18,x19,x20,x21,x22,x23] S=.ret (.exit 0,[x0,x1,x2,x3,x4,x5,.ptr j 64 0,x7,acc ja' (TM.one i64 P.σ.ad),y9,.iv (.int .i64 P.σ.L.length),x11,x12,x13,x14,x15,x16,x17,y18,y19,x20,x21,x22,x23],S')∧NS b S' j jc vs P
 | 0,i,S,ja,x18,x19,h,hN,hg=>by
  obtain rfl:i=P.σ.L.length:=by omega
  have hal:=hN.gd.al
  have htk:P.σ.ad.take P.σ.L.length=P.σ.ad:=List.take_of_length_le (by omega)
  have hlo:=hN.ro.len
  have ho:=hN.own
  rw[htk]
  refine⟨S,ja,.iv (.int .i64 (b+(((P.σ.L.take P.σ.L.length).map dY).sum:Nat))),.iv (.bool false),x19,aG K _ _ t9L3.eq_1 ?_,hN⟩
  unfold nB at ho
  simp (config := { maxSteps := 4000000 }) (disch:=omega) only[go_sem,ho,bU,hlo]
 | k+1,i,S,ja,x18,x19,h,hN,hg=>by
  have hla:i<P.σ.L.length:=by omega
  have hal:=hN.gd.al
  have hlo:=hN.ro.len
  have hap:=hN.gd.ap i hla
  have hb:=hN.b0
  have hms:=uG hN.gd
  have hme:=hN.me
  have hst:=vF P.σ.L (i+1)
  have hts:=aFs hla
  have hLl:=aAw hN.gd
  obtain⟨c,hc,t1,t2,ht2,hz,hk,rfl⟩:=hN.ro.at i P.σ.L[i] (List.getElem?_eq_getElem hla)
  have hix:=oJ (w:=5) (jw:=P.jl) hc rfl
  have hdl:(dg 65536 (P.σ.L[i].z.natAbs:Int)).length≤(dg 10 (P.σ.L[i].z.natAbs:Int)).length:=aS1 (by omega)
  have c27:=aSk (decide (P.σ.L[i].z<0)) t2 (P.σ.L[i].z.natAbs:Int) (by omega) ht2 (by omega)
  have hkl:=cH P.σ.L[i].kd
  have hol:=TM.bJ d16 (dg 65536 (P.σ.L[i].z.natAbs:Int))
  obtain⟨ja1,S1,ap,hg1,hl1,ho1,_⟩:=hg.rowI (Nat.zero_le _) (b+(((P.σ.L.take i).map dY).sum:Nat)) (by rw[List.length_take]; omega)
  have htk:P.σ.ad.take i++[b+(((P.σ.L.take i).map dY).sum:Nat)]=P.σ.ad.take (i+1):=by
   rw[List.take_add_one,hap]; rfl
  rw[htk]at ap hg1
  have o1:S1[j]? = some (nB jc vs P):=ho1 _ _ hN.own fun hn e=>by
   have:=hg.tok (xH.2 hn)
   rw[←e,hN.own]at this; unfold nB at this; cases this
  have hsz:dY P.σ.L[i]=1+(prO P.σ.L[i]).length+P.σ.L[i].kd.length:=rfl
  have ho:=hN.own
  obtain⟨S',ja',y9,y18,y19,ih,hN'⟩:=aTs x0 x1 x2 x3 x4 x5 x7 x11 x12 x13 x14 x15 x16 x17 x20 x21 x22 x23 k (i+1) S1 ja1 (.iv (.bool true)) (.iv (.bool (decide (P.σ.L[i].ty=7)))) (by omega) (hN.next o1) hg1
  rw[show ((i+1:Nat):Int)=(i:Int)+1 by omega]at ih
  refine⟨S',ja',y9,y18,y19,aG K _ _ t9L3.eq_1 ?_,hN'⟩
  unfold nB at ho o1
  by_cases h7:P.σ.L[i].ty=7
  ·have hpr:(prO P.σ.L[i]).length=1+(dg 65536 (P.σ.L[i].z.natAbs:Int)).length:=by unfold prO; rw[if_pos h7]; simp; omega
   rw[decide_eq_true h7]at ih
   have en:b+(((P.σ.L.take (i+1)).map dY).sum:Nat)=b+(((P.σ.L.take i).map dY).sum:Nat)+1+P.σ.L[i].kd.length+1+(dg 65536 (P.σ.L[i].z.natAbs:Int)).length:=by omega
   have hbd:0≤b+(((P.σ.L.take i).map dY).sum:Nat)∧b+(((P.σ.L.take i).map dY).sum:Nat)+1+P.σ.L[i].kd.length+1+(dg 65536 (P.σ.L[i].z.natAbs:Int)).length≤1000000000:=by omega
   rw[en]at ih
   rw[h7]at hix
   unfold kK at c27
   generalize P.σ.L[i]=o at *
   generalize b+(((P.σ.L.take i).map dY).sum:Nat)=nx at *
   clear hts hst hsz hpr en
   simp (config := { maxSteps := 4000000 }) (disch:=omega) only[go_sem,ho,o1,bU,hlo,ap,hix,ao0,aoS,sC,aZ7,hkl,aE c27,hol,aB]
   exact congrArg er ih
  ·have hpr:(prO P.σ.L[i]).length=0:=by unfold prO; rw[if_neg h7]; rfl
   rw[decide_eq_false h7]at ih
   have en:b+(((P.σ.L.take (i+1)).map dY).sum:Nat)=b+(((P.σ.L.take i).map dY).sum:Nat)+1+P.σ.L[i].kd.length:=by omega
   have hbd:0≤b+(((P.σ.L.take i).map dY).sum:Nat)∧b+(((P.σ.L.take i).map dY).sum:Nat)+1+P.σ.L[i].kd.length≤1000000000:=by omega
   rw[en]at ih
   generalize P.σ.L[i]=o at *
   generalize b+(((P.σ.L.take i).map dY).sum:Nat)=nx at *
   clear hts hst hsz hpr en
   simp (config := { maxSteps := 4000000 }) (disch:=omega) only[go_sem,ho,o1,bU,hlo,ap,hix,ao0,aoS,sC,aZ7,hkl,h7,aB]
   exact congrArg er ih
def AtV (A:TV)(ad:List Int):Prop:=(A=.iv (.sl .nil (TM.one i64 ad))∧ad=[])∨∃q,A=.tsl q (TM.one i64 ad)
theorem aTt {b:Int}{j jc:Nat}{vs:List Vv}{P:Rl}{A:TV}(hA:AtV A P.σ.ad)(x0 x1 x2 x3 x4 x5 x7 x9 x10 x12 x14 x15 x16 x17 x18 x19 x21 x22 x23:TV):∀(k i:Nat) (S:aA) (jm:Nat) (x20:TV),i+k=P.σ.L.length→NS b S j jc vs P→Gl 0 S 1 26 (bC ((P.σ.L.take i).flatMap (ow P.σ.ad))) jm →
  ∃S' jm' y20,lp' (lim K) t9L2 [x0,x1,x2,x3,x4,x5,.ptr j 64 0,x7,A,x9,x10,acc jm (bC ((P.σ.L.take i).flatMap (ow P.σ.ad))),x12,.iv (.int .i64 i),x14,x15,x16,x17,x18,x19,x20,x21,x22,x23] S=.ret (.exit 2,[x0,x1,x2,x3,x4,x5,.ptr j 64 0,x7,A,x9,x10,acc jm' (bC P.σ.mem),x12,.iv (.int .i64 P.σ.L.length),x14,x15,x16,x17,x18,x19,y20,x21,x22,x23],S')∧NS b S' j jc vs P∧Gl 0 S' 1 26 (bC P.σ.mem) jm'
 | 0,i,S,jm,x20,h,hN,hg=>by
  obtain rfl:i=P.σ.L.length:=by omega
  have hlo:=hN.ro.len
  have ho:=hN.own
  rw[List.take_length,←hN.gd.me]at hg ⊢
  refine⟨S,jm,.iv (.bool false),aG K _ _ t9L2.eq_1 ?_,hN,hg⟩
  unfold nB at ho
  simp (config := { maxSteps := 4000000 }) (disch:=omega) only[go_sem,ho,bU,hlo]
 | k+1,i,S,jm,x20,h,hN,hg=>by
  have hla:i<P.σ.L.length:=by omega
  have hal:=hN.gd.al
  have hlo:=hN.ro.len
  have hms:=uG hN.gd
  have hme:=hN.me
  have hst:=vF P.σ.L (i+1)
  have hts:=aFs hla
  have hLl:=aAw hN.gd
  have hvd:=hN.gd.vd P.σ.L[i] (List.getElem_mem _)
  rw[←hal]at hvd
  obtain⟨c,hc,hcE⟩:=hN.ro.at i P.σ.L[i] (List.getElem?_eq_getElem hla)
  obtain⟨tw,c28⟩:=bFd hcE hvd (match A with | .tsl _ _=>.no|_=>.nil)
  obtain⟨t1,t2,ht2,hz,hk,rfl⟩:=hcE
  have hix:=oJ (w:=5) (jw:=P.jl) hc rfl
  have hw1:=cB ((P.σ.L.take i).flatMap (ow P.σ.ad))
  have hw2:=cB (ow P.σ.ad P.σ.L[i])
  have hfl:((P.σ.L.take i).flatMap (ow P.σ.ad)).length=((P.σ.L.take i).map dY).sum:=by
   rw[List.length_flatMap]; congr 1; exact List.map_congr_left fun o _=>aC6 _ o
  have hol:=aC6 P.σ.ad P.σ.L[i]
  obtain⟨jm1,S1,ap,gr⟩:=hg.more (x:=.iv (.sl tw (bC (ow P.σ.ad P.σ.L[i])))) (iH.sl ..) (iB _) (iB _) (b:=4) (cS (by omega)) (Nat.zero_le _)
  have hg1:=gr.gl
  have hfm:bC ((P.σ.L.take i).flatMap (ow P.σ.ad))++bC (ow P.σ.ad P.σ.L[i])=bC ((P.σ.L.take (i+1)).flatMap (ow P.σ.ad)):=by
   rw[←lE,List.take_add_one,List.getElem?_eq_getElem hla,List.flatMap_append]; simp
  rw[hfm]at ap hg1
  have o1:S1[j]? = some (nB jc vs P):=gr.old _ _ hN.own fun hn e=>by
   have:=hg.tok hn
   rw[←e,hN.own]at this; unfold nB at this; cases this
  have ho:=hN.own
  obtain⟨S',jm',y20,ih,hN',hg'⟩:=aTt hA x0 x1 x2 x3 x4 x5 x7 x9 x10 x12 x14 x15 x16 x17 x18 x19 x21 x22 x23 k (i+1) S1 jm1 (.iv (.bool true)) (by omega) (hN.next o1) hg1
  rw[show ((i+1:Nat):Int)=(i:Int)+1 by omega]at ih
  refine⟨S',jm',y20,aG K _ _ t9L2.eq_1 ?_,hN',hg'⟩
  unfold nB at ho o1
  generalize P.σ.L[i]=o at *
  rcases hA with⟨rfl,he⟩|⟨q,rfl⟩
  ·dsimp only at c28
   simp (config := { maxSteps := 4000000 }) (disch:=omega) only[go_sem,ho,bU,hlo,ap,hix,ao0,aoS,sC,aZ7,aE c28,aB]
   exact congrArg er ih
  ·dsimp only at c28
   simp (config := { maxSteps := 4000000 }) (disch:=omega) only[go_sem,ho,bU,hlo,ap,hix,ao0,aoS,sC,aZ7,aE c28,aB]
   exact congrArg er ih
theorem aTu {b:Int}{j jc:Nat}{vs:List Vv}{P:Rl}{A:TV}(hA:AtV A P.σ.ad)(hv:∀v∈vs,OkV P.σ.ad.length v)(hl:vs.length≤1000000)(x0 x1 x2 x3 x4 x5 x7 x9 x10 x11 x13 x15 x16 x17 x18 x19 x20 x22 x23:TV):∀(k i:Nat) (S:aA) (jv:Nat) (done:List Int) (x21:TV),i+k=vs.length→done.length=i→NS b S j jc vs P→Gl 0 S 1 26 (bC done) jv →
  ∃S' jv' y21,lp' (lim K) t9L1 [x0,x1,x2,x3,x4,x5,.ptr j 64 0,x7,A,x9,x10,x11,acc jv (bC done),x13,.iv (.int .i64 i),x15,x16,x17,x18,x19,x20,x21,x22,x23] S=.ret (.exit 4,[x0,x1,x2,x3,x4,x5,.ptr j 64 0,x7,A,x9,x10,x11,acc jv' (bC (done++(vs.drop i).map (wd P.σ.ad))),x13,.iv (.int .i64 vs.length),x15,x16,x17,x18,x19,x20,y21,x22,x23],S')∧NS b S' j jc vs P∧S.length≤S'.length∧(∀q B,S[q]? = some B→(done≠[]→q≠jv)→S'[q]? = some B)
 | 0,i,S,jv,done,x21,h,hd,hN,hg=>by
  obtain rfl:i=vs.length:=by omega
  have hlo:=cH vs
  have ho:=hN.own
  rw[List.drop_length,List.map_nil,List.append_nil]
  refine⟨S,jv,.iv (.bool false),aG K _ _ t9L1.eq_1 ?_,hN,Nat.le_refl _,fun q B h _=>h⟩
  unfold nB at ho
  simp (config := { maxSteps := 4000000 }) (disch:=omega) only[go_sem,ho,bU,hlo]
 | k+1,i,S,jv,done,x21,h,hd,hN,hg=>by
  have hla:i<vs.length:=by omega
  have hlo:=cH vs
  have hdr:vs.drop i=vs[i]::vs.drop (i+1):=List.drop_eq_getElem_cons hla
  have hix:indexAddrS 2 (acc jc (aW vs)) (i:Int)=some (.iv (.cp [.int .i64 vs[i].k,.int .i64 vs[i].n])):=oJ (uI hla) rfl
  have c29:=fun tg=>aI4 (hv vs[i] (List.getElem_mem _)) tg
  obtain⟨jv1,S1,ap,hg1,hl1,ho1,hn1⟩:=hg.row (Nat.zero_le _) (wd P.σ.ad vs[i]) (by omega)
  have o1:S1[j]? = some (nB jc vs P):=ho1 _ _ hN.own fun hn e=>by
   have:=hg.tok (cX.2 hn)
   rw[←e,hN.own]at this; unfold nB at this; cases this
  have ho:=hN.own
  obtain⟨S',jv',y21,ih,hN',hl',ho'⟩:=aTu hA hv hl x0 x1 x2 x3 x4 x5 x7 x9 x10 x11 x13 x15 x16 x17 x18 x19 x20 x22 x23 k (i+1) S1 jv1 (done++[wd P.σ.ad vs[i]]) (.iv (.bool true)) (by omega) (by simp[hd]) (hN.next o1) hg1
  rw[List.append_assoc,List.singleton_append]at ih
  rw[hdr,List.map_cons]
  rw[show ((i+1:Nat):Int)=(i:Int)+1 by omega]at ih
  refine⟨S',jv',y21,aG K _ _ t9L1.eq_1 ?_,hN',by omega,fun q B hq hn=>ho' q B (ho1 q B hq hn) fun _ e=>?_⟩
  ·unfold nB at ho o1
   generalize vs[i]=v at *
   unfold eY at c29
   rcases hA with⟨rfl,he⟩|⟨q,rfl⟩
   ·simp (config := { maxSteps := 4000000 }) (disch:=omega) only[go_sem,ho,bU,hlo,ap,hix,aE (c29 _),aB]
    exact congrArg er ih
   ·simp (config := { maxSteps := 4000000 }) (disch:=omega) only[go_sem,ho,bU,hlo,ap,hix,aE (c29 _),aB]
    exact congrArg er ih
  ·rcases hn1 with⟨e1,hne⟩|h2
   ·exact hn hne (by rw[e,e1])
   ·have:=cM hq; omega
theorem aTv {b:Int}{j jc:Nat}{vs:List Vv}{P:Rl}{A:TV}(hA:AtV A P.σ.ad)(x0 x2 x3 x4 x5 x7 x9 x10 x12 x13 x14 x17 x18 x19 x20 x21 x23:TV):∀(k i:Nat) (S:aA) (jm:Nat) (τ:Sg) (v:Vv) (x22:TV),i+k=(cK P.σ).length→NS b S j jc vs P→Gl 0 S 1 26 (bC τ.mem) jm→Gd b τ→LeS P.σ τ→OkV τ.L.length v→(fF b ((cK P.σ).drop i) v τ).2.mem.length≤1000000 →
  ∃S' jm' y22,lp' (lim K) t9L0 [x0,.iv (.int .i64 b),x2,x3,x4,x5,.ptr j 64 0,x7,A,x9,x10,acc jm (bC τ.mem),x12,x13,x14,.iv (.int .u32 (wd τ.ad v)),.iv (.int .i64 i),x17,x18,x19,x20,x21,x22,x23] S=.ret (.exit 6,[x0,.iv (.int .i64 b),x2,x3,x4,x5,.ptr j 64 0,x7,A,x9,x10,acc jm' (bC (fF b ((cK P.σ).drop i) v τ).2.mem),x12,x13,x14,.iv (.int .u32 (wd (fF b ((cK P.σ).drop i) v τ).2.ad (fF b ((cK P.σ).drop i) v τ).1)),.iv (.int .i64 (cK P.σ).length),x17,x18,x19,x20,x21,y22,x23],S')
 | 0,i,S,jm,τ,v,x22,h,hN,hg,hgd,hle,hv,hm=>by
  obtain rfl:i=(cK P.σ).length:=by omega
  have hlo:=cH (cK P.σ)
  have ho:=hN.own
  rw[List.drop_length,fF]
  refine⟨S,jm,.iv (.bool false),aG K _ _ t9L0.eq_1 ?_⟩
  unfold nB at ho
  simp (config := { maxSteps := 4000000 }) (disch:=omega) only[go_sem,ho,bU,hlo]
 | k+1,i,S,jm,τ,v,x22,h,hN,hg,hgd,hle,hv,hm=>by
  have hla:i<(cK P.σ).length:=by omega
  have hlo:=cH (cK P.σ)
  have hdr:(cK P.σ).drop i=(cK P.σ)[i]::(cK P.σ).drop (i+1):=List.drop_eq_getElem_cons hla
  have hb:=hN.b0
  rw[hdr,fF]at hm ⊢
  have hu:OkV P.σ.L.length (cK P.σ)[i]:=by
   obtain⟨x,hx,e⟩:=List.mem_map.1 (List.getElem_mem hla)
   obtain⟨_,q,h1,h2⟩:=hN.gd.sy x hx
   have:=(List.getElem?_eq_some_iff.1 h1).1
   rw[←e]
   refine⟨fun _=>?_,fun h=>absurd rfl h⟩
   show 0≤((x.2:Nat):Int)∧((x.2:Nat):Int)<_
   omega
  have hal:=hN.gd.al
  have hix:indexAddrS 2 (acc P.js (aW (cK P.σ))) (i:Int)=some (.iv (.cp [.int .i64 (cK P.σ)[i].k,.int .i64 (cK P.σ)[i].n])):=oJ (uI hla) rfl
  have c29:=fun tg=>aI4 (ad:=P.σ.ad) (v:=(cK P.σ)[i]) (by rw[hal]; exact hu) tg
  have hwe:wd P.σ.ad (cK P.σ)[i]=wd τ.ad (cK P.σ)[i]:=by
   obtain⟨r,hr⟩:=hle.ad
   rw[hr]
   exact (uF (by rw[hal]; exact hu.1) hu.2).symm
  rw[hwe]at c29
  have hok:OkO τ.L.length ⟨0,[(cK P.σ)[i],v],0⟩:=⟨fun w hw=>by
   rcases List.mem_cons.1 hw with rfl|hw
   ·exact hu.mono hle.len.2
   ·rw[List.mem_singleton]at hw; subst hw; exact hv,(by show (0:Int)≤0; decide),(by show (0:Int)≤7; decide)⟩
  have hgd1:=sM hgd hok
  have hle1:=LeS.push b τ ⟨0,[(cK P.σ)[i],v],0⟩
  have hok1:=fS b τ ⟨0,[(cK P.σ)[i],v],0⟩
  have hpm:=gZ b τ ⟨0,[(cK P.σ)[i],v],0⟩
  have hpw:=aMl hgd ⟨0,[(cK P.σ)[i],v],0⟩
  have hs3:dY ⟨0,[(cK P.σ)[i],v],0⟩=3:=by unfold dY prO; rw[if_neg (by simp)]; rfl
  have hlt:=(oG b ((cK P.σ).drop (i+1)) (push b τ ⟨0,[(cK P.σ)[i],v],0⟩).1 (push b τ ⟨0,[(cK P.σ)[i],v],0⟩).2).len.1
  have eow:ow τ.ad ⟨0,[(cK P.σ)[i],v],0⟩=[67,wd τ.ad (cK P.σ)[i],wd τ.ad v]:=by
   unfold ow boO prO
   rw[if_neg (by simp)]; rfl
  have hml:=cB τ.mem
  obtain⟨jm1,S1,ap,gr⟩:=hg.more (x:=.iv (.sl .full (bC [67,wd τ.ad (cK P.σ)[i],wd τ.ad v]))) (iH.sl ..) (iB _) (iB _) (b:=4) (cS (by rw[cB,cB]; simp only[List.length_cons,List.length_nil]; omega)) (Nat.zero_le _)
  have hg1:=gr.gl
  have hfm:bC τ.mem++bC [67,wd τ.ad (cK P.σ)[i],wd τ.ad v]=bC (push b τ ⟨0,[(cK P.σ)[i],v],0⟩).2.mem:=by
   rw[←lE,←eow]; rfl
  rw[hfm]at ap hg1
  have o1:S1[j]? = some (nB jc vs P):=gr.old _ _ hN.own fun hn e=>by
   have:=hg.tok hn
   rw[←e,hN.own]at this; unfold nB at this; cases this
  have ho:=hN.own
  obtain⟨S',jm',y22,ih⟩:=aTv hA x0 x2 x3 x4 x5 x7 x9 x10 x12 x13 x14 x17 x18 x19 x20 x21 x23 k (i+1) S1 jm1 (push b τ ⟨0,[(cK P.σ)[i],v],0⟩).2 (push b τ ⟨0,[(cK P.σ)[i],v],0⟩).1 (.iv (.bool true)) (by omega) (hN.next o1) hg1 hgd1 (hle.trans hle1) hok1 hm
  rw[show ((i+1:Nat):Int)=(i:Int)+1 by omega]at ih
  have hml1:=cB (push b τ ⟨0,[(cK P.σ)[i],v],0⟩).2.mem
  have e3:b+((push b τ ⟨0,[(cK P.σ)[i],v],0⟩).2.mem.length:Int)-3=b+τ.mem.length:=by omega
  have hsl:(cK P.σ).length≤P.σ.L.length:=by have:=hN.gd.sl; unfold cK; rw[List.length_map]; exact this
  have hLl:=aAw hN.gd
  have hme:=hN.me
  refine⟨S',jm',y22,aG K _ _ t9L0.eq_1 ?_⟩
  rw[hpw]at ih
  unfold w32 at ih
  have ap':bW false 1 4 26 S (acc jm (bC τ.mem)) (.iv (.sl .full [[.int .u32 67],[.int .u32 (wd τ.ad (cK P.σ)[i])],[.int .u32 (wd τ.ad v)]]))=some (acc jm1 (bC (push b τ ⟨0,[(cK P.σ)[i],v],0⟩).2.mem),S1):=ap
  have hm9:(push b τ ⟨0,[(cK P.σ)[i],v],0⟩).2.mem.length≤1000000:=by omega
  unfold nB at ho o1
  unfold eY at c29
  generalize push b τ ⟨0,[(cK P.σ)[i],v],0⟩=p at *
  generalize (cK P.σ)[i]=u at *
  clear hfm gr hg1 hg hgd1 ap hN hpw hlt hm hdr
  rcases hA with⟨rfl,he⟩|⟨q,rfl⟩
  ·simp (config := { maxSteps := 4000000 }) (disch:=omega) only[go_sem,ho,bU,hlo,ap',hix,aE (c29 _),hml1,aB,e3]
   exact congrArg er ih
  ·simp (config := { maxSteps := 4000000 }) (disch:=omega) only[go_sem,ho,bU,hlo,ap',hix,aE (c29 _),hml1,aB,e3]
   exact congrArg er ih
theorem aZ8 (ja:Nat)(ad:List Int):AtV (acc ja (TM.one i64 ad)) ad:=by
 by_cases h:ad=[]
 ·subst h; exact .inl ⟨cQ _,rfl⟩
 ·exact .inr ⟨ja,iI _ (xH.2 h)⟩
theorem aTw {cs:List Dt}{b:Int}(g:Tag)(hw:Dt.ws cs≤10000)(hwx:∀d∈cs,d.w≤1000)(hb:0≤b∧b≤67108864)(hok:iN cs=true):∃t1 t2,
  TM.Pure K 9 [.iv (.sl g (bT cs)),.iv (.int .i64 b)] (if 67108864<b+(fK b cs).2.mem.length then .tup [.iv (.sl .nil []),.iv (.sl .nil []),.iv (.int .u32 0),.iv (.int .i64 3)] else .tup [.iv (.sl t1 (bC (fK b cs).2.mem)),.iv (.sl t2 (bC ((dF b cs).1.map (wd (dF b cs).2.ad)))),.iv (.int .u32 (wd (fK b cs).2.ad (fK b cs).1)),.iv (.int .i64 0)]):=by
 obtain⟨S0,P,j,jc,c26,o0,hro,hσ,hgd,hv⟩:=aBp (b:=b) g hw hwx hok
 have hwl:=Dt.ws_len cs
 have hg0:=jH b (2*Dt.ws cs+1) cs σ0
 have hm0:σ0.mem.length=0:=rfl
 have hll:(dF b cs).2.mem.length≤6*Dt.ws cs:=by unfold dF; omega
 have hfl:=aC9 hgd
 have hvl:(dF b cs).1.length≤cs.length:=jZ b _ cs σ0
 have hgd':Gd b P.σ:=by rw[hσ]; exact hgd
 have hN0:NS b S0 j jc (dF b cs).1 P:=⟨o0,hro,hgd',hb,by rw[hσ]; omega⟩
 have hal:=hgd'.al
 have hvv:∀v∈(dF b cs).1,OkV P.σ.ad.length v:=by rw[hal,hσ]; exact hv
 have l3:=fun (x0 x1 x2 x3 x4 x5 x7 x11 x12 x13 x14 x15 x16 x17 x18 x19 x20 x21 x22 x23:TV)=>aTs (b:=b) (j:=j) (jc:=jc) (vs:=(dF b cs).1) (P:=P) x0 x1 x2 x3 x4 x5 x7 x11 x12 x13 x14 x15 x16 x17 x20 x21 x22 x23 P.σ.L.length 0 S0 0 x18 x19 (by omega) hN0 (Gl.nil ..)
 obtain⟨S1,ja,y9,y18,y19,l3,hN1⟩:=l3 (.iv (.sl g (bT cs))) (.iv (.int .i64 b)) (.iv (.sl .nil [])) (.iv (.sl .nil [])) (.iv (.int .u32 0)) (.iv (.int .i64 0)) (.iv (.int .i64 0)) u_ u_ u_ u_ u_ u_ (.iv (.bool false)) u_ u_ u_ u_ u_ u_
 rw[List.take_zero,List.take_zero,show TM.one i64 []=[] from rfl,cQ,List.map_nil,List.sum_nil,show ((0:Nat):Int)=0 from rfl,Int.add_zero]at l3
 have hA:=aZ8 ja P.σ.ad
 have l2:=fun (x10 x12 x14 x15 x16 x17 x20 x21 x22 x23:TV)=>aTt (b:=b) (j:=j) (jc:=jc) (vs:=(dF b cs).1) (P:=P) hA (.iv (.sl g (bT cs))) (.iv (.int .i64 b)) (.iv (.sl .nil [])) (.iv (.sl .nil [])) (.iv (.int .u32 0)) (.iv (.int .i64 0)) (.iv (.int .i64 0)) y9 x10 x12 x14 x15 x16 x17 y18 y19 x21 x22 x23 P.σ.L.length 0 S1 0 x20 (by omega) hN1 (Gl.nil ..)
 obtain⟨S2,jm,y20,l2,hN2,hgm⟩:=l2 (.iv (.int .i64 P.σ.L.length)) (.iv (.sl .nil [])) u_ u_ u_ (.iv (.bool false)) u_ u_ u_ u_
 rw[List.take_zero,List.flatMap_nil,show bC []=[] from rfl,cQ,show ((0:Nat):Int)=0 from rfl]at l2
 have l1:=fun (x13 x15 x16 x17 x21 x22 x23:TV)=>aTu (b:=b) (j:=j) (jc:=jc) (vs:=(dF b cs).1) (P:=P) hA hvv (by omega) (.iv (.sl g (bT cs))) (.iv (.int .i64 b)) (.iv (.sl .nil [])) (.iv (.sl .nil [])) (.iv (.int .u32 0)) (.iv (.int .i64 0)) (.iv (.int .i64 0)) y9 (.iv (.int .i64 P.σ.L.length)) (acc jm (bC P.σ.mem)) x13 x15 x16 x17 y18 y19 y20 x22 x23 (dF b cs).1.length 0 S2 0 [] x21 (by omega) rfl hN2 (Gl.nil ..)
 obtain⟨S3,jv,y21,l1,hN3,hl3,ho3⟩:=l1 (.iv (.int .i64 P.σ.L.length)) u_ u_ (.iv (.bool false)) u_ u_ u_
 rw[List.drop_zero,List.nil_append,show bC []=[] from rfl,cQ,show ((0:Nat):Int)=0 from rfl]at l1
 have hgm3:Gl 0 S3 1 26 (bC P.σ.mem) jm:=⟨fun hn=>ho3 _ _ (hgm.tok hn) (fun h=>absurd rfl h),fun _=>Nat.zero_le _⟩
 have l0:=fun (x17 x22 x23:TV)=>aTv (b:=b) (j:=j) (jc:=jc) (vs:=(dF b cs).1) (P:=P) hA (.iv (.sl g (bT cs))) (.iv (.sl .nil [])) (.iv (.sl .nil [])) (.iv (.int .u32 0)) (.iv (.int .i64 0)) (.iv (.int .i64 0)) y9 (.iv (.int .i64 P.σ.L.length)) (acc jv (bC ((dF b cs).1.map (wd P.σ.ad)))) (.iv (.int .i64 P.σ.L.length)) (.iv (.int .i64 (dF b cs).1.length)) x17 y18 y19 y20 y21 x23 (cK P.σ).length 0 S3 jm P.σ ⟨4,0⟩ x22 (by omega) hN3 hgm3 hgd' (LeS.refl _) ⟨(fun h=>by simp at h),fun _=>by simp⟩ (by rw[List.drop_zero,hσ]; show (fK b cs).2.mem.length≤_; omega)
 obtain⟨S4,jm',y22,l0⟩:=l0 (.iv (.bool false)) u_ u_
 rw[List.drop_zero,show ((0:Nat):Int)=0 from rfl,show wd P.σ.ad ⟨4,0⟩=38 from rfl]at l0
 have ef:fF b (cK P.σ) ⟨4,0⟩ P.σ=fK b cs:=by rw[hσ]; rfl
 rw[ef]at l0
 have hml:(bC (fK b cs).2.mem).length=(fK b cs).2.mem.length:=cB _
 refine⟨eM (bC (fK b cs).2.mem),eM (bC ((dF b cs).1.map (wd (dF b cs).2.ad))),?_⟩
 rw[←hσ]
 have h1:¬b<0:=by omega
 have h2:¬67108864<b:=by omega
 clear hN0 hN1 hN2 hN3 hgm hgm3 ho3 hA hvv hgd' hgd hv
 refine aX t9 rfl rfl ?_
 simp (config := { maxSteps := 4000000 }) (disch:=omega) only[t9,go_sem,c26,h1,h2]
 rw[l3]
 simp (config := { maxSteps := 4000000 }) (disch:=omega) only[go_sem]
 rw[l2]
 simp (config := { maxSteps := 4000000 }) (disch:=omega) only[go_sem]
 rw[l1]
 simp (config := { maxSteps := 4000000 }) (disch:=omega) only[go_sem]
 rw[l0]
 by_cases hbig:67108864<b+((fK b cs).2.mem.length:Int)
 ·rw[if_pos hbig]
  simp (config := { maxSteps := 4000000 }) (disch:=omega) only[go_sem,bU,hml,aB,hbig]
 ·rw[if_neg hbig]
  simp (config := { maxSteps := 4000000 }) (disch:=omega) only[go_sem,bU,hml,aB,hbig]
theorem aN2 {cs:List Dt}{b:Int}(g:Tag)(hw:Dt.ws cs≤10000)(hwx:∀d∈cs,d.w≤1000)(h:b<0∨67108864<b∨iN cs=false):TM.Pure K 9 [.iv (.sl g (bT cs)),.iv (.int .i64 b)] (.tup [.iv (.sl .nil []),.iv (.sl .nil []),.iv (.int .u32 0),.iv (.int .i64 2)]):=by
 have hwl:=Dt.ws_len cs
 refine aX t9 rfl rfl ?_
 by_cases hok:iN cs=true
 ·obtain⟨S0,P,j,jc,c26,_⟩:=aBp (b:=0) g hw hwx hok
  by_cases h0:b<0
  ·simp (config := { maxSteps := 4000000 }) (disch:=omega) only[t9,go_sem,c26,h0]
  ·have h1:67108864<b:=by rcases h with h|h|h; omega; exact h; rw[hok]at h; cases h
   simp (config := { maxSteps := 4000000 }) (disch:=omega) only[t9,go_sem,c26,h0,h1]
 ·rw[Bool.not_eq_true]at hok
  have c26:=aI3 g (fun d hd=>by have:=hwx d hd; omega) (by omega) hok
  simp (config := { maxSteps := 4000000 }) (disch:=omega) only[t9,go_sem,c26]
theorem ixU {tg:Tag}{l:List Int}{i:Nat}(h:i<l.length):indexAddrS 1 (.iv (.sl tg (bC l))) (i:Int)=some (.iv (.cp [.int .u32 l[i]])):=by
 have:=iG (f:=.int .u32) (t:=tg) (l:=l) (i:=(i:Int)) (by omega)
 rw[Int.toNat_natCast,show l.getD i default=l[i] by simp[List.getD,List.getElem?_eq_getElem h]]at this
 exact this
theorem aTx (t1 t2:Tag)(l:List Int)(hl:l.length≤10000000)(x4:TV)(S:aA):∀(k i:Nat) (x5 x6:TV),i+k=l.length →
  ∃y5 y6,lp' (lim K) t10L0 [.iv (.sl t1 (bC l)),.iv (.sl t2 (bC l)),.iv (.bool false),.iv (.int .i64 i),x4,x5,x6] S=.ret (.exit 0,[.iv (.sl t1 (bC l)),.iv (.sl t2 (bC l)),.iv (.bool false),.iv (.int .i64 l.length),x4,y5,y6],S)
 | 0,i,x5,x6,h=>by
  obtain rfl:i=l.length:=by omega
  have hle:=cB l
  refine⟨.iv (.bool false),x6,aG K _ _ t10L0.eq_1 ?_⟩
  simp (config := { maxSteps := 4000000 }) (disch:=omega) only[go_sem,hle]
 | k+1,i,x5,x6,h=>by
  have hla:i<l.length:=by omega
  have hle:=cB l
  have h1:=ixU (tg:=t1) hla
  have h2:=ixU (tg:=t2) hla
  obtain⟨y5,y6,ih⟩:=aTx t1 t2 l hl x4 S k (i+1) (.iv (.bool true)) (.iv (.bool false)) (by omega)
  rw[show ((i+1:Nat):Int)=(i:Int)+1 by omega]at ih
  refine⟨y5,y6,aG K _ _ t10L0.eq_1 ?_⟩
  generalize l[i]=c at *
  simp (config := { maxSteps := 4000000 }) (disch:=omega) only[go_sem,hle,h1,h2,aB]
  exact congrArg er ih
theorem aDd (t1 t2:Tag)(l:List Int)(hl:l.length≤10000000):TM.Pure K 10 [.iv (.sl t1 (bC l)),.iv (.sl t2 (bC l))] (.iv (.bool true)):=by
 have hle:=cB l
 obtain⟨y5,y6,l1⟩:=aTx t1 t2 l hl (.iv (.bool false)) [] l.length 0 u_ u_ (by omega)
 rw[show ((0:Nat):Int)=0 from rfl]at l1
 refine aX t10 rfl rfl ?_
 simp (config := { maxSteps := 4000000 }) (disch:=omega) only[t10,go_sem,hle]
 rw[l1]
 simp (config := { maxSteps := 4000000 }) (disch:=omega) only[go_sem]
end Go.Proofs.YtjbpbohpmfpoiaaGreatDoor
