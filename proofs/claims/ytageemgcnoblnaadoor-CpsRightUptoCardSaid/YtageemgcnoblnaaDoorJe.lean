/- Some texts of the proof, joined. Condition: none. -/
import Derived.Test.YtageemgcnoblnaaDoorJd
import Derived.Test.YtageemgcnoblnaaDoorKr1
import Derived.Test.YtageemgcnoblnaaDoorJc
set_option maxRecDepth 100000
set_option maxHeartbeats 64000000
set_option linter.unusedSimpArgs false
set_option linter.unusedVariables false
namespace Go.Proofs.YtageemgcnoblnaaDoor
open Go Go.TM Go.ChangeShapes Go.WideShapes
theorem bIq (l:List IV):aDg Tryd.prog 28 l=.iv (.agg l):=aR7 (by rw[Tryd.underlying28])
theorem bDk {S:aA}{C:Cd}{fb fm:Bool}{jb jm:Nat}{b m:List Int}(h:LK S C 0 fb fm jb jm b m)(t:Tag)(l:List Int)(hl:l.length≤1048576)(hm:∀v∈l,v∈b)(x0 x1 x2 x3 x4 x8 x9 x10 x11:TV):∀(k i:Nat) (x12 x13:TV),i+k=l.length →
  ∃(y12 y13:TV),lp' (lim K) t6L0 [x0,x1,x2,x3,x4,.ptr 0 57 0,.iv (.sl t (bX l)),.iv (.int .i64 i),x8,x9,x10,x11,x12,x13] S=.ret (.exit 0,[x0,x1,x2,x3,x4,.ptr 0 57 0,.iv (.sl t (bX l)),.iv (.int .i64 l.length),x8,x9,x10,x11,y12,y13],S)
 | 0,i,x12,x13,hi=>by
  obtain rfl:i=l.length:=by omega
  have hle:=gG l
  refine⟨.iv (.bool false),x13,aN K _ _ t6L0.eq_1 ?_⟩
  simp (config := { maxSteps := 4000000 }) (disch:=omega) only[go_sem,hle]
 | k+1,i,x12,x13,hi=>by
  have hla:i<l.length:=by omega
  have hle:=gG l
  have hix:=aTt (t:=t) hla
  have ho:=h.own
  have e1:((i+1:Nat):Int)=(i:Int)+1:=by omega
  have h14:=aD1 (aTx fb (bX b)) b (by have:=h.ln; omega) l[i]
  rw[decide_eq_true (hm _ (List.getElem_mem _))]at h14
  obtain⟨y12,y13,ih⟩:=bDk h t l hl hm x0 x1 x2 x3 x4 x8 x9 x10 x11 k (i+1) (.iv (.bool true)) (.iv (.bool false)) (by omega)
  rw[e1]at ih
  refine⟨y12,y13,aN K _ _ t6L0.eq_1 ?_⟩
  unfold lkB at ho
  simp (config := { maxSteps := 4000000 }) (disch:=omega) only[go_sem,hle,hix,ho,aQ h14,aF]
  exact congrArg er ih
theorem law6 (p:Pg)(hp:p.b.w≤1048576∧Dt.ws p.cs≤1048576)(ho:p.ok):∃S',(lim K).call 6 [.iv (.agg (mZ p))] []=.ret (.iv (.bool true),S'):=by
 obtain⟨b,c7,hfew⟩:=bEn p hp []
 have c8:=bHc
 cases b with
 | false =>
  refine⟨[],aB K _ (fn:=t6) rfl rfl ?_⟩
  unfold mZ at *
  simp (config := { maxSteps := 4000000 }) (disch:=omega) only[t6,go_sem,c7,aQ c8]
 | true =>
  obtain⟨hsz,hcl,hvr,hbl⟩:=hfew rfl
  by_cases hck:xX p=0
  ·obtain⟨hf,hsc,hv,hgl⟩:=aT7 hck
   cases hst:lH p.b.w p.b with
   | true =>
    have c9:=aT6 hp hck hst
    unfold noC at c9
    refine⟨[],aB K _ (fn:=t6) rfl rfl ?_⟩
    unfold mZ at *
    simp (config := { maxSteps := 4000000 }) (disch:=omega) only[t6,go_sem,c7,aQ c8,aQ c9]
   | false =>
    obtain⟨n,x,r,hx,m⟩:=mdl hp.1 ho.1 hck hsz
    obtain⟨tg,c9⟩:=aZ7 hp ho.1 (by omega) hck hst hx m.bd
    obtain⟨T,mt⟩:=aOl hp.1 ho.1 hck hst hx m
    rw[show [IV.sl .nil [],.bool false,.bool false,.sl .nil []]++fP (p.vr+1) 0 (.sl .full [x.1])=jI (p.vr+1) x.1 from rfl]at c9
    have hln:=m.ln
    have hle:=(mono n).code hx
    have hF2:2≤x.2.fs.length:=hle.len
    have hFl:(x.2.fs.set 1 (jI (p.vr+1) x.1)).length=x.2.fs.length:=List.length_set
    have hF1:(x.2.fs.set 1 (jI (p.vr+1) x.1))[1]? = some (jI (p.vr+1) x.1):=by
     rw[List.getElem?_set_self (by omega)]
    have hdl:(eW p.cs).length=p.cs.length:=dF p.cs
    have hnv:=m.nv
    have hpl:(bvs (kI p T)).length≤900000:=by
     rw[mt.bp.length_eq,List.length_append,aCp]
     have:=m.nh
     omega
    let C:Cd:=⟨tg,x.2.fs.set 1 (jI (p.vr+1) x.1),x.2.nv,p.gl,p.gc,eW p.cs⟩
    have hL:LK [lkB C false true 0 0 [] [1]] C 0 false true 0 0 [] [1]:=⟨rfl,⟨fun _ h=>absurd rfl h⟩,⟨fun h=>by cases h⟩,fun q h _=>absurd rfl h.2.1,by simp⟩
    have hml:=mt.ml
    obtain⟨fb,fm,jb,jm,S1,c16,hL1,hX1⟩:=aT8 (C:=C) (tp:=.nil) (ps:=[]) (r:=false) (cc:=false) (fs:=false) (js:=0) (seen:=[]) (aCs (C:=C) (by show (eW p.cs).length≤_; omega) (by show (x.2.fs.set 1 _).length≤_; omega) (kI p T)) mt.dec (by show OkT (eW p.cs).length _ _ _; rw[hdl]; exact mt.ok) (fun h=>by cases h) (by simp) hL ⟨mt.bn,fun v hv=>⟨(mt.br v hv).1,(mt.br v hv).2,by simp⟩,mt.mn,fun v hv=>by
     rw[List.mem_singleton]; rintro rfl; exact mt.m1 hv,by simp; omega,by simp; omega,by simp; omega⟩
    obtain⟨own,c17,hris,hol⟩:=bDw p.b ho.1 hp.1
    have hmem:∀v∈own,v∈[]++([]++bvs (kI p T)):=fun v hv=>by
     rw[List.nil_append,List.nil_append]
     exact mt.bp.mem_iff.2 (List.mem_append_left _ (aF8 v p.b ((hris.mem v).1 hv)))
    obtain⟨y12,y13,lp⟩:=bDk hL1 (tD own) own hol hmem (.iv (.agg (mZ p))) (lbP p) (.iv (.bool false)) (.lb [.iv (.sl tg (x.2.fs.set 1 (jI (p.vr+1) x.1))),.iv (.int .i64 1),.iv (.int .i64 x.2.nv),.iv (.int .i64 p.gl),.iv (.sl p.gc (eW p.cs))]) (.iv (.int .i64 0)) (.iv (.bool false)) (.iv (.bool false)) (.iv (.bool false)) (.iv (.bool false)) own.length 0 u_ u_ (by omega)
    rw[show ((0:Nat):Int)=0 from rfl]at lp
    have o1:=hL1.own
    have hix:indexAddrS 11 (.iv (.sl tg (x.2.fs.set 1 (jI (p.vr+1) x.1)))) (1:Int)=some (.iv (.cp (jI (p.vr+1) x.1))):=pJ (by omega) (by rw[show (1:Int).toNat=1 from rfl]; exact hF1) rfl
    have hmk:(bX ([1]++mks (kI p T))).length=x.2.fs.length:=by rw[gG,List.length_append,List.length_singleton]; omega
    refine⟨S1,aB K _ (fn:=t6) rfl rfl ?_⟩
    have c16':(lim K).call 16 [.ptr 0 57 0,.iv (.agg (jI (p.vr+1) x.1)),.iv (.sl .nil [])] [.cells 57 false [.iv (.sl tg (x.2.fs.set 1 (jI (p.vr+1) x.1))),.iv (.int .i64 1),.iv (.int .i64 x.2.nv),.iv (.int .i64 p.gl),.iv (.sl p.gc (eW p.cs)),.iv (.sl .nil []),.iv (.sl .full [[.int .i64 1]])]]=.ret (.iv (.bool true),S1):=c16
    unfold lkB at o1
    simp only[C]at o1
    generalize x.2.fs.set 1 (jI (p.vr+1) x.1)=F at *
    unfold lbP jI fP at *
    unfold mZ at *
    rw[aZ]at c17
    simp only[List.cons_append,List.nil_append]at hix c16'
    have hao:∀r:List IV,dY (.iv (.cp (.sl .nil []::r))) 0=some (.iv (.cp (.sl .nil []::r))):=fun r=>rfl
    have hg1:∀(r:List IV) (e:Env) (T:aA),bB e T (.iv (.cp (.sl .nil []::r))) 1=some [.iv (.sl .nil [])]:=fun r e T=>by simp[bB,TM.sub]
    simp (config := { maxSteps := 4000000 }) (disch:=omega) only[t6,go_sem,c7,aQ c8,aQ c9,hix,c16',o1,aQ c17,hmk,hFl,hdl,hao,hg1]
    rw[lp]
    simp (config := { maxSteps := 4000000 }) (disch:=omega) only[go_sem,aQ c8]
  ·have c9:=aZ6 hp hck
   unfold noC at c9
   refine⟨[],aB K _ (fn:=t6) rfl rfl ?_⟩
   unfold mZ at *
   simp (config := { maxSteps := 4000000 }) (disch:=omega) only[t6,go_sem,c7,aQ c8,aQ c9,hck]
theorem inv6 {H:Type}{ds:List (DataW H)}{ls:List (List IV)}(hh0:mY Tryd.prog [28] ds ls)(hb:Rows.uptoBulkAll ds≤1048576):((lim K).call 6 (aFo Tryd.prog [28] ls) []).All fun r=>r.1=.iv (.bool true):=by
 obtain⟨d0,l0,ds,ls,rfl,rfl,h0,hh1⟩:=cL hh0
 obtain rfl:=mI hh1
 rw[rR hh1]
 simp only[Rows.uptoBulkAll]at hb
 obtain⟨p,rfl,b0,r0⟩:=bGu h0
 simp only[aFo,bIq]
 have hpw:p.b.w+Dt.ws p.cs≤1048576:=by show p.w≤_; omega
 obtain⟨S',h⟩:=law6 p ⟨by omega,by omega⟩ r0
 rw[h]
 exact rfl
end Go.Proofs.YtageemgcnoblnaaDoor
