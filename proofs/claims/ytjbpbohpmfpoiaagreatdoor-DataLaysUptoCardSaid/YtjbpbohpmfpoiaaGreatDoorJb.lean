/- Some texts of the proof, joined. Condition: none. -/
import Derived.Test.YtjbpbohpmfpoiaaGreatDoorJa
import Derived.Test.YtjbpbohpmfpoiaaGreatDoorTmE
import Derived.Test.YtjbpbohpmfpoiaaGreatDoorTmF
set_option maxRecDepth 100000
set_option linter.unusedSimpArgs false
set_option linter.unusedVariables false
set_option maxHeartbeats 64000000
namespace Go.Proofs.YtjbpbohpmfpoiaaGreatDoor
open Go Go.TM
def lY:List UInt8→Bool
 | c::_=>decide ((c.toNat:Int)=45)
 | []=>false
def aIs:List UInt8→Bool
 | c::_=>decide ((c.toNat:Int)=43)
 | []=>false
def first (s:List UInt8):Nat:=if lY s||aIs s then 1 else 0
def body (s:List UInt8):List UInt8:=s.drop (first s)
def okP (s:List UInt8):Bool:=decide (body s≠[])&&(body s).all isD
theorem aC5 {s:List UInt8}(h:s.all isD=true):Dig 10 (s.reverse.map dgt):=by
 intro x hx
 obtain⟨c,hc,rfl⟩:=List.mem_map.1 hx
 have:=List.all_eq_true.1 h c (List.mem_reverse.1 hc)
 simp only[isD,Bool.and_eq_true,decide_eq_true_eq]at this
 simp only[dgt]; omega
theorem jG {s:List UInt8}(h:s.all isD=true):0≤dec s:=dP (by decide) (aC5 h)
theorem bEs (c:UInt8)(r:List UInt8)(kd:IntKind):tU (.iv (.str (c::r))) (.iv (.int kd 0))=some (.iv (.int .u8 c.toNat)):=mS (s:=c::r) (i:=0) (by simp)
set_option maxHeartbeats 4000000 in
theorem aY8 (c:UInt8)(r:List UInt8)(hl:(c::r).length≤1000)(fst:Nat)(hf:fst=first (c::r))(hfl:fst<(c::r).length) :
  ∃t',bP t' (dg 10 (dec ((c::r).drop fst)))∧Pure K 86 [.iv (.str (c::r))] (if ((c::r).drop fst).all isD then .tup [.iv (kK (sg (lY (c::r)) (dg 10 (dec ((c::r).drop fst)))) t' (dg 10 (dec ((c::r).drop fst)))),.iv (.int .i64 0)] else .tup [.iv (kK false .nil []),.iv (.int .i64 4)]):=by
 obtain⟨m,hm⟩:∃m,(c::r).length=fst+m:=⟨(c::r).length-fst,by omega⟩
 have key:=fun (x3 x7 x8:TV)=>aSm (c::r) hl fst x3 x7 x8 m u_ u_ (by omega)
 simp only[←hm,List.take_of_length_le (Nat.le_refl _),List.drop_length]at key
 have e0:acc 0 (one i64 [])=.iv (.sl .nil []):=cQ 0
 have e1:gV 1 3 (one i64 [])=[]:=eU 1 3
 have hb:=blB c
 have hlen:(c::r).length=r.length+1:=rfl
 have hix:=bEs c r
 by_cases hall:((c::r).drop fst).all isD=true
 ·have hdd:=aC5 hall
  obtain⟨t',h1,h43⟩:=aY3 (lY (c::r)) (eM (one i64 (((c::r).drop fst).reverse.map dgt))) (((c::r).drop fst).reverse.map dgt) (by rw[show eM (one i64 (((c::r).drop fst).reverse.map dgt))=eM (((c::r).drop fst).reverse.map dgt) from jA _ _]; exact iZ _) (by simp; omega)
  rw[aFh (by decide) hdd]at h1 h43
  refine⟨t',h1,aX t86 rfl rfl ?_⟩
  rw[if_pos hall]
  simp only[hall,↓reduceIte,kK,lY,List.drop_succ_cons,List.drop_zero]at key h43 ⊢
  by_cases h45:(c.toNat:Int)=45
  ·have f1:fst=1:=by rw[hf]; simp[first,lY,h45]
   subst f1
   obtain⟨y5,y6,y9,y10,S',e⟩:=key (.iv (.bool true)) (.iv (.bool true)) (.iv (.bool false))
   rw[←hm,List.drop_length,show ([]:List UInt8).reverse.map dgt=[] from rfl,e0,e1,hlen,show ((r.length+1:Nat):Int)-1=(r.length:Int)+1-1 by omega,show ((1:Nat):Int)=1 from rfl]at e
   have hne:¬((r.length:Int)+1=1):=by rw[hlen]at hfl; omega
   simp only[h45,decide_true,decide_false,List.drop_succ_cons,List.drop_zero,dec]at h43 ⊢
   simp (config := { maxSteps := 4000000 }) (disch:=omega) only[t86,go_sem,hlen,Int.natCast_add,Int.cast_ofNat_Int,hix,h45,hne,aB,e,fE,aE h43,bY,bN]
  ·by_cases h43':(c.toNat:Int)=43
   ·have f1:fst=1:=by rw[hf]; simp[first,lY,aIs,h45,h43']
    subst f1
    obtain⟨y5,y6,y9,y10,S',e⟩:=key (.iv (.bool false)) (.iv (.bool true)) (.iv (.bool false))
    rw[←hm,List.drop_length,show ([]:List UInt8).reverse.map dgt=[] from rfl,e0,e1,hlen,show ((r.length+1:Nat):Int)-1=(r.length:Int)+1-1 by omega,show ((1:Nat):Int)=1 from rfl]at e
    have hne:¬((r.length:Int)+1=1):=by rw[hlen]at hfl; omega
    simp only[h45,decide_true,decide_false,List.drop_succ_cons,List.drop_zero,dec]at h43 ⊢
    simp (config := { maxSteps := 4000000 }) (disch:=omega) only[t86,go_sem,hlen,Int.natCast_add,Int.cast_ofNat_Int,hix,h45,h43',hne,aB,e,fE,aE h43,bY,bN]
   ·have f1:fst=0:=by rw[hf]; simp[first,lY,aIs,h45,h43']
    subst f1
    obtain⟨y5,y6,y9,y10,S',e⟩:=key (.iv (.bool false)) (.iv (.bool false)) (.iv (.bool false))
    rw[←hm,List.drop_length,show ([]:List UInt8).reverse.map dgt=[] from rfl,e0,e1,hlen,show ((r.length+1:Nat):Int)-1=(r.length:Int)+1-1 by omega,show ((0:Nat):Int)=0 from rfl]at e
    have hne:¬((r.length:Int)+1=0):=by omega
    simp only[h45,decide_true,decide_false,List.drop_succ_cons,List.drop_zero,dec]at h43 ⊢
    simp (config := { maxSteps := 4000000 }) (disch:=omega) only[t86,go_sem,hlen,Int.natCast_add,Int.cast_ofNat_Int,hix,h45,h43',hne,aB,e,fE,aE h43,bY,bN]
 ·refine⟨eM (dg 10 (dec ((c::r).drop fst))),iZ _,aX t86 rfl rfl ?_⟩
  rw[if_neg hall]
  have e2:one i64 []=[]:=rfl
  simp only[hall,↓reduceIte,Bool.false_eq_true,kK,e2]at key ⊢
  by_cases h45:(c.toNat:Int)=45
  ·have f1:fst=1:=by rw[hf]; simp[first,lY,h45]
   subst f1
   obtain⟨y5,y6,y9,y10,S',e⟩:=key (.iv (.bool true)) (.iv (.bool true)) (.iv (.bool false))
   rw[←hm,List.drop_length,show ([]:List UInt8).reverse.map dgt=[] from rfl,e0,e1,hlen,show ((r.length+1:Nat):Int)-1=(r.length:Int)+1-1 by omega,show ((1:Nat):Int)=1 from rfl]at e
   have hne:¬((r.length:Int)+1=1):=by rw[hlen]at hfl; omega
   simp (config := { maxSteps := 4000000 }) (disch:=omega) only[t86,go_sem,hlen,Int.natCast_add,Int.cast_ofNat_Int,hix,h45,hne,aB,e,fE,bY,bN]
  ·by_cases h43':(c.toNat:Int)=43
   ·have f1:fst=1:=by rw[hf]; simp[first,lY,aIs,h45,h43']
    subst f1
    obtain⟨y5,y6,y9,y10,S',e⟩:=key (.iv (.bool false)) (.iv (.bool true)) (.iv (.bool false))
    rw[←hm,List.drop_length,show ([]:List UInt8).reverse.map dgt=[] from rfl,e0,e1,hlen,show ((r.length+1:Nat):Int)-1=(r.length:Int)+1-1 by omega,show ((1:Nat):Int)=1 from rfl]at e
    have hne:¬((r.length:Int)+1=1):=by rw[hlen]at hfl; omega
    simp (config := { maxSteps := 4000000 }) (disch:=omega) only[t86,go_sem,hlen,Int.natCast_add,Int.cast_ofNat_Int,hix,h45,h43',hne,aB,e,fE,bY,bN]
   ·have f1:fst=0:=by rw[hf]; simp[first,lY,aIs,h45,h43']
    subst f1
    obtain⟨y5,y6,y9,y10,S',e⟩:=key (.iv (.bool false)) (.iv (.bool false)) (.iv (.bool false))
    rw[←hm,List.drop_length,show ([]:List UInt8).reverse.map dgt=[] from rfl,e0,e1,hlen,show ((r.length+1:Nat):Int)-1=(r.length:Int)+1-1 by omega,show ((0:Nat):Int)=0 from rfl]at e
    have hne:¬((r.length:Int)+1=0):=by omega
    simp (config := { maxSteps := 4000000 }) (disch:=omega) only[t86,go_sem,hlen,Int.natCast_add,Int.cast_ofNat_Int,hix,h45,h43',hne,aB,e,fE,bY,bN]
set_option maxHeartbeats 4000000 in
theorem aSn (s:List UInt8)(hl:s.length≤1000) :
  ∃t',bP t' (dg 10 (dec (body s)))∧Pure K 86 [.iv (.str s)] (if okP s then .tup [.iv (kK (sg (lY s) (dg 10 (dec (body s)))) t' (dg 10 (dec (body s)))),.iv (.int .i64 0)] else .tup [.iv (kK false .nil []),.iv (.int .i64 4)]):=by
 have e2:one i64 []=[]:=rfl
 cases s with
 | nil =>
  refine⟨eM _,iZ _,aX t86 rfl rfl ?_⟩
  rw[if_neg (by decide)]
  simp (config := { maxSteps := 4000000 }) (disch:=omega) only[t86,go_sem,List.length_nil,Int.natCast_zero,kK,e2,bY,bN]
 | cons c r =>
  by_cases h:first (c::r)<(c::r).length
  ·obtain⟨t',h1,h2⟩:=aY8 c r hl _ rfl h
   refine⟨t',h1,?_⟩
   have hb:body (c::r)≠[]:=by rw[body,ne_eq,List.drop_eq_nil_iff]; omega
   have:okP (c::r)=((c::r).drop (first (c::r))).all isD:=by simp only[okP,hb,ne_eq,not_false_eq_true,decide_true,Bool.true_and]; rfl
   rw[this]
   exact h2
  ·have hr:r=[]:=by
    have:first (c::r)≤1:=by unfold first; split<;>omega
    rw[List.length_cons]at h
    exact List.length_eq_zero_iff.1 (by omega)
   subst hr
   have hf:first [c]=1:=by
    have:first [c]≤1:=by unfold first; split<;>omega
    simp at h; omega
   have hbo:body [c]=[]:=by rw[body,hf]; rfl
   have hno:¬okP [c]=true:=by simp[okP,hbo]
   refine⟨eM _,iZ _,aX t86 rfl rfl ?_⟩
   rw[if_neg hno]
   have hix:=bEs c []
   by_cases h45:(c.toNat:Int)=45
   ·simp (config := { maxSteps := 4000000 }) (disch:=omega) only[t86,go_sem,List.length_cons,List.length_nil,Int.natCast_add,Int.natCast_zero,Int.cast_ofNat_Int,hix,h45,kK,e2,bY,bN]
   ·have h43:(c.toNat:Int)=43:=by
     rw[first]at hf
     simp only[lY,aIs,h45,decide_false,Bool.false_or,decide_eq_true_eq]at hf
     split at hf
     ·assumption
     ·omega
    simp (config := { maxSteps := 4000000 }) (disch:=omega) only[t86,go_sem,List.length_cons,List.length_nil,Int.natCast_add,Int.natCast_zero,Int.cast_ofNat_Int,hix,h45,h43,kK,e2,bY,bN]
def isS (c:UInt8):Bool:=decide ((c.toNat:Int)=43)||decide ((c.toNat:Int)=45)
def kT:List IV:=(List.range 256).map fun n=>.bool (n==43||n==45)
theorem bG7:(ex K 60).call 106 [.iv (.str [43,45])] []=.ret (.tup [.iv (.agg kT),.iv (.bool true)],[]):=by kernel_rfl
theorem aY9:(lim K).call 106 [.iv (.str [43,45])] []=.ret (.tup [.iv (.agg kT),.iv (.bool true)],[]):=aU2 bG7
theorem uE:kT.length=256:=by simp[kT]
theorem aNt (n:Nat)(h:n<256):kT[n]? = some (.bool (n==43||n==45)):=by simp[kT,h]
theorem bEt (c:UInt8):isS c=(c.toNat==43||c.toNat==45):=by
 rw[Bool.eq_iff_iff]; simp[isS]; omega
theorem aZa (c:UInt8)(b:Bool)(S:aA)(j:Nat)(h:S[j]? = some (.cells 173 b (kT.map TV.iv))):(lim K).call 129 [.ptr j 173 0,.iv (.int .u8 c.toNat)] S=.ret (.iv (.bool (isS c)),S):=by
 have hb:=blB c
 have hbl:blK 173 (0+(c.toNat:Int).toNat*1) 1 (S[j]?)=some [.iv (.bool (isS c))]:=by
  rw[h]
  show (if (173:Nat)=173 then sub (kT.map TV.iv) (0+(c.toNat:Int).toNat*1) 1 else none)=_
  have hlt:c.toNat<(kT.map TV.iv).length:=by rw[List.length_map,uE]; exact hb
  have e:(kT.map TV.iv)[c.toNat]? = some (.iv (.bool (isS c))):=by
   rw[List.getElem?_map,aNt _ hb,bEt]; rfl
  rw[List.getElem?_eq_getElem hlt]at e
  simp only[↓reduceIte,Int.toNat_natCast,Nat.zero_add,Nat.mul_one,sub,show c.toNat+1≤(kT.map TV.iv).length from hlt]
  rw[List.drop_eq_getElem_cons hlt]
  simp only[List.take_succ_cons,List.take_zero]
  rw[Option.some.inj e]
 refine aD K _ (fn:=t129) rfl rfl ?_
 simp (config := { maxSteps := 4000000 }) (disch:=omega) only[t129,go_sem,hbl]
def dC:List UInt8→List UInt8
 | []=>[]
 | c::r=>if isS c then dC r else c::r
theorem aMc (b:Bool)(S:aA)(j:Nat)(h:S[j]? = some (.cells 173 b (kT.map .iv)))(x2:TV):∀(s:List UInt8) (x3 x4:TV),s.length≤1000→∃y3 y4,lp' (lim K) t107L0 [.iv (.str s),.ptr j 173 0,x2,x3,x4] S=.ret (.exit 0,[.iv (.str (dC s)),.ptr j 173 0,x2,y3,y4],S)
 | [],x3,x4,hl=>by
  refine⟨?_,?_,aG K _ _ t107L0.eq_1 ?_⟩
  rotate_left 2
  ·simp (disch:=omega) only[go_sem,List.length_nil,dC]
   rfl
 | c::r,x3,x4,hl=>by
  have h80:=aZa c b S j h
  have hix:=bEs c r
  have hlen:(c::r).length=r.length+1:=rfl
  have hsl:=nO S (s:=c::r) (a:=1) (by rw[hlen]; omega)
  rw[show (1:Int).toNat=1 from rfl,List.drop_succ_cons,List.drop_zero]at hsl
  by_cases hc:isS c=true
  ·obtain⟨y3,y4,ih⟩:=aMc b S j h x2 r (.iv (.bool true)) (.iv (.bool false)) (by rw[hlen]at hl; omega)
   refine⟨y3,y4,aG K _ _ t107L0.eq_1 ?_⟩
   rw[hc]at h80
   simp only[dC,hc,↓reduceIte]
   simp (config := { maxSteps := 4000000 }) (disch:=omega) only[go_sem,hlen,Int.natCast_add,Int.cast_ofNat_Int,hix,h80,hsl]
   exact congrArg er ih
  ·simp only[dC,hc,Bool.false_eq_true,↓reduceIte]
   rw[Bool.not_eq_true]at hc
   rw[hc]at h80
   refine⟨?_,?_,aG K _ _ t107L0.eq_1 ?_⟩
   rotate_left 2
   ·simp (config := { maxSteps := 4000000 }) (disch:=omega) only[go_sem,hlen,Int.natCast_add,Int.cast_ofNat_Int,hix,h80,hsl]
    rfl
theorem aZb (b:Bool)(S:aA)(j:Nat)(h:S[j]? = some (.cells 173 b (kT.map .iv)))(s:List UInt8)(hl:s.length≤1000):(lim K).call 107 [.iv (.str s),.ptr j 173 0] S=.ret (.iv (.str (dC s)),S):=by
 obtain⟨y3,y4,e⟩:=aMc b S j h (.iv (.str [])) s u_ u_ hl
 refine aD K _ (fn:=t107) rfl rfl ?_
 simp (config := { maxSteps := 4000000 }) (disch:=omega) only[t107,go_sem,e]
theorem bEu (s:List UInt8)(hl:s.length≤1000):Pure K 80 [.iv (.str s),.iv (.str [43,45])] (.iv (.str (dC s))):=by
 cases s with
 | nil =>
  refine aX t80 rfl rfl ?_
  simp (config := { maxSteps := 4000000 }) (disch:=omega) only[t80,go_sem,dC,bY,bN]
 | cons c r =>
  have h64:=aY9
  have hne:(c::r==([]:List UInt8))=false:=rfl
  have hne2:([43,45]==([]:List UInt8))=false:=rfl
  refine aX t80 rfl rfl ?_
  simp (config := { maxSteps := 4000000 }) (disch:=omega) only[t80,go_sem,h64,hne,hne2,List.length_cons,List.length_nil,bY,bN]
  rw[List.drop_of_length_le (by rw[Nat.zero_add,List.length_map,uE]; exact Nat.le_refl 256)]
  have hany:(List.map TV.iv kT).any bO=false:=xP (by kernel_rfl)
  have hle:(List.map TV.iv kT).length=256:=by rw[List.length_map,uE]
  have h65:=aZb false [.cells 173 false (kT.map TV.iv)] 0 rfl (c::r) hl
  simp (config := { maxSteps := 4000000 }) (disch:=omega) only[go_sem,hle,hany,Bool.false_eq_true,List.append_nil,h65,bY,bN]
def xZ (v:Int):List UInt8→Int
 | []=>v
 | c::r=>xZ (10*v+dgt c) r
theorem aSo (p:List UInt8)(c:UInt8):dec (p++[c])=10*dec p+dgt c:=by
 simp[dec,val]; omega
theorem aFk:∀(l p:List UInt8),xZ (dec p) l=dec (p++l)
 | [],p=>by simp[xZ]
 | c::r,p=>by
  rw[xZ,←aSo,aFk r,List.append_assoc]; rfl
theorem aNu (l:List UInt8):xZ 0 l=dec l:=aFk l []
theorem aSp (s b:List UInt8)(hl:b.length≤1000)(t:Tag)(x3 x6:TV)(S:aA):∀(k i:Nat) (v:Int) (tg:Tag) (x5 x10 x11:TV),i+k=b.length→0≤v→(dg 65536 v).length≤i→bP tg (dg 65536 v) →
  ∃tg' y4 y5 y9 y10 y11,bP tg' (dg 65536 (xZ v (b.drop i)))∧((b.drop i).all isD=true→(dg 65536 (xZ v (b.drop i))).length≤b.length)∧lp' (lim K) t54L0 [.iv (.str s),.lb [.iv (.bool false),.iv (.sl .nil [])],.iv (.int .i64 0),x3,.iv (.sl tg (one d16 (dg 65536 v))),x5,x6,.iv (.sl t (aN b)),.iv (.int .i64 b.length),.iv (.int .i64 i),x10,x11] S
   = .ret (if (b.drop i).all isD then (.exit 0,[.iv (.str s),.lb [.iv (.bool false),.iv (.sl .nil [])],.iv (.int .i64 0),x3,.iv (.sl tg' (one d16 (dg 65536 (xZ v (b.drop i))))),y5,x6,.iv (.sl t (aN b)),.iv (.int .i64 b.length),.iv (.int .i64 b.length),y10,y11],S)
    else (.ret,[.iv (.str s),.lb [.iv (.bool false),.iv (.sl .nil [])],.iv (.int .i64 4),x3,y4,y5,x6,.iv (.sl t (aN b)),.iv (.int .i64 b.length),y9,y10,y11],S))
 | 0,i,v,tg,x5,x10,x11,h,h0,hn,ht=>by
  obtain rfl:i=b.length:=by omega
  rw[List.drop_length]
  refine⟨tg,.hole,?_,.hole,?_,?_,ht,fun _=>hn,aG K _ _ t54L0.eq_1 ?_⟩
  rotate_left 3
  ·simp only[List.all_nil,↓reduceIte,xZ]
   simp (disch:=omega) only[go_sem]
   rfl
 | k+1,i,v,tg,x5,x10,x11,h,h0,hn,ht=>by
  have hix:=mR (t:=t) (l:=b) (i:=(i:Int)) (by omega)
  rw[Int.toNat_natCast]at hix
  have hd:=aFj (s:=b) (i:=i) (by omega)
  rw[hd]
  have hb:=blB (b.getD i 0)
  have ih:=aSp s b hl t x3 x6 S k (i+1)
  generalize b.getD i 0=c at *
  rw[List.all_cons]
  simp only[xZ]
  by_cases hc:isD c=true
  ·have hc':=hc
   simp only[isD,Bool.and_eq_true,decide_eq_true_eq]at hc'
   obtain⟨s1,s2,s3⟩:=aSh (y:=10) (m:=dgt c) (l:=dg 65536 v) (kM (by decide) h0) (by decide) (by simp only[dgt]; omega)
   rw[lC (by decide) h0]at s2
   have h41:=aY6 tg (dg 65536 v) (kM (by decide) h0) (by omega) 10 (by decide) (dgt c) (by simp only[dgt]; omega)
   obtain⟨t',r1,r2⟩:=aIo (eM (scd 10 (dg 65536 v) (dgt c))) (scd 10 (dg 65536 v) (dgt c)) (iZ _) (by omega)
   have hlen:=xX (scd 10 (dg 65536 v) (dgt c))
   rw[aFh (by decide) s1,s2]at r1 r2 hlen
   obtain⟨tg',y4,y5,y9,y10,y11,q1,q2,ih⟩:=ih (10*v+dgt c) t' (.iv (.int .u8 c.toNat)) (.iv (.bool true)) (.iv (.bool false)) (by omega) (by simp only[dgt]; omega) (by omega) r1
   refine⟨tg',y4,y5,y9,y10,y11,q1,by rw[hc,Bool.true_and]; exact q2,aG K _ _ t54L0.eq_1 ?_⟩
   rw[hc,Bool.true_and]
   generalize ((b.drop (i+1)).all isD)=A at *
   generalize xZ (10*v+dgt c) (b.drop (i+1))=w at *
   generalize scd 10 (dg 65536 v) (dgt c)=E at *
   generalize dg 65536 (10*v+dgt c)=F at *
   simp only[dgt]at h41
   simp (config := { maxSteps := 4000000 }) (disch:=omega) only[go_sem,hix,aB,qJ,cC,aE h41,r2]
   exact congrArg er ih
  ·have hcf:isD c=false:=by simpa using hc
   rw[hcf,Bool.false_and]
   simp only[isD,Bool.and_eq_true,decide_eq_true_eq]at hc
   simp only[Bool.false_eq_true,↓reduceIte]
   by_cases h48:(c.toNat:Int)<48
   ·refine⟨eM _,?_,?_,?_,?_,?_,iZ _,fun q=>q.elim,aG K _ _ t54L0.eq_1 ?_⟩
    rotate_left 5
    ·simp (config := { maxSteps := 4000000 }) (disch:=omega) only[go_sem,hix,h48,aB]
     rfl
   ·refine⟨eM _,?_,?_,?_,?_,?_,iZ _,fun q=>q.elim,aG K _ _ t54L0.eq_1 ?_⟩
    rotate_left 5
    ·simp (config := { maxSteps := 4000000 }) (disch:=omega) only[go_sem,hix,h48,aB]
     rfl
theorem mG:∀(s:List UInt8),(dC s).length≤s.length
 | []=>Nat.le_refl _
 | c::r=>by
  have:=mG r
  unfold dC; split<;>simp<;>omega
theorem aZc {c:UInt8}(h:isD c=true):isS c=false:=by
 simp only[isD,Bool.and_eq_true,decide_eq_true_eq]at h
 simp only[isS,Bool.or_eq_false_iff,decide_eq_false_iff_not]; omega
theorem mX (c:UInt8)(r:List UInt8):first (c::r)=if isS c then 1 else 0:=by
 have:(lY (c::r)||aIs (c::r))=isS c:=by rw[Bool.or_comm]; rfl
 rw[first,this]
theorem aBm {s:List UInt8}(h:(dC s).length=s.length):dC s=s:=by
 cases s with
 | nil=>rfl
 | cons c r =>
  by_cases hc:isS c=true
  ·have:=mG r
   simp[dC,hc]at h; omega
  ·simp[dC,hc]
theorem aMd (s:List UInt8):okP s=true↔(s.length-(dC s).length≤1∧dC s≠[]∧(dC s).all isD=true):=by
 cases s with
 | nil=>simp[okP,body,dC]
 | cons c r =>
  have hl:=mG r
  by_cases hc:isS c=true
  ·have hb:body (c::r)=r:=by rw[body,mX,hc]; rfl
   have ht:dC (c::r)=dC r:=by simp[dC,hc]
   rw[okP,hb,ht]
   simp only[Bool.and_eq_true,decide_eq_true_eq,List.length_cons]
   constructor
   ·rintro⟨h1,h2⟩
    have:dC r=r:=by
     cases r with
     | nil=>rfl
     | cons d q =>
      have hd:isD d=true:=by simp only[List.all_cons,Bool.and_eq_true]at h2; exact h2.1
      simp[dC,aZc hd]
    rw[this]; exact⟨by omega,h1,h2⟩
   ·rintro⟨h1,h2,h3⟩
    have:dC r=r:=aBm (by omega)
    rw[this]at h2 h3; exact⟨h2,h3⟩
  ·have hb:body (c::r)=c::r:=by rw[body,mX]; simp[hc]
   have ht:dC (c::r)=c::r:=by simp[dC,hc]
   rw[okP,hb,ht]
   simp
theorem aNv {s:List UInt8}(h:okP s=true):body s=dC s:=by
 have h':=(aMd s).1 h
 cases s with
 | nil=>rfl
 | cons c r =>
  by_cases hc:isS c=true
  ·have ht:dC (c::r)=dC r:=by simp[dC,hc]
   have hl:=mG r
   rw[ht,List.length_cons]at h'
   rw[body,mX,hc,ht,aBm (show (dC r).length=r.length by omega)]; rfl
  ·rw[body,mX]; simp[hc,dC]
set_option maxHeartbeats 4000000 in
theorem bEv (s:List UInt8)(hl:s.length≤1000) :
  ∃t',bP t' (dg 65536 (dec (body s)))∧Pure K 54 [.iv (.str s)] (if okP s then .tup [.iv (num (sg (lY s) (dg 65536 (dec (body s)))) t' (dg 65536 (dec (body s)))),.iv (.int .i64 0)] else .tup [.iv (num false .nil []),.iv (.int .i64 4)]):=by
 have h39:=bEu s hl
 have htl:=mG s
 have e2:one d16 []=[]:=rfl
 have hok:=aMd s
 by_cases h1:s.length-(dC s).length≤1
 ·by_cases h2:dC s=[]
  ·have hno:¬okP s=true:=by rw[hok]; simp[h2]
   refine⟨eM _,iZ _,aX t54 rfl rfl ?_⟩
   rw[if_neg hno]
   have hb:(dC s==([]:List UInt8))=true:=by rw[h2]; rfl
   have hgt:¬((s.length:Int)-(dC s).length>1):=by omega
   simp (config := { maxSteps := 4000000 }) (disch:=omega) only[t54,go_sem,aE h39,aB,hgt,hb,num,e2,bY,bN]
  ·have hb:(dC s==([]:List UInt8))=false:=by simpa using h2
   have hne:s≠[]:=by intro e; rw[e]at h2; exact h2 rfl
   have hgt:¬((s.length:Int)-(dC s).length>1):=by omega
   have hsb:tU (.iv (.str s)) (.iv (.int .i64 0))=some (.iv (.int .u8 (s.getD 0 0).toNat)):=mS (s:=s) (i:=0) (by have:=List.length_pos_iff.2 hne; omega)
   have hneg:lY s=(((s.getD 0 0).toNat:Int)==45):=by cases s with
    | nil=>exact absurd rfl hne
    | cons c r=>rw[Bool.eq_iff_iff]; simp[lY]
   have key:=fun t=>aSp s (dC s) (by omega) t (.iv (.str (dC s))) (.iv (.bool false)) [] (dC s).length 0 0 .nil u_ u_ u_ (by omega) (by decide) (by rw[dN]; exact Nat.le_refl _) (by rw[dN]; exact bP.nil)
   simp only[List.drop_zero,aNu]at key
   rw[dN]at key
   by_cases h3:(dC s).all isD=true
   ·have hyes:okP s=true:=hok.2 ⟨h1,h2,h3⟩
    have hbt:=aNv hyes
    obtain⟨tg',y4,y5,y9,y10,y11,q1,q2,e⟩:=key .no
    simp only[h3,↓reduceIte]at e
    have h0:=jG h3
    obtain⟨t',r1,r2⟩:=bEm (lY s) tg' (dg 65536 (dec (dC s))) q1 (by have:=q2 h3; omega)
    rw[aSf (by decide) h0]at r1 r2
    rw[hbt]
    refine⟨t',r1,aX t54 rfl rfl ?_⟩
    rw[if_pos hyes]
    rw[hneg]at r2 ⊢
    rw[e2,show ((0:Nat):Int)=0 from rfl]at e
    simp only[num]at r2 ⊢
    simp (config := { maxSteps := 4000000 }) (disch:=omega) only[t54,go_sem,aE h39,aB,hgt,hb,hsb,e,aE r2,bY,bN]
   ·have hno:¬okP s=true:=by rw[hok]; simp[h3]
    obtain⟨tg',y4,y5,y9,y10,y11,q1,q2,e⟩:=key .no
    rw[if_neg h3]at e
    refine⟨eM _,iZ _,aX t54 rfl rfl ?_⟩
    rw[if_neg hno]
    rw[e2,show ((0:Nat):Int)=0 from rfl]at e
    simp (config := { maxSteps := 4000000 }) (disch:=omega) only[t54,go_sem,aE h39,aB,hgt,hb,hsb,e,num,e2,bY,bN]
 ·have hno:¬okP s=true:=by rw[hok]; simp[h1]
  refine⟨eM _,iZ _,aX t54 rfl rfl ?_⟩
  rw[if_neg hno]
  simp (config := { maxSteps := 4000000 }) (disch:=omega) only[t54,go_sem,aE h39,aB,num,e2,bY,bN]
def sm (a b:List Int):Nat→Nat→Int→List Int×Int
 | 0,_,c=>([],c)
 | n+1,i,c=>((c+(a.getD i default+b.getD i default)) % 65536::(sm a b n (i+1) ((c+(a.getD i default+b.getD i default)) / 65536)).1,(sm a b n (i+1) ((c+(a.getD i default+b.getD i default)) / 65536)).2)
theorem xE {B:Int}(hB:1<B){n m:Nat}(h:n≤m):B ^ n≤B ^ m:=by
 obtain⟨k,rfl⟩:=Nat.le.dest h
 rw[Int.pow_add]
 have h1:=oC hB n
 have h2:=oC hB k
 have:=Int.mul_le_mul_of_nonneg_left (show 1≤B ^ k by omega) (Int.le_of_lt h1)
 omega
def ls (a b:List Int):Nat→Nat→Int→List Int×Int
 | 0,_,c=>([],c)
 | n+1,i,c=>((65536+a.getD i default-b.getD i default-c) % 65536::(ls a b n (i+1) (1-(65536+a.getD i default-b.getD i default-c) / 65536)).1,(ls a b n (i+1) (1-(65536+a.getD i default-b.getD i default-c) / 65536)).2)
def gG (x y:Int):Int:=if x<y then -1 else if x=y then 0 else 1
theorem aNw (x:Int):gG x x=0:=by simp[gG]
theorem sI {x y:Int}(h:x<y):gG x y = -1:=by simp[gG,h]
theorem sJ {x y:Int}(h:y<x):gG x y=1:=by
 rw[gG,if_neg (by omega),if_neg (by omega)]
theorem aFl {l:List Int}{k:Nat}(h:k≤l.length):(l.take k).length=k:=by rw[List.length_take]; omega
theorem Dig.take {B:Int}{l:List Int}(hd:Dig B l)(i:Nat):Dig B (l.take i):=fun x hx=>hd x (List.mem_of_mem_take hx)
theorem qP (B:Int){l:List Int}{k:Nat}(h:k<l.length):val B (l.take (k+1))=val B (l.take k)+B ^ k*l.getD k default:=by
 rw[pM (d:=default) h,rI,aFl (by omega)]
 simp[val]
theorem aSq {B:Int}(hB:1<B){l m:List Int}(hl:Dig B l)(hm:Dig B m){k:Nat}(h1:k<l.length)(h2:k<m.length) :
  gG (val B (l.take (k+1))) (val B (m.take (k+1)))=if l.getD k default=m.getD k default then gG (val B (l.take k)) (val B (m.take k)) else gG (l.getD k default) (m.getD k default):=by
 rw[qP B h1,qP B h2]
 have a1:=dP (by omega) (hl.take k)
 have a2:=dP (by omega) (hm.take k)
 have b1:=kL (by omega) (hl.take k)
 have b2:=kL (by omega) (hm.take k)
 rw[aFl (by omega)]at b1 b2
 have p:=oC hB k
 generalize B ^ k=P at *
 generalize l.getD k default=a at *
 generalize m.getD k default=b at *
 by_cases h:a=b
 ·subst h
  rw[if_pos rfl]
  unfold gG
  by_cases h1:val B (l.take k)<val B (m.take k)
  ·rw[if_pos h1,if_pos (by omega)]
  ·by_cases h2:val B (l.take k)=val B (m.take k)
   ·rw[if_neg h1,if_pos h2,if_neg (by omega),if_pos (by omega)]
   ·rw[if_neg h1,if_neg h2,if_neg (by omega),if_neg (by omega)]
 ·rw[if_neg h]
  by_cases h':a<b
  ·have:=Int.mul_le_mul_of_nonneg_left (show a+1≤b by omega) (Int.le_of_lt p)
   rw[Int.mul_add,Int.mul_one]at this
   rw[sI h',sI (by omega)]
  ·have:=Int.mul_le_mul_of_nonneg_left (show b+1≤a by omega) (Int.le_of_lt p)
   rw[Int.mul_add,Int.mul_one]at this
   rw[sJ (by omega),sJ (by omega)]
theorem yA {B:Int}(hB:1<B){l m:List Int}(hl:Dig B l)(hm:Dig B m)(h:(tr l).length<(tr m).length):val B l<val B m:=by
 rcases Int.lt_or_le (val B l) (val B m) with h1|h1
 ·exact h1
 ·exfalso
  have a1:=kL (by omega) hl.tr
  rw[aIp]at a1
  have a2:=oD hB (tr l).length (val B m) (dP (by omega) hm) (by omega)
  rw[←aFh hB hm]at a2
  omega
def sv (neg:Bool)(v:Int):Int:=if neg then -v else v
def bg (t:Tag)(z:Int):IV:=num (decide (z<0)) t (dg 65536 z.natAbs)
def dd (t:Tag)(z:Int):IV:=kK (decide (z<0)) t (dg 10 z.natAbs)
theorem bDh {B:Int}(hB:1<B)(neg:Bool){v:Int}(h:0≤v):sg neg (dg B v)=decide (sv neg v<0):=by
 have e1:(0<(dg B v).length)↔v≠0:=by rw[List.length_pos_iff,ne_eq,aC3 hB h]
 cases neg
 ·simp[sg,sv]; omega
 ·simp only[sg,e1,sv,Bool.true_and,if_true]
  exact decide_eq_decide.2 (by omega)
theorem yB (neg:Bool){v:Int}(h:0≤v):((sv neg v).natAbs:Int)=v:=by
 cases neg<;>simp[sv]<;>omega
theorem bDi (z:Int):sv (decide (z<0)) (z.natAbs:Int)=z:=by
 by_cases h:z<0<;>simp[sv,h]<;>omega
theorem bEw {neg:Bool}{t:Tag}{v:Int}(h:0≤v):num (sg neg (dg 65536 v)) t (dg 65536 v)=bg t (sv neg v):=by
 rw[bg,yB neg h,bDh (by decide) neg h]
theorem aMe {neg:Bool}{t:Tag}{v:Int}(h:0≤v):kK (sg neg (dg 10 v)) t (dg 10 v)=dd t (sv neg v):=by
 rw[dd,yB neg h,bDh (by decide) neg h]
theorem aIt (b:Bool)(t:Tag)(l:List (List IV)):gE (.agg [.bool b,.sl t l])=false:=id rfl
theorem aMf (t1 t2:Tag)(a b:List Int)(ha:Dig 10 a)(hb:Dig 10 b)(h1:a.length≤100000)(h2:b.length=a.length)(x4 x5:TV)(S:aA):∀(k:Nat) (x6 x7 x8:TV),k≤a.length →
  ∃j y3 y6 y7 y8,(j=.exit 0∨j=.ret)∧(j=.exit 0→gG (val 10 (a.take k)) (val 10 (b.take k))=0)∧lp' (lim K) t142L0 [.iv (.sl t1 (one i64 a)),.iv (.sl t2 (one i64 b)),.iv (.int .i64 0),.iv (.int .i64 ((k:Int)-1)),x4,x5,x6,x7,x8] S=.ret (j,[.iv (.sl t1 (one i64 a)),.iv (.sl t2 (one i64 b)),.iv (.int .i64 (gG (val 10 (a.take k)) (val 10 (b.take k)))),y3,x4,x5,y6,y7,y8],S)
 | 0,x6,x7,x8,h=>by
  refine⟨.exit 0,?_,?_,?_,?_,.inl rfl,fun _=>rfl,aG K _ _ t142L0.eq_1 ?_⟩
  rotate_left 4
  ·rw[List.take_zero,List.take_zero,aNw]
   simp (disch:=omega) only[go_sem]
   rfl
 | k+1,x6,x7,x8,h=>by
  have hix:=iG i64 (t:=t1) (l:=a) (i:=(k:Int)) (by omega)
  have hix2:=iG i64 (t:=t2) (l:=b) (i:=(k:Int)) (by omega)
  rw[Int.toNat_natCast]at hix hix2
  simp only[i64]at hix hix2
  have hk:((k+1:Nat):Int)-1=k:=by omega
  rw[hk,aSq (by decide) ha hb (by omega) (by omega)]
  by_cases hab:a.getD k default=b.getD k default
  ·rw[if_pos hab]
   rw[hab]at hix
   obtain⟨j,y3,y6,y7,y8,hj,hj2,ih⟩:=aMf t1 t2 a b ha hb h1 h2 x4 x5 S k (.iv (.bool true)) (.iv (.bool false)) x8 (by omega)
   refine⟨j,y3,y6,y7,y8,hj,hj2,aG K _ _ t142L0.eq_1 ?_⟩
   generalize gG (val 10 (a.take k)) (val 10 (b.take k))=r at *
   generalize a.getD k default=p at *
   generalize b.getD k default=q at *
   simp (config := { maxSteps := 4000000 }) (disch:=omega) only[go_sem,hix,hix2,aB]
   exact congrArg er ih
  ·rw[if_neg hab]
   generalize a.getD k default=p at *
   generalize b.getD k default=q at *
   by_cases hlt:p<q
   ·rw[sI hlt]
    refine⟨.ret,?_,?_,?_,?_,.inr rfl,(fun h=>by cases h),aG K _ _ t142L0.eq_1 ?_⟩
    rotate_left 4
    ·simp (config := { maxSteps := 4000000 }) (disch:=omega) only[go_sem,hix,hix2,aB]
     rfl
   ·rw[sJ (by omega)]
    refine⟨.ret,?_,?_,?_,?_,.inr rfl,(fun h=>by cases h),aG K _ _ t142L0.eq_1 ?_⟩
    rotate_left 4
    ·simp (config := { maxSteps := 4000000 }) (disch:=omega) only[go_sem,hix,hix2,aB]
     rfl
theorem aMg (t1 t2:Tag)(a b:List Int)(ha:Dig 10 a)(hb:Dig 10 b)(ta:tr a=a)(tb:tr b=b)(h1:a.length≤90000)(h2:b.length≤90000) :
  (lim K).call 142 [.iv (.sl t1 (one i64 a)),.iv (.sl t2 (one i64 b))] []=.ret (.iv (.int .i64 (gG (val 10 a) (val 10 b))),[]):=by
 refine aD K [] (fn:=t142) rfl rfl ?_
 by_cases hlen:a.length=b.length
 ·obtain⟨j,y3,y6,y7,y8,hj,hj2,e⟩:=aMf t1 t2 a b ha hb (by omega) hlen.symm (.iv (.bool false)) u_ [] a.length u_ u_ u_ (Nat.le_refl _)
  have e1:b.take a.length=b:=by rw[hlen,List.take_length]
  rw[e1,List.take_length]at e hj2
  have hz:(a.length:Int)=b.length:=by omega
  rw[hz]at e
  rcases hj with rfl|rfl
  ·rw[hj2 rfl]at e ⊢
   simp (config := { maxSteps := 4000000 }) (disch:=omega) only[t142,go_sem,hz,aB,e]
  ·simp (config := { maxSteps := 4000000 }) (disch:=omega) only[t142,go_sem,hz,aB,e]
 ·by_cases hlt:a.length<b.length
  ·rw[sI (yA (by decide) ha hb (by rw[ta,tb]; exact hlt))]
   simp (config := { maxSteps := 4000000 }) (disch:=omega) only[t142,go_sem,aB]
  ·rw[sJ (yA (by decide) hb ha (by rw[ta,tb]; omega))]
   simp (config := { maxSteps := 4000000 }) (disch:=omega) only[t142,go_sem,aB]
theorem bDj (t:Tag)(z:Int):dd t z=.agg [.bool (decide (z<0)),.sl t (one i64 (dg 10 z.natAbs))]:=rfl
theorem aMh (z:Int):Dig 10 (dg 10 z.natAbs):=kM (by decide) (by omega)
theorem bDk (z:Int):val 10 (dg 10 z.natAbs)=z.natAbs:=lC (by decide) (by omega)
theorem aZd (z:Int):tr (dg 10 z.natAbs)=dg 10 z.natAbs:=aSf (by decide) (by omega)
theorem aSr (t1 t2:Tag)(x y:Int)(l1:(dg 10 x.natAbs).length≤90000)(l2:(dg 10 y.natAbs).length≤90000) :
  (lim K).call 134 [.iv (dd t1 x),.iv (dd t2 y)] []=.ret (.iv (.int .i64 (gG x y)),[]):=by
 have c1:=aMg t1 t2 _ _ (aMh x) (aMh y) (aZd x) (aZd y) (by omega) (by omega)
 have c2:=aMg t2 t1 _ _ (aMh y) (aMh x) (aZd y) (aZd x) (by omega) (by omega)
 rw[bDk,bDk]at c1 c2
 refine aD K [] (fn:=t134) rfl rfl ?_
 simp only[bDj]
 by_cases h1:x<0
 ·by_cases h2:y<0
  ·have e:gG (y.natAbs:Int) x.natAbs=gG x y:=by
    unfold gG; repeat' split
    all_goals omega
   rw[e]at c2
   generalize dg 10 x.natAbs=lx at *
   generalize dg 10 y.natAbs=ly at *
   generalize gG x y=r at *
   simp (config := { maxSteps := 4000000 }) (disch:=omega) only[t134,go_sem,h1,h2,c2]
  ·have e:gG x y = -1:=sI (by omega)
   rw[e]
   simp (config := { maxSteps := 4000000 }) (disch:=omega) only[t134,go_sem,h1,h2]
 ·by_cases h2:y<0
  ·have e:gG x y=1:=sJ (by omega)
   rw[e]
   simp (config := { maxSteps := 4000000 }) (disch:=omega) only[t134,go_sem,h1,h2]
  ·have e:gG (x.natAbs:Int) y.natAbs=gG x y:=by
    unfold gG; repeat' split
    all_goals omega
   rw[e]at c1
   generalize dg 10 x.natAbs=lx at *
   generalize dg 10 y.natAbs=ly at *
   generalize gG x y=r at *
   simp (config := { maxSteps := 4000000 }) (disch:=omega) only[t134,go_sem,h1,h2,c1]
theorem aFm (s:List UInt8)(hl:s.length≤100)(hok:okP s=true):∃t',bP t' (dg 10 (dec (body s)))∧Pure K 86 [.iv (.str s)] (.tup [.iv (dd t' (sv (lY s) (dec (body s)))),.iv (.int .i64 0)]):=by
 obtain⟨t',h1,h2⟩:=aSn s (by omega)
 rw[if_pos hok,aMe (jG (by simp only[okP,Bool.and_eq_true]at hok; exact hok.2))]at h2
 exact⟨t',h1,h2⟩
theorem aZe (t:Tag)(x:Int)(lx:(dg 10 x.natAbs).length≤90000)(s1 s2:List UInt8)(a b:Int)(h1:s1.length≤100)(h2:s2.length≤100)(o1:okP s1=true)(o2:okP s2=true)(e1:sv (lY s1) (dec (body s1))=a)(e2:sv (lY s2) (dec (body s2))=b)(l1:(dg 10 a.natAbs).length≤90000)(l2:(dg 10 b.natAbs).length≤90000) :
  (lim K).call 111 [.iv (dd t x),.iv (.str s1),.iv (.str s2)] []=.ret (.iv (.bool (decide (a≤x∧x≤b))),[]):=by
 obtain⟨ta,_,p1⟩:=aFm s1 h1 o1
 obtain⟨tb,_,p2⟩:=aFm s2 h2 o2
 rw[e1]at p1
 rw[e2]at p2
 have c1:=aSr t ta x a lx l1
 have c2:=aSr t tb x b lx l2
 refine aD K [] (fn:=t111) rfl rfl ?_
 simp only[bDj]at p1 p2 c1 c2 ⊢
 have r1:gG x a = -1∧x<a∨gG x a=0∧x=a∨gG x a=1∧a<x:=by unfold gG; repeat' split; all_goals omega
 have r2:gG x b = -1∧x<b∨gG x b=0∧x=b∨gG x b=1∧b<x:=by unfold gG; repeat' split; all_goals omega
 have sn:=fun (b:Bool) t l=>aIt b t l
 generalize gG x a=r at *
 generalize gG x b=q at *
 generalize decide (x<0)=nx at *
 generalize decide (a<0)=na at *
 generalize decide (b<0)=nb at *
 generalize dg 10 x.natAbs=lx at *
 generalize dg 10 a.natAbs=la at *
 generalize dg 10 b.natAbs=lb at *
 by_cases hr:0≤r
 ·by_cases hq:q≤0
  ·rw[decide_eq_true (show a≤x∧x≤b by omega)]
   simp (config := { maxSteps := 4000000 }) (disch:=omega) only[t111,go_sem,aE p1,aE p2,sn,c1,c2]
  ·rw[decide_eq_false (show ¬(a≤x∧x≤b) by omega)]
   simp (config := { maxSteps := 4000000 }) (disch:=omega) only[t111,go_sem,aE p1,aE p2,sn,c1,c2]
 ·rw[decide_eq_false (show ¬(a≤x∧x≤b) by omega)]
  simp (config := { maxSteps := 4000000 }) (disch:=omega) only[t111,go_sem,aE p1,aE p2,sn,c1,c2]
theorem aMi (neg:Bool)(t:Tag)(l:List Int)(hd:Dig 10 l)(hl:l.length≤18)(x0 x2 x6:TV)(S:aA):∀(k:Nat) (x5:TV),k≤l.length →
  ∃y5,lp' (lim K) t112L0 [x0,.lb [.iv (.bool neg),.iv (.sl t (one i64 l))],x2,.iv (.int .i64 (val 10 (l.drop k))),.iv (.int .i64 ((k:Int)-1)),x5,x6] S=.ret (.exit 0,[x0,.lb [.iv (.bool neg),.iv (.sl t (one i64 l))],x2,.iv (.int .i64 (val 10 l)),.iv (.int .i64 (-1)),y5,x6],S)
 | 0,x5,h=>by
  refine⟨?_,aG K _ _ t112L0.eq_1 ?_⟩
  rotate_left
  ·rw[List.drop_zero]
   simp (disch:=omega) only[go_sem]
   rfl
 | k+1,x5,h=>by
  have hlt:k<l.length:=by omega
  have hix:=iG i64 (t:=t) (l:=l) (i:=(k:Int)) (by omega)
  rw[Int.toNat_natCast]at hix
  have hg:=hd.getD hlt
  have hdr:=uD hlt
  have hb:val 10 (l.drop k)<10 ^ (l.drop k).length:=kL (by decide) (hd.drop k)
  have hb2:(10:Int) ^ (l.drop k).length≤10 ^ 18:=xE (by decide) (by simp; omega)
  have hn:0≤val 10 (l.drop k):=dP (by decide) (hd.drop k)
  have hn1:0≤val 10 (l.drop (k+1)):=dP (by decide) (hd.drop (k+1))
  obtain⟨y5,ih⟩:=aMi neg t l hd hl x0 x2 x6 S k (.iv (.bool true)) (by omega)
  have e:val 10 (l.drop k)=10*val 10 (l.drop (k+1))+l.getD k default:=by rw[hdr]; simp only[val]; omega
  rw[e]at ih hb hn
  refine⟨y5,aG K _ _ t112L0.eq_1 ?_⟩
  have e1:((k:Int)+1-1)=k:=by omega
  simp only[i64]at hix
  generalize l.getD k default=a at *
  generalize val 10 (l.drop (k+1))=w at *
  have hb3:10*w+a<1000000000000000000:=Int.lt_of_lt_of_le hb (by simpa using hb2)
  simp (config := { maxSteps := 4000000 }) (disch:=omega) only[go_sem,Int.natCast_add,Int.cast_ofNat_Int,e1,hix,aB]
  exact congrArg er ih
theorem aZf (neg:Bool)(t:Tag)(l:List Int)(hd:Dig 10 l)(hl:l.length≤18):(lim K).call 112 [.iv (kK neg t l)] []=.ret (.iv (.int .i64 (sv neg (val 10 l))),[]):=by
 obtain⟨y5,e⟩:=aMi neg t l hd hl (.iv (.agg [.bool neg,.sl t (one i64 l)])) (.iv (.int .i64 0)) u_ [] l.length u_ (Nat.le_refl _)
 rw[List.drop_length,show val 10 []=0 from rfl]at e
 have hb:val 10 l<10 ^ l.length:=kL (by decide) hd
 have hb2:(10:Int) ^ l.length≤10 ^ 18:=xE (by decide) (by omega)
 have hn:0≤val 10 l:=dP (by decide) hd
 have hb3:val 10 l<1000000000000000000:=Int.lt_of_lt_of_le hb (by simpa using hb2)
 refine aD K [] (fn:=t112) rfl rfl ?_
 simp only[kK]
 generalize val 10 l=w at *
 cases neg
 ·simp (config := { maxSteps := 4000000 }) (disch:=omega) only[t112,go_sem,sv,bJ,aB,e]
 ·simp (config := { maxSteps := 4000000 }) (disch:=omega) only[t112,go_sem,sv,bJ,aB,e,Int.zero_sub]
def aZg:aJ:=(.region [⟨.mov (.loc 10),(some 6),none⟩])
def aZh:aJ:=(.block 1
  (.region [⟨.load1 (.loc 5),none,none⟩,⟨.bin .shl (.reg 0) (.cst (.int .u64 16)),none,none⟩,⟨.mov (.loc 6),none,none⟩,⟨.conv (.toInt .u64) (.reg 2),none,none⟩,⟨.bin .or (.reg 1) (.reg 3),none,none⟩,⟨.store 1 (.loc 5) (.reg 4),none,none⟩]))
def sK (t:Tag)(l:List Int)(E:Env)(w:Int):aA:=[.cells 159 false [.iv (.int .u64 w)],.cells 69 false [.iv (.sl t (one d16 l))],.lp .ready none E [9,10] aZg aZh]
def rJ (x0 x2 x3 x4 x6 x7 x8 x9 x10 x11 x12:TV):Env:=[x0,.hole,x2,x3,x4,.ptr 0 159 0,x6,x7,x8,x9,x10,x11,x12]
theorem aNx {r:Int}(h:0≤r∧r≤281474976710655):IntKind.u64.wrap (r*65536)=r*65536:=tW (by omega)
theorem aSs {r a:Int}(hr:0≤r∧r≤281474976710655)(ha:0≤a∧a≤65535):IntKind.u64.wrap (bOr 64 (r*65536) a)=65536*r+a:=by
 have h:=aLl (w:=64) (k:=16) (a:=r*65536) (b:=a) (by omega) (by omega) (by decide) (by omega)
 unfold bOr
 rw[h,tW (by omega)]
 omega
theorem bG8 (t:Tag)(l:List Int)(x0 x2 x3 x4 x6 x7 x8 x9 x10 x11 x12:TV)(w k a:Int)(hw:0≤w∧w≤281474976710655)(ha:0≤a∧a≤65535) :
  (lim K).yld 2 [.iv (.int .i64 k),.iv (.int .u16 a)] (sK t l (rJ x0 x2 x3 x4 x6 x7 x8 x9 x10 x11 x12) w)=.ret (.iv (.bool true),sK t l (rJ x0 x2 x3 x4 x6 x7 x8 x9 x10 x11 x12) (65536*w+a)):=by
 have h1:=aNx hw
 have h2:=aSs hw ha
 have hm:0≤65536*w+a:=by omega
 refine aId (env2:=[x0,.hole,x2,x3,x4,.ptr 0 159 0,.iv (.int .u16 a),x7,x8,.iv (.int .i64 k),.iv (.int .u16 a),x11,x12]) (env3:=[x0,.hole,x2,x3,x4,.ptr 0 159 0,.iv (.int .u16 a),x7,x8,.iv (.int .i64 k),.iv (.int .u16 a),x11,x12]) (S1:=sK t l (rJ x0 x2 x3 x4 x6 x7 x8 x9 x10 x11 x12) w) (S2:=[.cells 159 false [.iv (.int .u64 (65536*w+a))],.cells 69 false [.iv (.sl t (one d16 l))],.lp .busy none (rJ x0 x2 x3 x4 x6 x7 x8 x9 x10 x11 x12) [9,10] aZg aZh]) rfl rfl ?_ rfl ?_ rfl
 ·simp (config := { maxSteps := 4000000 }) (disch:=omega) only[sK,aZg,rJ,go_sem]
 ·simp (config := { maxSteps := 4000000 }) (disch:=omega) only[sK,aZh,rJ,go_sem,h1,h2,tW,fD,eB,pK]
theorem aMj (t:Tag)(l:List Int)(hd:Dig 65536 l)(hl:l.length≤4)(x0 x2 x3 x4 x6 x7 x8 x9 x10 x11 x12:TV):∀(k:Nat) (y3 y4:TV),k≤l.length →
  ∃z3 z4,lp' (lim K) t139L0 [.yld 2,.ptr 1 69 0,.iv (.int .i64 ((k:Int)-1)),y3,y4] (sK t l (rJ x0 x2 x3 x4 x6 x7 x8 x9 x10 x11 x12) (val 65536 (l.drop k)))=.ret (.exit 0,[.yld 2,.ptr 1 69 0,.iv (.int .i64 (-1)),z3,z4],sK t l (rJ x0 x2 x3 x4 x6 x7 x8 x9 x10 x11 x12) (val 65536 l))
 | 0,y3,y4,h=>by
  refine⟨?_,?_,aG K _ _ t139L0.eq_1 ?_⟩
  rotate_left 2
  ·rw[List.drop_zero]
   simp (disch:=omega) only[go_sem]
   rfl
 | k+1,y3,y4,h=>by
  have hlt:k<l.length:=by omega
  have hix:=iG d16 (t:=t) (l:=l) (i:=(k:Int)) (by omega)
  rw[Int.toNat_natCast]at hix
  have hg:=hd.getD hlt
  have hdr:=uD hlt
  have hb:val 65536 (l.drop (k+1))<65536 ^ (l.drop (k+1)).length:=kL (by decide) (hd.drop (k+1))
  have hb2:(65536:Int) ^ (l.drop (k+1)).length≤65536 ^ 3:=xE (by decide) (by simp; omega)
  have hn1:0≤val 65536 (l.drop (k+1)):=dP (by decide) (hd.drop (k+1))
  obtain⟨z3,z4,ih⟩:=aMj t l hd hl x0 x2 x3 x4 x6 x7 x8 x9 x10 x11 x12 k (.iv (.bool true)) (.iv (.bool false)) (by omega)
  have e:val 65536 (l.drop k)=65536*val 65536 (l.drop (k+1))+l.getD k default:=by rw[hdr]; simp only[val]; omega
  rw[e]at ih
  refine⟨z3,z4,aG K _ _ t139L0.eq_1 ?_⟩
  have e1:((k:Int)+1-1)=k:=by omega
  have hb3:val 65536 (l.drop (k+1))<281474976710656:=Int.lt_of_lt_of_le hb (by simpa using hb2)
  have hy:=bG8 t l x0 x2 x3 x4 x6 x7 x8 x9 x10 x11 x12 (val 65536 (l.drop (k+1))) k (l.getD k default) (by omega) (by omega)
  simp only[d16]at hix
  generalize l.getD k default=a at *
  generalize val 65536 (l.drop (k+1))=w at *
  have hc:∀env,bH env (sK t l (rJ x0 x2 x3 x4 x6 x7 x8 x9 x10 x11 x12) w) (.ptr 1 69 0) 1=some [.iv (.sl t (one d16 l))]:=fun _=>rfl
  generalize sK t l (rJ x0 x2 x3 x4 x6 x7 x8 x9 x10 x11 x12) w=Sw at *
  simp (config := { maxSteps := 4000000 }) (disch:=omega) only[go_sem,Int.natCast_add,Int.cast_ofNat_Int,e1,hc,hix,aB,hy,er_ret]
  exact congrArg er ih
theorem aZi (t:Tag)(l:List Int)(hd:Dig 65536 l)(hl:l.length≤4)(x0 x2 x3 x4 x6 x7 x8 x9 x10 x11 x12:TV) :
  (lim K).call 139 [.yld 2,.ptr 1 69 0] (sK t l (rJ x0 x2 x3 x4 x6 x7 x8 x9 x10 x11 x12) 0)=.ret (u_,sK t l (rJ x0 x2 x3 x4 x6 x7 x8 x9 x10 x11 x12) (val 65536 l)):=by
 obtain⟨z3,z4,e⟩:=aMj t l hd hl x0 x2 x3 x4 x6 x7 x8 x9 x10 x11 x12 l.length u_ u_ (Nat.le_refl _)
 rw[List.drop_length,show val 65536 []=0 from rfl]at e
 refine aD K _ (fn:=t139) rfl rfl ?_
 have hc:∀env,bH env (sK t l (rJ x0 x2 x3 x4 x6 x7 x8 x9 x10 x11 x12) 0) (.ptr 1 69 0) 1=some [.iv (.sl t (one d16 l))]:=fun _=>rfl
 generalize sK t l (rJ x0 x2 x3 x4 x6 x7 x8 x9 x10 x11 x12) 0=Sw at *
 simp (config := { maxSteps := 4000000 }) (disch:=omega) only[t139,go_sem,hc,bJ,aB,e]
def fit (z:Int):Bool:=decide (-9223372036854775808≤z∧z≤9223372036854775807)
def lD (z:Int):TV:=.tup [.iv (.int .i64 (if fit z then z else 0)),.iv (.bool (fit z))]
theorem aZj {m:Int}(h:0≤m∧m≤9223372036854775808):IntKind.i64.wrap (IntKind.u64.wrap (0-m)) = -m:=by
 rw[aEw]
 unfold IntKind.wrap
 simp[IntKind.bits,IntKind.signed]
 omega
theorem aZk (t:Tag)(l:List Int)(w:Int):(lim K).call 125 [.iv (.sl t (one d16 l))] [.cells 159 false [.iv (.int .u64 w)]]=.ret (.fn 139 [] [.ptr 1 69 0],[.cells 159 false [.iv (.int .u64 w)],.cells 69 false [.iv (.sl t (one d16 l))]]):=by
 refine aD K _ (fn:=t125) rfl rfl ?_
 simp (config := { maxSteps := 4000000 }) (disch:=omega) only[t125,go_sem]
theorem aZl (neg:Bool)(t:Tag)(l:List Int)(ht:bP t l)(hd:Dig 65536 l)(hl:l.length≤1000000):Pure K 100 [.iv (num neg t l)] (lD (sv neg (val 65536 l))):=by
 obtain⟨t',h1,h40⟩:=aIo t l ht hl
 have hv:=dP (by decide) hd
 have hlen:=xX l
 rw[aFh (by decide) hd]at h1 h40 hlen
 have hdd:=kM (B:=65536) (n:=val 65536 l) (by decide) hv
 have hvd:=lC (B:=65536) (n:=val 65536 l) (by decide) hv
 generalize val 65536 l=v at *
 simp only[num]
 refine aX t100 rfl rfl ?_
 by_cases h4:(dg 65536 v).length≤4
 ·have hb:v<65536 ^ (dg 65536 v).length:=by have:=kL (B:=65536) (by decide) hdd; rwa [hvd]at this
  have hb2:(65536:Int) ^ (dg 65536 v).length≤65536 ^ 4:=xE (by decide) h4
  have hb3:v<18446744073709551616:=Int.lt_of_lt_of_le hb (by simpa using hb2)
  have h75:=aZi t' (dg 65536 v) hdd h4
  rw[hvd]at h75
  have h52:=aZk t' (dg 65536 v) 0
  have hu:IntKind.u64.wrap v=v:=tW (by omega)
  generalize dg 65536 v=D at *
  simp only[sK,rJ,aZg,aZh]at h75
  cases neg
  ·by_cases hf:v≤9223372036854775807
   ·have hs:lD (sv false v)=.tup [.iv (.int .i64 v),.iv (.bool true)]:=by
     have:fit v=true:=decide_eq_true (by omega)
     simp[lD,sv,this]
    rw[hs]
    simp (config := { maxSteps := 4000000 }) (disch:=omega) only[t100,go_sem,h40,h52,h75,er_ret,aB,bJ,bY,bN]
   ·have hs:lD (sv false v)=.tup [.iv (.int .i64 0),.iv (.bool false)]:=by
     have:fit v=false:=decide_eq_false (by omega)
     simp[lD,sv,this]
    rw[hs]
    simp (config := { maxSteps := 4000000 }) (disch:=omega) only[t100,go_sem,h40,h52,h75,er_ret,aB,bJ,bY,bN]
  ·by_cases hf:v≤9223372036854775808
   ·have hs:lD (sv true v)=.tup [.iv (.int .i64 (-v)),.iv (.bool true)]:=by
     have:fit (-v)=true:=decide_eq_true (by omega)
     simp[lD,sv,this]
    have hng:=aZj (m:=v) (by omega)
    rw[hs]
    simp (config := { maxSteps := 4000000 }) (disch:=omega) only[t100,go_sem,h40,h52,h75,er_ret,hng,aB,bJ,bY,bN]
   ·have hs:lD (sv true v)=.tup [.iv (.int .i64 0),.iv (.bool false)]:=by
     have:fit (-v)=false:=decide_eq_false (by omega)
     simp[lD,sv,this]
    rw[hs]
    simp (config := { maxSteps := 4000000 }) (disch:=omega) only[t100,go_sem,h40,h52,h75,er_ret,aB,bJ,bY,bN]
 ·have hbig:18446744073709551616≤v:=by
   rcases Int.lt_or_le v 18446744073709551616 with g|g
   ·exact absurd (oD (by decide) 4 v hv (by simpa using g)) h4
   ·exact g
  have hs:lD (sv neg v)=.tup [.iv (.int .i64 0),.iv (.bool false)]:=by
   cases neg
   ·have:fit v=false:=decide_eq_false (by omega)
    simp[lD,sv,this]
   ·have:fit (-v)=false:=decide_eq_false (by omega)
    simp[lD,sv,this]
  rw[hs]
  generalize dg 65536 v=D at *
  simp (config := { maxSteps := 4000000 }) (disch:=omega) only[t100,go_sem,h40,aB,bJ,bY,bN]
def aZm (z:Int):TV:=.tup [.iv (.int .i64 (if decide (-536870912≤z∧z≤536870911) then z else 0)),.iv (.bool (decide (-536870912≤z∧z≤536870911)))]
theorem bEx (neg:Bool)(t:Tag)(l:List Int)(ht:bP t l)(hd:Dig 65536 l)(hl:l.length≤1000000):Pure K 74 [.iv (num neg t l)] (aZm (sv neg (val 65536 l))):=by
 have h21:=aZl neg t l ht hd hl
 generalize sv neg (val 65536 l)=z at *
 refine aX t74 rfl rfl ?_
 simp only[num]at h21 ⊢
 by_cases hf:-536870912≤z∧z≤536870911
 ·have e1:fit z=true:=decide_eq_true (by omega)
  simp only[lD,e1,↓reduceIte]at h21
  simp only[aZm,decide_eq_true hf,↓reduceIte]
  simp (config := { maxSteps := 4000000 }) (disch:=omega) only[t74,go_sem,aE h21,bY,bN]
 ·simp only[aZm,decide_eq_false hf,Bool.false_eq_true,↓reduceIte]
  by_cases e1:fit z=true
  ·simp only[lD,e1,↓reduceIte]at h21
   by_cases hlo:z < -536870912
   ·simp (config := { maxSteps := 4000000 }) (disch:=omega) only[t74,go_sem,aE h21,bY,bN]
   ·simp (config := { maxSteps := 4000000 }) (disch:=omega) only[t74,go_sem,aE h21,bY,bN]
  ·have e2:fit z=false:=by simpa using e1
   simp only[lD,e2,Bool.false_eq_true,↓reduceIte]at h21
   simp (config := { maxSteps := 4000000 }) (disch:=omega) only[t74,go_sem,aE h21,bY,bN]
structure Vv where
 k:Int
 n:Int
structure Ob where
 ty:Int
 kd:List Vv
 z:Int
structure Sg where
 L:List Ob
 ad:List Int
 mem:List Int
 sy:List (List UInt8×Nat)
abbrev w32 (x:Int):Int:=IntKind.u32.wrap x
def wd (ad:List Int)(v:Vv):Int :=
 if v.k=1 then w32 (4*w32 v.n) else if v.k=2 then w32 (w32 (16*w32 v.n)+2) else if v.k=3∧v.n=1 then 22 else if v.k=3 then 6 else if v.k=4 then 38 else if v.k=5 then 54 else if v.k=6 then 70 else w32 (w32 (4*w32 (ad.getD v.n.toNat 0))+1)
def prO (o:Ob):List Int:=if o.ty=7 then (if o.z<0 then 4 else 0)::(dg 65536 o.z.natAbs).map (4*·) else []
def boO (ad:List Int)(o:Ob):List Int:=prO o++o.kd.map (wd ad)
def ow (ad:List Int)(o:Ob):List Int:=(32*((boO ad o).length:Int)+4*o.ty+3)::boO ad o
def dY (o:Ob):Nat:=1+(prO o).length+o.kd.length
theorem aC6 (ad:List Int)(o:Ob):(ow ad o).length=dY o:=by unfold ow boO dY; simp; omega
def push (b:Int)(σ:Sg)(o:Ob):Vv×Sg:=(⟨7,σ.L.length⟩,⟨σ.L++[o],σ.ad++[b+σ.mem.length],σ.mem++ow σ.ad o,σ.sy⟩)
def zP (t:List UInt8):Int:=if okP t then sv (lY t) (dec (body t)) else 0
def chV (t:List UInt8):List Vv:=if (cD t.length t 0).2=none then (fB (cD t.length t 0).1).map (⟨2,·⟩) else []
def oE (b z:Int)(σ:Sg):Vv×Sg:=if -536870912≤z∧z≤536870911 then (⟨1,z⟩,σ) else push b σ ⟨7,[],z⟩
def oF (b:Int)(t:List UInt8)(σ:Sg):Vv×Sg:=match σ.sy.find? (fun x=>x.1==t) with
 | some x=>(⟨7,x.2⟩,σ)
 | none =>
  let x:=push b σ ⟨4,chV t,0⟩
  let y:=push b x.2 ⟨5,[x.1],0⟩
  (y.1,⟨y.2.L,y.2.ad,y.2.mem,σ.sy++[(t,x.2.L.length)]⟩)
def fF (b:Int):List Vv→Vv→Sg→Vv×Sg
 | [],e,σ=>(e,σ)
 | v::r,e,σ=>let x:=push b σ ⟨0,[v,e],0⟩; fF b r x.1 x.2
mutual
def eP (b:Int):Nat→Dt→Sg→Vv×Sg
 | 0,_,σ=>(⟨4,0⟩,σ)
 | n+1,d,σ =>
  if d.k=1 then (⟨3,d.n⟩,σ)
  else if d.k=2 then oE b (zP d.t) σ
  else if d.k=3 then (⟨2,d.n⟩,σ)
  else if d.k=4 then push b σ ⟨4,chV d.t,0⟩
  else if d.k=5 then oF b d.t σ
  else if d.k=8 then push b σ ⟨6,d.t.map fun c=>⟨1,c.toNat⟩,0⟩
  else if d.k=7 then let x:=cF b n d.ks σ; push b x.2 ⟨1,x.1,0⟩
  else if d.k=6 then let x:=cF b n (bR d.w d).1 σ; let y:=eP b n (bR d.w d).2 x.2; fF b x.1.reverse y.1 y.2
  else if d.k=9 then (⟨5,0⟩,σ)
  else if d.k=10 then (⟨6,0⟩,σ)
  else (⟨4,0⟩,σ)
def cF (b:Int):Nat→List Dt→Sg→List Vv×Sg
 | 0,_,σ=>([],σ)
 | n+1,[],σ=>([],σ)
 | n+1,d::l,σ=>let x:=eP b n d σ; let y:=cF b n l x.2; (x.1::y.1,y.2)
end
def Vd (n:Nat)(v:Vv):Prop:=v.k=7→0≤v.n∧v.n<n
theorem Vd.mono {n m:Nat}{v:Vv}(h:Vd n v)(hm:n≤m):Vd m v:=fun h7=>by have:=h h7; omega
structure LeS (σ τ:Sg):Prop where
 L:∃r,τ.L=σ.L++r
 ad:∃r,τ.ad=σ.ad++r
 mem:∃r,τ.mem=σ.mem++r
 sy:∃r,τ.sy=σ.sy++r
theorem LeS.refl (σ:Sg):LeS σ σ:=⟨⟨[],by simp⟩,⟨[],by simp⟩,⟨[],by simp⟩,⟨[],by simp⟩⟩
theorem LeS.trans {a b c:Sg}(h:LeS a b)(g:LeS b c):LeS a c:=by
 obtain⟨⟨r1,e1⟩,⟨r2,e2⟩,⟨r3,e3⟩,⟨r4,e4⟩⟩:=h
 obtain⟨⟨s1,f1⟩,⟨s2,f2⟩,⟨s3,f3⟩,⟨s4,f4⟩⟩:=g
 exact⟨⟨r1++s1,by rw[f1,e1,List.append_assoc]⟩,⟨r2++s2,by rw[f2,e2,List.append_assoc]⟩,⟨r3++s3,by rw[f3,e3,List.append_assoc]⟩,⟨r4++s4,by rw[f4,e4,List.append_assoc]⟩⟩
theorem LeS.push (b:Int)(σ:Sg)(o:Ob):LeS σ (push b σ o).2:=⟨⟨_,rfl⟩,⟨_,rfl⟩,⟨_,rfl⟩,⟨[],by unfold Go.Proofs.YtjbpbohpmfpoiaaGreatDoor.push; simp⟩⟩
theorem LeS.len {σ τ:Sg}(h:LeS σ τ):σ.mem.length≤τ.mem.length∧σ.L.length≤τ.L.length:=by
 obtain⟨⟨r1,e1⟩,_,⟨r3,e3⟩,_⟩:=h
 rw[e1,e3,List.length_append,List.length_append]; omega
theorem bEy (b z:Int)(σ:Sg):LeS σ (oE b z σ).2:=by
 unfold oE
 split
 ·exact LeS.refl σ
 ·exact LeS.push ..
theorem aIu (b:Int)(t:List UInt8)(σ:Sg):LeS σ (oF b t σ).2:=by
 unfold oF
 split
 ·exact LeS.refl σ
 ·obtain⟨h1,h2,h3,h4⟩:=(LeS.push b σ ⟨4,chV t,0⟩).trans (LeS.push b _ ⟨5,[(push b σ ⟨4,chV t,0⟩).1],0⟩)
  exact⟨h1,h2,h3,_,rfl⟩
theorem oG (b:Int):∀(l:List Vv) (e:Vv) (σ:Sg),LeS σ (fF b l e σ).2
 | [],e,σ=>LeS.refl σ
 | v::r,e,σ=>by
  rw[fF]
  exact (LeS.push ..).trans (oG b r _ _)
mutual
theorem oH (b:Int):∀(n:Nat) (d:Dt) (σ:Sg),LeS σ (eP b n d σ).2
 | 0,d,σ=>by rw[eP]; exact LeS.refl σ
 | n+1,d,σ=>by
  rw[eP]
  split
  ·exact LeS.refl σ
  split
  ·exact bEy ..
  split
  ·exact LeS.refl σ
  split
  ·exact LeS.push ..
  split
  ·exact aIu ..
  split
  ·exact LeS.push ..
  split
  ·exact (sL b n _ σ).trans (LeS.push ..)
  split
  ·exact (sL b n _ σ).trans ((oH b n _ _).trans (oG ..))
  split
  ·exact LeS.refl σ
  split
  ·exact LeS.refl σ
  ·exact LeS.refl σ
theorem sL (b:Int):∀(n:Nat) (l:List Dt) (σ:Sg),LeS σ (cF b n l σ).2
 | 0,l,σ=>by rw[cF]; exact LeS.refl σ
 | n+1,[],σ=>by rw[cF]; exact LeS.refl σ
 | n+1,d::l,σ=>by
  rw[cF]
  exact (oH b n d σ).trans (sL b n l _)
end
def OkV (n:Nat)(v:Vv):Prop:=Vd n v∧(¬v.k=7→v.k=1∨v.k=2∨v.k=3∨v.k=4∨v.k=5∨v.k=6)
def OkO (n:Nat)(o:Ob):Prop:=(∀v∈o.kd,OkV n v)∧0≤o.ty∧o.ty≤7
theorem OkV.mono {n m:Nat}{v:Vv}(h:OkV n v)(hm:n≤m):OkV m v:=⟨h.1.mono hm,h.2⟩
theorem OkO.mono {n m:Nat}{o:Ob}(h:OkO n o)(hm:n≤m):OkO m o:=⟨fun v hv=>(h.1 v hv).mono hm,h.2⟩
structure Gd (b:Int) (σ:Sg):Prop where
 al:σ.ad.length=σ.L.length
 me:σ.mem=σ.L.flatMap (ow σ.ad)
 vd:∀o∈σ.L,OkO σ.L.length o
 ap:∀i,i<σ.L.length→σ.ad[i]? = some (b+(((σ.L.take i).map dY).sum:Nat))
 sl:σ.sy.length≤σ.L.length
 sy:∀x∈σ.sy,okC x.1=true∧∃j:Nat,σ.L[x.2]? = some ⟨5,[⟨7,j⟩],0⟩∧σ.L[j]? = some ⟨4,chV x.1,0⟩
theorem uF {ad r:List Int}{v:Vv}(h:Vd ad.length v)(hk:¬v.k=7→v.k=1∨v.k=2∨v.k=3∨v.k=4∨v.k=5∨v.k=6):wd (ad++r) v=wd ad v:=by
 unfold wd
 by_cases h7:v.k=7
 ·have:=h h7
  have e:(ad++r).getD v.n.toNat 0=ad.getD v.n.toNat 0:=by
   rw[List.getD_eq_getElem?_getD,List.getD_eq_getElem?_getD,List.getElem?_append_left (by omega)]
  rw[e]
 ·have:=hk h7
  split
  ·rfl
  split
  ·rfl
  split
  ·rfl
  split
  ·rfl
  split
  ·rfl
  split
  ·rfl
  split
  ·rfl
  ·omega
theorem aSt {ad r:List Int}{o:Ob}(h:OkO ad.length o):ow (ad++r) o=ow ad o:=by
 have e:o.kd.map (wd (ad++r))=o.kd.map (wd ad):=List.map_congr_left fun v hv=>uF (h.1 v hv).1 (h.1 v hv).2
 unfold ow boO
 rw[e]
theorem uG {b:Int}{σ:Sg}(h:Gd b σ):σ.mem.length=(σ.L.map dY).sum:=by
 rw[h.me,List.length_flatMap]
 congr 1
 exact List.map_congr_left fun o _=>aC6 _ o
theorem aSu {f g:Ob→List Int}{l:List Ob}(h:∀x∈l,f x=g x):l.flatMap f=l.flatMap g:=by
 rw[List.flatMap_def,List.flatMap_def,List.map_congr_left h]
theorem sM {b:Int}{σ:Sg}{o:Ob}(h:Gd b σ)(ho:OkO σ.L.length o):Gd b (push b σ o).2:=by
 have hal:=h.al
 have hsz:=uG h
 unfold push
 refine⟨by simp[hal],?_,?_,?_,(by show σ.sy.length≤(σ.L++[o]).length; have:=h.sl; rw[List.length_append]; omega),?_⟩
 ·show σ.mem++ow σ.ad o=(σ.L++[o]).flatMap (ow (σ.ad++[b+σ.mem.length]))
  rw[List.flatMap_append,List.flatMap_singleton,h.me,aSt (by rw[hal]; exact ho)]
  congr 1
  exact aSu fun x hx=>(aSt (by rw[hal]; exact h.vd x hx)).symm
 ·intro x hx
  rw[List.length_append,List.length_singleton]
  rcases List.mem_append.1 hx with hx|hx
  ·exact (h.vd x hx).mono (by omega)
  ·rw[List.mem_singleton]at hx; subst hx; exact ho.mono (by omega)
 ·intro i hi
  rw[List.length_append,List.length_singleton]at hi
  show (σ.ad++[b+(σ.mem.length:Int)])[i]? = _
  by_cases hl:i<σ.L.length
  ·rw[List.getElem?_append_left (by omega),h.ap i hl,List.take_append_of_le_length (by omega)]
  ·obtain rfl:i=σ.L.length:=by omega
   rw[List.getElem?_append_right (by omega),show σ.L.length-σ.ad.length=0 by omega,List.take_append_of_le_length (Nat.le_refl _),List.take_length,hsz]
   rfl
 ·intro x hx
  obtain⟨h1,j,h2,h3⟩:=h.sy x hx
  refine⟨h1,j,?_,?_⟩
  ·show (σ.L++[o])[x.2]? = _
   rw[List.getElem?_append_left (List.getElem?_eq_some_iff.1 h2).1]; exact h2
  ·show (σ.L++[o])[j]? = _
   rw[List.getElem?_append_left (List.getElem?_eq_some_iff.1 h3).1]; exact h3
theorem fS (b:Int)(σ:Sg)(o:Ob):OkV (push b σ o).2.L.length (push b σ o).1:=by
 unfold push
 refine⟨fun _=>?_,fun h=>absurd rfl h⟩
 show 0≤(σ.L.length:Int)∧(σ.L.length:Int)<((σ.L++[o]).length:Nat)
 rw[List.length_append,List.length_singleton]; omega
theorem aMk {b:Int}{σ:Sg}(h:Gd b σ):σ.sy.length≤σ.mem.length:=by
 have h1:=h.sl
 have h2:=uG h
 have h3:∀l:List Ob,l.length≤(l.map dY).sum:=fun l=>by
  induction l with
  | nil=>exact Nat.zero_le _
  | cons a r ih=>rw[List.map_cons,List.sum_cons,List.length_cons]; have:1≤dY a:=(by unfold dY; omega); omega
 have:=h3 σ.L
 omega
theorem aMl {b:Int}{σ:Sg}(h:Gd b σ)(o:Ob):wd (push b σ o).2.ad (push b σ o).1=w32 (w32 (4*w32 (b+σ.mem.length))+1):=by
 have hal:=h.al
 unfold push wd
 have e:(σ.ad++[b+(σ.mem.length:Int)]).getD ((σ.L.length:Int).toNat) 0=b+σ.mem.length:=by
  rw[Int.toNat_natCast,←hal,List.getD_eq_getElem?_getD,List.getElem?_append_right (Nat.le_refl _),Nat.sub_self]; rfl
 simp only[e]
 rfl
theorem aFn (i:Nat)(l:List (List IV)):cellsOf (acc i l)=[acc i l]:=by unfold acc; split<;>rfl
theorem aIv (i:Nat)(l:List (List IV)):bO (acc i l)=false:=by unfold acc; split<;>rfl
theorem aSv (i:Nat)(l:List (List IV)):noLb (acc i l)=acc i l:=by unfold acc; split<;>rfl
attribute [go_sem] aFn aIv aSv
theorem yC (S:aA)(j:Nat)(l:List (List IV)):iH S (acc j l) l:=by
 by_cases h:l=[]
 ·subst h; rw[cQ]; exact iH.sl ..
 ·rw[iI _ h]; exact iH.tsl ..
structure Gl (n0:Nat) (S:aA) (w el:Nat) (l:List (List IV)) (j:Nat):Prop where
 tok:l≠[]→S[j]? = some (.tok l.length w el)
 new:l≠[]→n0≤j
theorem Gl.nil (n0:Nat)(S:aA)(w el j:Nat):Gl n0 S w el [] j:=⟨fun h=>absurd rfl h,fun h=>absurd rfl h⟩
structure bIb (n0:Nat) (S S':aA) (w el:Nat) (l ys:List (List IV)) (j j':Nat):Prop where
 gl:Gl n0 S' w el (l++ys) j'
 len:S.length≤S'.length
 old:∀q b,S[q]? = some b→(l≠[]→q≠j)→S'[q]? = some b
 same:l≠[]→j'=j
 frsh:l=[]→ys≠[]→S.length≤j'
theorem Gl.more {n0:Nat}{S:aA}{w el b:Nat}{l ys:List (List IV)}{j:Nat}{x:TV}(h:Gl n0 S w el l j)(hx:iH S x ys)(hw:eT w ys)(hl:eT w l)(hr:fQ (l.length+ys.length) b=true)(h0:n0≤S.length) :
  ∃j' S',bW false w b el S (acc j l) x=some (acc j' (l++ys),S')∧bIb n0 S S' w el l ys j j':=by
 by_cases hy:ys=[]
 ·subst hy
  have hs:aI6 (acc j l)=true:=by unfold acc; split<;>rfl
  refine⟨j,S,by rw[aAq hs hx,List.append_nil],⟨by rw[List.append_nil]; exact h,Nat.le_refl _,fun q b hq _=>hq,fun _=>rfl,fun _ h=>absurd rfl h⟩⟩
 ·by_cases hn:l=[]
  ·subst hn
   refine⟨S.length,S++[.tok ([]++ys).length w el],?_,⟨⟨fun _=>by simp,fun _=>h0⟩,by simp,fun q b hq _=>mV hq _,fun h=>absurd rfl h,fun _ _=>Nat.le_refl _⟩⟩
   rw[cQ,aE4 (by decide) hx hw hl hy hr,iI _ (by simpa using hy)]
   simp
  ·have ht:=h.tok hn
   refine⟨j,S.set j (.tok (l++ys).length w el),?_,⟨⟨fun _=>eI (cM ht) _,fun _=>h.new hn⟩,by simp,fun q b hq hne=>by rw[bV (Ne.symm (hne hn))]; exact hq,fun _=>rfl,fun h=>absurd h hn⟩⟩
   rw[iI _ hn,aLp hx hw hl ht hr,iI _ (by simp[hn]),List.length_append]
abbrev bC (l:List Int):List (List IV):=TM.one (.int .u32) l
theorem iB (l:List Int):eT 1 (bC l):=by
 intro y hy
 obtain⟨x,_,rfl⟩:=List.mem_map.1 hy
 exact⟨rfl,rfl⟩
theorem lE (a b:List Int):bC (a++b)=bC a++bC b:=List.map_append
theorem cB (l:List Int):(bC l).length=l.length:=List.length_map _
theorem cX {l:List Int}:bC l≠[]↔l≠[]:=by cases l<;>simp[bC,TM.one]
structure Ly where
 jm:Nat
 jo:Nat
 σ:Sg
 l:List (Nat×List UInt8×Int)
 c:Nat
def jC (σ:Sg):List Int:=σ.sy.map fun x=>wd σ.ad ⟨7,x.2⟩
def wdV (a:Int):TV:=.iv (.agg [.int .u32 a])
def TkM (Λ:Ly)(q:Nat):Prop:=Λ.σ.mem≠[]∧q=Λ.jm
def TkO (Λ:Ly)(q:Nat):Prop:=jC Λ.σ≠[]∧q=Λ.jo
def lyB (b:Int)(jp:Nat)(Λ:Ly):bG:=.cells 53 false [.iv (.int .i64 b),acc Λ.jm (bC Λ.σ.mem),.map jp,acc Λ.jo (bC (jC Λ.σ))]
structure LB (b:Int) (S:aA) (j jp:Nat) (Λ:Ly):Prop where
 own:S[j]? = some (lyB b jp Λ)
 gm:Gl 0 S 1 26 (bC Λ.σ.mem) Λ.jm
 go:Gl 0 S 1 26 (bC (jC Λ.σ)) Λ.jo
 mp:S[jp]? = some (.mp (mpK enS wdV Λ.l) Λ.c)
 dis:∀q,TkM Λ q→¬TkO Λ q
 kv:∀t,nQ Λ.l t=(Λ.σ.sy.find? (fun x=>x.1==t)).map fun x=>wd Λ.σ.ad ⟨7,x.2⟩
 gd:Gd b Λ.σ
 b0:0≤b∧b≤67108864
structure KL (j jp:Nat) (S S':aA) (Λ Λ':Ly):Prop where
 len:S.length≤S'.length
 old:∀q B,S[q]? = some B→q≠j→q≠jp→¬TkM Λ q→¬TkO Λ q→S'[q]? = some B
 new:∀q,TkM Λ' q∨TkO Λ' q→TkM Λ q∨TkO Λ q∨S.length≤q
theorem KL.refl (j jp:Nat)(S:aA)(Λ:Ly):KL j jp S S Λ Λ:=⟨Nat.le_refl _,fun _ _ h _ _ _ _=>h,fun q h=>by rcases h with h|h; exact .inl h; exact .inr (.inl h)⟩
theorem KL.trans {j jp:Nat}{S S1 S2:aA}{A B C:Ly}(h:KL j jp S S1 A B)(g:KL j jp S1 S2 B C):KL j jp S S2 A C:=by
 have nt:∀q (X:bG),S[q]? = some X→¬TkM A q→¬TkO A q→¬TkM B q∧¬TkO B q:=fun q X hq h1 h2=>by
  have hl:=cM hq
  refine⟨fun hb=>?_,fun hb=>?_⟩
  ·rcases h.new q (.inl hb) with h3|h3|h3
   ·exact h1 h3
   ·exact h2 h3
   ·omega
  ·rcases h.new q (.inr hb) with h3|h3|h3
   ·exact h1 h3
   ·exact h2 h3
   ·omega
 refine⟨Nat.le_trans h.len g.len,fun q X hq h1 h2 h3 h4=>?_,fun q hq=>?_⟩
 ·obtain⟨h5,h6⟩:=nt q X hq h3 h4
  exact g.old q X (h.old q X hq h1 h2 h3 h4) h1 h2 h5 h6
 ·rcases g.new q hq with h3|h3|h3
  ·exact h.new q (.inl h3)
  ·exact h.new q (.inr h3)
  ·exact .inr (.inr (Nat.le_trans h.len h3))
theorem LB.tkj {b:Int}{S:aA}{j jp:Nat}{Λ:Ly}(h:LB b S j jp Λ):∀q,TkM Λ q∨TkO Λ q→q≠j∧q≠jp:=by
 intro q hq
 have ht:∃n,S[q]? = some (.tok n 1 26):=by
  rcases hq with⟨h1,rfl⟩|⟨h1,rfl⟩
  ·exact⟨_,h.gm.tok (cX.2 h1)⟩
  ·exact⟨_,h.go.tok (cX.2 h1)⟩
 obtain⟨n,ht⟩:=ht
 refine⟨fun e=>?_,fun e=>?_⟩
 ·rw[e,h.own]at ht; unfold lyB at ht; cases ht
 ·rw[e,h.mp]at ht; cases ht
theorem LB.nej {b:Int}{S:aA}{j jp:Nat}{Λ:Ly}(h:LB b S j jp Λ):j≠jp:=fun e=>by
 have h1:=h.own; have h2:=h.mp
 rw[e,h2]at h1; unfold lyB at h1; cases h1
theorem LB.keep {b:Int}{S S':aA}{j jp:Nat}{Λ:Ly}(h:LB b S j jp Λ)(k:∀q B,S[q]? = some B→(q=j∨q=jp∨TkM Λ q∨TkO Λ q)→S'[q]? = some B):LB b S' j jp Λ :=
 ⟨k _ _ h.own (.inl rfl),⟨fun hn=>k _ _ (h.gm.tok hn) (.inr (.inr (.inl ⟨cX.1 hn,rfl⟩))),fun _=>Nat.zero_le _⟩,⟨fun hn=>k _ _ (h.go.tok hn) (.inr (.inr (.inr ⟨cX.1 hn,rfl⟩))),fun _=>Nat.zero_le _⟩,k _ _ h.mp (.inr (.inl rfl)),h.dis,h.kv,h.gd,h.b0⟩
theorem LB.app {b:Int}{S:aA}{j jp:Nat}{Λ:Ly}(h:LB b S j jp Λ)(l:aA):LB b (S++l) j jp Λ:=h.keep fun q B hq _=>mV hq l
theorem KL.app (j jp:Nat)(S:aA)(Λ:Ly)(l:aA):KL j jp S (S++l) Λ Λ:=⟨by simp,fun q B hq _ _ _ _=>mV hq l,fun q h=>by rcases h with h|h; exact .inl h; exact .inr (.inl h)⟩
theorem xF {k:Nat}{a b:Int}(ha:0≤a∧a≤2147483647-2 ^ k)(hk:k<31)(hb:0≤b∧b<2 ^ k)(hm:a % 2 ^ k=0):IntKind.u32.wrap (bOr 32 a b)=a+b:=by
 have h2:(2:Int) ^ k≤2 ^ 31:=aLm (by omega)
 unfold bOr
 rw[aLl (k:=k) ⟨ha.1,by omega⟩ hb (by omega) hm]
 rw[cC (by omega)]
 omega
theorem bEz {n ty:Int}(hn:0≤n∧n≤20000000)(ht:0≤ty∧ty≤7):IntKind.u32.wrap (bOr 32 (IntKind.u32.wrap (bOr 32 (IntKind.u32.wrap (IntKind.u32.wrap n*32)) (IntKind.u32.wrap (IntKind.u32.wrap ty*4)))) 3)=32*n+4*ty+3:=by
 rw[cC (m:=n) (by omega),cC (m:=ty) (by omega),cC (m:=n*32) (by omega),cC (m:=ty*4) (by omega)]
 rw[xF (k:=5) (a:=n*32) (b:=ty*4) ⟨by omega,by omega⟩ (by decide) ⟨by omega,by omega⟩ (by omega)]
 rw[xF (k:=2) ⟨by omega,by omega⟩ (by decide) ⟨by omega,by omega⟩ (by omega)]
 omega
theorem bE0 {a:Int}(ha:0≤a∧a≤200000000):IntKind.u32.wrap (bOr 32 (IntKind.u32.wrap (IntKind.u32.wrap a*4)) 1)=w32 (w32 (4*w32 a)+1):=by
 unfold w32
 rw[cC (m:=a) (by omega),cC (m:=a*4) (by omega),cC (m:=4*a) (by omega),cC (m:=4*a+1) (by omega)]
 rw[xF (k:=2) ⟨by omega,by omega⟩ (by decide) ⟨by omega,by omega⟩ (by omega)]
 omega
theorem LB.grow {b:Int}{S:aA}{j jp:Nat}{Λ:Ly}(h:LB b S j jp Λ){x:TV}(ys:List Int)(hx:iH S x (bC ys))(hm:Λ.σ.mem.length+ys.length≤20000000) :
  ∃jm' S',bW false 1 4 26 S (acc Λ.jm (bC Λ.σ.mem)) x=some (acc jm' (bC (Λ.σ.mem++ys)),S')∧S'[j]? = some (lyB b jp Λ) ∧
   (∀q B,S[q]? = some B→¬TkM Λ q→S'[q]? = some B)∧S.length≤S'.length∧Gl 0 S' 1 26 (bC (Λ.σ.mem++ys)) jm'∧(Λ.σ.mem++ys≠[]→TkM Λ jm'∨S.length≤jm'):=by
 have hl1:=cB Λ.σ.mem
 have hl2:=cB ys
 obtain⟨jm',S',ap,g⟩:=h.gm.more hx (iB ys) (iB Λ.σ.mem) (b:=4) (cS (by omega)) (Nat.zero_le _)
 rw[←lE]at ap
 have hgl:=g.gl
 rw[←lE]at hgl
 have ho:∀q B,S[q]? = some B→¬TkM Λ q→S'[q]? = some B:=fun q B hq hn=>g.old q B hq fun hne e=>hn ⟨cX.1 hne,e⟩
 refine⟨jm',S',ap,ho _ _ h.own fun hk=>(h.tkj _ (.inl hk)).1 rfl,ho,g.len,hgl,fun hne=>?_⟩
 by_cases h0:bC Λ.σ.mem=[]
 ·refine .inr (g.frsh h0 fun h1=>?_)
  have e1:Λ.σ.mem=[]:=by cases hh:Λ.σ.mem with|nil=>rfl|cons a r=>rw[hh]at h0; cases h0
  have e2:ys=[]:=by cases hh:ys with|nil=>rfl|cons a r=>rw[hh]at h1; cases h1
  exact hne (by rw[e1,e2]; rfl)
 ·exact .inl ⟨cX.1 h0,g.same h0⟩
theorem rK {b:Int}{S:aA}{j jp:Nat}{Λ:Ly}(h:LB b S j jp Λ){o:Ob}(ho:OkO Λ.σ.L.length o)(hm:(push b Λ.σ o).2.mem.length≤10000000){x:TV}(hlc:∀i,tT i x=x)(hln:∀S',aEc .sl S' x=some (.iv (.int .i64 (boO Λ.σ.ad o).length)))
  (hx:∀S',(∀q B,S[q]? = some B→q≠j→¬TkM Λ q→S'[q]? = some B)→iH S' x (bC (boO Λ.σ.ad o))) :
  ∃S' jm',(lim K).call 25 [.ptr j 53 0,.iv (.int .i64 o.ty),x] S=.ret (.iv (.int .u32 (wd (push b Λ.σ o).2.ad (push b Λ.σ o).1)),S')∧LB b S' j jp ⟨jm',Λ.jo,(push b Λ.σ o).2,Λ.l,Λ.c⟩∧KL j jp S S' Λ ⟨jm',Λ.jo,(push b Λ.σ o).2,Λ.l,Λ.c⟩:=by
 have hb:=h.b0
 have hpw:=aMl h.gd o
 have hml:(push b Λ.σ o).2.mem.length=Λ.σ.mem.length+(1+(boO Λ.σ.ad o).length):=by
  show (Λ.σ.mem++ow Λ.σ.ad o).length=_
  rw[List.length_append]; unfold ow; rw[List.length_cons]; omega
 have hgd:=sM h.gd ho
 rw[hml]at hm
 rw[hpw]
 have hl1:=cB Λ.σ.mem
 have hh:=bEz (n:=(boO Λ.σ.ad o).length) (ty:=o.ty) (by omega) ho.2
 have ha:=bE0 (a:=b+Λ.σ.mem.length) (by omega)
 obtain⟨j1,S1,ap1,o1,k1,len1,gl1,n1⟩:=h.grow (x:=.iv (.sl .full [[.int .u32 (32*((boO Λ.σ.ad o).length:Int)+4*o.ty+3)]])) [32*((boO Λ.σ.ad o).length:Int)+4*o.ty+3] (iH.sl ..) (by simp; omega)
 -- the layer with its header
 have hg1:Gl 0 (S1.set j (.cells 53 false [.iv (.int .i64 b),acc j1 (bC (Λ.σ.mem++[32*((boO Λ.σ.ad o).length:Int)+4*o.ty+3])),.map jp,acc Λ.jo (bC (jC Λ.σ))])) 1 26 (bC (Λ.σ.mem++[32*((boO Λ.σ.ad o).length:Int)+4*o.ty+3])) j1:=⟨fun hn=>by
  have ht:=gl1.tok hn
  rw[bV (fun e=>by rw[←e,o1]at ht; unfold lyB at ht; cases ht)]; exact ht,fun _=>Nat.zero_le _⟩
 obtain⟨j2,S2,ap2,g2⟩:=hg1.more (x:=x) (hx _ fun q B hq h1 h2=>by rw[bV (Ne.symm h1)]; exact k1 q B hq h2) (iB (boO Λ.σ.ad o)) (iB _) (b:=4) (cS (by rw[cB,cB,List.length_append,List.length_singleton]; omega)) (Nat.zero_le _)
 have e2:bC (Λ.σ.mem++[32*((boO Λ.σ.ad o).length:Int)+4*o.ty+3])++bC (boO Λ.σ.ad o)=bC (push b Λ.σ o).2.mem:=by
  rw[←lE]
  show _=bC (Λ.σ.mem++ow Λ.σ.ad o)
  unfold ow
  rw[List.append_assoc,List.singleton_append]
 have gl2:=g2.gl
 rw[e2]at ap2 gl2
 have hne1:bC (Λ.σ.mem++[32*((boO Λ.σ.ad o).length:Int)+4*o.ty+3])≠[]:=cX.2 (by simp)
 have hj2:j2=j1:=g2.same hne1
 subst hj2
 have hjt:j2≠j:=fun e=>by
  have ht:=hg1.tok hne1
  rw[e,eI (cM o1)]at ht; cases ht
 have oS2:S2[j]? = some (.cells 53 false [.iv (.int .i64 b),acc j2 (bC (Λ.σ.mem++[32*((boO Λ.σ.ad o).length:Int)+4*o.ty+3])),.map jp,acc Λ.jo (bC (jC Λ.σ))]):=g2.old _ _ (eI (cM o1) _) fun _=>Ne.symm hjt
 have e1:=fun c=>eI (cM o1) c
 have e3:=fun c=>eI (cM oS2) c
 -- what stays
 have kk:∀q B,S[q]? = some B→q≠j→¬TkM Λ q→(S2.set j (lyB b jp ⟨j2,Λ.jo,(push b Λ.σ o).2,Λ.l,Λ.c⟩))[q]? = some B:=fun q B hq h1 h2=>by
  rw[bV (Ne.symm h1)]
  refine g2.old q B (by rw[bV (Ne.symm h1)]; exact k1 q B hq h2) fun _ e=>?_
  rcases n1 (by simp) with h3|h3
  ·exact h2 (e▸h3)
  ·have:=cM hq; omega
 have htm:∀q,TkM ⟨j2,Λ.jo,(push b Λ.σ o).2,Λ.l,Λ.c⟩ q→TkM Λ q∨S.length≤q:=fun q hq=>by rw[hq.2]; exact n1 (by simp)
 have hoW:jC (push b Λ.σ o).2=jC Λ.σ:=by
  unfold jC
  refine List.map_congr_left fun y hy=>?_
  obtain⟨_,i,h1,h2⟩:=h.gd.sy y hy
  refine uF (v:=⟨7,y.2⟩) (fun _=>?_) (fun h=>absurd rfl h)
  have:=(List.getElem?_eq_some_iff.1 h1).1
  have:=h.gd.al
  show 0≤((y.2:Nat):Int)∧((y.2:Nat):Int)<Λ.σ.ad.length
  omega
 refine⟨S2.set j (lyB b jp ⟨j2,Λ.jo,(push b Λ.σ o).2,Λ.l,Λ.c⟩),j2,aD K _ (fn:=t25) rfl rfl ?_,⟨e3 _,⟨fun hn=>by rw[bV (Ne.symm hjt)]; exact gl2.tok hn,fun _=>Nat.zero_le _⟩,⟨fun hn=>?_,fun _=>Nat.zero_le _⟩,?_,fun q hq hq2=>?_,fun t=>?_,hgd,hb⟩,⟨?_,fun q B hq h1 h2 h3 h4=>kk q B hq h1 h3,fun q hq=>?_⟩⟩
 ·clear kk htm hx gl1 gl2 g2 hg1 k1 n1
  have ho':=h.own
  have o1':=o1
  unfold lyB at ho' o1' ⊢
  rw[hoW]
  simp (config := { maxSteps := 4000000 }) (disch:=omega) only[t25,go_sem,ho',bU,hl1,hlc,hln,hh,ha,ap1,o1',e1,ap2,oS2,aB]
 ·rw[hoW]
  have ht:=h.go.tok (by rw[←hoW]; exact hn)
  have hne:jC Λ.σ≠[]:=cX.1 (by rw[←hoW]; exact hn)
  have hj:=(h.tkj _ (.inr ⟨hne,rfl⟩)).1
  exact kk _ _ ht hj fun hh=>h.dis _ hh ⟨hne,rfl⟩
 ·exact kk _ _ h.mp (Ne.symm h.nej) fun hh=>(h.tkj _ (.inl hh)).2 rfl
 ·have hq2':TkO Λ q:=⟨by have:=hq2.1; rw[hoW]at this; exact this,hq2.2⟩
  rcases htm q hq with h3|h3
  ·exact h.dis q h3 hq2'
  ·have:=cM (h.go.tok (cX.2 hq2'.1))
   have:=hq2'.2
   omega
 ·rw[h.kv t]
  show _=Option.map (fun x=>wd (Λ.σ.ad++[b+Λ.σ.mem.length]) ⟨7,x.2⟩) (Λ.σ.sy.find? fun x=>x.1==t)
  cases hf:Λ.σ.sy.find? fun x=>x.1==t with
  | none=>rfl
  | some y =>
   obtain⟨_,i,h1,h2⟩:=h.gd.sy y (List.mem_of_find?_eq_some hf)
   have h3:=(List.getElem?_eq_some_iff.1 h1).1
   have:=h.gd.al
   rw[Option.map_some,Option.map_some,uF (v:=⟨7,y.2⟩) (fun _=>by show 0≤((y.2:Nat):Int)∧((y.2:Nat):Int)<Λ.σ.ad.length; omega) (fun h=>absurd rfl h)]
 ·rw[List.length_set]
  have:=g2.len
  rw[List.length_set]at this
  omega
 ·rcases hq with hq|hq
  ·rcases htm q hq with h3|h3
   ·exact .inl h3
   ·exact .inr (.inr h3)
  ·exact .inr (.inl ⟨by have:=hq.1; rw[hoW]at this; exact this,hq.2⟩)
def cat:List Int→List UInt8
 | []=>[]
 | c::l=>eC c++cat l
def aSw:List (Int×Int)→Int→Prop
 | [],_=>True
 | c::l,i=>c.2=i∧isC c.1=true∧aSw l (i+(eC c.1).length)
theorem mY:∀(k:Nat) (s:List UInt8) (i:Int),s.length≤k→(cD k s i).2=none→aSw (cD k s i).1 i∧cat (fB (cD k s i).1)=s
 | 0,s,i,h,_=>by
  have:s=[]:=List.eq_nil_of_length_eq_zero (by omega)
  subst this; exact⟨trivial,rfl⟩
 | k+1,s,i,h,e=>by
  simp only[cD]at e ⊢
  split
  ·rename_i h0; subst h0; exact⟨trivial,rfl⟩
  ·rename_i hne
   simp only[hne,↓reduceIte]at e
   split
   ·rename_i hb; simp[hb]at e
   ·rename_i hb
    have hb':bad s=false:=by simpa using hb
    have hg:=oB (s:=s) hb'
    simp only[hb',Bool.false_eq_true,↓reduceIte]at e
    obtain⟨h1,h2⟩:=mY k (s.drop (D s).2) (i+(D s).2) (by rw[List.length_drop]; omega) e
    have hl:(eC ((D s).1:Nat)).length=(D s).2:=by rw[hg.2.1,List.length_take]; omega
    refine⟨⟨rfl,hg.1,by rw[hl]; exact h1⟩,?_⟩
    simp only[fB,List.map_cons,cat]
    rw[show cat (List.map (fun x=>x.1) (cD k (s.drop (D s).2) (i+(D s).2)).1)=s.drop (D s).2 from h2,hg.2.1,List.take_append_drop]
theorem aBn:∀ {cs:List (Int×Int)} {i:Int},aSw cs i→∀c∈fB cs,isC c=true
 | [],i,h,c,hc=>by cases hc
 | x::cs,i,h,c,hc=>by
  rcases List.mem_cons.1 hc with rfl|hc
  ·exact h.2.1
  ·exact aBn h.2.2 c hc
def chs (t:List UInt8):List Int:=if (cD t.length t 0).2=none then fB (cD t.length t 0).1 else []
theorem pU (t:List UInt8):chV t=(chs t).map (⟨2,·⟩):=by
 unfold chV chs
 split
 ·rfl
 ·rfl
theorem aZn (t:List UInt8):∀c∈chs t,isC c=true:=by
 intro c hc
 unfold chs at hc
 split at hc
 ·rename_i h
  exact aBn (mY t.length t 0 (Nat.le_refl _) h).1 c hc
 ·cases hc
theorem aC7 {t:List UInt8}:(chs t).length≤t.length:=by
 unfold chs
 split
 ·unfold fB; rw[List.length_map]; exact rG ..
 ·exact Nat.zero_le _
theorem sN {t:List UInt8}(h:okC t=true):(cD t.length t 0).2=none:=by
 unfold okC at h
 exact Option.isNone_iff_eq_none.1 h
theorem aZo {t u:List UInt8}(ht:okC t=true)(hu:okC u=true)(h:chV t=chV u):t=u:=by
 have h1:=(mY t.length t 0 (Nat.le_refl _) (sN ht)).2
 have h2:=(mY u.length u 0 (Nat.le_refl _) (sN hu)).2
 rw[pU,pU]at h
 have h3:chs t=chs u:=(List.map_inj_right (fun a b e=>by cases e; rfl)).1 h
 unfold chs at h3
 rw[if_pos (sN ht),if_pos (sN hu)]at h3
 rw[←h1,←h2,h3]
theorem aC8 (n:Nat)(t:List UInt8)(ty:Int)(hty:0≤ty∧ty≤7):OkO n ⟨ty,chV t,0⟩:=by
 refine⟨fun v hv=>?_,hty⟩
 rw[pU]at hv
 obtain⟨c,_,rfl⟩:=List.mem_map.1 hv
 exact⟨(fun h=>by simp at h),fun _=>.inr (.inl rfl)⟩
theorem aZp (s:List UInt8)(hl:s.length≤2000000):∃tg e,TM.Pure K 52 [.iv (.str s)] (.tup [.iv (.sl tg (TM.one i64 (chs s))),.iv (.int .i64 e)]):=by
 have h:=aR0 s hl
 unfold chs
 cases hc:(cD s.length s 0).2 with
 | none=>rw[hc]at h; rw[if_pos rfl]; exact⟨_,_,h⟩
 | some p=>rw[hc]at h; rw[if_neg (by simp)]; exact⟨_,_,h⟩
theorem uH (n:Int):TM.Pure K 59 [.iv (.int .i64 n)] (.iv (.int .u32 (w32 (w32 n*4)))):=by
 refine aX t59 rfl rfl ?_
 simp (config := { maxSteps := 4000000 }) (disch:=omega) only[t59,go_sem]
theorem aSx (ad:List Int)(n:Int):w32 (w32 n*4)=wd ad ⟨1,n⟩:=by
 unfold wd
 rw[if_pos rfl,Int.mul_comm]
theorem aSy {c:Int}(h:isC c=true)(ad:List Int):TM.Pure K 56 [.iv (.int .i64 c)] (.iv (.int .u32 (wd ad ⟨2,c⟩))):=by
 have hc:=(kU c).1 h
 have e:IntKind.u32.wrap (bOr 32 (IntKind.u32.wrap (IntKind.u32.wrap c*16)) 2)=wd ad ⟨2,c⟩:=by
  unfold wd w32
  rw[if_neg (by simp),if_pos rfl]
  rw[cC (m:=c) (by omega),cC (m:=c*16) (by omega),cC (m:=16*c) (by omega),cC (m:=16*c+2) (by omega)]
  rw[xF (k:=4) ⟨by omega,by omega⟩ (by decide) ⟨by omega,by omega⟩ (by omega)]
  omega
 refine aX t56 rfl rfl ?_
 simp (config := { maxSteps := 4000000 }) (disch:=omega) only[t56,go_sem,e]
theorem bE1 {n:Int}(h:n=0∨n=1)(ad:List Int):TM.Pure K 53 [.iv (.int .i64 n)] (.iv (.int .u32 (wd ad ⟨3,n⟩))):=by
 refine aX t53 rfl rfl ?_
 rcases h with rfl|rfl
 ·simp (config := { maxSteps := 4000000 }) (disch:=omega) only[t53,go_sem]
  rfl
 ·simp (config := { maxSteps := 4000000 }) (disch:=omega) only[t53,go_sem]
  rfl
theorem LB.of_keep {b:Int}{S S':aA}{j jp:Nat}{Λ:Ly}(h:LB b S j jp Λ)(k:jB [] S S'):LB b S' j jp Λ:=h.keep fun q B hq _=>k.get q B (by simp) hq
theorem KL.of_keep {S S':aA}(k:jB [] S S')(j jp:Nat)(Λ:Ly):KL j jp S S' Λ Λ:=⟨k.len,fun q B hq _ _ _ _=>k.get q B (by simp) hq,fun q h=>by rcases h with h|h; exact .inl h; exact .inr (.inl h)⟩
theorem Gl.row {n0:Nat}{S:aA}{ys:List Int}{jw:Nat}(g:Gl n0 S 1 26 (bC ys) jw)(h0:n0≤S.length)(x:Int)(hl:ys.length≤20000000):∃jw' S',bW false 1 4 26 S (acc jw (bC ys)) (.iv (.sl .full [[.int .u32 x]]))=some (acc jw' (bC (ys++[x])),S')∧Gl n0 S' 1 26 (bC (ys++[x])) jw'∧S.length≤S'.length∧(∀q B,S[q]? = some B→(ys≠[]→q≠jw)→S'[q]? = some B)∧(jw'=jw∧ys≠[]∨S.length≤jw'):=by
 obtain⟨jw',S',ap,gr⟩:=g.more (x:=.iv (.sl .full (bC [x]))) (iH.sl ..) (iB [x]) (iB ys) (b:=4) (cS (by rw[cB,cB,List.length_singleton]; omega)) h0
 rw[←lE]at ap
 have gg:=gr.gl
 rw[←lE]at gg
 refine⟨jw',S',ap,gg,gr.len,fun q B hq hn=>gr.old q B hq fun h=>hn (cX.1 h),?_⟩
 by_cases h:ys=[]
 ·exact .inr (gr.frsh (by rw[h]; rfl) (by simp[bC,TM.one]))
 ·exact .inl ⟨gr.same (cX.2 h),h⟩
theorem Gl.keep0 {S0 S S':aA}{ys:List Int}{jw:Nat}(g:Gl S0.length S 1 26 (bC ys) jw)(hk:jB [] S0 S)(hl:S.length≤S'.length)(ho:∀q B,S[q]? = some B→(ys≠[]→q≠jw)→S'[q]? = some B):jB [] S0 S' :=
 ⟨Nat.le_trans hk.len hl,fun q B hq hb=>ho q B (hk.get q B hq hb) fun hn=>by have:=g.new (cX.2 hn); have:=cM hb; omega⟩
theorem aSz {S0:aA}(ad:List Int)(x0 x1 x2 x5:TV)(tg:Tag)(cs:List Int)(hc:∀c∈cs,isC c=true)(hl:cs.length≤2000000):∀(k i:Nat) (S:aA) (jw:Nat) (done:List Int) (x9 x5:TV),i+k=cs.length→done.length=i→Gl S0.length S 1 26 (bC done) jw→jB [] S0 S →
  ∃S' jw' y5 y9,lp' (lim K) t57L0 [x0,x1,x2,.iv (.sl tg (TM.one i64 cs)),acc jw (bC done),x5,.iv (.sl tg (TM.one i64 cs)),.iv (.int .i64 cs.length),.iv (.int .i64 i),x9] S=.ret (.exit 0,[x0,x1,x2,.iv (.sl tg (TM.one i64 cs)),acc jw' (bC (done++(cs.drop i).map fun c=>wd ad ⟨2,c⟩)),y5,.iv (.sl tg (TM.one i64 cs)),.iv (.int .i64 cs.length),.iv (.int .i64 cs.length),y9],S')∧Gl S0.length S' 1 26 (bC (done++(cs.drop i).map fun c=>wd ad ⟨2,c⟩)) jw'∧jB [] S0 S'
 | 0,i,S,jw,done,x9,x5,h,hd,hg,hk=>by
  obtain rfl:i=cs.length:=by omega
  rw[List.drop_length,List.map_nil,List.append_nil]
  refine⟨S,jw,x5,.iv (.bool false),aG K _ _ t57L0.eq_1 ?_,hg,hk⟩
  simp (config := { maxSteps := 4000000 }) (disch:=omega) only[go_sem]
 | k+1,i,S,jw,done,x9,x5,h,hd,hg,hk=>by
  have hla:i<cs.length:=by omega
  have hix:=iG (f:=i64) (t:=tg) (l:=cs) (i:=(i:Int)) (by omega)
  rw[Int.toNat_natCast,show cs.getD i default=cs[i] by simp[List.getD,List.getElem?_eq_getElem hla]]at hix
  have hdr:cs.drop i=cs[i]::cs.drop (i+1):=List.drop_eq_getElem_cons hla
  have c56:=aSy (hc cs[i] (List.getElem_mem _)) ad
  obtain⟨jw1,S1,ap,hg1,hl1,ho1,_⟩:=hg.row hk.len (wd ad ⟨2,cs[i]⟩) (by omega)
  obtain⟨S',jw',y5,y9,ih,hg',hk'⟩:=aSz (S0:=S0) ad x0 x1 x2 u_ tg cs hc hl k (i+1) S1 jw1 (done++[wd ad ⟨2,cs[i]⟩]) (.iv (.bool true)) (.iv (.int .i64 cs[i])) (by omega) (by simp[hd]) hg1 (hg.keep0 hk hl1 ho1)
  rw[List.append_assoc,List.singleton_append]at ih hg'
  rw[hdr,List.map_cons]
  refine⟨S',jw',y5,y9,aG K _ _ t57L0.eq_1 ?_,hg',hk'⟩
  rw[show ((i+1:Nat):Int)=(i:Int)+1 by omega]at ih
  generalize cs[i]=c at *
  unfold i64 at *
  simp (config := { maxSteps := 4000000 }) (disch:=omega) only[go_sem,hix,aE c56,ap,aB]
  exact congrArg er ih
theorem aS0 {b:Int}{S:aA}{j jp:Nat}{Λ:Ly}(h:LB b S j jp Λ)(t:List UInt8)(ht:t.length≤2000000)(hm:(push b Λ.σ ⟨4,chV t,0⟩).2.mem.length≤10000000) :
  ∃S' jm',(lim K).call 57 [.ptr j 53 0,.iv (.str t)] S=.ret (.iv (.int .u32 (wd (push b Λ.σ ⟨4,chV t,0⟩).2.ad (push b Λ.σ ⟨4,chV t,0⟩).1)),S')∧LB b S' j jp ⟨jm',Λ.jo,(push b Λ.σ ⟨4,chV t,0⟩).2,Λ.l,Λ.c⟩∧KL j jp S S' Λ ⟨jm',Λ.jo,(push b Λ.σ ⟨4,chV t,0⟩).2,Λ.l,Λ.c⟩:=by
 obtain⟨tg,e,c52⟩:=aZp t ht
 have hcl:=aC7 (t:=t)
 obtain⟨S1,jw,y5,y9,l1,hg1,hk1⟩:=aSz (S0:=S) Λ.σ.ad (.ptr j 53 0) (.iv (.str t)) (.iv (.int .u32 0)) u_ tg (chs t) (aZn t) (by omega) (chs t).length 0 S 0 [] u_ u_ (by omega) rfl (Gl.nil ..) (jB.refl [] S)
 rw[List.drop_zero,List.nil_append]at l1 hg1
 rw[show ((0:Nat):Int)=0 from rfl,show bC []=[] from rfl,cQ]at l1
 have ebo:boO Λ.σ.ad ⟨4,chV t,0⟩=(chs t).map fun c=>wd Λ.σ.ad ⟨2,c⟩:=by
  unfold boO prO
  rw[if_neg (by simp),List.nil_append]
  show (chV t).map _=_
  rw[pU,List.map_map]; rfl
 obtain⟨S2,jm',c25,hL,hK⟩:=rK (h.of_keep hk1) (o:=⟨4,chV t,0⟩) (aC8 _ t 4 (by decide)) hm (x:=acc jw (bC ((chs t).map fun c=>wd Λ.σ.ad ⟨2,c⟩))) (fun i=>tZ i jw _) (fun S'=>by rw[bU,cB,ebo]) (fun S' _=>by rw[ebo]; exact yC ..)
 refine⟨S2,jm',aD K _ (fn:=t57) rfl rfl ?_,hL,(KL.of_keep hk1 j jp Λ).trans hK⟩
 have hol:=TM.bJ i64 (chs t)
 simp (config := { maxSteps := 4000000 }) (disch:=omega) only[t57,go_sem,aE c52,hol]
 rw[l1]
 simp (config := { maxSteps := 4000000 }) (disch:=omega) only[go_sem,c25]
theorem aS1 {v:Int}(h0:0≤v):(dg 65536 v).length≤(dg 10 v).length:=by
 refine oD (by decide) _ _ h0 ?_
 have h1:=kL (B:=10) (by decide) (kM (n:=v) (by decide) h0)
 rw[lC (by decide) h0]at h1
 have h2:(10:Int) ^ (dg 10 v).length≤65536 ^ (dg 10 v).length:=by
  generalize (dg 10 v).length=n
  induction n with
  | zero=>simp
  | succ n ih=>rw[Int.pow_succ,Int.pow_succ]; have:=oC (B:=10) (by decide) n; omega
 omega
theorem aZq {s:List UInt8}(h:s.all isD=true):(dg 10 (dec s)).length≤s.length:=by
 have:=kL (B:=10) (by decide) (aC5 h)
 refine oD (by decide) _ _ (jG h) ?_
 rw[List.length_map,List.length_reverse]at this
 exact this
theorem aIw (t:List UInt8):(dg 65536 (zP t).natAbs).length≤t.length∧(dg 10 (zP t).natAbs).length≤t.length:=by
 unfold zP
 split
 ·rename_i hok
  have hall:(body t).all isD=true:=by simp only[okP,Bool.and_eq_true]at hok; exact hok.2
  have h0:=jG hall
  rw[yB _ h0]
  have h1:=aZq hall
  have h2:(body t).length≤t.length:=by simp only[body,List.length_drop]; omega
  have h3:=aS1 h0
  omega
 ·show (dg 65536 0).length≤_∧(dg 10 0).length≤_
  rw[dN,dN]; simp
theorem aZr (t:List UInt8)(hl:t.length≤1000):∃tg e,bP tg (dg 65536 (zP t).natAbs)∧TM.Pure K 54 [.iv (.str t)] (.tup [.iv (bg tg (zP t)),.iv (.int .i64 e)]):=by
 obtain⟨tg,ht,c⟩:=bEv t hl
 unfold zP
 by_cases hok:okP t=true
 ·have hall:(body t).all isD=true:=by simp only[okP,Bool.and_eq_true]at hok; exact hok.2
  have h0:=jG hall
  rw[if_pos hok]at c ⊢
  rw[bEw h0]at c
  exact⟨tg,0,by rw[yB _ h0]; exact ht,c⟩
 ·rw[if_neg hok]at c ⊢
  exact⟨.nil,4,by show bP .nil (dg 65536 0); rw[dN]; exact bP.nil,by
   have e:bg .nil 0=num false .nil []:=by
    unfold bg
    show num (decide ((0:Int)<0)) .nil (dg 65536 0)=_
    rw[dN]; rfl
   rw[e]; exact c⟩
theorem aBo:∀W:List Int,(TM.bS (bC W)).map TV.iv=W.map fun x=>TV.iv (.int .u32 x)
 | []=>rfl
 | a::r=>by
  have:=aBo r
  show TV.iv (.int .u32 a)::(TM.bS (bC r)).map TV.iv=_
  rw[this]; rfl
def wB (v:Nat)(W:List Int):bG:=.cells v true (W.map fun x=>TV.iv (.int .u32 x))
theorem aS2 (W:List Int):TM.sub (W.map fun x=>TV.iv (.int .u32 x)) 0 W.length=some (W.map fun x=>TV.iv (.int .u32 x)):=by
 simp[TM.sub]
 exact List.take_of_length_le (by simp)
theorem bE2 {S:aA}{b v:Nat}{W:List Int}{n:Nat}(hn:n=W.length)(h:S[b]? = some (wB v W)):iH S (.msl b v 0 n n 1) (bC W):=by
 subst hn
 refine⟨?_,by rw[cB]; rfl⟩
 rw[aBo]
 unfold wB at h
 simp only[iP,h,if_true,Nat.mul_one,aS2]
theorem aZs {S:aA}{v:Nat}{W:List Int}{n:Nat}(hn:n=W.length)(h0:n≤1000000)(x:Int) :
  bW false 1 4 26 (S++[wB v W]) (.msl S.length v 0 n n 1) (.iv (.sl .full [[.int .u32 x]]))=some (.msl S.length (v+1) 0 (n+1) (n+1) 1,S++[wB (v+1) (W++[x])]):=by
 subst hn
 have hr:(S++[wB v W])[S.length]? = some (.cells v true (W.map fun x=>TV.iv (.int .u32 x))):=by simp[wB]
 have hs:=aS2 W
 have hro:fQ (W.length+1) 4=true:=cS (by omega)
 have hx:iP (S++[wB v W]) (.iv (.sl .full [[.int .u32 x]]))=some [.iv (.int .u32 x)]:=rfl
 have hl:lenOf (S++[wB v W]) (.iv (.sl .full [[.int .u32 x]]))=some 1:=rfl
 have hset:∀B,(S++[wB v W]).set S.length B=S++[B]:=fun B=>by simp
 have hm:wB (v+1) (W++[x])=.cells (v+1) true (W.map (fun x=>TV.iv (.int .u32 x))++[.iv (.int .u32 x)]):=by unfold wB; rw[List.map_append]; rfl
 rw[hm]
 generalize W.map (fun x=>TV.iv (.int .u32 x))=cs at *
 generalize S++[wB v W]=SS at *
 simp[bW,hx,hl,hr,hs,hro,hset,bO]
theorem aS3 {S0:aA}(x0 x1 x2 x3 x4 x5 x8 x9:TV)(tg:Tag)(ds:List Int)(hd:Dig 65536 ds)(hl:ds.length≤100000):∀(k i v:Nat) (W:List Int) (x7 x13:TV),i+k=ds.length→W.length=i+1 →
  ∃v' y7 y13,lp' (lim K) t55L0 [x0,x1,x2,x3,x4,x5,.msl S0.length v 0 (i+1) (i+1) 1,x7,x8,x9,.iv (.sl tg (TM.one d16 ds)),.iv (.int .i64 ds.length),.iv (.int .i64 i),x13] (S0++[wB v W])=.ret (.exit 0,[x0,x1,x2,x3,x4,x5,.msl S0.length v' 0 (ds.length+1) (ds.length+1) 1,y7,x8,x9,.iv (.sl tg (TM.one d16 ds)),.iv (.int .i64 ds.length),.iv (.int .i64 ds.length),y13],S0++[wB v' (W++(ds.drop i).map (4*·))])
 | 0,i,v,W,x7,x13,h,hw=>by
  obtain rfl:i=ds.length:=by omega
  rw[List.drop_length,List.map_nil,List.append_nil]
  refine⟨v,x7,.iv (.bool false),aG K _ _ t55L0.eq_1 ?_⟩
  simp (config := { maxSteps := 4000000 }) (disch:=omega) only[go_sem]
 | k+1,i,v,W,x7,x13,h,hw=>by
  have hla:i<ds.length:=by omega
  have hix:=iG (f:=d16) (t:=tg) (l:=ds) (i:=(i:Int)) (by omega)
  rw[Int.toNat_natCast,show ds.getD i default=ds[i] by simp[List.getD,List.getElem?_eq_getElem hla]]at hix
  have hdr:ds.drop i=ds[i]::ds.drop (i+1):=List.drop_eq_getElem_cons hla
  have hdi:=hd ds[i] (List.getElem_mem _)
  have c59:=uH ds[i]
  have e4:w32 (w32 ds[i]*4)=4*ds[i]:=by unfold w32; rw[cC (m:=ds[i]) (by omega),cC (by omega)]; omega
  rw[e4]at c59
  have ap:=aZs (S:=S0) (v:=v) hw.symm (by omega) (4*ds[i])
  obtain⟨v',y7,y13,ih⟩:=aS3 (S0:=S0) x0 x1 x2 x3 x4 x5 x8 x9 tg ds hd hl k (i+1) (v+1) (W++[4*ds[i]]) (.iv (d16 ds[i])) (.iv (.bool true)) (by omega) (by simp[hw])
  rw[List.append_assoc,List.singleton_append]at ih
  rw[hdr,List.map_cons]
  refine⟨v',y7,y13,aG K _ _ t55L0.eq_1 ?_⟩
  rw[show ((i+1:Nat):Int)=(i:Int)+1 by omega]at ih
  generalize ds[i]=c at *
  unfold d16 at *
  simp (config := { maxSteps := 4000000 }) (disch:=omega) only[go_sem,hix,aE c59,ap,aB]
  exact congrArg er ih
theorem bE3 {b:Int}{S:aA}{j jp:Nat}{Λ:Ly}(h:LB b S j jp Λ){z:Int}{tg:Tag}(ht:bP tg (dg 65536 z.natAbs))(hl:(dg 65536 z.natAbs).length≤100000)(hm:(oE b z Λ.σ).2.mem.length≤10000000) :
  ∃S' jm',(lim K).call 55 [.ptr j 53 0,.iv (bg tg z)] S=.ret (.iv (.int .u32 (wd (oE b z Λ.σ).2.ad (oE b z Λ.σ).1)),S')∧LB b S' j jp ⟨jm',Λ.jo,(oE b z Λ.σ).2,Λ.l,Λ.c⟩∧KL j jp S S' Λ ⟨jm',Λ.jo,(oE b z Λ.σ).2,Λ.l,Λ.c⟩:=by
 have hdig:Dig 65536 (dg 65536 (z.natAbs:Int)):=kM (by decide) (by omega)
 have c74:=bEx (decide (z<0)) tg (dg 65536 z.natAbs) ht hdig (by omega)
 rw[lC (by decide) (by omega),bDi]at c74
 unfold aZm at c74
 unfold oE at *
 unfold bg num at *
 by_cases hz:-536870912≤z∧z≤536870911
 ·rw[if_pos hz]at hm ⊢
  rw[decide_eq_true hz]at c74
  have c59:=uH z
  rw[aSx Λ.σ.ad z]at c59
  refine⟨S,Λ.jm,aD K _ (fn:=t55) rfl rfl ?_,h,KL.refl ..⟩
  simp (config := { maxSteps := 4000000 }) (disch:=omega) only[t55,go_sem,aE c74,aE c59,if_true]
 ·rw[if_neg hz]at hm ⊢
  rw[decide_eq_false hz]at c74
  have c0:=uH 0
  have c1:=uH 1
  rw[show w32 (w32 0*4)=0 from rfl]at c0
  rw[show w32 (w32 1*4)=4 from rfl]at c1
  have hod:(TM.one d16 (dg 65536 (z.natAbs:Int))).length=(dg 65536 (z.natAbs:Int)).length:=TM.bJ ..
  have h2:(dg 65536 (z.natAbs:Int))≠[]:=by
   rw[ne_eq,aC3 (by decide) (by omega)]; omega
  obtain⟨d0,dr,hds⟩:=List.exists_cons_of_ne_nil h2
  have hd0:=hdig d0 (by rw[hds]; simp)
  have c59:=uH d0
  have e4:w32 (w32 d0*4)=4*d0:=by unfold w32; rw[cC (m:=d0) (by omega),cC (by omega)]; omega
  rw[e4]at c59
  generalize hw0:(if z<0 then (4:Int) else 0)=w0 at *
  have ap0:bW false 1 4 26 (S++[bG.cells 0 false [.iv (.int .u32 w0)]]) (.msl S.length 0 0 1 1 1) (.iv (.sl .full [[.int .u32 (4*d0)]]))=some (.msl (S++[bG.cells 0 false [.iv (.int .u32 w0)]]).length 0 0 2 2 1,S++[bG.cells 0 false [.iv (.int .u32 w0)]]++[wB 0 [w0,4*d0]]):=by
   have hr:(S++[bG.cells 0 false [TV.iv (.int .u32 w0)]])[S.length]? = some (.cells 0 false [.iv (.int .u32 w0)]):=by simp
   have hx:iP (S++[bG.cells 0 false [TV.iv (.int .u32 w0)]]) (.iv (.sl .full [[.int .u32 (4*d0)]]))=some [.iv (.int .u32 (4*d0))]:=rfl
   have hl:lenOf (S++[bG.cells 0 false [TV.iv (.int .u32 w0)]]) (.iv (.sl .full [[.int .u32 (4*d0)]]))=some 1:=rfl
   have hro:fQ 2 4=true:=rfl
   have hm:wB 0 [w0,4*d0]=.cells 0 true [.iv (.int .u32 w0),.iv (.int .u32 (4*d0))]:=rfl
   rw[hm]
   generalize S++[bG.cells 0 false [TV.iv (.int .u32 w0)]]=SS at *
   simp[bW,hx,hl,hr,hro,bO,TM.sub]
  obtain⟨v',y7,y13,l1⟩:=aS3 (S0:=S++[bG.cells 0 false [.iv (.int .u32 w0)]]) (.ptr j 53 0) (.iv (.agg [.bool (decide (z<0)),.sl tg (TM.one d16 (dg 65536 z.natAbs))])) (.lb [.iv (.bool (decide (z<0))),.iv (.sl tg (TM.one d16 (dg 65536 z.natAbs)))]) (.iv (.int .u32 0)) (.iv (.int .i64 0)) (.iv (.bool false)) (.iv (.bool false)) (.iv (.bool (decide (z<0)))) tg (dg 65536 z.natAbs) hdig hl dr.length 1 0 [w0,4*d0] (.iv (d16 d0)) (.iv (.bool true)) (by rw[hds,List.length_cons]; omega) rfl
  rw[show (dg 65536 (z.natAbs:Int)).drop 1=dr by rw[hds]; rfl,List.cons_append,List.singleton_append]at l1
  rw[show ((1:Nat):Int)=0+1 from rfl]at l1
  have hix:indexAddrS 1 (.iv (.sl tg (TM.one d16 (dg 65536 (z.natAbs:Int))))) 0=some (.iv (.cp [d16 d0])):=by rw[hds]; rfl
  have l0:lp' (lim K) t55L0 [.ptr j 53 0,.iv (.agg [.bool (decide (z<0)),.sl tg (TM.one d16 (dg 65536 z.natAbs))]),.lb [.iv (.bool (decide (z<0))),.iv (.sl tg (TM.one d16 (dg 65536 z.natAbs)))],.iv (.int .u32 0),.iv (.int .i64 0),.iv (.bool false),.msl S.length 0 0 1 1 1,u_,.iv (.bool false),.iv (.bool (decide (z<0))),.iv (.sl tg (TM.one d16 (dg 65536 z.natAbs))),.iv (.int .i64 (dg 65536 (z.natAbs:Int)).length),.iv (.int .i64 0),u_] (S++[bG.cells 0 false [.iv (.int .u32 w0)]])=.ret (.exit 0,[.ptr j 53 0,.iv (.agg [.bool (decide (z<0)),.sl tg (TM.one d16 (dg 65536 z.natAbs))]),.lb [.iv (.bool (decide (z<0))),.iv (.sl tg (TM.one d16 (dg 65536 z.natAbs)))],.iv (.int .u32 0),.iv (.int .i64 0),.iv (.bool false),.msl (S++[bG.cells 0 false [.iv (.int .u32 w0)]]).length v' 0 ((dg 65536 (z.natAbs:Int)).length+1) ((dg 65536 (z.natAbs:Int)).length+1) 1,y7,.iv (.bool false),.iv (.bool (decide (z<0))),.iv (.sl tg (TM.one d16 (dg 65536 z.natAbs))),.iv (.int .i64 (dg 65536 (z.natAbs:Int)).length),.iv (.int .i64 (dg 65536 (z.natAbs:Int)).length),y13],S++[bG.cells 0 false [.iv (.int .u32 w0)]]++[wB v' (w0::4*d0::dr.map (4*·))]):=by
   refine aG K _ _ t55L0.eq_1 ?_
   have hlp:(0:Int)<((dg 65536 (z.natAbs:Int)).length:Int):=by rw[hds,List.length_cons]; omega
   unfold d16 at *
   simp (config := { maxSteps := 4000000 }) (disch:=omega) only[go_sem,hix,aE c59,ap0,aB,hlp]
   exact congrArg er l1
  have hdm:4*d0::dr.map (4*·)=(dg 65536 (z.natAbs:Int)).map (4*·):=by rw[hds]; rfl
  rw[hdm]at l0
  have ebo:boO Λ.σ.ad ⟨7,[],z⟩=w0::(dg 65536 z.natAbs).map (4*·):=by
   unfold boO prO
   rw[if_pos rfl]
   simp[hw0]
  have hbl:(boO Λ.σ.ad ⟨7,[],z⟩).length=(dg 65536 z.natAbs).length+1:=by rw[ebo]; simp
  have hjl:=cM h.own
  obtain⟨S2,jm',c25,hL,hK⟩:=rK ((h.app [bG.cells 0 false [.iv (.int .u32 w0)]]).app [wB v' (w0::(dg 65536 z.natAbs).map (4*·))]) (o:=⟨7,[],z⟩) ⟨(fun v hv=>by cases hv),(by show (0:Int)≤7; decide),(by show (7:Int)≤7; decide)⟩ hm (x:=.msl (S++[bG.cells 0 false [.iv (.int .u32 w0)]]).length v' 0 ((dg 65536 z.natAbs).length+1) ((dg 65536 z.natAbs).length+1) 1) (fun i=>rfl) (fun S'=>by rw[hbl]; rfl) (fun S' hk=>by
   rw[ebo]
   refine bE2 (by simp) (hk _ _ (by simp) (by simp; omega) fun hh=>?_)
   have:=cM (h.gm.tok (cX.2 hh.1))
   have:=hh.2
   rw[List.length_append]at this
   omega)
  refine⟨S2,jm',aD K _ (fn:=t55) rfl rfl ?_,hL,((KL.app j jp S Λ _).trans (KL.app j jp _ Λ _)).trans hK⟩
  have hfl:∀q:Int,TM.bS [[TV.iv (.int .u32 q)]]=[TV.iv (.int .u32 q)]:=fun q=>rfl
  have hia:indexAddrS 1 (.msl S.length 0 0 1 1 1) 0=some (.ptr S.length 0 0):=rfl
  have hg0:∀B:bG,(S++[B])[S.length]? = some B:=fun B=>by simp
  have hs0:∀B B':bG,(S++[B]).set S.length B'=S++[B']:=fun B B'=>by simp
  by_cases hn:z<0
  ·rw[if_pos hn]at hw0
   subst hw0
   rw[decide_eq_true hn]at *
   simp (config := { maxSteps := 4000000 }) (disch:=omega) only[t55,go_sem,aE c74,aE c0,aE c1,hod,Bool.false_eq_true,if_false,hia,hfl,hg0,hs0]
   rw[l0]
   simp (config := { maxSteps := 4000000 }) (disch:=omega) only[go_sem,c25]
  ·rw[if_neg hn]at hw0
   subst hw0
   rw[decide_eq_false hn]at *
   simp (config := { maxSteps := 4000000 }) (disch:=omega) only[t55,go_sem,aE c74,aE c0,hod,Bool.false_eq_true,if_false,hfl]
   rw[l0]
   simp (config := { maxSteps := 4000000 }) (disch:=omega) only[go_sem,c25]
def gQ (σ:Sg)(t:List UInt8)(i:Nat):Sg:=⟨σ.L,σ.ad,σ.mem,σ.sy++[(t,i)]⟩
theorem pV {b:Int}{t:List UInt8}{σ:Sg}(h:σ.sy.find? (fun x=>x.1==t)=none) :
  oF b t σ=((push b (push b σ ⟨4,chV t,0⟩).2 ⟨5,[(push b σ ⟨4,chV t,0⟩).1],0⟩).1,gQ (push b (push b σ ⟨4,chV t,0⟩).2 ⟨5,[(push b σ ⟨4,chV t,0⟩).1],0⟩).2 t (push b σ ⟨4,chV t,0⟩).2.L.length):=by
 unfold oF
 rw[h]
 rfl
theorem pW {b:Int}{t:List UInt8}{σ:Sg}{x:List UInt8×Nat}(h:σ.sy.find? (fun x=>x.1==t)=some x):oF b t σ=(⟨7,x.2⟩,σ):=by
 unfold oF
 rw[h]
theorem aMm {b:Int}{t:List UInt8}{σ:Sg}(h:Gd b σ)(hok:okC t=true):Gd b (gQ (push b (push b σ ⟨4,chV t,0⟩).2 ⟨5,[(push b σ ⟨4,chV t,0⟩).1],0⟩).2 t (push b σ ⟨4,chV t,0⟩).2.L.length)∧OkO (push b σ ⟨4,chV t,0⟩).2.L.length ⟨5,[(push b σ ⟨4,chV t,0⟩).1],0⟩:=by
 have h1:=sM h (aC8 σ.L.length t 4 (by decide))
 have ho:OkO (push b σ ⟨4,chV t,0⟩).2.L.length ⟨5,[(push b σ ⟨4,chV t,0⟩).1],0⟩:=⟨fun v hv=>by
  rw[List.mem_singleton]at hv; subst hv; exact fS b σ _,(by show (0:Int)≤5; decide),(by show (5:Int)≤7; decide)⟩
 have h2:=sM h1 ho
 refine⟨⟨h2.al,h2.me,h2.vd,h2.ap,(by
  have h3:=h.sl
  show (σ.sy++[(t,_)]).length≤(σ.L++[_]++[_]).length
  simp only[List.length_append,List.length_singleton]; omega),fun x hx=>?_⟩,ho⟩
 rcases List.mem_append.1 hx with hx|hx
 ·exact h2.sy x hx
 ·rw[List.mem_singleton]at hx
  subst hx
  refine⟨hok,σ.L.length,?_,?_⟩
  ·show ((σ.L++[⟨4,chV t,0⟩])++[⟨5,[⟨7,σ.L.length⟩],0⟩])[(σ.L++[(⟨4,chV t,0⟩:Ob)]).length]? = _
   simp
  ·show ((σ.L++[⟨4,chV t,0⟩])++[⟨5,[⟨7,σ.L.length⟩],0⟩])[σ.L.length]? = _
   simp
theorem aS4 {b:Int}{σ:Sg}(h:Gd b σ)(r:List Int):(σ.sy.map fun x=>wd (σ.ad++r) ⟨7,x.2⟩)=jC σ:=by
 unfold jC
 refine List.map_congr_left fun y hy=>?_
 obtain⟨_,i,h1,h2⟩:=h.sy y hy
 refine uF (v:=⟨7,y.2⟩) (fun _=>?_) (fun h=>absurd rfl h)
 have:=(List.getElem?_eq_some_iff.1 h1).1
 have:=h.al
 show 0≤((y.2:Nat):Int)∧((y.2:Nat):Int)<σ.ad.length
 omega
theorem LB.note {b:Int}{S:aA}{j jp:Nat}{Λ:Ly}(h:LB b S j jp Λ){t:List UInt8}{i:Nat}(hno:Λ.σ.sy.find? (fun x=>x.1==t)=none)(hg:Gd b (gQ Λ.σ t i))(hl:(jC Λ.σ).length≤10000000) :
  ∃jo' S',bW false 1 4 26 (S.set jp (.mp (mpK enS wdV (mW Λ.l Λ.c t (wd Λ.σ.ad ⟨7,i⟩))) (wZ Λ.l Λ.c t))) (acc Λ.jo (bC (jC Λ.σ))) (.iv (.sl .full [[.int .u32 (wd Λ.σ.ad ⟨7,i⟩)]]))=some (acc jo' (bC (jC (gQ Λ.σ t i))),S')∧S'[j]? = some (lyB b jp Λ) ∧
   LB b (S'.set j (lyB b jp ⟨Λ.jm,jo',gQ Λ.σ t i,mW Λ.l Λ.c t (wd Λ.σ.ad ⟨7,i⟩),wZ Λ.l Λ.c t⟩)) j jp ⟨Λ.jm,jo',gQ Λ.σ t i,mW Λ.l Λ.c t (wd Λ.σ.ad ⟨7,i⟩),wZ Λ.l Λ.c t⟩∧KL j jp S (S'.set j (lyB b jp ⟨Λ.jm,jo',gQ Λ.σ t i,mW Λ.l Λ.c t (wd Λ.σ.ad ⟨7,i⟩),wZ Λ.l Λ.c t⟩)) Λ ⟨Λ.jm,jo',gQ Λ.σ t i,mW Λ.l Λ.c t (wd Λ.σ.ad ⟨7,i⟩),wZ Λ.l Λ.c t⟩:=by
 have hnj:=h.nej
 have tk:=h.tkj
 have s1:∀q B,S[q]? = some B→q≠jp→(S.set jp (.mp (mpK enS wdV (mW Λ.l Λ.c t (wd Λ.σ.ad ⟨7,i⟩))) (wZ Λ.l Λ.c t)))[q]? = some B:=fun q B hq hn=>by rw[bV (Ne.symm hn)]; exact hq
 have g1:Gl 0 (S.set jp (.mp (mpK enS wdV (mW Λ.l Λ.c t (wd Λ.σ.ad ⟨7,i⟩))) (wZ Λ.l Λ.c t))) 1 26 (bC (jC Λ.σ)) Λ.jo:=⟨fun hn=>s1 _ _ (h.go.tok hn) (tk _ (.inr ⟨cX.1 hn,rfl⟩)).2,fun _=>Nat.zero_le _⟩
 have mp1:=eI (cM h.mp) (bG.mp (mpK enS wdV (mW Λ.l Λ.c t (wd Λ.σ.ad ⟨7,i⟩))) (wZ Λ.l Λ.c t))
 obtain⟨jo',S',ap,g2,len2,old2,fr2⟩:=g1.row (Nat.zero_le _) (wd Λ.σ.ad ⟨7,i⟩) (by omega)
 rw[List.length_set]at len2 fr2
 have eo:jC (gQ Λ.σ t i)=jC Λ.σ++[wd Λ.σ.ad ⟨7,i⟩]:=by unfold jC gQ; simp
 rw[←eo]at ap g2
 have o1:S'[j]? = some (lyB b jp Λ):=old2 _ _ (s1 _ _ h.own hnj) fun hn e=>(tk _ (.inr ⟨hn,e⟩)).1 rfl
 have kk:∀q B,S[q]? = some B→q≠j→q≠jp→¬TkO Λ q→(S'.set j (lyB b jp ⟨Λ.jm,jo',gQ Λ.σ t i,mW Λ.l Λ.c t (wd Λ.σ.ad ⟨7,i⟩),wZ Λ.l Λ.c t⟩))[q]? = some B:=fun q B hq h1 h2 h3=>by
  rw[bV (Ne.symm h1)]
  exact old2 q B (s1 q B hq h2) fun hn e=>h3 ⟨hn,e⟩
 have hne:bC (jC (gQ Λ.σ t i))≠[]:=by rw[eo]; exact cX.2 (by simp)
 have tj:jo'≠j:=fun e=>by
  have:=g2.tok hne
  rw[e,o1]at this; unfold lyB at this; cases this
 refine⟨jo',S',ap,o1,⟨eI (cM o1) _,⟨fun hn=>?_,fun _=>Nat.zero_le _⟩,⟨fun hn=>by rw[bV (Ne.symm tj)]; exact g2.tok hn,fun _=>Nat.zero_le _⟩,?_,fun q hq hq2=>?_,fun u=>?_,hg,h.b0⟩,⟨by rw[List.length_set]; exact len2,fun q B hq h1 h2 h3 h4=>kk q B hq h1 h2 h4,fun q hq=>?_⟩⟩
 ·have ht:TkM Λ Λ.jm:=⟨cX.1 hn,rfl⟩
  exact kk _ _ (h.gm.tok hn) (tk _ (.inl ht)).1 (tk _ (.inl ht)).2 (h.dis _ ht)
 ·rw[bV hnj]
  exact old2 _ _ mp1 fun hn e=>(tk _ (.inr ⟨hn,e⟩)).2 rfl
 ·have hq1:TkM Λ q:=hq
  have e2:q=jo':=hq2.2
  rcases fr2 with⟨e3,h3⟩|h3
  ·exact h.dis q hq1 ⟨h3,by rw[e2,e3]⟩
  ·have:=cM (h.gm.tok (cX.2 hq1.1))
   have:=hq1.2
   omega
 ·show nQ (mW Λ.l Λ.c t (wd Λ.σ.ad ⟨7,i⟩)) u=((Λ.σ.sy++[(t,i)]).find? fun x=>x.1==u).map fun x=>wd Λ.σ.ad ⟨7,x.2⟩
  rw[aIi,List.find?_append]
  by_cases hu:t=u
  ·subst hu
   rw[if_pos rfl,hno]
   simp
  ·rw[if_neg hu,h.kv u]
   have:([(t,i)].find? fun x=>x.1==u)=none:=by simp[hu]
   rw[this,Option.or_none]
 ·rcases hq with hq|hq
  ·exact .inl hq
  ·rcases fr2 with⟨e3,h3⟩|h3
   ·exact .inr (.inl ⟨h3,by rw[hq.2]; exact e3⟩)
   ·refine .inr (.inr ?_)
    have:q=jo':=hq.2
    omega
theorem bE4 {b:Int}{S:aA}{j jp:Nat}{Λ:Ly}(h:LB b S j jp Λ)(t:List UInt8)(ht:t.length≤2000000)(hok:okC t=true)(hm:(oF b t Λ.σ).2.mem.length≤10000000) :
  ∃S' Λ',(lim K).call 58 [.ptr j 53 0,.iv (.str t)] S=.ret (.iv (.int .u32 (wd (oF b t Λ.σ).2.ad (oF b t Λ.σ).1)),S')∧LB b S' j jp Λ'∧KL j jp S S' Λ Λ'∧Λ'.σ=(oF b t Λ.σ).2:=by
 have lk:=bDc keS wdV Λ.l Λ.c (.agg [.int .u32 0]) true t
 have hol:(jC Λ.σ).length≤10000000:=by
  have h1:=aMk h.gd
  have h2:=(aIu b t Λ.σ).len.1
  unfold jC; rw[List.length_map]; omega
 have ho:=h.own
 have hmp:=h.mp
 cases hf:Λ.σ.sy.find? (fun x=>x.1==t) with
 | some x =>
  rw[pW hf]at hm ⊢
  rw[h.kv t,hf]at lk
  refine⟨S,Λ,aD K _ (fn:=t58) rfl rfl ?_,h,KL.refl ..,rfl⟩
  unfold lyB at ho
  unfold wdV enS at *
  simp only[Option.map_some,if_true]at lk
  simp (config := { maxSteps := 4000000 }) (disch:=omega) only[t58,go_sem,ho,hmp,lk]
 | none =>
  have hg3:=aMm (t:=t) h.gd hok
  rw[pV hf]at hm ⊢
  obtain⟨S1,jm1,c57,hL1,hK1⟩:=aS0 h t ht (Nat.le_trans (LeS.push b (push b Λ.σ ⟨4,chV t,0⟩).2 ⟨5,[(push b Λ.σ ⟨4,chV t,0⟩).1],0⟩).len.1 hm)
  rw[h.kv t,hf]at lk
  have ebo:boO (push b Λ.σ ⟨4,chV t,0⟩).2.ad ⟨5,[(push b Λ.σ ⟨4,chV t,0⟩).1],0⟩=[wd (push b Λ.σ ⟨4,chV t,0⟩).2.ad (push b Λ.σ ⟨4,chV t,0⟩).1]:=by
   unfold boO prO
   rw[if_neg (by simp)]; rfl
  obtain⟨S2,jm2,c25,hL2,hK2⟩:=rK hL1 (o:=⟨5,[(push b Λ.σ ⟨4,chV t,0⟩).1],0⟩) hg3.2 hm (x:=.iv (.sl .full [[.int .u32 (wd (push b Λ.σ ⟨4,chV t,0⟩).2.ad (push b Λ.σ ⟨4,chV t,0⟩).1)]])) (fun i=>rfl) (fun S'=>by rw[ebo]; rfl) (fun S' _=>by rw[ebo]; exact iH.sl ..)
  have hoe:jC (push b (push b Λ.σ ⟨4,chV t,0⟩).2 ⟨5,[(push b Λ.σ ⟨4,chV t,0⟩).1],0⟩).2=jC Λ.σ:=by
   have:=aS4 h.gd ([b+Λ.σ.mem.length]++[b+(push b Λ.σ ⟨4,chV t,0⟩).2.mem.length])
   rw[←List.append_assoc]at this
   exact this
  obtain⟨jo',S3,ap,o3,hL3,hK3⟩:=hL2.note (t:=t) (i:=(push b Λ.σ ⟨4,chV t,0⟩).2.L.length) hf hg3.1 (by show (jC (push b (push b Λ.σ ⟨4,chV t,0⟩).2 _).2).length≤_; rw[hoe]; exact hol)
  have o2:=hL2.own
  have mp2:=hL2.mp
  have up:=fun (env:Env)=>bDd keS wdV Λ.l Λ.c env S2 jp t (x:=wdV (wd (push b (push b Λ.σ ⟨4,chV t,0⟩).2 ⟨5,[(push b Λ.σ ⟨4,chV t,0⟩).1],0⟩).2.ad ⟨7,(push b Λ.σ ⟨4,chV t,0⟩).2.L.length⟩)) _ rfl rfl
  have c25':(lim K).call 25 [.ptr j 53 0,.iv (.int .i64 5),.iv (.sl .full [[.int .u32 (wd (push b Λ.σ ⟨4,chV t,0⟩).2.ad (push b Λ.σ ⟨4,chV t,0⟩).1)]])] S1=.ret (.iv (.int .u32 (wd (push b (push b Λ.σ ⟨4,chV t,0⟩).2 ⟨5,[(push b Λ.σ ⟨4,chV t,0⟩).1],0⟩).2.ad ⟨7,(push b Λ.σ ⟨4,chV t,0⟩).2.L.length⟩)),S2):=c25
  refine⟨_,_,aD K _ (fn:=t58) (r:=(.iv (.int .u32 (wd (push b (push b Λ.σ ⟨4,chV t,0⟩).2 ⟨5,[(push b Λ.σ ⟨4,chV t,0⟩).1],0⟩).2.ad ⟨7,(push b Λ.σ ⟨4,chV t,0⟩).2.L.length⟩)),_)) rfl rfl ?_,hL3,(hK1.trans hK2).trans hK3,rfl⟩
  dsimp only at ap o2 mp2 o3 ⊢
  unfold lyB at *
  dsimp only at ap o2 mp2 o3 ⊢
  generalize hp1:push b Λ.σ ⟨4,chV t,0⟩=p1 at *
  generalize hp2:push b p1.2 ⟨5,[p1.1],0⟩=p2 at *
  have e2:(gQ p2.2 t p1.2.L.length).mem=p2.2.mem:=rfl
  rw[e2]
  have os2:∀B,(S2.set jp B)[j]? = S2[j]? := fun B=>bV (Ne.symm hL2.nej) B
  clear hL1 hK1 hL2 hK2 hL3 hK3 h hg3 hm hol
  unfold wdV enS at *
  simp only[Option.map_none,if_true]at lk
  generalize wd p2.2.ad ⟨7,p1.2.L.length⟩=w2 at *
  generalize wd p1.2.ad p1.1=w1 at *
  simp (config := { maxSteps := 4000000 }) (disch:=omega) only[t58,go_sem,ho,hmp,lk,c57,c25',o2,mp2,up,ap,o3,os2]
mutual
def plF:Dt→Bool
 | .mk k n t g ks p=>!decide (k=5∧n≠0)&&pls ks
def pls:List Dt→Bool
 | []=>true
 | d::ds=>plF d&&pls ds
end
theorem aMn:∀ks:List Dt,pls ks=ks.all plF
 | []=>by rw[pls]; rfl
 | d::ds=>by rw[pls,aMn ds]; rfl
theorem aIx (d:Dt):plF d=(!decide (d.k=5∧d.n≠0)&&d.ks.all plF):=by
 cases d; rw[plF,aMn]; rfl
theorem bE5 {d:Dt}(h:dB d=true)(h6:d.k=6):d.ks.length=2:=by
 by_cases h2:d.ks.length=2
 ·exact h2
 ·rw[iM,if_neg (fun hh=>h2 hh.2),if_neg (by omega)]at h
  simp[lR,h6]at h
theorem sO {d x:Dt}(h:dB d=true)(hx:x∈d.ks):dB x=true:=by
 rw[iM]at h
 split at h
 ·exact List.all_eq_true.1 h x hx
 ·split at h
  ·exact List.all_eq_true.1 h x hx
  ·rw[Bool.and_eq_true,List.isEmpty_iff]at h
   rw[h.1]at hx; cases hx
theorem aS5 (M:Nat)(hM:M≤1048576)(ih:∀d:Dt,d.w≤M→dB d=true→TM.Pure K 23 [.iv (.agg (eX d))] (.iv (.bool (plF d))))(x0:TV)(S:aA):∀(N:Nat),N≤M+1→∀(d:Dt) (x2 x3 x4:TV),d.w≤N→dB d=true →
  ∃j d' r y3 y4,(j=.ret∧r=.iv (.bool false)∧plF d=false∨j=.exit 0∧r=x2∧plF d'=plF d∧d'.w≤d.w∧dB d'=true) ∧
   lp' (lim K) t23L0 [x0,aY2 d,x2,x3,x4] S=.ret (j,[x0,aY2 d',r,y3,y4],S)
 | 0,hN,d,x2,x3,x4,hd,hm0=>by have:=Dt.w_eq d; omega
 | N+1,hN,d,x2,x3,x4,hd,hm0=>by
  have hw:=Dt.w_eq d
  have hl:=Dt.ws_len d.ks
  by_cases h6:d.k=6
  ·obtain⟨a,b,hk⟩:=aCx (bE5 hm0 h6)
   have hab:a.w+b.w+1≤d.w:=by rw[hw,hk,Dt.ws,Dt.ws,Dt.ws]; omega
   have ha:=ih a (by omega) (sO hm0 (by rw[hk]; simp))
   rw[bA]at ha
   have hm:plF d=(plF a&&plF b):=by rw[aIx d,hk]; simp[h6]
   have i0:=ix0 d.g a b
   have i1:=ix1 d.g a b
   rw[←hk]at i0 i1
   cases hma:plF a with
   | false =>
    rw[hma]at ha
    refine⟨.ret,d,.iv (.bool false),?_,?_,.inl ⟨rfl,rfl,by rw[hm,hma,Bool.false_and]⟩,aG K _ _ t23L0.eq_1 ?_⟩
    rotate_left 2
    ·simp (config := { maxSteps := 4000000 }) (disch:=omega) only[go_sem,bB,h6,i0,lQ,aE ha]
     rfl
   | true =>
    rw[hma]at ha
    obtain⟨j,d',r,y3,y4,hj,ih2⟩:=aS5 M hM ih x0 S N (by omega) b x2 (.iv (.bool true)) (.iv (.bool false)) (by omega) (sO hm0 (by rw[hk]; simp))
    refine⟨j,d',r,y3,y4,?_,aG K _ _ t23L0.eq_1 ?_⟩
    ·rw[hm,hma,Bool.true_and]
     rcases hj with h|⟨h1,h2,h3,h4,h5⟩
     ·exact .inl h
     ·exact .inr ⟨h1,h2,h3,by omega,h5⟩
    ·simp (config := { maxSteps := 4000000 }) (disch:=omega) only[go_sem,bB,h6,i0,i1,lQ,aE ha]
     exact congrArg er ih2
  ·refine⟨.exit 0,d,x2,?_,?_,.inr ⟨rfl,rfl,rfl,Nat.le_refl _,hm0⟩,aG K _ _ t23L0.eq_1 ?_⟩
   rotate_left 2
   ·simp (config := { maxSteps := 4000000 }) (disch:=omega) only[go_sem,bB,h6]
    first|done|rfl
theorem aS6:∀(N:Nat),N≤1048576→∀d:Dt,d.w≤N→dB d=true→TM.Pure K 23 [.iv (.agg (eX d))] (.iv (.bool (plF d)))
 | 0,hN,d,hd,hm0=>by have:=Dt.w_eq d; omega
 | N+1,hN,d,hd,hm0=>by
  have ih:=aS6 N (by omega)
  obtain⟨j,d',r,y3,y4,hj,hl⟩:=aS5 N (by omega) ih (.iv (.agg (eX d))) [] (N+1) (by omega) d (.iv (.bool false)) u_ u_ hd hm0
  rcases hj with⟨rfl,rfl,hm⟩|⟨rfl,rfl,hm,hw',hm1⟩
  ·refine bL (S:=[]) (r:=.iv (.bool false)) (aD K _ (fn:=t23) rfl rfl ?_) (by rw[aZ,hm])
   rw[bA]at hl ⊢
   simp (config := { maxSteps := 4000000 }) (disch:=omega) only[t23,go_sem]
   rw[hl]
   simp (config := { maxSteps := 4000000 }) (disch:=omega) only[go_sem]
  ·have hwd:=Dt.w_eq d'
   have hwl:=Dt.ws_len d'.ks
   have h86:∀x∈d'.ks,TM.Pure K 36 [.iv (.agg (eX x))] (.iv (.bool (!plF x))):=by
    intro x hx
    have hc:=ih x (by have:=Dt.kid_lt hx; omega) (sO hm1 hx)
    refine bL (S:=[]) (r:=.iv (.bool (!plF x))) (aD K _ (fn:=t36) rfl rfl ?_) (by rw[aZ])
    rw[bA]at hc ⊢
    simp (config := { maxSteps := 4000000 }) (disch:=omega) only[t36,go_sem,aE hc]
   have h83:=aCw 36 (fun x=>!plF x) d'.g d'.ks (by omega) h86 []
   refine bL (S:=[]) (r:=.iv (.bool (plF d'))) (aD K _ (fn:=t23) rfl rfl ?_) (by rw[aZ,hm])
   rw[bA]at hl ⊢
   rw[aIx d']
   simp (config := { maxSteps := 4000000 }) (disch:=omega) only[t23,go_sem]
   rw[hl]
   by_cases h5:d'.k=5
   ·by_cases h0:d'.n=0
    ·have:decide (d'.k=5∧d'.n≠0)=false:=by simp[h0]
     simp (config := { maxSteps := 4000000 }) (disch:=omega) only[go_sem,h83,sG,this,Bool.not_false,Bool.true_and]
    ·have:decide (d'.k=5∧d'.n≠0)=true:=by simp[h0,h5]
     simp (config := { maxSteps := 4000000 }) (disch:=omega) only[go_sem,this,Bool.not_true,Bool.false_and]
   ·have:decide (d'.k=5∧d'.n≠0)=false:=by simp[h5]
    simp (config := { maxSteps := 4000000 }) (disch:=omega) only[go_sem,h83,sG,this,Bool.not_false,Bool.true_and]
theorem aS7 (d:Dt)(hw:d.ks.length≤1048576)(H:∀x∈d.ks,TM.Pure K 39 [agD x] (.iv (.bool (plF x))))(x0 x4:TV):∀(k i:Nat) (x5 x6:TV),i+k=d.ks.length →
  ∃j y3 y5 y6,(j=.ret∧(d.ks.drop i).all plF=false∨j=.exit 0∧(d.ks.drop i).all plF=true) ∧
   lp' (lim K) t39L0 [x0,lbD d,.iv (.bool false),.iv (.int .i64 (i:Int)),x4,x5,x6] []=.ret (j,[x0,lbD d,.iv (.bool false),y3,x4,y5,y6],[])
 | 0,i,x5,x6,h=>by
  obtain rfl:i=d.ks.length:=by omega
  refine⟨.exit 0,.iv (.int .i64 d.ks.length),.iv (.bool false),x6,.inr ⟨rfl,by rw[List.drop_length]; rfl⟩,aG K _ _ t39L0.eq_1 ?_⟩
  simp (config := { maxSteps := 4000000 }) (disch:=omega) only[go_sem,bB]
 | k+1,i,x5,x6,h=>by
  have hla:i<d.ks.length:=by omega
  have hix:=ixD (g:=d.g) (ks:=d.ks) (i:=(i:Int)) (by omega)
  rw[Int.toNat_natCast]at hix
  have hdr:=sD hla
  have hm:=H _ (gD (i:=i) hla)
  generalize hx:d.ks.getD i default=x at *
  cases hv:plF x with
  | false =>
   rw[hv]at hm
   refine⟨.ret,.iv (.int .i64 i),.iv (.bool true),.iv (.bool true),.inl ⟨rfl,by rw[hdr,List.all_cons,hv,Bool.false_and]⟩,aG K _ _ t39L0.eq_1 ?_⟩
   simp (config := { maxSteps := 4000000 }) (disch:=omega) only[go_sem,bB,hix,lQ,aE hm]
  | true =>
   rw[hv]at hm
   obtain⟨j,y3,y5,y6,hj,ih⟩:=aS7 d hw H x0 x4 k (i+1) (.iv (.bool true)) (.iv (.bool false)) (by omega)
   rw[show ((i+1:Nat):Int)=(i:Int)+1 by omega]at ih
   refine⟨j,y3,y5,y6,by rw[hdr,List.all_cons,hv,Bool.true_and]; exact hj,aG K _ _ t39L0.eq_1 ?_⟩
   simp (config := { maxSteps := 4000000 }) (disch:=omega) only[go_sem,bB,hix,lQ,aE hm,aB]
   exact congrArg er ih
theorem aS8:∀N,N≤1048576→∀d:Dt,d.w≤N→TM.Pure K 39 [agD d] (.iv (.bool (plF d)))
  | 0,hN=>fun d hw=>by have:=Dt.w_eq d; omega
  | N+1,hN=>fun d hw=>by
    have hwd:=Dt.w_eq d
    have hwl:=Dt.ws_len d.ks
    have H:∀y∈d.ks,TM.Pure K 39 [agD y] (.iv (.bool (plF y))):=fun y hy=>aS8 N (by omega) y (by have:=Dt.kid_lt hy; omega)
    rw[aIx]
    by_cases h5:d.k=5∧d.n≠0
    · rw[decide_eq_true h5,Bool.not_true,Bool.false_and]
      obtain⟨h5,hn⟩:=h5
      refine TM.bL (S:=[]) (r:=.iv (.bool false)) (aD K _ (fn:=t39) rfl rfl ?_) (by rw[aZ])
      simp (config := { maxSteps := 4000000 }) (disch:=omega) only[t39,go_sem,h5,hn]
    · rw[decide_eq_false h5,Bool.not_false,Bool.true_and]
      obtain⟨j,y3,y5,y6,hj,l1⟩:=aS7 d (by omega) H (agD d) (.iv (.bool false)) d.ks.length 0 u_ u_ (by omega)
      rw[show ((0:Nat):Int)=0 from rfl]at l1
      rw[List.drop_zero]at hj
      have hc : ¬ d.k = 5 ∨ d.n = 0 := by by_cases h : d.k = 5; · right; exact Classical.not_not.1 fun hn => h5 ⟨h, hn⟩
                                          · exact .inl h
      rcases hj with⟨rfl,hv⟩|⟨rfl,hv⟩
      · rw[hv]
        refine TM.bL (S:=[]) (r:=.iv (.bool false)) (aD K _ (fn:=t39) rfl rfl ?_) (by rw[aZ])
        rcases hc with hc|hc
        · simp (config := { maxSteps := 4000000 }) (disch:=omega) only[t39,go_sem,hc]
          rw[l1]
          simp (config := { maxSteps := 4000000 }) (disch:=omega) only[go_sem]
        · by_cases hk:d.k=5
          · unfold lbD at l1
            rw[hk,hc]at l1
            simp (config := { maxSteps := 4000000 }) (disch:=omega) only[t39,go_sem,hc,hk,bne_self_eq_false]
            rw[l1]
            simp (config := { maxSteps := 4000000 }) (disch:=omega) only[go_sem]
          · simp (config := { maxSteps := 4000000 }) (disch:=omega) only[t39,go_sem,hk]
            rw[l1]
            simp (config := { maxSteps := 4000000 }) (disch:=omega) only[go_sem]
      · rw[hv]
        refine TM.bL (S:=[]) (r:=.iv (.bool true)) (aD K _ (fn:=t39) rfl rfl ?_) (by rw[aZ])
        rcases hc with hc|hc
        · simp (config := { maxSteps := 4000000 }) (disch:=omega) only[t39,go_sem,hc]
          rw[l1]
          simp (config := { maxSteps := 4000000 }) (disch:=omega) only[go_sem]
        · by_cases hk:d.k=5
          · unfold lbD at l1
            rw[hk,hc]at l1
            simp (config := { maxSteps := 4000000 }) (disch:=omega) only[t39,go_sem,hc,hk,bne_self_eq_false]
            rw[l1]
            simp (config := { maxSteps := 4000000 }) (disch:=omega) only[go_sem]
          · simp (config := { maxSteps := 4000000 }) (disch:=omega) only[t39,go_sem,hk]
            rw[l1]
            simp (config := { maxSteps := 4000000 }) (disch:=omega) only[go_sem]
theorem aS9 (x0 x3:TV):∀(n:Nat) (d:Dt) (done:List Dt) (x4:TV),d.w≤n→done.length+d.w≤1048576 →
  ∃y4 S',lp' (lim K) t12L0 [x0,lbD d,acc 0 (done.map eX),x3,x4] (gV 5 37 (done.map eX))=.ret (.exit 0,[x0,lbD (bR n d).2,acc 0 ((done++(bR n d).1).map eX),x3,y4],S')
 | 0,d,done,x4,h,hl=>by have:=Dt.w_eq d; omega
 | n+1,d,done,x4,h,hl=>by
  have c31:=aYz d (gV 5 37 (done.map eX))
  by_cases hp:d.pr=true
  ·have h2:=rH hp
   have m0:=Dt.kid_lt (gD (l:=d.ks) (i:=0) (by omega))
   have m1:=Dt.kid_lt (gD (l:=d.ks) (i:=1) (by omega))
   have hx:=ixD (g:=d.g) (ks:=d.ks) (i:=0) (by omega)
   have hx1:=ixD (g:=d.g) (ks:=d.ks) (i:=1) (by omega)
   rw[Int.toNat_zero]at hx
   rw[show (1:Int).toNat=1 from rfl]at hx1
   rw[bR,if_pos hp]
   rw[hp]at c31
   generalize d.ks.getD 0 default=u at *
   generalize d.ks.getD 1 default=u1 at *
   obtain⟨x5',S',ih⟩:=aS9 x0 x3 n u1 (done++[u]) (.iv (.bool true)) (by omega) (by simp only[List.length_append,List.length_cons,List.length_nil]; omega)
   have ha:=jX (w:=5) (b:=64) (el:=37) (t:=.full) (xB u) (eT.map xB done) (cS (by rw[List.length_map]; omega))
   have em:(done++[u]).map eX=done.map eX++[eX u]:=by simp
   rw[em,List.append_assoc]at ih
   refine⟨x5',S',aG K _ _ t12L0.eq_1 ?_⟩
   rw[bA u]at ha ih
   simp (config := { maxSteps := 4000000 }) (disch:=omega) only[go_sem,bB,c31,hx,hx1,lQ,ha,fD,eB]
   exact congrArg er ih
  ·rw[bR,if_neg hp,List.append_nil]
   rw[Bool.not_eq_true]at hp
   rw[hp]at c31
   refine⟨.iv (.bool false),gV 5 37 (done.map eX),aG K _ _ t12L0.eq_1 ?_⟩
   simp (config := { maxSteps := 4000000 }) (disch:=omega) only[go_sem,c31]
theorem bE6 (n:Nat)(d:Dt)(hn:d.w≤n)(hd:d.w≤1048576):Pure K 12 [agD d] (.tup [.iv (.sl (eM (bR n d).1) (bT (bR n d).1)),agD (bR n d).2]):=by
 obtain⟨x4',S',e⟩:=aS9 (agD d) (.lb [.iv (.int .i64 0),.iv (.int .i64 0),.iv (.str []),.iv (.sl .nil []),.iv (.int .i64 0)]) n d [] u_ hn (by simp only[List.length_nil]; omega)
 rw[List.map_nil,cQ,eU,List.nil_append]at e
 rw[jF]
 generalize bR n d=q at *
 obtain⟨q1,q2⟩:=q
 refine aX t12 rfl rfl ?_
 simp only at e ⊢
 simp (config := { maxSteps := 4000000 }) (disch:=omega) only[t12,go_sem]
 rw[e]
 simp (config := { maxSteps := 4000000 }) (disch:=omega) only[go_sem,jA,fD,eB]
def mH (b:Int)(n:Nat)(d:Dt):Prop:=∀(S:aA) (j jp:Nat) (Λ:Ly),LB b S j jp Λ→(eP b n d Λ.σ).2.mem.length≤10000000 →
 ∃S' Λ',(lim K).call 37 [.ptr j 53 0,.iv (.agg (eX d))] S=.ret (.iv (.int .u32 (wd (eP b n d Λ.σ).2.ad (eP b n d Λ.σ).1)),S')∧LB b S' j jp Λ'∧KL j jp S S' Λ Λ'∧Λ'.σ=(eP b n d Λ.σ).2∧OkV (eP b n d Λ.σ).2.L.length (eP b n d Λ.σ).1
theorem LB.notok {b:Int}{S:aA}{j jp:Nat}{Λ:Ly}(h:LB b S j jp Λ){q:Nat}{B:bG}(hq:S[q]? = some B)(ht:∀n,B≠.tok n 1 26):¬TkM Λ q∧¬TkO Λ q:=by
 refine⟨fun hh=>?_,fun hh=>?_⟩
 ·have h1:=h.gm.tok (cX.2 hh.1)
  rw[←hh.2,hq]at h1; cases h1; exact ht _ rfl
 ·have h1:=h.go.tok (cX.2 hh.1)
  rw[←hh.2,hq]at h1; cases h1; exact ht _ rfl
theorem pX {b:Int}{σ τ:Sg}(h:Gd b σ)(l:LeS σ τ){xs:List Vv}(hx:∀v∈xs,OkV σ.L.length v):xs.map (wd τ.ad)=xs.map (wd σ.ad):=by
 obtain⟨r,hr⟩:=l.ad
 rw[hr]
 exact List.map_congr_left fun v hv=>uF (by rw[h.al]; exact (hx v hv).1) (hx v hv).2
theorem aTa {b:Int}(x0 x1:TV)(j jp:Nat){g:Tag}{ks:List Dt}(hks:∀f d,d∈ks→2*d.w≤f→mH b f d)(hl:ks.length≤1048576):∀(k i f:Nat) (S:aA) (Λ:Ly) (jw:Nat) (done:List Vv) (x3 x7:TV),i+k=ks.length→2*Dt.ws (ks.drop i)+1≤f→LB b S j jp Λ→Gl 0 S 1 26 (bC (done.map (wd Λ.σ.ad))) jw→(done≠[]→¬TkM Λ jw∧¬TkO Λ jw)→(∀v∈done,OkV Λ.σ.L.length v)→done.length≤i→(cF b f (ks.drop i) Λ.σ).2.mem.length≤10000000 →
  ∃S' Λ' jw' y3 y7,lp' (lim K) t24L0 [.ptr j 53 0,x1,acc jw (bC (done.map (wd Λ.σ.ad))),x3,.iv (.sl g (bT ks)),.iv (.int .i64 ks.length),.iv (.int .i64 i),x7] S=.ret (.exit 0,[.ptr j 53 0,x1,acc jw' (bC ((done++(cF b f (ks.drop i) Λ.σ).1).map (wd (cF b f (ks.drop i) Λ.σ).2.ad))),y3,.iv (.sl g (bT ks)),.iv (.int .i64 ks.length),.iv (.int .i64 ks.length),y7],S')∧LB b S' j jp Λ'∧(∀S0 Λ0,KL j jp S0 S Λ0 Λ→(done≠[]→S0.length≤jw)→KL j jp S0 S' Λ0 Λ')∧Λ'.σ=(cF b f (ks.drop i) Λ.σ).2∧(∀v∈done++(cF b f (ks.drop i) Λ.σ).1,OkV (cF b f (ks.drop i) Λ.σ).2.L.length v)
 | 0,i,f,S,Λ,jw,done,x3,x7,h,hf,hL,hg,hd,hv,hdl,hm=>by
  obtain rfl:i=ks.length:=by omega
  rw[List.drop_length]at *
  have e:cF b f [] Λ.σ=([],Λ.σ):=by cases f<;>rw[cF]
  rw[e,List.append_nil]
  have hle:=bB ks
  refine⟨S,Λ,jw,x3,.iv (.bool false),aG K _ _ t24L0.eq_1 ?_,hL,fun S0 Λ0 hk _=>hk,rfl,hv⟩
  simp (config := { maxSteps := 4000000 }) (disch:=omega) only[go_sem,hle]
 | k+1,i,f,S,Λ,jw,done,x3,x7,h,hf,hL,hg,hd,hv,hdl,hm=>by
  have hla:i<ks.length:=by omega
  have hle:=bB ks
  have hdr:ks.drop i=ks[i]::ks.drop (i+1):=List.drop_eq_getElem_cons hla
  rw[hdr,Dt.ws]at hf
  obtain⟨f,rfl⟩:∃q,f=q+1:=⟨f-1,by omega⟩
  have hwi:=Dt.w_eq ks[i]
  rw[hdr,cF]at hm ⊢
  dsimp only at hm ⊢
  obtain⟨S1,Λ1,c37,hL1,hK1,hσ1,hv1⟩:=hks f ks[i] (List.getElem_mem _) (by omega) S j jp Λ hL (Nat.le_trans (sL b f _ _).len.1 hm)
  have hle1:=oH b f ks[i] Λ.σ
  have hwe:=pX hL.gd hle1 hv
  -- the row stands
  have hg1:Gl 0 S1 1 26 (bC (done.map (wd Λ.σ.ad))) jw:=⟨fun hn=>by
   have hd':=hd fun e=>hn (by rw[e]; rfl)
   have ht:=hg.tok hn
   have hj:jw≠j∧jw≠jp:=by
    refine⟨fun e=>?_,fun e=>?_⟩
    ·rw[e,hL.own]at ht; unfold lyB at ht; cases ht
    ·rw[e,hL.mp]at ht; cases ht
   exact hK1.old _ _ ht hj.1 hj.2 hd'.1 hd'.2,fun _=>Nat.zero_le _⟩
  obtain⟨jw2,S2,ap,hg2,hl2,ho2,hn2⟩:=hg1.row (Nat.zero_le _) (wd (eP b f ks[i] Λ.σ).2.ad (eP b f ks[i] Λ.σ).1) (by rw[List.length_map]; omega)
  have hst:done.map (wd Λ.σ.ad)++[wd (eP b f ks[i] Λ.σ).2.ad (eP b f ks[i] Λ.σ).1]=(done++[(eP b f ks[i] Λ.σ).1]).map (wd Λ1.σ.ad):=by
   rw[hσ1,List.map_append,hwe]; rfl
  rw[hst]at ap hg2
  have nt1:done≠[]→¬TkM Λ1 jw∧¬TkO Λ1 jw:=fun hn=>by
   have hd':=hd hn
   have hlt:=cM (hg.tok (cX.2 (by simpa using hn)))
   refine⟨fun hh=>?_,fun hh=>?_⟩
   ·rcases hK1.new _ (.inl hh) with h3|h3|h3
    ·exact hd'.1 h3
    ·exact hd'.2 h3
    ·omega
   ·rcases hK1.new _ (.inr hh) with h3|h3|h3
    ·exact hd'.1 h3
    ·exact hd'.2 h3
    ·omega
  have tlt:∀q,TkM Λ1 q∨TkO Λ1 q→q<S1.length:=fun q hq=>by
   rcases hq with hq|hq
   ·rw[hq.2]; exact cM (hL1.gm.tok (cX.2 hq.1))
   ·rw[hq.2]; exact cM (hL1.go.tok (cX.2 hq.1))
  have hL2:LB b S2 j jp Λ1:=hL1.keep fun q B hq hh=>ho2 q B hq fun hn e=>by
   have hn':done≠[]:=fun e0=>hn (by rw[e0]; rfl)
   have ht:=hg1.tok (cX.2 hn)
   rcases hh with h3|h3|h3|h3
   ·rw[←e,h3,hL1.own]at ht; unfold lyB at ht; cases ht
   ·rw[←e,h3,hL1.mp]at ht; cases ht
   ·exact (nt1 hn').1 (e▸h3)
   ·exact (nt1 hn').2 (e▸h3)
  have nt2:¬TkM Λ1 jw2∧¬TkO Λ1 jw2:=by
   rcases hn2 with⟨e1,hn⟩|hn
   ·rw[e1]; exact nt1 fun e0=>hn (by rw[e0]; rfl)
   ·exact⟨fun hh=>by have:=tlt _ (.inl hh); omega,fun hh=>by have:=tlt _ (.inr hh); omega⟩
  have hix:=ixD (g:=g) (ks:=ks) (i:=(i:Int)) (by omega)
  have hgd:ks.getD i default=ks[i]:=by simp[List.getD,List.getElem?_eq_getElem hla]
  rw[Int.toNat_natCast,hgd]at hix
  rw[←hσ1]at hm hv1 ⊢
  obtain⟨S',Λ',jw',y3,y7,ih,hL',hK',hσ',hv'⟩:=aTa x0 x1 j jp (g:=g) hks hl k (i+1) f S2 Λ1 jw2 (done++[(eP b f ks[i] Λ.σ).1]) (lbD ks[i]) (.iv (.bool true)) (by omega) (by omega) hL2 hg2 (fun _=>nt2) (fun v hv2=>by
   rcases List.mem_append.1 hv2 with hv2|hv2
   ·exact (hv v hv2).mono (by rw[hσ1]; exact hle1.len.2)
   ·rw[List.mem_singleton]at hv2; subst hv2; exact hv1) (by rw[List.length_append,List.length_singleton]; omega) hm
  rw[List.append_assoc,List.singleton_append]at ih hv'
  rw[show ((i+1:Nat):Int)=(i:Int)+1 by omega]at ih
  refine⟨S',Λ',jw',y3,y7,aG K _ _ t24L0.eq_1 ?_,hL',fun S0 Λ0 hk0 hj0=>hK' S0 Λ0 ?_ ?_,hσ',hv'⟩
  ·rw[hσ1]at ap
   have hx:(eP b f ks[i] Λ.σ).2.ad=Λ1.σ.ad:=by rw[hσ1]
   rw[hx]at c37 ap
   generalize ks[i]=d at *
   rw[bA d]at c37 hix
   simp (config := { maxSteps := 4000000 }) (disch:=omega) only[go_sem,hle,hix,sC,c37,ap,aB,fD,eB]
   exact congrArg er ih
  ·have h1:=hk0.trans hK1
   exact⟨Nat.le_trans h1.len hl2,fun q B hq a1 a2 a3 a4=>ho2 q B (h1.old q B hq a1 a2 a3 a4) fun hn e=>by
    have:=hj0 fun e0=>hn (by rw[e0]; rfl)
    have:=cM hq
    omega,h1.new⟩
  ·intro _
   rcases hn2 with⟨e1,hn⟩|hn
   ·rw[e1]; exact hj0 fun e0=>hn (by rw[e0]; rfl)
   ·exact Nat.le_trans (hk0.trans hK1).len hn
theorem aIy {b:Int}{ks:List Dt}(hks:∀f d,d∈ks→2*d.w≤f→mH b f d)(hl:ks.length≤1048576){f:Nat}(hf:2*Dt.ws ks+1≤f)(g:Tag){S:aA}{j jp:Nat}{Λ:Ly}(h:LB b S j jp Λ)(hm:(cF b f ks Λ.σ).2.mem.length≤10000000) :
  ∃S' Λ' jw,(lim K).call 24 [.ptr j 53 0,.iv (.sl g (bT ks))] S=.ret (acc jw (bC ((cF b f ks Λ.σ).1.map (wd (cF b f ks Λ.σ).2.ad))),S')∧LB b S' j jp Λ'∧KL j jp S S' Λ Λ'∧Λ'.σ=(cF b f ks Λ.σ).2∧∀v∈(cF b f ks Λ.σ).1,OkV (cF b f ks Λ.σ).2.L.length v:=by
 have hle:=bB ks
 obtain⟨S',Λ',jw',y3,y7,l1,hL',hK',hσ',hv'⟩:=aTa u_ (.iv (.sl g (bT ks))) j jp (g:=g) hks hl ks.length 0 f S Λ 0 [] u_ u_ (by omega) (by rw[List.drop_zero]; exact hf) h (Gl.nil ..) (fun h=>absurd rfl h) (fun v hv=>by cases hv) (Nat.le_refl _) (by rw[List.drop_zero]; exact hm)
 rw[List.drop_zero,List.nil_append]at l1 hv'
 rw[List.drop_zero]at hσ'
 rw[show ((0:Nat):Int)=0 from rfl,List.map_nil,show bC []=[] from rfl,cQ]at l1
 refine⟨S',Λ',jw',aD K _ (fn:=t24) rfl rfl ?_,hL',hK' S Λ (KL.refl ..) (fun h=>absurd rfl h),hσ',hv'⟩
 simp (config := { maxSteps := 4000000 }) (disch:=omega) only[t24,go_sem,hle]
 rw[l1]
 simp (config := { maxSteps := 4000000 }) (disch:=omega) only[go_sem,aAr]
theorem gN0 (S:aA)(a:bG)(r:aA):(S++a::r)[S.length]? = some a:=by simp
theorem sN0 (S:aA)(a x:bG)(r:aA):(S++a::r).set S.length x=S++x::r:=by rw[List.set_append_right _ _ (Nat.le_refl _)]; simp
attribute [go_sem] gN0 sN0
def bxB (j:Nat):bG:=.cells 50 false [.ptr j 53 0]
theorem aNy {b:Int}{n:Nat}{d:Dt}(hm0:dB d=true)(hk:d.k=1∨d.k=3∨d.k=9∨d.k=10∨d.k=0):mH b (n+1) d:=by
 intro S j jp Λ h hm
 have hks:d.ks.isEmpty=true∧lR d=true:=by
  rw[iM,if_neg (by omega),if_neg (by omega),Bool.and_eq_true]at hm0
  exact hm0
 have hL:=h.app [bxB j]
 have hKL:=KL.app j jp S Λ [bxB j]
 rw[eP]at hm ⊢
 rcases hk with hk|hk|hk|hk|hk
 ·have hn:d.n=0∨d.n=1:=by have:=hks.2; unfold lR at this; simpa[hk] using this
  have c53:=bE1 hn Λ.σ.ad
  rw[if_pos hk]
  refine⟨S++[bxB j],Λ,aD K _ (fn:=t37) rfl rfl ?_,hL,hKL,rfl,⟨(fun h=>by simp at h),fun _=>by simp⟩⟩
  rw[bA]
  unfold bxB
  simp (config := { maxSteps := 4000000 }) (disch:=omega) only[t37,go_sem,hk,aE c53]
 ·have hn:isC d.n=true:=by have:=hks.2; unfold lR at this; simpa[hk] using this
  have c56:=aSy hn Λ.σ.ad
  rw[if_neg (by omega),if_neg (by omega),if_pos hk]
  refine⟨S++[bxB j],Λ,aD K _ (fn:=t37) rfl rfl ?_,hL,hKL,rfl,⟨(fun h=>by simp at h),fun _=>by simp⟩⟩
  rw[bA]
  unfold bxB
  simp (config := { maxSteps := 4000000 }) (disch:=omega) only[t37,go_sem,hk,aE c56]
 ·rw[if_neg (by omega),if_neg (by omega),if_neg (by omega),if_neg (by omega),if_neg (by omega),if_neg (by omega),if_neg (by omega),if_neg (by omega),if_pos hk]
  refine⟨S++[bxB j],Λ,aD K _ (fn:=t37) rfl rfl ?_,hL,hKL,rfl,⟨(fun h=>by simp at h),fun _=>by simp⟩⟩
  rw[bA,show wd Λ.σ.ad ⟨5,0⟩=54 from rfl]
  unfold bxB
  simp (config := { maxSteps := 4000000 }) (disch:=omega) only[t37,go_sem,hk]
 ·rw[if_neg (by omega),if_neg (by omega),if_neg (by omega),if_neg (by omega),if_neg (by omega),if_neg (by omega),if_neg (by omega),if_neg (by omega),if_neg (by omega),if_pos hk]
  refine⟨S++[bxB j],Λ,aD K _ (fn:=t37) rfl rfl ?_,hL,hKL,rfl,⟨(fun h=>by simp at h),fun _=>by simp⟩⟩
  rw[bA,show wd Λ.σ.ad ⟨6,0⟩=70 from rfl]
  unfold bxB
  simp (config := { maxSteps := 4000000 }) (disch:=omega) only[t37,go_sem,hk]
 ·rw[if_neg (by omega),if_neg (by omega),if_neg (by omega),if_neg (by omega),if_neg (by omega),if_neg (by omega),if_neg (by omega),if_neg (by omega),if_neg (by omega),if_neg (by omega)]
  refine⟨S++[bxB j],Λ,aD K _ (fn:=t37) rfl rfl ?_,hL,hKL,rfl,⟨(fun h=>by simp at h),fun _=>by simp⟩⟩
  rw[bA,show wd Λ.σ.ad ⟨4,0⟩=38 from rfl]
  unfold bxB
  simp (config := { maxSteps := 4000000 }) (disch:=omega) only[t37,go_sem,hk]
theorem aZt {b:Int}{n:Nat}{d:Dt}(hw:d.w≤1000)(hk:d.k=2):mH b (n+1) d:=by
 intro S j jp Λ h hm
 have hww:=Dt.w_eq d
 obtain⟨tg,e,ht,c54⟩:=aZr d.t (by omega)
 have hz:=aIw d.t
 rw[eP,if_neg (by omega),if_pos hk]at hm ⊢
 obtain⟨S',jm',c55,hL',hK'⟩:=bE3 (h.app [bxB j]) ht (by omega) hm
 refine⟨S',_,aD K _ (fn:=t37) rfl rfl ?_,hL',(KL.app j jp S Λ [bxB j]).trans hK',rfl,?_⟩
 ·rw[bA]
  unfold bxB bg num at *
  simp (config := { maxSteps := 4000000 }) (disch:=omega) only[t37,go_sem,hk,aE c54,c55,fD,eB]
 ·unfold oE
  split
  ·exact⟨(fun h=>by simp at h),fun _=>by simp⟩
  ·exact fS ..
theorem aZu {b:Int}{n:Nat}{d:Dt}(hw:d.w≤1000)(hk:d.k=4):mH b (n+1) d:=by
 intro S j jp Λ h hm
 have hww:=Dt.w_eq d
 rw[eP,if_neg (by omega),if_neg (by omega),if_neg (by omega),if_pos hk]at hm ⊢
 obtain⟨S',jm',c57,hL',hK'⟩:=aS0 (h.app [bxB j]) d.t (by omega) hm
 refine⟨S',_,aD K _ (fn:=t37) rfl rfl ?_,hL',(KL.app j jp S Λ [bxB j]).trans hK',rfl,fS ..⟩
 rw[bA]
 unfold bxB at *
 simp (config := { maxSteps := 4000000 }) (disch:=omega) only[t37,go_sem,hk,c57]
theorem aTb {b:Int}{t:List UInt8}{σ:Sg}(h:Gd b σ):OkV (oF b t σ).2.L.length (oF b t σ).1:=by
 cases hf:σ.sy.find? (fun x=>x.1==t) with
 | some x =>
  rw[pW hf]
  obtain⟨_,i,h1,h2⟩:=h.sy x (List.mem_of_find?_eq_some hf)
  have:=(List.getElem?_eq_some_iff.1 h1).1
  refine⟨fun _=>?_,fun h=>absurd rfl h⟩
  show 0≤((x.2:Nat):Int)∧((x.2:Nat):Int)<σ.L.length
  omega
 | none =>
  rw[pV hf]
  exact fS b _ _
theorem aZv {b:Int}{n:Nat}{d:Dt}(hw:d.w≤1000)(hm0:dB d=true)(hk:d.k=5):mH b (n+1) d:=by
 intro S j jp Λ h hm
 have hww:=Dt.w_eq d
 have hok:okC d.t=true:=by
  rw[iM,if_neg (by omega),if_neg (by omega),Bool.and_eq_true]at hm0
  have:=hm0.2; unfold lR at this
  simp[hk]at this
  exact this.1
 rw[eP,if_neg (by omega),if_neg (by omega),if_neg (by omega),if_neg (by omega),if_pos hk]at hm ⊢
 obtain⟨S',Λ',c58,hL',hK',hσ'⟩:=bE4 (h.app [bxB j]) d.t (by omega) hok hm
 refine⟨S',Λ',aD K _ (fn:=t37) rfl rfl ?_,hL',(KL.app j jp S Λ [bxB j]).trans hK',hσ',aTb h.gd⟩
 rw[bA]
 unfold bxB at *
 simp (config := { maxSteps := 4000000 }) (disch:=omega) only[t37,go_sem,hk,c58]
theorem bIc {tg:Tag}{t:List UInt8}{i:Nat}(h:i<t.length):indexAddrS 1 (.iv (.sl tg (aN t))) (i:Int)=some (.iv (.cp [.int .u8 t[i].toNat])):=by
 have he:(aN t)[i]? = some [.int .u8 t[i].toNat]:=by unfold aN; rw[List.getElem?_map,List.getElem?_eq_getElem h]; rfl
 exact aNl (by omega) (by rw[Int.toNat_natCast]; exact he) rfl
theorem aTc {S0:aA}(ad:List Int)(x0 x1 x2 x3 x4 x5 x8 x9 x10 x11 x12 x13 x14 x15 x16 x17 x18 x19 x24 x25 x26 x27 x28 x29 x30:TV)(tg:Tag)(t:List UInt8)(hl:t.length≤1000000):∀(k i:Nat) (S:aA) (jw:Nat) (done:List Int) (x7 x23:TV),i+k=t.length→done.length=i→Gl S0.length S 1 26 (bC done) jw→jB [] S0 S →
  ∃S' jw' y7 y23,lp' (lim K) t37L0 [x0,x1,x2,x3,x4,x5,acc jw (bC done),x7,x8,x9,x10,x11,x12,x13,x14,x15,x16,x17,x18,x19,.iv (.sl tg (aN t)),.iv (.int .i64 t.length),.iv (.int .i64 i),x23,x24,x25,x26,x27,x28,x29,x30] S=.ret (.exit 1,[x0,x1,x2,x3,x4,x5,acc jw' (bC (done++(t.drop i).map fun c=>wd ad ⟨1,c.toNat⟩)),y7,x8,x9,x10,x11,x12,x13,x14,x15,x16,x17,x18,x19,.iv (.sl tg (aN t)),.iv (.int .i64 t.length),.iv (.int .i64 t.length),y23,x24,x25,x26,x27,x28,x29,x30],S')∧Gl S0.length S' 1 26 (bC (done++(t.drop i).map fun c=>wd ad ⟨1,c.toNat⟩)) jw'∧jB [] S0 S'
 | 0,i,S,jw,done,x7,x23,h,hd,hg,hk=>by
  obtain rfl:i=t.length:=by omega
  rw[List.drop_length,List.map_nil,List.append_nil]
  refine⟨S,jw,x7,.iv (.bool false),aG K _ _ t37L0.eq_1 ?_,hg,hk⟩
  simp (config := { maxSteps := 4000000 }) (disch:=omega) only[go_sem]
 | k+1,i,S,jw,done,x7,x23,h,hd,hg,hk=>by
  have hla:i<t.length:=by omega
  have hix:=bIc (tg:=tg) hla
  have hdr:t.drop i=t[i]::t.drop (i+1):=List.drop_eq_getElem_cons hla
  have hb:t[i].toNat<256:=t[i].toNat_lt
  have c59:=uH (t[i].toNat:Int)
  rw[aSx ad]at c59
  obtain⟨jw1,S1,ap,hg1,hl1,ho1,_⟩:=hg.row hk.len (wd ad ⟨1,t[i].toNat⟩) (by omega)
  obtain⟨S',jw',y7,y23,ih,hg',hk'⟩:=aTc (S0:=S0) ad x0 x1 x2 x3 x4 x5 x8 x9 x10 x11 x12 x13 x14 x15 x16 x17 x18 x19 x24 x25 x26 x27 x28 x29 x30 tg t hl k (i+1) S1 jw1 (done++[wd ad ⟨1,t[i].toNat⟩]) (.iv (.int .u8 t[i].toNat)) (.iv (.bool true)) (by omega) (by simp[hd]) hg1 (hg.keep0 hk hl1 ho1)
  rw[List.append_assoc,List.singleton_append]at ih hg'
  rw[hdr,List.map_cons]
  refine⟨S',jw',y7,y23,aG K _ _ t37L0.eq_1 ?_,hg',hk'⟩
  rw[show ((i+1:Nat):Int)=(i:Int)+1 by omega]at ih
  generalize t[i].toNat=c at *
  simp (config := { maxSteps := 4000000 }) (disch:=omega) only[go_sem,hix,aE c59,ap,aB]
  exact congrArg er ih
theorem aNz {b:Int}{n:Nat}{d:Dt}(hw:d.w≤1000)(hk:d.k=8):mH b (n+1) d:=by
 intro S j jp Λ h hm
 have hww:=Dt.w_eq d
 rw[eP,if_neg (by omega),if_neg (by omega),if_neg (by omega),if_neg (by omega),if_neg (by omega),if_pos hk]at hm ⊢
 have ebo:boO Λ.σ.ad ⟨6,d.t.map fun c=>⟨1,c.toNat⟩,0⟩=d.t.map fun c=>wd Λ.σ.ad ⟨1,c.toNat⟩:=by
  unfold boO prO
  rw[if_neg (by simp),List.nil_append,List.map_map]; rfl
 have hok:OkO Λ.σ.L.length ⟨6,d.t.map fun c=>⟨1,c.toNat⟩,0⟩:=⟨fun v hv=>by
  obtain⟨c,_,rfl⟩:=List.mem_map.1 hv
  exact⟨(fun h=>by simp at h),fun _=>.inl rfl⟩,(by show (0:Int)≤6; decide),(by show (6:Int)≤7; decide)⟩
 obtain⟨S1,jw,y7,y23,l1,hg1,hk1⟩:=aTc (S0:=S++[bxB j]) Λ.σ.ad (.ptr j 53 0) (.iv (.agg [.int .i64 8,.int .i64 d.n,.str d.t,.sl d.g (bT d.ks),.int .i64 d.p])) (.ptr S.length 50 0) (.lb [.iv (.int .i64 8),.iv (.int .i64 d.n),.iv (.str d.t),.iv (.sl d.g (bT d.ks)),.iv (.int .i64 d.p)]) (.iv (.int .u32 0)) u_ u_ u_ u_ u_ u_ (.iv (.int .i64 8)) (.iv (.bool false)) (.iv (.bool false)) (.iv (.bool false)) (.iv (.bool false)) (.iv (.bool false)) (.iv (.bool true)) u_ u_ u_ u_ u_ u_ u_ .no d.t (by omega) d.t.length 0 (S++[bxB j]) 0 [] u_ u_ (by omega) rfl (Gl.nil ..) (jB.refl [] _)
 rw[List.drop_zero,List.nil_append]at l1 hg1
 rw[show ((0:Nat):Int)=0 from rfl,show bC []=[] from rfl,cQ]at l1
 obtain⟨S2,jm',c25,hL,hK⟩:=rK ((h.app [bxB j]).of_keep hk1) (o:=⟨6,d.t.map fun c=>⟨1,c.toNat⟩,0⟩) hok hm (x:=acc jw (bC (d.t.map fun c=>wd Λ.σ.ad ⟨1,c.toNat⟩))) (fun i=>tZ i jw _) (fun S'=>by rw[bU,cB,ebo]) (fun S' _=>by rw[ebo]; exact yC ..)
 have gb:S1[S.length]? = some (bxB j):=hk1.get _ _ (by simp) (by simp)
 refine⟨S2,_,aD K _ (fn:=t37) rfl rfl ?_,hL,((KL.app j jp S Λ [bxB j]).trans (KL.of_keep hk1 j jp Λ)).trans hK,rfl,fS ..⟩
 rw[bA]
 unfold bxB at *
 simp (config := { maxSteps := 4000000 }) (disch:=omega) only[t37,go_sem,hk]
 rw[l1]
 simp (config := { maxSteps := 4000000 }) (disch:=omega) only[go_sem,gb,c25]
theorem KL.box {b:Int}{S S1:aA}{j jp:Nat}{Λ Λ1:Ly}(h:LB b S j jp Λ){q:Nat}{B:bG}(hK:KL j jp S S1 Λ Λ1)(hq:S[q]? = some B)(ht:∀n,B≠.tok n 1 26)(h1:∀c,B≠.cells 53 false c)(h2:∀es c,B≠.mp es c):S1[q]? = some B:=by
 obtain⟨n1,n2⟩:=h.notok hq ht
 refine hK.old q B hq (fun e=>?_) (fun e=>?_) n1 n2
 ·rw[e,h.own]at hq; cases hq; exact h1 _ rfl
 ·rw[e,h.mp]at hq; cases hq; exact h2 _ _ rfl
theorem aZw {b:Int}{n:Nat}{d:Dt}(hw:d.w≤1000)(hf:2*d.w≤n+1)(hk:d.k=7)(ih:∀f x,x∈d.ks→2*x.w≤f→mH b f x):mH b (n+1) d:=by
 intro S j jp Λ h hm
 have hww:=Dt.w_eq d
 have hwl:=Dt.ws_len d.ks
 rw[eP,if_neg (by omega),if_neg (by omega),if_neg (by omega),if_neg (by omega),if_neg (by omega),if_neg (by omega),if_pos hk]at hm ⊢
 dsimp only at hm ⊢
 obtain⟨S1,Λ1,jw,c24,hL1,hK1,hσ1,hv1⟩:=aIy (b:=b) (ks:=d.ks) ih (by omega) (f:=n) (by omega) d.g (h.app [bxB j]) (Nat.le_trans (LeS.push b _ ⟨1,_,0⟩).len.1 hm)
 rw[←hσ1]at hm c24 hv1 ⊢
 generalize (cF b n d.ks Λ.σ).1=xs at *
 have ebo:boO Λ1.σ.ad ⟨1,xs,0⟩=xs.map (wd Λ1.σ.ad):=by
  unfold boO prO
  rw[if_neg (by simp),List.nil_append]
 obtain⟨S2,jm',c25,hL,hK⟩:=rK hL1 (o:=⟨1,xs,0⟩) ⟨hv1,(by show (0:Int)≤1; decide),(by show (1:Int)≤7; decide)⟩ hm (x:=acc jw (bC (xs.map (wd Λ1.σ.ad)))) (fun i=>tZ i jw _) (fun S'=>by rw[bU,cB,ebo]) (fun S' _=>by rw[ebo]; exact yC ..)
 have gb:S1[S.length]? = some (bxB j):=hK1.box (h.app [bxB j]) (by simp) (fun n e=>by cases e) (fun c e=>by cases e) (fun es c e=>by cases e)
 refine⟨S2,_,aD K _ (fn:=t37) rfl rfl ?_,hL,((KL.app j jp S Λ [bxB j]).trans hK1).trans hK,rfl,fS ..⟩
 rw[bA]
 unfold bxB at *
 simp (config := { maxSteps := 4000000 }) (disch:=omega) only[t37,go_sem,hk,c24,c25,gb]
def sA:aJ:=(.region [⟨.mov (.loc 28),(some 12),none⟩])
def sB : aJ := (.block 4
             (.region [⟨.load1 (.loc 2),none,none⟩,⟨.mov (.loc 12),none,none⟩,⟨.load1 (.loc 11),none,none⟩,⟨.lit false [(.int .u32 0)] 2 [(0,(.reg 1)),(1,(.reg 2))],none,none⟩,⟨.call false false 25 [(.reg 0),(.cst (.int .i64 0)),(.reg 3)],none,none⟩,⟨.store 1 (.loc 11) (.reg 4),none,none⟩]))
structure Fx where
 (a0 a1 a4 a5 a6 a7 a8 a10 a13 a14 a15 a16 a17 a18 a19 a20 a21 a22 a23 a24 a25 a29 a30:TV)
def e37 (F:Fx)(p q:Nat)(x12 x27 x28:TV):Env:=[F.a0,F.a1,.ptr p 50 0,.hole,F.a4,F.a5,F.a6,F.a7,F.a8,.hole,F.a10,.ptr q 27 0,x12,F.a13,F.a14,F.a15,F.a16,F.a17,F.a18,F.a19,F.a20,F.a21,F.a22,F.a23,F.a24,F.a25,.fn 84 [] [.ptr (q+1) 26 0],x27,x28,F.a29,F.a30]
structure YP (b:Int) (S:aA) (j jp p q:Nat) (F:Fx) (c:TV) (Λ:Ly) (v:Vv):Prop where
 fp:S[p]? = some (bxB j)
 fl:S[q]? = some (.cells 27 false [.iv (.int .u32 (wd Λ.σ.ad v))])
 fc:S[q+1]? = some (.cells 26 false [c])
 fy:∃x12 x27 x28,S[q+2]? = some (.lp .ready none (e37 F p q x12 x27 x28) [27,28] sA sB)
 lb:LB b S j jp Λ
 ne:p<q
theorem KL.set {j jp:Nat}{S0 S:aA}{Λ0 Λ:Ly}(h:KL j jp S0 S Λ0 Λ){q:Nat}(hq:S0.length≤q)(B:bG):KL j jp S0 (S.set q B) Λ0 Λ :=
 ⟨by rw[List.length_set]; exact h.len,fun i X hi h1 h2 h3 h4=>by rw[bV (by have:=cM hi; omega)]; exact h.old i X hi h1 h2 h3 h4,h.new⟩
theorem LB.set {b:Int}{S:aA}{j jp:Nat}{Λ:Ly}(h:LB b S j jp Λ){q:Nat}{B0:bG}(hq:S[q]? = some B0)(ht:∀n,B0≠.tok n 1 26)(h1:∀c,B0≠.cells 53 false c)(h2:∀es c,B0≠.mp es c)(B:bG):LB b (S.set q B) j jp Λ:=by
 obtain⟨n1,n2⟩:=h.notok hq ht
 refine h.keep fun i X hi hh=>?_
 rw[bV ?_]
 ·exact hi
 ·rintro rfl
  rcases hh with e|e|e|e
  ·rw[e,h.own]at hq; cases hq; exact h1 _ rfl
  ·rw[e,h.mp]at hq; cases hq; exact h2 _ _ rfl
  ·exact n1 e
  ·exact n2 e
theorem aTd {b:Int}{S:aA}{j jp p q:Nat}{F:Fx}{c:TV}{Λ:Ly}{v:Vv}(h:YP b S j jp p q F c Λ v){u:Vv}(hu:OkV Λ.σ.L.length u)(hv:OkV Λ.σ.L.length v)(hm:(push b Λ.σ ⟨0,[u,v],0⟩).2.mem.length≤10000000)(i:Int) :
  ∃S' Λ',(lim K).yld (q+2) [.iv (.int .i64 i),.iv (.int .u32 (wd Λ.σ.ad u))] S=.ret (.iv (.bool true),S')∧YP b S' j jp p q F c Λ' (push b Λ.σ ⟨0,[u,v],0⟩).1∧(∀S0 Λ0,KL j jp S0 S Λ0 Λ→S0.length≤q→KL j jp S0 S' Λ0 Λ')∧Λ'.σ=(push b Λ.σ ⟨0,[u,v],0⟩).2:=by
 obtain⟨x12,x27,x28,hy⟩:=h.fy
 have hl:=h.fl
 have hp:=h.fp
 have hc:=h.fc
 have hne:=h.ne
 generalize hT:S.set (q+2) (.lp .busy none (e37 F p q x12 x27 x28) [27,28] sA sB)=T
 have hLT:LB b T j jp Λ:=by rw[←hT]; exact h.lb.set hy (fun n e=>by cases e) (fun c e=>by cases e) (fun es c e=>by cases e) _
 have tp:T[p]? = some (bxB j):=by rw[←hT,bV (by omega)]; exact hp
 have tl:T[q]? = some (.cells 27 false [.iv (.int .u32 (wd Λ.σ.ad v))]):=by rw[←hT,bV (by omega)]; exact hl
 have tc:T[q+1]? = some (.cells 26 false [c]):=by rw[←hT,bV (by omega)]; exact hc
 have ty:T[q+2]? = some (.lp .busy none (e37 F p q x12 x27 x28) [27,28] sA sB):=by rw[←hT]; exact eI (cM hy) _
 have ebo:boO Λ.σ.ad ⟨0,[u,v],0⟩=[wd Λ.σ.ad u,wd Λ.σ.ad v]:=by
  unfold boO prO
  rw[if_neg (by simp)]; rfl
 obtain⟨S2,jm',c25,hL2,hK2⟩:=rK hLT (o:=⟨0,[u,v],0⟩) ⟨fun w hw=>by
  rcases List.mem_cons.1 hw with rfl|hw
  ·exact hu
  ·rw[List.mem_singleton]at hw; subst hw; exact hv,(by show (0:Int)≤0; decide),(by show (0:Int)≤7; decide)⟩ hm (x:=.iv (.sl .full [[.int .u32 (wd Λ.σ.ad u)],[.int .u32 (wd Λ.σ.ad v)]])) (fun i=>rfl) (fun S'=>by rw[ebo]; rfl) (fun S' _=>by rw[ebo]; exact iH.sl ..)
 have sp:=hK2.box hLT tp (fun n e=>by cases e) (fun c e=>by cases e) (fun es c e=>by cases e)
 have sl:=hK2.box hLT tl (fun n e=>by cases e) (fun c e=>by cases e) (fun es c e=>by cases e)
 have sc:=hK2.box hLT tc (fun n e=>by cases e) (fun c e=>by cases e) (fun es c e=>by cases e)
 have sy:=hK2.box hLT ty (fun n e=>by cases e) (fun c e=>by cases e) (fun es c e=>by cases e)
 have hL3:=hL2.set sl (fun n e=>by cases e) (fun c e=>by cases e) (fun es c e=>by cases e) (.cells 27 false [.iv (.int .u32 (wd (push b Λ.σ ⟨0,[u,v],0⟩).2.ad (push b Λ.σ ⟨0,[u,v],0⟩).1))])
 have y3:(S2.set q (.cells 27 false [.iv (.int .u32 (wd (push b Λ.σ ⟨0,[u,v],0⟩).2.ad (push b Λ.σ ⟨0,[u,v],0⟩).1))]))[q+2]? = some (.lp .busy none (e37 F p q x12 x27 x28) [27,28] sA sB):=by rw[bV (by omega)]; exact sy
 have hL4:=hL3.set y3 (fun n e=>by cases e) (fun c e=>by cases e) (fun es c e=>by cases e) (.lp .ready none (e37 F p q x12 x27 x28) [27,28] sA sB)
 refine⟨_,_,aId (env2:=e37 F p q (.iv (.int .u32 (wd Λ.σ.ad u))) (.iv (.int .i64 i)) (.iv (.int .u32 (wd Λ.σ.ad u)))) (env3:=e37 F p q (.iv (.int .u32 (wd Λ.σ.ad u))) (.iv (.int .i64 i)) (.iv (.int .u32 (wd Λ.σ.ad u)))) (S1:=S) (S2:=S2.set q (.cells 27 false [.iv (.int .u32 (wd (push b Λ.σ ⟨0,[u,v],0⟩).2.ad (push b Λ.σ ⟨0,[u,v],0⟩).1))])) hy rfl ?_ hy ?_ y3,⟨?_,?_,?_,⟨x12,x27,x28,eI (cM y3) _⟩,hL4,hne⟩,fun S0 Λ0 hk hq=>?_,rfl⟩
 ·simp (config := { maxSteps := 4000000 }) (disch:=omega) only[sA,e37,go_sem]
 ·rw[hT]
  unfold bxB at *
  simp (config := { maxSteps := 4000000 }) (disch:=omega) only[sB,e37,go_sem,tp,tl,c25,sl]
 ·rw[bV (by omega),bV (by omega)]; exact sp
 ·rw[bV (by omega),eI (cM sl)]
 ·rw[bV (by omega),bV (by omega)]; exact sc
 ·have k1:KL j jp S0 T Λ0 Λ:=by rw[←hT]; exact hk.set (by omega) _
  exact ((k1.trans hK2).set (by omega) _).set (by omega) _
theorem bDl {jw:Nat}{W:List Int}{i:Nat}(h:i<W.length):indexAddrS 1 (acc jw (bC W)) (i:Int)=some (.iv (.cp [.int .u32 W[i]])):=by
 have hne:bC W≠[]:=cX.2 (by rintro rfl; simp at h)
 have he:(bC W)[(i:Int).toNat]? = some [.int .u32 W[i]]:=by
  rw[Int.toNat_natCast]
  show (W.map fun x=>[IV.int .u32 x])[i]? = _
  rw[List.getElem?_map,List.getElem?_eq_getElem h]; rfl
 rw[iI _ hne]
 exact aX4 (by omega) he rfl
theorem aTe (b:Int)(xs:List Vv)(k:Nat)(h:k<xs.length)(v:Vv)(σ:Sg):fF b (xs.take (k+1)).reverse v σ=fF b (xs.take k).reverse (push b σ ⟨0,[xs[k],v],0⟩).1 (push b σ ⟨0,[xs[k],v],0⟩).2:=by
 have e:(xs.take (k+1)).reverse=xs[k]::(xs.take k).reverse:=by
  rw[List.take_add_one,List.getElem?_eq_getElem h]; simp
 rw[e,fF]
theorem aTf {b:Int}{j jp p q jw:Nat}{F:Fx}{W:List Int}{xs:List Vv}(hl:xs.length≤1000000)(hWl:W.length=xs.length):∀(k:Nat) (S:aA) (Λ:Ly) (v:Vv) (x3 x4:TV),k≤xs.length→W=xs.map (wd Λ.σ.ad)→(∀u∈xs,OkV Λ.σ.L.length u)→OkV Λ.σ.L.length v→YP b S j jp p q F (acc jw (bC W)) Λ v→(fF b (xs.take k).reverse v Λ.σ).2.mem.length≤10000000 →
  ∃S' Λ' y3 y4,lp' (lim K) t84L0 [.yld (q+2),.ptr (q+1) 26 0,.iv (.int .i64 ((k:Int)-1)),x3,x4] S=.ret (.exit 0,[.yld (q+2),.ptr (q+1) 26 0,.iv (.int .i64 (-1)),y3,y4],S')∧YP b S' j jp p q F (acc jw (bC W)) Λ' (fF b (xs.take k).reverse v Λ.σ).1∧(∀S0 Λ0,KL j jp S0 S Λ0 Λ→S0.length≤q→KL j jp S0 S' Λ0 Λ')∧Λ'.σ=(fF b (xs.take k).reverse v Λ.σ).2∧OkV (fF b (xs.take k).reverse v Λ.σ).2.L.length (fF b (xs.take k).reverse v Λ.σ).1
 | 0,S,Λ,v,x3,x4,hk,hW,hx,hv,hY,hm=>by
  rw[List.take_zero,List.reverse_nil,fF]
  refine⟨S,Λ,.iv (.bool false),x4,aG K _ _ t84L0.eq_1 ?_,hY,fun S0 Λ0 h _=>h,rfl,hv⟩
  rw[show ((0:Nat):Int)-1 = -1 from rfl]
  simp (config := { maxSteps := 4000000 }) (disch:=omega) only[go_sem]
 | k+1,S,Λ,v,x3,x4,hk,hW,hx,hv,hY,hm=>by
  have hla:k<xs.length:=by omega
  rw[aTe b xs k hla]at hm ⊢
  have hu:=hx xs[k] (List.getElem_mem _)
  have hm1:=Nat.le_trans (oG b (xs.take k).reverse (push b Λ.σ ⟨0,[xs[k],v],0⟩).1 (push b Λ.σ ⟨0,[xs[k],v],0⟩).2).len.1 hm
  obtain⟨S1,Λ1,y1,hY1,hK1,hσ1⟩:=aTd hY hu hv hm1 (k:Int)
  have hle:=LeS.push b Λ.σ ⟨0,[xs[k],v],0⟩
  have hix:=bDl (jw:=jw) (W:=W) (i:=k) (by omega)
  have hWk:W[k]'(by omega)=wd Λ.σ.ad xs[k]:=by simp[hW]
  rw[hWk]at hix
  have hc:=hY.fc
  have hok1:=fS b Λ.σ ⟨0,[xs[k],v],0⟩
  rw[←hσ1]at hm hok1 hle ⊢
  obtain⟨S',Λ',y3,y4,ih,hY',hK',hσ',hv'⟩:=aTf (b:=b) (j:=j) (jp:=jp) (p:=p) (F:=F) hl hWl k S1 Λ1 _ (.iv (.bool true)) (.iv (.bool false)) (by omega) (by rw[pX hY.lb.gd hle hx]; exact hW) (fun u hu=>(hx u hu).mono hle.len.2) hok1 hY1 hm
  rw[show (((k+1:Nat):Int)-1)=(k:Int) by omega]
  refine⟨S',Λ',y3,y4,aG K _ _ t84L0.eq_1 ?_,hY',fun S0 Λ0 h h0=>hK' S0 Λ0 (hK1 S0 Λ0 h h0) h0,hσ',hv'⟩
  simp (config := { maxSteps := 4000000 }) (disch:=omega) only[go_sem,hc,hix,y1,er_ret,aB]
  exact congrArg er ih
theorem jZ (b:Int):∀(n:Nat) (l:List Dt) (σ:Sg),(cF b n l σ).1.length≤l.length
 | 0,l,σ=>by rw[cF]; exact Nat.zero_le _
 | n+1,[],σ=>by rw[cF]; exact Nat.le_refl _
 | n+1,d::l,σ=>by
  rw[cF,List.length_cons,List.length_cons]
  have:=jZ b n l (eP b n d σ).2
  omega
theorem bE7 (jw:Nat)(W:List Int)(S:aA):(lim K).call 60 [acc jw (bC W)] S=.ret (.fn 84 [] [.ptr S.length 26 0],S++[.cells 26 false [acc jw (bC W)]]):=by
 refine aD K _ (fn:=t60) rfl rfl ?_
 simp (config := { maxSteps := 4000000 }) (disch:=omega) only[t60,go_sem]
theorem aTg {b:Int}{n:Nat}{d:Dt}(hw:d.w≤1000)(hf:2*d.w≤n+1)(hk:d.k=6)(hm0:dB d=true)(ih:∀f x,x.w<d.w→dB x=true→2*x.w≤f→mH b f x):mH b (n+1) d:=by
 intro S j jp Λ h hm
 have hww:=Dt.w_eq d
 have hpr:d.pr=true:=by unfold Dt.pr; simp[hk,bE5 hm0 hk]
 have hsum:=pT d.w d (Nat.le_refl _)
 have hmi:=pS d.w d (Nat.le_refl _)
 rw[hm0,eq_comm,Bool.and_eq_true,List.all_eq_true]at hmi
 have hlt:=pR d.w d
 have hend:(bR d.w d).2.w<d.w:=by
  have h1:(bR d.w d).1≠[]:=by
   obtain⟨m,hm'⟩:∃m,d.w=m+1:=⟨d.w-1,by omega⟩
   rw[hm',bR,if_pos hpr]; simp
  have:=List.length_pos_iff.2 h1
  omega
 have c12:=bE6 d.w d (Nat.le_refl _) (by omega)
 rw[eP,if_neg (by omega),if_neg (by omega),if_neg (by omega),if_neg (by omega),if_neg (by omega),if_neg (by omega),if_neg (by omega),if_pos hk]at hm ⊢
 dsimp only at hm ⊢
 generalize bR d.w d=I at *
 obtain⟨il,ie⟩:=I
 dsimp only at *
 have hm2:=Nat.le_trans (oG b _ _ _).len.1 hm
 have hm1:=Nat.le_trans (oH b n ie _).len.1 hm2
 have hwsl:=Dt.ws_len il
 have hie:=Dt.w_eq ie
 have hxl:=jZ b n il Λ.σ
 obtain⟨S1,Λ1,jw,c24,hL1,hK1,hσ1,hv1⟩:=aIy (b:=b) (ks:=il) (fun f x hx hfx=>ih f x (hlt x hx) (hmi.1 x hx) hfx) (by omega) (f:=n) (by omega) (eM il) (h.app [bxB j]) hm1
 have gb:S1[S.length]? = some (bxB j):=hK1.box (h.app [bxB j]) (by simp) (fun n e=>by cases e) (fun c e=>by cases e) (fun es c e=>by cases e)
 rw[←hσ1]at hm hm2 c24 hv1 ⊢
 generalize (cF b n il Λ.σ).1=xs at *
 have hle2:=oH b n ie Λ1.σ
 obtain⟨S2,Λ2,c37,hL2,hK2,hσ2,hv2⟩:=ih n ie hend hmi.2 (by omega) S1 j jp Λ1 hL1 hm2
 have gb2:=hK2.box hL1 gb (fun n e=>by cases e) (fun c e=>by cases e) (fun es c e=>by cases e)
 have hwe:=pX hL1.gd hle2 hv1
 rw[←hσ2]at hm c37 hv2 hle2 hwe ⊢
 generalize (eP b n ie Λ1.σ).1=v at *
 rw[←hwe]at c24
 obtain⟨F,hF⟩:∃F:Fx,F=⟨.ptr j 53 0,.iv (.agg [.int .i64 6,.int .i64 d.n,.str d.t,.sl d.g (bT d.ks),.int .i64 d.p]),.iv (.int .u32 0),u_,u_,u_,.iv (.sl (eM il) (bT il)),acc jw (bC (xs.map (wd Λ2.σ.ad))),.iv (.int .i64 6),.iv (.bool false),.iv (.bool false),.iv (.bool false),.iv (.bool false),.iv (.bool false),.iv (.bool false),u_,u_,u_,u_,.iv (.bool false),.iv (.bool true),u_,u_⟩:=⟨_,rfl⟩
 have hY:YP b (S2++[.cells 27 false [.iv (.int .u32 (wd Λ2.σ.ad v))],.cells 26 false [acc jw (bC (xs.map (wd Λ2.σ.ad)))],.lp .ready none (e37 F S.length S2.length u_ u_ u_) [27,28] sA sB]) j jp S.length S2.length F (acc jw (bC (xs.map (wd Λ2.σ.ad)))) Λ2 v:=⟨mV gb2 _,by simp,by simp,⟨u_,u_,u_,by simp⟩,hL2.app _,cM gb2⟩
 obtain⟨S5,Λ5,y3,y4,l1,hY5,hK5,hσ5,hv5⟩:=aTf (W:=xs.map (wd Λ2.σ.ad)) (xs:=xs) (by omega) (by simp) xs.length _ Λ2 v u_ u_ (Nat.le_refl _) rfl (fun u hu=>(hv1 u hu).mono hle2.len.2) hv2 hY (by rw[List.take_length]; exact hm)
 rw[List.take_length]at hY5 hσ5 hv5
 obtain⟨z12,z27,z28,hy5⟩:=hY5.fy
 have c84:(lim K).call 84 [.yld (S2.length+2),.ptr (S2.length+1) 26 0] (S2++[.cells 27 false [.iv (.int .u32 (wd Λ2.σ.ad v))],.cells 26 false [acc jw (bC (xs.map (wd Λ2.σ.ad)))],.lp .ready none (e37 F S.length S2.length u_ u_ u_) [27,28] sA sB])=.ret (u_,S5):=by
  have hc:=hY.fc
  have hlu:=cB (xs.map (wd Λ2.σ.ad))
  rw[List.length_map]at hlu
  refine aD K _ (fn:=t84) rfl rfl ?_
  simp (config := { maxSteps := 4000000 }) (disch:=omega) only[t84,go_sem,hc,bU,hlu,aB]
  rw[l1]
  simp (config := { maxSteps := 4000000 }) (disch:=omega) only[go_sem]
 have gl5:=hY5.fl
 have hL6:=hY5.lb.set hy5 (fun n e=>by cases e) (fun c e=>by cases e) (fun es c e=>by cases e) (.lp .exhausted none (e37 F S.length S2.length z12 z27 z28) [27,28] sA sB)
 have kk:KL j jp S S2 Λ Λ2:=((KL.app j jp S Λ [bxB j]).trans hK1).trans hK2
 refine⟨_,Λ5,aD K _ (fn:=t37) rfl rfl ?_,hL6,?_,hσ5,hv5⟩
 ·rw[bA]
  unfold bxB at *
  rw[hσ5]at gl5
  rw[show agD d=.iv (.agg [.int .i64 6,.int .i64 d.n,.str d.t,.sl d.g (bT d.ks),.int .i64 d.p]) by unfold agD; rw[hk]]at c12
  unfold agD at c12
  rw[bA]at c37
  have hl1:∀A:bG,(S2++[A]).length=S2.length+1:=fun A=>by simp
  have hl2:∀A B:bG,(S2++[A]++[B]).length=S2.length+2:=fun A B=>by simp
  have hap:∀A B C:bG,S2++[A]++[B]++[C]=S2++[A,B,C]:=fun A B C=>by simp
  have gs:∀B:bG,(S5.set (S2.length+2) B)[S2.length]? = S5[S2.length]? := fun B=>bV (by omega) B
  clear hY5 hL6 hK5 hY kk l1 hL1 hK1 hL2 hK2 hm hm1 hm2
  unfold e37 sA sB at *
  subst hF
  dsimp only at c84 hy5 ⊢
  simp (config := { maxSteps := 4000000 }) (disch:=omega) only[t37,go_sem,hk,aE c12,c24,gb,c37,gb2,bE7,fD,eB,hl1,hl2,hap,c84,aNn,hy5,aCq,gs,gl5]
 ·exact (hK5 S Λ (kk.trans (KL.app j jp S2 Λ2 _)) kk.len).set (by have:=kk.len; omega) _
theorem aFo (b:Int):∀(N:Nat) (d:Dt),d.w≤N→d.w≤1000→dB d=true→∀f,2*d.w≤f→mH b f d
 | 0,d,hN,_,_,_,_=>by have:=Dt.w_eq d; omega
 | N+1,d,hN,hw,hm,f,hf=>by
  have hwe:=Dt.w_eq d
  obtain⟨n,rfl⟩:∃n,f=n+1:=⟨f-1,by omega⟩
  have ih:∀f x,x.w<d.w→dB x=true→2*x.w≤f→mH b f x:=fun f x hx hmx hfx=>aFo b N x (by omega) (by omega) hmx f hfx
  by_cases h7:d.k=7
  ·exact aZw hw hf h7 fun f x hx hfx=>ih f x (Dt.kid_lt hx) (sO hm hx) hfx
  by_cases h6:d.k=6
  ·exact aTg hw hf h6 hm ih
  by_cases h2:d.k=2
  ·exact aZt hw h2
  by_cases h4:d.k=4
  ·exact aZu hw h4
  by_cases h5:d.k=5
  ·exact aZv hw hm h5
  by_cases h8:d.k=8
  ·exact aNz hw h8
  refine aNy hm ?_
  rw[iM,if_neg (by omega),if_neg h7,Bool.and_eq_true]at hm
  have h:=hm.2
  unfold lR at h
  by_cases h1:d.k=1
  ·exact .inl h1
  by_cases h3:d.k=3
  ·exact .inr (.inl h3)
  by_cases h9:d.k=9
  ·exact .inr (.inr (.inl h9))
  by_cases h10:d.k=10
  ·exact .inr (.inr (.inr (.inl h10)))
  by_cases h0:d.k=0
  ·exact .inr (.inr (.inr (.inr h0)))
  simp[h0,h1,h2,h3,h4,h5,h8,h9,h10]at h
end Go.Proofs.YtjbpbohpmfpoiaaGreatDoor
