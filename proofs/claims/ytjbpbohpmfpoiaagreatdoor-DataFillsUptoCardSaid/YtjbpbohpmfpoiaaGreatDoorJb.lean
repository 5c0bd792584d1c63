/- Some texts of the proof, joined. Condition: none. -/
import Derived.Test.YtjbpbohpmfpoiaaGreatDoorJa
import Derived.Test.YtjbpbohpmfpoiaaGreatDoorTmE
set_option maxRecDepth 100000
set_option maxHeartbeats 64000000
set_option linter.unusedSimpArgs false
set_option linter.unusedVariables false
namespace Go.Proofs.YtjbpbohpmfpoiaaGreatDoor
open Go Go.TM
theorem aRf {S S':aA}{l:List UInt8}{jb jb':Nat}(c:Int)(h:isC c=true)(h1:128≤c)(e:bR false 1 1 5 S (acc jb (aF l)) (.iv (.sl .full (aF (bO c))))=some (acc jb' (aF (l++bO c)),S')):(lim K).call 124 [acc jb (aF l),.iv (.int .i32 c)] S=.ret (acc jb' (aF (l++bO c)),S'):=by
 have hc:=(jF c).1 h
 have hw:IntKind.u8.wrap c=c % 256:=oU c
 have hw1:IntKind.u8.wrap (c / 64)=c / 64 % 256:=oU _
 have hw2:IntKind.u8.wrap (c / 4096)=c / 4096 % 256:=oU _
 refine aD K _ (fn:=t124) rfl rfl ?_
 by_cases h2:c<2048
 ·have e2:aF (bO c)=[[.int .u8 (192+c / 64)],[.int .u8 (128+c % 256 % 64)]]:=by
   rw[aK6 ⟨h1,h2⟩]
   simp only[aF,List.map_cons,List.map_nil]; rw[xA (by omega),xA (by omega)]; congr 4<;>omega
  rw[e2]at e
  generalize aF (l++bO c)=q at *
  simp (config := { maxSteps := 4000000 }) (disch:=omega) only[t124,go_sem,bJ,Int.fdiv_eq_ediv_of_nonneg,lI,hw,aO,bA7,wW,e]
 ·by_cases h3:c<65536
  ·have e2:aF (bO c)=[[.int .u8 (224+c / 4096)],[.int .u8 (128+c / 64 % 256 % 64)],[.int .u8 (128+c % 256 % 64)]]:=by
    rw[aK7 ⟨by omega,h3⟩]
    simp only[aF,List.map_cons,List.map_nil]; rw[xA (by omega),xA (by omega),xA (by omega),show ((224+c.toNat / 4096:Nat):Int)=224+c / 4096 by omega,show ((128+c.toNat / 64 % 64:Nat):Int)=128+c / 64 % 256 % 64 by omega,show ((128+c.toNat % 64:Nat):Int)=128+c % 256 % 64 by omega]
   rw[e2]at e
   generalize aF (l++bO c)=q at *
   by_cases h4:c<55296
   ·simp (config := { maxSteps := 4000000 }) (disch:=omega) only[t124,go_sem,bJ,Int.fdiv_eq_ediv_of_nonneg,lI,hw,hw1,aO,aMm,wW,e]
   ·simp (config := { maxSteps := 4000000 }) (disch:=omega) only[t124,go_sem,bJ,Int.fdiv_eq_ediv_of_nonneg,lI,hw,hw1,aO,aMm,wW,e]
  ·have e2:aF (bO c)=[[.int .u8 (240+c / 262144)],[.int .u8 (128+c / 4096 % 256 % 64)],[.int .u8 (128+c / 64 % 256 % 64)],[.int .u8 (128+c % 256 % 64)]]:=by
    rw[aK8 (by omega)]
    simp only[aF,List.map_cons,List.map_nil]; rw[xA (by omega),xA (by omega),xA (by omega),xA (by omega),show ((240+c.toNat / 262144:Nat):Int)=240+c / 262144 by omega,show ((128+c.toNat / 4096 % 64:Nat):Int)=128+c / 4096 % 256 % 64 by omega,show ((128+c.toNat / 64 % 64:Nat):Int)=128+c / 64 % 256 % 64 by omega,show ((128+c.toNat % 64:Nat):Int)=128+c % 256 % 64 by omega]
   rw[e2]at e
   generalize aF (l++bO c)=q at *
   simp (config := { maxSteps := 4000000 }) (disch:=omega) only[t124,go_sem,bJ,Int.fdiv_eq_ediv_of_nonneg,lI,hw,hw1,hw2,aO,bA6,wW,e]
theorem aXv {S S':aA}{l:List UInt8}{jb jb':Nat}(c:Int)(h:isC c=true)(e:bR false 1 1 5 S (acc jb (aF l)) (.iv (.sl .full (aF (bO c))))=some (acc jb' (aF (l++bO c)),S')):(lim K).call 99 [acc jb (aF l),.iv (.int .i32 c)] S=.ret (acc jb' (aF (l++bO c)),S'):=by
 have hc:=(jF c).1 h
 refine aD K _ (fn:=t99) rfl rfl ?_
 by_cases h1:c<128
 ·have e2:aF (bO c)=[[.int .u8 c]]:=by
   rw[aK5 h1]
   simp only[aF,List.map_cons,List.map_nil]; rw[xA (by omega)]; congr 4; omega
  rw[e2]at e
  generalize aF (l++bO c)=q at *
  simp (config := { maxSteps := 4000000 }) (disch:=omega) only[t99,go_sem,bJ,lI,e]
 ·have c124:=aRf c h (by omega) e
  generalize aF (l++bO c)=q at *
  simp (config := { maxSteps := 4000000 }) (disch:=omega) only[t99,go_sem,bJ,c124]
def bdB (j jb:Nat)(s:List UInt8):aW:=.cells 115 false [if s=[] then .iv .nilp else .ptr j 115 0,acc jb (aF s)]
structure BD (S:aA) (j jb:Nat) (s:List UInt8):Prop where
 own:S[j]? = some (bdB j jb s)
 gl:Gl 0 S 1 5 (aF s) jb
theorem iR {s:List UInt8}:aF s≠[]↔s≠[]:=by cases s<;>simp[aF]
theorem aEx (a b:List UInt8):aF (a++b)=aF a++aF b:=List.map_append
theorem aXw {S:aA}{j jb:Nat}{s:List UInt8}(h:BD S j jb s)(hl:s.length≤90000000)(c:Int)(hc:isC c=true) :
  ∃v S' jb',(lim K).call 71 [.ptr j 115 0,.iv (.int .i32 c)] S=.ret (.tup [.iv (.int .i64 v),.iv .nili],S')∧BD S' j jb' (s++bO c)∧S.length≤S'.length∧(∀q B,S[q]? = some B→q≠j→(s≠[]→q≠jb)→S'[q]? = some B)∧(s≠[]∧jb'=jb∨S.length≤jb'):=by
 have hp:1≤(bO c).length∧(bO c).length≤4:=tH hc
 have hne:s++bO c≠[]:=by intro e; have:=congrArg List.length e; simp at this; rw[this.2]at hp; simp at hp
 have hbne:bO c≠[]:=by intro e; rw[e]at hp; simp at hp
 have ho:=h.own
 -- copyCheck
 have es:=fun B=>cX (cA ho) B
 have hgl1:∀x,Gl 0 (S.set j (.cells 115 false [x,acc jb (aF s)])) 1 5 (aF s) jb:=fun x=>⟨fun hn=>by
  have ht:=h.gl.tok hn
  rw[bD (fun e=>by rw[←e,ho]at ht; unfold bdB at ht; cases ht)]; exact ht,fun _=>Nat.zero_le _⟩
 obtain⟨jb',S',ap,g⟩:=(hgl1 (.ptr j 115 0)).more (x:=.iv (.sl .full (aF (bO c)))) (iL.sl ..) (eR.bytes _) (eR.bytes _) (b:=1) (eS (by rw[dU,dU]; omega)) (Nat.zero_le _)
 have hgl:=g.gl
 rw[←aEx]at ap hgl
 have c99:=aXv c hc ap
 have hjj:jb'≠j:=fun e=>by
  have ht:=hgl.tok (iR.2 hne)
  have:S'[j]? = some (.cells 115 false [.ptr j 115 0,acc jb (aF s)]):=g.old _ _ (es _) fun hn e2=>by
   have ht:=(hgl1 (.ptr j 115 0)).tok hn
   rw[←e2,es]at ht; cases ht
  rw[e,this]at ht; cases ht
 have o2:S'[j]? = some (.cells 115 false [.ptr j 115 0,acc jb (aF s)]):=g.old _ _ (es _) fun hn e2=>by
  have ht:=(hgl1 (.ptr j 115 0)).tok hn
  rw[←e2,es]at ht; cases ht
 have es2:=fun B=>cX (cA o2) B
 have hbB:bdB j jb' (s++bO c)=.cells 115 false [.ptr j 115 0,acc jb' (aF (s++bO c))]:=by unfold bdB; rw[if_neg hne]
 have hcc:prV S (K.prim 98) [.ptr j 115 0]=some (u_,S.set j (.cells 115 false [.ptr j 115 0,acc jb (aF s)])):=by
  show eW [(114,2)] [.ptr j 115 0] S=_
  unfold bdB at ho
  by_cases hs:s=[]
  ·rw[if_pos hs]at ho
   simp[eW,ho]
  ·rw[if_neg hs]at ho
   have:S.set j (.cells 115 false [.ptr j 115 0,acc jb (aF s)])=S:=by
    obtain⟨hlt,e⟩:=List.getElem?_eq_some_iff.1 ho
    rw[←e,List.set_getElem_self]
   rw[this]
   simp[eW,ho]
 have hle:=dU s
 have hle2:=dU (s++bO c)
 have hla:(s++bO c).length=s.length+(bO c).length:=List.length_append
 refine⟨IntKind.i64.wrap (((s++bO c).length:Int)-s.length),S'.set j (bdB j jb' (s++bO c)),jb',aD K _ (fn:=t71) rfl rfl ?_,⟨es2 _,⟨fun hn=>?_,fun _=>Nat.zero_le _⟩⟩,?_,fun q B hq h1 h2=>?_,?_⟩
 ·rw[hbB]
  have e1:=es (.cells 115 false [.ptr j 115 0,acc jb (aF s)])
  have e3:=es2 (.cells 115 false [.ptr j 115 0,acc jb' (aF (s++bO c))])
  generalize aF (s++bO c)=qq at *
  simp (config := { maxSteps := 4000000 }) (disch:=omega) only[t71,go_sem,hcc,e1,c99,o2,e3,fQ,hle,hle2]
 ·rw[bD (Ne.symm hjj)]; exact hgl.tok hn
 ·rw[List.length_set]
  have:=g.len
  rw[List.length_set]at this; exact this
 ·rw[bD (Ne.symm h1)]
  exact g.old q B (by rw[bD (Ne.symm h1)]; exact hq) fun hn e=>h2 (iR.1 hn) e
 ·by_cases hs:aF s=[]
  ·have:=g.frsh hs (iR.2 hbne)
   rw[List.length_set]at this
   exact .inr this
  ·exact .inl ⟨iR.1 hs,g.same hs⟩
theorem wM {k:Nat}{a b:Int}(ha:0≤a∧a≤2147483647-2 ^ k)(hk:k<31)(hb:0≤b∧b<2 ^ k)(hm:a % 2 ^ k=0):IntKind.u32.wrap (bOr 32 a b)=a+b:=by
 have h2:(2:Int) ^ k≤2 ^ 31:=zX (by omega)
 unfold bOr
 rw[aEb (k:=k) ⟨ha.1,by omega⟩ hb (by omega) hm]
 rw[bJ (by omega)]
 omega
theorem bC7 {n ty:Int}(hn:0≤n∧n≤20000000)(ht:0≤ty∧ty≤7):IntKind.u32.wrap (bOr 32 (IntKind.u32.wrap (bOr 32 (IntKind.u32.wrap (IntKind.u32.wrap n*32)) (IntKind.u32.wrap (IntKind.u32.wrap ty*4)))) 3)=32*n+4*ty+3:=by
 rw[bJ (m:=n) (by omega),bJ (m:=ty) (by omega),bJ (m:=n*32) (by omega),bJ (m:=ty*4) (by omega)]
 rw[wM (k:=5) (a:=n*32) (b:=ty*4) ⟨by omega,by omega⟩ (by decide) ⟨by omega,by omega⟩ (by omega)]
 rw[wM (k:=2) ⟨by omega,by omega⟩ (by decide) ⟨by omega,by omega⟩ (by omega)]
 omega
theorem bC8 {a:Int}(ha:0≤a∧a≤200000000):IntKind.u32.wrap (bOr 32 (IntKind.u32.wrap (IntKind.u32.wrap a*4)) 1)=w32 (w32 (4*w32 a)+1):=by
 unfold w32
 rw[bJ (m:=a) (by omega),bJ (m:=a*4) (by omega),bJ (m:=4*a) (by omega),bJ (m:=4*a+1) (by omega)]
 rw[wM (k:=2) ⟨by omega,by omega⟩ (by decide) ⟨by omega,by omega⟩ (by omega)]
 omega
theorem LB.grow {b:Int}{S:aA}{j jp:Nat}{Λ:Ly}(h:LB b S j jp Λ){x:TV}(ys:List Int)(hx:iL S x (bE ys))(hm:Λ.σ.mem.length+ys.length≤20000000) :
  ∃jm' S',bR false 1 4 26 S (acc Λ.jm (bE Λ.σ.mem)) x=some (acc jm' (bE (Λ.σ.mem++ys)),S')∧S'[j]? = some (lyB b jp Λ) ∧
   (∀q B,S[q]? = some B→¬TkM Λ q→S'[q]? = some B)∧S.length≤S'.length∧Gl 0 S' 1 26 (bE (Λ.σ.mem++ys)) jm'∧(Λ.σ.mem++ys≠[]→TkM Λ jm'∨S.length≤jm'):=by
 have hl1:=bY Λ.σ.mem
 have hl2:=bY ys
 obtain⟨jm',S',ap,g⟩:=h.gm.more hx (jG ys) (jG Λ.σ.mem) (b:=4) (eS (by omega)) (Nat.zero_le _)
 rw[←lV]at ap
 have hgl:=g.gl
 rw[←lV]at hgl
 have ho:∀q B,S[q]? = some B→¬TkM Λ q→S'[q]? = some B:=fun q B hq hn=>g.old q B hq fun hne e=>hn ⟨cQ.1 hne,e⟩
 refine⟨jm',S',ap,ho _ _ h.own fun hk=>(h.tkj _ (.inl hk)).1 rfl,ho,g.len,hgl,fun hne=>?_⟩
 by_cases h0:bE Λ.σ.mem=[]
 ·refine .inr (g.frsh h0 fun h1=>?_)
  have e1:Λ.σ.mem=[]:=by cases hh:Λ.σ.mem with|nil=>rfl|cons a r=>rw[hh]at h0; cases h0
  have e2:ys=[]:=by cases hh:ys with|nil=>rfl|cons a r=>rw[hh]at h1; cases h1
  exact hne (by rw[e1,e2]; rfl)
 ·exact .inl ⟨cQ.1 h0,g.same h0⟩
theorem qN {b:Int}{S:aA}{j jp:Nat}{Λ:Ly}(h:LB b S j jp Λ){o:Ob}(ho:OkO Λ.σ.L.length o)(hm:(push b Λ.σ o).2.mem.length≤10000000){x:TV}(hlc:∀i,sX i x=x)(hln:∀S',aGk .sl S' x=some (.iv (.int .i64 (boO Λ.σ.ad o).length)))
  (hx:∀S',(∀q B,S[q]? = some B→q≠j→¬TkM Λ q→S'[q]? = some B)→iL S' x (bE (boO Λ.σ.ad o))) :
  ∃S' jm',(lim K).call 25 [.ptr j 53 0,.iv (.int .i64 o.ty),x] S=.ret (.iv (.int .u32 (wd (push b Λ.σ o).2.ad (push b Λ.σ o).1)),S')∧LB b S' j jp ⟨jm',Λ.jo,(push b Λ.σ o).2,Λ.l,Λ.c⟩∧KL j jp S S' Λ ⟨jm',Λ.jo,(push b Λ.σ o).2,Λ.l,Λ.c⟩:=by
 have hb:=h.b0
 have hpw:=aXu h.gd o
 have hml:(push b Λ.σ o).2.mem.length=Λ.σ.mem.length+(1+(boO Λ.σ.ad o).length):=by
  show (Λ.σ.mem++ow Λ.σ.ad o).length=_
  rw[List.length_append]; unfold ow; rw[List.length_cons]; omega
 have hgd:=aCf h.gd ho
 rw[hml]at hm
 rw[hpw]
 have hl1:=bY Λ.σ.mem
 have hh:=bC7 (n:=(boO Λ.σ.ad o).length) (ty:=o.ty) (by omega) ho.2
 have ha:=bC8 (a:=b+Λ.σ.mem.length) (by omega)
 obtain⟨j1,S1,ap1,o1,k1,len1,gl1,n1⟩:=h.grow (x:=.iv (.sl .full [[.int .u32 (32*((boO Λ.σ.ad o).length:Int)+4*o.ty+3)]])) [32*((boO Λ.σ.ad o).length:Int)+4*o.ty+3] (iL.sl ..) (by simp; omega)
 -- the layer with its header
 have hg1:Gl 0 (S1.set j (.cells 53 false [.iv (.int .i64 b),acc j1 (bE (Λ.σ.mem++[32*((boO Λ.σ.ad o).length:Int)+4*o.ty+3])),.map jp,acc Λ.jo (bE (iK Λ.σ))])) 1 26 (bE (Λ.σ.mem++[32*((boO Λ.σ.ad o).length:Int)+4*o.ty+3])) j1:=⟨fun hn=>by
  have ht:=gl1.tok hn
  rw[bD (fun e=>by rw[←e,o1]at ht; unfold lyB at ht; cases ht)]; exact ht,fun _=>Nat.zero_le _⟩
 obtain⟨j2,S2,ap2,g2⟩:=hg1.more (x:=x) (hx _ fun q B hq h1 h2=>by rw[bD (Ne.symm h1)]; exact k1 q B hq h2) (jG (boO Λ.σ.ad o)) (jG _) (b:=4) (eS (by rw[bY,bY,List.length_append,List.length_singleton]; omega)) (Nat.zero_le _)
 have e2:bE (Λ.σ.mem++[32*((boO Λ.σ.ad o).length:Int)+4*o.ty+3])++bE (boO Λ.σ.ad o)=bE (push b Λ.σ o).2.mem:=by
  rw[←lV]
  show _=bE (Λ.σ.mem++ow Λ.σ.ad o)
  unfold ow
  rw[List.append_assoc,List.singleton_append]
 have gl2:=g2.gl
 rw[e2]at ap2 gl2
 have hne1:bE (Λ.σ.mem++[32*((boO Λ.σ.ad o).length:Int)+4*o.ty+3])≠[]:=cQ.2 (by simp)
 have hj2:j2=j1:=g2.same hne1
 subst hj2
 have hjt:j2≠j:=fun e=>by
  have ht:=hg1.tok hne1
  rw[e,cX (cA o1)]at ht; cases ht
 have oS2:S2[j]? = some (.cells 53 false [.iv (.int .i64 b),acc j2 (bE (Λ.σ.mem++[32*((boO Λ.σ.ad o).length:Int)+4*o.ty+3])),.map jp,acc Λ.jo (bE (iK Λ.σ))]):=g2.old _ _ (cX (cA o1) _) fun _=>Ne.symm hjt
 have e1:=fun c=>cX (cA o1) c
 have e3:=fun c=>cX (cA oS2) c
 -- what stays
 have kk:∀q B,S[q]? = some B→q≠j→¬TkM Λ q→(S2.set j (lyB b jp ⟨j2,Λ.jo,(push b Λ.σ o).2,Λ.l,Λ.c⟩))[q]? = some B:=fun q B hq h1 h2=>by
  rw[bD (Ne.symm h1)]
  refine g2.old q B (by rw[bD (Ne.symm h1)]; exact k1 q B hq h2) fun _ e=>?_
  rcases n1 (by simp) with h3|h3
  ·exact h2 (e▸h3)
  ·have:=cA hq; omega
 have htm:∀q,TkM ⟨j2,Λ.jo,(push b Λ.σ o).2,Λ.l,Λ.c⟩ q→TkM Λ q∨S.length≤q:=fun q hq=>by rw[hq.2]; exact n1 (by simp)
 have hoW:iK (push b Λ.σ o).2=iK Λ.σ:=by
  unfold iK
  refine List.map_congr_left fun y hy=>?_
  obtain⟨_,i,h1,h2⟩:=h.gd.sy y hy
  refine xH (v:=⟨7,y.2⟩) (fun _=>?_) (fun h=>absurd rfl h)
  have:=(List.getElem?_eq_some_iff.1 h1).1
  have:=h.gd.al
  show 0≤((y.2:Nat):Int)∧((y.2:Nat):Int)<Λ.σ.ad.length
  omega
 refine⟨S2.set j (lyB b jp ⟨j2,Λ.jo,(push b Λ.σ o).2,Λ.l,Λ.c⟩),j2,aD K _ (fn:=t25) rfl rfl ?_,⟨e3 _,⟨fun hn=>by rw[bD (Ne.symm hjt)]; exact gl2.tok hn,fun _=>Nat.zero_le _⟩,⟨fun hn=>?_,fun _=>Nat.zero_le _⟩,?_,fun q hq hq2=>?_,fun t=>?_,hgd,hb⟩,⟨?_,fun q B hq h1 h2 h3 h4=>kk q B hq h1 h3,fun q hq=>?_⟩⟩
 ·clear kk htm hx gl1 gl2 g2 hg1 k1 n1
  have ho':=h.own
  have o1':=o1
  unfold lyB at ho' o1' ⊢
  rw[hoW]
  simp (config := { maxSteps := 4000000 }) (disch:=omega) only[t25,go_sem,ho',fQ,hl1,hlc,hln,hh,ha,ap1,o1',e1,ap2,oS2,aE]
 ·rw[hoW]
  have ht:=h.go.tok (by rw[←hoW]; exact hn)
  have hne:iK Λ.σ≠[]:=cQ.1 (by rw[←hoW]; exact hn)
  have hj:=(h.tkj _ (.inr ⟨hne,rfl⟩)).1
  exact kk _ _ ht hj fun hh=>h.dis _ hh ⟨hne,rfl⟩
 ·exact kk _ _ h.mp (Ne.symm h.nej) fun hh=>(h.tkj _ (.inl hh)).2 rfl
 ·have hq2':TkO Λ q:=⟨by have:=hq2.1; rw[hoW]at this; exact this,hq2.2⟩
  rcases htm q hq with h3|h3
  ·exact h.dis q h3 hq2'
  ·have:=cA (h.go.tok (cQ.2 hq2'.1))
   have:=hq2'.2
   omega
 ·rw[h.kv t]
  show _=Option.map (fun x=>wd (Λ.σ.ad++[b+Λ.σ.mem.length]) ⟨7,x.2⟩) (Λ.σ.sy.find? fun x=>x.1==t)
  cases hf:Λ.σ.sy.find? fun x=>x.1==t with
  | none=>rfl
  | some y =>
   obtain⟨_,i,h1,h2⟩:=h.gd.sy y (List.mem_of_find?_eq_some hf)
   have h3:=(List.getElem?_eq_some_iff.1 h1).1
   have:=h.gd.al
   rw[Option.map_some,Option.map_some,xH (v:=⟨7,y.2⟩) (fun _=>by show 0≤((y.2:Nat):Int)∧((y.2:Nat):Int)<Λ.σ.ad.length; omega) (fun h=>absurd rfl h)]
 ·rw[List.length_set]
  have:=g2.len
  rw[List.length_set]at this
  omega
 ·rcases hq with hq|hq
  ·rcases htm q hq with h3|h3
   ·exact .inl h3
   ·exact .inr (.inr h3)
  ·exact .inr (.inl ⟨by have:=hq.1; rw[hoW]at this; exact this,hq.2⟩)
def cat:List Int→List UInt8
 | []=>[]
 | c::l=>bO c++cat l
def aRg:List (Int×Int)→Int→Prop
 | [],_=>True
 | c::l,i=>c.2=i∧isC c.1=true∧aRg l (i+(bO c.1).length)
theorem qO:∀(k:Nat) (s:List UInt8) (i:Int),s.length≤k→(dE k s i).2=none→aRg (dE k s i).1 i∧cat (gZ (dE k s i).1)=s
 | 0,s,i,h,_=>by
  have:s=[]:=List.eq_nil_of_length_eq_zero (by omega)
  subst this; exact⟨trivial,rfl⟩
 | k+1,s,i,h,e=>by
  simp only[dE]at e ⊢
  split
  ·rename_i h0; subst h0; exact⟨trivial,rfl⟩
  ·rename_i hne
   simp only[hne,↓reduceIte]at e
   split
   ·rename_i hb; simp[hb]at e
   ·rename_i hb
    have hb':bad s=false:=by simpa using hb
    have hg:=aH2 (s:=s) hb'
    simp only[hb',Bool.false_eq_true,↓reduceIte]at e
    obtain⟨h1,h2⟩:=qO k (s.drop (D s).2) (i+(D s).2) (by rw[List.length_drop]; omega) e
    have hl:(bO ((D s).1:Nat)).length=(D s).2:=by rw[hg.2.1,List.length_take]; omega
    refine⟨⟨rfl,hg.1,by rw[hl]; exact h1⟩,?_⟩
    simp only[gZ,List.map_cons,cat]
    rw[show cat (List.map (fun x=>x.1) (dE k (s.drop (D s).2) (i+(D s).2)).1)=s.drop (D s).2 from h2,hg.2.1,List.take_append_drop]
theorem aA4:∀ {cs:List (Int×Int)} {i:Int},aRg cs i→∀c∈gZ cs,isC c=true
 | [],i,h,c,hc=>by cases hc
 | x::cs,i,h,c,hc=>by
  rcases List.mem_cons.1 hc with rfl|hc
  ·exact h.2.1
  ·exact aA4 h.2.2 c hc
def chs (t:List UInt8):List Int:=if (dE t.length t 0).2=none then gZ (dE t.length t 0).1 else []
theorem rK (t:List UInt8):chV t=(chs t).map (⟨2,·⟩):=by
 unfold chV chs
 split
 ·rfl
 ·rfl
theorem aCg (t:List UInt8):∀c∈chs t,isC c=true:=by
 intro c hc
 unfold chs at hc
 split at hc
 ·rename_i h
  exact aA4 (qO t.length t 0 (Nat.le_refl _) h).1 c hc
 ·cases hc
theorem aCh {t:List UInt8}:(chs t).length≤t.length:=by
 unfold chs
 split
 ·unfold gZ; rw[List.length_map]; exact qH ..
 ·exact Nat.zero_le _
theorem aEy {t:List UInt8}(h:okC t=true):(dE t.length t 0).2=none:=by
 unfold okC at h
 exact Option.isNone_iff_eq_none.1 h
theorem aRh (n:Nat)(t:List UInt8)(ty:Int)(hty:0≤ty∧ty≤7):OkO n ⟨ty,chV t,0⟩:=by
 refine⟨fun v hv=>?_,hty⟩
 rw[rK]at hv
 obtain⟨c,_,rfl⟩:=List.mem_map.1 hv
 exact⟨(fun h=>by simp at h),fun _=>.inr (.inl rfl)⟩
theorem aXx (s:List UInt8)(hl:s.length≤2000000):∃tg e,TM.Pure K 52 [.iv (.str s)] (.tup [.iv (.sl tg (TM.one i64 (chs s))),.iv (.int .i64 e)]):=by
 have h:=aQr s hl
 unfold chs
 cases hc:(dE s.length s 0).2 with
 | none=>rw[hc]at h; rw[if_pos rfl]; exact⟨_,_,h⟩
 | some p=>rw[hc]at h; rw[if_neg (by simp)]; exact⟨_,_,h⟩
theorem tM (n:Int):TM.Pure K 59 [.iv (.int .i64 n)] (.iv (.int .u32 (w32 (w32 n*4)))):=by
 refine bP t59 rfl rfl ?_
 simp (config := { maxSteps := 4000000 }) (disch:=omega) only[t59,go_sem]
theorem aRi (ad:List Int)(n:Int):w32 (w32 n*4)=wd ad ⟨1,n⟩:=by
 unfold wd
 rw[if_pos rfl,Int.mul_comm]
theorem aRj {c:Int}(h:isC c=true)(ad:List Int):TM.Pure K 56 [.iv (.int .i64 c)] (.iv (.int .u32 (wd ad ⟨2,c⟩))):=by
 have hc:=(jF c).1 h
 have e:IntKind.u32.wrap (bOr 32 (IntKind.u32.wrap (IntKind.u32.wrap c*16)) 2)=wd ad ⟨2,c⟩:=by
  unfold wd w32
  rw[if_neg (by simp),if_pos rfl]
  rw[bJ (m:=c) (by omega),bJ (m:=c*16) (by omega),bJ (m:=16*c) (by omega),bJ (m:=16*c+2) (by omega)]
  rw[wM (k:=4) ⟨by omega,by omega⟩ (by decide) ⟨by omega,by omega⟩ (by omega)]
  omega
 refine bP t56 rfl rfl ?_
 simp (config := { maxSteps := 4000000 }) (disch:=omega) only[t56,go_sem,e]
theorem bC9 {n:Int}(h:n=0∨n=1)(ad:List Int):TM.Pure K 53 [.iv (.int .i64 n)] (.iv (.int .u32 (wd ad ⟨3,n⟩))):=by
 refine bP t53 rfl rfl ?_
 rcases h with rfl|rfl
 ·simp (config := { maxSteps := 4000000 }) (disch:=omega) only[t53,go_sem]
  rfl
 ·simp (config := { maxSteps := 4000000 }) (disch:=omega) only[t53,go_sem]
  rfl
theorem LB.of_keep {b:Int}{S S':aA}{j jp:Nat}{Λ:Ly}(h:LB b S j jp Λ)(k:gQ [] S S'):LB b S' j jp Λ:=h.keep fun q B hq _=>k.get q B (by simp) hq
theorem KL.of_keep {S S':aA}(k:gQ [] S S')(j jp:Nat)(Λ:Ly):KL j jp S S' Λ Λ:=⟨k.len,fun q B hq _ _ _ _=>k.get q B (by simp) hq,fun q h=>by rcases h with h|h; exact .inl h; exact .inr (.inl h)⟩
theorem Gl.row {n0:Nat}{S:aA}{ys:List Int}{jw:Nat}(g:Gl n0 S 1 26 (bE ys) jw)(h0:n0≤S.length)(x:Int)(hl:ys.length≤20000000):∃jw' S',bR false 1 4 26 S (acc jw (bE ys)) (.iv (.sl .full [[.int .u32 x]]))=some (acc jw' (bE (ys++[x])),S')∧Gl n0 S' 1 26 (bE (ys++[x])) jw'∧S.length≤S'.length∧(∀q B,S[q]? = some B→(ys≠[]→q≠jw)→S'[q]? = some B)∧(jw'=jw∧ys≠[]∨S.length≤jw'):=by
 obtain⟨jw',S',ap,gr⟩:=g.more (x:=.iv (.sl .full (bE [x]))) (iL.sl ..) (jG [x]) (jG ys) (b:=4) (eS (by rw[bY,bY,List.length_singleton]; omega)) h0
 rw[←lV]at ap
 have gg:=gr.gl
 rw[←lV]at gg
 refine⟨jw',S',ap,gg,gr.len,fun q B hq hn=>gr.old q B hq fun h=>hn (cQ.1 h),?_⟩
 by_cases h:ys=[]
 ·exact .inr (gr.frsh (by rw[h]; rfl) (by simp[bE,TM.one]))
 ·exact .inl ⟨gr.same (cQ.2 h),h⟩
theorem Gl.keep0 {S0 S S':aA}{ys:List Int}{jw:Nat}(g:Gl S0.length S 1 26 (bE ys) jw)(hk:gQ [] S0 S)(hl:S.length≤S'.length)(ho:∀q B,S[q]? = some B→(ys≠[]→q≠jw)→S'[q]? = some B):gQ [] S0 S' :=
 ⟨Nat.le_trans hk.len hl,fun q B hq hb=>ho q B (hk.get q B hq hb) fun hn=>by have:=g.new (cQ.2 hn); have:=cA hb; omega⟩
theorem aRk {S0:aA}(ad:List Int)(x0 x1 x2 x5:TV)(tg:Tag)(cs:List Int)(hc:∀c∈cs,isC c=true)(hl:cs.length≤2000000):∀(k i:Nat) (S:aA) (jw:Nat) (done:List Int) (x9 x5:TV),i+k=cs.length→done.length=i→Gl S0.length S 1 26 (bE done) jw→gQ [] S0 S →
  ∃S' jw' y5 y9,lp' (lim K) t57L0 [x0,x1,x2,.iv (.sl tg (TM.one i64 cs)),acc jw (bE done),x5,.iv (.sl tg (TM.one i64 cs)),.iv (.int .i64 cs.length),.iv (.int .i64 i),x9] S=.ret (.exit 0,[x0,x1,x2,.iv (.sl tg (TM.one i64 cs)),acc jw' (bE (done++(cs.drop i).map fun c=>wd ad ⟨2,c⟩)),y5,.iv (.sl tg (TM.one i64 cs)),.iv (.int .i64 cs.length),.iv (.int .i64 cs.length),y9],S')∧Gl S0.length S' 1 26 (bE (done++(cs.drop i).map fun c=>wd ad ⟨2,c⟩)) jw'∧gQ [] S0 S'
 | 0,i,S,jw,done,x9,x5,h,hd,hg,hk=>by
  obtain rfl:i=cs.length:=by omega
  rw[List.drop_length,List.map_nil,List.append_nil]
  refine⟨S,jw,x5,.iv (.bool false),aP K _ _ t57L0.eq_1 ?_,hg,hk⟩
  simp (config := { maxSteps := 4000000 }) (disch:=omega) only[go_sem]
 | k+1,i,S,jw,done,x9,x5,h,hd,hg,hk=>by
  have hla:i<cs.length:=by omega
  have hix:=rD (f:=i64) (t:=tg) (l:=cs) (i:=(i:Int)) (by omega)
  rw[Int.toNat_natCast,show cs.getD i default=cs[i] by simp[List.getD,List.getElem?_eq_getElem hla]]at hix
  have hdr:cs.drop i=cs[i]::cs.drop (i+1):=List.drop_eq_getElem_cons hla
  have c56:=aRj (hc cs[i] (List.getElem_mem _)) ad
  obtain⟨jw1,S1,ap,hg1,hl1,ho1,_⟩:=hg.row hk.len (wd ad ⟨2,cs[i]⟩) (by omega)
  obtain⟨S',jw',y5,y9,ih,hg',hk'⟩:=aRk (S0:=S0) ad x0 x1 x2 u_ tg cs hc hl k (i+1) S1 jw1 (done++[wd ad ⟨2,cs[i]⟩]) (.iv (.bool true)) (.iv (.int .i64 cs[i])) (by omega) (by simp[hd]) hg1 (hg.keep0 hk hl1 ho1)
  rw[List.append_assoc,List.singleton_append]at ih hg'
  rw[hdr,List.map_cons]
  refine⟨S',jw',y5,y9,aP K _ _ t57L0.eq_1 ?_,hg',hk'⟩
  rw[show ((i+1:Nat):Int)=(i:Int)+1 by omega]at ih
  generalize cs[i]=c at *
  unfold i64 at *
  simp (config := { maxSteps := 4000000 }) (disch:=omega) only[go_sem,hix,aJ c56,ap,aE]
  exact congrArg er ih
theorem aRl {b:Int}{S:aA}{j jp:Nat}{Λ:Ly}(h:LB b S j jp Λ)(t:List UInt8)(ht:t.length≤2000000)(hm:(push b Λ.σ ⟨4,chV t,0⟩).2.mem.length≤10000000) :
  ∃S' jm',(lim K).call 57 [.ptr j 53 0,.iv (.str t)] S=.ret (.iv (.int .u32 (wd (push b Λ.σ ⟨4,chV t,0⟩).2.ad (push b Λ.σ ⟨4,chV t,0⟩).1)),S')∧LB b S' j jp ⟨jm',Λ.jo,(push b Λ.σ ⟨4,chV t,0⟩).2,Λ.l,Λ.c⟩∧KL j jp S S' Λ ⟨jm',Λ.jo,(push b Λ.σ ⟨4,chV t,0⟩).2,Λ.l,Λ.c⟩:=by
 obtain⟨tg,e,c52⟩:=aXx t ht
 have hcl:=aCh (t:=t)
 obtain⟨S1,jw,y5,y9,l1,hg1,hk1⟩:=aRk (S0:=S) Λ.σ.ad (.ptr j 53 0) (.iv (.str t)) (.iv (.int .u32 0)) u_ tg (chs t) (aCg t) (by omega) (chs t).length 0 S 0 [] u_ u_ (by omega) rfl (Gl.nil ..) (gQ.refl [] S)
 rw[List.drop_zero,List.nil_append]at l1 hg1
 rw[show ((0:Nat):Int)=0 from rfl,show bE []=[] from rfl,fL]at l1
 have ebo:boO Λ.σ.ad ⟨4,chV t,0⟩=(chs t).map fun c=>wd Λ.σ.ad ⟨2,c⟩:=by
  unfold boO prO
  rw[if_neg (by simp),List.nil_append]
  show (chV t).map _=_
  rw[rK,List.map_map]; rfl
 obtain⟨S2,jm',c25,hL,hK⟩:=qN (h.of_keep hk1) (o:=⟨4,chV t,0⟩) (aRh _ t 4 (by decide)) hm (x:=acc jw (bE ((chs t).map fun c=>wd Λ.σ.ad ⟨2,c⟩))) (fun i=>tD i jw _) (fun S'=>by rw[fQ,bY,ebo]) (fun S' _=>by rw[ebo]; exact aIb ..)
 refine⟨S2,jm',aD K _ (fn:=t57) rfl rfl ?_,hL,(KL.of_keep hk1 j jp Λ).trans hK⟩
 have hol:=TM.cB i64 (chs t)
 simp (config := { maxSteps := 4000000 }) (disch:=omega) only[t57,go_sem,aJ c52,hol]
 rw[l1]
 simp (config := { maxSteps := 4000000 }) (disch:=omega) only[go_sem,c25]
theorem bFq {v:Int}(h0:0≤v):(dg 65536 v).length≤(dg 10 v).length:=by
 refine aCd (by decide) _ _ h0 ?_
 have h1:=xD (B:=10) (by decide) (qI (n:=v) (by decide) h0)
 rw[tJ (by decide) h0]at h1
 have h2:(10:Int) ^ (dg 10 v).length≤65536 ^ (dg 10 v).length:=by
  generalize (dg 10 v).length=n
  induction n with
  | zero=>simp
  | succ n ih=>rw[Int.pow_succ,Int.pow_succ]; have:=xE (B:=10) (by decide) n; omega
 omega
theorem aXy {s:List UInt8}(h:s.all isD=true):(dg 10 (dec s)).length≤s.length:=by
 have:=xD (B:=10) (by decide) (aLf h)
 refine aCd (by decide) _ _ (mP h) ?_
 rw[List.length_map,List.length_reverse]at this
 exact this
theorem aRm (t:List UInt8):(dg 65536 (zP t).natAbs).length≤t.length∧(dg 10 (zP t).natAbs).length≤t.length:=by
 unfold zP
 split
 ·rename_i hok
  have hall:(body t).all isD=true:=by simp only[okP,Bool.and_eq_true]at hok; exact hok.2
  have h0:=mP hall
  rw[aH9 _ h0]
  have h1:=aXy hall
  have h2:(body t).length≤t.length:=by simp only[body,List.length_drop]; omega
  have h3:=bFq h0
  omega
 ·show (dg 65536 0).length≤_∧(dg 10 0).length≤_
  rw[gS,gS]; simp
theorem aXz (t:List UInt8)(hl:t.length≤1000):∃tg e,cF tg (dg 65536 (zP t).natAbs)∧TM.Pure K 54 [.iv (.str t)] (.tup [.iv (bg tg (zP t)),.iv (.int .i64 e)]):=by
 obtain⟨tg,ht,c⟩:=bC3 t hl
 unfold zP
 by_cases hok:okP t=true
 ·have hall:(body t).all isD=true:=by simp only[okP,Bool.and_eq_true]at hok; exact hok.2
  have h0:=mP hall
  rw[if_pos hok]at c ⊢
  rw[bC4 h0]at c
  exact⟨tg,0,by rw[aH9 _ h0]; exact ht,c⟩
 ·rw[if_neg hok]at c ⊢
  exact⟨.nil,4,by show cF .nil (dg 65536 0); rw[gS]; exact cF.nil,by
   have e:bg .nil 0=num false .nil []:=by
    unfold bg
    show num (decide ((0:Int)<0)) .nil (dg 65536 0)=_
    rw[gS]; rfl
   rw[e]; exact c⟩
theorem aA5:∀W:List Int,(TM.bM (bE W)).map TV.iv=W.map fun x=>TV.iv (.int .u32 x)
 | []=>rfl
 | a::r=>by
  have:=aA5 r
  show TV.iv (.int .u32 a)::(TM.bM (bE r)).map TV.iv=_
  rw[this]; rfl
def wB (v:Nat)(W:List Int):aW:=.cells v true (W.map fun x=>TV.iv (.int .u32 x))
theorem aRn (W:List Int):TM.sub (W.map fun x=>TV.iv (.int .u32 x)) 0 W.length=some (W.map fun x=>TV.iv (.int .u32 x)):=by
 simp[TM.sub]
 exact List.take_of_length_le (by simp)
theorem bDa {S:aA}{b v:Nat}{W:List Int}{n:Nat}(hn:n=W.length)(h:S[b]? = some (wB v W)):iL S (.msl b v 0 n n 1) (bE W):=by
 subst hn
 refine⟨?_,by rw[bY]; rfl⟩
 rw[aA5]
 unfold wB at h
 simp only[hU,h,if_true,Nat.mul_one,aRn]
theorem aX0 {S:aA}{v:Nat}{W:List Int}{n:Nat}(hn:n=W.length)(h0:n≤1000000)(x:Int) :
  bR false 1 4 26 (S++[wB v W]) (.msl S.length v 0 n n 1) (.iv (.sl .full [[.int .u32 x]]))=some (.msl S.length (v+1) 0 (n+1) (n+1) 1,S++[wB (v+1) (W++[x])]):=by
 subst hn
 have hr:(S++[wB v W])[S.length]? = some (.cells v true (W.map fun x=>TV.iv (.int .u32 x))):=by simp[wB]
 have hs:=aRn W
 have hro:fF (W.length+1) 4=true:=eS (by omega)
 have hx:hU (S++[wB v W]) (.iv (.sl .full [[.int .u32 x]]))=some [.iv (.int .u32 x)]:=rfl
 have hl:lenOf (S++[wB v W]) (.iv (.sl .full [[.int .u32 x]]))=some 1:=rfl
 have hset:∀B,(S++[wB v W]).set S.length B=S++[B]:=fun B=>by simp
 have hm:wB (v+1) (W++[x])=.cells (v+1) true (W.map (fun x=>TV.iv (.int .u32 x))++[.iv (.int .u32 x)]):=by unfold wB; rw[List.map_append]; rfl
 rw[hm]
 generalize W.map (fun x=>TV.iv (.int .u32 x))=cs at *
 generalize S++[wB v W]=SS at *
 simp[bR,hx,hl,hr,hs,hro,hset,bL]
theorem aRo {S0:aA}(x0 x1 x2 x3 x4 x5 x8 x9:TV)(tg:Tag)(ds:List Int)(hd:Dig 65536 ds)(hl:ds.length≤100000):∀(k i v:Nat) (W:List Int) (x7 x13:TV),i+k=ds.length→W.length=i+1 →
  ∃v' y7 y13,lp' (lim K) t55L0 [x0,x1,x2,x3,x4,x5,.msl S0.length v 0 (i+1) (i+1) 1,x7,x8,x9,.iv (.sl tg (TM.one d16 ds)),.iv (.int .i64 ds.length),.iv (.int .i64 i),x13] (S0++[wB v W])=.ret (.exit 0,[x0,x1,x2,x3,x4,x5,.msl S0.length v' 0 (ds.length+1) (ds.length+1) 1,y7,x8,x9,.iv (.sl tg (TM.one d16 ds)),.iv (.int .i64 ds.length),.iv (.int .i64 ds.length),y13],S0++[wB v' (W++(ds.drop i).map (4*·))])
 | 0,i,v,W,x7,x13,h,hw=>by
  obtain rfl:i=ds.length:=by omega
  rw[List.drop_length,List.map_nil,List.append_nil]
  refine⟨v,x7,.iv (.bool false),aP K _ _ t55L0.eq_1 ?_⟩
  simp (config := { maxSteps := 4000000 }) (disch:=omega) only[go_sem]
 | k+1,i,v,W,x7,x13,h,hw=>by
  have hla:i<ds.length:=by omega
  have hix:=rD (f:=d16) (t:=tg) (l:=ds) (i:=(i:Int)) (by omega)
  rw[Int.toNat_natCast,show ds.getD i default=ds[i] by simp[List.getD,List.getElem?_eq_getElem hla]]at hix
  have hdr:ds.drop i=ds[i]::ds.drop (i+1):=List.drop_eq_getElem_cons hla
  have hdi:=hd ds[i] (List.getElem_mem _)
  have c59:=tM ds[i]
  have e4:w32 (w32 ds[i]*4)=4*ds[i]:=by unfold w32; rw[bJ (m:=ds[i]) (by omega),bJ (by omega)]; omega
  rw[e4]at c59
  have ap:=aX0 (S:=S0) (v:=v) hw.symm (by omega) (4*ds[i])
  obtain⟨v',y7,y13,ih⟩:=aRo (S0:=S0) x0 x1 x2 x3 x4 x5 x8 x9 tg ds hd hl k (i+1) (v+1) (W++[4*ds[i]]) (.iv (d16 ds[i])) (.iv (.bool true)) (by omega) (by simp[hw])
  rw[List.append_assoc,List.singleton_append]at ih
  rw[hdr,List.map_cons]
  refine⟨v',y7,y13,aP K _ _ t55L0.eq_1 ?_⟩
  rw[show ((i+1:Nat):Int)=(i:Int)+1 by omega]at ih
  generalize ds[i]=c at *
  unfold d16 at *
  simp (config := { maxSteps := 4000000 }) (disch:=omega) only[go_sem,hix,aJ c59,ap,aE]
  exact congrArg er ih
theorem bDb {b:Int}{S:aA}{j jp:Nat}{Λ:Ly}(h:LB b S j jp Λ){z:Int}{tg:Tag}(ht:cF tg (dg 65536 z.natAbs))(hl:(dg 65536 z.natAbs).length≤100000)(hm:(qK b z Λ.σ).2.mem.length≤10000000) :
  ∃S' jm',(lim K).call 55 [.ptr j 53 0,.iv (bg tg z)] S=.ret (.iv (.int .u32 (wd (qK b z Λ.σ).2.ad (qK b z Λ.σ).1)),S')∧LB b S' j jp ⟨jm',Λ.jo,(qK b z Λ.σ).2,Λ.l,Λ.c⟩∧KL j jp S S' Λ ⟨jm',Λ.jo,(qK b z Λ.σ).2,Λ.l,Λ.c⟩:=by
 have hdig:Dig 65536 (dg 65536 (z.natAbs:Int)):=qI (by decide) (by omega)
 have c74:=bC5 (decide (z<0)) tg (dg 65536 z.natAbs) ht hdig (by omega)
 rw[tJ (by decide) (by omega),bFo]at c74
 unfold aXt at c74
 unfold qK at *
 unfold bg num at *
 by_cases hz:-536870912≤z∧z≤536870911
 ·rw[if_pos hz]at hm ⊢
  rw[decide_eq_true hz]at c74
  have c59:=tM z
  rw[aRi Λ.σ.ad z]at c59
  refine⟨S,Λ.jm,aD K _ (fn:=t55) rfl rfl ?_,h,KL.refl ..⟩
  simp (config := { maxSteps := 4000000 }) (disch:=omega) only[t55,go_sem,aJ c74,aJ c59,if_true]
 ·rw[if_neg hz]at hm ⊢
  rw[decide_eq_false hz]at c74
  have c0:=tM 0
  have c1:=tM 1
  rw[show w32 (w32 0*4)=0 from rfl]at c0
  rw[show w32 (w32 1*4)=4 from rfl]at c1
  have hod:(TM.one d16 (dg 65536 (z.natAbs:Int))).length=(dg 65536 (z.natAbs:Int)).length:=TM.cB ..
  have h2:(dg 65536 (z.natAbs:Int))≠[]:=by
   rw[ne_eq,aQ2 (by decide) (by omega)]; omega
  obtain⟨d0,dr,hds⟩:=List.exists_cons_of_ne_nil h2
  have hd0:=hdig d0 (by rw[hds]; simp)
  have c59:=tM d0
  have e4:w32 (w32 d0*4)=4*d0:=by unfold w32; rw[bJ (m:=d0) (by omega),bJ (by omega)]; omega
  rw[e4]at c59
  generalize hw0:(if z<0 then (4:Int) else 0)=w0 at *
  have ap0:bR false 1 4 26 (S++[aW.cells 0 false [.iv (.int .u32 w0)]]) (.msl S.length 0 0 1 1 1) (.iv (.sl .full [[.int .u32 (4*d0)]]))=some (.msl (S++[aW.cells 0 false [.iv (.int .u32 w0)]]).length 0 0 2 2 1,S++[aW.cells 0 false [.iv (.int .u32 w0)]]++[wB 0 [w0,4*d0]]):=by
   have hr:(S++[aW.cells 0 false [TV.iv (.int .u32 w0)]])[S.length]? = some (.cells 0 false [.iv (.int .u32 w0)]):=by simp
   have hx:hU (S++[aW.cells 0 false [TV.iv (.int .u32 w0)]]) (.iv (.sl .full [[.int .u32 (4*d0)]]))=some [.iv (.int .u32 (4*d0))]:=rfl
   have hl:lenOf (S++[aW.cells 0 false [TV.iv (.int .u32 w0)]]) (.iv (.sl .full [[.int .u32 (4*d0)]]))=some 1:=rfl
   have hro:fF 2 4=true:=rfl
   have hm:wB 0 [w0,4*d0]=.cells 0 true [.iv (.int .u32 w0),.iv (.int .u32 (4*d0))]:=rfl
   rw[hm]
   generalize S++[aW.cells 0 false [TV.iv (.int .u32 w0)]]=SS at *
   simp[bR,hx,hl,hr,hro,bL,TM.sub]
  obtain⟨v',y7,y13,l1⟩:=aRo (S0:=S++[aW.cells 0 false [.iv (.int .u32 w0)]]) (.ptr j 53 0) (.iv (.agg [.bool (decide (z<0)),.sl tg (TM.one d16 (dg 65536 z.natAbs))])) (.lb [.iv (.bool (decide (z<0))),.iv (.sl tg (TM.one d16 (dg 65536 z.natAbs)))]) (.iv (.int .u32 0)) (.iv (.int .i64 0)) (.iv (.bool false)) (.iv (.bool false)) (.iv (.bool (decide (z<0)))) tg (dg 65536 z.natAbs) hdig hl dr.length 1 0 [w0,4*d0] (.iv (d16 d0)) (.iv (.bool true)) (by rw[hds,List.length_cons]; omega) rfl
  rw[show (dg 65536 (z.natAbs:Int)).drop 1=dr by rw[hds]; rfl,List.cons_append,List.singleton_append]at l1
  rw[show ((1:Nat):Int)=0+1 from rfl]at l1
  have hix:indexAddrS 1 (.iv (.sl tg (TM.one d16 (dg 65536 (z.natAbs:Int))))) 0=some (.iv (.cp [d16 d0])):=by rw[hds]; rfl
  have l0:lp' (lim K) t55L0 [.ptr j 53 0,.iv (.agg [.bool (decide (z<0)),.sl tg (TM.one d16 (dg 65536 z.natAbs))]),.lb [.iv (.bool (decide (z<0))),.iv (.sl tg (TM.one d16 (dg 65536 z.natAbs)))],.iv (.int .u32 0),.iv (.int .i64 0),.iv (.bool false),.msl S.length 0 0 1 1 1,u_,.iv (.bool false),.iv (.bool (decide (z<0))),.iv (.sl tg (TM.one d16 (dg 65536 z.natAbs))),.iv (.int .i64 (dg 65536 (z.natAbs:Int)).length),.iv (.int .i64 0),u_] (S++[aW.cells 0 false [.iv (.int .u32 w0)]])=.ret (.exit 0,[.ptr j 53 0,.iv (.agg [.bool (decide (z<0)),.sl tg (TM.one d16 (dg 65536 z.natAbs))]),.lb [.iv (.bool (decide (z<0))),.iv (.sl tg (TM.one d16 (dg 65536 z.natAbs)))],.iv (.int .u32 0),.iv (.int .i64 0),.iv (.bool false),.msl (S++[aW.cells 0 false [.iv (.int .u32 w0)]]).length v' 0 ((dg 65536 (z.natAbs:Int)).length+1) ((dg 65536 (z.natAbs:Int)).length+1) 1,y7,.iv (.bool false),.iv (.bool (decide (z<0))),.iv (.sl tg (TM.one d16 (dg 65536 z.natAbs))),.iv (.int .i64 (dg 65536 (z.natAbs:Int)).length),.iv (.int .i64 (dg 65536 (z.natAbs:Int)).length),y13],S++[aW.cells 0 false [.iv (.int .u32 w0)]]++[wB v' (w0::4*d0::dr.map (4*·))]):=by
   refine aP K _ _ t55L0.eq_1 ?_
   have hlp:(0:Int)<((dg 65536 (z.natAbs:Int)).length:Int):=by rw[hds,List.length_cons]; omega
   unfold d16 at *
   simp (config := { maxSteps := 4000000 }) (disch:=omega) only[go_sem,hix,aJ c59,ap0,aE,hlp]
   exact congrArg er l1
  have hdm:4*d0::dr.map (4*·)=(dg 65536 (z.natAbs:Int)).map (4*·):=by rw[hds]; rfl
  rw[hdm]at l0
  have ebo:boO Λ.σ.ad ⟨7,[],z⟩=w0::(dg 65536 z.natAbs).map (4*·):=by
   unfold boO prO
   rw[if_pos rfl]
   simp[hw0]
  have hbl:(boO Λ.σ.ad ⟨7,[],z⟩).length=(dg 65536 z.natAbs).length+1:=by rw[ebo]; simp
  have hjl:=cA h.own
  obtain⟨S2,jm',c25,hL,hK⟩:=qN ((h.app [aW.cells 0 false [.iv (.int .u32 w0)]]).app [wB v' (w0::(dg 65536 z.natAbs).map (4*·))]) (o:=⟨7,[],z⟩) ⟨(fun v hv=>by cases hv),(by show (0:Int)≤7; decide),(by show (7:Int)≤7; decide)⟩ hm (x:=.msl (S++[aW.cells 0 false [.iv (.int .u32 w0)]]).length v' 0 ((dg 65536 z.natAbs).length+1) ((dg 65536 z.natAbs).length+1) 1) (fun i=>rfl) (fun S'=>by rw[hbl]; rfl) (fun S' hk=>by
   rw[ebo]
   refine bDa (by simp) (hk _ _ (by simp) (by simp; omega) fun hh=>?_)
   have:=cA (h.gm.tok (cQ.2 hh.1))
   have:=hh.2
   rw[List.length_append]at this
   omega)
  refine⟨S2,jm',aD K _ (fn:=t55) rfl rfl ?_,hL,((KL.app j jp S Λ _).trans (KL.app j jp _ Λ _)).trans hK⟩
  have hfl:∀q:Int,TM.bM [[TV.iv (.int .u32 q)]]=[TV.iv (.int .u32 q)]:=fun q=>rfl
  have hia:indexAddrS 1 (.msl S.length 0 0 1 1 1) 0=some (.ptr S.length 0 0):=rfl
  have hg0:∀B:aW,(S++[B])[S.length]? = some B:=fun B=>by simp
  have hs0:∀B B':aW,(S++[B]).set S.length B'=S++[B']:=fun B B'=>by simp
  by_cases hn:z<0
  ·rw[if_pos hn]at hw0
   subst hw0
   rw[decide_eq_true hn]at *
   simp (config := { maxSteps := 4000000 }) (disch:=omega) only[t55,go_sem,aJ c74,aJ c0,aJ c1,hod,Bool.false_eq_true,if_false,hia,hfl,hg0,hs0]
   rw[l0]
   simp (config := { maxSteps := 4000000 }) (disch:=omega) only[go_sem,c25]
  ·rw[if_neg hn]at hw0
   subst hw0
   rw[decide_eq_false hn]at *
   simp (config := { maxSteps := 4000000 }) (disch:=omega) only[t55,go_sem,aJ c74,aJ c0,hod,Bool.false_eq_true,if_false,hfl]
   rw[l0]
   simp (config := { maxSteps := 4000000 }) (disch:=omega) only[go_sem,c25]
theorem xI {k:Nat}{a m:Int}(h:0≤a∧a≤4294967295)(hk:k≤32)(hm:m=2 ^ k-1):IntKind.u32.wrap (fP 32 a m)=a % 2 ^ k:=by
 subst hm
 have h2:(2:Int) ^ k≤2 ^ 32:=zX hk
 have h3:(0:Int)<2 ^ k:=Int.pow_pos (by decide)
 have h4:=Int.emod_nonneg a (show (2:Int) ^ k≠0 by omega)
 have h5:=Int.emod_lt_of_pos a h3
 unfold fP
 rw[aHs (k:=k) ⟨h.1,by omega⟩ (by omega)]
 rw[bJ (by omega)]
 omega
theorem eN {a:Int}(h:0≤a∧a≤4294967295):IntKind.u32.wrap (fP 32 a 3)=a % 4:=xI (k:=2) h (by decide) (by decide)
theorem aA6 {a:Int}(h:0≤a∧a≤4294967295):IntKind.u32.wrap (fP 32 a 7)=a % 8:=xI (k:=3) h (by decide) (by decide)
theorem aIc {a:Int}(h:0≤a∧a≤4294967295):IntKind.u32.wrap (fP 32 a 15)=a % 16:=xI (k:=4) h (by decide) (by decide)
def pos (L:List Ob)(n:Nat):Nat:=((L.take n).map fD).sum
theorem rL (L:List Ob):pos L 0=0:=rfl
theorem rM {L:List Ob}{i:Nat}(h:i<L.length):pos L (i+1)=pos L i+fD L[i]:=by
 unfold pos
 rw[List.take_add_one,List.getElem?_eq_getElem h,Option.toList,List.map_append,List.sum_append]; rfl
theorem aLk {b:Int}{σ:Sg}(h:Gd b σ):pos σ.L σ.L.length=σ.mem.length:=by
 unfold pos
 rw[List.take_length,tL h]
theorem kZ (o:Ob):1≤fD o:=by unfold fD; omega
theorem xJ (L:List Ob){i k:Nat}(h:i<k)(hk:k≤L.length):pos L i<pos L k:=by
 induction k with
 | zero=>omega
 | succ k ih =>
  have hs:=rM (L:=L) (i:=k) (by omega)
  have:=kZ (L[k]'(by omega))
  by_cases e:i=k
  ·subst e; omega
  ·have:=ih (by omega) (by omega); omega
theorem mR {b:Int}{σ:Sg}(h:Gd b σ){i:Nat}(hi:i<σ.L.length):pos σ.L i+fD σ.L[i]≤σ.mem.length:=by
 rw[←rM hi,←aLk h]
 by_cases e:i+1=σ.L.length
 ·rw[e]; exact Nat.le_refl _
 ·exact Nat.le_of_lt (xJ _ (by omega) (Nat.le_refl _))
theorem aRp {b:Int}{σ:Sg}(h:Gd b σ){n:Nat}(hn:n<σ.L.length):σ.ad.getD n 0=b+pos σ.L n:=by
 rw[List.getD_eq_getElem?_getD,h.ap n hn]; rfl
theorem aLl (ad:List Int):∀(L:List Ob) (n:Nat) (h:n<L.length),∃r,(L.flatMap (ow ad)).drop (pos L n)=ow ad L[n]++r
 | [],n,h=>by simp at h
 | o::L,0,h=>⟨L.flatMap (ow ad),by rw[rL,List.drop_zero,List.flatMap_cons]; rfl⟩
 | o::L,n+1,h=>by
  obtain⟨r,hr⟩:=aLl ad L n (by simpa using h)
  refine⟨r,?_⟩
  have e:pos (o::L) (n+1)=(ow ad o).length+pos L n:=by unfold pos; rw[List.take_succ_cons,List.map_cons,List.sum_cons,aCe]
  rw[e,List.flatMap_cons,←List.drop_drop,List.drop_left]
  exact hr
theorem aEz {b:Int}{σ:Sg}(h:Gd b σ){n:Nat}(hn:n<σ.L.length):∃r,σ.mem.drop (pos σ.L n)=ow σ.ad σ.L[n]++r:=by
 rw[h.me]; exact aLl σ.ad σ.L n hn
theorem aCi (ad:List Int)(o:Ob):(boO ad o).length+1=fD o:=by rw[←aCe ad o]; unfold ow; rfl
def hdO (ad:List Int)(o:Ob):Int:=32*((boO ad o).length:Int)+4*o.ty+3
theorem xK {b:Int}{σ:Sg}(h:Gd b σ){n:Nat}(hn:n<σ.L.length):σ.mem[pos σ.L n]? = some (hdO σ.ad σ.L[n]):=by
 obtain⟨r,hr⟩:=aEz h hn
 have:(σ.mem.drop (pos σ.L n))[0]? = some (hdO σ.ad σ.L[n]):=by rw[hr]; rfl
 rw[List.getElem?_drop]at this
 exact this
theorem aE0 {b:Int}{σ:Sg}(h:Gd b σ){n:Nat}(hn:n<σ.L.length):(σ.mem.drop (pos σ.L n+1)).take (boO σ.ad σ.L[n]).length=boO σ.ad σ.L[n]:=by
 obtain⟨r,hr⟩:=aEz h hn
 rw[←List.drop_drop,hr]
 show (boO σ.ad σ.L[n]++r).take _=_
 exact List.take_left
theorem bDc {b:Int}{σ:Sg}(h:Gd b σ){n k:Nat}(hn:n<σ.L.length)(hk:k<(boO σ.ad σ.L[n]).length):σ.mem[pos σ.L n+1+k]? = (boO σ.ad σ.L[n])[k]? := by
 have:=aE0 h hn
 rw[←this,List.getElem?_take,if_pos hk,List.getElem?_drop]
theorem aE1:∀(L:List Ob) (k:Nat),k<(L.map fD).sum→∃n,∃h:n<L.length,pos L n≤k∧k<pos L n+fD L[n]
 | [],k,h=>by simp at h
 | o::L,k,h=>by
  rw[List.map_cons,List.sum_cons]at h
  by_cases hk:k<fD o
  ·exact⟨0,by simp,by rw[rL]; omega,by rw[rL]; simpa using hk⟩
  ·obtain⟨n,hn,h1,h2⟩:=aE1 L (k-fD o) (by omega)
   have e:pos (o::L) (n+1)=fD o+pos L n:=by unfold pos; rw[List.take_succ_cons,List.map_cons,List.sum_cons]
   exact⟨n+1,by simpa using hn,by rw[e]; omega,by rw[e]; simp only[List.getElem_cons_succ]; omega⟩
def iM (L:List Ob)(i:Nat)(k:Nat):Bool:=(List.range i).any fun n=>pos L n==k
theorem oZ (L:List Ob)(i k:Nat):iM L i k=true↔∃n,n<i∧pos L n=k:=by
 unfold iM
 rw[List.any_eq_true]
 constructor
 ·rintro⟨n,hn,h⟩
  exact⟨n,List.mem_range.1 hn,by simpa using h⟩
 ·rintro⟨n,hn,h⟩
  exact⟨n,List.mem_range.2 hn,by simpa using h⟩
theorem aId (L:List Ob)(i k:Nat):iM L (i+1) k=(iM L i k||pos L i==k):=by
 unfold iM
 rw[List.range_succ,List.any_append]; simp
def aIe (b:Int)(L:List Ob)(w:Int):Prop:=0≤w∧w≤4294967295∧¬w % 4=3∧(w % 4=1→∃n,n<L.length∧w / 4-b=pos L n)
theorem aRq {b:Int}{σ:Sg}(h:Gd b σ)(hb:0≤b∧b+σ.mem.length≤67108864){v:Vv}(hv:OkV σ.L.length v):aIe b σ.L (wd σ.ad v):=by
 unfold wd w32
 simp only[nF]
 by_cases h7:v.k=7
 ·have hn:=hv.1 h7
  have hnl:v.n.toNat<σ.L.length:=by omega
  rw[if_neg (by omega),if_neg (by omega),if_neg (by omega),if_neg (by omega),if_neg (by omega),if_neg (by omega),if_neg (by omega),aRp h hnl]
  have:=mR h hnl
  have:=kZ σ.L[v.n.toNat]
  refine⟨by omega,by omega,by omega,fun _=>⟨v.n.toNat,hnl,by omega⟩⟩
 ·have hk:=hv.2 h7
  by_cases h1:v.k=1
  ·rw[if_pos h1]; exact⟨by omega,by omega,by omega,by omega⟩
  rw[if_neg h1]
  by_cases h2:v.k=2
  ·rw[if_pos h2]; exact⟨by omega,by omega,by omega,by omega⟩
  rw[if_neg h2]
  split
  ·exact⟨by decide,by decide,by decide,by omega⟩
  split
  ·exact⟨by decide,by decide,by decide,by omega⟩
  split
  ·exact⟨by decide,by decide,by decide,by omega⟩
  split
  ·exact⟨by decide,by decide,by decide,by omega⟩
  split
  ·exact⟨by decide,by decide,by decide,by omega⟩
  ·omega
theorem bFr {b:Int}{σ:Sg}(h:Gd b σ)(hb:0≤b∧b+σ.mem.length≤67108864){o:Ob}(ho:OkO σ.L.length o):∀w∈boO σ.ad o,aIe b σ.L w:=by
 intro w hw
 unfold boO at hw
 rcases List.mem_append.1 hw with hw|hw
 ·unfold prO at hw
  split at hw
  ·rcases List.mem_cons.1 hw with rfl|hw
   ·split
    ·exact⟨by decide,by decide,by decide,by omega⟩
    ·exact⟨by decide,by decide,by decide,by omega⟩
   ·obtain⟨x,hx,rfl⟩:=List.mem_map.1 hw
    have:=qI (B:=65536) (n:=(o.z.natAbs:Int)) (by decide) (by omega) x hx
    refine⟨by omega,by omega,by omega,by omega⟩
  ·cases hw
 ·obtain⟨v,hv,rfl⟩:=List.mem_map.1 hw
  exact aRq h hb (ho.1 v hv)
theorem bDd {b:Int}{σ:Sg}(h:Gd b σ)(hb:0≤b∧b+σ.mem.length≤67108864){k:Nat}{w:Int}(hk:σ.mem[k]? = some w) :
  (iM σ.L σ.L.length k=true∧w % 4=3∧0≤w∧w≤4294967295)∨(iM σ.L σ.L.length k=false∧aIe b σ.L w):=by
 have hlt:=(List.getElem?_eq_some_iff.1 hk).1
 obtain⟨n,hn,h1,h2⟩:=aE1 σ.L k (by rw[←tL h]; exact hlt)
 have hvd:=h.vd σ.L[n] (List.getElem_mem _)
 have hbl:=aCi σ.ad σ.L[n]
 have hpl:=mR h hn
 by_cases e:pos σ.L n=k
 ·refine .inl ⟨(oZ ..).2 ⟨n,hn,e⟩,?_⟩
  have:=xK h hn
  rw[e,hk]at this
  cases this
  have:=hvd.2
  unfold hdO
  refine⟨by omega,by omega,by omega⟩
 ·refine .inr ⟨?_,?_⟩
  ·cases hp:iM σ.L σ.L.length k with
   | false=>rfl
   | true =>
    obtain⟨m,hm,hme⟩:=(oZ ..).1 hp
    exfalso
    rcases Nat.lt_trichotomy m n with h3|h3|h3
    ·have:=xJ σ.L h3 (by omega); omega
    ·subst h3; exact e hme
    ·have h4:=rM hn
     by_cases h5:m=n+1
     ·subst h5; omega
     ·have:=xJ σ.L (i:=n+1) (k:=m) (by omega) (by omega); omega
  ·obtain⟨q,rfl⟩:∃q,k=pos σ.L n+1+q:=⟨k-pos σ.L n-1,by omega⟩
   rw[bDc h hn (by omega)]at hk
   exact bFr h hb hvd w (List.mem_of_getElem? hk)
def rdB (b:Int)(t:Tag)(mem:List Int)(p:Int):aW:=.cells 77 false [.iv (.int .i64 b),.iv (.sl t (bE mem)),.iv (.int .i64 p),.iv (.int .i64 0)]
theorem aCj {b:Int}{t:Tag}{mem:List Int}{p:Int}{S:aA}{j:Nat}(h:S[j]? = some (rdB b t mem p))(hp:0≤p∧p<1048576)(dp:Int)(hd:0≤dp∧dp≤1000):(lim K).call 42 [.ptr j 77 0,.iv (.int .i64 dp)] S=.ret (.iv (.bool true),S.set j (rdB b t mem (p+1))):=by
 have es:=fun B=>cX (cA h) B
 have h1:¬(1048576<p+1):=by omega
 have h2:¬(1000<dp):=by omega
 refine aD K _ (fn:=t42) rfl rfl ?_
 unfold rdB at *
 simp (config := { maxSteps := 4000000 }) (disch:=omega) only[t42,go_sem,h,es,h1,h2,aE]
theorem xL {S:aA}{j:Nat}{B:aW}(h:S[j]? = some B):S.set j B=S:=by
 obtain⟨hlt,e⟩:=List.getElem?_eq_some_iff.1 h
 rw[←e,List.set_getElem_self]
structure RdC (b:Int) (σ:Sg) (t:Tag):Prop where
 gd:Gd b σ
 b0:0≤b∧b+σ.mem.length≤67108864
 tg:cF t (bE σ.mem)
theorem wd7 {b:Int}{σ:Sg}{t:Tag}(h:RdC b σ t){n:Nat}(hn:n<σ.L.length):wd σ.ad ⟨7,n⟩=4*(b+pos σ.L n)+1:=by
 unfold wd w32
 simp only[nF]
 rw[if_neg (by simp),if_neg (by simp),if_neg (by simp),if_neg (by simp),if_neg (by simp),if_neg (by simp),if_neg (by simp)]
 rw[Int.toNat_natCast,aRp h.gd hn]
 have:=mR h.gd hn
 have:=h.b0
 omega
theorem wN {b:Int}{σ:Sg}{t:Tag}(h:RdC b σ t){n:Nat}(hn:n<σ.L.length){S:aA}{j:Nat}{p:Int}(hS:S[j]? = some (rdB b t σ.mem p)) :
  ∃tg,(lim K).call 44 [.ptr j 77 0,.iv (.int .u32 (wd σ.ad ⟨7,n⟩))] S=.ret (.tup [.iv (.int .i64 σ.L[n].ty),.iv (.sl tg (bE (boO σ.ad σ.L[n])))],S):=by
 rw[wd7 h hn]
 have hpl:=mR h.gd hn
 have hb:=h.b0
 have hbl:=aCi σ.ad σ.L[n]
 have hvd:=h.gd.vd σ.L[n] (List.getElem_mem _)
 have hty:=hvd.2
 have hhd:=xK h.gd hn
 have hbody:=aE0 h.gd hn
 have hsp:=kZ σ.L[n]
 have hml:=bY σ.mem
 have hix:indexAddrS 1 (.iv (.sl t (bE σ.mem))) (pos σ.L n:Int)=some (.iv (.cp [.int .u32 (hdO σ.ad σ.L[n])])):=by
  refine aHr (by omega) ?_ rfl
  rw[Int.toNat_natCast]
  show (σ.mem.map fun x=>[IV.int .u32 x])[_]? = _
  rw[List.getElem?_map,hhd]; rfl
 have htg:cF t σ.mem:=fun e=>by
  have:=h.tg e
  cases hm:σ.mem with
  | nil=>rfl
  | cons a r=>rw[hm]at this; cases this
 have hsl:=aQb (f:=.int .u32) [] (t:=t) (l:=σ.mem) (a:=(pos σ.L n:Int)+1) (b:=(pos σ.L n:Int)+1+(boO σ.ad σ.L[n]).length) htg (by omega)
 have e1:((pos σ.L n:Int)+1).toNat=pos σ.L n+1:=by omega
 have e2:((pos σ.L n:Int)+1+(boO σ.ad σ.L[n]).length).toNat-((pos σ.L n:Int)+1).toNat=(boO σ.ad σ.L[n]).length:=by omega
 rw[e2,e1,hbody]at hsl
 obtain⟨tg,hsl'⟩:∃tg,cZ [] (.sl 1) (.iv (.sl t (bE σ.mem))) (some ((pos σ.L n:Int)+1)) (some ((pos σ.L n:Int)+1+(boO σ.ad σ.L[n]).length)) none=some (.iv (.sl tg (bE (boO σ.ad σ.L[n])))):=⟨_,hsl⟩
 have hsl2:∀S',cZ S' (.sl 1) (.iv (.sl t (bE σ.mem))) (some ((pos σ.L n:Int)+1)) (some ((pos σ.L n:Int)+1+(boO σ.ad σ.L[n]).length)) none=some (.iv (.sl tg (bE (boO σ.ad σ.L[n])))):=fun S'=>hsl'
 have f1:IntKind.u32.wrap (fP 32 (4*(b+pos σ.L n)+1) 3)=1:=by rw[eN (by omega)]; omega
 have f2:IntKind.u32.wrap (fP 32 (hdO σ.ad σ.L[n]) 3)=3:=by rw[eN (by unfold hdO; omega)]; unfold hdO; omega
 have f3:(4*(b+(pos σ.L n:Int))+1) / 4=b+pos σ.L n:=by omega
 have f4:hdO σ.ad σ.L[n] / 32=(boO σ.ad σ.L[n]).length:=by unfold hdO; omega
 have f5:IntKind.u32.wrap (fP 32 (hdO σ.ad σ.L[n] / 4) 7)=σ.L[n].ty:=by rw[aA6 (by unfold hdO; omega)]; unfold hdO; omega
 have f6:b+(pos σ.L n:Int)-b=pos σ.L n:=by omega
 have f0:0≤hdO σ.ad σ.L[n]∧hdO σ.ad σ.L[n]≤4294967295:=by unfold hdO; omega
 refine⟨tg,aD K _ (fn:=t44) rfl rfl ?_⟩
 unfold rdB at hS
 generalize hdO σ.ad σ.L[n]=hd at *
 generalize σ.L[n]=o at *
 generalize boO σ.ad o=bo at *
 generalize pos σ.L n=q at *
 clear hvd hhd hbody h htg hsl hsl'
 simp (config := { maxSteps := 4000000 }) (disch:=omega) only[t44,go_sem,hS,f1,f2,f3,f4,f5,f6,hml,hix,hsl2,Int.fdiv_eq_ediv_of_nonneg,aE,bJ]
def lW (σ:Sg)(t:List UInt8)(i:Nat):Sg:=⟨σ.L,σ.ad,σ.mem,σ.sy++[(t,i)]⟩
theorem lX {b:Int}{t:List UInt8}{σ:Sg}(h:σ.sy.find? (fun x=>x.1==t)=none) :
  qL b t σ=((push b (push b σ ⟨4,chV t,0⟩).2 ⟨5,[(push b σ ⟨4,chV t,0⟩).1],0⟩).1,lW (push b (push b σ ⟨4,chV t,0⟩).2 ⟨5,[(push b σ ⟨4,chV t,0⟩).1],0⟩).2 t (push b σ ⟨4,chV t,0⟩).2.L.length):=by
 unfold qL
 rw[h]
 rfl
theorem lY {b:Int}{t:List UInt8}{σ:Sg}{x:List UInt8×Nat}(h:σ.sy.find? (fun x=>x.1==t)=some x):qL b t σ=(⟨7,x.2⟩,σ):=by
 unfold qL
 rw[h]
theorem aX1 {b:Int}{t:List UInt8}{σ:Sg}(h:Gd b σ)(hok:okC t=true):Gd b (lW (push b (push b σ ⟨4,chV t,0⟩).2 ⟨5,[(push b σ ⟨4,chV t,0⟩).1],0⟩).2 t (push b σ ⟨4,chV t,0⟩).2.L.length)∧OkO (push b σ ⟨4,chV t,0⟩).2.L.length ⟨5,[(push b σ ⟨4,chV t,0⟩).1],0⟩:=by
 have h1:=aCf h (aRh σ.L.length t 4 (by decide))
 have ho:OkO (push b σ ⟨4,chV t,0⟩).2.L.length ⟨5,[(push b σ ⟨4,chV t,0⟩).1],0⟩:=⟨fun v hv=>by
  rw[List.mem_singleton]at hv; subst hv; exact kC b σ _,(by show (0:Int)≤5; decide),(by show (5:Int)≤7; decide)⟩
 have h2:=aCf h1 ho
 refine⟨⟨h2.al,h2.me,h2.vd,h2.ap,(by
  have h3:=h.sl
  show (σ.sy++[(t,_)]).length≤(σ.L++[_]++[_]).length
  simp only[List.length_append,List.length_singleton]; omega),fun x hx=>?_⟩,ho⟩
 rcases List.mem_append.1 hx with hx|hx
 ·exact h2.sy x hx
 ·rw[List.mem_singleton]at hx
  subst hx
  refine⟨hok,σ.L.length,?_,?_⟩
  ·show ((σ.L++[⟨4,chV t,0⟩])++[⟨5,[⟨7,σ.L.length⟩],0⟩])[(σ.L++[(⟨4,chV t,0⟩:Ob)]).length]? = _
   simp
  ·show ((σ.L++[⟨4,chV t,0⟩])++[⟨5,[⟨7,σ.L.length⟩],0⟩])[σ.L.length]? = _
   simp
theorem aRr {b:Int}{σ:Sg}(h:Gd b σ)(r:List Int):(σ.sy.map fun x=>wd (σ.ad++r) ⟨7,x.2⟩)=iK σ:=by
 unfold iK
 refine List.map_congr_left fun y hy=>?_
 obtain⟨_,i,h1,h2⟩:=h.sy y hy
 refine xH (v:=⟨7,y.2⟩) (fun _=>?_) (fun h=>absurd rfl h)
 have:=(List.getElem?_eq_some_iff.1 h1).1
 have:=h.al
 show 0≤((y.2:Nat):Int)∧((y.2:Nat):Int)<σ.ad.length
 omega
theorem LB.note {b:Int}{S:aA}{j jp:Nat}{Λ:Ly}(h:LB b S j jp Λ){t:List UInt8}{i:Nat}(hno:Λ.σ.sy.find? (fun x=>x.1==t)=none)(hg:Gd b (lW Λ.σ t i))(hl:(iK Λ.σ).length≤10000000) :
  ∃jo' S',bR false 1 4 26 (S.set jp (.mp (mpK enS wdV (mL Λ.l Λ.c t (wd Λ.σ.ad ⟨7,i⟩))) (wG Λ.l Λ.c t))) (acc Λ.jo (bE (iK Λ.σ))) (.iv (.sl .full [[.int .u32 (wd Λ.σ.ad ⟨7,i⟩)]]))=some (acc jo' (bE (iK (lW Λ.σ t i))),S')∧S'[j]? = some (lyB b jp Λ) ∧
   LB b (S'.set j (lyB b jp ⟨Λ.jm,jo',lW Λ.σ t i,mL Λ.l Λ.c t (wd Λ.σ.ad ⟨7,i⟩),wG Λ.l Λ.c t⟩)) j jp ⟨Λ.jm,jo',lW Λ.σ t i,mL Λ.l Λ.c t (wd Λ.σ.ad ⟨7,i⟩),wG Λ.l Λ.c t⟩∧KL j jp S (S'.set j (lyB b jp ⟨Λ.jm,jo',lW Λ.σ t i,mL Λ.l Λ.c t (wd Λ.σ.ad ⟨7,i⟩),wG Λ.l Λ.c t⟩)) Λ ⟨Λ.jm,jo',lW Λ.σ t i,mL Λ.l Λ.c t (wd Λ.σ.ad ⟨7,i⟩),wG Λ.l Λ.c t⟩:=by
 have hnj:=h.nej
 have tk:=h.tkj
 have s1:∀q B,S[q]? = some B→q≠jp→(S.set jp (.mp (mpK enS wdV (mL Λ.l Λ.c t (wd Λ.σ.ad ⟨7,i⟩))) (wG Λ.l Λ.c t)))[q]? = some B:=fun q B hq hn=>by rw[bD (Ne.symm hn)]; exact hq
 have g1:Gl 0 (S.set jp (.mp (mpK enS wdV (mL Λ.l Λ.c t (wd Λ.σ.ad ⟨7,i⟩))) (wG Λ.l Λ.c t))) 1 26 (bE (iK Λ.σ)) Λ.jo:=⟨fun hn=>s1 _ _ (h.go.tok hn) (tk _ (.inr ⟨cQ.1 hn,rfl⟩)).2,fun _=>Nat.zero_le _⟩
 have mp1:=cX (cA h.mp) (aW.mp (mpK enS wdV (mL Λ.l Λ.c t (wd Λ.σ.ad ⟨7,i⟩))) (wG Λ.l Λ.c t))
 obtain⟨jo',S',ap,g2,len2,old2,fr2⟩:=g1.row (Nat.zero_le _) (wd Λ.σ.ad ⟨7,i⟩) (by omega)
 rw[List.length_set]at len2 fr2
 have eo:iK (lW Λ.σ t i)=iK Λ.σ++[wd Λ.σ.ad ⟨7,i⟩]:=by unfold iK lW; simp
 rw[←eo]at ap g2
 have o1:S'[j]? = some (lyB b jp Λ):=old2 _ _ (s1 _ _ h.own hnj) fun hn e=>(tk _ (.inr ⟨hn,e⟩)).1 rfl
 have kk:∀q B,S[q]? = some B→q≠j→q≠jp→¬TkO Λ q→(S'.set j (lyB b jp ⟨Λ.jm,jo',lW Λ.σ t i,mL Λ.l Λ.c t (wd Λ.σ.ad ⟨7,i⟩),wG Λ.l Λ.c t⟩))[q]? = some B:=fun q B hq h1 h2 h3=>by
  rw[bD (Ne.symm h1)]
  exact old2 q B (s1 q B hq h2) fun hn e=>h3 ⟨hn,e⟩
 have hne:bE (iK (lW Λ.σ t i))≠[]:=by rw[eo]; exact cQ.2 (by simp)
 have tj:jo'≠j:=fun e=>by
  have:=g2.tok hne
  rw[e,o1]at this; unfold lyB at this; cases this
 refine⟨jo',S',ap,o1,⟨cX (cA o1) _,⟨fun hn=>?_,fun _=>Nat.zero_le _⟩,⟨fun hn=>by rw[bD (Ne.symm tj)]; exact g2.tok hn,fun _=>Nat.zero_le _⟩,?_,fun q hq hq2=>?_,fun u=>?_,hg,h.b0⟩,⟨by rw[List.length_set]; exact len2,fun q B hq h1 h2 h3 h4=>kk q B hq h1 h2 h4,fun q hq=>?_⟩⟩
 ·have ht:TkM Λ Λ.jm:=⟨cQ.1 hn,rfl⟩
  exact kk _ _ (h.gm.tok hn) (tk _ (.inl ht)).1 (tk _ (.inl ht)).2 (h.dis _ ht)
 ·rw[bD hnj]
  exact old2 _ _ mp1 fun hn e=>(tk _ (.inr ⟨hn,e⟩)).2 rfl
 ·have hq1:TkM Λ q:=hq
  have e2:q=jo':=hq2.2
  rcases fr2 with⟨e3,h3⟩|h3
  ·exact h.dis q hq1 ⟨h3,by rw[e2,e3]⟩
  ·have:=cA (h.gm.tok (cQ.2 hq1.1))
   have:=hq1.2
   omega
 ·show nH (mL Λ.l Λ.c t (wd Λ.σ.ad ⟨7,i⟩)) u=((Λ.σ.sy++[(t,i)]).find? fun x=>x.1==u).map fun x=>wd Λ.σ.ad ⟨7,x.2⟩
  rw[aH0,List.find?_append]
  by_cases hu:t=u
  ·subst hu
   rw[if_pos rfl,hno]
   simp
  ·rw[if_neg hu,h.kv u]
   have:([(t,i)].find? fun x=>x.1==u)=none:=by simp[hu]
   rw[this,Option.or_none]
 ·rcases hq with hq|hq
  ·exact .inl hq
  ·rcases fr2 with⟨e3,h3⟩|h3
   ·exact .inr (.inl ⟨h3,by rw[hq.2]; exact e3⟩)
   ·refine .inr (.inr ?_)
    have:q=jo':=hq.2
    omega
theorem bDe {b:Int}{S:aA}{j jp:Nat}{Λ:Ly}(h:LB b S j jp Λ)(t:List UInt8)(ht:t.length≤2000000)(hok:okC t=true)(hm:(qL b t Λ.σ).2.mem.length≤10000000) :
  ∃S' Λ',(lim K).call 58 [.ptr j 53 0,.iv (.str t)] S=.ret (.iv (.int .u32 (wd (qL b t Λ.σ).2.ad (qL b t Λ.σ).1)),S')∧LB b S' j jp Λ'∧KL j jp S S' Λ Λ'∧Λ'.σ=(qL b t Λ.σ).2:=by
 have lk:=bBn keS wdV Λ.l Λ.c (.agg [.int .u32 0]) true t
 have hol:(iK Λ.σ).length≤10000000:=by
  have h1:=aRd h.gd
  have h2:=(aRa b t Λ.σ).len.1
  unfold iK; rw[List.length_map]; omega
 have ho:=h.own
 have hmp:=h.mp
 cases hf:Λ.σ.sy.find? (fun x=>x.1==t) with
 | some x =>
  rw[lY hf]at hm ⊢
  rw[h.kv t,hf]at lk
  refine⟨S,Λ,aD K _ (fn:=t58) rfl rfl ?_,h,KL.refl ..,rfl⟩
  unfold lyB at ho
  unfold wdV enS at *
  simp only[Option.map_some,if_true]at lk
  simp (config := { maxSteps := 4000000 }) (disch:=omega) only[t58,go_sem,ho,hmp,lk]
 | none =>
  have hg3:=aX1 (t:=t) h.gd hok
  rw[lX hf]at hm ⊢
  obtain⟨S1,jm1,c57,hL1,hK1⟩:=aRl h t ht (Nat.le_trans (LeS.push b (push b Λ.σ ⟨4,chV t,0⟩).2 ⟨5,[(push b Λ.σ ⟨4,chV t,0⟩).1],0⟩).len.1 hm)
  rw[h.kv t,hf]at lk
  have ebo:boO (push b Λ.σ ⟨4,chV t,0⟩).2.ad ⟨5,[(push b Λ.σ ⟨4,chV t,0⟩).1],0⟩=[wd (push b Λ.σ ⟨4,chV t,0⟩).2.ad (push b Λ.σ ⟨4,chV t,0⟩).1]:=by
   unfold boO prO
   rw[if_neg (by simp)]; rfl
  obtain⟨S2,jm2,c25,hL2,hK2⟩:=qN hL1 (o:=⟨5,[(push b Λ.σ ⟨4,chV t,0⟩).1],0⟩) hg3.2 hm (x:=.iv (.sl .full [[.int .u32 (wd (push b Λ.σ ⟨4,chV t,0⟩).2.ad (push b Λ.σ ⟨4,chV t,0⟩).1)]])) (fun i=>rfl) (fun S'=>by rw[ebo]; rfl) (fun S' _=>by rw[ebo]; exact iL.sl ..)
  have hoe:iK (push b (push b Λ.σ ⟨4,chV t,0⟩).2 ⟨5,[(push b Λ.σ ⟨4,chV t,0⟩).1],0⟩).2=iK Λ.σ:=by
   have:=aRr h.gd ([b+Λ.σ.mem.length]++[b+(push b Λ.σ ⟨4,chV t,0⟩).2.mem.length])
   rw[←List.append_assoc]at this
   exact this
  obtain⟨jo',S3,ap,o3,hL3,hK3⟩:=hL2.note (t:=t) (i:=(push b Λ.σ ⟨4,chV t,0⟩).2.L.length) hf hg3.1 (by show (iK (push b (push b Λ.σ ⟨4,chV t,0⟩).2 _).2).length≤_; rw[hoe]; exact hol)
  have o2:=hL2.own
  have mp2:=hL2.mp
  have up:=fun (env:Env)=>bBo keS wdV Λ.l Λ.c env S2 jp t (x:=wdV (wd (push b (push b Λ.σ ⟨4,chV t,0⟩).2 ⟨5,[(push b Λ.σ ⟨4,chV t,0⟩).1],0⟩).2.ad ⟨7,(push b Λ.σ ⟨4,chV t,0⟩).2.L.length⟩)) _ rfl rfl
  have c25':(lim K).call 25 [.ptr j 53 0,.iv (.int .i64 5),.iv (.sl .full [[.int .u32 (wd (push b Λ.σ ⟨4,chV t,0⟩).2.ad (push b Λ.σ ⟨4,chV t,0⟩).1)]])] S1=.ret (.iv (.int .u32 (wd (push b (push b Λ.σ ⟨4,chV t,0⟩).2 ⟨5,[(push b Λ.σ ⟨4,chV t,0⟩).1],0⟩).2.ad ⟨7,(push b Λ.σ ⟨4,chV t,0⟩).2.L.length⟩)),S2):=c25
  refine⟨_,_,aD K _ (fn:=t58) (r:=(.iv (.int .u32 (wd (push b (push b Λ.σ ⟨4,chV t,0⟩).2 ⟨5,[(push b Λ.σ ⟨4,chV t,0⟩).1],0⟩).2.ad ⟨7,(push b Λ.σ ⟨4,chV t,0⟩).2.L.length⟩)),_)) rfl rfl ?_,hL3,(hK1.trans hK2).trans hK3,rfl⟩
  dsimp only at ap o2 mp2 o3 ⊢
  unfold lyB at *
  dsimp only at ap o2 mp2 o3 ⊢
  generalize hp1:push b Λ.σ ⟨4,chV t,0⟩=p1 at *
  generalize hp2:push b p1.2 ⟨5,[p1.1],0⟩=p2 at *
  have e2:(lW p2.2 t p1.2.L.length).mem=p2.2.mem:=rfl
  rw[e2]
  have os2:∀B,(S2.set jp B)[j]? = S2[j]? := fun B=>bD (Ne.symm hL2.nej) B
  clear hL1 hK1 hL2 hK2 hL3 hK3 h hg3 hm hol
  unfold wdV enS at *
  simp only[Option.map_none,if_true]at lk
  generalize wd p2.2.ad ⟨7,p1.2.L.length⟩=w2 at *
  generalize wd p1.2.ad p1.1=w1 at *
  simp (config := { maxSteps := 4000000 }) (disch:=omega) only[t58,go_sem,ho,hmp,lk,c57,c25',o2,mp2,up,ap,o3,os2]
mutual
def plF:Dt→Bool
 | .mk k n t g ks p=>!decide (k=5∧n≠0)&&pls ks
def pls:List Dt→Bool
 | []=>true
 | d::ds=>plF d&&pls ds
end
theorem aLm:∀ks:List Dt,pls ks=ks.all plF
 | []=>by rw[pls]; rfl
 | d::ds=>by rw[pls,aLm ds]; rfl
theorem aRs (d:Dt):plF d=(!decide (d.k=5∧d.n≠0)&&d.ks.all plF):=by
 cases d; rw[plF,aLm]; rfl
theorem bFs {d:Dt}(h:eB d=true)(h6:d.k=6):d.ks.length=2:=by
 by_cases h2:d.ks.length=2
 ·exact h2
 ·rw[kB,if_neg (fun hh=>h2 hh.2),if_neg (by omega)]at h
  simp[nQ,h6]at h
theorem rN {d x:Dt}(h:eB d=true)(hx:x∈d.ks):eB x=true:=by
 rw[kB]at h
 split at h
 ·exact List.all_eq_true.1 h x hx
 ·split at h
  ·exact List.all_eq_true.1 h x hx
  ·rw[Bool.and_eq_true,List.isEmpty_iff]at h
   rw[h.1]at hx; cases hx
theorem aRt (M:Nat)(hM:M≤1048576)(ih:∀d:Dt,d.w≤M→eB d=true→TM.Pure K 23 [.iv (.agg (cJ d))] (.iv (.bool (plF d))))(x0:TV)(S:aA):∀(N:Nat),N≤M+1→∀(d:Dt) (x2 x3 x4:TV),d.w≤N→eB d=true →
  ∃j d' r y3 y4,(j=.ret∧r=.iv (.bool false)∧plF d=false∨j=.exit 0∧r=x2∧plF d'=plF d∧d'.w≤d.w∧eB d'=true) ∧
   lp' (lim K) t23L0 [x0,aXh d,x2,x3,x4] S=.ret (j,[x0,aXh d',r,y3,y4],S)
 | 0,hN,d,x2,x3,x4,hd,hm0=>by have:=Dt.w_eq d; omega
 | N+1,hN,d,x2,x3,x4,hd,hm0=>by
  have hw:=Dt.w_eq d
  have hl:=Dt.ws_len d.ks
  by_cases h6:d.k=6
  ·obtain⟨a,b,hk⟩:=aCb (bFs hm0 h6)
   have hab:a.w+b.w+1≤d.w:=by rw[hw,hk,Dt.ws,Dt.ws,Dt.ws]; omega
   have ha:=ih a (by omega) (rN hm0 (by rw[hk]; simp))
   rw[bC]at ha
   have hm:plF d=(plF a&&plF b):=by rw[aRs d,hk]; simp[h6]
   have i0:=ix0 d.g a b
   have i1:=ix1 d.g a b
   rw[←hk]at i0 i1
   cases hma:plF a with
   | false =>
    rw[hma]at ha
    refine⟨.ret,d,.iv (.bool false),?_,?_,.inl ⟨rfl,rfl,by rw[hm,hma,Bool.false_and]⟩,aP K _ _ t23L0.eq_1 ?_⟩
    rotate_left 2
    ·simp (config := { maxSteps := 4000000 }) (disch:=omega) only[go_sem,bN,h6,i0,wZ,aJ ha]
     rfl
   | true =>
    rw[hma]at ha
    obtain⟨j,d',r,y3,y4,hj,ih2⟩:=aRt M hM ih x0 S N (by omega) b x2 (.iv (.bool true)) (.iv (.bool false)) (by omega) (rN hm0 (by rw[hk]; simp))
    refine⟨j,d',r,y3,y4,?_,aP K _ _ t23L0.eq_1 ?_⟩
    ·rw[hm,hma,Bool.true_and]
     rcases hj with h|⟨h1,h2,h3,h4,h5⟩
     ·exact .inl h
     ·exact .inr ⟨h1,h2,h3,by omega,h5⟩
    ·simp (config := { maxSteps := 4000000 }) (disch:=omega) only[go_sem,bN,h6,i0,i1,wZ,aJ ha]
     exact congrArg er ih2
  ·refine⟨.exit 0,d,x2,?_,?_,.inr ⟨rfl,rfl,rfl,Nat.le_refl _,hm0⟩,aP K _ _ t23L0.eq_1 ?_⟩
   rotate_left 2
   ·simp (config := { maxSteps := 4000000 }) (disch:=omega) only[go_sem,bN,h6]
    first|done|rfl
theorem aRu:∀(N:Nat),N≤1048576→∀d:Dt,d.w≤N→eB d=true→TM.Pure K 23 [.iv (.agg (cJ d))] (.iv (.bool (plF d)))
 | 0,hN,d,hd,hm0=>by have:=Dt.w_eq d; omega
 | N+1,hN,d,hd,hm0=>by
  have ih:=aRu N (by omega)
  obtain⟨j,d',r,y3,y4,hj,hl⟩:=aRt N (by omega) ih (.iv (.agg (cJ d))) [] (N+1) (by omega) d (.iv (.bool false)) u_ u_ hd hm0
  rcases hj with⟨rfl,rfl,hm⟩|⟨rfl,rfl,hm,hw',hm1⟩
  ·refine dC (S:=[]) (r:=.iv (.bool false)) (aD K _ (fn:=t23) rfl rfl ?_) (by rw[bW,hm])
   rw[bC]at hl ⊢
   simp (config := { maxSteps := 4000000 }) (disch:=omega) only[t23,go_sem]
   rw[hl]
   simp (config := { maxSteps := 4000000 }) (disch:=omega) only[go_sem]
  ·have hwd:=Dt.w_eq d'
   have hwl:=Dt.ws_len d'.ks
   have h86:∀x∈d'.ks,TM.Pure K 36 [.iv (.agg (cJ x))] (.iv (.bool (!plF x))):=by
    intro x hx
    have hc:=ih x (by have:=Dt.kid_lt hx; omega) (rN hm1 hx)
    refine dC (S:=[]) (r:=.iv (.bool (!plF x))) (aD K _ (fn:=t36) rfl rfl ?_) (by rw[bW])
    rw[bC]at hc ⊢
    simp (config := { maxSteps := 4000000 }) (disch:=omega) only[t36,go_sem,aJ hc]
   have h83:=aCa 36 (fun x=>!plF x) d'.g d'.ks (by omega) h86 []
   refine dC (S:=[]) (r:=.iv (.bool (plF d'))) (aD K _ (fn:=t23) rfl rfl ?_) (by rw[bW,hm])
   rw[bC]at hl ⊢
   rw[aRs d']
   simp (config := { maxSteps := 4000000 }) (disch:=omega) only[t23,go_sem]
   rw[hl]
   by_cases h5:d'.k=5
   ·by_cases h0:d'.n=0
    ·have:decide (d'.k=5∧d'.n≠0)=false:=by simp[h0]
     simp (config := { maxSteps := 4000000 }) (disch:=omega) only[go_sem,h83,rI,this,Bool.not_false,Bool.true_and]
    ·have:decide (d'.k=5∧d'.n≠0)=true:=by simp[h0,h5]
     simp (config := { maxSteps := 4000000 }) (disch:=omega) only[go_sem,this,Bool.not_true,Bool.false_and]
   ·have:decide (d'.k=5∧d'.n≠0)=false:=by simp[h5]
    simp (config := { maxSteps := 4000000 }) (disch:=omega) only[go_sem,h83,rI,this,Bool.not_false,Bool.true_and]
theorem aRv (x0 x3:TV):∀(n:Nat) (d:Dt) (done:List Dt) (x4:TV),d.w≤n→done.length+d.w≤1048576 →
  ∃y4 S',lp' (lim K) t12L0 [x0,lbD d,acc 0 (done.map cJ),x3,x4] (lS 5 37 (done.map cJ))=.ret (.exit 0,[x0,lbD (cE n d).2,acc 0 ((done++(cE n d).1).map cJ),x3,y4],S')
 | 0,d,done,x4,h,hl=>by have:=Dt.w_eq d; omega
 | n+1,d,done,x4,h,hl=>by
  have c31:=aXd d (lS 5 37 (done.map cJ))
  by_cases hp:d.pr=true
  ·have h2:=aB8 hp
   have m0:=Dt.kid_lt (mO (l:=d.ks) (i:=0) (by omega))
   have m1:=Dt.kid_lt (mO (l:=d.ks) (i:=1) (by omega))
   have hx:=ixD (g:=d.g) (ks:=d.ks) (i:=0) (by omega)
   have hx1:=ixD (g:=d.g) (ks:=d.ks) (i:=1) (by omega)
   rw[Int.toNat_zero]at hx
   rw[show (1:Int).toNat=1 from rfl]at hx1
   rw[cE,if_pos hp]
   rw[hp]at c31
   generalize d.ks.getD 0 default=u at *
   generalize d.ks.getD 1 default=u1 at *
   obtain⟨x5',S',ih⟩:=aRv x0 x3 n u1 (done++[u]) (.iv (.bool true)) (by omega) (by simp only[List.length_append,List.length_cons,List.length_nil]; omega)
   have ha:=wY (w:=5) (b:=64) (el:=37) (t:=.full) (aB9 u) (eR.map aB9 done) (eS (by rw[List.length_map]; omega))
   have em:(done++[u]).map cJ=done.map cJ++[cJ u]:=by simp
   rw[em,List.append_assoc]at ih
   refine⟨x5',S',aP K _ _ t12L0.eq_1 ?_⟩
   rw[bC u]at ha ih
   simp (config := { maxSteps := 4000000 }) (disch:=omega) only[go_sem,bN,c31,hx,hx1,wZ,ha,gP,fU]
   exact congrArg er ih
  ·rw[cE,if_neg hp,List.append_nil]
   rw[Bool.not_eq_true]at hp
   rw[hp]at c31
   refine⟨.iv (.bool false),lS 5 37 (done.map cJ),aP K _ _ t12L0.eq_1 ?_⟩
   simp (config := { maxSteps := 4000000 }) (disch:=omega) only[go_sem,c31]
theorem aRw (n:Nat)(d:Dt)(hn:d.w≤n)(hd:d.w≤1048576):Pure K 12 [agD d] (.tup [.iv (.sl (kJ (cE n d).1) (aY (cE n d).1)),agD (cE n d).2]):=by
 obtain⟨x4',S',e⟩:=aRv (agD d) (.lb [.iv (.int .i64 0),.iv (.int .i64 0),.iv (.str []),.iv (.sl .nil []),.iv (.int .i64 0)]) n d [] u_ hn (by simp only[List.length_nil]; omega)
 rw[List.map_nil,fL,jU,List.nil_append]at e
 rw[eM]
 generalize cE n d=q at *
 obtain⟨q1,q2⟩:=q
 refine bP t12 rfl rfl ?_
 simp only at e ⊢
 simp (config := { maxSteps := 4000000 }) (disch:=omega) only[t12,go_sem]
 rw[e]
 simp (config := { maxSteps := 4000000 }) (disch:=omega) only[go_sem,tC,gP,fU]
def lZ (b:Int)(n:Nat)(d:Dt):Prop:=∀(S:aA) (j jp:Nat) (Λ:Ly),LB b S j jp Λ→(fM b n d Λ.σ).2.mem.length≤10000000 →
 ∃S' Λ',(lim K).call 37 [.ptr j 53 0,.iv (.agg (cJ d))] S=.ret (.iv (.int .u32 (wd (fM b n d Λ.σ).2.ad (fM b n d Λ.σ).1)),S')∧LB b S' j jp Λ'∧KL j jp S S' Λ Λ'∧Λ'.σ=(fM b n d Λ.σ).2∧OkV (fM b n d Λ.σ).2.L.length (fM b n d Λ.σ).1
theorem LB.notok {b:Int}{S:aA}{j jp:Nat}{Λ:Ly}(h:LB b S j jp Λ){q:Nat}{B:aW}(hq:S[q]? = some B)(ht:∀n,B≠.tok n 1 26):¬TkM Λ q∧¬TkO Λ q:=by
 refine⟨fun hh=>?_,fun hh=>?_⟩
 ·have h1:=h.gm.tok (cQ.2 hh.1)
  rw[←hh.2,hq]at h1; cases h1; exact ht _ rfl
 ·have h1:=h.go.tok (cQ.2 hh.1)
  rw[←hh.2,hq]at h1; cases h1; exact ht _ rfl
theorem mA {b:Int}{σ τ:Sg}(h:Gd b σ)(l:LeS σ τ){xs:List Vv}(hx:∀v∈xs,OkV σ.L.length v):xs.map (wd τ.ad)=xs.map (wd σ.ad):=by
 obtain⟨r,hr⟩:=l.ad
 rw[hr]
 exact List.map_congr_left fun v hv=>xH (by rw[h.al]; exact (hx v hv).1) (hx v hv).2
theorem aRx {b:Int}(x0 x1:TV)(j jp:Nat){g:Tag}{ks:List Dt}(hks:∀f d,d∈ks→2*d.w≤f→lZ b f d)(hl:ks.length≤1048576):∀(k i f:Nat) (S:aA) (Λ:Ly) (jw:Nat) (done:List Vv) (x3 x7:TV),i+k=ks.length→2*Dt.ws (ks.drop i)+1≤f→LB b S j jp Λ→Gl 0 S 1 26 (bE (done.map (wd Λ.σ.ad))) jw→(done≠[]→¬TkM Λ jw∧¬TkO Λ jw)→(∀v∈done,OkV Λ.σ.L.length v)→done.length≤i→(cG b f (ks.drop i) Λ.σ).2.mem.length≤10000000 →
  ∃S' Λ' jw' y3 y7,lp' (lim K) t24L0 [.ptr j 53 0,x1,acc jw (bE (done.map (wd Λ.σ.ad))),x3,.iv (.sl g (aY ks)),.iv (.int .i64 ks.length),.iv (.int .i64 i),x7] S=.ret (.exit 0,[.ptr j 53 0,x1,acc jw' (bE ((done++(cG b f (ks.drop i) Λ.σ).1).map (wd (cG b f (ks.drop i) Λ.σ).2.ad))),y3,.iv (.sl g (aY ks)),.iv (.int .i64 ks.length),.iv (.int .i64 ks.length),y7],S')∧LB b S' j jp Λ'∧(∀S0 Λ0,KL j jp S0 S Λ0 Λ→(done≠[]→S0.length≤jw)→KL j jp S0 S' Λ0 Λ')∧Λ'.σ=(cG b f (ks.drop i) Λ.σ).2∧(∀v∈done++(cG b f (ks.drop i) Λ.σ).1,OkV (cG b f (ks.drop i) Λ.σ).2.L.length v)
 | 0,i,f,S,Λ,jw,done,x3,x7,h,hf,hL,hg,hd,hv,hdl,hm=>by
  obtain rfl:i=ks.length:=by omega
  rw[List.drop_length]at *
  have e:cG b f [] Λ.σ=([],Λ.σ):=by cases f<;>rw[cG]
  rw[e,List.append_nil]
  have hle:=bN ks
  refine⟨S,Λ,jw,x3,.iv (.bool false),aP K _ _ t24L0.eq_1 ?_,hL,fun S0 Λ0 hk _=>hk,rfl,hv⟩
  simp (config := { maxSteps := 4000000 }) (disch:=omega) only[go_sem,hle]
 | k+1,i,f,S,Λ,jw,done,x3,x7,h,hf,hL,hg,hd,hv,hdl,hm=>by
  have hla:i<ks.length:=by omega
  have hle:=bN ks
  have hdr:ks.drop i=ks[i]::ks.drop (i+1):=List.drop_eq_getElem_cons hla
  rw[hdr,Dt.ws]at hf
  obtain⟨f,rfl⟩:∃q,f=q+1:=⟨f-1,by omega⟩
  have hwi:=Dt.w_eq ks[i]
  rw[hdr,cG]at hm ⊢
  dsimp only at hm ⊢
  obtain⟨S1,Λ1,c37,hL1,hK1,hσ1,hv1⟩:=hks f ks[i] (List.getElem_mem _) (by omega) S j jp Λ hL (Nat.le_trans (wL b f _ _).len.1 hm)
  have hle1:=xG b f ks[i] Λ.σ
  have hwe:=mA hL.gd hle1 hv
  -- the row stands
  have hg1:Gl 0 S1 1 26 (bE (done.map (wd Λ.σ.ad))) jw:=⟨fun hn=>by
   have hd':=hd fun e=>hn (by rw[e]; rfl)
   have ht:=hg.tok hn
   have hj:jw≠j∧jw≠jp:=by
    refine⟨fun e=>?_,fun e=>?_⟩
    ·rw[e,hL.own]at ht; unfold lyB at ht; cases ht
    ·rw[e,hL.mp]at ht; cases ht
   exact hK1.old _ _ ht hj.1 hj.2 hd'.1 hd'.2,fun _=>Nat.zero_le _⟩
  obtain⟨jw2,S2,ap,hg2,hl2,ho2,hn2⟩:=hg1.row (Nat.zero_le _) (wd (fM b f ks[i] Λ.σ).2.ad (fM b f ks[i] Λ.σ).1) (by rw[List.length_map]; omega)
  have hst:done.map (wd Λ.σ.ad)++[wd (fM b f ks[i] Λ.σ).2.ad (fM b f ks[i] Λ.σ).1]=(done++[(fM b f ks[i] Λ.σ).1]).map (wd Λ1.σ.ad):=by
   rw[hσ1,List.map_append,hwe]; rfl
  rw[hst]at ap hg2
  have nt1:done≠[]→¬TkM Λ1 jw∧¬TkO Λ1 jw:=fun hn=>by
   have hd':=hd hn
   have hlt:=cA (hg.tok (cQ.2 (by simpa using hn)))
   refine⟨fun hh=>?_,fun hh=>?_⟩
   ·rcases hK1.new _ (.inl hh) with h3|h3|h3
    ·exact hd'.1 h3
    ·exact hd'.2 h3
    ·omega
   ·rcases hK1.new _ (.inr hh) with h3|h3|h3
    ·exact hd'.1 h3
    ·exact hd'.2 h3
    ·omega
  have tlt:∀q,TkM Λ1 q∨TkO Λ1 q→q<S1.length:=fun q hq=>by
   rcases hq with hq|hq
   ·rw[hq.2]; exact cA (hL1.gm.tok (cQ.2 hq.1))
   ·rw[hq.2]; exact cA (hL1.go.tok (cQ.2 hq.1))
  have hL2:LB b S2 j jp Λ1:=hL1.keep fun q B hq hh=>ho2 q B hq fun hn e=>by
   have hn':done≠[]:=fun e0=>hn (by rw[e0]; rfl)
   have ht:=hg1.tok (cQ.2 hn)
   rcases hh with h3|h3|h3|h3
   ·rw[←e,h3,hL1.own]at ht; unfold lyB at ht; cases ht
   ·rw[←e,h3,hL1.mp]at ht; cases ht
   ·exact (nt1 hn').1 (e▸h3)
   ·exact (nt1 hn').2 (e▸h3)
  have nt2:¬TkM Λ1 jw2∧¬TkO Λ1 jw2:=by
   rcases hn2 with⟨e1,hn⟩|hn
   ·rw[e1]; exact nt1 fun e0=>hn (by rw[e0]; rfl)
   ·exact⟨fun hh=>by have:=tlt _ (.inl hh); omega,fun hh=>by have:=tlt _ (.inr hh); omega⟩
  have hix:=ixD (g:=g) (ks:=ks) (i:=(i:Int)) (by omega)
  have hgd:ks.getD i default=ks[i]:=by simp[List.getD,List.getElem?_eq_getElem hla]
  rw[Int.toNat_natCast,hgd]at hix
  rw[←hσ1]at hm hv1 ⊢
  obtain⟨S',Λ',jw',y3,y7,ih,hL',hK',hσ',hv'⟩:=aRx x0 x1 j jp (g:=g) hks hl k (i+1) f S2 Λ1 jw2 (done++[(fM b f ks[i] Λ.σ).1]) (lbD ks[i]) (.iv (.bool true)) (by omega) (by omega) hL2 hg2 (fun _=>nt2) (fun v hv2=>by
   rcases List.mem_append.1 hv2 with hv2|hv2
   ·exact (hv v hv2).mono (by rw[hσ1]; exact hle1.len.2)
   ·rw[List.mem_singleton]at hv2; subst hv2; exact hv1) (by rw[List.length_append,List.length_singleton]; omega) hm
  rw[List.append_assoc,List.singleton_append]at ih hv'
  rw[show ((i+1:Nat):Int)=(i:Int)+1 by omega]at ih
  refine⟨S',Λ',jw',y3,y7,aP K _ _ t24L0.eq_1 ?_,hL',fun S0 Λ0 hk0 hj0=>hK' S0 Λ0 ?_ ?_,hσ',hv'⟩
  ·rw[hσ1]at ap
   have hx:(fM b f ks[i] Λ.σ).2.ad=Λ1.σ.ad:=by rw[hσ1]
   rw[hx]at c37 ap
   generalize ks[i]=d at *
   rw[bC d]at c37 hix
   simp (config := { maxSteps := 4000000 }) (disch:=omega) only[go_sem,hle,hix,aMo,c37,ap,aE,gP,fU]
   exact congrArg er ih
  ·have h1:=hk0.trans hK1
   exact⟨Nat.le_trans h1.len hl2,fun q B hq a1 a2 a3 a4=>ho2 q B (h1.old q B hq a1 a2 a3 a4) fun hn e=>by
    have:=hj0 fun e0=>hn (by rw[e0]; rfl)
    have:=cA hq
    omega,h1.new⟩
  ·intro _
   rcases hn2 with⟨e1,hn⟩|hn
   ·rw[e1]; exact hj0 fun e0=>hn (by rw[e0]; rfl)
   ·exact Nat.le_trans (hk0.trans hK1).len hn
theorem aIf {b:Int}{ks:List Dt}(hks:∀f d,d∈ks→2*d.w≤f→lZ b f d)(hl:ks.length≤1048576){f:Nat}(hf:2*Dt.ws ks+1≤f)(g:Tag){S:aA}{j jp:Nat}{Λ:Ly}(h:LB b S j jp Λ)(hm:(cG b f ks Λ.σ).2.mem.length≤10000000) :
  ∃S' Λ' jw,(lim K).call 24 [.ptr j 53 0,.iv (.sl g (aY ks))] S=.ret (acc jw (bE ((cG b f ks Λ.σ).1.map (wd (cG b f ks Λ.σ).2.ad))),S')∧LB b S' j jp Λ'∧KL j jp S S' Λ Λ'∧Λ'.σ=(cG b f ks Λ.σ).2∧∀v∈(cG b f ks Λ.σ).1,OkV (cG b f ks Λ.σ).2.L.length v:=by
 have hle:=bN ks
 obtain⟨S',Λ',jw',y3,y7,l1,hL',hK',hσ',hv'⟩:=aRx u_ (.iv (.sl g (aY ks))) j jp (g:=g) hks hl ks.length 0 f S Λ 0 [] u_ u_ (by omega) (by rw[List.drop_zero]; exact hf) h (Gl.nil ..) (fun h=>absurd rfl h) (fun v hv=>by cases hv) (Nat.le_refl _) (by rw[List.drop_zero]; exact hm)
 rw[List.drop_zero,List.nil_append]at l1 hv'
 rw[List.drop_zero]at hσ'
 rw[show ((0:Nat):Int)=0 from rfl,List.map_nil,show bE []=[] from rfl,fL]at l1
 refine⟨S',Λ',jw',aD K _ (fn:=t24) rfl rfl ?_,hL',hK' S Λ (KL.refl ..) (fun h=>absurd rfl h),hσ',hv'⟩
 simp (config := { maxSteps := 4000000 }) (disch:=omega) only[t24,go_sem,hle]
 rw[l1]
 simp (config := { maxSteps := 4000000 }) (disch:=omega) only[go_sem,aHv]
theorem gN0 (S:aA)(a:aW)(r:aA):(S++a::r)[S.length]? = some a:=by simp
theorem sN0 (S:aA)(a x:aW)(r:aA):(S++a::r).set S.length x=S++x::r:=by rw[List.set_append_right _ _ (Nat.le_refl _)]; simp
attribute [go_sem] gN0 sN0
def bxB (j:Nat):aW:=.cells 50 false [.ptr j 53 0]
theorem aMz {b:Int}{n:Nat}{d:Dt}(hm0:eB d=true)(hk:d.k=1∨d.k=3∨d.k=9∨d.k=10∨d.k=0):lZ b (n+1) d:=by
 intro S j jp Λ h hm
 have hks:d.ks.isEmpty=true∧nQ d=true:=by
  rw[kB,if_neg (by omega),if_neg (by omega),Bool.and_eq_true]at hm0
  exact hm0
 have hL:=h.app [bxB j]
 have hKL:=KL.app j jp S Λ [bxB j]
 rw[fM]at hm ⊢
 rcases hk with hk|hk|hk|hk|hk
 ·have hn:d.n=0∨d.n=1:=by have:=hks.2; unfold nQ at this; simpa[hk] using this
  have c53:=bC9 hn Λ.σ.ad
  rw[if_pos hk]
  refine⟨S++[bxB j],Λ,aD K _ (fn:=t37) rfl rfl ?_,hL,hKL,rfl,⟨(fun h=>by simp at h),fun _=>by simp⟩⟩
  rw[bC]
  unfold bxB
  simp (config := { maxSteps := 4000000 }) (disch:=omega) only[t37,go_sem,hk,aJ c53]
 ·have hn:isC d.n=true:=by have:=hks.2; unfold nQ at this; simpa[hk] using this
  have c56:=aRj hn Λ.σ.ad
  rw[if_neg (by omega),if_neg (by omega),if_pos hk]
  refine⟨S++[bxB j],Λ,aD K _ (fn:=t37) rfl rfl ?_,hL,hKL,rfl,⟨(fun h=>by simp at h),fun _=>by simp⟩⟩
  rw[bC]
  unfold bxB
  simp (config := { maxSteps := 4000000 }) (disch:=omega) only[t37,go_sem,hk,aJ c56]
 ·rw[if_neg (by omega),if_neg (by omega),if_neg (by omega),if_neg (by omega),if_neg (by omega),if_neg (by omega),if_neg (by omega),if_neg (by omega),if_pos hk]
  refine⟨S++[bxB j],Λ,aD K _ (fn:=t37) rfl rfl ?_,hL,hKL,rfl,⟨(fun h=>by simp at h),fun _=>by simp⟩⟩
  rw[bC,show wd Λ.σ.ad ⟨5,0⟩=54 from rfl]
  unfold bxB
  simp (config := { maxSteps := 4000000 }) (disch:=omega) only[t37,go_sem,hk]
 ·rw[if_neg (by omega),if_neg (by omega),if_neg (by omega),if_neg (by omega),if_neg (by omega),if_neg (by omega),if_neg (by omega),if_neg (by omega),if_neg (by omega),if_pos hk]
  refine⟨S++[bxB j],Λ,aD K _ (fn:=t37) rfl rfl ?_,hL,hKL,rfl,⟨(fun h=>by simp at h),fun _=>by simp⟩⟩
  rw[bC,show wd Λ.σ.ad ⟨6,0⟩=70 from rfl]
  unfold bxB
  simp (config := { maxSteps := 4000000 }) (disch:=omega) only[t37,go_sem,hk]
 ·rw[if_neg (by omega),if_neg (by omega),if_neg (by omega),if_neg (by omega),if_neg (by omega),if_neg (by omega),if_neg (by omega),if_neg (by omega),if_neg (by omega),if_neg (by omega)]
  refine⟨S++[bxB j],Λ,aD K _ (fn:=t37) rfl rfl ?_,hL,hKL,rfl,⟨(fun h=>by simp at h),fun _=>by simp⟩⟩
  rw[bC,show wd Λ.σ.ad ⟨4,0⟩=38 from rfl]
  unfold bxB
  simp (config := { maxSteps := 4000000 }) (disch:=omega) only[t37,go_sem,hk]
theorem aX2 {b:Int}{n:Nat}{d:Dt}(hw:d.w≤1000)(hk:d.k=2):lZ b (n+1) d:=by
 intro S j jp Λ h hm
 have hww:=Dt.w_eq d
 obtain⟨tg,e,ht,c54⟩:=aXz d.t (by omega)
 have hz:=aRm d.t
 rw[fM,if_neg (by omega),if_pos hk]at hm ⊢
 obtain⟨S',jm',c55,hL',hK'⟩:=bDb (h.app [bxB j]) ht (by omega) hm
 refine⟨S',_,aD K _ (fn:=t37) rfl rfl ?_,hL',(KL.app j jp S Λ [bxB j]).trans hK',rfl,?_⟩
 ·rw[bC]
  unfold bxB bg num at *
  simp (config := { maxSteps := 4000000 }) (disch:=omega) only[t37,go_sem,hk,aJ c54,c55,gP,fU]
 ·unfold qK
  split
  ·exact⟨(fun h=>by simp at h),fun _=>by simp⟩
  ·exact kC ..
theorem aX3 {b:Int}{n:Nat}{d:Dt}(hw:d.w≤1000)(hk:d.k=4):lZ b (n+1) d:=by
 intro S j jp Λ h hm
 have hww:=Dt.w_eq d
 rw[fM,if_neg (by omega),if_neg (by omega),if_neg (by omega),if_pos hk]at hm ⊢
 obtain⟨S',jm',c57,hL',hK'⟩:=aRl (h.app [bxB j]) d.t (by omega) hm
 refine⟨S',_,aD K _ (fn:=t37) rfl rfl ?_,hL',(KL.app j jp S Λ [bxB j]).trans hK',rfl,kC ..⟩
 rw[bC]
 unfold bxB at *
 simp (config := { maxSteps := 4000000 }) (disch:=omega) only[t37,go_sem,hk,c57]
theorem bDf {b:Int}{t:List UInt8}{σ:Sg}(h:Gd b σ):OkV (qL b t σ).2.L.length (qL b t σ).1:=by
 cases hf:σ.sy.find? (fun x=>x.1==t) with
 | some x =>
  rw[lY hf]
  obtain⟨_,i,h1,h2⟩:=h.sy x (List.mem_of_find?_eq_some hf)
  have:=(List.getElem?_eq_some_iff.1 h1).1
  refine⟨fun _=>?_,fun h=>absurd rfl h⟩
  show 0≤((x.2:Nat):Int)∧((x.2:Nat):Int)<σ.L.length
  omega
 | none =>
  rw[lX hf]
  exact kC b _ _
theorem aX4 {b:Int}{n:Nat}{d:Dt}(hw:d.w≤1000)(hm0:eB d=true)(hk:d.k=5):lZ b (n+1) d:=by
 intro S j jp Λ h hm
 have hww:=Dt.w_eq d
 have hok:okC d.t=true:=by
  rw[kB,if_neg (by omega),if_neg (by omega),Bool.and_eq_true]at hm0
  have:=hm0.2; unfold nQ at this
  simp[hk]at this
  exact this.1
 rw[fM,if_neg (by omega),if_neg (by omega),if_neg (by omega),if_neg (by omega),if_pos hk]at hm ⊢
 obtain⟨S',Λ',c58,hL',hK',hσ'⟩:=bDe (h.app [bxB j]) d.t (by omega) hok hm
 refine⟨S',Λ',aD K _ (fn:=t37) rfl rfl ?_,hL',(KL.app j jp S Λ [bxB j]).trans hK',hσ',bDf h.gd⟩
 rw[bC]
 unfold bxB at *
 simp (config := { maxSteps := 4000000 }) (disch:=omega) only[t37,go_sem,hk,c58]
theorem bG6 {tg:Tag}{t:List UInt8}{i:Nat}(h:i<t.length):indexAddrS 1 (.iv (.sl tg (aF t))) (i:Int)=some (.iv (.cp [.int .u8 t[i].toNat])):=by
 have he:(aF t)[i]? = some [.int .u8 t[i].toNat]:=by unfold aF; rw[List.getElem?_map,List.getElem?_eq_getElem h]; rfl
 exact aHr (by omega) (by rw[Int.toNat_natCast]; exact he) rfl
theorem aRy {S0:aA}(ad:List Int)(x0 x1 x2 x3 x4 x5 x8 x9 x10 x11 x12 x13 x14 x15 x16 x17 x18 x19 x24 x25 x26 x27 x28 x29 x30:TV)(tg:Tag)(t:List UInt8)(hl:t.length≤1000000):∀(k i:Nat) (S:aA) (jw:Nat) (done:List Int) (x7 x23:TV),i+k=t.length→done.length=i→Gl S0.length S 1 26 (bE done) jw→gQ [] S0 S →
  ∃S' jw' y7 y23,lp' (lim K) t37L0 [x0,x1,x2,x3,x4,x5,acc jw (bE done),x7,x8,x9,x10,x11,x12,x13,x14,x15,x16,x17,x18,x19,.iv (.sl tg (aF t)),.iv (.int .i64 t.length),.iv (.int .i64 i),x23,x24,x25,x26,x27,x28,x29,x30] S=.ret (.exit 1,[x0,x1,x2,x3,x4,x5,acc jw' (bE (done++(t.drop i).map fun c=>wd ad ⟨1,c.toNat⟩)),y7,x8,x9,x10,x11,x12,x13,x14,x15,x16,x17,x18,x19,.iv (.sl tg (aF t)),.iv (.int .i64 t.length),.iv (.int .i64 t.length),y23,x24,x25,x26,x27,x28,x29,x30],S')∧Gl S0.length S' 1 26 (bE (done++(t.drop i).map fun c=>wd ad ⟨1,c.toNat⟩)) jw'∧gQ [] S0 S'
 | 0,i,S,jw,done,x7,x23,h,hd,hg,hk=>by
  obtain rfl:i=t.length:=by omega
  rw[List.drop_length,List.map_nil,List.append_nil]
  refine⟨S,jw,x7,.iv (.bool false),aP K _ _ t37L0.eq_1 ?_,hg,hk⟩
  simp (config := { maxSteps := 4000000 }) (disch:=omega) only[go_sem]
 | k+1,i,S,jw,done,x7,x23,h,hd,hg,hk=>by
  have hla:i<t.length:=by omega
  have hix:=bG6 (tg:=tg) hla
  have hdr:t.drop i=t[i]::t.drop (i+1):=List.drop_eq_getElem_cons hla
  have hb:t[i].toNat<256:=t[i].toNat_lt
  have c59:=tM (t[i].toNat:Int)
  rw[aRi ad]at c59
  obtain⟨jw1,S1,ap,hg1,hl1,ho1,_⟩:=hg.row hk.len (wd ad ⟨1,t[i].toNat⟩) (by omega)
  obtain⟨S',jw',y7,y23,ih,hg',hk'⟩:=aRy (S0:=S0) ad x0 x1 x2 x3 x4 x5 x8 x9 x10 x11 x12 x13 x14 x15 x16 x17 x18 x19 x24 x25 x26 x27 x28 x29 x30 tg t hl k (i+1) S1 jw1 (done++[wd ad ⟨1,t[i].toNat⟩]) (.iv (.int .u8 t[i].toNat)) (.iv (.bool true)) (by omega) (by simp[hd]) hg1 (hg.keep0 hk hl1 ho1)
  rw[List.append_assoc,List.singleton_append]at ih hg'
  rw[hdr,List.map_cons]
  refine⟨S',jw',y7,y23,aP K _ _ t37L0.eq_1 ?_,hg',hk'⟩
  rw[show ((i+1:Nat):Int)=(i:Int)+1 by omega]at ih
  generalize t[i].toNat=c at *
  simp (config := { maxSteps := 4000000 }) (disch:=omega) only[go_sem,hix,aJ c59,ap,aE]
  exact congrArg er ih
theorem aM0 {b:Int}{n:Nat}{d:Dt}(hw:d.w≤1000)(hk:d.k=8):lZ b (n+1) d:=by
 intro S j jp Λ h hm
 have hww:=Dt.w_eq d
 rw[fM,if_neg (by omega),if_neg (by omega),if_neg (by omega),if_neg (by omega),if_neg (by omega),if_pos hk]at hm ⊢
 have ebo:boO Λ.σ.ad ⟨6,d.t.map fun c=>⟨1,c.toNat⟩,0⟩=d.t.map fun c=>wd Λ.σ.ad ⟨1,c.toNat⟩:=by
  unfold boO prO
  rw[if_neg (by simp),List.nil_append,List.map_map]; rfl
 have hok:OkO Λ.σ.L.length ⟨6,d.t.map fun c=>⟨1,c.toNat⟩,0⟩:=⟨fun v hv=>by
  obtain⟨c,_,rfl⟩:=List.mem_map.1 hv
  exact⟨(fun h=>by simp at h),fun _=>.inl rfl⟩,(by show (0:Int)≤6; decide),(by show (6:Int)≤7; decide)⟩
 obtain⟨S1,jw,y7,y23,l1,hg1,hk1⟩:=aRy (S0:=S++[bxB j]) Λ.σ.ad (.ptr j 53 0) (.iv (.agg [.int .i64 8,.int .i64 d.n,.str d.t,.sl d.g (aY d.ks),.int .i64 d.p])) (.ptr S.length 50 0) (.lb [.iv (.int .i64 8),.iv (.int .i64 d.n),.iv (.str d.t),.iv (.sl d.g (aY d.ks)),.iv (.int .i64 d.p)]) (.iv (.int .u32 0)) u_ u_ u_ u_ u_ u_ (.iv (.int .i64 8)) (.iv (.bool false)) (.iv (.bool false)) (.iv (.bool false)) (.iv (.bool false)) (.iv (.bool false)) (.iv (.bool true)) u_ u_ u_ u_ u_ u_ u_ .no d.t (by omega) d.t.length 0 (S++[bxB j]) 0 [] u_ u_ (by omega) rfl (Gl.nil ..) (gQ.refl [] _)
 rw[List.drop_zero,List.nil_append]at l1 hg1
 rw[show ((0:Nat):Int)=0 from rfl,show bE []=[] from rfl,fL]at l1
 obtain⟨S2,jm',c25,hL,hK⟩:=qN ((h.app [bxB j]).of_keep hk1) (o:=⟨6,d.t.map fun c=>⟨1,c.toNat⟩,0⟩) hok hm (x:=acc jw (bE (d.t.map fun c=>wd Λ.σ.ad ⟨1,c.toNat⟩))) (fun i=>tD i jw _) (fun S'=>by rw[fQ,bY,ebo]) (fun S' _=>by rw[ebo]; exact aIb ..)
 have gb:S1[S.length]? = some (bxB j):=hk1.get _ _ (by simp) (by simp)
 refine⟨S2,_,aD K _ (fn:=t37) rfl rfl ?_,hL,((KL.app j jp S Λ [bxB j]).trans (KL.of_keep hk1 j jp Λ)).trans hK,rfl,kC ..⟩
 rw[bC]
 unfold bxB at *
 simp (config := { maxSteps := 4000000 }) (disch:=omega) only[t37,go_sem,hk]
 rw[l1]
 simp (config := { maxSteps := 4000000 }) (disch:=omega) only[go_sem,gb,c25]
theorem KL.box {b:Int}{S S1:aA}{j jp:Nat}{Λ Λ1:Ly}(h:LB b S j jp Λ){q:Nat}{B:aW}(hK:KL j jp S S1 Λ Λ1)(hq:S[q]? = some B)(ht:∀n,B≠.tok n 1 26)(h1:∀c,B≠.cells 53 false c)(h2:∀es c,B≠.mp es c):S1[q]? = some B:=by
 obtain⟨n1,n2⟩:=h.notok hq ht
 refine hK.old q B hq (fun e=>?_) (fun e=>?_) n1 n2
 ·rw[e,h.own]at hq; cases hq; exact h1 _ rfl
 ·rw[e,h.mp]at hq; cases hq; exact h2 _ _ rfl
theorem aX5 {b:Int}{n:Nat}{d:Dt}(hw:d.w≤1000)(hf:2*d.w≤n+1)(hk:d.k=7)(ih:∀f x,x∈d.ks→2*x.w≤f→lZ b f x):lZ b (n+1) d:=by
 intro S j jp Λ h hm
 have hww:=Dt.w_eq d
 have hwl:=Dt.ws_len d.ks
 rw[fM,if_neg (by omega),if_neg (by omega),if_neg (by omega),if_neg (by omega),if_neg (by omega),if_neg (by omega),if_pos hk]at hm ⊢
 dsimp only at hm ⊢
 obtain⟨S1,Λ1,jw,c24,hL1,hK1,hσ1,hv1⟩:=aIf (b:=b) (ks:=d.ks) ih (by omega) (f:=n) (by omega) d.g (h.app [bxB j]) (Nat.le_trans (LeS.push b _ ⟨1,_,0⟩).len.1 hm)
 rw[←hσ1]at hm c24 hv1 ⊢
 generalize (cG b n d.ks Λ.σ).1=xs at *
 have ebo:boO Λ1.σ.ad ⟨1,xs,0⟩=xs.map (wd Λ1.σ.ad):=by
  unfold boO prO
  rw[if_neg (by simp),List.nil_append]
 obtain⟨S2,jm',c25,hL,hK⟩:=qN hL1 (o:=⟨1,xs,0⟩) ⟨hv1,(by show (0:Int)≤1; decide),(by show (1:Int)≤7; decide)⟩ hm (x:=acc jw (bE (xs.map (wd Λ1.σ.ad)))) (fun i=>tD i jw _) (fun S'=>by rw[fQ,bY,ebo]) (fun S' _=>by rw[ebo]; exact aIb ..)
 have gb:S1[S.length]? = some (bxB j):=hK1.box (h.app [bxB j]) (by simp) (fun n e=>by cases e) (fun c e=>by cases e) (fun es c e=>by cases e)
 refine⟨S2,_,aD K _ (fn:=t37) rfl rfl ?_,hL,((KL.app j jp S Λ [bxB j]).trans hK1).trans hK,rfl,kC ..⟩
 rw[bC]
 unfold bxB at *
 simp (config := { maxSteps := 4000000 }) (disch:=omega) only[t37,go_sem,hk,c24,c25,gb]
def sA:aL:=(.region [⟨.mov (.loc 28),(some 12),none⟩])
def sB : aL := (.block 4
             (.region [⟨.load1 (.loc 2),none,none⟩,⟨.mov (.loc 12),none,none⟩,⟨.load1 (.loc 11),none,none⟩,⟨.lit false [(.int .u32 0)] 2 [(0,(.reg 1)),(1,(.reg 2))],none,none⟩,⟨.call false false 25 [(.reg 0),(.cst (.int .i64 0)),(.reg 3)],none,none⟩,⟨.store 1 (.loc 11) (.reg 4),none,none⟩]))
structure Fx where
 (a0 a1 a4 a5 a6 a7 a8 a10 a13 a14 a15 a16 a17 a18 a19 a20 a21 a22 a23 a24 a25 a29 a30:TV)
def e37 (F:Fx)(p q:Nat)(x12 x27 x28:TV):Env:=[F.a0,F.a1,.ptr p 50 0,.hole,F.a4,F.a5,F.a6,F.a7,F.a8,.hole,F.a10,.ptr q 27 0,x12,F.a13,F.a14,F.a15,F.a16,F.a17,F.a18,F.a19,F.a20,F.a21,F.a22,F.a23,F.a24,F.a25,.fn 84 [] [.ptr (q+1) 26 0],x27,x28,F.a29,F.a30]
structure YP (b:Int) (S:aA) (j jp p q:Nat) (F:Fx) (c:TV) (Λ:Ly) (v:Vv):Prop where
 fp:S[p]? = some (bxB j)
 fl:S[q]? = some (.cells 27 false [.iv (.int .u32 (wd Λ.σ.ad v))])
 fc:S[q+1]? = some (.cells 26 false [c])
 fy:∃x12 x27 x28,S[q+2]? = some (.lp .ready none (e37 F p q x12 x27 x28) [27,28] sA sB)
 lb:LB b S j jp Λ
 ne:p<q
theorem KL.set {j jp:Nat}{S0 S:aA}{Λ0 Λ:Ly}(h:KL j jp S0 S Λ0 Λ){q:Nat}(hq:S0.length≤q)(B:aW):KL j jp S0 (S.set q B) Λ0 Λ :=
 ⟨by rw[List.length_set]; exact h.len,fun i X hi h1 h2 h3 h4=>by rw[bD (by have:=cA hi; omega)]; exact h.old i X hi h1 h2 h3 h4,h.new⟩
theorem LB.set {b:Int}{S:aA}{j jp:Nat}{Λ:Ly}(h:LB b S j jp Λ){q:Nat}{B0:aW}(hq:S[q]? = some B0)(ht:∀n,B0≠.tok n 1 26)(h1:∀c,B0≠.cells 53 false c)(h2:∀es c,B0≠.mp es c)(B:aW):LB b (S.set q B) j jp Λ:=by
 obtain⟨n1,n2⟩:=h.notok hq ht
 refine h.keep fun i X hi hh=>?_
 rw[bD ?_]
 ·exact hi
 ·rintro rfl
  rcases hh with e|e|e|e
  ·rw[e,h.own]at hq; cases hq; exact h1 _ rfl
  ·rw[e,h.mp]at hq; cases hq; exact h2 _ _ rfl
  ·exact n1 e
  ·exact n2 e
theorem aRz {b:Int}{S:aA}{j jp p q:Nat}{F:Fx}{c:TV}{Λ:Ly}{v:Vv}(h:YP b S j jp p q F c Λ v){u:Vv}(hu:OkV Λ.σ.L.length u)(hv:OkV Λ.σ.L.length v)(hm:(push b Λ.σ ⟨0,[u,v],0⟩).2.mem.length≤10000000)(i:Int) :
  ∃S' Λ',(lim K).yld (q+2) [.iv (.int .i64 i),.iv (.int .u32 (wd Λ.σ.ad u))] S=.ret (.iv (.bool true),S')∧YP b S' j jp p q F c Λ' (push b Λ.σ ⟨0,[u,v],0⟩).1∧(∀S0 Λ0,KL j jp S0 S Λ0 Λ→S0.length≤q→KL j jp S0 S' Λ0 Λ')∧Λ'.σ=(push b Λ.σ ⟨0,[u,v],0⟩).2:=by
 obtain⟨x12,x27,x28,hy⟩:=h.fy
 have hl:=h.fl
 have hp:=h.fp
 have hc:=h.fc
 have hne:=h.ne
 generalize hT:S.set (q+2) (.lp .busy none (e37 F p q x12 x27 x28) [27,28] sA sB)=T
 have hLT:LB b T j jp Λ:=by rw[←hT]; exact h.lb.set hy (fun n e=>by cases e) (fun c e=>by cases e) (fun es c e=>by cases e) _
 have tp:T[p]? = some (bxB j):=by rw[←hT,bD (by omega)]; exact hp
 have tl:T[q]? = some (.cells 27 false [.iv (.int .u32 (wd Λ.σ.ad v))]):=by rw[←hT,bD (by omega)]; exact hl
 have tc:T[q+1]? = some (.cells 26 false [c]):=by rw[←hT,bD (by omega)]; exact hc
 have ty:T[q+2]? = some (.lp .busy none (e37 F p q x12 x27 x28) [27,28] sA sB):=by rw[←hT]; exact cX (cA hy) _
 have ebo:boO Λ.σ.ad ⟨0,[u,v],0⟩=[wd Λ.σ.ad u,wd Λ.σ.ad v]:=by
  unfold boO prO
  rw[if_neg (by simp)]; rfl
 obtain⟨S2,jm',c25,hL2,hK2⟩:=qN hLT (o:=⟨0,[u,v],0⟩) ⟨fun w hw=>by
  rcases List.mem_cons.1 hw with rfl|hw
  ·exact hu
  ·rw[List.mem_singleton]at hw; subst hw; exact hv,(by show (0:Int)≤0; decide),(by show (0:Int)≤7; decide)⟩ hm (x:=.iv (.sl .full [[.int .u32 (wd Λ.σ.ad u)],[.int .u32 (wd Λ.σ.ad v)]])) (fun i=>rfl) (fun S'=>by rw[ebo]; rfl) (fun S' _=>by rw[ebo]; exact iL.sl ..)
 have sp:=hK2.box hLT tp (fun n e=>by cases e) (fun c e=>by cases e) (fun es c e=>by cases e)
 have sl:=hK2.box hLT tl (fun n e=>by cases e) (fun c e=>by cases e) (fun es c e=>by cases e)
 have sc:=hK2.box hLT tc (fun n e=>by cases e) (fun c e=>by cases e) (fun es c e=>by cases e)
 have sy:=hK2.box hLT ty (fun n e=>by cases e) (fun c e=>by cases e) (fun es c e=>by cases e)
 have hL3:=hL2.set sl (fun n e=>by cases e) (fun c e=>by cases e) (fun es c e=>by cases e) (.cells 27 false [.iv (.int .u32 (wd (push b Λ.σ ⟨0,[u,v],0⟩).2.ad (push b Λ.σ ⟨0,[u,v],0⟩).1))])
 have y3:(S2.set q (.cells 27 false [.iv (.int .u32 (wd (push b Λ.σ ⟨0,[u,v],0⟩).2.ad (push b Λ.σ ⟨0,[u,v],0⟩).1))]))[q+2]? = some (.lp .busy none (e37 F p q x12 x27 x28) [27,28] sA sB):=by rw[bD (by omega)]; exact sy
 have hL4:=hL3.set y3 (fun n e=>by cases e) (fun c e=>by cases e) (fun es c e=>by cases e) (.lp .ready none (e37 F p q x12 x27 x28) [27,28] sA sB)
 refine⟨_,_,aAc (env2:=e37 F p q (.iv (.int .u32 (wd Λ.σ.ad u))) (.iv (.int .i64 i)) (.iv (.int .u32 (wd Λ.σ.ad u)))) (env3:=e37 F p q (.iv (.int .u32 (wd Λ.σ.ad u))) (.iv (.int .i64 i)) (.iv (.int .u32 (wd Λ.σ.ad u)))) (S1:=S) (S2:=S2.set q (.cells 27 false [.iv (.int .u32 (wd (push b Λ.σ ⟨0,[u,v],0⟩).2.ad (push b Λ.σ ⟨0,[u,v],0⟩).1))])) hy rfl ?_ hy ?_ y3,⟨?_,?_,?_,⟨x12,x27,x28,cX (cA y3) _⟩,hL4,hne⟩,fun S0 Λ0 hk hq=>?_,rfl⟩
 ·simp (config := { maxSteps := 4000000 }) (disch:=omega) only[sA,e37,go_sem]
 ·rw[hT]
  unfold bxB at *
  simp (config := { maxSteps := 4000000 }) (disch:=omega) only[sB,e37,go_sem,tp,tl,c25,sl]
 ·rw[bD (by omega),bD (by omega)]; exact sp
 ·rw[bD (by omega),cX (cA sl)]
 ·rw[bD (by omega),bD (by omega)]; exact sc
 ·have k1:KL j jp S0 T Λ0 Λ:=by rw[←hT]; exact hk.set (by omega) _
  exact ((k1.trans hK2).set (by omega) _).set (by omega) _
theorem aR0 {jw:Nat}{W:List Int}{i:Nat}(h:i<W.length):indexAddrS 1 (acc jw (bE W)) (i:Int)=some (.iv (.cp [.int .u32 W[i]])):=by
 have hne:bE W≠[]:=cQ.2 (by rintro rfl; simp at h)
 have he:(bE W)[(i:Int).toNat]? = some [.int .u32 W[i]]:=by
  rw[Int.toNat_natCast]
  show (W.map fun x=>[IV.int .u32 x])[i]? = _
  rw[List.getElem?_map,List.getElem?_eq_getElem h]; rfl
 rw[iI _ hne]
 exact aWj (by omega) he rfl
theorem aR1 (b:Int)(xs:List Vv)(k:Nat)(h:k<xs.length)(v:Vv)(σ:Sg):fE b (xs.take (k+1)).reverse v σ=fE b (xs.take k).reverse (push b σ ⟨0,[xs[k],v],0⟩).1 (push b σ ⟨0,[xs[k],v],0⟩).2:=by
 have e:(xs.take (k+1)).reverse=xs[k]::(xs.take k).reverse:=by
  rw[List.take_add_one,List.getElem?_eq_getElem h]; simp
 rw[e,fE]
theorem aR2 {b:Int}{j jp p q jw:Nat}{F:Fx}{W:List Int}{xs:List Vv}(hl:xs.length≤1000000)(hWl:W.length=xs.length):∀(k:Nat) (S:aA) (Λ:Ly) (v:Vv) (x3 x4:TV),k≤xs.length→W=xs.map (wd Λ.σ.ad)→(∀u∈xs,OkV Λ.σ.L.length u)→OkV Λ.σ.L.length v→YP b S j jp p q F (acc jw (bE W)) Λ v→(fE b (xs.take k).reverse v Λ.σ).2.mem.length≤10000000 →
  ∃S' Λ' y3 y4,lp' (lim K) t84L0 [.yld (q+2),.ptr (q+1) 26 0,.iv (.int .i64 ((k:Int)-1)),x3,x4] S=.ret (.exit 0,[.yld (q+2),.ptr (q+1) 26 0,.iv (.int .i64 (-1)),y3,y4],S')∧YP b S' j jp p q F (acc jw (bE W)) Λ' (fE b (xs.take k).reverse v Λ.σ).1∧(∀S0 Λ0,KL j jp S0 S Λ0 Λ→S0.length≤q→KL j jp S0 S' Λ0 Λ')∧Λ'.σ=(fE b (xs.take k).reverse v Λ.σ).2∧OkV (fE b (xs.take k).reverse v Λ.σ).2.L.length (fE b (xs.take k).reverse v Λ.σ).1
 | 0,S,Λ,v,x3,x4,hk,hW,hx,hv,hY,hm=>by
  rw[List.take_zero,List.reverse_nil,fE]
  refine⟨S,Λ,.iv (.bool false),x4,aP K _ _ t84L0.eq_1 ?_,hY,fun S0 Λ0 h _=>h,rfl,hv⟩
  rw[show ((0:Nat):Int)-1 = -1 from rfl]
  simp (config := { maxSteps := 4000000 }) (disch:=omega) only[go_sem]
 | k+1,S,Λ,v,x3,x4,hk,hW,hx,hv,hY,hm=>by
  have hla:k<xs.length:=by omega
  rw[aR1 b xs k hla]at hm ⊢
  have hu:=hx xs[k] (List.getElem_mem _)
  have hm1:=Nat.le_trans (qM b (xs.take k).reverse (push b Λ.σ ⟨0,[xs[k],v],0⟩).1 (push b Λ.σ ⟨0,[xs[k],v],0⟩).2).len.1 hm
  obtain⟨S1,Λ1,y1,hY1,hK1,hσ1⟩:=aRz hY hu hv hm1 (k:Int)
  have hle:=LeS.push b Λ.σ ⟨0,[xs[k],v],0⟩
  have hix:=aR0 (jw:=jw) (W:=W) (i:=k) (by omega)
  have hWk:W[k]'(by omega)=wd Λ.σ.ad xs[k]:=by simp[hW]
  rw[hWk]at hix
  have hc:=hY.fc
  have hok1:=kC b Λ.σ ⟨0,[xs[k],v],0⟩
  rw[←hσ1]at hm hok1 hle ⊢
  obtain⟨S',Λ',y3,y4,ih,hY',hK',hσ',hv'⟩:=aR2 (b:=b) (j:=j) (jp:=jp) (p:=p) (F:=F) hl hWl k S1 Λ1 _ (.iv (.bool true)) (.iv (.bool false)) (by omega) (by rw[mA hY.lb.gd hle hx]; exact hW) (fun u hu=>(hx u hu).mono hle.len.2) hok1 hY1 hm
  rw[show (((k+1:Nat):Int)-1)=(k:Int) by omega]
  refine⟨S',Λ',y3,y4,aP K _ _ t84L0.eq_1 ?_,hY',fun S0 Λ0 h h0=>hK' S0 Λ0 (hK1 S0 Λ0 h h0) h0,hσ',hv'⟩
  simp (config := { maxSteps := 4000000 }) (disch:=omega) only[go_sem,hc,hix,y1,er_ret,aE]
  exact congrArg er ih
theorem nR (b:Int):∀(n:Nat) (l:List Dt) (σ:Sg),(cG b n l σ).1.length≤l.length
 | 0,l,σ=>by rw[cG]; exact Nat.zero_le _
 | n+1,[],σ=>by rw[cG]; exact Nat.le_refl _
 | n+1,d::l,σ=>by
  rw[cG,List.length_cons,List.length_cons]
  have:=nR b n l (fM b n d σ).2
  omega
theorem bDg (jw:Nat)(W:List Int)(S:aA):(lim K).call 60 [acc jw (bE W)] S=.ret (.fn 84 [] [.ptr S.length 26 0],S++[.cells 26 false [acc jw (bE W)]]):=by
 refine aD K _ (fn:=t60) rfl rfl ?_
 simp (config := { maxSteps := 4000000 }) (disch:=omega) only[t60,go_sem]
theorem aR3 {b:Int}{n:Nat}{d:Dt}(hw:d.w≤1000)(hf:2*d.w≤n+1)(hk:d.k=6)(hm0:eB d=true)(ih:∀f x,x.w<d.w→eB x=true→2*x.w≤f→lZ b f x):lZ b (n+1) d:=by
 intro S j jp Λ h hm
 have hww:=Dt.w_eq d
 have hpr:d.pr=true:=by unfold Dt.pr; simp[hk,bFs hm0 hk]
 have hsum:=oY d.w d (Nat.le_refl _)
 have hmi:=tI d.w d (Nat.le_refl _)
 rw[hm0,eq_comm,Bool.and_eq_true,List.all_eq_true]at hmi
 have hlt:=aA2 d.w d
 have hend:(cE d.w d).2.w<d.w:=by
  have h1:(cE d.w d).1≠[]:=by
   obtain⟨m,hm'⟩:∃m,d.w=m+1:=⟨d.w-1,by omega⟩
   rw[hm',cE,if_pos hpr]; simp
  have:=List.length_pos_iff.2 h1
  omega
 have c12:=aRw d.w d (Nat.le_refl _) (by omega)
 rw[fM,if_neg (by omega),if_neg (by omega),if_neg (by omega),if_neg (by omega),if_neg (by omega),if_neg (by omega),if_neg (by omega),if_pos hk]at hm ⊢
 dsimp only at hm ⊢
 generalize cE d.w d=I at *
 obtain⟨il,ie⟩:=I
 dsimp only at *
 have hm2:=Nat.le_trans (qM b _ _ _).len.1 hm
 have hm1:=Nat.le_trans (xG b n ie _).len.1 hm2
 have hwsl:=Dt.ws_len il
 have hie:=Dt.w_eq ie
 have hxl:=nR b n il Λ.σ
 obtain⟨S1,Λ1,jw,c24,hL1,hK1,hσ1,hv1⟩:=aIf (b:=b) (ks:=il) (fun f x hx hfx=>ih f x (hlt x hx) (hmi.1 x hx) hfx) (by omega) (f:=n) (by omega) (kJ il) (h.app [bxB j]) hm1
 have gb:S1[S.length]? = some (bxB j):=hK1.box (h.app [bxB j]) (by simp) (fun n e=>by cases e) (fun c e=>by cases e) (fun es c e=>by cases e)
 rw[←hσ1]at hm hm2 c24 hv1 ⊢
 generalize (cG b n il Λ.σ).1=xs at *
 have hle2:=xG b n ie Λ1.σ
 obtain⟨S2,Λ2,c37,hL2,hK2,hσ2,hv2⟩:=ih n ie hend hmi.2 (by omega) S1 j jp Λ1 hL1 hm2
 have gb2:=hK2.box hL1 gb (fun n e=>by cases e) (fun c e=>by cases e) (fun es c e=>by cases e)
 have hwe:=mA hL1.gd hle2 hv1
 rw[←hσ2]at hm c37 hv2 hle2 hwe ⊢
 generalize (fM b n ie Λ1.σ).1=v at *
 rw[←hwe]at c24
 obtain⟨F,hF⟩:∃F:Fx,F=⟨.ptr j 53 0,.iv (.agg [.int .i64 6,.int .i64 d.n,.str d.t,.sl d.g (aY d.ks),.int .i64 d.p]),.iv (.int .u32 0),u_,u_,u_,.iv (.sl (kJ il) (aY il)),acc jw (bE (xs.map (wd Λ2.σ.ad))),.iv (.int .i64 6),.iv (.bool false),.iv (.bool false),.iv (.bool false),.iv (.bool false),.iv (.bool false),.iv (.bool false),u_,u_,u_,u_,.iv (.bool false),.iv (.bool true),u_,u_⟩:=⟨_,rfl⟩
 have hY:YP b (S2++[.cells 27 false [.iv (.int .u32 (wd Λ2.σ.ad v))],.cells 26 false [acc jw (bE (xs.map (wd Λ2.σ.ad)))],.lp .ready none (e37 F S.length S2.length u_ u_ u_) [27,28] sA sB]) j jp S.length S2.length F (acc jw (bE (xs.map (wd Λ2.σ.ad)))) Λ2 v:=⟨iJ gb2 _,by simp,by simp,⟨u_,u_,u_,by simp⟩,hL2.app _,cA gb2⟩
 obtain⟨S5,Λ5,y3,y4,l1,hY5,hK5,hσ5,hv5⟩:=aR2 (W:=xs.map (wd Λ2.σ.ad)) (xs:=xs) (by omega) (by simp) xs.length _ Λ2 v u_ u_ (Nat.le_refl _) rfl (fun u hu=>(hv1 u hu).mono hle2.len.2) hv2 hY (by rw[List.take_length]; exact hm)
 rw[List.take_length]at hY5 hσ5 hv5
 obtain⟨z12,z27,z28,hy5⟩:=hY5.fy
 have c84:(lim K).call 84 [.yld (S2.length+2),.ptr (S2.length+1) 26 0] (S2++[.cells 27 false [.iv (.int .u32 (wd Λ2.σ.ad v))],.cells 26 false [acc jw (bE (xs.map (wd Λ2.σ.ad)))],.lp .ready none (e37 F S.length S2.length u_ u_ u_) [27,28] sA sB])=.ret (u_,S5):=by
  have hc:=hY.fc
  have hlu:=bY (xs.map (wd Λ2.σ.ad))
  rw[List.length_map]at hlu
  refine aD K _ (fn:=t84) rfl rfl ?_
  simp (config := { maxSteps := 4000000 }) (disch:=omega) only[t84,go_sem,hc,fQ,hlu,aE]
  rw[l1]
  simp (config := { maxSteps := 4000000 }) (disch:=omega) only[go_sem]
 have gl5:=hY5.fl
 have hL6:=hY5.lb.set hy5 (fun n e=>by cases e) (fun c e=>by cases e) (fun es c e=>by cases e) (.lp .exhausted none (e37 F S.length S2.length z12 z27 z28) [27,28] sA sB)
 have kk:KL j jp S S2 Λ Λ2:=((KL.app j jp S Λ [bxB j]).trans hK1).trans hK2
 refine⟨_,Λ5,aD K _ (fn:=t37) rfl rfl ?_,hL6,?_,hσ5,hv5⟩
 ·rw[bC]
  unfold bxB at *
  rw[hσ5]at gl5
  rw[show agD d=.iv (.agg [.int .i64 6,.int .i64 d.n,.str d.t,.sl d.g (aY d.ks),.int .i64 d.p]) by unfold agD; rw[hk]]at c12
  unfold agD at c12
  rw[bC]at c37
  have hl1:∀A:aW,(S2++[A]).length=S2.length+1:=fun A=>by simp
  have hl2:∀A B:aW,(S2++[A]++[B]).length=S2.length+2:=fun A B=>by simp
  have hap:∀A B C:aW,S2++[A]++[B]++[C]=S2++[A,B,C]:=fun A B C=>by simp
  have gs:∀B:aW,(S5.set (S2.length+2) B)[S2.length]? = S5[S2.length]? := fun B=>bD (by omega) B
  clear hY5 hL6 hK5 hY kk l1 hL1 hK1 hL2 hK2 hm hm1 hm2
  unfold e37 sA sB at *
  subst hF
  dsimp only at c84 hy5 ⊢
  simp (config := { maxSteps := 4000000 }) (disch:=omega) only[t37,go_sem,hk,aJ c12,c24,gb,c37,gb2,bDg,gP,fU,hl1,hl2,hap,c84,aEk,hy5,uH,gs,gl5]
 ·exact (hK5 S Λ (kk.trans (KL.app j jp S2 Λ2 _)) kk.len).set (by have:=kk.len; omega) _
theorem aE2 (b:Int):∀(N:Nat) (d:Dt),d.w≤N→d.w≤1000→eB d=true→∀f,2*d.w≤f→lZ b f d
 | 0,d,hN,_,_,_,_=>by have:=Dt.w_eq d; omega
 | N+1,d,hN,hw,hm,f,hf=>by
  have hwe:=Dt.w_eq d
  obtain⟨n,rfl⟩:∃n,f=n+1:=⟨f-1,by omega⟩
  have ih:∀f x,x.w<d.w→eB x=true→2*x.w≤f→lZ b f x:=fun f x hx hmx hfx=>aE2 b N x (by omega) (by omega) hmx f hfx
  by_cases h7:d.k=7
  ·exact aX5 hw hf h7 fun f x hx hfx=>ih f x (Dt.kid_lt hx) (rN hm hx) hfx
  by_cases h6:d.k=6
  ·exact aR3 hw hf h6 hm ih
  by_cases h2:d.k=2
  ·exact aX2 hw h2
  by_cases h4:d.k=4
  ·exact aX3 hw h4
  by_cases h5:d.k=5
  ·exact aX4 hw hm h5
  by_cases h8:d.k=8
  ·exact aM0 hw h8
  refine aMz hm ?_
  rw[kB,if_neg (by omega),if_neg h7,Bool.and_eq_true]at hm
  have h:=hm.2
  unfold nQ at h
  by_cases h1:d.k=1
  ·exact .inl h1
  by_cases h3:d.k=3
  ·exact .inr (.inl h3)
  by_cases h9:d.k=9
  ·exact .inr (.inr (.inl h9))
  by_cases h10:d.k=10
  ·exact .inr (.inr (.inr (.inl h10)))
  by_cases h0:d.k=0
  ·exact .inr (.inr (.inr (.inr h0)))
  simp[h0,h1,h2,h3,h4,h5,h8,h9,h10]at h
theorem kM (b:Int)(σ:Sg)(o:Ob):(push b σ o).2.mem.length=σ.mem.length+fD o:=by
 show (σ.mem++ow σ.ad o).length=_
 rw[List.length_append,aCe]
theorem xM (b:Int):∀(l:List Vv) (e:Vv) (σ:Sg),(fE b l e σ).2.mem.length=σ.mem.length+3*l.length
 | [],e,σ=>by rw[fE]; simp
 | v::r,e,σ=>by
  rw[fE]
  rw[xM b r,kM,List.length_cons]
  have:fD ⟨0,[v,e],0⟩=3:=by unfold fD prO; rw[if_neg (by simp)]; rfl
  omega
theorem aX6 (t:List UInt8):(chV t).length≤t.length:=by
 rw[rK,List.length_map]; exact aCh
mutual
theorem aE3 (b:Int):∀(n:Nat) (d:Dt) (σ:Sg),(fM b n d σ).2.mem.length+3≤σ.mem.length+6*d.w
 | 0,d,σ=>by rw[fM]; have:=Dt.w_eq d; dsimp only; omega
 | n+1,d,σ=>by
  have hw:=Dt.w_eq d
  have hwl:=Dt.ws_len d.ks
  have hc:=aX6 d.t
  rw[fM]
  split
  ·dsimp only; omega
  split
  ·have hz:=aRm d.t
   unfold qK
   split
   ·dsimp only; omega
   ·rw[kM]
    have:fD ⟨7,[],zP d.t⟩=2+(dg 65536 (zP d.t).natAbs).length:=by unfold fD prO; rw[if_pos rfl]; simp; omega
    omega
  split
  ·dsimp only; omega
  split
  ·rw[kM]
   have:fD ⟨4,chV d.t,0⟩=1+(chV d.t).length:=by unfold fD prO; rw[if_neg (by simp)]; simp
   omega
  split
  ·cases hf:σ.sy.find? (fun x=>x.1==d.t) with
   | some x=>rw[lY hf]; dsimp only; omega
   | none =>
    rw[lX hf]
    show (push b (push b σ ⟨4,chV d.t,0⟩).2 _).2.mem.length+3≤_
    rw[kM,kM]
    have:fD ⟨4,chV d.t,0⟩=1+(chV d.t).length:=by unfold fD prO; rw[if_neg (by simp)]; simp
    have:fD ⟨5,[(push b σ ⟨4,chV d.t,0⟩).1],0⟩=2:=by unfold fD prO; rw[if_neg (by simp)]; simp
    omega
  split
  ·rw[kM]
   have:fD ⟨6,d.t.map fun c=>⟨1,c.toNat⟩,0⟩=1+d.t.length:=by unfold fD prO; rw[if_neg (by simp)]; simp
   omega
  split
  ·dsimp only
   have h1:=mB b n d.ks σ
   have h2:=nR b n d.ks σ
   rw[kM]
   have:fD ⟨1,(cG b n d.ks σ).1,0⟩=1+(cG b n d.ks σ).1.length:=by unfold fD prO; rw[if_neg (by simp)]; simp
   omega
  split
  ·dsimp only
   have h0:=oY d.w d (Nat.le_refl _)
   have h1:=mB b n (cE d.w d).1 σ
   have h2:=aE3 b n (cE d.w d).2 (cG b n (cE d.w d).1 σ).2
   have h3:=nR b n (cE d.w d).1 σ
   rw[xM,List.length_reverse]
   omega
  split
  ·dsimp only; omega
  split
  ·dsimp only; omega
  ·dsimp only; omega
theorem mB (b:Int):∀(n:Nat) (l:List Dt) (σ:Sg),(cG b n l σ).2.mem.length+3*l.length≤σ.mem.length+6*Dt.ws l
 | 0,l,σ=>by rw[cG]; have:=Dt.ws_len l; dsimp only; omega
 | n+1,[],σ=>by rw[cG]; simp
 | n+1,d::l,σ=>by
  have h1:=aE3 b n d σ
  have h2:=mB b n l (fM b n d σ).2
  rw[cG,Dt.ws,List.length_cons]
  dsimp only
  omega
end
theorem aR4 {d:Dt}(hw:d.w≤1048576):TM.Pure K 21 [.iv (.agg (cJ d))] (.iv (.bool (!(eB d&&plF d)))):=by
 have c22:=aQy d.w (by omega) d (Nat.le_refl _)
 cases hm:eB d with
 | false =>
  rw[hm]at c22
  rw[bC]at *
  refine bP t21 rfl rfl ?_
  simp (config := { maxSteps := 4000000 }) (disch:=omega) only[t21,go_sem,aJ c22,Bool.false_and]
 | true =>
  have c23:=aRu d.w (by omega) d (Nat.le_refl _) hm
  rw[hm]at c22
  rw[bC]at *
  rw[Bool.true_and]
  refine bP t21 rfl rfl ?_
  simp (config := { maxSteps := 4000000 }) (disch:=omega) only[t21,go_sem,aJ c22,aJ c23]
def σ0:Sg:=⟨[],[],[],[]⟩
def eC (b:Int)(cs:List Dt):List Vv×Sg:=cG b (2*Dt.ws cs+1) cs σ0
def nS (σ:Sg):List Vv:=σ.sy.map fun x=>⟨7,x.2⟩
def pS (cs:List Dt):Bool:=cs.all fun d=>eB d&&plF d
theorem gd0 (b:Int):Gd b σ0:=⟨rfl,rfl,(fun o ho=>by cases ho),(fun i hi=>by cases hi),Nat.le_refl _,fun x hx=>by cases hx⟩
theorem bB2 {b:Int}{j jp:Nat}(x0 x1 x2 x3 x5 x13:TV){jo:Nat}{W:List Int}{xs:List Vv}(hl:xs.length≤1000000)(hWl:W.length=xs.length):∀(k i:Nat) (S:aA) (Λ:Ly) (v:Vv) (x7 x12:TV),i+k=xs.length→W=xs.map (wd Λ.σ.ad)→(∀u∈xs,OkV Λ.σ.L.length u)→OkV Λ.σ.L.length v→LB b S j jp Λ→(fE b (xs.drop i) v Λ.σ).2.mem.length≤10000000 →
  ∃S' Λ' y7 y12,lp' (lim K) t8L0 [x0,x1,x2,x3,.iv (.int .u32 (wd Λ.σ.ad v)),x5,.ptr j 53 0,x7,.iv (.bool false),acc jo (bE W),.iv (.int .i64 xs.length),.iv (.int .i64 i),x12,x13] S=.ret (.exit 0,[x0,x1,x2,x3,.iv (.int .u32 (wd (fE b (xs.drop i) v Λ.σ).2.ad (fE b (xs.drop i) v Λ.σ).1)),x5,.ptr j 53 0,y7,.iv (.bool false),acc jo (bE W),.iv (.int .i64 xs.length),.iv (.int .i64 xs.length),y12,x13],S')∧LB b S' j jp Λ'∧Λ'.σ=(fE b (xs.drop i) v Λ.σ).2
 | 0,i,S,Λ,v,x7,x12,hi,hW,hx,hv,hL,hm=>by
  obtain rfl:i=xs.length:=by omega
  rw[List.drop_length,fE]
  refine⟨S,Λ,x7,.iv (.bool false),aP K _ _ t8L0.eq_1 ?_,hL,rfl⟩
  simp (config := { maxSteps := 4000000 }) (disch:=omega) only[go_sem]
 | k+1,i,S,Λ,v,x7,x12,hi,hW,hx,hv,hL,hm=>by
  have hla:i<xs.length:=by omega
  have hdr:xs.drop i=xs[i]::xs.drop (i+1):=List.drop_eq_getElem_cons hla
  rw[hdr,fE]at hm ⊢
  have hu:=hx xs[i] (List.getElem_mem _)
  have hix:=aR0 (jw:=jo) (W:=W) (i:=i) (by omega)
  have hWk:W[i]'(by omega)=wd Λ.σ.ad xs[i]:=by simp[hW]
  rw[hWk]at hix
  have ebo:boO Λ.σ.ad ⟨0,[xs[i],v],0⟩=[wd Λ.σ.ad xs[i],wd Λ.σ.ad v]:=by
   unfold boO prO
   rw[if_neg (by simp)]; rfl
  obtain⟨S1,jm',c25,hL1,hK1⟩:=qN hL (o:=⟨0,[xs[i],v],0⟩) ⟨fun w hw=>by
   rcases List.mem_cons.1 hw with rfl|hw
   ·exact hu
   ·rw[List.mem_singleton]at hw; subst hw; exact hv,(by show (0:Int)≤0; decide),(by show (0:Int)≤7; decide)⟩ (Nat.le_trans (qM b _ _ _).len.1 hm) (x:=.iv (.sl .full [[.int .u32 (wd Λ.σ.ad xs[i])],[.int .u32 (wd Λ.σ.ad v)]])) (fun i=>rfl) (fun S'=>by rw[ebo]; rfl) (fun S' _=>by rw[ebo]; exact iL.sl ..)
  have hle:=LeS.push b Λ.σ ⟨0,[xs[i],v],0⟩
  have hok1:=kC b Λ.σ ⟨0,[xs[i],v],0⟩
  obtain⟨S',Λ',y7,y12,ih,hL',hσ'⟩:=bB2 (b:=b) (j:=j) (jp:=jp) x0 x1 x2 x3 x5 x13 (jo:=jo) hl hWl k (i+1) S1 ⟨jm',Λ.jo,(push b Λ.σ ⟨0,[xs[i],v],0⟩).2,Λ.l,Λ.c⟩ _ (.iv (.int .u32 (wd Λ.σ.ad xs[i]))) (.iv (.bool true)) (by omega) (by show W=xs.map (wd (push b Λ.σ ⟨0,[xs[i],v],0⟩).2.ad); rw[mA hL.gd hle hx]; exact hW) (fun u hu=>(hx u hu).mono hle.len.2) hok1 hL1 hm
  rw[show ((i+1:Nat):Int)=(i:Int)+1 by omega]at ih
  refine⟨S',Λ',y7,y12,aP K _ _ t8L0.eq_1 ?_,hL',hσ'⟩
  dsimp only at ih c25 ⊢
  simp (config := { maxSteps := 4000000 }) (disch:=omega) only[go_sem,hix,c25,aE]
  exact congrArg er ih
theorem aX7 {cs:List Dt}{b:Int}(g:Tag)(hw:Dt.ws cs≤1000000)(h:b<0∨67108864<b∨pS cs=false):TM.Pure K 8 [.iv (.sl g (aY cs)),.iv (.int .i64 b)] (.tup [.iv (.sl .nil []),.iv (.sl .nil []),.iv (.int .u32 0),.iv (.int .i64 2)]):=by
 have hwl:=Dt.ws_len cs
 have c20:=aCa 21 (fun d=>!(eB d&&plF d)) g cs (by omega) (fun x hx=>aR4 (by have:=Dt.ws_mem hx; omega)) []
 have e:(cs.any fun d=>!(eB d&&plF d))=!pS cs:=by
  unfold pS
  rw[←rI cs (fun d=>eB d&&plF d),Bool.not_not]
 rw[e]at c20
 refine bP t8 rfl rfl ?_
 by_cases h0:b<0
 ·simp (config := { maxSteps := 4000000 }) (disch:=omega) only[t8,go_sem,h0]
 ·by_cases h1:67108864<b
  ·simp (config := { maxSteps := 4000000 }) (disch:=omega) only[t8,go_sem,h0,h1]
  ·have h2:pS cs=false:=by rcases h with h|h|h<;>first|omega|exact h
   rw[h2]at c20
   simp (config := { maxSteps := 4000000 }) (disch:=omega) only[t8,go_sem,h0,h1,c20,Bool.not_false]
def cY (b:Int)(cs:List Dt):Vv×Sg:=fE b (nS (eC b cs).2) ⟨4,0⟩ (eC b cs).2
theorem aLn {b:Int}{cs:List Dt}(h:Gd b (eC b cs).2):(cY b cs).2.mem.length≤24*Dt.ws cs:=by
 have h1:=mB b (2*Dt.ws cs+1) cs σ0
 have h2:=aRd h
 have h3:(nS (eC b cs).2).length=(eC b cs).2.sy.length:=List.length_map _
 unfold cY
 rw[xM]
 have h4:(eC b cs).2.mem.length≤6*Dt.ws cs:=by unfold eC; have:σ0.mem.length=0:=rfl; omega
 omega
theorem bDh {cs:List Dt}{b:Int}(g:Tag)(hw:Dt.ws cs≤10000)(hwx:∀d∈cs,d.w≤1000)(hb:0≤b∧b≤67108864)(hok:pS cs=true):Gd b (eC b cs).2∧(∀v∈(eC b cs).1,OkV (eC b cs).2.L.length v)∧Gd b (cY b cs).2∧∃t1 t2,cF t1 (bE (cY b cs).2.mem) ∧
  TM.Pure K 8 [.iv (.sl g (aY cs)),.iv (.int .i64 b)] (if 67108864<b+(cY b cs).2.mem.length then .tup [.iv (.sl .nil []),.iv (.sl .nil []),.iv (.int .u32 0),.iv (.int .i64 3)] else .tup [.iv (.sl t1 (bE (cY b cs).2.mem)),.iv (.sl t2 (bE ((eC b cs).1.map (wd (eC b cs).2.ad)))),.iv (.int .u32 (wd (cY b cs).2.ad (cY b cs).1)),.iv (.int .i64 0)]):=by
 have hwl:=Dt.ws_len cs
 have c20:=aCa 21 (fun d=>!(eB d&&plF d)) g cs (by omega) (fun x hx=>aR4 (by have:=Dt.ws_mem hx; omega)) []
 have e:(cs.any fun d=>!(eB d&&plF d))=!pS cs:=by
  unfold pS
  rw[←rI cs (fun d=>eB d&&plF d),Bool.not_not]
 rw[e,hok]at c20
 have hall:∀d∈cs,eB d=true:=fun d hd=>by
  have:=List.all_eq_true.1 hok d hd
  rw[Bool.and_eq_true]at this
  exact this.1
 have hL0:LB b [.mp [] 0,.cells 53 false [.iv (.int .i64 b),.iv (.sl .nil []),.map 0,.iv (.sl .nil [])]] 1 0 ⟨0,0,σ0,[],0⟩:=⟨rfl,Gl.nil ..,Gl.nil ..,rfl,fun q h=>absurd rfl h.1,fun t=>rfl,gd0 b,hb⟩
 have hg0:=mB b (2*Dt.ws cs+1) cs σ0
 have hm0:σ0.mem.length=0:=rfl
 obtain⟨S1,Λ1,jw,c24,hL1,hK1,hσ1,hv1⟩:=aIf (b:=b) (ks:=cs) (fun f x hx hfx=>aE2 b x.w x (Nat.le_refl _) (hwx x hx) (hall x hx) f hfx) (by omega) (f:=2*Dt.ws cs+1) (Nat.le_refl _) g hL0 (by show (cG b (2*Dt.ws cs+1) cs σ0).2.mem.length≤_; omega)
 have hgd1:Gd b (eC b cs).2:=by have:=hL1.gd; rw[hσ1]at this; exact this
 have hfl:=aLn hgd1
 have hlm:=aRd hgd1
 have hll:(eC b cs).2.mem.length≤6*Dt.ws cs:=by unfold eC; omega
 have hsyl:(nS (eC b cs).2).length=(eC b cs).2.sy.length:=List.length_map _
 have hsok:∀u∈nS (eC b cs).2,OkV (eC b cs).2.L.length u:=fun u hu=>by
  obtain⟨x,hx,rfl⟩:=List.mem_map.1 hu
  obtain⟨_,i,h1,h2⟩:=hgd1.sy x hx
  have:=(List.getElem?_eq_some_iff.1 h1).1
  refine⟨fun _=>?_,fun h=>absurd rfl h⟩
  show 0≤((x.2:Nat):Int)∧((x.2:Nat):Int)<_
  omega
 have hW:iK (eC b cs).2=(nS (eC b cs).2).map (wd (eC b cs).2.ad):=by
  unfold iK nS
  rw[List.map_map]; rfl
 have hσ1':Λ1.σ=(eC b cs).2:=hσ1
 have hv1':∀v∈(eC b cs).1,OkV (eC b cs).2.L.length v:=hv1
 have c24':(lim K).call 24 [.ptr 1 53 0,.iv (.sl g (aY cs))] [.mp [] 0,.cells 53 false [.iv (.int .i64 b),.iv (.sl .nil []),.map 0,.iv (.sl .nil [])]]=.ret (acc jw (bE ((eC b cs).1.map (wd (eC b cs).2.ad))),S1):=c24
 have lp:=fun (x5 x7 x12 x13:TV)=>bB2 (b:=b) (j:=1) (jp:=0) (.iv (.sl g (aY cs))) (.iv (.int .i64 b)) (.iv (.sl .nil [])) (acc jw (bE ((eC b cs).1.map (wd (eC b cs).2.ad)))) x5 x13 (jo:=Λ1.jo) (W:=iK Λ1.σ) (xs:=nS Λ1.σ) (by rw[hσ1']; omega) (by rw[hσ1',hW,List.length_map]) (nS Λ1.σ).length 0 S1 Λ1 ⟨4,0⟩ x7 x12 (by omega) (by rw[hσ1']; exact hW) (by rw[hσ1']; exact hsok) ⟨(fun h=>by simp at h),fun _=>by simp⟩ hL1 (by rw[List.drop_zero,hσ1']; show (cY b cs).2.mem.length≤_; omega)
 obtain⟨S2,Λ2,y7,y12,l1,hL2,hσ2⟩:=lp (.iv (.int .i64 0)) u_ u_ u_
 rw[List.drop_zero,hσ1']at l1 hσ2
 rw[show ((0:Nat):Int)=0 from rfl]at l1
 have hσ2':Λ2.σ=(cY b cs).2:=hσ2
 have hgd2:Gd b (cY b cs).2:=by have:=hL2.gd; rw[hσ2']at this; exact this
 have o1:=hL1.own
 have o2:=hL2.own
 unfold lyB at o1 o2
 rw[hσ1']at o1
 rw[hσ2']at o2
 refine⟨hgd1,hv1',hgd2,kJ (bE (cY b cs).2.mem),kJ (bE ((eC b cs).1.map (wd (eC b cs).2.ad))),nG _,?_⟩
 have hol:(bE (iK (eC b cs).2)).length=(nS (eC b cs).2).length:=by rw[bY,hW,List.length_map]
 have hml:(bE (cY b cs).2.mem).length=(cY b cs).2.mem.length:=bY _
 have h38:wd (eC b cs).2.ad ⟨4,0⟩=38:=rfl
 rw[h38]at l1
 refine bP t8 rfl rfl ?_
 by_cases hbig:67108864<b+((cY b cs).2.mem.length:Int)
 ·rw[if_pos hbig]
  simp (config := { maxSteps := 4000000 }) (disch:=omega) only[t8,go_sem,c20,Bool.not_true,c24',o1,fQ,hol]
  rw[l1]
  simp (config := { maxSteps := 4000000 }) (disch:=omega) only[go_sem,o2,fQ,hml,aE]
 ·rw[if_neg hbig]
  simp (config := { maxSteps := 4000000 }) (disch:=omega) only[t8,go_sem,c20,Bool.not_true,c24',o1,fQ,hol]
  rw[l1]
  simp (config := { maxSteps := 4000000 }) (disch:=omega) only[go_sem,o2,fQ,hml,aE]
  rfl
def bG7 (v:Vv):List IV:=[.int .i64 v.k,.int .i64 v.n]
def aE4 (l:List Vv):List (List IV):=l.map bG7
def bG8 (o:Ob)(c:List IV):Prop:=∃t1 t2,cF t2 (dg 10 (o.z.natAbs:Int))∧(dg 10 (o.z.natAbs:Int)).length≤90000∧o.kd.length≤1000000∧c=[.int .i64 o.ty,.int .i64 0,.sl t1 (aE4 o.kd),.bool (decide (o.z<0)),.sl t2 (TM.one i64 (dg 10 o.z.natAbs))]
inductive RO:List Ob→List (List IV)→Prop
 | nil:RO [] []
 | snoc {L:List Ob} {l:List (List IV)} {o:Ob} {c:List IV} (h:RO L l) (g:bG8 o c):RO (L++[o]) (l++[c])
structure Rl where
 jl:Nat
 js:Nat
 LO:List (List IV)
 σ:Sg
 load:Int
 wide:Bool
def TkR (P:Rl)(q:Nat):Prop:=(P.LO≠[]∧q=P.jl)∨(nS P.σ≠[]∧q=P.js)
def rB (P:Rl):aW:=.cells 64 false [.iv (.sl .nil []),acc P.jl P.LO,acc P.js (aE4 (nS P.σ)),.iv (.sl .nil []),.iv (.sl .nil []),.iv (.int .i64 P.load),.iv (.bool P.wide)]
structure RB (b:Int) (S:aA) (j:Nat) (P:Rl):Prop where
 own:S[j]? = some (rB P)
 gl:Gl 0 S 5 67 P.LO P.jl
 gs:Gl 0 S 2 73 (aE4 (nS P.σ)) P.js
 ro:RO P.σ.L P.LO
 dis:P.LO≠[]→nS P.σ≠[]→P.jl≠P.js
 ld:0≤P.load∧P.load≤3000000
 gd:Gd b P.σ
structure KR (j:Nat) (S S':aA) (P P':Rl):Prop where
 len:S.length≤S'.length
 old:∀q B,S[q]? = some B→q≠j→¬TkR P q→S'[q]? = some B
 new:∀q,TkR P' q→TkR P q∨S.length≤q
theorem bDi {w jw:Nat}{W:List (List IV)}{i:Nat}{c:List IV}(h:W[i]? = some c)(hw:c.length=w):indexAddrS w (acc jw W) (i:Int)=some (.iv (.cp c)):=by
 have hne:W≠[]:=by rintro rfl; simp at h
 rw[iI _ hne]
 exact aWj (by omega) (by rw[Int.toNat_natCast]; exact h) hw
theorem bDj {b:Int}{σ:Sg}(h:Gd b σ){q:Nat}{o:Ob}(hq:σ.L[q]? = some o):o.kd.length≤σ.mem.length:=by
 have h2:=tL h
 have h3:∀l:List Ob,o∈l→fD o≤(l.map fD).sum:=fun l=>by
  induction l with
  | nil=>intro h; cases h
  | cons a r ih =>
   intro h
   rw[List.map_cons,List.sum_cons]
   rcases List.mem_cons.1 h with rfl|h
   ·omega
   ·have:=ih h; omega
 have:=h3 σ.L (List.mem_of_getElem? hq)
 have:o.kd.length≤fD o:=by unfold fD; omega
 omega
theorem bG9 {b:Int}{σ:Sg}(h:Gd b σ):σ.L.length≤σ.mem.length:=by
 have h2:=tL h
 have h3:∀l:List Ob,l.length≤(l.map fD).sum:=fun l=>by
  induction l with
  | nil=>exact Nat.zero_le _
  | cons a r ih=>rw[List.map_cons,List.sum_cons,List.length_cons]; have:1≤fD a:=(by unfold fD; omega); omega
 have:=h3 σ.L
 omega
def nB (jc:Nat)(vs:List Vv)(P:Rl):aW:=.cells 64 false [acc jc (aE4 vs),acc P.jl P.LO,acc P.js (aE4 (nS P.σ)),.iv (.sl .nil []),.iv (.sl .nil []),.iv (.int .i64 P.load),.iv (.bool P.wide)]
structure NS (b:Int) (S:aA) (j jc:Nat) (vs:List Vv) (P:Rl):Prop where
 own:S[j]? = some (nB jc vs P)
 ro:RO P.σ.L P.LO
 gd:Gd b P.σ
 b0:0≤b∧b≤67108864
 me:P.σ.mem.length≤1000000
theorem ixU {tg:Tag}{l:List Int}{i:Nat}(h:i<l.length):indexAddrS 1 (.iv (.sl tg (bE l))) (i:Int)=some (.iv (.cp [.int .u32 l[i]])):=by
 have:=rD (f:=.int .u32) (t:=tg) (l:=l) (i:=(i:Int)) (by omega)
 rw[Int.toNat_natCast,show l.getD i default=l[i] by simp[List.getD,List.getElem?_eq_getElem h]]at this
 exact this
theorem wd2 {c:Int}(h:isC c=true)(ad:List Int):wd ad ⟨2,c⟩=16*c+2:=by
 have hc:=(jF c).1 h
 unfold wd w32
 rw[if_neg (by simp),if_pos rfl]
 simp only[nF]
 omega
theorem aX8 {c:Int}(h:isC c=true):TM.Pure K 69 [.iv (.int .u32 (16*c+2))] (.iv (.int .i64 c)):=by
 have hc:=(jF c).1 h
 have c51:TM.Pure K 51 [.iv (.int .i64 c)] (.iv (.bool (isC c))):=dC (aQn c) rfl
 rw[h]at c51
 have f1:IntKind.u32.wrap (fP 32 (16*c+2) 15)=2:=by rw[aIc (by omega)]; omega
 have f2:(16*c+2) / 16=c:=by omega
 refine bP t69 rfl rfl ?_
 simp (config := { maxSteps := 4000000 }) (disch:=omega) only[t69,go_sem,f1,f2,aJ c51,Int.fdiv_eq_ediv_of_nonneg,aE,bJ,Bool.not_true]
theorem bFt {S:aA}{j jb:Nat}{s:List UInt8}(h:BD S j jb s)(hl:s.length≤100000000):prV S (K.prim 72) [.ptr j 115 0]=some (.iv (.str s),S):=by
 show gY 5 [.ptr j 115 0] S=_
 have ho:=h.own
 unfold bdB at ho
 by_cases hs:s=[]
 ·subst hs
  rw[show aF []=[] from rfl,fL]at ho
  simp only[gY,ho]
  simp
 ·have ht:=h.gl.tok (iR.2 hs)
  have hb:=jZ s
  have hss:fY (aF s) (aF s)=true:=lR _
  have hn:s.length≠0:=fun h=>hs (List.length_eq_zero_iff.1 h)
  have hn2:s.length<4611686018427387904:=by omega
  rw[if_neg hs,iI _ (iR.2 hs)]at ho
  rw[dU]at ht
  simp only[gY,ho,ht,hb,dU]
  simp[hn2,hss,hs]
theorem aCk:∀(l:List Int),(∀c∈l,isC c=true)→(cat l).length≤4*l.length
 | [],_=>Nat.le_refl _
 | c::l,h=>by
  have:=tH (h c (by simp))
  have:=aCk l fun x hx=>h x (by simp[hx])
  rw[cat,List.length_append,List.length_cons]; omega
theorem aR5 {S0:aA}{jB:Nat}(hjB:S0.length≤jB)(x0 x1:TV)(tg:Tag)(ad:List Int){cs:List Int}(hc:∀c∈cs,isC c=true)(hl:cs.length≤1000000):∀(k i:Nat) (S:aA) (jb:Nat) (s:List UInt8) (x4 x5 x9 x10:TV),i+k=cs.length→BD S jB jb s→gQ [] S0 S→(s≠[]→S0.length≤jb)→s.length≤4*i →
  ∃S' jb' y4 y5 y9 y10,lp' (lim K) t46L0 [x0,x1,.iv (.str []),.ptr jB 115 0,x4,x5,.iv (.sl tg (bE (cs.map fun c=>wd ad ⟨2,c⟩))),.iv (.int .i64 cs.length),.iv (.int .i64 i),x9,x10] S=.ret (.exit 0,[x0,x1,.iv (.str []),.ptr jB 115 0,y4,y5,.iv (.sl tg (bE (cs.map fun c=>wd ad ⟨2,c⟩))),.iv (.int .i64 cs.length),.iv (.int .i64 cs.length),y9,y10],S')∧BD S' jB jb' (s++cat (cs.drop i))∧gQ [] S0 S'
 | 0,i,S,jb,s,x4,x5,x9,x10,h,hB,hk,hj,hs=>by
  obtain rfl:i=cs.length:=by omega
  rw[List.drop_length,cat,List.append_nil]
  refine⟨S,jb,x4,x5,.iv (.bool false),x10,aP K _ _ t46L0.eq_1 ?_,hB,hk⟩
  simp (config := { maxSteps := 4000000 }) (disch:=omega) only[go_sem]
 | k+1,i,S,jb,s,x4,x5,x9,x10,h,hB,hk,hj,hs=>by
  have hla:i<cs.length:=by omega
  have hcc:=hc cs[i] (List.getElem_mem _)
  have hcr:=(jF _).1 hcc
  have hdr:cs.drop i=cs[i]::cs.drop (i+1):=List.drop_eq_getElem_cons hla
  have hix:=ixU (tg:=tg) (l:=cs.map fun c=>wd ad ⟨2,c⟩) (i:=i) (by rw[List.length_map]; exact hla)
  rw[List.getElem_map,wd2 hcc]at hix
  have c69:=aX8 hcc
  obtain⟨v,S1,jb1,c71,hB1,hl1,ho1,hn1⟩:=aXw hB (by omega) cs[i] hcc
  have hk1:gQ [] S0 S1:=⟨Nat.le_trans hk.len hl1,fun q B hq hb=>ho1 q B (hk.get q B hq hb) (by have:=cA hb; omega) fun hn=>by have:=hj hn; have:=cA hb; omega⟩
  have hw32:IntKind.i32.wrap cs[i]=cs[i]:=aR (by omega)
  have hbl:=tH hcc
  obtain⟨S',jb',y4,y5,y9,y10,ih,hB',hk'⟩:=aR5 hjB x0 x1 tg ad hc hl k (i+1) S1 jb1 (s++bO cs[i]) (.iv (.int .u32 (16*cs[i]+2))) (.iv (.int .i64 cs[i])) (.iv (.bool true)) (.iv (.bool false)) (by omega) hB1 hk1 (fun _=>by
   rcases hn1 with⟨hn,e⟩|h2
   ·rw[e]; exact hj hn
   ·exact Nat.le_trans hk.len h2) (by rw[List.length_append]; omega)
  rw[show ((i+1:Nat):Int)=(i:Int)+1 by omega]at ih
  rw[List.append_assoc]at hB'
  rw[hdr,cat]
  refine⟨S',jb',y4,y5,y9,y10,aP K _ _ t46L0.eq_1 ?_,hB',hk'⟩
  have hneg:¬cs[i]<0:=by omega
  clear hcc hcr hbl
  generalize cs[i]=c at *
  simp (config := { maxSteps := 4000000 }) (disch:=omega) only[go_sem,hix,aJ c69,hw32,hneg,c71,aE]
  exact congrArg er ih
theorem aX9 {cs:List Int}(hc:∀c∈cs,isC c=true)(hl:cs.length≤1000000)(ad:List Int)(tg:Tag)(j:Nat)(S:aA):∃S',(lim K).call 46 [.ptr j 77 0,.iv (.sl tg (bE (cs.map fun c=>wd ad ⟨2,c⟩)))] S=.ret (.iv (.str (cat cs)),S')∧gQ [] S S':=by
 have hul:=bY (cs.map fun c=>wd ad ⟨2,c⟩)
 rw[List.length_map]at hul
 have hB0:BD (S++[.cells 115 false [.iv .nilp,.iv (.sl .nil [])]]) S.length 0 []:=⟨by simp; rfl,⟨fun h=>absurd rfl h,fun _=>Nat.zero_le _⟩⟩
 obtain⟨S',jb',y4,y5,y9,y10,l,hB',hk'⟩:=aR5 (S0:=S) (jB:=S.length) (Nat.le_refl _) (.ptr j 77 0) (.iv (.sl tg (bE (cs.map fun c=>wd ad ⟨2,c⟩)))) tg ad hc hl cs.length 0 (S++[.cells 115 false [.iv .nilp,.iv (.sl .nil [])]]) 0 [] u_ u_ u_ u_ (by omega) hB0 (gQ.app [] S _) (fun h=>absurd rfl h) (by simp)
 rw[List.drop_zero,List.nil_append]at hB'
 rw[show ((0:Nat):Int)=0 from rfl]at l
 have hcl:=aCk cs hc
 have hp:=bFt hB' (by omega)
 refine⟨S',aD K _ (fn:=t46) rfl rfl ?_,hk'⟩
 simp (config := { maxSteps := 4000000 }) (disch:=omega) only[t46,go_sem,hul]
 rw[l]
 simp (config := { maxSteps := 4000000 }) (disch:=omega) only[go_sem,hp]
def is5 (o:Ob):Bool:=decide (o.ty=5)
structure Sy5 (σ:Sg):Prop where
 cnt:σ.L.countP is5=σ.sy.length
 nd:(σ.sy.map (·.1)).Nodup
 ne:∀x∈σ.sy,x.1≠[]
theorem sy0:Sy5 σ0:=⟨rfl,List.nodup_nil,fun x hx=>by cases hx⟩
theorem pA {b:Int}{σ:Sg}{o:Ob}(h:Sy5 σ)(ho:¬o.ty=5):Sy5 (push b σ o).2:=by
 refine⟨?_,h.nd,h.ne⟩
 show (σ.L++[o]).countP is5=σ.sy.length
 rw[List.countP_append,h.cnt]
 have:is5 o=false:=decide_eq_false ho
 simp[this]
theorem bDk {b z:Int}{σ:Sg}(h:Sy5 σ):Sy5 (qK b z σ).2:=by
 unfold qK
 split
 ·exact h
 ·exact pA h (by show ¬(7:Int)=5; decide)
theorem bDl {b:Int}{t:List UInt8}{σ:Sg}(h:Sy5 σ)(ht:t≠[]):Sy5 (qL b t σ).2:=by
 cases hf:σ.sy.find? (fun x=>x.1==t) with
 | some x=>rw[lY hf]; exact h
 | none =>
  rw[lX hf]
  have h1:Sy5 (push b σ ⟨4,chV t,0⟩).2:=pA h (by show ¬(4:Int)=5; decide)
  refine⟨?_,?_,?_⟩
  ·show ((push b σ ⟨4,chV t,0⟩).2.L++[(⟨5,[(push b σ ⟨4,chV t,0⟩).1],0⟩:Ob)]).countP is5=(σ.sy++[(t,(push b σ ⟨4,chV t,0⟩).2.L.length)]).length
   rw[List.countP_append,h1.cnt,List.length_append]
   rfl
  ·show ((σ.sy++[(t,(push b σ ⟨4,chV t,0⟩).2.L.length)]).map (·.1)).Nodup
   rw[List.map_append,List.nodup_append]
   refine⟨h.nd,by simp,fun a ha c hc e=>?_⟩
   rw[List.map_cons,List.map_nil,List.mem_singleton]at hc
   obtain⟨x,hx,e2⟩:=List.mem_map.1 ha
   have:=List.find?_eq_none.1 hf x hx
   simp only[beq_iff_eq]at this
   exact this (by rw[e2,e,hc])
  ·intro x hx
   rcases List.mem_append.1 hx with hx|hx
   ·exact h.ne x hx
   ·rw[List.mem_singleton]at hx; subst hx; exact ht
theorem aIg {b:Int}:∀(l:List Vv) {e:Vv} {σ:Sg},Sy5 σ→Sy5 (fE b l e σ).2
 | [],e,σ,h=>by rw[fE]; exact h
 | v::r,e,σ,h=>by
  rw[fE]
  exact aIg r (pA h (by show ¬(0:Int)=5; decide))
mutual
theorem aR6 (b:Int):∀(n:Nat) (d:Dt) (σ:Sg),eB d=true→Sy5 σ→Sy5 (fM b n d σ).2
 | 0,d,σ,hm,h=>by rw[fM]; exact h
 | n+1,d,σ,hm,h=>by
  rw[fM]
  split
  ·exact h
  split
  ·exact bDk h
  split
  ·exact h
  split
  ·exact pA h (by show ¬(4:Int)=5; decide)
  split
  ·rename_i h5
   refine bDl h fun e=>?_
   rw[kB,if_neg (by omega),if_neg (by omega),Bool.and_eq_true]at hm
   have:=hm.2; unfold nQ at this
   simp[h5]at this
   exact this.2 e
  split
  ·exact pA h (by show ¬(6:Int)=5; decide)
  split
  ·exact pA (wO b n _ σ (fun x hx=>rN hm hx) h) (by show ¬(1:Int)=5; decide)
  split
  ·have hmi:=tI d.w d (Nat.le_refl _)
   rw[hm,eq_comm,Bool.and_eq_true,List.all_eq_true]at hmi
   exact aIg _ (aR6 b n _ _ hmi.2 (wO b n _ σ hmi.1 h))
  split
  ·exact h
  split
  ·exact h
  ·exact h
theorem wO (b:Int):∀(n:Nat) (l:List Dt) (σ:Sg),(∀d∈l,eB d=true)→Sy5 σ→Sy5 (cG b n l σ).2
 | 0,l,σ,hm,h=>by rw[cG]; exact h
 | n+1,[],σ,hm,h=>by rw[cG]; exact h
 | n+1,d::l,σ,hm,h=>by
  rw[cG]
  exact wO b n l _ (fun x hx=>hm x (by simp[hx])) (aR6 b n d σ (hm d (by simp)) h)
end
inductive lC (σ:Sg):Vv→List Vv→Prop
 | nil:lC σ ⟨4,0⟩ []
 | cons {n:Nat} {x v:Vv} {l:List Vv} (h:σ.L[n]? = some ⟨0,[x,v],0⟩) (g:lC σ v l):lC σ ⟨7,n⟩ (x::l)
theorem lC.mono {σ τ:Sg}(hl:LeS σ τ){v:Vv}{l:List Vv}(h:lC σ v l):lC τ v l:=by
 induction h with
 | nil=>exact .nil
 | cons h g ih =>
  obtain⟨r,hr⟩:=hl.L
  refine .cons ?_ ih
  rw[hr,List.getElem?_append_left (List.getElem?_eq_some_iff.1 h).1]; exact h
theorem aA7 {b:Int}:∀(xs:List Vv) {v:Vv} {σ:Sg} {l:List Vv},lC σ v l→lC (fE b xs v σ).2 (fE b xs v σ).1 (xs.reverse++l)
 | [],v,σ,l,h=>by rw[fE]; exact h
 | x::r,v,σ,l,h=>by
  rw[fE,List.reverse_cons,List.append_assoc,List.singleton_append]
  refine aA7 r (.cons ?_ (h.mono (LeS.push ..)))
  show (σ.L++[_])[σ.L.length]? = _
  rw[List.getElem?_append_right (Nat.le_refl _),Nat.sub_self]; rfl
def aM1 (σ:Sg)(x:Vv)(t:List UInt8):Prop:=okC t=true∧t≠[]∧∃i k:Nat,x=⟨7,i⟩∧σ.L[i]? = some ⟨5,[⟨7,k⟩],0⟩∧σ.L[k]? = some ⟨4,chV t,0⟩
inductive iN (σ:Sg):List Vv→List (List UInt8)→Prop
 | nil:iN σ [] []
 | cons {x:Vv} {t:List UInt8} {l:List Vv} {ts:List (List UInt8)} (h:aM1 σ x t) (g:iN σ l ts):iN σ (x::l) (t::ts)
theorem iN.app {σ:Sg}{a:List Vv}{as1:List (List UInt8)}{c:List Vv}{cs:List (List UInt8)}(h:iN σ a as1)(g:iN σ c cs):iN σ (a++c) (as1++cs):=by
 induction h with
 | nil=>exact g
 | cons h _ ih=>exact .cons h ih
theorem iN.rev {σ:Sg}{a:List Vv}{ts:List (List UInt8)}(h:iN σ a ts):iN σ a.reverse ts.reverse:=by
 induction h with
 | nil=>exact .nil
 | cons h _ ih=>rw[List.reverse_cons,List.reverse_cons]; exact ih.app (.cons h .nil)
theorem aE5 {b:Int}{σ:Sg}(hg:Gd b σ)(h5:Sy5 σ):∀l:List (List UInt8×Nat),(∀x∈l,x∈σ.sy)→iN σ (l.map fun x=>⟨7,(x.2:Int)⟩) (l.map (·.1))
 | [],_=>.nil
 | x::l,hl=>by
  obtain⟨h1,k,h2,h3⟩:=hg.sy x (hl x (by simp))
  exact .cons ⟨h1,h5.ne x (hl x (by simp)),x.2,k,rfl,h2,h3⟩ (aE5 hg h5 l fun y hy=>hl y (by simp[hy]))
theorem aM1.mono {σ τ:Sg}(hl:LeS σ τ){x:Vv}{t:List UInt8}(h:aM1 σ x t):aM1 τ x t:=by
 obtain⟨h1,h2,i,k,e,h3,h4⟩:=h
 obtain⟨r,hr⟩:=hl.L
 refine⟨h1,h2,i,k,e,?_,?_⟩
 ·rw[hr,List.getElem?_append_left (List.getElem?_eq_some_iff.1 h3).1]; exact h3
 ·rw[hr,List.getElem?_append_left (List.getElem?_eq_some_iff.1 h4).1]; exact h4
theorem iN.mono {σ τ:Sg}(hl:LeS σ τ){a:List Vv}{ts:List (List UInt8)}(h:iN σ a ts):iN τ a ts:=by
 induction h with
 | nil=>exact .nil
 | cons h _ ih=>exact .cons (h.mono hl) ih
theorem aLo {b:Int}:∀(l:List Vv) {v:Vv} {σ:Sg},(∀u∈l,OkV σ.L.length u)→OkV σ.L.length v→OkV (fE b l v σ).2.L.length (fE b l v σ).1
 | [],v,σ,_,hv=>by rw[fE]; exact hv
 | u::r,v,σ,hl,hv=>by
  rw[fE]
  exact aLo r (fun w hw=>(hl w (List.mem_cons_of_mem _ hw)).mono (LeS.push ..).len.2) (kC ..)
theorem aM2 {l:List (List UInt8)}(h:l.Nodup):l.reverse.Nodup:=by
 unfold List.Nodup at *
 rw[List.pairwise_reverse]
 exact h.imp fun hab=>Ne.symm hab
theorem aM3 {b:Int}{cs:List Dt}(hm:∀d∈cs,eB d=true)(hgd:Gd b (eC b cs).2):∃l,∃ts,ts=((eC b cs).2.sy.map (·.1)).reverse∧lC (cY b cs).2 (cY b cs).1 l∧iN (cY b cs).2 l ts∧ts.Nodup∧ts.length=(cY b cs).2.L.countP is5∧l.length=ts.length∧OkV (cY b cs).2.L.length (cY b cs).1:=by
 have h5:Sy5 (eC b cs).2:=wO b _ cs σ0 hm sy0
 have h5f:Sy5 (cY b cs).2:=aIg _ h5
 have hle:LeS (eC b cs).2 (cY b cs).2:=qM ..
 have hsy:(cY b cs).2.sy=(eC b cs).2.sy:=by
  unfold cY
  have:∀(xs:List Vv) (v:Vv) (σ:Sg),(fE b xs v σ).2.sy=σ.sy:=fun xs=>by
   induction xs with
   | nil=>intro v σ; rw[fE]
   | cons x r ih=>intro v σ; rw[fE,ih]; rfl
  exact this _ _ _
 have hc:lC (cY b cs).2 (cY b cs).1 ((nS (eC b cs).2).reverse++[]):=aA7 (nS (eC b cs).2) .nil
 rw[List.append_nil]at hc
 have hs:=(aE5 hgd h5 (eC b cs).2.sy fun x hx=>hx).mono hle
 refine⟨_,_,rfl,hc,hs.rev,aM2 h5.nd,?_,?_,?_⟩
 ·rw[List.length_reverse,List.length_map,h5f.cnt,hsy]
 ·rw[List.length_reverse,List.length_reverse,List.length_map]; unfold nS; rw[List.length_map]
 ·refine aLo _ (fun u hu=>?_) ⟨(fun h=>by simp at h),fun _=>by simp⟩
  obtain⟨x,hx,rfl⟩:=List.mem_map.1 hu
  obtain⟨_,i,h1,h2⟩:=hgd.sy x hx
  have:=(List.getElem?_eq_some_iff.1 h1).1
  refine⟨fun _=>?_,fun h=>absurd rfl h⟩
  show 0≤((x.2:Nat):Int)∧((x.2:Nat):Int)<_
  omega
def lsD:List Dt→Dt→Dt
 | [],e=>e
 | d::r,e=>.mk 6 0 [] .full [d,lsD r e] d.p
def lA:aL:=(.region [⟨.allocH 38 [(.int .i64 0),(.int .i64 0),(.str []),(.sl .nil []),(.int .i64 0)],(some 4),none⟩,⟨.store 5 (.reg 0) (.loc 7),none,none⟩])
def lB:aL:=(.block 1
  (.region [⟨.loadN 5 (.loc 4),none,none⟩,⟨.loadN 5 (.loc 2),none,none⟩,⟨.lit false [(.int .i64 0),(.int .i64 0),(.str []),(.sl .nil []),(.int .i64 0)] 2 [(0,(.reg 0)),(1,(.reg 1))],none,none⟩,⟨.fieldAddr 4 (.loc 4),none,none⟩,⟨.load1 (.reg 3),none,none⟩,⟨.build [(.int .i64 0),(.int .i64 0),(.str []),(.sl .nil []),(.int .i64 0)] [(0,1,(.cst (.int .i64 6))),(3,1,(.reg 2)),(4,1,(.reg 4))],none,none⟩,⟨.store 5 (.loc 2) (.reg 5),none,none⟩]))
def cD (d:Dt):aW:=.cells 38 false ((cJ d).map TV.iv)
def e70 (a0 a1:TV)(q:Nat)(x4 x6 x7:TV):Env:=[a0,a1,.ptr q 38 0,.hole,x4,.fn 122 [] [.ptr (q+1) 23 0],x6,x7]
structure YL (S0:aA) (S:aA) (q:Nat) (a0 a1 c:TV) (e:Dt):Prop where
 fl:S[q]? = some (cD e)
 fc:S[q+1]? = some (.cells 23 false [c])
 fy:∃x4 x6 x7,S[q+2]? = some (.lp .ready none (e70 a0 a1 q x4 x6 x7) [6,7] lA lB)
 ke:gQ [] S0 S
 ql:S0.length≤q
theorem aR7 {S0 S:aA}{q:Nat}{a0 a1 c:TV}{e:Dt}(h:YL S0 S q a0 a1 c e)(d:Dt)(i:Int) :
  ∃S',(lim K).yld (q+2) [.iv (.int .i64 i),.iv (.agg (cJ d))] S=.ret (.iv (.bool true),S')∧YL S0 S' q a0 a1 c (.mk 6 0 [] .full [d,e] d.p):=by
 obtain⟨x4,x6,x7,hy⟩:=h.fy
 have hl:=h.fl
 have hc:=h.fc
 have hql:=h.ql
 have hkl:=h.ke.len
 have hlq:=cA hy
 -- the dE of d are stored first
 have s1l:(S++[cD d])[q]? = some (cD e):=iJ hl _
 have s1c:(S++[cD d])[q+1]? = some (.cells 23 false [c]):=iJ hc _
 have s1y:(S++[cD d])[q+2]? = some (.lp .ready none (e70 a0 a1 q x4 x6 x7) [6,7] lA lB):=iJ hy _
 have s1d:(S++[cD d])[S.length]? = some (cD d):=by simp
 generalize hT:(S++[cD d]).set (q+2) (.lp .busy none (e70 a0 a1 q x4 x6 x7) [6,7] lA lB)=T
 have tl:T[q]? = some (cD e):=by rw[←hT,bD (by omega)]; exact s1l
 have tc:T[q+1]? = some (.cells 23 false [c]):=by rw[←hT,bD (by omega)]; exact s1c
 have td:T[S.length]? = some (cD d):=by rw[←hT,bD (by omega)]; exact s1d
 have ty:T[q+2]? = some (.lp .busy none (e70 a0 a1 q x4 x6 x7) [6,7] lA lB):=by rw[←hT]; exact cX (by simp; omega) _
 have y3:(T.set q (cD (.mk 6 0 [] .full [d,e] d.p)))[q+2]? = some (.lp .busy none (e70 a0 a1 q x4 x6 x7) [6,7] lA lB):=by rw[bD (by omega)]; exact ty
 have edd:=bC d
 have ede:=bC e
 have emk:cJ (.mk 6 0 [] .full [d,e] d.p)=[.int .i64 6,.int .i64 0,.str [],.sl .full [cJ d,cJ e],.int .i64 d.p]:=by rw[cJ,aY,aY,aY]
 refine⟨_,aAc (env2:=e70 a0 a1 q (.ptr S.length 38 0) (.iv (.int .i64 i)) (.iv (.agg (cJ d)))) (env3:=e70 a0 a1 q (.ptr S.length 38 0) (.iv (.int .i64 i)) (.iv (.agg (cJ d)))) (S1:=S++[cD d]) (S2:=T.set q (cD (.mk 6 0 [] .full [d,e] d.p))) hy rfl ?_ s1y ?_ y3,⟨?_,?_,⟨x4,x6,x7,cX (cA y3) _⟩,?_,hql⟩⟩
 ·unfold cD
  rw[edd]
  simp (config := { maxSteps := 4000000 }) (disch:=omega) only[lA,e70,go_sem,List.map_cons,List.map_nil]
 ·rw[hT]
  unfold cD at *
  rw[emk,ede,edd]
  rw[edd]at td
  rw[ede]at tl
  simp (config := { maxSteps := 4000000 }) (disch:=omega) only[lB,e70,go_sem,List.map_cons,List.map_nil,td,tl,gP,fU]at td tl ⊢
 ·rw[bD (by omega),cX (cA tl)]
 ·rw[bD (by omega),bD (by omega)]; exact tc
 ·refine⟨by rw[List.length_set,List.length_set,←hT,List.length_set,List.length_append]; omega,fun j B hj hb=>?_⟩
  have:=cA hb
  rw[bD (by omega),bD (by omega),←hT,bD (by omega)]
  exact iJ (h.ke.get j B hj hb) _
theorem aM4 {l:List Dt}{i:Nat}(h:i<l.length):(aY l)[i]? = some (cJ l[i]):=by rw[eM,List.getElem?_map,List.getElem?_eq_getElem h]; rfl
theorem aLp {S0:aA}{q:Nat}{a0 a1:TV}{ja:Nat}{l:List Dt}(hl:l.length≤1000000)(e:Dt):∀(k:Nat) (S:aA) (x3 x4:TV),k≤l.length→YL S0 S q a0 a1 (acc ja (aY l)) (lsD (l.drop k) e) →
  ∃S' y3 y4,lp' (lim K) t122L0 [.yld (q+2),.ptr (q+1) 23 0,.iv (.int .i64 ((k:Int)-1)),x3,x4] S=.ret (.exit 0,[.yld (q+2),.ptr (q+1) 23 0,.iv (.int .i64 (-1)),y3,y4],S')∧YL S0 S' q a0 a1 (acc ja (aY l)) (lsD l e)
 | 0,S,x3,x4,hk,hY=>by
  rw[List.drop_zero]at hY
  refine⟨S,.iv (.bool false),x4,aP K _ _ t122L0.eq_1 ?_,hY⟩
  rw[show ((0:Nat):Int)-1 = -1 from rfl]
  simp (config := { maxSteps := 4000000 }) (disch:=omega) only[go_sem]
 | k+1,S,x3,x4,hk,hY=>by
  have hla:k<l.length:=by omega
  have hdr:l.drop k=l[k]::l.drop (k+1):=List.drop_eq_getElem_cons hla
  obtain⟨S1,y1,hY1⟩:=aR7 hY l[k] (k:Int)
  have hix:indexAddrS 5 (acc ja (aY l)) (k:Int)=some (.iv (.cp (cJ l[k]))):=bDi (aM4 hla) (by rw[bC]; rfl)
  have hc:=hY.fc
  obtain⟨S',y3,y4,ih,hY'⟩:=aLp (q:=q) (a0:=a0) (a1:=a1) (ja:=ja) hl e k S1 (.iv (.bool true)) (.iv (.bool false)) (by omega) (by rw[hdr,lsD]; exact hY1)
  rw[show (((k+1:Nat):Int)-1)=(k:Int) by omega]
  refine⟨S',y3,y4,aP K _ _ t122L0.eq_1 ?_,hY'⟩
  have hel:=bC l[k]
  generalize l[k]=d at *
  rw[hel]at y1 hix
  simp (config := { maxSteps := 4000000 }) (disch:=omega) only[go_sem,hc,hix,aMo,y1,er_ret,aE]
  exact congrArg er ih
theorem aYa (ja:Nat)(l:List Dt)(S:aA):(lim K).call 97 [acc ja (aY l)] S=.ret (.fn 122 [] [.ptr S.length 23 0],S++[.cells 23 false [acc ja (aY l)]]):=by
 refine aD K _ (fn:=t97) rfl rfl ?_
 simp (config := { maxSteps := 4000000 }) (disch:=omega) only[t97,go_sem]
theorem aYb (ja:Nat){l:List Dt}(hl:l.length≤1000000)(e:Dt)(S:aA):∃S',(lim K).call 70 [acc ja (aY l),.iv (.agg (cJ e))] S=.ret (.iv (.agg (cJ (lsD l e))),S')∧gQ [] S S':=by
 have hle:=bN l
 have hY:YL S (S++[cD e,.cells 23 false [acc ja (aY l)],.lp .ready none (e70 (acc ja (aY l)) (.iv (.agg (cJ e))) S.length u_ u_ u_) [6,7] lA lB]) S.length (acc ja (aY l)) (.iv (.agg (cJ e))) (acc ja (aY l)) (lsD (l.drop l.length) e):=⟨by rw[List.drop_length,lsD]; simp,by simp,⟨u_,u_,u_,by simp⟩,gQ.app [] S _,Nat.le_refl _⟩
 obtain⟨S5,y3,y4,l1,hY5⟩:=aLp (a0:=acc ja (aY l)) (a1:=.iv (.agg (cJ e))) (ja:=ja) hl e l.length _ u_ u_ (Nat.le_refl _) hY
 obtain⟨z4,z6,z7,hy5⟩:=hY5.fy
 have gl5:=hY5.fl
 have c122:(lim K).call 122 [.yld (S.length+2),.ptr (S.length+1) 23 0] (S++[cD e,.cells 23 false [acc ja (aY l)],.lp .ready none (e70 (acc ja (aY l)) (.iv (.agg (cJ e))) S.length u_ u_ u_) [6,7] lA lB])=.ret (u_,S5):=by
  have hc:=hY.fc
  refine aD K _ (fn:=t122) rfl rfl ?_
  simp (config := { maxSteps := 4000000 }) (disch:=omega) only[t122,go_sem,hc,fQ,hle,aE]
  rw[l1]
  simp (config := { maxSteps := 4000000 }) (disch:=omega) only[go_sem]
 have hkl:=hY5.ke
 have hk6:gQ [] S (S5.set (S.length+2) (.lp .exhausted none (e70 (acc ja (aY l)) (.iv (.agg (cJ e))) S.length z4 z6 z7) [6,7] lA lB)):=⟨by rw[List.length_set]; exact hkl.len,fun j B hj hb=>by
  have:=cA hb
  rw[bD (by omega)]; exact hkl.get j B hj hb⟩
 refine⟨_,aD K _ (fn:=t70) rfl rfl ?_,hk6⟩
 have gs:∀B:aW,(S5.set (S.length+2) B)[S.length]? = S5[S.length]? := fun B=>bD (by omega) B
 have hl1:∀A:aW,(S++[A]).length=S.length+1:=fun A=>by simp
 have hl2:∀A B:aW,(S++[A]++[B]).length=S.length+2:=fun A B=>by simp
 have hap:∀A B C:aW,S++[A]++[B]++[C]=S++[A,B,C]:=fun A B C=>by simp
 have c97:=aYa ja l (S++[cD e])
 rw[hl1]at c97
 have ede:=bC e
 have edl:=bC (lsD l e)
 clear hY hY5 l1 hkl hk6
 unfold cD e70 lA lB at *
 rw[ede]at c97 c122 hy5 ⊢
 rw[edl]at gl5 ⊢
 rw[List.map_cons,List.map_cons,List.map_cons,List.map_cons,List.map_cons,List.map_nil]at c97 c122 gl5
 simp (config := { maxSteps := 4000000 }) (disch:=omega) only[t70,go_sem,c97,hl1,hl2,hap,c122,aEk,hy5,uH,gs,gl5]
def dF:Dt:=.mk 0 0 [] .nil [] 0
def dR (t:List UInt8):Dt:=.mk 5 0 t .nil [] 0
theorem aCl:cJ dF=[.int .i64 0,.int .i64 0,.str [],.sl .nil [],.int .i64 0]:=by unfold dF; rw[cJ,aY]
theorem aCm (t:List UInt8):cJ (dR t)=[.int .i64 5,.int .i64 0,.str t,.sl .nil [],.int .i64 0]:=by unfold dR; rw[cJ,aY]
theorem aR8 (j:Nat)(S:aA)(B:aW):gQ [j] S (S.set j B):=⟨by rw[List.length_set]; exact Nat.le_refl _,fun q X hq hb=>by rw[bD (fun e=>hq (by simp[e]))]; exact hb⟩
theorem aM5 {S S':aA}(h:gQ [] S S')(I:List Nat):gQ I S S':=⟨h.len,fun q X hq hb=>h.get q X (by simp) hb⟩
theorem aYc {S:aA}(j:Nat):(lim K).call 43 [.ptr j 77 0,.iv (.int .u32 38)] S=.ret (.iv (.agg (cJ dF)),S):=by
 have f1:IntKind.u32.wrap (fP 32 38 3)=2:=eN (by omega)
 rw[aCl]
 refine aD K _ (fn:=t43) rfl rfl ?_
 simp (config := { maxSteps := 4000000 }) (disch:=omega) only[t43,go_sem,f1]
theorem aLq {b:Int}{t:Tag}{mem:List Int}{p:Int}{S:aA}{j:Nat}(h:S[j]? = some (rdB b t mem p))(hp:0≤p∧p<1048576)(dp:Int)(hd:0≤dp∧dp≤1000):(lim K).call 30 [.ptr j 77 0,.iv (.int .u32 38),.iv (.int .i64 dp)] S=.ret (.iv (.agg (cJ dF)),S.set j (rdB b t mem (p+1))):=by
 have c42:=aCj h hp dp hd
 have c43:=aYc (S:=S.set j (rdB b t mem (p+1))) j
 have f1:IntKind.u32.wrap (fP 32 38 3)=2:=eN (by omega)
 rw[aCl]at *
 refine aD K _ (fn:=t30) rfl rfl ?_
 unfold rdB at *
 simp (config := { maxSteps := 4000000 }) (disch:=omega) only[t30,go_sem,f1,h,c42,c43]
theorem aR9 {t:List UInt8}(hok:okC t=true)(h:t≠[]):chs t≠[]∧cat (chs t)=t:=by
 have h1:=(qO t.length t 0 (Nat.le_refl _) (aEy hok)).2
 have e:chs t=gZ (dE t.length t 0).1:=by unfold chs; rw[if_pos (aEy hok)]
 rw[←e]at h1
 refine⟨fun e0=>h ?_,h1⟩
 rw[←h1,e0]; rfl
theorem aYd {b:Int}{σ:Sg}{tg:Tag}(hR:RdC b σ tg){x:Vv}{t:List UInt8}(hx:aM1 σ x t)(ht:t.length≤1000000){p:Int}{S:aA}{j:Nat}(h:S[j]? = some (rdB b tg σ.mem p))(hp:0≤p∧p<1048576)(dp:Int)(hd:0≤dp∧dp≤1000) :
  ∃S',(lim K).call 30 [.ptr j 77 0,.iv (.int .u32 (wd σ.ad x)),.iv (.int .i64 dp)] S=.ret (.iv (.agg (cJ (dR t))),S')∧S'[j]? = some (rdB b tg σ.mem (p+1))∧gQ [j] S S':=by
 obtain⟨hok,hne,i,k,rfl,hi,hk⟩:=hx
 obtain⟨hil,hie⟩:=List.getElem?_eq_some_iff.1 hi
 obtain⟨hkl,hke⟩:=List.getElem?_eq_some_iff.1 hk
 obtain⟨g1,c44⟩:=wN hR hil h
 have c42:=aCj h hp dp hd
 have h2:(S.set j (rdB b tg σ.mem (p+1)))[j]? = some (rdB b tg σ.mem (p+1)):=cX (cA h) _
 obtain⟨g2,c44b⟩:=wN hR hkl h2
 rw[hie]at c44
 rw[hke]at c44b
 have eb1:boO σ.ad ⟨5,[⟨7,(k:Int)⟩],0⟩=[wd σ.ad ⟨7,k⟩]:=by unfold boO prO; rw[if_neg (by simp)]; rfl
 have eb2:boO σ.ad ⟨4,chV t,0⟩=(chs t).map fun c=>wd σ.ad ⟨2,c⟩:=by
  unfold boO prO
  rw[if_neg (by simp),List.nil_append]
  show (chV t).map _=_
  rw[rK,List.map_map]; rfl
 obtain⟨hcn,hcat⟩:=aR9 hok hne
 have hcl:=aCh (t:=t)
 obtain⟨S3,c46,hk3⟩:=aX9 (aCg t) (by omega) σ.ad g2 j (S.set j (rdB b tg σ.mem (p+1)))
 rw[hcat]at c46
 rw[eb1]at c44
 rw[eb2]at c44b
 have hix:indexAddrS 1 (.iv (.sl g1 (bE [wd σ.ad ⟨7,(k:Int)⟩]))) 0=some (.iv (.cp [.int .u32 (wd σ.ad ⟨7,k⟩)])):=rfl
 have hl1:(bE [wd σ.ad ⟨7,(k:Int)⟩]).length=1:=rfl
 have hl2:(bE ((chs t).map fun c=>wd σ.ad ⟨2,c⟩)).length=(chs t).length:=by rw[bY,List.length_map]
 have hlp:0<(chs t).length:=List.length_pos_iff.2 hcn
 have hwx:=wd7 hR hil
 have hpl:=mR hR.gd hil
 have hsp:=kZ σ.L[i]
 have hb:=hR.b0
 have f1:IntKind.u32.wrap (fP 32 (wd σ.ad ⟨7,i⟩) 3)=1:=by rw[hwx,eN (by omega)]; omega
 refine⟨S3,aD K _ (fn:=t30) rfl rfl ?_,hk3.get j _ (by simp) h2,(aR8 j S _).trans (aM5 hk3 _)⟩
 rw[aCm]
 unfold rdB at *
 generalize wd σ.ad ⟨7,(i:Int)⟩=w at *
 generalize wd σ.ad ⟨7,(k:Int)⟩=w2 at *
 generalize bE ((chs t).map fun c=>wd σ.ad ⟨2,c⟩)=W at *
 generalize (chs t).length=L at *
 clear hR hi hk hie hke hil hkl hpl hsp eb1 eb2 hcat hcl hwx hk3
 simp (config := { maxSteps := 4000000 }) (disch:=omega) only[t30,go_sem,f1,h,c44,c42,h2,hl1,hix,c44b,hl2,hlp,c46]
end Go.Proofs.YtjbpbohpmfpoiaaGreatDoor
