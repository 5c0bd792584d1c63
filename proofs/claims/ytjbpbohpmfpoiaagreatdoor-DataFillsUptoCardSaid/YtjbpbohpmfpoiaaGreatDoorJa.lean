/- Some texts of the proof, joined. Condition: none. -/
import Derived.Test.YtjbpbohpmfpoiaaGreatDoorTmProg
import Derived.Test.YtjbpbohpmfpoiaaGreatDoorTmE
import Derived.Test.YtjbpbohpmfpoiaaGreatDoorTmF
set_option maxRecDepth 100000
set_option maxHeartbeats 32000000
set_option linter.unusedSimpArgs false
set_option linter.unusedVariables false
namespace Go.Proofs.YtjbpbohpmfpoiaaGreatDoor
open Go Go.TM
abbrev u_:TV:=.tup []
attribute [go_sem] TM.undef
attribute [go_sem] beq_self_eq_true bEy bEz ifT ifF eqT eqF neT neF dU TM.cB aEa List.replicate List.cons_append List.nil_append decide_true decide_false
attribute [go_sem] Nat.reduceAdd Nat.reduceSub Nat.reduceMul Nat.reduceLT Nat.reduceLeDiff Nat.reduceEqDiff Nat.reduceBEq reduceIte reduceCtorEq Int.reduceEq Int.reduceLT Int.reduceLE Int.reduceAdd Int.reduceSub Int.reduceMul Int.reduceToNat Int.reduceNeg Int.reduceBEq Int.reduceBNe Int.reduceTDiv Int.reduceTMod Int.reducePow Nat.reducePow Nat.reduceDiv Nat.reduceMod Int.reduceMod Int.reduceDiv Int.reduceNe Int.reduceFDiv
inductive Dt where
 | mk (k n:Int) (t:List UInt8) (g:Tag) (ks:List Dt) (p:Int)
instance:Inhabited Dt:=⟨.mk 0 0 [] .nil [] 0⟩
def Dt.k:Dt→Int | .mk k _ _ _ _ _=>k
def Dt.n:Dt→Int | .mk _ n _ _ _ _=>n
def Dt.t:Dt→List UInt8 | .mk _ _ t _ _ _=>t
def Dt.g:Dt→Tag | .mk _ _ _ g _ _=>g
def Dt.ks:Dt→List Dt | .mk _ _ _ _ ks _=>ks
def Dt.p:Dt→Int | .mk _ _ _ _ _ p=>p
mutual
def cJ:Dt→List IV
 | .mk k n t g ks p=>[.int .i64 k,.int .i64 n,.str t,.sl g (aY ks),.int .i64 p]
def aY:List Dt→List (List IV)
 | []=>[]
 | d::ds=>cJ d::aY ds
end
mutual
def Dt.w:Dt→Nat
 | .mk _ _ t _ ks _=>t.length+Dt.ws ks+1
def Dt.ws:List Dt→Nat
 | []=>0
 | d::ds=>Dt.w d+Dt.ws ds
end
theorem eM:∀ks:List Dt,aY ks=ks.map cJ
 | []=>by rw[aY]; rfl
 | d::ds=>by rw[aY,eM ds]; rfl
theorem bN (ks:List Dt):(aY ks).length=ks.length:=by rw[eM,List.length_map]
theorem bC (d:Dt):cJ d=[.int .i64 d.k,.int .i64 d.n,.str d.t,.sl d.g (aY d.ks),.int .i64 d.p]:=by
 cases d; rw[cJ]; rfl
theorem aQl (d:Dt):(cJ d).length=5:=by rw[bC]; rfl
theorem Dt.w_eq (d:Dt):d.w=d.t.length+Dt.ws d.ks+1:=by cases d; rw[Dt.w]; rfl
theorem Dt.ws_mem {d:Dt}:∀ {ks:List Dt},d∈ks→d.w≤Dt.ws ks
 | x::r,h=>by
  rw[Dt.ws]
  rcases List.mem_cons.1 h with rfl|h
  ·omega
  ·have:=Dt.ws_mem h; omega
theorem Dt.ws_len:∀ks:List Dt,ks.length≤Dt.ws ks
 | []=>by simp
 | x::r=>by
  have:=Dt.ws_len r
  have:=Dt.w_eq x
  rw[Dt.ws,List.length_cons]; omega
theorem Dt.kid_lt {d x:Dt}(h:x∈d.ks):x.w<d.w:=by
 have:=Dt.ws_mem h
 rw[Dt.w_eq d]; omega
theorem ixD {g:Tag}{ks:List Dt}{i:Int}(h:0≤i∧i<ks.length):indexAddrS 5 (.iv (.sl g (aY ks))) i=some (.iv (.cp (cJ (ks.getD i.toNat default)))):=by
 rw[eM]
 exact aWm (f:=cJ) aQl h
theorem ao0 (cs:List IV):dJ (.iv (.cp cs)) 0=some (.iv (.cp cs)):=by simp[dJ]
theorem aoS (x:IV)(cs:List IV)(n:Nat):dJ (.iv (.cp (x::cs))) (n+1)=dJ (.iv (.cp cs)) n:=by simp[dJ]
theorem aMo (env:Env)(S:aA)(a b c d e:IV):bH env S (.iv (.cp [a,b,c,d,e])) 5=some [.iv a,.iv b,.iv c,.iv d,.iv e]:=rfl
theorem wZ (env:Env)(S:aA)(d:Dt):bH env S (.iv (.cp (cJ d))) 5=some [.iv (.int .i64 d.k),.iv (.int .i64 d.n),.iv (.str d.t),.iv (.sl d.g (aY d.ks)),.iv (.int .i64 d.p)]:=by
 rw[bC]; rfl
theorem aQm {α:Type}[Inhabited α]{l:List α}{i:Nat}(h:i<l.length):l.drop i=l.getD i default::l.drop (i+1):=by
 rw[List.drop_eq_getElem_cons h,List.getD_eq_getElem?_getD,List.getElem?_eq_getElem h]; rfl
theorem mO {α:Type}[Inhabited α]{l:List α}{i:Nat}(h:i<l.length):l.getD i default∈l:=by
 rw[List.getD_eq_getElem?_getD,List.getElem?_eq_getElem h]; exact List.getElem_mem h
def nI {α:Type}(m:Int)(f:α→Int):Int→List α→Int
 | a,[]=>a
 | a,d::ds=>if a<m then nI m f (a+f d) ds else a
def isC (c:Int):Bool:=decide (0≤c)&&decide (c≤1114111)&&(decide (c<55296)||decide (57343<c))
theorem jF (c:Int):isC c=true↔0≤c∧c≤1114111∧(c<55296∨57343<c):=by
 simp[isC]; omega
theorem bCh (c:Int):(lim K).call 78 [.iv (.int .i32 c)] []=.ret (.iv (.bool (isC c)),[]):=by
 refine aD K [] (fn:=t78) rfl rfl ?_
 simp only[t78,go_sem]
 repeat' (first|(first|refine cM (fun h=>?_) (fun h=>?_)|refine cN (fun h=>?_) (fun h=>?_)|refine cO (fun h=>?_) (fun h=>?_)|refine dP (fun h=>?_) (fun h=>?_))|simp (disch:=omega) only[go_sem])
 all_goals (congr 4; simp[isC, *]; try omega)
theorem aQn (c:Int):(lim K).call 51 [.iv (.int .i64 c)] []=.ret (.iv (.bool (isC c)),[]):=by
 refine aD K [] (fn:=t51) rfl rfl ?_
 simp only[t51,go_sem]
 repeat' (first|(first|refine cM (fun h=>?_) (fun h=>?_)|refine cN (fun h=>?_) (fun h=>?_)|refine cO (fun h=>?_) (fun h=>?_)|refine dP (fun h=>?_) (fun h=>?_))|simp (disch:=omega) only[go_sem,bCh,aR])
 all_goals (congr 4; simp[isC, *])
 all_goals (try omega)
def bytes (c:Int):List UInt8:=(Utf8.encode c).data.toList
def bO (c:Int):List UInt8 :=
 if c<128 then [UInt8.ofNat c.toNat]
 else if c<2048 then [UInt8.ofNat (192+c.toNat / 64),UInt8.ofNat (128+c.toNat % 64)]
 else if c<65536 then [UInt8.ofNat (224+c.toNat / 4096),UInt8.ofNat (128+c.toNat / 64 % 64),UInt8.ofNat (128+c.toNat % 64)]
 else [UInt8.ofNat (240+c.toNat / 262144),UInt8.ofNat (128+c.toNat / 4096 % 64),UInt8.ofNat (128+c.toNat / 64 % 64),UInt8.ofNat (128+c.toNat % 64)]
def tab (n:Nat):Nat :=
 if n<128 then 240 else if n<194 then 241 else if n<224 then 2 else if n=224 then 19 else if n<237 then 3 else if n=237 then 35 else if n<240 then 3 else if n=240 then 52 else if n<244 then 4 else if n=244 then 68 else 241
theorem aW6:(List.range 256).all (fun n=>match g0[n]? with|some (.int .u8 m)=>m==(tab n:Int)|_=>false)=true:=by kernel_rfl
theorem aW7 {n:Nat}(h:n<256):g0[n]? = some (.int .u8 (tab n)):=by
 have:=List.all_eq_true.1 aW6 n (List.mem_range.2 h)
 split at this
 ·rename_i m e; rw[e]; simp at this; rw[this]
 ·cases this
theorem hK0:K.glob 0=some g0:=rfl
theorem hK1:K.glob 1=some g1:=rfl
theorem bCi:g0.length=256:=by kernel_rfl
def fol (b:UInt8):Bool:=decide (128≤b.toNat)&&decide (b.toNat≤191)
def D:List UInt8→Nat×Nat
 | []=>(65533,0)
 | a::r =>
  if a.toNat<128 then (a.toNat,1)
  else if a.toNat<194 then (65533,1)
  else if a.toNat<224 then match r with
   | b::_=>if fol b then (a.toNat % 32*64+b.toNat % 64,2) else (65533,1)
   | _=>(65533,1)
  else if a.toNat<240 then match r with
   | b::c::_=>if (decide ((if a.toNat=224 then 160 else 128)≤b.toNat)&&decide (b.toNat≤(if a.toNat=237 then 159 else 191)))&&fol c then (a.toNat % 16*4096+b.toNat % 64*64+c.toNat % 64,3) else (65533,1)
   | _=>(65533,1)
  else if a.toNat<245 then match r with
   | b::c::d::_=>if (decide ((if a.toNat=240 then 144 else 128)≤b.toNat)&&decide (b.toNat≤(if a.toNat=244 then 143 else 191)))&&fol c&&fol d then (a.toNat % 8*262144+b.toNat % 64*4096+c.toNat % 64*64+d.toNat % 64,4) else (65533,1)
   | _=>(65533,1)
  else (65533,1)
theorem bl (b:UInt8):b.toNat<256:=b.toNat_lt
theorem aH (a:UInt8)(r:List UInt8):aF (a::r)=[.int .u8 a.toNat]::aF r:=rfl
theorem aEo (t:Tag):(lim K).call 128 [.iv (.sl t (aF []))] []=.ret (.tup [.iv (.int .i32 65533),.iv (.int .i64 0)],[]):=by
 refine aD K [] (fn:=t128) rfl rfl ?_
 simp (disch:=omega) only[t128,go_sem]
theorem eG {a:UInt8}:ixA 256 1 (.iv (.cp g0)) (.iv (.int .u8 a.toNat))=some (.iv (.cp (g0.drop a.toNat))):=by
 have:=bl a
 rw[aMg]
 have h:(0:Int)≤(a.toNat:Int)∧(a.toNat:Int)<((256:Nat):Int):=by omega
 simp only[h,and_self,↓reduceIte,Int.toNat_natCast,Nat.mul_one]
 exact aQc (by rw[bCi]; omega)
theorem ld0 {a:UInt8}(env:Env)(S:aA):bH env S (.iv (.cp (g0.drop a.toNat))) 1=some [.iv (.int .u8 (tab a.toNat))]:=aWl (aW7 (bl a))
theorem w2:IntKind.u8.wrap (fP 8 2 7)=2:=by decide
theorem w240:IntKind.i32.wrap 515396075520=0:=by decide
theorem bFh:IntKind.i32.wrap 240=240:=by decide
theorem w241:IntKind.i32.wrap 517543559168 = -2147483648:=by decide
theorem bFi:IntKind.i32.wrap 241=241:=by decide
theorem m0:IntKind.i32.wrap (fP 32 65533 0)=0:=by decide
theorem aW8 {a:Int}(h:0≤a∧a≤2147483647):IntKind.i32.wrap (bOr 32 a 0)=a:=by
 have e:BitVec.ofInt 32 a ||| BitVec.ofInt 32 0=BitVec.ofInt 32 a:=by simp
 unfold bOr
 rw[e,hG ⟨h.1,by omega⟩,aR (by omega)]
 omega
theorem m1:IntKind.i32.wrap (fP 32 65533 (-1))=65533:=by decide
theorem o1:IntKind.i32.wrap (bOr 32 0 65533)=65533:=by decide
set_option maxHeartbeats 4000000 in
theorem aMp (t:Tag)(a:UInt8)(r:List UInt8)(h1:a.toNat<128):(lim K).call 128 [.iv (.sl t (aF (a::r)))] []=.ret (.tup [.iv (.int .i32 a.toNat),.iv (.int .i64 1)],[]):=by
 have ha:=bl a
 refine aD K [] (fn:=t128) rfl rfl ?_
 have ht:tab a.toNat=240:=by simp[tab]; omega
 simp (disch:=omega) only[t128,go_sem,aH,Int.natCast_add,Int.cast_ofNat_Int,indexAddrS,hK0,hK1,eG,ld0,ht,w240,bFh,aEd,m0,aR,aW8]
set_option maxHeartbeats 4000000 in
theorem aW9 (t:Tag)(a:UInt8)(r:List UInt8)(h1:tab a.toNat=241):(lim K).call 128 [.iv (.sl t (aF (a::r)))] []=.ret (.tup [.iv (.int .i32 65533),.iv (.int .i64 1)],[]):=by
 have ha:=bl a
 refine aD K [] (fn:=t128) rfl rfl ?_
 simp (disch:=omega) only[t128,go_sem,aH,Int.natCast_add,Int.cast_ofNat_Int,indexAddrS,hK0,hK1,eG,ld0,h1,w241,bFi,aEe,m1,o1,aR]
theorem rG (a:UInt8)(r:List UInt8)(h:a.toNat<128):D (a::r)=(a.toNat,1):=by simp[D,h]
theorem aKx (a:UInt8)(r:List UInt8)(h:128≤a.toNat∧a.toNat<194∨245≤a.toNat):D (a::r)=(65533,1):=by
 have h1:¬a.toNat<128:=by omega
 by_cases h2:a.toNat<194
 ·simp[D,h1,h2]
 ·have h3:¬a.toNat<224:=by omega
  have h4:¬a.toNat<240:=by omega
  have h5:¬a.toNat<245:=by omega
  simp[D,h1,h2,h3,h4,h5]
theorem aEp (a:UInt8)(r:List UInt8)(h:194≤a.toNat∧a.toNat<224):D (a::r)=match r with
      | b::_=>if fol b then (a.toNat % 32*64+b.toNat % 64,2) else (65533,1)
      | _=>(65533,1):=by
  have h1:¬a.toNat<128:=by omega
  have h2:¬a.toNat<194:=by omega
  simp only[D,h1,h2,h.2,↓reduceIte]
theorem hH (a:UInt8)(r:List UInt8)(h:224≤a.toNat∧a.toNat<240):D (a::r)=match r with
      | b::c::_=>if (decide ((if a.toNat=224 then 160 else 128)≤b.toNat)&&decide (b.toNat≤(if a.toNat=237 then 159 else 191)))&&fol c then (a.toNat % 16*4096+b.toNat % 64*64+c.toNat % 64,3) else (65533,1)
      | _=>(65533,1):=by
  have h1:¬a.toNat<128:=by omega
  have h2:¬a.toNat<194:=by omega
  have h3:¬a.toNat<224:=by omega
  simp only[D,h1,h2,h3,h.2,↓reduceIte]
theorem gU (a:UInt8)(r:List UInt8)(h:240≤a.toNat∧a.toNat<245):D (a::r)=match r with
      | b::c::d::_=>if (decide ((if a.toNat=240 then 144 else 128)≤b.toNat)&&decide (b.toNat≤(if a.toNat=244 then 143 else 191)))&&fol c&&fol d then (a.toNat % 8*262144+b.toNat % 64*4096+c.toNat % 64*64+d.toNat % 64,4) else (65533,1)
      | _=>(65533,1):=by
  have h1:¬a.toNat<128:=by omega
  have h2:¬a.toNat<194:=by omega
  have h3:¬a.toNat<224:=by omega
  have h4:¬a.toNat<240:=by omega
  simp only[D,h1,h2,h3,h4,h.2,↓reduceIte]
theorem aKy {b:UInt8}(h:128≤b.toNat∧b.toNat≤191):fol b=true:=by simp[fol]; omega
theorem bFj {b:UInt8}(h:¬(128≤b.toNat∧b.toNat≤191)):fol b=false:=by simp[fol]; omega
theorem bBv (a b:UInt8)(r:List UInt8)(h:194≤a.toNat∧a.toNat<224)(hb:128≤b.toNat∧b.toNat≤191):D (a::b::r)=(a.toNat % 32*64+b.toNat % 64,2):=by
 rw[aEp a _ h]; simp[aKy hb]
theorem bBw (a b:UInt8)(r:List UInt8)(h:194≤a.toNat∧a.toNat<224)(hb:¬(128≤b.toNat∧b.toNat≤191)):D (a::b::r)=(65533,1):=by
 rw[aEp a _ h]; simp[bFj hb]
theorem aKz (a b c:UInt8)(r:List UInt8)(h:224≤a.toNat∧a.toNat<240)(hb:(a.toNat=224→160≤b.toNat)∧128≤b.toNat∧(a.toNat=237→b.toNat≤159)∧b.toNat≤191)(hc:128≤c.toNat∧c.toNat≤191):D (a::b::c::r)=(a.toNat % 16*4096+b.toNat % 64*64+c.toNat % 64,3):=by
 rw[hH a _ h]
 have e1:(if a.toNat=224 then 160 else 128)≤b.toNat:=by split<;>omega
 have e2:b.toNat≤(if a.toNat=237 then 159 else 191):=by split<;>omega
 simp only[aKy hc,e1,e2,decide_true,Bool.and_self,↓reduceIte]
theorem aK0 (a b c:UInt8)(r:List UInt8)(h:224≤a.toNat∧a.toNat<240)(hb:¬((a.toNat=224→160≤b.toNat)∧128≤b.toNat∧(a.toNat=237→b.toNat≤159)∧b.toNat≤191)∨¬(128≤c.toNat∧c.toNat≤191)):D (a::b::c::r)=(65533,1):=by
 rw[hH a _ h]
 simp only[fol,Bool.and_eq_true,decide_eq_true_eq]
 rw[if_neg]
 intro⟨⟨h1,h2⟩,h3⟩
 split at h1<;>split at h2<;>omega
theorem aK1 (a b c d:UInt8)(r:List UInt8)(h:240≤a.toNat∧a.toNat<245)(hb:(a.toNat=240→144≤b.toNat)∧128≤b.toNat∧(a.toNat=244→b.toNat≤143)∧b.toNat≤191)(hc:128≤c.toNat∧c.toNat≤191)(hd:128≤d.toNat∧d.toNat≤191):D (a::b::c::d::r)=(a.toNat % 8*262144+b.toNat % 64*4096+c.toNat % 64*64+d.toNat % 64,4):=by
 rw[gU a _ h]
 have e1:(if a.toNat=240 then 144 else 128)≤b.toNat:=by split<;>omega
 have e2:b.toNat≤(if a.toNat=244 then 143 else 191):=by split<;>omega
 simp only[aKy hc,aKy hd,e1,e2,decide_true,Bool.and_self,↓reduceIte]
theorem aK2 (a b c d:UInt8)(r:List UInt8)(h:240≤a.toNat∧a.toNat<245)(hb:¬((a.toNat=240→144≤b.toNat)∧128≤b.toNat∧(a.toNat=244→b.toNat≤143)∧b.toNat≤191)∨¬(128≤c.toNat∧c.toNat≤191)∨¬(128≤d.toNat∧d.toNat≤191)):D (a::b::c::d::r)=(65533,1):=by
 rw[gU a _ h]
 simp only[fol,Bool.and_eq_true,decide_eq_true_eq]
 rw[if_neg]
 intro⟨⟨⟨h1,h2⟩,h3⟩,h4⟩
 split at h1<;>split at h2<;>omega
set_option maxHeartbeats 8000000 in
theorem aXa (t:Tag)(a:UInt8)(r:List UInt8)(h1:tab a.toNat=2)(h2:194≤a.toNat∧a.toNat<224):(lim K).call 128 [.iv (.sl t (aF (a::r)))] []=.ret (.tup [.iv (.int .i32 (D (a::r)).1),.iv (.int .i64 (D (a::r)).2)],[]):=by
 have ha:=bl a
 refine aD K [] (fn:=t128) rfl rfl ?_
 have e0:dJ (.iv (.cp g1)) 0=some (.iv (.cp g1)):=rfl
 have e1:∀env S,bH env S (.iv (.cp g1)) 2=some [.iv (.int .u8 128),.iv (.int .u8 191)]:=fun _ _=>rfl
 have sz:IntKind.u8.wrap (fP 8 2 7)=2:=by decide
 cases r with
 | nil =>
  simp (disch:=omega) only[t128,go_sem,aH,Int.natCast_add,Int.cast_ofNat_Int,indexAddrS,hK0,hK1,eG,ld0,h1,aR,aE,e0,e1,sz,aS,aT,bA,aO,bB,aU,aV]
  repeat' (first|(first|refine cM (fun h=>?_) (fun h=>?_)|refine cN (fun h=>?_) (fun h=>?_)|refine cO (fun h=>?_) (fun h=>?_)|refine dP (fun h=>?_) (fun h=>?_))|simp (disch:=omega) only[go_sem,aH,Int.natCast_add,Int.cast_ofNat_Int,indexAddrS,hK0,hK1,eG,ld0,h1,aR,aE,e0,e1,sz,aS,aT,bA,aO,bB,aU,aV])
  all_goals (rw[aEp a _ (by omega)]; rfl)
 | cons b r =>
  have hb:=bl b; simp (disch:=omega) only[t128,go_sem,aH,Int.natCast_add,Int.cast_ofNat_Int,indexAddrS,hK0,hK1,eG,ld0,h1,aR,aE,e0,e1,sz,aS,aT,bA,aO,bB,aU,aV]
  repeat' (first|(first|refine cM (fun h=>?_) (fun h=>?_)|refine cN (fun h=>?_) (fun h=>?_)|refine cO (fun h=>?_) (fun h=>?_)|refine dP (fun h=>?_) (fun h=>?_))|simp (disch:=omega) only[go_sem,aH,Int.natCast_add,Int.cast_ofNat_Int,indexAddrS,hK0,hK1,eG,ld0,h1,aR,aE,e0,e1,sz,aS,aT,bA,aO,bB,aU,aV])
  all_goals (first|(rw[bBw a b _ (by omega) (by omega)]; rfl)|(rw[bBv a b _ (by omega) (by omega)]; simp))
set_option maxHeartbeats 8000000 in
theorem bCj (t:Tag)(a:UInt8)(r:List UInt8)(h1:tab a.toNat=19)(h2:a.toNat=224):(lim K).call 128 [.iv (.sl t (aF (a::r)))] []=.ret (.tup [.iv (.int .i32 (D (a::r)).1),.iv (.int .i64 (D (a::r)).2)],[]):=by
 have ha:=bl a
 refine aD K [] (fn:=t128) rfl rfl ?_
 have e0:dJ (.iv (.cp g1)) 2=some (.iv (.cp (g1.drop 2))):=rfl
 have e1:∀env S,bH env S (.iv (.cp (g1.drop 2))) 2=some [.iv (.int .u8 160),.iv (.int .u8 191)]:=fun _ _=>rfl
 have sz:IntKind.u8.wrap (fP 8 19 7)=3:=by decide
 cases r with
 | nil =>
  simp (disch:=omega) only[t128,go_sem,aH,Int.natCast_add,Int.cast_ofNat_Int,indexAddrS,hK0,hK1,eG,ld0,h1,aR,aE,e0,e1,sz,aS,aT,bA,aO,bB,aU,aV]
  repeat' (first|(first|refine cM (fun h=>?_) (fun h=>?_)|refine cN (fun h=>?_) (fun h=>?_)|refine cO (fun h=>?_) (fun h=>?_)|refine dP (fun h=>?_) (fun h=>?_))|simp (disch:=omega) only[go_sem,aH,Int.natCast_add,Int.cast_ofNat_Int,indexAddrS,hK0,hK1,eG,ld0,h1,aR,aE,e0,e1,sz,aS,aT,bA,aO,bB,aU,aV])
  all_goals (rw[hH a _ (by omega)]; rfl)
 | cons b r =>
  cases r with
  | nil =>
   have hb:=bl b; simp (disch:=omega) only[t128,go_sem,aH,Int.natCast_add,Int.cast_ofNat_Int,indexAddrS,hK0,hK1,eG,ld0,h1,aR,aE,e0,e1,sz,aS,aT,bA,aO,bB,aU,aV]
   repeat' (first|(first|refine cM (fun h=>?_) (fun h=>?_)|refine cN (fun h=>?_) (fun h=>?_)|refine cO (fun h=>?_) (fun h=>?_)|refine dP (fun h=>?_) (fun h=>?_))|simp (disch:=omega) only[go_sem,aH,Int.natCast_add,Int.cast_ofNat_Int,indexAddrS,hK0,hK1,eG,ld0,h1,aR,aE,e0,e1,sz,aS,aT,bA,aO,bB,aU,aV])
   all_goals (rw[hH a _ (by omega)]; rfl)
  | cons c r =>
   have hb:=bl b; have hc:=bl c; simp (disch:=omega) only[t128,go_sem,aH,Int.natCast_add,Int.cast_ofNat_Int,indexAddrS,hK0,hK1,eG,ld0,h1,aR,aE,e0,e1,sz,aS,aT,bA,aO,bB,aU,aV]
   repeat' (first|(first|refine cM (fun h=>?_) (fun h=>?_)|refine cN (fun h=>?_) (fun h=>?_)|refine cO (fun h=>?_) (fun h=>?_)|refine dP (fun h=>?_) (fun h=>?_))|simp (disch:=omega) only[go_sem,aH,Int.natCast_add,Int.cast_ofNat_Int,indexAddrS,hK0,hK1,eG,ld0,h1,aR,aE,e0,e1,sz,aS,aT,bA,aO,bB,aU,aV])
   all_goals (first|(rw[aK0 a b c _ (by omega) (by omega)]; rfl)|(rw[aKz a b c _ (by omega) (by omega) (by omega)]; simp))
set_option maxHeartbeats 8000000 in
theorem bCk (t:Tag)(a:UInt8)(r:List UInt8)(h1:tab a.toNat=3)(h2:224<a.toNat∧a.toNat<237∨237<a.toNat∧a.toNat<240):(lim K).call 128 [.iv (.sl t (aF (a::r)))] []=.ret (.tup [.iv (.int .i32 (D (a::r)).1),.iv (.int .i64 (D (a::r)).2)],[]):=by
 have ha:=bl a
 refine aD K [] (fn:=t128) rfl rfl ?_
 have e0:dJ (.iv (.cp g1)) 0=some (.iv (.cp g1)):=rfl
 have e1:∀env S,bH env S (.iv (.cp g1)) 2=some [.iv (.int .u8 128),.iv (.int .u8 191)]:=fun _ _=>rfl
 have sz:IntKind.u8.wrap (fP 8 3 7)=3:=by decide
 cases r with
 | nil =>
  simp (disch:=omega) only[t128,go_sem,aH,Int.natCast_add,Int.cast_ofNat_Int,indexAddrS,hK0,hK1,eG,ld0,h1,aR,aE,e0,e1,sz,aS,aT,bA,aO,bB,aU,aV]
  repeat' (first|(first|refine cM (fun h=>?_) (fun h=>?_)|refine cN (fun h=>?_) (fun h=>?_)|refine cO (fun h=>?_) (fun h=>?_)|refine dP (fun h=>?_) (fun h=>?_))|simp (disch:=omega) only[go_sem,aH,Int.natCast_add,Int.cast_ofNat_Int,indexAddrS,hK0,hK1,eG,ld0,h1,aR,aE,e0,e1,sz,aS,aT,bA,aO,bB,aU,aV])
  all_goals (rw[hH a _ (by omega)]; rfl)
 | cons b r =>
  cases r with
  | nil =>
   have hb:=bl b; simp (disch:=omega) only[t128,go_sem,aH,Int.natCast_add,Int.cast_ofNat_Int,indexAddrS,hK0,hK1,eG,ld0,h1,aR,aE,e0,e1,sz,aS,aT,bA,aO,bB,aU,aV]
   repeat' (first|(first|refine cM (fun h=>?_) (fun h=>?_)|refine cN (fun h=>?_) (fun h=>?_)|refine cO (fun h=>?_) (fun h=>?_)|refine dP (fun h=>?_) (fun h=>?_))|simp (disch:=omega) only[go_sem,aH,Int.natCast_add,Int.cast_ofNat_Int,indexAddrS,hK0,hK1,eG,ld0,h1,aR,aE,e0,e1,sz,aS,aT,bA,aO,bB,aU,aV])
   all_goals (rw[hH a _ (by omega)]; rfl)
  | cons c r =>
   have hb:=bl b; have hc:=bl c; simp (disch:=omega) only[t128,go_sem,aH,Int.natCast_add,Int.cast_ofNat_Int,indexAddrS,hK0,hK1,eG,ld0,h1,aR,aE,e0,e1,sz,aS,aT,bA,aO,bB,aU,aV]
   repeat' (first|(first|refine cM (fun h=>?_) (fun h=>?_)|refine cN (fun h=>?_) (fun h=>?_)|refine cO (fun h=>?_) (fun h=>?_)|refine dP (fun h=>?_) (fun h=>?_))|simp (disch:=omega) only[go_sem,aH,Int.natCast_add,Int.cast_ofNat_Int,indexAddrS,hK0,hK1,eG,ld0,h1,aR,aE,e0,e1,sz,aS,aT,bA,aO,bB,aU,aV])
   all_goals (first|(rw[aK0 a b c _ (by omega) (by omega)]; rfl)|(rw[aKz a b c _ (by omega) (by omega) (by omega)]; simp))
set_option maxHeartbeats 8000000 in
theorem bCl (t:Tag)(a:UInt8)(r:List UInt8)(h1:tab a.toNat=35)(h2:a.toNat=237):(lim K).call 128 [.iv (.sl t (aF (a::r)))] []=.ret (.tup [.iv (.int .i32 (D (a::r)).1),.iv (.int .i64 (D (a::r)).2)],[]):=by
 have ha:=bl a
 refine aD K [] (fn:=t128) rfl rfl ?_
 have e0:dJ (.iv (.cp g1)) 4=some (.iv (.cp (g1.drop 4))):=rfl
 have e1:∀env S,bH env S (.iv (.cp (g1.drop 4))) 2=some [.iv (.int .u8 128),.iv (.int .u8 159)]:=fun _ _=>rfl
 have sz:IntKind.u8.wrap (fP 8 35 7)=3:=by decide
 cases r with
 | nil =>
  simp (disch:=omega) only[t128,go_sem,aH,Int.natCast_add,Int.cast_ofNat_Int,indexAddrS,hK0,hK1,eG,ld0,h1,aR,aE,e0,e1,sz,aS,aT,bA,aO,bB,aU,aV]
  repeat' (first|(first|refine cM (fun h=>?_) (fun h=>?_)|refine cN (fun h=>?_) (fun h=>?_)|refine cO (fun h=>?_) (fun h=>?_)|refine dP (fun h=>?_) (fun h=>?_))|simp (disch:=omega) only[go_sem,aH,Int.natCast_add,Int.cast_ofNat_Int,indexAddrS,hK0,hK1,eG,ld0,h1,aR,aE,e0,e1,sz,aS,aT,bA,aO,bB,aU,aV])
  all_goals (rw[hH a _ (by omega)]; rfl)
 | cons b r =>
  cases r with
  | nil =>
   have hb:=bl b; simp (disch:=omega) only[t128,go_sem,aH,Int.natCast_add,Int.cast_ofNat_Int,indexAddrS,hK0,hK1,eG,ld0,h1,aR,aE,e0,e1,sz,aS,aT,bA,aO,bB,aU,aV]
   repeat' (first|(first|refine cM (fun h=>?_) (fun h=>?_)|refine cN (fun h=>?_) (fun h=>?_)|refine cO (fun h=>?_) (fun h=>?_)|refine dP (fun h=>?_) (fun h=>?_))|simp (disch:=omega) only[go_sem,aH,Int.natCast_add,Int.cast_ofNat_Int,indexAddrS,hK0,hK1,eG,ld0,h1,aR,aE,e0,e1,sz,aS,aT,bA,aO,bB,aU,aV])
   all_goals (rw[hH a _ (by omega)]; rfl)
  | cons c r =>
   have hb:=bl b; have hc:=bl c; simp (disch:=omega) only[t128,go_sem,aH,Int.natCast_add,Int.cast_ofNat_Int,indexAddrS,hK0,hK1,eG,ld0,h1,aR,aE,e0,e1,sz,aS,aT,bA,aO,bB,aU,aV]
   repeat' (first|(first|refine cM (fun h=>?_) (fun h=>?_)|refine cN (fun h=>?_) (fun h=>?_)|refine cO (fun h=>?_) (fun h=>?_)|refine dP (fun h=>?_) (fun h=>?_))|simp (disch:=omega) only[go_sem,aH,Int.natCast_add,Int.cast_ofNat_Int,indexAddrS,hK0,hK1,eG,ld0,h1,aR,aE,e0,e1,sz,aS,aT,bA,aO,bB,aU,aV])
   all_goals (first|(rw[aK0 a b c _ (by omega) (by omega)]; rfl)|(rw[aKz a b c _ (by omega) (by omega) (by omega)]; simp))
set_option maxHeartbeats 8000000 in
theorem bCm (t:Tag)(a:UInt8)(r:List UInt8)(h1:tab a.toNat=52)(h2:a.toNat=240):(lim K).call 128 [.iv (.sl t (aF (a::r)))] []=.ret (.tup [.iv (.int .i32 (D (a::r)).1),.iv (.int .i64 (D (a::r)).2)],[]):=by
 have ha:=bl a
 refine aD K [] (fn:=t128) rfl rfl ?_
 have e0:dJ (.iv (.cp g1)) 6=some (.iv (.cp (g1.drop 6))):=rfl
 have e1:∀env S,bH env S (.iv (.cp (g1.drop 6))) 2=some [.iv (.int .u8 144),.iv (.int .u8 191)]:=fun _ _=>rfl
 have sz:IntKind.u8.wrap (fP 8 52 7)=4:=by decide
 cases r with
 | nil =>
  simp (disch:=omega) only[t128,go_sem,aH,Int.natCast_add,Int.cast_ofNat_Int,indexAddrS,hK0,hK1,eG,ld0,h1,aR,aE,e0,e1,sz,aS,aT,bA,aO,bB,aU,aV]
  repeat' (first|(first|refine cM (fun h=>?_) (fun h=>?_)|refine cN (fun h=>?_) (fun h=>?_)|refine cO (fun h=>?_) (fun h=>?_)|refine dP (fun h=>?_) (fun h=>?_))|simp (disch:=omega) only[go_sem,aH,Int.natCast_add,Int.cast_ofNat_Int,indexAddrS,hK0,hK1,eG,ld0,h1,aR,aE,e0,e1,sz,aS,aT,bA,aO,bB,aU,aV])
  all_goals (rw[gU a _ (by omega)]; rfl)
 | cons b r =>
  cases r with
  | nil =>
   have hb:=bl b; simp (disch:=omega) only[t128,go_sem,aH,Int.natCast_add,Int.cast_ofNat_Int,indexAddrS,hK0,hK1,eG,ld0,h1,aR,aE,e0,e1,sz,aS,aT,bA,aO,bB,aU,aV]
   repeat' (first|(first|refine cM (fun h=>?_) (fun h=>?_)|refine cN (fun h=>?_) (fun h=>?_)|refine cO (fun h=>?_) (fun h=>?_)|refine dP (fun h=>?_) (fun h=>?_))|simp (disch:=omega) only[go_sem,aH,Int.natCast_add,Int.cast_ofNat_Int,indexAddrS,hK0,hK1,eG,ld0,h1,aR,aE,e0,e1,sz,aS,aT,bA,aO,bB,aU,aV])
   all_goals (rw[gU a _ (by omega)]; rfl)
  | cons c r =>
   cases r with
   | nil =>
    have hb:=bl b; have hc:=bl c; simp (disch:=omega) only[t128,go_sem,aH,Int.natCast_add,Int.cast_ofNat_Int,indexAddrS,hK0,hK1,eG,ld0,h1,aR,aE,e0,e1,sz,aS,aT,bA,aO,bB,aU,aV]
    repeat' (first|(first|refine cM (fun h=>?_) (fun h=>?_)|refine cN (fun h=>?_) (fun h=>?_)|refine cO (fun h=>?_) (fun h=>?_)|refine dP (fun h=>?_) (fun h=>?_))|simp (disch:=omega) only[go_sem,aH,Int.natCast_add,Int.cast_ofNat_Int,indexAddrS,hK0,hK1,eG,ld0,h1,aR,aE,e0,e1,sz,aS,aT,bA,aO,bB,aU,aV])
    all_goals (rw[gU a _ (by omega)]; rfl)
   | cons d r =>
    have hb:=bl b; have hc:=bl c; have hd:=bl d; simp (disch:=omega) only[t128,go_sem,aH,Int.natCast_add,Int.cast_ofNat_Int,indexAddrS,hK0,hK1,eG,ld0,h1,aR,aE,e0,e1,sz,aS,aT,bA,aO,bB,aU,aV]
    repeat' (first|(first|refine cM (fun h=>?_) (fun h=>?_)|refine cN (fun h=>?_) (fun h=>?_)|refine cO (fun h=>?_) (fun h=>?_)|refine dP (fun h=>?_) (fun h=>?_))|simp (disch:=omega) only[go_sem,aH,Int.natCast_add,Int.cast_ofNat_Int,indexAddrS,hK0,hK1,eG,ld0,h1,aR,aE,e0,e1,sz,aS,aT,bA,aO,bB,aU,aV])
    all_goals (first|(rw[aK2 a b c d _ (by omega) (by omega)]; rfl)|(rw[aK1 a b c d _ (by omega) (by omega) (by omega) (by omega)]; simp))
set_option maxHeartbeats 8000000 in
theorem bCn (t:Tag)(a:UInt8)(r:List UInt8)(h1:tab a.toNat=4)(h2:240<a.toNat∧a.toNat<244):(lim K).call 128 [.iv (.sl t (aF (a::r)))] []=.ret (.tup [.iv (.int .i32 (D (a::r)).1),.iv (.int .i64 (D (a::r)).2)],[]):=by
 have ha:=bl a
 refine aD K [] (fn:=t128) rfl rfl ?_
 have e0:dJ (.iv (.cp g1)) 0=some (.iv (.cp g1)):=rfl
 have e1:∀env S,bH env S (.iv (.cp g1)) 2=some [.iv (.int .u8 128),.iv (.int .u8 191)]:=fun _ _=>rfl
 have sz:IntKind.u8.wrap (fP 8 4 7)=4:=by decide
 cases r with
 | nil =>
  simp (disch:=omega) only[t128,go_sem,aH,Int.natCast_add,Int.cast_ofNat_Int,indexAddrS,hK0,hK1,eG,ld0,h1,aR,aE,e0,e1,sz,aS,aT,bA,aO,bB,aU,aV]
  repeat' (first|(first|refine cM (fun h=>?_) (fun h=>?_)|refine cN (fun h=>?_) (fun h=>?_)|refine cO (fun h=>?_) (fun h=>?_)|refine dP (fun h=>?_) (fun h=>?_))|simp (disch:=omega) only[go_sem,aH,Int.natCast_add,Int.cast_ofNat_Int,indexAddrS,hK0,hK1,eG,ld0,h1,aR,aE,e0,e1,sz,aS,aT,bA,aO,bB,aU,aV])
  all_goals (rw[gU a _ (by omega)]; rfl)
 | cons b r =>
  cases r with
  | nil =>
   have hb:=bl b; simp (disch:=omega) only[t128,go_sem,aH,Int.natCast_add,Int.cast_ofNat_Int,indexAddrS,hK0,hK1,eG,ld0,h1,aR,aE,e0,e1,sz,aS,aT,bA,aO,bB,aU,aV]
   repeat' (first|(first|refine cM (fun h=>?_) (fun h=>?_)|refine cN (fun h=>?_) (fun h=>?_)|refine cO (fun h=>?_) (fun h=>?_)|refine dP (fun h=>?_) (fun h=>?_))|simp (disch:=omega) only[go_sem,aH,Int.natCast_add,Int.cast_ofNat_Int,indexAddrS,hK0,hK1,eG,ld0,h1,aR,aE,e0,e1,sz,aS,aT,bA,aO,bB,aU,aV])
   all_goals (rw[gU a _ (by omega)]; rfl)
  | cons c r =>
   cases r with
   | nil =>
    have hb:=bl b; have hc:=bl c; simp (disch:=omega) only[t128,go_sem,aH,Int.natCast_add,Int.cast_ofNat_Int,indexAddrS,hK0,hK1,eG,ld0,h1,aR,aE,e0,e1,sz,aS,aT,bA,aO,bB,aU,aV]
    repeat' (first|(first|refine cM (fun h=>?_) (fun h=>?_)|refine cN (fun h=>?_) (fun h=>?_)|refine cO (fun h=>?_) (fun h=>?_)|refine dP (fun h=>?_) (fun h=>?_))|simp (disch:=omega) only[go_sem,aH,Int.natCast_add,Int.cast_ofNat_Int,indexAddrS,hK0,hK1,eG,ld0,h1,aR,aE,e0,e1,sz,aS,aT,bA,aO,bB,aU,aV])
    all_goals (rw[gU a _ (by omega)]; rfl)
   | cons d r =>
    have hb:=bl b; have hc:=bl c; have hd:=bl d; simp (disch:=omega) only[t128,go_sem,aH,Int.natCast_add,Int.cast_ofNat_Int,indexAddrS,hK0,hK1,eG,ld0,h1,aR,aE,e0,e1,sz,aS,aT,bA,aO,bB,aU,aV]
    repeat' (first|(first|refine cM (fun h=>?_) (fun h=>?_)|refine cN (fun h=>?_) (fun h=>?_)|refine cO (fun h=>?_) (fun h=>?_)|refine dP (fun h=>?_) (fun h=>?_))|simp (disch:=omega) only[go_sem,aH,Int.natCast_add,Int.cast_ofNat_Int,indexAddrS,hK0,hK1,eG,ld0,h1,aR,aE,e0,e1,sz,aS,aT,bA,aO,bB,aU,aV])
    all_goals (first|(rw[aK2 a b c d _ (by omega) (by omega)]; rfl)|(rw[aK1 a b c d _ (by omega) (by omega) (by omega) (by omega)]; simp))
set_option maxHeartbeats 8000000 in
theorem bCo (t:Tag)(a:UInt8)(r:List UInt8)(h1:tab a.toNat=68)(h2:a.toNat=244):(lim K).call 128 [.iv (.sl t (aF (a::r)))] []=.ret (.tup [.iv (.int .i32 (D (a::r)).1),.iv (.int .i64 (D (a::r)).2)],[]):=by
 have ha:=bl a
 refine aD K [] (fn:=t128) rfl rfl ?_
 have e0:dJ (.iv (.cp g1)) 8=some (.iv (.cp (g1.drop 8))):=rfl
 have e1:∀env S,bH env S (.iv (.cp (g1.drop 8))) 2=some [.iv (.int .u8 128),.iv (.int .u8 143)]:=fun _ _=>rfl
 have sz:IntKind.u8.wrap (fP 8 68 7)=4:=by decide
 cases r with
 | nil =>
  simp (disch:=omega) only[t128,go_sem,aH,Int.natCast_add,Int.cast_ofNat_Int,indexAddrS,hK0,hK1,eG,ld0,h1,aR,aE,e0,e1,sz,aS,aT,bA,aO,bB,aU,aV]
  repeat' (first|(first|refine cM (fun h=>?_) (fun h=>?_)|refine cN (fun h=>?_) (fun h=>?_)|refine cO (fun h=>?_) (fun h=>?_)|refine dP (fun h=>?_) (fun h=>?_))|simp (disch:=omega) only[go_sem,aH,Int.natCast_add,Int.cast_ofNat_Int,indexAddrS,hK0,hK1,eG,ld0,h1,aR,aE,e0,e1,sz,aS,aT,bA,aO,bB,aU,aV])
  all_goals (rw[gU a _ (by omega)]; rfl)
 | cons b r =>
  cases r with
  | nil =>
   have hb:=bl b; simp (disch:=omega) only[t128,go_sem,aH,Int.natCast_add,Int.cast_ofNat_Int,indexAddrS,hK0,hK1,eG,ld0,h1,aR,aE,e0,e1,sz,aS,aT,bA,aO,bB,aU,aV]
   repeat' (first|(first|refine cM (fun h=>?_) (fun h=>?_)|refine cN (fun h=>?_) (fun h=>?_)|refine cO (fun h=>?_) (fun h=>?_)|refine dP (fun h=>?_) (fun h=>?_))|simp (disch:=omega) only[go_sem,aH,Int.natCast_add,Int.cast_ofNat_Int,indexAddrS,hK0,hK1,eG,ld0,h1,aR,aE,e0,e1,sz,aS,aT,bA,aO,bB,aU,aV])
   all_goals (rw[gU a _ (by omega)]; rfl)
  | cons c r =>
   cases r with
   | nil =>
    have hb:=bl b; have hc:=bl c; simp (disch:=omega) only[t128,go_sem,aH,Int.natCast_add,Int.cast_ofNat_Int,indexAddrS,hK0,hK1,eG,ld0,h1,aR,aE,e0,e1,sz,aS,aT,bA,aO,bB,aU,aV]
    repeat' (first|(first|refine cM (fun h=>?_) (fun h=>?_)|refine cN (fun h=>?_) (fun h=>?_)|refine cO (fun h=>?_) (fun h=>?_)|refine dP (fun h=>?_) (fun h=>?_))|simp (disch:=omega) only[go_sem,aH,Int.natCast_add,Int.cast_ofNat_Int,indexAddrS,hK0,hK1,eG,ld0,h1,aR,aE,e0,e1,sz,aS,aT,bA,aO,bB,aU,aV])
    all_goals (rw[gU a _ (by omega)]; rfl)
   | cons d r =>
    have hb:=bl b; have hc:=bl c; have hd:=bl d; simp (disch:=omega) only[t128,go_sem,aH,Int.natCast_add,Int.cast_ofNat_Int,indexAddrS,hK0,hK1,eG,ld0,h1,aR,aE,e0,e1,sz,aS,aT,bA,aO,bB,aU,aV]
    repeat' (first|(first|refine cM (fun h=>?_) (fun h=>?_)|refine cN (fun h=>?_) (fun h=>?_)|refine cO (fun h=>?_) (fun h=>?_)|refine dP (fun h=>?_) (fun h=>?_))|simp (disch:=omega) only[go_sem,aH,Int.natCast_add,Int.cast_ofNat_Int,indexAddrS,hK0,hK1,eG,ld0,h1,aR,aE,e0,e1,sz,aS,aT,bA,aO,bB,aU,aV])
    all_goals (first|(rw[aK2 a b c d _ (by omega) (by omega)]; rfl)|(rw[aK1 a b c d _ (by omega) (by omega) (by omega) (by omega)]; simp))
theorem aK3 (t:Tag)(l:List UInt8):(lim K).call 128 [.iv (.sl t (aF l))] []=.ret (.tup [.iv (.int .i32 (D l).1),.iv (.int .i64 (D l).2)],[]):=by
 cases l with
 | nil=>exact aEo t
 | cons a r =>
  have ha:=bl a
  by_cases h1:a.toNat<128
  ·rw[aMp t a r h1,rG a r h1]; rfl
  by_cases h2:a.toNat<194∨245≤a.toNat
  ·rw[aW9 t a r (by simp only[tab]; (repeat' split)<;>omega),aKx a r (by omega)]; rfl
  by_cases h3:a.toNat<224
  ·exact aXa t a r (by simp only[tab]; (repeat' split)<;>omega) (by omega)
  by_cases h4:a.toNat=224
  ·exact bCj t a r (by simp only[tab]; (repeat' split)<;>omega) h4
  by_cases h5:a.toNat=237
  ·exact bCl t a r (by simp only[tab]; (repeat' split)<;>omega) h5
  by_cases h6:a.toNat<240
  ·exact bCk t a r (by simp only[tab]; (repeat' split)<;>omega) (by omega)
  by_cases h7:a.toNat=240
  ·exact bCm t a r (by simp only[tab]; (repeat' split)<;>omega) h7
  by_cases h8:a.toNat=244
  ·exact bCo t a r (by simp only[tab]; (repeat' split)<;>omega) h8
  ·exact bCn t a r (by simp only[tab]; (repeat' split)<;>omega) (by omega)
theorem aEq (t:Tag):lp' (lim K) t103L0 [.iv (.sl t (aF [])),.iv (.int .i32 0),.iv (.int .i64 0),u_,.iv (.sl t (aF [])),.iv (.int .i64 0),.iv (.int .i64 0),u_,u_] []=.ret (.exit 0,[.iv (.sl t (aF [])),.iv (.int .i32 0),.iv (.int .i64 0),u_,.iv (.sl t (aF [])),.iv (.int .i64 0),.iv (.int .i64 0),.iv (.bool false),u_],[]):=by
 refine pK K _ _ ?_
 simp (disch:=omega) only[t103L0,go_sem]
theorem aXb (t:Tag)(l:List UInt8):(lim K).call 103 [.iv (.sl t (aF l))] []=.ret (.tup [.iv (.int .i32 (D l).1),.iv (.int .i64 (D l).2)],[]):=by
 refine aD K [] (fn:=t103) rfl rfl ?_
 cases l with
 | nil=>simp (disch:=omega) only[t103,go_sem,Int.cast_ofNat_Int,aEq,aK3]
 | cons a r =>
  have ha:=bl a
  by_cases h:a.toNat<128
  ·have hl:lp' (lim K) t103L0 [.iv (.sl t (aF (a::r))),.iv (.int .i32 0),.iv (.int .i64 0),u_,.iv (.sl t (aF (a::r))),.iv (.int .i64 ((r.length+1:Nat):Int)),.iv (.int .i64 0),u_,u_] []=.ret (.ret,[.iv (.sl t (aF (a::r))),.iv (.int .i32 a.toNat),.iv (.int .i64 1),.iv (.int .u8 a.toNat),.iv (.sl t (aF (a::r))),.iv (.int .i64 ((r.length+1:Nat):Int)),.iv (.int .i64 0),.iv (.bool true),.iv (.bool true)],[]):=by
    refine pK K _ _ ?_
    simp (disch:=omega) only[t103L0,go_sem,aH,indexAddrS,aR]
   simp (disch:=omega) only[t103,go_sem,Int.cast_ofNat_Int,hl,rG a r h]
  ·have hl:lp' (lim K) t103L0 [.iv (.sl t (aF (a::r))),.iv (.int .i32 0),.iv (.int .i64 0),u_,.iv (.sl t (aF (a::r))),.iv (.int .i64 ((r.length+1:Nat):Int)),.iv (.int .i64 0),u_,u_] []=.ret (.exit 0,[.iv (.sl t (aF (a::r))),.iv (.int .i32 0),.iv (.int .i64 0),.iv (.int .u8 a.toNat),.iv (.sl t (aF (a::r))),.iv (.int .i64 ((r.length+1:Nat):Int)),.iv (.int .i64 0),.iv (.bool true),.iv (.bool false)],[]):=by
    refine pK K _ _ ?_
    simp (disch:=omega) only[t103L0,go_sem,aH,indexAddrS,aR]
   simp (disch:=omega) only[t103,go_sem,Int.cast_ofNat_Int,hl,aK3]
def bad (l:List UInt8):Bool:=decide ((D l).1=65533)&&decide ((D l).2≤1)
theorem aK4 (c n:Int):(lim K).call 104 [.iv (.int .i32 c),.iv (.int .i64 n)] []=.ret (.iv (.bool (decide (c=65533)&&decide (n≤1))),[]):=by
 refine aD K [] (fn:=t104) rfl rfl ?_
 simp only[t104,go_sem]
 repeat' (first|(first|refine cM (fun h=>?_) (fun h=>?_)|refine cN (fun h=>?_) (fun h=>?_)|refine cO (fun h=>?_) (fun h=>?_)|refine dP (fun h=>?_) (fun h=>?_))|simp (disch:=omega) only[go_sem])
 all_goals (congr 4; simp[*])
theorem bG0 (l:List UInt8):(D l).1<2097152∧(D l).2≤4:=by
 cases l with
 | nil=>simp[D]
 | cons a r =>
  have ha:=bl a
  simp only[D]
  repeat' split
  all_goals (simp only; try omega)
def bBx (n:Int):List UInt8→Int
 | []=>n
 | b::r=>bBx (64*n+b.toNat % 64) r
def bBy:List UInt8→Int
 | []=>0
 | a::r=>bBx (if r.length=1 then a.toNat % 32 else if r.length=2 then a.toNat % 16 else if r.length=3 then a.toNat % 8 else a.toNat) r
theorem xA {n:Nat}(h:n<256):(UInt8.ofNat n).toNat=n:=by simp[UInt8.toNat_ofNat]; omega
theorem eq8 {a:UInt8}{n:Nat}(h:a.toNat=n):a=UInt8.ofNat n:=by
 have:=bl a
 apply UInt8.toNat_inj.1
 rw[xA (by omega),h]
theorem aK5 {c:Int}(h:c<128):bO c=[UInt8.ofNat c.toNat]:=by simp[bO,h]
theorem aK6 {c:Int}(h:128≤c∧c<2048):bO c=[UInt8.ofNat (192+c.toNat / 64),UInt8.ofNat (128+c.toNat % 64)]:=by
 have h1:¬c<128:=by omega
 simp[bO,h1,h.2]
theorem aK7 {c:Int}(h:2048≤c∧c<65536):bO c=[UInt8.ofNat (224+c.toNat / 4096),UInt8.ofNat (128+c.toNat / 64 % 64),UInt8.ofNat (128+c.toNat % 64)]:=by
 have h1:¬c<128:=by omega
 have h2:¬c<2048:=by omega
 simp[bO,h1,h2,h.2]
theorem aK8 {c:Int}(h:65536≤c):bO c=[UInt8.ofNat (240+c.toNat / 262144),UInt8.ofNat (128+c.toNat / 4096 % 64),UInt8.ofNat (128+c.toNat / 64 % 64),UInt8.ofNat (128+c.toNat % 64)]:=by
 have h1:¬c<128:=by omega
 have h2:¬c<2048:=by omega
 have h3:¬c<65536:=by omega
 simp[bO,h1,h2,h3]
theorem tH {c:Int}(h:isC c=true):1≤(bO c).length∧(bO c).length≤4:=by
 simp only[bO]; repeat' split
 all_goals simp
theorem aH2 {s:List UInt8}(h:bad s=false):isC ((D s).1:Nat)=true∧bO ((D s).1:Nat)=s.take (D s).2∧1≤(D s).2∧(D s).2≤s.length:=by
 cases s with
 | nil=>simp[bad,D]at h
 | cons a r =>
  have ha:=bl a
  by_cases h1:a.toNat<128
  ·rw[rG a r h1]
   refine⟨(jF _).2 (by omega),?_,by simp,by simp⟩
   rw[aK5 (by omega)]
   simp
  by_cases h2:a.toNat<194∨245≤a.toNat
  ·simp[bad,aKx a r (by omega)]at h
  by_cases h3:a.toNat<224
  ·cases r with
   | nil=>rw[bad,aEp a _ (by omega)]at h; simp at h
   | cons b r =>
    have hb:=bl b
    by_cases hf:128≤b.toNat∧b.toNat≤191
    ·rw[bBv a b r (by omega) hf]
     refine⟨(jF _).2 (by simp only; omega),?_,by simp,by simp⟩
     rw[aK6 (by simp only; omega)]
     simp only[List.take_succ_cons,List.take_zero,Int.toNat_natCast]
     rw[←eq8 (a:=a) (by omega),←eq8 (a:=b) (by omega)]
    ·simp[bad,bBw a b r (by omega) hf]at h
  by_cases h4:a.toNat<240
  ·match r with
   | []=>rw[bad,hH a _ (by omega)]at h; simp at h
   | [b]=>rw[bad,hH a _ (by omega)]at h; simp at h
   | b::c::r =>
    have hb:=bl b
    have hc:=bl c
    by_cases hf:((a.toNat=224→160≤b.toNat)∧128≤b.toNat∧(a.toNat=237→b.toNat≤159)∧b.toNat≤191)∧(128≤c.toNat∧c.toNat≤191)
    ·rw[aKz a b c r (by omega) hf.1 hf.2]
     refine⟨(jF _).2 (by simp only; omega),?_,by simp,by simp⟩
     rw[aK7 (by simp only; omega)]
     simp only[List.take_succ_cons,List.take_zero,Int.toNat_natCast]
     rw[←eq8 (a:=a) (by omega),←eq8 (a:=b) (by omega),←eq8 (a:=c) (by omega)]
    ·simp[bad,aK0 a b c r (by omega) (by omega)]at h
  ·match r with
   | []=>rw[bad,gU a _ (by omega)]at h; simp at h
   | [b]=>rw[bad,gU a _ (by omega)]at h; simp at h
   | [b,c]=>rw[bad,gU a _ (by omega)]at h; simp at h
   | b::c::d::r =>
    have hb:=bl b
    have hc:=bl c
    have hd:=bl d
    by_cases hf:((a.toNat=240→144≤b.toNat)∧128≤b.toNat∧(a.toNat=244→b.toNat≤143)∧b.toNat≤191)∧(128≤c.toNat∧c.toNat≤191)∧(128≤d.toNat∧d.toNat≤191)
    ·rw[aK1 a b c d r (by omega) hf.1 hf.2.1 hf.2.2]
     refine⟨(jF _).2 (by simp only; omega),?_,by simp,by simp⟩
     rw[aK8 (by simp only; omega)]
     simp only[List.take_succ_cons,List.take_zero,Int.toNat_natCast]
     rw[←eq8 (a:=a) (by omega),←eq8 (a:=b) (by omega),←eq8 (a:=c) (by omega),←eq8 (a:=d) (by omega)]
    ·simp[bad,aK2 a b c d r (by omega) (by omega)]at h
def nN (s:List UInt8)(n:Nat):Bool:=isC (bBy (s.take n))&&(bO (bBy (s.take n))==s.take n)
def dE:Nat→List UInt8→Int→List (Int×Int)×Option Int
 | 0,_,_=>([],none)
 | k+1,s,i=>if s=[] then ([],none) else if bad s then ([],some i) else
  ((((D s).1:Int),i)::(dE k (s.drop (D s).2) (i+(D s).2)).1,(dE k (s.drop (D s).2) (i+(D s).2)).2)
def lJ (c:Int×Int):List IV:=[.int .i64 c.1,.int .i64 c.2]
theorem aK9 (c:Int×Int):(lJ c).length=2∧(lJ c).all jD=true:=⟨rfl,rfl⟩
theorem aXc (l:List UInt8)(i:Nat):ByteArray.get! ⟨l.toArray⟩ i=l.getD i 0:=by
 show l.toArray[i]! = _
 simp[List.getD,getElem!_def]
 cases l[i]? <;> rfl
set_option maxHeartbeats 4000000 in
theorem aA1 (l:List UInt8)(i:Nat)(h:i<l.length):Utf8.decode ⟨l.toArray⟩ i=D (l.drop i):=by
 have hs:(ByteArray.mk l.toArray).size=l.length:=by simp[ByteArray.size]
 have hg:∀k,l.getD (i+k) 0=(l.drop i).getD k 0:=by intro k; simp[List.getD,List.getElem?_drop]
 have hlen:∀k,(i+k<l.length)↔k<(l.drop i).length:=by intro k; rw[List.length_drop]; omega
 have hpos:0<(l.drop i).length:=by rw[List.length_drop]; omega
 simp only[Utf8.decode,hs,aXc,hg,hlen]
 generalize l.drop i=s at *
 cases s with
 | nil=>simp at hpos
 | cons a r =>
  have ha:=bl a
  match r with
  | [] =>
   simp only[List.getD_cons_zero,List.getD_cons_succ,List.getD_nil,List.length_cons,List.length_nil,D,fol,Utf8.valid,Utf8.runeError,Bool.and_eq_true,Bool.or_eq_true,beq_iff_eq,decide_eq_true_eq]
   repeat' split
   all_goals (first|rfl|(simp only[Prod.mk.injEq]; omega)|(exfalso; omega))
  | [b] =>
   have hb:=bl b
   simp only[List.getD_cons_zero,List.getD_cons_succ,List.getD_nil,List.length_cons,List.length_nil,D,fol,Utf8.valid,Utf8.runeError,Bool.and_eq_true,Bool.or_eq_true,beq_iff_eq,decide_eq_true_eq]
   repeat' split
   all_goals (first|rfl|(simp only[Prod.mk.injEq]; omega)|(exfalso; omega))
  | [b,c] =>
   have hb:=bl b
   have hc:=bl c
   simp only[List.getD_cons_zero,List.getD_cons_succ,List.getD_nil,List.length_cons,List.length_nil,D,fol,Utf8.valid,Utf8.runeError,Bool.and_eq_true,Bool.or_eq_true,beq_iff_eq,decide_eq_true_eq]
   repeat' split
   all_goals (first|rfl|(simp only[Prod.mk.injEq]; omega)|(exfalso; omega))
  | b::c::d::r =>
   have hb:=bl b
   have hc:=bl c
   have hd:=bl d
   simp only[List.getD_cons_zero,List.getD_cons_succ,List.getD_nil,List.length_cons,List.length_nil,D,fol,Utf8.valid,Utf8.runeError,Bool.and_eq_true,Bool.or_eq_true,beq_iff_eq,decide_eq_true_eq]
   repeat' split
   all_goals (first|rfl|(simp only[Prod.mk.injEq]; omega)|(exfalso; omega))
set_option maxHeartbeats 4000000 in
theorem aQo (t:Tag)(l:List UInt8)(ht:cF t l)(hl:l.length≤2000000):∀(k:Nat) (i:Nat) (done:List (Int×Int)) (x4 x5 x6 x8 x9 x10 x11:TV),i≤l.length→l.length-i≤k→done.length≤i →
  ∃y3 y4 y5 y6 y8 y9 y10 y11 S',lp' (lim K) t79L0 [.iv (.sl t (aF l)),.iv (.sl .nil []),.lb [.iv (.int .i64 0),.iv (.int .i64 0)],acc 1 (done.map lJ),x4,x5,x6,.it 0,x8,x9,x10,x11] (.sit l i::lS 2 132 (done.map lJ))=.ret (match (dE k (l.drop i) i).2 with
   | none=>(.exit 0,[.iv (.sl t (aF l)),.iv (.sl .nil []),.lb [.iv (.int .i64 0),.iv (.int .i64 0)],acc 1 ((done++(dE k (l.drop i) i).1).map lJ),y4,y5,y6,.it 0,y8,y9,y10,y11],S')
   | some p=>(.ret,[.iv (.sl t (aF l)),.iv (.sl .nil []),.lb [.iv (.int .i64 4),.iv (.int .i64 p)],y3,y4,y5,y6,.it 0,y8,y9,y10,y11],S'))
 | 0,i,done,x4,x5,x6,x8,x9,x10,x11,h1,h2,h3=>by
  refine⟨?_,?_,?_,?_,?_,?_,?_,?_,?_,aP K _ _ t79L0.eq_1 ?_⟩
  rotate_left 9
  ·simp (disch:=omega) only[go_sem,dE,List.append_nil]
   rfl
  exact .hole
 | k+1,i,done,x4,x5,x6,x8,x9,x10,x11,h1,h2,h3=>by
  by_cases hi:i=l.length
  ·have e:l.drop i=[]:=List.drop_of_length_le (by omega)
   refine⟨?_,?_,?_,?_,?_,?_,?_,?_,?_,aP K _ _ t79L0.eq_1 ?_⟩
   rotate_left 9
   ·simp (disch:=omega) only[go_sem,dE,e,List.append_nil]
    rfl
   exact .hole
  ·have hs:(l.drop i).length=l.length-i:=List.length_drop
   have hde:=aA1 l i (by omega)
   have hne:¬l.drop i=[]:=by intro e; rw[e]at hs; simp at hs; omega
   have h25:=fun tg=>aXb tg (l.drop i)
   have hdl:=bG0 (l.drop i)
   have hbad:bad (l.drop i)=(decide ((((D (l.drop i)).1:Nat):Int)=65533)&&decide ((((D (l.drop i)).2:Nat):Int)≤1)):=by
    rw[bad,Bool.eq_iff_iff]; simp; omega
   have hsl:=fun S=>zV S (t:=t) (l:=l) (a:=(i:Int)) ht (by omega)
   cases hb:bad (l.drop i)
   ·have hg:=aH2 hb
    have hdr:(l.drop i).drop (D (l.drop i)).2=l.drop (i+(D (l.drop i)).2):=by
     rw[List.drop_drop]
    have ih:=fun x4 x5 x6 x8 x9 x10 x11=>aQo t l ht hl k (i+(D (l.drop i)).2) (done++[(((D (l.drop i)).1:Int),(i:Int))]) x4 x5 x6 x8 x9 x10 x11 (by omega) (by omega) (by simp; omega)
    simp only[dE,hne,hb,↓reduceIte,Bool.false_eq_true]
    rw[hdr]
    have ha:=aWn (w:=2) (b:=16) (el:=132) (t:=.full) (.sit l (i+(D (l.drop i)).2)) (aK9 (((D (l.drop i)).1:Int),(i:Int))) (eR.map aK9 done) (eS (by rw[List.length_map]; omega))
    have em:(done++[(((D (l.drop i)).1:Int),(i:Int))]).map lJ=done.map lJ++[[.int .i64 (D (l.drop i)).1,.int .i64 i]]:=by simp[lJ]
    rw[em]at ih
    generalize D (l.drop i)=d at *
    simp only[lJ]at ha
    rw[hb]at hbad
    by_cases hc:(d.1:Int)=65533
    ·have h26:¬(d.2:Int)≤1:=by intro q; simp[hc,q]at hbad
     obtain⟨y3,y4,y5,y6,y8,y9,y10,y11,S',ih⟩:=ih (.iv (.int .i64 i)) (.iv (.int .i32 d.1)) (.iv (.int .i64 d.2)) (.tup [.iv (.bool true),.iv (.int .i64 i),.iv (.int .i32 d.1)]) (.iv (.bool true)) (.iv (.bool true)) (.iv (.bool false))
     refine⟨y3,y4,y5,y6,y8,y9,y10,y11,S',aP K _ _ t79L0.eq_1 ?_⟩
     simp (config := { maxSteps := 4000000 }) (disch:=omega) only[go_sem,hde,hsl,Int.toNat_natCast,h25,aK4,h26,aE,ha,ih]
     simp only[Int.natCast_add,List.map_append,List.map_cons,List.map_nil,lJ,List.append_assoc,List.cons_append,List.nil_append]
     cases (dE k (l.drop (i+d.2)) ((i:Int)+(d.2:Int))).2<;>rfl
    ·obtain⟨y3,y4,y5,y6,y8,y9,y10,y11,S',ih⟩:=ih (.iv (.int .i64 i)) (.iv (.int .i32 d.1)) x6 (.tup [.iv (.bool true),.iv (.int .i64 i),.iv (.int .i32 d.1)]) (.iv (.bool true)) (.iv (.bool false)) x11
     refine⟨y3,y4,y5,y6,y8,y9,y10,y11,S',aP K _ _ t79L0.eq_1 ?_⟩
     simp (config := { maxSteps := 4000000 }) (disch:=omega) only[go_sem,hde,aE,ha,ih]
     simp only[Int.natCast_add,List.map_append,List.map_cons,List.map_nil,lJ,List.append_assoc,List.cons_append,List.nil_append]
     cases (dE k (l.drop (i+d.2)) ((i:Int)+(d.2:Int))).2<;>rfl
   ·rw[hb]at hbad
    have h26:=hbad.symm
    have hc:(((D (l.drop i)).1:Nat):Int)=65533:=by simp at h26; omega
    have hc2:(((D (l.drop i)).2:Nat):Int)≤1:=by simp at h26; omega
    refine⟨?_,?_,?_,?_,?_,?_,?_,?_,?_,aP K _ _ t79L0.eq_1 ?_⟩
    rotate_left 9
    ·simp (config := { maxSteps := 4000000 }) (disch:=omega) only[go_sem,dE,hne,hb,hde,hsl,Int.toNat_natCast,h25,aK4,h26,hc]
     rfl
theorem bCp (t:Tag)(l:List UInt8)(ht:cF t l)(hl:l.length≤2000000):Pure K 79 [.iv (.sl t (aF l))] (match (dE l.length l 0).2 with
      | none=>.tup [.iv (.sl (kJ (dE l.length l 0).1) ((dE l.length l 0).1.map lJ)),.iv (.agg [.int .i64 0,.int .i64 0])]
      | some p=>.tup [.iv (.sl .nil []),.iv (.agg [.int .i64 4,.int .i64 p])]):=by
  obtain⟨y3,y4,y5,y6,y8,y9,y10,y11,S',e⟩:=aQo t l ht hl l.length 0 [] u_ u_ u_ u_ u_ u_ u_ (by omega) (by omega) (by simp)
  rw[List.map_nil,fL,jU]at e
  simp only[List.nil_append,List.drop_zero,Int.cast_ofNat_Int]at e
  generalize dE l.length l 0=q at *
  obtain⟨q1,q2⟩:=q
  refine bP t79 rfl rfl ?_
  cases q2 with
  | none =>
    simp only at e ⊢
    simp (disch:=omega) only[t79,go_sem,e,tC]
  | some p =>
    simp only at e ⊢
    simp (disch:=omega) only[t79,go_sem,e]
theorem bG1 (c:Int×Int):sub (lJ c) 0 2=some (lJ c):=by simp[sub,lJ]
theorem aQp (a:Int):jD (i64 a)=true:=rfl
def gZ (cs:List (Int×Int)):List Int:=cs.map (·.1)
theorem aH3 (cs:List (Int×Int))(i:Nat)(h:i<cs.length):gZ (cs.take (i+1))=gZ (cs.take i)++[(cs.getD i default).1]:=by
 rw[aAa (d:=default) h]; simp[gZ]
theorem qH:∀(k:Nat) (s:List UInt8) (i:Int),(dE k s i).1.length≤s.length
 | 0,s,i=>by simp[dE]
 | k+1,s,i=>by
  simp only[dE]
  split
  ·simp
  ·split
   ·simp
   ·rename_i h1 h2
    have hb:bad s=false:=by simpa using h2
    have hg:=aH2 hb
    have:=qH k (s.drop (D s).2) (i+(D s).2)
    rw[List.length_drop]at this
    simp only[List.length_cons]
    omega
theorem aMq (s:List UInt8)(hl:s.length≤2000000):(dE s.length s 0).1.length≤2000000:=by
 have:=qH s.length s 0
 omega
set_option maxHeartbeats 4000000 in
theorem aQq (s:TV)(tg:Tag)(cs:List (Int×Int))(hl:cs.length≤2000000)(f a7:TV):∀(k i:Nat) (x6 x11:TV),i+k=cs.length →
  ∃y6 y11,lp' (lim K) t52L0 [s,.iv (.sl .nil []),.iv (.int .i64 0),.iv (.sl tg (cs.map lJ)),f,acc 0 (TM.one i64 (gZ (cs.take i))),x6,a7,.iv (.sl tg (cs.map lJ)),.iv (.int .i64 cs.length),.iv (.int .i64 i),x11] (lS 1 3 (TM.one i64 (gZ (cs.take i))))=.ret (.exit 0,[s,.iv (.sl .nil []),.iv (.int .i64 0),.iv (.sl tg (cs.map lJ)),f,acc 0 (TM.one i64 (gZ cs)),y6,a7,.iv (.sl tg (cs.map lJ)),.iv (.int .i64 cs.length),.iv (.int .i64 cs.length),y11],lS 1 3 (TM.one i64 (gZ cs)))
 | 0,i,x6,x11,h=>by
  obtain rfl:i=cs.length:=by omega
  rw[List.take_length]
  refine⟨?_,?_,aP K _ _ t52L0.eq_1 ?_⟩
  rotate_left 2
  ·simp (disch:=omega) only[go_sem]
   rfl
 | k+1,i,x6,x11,h=>by
  have hc:=aH3 cs i (by omega)
  have hcl:(gZ (cs.take i)).length≤2000000:=by simp[gZ]; omega
  obtain⟨y6,y11,ih⟩:=aQq s tg cs hl f a7 k (i+1) (.lb [.iv (.int .i64 (cs.getD i default).1),.iv (.int .i64 (cs.getD i default).2)]) (.iv (.bool true)) (by omega)
  rw[hc,←aKr]at ih
  have ha:=wY (w:=1) (b:=8) (el:=3) (t:=.full) (l:=TM.one i64 (gZ (cs.take i))) (c:=[.int .i64 (cs.getD i default).1]) ⟨rfl,rfl⟩ (eR.one aQp _) (eS (by rw[TM.cB]; omega))
  have hg:=aWm (w:=2) (f:=lJ) (fun _=>rfl) (t:=tg) (l:=cs) (i:=(i:Int)) (by omega)
  refine⟨y6,y11,aP K _ _ t52L0.eq_1 ?_⟩
  simp (config := { maxSteps := 4000000 }) (disch:=omega) only[go_sem,hg,aHu,bG1,Int.toNat_natCast,lJ,aE,ha]
  exact congrArg er ih
theorem aQr (s:List UInt8)(hl:s.length≤2000000):Pure K 52 [.iv (.str s)] (match (dE s.length s 0).2 with
      | none=>.tup [.iv (.sl (kJ (dE s.length s 0).1) (TM.one i64 (gZ (dE s.length s 0).1))),.iv (.int .i64 0)]
      | some p=>.tup [.iv (.sl .nil []),.iv (.int .i64 4)]):=by
  have h17:=bCp .no s (cF.no _) hl
  have hcl:(dE s.length s 0).1.length≤2000000:=aMq s hl
  generalize dE s.length s 0=q at *
  obtain⟨q1,q2⟩:=q
  refine bP t52 rfl rfl ?_
  cases q2 with
  | none =>
    simp only at h17 hcl ⊢
    simp (config := { maxSteps := 4000000 }) (disch:=omega) only[t52,go_sem,aJ h17,List.length_map]
    obtain⟨y6,y11,e⟩:=aQq (.iv (.str s)) (kJ q1) q1 hcl (.lb [.iv (.int .i64 0),.iv (.int .i64 0)]) (.iv (.bool false)) q1.length 0 u_ u_ (by omega)
    rw[List.take_zero,show gZ []=[] from rfl,show TM.one i64 []=[] from rfl,fL,jU,show ((0:Nat):Int)=0 from rfl]at e
    simp (config := { maxSteps := 4000000 }) (disch:=omega) only[go_sem,e]
    simp only[TM.one,gZ,tC]
  | some p =>
    simp only at h17 ⊢
    simp (config := { maxSteps := 4000000 }) (disch:=omega) only[t52,go_sem,aJ h17]
def Dt.pr (d:Dt):Bool:=decide (d.k=6)&&decide (d.ks.length=2)
mutual
def same:Dt→Dt→Bool
 | .mk k n t _ ks _,.mk k' n' t' _ ks' _=>decide (k=k')&&((decide (k=6)&&decide (ks.length=2))||(decide (n=n')&&decide (t=t')))&&aQs ks ks'
def aQs:List Dt→List Dt→Bool
 | [],[]=>true
 | d::ds,e::es=>same d e&&aQs ds es
 | [],_::_=>false
 | _::_,[]=>false
end
theorem aLa (a b:Dt):same a b=(decide (a.k=b.k)&&(a.pr||(decide (a.n=b.n)&&decide (a.t=b.t)))&&aQs a.ks b.ks):=by
 cases a; cases b; rw[same]; rfl
abbrev lbD (d:Dt):TV:=.lb [.iv (.int .i64 d.k),.iv (.int .i64 d.n),.iv (.str d.t),.iv (.sl d.g (aY d.ks)),.iv (.int .i64 d.p)]
abbrev agD (d:Dt):TV:=.iv (.agg [.int .i64 d.k,.int .i64 d.n,.str d.t,.sl d.g (aY d.ks),.int .i64 d.p])
theorem aXd (d:Dt)(S:aA):(lim K).call 31 [agD d] S=.ret (.iv (.bool d.pr),S):=by
 refine aD K _ (fn:=t31) rfl rfl ?_
 unfold Dt.pr
 by_cases h:d.k=6
 ·simp (config := { maxSteps := 4000000 }) (disch:=omega) only[t31,go_sem,bN,h,Bool.true_and]
  congr 5; apply decide_eq_decide.2; omega
 ·simp (config := { maxSteps := 4000000 }) (disch:=omega) only[t31,go_sem,bN,h,Bool.false_and]
def cE:Nat→Dt→List Dt×Dt
 | 0,d=>([],d)
 | n+1,d=>if d.pr then (d.ks.getD 0 default::(cE n (d.ks.getD 1 default)).1,(cE n (d.ks.getD 1 default)).2) else ([],d)
theorem aB8 {d:Dt}(h:d.pr=true):d.ks.length=2:=by
 simp only[Dt.pr,Bool.and_eq_true,decide_eq_true_eq]at h; exact h.2
theorem aA2:∀(n:Nat) (d:Dt),∀x∈(cE n d).1,x.w<d.w
 | 0,d,x,h=>by simp[cE]at h
 | n+1,d,x,h=>by
  rw[cE]at h
  split at h
  ·rename_i hp
   have h2:=aB8 hp
   have m0:=Dt.kid_lt (mO (l:=d.ks) (i:=0) (by omega))
   have m1:=Dt.kid_lt (mO (l:=d.ks) (i:=1) (by omega))
   rcases List.mem_cons.1 h with rfl|h
   ·exact m0
   ·have:=aA2 n _ x h; omega
  ·simp at h
theorem aB9 (d:Dt):(cJ d).length=5∧(cJ d).all jD=true:=by rw[bC]; exact⟨rfl,rfl⟩
theorem rH {c:Bool}{x n:Nat}(h:c=true→128≤x):128≤(if c=true then (x,n) else (65533,1)).1:=by
 cases c with
 | false=>exact (by decide:128≤65533)
 | true=>exact h rfl
theorem bCq (a:UInt8)(r:List UInt8)(h:128≤a.toNat):128≤(D (a::r)).1:=by
 have ha:=bl a
 by_cases h1:a.toNat<194
 ·rw[aKx a r (.inl ⟨h,h1⟩)]; decide
 by_cases h2:a.toNat<224
 ·rw[aEp a r ⟨by omega,h2⟩]
  split
  ·split
   ·simp only; omega
   ·decide
  ·decide
 by_cases h3:a.toNat<240
 ·rw[hH a r ⟨by omega,h3⟩]
  split
  ·rename_i b c t
   have hb:=bl b
   by_cases e:a.toNat=224
   ·simp only[e,↓reduceIte]
    refine rH fun hc=>?_
    simp only[Bool.and_eq_true,decide_eq_true_eq]at hc
    rw[if_neg (by decide)]at hc
    omega
   ·simp only[e,↓reduceIte]
    generalize (if a.toNat=237 then 159 else 191)=z
    exact rH fun _=>by omega
  ·decide
 by_cases h4:a.toNat<245
 ·rw[gU a r ⟨by omega,h4⟩]
  split
  ·rename_i b c d t
   have hb:=bl b
   by_cases e:a.toNat=240
   ·simp only[e,↓reduceIte]
    refine rH fun hc=>?_
    simp only[Bool.and_eq_true,decide_eq_true_eq]at hc
    rw[if_neg (by decide)]at hc
    omega
   ·simp only[e,↓reduceIte]
    generalize (if a.toNat=244 then 143 else 191)=z
    exact rH fun _=>by omega
  ·decide
 ·rw[aKx a r (.inr (by omega))]; decide
def lT (a:UInt8):Bool:=decide (48≤a.toNat∧a.toNat≤57)
theorem bFk (a:UInt8)(r:List UInt8):(lT a=true→D (a::r)=(a.toNat,1))∧(lT a=false→(D (a::r)).1<48∨57<(D (a::r)).1):=by
 unfold lT
 constructor
 ·intro h
  simp only[decide_eq_true_eq]at h
  exact rG a r (by omega)
 ·intro h
  simp only[decide_eq_false_iff_not]at h
  by_cases h1:a.toNat<128
  ·rw[rG a r h1]; simp only; omega
  ·have:=bCq a r (by omega); omega
theorem aQt (c:Int)(S:aA):(lim K).call 77 [.iv (.int .i32 c)] S=.ret (.iv (.bool (decide (c<48)||decide (57<c))),S):=by
 refine aD K S (fn:=t77) rfl rfl ?_
 by_cases h1:c<48
 ·simp (disch:=omega) only[t77,go_sem,Bool.true_or]
 ·by_cases h2:57<c
  ·simp (disch:=omega) only[t77,go_sem,Bool.false_or]
  ·simp (disch:=omega) only[t77,go_sem,Bool.false_or]
theorem xB {l:List UInt8}{i:Nat}(h:i<l.length):l.drop i=l.getD i 0::l.drop (i+1):=by
 rw[List.drop_eq_getElem_cons h,List.getD_eq_getElem?_getD,List.getElem?_eq_getElem h]; rfl
theorem aLb (s:List UInt8)(hs:s.length≤2000000):∀(k i:Nat) (x3:Int) (x4 x5 x7 x8 x9:TV),i+k=s.length →
  ∃j r y4 y5 y7 y8 y9 S',(j=.ret∧0≤r∧(s.drop i).all lT=false∨j=.exit 0∧r=x3∧(s.drop i).all lT=true) ∧
   lp' (lim K) t127L0 [.iv (.str s),.fn 77 [] [],.iv (.bool true),.iv (.int .i64 x3),x4,x5,.it 0,x7,x8,x9] [.sit s i]=.ret (j,[.iv (.str s),.fn 77 [] [],.iv (.bool true),.iv (.int .i64 r),y4,y5,.it 0,y7,y8,y9],S')
 | 0,i,x3,x4,x5,x7,x8,x9,h=>by
  refine⟨.exit 0,x3,?_,?_,?_,?_,?_,?_,.inr ⟨rfl,rfl,by rw[List.drop_eq_nil_of_le (by omega)]; rfl⟩,aP K _ _ t127L0.eq_1 ?_⟩
  rotate_left 6
  ·simp (disch:=omega) only[go_sem]
   rfl
 | k+1,i,x3,x4,x5,x7,x8,x9,h=>by
  have hla:i<s.length:=by omega
  have hde:=aA1 s i hla
  rw[xB hla]at hde
  obtain⟨hd1,hd2⟩:=bFk (s.getD i 0) (s.drop (i+1))
  have hdr:=xB hla
  generalize s.getD i 0=a at *
  cases hb:lT a with
  | true =>
   rw[hd1 hb]at hde
   have hb':=hb
   unfold lT at hb'
   simp only[decide_eq_true_eq]at hb'
   obtain⟨j,r,y4,y5,y7,y8,y9,S',hj,ih⟩:=aLb s hs k (i+1) x3 (.iv (.int .i64 i)) (.iv (.int .i32 a.toNat)) (.tup [.iv (.bool true),.iv (.int .i64 i),.iv (.int .i32 a.toNat)]) (.iv (.bool true)) (.iv (.bool false)) (by omega)
   refine⟨j,r,y4,y5,y7,y8,y9,S',?_,aP K _ _ t127L0.eq_1 ?_⟩
   ·rw[hdr,List.all_cons,hb,Bool.true_and]; exact hj
   ·simp (disch:=omega) only[go_sem,hla,hde,aQt,Bool.or_false]
    exact congrArg er ih
  | false =>
   have hb2:=hd2 hb
   generalize D (a::s.drop (i+1))=d at *
   refine⟨.ret,(i:Int),?_,?_,?_,?_,?_,?_,.inl ⟨rfl,by omega,by rw[hdr,List.all_cons,hb,Bool.false_and]⟩,aP K _ _ t127L0.eq_1 ?_⟩
   rotate_left 6
   ·have hor:(decide ((d.1:Int)<48)||decide (57<(d.1:Int)))=true:=by simp; omega
    simp (disch:=omega) only[go_sem,hla,hde,aQt,hor]
    rfl
theorem aXe (s:List UInt8)(hs:s.length≤2000000):∃r S',(0≤r↔s.all lT=false)∧(lim K).call 127 [.iv (.str s),.fn 77 [] [],.iv (.bool true)] []=.ret (.iv (.int .i64 r),S'):=by
 obtain⟨j,r,y4,y5,y7,y8,y9,S',hj,ih⟩:=aLb s hs s.length 0 0 u_ u_ u_ u_ u_ (by omega)
 rw[List.drop_zero]at hj
 rcases hj with⟨rfl,hr,ha⟩|⟨rfl,hr,ha⟩
 ·refine⟨r,S',by simp[hr,ha],aD K _ (fn:=t127) rfl rfl ?_⟩
  simp (config := { maxSteps := 4000000 }) (disch:=omega) only[t127,go_sem]
  rw[ih]
  simp (config := { maxSteps := 4000000 }) (disch:=omega) only[go_sem]
 ·refine⟨-1,S',by simp[ha],aD K _ (fn:=t127) rfl rfl ?_⟩
  simp (config := { maxSteps := 4000000 }) (disch:=omega) only[t127,go_sem]
  rw[ih]
  simp (config := { maxSteps := 4000000 }) (disch:=omega) only[go_sem]
theorem bCr (s:List UInt8)(hs:s.length≤2000000):∃S',(lim K).call 76 [.iv (.str s),.fn 77 [] []] []=.ret (.iv (.bool (!s.all lT)),S'):=by
 obtain⟨r,S',hr,ih⟩:=aXe s hs
 have h171:(lim K).call 102 [.iv (.str s),.fn 77 [] []] []=.ret (.iv (.int .i64 r),S'):=by
  refine aD K _ (fn:=t102) rfl rfl ?_
  simp (config := { maxSteps := 4000000 }) (disch:=omega) only[t102,go_sem,ih]
 refine⟨S',aD K _ (fn:=t76) rfl rfl ?_⟩
 cases ha:s.all lT with
 | true =>
  have:¬0≤r:=fun h=>by rw[hr,ha]at h; cases h
  simp (config := { maxSteps := 4000000 }) (disch:=omega) only[t76,go_sem,h171,Bool.not_true]
 | false =>
  have:0≤r:=hr.2 ha
  simp (config := { maxSteps := 4000000 }) (disch:=omega) only[t76,go_sem,h171,Bool.not_false]
theorem bG2 (c:UInt8)(r:List UInt8)(k:IntKind):vN (.iv (.str (c::r))) (.iv (.int k 0))=some (.iv (.int .u8 c.toNat)):=by
 have:=zW (s:=c::r) (i:=0) (kd:=k) (by simp)
 simpa using this
def pR:List UInt8→List UInt8
 | a::r=>if a.toNat=45 then r else a::r
 | []=>[]
theorem bCs (s:List UInt8)(hs:s.length≤2000000)(S:aA):(lim K).call 75 [.iv (.str s),.iv (.str [45])] S=.ret (.iv (.str (pR s)),S):=by
 have h190:(lim K).call 126 [.iv (.str s),.iv (.str [45])] []=.ret (.iv (.bool (match s with|a::_=>decide (a.toNat=45)|[]=>false)),[]):=by
  refine aD K _ (fn:=t126) rfl rfl ?_
  cases s with
  | nil=>simp (config := { maxSteps := 4000000 }) (disch:=omega) only[t126,go_sem,List.length_nil,List.length_cons]
  | cons a r =>
   have hl:(a::r).length=r.length+1:=rfl
   have h1:=aD9 [] (s:=a::r) (b:=((1:Nat):Int)) (by rw[hl]; omega)
   rw[show (((1:Nat):Int)).toNat=1 from rfl,show (a::r).take 1=[a] from rfl]at h1
   have h2:([a]==[(45:UInt8)])=decide (a.toNat=45):=by
    rw[Bool.eq_iff_iff]
    simp only[beq_iff_eq,List.cons.injEq,and_true,decide_eq_true_eq]
    constructor
    ·rintro rfl; rfl
    ·intro h; exact UInt8.toNat_inj.1 h
   simp (config := { maxSteps := 4000000 }) (disch:=omega) only[t126,go_sem,hl,List.length_nil,List.length_cons,h1,h2]
 have h170:(lim K).call 101 [.iv (.str s),.iv (.str [45])] []=.ret (.iv (.str (pR s)),[]):=by
  refine aD K _ (fn:=t101) rfl rfl ?_
  cases s with
  | nil=>simp (config := { maxSteps := 4000000 }) (disch:=omega) only[t101,go_sem,h190,pR]
  | cons a r =>
   have hl:(a::r).length=r.length+1:=rfl
   have h1:=tB [] (s:=a::r) (a:=((1:Nat):Int)) (by rw[hl]; omega)
   rw[show (((1:Nat):Int)).toNat=1 from rfl,show (a::r).drop 1=r from rfl]at h1
   by_cases ha:a.toNat=45
   ·simp (config := { maxSteps := 4000000 }) (disch:=omega) only[t101,go_sem,h190,pR,ha,List.length_nil,List.length_cons,h1]
   ·simp (config := { maxSteps := 4000000 }) (disch:=omega) only[t101,go_sem,h190,pR,ha,List.length_nil,List.length_cons,h1]
 refine aD K _ (fn:=t75) rfl rfl ?_
 simp (config := { maxSteps := 4000000 }) (disch:=omega) only[t75,go_sem,h170]
theorem aQu (s:List UInt8):(pR s).length≤s.length:=by
 cases s with
 | nil=>simp[pR]
 | cons a r=>simp only[pR]; split<;>simp
def aXf (s:List UInt8):Bool :=
 match pR s with
 | []=>false
 | a::r=>if a.toNat=48∧s≠[48] then false else (a::r).all lT
theorem bCt (s:List UInt8)(hs:s.length≤2000000):Pure K 50 [.iv (.str s)] (.iv (.bool (aXf s))):=by
 have h1:=bCs s hs []
 have h2:=aQu s
 unfold aXf
 cases ht:pR s with
 | nil =>
  rw[ht]at h1
  refine dC (S:=[]) (aD K _ (fn:=t50) rfl rfl ?_) (by rw[bW])
  simp (config := { maxSteps := 4000000 }) (disch:=omega) only[t50,go_sem,h1]
 | cons a r =>
  rw[ht]at h1 h2
  obtain⟨S',h3⟩:=bCr (a::r) (by omega)
  have h4:=bG2 a r .i64
  have h5:((a::r)==([]:List UInt8))=false:=rfl
  by_cases ha:a.toNat=48
  ·by_cases hz:s=[48]
   ·have h6:(s==[(48:UInt8)])=true:=by simp[hz]
    refine dC (S:=S') (r:=.iv (.bool ((a::r).all lT))) (aD K _ (fn:=t50) rfl rfl ?_) (by rw[bW]; simp[ha,hz])
    simp (config := { maxSteps := 4000000 }) (disch:=omega) only[t50,go_sem,h1,h3,h4,h5,h6,ha,Bool.not_not,Bool.not_true]
   ·have h6:(s==[(48:UInt8)])=false:=by simp[hz]
    refine dC (S:=[]) (r:=.iv (.bool false)) (aD K _ (fn:=t50) rfl rfl ?_) (by rw[bW]; simp[ha,hz])
    simp (config := { maxSteps := 4000000 }) (disch:=omega) only[t50,go_sem,h1,h3,h4,h5,h6,ha,Bool.not_not,Bool.not_false]
  ·refine dC (S:=S') (r:=.iv (.bool ((a::r).all lT))) (aD K _ (fn:=t50) rfl rfl ?_) (by rw[bW]; simp[ha])
   simp (config := { maxSteps := 4000000 }) (disch:=omega) only[t50,go_sem,h1,h3,h4,h5,Bool.not_not]
def okC (t:List UInt8):Bool:=(dE t.length t 0).2.isNone
def nQ (d:Dt):Bool :=
 if d.k=0∨d.k=8∨d.k=9∨d.k=10 then true else if d.k=1 then decide (d.n=0∨d.n=1) else if d.k=2 then aXf d.t else if d.k=3 then isC d.n
 else if d.k=4 then okC d.t else if d.k=5 then okC d.t&&!d.t.isEmpty else false
theorem aQv (s:List UInt8)(hl:s.length≤2000000):∃l,Pure K 52 [.iv (.str s)] (.tup [l,.iv (.int .i64 (if okC s then 0 else 4))]):=by
 have h:=aQr s hl
 unfold okC
 cases hc:(dE s.length s 0).2 with
 | none=>rw[hc]at h; exact⟨_,h⟩
 | some p=>rw[hc]at h; exact⟨_,h⟩
theorem aXg (t:List UInt8):(t==[])=t.isEmpty:=by cases t<;>rfl
theorem bCu (d:Dt)(hd:d.w≤1048576):Pure K 35 [.iv (.agg (cJ d))] (.iv (.bool (nQ d))):=by
 have hw:=Dt.w_eq d
 obtain⟨l,hc⟩:=aQv d.t (by omega)
 have h116:=bCt d.t (by omega)
 have h117:=aQn d.n
 unfold nQ
 by_cases hs:d.k=0∨d.k=8∨d.k=9∨d.k=10
 ·refine dC (S:=[]) (r:=.iv (.bool true)) (aD K _ (fn:=t35) rfl rfl ?_) (by rw[bW]; simp[hs])
  rw[bC]
  rcases hs with h|h|h|h<;>simp (config := { maxSteps := 4000000 }) (disch:=omega) only[t35,go_sem]
 ·by_cases h1:d.k=1
  ·refine dC (S:=[]) (r:=.iv (.bool (decide (d.n=0∨d.n=1)))) (aD K _ (fn:=t35) rfl rfl ?_) (by rw[bW]; simp[h1])
   rw[bC]
   by_cases n0:d.n=0
   ·simp (config := { maxSteps := 4000000 }) (disch:=omega) only[t35,go_sem]
   ·by_cases n1:d.n=1
    ·simp (config := { maxSteps := 4000000 }) (disch:=omega) only[t35,go_sem]
    ·simp (config := { maxSteps := 4000000 }) (disch:=omega) only[t35,go_sem]
  ·by_cases h2:d.k=2
   ·refine dC (S:=[]) (r:=.iv (.bool (aXf d.t))) (aD K _ (fn:=t35) rfl rfl ?_) (by rw[bW]; simp[h2])
    rw[bC]
    simp (config := { maxSteps := 4000000 }) (disch:=omega) only[t35,go_sem,aJ h116]
   ·by_cases h3:d.k=3
    ·refine dC (S:=[]) (r:=.iv (.bool (isC d.n))) (aD K _ (fn:=t35) rfl rfl ?_) (by rw[bW]; simp[h3])
     rw[bC]
     simp (config := { maxSteps := 4000000 }) (disch:=omega) only[t35,go_sem,h117]
    ·by_cases h4:d.k=4
     ·refine dC (S:=[]) (r:=.iv (.bool (okC d.t))) (aD K _ (fn:=t35) rfl rfl ?_) (by rw[bW]; simp[h4])
      rw[bC]
      cases ho:okC d.t
      ·rw[ho]at hc
       simp (config := { maxSteps := 4000000 }) (disch:=omega) only[t35,go_sem,aJ hc,Bool.false_eq_true]
      ·rw[ho]at hc
       simp (config := { maxSteps := 4000000 }) (disch:=omega) only[t35,go_sem,aJ hc]
     ·by_cases h5:d.k=5
      ·refine dC (S:=[]) (r:=.iv (.bool (okC d.t&&!d.t.isEmpty))) (aD K _ (fn:=t35) rfl rfl ?_) (by rw[bW]; simp[h5])
       rw[bC]
       cases ho:okC d.t
       ·rw[ho]at hc
        simp (config := { maxSteps := 4000000 }) (disch:=omega) only[t35,go_sem,aJ hc,Bool.false_eq_true,Bool.false_and]
       ·rw[ho]at hc
        simp (config := { maxSteps := 4000000 }) (disch:=omega) only[t35,go_sem,aJ hc,Bool.true_and,aXg]
      ·refine dC (S:=[]) (r:=.iv (.bool false)) (aD K _ (fn:=t35) rfl rfl ?_) (by rw[bW]; simp[hs,h1,h2,h3,h4,h5])
       rw[bC]
       simp (config := { maxSteps := 4000000 }) (disch:=omega) only[t35,go_sem]
theorem aQw (f:Nat)(act:Dt→Bool)(g:Tag)(ks:List Dt)(hl:ks.length≤2000000)(hf:∀x∈ks,TM.Pure K f [.iv (.agg (cJ x))] (.iv (.bool (act x))))(x2:TV)(S:aA):∀(k i:Nat) (x3 x6 x7:TV),i+k=ks.length →
  ∃j r y3 y5 y6 y7,(j=.ret∧(∃n:Int,r=.iv (.int .i64 n)∧0≤n)∧(ks.drop i).any act=true∨j=.exit 0∧r=x2∧(ks.drop i).any act=false) ∧
   lp' (lim K) t33L0 [.iv (.sl g (aY ks)),.fn f [] [],x2,x3,.iv (.int .i64 ks.length),.iv (.int .i64 (i:Int)),x6,x7] S=.ret (j,[.iv (.sl g (aY ks)),.fn f [] [],r,y3,.iv (.int .i64 ks.length),y5,y6,y7],S)
 | 0,i,x3,x6,x7,h=>by
  obtain rfl:i=ks.length:=by omega
  refine⟨.exit 0,x2,?_,?_,?_,?_,.inr ⟨rfl,rfl,by rw[List.drop_length]; rfl⟩,aP K _ _ t33L0.eq_1 ?_⟩
  rotate_left 4
  ·simp (config := { maxSteps := 4000000 }) (disch:=omega) only[go_sem]
   rfl
 | k+1,i,x3,x6,x7,h=>by
  have hla:i<ks.length:=by omega
  have hix:=ixD (g:=g) (ks:=ks) (i:=(i:Int)) (by omega)
  rw[Int.toNat_natCast]at hix
  have hdr:=aQm hla
  have hc:=hf _ (mO hla)
  generalize hx:ks.getD i default=x at *
  rw[bC]at hc
  cases ha:act x with
  | true =>
   rw[ha]at hc
   refine⟨.ret,.iv (.int .i64 (i:Int)),?_,?_,?_,?_,.inl ⟨rfl,⟨_,rfl,by omega⟩,by rw[hdr,List.any_cons,ha,Bool.true_or]⟩,aP K _ _ t33L0.eq_1 ?_⟩
   rotate_left 4
   ·simp (config := { maxSteps := 4000000 }) (disch:=omega) only[go_sem,hix,wZ,aJ hc]
    rfl
  | false =>
   rw[ha]at hc
   obtain⟨j,r,y3,y5,y6,y7,hj,ih⟩:=aQw f act g ks hl hf x2 S k (i+1) (.iv (.int .i64 (i:Int))) (.iv (.bool true)) (.iv (.bool false)) (by omega)
   rw[show ((i+1:Nat):Int)=(i:Int)+1 by omega]at ih
   refine⟨j,r,y3,y5,y6,y7,?_,aP K _ _ t33L0.eq_1 ?_⟩
   ·rw[hdr,List.any_cons,ha,Bool.false_or]; exact hj
   ·simp (config := { maxSteps := 4000000 }) (disch:=omega) only[go_sem,hix,wZ,aJ hc,aE]
    exact congrArg er ih
theorem aCa (f:Nat)(act:Dt→Bool)(g:Tag)(ks:List Dt)(hl:ks.length≤2000000)(hf:∀x∈ks,TM.Pure K f [.iv (.agg (cJ x))] (.iv (.bool (act x))))(S:aA) :
  (lim K).call 20 [.iv (.sl g (aY ks)),.fn f [] []] S=.ret (.iv (.bool (ks.any act)),S):=by
 obtain⟨j,r,y3,y5,y6,y7,hj,ih⟩:=aQw f act g ks hl hf (.iv (.int .i64 0)) S ks.length 0 u_ u_ u_ (by omega)
 rw[show ((0:Nat):Int)=0 from rfl,List.drop_zero]at *
 have h115:∃n:Int,(0≤n↔ks.any act=true)∧(lim K).call 33 [.iv (.sl g (aY ks)),.fn f [] []] S=.ret (.iv (.int .i64 n),S):=by
  rcases hj with⟨rfl,⟨n,rfl,hn⟩,ha⟩|⟨rfl,rfl,ha⟩
  ·refine⟨n,by simp[hn,ha],aD K _ (fn:=t33) rfl rfl ?_⟩
   simp (config := { maxSteps := 4000000 }) (disch:=omega) only[t33,go_sem,bN]
   rw[ih]
   simp (config := { maxSteps := 4000000 }) (disch:=omega) only[go_sem]
  ·refine⟨-1,by simp[ha],aD K _ (fn:=t33) rfl rfl ?_⟩
   simp (config := { maxSteps := 4000000 }) (disch:=omega) only[t33,go_sem,bN]
   rw[ih]
   simp (config := { maxSteps := 4000000 }) (disch:=omega) only[go_sem]
 obtain⟨n,hn,h115⟩:=h115
 refine aD K _ (fn:=t20) rfl rfl ?_
 by_cases h0:0≤n
 ·rw[hn.1 h0]
  simp (config := { maxSteps := 4000000 }) (disch:=omega) only[t20,go_sem,h115]
 ·have:ks.any act=false:=by
   cases h:ks.any act with
   | true=>exact absurd (hn.2 h) h0
   | false=>rfl
  rw[this]
  simp (config := { maxSteps := 4000000 }) (disch:=omega) only[t20,go_sem,h115]
theorem bCv (d:Dt)(hd:d.w≤2000000)(S:aA):(lim K).call 31 [.iv (.agg (cJ d))] S=.ret (.iv (.bool (decide (d.k=6∧d.ks.length=2))),S):=by
 have hw:=Dt.w_eq d
 have hl:=Dt.ws_len d.ks
 refine aD K _ (fn:=t31) rfl rfl ?_
 rw[bC]
 by_cases hk:d.k=6
 ·by_cases h2:d.ks.length=2
  ·have:((d.ks.length:Int)==2)=true:=by simp[h2]
   simp (config := { maxSteps := 4000000 }) (disch:=omega) only[t31,go_sem,bN]
  ·simp (config := { maxSteps := 4000000 }) (disch:=omega) only[t31,go_sem,bN]
 ·simp (config := { maxSteps := 4000000 }) (disch:=omega) only[t31,go_sem,bN]
mutual
def eB:Dt→Bool
 | .mk k n t g ks p=>if k=6∧ks.length=2 then aMr ks else if k=7 then aMr ks else ks.isEmpty&&nQ (.mk k n t g ks p)
def aMr:List Dt→Bool
 | []=>true
 | d::ds=>eB d&&aMr ds
end
theorem aEr:∀ks:List Dt,aMr ks=ks.all eB
 | []=>by rw[aMr]; rfl
 | d::ds=>by rw[aMr,aEr ds]; rfl
theorem kB (d:Dt):eB d=if d.k=6∧d.ks.length=2 then d.ks.all eB else if d.k=7 then d.ks.all eB else d.ks.isEmpty&&nQ d:=by
 cases d; rw[eB,aEr]; rfl
abbrev aXh (d:Dt):TV:=.lb [.iv (.int .i64 d.k),.iv (.int .i64 d.n),.iv (.str d.t),.iv (.sl d.g (aY d.ks)),.iv (.int .i64 d.p)]
theorem aCb {d:Dt}(h:d.ks.length=2):∃a b,d.ks=[a,b]:=by
 cases hk:d.ks with
 | nil=>rw[hk]at h; simp at h
 | cons a r =>
  cases r with
  | nil=>rw[hk]at h; simp at h
  | cons b r =>
   cases r with
   | nil=>exact⟨a,b,rfl⟩
   | cons c r=>rw[hk]at h; simp at h
theorem ix0 (g:Tag)(a b:Dt):indexAddrS 5 (.iv (.sl g (aY [a,b]))) 0=some (.iv (.cp (cJ a))):=ixD (g:=g) (ks:=[a,b]) (i:=0) (by simp)
theorem ix1 (g:Tag)(a b:Dt):indexAddrS 5 (.iv (.sl g (aY [a,b]))) 1=some (.iv (.cp (cJ b))):=ixD (g:=g) (ks:=[a,b]) (i:=1) (by simp)
theorem aQx (M:Nat)(hM:M≤1048576)(ih:∀d:Dt,d.w≤M→TM.Pure K 22 [.iv (.agg (cJ d))] (.iv (.bool (eB d))))(x0:TV)(S:aA):∀(N:Nat),N≤M+1→∀(d:Dt) (x2 x3 x4 x5:TV),d.w≤N →
  ∃j d' r y3 y4,(j=.ret∧r=.iv (.bool false)∧eB d=false∨j=.exit 0∧r=x2∧eB d'=eB d∧d'.w≤d.w∧¬(d'.k=6∧d'.ks.length=2)) ∧
   lp' (lim K) t22L0 [x0,aXh d,x2,x3,x4,x5] S=.ret (j,[x0,aXh d',r,y3,y4,x5],S)
 | 0,hN,d,x2,x3,x4,x5,hd=>by have:=Dt.w_eq d; omega
 | N+1,hN,d,x2,x3,x4,x5,hd=>by
  have hw:=Dt.w_eq d
  have hp:=bCv d (by omega) S
  rw[bC]at hp
  by_cases h2:d.k=6∧d.ks.length=2
  ·obtain⟨a,b,hk⟩:=aCb h2.2
   have hab:a.w+b.w+1≤d.w:=by rw[hw,hk,Dt.ws,Dt.ws,Dt.ws]; omega
   have ha:=ih a (by omega)
   rw[bC]at ha
   have hm:eB d=(eB a&&eB b):=by rw[kB d,if_pos h2,hk]; simp
   have i0:=ix0 d.g a b
   have i1:=ix1 d.g a b
   rw[←hk]at i0 i1
   rw[bEy h2]at hp
   cases hma:eB a with
   | false =>
    rw[hma]at ha
    refine⟨.ret,d,.iv (.bool false),?_,?_,.inl ⟨rfl,rfl,by rw[hm,hma,Bool.false_and]⟩,aP K _ _ t22L0.eq_1 ?_⟩
    rotate_left 2
    ·simp (config := { maxSteps := 4000000 }) (disch:=omega) only[go_sem,hp,i0,wZ,aJ ha]
     rfl
   | true =>
    rw[hma]at ha
    obtain⟨j,d',r,y3,y4,hj,ih2⟩:=aQx M hM ih x0 S N (by omega) b x2 (.iv (.bool true)) (.iv (.bool false)) x5 (by omega)
    refine⟨j,d',r,y3,y4,?_,aP K _ _ t22L0.eq_1 ?_⟩
    ·rw[hm,hma,Bool.true_and]
     rcases hj with h|⟨h1,h2,h3,h4,h5⟩
     ·exact .inl h
     ·exact .inr ⟨h1,h2,h3,by omega,h5⟩
    ·simp (config := { maxSteps := 4000000 }) (disch:=omega) only[go_sem,hp,i0,i1,wZ,aJ ha]
     exact congrArg er ih2
  ·rw[bEz h2]at hp
   refine⟨.exit 0,d,x2,?_,?_,.inr ⟨rfl,rfl,rfl,Nat.le_refl _,h2⟩,aP K _ _ t22L0.eq_1 ?_⟩
   rotate_left 2
   ·simp (config := { maxSteps := 4000000 }) (disch:=omega) only[go_sem,hp]
    rfl
theorem rI (ks:List Dt)(f:Dt→Bool):(!(ks.any fun x=>!f x))=ks.all f:=by
 induction ks with
 | nil=>rfl
 | cons a r ih=>simp only[List.any_cons,List.all_cons,Bool.not_or,Bool.not_not,ih]
theorem aQy:∀(N:Nat),N≤1048576→∀d:Dt,d.w≤N→TM.Pure K 22 [.iv (.agg (cJ d))] (.iv (.bool (eB d)))
 | 0,hN,d,hd=>by have:=Dt.w_eq d; omega
 | N+1,hN,d,hd=>by
  have ih:=aQy N (by omega)
  obtain⟨j,d',r,y3,y4,hj,hl⟩:=aQx N (by omega) ih (.iv (.agg (cJ d))) [] (N+1) (by omega) d (.iv (.bool false)) u_ u_ u_ hd
  rcases hj with⟨rfl,rfl,hm⟩|⟨rfl,rfl,hm,hw',hn⟩
  ·refine dC (S:=[]) (r:=.iv (.bool false)) (aD K _ (fn:=t22) rfl rfl ?_) (by rw[bW,hm])
   rw[bC]at hl ⊢
   simp (config := { maxSteps := 4000000 }) (disch:=omega) only[t22,go_sem]
   rw[hl]
   simp (config := { maxSteps := 4000000 }) (disch:=omega) only[go_sem]
  ·have hwd:=Dt.w_eq d'
   have hwl:=Dt.ws_len d'.ks
   have h84:∀x∈d'.ks,TM.Pure K 34 [.iv (.agg (cJ x))] (.iv (.bool (!eB x))):=by
    intro x hx
    have hc:=ih x (by have:=Dt.kid_lt hx; omega)
    refine dC (S:=[]) (r:=.iv (.bool (!eB x))) (aD K _ (fn:=t34) rfl rfl ?_) (by rw[bW])
    rw[bC]at hc ⊢
    simp (config := { maxSteps := 4000000 }) (disch:=omega) only[t34,go_sem,aJ hc]
   have h83:=aCa 34 (fun x=>!eB x) d'.g d'.ks (by omega) h84 []
   have h85:=bCu d' (by omega)
   rw[bC]at h85
   refine dC (S:=[]) (r:=.iv (.bool (eB d'))) (aD K _ (fn:=t22) rfl rfl ?_) (by rw[bW,hm])
   rw[bC]at hl ⊢
   rw[kB d',if_neg hn]
   simp (config := { maxSteps := 4000000 }) (disch:=omega) only[t22,go_sem]
   rw[hl]
   by_cases h7:d'.k=7
   ·rw[if_pos h7]
    simp (config := { maxSteps := 4000000 }) (disch:=omega) only[go_sem,h83,rI]
   ·rw[if_neg h7]
    by_cases he:d'.ks.length=0
    ·have:d'.ks.isEmpty=true:=by rw[List.isEmpty_iff]; exact List.eq_nil_of_length_eq_zero he
     have e0:((d'.ks.length:Int)==0)=true:=by simp[he]
     simp (config := { maxSteps := 4000000 }) (disch:=omega) only[go_sem,bN,e0,aJ h85,this,Bool.true_and]
    ·have:d'.ks.isEmpty=false:=by
      cases hk:d'.ks with
      | nil=>rw[hk]at he; exact absurd rfl he
      | cons a r=>rfl
     simp (config := { maxSteps := 4000000 }) (disch:=omega) only[go_sem,bN,this,Bool.false_and]
theorem tI:∀(n:Nat) (d:Dt),d.w≤n→eB d=((cE n d).1.all eB&&eB (cE n d).2)
 | 0,d,h=>by have:=Dt.w_eq d; omega
 | n+1,d,h=>by
  rw[cE]
  split
  ·rename_i hp
   have h2:=aB8 hp
   have hk:d.k=6:=by simp only[Dt.pr,Bool.and_eq_true,decide_eq_true_eq]at hp; exact hp.1
   have m1:=Dt.kid_lt (mO (l:=d.ks) (i:=1) (by omega))
   have ih:=tI n (d.ks.getD 1 default) (by omega)
   obtain⟨a,b,hab⟩:=aCb h2
   rw[kB d,if_pos ⟨hk,h2⟩]
   rw[hab]at ih ⊢
   simp only[List.getD_cons_zero,List.getD_cons_succ,List.all_cons,List.all_nil,Bool.and_true]at ih ⊢
   rw[ih,Bool.and_assoc]
  ·simp
theorem oY:∀(n:Nat) (d:Dt),d.w≤n→Dt.ws (cE n d).1+(cE n d).1.length+(cE n d).2.w≤d.w
 | 0,d,h=>by have:=Dt.w_eq d; omega
 | n+1,d,h=>by
  rw[cE]
  split
  ·rename_i hp
   have h2:=aB8 hp
   have m1:=Dt.kid_lt (mO (l:=d.ks) (i:=1) (by omega))
   have ih:=oY n (d.ks.getD 1 default) (by omega)
   obtain⟨a,b,hab⟩:=aCb h2
   have hw:=Dt.w_eq d
   rw[hab,Dt.ws,Dt.ws,Dt.ws]at hw
   rw[hab]at ih ⊢
   simp only[List.getD_cons_zero,List.getD_cons_succ,List.length_cons,Dt.ws]at ih ⊢
   omega
  ·simp[Dt.ws]
attribute [go_sem] beq_self_eq_true bEy bEz ifT ifF eqT eqF neT neF dU TM.cB aEa List.replicate List.cons_append List.nil_append decide_true decide_false
attribute [go_sem] Nat.reduceAdd Nat.reduceSub Nat.reduceMul Nat.reduceLT Nat.reduceLeDiff Nat.reduceEqDiff Nat.reduceBEq reduceIte reduceCtorEq Int.reduceEq Int.reduceLT Int.reduceLE Int.reduceAdd Int.reduceSub Int.reduceMul Int.reduceToNat Int.reduceNeg Int.reduceBEq Int.reduceBNe Int.reduceTDiv Int.reduceTMod Int.reducePow Nat.reducePow Nat.reduceDiv Nat.reduceMod Int.reduceMod Int.reduceDiv Int.reduceNe Int.reduceFDiv
def d16 (n:Int):IV:=.int .u16 n
def tr:List Int→List Int
 | []=>[]
 | a::l=>if tr l=[] then (if a=0 then [] else [a]) else a::tr l
theorem aLc:∀(l:List Int),tr (l++[0])=tr l
 | []=>rfl
 | a::l=>by simp only[List.cons_append,tr,aLc l]
theorem aLd {a:Int}(h:a≠0):∀(l:List Int),tr (l++[a])=l++[a]
 | []=>by simp[tr,h]
 | b::l=>by
  have e:¬l++[a]=[]:=by simp
  simp only[List.cons_append,tr,aLd h l,e,↓reduceIte]
theorem aH4:∀(l:List Int),∃m,l=tr l++m
 | []=>⟨[],rfl⟩
 | a::l=>by
  obtain⟨m,hm⟩:=aH4 l
  by_cases h:tr l=[]
  ·by_cases h0:a=0
   ·exact⟨a::l,by simp[tr,h,h0]⟩
   ·exact⟨l,by simp[tr,h,h0]⟩
  ·exact⟨m,by simp only[tr,h,↓reduceIte,List.cons_append]; rw[←hm]⟩
theorem aH5 (l:List Int):(tr l).length≤l.length:=by
 obtain⟨m,hm⟩:=aH4 l
 have:=congrArg List.length hm
 simp at this; omega
theorem aH6 {α:Type}(l:List α):l=[]∨∃m a,l=m++[a]:=by
 rcases List.eq_nil_or_concat l with h|⟨m,a,h⟩
 ·exact .inl h
 ·exact .inr ⟨m,a,by simpa using h⟩
theorem aMs (m:List Int)(a:Int):(m++[a]).getD m.length default=a:=by simp[List.getD]
theorem aMt {α:Type}(m:List α)(a:α):(m++[a]).take m.length=m:=by simp
theorem bCw {t:Tag}{m:List Int}{a:Int}(h:cF t (m++[a])):cF (jC t (m++[a]).length m.length) m:=by
 have:=h.cut 0 m.length (m++[a]).length
 simpa using this
theorem aQz (S:aA):∀(n:Nat) (t:Tag) (l:List Int) (x1 y:TV),l.length=n→n≤1000000→cF t l →
  ∃t' y',cF t' (tr l)∧lp' (lim K) t81L0 [.iv (.sl t (one d16 l)),x1,y] S=.ret (.exit 0,[.iv (.sl t' (one d16 (tr l))),x1,y'],S)
 | 0,t,l,x1,y,h,hn,ht=>by
  obtain rfl:l=[]:=List.length_eq_zero_iff.1 h
  refine⟨t,?_,ht,aP K _ _ t81L0.eq_1 ?_⟩
  rotate_left
  ·simp (disch:=omega) only[go_sem,tr,List.length_nil]
   rfl
 | n+1,t,l,x1,y,h,hn,ht=>by
  rcases aH6 l with rfl|⟨m,a,rfl⟩
  ·simp at h
  have hm:m.length=n:=by simpa using h
  have hl:(m++[a]).length=m.length+1:=by simp
  have hsl:=fun S=>aD7 (f:=d16) S (t:=t) (l:=m++[a]) (b:=(m.length:Int)) ht (by omega)
  have hix:=rD d16 (t:=t) (l:=m++[a]) (i:=(m.length:Int)) (by omega)
  rw[Int.toNat_natCast,aMs]at hix
  rw[Int.toNat_natCast,aMt]at hsl
  have e1:((m.length:Int)+1-1)=m.length:=by omega
  by_cases ha:a=0
  ·subst ha
   obtain⟨t',y',h1,ih⟩:=aQz S n (jC t (m++[0]).length m.length) m x1 (.iv (.bool true)) hm (by omega) (bCw ht)
   rw[aLc]
   refine⟨t',y',h1,aP K _ _ t81L0.eq_1 ?_⟩
   simp (disch:=omega) only[go_sem,hl,Int.natCast_add,Int.cast_ofNat_Int,aE,hix,hsl,e1,d16]
   rw[hl]at ih
   exact congrArg er ih
  ·rw[aLd ha]
   refine⟨t,?_,ht,aP K _ _ t81L0.eq_1 ?_⟩
   rotate_left
   ·simp (disch:=omega) only[go_sem,hl,Int.natCast_add,Int.cast_ofNat_Int,aE,hix,hsl,e1,d16]
    rfl
theorem aH7 (t:Tag)(l:List Int)(ht:cF t l)(hl:l.length≤1000000):∃t',cF t' (tr l)∧(lim K).call 81 [.iv (.sl t (one d16 l))] []=.ret (.iv (.sl t' (one d16 (tr l))),[]):=by
 obtain⟨t',y',h1,e⟩:=aQz [] l.length t l (.iv (.sl .nil [])) u_ rfl hl ht
 refine⟨t',h1,aD K [] (fn:=t81) rfl rfl ?_⟩
 simp (disch:=omega) only[t81,go_sem,e]
def num (neg:Bool)(t:Tag)(l:List Int):IV:=.agg [.bool neg,.sl t (one d16 l)]
def sg (neg:Bool)(l:List Int):Bool:=neg&&decide (0<l.length)
theorem bCx (neg:Bool)(t:Tag)(l:List Int)(ht:cF t l)(hl:l.length≤1000000):∃t',cF t' (tr l)∧Pure K 83 [.iv (.bool neg),.iv (.sl t (one d16 l))] (.iv (num (sg neg (tr l)) t' (tr l))):=by
 obtain⟨t',h1,e⟩:=aH7 t l ht hl
 refine⟨t',h1,bP t83 rfl rfl ?_⟩
 have:=aH5 l
 simp (disch:=omega) only[t83,go_sem,e]
 repeat' (first|(first|refine cM (fun h=>?_) (fun h=>?_)|refine cN (fun h=>?_) (fun h=>?_)|refine cO (fun h=>?_) (fun h=>?_)|refine dP (fun h=>?_) (fun h=>?_))|simp (disch:=omega) only[go_sem,e])
 all_goals simp[num,sg, *]
def val (B:Int):List Int→Int
 | []=>0
 | a::l=>a+B*val B l
def Dig (B:Int)(l:List Int):Prop:=∀a∈l,0≤a∧a<B
theorem Dig.nil {B:Int}:Dig B []:=by intro a h; cases h
theorem Dig.cons {B a:Int}{l:List Int}(h:0≤a∧a<B)(hl:Dig B l):Dig B (a::l):=by
 intro x hx
 rcases List.mem_cons.1 hx with rfl|hx
 ·exact h
 ·exact hl x hx
theorem Dig.head {B a:Int}{l:List Int}(h:Dig B (a::l)):0≤a∧a<B:=h a (List.mem_cons_self ..)
theorem Dig.tail {B a:Int}{l:List Int}(h:Dig B (a::l)):Dig B l:=fun x hx=>h x (List.mem_cons_of_mem _ hx)
theorem Dig.append {B:Int}{l m:List Int}(h:Dig B l)(g:Dig B m):Dig B (l++m):=by
 intro x hx
 rcases List.mem_append.1 hx with hx|hx
 ·exact h x hx
 ·exact g x hx
theorem Dig.left {B:Int}{l m:List Int}(h:Dig B (l++m)):Dig B l:=fun x hx=>h x (List.mem_append_left _ hx)
theorem Dig.tr {B:Int}{l:List Int}(h:Dig B l):Dig B (tr l):=by
 obtain⟨m,hm⟩:=aH4 l
 rw[hm]at h
 exact h.left
theorem iQ {B:Int}(hB:0<B):∀ {l:List Int},Dig B l→0≤val B l
 | [],_=>Int.le_refl 0
 | a::l,h=>by
  have h1:=iQ hB h.tail
  have h2:=h.head
  have h3:0≤B*val B l:=Int.mul_nonneg (by omega) h1
  simp only[val]; omega
theorem xC (B:Int):∀(l m:List Int),val B (l++m)=val B l+B ^ l.length*val B m
 | [],m=>by simp[val]
 | a::l,m=>by
  simp only[List.cons_append,val,xC B l m,List.length_cons,Int.pow_succ,Int.mul_add]
  rw[Int.mul_comm (B ^ l.length) B,Int.mul_assoc]
  omega
theorem aQ0 (B:Int):∀(l:List Int),val B (tr l)=val B l
 | []=>rfl
 | a::l=>by
  have ih:=aQ0 B l
  by_cases h:tr l=[]
  ·rw[h]at ih
   by_cases h0:a=0
   ·simp only[tr,h,h0,↓reduceIte,val,←ih]; simp
   ·simp only[tr,h,h0,↓reduceIte,val,←ih]
  ·simp only[tr,h,↓reduceIte,val,ih]
theorem bBz:∀(l:List Int),tr (tr l)=tr l
 | []=>rfl
 | a::l=>by
  have ih:=bBz l
  by_cases h:tr l=[]
  ·by_cases h0:a=0
   ·simp[tr,h,h0]
   ·simp[tr,h,h0]
  ·simp only[tr,h,↓reduceIte,ih]
theorem xD {B:Int}(hB:0<B):∀ {l:List Int},Dig B l→val B l<B ^ l.length
 | [],_=>by simp[val]
 | a::l,h=>by
  have h1:=xD hB h.tail
  have h2:=h.head
  have h3:B*(val B l+1)≤B*B ^ l.length:=Int.mul_le_mul_of_nonneg_left (by omega) (by omega)
  rw[Int.mul_add]at h3
  simp only[val,List.length_cons,Int.pow_succ]
  rw[Int.mul_comm (B ^ l.length) B]
  omega
theorem aEs {B a v:Int}(hB:0<B)(h:0≤a∧a<B):(a+B*v) / B=v∧(a+B*v) % B=a:=by
 constructor
 ·rw[Int.add_mul_ediv_left _ _ (by omega),Int.ediv_eq_zero_of_lt h.1 h.2,Int.zero_add]
 ·rw[Int.add_mul_emod_self_left,Int.emod_eq_of_lt h.1 h.2]
theorem aCc {B:Int}(hB:0<B):∀ {l:List Int},Dig B l→tr l=l→l≠[]→0<val B l
 | [],_,_,h=>absurd rfl h
 | a::l,h,ht,_=>by
  have h2:=h.head
  have h1:=iQ hB h.tail
  by_cases hl:tr l=[]
  ·by_cases h0:a=0
   ·simp[tr,hl,h0]at ht
   ·have h3:0≤B*val B l:=Int.mul_nonneg (by omega) h1
    simp only[val]; omega
  ·simp only[tr,hl,↓reduceIte,List.cons.injEq,true_and]at ht
   have:=aCc hB h.tail ht (by rw[ht]at hl; exact hl)
   have h3:0<B*val B l:=Int.mul_pos hB this
   simp only[val]; omega
theorem aLe {B:Int}(hB:0<B):∀ {l m:List Int},Dig B l→Dig B m→tr l=l→tr m=m→val B l=val B m→l=m
 | [],[],_,_,_,_,_=>rfl
 | [],b::m,_,h2,_,h4,h5=>by
  have:=aCc hB h2 h4 (by simp)
  simp only[val]at h5 this; omega
 | a::l,[],h1,_,h3,_,h5=>by
  have:=aCc hB h1 h3 (by simp)
  simp only[val]at h5 this; omega
 | a::l,b::m,h1,h2,h3,h4,h5=>by
  have e1:=aEs (v:=val B l) hB h1.head
  have e2:=aEs (v:=val B m) hB h2.head
  simp only[val]at h5
  rw[h5]at e1
  have ea:a=b:=by rw[←e1.2,e2.2]
  have ev:val B l=val B m:=by rw[←e1.1,e2.1]
  have sub:∀ {c:Int} {k:List Int},tr (c::k)=c::k→tr k=k:=by
   intro c k h
   by_cases hk:tr k=[]
   ·by_cases h0:c=0
    ·simp[tr,hk,h0]at h
    ·simp[tr,hk,h0]at h; rw[h]; rfl
   ·simpa[tr,hk] using h
  rw[ea,aLe hB h1.tail h2.tail (sub h3) (sub h4) ev]
def dg (B:Int)(n:Int):List Int :=
 if h:0<n∧1<B then n % B::dg B (n / B) else []
termination_by n.toNat
decreasing_by
 have h1:n / B<n:=Int.ediv_lt_of_lt_mul (by omega) (by
  have:=Int.mul_le_mul_of_nonneg_left (show 2≤B by omega) (show 0≤n by omega)
  omega)
 have h2:0≤n / B:=Int.ediv_nonneg (by omega) (by omega)
 omega
theorem gS (B:Int):dg B 0=[]:=by rw[dg]; simp
theorem aQ1 {B n:Int}(hB:1<B)(h:0<n):dg B n=n % B::dg B (n / B):=by rw[dg]; simp[h,hB]
theorem wJ {B:Int}(hB:1<B):∀(k:Nat) (n:Int),n.toNat≤k→0≤n→Dig B (dg B n)∧val B (dg B n)=n∧tr (dg B n)=dg B n
 | 0,n,h,h0=>by
  obtain rfl:n=0:=by omega
  rw[gS]; exact⟨Dig.nil,rfl,rfl⟩
 | k+1,n,h,h0=>by
  by_cases hn:n=0
  ·subst hn; rw[gS]; exact⟨Dig.nil,rfl,rfl⟩
  ·have hp:0<n:=by omega
   have h1:n / B<n:=Int.ediv_lt_of_lt_mul (by omega) (by
    have:=Int.mul_le_mul_of_nonneg_left (show 2≤B by omega) (show 0≤n by omega)
    omega)
   have h2:0≤n / B:=Int.ediv_nonneg (by omega) (by omega)
   obtain⟨i1,i2,i3⟩:=wJ hB k (n / B) (by omega) h2
   have h3:=Int.emod_nonneg n (show B≠0 by omega)
   have h4:=Int.emod_lt_of_pos n (show 0<B by omega)
   rw[aQ1 hB hp]
   refine⟨Dig.cons ⟨h3,h4⟩ i1,?_,?_⟩
   ·simp only[val,i2]; have:=Int.emod_add_mul_ediv n B; omega
   ·by_cases hd:dg B (n / B)=[]
    ·rw[hd]at i2 ⊢
     simp only[val]at i2
     have:n % B≠0:=by
      have:=Int.emod_add_mul_ediv n B
      rw[←i2]at this; simp at this; omega
     simp[tr,this]
    ·simp[tr,i3,hd]
theorem qI {B n:Int}(hB:1<B)(h:0≤n):Dig B (dg B n):=(wJ hB _ n (Nat.le_refl _) h).1
theorem tJ {B n:Int}(hB:1<B)(h:0≤n):val B (dg B n)=n:=(wJ hB _ n (Nat.le_refl _) h).2.1
theorem bB0 {B n:Int}(hB:1<B)(h:0≤n):tr (dg B n)=dg B n:=(wJ hB _ n (Nat.le_refl _) h).2.2
theorem bB1 {B:Int}(hB:1<B){l:List Int}(h:Dig B l):tr l=dg B (val B l):=by
 have h0:=iQ (by omega) h
 exact aLe (by omega) h.tr (qI hB h0) (bBz l) (bB0 hB h0) (by rw[aQ0,tJ hB h0])
theorem aQ2 {B n:Int}(hB:1<B)(h:0≤n):dg B n=[]↔n=0:=by
 constructor
 ·intro e; rw[←tJ hB h,e]; rfl
 ·rintro rfl; exact gS B
def sc (B y:Int):List Int→Int→List Int×Int
 | [],m=>([],m)
 | a::l,m=>((m+a*y) % B::(sc B y l ((m+a*y) / B)).1,(sc B y l ((m+a*y) / B)).2)
theorem wK {B y:Int}(hB:1<B)(hy:0≤y):∀(l:List Int) (m:Int),Dig B l→0≤m→Dig B (sc B y l m).1∧0≤(sc B y l m).2∧(sc B y l m).1.length=l.length∧val B (sc B y l m).1+B ^ l.length*(sc B y l m).2=y*val B l+m
 | [],m,_,hm=>by simp[sc,val,Dig.nil,hm]
 | a::l,m,h,hm=>by
  have h1:=h.head
  have h2:0≤a*y:=Int.mul_nonneg h1.1 hy
  have h3:0≤(m+a*y) / B:=Int.ediv_nonneg (by omega) (by omega)
  obtain⟨i1,i2,i3,i4⟩:=wK hB hy l ((m+a*y) / B) h.tail h3
  have h5:=Int.emod_nonneg (m+a*y) (show B≠0 by omega)
  have h6:=Int.emod_lt_of_pos (m+a*y) (show 0<B by omega)
  have h7:=Int.emod_add_mul_ediv (m+a*y) B
  refine⟨Dig.cons ⟨h5,h6⟩ i1,i2,by simp[sc,i3],?_⟩
  simp only[sc,val,List.length_cons,Int.pow_succ]
  rw[Int.mul_comm (B ^ l.length) B,Int.mul_assoc,Int.add_assoc,←Int.mul_add,i4,Int.mul_add,Int.mul_add,←Int.mul_assoc,Int.mul_comm B y,Int.mul_assoc,Int.mul_comm y a]
  omega
theorem aEt {B y c:Int}(hB:1<B)(hy:0≤y∧y≤c):∀(l:List Int) (m:Int),Dig B l→0≤m∧m≤c→(sc B y l m).2≤c
 | [],m,_,hm=>hm.2
 | a::l,m,h,hm=>by
  have h1:=h.head
  have h2:0≤a*y:=Int.mul_nonneg h1.1 hy.1
  have h3:0≤(m+a*y) / B:=Int.ediv_nonneg (by omega) (by omega)
  have h4:a*y≤(B-1)*c:=Int.le_trans (Int.mul_le_mul_of_nonneg_right (show a≤B-1 by omega) hy.1) (Int.mul_le_mul_of_nonneg_left hy.2 (by omega))
  have h5:(m+a*y) / B≤c:=by
   apply Int.ediv_le_of_le_mul (by omega)
   rw[Int.sub_mul]at h4
   rw[Int.mul_comm c B]
   omega
  exact aEt hB hy l _ h.tail ⟨h3,h5⟩
theorem xE {B:Int}(hB:1<B)(n:Nat):0<B ^ n:=Int.pow_pos (by omega)
theorem bCy {B y:Int}(hB:1<B)(hy:0≤y)(l m:List Int)(x:Int)(h:Dig B l)(hx:0≤x)(hm:Dig B m)(e:val B m=(sc B y l x).2):Dig B ((sc B y l x).1++m)∧val B ((sc B y l x).1++m)=y*val B l+x:=by
 obtain⟨i1,i2,i3,i4⟩:=wK hB hy l x h hx
 exact⟨i1.append hm,by rw[xC,i3,e,i4]⟩
theorem aCd {B:Int}(hB:1<B):∀(k:Nat) (n:Int),0≤n→n<B ^ k→(dg B n).length≤k
 | 0,n,h0,h=>by
  obtain rfl:n=0:=by simp at h; omega
  rw[gS]; exact Nat.le_refl _
 | k+1,n,h0,h=>by
  by_cases hn:n=0
  ·subst hn; rw[gS]; simp
  ·rw[aQ1 hB (by omega),List.length_cons]
   have:=aCd hB k (n / B) (Int.ediv_nonneg h0 (by omega)) (by
    apply Int.ediv_lt_of_lt_mul (by omega)
    rwa [Int.pow_succ]at h)
   omega
theorem aQ3 (n:Int):([d16 n]:List IV).length=1∧([d16 n]:List IV).all jD=true:=⟨rfl,rfl⟩
theorem aEu {α:Type}(f:α→IV)(l:List α)(a:α):one f l++[[f a]]=one f (l++[a]):=by simp[one]
theorem bG3 (m:Int):m.fdiv 65536=m / 65536:=Int.fdiv_eq_ediv_of_nonneg m (by decide)
theorem bCz {a b c d:Int}(h1:0≤a)(h2:a≤c)(h3:0≤b)(h4:b≤d):0≤a*b∧a*b≤c*d :=
 ⟨Int.mul_nonneg h1 h3,Int.le_trans (Int.mul_le_mul_of_nonneg_right h2 h3) (Int.mul_le_mul_of_nonneg_left h4 (by omega))⟩
theorem aQ4 (t:Tag)(l:List Int)(hd:Dig 65536 l)(hl:l.length≤1000000)(y:Int)(hy:0≤y∧y≤65535)(x0 x3:TV):∀(n i:Nat) (m:Int) (d:List Int) (x5 x9:TV),i+n=l.length→d.length=i→0≤m∧m≤65536 →
  ∃y5 y9,lp' (lim K) t82L0 [x0,.iv (.int .u32 y),.iv (.int .u32 m),x3,acc 0 (one d16 d),x5,.iv (.sl t (one d16 l)),.iv (.int .i64 l.length),.iv (.int .i64 i),x9] (lS 1 84 (one d16 d))=.ret (.exit 0,[x0,.iv (.int .u32 y),.iv (.int .u32 (sc 65536 y (l.drop i) m).2),x3,acc 0 (one d16 (d++(sc 65536 y (l.drop i) m).1)),y5,.iv (.sl t (one d16 l)),.iv (.int .i64 l.length),.iv (.int .i64 l.length),y9],lS 1 84 (one d16 (d++(sc 65536 y (l.drop i) m).1)))
 | 0,i,m,d,x5,x9,h,hi,hm=>by
  obtain rfl:i=l.length:=by omega
  rw[List.drop_length]
  refine⟨?_,?_,aP K _ _ t82L0.eq_1 ?_⟩
  rotate_left 2
  ·simp (disch:=omega) only[go_sem,sc,List.append_nil]
   rfl
 | n+1,i,m,d,x5,x9,h,hi,hm=>by
  have hlt:i<l.length:=by omega
  have hix:=rD d16 (t:=t) (l:=l) (i:=(i:Int)) (by omega)
  rw[Int.toNat_natCast]at hix
  have hdr:l.drop i=l.getD i default::l.drop (i+1):=by
   rw[List.drop_eq_getElem_cons hlt]; simp[List.getD,List.getElem?_eq_getElem hlt]
  have hg:0≤l.getD i default∧l.getD i default<65536:=hd _ (by rw[List.getD,List.getElem?_eq_getElem hlt]; exact List.getElem_mem hlt)
  rw[hdr]
  generalize l.getD i default=a at *
  have hp:=bCz (c:=65535) (d:=65535) hg.1 (by omega) hy.1 hy.2
  have ha:=wY (w:=1) (b:=2) (el:=84) (t:=.full) (aQ3 ((m+a*y) % 65536)) (eR.one (f:=d16) (fun _=>rfl) d) (eS (by rw[cB]; omega))
  rw[aEu]at ha
  have hm':0≤(m+a*y) / 65536∧(m+a*y) / 65536≤65536:=by omega
  obtain⟨y5,y9,ih⟩:=aQ4 t l hd hl y hy x0 x3 n (i+1) ((m+a*y) / 65536) (d++[(m+a*y) % 65536]) (.iv (.int .u16 a)) (.iv (.bool true)) (by omega) (by simp[hi]) hm'
  refine⟨y5,y9,aP K _ _ t82L0.eq_1 ?_⟩
  simp only[d16]at hix ha
  simp (config := { maxSteps := 4000000 }) (disch:=omega) only[go_sem,hix,bJ,tA,aE,ha]
  rw[List.append_assoc]at ih
  simp only[sc,List.cons_append,List.nil_append]at ih ⊢
  rw[bG3]
  exact congrArg er ih
theorem bC0 (t:Tag)(l:List Int)(hd:Dig 65536 l)(hl:l.length≤900000)(y:Int)(hy:0≤y∧y≤65535)(m:Int)(hm:0≤m∧m≤65535) :
  Pure K 82 [.iv (.sl t (one d16 l)),.iv (.int .u32 y),.iv (.int .u32 m)] (.iv (.sl (kJ ((sc 65536 y l m).1++[(sc 65536 y l m).2 % 65536])) (one d16 ((sc 65536 y l m).1++[(sc 65536 y l m).2 % 65536])))):=by
 obtain⟨y5,y9,e⟩:=aQ4 t l hd (by omega) y hy (.iv (.sl t (one d16 l))) (.iv (.sl .nil [])) l.length 0 m [] u_ u_ (by omega) rfl (by omega)
 obtain⟨h1,h2,h3,h4⟩:=wK (B:=65536) (by decide) hy.1 l m hd hm.1
 rw[List.drop_zero,List.nil_append]at e
 have ha:=wY (w:=1) (b:=2) (el:=84) (t:=.full) (aQ3 ((sc 65536 y l m).2 % 65536)) (eR.one (f:=d16) (fun _=>rfl) (sc 65536 y l m).1) (eS (by rw[cB]; omega))
 rw[aEu]at ha
 refine bP t82 rfl rfl ?_
 simp only[d16]at ha
 have e0:acc 0 (one d16 [])=.iv (.sl .nil []):=fL 0
 have e1:lS 1 84 (one d16 [])=[]:=jU 1 55
 rw[e0,e1,show ((0:Nat):Int)=0 from rfl]at e
 simp (config := { maxSteps := 4000000 }) (disch:=omega) only[t82,go_sem,e,tA,ha,dH,vR,cU]
 rw[show kJ (one d16 ((sc 65536 y l m).1++[(sc 65536 y l m).2 % 65536]))=kJ ((sc 65536 y l m).1++[(sc 65536 y l m).2 % 65536]) from tC _ _]
def scd (y:Int)(l:List Int)(m:Int):List Int:=(sc 65536 y l m).1++[(sc 65536 y l m).2 % 65536]
theorem aQ5 {y m:Int}{l:List Int}(hd:Dig 65536 l)(hy:0≤y∧y≤65535)(hm:0≤m∧m≤65535):Dig 65536 (scd y l m)∧val 65536 (scd y l m)=y*val 65536 l+m∧(scd y l m).length=l.length+1:=by
 obtain⟨i1,i2,i3,i4⟩:=wK (B:=65536) (by decide) hy.1 l m hd hm.1
 have h5:=aEt (B:=65536) (c:=65535) (by decide) hy l m hd hm
 have h6:(sc 65536 y l m).2 % 65536=(sc 65536 y l m).2:=by omega
 obtain⟨a,b⟩:=bCy (B:=65536) (by decide) hy.1 l [(sc 65536 y l m).2 % 65536] m hd hm.1 (by intro x hx; simp at hx; omega) (by simp[val]; omega)
 exact⟨a,b,by simp[scd,i3]⟩
theorem aXi (t:Tag)(l:List Int)(hd:Dig 65536 l)(hl:l.length≤900000)(y:Int)(hy:0≤y∧y≤65535)(m:Int)(hm:0≤m∧m≤65535) :
  Pure K 82 [.iv (.sl t (one d16 l)),.iv (.int .u32 y),.iv (.int .u32 m)] (.iv (.sl (kJ (scd y l m)) (one d16 (scd y l m)))):=bC0 t l hd hl y hy m hm
def dv (B y:Int):List Int→List Int×Int
 | []=>([],0)
 | a::l=>((B*(dv B y l).2+a) / y::(dv B y l).1,(B*(dv B y l).2+a) % y)
theorem aMu {l:List Int}{i:Nat}(h:i<l.length):l.drop i=l.getD i default::l.drop (i+1):=by
 rw[List.drop_eq_getElem_cons h]; simp[List.getD,List.getElem?_eq_getElem h]
theorem Dig.getD {B:Int}{l:List Int}(hd:Dig B l){i:Nat}(h:i<l.length):0≤l.getD i default∧l.getD i default<B:=hd _ (by rw[List.getD,List.getElem?_eq_getElem h]; exact List.getElem_mem h)
theorem Dig.drop {B:Int}{l:List Int}(hd:Dig B l)(i:Nat):Dig B (l.drop i):=fun x hx=>hd x (List.mem_of_mem_drop hx)
theorem blB (b:UInt8):b.toNat<256:=b.toNat_lt
def isD (c:UInt8):Bool:=decide (48≤(c.toNat:Int))&&decide ((c.toNat:Int)≤57)
def dgt (c:UInt8):Int:=(c.toNat:Int)-48
def dec (s:List UInt8):Int:=val 10 (s.reverse.map dgt)
theorem aQ6 {s:List UInt8}{i:Nat}(h:i<s.length):s.drop i=s.getD i 0::s.drop (i+1):=by
 rw[List.drop_eq_getElem_cons h]; simp[List.getD,List.getElem?_eq_getElem h]
def aH8:List UInt8→Bool
 | c::_=>decide ((c.toNat:Int)=45)
 | []=>false
def bFl:List UInt8→Bool
 | c::_=>decide ((c.toNat:Int)=43)
 | []=>false
def first (s:List UInt8):Nat:=if aH8 s||bFl s then 1 else 0
def body (s:List UInt8):List UInt8:=s.drop (first s)
def okP (s:List UInt8):Bool:=decide (body s≠[])&&(body s).all isD
theorem aLf {s:List UInt8}(h:s.all isD=true):Dig 10 (s.reverse.map dgt):=by
 intro x hx
 obtain⟨c,hc,rfl⟩:=List.mem_map.1 hx
 have:=List.all_eq_true.1 h c (List.mem_reverse.1 hc)
 simp only[isD,Bool.and_eq_true,decide_eq_true_eq]at this
 simp only[dgt]; omega
theorem mP {s:List UInt8}(h:s.all isD=true):0≤dec s:=iQ (by decide) (aLf h)
theorem bG4 (c:UInt8)(r:List UInt8)(kd:IntKind):vN (.iv (.str (c::r))) (.iv (.int kd 0))=some (.iv (.int .u8 c.toNat)):=zW (s:=c::r) (i:=0) (by simp)
def isS (c:UInt8):Bool:=decide ((c.toNat:Int)=43)||decide ((c.toNat:Int)=45)
def kA:List IV:=(List.range 256).map fun n=>.bool (n==43||n==45)
theorem bFm:(ex K 60).call 106 [.iv (.str [43,45])] []=.ret (.tup [.iv (.agg kA),.iv (.bool true)],[]):=by kernel_rfl
theorem aXj:(lim K).call 106 [.iv (.str [43,45])] []=.ret (.tup [.iv (.agg kA),.iv (.bool true)],[]):=aTm bFm
theorem tK:kA.length=256:=by simp[kA]
theorem aMv (n:Nat)(h:n<256):kA[n]? = some (.bool (n==43||n==45)):=by simp[kA,h]
theorem bC1 (c:UInt8):isS c=(c.toNat==43||c.toNat==45):=by
 rw[Bool.eq_iff_iff]; simp[isS]; omega
theorem aXk (c:UInt8)(b:Bool)(S:aA)(j:Nat)(h:S[j]? = some (.cells 173 b (kA.map TV.iv))):(lim K).call 129 [.ptr j 173 0,.iv (.int .u8 c.toNat)] S=.ret (.iv (.bool (isS c)),S):=by
 have hb:=blB c
 have hbl:blK 173 (0+(c.toNat:Int).toNat*1) 1 (S[j]?)=some [.iv (.bool (isS c))]:=by
  rw[h]
  show (if (173:Nat)=173 then sub (kA.map TV.iv) (0+(c.toNat:Int).toNat*1) 1 else none)=_
  have hlt:c.toNat<(kA.map TV.iv).length:=by rw[List.length_map,tK]; exact hb
  have e:(kA.map TV.iv)[c.toNat]? = some (.iv (.bool (isS c))):=by
   rw[List.getElem?_map,aMv _ hb,bC1]; rfl
  rw[List.getElem?_eq_getElem hlt]at e
  simp only[↓reduceIte,Int.toNat_natCast,Nat.zero_add,Nat.mul_one,sub,show c.toNat+1≤(kA.map TV.iv).length from hlt]
  rw[List.drop_eq_getElem_cons hlt]
  simp only[List.take_succ_cons,List.take_zero]
  rw[Option.some.inj e]
 refine aD K _ (fn:=t129) rfl rfl ?_
 simp (config := { maxSteps := 4000000 }) (disch:=omega) only[t129,go_sem,hbl]
def cV:List UInt8→List UInt8
 | []=>[]
 | c::r=>if isS c then cV r else c::r
theorem aLg (b:Bool)(S:aA)(j:Nat)(h:S[j]? = some (.cells 173 b (kA.map .iv)))(x2:TV):∀(s:List UInt8) (x3 x4:TV),s.length≤1000→∃y3 y4,lp' (lim K) t107L0 [.iv (.str s),.ptr j 173 0,x2,x3,x4] S=.ret (.exit 0,[.iv (.str (cV s)),.ptr j 173 0,x2,y3,y4],S)
 | [],x3,x4,hl=>by
  refine⟨?_,?_,aP K _ _ t107L0.eq_1 ?_⟩
  rotate_left 2
  ·simp (disch:=omega) only[go_sem,List.length_nil,cV]
   rfl
 | c::r,x3,x4,hl=>by
  have h80:=aXk c b S j h
  have hix:=bG4 c r
  have hlen:(c::r).length=r.length+1:=rfl
  have hsl:=tB S (s:=c::r) (a:=1) (by rw[hlen]; omega)
  rw[show (1:Int).toNat=1 from rfl,List.drop_succ_cons,List.drop_zero]at hsl
  by_cases hc:isS c=true
  ·obtain⟨y3,y4,ih⟩:=aLg b S j h x2 r (.iv (.bool true)) (.iv (.bool false)) (by rw[hlen]at hl; omega)
   refine⟨y3,y4,aP K _ _ t107L0.eq_1 ?_⟩
   rw[hc]at h80
   simp only[cV,hc,↓reduceIte]
   simp (config := { maxSteps := 4000000 }) (disch:=omega) only[go_sem,hlen,Int.natCast_add,Int.cast_ofNat_Int,hix,h80,hsl]
   exact congrArg er ih
  ·simp only[cV,hc,Bool.false_eq_true,↓reduceIte]
   rw[Bool.not_eq_true]at hc
   rw[hc]at h80
   refine⟨?_,?_,aP K _ _ t107L0.eq_1 ?_⟩
   rotate_left 2
   ·simp (config := { maxSteps := 4000000 }) (disch:=omega) only[go_sem,hlen,Int.natCast_add,Int.cast_ofNat_Int,hix,h80,hsl]
    rfl
theorem aXl (b:Bool)(S:aA)(j:Nat)(h:S[j]? = some (.cells 173 b (kA.map .iv)))(s:List UInt8)(hl:s.length≤1000):(lim K).call 107 [.iv (.str s),.ptr j 173 0] S=.ret (.iv (.str (cV s)),S):=by
 obtain⟨y3,y4,e⟩:=aLg b S j h (.iv (.str [])) s u_ u_ hl
 refine aD K _ (fn:=t107) rfl rfl ?_
 simp (config := { maxSteps := 4000000 }) (disch:=omega) only[t107,go_sem,e]
theorem bC2 (s:List UInt8)(hl:s.length≤1000):Pure K 80 [.iv (.str s),.iv (.str [43,45])] (.iv (.str (cV s))):=by
 cases s with
 | nil =>
  refine bP t80 rfl rfl ?_
  simp (config := { maxSteps := 4000000 }) (disch:=omega) only[t80,go_sem,cV,dH,cU]
 | cons c r =>
  have h64:=aXj
  have hne:(c::r==([]:List UInt8))=false:=rfl
  have hne2:([43,45]==([]:List UInt8))=false:=rfl
  refine bP t80 rfl rfl ?_
  simp (config := { maxSteps := 4000000 }) (disch:=omega) only[t80,go_sem,h64,hne,hne2,List.length_cons,List.length_nil,dH,cU]
  rw[List.drop_of_length_le (by rw[Nat.zero_add,List.length_map,tK]; exact Nat.le_refl 256)]
  have hany:(List.map TV.iv kA).any bL=false:=wX (by kernel_rfl)
  have hle:(List.map TV.iv kA).length=256:=by rw[List.length_map,tK]
  have h65:=aXl false [.cells 173 false (kA.map TV.iv)] 0 rfl (c::r) hl
  simp (config := { maxSteps := 4000000 }) (disch:=omega) only[go_sem,hle,hany,Bool.false_eq_true,List.append_nil,h65,dH,cU]
def xF (v:Int):List UInt8→Int
 | []=>v
 | c::r=>xF (10*v+dgt c) r
theorem aQ7 (p:List UInt8)(c:UInt8):dec (p++[c])=10*dec p+dgt c:=by
 simp[dec,val]; omega
theorem aEv:∀(l p:List UInt8),xF (dec p) l=dec (p++l)
 | [],p=>by simp[xF]
 | c::r,p=>by
  rw[xF,←aQ7,aEv r,List.append_assoc]; rfl
theorem aMw (l:List UInt8):xF 0 l=dec l:=aEv l []
theorem aQ8 (s b:List UInt8)(hl:b.length≤1000)(t:Tag)(x3 x6:TV)(S:aA):∀(k i:Nat) (v:Int) (tg:Tag) (x5 x10 x11:TV),i+k=b.length→0≤v→(dg 65536 v).length≤i→cF tg (dg 65536 v) →
  ∃tg' y4 y5 y9 y10 y11,cF tg' (dg 65536 (xF v (b.drop i)))∧((b.drop i).all isD=true→(dg 65536 (xF v (b.drop i))).length≤b.length)∧lp' (lim K) t54L0 [.iv (.str s),.lb [.iv (.bool false),.iv (.sl .nil [])],.iv (.int .i64 0),x3,.iv (.sl tg (one d16 (dg 65536 v))),x5,x6,.iv (.sl t (aF b)),.iv (.int .i64 b.length),.iv (.int .i64 i),x10,x11] S
   = .ret (if (b.drop i).all isD then (.exit 0,[.iv (.str s),.lb [.iv (.bool false),.iv (.sl .nil [])],.iv (.int .i64 0),x3,.iv (.sl tg' (one d16 (dg 65536 (xF v (b.drop i))))),y5,x6,.iv (.sl t (aF b)),.iv (.int .i64 b.length),.iv (.int .i64 b.length),y10,y11],S)
    else (.ret,[.iv (.str s),.lb [.iv (.bool false),.iv (.sl .nil [])],.iv (.int .i64 4),x3,y4,y5,x6,.iv (.sl t (aF b)),.iv (.int .i64 b.length),y9,y10,y11],S))
 | 0,i,v,tg,x5,x10,x11,h,h0,hn,ht=>by
  obtain rfl:i=b.length:=by omega
  rw[List.drop_length]
  refine⟨tg,.hole,?_,.hole,?_,?_,ht,fun _=>hn,aP K _ _ t54L0.eq_1 ?_⟩
  rotate_left 3
  ·simp only[List.all_nil,↓reduceIte,xF]
   simp (disch:=omega) only[go_sem]
   rfl
 | k+1,i,v,tg,x5,x10,x11,h,h0,hn,ht=>by
  have hix:=aWk (t:=t) (l:=b) (i:=(i:Int)) (by omega)
  rw[Int.toNat_natCast]at hix
  have hd:=aQ6 (s:=b) (i:=i) (by omega)
  rw[hd]
  have hb:=blB (b.getD i 0)
  have ih:=aQ8 s b hl t x3 x6 S k (i+1)
  generalize b.getD i 0=c at *
  rw[List.all_cons]
  simp only[xF]
  by_cases hc:isD c=true
  ·have hc':=hc
   simp only[isD,Bool.and_eq_true,decide_eq_true_eq]at hc'
   obtain⟨s1,s2,s3⟩:=aQ5 (y:=10) (m:=dgt c) (l:=dg 65536 v) (qI (by decide) h0) (by decide) (by simp only[dgt]; omega)
   rw[tJ (by decide) h0]at s2
   have h41:=aXi tg (dg 65536 v) (qI (by decide) h0) (by omega) 10 (by decide) (dgt c) (by simp only[dgt]; omega)
   obtain⟨t',r1,r2⟩:=aH7 (kJ (scd 10 (dg 65536 v) (dgt c))) (scd 10 (dg 65536 v) (dgt c)) (nG _) (by omega)
   have hlen:=aH5 (scd 10 (dg 65536 v) (dgt c))
   rw[bB1 (by decide) s1,s2]at r1 r2 hlen
   obtain⟨tg',y4,y5,y9,y10,y11,q1,q2,ih⟩:=ih (10*v+dgt c) t' (.iv (.int .u8 c.toNat)) (.iv (.bool true)) (.iv (.bool false)) (by omega) (by simp only[dgt]; omega) (by omega) r1
   refine⟨tg',y4,y5,y9,y10,y11,q1,by rw[hc,Bool.true_and]; exact q2,aP K _ _ t54L0.eq_1 ?_⟩
   rw[hc,Bool.true_and]
   generalize ((b.drop (i+1)).all isD)=A at *
   generalize xF (10*v+dgt c) (b.drop (i+1))=w at *
   generalize scd 10 (dg 65536 v) (dgt c)=E at *
   generalize dg 65536 (10*v+dgt c)=F at *
   simp only[dgt]at h41
   simp (config := { maxSteps := 4000000 }) (disch:=omega) only[go_sem,hix,aE,lI,bJ,aJ h41,r2]
   exact congrArg er ih
  ·have hcf:isD c=false:=by simpa using hc
   rw[hcf,Bool.false_and]
   simp only[isD,Bool.and_eq_true,decide_eq_true_eq]at hc
   simp only[Bool.false_eq_true,↓reduceIte]
   by_cases h48:(c.toNat:Int)<48
   ·refine⟨kJ _,?_,?_,?_,?_,?_,nG _,fun q=>q.elim,aP K _ _ t54L0.eq_1 ?_⟩
    rotate_left 5
    ·simp (config := { maxSteps := 4000000 }) (disch:=omega) only[go_sem,hix,h48,aE]
     rfl
   ·refine⟨kJ _,?_,?_,?_,?_,?_,nG _,fun q=>q.elim,aP K _ _ t54L0.eq_1 ?_⟩
    rotate_left 5
    ·simp (config := { maxSteps := 4000000 }) (disch:=omega) only[go_sem,hix,h48,aE]
     rfl
theorem lU:∀(s:List UInt8),(cV s).length≤s.length
 | []=>Nat.le_refl _
 | c::r=>by
  have:=lU r
  unfold cV; split<;>simp<;>omega
theorem aXm {c:UInt8}(h:isD c=true):isS c=false:=by
 simp only[isD,Bool.and_eq_true,decide_eq_true_eq]at h
 simp only[isS,Bool.or_eq_false_iff,decide_eq_false_iff_not]; omega
theorem mQ (c:UInt8)(r:List UInt8):first (c::r)=if isS c then 1 else 0:=by
 have:(aH8 (c::r)||bFl (c::r))=isS c:=by rw[Bool.or_comm]; rfl
 rw[first,this]
theorem aA3 {s:List UInt8}(h:(cV s).length=s.length):cV s=s:=by
 cases s with
 | nil=>rfl
 | cons c r =>
  by_cases hc:isS c=true
  ·have:=lU r
   simp[cV,hc]at h; omega
  ·simp[cV,hc]
theorem aLh (s:List UInt8):okP s=true↔(s.length-(cV s).length≤1∧cV s≠[]∧(cV s).all isD=true):=by
 cases s with
 | nil=>simp[okP,body,cV]
 | cons c r =>
  have hl:=lU r
  by_cases hc:isS c=true
  ·have hb:body (c::r)=r:=by rw[body,mQ,hc]; rfl
   have ht:cV (c::r)=cV r:=by simp[cV,hc]
   rw[okP,hb,ht]
   simp only[Bool.and_eq_true,decide_eq_true_eq,List.length_cons]
   constructor
   ·rintro⟨h1,h2⟩
    have:cV r=r:=by
     cases r with
     | nil=>rfl
     | cons d q =>
      have hd:isD d=true:=by simp only[List.all_cons,Bool.and_eq_true]at h2; exact h2.1
      simp[cV,aXm hd]
    rw[this]; exact⟨by omega,h1,h2⟩
   ·rintro⟨h1,h2,h3⟩
    have:cV r=r:=aA3 (by omega)
    rw[this]at h2 h3; exact⟨h2,h3⟩
  ·have hb:body (c::r)=c::r:=by rw[body,mQ]; simp[hc]
   have ht:cV (c::r)=c::r:=by simp[cV,hc]
   rw[okP,hb,ht]
   simp
theorem aMx {s:List UInt8}(h:okP s=true):body s=cV s:=by
 have h':=(aLh s).1 h
 cases s with
 | nil=>rfl
 | cons c r =>
  by_cases hc:isS c=true
  ·have ht:cV (c::r)=cV r:=by simp[cV,hc]
   have hl:=lU r
   rw[ht,List.length_cons]at h'
   rw[body,mQ,hc,ht,aA3 (show (cV r).length=r.length by omega)]; rfl
  ·rw[body,mQ]; simp[hc,cV]
set_option maxHeartbeats 4000000 in
theorem bC3 (s:List UInt8)(hl:s.length≤1000) :
  ∃t',cF t' (dg 65536 (dec (body s)))∧Pure K 54 [.iv (.str s)] (if okP s then .tup [.iv (num (sg (aH8 s) (dg 65536 (dec (body s)))) t' (dg 65536 (dec (body s)))),.iv (.int .i64 0)] else .tup [.iv (num false .nil []),.iv (.int .i64 4)]):=by
 have h39:=bC2 s hl
 have htl:=lU s
 have e2:one d16 []=[]:=rfl
 have hok:=aLh s
 by_cases h1:s.length-(cV s).length≤1
 ·by_cases h2:cV s=[]
  ·have hno:¬okP s=true:=by rw[hok]; simp[h2]
   refine⟨kJ _,nG _,bP t54 rfl rfl ?_⟩
   rw[if_neg hno]
   have hb:(cV s==([]:List UInt8))=true:=by rw[h2]; rfl
   have hgt:¬((s.length:Int)-(cV s).length>1):=by omega
   simp (config := { maxSteps := 4000000 }) (disch:=omega) only[t54,go_sem,aJ h39,aE,hgt,hb,num,e2,dH,cU]
  ·have hb:(cV s==([]:List UInt8))=false:=by simpa using h2
   have hne:s≠[]:=by intro e; rw[e]at h2; exact h2 rfl
   have hgt:¬((s.length:Int)-(cV s).length>1):=by omega
   have hsb:vN (.iv (.str s)) (.iv (.int .i64 0))=some (.iv (.int .u8 (s.getD 0 0).toNat)):=zW (s:=s) (i:=0) (by have:=List.length_pos_iff.2 hne; omega)
   have hneg:aH8 s=(((s.getD 0 0).toNat:Int)==45):=by cases s with
    | nil=>exact absurd rfl hne
    | cons c r=>rw[Bool.eq_iff_iff]; simp[aH8]
   have key:=fun t=>aQ8 s (cV s) (by omega) t (.iv (.str (cV s))) (.iv (.bool false)) [] (cV s).length 0 0 .nil u_ u_ u_ (by omega) (by decide) (by rw[gS]; exact Nat.le_refl _) (by rw[gS]; exact cF.nil)
   simp only[List.drop_zero,aMw]at key
   rw[gS]at key
   by_cases h3:(cV s).all isD=true
   ·have hyes:okP s=true:=hok.2 ⟨h1,h2,h3⟩
    have hbt:=aMx hyes
    obtain⟨tg',y4,y5,y9,y10,y11,q1,q2,e⟩:=key .no
    simp only[h3,↓reduceIte]at e
    have h0:=mP h3
    obtain⟨t',r1,r2⟩:=bCx (aH8 s) tg' (dg 65536 (dec (cV s))) q1 (by have:=q2 h3; omega)
    rw[bB0 (by decide) h0]at r1 r2
    rw[hbt]
    refine⟨t',r1,bP t54 rfl rfl ?_⟩
    rw[if_pos hyes]
    rw[hneg]at r2 ⊢
    rw[e2,show ((0:Nat):Int)=0 from rfl]at e
    simp only[num]at r2 ⊢
    simp (config := { maxSteps := 4000000 }) (disch:=omega) only[t54,go_sem,aJ h39,aE,hgt,hb,hsb,e,aJ r2,dH,cU]
   ·have hno:¬okP s=true:=by rw[hok]; simp[h3]
    obtain⟨tg',y4,y5,y9,y10,y11,q1,q2,e⟩:=key .no
    rw[if_neg h3]at e
    refine⟨kJ _,nG _,bP t54 rfl rfl ?_⟩
    rw[if_neg hno]
    rw[e2,show ((0:Nat):Int)=0 from rfl]at e
    simp (config := { maxSteps := 4000000 }) (disch:=omega) only[t54,go_sem,aJ h39,aE,hgt,hb,hsb,e,num,e2,dH,cU]
 ·have hno:¬okP s=true:=by rw[hok]; simp[h1]
  refine⟨kJ _,nG _,bP t54 rfl rfl ?_⟩
  rw[if_neg hno]
  simp (config := { maxSteps := 4000000 }) (disch:=omega) only[t54,go_sem,aJ h39,aE,num,e2,dH,cU]
def sm (a b:List Int):Nat→Nat→Int→List Int×Int
 | 0,_,c=>([],c)
 | n+1,i,c=>((c+(a.getD i default+b.getD i default)) % 65536::(sm a b n (i+1) ((c+(a.getD i default+b.getD i default)) / 65536)).1,(sm a b n (i+1) ((c+(a.getD i default+b.getD i default)) / 65536)).2)
theorem aLi {B:Int}(hB:1<B){n m:Nat}(h:n≤m):B ^ n≤B ^ m:=by
 obtain⟨k,rfl⟩:=Nat.le.dest h
 rw[Int.pow_add]
 have h1:=xE hB n
 have h2:=xE hB k
 have:=Int.mul_le_mul_of_nonneg_left (show 1≤B ^ k by omega) (Int.le_of_lt h1)
 omega
def ls (a b:List Int):Nat→Nat→Int→List Int×Int
 | 0,_,c=>([],c)
 | n+1,i,c=>((65536+a.getD i default-b.getD i default-c) % 65536::(ls a b n (i+1) (1-(65536+a.getD i default-b.getD i default-c) / 65536)).1,(ls a b n (i+1) (1-(65536+a.getD i default-b.getD i default-c) / 65536)).2)
def sv (neg:Bool)(v:Int):Int:=if neg then -v else v
def bg (t:Tag)(z:Int):IV:=num (decide (z<0)) t (dg 65536 z.natAbs)
theorem bFn {B:Int}(hB:1<B)(neg:Bool){v:Int}(h:0≤v):sg neg (dg B v)=decide (sv neg v<0):=by
 have e1:(0<(dg B v).length)↔v≠0:=by rw[List.length_pos_iff,ne_eq,aQ2 hB h]
 cases neg
 ·simp[sg,sv]; omega
 ·simp only[sg,e1,sv,Bool.true_and,if_true]
  exact decide_eq_decide.2 (by omega)
theorem aH9 (neg:Bool){v:Int}(h:0≤v):((sv neg v).natAbs:Int)=v:=by
 cases neg<;>simp[sv]<;>omega
theorem bFo (z:Int):sv (decide (z<0)) (z.natAbs:Int)=z:=by
 by_cases h:z<0<;>simp[sv,h]<;>omega
theorem bC4 {neg:Bool}{t:Tag}{v:Int}(h:0≤v):num (sg neg (dg 65536 v)) t (dg 65536 v)=bg t (sv neg v):=by
 rw[bg,aH9 neg h,bFn (by decide) neg h]
def aXn:aL:=(.region [⟨.mov (.loc 10),(some 6),none⟩])
def aXo:aL:=(.block 1
  (.region [⟨.load1 (.loc 5),none,none⟩,⟨.bin .shl (.reg 0) (.cst (.int .u64 16)),none,none⟩,⟨.mov (.loc 6),none,none⟩,⟨.conv (.toInt .u64) (.reg 2),none,none⟩,⟨.bin .or (.reg 1) (.reg 3),none,none⟩,⟨.store 1 (.loc 5) (.reg 4),none,none⟩]))
def rJ (t:Tag)(l:List Int)(E:Env)(w:Int):aA:=[.cells 159 false [.iv (.int .u64 w)],.cells 69 false [.iv (.sl t (one d16 l))],.lp .ready none E [9,10] aXn aXo]
def qJ (x0 x2 x3 x4 x6 x7 x8 x9 x10 x11 x12:TV):Env:=[x0,.hole,x2,x3,x4,.ptr 0 159 0,x6,x7,x8,x9,x10,x11,x12]
theorem aMy {r:Int}(h:0≤r∧r≤281474976710655):IntKind.u64.wrap (r*65536)=r*65536:=sZ (by omega)
theorem aQ9 {r a:Int}(hr:0≤r∧r≤281474976710655)(ha:0≤a∧a≤65535):IntKind.u64.wrap (bOr 64 (r*65536) a)=65536*r+a:=by
 have h:=aEb (w:=64) (k:=16) (a:=r*65536) (b:=a) (by omega) (by omega) (by decide) (by omega)
 unfold bOr
 rw[h,sZ (by omega)]
 omega
theorem bFp (t:Tag)(l:List Int)(x0 x2 x3 x4 x6 x7 x8 x9 x10 x11 x12:TV)(w k a:Int)(hw:0≤w∧w≤281474976710655)(ha:0≤a∧a≤65535) :
  (lim K).yld 2 [.iv (.int .i64 k),.iv (.int .u16 a)] (rJ t l (qJ x0 x2 x3 x4 x6 x7 x8 x9 x10 x11 x12) w)=.ret (.iv (.bool true),rJ t l (qJ x0 x2 x3 x4 x6 x7 x8 x9 x10 x11 x12) (65536*w+a)):=by
 have h1:=aMy hw
 have h2:=aQ9 hw ha
 have hm:0≤65536*w+a:=by omega
 refine aAc (env2:=[x0,.hole,x2,x3,x4,.ptr 0 159 0,.iv (.int .u16 a),x7,x8,.iv (.int .i64 k),.iv (.int .u16 a),x11,x12]) (env3:=[x0,.hole,x2,x3,x4,.ptr 0 159 0,.iv (.int .u16 a),x7,x8,.iv (.int .i64 k),.iv (.int .u16 a),x11,x12]) (S1:=rJ t l (qJ x0 x2 x3 x4 x6 x7 x8 x9 x10 x11 x12) w) (S2:=[.cells 159 false [.iv (.int .u64 (65536*w+a))],.cells 69 false [.iv (.sl t (one d16 l))],.lp .busy none (qJ x0 x2 x3 x4 x6 x7 x8 x9 x10 x11 x12) [9,10] aXn aXo]) rfl rfl ?_ rfl ?_ rfl
 ·simp (config := { maxSteps := 4000000 }) (disch:=omega) only[rJ,aXn,qJ,go_sem]
 ·simp (config := { maxSteps := 4000000 }) (disch:=omega) only[rJ,aXo,qJ,go_sem,h1,h2,sZ,gP,fU,vQ]
theorem aLj (t:Tag)(l:List Int)(hd:Dig 65536 l)(hl:l.length≤4)(x0 x2 x3 x4 x6 x7 x8 x9 x10 x11 x12:TV):∀(k:Nat) (y3 y4:TV),k≤l.length →
  ∃z3 z4,lp' (lim K) t139L0 [.yld 2,.ptr 1 69 0,.iv (.int .i64 ((k:Int)-1)),y3,y4] (rJ t l (qJ x0 x2 x3 x4 x6 x7 x8 x9 x10 x11 x12) (val 65536 (l.drop k)))=.ret (.exit 0,[.yld 2,.ptr 1 69 0,.iv (.int .i64 (-1)),z3,z4],rJ t l (qJ x0 x2 x3 x4 x6 x7 x8 x9 x10 x11 x12) (val 65536 l))
 | 0,y3,y4,h=>by
  refine⟨?_,?_,aP K _ _ t139L0.eq_1 ?_⟩
  rotate_left 2
  ·rw[List.drop_zero]
   simp (disch:=omega) only[go_sem]
   rfl
 | k+1,y3,y4,h=>by
  have hlt:k<l.length:=by omega
  have hix:=rD d16 (t:=t) (l:=l) (i:=(k:Int)) (by omega)
  rw[Int.toNat_natCast]at hix
  have hg:=hd.getD hlt
  have hdr:=aMu hlt
  have hb:val 65536 (l.drop (k+1))<65536 ^ (l.drop (k+1)).length:=xD (by decide) (hd.drop (k+1))
  have hb2:(65536:Int) ^ (l.drop (k+1)).length≤65536 ^ 3:=aLi (by decide) (by simp; omega)
  have hn1:0≤val 65536 (l.drop (k+1)):=iQ (by decide) (hd.drop (k+1))
  obtain⟨z3,z4,ih⟩:=aLj t l hd hl x0 x2 x3 x4 x6 x7 x8 x9 x10 x11 x12 k (.iv (.bool true)) (.iv (.bool false)) (by omega)
  have e:val 65536 (l.drop k)=65536*val 65536 (l.drop (k+1))+l.getD k default:=by rw[hdr]; simp only[val]; omega
  rw[e]at ih
  refine⟨z3,z4,aP K _ _ t139L0.eq_1 ?_⟩
  have e1:((k:Int)+1-1)=k:=by omega
  have hb3:val 65536 (l.drop (k+1))<281474976710656:=Int.lt_of_lt_of_le hb (by simpa using hb2)
  have hy:=bFp t l x0 x2 x3 x4 x6 x7 x8 x9 x10 x11 x12 (val 65536 (l.drop (k+1))) k (l.getD k default) (by omega) (by omega)
  simp only[d16]at hix
  generalize l.getD k default=a at *
  generalize val 65536 (l.drop (k+1))=w at *
  have hc:∀env,bH env (rJ t l (qJ x0 x2 x3 x4 x6 x7 x8 x9 x10 x11 x12) w) (.ptr 1 69 0) 1=some [.iv (.sl t (one d16 l))]:=fun _=>rfl
  generalize rJ t l (qJ x0 x2 x3 x4 x6 x7 x8 x9 x10 x11 x12) w=Sw at *
  simp (config := { maxSteps := 4000000 }) (disch:=omega) only[go_sem,Int.natCast_add,Int.cast_ofNat_Int,e1,hc,hix,aE,hy,er_ret]
  exact congrArg er ih
theorem aXp (t:Tag)(l:List Int)(hd:Dig 65536 l)(hl:l.length≤4)(x0 x2 x3 x4 x6 x7 x8 x9 x10 x11 x12:TV) :
  (lim K).call 139 [.yld 2,.ptr 1 69 0] (rJ t l (qJ x0 x2 x3 x4 x6 x7 x8 x9 x10 x11 x12) 0)=.ret (u_,rJ t l (qJ x0 x2 x3 x4 x6 x7 x8 x9 x10 x11 x12) (val 65536 l)):=by
 obtain⟨z3,z4,e⟩:=aLj t l hd hl x0 x2 x3 x4 x6 x7 x8 x9 x10 x11 x12 l.length u_ u_ (Nat.le_refl _)
 rw[List.drop_length,show val 65536 []=0 from rfl]at e
 refine aD K _ (fn:=t139) rfl rfl ?_
 have hc:∀env,bH env (rJ t l (qJ x0 x2 x3 x4 x6 x7 x8 x9 x10 x11 x12) 0) (.ptr 1 69 0) 1=some [.iv (.sl t (one d16 l))]:=fun _=>rfl
 generalize rJ t l (qJ x0 x2 x3 x4 x6 x7 x8 x9 x10 x11 x12) 0=Sw at *
 simp (config := { maxSteps := 4000000 }) (disch:=omega) only[t139,go_sem,hc,cB,aE,e]
def fit (z:Int):Bool:=decide (-9223372036854775808≤z∧z≤9223372036854775807)
def kL (z:Int):TV:=.tup [.iv (.int .i64 (if fit z then z else 0)),.iv (.bool (fit z))]
theorem aXq {m:Int}(h:0≤m∧m≤9223372036854775808):IntKind.i64.wrap (IntKind.u64.wrap (0-m)) = -m:=by
 rw[aD5]
 unfold IntKind.wrap
 simp[IntKind.bits,IntKind.signed]
 omega
theorem aXr (t:Tag)(l:List Int)(w:Int):(lim K).call 125 [.iv (.sl t (one d16 l))] [.cells 159 false [.iv (.int .u64 w)]]=.ret (.fn 139 [] [.ptr 1 69 0],[.cells 159 false [.iv (.int .u64 w)],.cells 69 false [.iv (.sl t (one d16 l))]]):=by
 refine aD K _ (fn:=t125) rfl rfl ?_
 simp (config := { maxSteps := 4000000 }) (disch:=omega) only[t125,go_sem]
theorem aXs (neg:Bool)(t:Tag)(l:List Int)(ht:cF t l)(hd:Dig 65536 l)(hl:l.length≤1000000):Pure K 100 [.iv (num neg t l)] (kL (sv neg (val 65536 l))):=by
 obtain⟨t',h1,h40⟩:=aH7 t l ht hl
 have hv:=iQ (by decide) hd
 have hlen:=aH5 l
 rw[bB1 (by decide) hd]at h1 h40 hlen
 have hdd:=qI (B:=65536) (n:=val 65536 l) (by decide) hv
 have hvd:=tJ (B:=65536) (n:=val 65536 l) (by decide) hv
 generalize val 65536 l=v at *
 simp only[num]
 refine bP t100 rfl rfl ?_
 by_cases h4:(dg 65536 v).length≤4
 ·have hb:v<65536 ^ (dg 65536 v).length:=by have:=xD (B:=65536) (by decide) hdd; rwa [hvd]at this
  have hb2:(65536:Int) ^ (dg 65536 v).length≤65536 ^ 4:=aLi (by decide) h4
  have hb3:v<18446744073709551616:=Int.lt_of_lt_of_le hb (by simpa using hb2)
  have h75:=aXp t' (dg 65536 v) hdd h4
  rw[hvd]at h75
  have h52:=aXr t' (dg 65536 v) 0
  have hu:IntKind.u64.wrap v=v:=sZ (by omega)
  generalize dg 65536 v=D at *
  simp only[rJ,qJ,aXn,aXo]at h75
  cases neg
  ·by_cases hf:v≤9223372036854775807
   ·have hs:kL (sv false v)=.tup [.iv (.int .i64 v),.iv (.bool true)]:=by
     have:fit v=true:=decide_eq_true (by omega)
     simp[kL,sv,this]
    rw[hs]
    simp (config := { maxSteps := 4000000 }) (disch:=omega) only[t100,go_sem,h40,h52,h75,er_ret,aE,cB,dH,cU]
   ·have hs:kL (sv false v)=.tup [.iv (.int .i64 0),.iv (.bool false)]:=by
     have:fit v=false:=decide_eq_false (by omega)
     simp[kL,sv,this]
    rw[hs]
    simp (config := { maxSteps := 4000000 }) (disch:=omega) only[t100,go_sem,h40,h52,h75,er_ret,aE,cB,dH,cU]
  ·by_cases hf:v≤9223372036854775808
   ·have hs:kL (sv true v)=.tup [.iv (.int .i64 (-v)),.iv (.bool true)]:=by
     have:fit (-v)=true:=decide_eq_true (by omega)
     simp[kL,sv,this]
    have hng:=aXq (m:=v) (by omega)
    rw[hs]
    simp (config := { maxSteps := 4000000 }) (disch:=omega) only[t100,go_sem,h40,h52,h75,er_ret,hng,aE,cB,dH,cU]
   ·have hs:kL (sv true v)=.tup [.iv (.int .i64 0),.iv (.bool false)]:=by
     have:fit (-v)=false:=decide_eq_false (by omega)
     simp[kL,sv,this]
    rw[hs]
    simp (config := { maxSteps := 4000000 }) (disch:=omega) only[t100,go_sem,h40,h52,h75,er_ret,aE,cB,dH,cU]
 ·have hbig:18446744073709551616≤v:=by
   rcases Int.lt_or_le v 18446744073709551616 with g|g
   ·exact absurd (aCd (by decide) 4 v hv (by simpa using g)) h4
   ·exact g
  have hs:kL (sv neg v)=.tup [.iv (.int .i64 0),.iv (.bool false)]:=by
   cases neg
   ·have:fit v=false:=decide_eq_false (by omega)
    simp[kL,sv,this]
   ·have:fit (-v)=false:=decide_eq_false (by omega)
    simp[kL,sv,this]
  rw[hs]
  generalize dg 65536 v=D at *
  simp (config := { maxSteps := 4000000 }) (disch:=omega) only[t100,go_sem,h40,aE,cB,dH,cU]
def aXt (z:Int):TV:=.tup [.iv (.int .i64 (if decide (-536870912≤z∧z≤536870911) then z else 0)),.iv (.bool (decide (-536870912≤z∧z≤536870911)))]
theorem bC5 (neg:Bool)(t:Tag)(l:List Int)(ht:cF t l)(hd:Dig 65536 l)(hl:l.length≤1000000):Pure K 74 [.iv (num neg t l)] (aXt (sv neg (val 65536 l))):=by
 have h21:=aXs neg t l ht hd hl
 generalize sv neg (val 65536 l)=z at *
 refine bP t74 rfl rfl ?_
 simp only[num]at h21 ⊢
 by_cases hf:-536870912≤z∧z≤536870911
 ·have e1:fit z=true:=decide_eq_true (by omega)
  simp only[kL,e1,↓reduceIte]at h21
  simp only[aXt,decide_eq_true hf,↓reduceIte]
  simp (config := { maxSteps := 4000000 }) (disch:=omega) only[t74,go_sem,aJ h21,dH,cU]
 ·simp only[aXt,decide_eq_false hf,Bool.false_eq_true,↓reduceIte]
  by_cases e1:fit z=true
  ·simp only[kL,e1,↓reduceIte]at h21
   by_cases hlo:z < -536870912
   ·simp (config := { maxSteps := 4000000 }) (disch:=omega) only[t74,go_sem,aJ h21,dH,cU]
   ·simp (config := { maxSteps := 4000000 }) (disch:=omega) only[t74,go_sem,aJ h21,dH,cU]
  ·have e2:fit z=false:=by simpa using e1
   simp only[kL,e2,Bool.false_eq_true,↓reduceIte]at h21
   simp (config := { maxSteps := 4000000 }) (disch:=omega) only[t74,go_sem,aJ h21,dH,cU]
structure Vv where
 k:Int
 n:Int
structure Ob where
 ty:Int
 kd:List Vv
 z:Int
structure Sg where
 L:List Ob
 ad:List Int
 mem:List Int
 sy:List (List UInt8×Nat)
abbrev w32 (x:Int):Int:=IntKind.u32.wrap x
def wd (ad:List Int)(v:Vv):Int :=
 if v.k=1 then w32 (4*w32 v.n) else if v.k=2 then w32 (w32 (16*w32 v.n)+2) else if v.k=3∧v.n=1 then 22 else if v.k=3 then 6 else if v.k=4 then 38 else if v.k=5 then 54 else if v.k=6 then 70 else w32 (w32 (4*w32 (ad.getD v.n.toNat 0))+1)
def prO (o:Ob):List Int:=if o.ty=7 then (if o.z<0 then 4 else 0)::(dg 65536 o.z.natAbs).map (4*·) else []
def boO (ad:List Int)(o:Ob):List Int:=prO o++o.kd.map (wd ad)
def ow (ad:List Int)(o:Ob):List Int:=(32*((boO ad o).length:Int)+4*o.ty+3)::boO ad o
def fD (o:Ob):Nat:=1+(prO o).length+o.kd.length
theorem aCe (ad:List Int)(o:Ob):(ow ad o).length=fD o:=by unfold ow boO fD; simp; omega
def push (b:Int)(σ:Sg)(o:Ob):Vv×Sg:=(⟨7,σ.L.length⟩,⟨σ.L++[o],σ.ad++[b+σ.mem.length],σ.mem++ow σ.ad o,σ.sy⟩)
def zP (t:List UInt8):Int:=if okP t then sv (aH8 t) (dec (body t)) else 0
def chV (t:List UInt8):List Vv:=if (dE t.length t 0).2=none then (gZ (dE t.length t 0).1).map (⟨2,·⟩) else []
def qK (b z:Int)(σ:Sg):Vv×Sg:=if -536870912≤z∧z≤536870911 then (⟨1,z⟩,σ) else push b σ ⟨7,[],z⟩
def qL (b:Int)(t:List UInt8)(σ:Sg):Vv×Sg:=match σ.sy.find? (fun x=>x.1==t) with
 | some x=>(⟨7,x.2⟩,σ)
 | none =>
  let x:=push b σ ⟨4,chV t,0⟩
  let y:=push b x.2 ⟨5,[x.1],0⟩
  (y.1,⟨y.2.L,y.2.ad,y.2.mem,σ.sy++[(t,x.2.L.length)]⟩)
def fE (b:Int):List Vv→Vv→Sg→Vv×Sg
 | [],e,σ=>(e,σ)
 | v::r,e,σ=>let x:=push b σ ⟨0,[v,e],0⟩; fE b r x.1 x.2
mutual
def fM (b:Int):Nat→Dt→Sg→Vv×Sg
 | 0,_,σ=>(⟨4,0⟩,σ)
 | n+1,d,σ =>
  if d.k=1 then (⟨3,d.n⟩,σ)
  else if d.k=2 then qK b (zP d.t) σ
  else if d.k=3 then (⟨2,d.n⟩,σ)
  else if d.k=4 then push b σ ⟨4,chV d.t,0⟩
  else if d.k=5 then qL b d.t σ
  else if d.k=8 then push b σ ⟨6,d.t.map fun c=>⟨1,c.toNat⟩,0⟩
  else if d.k=7 then let x:=cG b n d.ks σ; push b x.2 ⟨1,x.1,0⟩
  else if d.k=6 then let x:=cG b n (cE d.w d).1 σ; let y:=fM b n (cE d.w d).2 x.2; fE b x.1.reverse y.1 y.2
  else if d.k=9 then (⟨5,0⟩,σ)
  else if d.k=10 then (⟨6,0⟩,σ)
  else (⟨4,0⟩,σ)
def cG (b:Int):Nat→List Dt→Sg→List Vv×Sg
 | 0,_,σ=>([],σ)
 | n+1,[],σ=>([],σ)
 | n+1,d::l,σ=>let x:=fM b n d σ; let y:=cG b n l x.2; (x.1::y.1,y.2)
end
def Vd (n:Nat)(v:Vv):Prop:=v.k=7→0≤v.n∧v.n<n
theorem Vd.mono {n m:Nat}{v:Vv}(h:Vd n v)(hm:n≤m):Vd m v:=fun h7=>by have:=h h7; omega
structure LeS (σ τ:Sg):Prop where
 L:∃r,τ.L=σ.L++r
 ad:∃r,τ.ad=σ.ad++r
 mem:∃r,τ.mem=σ.mem++r
 sy:∃r,τ.sy=σ.sy++r
theorem LeS.refl (σ:Sg):LeS σ σ:=⟨⟨[],by simp⟩,⟨[],by simp⟩,⟨[],by simp⟩,⟨[],by simp⟩⟩
theorem LeS.trans {a b c:Sg}(h:LeS a b)(g:LeS b c):LeS a c:=by
 obtain⟨⟨r1,e1⟩,⟨r2,e2⟩,⟨r3,e3⟩,⟨r4,e4⟩⟩:=h
 obtain⟨⟨s1,f1⟩,⟨s2,f2⟩,⟨s3,f3⟩,⟨s4,f4⟩⟩:=g
 exact⟨⟨r1++s1,by rw[f1,e1,List.append_assoc]⟩,⟨r2++s2,by rw[f2,e2,List.append_assoc]⟩,⟨r3++s3,by rw[f3,e3,List.append_assoc]⟩,⟨r4++s4,by rw[f4,e4,List.append_assoc]⟩⟩
theorem LeS.push (b:Int)(σ:Sg)(o:Ob):LeS σ (push b σ o).2:=⟨⟨_,rfl⟩,⟨_,rfl⟩,⟨_,rfl⟩,⟨[],by unfold Go.Proofs.YtjbpbohpmfpoiaaGreatDoor.push; simp⟩⟩
theorem LeS.len {σ τ:Sg}(h:LeS σ τ):σ.mem.length≤τ.mem.length∧σ.L.length≤τ.L.length:=by
 obtain⟨⟨r1,e1⟩,_,⟨r3,e3⟩,_⟩:=h
 rw[e1,e3,List.length_append,List.length_append]; omega
theorem bC6 (b z:Int)(σ:Sg):LeS σ (qK b z σ).2:=by
 unfold qK
 split
 ·exact LeS.refl σ
 ·exact LeS.push ..
theorem aRa (b:Int)(t:List UInt8)(σ:Sg):LeS σ (qL b t σ).2:=by
 unfold qL
 split
 ·exact LeS.refl σ
 ·obtain⟨h1,h2,h3,h4⟩:=(LeS.push b σ ⟨4,chV t,0⟩).trans (LeS.push b _ ⟨5,[(push b σ ⟨4,chV t,0⟩).1],0⟩)
  exact⟨h1,h2,h3,_,rfl⟩
theorem qM (b:Int):∀(l:List Vv) (e:Vv) (σ:Sg),LeS σ (fE b l e σ).2
 | [],e,σ=>LeS.refl σ
 | v::r,e,σ=>by
  rw[fE]
  exact (LeS.push ..).trans (qM b r _ _)
mutual
theorem xG (b:Int):∀(n:Nat) (d:Dt) (σ:Sg),LeS σ (fM b n d σ).2
 | 0,d,σ=>by rw[fM]; exact LeS.refl σ
 | n+1,d,σ=>by
  rw[fM]
  split
  ·exact LeS.refl σ
  split
  ·exact bC6 ..
  split
  ·exact LeS.refl σ
  split
  ·exact LeS.push ..
  split
  ·exact aRa ..
  split
  ·exact LeS.push ..
  split
  ·exact (wL b n _ σ).trans (LeS.push ..)
  split
  ·exact (wL b n _ σ).trans ((xG b n _ _).trans (qM ..))
  split
  ·exact LeS.refl σ
  split
  ·exact LeS.refl σ
  ·exact LeS.refl σ
theorem wL (b:Int):∀(n:Nat) (l:List Dt) (σ:Sg),LeS σ (cG b n l σ).2
 | 0,l,σ=>by rw[cG]; exact LeS.refl σ
 | n+1,[],σ=>by rw[cG]; exact LeS.refl σ
 | n+1,d::l,σ=>by
  rw[cG]
  exact (xG b n d σ).trans (wL b n l _)
end
def OkV (n:Nat)(v:Vv):Prop:=Vd n v∧(¬v.k=7→v.k=1∨v.k=2∨v.k=3∨v.k=4∨v.k=5∨v.k=6)
def OkO (n:Nat)(o:Ob):Prop:=(∀v∈o.kd,OkV n v)∧0≤o.ty∧o.ty≤7
theorem OkV.mono {n m:Nat}{v:Vv}(h:OkV n v)(hm:n≤m):OkV m v:=⟨h.1.mono hm,h.2⟩
theorem OkO.mono {n m:Nat}{o:Ob}(h:OkO n o)(hm:n≤m):OkO m o:=⟨fun v hv=>(h.1 v hv).mono hm,h.2⟩
structure Gd (b:Int) (σ:Sg):Prop where
 al:σ.ad.length=σ.L.length
 me:σ.mem=σ.L.flatMap (ow σ.ad)
 vd:∀o∈σ.L,OkO σ.L.length o
 ap:∀i,i<σ.L.length→σ.ad[i]? = some (b+(((σ.L.take i).map fD).sum:Nat))
 sl:σ.sy.length≤σ.L.length
 sy:∀x∈σ.sy,okC x.1=true∧∃j:Nat,σ.L[x.2]? = some ⟨5,[⟨7,j⟩],0⟩∧σ.L[j]? = some ⟨4,chV x.1,0⟩
theorem xH {ad r:List Int}{v:Vv}(h:Vd ad.length v)(hk:¬v.k=7→v.k=1∨v.k=2∨v.k=3∨v.k=4∨v.k=5∨v.k=6):wd (ad++r) v=wd ad v:=by
 unfold wd
 by_cases h7:v.k=7
 ·have:=h h7
  have e:(ad++r).getD v.n.toNat 0=ad.getD v.n.toNat 0:=by
   rw[List.getD_eq_getElem?_getD,List.getD_eq_getElem?_getD,List.getElem?_append_left (by omega)]
  rw[e]
 ·have:=hk h7
  split
  ·rfl
  split
  ·rfl
  split
  ·rfl
  split
  ·rfl
  split
  ·rfl
  split
  ·rfl
  split
  ·rfl
  ·omega
theorem aRb {ad r:List Int}{o:Ob}(h:OkO ad.length o):ow (ad++r) o=ow ad o:=by
 have e:o.kd.map (wd (ad++r))=o.kd.map (wd ad):=List.map_congr_left fun v hv=>xH (h.1 v hv).1 (h.1 v hv).2
 unfold ow boO
 rw[e]
theorem tL {b:Int}{σ:Sg}(h:Gd b σ):σ.mem.length=(σ.L.map fD).sum:=by
 rw[h.me,List.length_flatMap]
 congr 1
 exact List.map_congr_left fun o _=>aCe _ o
theorem aRc {f g:Ob→List Int}{l:List Ob}(h:∀x∈l,f x=g x):l.flatMap f=l.flatMap g:=by
 rw[List.flatMap_def,List.flatMap_def,List.map_congr_left h]
theorem aCf {b:Int}{σ:Sg}{o:Ob}(h:Gd b σ)(ho:OkO σ.L.length o):Gd b (push b σ o).2:=by
 have hal:=h.al
 have hsz:=tL h
 unfold push
 refine⟨by simp[hal],?_,?_,?_,(by show σ.sy.length≤(σ.L++[o]).length; have:=h.sl; rw[List.length_append]; omega),?_⟩
 ·show σ.mem++ow σ.ad o=(σ.L++[o]).flatMap (ow (σ.ad++[b+σ.mem.length]))
  rw[List.flatMap_append,List.flatMap_singleton,h.me,aRb (by rw[hal]; exact ho)]
  congr 1
  exact aRc fun x hx=>(aRb (by rw[hal]; exact h.vd x hx)).symm
 ·intro x hx
  rw[List.length_append,List.length_singleton]
  rcases List.mem_append.1 hx with hx|hx
  ·exact (h.vd x hx).mono (by omega)
  ·rw[List.mem_singleton]at hx; subst hx; exact ho.mono (by omega)
 ·intro i hi
  rw[List.length_append,List.length_singleton]at hi
  show (σ.ad++[b+(σ.mem.length:Int)])[i]? = _
  by_cases hl:i<σ.L.length
  ·rw[List.getElem?_append_left (by omega),h.ap i hl,List.take_append_of_le_length (by omega)]
  ·obtain rfl:i=σ.L.length:=by omega
   rw[List.getElem?_append_right (by omega),show σ.L.length-σ.ad.length=0 by omega,List.take_append_of_le_length (Nat.le_refl _),List.take_length,hsz]
   rfl
 ·intro x hx
  obtain⟨h1,j,h2,h3⟩:=h.sy x hx
  refine⟨h1,j,?_,?_⟩
  ·show (σ.L++[o])[x.2]? = _
   rw[List.getElem?_append_left (List.getElem?_eq_some_iff.1 h2).1]; exact h2
  ·show (σ.L++[o])[j]? = _
   rw[List.getElem?_append_left (List.getElem?_eq_some_iff.1 h3).1]; exact h3
theorem kC (b:Int)(σ:Sg)(o:Ob):OkV (push b σ o).2.L.length (push b σ o).1:=by
 unfold push
 refine⟨fun _=>?_,fun h=>absurd rfl h⟩
 show 0≤(σ.L.length:Int)∧(σ.L.length:Int)<((σ.L++[o]).length:Nat)
 rw[List.length_append,List.length_singleton]; omega
theorem aRd {b:Int}{σ:Sg}(h:Gd b σ):σ.sy.length≤σ.mem.length:=by
 have h1:=h.sl
 have h2:=tL h
 have h3:∀l:List Ob,l.length≤(l.map fD).sum:=fun l=>by
  induction l with
  | nil=>exact Nat.zero_le _
  | cons a r ih=>rw[List.map_cons,List.sum_cons,List.length_cons]; have:1≤fD a:=(by unfold fD; omega); omega
 have:=h3 σ.L
 omega
theorem aXu {b:Int}{σ:Sg}(h:Gd b σ)(o:Ob):wd (push b σ o).2.ad (push b σ o).1=w32 (w32 (4*w32 (b+σ.mem.length))+1):=by
 have hal:=h.al
 unfold push wd
 have e:(σ.ad++[b+(σ.mem.length:Int)]).getD ((σ.L.length:Int).toNat) 0=b+σ.mem.length:=by
  rw[Int.toNat_natCast,←hal,List.getD_eq_getElem?_getD,List.getElem?_append_right (Nat.le_refl _),Nat.sub_self]; rfl
 simp only[e]
 rfl
theorem aEw (i:Nat)(l:List (List IV)):cellsOf (acc i l)=[acc i l]:=by unfold acc; split<;>rfl
theorem aIa (i:Nat)(l:List (List IV)):bL (acc i l)=false:=by unfold acc; split<;>rfl
theorem aRe (i:Nat)(l:List (List IV)):noLb (acc i l)=acc i l:=by unfold acc; split<;>rfl
attribute [go_sem] aEw aIa aRe
theorem aIb (S:aA)(j:Nat)(l:List (List IV)):iL S (acc j l) l:=by
 by_cases h:l=[]
 ·subst h; rw[fL]; exact iL.sl ..
 ·rw[iI _ h]; exact iL.tsl ..
structure Gl (n0:Nat) (S:aA) (w el:Nat) (l:List (List IV)) (j:Nat):Prop where
 tok:l≠[]→S[j]? = some (.tok l.length w el)
 new:l≠[]→n0≤j
theorem Gl.nil (n0:Nat)(S:aA)(w el j:Nat):Gl n0 S w el [] j:=⟨fun h=>absurd rfl h,fun h=>absurd rfl h⟩
structure bG5 (n0:Nat) (S S':aA) (w el:Nat) (l ys:List (List IV)) (j j':Nat):Prop where
 gl:Gl n0 S' w el (l++ys) j'
 len:S.length≤S'.length
 old:∀q b,S[q]? = some b→(l≠[]→q≠j)→S'[q]? = some b
 same:l≠[]→j'=j
 frsh:l=[]→ys≠[]→S.length≤j'
theorem Gl.more {n0:Nat}{S:aA}{w el b:Nat}{l ys:List (List IV)}{j:Nat}{x:TV}(h:Gl n0 S w el l j)(hx:iL S x ys)(hw:eR w ys)(hl:eR w l)(hr:fF (l.length+ys.length) b=true)(h0:n0≤S.length) :
  ∃j' S',bR false w b el S (acc j l) x=some (acc j' (l++ys),S')∧bG5 n0 S S' w el l ys j j':=by
 by_cases hy:ys=[]
 ·subst hy
  have hs:aFe (acc j l)=true:=by unfold acc; split<;>rfl
  refine⟨j,S,by rw[aEi hs hx,List.append_nil],⟨by rw[List.append_nil]; exact h,Nat.le_refl _,fun q b hq _=>hq,fun _=>rfl,fun _ h=>absurd rfl h⟩⟩
 ·by_cases hn:l=[]
  ·subst hn
   refine⟨S.length,S++[.tok ([]++ys).length w el],?_,⟨⟨fun _=>by simp,fun _=>h0⟩,by simp,fun q b hq _=>iJ hq _,fun h=>absurd rfl h,fun _ _=>Nat.le_refl _⟩⟩
   rw[fL,aEh (by decide) hx hw hl hy hr,iI _ (by simpa using hy)]
   simp
  ·have ht:=h.tok hn
   refine⟨j,S.set j (.tok (l++ys).length w el),?_,⟨⟨fun _=>cX (cA ht) _,fun _=>h.new hn⟩,by simp,fun q b hq hne=>by rw[bD (Ne.symm (hne hn))]; exact hq,fun _=>rfl,fun h=>absurd h hn⟩⟩
   rw[iI _ hn,aEg hx hw hl ht hr,iI _ (by simp[hn]),List.length_append]
abbrev bE (l:List Int):List (List IV):=TM.one (.int .u32) l
theorem jG (l:List Int):eR 1 (bE l):=by
 intro y hy
 obtain⟨x,_,rfl⟩:=List.mem_map.1 hy
 exact⟨rfl,rfl⟩
theorem lV (a b:List Int):bE (a++b)=bE a++bE b:=List.map_append
theorem bY (l:List Int):(bE l).length=l.length:=List.length_map _
theorem cQ {l:List Int}:bE l≠[]↔l≠[]:=by cases l<;>simp[bE,TM.one]
structure Ly where
 jm:Nat
 jo:Nat
 σ:Sg
 l:List (Nat×List UInt8×Int)
 c:Nat
def iK (σ:Sg):List Int:=σ.sy.map fun x=>wd σ.ad ⟨7,x.2⟩
def wdV (a:Int):TV:=.iv (.agg [.int .u32 a])
def TkM (Λ:Ly)(q:Nat):Prop:=Λ.σ.mem≠[]∧q=Λ.jm
def TkO (Λ:Ly)(q:Nat):Prop:=iK Λ.σ≠[]∧q=Λ.jo
def lyB (b:Int)(jp:Nat)(Λ:Ly):aW:=.cells 53 false [.iv (.int .i64 b),acc Λ.jm (bE Λ.σ.mem),.map jp,acc Λ.jo (bE (iK Λ.σ))]
structure LB (b:Int) (S:aA) (j jp:Nat) (Λ:Ly):Prop where
 own:S[j]? = some (lyB b jp Λ)
 gm:Gl 0 S 1 26 (bE Λ.σ.mem) Λ.jm
 go:Gl 0 S 1 26 (bE (iK Λ.σ)) Λ.jo
 mp:S[jp]? = some (.mp (mpK enS wdV Λ.l) Λ.c)
 dis:∀q,TkM Λ q→¬TkO Λ q
 kv:∀t,nH Λ.l t=(Λ.σ.sy.find? (fun x=>x.1==t)).map fun x=>wd Λ.σ.ad ⟨7,x.2⟩
 gd:Gd b Λ.σ
 b0:0≤b∧b≤67108864
structure KL (j jp:Nat) (S S':aA) (Λ Λ':Ly):Prop where
 len:S.length≤S'.length
 old:∀q B,S[q]? = some B→q≠j→q≠jp→¬TkM Λ q→¬TkO Λ q→S'[q]? = some B
 new:∀q,TkM Λ' q∨TkO Λ' q→TkM Λ q∨TkO Λ q∨S.length≤q
theorem KL.refl (j jp:Nat)(S:aA)(Λ:Ly):KL j jp S S Λ Λ:=⟨Nat.le_refl _,fun _ _ h _ _ _ _=>h,fun q h=>by rcases h with h|h; exact .inl h; exact .inr (.inl h)⟩
theorem KL.trans {j jp:Nat}{S S1 S2:aA}{A B C:Ly}(h:KL j jp S S1 A B)(g:KL j jp S1 S2 B C):KL j jp S S2 A C:=by
 have nt:∀q (X:aW),S[q]? = some X→¬TkM A q→¬TkO A q→¬TkM B q∧¬TkO B q:=fun q X hq h1 h2=>by
  have hl:=cA hq
  refine⟨fun hb=>?_,fun hb=>?_⟩
  ·rcases h.new q (.inl hb) with h3|h3|h3
   ·exact h1 h3
   ·exact h2 h3
   ·omega
  ·rcases h.new q (.inr hb) with h3|h3|h3
   ·exact h1 h3
   ·exact h2 h3
   ·omega
 refine⟨Nat.le_trans h.len g.len,fun q X hq h1 h2 h3 h4=>?_,fun q hq=>?_⟩
 ·obtain⟨h5,h6⟩:=nt q X hq h3 h4
  exact g.old q X (h.old q X hq h1 h2 h3 h4) h1 h2 h5 h6
 ·rcases g.new q hq with h3|h3|h3
  ·exact h.new q (.inl h3)
  ·exact h.new q (.inr h3)
  ·exact .inr (.inr (Nat.le_trans h.len h3))
theorem LB.tkj {b:Int}{S:aA}{j jp:Nat}{Λ:Ly}(h:LB b S j jp Λ):∀q,TkM Λ q∨TkO Λ q→q≠j∧q≠jp:=by
 intro q hq
 have ht:∃n,S[q]? = some (.tok n 1 26):=by
  rcases hq with⟨h1,rfl⟩|⟨h1,rfl⟩
  ·exact⟨_,h.gm.tok (cQ.2 h1)⟩
  ·exact⟨_,h.go.tok (cQ.2 h1)⟩
 obtain⟨n,ht⟩:=ht
 refine⟨fun e=>?_,fun e=>?_⟩
 ·rw[e,h.own]at ht; unfold lyB at ht; cases ht
 ·rw[e,h.mp]at ht; cases ht
theorem LB.nej {b:Int}{S:aA}{j jp:Nat}{Λ:Ly}(h:LB b S j jp Λ):j≠jp:=fun e=>by
 have h1:=h.own; have h2:=h.mp
 rw[e,h2]at h1; unfold lyB at h1; cases h1
theorem LB.keep {b:Int}{S S':aA}{j jp:Nat}{Λ:Ly}(h:LB b S j jp Λ)(k:∀q B,S[q]? = some B→(q=j∨q=jp∨TkM Λ q∨TkO Λ q)→S'[q]? = some B):LB b S' j jp Λ :=
 ⟨k _ _ h.own (.inl rfl),⟨fun hn=>k _ _ (h.gm.tok hn) (.inr (.inr (.inl ⟨cQ.1 hn,rfl⟩))),fun _=>Nat.zero_le _⟩,⟨fun hn=>k _ _ (h.go.tok hn) (.inr (.inr (.inr ⟨cQ.1 hn,rfl⟩))),fun _=>Nat.zero_le _⟩,k _ _ h.mp (.inr (.inl rfl)),h.dis,h.kv,h.gd,h.b0⟩
theorem LB.app {b:Int}{S:aA}{j jp:Nat}{Λ:Ly}(h:LB b S j jp Λ)(l:aA):LB b (S++l) j jp Λ:=h.keep fun q B hq _=>iJ hq l
theorem KL.app (j jp:Nat)(S:aA)(Λ:Ly)(l:aA):KL j jp S (S++l) Λ Λ:=⟨by simp,fun q B hq _ _ _ _=>iJ hq l,fun q h=>by rcases h with h|h; exact .inl h; exact .inr (.inl h)⟩
end Go.Proofs.YtjbpbohpmfpoiaaGreatDoor
