/- Some texts of the proof, joined. Condition: none. -/
import Derived.Test.YtjbpbohpmfpoiaaGreatDoorTmProg
import Derived.Test.YtjbpbohpmfpoiaaGreatDoorTmE
import Derived.Test.YtjbpbohpmfpoiaaGreatDoorTmF
set_option maxRecDepth 100000
set_option maxHeartbeats 16000000
set_option linter.unusedSimpArgs false
set_option linter.unusedVariables false
namespace Go.Proofs.YtjbpbohpmfpoiaaGreatDoor
open Go Go.TM
abbrev u_:TV:=.tup []
attribute [go_sem] TM.undef
attribute [go_sem] beq_self_eq_true bGl bGm ifT ifF eqT eqF neT neF pL TM.bJ aE0 List.replicate List.cons_append List.nil_append decide_true decide_false
attribute [go_sem] Nat.reduceAdd Nat.reduceSub Nat.reduceMul Nat.reduceLT Nat.reduceLeDiff Nat.reduceEqDiff Nat.reduceBEq reduceIte reduceCtorEq Int.reduceEq Int.reduceLT Int.reduceLE Int.reduceAdd Int.reduceSub Int.reduceMul Int.reduceToNat Int.reduceNeg Int.reduceBEq Int.reduceBNe Int.reduceTDiv Int.reduceTMod Int.reducePow Nat.reducePow Nat.reduceDiv Nat.reduceMod Int.reduceMod Int.reduceDiv Int.reduceNe Int.reduceFDiv
inductive Dt where
 | mk (k n:Int) (t:List UInt8) (g:Tag) (ks:List Dt) (p:Int)
instance:Inhabited Dt:=⟨.mk 0 0 [] .nil [] 0⟩
def Dt.k:Dt→Int | .mk k _ _ _ _ _=>k
def Dt.n:Dt→Int | .mk _ n _ _ _ _=>n
def Dt.t:Dt→List UInt8 | .mk _ _ t _ _ _=>t
def Dt.g:Dt→Tag | .mk _ _ _ g _ _=>g
def Dt.ks:Dt→List Dt | .mk _ _ _ _ ks _=>ks
def Dt.p:Dt→Int | .mk _ _ _ _ _ p=>p
mutual
def eX:Dt→List IV
 | .mk k n t g ks p=>[.int .i64 k,.int .i64 n,.str t,.sl g (bT ks),.int .i64 p]
def bT:List Dt→List (List IV)
 | []=>[]
 | d::ds=>eX d::bT ds
end
mutual
def Dt.w:Dt→Nat
 | .mk _ _ t _ ks _=>t.length+Dt.ws ks+1
def Dt.ws:List Dt→Nat
 | []=>0
 | d::ds=>Dt.w d+Dt.ws ds
end
theorem jF:∀ks:List Dt,bT ks=ks.map eX
 | []=>by rw[bT]; rfl
 | d::ds=>by rw[bT,jF ds]; rfl
theorem bB (ks:List Dt):(bT ks).length=ks.length:=by rw[jF,List.length_map]
theorem bA (d:Dt):eX d=[.int .i64 d.k,.int .i64 d.n,.str d.t,.sl d.g (bT d.ks),.int .i64 d.p]:=by
 cases d; rw[eX]; rfl
theorem aRt (d:Dt):(eX d).length=5:=by rw[bA]; rfl
theorem Dt.w_eq (d:Dt):d.w=d.t.length+Dt.ws d.ks+1:=by cases d; rw[Dt.w]; rfl
theorem Dt.ws_mem {d:Dt}:∀ {ks:List Dt},d∈ks→d.w≤Dt.ws ks
 | x::r,h=>by
  rw[Dt.ws]
  rcases List.mem_cons.1 h with rfl|h
  ·omega
  ·have:=Dt.ws_mem h; omega
theorem Dt.ws_len:∀ks:List Dt,ks.length≤Dt.ws ks
 | []=>by simp
 | x::r=>by
  have:=Dt.ws_len r
  have:=Dt.w_eq x
  rw[Dt.ws,List.length_cons]; omega
theorem Dt.kid_lt {d x:Dt}(h:x∈d.ks):x.w<d.w:=by
 have:=Dt.ws_mem h
 rw[Dt.w_eq d]; omega
theorem ixD {g:Tag}{ks:List Dt}{i:Int}(h:0≤i∧i<ks.length):indexAddrS 5 (.iv (.sl g (bT ks))) i=some (.iv (.cp (eX (ks.getD i.toNat default)))):=by
 rw[jF]
 exact aLo (f:=eX) aRt h
theorem ao0 (cs:List IV):dL (.iv (.cp cs)) 0=some (.iv (.cp cs)):=by simp[dL]
theorem aoS (x:IV)(cs:List IV)(n:Nat):dL (.iv (.cp (x::cs))) (n+1)=dL (.iv (.cp cs)) n:=by simp[dL]
theorem sC (env:Env)(S:aA)(a b c d e:IV):bH env S (.iv (.cp [a,b,c,d,e])) 5=some [.iv a,.iv b,.iv c,.iv d,.iv e]:=rfl
theorem lQ (env:Env)(S:aA)(d:Dt):bH env S (.iv (.cp (eX d))) 5=some [.iv (.int .i64 d.k),.iv (.int .i64 d.n),.iv (.str d.t),.iv (.sl d.g (bT d.ks)),.iv (.int .i64 d.p)]:=by
 rw[bA]; rfl
theorem sD {α:Type}[Inhabited α]{l:List α}{i:Nat}(h:i<l.length):l.drop i=l.getD i default::l.drop (i+1):=by
 rw[List.drop_eq_getElem_cons h,List.getD_eq_getElem?_getD,List.getElem?_eq_getElem h]; rfl
theorem gD {α:Type}[Inhabited α]{l:List α}{i:Nat}(h:i<l.length):l.getD i default∈l:=by
 rw[List.getD_eq_getElem?_getD,List.getElem?_eq_getElem h]; exact List.getElem_mem h
def nR {α:Type}(m:Int)(f:α→Int):Int→List α→Int
 | a,[]=>a
 | a,d::ds=>if a<m then nR m f (a+f d) ds else a
def isC (c:Int):Bool:=decide (0≤c)&&decide (c≤1114111)&&(decide (c<55296)||decide (57343<c))
theorem kU (c:Int):isC c=true↔0≤c∧c≤1114111∧(c<55296∨57343<c):=by
 simp[isC]; omega
theorem aCr (c:Int):(lim K).call 64 [.iv (.int .i64 c)] []=.ret (.iv (.bool (isC c)),[]):=by
 refine aD K [] (fn:=t64) rfl rfl ?_
 simp only[t64,go_sem]
 repeat' (first|(first|refine cN (fun h=>?_) (fun h=>?_)|refine cO (fun h=>?_) (fun h=>?_)|refine cP (fun h=>?_) (fun h=>?_)|refine dG (fun h=>?_) (fun h=>?_))|simp (disch:=omega) only[go_sem])
 all_goals (congr 4; simp[isC, *])
theorem bD1 (c:Int):(lim K).call 78 [.iv (.int .i32 c)] []=.ret (.iv (.bool (isC c)),[]):=by
 refine aD K [] (fn:=t78) rfl rfl ?_
 simp only[t78,go_sem]
 repeat' (first|(first|refine cN (fun h=>?_) (fun h=>?_)|refine cO (fun h=>?_) (fun h=>?_)|refine cP (fun h=>?_) (fun h=>?_)|refine dG (fun h=>?_) (fun h=>?_))|simp (disch:=omega) only[go_sem])
 all_goals (congr 4; simp[isC, *]; try omega)
theorem bD2 (c:Int):(lim K).call 51 [.iv (.int .i64 c)] []=.ret (.iv (.bool (isC c)),[]):=by
 refine aD K [] (fn:=t51) rfl rfl ?_
 simp only[t51,go_sem]
 repeat' (first|(first|refine cN (fun h=>?_) (fun h=>?_)|refine cO (fun h=>?_) (fun h=>?_)|refine cP (fun h=>?_) (fun h=>?_)|refine dG (fun h=>?_) (fun h=>?_))|simp (disch:=omega) only[go_sem,bD1,aP])
 all_goals (congr 4; simp[isC, *])
 all_goals (try omega)
def bytes (c:Int):List UInt8:=(Utf8.encode c).data.toList
def eC (c:Int):List UInt8 :=
 if c<128 then [UInt8.ofNat c.toNat]
 else if c<2048 then [UInt8.ofNat (192+c.toNat / 64),UInt8.ofNat (128+c.toNat % 64)]
 else if c<65536 then [UInt8.ofNat (224+c.toNat / 4096),UInt8.ofNat (128+c.toNat / 64 % 64),UInt8.ofNat (128+c.toNat % 64)]
 else [UInt8.ofNat (240+c.toNat / 262144),UInt8.ofNat (128+c.toNat / 4096 % 64),UInt8.ofNat (128+c.toNat / 64 % 64),UInt8.ofNat (128+c.toNat % 64)]
theorem aNo (n:Nat)(h:n<256):(((UInt8.ofNat n).toNat:Nat):Int)=(n:Int):=by
 simp[UInt8.toNat_ofNat]; omega
theorem qO {m:Int}{n:Nat}(h:m=n)(hn:n<256):IntKind.u8.wrap m=(((UInt8.ofNat n).toNat:Nat):Int):=by
 subst h
 rw[qJ (by omega),aNo n hn]
set_option maxHeartbeats 4000000 in
theorem aLz (c:Int)(h:isC c=true):(lim K).call 133 [.iv (.int .i64 c)] []=.ret (.iv (.sl .full (aN (eC c))),[]):=by
 have hc:=(kU c).1 h
 refine aD K [] (fn:=t133) rfl rfl ?_
 simp only[t133,go_sem]
 repeat' (first|(first|refine cN (fun h=>?_) (fun h=>?_)|refine cO (fun h=>?_) (fun h=>?_)|refine cP (fun h=>?_) (fun h=>?_)|refine dG (fun h=>?_) (fun h=>?_))|simp (disch:=omega) only[go_sem,aB,Int.tdiv_eq_ediv_of_nonneg,Int.tmod_eq_emod_of_nonneg])
 ·rw[qO (n:=c.toNat) (by omega) (by omega)]
  simp only[eC, *,↓reduceIte]; rfl
 ·rw[qO (n:=192+c.toNat / 64) (by omega) (by omega),qO (n:=128+c.toNat % 64) (by omega) (by omega)]
  simp only[eC, *,↓reduceIte]; rfl
 ·rw[qO (n:=224+c.toNat / 4096) (by omega) (by omega),qO (n:=128+c.toNat / 64 % 64) (by omega) (by omega),qO (n:=128+c.toNat % 64) (by omega) (by omega)]
  simp only[eC, *,↓reduceIte]; rfl
 ·rw[qO (n:=240+c.toNat / 262144) (by omega) (by omega),qO (n:=128+c.toNat / 4096 % 64) (by omega) (by omega),qO (n:=128+c.toNat / 64 % 64) (by omega) (by omega),qO (n:=128+c.toNat % 64) (by omega) (by omega)]
  simp only[eC, *,↓reduceIte]; rfl
def tab (n:Nat):Nat :=
 if n<128 then 240 else if n<194 then 241 else if n<224 then 2 else if n=224 then 19 else if n<237 then 3 else if n=237 then 35 else if n<240 then 3 else if n=240 then 52 else if n<244 then 4 else if n=244 then 68 else 241
theorem aYp:(List.range 256).all (fun n=>match g0[n]? with|some (.int .u8 m)=>m==(tab n:Int)|_=>false)=true:=by kernel_rfl
theorem aYq {n:Nat}(h:n<256):g0[n]? = some (.int .u8 (tab n)):=by
 have:=List.all_eq_true.1 aYp n (List.mem_range.2 h)
 split at this
 ·rename_i m e; rw[e]; simp at this; rw[this]
 ·cases this
theorem hK0:K.glob 0=some g0:=rfl
theorem hK1:K.glob 1=some g1:=rfl
theorem bD3:g0.length=256:=by kernel_rfl
def fol (b:UInt8):Bool:=decide (128≤b.toNat)&&decide (b.toNat≤191)
def D:List UInt8→Nat×Nat
 | []=>(65533,0)
 | a::r =>
  if a.toNat<128 then (a.toNat,1)
  else if a.toNat<194 then (65533,1)
  else if a.toNat<224 then match r with
   | b::_=>if fol b then (a.toNat % 32*64+b.toNat % 64,2) else (65533,1)
   | _=>(65533,1)
  else if a.toNat<240 then match r with
   | b::c::_=>if (decide ((if a.toNat=224 then 160 else 128)≤b.toNat)&&decide (b.toNat≤(if a.toNat=237 then 159 else 191)))&&fol c then (a.toNat % 16*4096+b.toNat % 64*64+c.toNat % 64,3) else (65533,1)
   | _=>(65533,1)
  else if a.toNat<245 then match r with
   | b::c::d::_=>if (decide ((if a.toNat=240 then 144 else 128)≤b.toNat)&&decide (b.toNat≤(if a.toNat=244 then 143 else 191)))&&fol c&&fol d then (a.toNat % 8*262144+b.toNat % 64*4096+c.toNat % 64*64+d.toNat % 64,4) else (65533,1)
   | _=>(65533,1)
  else (65533,1)
theorem bl (b:UInt8):b.toNat<256:=b.toNat_lt
theorem aI (a:UInt8)(r:List UInt8):aN (a::r)=[.int .u8 a.toNat]::aN r:=rfl
theorem aE9 (t:Tag):(lim K).call 128 [.iv (.sl t (aN []))] []=.ret (.tup [.iv (.int .i32 65533),.iv (.int .i64 0)],[]):=by
 refine aD K [] (fn:=t128) rfl rfl ?_
 simp (disch:=omega) only[t128,go_sem]
theorem eO {a:UInt8}:ixA 256 1 (.iv (.cp g0)) (.iv (.int .u8 a.toNat))=some (.iv (.cp (g0.drop a.toNat))):=by
 have:=bl a
 rw[aNf]
 have h:(0:Int)≤(a.toNat:Int)∧(a.toNat:Int)<((256:Nat):Int):=by omega
 simp only[h,and_self,↓reduceIte,Int.toNat_natCast,Nat.mul_one]
 exact aCo (by rw[bD3]; omega)
theorem ld0 {a:UInt8}(env:Env)(S:aA):bH env S (.iv (.cp (g0.drop a.toNat))) 1=some [.iv (.int .u8 (tab a.toNat))]:=aX6 (aYq (bl a))
theorem w2:IntKind.u8.wrap (nZ 8 2 7)=2:=by decide
theorem w240:IntKind.i32.wrap 515396075520=0:=by decide
theorem bG2:IntKind.i32.wrap 240=240:=by decide
theorem w241:IntKind.i32.wrap 517543559168 = -2147483648:=by decide
theorem bG3:IntKind.i32.wrap 241=241:=by decide
theorem m0:IntKind.i32.wrap (nZ 32 65533 0)=0:=by decide
theorem aYr {a:Int}(h:0≤a∧a≤2147483647):IntKind.i32.wrap (bOr 32 a 0)=a:=by
 have e:BitVec.ofInt 32 a ||| BitVec.ofInt 32 0=BitVec.ofInt 32 a:=by simp
 unfold bOr
 rw[e,iJ ⟨h.1,by omega⟩,aP (by omega)]
 omega
theorem m1:IntKind.i32.wrap (nZ 32 65533 (-1))=65533:=by decide
theorem o1:IntKind.i32.wrap (bOr 32 0 65533)=65533:=by decide
set_option maxHeartbeats 4000000 in
theorem aNp (t:Tag)(a:UInt8)(r:List UInt8)(h1:a.toNat<128):(lim K).call 128 [.iv (.sl t (aN (a::r)))] []=.ret (.tup [.iv (.int .i32 a.toNat),.iv (.int .i64 1)],[]):=by
 have ha:=bl a
 refine aD K [] (fn:=t128) rfl rfl ?_
 have ht:tab a.toNat=240:=by simp[tab]; omega
 simp (disch:=omega) only[t128,go_sem,aI,Int.natCast_add,Int.cast_ofNat_Int,indexAddrS,hK0,hK1,eO,ld0,ht,w240,bG2,aE2,m0,aP,aYr]
set_option maxHeartbeats 4000000 in
theorem aYs (t:Tag)(a:UInt8)(r:List UInt8)(h1:tab a.toNat=241):(lim K).call 128 [.iv (.sl t (aN (a::r)))] []=.ret (.tup [.iv (.int .i32 65533),.iv (.int .i64 1)],[]):=by
 have ha:=bl a
 refine aD K [] (fn:=t128) rfl rfl ?_
 simp (disch:=omega) only[t128,go_sem,aI,Int.natCast_add,Int.cast_ofNat_Int,indexAddrS,hK0,hK1,eO,ld0,h1,w241,bG3,aE3,m1,o1,aP]
theorem pQ (a:UInt8)(r:List UInt8)(h:a.toNat<128):D (a::r)=(a.toNat,1):=by simp[D,h]
theorem aL0 (a:UInt8)(r:List UInt8)(h:128≤a.toNat∧a.toNat<194∨245≤a.toNat):D (a::r)=(65533,1):=by
 have h1:¬a.toNat<128:=by omega
 by_cases h2:a.toNat<194
 ·simp[D,h1,h2]
 ·have h3:¬a.toNat<224:=by omega
  have h4:¬a.toNat<240:=by omega
  have h5:¬a.toNat<245:=by omega
  simp[D,h1,h2,h3,h4,h5]
theorem aFa (a:UInt8)(r:List UInt8)(h:194≤a.toNat∧a.toNat<224):D (a::r)=match r with
      | b::_=>if fol b then (a.toNat % 32*64+b.toNat % 64,2) else (65533,1)
      | _=>(65533,1):=by
  have h1:¬a.toNat<128:=by omega
  have h2:¬a.toNat<194:=by omega
  simp only[D,h1,h2,h.2,↓reduceIte]
theorem iL (a:UInt8)(r:List UInt8)(h:224≤a.toNat∧a.toNat<240):D (a::r)=match r with
      | b::c::_=>if (decide ((if a.toNat=224 then 160 else 128)≤b.toNat)&&decide (b.toNat≤(if a.toNat=237 then 159 else 191)))&&fol c then (a.toNat % 16*4096+b.toNat % 64*64+c.toNat % 64,3) else (65533,1)
      | _=>(65533,1):=by
  have h1:¬a.toNat<128:=by omega
  have h2:¬a.toNat<194:=by omega
  have h3:¬a.toNat<224:=by omega
  simp only[D,h1,h2,h3,h.2,↓reduceIte]
theorem iD (a:UInt8)(r:List UInt8)(h:240≤a.toNat∧a.toNat<245):D (a::r)=match r with
      | b::c::d::_=>if (decide ((if a.toNat=240 then 144 else 128)≤b.toNat)&&decide (b.toNat≤(if a.toNat=244 then 143 else 191)))&&fol c&&fol d then (a.toNat % 8*262144+b.toNat % 64*4096+c.toNat % 64*64+d.toNat % 64,4) else (65533,1)
      | _=>(65533,1):=by
  have h1:¬a.toNat<128:=by omega
  have h2:¬a.toNat<194:=by omega
  have h3:¬a.toNat<224:=by omega
  have h4:¬a.toNat<240:=by omega
  simp only[D,h1,h2,h3,h4,h.2,↓reduceIte]
theorem aL1 {b:UInt8}(h:128≤b.toNat∧b.toNat≤191):fol b=true:=by simp[fol]; omega
theorem bG4 {b:UInt8}(h:¬(128≤b.toNat∧b.toNat≤191)):fol b=false:=by simp[fol]; omega
theorem aRu (a b:UInt8)(r:List UInt8)(h:194≤a.toNat∧a.toNat<224)(hb:128≤b.toNat∧b.toNat≤191):D (a::b::r)=(a.toNat % 32*64+b.toNat % 64,2):=by
 rw[aFa a _ h]; simp[aL1 hb]
theorem bDf (a b:UInt8)(r:List UInt8)(h:194≤a.toNat∧a.toNat<224)(hb:¬(128≤b.toNat∧b.toNat≤191)):D (a::b::r)=(65533,1):=by
 rw[aFa a _ h]; simp[bG4 hb]
theorem aFb (a b c:UInt8)(r:List UInt8)(h:224≤a.toNat∧a.toNat<240)(hb:(a.toNat=224→160≤b.toNat)∧128≤b.toNat∧(a.toNat=237→b.toNat≤159)∧b.toNat≤191)(hc:128≤c.toNat∧c.toNat≤191):D (a::b::c::r)=(a.toNat % 16*4096+b.toNat % 64*64+c.toNat % 64,3):=by
 rw[iL a _ h]
 have e1:(if a.toNat=224 then 160 else 128)≤b.toNat:=by split<;>omega
 have e2:b.toNat≤(if a.toNat=237 then 159 else 191):=by split<;>omega
 simp only[aL1 hc,e1,e2,decide_true,Bool.and_self,↓reduceIte]
theorem aL2 (a b c:UInt8)(r:List UInt8)(h:224≤a.toNat∧a.toNat<240)(hb:¬((a.toNat=224→160≤b.toNat)∧128≤b.toNat∧(a.toNat=237→b.toNat≤159)∧b.toNat≤191)∨¬(128≤c.toNat∧c.toNat≤191)):D (a::b::c::r)=(65533,1):=by
 rw[iL a _ h]
 simp only[fol,Bool.and_eq_true,decide_eq_true_eq]
 rw[if_neg]
 intro⟨⟨h1,h2⟩,h3⟩
 split at h1<;>split at h2<;>omega
theorem aFc (a b c d:UInt8)(r:List UInt8)(h:240≤a.toNat∧a.toNat<245)(hb:(a.toNat=240→144≤b.toNat)∧128≤b.toNat∧(a.toNat=244→b.toNat≤143)∧b.toNat≤191)(hc:128≤c.toNat∧c.toNat≤191)(hd:128≤d.toNat∧d.toNat≤191):D (a::b::c::d::r)=(a.toNat % 8*262144+b.toNat % 64*4096+c.toNat % 64*64+d.toNat % 64,4):=by
 rw[iD a _ h]
 have e1:(if a.toNat=240 then 144 else 128)≤b.toNat:=by split<;>omega
 have e2:b.toNat≤(if a.toNat=244 then 143 else 191):=by split<;>omega
 simp only[aL1 hc,aL1 hd,e1,e2,decide_true,Bool.and_self,↓reduceIte]
theorem aL3 (a b c d:UInt8)(r:List UInt8)(h:240≤a.toNat∧a.toNat<245)(hb:¬((a.toNat=240→144≤b.toNat)∧128≤b.toNat∧(a.toNat=244→b.toNat≤143)∧b.toNat≤191)∨¬(128≤c.toNat∧c.toNat≤191)∨¬(128≤d.toNat∧d.toNat≤191)):D (a::b::c::d::r)=(65533,1):=by
 rw[iD a _ h]
 simp only[fol,Bool.and_eq_true,decide_eq_true_eq]
 rw[if_neg]
 intro⟨⟨⟨h1,h2⟩,h3⟩,h4⟩
 split at h1<;>split at h2<;>omega
set_option maxHeartbeats 8000000 in
theorem aYt (t:Tag)(a:UInt8)(r:List UInt8)(h1:tab a.toNat=2)(h2:194≤a.toNat∧a.toNat<224):(lim K).call 128 [.iv (.sl t (aN (a::r)))] []=.ret (.tup [.iv (.int .i32 (D (a::r)).1),.iv (.int .i64 (D (a::r)).2)],[]):=by
 have ha:=bl a
 refine aD K [] (fn:=t128) rfl rfl ?_
 have e0:dL (.iv (.cp g1)) 0=some (.iv (.cp g1)):=rfl
 have e1:∀env S,bH env S (.iv (.cp g1)) 2=some [.iv (.int .u8 128),.iv (.int .u8 191)]:=fun _ _=>rfl
 have sz:IntKind.u8.wrap (nZ 8 2 7)=2:=by decide
 cases r with
 | nil =>
  simp (disch:=omega) only[t128,go_sem,aI,Int.natCast_add,Int.cast_ofNat_Int,indexAddrS,hK0,hK1,eO,ld0,h1,aP,aB,e0,e1,sz,aQ,aR,bE,aS,bF,aT,aU]
  repeat' (first|(first|refine cN (fun h=>?_) (fun h=>?_)|refine cO (fun h=>?_) (fun h=>?_)|refine cP (fun h=>?_) (fun h=>?_)|refine dG (fun h=>?_) (fun h=>?_))|simp (disch:=omega) only[go_sem,aI,Int.natCast_add,Int.cast_ofNat_Int,indexAddrS,hK0,hK1,eO,ld0,h1,aP,aB,e0,e1,sz,aQ,aR,bE,aS,bF,aT,aU])
  all_goals (rw[aFa a _ (by omega)]; rfl)
 | cons b r =>
  have hb:=bl b; simp (disch:=omega) only[t128,go_sem,aI,Int.natCast_add,Int.cast_ofNat_Int,indexAddrS,hK0,hK1,eO,ld0,h1,aP,aB,e0,e1,sz,aQ,aR,bE,aS,bF,aT,aU]
  repeat' (first|(first|refine cN (fun h=>?_) (fun h=>?_)|refine cO (fun h=>?_) (fun h=>?_)|refine cP (fun h=>?_) (fun h=>?_)|refine dG (fun h=>?_) (fun h=>?_))|simp (disch:=omega) only[go_sem,aI,Int.natCast_add,Int.cast_ofNat_Int,indexAddrS,hK0,hK1,eO,ld0,h1,aP,aB,e0,e1,sz,aQ,aR,bE,aS,bF,aT,aU])
  all_goals (first|(rw[bDf a b _ (by omega) (by omega)]; rfl)|(rw[aRu a b _ (by omega) (by omega)]; simp))
set_option maxHeartbeats 8000000 in
theorem bD4 (t:Tag)(a:UInt8)(r:List UInt8)(h1:tab a.toNat=19)(h2:a.toNat=224):(lim K).call 128 [.iv (.sl t (aN (a::r)))] []=.ret (.tup [.iv (.int .i32 (D (a::r)).1),.iv (.int .i64 (D (a::r)).2)],[]):=by
 have ha:=bl a
 refine aD K [] (fn:=t128) rfl rfl ?_
 have e0:dL (.iv (.cp g1)) 2=some (.iv (.cp (g1.drop 2))):=rfl
 have e1:∀env S,bH env S (.iv (.cp (g1.drop 2))) 2=some [.iv (.int .u8 160),.iv (.int .u8 191)]:=fun _ _=>rfl
 have sz:IntKind.u8.wrap (nZ 8 19 7)=3:=by decide
 cases r with
 | nil =>
  simp (disch:=omega) only[t128,go_sem,aI,Int.natCast_add,Int.cast_ofNat_Int,indexAddrS,hK0,hK1,eO,ld0,h1,aP,aB,e0,e1,sz,aQ,aR,bE,aS,bF,aT,aU]
  repeat' (first|(first|refine cN (fun h=>?_) (fun h=>?_)|refine cO (fun h=>?_) (fun h=>?_)|refine cP (fun h=>?_) (fun h=>?_)|refine dG (fun h=>?_) (fun h=>?_))|simp (disch:=omega) only[go_sem,aI,Int.natCast_add,Int.cast_ofNat_Int,indexAddrS,hK0,hK1,eO,ld0,h1,aP,aB,e0,e1,sz,aQ,aR,bE,aS,bF,aT,aU])
  all_goals (rw[iL a _ (by omega)]; rfl)
 | cons b r =>
  cases r with
  | nil =>
   have hb:=bl b; simp (disch:=omega) only[t128,go_sem,aI,Int.natCast_add,Int.cast_ofNat_Int,indexAddrS,hK0,hK1,eO,ld0,h1,aP,aB,e0,e1,sz,aQ,aR,bE,aS,bF,aT,aU]
   repeat' (first|(first|refine cN (fun h=>?_) (fun h=>?_)|refine cO (fun h=>?_) (fun h=>?_)|refine cP (fun h=>?_) (fun h=>?_)|refine dG (fun h=>?_) (fun h=>?_))|simp (disch:=omega) only[go_sem,aI,Int.natCast_add,Int.cast_ofNat_Int,indexAddrS,hK0,hK1,eO,ld0,h1,aP,aB,e0,e1,sz,aQ,aR,bE,aS,bF,aT,aU])
   all_goals (rw[iL a _ (by omega)]; rfl)
  | cons c r =>
   have hb:=bl b; have hc:=bl c; simp (disch:=omega) only[t128,go_sem,aI,Int.natCast_add,Int.cast_ofNat_Int,indexAddrS,hK0,hK1,eO,ld0,h1,aP,aB,e0,e1,sz,aQ,aR,bE,aS,bF,aT,aU]
   repeat' (first|(first|refine cN (fun h=>?_) (fun h=>?_)|refine cO (fun h=>?_) (fun h=>?_)|refine cP (fun h=>?_) (fun h=>?_)|refine dG (fun h=>?_) (fun h=>?_))|simp (disch:=omega) only[go_sem,aI,Int.natCast_add,Int.cast_ofNat_Int,indexAddrS,hK0,hK1,eO,ld0,h1,aP,aB,e0,e1,sz,aQ,aR,bE,aS,bF,aT,aU])
   all_goals (first|(rw[aL2 a b c _ (by omega) (by omega)]; rfl)|(rw[aFb a b c _ (by omega) (by omega) (by omega)]; simp))
set_option maxHeartbeats 8000000 in
theorem bD5 (t:Tag)(a:UInt8)(r:List UInt8)(h1:tab a.toNat=3)(h2:224<a.toNat∧a.toNat<237∨237<a.toNat∧a.toNat<240):(lim K).call 128 [.iv (.sl t (aN (a::r)))] []=.ret (.tup [.iv (.int .i32 (D (a::r)).1),.iv (.int .i64 (D (a::r)).2)],[]):=by
 have ha:=bl a
 refine aD K [] (fn:=t128) rfl rfl ?_
 have e0:dL (.iv (.cp g1)) 0=some (.iv (.cp g1)):=rfl
 have e1:∀env S,bH env S (.iv (.cp g1)) 2=some [.iv (.int .u8 128),.iv (.int .u8 191)]:=fun _ _=>rfl
 have sz:IntKind.u8.wrap (nZ 8 3 7)=3:=by decide
 cases r with
 | nil =>
  simp (disch:=omega) only[t128,go_sem,aI,Int.natCast_add,Int.cast_ofNat_Int,indexAddrS,hK0,hK1,eO,ld0,h1,aP,aB,e0,e1,sz,aQ,aR,bE,aS,bF,aT,aU]
  repeat' (first|(first|refine cN (fun h=>?_) (fun h=>?_)|refine cO (fun h=>?_) (fun h=>?_)|refine cP (fun h=>?_) (fun h=>?_)|refine dG (fun h=>?_) (fun h=>?_))|simp (disch:=omega) only[go_sem,aI,Int.natCast_add,Int.cast_ofNat_Int,indexAddrS,hK0,hK1,eO,ld0,h1,aP,aB,e0,e1,sz,aQ,aR,bE,aS,bF,aT,aU])
  all_goals (rw[iL a _ (by omega)]; rfl)
 | cons b r =>
  cases r with
  | nil =>
   have hb:=bl b; simp (disch:=omega) only[t128,go_sem,aI,Int.natCast_add,Int.cast_ofNat_Int,indexAddrS,hK0,hK1,eO,ld0,h1,aP,aB,e0,e1,sz,aQ,aR,bE,aS,bF,aT,aU]
   repeat' (first|(first|refine cN (fun h=>?_) (fun h=>?_)|refine cO (fun h=>?_) (fun h=>?_)|refine cP (fun h=>?_) (fun h=>?_)|refine dG (fun h=>?_) (fun h=>?_))|simp (disch:=omega) only[go_sem,aI,Int.natCast_add,Int.cast_ofNat_Int,indexAddrS,hK0,hK1,eO,ld0,h1,aP,aB,e0,e1,sz,aQ,aR,bE,aS,bF,aT,aU])
   all_goals (rw[iL a _ (by omega)]; rfl)
  | cons c r =>
   have hb:=bl b; have hc:=bl c; simp (disch:=omega) only[t128,go_sem,aI,Int.natCast_add,Int.cast_ofNat_Int,indexAddrS,hK0,hK1,eO,ld0,h1,aP,aB,e0,e1,sz,aQ,aR,bE,aS,bF,aT,aU]
   repeat' (first|(first|refine cN (fun h=>?_) (fun h=>?_)|refine cO (fun h=>?_) (fun h=>?_)|refine cP (fun h=>?_) (fun h=>?_)|refine dG (fun h=>?_) (fun h=>?_))|simp (disch:=omega) only[go_sem,aI,Int.natCast_add,Int.cast_ofNat_Int,indexAddrS,hK0,hK1,eO,ld0,h1,aP,aB,e0,e1,sz,aQ,aR,bE,aS,bF,aT,aU])
   all_goals (first|(rw[aL2 a b c _ (by omega) (by omega)]; rfl)|(rw[aFb a b c _ (by omega) (by omega) (by omega)]; simp))
set_option maxHeartbeats 8000000 in
theorem bD6 (t:Tag)(a:UInt8)(r:List UInt8)(h1:tab a.toNat=35)(h2:a.toNat=237):(lim K).call 128 [.iv (.sl t (aN (a::r)))] []=.ret (.tup [.iv (.int .i32 (D (a::r)).1),.iv (.int .i64 (D (a::r)).2)],[]):=by
 have ha:=bl a
 refine aD K [] (fn:=t128) rfl rfl ?_
 have e0:dL (.iv (.cp g1)) 4=some (.iv (.cp (g1.drop 4))):=rfl
 have e1:∀env S,bH env S (.iv (.cp (g1.drop 4))) 2=some [.iv (.int .u8 128),.iv (.int .u8 159)]:=fun _ _=>rfl
 have sz:IntKind.u8.wrap (nZ 8 35 7)=3:=by decide
 cases r with
 | nil =>
  simp (disch:=omega) only[t128,go_sem,aI,Int.natCast_add,Int.cast_ofNat_Int,indexAddrS,hK0,hK1,eO,ld0,h1,aP,aB,e0,e1,sz,aQ,aR,bE,aS,bF,aT,aU]
  repeat' (first|(first|refine cN (fun h=>?_) (fun h=>?_)|refine cO (fun h=>?_) (fun h=>?_)|refine cP (fun h=>?_) (fun h=>?_)|refine dG (fun h=>?_) (fun h=>?_))|simp (disch:=omega) only[go_sem,aI,Int.natCast_add,Int.cast_ofNat_Int,indexAddrS,hK0,hK1,eO,ld0,h1,aP,aB,e0,e1,sz,aQ,aR,bE,aS,bF,aT,aU])
  all_goals (rw[iL a _ (by omega)]; rfl)
 | cons b r =>
  cases r with
  | nil =>
   have hb:=bl b; simp (disch:=omega) only[t128,go_sem,aI,Int.natCast_add,Int.cast_ofNat_Int,indexAddrS,hK0,hK1,eO,ld0,h1,aP,aB,e0,e1,sz,aQ,aR,bE,aS,bF,aT,aU]
   repeat' (first|(first|refine cN (fun h=>?_) (fun h=>?_)|refine cO (fun h=>?_) (fun h=>?_)|refine cP (fun h=>?_) (fun h=>?_)|refine dG (fun h=>?_) (fun h=>?_))|simp (disch:=omega) only[go_sem,aI,Int.natCast_add,Int.cast_ofNat_Int,indexAddrS,hK0,hK1,eO,ld0,h1,aP,aB,e0,e1,sz,aQ,aR,bE,aS,bF,aT,aU])
   all_goals (rw[iL a _ (by omega)]; rfl)
  | cons c r =>
   have hb:=bl b; have hc:=bl c; simp (disch:=omega) only[t128,go_sem,aI,Int.natCast_add,Int.cast_ofNat_Int,indexAddrS,hK0,hK1,eO,ld0,h1,aP,aB,e0,e1,sz,aQ,aR,bE,aS,bF,aT,aU]
   repeat' (first|(first|refine cN (fun h=>?_) (fun h=>?_)|refine cO (fun h=>?_) (fun h=>?_)|refine cP (fun h=>?_) (fun h=>?_)|refine dG (fun h=>?_) (fun h=>?_))|simp (disch:=omega) only[go_sem,aI,Int.natCast_add,Int.cast_ofNat_Int,indexAddrS,hK0,hK1,eO,ld0,h1,aP,aB,e0,e1,sz,aQ,aR,bE,aS,bF,aT,aU])
   all_goals (first|(rw[aL2 a b c _ (by omega) (by omega)]; rfl)|(rw[aFb a b c _ (by omega) (by omega) (by omega)]; simp))
set_option maxHeartbeats 8000000 in
theorem bD7 (t:Tag)(a:UInt8)(r:List UInt8)(h1:tab a.toNat=52)(h2:a.toNat=240):(lim K).call 128 [.iv (.sl t (aN (a::r)))] []=.ret (.tup [.iv (.int .i32 (D (a::r)).1),.iv (.int .i64 (D (a::r)).2)],[]):=by
 have ha:=bl a
 refine aD K [] (fn:=t128) rfl rfl ?_
 have e0:dL (.iv (.cp g1)) 6=some (.iv (.cp (g1.drop 6))):=rfl
 have e1:∀env S,bH env S (.iv (.cp (g1.drop 6))) 2=some [.iv (.int .u8 144),.iv (.int .u8 191)]:=fun _ _=>rfl
 have sz:IntKind.u8.wrap (nZ 8 52 7)=4:=by decide
 cases r with
 | nil =>
  simp (disch:=omega) only[t128,go_sem,aI,Int.natCast_add,Int.cast_ofNat_Int,indexAddrS,hK0,hK1,eO,ld0,h1,aP,aB,e0,e1,sz,aQ,aR,bE,aS,bF,aT,aU]
  repeat' (first|(first|refine cN (fun h=>?_) (fun h=>?_)|refine cO (fun h=>?_) (fun h=>?_)|refine cP (fun h=>?_) (fun h=>?_)|refine dG (fun h=>?_) (fun h=>?_))|simp (disch:=omega) only[go_sem,aI,Int.natCast_add,Int.cast_ofNat_Int,indexAddrS,hK0,hK1,eO,ld0,h1,aP,aB,e0,e1,sz,aQ,aR,bE,aS,bF,aT,aU])
  all_goals (rw[iD a _ (by omega)]; rfl)
 | cons b r =>
  cases r with
  | nil =>
   have hb:=bl b; simp (disch:=omega) only[t128,go_sem,aI,Int.natCast_add,Int.cast_ofNat_Int,indexAddrS,hK0,hK1,eO,ld0,h1,aP,aB,e0,e1,sz,aQ,aR,bE,aS,bF,aT,aU]
   repeat' (first|(first|refine cN (fun h=>?_) (fun h=>?_)|refine cO (fun h=>?_) (fun h=>?_)|refine cP (fun h=>?_) (fun h=>?_)|refine dG (fun h=>?_) (fun h=>?_))|simp (disch:=omega) only[go_sem,aI,Int.natCast_add,Int.cast_ofNat_Int,indexAddrS,hK0,hK1,eO,ld0,h1,aP,aB,e0,e1,sz,aQ,aR,bE,aS,bF,aT,aU])
   all_goals (rw[iD a _ (by omega)]; rfl)
  | cons c r =>
   cases r with
   | nil =>
    have hb:=bl b; have hc:=bl c; simp (disch:=omega) only[t128,go_sem,aI,Int.natCast_add,Int.cast_ofNat_Int,indexAddrS,hK0,hK1,eO,ld0,h1,aP,aB,e0,e1,sz,aQ,aR,bE,aS,bF,aT,aU]
    repeat' (first|(first|refine cN (fun h=>?_) (fun h=>?_)|refine cO (fun h=>?_) (fun h=>?_)|refine cP (fun h=>?_) (fun h=>?_)|refine dG (fun h=>?_) (fun h=>?_))|simp (disch:=omega) only[go_sem,aI,Int.natCast_add,Int.cast_ofNat_Int,indexAddrS,hK0,hK1,eO,ld0,h1,aP,aB,e0,e1,sz,aQ,aR,bE,aS,bF,aT,aU])
    all_goals (rw[iD a _ (by omega)]; rfl)
   | cons d r =>
    have hb:=bl b; have hc:=bl c; have hd:=bl d; simp (disch:=omega) only[t128,go_sem,aI,Int.natCast_add,Int.cast_ofNat_Int,indexAddrS,hK0,hK1,eO,ld0,h1,aP,aB,e0,e1,sz,aQ,aR,bE,aS,bF,aT,aU]
    repeat' (first|(first|refine cN (fun h=>?_) (fun h=>?_)|refine cO (fun h=>?_) (fun h=>?_)|refine cP (fun h=>?_) (fun h=>?_)|refine dG (fun h=>?_) (fun h=>?_))|simp (disch:=omega) only[go_sem,aI,Int.natCast_add,Int.cast_ofNat_Int,indexAddrS,hK0,hK1,eO,ld0,h1,aP,aB,e0,e1,sz,aQ,aR,bE,aS,bF,aT,aU])
    all_goals (first|(rw[aL3 a b c d _ (by omega) (by omega)]; rfl)|(rw[aFc a b c d _ (by omega) (by omega) (by omega) (by omega)]; simp))
set_option maxHeartbeats 8000000 in
theorem bD8 (t:Tag)(a:UInt8)(r:List UInt8)(h1:tab a.toNat=4)(h2:240<a.toNat∧a.toNat<244):(lim K).call 128 [.iv (.sl t (aN (a::r)))] []=.ret (.tup [.iv (.int .i32 (D (a::r)).1),.iv (.int .i64 (D (a::r)).2)],[]):=by
 have ha:=bl a
 refine aD K [] (fn:=t128) rfl rfl ?_
 have e0:dL (.iv (.cp g1)) 0=some (.iv (.cp g1)):=rfl
 have e1:∀env S,bH env S (.iv (.cp g1)) 2=some [.iv (.int .u8 128),.iv (.int .u8 191)]:=fun _ _=>rfl
 have sz:IntKind.u8.wrap (nZ 8 4 7)=4:=by decide
 cases r with
 | nil =>
  simp (disch:=omega) only[t128,go_sem,aI,Int.natCast_add,Int.cast_ofNat_Int,indexAddrS,hK0,hK1,eO,ld0,h1,aP,aB,e0,e1,sz,aQ,aR,bE,aS,bF,aT,aU]
  repeat' (first|(first|refine cN (fun h=>?_) (fun h=>?_)|refine cO (fun h=>?_) (fun h=>?_)|refine cP (fun h=>?_) (fun h=>?_)|refine dG (fun h=>?_) (fun h=>?_))|simp (disch:=omega) only[go_sem,aI,Int.natCast_add,Int.cast_ofNat_Int,indexAddrS,hK0,hK1,eO,ld0,h1,aP,aB,e0,e1,sz,aQ,aR,bE,aS,bF,aT,aU])
  all_goals (rw[iD a _ (by omega)]; rfl)
 | cons b r =>
  cases r with
  | nil =>
   have hb:=bl b; simp (disch:=omega) only[t128,go_sem,aI,Int.natCast_add,Int.cast_ofNat_Int,indexAddrS,hK0,hK1,eO,ld0,h1,aP,aB,e0,e1,sz,aQ,aR,bE,aS,bF,aT,aU]
   repeat' (first|(first|refine cN (fun h=>?_) (fun h=>?_)|refine cO (fun h=>?_) (fun h=>?_)|refine cP (fun h=>?_) (fun h=>?_)|refine dG (fun h=>?_) (fun h=>?_))|simp (disch:=omega) only[go_sem,aI,Int.natCast_add,Int.cast_ofNat_Int,indexAddrS,hK0,hK1,eO,ld0,h1,aP,aB,e0,e1,sz,aQ,aR,bE,aS,bF,aT,aU])
   all_goals (rw[iD a _ (by omega)]; rfl)
  | cons c r =>
   cases r with
   | nil =>
    have hb:=bl b; have hc:=bl c; simp (disch:=omega) only[t128,go_sem,aI,Int.natCast_add,Int.cast_ofNat_Int,indexAddrS,hK0,hK1,eO,ld0,h1,aP,aB,e0,e1,sz,aQ,aR,bE,aS,bF,aT,aU]
    repeat' (first|(first|refine cN (fun h=>?_) (fun h=>?_)|refine cO (fun h=>?_) (fun h=>?_)|refine cP (fun h=>?_) (fun h=>?_)|refine dG (fun h=>?_) (fun h=>?_))|simp (disch:=omega) only[go_sem,aI,Int.natCast_add,Int.cast_ofNat_Int,indexAddrS,hK0,hK1,eO,ld0,h1,aP,aB,e0,e1,sz,aQ,aR,bE,aS,bF,aT,aU])
    all_goals (rw[iD a _ (by omega)]; rfl)
   | cons d r =>
    have hb:=bl b; have hc:=bl c; have hd:=bl d; simp (disch:=omega) only[t128,go_sem,aI,Int.natCast_add,Int.cast_ofNat_Int,indexAddrS,hK0,hK1,eO,ld0,h1,aP,aB,e0,e1,sz,aQ,aR,bE,aS,bF,aT,aU]
    repeat' (first|(first|refine cN (fun h=>?_) (fun h=>?_)|refine cO (fun h=>?_) (fun h=>?_)|refine cP (fun h=>?_) (fun h=>?_)|refine dG (fun h=>?_) (fun h=>?_))|simp (disch:=omega) only[go_sem,aI,Int.natCast_add,Int.cast_ofNat_Int,indexAddrS,hK0,hK1,eO,ld0,h1,aP,aB,e0,e1,sz,aQ,aR,bE,aS,bF,aT,aU])
    all_goals (first|(rw[aL3 a b c d _ (by omega) (by omega)]; rfl)|(rw[aFc a b c d _ (by omega) (by omega) (by omega) (by omega)]; simp))
set_option maxHeartbeats 8000000 in
theorem bD9 (t:Tag)(a:UInt8)(r:List UInt8)(h1:tab a.toNat=68)(h2:a.toNat=244):(lim K).call 128 [.iv (.sl t (aN (a::r)))] []=.ret (.tup [.iv (.int .i32 (D (a::r)).1),.iv (.int .i64 (D (a::r)).2)],[]):=by
 have ha:=bl a
 refine aD K [] (fn:=t128) rfl rfl ?_
 have e0:dL (.iv (.cp g1)) 8=some (.iv (.cp (g1.drop 8))):=rfl
 have e1:∀env S,bH env S (.iv (.cp (g1.drop 8))) 2=some [.iv (.int .u8 128),.iv (.int .u8 143)]:=fun _ _=>rfl
 have sz:IntKind.u8.wrap (nZ 8 68 7)=4:=by decide
 cases r with
 | nil =>
  simp (disch:=omega) only[t128,go_sem,aI,Int.natCast_add,Int.cast_ofNat_Int,indexAddrS,hK0,hK1,eO,ld0,h1,aP,aB,e0,e1,sz,aQ,aR,bE,aS,bF,aT,aU]
  repeat' (first|(first|refine cN (fun h=>?_) (fun h=>?_)|refine cO (fun h=>?_) (fun h=>?_)|refine cP (fun h=>?_) (fun h=>?_)|refine dG (fun h=>?_) (fun h=>?_))|simp (disch:=omega) only[go_sem,aI,Int.natCast_add,Int.cast_ofNat_Int,indexAddrS,hK0,hK1,eO,ld0,h1,aP,aB,e0,e1,sz,aQ,aR,bE,aS,bF,aT,aU])
  all_goals (rw[iD a _ (by omega)]; rfl)
 | cons b r =>
  cases r with
  | nil =>
   have hb:=bl b; simp (disch:=omega) only[t128,go_sem,aI,Int.natCast_add,Int.cast_ofNat_Int,indexAddrS,hK0,hK1,eO,ld0,h1,aP,aB,e0,e1,sz,aQ,aR,bE,aS,bF,aT,aU]
   repeat' (first|(first|refine cN (fun h=>?_) (fun h=>?_)|refine cO (fun h=>?_) (fun h=>?_)|refine cP (fun h=>?_) (fun h=>?_)|refine dG (fun h=>?_) (fun h=>?_))|simp (disch:=omega) only[go_sem,aI,Int.natCast_add,Int.cast_ofNat_Int,indexAddrS,hK0,hK1,eO,ld0,h1,aP,aB,e0,e1,sz,aQ,aR,bE,aS,bF,aT,aU])
   all_goals (rw[iD a _ (by omega)]; rfl)
  | cons c r =>
   cases r with
   | nil =>
    have hb:=bl b; have hc:=bl c; simp (disch:=omega) only[t128,go_sem,aI,Int.natCast_add,Int.cast_ofNat_Int,indexAddrS,hK0,hK1,eO,ld0,h1,aP,aB,e0,e1,sz,aQ,aR,bE,aS,bF,aT,aU]
    repeat' (first|(first|refine cN (fun h=>?_) (fun h=>?_)|refine cO (fun h=>?_) (fun h=>?_)|refine cP (fun h=>?_) (fun h=>?_)|refine dG (fun h=>?_) (fun h=>?_))|simp (disch:=omega) only[go_sem,aI,Int.natCast_add,Int.cast_ofNat_Int,indexAddrS,hK0,hK1,eO,ld0,h1,aP,aB,e0,e1,sz,aQ,aR,bE,aS,bF,aT,aU])
    all_goals (rw[iD a _ (by omega)]; rfl)
   | cons d r =>
    have hb:=bl b; have hc:=bl c; have hd:=bl d; simp (disch:=omega) only[t128,go_sem,aI,Int.natCast_add,Int.cast_ofNat_Int,indexAddrS,hK0,hK1,eO,ld0,h1,aP,aB,e0,e1,sz,aQ,aR,bE,aS,bF,aT,aU]
    repeat' (first|(first|refine cN (fun h=>?_) (fun h=>?_)|refine cO (fun h=>?_) (fun h=>?_)|refine cP (fun h=>?_) (fun h=>?_)|refine dG (fun h=>?_) (fun h=>?_))|simp (disch:=omega) only[go_sem,aI,Int.natCast_add,Int.cast_ofNat_Int,indexAddrS,hK0,hK1,eO,ld0,h1,aP,aB,e0,e1,sz,aQ,aR,bE,aS,bF,aT,aU])
    all_goals (first|(rw[aL3 a b c d _ (by omega) (by omega)]; rfl)|(rw[aFc a b c d _ (by omega) (by omega) (by omega) (by omega)]; simp))
theorem aL4 (t:Tag)(l:List UInt8):(lim K).call 128 [.iv (.sl t (aN l))] []=.ret (.tup [.iv (.int .i32 (D l).1),.iv (.int .i64 (D l).2)],[]):=by
 cases l with
 | nil=>exact aE9 t
 | cons a r =>
  have ha:=bl a
  by_cases h1:a.toNat<128
  ·rw[aNp t a r h1,pQ a r h1]; rfl
  by_cases h2:a.toNat<194∨245≤a.toNat
  ·rw[aYs t a r (by simp only[tab]; (repeat' split)<;>omega),aL0 a r (by omega)]; rfl
  by_cases h3:a.toNat<224
  ·exact aYt t a r (by simp only[tab]; (repeat' split)<;>omega) (by omega)
  by_cases h4:a.toNat=224
  ·exact bD4 t a r (by simp only[tab]; (repeat' split)<;>omega) h4
  by_cases h5:a.toNat=237
  ·exact bD6 t a r (by simp only[tab]; (repeat' split)<;>omega) h5
  by_cases h6:a.toNat<240
  ·exact bD5 t a r (by simp only[tab]; (repeat' split)<;>omega) (by omega)
  by_cases h7:a.toNat=240
  ·exact bD7 t a r (by simp only[tab]; (repeat' split)<;>omega) h7
  by_cases h8:a.toNat=244
  ·exact bD9 t a r (by simp only[tab]; (repeat' split)<;>omega) h8
  ·exact bD8 t a r (by simp only[tab]; (repeat' split)<;>omega) (by omega)
theorem aFd (t:Tag):lp' (lim K) t103L0 [.iv (.sl t (aN [])),.iv (.int .i32 0),.iv (.int .i64 0),u_,.iv (.sl t (aN [])),.iv (.int .i64 0),.iv (.int .i64 0),u_,u_] []=.ret (.exit 0,[.iv (.sl t (aN [])),.iv (.int .i32 0),.iv (.int .i64 0),u_,.iv (.sl t (aN [])),.iv (.int .i64 0),.iv (.int .i64 0),.iv (.bool false),u_],[]):=by
 refine qI K _ _ ?_
 simp (disch:=omega) only[t103L0,go_sem]
theorem aYu (t:Tag)(l:List UInt8):(lim K).call 103 [.iv (.sl t (aN l))] []=.ret (.tup [.iv (.int .i32 (D l).1),.iv (.int .i64 (D l).2)],[]):=by
 refine aD K [] (fn:=t103) rfl rfl ?_
 cases l with
 | nil=>simp (disch:=omega) only[t103,go_sem,Int.cast_ofNat_Int,aFd,aL4]
 | cons a r =>
  have ha:=bl a
  by_cases h:a.toNat<128
  ·have hl:lp' (lim K) t103L0 [.iv (.sl t (aN (a::r))),.iv (.int .i32 0),.iv (.int .i64 0),u_,.iv (.sl t (aN (a::r))),.iv (.int .i64 ((r.length+1:Nat):Int)),.iv (.int .i64 0),u_,u_] []=.ret (.ret,[.iv (.sl t (aN (a::r))),.iv (.int .i32 a.toNat),.iv (.int .i64 1),.iv (.int .u8 a.toNat),.iv (.sl t (aN (a::r))),.iv (.int .i64 ((r.length+1:Nat):Int)),.iv (.int .i64 0),.iv (.bool true),.iv (.bool true)],[]):=by
    refine qI K _ _ ?_
    simp (disch:=omega) only[t103L0,go_sem,aI,indexAddrS,aP]
   simp (disch:=omega) only[t103,go_sem,Int.cast_ofNat_Int,hl,pQ a r h]
  ·have hl:lp' (lim K) t103L0 [.iv (.sl t (aN (a::r))),.iv (.int .i32 0),.iv (.int .i64 0),u_,.iv (.sl t (aN (a::r))),.iv (.int .i64 ((r.length+1:Nat):Int)),.iv (.int .i64 0),u_,u_] []=.ret (.exit 0,[.iv (.sl t (aN (a::r))),.iv (.int .i32 0),.iv (.int .i64 0),.iv (.int .u8 a.toNat),.iv (.sl t (aN (a::r))),.iv (.int .i64 ((r.length+1:Nat):Int)),.iv (.int .i64 0),.iv (.bool true),.iv (.bool false)],[]):=by
    refine qI K _ _ ?_
    simp (disch:=omega) only[t103L0,go_sem,aI,indexAddrS,aP]
   simp (disch:=omega) only[t103,go_sem,Int.cast_ofNat_Int,hl,aL4]
def bad (l:List UInt8):Bool:=decide ((D l).1=65533)&&decide ((D l).2≤1)
theorem aL5 (c n:Int):(lim K).call 104 [.iv (.int .i32 c),.iv (.int .i64 n)] []=.ret (.iv (.bool (decide (c=65533)&&decide (n≤1))),[]):=by
 refine aD K [] (fn:=t104) rfl rfl ?_
 simp only[t104,go_sem]
 repeat' (first|(first|refine cN (fun h=>?_) (fun h=>?_)|refine cO (fun h=>?_) (fun h=>?_)|refine cP (fun h=>?_) (fun h=>?_)|refine dG (fun h=>?_) (fun h=>?_))|simp (disch:=omega) only[go_sem])
 all_goals (congr 4; simp[*])
theorem bG5 (l:List UInt8):(D l).1<2097152∧(D l).2≤4:=by
 cases l with
 | nil=>simp[D]
 | cons a r =>
  have ha:=bl a
  simp only[D]
  repeat' split
  all_goals (simp only; try omega)
def xR (l:List UInt8)(i:Int):Int×Int×Int :=
 if i<0∨(l.length:Int)≤i then (0,0,2)
 else if bad (l.drop i.toNat) then (0,0,4)
 else ((D (l.drop i.toNat)).1,(D (l.drop i.toNat)).2,0)
def aIl (x:Int×Int×Int):TV:=.tup [.iv (.int .i64 x.1),.iv (.int .i64 x.2.1),.iv (.int .i64 x.2.2)]
def vE (n:Int):List UInt8→Int
 | []=>n
 | b::r=>vE (64*n+b.toNat % 64) r
def gX:List UInt8→Int
 | []=>0
 | a::r=>vE (if r.length=1 then a.toNat % 32 else if r.length=2 then a.toNat % 16 else if r.length=3 then a.toNat % 8 else a.toNat) r
theorem aIm (l:List UInt8)(i:Int)(h:0≤i∧i<l.length):l.drop i.toNat=l.getD i.toNat 0::l.drop (i+1).toNat:=by
 have h1:i.toNat<l.length:=by omega
 rw[List.drop_eq_getElem_cons h1,show (i+1).toNat=i.toNat+1 by omega]
 simp[List.getD,List.getElem?_eq_getElem h1]
theorem sE (t:Tag)(l:List UInt8)(r0 f a b c:TV)(hl:l.length≤4):∀(k:Nat) (i n:Int) (x:TV),i+k=l.length→1≤i→0≤n→(n+1)*64 ^ k≤1099511627776 →
  lp' (lim K) t132L0 [.iv (.sl t (aN l)),r0,f,.iv (.int .i64 n),.iv (.int .i64 i),a,b,c,x] []=.ret (.exit 0,[.iv (.sl t (aN l)),r0,f,.iv (.int .i64 (vE n (l.drop i.toNat))),.iv (.int .i64 l.length),a,b,c,.iv (.bool false)],[])
 | 0,i,n,x,hk,hi,hn,hb=>by
  have e:l.drop i.toNat=[]:=List.drop_of_length_le (by omega)
  obtain rfl:i=l.length:=by omega
  refine aG K _ _ t132L0.eq_1 ?_
  simp (disch:=omega) only[go_sem,e,vE]
 | k+1,i,n,x,hk,hi,hn,hb=>by
  refine aG K _ _ t132L0.eq_1 ?_
  have hx:=bl (l.getD i.toNat 0)
  have h1:(1:Int)≤64 ^ k:=Int.pow_pos (by decide)
  have h2:(n+1)*64 ^ (k+1)=(64*(n+1))*64 ^ k:=by rw[Int.pow_succ]; ac_rfl
  have h3:64*(n+1)*1≤(64*(n+1))*64 ^ k:=Int.mul_le_mul_of_nonneg_left h1 (by omega)
  have h4:(64*n+(l.getD i.toNat 0).toNat % 64+1)*64 ^ k≤(64*(n+1))*64 ^ k:=Int.mul_le_mul_of_nonneg_right (by omega) (by omega)
  simp (disch:=omega) only[go_sem,mR,aB,Int.tmod_eq_emod_of_nonneg]
  rw[sE t l r0 f a b c hl k (i+1) _ _ (by omega) (by omega) (by omega) (by omega)]
  rw[aIm l i (by omega)]
  rfl
theorem aYv (t:Tag)(l:List UInt8)(h:1≤l.length∧l.length≤4):(lim K).call 132 [.iv (.sl t (aN l))] []=.ret (.iv (.int .i64 (gX l)),[]):=by
 refine aD K [] (fn:=t132) rfl rfl ?_
 cases l with
 | nil=>simp at h
 | cons a r =>
  have ha:=bl a
  simp only[List.length_cons]at h
  have hl:r.length≤3:=by omega
  have hp:(64:Int) ^ r.length≤64 ^ 3:=by
   have:=Nat.pow_le_pow_right (n:=64) (by decide) hl
   exact_mod_cast this
  have key:∀n:Int,0≤n→n≤255→(n+1)*64 ^ r.length≤1099511627776:=by
   intro n h0 h1
   have e1:(n+1)*64 ^ r.length≤(n+1)*64 ^ 3:=Int.mul_le_mul_of_nonneg_left hp (by omega)
   omega
  by_cases h1:r.length=1
  ·have e:=sE t (a::r) (.iv (.int .i64 0)) (.iv (.int .i64 a.toNat)) (.iv (.bool true)) (.iv (.bool false)) (.iv (.bool false)) (by simp; omega) r.length 1 (a.toNat % 32) u_ (by simp; omega) (by omega) (by omega) (key _ (by omega) (by omega))
   simp (disch:=omega) only[t132,go_sem,mR,aB,Int.tmod_eq_emod_of_nonneg,indexAddrS,aI,h1,Int.cast_ofNat_Int]
   simp only[aI]at e
   simp (disch:=omega) only[go_sem,e,gX,h1]
  by_cases h2:r.length=2
  ·have e:=sE t (a::r) (.iv (.int .i64 0)) (.iv (.int .i64 a.toNat)) (.iv (.bool false)) (.iv (.bool true)) (.iv (.bool false)) (by simp; omega) r.length 1 (a.toNat % 16) u_ (by simp; omega) (by omega) (by omega) (key _ (by omega) (by omega))
   simp (disch:=omega) only[t132,go_sem,mR,aB,Int.tmod_eq_emod_of_nonneg,indexAddrS,aI,h2,Int.cast_ofNat_Int]
   simp only[aI]at e
   simp (disch:=omega) only[go_sem,e,gX,h2]
  by_cases h3:r.length=3
  ·have e:=sE t (a::r) (.iv (.int .i64 0)) (.iv (.int .i64 a.toNat)) (.iv (.bool false)) (.iv (.bool false)) (.iv (.bool true)) (by simp; omega) r.length 1 (a.toNat % 8) u_ (by simp; omega) (by omega) (by omega) (key _ (by omega) (by omega))
   simp (disch:=omega) only[t132,go_sem,mR,aB,Int.tmod_eq_emod_of_nonneg,indexAddrS,aI,h3,Int.cast_ofNat_Int]
   simp only[aI]at e
   simp (disch:=omega) only[go_sem,e,gX,h3]
  ·have e:=sE t (a::r) (.iv (.int .i64 0)) (.iv (.int .i64 a.toNat)) (.iv (.bool false)) (.iv (.bool false)) (.iv (.bool false)) (by simp; omega) r.length 1 a.toNat u_ (by simp; omega) (by omega) (by omega) (key _ (by omega) (by omega))
   have h0:r.length=0:=by omega
   simp (disch:=omega) only[t132,go_sem,mR,aB,Int.tmod_eq_emod_of_nonneg,indexAddrS,aI,h0,Int.cast_ofNat_Int]
   simp only[aI]at e
   simp (disch:=omega) only[go_sem,e,gX,h0]
theorem gY {n:Nat}(h:n<256):(UInt8.ofNat n).toNat=n:=by simp[UInt8.toNat_ofNat]; omega
theorem eq8 {a:UInt8}{n:Nat}(h:a.toNat=n):a=UInt8.ofNat n:=by
 have:=bl a
 apply UInt8.toNat_inj.1
 rw[gY (by omega),h]
theorem aCs {c:Int}(h:c<128):eC c=[UInt8.ofNat c.toNat]:=by simp[eC,h]
theorem aCt {c:Int}(h:128≤c∧c<2048):eC c=[UInt8.ofNat (192+c.toNat / 64),UInt8.ofNat (128+c.toNat % 64)]:=by
 have h1:¬c<128:=by omega
 simp[eC,h1,h.2]
theorem aCu {c:Int}(h:2048≤c∧c<65536):eC c=[UInt8.ofNat (224+c.toNat / 4096),UInt8.ofNat (128+c.toNat / 64 % 64),UInt8.ofNat (128+c.toNat % 64)]:=by
 have h1:¬c<128:=by omega
 have h2:¬c<2048:=by omega
 simp[eC,h1,h2,h.2]
theorem aCv {c:Int}(h:65536≤c):eC c=[UInt8.ofNat (240+c.toNat / 262144),UInt8.ofNat (128+c.toNat / 4096 % 64),UInt8.ofNat (128+c.toNat / 64 % 64),UInt8.ofNat (128+c.toNat % 64)]:=by
 have h1:¬c<128:=by omega
 have h2:¬c<2048:=by omega
 have h3:¬c<65536:=by omega
 simp[eC,h1,h2,h3]
theorem aL6 {c:Int}(h:isC c=true)(r:List UInt8):D (eC c++r)=(c.toNat,(eC c).length):=by
 have hc:=(kU c).1 h
 by_cases h1:c<128
 ·rw[aCs h1]
  simp only[List.cons_append,List.nil_append]
  rw[pQ _ _ (by rw[gY (by omega)]; omega),gY (by omega)]; rfl
 by_cases h2:c<2048
 ·rw[aCt (by omega)]
  simp only[List.cons_append,List.nil_append]
  rw[aRu _ _ _ (by rw[gY (by omega)]; omega) (by rw[gY (by omega)]; omega),gY (by omega),gY (by omega)]
  simp; omega
 by_cases h3:c<65536
 ·rw[aCu (by omega)]
  simp only[List.cons_append,List.nil_append]
  rw[aFb _ _ _ _ (by rw[gY (by omega)]; omega) (by rw[gY (by omega),gY (by omega)]; omega) (by rw[gY (by omega)]; omega),gY (by omega),gY (by omega),gY (by omega)]
  simp; omega
 ·rw[aCv (by omega)]
  simp only[List.cons_append,List.nil_append]
  rw[aFc _ _ _ _ _ (by rw[gY (by omega)]; omega) (by rw[gY (by omega),gY (by omega)]; omega) (by rw[gY (by omega)]; omega) (by rw[gY (by omega)]; omega),gY (by omega),gY (by omega),gY (by omega),gY (by omega)]
  simp; omega
theorem aYw {c:Int}(h:isC c=true)(r:List UInt8):bad (eC c++r)=false:=by
 have hc:=(kU c).1 h
 simp only[bad,aL6 h]
 by_cases e:c=65533
 ·subst e; rfl
 ·have:¬c.toNat=65533:=by omega
  simp[this]
theorem oB {s:List UInt8}(h:bad s=false):isC ((D s).1:Nat)=true∧eC ((D s).1:Nat)=s.take (D s).2∧1≤(D s).2∧(D s).2≤s.length:=by
 cases s with
 | nil=>simp[bad,D]at h
 | cons a r =>
  have ha:=bl a
  by_cases h1:a.toNat<128
  ·rw[pQ a r h1]
   refine⟨(kU _).2 (by omega),?_,by simp,by simp⟩
   rw[aCs (by omega)]
   simp
  by_cases h2:a.toNat<194∨245≤a.toNat
  ·simp[bad,aL0 a r (by omega)]at h
  by_cases h3:a.toNat<224
  ·cases r with
   | nil=>rw[bad,aFa a _ (by omega)]at h; simp at h
   | cons b r =>
    have hb:=bl b
    by_cases hf:128≤b.toNat∧b.toNat≤191
    ·rw[aRu a b r (by omega) hf]
     refine⟨(kU _).2 (by simp only; omega),?_,by simp,by simp⟩
     rw[aCt (by simp only; omega)]
     simp only[List.take_succ_cons,List.take_zero,Int.toNat_natCast]
     rw[←eq8 (a:=a) (by omega),←eq8 (a:=b) (by omega)]
    ·simp[bad,bDf a b r (by omega) hf]at h
  by_cases h4:a.toNat<240
  ·match r with
   | []=>rw[bad,iL a _ (by omega)]at h; simp at h
   | [b]=>rw[bad,iL a _ (by omega)]at h; simp at h
   | b::c::r =>
    have hb:=bl b
    have hc:=bl c
    by_cases hf:((a.toNat=224→160≤b.toNat)∧128≤b.toNat∧(a.toNat=237→b.toNat≤159)∧b.toNat≤191)∧(128≤c.toNat∧c.toNat≤191)
    ·rw[aFb a b c r (by omega) hf.1 hf.2]
     refine⟨(kU _).2 (by simp only; omega),?_,by simp,by simp⟩
     rw[aCu (by simp only; omega)]
     simp only[List.take_succ_cons,List.take_zero,Int.toNat_natCast]
     rw[←eq8 (a:=a) (by omega),←eq8 (a:=b) (by omega),←eq8 (a:=c) (by omega)]
    ·simp[bad,aL2 a b c r (by omega) (by omega)]at h
  ·match r with
   | []=>rw[bad,iD a _ (by omega)]at h; simp at h
   | [b]=>rw[bad,iD a _ (by omega)]at h; simp at h
   | [b,c]=>rw[bad,iD a _ (by omega)]at h; simp at h
   | b::c::d::r =>
    have hb:=bl b
    have hc:=bl c
    have hd:=bl d
    by_cases hf:((a.toNat=240→144≤b.toNat)∧128≤b.toNat∧(a.toNat=244→b.toNat≤143)∧b.toNat≤191)∧(128≤c.toNat∧c.toNat≤191)∧(128≤d.toNat∧d.toNat≤191)
    ·rw[aFc a b c d r (by omega) hf.1 hf.2.1 hf.2.2]
     refine⟨(kU _).2 (by simp only; omega),?_,by simp,by simp⟩
     rw[aCv (by simp only; omega)]
     simp only[List.take_succ_cons,List.take_zero,Int.toNat_natCast]
     rw[←eq8 (a:=a) (by omega),←eq8 (a:=b) (by omega),←eq8 (a:=c) (by omega),←eq8 (a:=d) (by omega)]
    ·simp[bad,aL3 a b c d r (by omega) (by omega)]at h
theorem xS {c:Int}(h:isC c=true):gX (eC c)=c:=by
 have hc:=(kU c).1 h
 by_cases h1:c<128
 ·rw[aCs h1]; simp[gX,vE,UInt8.toNat_ofNat]; omega
 by_cases h2:c<2048
 ·rw[aCt (by omega)]; simp only[gX,vE,List.length_cons,List.length_nil,↓reduceIte,Nat.reduceAdd]; rw[gY (by omega),gY (by omega)]; omega
 by_cases h3:c<65536
 ·rw[aCu (by omega)]; simp only[gX,vE,List.length_cons,List.length_nil,↓reduceIte,Nat.reduceAdd,Nat.reduceEqDiff]; rw[gY (by omega),gY (by omega),gY (by omega)]; omega
 ·rw[aCv (by omega)]; simp only[gX,vE,List.length_cons,List.length_nil,↓reduceIte,Nat.reduceAdd,Nat.reduceEqDiff]; rw[gY (by omega),gY (by omega),gY (by omega),gY (by omega)]; omega
def kJ (s:List UInt8)(n:Nat):Bool:=isC (gX (s.take n))&&(eC (gX (s.take n))==s.take n)
theorem aRv {s:List UInt8}{n:Nat}(hn:1≤n∧n≤s.length):kJ s n=true↔bad s=false∧(D s).2=n:=by
 constructor
 ·intro h
  simp only[kJ,Bool.and_eq_true,beq_iff_eq]at h
  have e:s=eC (gX (s.take n))++s.drop n:=by rw[h.2,List.take_append_drop]
  have hb:=aYw h.1 (s.drop n)
  have hd:=aL6 h.1 (s.drop n)
  rw[←e]at hb hd
  refine⟨hb,?_⟩
  rw[hd,h.2]
  simp; omega
 ·intro⟨hb,hd⟩
  obtain⟨h1,h2,h3,h4⟩:=oB hb
  rw[hd]at h2
  have ht:gX (s.take n)=(D s).1:=by rw[←h2,xS h1]
  simp only[kJ,ht,h1,h2,beq_self_eq_true,Bool.and_self]
theorem aL7 (t:Tag)(l:List UInt8)(at':Int)(ht:bP t l)(hat:0≤at'∧at'<l.length)(hl:l.length≤4611686018427387904)(r2 r3 r4 a:TV):∀(k:Nat) (n:Int) (x6 x8 x9:TV),n+k=5→1≤n→(bad (l.drop at'.toNat)=false→n≤(D (l.drop at'.toNat)).2) →
  ∃y5 y6 y8 y9,lp' (lim K) t109L0 [.iv (.sl t (aN l)),.iv (.int .i64 at'),r2,r3,r4,.iv (.int .i64 n),x6,a,x8,x9] []=.ret (if bad (l.drop at'.toNat) then (.exit 0,[.iv (.sl t (aN l)),.iv (.int .i64 at'),r2,r3,r4,y5,y6,a,y8,y9],[]) else (.ret,[.iv (.sl t (aN l)),.iv (.int .i64 at'),.iv (.int .i64 (D (l.drop at'.toNat)).1),.iv (.int .i64 (D (l.drop at'.toNat)).2),.iv (.int .i64 0),y5,y6,a,y8,y9],[]))
 | 0,n,x6,x8,x9,hk,hn,hd=>by
  have hb:bad (l.drop at'.toNat)=true:=by
   cases hb:bad (l.drop at'.toNat)
   ·have:=bG5 (l.drop at'.toNat); have:=hd hb; omega
   ·rfl
  refine⟨?_,?_,?_,?_,aG K _ _ t109L0.eq_1 ?_⟩
  rotate_left 4
  ·simp (disch:=omega) only[go_sem,hb]
   rfl
 | k+1,n,x6,x8,x9,hk,hn,hd=>by
  by_cases hlen:at'+n≤l.length
  ·have hs:(l.drop at'.toNat).length=l.length-at'.toNat:=List.length_drop
   have e1:(at'+n).toNat-at'.toNat=n.toNat:=by omega
   have hsl:dE [] (.sl 1) (.iv (.sl t (aN l))) (some at') (some (at'+n)) none=some (.iv (.sl (gT t l.length (at'+n).toNat) (aN ((l.drop at'.toNat).take n.toNat)))):=by
    rw[aH9 [] ht (by omega),e1]
   have h27:=fun tg=>aYv tg ((l.drop at'.toNat).take n.toNat) (by rw[List.length_take,hs]; omega)
   have hfi:=aRv (s:=l.drop at'.toNat) (n:=n.toNat) (by rw[hs]; omega)
   have ih0:=aL7 t l at' ht hat hl r2 r3 r4 a k
   generalize l.drop at'.toNat=s at *
   cases hf:kJ s n.toNat
   ·have hnd:bad s=false→n+1≤(D s).2:=by
     intro hb
     have h1:=hd hb
     have h2:¬(D s).2=n.toNat:=by
      intro h3
      have:=hfi.2 ⟨hb,h3⟩
      rw[hf]at this; cases this
     omega
    cases hc:isC (gX (s.take n.toNat))
    ·obtain⟨y5,y6,y8,y9,ih⟩:=ih0 (n+1) (.iv (.int .i64 (gX (s.take n.toNat)))) (.iv (.bool true)) (.iv (.bool false)) (by omega) (by omega) hnd
     refine⟨y5,y6,y8,y9,aG K _ _ t109L0.eq_1 ?_⟩
     simp (disch:=omega) only[go_sem,aB,hsl,h27,aCr,hc,ih]
     cases bad s<;>rfl
    ·obtain⟨y5,y6,y8,y9,ih⟩:=ih0 (n+1) (.iv (.int .i64 (gX (s.take n.toNat)))) (.iv (.bool true)) (.iv (.bool false)) (by omega) (by omega) hnd
     have he:(eC (gX (s.take n.toNat))==s.take n.toNat)=false:=by simpa[kJ,hc] using hf
     refine⟨y5,y6,y8,y9,aG K _ _ t109L0.eq_1 ?_⟩
     simp (disch:=omega) only[go_sem,aB,hsl,h27,aCr,hc,aLz _ hc,he,ih]
     cases bad s<;>rfl
   ·obtain⟨hb,hsz⟩:=hfi.1 hf
    have hc:isC (gX (s.take n.toNat))=true:=by simp[kJ]at hf; exact hf.1
    have he:(eC (gX (s.take n.toNat))==s.take n.toNat)=true:=by simp[kJ]at hf; simp[hf.2]
    have hv:gX (s.take n.toNat)=(D s).1:=by
     have g:=oB hb
     rw[←hsz,←g.2.1,xS g.1]
    have hv2:((D s).2:Int)=n:=by omega
    refine⟨?_,?_,?_,?_,aG K _ _ t109L0.eq_1 ?_⟩
    rotate_left 4
    ·simp (disch:=omega) only[go_sem,aB,hsl,h27,aCr,hc,aLz _ hc,he,hb,hv2]
     simp only[hv]
     rfl
  ·have hb:bad (l.drop at'.toNat)=true:=by
    cases hb:bad (l.drop at'.toNat)
    ·have q:=(oB hb).2.2.2; have p:=hd hb; rw[List.length_drop]at q; omega
    ·rfl
   refine⟨?_,?_,?_,?_,aG K _ _ t109L0.eq_1 ?_⟩
   rotate_left 4
   ·simp (disch:=omega) only[go_sem,hb,aB]
    rfl
theorem aYx (t:Tag)(l:List UInt8)(i:Int)(ht:bP t l)(hl:l.length≤4611686018427387904):(lim K).call 109 [.iv (.sl t (aN l)),.iv (.int .i64 i)] []=.ret (aIl (xR l i),[]):=by
 refine aD K [] (fn:=t109) rfl rfl ?_
 by_cases h:i<0∨(l.length:Int)≤i
 ·by_cases h0:i<0
  ·simp (disch:=omega) only[t109,go_sem,xR,h,aIl]
  ·simp (disch:=omega) only[t109,go_sem,xR,h,aIl]
 ·obtain⟨y5,y6,y8,y9,e⟩:=aL7 t l i ht (by omega) hl (.iv (.int .i64 0)) (.iv (.int .i64 0)) (.iv (.int .i64 0)) (.iv (.bool false)) 4 1 u_ u_ u_ (by omega) (by omega) (fun hb=>by have:=(oB hb).2.2.1; omega)
  cases hb:bad (l.drop i.toNat)
  ·simp only[hb]at e
   simp (disch:=omega) only[t109,go_sem,xR,h,aIl,e,hb]
  ·simp only[hb]at e
   simp (disch:=omega) only[t109,go_sem,xR,h,aIl,e,hb]
def cD:Nat→List UInt8→Int→List (Int×Int)×Option Int
 | 0,_,_=>([],none)
 | k+1,s,i=>if s=[] then ([],none) else if bad s then ([],some i) else
  ((((D s).1:Int),i)::(cD k (s.drop (D s).2) (i+(D s).2)).1,(cD k (s.drop (D s).2) (i+(D s).2)).2)
def gF (c:Int×Int):List IV:=[.int .i64 c.1,.int .i64 c.2]
theorem xA (c:Int×Int):(gF c).length=2∧(gF c).all gU=true:=⟨rfl,rfl⟩
set_option maxHeartbeats 4000000 in
theorem aRw (t:Tag)(l:List UInt8)(ht:bP t l)(hl:l.length≤2000000):∀(k:Nat) (i:Int) (done:List (Int×Int)) (x6 x7 x8 x9 x10:TV),0≤i→i≤l.length→(l.length:Int)-i≤k→(done.length:Int)≤i →
  ∃y5 y6 y7 y8 y9 y10 y4 S',lp' (lim K) t85L0 [.iv (.sl t (aN l)),.iv (.sl .nil []),.iv (.int .i64 0),.iv (.int .i64 0),acc 0 (done.map gF),.iv (.int .i64 i),x6,x7,x8,x9,x10] (gV 2 143 (done.map gF))=.ret (match (cD k (l.drop i.toNat) i).2 with
   | none=>(.exit 0,[.iv (.sl t (aN l)),.iv (.sl .nil []),.iv (.int .i64 0),.iv (.int .i64 0),acc 0 ((done++(cD k (l.drop i.toNat) i).1).map gF),y5,y6,y7,y8,y9,y10],S')
   | some p=>(.ret,[.iv (.sl t (aN l)),.iv (.sl .nil []),.iv (.int .i64 4),.iv (.int .i64 p),y4,y5,y6,y7,y8,y9,y10],S'))
 | 0,i,done,x6,x7,x8,x9,x10,h0,h1,h2,h3=>by
  refine⟨?_,?_,?_,?_,?_,?_,?_,?_,aG K _ _ t85L0.eq_1 ?_⟩
  rotate_left 8
  ·simp (disch:=omega) only[go_sem,cD,List.append_nil]
   rfl
  exact .hole
 | k+1,i,done,x6,x7,x8,x9,x10,h0,h1,h2,h3=>by
  by_cases hi:i=l.length
  ·have e:l.drop i.toNat=[]:=List.drop_of_length_le (by omega)
   refine⟨?_,?_,?_,?_,?_,?_,?_,?_,aG K _ _ t85L0.eq_1 ?_⟩
   rotate_left 8
   ·simp (disch:=omega) only[go_sem,cD,e,List.append_nil]
    rfl
   exact .hole
  ·have hs:(l.drop i.toNat).length=l.length-i.toNat:=List.length_drop
   have h13:=aYx t l i ht (by omega)
   have hR:xR l i=if bad (l.drop i.toNat) then (0,0,4) else (((D (l.drop i.toNat)).1:Int),((D (l.drop i.toNat)).2:Int),0):=by
    simp only[xR]; rw[if_neg (by omega)]
   rw[hR]at h13
   have hne:¬l.drop i.toNat=[]:=by intro e; rw[e]at hs; simp at hs; omega
   cases hb:bad (l.drop i.toNat)
   ·have hg:=oB hb
    have hdr:(l.drop i.toNat).drop (D (l.drop i.toNat)).2=l.drop (i+(D (l.drop i.toNat)).2).toNat:=by
     rw[List.drop_drop]; congr 1; omega
    obtain⟨y5,y6,y7,y8,y9,y10,y4,S',ih⟩:=aRw t l ht hl k (i+(D (l.drop i.toNat)).2) (done++[(((D (l.drop i.toNat)).1:Int),i)]) (.iv (.int .i64 (D (l.drop i.toNat)).1)) (.iv (.int .i64 (D (l.drop i.toNat)).2)) (.iv (.int .i64 0)) (.iv (.bool true)) (.iv (.bool false)) (by omega) (by omega) (by omega) (by simp; omega)
    simp only[cD,hne,hb,↓reduceIte,Bool.false_eq_true]
    rw[hdr]
    generalize D (l.drop i.toNat)=d at *
    rw[hb]at h13
    simp only[Bool.false_eq_true,↓reduceIte]at h13
    have ha:=jX (w:=2) (b:=16) (el:=143) (t:=.full) (xA ((d.1:Int),i)) (eT.map xA done) (cS (by rw[List.length_map]; omega))
    refine⟨y5,y6,y7,y8,y9,y10,y4,S',aG K _ _ t85L0.eq_1 ?_⟩
    simp only[gF]at ha
    have em:(done++[((d.1:Int),i)]).map gF=done.map gF++[[.int .i64 d.1,.int .i64 i]]:=by simp[gF]
    rw[em]at ih
    simp (disch:=omega) only[go_sem,h13,aIl,aB,ha,ih]
    simp only[List.map_append,List.map_cons,List.map_nil,gF,List.append_assoc,List.cons_append,List.nil_append]
    cases (cD k (l.drop (i+d.2).toNat) (i+d.2)).2<;>rfl
   ·refine⟨?_,?_,?_,?_,?_,?_,?_,?_,aG K _ _ t85L0.eq_1 ?_⟩
    rotate_left 8
    ·rw[hb]at h13
     simp only[↓reduceIte]at h13
     simp (disch:=omega) only[go_sem,cD,hne,hb,h13,aIl,List.append_nil]
     rfl
theorem bEa (t:Tag)(l:List UInt8)(ht:bP t l)(hl:l.length≤2000000):Pure K 85 [.iv (.sl t (aN l))] (match (cD l.length l 0).2 with
      | none=>.tup [.iv (.sl (eM (cD l.length l 0).1) ((cD l.length l 0).1.map gF)),.iv (.int .i64 0),.iv (.int .i64 0)]
      | some p=>.tup [.iv (.sl .nil []),.iv (.int .i64 4),.iv (.int .i64 p)]):=by
  obtain⟨y5,y6,y7,y8,y9,y10,y4,S',e⟩:=aRw t l ht hl l.length 0 [] u_ u_ u_ u_ u_ (by omega) (by omega) (by omega) (by simp)
  rw[List.map_nil,cQ,eU]at e
  simp only[List.nil_append,Int.toNat_zero,List.drop_zero]at e
  generalize cD l.length l 0=q at *
  obtain⟨q1,q2⟩:=q
  refine aX t85 rfl rfl ?_
  cases q2 with
  | none =>
    simp only at e ⊢
    simp (disch:=omega) only[t85,go_sem,e,jA]
  | some p =>
    simp only at e ⊢
    simp (disch:=omega) only[t85,go_sem,e]
theorem aYy (l:List UInt8)(i:Nat):ByteArray.get! ⟨l.toArray⟩ i=l.getD i 0:=by
 show l.toArray[i]! = _
 simp[List.getD,getElem!_def]
 cases l[i]? <;> rfl
set_option maxHeartbeats 4000000 in
theorem aBj (l:List UInt8)(i:Nat)(h:i<l.length):Utf8.decode ⟨l.toArray⟩ i=D (l.drop i):=by
 have hs:(ByteArray.mk l.toArray).size=l.length:=by simp[ByteArray.size]
 have hg:∀k,l.getD (i+k) 0=(l.drop i).getD k 0:=by intro k; simp[List.getD,List.getElem?_drop]
 have hlen:∀k,(i+k<l.length)↔k<(l.drop i).length:=by intro k; rw[List.length_drop]; omega
 have hpos:0<(l.drop i).length:=by rw[List.length_drop]; omega
 simp only[Utf8.decode,hs,aYy,hg,hlen]
 generalize l.drop i=s at *
 cases s with
 | nil=>simp at hpos
 | cons a r =>
  have ha:=bl a
  match r with
  | [] =>
   simp only[List.getD_cons_zero,List.getD_cons_succ,List.getD_nil,List.length_cons,List.length_nil,D,fol,Utf8.valid,Utf8.runeError,Bool.and_eq_true,Bool.or_eq_true,beq_iff_eq,decide_eq_true_eq]
   repeat' split
   all_goals (first|rfl|(simp only[Prod.mk.injEq]; omega)|(exfalso; omega))
  | [b] =>
   have hb:=bl b
   simp only[List.getD_cons_zero,List.getD_cons_succ,List.getD_nil,List.length_cons,List.length_nil,D,fol,Utf8.valid,Utf8.runeError,Bool.and_eq_true,Bool.or_eq_true,beq_iff_eq,decide_eq_true_eq]
   repeat' split
   all_goals (first|rfl|(simp only[Prod.mk.injEq]; omega)|(exfalso; omega))
  | [b,c] =>
   have hb:=bl b
   have hc:=bl c
   simp only[List.getD_cons_zero,List.getD_cons_succ,List.getD_nil,List.length_cons,List.length_nil,D,fol,Utf8.valid,Utf8.runeError,Bool.and_eq_true,Bool.or_eq_true,beq_iff_eq,decide_eq_true_eq]
   repeat' split
   all_goals (first|rfl|(simp only[Prod.mk.injEq]; omega)|(exfalso; omega))
  | b::c::d::r =>
   have hb:=bl b
   have hc:=bl c
   have hd:=bl d
   simp only[List.getD_cons_zero,List.getD_cons_succ,List.getD_nil,List.length_cons,List.length_nil,D,fol,Utf8.valid,Utf8.runeError,Bool.and_eq_true,Bool.or_eq_true,beq_iff_eq,decide_eq_true_eq]
   repeat' split
   all_goals (first|rfl|(simp only[Prod.mk.injEq]; omega)|(exfalso; omega))
set_option maxHeartbeats 4000000 in
theorem aRx (t:Tag)(l:List UInt8)(ht:bP t l)(hl:l.length≤2000000):∀(k:Nat) (i:Nat) (done:List (Int×Int)) (x4 x5 x6 x8 x9 x10 x11:TV),i≤l.length→l.length-i≤k→done.length≤i →
  ∃y3 y4 y5 y6 y8 y9 y10 y11 S',lp' (lim K) t79L0 [.iv (.sl t (aN l)),.iv (.sl .nil []),.lb [.iv (.int .i64 0),.iv (.int .i64 0)],acc 1 (done.map gF),x4,x5,x6,.it 0,x8,x9,x10,x11] (.sit l i::gV 2 132 (done.map gF))=.ret (match (cD k (l.drop i) i).2 with
   | none=>(.exit 0,[.iv (.sl t (aN l)),.iv (.sl .nil []),.lb [.iv (.int .i64 0),.iv (.int .i64 0)],acc 1 ((done++(cD k (l.drop i) i).1).map gF),y4,y5,y6,.it 0,y8,y9,y10,y11],S')
   | some p=>(.ret,[.iv (.sl t (aN l)),.iv (.sl .nil []),.lb [.iv (.int .i64 4),.iv (.int .i64 p)],y3,y4,y5,y6,.it 0,y8,y9,y10,y11],S'))
 | 0,i,done,x4,x5,x6,x8,x9,x10,x11,h1,h2,h3=>by
  refine⟨?_,?_,?_,?_,?_,?_,?_,?_,?_,aG K _ _ t79L0.eq_1 ?_⟩
  rotate_left 9
  ·simp (disch:=omega) only[go_sem,cD,List.append_nil]
   rfl
  exact .hole
 | k+1,i,done,x4,x5,x6,x8,x9,x10,x11,h1,h2,h3=>by
  by_cases hi:i=l.length
  ·have e:l.drop i=[]:=List.drop_of_length_le (by omega)
   refine⟨?_,?_,?_,?_,?_,?_,?_,?_,?_,aG K _ _ t79L0.eq_1 ?_⟩
   rotate_left 9
   ·simp (disch:=omega) only[go_sem,cD,e,List.append_nil]
    rfl
   exact .hole
  ·have hs:(l.drop i).length=l.length-i:=List.length_drop
   have hde:=aBj l i (by omega)
   have hne:¬l.drop i=[]:=by intro e; rw[e]at hs; simp at hs; omega
   have h25:=fun tg=>aYu tg (l.drop i)
   have hdl:=bG5 (l.drop i)
   have hbad:bad (l.drop i)=(decide ((((D (l.drop i)).1:Nat):Int)=65533)&&decide ((((D (l.drop i)).2:Nat):Int)≤1)):=by
    rw[bad,Bool.eq_iff_iff]; simp; omega
   have hsl:=fun S=>aAn S (t:=t) (l:=l) (a:=(i:Int)) ht (by omega)
   cases hb:bad (l.drop i)
   ·have hg:=oB hb
    have hdr:(l.drop i).drop (D (l.drop i)).2=l.drop (i+(D (l.drop i)).2):=by
     rw[List.drop_drop]
    have ih:=fun x4 x5 x6 x8 x9 x10 x11=>aRx t l ht hl k (i+(D (l.drop i)).2) (done++[(((D (l.drop i)).1:Int),(i:Int))]) x4 x5 x6 x8 x9 x10 x11 (by omega) (by omega) (by simp; omega)
    simp only[cD,hne,hb,↓reduceIte,Bool.false_eq_true]
    rw[hdr]
    have ha:=aX8 (w:=2) (b:=16) (el:=132) (t:=.full) (.sit l (i+(D (l.drop i)).2)) (xA (((D (l.drop i)).1:Int),(i:Int))) (eT.map xA done) (cS (by rw[List.length_map]; omega))
    have em:(done++[(((D (l.drop i)).1:Int),(i:Int))]).map gF=done.map gF++[[.int .i64 (D (l.drop i)).1,.int .i64 i]]:=by simp[gF]
    rw[em]at ih
    generalize D (l.drop i)=d at *
    simp only[gF]at ha
    rw[hb]at hbad
    by_cases hc:(d.1:Int)=65533
    ·have h26:¬(d.2:Int)≤1:=by intro q; simp[hc,q]at hbad
     obtain⟨y3,y4,y5,y6,y8,y9,y10,y11,S',ih⟩:=ih (.iv (.int .i64 i)) (.iv (.int .i32 d.1)) (.iv (.int .i64 d.2)) (.tup [.iv (.bool true),.iv (.int .i64 i),.iv (.int .i32 d.1)]) (.iv (.bool true)) (.iv (.bool true)) (.iv (.bool false))
     refine⟨y3,y4,y5,y6,y8,y9,y10,y11,S',aG K _ _ t79L0.eq_1 ?_⟩
     simp (config := { maxSteps := 4000000 }) (disch:=omega) only[go_sem,hde,hsl,Int.toNat_natCast,h25,aL5,h26,aB,ha,ih]
     simp only[Int.natCast_add,List.map_append,List.map_cons,List.map_nil,gF,List.append_assoc,List.cons_append,List.nil_append]
     cases (cD k (l.drop (i+d.2)) ((i:Int)+(d.2:Int))).2<;>rfl
    ·obtain⟨y3,y4,y5,y6,y8,y9,y10,y11,S',ih⟩:=ih (.iv (.int .i64 i)) (.iv (.int .i32 d.1)) x6 (.tup [.iv (.bool true),.iv (.int .i64 i),.iv (.int .i32 d.1)]) (.iv (.bool true)) (.iv (.bool false)) x11
     refine⟨y3,y4,y5,y6,y8,y9,y10,y11,S',aG K _ _ t79L0.eq_1 ?_⟩
     simp (config := { maxSteps := 4000000 }) (disch:=omega) only[go_sem,hde,aB,ha,ih]
     simp only[Int.natCast_add,List.map_append,List.map_cons,List.map_nil,gF,List.append_assoc,List.cons_append,List.nil_append]
     cases (cD k (l.drop (i+d.2)) ((i:Int)+(d.2:Int))).2<;>rfl
   ·rw[hb]at hbad
    have h26:=hbad.symm
    have hc:(((D (l.drop i)).1:Nat):Int)=65533:=by simp at h26; omega
    have hc2:(((D (l.drop i)).2:Nat):Int)≤1:=by simp at h26; omega
    refine⟨?_,?_,?_,?_,?_,?_,?_,?_,?_,aG K _ _ t79L0.eq_1 ?_⟩
    rotate_left 9
    ·simp (config := { maxSteps := 4000000 }) (disch:=omega) only[go_sem,cD,hne,hb,hde,hsl,Int.toNat_natCast,h25,aL5,h26,hc]
     rfl
theorem bEb (t:Tag)(l:List UInt8)(ht:bP t l)(hl:l.length≤2000000):Pure K 79 [.iv (.sl t (aN l))] (match (cD l.length l 0).2 with
      | none=>.tup [.iv (.sl (eM (cD l.length l 0).1) ((cD l.length l 0).1.map gF)),.iv (.agg [.int .i64 0,.int .i64 0])]
      | some p=>.tup [.iv (.sl .nil []),.iv (.agg [.int .i64 4,.int .i64 p])]):=by
  obtain⟨y3,y4,y5,y6,y8,y9,y10,y11,S',e⟩:=aRx t l ht hl l.length 0 [] u_ u_ u_ u_ u_ u_ u_ (by omega) (by omega) (by simp)
  rw[List.map_nil,cQ,eU]at e
  simp only[List.nil_append,List.drop_zero,Int.cast_ofNat_Int]at e
  generalize cD l.length l 0=q at *
  obtain⟨q1,q2⟩:=q
  refine aX t79 rfl rfl ?_
  cases q2 with
  | none =>
    simp only at e ⊢
    simp (disch:=omega) only[t79,go_sem,e,jA]
  | some p =>
    simp only at e ⊢
    simp (disch:=omega) only[t79,go_sem,e]
theorem bH9 (c:Int×Int):sub (gF c) 0 2=some (gF c):=by simp[sub,gF]
theorem aFe (a:Int):gU (i64 a)=true:=rfl
def fB (cs:List (Int×Int)):List Int:=cs.map (·.1)
theorem xT (cs:List (Int×Int))(i:Nat)(h:i<cs.length):fB (cs.take (i+1))=fB (cs.take i)++[(cs.getD i default).1]:=by
 rw[pM (d:=default) h]; simp[fB]
theorem rG:∀(k:Nat) (s:List UInt8) (i:Int),(cD k s i).1.length≤s.length
 | 0,s,i=>by simp[cD]
 | k+1,s,i=>by
  simp only[cD]
  split
  ·simp
  ·split
   ·simp
   ·rename_i h1 h2
    have hb:bad s=false:=by simpa using h2
    have hg:=oB hb
    have:=rG k (s.drop (D s).2) (i+(D s).2)
    rw[List.length_drop]at this
    simp only[List.length_cons]
    omega
theorem aBk (s:List UInt8)(hl:s.length≤2000000):(cD s.length s 0).1.length≤2000000:=by
 have:=rG s.length s 0
 omega
set_option maxHeartbeats 4000000 in
theorem aRy (s:TV)(tg:Tag)(cs:List (Int×Int))(hl:cs.length≤2000000)(f a7:TV):∀(k i:Nat) (x6 x11:TV),i+k=cs.length →
  ∃y6 y11,lp' (lim K) t52L0 [s,.iv (.sl .nil []),.iv (.int .i64 0),.iv (.sl tg (cs.map gF)),f,acc 0 (TM.one i64 (fB (cs.take i))),x6,a7,.iv (.sl tg (cs.map gF)),.iv (.int .i64 cs.length),.iv (.int .i64 i),x11] (gV 1 3 (TM.one i64 (fB (cs.take i))))=.ret (.exit 0,[s,.iv (.sl .nil []),.iv (.int .i64 0),.iv (.sl tg (cs.map gF)),f,acc 0 (TM.one i64 (fB cs)),y6,a7,.iv (.sl tg (cs.map gF)),.iv (.int .i64 cs.length),.iv (.int .i64 cs.length),y11],gV 1 3 (TM.one i64 (fB cs)))
 | 0,i,x6,x11,h=>by
  obtain rfl:i=cs.length:=by omega
  rw[List.take_length]
  refine⟨?_,?_,aG K _ _ t52L0.eq_1 ?_⟩
  rotate_left 2
  ·simp (disch:=omega) only[go_sem]
   rfl
 | k+1,i,x6,x11,h=>by
  have hc:=xT cs i (by omega)
  have hcl:(fB (cs.take i)).length≤2000000:=by simp[fB]; omega
  obtain⟨y6,y11,ih⟩:=aRy s tg cs hl f a7 k (i+1) (.lb [.iv (.int .i64 (cs.getD i default).1),.iv (.int .i64 (cs.getD i default).2)]) (.iv (.bool true)) (by omega)
  rw[hc,←aAl]at ih
  have ha:=jX (w:=1) (b:=8) (el:=3) (t:=.full) (l:=TM.one i64 (fB (cs.take i))) (c:=[.int .i64 (cs.getD i default).1]) ⟨rfl,rfl⟩ (eT.one aFe _) (cS (by rw[TM.bJ]; omega))
  have hg:=aLo (w:=2) (f:=gF) (fun _=>rfl) (t:=tg) (l:=cs) (i:=(i:Int)) (by omega)
  refine⟨y6,y11,aG K _ _ t52L0.eq_1 ?_⟩
  simp (config := { maxSteps := 4000000 }) (disch:=omega) only[go_sem,hg,aIb,bH9,Int.toNat_natCast,gF,aB,ha]
  exact congrArg er ih
set_option maxHeartbeats 4000000 in
theorem aRz (s:TV)(tg:Tag)(cs:List (Int×Int))(hl:cs.length≤2000000)(f a7:TV):∀(k i:Nat) (x8:TV),i+k=cs.length →
  ∃y8,lp' (lim K) t62L0 [s,.iv (.sl .nil []),.iv (.int .i64 0),.iv (.sl tg (cs.map gF)),f,acc 0 (TM.one i64 (fB (cs.take i))),.iv (.int .i64 i),a7,x8] (gV 1 3 (TM.one i64 (fB (cs.take i))))=.ret (.exit 0,[s,.iv (.sl .nil []),.iv (.int .i64 0),.iv (.sl tg (cs.map gF)),f,acc 0 (TM.one i64 (fB cs)),.iv (.int .i64 cs.length),a7,y8],gV 1 3 (TM.one i64 (fB cs)))
 | 0,i,x8,h=>by
  obtain rfl:i=cs.length:=by omega
  rw[List.take_length]
  refine⟨?_,aG K _ _ t62L0.eq_1 ?_⟩
  rotate_left 1
  ·simp (disch:=omega) only[go_sem,List.length_map]
   rfl
 | k+1,i,x8,h=>by
  have hc:=xT cs i (by omega)
  have hcl:(fB (cs.take i)).length≤2000000:=by simp[fB]; omega
  obtain⟨y8,ih⟩:=aRz s tg cs hl f a7 k (i+1) (.iv (.bool true)) (by omega)
  rw[hc,←aAl]at ih
  have ha:=jX (w:=1) (b:=8) (el:=3) (t:=.full) (l:=TM.one i64 (fB (cs.take i))) (c:=[.int .i64 (cs.getD i default).1]) ⟨rfl,rfl⟩ (eT.one aFe _) (cS (by rw[TM.bJ]; omega))
  have hg:=aLo (w:=2) (f:=gF) (fun _=>rfl) (t:=tg) (l:=cs) (i:=(i:Int)) (by omega)
  have hz:dL (.iv (.cp (gF (cs.getD i default)))) 0=some (.iv (.cp (gF (cs.getD i default)))):=rfl
  refine⟨y8,aG K _ _ t62L0.eq_1 ?_⟩
  simp (config := { maxSteps := 4000000 }) (disch:=omega) only[go_sem,List.length_map,hg,hz,Int.toNat_natCast,gF,aB,ha,aCo]
  exact congrArg er ih
theorem aR0 (s:List UInt8)(hl:s.length≤2000000):Pure K 52 [.iv (.str s)] (match (cD s.length s 0).2 with
      | none=>.tup [.iv (.sl (eM (cD s.length s 0).1) (TM.one i64 (fB (cD s.length s 0).1))),.iv (.int .i64 0)]
      | some p=>.tup [.iv (.sl .nil []),.iv (.int .i64 4)]):=by
  have h17:=bEb .no s (bP.no _) hl
  have hcl:(cD s.length s 0).1.length≤2000000:=aBk s hl
  generalize cD s.length s 0=q at *
  obtain⟨q1,q2⟩:=q
  refine aX t52 rfl rfl ?_
  cases q2 with
  | none =>
    simp only at h17 hcl ⊢
    simp (config := { maxSteps := 4000000 }) (disch:=omega) only[t52,go_sem,aE h17,List.length_map]
    obtain⟨y6,y11,e⟩:=aRy (.iv (.str s)) (eM q1) q1 hcl (.lb [.iv (.int .i64 0),.iv (.int .i64 0)]) (.iv (.bool false)) q1.length 0 u_ u_ (by omega)
    rw[List.take_zero,show fB []=[] from rfl,show TM.one i64 []=[] from rfl,cQ,eU,show ((0:Nat):Int)=0 from rfl]at e
    simp (config := { maxSteps := 4000000 }) (disch:=omega) only[go_sem,e]
    simp only[TM.one,fB,jA]
  | some p =>
    simp only at h17 ⊢
    simp (config := { maxSteps := 4000000 }) (disch:=omega) only[t52,go_sem,aE h17]
theorem aR1 (s:List UInt8)(hl:s.length≤2000000):Pure K 62 [.iv (.str s)] (match (cD s.length s 0).2 with
      | none=>.tup [.iv (.sl (eM (cD s.length s 0).1) (TM.one i64 (fB (cD s.length s 0).1))),.iv (.int .i64 0)]
      | some p=>.tup [.iv (.sl .nil []),.iv (.int .i64 4)]):=by
  have h18:=bEa .no s (bP.no _) hl
  have hcl:(cD s.length s 0).1.length≤2000000:=aBk s hl
  generalize cD s.length s 0=q at *
  obtain⟨q1,q2⟩:=q
  refine aX t62 rfl rfl ?_
  cases q2 with
  | none =>
    simp only at h18 hcl ⊢
    simp (config := { maxSteps := 4000000 }) (disch:=omega) only[t62,go_sem,aE h18,List.length_map]
    obtain⟨y8,e⟩:=aRz (.iv (.str s)) (eM q1) q1 hcl (.iv (.int .i64 0)) (.iv (.bool false)) q1.length 0 u_ (by omega)
    rw[List.take_zero,show fB []=[] from rfl,show TM.one i64 []=[] from rfl,cQ,eU,show ((0:Nat):Int)=0 from rfl]at e
    simp (config := { maxSteps := 4000000 }) (disch:=omega) only[go_sem,e]
    simp only[TM.one,fB,jA]
  | some p =>
    simp only at h18 ⊢
    simp (config := { maxSteps := 4000000 }) (disch:=omega) only[t62,go_sem,aE h18]
def Dt.pr (d:Dt):Bool:=decide (d.k=6)&&decide (d.ks.length=2)
mutual
def same:Dt→Dt→Bool
 | .mk k n t _ ks _,.mk k' n' t' _ ks' _=>decide (k=k')&&((decide (k=6)&&decide (ks.length=2))||(decide (n=n')&&decide (t=t')))&&aR2 ks ks'
def aR2:List Dt→List Dt→Bool
 | [],[]=>true
 | d::ds,e::es=>same d e&&aR2 ds es
 | [],_::_=>false
 | _::_,[]=>false
end
theorem aL8 (a b:Dt):same a b=(decide (a.k=b.k)&&(a.pr||(decide (a.n=b.n)&&decide (a.t=b.t)))&&aR2 a.ks b.ks):=by
 cases a; cases b; rw[same]; rfl
abbrev lbD (d:Dt):TV:=.lb [.iv (.int .i64 d.k),.iv (.int .i64 d.n),.iv (.str d.t),.iv (.sl d.g (bT d.ks)),.iv (.int .i64 d.p)]
abbrev agD (d:Dt):TV:=.iv (.agg [.int .i64 d.k,.int .i64 d.n,.str d.t,.sl d.g (bT d.ks),.int .i64 d.p])
theorem aYz (d:Dt)(S:aA):(lim K).call 31 [agD d] S=.ret (.iv (.bool d.pr),S):=by
 refine aD K _ (fn:=t31) rfl rfl ?_
 unfold Dt.pr
 by_cases h:d.k=6
 ·simp (config := { maxSteps := 4000000 }) (disch:=omega) only[t31,go_sem,bB,h,Bool.true_and]
  congr 5; apply decide_eq_decide.2; omega
 ·simp (config := { maxSteps := 4000000 }) (disch:=omega) only[t31,go_sem,bB,h,Bool.false_and]
def bR:Nat→Dt→List Dt×Dt
 | 0,d=>([],d)
 | n+1,d=>if d.pr then (d.ks.getD 0 default::(bR n (d.ks.getD 1 default)).1,(bR n (d.ks.getD 1 default)).2) else ([],d)
theorem rH {d:Dt}(h:d.pr=true):d.ks.length=2:=by
 simp only[Dt.pr,Bool.and_eq_true,decide_eq_true_eq]at h; exact h.2
theorem xU:∀(n:Nat) (d:Dt),d.w≤n→(bR n d).2.pr=false∧(bR n d).2.w≤d.w
 | 0,d,h=>by have:=Dt.w_eq d; omega
 | n+1,d,h=>by
  rw[bR]
  split
  ·rename_i hp
   have h2:=rH hp
   have m1:=Dt.kid_lt (gD (l:=d.ks) (i:=1) (by omega))
   have ih:=xU n (d.ks.getD 1 default) (by omega)
   exact⟨ih.1,Nat.le_trans ih.2 (by omega)⟩
  ·rename_i hp
   exact⟨by simpa using hp,Nat.le_refl _⟩
theorem pR:∀(n:Nat) (d:Dt),∀x∈(bR n d).1,x.w<d.w
 | 0,d,x,h=>by simp[bR]at h
 | n+1,d,x,h=>by
  rw[bR]at h
  split at h
  ·rename_i hp
   have h2:=rH hp
   have m0:=Dt.kid_lt (gD (l:=d.ks) (i:=0) (by omega))
   have m1:=Dt.kid_lt (gD (l:=d.ks) (i:=1) (by omega))
   rcases List.mem_cons.1 h with rfl|h
   ·exact m0
   ·have:=pR n _ x h; omega
  ·simp at h
theorem aBl:∀(n:Nat) (d:Dt),(bR n d).1.length≤d.w
 | 0,d=>by simp[bR]
 | n+1,d=>by
  rw[bR]
  split
  ·rename_i hp
   have h2:=rH hp
   have m1:=Dt.kid_lt (gD (l:=d.ks) (i:=1) (by omega))
   have:=aBl n (d.ks.getD 1 default)
   rw[List.length_cons]; omega
  ·simp
theorem xB (d:Dt):(eX d).length=5∧(eX d).all gU=true:=by rw[bA]; exact⟨rfl,rfl⟩
theorem aR3 (x0 x2 x3:TV):∀(n:Nat) (d:Dt) (done:List Dt) (x5:TV),d.w≤n→done.length+d.w≤1048576 →
  ∃x5' S',lp' (lim K) t61L0 [x0,lbD d,x2,x3,acc 0 (done.map eX),x5] (gV 5 37 (done.map eX))=.ret (.exit 0,[x0,lbD (bR n d).2,x2,x3,acc 0 ((done++(bR n d).1).map eX),x5'],S')
 | 0,d,done,x5,h,hl=>by have:=Dt.w_eq d; omega
 | n+1,d,done,x5,h,hl=>by
  by_cases hp:d.pr=true
  ·have h2:=rH hp
   have h6:d.k=6:=by simp only[Dt.pr,Bool.and_eq_true,decide_eq_true_eq]at hp; exact hp.1
   have m0:=Dt.kid_lt (gD (l:=d.ks) (i:=0) (by omega))
   have m1:=Dt.kid_lt (gD (l:=d.ks) (i:=1) (by omega))
   have hx:=ixD (g:=d.g) (ks:=d.ks) (i:=0) (by omega)
   have hx1:=ixD (g:=d.g) (ks:=d.ks) (i:=1) (by omega)
   rw[Int.toNat_zero]at hx
   rw[show (1:Int).toNat=1 from rfl]at hx1
   rw[bR,if_pos hp]
   generalize d.ks.getD 0 default=u at *
   generalize d.ks.getD 1 default=u1 at *
   obtain⟨x5',S',ih⟩:=aR3 x0 x2 x3 n u1 (done++[u]) (.iv (.bool true)) (by omega) (by simp only[List.length_append,List.length_cons,List.length_nil]; omega)
   have ha:=jX (w:=5) (b:=64) (el:=37) (t:=.full) (xB u) (eT.map xB done) (cS (by rw[List.length_map]; omega))
   have em:(done++[u]).map eX=done.map eX++[eX u]:=by simp
   rw[em,List.append_assoc]at ih
   refine⟨x5',S',aG K _ _ t61L0.eq_1 ?_⟩
   have h2':(d.ks.length:Int)=2:=by omega
   rw[bA u]at ha ih
   simp (config := { maxSteps := 4000000 }) (disch:=omega) only[go_sem,bB,h6,h2',hx,hx1,lQ,ha,fD,eB]
   exact congrArg er ih
  ·rw[bR,if_neg hp,List.append_nil]
   rw[Bool.not_eq_true,Dt.pr]at hp
   refine⟨?_,?_,aG K _ _ t61L0.eq_1 ?_⟩
   rotate_left 2
   ·by_cases h6:d.k=6
    ·have h2:¬((d.ks.length:Int)=2):=by intro e; rw[h6]at hp; simp at hp; omega
     simp (config := { maxSteps := 4000000 }) (disch:=omega) only[go_sem,bB]
     rfl
    ·simp (config := { maxSteps := 4000000 }) (disch:=omega) only[go_sem,bB]
theorem aR4 (n:Nat)(d:Dt)(hn:d.w≤n)(hd:d.w≤1048576):Pure K 61 [agD d] (.tup [.iv (.sl (eM (bR n d).1) (bT (bR n d).1)),agD (bR n d).2]):=by
 obtain⟨x5',S',e⟩:=aR3 (agD d) (.iv (.sl .nil [])) (.lb [.iv (.int .i64 0),.iv (.int .i64 0),.iv (.str []),.iv (.sl .nil []),.iv (.int .i64 0)]) n d [] u_ hn (by simp only[List.length_nil]; omega)
 rw[List.map_nil,cQ,eU,List.nil_append]at e
 rw[jF]
 generalize bR n d=q at *
 obtain⟨q1,q2⟩:=q
 refine aX t61 rfl rfl ?_
 simp only at e ⊢
 simp (config := { maxSteps := 4000000 }) (disch:=omega) only[t61,go_sem]
 rw[e]
 simp (config := { maxSteps := 4000000 }) (disch:=omega) only[go_sem,jA,fD,eB]
theorem sF {c:Bool}{x n:Nat}(h:c=true→128≤x):128≤(if c=true then (x,n) else (65533,1)).1:=by
 cases c with
 | false=>exact (by decide:128≤65533)
 | true=>exact h rfl
theorem bEc (a:UInt8)(r:List UInt8)(h:128≤a.toNat):128≤(D (a::r)).1:=by
 have ha:=bl a
 by_cases h1:a.toNat<194
 ·rw[aL0 a r (.inl ⟨h,h1⟩)]; decide
 by_cases h2:a.toNat<224
 ·rw[aFa a r ⟨by omega,h2⟩]
  split
  ·split
   ·simp only; omega
   ·decide
  ·decide
 by_cases h3:a.toNat<240
 ·rw[iL a r ⟨by omega,h3⟩]
  split
  ·rename_i b c t
   have hb:=bl b
   by_cases e:a.toNat=224
   ·simp only[e,↓reduceIte]
    refine sF fun hc=>?_
    simp only[Bool.and_eq_true,decide_eq_true_eq]at hc
    rw[if_neg (by decide)]at hc
    omega
   ·simp only[e,↓reduceIte]
    generalize (if a.toNat=237 then 159 else 191)=z
    exact sF fun _=>by omega
  ·decide
 by_cases h4:a.toNat<245
 ·rw[iD a r ⟨by omega,h4⟩]
  split
  ·rename_i b c d t
   have hb:=bl b
   by_cases e:a.toNat=240
   ·simp only[e,↓reduceIte]
    refine sF fun hc=>?_
    simp only[Bool.and_eq_true,decide_eq_true_eq]at hc
    rw[if_neg (by decide)]at hc
    omega
   ·simp only[e,↓reduceIte]
    generalize (if a.toNat=244 then 143 else 191)=z
    exact sF fun _=>by omega
  ·decide
 ·rw[aL0 a r (.inr (by omega))]; decide
def gP (a:UInt8):Bool:=decide (48≤a.toNat∧a.toNat≤57)
theorem bG6 (a:UInt8)(r:List UInt8):(gP a=true→D (a::r)=(a.toNat,1))∧(gP a=false→(D (a::r)).1<48∨57<(D (a::r)).1):=by
 unfold gP
 constructor
 ·intro h
  simp only[decide_eq_true_eq]at h
  exact pQ a r (by omega)
 ·intro h
  simp only[decide_eq_false_iff_not]at h
  by_cases h1:a.toNat<128
  ·rw[pQ a r h1]; simp only; omega
  ·have:=bEc a r (by omega); omega
theorem aR5 (c:Int)(S:aA):(lim K).call 77 [.iv (.int .i32 c)] S=.ret (.iv (.bool (decide (c<48)||decide (57<c))),S):=by
 refine aD K S (fn:=t77) rfl rfl ?_
 by_cases h1:c<48
 ·simp (disch:=omega) only[t77,go_sem,Bool.true_or]
 ·by_cases h2:57<c
  ·simp (disch:=omega) only[t77,go_sem,Bool.false_or]
  ·simp (disch:=omega) only[t77,go_sem,Bool.false_or]
theorem xV {l:List UInt8}{i:Nat}(h:i<l.length):l.drop i=l.getD i 0::l.drop (i+1):=by
 rw[List.drop_eq_getElem_cons h,List.getD_eq_getElem?_getD,List.getElem?_eq_getElem h]; rfl
theorem aL9 (s:List UInt8)(hs:s.length≤2000000):∀(k i:Nat) (x3:Int) (x4 x5 x7 x8 x9:TV),i+k=s.length →
  ∃j r y4 y5 y7 y8 y9 S',(j=.ret∧0≤r∧(s.drop i).all gP=false∨j=.exit 0∧r=x3∧(s.drop i).all gP=true) ∧
   lp' (lim K) t127L0 [.iv (.str s),.fn 77 [] [],.iv (.bool true),.iv (.int .i64 x3),x4,x5,.it 0,x7,x8,x9] [.sit s i]=.ret (j,[.iv (.str s),.fn 77 [] [],.iv (.bool true),.iv (.int .i64 r),y4,y5,.it 0,y7,y8,y9],S')
 | 0,i,x3,x4,x5,x7,x8,x9,h=>by
  refine⟨.exit 0,x3,?_,?_,?_,?_,?_,?_,.inr ⟨rfl,rfl,by rw[List.drop_eq_nil_of_le (by omega)]; rfl⟩,aG K _ _ t127L0.eq_1 ?_⟩
  rotate_left 6
  ·simp (disch:=omega) only[go_sem]
   rfl
 | k+1,i,x3,x4,x5,x7,x8,x9,h=>by
  have hla:i<s.length:=by omega
  have hde:=aBj s i hla
  rw[xV hla]at hde
  obtain⟨hd1,hd2⟩:=bG6 (s.getD i 0) (s.drop (i+1))
  have hdr:=xV hla
  generalize s.getD i 0=a at *
  cases hb:gP a with
  | true =>
   rw[hd1 hb]at hde
   have hb':=hb
   unfold gP at hb'
   simp only[decide_eq_true_eq]at hb'
   obtain⟨j,r,y4,y5,y7,y8,y9,S',hj,ih⟩:=aL9 s hs k (i+1) x3 (.iv (.int .i64 i)) (.iv (.int .i32 a.toNat)) (.tup [.iv (.bool true),.iv (.int .i64 i),.iv (.int .i32 a.toNat)]) (.iv (.bool true)) (.iv (.bool false)) (by omega)
   refine⟨j,r,y4,y5,y7,y8,y9,S',?_,aG K _ _ t127L0.eq_1 ?_⟩
   ·rw[hdr,List.all_cons,hb,Bool.true_and]; exact hj
   ·simp (disch:=omega) only[go_sem,hla,hde,aR5,Bool.or_false]
    exact congrArg er ih
  | false =>
   have hb2:=hd2 hb
   generalize D (a::s.drop (i+1))=d at *
   refine⟨.ret,(i:Int),?_,?_,?_,?_,?_,?_,.inl ⟨rfl,by omega,by rw[hdr,List.all_cons,hb,Bool.false_and]⟩,aG K _ _ t127L0.eq_1 ?_⟩
   rotate_left 6
   ·have hor:(decide ((d.1:Int)<48)||decide (57<(d.1:Int)))=true:=by simp; omega
    simp (disch:=omega) only[go_sem,hla,hde,aR5,hor]
    rfl
theorem aY0 (s:List UInt8)(hs:s.length≤2000000):∃r S',(0≤r↔s.all gP=false)∧(lim K).call 127 [.iv (.str s),.fn 77 [] [],.iv (.bool true)] []=.ret (.iv (.int .i64 r),S'):=by
 obtain⟨j,r,y4,y5,y7,y8,y9,S',hj,ih⟩:=aL9 s hs s.length 0 0 u_ u_ u_ u_ u_ (by omega)
 rw[List.drop_zero]at hj
 rcases hj with⟨rfl,hr,ha⟩|⟨rfl,hr,ha⟩
 ·refine⟨r,S',by simp[hr,ha],aD K _ (fn:=t127) rfl rfl ?_⟩
  simp (config := { maxSteps := 4000000 }) (disch:=omega) only[t127,go_sem]
  rw[ih]
  simp (config := { maxSteps := 4000000 }) (disch:=omega) only[go_sem]
 ·refine⟨-1,S',by simp[ha],aD K _ (fn:=t127) rfl rfl ?_⟩
  simp (config := { maxSteps := 4000000 }) (disch:=omega) only[t127,go_sem]
  rw[ih]
  simp (config := { maxSteps := 4000000 }) (disch:=omega) only[go_sem]
theorem bEd (s:List UInt8)(hs:s.length≤2000000):∃S',(lim K).call 76 [.iv (.str s),.fn 77 [] []] []=.ret (.iv (.bool (!s.all gP)),S'):=by
 obtain⟨r,S',hr,ih⟩:=aY0 s hs
 have h171:(lim K).call 102 [.iv (.str s),.fn 77 [] []] []=.ret (.iv (.int .i64 r),S'):=by
  refine aD K _ (fn:=t102) rfl rfl ?_
  simp (config := { maxSteps := 4000000 }) (disch:=omega) only[t102,go_sem,ih]
 refine⟨S',aD K _ (fn:=t76) rfl rfl ?_⟩
 cases ha:s.all gP with
 | true =>
  have:¬0≤r:=fun h=>by rw[hr,ha]at h; cases h
  simp (config := { maxSteps := 4000000 }) (disch:=omega) only[t76,go_sem,h171,Bool.not_true]
 | false =>
  have:0≤r:=hr.2 ha
  simp (config := { maxSteps := 4000000 }) (disch:=omega) only[t76,go_sem,h171,Bool.not_false]
theorem bEe (c:UInt8)(r:List UInt8)(k:IntKind):tU (.iv (.str (c::r))) (.iv (.int k 0))=some (.iv (.int .u8 c.toNat)):=by
 have:=mS (s:=c::r) (i:=0) (kd:=k) (by simp)
 simpa using this
def kS:List UInt8→List UInt8
 | a::r=>if a.toNat=45 then r else a::r
 | []=>[]
theorem bEf (s:List UInt8)(hs:s.length≤2000000)(S:aA):(lim K).call 75 [.iv (.str s),.iv (.str [45])] S=.ret (.iv (.str (kS s)),S):=by
 have h190:(lim K).call 126 [.iv (.str s),.iv (.str [45])] []=.ret (.iv (.bool (match s with|a::_=>decide (a.toNat=45)|[]=>false)),[]):=by
  refine aD K _ (fn:=t126) rfl rfl ?_
  cases s with
  | nil=>simp (config := { maxSteps := 4000000 }) (disch:=omega) only[t126,go_sem,List.length_nil,List.length_cons]
  | cons a r =>
   have hl:(a::r).length=r.length+1:=rfl
   have h1:=aEz [] (s:=a::r) (b:=((1:Nat):Int)) (by rw[hl]; omega)
   rw[show (((1:Nat):Int)).toNat=1 from rfl,show (a::r).take 1=[a] from rfl]at h1
   have h2:([a]==[(45:UInt8)])=decide (a.toNat=45):=by
    rw[Bool.eq_iff_iff]
    simp only[beq_iff_eq,List.cons.injEq,and_true,decide_eq_true_eq]
    constructor
    ·rintro rfl; rfl
    ·intro h; exact UInt8.toNat_inj.1 h
   simp (config := { maxSteps := 4000000 }) (disch:=omega) only[t126,go_sem,hl,List.length_nil,List.length_cons,h1,h2]
 have h170:(lim K).call 101 [.iv (.str s),.iv (.str [45])] []=.ret (.iv (.str (kS s)),[]):=by
  refine aD K _ (fn:=t101) rfl rfl ?_
  cases s with
  | nil=>simp (config := { maxSteps := 4000000 }) (disch:=omega) only[t101,go_sem,h190,kS]
  | cons a r =>
   have hl:(a::r).length=r.length+1:=rfl
   have h1:=nO [] (s:=a::r) (a:=((1:Nat):Int)) (by rw[hl]; omega)
   rw[show (((1:Nat):Int)).toNat=1 from rfl,show (a::r).drop 1=r from rfl]at h1
   by_cases ha:a.toNat=45
   ·simp (config := { maxSteps := 4000000 }) (disch:=omega) only[t101,go_sem,h190,kS,ha,List.length_nil,List.length_cons,h1]
   ·simp (config := { maxSteps := 4000000 }) (disch:=omega) only[t101,go_sem,h190,kS,ha,List.length_nil,List.length_cons,h1]
 refine aD K _ (fn:=t75) rfl rfl ?_
 simp (config := { maxSteps := 4000000 }) (disch:=omega) only[t75,go_sem,h170]
theorem aR6 (s:List UInt8):(kS s).length≤s.length:=by
 cases s with
 | nil=>simp[kS]
 | cons a r=>simp only[kS]; split<;>simp
def aIn (s:List UInt8):Bool :=
 match kS s with
 | []=>false
 | a::r=>if a.toNat=48∧s≠[48] then false else (a::r).all gP
theorem bEg (s:List UInt8)(hs:s.length≤2000000):Pure K 50 [.iv (.str s)] (.iv (.bool (aIn s))):=by
 have h1:=bEf s hs []
 have h2:=aR6 s
 unfold aIn
 cases ht:kS s with
 | nil =>
  rw[ht]at h1
  refine bL (S:=[]) (aD K _ (fn:=t50) rfl rfl ?_) (by rw[aZ])
  simp (config := { maxSteps := 4000000 }) (disch:=omega) only[t50,go_sem,h1]
 | cons a r =>
  rw[ht]at h1 h2
  obtain⟨S',h3⟩:=bEd (a::r) (by omega)
  have h4:=bEe a r .i64
  have h5:((a::r)==([]:List UInt8))=false:=rfl
  by_cases ha:a.toNat=48
  ·by_cases hz:s=[48]
   ·have h6:(s==[(48:UInt8)])=true:=by simp[hz]
    refine bL (S:=S') (r:=.iv (.bool ((a::r).all gP))) (aD K _ (fn:=t50) rfl rfl ?_) (by rw[aZ]; simp[ha,hz])
    simp (config := { maxSteps := 4000000 }) (disch:=omega) only[t50,go_sem,h1,h3,h4,h5,h6,ha,Bool.not_not,Bool.not_true]
   ·have h6:(s==[(48:UInt8)])=false:=by simp[hz]
    refine bL (S:=[]) (r:=.iv (.bool false)) (aD K _ (fn:=t50) rfl rfl ?_) (by rw[aZ]; simp[ha,hz])
    simp (config := { maxSteps := 4000000 }) (disch:=omega) only[t50,go_sem,h1,h3,h4,h5,h6,ha,Bool.not_not,Bool.not_false]
  ·refine bL (S:=S') (r:=.iv (.bool ((a::r).all gP))) (aD K _ (fn:=t50) rfl rfl ?_) (by rw[aZ]; simp[ha])
   simp (config := { maxSteps := 4000000 }) (disch:=omega) only[t50,go_sem,h1,h3,h4,h5,Bool.not_not]
def okC (t:List UInt8):Bool:=(cD t.length t 0).2.isNone
def lR (d:Dt):Bool :=
 if d.k=0∨d.k=8∨d.k=9∨d.k=10 then true else if d.k=1 then decide (d.n=0∨d.n=1) else if d.k=2 then aIn d.t else if d.k=3 then isC d.n
 else if d.k=4 then okC d.t else if d.k=5 then okC d.t&&!d.t.isEmpty else false
theorem aR7 (s:List UInt8)(hl:s.length≤2000000):∃l,Pure K 52 [.iv (.str s)] (.tup [l,.iv (.int .i64 (if okC s then 0 else 4))]):=by
 have h:=aR0 s hl
 unfold okC
 cases hc:(cD s.length s 0).2 with
 | none=>rw[hc]at h; exact⟨_,h⟩
 | some p=>rw[hc]at h; exact⟨_,h⟩
theorem aY1 (t:List UInt8):(t==[])=t.isEmpty:=by cases t<;>rfl
theorem bEh (d:Dt)(hd:d.w≤1048576):Pure K 35 [.iv (.agg (eX d))] (.iv (.bool (lR d))):=by
 have hw:=Dt.w_eq d
 obtain⟨l,hc⟩:=aR7 d.t (by omega)
 have h116:=bEg d.t (by omega)
 have h117:=bD2 d.n
 unfold lR
 by_cases hs:d.k=0∨d.k=8∨d.k=9∨d.k=10
 ·refine bL (S:=[]) (r:=.iv (.bool true)) (aD K _ (fn:=t35) rfl rfl ?_) (by rw[aZ]; simp[hs])
  rw[bA]
  rcases hs with h|h|h|h<;>simp (config := { maxSteps := 4000000 }) (disch:=omega) only[t35,go_sem]
 ·by_cases h1:d.k=1
  ·refine bL (S:=[]) (r:=.iv (.bool (decide (d.n=0∨d.n=1)))) (aD K _ (fn:=t35) rfl rfl ?_) (by rw[aZ]; simp[h1])
   rw[bA]
   by_cases n0:d.n=0
   ·simp (config := { maxSteps := 4000000 }) (disch:=omega) only[t35,go_sem]
   ·by_cases n1:d.n=1
    ·simp (config := { maxSteps := 4000000 }) (disch:=omega) only[t35,go_sem]
    ·simp (config := { maxSteps := 4000000 }) (disch:=omega) only[t35,go_sem]
  ·by_cases h2:d.k=2
   ·refine bL (S:=[]) (r:=.iv (.bool (aIn d.t))) (aD K _ (fn:=t35) rfl rfl ?_) (by rw[aZ]; simp[h2])
    rw[bA]
    simp (config := { maxSteps := 4000000 }) (disch:=omega) only[t35,go_sem,aE h116]
   ·by_cases h3:d.k=3
    ·refine bL (S:=[]) (r:=.iv (.bool (isC d.n))) (aD K _ (fn:=t35) rfl rfl ?_) (by rw[aZ]; simp[h3])
     rw[bA]
     simp (config := { maxSteps := 4000000 }) (disch:=omega) only[t35,go_sem,h117]
    ·by_cases h4:d.k=4
     ·refine bL (S:=[]) (r:=.iv (.bool (okC d.t))) (aD K _ (fn:=t35) rfl rfl ?_) (by rw[aZ]; simp[h4])
      rw[bA]
      cases ho:okC d.t
      ·rw[ho]at hc
       simp (config := { maxSteps := 4000000 }) (disch:=omega) only[t35,go_sem,aE hc,Bool.false_eq_true]
      ·rw[ho]at hc
       simp (config := { maxSteps := 4000000 }) (disch:=omega) only[t35,go_sem,aE hc]
     ·by_cases h5:d.k=5
      ·refine bL (S:=[]) (r:=.iv (.bool (okC d.t&&!d.t.isEmpty))) (aD K _ (fn:=t35) rfl rfl ?_) (by rw[aZ]; simp[h5])
       rw[bA]
       cases ho:okC d.t
       ·rw[ho]at hc
        simp (config := { maxSteps := 4000000 }) (disch:=omega) only[t35,go_sem,aE hc,Bool.false_eq_true,Bool.false_and]
       ·rw[ho]at hc
        simp (config := { maxSteps := 4000000 }) (disch:=omega) only[t35,go_sem,aE hc,Bool.true_and,aY1]
      ·refine bL (S:=[]) (r:=.iv (.bool false)) (aD K _ (fn:=t35) rfl rfl ?_) (by rw[aZ]; simp[hs,h1,h2,h3,h4,h5])
       rw[bA]
       simp (config := { maxSteps := 4000000 }) (disch:=omega) only[t35,go_sem]
theorem aR8 (f:Nat)(act:Dt→Bool)(g:Tag)(ks:List Dt)(hl:ks.length≤2000000)(hf:∀x∈ks,TM.Pure K f [.iv (.agg (eX x))] (.iv (.bool (act x))))(x2:TV)(S:aA):∀(k i:Nat) (x3 x6 x7:TV),i+k=ks.length →
  ∃j r y3 y5 y6 y7,(j=.ret∧(∃n:Int,r=.iv (.int .i64 n)∧0≤n)∧(ks.drop i).any act=true∨j=.exit 0∧r=x2∧(ks.drop i).any act=false) ∧
   lp' (lim K) t33L0 [.iv (.sl g (bT ks)),.fn f [] [],x2,x3,.iv (.int .i64 ks.length),.iv (.int .i64 (i:Int)),x6,x7] S=.ret (j,[.iv (.sl g (bT ks)),.fn f [] [],r,y3,.iv (.int .i64 ks.length),y5,y6,y7],S)
 | 0,i,x3,x6,x7,h=>by
  obtain rfl:i=ks.length:=by omega
  refine⟨.exit 0,x2,?_,?_,?_,?_,.inr ⟨rfl,rfl,by rw[List.drop_length]; rfl⟩,aG K _ _ t33L0.eq_1 ?_⟩
  rotate_left 4
  ·simp (config := { maxSteps := 4000000 }) (disch:=omega) only[go_sem]
   rfl
 | k+1,i,x3,x6,x7,h=>by
  have hla:i<ks.length:=by omega
  have hix:=ixD (g:=g) (ks:=ks) (i:=(i:Int)) (by omega)
  rw[Int.toNat_natCast]at hix
  have hdr:=sD hla
  have hc:=hf _ (gD hla)
  generalize hx:ks.getD i default=x at *
  rw[bA]at hc
  cases ha:act x with
  | true =>
   rw[ha]at hc
   refine⟨.ret,.iv (.int .i64 (i:Int)),?_,?_,?_,?_,.inl ⟨rfl,⟨_,rfl,by omega⟩,by rw[hdr,List.any_cons,ha,Bool.true_or]⟩,aG K _ _ t33L0.eq_1 ?_⟩
   rotate_left 4
   ·simp (config := { maxSteps := 4000000 }) (disch:=omega) only[go_sem,hix,lQ,aE hc]
    rfl
  | false =>
   rw[ha]at hc
   obtain⟨j,r,y3,y5,y6,y7,hj,ih⟩:=aR8 f act g ks hl hf x2 S k (i+1) (.iv (.int .i64 (i:Int))) (.iv (.bool true)) (.iv (.bool false)) (by omega)
   rw[show ((i+1:Nat):Int)=(i:Int)+1 by omega]at ih
   refine⟨j,r,y3,y5,y6,y7,?_,aG K _ _ t33L0.eq_1 ?_⟩
   ·rw[hdr,List.any_cons,ha,Bool.false_or]; exact hj
   ·simp (config := { maxSteps := 4000000 }) (disch:=omega) only[go_sem,hix,lQ,aE hc,aB]
    exact congrArg er ih
theorem aCw (f:Nat)(act:Dt→Bool)(g:Tag)(ks:List Dt)(hl:ks.length≤2000000)(hf:∀x∈ks,TM.Pure K f [.iv (.agg (eX x))] (.iv (.bool (act x))))(S:aA) :
  (lim K).call 20 [.iv (.sl g (bT ks)),.fn f [] []] S=.ret (.iv (.bool (ks.any act)),S):=by
 obtain⟨j,r,y3,y5,y6,y7,hj,ih⟩:=aR8 f act g ks hl hf (.iv (.int .i64 0)) S ks.length 0 u_ u_ u_ (by omega)
 rw[show ((0:Nat):Int)=0 from rfl,List.drop_zero]at *
 have h115:∃n:Int,(0≤n↔ks.any act=true)∧(lim K).call 33 [.iv (.sl g (bT ks)),.fn f [] []] S=.ret (.iv (.int .i64 n),S):=by
  rcases hj with⟨rfl,⟨n,rfl,hn⟩,ha⟩|⟨rfl,rfl,ha⟩
  ·refine⟨n,by simp[hn,ha],aD K _ (fn:=t33) rfl rfl ?_⟩
   simp (config := { maxSteps := 4000000 }) (disch:=omega) only[t33,go_sem,bB]
   rw[ih]
   simp (config := { maxSteps := 4000000 }) (disch:=omega) only[go_sem]
  ·refine⟨-1,by simp[ha],aD K _ (fn:=t33) rfl rfl ?_⟩
   simp (config := { maxSteps := 4000000 }) (disch:=omega) only[t33,go_sem,bB]
   rw[ih]
   simp (config := { maxSteps := 4000000 }) (disch:=omega) only[go_sem]
 obtain⟨n,hn,h115⟩:=h115
 refine aD K _ (fn:=t20) rfl rfl ?_
 by_cases h0:0≤n
 ·rw[hn.1 h0]
  simp (config := { maxSteps := 4000000 }) (disch:=omega) only[t20,go_sem,h115]
 ·have:ks.any act=false:=by
   cases h:ks.any act with
   | true=>exact absurd (hn.2 h) h0
   | false=>rfl
  rw[this]
  simp (config := { maxSteps := 4000000 }) (disch:=omega) only[t20,go_sem,h115]
theorem bEi (d:Dt)(hd:d.w≤2000000)(S:aA):(lim K).call 31 [.iv (.agg (eX d))] S=.ret (.iv (.bool (decide (d.k=6∧d.ks.length=2))),S):=by
 have hw:=Dt.w_eq d
 have hl:=Dt.ws_len d.ks
 refine aD K _ (fn:=t31) rfl rfl ?_
 rw[bA]
 by_cases hk:d.k=6
 ·by_cases h2:d.ks.length=2
  ·have:((d.ks.length:Int)==2)=true:=by simp[h2]
   simp (config := { maxSteps := 4000000 }) (disch:=omega) only[t31,go_sem,bB]
  ·simp (config := { maxSteps := 4000000 }) (disch:=omega) only[t31,go_sem,bB]
 ·simp (config := { maxSteps := 4000000 }) (disch:=omega) only[t31,go_sem,bB]
mutual
def dB:Dt→Bool
 | .mk k n t g ks p=>if k=6∧ks.length=2 then aNq ks else if k=7 then aNq ks else ks.isEmpty&&lR (.mk k n t g ks p)
def aNq:List Dt→Bool
 | []=>true
 | d::ds=>dB d&&aNq ds
end
theorem aFf:∀ks:List Dt,aNq ks=ks.all dB
 | []=>by rw[aNq]; rfl
 | d::ds=>by rw[aNq,aFf ds]; rfl
theorem iM (d:Dt):dB d=if d.k=6∧d.ks.length=2 then d.ks.all dB else if d.k=7 then d.ks.all dB else d.ks.isEmpty&&lR d:=by
 cases d; rw[dB,aFf]; rfl
abbrev aY2 (d:Dt):TV:=.lb [.iv (.int .i64 d.k),.iv (.int .i64 d.n),.iv (.str d.t),.iv (.sl d.g (bT d.ks)),.iv (.int .i64 d.p)]
theorem aCx {d:Dt}(h:d.ks.length=2):∃a b,d.ks=[a,b]:=by
 cases hk:d.ks with
 | nil=>rw[hk]at h; simp at h
 | cons a r =>
  cases r with
  | nil=>rw[hk]at h; simp at h
  | cons b r =>
   cases r with
   | nil=>exact⟨a,b,rfl⟩
   | cons c r=>rw[hk]at h; simp at h
theorem ix0 (g:Tag)(a b:Dt):indexAddrS 5 (.iv (.sl g (bT [a,b]))) 0=some (.iv (.cp (eX a))):=ixD (g:=g) (ks:=[a,b]) (i:=0) (by simp)
theorem ix1 (g:Tag)(a b:Dt):indexAddrS 5 (.iv (.sl g (bT [a,b]))) 1=some (.iv (.cp (eX b))):=ixD (g:=g) (ks:=[a,b]) (i:=1) (by simp)
theorem aR9 (M:Nat)(hM:M≤1048576)(ih:∀d:Dt,d.w≤M→TM.Pure K 22 [.iv (.agg (eX d))] (.iv (.bool (dB d))))(x0:TV)(S:aA):∀(N:Nat),N≤M+1→∀(d:Dt) (x2 x3 x4 x5:TV),d.w≤N →
  ∃j d' r y3 y4,(j=.ret∧r=.iv (.bool false)∧dB d=false∨j=.exit 0∧r=x2∧dB d'=dB d∧d'.w≤d.w∧¬(d'.k=6∧d'.ks.length=2)) ∧
   lp' (lim K) t22L0 [x0,aY2 d,x2,x3,x4,x5] S=.ret (j,[x0,aY2 d',r,y3,y4,x5],S)
 | 0,hN,d,x2,x3,x4,x5,hd=>by have:=Dt.w_eq d; omega
 | N+1,hN,d,x2,x3,x4,x5,hd=>by
  have hw:=Dt.w_eq d
  have hp:=bEi d (by omega) S
  rw[bA]at hp
  by_cases h2:d.k=6∧d.ks.length=2
  ·obtain⟨a,b,hk⟩:=aCx h2.2
   have hab:a.w+b.w+1≤d.w:=by rw[hw,hk,Dt.ws,Dt.ws,Dt.ws]; omega
   have ha:=ih a (by omega)
   rw[bA]at ha
   have hm:dB d=(dB a&&dB b):=by rw[iM d,if_pos h2,hk]; simp
   have i0:=ix0 d.g a b
   have i1:=ix1 d.g a b
   rw[←hk]at i0 i1
   rw[bGl h2]at hp
   cases hma:dB a with
   | false =>
    rw[hma]at ha
    refine⟨.ret,d,.iv (.bool false),?_,?_,.inl ⟨rfl,rfl,by rw[hm,hma,Bool.false_and]⟩,aG K _ _ t22L0.eq_1 ?_⟩
    rotate_left 2
    ·simp (config := { maxSteps := 4000000 }) (disch:=omega) only[go_sem,hp,i0,lQ,aE ha]
     rfl
   | true =>
    rw[hma]at ha
    obtain⟨j,d',r,y3,y4,hj,ih2⟩:=aR9 M hM ih x0 S N (by omega) b x2 (.iv (.bool true)) (.iv (.bool false)) x5 (by omega)
    refine⟨j,d',r,y3,y4,?_,aG K _ _ t22L0.eq_1 ?_⟩
    ·rw[hm,hma,Bool.true_and]
     rcases hj with h|⟨h1,h2,h3,h4,h5⟩
     ·exact .inl h
     ·exact .inr ⟨h1,h2,h3,by omega,h5⟩
    ·simp (config := { maxSteps := 4000000 }) (disch:=omega) only[go_sem,hp,i0,i1,lQ,aE ha]
     exact congrArg er ih2
  ·rw[bGm h2]at hp
   refine⟨.exit 0,d,x2,?_,?_,.inr ⟨rfl,rfl,rfl,Nat.le_refl _,h2⟩,aG K _ _ t22L0.eq_1 ?_⟩
   rotate_left 2
   ·simp (config := { maxSteps := 4000000 }) (disch:=omega) only[go_sem,hp]
    rfl
theorem sG (ks:List Dt)(f:Dt→Bool):(!(ks.any fun x=>!f x))=ks.all f:=by
 induction ks with
 | nil=>rfl
 | cons a r ih=>simp only[List.any_cons,List.all_cons,Bool.not_or,Bool.not_not,ih]
theorem aSa:∀(N:Nat),N≤1048576→∀d:Dt,d.w≤N→TM.Pure K 22 [.iv (.agg (eX d))] (.iv (.bool (dB d)))
 | 0,hN,d,hd=>by have:=Dt.w_eq d; omega
 | N+1,hN,d,hd=>by
  have ih:=aSa N (by omega)
  obtain⟨j,d',r,y3,y4,hj,hl⟩:=aR9 N (by omega) ih (.iv (.agg (eX d))) [] (N+1) (by omega) d (.iv (.bool false)) u_ u_ u_ hd
  rcases hj with⟨rfl,rfl,hm⟩|⟨rfl,rfl,hm,hw',hn⟩
  ·refine bL (S:=[]) (r:=.iv (.bool false)) (aD K _ (fn:=t22) rfl rfl ?_) (by rw[aZ,hm])
   rw[bA]at hl ⊢
   simp (config := { maxSteps := 4000000 }) (disch:=omega) only[t22,go_sem]
   rw[hl]
   simp (config := { maxSteps := 4000000 }) (disch:=omega) only[go_sem]
  ·have hwd:=Dt.w_eq d'
   have hwl:=Dt.ws_len d'.ks
   have h84:∀x∈d'.ks,TM.Pure K 34 [.iv (.agg (eX x))] (.iv (.bool (!dB x))):=by
    intro x hx
    have hc:=ih x (by have:=Dt.kid_lt hx; omega)
    refine bL (S:=[]) (r:=.iv (.bool (!dB x))) (aD K _ (fn:=t34) rfl rfl ?_) (by rw[aZ])
    rw[bA]at hc ⊢
    simp (config := { maxSteps := 4000000 }) (disch:=omega) only[t34,go_sem,aE hc]
   have h83:=aCw 34 (fun x=>!dB x) d'.g d'.ks (by omega) h84 []
   have h85:=bEh d' (by omega)
   rw[bA]at h85
   refine bL (S:=[]) (r:=.iv (.bool (dB d'))) (aD K _ (fn:=t22) rfl rfl ?_) (by rw[aZ,hm])
   rw[bA]at hl ⊢
   rw[iM d',if_neg hn]
   simp (config := { maxSteps := 4000000 }) (disch:=omega) only[t22,go_sem]
   rw[hl]
   by_cases h7:d'.k=7
   ·rw[if_pos h7]
    simp (config := { maxSteps := 4000000 }) (disch:=omega) only[go_sem,h83,sG]
   ·rw[if_neg h7]
    by_cases he:d'.ks.length=0
    ·have:d'.ks.isEmpty=true:=by rw[List.isEmpty_iff]; exact List.eq_nil_of_length_eq_zero he
     have e0:((d'.ks.length:Int)==0)=true:=by simp[he]
     simp (config := { maxSteps := 4000000 }) (disch:=omega) only[go_sem,bB,e0,aE h85,this,Bool.true_and]
    ·have:d'.ks.isEmpty=false:=by
      cases hk:d'.ks with
      | nil=>rw[hk]at he; exact absurd rfl he
      | cons a r=>rfl
     simp (config := { maxSteps := 4000000 }) (disch:=omega) only[go_sem,bB,this,Bool.false_and]
theorem aSb (t:List UInt8)(ht:t.length≤2000000)(x3 x4 x5:TV):∀(k i:Nat) (x6 x7:TV),i+k=t.length →
  ∃j y2 y6 y7,(j=.ret∧(t.drop i).all gP=false∨j=.exit 0∧(t.drop i).all gP=true) ∧
   lp' (lim K) t63L0 [.iv (.str t),.iv (.bool false),.iv (.int .i64 (i:Int)),x3,x4,x5,x6,x7] []=.ret (j,[.iv (.str t),.iv (.bool false),y2,x3,x4,x5,y6,y7],[])
 | 0,i,x6,x7,h=>by
  obtain rfl:i=t.length:=by omega
  refine⟨.exit 0,.iv (.int .i64 t.length),.iv (.bool false),x7,.inr ⟨rfl,by rw[List.drop_length]; rfl⟩,aG K _ _ t63L0.eq_1 ?_⟩
  simp (config := { maxSteps := 4000000 }) (disch:=omega) only[go_sem]
 | k+1,i,x6,x7,h=>by
  have hla:i<t.length:=by omega
  have hix:=mS (s:=t) (i:=(i:Int)) (kd:=.i64) (by omega)
  rw[Int.toNat_natCast]at hix
  have hdr:t.drop i=t.getD i 0::t.drop (i+1):=by
   rw[List.drop_eq_getElem_cons hla,List.getD_eq_getElem?_getD,List.getElem?_eq_getElem hla]; rfl
  generalize hx:t.getD i 0=b at *
  have hbl:=b.toNat_lt
  by_cases h1:(b.toNat:Int)<48
  ·refine⟨.ret,.iv (.int .i64 i),.iv (.bool true),.iv (.bool true),.inl ⟨rfl,?_⟩,aG K _ _ t63L0.eq_1 ?_⟩
   ·rw[hdr,List.all_cons]; simp[gP]; omega
   ·simp (config := { maxSteps := 4000000 }) (disch:=omega) only[go_sem,hix,h1]
  ·by_cases h2:(57:Int)<b.toNat
   ·refine⟨.ret,.iv (.int .i64 i),.iv (.bool true),.iv (.bool true),.inl ⟨rfl,?_⟩,aG K _ _ t63L0.eq_1 ?_⟩
    ·rw[hdr,List.all_cons]; simp[gP]; omega
    ·simp (config := { maxSteps := 4000000 }) (disch:=omega) only[go_sem,hix,h1,h2]
   ·obtain⟨j,y2,y6,y7,hj,ih⟩:=aSb t ht x3 x4 x5 k (i+1) (.iv (.bool true)) (.iv (.bool false)) (by omega)
    rw[show ((i+1:Nat):Int)=(i:Int)+1 by omega]at ih
    refine⟨j,y2,y6,y7,?_,aG K _ _ t63L0.eq_1 ?_⟩
    ·rw[hdr,List.all_cons,show gP b=true by simp[gP]; omega,Bool.true_and]; exact hj
    ·simp (config := { maxSteps := 4000000 }) (disch:=omega) only[go_sem,hix,h1,h2,aB]
     exact congrArg er ih
theorem bEj {s:List UInt8}(h:s≠[48]):aIn s=match kS s with
  | []=>false
  | a::r=>if a.toNat=48 then false else (a::r).all gP:=by
 unfold aIn
 cases kS s with
 | nil=>rfl
 | cons a r=>simp[h]
theorem bEk (s:List UInt8)(hs:s.length≤2000000):TM.Pure K 63 [.iv (.str s)] (.iv (.bool (aIn s))):=by
 by_cases hz:s=[48]
 ·subst hz
  refine bL (S:=[]) (r:=.iv (.bool true)) (aD K _ (fn:=t63) rfl rfl ?_) (by rw[aZ]; rfl)
  simp (config := { maxSteps := 4000000 }) (disch:=omega) only[t63,go_sem]
 ·rw[bEj hz]
  have hzb:(s==[(48:UInt8)])=false:=by simp[hz]
  have tail:∀t:List UInt8,t.length≤2000000→∀x3 x4 x5 x6 x7:TV,(t≠[]→(t.getD 0 0).toNat≠48)→∃j y2 y6 y7,(j=.ret∧t.all gP=false∨j=.exit 0∧t.all gP=true) ∧
   lp' (lim K) t63L0 [.iv (.str t),.iv (.bool false),.iv (.int .i64 0),x3,x4,x5,x6,x7] []=.ret (j,[.iv (.str t),.iv (.bool false),y2,x3,x4,x5,y6,y7],[]):=fun t ht x3 x4 x5 x6 x7 _=>by
   have:=aSb t ht x3 x4 x5 t.length 0 x6 x7 (by omega)
   rw[List.drop_zero]at this
   exact this
  cases s with
  | nil =>
   refine bL (S:=[]) (r:=.iv (.bool false)) (aD K _ (fn:=t63) rfl rfl ?_) (by rw[aZ]; rfl)
   simp (config := { maxSteps := 4000000 }) (disch:=omega) only[t63,go_sem,hzb,List.length_nil]
  | cons a r =>
   have hl:(a::r).length=r.length+1:=rfl
   have h4:=bEe a r .i64
   have hbl:=a.toNat_lt
   have hsl:=nO [] (s:=a::r) (a:=1) (by rw[hl]; omega)
   rw[show (1:Int).toNat=1 from rfl,show (a::r).drop 1=r from rfl]at hsl
   by_cases ha:a.toNat=45
   ·have hai:(a.toNat:Int)=45:=by omega
    rw[show kS (a::r)=r by simp[kS,ha]]
    cases r with
    | nil =>
     refine bL (S:=[]) (r:=.iv (.bool false)) (aD K _ (fn:=t63) rfl rfl ?_) (by rw[aZ])
     simp (config := { maxSteps := 4000000 }) (disch:=omega) only[t63,go_sem,hzb,hl,h4,hai,hsl,List.length_nil]
    | cons b r2 =>
     have h5:=bEe b r2 .i64
     have hl2:(b::r2).length=r2.length+1:=rfl
     have hbl2:=b.toNat_lt
     simp only
     by_cases hb:b.toNat=48
     ·have hbi:(b.toNat:Int)=48:=by omega
      rw[if_pos hb]
      refine bL (S:=[]) (r:=.iv (.bool false)) (aD K _ (fn:=t63) rfl rfl ?_) (by rw[aZ])
      simp (config := { maxSteps := 4000000 }) (disch:=omega) only[t63,go_sem,hzb,hl,h4,hai,hsl,hl2,h5,hbi]
     ·have hbi:¬(b.toNat:Int)=48:=by omega
      rw[if_neg hb]
      obtain⟨j,y2,y6,y7,hj,ih⟩:=tail (b::r2) (by simp at hs ⊢; omega) (.iv (.bool false)) (.iv (.bool true)) (.iv (.bool false)) u_ u_ (by intro _; simpa using hb)
      rcases hj with⟨rfl,hv⟩|⟨rfl,hv⟩
      ·refine bL (S:=[]) (r:=.iv (.bool false)) (aD K _ (fn:=t63) rfl rfl ?_) (by rw[aZ,hv])
       simp (config := { maxSteps := 4000000 }) (disch:=omega) only[t63,go_sem,hzb,hl,h4,hai,hsl,hl2,h5,hbi]
       rw[ih]
       simp (config := { maxSteps := 4000000 }) (disch:=omega) only[go_sem]
      ·refine bL (S:=[]) (r:=.iv (.bool true)) (aD K _ (fn:=t63) rfl rfl ?_) (by rw[aZ,hv])
       simp (config := { maxSteps := 4000000 }) (disch:=omega) only[t63,go_sem,hzb,hl,h4,hai,hsl,hl2,h5,hbi]
       rw[ih]
       simp (config := { maxSteps := 4000000 }) (disch:=omega) only[go_sem]
   ·have hai:¬(a.toNat:Int)=45:=by omega
    rw[show kS (a::r)=a::r by simp[kS,ha]]
    simp only
    by_cases hb:a.toNat=48
    ·have hbi:(a.toNat:Int)=48:=by omega
     rw[if_pos hb]
     refine bL (S:=[]) (r:=.iv (.bool false)) (aD K _ (fn:=t63) rfl rfl ?_) (by rw[aZ])
     simp (config := { maxSteps := 4000000 }) (disch:=omega) only[t63,go_sem,hzb,hl,h4,hbi]
    ·have hbi:¬(a.toNat:Int)=48:=by omega
     rw[if_neg hb]
     obtain⟨j,y2,y6,y7,hj,ih⟩:=tail (a::r) hs (.iv (.bool false)) (.iv (.bool false)) (.iv (.bool false)) u_ u_ (by intro _; simpa using hb)
     rcases hj with⟨rfl,hv⟩|⟨rfl,hv⟩
     ·refine bL (S:=[]) (r:=.iv (.bool false)) (aD K _ (fn:=t63) rfl rfl ?_) (by rw[aZ,hv])
      simp (config := { maxSteps := 4000000 }) (disch:=omega) only[t63,go_sem,hzb,hl,h4,hai,hbi]
      rw[ih]
      simp (config := { maxSteps := 4000000 }) (disch:=omega) only[go_sem]
     ·refine bL (S:=[]) (r:=.iv (.bool true)) (aD K _ (fn:=t63) rfl rfl ?_) (by rw[aZ,hv])
      simp (config := { maxSteps := 4000000 }) (disch:=omega) only[t63,go_sem,hzb,hl,h4,hai,hbi]
      rw[ih]
      simp (config := { maxSteps := 4000000 }) (disch:=omega) only[go_sem]
theorem xW (s:List UInt8)(hl:s.length≤2000000):∃l,TM.Pure K 62 [.iv (.str s)] (.tup [l,.iv (.int .i64 (if okC s then 0 else 4))]):=by
 have h:=aR1 s hl
 unfold okC
 cases hc:(cD s.length s 0).2 with
 | none=>rw[hc]at h; exact⟨_,h⟩
 | some p=>rw[hc]at h; exact⟨_,h⟩
theorem pS:∀(n:Nat) (d:Dt),d.w≤n→dB d=((bR n d).1.all dB&&dB (bR n d).2)
 | 0,d,h=>by have:=Dt.w_eq d; omega
 | n+1,d,h=>by
  rw[bR]
  split
  ·rename_i hp
   have h2:=rH hp
   have hk:d.k=6:=by simp only[Dt.pr,Bool.and_eq_true,decide_eq_true_eq]at hp; exact hp.1
   have m1:=Dt.kid_lt (gD (l:=d.ks) (i:=1) (by omega))
   have ih:=pS n (d.ks.getD 1 default) (by omega)
   obtain⟨a,b,hab⟩:=aCx h2
   rw[iM d,if_pos ⟨hk,h2⟩]
   rw[hab]at ih ⊢
   simp only[List.getD_cons_zero,List.getD_cons_succ,List.all_cons,List.all_nil,Bool.and_true]at ih ⊢
   rw[ih,Bool.and_assoc]
  ·simp
theorem pT:∀(n:Nat) (d:Dt),d.w≤n→Dt.ws (bR n d).1+(bR n d).1.length+(bR n d).2.w≤d.w
 | 0,d,h=>by have:=Dt.w_eq d; omega
 | n+1,d,h=>by
  rw[bR]
  split
  ·rename_i hp
   have h2:=rH hp
   have m1:=Dt.kid_lt (gD (l:=d.ks) (i:=1) (by omega))
   have ih:=pT n (d.ks.getD 1 default) (by omega)
   obtain⟨a,b,hab⟩:=aCx h2
   have hw:=Dt.w_eq d
   rw[hab,Dt.ws,Dt.ws,Dt.ws]at hw
   rw[hab]at ih ⊢
   simp only[List.getD_cons_zero,List.getD_cons_succ,List.length_cons,Dt.ws]at ih ⊢
   omega
  ·simp[Dt.ws]
theorem aMa (g:Tag)(l:List Dt)(hw:l.length≤1048576)(H:∀x∈l,TM.Pure K 38 [agD x] (.iv (.bool (dB x))))(x0 x1 x4 x6 x7 x10 x11 x12 x13 x14 x15 x16 x17 x18 x19:TV):∀(k i:Nat) (x8 x9:TV),i+k=l.length →
  ∃j y5 y8 y9,(j=.ret∧(l.drop i).all dB=false∨j=.exit 0∧(l.drop i).all dB=true) ∧
   lp' (lim K) t38L1 [x0,x1,.iv (.bool false),.iv (.sl g (bT l)),x4,.iv (.int .i64 (i:Int)),x6,x7,x8,x9,x10,x11,x12,x13,x14,x15,x16,x17,x18,x19] []=.ret (j,[x0,x1,.iv (.bool false),.iv (.sl g (bT l)),x4,y5,x6,x7,y8,y9,x10,x11,x12,x13,x14,x15,x16,x17,x18,x19],[])
 | 0,i,x8,x9,h=>by
  obtain rfl:i=l.length:=by omega
  refine⟨.exit 0,.iv (.int .i64 l.length),.iv (.bool false),x9,.inr ⟨rfl,by rw[List.drop_length]; rfl⟩,aG K _ _ t38L1.eq_1 ?_⟩
  simp (config := { maxSteps := 4000000 }) (disch:=omega) only[go_sem,bB]
 | k+1,i,x8,x9,h=>by
  have hla:i<l.length:=by omega
  have hix:=ixD (g:=g) (ks:=l) (i:=(i:Int)) (by omega)
  rw[Int.toNat_natCast]at hix
  have hdr:=sD hla
  have hm:=H _ (gD (i:=i) hla)
  generalize hx:l.getD i default=x at *
  cases hv:dB x with
  | false =>
   rw[hv]at hm
   refine⟨.ret,.iv (.int .i64 i),.iv (.bool true),.iv (.bool true),.inl ⟨rfl,by rw[hdr,List.all_cons,hv,Bool.false_and]⟩,aG K _ _ t38L1.eq_1 ?_⟩
   simp (config := { maxSteps := 4000000 }) (disch:=omega) only[go_sem,bB,hix,lQ,aE hm]
  | true =>
   rw[hv]at hm
   obtain⟨j,y5,y8,y9,hj,ih⟩:=aMa g l hw H x0 x1 x4 x6 x7 x10 x11 x12 x13 x14 x15 x16 x17 x18 x19 k (i+1) (.iv (.bool true)) (.iv (.bool false)) (by omega)
   rw[show ((i+1:Nat):Int)=(i:Int)+1 by omega]at ih
   refine⟨j,y5,y8,y9,by rw[hdr,List.all_cons,hv,Bool.true_and]; exact hj,aG K _ _ t38L1.eq_1 ?_⟩
   simp (config := { maxSteps := 4000000 }) (disch:=omega) only[go_sem,bB,hix,lQ,aE hm,aB]
   exact congrArg er ih
theorem aCy (d:Dt)(hw:d.ks.length≤1048576)(H:∀x∈d.ks,TM.Pure K 38 [agD x] (.iv (.bool (dB x))))(x0 x1 x3 x5 x7 x8 x9 x10 x13 x14 x15 x16 x17 x18 x19:TV):∀(k i:Nat) (x11 x12:TV),i+k=d.ks.length →
  ∃j y6 y11 y12,(j=.ret∧(d.ks.drop i).all dB=false∨j=.exit 2∧(d.ks.drop i).all dB=true) ∧
   lp' (lim K) t38L0 [x0,x1,.iv (.bool false),x3,lbD d,x5,.iv (.int .i64 (i:Int)),x7,x8,x9,x10,x11,x12,x13,x14,x15,x16,x17,x18,x19] []=.ret (j,[x0,x1,.iv (.bool false),x3,lbD d,x5,y6,x7,x8,x9,x10,y11,y12,x13,x14,x15,x16,x17,x18,x19],[])
 | 0,i,x11,x12,h=>by
  obtain rfl:i=d.ks.length:=by omega
  refine⟨.exit 2,.iv (.int .i64 d.ks.length),.iv (.bool false),x12,.inr ⟨rfl,by rw[List.drop_length]; rfl⟩,aG K _ _ t38L0.eq_1 ?_⟩
  simp (config := { maxSteps := 4000000 }) (disch:=omega) only[go_sem,bB]
 | k+1,i,x11,x12,h=>by
  have hla:i<d.ks.length:=by omega
  have hix:=ixD (g:=d.g) (ks:=d.ks) (i:=(i:Int)) (by omega)
  rw[Int.toNat_natCast]at hix
  have hdr:=sD hla
  have hm:=H _ (gD (i:=i) hla)
  generalize hx:d.ks.getD i default=x at *
  cases hv:dB x with
  | false =>
   rw[hv]at hm
   refine⟨.ret,.iv (.int .i64 i),.iv (.bool true),.iv (.bool true),.inl ⟨rfl,by rw[hdr,List.all_cons,hv,Bool.false_and]⟩,aG K _ _ t38L0.eq_1 ?_⟩
   simp (config := { maxSteps := 4000000 }) (disch:=omega) only[go_sem,bB,hix,lQ,aE hm]
  | true =>
   rw[hv]at hm
   obtain⟨j,y6,y11,y12,hj,ih⟩:=aCy d hw H x0 x1 x3 x5 x7 x8 x9 x10 x13 x14 x15 x16 x17 x18 x19 k (i+1) (.iv (.bool true)) (.iv (.bool false)) (by omega)
   rw[show ((i+1:Nat):Int)=(i:Int)+1 by omega]at ih
   refine⟨j,y6,y11,y12,by rw[hdr,List.all_cons,hv,Bool.true_and]; exact hj,aG K _ _ t38L0.eq_1 ?_⟩
   simp (config := { maxSteps := 4000000 }) (disch:=omega) only[go_sem,bB,hix,lQ,aE hm,aB]
   exact congrArg er ih
attribute [go_sem] beq_self_eq_true bGl bGm ifT ifF eqT eqF neT neF pL TM.bJ aE0 List.replicate List.cons_append List.nil_append decide_true decide_false
attribute [go_sem] Nat.reduceAdd Nat.reduceSub Nat.reduceMul Nat.reduceLT Nat.reduceLeDiff Nat.reduceEqDiff Nat.reduceBEq reduceIte reduceCtorEq Int.reduceEq Int.reduceLT Int.reduceLE Int.reduceAdd Int.reduceSub Int.reduceMul Int.reduceToNat Int.reduceNeg Int.reduceBEq Int.reduceBNe Int.reduceTDiv Int.reduceTMod Int.reducePow Nat.reducePow Nat.reduceDiv Nat.reduceMod Int.reduceMod Int.reduceDiv Int.reduceNe Int.reduceFDiv
def d16 (n:Int):IV:=.int .u16 n
def tr:List Int→List Int
 | []=>[]
 | a::l=>if tr l=[] then (if a=0 then [] else [a]) else a::tr l
theorem aCz:∀(l:List Int),tr (l++[0])=tr l
 | []=>rfl
 | a::l=>by simp only[List.cons_append,tr,aCz l]
theorem aC0 {a:Int}(h:a≠0):∀(l:List Int),tr (l++[a])=l++[a]
 | []=>by simp[tr,h]
 | b::l=>by
  have e:¬l++[a]=[]:=by simp
  simp only[List.cons_append,tr,aC0 h l,e,↓reduceIte]
theorem aC1:∀(l:List Int),∃m,l=tr l++m
 | []=>⟨[],rfl⟩
 | a::l=>by
  obtain⟨m,hm⟩:=aC1 l
  by_cases h:tr l=[]
  ·by_cases h0:a=0
   ·exact⟨a::l,by simp[tr,h,h0]⟩
   ·exact⟨l,by simp[tr,h,h0]⟩
  ·exact⟨m,by simp only[tr,h,↓reduceIte,List.cons_append]; rw[←hm]⟩
theorem xX (l:List Int):(tr l).length≤l.length:=by
 obtain⟨m,hm⟩:=aC1 l
 have:=congrArg List.length hm
 simp at this; omega
theorem xY {α:Type}(l:List α):l=[]∨∃m a,l=m++[a]:=by
 rcases List.eq_nil_or_concat l with h|⟨m,a,h⟩
 ·exact .inl h
 ·exact .inr ⟨m,a,by simpa using h⟩
theorem aNr (m:List Int)(a:Int):(m++[a]).getD m.length default=a:=by simp[List.getD]
theorem aNs {α:Type}(m:List α)(a:α):(m++[a]).take m.length=m:=by simp
theorem bEl {t:Tag}{m:List Int}{a:Int}(h:bP t (m++[a])):bP (gT t (m++[a]).length m.length) m:=by
 have:=h.cut 0 m.length (m++[a]).length
 simpa using this
theorem aSc (S:aA):∀(n:Nat) (t:Tag) (l:List Int) (x1 y:TV),l.length=n→n≤1000000→bP t l →
  ∃t' y',bP t' (tr l)∧lp' (lim K) t81L0 [.iv (.sl t (one d16 l)),x1,y] S=.ret (.exit 0,[.iv (.sl t' (one d16 (tr l))),x1,y'],S)
 | 0,t,l,x1,y,h,hn,ht=>by
  obtain rfl:l=[]:=List.length_eq_zero_iff.1 h
  refine⟨t,?_,ht,aG K _ _ t81L0.eq_1 ?_⟩
  rotate_left
  ·simp (disch:=omega) only[go_sem,tr,List.length_nil]
   rfl
 | n+1,t,l,x1,y,h,hn,ht=>by
  rcases xY l with rfl|⟨m,a,rfl⟩
  ·simp at h
  have hm:m.length=n:=by simpa using h
  have hl:(m++[a]).length=m.length+1:=by simp
  have hsl:=fun S=>tY (f:=d16) S (t:=t) (l:=m++[a]) (b:=(m.length:Int)) ht (by omega)
  have hix:=iG d16 (t:=t) (l:=m++[a]) (i:=(m.length:Int)) (by omega)
  rw[Int.toNat_natCast,aNr]at hix
  rw[Int.toNat_natCast,aNs]at hsl
  have e1:((m.length:Int)+1-1)=m.length:=by omega
  by_cases ha:a=0
  ·subst ha
   obtain⟨t',y',h1,ih⟩:=aSc S n (gT t (m++[0]).length m.length) m x1 (.iv (.bool true)) hm (by omega) (bEl ht)
   rw[aCz]
   refine⟨t',y',h1,aG K _ _ t81L0.eq_1 ?_⟩
   simp (disch:=omega) only[go_sem,hl,Int.natCast_add,Int.cast_ofNat_Int,aB,hix,hsl,e1,d16]
   rw[hl]at ih
   exact congrArg er ih
  ·rw[aC0 ha]
   refine⟨t,?_,ht,aG K _ _ t81L0.eq_1 ?_⟩
   rotate_left
   ·simp (disch:=omega) only[go_sem,hl,Int.natCast_add,Int.cast_ofNat_Int,aB,hix,hsl,e1,d16]
    rfl
theorem aIo (t:Tag)(l:List Int)(ht:bP t l)(hl:l.length≤1000000):∃t',bP t' (tr l)∧(lim K).call 81 [.iv (.sl t (one d16 l))] []=.ret (.iv (.sl t' (one d16 (tr l))),[]):=by
 obtain⟨t',y',h1,e⟩:=aSc [] l.length t l (.iv (.sl .nil [])) u_ rfl hl ht
 refine⟨t',h1,aD K [] (fn:=t81) rfl rfl ?_⟩
 simp (disch:=omega) only[t81,go_sem,e]
def num (neg:Bool)(t:Tag)(l:List Int):IV:=.agg [.bool neg,.sl t (one d16 l)]
def sg (neg:Bool)(l:List Int):Bool:=neg&&decide (0<l.length)
theorem bEm (neg:Bool)(t:Tag)(l:List Int)(ht:bP t l)(hl:l.length≤1000000):∃t',bP t' (tr l)∧Pure K 83 [.iv (.bool neg),.iv (.sl t (one d16 l))] (.iv (num (sg neg (tr l)) t' (tr l))):=by
 obtain⟨t',h1,e⟩:=aIo t l ht hl
 refine⟨t',h1,aX t83 rfl rfl ?_⟩
 have:=xX l
 simp (disch:=omega) only[t83,go_sem,e]
 repeat' (first|(first|refine cN (fun h=>?_) (fun h=>?_)|refine cO (fun h=>?_) (fun h=>?_)|refine cP (fun h=>?_) (fun h=>?_)|refine dG (fun h=>?_) (fun h=>?_))|simp (disch:=omega) only[go_sem,e])
 all_goals simp[num,sg, *]
def kK (neg:Bool)(t:Tag)(l:List Int):IV:=.agg [.bool neg,.sl t (one i64 l)]
theorem aSd (S:aA)(t:Tag)(l:List Int)(hl:l.length≤1000000)(x1:TV):∀(n:Nat) (m r:List Int) (y:TV),l=m++r→m.length=n →
  ∃y',lp' (lim K) t66L0 [.iv (.sl t (one i64 l)),x1,.iv (.int .i64 n),y] S=.ret (.exit 0,[.iv (.sl t (one i64 l)),x1,.iv (.int .i64 (tr m).length),y'],S)
 | 0,m,r,y,h,hn=>by
  obtain rfl:m=[]:=List.length_eq_zero_iff.1 hn
  refine⟨?_,aG K _ _ t66L0.eq_1 ?_⟩
  rotate_left
  ·simp (disch:=omega) only[go_sem,tr,List.length_nil]
   rfl
 | n+1,m,r,y,h,hn=>by
  rcases xY m with rfl|⟨m,a,rfl⟩
  ·simp at hn
  have hm:m.length=n:=by simpa using hn
  have hll:m.length<l.length:=by rw[h]; simp
  have hix:=iG i64 (t:=t) (l:=l) (i:=(m.length:Int)) (by omega)
  have hg:l.getD m.length default=a:=by rw[h]; simp[List.getD]
  rw[Int.toNat_natCast,hg,hm]at hix
  have e1:((n:Int)+1-1)=n:=by omega
  by_cases ha:a=0
  ·subst ha
   obtain⟨y',ih⟩:=aSd S t l hl x1 n m ([0]++r) (.iv (.bool true)) (by rw[h,List.append_assoc]) hm
   rw[aCz]
   refine⟨y',aG K _ _ t66L0.eq_1 ?_⟩
   simp (disch:=omega) only[go_sem,Int.natCast_add,Int.cast_ofNat_Int,aB,e1,hix,i64]
   exact congrArg er ih
  ·rw[aC0 ha]
   refine⟨?_,aG K _ _ t66L0.eq_1 ?_⟩
   rotate_left
   ·simp (disch:=omega) only[go_sem,Int.natCast_add,Int.cast_ofNat_Int,aB,e1,hix,i64,hn]
    rfl
theorem aSe (t:Tag)(l:List Int)(ht:bP t l)(hl:l.length≤1000000):∃t',bP t' (tr l)∧(lim K).call 66 [.iv (.sl t (one i64 l))] []=.ret (.iv (.sl t' (one i64 (tr l))),[]):=by
 obtain⟨y',e⟩:=aSd [] t l hl (.iv (.sl .nil [])) l.length l [] u_ (by simp) rfl
 have h1:=xX l
 obtain⟨m,hm⟩:=aC1 l
 have hk:l.take (tr l).length=tr l:=by
  rw[show l.take (tr l).length=(tr l++m).take (tr l).length by rw[←hm]]
  exact List.take_left' rfl
 have hsl:=fun S=>tY (f:=i64) S (t:=t) (l:=l) (b:=((tr l).length:Int)) ht (by omega)
 rw[Int.toNat_natCast,hk]at hsl
 have htag:=ht.cut 0 (tr l).length l.length
 refine⟨gT t l.length (tr l).length,by simpa[hk] using htag,aD K [] (fn:=t66) rfl rfl ?_⟩
 simp (disch:=omega) only[t66,go_sem,e,hsl]
theorem aY3 (neg:Bool)(t:Tag)(l:List Int)(ht:bP t l)(hl:l.length≤1000000):∃t',bP t' (tr l)∧Pure K 110 [.iv (.bool neg),.iv (.sl t (one i64 l))] (.iv (kK (sg neg (tr l)) t' (tr l))):=by
 obtain⟨t',h1,e⟩:=aSe t l ht hl
 refine⟨t',h1,aX t110 rfl rfl ?_⟩
 have:=xX l
 simp (disch:=omega) only[t110,go_sem,e]
 repeat' (first|(first|refine cN (fun h=>?_) (fun h=>?_)|refine cO (fun h=>?_) (fun h=>?_)|refine cP (fun h=>?_) (fun h=>?_)|refine dG (fun h=>?_) (fun h=>?_))|simp (disch:=omega) only[go_sem,e])
 all_goals simp[kK,sg, *]
def val (B:Int):List Int→Int
 | []=>0
 | a::l=>a+B*val B l
def Dig (B:Int)(l:List Int):Prop:=∀a∈l,0≤a∧a<B
theorem Dig.nil {B:Int}:Dig B []:=by intro a h; cases h
theorem Dig.cons {B a:Int}{l:List Int}(h:0≤a∧a<B)(hl:Dig B l):Dig B (a::l):=by
 intro x hx
 rcases List.mem_cons.1 hx with rfl|hx
 ·exact h
 ·exact hl x hx
theorem Dig.head {B a:Int}{l:List Int}(h:Dig B (a::l)):0≤a∧a<B:=h a (List.mem_cons_self ..)
theorem Dig.tail {B a:Int}{l:List Int}(h:Dig B (a::l)):Dig B l:=fun x hx=>h x (List.mem_cons_of_mem _ hx)
theorem Dig.append {B:Int}{l m:List Int}(h:Dig B l)(g:Dig B m):Dig B (l++m):=by
 intro x hx
 rcases List.mem_append.1 hx with hx|hx
 ·exact h x hx
 ·exact g x hx
theorem Dig.left {B:Int}{l m:List Int}(h:Dig B (l++m)):Dig B l:=fun x hx=>h x (List.mem_append_left _ hx)
theorem Dig.tr {B:Int}{l:List Int}(h:Dig B l):Dig B (tr l):=by
 obtain⟨m,hm⟩:=aC1 l
 rw[hm]at h
 exact h.left
theorem dP {B:Int}(hB:0<B):∀ {l:List Int},Dig B l→0≤val B l
 | [],_=>Int.le_refl 0
 | a::l,h=>by
  have h1:=dP hB h.tail
  have h2:=h.head
  have h3:0≤B*val B l:=Int.mul_nonneg (by omega) h1
  simp only[val]; omega
theorem rI (B:Int):∀(l m:List Int),val B (l++m)=val B l+B ^ l.length*val B m
 | [],m=>by simp[val]
 | a::l,m=>by
  simp only[List.cons_append,val,rI B l m,List.length_cons,Int.pow_succ,Int.mul_add]
  rw[Int.mul_comm (B ^ l.length) B,Int.mul_assoc]
  omega
theorem aIp (B:Int):∀(l:List Int),val B (tr l)=val B l
 | []=>rfl
 | a::l=>by
  have ih:=aIp B l
  by_cases h:tr l=[]
  ·rw[h]at ih
   by_cases h0:a=0
   ·simp only[tr,h,h0,↓reduceIte,val,←ih]; simp
   ·simp only[tr,h,h0,↓reduceIte,val,←ih]
  ·simp only[tr,h,↓reduceIte,val,ih]
theorem bDg:∀(l:List Int),tr (tr l)=tr l
 | []=>rfl
 | a::l=>by
  have ih:=bDg l
  by_cases h:tr l=[]
  ·by_cases h0:a=0
   ·simp[tr,h,h0]
   ·simp[tr,h,h0]
  ·simp only[tr,h,↓reduceIte,ih]
theorem kL {B:Int}(hB:0<B):∀ {l:List Int},Dig B l→val B l<B ^ l.length
 | [],_=>by simp[val]
 | a::l,h=>by
  have h1:=kL hB h.tail
  have h2:=h.head
  have h3:B*(val B l+1)≤B*B ^ l.length:=Int.mul_le_mul_of_nonneg_left (by omega) (by omega)
  rw[Int.mul_add]at h3
  simp only[val,List.length_cons,Int.pow_succ]
  rw[Int.mul_comm (B ^ l.length) B]
  omega
theorem aFg {B a v:Int}(hB:0<B)(h:0≤a∧a<B):(a+B*v) / B=v∧(a+B*v) % B=a:=by
 constructor
 ·rw[Int.add_mul_ediv_left _ _ (by omega),Int.ediv_eq_zero_of_lt h.1 h.2,Int.zero_add]
 ·rw[Int.add_mul_emod_self_left,Int.emod_eq_of_lt h.1 h.2]
theorem aC2 {B:Int}(hB:0<B):∀ {l:List Int},Dig B l→tr l=l→l≠[]→0<val B l
 | [],_,_,h=>absurd rfl h
 | a::l,h,ht,_=>by
  have h2:=h.head
  have h1:=dP hB h.tail
  by_cases hl:tr l=[]
  ·by_cases h0:a=0
   ·simp[tr,hl,h0]at ht
   ·have h3:0≤B*val B l:=Int.mul_nonneg (by omega) h1
    simp only[val]; omega
  ·simp only[tr,hl,↓reduceIte,List.cons.injEq,true_and]at ht
   have:=aC2 hB h.tail ht (by rw[ht]at hl; exact hl)
   have h3:0<B*val B l:=Int.mul_pos hB this
   simp only[val]; omega
theorem aMb {B:Int}(hB:0<B):∀ {l m:List Int},Dig B l→Dig B m→tr l=l→tr m=m→val B l=val B m→l=m
 | [],[],_,_,_,_,_=>rfl
 | [],b::m,_,h2,_,h4,h5=>by
  have:=aC2 hB h2 h4 (by simp)
  simp only[val]at h5 this; omega
 | a::l,[],h1,_,h3,_,h5=>by
  have:=aC2 hB h1 h3 (by simp)
  simp only[val]at h5 this; omega
 | a::l,b::m,h1,h2,h3,h4,h5=>by
  have e1:=aFg (v:=val B l) hB h1.head
  have e2:=aFg (v:=val B m) hB h2.head
  simp only[val]at h5
  rw[h5]at e1
  have ea:a=b:=by rw[←e1.2,e2.2]
  have ev:val B l=val B m:=by rw[←e1.1,e2.1]
  have sub:∀ {c:Int} {k:List Int},tr (c::k)=c::k→tr k=k:=by
   intro c k h
   by_cases hk:tr k=[]
   ·by_cases h0:c=0
    ·simp[tr,hk,h0]at h
    ·simp[tr,hk,h0]at h; rw[h]; rfl
   ·simpa[tr,hk] using h
  rw[ea,aMb hB h1.tail h2.tail (sub h3) (sub h4) ev]
def dg (B:Int)(n:Int):List Int :=
 if h:0<n∧1<B then n % B::dg B (n / B) else []
termination_by n.toNat
decreasing_by
 have h1:n / B<n:=Int.ediv_lt_of_lt_mul (by omega) (by
  have:=Int.mul_le_mul_of_nonneg_left (show 2≤B by omega) (show 0≤n by omega)
  omega)
 have h2:0≤n / B:=Int.ediv_nonneg (by omega) (by omega)
 omega
theorem dN (B:Int):dg B 0=[]:=by rw[dg]; simp
theorem aIq {B n:Int}(hB:1<B)(h:0<n):dg B n=n % B::dg B (n / B):=by rw[dg]; simp[h,hB]
theorem xC {B:Int}(hB:1<B):∀(k:Nat) (n:Int),n.toNat≤k→0≤n→Dig B (dg B n)∧val B (dg B n)=n∧tr (dg B n)=dg B n
 | 0,n,h,h0=>by
  obtain rfl:n=0:=by omega
  rw[dN]; exact⟨Dig.nil,rfl,rfl⟩
 | k+1,n,h,h0=>by
  by_cases hn:n=0
  ·subst hn; rw[dN]; exact⟨Dig.nil,rfl,rfl⟩
  ·have hp:0<n:=by omega
   have h1:n / B<n:=Int.ediv_lt_of_lt_mul (by omega) (by
    have:=Int.mul_le_mul_of_nonneg_left (show 2≤B by omega) (show 0≤n by omega)
    omega)
   have h2:0≤n / B:=Int.ediv_nonneg (by omega) (by omega)
   obtain⟨i1,i2,i3⟩:=xC hB k (n / B) (by omega) h2
   have h3:=Int.emod_nonneg n (show B≠0 by omega)
   have h4:=Int.emod_lt_of_pos n (show 0<B by omega)
   rw[aIq hB hp]
   refine⟨Dig.cons ⟨h3,h4⟩ i1,?_,?_⟩
   ·simp only[val,i2]; have:=Int.emod_add_mul_ediv n B; omega
   ·by_cases hd:dg B (n / B)=[]
    ·rw[hd]at i2 ⊢
     simp only[val]at i2
     have:n % B≠0:=by
      have:=Int.emod_add_mul_ediv n B
      rw[←i2]at this; simp at this; omega
     simp[tr,this]
    ·simp[tr,i3,hd]
theorem kM {B n:Int}(hB:1<B)(h:0≤n):Dig B (dg B n):=(xC hB _ n (Nat.le_refl _) h).1
theorem lC {B n:Int}(hB:1<B)(h:0≤n):val B (dg B n)=n:=(xC hB _ n (Nat.le_refl _) h).2.1
theorem aSf {B n:Int}(hB:1<B)(h:0≤n):tr (dg B n)=dg B n:=(xC hB _ n (Nat.le_refl _) h).2.2
theorem aFh {B:Int}(hB:1<B){l:List Int}(h:Dig B l):tr l=dg B (val B l):=by
 have h0:=dP (by omega) h
 exact aMb (by omega) h.tr (kM hB h0) (bDg l) (aSf hB h0) (by rw[aIp,lC hB h0])
theorem aC3 {B n:Int}(hB:1<B)(h:0≤n):dg B n=[]↔n=0:=by
 constructor
 ·intro e; rw[←lC hB h,e]; rfl
 ·rintro rfl; exact dN B
def sc (B y:Int):List Int→Int→List Int×Int
 | [],m=>([],m)
 | a::l,m=>((m+a*y) % B::(sc B y l ((m+a*y) / B)).1,(sc B y l ((m+a*y) / B)).2)
theorem xD {B y:Int}(hB:1<B)(hy:0≤y):∀(l:List Int) (m:Int),Dig B l→0≤m→Dig B (sc B y l m).1∧0≤(sc B y l m).2∧(sc B y l m).1.length=l.length∧val B (sc B y l m).1+B ^ l.length*(sc B y l m).2=y*val B l+m
 | [],m,_,hm=>by simp[sc,val,Dig.nil,hm]
 | a::l,m,h,hm=>by
  have h1:=h.head
  have h2:0≤a*y:=Int.mul_nonneg h1.1 hy
  have h3:0≤(m+a*y) / B:=Int.ediv_nonneg (by omega) (by omega)
  obtain⟨i1,i2,i3,i4⟩:=xD hB hy l ((m+a*y) / B) h.tail h3
  have h5:=Int.emod_nonneg (m+a*y) (show B≠0 by omega)
  have h6:=Int.emod_lt_of_pos (m+a*y) (show 0<B by omega)
  have h7:=Int.emod_add_mul_ediv (m+a*y) B
  refine⟨Dig.cons ⟨h5,h6⟩ i1,i2,by simp[sc,i3],?_⟩
  simp only[sc,val,List.length_cons,Int.pow_succ]
  rw[Int.mul_comm (B ^ l.length) B,Int.mul_assoc,Int.add_assoc,←Int.mul_add,i4,Int.mul_add,Int.mul_add,←Int.mul_assoc,Int.mul_comm B y,Int.mul_assoc,Int.mul_comm y a]
  omega
theorem aFi {B y c:Int}(hB:1<B)(hy:0≤y∧y≤c):∀(l:List Int) (m:Int),Dig B l→0≤m∧m≤c→(sc B y l m).2≤c
 | [],m,_,hm=>hm.2
 | a::l,m,h,hm=>by
  have h1:=h.head
  have h2:0≤a*y:=Int.mul_nonneg h1.1 hy.1
  have h3:0≤(m+a*y) / B:=Int.ediv_nonneg (by omega) (by omega)
  have h4:a*y≤(B-1)*c:=Int.le_trans (Int.mul_le_mul_of_nonneg_right (show a≤B-1 by omega) hy.1) (Int.mul_le_mul_of_nonneg_left hy.2 (by omega))
  have h5:(m+a*y) / B≤c:=by
   apply Int.ediv_le_of_le_mul (by omega)
   rw[Int.sub_mul]at h4
   rw[Int.mul_comm c B]
   omega
  exact aFi hB hy l _ h.tail ⟨h3,h5⟩
theorem oC {B:Int}(hB:1<B)(n:Nat):0<B ^ n:=Int.pow_pos (by omega)
theorem bEn {B y:Int}(hB:1<B)(hy:0≤y)(l m:List Int)(x:Int)(h:Dig B l)(hx:0≤x)(hm:Dig B m)(e:val B m=(sc B y l x).2):Dig B ((sc B y l x).1++m)∧val B ((sc B y l x).1++m)=y*val B l+x:=by
 obtain⟨i1,i2,i3,i4⟩:=xD hB hy l x h hx
 exact⟨i1.append hm,by rw[rI,i3,e,i4]⟩
theorem oD {B:Int}(hB:1<B):∀(k:Nat) (n:Int),0≤n→n<B ^ k→(dg B n).length≤k
 | 0,n,h0,h=>by
  obtain rfl:n=0:=by simp at h; omega
  rw[dN]; exact Nat.le_refl _
 | k+1,n,h0,h=>by
  by_cases hn:n=0
  ·subst hn; rw[dN]; simp
  ·rw[aIq hB (by omega),List.length_cons]
   have:=oD hB k (n / B) (Int.ediv_nonneg h0 (by omega)) (by
    apply Int.ediv_lt_of_lt_mul (by omega)
    rwa [Int.pow_succ]at h)
   omega
theorem aIr (n:Int):([d16 n]:List IV).length=1∧([d16 n]:List IV).all gU=true:=⟨rfl,rfl⟩
theorem bEo (n:Int):([i64 n]:List IV).length=1∧([i64 n]:List IV).all gU=true:=⟨rfl,rfl⟩
theorem sH {α:Type}(f:α→IV)(l:List α)(a:α):one f l++[[f a]]=one f (l++[a]):=by simp[one]
theorem aY4 {a b:Int}(h:0≤a):a.tmod b=a % b:=Int.tmod_eq_emod_of_nonneg h
theorem aY5 {a b:Int}(h:0≤a):a.tdiv b=a / b:=Int.tdiv_eq_ediv_of_nonneg h
theorem bIa (m:Int):m.fdiv 65536=m / 65536:=Int.fdiv_eq_ediv_of_nonneg m (by decide)
theorem bEp {a b c d:Int}(h1:0≤a)(h2:a≤c)(h3:0≤b)(h4:b≤d):0≤a*b∧a*b≤c*d :=
 ⟨Int.mul_nonneg h1 h3,Int.le_trans (Int.mul_le_mul_of_nonneg_right h2 h3) (Int.mul_le_mul_of_nonneg_left h4 (by omega))⟩
theorem aSg (t:Tag)(l:List Int)(hd:Dig 65536 l)(hl:l.length≤1000000)(y:Int)(hy:0≤y∧y≤65535)(x0 x3:TV):∀(n i:Nat) (m:Int) (d:List Int) (x5 x9:TV),i+n=l.length→d.length=i→0≤m∧m≤65536 →
  ∃y5 y9,lp' (lim K) t82L0 [x0,.iv (.int .u32 y),.iv (.int .u32 m),x3,acc 0 (one d16 d),x5,.iv (.sl t (one d16 l)),.iv (.int .i64 l.length),.iv (.int .i64 i),x9] (gV 1 84 (one d16 d))=.ret (.exit 0,[x0,.iv (.int .u32 y),.iv (.int .u32 (sc 65536 y (l.drop i) m).2),x3,acc 0 (one d16 (d++(sc 65536 y (l.drop i) m).1)),y5,.iv (.sl t (one d16 l)),.iv (.int .i64 l.length),.iv (.int .i64 l.length),y9],gV 1 84 (one d16 (d++(sc 65536 y (l.drop i) m).1)))
 | 0,i,m,d,x5,x9,h,hi,hm=>by
  obtain rfl:i=l.length:=by omega
  rw[List.drop_length]
  refine⟨?_,?_,aG K _ _ t82L0.eq_1 ?_⟩
  rotate_left 2
  ·simp (disch:=omega) only[go_sem,sc,List.append_nil]
   rfl
 | n+1,i,m,d,x5,x9,h,hi,hm=>by
  have hlt:i<l.length:=by omega
  have hix:=iG d16 (t:=t) (l:=l) (i:=(i:Int)) (by omega)
  rw[Int.toNat_natCast]at hix
  have hdr:l.drop i=l.getD i default::l.drop (i+1):=by
   rw[List.drop_eq_getElem_cons hlt]; simp[List.getD,List.getElem?_eq_getElem hlt]
  have hg:0≤l.getD i default∧l.getD i default<65536:=hd _ (by rw[List.getD,List.getElem?_eq_getElem hlt]; exact List.getElem_mem hlt)
  rw[hdr]
  generalize l.getD i default=a at *
  have hp:=bEp (c:=65535) (d:=65535) hg.1 (by omega) hy.1 hy.2
  have ha:=jX (w:=1) (b:=2) (el:=84) (t:=.full) (aIr ((m+a*y) % 65536)) (eT.one (f:=d16) (fun _=>rfl) d) (cS (by rw[bJ]; omega))
  rw[sH]at ha
  have hm':0≤(m+a*y) / 65536∧(m+a*y) / 65536≤65536:=by omega
  obtain⟨y5,y9,ih⟩:=aSg t l hd hl y hy x0 x3 n (i+1) ((m+a*y) / 65536) (d++[(m+a*y) % 65536]) (.iv (.int .u16 a)) (.iv (.bool true)) (by omega) (by simp[hi]) hm'
  refine⟨y5,y9,aG K _ _ t82L0.eq_1 ?_⟩
  simp only[d16]at hix ha
  simp (config := { maxSteps := 4000000 }) (disch:=omega) only[go_sem,hix,cC,nN,aB,ha]
  rw[List.append_assoc]at ih
  simp only[sc,List.cons_append,List.nil_append]at ih ⊢
  rw[bIa]
  exact congrArg er ih
theorem bEq (t:Tag)(l:List Int)(hd:Dig 65536 l)(hl:l.length≤900000)(y:Int)(hy:0≤y∧y≤65535)(m:Int)(hm:0≤m∧m≤65535) :
  Pure K 82 [.iv (.sl t (one d16 l)),.iv (.int .u32 y),.iv (.int .u32 m)] (.iv (.sl (eM ((sc 65536 y l m).1++[(sc 65536 y l m).2 % 65536])) (one d16 ((sc 65536 y l m).1++[(sc 65536 y l m).2 % 65536])))):=by
 obtain⟨y5,y9,e⟩:=aSg t l hd (by omega) y hy (.iv (.sl t (one d16 l))) (.iv (.sl .nil [])) l.length 0 m [] u_ u_ (by omega) rfl (by omega)
 obtain⟨h1,h2,h3,h4⟩:=xD (B:=65536) (by decide) hy.1 l m hd hm.1
 rw[List.drop_zero,List.nil_append]at e
 have ha:=jX (w:=1) (b:=2) (el:=84) (t:=.full) (aIr ((sc 65536 y l m).2 % 65536)) (eT.one (f:=d16) (fun _=>rfl) (sc 65536 y l m).1) (cS (by rw[bJ]; omega))
 rw[sH]at ha
 refine aX t82 rfl rfl ?_
 simp only[d16]at ha
 have e0:acc 0 (one d16 [])=.iv (.sl .nil []):=cQ 0
 have e1:gV 1 84 (one d16 [])=[]:=eU 1 55
 rw[e0,e1,show ((0:Nat):Int)=0 from rfl]at e
 simp (config := { maxSteps := 4000000 }) (disch:=omega) only[t82,go_sem,e,nN,ha,bY,fE,bN]
 rw[show eM (one d16 ((sc 65536 y l m).1++[(sc 65536 y l m).2 % 65536]))=eM ((sc 65536 y l m).1++[(sc 65536 y l m).2 % 65536]) from jA _ _]
def scd (y:Int)(l:List Int)(m:Int):List Int:=(sc 65536 y l m).1++[(sc 65536 y l m).2 % 65536]
theorem aSh {y m:Int}{l:List Int}(hd:Dig 65536 l)(hy:0≤y∧y≤65535)(hm:0≤m∧m≤65535):Dig 65536 (scd y l m)∧val 65536 (scd y l m)=y*val 65536 l+m∧(scd y l m).length=l.length+1:=by
 obtain⟨i1,i2,i3,i4⟩:=xD (B:=65536) (by decide) hy.1 l m hd hm.1
 have h5:=aFi (B:=65536) (c:=65535) (by decide) hy l m hd hm
 have h6:(sc 65536 y l m).2 % 65536=(sc 65536 y l m).2:=by omega
 obtain⟨a,b⟩:=bEn (B:=65536) (by decide) hy.1 l [(sc 65536 y l m).2 % 65536] m hd hm.1 (by intro x hx; simp at hx; omega) (by simp[val]; omega)
 exact⟨a,b,by simp[scd,i3]⟩
theorem aY6 (t:Tag)(l:List Int)(hd:Dig 65536 l)(hl:l.length≤900000)(y:Int)(hy:0≤y∧y≤65535)(m:Int)(hm:0≤m∧m≤65535) :
  Pure K 82 [.iv (.sl t (one d16 l)),.iv (.int .u32 y),.iv (.int .u32 m)] (.iv (.sl (eM (scd y l m)) (one d16 (scd y l m)))):=bEq t l hd hl y hy m hm
def dv (B y:Int):List Int→List Int×Int
 | []=>([],0)
 | a::l=>((B*(dv B y l).2+a) / y::(dv B y l).1,(B*(dv B y l).2+a) % y)
theorem aC4 {B y:Int}(hB:1<B)(hy:0<y):∀(l:List Int),Dig B l→Dig B (dv B y l).1∧0≤(dv B y l).2∧(dv B y l).2<y∧(dv B y l).1.length=l.length∧y*val B (dv B y l).1+(dv B y l).2=val B l
 | [],_=>by simp[dv,val,Dig.nil,hy]
 | a::l,h=>by
  obtain⟨i1,i2,i3,i4,i5⟩:=aC4 hB hy l h.tail
  have h1:=h.head
  have h2:0≤B*(dv B y l).2:=Int.mul_nonneg (by omega) i2
  have h3:B*(dv B y l).2≤B*(y-1):=Int.mul_le_mul_of_nonneg_left (by omega) (by omega)
  rw[Int.mul_sub]at h3
  have h4:0≤(B*(dv B y l).2+a) / y:=Int.ediv_nonneg (by omega) (by omega)
  have h5:(B*(dv B y l).2+a) / y<B:=Int.ediv_lt_of_lt_mul hy (by omega)
  have h6:=Int.emod_nonneg (B*(dv B y l).2+a) (show y≠0 by omega)
  have h7:=Int.emod_lt_of_pos (B*(dv B y l).2+a) hy
  have h8:=Int.emod_add_mul_ediv (B*(dv B y l).2+a) y
  refine⟨Dig.cons ⟨h4,h5⟩ i1,h6,h7,by simp[dv,i4],?_⟩
  simp only[dv,val]
  rw[←i5,Int.mul_add,Int.mul_add,←Int.mul_assoc,←Int.mul_assoc,Int.mul_comm y B]
  omega
theorem aY7 (k:Nat)(q:List Int)(v:Int):(List.replicate (k+1) (0:Int)++q).set k v=List.replicate k 0++v::q:=by
 induction k with
 | zero=>rfl
 | succ k ih=>rw[List.replicate_succ,List.cons_append,List.set_cons_succ,ih,List.replicate_succ,List.cons_append]
theorem uD {l:List Int}{i:Nat}(h:i<l.length):l.drop i=l.getD i default::l.drop (i+1):=by
 rw[List.drop_eq_getElem_cons h]; simp[List.getD,List.getElem?_eq_getElem h]
theorem Dig.getD {B:Int}{l:List Int}(hd:Dig B l){i:Nat}(h:i<l.length):0≤l.getD i default∧l.getD i default<B:=hd _ (by rw[List.getD,List.getElem?_eq_getElem h]; exact List.getElem_mem h)
theorem Dig.drop {B:Int}{l:List Int}(hd:Dig B l)(i:Nat):Dig B (l.drop i):=fun x hx=>hd x (List.mem_of_mem_drop hx)
theorem aSi (t:Tag)(l:List Int)(hd:Dig 10 l)(hl:l.length≤1000000)(b:Bool)(x1 x2:TV):∀(k:Nat) (x6:TV),k≤l.length →
  ∃y6,lp' (lim K) t41L0 [.iv (.sl t (one i64 l)),x1,x2,.msl 0 0 0 l.length l.length 1,.iv (.int .i64 (dv 10 65536 (l.drop k)).2),.iv (.int .i64 ((k:Int)-1)),x6] [.cells 0 b (eV i64 (List.replicate k 0++(dv 10 65536 (l.drop k)).1))]=.ret (.exit 0,[.iv (.sl t (one i64 l)),x1,x2,.msl 0 0 0 l.length l.length 1,.iv (.int .i64 (dv 10 65536 l).2),.iv (.int .i64 (-1)),y6],[.cells 0 b (eV i64 (dv 10 65536 l).1)])
 | 0,x6,h=>by
  refine⟨?_,aG K _ _ t41L0.eq_1 ?_⟩
  rotate_left
  ·simp (disch:=omega) only[go_sem,List.drop_zero]
   rfl
 | k+1,x6,h=>by
  have hlt:k<l.length:=by omega
  have hix:=iG i64 (t:=t) (l:=l) (i:=(k:Int)) (by omega)
  have hdr:=uD hlt
  have hg:=hd.getD hlt
  rw[Int.toNat_natCast]at hix
  obtain⟨i1,i2,i3,i4,i5⟩:=aC4 (B:=10) (y:=65536) (by decide) (by decide) (l.drop (k+1)) (hd.drop _)
  obtain⟨y6,ih⟩:=aSi t l hd hl b x1 x2 k (.iv (.bool true)) (by omega)
  rw[hdr]at ih
  simp only[dv]at ih
  have hlen:(dv 10 65536 (l.drop (k+1))).1.length=l.length-(k+1):=by rw[i4]; simp
  generalize dv 10 65536 (l.drop (k+1))=p at *
  generalize l.getD k default=a at *
  have hm:=bGo (j:=0) (v:=0) (off:=0) (len:=l.length) (cap:=l.length) (i:=(k:Int)) (by omega)
  rw[Int.toNat_natCast,Nat.zero_add]at hm
  rw[←aY7]at ih
  have hCl:k<(List.replicate (k+1) 0++p.1).length:=by simp; omega
  generalize List.replicate (k+1) 0++p.1=C at *
  have hs:=fun n env=>aYd (S:=[.cells 0 b (eV i64 C)]) (j:=0) (f:=i64) (C:=C) (i:=k) (fun _=>rfl) rfl hCl n env
  simp only[List.set_cons_zero]at hs
  refine⟨y6,aG K _ _ t41L0.eq_1 ?_⟩
  simp only[i64]at hix hs
  have e1:((k:Int)+1-1)=k:=by omega
  have tm:(10*p.2+a).tmod 65536=(10*p.2+a) % 65536:=aY4 (by omega)
  have td:(10*p.2+a).tdiv 65536=(10*p.2+a) / 65536:=aY5 (by omega)
  simp (config := { maxSteps := 4000000 }) (disch:=omega) only[go_sem,Int.natCast_add,Int.cast_ofNat_Int,e1,hix,aB,tm,td,hm,fD,eB,pK,hs]
  exact congrArg er ih
theorem bEr (t:Tag)(l:List Int)(hd:Dig 10 l)(hl:l.length≤1000000):∃t',bP t' (dg 10 (val 10 l / 65536))∧Pure K 41 [.iv (.sl t (one i64 l))] (.tup [.iv (.sl t' (one i64 (dg 10 (val 10 l / 65536)))),.iv (.int .i64 (val 10 l % 65536))]):=by
 obtain⟨i1,i2,i3,i4,i5⟩:=aC4 (B:=10) (y:=65536) (by decide) (by decide) l hd
 have h0:=dP (B:=10) (by decide) i1
 have e1:val 10 l / 65536=val 10 (dv 10 65536 l).1:=by omega
 have e2:val 10 l % 65536=(dv 10 65536 l).2:=by omega
 rw[e1,e2,←aFh (by decide) i1]
 obtain⟨y6,e⟩:=aSi t l hd hl false (.iv (.sl .nil [])) (.iv (.int .i64 0)) l.length u_ (Nat.le_refl _)
 rw[List.drop_length]at e
 simp only[dv]at e
 rw[List.append_nil]at e
 obtain⟨t',ht,h40⟩:=aSe .no (dv 10 65536 l).1 (bP.no _) (by omega)
 refine⟨t',ht,aX t41 rfl rfl ?_⟩
 have hmk:=bBs [.int .i64 0] 8 0 .i64 .i64 l.length l.length ⟨by omega,by omega,cS (by rw[Int.toNat_natCast]; omega)⟩
 rw[Int.toNat_natCast]at hmk
 rw[show bS (List.replicate l.length (List.map TV.iv [IV.int IntKind.i64 0]))=eV i64 (List.replicate l.length 0) from aYe i64 l.length]at hmk
 have hfr:=fun r=>aIc (S:=[.cells 0 false (eV i64 (dv 10 65536 l).1)]) (j:=0) (f:=i64) rfl 0 0 l.length l.length 1 r
 have hel:=aLt (S:=[.cells 0 false (eV i64 (dv 10 65536 l).1)]) (j:=0) (f:=i64) rfl 0 l.length l.length (by omega)
 rw[List.drop_zero,List.take_of_length_le (by omega)]at hel
 generalize List.replicate l.length (0:Int)=C at *
 simp (config := { maxSteps := 4000000 }) (disch:=omega) only[t41,go_sem,hmk,aB,e,uA,hfr,aLu,List.set_cons_zero,hel,h40,bY,bN]
theorem aSj (x0 x1 x2:TV):∀(k:Nat) (v:Int) (d:List Int) (tg:Tag) (x5 x6 x7:TV),0≤v→(dg 65536 v).length≤k→bP tg (dg 10 v)→(dg 10 v).length≤100000→d.length+k≤1000000 →
  ∃tg' y5 y6 y7,lp' (lim K) t27L0 [x0,x1,x2,acc 0 (one d16 d),.iv (.sl tg (one i64 (dg 10 v))),x5,x6,x7] (gV 1 84 (one d16 d))=.ret (.exit 0,[x0,x1,x2,acc 0 (one d16 (d++dg 65536 v)),.iv (.sl tg' []),y5,y6,y7],gV 1 84 (one d16 (d++dg 65536 v)))
 | 0,v,d,tg,x5,x6,x7,h0,hk,ht,hn,hl=>by
  have hv:v=0:=(aC3 (B:=65536) (by decide) h0).1 (List.length_eq_zero_iff.1 (by omega))
  subst hv
  refine⟨tg,?_,?_,?_,aG K _ _ t27L0.eq_1 ?_⟩
  rotate_left 3
  ·rw[dN,dN,List.append_nil]
   have e0:one i64 []=[]:=rfl
   rw[e0]
   simp (disch:=omega) only[go_sem,List.length_nil]
   rfl
 | k+1,v,d,tg,x5,x6,x7,h0,hk,ht,hn,hl=>by
  by_cases hv:v=0
  ·subst hv
   refine⟨tg,?_,?_,?_,aG K _ _ t27L0.eq_1 ?_⟩
   rotate_left 3
   ·rw[dN,dN,List.append_nil]
    have e0:one i64 []=[]:=rfl
    rw[e0]
    simp (disch:=omega) only[go_sem,List.length_nil]
    rfl
  ·have hp:0<(dg 10 v).length:=by
    rcases Nat.eq_zero_or_pos (dg 10 v).length with e|e
    ·exact absurd ((aC3 (B:=10) (by decide) h0).1 (List.length_eq_zero_iff.1 e)) hv
    ·exact e
   obtain⟨t',ht',h67⟩:=bEr tg (dg 10 v) (kM (by decide) h0) (by omega)
   rw[lC (by decide) h0]at ht' h67
   rw[aIq (B:=65536) (by decide) (by omega)]at hk ⊢
   have hlen:(dg 10 (v / 65536)).length≤(dg 10 v).length:=by
    refine oD (by decide) _ _ (by omega) ?_
    have:=kL (B:=10) (by decide) (kM (n:=v) (by decide) h0)
    rw[lC (by decide) h0]at this
    omega
   have ha:=jX (w:=1) (b:=2) (el:=84) (t:=.full) (aIr (v % 65536)) (eT.one (f:=d16) (fun _=>rfl) d) (cS (by rw[bJ]; omega))
   rw[sH]at ha
   obtain⟨tg',y5,y6,y7,ih⟩:=aSj x0 x1 x2 k (v / 65536) (d++[v % 65536]) t' (.iv (.sl t' (one i64 (dg 10 (v / 65536))))) (.iv (.int .i64 (v % 65536))) (.iv (.bool true)) (by omega) (by rw[List.length_cons]at hk; omega) ht' (by omega) (by simp; omega)
   refine⟨tg',y5,y6,y7,aG K _ _ t27L0.eq_1 ?_⟩
   simp only[d16]at ha
   generalize dg 10 v=D at *
   generalize dg 10 (v / 65536)=E at *
   simp (config := { maxSteps := 4000000 }) (disch:=omega) only[go_sem,aB,nN,Int.emod_emod,aE h67,ha]
   rw[List.append_assoc,List.cons_append,List.nil_append]at ih
   exact congrArg er ih
theorem aSk (s:Bool)(tg:Tag)(v:Int)(h0:0≤v)(ht:bP tg (dg 10 v))(hn:(dg 10 v).length≤100000):Pure K 27 [.iv (kK s tg (dg 10 v))] (.iv (.sl (eM (dg 65536 v)) (one d16 (dg 65536 v)))):=by
 have hle:(dg 65536 v).length≤(dg 10 v).length:=by
  refine oD (by decide) _ _ h0 ?_
  have h1:=kL (B:=10) (by decide) (kM (n:=v) (by decide) h0)
  rw[lC (by decide) h0]at h1
  have h2:(10:Int) ^ (dg 10 v).length≤65536 ^ (dg 10 v).length:=by
   generalize (dg 10 v).length=n
   induction n with
   | zero=>simp
   | succ n ih=>rw[Int.pow_succ,Int.pow_succ]; have:=oC (B:=10) (by decide) n; omega
  omega
 obtain⟨tg',y5,y6,y7,e⟩:=aSj (.iv (kK s tg (dg 10 v))) (.lb [.iv (.bool s),.iv (.sl tg (one i64 (dg 10 v)))]) (.iv (.sl .nil [])) (dg 65536 v).length v [] tg u_ u_ u_ h0 (Nat.le_refl _) ht hn (by simp; omega)
 refine aX t27 rfl rfl ?_
 have e0:acc 0 (one d16 [])=.iv (.sl .nil []):=cQ 0
 have e1:gV 1 84 (one d16 [])=[]:=eU 1 55
 rw[e0,e1,List.nil_append]at e
 simp only[kK]at e ⊢
 simp (config := { maxSteps := 4000000 }) (disch:=omega) only[t27,go_sem,e,bY,fE,bN]
 rw[show eM (one d16 (dg 65536 v))=eM (dg 65536 v) from jA _ _]
theorem blB (b:UInt8):b.toNat<256:=b.toNat_lt
def isD (c:UInt8):Bool:=decide (48≤(c.toNat:Int))&&decide ((c.toNat:Int)≤57)
def dgt (c:UInt8):Int:=(c.toNat:Int)-48
def dec (s:List UInt8):Int:=val 10 (s.reverse.map dgt)
theorem aFj {s:List UInt8}{i:Nat}(h:i<s.length):s.drop i=s.getD i 0::s.drop (i+1):=by
 rw[List.drop_eq_getElem_cons h]; simp[List.getD,List.getElem?_eq_getElem h]
theorem aSl {s:List UInt8}{i:Nat}(h:i<s.length):s.take (i+1)=s.take i++[s.getD i 0]:=by
 rw[List.take_add_one,List.getElem?_eq_getElem h]; simp[List.getD,List.getElem?_eq_getElem h]
theorem aSm (s:List UInt8)(hl:s.length≤1000)(fst:Nat)(x3 x7 x8:TV):∀(n:Nat) (x9 x10:TV),fst+n≤s.length →
  ∃y5 y6 y9 y10 S',lp' (lim K) t86L0 [.iv (.str s),.lb [.iv (.bool false),.iv (.sl .nil [])],.iv (.int .i64 0),x3,.iv (.int .i64 fst),acc 0 (one i64 ((s.drop (fst+n)).reverse.map dgt)),.iv (.int .i64 (((fst+n:Nat):Int)-1)),x7,x8,x9,x10] (gV 1 3 (one i64 ((s.drop (fst+n)).reverse.map dgt)))
   = .ret (if ((s.take (fst+n)).drop fst).all isD then (.exit 0,[.iv (.str s),.lb [.iv (.bool false),.iv (.sl .nil [])],.iv (.int .i64 0),x3,.iv (.int .i64 fst),acc 0 (one i64 ((s.drop fst).reverse.map dgt)),y6,x7,x8,y9,y10],gV 1 3 (one i64 ((s.drop fst).reverse.map dgt)))
    else (.ret,[.iv (.str s),.lb [.iv (.bool false),.iv (.sl .nil [])],.iv (.int .i64 4),x3,.iv (.int .i64 fst),y5,y6,x7,x8,y9,y10],S'))
 | 0,x9,x10,h=>by
  have e:((s.take (fst+0)).drop fst).all isD=true:=by
   rw[List.drop_of_length_le (by simp; omega)]; rfl
  refine⟨.hole,?_,?_,?_,[],aG K _ _ t86L0.eq_1 ?_⟩
  rotate_left 3
  ·simp only[e,↓reduceIte]
   simp (disch:=omega) only[go_sem,Nat.add_zero]
   rfl
 | n+1,x9,x10,h=>by
  have hlt:fst+n<s.length:=by omega
  have hix:=fun kd=>mS (s:=s) (i:=((fst+n:Nat):Int)) (kd:=kd) (by omega)
  simp only[Int.toNat_natCast]at hix
  have hd:=aFj hlt
  have htk:=aSl hlt
  have e1:((fst+(n+1):Nat):Int)-1=((fst+n:Nat):Int):=by omega
  have ih:=aSm s hl fst x3 x7 x8 n
  have hall:((s.take (fst+n+1)).drop fst).all isD=(((s.take (fst+n)).drop fst).all isD&&isD (s.getD (fst+n) 0)):=by
   rw[htk,List.drop_append_of_le_length (by simp; omega),List.all_append]; simp
  have hcons:(s.drop (fst+n)).reverse.map dgt=(s.drop (fst+n+1)).reverse.map dgt++[dgt (s.getD (fst+n) 0)]:=by
   rw[hd]; simp
  rw[←Nat.add_assoc,hall]
  rw[hcons]at ih
  have hdl:((s.drop (fst+n+1)).reverse.map dgt).length≤1000:=by simp; omega
  have hb:=blB (s.getD (fst+n) 0)
  generalize s.getD (fst+n) 0=c at *
  generalize (s.drop (fst+n+1)).reverse.map dgt=D at *
  have ha:=jX (w:=1) (b:=8) (el:=3) (t:=.full) (bEo (dgt c)) (eT.one (f:=i64) (fun _=>rfl) D) (cS (by rw[bJ]; omega))
  rw[sH]at ha
  rw[Nat.add_assoc,e1]
  have hne:fst≤fst+n:=by omega
  have hgi:((fst:Int)≤((fst+n:Nat):Int)):=by omega
  generalize hi:((fst+n:Nat):Int)=i at *
  by_cases hc:isD c=true
  ·obtain⟨y5,y6,y9,y10,S',ih⟩:=ih (.iv (.bool true)) (.iv (.bool false)) (by omega)
   refine⟨y5,y6,y9,y10,S',aG K _ _ t86L0.eq_1 ?_⟩
   simp only[hc,Bool.and_true]
   simp only[isD,Bool.and_eq_true,decide_eq_true_eq]at hc
   generalize ((s.take (fst+n)).drop fst).all isD=A at *
   simp only[i64,dgt]at ha
   simp (config := { maxSteps := 4000000 }) (disch:=omega) only[go_sem,hix,aB,qJ,ha]
   exact congrArg er ih
  ·simp only[hc,Bool.and_false,Bool.false_eq_true,↓reduceIte]
   simp only[isD,Bool.and_eq_true,decide_eq_true_eq]at hc
   by_cases h48:(c.toNat:Int)<48
   ·refine⟨?_,?_,?_,?_,?_,aG K _ _ t86L0.eq_1 ?_⟩
    rotate_left 5
    ·simp (config := { maxSteps := 4000000 }) (disch:=omega) only[go_sem,hix,h48,aB,qJ]
     rfl
   ·refine⟨?_,?_,?_,?_,?_,aG K _ _ t86L0.eq_1 ?_⟩
    rotate_left 5
    ·simp (config := { maxSteps := 4000000 }) (disch:=omega) only[go_sem,hix,h48,aB,qJ]
     rfl
end Go.Proofs.YtjbpbohpmfpoiaaGreatDoor
