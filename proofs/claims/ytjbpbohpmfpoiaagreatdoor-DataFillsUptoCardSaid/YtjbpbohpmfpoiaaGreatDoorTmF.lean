/- A part of the evaluator TM, and of the proof that what it computes the model does. Condition: none. -/
import Derived.Test.YtjbpbohpmfpoiaaGreatDoorTmD
import Derived.Shelf.Strings.Builder1
import Derived.Lib.Bytealg
import Derived.Lib.MakeNoZero
import Derived.Test.YtjbpbohpmfpoiaaGreatDoorTmE
set_option linter.unusedVariables false
set_option linter.unusedSimpArgs false
namespace Go.TM
open Go Go.Shelf Go.RowKit Go.Proofs
theorem mK {P:Program}{F:Fence}(hF:cT F){n f:Nat}{args:Array Value}{w:World}{R:Ending→World→Prop}(h:Calls P f args w R):CallsIn F n P f args w R:=by
 have e:F.plain=Fence.wide:=by
  obtain⟨h1,h2,h3⟩:=hF
  cases F
  simp only at h1 h2 h3
  subst h2 h3
  simp only[Fence.plain,Fence.wide,Fence.mk.injEq,and_true]
  funext x
  exact propext (iff_true_intro (h1 x))
 refine qC ?_
 rw[e]
 exact callsIn_wide.2 h
variable {P:Program}{O:cW}{K:TM.bG}
def pM:vU:=fun xs S=>match xs with
 | [.iv (.str s),.iv (.int .u8 c)]=>some (.iv (.int .i64 (Lib.indexByte s c.toNat.toUInt8)),S)
 | _=>none
theorem aEl {f : Nat} {fn : Func} (hf : P.funcs[f]? = some fn) (hname : (fn.name == "runtime.NumGoroutine") = false) (hb : fn.body.isNone = true) (hn : Extern.findNext fn = none)
  (he:Extern.find fn=some Extern.BytealgIndexByte.indexByte):iX P O K f pM:=by
 intro args S v S' h M J w vals hv hw hg
 unfold pM at h
 split at h
 case h_2=>simp at h
 rename_i s c
 simp only[Option.some.injEq,Prod.mk.injEq]at h
 obtain⟨rfl,rfl⟩:=h
 obtain⟨x,vals,rfl,hx,hv⟩:=hv.cons_inv
 obtain⟨y,vals,rfl,hy,hv⟩:=hv.cons_inv
 obtain rfl:=hv.nil_inv
 rw[hx.str_inv,hy.int_inv]
 refine .inr ⟨_,w,M,J,?_,.iv _ (.int _ _),hw,.refl _ _ _ _ _⟩
 rw[run_callFunc_extern hf hname hb hn he,Lib.run_indexByteString]
 rfl
def eW (Cs:List (Nat×Nat)):vU:=fun xs S=>match xs with
 | [.ptr i ver 0]=>match S[i]? with
  | some (.cells v false (a::r)) =>
   if v=ver∧Cs.any (fun c=>v==c.1+1&&r.length+1==c.2)=true then match a with
    | .iv .nilp=>some (.tup [],S.set i (.cells v false (.ptr i ver 0::r)))
    | .ptr j v2 0=>if j=i∧v2=ver then some (.tup [],S) else none
    | _=>none
   else none
  | _=>none
 | _=>none
theorem uI {f : Nat} {Cs : List (Nat × Nat)} {fn : Func} (hf : P.funcs[f]? = some fn) (hb : fn.body.isSome = true) (hng : fn.name ≠ "runtime.NumGoroutine")
  (hfresh:∀c∈Cs,∀(b:Nat) (w:World),w.cell? ⟨b,0,none⟩=some (.pointer none)→w.shape? b=some c→w.frozen? ⟨b,0,none⟩=false →
   Calls P f #[.pointer (some ⟨b,0,none⟩)] w fun e w'=>e=.returned (.tuple #[])∧w'=w.setCell ⟨b,0,none⟩ (.pointer (some ⟨b,0,none⟩)))
  (hused:∀(b:Nat) (w:World),w.cell? ⟨b,0,none⟩=some (.pointer (some ⟨b,0,none⟩))→Calls P f #[.pointer (some ⟨b,0,none⟩)] w fun e w'=>e=.returned (.tuple #[])∧w'=w) :
  iX P O K f (eW Cs):=by
 intro args S v S' h M J w vals hv hw hg
 unfold eW at h
 split at h
 case h_2=>simp at h
 rename_i xs i ver
 split at h
 case h_2=>simp at h
 rename_i v0 a0 r hS
 split at h
 case isFalse=>simp at h
 rename_i hc
 obtain⟨rfl,hany⟩:=hc
 obtain⟨⟨T,sz⟩,hmem,hcc⟩:=List.any_eq_true.1 hany
 simp only[Bool.and_eq_true,beq_iff_eq]at hcc
 obtain⟨rfl,hr⟩:=hcc
 obtain⟨x,vals,rfl,hx,hv⟩:=hv.cons_inv
 obtain rfl:=hv.nil_inv
 cases hx with
 | ptr _ _ _ _ l b o hl hlv ha =>
  have hbr:=hw.blk i l _ hl hS
  generalize hs0:aW.cells (T+1) false (a0::r)=s0 at hbr
  cases hbr with
  | cells loose cs cs' e fz hlo hbk hsz hfit hvals hfz hm ht =>
   simp only[aW.cells.injEq]at hs0
   obtain⟨hver,rfl,rfl⟩:=hs0
   obtain⟨rfl,rfl⟩:=ha hver
   obtain⟨h1,h2,h3⟩:=ht hlo (by rw[←hver]; exact Nat.succ_ne_zero _)
   obtain rfl:T=e:=Nat.succ.inj (hver.trans h1)
   simp only[List.length_cons]at h3
   rw[h2]at hvals hfit ⊢
   obtain⟨u0,q0,r0⟩:=hvals 0 a0 rfl
   have hcell:w.cell? ⟨l.cb,0,none⟩=some u0:=by rw[cK hbk]; exact q0
   refine .inl ⟨fn,hf,hb,hng,fun F hF n=>mK hF ?_⟩
   split at h
   · -- fresh
    simp only[Option.some.injEq,Prod.mk.injEq]at h
    obtain⟨rfl,rfl⟩:=h
    obtain rfl:u0=.pointer none:=by cases r0.iv_inv; rfl
    refine (hfresh (T,sz) hmem l.cb w hcell (by simp[World.shape?,hbk,h3,hr]) (hfz 0 (by omega))).mono ?_
    rintro e w' ⟨rfl,rfl⟩
    have hnew:(w.setCell ⟨l.cb,0,none⟩ (.pointer (some ⟨l.cb,0,none⟩))).heap[l.cb]? = some (.cells (cs'.setIfInBounds 0 (.pointer (some ⟨l.cb,0,none⟩))) T fz):=by
     simp only[World.setCell]
     rw[Array.getElem?_modify,if_pos rfl,hbk]
     rfl
    have hot:∀b,b≠l.cb→(w.setCell ⟨l.cb,0,none⟩ (.pointer (some ⟨l.cb,0,none⟩))).heap[b]? = w.heap[b]? := by
     intro b hb
     simp only[World.setCell]
     rw[Array.getElem?_modify,if_neg (fun q=>hb q.symm)]
    obtain⟨wr,tr⟩:=hw.write (fun _=>False) hl (w':=w.setCell ⟨l.cb,0,none⟩ (.pointer (some ⟨l.cb,0,none⟩))) (s':=.cells l.ver false (.ptr i (T+1) 0::r)) (by
     refine .cells false _ _ T fz hlo hnew (by simpa using hsz) (by simp only[List.length_cons,Array.size_setIfInBounds,h2]; omega) ?_ (fun o ho=>?_) hm (fun _ _=>⟨h1,h2,by simpa using h3⟩)
     ·intro k x hx
      rw[h2,Nat.zero_add]
      cases k with
      | zero =>
       simp only[List.getElem?_cons_zero,Option.some.injEq]at hx
       subst hx
       exact⟨.pointer (some ⟨l.cb,0,none⟩),by rw[Array.getElem?_setIfInBounds]; simp[h3],.ptr _ _ _ _ l _ _ hl hlv (fun _=>⟨rfl,by rw[h2]⟩)⟩
      | succ k =>
       obtain⟨u1,q1,r1⟩:=hvals (k+1) x (by simpa using hx)
       refine⟨u1,?_,r1⟩
       rw[Array.getElem?_setIfInBounds,if_neg (by omega)]
       rw[Nat.zero_add]at q1
       exact q1
     ·have:=hfz o (by simpa using ho)
      unfold World.frozen? at this ⊢
      rw[hbk]at this
      rw[hnew]
      exact this) (by simp[World.setCell]) hot ⟨rfl,rfl,rfl⟩ (fun o v hm'=>by rw[hm]at hm'; simp at hm')
    rw[←hver]at wr tr
    exact⟨_,_,M,J,rfl,.tup _ _ _ rfl (fun i x v hx=>by simp at hx),wr,tr⟩
   · -- used
    split at h
    case isFalse=>simp at h
    rename_i hc
    obtain⟨rfl,rfl⟩:=hc
    simp only[Option.some.injEq,Prod.mk.injEq]at h
    obtain⟨rfl,rfl⟩:=h
    cases r0 with
    | ptr _ _ _ _ l2 b2 o2 hl2 hlv2 ha2 =>
     obtain rfl:l2=l:=by unfold aB.at at hl hl2; rw[hl]at hl2; simpa using hl2.symm
     obtain⟨rfl,rfl⟩:=ha2 hver
     rw[h2]at hcell
     refine (hused l2.cb w hcell).mono ?_
     rintro e w' ⟨rfl,rfl⟩
     exact⟨_,_,M,J,rfl,.tup _ _ _ rfl (fun i x v hx=>by simp at hx),hw,.refl _ _ _ _ _⟩
   ·simp at h
  | _=>simp at hs0
set_option maxHeartbeats 2000000 in
set_option maxRecDepth 100000 in
theorem bBj {ρ:Ren}(L:Lays.n169 P ρ)(X:Builder.Extra P ρ)(b g cap:Nat)(l:List UInt8)(w:World)(h0:l≠[])(cells:Nat)(hsh:w.shape? g=some (ρ.t 5,cells))(hcc:l.length≤cells)(hcap:cap≠0)
  (h63:l.length≤9223372036854775807) (hrow:∀j x,l[j]? = some x→w.cell? ⟨g,j,none⟩=some (.int .u8 x.toNat)) (c0:w.cell? ⟨b,1,none⟩=some (.slice (some ⟨g,0,none⟩) l.length cap)) :
  Calls P (ρ.f 169) #[.pointer (some ⟨b,0,none⟩)] w fun e w'=>e=.returned (.string ⟨l.toArray⟩)∧w'=w.drew.freeze ⟨g,0,none⟩ l.length:=by
 have hl0:l.length≠0:=by simpa using h0
 have c1:w.drew.cell? ⟨b,1,none⟩=some (.slice (some ⟨g,0,none⟩) l.length cap):=c0
 have hSD:(Builtin.unsafeSliceData_ #[(ρ.t 37)] (ρ.t 127) #[.slice (some ⟨g,0,none⟩) l.length cap]).run P w.drew=.ok (.pointer (some ⟨g,0,none⟩)) w.drew :=
  Lib.run_unsafeSliceData_row _ _ _ _ _ _ hcap
 have hUS:(Builtin.unsafeString_ #[(ρ.t 127),(ρ.t 3)] (ρ.t 9) #[.pointer (some ⟨g,0,none⟩),.int .i64 l.length]).run P w.drew=.ok (.string ⟨l.toArray⟩) (w.drew.freeze ⟨g,0,none⟩ l.length):=by
  refine Lib.run_unsafeString_row w.drew (ρ.t 127) (ρ.t 3) (ρ.t 9) (ρ.t 5) L.t127 X.cellsByte g cells hsh l h0 hcc h63 ?_
  intro j x hx
  have e:(⟨g,0,none⟩:Addr).add j=⟨g,j,none⟩:=by unfold Addr.add; by_cases hj:j=0<;>simp[hj]
  rw[e]
  exact hrow j x hx
 clear hsh hcc hcap h63 hrow
 have mixed:=L.mixed
 have t72:=L.t72; have a72:=L.a72; have z72:=L.z72; have v72:=L.v72; have u72:=run_underlying L.t72
 have t70:=L.t70; have a70:=L.a70; have z70:=L.z70; have v70:=L.v70; have u70:=run_underlying L.t70
 have t37:=L.t37; have a37:=L.a37; have z37:=L.z37; have v37:=L.v37; have u37:=run_underlying L.t37
 have t127:=L.t127; have a127:=L.a127; have z127:=L.z127; have v127:=L.v127; have u127:=run_underlying L.t127
 have t3:=L.t3; have a3:=L.a3; have z3:=L.z3; have v3:=L.v3; have u3:=run_underlying L.t3
 have t9:=L.t9; have a9:=L.a9; have z9:=L.z9; have v9:=L.v9; have u9:=run_underlying L.t9
 have t5:=X.t5; have a5:=X.a5; have z5:=X.z5; have v5:=X.v5; have u5:=run_underlying X.t5
 go_enter L.f169,Body.n169_ntmps ρ
 go_wp2
 go_region_o
 all_goals (go_wp2; go_ret; exact⟨rfl,rfl⟩)
set_option maxHeartbeats 2000000 in
set_option maxRecDepth 100000 in
theorem bBk {ρ:Ren}(L:Lays.n169 P ρ)(X:Builder.Extra P ρ)(b:Nat)(w:World)(c0:w.cell? ⟨b,1,none⟩=some (.slice none 0 0)) :
  Calls P (ρ.f 169) #[.pointer (some ⟨b,0,none⟩)] w fun e w'=>e=.returned (.string ⟨#[]⟩)∧w'=w.drew:=by
 have hUS:=Any.unsafeString_none L X
 have c1:w.drew.cell? ⟨b,1,none⟩=some (.slice none 0 0):=c0
 have hSD:(Builtin.unsafeSliceData_ #[(ρ.t 37)] (ρ.t 127) #[.slice none 0 0]).run P w.drew=.ok (.pointer none) w.drew:=rfl
 have mixed:=L.mixed
 have t72:=L.t72; have a72:=L.a72; have z72:=L.z72; have v72:=L.v72; have u72:=run_underlying L.t72
 have t70:=L.t70; have a70:=L.a70; have z70:=L.z70; have v70:=L.v70; have u70:=run_underlying L.t70
 have t37:=L.t37; have a37:=L.a37; have z37:=L.z37; have v37:=L.v37; have u37:=run_underlying L.t37
 have t127:=L.t127; have a127:=L.a127; have z127:=L.z127; have v127:=L.v127; have u127:=run_underlying L.t127
 have t3:=L.t3; have a3:=L.a3; have z3:=L.z3; have v3:=L.v3; have u3:=run_underlying L.t3
 have t9:=L.t9; have a9:=L.a9; have z9:=L.z9; have v9:=L.v9; have u9:=run_underlying L.t9
 have t5:=X.t5; have a5:=X.a5; have z5:=X.z5; have v5:=X.v5; have u5:=run_underlying X.t5
 go_enter L.f169,Body.n169_ntmps ρ
 go_wp2
 go_region_o
 all_goals (go_wp2; go_ret; exact⟨rfl,rfl⟩)
def gY (U:Nat):vU:=fun xs S=>match xs with
 | [.ptr i ver 0]=>match S[i]? with
  | some (.cells v false (_::x::_)) =>
   if ver≠0∧v=ver then match x with
    | .iv (.sl .nil [])=>some (.iv (.str []),S)
    | .tsl k es=>match S[k]?,gT es with
     | some (.tok n e u),some s =>
      if n=es.length∧e=1∧u=U∧n≠0∧n<4611686018427387904∧fY (aF s) es=true then some (.iv (.str s),S) else none
     | _,_=>none
    | _=>none
   else none
  | _=>none
 | _=>none
theorem aAx {ρ : Ren} (L : Lays.n169 P ρ) (X : Builder.Extra P ρ) {fn : Func} (hf : P.funcs[ρ.f 169]? = some fn) (hb : fn.body.isSome = true) (hng : fn.name ≠ "runtime.NumGoroutine") :
  iX P O K (ρ.f 169) (gY (ρ.t 5)):=by
 intro args S v S' h M J w vals hv hw hg
 unfold gY at h
 split at h
 case h_2=>simp at h
 rename_i xs i ver
 split at h
 case h_2=>simp at h
 rename_i v0 a0 b0 r hS
 split at h
 case isFalse=>simp at h
 rename_i hc
 obtain⟨hv0,rfl⟩:=hc
 obtain⟨x,vals,rfl,hx,hv⟩:=hv.cons_inv
 obtain rfl:=hv.nil_inv
 cases hx with
 | ptr _ _ _ _ l b o hl hlv ha =>
  have hbr:=hw.blk i l _ hl hS
  generalize hs0:aW.cells v0 false (a0::b0::r)=s0 at hbr
  cases hbr with
  | cells loose cs cs' e fz hlo hbk hsz hfit hvals hfz hm ht =>
   simp only[aW.cells.injEq]at hs0
   obtain⟨hver,rfl,rfl⟩:=hs0
   obtain⟨rfl,rfl⟩:=ha hver
   obtain⟨h1,h2,h3⟩:=ht hlo (by rw[←hver]; exact hv0)
   rw[h2]at hvals hfit ⊢
   obtain⟨u1,q1,r1⟩:=hvals 1 b0 rfl
   have hcell:w.cell? ⟨l.cb,1,none⟩=some u1:=by rw[cK hbk]; exact q1
   refine .inl ⟨fn,hf,hb,hng,fun F hF n=>mK hF ?_⟩
   split at h
   · -- nothing was written
    simp only[Option.some.injEq,Prod.mk.injEq]at h
    obtain⟨rfl,rfl⟩:=h
    obtain rfl:u1=.slice none 0 0:=by
     rcases r1.iv_inv.sl_any with⟨_,_,rfl⟩|⟨b,off,cap,es',vals,_,htn,_⟩|⟨a0,_,_,htn⟩
     ·rfl
     ·exact absurd rfl htn
     ·exact absurd rfl htn
    refine (bBk L X l.cb w hcell).mono ?_
    rintro e w' ⟨rfl,rfl⟩
    have ms:MS P O K M J [] S [] w:=⟨hw,⟨rfl,fun j cs h=>by simp at h,fun j k cs cs' cb h=>by simp at h⟩,hg⟩
    obtain⟨hd,td⟩:=ms.drew
    exact⟨_,_,M,J,rfl,.iv _ (.str _),hd.wr,td⟩
   · -- a row that grows
    rename_i k es
    split at h
    case h_2=>simp at h
    rename_i n0 e0 u s hSk hs
    split at h
    case isFalse=>simp at h
    rename_i hc
    obtain⟨rfl,rfl,rfl,hn0,hn62,hsame⟩:=hc
    simp only[Option.some.injEq,Prod.mk.injEq]at h
    obtain⟨rfl,rfl⟩:=h
    have hes:=lH hsame
    have hlen:es.length=s.length:=by rw[←hes]; simp[aF]
    cases r1 with
    | tsl _ _ _ l2 b2 o2 c2 hl2 hlo2 hv2 ha2 hr2 =>
     have hbr2:=hw.blk k l2 _ hl2 hSk
     generalize hs1:aW.tok es.length 1 (ρ.t 5)=s1 at hbr2
     cases hbr2 with
     | tok n' cs2 e2 fz2 hlo2' hn2 hb2 hsz2 hc2 hes2 hfit2 hsp2 hfz2 ht2 =>
      simp only[aW.tok.injEq]at hs1
      obtain⟨rfl,he1,hty⟩:=hs1
      obtain⟨ht1,hd0,hfz3⟩:=ht2
      obtain⟨rfl,rfl,rfl,hes3⟩:=ha2 hn2.symm
      have hfit3:l2.cap≤cs2.size:=by rw[hd0,←he1]at hfit2; omega
      rw[hd0]at hcell hr2
      have hrow:∀j x,s[j]? = some x→w.cell? ⟨l2.cb,j,none⟩=some (.int .u8 x.toNat):=by
       intro j x hx
       have hj:es[j]? = some [.int .u8 x.toNat]:=by rw[←hes]; simp[aF,hx]
       rcases hr2.sl_any with⟨h0,_⟩|⟨b',o',c',es',vals,h0,_,hes',_,_,hmm,hvv⟩|⟨a0,h0,h9,_⟩
       ·simp at h0
       ·simp only[Value.slice.injEq,Option.some.injEq,Addr.mk.injEq]at h0
        obtain⟨⟨rfl,rfl,_⟩,_,_⟩:=h0
        have e1:es'=1:=by have:=hes' _ (List.mem_of_getElem? hj); simpa using this.symm
        subst e1
        have:=hmm j _ 0 (.int .u8 x.toNat) hj rfl
        have hvj:=hvv j _ 0 (.int .u8 x.toNat) hj rfl
        have hvj':vals j 0=.int .u8 x.toNat:=by generalize vals j 0=v0 at hvj; cases hvj; rfl
        rw[hvj']at this
        have:=hw.imm _ _ _ this
        simpa using this
       ·rw[h9]at hn0; simp at hn0
      rw[hlen]at hcell
      refine (bBj L X l.cb l2.cb l2.cap s w (by intro q; exact hn0 (by rw[hlen,q]; rfl)) cs2.size (by simp[World.shape?,hb2,←ht1,hty]) (by omega) (by omega) (by omega) hrow hcell).mono ?_
      rintro e w' ⟨rfl,rfl⟩
      have hs0:s.length≠0:=by omega
      have hfb:(w.drew.freeze ⟨l2.cb,0,none⟩ s.length).heap=w.heap.modify l2.cb fun
       | .cells c elem (lo,hi)=>.cells c elem (if lo==hi then (0,0+s.length) else (min lo 0,max hi (0+s.length)))
       | o=>o:=by
       unfold World.freeze
       rw[if_neg hs0]
       rfl
      have hnew:(w.drew.freeze ⟨l2.cb,0,none⟩ s.length).heap[l2.cb]? = some (.cells cs2 e2 (if fz2.1==fz2.2 then (0,0+s.length) else (min fz2.1 0,max fz2.2 (0+s.length)))):=by
       rw[hfb,Array.getElem?_modify,if_pos rfl,hb2]
       rfl
      have hot:∀b,b≠l2.cb→(w.drew.freeze ⟨l2.cb,0,none⟩ s.length).heap[b]? = w.heap[b]? := by
       intro b hb
       rw[hfb,Array.getElem?_modify,if_neg (fun q=>hb q.symm)]
      have hrest:(w.drew.freeze ⟨l2.cb,0,none⟩ s.length).os=w.os∧(w.drew.freeze ⟨l2.cb,0,none⟩ s.length).tape=w.tape∧(w.drew.freeze ⟨l2.cb,0,none⟩ s.length).output=w.output:=by
       unfold World.freeze
       rw[if_neg hs0]
       exact⟨rfl,rfl,rfl⟩
      have hhi:∀fz:Nat×Nat,fz=(if fz2.1==fz2.2 then (0,0+s.length) else (min fz2.1 0,max fz2.2 (0+s.length)))→fz.2≤es.length*l2.es:=by
       rintro fz rfl
       rw[←he1]at hfz3 ⊢
       split
       ·simp; omega
       ·simp; omega
      obtain⟨wr,tr⟩:=hw.write (fun _=>False) hl2 (w':=w.drew.freeze ⟨l2.cb,0,none⟩ s.length) (s':=.tok es.length l2.es l2.ty) (by
       refine .tok es.length cs2 e2 _ hlo2' hn2 hnew hsz2 hc2 hes2 hfit2 hsp2 (fun o h1 h2=>?_) ⟨ht1,hd0,hhi _ rfl⟩
       have h5:=hhi _ rfl
       unfold World.frozen?
       rw[hnew]
       simp only[Bool.and_eq_false_iff,decide_eq_false_iff_not]
       right
       omega) (by rw[hfb]; simp) hot hrest (fun o v hm'=>by
       have:=hw.imm _ _ _ hm'
       rw[cK hb2]at this
       rw[cK hnew]
       exact this)
      rw[←he1,←hty,xL hSk]at wr tr
      exact⟨_,_,M,J,rfl,.iv _ (.str _),wr,tr⟩
     | _=>simp at hs1
   ·simp at h
  | _=>simp at hs0
def tE (U:Nat):vU:=fun xs S=>match xs with
 | [.iv (.int .i64 n)]=>if 0<n∧n≤1099511627776 then some (.rsv S.length [] n.toNat,S++[.tok 0 1 U]) else none
 | _=>none
theorem aHw {f U tr : Nat} {fn : Func} (hf : P.funcs[f]? = some fn) (hname : (fn.name == "runtime.NumGoroutine") = false) (hb : fn.body.isNone = true) (hn : Extern.findNext fn = none)
  (he:Extern.find fn=some (Extern.BytealgMakeNoZero.makeNoZero fn.params #[tr])) (ht:P.underlying tr=some (.slice U)):iX P O K f (tE U):=by
 intro args S v S' h M J w vals hv hw hg
 unfold tE at h
 split at h
 case h_2=>simp at h
 rename_i n
 split at h
 case isFalse=>simp at h
 rename_i hn0
 simp only[Option.some.injEq,Prod.mk.injEq]at h
 obtain⟨rfl,rfl⟩:=h
 obtain⟨x,vals,rfl,hx,hv⟩:=hv.cons_inv
 obtain rfl:=hv.nil_inv
 rw[hx.int_inv]
 have hnn:(n.toNat:Int)=n:=by omega
 obtain⟨cs,hrun,hle,_⟩:=Lib.run_makeNoZero (P:=P) w fn.params tr U ht n.toNat (by omega)
 rw[hnn]at hrun
 have ms:MS P O K M J [] S [] w:=⟨hw,⟨rfl,fun j cs h=>by simp at h,fun j k cs cs' cb h=>by simp at h⟩,hg⟩
 obtain⟨ms1,td1⟩:=ms.drew
 obtain⟨ms2,td2⟩:=ms1.drew
 obtain⟨M',J',p1,p2,p3⟩:=yE ms2 (l:=[]) (es:=1) (cap:=cs.size) (cs:=cs) U (by omega) (by simp) (by simp) (by simp) (by intro k a hk; simp[bM]at hk)
 refine .inr ⟨.slice (some ⟨w.heap.size,0,none⟩) n.toNat cs.size,w.drew.drew.alloc (.cells cs U),M',J',?_,?_,p1.wr,(td1.trans td2 (fun _ hf=>.inl hf)).trans (p2.weaken (own':=fun _=>False) (fun b hb=>?_)) (fun _ hf=>.inl hf)⟩
 ·rw[run_callFunc_extern hf hname hb hn he,hrun]
  rfl
 ·cases p3 with
  | tsl L i es loc b o c hJ hlo hv ha hrr =>
   have key:VR M' J' [] (.rsv S.length [] n.toNat) (.slice (some ⟨w.heap.size,0,none⟩) (([]:List (List IV)).length+n.toNat) cs.size) :=
    .rsv _ _ _ _ loc _ _ _ hJ hlo hv ha (by show 0+n.toNat≤cs.size; rw[Nat.zero_add]; exact hle) hrr
   rw[show ([]:List (List IV)).length+n.toNat=n.toNat from Nat.zero_add _]at key
   exact key
 ·simp[bX]at hb
def aAd:List (Nat×vU)→Nat→Option vU
 | [],_=>none
 | (k,p)::r,f=>if k==f then some p else aAd r f
theorem aQh {l:List (Nat×vU)}(h:∀x∈l,iX P O K x.1 x.2){f:Nat}{p:vU}(hf:aAd l f=some p):iX P O K f p:=by
 induction l with
 | nil=>simp[aAd]at hf
 | cons x r ih =>
  obtain⟨k,q⟩:=x
  unfold aAd at hf
  split at hf
  ·rename_i hk
   simp only[beq_iff_eq]at hk
   simp only[Option.some.injEq]at hf
   subst hk hf
   exact h (k,q) (by simp)
  ·exact ih (fun x hx=>h x (by simp[hx])) hf
end Go.TM
namespace Go.TM
def lkV (kk:KK)(z:IV)(ok:Bool)(S:aA)(m k:TV):Option TV :=
 match mC k with
 | some k =>
  if !(iO kk k) then none else
  match nV kk S m k with
  | some (some (_,x))=>some (if ok then .tup [x,.iv (.bool true)] else x)
  | some none=>some (if ok then .tup [.iv z,.iv (.bool false)] else .iv z)
  | none=>none
 | none=>none
theorem aAy (kk:KK)(z:IV)(ok:Bool)(m y:aC)(e:aC→TV)(env:Env)(S:aA):aK (.lookup kk z ok m y) e env S=lkV kk z ok S (e m) (e y):=id rfl
def upV (kk:KK)(env:Env)(S:aA)(m k x:TV):Option (TV×Env×aA) :=
 match mC k,m with
 | some k,.map j=>if !(iO kk k) then none else match S[j]? with
  | some (.mp es clock)=>if dK x then none else match findKey kk k es 0 with
   | some (some (n,_))=>if !(((es[n]?).map fun y=>hO y.2.1 k).getD false) then none else some (undef,env,S.set j (.mp (es.modify n fun y=>(y.1,k,x)) clock))
   | some none=>some (undef,env,S.set j (.mp (es++[(clock,k,x)]) (clock+1)))
   | none=>none
  | _=>none
 | _,_=>none
theorem aHx (kk:KK)(m y x:aC)(e:aC→TV)(rs:List TV)(env:Env)(S:aA):fB (.update kk m y x) e rs env S=upV kk env S (e m) (e y) (e x):=id rfl
attribute [go_sem] aAy aHx
section
variable {α:Type}
structure bHl (l:List (Nat×Int×α)) (c:Nat):Prop where
 born:∀x∈l,x.1<c
 once:(l.map (·.1)).Nodup
 keys:(l.map (·.2.1)).Nodup
 rng:∀x∈l,-9223372036854775808≤x.2.1∧x.2.1≤9223372036854775807
end
def lkB (kk:KK)(z:IV)(ok:Bool)(b:Option aW)(k:TV):Option TV :=
 match mC k with
 | some k =>
  if !(iO kk k) then none else
  match (match b with|some (.mp es _)=>findKey kk k es 0|_=>none) with
  | some (some (_,x))=>some (if ok then .tup [x,.iv (.bool true)] else x)
  | some none=>some (if ok then .tup [.iv z,.iv (.bool false)] else .iv z)
  | none=>none
 | none=>none
theorem bBl (kk:KK)(z:IV)(ok:Bool)(S:aA)(j:Nat)(k:TV):lkV kk z ok S (.map j) k=lkB kk z ok (S[j]?) k:=by
 simp only[lkV,lkB,nV]
 cases mC k with
 | none=>rfl
 | some k =>
  simp only
  cases S[j]? with
  | none=>rfl
  | some b=>cases b<;>rfl
def upB (kk:KK)(env:Env)(S:aA)(j:Nat)(b:Option aW)(k x:TV):Option (TV×Env×aA) :=
 match mC k with
 | some k=>if !(iO kk k) then none else match b with
  | some (.mp es clock)=>if dK x then none else match findKey kk k es 0 with
   | some (some (n,_))=>if !(((es[n]?).map fun y=>hO y.2.1 k).getD false) then none else some (undef,env,S.set j (.mp (es.modify n fun y=>(y.1,k,x)) clock))
   | some none=>some (undef,env,S.set j (.mp (es++[(clock,k,x)]) (clock+1)))
   | none=>none
  | _=>none
 | _=>none
theorem bBm (kk:KK)(env:Env)(S:aA)(j:Nat)(k x:TV):upV kk env S (.map j) k x=upB kk env S j (S[j]?) k x:=by
 simp only[upV,upB]
 cases mC k<;>rfl
attribute [go_sem] bBl bBm
structure gQ (I:List Nat) (S S':aA):Prop where
 len:S.length≤S'.length
 get:∀i b,i∉I→S[i]? = some b→S'[i]? = some b
theorem gQ.refl (I:List Nat)(S:aA):gQ I S S:=⟨Nat.le_refl _,fun _ _ _ h=>h⟩
theorem gQ.trans {I:List Nat}{S S' S'':aA}(h:gQ I S S')(g:gQ I S' S''):gQ I S S'' :=
 ⟨Nat.le_trans h.len g.len,fun i b hi hb=>g.get i b hi (h.get i b hi hb)⟩
theorem gQ.app (I:List Nat)(S:aA)(l:aA):gQ I S (S++l) :=
 ⟨by simp,fun i b _ hb=>by
  have:i<S.length:=by
   rcases Nat.lt_or_ge i S.length with h|h
   ·exact h
   ·rw[List.getElem?_eq_none h]at hb; cases hb
  rw[List.getElem?_append_left this]; exact hb⟩
theorem cA {S:aA}{i:Nat}{b:aW}(h:S[i]? = some b):i<S.length:=by
 rcases Nat.lt_or_ge i S.length with h'|h'
 ·exact h'
 ·rw[List.getElem?_eq_none h']at h; cases h
theorem iJ {S:aA}{i:Nat}{b:aW}(h:S[i]? = some b)(l:aA):(S++l)[i]? = some b:=(gQ.app [] S l).get i b (by simp) h
theorem cX {S:aA}{i:Nat}(h:i<S.length)(b:aW):(S.set i b)[i]? = some b:=by simp[h]
theorem bD {S:aA}{i j:Nat}(h:i≠j)(b:aW):(S.set i b)[j]? = S[j]? := List.getElem?_set_ne h
end Go.TM
namespace Go.TM
section
variable (K:bG)(O:Orc)(i:Nat)(k:Kt)(M:List (Nat×TV))(n:Nat)(fs:List Fr)(env:Env)(S:aA)
end
end Go.TM
namespace Go.TM
section
variable (K:bG)(O:Orc)(i:Nat)(k:Kt)(M:List (Nat×TV))(n:Nat)(fs:List Fr)(env:Env)(S:aA)
end
def left {α:Type}(l:List (Nat×Int×α))(seen:List Nat):Nat:=(l.filter fun x=>!seen.contains x.1).length
section
variable {K:bG}{O:Orc}{i:Nat}{k:Kt}{M:List (Nat×TV)}{n:Nat}{fs:List Fr}{env:Env}{S:aA}{cb:aL}
end
section
variable {K:bG}{O:Orc}{i:Nat}{k:Kt}{M:List (Nat×TV)}{n:Nat}{fs:List Fr}{env:Env}{S:aA}{cb:aL}{rs:List kN}
end
end Go.TM
set_option linter.unusedSectionVars false
namespace Go.TM
structure KE (κ:Type) [DecidableEq κ] (kk:KK) (en:κ→IV):Prop where
 eq:∀a b,aBc kk (en a) (en b)=some (decide (a=b))
 ok:∀a,iO kk (en a)=true
 same:∀a,hO (en a) (en a)=true
section
variable {κ:Type}[DecidableEq κ]{kk:KK}{en:κ→IV}{α:Type}
def mpK (en:κ→IV)(f:α→TV)(l:List (Nat×κ×α)):List (Nat×IV×TV):=l.map fun x=>(x.1,en x.2.1,f x.2.2)
def nH:List (Nat×κ×α)→κ→Option α
 | [],_=>none
 | x::r,k=>if x.2.1=k then some x.2.2 else nH r k
def mL:List (Nat×κ×α)→Nat→κ→α→List (Nat×κ×α)
 | [],c,k,a=>[(c,k,a)]
 | x::r,c,k,a=>if x.2.1=k then (x.1,k,a)::r else x::mL r c k a
def wF (l:List (Nat×κ×α))(k:κ):Bool:=(nH l k).isSome
def wG (l:List (Nat×κ×α))(c:Nat)(k:κ):Nat:=if wF l k then c else c+1
theorem oW (he:KE κ kk en)(f:α→TV)(k:κ):∀(l:List (Nat×κ×α)) (i:Nat),∃n,findKey kk (en k) (mpK en f l) i=some ((nH l k).map fun a=>(n,f a))
 | [],i=>⟨i,rfl⟩
 | x::r,i=>by
  by_cases hx:k=x.2.1
  ·refine⟨i,?_⟩
   subst hx
   simp[mpK,findKey,he.eq,nH]
  ·obtain⟨n,h1⟩:=oW he f k r (i+1)
   refine⟨n,?_⟩
   simp only[mpK]at h1
   simp only[mpK,List.map_cons,findKey,he.eq,decide_eq_false hx,nH,Ne.symm hx,↓reduceIte]
   exact h1
theorem aAz (he:KE κ kk en)(f:α→TV){k:κ}{l:List (Nat×κ×α)}(h:wF l k=false):findKey kk (en k) (mpK en f l) 0=some none:=by
 obtain⟨n,h1⟩:=oW he f k l 0
 have:nH l k=none:=by simpa[wF] using h
 rw[h1,this]; rfl
theorem aHy:∀ {l:List (Nat×κ×α)} {k:κ},wF l k=false→∀(c:Nat) (a:α),mL l c k a=l++[(c,k,a)]
 | [],k,_,c,a=>rfl
 | x::r,k,h,c,a=>by
  have hx:x.2.1≠k:=fun e=>by simp[wF,nH,e]at h
  have hr:wF r k=false:=by simpa[wF,nH,hx] using h
  simp only[mL,hx,↓reduceIte,aHy hr c a,List.cons_append]
theorem aHz (he:KE κ kk en)(f:α→TV)(a:α)(c:Nat)(k:κ):∀(l:List (Nat×κ×α)) (i:Nat),wF l k=true→∃n v,findKey kk (en k) (mpK en f l) i=some (some (n,v))∧i≤n∧((((mpK en f l)[n-i]?).map fun y=>hO y.2.1 (en k)).getD false)=true∧(mpK en f l).modify (n-i) (fun y=>(y.1,en k,f a))=mpK en f (mL l c k a)
 | [],i,h=>by simp[wF,nH]at h
 | x::r,i,h=>by
  by_cases hx:k=x.2.1
  ·refine⟨i,f x.2.2,?_,Nat.le_refl _,?_,?_⟩
   ·subst hx; simp[mpK,findKey,he.eq]
   ·subst hx; simp[mpK,he.same]
   ·subst hx; simp[mpK,mL]
  ·have hh:wF r k=true:=by simpa[wF,nH,Ne.symm hx] using h
   obtain⟨n,v,h1,h2,h3,h4⟩:=aHz he f a c k r (i+1) hh
   refine⟨n,v,?_,by omega,?_,?_⟩
   ·simp only[mpK]at h1
    simp only[mpK,List.map_cons,findKey,he.eq,decide_eq_false hx]
    exact h1
   ·rw[show n-i=(n-(i+1))+1 by omega]
    simp only[mpK,List.map_cons,List.getElem?_cons_succ]at h3 ⊢
    exact h3
   ·rw[show n-i=(n-(i+1))+1 by omega]
    simp only[mpK,List.map_cons,mL,Ne.symm hx,↓reduceIte,List.modify_succ_cons]at h4 ⊢
    rw[h4]
theorem aH0:∀(l:List (Nat×κ×α)) (c:Nat) (k:κ) (a:α) (m:κ),nH (mL l c k a) m=if k=m then some a else nH l m
 | [],c,k,a,m=>by simp[mL,nH]
 | x::r,c,k,a,m=>by
  simp only[mL]
  by_cases h:x.2.1=k
  ·simp only[h,↓reduceIte,nH]
   by_cases hk:k=m<;>simp[hk]
  ·simp only[h,↓reduceIte,nH,aH0 r c k a m]
   by_cases hm:x.2.1=m
   ·have:¬k=m:=fun e=>h (hm.trans e.symm)
    simp[hm,this]
   ·simp[hm]
structure bGz (l:List (Nat×κ×α)) (c:Nat):Prop where
 born:∀x∈l,x.1<c
 once:(l.map (·.1)).Nodup
 keys:(l.map (·.2.1)).Nodup
theorem bBn (he:KE κ kk en)(f:α→TV)(l:List (Nat×κ×α))(c:Nat)(z:IV)(ok:Bool)(k:κ) :
  lkB kk z ok (some (.mp (mpK en f l) c)) (.iv (en k))=some (match nH l k with|some a=>(if ok then .tup [f a,.iv (.bool true)] else f a)|none=>(if ok then .tup [.iv z,.iv (.bool false)] else .iv z)):=by
 obtain⟨n,h1⟩:=oW he f k l 0
 simp only[lkB,mC,nT,he.ok,Bool.not_true,Bool.false_eq_true,↓reduceIte,h1]
 cases nH l k<;>rfl
theorem bBo (he:KE κ kk en)(f:α→TV)(l:List (Nat×κ×α))(c:Nat)(env:Env)(S:aA)(j:Nat)(k:κ){x:TV}(a:α)(hx:x=f a)(hl:dK x=false) :
  upB kk env S j (some (.mp (mpK en f l) c)) (.iv (en k)) x=some (undef,env,S.set j (.mp (mpK en f (mL l c k a)) (wG l c k))):=by
 simp only[upB,mC,nT,he.ok,Bool.not_true,Bool.false_eq_true,↓reduceIte,hl]
 cases hh:wF l k with
 | false =>
  rw[aAz he f hh]
  simp only[aHy hh,wG,hh,Bool.false_eq_true,↓reduceIte,mpK,List.map_append,List.map_cons,List.map_nil,hx]
 | true =>
  obtain⟨n,v,h1,h2,h3,h4⟩:=aHz he f a c k l 0 hh
  rw[Nat.sub_zero]at h3 h4
  rw[h1]
  simp only[h3,Bool.not_true,Bool.false_eq_true,↓reduceIte,hx,h4,wG,hh]
end
def enS (l:List UInt8):IV:=.str l
theorem keS:KE (List UInt8) (.leaf .str) enS:=by
 refine⟨fun a b=>?_,fun a=>rfl,fun a=>?_⟩
 ·by_cases h:a=b
  ·subst h; simp[aBc,enS,lK]
  ·simp[aBc,enS,lK,h]
 ·simp[hO,enS,nU]
end Go.TM
