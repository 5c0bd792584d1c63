/- A part of the evaluator TM, and of the proof that what it computes the model does. Condition: none. -/
import Derived.Test.YtookmpaholmmfaaGreatDoorTmD
import Derived.Shelf.Strings.Builder1
import Derived.Lib.Bytealg
import Derived.Lib.MakeNoZero
import Derived.Lib.SlKeysI
import Derived.Maps.Keyed
import Derived.Maps.Own
import Derived.Laws.AppendOwn
import Derived.Test.YtookmpaholmmfaaGreatDoorTmE
set_option linter.unusedVariables false
set_option linter.unusedSimpArgs false
namespace Go.TM
open Go Go.Shelf Go.RowKit Go.Proofs
theorem kV {P:Program}{F:Fence}(hF:dA F){n f:Nat}{args:Array Value}{w:World}{R:Ending→World→Prop}(h:Calls P f args w R):CallsIn F n P f args w R:=by
 have e:F.plain=Fence.wide:=by
  obtain⟨h1,h2,h3⟩:=hF
  cases F
  simp only at h1 h2 h3
  subst h2 h3
  simp only[Fence.plain,Fence.wide,Fence.mk.injEq,and_true]
  funext x
  exact propext (iff_true_intro (h1 x))
 refine sR ?_
 rw[e]
 exact callsIn_wide.2 h
variable {P:Program}{O:dB}{K:TM.bO}
def lF (Cs:List (Nat×Nat)):yK:=fun xs S=>match xs with
 | [.ptr i ver 0]=>match S[i]? with
  | some (.cells v false (a::r)) =>
   if v=ver∧Cs.any (fun c=>v==c.1+1&&r.length+1==c.2)=true then match a with
    | .iv .nilp=>some (.tup [],S.set i (.cells v false (.ptr i ver 0::r)))
    | .ptr j v2 0=>if j=i∧v2=ver then some (.tup [],S) else none
    | _=>none
   else none
  | _=>none
 | _=>none
theorem wW {f : Nat} {Cs : List (Nat × Nat)} {fn : Func} (hf : P.funcs[f]? = some fn) (hb : fn.body.isSome = true) (hng : fn.name ≠ "runtime.NumGoroutine")
  (hfresh:∀c∈Cs,∀(b:Nat) (w:World),w.cell? ⟨b,0,none⟩=some (.pointer none)→w.shape? b=some c→w.frozen? ⟨b,0,none⟩=false →
   Calls P f #[.pointer (some ⟨b,0,none⟩)] w fun e w'=>e=.returned (.tuple #[])∧w'=w.setCell ⟨b,0,none⟩ (.pointer (some ⟨b,0,none⟩)))
  (hused:∀(b:Nat) (w:World),w.cell? ⟨b,0,none⟩=some (.pointer (some ⟨b,0,none⟩))→Calls P f #[.pointer (some ⟨b,0,none⟩)] w fun e w'=>e=.returned (.tuple #[])∧w'=w) :
  kR P O K f (lF Cs):=by
 intro args S v S' h M J w vals hv hw hg
 unfold lF at h
 split at h
 case h_2=>simp at h
 rename_i xs i ver
 split at h
 case h_2=>simp at h
 rename_i v0 a0 r hS
 split at h
 case isFalse=>simp at h
 rename_i hc
 obtain⟨rfl,hany⟩:=hc
 obtain⟨⟨T,sz⟩,hmem,hcc⟩:=List.any_eq_true.1 hany
 simp only[Bool.and_eq_true,beq_iff_eq]at hcc
 obtain⟨rfl,hr⟩:=hcc
 obtain⟨x,vals,rfl,hx,hv⟩:=hv.cons_inv
 obtain rfl:=hv.nil_inv
 cases hx with
 | ptr _ _ _ _ l b o hl hlv ha =>
  have hbr:=hw.blk i l _ hl hS
  generalize hs0:aY.cells (T+1) false (a0::r)=s0 at hbr
  cases hbr with
  | cells loose cs cs' e fz hlo hbk hsz hfit hvals hfz hm ht =>
   simp only[aY.cells.injEq]at hs0
   obtain⟨hver,rfl,rfl⟩:=hs0
   obtain⟨rfl,rfl⟩:=ha hver
   obtain⟨h1,h2,h3⟩:=ht hlo (by rw[←hver]; exact Nat.succ_ne_zero _)
   obtain rfl:T=e:=Nat.succ.inj (hver.trans h1)
   simp only[List.length_cons]at h3
   rw[h2]at hvals hfit ⊢
   obtain⟨u0,q0,r0⟩:=hvals 0 a0 rfl
   have hcell:w.cell? ⟨l.cb,0,none⟩=some u0:=by rw[cJ hbk]; exact q0
   refine .inl ⟨fn,hf,hb,hng,fun F hF n=>kV hF ?_⟩
   split at h
   · -- fresh
    simp only[Option.some.injEq,Prod.mk.injEq]at h
    obtain⟨rfl,rfl⟩:=h
    obtain rfl:u0=.pointer none:=by cases r0.iv_inv; rfl
    refine (hfresh (T,sz) hmem l.cb w hcell (by simp[World.shape?,hbk,h3,hr]) (hfz 0 (by omega))).mono ?_
    rintro e w' ⟨rfl,rfl⟩
    have hnew:(w.setCell ⟨l.cb,0,none⟩ (.pointer (some ⟨l.cb,0,none⟩))).heap[l.cb]? = some (.cells (cs'.setIfInBounds 0 (.pointer (some ⟨l.cb,0,none⟩))) T fz):=by
     simp only[World.setCell]
     rw[Array.getElem?_modify,if_pos rfl,hbk]
     rfl
    have hot:∀b,b≠l.cb→(w.setCell ⟨l.cb,0,none⟩ (.pointer (some ⟨l.cb,0,none⟩))).heap[b]? = w.heap[b]? := by
     intro b hb
     simp only[World.setCell]
     rw[Array.getElem?_modify,if_neg (fun q=>hb q.symm)]
    obtain⟨wr,tr⟩:=hw.write (fun _=>False) hl (w':=w.setCell ⟨l.cb,0,none⟩ (.pointer (some ⟨l.cb,0,none⟩))) (s':=.cells l.ver false (.ptr i (T+1) 0::r)) (by
     refine .cells false _ _ T fz hlo hnew (by simpa using hsz) (by simp only[List.length_cons,Array.size_setIfInBounds,h2]; omega) ?_ (fun o ho=>?_) hm (fun _ _=>⟨h1,h2,by simpa using h3⟩)
     ·intro k x hx
      rw[h2,Nat.zero_add]
      cases k with
      | zero =>
       simp only[List.getElem?_cons_zero,Option.some.injEq]at hx
       subst hx
       exact⟨.pointer (some ⟨l.cb,0,none⟩),by rw[Array.getElem?_setIfInBounds]; simp[h3],.ptr _ _ _ _ l _ _ hl hlv (fun _=>⟨rfl,by rw[h2]⟩)⟩
      | succ k =>
       obtain⟨u1,q1,r1⟩:=hvals (k+1) x (by simpa using hx)
       refine⟨u1,?_,r1⟩
       rw[Array.getElem?_setIfInBounds,if_neg (by omega)]
       rw[Nat.zero_add]at q1
       exact q1
     ·have:=hfz o (by simpa using ho)
      unfold World.frozen? at this ⊢
      rw[hbk]at this
      rw[hnew]
      exact this) (by simp[World.setCell]) hot ⟨rfl,rfl,rfl⟩ (fun o v hm'=>by rw[hm]at hm'; simp at hm')
    rw[←hver]at wr tr
    exact⟨_,_,M,J,rfl,.tup _ _ _ rfl (fun i x v hx=>by simp at hx),wr,tr⟩
   · -- used
    split at h
    case isFalse=>simp at h
    rename_i hc
    obtain⟨rfl,rfl⟩:=hc
    simp only[Option.some.injEq,Prod.mk.injEq]at h
    obtain⟨rfl,rfl⟩:=h
    cases r0 with
    | ptr _ _ _ _ l2 b2 o2 hl2 hlv2 ha2 =>
     obtain rfl:l2=l:=by unfold aE.at at hl hl2; rw[hl]at hl2; simpa using hl2.symm
     obtain⟨rfl,rfl⟩:=ha2 hver
     rw[h2]at hcell
     refine (hused l2.cb w hcell).mono ?_
     rintro e w' ⟨rfl,rfl⟩
     exact⟨_,_,M,J,rfl,.tup _ _ _ rfl (fun i x v hx=>by simp at hx),hw,.refl _ _ _ _ _⟩
   ·simp at h
  | _=>simp at hs0
set_option maxHeartbeats 2000000 in
set_option maxRecDepth 100000 in
theorem bF6 {ρ:Ren}(L:Lays.n169 P ρ)(X:Builder.Extra P ρ)(b g cap:Nat)(l:List UInt8)(w:World)(h0:l≠[])(cells:Nat)(hsh:w.shape? g=some (ρ.t 5,cells))(hcc:l.length≤cells)(hcap:cap≠0)
  (h63:l.length≤9223372036854775807) (hrow:∀j x,l[j]? = some x→w.cell? ⟨g,j,none⟩=some (.int .u8 x.toNat)) (c0:w.cell? ⟨b,1,none⟩=some (.slice (some ⟨g,0,none⟩) l.length cap)) :
  Calls P (ρ.f 169) #[.pointer (some ⟨b,0,none⟩)] w fun e w'=>e=.returned (.string ⟨l.toArray⟩)∧w'=w.drew.freeze ⟨g,0,none⟩ l.length:=by
 have hl0:l.length≠0:=by simpa using h0
 have c1:w.drew.cell? ⟨b,1,none⟩=some (.slice (some ⟨g,0,none⟩) l.length cap):=c0
 have hSD:(Builtin.unsafeSliceData_ #[(ρ.t 37)] (ρ.t 127) #[.slice (some ⟨g,0,none⟩) l.length cap]).run P w.drew=.ok (.pointer (some ⟨g,0,none⟩)) w.drew :=
  Lib.run_unsafeSliceData_row _ _ _ _ _ _ hcap
 have hUS:(Builtin.unsafeString_ #[(ρ.t 127),(ρ.t 3)] (ρ.t 9) #[.pointer (some ⟨g,0,none⟩),.int .i64 l.length]).run P w.drew=.ok (.string ⟨l.toArray⟩) (w.drew.freeze ⟨g,0,none⟩ l.length):=by
  refine Lib.run_unsafeString_row w.drew (ρ.t 127) (ρ.t 3) (ρ.t 9) (ρ.t 5) L.t127 X.cellsByte g cells hsh l h0 hcc h63 ?_
  intro j x hx
  have e:(⟨g,0,none⟩:Addr).add j=⟨g,j,none⟩:=by unfold Addr.add; by_cases hj:j=0<;>simp[hj]
  rw[e]
  exact hrow j x hx
 clear hsh hcc hcap h63 hrow
 have mixed:=L.mixed
 have t72:=L.t72; have a72:=L.a72; have z72:=L.z72; have v72:=L.v72; have u72:=run_underlying L.t72
 have t70:=L.t70; have a70:=L.a70; have z70:=L.z70; have v70:=L.v70; have u70:=run_underlying L.t70
 have t37:=L.t37; have a37:=L.a37; have z37:=L.z37; have v37:=L.v37; have u37:=run_underlying L.t37
 have t127:=L.t127; have a127:=L.a127; have z127:=L.z127; have v127:=L.v127; have u127:=run_underlying L.t127
 have t3:=L.t3; have a3:=L.a3; have z3:=L.z3; have v3:=L.v3; have u3:=run_underlying L.t3
 have t9:=L.t9; have a9:=L.a9; have z9:=L.z9; have v9:=L.v9; have u9:=run_underlying L.t9
 have t5:=X.t5; have a5:=X.a5; have z5:=X.z5; have v5:=X.v5; have u5:=run_underlying X.t5
 go_enter L.f169,Body.n169_ntmps ρ
 go_wp2
 go_region_o
 all_goals (go_wp2; go_ret; exact⟨rfl,rfl⟩)
set_option maxHeartbeats 2000000 in
set_option maxRecDepth 100000 in
theorem bF7 {ρ:Ren}(L:Lays.n169 P ρ)(X:Builder.Extra P ρ)(b:Nat)(w:World)(c0:w.cell? ⟨b,1,none⟩=some (.slice none 0 0)) :
  Calls P (ρ.f 169) #[.pointer (some ⟨b,0,none⟩)] w fun e w'=>e=.returned (.string ⟨#[]⟩)∧w'=w.drew:=by
 have hUS:=Any.unsafeString_none L X
 have c1:w.drew.cell? ⟨b,1,none⟩=some (.slice none 0 0):=c0
 have hSD:(Builtin.unsafeSliceData_ #[(ρ.t 37)] (ρ.t 127) #[.slice none 0 0]).run P w.drew=.ok (.pointer none) w.drew:=rfl
 have mixed:=L.mixed
 have t72:=L.t72; have a72:=L.a72; have z72:=L.z72; have v72:=L.v72; have u72:=run_underlying L.t72
 have t70:=L.t70; have a70:=L.a70; have z70:=L.z70; have v70:=L.v70; have u70:=run_underlying L.t70
 have t37:=L.t37; have a37:=L.a37; have z37:=L.z37; have v37:=L.v37; have u37:=run_underlying L.t37
 have t127:=L.t127; have a127:=L.a127; have z127:=L.z127; have v127:=L.v127; have u127:=run_underlying L.t127
 have t3:=L.t3; have a3:=L.a3; have z3:=L.z3; have v3:=L.v3; have u3:=run_underlying L.t3
 have t9:=L.t9; have a9:=L.a9; have z9:=L.z9; have v9:=L.v9; have u9:=run_underlying L.t9
 have t5:=X.t5; have a5:=X.a5; have z5:=X.z5; have v5:=X.v5; have u5:=run_underlying X.t5
 go_enter L.f169,Body.n169_ntmps ρ
 go_wp2
 go_region_o
 all_goals (go_wp2; go_ret; exact⟨rfl,rfl⟩)
def pG (U:Nat):yK:=fun xs S=>match xs with
 | [.ptr i ver 0]=>match S[i]? with
  | some (.cells v false (_::x::_)) =>
   if ver≠0∧v=ver then match x with
    | .iv (.sl .nil [])=>some (.iv (.str []),S)
    | .tsl k es=>match S[k]?,jE es with
     | some (.tok n e u),some s =>
      if n=es.length∧e=1∧u=U∧n≠0∧n<4611686018427387904∧iY (bF s) es=true then some (.iv (.str s),S) else none
     | _,_=>none
    | _=>none
   else none
  | _=>none
 | _=>none
theorem aC2 {ρ : Ren} (L : Lays.n169 P ρ) (X : Builder.Extra P ρ) {fn : Func} (hf : P.funcs[ρ.f 169]? = some fn) (hb : fn.body.isSome = true) (hng : fn.name ≠ "runtime.NumGoroutine") :
  kR P O K (ρ.f 169) (pG (ρ.t 5)):=by
 intro args S v S' h M J w vals hv hw hg
 unfold pG at h
 split at h
 case h_2=>simp at h
 rename_i xs i ver
 split at h
 case h_2=>simp at h
 rename_i v0 a0 b0 r hS
 split at h
 case isFalse=>simp at h
 rename_i hc
 obtain⟨hv0,rfl⟩:=hc
 obtain⟨x,vals,rfl,hx,hv⟩:=hv.cons_inv
 obtain rfl:=hv.nil_inv
 cases hx with
 | ptr _ _ _ _ l b o hl hlv ha =>
  have hbr:=hw.blk i l _ hl hS
  generalize hs0:aY.cells v0 false (a0::b0::r)=s0 at hbr
  cases hbr with
  | cells loose cs cs' e fz hlo hbk hsz hfit hvals hfz hm ht =>
   simp only[aY.cells.injEq]at hs0
   obtain⟨hver,rfl,rfl⟩:=hs0
   obtain⟨rfl,rfl⟩:=ha hver
   obtain⟨h1,h2,h3⟩:=ht hlo (by rw[←hver]; exact hv0)
   rw[h2]at hvals hfit ⊢
   obtain⟨u1,q1,r1⟩:=hvals 1 b0 rfl
   have hcell:w.cell? ⟨l.cb,1,none⟩=some u1:=by rw[cJ hbk]; exact q1
   refine .inl ⟨fn,hf,hb,hng,fun F hF n=>kV hF ?_⟩
   split at h
   · -- nothing was written
    simp only[Option.some.injEq,Prod.mk.injEq]at h
    obtain⟨rfl,rfl⟩:=h
    obtain rfl:u1=.slice none 0 0:=by
     rcases r1.iv_inv.sl_any with⟨_,_,rfl⟩|⟨b,off,cap,es',vals,_,htn,_⟩|⟨a0,_,_,htn⟩
     ·rfl
     ·exact absurd rfl htn
     ·exact absurd rfl htn
    refine (bF7 L X l.cb w hcell).mono ?_
    rintro e w' ⟨rfl,rfl⟩
    have ms:MS P O K M J [] S [] w:=⟨hw,⟨rfl,fun j cs h=>by simp at h,fun j k cs cs' cb h=>by simp at h⟩,hg⟩
    obtain⟨hd,td⟩:=ms.drew
    exact⟨_,_,M,J,rfl,.iv _ (.str _),hd.wr,td⟩
   · -- a row that grows
    rename_i k es
    split at h
    case h_2=>simp at h
    rename_i n0 e0 u s hSk hs
    split at h
    case isFalse=>simp at h
    rename_i hc
    obtain⟨rfl,rfl,rfl,hn0,hn62,hsame⟩:=hc
    simp only[Option.some.injEq,Prod.mk.injEq]at h
    obtain⟨rfl,rfl⟩:=h
    have hes:=nO hsame
    have hlen:es.length=s.length:=by rw[←hes]; simp[bF]
    cases r1 with
    | tsl _ _ _ l2 b2 o2 c2 hl2 hlo2 hv2 ha2 hr2 =>
     have hbr2:=hw.blk k l2 _ hl2 hSk
     generalize hs1:aY.tok es.length 1 (ρ.t 5)=s1 at hbr2
     cases hbr2 with
     | tok n' cs2 e2 fz2 hlo2' hn2 hb2 hsz2 hc2 hes2 hfit2 hsp2 hfz2 ht2 =>
      simp only[aY.tok.injEq]at hs1
      obtain⟨rfl,he1,hty⟩:=hs1
      obtain⟨ht1,hd0,hfz3⟩:=ht2
      obtain⟨rfl,rfl,rfl,hes3⟩:=ha2 hn2.symm
      have hfit3:l2.cap≤cs2.size:=by rw[hd0,←he1]at hfit2; omega
      rw[hd0]at hcell hr2
      have hrow:∀j x,s[j]? = some x→w.cell? ⟨l2.cb,j,none⟩=some (.int .u8 x.toNat):=by
       intro j x hx
       have hj:es[j]? = some [.int .u8 x.toNat]:=by rw[←hes]; simp[bF,hx]
       rcases hr2.sl_any with⟨h0,_⟩|⟨b',o',c',es',vals,h0,_,hes',_,_,hmm,hvv⟩|⟨a0,h0,h9,_⟩
       ·simp at h0
       ·simp only[Value.slice.injEq,Option.some.injEq,Addr.mk.injEq]at h0
        obtain⟨⟨rfl,rfl,_⟩,_,_⟩:=h0
        have e1:es'=1:=by have:=hes' _ (List.mem_of_getElem? hj); simpa using this.symm
        subst e1
        have:=hmm j _ 0 (.int .u8 x.toNat) hj rfl
        have hvj:=hvv j _ 0 (.int .u8 x.toNat) hj rfl
        have hvj':vals j 0=.int .u8 x.toNat:=by generalize vals j 0=v0 at hvj; cases hvj; rfl
        rw[hvj']at this
        have:=hw.imm _ _ _ this
        simpa using this
       ·rw[h9]at hn0; simp at hn0
      rw[hlen]at hcell
      refine (bF6 L X l.cb l2.cb l2.cap s w (by intro q; exact hn0 (by rw[hlen,q]; rfl)) cs2.size (by simp[World.shape?,hb2,←ht1,hty]) (by omega) (by omega) (by omega) hrow hcell).mono ?_
      rintro e w' ⟨rfl,rfl⟩
      have hs0:s.length≠0:=by omega
      have hfb:(w.drew.freeze ⟨l2.cb,0,none⟩ s.length).heap=w.heap.modify l2.cb fun
       | .cells c elem (lo,hi)=>.cells c elem (if lo==hi then (0,0+s.length) else (min lo 0,max hi (0+s.length)))
       | o=>o:=by
       unfold World.freeze
       rw[if_neg hs0]
       rfl
      have hnew:(w.drew.freeze ⟨l2.cb,0,none⟩ s.length).heap[l2.cb]? = some (.cells cs2 e2 (if fz2.1==fz2.2 then (0,0+s.length) else (min fz2.1 0,max fz2.2 (0+s.length)))):=by
       rw[hfb,Array.getElem?_modify,if_pos rfl,hb2]
       rfl
      have hot:∀b,b≠l2.cb→(w.drew.freeze ⟨l2.cb,0,none⟩ s.length).heap[b]? = w.heap[b]? := by
       intro b hb
       rw[hfb,Array.getElem?_modify,if_neg (fun q=>hb q.symm)]
      have hrest:(w.drew.freeze ⟨l2.cb,0,none⟩ s.length).os=w.os∧(w.drew.freeze ⟨l2.cb,0,none⟩ s.length).tape=w.tape∧(w.drew.freeze ⟨l2.cb,0,none⟩ s.length).output=w.output:=by
       unfold World.freeze
       rw[if_neg hs0]
       exact⟨rfl,rfl,rfl⟩
      have hhi:∀fz:Nat×Nat,fz=(if fz2.1==fz2.2 then (0,0+s.length) else (min fz2.1 0,max fz2.2 (0+s.length)))→fz.2≤es.length*l2.es:=by
       rintro fz rfl
       rw[←he1]at hfz3 ⊢
       split
       ·simp; omega
       ·simp; omega
      obtain⟨wr,tr⟩:=hw.write (fun _=>False) hl2 (w':=w.drew.freeze ⟨l2.cb,0,none⟩ s.length) (s':=.tok es.length l2.es l2.ty) (by
       refine .tok es.length cs2 e2 _ hlo2' hn2 hnew hsz2 hc2 hes2 hfit2 hsp2 (fun o h1 h2=>?_) ⟨ht1,hd0,hhi _ rfl⟩
       have h5:=hhi _ rfl
       unfold World.frozen?
       rw[hnew]
       simp only[Bool.and_eq_false_iff,decide_eq_false_iff_not]
       right
       omega) (by rw[hfb]; simp) hot hrest (fun o v hm'=>by
       have:=hw.imm _ _ _ hm'
       rw[cJ hb2]at this
       rw[cJ hnew]
       exact this)
      rw[←he1,←hty,aIc hSk]at wr tr
      exact⟨_,_,M,J,rfl,.iv _ (.str _),wr,tr⟩
     | _=>simp at hs1
   ·simp at h
  | _=>simp at hs0
def vP (U:Nat):yK:=fun xs S=>match xs with
 | [.iv (.int .i64 n)]=>if 0<n∧n≤1099511627776 then some (.rsv S.length [] n.toNat,S++[.tok 0 1 U]) else none
 | _=>none
theorem aKh {f U tr : Nat} {fn : Func} (hf : P.funcs[f]? = some fn) (hname : (fn.name == "runtime.NumGoroutine") = false) (hb : fn.body.isNone = true) (hn : Extern.findNext fn = none)
  (he:Extern.find fn=some (Extern.BytealgMakeNoZero.makeNoZero fn.params #[tr])) (ht:P.underlying tr=some (.slice U)):kR P O K f (vP U):=by
 intro args S v S' h M J w vals hv hw hg
 unfold vP at h
 split at h
 case h_2=>simp at h
 rename_i n
 split at h
 case isFalse=>simp at h
 rename_i hn0
 simp only[Option.some.injEq,Prod.mk.injEq]at h
 obtain⟨rfl,rfl⟩:=h
 obtain⟨x,vals,rfl,hx,hv⟩:=hv.cons_inv
 obtain rfl:=hv.nil_inv
 rw[hx.int_inv]
 have hnn:(n.toNat:Int)=n:=by omega
 obtain⟨cs,hrun,hle,_⟩:=Lib.run_makeNoZero (P:=P) w fn.params tr U ht n.toNat (by omega)
 rw[hnn]at hrun
 have ms:MS P O K M J [] S [] w:=⟨hw,⟨rfl,fun j cs h=>by simp at h,fun j k cs cs' cb h=>by simp at h⟩,hg⟩
 obtain⟨ms1,td1⟩:=ms.drew
 obtain⟨ms2,td2⟩:=ms1.drew
 obtain⟨M',J',p1,p2,p3⟩:=aAv ms2 (l:=[]) (es:=1) (cap:=cs.size) (cs:=cs) U (by omega) (by simp) (by simp) (by simp) (by intro k a hk; simp[bV]at hk)
 refine .inr ⟨.slice (some ⟨w.heap.size,0,none⟩) n.toNat cs.size,w.drew.drew.alloc (.cells cs U),M',J',?_,?_,p1.wr,(td1.trans td2 (fun _ hf=>.inl hf)).trans (p2.weaken (own':=fun _=>False) (fun b hb=>?_)) (fun _ hf=>.inl hf)⟩
 ·rw[run_callFunc_extern hf hname hb hn he,hrun]
  rfl
 ·cases p3 with
  | tsl L i es loc b o c hJ hlo hv ha hrr =>
   have key:VR M' J' [] (.rsv S.length [] n.toNat) (.slice (some ⟨w.heap.size,0,none⟩) (([]:List (List IV)).length+n.toNat) cs.size) :=
    .rsv _ _ _ _ loc _ _ _ hJ hlo hv ha (by show 0+n.toNat≤cs.size; rw[Nat.zero_add]; exact hle) hrr
   rw[show ([]:List (List IV)).length+n.toNat=n.toNat from Nat.zero_add _]at key
   exact key
 ·simp[cE]at hb
def aB9:List (Nat×yK)→Nat→Option yK
 | [],_=>none
 | (k,p)::r,f=>if k==f then some p else aB9 r f
theorem aVk {l:List (Nat×yK)}(h:∀x∈l,kR P O K x.1 x.2){f:Nat}{p:yK}(hf:aB9 l f=some p):kR P O K f p:=by
 induction l with
 | nil=>simp[aB9]at hf
 | cons x r ih =>
  obtain⟨k,q⟩:=x
  unfold aB9 at hf
  split at hf
  ·rename_i hk
   simp only[beq_iff_eq]at hk
   simp only[Option.some.injEq]at hf
   subst hk hf
   exact h (k,q) (by simp)
  ·exact ih (fun x hx=>h x (by simp[hx])) hf
end Go.TM
namespace Go.TM
open Go Go.Maps Go.RowKit Go.Proofs Go.ChangeShapes Go.WideShapes Go.MapKept
open Go.WideElems (Fit rg rd rg_of)
def aOa (x:Int):List Int→List Int
 | []=>[x]
 | y::r=>if x≤y then x::y::r else y::aOa x r
def fZ:List Int→List Int
 | []=>[]
 | x::r=>aOa x (fZ r)
theorem wX (x:Int):∀l:List Int,(aOa x l).Perm (x::l)
 | []=>.refl _
 | y::r=>by
  unfold aOa
  split
  ·exact .refl _
  ·exact ((wX x r).cons y).trans (.swap _ _ _)
theorem jL:∀l:List Int,(fZ l).Perm l
 | []=>.refl _
 | x::r=>(wX x (fZ r)).trans ((jL r).cons x)
theorem aEn (x:Int):∀l:List Int,l.Pairwise (·≤·)→(aOa x l).Pairwise (·≤·)
 | [],_=>by simp[aOa]
 | y::r,h=>by
  have h':=List.pairwise_cons.1 h
  unfold aOa
  split
  ·rename_i hxy
   refine List.pairwise_cons.2 ⟨fun a ha=>?_,h⟩
   rcases List.mem_cons.1 ha with rfl|ha
   ·exact hxy
   ·have:=h'.1 a ha; omega
  ·rename_i hxy
   refine List.pairwise_cons.2 ⟨fun a ha=>?_,aEn x r h'.2⟩
   rcases List.mem_cons.1 ((wX x r).mem_iff.1 ha) with rfl|ha
   ·omega
   ·exact h'.1 a ha
theorem tR:∀l:List Int,(fZ l).Pairwise (·≤·)
 | []=>.nil
 | x::r=>aEn x _ (tR r)
theorem aG7 {l m:List Int}(hp:m.Perm l)(hm:m.Pairwise (·≤·)):m=fZ l:=by
 refine List.Perm.eq_of_pairwise (le:=fun a b=>a≤b) (fun a b _ _ h1 h2=>Int.le_antisymm h1 h2) hm (tR l) (hp.trans (jL l).symm)
theorem yU {l m:List Int}(hp:l.Perm m):l.mergeSort leI=fZ m:=by
 refine aG7 ((List.mergeSort_perm l leI).trans hp) ?_
 have tr:∀a b c:Int,leI a b=true→leI b c=true→leI a c=true:=fun a b c h1 h2=>by simp only[leI,decide_eq_true_eq]at *; exact Int.le_trans h1 h2
 have to:∀a b:Int,(leI a b||leI b a)=true:=fun a b=>by simp only[leI,Bool.or_eq_true,decide_eq_true_eq]; exact Int.le_total a b
 exact (List.pairwise_mergeSort tr to l).imp fun h=>by simpa[leI] using h
def aCa:List (Nat×IV×TV)→Option (List Int)
 | []=>some []
 | e::es=>match e.2.1,aCa es with
  | .int .i64 n,some l=>if -9223372036854775808≤n∧n≤9223372036854775807 then some (n::l) else none
  | _,_=>none
def aQ6 (es:List (Nat×IV×TV))(clock:Nat):Bool :=
 decide (es.length≤1048576)&&(es.all fun e=>decide (e.1<clock))&&decide (es.map (·.1)).Nodup
def kA:yK:=fun xs S=>match xs with
 | [.map i]=>match S[i]? with
  | some (.mp es clock)=>match aCa es with
   | some ks=>if aQ6 es clock&&decide ks.Nodup then some (.iv (.sl (match ks with|[]=>.nil|_=>.no) ((fZ ks).map fun n=>[.int .i64 n])),S) else none
   | none=>none
  | _=>none
 | _=>none
theorem aEo:∀ {es:List (Nat×IV×TV)} {ks:List Int},aCa es=some ks→ks.length=es.length∧∀(k:Nat) (x:Nat×IV×TV) (n:Int),es[k]? = some x→ks[k]? = some n→x.2.1=.int .i64 n∧-9223372036854775808≤n∧n≤9223372036854775807
 | [],ks,h=>by
  simp only[aCa,Option.some.injEq]at h
  subst h
  exact⟨rfl,fun k x n h1 h2=>by simp at h1⟩
 | e::es,ks,h=>by
  unfold aCa at h
  split at h
  ·rename_i n l he hl
   split at h
   ·rename_i hr
    simp only[Option.some.injEq]at h
    subst h
    obtain⟨h1,h2⟩:=aEo hl
    refine⟨by simp[h1],fun k x m hx hm=>?_⟩
    cases k with
    | zero=>simp at hx hm; subst hx hm; exact⟨he,hr⟩
    | succ k=>simp at hx hm; exact h2 k x m hx hm
   ·simp at h
  ·simp at h
variable {P:Program}{O:dB}{K:TM.bO}
theorem aKi {f : Nat} {fn : Func} {k : TypeId} (hf : P.funcs[f]? = some fn) (hb : fn.body.isSome = true) (hng : fn.name ≠ "runtime.NumGoroutine") (hk : P.underlying k = some (.int .i64))
  (hrun:∀(b nn:Nat) (D0:DataW Unit) (R:Value→Option (DataW Unit×List MemPlace)) (w:World),w.ownsMap P k R b nn D0→Maps.size D0≤maxLen→Maps.size D0*8≤140737488355328 →
   Calls P f #[.map (some b)] w fun e w'=>∃(v:Value) (ss:List Int),e=.returned v∧ss.Perm (intKeys D0)∧w'.ownsRow w.heap.size k 1 v ss.length ((ss.mergeSort (fun x y=>decide (x≤y))).map encZ)∧(v=.slice none 0 0↔ss=[])∧Below w.heap.size w w') :
  kR P O K f kA:=by
 intro args S v S' h M J w vals hv hw hg
 unfold kA at h
 split at h
 case h_2=>simp at h
 rename_i i
 split at h
 case h_2=>simp at h
 rename_i es clock hS
 split at h
 case h_2=>simp at h
 rename_i ks hks
 split at h
 case isFalse=>simp at h
 rename_i hc
 simp only[Option.some.injEq,Prod.mk.injEq]at h
 obtain⟨rfl,rfl⟩:=h
 obtain⟨x,vals,rfl,hx,hv⟩:=hv.cons_inv
 obtain rfl:=hv.nil_inv
 simp only[Bool.and_eq_true,decide_eq_true_eq,aQ6,List.all_eq_true]at hc
 obtain⟨⟨⟨hlen,hborn⟩,hbn⟩,hnd⟩:=hc
 obtain⟨hkl,hkg⟩:=aEo hks
 cases hx with
 | map _ _ l hl hlo =>
  have hbr:=hw.blk i l _ hl hS
  generalize hs0:aY.mp es clock=s0 at hbr
  cases hbr with
  | mp es0 clock0 es' hlo hbk hsz hvals =>
   simp only[aY.mp.injEq]at hs0
   obtain⟨rfl,rfl⟩:=hs0
   have hrow:∀(j:Nat) (y:MapEntry),es'.toList[j]? = some y→∃(x:Nat×IV×TV) (n:Int),es[j]? = some x∧ks[j]? = some n∧y.born=x.1∧y.key=.int .i64 n∧-9223372036854775808≤n∧n≤9223372036854775807:=by
    intro j y hy
    have hj:j<es'.toList.length:=by
     rcases Nat.lt_or_ge j es'.toList.length with h3|h3
     ·exact h3
     ·rw[List.getElem?_eq_none h3]at hy; cases hy
    have hj':j<es.length:=by simpa[hsz] using hj
    obtain⟨a,b,c⟩:=hvals j es[j] y (List.getElem?_eq_getElem hj') (by simpa using hy)
    have hjk:j<ks.length:=by omega
    obtain⟨d,e⟩:=hkg j es[j] ks[j] (List.getElem?_eq_getElem hj') (List.getElem?_eq_getElem hjk)
    rw[d]at b
    exact⟨es[j],ks[j],List.getElem?_eq_getElem hj',List.getElem?_eq_getElem hjk,a,(VR.iv (J:=J) [] b).int_inv,e⟩
   have hbk':es'.toList.map (·.born)=es.map (·.1):=by
    apply List.ext_getElem?
    intro j
    simp only[List.getElem?_map]
    cases hy:es'.toList[j]? with
    | none =>
     have:es.length≤j:=by have:=List.getElem?_eq_none_iff.1 hy; simpa[hsz] using this
     rw[List.getElem?_eq_none this]; rfl
    | some y =>
     obtain⟨x,n,h1,h2,h3,h4,h5⟩:=hrow j y hy
     rw[h1]; simp[h3]
   have hkk':es'.toList.map (·.key)=ks.map (Value.int .i64):=by
    apply List.ext_getElem?
    intro j
    simp only[List.getElem?_map]
    cases hy:es'.toList[j]? with
    | none =>
     have:ks.length≤j:=by have:=List.getElem?_eq_none_iff.1 hy; rw[hkl]; simpa[hsz] using this
     rw[List.getElem?_eq_none this]; rfl
    | some y =>
     obtain⟨x,n,h1,h2,h3,h4,h5⟩:=hrow j y hy
     rw[h2]; simp[h4]
   let R:Value→Option (DataW Unit×List MemPlace):=fun _=>some (.nil,[])
   have hwf:∀n:Int,-9223372036854775808≤n→n≤9223372036854775807→(Lit.int .i64 n).wf=true:=by
    intro n h1 h2
    simp only[Lit.wf,Bool.and_eq_true,decide_eq_true_eq]
    simp[IntKind.min,IntKind.max,IntKind.signed,IntKind.bits]
    omega
   have hrd:∀(j:Nat) (y:MapEntry),es'.toList[j]? = some y→∃n,ks[j]? = some n∧rd P k R y=some (.int .i64 n,.nil):=by
    intro j y hy
    obtain⟨x,n,h1,h2,h3,h4,h5,h6⟩:=hrow j y hy
    refine⟨n,h2,?_⟩
    simp[rd,h4,keyOf,hk,mapKey,hwf n h5 h6,R]
   have hfit:Fit P k R es' clock:=by
    refine⟨?_,⟨?_,?_,?_⟩,?_⟩
    ·rw[hsz]; have:maxLen=9223372036854775807:=rfl; omega
    ·intro y hy
     obtain⟨j,hj⟩:=List.getElem?_of_mem hy
     obtain⟨x,n,h1,h2,h3,h4,h5⟩:=hrow j y hj
     rw[h3]; exact hborn x (List.mem_of_getElem? h1)
    ·rw[hbk']; exact hbn
    ·rw[hkk']; exact hnd.map _ (fun a b hab e=>hab (by simpa using e))
    ·intro y hy
     obtain⟨j,hj⟩:=List.getElem?_of_mem hy
     obtain⟨n,h1,h2⟩:=hrd j y hj
     exact⟨_,h2⟩
   have hlist:es'.toList.map (rg P k R)=ks.map fun n=>(Lit.int .i64 n,(DataW.nil:DataW Unit)):=by
    apply List.ext_getElem?
    intro j
    simp only[List.getElem?_map]
    cases hy:es'.toList[j]? with
    | none =>
     have:ks.length≤j:=by have:=List.getElem?_eq_none_iff.1 hy; rw[hkl]; simpa[hsz] using this
     rw[List.getElem?_eq_none this]; rfl
    | some y =>
     obtain⟨n,h1,h2⟩:=hrd j y hy
     rw[h1]; simp[rg_of h2]
   have hperm:(intKeys (DataW.map ((es'.toList.map (rg P k R)).foldr DataW.insert []))).Perm ks:=by
    rw[hlist]
    have hp:=sorted_perm (ks.map fun n=>(Lit.int .i64 n,(DataW.nil:DataW Unit)))
    have h2:=hp.map fun p=>Go.intOf p.1
    have e3:(ks.map fun n=>(Lit.int .i64 n,(DataW.nil:DataW Unit))).map (fun p=>Go.intOf p.1)=ks:=by
     rw[List.map_map]
     conv=>rhs; rw[←List.map_id ks]
     exact List.map_congr_left fun n _=>rfl
    rw[e3]at h2
    exact h2
   have hsize:Maps.size (DataW.map ((es'.toList.map (rg P k R)).foldr DataW.insert []))≤1048576:=by
    have:=length_sorted (es'.toList.map (rg P k R))
    simp only[Maps.size]
    rw[this]
    simp[hsz]; omega
   have hown:w.ownsMap P k R l.cb es'.size (DataW.map ((es'.toList.map (rg P k R)).foldr DataW.insert [])):=⟨es',clock,hbk,hfit,Nat.le_refl _,rfl⟩
   refine .inl ⟨fn,hf,hb,hng,fun F hF n=>kV hF ?_⟩
   refine (hrun l.cb es'.size _ R w hown (by have:maxLen=9223372036854775807:=rfl; omega) (by omega)).mono ?_
   rintro e w' ⟨v,ss,rfl,hss,hrow',hnil,hbel⟩
   have hssk:ss.Perm ks:=hss.trans hperm
   have hsort:ss.mergeSort (fun x y=>decide (x≤y))=fZ ks:=yU hssk
   have hlss:ss.length=ks.length:=hssk.length_eq
   rw[hsort]at hrow'
   have hold:∀b,b<w.heap.size→w'.heap[b]? = w.heap[b]? := hbel.block
   rcases hrow'.2 with⟨rfl,h0⟩|⟨g,cap,cur,rfl,hge,hcur,hncap,hcm,hcsz,htake⟩
   ·have hs0:ss=[]:=hnil.1 rfl
    have hk0:ks=[]:=by subst hs0; exact List.eq_nil_of_length_eq_zero (by simpa using hlss.symm)
    subst hk0
    refine⟨_,_,M,J,rfl,.iv _ .slNil,hw.step hw.len (.refl _) (.refl _) ?_ ?_ hw.inj (fun i l hl=>Nat.lt_of_lt_of_le (hw.lt i l hl) hbel.size),?_⟩
    ·intro b o u hm
     rw[dJ (hold b (hw.mlt hm))]
     exact hw.imm b o u hm
    ·intro i l s hl hs
     exact .inr ⟨hl,hs,hold _ (hw.lt i l hl),fun o=>rfl⟩
    ·exact⟨hbel.os,hbel.tape,hbel.output,hbel.size,.refl _,fun b o _ _=>rfl,.refl _,fun i l hl=>.inr ⟨l,hl,rfl⟩,fun i hi=>⟨hi,rfl⟩,fun b hb _ _=>hold b hb⟩
   ·have hk0:ks≠[]:=by
     intro e
     subst e
     have:ss=[]:=List.eq_nil_of_length_eq_zero (by simpa using hlss)
     have:=hnil.2 this
     cases this
    have hlen2:(fZ ks).length=ks.length:=(jL ks).length_eq
    have hget:∀(j:Nat) (n:Int),(fZ ks)[j]? = some n→w'.cell? ⟨g,j,none⟩=some (.int .i64 n):=by
     intro j n hn
     have hj:j<ks.length:=by
      rw[←hlen2]
      rcases Nat.lt_or_ge j (fZ ks).length with h3|h3
      ·exact h3
      ·rw[List.getElem?_eq_none h3]at hn; cases hn
     rw[cJ hcur]
     have h1:(cur.toList.take (ss.length*1))[j]? = ((fZ ks).map encZ)[j]? := by rw[htake]
     rw[List.getElem?_take_of_lt (by omega),List.getElem?_map,hn]at h1
     simpa using h1
    let N:Nat→Option Value:=fun o=>((fZ ks)[o]?).map (Value.int .i64)
    have hgM:∀o,M g o=none:=by
     intro o
     cases hm:M g o with
     | none=>rfl
     | some u=>have:=hw.mlt hm; omega
    have hmle:MLe M (M.ext g N):=by
     intro b o u hm
     unfold Mem.ext
     split
     ·rename_i hbg; subst hbg; rw[hgM]at hm; cases hm
     ·exact hm
    refine⟨_,_,M.ext g N,J,rfl,.iv _ ?_,hw.step hw.len hmle (.refl _) ?_ ?_ hw.inj (fun i l hl=>Nat.lt_of_lt_of_le (hw.lt i l hl) hbel.size),?_⟩
    ·have key:IR (M.ext g N) (.sl .no ((fZ ks).map fun n=>[.int .i64 n])) (.slice (some ⟨g,0,none⟩) ((fZ ks).map fun n=>[IV.int .i64 n]).length cap):=by
      refine .sl .no _ g 0 cap 1 (fun i _=>.int .i64 ((fZ ks).getD i 0)) (by decide) (fun c hc=>?_) (by simp[hlen2,←hlss]; exact hncap) (by intro e; cases e) ?_ ?_
      ·obtain⟨n,_,rfl⟩:=List.mem_map.1 hc; rfl
      ·intro i c j x hc hx
       rw[List.getElem?_map]at hc
       cases hn:(fZ ks)[i]? with
       | none=>rw[hn]at hc; cases hc
       | some n =>
        rw[hn]at hc
        simp only[Option.map_some,Option.some.injEq]at hc
        subst hc
        cases j with
        | zero=>simp[Mem.ext,N,hn,List.getD]
        | succ j=>simp at hx
      ·intro i c j x hc hx
       rw[List.getElem?_map]at hc
       cases hn:(fZ ks)[i]? with
       | none=>rw[hn]at hc; cases hc
       | some n =>
        rw[hn]at hc
        simp only[Option.map_some,Option.some.injEq]at hc
        subst hc
        cases j with
        | zero =>
         simp only[List.getElem?_cons_zero,Option.some.injEq]at hx
         subst hx
         simp only[List.getD,hn,Option.getD_some]
         exact .int _ _
        | succ j=>simp at hx
     rw[List.length_map,hlen2,←hlss]at key
     cases ks with
     | nil=>exact absurd rfl hk0
     | cons a r=>exact key
    ·intro b o u hm
     unfold Mem.ext at hm
     split at hm
     ·rename_i hbg
      subst hbg
      simp only[N]at hm
      cases hn:(fZ ks)[o]? with
      | none=>rw[hn]at hm; cases hm
      | some n =>
       rw[hn]at hm
       simp only[Option.map_some,Option.some.injEq]at hm
       subst hm
       exact hget o n hn
     ·rw[dJ (hold b (hw.mlt hm))]
      exact hw.imm b o u hm
    ·intro i l s hl hs
     refine .inr ⟨hl,hs,hold _ (hw.lt i l hl),fun o=>?_⟩
     unfold Mem.ext
     rw[if_neg (by have:=hw.lt i l hl; omega)]
    ·refine⟨hbel.os,hbel.tape,hbel.output,hbel.size,hmle,fun b o hb _=>?_,.refl _,fun i l hl=>.inr ⟨l,hl,rfl⟩,fun i hi=>⟨hi,rfl⟩,fun b hb _ _=>hold b hb⟩
     unfold Mem.ext
     rw[if_neg (by omega)]
  | _=>simp at hs0
end Go.TM
namespace Go.TM
def lkV (kk:KK)(z:IV)(ok:Bool)(S:aA)(m k:TV):Option TV :=
 match nS k with
 | some k =>
  if !(jP kk k) then none else
  match oT kk S m k with
  | some (some (_,x))=>some (if ok then .tup [x,.iv (.bool true)] else x)
  | some none=>some (if ok then .tup [.iv z,.iv (.bool false)] else .iv z)
  | none=>none
 | none=>none
theorem aC3 (kk:KK)(z:IV)(ok:Bool)(m y:aG)(e:aG→TV)(env:Env)(S:aA):aT (.lookup kk z ok m y) e env S=lkV kk z ok S (e m) (e y):=id rfl
def upV (kk:KK)(env:Env)(S:aA)(m k x:TV):Option (TV×Env×aA) :=
 match nS k,m with
 | some k,.map j=>if !(jP kk k) then none else match S[j]? with
  | some (.mp es clock)=>if dT x then none else match findKey kk k es 0 with
   | some (some (n,_))=>if !(((es[n]?).map fun y=>kY y.2.1 k).getD false) then none else some (undef,env,S.set j (.mp (es.modify n fun y=>(y.1,k,x)) clock))
   | some none=>some (undef,env,S.set j (.mp (es++[(clock,k,x)]) (clock+1)))
   | none=>none
  | _=>none
 | _,_=>none
theorem aKj (kk:KK)(m y x:aG)(e:aG→TV)(rs:List TV)(env:Env)(S:aA):fX (.update kk m y x) e rs env S=upV kk env S (e m) (e y) (e x):=id rfl
attribute [go_sem] aC3 aKj
section
variable {α:Type}
def mpR (f:α→TV)(l:List (Nat×Int×α)):List (Nat×IV×TV):=l.map fun x=>(x.1,.int .i64 x.2.1,f x.2.2)
def gO:List (Nat×Int×α)→Int→Option α
 | [],_=>none
 | x::r,k=>if x.2.1=k then some x.2.2 else gO r k
def gA:List (Nat×Int×α)→Nat→Int→α→List (Nat×Int×α)
 | [],c,k,a=>[(c,k,a)]
 | x::r,c,k,a=>if x.2.1=k then (x.1,k,a)::r else x::gA r c k a
def fT (l:List (Nat×Int×α))(k:Int):Bool:=(gO l k).isSome
def rC (l:List (Nat×Int×α))(c:Nat)(k:Int):Nat:=if fT l k then c else c+1
theorem bF8 (f:α→TV)(l:List (Nat×Int×α)):(mpR f l).length=l.length:=by simp[mpR]
theorem aG8 (f:α→TV):mpR f []=[]:=rfl
theorem rD (f:α→TV)(k:Int):∀(l:List (Nat×Int×α)) (i:Nat),∃n,findKey (.leaf .int) (.int .i64 k) (mpR f l) i=some ((gO l k).map fun a=>(n,f a))
 | [],i=>⟨i,rfl⟩
 | x::r,i=>by
  by_cases hx:k=x.2.1
  ·refine⟨i,?_⟩
   simp[mpR,findKey,aAe,lU,gO,hx]
  ·obtain⟨n,h1⟩:=rD f k r (i+1)
   refine⟨n,?_⟩
   simp only[mpR]at h1
   simp only[mpR,List.map_cons,findKey,aAe,lU,↓reduceIte,gO,Ne.symm hx]
   rw[show (k==x.2.1)=false by simp[hx]]
   exact h1
theorem aG9 (f:α→TV){k:Int}{l:List (Nat×Int×α)}(h:fT l k=false):findKey (.leaf .int) (.int .i64 k) (mpR f l) 0=some none:=by
 obtain⟨n,h1⟩:=rD f k l 0
 have:gO l k=none:=by simpa[fT] using h
 rw[h1,this]; rfl
theorem aQ7:∀ {l:List (Nat×Int×α)} {k:Int},fT l k=false→∀(c:Nat) (a:α),gA l c k a=l++[(c,k,a)]
 | [],k,_,c,a=>rfl
 | x::r,k,h,c,a=>by
  have hx:x.2.1≠k:=fun e=>by simp[fT,gO,e]at h
  have hr:fT r k=false:=by simpa[fT,gO,hx] using h
  simp only[gA,hx,↓reduceIte,aQ7 hr c a,List.cons_append]
theorem aQ8 (f:α→TV)(a:α)(c:Nat)(k:Int):∀(l:List (Nat×Int×α)) (i:Nat),fT l k=true→∃n v,findKey (.leaf .int) (.int .i64 k) (mpR f l) i=some (some (n,v))∧i≤n∧((((mpR f l)[n-i]?).map fun y=>kY y.2.1 (.int .i64 k)).getD false)=true∧(mpR f l).modify (n-i) (fun y=>(y.1,.int .i64 k,f a))=mpR f (gA l c k a)
 | [],i,h=>by simp[fT,gO]at h
 | x::r,i,h=>by
  by_cases hx:k=x.2.1
  ·refine⟨i,f x.2.2,?_,Nat.le_refl _,?_,?_⟩
   ·simp[mpR,findKey,aAe,lU,hx]
   ·simp[mpR,kY,pZ,hx]
   ·simp[mpR,gA,hx]
  ·have hh:fT r k=true:=by simpa[fT,gO,Ne.symm hx] using h
   obtain⟨n,v,h1,h2,h3,h4⟩:=aQ8 f a c k r (i+1) hh
   refine⟨n,v,?_,by omega,?_,?_⟩
   ·simp only[mpR]at h1
    simp only[mpR,List.map_cons,findKey,aAe,lU,↓reduceIte]
    rw[show (k==x.2.1)=false by simp[hx]]
    exact h1
   ·rw[show n-i=(n-(i+1))+1 by omega]
    simp only[mpR,List.map_cons,List.getElem?_cons_succ]at h3 ⊢
    exact h3
   ·rw[show n-i=(n-(i+1))+1 by omega]
    simp only[mpR,List.map_cons,gA,Ne.symm hx,↓reduceIte,List.modify_succ_cons]at h4 ⊢
    rw[h4]
theorem bJm {f:α→TV}{S:aA}{j c:Nat}{l:List (Nat×Int×α)}(h:S[j]? = some (.mp (mpR f l) c))(z:IV)(ok:Bool)(k:Int) :
  lkV (.leaf .int) z ok S (.map j) (.iv (.int .i64 k))=some (match gO l k with|some a=>(if ok then .tup [f a,.iv (.bool true)] else f a)|none=>(if ok then .tup [.iv z,.iv (.bool false)] else .iv z)):=by
 obtain⟨n,h1⟩:=rD f k l 0
 simp only[lkV,nS,pK,jP,Bool.not_true,Bool.false_eq_true,↓reduceIte,oT,h,h1]
 cases gO l k<;>rfl
theorem rE:∀(l:List (Nat×Int×α)) (c:Nat) (k:Int) (a:α) (m:Int),gO (gA l c k a) m=if k=m then some a else gO l m
 | [],c,k,a,m=>by simp[gA,gO]
 | x::r,c,k,a,m=>by
  simp only[gA]
  by_cases h:x.2.1=k
  ·simp only[h,↓reduceIte,gO]
   by_cases hk:k=m<;>simp[hk]
  ·simp only[h,↓reduceIte,gO,rE r c k a m]
   by_cases hm:x.2.1=m
   ·have:¬k=m:=fun e=>h (hm.trans e.symm)
    simp[hm,this]
   ·simp[hm]
theorem bBp (l:List (Nat×Int×α))(c:Nat)(k:Int)(a:α)(m:Int):fT (gA l c k a) m=(decide (k=m)||fT l m):=by
 simp only[fT,rE]
 by_cases h:k=m<;>simp[h]
theorem aCb:∀ {l:List (Nat×Int×α)} {k:Int},fT l k=true↔k∈l.map (·.2.1)
 | [],k=>by simp[fT,gO]
 | x::r,k=>by
  by_cases h:x.2.1=k
  ·simp[fT,gO,h]
  ·have:=aCb (l:=r) (k:=k)
   simp only[fT]at this
   simp only[fT,gO,h,↓reduceIte,List.map_cons,List.mem_cons,Ne.symm h,false_or]
   exact this
theorem bF9 (l:List (Nat×Int×α))(c:Nat)(k:Int)(a:α):(gA l c k a).length=if fT l k then l.length else l.length+1:=by
 induction l with
 | nil=>simp[gA,fT,gO]
 | cons x r ih =>
  by_cases h:x.2.1=k
  ·simp[gA,fT,gO,h]
  ·have e:fT (x::r) k=fT r k:=by simp[fT,gO,h]
   simp only[gA,h,↓reduceIte,List.length_cons,ih,e]
   split<;>rfl
theorem aOb (l:List (Nat×Int×α))(c:Nat)(k:Int)(a:α):(gA l c k a).length≤l.length+1:=by
 rw[bF9]; split<;>omega
structure oB (l:List (Nat×Int×α)) (c:Nat):Prop where
 born:∀x∈l,x.1<c
 once:(l.map (·.1)).Nodup
 keys:(l.map (·.2.1)).Nodup
 rng:∀x∈l,-9223372036854775808≤x.2.1∧x.2.1≤9223372036854775807
theorem oB.nil (c:Nat):oB ([]:List (Nat×Int×α)) c:=⟨by simp,by simp,by simp,by simp⟩
theorem aKk:∀(l:List (Nat×Int×α)) (c:Nat) (k:Int) (a:α),(gA l c k a).map (·.2.1)=if fT l k then l.map (·.2.1) else l.map (·.2.1)++[k]
 | [],c,k,a=>by simp[gA,fT,gO]
 | x::r,c,k,a=>by
  by_cases h:x.2.1=k
  ·simp[gA,fT,gO,h]
  ·have e:fT (x::r) k=fT r k:=by simp[fT,gO,h]
   simp only[gA,h,↓reduceIte,List.map_cons,aKk r c k a,e]
   split<;>rfl
theorem aKl:∀(l:List (Nat×Int×α)) (c:Nat) (k:Int) (a:α),(gA l c k a).map (·.1)=if fT l k then l.map (·.1) else l.map (·.1)++[c]
 | [],c,k,a=>by simp[gA,fT,gO]
 | x::r,c,k,a=>by
  by_cases h:x.2.1=k
  ·simp[gA,fT,gO,h]
  ·have e:fT (x::r) k=fT r k:=by simp[fT,gO,h]
   simp only[gA,h,↓reduceIte,List.map_cons,aKl r c k a,e]
   split<;>rfl
theorem oB.put {l:List (Nat×Int×α)}{c:Nat}(h:oB l c){k:Int}(hk:-9223372036854775808≤k∧k≤9223372036854775807)(a:α):oB (gA l c k a) (rC l c k):=by
 have hb:∀n∈l.map (·.1),n<c:=by
  intro n hn
  obtain⟨x,hx,rfl⟩:=List.mem_map.1 hn
  exact h.born x hx
 have hr:∀n∈l.map (·.2.1),-9223372036854775808≤n∧n≤9223372036854775807:=by
  intro n hn
  obtain⟨x,hx,rfl⟩:=List.mem_map.1 hn
  exact h.rng x hx
 have hbn:=aKl l c k a
 have hkn:=aKk l c k a
 refine⟨fun x hx=>?_,?_,?_,fun x hx=>?_⟩
 ·have hm:=List.mem_map_of_mem (f:=fun y:Nat×Int×α=>y.1) hx
  rw[hbn]at hm
  unfold rC
  split at hm
  ·rename_i hh; rw[if_pos hh]; exact hb _ hm
  ·rename_i hh
   rw[if_neg hh]
   rcases List.mem_append.1 hm with hm|hm
   ·have:=hb _ hm; omega
   ·simp at hm; omega
 ·rw[hbn]
  split
  ·exact h.once
  ·rw[List.nodup_append]
   exact⟨h.once,by simp,fun a ha b hb' e=>by simp at hb'; have:=hb a ha; omega⟩
 ·rw[hkn]
  split
  ·exact h.keys
  ·rename_i hh
   rw[List.nodup_append]
   refine⟨h.keys,by simp,fun a ha b hb' e=>?_⟩
   simp at hb'; subst hb'; subst e
   exact hh (aCb.2 ha)
 ·have hm:=List.mem_map_of_mem (f:=fun y:Nat×Int×α=>y.2.1) hx
  rw[hkn]at hm
  split at hm
  ·exact hr _ hm
  ·rcases List.mem_append.1 hm with hm|hm
   ·exact hr _ hm
   ·simp at hm; rw[hm]; exact hk
end
def lkB (kk:KK)(z:IV)(ok:Bool)(b:Option aY)(k:TV):Option TV :=
 match nS k with
 | some k =>
  if !(jP kk k) then none else
  match (match b with|some (.mp es _)=>findKey kk k es 0|_=>none) with
  | some (some (_,x))=>some (if ok then .tup [x,.iv (.bool true)] else x)
  | some none=>some (if ok then .tup [.iv z,.iv (.bool false)] else .iv z)
  | none=>none
 | none=>none
theorem aQ9 (kk:KK)(z:IV)(ok:Bool)(S:aA)(j:Nat)(k:TV):lkV kk z ok S (.map j) k=lkB kk z ok (S[j]?) k:=by
 simp only[lkV,lkB,oT]
 cases nS k with
 | none=>rfl
 | some k =>
  simp only
  cases S[j]? with
  | none=>rfl
  | some b=>cases b<;>rfl
def upB (kk:KK)(env:Env)(S:aA)(j:Nat)(b:Option aY)(k x:TV):Option (TV×Env×aA) :=
 match nS k with
 | some k=>if !(jP kk k) then none else match b with
  | some (.mp es clock)=>if dT x then none else match findKey kk k es 0 with
   | some (some (n,_))=>if !(((es[n]?).map fun y=>kY y.2.1 k).getD false) then none else some (undef,env,S.set j (.mp (es.modify n fun y=>(y.1,k,x)) clock))
   | some none=>some (undef,env,S.set j (.mp (es++[(clock,k,x)]) (clock+1)))
   | none=>none
  | _=>none
 | _=>none
theorem bGa (kk:KK)(env:Env)(S:aA)(j:Nat)(k x:TV):upV kk env S (.map j) k x=upB kk env S j (S[j]?) k x:=by
 simp only[upV,upB]
 cases nS k<;>rfl
attribute [go_sem] aQ9 bGa
theorem bBq {α:Type}(f:α→TV)(l:List (Nat×Int×α))(c:Nat)(z:IV)(ok:Bool)(k:Int) :
  lkB (.leaf .int) z ok (some (.mp (mpR f l) c)) (.iv (.int .i64 k))=some (match gO l k with|some a=>(if ok then .tup [f a,.iv (.bool true)] else f a)|none=>(if ok then .tup [.iv z,.iv (.bool false)] else .iv z)):=by
 have h:(([.mp (mpR f l) c]:aA))[0]? = some (.mp (mpR f l) c):=rfl
 rw[←h,←aQ9]
 exact bJm h z ok k
theorem bJn {α:Type}(f:α→TV)(l:List (Nat×Int×α))(c:Nat)(env:Env)(S:aA)(j:Nat)(k:Int){x:TV}(a:α)(hx:x=f a)(hl:dT x=false) :
  upB (.leaf .int) env S j (some (.mp (mpR f l) c)) (.iv (.int .i64 k)) x=some (undef,env,S.set j (.mp (mpR f (gA l c k a)) (rC l c k))):=by
 simp only[upB,nS,pK,jP,Bool.not_true,Bool.false_eq_true,↓reduceIte,hl]
 cases hh:fT l k with
 | false =>
  rw[aG9 f hh]
  simp only[aQ7 hh,rC,hh,Bool.false_eq_true,↓reduceIte,mpR,List.map_append,List.map_cons,List.map_nil,hx]
 | true =>
  obtain⟨n,v,h1,h2,h3,h4⟩:=aQ8 f a c k l 0 hh
  rw[Nat.sub_zero]at h3 h4
  rw[h1]
  simp only[h3,Bool.not_true,Bool.false_eq_true,↓reduceIte,hx,h4,rC,hh]
def jB (n:Int):TV:=.iv (.agg [.int .i64 n])
def rF (l:List (Nat×Int×Int))(k:Int):Int:=(gO l k).getD 0
theorem bGb (l:List (Nat×Int×Int))(c:Nat)(k:Int):lkB (.leaf .int) (.agg [.int .i64 0]) false (some (.mp (mpR jB l) c)) (.iv (.int .i64 k))=some (.iv (.agg [.int .i64 (rF l k)])):=by
 rw[bBq]
 simp only[rF,Bool.false_eq_true,↓reduceIte]
 cases gO l k<;>rfl
theorem bGc (l:List (Nat×Int×Int))(c:Nat)(env:Env)(S:aA)(j:Nat)(k a:Int):upB (.leaf .int) env S j (some (.mp (mpR jB l) c)) (.iv (.int .i64 k)) (.iv (.agg [.int .i64 a]))=some (undef,env,S.set j (.mp (mpR jB (gA l c k a)) (rC l c k))) :=
 bJn jB l c env S j k a rfl rfl
theorem aCc (l:List (Nat×Int×Int))(c:Nat)(k a m:Int):rF (gA l c k a) m=if k=m then a else rF l m:=by
 simp only[rF,rE]; split<;>rfl
attribute [go_sem] bGb bGc
structure bW (I:List Nat) (S S':aA):Prop where
 len:S.length≤S'.length
 get:∀i b,i∉I→S[i]? = some b→S'[i]? = some b
theorem bW.refl (I:List Nat)(S:aA):bW I S S:=⟨Nat.le_refl _,fun _ _ _ h=>h⟩
theorem bW.trans {I:List Nat}{S S' S'':aA}(h:bW I S S')(g:bW I S' S''):bW I S S'' :=
 ⟨Nat.le_trans h.len g.len,fun i b hi hb=>g.get i b hi (h.get i b hi hb)⟩
theorem bW.mono {I J:List Nat}{S S':aA}(h:bW I S S')(hs:∀i∈I,i∈J):bW J S S':=⟨h.len,fun i b hi hb=>h.get i b (fun q=>hi (hs i q)) hb⟩
theorem bW.app (I:List Nat)(S:aA)(l:aA):bW I S (S++l) :=
 ⟨by simp,fun i b _ hb=>by
  have:i<S.length:=by
   rcases Nat.lt_or_ge i S.length with h|h
   ·exact h
   ·rw[List.getElem?_eq_none h]at hb; cases hb
  rw[List.getElem?_append_left this]; exact hb⟩
theorem bW.set {I:List Nat}(S:aA){j:Nat}(hj:j∈I)(b:aY):bW I S (S.set j b) :=
 ⟨by simp,fun i b' hi hb=>by
  have:j≠i:=fun e=>hi (e▸hj)
  rw[List.getElem?_set_ne this]; exact hb⟩
theorem dM {S:aA}{i:Nat}{b:aY}(h:S[i]? = some b):i<S.length:=by
 rcases Nat.lt_or_ge i S.length with h'|h'
 ·exact h'
 ·rw[List.getElem?_eq_none h']at h; cases h
theorem dG (S:aA)(b:aY):(S++[b])[S.length]? = some b:=by simp
theorem eQ (S:aA)(a b:aY):(S++[a]++[b])[S.length]? = some a:=by simp
theorem kB {S:aA}{i:Nat}{b:aY}(h:S[i]? = some b)(l:aA):(S++l)[i]? = some b:=(bW.app [] S l).get i b (by simp) h
theorem fM {S:aA}{i:Nat}(h:i<S.length)(b:aY):(S.set i b)[i]? = some b:=by simp[h]
theorem bU {S:aA}{i j:Nat}(h:i≠j)(b:aY):(S.set i b)[j]? = S[j]? := List.getElem?_set_ne h
theorem bGd {α:Type}{cs:List α}{n:Nat}(h:cs.length=n):sub cs 0 n=some cs:=by subst h; simp[sub]
end Go.TM
namespace Go.TM
theorem aEp {α:Type}(f:α→TV):∀ {l:List (Nat×Int×α)},(∀x∈l,-9223372036854775808≤x.2.1∧x.2.1≤9223372036854775807)→aCa (mpR f l)=some (l.map (·.2.1))
 | [],_=>rfl
 | x::r,h=>by
  have h1:=h x (by simp)
  have h2:=aEp f (l:=r) (fun y hy=>h y (by simp[hy]))
  unfold mpR at h2 ⊢
  simp only[List.map_cons,aCa,h2,h1,and_self,↓reduceIte]
theorem aHa {α:Type}{f:α→TV}{S:aA}{j c:Nat}{l:List (Nat×Int×α)}(h:S[j]? = some (.mp (mpR f l) c))(ok:oB l c)(hl:l.length≤1048576) :
  kA [.map j] S=some (.iv (.sl (eP (fZ (l.map (·.2.1)))) (one (.int .i64) (fZ (l.map (·.2.1))))),S):=by
 have e1:aQ6 (mpR f l) c=true:=by
  simp only[aQ6,Bool.and_eq_true,decide_eq_true_eq,List.all_eq_true]
  refine⟨⟨by rw[bF8]; exact hl,fun x hx=>?_⟩,?_⟩
  ·unfold mpR at hx
   obtain⟨y,hy,rfl⟩:=List.mem_map.1 hx
   exact ok.born y hy
  ·have:(mpR f l).map (·.1)=l.map (·.1):=by unfold mpR; rw[List.map_map]; rfl
   rw[this]; exact ok.once
 have e2:=aEp f ok.rng
 simp only[kA,h,e2,e1,ok.keys,decide_true,Bool.and_self,↓reduceIte]
 congr 4
 have hp:=(jL (l.map (·.2.1))).length_eq
 cases hk:l.map (·.2.1) with
 | nil=>rfl
 | cons a r =>
  rw[hk]at hp
  cases hs:fZ (a::r) with
  | nil=>rw[hs]at hp; simp at hp
  | cons b s=>rfl
end Go.TM
namespace Go.TM
section
variable (K:bO)(O:Orc)(i:Nat)(k:Kt)(M:List (Nat×TV))(n:Nat)(fs:List Fr)(env:Env)(S:aA)
def bJo (len es:Nat)(ag:Bool)(x y:TV):Option TV:=match intOf y with
 | some n=>if 0≤n∧n<len then match fJ x with
   | some all=>match sub all (n.toNat*es) es with
    | some cs=>fP ag cs
    | none=>none
   | none=>none
  else none
 | none=>none
theorem aKm (len es:Nat)(ag:Bool)(x y:aG):eY K O (.indexA len es ag x y) i k M n fs env S=lT K O (bJo len es ag (cD K n env M x) (cD K n env M y)) i k M n fs env S:=by
 unfold eY lT cD
 exact gM K O i k M n fs env S (id rfl)
theorem bBr (len es:Nat)(ag:Bool)(cs:List IV)(kd:IntKind)(m:Int):bJo len es ag (.iv (.agg cs)) (.iv (.int kd m))=if 0≤m∧m<len then mC ag (sub (cs.map .iv) (m.toNat*es) es) else none:=by
 simp only[bJo,intOf,fJ]
 split
 ·cases sub (cs.map TV.iv) (m.toNat*es) es<;>rfl
 ·rfl
end
attribute [go_sem] aKm bBr
end Go.TM
