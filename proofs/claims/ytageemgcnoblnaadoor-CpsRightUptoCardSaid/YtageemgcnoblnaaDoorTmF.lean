/- A part of the evaluator TM, and of the proof that what it computes the model does. Condition: none. -/
import Derived.Test.YtageemgcnoblnaaDoorTmD
import Derived.Shelf.Strings.Builder1
import Derived.Lib.Bytealg
import Derived.Lib.MakeNoZero
import Derived.Lib.SlKeysI
import Derived.Maps.Keyed
import Derived.Maps.Own
import Derived.Laws.AppendOwn
import Derived.Test.YtageemgcnoblnaaDoorTmE
set_option linter.unusedVariables false
set_option linter.unusedSimpArgs false
namespace Go.TM
open Go Go.Shelf Go.RowKit Go.Proofs
theorem wF {P:Program}{F:Fence}(hF:cT F){n f:Nat}{args:Array Value}{w:World}{R:Ending→World→Prop}(h:Calls P f args w R):CallsIn F n P f args w R:=by
 have e:F.plain=Fence.wide:=by
  obtain⟨h1,h2,h3⟩:=hF
  cases F
  simp only at h1 h2 h3
  subst h2 h3
  simp only[Fence.plain,Fence.wide,Fence.mk.injEq,and_true]
  funext x
  exact propext (iff_true_intro (h1 x))
 refine sE ?_
 rw[e]
 exact callsIn_wide.2 h
variable {P:Program}{O:dB}{K:TM.bI}
def aBn:List (Nat×aD8)→Nat→Option aD8
 | [],_=>none
 | (k,p)::r,f=>if k==f then some p else aBn r f
theorem aSb {l:List (Nat×aD8)}(h:∀x∈l,sV P O K x.1 x.2){f:Nat}{p:aD8}(hf:aBn l f=some p):sV P O K f p:=by
 induction l with
 | nil=>simp[aBn]at hf
 | cons x r ih =>
  obtain⟨k,q⟩:=x
  unfold aBn at hf
  split at hf
  ·rename_i hk
   simp only[beq_iff_eq]at hk
   simp only[Option.some.injEq]at hf
   subst hk hf
   exact h (k,q) (by simp)
  ·exact ih (fun x hx=>h x (by simp[hx])) hf
end Go.TM
namespace Go.TM
open Go Go.Maps Go.RowKit Go.Proofs Go.ChangeShapes Go.WideShapes Go.MapKept
open Go.WideElems (Fit rg rd rg_of)
def aMa (x:Int):List Int→List Int
 | []=>[x]
 | y::r=>if x≤y then x::y::r else y::aMa x r
def fO:List Int→List Int
 | []=>[]
 | x::r=>aMa x (fO r)
theorem wG (x:Int):∀l:List Int,(aMa x l).Perm (x::l)
 | []=>.refl _
 | y::r=>by
  unfold aMa
  split
  ·exact .refl _
  ·exact ((wG x r).cons y).trans (.swap _ _ _)
theorem iK:∀l:List Int,(fO l).Perm l
 | []=>.refl _
 | x::r=>(wG x (fO r)).trans ((iK r).cons x)
theorem aDr (x:Int):∀l:List Int,l.Pairwise (·≤·)→(aMa x l).Pairwise (·≤·)
 | [],_=>by simp[aMa]
 | y::r,h=>by
  have h':=List.pairwise_cons.1 h
  unfold aMa
  split
  ·rename_i hxy
   refine List.pairwise_cons.2 ⟨fun a ha=>?_,h⟩
   rcases List.mem_cons.1 ha with rfl|ha
   ·exact hxy
   ·have:=h'.1 a ha; omega
  ·rename_i hxy
   refine List.pairwise_cons.2 ⟨fun a ha=>?_,aDr x r h'.2⟩
   rcases List.mem_cons.1 ((wG x r).mem_iff.1 ha) with rfl|ha
   ·omega
   ·exact h'.1 a ha
theorem tE:∀l:List Int,(fO l).Pairwise (·≤·)
 | []=>.nil
 | x::r=>aDr x _ (tE r)
theorem aFp {l m:List Int}(hp:m.Perm l)(hm:m.Pairwise (·≤·)):m=fO l:=by
 refine List.Perm.eq_of_pairwise (le:=fun a b=>a≤b) (fun a b _ _ h1 h2=>Int.le_antisymm h1 h2) hm (tE l) (hp.trans (iK l).symm)
theorem yH {l m:List Int}(hp:l.Perm m):l.mergeSort leI=fO m:=by
 refine aFp ((List.mergeSort_perm l leI).trans hp) ?_
 have tr:∀a b c:Int,leI a b=true→leI b c=true→leI a c=true:=fun a b c h1 h2=>by simp only[leI,decide_eq_true_eq]at *; exact Int.le_trans h1 h2
 have to:∀a b:Int,(leI a b||leI b a)=true:=fun a b=>by simp only[leI,Bool.or_eq_true,decide_eq_true_eq]; exact Int.le_total a b
 exact (List.pairwise_mergeSort tr to l).imp fun h=>by simpa[leI] using h
def aBo:List (Nat×IV×TV)→Option (List Int)
 | []=>some []
 | e::es=>match e.2.1,aBo es with
  | .int .i64 n,some l=>if -9223372036854775808≤n∧n≤9223372036854775807 then some (n::l) else none
  | _,_=>none
def aN4 (es:List (Nat×IV×TV))(clock:Nat):Bool :=
 decide (es.length≤1048576)&&(es.all fun e=>decide (e.1<clock))&&decide (es.map (·.1)).Nodup
def jF:aD8:=fun xs S=>match xs with
 | [.map i]=>match S[i]? with
  | some (.mp es clock)=>match aBo es with
   | some ks=>if aN4 es clock&&decide ks.Nodup then some (.iv (.sl (match ks with|[]=>.nil|_=>.no) ((fO ks).map fun n=>[.int .i64 n])),S) else none
   | none=>none
  | _=>none
 | _=>none
theorem aDs:∀ {es:List (Nat×IV×TV)} {ks:List Int},aBo es=some ks→ks.length=es.length∧∀(k:Nat) (x:Nat×IV×TV) (n:Int),es[k]? = some x→ks[k]? = some n→x.2.1=.int .i64 n∧-9223372036854775808≤n∧n≤9223372036854775807
 | [],ks,h=>by
  simp only[aBo,Option.some.injEq]at h
  subst h
  exact⟨rfl,fun k x n h1 h2=>by simp at h1⟩
 | e::es,ks,h=>by
  unfold aBo at h
  split at h
  ·rename_i n l he hl
   split at h
   ·rename_i hr
    simp only[Option.some.injEq]at h
    subst h
    obtain⟨h1,h2⟩:=aDs hl
    refine⟨by simp[h1],fun k x m hx hm=>?_⟩
    cases k with
    | zero=>simp at hx hm; subst hx hm; exact⟨he,hr⟩
    | succ k=>simp at hx hm; exact h2 k x m hx hm
   ·simp at h
  ·simp at h
variable {P:Program}{O:dB}{K:TM.bI}
theorem aIs {f : Nat} {fn : Func} {k : TypeId} (hf : P.funcs[f]? = some fn) (hb : fn.body.isSome = true) (hng : fn.name ≠ "runtime.NumGoroutine") (hk : P.underlying k = some (.int .i64))
  (hrun:∀(b nn:Nat) (D0:DataW Unit) (R:Value→Option (DataW Unit×List MemPlace)) (w:World),w.ownsMap P k R b nn D0→Maps.size D0≤maxLen→Maps.size D0*8≤140737488355328 →
   Calls P f #[.map (some b)] w fun e w'=>∃(v:Value) (ss:List Int),e=.returned v∧ss.Perm (intKeys D0)∧w'.ownsRow w.heap.size k 1 v ss.length ((ss.mergeSort (fun x y=>decide (x≤y))).map encZ)∧(v=.slice none 0 0↔ss=[])∧Below w.heap.size w w') :
  sV P O K f jF:=by
 intro args S v S' h M J w vals hv hw hg
 unfold jF at h
 split at h
 case h_2=>simp at h
 rename_i i
 split at h
 case h_2=>simp at h
 rename_i es clock hS
 split at h
 case h_2=>simp at h
 rename_i ks hks
 split at h
 case isFalse=>simp at h
 rename_i hc
 simp only[Option.some.injEq,Prod.mk.injEq]at h
 obtain⟨rfl,rfl⟩:=h
 obtain⟨x,vals,rfl,hx,hv⟩:=hv.cons_inv
 obtain rfl:=hv.nil_inv
 simp only[Bool.and_eq_true,decide_eq_true_eq,aN4,List.all_eq_true]at hc
 obtain⟨⟨⟨hlen,hborn⟩,hbn⟩,hnd⟩:=hc
 obtain⟨hkl,hkg⟩:=aDs hks
 cases hx with
 | map _ _ l hl hlo =>
  have hbr:=hw.blk i l _ hl hS
  generalize hs0:aM.mp es clock=s0 at hbr
  cases hbr with
  | mp es0 clock0 es' hlo hbk hsz hvals =>
   simp only[aM.mp.injEq]at hs0
   obtain⟨rfl,rfl⟩:=hs0
   have hrow:∀(j:Nat) (y:MapEntry),es'.toList[j]? = some y→∃(x:Nat×IV×TV) (n:Int),es[j]? = some x∧ks[j]? = some n∧y.born=x.1∧y.key=.int .i64 n∧-9223372036854775808≤n∧n≤9223372036854775807:=by
    intro j y hy
    have hj:j<es'.toList.length:=by
     rcases Nat.lt_or_ge j es'.toList.length with h3|h3
     ·exact h3
     ·rw[List.getElem?_eq_none h3]at hy; cases hy
    have hj':j<es.length:=by simpa[hsz] using hj
    obtain⟨a,b,c⟩:=hvals j es[j] y (List.getElem?_eq_getElem hj') (by simpa using hy)
    have hjk:j<ks.length:=by omega
    obtain⟨d,e⟩:=hkg j es[j] ks[j] (List.getElem?_eq_getElem hj') (List.getElem?_eq_getElem hjk)
    rw[d]at b
    exact⟨es[j],ks[j],List.getElem?_eq_getElem hj',List.getElem?_eq_getElem hjk,a,(VR.iv (J:=J) [] b).int_inv,e⟩
   have hbk':es'.toList.map (·.born)=es.map (·.1):=by
    apply List.ext_getElem?
    intro j
    simp only[List.getElem?_map]
    cases hy:es'.toList[j]? with
    | none =>
     have:es.length≤j:=by have:=List.getElem?_eq_none_iff.1 hy; simpa[hsz] using this
     rw[List.getElem?_eq_none this]; rfl
    | some y =>
     obtain⟨x,n,h1,h2,h3,h4,h5⟩:=hrow j y hy
     rw[h1]; simp[h3]
   have hkk':es'.toList.map (·.key)=ks.map (Value.int .i64):=by
    apply List.ext_getElem?
    intro j
    simp only[List.getElem?_map]
    cases hy:es'.toList[j]? with
    | none =>
     have:ks.length≤j:=by have:=List.getElem?_eq_none_iff.1 hy; rw[hkl]; simpa[hsz] using this
     rw[List.getElem?_eq_none this]; rfl
    | some y =>
     obtain⟨x,n,h1,h2,h3,h4,h5⟩:=hrow j y hy
     rw[h2]; simp[h4]
   let R:Value→Option (DataW Unit×List MemPlace):=fun _=>some (.nil,[])
   have hwf:∀n:Int,-9223372036854775808≤n→n≤9223372036854775807→(Lit.int .i64 n).wf=true:=by
    intro n h1 h2
    simp only[Lit.wf,Bool.and_eq_true,decide_eq_true_eq]
    simp[IntKind.min,IntKind.max,IntKind.signed,IntKind.bits]
    omega
   have hrd:∀(j:Nat) (y:MapEntry),es'.toList[j]? = some y→∃n,ks[j]? = some n∧rd P k R y=some (.int .i64 n,.nil):=by
    intro j y hy
    obtain⟨x,n,h1,h2,h3,h4,h5,h6⟩:=hrow j y hy
    refine⟨n,h2,?_⟩
    simp[rd,h4,keyOf,hk,mapKey,hwf n h5 h6,R]
   have hfit:Fit P k R es' clock:=by
    refine⟨?_,⟨?_,?_,?_⟩,?_⟩
    ·rw[hsz]; have:maxLen=9223372036854775807:=rfl; omega
    ·intro y hy
     obtain⟨j,hj⟩:=List.getElem?_of_mem hy
     obtain⟨x,n,h1,h2,h3,h4,h5⟩:=hrow j y hj
     rw[h3]; exact hborn x (List.mem_of_getElem? h1)
    ·rw[hbk']; exact hbn
    ·rw[hkk']; exact hnd.map _ (fun a b hab e=>hab (by simpa using e))
    ·intro y hy
     obtain⟨j,hj⟩:=List.getElem?_of_mem hy
     obtain⟨n,h1,h2⟩:=hrd j y hj
     exact⟨_,h2⟩
   have hlist:es'.toList.map (rg P k R)=ks.map fun n=>(Lit.int .i64 n,(DataW.nil:DataW Unit)):=by
    apply List.ext_getElem?
    intro j
    simp only[List.getElem?_map]
    cases hy:es'.toList[j]? with
    | none =>
     have:ks.length≤j:=by have:=List.getElem?_eq_none_iff.1 hy; rw[hkl]; simpa[hsz] using this
     rw[List.getElem?_eq_none this]; rfl
    | some y =>
     obtain⟨n,h1,h2⟩:=hrd j y hy
     rw[h1]; simp[rg_of h2]
   have hperm:(intKeys (DataW.map ((es'.toList.map (rg P k R)).foldr DataW.insert []))).Perm ks:=by
    rw[hlist]
    have hp:=sorted_perm (ks.map fun n=>(Lit.int .i64 n,(DataW.nil:DataW Unit)))
    have h2:=hp.map fun p=>Go.intOf p.1
    have e3:(ks.map fun n=>(Lit.int .i64 n,(DataW.nil:DataW Unit))).map (fun p=>Go.intOf p.1)=ks:=by
     rw[List.map_map]
     conv=>rhs; rw[←List.map_id ks]
     exact List.map_congr_left fun n _=>rfl
    rw[e3]at h2
    exact h2
   have hsize:Maps.size (DataW.map ((es'.toList.map (rg P k R)).foldr DataW.insert []))≤1048576:=by
    have:=length_sorted (es'.toList.map (rg P k R))
    simp only[Maps.size]
    rw[this]
    simp[hsz]; omega
   have hown:w.ownsMap P k R l.cb es'.size (DataW.map ((es'.toList.map (rg P k R)).foldr DataW.insert [])):=⟨es',clock,hbk,hfit,Nat.le_refl _,rfl⟩
   refine .inl ⟨fn,hf,hb,hng,fun F hF n=>wF hF ?_⟩
   refine (hrun l.cb es'.size _ R w hown (by have:maxLen=9223372036854775807:=rfl; omega) (by omega)).mono ?_
   rintro e w' ⟨v,ss,rfl,hss,hrow',hnil,hbel⟩
   have hssk:ss.Perm ks:=hss.trans hperm
   have hsort:ss.mergeSort (fun x y=>decide (x≤y))=fO ks:=yH hssk
   have hlss:ss.length=ks.length:=hssk.length_eq
   rw[hsort]at hrow'
   have hold:∀b,b<w.heap.size→w'.heap[b]? = w.heap[b]? := hbel.block
   rcases hrow'.2 with⟨rfl,h0⟩|⟨g,cap,cur,rfl,hge,hcur,hncap,hcm,hcsz,htake⟩
   ·have hs0:ss=[]:=hnil.1 rfl
    have hk0:ks=[]:=by subst hs0; exact List.eq_nil_of_length_eq_zero (by simpa using hlss.symm)
    subst hk0
    refine⟨_,_,M,J,rfl,.iv _ .slNil,hw.step hw.len (.refl _) (.refl _) ?_ ?_ hw.inj (fun i l hl=>Nat.lt_of_lt_of_le (hw.lt i l hl) hbel.size),?_⟩
    ·intro b o u hm
     rw[dC (hold b (hw.mlt hm))]
     exact hw.imm b o u hm
    ·intro i l s hl hs
     exact .inr ⟨hl,hs,hold _ (hw.lt i l hl),fun o=>rfl⟩
    ·exact⟨hbel.os,hbel.tape,hbel.output,hbel.size,.refl _,fun b o _ _=>rfl,.refl _,fun i l hl=>.inr ⟨l,hl,rfl⟩,fun i hi=>⟨hi,rfl⟩,fun b hb _ _=>hold b hb⟩
   ·have hk0:ks≠[]:=by
     intro e
     subst e
     have:ss=[]:=List.eq_nil_of_length_eq_zero (by simpa using hlss)
     have:=hnil.2 this
     cases this
    have hlen2:(fO ks).length=ks.length:=(iK ks).length_eq
    have hget:∀(j:Nat) (n:Int),(fO ks)[j]? = some n→w'.cell? ⟨g,j,none⟩=some (.int .i64 n):=by
     intro j n hn
     have hj:j<ks.length:=by
      rw[←hlen2]
      rcases Nat.lt_or_ge j (fO ks).length with h3|h3
      ·exact h3
      ·rw[List.getElem?_eq_none h3]at hn; cases hn
     rw[dQ hcur]
     have h1:(cur.toList.take (ss.length*1))[j]? = ((fO ks).map encZ)[j]? := by rw[htake]
     rw[List.getElem?_take_of_lt (by omega),List.getElem?_map,hn]at h1
     simpa using h1
    let N:Nat→Option Value:=fun o=>((fO ks)[o]?).map (Value.int .i64)
    have hgM:∀o,M g o=none:=by
     intro o
     cases hm:M g o with
     | none=>rfl
     | some u=>have:=hw.mlt hm; omega
    have hmle:MLe M (M.ext g N):=by
     intro b o u hm
     unfold Mem.ext
     split
     ·rename_i hbg; subst hbg; rw[hgM]at hm; cases hm
     ·exact hm
    refine⟨_,_,M.ext g N,J,rfl,.iv _ ?_,hw.step hw.len hmle (.refl _) ?_ ?_ hw.inj (fun i l hl=>Nat.lt_of_lt_of_le (hw.lt i l hl) hbel.size),?_⟩
    ·have key:IR (M.ext g N) (.sl .no ((fO ks).map fun n=>[.int .i64 n])) (.slice (some ⟨g,0,none⟩) ((fO ks).map fun n=>[IV.int .i64 n]).length cap):=by
      refine .sl .no _ g 0 cap 1 (fun i _=>.int .i64 ((fO ks).getD i 0)) (by decide) (fun c hc=>?_) (by simp[hlen2,←hlss]; exact hncap) (by intro e; cases e) ?_ ?_
      ·obtain⟨n,_,rfl⟩:=List.mem_map.1 hc; rfl
      ·intro i c j x hc hx
       rw[List.getElem?_map]at hc
       cases hn:(fO ks)[i]? with
       | none=>rw[hn]at hc; cases hc
       | some n =>
        rw[hn]at hc
        simp only[Option.map_some,Option.some.injEq]at hc
        subst hc
        cases j with
        | zero=>simp[Mem.ext,N,hn,List.getD]
        | succ j=>simp at hx
      ·intro i c j x hc hx
       rw[List.getElem?_map]at hc
       cases hn:(fO ks)[i]? with
       | none=>rw[hn]at hc; cases hc
       | some n =>
        rw[hn]at hc
        simp only[Option.map_some,Option.some.injEq]at hc
        subst hc
        cases j with
        | zero =>
         simp only[List.getElem?_cons_zero,Option.some.injEq]at hx
         subst hx
         simp only[List.getD,hn,Option.getD_some]
         exact .int _ _
        | succ j=>simp at hx
     rw[List.length_map,hlen2,←hlss]at key
     cases ks with
     | nil=>exact absurd rfl hk0
     | cons a r=>exact key
    ·intro b o u hm
     unfold Mem.ext at hm
     split at hm
     ·rename_i hbg
      subst hbg
      simp only[N]at hm
      cases hn:(fO ks)[o]? with
      | none=>rw[hn]at hm; cases hm
      | some n =>
       rw[hn]at hm
       simp only[Option.map_some,Option.some.injEq]at hm
       subst hm
       exact hget o n hn
     ·rw[dC (hold b (hw.mlt hm))]
      exact hw.imm b o u hm
    ·intro i l s hl hs
     refine .inr ⟨hl,hs,hold _ (hw.lt i l hl),fun o=>?_⟩
     unfold Mem.ext
     rw[if_neg (by have:=hw.lt i l hl; omega)]
    ·refine⟨hbel.os,hbel.tape,hbel.output,hbel.size,hmle,fun b o hb _=>?_,.refl _,fun i l hl=>.inr ⟨l,hl,rfl⟩,fun i hi=>⟨hi,rfl⟩,fun b hb _ _=>hold b hb⟩
     unfold Mem.ext
     rw[if_neg (by omega)]
  | _=>simp at hs0
end Go.TM
namespace Go.TM
def lkV (kk:KK)(z:IV)(ok:Bool)(S:aA)(m k:TV):Option TV :=
 match nZ k with
 | some k =>
  if !(iT kk k) then none else
  match oQ kk S m k with
  | some (some (_,x))=>some (if ok then .tup [x,.iv (.bool true)] else x)
  | some none=>some (if ok then .tup [.iv z,.iv (.bool false)] else .iv z)
  | none=>none
 | none=>none
theorem aCg (kk:KK)(z:IV)(ok:Bool)(m y:aE)(e:aE→TV)(env:Env)(S:aA):aJ (.lookup kk z ok m y) e env S=lkV kk z ok S (e m) (e y):=id rfl
def upV (kk:KK)(env:Env)(S:aA)(m k x:TV):Option (TV×Env×aA) :=
 match nZ k,m with
 | some k,.map j=>if !(iT kk k) then none else match S[j]? with
  | some (.mp es clock)=>if dH x then none else match findKey kk k es 0 with
   | some (some (n,_))=>if !(((es[n]?).map fun y=>jU y.2.1 k).getD false) then none else some (undef,env,S.set j (.mp (es.modify n fun y=>(y.1,k,x)) clock))
   | some none=>some (undef,env,S.set j (.mp (es++[(clock,k,x)]) (clock+1)))
   | none=>none
  | _=>none
 | _,_=>none
theorem aIt (kk:KK)(m y x:aE)(e:aE→TV)(rs:List TV)(env:Env)(S:aA):fL (.update kk m y x) e rs env S=upV kk env S (e m) (e y) (e x):=id rfl
attribute [go_sem] aCg aIt
section
variable {α:Type}
def mpR (f:α→TV)(l:List (Nat×Int×α)):List (Nat×IV×TV):=l.map fun x=>(x.1,.int .i64 x.2.1,f x.2.2)
def gT:List (Nat×Int×α)→Int→Option α
 | [],_=>none
 | x::r,k=>if x.2.1=k then some x.2.2 else gT r k
def gU:List (Nat×Int×α)→Nat→Int→α→List (Nat×Int×α)
 | [],c,k,a=>[(c,k,a)]
 | x::r,c,k,a=>if x.2.1=k then (x.1,k,a)::r else x::gU r c k a
def fG (l:List (Nat×Int×α))(k:Int):Bool:=(gT l k).isSome
def wH (l:List (Nat×Int×α))(c:Nat)(k:Int):Nat:=if fG l k then c else c+1
theorem bC2 (f:α→TV)(l:List (Nat×Int×α)):(mpR f l).length=l.length:=by simp[mpR]
theorem aN5 (f:α→TV):mpR f []=[]:=rfl
theorem qY (f:α→TV)(k:Int):∀(l:List (Nat×Int×α)) (i:Nat),∃n,findKey (.leaf .int) (.int .i64 k) (mpR f l) i=some ((gT l k).map fun a=>(n,f a))
 | [],i=>⟨i,rfl⟩
 | x::r,i=>by
  by_cases hx:k=x.2.1
  ·refine⟨i,?_⟩
   simp[mpR,findKey,zI,lD,gT,hx]
  ·obtain⟨n,h1⟩:=qY f k r (i+1)
   refine⟨n,?_⟩
   simp only[mpR]at h1
   simp only[mpR,List.map_cons,findKey,zI,lD,↓reduceIte,gT,Ne.symm hx]
   rw[show (k==x.2.1)=false by simp[hx]]
   exact h1
theorem aFq (f:α→TV){k:Int}{l:List (Nat×Int×α)}(h:fG l k=false):findKey (.leaf .int) (.int .i64 k) (mpR f l) 0=some none:=by
 obtain⟨n,h1⟩:=qY f k l 0
 have:gT l k=none:=by simpa[fG] using h
 rw[h1,this]; rfl
theorem aN6:∀ {l:List (Nat×Int×α)} {k:Int},fG l k=false→∀(c:Nat) (a:α),gU l c k a=l++[(c,k,a)]
 | [],k,_,c,a=>rfl
 | x::r,k,h,c,a=>by
  have hx:x.2.1≠k:=fun e=>by simp[fG,gT,e]at h
  have hr:fG r k=false:=by simpa[fG,gT,hx] using h
  simp only[gU,hx,↓reduceIte,aN6 hr c a,List.cons_append]
theorem aN7 (f:α→TV)(a:α)(c:Nat)(k:Int):∀(l:List (Nat×Int×α)) (i:Nat),fG l k=true→∃n v,findKey (.leaf .int) (.int .i64 k) (mpR f l) i=some (some (n,v))∧i≤n∧((((mpR f l)[n-i]?).map fun y=>jU y.2.1 (.int .i64 k)).getD false)=true∧(mpR f l).modify (n-i) (fun y=>(y.1,.int .i64 k,f a))=mpR f (gU l c k a)
 | [],i,h=>by simp[fG,gT]at h
 | x::r,i,h=>by
  by_cases hx:k=x.2.1
  ·refine⟨i,f x.2.2,?_,Nat.le_refl _,?_,?_⟩
   ·simp[mpR,findKey,zI,lD,hx]
   ·simp[mpR,jU,pX,hx]
   ·simp[mpR,gU,hx]
  ·have hh:fG r k=true:=by simpa[fG,gT,Ne.symm hx] using h
   obtain⟨n,v,h1,h2,h3,h4⟩:=aN7 f a c k r (i+1) hh
   refine⟨n,v,?_,by omega,?_,?_⟩
   ·simp only[mpR]at h1
    simp only[mpR,List.map_cons,findKey,zI,lD,↓reduceIte]
    rw[show (k==x.2.1)=false by simp[hx]]
    exact h1
   ·rw[show n-i=(n-(i+1))+1 by omega]
    simp only[mpR,List.map_cons,List.getElem?_cons_succ]at h3 ⊢
    exact h3
   ·rw[show n-i=(n-(i+1))+1 by omega]
    simp only[mpR,List.map_cons,gU,Ne.symm hx,↓reduceIte,List.modify_succ_cons]at h4 ⊢
    rw[h4]
theorem bGe {f:α→TV}{S:aA}{j c:Nat}{l:List (Nat×Int×α)}(h:S[j]? = some (.mp (mpR f l) c))(z:IV)(ok:Bool)(k:Int) :
  lkV (.leaf .int) z ok S (.map j) (.iv (.int .i64 k))=some (match gT l k with|some a=>(if ok then .tup [f a,.iv (.bool true)] else f a)|none=>(if ok then .tup [.iv z,.iv (.bool false)] else .iv z)):=by
 obtain⟨n,h1⟩:=qY f k l 0
 simp only[lkV,nZ,pW,iT,Bool.not_true,Bool.false_eq_true,↓reduceIte,oQ,h,h1]
 cases gT l k<;>rfl
theorem aBp:∀(l:List (Nat×Int×α)) (c:Nat) (k:Int) (a:α) (m:Int),gT (gU l c k a) m=if k=m then some a else gT l m
 | [],c,k,a,m=>by simp[gU,gT]
 | x::r,c,k,a,m=>by
  simp only[gU]
  by_cases h:x.2.1=k
  ·simp only[h,↓reduceIte,gT]
   by_cases hk:k=m<;>simp[hk]
  ·simp only[h,↓reduceIte,gT,aBp r c k a m]
   by_cases hm:x.2.1=m
   ·have:¬k=m:=fun e=>h (hm.trans e.symm)
    simp[hm,this]
   ·simp[hm]
theorem aYs (l:List (Nat×Int×α))(c:Nat)(k:Int)(a:α)(m:Int):fG (gU l c k a) m=(decide (k=m)||fG l m):=by
 simp only[fG,aBp]
 by_cases h:k=m<;>simp[h]
theorem aBq:∀ {l:List (Nat×Int×α)} {k:Int},fG l k=true↔k∈l.map (·.2.1)
 | [],k=>by simp[fG,gT]
 | x::r,k=>by
  by_cases h:x.2.1=k
  ·simp[fG,gT,h]
  ·have:=aBq (l:=r) (k:=k)
   simp only[fG]at this
   simp only[fG,gT,h,↓reduceIte,List.map_cons,List.mem_cons,Ne.symm h,false_or]
   exact this
theorem bC3 (l:List (Nat×Int×α))(c:Nat)(k:Int)(a:α):(gU l c k a).length=if fG l k then l.length else l.length+1:=by
 induction l with
 | nil=>simp[gU,fG,gT]
 | cons x r ih =>
  by_cases h:x.2.1=k
  ·simp[gU,fG,gT,h]
  ·have e:fG (x::r) k=fG r k:=by simp[fG,gT,h]
   simp only[gU,h,↓reduceIte,List.length_cons,ih,e]
   split<;>rfl
theorem aMb (l:List (Nat×Int×α))(c:Nat)(k:Int)(a:α):(gU l c k a).length≤l.length+1:=by
 rw[bC3]; split<;>omega
structure nO (l:List (Nat×Int×α)) (c:Nat):Prop where
 born:∀x∈l,x.1<c
 once:(l.map (·.1)).Nodup
 keys:(l.map (·.2.1)).Nodup
 rng:∀x∈l,-9223372036854775808≤x.2.1∧x.2.1≤9223372036854775807
theorem nO.nil (c:Nat):nO ([]:List (Nat×Int×α)) c:=⟨by simp,by simp,by simp,by simp⟩
theorem aIu:∀(l:List (Nat×Int×α)) (c:Nat) (k:Int) (a:α),(gU l c k a).map (·.2.1)=if fG l k then l.map (·.2.1) else l.map (·.2.1)++[k]
 | [],c,k,a=>by simp[gU,fG,gT]
 | x::r,c,k,a=>by
  by_cases h:x.2.1=k
  ·simp[gU,fG,gT,h]
  ·have e:fG (x::r) k=fG r k:=by simp[fG,gT,h]
   simp only[gU,h,↓reduceIte,List.map_cons,aIu r c k a,e]
   split<;>rfl
theorem aIv:∀(l:List (Nat×Int×α)) (c:Nat) (k:Int) (a:α),(gU l c k a).map (·.1)=if fG l k then l.map (·.1) else l.map (·.1)++[c]
 | [],c,k,a=>by simp[gU,fG,gT]
 | x::r,c,k,a=>by
  by_cases h:x.2.1=k
  ·simp[gU,fG,gT,h]
  ·have e:fG (x::r) k=fG r k:=by simp[fG,gT,h]
   simp only[gU,h,↓reduceIte,List.map_cons,aIv r c k a,e]
   split<;>rfl
theorem nO.put {l:List (Nat×Int×α)}{c:Nat}(h:nO l c){k:Int}(hk:-9223372036854775808≤k∧k≤9223372036854775807)(a:α):nO (gU l c k a) (wH l c k):=by
 have hb:∀n∈l.map (·.1),n<c:=by
  intro n hn
  obtain⟨x,hx,rfl⟩:=List.mem_map.1 hn
  exact h.born x hx
 have hr:∀n∈l.map (·.2.1),-9223372036854775808≤n∧n≤9223372036854775807:=by
  intro n hn
  obtain⟨x,hx,rfl⟩:=List.mem_map.1 hn
  exact h.rng x hx
 have hbn:=aIv l c k a
 have hkn:=aIu l c k a
 refine⟨fun x hx=>?_,?_,?_,fun x hx=>?_⟩
 ·have hm:=List.mem_map_of_mem (f:=fun y:Nat×Int×α=>y.1) hx
  rw[hbn]at hm
  unfold wH
  split at hm
  ·rename_i hh; rw[if_pos hh]; exact hb _ hm
  ·rename_i hh
   rw[if_neg hh]
   rcases List.mem_append.1 hm with hm|hm
   ·have:=hb _ hm; omega
   ·simp at hm; omega
 ·rw[hbn]
  split
  ·exact h.once
  ·rw[List.nodup_append]
   exact⟨h.once,by simp,fun a ha b hb' e=>by simp at hb'; have:=hb a ha; omega⟩
 ·rw[hkn]
  split
  ·exact h.keys
  ·rename_i hh
   rw[List.nodup_append]
   refine⟨h.keys,by simp,fun a ha b hb' e=>?_⟩
   simp at hb'; subst hb'; subst e
   exact hh (aBq.2 ha)
 ·have hm:=List.mem_map_of_mem (f:=fun y:Nat×Int×α=>y.2.1) hx
  rw[hkn]at hm
  split at hm
  ·exact hr _ hm
  ·rcases List.mem_append.1 hm with hm|hm
   ·exact hr _ hm
   ·simp at hm; rw[hm]; exact hk
end
def lkB (kk:KK)(z:IV)(ok:Bool)(b:Option aM)(k:TV):Option TV :=
 match nZ k with
 | some k =>
  if !(iT kk k) then none else
  match (match b with|some (.mp es _)=>findKey kk k es 0|_=>none) with
  | some (some (_,x))=>some (if ok then .tup [x,.iv (.bool true)] else x)
  | some none=>some (if ok then .tup [.iv z,.iv (.bool false)] else .iv z)
  | none=>none
 | none=>none
theorem aN8 (kk:KK)(z:IV)(ok:Bool)(S:aA)(j:Nat)(k:TV):lkV kk z ok S (.map j) k=lkB kk z ok (S[j]?) k:=by
 simp only[lkV,lkB,oQ]
 cases nZ k with
 | none=>rfl
 | some k =>
  simp only
  cases S[j]? with
  | none=>rfl
  | some b=>cases b<;>rfl
def upB (kk:KK)(env:Env)(S:aA)(j:Nat)(b:Option aM)(k x:TV):Option (TV×Env×aA) :=
 match nZ k with
 | some k=>if !(iT kk k) then none else match b with
  | some (.mp es clock)=>if dH x then none else match findKey kk k es 0 with
   | some (some (n,_))=>if !(((es[n]?).map fun y=>jU y.2.1 k).getD false) then none else some (undef,env,S.set j (.mp (es.modify n fun y=>(y.1,k,x)) clock))
   | some none=>some (undef,env,S.set j (.mp (es++[(clock,k,x)]) (clock+1)))
   | none=>none
  | _=>none
 | _=>none
theorem bC4 (kk:KK)(env:Env)(S:aA)(j:Nat)(k x:TV):upV kk env S (.map j) k x=upB kk env S j (S[j]?) k x:=by
 simp only[upV,upB]
 cases nZ k<;>rfl
attribute [go_sem] aN8 bC4
theorem bGf {α:Type}(f:α→TV)(l:List (Nat×Int×α))(c:Nat)(z:IV)(ok:Bool)(k:Int) :
  lkB (.leaf .int) z ok (some (.mp (mpR f l) c)) (.iv (.int .i64 k))=some (match gT l k with|some a=>(if ok then .tup [f a,.iv (.bool true)] else f a)|none=>(if ok then .tup [.iv z,.iv (.bool false)] else .iv z)):=by
 have h:(([.mp (mpR f l) c]:aA))[0]? = some (.mp (mpR f l) c):=rfl
 rw[←h,←aN8]
 exact bGe h z ok k
theorem bGg {α:Type}(f:α→TV)(l:List (Nat×Int×α))(c:Nat)(env:Env)(S:aA)(j:Nat)(k:Int){x:TV}(a:α)(hx:x=f a)(hl:dH x=false) :
  upB (.leaf .int) env S j (some (.mp (mpR f l) c)) (.iv (.int .i64 k)) x=some (undef,env,S.set j (.mp (mpR f (gU l c k a)) (wH l c k))):=by
 simp only[upB,nZ,pW,iT,Bool.not_true,Bool.false_eq_true,↓reduceIte,hl]
 cases hh:fG l k with
 | false =>
  rw[aFq f hh]
  simp only[aN6 hh,wH,hh,Bool.false_eq_true,↓reduceIte,mpR,List.map_append,List.map_cons,List.map_nil,hx]
 | true =>
  obtain⟨n,v,h1,h2,h3,h4⟩:=aN7 f a c k l 0 hh
  rw[Nat.sub_zero]at h3 h4
  rw[h1]
  simp only[h3,Bool.not_true,Bool.false_eq_true,↓reduceIte,hx,h4,wH,hh]
def kX (n:Int):TV:=.iv (.agg [.int .i64 n])
def uZ (l:List (Nat×Int×Int))(k:Int):Int:=(gT l k).getD 0
theorem bC5 (l:List (Nat×Int×Int))(c:Nat)(k:Int):lkB (.leaf .int) (.agg [.int .i64 0]) false (some (.mp (mpR kX l) c)) (.iv (.int .i64 k))=some (.iv (.agg [.int .i64 (uZ l k)])):=by
 rw[bGf]
 simp only[uZ,Bool.false_eq_true,↓reduceIte]
 cases gT l k<;>rfl
theorem bC6 (l:List (Nat×Int×Int))(c:Nat)(env:Env)(S:aA)(j:Nat)(k a:Int):upB (.leaf .int) env S j (some (.mp (mpR kX l) c)) (.iv (.int .i64 k)) (.iv (.agg [.int .i64 a]))=some (undef,env,S.set j (.mp (mpR kX (gU l c k a)) (wH l c k))) :=
 bGg kX l c env S j k a rfl rfl
theorem aIw (l:List (Nat×Int×Int))(c:Nat)(k a m:Int):uZ (gU l c k a) m=if k=m then a else uZ l m:=by
 simp only[uZ,aBp]; split<;>rfl
attribute [go_sem] bC5 bC6
structure bC (I:List Nat) (S S':aA):Prop where
 len:S.length≤S'.length
 get:∀i b,i∉I→S[i]? = some b→S'[i]? = some b
theorem bC.refl (I:List Nat)(S:aA):bC I S S:=⟨Nat.le_refl _,fun _ _ _ h=>h⟩
theorem bC.trans {I:List Nat}{S S' S'':aA}(h:bC I S S')(g:bC I S' S''):bC I S S'' :=
 ⟨Nat.le_trans h.len g.len,fun i b hi hb=>g.get i b hi (h.get i b hi hb)⟩
theorem bC.mono {I J:List Nat}{S S':aA}(h:bC I S S')(hs:∀i∈I,i∈J):bC J S S':=⟨h.len,fun i b hi hb=>h.get i b (fun q=>hi (hs i q)) hb⟩
theorem bC.app (I:List Nat)(S:aA)(l:aA):bC I S (S++l) :=
 ⟨by simp,fun i b _ hb=>by
  have:i<S.length:=by
   rcases Nat.lt_or_ge i S.length with h|h
   ·exact h
   ·rw[List.getElem?_eq_none h]at hb; cases hb
  rw[List.getElem?_append_left this]; exact hb⟩
theorem bC.set {I:List Nat}(S:aA){j:Nat}(hj:j∈I)(b:aM):bC I S (S.set j b) :=
 ⟨by simp,fun i b' hi hb=>by
  have:j≠i:=fun e=>hi (e▸hj)
  rw[List.getElem?_set_ne this]; exact hb⟩
theorem bD {S:aA}{i:Nat}{b:aM}(h:S[i]? = some b):i<S.length:=by
 rcases Nat.lt_or_ge i S.length with h'|h'
 ·exact h'
 ·rw[List.getElem?_eq_none h']at h; cases h
theorem cY (S:aA)(b:aM):(S++[b])[S.length]? = some b:=by simp
theorem fB (S:aA)(a b:aM):(S++[a]++[b])[S.length]? = some a:=by simp
theorem iD {S:aA}{i:Nat}{b:aM}(h:S[i]? = some b)(l:aA):(S++l)[i]? = some b:=(bC.app [] S l).get i b (by simp) h
theorem bW {S:aA}{i:Nat}(h:i<S.length)(b:aM):(S.set i b)[i]? = some b:=by simp[h]
theorem bK {S:aA}{i j:Nat}(h:i≠j)(b:aM):(S.set i b)[j]? = S[j]? := List.getElem?_set_ne h
theorem aN9 {α:Type}{cs:List α}{n:Nat}(h:cs.length=n):sub cs 0 n=some cs:=by subst h; simp[sub]
end Go.TM
namespace Go.TM
theorem aDt {α:Type}(f:α→TV):∀ {l:List (Nat×Int×α)},(∀x∈l,-9223372036854775808≤x.2.1∧x.2.1≤9223372036854775807)→aBo (mpR f l)=some (l.map (·.2.1))
 | [],_=>rfl
 | x::r,h=>by
  have h1:=h x (by simp)
  have h2:=aDt f (l:=r) (fun y hy=>h y (by simp[hy]))
  unfold mpR at h2 ⊢
  simp only[List.map_cons,aBo,h2,h1,and_self,↓reduceIte]
theorem aFr {α:Type}{f:α→TV}{S:aA}{j c:Nat}{l:List (Nat×Int×α)}(h:S[j]? = some (.mp (mpR f l) c))(ok:nO l c)(hl:l.length≤1048576) :
  jF [.map j] S=some (.iv (.sl (tD (fO (l.map (·.2.1)))) (one (.int .i64) (fO (l.map (·.2.1))))),S):=by
 have e1:aN4 (mpR f l) c=true:=by
  simp only[aN4,Bool.and_eq_true,decide_eq_true_eq,List.all_eq_true]
  refine⟨⟨by rw[bC2]; exact hl,fun x hx=>?_⟩,?_⟩
  ·unfold mpR at hx
   obtain⟨y,hy,rfl⟩:=List.mem_map.1 hx
   exact ok.born y hy
  ·have:(mpR f l).map (·.1)=l.map (·.1):=by unfold mpR; rw[List.map_map]; rfl
   rw[this]; exact ok.once
 have e2:=aDt f ok.rng
 simp only[jF,h,e2,e1,ok.keys,decide_true,Bool.and_self,↓reduceIte]
 congr 4
 have hp:=(iK (l.map (·.2.1))).length_eq
 cases hk:l.map (·.2.1) with
 | nil=>rfl
 | cons a r =>
  rw[hk]at hp
  cases hs:fO (a::r) with
  | nil=>rw[hs]at hp; simp at hp
  | cons b s=>rfl
end Go.TM
namespace Go.TM
section
variable (K:bI)(O:Orc)(i:Nat)(k:Kt)(M:List (Nat×TV))(n:Nat)(fs:List Fr)(env:Env)(S:aA)
def bGh (len es:Nat)(ag:Bool)(x y:TV):Option TV:=match intOf y with
 | some n=>if 0≤n∧n<len then match eX x with
   | some all=>match sub all (n.toNat*es) es with
    | some cs=>fC ag cs
    | none=>none
   | none=>none
  else none
 | none=>none
theorem aIx (len es:Nat)(ag:Bool)(x y:aE):eD K O (.indexA len es ag x y) i k M n fs env S=jS K O (bGh len es ag (cB K n env M x) (cB K n env M y)) i k M n fs env S:=by
 unfold eD jS cB
 exact fW K O i k M n fs env S (id rfl)
theorem aYt (len es:Nat)(ag:Bool)(cs:List IV)(kd:IntKind)(m:Int):bGh len es ag (.iv (.agg cs)) (.iv (.int kd m))=if 0≤m∧m<len then lK ag (sub (cs.map .iv) (m.toNat*es) es) else none:=by
 simp only[bGh,intOf,eX]
 split
 ·cases sub (cs.map TV.iv) (m.toNat*es) es<;>rfl
 ·rfl
end
attribute [go_sem] aIx aYt
end Go.TM
namespace Go.TM
section
variable (K:bI)(O:Orc)(i:Nat)(k:Kt)(M:List (Nat×TV))(n:Nat)(fs:List Fr)(env:Env)(S:aA)
end
def left {α:Type}(l:List (Nat×Int×α))(seen:List Nat):Nat:=(l.filter fun x=>!seen.contains x.1).length
section
variable {K:bI}{O:Orc}{i:Nat}{k:Kt}{M:List (Nat×TV)}{n:Nat}{fs:List Fr}{env:Env}{S:aA}{cb:aP}
end
section
variable {K:bI}{O:Orc}{i:Nat}{k:Kt}{M:List (Nat×TV)}{n:Nat}{fs:List Fr}{env:Env}{S:aA}{cb:aP}{rs:List lZ}
end
theorem bHy (env:Env)(S:aA)(x y:IV):bB env S (.iv (.cp [x,y])) 2=some [.iv x,.iv y]:=id rfl
attribute [go_sem] bHy
end Go.TM
namespace Go.TM
def grV (es bytes el:Nat)(env:Env)(S:aA)(x n:TV):Option (TV×Env×aA):=match intOf n with
 | some n=>match sM es bytes el S x n with
  | some (x,S)=>some (x,env,S)
  | none=>none
 | none=>none
theorem aSc (K:bI)(O:Orc)(i:Nat)(k:Kt)(M:List (Nat×TV))(n:Nat)(fs:List Fr)(env:Env)(S:aA)(es bytes el:Nat)(x y:aE):eD K O (.grow es bytes el x y) i k M n fs env S=aCb K O (grV es bytes el env S (cB K n env M x) (cB K n env M y)) i k M n fs:=by
 unfold eD aCb cB
 exact pD K O i k M n fs env S rfl (by simp)
theorem bGi {es bytes el:Nat}{env:Env}{S S':aA}{x y:TV}{n:Int}(h:sM es bytes el S x n=some (y,S')):grV es bytes el env S x (.iv (.int .i64 n))=some (y,env,S'):=by
 simp only[grV,intOf,h]
attribute [go_sem] aSc
end Go.TM
