/- Some texts of the proof, joined. Condition: none. -/
import Derived.Test.YtmlhjdekfihdnaaJa
import Derived.Test.YtmlhjdekfihdnaaTmE
set_option maxRecDepth 100000
set_option maxHeartbeats 64000000
set_option linter.unusedSimpArgs false
set_option linter.unusedVariables false
namespace Go.Proofs.Ytmlhjdekfihdnaa
open Go Go.TM
theorem bound_nat {i d y : Nat} (h : i ≤ y) : bound (some (i : Int)) d y = some i := by
 simp [bound,h]
theorem bounds3 {m cap a b c : Nat} (h1 : c ≤ cap) (h2 : b ≤ c) (h3 : a ≤ b) : bounds m cap (some (a : Int)) (some (b : Int)) (some (c : Int)) = some (a,b,c) := by
 simp [bounds,bound_nat h1,bound_nat h2,bound_nat h3]
theorem bounds2 {m cap a b : Nat} (h2 : b ≤ cap) (h3 : a ≤ b) : bounds m cap (some (a : Int)) (some (b : Int)) none = some (a,b,cap) := by
 have : bound none cap cap = some cap := rfl
 simp [bounds,this,bound_nat h2,bound_nat h3]
theorem bounds_hi {m cap b : Nat} (h2 : b ≤ cap) : bounds m cap none (some (b : Int)) none = some (0,b,cap) := by
 have : bound none cap cap = some cap := rfl
 have e : bound none 0 b = some 0 := rfl
 simp [bounds,this,bound_nat h2,e]
theorem bounds_lo {m cap a : Nat} (h2 : m ≤ cap) (h3 : a ≤ m) : bounds m cap (some (a : Int)) none none = some (a,m,cap) := by
 have : bound none cap cap = some cap := rfl
 have e : bound none m cap = some m := rfl
 simp [bounds,this,e,bound_nat h3]
theorem sl_msl {S : Store} {jl v m cap : Nat} {cs : List TV} (hL : S[jl]? = some (.cells v true cs)) (lo hi mx : Option Int) {l h c : Nat} (hb : bounds m cap lo hi mx = some (l,h,c)) : sliceOp S (.sl 1) (.msl jl v 0 m cap 1) lo hi mx = some (.msl jl v (if c = l then 0 else 0 + l * 1) (h - l) (c - l) 1) := by
 have hv : verOk S jl v = true := by simp [verOk,hL]
 simp [sliceOp,hv,hb]
theorem any_nI (l : List Nat) : (l.map nI).any isRefL = false := by
 rw [List.any_eq_false]
 intro x hx
 obtain ⟨m,_,rfl⟩ := List.mem_map.1 hx
 simp [nI,isRefL]
theorem erase_cells {L : List Nat} {J : List TV} {i : Nat} (hi : i < L.length) : put (L.map nI ++ J) i ((L.drop (i + 1)).map nI) = (L.eraseIdx i).map nI ++ (nI (L.getD (L.length - 1) default) :: J) := by
 unfold put
 rw [List.take_append_of_le_length (by simp <;> omega),List.eraseIdx_eq_take_drop_succ,List.map_append,List.map_take]
 simp only [List.append_assoc]
 congr 2
 have hl : i + ((L.drop (i + 1)).map nI).length = L.length - 1 := by simp; omega
 rw [hl,List.drop_append_of_le_length (by simp <;> omega),← List.map_drop]
 have hd : L.drop (L.length - 1) = [L.getD (L.length - 1) default] := by
  rw [List.drop_eq_getElem_cons (by omega),List.drop_eq_nil_of_le (by omega)]
  simp [List.getD,List.getElem?_eq_getElem (show L.length - 1 < L.length by omega)]
 rw [hd]; rfl
theorem ap_shift {S : Store} {jl v : Nat} {L : List Nat} {J : List TV} (hL : S[jl]? = some (.cells v true (L.map nI ++ J))) {i : Nat} (hi : i < L.length) (c' : Nat) :
  appendOp false 1 8 3 S (.msl jl v 0 (i - 0) (L.length + J.length - 0) 1) (.msl jl v (if L.length + J.length = i + 1 then 0 else 0 + (i + 1) * 1) (L.length - (i + 1)) c' 1) = some (.msl jl v 0 (L.length - 1) (L.length + J.length) 1,S.set jl (.cells v true ((L.eraseIdx i).map nI ++ (nI (L.getD (L.length - 1) default) :: J)))) := by
 have hput := erase_cells (J := J) hi
 have hx : elemsTV S (.msl jl v (if L.length + J.length = i + 1 then 0 else 0 + (i + 1) * 1) (L.length - (i + 1)) c' 1) = some ((L.drop (i + 1)).map nI) := by
  simp only [elemsTV,hL,↓reduceIte,Nat.mul_one,Nat.zero_add]
  by_cases e : L.length + J.length = i + 1
  ·rw [if_pos e,show L.length - (i + 1) = 0 by omega,List.drop_eq_nil_of_le (by omega)]
   simp [sub]
  ·rw [if_neg e]
   simp only [sub,List.length_append,List.length_map,show i + 1 + (L.length - (i + 1)) ≤ L.length + J.length by omega,↓reduceIte]
   rw [List.drop_append_of_le_length (by simp; omega),List.take_append_of_le_length (by simp),← List.map_drop,List.take_of_length_le (by simp)]
 have hlen : ((L.drop (i + 1)).map nI).length = L.length - (i + 1) := by simp
 have hlo : lenOf S (.msl jl v (if L.length + J.length = i + 1 then 0 else 0 + (i + 1) * 1) (L.length - (i + 1)) c' 1) = some (L.length - (i + 1)) := rfl
 generalize TV.msl jl v (if L.length + J.length = i + 1 then 0 else 0 + (i + 1) * 1) (L.length - (i + 1)) c' 1 = x at hx hlo ⊢
 simp only [appendOp,hx,hlo,hlen,Nat.mul_one,ne_eq,not_true_eq_false,any_nI,Bool.false_eq_true,or_self,↓reduceIte,Nat.sub_zero,Nat.zero_add]
 by_cases e : L.length - (i + 1) = 0
 ·rw [if_pos e]
  have hi' : i = L.length - 1 := by omega
  have : L.drop (i + 1) = [] := List.drop_eq_nil_of_le (by omega)
  rw [this] at hput
  have hp0 : put (L.map nI ++ J) i (([] : List Nat).map nI) = L.map nI ++ J := by
   simp only [put,List.map_nil,List.append_nil,List.length_nil,Nat.add_zero,List.take_append_drop]
  rw [hp0] at hput
  obtain ⟨hlt,he⟩ := List.getElem?_eq_some_iff.1 hL
  rw [← hput,← he,List.set_getElem_self,← hi']
  rfl
 ·rw [if_neg e]
  simp only [hL,show ¬ (1 ≠ 1 ∨ v ≠ v) by simp,↓reduceIte,show i + (L.length - (i + 1)) ≤ L.length + J.length by omega,List.length_append,List.length_map,hput,show i + (L.length - (i + 1)) = L.length - 1 by omega]
  have h9 : L.length - 1 ≤ L.length + J.length := by omega
  simp [h9,show L.length ≤ L.length + J.length + 1 by omega]
theorem call39 {S : Store} {jl v : Nat} {L : List Nat} {J : List TV} (hL : S[jl]? = some (.cells v true (L.map nI ++ J))) (hll : L.length ≤ 1000000) {i : Nat} (hi : i < L.length) :
  ∃ J',(lim K).call 39 [.msl jl v 0 L.length (L.length + J.length) 1,.iv (.int .i64 i),.iv (.int .i64 (i + 1 : Nat))] S = .ret (.msl jl v 0 (L.length - 1) (L.length + J.length) 1,S.set jl (.cells v true ((L.eraseIdx i).map nI ++ J'))) ∧ J'.length = J.length + 1 := by
 have b1 := bounds3 (m := L.length) (cap := L.length + J.length) (a := i) (b := i + 1) (c := L.length) (by omega) (by omega) (by omega)
 have b2 := bounds_hi (m := L.length) (cap := L.length + J.length) (b := i) (by omega)
 have b3 := bounds_lo (m := L.length) (cap := L.length + J.length) (a := i + 1) (by omega) (by omega)
 have f1 := sl_msl hL _ _ _ b1
 have f2 := sl_msl hL _ _ _ b2
 have f3 := sl_msl hL _ _ _ b3
 have f4 := ap_shift hL hi (L.length + J.length - (i + 1))
 have hlt := lt_get hL
 have hS1 : (S.set jl (.cells v true ((L.eraseIdx i).map nI ++ (nI (L.getD (L.length - 1) default) :: J))))[jl]? = some _ := get_setS hlt _
 have b5 := bounds2 (m := L.length - 1) (cap := L.length + J.length) (a := L.length - 1) (b := L.length) (by omega) (by omega)
 have f5 := sl_msl hS1 _ _ _ b5
 have f6 : ∀ c'',clearOp [.int .i64 0] (S.set jl (.cells v true ((L.eraseIdx i).map nI ++ (nI (L.getD (L.length - 1) default) :: J)))) (.msl jl v (0 + (L.length - 1) * 1) (L.length - (L.length - 1)) c'' 1) = some (S.set jl (.cells v true ((L.eraseIdx i).map nI ++ (.iv (.int .i64 0) :: J)))) := by
  intro c''
  have h1 : L.length - (L.length - 1) = 1 := by omega
  have h2 : ¬ L.length + J.length = L.length - 1 := by omega
  have hel : ((L.eraseIdx i).map nI).length = L.length - 1 := by rw [List.length_map,List.length_eraseIdx,if_pos hi]
  have hp : put ((L.eraseIdx i).map nI ++ (nI (L.getD (L.length - 1) default) :: J)) (L.length - 1) [.iv (.int .i64 0)] = (L.eraseIdx i).map nI ++ (.iv (.int .i64 0) :: J) := by
   unfold put
   rw [← hel,List.take_left',List.drop_append]
   ·simp
   ·rfl
  simp only [clearOp,hS1,h1,h2,↓reduceIte,Nat.mul_one,Nat.zero_add,List.length_cons,List.length_nil,true_and]
  have h3 : L.length - 1 + 1 ≤ ((L.eraseIdx i).map nI ++ (nI (L.getD (L.length - 1) default) :: J)).length := by rw [List.length_append,hel]; simp <;> omega
  simp only [h3,hp,and_self,↓reduceIte,TM.flat,List.replicate,List.map_cons,List.map_nil,List.append_nil,Nat.one_ne_zero,List.set_set]
 refine ⟨.iv (.int .i64 0) :: J,call_ret' K _ (fn := t39) rfl rfl ?_,rfl⟩
 rw [show ((i + 1 : Nat) : Int) = (i : Int) + 1 by omega] at f1 f3 ⊢
 simp (config := { maxSteps := 4000000 }) (disch := omega) only [t39,go_sem,TM.undef,f1,f2,f3,f4,f5,fun env c => clV_eq _ env _ _ _ (f6 c)]
theorem keep_ge {S0 S : Store} (k : Keep [] S0 S) {i : Nat} (hi : S0.length ≤ i) (b : Block) : Keep [] S0 (S.set i b) :=
 ⟨by have := k.len; simpa using this,fun j x _ hx => by
  have := lt_get hx
  rw [get_setN (by omega)]; exact k.get j x (by simp) hx⟩
theorem keep_app {S0 S : Store} (k : Keep [] S0 S) (bs : List Block) : Keep [] S0 (S ++ bs) := k.trans (Keep.app [] S bs)
theorem ap_looseL {S : Store} {b v : Nat} {L : List Nat} (r : Nat) (hS : S[b]? = some (.cells v true (L.map nI))) (hl : L.length ≤ 1000000) :
  appendOp true 1 8 3 S (.msl b v 0 L.length L.length 1) (.iv (.sl .full [[.int .i64 (r : Int)]])) = some (.msl b (v + 1) 0 (L.length + 1) (L.length + 1) 1,S.set b (.cells (v + 1) true ((L ++ [r]).map nI))) := by
 have hs : sub (L.map nI) 0 L.length = some (L.map nI) := sub_all (by simp)
 have hr : roomy (L.length + 1) 8 = true := roomy_ok (by omega)
 have hx : elemsTV S (.iv (.sl .full [[.int .i64 (r : Int)]])) = some [nI r] := rfl
 have hlo : lenOf S (.iv (.sl .full [[.int .i64 (r : Int)]])) = some 1 := rfl
 have hn : isRefL (nI r) = false := rfl
 simp [appendOp,hx,hlo,hS,hn,hr,hs,show ¬ L.length + 1 ≤ L.length by omega]
structure Lf (S0 S : Store) (n : Nat) (L : List Nat) (dg : Nat → Int) (lv : TV) : Prop where
 keep : Keep [] S0 S
 gone : S[S0.length]? = some (.cells 0 false (cF n fun _ => bI false))
 deg : Dg S (S0.length + 2) (S0.length + 1) n dg
 lst : (L = [] ∧ lv = .iv (.sl .nil []) ∧ S.length = S0.length + 3) ∨ (L ≠ [] ∧ ∃ v,lv = .msl (S0.length + 3) v 0 L.length L.length 1 ∧ S[S0.length + 3]? = some (.cells v true (L.map nI)))
def rootsFrom (p : Pn) (i : Nat) : List Nat := ((List.range p.n).drop i).filter fun r => decide (p.to r = r)
theorem loop21a {S0 : Store} {a : Ad} {p : Pn} (hP0 : PT S0 a p) (hpn : p.n ≤ 1000000) (x1 x2 x7 x8 x9 x12 x13 x14 x15 x16 : TV) : ∀ (k i : Nat) (L : List Nat) (dg : Nat → Int) (lv : TV) (S : Store) (x10 x11 : TV),i + k = p.n → Lf S0 S p.n L dg lv → L.length ≤ i →
  ∃ y10 y11 S' lv' dg',lp' (lim K) t21L2 [.ptr a.ip 44 0,x1,x2,.msl S0.length 0 0 p.n p.n 1,.ptr (S0.length + 2) 28 0,lv,.iv (.int .i64 i),x7,x8,x9,x10,x11,x12,x13,x14,x15,x16] S
   = .ret (.exit 0,[.ptr a.ip 44 0,x1,x2,.msl S0.length 0 0 p.n p.n 1,.ptr (S0.length + 2) 28 0,lv',.iv (.int .i64 p.n),x7,x8,x9,y10,y11,x12,x13,x14,x15,x16],S') ∧
   Lf S0 S' p.n (L ++ rootsFrom p i) dg' lv' ∧ ∀ t,dg' t = if t ∈ rootsFrom p i then (deg p.n (p.near t) : Int) else dg t
 | 0,i,L,dg,lv,S,x10,x11,hk,hB,hl => by
  obtain rfl : i = p.n := by omega
  have b1 := (hP0.keep hB.keep).blk
  simp only [pcells] at b1
  have e : rootsFrom p p.n = [] := by unfold rootsFrom; rw [List.drop_eq_nil_of_le (by simp)]; rfl
  refine ⟨.iv (.bool false),x11,S,lv,dg,loop_at K _ _ t21L2.eq_1 ?_,by rw [e,List.append_nil]; exact hB,fun t => by rw [e]; simp⟩
  simp (config := { maxSteps := 4000000 }) (disch := omega) only [go_sem,b1]
 | k + 1,i,L,dg,lv,S,x10,x11,hk,hB,hl => by
  have hin : i < p.n := by omega
  have hP := hP0.keep hB.keep
  have b1 := hP.blk
  have b2 := hP.to
  have i1 := ix_cF (j := a.jt) (v := a.vt) hin
  have s1 := sub_cF (fun r => nI (p.to r)) hin
  simp only [pcells] at b1
  simp only [nI] at b2 s1
  have hrd := range_drop hin
  by_cases e : p.to i = i
  ·have em : rootsFrom p i = i :: rootsFrom p (i + 1) := by unfold rootsFrom; rw [hrd,List.filter_cons,if_pos (by simpa using e)]
   have hni : i ∉ rootsFrom p (i + 1) := by
    intro h
    unfold rootsFrom at h
    have := (List.mem_filter.1 h).1
    rw [List.mem_drop_iff_getElem] at this
    obtain ⟨q,hq,he⟩ := this
    simp at he; omega
   obtain ⟨l,c,m1,m2,m3⟩ := hP.nmap i hin
   have hd := rows_deg m2 m3
   have hq1 := lt_get hB.deg.box
   obtain ⟨S1,lv1,v1,e1,hlv1,hS1,hk1,hg1,hd1,hl1⟩ : ∃ S1 lv1 v1,appendOp true 1 8 3 S lv (.iv (.sl .full [[.int .i64 (i : Int)]])) = some (lv1,S1) ∧ lv1 = .msl (S0.length + 3) v1 0 (L.length + 1) (L.length + 1) 1 ∧ S1[S0.length + 3]? = some (.cells v1 true ((L ++ [i]).map nI)) ∧ Keep [] S0 S1 ∧ S1[S0.length]? = some (.cells 0 false (cF p.n fun _ => bI false)) ∧ Dg S1 (S0.length + 2) (S0.length + 1) p.n dg ∧ S.length ≤ S1.length := by
    rcases hB.lst with ⟨rfl,rfl,hsl⟩ | ⟨h0,v,rfl,hS⟩
    ·have e1 := ap_first (mu := true) (bytes := 8) (el := 3) (S := S) (f := fun _ => nI i) (x := .iv (.sl .full [[.int .i64 (i : Int)]])) rfl rfl rfl (roomy_ok (by omega)) (.inl rfl)
     rw [hsl] at e1
     have hap : ∀ j b,S[j]? = some b → (S ++ [Block.cells 0 true (cF 1 fun _ => nI i)])[j]? = some b := fun j b hb => by rw [List.getElem?_append_left (lt_get hb)]; exact hb
     refine ⟨_,_,_,e1,rfl,?_,keep_app hB.keep _,hap _ _ hB.gone,⟨hap _ _ hB.deg.box,hap _ _ hB.deg.row⟩,by simp⟩
     rw [← hsl]; simp [cF]
    ·have e1 := ap_looseL i hS (by omega)
     refine ⟨_,_,_,e1,rfl,get_setS (lt_get hS) _,keep_ge hB.keep (by omega) _,by rw [get_setN (by omega)]; exact hB.gone,⟨by rw [get_setN (by omega)]; exact hB.deg.box,by rw [get_setN (by omega)]; exact hB.deg.row⟩,by simp⟩
   have hlv0 : ∀ j,locV j lv = lv := by intro j; rcases hB.lst with ⟨_,rfl,_⟩ | ⟨_,v,rfl,_⟩ <;> rfl
   subst hlv1
   have hP1 := hP0.keep hk1
   have b3 := hP1.blk
   have b4 := hP1.near
   have b5 := hd1.box
   have b6 := hd1.row
   have i2 := ix_cF (j := a.jn) (v := a.vn) hin
   have s2 := sub_cF (fun r => TV.map (a.nm r)) hin
   have i3 := ix_cF (j := S0.length + 1) (v := 0) hin
   have s3 := put_cF (fun r => vI (dg r)) (vI (deg p.n (p.near i) : Nat)) hin
   obtain ⟨l',c',m1',m2',m3'⟩ := hP1.nmap i hin
   have hlen := lenV_map m1'
   rw [rows_deg m2' m3'] at hlen
   have hB' : Lf S0 (S1.set (S0.length + 1) (.cells 0 false (cF p.n fun r => vI (upd dg i (deg p.n (p.near i) : Nat) r)))) p.n (L ++ [i]) (upd dg i (deg p.n (p.near i) : Nat)) (.msl (S0.length + 3) v1 0 (L.length + 1) (L.length + 1) 1) :=
    ⟨keep_ge hk1 (by omega) _,by rw [get_setN (by omega)]; exact hg1,⟨by rw [get_setN (by omega)]; exact hd1.box,get_setS (by omega) _⟩,.inr ⟨by simp,v1,by simp,by rw [get_setN (by omega)]; exact hS1⟩⟩
   obtain ⟨y10,y11,S',lv',dg',ih,hB2,hdg⟩ := loop21a hP0 hpn x1 x2 x7 x8 x9 x12 x13 x14 x15 x16 k (i + 1) (L ++ [i]) _ _ _ (.iv (.bool true)) (.iv (.bool true)) (by omega) hB' (by simp; omega)
   rw [show ((i + 1 : Nat) : Int) = (i : Int) + 1 by omega] at ih
   refine ⟨y10,y11,S',lv',dg',loop_at K _ _ t21L2.eq_1 ?_,by rw [em]; simpa using hB2,fun t => ?_⟩
   ·rw [e] at s1
    rw [upd_comp vI] at s3
    simp only [pcells] at b3
    simp only [vI] at b6 s3 ih
    simp (config := { maxSteps := 4000000 }) (disch := omega) only [go_sem,b1,b2,i1,s1,hlv0,e1,b3,b4,b5,b6,i2,s2,i3,s3,hlen,wrap_i64]
    exact congrArg er ih
   ·rw [hdg t,em]
    by_cases ht : t ∈ rootsFrom p (i + 1)
    ·rw [if_pos ht,if_pos (by simp [ht])]
    ·rw [if_neg ht]
     by_cases hti : t = i
     ·rw [hti,upd_same,if_pos (by simp)]
     ·rw [upd_ne _ _ hti,if_neg (by simp [ht,hti])]
  ·have em : rootsFrom p i = rootsFrom p (i + 1) := by unfold rootsFrom; rw [hrd,List.filter_cons,if_neg (by simpa using e)]
   obtain ⟨y10,y11,S',lv',dg',ih,hB2,hdg⟩ := loop21a hP0 hpn x1 x2 x7 x8 x9 x12 x13 x14 x15 x16 k (i + 1) L dg lv S (.iv (.bool true)) (.iv (.bool false)) (by omega) hB (by omega)
   rw [show ((i + 1 : Nat) : Int) = (i : Int) + 1 by omega] at ih
   refine ⟨y10,y11,S',lv',dg',loop_at K _ _ t21L2.eq_1 ?_,by rw [em]; exact hB2,fun t => by rw [em]; exact hdg t⟩
   have e' : ¬ ((p.to i : Int) = (i : Int)) := by omega
   rcases hB.lst with ⟨_,rfl,_⟩ | ⟨_,v,rfl,_⟩
   ·simp (config := { maxSteps := 4000000 }) (disch := omega) only [go_sem,b1,b2,i1,s1,e',wrap_i64]
    exact congrArg er ih
   ·simp (config := { maxSteps := 4000000 }) (disch := omega) only [go_sem,b1,b2,i1,s1,e',wrap_i64]
    exact congrArg er ih
structure Odr (S0 S : Store) (n : Nat) (L : List Nat) (J : List TV) (v : Nat) (out : List Nat) (jo : Nat) (dg : Nat → Int) : Prop where
 keep : Keep [] S0 S
 gone : S[S0.length]? = some (.cells 0 false (cF n fun r => bI (decide (r ∈ out))))
 deg : Dg S (S0.length + 2) (S0.length + 1) n dg
 lst : S[S0.length + 3]? = some (.cells v true (L.map nI ++ J))
 tok : At 1 3 (encN out) jo S
 jo : out ≠ [] → S0.length + 4 ≤ jo
def e21 (a : Ad) (s0 n : Nat) (x1 xo lv x6 x7 x8 x9 x10 x11 x12 x13 x14 x15 x16 : TV) : List TV := [.ptr a.ip 44 0,x1,xo,.msl s0 0 0 n n 1,.ptr (s0 + 2) 28 0,lv,x6,x7,x8,x9,x10,x11,x12,x13,x14,x15,x16]
theorem Odr.it {S0 S : Store} {n : Nat} {L : List Nat} {J : List TV} {v : Nat} {out : List Nat} {jo : Nat} {dg : Nat → Int} (h : Odr S0 S n L J v out jo dg) {bi : Nat} {m : Option Nat} {x : Nat} {y : List Nat} {z : Nat} (hb : S[bi]? = some (.mit m x y z)) (hbi : S0.length ≤ bi) (b' : Block) : Odr S0 (S.set bi b') n L J v out jo dg :=
 ⟨keep_ge h.keep hbi _,by rw [get_setN (blk_ne hb h.gone (by simp))]; exact h.gone,⟨by rw [get_setN (blk_ne hb h.deg.box (by simp))]; exact h.deg.box,by rw [get_setN (blk_ne hb h.deg.row (by simp))]; exact h.deg.row⟩,by rw [get_setN (blk_ne hb h.lst (by simp))]; exact h.lst,fun ho => by rw [get_setN (blk_ne hb (h.tok ho) (by simp))]; exact h.tok ho,h.jo⟩
theorem Odr.setD {S0 S : Store} {n : Nat} {L : List Nat} {J : List TV} {v : Nat} {out : List Nat} {jo : Nat} {dg : Nat → Int} (h : Odr S0 S n L J v out jo dg) (t : Nat) (w : Int) : Odr S0 (S.set (S0.length + 1) (.cells 0 false (cF n fun r => vI (upd dg t w r)))) n L J v out jo (upd dg t w) := by
 have hl := lt_get h.deg.row
 refine ⟨keep_ge h.keep (by omega) _,by rw [get_setN (by omega)]; exact h.gone,⟨by rw [get_setN (by omega)]; exact h.deg.box,get_setS hl _⟩,by rw [get_setN (by omega)]; exact h.lst,fun ho => ?_,h.jo⟩
 have := h.jo (fun e => ho (by rw [e]; rfl))
 rw [get_setN (by omega)]; exact h.tok ho
theorem loop21t {S0 : Store} {a : Ad} {p : Pn} (hP0 : PT S0 a p) (hpn : p.n ≤ 1000000) {r : Nat} (hr : r < p.n) {bi c : Nat} (hbi : S0.length ≤ bi) {l : List (Nat × Int × Int)} (ho : RowsOK l c) (hf : ∀ t : Int,hasR l t = true ↔ ∃ s : Nat,t = s ∧ s < p.n ∧ p.near r s = true) {L : List Nat} {J : List TV} {v : Nat} {out : List Nat} {jo : Nat} (x1 xo lv x6 x7 x8 x10 x11 x12 x13 : TV) :
  ∀ (k : Nat) (seen : List Nat) (dg : Nat → Int) (S : Store) (x9 x15 x16 : TV),left l seen < k → Odr S0 S p.n L J v out jo dg → S[bi]? = some (.mit (some (a.nm r)) c seen c) → S[a.nm r]? = some (.mp (mpR vI l) c) →
  (lp' (lim K) t21L0 (e21 a S0.length p.n x1 xo lv x6 x7 x8 x9 x10 x11 x12 x13 (.it bi) x15 x16) S).All fun q => ∃ dg' y9 y15 y16,q.1 = .exit 4 ∧ q.2.1 = e21 a S0.length p.n x1 xo lv x6 x7 x8 y9 x10 x11 x12 x13 (.it bi) y15 y16 ∧ Odr S0 q.2.2 p.n L J v out jo dg' ∧
   (∀ t : Nat,((∃ z ∈ l,z.1 ∉ seen ∧ z.2.1 = t) ∧ t ∉ out → dg' t = IntKind.i64.wrap (dg t - 1)) ∧ (¬ ((∃ z ∈ l,z.1 ∉ seen ∧ z.2.1 = t) ∧ t ∉ out) → dg' t = dg t))
 | 0,seen,dg,S,x9,x15,x16,hk,hO,hb,hm => by omega
 | k + 1,seen,dg,S,x9,x15,x16,hk,hO,hb,hm => by
  unfold e21
  refine lp_all t21L0.eq_1 ?_
  simp (config := { maxSteps := 4000000 }) (disch := omega) only [go_sem]
  refine rnd_next_all hb hm ho.born (Nat.le_refl _) (fun hall => ?_) (fun z hz hs => ?_)
  ·simp (config := { maxSteps := 4000000 }) (disch := omega) only [go_sem]
   refine all_ret ⟨dg,_,_,_,rfl,rfl,hO,fun t => ⟨?_,fun _ => rfl⟩⟩
   rintro ⟨⟨z,hz,hs,_⟩,_⟩
   exact absurd (hall z hz) hs
  ·have hlt := left_lt hz hs
   have hbm : bi ≠ a.nm r := blk_ne hb hm (by simp)
   have hO' := hO.it hb hbi (.mit (some (a.nm r)) c (seen ++ [z.1]) c)
   have hb' : (S.set bi (.mit (some (a.nm r)) c (seen ++ [z.1]) c))[bi]? = _ := get_setS (lt_get hb) _
   have hm' : (S.set bi (.mit (some (a.nm r)) c (seen ++ [z.1]) c))[a.nm r]? = some (.mp (mpR vI l) c) := by rw [get_setN hbm]; exact hm
   have he := enV_it hb' hm' hz ho.once
   generalize S.set bi (.mit (some (a.nm r)) c (seen ++ [z.1]) c) = S1 at *
   obtain ⟨t,ht,htn,htf⟩ := key_at hf hz
   have b1 := hO'.gone
   have i1 := ix_cF (j := S0.length) (v := 0) htn
   have s1 := sub_cF (fun r => bI (decide (r ∈ out))) htn
   simp only [bI] at b1 s1
   rw [ht] at he
   have hun : ∀ s : Nat,(∃ w ∈ l,w.1 ∉ seen ∧ w.2.1 = s) ↔ s = t ∨ ∃ w ∈ l,w.1 ∉ seen ++ [z.1] ∧ w.2.1 = s := by
    intro s
    constructor
    ·rintro ⟨w,hw,hws,hk⟩
     by_cases e : w.1 = z.1
     ·have := nodup_eq ho.once hw hz e
      subst this
      left; omega
     ·exact .inr ⟨w,hw,by simp [hws,e],hk⟩
    ·rintro (rfl | ⟨w,hw,hws,hk⟩)
     ·exact ⟨z,hz,hs,ht⟩
     ·exact ⟨w,hw,fun e => hws (by simp [e]),hk⟩
   have hnt : ¬ ∃ w ∈ l,w.1 ∉ seen ++ [z.1] ∧ w.2.1 = (t : Int) := by
    rintro ⟨w,hw,hws,hk⟩
    have hkk : w.2.1 = z.2.1 := by rw [hk,ht]
    have : w = z := by
     have key : ∀ l : List (Nat × Int × Int),(l.map (·.2.1)).Nodup → w ∈ l → z ∈ l → w = z := by
      intro l
      induction l with
      | nil => intro _ h; cases h
      | cons b r ih =>
       intro hnd h1 h2
       rw [List.map_cons,List.nodup_cons] at hnd
       rcases List.mem_cons.1 h1 with e1 | h1'
       ·rcases List.mem_cons.1 h2 with e2 | h2'
        ·rw [e1,e2]
        ·exact absurd (by rw [← e1,hkk]; exact List.mem_map_of_mem (f := fun y : Nat × Int × Int => y.2.1) h2') hnd.1
       ·rcases List.mem_cons.1 h2 with e2 | h2'
        ·exact absurd (by rw [← e2,← hkk]; exact List.mem_map_of_mem (f := fun y : Nat × Int × Int => y.2.1) h1') hnd.1
        ·exact ih hnd.2 h1' h2'
     exact key l ho.keys hw hz
    exact hws (by simp [this])
   rw [ht]
   by_cases hout : t ∈ out
   ·rw [decide_eq_true hout] at s1
    have ih := loop21t hP0 hpn hr hbi ho hf x1 xo lv x6 x7 x8 x10 x11 x12 x13 k (seen ++ [z.1]) dg S1 (.iv (.int .i64 t)) (.iv (.bool true)) (.iv (.bool false)) (by omega) hO' hb' hm'
    unfold e21 at ih
    simp (config := { maxSteps := 4000000 }) (disch := omega) only [go_sem,he,b1,i1,s1]
    refine all_er (Out.all_mono ?_ ih)
    rintro q ⟨dg',y9,y15,y16,e1,e2,h1,h2⟩
    refine ⟨dg',y9,y15,y16,e1,e2,h1,fun s => ⟨fun hs => (h2 s).1 ⟨?_,hs.2⟩,fun hs => (h2 s).2 fun h => hs ⟨(hun s).2 (.inr h.1),h.2⟩⟩⟩
    rcases (hun s).1 hs.1 with rfl | h
    ·exact absurd hout hs.2
    ·exact h
   ·rw [decide_eq_false hout] at s1
    have b2 := hO'.deg.box
    have b3 := hO'.deg.row
    have i2 := ix_cF (j := S0.length + 1) (v := 0) htn
    have s2 := sub_cF (fun r => vI (dg r)) htn
    have s3 := put_cF (fun r => vI (dg r)) (vI (IntKind.i64.wrap (dg t - 1))) htn
    have hO2 := hO'.setD t (IntKind.i64.wrap (dg t - 1))
    rw [upd_comp vI] at s3
    have hm3 : (S1.set (S0.length + 1) (.cells 0 false (cF p.n fun r => vI (upd dg t (IntKind.i64.wrap (dg t - 1)) r))))[a.nm r]? = some (.mp (mpR vI l) c) := by rw [get_setN (blk_ne b3 hm' (by simp))]; exact hm'
    have hb3 : (S1.set (S0.length + 1) (.cells 0 false (cF p.n fun r => vI (upd dg t (IntKind.i64.wrap (dg t - 1)) r))))[bi]? = some (.mit (some (a.nm r)) c (seen ++ [z.1]) c) := by rw [get_setN (blk_ne b3 hb' (by simp))]; exact hb'
    have ih := loop21t hP0 hpn hr hbi ho hf x1 xo lv x6 x7 x8 x10 x11 x12 x13 k (seen ++ [z.1]) _ _ (.iv (.int .i64 t)) (.iv (.bool true)) (.iv (.bool true)) (by omega) hO2 hb3 hm3
    unfold e21 at ih
    simp only [vI] at b3 s2 s3 ih
    simp (config := { maxSteps := 4000000 }) (disch := omega) only [go_sem,he,b1,i1,s1,b2,b3,i2,s2,s3]
    refine all_er (Out.all_mono ?_ ih)
    rintro q ⟨dg',y9,y15,y16,e1,e2,h1,h2⟩
    refine ⟨dg',y9,y15,y16,e1,e2,h1,fun s => ⟨fun hs => ?_,fun hs => ?_⟩⟩
    ·rcases (hun s).1 hs.1 with rfl | h
     ·rw [(h2 s).2 fun h => hnt h.1,upd_same]
     ·have hst : s ≠ t := fun e => hnt (by rw [← e]; exact h)
      rw [(h2 s).1 ⟨h,hs.2⟩,upd_ne _ _ hst]
    ·have hst : s ≠ t := fun e => hs ⟨(hun s).2 (.inl e),by rw [e]; exact hout⟩
     rw [(h2 s).2 fun h => hs ⟨(hun s).2 (.inr h.1),h.2⟩,upd_ne _ _ hst]
structure OF (p : Pn) (L out : List Nat) (dg : Nat → Int) : Prop where
 ndL : L.Nodup
 ndO : out.Nodup
 dis : ∀ t,t ∈ L → t ∉ out
 all : ∀ t,(t ∈ L ∨ t ∈ out) ↔ 32 ≤ t ∧ t < p.n ∧ p.to t = t
 dgs : ∀ t,t ∈ L → dg t = (deg p.n (fun s => p.near t s && decide (s ∉ out)) : Nat)
 low : Part p → ∀ q,q < out.length → deg p.n (fun s => p.near (out.getD q default) s && decide (s ∉ out.take q)) < 24
theorem deg_minus {n : Nat} {f : Nat → Bool} {r : Nat} (hr : r < n) (hf : f r = true) : deg n (fun t => f t && decide (t ≠ r)) + 1 = deg n f := by
 unfold deg
 induction n with
 | zero => omega
 | succ n ih =>
  rw [List.range_succ,List.filter_append,List.filter_append,List.length_append,List.length_append]
  by_cases e : r = n
  ·subst e
   have h1 : (List.range r).filter (fun t => f t && decide (t ≠ r)) = (List.range r).filter f := by
    apply List.filter_congr
    intro t ht
    have := List.mem_range.1 ht
    simp [show t ≠ r by omega]
   rw [h1]
   simp [List.filter_cons,hf]
  ·have ih := ih (by omega)
   have : ∀ x : Bool,(f n && decide (n ≠ r)) = f n := fun _ => by simp [show n ≠ r by omega]
   simp only [List.filter_cons,this true,List.filter_nil]
   omega
theorem OF.step {p : Pn} {ρ d : Nat → Nat} (hI : Inv p ρ d) (hpn : p.n ≤ 1000000) {L out : List Nat} {dg dg' : Nat → Int} (h : OF p L out dg) {q : Nat} (hq : q < L.length) (hlow : Part p → dg (L.getD q default) < 24)
  (hd : ∀ t : Nat,(p.near (L.getD q default) t = true ∧ t < p.n ∧ t ∉ out ++ [L.getD q default] → dg' t = IntKind.i64.wrap (dg t - 1)) ∧ (¬ (p.near (L.getD q default) t = true ∧ t < p.n ∧ t ∉ out ++ [L.getD q default]) → dg' t = dg t)) : OF p (L.eraseIdx q) (out ++ [L.getD q default]) dg' := by
 have hm := getD_mem hq
 have hno := h.dis _ hm
 obtain ⟨h32,hrn,hrr⟩ := (h.all _).1 (.inl hm)
 have hgetD : L.getD q default = L[q] := by simp [List.getD,List.getElem?_eq_getElem hq]
 have hs : L.take q ++ L[q] :: L.drop (q + 1) = L := by rw [List.getElem_cons_drop,List.take_append_drop]
 have hmem : ∀ t,t ∈ L.eraseIdx q ↔ t ∈ L ∧ t ≠ L.getD q default := by
  intro t
  have nd := h.ndL
  rw [hgetD,List.eraseIdx_eq_take_drop_succ,List.mem_append]
  rw [← hs,List.nodup_append,List.nodup_cons] at nd
  obtain ⟨_,⟨n1,_⟩,n2⟩ := nd
  have ht : t ∈ L ↔ t ∈ L.take q ∨ t = L[q] ∨ t ∈ L.drop (q + 1) := by
   rw [← List.mem_cons,← List.mem_append,hs]
  rw [ht]
  constructor
  ·rintro (h1 | h1)
   ·exact ⟨.inl h1,fun e => n2 t h1 L[q] List.mem_cons_self e⟩
   ·exact ⟨.inr (.inr h1),fun e => n1 (by rw [← e]; exact h1)⟩
  ·rintro ⟨h1 | h1 | h1,h2⟩
   ·exact .inl h1
   ·exact absurd h1 h2
   ·exact .inr h1
 generalize L.getD q default = r at *
 refine ⟨h.ndL.eraseIdx q,?_,fun t ht => ?_,fun t => ?_,fun t ht => ?_,fun hp k hk => ?_⟩
 ·rw [List.nodup_append]
  exact ⟨h.ndO,by simp,fun x hx y hy e => hno (by simp at hy; rw [← hy,← e]; exact hx)⟩
 ·have := (hmem t).1 ht
  simp only [List.mem_append,List.mem_singleton,not_or]
  exact ⟨h.dis t this.1,this.2⟩
 ·rw [← h.all t,hmem t]
  simp only [List.mem_append,List.mem_singleton]
  constructor
  ·rintro (h1 | h1 | h1)
   ·exact .inl h1.1
   ·exact .inr h1
   ·rw [h1]; exact .inl hm
  ·rintro (h1 | h1)
   ·by_cases e : t = r
    ·exact .inr (.inr e)
    ·exact .inl ⟨h1,e⟩
   ·exact .inr (.inl h1)
 ·have ht2 := (hmem t).1 ht
  have hto := h.dis t ht2.1
  obtain ⟨_,htn,_⟩ := (h.all t).1 (.inl ht2.1)
  have hdt := h.dgs t ht2.1
  have hnt : t ∉ out ++ [r] := by simp [hto,ht2.2]
  have efn : ∀ s,(p.near t s && decide (s ∉ out ++ [r])) = ((p.near t s && decide (s ∉ out)) && decide (s ≠ r)) := by
   intro s
   by_cases a : s ∈ out <;> by_cases b : s = r <;> simp [a,b]
  rw [deg_congr fun s _ => efn s]
  cases hnr : p.near r t with
  | true =>
   have htr := hI.sym r t hrn htn hnr
   rw [(hd t).1 ⟨hnr,htn,hnt⟩]
   have := deg_minus (n := p.n) (f := fun s => p.near t s && decide (s ∉ out)) hrn (by simp [htr,hno])
   have hle := deg_le p.n (fun s => p.near t s && decide (s ∉ out))
   rw [wrap_i64 (by omega)]
   omega
  | false =>
   have htr := hI.nsym hrn htn hnr
   rw [(hd t).2 (by rw [hnr]; simp),hdt]
   congr 1
   refine deg_congr fun s _ => ?_
   by_cases b : s = r
   ·rw [b,htr]; simp
   ·simp [b]
 ·rw [List.length_append,List.length_singleton] at hk
  by_cases e : k = out.length
  ·subst e
   have h1 : (out ++ [r]).getD out.length default = r := by simp
   have h2 : (out ++ [r]).take out.length = out := by simp
   rw [h1,h2]
   have := hlow hp
   rw [h.dgs r hm] at this
   omega
  ·have hk' : k < out.length := by omega
   have h1 : (out ++ [r]).getD k default = out.getD k default := by simp [List.getD,List.getElem?_append_left hk']
   have h2 : (out ++ [r]).take k = out.take k := List.take_append_of_le_length (by omega)
   rw [h1,h2]
   exact h.low hp k hk'
theorem OF.high {p : Pn} {ρ d : Nat → Nat} (hI : Inv p ρ d) {L out : List Nat} {dg : Nat → Int} (h : OF p L out dg) (h0 : 0 < L.length) (hhi : ∀ q,q < L.length → ¬ dg (L.getD q default) < 24) : ¬ Part p := by
 intro hp
 obtain ⟨t,ht,hdt⟩ := hp (fun t => decide (t ∈ L)) (fun t ht => by
  have := (h.all t).1 (.inl (of_decide_eq_true ht)); exact this) ⟨L.getD 0 default,by simp only [decide_eq_true_eq]; exact getD_mem h0⟩
 have htL := of_decide_eq_true ht
 obtain ⟨q,hq,he⟩ := List.getElem_of_mem htL
 have h1 := hhi q hq
 have h2 : L.getD q default = t := by simp [List.getD,List.getElem?_eq_getElem hq,he]
 rw [h2,h.dgs t htL] at h1
 have h3 : deg p.n (fun s => p.near t s && decide (s ∉ out)) ≤ deg p.n (fun s => p.near t s && (decide (s < 32) || decide (s ∈ L))) := by
  refine deg_mono fun s hs hg => ?_
  simp only [Bool.and_eq_true,decide_eq_true_eq,Bool.or_eq_true] at hg ⊢
  refine ⟨hg.1,?_⟩
  obtain ⟨_,htn,_⟩ := (h.all t).1 (.inl htL)
  have hv := hI.root s t hs htn (hI.sym t s htn hs hg.1)
  by_cases h32 : s < 32
  ·exact .inl h32
  ·rcases (h.all s).2 ⟨by omega,hs,hv.1⟩ with h4 | h4
   ·exact .inr h4
   ·exact absurd h4 hg.2
 omega
theorem loop21 {S0 : Store} {a : Ad} {p : Pn} {ρ d : Nat → Nat} (hP0 : PT S0 a p) (hI : Inv p ρ d) (hpn : p.n ≤ 1000000) (x1 x6 : TV) :
  ∀ (k : Nat) (L : List Nat) (J : List TV) (v : Nat) (out : List Nat) (jo : Nat) (dg : Nat → Int) (S : Store) (x7 x8 x9 x10 x11 x12 x13 x14 x15 x16 : TV),L.length = k → Odr S0 S p.n L J v out jo dg → OF p L out dg → L.length + out.length ≤ 1000000 →
  (lp' (lim K) t21L1 (e21 a S0.length p.n x1 (acc jo (encN out)) (.msl (S0.length + 3) v 0 L.length (L.length + J.length) 1) x6 x7 x8 x9 x10 x11 x12 x13 x14 x15 x16) S).All fun q => ∃ out' jo' dg' y5 y7 y8 y9 y12 y13 y14 y15 y16,q.1 = .exit 2 ∧
   q.2.1 = e21 a S0.length p.n x1 (acc jo' (encN out')) y5 x6 y7 y8 y9 x10 x11 y12 y13 y14 y15 y16 ∧ Keep [] S0 q.2.2 ∧ OF p [] out' dg'
 | 0,L,J,v,out,jo,dg,S,x7,x8,x9,x10,x11,x12,x13,x14,x15,x16,hk,hO,hF,hlen => by
  obtain rfl : L = [] := List.eq_nil_of_length_eq_zero hk
  unfold e21
  refine lp_all t21L1.eq_1 ?_
  simp (config := { maxSteps := 4000000 }) (disch := omega) only [go_sem,List.length_nil]
  exact all_ret ⟨out,jo,dg,_,_,_,_,_,_,_,_,_,rfl,rfl,hO.keep,hF⟩
 | k + 1,L,J,v,out,jo,dg,S,x7,x8,x9,x10,x11,x12,x13,x14,x15,x16,hk,hO,hF,hlen => by
  have hL := hO.lst
  have hLn : ∀ x ∈ L,x < p.n := fun x hx => ((hF.all x).1 (.inl hx)).2.1
  obtain ⟨w,c33,hw⟩ := call33 hO.deg hL hLn (by omega) (L.length + J.length)
  obtain ⟨q,hq,hat,hlow⟩ : ∃ q,q < L.length ∧ (w = q ∨ w = -1 ∧ ∃ m : Nat,(lim K).call 36 [.msl (S0.length + 3) v 0 L.length (L.length + J.length) 1,.fn 37 [] [.ptr (S0.length + 2) 28 0]] S = .ret (.iv (.int .i64 m),S) ∧ Pure K 35 [.iv (.sl .no (encN L)),.iv (.int .i64 m)] (.iv (.int .i64 q))) ∧ (Part p → dg (L.getD q default) < 24) := by
   rcases hw with ⟨rfl,hw⟩ | ⟨q,rfl,h1,h2⟩
   ·obtain ⟨m,c36,hm⟩ := call36 hO.deg hL hLn (by omega) (by omega) (L.length + J.length)
    obtain ⟨q,c35,hq⟩ := call35 (t := .no) (L := L) (by omega) hm
    exact ⟨q,hq,.inr ⟨rfl,m,c36,c35⟩,fun hp => absurd hp (hF.high hI (by omega) hw)⟩
   ·exact ⟨q,h1,.inl rfl,fun _ => h2⟩
  have hm := getD_mem hq
  obtain ⟨h32,hrn,hrr⟩ := (hF.all _).1 (.inl hm)
  have hrno := hF.dis _ hm
  have i1 := ix_L (jl := S0.length + 3) (v := v) (cap := L.length + J.length) hq
  have s1 := sub_LJ (J := J) hq
  obtain ⟨J',c39,hJ'⟩ := call39 hL (by omega) hq
  have hel := elems_L hL (L.length + J.length)
  have hse := @OF.step p ρ d hI hpn L out dg
  have hle : (L.eraseIdx q).length = L.length - 1 := by rw [List.length_eraseIdx,if_pos hq]
  generalize hr : L.getD q default = r at *
  -- the row without it
  have g0 := lt_get hL
  have a1 : (S.set (S0.length + 3) (.cells v true ((L.eraseIdx q).map nI ++ J')))[S0.length]? = some (.cells 0 false (cF p.n fun r => bI (decide (r ∈ out)))) := by rw [get_setN (by omega)]; exact hO.gone
  have i2 := ix_cF (j := S0.length) (v := 0) hrn
  have s2 := put_cF (fun r => bI (decide (r ∈ out))) (bI true) hrn
  rw [upd_comp bI] at s2
  have hgn : (fun t => bI (upd (fun t => decide (t ∈ out)) r true t)) = fun t => bI (decide (t ∈ out ++ [r])) := by
   funext t
   by_cases e : t = r
   ·subst e; simp [upd_same]
   ·rw [upd_ne _ _ e]; simp [e]
  rw [hgn] at s2
  have hO2 : Keep [] S0 ((S.set (S0.length + 3) (.cells v true ((L.eraseIdx q).map nI ++ J'))).set S0.length (.cells 0 false (cF p.n fun t => bI (decide (t ∈ out ++ [r]))))) := keep_ge (keep_ge hO.keep (by omega) _) (Nat.le_refl _) _
  have a2 : ((S.set (S0.length + 3) (.cells v true ((L.eraseIdx q).map nI ++ J'))).set S0.length (.cells 0 false (cF p.n fun t => bI (decide (t ∈ out ++ [r])))))[S0.length + 3]? = some (.cells v true ((L.eraseIdx q).map nI ++ J')) := by rw [get_setN (by omega),get_setS g0]
  have a3 : ((S.set (S0.length + 3) (.cells v true ((L.eraseIdx q).map nI ++ J'))).set S0.length (.cells 0 false (cF p.n fun t => bI (decide (t ∈ out ++ [r])))))[S0.length]? = some (.cells 0 false (cF p.n fun t => bI (decide (t ∈ out ++ [r])))) := get_setS (by rw [List.length_set]; exact lt_get hO.gone) _
  have a4 : Dg ((S.set (S0.length + 3) (.cells v true ((L.eraseIdx q).map nI ++ J'))).set S0.length (.cells 0 false (cF p.n fun t => bI (decide (t ∈ out ++ [r]))))) (S0.length + 2) (S0.length + 1) p.n dg := ⟨by rw [get_setN (by omega),get_setN (by omega)]; exact hO.deg.box,by rw [get_setN (by omega),get_setN (by omega)]; exact hO.deg.row⟩
  have a5 : At 1 3 (encN out) jo ((S.set (S0.length + 3) (.cells v true ((L.eraseIdx q).map nI ++ J'))).set S0.length (.cells 0 false (cF p.n fun t => bI (decide (t ∈ out ++ [r]))))) := fun ho => by
   have := hO.jo (fun e => ho (by rw [e]; rfl))
   rw [get_setN (by omega),get_setN (by omega)]; exact hO.tok ho
  have a6 : ((S.set (S0.length + 3) (.cells v true ((L.eraseIdx q).map nI ++ J'))).set S0.length (.cells 0 false (cF p.n fun t => bI (decide (t ∈ out ++ [r]))))).length = S.length := by simp
  generalize hS2 : (S.set (S0.length + 3) (.cells v true ((L.eraseIdx q).map nI ++ J'))).set S0.length (.cells 0 false (cF p.n fun t => bI (decide (t ∈ out ++ [r])))) = S2 at *
  have e1 := ap_g (b := 8) (c := [.int .i64 (r : Int)]) (t := .full) a5 ⟨rfl,rfl⟩ (encN_el out) (roomy_ok (by rw [encN_len]; omega))
  have gk := gS_keep 1 3 (encN out) jo S2
  have gt := gS_at a5 [.int .i64 (r : Int)]
  have gj : S0.length + 4 ≤ gI (encN out) jo S2 := by
   unfold gI
   split
   ·omega
   ·rename_i h0; exact hO.jo (fun e => h0 (by rw [e]; rfl))
  rw [encN_app] at e1 gt
  have ht : ∀ i b,S2[i]? = some b → (∀ n w e,b ≠ Block.tok n w e) → (gS 1 3 (encN out) jo S2)[i]? = some b := fun i b hb hn => gk.get i b (fun hi => by
   obtain ⟨n,w,e,h1⟩ := own_tok a5 i hi
   rw [hb] at h1; exact hn n w e (Option.some.inj h1)) hb
  have hO3 : Odr S0 (gS 1 3 (encN out) jo S2) p.n (L.eraseIdx q) J' v (out ++ [r]) (gI (encN out) jo S2) dg :=
   ⟨⟨by have := hO2.len; have := gk.len; omega,fun i b _ hb => gk.get i b (fun hi => by
    unfold own1 at hi
    split at hi
    ·cases hi
    ·rename_i h0
     simp at hi
     have := hO.jo (fun e => h0 (by rw [e]; rfl))
     have := lt_get hb
     omega) (hO2.get i b (by simp) hb)⟩,ht _ _ a3 (by simp),⟨ht _ _ a4.box (by simp),ht _ _ a4.row (by simp)⟩,ht _ _ a2 (by simp),gt,fun _ => gj⟩
  generalize hS3 : gS 1 3 (encN out) jo S2 = S3 at *
  generalize hj3 : gI (encN out) jo S2 = jo3 at *
  have hP3 := hP0.keep hO3.keep
  have b1 := hP3.blk
  have b2 := hP3.near
  have i3 := ix_cF (j := a.jn) (v := a.vn) hrn
  have s3 := sub_cF (fun r => TV.map (a.nm r)) hrn
  simp only [pcells] at b1
  obtain ⟨l,c,m1,m2,m3⟩ := hP3.nmap r hrn
  have rg := rangeV_map m1
  have k4 := Keep.app [] S3 [Block.mit (some (a.nm r)) c [] c]
  have hO4 : Odr S0 (S3 ++ [Block.mit (some (a.nm r)) c [] c]) p.n (L.eraseIdx q) J' v (out ++ [r]) jo3 dg :=
   ⟨hO3.keep.trans k4,k4.get _ _ (by simp) hO3.gone,⟨k4.get _ _ (by simp) hO3.deg.box,k4.get _ _ (by simp) hO3.deg.row⟩,k4.get _ _ (by simp) hO3.lst,fun ho => k4.get _ _ (by simp) (hO3.tok ho),hO3.jo⟩
  have l1 := fun x13 => loop21t hP0 hpn hrn (bi := S3.length) (by have := hO3.keep.len; omega) m2 m3 x1 (acc jo3 (encN (out ++ [r]))) (.msl (S0.length + 3) v 0 (L.length - 1) (L.length + J.length) 1) x6 (.iv (.int .i64 q)) (.iv (.int .i64 r)) x10 x11 (.iv (.bool true)) x13 (left l [] + 1) [] dg _ x9 x15 x16 (by omega) hO4 (get_app1 _ _) (k4.get _ _ (by simp) m1)
  have fin : ∀ dg',(∀ t : Nat,((∃ z ∈ l,z.1 ∉ ([] : List Nat) ∧ z.2.1 = t) ∧ t ∉ out ++ [r] → dg' t = IntKind.i64.wrap (dg t - 1)) ∧ (¬ ((∃ z ∈ l,z.1 ∉ ([] : List Nat) ∧ z.2.1 = t) ∧ t ∉ out ++ [r]) → dg' t = dg t)) → OF p (L.eraseIdx q) (out ++ [r]) dg' := by
   intro dg' hd
   have := hse (dg' := dg') hF hq (by rw [hr]; exact hlow) (fun t => by
    rw [hr]
    have e : (∃ z ∈ l,z.1 ∉ ([] : List Nat) ∧ z.2.1 = (t : Int)) ↔ p.near r t = true ∧ t < p.n := by
     constructor
     ·rintro ⟨z,hz,_,h3⟩
      obtain ⟨s,hs,hsn,hsf⟩ := key_at m3 hz
      have : s = t := by omega
      subst this; exact ⟨hsf,hsn⟩
     ·rintro ⟨h1,h2⟩
      obtain ⟨z,hz,hzt⟩ := List.mem_map.1 (hasR_iff.1 ((has_at m3 h2).trans h1))
      exact ⟨z,hz,by simp,hzt⟩
    have h1 := hd t
    rw [e] at h1
    exact ⟨fun h => h1.1 ⟨⟨h.1,h.2.1⟩,h.2.2⟩,fun h => h1.2 fun h2 => h ⟨h2.1.1,h2.1.2,h2.2⟩⟩)
   rw [hr] at this; exact this
  have ih := fun dg' S' x7 x8 x9 x12 x13 x14 x15 x16 => loop21 hP0 hI hpn x1 x6 k (L.eraseIdx q) J' v (out ++ [r]) jo3 dg' S' x7 x8 x9 x10 x11 x12 x13 x14 x15 x16 (by omega)
  rw [hle] at ih
  rw [show L.length - 1 + J'.length = L.length + J.length by omega] at ih
  rw [show ((q + 1 : Nat) : Int) = (q : Int) + 1 by omega] at c39
  simp only [nI] at hL s1
  simp only [bI] at a1 s2 hS2
  unfold e21 at l1 ih ⊢
  refine lp_all t21L1.eq_1 ?_
  rcases hat with rfl | ⟨rfl,m,c36,c35⟩
  ·simp (config := { maxSteps := 4000000 }) (disch := omega) only [go_sem,c33,i1,hL,s1,c39,a1,i2,s2,hS2,e1,b1,b2,i3,s3,rg,wrap_i64]
   refine rnd_goL_all (l1 _) ?_
   rintro j e S' ⟨dg',y9,y15,y16,f1,f2,f3,f4⟩
   dsimp only at f1 f2 f3
   subst f1 f2
   simp (config := { maxSteps := 4000000 }) (disch := omega) only [go_sem]
   refine all_er (Out.all_mono ?_ (ih dg' S' _ _ _ _ _ _ _ _ f3 (fin dg' f4) (by rw [List.length_append,List.length_singleton]; omega)))
   exact fun _ h => h
  ·simp (config := { maxSteps := 4000000 }) (disch := omega) only [go_sem,c33,c36,hel,cpR_pure c35,i1,hL,s1,c39,a1,i2,s2,hS2,e1,b1,b2,i3,s3,rg,wrap_i64]
   refine rnd_goL_all (l1 _) ?_
   rintro j e S' ⟨dg',y9,y15,y16,f1,f2,f3,f4⟩
   dsimp only at f1 f2 f3
   subst f1 f2
   simp (config := { maxSteps := 4000000 }) (disch := omega) only [go_sem]
   refine all_er (Out.all_mono ?_ (ih dg' S' _ _ _ _ _ _ _ _ f3 (fin dg' f4) (by rw [List.length_append,List.length_singleton]; omega)))
   exact fun _ h => h
structure OrdP (p : Pn) (out : List Nat) : Prop where
 nd : out.Nodup
 all : ∀ t,t ∈ out ↔ 32 ≤ t ∧ t < p.n ∧ p.to t = t
 low : Part p → ∀ q,q < out.length → deg p.n (fun s => p.near (out.getD q default) s && decide (s ∉ out.take q)) < 24
theorem roots_nodup (p : Pn) (i : Nat) : (rootsFrom p i).Nodup := (List.nodup_range.sublist (List.drop_sublist _ _)).filter _
theorem mem_roots {p : Pn} {i t : Nat} : t ∈ rootsFrom p i ↔ i ≤ t ∧ t < p.n ∧ p.to t = t := by
 unfold rootsFrom
 rw [List.mem_filter,List.mem_drop_iff_getElem]
 simp only [List.length_range,List.getElem_range,decide_eq_true_eq]
 constructor
 ·rintro ⟨⟨q,hq,rfl⟩,h⟩; exact ⟨by omega,by omega,h⟩
 ·rintro ⟨h1,h2,h3⟩; exact ⟨⟨t - i,by omega,by omega⟩,h3⟩
theorem call21 {S0 : Store} {a : Ad} {p : Pn} {ρ d : Nat → Nat} (hP0 : PT S0 a p) (hI : Inv p ρ d) (hpn : p.n ≤ 500000) (h32 : 32 ≤ p.n) :
  ((lim K).call 21 [.ptr a.ip 44 0] S0).All fun r => ∃ out jo,r.1 = acc jo (encN out) ∧ Keep [] S0 r.2 ∧ OrdP p out := by
 have b1 := hP0.blk
 have k1 := Keep.app [] S0 [Block.cells 0 false (cF p.n fun _ => bI false)]
 have b2 := (hP0.keep k1).blk
 have hz1 := fun m => mkV_n (z := .bool false) (m := m) (roomy_ok (n := p.n) (b := 1) (by omega))
 have hz2 := fun m => mkV_n (z := .int .i64 0) (m := m) (roomy_ok (n := p.n) (b := 8) (by omega))
 have hl1 : ∀ A : Block,(S0 ++ [A]).length = S0.length + 1 := fun A => by simp
 have hl2 : ∀ A B : Block,(S0 ++ [A] ++ [B]).length = S0.length + 2 := fun A B => by simp
 have hg : ∀ A B C : Block,(S0 ++ [A] ++ [B] ++ [C])[S0.length + 2]? = some C := fun A B C => by
  have := get_app1 (S0 ++ [A] ++ [B]) C
  rwa [hl2] at this
 have hs : ∀ A B C D : Block,(S0 ++ [A] ++ [B] ++ [C]).set (S0.length + 2) D = S0 ++ [A] ++ [B] ++ [D] := fun A B C D => by
  rw [← hl2 A B]; simp
 have hB : Lf S0 (S0 ++ [.cells 0 false (cF p.n fun _ => bI false)] ++ [.cells 0 false (cF p.n fun _ => vI 0)] ++ [.cells 28 false [.msl (S0.length + 1) 0 0 p.n p.n 1]]) p.n [] (fun _ => 0) (.iv (.sl .nil [])) :=
  ⟨((Keep.app [] S0 _).trans (Keep.app [] _ _)).trans (Keep.app [] _ _),by simp,⟨hg _ _ _,by simp⟩,.inl ⟨rfl,rfl,by simp⟩⟩
 obtain ⟨y10,y11,S1,lv,dg,l1,hB1,hdg⟩ := loop21a hP0 (by omega) (.iv (.sl .nil [])) (.iv (.sl .nil [])) (.tup []) (.tup []) (.tup []) (.tup []) (.tup []) (.tup []) (.tup []) (.tup []) (p.n - 32) 32 [] (fun _ => 0) _ _ (.tup []) (.tup []) (by omega) hB (by simp)
 rw [show ((32 : Nat) : Int) = 32 from rfl] at l1
 rw [List.nil_append] at hB1
 simp only [vI,bI] at l1
 have hF : OF p (rootsFrom p 32) [] dg := ⟨roots_nodup _ _,List.nodup_nil,fun t _ => by simp,fun t => by simp [mem_roots],fun t ht => by
  rw [hdg t,if_pos ht]
  congr 1
  refine deg_congr fun s _ => by simp,fun _ q hq => by simp at hq⟩
 refine call_all' K _ (fn := t21) rfl rfl ?_
 simp only [pcells] at b1 b2
 simp only [bI] at b2
 simp (config := { maxSteps := 4000000 }) (disch := omega) only [t21,go_sem,TM.undef,b1,hz1,b2,hz2,hl1,hl2,hg,hs]
 rw [l1]
 rcases hB1.lst with ⟨h0,rfl,_⟩ | ⟨h0,v,rfl,hL⟩
 ·rw [h0] at hF
  simp (config := { maxSteps := 4000000 }) (disch := omega) only [go_sem]
  have l2 : lp' (lim K) t21L1 [.ptr a.ip 44 0,.iv (.sl .nil []),.iv (.sl .nil []),.msl S0.length 0 0 p.n p.n 1,.ptr (S0.length + 2) 28 0,.iv (.sl .nil []),.iv (.int .i64 p.n),.tup [],.tup [],.tup [],y10,y11,.tup [],.tup [],.tup [],.tup [],.tup []] S1 = .ret (.exit 2,[.ptr a.ip 44 0,.iv (.sl .nil []),.iv (.sl .nil []),.msl S0.length 0 0 p.n p.n 1,.ptr (S0.length + 2) 28 0,.iv (.sl .nil []),.iv (.int .i64 p.n),.tup [],.tup [],.tup [],y10,y11,.iv (.bool false),.tup [],.tup [],.tup [],.tup []],S1) := by
   refine loop_at K _ _ t21L1.eq_1 ?_
   simp (config := { maxSteps := 4000000 }) (disch := omega) only [go_sem]
  rw [l2]
  simp (config := { maxSteps := 4000000 }) (disch := omega) only [go_sem]
  exact all_ret ⟨[],0,rfl,hB1.keep,⟨List.nodup_nil,fun t => by rw [← hF.all t]; simp,fun _ q hq => by simp at hq⟩⟩
 ·have hO : Odr S0 S1 p.n (rootsFrom p 32) [] v [] 0 dg := ⟨hB1.keep,by simpa using hB1.gone,hB1.deg,by simpa using hL,At.nil,fun h => absurd rfl h⟩
  have hlen : (rootsFrom p 32).length ≤ p.n := by
   unfold rootsFrom
   have h1 := List.length_filter_le (fun r => decide (p.to r = r)) ((List.range p.n).drop 32)
   simp at h1; omega
  have l2 := loop21 hP0 hI (by omega) (.iv (.sl .nil [])) (.iv (.int .i64 p.n)) (rootsFrom p 32).length (rootsFrom p 32) [] v [] 0 dg S1 (.tup []) (.tup []) (.tup []) y10 y11 (.tup []) (.tup []) (.tup []) (.tup []) (.tup []) rfl hO hF (by simp; omega)
  unfold e21 at l2
  rw [show acc 0 (encN []) = .iv (.sl .nil []) from rfl,List.length_nil,Nat.add_zero] at l2
  simp (config := { maxSteps := 4000000 }) (disch := omega) only [go_sem]
  refine fin_goL_all l2 ?_
  rintro j e S2 ⟨out,jo,dg',y5,y7,y8,y9,y12,y13,y14,y15,y16,f1,f2,f3,f4⟩
  dsimp only at f1 f2 f3
  subst f1 f2
  have hla : ∀ j,locV j (acc jo (encN out)) = acc jo (encN out) := fun j => locV_acc _ _ _
  simp (config := { maxSteps := 4000000 }) (disch := omega) only [go_sem,hla]
  exact all_ret ⟨out,jo,rfl,f3,⟨f4.ndO,fun t => by rw [← f4.all t]; simp,f4.low⟩⟩
theorem go_exec_all {K : Prog} {O : Orc} {c : TCode} {env : Env} {S : Store} {P : Jump × Env × Store → Prop} (h : (go' K O c [] env S).All P) : (exec K O c env S).All P := by
 unfold go' at h
 simp only [go] at h
 have h1 := er_all h
 have e : ∀ X : Out (Jump × Env × Store),(X.bind fun r => back K O [] r.1 r.2.1 r.2.2).All P → X.All P := by
  intro X
  induction X with
  | ret r => exact id
  | fail s => exact id
  | pick n k ih => exact fun h i hi => ih i (h i hi)
 exact e _ h1
theorem yld_all {K : Prog} {i : Nat} {args : List TV} {S S1 : Store} {st : LoopState} {p p2 : Option Jump} {env env1 env2 e2 : Env} {ps ps2 : List Nat} {a b a2 b2 : TCode} {R : Store → Prop}
  (h : S[i]? = some (.lp st p env ps a b)) (hs : setAll env ps args = some env1) (h1 : go' K (lim K) a [] env1 S = .ret (.normal,env2,S1)) (h2 : S1[i]? = some (.lp .ready p2 e2 ps2 a2 b2))
  (h3 : (go' K (lim K) b [] env2 (S1.set i (.lp .busy p2 e2 ps2 a2 b2))).All fun r => r.1 = .normal ∧ ∃ st3 p3 e3 ps3 a3 b3,r.2.2[i]? = some (.lp st3 p3 e3 ps3 a3 b3) ∧ R (r.2.2.set i (.lp .ready none e3 ps3 a3 b3))) :
  ((lim K).yld i args S).All fun r => r.1 = .iv (.bool true) ∧ R r.2 := by
 refine lim_yld_all ?_
 have e1 := go_exec h1
 have e3 := go_exec_all h3
 simp only [yldBody,h,hs,e1,Out.bind,h2]
 refine bind_all e3 ?_
 rintro ⟨j,e,S2⟩ ⟨hj,st3,p3,e3,ps3,a3,b3,h4,h5⟩
 dsimp only at hj h4 h5
 subst hj
 simp only [h4]
 exact ⟨rfl,h5⟩
theorem opC_csf_all {K : Prog} {O : Orc} {i : Nat} {k : Kt} {M : List (Nat × TV)} {n : Nat} {fs : List Fr} {env : Env} {S : Store} {P : TV × Store → Prop} {R : Jump × Env × Store → Prop} {X : Out (TV × Store)} (hX : X.All P) (h : ∀ v S',P (v,S') → Out.All R (opC' K O (.ret (v,S')) i k M n fs env)) : Out.All R (opC' K O (csR' false S X) i k M n fs env) :=
 opC_all (P := P) (csR_all hX fun v S' hv => by rw [csR_f']; exact hv) h
inductive PaintA (p : Pn) (ρ : Nat → Nat) : List Nat → (Nat → Int) → (Nat → Int) → Prop
 | nil (o : Nat → Int) : PaintA p ρ [] o o
 | cons {r : Nat} {l : List Nat} {o o1 o' : Nat → Int} (h : PaintS { p with out := o } (memFrom p ρ r 32) o1) (g : PaintA p ρ l o1 o') : PaintA p ρ (r :: l) o o'
def rfA : TCode := .region [⟨.mov (.loc 16),(some 6),none⟩]
def rfC : TCode := .block 5 (.draw [0,1,2] [(3,[0],[]),(4,[],[])] [⟨.load1 (.loc 3),none,none⟩,⟨.load1 (.loc 3),none,none⟩,⟨.mov (.loc 6),none,none⟩,⟨.call false false 19 [(.reg 1),(.reg 2)],none,none⟩,⟨.call false false 22 [(.reg 0),(.reg 3)],none,none⟩])
def e9 (jp : Nat) (x0 x1 x2 x4 x5 x6 x7 x8 x9 x10 x11 x12 x13 x14 x15 x16 : TV) : List TV := [x0,x1,x2,.ptr jp 40 0,x4,x5,x6,x7,x8,x9,x10,x11,x12,x13,x14,x15,x16]
theorem PT.busy {S : Store} {a : Ad} {p : Pn} (h : PT S a p) {i : Nat} {st : LoopState} {q : Option Jump} {e : Env} {ps : List Nat} {c b : TCode} (hb : S[i]? = some (.lp st q e ps c b)) (b' : Block) : PT (S.set i b') a p :=
 h.setO hb (by
  simp only [Ad.own,List.mem_cons,List.not_mem_nil,or_false,not_or]
  exact ⟨blk_ne hb h.blk (by simp),blk_ne hb h.near (by simp),blk_ne hb h.own (by simp),blk_ne hb h.to (by simp),blk_ne hb h.out (by simp)⟩) (by simp)
theorem mem_from {p : Pn} {ρ : Nat → Nat} {r i m : Nat} : m ∈ memFrom p ρ r i ↔ i ≤ m ∧ m < p.n ∧ ρ m = r := by
 unfold memFrom
 rw [List.mem_filter,List.mem_drop_iff_getElem]
 simp only [List.length_range,List.getElem_range,decide_eq_true_eq]
 constructor
 ·rintro ⟨⟨q,hq,rfl⟩,h⟩; exact ⟨by omega,by omega,h⟩
 ·rintro ⟨h1,h2,h3⟩; exact ⟨⟨m - i,by omega,by omega⟩,h3⟩
theorem mem_len (p : Pn) (ρ : Nat → Nat) (r i : Nat) : (memFrom p ρ r i).length ≤ p.n := by
 unfold memFrom
 have h1 := List.length_filter_le (fun m => decide (ρ m = r)) ((List.range p.n).drop i)
 simp at h1; omega
theorem yld9 {S : Store} {a : Ad} {p : Pn} {ρ d : Nat → Nat} {o : Nat → Int} (hP : PT S a { p with out := o }) (hu : Uf p ρ d) (hpn : p.n ≤ 500000) (h32 : 32 ≤ p.n) {s jp jb : Nat} {B : Block} (x0 x2 x4 x5 x6 x7 x8 x9 x10 x11 x12 x13 x14 x15 x16 : TV)
  (hs : S[s]? = some (.lp .ready none (e9 jp x0 .hole x2 x4 x5 x6 x7 x8 x9 x10 x11 x12 x13 x14 x15 x16) [15,16] rfA rfC)) (hp : S[jp]? = some (.cells 40 false [.ptr a.ip 44 0])) (hpo : jp ∉ a.own) (hb : S[jb]? = some B) (hbo : jb ∉ a.own) (hbm : ∀ es c,B ≠ .mp es c) (hbs : jb ≠ s) (i r : Nat) :
  ((lim K).yld s [.iv (.int .i64 i),.iv (.int .i64 r)] S).All fun q => q.1 = .iv (.bool true) ∧ ∃ o',PT q.2 a { p with out := o' } ∧ PaintS { p with out := o } (memFrom p ρ r 32) o' ∧
   q.2[s]? = some (.lp .ready none (e9 jp x0 .hole x2 x4 x5 x6 x7 x8 x9 x10 x11 x12 x13 x14 x15 x16) [15,16] rfA rfC) ∧ q.2[jp]? = some (.cells 40 false [.ptr a.ip 44 0]) ∧ q.2[jb]? = some B := by
 have hPb := hP.busy hs (.lp .busy none (e9 jp x0 .hole x2 x4 x5 x6 x7 x8 x9 x10 x11 x12 x13 x14 x15 x16) [15,16] rfA rfC)
 have hns : s ≠ jp := blk_ne hs hp (by simp)
 have hp1 : (S.set s (.lp .busy none (e9 jp x0 .hole x2 x4 x5 x6 x7 x8 x9 x10 x11 x12 x13 x14 x15 x16) [15,16] rfA rfC))[jp]? = some (.cells 40 false [.ptr a.ip 44 0]) := by rw [get_setN hns]; exact hp
 have hb1 : (S.set s (.lp .busy none (e9 jp x0 .hole x2 x4 x5 x6 x7 x8 x9 x10 x11 x12 x13 x14 x15 x16) [15,16] rfA rfC))[jb]? = some B := by rw [get_setN (Ne.symm hbs)]; exact hb
 have hs1 : (S.set s (.lp .busy none (e9 jp x0 .hole x2 x4 x5 x6 x7 x8 x9 x10 x11 x12 x13 x14 x15 x16) [15,16] rfA rfC))[s]? = some (.lp .busy none (e9 jp x0 .hole x2 x4 x5 x6 x7 x8 x9 x10 x11 x12 x13 x14 x15 x16) [15,16] rfA rfC) := get_setS (lt_get hs) _
 refine yld_all (R := fun S' => ∃ o',PT S' a { p with out := o' } ∧ PaintS { p with out := o } (memFrom p ρ r 32) o' ∧ S'[s]? = some (.lp .ready none (e9 jp x0 .hole x2 x4 x5 x6 x7 x8 x9 x10 x11 x12 x13 x14 x15 x16) [15,16] rfA rfC) ∧ S'[jp]? = some (.cells 40 false [.ptr a.ip 44 0]) ∧ S'[jb]? = some B) (st := .ready) (p := none) (args := [.iv (.int .i64 (i : Int)),.iv (.int .i64 (r : Int))]) (env := e9 jp x0 .hole x2 x4 x5 x6 x7 x8 x9 x10 x11 x12 x13 x14 x15 x16) (env2 := e9 jp x0 .hole x2 x4 x5 (.iv (.int .i64 r)) x7 x8 x9 x10 x11 x12 x13 x14 (.iv (.int .i64 i)) (.iv (.int .i64 r))) hs (env1 := e9 jp x0 .hole x2 x4 x5 x6 x7 x8 x9 x10 x11 x12 x13 x14 (.iv (.int .i64 i)) (.iv (.int .i64 r))) rfl ?_ hs ?_
 ·unfold e9 rfA
  simp (config := { maxSteps := 4000000 }) (disch := omega) only [go_sem]
 ·generalize S.set s (.lp .busy none (e9 jp x0 .hole x2 x4 x5 x6 x7 x8 x9 x10 x11 x12 x13 x14 x15 x16) [15,16] rfA rfC) = S1 at *
  have hu' : Uf { p with out := o } ρ d := ⟨hu.up,hu.fix⟩
  obtain ⟨j,S2,c19,hk⟩ := call19 hPb hu' (by show p.n ≤ _; omega) h32 r
  have c22 := call22 (hPb.keep hk) (ListV.acc j (memFrom { p with out := o } ρ r 32)) (by have := mem_len p ρ r 32; show (memFrom p ρ r 32).length ≤ _; omega) (fun m hm => (mem_from.1 hm).2.1)
  have hp2 := hk.get _ _ (by simp) hp1
  have hla : ∀ q,locV q (acc j (encN (memFrom { p with out := o } ρ r 32))) = acc j (encN (memFrom { p with out := o } ρ r 32)) := fun q => locV_acc _ _ _
  have hlp : isLp (acc j (encN (memFrom { p with out := o } ρ r 32))) = false := by unfold acc; split <;> rfl
  have key : ∀ r_1 : Jump × Env × Store,(∃ o',PT r_1.2.2 a { p with out := o' } ∧ KpG a S2 r_1.2.2 ∧ PaintS { p with out := o } (memFrom p ρ r 32) o') → r_1.1 = .normal → r_1.1 = Jump.normal ∧ ∃ st3 p3 e3 ps3 a3 b3,r_1.2.2[s]? = some (.lp st3 p3 e3 ps3 a3 b3) ∧ ∃ o',PT (r_1.2.2.set s (.lp .ready none e3 ps3 a3 b3)) a { p with out := o' } ∧ PaintS { p with out := o } (memFrom p ρ r 32) o' ∧
   (r_1.2.2.set s (.lp .ready none e3 ps3 a3 b3))[s]? = some (.lp .ready none (e9 jp x0 .hole x2 x4 x5 x6 x7 x8 x9 x10 x11 x12 x13 x14 x15 x16) [15,16] rfA rfC) ∧ (r_1.2.2.set s (.lp .ready none e3 ps3 a3 b3))[jp]? = some (.cells 40 false [.ptr a.ip 44 0]) ∧ (r_1.2.2.set s (.lp .ready none e3 ps3 a3 b3))[jb]? = some B := by
   rintro ⟨j',e',S3⟩ ⟨o',h1,h2,h3⟩ h4
   dsimp only at h1 h2 h4 ⊢
   have hs3 := h2.get _ _ (hk.get _ _ (by simp) hs1) (by
    have hs2 := hk.get _ _ (by simp) hs1
    have hPk := hPb.keep hk
    simp only [Ad.own,List.mem_cons,List.not_mem_nil,or_false,not_or]
    exact ⟨blk_ne hs2 hPk.blk (by simp),blk_ne hs2 hPk.near (by simp),blk_ne hs2 hPk.own (by simp),blk_ne hs2 hPk.to (by simp),blk_ne hs2 hPk.out (by simp)⟩) (by simp)
   refine ⟨h4,_,_,_,_,_,_,hs3,o',h1.busy hs3 _,h3,get_setS (lt_get hs3) _,?_,?_⟩
   ·rw [get_setN hns]; exact h2.get _ _ hp2 hpo (by simp)
   ·rw [get_setN (Ne.symm hbs)]; exact h2.get _ _ (hk.get _ _ (by simp) hb1) hbo hbm
  refine Out.all_mono (Q := fun q : Jump × Env × Store => (∃ o',PT q.2.2 a { p with out := o' } ∧ KpG a S2 q.2.2 ∧ PaintS { p with out := o } (memFrom p ρ r 32) o') ∧ q.1 = .normal) (fun q h => key q h.1 h.2) ?_
  unfold e9 rfC
  simp (config := { maxSteps := 4000000 }) (disch := omega) only [go_sem,hp1,c19,hp2,hla,hlp]
  refine opC_csf_all c22 ?_
  rintro v S3 ⟨o',hv,h1,h2,h3⟩
  dsimp only at hv h1 h2
  subst hv
  simp (config := { maxSteps := 4000000 }) (disch := omega) only [go_sem]
  exact all_ret ⟨⟨o',h1,h2,h3⟩,rfl⟩
theorem loop32 {a : Ad} {p : Pn} {ρ d : Nat → Nat} (hu : Uf p ρ d) (hpn : p.n ≤ 500000) (h32 : 32 ≤ p.n) {s jp jb jo : Nat} {out : List Nat} (hol : out.length ≤ 1000000) (hpo : jp ∉ a.own) (hbo : jb ∉ a.own) (hbs : jb ≠ s) (x0 x2 x4 x5 x6 x7 x8 x9 x10 x11 x12 x13 x14 x15 x16 : TV) :
  ∀ (k : Nat) (o : Nat → Int) (S : Store) (x3 x4' : TV),k ≤ out.length → PT S a { p with out := o } → S[s]? = some (.lp .ready none (e9 jp x0 .hole x2 x4 x5 x6 x7 x8 x9 x10 x11 x12 x13 x14 x15 x16) [15,16] rfA rfC) → S[jp]? = some (.cells 40 false [.ptr a.ip 44 0]) → S[jb]? = some (.cells 28 false [acc jo (encN out)]) →
  (lp' (lim K) t32L0 [.yld s,.ptr jb 28 0,.iv (.int .i64 ((k : Int) - 1)),x3,x4'] S).All fun q => ∃ y2 y3 y4 o',q.1 = .exit 0 ∧ q.2.1 = [.yld s,.ptr jb 28 0,y2,y3,y4] ∧ PT q.2.2 a { p with out := o' } ∧ PaintA p ρ (out.take k).reverse o o' ∧
   q.2.2[s]? = some (.lp .ready none (e9 jp x0 .hole x2 x4 x5 x6 x7 x8 x9 x10 x11 x12 x13 x14 x15 x16) [15,16] rfA rfC) ∧ q.2.2[jp]? = some (.cells 40 false [.ptr a.ip 44 0])
 | 0,o,S,x3,x4',hk,hP,hs,hp,hb => by
  refine lp_all t32L0.eq_1 ?_
  rw [show ((0 : Nat) : Int) - 1 = -1 from rfl]
  simp (config := { maxSteps := 4000000 }) (disch := omega) only [go_sem,ge_iff_le]
  exact all_ret ⟨_,_,_,o,rfl,rfl,hP,.nil o,hs,hp⟩
 | k + 1,o,S,x3,x4',hk,hP,hs,hp,hb => by
  have hla : k < out.length := by omega
  have hne : encN out ≠ [] := by rw [Ne,encN_nil]; intro e; rw [e] at hla; simp at hla
  have hb' := hb
  rw [acc_ne _ hne] at hb'
  have i1 := ix_encT (j := jo) hla
  have hr : out.take (k + 1) = out.take k ++ [out.getD k default] := by
   rw [List.take_add_one]; simp [List.getD,List.getElem?_eq_getElem hla]
  generalize out.getD k default = r at *
  have y1 := yld9 (x0 := x0) (x2 := x2) (x4 := x4) (x5 := x5) (x6 := x6) (x7 := x7) (x8 := x8) (x9 := x9) (x10 := x10) (x11 := x11) (x12 := x12) (x13 := x13) (x14 := x14) (x15 := x15) (x16 := x16) hP hu hpn h32 hs hp hpo hb hbo (by simp) hbs k r
  have ih := fun o' S' x3 x4' => loop32 (jo := jo) hu hpn h32 hol hpo hbo hbs x0 x2 x4 x5 x6 x7 x8 x9 x10 x11 x12 x13 x14 x15 x16 k o' S' x3 x4' (by omega)
  have ek : ((k + 1 : Nat) : Int) - 1 = (k : Int) := by omega
  rw [ek]
  refine lp_all t32L0.eq_1 ?_
  simp (config := { maxSteps := 4000000 }) (disch := omega) only [go_sem,ge_iff_le,hb',i1]
  refine rnd_opC_all (all_er y1) ?_
  rintro v S1 ⟨hv,o1,h1,h2,h3,h4,h5⟩
  dsimp only at hv h1 h3 h4 h5
  subst hv
  simp (config := { maxSteps := 4000000 }) (disch := omega) only [go_sem,wrap_i64]
  refine all_er (Out.all_mono ?_ (ih o1 S1 _ _ h1 h3 h4 h5))
  rintro q ⟨y2,y3,y4,o',e1,e2,g1,g2,g3,g4⟩
  refine ⟨y2,y3,y4,o',e1,e2,g1,?_,g3,g4⟩
  rw [hr,List.reverse_append,List.reverse_singleton,List.singleton_append]
  exact .cons h2 g2
theorem pig {n : Nat} (C : Nat → Int) : ∀ (k : Nat) (f : Nat → Bool),(∀ d : Nat,1 ≤ d → d ≤ k → ∃ u,u < n ∧ f u = true ∧ C u = d) → k ≤ deg n f
 | 0,f,h => Nat.zero_le _
 | k + 1,f,h => by
  obtain ⟨u,hu,hf,hc⟩ := h (k + 1) (by omega) (Nat.le_refl _)
  have h1 := deg_minus hu hf
  have h2 := pig C k (fun t => f t && decide (t ≠ u)) (fun d h3 h4 => by
   obtain ⟨v,hv,hfv,hcv⟩ := h d h3 (by omega)
   exact ⟨v,hv,by
    have : v ≠ u := fun e => by rw [e,hc] at hcv; omega
    simp [hfv,this],hcv⟩)
  omega
structure PI (p : Pn) (ρ : Nat → Nat) (D : List Nat) (o : Nat → Int) : Prop where
 mach : ∀ m,m < 32 → o m = m
 low : ∀ m,32 ≤ m → m < p.n → ρ m < 32 → o m = (ρ m : Nat)
 don : ∀ m,32 ≤ m → m < p.n → 32 ≤ ρ m → ρ m ∈ D → o m = -1 ∨ 1 ≤ o m ∧ o m ≤ 24
 un : ∀ m,32 ≤ m → m < p.n → 32 ≤ ρ m → ρ m ∉ D → o m = 0
 edge : ∀ x y,x < p.n → y < p.n → p.own x y = true → o x = o y → o x ≤ 0
 spill : ∀ m,32 ≤ m → m < p.n → o m = -1 → ∀ d : Nat,1 ≤ d → d ≤ 24 → ∃ t,t < p.n ∧ p.own m t = true ∧ o t = d
 same : Part p → ∀ m,32 ≤ m → m < p.n → o m = o (ρ m) ∧ o m ≠ -1
structure Own (p : Pn) : Prop where
 sym : ∀ r s,p.own r s = true → p.own s r = true
 irr : ∀ r,p.own r r = false
 vt : ∀ r s,p.own r s = true → vtx p.n r
theorem PI.one {p : Pn} {ρ : Nat → Nat} (hO : Own p) {o : Nat → Int} {m : Nat} (hm : m < p.n) (h0 : o m = 0) {v : Int} (hv : FreeS { p with out := o } [m] v)
  (edge : ∀ x y,x < p.n → y < p.n → p.own x y = true → o x = o y → o x ≤ 0) (spill : ∀ m,32 ≤ m → m < p.n → o m = -1 → ∀ d : Nat,1 ≤ d → d ≤ 24 → ∃ t,t < p.n ∧ p.own m t = true ∧ o t = d) :
  (∀ x y,x < p.n → y < p.n → p.own x y = true → upd o m v x = upd o m v y → upd o m v x ≤ 0) ∧ (∀ w,32 ≤ w → w < p.n → upd o m v w = -1 → ∀ d : Nat,1 ≤ d → d ≤ 24 → ∃ t,t < p.n ∧ p.own w t = true ∧ upd o m v t = d) ∧ (v = -1 ∨ 1 ≤ v ∧ v ≤ 24) := by
 have keep : ∀ (t : Nat) (d : Nat),1 ≤ d → o t = d → upd o m v t = d := fun t d hd ht => by
  rw [upd_ne _ _ (fun e => by rw [e,h0] at ht; omega)]; exact ht
 rcases hv with ⟨rfl,hv⟩ | ⟨d,rfl,h1,h2,hv⟩
 ·refine ⟨fun x y hx hy hxy he => ?_,fun w hw hwn hwv d hd1 hd2 => ?_,.inl rfl⟩
  ·by_cases e : x = m
   ·rw [e,upd_same]; decide
   ·rw [upd_ne _ _ e] at he ⊢
    by_cases e2 : y = m
    ·rw [e2,upd_same] at he; omega
    ·rw [upd_ne _ _ e2] at he
     exact edge x y hx hy hxy he
  ·by_cases e : w = m
   ·subst e
    obtain ⟨m',hm',t,ht,h3,h4,_⟩ := hv d hd1 hd2
    simp at hm'
    subst hm'
    exact ⟨t,ht,h3,keep t d hd1 h4⟩
   ·rw [upd_ne _ _ e] at hwv
    obtain ⟨t,ht,h3,h4⟩ := spill w hw hwn hwv d hd1 hd2
    exact ⟨t,ht,h3,keep t d hd1 h4⟩
 ·have hno : ∀ t,t < p.n → p.own m t = true → o t ≠ d := fun t ht h3 h4 => hv m (by simp) ⟨t,ht,h3,h4,h1,h2⟩
  refine ⟨fun x y hx hy hxy he => ?_,fun w hw hwn hwv d' hd1 hd2 => ?_,.inr ⟨by omega,by omega⟩⟩
  ·by_cases e : x = m
   ·have hy' : y ≠ m := fun e2 => by rw [e,e2,hO.irr] at hxy; cases hxy
    rw [e,upd_same,upd_ne _ _ hy'] at he
    rw [e] at hxy
    exact absurd he.symm (hno y hy hxy)
   ·rw [upd_ne _ _ e] at he ⊢
    by_cases e2 : y = m
    ·rw [e2,upd_same] at he
     rw [e2] at hxy
     exact absurd he (hno x hx (hO.sym _ _ hxy))
    ·rw [upd_ne _ _ e2] at he
     exact edge x y hx hy hxy he
  ·have e : w ≠ m := fun e => by rw [e,upd_same] at hwv; omega
   rw [upd_ne _ _ e] at hwv
   obtain ⟨t,ht,h3,h4⟩ := spill w hw hwn hwv d' hd1 hd2
   exact ⟨t,ht,h3,keep t d' hd1 h4⟩
theorem PI.seq {p : Pn} (hO : Own p) : ∀ {l : List Nat} {o o' : Nat → Int},SeqP p l o o' → l.Nodup → (∀ m ∈ l,m < p.n ∧ o m = 0) →
  (∀ x y,x < p.n → y < p.n → p.own x y = true → o x = o y → o x ≤ 0) → (∀ m,32 ≤ m → m < p.n → o m = -1 → ∀ d : Nat,1 ≤ d → d ≤ 24 → ∃ t,t < p.n ∧ p.own m t = true ∧ o t = d) →
  (∀ x y,x < p.n → y < p.n → p.own x y = true → o' x = o' y → o' x ≤ 0) ∧ (∀ m,32 ≤ m → m < p.n → o' m = -1 → ∀ d : Nat,1 ≤ d → d ≤ 24 → ∃ t,t < p.n ∧ p.own m t = true ∧ o' t = d) ∧ (∀ m ∈ l,o' m = -1 ∨ 1 ≤ o' m ∧ o' m ≤ 24) ∧ ∀ m,m ∉ l → o' m = o m := by
 intro l o o' h
 induction h with
 | nil o => exact fun _ _ h1 h2 => ⟨h1,h2,by simp,fun _ _ => rfl⟩
 | @cons m l o o' v hv g ih =>
  intro hnd hl h1 h2
  rw [List.nodup_cons] at hnd
  obtain ⟨hm,h0⟩ := hl m (by simp)
  obtain ⟨e1,e2,e3⟩ := PI.one (ρ := fun x => x) hO hm h0 hv h1 h2
  obtain ⟨f1,f2,f3,f4⟩ := ih hnd.2 (fun w hw => ⟨(hl w (by simp [hw])).1,by
   rw [upd_ne _ _ (fun e => hnd.1 (by rw [← e]; exact hw))]; exact (hl w (by simp [hw])).2⟩) e1 e2
  refine ⟨f1,f2,fun w hw => ?_,fun w hw => ?_⟩
  ·rcases List.mem_cons.1 hw with rfl | hw'
   ·rw [f4 w hnd.1,upd_same]; exact e3
   ·exact f3 w hw'
  ·simp only [List.mem_cons,not_or] at hw
   rw [f4 w hw.2,upd_ne _ _ hw.1]
theorem mem_nodup (p : Pn) (ρ : Nat → Nat) (r i : Nat) : (memFrom p ρ r i).Nodup := (List.nodup_range.sublist (List.drop_sublist _ _)).filter _
theorem PI.step {p : Pn} {ρ d : Nat → Nat} (hI : Inv p ρ d) (hO : Own p) {l : List Nat} (hl : OrdP p l) {T D : List Nat} {r : Nat} (hlt : l = T.reverse ++ r :: D) {o o1 : Nat → Int} (h : PI p ρ D o) (hs : PaintS { p with out := o } (memFrom p ρ r 32) o1) : PI p ρ (r :: D) o1 := by
 have hnd := hl.nd
 rw [hlt,List.nodup_append,List.nodup_cons] at hnd
 obtain ⟨_,⟨hrD,_⟩,hTD⟩ := hnd
 obtain ⟨hr32,hrn,hrr⟩ := (hl.all r).1 (by rw [hlt]; simp)
 have hρr := hI.uf.fix r hrn hrr
 have hM : ∀ m,m ∈ memFrom p ρ r 32 ↔ 32 ≤ m ∧ m < p.n ∧ ρ m = r := fun m => mem_from
 have h0 : ∀ m,m ∈ memFrom p ρ r 32 → o m = 0 := fun m hm => by
  obtain ⟨h1,h2,h3⟩ := (hM m).1 hm
  exact h.un m h1 h2 (by rw [h3]; exact hr32) (by rw [h3]; exact hrD)
 -- under Part a colour is free
 have hpart : Part p → ¬ ∀ c : Nat,1 ≤ c → c ≤ 24 → ∃ m ∈ memFrom p ρ r 32,tak1 { p with out := o } m c := by
  intro hp hall
  have hlow := hl.low hp T.length (by rw [hlt]; simp)
  have e1 : l.getD T.length default = r := by rw [hlt]; simp [List.getD]
  have e2 : l.take T.length = T.reverse := by rw [hlt,List.take_left']; simp
  rw [e1,e2] at hlow
  have := pig (n := p.n) o 24 (fun s => p.near r s && decide (s ∉ T.reverse)) (fun c hc1 hc2 => by
   obtain ⟨m,hm,t,ht,hmt,htc,_⟩ := hall c hc1 hc2
   obtain ⟨hm1,hm2,hm3⟩ := (hM m).1 hm
   dsimp only at ht hmt htc
   have hn := hI.img m t hm2 ht hmt
   rw [hm3] at hn
   obtain ⟨hut,hur⟩ := hI.rt ht
   have hsame : o t = o (ρ t) := by
    by_cases h32 : t < 32
    ·rw [hI.uf.fix t ht (hI.mach t ht h32)]
    ·exact (h.same hp t (by omega) ht).1
   refine ⟨ρ t,hut,?_,by rw [← hsame,htc]⟩
   have : ρ t ∉ T.reverse := by
    intro hT
    have hTl : ρ t ∈ l := by rw [hlt]; simp only [List.mem_append]; exact .inl hT
    obtain ⟨g1,g2,g3⟩ := (hl.all _).1 hTl
    have hnD : ρ t ∉ D := fun hD => hTD _ hT _ (List.mem_cons_of_mem _ hD) rfl
    by_cases h32 : t < 32
    ·rw [hI.uf.fix t ht (hI.mach t ht h32)] at g1; omega
    ·have := h.un t (by omega) ht g1 hnD
     omega
   simp [hn,this])
  omega
 rcases hs with ⟨c,hc1,hc2,hc3,hc4⟩ | ⟨hall,hseq⟩
 ·have hin : ∀ m,m ∈ memFrom p ρ r 32 → o1 m = c := fun m hm => by rw [hc4 m,if_pos hm]
  have hout : ∀ m,m ∉ memFrom p ρ r 32 → o1 m = o m := fun m hm => by rw [hc4 m,if_neg hm]
  have hlowm : ∀ m,m < 32 → m ∉ memFrom p ρ r 32 := fun m hm h1 => by have := ((hM m).1 h1).1; omega
  have hpos : ∀ t (k : Nat),1 ≤ k → o t = k → o1 t = k := fun t k hk ht => by
   rw [hout t (fun hm => by rw [h0 t hm] at ht; omega)]; exact ht
  refine ⟨fun m hm => ?_,fun m h1 h2 h3 => ?_,fun m h1 h2 h3 h4 => ?_,fun m h1 h2 h3 h4 => ?_,fun x y hx hy hxy he => ?_,fun m h1 h2 h3 k hk1 hk2 => ?_,fun hp m h1 h2 => ?_⟩
  ·rw [hout m (hlowm m hm)]; exact h.mach m hm
  ·rw [hout m (fun hm => by have := ((hM m).1 hm).2.2; omega)]; exact h.low m h1 h2 h3
  ·by_cases e : ρ m = r
   ·rw [hin m ((hM m).2 ⟨h1,h2,e⟩)]; right; omega
   ·rw [hout m (fun hm => e ((hM m).1 hm).2.2)]
    exact h.don m h1 h2 h3 (by rcases List.mem_cons.1 h4 with h5 | h5; exact absurd h5 e; exact h5)
  ·simp only [List.mem_cons,not_or] at h4
   rw [hout m (fun hm => h4.1 ((hM m).1 hm).2.2)]
   exact h.un m h1 h2 h3 h4.2
  ·by_cases e1 : x ∈ memFrom p ρ r 32
   ·by_cases e2 : y ∈ memFrom p ρ r 32
    ·have := hI.img x y hx hy hxy
     rw [((hM x).1 e1).2.2,((hM y).1 e2).2.2,hI.irr r] at this; cases this
    ·rw [hin x e1,hout y e2] at he
     exact absurd ⟨y,hy,hxy,he.symm,hc1,hc2⟩ (hc3 x e1)
   ·by_cases e2 : y ∈ memFrom p ρ r 32
    ·rw [hout x e1,hin y e2] at he
     exact absurd ⟨x,hx,hO.sym _ _ hxy,he,hc1,hc2⟩ (hc3 y e2)
    ·rw [hout x e1] at he ⊢
     rw [hout y e2] at he
     exact h.edge x y hx hy hxy he
  ·have hm : m ∉ memFrom p ρ r 32 := fun hm => by rw [hin m hm] at h3; omega
   rw [hout m hm] at h3
   obtain ⟨t,ht,g1,g2⟩ := h.spill m h1 h2 h3 k hk1 hk2
   exact ⟨t,ht,g1,hpos t k hk1 g2⟩
  ·have hsm := h.same hp m h1 h2
   by_cases e : ρ m = r
   ·rw [hin m ((hM m).2 ⟨h1,h2,e⟩),e,hin r ((hM r).2 ⟨hr32,hrn,hρr⟩)]
    exact ⟨rfl,by omega⟩
   ·have hm : m ∉ memFrom p ρ r 32 := fun hm => e ((hM m).1 hm).2.2
    have hρm : ρ m ∉ memFrom p ρ r 32 := fun hm => by
     have h5 := ((hM (ρ m)).1 hm).2.2
     obtain ⟨g1,g2⟩ := hI.rt h2
     rw [hI.uf.fix _ g1 g2] at h5
     exact e h5
    rw [hout m hm,hout _ hρm]; exact hsm
 ·have hnp : ¬ Part p := fun hp => hpart hp hall
  obtain ⟨f1,f2,f3,f4⟩ := PI.seq hO (p := p) (by
   have key : ∀ {l : List Nat} {a b : Nat → Int},SeqP { p with out := o } l a b → SeqP p l a b := fun h => h.re
   exact key hseq) (mem_nodup p ρ r 32) (fun m hm => ⟨((hM m).1 hm).2.1,h0 m hm⟩) h.edge h.spill
  have hlowm : ∀ m,m < 32 → m ∉ memFrom p ρ r 32 := fun m hm h1 => by have := ((hM m).1 h1).1; omega
  refine ⟨fun m hm => ?_,fun m h1 h2 h3 => ?_,fun m h1 h2 h3 h4 => ?_,fun m h1 h2 h3 h4 => ?_,f1,f2,fun hp => absurd hp hnp⟩
  ·rw [f4 m (hlowm m hm)]; exact h.mach m hm
  ·rw [f4 m (fun hm => by have := ((hM m).1 hm).2.2; omega)]; exact h.low m h1 h2 h3
  ·by_cases e : ρ m = r
   ·exact f3 m ((hM m).2 ⟨h1,h2,e⟩)
   ·rw [f4 m (fun hm => e ((hM m).1 hm).2.2)]
    exact h.don m h1 h2 h3 (by rcases List.mem_cons.1 h4 with h5 | h5; exact absurd h5 e; exact h5)
  ·simp only [List.mem_cons,not_or] at h4
   rw [f4 m (fun hm => h4.1 ((hM m).1 hm).2.2)]
   exact h.un m h1 h2 h3 h4.2
theorem PI.all {p : Pn} {ρ d : Nat → Nat} (hI : Inv p ρ d) (hO : Own p) {l : List Nat} (hl : OrdP p l) : ∀ {T : List Nat} {o o' : Nat → Int},PaintA p ρ T o o' → ∀ D,l = T.reverse ++ D → PI p ρ D o → PI p ρ l o' := by
 intro T o o' h
 induction h with
 | nil o => intro D hD hP; rw [hD]; exact hP
 | @cons r T o o1 o' hs g ih =>
  intro D hD hP
  have e : l = T.reverse ++ r :: D := by rw [hD]; simp
  exact ih (r :: D) e (hP.step hI hO hl e hs)
def wrong (r : Int) (p : Int × Int) : Bool := decide (p.1 < 1) || (decide (p.2 < 1) || (decide (r ≤ p.1) || (decide (r ≤ p.2) || (p.1 == p.2))))
theorem load_pair (env : Env) (S : Store) (p : Int × Int) : getCells env S (.iv (.cp (enc2 p))) 2 = some [.iv (.int .i64 p.1),.iv (.int .i64 p.2)] := rfl
set_option maxHeartbeats 4000000 in
theorem call27 (r : Int) (t1 : Tag) (E : List (Int × Int)) (t2 : Tag) (M : List (Int × Int)) (p : Int × Int) : (lim K).call 27 [.iv (.agg [.int .i64 p.1,.int .i64 p.2]),.ptr 0 25 0] [.cells 25 false (gcells r t1 E t2 M)] = .ret (.iv (.bool (wrong r p)),[.cells 25 false (gcells r t1 E t2 M)]) := by
 refine call_ret' K _ (fn := t27) rfl rfl ?_
 simp (config := { maxSteps := 4000000 }) (disch := omega) only [t27,go_sem,gcells]
 repeat' (first | (first | refine br_dec' (fun h => ?_) (fun h => ?_) | refine br_beq' (fun h => ?_) (fun h => ?_) | refine br_bne' (fun h => ?_) (fun h => ?_) | refine br_eq' (fun h => ?_) (fun h => ?_)) | simp (disch := omega) only [go_sem])
 all_goals (congr 4; simp [wrong, *])
theorem loop42 (t : Tag) (l : List (Int × Int)) (hl : l.length ≤ 1000000) (f : Nat) (cap : List TV) (q : Int × Int → Bool) (S : Store) (hcap : ([TV.iv (.agg [.int .i64 0,.int .i64 0])] ++ cap).all isIV = false) (hlp : cap.any isLp = false)
  (hq : ∀ p : Int × Int,p ∈ l → (lim K).call f ([] ++ [.iv (.agg [.int .i64 p.1,.int .i64 p.2])] ++ cap) S = .ret (.iv (.bool (q p)),S)) (r2 : TV) : ∀ (k i : Nat) (x3 x6 x7 : TV),i + k = l.length →
  ∃ y y3 y5 y6 y7,0 ≤ y ∧ lp' (lim K) t42L0 [.iv (.sl t (l.map enc2)),.fn f [] cap,r2,x3,.iv (.int .i64 l.length),.iv (.int .i64 i),x6,x7] S = .ret (if (l.drop i).any q then (.ret,[.iv (.sl t (l.map enc2)),.fn f [] cap,.iv (.int .i64 y),y3,.iv (.int .i64 l.length),y5,y6,y7],S) else (.exit 0,[.iv (.sl t (l.map enc2)),.fn f [] cap,r2,y3,.iv (.int .i64 l.length),y5,y6,y7],S))
 | 0,i,x3,x6,x7,h => by
  obtain rfl : i = l.length := by omega
  have e : (l.drop l.length).any q = false := by simp
  refine ⟨0,?_,?_,?_,?_,by omega,loop_at K _ _ t42L0.eq_1 ?_⟩
  rotate_left 4
  ·simp (disch := omega) only [go_sem,e]
   rfl
 | k + 1,i,x3,x6,x7,h => by
  have hd : l.drop i = l.getD i default :: l.drop (i + 1) := by
   rw [List.drop_eq_getElem_cons (by omega)]
   simp [List.getD,List.getElem?_eq_getElem (show i < l.length by omega)]
  have hg := ix_map (w := 2) (f := enc2) (fun _ => rfl) (t := t) (l := l) (i := (i : Int)) (by omega)
  rw [Int.toNat_natCast] at hg
  have ih := loop42 t l hl f cap q S hcap hlp hq r2 k (i + 1)
  have hq1 := hq (l.getD i default) (by simp only [List.getD,List.getElem?_eq_getElem (show i < l.length by omega),Option.getD_some]; exact List.getElem_mem _)
  have ha : ([] ++ [TV.iv (.agg [.int .i64 (l.getD i default).1,.int .i64 (l.getD i default).2])] ++ cap).all isIV = false := by
   simpa [isIV] using hcap
  have hb : ([] ++ [TV.iv (.agg [.int .i64 (l.getD i default).1,.int .i64 (l.getD i default).2])] ++ cap).any isLp = false := by
   simpa [isLp] using hlp
  generalize l.getD i default = p at *
  cases hp : q p
  ·obtain ⟨y,y3,y5,y6,y7,hy,ih⟩ := ih (.iv (.int .i64 i)) (.iv (.bool true)) (.iv (.bool false)) (by omega)
   refine ⟨y,y3,y5,y6,y7,hy,loop_at K _ _ t42L0.eq_1 ?_⟩
   rw [hp] at hq1
   have e : (l.drop i).any q = (l.drop (i + 1)).any q := by rw [hd,List.any_cons,hp,Bool.false_or]
   rw [e]
   simp only [List.nil_append,List.cons_append] at ha hb hq1
   simp (config := { maxSteps := 4000000 }) (disch := omega) only [go_sem,hg,load_pair,wrap_i64,ha,hb,hq1]
   exact congrArg er ih
  ·refine ⟨i,?_,?_,?_,?_,by omega,loop_at K _ _ t42L0.eq_1 ?_⟩
   rotate_left 4
   ·rw [hp] at hq1
    have e : (l.drop i).any q = true := by rw [hd,List.any_cons,hp,Bool.true_or]
    rw [e]
    simp only [List.nil_append,List.cons_append] at ha hb hq1
    simp (config := { maxSteps := 4000000 }) (disch := omega) only [go_sem,hg,load_pair,wrap_i64,ha,hb,hq1]
    rfl
theorem call42 (t : Tag) (l : List (Int × Int)) (hl : l.length ≤ 1000000) (f : Nat) (cap : List TV) (q : Int × Int → Bool) (S : Store) (hcap : ([TV.iv (.agg [.int .i64 0,.int .i64 0])] ++ cap).all isIV = false) (hlp : cap.any isLp = false)
  (hq : ∀ p : Int × Int,p ∈ l → (lim K).call f ([] ++ [.iv (.agg [.int .i64 p.1,.int .i64 p.2])] ++ cap) S = .ret (.iv (.bool (q p)),S)) :
  ∃ y : Int,(0 ≤ y ↔ l.any q = true) ∧ (lim K).call 42 [.iv (.sl t (l.map enc2)),.fn f [] cap] S = .ret (.iv (.int .i64 y),S) := by
 obtain ⟨y,y3,y5,y6,y7,hy,e⟩ := loop42 t l hl f cap q S hcap hlp hq (.iv (.int .i64 0)) l.length 0 (.tup []) (.tup []) (.tup []) (by omega)
 rw [show ((0 : Nat) : Int) = 0 from rfl,List.drop_zero] at e
 cases ha : l.any q
 ·refine ⟨-1,by simp,call_ret' K _ (fn := t42) rfl rfl ?_⟩
  rw [ha] at e
  simp only [Bool.false_eq_true,↓reduceIte] at e
  simp (config := { maxSteps := 4000000 }) (disch := omega) only [t42,go_sem,List.length_map,e]
 ·refine ⟨y,by simp [hy],call_ret' K _ (fn := t42) rfl rfl ?_⟩
  rw [ha] at e
  simp only [↓reduceIte] at e
  simp (config := { maxSteps := 4000000 }) (disch := omega) only [t42,go_sem,List.length_map,e]
theorem call25 (t : Tag) (l : List (Int × Int)) (hl : l.length ≤ 1000000) (f : Nat) (cap : List TV) (q : Int × Int → Bool) (S : Store) (hcap : ([TV.iv (.agg [.int .i64 0,.int .i64 0])] ++ cap).all isIV = false) (hlp : cap.any isLp = false)
  (hq : ∀ p : Int × Int,p ∈ l → (lim K).call f ([] ++ [.iv (.agg [.int .i64 p.1,.int .i64 p.2])] ++ cap) S = .ret (.iv (.bool (q p)),S)) :
  (lim K).call 25 [.iv (.sl t (l.map enc2)),.fn f [] cap] S = .ret (.iv (.bool (l.any q)),S) := by
 obtain ⟨y,hy,e⟩ := call42 t l hl f cap q S hcap hlp hq
 refine call_ret' K _ (fn := t25) rfl rfl ?_
 simp (config := { maxSteps := 4000000 }) (disch := omega) only [t25,go_sem,e]
 congr 4
 cases ha : l.any q
 ·rw [ha] at hy; simp at hy ⊢; omega
 ·rw [ha] at hy; simp at hy ⊢; omega
def may (r : Int) (E M : List (Int × Int)) : Bool := decide (32 ≤ r) && (!(E.any (wrong r)) && !(M.any (wrong r)))
theorem call16 (r : Int) (t1 : Tag) (E : List (Int × Int)) (t2 : Tag) (M : List (Int × Int)) (hE : E.length ≤ 1000000) (hM : M.length ≤ 1000000) : Pure K 16 [.iv (gv r t1 E t2 M)] (.iv (.bool (may r E M))) := by
 have h1 := call25 t1 E hE 27 [.ptr 0 25 0] (wrong r) [.cells 25 false (gcells r t1 E t2 M)] rfl rfl (fun p _ => call27 r t1 E t2 M p)
 have h2 := call25 t2 M hM 27 [.ptr 0 25 0] (wrong r) [.cells 25 false (gcells r t1 E t2 M)] rfl rfl (fun p _ => call27 r t1 E t2 M p)
 refine call_pure t16 rfl rfl ?_
 simp only [gcells] at h1 h2
 simp (config := { maxSteps := 4000000 }) (disch := omega) only [t16,go_sem,gv,h1,h2]
 repeat' (first | (first | refine br_dec' (fun h => ?_) (fun h => ?_) | refine br_beq' (fun h => ?_) (fun h => ?_) | refine br_bne' (fun h => ?_) (fun h => ?_) | refine br_eq' (fun h => ?_) (fun h => ?_)) | simp (disch := omega) only [go_sem,h1,h2])
 all_goals (simp [may, *])
theorem call10 (r : Int) (t1 : Tag) (E : List (Int × Int)) (t2 : Tag) (M : List (Int × Int)) : (lim K).call 10 [.iv (gv r t1 E t2 M)] [] = .ret (.iv (gv r t1 E t2 M),[]) := by
 refine call_ret' K _ (fn := t10) rfl rfl ?_
 simp (config := { maxSteps := 4000000 }) (disch := omega) only [t10,go_sem,gv]
set_option maxHeartbeats 4000000 in
theorem loop11 (g : TV) (r : Int) (t1 : Tag) (E : List (Int × Int)) (t2 : Tag) (M : List (Int × Int)) (A : List (Int × Int)) (hA : A.length ≤ 1000000) (al : TV) (hal : al = acc 0 (A.map enc2)) (S : Store) : ∀ (k i : Nat) (x5 x6 x7 x8 : TV),i + k = A.length →
  ∃ y4 y5 y6 y7 y8,lp' (lim K) t11L0 [g,.lb (gcells r t1 E t2 M),.iv (.bool false),al,.iv (.int .i64 i),x5,x6,x7,x8] S = .ret (if (A.drop i).any (wrong r) then (.ret,[g,.lb (gcells r t1 E t2 M),.iv (.bool false),al,y4,y5,y6,y7,y8],S) else (.exit 0,[g,.lb (gcells r t1 E t2 M),.iv (.bool false),al,y4,y5,y6,y7,y8],S))
 | 0,i,x5,x6,x7,x8,h => by
  obtain rfl : i = A.length := by omega
  have e : (A.drop A.length).any (wrong r) = false := by simp
  subst hal
  refine ⟨?_,?_,?_,?_,?_,loop_at K _ _ t11L0.eq_1 ?_⟩
  rotate_left 5
  ·simp (disch := omega) only [go_sem,e,List.length_map]
   rfl
 | k + 1,i,x5,x6,x7,x8,h => by
  have hd : A.drop i = A.getD i default :: A.drop (i + 1) := by
   rw [List.drop_eq_getElem_cons (by omega)]
   simp [List.getD,List.getElem?_eq_getElem (show i < A.length by omega)]
  have hg : ixS 2 al (.iv (.int .i64 i)) = some (.iv (.cp (enc2 (A.getD i default)))) := by
   subst hal
   have hne : A.map enc2 ≠ [] := by intro q; have := congrArg List.length q; simp at this; rw [this] at h; simp at h
   rw [acc_ne _ hne,ixS_int]
   refine ix_tsl (by omega) ?_ rfl
   rw [Int.toNat_natCast,List.getElem?_map,List.getElem?_eq_getElem (by omega)]
   simp [List.getD,List.getElem?_eq_getElem (show i < A.length by omega)]
  have hlen : lenV .sl S al = some (.iv (.int .i64 A.length)) := by rw [hal,lenV_acc,List.length_map]
  have hloc : ∀ j,locV j al = al := by intro j; rw [hal]; exact locV_acc _ _ _
  have ih := loop11 g r t1 E t2 M A hA al hal S k (i + 1)
  generalize A.getD i default = p at *
  have hz : addOff (.iv (.cp (enc2 p))) 0 = some (.iv (.cp [.int .i64 p.1,.int .i64 p.2])) := rfl
  have hz1 : addOff (.iv (.cp (enc2 p))) 1 = some (.iv (.cp [.int .i64 p.2])) := rfl
  cases hp : wrong r p
  ·obtain ⟨y4,y5,y6,y7,y8,ih⟩ := ih (.iv (.int .i64 p.1)) (.iv (.int .i64 p.2)) (.iv (.bool true)) (.iv (.bool false)) (by omega)
   refine ⟨y4,y5,y6,y7,y8,loop_at K _ _ t11L0.eq_1 ?_⟩
   have e : (A.drop i).any (wrong r) = (A.drop (i + 1)).any (wrong r) := by rw [hd,List.any_cons,hp,Bool.false_or]
   rw [e]
   simp only [wrong,Bool.or_eq_false_iff,decide_eq_false_iff_not,beq_eq_false_iff_ne] at hp
   obtain ⟨p1,p2,p3,p4,p5⟩ := hp
   simp only [gcells] at ih ⊢
   simp (config := { maxSteps := 4000000 }) (disch := omega) only [go_sem,gcells,hlen,hloc,hg,hz,hz1,wrap_i64]
   exact congrArg er ih
  ·refine ⟨.iv (.int .i64 i),.iv (.int .i64 p.1),.iv (.int .i64 p.2),.iv (.bool true),.iv (.bool true),loop_at K _ _ t11L0.eq_1 ?_⟩
   have e : (A.drop i).any (wrong r) = true := by rw [hd,List.any_cons,hp,Bool.true_or]
   rw [e]
   simp only [wrong,Bool.or_eq_true,decide_eq_true_eq,beq_iff_eq] at hp
   simp only [↓reduceIte]
   by_cases p1 : p.1 < 1
   ·simp (config := { maxSteps := 4000000 }) (disch := omega) only [go_sem,gcells,hlen,hloc,hg,hz,hz1,wrap_i64]
   by_cases p2 : p.2 < 1
   ·simp (config := { maxSteps := 4000000 }) (disch := omega) only [go_sem,gcells,hlen,hloc,hg,hz,hz1,wrap_i64]
   by_cases p3 : r ≤ p.1
   ·simp (config := { maxSteps := 4000000 }) (disch := omega) only [go_sem,gcells,hlen,hloc,hg,hz,hz1,wrap_i64]
   by_cases p4 : r ≤ p.2
   ·simp (config := { maxSteps := 4000000 }) (disch := omega) only [go_sem,gcells,hlen,hloc,hg,hz,hz1,wrap_i64]
   ·simp (config := { maxSteps := 4000000 }) (disch := omega) only [go_sem,gcells,hlen,hloc,hg,hz,hz1,wrap_i64]
theorem may_app (r : Int) (E M : List (Int × Int)) : (if (E ++ M).any (wrong r) then false else decide (32 ≤ r)) = may r E M := by
 unfold may
 rw [List.any_append]
 cases E.any (wrong r) <;> cases M.any (wrong r) <;> simp
theorem call11 (r : Int) (t1 : Tag) (E : List (Int × Int)) (t2 : Tag) (M : List (Int × Int)) (hE : E.length ≤ 400) (hM : M.length ≤ 400) : Pure K 11 [.iv (gv r t1 E t2 M)] (.iv (.bool (may r E M))) := by
 have h1 := ap_acc (w := 2) (b := 16) (el := 37) (l := []) (x := .iv (.sl t1 (E.map enc2))) (fun S => IsEl.sl S _ _) (Elems.map enc2_ok E) Elems.nil (roomy_ok (by rw [List.length_map]; simp; omega))
 rw [acc_nil,accS_nil,List.nil_append] at h1
 have h2 := ap_acc (w := 2) (b := 16) (el := 37) (l := E.map enc2) (x := .iv (.sl t2 (M.map enc2))) (fun S => IsEl.sl S _ _) (Elems.map enc2_ok M) (Elems.map enc2_ok E) (roomy_ok (by rw [List.length_map,List.length_map]; omega))
 rw [← List.map_append] at h2
 refine call_pure t11 rfl rfl ?_
 obtain ⟨y4,y5,y6,y7,y8,e⟩ := loop11 (.iv (gv r t1 E t2 M)) r t1 E t2 M (E ++ M) (by simp; omega) _ rfl (accS 2 37 ((E ++ M).map enc2)) (E ++ M).length 0 (.tup []) (.tup []) (.tup []) (.tup []) (by omega)
 rw [show ((0 : Nat) : Int) = 0 from rfl,List.drop_zero] at e
 have hm := (may_app r E M).symm
 simp only [gcells,gv] at e
 cases ha : (E ++ M).any (wrong r)
 ·rw [ha] at e hm
  simp only [Bool.false_eq_true,↓reduceIte] at e hm
  simp (config := { maxSteps := 4000000 }) (disch := omega) only [t11,go_sem,gv,h1,h2,e,hm]
 ·rw [ha] at e hm
  simp only [↓reduceIte] at e hm
  simp (config := { maxSteps := 4000000 }) (disch := omega) only [t11,go_sem,gv,h1,h2,e,hm]
def off (l : List Int) (i : Nat) : Bool := if i < 32 then (l.getD i 0 != (i : Int)) else (l.getD i 0 != -1) && (decide (l.getD i 0 < 1) || decide (24 < l.getD i 0))
def clash (l : List Int) (p : Int × Int) : Bool := (l.getD p.1.toNat 0 == l.getD p.2.toNat 0) && (l.getD p.1.toNat 0 != -1)
def right (r : Int) (E M : List (Int × Int)) (l : List Int) : Bool := may r E M && (decide ((l.length : Int) = r) && (!((List.range l.length).any (off l)) && !(E.any (clash l))))
theorem call24g (n : Int) : (lim K).call 24 [.iv (.int .i64 n)] [] = .ret (.iv (.bool (decide (1 ≤ n) && decide (n ≤ 24))),[]) := by
 refine call_ret' K [] (fn := t24) rfl rfl ?_
 simp only [t24,go_sem]
 repeat' (first | (first | refine br_dec' (fun h => ?_) (fun h => ?_) | refine br_beq' (fun h => ?_) (fun h => ?_) | refine br_bne' (fun h => ?_) (fun h => ?_) | refine br_eq' (fun h => ?_) (fun h => ?_)) | simp (disch := omega) only [go_sem])
 all_goals (congr 4; simp [*])
theorem range_any {q : Nat → Bool} (m i : Nat) (h : i < m) : ((List.range m).drop i).any q = (q i || ((List.range m).drop (i + 1)).any q) := by
 rw [List.drop_eq_getElem_cons (by simpa using h),List.any_cons]
 simp
set_option maxHeartbeats 8000000 in
theorem loop14 (gb : TV) (S : Store) (t : Tag) (l : List Int) (hl : l.length ≤ 1000000) (c2 c3 c7 : TV) (hc3 : ∀ j,locV j c3 = c3) : ∀ (k i : Nat) (x5 x6 x11 x12 : TV),i + k = l.length →
  ∃ y5 y6 y10 y11 y12,lp' (lim K) t14L0 [gb,.iv (.sl t (one i64 l)),c2,c3,.iv (.bool false),x5,x6,c7,.iv (.sl t (one i64 l)),.iv (.int .i64 l.length),.iv (.int .i64 i),x11,x12] S = .ret (if ((List.range l.length).drop i).any (off l) then (.ret,[gb,.iv (.sl t (one i64 l)),c2,c3,.iv (.bool false),y5,y6,c7,.iv (.sl t (one i64 l)),.iv (.int .i64 l.length),y10,y11,y12],S) else (.exit 0,[gb,.iv (.sl t (one i64 l)),c2,c3,.iv (.bool false),y5,y6,c7,.iv (.sl t (one i64 l)),.iv (.int .i64 l.length),y10,y11,y12],S))
 | 0,i,x5,x6,x11,x12,h => by
  obtain rfl : i = l.length := by omega
  have e : ((List.range l.length).drop l.length).any (off l) = false := by rw [List.drop_of_length_le (by simp)]; rfl
  refine ⟨?_,?_,?_,?_,?_,loop_at K _ _ t14L0.eq_1 ?_⟩
  rotate_left 5
  ·simp (disch := omega) only [go_sem,e]
   rfl
 | k + 1,i,x5,x6,x11,x12,h => by
  have hx := ix_one (f := i64) (t := t) (l := l) (i := (i : Int)) (by omega)
  rw [show (default : Int) = 0 from rfl,Int.toNat_natCast] at hx
  have e := range_any (q := off l) l.length i (by omega)
  have ih := loop14 gb S t l hl c2 c3 c7 hc3 k (i + 1)
  cases ho : off l i
  ·obtain ⟨y5,y6,y10,y11,y12,ih⟩ := ih (.iv (.int .i64 i)) (.iv (.int .i64 (l.getD i 0))) (.iv (.bool true)) (.iv (.bool false)) (by omega)
   rw [ho,Bool.false_or] at e
   rw [e]
   refine ⟨y5,y6,y10,y11,y12,loop_at K _ _ t14L0.eq_1 ?_⟩
   simp only [off] at ho
   generalize l.getD i 0 = c at *
   by_cases h32 : i < 32
   ·simp only [h32,↓reduceIte,bne_eq_false_iff_eq] at ho
    simp (config := { maxSteps := 4000000 }) (disch := omega) only [go_sem,hx,i64,wrap_i64,hc3]
    exact congrArg er ih
   ·simp only [h32,↓reduceIte,Bool.and_eq_false_iff,bne_eq_false_iff_eq,Bool.or_eq_false_iff,decide_eq_false_iff_not] at ho
    by_cases hm : c = -1
    ·simp (config := { maxSteps := 4000000 }) (disch := omega) only [go_sem,hx,i64,wrap_i64,hc3]
     exact congrArg er ih
    ·simp (config := { maxSteps := 4000000 }) (disch := omega) only [go_sem,hx,i64,wrap_i64,hc3,call24g]
     exact congrArg er ih
  ·rw [ho,Bool.true_or] at e
   rw [e]
   refine ⟨.iv (.int .i64 i),.iv (.int .i64 (l.getD i 0)),.iv (.int .i64 i),.iv (.bool true),.iv (.bool true),loop_at K _ _ t14L0.eq_1 ?_⟩
   simp only [off] at ho
   simp only [↓reduceIte]
   generalize l.getD i 0 = c at *
   by_cases h32 : i < 32
   ·simp only [h32,↓reduceIte,bne_iff_ne] at ho
    simp (config := { maxSteps := 4000000 }) (disch := omega) only [go_sem,hx,i64,wrap_i64,hc3]
   ·simp only [h32,↓reduceIte,Bool.and_eq_true,bne_iff_ne,Bool.or_eq_true,decide_eq_true_eq] at ho
    by_cases hm : c < 1
    ·simp (config := { maxSteps := 4000000 }) (disch := omega) only [go_sem,hx,i64,wrap_i64,hc3,call24g]
    ·simp (config := { maxSteps := 4000000 }) (disch := omega) only [go_sem,hx,i64,wrap_i64,hc3,call24g]
set_option maxHeartbeats 4000000 in
theorem call26 (r : Int) (t1 : Tag) (E : List (Int × Int)) (t2 : Tag) (M : List (Int × Int)) (t : Tag) (l : List Int) (p : Int × Int) (hp : (0 ≤ p.1 ∧ p.1 < l.length) ∧ (0 ≤ p.2 ∧ p.2 < l.length)) : (lim K).call 26 [.iv (.agg [.int .i64 p.1,.int .i64 p.2]),.ptr 0 28 0] [.cells 28 false [.iv (.sl t (one i64 l))]] = .ret (.iv (.bool (clash l p)),[.cells 28 false [.iv (.sl t (one i64 l))]]) := by
 have h1 := ix_one (f := i64) (t := t) (l := l) (i := p.1) hp.1
 have h2 := ix_one (f := i64) (t := t) (l := l) (i := p.2) hp.2
 rw [show (default : Int) = 0 from rfl] at h1 h2
 refine call_ret' K _ (fn := t26) rfl rfl ?_
 simp only [clash]
 generalize l.getD p.1.toNat 0 = a at *
 generalize l.getD p.2.toNat 0 = b at *
 by_cases e1 : a = b
 ·by_cases e2 : a = -1
  ·simp (config := { maxSteps := 4000000 }) (disch := omega) only [t26,go_sem,h1,h2,i64]
  ·simp (config := { maxSteps := 4000000 }) (disch := omega) only [t26,go_sem,h1,h2,i64]
 ·simp (config := { maxSteps := 4000000 }) (disch := omega) only [t26,go_sem,h1,h2,i64]
theorem may_in {r : Int} {E M : List (Int × Int)} (h : may r E M = true) : 32 ≤ r ∧ ∀ p ∈ E,(1 ≤ p.1 ∧ p.1 < r) ∧ (1 ≤ p.2 ∧ p.2 < r) := by
 simp only [may,Bool.and_eq_true,decide_eq_true_eq,Bool.not_eq_true',List.any_eq_false] at h
 refine ⟨h.1,fun p hp => ?_⟩
 have := h.2.1 p hp
 simp [wrong] at this
 omega
set_option maxHeartbeats 4000000 in
theorem call14 (r : Int) (t1 : Tag) (E : List (Int × Int)) (t2 : Tag) (M : List (Int × Int)) (hE : E.length ≤ 1000000) (hM : M.length ≤ 1000000) (t : Tag) (l : List Int) (hl : l.length ≤ 1000000) : Pure K 14 [.iv (gv r t1 E t2 M),.iv (.sl t (one i64 l))] (.iv (.bool (right r E M l))) := by
 have h16 := call16 r t1 E t2 M hE hM
 refine call_pure t14 rfl rfl ?_
 simp only [right]
 cases hm : may r E M
 ·rw [hm] at h16
  simp only [gv] at h16
  simp (config := { maxSteps := 4000000 }) (disch := omega) only [t14,go_sem,gv,cpR_pure h16]
 ·rw [hm] at h16
  simp only [gv] at h16
  by_cases hlr : (l.length : Int) = r
  ·obtain ⟨y5,y6,y10,y11,y12,e⟩ := loop14 (.iv (gv r t1 E t2 M)) [.cells 28 false [.iv (.sl t (one i64 l))]] t l hl (.lb (gcells r t1 E t2 M)) (.ptr 0 28 0) (.iv (.bool false)) (fun _ => rfl) l.length 0 (.tup []) (.tup []) (.tup []) (.tup []) (by omega)
   rw [show ((0 : Nat) : Int) = 0 from rfl,List.drop_zero] at e
   simp only [gv,gcells] at e
   have h25 := call25 t1 E hE 26 [.ptr 0 28 0] (clash l) [.cells 28 false [.iv (.sl t (one i64 l))]] rfl rfl (fun p hp => call26 r t1 E t2 M t l p (by have := (may_in hm).2 p hp; omega))
   cases ho : (List.range l.length).any (off l)
   ·rw [ho] at e
    simp only [Bool.false_eq_true,↓reduceIte] at e
    simp (config := { maxSteps := 4000000 }) (disch := omega) only [t14,go_sem,gv,cpR_pure h16,e,h25]
   ·rw [ho] at e
    simp only [↓reduceIte] at e
    simp (config := { maxSteps := 4000000 }) (disch := omega) only [t14,go_sem,gv,cpR_pure h16,e]
  ·simp (config := { maxSteps := 4000000 }) (disch := omega) only [t14,go_sem,gv,cpR_pure h16]
set_option maxHeartbeats 8000000 in
theorem loop12a (g : TV) (t1 : Tag) (E : List (Int × Int)) (t2 : Tag) (M : List (Int × Int)) (t : Tag) (l : List Int) (hl : l.length ≤ 1000000) (a5 a6 a7 a10 a11 : TV) : ∀ (k i : Nat) (x8 x9 : TV),i + k = l.length →
  ∃ y4 y8 y9,lp' (lim K) t12L1 [g,.iv (.sl t (one i64 l)),.lb (gcells l.length t1 E t2 M),.iv (.bool false),.iv (.int .i64 i),a5,a6,a7,x8,x9,a10,a11] [] = .ret (if ((List.range l.length).drop i).any (off l) then (.ret,[g,.iv (.sl t (one i64 l)),.lb (gcells l.length t1 E t2 M),.iv (.bool false),y4,a5,a6,a7,y8,y9,a10,a11],[]) else (.exit 0,[g,.iv (.sl t (one i64 l)),.lb (gcells l.length t1 E t2 M),.iv (.bool false),y4,a5,a6,a7,y8,y9,a10,a11],[]))
 | 0,i,x8,x9,h => by
  obtain rfl : i = l.length := by omega
  have e : ((List.range l.length).drop l.length).any (off l) = false := by rw [List.drop_of_length_le (by simp)]; rfl
  refine ⟨?_,?_,?_,loop_at K _ _ t12L1.eq_1 ?_⟩
  rotate_left 3
  ·simp (disch := omega) only [go_sem,gcells,e]
   rfl
 | k + 1,i,x8,x9,h => by
  have hx := ix_one (f := i64) (t := t) (l := l) (i := (i : Int)) (by omega)
  rw [show (default : Int) = 0 from rfl,Int.toNat_natCast] at hx
  have e := range_any (q := off l) l.length i (by omega)
  have ih := loop12a g t1 E t2 M t l hl a5 a6 a7 a10 a11 k (i + 1)
  cases ho : off l i
  ·obtain ⟨y4,y8,y9,ih⟩ := ih (.iv (.bool true)) (.iv (.bool false)) (by omega)
   rw [ho,Bool.false_or] at e
   rw [e]
   refine ⟨y4,y8,y9,loop_at K _ _ t12L1.eq_1 ?_⟩
   simp only [off] at ho
   simp only [gcells] at ih ⊢
   generalize l.getD i 0 = c at *
   by_cases h32 : i < 32
   ·simp only [h32,↓reduceIte,bne_eq_false_iff_eq] at ho
    simp (config := { maxSteps := 4000000 }) (disch := omega) only [go_sem,gcells,hx,i64,wrap_i64]
    exact congrArg er ih
   ·simp only [h32,↓reduceIte,Bool.and_eq_false_iff,bne_eq_false_iff_eq,Bool.or_eq_false_iff,decide_eq_false_iff_not] at ho
    by_cases hm : c = -1
    ·simp (config := { maxSteps := 4000000 }) (disch := omega) only [go_sem,gcells,hx,i64,wrap_i64]
     exact congrArg er ih
    ·simp (config := { maxSteps := 4000000 }) (disch := omega) only [go_sem,gcells,hx,i64,wrap_i64]
     exact congrArg er ih
  ·rw [ho,Bool.true_or] at e
   rw [e]
   refine ⟨.iv (.int .i64 i),.iv (.bool true),.iv (.bool true),loop_at K _ _ t12L1.eq_1 ?_⟩
   simp only [off] at ho
   simp only [↓reduceIte,gcells]
   generalize l.getD i 0 = c at *
   by_cases h32 : i < 32
   ·simp only [h32,↓reduceIte,bne_iff_ne] at ho
    simp (config := { maxSteps := 4000000 }) (disch := omega) only [go_sem,gcells,hx,i64,wrap_i64]
   ·simp only [h32,↓reduceIte,Bool.and_eq_true,bne_iff_ne,Bool.or_eq_true,decide_eq_true_eq] at ho
    by_cases hm : c < 1
    ·simp (config := { maxSteps := 4000000 }) (disch := omega) only [go_sem,gcells,hx,i64,wrap_i64]
    ·simp (config := { maxSteps := 4000000 }) (disch := omega) only [go_sem,gcells,hx,i64,wrap_i64]
set_option maxHeartbeats 8000000 in
theorem loop12b (g : TV) (t1 : Tag) (E : List (Int × Int)) (hE : E.length ≤ 1000000) (t2 : Tag) (M : List (Int × Int)) (t : Tag) (l : List Int) (hl : l.length ≤ 1000000) (hin : ∀ p ∈ E,(0 ≤ p.1 ∧ p.1 < l.length) ∧ (0 ≤ p.2 ∧ p.2 < l.length)) (a4 a7 a8 a9 : TV) : ∀ (k i : Nat) (x6 x10 x11 : TV),i + k = E.length →
  ∃ y5 y6 y10 y11,lp' (lim K) t12L0 [g,.iv (.sl t (one i64 l)),.lb (gcells l.length t1 E t2 M),.iv (.bool false),a4,.iv (.int .i64 i),x6,a7,a8,a9,x10,x11] [] = .ret (if (E.drop i).any (clash l) then (.ret,[g,.iv (.sl t (one i64 l)),.lb (gcells l.length t1 E t2 M),.iv (.bool false),a4,y5,y6,a7,a8,a9,y10,y11],[]) else (.exit 2,[g,.iv (.sl t (one i64 l)),.lb (gcells l.length t1 E t2 M),.iv (.bool false),a4,y5,y6,a7,a8,a9,y10,y11],[]))
 | 0,i,x6,x10,x11,h => by
  obtain rfl : i = E.length := by omega
  have e : (E.drop E.length).any (clash l) = false := by rw [List.drop_of_length_le (by simp)]; rfl
  refine ⟨?_,?_,?_,?_,loop_at K _ _ t12L0.eq_1 ?_⟩
  rotate_left 4
  ·simp (disch := omega) only [go_sem,gcells,e,List.length_map]
   rfl
 | k + 1,i,x6,x10,x11,h => by
  have hd : E.drop i = E.getD i default :: E.drop (i + 1) := by
   rw [List.drop_eq_getElem_cons (by omega)]
   simp [List.getD,List.getElem?_eq_getElem (show i < E.length by omega)]
  have hg := ix_map (w := 2) (f := enc2) (fun _ => rfl) (t := t1) (l := E) (i := (i : Int)) (by omega)
  rw [Int.toNat_natCast] at hg
  have hp := hin (E.getD i default) (by simp only [List.getD,List.getElem?_eq_getElem (show i < E.length by omega),Option.getD_some]; exact List.getElem_mem _)
  have ih := loop12b g t1 E hE t2 M t l hl hin a4 a7 a8 a9 k (i + 1)
  have e : (E.drop i).any (clash l) = (clash l (E.getD i default) || (E.drop (i + 1)).any (clash l)) := by rw [hd,List.any_cons]
  generalize E.getD i default = p at *
  have hz : addOff (.iv (.cp (enc2 p))) 0 = some (.iv (.cp [.int .i64 p.1,.int .i64 p.2])) := rfl
  have hz1 : addOff (.iv (.cp (enc2 p))) 1 = some (.iv (.cp [.int .i64 p.2])) := rfl
  have h1 := ix_one (f := i64) (t := t) (l := l) (i := p.1) hp.1
  have h2 := ix_one (f := i64) (t := t) (l := l) (i := p.2) hp.2
  rw [show (default : Int) = 0 from rfl] at h1 h2
  rw [e]
  have hcl : ∀ b,clash l p = b → ((l.getD p.1.toNat 0 == l.getD p.2.toNat 0) && (l.getD p.1.toNat 0 != -1)) = b := fun b hb => hb
  generalize clash l p = cl at *
  have ho := hcl cl rfl
  clear hcl
  cases cl
  ·obtain ⟨y5,y6,y10,y11,ih⟩ := ih (.iv (.int .i64 (l.getD p.1.toNat 0))) (.iv (.bool true)) (.iv (.bool false)) (by omega)
   refine ⟨y5,y6,y10,y11,loop_at K _ _ t12L0.eq_1 ?_⟩
   simp only [gcells] at ih ⊢
   rw [Bool.false_or]
   generalize l.getD p.1.toNat 0 = a at *
   generalize l.getD p.2.toNat 0 = b at *
   simp only [Bool.and_eq_false_iff,beq_eq_false_iff_ne,bne_eq_false_iff_eq] at ho
   by_cases e1 : a = b
   ·simp (config := { maxSteps := 4000000 }) (disch := omega) only [go_sem,gcells,List.length_map,hg,hz,hz1,h1,h2,i64,wrap_i64]
    exact congrArg er ih
   ·simp (config := { maxSteps := 4000000 }) (disch := omega) only [go_sem,gcells,List.length_map,hg,hz,hz1,h1,h2,i64,wrap_i64]
    exact congrArg er ih
  ·refine ⟨.iv (.int .i64 i),.iv (.int .i64 (l.getD p.1.toNat 0)),.iv (.bool true),.iv (.bool true),loop_at K _ _ t12L0.eq_1 ?_⟩
   rw [Bool.true_or]
   simp only [↓reduceIte,gcells]
   generalize l.getD p.1.toNat 0 = a at *
   generalize l.getD p.2.toNat 0 = b at *
   simp only [Bool.and_eq_true,beq_iff_eq,bne_iff_ne] at ho
   simp (config := { maxSteps := 4000000 }) (disch := omega) only [go_sem,gcells,List.length_map,hg,hz,hz1,h1,h2,i64,wrap_i64]
set_option maxHeartbeats 8000000 in
theorem call12 (r : Int) (t1 : Tag) (E : List (Int × Int)) (t2 : Tag) (M : List (Int × Int)) (hE : E.length ≤ 400) (hM : M.length ≤ 400) (t : Tag) (l : List Int) (hl : l.length ≤ 1000000) : Pure K 12 [.iv (gv r t1 E t2 M),.iv (.sl t (one i64 l))] (.iv (.bool (right r E M l))) := by
 have h11 := call11 r t1 E t2 M hE hM
 refine call_pure t12 rfl rfl ?_
 simp only [right]
 cases hm : may r E M
 ·rw [hm] at h11
  simp only [gv] at h11
  simp (config := { maxSteps := 4000000 }) (disch := omega) only [t12,go_sem,gv,cpR_pure h11]
 ·rw [hm] at h11
  simp only [gv] at h11
  by_cases hlr : (l.length : Int) = r
  ·subst hlr
   obtain ⟨y4,y8,y9,e⟩ := loop12a (.iv (gv l.length t1 E t2 M)) t1 E t2 M t l hl (.tup []) (.tup []) (.iv (.bool false)) (.tup []) (.tup []) l.length 0 (.tup []) (.tup []) (by omega)
   rw [show ((0 : Nat) : Int) = 0 from rfl,List.drop_zero] at e
   simp only [gv,gcells] at e
   cases ho : (List.range l.length).any (off l)
   ·rw [ho] at e
    simp only [Bool.false_eq_true,↓reduceIte] at e
    obtain ⟨y5,y6,y10,y11,e2⟩ := loop12b (.iv (gv l.length t1 E t2 M)) t1 E (by omega) t2 M t l hl (fun p hp => by have := (may_in hm).2 p hp; omega) y4 (.iv (.bool false)) y8 y9 E.length 0 (.tup []) (.tup []) (.tup []) (by omega)
    rw [show ((0 : Nat) : Int) = 0 from rfl,List.drop_zero] at e2
    simp only [gv,gcells] at e2
    cases hc : E.any (clash l)
    ·rw [hc] at e2
     simp only [Bool.false_eq_true,↓reduceIte] at e2
     simp (config := { maxSteps := 4000000 }) (disch := omega) only [t12,go_sem,gv,cpR_pure h11,e,e2]
    ·rw [hc] at e2
     simp only [↓reduceIte] at e2
     simp (config := { maxSteps := 4000000 }) (disch := omega) only [t12,go_sem,gv,cpR_pure h11,e,e2]
   ·rw [ho] at e
    simp only [↓reduceIte] at e
    simp (config := { maxSteps := 4000000 }) (disch := omega) only [t12,go_sem,gv,cpR_pure h11,e]
  ·simp (config := { maxSteps := 4000000 }) (disch := omega) only [t12,go_sem,gv,cpR_pure h11]
theorem call7 (r : Int) (t1 : Tag) (E : List (Int × Int)) (t2 : Tag) (M : List (Int × Int)) : (lim K).call 7 [.iv (gv r t1 E t2 M)] [] = .ret (.iv (.bool (decide (r ≤ 70) && (decide (E.length ≤ 400) && decide (M.length ≤ 400)))),[]) := by
 refine call_ret' K _ (fn := t7) rfl rfl ?_
 simp (config := { maxSteps := 4000000 }) (disch := omega) only [t7,go_sem,gv,List.length_map]
 repeat' (first | (first | refine br_dec' (fun h => ?_) (fun h => ?_) | refine br_beq' (fun h => ?_) (fun h => ?_) | refine br_bne' (fun h => ?_) (fun h => ?_) | refine br_eq' (fun h => ?_) (fun h => ?_)) | simp (disch := omega) only [go_sem,List.length_map])
 all_goals (congr 4; simp [*] <;> omega)
theorem loop9m {a : Ad} {lv : TV} {l : List Nat} (hlv : ListV lv l) (hll : l.length ≤ 1000000) (jp : Nat) (hpo : jp ∉ a.own) (r : Nat) (x0 x1 x2 x6 x7 x8 x9 x14 x15 x16 : TV) :
  ∀ (k i : Nat) (p : Pn) (S : Store) (x5 x13 : TV),i + k = l.length → (∀ m ∈ l,m < p.n) → PT S a p → S[jp]? = some (.cells 40 false [.ptr a.ip 44 0]) →
  ∃ y5 y13 S' out',lp' (lim K) t9L0 (e9 jp x0 x1 x2 (.iv (.int .i64 r)) x5 x6 x7 x8 x9 lv (.iv (.int .i64 l.length)) (.iv (.int .i64 i)) x13 x14 x15 x16) S
   = .ret (.exit 2,e9 jp x0 x1 x2 (.iv (.int .i64 r)) y5 x6 x7 x8 x9 lv (.iv (.int .i64 l.length)) (.iv (.int .i64 l.length)) y13 x14 x15 x16,S') ∧ PT S' a { p with out := out' } ∧ S'[jp]? = some (.cells 40 false [.ptr a.ip 44 0]) ∧ ∀ m,out' m = if m ∈ l.drop i then (r : Int) else p.out m
 | 0,i,p,S,x5,x13,h,hln,hP,hp => by
  obtain rfl : i = l.length := by omega
  refine ⟨x5,.iv (.bool false),S,p.out,?_,hP,hp,fun m => by rw [List.drop_length]; simp⟩
  unfold e9
  refine loop_at K _ _ t9L0.eq_1 ?_
  rcases hlv with ⟨t,rfl⟩ | ⟨j,rfl⟩
  ·simp (config := { maxSteps := 4000000 }) (disch := omega) only [go_sem]
  ·simp (config := { maxSteps := 4000000 }) (disch := omega) only [go_sem]
 | k + 1,i,p,S,x5,x13,h,hln,hP,hp => by
  have hla : i < l.length := by omega
  have hdr : l.drop i = l.getD i default :: l.drop (i + 1) := by
   rw [List.drop_eq_getElem_cons hla]
   simp [List.getD,List.getElem?_eq_getElem hla]
  have hx1 := fun t => ix_encN (t := t) hla
  have hx2 := fun j => ix_encT (j := j) hla
  have hr : l.getD i default < p.n := hln _ (getD_mem hla)
  generalize l.getD i default = w at *
  have hP1 := hP.setOut w r
  have b1 := hP.blk
  have b2 := hP.out
  have i1 := ix_cF (j := a.ju) (v := 0) hr
  have s1 := put_cF (fun r => vI (p.out r)) (vI r) hr
  simp only [pcells] at b1
  have hp1 : (S.set a.ju (.cells 0 false (cF p.n (upd (fun r => vI (p.out r)) w (vI r)))))[jp]? = some (.cells 40 false [.ptr a.ip 44 0]) := by
   rw [get_setN (fun e => hpo (by rw [← e]; simp [Ad.own]))]; exact hp
  obtain ⟨y5,y13,S',out',ih,h1,h2,h3⟩ := loop9m hlv hll jp hpo r x0 x1 x2 x6 x7 x8 x9 x14 x15 x16 k (i + 1) { p with out := upd p.out w r } _ (.iv (.int .i64 w)) (.iv (.bool true)) (by omega) hln hP1 hp1
  rw [show ((i + 1 : Nat) : Int) = (i : Int) + 1 by omega] at ih
  simp only [vI] at b2 s1 ih
  refine ⟨y5,y13,S',out',?_,h1,h2,fun m => ?_⟩
  ·unfold e9 at ih ⊢
   refine loop_at K _ _ t9L0.eq_1 ?_
   rcases hlv with ⟨t,rfl⟩ | ⟨j,rfl⟩
   ·simp (config := { maxSteps := 4000000 }) (disch := omega) only [go_sem,hp,hx1,b1,b2,i1,s1,wrap_i64]
    exact congrArg er ih
   ·simp (config := { maxSteps := 4000000 }) (disch := omega) only [go_sem,hp,hx2,b1,b2,i1,s1,wrap_i64]
    exact congrArg er ih
  ·rw [h3 m,hdr]
   simp only [List.mem_cons]
   by_cases e : m ∈ l.drop (i + 1)
   ·rw [if_pos e,if_pos (.inr e)]
   ·rw [if_neg e]
    by_cases e2 : m = w
    ·subst e2; rw [upd_same,if_pos (.inl rfl)]
    ·rw [upd_ne _ _ e2,if_neg (by simp [e,e2])]
def O0 (p : Pn) (ρ : Nat → Nat) (i : Nat) (o : Nat → Int) : Prop := ∀ m,o m = if m < 32 then (if m < i then (m : Int) else 0) else if m < p.n ∧ ρ m < i then ((ρ m : Nat) : Int) else 0
theorem loop9 {a : Ad} {p : Pn} {ρ d : Nat → Nat} (hI : Inv p ρ d) (hpn : p.n ≤ 500000) (h32 : 32 ≤ p.n) (jp : Nat) (hpo : jp ∉ a.own) (x0 x1 x2 x6 x7 x14 x15 x16 : TV) :
  ∀ (k i : Nat) (o : Nat → Int) (S : Store) (x4 x5 x9 x10 x11 x12 x13 : TV),i + k = 32 → PT S a { p with out := o } → S[jp]? = some (.cells 40 false [.ptr a.ip 44 0]) → O0 p ρ i o →
  ∃ y4 y5 y9 y10 y11 y12 y13 S' o',lp' (lim K) t9L1 (e9 jp x0 x1 x2 x4 x5 x6 x7 (.iv (.int .i64 i)) x9 x10 x11 x12 x13 x14 x15 x16) S
   = .ret (.exit 0,e9 jp x0 x1 x2 y4 y5 x6 x7 (.iv (.int .i64 32)) y9 y10 y11 y12 y13 x14 x15 x16,S') ∧ PT S' a { p with out := o' } ∧ S'[jp]? = some (.cells 40 false [.ptr a.ip 44 0]) ∧ O0 p ρ 32 o'
 | 0,i,o,S,x4,x5,x9,x10,x11,x12,x13,h,hP,hp,ho => by
  obtain rfl : i = 32 := by omega
  refine ⟨x4,x5,.iv (.bool false),x10,x11,x12,x13,S,o,?_,hP,hp,ho⟩
  unfold e9
  refine loop_at K _ _ t9L1.eq_1 ?_
  rw [show ((32 : Nat) : Int) = 32 from rfl]
  simp (config := { maxSteps := 4000000 }) (disch := omega) only [go_sem]
 | k + 1,i,o,S,x4,x5,x9,x10,x11,x12,x13,h,hP,hp,ho => by
  have hin : i < p.n := by omega
  have hP1 := hP.setOut i i
  have b1 := hP.blk
  have b2 := hP.out
  have i1 := ix_cF (j := a.ju) (v := 0) hin
  have s1 := put_cF (fun r => vI (o r)) (vI i) hin
  simp only [pcells] at b1
  have hp1 : (S.set a.ju (.cells 0 false (cF p.n (upd (fun r => vI (o r)) i (vI i)))))[jp]? = some (.cells 40 false [.ptr a.ip 44 0]) := by
   rw [get_setN (fun e => hpo (by rw [← e]; simp [Ad.own]))]; exact hp
  have hu1 : Uf { p with out := upd o i i } ρ d := ⟨hI.uf.up,hI.uf.fix⟩
  obtain ⟨j,S2,c19,hk⟩ := call19 hP1 hu1 (by show p.n ≤ _; omega) h32 i
  have hp2 := hk.get _ _ (by simp) hp1
  have hml := mem_len p ρ i 32
  obtain ⟨y5,y13,S3,o3,l1,h1,h2,h3⟩ := loop9m (ListV.acc j (memFrom p ρ i 32)) (by omega) jp hpo i x0 x1 x2 x6 x7 (.iv (.int .i64 i)) (.iv (.bool true)) x14 x15 x16 (memFrom p ρ i 32).length 0 { p with out := upd o i i } S2 x5 x13 (by omega) (fun m hm => (mem_from.1 hm).2.1) (hP1.keep hk) hp2
  rw [show ((0 : Nat) : Int) = 0 from rfl] at l1
  rw [List.drop_zero] at h3
  have ho3 : O0 p ρ (i + 1) o3 := by
   intro m
   rw [h3 m]
   by_cases e : m ∈ memFrom p ρ i 32
   ·obtain ⟨g1,g2,g3⟩ := mem_from.1 e
    rw [if_pos e,if_neg (by omega),if_pos ⟨g2,by omega⟩,g3]
   ·rw [if_neg e]
    show upd o i (i : Int) m = _
    by_cases e2 : m = i
    ·subst e2; rw [upd_same,if_pos (by omega),if_pos (by omega)]
    ·rw [upd_ne _ _ e2,ho m]
     by_cases e3 : m < 32
     ·rw [if_pos e3,if_pos e3]
      by_cases e4 : m < i
      ·rw [if_pos e4,if_pos (by omega)]
      ·rw [if_neg e4,if_neg (by omega)]
     ·rw [if_neg e3,if_neg e3]
      have e5 : (m < p.n ∧ ρ m < i) ↔ (m < p.n ∧ ρ m < i + 1) := by
       constructor
       ·rintro ⟨g1,g2⟩; exact ⟨g1,by omega⟩
       ·rintro ⟨g1,g2⟩
        refine ⟨g1,?_⟩
        have : ρ m ≠ i := fun e6 => e (mem_from.2 ⟨by omega,g1,e6⟩)
        omega
      by_cases e6 : m < p.n ∧ ρ m < i
      ·rw [if_pos e6,if_pos (e5.1 e6)]
      ·rw [if_neg e6,if_neg (fun g => e6 (e5.2 g))]
  obtain ⟨y4,z5,y9,y10,y11,y12,z13,S',o',ih,g1,g2,g3⟩ := loop9 hI hpn h32 jp hpo x0 x1 x2 x6 x7 x14 x15 x16 k (i + 1) o3 S3 (.iv (.int .i64 i)) y5 (.iv (.bool true)) (acc j (encN (memFrom p ρ i 32))) (.iv (.int .i64 (memFrom p ρ i 32).length)) (.iv (.int .i64 (memFrom p ρ i 32).length)) y13 (by omega) h1 h2 ho3
  rw [show ((i + 1 : Nat) : Int) = (i : Int) + 1 by omega] at ih
  refine ⟨y4,z5,y9,y10,y11,y12,z13,S',o',?_,g1,g2,g3⟩
  have hla : ∀ q,locV q (acc j (encN (memFrom p ρ i 32))) = acc j (encN (memFrom p ρ i 32)) := fun q => locV_acc _ _ _
  have hlp : isLp (acc j (encN (memFrom p ρ i 32))) = false := by unfold acc; split <;> rfl
  have hle : ∀ S,lenV .sl S (acc j (encN (memFrom p ρ i 32))) = some (.iv (.int .i64 (memFrom p ρ i 32).length)) := fun S => by rw [lenV_acc,encN_len]
  have c19' : (lim K).call 19 [.ptr a.ip 44 0,.iv (.int .i64 i)] (S.set a.ju (.cells 0 false (cF p.n (upd (fun r => vI (o r)) i (vI i))))) = .ret (acc j (encN (memFrom p ρ i 32)),S2) := c19
  simp only [vI] at b2 s1 hp1 c19'
  unfold e9 at l1 ih ⊢
  refine loop_at K _ _ t9L1.eq_1 ?_
  simp (config := { maxSteps := 4000000 }) (disch := omega) only [go_sem,hp,b1,b2,i1,s1,hp1,c19',hla,hlp,hle,wrap_i64]
  rw [l1]
  simp (config := { maxSteps := 4000000 }) (disch := omega) only [go_sem,wrap_i64]
  exact congrArg er ih
structure ColS (n : Nat) (tE : Tag) (E : List (Int × Int)) (tM : Tag) (M : List (Int × Int)) (o : Nat → Int) : Prop where
 mach : ∀ m,m < 32 → o m = m
 virt : ∀ m,32 ≤ m → m < n → o m = -1 ∨ 1 ≤ o m ∧ o m ≤ 24
 edge : ∀ x y,x < n → y < n → adjL E x y = true → o x = o y → o x = -1
 spill : ∀ m,32 ≤ m → m < n → o m = -1 → ∀ d : Nat,1 ≤ d → d ≤ 24 → ∃ t,t < n ∧ adjL E m t = true ∧ o t = d
 nosp : Part (pn0 n tE E tM M) → ∀ m,32 ≤ m → m < n → o m ≠ -1
theorem fin_rfR_all {K : Prog} {O : Orc} {n : Nat} {env : Env} {fs : List Fr} {rs : List TRes} {P R : TV × Store → Prop} {X : Out (TV × Store)} (hX : X.All P) (h : ∀ v S,P (v,S) → (fin' rs (rfR K O n env fs (.ret (v,S)))).All R) : (fin' rs (rfR K O n env fs X)).All R := by
 have e : ∀ Y : Out (TV × Store),Y.All P → (fin rs ((er Y).bind fun r => rfB K O n env fs r.2 (r.2[n]?))).All R := by
  intro Y
  induction Y with
  | ret r => intro hr; have := h r.1 r.2 hr; unfold fin' rfR at this; exact this
  | fail s => intro hr; exact hr.elim
  | pick m q ih => intro hr j hj; exact ih j (hr j hj)
 unfold fin' rfR
 exact e X hX
theorem elems_cF {S : Store} {j v n : Nat} {o : Nat → Int} (h : S[j]? = some (.cells v false (cF n fun r => vI (o r)))) : elemsIV S (.msl j v 0 n n 1) = some (TM.one (.int .i64) ((List.range n).map o)) := by
 have e1 : sub (cF n fun r => vI (o r)) 0 (n * 1) = some (cF n fun r => vI (o r)) := sub_all (by simp [cF_len])
 have e2 : toIVs (cF n fun r => vI (o r)) = some ((List.range n).map fun r => IV.int .i64 (o r)) := by
  have : (cF n fun r => vI (o r)) = ((List.range n).map fun r => IV.int .i64 (o r)).map .iv := by rw [List.map_map]; rfl
  rw [this,toIVs_ivs]
 have e3 : ∀ l : List Nat,chunks 1 l.length (l.map fun r => IV.int .i64 (o r)) = TM.one (.int .i64) (l.map o) := by
  intro l
  induction l with
  | nil => rfl
  | cons a r ih => simp only [List.map_cons,List.length_cons,chunks,List.take_succ_cons,List.take_zero,List.drop_succ_cons,List.drop_zero,ih]; rfl
 have e4 := e3 (List.range n)
 rw [List.length_range] at e4
 simp only [elemsIV,h,ne_eq,not_true_eq_false,↓reduceIte,e1,e2,Option.map_some,e4]
theorem may_ok {r : Int} {E M : List (Int × Int)} (h : may r E M = true) : ∃ n : Nat,r = n ∧ 32 ≤ n ∧ EdOK n E ∧ OkM n M := by
 unfold may at h
 simp only [Bool.and_eq_true,decide_eq_true_eq,Bool.not_eq_true'] at h
 obtain ⟨h1,h2,h3⟩ := h
 refine ⟨r.toNat,by omega,by omega,fun e he => ?_,fun m hm => ?_⟩
 ·have := List.any_eq_false.1 h2 e he
  simp [wrong] at this
  exact ⟨e.1.toNat,e.2.toNat,by omega,by omega,by omega,by omega,by omega⟩
 ·have := List.any_eq_false.1 h3 m hm
  simp [wrong] at this
  exact ⟨m.1.toNat,m.2.toNat,by omega,by omega,⟨by omega,by omega⟩,⟨by omega,by omega⟩⟩
theorem call32 {a : Ad} {p : Pn} {ρ d : Nat → Nat} (hu : Uf p ρ d) (hpn : p.n ≤ 500000) (h32 : 32 ≤ p.n) {s jp jb jo : Nat} {out : List Nat} (hol : out.length ≤ 1000000) (hpo : jp ∉ a.own) (hbo : jb ∉ a.own) (hbs : jb ≠ s) (x0 x2 x4 x5 x6 x7 x8 x9 x10 x11 x12 x13 x14 x15 x16 : TV) (o : Nat → Int) (S : Store) (hP : PT S a { p with out := o }) (hs : S[s]? = some (.lp .ready none (e9 jp x0 .hole x2 x4 x5 x6 x7 x8 x9 x10 x11 x12 x13 x14 x15 x16) [15,16] rfA rfC)) (hp : S[jp]? = some (.cells 40 false [.ptr a.ip 44 0])) (hb : S[jb]? = some (.cells 28 false [acc jo (encN out)])) :
  ((lim K).call 32 [.yld s,.ptr jb 28 0] S).All fun q => q.1 = .tup [] ∧ ∃ o',PT q.2 a { p with out := o' } ∧ PaintA p ρ out.reverse o o' ∧
   q.2[s]? = some (.lp .ready none (e9 jp x0 .hole x2 x4 x5 x6 x7 x8 x9 x10 x11 x12 x13 x14 x15 x16) [15,16] rfA rfC) ∧ q.2[jp]? = some (.cells 40 false [.ptr a.ip 44 0]) := by
 have l1 := loop32 (jo := jo) hu hpn h32 hol hpo hbo hbs x0 x2 x4 x5 x6 x7 x8 x9 x10 x11 x12 x13 x14 x15 x16 out.length o S (.tup []) (.tup []) (Nat.le_refl _) hP hs hp hb
 have hle : ∀ S,lenV .sl S (acc jo (encN out)) = some (.iv (.int .i64 out.length)) := fun S => by rw [lenV_acc,encN_len]
 have hla : ∀ q,locV q (acc jo (encN out)) = acc jo (encN out) := fun q => locV_acc _ _ _
 refine call_all' K _ (fn := t32) rfl rfl ?_
 simp (config := { maxSteps := 4000000 }) (disch := omega) only [t32,go_sem,TM.undef,hb,hle,hla,wrap_i64]
 refine fin_goL_all l1 ?_
 rintro j e S1 ⟨y2,y3,y4,o',e1,e2,g1,g2,g3,g4⟩
 dsimp only at e1 e2 g1 g3 g4
 subst e1 e2
 rw [List.take_length] at g2
 simp (config := { maxSteps := 4000000 }) (disch := omega) only [go_sem]
 exact all_ret ⟨rfl,o',g1,g2,g3,g4⟩
def ColR (r : Int) (tE : Tag) (E : List (Int × Int)) (tM : Tag) (M : List (Int × Int)) (v : TV) : Prop :=
 (may r E M = false ∧ v = .iv (.sl .nil [])) ∨ (may r E M = true ∧ ∃ (n : Nat) (o : Nat → Int),r = n ∧ 32 ≤ n ∧ v = .iv (.sl .no (TM.one (.int .i64) ((List.range n).map o))) ∧ ColS n tE E tM M o)
theorem col_fin {n : Nat} {tE : Tag} {E : List (Int × Int)} {tM : Tag} {M : List (Int × Int)} (hok : EdOK n E) {to : Nat → Nat} {near : Nat → Nat → Bool} {ρ d : Nat → Nat} (hI : Inv { pn0 n tE E tM M with to := to,near := near } ρ d) (hpart : Part (pn0 n tE E tM M) → Part { pn0 n tE E tM M with to := to,near := near })
  {l : List Nat} (hl : OrdP { pn0 n tE E tM M with to := to,near := near } l) {o1 o' : Nat → Int} (h0 : O0 { pn0 n tE E tM M with to := to,near := near } ρ 32 o1) (hp : PaintA { pn0 n tE E tM M with to := to,near := near } ρ l.reverse o1 o') : ColS n tE E tM M o' := by
 have hO : Own { pn0 n tE E tM M with to := to,near := near } := ⟨fun r s h => by rw [← h]; exact adjL_sym E s r,fun r => by
  cases h : ({ pn0 n tE E tM M with to := to,near := near } : Pn).own r r with
  | false => rfl
  | true => exact absurd rfl (adjL_ok hok h).1,fun r s h => (adjL_ok hok h).2.1⟩
 have hv : ∀ m,m < n → m < 32 → ρ m = m := fun m hm h32 => hI.uf.fix m hm (hI.mach m hm h32)
 have e0 : ∀ m,o1 m = if m < 32 then (m : Int) else if m < n ∧ ρ m < 32 then ((ρ m : Nat) : Int) else 0 := fun m => by
  rw [h0 m]
  by_cases e : m < 32
  ·rw [if_pos e,if_pos e,if_pos e]
  ·rw [if_neg e,if_neg e]; rfl
 have hP0 : PI { pn0 n tE E tM M with to := to,near := near } ρ [] o1 := by
  refine ⟨fun m hm => by rw [e0,if_pos hm],fun m h1 h2 h3 => by rw [e0,if_neg (by omega),if_pos ⟨h2,h3⟩],fun m h1 h2 h3 h4 => (by cases h4),fun m h1 h2 h3 h4 => by rw [e0,if_neg (by omega),if_neg (by omega)],fun x y hx hy hxy he => ?_,fun m h1 h2 h3 => ?_,fun hp m h1 h2 => ?_⟩
  ·have hn := hI.img x y hx hy hxy
   have hx' : x < n := hx
   have hy' : y < n := hy
   have key : ∀ z,z < n → 0 < o1 z → o1 z = (ρ z : Nat) := fun z hz h => by
    rw [e0] at h ⊢
    by_cases e : z < 32
    ·rw [if_pos e,hv z hz e]
    ·rw [if_neg e] at h ⊢
     by_cases e2 : z < n ∧ ρ z < 32
     ·rw [if_pos e2]
     ·rw [if_neg e2] at h; omega
   apply Classical.byContradiction
   intro hle
   have h1 := key x hx' (by omega)
   have h2 := key y hy' (by omega)
   have : ρ x = ρ y := by omega
   rw [this,hI.irr] at hn; cases hn
  ·rw [e0,if_neg (by omega)] at h3
   split at h3 <;> omega
  ·have hρ := hI.rt h2
   have h2' : m < n := h2
   have hρn : ρ m < n := hρ.1
   have hρρ : ρ (ρ m) = ρ m := hI.uf.fix _ hρ.1 hρ.2
   refine ⟨?_,?_⟩
   ·rw [e0 m,e0 (ρ m),if_neg (by omega)]
    by_cases e : ρ m < 32
    ·rw [if_pos ⟨h2',e⟩,if_pos e]
    ·rw [if_neg (by omega),if_neg e,if_neg (by rw [hρρ]; omega)]
   ·rw [e0,if_neg (by omega)]; split <;> omega
 have hP := PI.all hI hO hl hp [] (by simp) hP0
 have hroot : ∀ m,32 ≤ m → m < n → 32 ≤ ρ m → ρ m ∈ l := fun m h1 h2 h3 => by
  have := hI.rt (r := m) h2
  exact (hl.all _).2 ⟨h3,this.1,this.2⟩
 refine ⟨hP.mach,fun m h1 h2 => ?_,fun x y hx hy hxy he => ?_,hP.spill,fun hp0 m h1 h2 => (hP.same (hpart hp0) m h1 h2).2⟩
 ·by_cases e : ρ m < 32
  ·right
   rw [hP.low m h1 h2 e]
   have := (hI.low m h2 ⟨h2,.inr h1⟩).2
   omega
  ·exact hP.don m h1 h2 (by omega) (hroot m h1 h2 (by omega))
 ·have hle := hP.edge x y hx hy hxy he
  obtain ⟨_,hxv,_,_⟩ := adjL_ok hok hxy
  rcases hxv.2 with h | h
  ·rw [hP.mach x (by omega)] at hle; omega
  ·by_cases e : ρ x < 32
   ·have := hP.low x h hx e
    have := (hI.low x hx ⟨hx,.inr h⟩).2
    omega
   ·rcases hP.don x h hx (by omega) (hroot x h hx (by omega)) with h1 | h1
    ·exact h1
    ·omega
theorem PT.lt {S : Store} {a : Ad} {p : Pn} (h : PT S a p) : ∀ i ∈ a.own,i < S.length := by
 intro i hi
 simp only [Ad.own,List.mem_cons,List.not_mem_nil,or_false] at hi
 rcases hi with rfl | rfl | rfl | rfl | rfl
 ·exact lt_get h.blk
 ·exact lt_get h.near
 ·exact lt_get h.own
 ·exact lt_get h.to
 ·exact lt_get h.out
theorem set_app1 (S : Store) (b b' : Block) : (S ++ [b]).set S.length b' = S ++ [b'] := by simp
theorem call9 (r : Int) (tE : Tag) (E : List (Int × Int)) (tM : Tag) (M : List (Int × Int)) (hr : r ≤ 100000) (hE : E.length ≤ 1000000) (hM : M.length ≤ 1000000) : PureA K 9 [.iv (gv r tE E tM M)] (ColR r tE E tM M) := by
 have c16 := call16 r tE E tM M hE hM
 unfold PureA
 refine call_all' K _ (fn := t9) rfl rfl ?_
 cases hm : may r E M with
 | false =>
  rw [hm] at c16
  unfold gv at c16 ⊢
  simp (config := { maxSteps := 4000000 }) (disch := omega) only [t9,go_sem,TM.undef,cpR_pure c16]
  exact all_ret ⟨_,rfl,.inl ⟨hm,rfl⟩⟩
 | true =>
  rw [hm] at c16
  obtain ⟨n,rfl,h32,hok,hokM⟩ := may_ok hm
  have hn : n ≤ 100000 := by omega
  obtain ⟨S1,a,c17,hP1⟩ := call17 (tE := tE) (tM := tM) (M := M) (n := n) (by omega) h32 hE hok
  have hlt := hP1.lt
  have hjp : S1.length ∉ a.own := fun h => by have := hlt _ h; omega
  have hP2 := hP1.keep (Keep.app [] S1 [Block.cells 40 false [.ptr a.ip 44 0]])
  have hp2 := get_app1 S1 (Block.cells 40 false [.ptr a.ip 44 0])
  have hg1 := get_app1 S1 (Block.cells 40 false [.iv .nilp])
  have hsa := set_app1 S1 (Block.cells 40 false [.iv .nilp]) (Block.cells 40 false [.ptr a.ip 44 0])
  have c18 := call18 hP2 (inv0 (tE := tE) (tM := tM) (M := M) hok) (by show n ≤ _; omega) hM hokM
  generalize hS2 : S1 ++ [Block.cells 40 false [.ptr a.ip 44 0]] = S2 at *
  have hl2 : S1.length < S2.length := by rw [← hS2]; simp
  unfold gv at c16 c17 ⊢
  simp (config := { maxSteps := 4000000 }) (disch := omega) only [t9,go_sem,TM.undef,cpR_pure c16,c17,hg1,hsa,hS2,hp2]
  refine fin_csf_all c18 ?_
  rintro v S3 ⟨hv,nm,to,near,ρ,d,k3,hP3,hI,hpart,_,_⟩
  dsimp only at hv k3 hP3
  subst hv
  have hp3 := k3.get _ _ hp2 hjp (by simp)
  obtain ⟨y4,y5,y9,y10,y11,y12,y13,S4,o1,l4,hP4,hp4,ho1⟩ := loop9 (a := { a with nm := nm }) (p := { pn0 n tE E tM M with to := to,near := near }) hI (by show n ≤ _; omega) h32 S1.length hjp (.iv (.agg [.int .i64 n,.sl tE (E.map enc2),.sl tM (M.map enc2)])) (.lb [.iv (.int .i64 n),.iv (.sl tE (E.map enc2)),.iv (.sl tM (M.map enc2))]) (.iv (.sl .nil [])) (.tup []) (.iv (.bool false)) (.tup []) (.tup []) (.tup []) 32 0 (fun _ => 0) S3 (.tup []) (.tup []) (.tup []) (.tup []) (.tup []) (.tup []) (.tup []) (by omega) hP3 hp3 (fun m => by simp)
  rw [show ((0 : Nat) : Int) = 0 from rfl] at l4
  unfold e9 at l4
  have c21 := call21 hP4 ⟨⟨hI.uf.up,hI.uf.fix⟩,hI.sym,hI.irr,hI.root,hI.img,hI.mach,hI.low⟩ (by show n ≤ _; omega) h32
  simp (config := { maxSteps := 4000000 }) (disch := omega) only [go_sem]
  rw [l4]
  simp (config := { maxSteps := 4000000 }) (disch := omega) only [go_sem,hp4]
  refine fin_csf_all c21 ?_
  rintro v S5 ⟨l,jo,hv,k5,hl⟩
  dsimp only at hv k5
  subst hv
  have hla : ∀ q,locV q (acc jo (encN l)) = acc jo (encN l) := fun q => locV_acc _ _ _
  have hlp : isLp (acc jo (encN l)) = false := by unfold acc; split <;> rfl
  have c20 : (lim K).call 20 [acc jo (encN l)] S5 = .ret (.fn 32 [] [.ptr S5.length 28 0],S5 ++ [.cells 28 false [acc jo (encN l)]]) := by
   refine call_ret' K _ (fn := t20) rfl rfl ?_
   simp (config := { maxSteps := 4000000 }) (disch := omega) only [t20,go_sem,TM.undef,hla,hlp]
  simp (config := { maxSteps := 4000000 }) (disch := omega) only [go_sem,hla,hlp,c20]
  have hP5 := hP4.keep k5
  have hlt5 := hP5.lt
  have k6 := (Keep.app [] S5 [Block.cells 28 false [acc jo (encN l)]])
  have hb6 := get_app1 S5 (Block.cells 28 false [acc jo (encN l)])
  generalize hS6 : S5 ++ [Block.cells 28 false [acc jo (encN l)]] = S6 at *
  have hl6 : S6.length = S5.length + 1 := by rw [← hS6]; simp
  have k7 := Keep.app [] S6 [Block.lp LoopState.ready none (e9 S1.length (.iv (.agg [.int .i64 n,.sl tE (E.map enc2),.sl tM (M.map enc2)])) .hole (.iv (.sl .nil [])) (noLb y4) (noLb y5) (.tup []) (.iv (.bool false)) (.iv (.int .i64 32)) (noLb y9) (noLb y10) (noLb y11) (noLb y12) (noLb y13) (.fn 32 [] [.ptr S5.length 28 0]) (.tup []) (.tup [])) [15,16] rfA rfC]
  have hll : l.length ≤ 1000000 := by
   have h2 := nodup_len hl.nd (List.nodup_range.filter fun x => decide (x ∈ l)) (fun x => by
    rw [List.mem_filter,List.mem_range]
    simp only [decide_eq_true_eq]
    exact ⟨fun h => ⟨((hl.all x).1 h).2.1,h⟩,fun h => h.2⟩) (m := (List.range n).filter fun x => decide (x ∈ l))
   have h3 := List.length_filter_le (fun x => decide (x ∈ l)) (List.range n)
   simp only [List.length_range] at h3
   omega
  have c32 := call32 (a := { a with nm := nm }) (p := { pn0 n tE E tM M with to := to,near := near }) (jo := jo) hI.uf (by show n ≤ _; omega) h32 (s := S6.length) (jp := S1.length) (jb := S5.length) hll hjp (fun h => by have := hlt5 _ h; omega) (by omega) _ _ _ _ _ _ _ _ _ _ _ _ _ _ _ o1 _ ((hP5.keep k6).keep k7) (get_app1 _ _) (k7.get _ _ (by simp) (k6.get _ _ (by simp) (k5.get _ _ (by simp) hp4))) (k7.get _ _ (by simp) hb6)
  unfold e9 rfA rfC at c32
  refine fin_rfR_all c32 ?_
  rintro v S8 ⟨hv,o',hP8,hpa,hs8,hp8⟩
  dsimp only at hv hP8 hs8 hp8
  subst hv
  have hne : S6.length ≠ S1.length := blk_ne hs8 hp8 (by simp)
  have hP9 := fun b => hP8.busy hs8 b
  have b1 := fun b => (hP9 b).blk
  have hp9 := fun b : Block => (get_setN hne b).trans hp8
  have hel := fun b => elems_cF (hP9 b).out
  simp only [pcells] at b1
  simp (config := { maxSteps := 4000000 }) (disch := omega) only [go_sem,hs8,hp9,b1]
  refine all_ret ⟨_,?_,.inr ⟨hm,n,o',rfl,h32,rfl,col_fin hok hI hpart ⟨hl.nd,hl.all,hl.low⟩ ho1 hpa⟩⟩
  show TM.resolve _ (.msl a.ju 0 0 n n 1) = _
  rw [resolve_msl,show elemsIV _ (.msl a.ju 0 0 n n 1) = _ from hel _]
  rfl
theorem works1 : ((ex K 60).call 8 [] []).allB isTrue = true := by kernel_rfl
theorem works : ((lim K).call 8 [] []).All fun r => r.1 = .iv (.bool true) := lim_allB 60 8 works1
theorem worksA : PureA K 8 [] fun v => v = .iv (.bool true) := by
 refine Out.all_mono (fun r hr => ⟨_,?_,rfl⟩) works
 rw [hr,resolve_iv]
theorem ix_o {o : Nat → Int} {n i : Nat} (h : i < n) : indexAddrS 1 (.iv (.sl .no (TM.one (.int .i64) ((List.range n).map o)))) (i : Int) = some (.iv (.cp [.int .i64 (o i)])) := by
 have := ix_one (f := IV.int .i64) (t := .no) (l := (List.range n).map o) (i := (i : Int)) (by simp; omega)
 rw [Int.toNat_natCast] at this
 rw [this]
 congr 5
 simp [List.getD,h]
theorem len_o (o : Nat → Int) (n : Nat) : (TM.one (.int .i64) ((List.range n).map o)).length = n := by rw [TM.one_length]; simp
theorem drop_getI {l : List Int} {i : Nat} (h : i < l.length) : l.drop i = l.getD i default :: l.drop (i + 1) := by
 rw [List.drop_eq_getElem_cons h]
 simp [List.getD,List.getElem?_eq_getElem h]
theorem loop41 (t : Tag) (l : List Int) (n : Int) (hl : l.length ≤ 1000000000) (S : Store) : ∀ (k i : Nat) (x4 x5 : TV),i + k = l.length →
  ∃ j b y3 y4 y5,(j = .ret ∧ b = true ∧ n ∈ l.drop i ∨ j = .exit 0 ∧ b = false ∧ n ∉ l.drop i) ∧
   lp' (lim K) t41L0 [.iv (.sl t (TM.one (.int .i64) l)),.iv (.int .i64 n),.iv (.bool false),.iv (.int .i64 (i : Int)),x4,x5] S = .ret (j,[.iv (.sl t (TM.one (.int .i64) l)),.iv (.int .i64 n),.iv (.bool b),y3,y4,y5],S)
 | 0,i,x4,x5,h => by
  refine ⟨.exit 0,false,?_,?_,?_,.inr ⟨rfl,rfl,by rw [List.drop_eq_nil_of_le (by omega)]; simp⟩,loop_at K _ _ t41L0.eq_1 ?_⟩
  rotate_left 3
  ·simp (config := { maxSteps := 4000000 }) (disch := omega) only [go_sem,TM.one_length]
   rfl
 | k + 1,i,x4,x5,h => by
  have hla : i < l.length := by omega
  have hix := ix_one (f := IV.int .i64) (t := t) (l := l) (i := (i : Int)) (by omega)
  rw [Int.toNat_natCast] at hix
  have hdr := drop_getI hla
  by_cases hn : l.getD i default = n
  ·refine ⟨.ret,true,?_,?_,?_,.inl ⟨rfl,rfl,by rw [hdr,hn]; simp⟩,loop_at K _ _ t41L0.eq_1 ?_⟩
   rotate_left 3
   ·simp (config := { maxSteps := 4000000 }) (disch := omega) only [go_sem,TM.one_length,hix,hn]
    rfl
  ·obtain ⟨j,b,y3,y4,y5,hj,ih⟩ := loop41 t l n hl S k (i + 1) (.iv (.bool true)) (.iv (.bool false)) (by omega)
   rw [show ((i + 1 : Nat) : Int) = (i : Int) + 1 by omega] at ih
   refine ⟨j,b,y3,y4,y5,?_,loop_at K _ _ t41L0.eq_1 ?_⟩
   ·rw [hdr]
    simp only [List.mem_cons,Ne.symm hn,false_or]
    exact hj
   ·simp (config := { maxSteps := 4000000 }) (disch := omega) only [go_sem,TM.one_length,hix,hn,wrap_i64]
    exact congrArg er ih
theorem call41 (t : Tag) (l : List Int) (n : Int) (hl : l.length ≤ 1000000000) : Pure K 41 [.iv (.sl t (TM.one (.int .i64) l)),.iv (.int .i64 n)] (.iv (.bool (decide (n ∈ l)))) := by
 obtain ⟨j,b,y3,y4,y5,hj,ih⟩ := loop41 t l n hl [] l.length 0 (.tup []) (.tup []) (by omega)
 rw [show ((0 : Nat) : Int) = 0 from rfl,List.drop_zero] at *
 refine TM.pure_ret (S := []) (r := .iv (.bool (decide (n ∈ l)))) (call_ret' K _ (fn := t41) rfl rfl ?_) (by rw [resolve_iv])
 simp (config := { maxSteps := 4000000 }) (disch := omega) only [t41,go_sem,TM.undef]
 rw [ih]
 rcases hj with ⟨rfl,rfl,hm⟩ | ⟨rfl,rfl,hm⟩
 ·simp (config := { maxSteps := 4000000 }) (disch := omega) only [go_sem,hm]
 ·simp (config := { maxSteps := 4000000 }) (disch := omega) only [go_sem,hm]
def oneI (l : List Int) : List (List IV) := TM.one (.int .i64) l
theorem oneI_app (l : List Int) (v : Int) : oneI l ++ [[.int .i64 v]] = oneI (l ++ [v]) := by simp [oneI,TM.one]
theorem oneI_nil {l : List Int} : oneI l = [] ↔ l = [] := by simp [oneI,TM.one]
theorem oneI_len (l : List Int) : (oneI l).length = l.length := by simp [oneI,TM.one]
theorem oneI_el (l : List Int) : Elems 1 (oneI l) := Elems.one (fun _ => rfl) l
def oth (d : Int) (e : Int × Int) (r : Int) : Int := if e.2 = r then e.1 else if e.1 = r then e.2 else d
def nearG (r : Int) (there : List Int) : List (Int × Int) → List Int → List Int
 | [],l => l
 | e :: es,l => nearG r there es (if oth 0 e r ∉ l ∧ (1 ≤ oth 0 e r ∧ oth 0 e r ≤ 24 ∨ oth 0 e r ∈ there) then l ++ [oth 0 e r] else l)
theorem nearG_sub (r : Int) (there : List Int) : ∀ (E : List (Int × Int)) (l : List Int) (x : Int),x ∈ l → x ∈ nearG r there E l
 | [],l,x,h => h
 | e :: es,l,x,h => by
  rw [nearG]
  split
  ·exact nearG_sub r there es _ x (by simp [h])
  ·exact nearG_sub r there es _ x h
theorem nearG_mem (r : Int) (there : List Int) : ∀ (E : List (Int × Int)) (l : List Int) (e : Int × Int),e ∈ E → (1 ≤ oth 0 e r ∧ oth 0 e r ≤ 24 ∨ oth 0 e r ∈ there) → oth 0 e r ∈ nearG r there E l
 | [],l,e,h,_ => by cases h
 | e' :: es,l,e,h,hg => by
  rw [nearG]
  rcases List.mem_cons.1 h with rfl | h
  ·by_cases hm : oth 0 e r ∈ l
   ·rw [if_neg (fun h => h.1 hm)]
    exact nearG_sub r there es l _ hm
   ·rw [if_pos ⟨hm,hg⟩]
    exact nearG_sub r there es _ _ (by simp)
  ·split
   ·exact nearG_mem r there es _ e h hg
   ·exact nearG_mem r there es _ e h hg
theorem loop23 (x0 : TV) (c0 : TV) (tE : Tag) (E : List (Int × Int)) (hE : E.length ≤ 1000) (c2 : TV) (hc0 : isRefL c0 = false) (r : Int) (t : Tag) (there : List Int) (hth : there.length ≤ 1000000) (x4 : TV) : ∀ (k i : Nat) (l : List Int) (x7 x8 x9 x10 x11 : TV),i + k = E.length → l.length ≤ i →
  ∃ y7 y8 y9 y10 y11,lp' (lim K) t23L0 [x0,.iv (.int .i64 r),.iv (.sl t (TM.one (.int .i64) there)),.lb [c0,.iv (.sl tE (E.map enc2)),c2],x4,acc 0 (oneI l),.iv (.int .i64 i),x7,x8,x9,x10,x11] (accS 1 3 (oneI l))
   = .ret (.exit 0,[x0,.iv (.int .i64 r),.iv (.sl t (TM.one (.int .i64) there)),.lb [c0,.iv (.sl tE (E.map enc2)),c2],x4,acc 0 (oneI (nearG r there (E.drop i) l)),.iv (.int .i64 E.length),y7,y8,y9,y10,y11],accS 1 3 (oneI (nearG r there (E.drop i) l)))
 | 0,i,l,x7,x8,x9,x10,x11,h,hl => by
  obtain rfl : i = E.length := by omega
  refine ⟨x7,.iv (.bool false),x9,x10,x11,loop_at K _ _ t23L0.eq_1 ?_⟩
  rw [List.drop_length,nearG]
  simp (config := { maxSteps := 4000000 }) (disch := omega) only [go_sem,List.length_map]
 | k + 1,i,l,x7,x8,x9,x10,x11,h,hl => by
  have hla : i < E.length := by omega
  have hix := ix_map (w := 2) (f := enc2) (fun _ => rfl) (t := tE) (l := E) (i := (i : Int)) (by omega)
  rw [Int.toNat_natCast] at hix
  have hdr : E.drop i = E.getD i default :: E.drop (i + 1) := by
   rw [List.drop_eq_getElem_cons hla]
   simp [List.getD,List.getElem?_eq_getElem hla]
  generalize E.getD i default = e at *
  have hz : addOff (.iv (.cp (enc2 e))) 0 = some (.iv (.cp [.int .i64 e.1,.int .i64 e.2])) := rfl
  have hz1 : addOff (.iv (.cp (enc2 e))) 1 = some (.iv (.cp [.int .i64 e.2])) := rfl
  have c1 : ∀ v,Pure K 41 [.iv (.sl (sTag (oneI l)) (oneI l)),.iv (.int .i64 v)] (.iv (.bool (decide (v ∈ l)))) := fun v => call41 (sTag (oneI l)) l v (by omega)
  have c2' := fun v => call41 t there v (by omega)
  have e1 := fun v : Int => ap_acc (w := 1) (b := 8) (el := 3) (l := oneI l) (ys := [[.int .i64 v]]) (x := .iv (.sl .full [[.int .i64 v]])) (fun S => IsEl.sl S _ _) (by intro y hy; simp at hy; subst hy; exact ⟨rfl,rfl⟩) (oneI_el l) (roomy_ok (by rw [oneI_len]; simp; omega))
  simp only [oneI_app] at e1
  have ih := fun l' x7 x8 x9 x10 x11 => loop23 x0 c0 tE E hE c2 hc0 r t there hth x4 k (i + 1) l' x7 x8 x9 x10 x11 (by omega)
  rw [show ((i + 1 : Nat) : Int) = (i : Int) + 1 by omega] at ih
  rw [hdr,nearG]
  by_cases h2 : e.2 = r
  ·by_cases h1 : e.1 = r
   ·have hv : oth 0 e r = r := by rw [oth,if_pos h2,h1]
    rw [hv]
    have c1 := c1 r
    have c2' := c2' r
    have e1 := e1 r
    by_cases hm : r ∈ l
    ·rw [decide_eq_true hm] at c1
     rw [if_neg (fun h => h.1 hm)]
     obtain ⟨y7,y8,y9,y10,y11,ih⟩ := ih l (.iv (.int .i64 r)) (.iv (.bool true)) (.iv (.bool true)) (.iv (.bool true)) (.iv (.bool false)) (by omega)
     refine ⟨y7,y8,y9,y10,y11,loop_at K _ _ t23L0.eq_1 ?_⟩
     simp (config := { maxSteps := 4000000 }) (disch := omega) only [go_sem,List.length_map,hix,hz,hz1,h1,h2,cpR_pure c1,cpR_pure c2',e1,wrap_i64]
     exact congrArg er ih
    ·rw [decide_eq_false hm] at c1
     by_cases hr : 1 ≤ r ∧ (r ≤ 24)
     ·rw [if_pos ⟨hm,.inl hr⟩]
      have hr1 := hr.1
      have hr2 := hr.2
      obtain ⟨y7,y8,y9,y10,y11,ih⟩ := ih (l ++ [r]) (.iv (.int .i64 r)) (.iv (.bool true)) (.iv (.bool true)) (.iv (.bool true)) (.iv (.bool true)) (by simp; omega)
      refine ⟨y7,y8,y9,y10,y11,loop_at K _ _ t23L0.eq_1 ?_⟩
      simp (config := { maxSteps := 4000000 }) (disch := omega) only [go_sem,List.length_map,hix,hz,hz1,h1,h2,cpR_pure c1,cpR_pure c2',e1,wrap_i64]
      exact congrArg er ih
     ·have hcc : (decide (1 ≤ r) && decide (r ≤ 24)) = false := by simpa using hr
      by_cases ht : r ∈ there
      ·rw [decide_eq_true ht] at c2'
       rw [if_pos ⟨hm,.inr ht⟩]
       by_cases hr1 : 1 ≤ r
       ·have hr2 : ¬ r ≤ 24 := fun h => hr ⟨hr1,h⟩
        obtain ⟨y7,y8,y9,y10,y11,ih⟩ := ih (l ++ [r]) (.iv (.int .i64 r)) (.iv (.bool true)) (.iv (.bool true)) (.iv (.bool true)) (.iv (.bool true)) (by simp; omega)
        refine ⟨y7,y8,y9,y10,y11,loop_at K _ _ t23L0.eq_1 ?_⟩
        simp (config := { maxSteps := 4000000 }) (disch := omega) only [go_sem,List.length_map,hix,hz,hz1,h1,h2,cpR_pure c1,cpR_pure c2',e1,wrap_i64]
        exact congrArg er ih
       ·obtain ⟨y7,y8,y9,y10,y11,ih⟩ := ih (l ++ [r]) (.iv (.int .i64 r)) (.iv (.bool true)) (.iv (.bool true)) (.iv (.bool true)) (.iv (.bool true)) (by simp; omega)
        refine ⟨y7,y8,y9,y10,y11,loop_at K _ _ t23L0.eq_1 ?_⟩
        simp (config := { maxSteps := 4000000 }) (disch := omega) only [go_sem,List.length_map,hix,hz,hz1,h1,h2,cpR_pure c1,cpR_pure c2',e1,wrap_i64]
        exact congrArg er ih
      ·rw [decide_eq_false ht] at c2'
       rw [if_neg (fun h => h.2.elim hr ht)]
       by_cases hr1 : 1 ≤ r
       ·have hr2 : ¬ r ≤ 24 := fun h => hr ⟨hr1,h⟩
        obtain ⟨y7,y8,y9,y10,y11,ih⟩ := ih l (.iv (.int .i64 r)) (.iv (.bool true)) (.iv (.bool true)) (.iv (.bool true)) (.iv (.bool false)) (by omega)
        refine ⟨y7,y8,y9,y10,y11,loop_at K _ _ t23L0.eq_1 ?_⟩
        simp (config := { maxSteps := 4000000 }) (disch := omega) only [go_sem,List.length_map,hix,hz,hz1,h1,h2,cpR_pure c1,cpR_pure c2',e1,wrap_i64]
        exact congrArg er ih
       ·obtain ⟨y7,y8,y9,y10,y11,ih⟩ := ih l (.iv (.int .i64 r)) (.iv (.bool true)) (.iv (.bool true)) (.iv (.bool true)) (.iv (.bool false)) (by omega)
        refine ⟨y7,y8,y9,y10,y11,loop_at K _ _ t23L0.eq_1 ?_⟩
        simp (config := { maxSteps := 4000000 }) (disch := omega) only [go_sem,List.length_map,hix,hz,hz1,h1,h2,cpR_pure c1,cpR_pure c2',e1,wrap_i64]
        exact congrArg er ih
   ·have hv : oth 0 e r = e.1 := by rw [oth,if_pos h2]
    rw [hv]
    have c1 := c1 (e.1)
    have c2' := c2' (e.1)
    have e1 := e1 (e.1)
    by_cases hm : e.1 ∈ l
    ·rw [decide_eq_true hm] at c1
     rw [if_neg (fun h => h.1 hm)]
     obtain ⟨y7,y8,y9,y10,y11,ih⟩ := ih l (.iv (.int .i64 (e.1))) (.iv (.bool true)) (.iv (.bool false)) (.iv (.bool true)) (.iv (.bool false)) (by omega)
     refine ⟨y7,y8,y9,y10,y11,loop_at K _ _ t23L0.eq_1 ?_⟩
     simp (config := { maxSteps := 4000000 }) (disch := omega) only [go_sem,List.length_map,hix,hz,hz1,h1,h2,cpR_pure c1,cpR_pure c2',e1,wrap_i64]
     exact congrArg er ih
    ·rw [decide_eq_false hm] at c1
     by_cases hr : 1 ≤ e.1 ∧ (e.1 ≤ 24)
     ·rw [if_pos ⟨hm,.inl hr⟩]
      have hr1 := hr.1
      have hr2 := hr.2
      obtain ⟨y7,y8,y9,y10,y11,ih⟩ := ih (l ++ [e.1]) (.iv (.int .i64 (e.1))) (.iv (.bool true)) (.iv (.bool false)) (.iv (.bool true)) (.iv (.bool true)) (by simp; omega)
      refine ⟨y7,y8,y9,y10,y11,loop_at K _ _ t23L0.eq_1 ?_⟩
      simp (config := { maxSteps := 4000000 }) (disch := omega) only [go_sem,List.length_map,hix,hz,hz1,h1,h2,cpR_pure c1,cpR_pure c2',e1,wrap_i64]
      exact congrArg er ih
     ·have hcc : (decide (1 ≤ e.1) && decide (e.1 ≤ 24)) = false := by simpa using hr
      by_cases ht : e.1 ∈ there
      ·rw [decide_eq_true ht] at c2'
       rw [if_pos ⟨hm,.inr ht⟩]
       by_cases hr1 : 1 ≤ e.1
       ·have hr2 : ¬ e.1 ≤ 24 := fun h => hr ⟨hr1,h⟩
        obtain ⟨y7,y8,y9,y10,y11,ih⟩ := ih (l ++ [e.1]) (.iv (.int .i64 (e.1))) (.iv (.bool true)) (.iv (.bool false)) (.iv (.bool true)) (.iv (.bool true)) (by simp; omega)
        refine ⟨y7,y8,y9,y10,y11,loop_at K _ _ t23L0.eq_1 ?_⟩
        simp (config := { maxSteps := 4000000 }) (disch := omega) only [go_sem,List.length_map,hix,hz,hz1,h1,h2,cpR_pure c1,cpR_pure c2',e1,wrap_i64]
        exact congrArg er ih
       ·obtain ⟨y7,y8,y9,y10,y11,ih⟩ := ih (l ++ [e.1]) (.iv (.int .i64 (e.1))) (.iv (.bool true)) (.iv (.bool false)) (.iv (.bool true)) (.iv (.bool true)) (by simp; omega)
        refine ⟨y7,y8,y9,y10,y11,loop_at K _ _ t23L0.eq_1 ?_⟩
        simp (config := { maxSteps := 4000000 }) (disch := omega) only [go_sem,List.length_map,hix,hz,hz1,h1,h2,cpR_pure c1,cpR_pure c2',e1,wrap_i64]
        exact congrArg er ih
      ·rw [decide_eq_false ht] at c2'
       rw [if_neg (fun h => h.2.elim hr ht)]
       by_cases hr1 : 1 ≤ e.1
       ·have hr2 : ¬ e.1 ≤ 24 := fun h => hr ⟨hr1,h⟩
        obtain ⟨y7,y8,y9,y10,y11,ih⟩ := ih l (.iv (.int .i64 (e.1))) (.iv (.bool true)) (.iv (.bool false)) (.iv (.bool true)) (.iv (.bool false)) (by omega)
        refine ⟨y7,y8,y9,y10,y11,loop_at K _ _ t23L0.eq_1 ?_⟩
        simp (config := { maxSteps := 4000000 }) (disch := omega) only [go_sem,List.length_map,hix,hz,hz1,h1,h2,cpR_pure c1,cpR_pure c2',e1,wrap_i64]
        exact congrArg er ih
       ·obtain ⟨y7,y8,y9,y10,y11,ih⟩ := ih l (.iv (.int .i64 (e.1))) (.iv (.bool true)) (.iv (.bool false)) (.iv (.bool true)) (.iv (.bool false)) (by omega)
        refine ⟨y7,y8,y9,y10,y11,loop_at K _ _ t23L0.eq_1 ?_⟩
        simp (config := { maxSteps := 4000000 }) (disch := omega) only [go_sem,List.length_map,hix,hz,hz1,h1,h2,cpR_pure c1,cpR_pure c2',e1,wrap_i64]
        exact congrArg er ih
  ·by_cases h1 : e.1 = r
   ·have hv : oth 0 e r = e.2 := by rw [oth,if_neg h2,if_pos h1]
    rw [hv]
    have c1 := c1 (e.2)
    have c2' := c2' (e.2)
    have e1 := e1 (e.2)
    by_cases hm : e.2 ∈ l
    ·rw [decide_eq_true hm] at c1
     rw [if_neg (fun h => h.1 hm)]
     obtain ⟨y7,y8,y9,y10,y11,ih⟩ := ih l (.iv (.int .i64 (e.2))) (.iv (.bool true)) (.iv (.bool true)) (.iv (.bool false)) (.iv (.bool false)) (by omega)
     refine ⟨y7,y8,y9,y10,y11,loop_at K _ _ t23L0.eq_1 ?_⟩
     simp (config := { maxSteps := 4000000 }) (disch := omega) only [go_sem,List.length_map,hix,hz,hz1,h1,h2,cpR_pure c1,cpR_pure c2',e1,wrap_i64]
     exact congrArg er ih
    ·rw [decide_eq_false hm] at c1
     by_cases hr : 1 ≤ e.2 ∧ (e.2 ≤ 24)
     ·rw [if_pos ⟨hm,.inl hr⟩]
      have hr1 := hr.1
      have hr2 := hr.2
      obtain ⟨y7,y8,y9,y10,y11,ih⟩ := ih (l ++ [e.2]) (.iv (.int .i64 (e.2))) (.iv (.bool true)) (.iv (.bool true)) (.iv (.bool false)) (.iv (.bool true)) (by simp; omega)
      refine ⟨y7,y8,y9,y10,y11,loop_at K _ _ t23L0.eq_1 ?_⟩
      simp (config := { maxSteps := 4000000 }) (disch := omega) only [go_sem,List.length_map,hix,hz,hz1,h1,h2,cpR_pure c1,cpR_pure c2',e1,wrap_i64]
      exact congrArg er ih
     ·have hcc : (decide (1 ≤ e.2) && decide (e.2 ≤ 24)) = false := by simpa using hr
      by_cases ht : e.2 ∈ there
      ·rw [decide_eq_true ht] at c2'
       rw [if_pos ⟨hm,.inr ht⟩]
       by_cases hr1 : 1 ≤ e.2
       ·have hr2 : ¬ e.2 ≤ 24 := fun h => hr ⟨hr1,h⟩
        obtain ⟨y7,y8,y9,y10,y11,ih⟩ := ih (l ++ [e.2]) (.iv (.int .i64 (e.2))) (.iv (.bool true)) (.iv (.bool true)) (.iv (.bool false)) (.iv (.bool true)) (by simp; omega)
        refine ⟨y7,y8,y9,y10,y11,loop_at K _ _ t23L0.eq_1 ?_⟩
        simp (config := { maxSteps := 4000000 }) (disch := omega) only [go_sem,List.length_map,hix,hz,hz1,h1,h2,cpR_pure c1,cpR_pure c2',e1,wrap_i64]
        exact congrArg er ih
       ·obtain ⟨y7,y8,y9,y10,y11,ih⟩ := ih (l ++ [e.2]) (.iv (.int .i64 (e.2))) (.iv (.bool true)) (.iv (.bool true)) (.iv (.bool false)) (.iv (.bool true)) (by simp; omega)
        refine ⟨y7,y8,y9,y10,y11,loop_at K _ _ t23L0.eq_1 ?_⟩
        simp (config := { maxSteps := 4000000 }) (disch := omega) only [go_sem,List.length_map,hix,hz,hz1,h1,h2,cpR_pure c1,cpR_pure c2',e1,wrap_i64]
        exact congrArg er ih
      ·rw [decide_eq_false ht] at c2'
       rw [if_neg (fun h => h.2.elim hr ht)]
       by_cases hr1 : 1 ≤ e.2
       ·have hr2 : ¬ e.2 ≤ 24 := fun h => hr ⟨hr1,h⟩
        obtain ⟨y7,y8,y9,y10,y11,ih⟩ := ih l (.iv (.int .i64 (e.2))) (.iv (.bool true)) (.iv (.bool true)) (.iv (.bool false)) (.iv (.bool false)) (by omega)
        refine ⟨y7,y8,y9,y10,y11,loop_at K _ _ t23L0.eq_1 ?_⟩
        simp (config := { maxSteps := 4000000 }) (disch := omega) only [go_sem,List.length_map,hix,hz,hz1,h1,h2,cpR_pure c1,cpR_pure c2',e1,wrap_i64]
        exact congrArg er ih
       ·obtain ⟨y7,y8,y9,y10,y11,ih⟩ := ih l (.iv (.int .i64 (e.2))) (.iv (.bool true)) (.iv (.bool true)) (.iv (.bool false)) (.iv (.bool false)) (by omega)
        refine ⟨y7,y8,y9,y10,y11,loop_at K _ _ t23L0.eq_1 ?_⟩
        simp (config := { maxSteps := 4000000 }) (disch := omega) only [go_sem,List.length_map,hix,hz,hz1,h1,h2,cpR_pure c1,cpR_pure c2',e1,wrap_i64]
        exact congrArg er ih
   ·have hv : oth 0 e r = 0 := by rw [oth,if_neg h2,if_neg h1]
    rw [hv]
    have c1 := c1 0
    have c2' := c2' 0
    have e1 := e1 0
    by_cases hm : (0 : Int) ∈ l
    ·rw [decide_eq_true hm] at c1
     rw [if_neg (fun h => h.1 hm)]
     obtain ⟨y7,y8,y9,y10,y11,ih⟩ := ih l (.iv (.int .i64 0)) (.iv (.bool true)) (.iv (.bool false)) (.iv (.bool false)) (.iv (.bool false)) (by omega)
     refine ⟨y7,y8,y9,y10,y11,loop_at K _ _ t23L0.eq_1 ?_⟩
     simp (config := { maxSteps := 4000000 }) (disch := omega) only [go_sem,List.length_map,hix,hz,hz1,h1,h2,cpR_pure c1,cpR_pure c2',e1,wrap_i64]
     exact congrArg er ih
    ·rw [decide_eq_false hm] at c1
     by_cases ht : (0 : Int) ∈ there
     ·rw [decide_eq_true ht] at c2'
      rw [if_pos ⟨hm,.inr ht⟩]
      obtain ⟨y7,y8,y9,y10,y11,ih⟩ := ih (l ++ [0]) (.iv (.int .i64 0)) (.iv (.bool true)) (.iv (.bool false)) (.iv (.bool false)) (.iv (.bool true)) (by simp; omega)
      refine ⟨y7,y8,y9,y10,y11,loop_at K _ _ t23L0.eq_1 ?_⟩
      simp (config := { maxSteps := 4000000 }) (disch := omega) only [go_sem,List.length_map,hix,hz,hz1,h1,h2,cpR_pure c1,cpR_pure c2',e1,wrap_i64]
      exact congrArg er ih
     ·rw [decide_eq_false ht] at c2'
      rw [if_neg (fun h => h.2.elim (fun h => by omega) ht)]
      obtain ⟨y7,y8,y9,y10,y11,ih⟩ := ih l (.iv (.int .i64 0)) (.iv (.bool true)) (.iv (.bool false)) (.iv (.bool false)) (.iv (.bool false)) (by omega)
      refine ⟨y7,y8,y9,y10,y11,loop_at K _ _ t23L0.eq_1 ?_⟩
      simp (config := { maxSteps := 4000000 }) (disch := omega) only [go_sem,List.length_map,hix,hz,hz1,h1,h2,cpR_pure c1,cpR_pure c2',e1,wrap_i64]
      exact congrArg er ih
theorem call23 (n : Int) (tE : Tag) (E : List (Int × Int)) (tM : Tag) (M : List (Int × Int)) (hE : E.length ≤ 1000) (r : Int) (t : Tag) (there : List Int) (hth : there.length ≤ 1000000) :
  Pure K 23 [.iv (gv n tE E tM M),.iv (.int .i64 r),.iv (.sl t (TM.one (.int .i64) there))] (.iv (.int .i64 (nearG r there E []).length)) := by
 obtain ⟨y7,y8,y9,y10,y11,l1⟩ := loop23 (.iv (gv n tE E tM M)) (.iv (.int .i64 n)) tE E hE (.iv (.sl tM (M.map enc2))) rfl r t there hth (.iv (.int .i64 0)) E.length 0 [] (.tup []) (.tup []) (.tup []) (.tup []) (.tup []) (by omega) (by simp)
 rw [show ((0 : Nat) : Int) = 0 from rfl,List.drop_zero,show acc 0 (oneI []) = .iv (.sl .nil []) from rfl,show accS 1 3 (oneI []) = [] from rfl] at l1
 have hle : ∀ S,lenV .sl S (acc 0 (oneI (nearG r there E []))) = some (.iv (.int .i64 (nearG r there E []).length)) := fun S => by rw [lenV_acc,oneI_len]
 refine TM.pure_ret (S := accS 1 3 (oneI (nearG r there E []))) (r := .iv (.int .i64 (nearG r there E []).length)) (call_ret' K _ (fn := t23) rfl rfl ?_) (by rw [resolve_iv])
 unfold gv at l1 ⊢
 simp (config := { maxSteps := 4000000 }) (disch := omega) only [t23,go_sem,TM.undef]
 rw [l1]
 simp (config := { maxSteps := 4000000 }) (disch := omega) only [go_sem,hle]
theorem edge_all {n : Nat} {tE : Tag} {E : List (Int × Int)} {tM : Tag} {M : List (Int × Int)} {o : Nat → Int} (h : ColS n tE E tM M o) {x y : Nat} (hx : x < n) (hy : y < n) (hxy : x ≠ y) {e : Int × Int} (he : e ∈ E) (e1 : e.1 = x) (e2 : e.2 = y) (hoo : o x = o y) : o x = -1 := by
 by_cases hv : isV (x : Int) = true ∧ isV (y : Int) = true
 ·refine h.edge x y hx hy (List.any_eq_true.2 ⟨e,he,?_⟩) hoo
  unfold adj1
  simp [e1,e2,hv.1,hv.2]
 ·exfalso
  have key : ∀ z w : Nat,z < n → w < n → z ≠ w → isV (z : Int) ≠ true → o z ≠ o w := by
   intro z w hz hw hzw hnz he
   unfold isV isCol at hnz
   have hz32 : z < 32 := by
    apply Classical.byContradiction
    intro h; apply hnz; simp; omega
   have hz2 : z = 0 ∨ 25 ≤ z := by
    apply Classical.byContradiction
    intro h; apply hnz; simp; omega
   rw [h.mach z hz32] at he
   by_cases hw32 : w < 32
   ·rw [h.mach w hw32] at he; omega
   ·rcases h.virt w (by omega) hw with g | g <;> omega
  by_cases h1 : isV (x : Int) = true
  ·exact key y x hy hx (Ne.symm hxy) (fun h2 => hv ⟨h1,h2⟩) hoo.symm
  ·exact key x y hx hy hxy h1 hoo
theorem getD_o {o : Nat → Int} {n i : Nat} (h : i < n) : ((List.range n).map o).getD i 0 = o i := by simp [List.getD,h]
theorem right_ok {n : Nat} {tE : Tag} {E : List (Int × Int)} {tM : Tag} {M : List (Int × Int)} {o : Nat → Int} (h : ColS n tE E tM M o) (hok : EdOK n E) {E' M' : List (Int × Int)} (hsub : ∀ e ∈ E',e ∈ E) (hm : may n E' M' = true) : right n E' M' ((List.range n).map o) = true := by
 unfold right
 rw [hm,Bool.true_and,Bool.and_eq_true,Bool.and_eq_true]
 refine ⟨by simp,?_,?_⟩
 ·rw [Bool.not_eq_true',List.any_eq_false]
  intro i hi
  simp only [List.length_map,List.length_range,List.mem_range] at hi
  unfold off
  rw [getD_o hi]
  split
  ·rename_i h32; rw [h.mach i h32]; simp
  ·rename_i h32
   rcases h.virt i (by omega) hi with g | g
   ·simp [g]
   ·simp; omega
 ·rw [Bool.not_eq_true',List.any_eq_false]
  intro e he
  obtain ⟨x,y,e1,e2,hx,hy,hxy⟩ := hok e (hsub e he)
  unfold clash
  rw [e1,e2,Int.toNat_natCast,Int.toNat_natCast,getD_o hx,getD_o hy]
  simp only [Bool.and_eq_true,beq_iff_eq,bne_iff_ne,ne_eq,not_and,Decidable.not_not]
  exact fun hoo => edge_all h hx hy hxy (hsub e he) e1 e2 hoo
variable {H : Type}
theorem ty_pair {d : DataW H} {l : List IV} (h : Ty Try.prog 37 d l) : ∃ p : Int × Int,l = enc2 p ∧ True := by
 obtain ⟨ds,ls,rfl,h1,h2,h3⟩ := ty_array Try.underlying37 h
 match ls,ds,h1,h2,h3 with
 | [a,b],[x,y],_,_,h3 =>
  obtain ⟨n,rfl,_⟩ := ty_int Try.underlying3 (h3 0 x a rfl rfl)
  obtain ⟨m,rfl,_⟩ := ty_int Try.underlying3 (h3 1 y b rfl rfl)
  exact ⟨(n,m),rfl,trivial⟩
theorem ty_graph {d : DataW H} {l : List IV} (h : Ty Try.prog 24 d l) : ∃ (r : Int) (t1 : Tag) (E : List (Int × Int)) (t2 : Tag) (M : List (Int × Int)),l = [.int .i64 r,.sl t1 (E.map enc2),.sl t2 (M.map enc2)] ∧ E.length ≤ 9223372036854775807 ∧ M.length ≤ 9223372036854775807 := by
 obtain ⟨ds,ls,rfl,h1⟩ := ty_struct Try.underlying24 h
 obtain ⟨d0,l0,ds0,ls0,rfl,k0,h1⟩ := allTy_cons h1
 obtain ⟨d1,l1,ds1,ls1,rfl,k1,h1⟩ := allTy_cons h1
 obtain ⟨d2,l2,ds2,ls2,rfl,k2,h1⟩ := allTy_cons h1
 obtain rfl := allTy_nil h1
 obtain ⟨r,rfl,_⟩ := ty_int Try.underlying3 k0
 obtain ⟨t1,E,rfl,_,_,hE⟩ := ty_slice Try.underlying22 (fun d l h => ty_pair h) k1
 obtain ⟨t2,M,rfl,_,_,hM⟩ := ty_slice Try.underlying22 (fun d l h => ty_pair h) k2
 exact ⟨r,t1,E,t2,M,rfl,hE,hM⟩
theorem nodup_le : ∀ (l m : List Int),l.Nodup → (∀ x ∈ l,x ∈ m) → l.length ≤ m.length
 | [],m,_,_ => Nat.zero_le _
 | a :: l,m,hl,h => by
  rw [List.nodup_cons] at hl
  have ha := h a (by simp)
  have h1 := List.length_erase_of_mem ha
  have := List.length_pos_of_mem ha
  have := nodup_le l (m.erase a) hl.2 (fun x hx => (List.mem_erase_of_ne (fun e => hl.1 (by rw [← e]; exact hx))).2 (h x (by simp [hx])))
  simp; omega
theorem deg_near {n : Nat} {E : List (Int × Int)} (hok : EdOK n E) (U : Nat → Bool) (there : List Int) (hU : ∀ t : Nat,U t = true → (t : Int) ∈ there) (r : Nat) : deg n (fun t => adjL E r t && (decide (t < 32) || U t)) ≤ (nearG r there E []).length := by
 unfold deg
 have h1 := nodup_le (((List.range n).filter fun t => adjL E r t && (decide (t < 32) || U t)).map fun t : Nat => (t : Int)) (nearG r there E [])
  (List.Pairwise.map _ (fun a b h e => h (by omega)) (List.nodup_range.filter _)) (fun x hx => by
   simp only [List.mem_map,List.mem_filter,List.mem_range,Bool.and_eq_true,Bool.or_eq_true,decide_eq_true_eq] at hx
   obtain ⟨t,⟨ht,ha,hb⟩,rfl⟩ := hx
   obtain ⟨hne,_,hv,e,he,hee⟩ := adjL_ok hok ha
   have ho : oth 0 e r = t := by
    rcases hee with ⟨e1,e2⟩ | ⟨e1,e2⟩
    ·rw [oth,if_neg (by omega),if_pos e1,e2]
    ·rw [oth,if_pos e2,e1]
   have := nearG_mem (r : Int) there E [] e he (by
    rw [ho]
    rcases hb with hb | hb
    ·rcases hv.2 with h3 | h3
     ·left; omega
     ·omega
    ·exact .inr (hU t hb))
   rwa [ho] at this)
 rwa [List.length_map] at h1
def pass (P : Int → Bool) : List Int → List Int → Bool → Bool × List Int
 | [],l,s => (s,l)
 | v :: vs,l,s => if !s && P v then pass P vs l true else pass P vs (l ++ [v]) s
theorem pass_true (P : Int → Bool) : ∀ (T l : List Int),pass P T l true = (true,l ++ T)
 | [],l => by simp [pass]
 | v :: vs,l => by rw [pass]; simp [pass_true P vs]
theorem pass_spec (P : Int → Bool) : ∀ (T l : List Int),pass P T l false = (false,l ++ T) ∨
  ∃ v T',pass P T l false = (true,l ++ T') ∧ P v = true ∧ (∀ x ∈ T,x = v ∨ x ∈ T') ∧ T'.length < T.length
 | [],l => by simp [pass]
 | v :: vs,l => by
  rw [pass]
  by_cases h : P v = true
  ·right
   refine ⟨v,vs,by simp [h,pass_true],h,fun x hx => by simpa using hx,by simp⟩
  ·rw [if_neg (by simp [h])]
   rcases pass_spec P vs (l ++ [v]) with h1 | ⟨w,T',h1,h2,h3,h4⟩
   ·left; rw [h1]; simp
   ·right
    refine ⟨w,v :: T',by rw [h1]; simp,h2,fun x hx => ?_,by simp; omega⟩
    rcases List.mem_cons.1 hx with rfl | h5
    ·simp
    ·rcases h3 x h5 with h6 | h6
     ·exact .inl h6
     ·simp [h6]
def PartOn (n : Nat) (E : List (Int × Int)) (T : List Int) : Prop := ∀ U : Nat → Bool,(∀ t : Nat,U t = true → (t : Int) ∈ T) → (∃ r,U r = true) → ∃ r,U r = true ∧ deg n (fun t => adjL E r t && (decide (t < 32) || U t)) < 24
theorem part_nil (n : Nat) (E : List (Int × Int)) : PartOn n E [] := fun U hU ⟨r,hr⟩ => by cases hU r hr
theorem part_step {n : Nat} {E : List (Int × Int)} (hok : EdOK n E) {T T' : List Int} {v : Int} (hv : (nearG v T E []).length < 24) (hs : ∀ x ∈ T,x = v ∨ x ∈ T') (h : PartOn n E T') : PartOn n E T := by
 intro U hU hne
 by_cases hx : ∃ r : Nat,(r : Int) = v ∧ U r = true
 ·obtain ⟨r,rfl,hr⟩ := hx
  have := deg_near hok U T hU r
  exact ⟨r,hr,by omega⟩
 ·refine h U (fun t ht => ?_) hne
  rcases hs t (hU t ht) with h1 | h1
  ·exact absurd ⟨t,h1,ht⟩ hx
  ·exact h1
theorem part_all {n : Nat} {tE : Tag} {E : List (Int × Int)} {tM : Tag} {M : List (Int × Int)} {T : List Int} (hT : ∀ m : Nat,32 ≤ m → m < n → (m : Int) ∈ T) (h : PartOn n E T) : Part (pn0 n tE E tM M) := by
 intro U hU hne
 exact h U (fun t ht => hT t (hU t ht).1 (hU t ht).2.1) hne
def few24 (E : List (Int × Int)) (T : List Int) (v : Int) : Bool := decide ((nearG v T E []).length < 24)
theorem ix_accI {i : Nat} {l : List Int} {k : Nat} (h : k < l.length) : indexAddrS 1 (acc i (oneI l)) (k : Int) = some (.iv (.cp [.int .i64 (l.getD k default)])) := by
 have hne : oneI l ≠ [] := by rw [Ne,oneI_nil]; intro e; rw [e] at h; simp at h
 have hix := ix_one (f := IV.int .i64) (t := .no) (l := l) (i := (k : Int)) (by omega)
 rw [Int.toNat_natCast] at hix
 rw [acc_ne i hne]
 exact hix
theorem loop13a {n : Int} {tE : Tag} {E : List (Int × Int)} {tM : Tag} {M : List (Int × Int)} (hE : E.length ≤ 1000) (T : List Int) (hT : T.length ≤ 1000) (i0 : Nat) (x0 x2 x4 x8 x9 : TV) : ∀ (k i : Nat) (s : Bool) (l : List Int) (i6 : Nat) (S : Store) (x10 x11 : TV),i + k = T.length → l.length ≤ i → At 1 3 (oneI l) i6 S →
  ∃ i6' y10 y11 S',lp' (lim K) t13L0 [x0,.lb (gcells n tE E tM M),x2,acc i0 (oneI T),x4,.iv (.bool s),acc i6 (oneI l),.iv (.int .i64 i),x8,x9,x10,x11] S
   = .ret (.exit 4,[x0,.lb (gcells n tE E tM M),x2,acc i0 (oneI T),x4,.iv (.bool (pass (few24 E T) (T.drop i) l s).1),acc i6' (oneI (pass (few24 E T) (T.drop i) l s).2),.iv (.int .i64 T.length),x8,x9,y10,y11],S')
 | 0,i,s,l,i6,S,x10,x11,hk,hl,hA => by
  obtain rfl : i = T.length := by omega
  have hle : ∀ S,lenV .sl S (acc i0 (oneI T)) = some (.iv (.int .i64 T.length)) := fun S => by rw [lenV_acc,oneI_len]
  refine ⟨i6,.iv (.bool false),x11,S,loop_at K _ _ t13L0.eq_1 ?_⟩
  rw [List.drop_length,pass]
  unfold gcells
  simp (config := { maxSteps := 4000000 }) (disch := omega) only [go_sem,hle]
 | k + 1,i,s,l,i6,S,x10,x11,hk,hl,hA => by
  have hla : i < T.length := by omega
  have hle : ∀ S,lenV .sl S (acc i0 (oneI T)) = some (.iv (.int .i64 T.length)) := fun S => by rw [lenV_acc,oneI_len]
  have hix := ix_accI (i := i0) hla
  have hdr := drop_getI hla
  rw [hdr,pass]
  generalize T.getD i default = v at *
  have c23 : Pure K 23 [.iv (gv n tE E tM M),.iv (.int .i64 v),.iv (.sl (sTag (oneI T)) (oneI T))] _ := call23 n tE E tM M hE v (sTag (oneI T)) T (by omega)
  have e1 := ap_g (w := 1) (b := 8) (el := 3) (t := .full) (c := [.int .i64 v]) hA ⟨rfl,rfl⟩ (oneI_el l) (roomy_ok (by rw [oneI_len]; omega))
  rw [oneI_app] at e1
  have hA2 := gS_at hA [.int .i64 v]
  rw [oneI_app] at hA2
  cases s with
  | true =>
   rw [if_neg (by simp)]
   obtain ⟨i6',y10,y11,S',ih⟩ := loop13a (n := n) (tE := tE) (tM := tM) (M := M) hE T hT i0 x0 x2 x4 x8 x9 k (i + 1) true (l ++ [v]) _ _ (.iv (.bool true)) (.iv (.bool false)) (by omega) (by simp; omega) hA2
   rw [show ((i + 1 : Nat) : Int) = (i : Int) + 1 by omega] at ih
   refine ⟨i6',y10,y11,S',loop_at K _ _ t13L0.eq_1 ?_⟩
   unfold gv gcells at *
   simp (config := { maxSteps := 4000000 }) (disch := omega) only [go_sem,hle,hix,e1,wrap_i64]
   exact congrArg er ih
  | false =>
   by_cases hp : (nearG v T E []).length < 24
   ·rw [if_pos (by simp [few24,hp])]
    have hp' : ((nearG v T E []).length : Int) < 24 := by omega
    obtain ⟨i6',y10,y11,S',ih⟩ := loop13a (n := n) (tE := tE) (tM := tM) (M := M) hE T hT i0 x0 x2 x4 x8 x9 k (i + 1) true l i6 S (.iv (.bool true)) (.iv (.bool true)) (by omega) (by omega) hA
    rw [show ((i + 1 : Nat) : Int) = (i : Int) + 1 by omega] at ih
    refine ⟨i6',y10,y11,S',loop_at K _ _ t13L0.eq_1 ?_⟩
    unfold gv gcells at *
    simp (config := { maxSteps := 4000000 }) (disch := omega) only [go_sem,hle,hix,cpR_pure c23,hp',wrap_i64]
    exact congrArg er ih
   ·rw [if_neg (by simp [few24,hp])]
    have hp' : ¬ ((nearG v T E []).length : Int) < 24 := by omega
    obtain ⟨i6',y10,y11,S',ih⟩ := loop13a (n := n) (tE := tE) (tM := tM) (M := M) hE T hT i0 x0 x2 x4 x8 x9 k (i + 1) false (l ++ [v]) _ _ (.iv (.bool true)) (.iv (.bool false)) (by omega) (by simp; omega) hA2
    rw [show ((i + 1 : Nat) : Int) = (i : Int) + 1 by omega] at ih
    refine ⟨i6',y10,y11,S',loop_at K _ _ t13L0.eq_1 ?_⟩
    unfold gv gcells at *
    simp (config := { maxSteps := 4000000 }) (disch := omega) only [go_sem,hle,hix,cpR_pure c23,hp',e1,wrap_i64]
    exact congrArg er ih
theorem loop13x (x0 x1 x2 x3 x4 x6 x7 x8 x9 x10 x11 : TV) (S : Store) : lp' (lim K) t13L1 [x0, x1, x2, x3, x4, .iv (.bool false), x6, x7, x8, x9, x10, x11] S
      = .ret (.exit 2,[x0,x1,x2,x3,x4,.iv (.bool false),x6,x7,x8,.iv (.bool false),x10,x11],S) := by
  refine loop_at K _ _ t13L1.eq_1 ?_
  simp (config := { maxSteps := 4000000 }) (disch := omega) only [go_sem]
theorem loop13b {n : Nat} {tE : Tag} {E : List (Int × Int)} {tM : Tag} {M : List (Int × Int)} (hE : E.length ≤ 1000) (hok : EdOK n E) (x0 x2 x4 x8 : TV) : ∀ (k : Nat) (T : List Int),T.length < k → T.length ≤ 1000 → ∀ (i0 : Nat) (S : Store) (x6 x7 x9 x10 x11 : TV),
  ∃ F i' y6 y7 y9 y10 y11 S',lp' (lim K) t13L1 [x0,.lb (gcells n tE E tM M),x2,acc i0 (oneI T),x4,.iv (.bool true),x6,x7,x8,x9,x10,x11] S
   = .ret (.exit 2,[x0,.lb (gcells n tE E tM M),x2,acc i' (oneI F),x4,.iv (.bool false),y6,y7,x8,y9,y10,y11],S') ∧ (F = [] → PartOn n E T) ∧ F.length ≤ 1000
 | 0,T,hk,hT,i0,S,x6,x7,x9,x10,x11 => by omega
 | k + 1,T,hk,hT,i0,S,x6,x7,x9,x10,x11 => by
  obtain ⟨i6',y10,y11,S1,l1⟩ := loop13a (n := (n : Int)) (tE := tE) (tM := tM) (M := M) hE T hT i0 x0 x2 x4 x8 (.iv (.bool true)) T.length 0 false [] 0 S x10 x11 (by omega) (Nat.le_refl _) (fun h => absurd rfl h)
  rw [show ((0 : Nat) : Int) = 0 from rfl,List.drop_zero,show acc 0 (oneI []) = .iv (.sl .nil []) from rfl] at l1
  rcases pass_spec (few24 E T) T [] with hp | ⟨v,T',hp,h2,h3,h4⟩
  ·rw [hp,List.nil_append] at l1
   refine ⟨T,i6',acc i6' (oneI T),.iv (.int .i64 T.length),.iv (.bool false),y10,y11,S1,loop_at K _ _ t13L1.eq_1 ?_,fun h => by rw [h]; exact part_nil n E,hT⟩
   unfold gcells at *
   simp (config := { maxSteps := 4000000 }) (disch := omega) only [go_sem]
   rw [l1]
   simp (config := { maxSteps := 4000000 }) (disch := omega) only [go_sem]
   exact congrArg er (loop13x ..)
  ·rw [hp,List.nil_append] at l1
   obtain ⟨F,i',y6,y7,y9,z10,z11,S2,ih,hF,hF2⟩ := loop13b (n := n) (tE := tE) (tM := tM) (M := M) hE hok x0 x2 x4 x8 k T' (by omega) (by omega) i6' S1 (acc i6' (oneI T')) (.iv (.int .i64 T.length)) (.iv (.bool true)) y10 y11
   refine ⟨F,i',y6,y7,y9,z10,z11,S2,loop_at K _ _ t13L1.eq_1 ?_,fun h => part_step hok (by simpa [few24] using h2) h3 (hF h),hF2⟩
   unfold gcells at *
   simp (config := { maxSteps := 4000000 }) (disch := omega) only [go_sem]
   rw [l1]
   simp (config := { maxSteps := 4000000 }) (disch := omega) only [go_sem]
   exact congrArg er ih
def upto : Nat → Nat → List Int
 | 0,_ => []
 | k + 1,i => (i : Int) :: upto k (i + 1)
theorem upto_len : ∀ k i,(upto k i).length = k
 | 0,i => rfl
 | k + 1,i => by simp [upto,upto_len k]
theorem upto_mem : ∀ (k i m : Nat),i ≤ m → m < i + k → (m : Int) ∈ upto k i
 | 0,i,m,h1,h2 => by omega
 | k + 1,i,m,h1,h2 => by
  rw [upto]
  by_cases h : m = i
  ·rw [h]; simp
  ·exact List.mem_cons_of_mem _ (upto_mem k (i + 1) m (by omega) (by omega))
theorem loop13c {n : Nat} (c1 c2 : TV) (x0 x2 x5 x6 x7 x9 x10 x11 : TV) : ∀ (k i : Nat) (l : List Int) (x8 : TV),i + k = n → l.length ≤ i → n ≤ 1000 →
  ∃ y8,lp' (lim K) t13L2 [x0,.lb [.iv (.int .i64 n),c1,c2],x2,acc 0 (oneI l),.iv (.int .i64 i),x5,x6,x7,x8,x9,x10,x11] (accS 1 3 (oneI l))
   = .ret (.exit 0,[x0,.lb [.iv (.int .i64 n),c1,c2],x2,acc 0 (oneI (l ++ upto k i)),.iv (.int .i64 n),x5,x6,x7,y8,x9,x10,x11],accS 1 3 (oneI (l ++ upto k i)))
 | 0,i,l,x8,hk,hl,hn => by
  obtain rfl : i = n := by omega
  refine ⟨.iv (.bool false),loop_at K _ _ t13L2.eq_1 ?_⟩
  rw [upto,List.append_nil]
  simp (config := { maxSteps := 4000000 }) (disch := omega) only [go_sem]
 | k + 1,i,l,x8,hk,hl,hn => by
  have e1 := ap_acc (w := 1) (b := 8) (el := 3) (l := oneI l) (ys := [[.int .i64 (i : Int)]]) (x := .iv (.sl .full [[.int .i64 (i : Int)]])) (fun S => IsEl.sl S _ _) (by intro y hy; simp at hy; subst hy; exact ⟨rfl,rfl⟩) (oneI_el l) (roomy_ok (by rw [oneI_len]; simp; omega))
  rw [oneI_app] at e1
  obtain ⟨y8,ih⟩ := loop13c (n := n) c1 c2 x0 x2 x5 x6 x7 x9 x10 x11 k (i + 1) (l ++ [(i : Int)]) (.iv (.bool true)) (by omega) (by simp; omega) hn
  rw [show ((i + 1 : Nat) : Int) = (i : Int) + 1 by omega,List.append_assoc] at ih
  refine ⟨y8,loop_at K _ _ t13L2.eq_1 ?_⟩
  rw [upto]
  simp (config := { maxSteps := 4000000 }) (disch := omega) only [go_sem,e1,wrap_i64]
  exact congrArg er ih
theorem call13 {n : Nat} {tE : Tag} {E : List (Int × Int)} {tM : Tag} {M : List (Int × Int)} (hE : E.length ≤ 1000) (hok : EdOK n E) (h32 : 32 ≤ n) (hn : n ≤ 1000) :
  ∃ b,Pure K 13 [.iv (gv n tE E tM M)] (.iv (.bool b)) ∧ (b = true → Part (pn0 n tE E tM M)) := by
 obtain ⟨y8,l1⟩ := loop13c (n := n) (.iv (.sl tE (E.map enc2))) (.iv (.sl tM (M.map enc2))) (.iv (gv n tE E tM M)) (.iv (.bool false)) (.tup []) (.tup []) (.tup []) (.tup []) (.tup []) (.tup []) (n - 32) 32 [] (.tup []) (by omega) (by simp) hn
 rw [show ((32 : Nat) : Int) = 32 from rfl,List.nil_append,show acc 0 (oneI []) = .iv (.sl .nil []) from rfl,show accS 1 3 (oneI []) = [] from rfl] at l1
 obtain ⟨F,i',y6,y7,y9,y10,y11,S',l2,hF,hF2⟩ := loop13b (n := n) (tE := tE) (tM := tM) (M := M) hE hok (.iv (gv n tE E tM M)) (.iv (.bool false)) (.iv (.int .i64 n)) y8 ((upto (n - 32) 32).length + 1) (upto (n - 32) 32) (by omega) (by rw [upto_len]; omega) 0 (accS 1 3 (oneI (upto (n - 32) 32))) (.tup []) (.tup []) (.tup []) (.tup []) (.tup [])
 have hle : ∀ S,lenV .sl S (acc i' (oneI F)) = some (.iv (.int .i64 F.length)) := fun S => by rw [lenV_acc,oneI_len]
 refine ⟨decide (F = []),TM.pure_ret (S := S') (r := .iv (.bool (decide (F = [])))) (call_ret' K _ (fn := t13) rfl rfl ?_) (by rw [resolve_iv]),fun h => part_all (fun m h1 h2 => upto_mem (n - 32) 32 m h1 (by omega)) (hF (by simpa using h))⟩
 have hd : ((F.length : Int) == 0) = decide (F = []) := by
  cases F with
  | nil => rfl
  | cons a l => simp; omega
 unfold gv gcells at *
 simp (config := { maxSteps := 4000000 }) (disch := omega) only [t13,go_sem,TM.undef]
 rw [l1]
 simp (config := { maxSteps := 4000000 }) (disch := omega) only [go_sem]
 rw [l2]
 by_cases h0 : F = []
 ·subst h0
  simp (config := { maxSteps := 4000000 }) (disch := omega) only [go_sem,hle,List.length_nil]
 ·have hl : ¬ (F.length : Int) = 0 := by
   have := List.length_pos_iff.2 h0; omega
  simp (config := { maxSteps := 4000000 }) (disch := omega) only [go_sem,hle,hl,decide_eq_false h0]
end Go.Proofs.Ytmlhjdekfihdnaa
