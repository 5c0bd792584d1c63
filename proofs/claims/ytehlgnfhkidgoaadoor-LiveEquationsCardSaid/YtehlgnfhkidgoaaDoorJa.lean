/- Some texts of the proof, joined. Condition: none. -/
import Derived.Test.YtehlgnfhkidgoaaDoorTmProg
import Derived.Test.YtehlgnfhkidgoaaDoorTmF
import Derived.Test.YtehlgnfhkidgoaaDoorTmE
set_option maxRecDepth 100000
set_option maxHeartbeats 64000000
set_option linter.unusedSimpArgs false
set_option linter.unusedVariables false
namespace Go.Proofs.YtehlgnfhkidgoaaDoor
open Go Go.TM
attribute [go_sem] beq_self_eq_true decT decF ifT ifF eqT eqF neT neF TM.one_length get_cp0 List.replicate List.cons_append List.nil_append decide_true decide_false
attribute [go_sem] Nat.reduceAdd Nat.reduceSub Nat.reduceMul Nat.reduceLT Nat.reduceLeDiff Nat.reduceEqDiff Nat.reduceBEq reduceIte reduceCtorEq Int.reduceEq Int.reduceLT Int.reduceLE Int.reduceAdd Int.reduceSub Int.reduceMul Int.reduceToNat Int.reduceNeg Int.reduceBEq Int.reduceBNe Int.reduceTDiv Int.reduceTMod Int.reducePow Nat.reducePow Nat.reduceDiv Nat.reduceMod Int.reduceMod Int.reduceDiv Int.reduceNe Int.reduceFDiv
def vI (v : Int) : TV := .iv (.int .i64 v)
theorem sub_RW {C : List Int} {J : List TV} {i : Nat} (h : i < C.length) : sub (C.map vI ++ J) i 1 = some [vI (C.getD i 0)] := by
 simp only [sub,List.length_append,List.length_map,show i + 1 ≤ C.length + J.length by omega,↓reduceIte]
 rw [List.drop_eq_getElem_cons (by simp; omega)]
 simp [List.getElem_append,h,List.getD,List.getElem?_eq_getElem h]
theorem put_RW {C : List Int} {J : List TV} {i : Nat} (x : Int) (h : i < C.length) : put (C.map vI ++ J) i [vI x] = (C.set i x).map vI ++ J := by
 unfold put
 rw [List.take_append_of_le_length (by simp; omega),List.drop_append_of_le_length (by simp; omega),List.set_eq_take_append_cons_drop,if_pos h]
 simp
theorem ix_RW {j v len cap i : Nat} (h : i < len) : indexAddrS 1 (.msl j v 0 len cap 1) (i : Int) = some (.ptr j v i) := by
 rw [ix_msl (by omega),Int.toNat_natCast,Nat.zero_add]
theorem ix_RWo {j v off len cap i : Nat} (h : i < len) : indexAddrS 1 (.msl j v off len cap 1) (i : Int) = some (.ptr j v (off + i)) := by
 rw [ix_msl (by omega),Int.toNat_natCast]
theorem bound_nat {i d y : Nat} (h : i ≤ y) : bound (some (i : Int)) d y = some i := by
 simp [bound,h]
theorem bounds_hi {m cap b : Nat} (h2 : b ≤ cap) : bounds m cap none (some (b : Int)) none = some (0,b,cap) := by
 have : bound none cap cap = some cap := rfl
 have e : bound none 0 b = some 0 := rfl
 simp [bounds,this,bound_nat h2,e]
theorem bounds_lo {m cap a : Nat} (h2 : m ≤ cap) (h3 : a ≤ m) : bounds m cap (some (a : Int)) none none = some (a,m,cap) := by
 have : bound none cap cap = some cap := rfl
 have e : bound none m cap = some m := rfl
 simp [bounds,this,e,bound_nat h3]
theorem sl_msl {S : Store} {jl v m cap : Nat} {b : Bool} {cs : List TV} (hL : S[jl]? = some (.cells v b cs)) (lo hi mx : Option Int) {l h c : Nat} (hb : bounds m cap lo hi mx = some (l,h,c)) : sliceOp S (.sl 1) (.msl jl v 0 m cap 1) lo hi mx = some (.msl jl v (if c = l then 0 else 0 + l * 1) (h - l) (c - l) 1) := by
 have hv : verOk S jl v = true := by simp [verOk,hL]
 simp [sliceOp,hv,hb]
theorem clr_RW {S : Store} {j v cap : Nat} {b : Bool} {C : List Int} {J : List TV} (h : S[j]? = some (.cells v b (C.map vI ++ J))) {i : Nat} (hi : i ≤ C.length) (hc : C.length ≤ cap) (c' : Nat) :
  ∃ J',clearOp [.int .i64 0] S (.msl j v (if cap = i then 0 else 0 + i * 1) (C.length - i) c' 1) = some (S.set j (.cells v b ((C.take i).map vI ++ J'))) := by
 by_cases e : C.length - i = 0
 ·obtain rfl : i = C.length := by omega
  refine ⟨J,?_⟩
  have : S.set j (.cells v b (C.map vI ++ J)) = S := by
   obtain ⟨hlt,he⟩ := List.getElem?_eq_some_iff.1 h
   rw [← he,List.set_getElem_self]
  simp only [clearOp,e,↓reduceIte,List.take_length,this]
 ·have hci : ¬ cap = i := by omega
  refine ⟨flat (List.replicate (C.length - i) ([IV.int .i64 0].map .iv)) ++ J,?_⟩
  have hl : (flat (List.replicate (C.length - i) ([IV.int .i64 0].map TV.iv))).length = C.length - i := by rw [flat_rep,cellsF_len]; simp
  have hp : put (C.map vI ++ J) i (flat (List.replicate (C.length - i) ([IV.int .i64 0].map TV.iv))) = (C.take i).map vI ++ (flat (List.replicate (C.length - i) ([IV.int .i64 0].map .iv)) ++ J) := by
   unfold put
   rw [hl,List.take_append_of_le_length (by simp; omega),show i + (C.length - i) = C.length by omega,List.drop_left' (by simp),← List.map_take]
   simp
  simp only [clearOp,e,hci,↓reduceIte,h,Nat.zero_add,Nat.mul_one,List.length_cons,List.length_nil,true_and,List.length_append,List.length_map,show i + (C.length - i) ≤ C.length + J.length by omega,hp,and_self]
theorem set_mid (D C : List Int) (x : Int) (h : D.length < C.length) : (D ++ C.drop D.length).set D.length x = (D ++ [x]) ++ C.drop (D.length + 1) := by
 rw [List.set_append_right _ _ (Nat.le_refl _),Nat.sub_self,List.drop_eq_getElem_cons h,List.set_cons_zero]
 simp
theorem len_mid {D C : List Int} (h : D.length ≤ C.length) : (D ++ C.drop D.length).length = C.length := by simp; omega
theorem get_mid {D C : List Int} {j : Nat} (h : D.length ≤ j) : (D ++ C.drop D.length).getD j 0 = C.getD j 0 := by
 simp only [List.getD,List.getElem?_append_right h,List.getElem?_drop]
 rw [show D.length + (j - D.length) = j by omega]
theorem call31 (x : Int) : Pure K 31 [.iv (.int .i64 x)] (.iv (.bool (decide (x ≤ 0)))) := by
 refine call_pure t31 rfl rfl ?_
 simp (config := { maxSteps := 4000000 }) (disch := omega) only [t31,go_sem,TM.undef]
theorem loop42 {S : Store} {j v : Nat} {b : Bool} {C : List Int} {J : List TV} (h : S[j]? = some (.cells v b (C.map vI ++ J))) (hn : C.length ≤ 1000000) (cap : Nat) : ∀ (k i : Nat) (x2 x3 x6 x7 : TV),i + k = C.length → (∀ q,q < i → 0 < C.getD q 0) →
  ∃ jj y2 y3 y5 y6 y7,lp' (lim K) t42L0 [.msl j v 0 C.length cap 1,.fn 31 [] [],x2,x3,.iv (.int .i64 C.length),.iv (.int .i64 i),x6,x7] S
   = .ret (jj,[.msl j v 0 C.length cap 1,.fn 31 [] [],y2,y3,.iv (.int .i64 C.length),y5,y6,y7],S) ∧
   (jj = .exit 0 ∧ (∀ q,q < C.length → 0 < C.getD q 0) ∨ jj = .ret ∧ ∃ q : Nat,y2 = .iv (.int .i64 q) ∧ q < C.length ∧ C.getD q 0 ≤ 0 ∧ ∀ p,p < q → 0 < C.getD p 0)
 | 0,i,x2,x3,x6,x7,hk,hq => by
  obtain rfl : i = C.length := by omega
  refine ⟨.exit 0,x2,x3,.iv (.int .i64 C.length),.iv (.bool false),x7,loop_at K _ _ t42L0.eq_1 ?_,.inl ⟨rfl,hq⟩⟩
  simp (config := { maxSteps := 4000000 }) (disch := omega) only [go_sem]
 | k + 1,i,x2,x3,x6,x7,hk,hq => by
  have hla : i < C.length := by omega
  have i1 := ix_RW (j := j) (v := v) (cap := cap) hla
  have s1 := sub_RW (J := J) hla
  have c31 := call31 (C.getD i 0)
  have h' := h
  simp only [vI] at h' s1
  by_cases hd : C.getD i 0 ≤ 0
  ·rw [decide_eq_true hd] at c31
   refine ⟨.ret,.iv (.int .i64 i),.iv (.int .i64 i),.iv (.int .i64 i),.iv (.bool true),.iv (.bool true),loop_at K _ _ t42L0.eq_1 ?_,.inr ⟨rfl,i,rfl,hla,hd,hq⟩⟩
   simp (config := { maxSteps := 4000000 }) (disch := omega) only [go_sem,i1,h',s1,cpR_pure c31]
  ·rw [decide_eq_false hd] at c31
   obtain ⟨jj,y2,y3,y5,y6,y7,ih,hj⟩ := loop42 h hn cap k (i + 1) x2 (.iv (.int .i64 i)) (.iv (.bool true)) (.iv (.bool false)) (by omega) (fun q hq1 => by
    rcases Nat.lt_or_ge q i with h1 | h1
    ·exact hq q h1
    ·obtain rfl : q = i := by omega
     omega)
   rw [show ((i + 1 : Nat) : Int) = (i : Int) + 1 by omega] at ih
   refine ⟨jj,y2,y3,y5,y6,y7,loop_at K _ _ t42L0.eq_1 ?_,hj⟩
   simp (config := { maxSteps := 4000000 }) (disch := omega) only [go_sem,i1,h',s1,cpR_pure c31,wrap_i64]
   exact congrArg er ih
theorem call42 {S : Store} {j v : Nat} {b : Bool} {C : List Int} {J : List TV} (h : S[j]? = some (.cells v b (C.map vI ++ J))) (hn : C.length ≤ 1000000) (cap : Nat) :
  ∃ w : Int,(lim K).call 42 [.msl j v 0 C.length cap 1,.fn 31 [] []] S = .ret (.iv (.int .i64 w),S) ∧ (w = -1 ∧ (∀ q,q < C.length → 0 < C.getD q 0) ∨ ∃ q : Nat,w = q ∧ q < C.length ∧ C.getD q 0 ≤ 0 ∧ ∀ p,p < q → 0 < C.getD p 0) := by
 obtain ⟨jj,y2,y3,y5,y6,y7,l1,hj⟩ := loop42 h hn cap C.length 0 (.iv (.int .i64 0)) (.tup []) (.tup []) (.tup []) (by omega) (fun q hq => by omega)
 rw [show ((0 : Nat) : Int) = 0 from rfl] at l1
 rcases hj with ⟨rfl,hj⟩ | ⟨rfl,q,rfl,h1⟩
 ·refine ⟨-1,call_ret' K _ (fn := t42) rfl rfl ?_,.inl ⟨rfl,hj⟩⟩
  simp (config := { maxSteps := 4000000 }) (disch := omega) only [t42,go_sem,TM.undef]
  rw [l1]
  simp (config := { maxSteps := 4000000 }) (disch := omega) only [go_sem]
 ·refine ⟨q,call_ret' K _ (fn := t42) rfl rfl ?_,.inr ⟨q,rfl,h1⟩⟩
  simp (config := { maxSteps := 4000000 }) (disch := omega) only [t42,go_sem,TM.undef]
  rw [l1]
  simp (config := { maxSteps := 4000000 }) (disch := omega) only [go_sem]
def pos (C : List Int) : List Int := C.filter fun n => decide (0 < n)
theorem pos_all {C : List Int} (h : ∀ q,q < C.length → 0 < C.getD q 0) : pos C = C := by
 refine List.filter_eq_self.2 fun a ha => ?_
 obtain ⟨i,hi,rfl⟩ := List.getElem_of_mem ha
 have := h i hi
 simp only [List.getD,List.getElem?_eq_getElem hi,Option.getD_some] at this
 exact decide_eq_true this
theorem pos_take {C : List Int} {i : Nat} (h : i < C.length) : pos (C.take (i + 1)) = if 0 < C.getD i 0 then pos (C.take i) ++ [C.getD i 0] else pos (C.take i) := by
 have : C.take (i + 1) = C.take i ++ [C.getD i 0] := by
  rw [List.take_add_one,List.getElem?_eq_getElem h]
  simp [List.getD,List.getElem?_eq_getElem h]
 rw [this]
 unfold pos
 rw [List.filter_append]
 by_cases h : 0 < C.getD i 0
 ·rw [if_pos h]; simp only [List.filter_cons,decide_eq_true h,if_true,List.filter_nil]
 ·rw [if_neg h]; simp only [List.filter_cons,decide_eq_false h,List.filter_nil,Bool.false_eq_true,if_false,List.append_nil]
theorem pos_len (C : List Int) : (pos C).length ≤ C.length := List.length_filter_le _ _
theorem set_row {S : Store} {j : Nat} {B : Block} (h : S[j]? = some B) : S.set j B = S := by
 obtain ⟨hlt,he⟩ := List.getElem?_eq_some_iff.1 h
 rw [← he,List.set_getElem_self]
theorem loop30 {j v : Nat} {b : Bool} {C : List Int} {J : List TV} (hn : C.length ≤ 1000000) (cap : Nat) (x2 x6 : TV) : ∀ (k i : Nat) (S : Store) (x5 x7 x8 : TV),i + k = C.length →
  S[j]? = some (.cells v b ((pos (C.take i) ++ C.drop (pos (C.take i)).length).map vI ++ J)) →
  ∃ y5 y7 y8,lp' (lim K) t30L0 [.msl j v 0 C.length cap 1,.fn 31 [] [],x2,.iv (.int .i64 ((pos (C.take i)).length : Nat)),.iv (.int .i64 i),x5,x6,x7,x8] S
   = .ret (.exit 0,[.msl j v 0 C.length cap 1,.fn 31 [] [],x2,.iv (.int .i64 ((pos C).length : Nat)),.iv (.int .i64 C.length),y5,x6,y7,y8],S.set j (.cells v b ((pos C ++ C.drop (pos C).length).map vI ++ J)))
 | 0,i,S,x5,x7,x8,hk,h => by
  obtain rfl : i = C.length := by omega
  rw [List.take_length] at h ⊢
  refine ⟨x5,.iv (.bool false),x8,loop_at K _ _ t30L0.eq_1 ?_⟩
  rw [set_row h]
  simp (config := { maxSteps := 4000000 }) (disch := omega) only [go_sem]
 | k + 1,i,S,x5,x7,x8,hk,h => by
  have hla : i < C.length := by omega
  have hpl : (pos (C.take i)).length ≤ i := Nat.le_trans (pos_len _) (by simp; omega)
  have hlen := len_mid (D := pos (C.take i)) (C := C) (by omega)
  have i1 := ix_RW (j := j) (v := v) (cap := cap) hla
  have s1 := sub_RW (C := pos (C.take i) ++ C.drop (pos (C.take i)).length) (J := J) (i := i) (by omega)
  rw [get_mid hpl] at s1
  have c31 := call31 (C.getD i 0)
  have hpt := pos_take hla
  have h' := h
  simp only [vI] at h' s1
  by_cases hd : C.getD i 0 ≤ 0
  ·rw [if_neg (by omega)] at hpt
   rw [decide_eq_true hd] at c31
   obtain ⟨y5,y7,y8,ih⟩ := loop30 (v := v) (b := b) (J := J) hn cap x2 x6 k (i + 1) S (.iv (.int .i64 (C.getD i 0))) (.iv (.bool true)) (.iv (.bool false)) (by omega) (by rw [hpt]; exact h)
   rw [hpt,show ((i + 1 : Nat) : Int) = (i : Int) + 1 by omega] at ih
   refine ⟨y5,y7,y8,loop_at K _ _ t30L0.eq_1 ?_⟩
   simp (config := { maxSteps := 4000000 }) (disch := omega) only [go_sem,i1,h',s1,cpR_pure c31,wrap_i64]
   exact congrArg er ih
  ·rw [if_pos (by omega)] at hpt
   rw [decide_eq_false hd] at c31
   have hD : (pos (C.take i)).length < C.length := by omega
   have i2 := ix_RW (j := j) (v := v) (cap := cap) hD
   have p1 := put_RW (C := pos (C.take i) ++ C.drop (pos (C.take i)).length) (J := J) (i := (pos (C.take i)).length) (C.getD i 0) (by omega)
   rw [set_mid _ _ _ hD] at p1
   have hlt := lt_get h
   obtain ⟨y5,y7,y8,ih⟩ := loop30 (v := v) (b := b) (J := J) hn cap x2 x6 k (i + 1) (S.set j (.cells v b (((pos (C.take i) ++ [C.getD i 0]) ++ C.drop ((pos (C.take i)).length + 1)).map vI ++ J))) (.iv (.int .i64 (C.getD i 0))) (.iv (.bool true)) (.iv (.bool true)) (by omega) (by
    rw [hpt,get_setS hlt]
    simp)
   rw [hpt,show ((i + 1 : Nat) : Int) = (i : Int) + 1 by omega,List.length_append,List.length_singleton,List.set_set,show (((pos (C.take i)).length + 1 : Nat) : Int) = ((pos (C.take i)).length : Int) + 1 by omega] at ih
   have hbb : (pos (C.take i)).length + 1 ≤ ((pos (C.take i) ++ C.drop (pos (C.take i)).length).map vI ++ J).length := by rw [List.length_append,List.length_map,hlen]; omega
   simp only [vI] at p1 hbb
   refine ⟨y5,y7,y8,loop_at K _ _ t30L0.eq_1 ?_⟩
   simp (config := { maxSteps := 4000000 }) (disch := omega) only [go_sem,i1,i2,h',s1,cpR_pure c31,wrap_i64,hbb,p1]
   exact congrArg er ih
theorem call30 {S : Store} {j v : Nat} {b : Bool} {C : List Int} {J : List TV} (h : S[j]? = some (.cells v b (C.map vI ++ J))) (hn : C.length ≤ 1000000) {cap : Nat} (hc : C.length ≤ cap) :
  ∃ J',(lim K).call 30 [.msl j v 0 C.length cap 1,.fn 31 [] []] S = .ret (.msl j v 0 (pos C).length cap 1,S.set j (.cells v b ((pos C).map vI ++ J'))) := by
 obtain ⟨w,c42,hw⟩ := call42 h hn cap
 rcases hw with ⟨rfl,hw⟩ | ⟨q,rfl,hq,hq1,hq2⟩
 ·rw [pos_all hw]
  refine ⟨J,call_ret' K _ (fn := t30) rfl rfl ?_⟩
  rw [set_row h]
  simp (config := { maxSteps := 4000000 }) (disch := omega) only [t30,go_sem,TM.undef,c42]
 ·have hpq : pos (C.take q) = C.take q := pos_all fun p hp => by
   have h1 : p < q := by simp at hp; omega
   have h2 := hq2 p h1
   simp only [List.getD,List.getElem?_take_of_lt h1] at h2 ⊢
   exact h2
  have hpq1 : pos (C.take (q + 1)) = C.take q := by rw [pos_take hq,if_neg (by omega),hpq]
  have hql : (C.take q).length = q := by simp; omega
  obtain ⟨y5,y7,y8,l1⟩ := loop30 (j := j) (v := v) (b := b) (C := C) (J := J) hn cap (.iv (.sl .nil [])) (.iv (.bool false)) (C.length - (q + 1)) (q + 1) S (.tup []) (.tup []) (.tup []) (by omega) (by
   rw [hpq1,hql,List.take_append_drop]; exact h)
  rw [hpq1,hql,show ((q + 1 : Nat) : Int) = (q : Int) + 1 by omega] at l1
  have hlt := lt_get h
  have hS1 : (S.set j (.cells v b ((pos C ++ C.drop (pos C).length).map vI ++ J)))[j]? = some _ := get_setS hlt _
  have hpl := pos_len C
  have hlen := len_mid (D := pos C) (C := C) hpl
  have f1 := sl_msl hS1 _ _ _ (bounds_lo (m := C.length) (cap := cap) (a := (pos C).length) hc hpl)
  obtain ⟨J',f2⟩ := clr_RW (cap := cap) hS1 (i := (pos C).length) (by omega) (by omega) (cap - (pos C).length)
  rw [hlen,List.take_left',List.set_set] at f2
  ·have hS2 : (S.set j (.cells v b ((pos C).map vI ++ J')))[j]? = some _ := get_setS hlt _
   have f3 := sl_msl hS2 _ _ _ (bounds_hi (m := C.length) (cap := cap) (b := (pos C).length) (by omega))
   rw [show (if cap = 0 then 0 else 0 + 0 * 1) = 0 by split <;> rfl,Nat.sub_zero,Nat.sub_zero] at f3
   have hq' : ¬ (q : Int) = -1 := by omega
   refine ⟨J',call_ret' K _ (fn := t30) rfl rfl ?_⟩
   simp (config := { maxSteps := 4000000 }) (disch := omega) only [t30,go_sem,TM.undef,c42,hq',wrap_i64]
   rw [l1]
   simp (config := { maxSteps := 4000000 }) (disch := omega) only [go_sem,f1,fun env => clV_eq _ env _ _ _ f2,f3]
  ·rfl
theorem kprim32 : K.prim 32 = some primSort := rfl
theorem prV_sort (S : Store) (j v o n c e : Nat) : prV S (some primSort) [.msl j v o n c e] = primSort [.msl j v o n c e] S := id rfl
theorem sortI_len (C : List Int) : (sortI C).length = C.length := (sortI_perm C).length_eq
theorem primSort_RW {S : Store} {j v : Nat} {b : Bool} {C : List Int} {J : List TV} (h : S[j]? = some (.cells v b (C.map vI ++ J))) (hn : C.length ≤ 1000000) {cap : Nat} (hc : C.length ≤ cap) :
  primSort [.msl j v 0 C.length cap 1] S = some (.tup [],S.set j (.cells v b ((sortI C).map vI ++ J))) := by
 by_cases h0 : C.length = 0
 ·obtain rfl : C = [] := List.eq_nil_of_length_eq_zero h0
  have e : S.set j (.cells v b ((sortI []).map vI ++ J)) = S := set_row h
  rw [e]; rfl
 ·have e1 : List.take C.length (List.drop 0 (C.map vI ++ J)) = C.map fun n => TV.iv (.int .i64 n) := by
   rw [List.drop_zero,List.take_left' (by simp)]; rfl
  have e2 : List.drop C.length (C.map vI ++ J) = J := List.drop_left' (by simp)
  simp only [primSort,h0,↓reduceIte,h,hc,Nat.zero_add,List.length_append,List.length_map,show C.length ≤ C.length + J.length by omega,show C.length ≤ 1048576 by omega,and_self,e1,cellsI_map,List.take_zero,List.nil_append,e2]
  rfl
theorem rise_unique : ∀ {l m : List Int},l.Pairwise (· < ·) → m.Pairwise (· < ·) → (∀ x,x ∈ l ↔ x ∈ m) → l = m
 | [],[],_,_,_ => rfl
 | [],b :: m,_,_,h => by have := (h b).2 (by simp); cases this
 | a :: l,[],_,_,h => by have := (h a).1 (by simp); cases this
 | a :: l,b :: m,hl,hm,h => by
  rw [List.pairwise_cons] at hl hm
  have hab : a = b := by
   rcases List.mem_cons.1 ((h a).1 (by simp)) with e | h1
   ·exact e
   ·rcases List.mem_cons.1 ((h b).2 (by simp)) with e | h2
    ·exact e.symm
    ·have := hm.1 a h1; have := hl.1 b h2; omega
  subst hab
  rw [rise_unique hl.2 hm.2 fun x => ?_]
  have hx := h x
  simp only [List.mem_cons] at hx
  constructor
  ·intro h1
   rcases hx.1 (.inr h1) with rfl | h2
   ·have := hl.1 x h1; omega
   ·exact h2
  ·intro h1
   rcases hx.2 (.inr h1) with rfl | h2
   ·have := hm.1 x h1; omega
   ·exact h2
theorem getD_mem {C : List Int} {i : Nat} (h : i < C.length) : C.getD i 0 ∈ C := by
 simp only [List.getD,List.getElem?_eq_getElem h,Option.getD_some]; exact List.getElem_mem _
theorem take_succD {C : List Int} {i : Nat} (h : i < C.length) : C.take (i + 1) = C.take i ++ [C.getD i 0] := by
 rw [List.take_add_one,List.getElem?_eq_getElem h]
 simp [List.getD,List.getElem?_eq_getElem h]
theorem sorted_lt {C : List Int} (hC : C.Pairwise (· ≤ ·)) {p : Nat} (hp : p < C.length) (hp0 : 0 < p) (hne : C.getD p 0 ≠ C.getD (p - 1) 0) : ∀ x ∈ C.take p,x < C.getD p 0 := by
 intro x hx
 obtain ⟨i,hi,rfl⟩ := List.getElem_of_mem hx
 simp at hi
 have h1 : C.getD (p - 1) 0 ≤ C.getD p 0 := by
  simp only [List.getD,List.getElem?_eq_getElem (show p - 1 < C.length by omega),List.getElem?_eq_getElem hp,Option.getD_some]
  exact List.pairwise_iff_getElem.1 hC (p - 1) p _ _ (by omega)
 have h2 : C[i] ≤ C.getD (p - 1) 0 := by
  simp only [List.getD,List.getElem?_eq_getElem (show p - 1 < C.length by omega),Option.getD_some]
  rcases Nat.lt_or_ge i (p - 1) with h | h
  ·exact List.pairwise_iff_getElem.1 hC i (p - 1) _ _ h
  ·have : i = p - 1 := by omega
   subst this; exact Int.le_refl _
 rw [List.getElem_take]
 omega
theorem loop33a {j v : Nat} {b : Bool} {C : List Int} {J : List TV} (hC : C.Pairwise (· ≤ ·)) (hn : C.length ≤ 1000000) {cap : Nat} (hc : C.length ≤ cap) {k0 : Nat} (hk0 : k0 < C.length) (x1 x5 x6 x7 : TV) : ∀ (k p : Nat) (D : List Int) (S : Store) (x8 x9 : TV),p + k = C.length → k0 < p → D.length < p →
  D.Pairwise (· < ·) → (∀ x,x ∈ D ↔ x ∈ C.take p) → S[j]? = some (.cells v b ((D ++ C.drop D.length).map vI ++ J)) →
  ∃ (E : List Int) (y8 y9 : TV),lp' (lim K) t33L0 [.msl j v 0 C.length cap 1,x1,.iv (.int .i64 (D.length : Nat)),.msl j v k0 (C.length - k0) (cap - k0) 1,.iv (.int .i64 (p - k0 : Nat)),x5,x6,x7,x8,x9] S
   = .ret (.exit 2,[.msl j v 0 C.length cap 1,x1,.iv (.int .i64 (E.length : Nat)),.msl j v k0 (C.length - k0) (cap - k0) 1,.iv (.int .i64 (C.length - k0 : Nat)),x5,x6,x7,y8,y9],S.set j (.cells v b ((E ++ C.drop E.length).map vI ++ J))) ∧
   E.Pairwise (· < ·) ∧ (∀ x,x ∈ E ↔ x ∈ C) ∧ E.length ≤ C.length
 | 0,p,D,S,x8,x9,hk,hkp,hDp,hD,hm,h => by
  obtain rfl : p = C.length := by omega
  rw [List.take_length] at hm
  refine ⟨D,.iv (.bool false),x9,loop_at K _ _ t33L0.eq_1 ?_,hD,hm,by omega⟩
  rw [set_row h]
  simp (config := { maxSteps := 4000000 }) (disch := omega) only [go_sem]
 | k + 1,p,D,S,x8,x9,hk,hkp,hDp,hD,hm,h => by
  have hpl : p < C.length := by omega
  have hlen := len_mid (D := D) (C := C) (by omega)
  have e1 : k0 + (p - k0) = p := by omega
  have e2 : k0 + (p - k0 - 1) = p - 1 := by omega
  have i1 := ix_RWo (j := j) (v := v) (off := k0) (cap := cap - k0) (show p - k0 < C.length - k0 by omega)
  have i2 := ix_RWo (j := j) (v := v) (off := k0) (cap := cap - k0) (show p - k0 - 1 < C.length - k0 by omega)
  rw [e1] at i1
  rw [e2,show ((p - k0 - 1 : Nat) : Int) = ((p - k0 : Nat) : Int) - 1 by omega] at i2
  have s1 := sub_RW (C := D ++ C.drop D.length) (J := J) (i := p) (by omega)
  have s2 := sub_RW (C := D ++ C.drop D.length) (J := J) (i := p - 1) (by omega)
  rw [get_mid (by omega)] at s1 s2
  have h' := h
  simp only [vI] at h' s1 s2
  have hts := take_succD hpl
  by_cases hd : C.getD p 0 = C.getD (p - 1) 0
  ·have hmem : C.getD (p - 1) 0 ∈ C.take p := by
    have : (C.take p).getD (p - 1) 0 = C.getD (p - 1) 0 := by
     simp only [List.getD,List.getElem?_take_of_lt (show p - 1 < p by omega)]
    rw [← this]
    exact getD_mem (by simp; omega)
   obtain ⟨E,y8,y9,ih,hE⟩ := loop33a hC hn hc hk0 x1 x5 x6 x7 k (p + 1) D S (.iv (.bool true)) (.iv (.bool false)) (by omega) (by omega) (by omega) hD (fun x => by
    rw [hts,List.mem_append,List.mem_singleton,hm x]
    constructor
    ·exact .inl
    ·rintro (h1 | rfl)
     ·exact h1
     ·rw [hd]; exact hmem) h
   rw [show ((p + 1 - k0 : Nat) : Int) = ((p - k0 : Nat) : Int) + 1 by omega] at ih
   refine ⟨E,y8,y9,loop_at K _ _ t33L0.eq_1 ?_,hE⟩
   simp (config := { maxSteps := 4000000 }) (disch := omega) only [go_sem,i1,i2,h',s1,s2,hd,wrap_i64]
   exact congrArg er ih
  ·have hlt' := sorted_lt hC hpl (by omega) hd
   have hDl : D.length < C.length := by omega
   have i3 := ix_RW (j := j) (v := v) (cap := cap) hDl
   have p1 := put_RW (C := D ++ C.drop D.length) (J := J) (i := D.length) (C.getD p 0) (by omega)
   rw [set_mid _ _ _ hDl] at p1
   have hlt := lt_get h
   obtain ⟨E,y8,y9,ih,hE⟩ := loop33a (v := v) (b := b) (J := J) hC hn hc hk0 x1 x5 x6 x7 k (p + 1) (D ++ [C.getD p 0]) (S.set j (.cells v b (((D ++ [C.getD p 0]) ++ C.drop (D.length + 1)).map vI ++ J))) (.iv (.bool true)) (.iv (.bool true)) (by omega) (by omega) (by simp; omega)
    (List.pairwise_append.2 ⟨hD,by simp,fun a ha x hx => by rw [List.mem_singleton] at hx; subst hx; exact hlt' a ((hm a).1 ha)⟩) (fun x => by
    rw [hts,List.mem_append,List.mem_append,hm x]) (by
    rw [get_setS hlt]
    simp)
   rw [show ((p + 1 - k0 : Nat) : Int) = ((p - k0 : Nat) : Int) + 1 by omega,List.length_append,List.length_singleton,List.set_set,show ((D.length + 1 : Nat) : Int) = (D.length : Int) + 1 by omega] at ih
   have hbb : D.length + 1 ≤ ((D ++ C.drop D.length).map vI ++ J).length := by rw [List.length_append,List.length_map,hlen]; omega
   simp only [vI] at p1 hbb
   refine ⟨E,y8,y9,loop_at K _ _ t33L0.eq_1 ?_,hE⟩
   simp (config := { maxSteps := 4000000 }) (disch := omega) only [go_sem,i1,i2,i3,h',s1,s2,hd,wrap_i64,hbb,p1]
   exact congrArg er ih
theorem loop33b {j v : Nat} {b : Bool} {C : List Int} {J : List TV} (hC : C.Pairwise (· ≤ ·)) (hn : C.length ≤ 1000000) {cap : Nat} (hc : C.length ≤ cap) {S : Store} (h : S[j]? = some (.cells v b (C.map vI ++ J))) (x1 x5 : TV) : ∀ (k i : Nat) (x3 x4 x6 x7 x8 x9 : TV),i + k = C.length → 0 < i → (C.take i).Pairwise (· < ·) →
  ∃ (jj : Jump) (E : List Int) (J' : List TV) (y0 y1 y2 y3 y4 y6 y7 y8 y9 : TV),lp' (lim K) t33L1 [.msl j v 0 C.length cap 1,x1,.iv (.int .i64 i),x3,x4,x5,x6,x7,x8,x9] S
   = .ret (jj,[y0,y1,y2,y3,y4,x5,y6,y7,y8,y9],S.set j (.cells v b (E.map vI ++ J'))) ∧ E.Pairwise (· < ·) ∧ (∀ x,x ∈ E ↔ x ∈ C) ∧
   (jj = .exit 0 ∧ y0 = .msl j v 0 E.length cap 1 ∨ jj = .ret ∧ y1 = .msl j v 0 E.length cap 1)
 | 0,i,x3,x4,x6,x7,x8,x9,hk,hi,hp => by
  obtain rfl : i = C.length := by omega
  rw [List.take_length] at hp
  refine ⟨.exit 0,C,J,.msl j v 0 C.length cap 1,x1,.iv (.int .i64 C.length),x3,x4,.iv (.bool false),x7,x8,x9,loop_at K _ _ t33L1.eq_1 ?_,hp,fun x => Iff.rfl,.inl ⟨rfl,rfl⟩⟩
  rw [set_row h]
  simp (config := { maxSteps := 4000000 }) (disch := omega) only [go_sem]
 | k + 1,i,x3,x4,x6,x7,x8,x9,hk,hi,hp => by
  have hla : i < C.length := by omega
  have i1 := ix_RW (j := j) (v := v) (cap := cap) hla
  have i2 := ix_RW (j := j) (v := v) (cap := cap) (show i - 1 < C.length by omega)
  rw [show ((i - 1 : Nat) : Int) = (i : Int) - 1 by omega] at i2
  have s1 := sub_RW (J := J) hla
  have s2 := sub_RW (J := J) (show i - 1 < C.length by omega)
  have hts := take_succD hla
  have h' := h
  simp only [vI] at h' s1 s2
  by_cases hd : C.getD i 0 = C.getD (i - 1) 0
  ·have hmem : C.getD (i - 1) 0 ∈ C.take i := by
    have : (C.take i).getD (i - 1) 0 = C.getD (i - 1) 0 := by
     simp only [List.getD,List.getElem?_take_of_lt (show i - 1 < i by omega)]
    rw [← this]
    exact getD_mem (by simp; omega)
   have hil : (C.take i).length = i := by simp; omega
   obtain ⟨E,y8,y9,l1,hE,hEm,hEl⟩ := loop33a (j := j) (v := v) (b := b) (J := J) hC hn hc hla x1 x5 (.iv (.bool true)) (.iv (.bool true)) (C.length - (i + 1)) (i + 1) (C.take i) S x8 x9 (by omega) (by omega) (by omega) hp (fun x => by
    rw [hts,List.mem_append,List.mem_singleton]
    constructor
    ·exact .inl
    ·rintro (h1 | rfl)
     ·exact h1
     ·rw [hd]; exact hmem) (by rw [hil,List.take_append_drop]; exact h)
   rw [hil,show i + 1 - i = 1 by omega,show ((1 : Nat) : Int) = 1 from rfl] at l1
   have f1 := sl_msl h _ _ _ (bounds_lo (m := C.length) (cap := cap) (a := i) hc (by omega))
   rw [if_neg (show ¬ cap = i by omega),Nat.zero_add,Nat.mul_one] at f1
   have hlt := lt_get h
   have hS1 : (S.set j (.cells v b ((E ++ C.drop E.length).map vI ++ J)))[j]? = some _ := get_setS hlt _
   have hlen := len_mid (D := E) (C := C) hEl
   have f2 := sl_msl hS1 _ _ _ (bounds_lo (m := C.length) (cap := cap) (a := E.length) hc hEl)
   obtain ⟨J',f3⟩ := clr_RW (cap := cap) hS1 (i := E.length) (by omega) (by omega) (cap - E.length)
   rw [hlen,List.take_left' rfl,List.set_set] at f3
   have hS2 : (S.set j (.cells v b (E.map vI ++ J')))[j]? = some _ := get_setS hlt _
   have f4 := sl_msl hS2 _ _ _ (bounds_hi (m := C.length) (cap := cap) (b := E.length) (by omega))
   rw [show (if cap = 0 then 0 else 0 + 0 * 1) = 0 by split <;> rfl,Nat.sub_zero,Nat.sub_zero] at f4
   refine ⟨.ret,E,J',.msl j v 0 C.length cap 1,.msl j v 0 E.length cap 1,.iv (.int .i64 (E.length : Nat)),.msl j v i (C.length - i) (cap - i) 1,.iv (.int .i64 (C.length - i : Nat)),.iv (.bool true),.iv (.bool true),y8,y9,loop_at K _ _ t33L1.eq_1 ?_,hE,hEm,.inr ⟨rfl,rfl⟩⟩
   simp (config := { maxSteps := 4000000 }) (disch := omega) only [go_sem,i1,i2,h',s1,s2,hd,wrap_i64,f1]
   rw [l1]
   simp (config := { maxSteps := 4000000 }) (disch := omega) only [go_sem,f2,fun env => clV_eq _ env _ _ _ f3,f4]
  ·have hlt' := sorted_lt hC hla (by omega) hd
   obtain ⟨jj,E,J',y0,y1,y2,y3,y4,y6,y7,y8,y9,ih,hE⟩ := loop33b hC hn hc h x1 x5 k (i + 1) x3 x4 (.iv (.bool true)) (.iv (.bool false)) x8 x9 (by omega) (by omega) (by
    rw [hts]
    exact List.pairwise_append.2 ⟨hp,by simp,fun a ha x hx => by rw [List.mem_singleton] at hx; subst hx; exact hlt' a ha⟩)
   rw [show ((i + 1 : Nat) : Int) = (i : Int) + 1 by omega] at ih
   refine ⟨jj,E,J',y0,y1,y2,y3,y4,y6,y7,y8,y9,loop_at K _ _ t33L1.eq_1 ?_,hE⟩
   simp (config := { maxSteps := 4000000 }) (disch := omega) only [go_sem,i1,i2,h',s1,s2,hd,wrap_i64]
   exact congrArg er ih
theorem call33 {S : Store} {j v : Nat} {b : Bool} {C D : List Int} {J : List TV} (hC : C.Pairwise (· ≤ ·)) (hn : C.length ≤ 1000000) {cap : Nat} (hc : C.length ≤ cap) (h : S[j]? = some (.cells v b (C.map vI ++ J))) (hD : D.Pairwise (· < ·)) (hm : ∀ x,x ∈ D ↔ x ∈ C) :
  ∃ J',(lim K).call 33 [.msl j v 0 C.length cap 1] S = .ret (.msl j v 0 D.length cap 1,S.set j (.cells v b (D.map vI ++ J'))) := by
 by_cases h2 : C.length < 2
 ·have hCD : C = D := by
   refine rise_unique ?_ hD fun x => (hm x).symm
   match C,h2 with
   | [],_ => simp
   | [a],_ => simp
  subst hCD
  refine ⟨J,call_ret' K _ (fn := t33) rfl rfl ?_⟩
  rw [set_row h]
  have h2' : ((C.length : Nat) : Int) < 2 := by omega
  simp (config := { maxSteps := 4000000 }) (disch := omega) only [t33,go_sem,TM.undef,h2']
 ·obtain ⟨jj,E,J',y0,y1,y2,y3,y4,y6,y7,y8,y9,l1,hE,hEm,hy⟩ := loop33b hC hn hc h (.iv (.sl .nil [])) (.iv (.bool false)) (C.length - 1) 1 (.tup []) (.tup []) (.tup []) (.tup []) (.tup []) (.tup []) (by omega) (by omega) (by
   match C,h2 with
   | a :: r,_ => simp)
  rw [show ((1 : Nat) : Int) = 1 from rfl] at l1
  obtain rfl : E = D := rise_unique hE hD fun x => (hEm x).trans (hm x).symm
  have h2' : ¬ ((C.length : Nat) : Int) < 2 := by omega
  refine ⟨J',call_ret' K _ (fn := t33) rfl rfl ?_⟩
  rcases hy with ⟨rfl,rfl⟩ | ⟨rfl,rfl⟩
  ·simp (config := { maxSteps := 4000000 }) (disch := omega) only [t33,go_sem,TM.undef,h2']
   rw [l1]
   simp (config := { maxSteps := 4000000 }) (disch := omega) only [go_sem]
  ·simp (config := { maxSteps := 4000000 }) (disch := omega) only [t33,go_sem,TM.undef,h2']
   rw [l1]
   simp (config := { maxSteps := 4000000 }) (disch := omega) only [go_sem]
structure Tidy (C D : List Int) : Prop where
 rise : D.Pairwise (· < ·)
 mem : ∀ x,x ∈ D ↔ x ∈ C ∧ 0 < x
theorem call22 {S : Store} {j v : Nat} {b : Bool} {C D : List Int} {J : List TV} (hn : C.length ≤ 1000000) {cap : Nat} (hc : C.length ≤ cap) (h : S[j]? = some (.cells v b (C.map vI ++ J))) (t : Tidy C D) :
  ∃ J',(lim K).call 22 [.msl j v 0 C.length cap 1] S = .ret (.msl j v 0 D.length cap 1,S.set j (.cells v b (D.map vI ++ J'))) := by
 have hlt := lt_get h
 obtain ⟨J1,c30⟩ := call30 h hn hc
 have hpl := pos_len C
 have hS1 : (S.set j (.cells v b ((pos C).map vI ++ J1)))[j]? = some _ := get_setS hlt _
 have hp := primSort_RW hS1 (by omega) (cap := cap) (by omega)
 rw [List.set_set] at hp
 have hS2 : (S.set j (.cells v b ((sortI (pos C)).map vI ++ J1)))[j]? = some _ := get_setS hlt _
 have hsl := sortI_len (pos C)
 obtain ⟨J2,c33⟩ := call33 (D := D) (sortI_pair (pos C)) (by omega) (cap := cap) (by omega) hS2 t.rise (fun x => by
  rw [t.mem x,(sortI_perm (pos C)).mem_iff]
  simp [pos])
 rw [List.set_set,hsl] at c33
 refine ⟨J2,call_ret' K _ (fn := t22) rfl rfl ?_⟩
 simp (config := { maxSteps := 4000000 }) (disch := omega) only [t22,go_sem,TM.undef,c30,kprim32,prV_sort,hp,c33]
theorem drop_get {α : Type} [Inhabited α] {l : List α} {i : Nat} (h : i < l.length) : l.drop i = l.getD i default :: l.drop (i + 1) := by
 rw [List.drop_eq_getElem_cons h,List.getD_eq_getElem?_getD,List.getElem?_eq_getElem h]; rfl
def oneI (l : List Int) : List (List IV) := TM.one (.int .i64) l
theorem oneI_len (l : List Int) : (oneI l).length = l.length := by simp [oneI,TM.one]
theorem oneI_el (l : List Int) : Elems 1 (oneI l) := Elems.one (fun _ => rfl) l
def tw : List Int → Int → Nat
 | [],_ => 0
 | a :: r,n => if a < n then tw r n + 1 else 0
theorem tw_le : ∀ (l : List Int) (n : Int),tw l n ≤ l.length
 | [],n => Nat.le_refl _
 | a :: r,n => by
  have := tw_le r n
  unfold tw; split <;> simp <;> omega
theorem tw_take : ∀ (l : List Int) (n : Int),∀ v ∈ l.take (tw l n),v < n
 | [],n,v,h => by simp at h
 | a :: r,n,v,h => by
  unfold tw at h
  split at h
  ·rw [List.take_succ_cons] at h
   rcases List.mem_cons.1 h with rfl | h
   ·assumption
   ·exact tw_take r n v h
  ·simp at h
theorem tw_drop : ∀ (l : List Int) (n : Int),l.Pairwise (· < ·) → n ∉ l → ∀ v ∈ l.drop (tw l n),n < v
 | [],n,_,_,v,h => by simp at h
 | a :: r,n,hp,hn,v,h => by
  rw [List.pairwise_cons] at hp
  simp only [List.mem_cons,not_or] at hn
  unfold tw at h
  split at h
  ·rw [List.drop_succ_cons] at h
   exact tw_drop r n hp.2 hn.2 v h
  ·rw [List.drop_zero] at h
   rcases List.mem_cons.1 h with rfl | h
   ·omega
   ·have := hp.1 v h; omega
def putI (l : List Int) (n : Int) : List Int := if n ∈ l then l else l.take (tw l n) ++ n :: l.drop (tw l n)
theorem putI_mem (l : List Int) (n v : Int) : v ∈ putI l n ↔ v ∈ l ∨ v = n := by
 unfold putI
 split
 ·rename_i h
  constructor
  ·exact .inl
  ·rintro (h1 | rfl)
   ·exact h1
   ·exact h
 ·have : l.take (tw l n) ++ l.drop (tw l n) = l := List.take_append_drop _ _
  rw [List.mem_append,List.mem_cons]
  rw [← this,List.mem_append]
  rw [List.take_append_drop]
  constructor
  ·rintro (h | h | h)
   ·exact .inl (.inl h)
   ·exact .inr h
   ·exact .inl (.inr h)
  ·rintro ((h | h) | h)
   ·exact .inl h
   ·exact .inr (.inr h)
   ·exact .inr (.inl h)
theorem putI_pair {l : List Int} (n : Int) (hp : l.Pairwise (· < ·)) : (putI l n).Pairwise (· < ·) := by
 unfold putI
 split
 ·exact hp
 ·rename_i hn
  have h1 := tw_take l n
  have h2 := tw_drop l n hp hn
  rw [List.pairwise_append,List.pairwise_cons]
  refine ⟨List.Pairwise.sublist (List.take_sublist _ _) hp,⟨h2,List.Pairwise.sublist (List.drop_sublist _ _) hp⟩,fun a ha b hb => ?_⟩
  rcases List.mem_cons.1 hb with rfl | hb
  ·exact h1 a ha
  ·have := h1 a ha; have := h2 b hb; omega
theorem putI_len (l : List Int) (n : Int) : (putI l n).length ≤ l.length + 1 := by
 unfold putI
 split
 ·omega
 ·have := tw_le l n
  simp; omega
theorem ap_accI {l ys : List Int} {t : Tag} (h : l.length + ys.length ≤ 8000000) :
  appendOp false 1 8 3 (accS 1 3 (oneI l)) (acc 0 (oneI l)) (.iv (.sl t (oneI ys))) = some (acc 0 (oneI (l ++ ys)),accS 1 3 (oneI (l ++ ys))) := by
 have := ap_acc (w := 1) (b := 8) (el := 3) (l := oneI l) (ys := oneI ys) (x := .iv (.sl t (oneI ys))) (fun S => IsEl.sl S t _) (oneI_el ys) (oneI_el l) (roomy_ok (by rw [oneI_len,oneI_len]; omega))
 rw [this,show oneI l ++ oneI ys = oneI (l ++ ys) by simp [oneI,TM.one]]
structure VI where
 op : Int
 d : Int
 a : Int
 b : Int
 im : Int
 lb : Int
 tu : Tag
 us : List Int
 tm : Tag
 mp : List Int
instance : Inhabited VI := ⟨⟨0,0,0,0,0,0,.nil,[],.nil,[]⟩⟩
def encV (v : VI) : List IV := [.int .i64 v.op,.int .i64 v.d,.int .i64 v.a,.int .i64 v.b,.int .i64 v.im,.int .i64 v.lb,.sl v.tu (TM.one (.int .i64) v.us),.sl v.tm (TM.one (.int .i64) v.mp)]
theorem encV_eq (v : VI) : encV v = [.int .i64 v.op,.int .i64 v.d,.int .i64 v.a,.int .i64 v.b,.int .i64 v.im,.int .i64 v.lb,.sl v.tu (TM.one (.int .i64) v.us),.sl v.tm (TM.one (.int .i64) v.mp)] := rfl
theorem encV_tv (v : VI) : (encV v).map TV.iv = [.iv (.int .i64 v.op),.iv (.int .i64 v.d),.iv (.int .i64 v.a),.iv (.int .i64 v.b),.iv (.int .i64 v.im),.iv (.int .i64 v.lb),.iv (.sl v.tu (TM.one (.int .i64) v.us)),.iv (.sl v.tm (TM.one (.int .i64) v.mp))] := rfl
theorem one_nil : TM.one (IV.int .i64) [] = [] := rfl
def put1 (l : List Int) (n : Int) : List Int := if n ≤ 0 then l else putI l n
def tdy (C : List Int) : List Int := C.foldl put1 []
theorem put1_mem (l : List Int) (n v : Int) : v ∈ put1 l n ↔ v ∈ l ∨ (v = n ∧ 0 < n) := by
 unfold put1
 split
 ·rename_i h
  constructor
  ·exact .inl
  ·rintro (h1 | ⟨_,h2⟩)
   ·exact h1
   ·omega
 ·rename_i h
  rw [putI_mem]
  constructor
  ·rintro (h1 | h1)
   ·exact .inl h1
   ·exact .inr ⟨h1,by omega⟩
  ·rintro (h1 | ⟨h1,_⟩)
   ·exact .inl h1
   ·exact .inr h1
theorem put1_pair {l : List Int} (n : Int) (h : l.Pairwise (· < ·)) : (put1 l n).Pairwise (· < ·) := by
 unfold put1
 split
 ·exact h
 ·exact putI_pair n h
theorem put1_len (l : List Int) (n : Int) : (put1 l n).length ≤ l.length + 1 := by
 unfold put1
 split
 ·omega
 ·exact putI_len l n
theorem fold_tidy : ∀ (C l : List Int),l.Pairwise (· < ·) → (C.foldl put1 l).Pairwise (· < ·) ∧ ∀ x,x ∈ C.foldl put1 l ↔ x ∈ l ∨ (x ∈ C ∧ 0 < x)
 | [],l,h => ⟨h,fun x => by simp⟩
 | n :: C,l,h => by
  obtain ⟨h1,h2⟩ := fold_tidy C (put1 l n) (put1_pair n h)
  refine ⟨h1,fun x => ?_⟩
  rw [List.foldl_cons,h2 x,put1_mem,List.mem_cons]
  constructor
  ·rintro ((h3 | ⟨rfl,h4⟩) | ⟨h3,h4⟩)
   ·exact .inl h3
   ·exact .inr ⟨.inl rfl,h4⟩
   ·exact .inr ⟨.inr h3,h4⟩
  ·rintro (h3 | ⟨rfl | h3,h4⟩)
   ·exact .inl (.inl h3)
   ·exact .inl (.inr ⟨rfl,h4⟩)
   ·exact .inr ⟨h3,h4⟩
theorem fold_len : ∀ (C l : List Int),(C.foldl put1 l).length ≤ l.length + C.length
 | [],l => Nat.le_refl _
 | n :: C,l => by
  have h1 := fold_len C (put1 l n)
  have h2 := put1_len l n
  rw [List.foldl_cons,List.length_cons]; omega
theorem tdy_tidy (C : List Int) : Tidy C (tdy C) := by
 obtain ⟨h1,h2⟩ := fold_tidy C [] .nil
 exact ⟨h1,fun x => by rw [show x ∈ tdy C ↔ _ from h2 x]; simp⟩
theorem tdy_len (C : List Int) : (tdy C).length ≤ C.length := by have := fold_len C []; simpa [tdy] using this
theorem tdy_pos {C : List Int} {x : Int} (h : x ∈ tdy C) : 0 < x := ((tdy_tidy C).mem x).1 h |>.2
def usesM (v : VI) : List Int :=
 if (1 ≤ v.op ∧ v.op ≤ 14) ∨ (25 ≤ v.op ∧ v.op ≤ 31) then tdy [v.a,v.b]
 else if (15 ≤ v.op ∧ v.op ≤ 24 ∧ v.op ≠ 23) ∨ v.op = 64 ∨ v.op = 74 then tdy [v.a]
 else if v.op = 67 ∨ v.op = 68 ∨ v.op = 72 then tdy (v.us ++ [26]) else []
def regs26 : List Int := List.map (fun n : Nat => (n : Int) + 1) (List.range 26)
def defsM (v : VI) : List Int :=
 if (1 ≤ v.op ∧ v.op ≤ 24) ∨ v.op = 64 ∨ (69 ≤ v.op ∧ v.op ≤ 71) ∨ v.op = 73 then tdy [v.d]
 else if v.op = 67 then tdy (regs26 ++ [31,v.d]) else []
def uI (n : Nat) : TV := .iv (.int .u64 (n : Int))
theorem sub_UW {W : List Nat} {i : Nat} (h : i < W.length) : sub (W.map uI) i 1 = some [uI (W.getD i 0)] := by
 simp only [sub,List.length_map,show i + 1 ≤ W.length by omega,↓reduceIte]
 rw [List.drop_eq_getElem_cons (by simp; omega)]
 simp [List.getD,List.getElem?_eq_getElem h]
theorem put_UW {W : List Nat} {i : Nat} (x : Nat) (h : i < W.length) : put (W.map uI) i [uI x] = (W.set i x).map uI := by
 unfold put
 rw [List.map_set,List.set_eq_take_append_cons_drop,if_pos (by simpa using h)]
 simp
def bit (W : List Nat) (r : Nat) : Bool := (W.getD (r / 64) 0).testBit (r % 64)
structure WOK (m : Nat) (W : List Nat) : Prop where
 len : W.length = m
 lt : ∀ x ∈ W,x < 18446744073709551616
theorem WOK.get {m : Nat} {W : List Nat} (h : WOK m W) (i : Nat) : W.getD i 0 < 18446744073709551616 := by
 rcases Nat.lt_or_ge i W.length with h1 | h1
 ·simp only [List.getD,List.getElem?_eq_getElem h1,Option.getD_some]; exact h.lt _ (List.getElem_mem _)
 ·simp [List.getD,List.getElem?_eq_none h1]
theorem WOK.set {m : Nat} {W : List Nat} (h : WOK m W) (i x : Nat) (hx : x < 18446744073709551616) : WOK m (W.set i x) :=
 ⟨by rw [List.length_set,h.len],fun y hy => by
  rcases List.mem_or_eq_of_mem_set hy with h1 | rfl
  ·exact h.lt y h1
  ·exact hx⟩
theorem WOK.zero (m : Nat) : WOK m (List.replicate m 0) := ⟨by simp,fun x hx => by rw [List.eq_of_mem_replicate hx]; decide⟩
theorem bit_zero (m r : Nat) : bit (List.replicate m 0) r = false := by
 unfold bit
 have : (List.replicate m 0).getD (r / 64) 0 = 0 := by
  rcases Nat.lt_or_ge (r / 64) m with h | h
  ·simp [List.getD,h]
  ·rw [List.getD,List.getElem?_eq_none (by simpa using h)]; rfl
 rw [this]; exact Nat.zero_testBit _
theorem getD_set {W : List Nat} {i j x : Nat} (h : i < W.length) : (W.set i x).getD j 0 = if j = i then x else W.getD j 0 := by
 simp only [List.getD,List.getElem?_set]
 by_cases e : i = j
 ·subst e; simp [h]
 ·rw [if_neg e,if_neg (Ne.symm e)]
theorem u64_or {a b : Nat} (ha : a < 18446744073709551616) (hb : b < 18446744073709551616) : IntKind.u64.wrap (bOr 64 (a : Int) (b : Int)) = ((a ||| b : Nat) : Int) := by
 have h : a ||| b < 2 ^ 64 := Nat.or_lt_two_pow (by simpa using ha) (by simpa using hb)
 unfold bOr
 rw [BitVec.toNat_or,ofInt_toNat ⟨by omega,by norm_cast⟩,ofInt_toNat ⟨by omega,by norm_cast⟩,Int.toNat_natCast,Int.toNat_natCast,wrap_u64]
 omega
def nAndNot (a b : Nat) : Nat := (BitVec.ofNat 64 a &&& ~~~ BitVec.ofNat 64 b).toNat
theorem nAndNot_lt (a b : Nat) : nAndNot a b < 18446744073709551616 := (BitVec.ofNat 64 a &&& ~~~ BitVec.ofNat 64 b).isLt
theorem nAndNot_bit (a b i : Nat) (hi : i < 64) : (nAndNot a b).testBit i = (a.testBit i && !b.testBit i) := by
 unfold nAndNot
 rw [BitVec.testBit_toNat,BitVec.getLsbD_and,BitVec.getLsbD_not,BitVec.getLsbD_ofNat,BitVec.getLsbD_ofNat]
 simp [hi]
theorem u64_andNot (a b : Nat) : IntKind.u64.wrap (bAndNot 64 (a : Int) (b : Int)) = ((nAndNot a b : Nat) : Int) := by
 have h := nAndNot_lt a b
 unfold bAndNot
 rw [BitVec.ofInt_natCast,BitVec.ofInt_natCast,wrap_u64]
 ·rfl
 ·exact ⟨by omega,by unfold nAndNot at h; omega⟩
theorem tdiv_nat (p : Nat) : ((p : Int).tdiv 64) = ((p / 64 : Nat) : Int) := by
 rw [Int.tdiv_eq_ediv_of_nonneg (by omega)]; omega
theorem tmod_nat (p : Nat) : ((p : Int).tmod 64) = ((p % 64 : Nat) : Int) := by
 rw [Int.tmod_eq_emod_of_nonneg (by omega)]; omega
theorem shl_one {q : Nat} (hq : q < 64) {inst : Decidable (((q : Nat) : Int).toNat ≤ 64)} : IntKind.u64.wrap (1 * 2 ^ (@ite Nat (((q : Nat) : Int).toNat ≤ 64) inst ((q : Nat) : Int).toNat 64)) = ((2 ^ q : Nat) : Int) := by
 have h : 2 ^ q < 18446744073709551616 := Nat.pow_lt_pow_right (n := 64) (a := 2) (by decide) hq
 have e : ((2 : Int) ^ q) = ((2 ^ q : Nat) : Int) := by push_cast; rfl
 rw [if_pos (by omega),Int.toNat_natCast,Int.one_mul,e]
 generalize 2 ^ q = x at *
 rw [wrap_u64 (by omega)]
theorem binOp_shl1 {q : Nat} (hq : q < 64) : TM.binOp .shl (.iv (.int .u64 1)) (.iv (.int .i64 ((q : Nat) : Int))) = some (.int .u64 ((2 ^ q : Nat) : Int)) := by
 rw [TM.binOp_shl,if_neg (by omega)]
 have := shl_one hq (inst := Nat.decLe _ _)
 show some (IV.int .u64 (IntKind.u64.wrap (1 * 2 ^ (if ((q : Nat) : Int).toNat ≤ 64 then ((q : Nat) : Int).toNat else 64)))) = _
 rw [this]
theorem two_bit {q i : Nat} : (2 ^ q).testBit i = decide (q = i) := Nat.testBit_two_pow
theorem two_lt {q : Nat} (h : q < 64) : 2 ^ q < 18446744073709551616 := Nat.pow_lt_pow_right (n := 64) (a := 2) (by decide) h
theorem or_lt64 {a b : Nat} (ha : a < 18446744073709551616) (hb : b < 18446744073709551616) : a ||| b < 18446744073709551616 := Nat.or_lt_two_pow (n := 64) ha hb
theorem mkV_u {bytes m n : Nat} (hr : roomy n bytes = true) : mkV [.int .u64 0] bytes m (.iv (.int .i64 n)) (.iv (.int .i64 n)) = some (.msl m 0 0 n n 1,.cells 0 false ((List.replicate n 0).map uI)) := by
 have hf : flat (List.replicate n ([IV.int .u64 0].map TV.iv)) = (List.replicate n 0).map uI := by
  rw [flat_rep]
  simp [cellsF,uI]
 have := mkV_int [.int .u64 0] bytes m .i64 .i64 n n ⟨by omega,by omega,by rw [Int.toNat_natCast]; exact hr⟩
 rw [Int.toNat_natCast,hf] at this
 exact this
theorem bit_put {W : List Nat} {p r : Nat} (h : p / 64 < W.length) : bit (W.set (p / 64) (W.getD (p / 64) 0 ||| 2 ^ (p % 64))) r = (bit W r || decide (r = p)) := by
 unfold bit
 rw [getD_set h]
 by_cases e : r / 64 = p / 64
 ·rw [if_pos e,Nat.testBit_or,two_bit,e]
  congr 1
  have : (p % 64 = r % 64) ↔ r = p := by omega
  simp only [this]
 ·rw [if_neg e]
  have : ¬ r = p := by rintro rfl; exact e rfl
  simp [this]
theorem loop36 {j m regs : Nat} (hregs : regs ≤ 1000000) (hm : (regs + 63) / 64 = m) (t : Tag) (l : List Int) (hl : l.length ≤ 2000000) (hpos : ∀ x ∈ l,0 ≤ x) (x2 : TV) : ∀ (k i : Nat) (W : List Nat) (S : Store) (x4 x8 x9 : TV),i + k = l.length → WOK m W → S[j]? = some (.cells 0 false (W.map uI)) →
  ∃ (W' : List Nat) (y4 y8 y9 : TV),lp' (lim K) t36L0 [.iv (.int .i64 regs),.iv (.sl t (TM.one (.int .i64) l)),x2,.msl j 0 0 m m 1,x4,.iv (.sl t (TM.one (.int .i64) l)),.iv (.int .i64 l.length),.iv (.int .i64 i),x8,x9] S
   = .ret (.exit 0,[.iv (.int .i64 regs),.iv (.sl t (TM.one (.int .i64) l)),x2,.msl j 0 0 m m 1,y4,.iv (.sl t (TM.one (.int .i64) l)),.iv (.int .i64 l.length),.iv (.int .i64 l.length),y8,y9],S.set j (.cells 0 false (W'.map uI))) ∧
   WOK m W' ∧ ∀ r : Nat,bit W' r = true ↔ bit W r = true ∨ ((r : Int) ∈ l.drop i ∧ r < regs)
 | 0,i,W,S,x4,x8,x9,hk,hW,h => by
  obtain rfl : i = l.length := by omega
  refine ⟨W,x4,.iv (.bool false),x9,loop_at K _ _ t36L0.eq_1 ?_,hW,fun r => by simp⟩
  rw [set_row h]
  simp (config := { maxSteps := 4000000 }) (disch := omega) only [go_sem]
 | k + 1,i,W,S,x4,x8,x9,hk,hW,h => by
  have hla : i < l.length := by omega
  have hix := ix_one (f := IV.int .i64) (t := t) (l := l) (i := (i : Int)) (by omega)
  rw [Int.toNat_natCast] at hix
  have hdr := drop_get hla
  have hx0 : 0 ≤ l.getD i default := hpos _ (by simp only [List.getD,List.getElem?_eq_getElem hla,Option.getD_some]; exact List.getElem_mem _)
  obtain ⟨p,hp⟩ := Int.eq_ofNat_of_zero_le hx0
  rw [hp] at hix hdr
  by_cases hpr : p < regs
  ·have hpm : p / 64 < m := by omega
   have hpl : p / 64 < W.length := by rw [hW.len]; exact hpm
   have i1 := ix_RW (j := j) (v := 0) (cap := m) hpm
   have s1 := sub_UW hpl
   have hq : p % 64 < 64 := Nat.mod_lt _ (by decide)
   have hor := or_lt64 (hW.get (p / 64)) (two_lt hq)
   have e1 := tdiv_nat p
   have e2 := tmod_nat p
   have e3 := binOp_shl1 hq
   have e4 := u64_or (hW.get (p / 64)) (two_lt hq)
   have p1 := put_UW (W.getD (p / 64) 0 ||| 2 ^ (p % 64)) hpl
   have hlt := lt_get h
   obtain ⟨W',y4,y8,y9,ih,hW',hb⟩ := loop36 hregs hm t l hl hpos x2 k (i + 1) _ (S.set j (.cells 0 false ((W.set (p / 64) (W.getD (p / 64) 0 ||| 2 ^ (p % 64))).map uI))) (.iv (.int .i64 p)) (.iv (.bool true)) (.iv (.bool true)) (by omega) (hW.set (p / 64) _ hor) (get_setS hlt _)
   rw [show ((i + 1 : Nat) : Int) = (i : Int) + 1 by omega,List.set_set] at ih
   have hbb : p / 64 + 1 ≤ (W.map uI).length := by rw [List.length_map]; omega
   have h' := h
   simp only [uI] at s1 p1 h' hbb
   refine ⟨W',y4,y8,y9,loop_at K _ _ t36L0.eq_1 ?_,hW',fun r => ?_⟩
   ·generalize hA : W.getD (p / 64) 0 = A at *
    generalize hB : (2 ^ (p % 64) : Nat) = B at *
    generalize hC : A ||| B = C at *
    simp (config := { maxSteps := 4000000 }) (disch := omega) only [go_sem,hix,TM.one_length,i1,h',s1,e1,e2,e3,e4,p1,hbb,wrap_i64]
    exact congrArg er ih
   ·rw [hb r,bit_put hpl,hdr,List.mem_cons,Bool.or_eq_true,decide_eq_true_eq]
    constructor
    ·rintro ((h1 | rfl) | ⟨h1,h2⟩)
     ·exact .inl h1
     ·exact .inr ⟨.inl rfl,hpr⟩
     ·exact .inr ⟨.inr h1,h2⟩
    ·rintro (h1 | ⟨h1 | h1,h2⟩)
     ·exact .inl (.inl h1)
     ·exact .inl (.inr (by omega))
     ·exact .inr ⟨h1,h2⟩
  ·obtain ⟨W',y4,y8,y9,ih,hW',hb⟩ := loop36 hregs hm t l hl hpos x2 k (i + 1) W S (.iv (.int .i64 p)) (.iv (.bool true)) (.iv (.bool false)) (by omega) hW h
   rw [show ((i + 1 : Nat) : Int) = (i : Int) + 1 by omega] at ih
   refine ⟨W',y4,y8,y9,loop_at K _ _ t36L0.eq_1 ?_,hW',fun r => ?_⟩
   ·simp (config := { maxSteps := 4000000 }) (disch := omega) only [go_sem,hix,TM.one_length,wrap_i64]
    exact congrArg er ih
   ·rw [hb r,hdr,List.mem_cons]
    constructor
    ·rintro (h1 | ⟨h1,h2⟩)
     ·exact .inl h1
     ·exact .inr ⟨.inr h1,h2⟩
    ·rintro (h1 | ⟨h1 | h1,h2⟩)
     ·exact .inl h1
     ·omega
     ·exact .inr ⟨h1,h2⟩
theorem call36 {regs : Nat} (hregs : regs ≤ 1000000) (t : Tag) (l : List Int) (hl : l.length ≤ 2000000) (hpos : ∀ x ∈ l,0 ≤ x) (S : Store) :
  ∃ W : List Nat,(lim K).call 36 [.iv (.int .i64 regs),.iv (.sl t (TM.one (.int .i64) l))] S = .ret (.msl S.length 0 0 ((regs + 63) / 64) ((regs + 63) / 64) 1,S ++ [.cells 0 false (W.map uI)]) ∧
   WOK ((regs + 63) / 64) W ∧ ∀ r : Nat,bit W r = true ↔ (r : Int) ∈ l ∧ r < regs := by
 generalize hm : (regs + 63) / 64 = m
 have h0 : (S ++ [.cells 0 false ((List.replicate m 0).map uI)])[S.length]? = some (.cells 0 false ((List.replicate m 0).map uI)) := by simp
 obtain ⟨W,y4,y8,y9,l1,hW,hb⟩ := loop36 hregs hm t l hl hpos (.iv (.sl .nil [])) l.length 0 (List.replicate m 0) _ (.tup []) (.tup []) (.tup []) (by omega) (WOK.zero m) h0
 rw [show ((0 : Nat) : Int) = 0 from rfl,List.set_append_right _ _ (Nat.le_refl _),Nat.sub_self,List.set_cons_zero] at l1
 have e1 := tdiv_nat (regs + 63)
 rw [hm,show ((regs + 63 : Nat) : Int) = (regs : Int) + 64 - 1 by omega] at e1
 have hmk := mkV_u (bytes := 8) (m := S.length) (n := m) (roomy_ok (by omega))
 refine ⟨W,call_ret' K _ (fn := t36) rfl rfl ?_,hW,fun r => ?_⟩
 ·simp (config := { maxSteps := 4000000 }) (disch := omega) only [t36,go_sem,TM.undef,wrap_i64,e1,TM.one_length,hmk]
  rw [l1]
  simp (config := { maxSteps := 4000000 }) (disch := omega) only [go_sem]
 ·rw [hb r,bit_zero,List.drop_zero]
  simp
theorem two_odd : ∀ x : Nat,x ≠ 0 → ∃ k y,x = 2 ^ k * (2 * y + 1) := by
 intro x
 induction x using Nat.strongRecOn with
 | ind x ih =>
  intro h
  by_cases e : x % 2 = 1
  ·exact ⟨0,x / 2,by rw [Nat.pow_zero,Nat.one_mul]; omega⟩
  ·obtain ⟨k,y,h1⟩ := ih (x / 2) (by omega) (by omega)
   refine ⟨k + 1,y,?_⟩
   rw [Nat.pow_succ]
   have : x = 2 * (x / 2) := by omega
   rw [this,h1]
   rw [show 2 ^ k * 2 * (2 * y + 1) = 2 * (2 ^ k * (2 * y + 1)) by rw [Nat.mul_comm (2 ^ k) 2,Nat.mul_assoc]]
theorem tb_odd (y j : Nat) : (2 * y + 1).testBit j = if j = 0 then true else y.testBit (j - 1) := by
 cases j with
 | zero => rw [if_pos rfl,Nat.testBit_zero]; simp
 | succ j => rw [if_neg (by omega),Nat.testBit_succ,show (2 * y + 1) / 2 = y by omega]; rfl
theorem tb_even (y j : Nat) : (2 * y).testBit j = if j = 0 then false else y.testBit (j - 1) := by
 cases j with
 | zero => rw [if_pos rfl,Nat.testBit_zero]; simp
 | succ j => rw [if_neg (by omega),Nat.testBit_succ,show (2 * y) / 2 = y by omega]; rfl
theorem tb_x (k y j : Nat) : (2 ^ k * (2 * y + 1)).testBit j = if j < k then false else if j = k then true else y.testBit (j - k - 1) := by
 have h := Nat.testBit_two_pow_mul_add (2 * y + 1) (b := 0) (i := k) (Nat.two_pow_pos k) j
 rw [Nat.add_zero] at h
 rw [h]
 by_cases e : j < k
 ·rw [if_pos e,if_pos e]; exact Nat.zero_testBit _
 ·rw [if_neg e,if_neg e,tb_odd]
  by_cases e2 : j = k
  ·rw [if_pos (by omega),if_pos e2]
  ·rw [if_neg (by omega),if_neg e2]
theorem tb_x1 (k y j : Nat) : (2 ^ k * (2 * y + 1) - 1).testBit j = if j < k then true else if j = k then false else y.testBit (j - k - 1) := by
 have hp := Nat.two_pow_pos k
 have e : 2 ^ k * (2 * y + 1) - 1 = 2 ^ k * (2 * y) + (2 ^ k - 1) := by
  rw [Nat.mul_add,Nat.mul_one]; omega
 have h := Nat.testBit_two_pow_mul_add (2 * y) (b := 2 ^ k - 1) (i := k) (by omega) j
 rw [e,h]
 by_cases e : j < k
 ·rw [if_pos e,if_pos e,Nat.testBit_two_pow_sub_one]; simp [e]
 ·rw [if_neg e,if_neg e,tb_even]
  by_cases e2 : j = k
  ·rw [if_pos (by omega),if_pos e2]
  ·rw [if_neg (by omega),if_neg e2]
theorem low_and (k y : Nat) (hx : 2 ^ k * (2 * y + 1) < 2 ^ 64) : (2 ^ k * (2 * y + 1)) &&& (2 ^ 64 - 2 ^ k * (2 * y + 1)) = 2 ^ k := by
 have hp := Nat.two_pow_pos k
 have hx0 : 0 < 2 ^ k * (2 * y + 1) := Nat.mul_pos hp (by omega)
 apply Nat.eq_of_testBit_eq
 intro j
 have h2 := Nat.testBit_two_pow_sub_succ (x := 2 ^ k * (2 * y + 1) - 1) (n := 64) (by omega) j
 rw [show 2 ^ k * (2 * y + 1) - 1 + 1 = 2 ^ k * (2 * y + 1) by omega] at h2
 have hk : k < 64 := by
  rcases Nat.lt_or_ge k 64 with h | h
  ·exact h
  ·have h1 := Nat.pow_le_pow_right (n := 2) (by decide) h
   have h3 : 2 ^ k * 1 ≤ 2 ^ k * (2 * y + 1) := Nat.mul_le_mul_left _ (by omega)
   omega
 rw [Nat.testBit_and,h2,tb_x,tb_x1,Nat.testBit_two_pow]
 by_cases e : j < k
 ·rw [if_pos e,Bool.false_and]
  exact (decide_eq_false (by omega)).symm
 ·rw [if_neg e,if_neg e]
  by_cases e2 : j = k
  ·subst e2; simp [hk]
  ·rw [if_neg e2,if_neg e2,decide_eq_false (show ¬ k = j by omega)]
   cases y.testBit (j - k - 1) <;> simp
theorem low_lt {k y : Nat} (hx : 2 ^ k * (2 * y + 1) < 18446744073709551616) : k < 64 := by
 rcases Nat.lt_or_ge k 64 with h | h
 ·exact h
 ·have h1 := Nat.pow_le_pow_right (n := 2) (by decide) h
  have h3 : 2 ^ k * 1 ≤ 2 ^ k * (2 * y + 1) := Nat.mul_le_mul_left _ (by omega)
  omega
theorem rest_bit (k y j : Nat) : ((2 ^ k * (2 * y + 1)) &&& (2 ^ k * (2 * y + 1) - 1)).testBit j = (decide (k < j) && (2 ^ k * (2 * y + 1)).testBit j) := by
 rw [Nat.testBit_and,tb_x,tb_x1]
 by_cases e : j < k
 ·rw [if_pos e,if_pos e]; simp
 ·rw [if_neg e,if_neg e]
  by_cases e2 : j = k
  ·subst e2; simp
  ·rw [if_neg e2,if_neg e2,decide_eq_true (show k < j by omega)]; simp
theorem loop50 {a b m : Nat} {W V : List Nat} {S : Store} (hm : m ≤ 1000000) (hW : S[a]? = some (.cells 0 false (W.map uI))) (hV : S[b]? = some (.cells 0 false (V.map uI))) (hWl : W.length = m) (hVl : V.length = m) (x2 x4 : TV) : ∀ (k i : Nat) (x3 x7 x8 : TV),i + k = m → (∀ q,q < i → W.getD q 0 = V.getD q 0) →
  ∃ (jj : Jump) (y2 y3 y6 y7 y8 : TV),lp' (lim K) t50L0 [.msl a 0 0 m m 1,.msl b 0 0 m m 1,x2,x3,x4,.iv (.int .i64 m),.iv (.int .i64 i),x7,x8] S
   = .ret (jj,[.msl a 0 0 m m 1,.msl b 0 0 m m 1,y2,y3,x4,.iv (.int .i64 m),y6,y7,y8],S) ∧
   (jj = .exit 0 ∧ (∀ q,q < m → W.getD q 0 = V.getD q 0) ∨ jj = .ret ∧ y2 = .iv (.bool false) ∧ W ≠ V)
 | 0,i,x3,x7,x8,hk,hq => by
  obtain rfl : i = m := by omega
  refine ⟨.exit 0,x2,x3,.iv (.int .i64 i),.iv (.bool false),x8,loop_at K _ _ t50L0.eq_1 ?_,.inl ⟨rfl,hq⟩⟩
  simp (config := { maxSteps := 4000000 }) (disch := omega) only [go_sem]
 | k + 1,i,x3,x7,x8,hk,hq => by
  have him : i < m := by omega
  have i1 := ix_RW (j := a) (v := 0) (cap := m) him
  have i2 := ix_RW (j := b) (v := 0) (cap := m) him
  have s1 := sub_UW (W := W) (i := i) (by omega)
  have s2 := sub_UW (W := V) (i := i) (by omega)
  have hW' := hW
  have hV' := hV
  simp only [uI] at s1 s2 hW' hV'
  by_cases e : W.getD i 0 = V.getD i 0
  ·obtain ⟨jj,y2,y3,y6,y7,y8,ih,hj⟩ := loop50 hm hW hV hWl hVl x2 x4 k (i + 1) (.iv (.int .i64 i)) (.iv (.bool true)) (.iv (.bool false)) (by omega) (fun q h1 => by
    rcases Nat.lt_or_ge q i with h2 | h2
    ·exact hq q h2
    ·obtain rfl : q = i := by omega
     exact e)
   rw [show ((i + 1 : Nat) : Int) = (i : Int) + 1 by omega] at ih
   refine ⟨jj,y2,y3,y6,y7,y8,loop_at K _ _ t50L0.eq_1 ?_,hj⟩
   rw [e] at s1
   simp (config := { maxSteps := 4000000 }) (disch := omega) only [go_sem,i1,i2,hW',hV',s1,s2,wrap_i64]
   exact congrArg er ih
  ·refine ⟨.ret,.iv (.bool false),.iv (.int .i64 i),.iv (.int .i64 i),.iv (.bool true),.iv (.bool true),loop_at K _ _ t50L0.eq_1 ?_,.inr ⟨rfl,rfl,fun h => e (by rw [h])⟩⟩
   have e' : ¬ ((W.getD i 0 : Nat) : Int) = ((V.getD i 0 : Nat) : Int) := by omega
   simp (config := { maxSteps := 4000000 }) (disch := omega) only [go_sem,i1,i2,hW',hV',s1,s2,e']
theorem call50 {a b m : Nat} {W V : List Nat} {S : Store} (hm : m ≤ 1000000) (hW : S[a]? = some (.cells 0 false (W.map uI))) (hV : S[b]? = some (.cells 0 false (V.map uI))) (hWl : W.length = m) (hVl : V.length = m) :
  (lim K).call 50 [.msl a 0 0 m m 1,.msl b 0 0 m m 1] S = .ret (.iv (.bool (decide (W = V))),S) := by
 obtain ⟨jj,y2,y3,y6,y7,y8,l1,hj⟩ := loop50 hm hW hV hWl hVl (.iv (.bool false)) (.iv (.bool false)) m 0 (.tup []) (.tup []) (.tup []) (by omega) (fun q h => by omega)
 rw [show ((0 : Nat) : Int) = 0 from rfl] at l1
 rcases hj with ⟨rfl,hj⟩ | ⟨rfl,rfl,hj⟩
 ·have e : W = V := by
   apply List.ext_getElem (by omega)
   intro q h1 h2
   have := hj q (by omega)
   simpa [List.getD,List.getElem?_eq_getElem h1,List.getElem?_eq_getElem h2] using this
  rw [decide_eq_true e]
  refine call_ret' K _ (fn := t50) rfl rfl ?_
  simp (config := { maxSteps := 4000000 }) (disch := omega) only [t50,go_sem,TM.undef]
  rw [l1]
  simp (config := { maxSteps := 4000000 }) (disch := omega) only [go_sem]
 ·rw [decide_eq_false hj]
  refine call_ret' K _ (fn := t50) rfl rfl ?_
  simp (config := { maxSteps := 4000000 }) (disch := omega) only [t50,go_sem,TM.undef]
  rw [l1]
  simp (config := { maxSteps := 4000000 }) (disch := omega) only [go_sem]
def dbm (k : Nat) : Nat := (2 ^ k * 285870213051353865) % 18446744073709551616
def dtab : List Nat := [0,1,56,2,57,49,28,3,61,58,42,50,38,29,17,4,62,47,59,36,45,43,51,22,53,39,33,30,24,18,12,5,63,55,48,27,60,41,37,16,46,35,44,21,52,32,23,11,54,26,40,15,34,20,31,10,25,14,19,9,13,8,7,6]
theorem g0_eq : g0 = dtab.map fun n : Nat => IV.int .u8 (n : Int) := rfl
theorem dbm_tab (k : Nat) (hk : k < 64) : dbm k / 288230376151711744 < 64 ∧ g0[dbm k / 288230376151711744]? = some (.int .u8 (k : Int)) := by
 have key : ∀ k < 64,dbm k / 288230376151711744 < 64 ∧ dtab[dbm k / 288230376151711744]? = some k := by decide +kernel
 obtain ⟨h1,h2⟩ := key k hk
 refine ⟨h1,?_⟩
 rw [g0_eq,List.getElem?_map,h2]; rfl
theorem gl0 {i k : Nat} (hi : i < 64) (h : g0[i]? = some (.int .u8 (k : Int))) : ∃ p,ixA 64 1 (globV (K.glob 0)) (.iv (.int .u64 (i : Int))) = some p ∧ ∀ env S,getCells env S p 1 = some [.iv (.int .u8 (k : Int))] := by
 have hl : g0.length = 64 := rfl
 have hk' : i < g0.length := by omega
 refine ⟨.iv (.cp (g0.drop i)),?_,fun env S => ?_⟩
 ·rw [ixA_int,if_pos (by omega),Int.toNat_natCast,Nat.mul_one]
  show (if i ≤ g0.length then some (TV.iv (.cp (g0.drop i))) else none) = _
  rw [if_pos (by omega)]
 ·rw [getCells_cp]
  unfold sub
  rw [if_pos (by rw [List.length_drop]; omega),List.drop_zero,List.drop_eq_getElem_cons hk']
  rw [List.getElem?_eq_getElem hk'] at h
  rw [Option.some.inj h]
  rfl
theorem call51 {k y : Nat} (hx : 2 ^ k * (2 * y + 1) < 18446744073709551616) : TM.Pure K 51 [.iv (.int .u64 ((2 ^ k * (2 * y + 1) : Nat) : Int))] (.iv (.int .i64 (k : Int))) := by
 have hk := low_lt hx
 have hand := low_and k y hx
 have hp := Nat.two_pow_pos k
 have hx0 : 0 < 2 ^ k * (2 * y + 1) := Nat.mul_pos hp (by omega)
 obtain ⟨d1,d2⟩ := dbm_tab k hk
 obtain ⟨p,f5,f6⟩ := gl0 d1 d2
 have hd : dbm k < 18446744073709551616 := Nat.mod_lt _ (by decide)
 have f3 : TM.binOp .mul (.iv (.int .u64 ((2 ^ k : Nat) : Int))) (.iv (.int .u64 285870213051353865)) = some (.int .u64 ((dbm k : Nat) : Int)) := by
  rw [TM.binOp_mul]
  congr 2
 generalize dbm k = D at *
 generalize hX : 2 ^ k * (2 * y + 1) = X at *
 generalize (2 ^ k : Nat) = Z at *
 have f1 : TM.unOp .neg (.iv (.int .u64 (X : Int))) = some (.int .u64 ((2 ^ 64 - X : Nat) : Int)) := by
  rw [unOp_neg]
  congr 2
  show (0 - (X : Int)) % 18446744073709551616 = _
  omega
 have f2 : TM.binOp .and (.iv (.int .u64 (X : Int))) (.iv (.int .u64 ((2 ^ 64 - X : Nat) : Int))) = some (.int .u64 ((Z : Nat) : Int)) := by
  rw [TM.binOp_and]
  congr 2
  have hZ : Z < 18446744073709551616 := by rw [← hand]; exact Nat.lt_of_le_of_lt Nat.and_le_left hx
  show IntKind.u64.wrap ((((BitVec.ofInt 64 (X : Int)) &&& (BitVec.ofInt 64 ((2 ^ 64 - X : Nat) : Int))).toNat : Nat) : Int) = _
  rw [BitVec.toNat_and,ofInt_toNat ⟨by omega,by norm_cast⟩,ofInt_toNat ⟨by omega,by omega⟩,Int.toNat_natCast,Int.toNat_natCast,hand,wrap_u64 (by omega)]
 have f4 : TM.binOp .shr (.iv (.int .u64 ((D : Nat) : Int))) (.iv (.int .u64 58)) = some (.int .u64 ((D / 288230376151711744 : Nat) : Int)) := by
  rw [TM.binOp_shr,if_neg (by decide)]
  congr 2
  show ((D : Nat) : Int).fdiv 288230376151711744 = _
  rw [Int.fdiv_eq_ediv_of_nonneg _ (by decide)]
  omega
 refine call_pure t51 rfl rfl ?_
 have hne : ¬ ((X : Nat) : Int) = 0 := by omega
 simp (config := { maxSteps := 4000000 }) (disch := omega) only [t51,go_sem,TM.undef,hne,f1,f2,f3,f4,f5,f6,wrap_i64]
def uV (n : Nat) : IV := .int .u64 (n : Int)
def bitsI (x : Nat) : List Int := ((List.range 64).filter x.testBit).map fun n : Nat => (n : Int)
theorem bitsI_mem (x : Nat) (v : Int) : v ∈ bitsI x ↔ ∃ n : Nat,v = n ∧ n < 64 ∧ x.testBit n = true := by
 simp only [bitsI,List.mem_map,List.mem_filter,List.mem_range]
 constructor
 ·rintro ⟨n,⟨h1,h2⟩,rfl⟩; exact ⟨n,rfl,h1,h2⟩
 ·rintro ⟨n,rfl,h1,h2⟩; exact ⟨n,⟨h1,h2⟩,rfl⟩
theorem bitsI_pair (x : Nat) : (bitsI x).Pairwise (· < ·) := by
 refine List.Pairwise.map _ (R := (· < ·)) (fun a b h => by omega) (List.Pairwise.filter _ List.pairwise_lt_range)
theorem bitsI_zero : bitsI 0 = [] := by
 unfold bitsI
 rw [List.filter_eq_nil_iff.2]
 ·rfl
 ·intro a _; simp
theorem bitsI_low {k y : Nat} (hx : 2 ^ k * (2 * y + 1) < 18446744073709551616) : bitsI (2 ^ k * (2 * y + 1)) = (k : Int) :: bitsI ((2 ^ k * (2 * y + 1)) &&& (2 ^ k * (2 * y + 1) - 1)) := by
 have hk := low_lt hx
 refine rise_unique (bitsI_pair _) ?_ fun v => ?_
 ·rw [List.pairwise_cons]
  refine ⟨fun a ha => ?_,bitsI_pair _⟩
  obtain ⟨n,rfl,h1,h2⟩ := (bitsI_mem _ _).1 ha
  rw [rest_bit] at h2
  simp only [Bool.and_eq_true,decide_eq_true_eq] at h2
  omega
 ·rw [List.mem_cons,bitsI_mem,bitsI_mem]
  constructor
  ·rintro ⟨n,rfl,h1,h2⟩
   rcases Nat.lt_trichotomy n k with h | h | h
   ·rw [tb_x,if_pos h] at h2; cases h2
   ·exact .inl (by omega)
   ·refine .inr ⟨n,rfl,h1,?_⟩
    rw [rest_bit,h2,decide_eq_true h]; rfl
  ·rintro (rfl | ⟨n,rfl,h1,h2⟩)
   ·exact ⟨k,rfl,hk,by rw [tb_x,if_neg (by omega),if_pos rfl]⟩
   ·rw [rest_bit] at h2
    simp only [Bool.and_eq_true] at h2
    exact ⟨n,rfl,h1,h2.2⟩
theorem loop38a {k : Nat} (hk : k ≤ 100000) (x0 x4 x5 x6 x7 : TV) : ∀ (n x : Nat) (out : List Int) (x8 : TV),x ≤ n → x < 18446744073709551616 → out.length + (bitsI x).length ≤ 7000000 →
  ∃ y8 : TV,lp' (lim K) t38L0 [x0,acc 0 (oneI out),.iv (.int .i64 k),.iv (.int .u64 x),x4,x5,x6,x7,x8] (accS 1 3 (oneI out))
   = .ret (.exit 2,[x0,acc 0 (oneI (out ++ (bitsI x).map fun v => 64 * (k : Int) + v)),.iv (.int .i64 k),.iv (.int .u64 0),x4,x5,x6,x7,y8],accS 1 3 (oneI (out ++ (bitsI x).map fun v => 64 * (k : Int) + v)))
 | n,x,out,x8,hn,hx,ho => by
  by_cases h0 : x = 0
  ·subst h0
   rw [bitsI_zero,List.map_nil,List.append_nil]
   refine ⟨.iv (.bool false),loop_at K _ _ t38L0.eq_1 ?_⟩
   simp (config := { maxSteps := 4000000 }) (disch := omega) only [go_sem,Int.natCast_zero]
  ·obtain ⟨q,y,e⟩ := two_odd x h0
   have hb := bitsI_low (k := q) (y := y) (by rw [← e]; exact hx)
   have c51 := call51 (k := q) (y := y) (by rw [← e]; exact hx)
   have hq := low_lt (k := q) (y := y) (by rw [← e]; exact hx)
   rw [← e] at hb c51
   have hlt : x &&& (x - 1) ≤ x - 1 := Nat.and_le_right
   match n,hn with
   | 0,hn => omega
   | n + 1,hn =>
    have hbl : (bitsI x).length = (bitsI (x &&& (x - 1))).length + 1 := by rw [hb,List.length_cons]
    obtain ⟨y8,ih⟩ := loop38a hk x0 x4 x5 x6 x7 n (x &&& (x - 1)) (out ++ [64 * (k : Int) + q]) (.iv (.bool true)) (by omega) (by omega) (by rw [List.length_append,List.length_singleton]; omega)
    have ha := ap_accI (l := out) (ys := [64 * (k : Int) + q]) (t := .full) (by simp; omega)
    rw [show oneI [64 * (k : Int) + q] = [[.int .i64 (64 * (k : Int) + q)]] from rfl] at ha
    have f1 : TM.binOp .sub (.iv (.int .u64 (x : Int))) (.iv (.int .u64 1)) = some (.int .u64 ((x - 1 : Nat) : Int)) := by
     rw [TM.binOp_sub]
     congr 2
     rw [wrap_u64 (by omega)]; omega
    have f2 : TM.binOp .and (.iv (.int .u64 (x : Int))) (.iv (.int .u64 ((x - 1 : Nat) : Int))) = some (.int .u64 ((x &&& (x - 1) : Nat) : Int)) := by
     rw [TM.binOp_and]
     congr 2
     show IntKind.u64.wrap ((((BitVec.ofInt 64 (x : Int)) &&& (BitVec.ofInt 64 ((x - 1 : Nat) : Int))).toNat : Nat) : Int) = _
     rw [BitVec.toNat_and,ofInt_toNat ⟨by omega,by omega⟩,ofInt_toNat ⟨by omega,by omega⟩,Int.toNat_natCast,Int.toNat_natCast,wrap_u64 (by omega)]
    rw [hb,List.map_cons]
    rw [List.append_assoc,List.singleton_append] at ih
    refine ⟨y8,loop_at K _ _ t38L0.eq_1 ?_⟩
    have hne : ¬ (x : Int) = 0 := by omega
    generalize hO : (out ++ ((64 * (k : Int) + q) :: (bitsI (x &&& (x - 1))).map fun v : Int => 64 * (k : Int) + v)) = O at *
    generalize hP : out ++ [64 * (k : Int) + q] = P at *
    simp (config := { maxSteps := 4000000 }) (disch := omega) only [go_sem,hne,cpR_pure c51,wrap_i64,ha,f1,f2]
    exact congrArg er ih
def wlI : Nat → List Nat → List Int
 | _,[] => []
 | k,x :: r => (bitsI x).map (fun v : Int => 64 * (k : Int) + v) ++ wlI (k + 1) r
theorem bitsI_len (x : Nat) : (bitsI x).length ≤ 64 := by
 unfold bitsI
 rw [List.length_map]
 exact Nat.le_trans (List.length_filter_le _ _) (by simp)
theorem wlI_len : ∀ (k : Nat) (W : List Nat),(wlI k W).length ≤ 64 * W.length
 | _,[] => by simp [wlI]
 | k,x :: r => by
  have h1 := wlI_len (k + 1) r
  have h2 := bitsI_len x
  rw [wlI,List.length_append,List.length_map,List.length_cons]; omega
theorem wlI_mem : ∀ (k : Nat) (W : List Nat) (v : Int),v ∈ wlI k W ↔ ∃ (i n : Nat),v = 64 * ((k + i : Nat) : Int) + n ∧ n < 64 ∧ (W.getD i 0).testBit n = true
 | k,[],v => by simp [wlI,List.getD]
 | k,x :: r,v => by
  rw [wlI,List.mem_append,wlI_mem (k + 1) r v,List.mem_map]
  constructor
  ·rintro (⟨b,hb,rfl⟩ | ⟨i,n,rfl,h1,h2⟩)
   ·obtain ⟨n,rfl,h1,h2⟩ := (bitsI_mem _ _).1 hb
    exact ⟨0,n,by simp,h1,by simpa [List.getD] using h2⟩
   ·exact ⟨i + 1,n,by omega,h1,by simpa [List.getD] using h2⟩
  ·rintro ⟨i,n,rfl,h1,h2⟩
   cases i with
   | zero => exact .inl ⟨n,(bitsI_mem _ _).2 ⟨n,rfl,h1,by simpa [List.getD] using h2⟩,by simp⟩
   | succ i => exact .inr ⟨i,n,by omega,h1,by simpa [List.getD] using h2⟩
theorem wl_mem (W : List Nat) (v : Int) : v ∈ wlI 0 W ↔ ∃ n : Nat,v = n ∧ bit W n = true := by
 rw [wlI_mem]
 constructor
 ·rintro ⟨i,n,rfl,h1,h2⟩
  refine ⟨64 * i + n,by omega,?_⟩
  unfold bit
  rw [show (64 * i + n) / 64 = i by omega,show (64 * i + n) % 64 = n by omega]
  exact h2
 ·rintro ⟨n,rfl,h⟩
  exact ⟨n / 64,n % 64,by omega,Nat.mod_lt _ (by decide),h⟩
theorem loop38b (t : Tag) (W : List Nat) (hW : ∀ x ∈ W,x < 18446744073709551616) (hl : W.length ≤ 100000) : ∀ (k i : Nat) (out : List Int) (x2 x3 x7 x8 : TV),i + k = W.length → out.length ≤ 64 * i →
  ∃ (y2 y3 y7 y8 : TV),lp' (lim K) t38L1 [.iv (.sl t (TM.one uV W)),acc 0 (oneI out),x2,x3,.iv (.sl t (TM.one uV W)),.iv (.int .i64 W.length),.iv (.int .i64 i),x7,x8] (accS 1 3 (oneI out))
   = .ret (.exit 0,[.iv (.sl t (TM.one uV W)),acc 0 (oneI (out ++ wlI i (W.drop i))),y2,y3,.iv (.sl t (TM.one uV W)),.iv (.int .i64 W.length),.iv (.int .i64 W.length),y7,y8],accS 1 3 (oneI (out ++ wlI i (W.drop i))))
 | 0,i,out,x2,x3,x7,x8,hk,ho => by
  obtain rfl : i = W.length := by omega
  rw [List.drop_length,wlI,List.append_nil]
  refine ⟨x2,x3,.iv (.bool false),x8,loop_at K _ _ t38L1.eq_1 ?_⟩
  simp (config := { maxSteps := 4000000 }) (disch := omega) only [go_sem]
 | k + 1,i,out,x2,x3,x7,x8,hk,ho => by
  have hla : i < W.length := by omega
  have hix := ix_one (f := uV) (t := t) (l := W) (i := (i : Int)) (by omega)
  rw [Int.toNat_natCast] at hix
  have hdr := drop_get hla
  have hx : W.getD i default < 18446744073709551616 := hW _ (by simp only [List.getD,List.getElem?_eq_getElem hla,Option.getD_some]; exact List.getElem_mem _)
  generalize W.getD i default = x at *
  have hbl := bitsI_len x
  obtain ⟨y8,l1⟩ := loop38a (k := i) (by omega) (.iv (.sl t (TM.one uV W))) (.iv (.sl t (TM.one uV W))) (.iv (.int .i64 W.length)) (.iv (.int .i64 i)) (.iv (.bool true)) x x out x8 (Nat.le_refl _) hx (by omega)
  obtain ⟨z2,z3,z7,z8,ih⟩ := loop38b t W hW hl k (i + 1) (out ++ (bitsI x).map fun v : Int => 64 * (i : Int) + v) (.iv (.int .i64 i)) (.iv (.int .u64 0)) (.iv (.bool true)) y8 (by omega) (by rw [List.length_append,List.length_map]; omega)
  rw [hdr,wlI]
  rw [List.append_assoc,show ((i + 1 : Nat) : Int) = (i : Int) + 1 by omega] at ih
  refine ⟨z2,z3,z7,z8,loop_at K _ _ t38L1.eq_1 ?_⟩
  generalize hO : out ++ ((bitsI x).map (fun v : Int => 64 * (i : Int) + v) ++ wlI (i + 1) (W.drop (i + 1))) = O at *
  generalize hP : out ++ (bitsI x).map (fun v : Int => 64 * (i : Int) + v) = P at *
  rw [show uV x = IV.int .u64 (x : Int) from rfl] at hix
  simp (config := { maxSteps := 4000000 }) (disch := omega) only [go_sem,TM.one_length,hix]
  rw [l1]
  simp (config := { maxSteps := 4000000 }) (disch := omega) only [go_sem,wrap_i64]
  exact congrArg er ih
theorem call38 (t : Tag) (W : List Nat) (hW : ∀ x ∈ W,x < 18446744073709551616) (hl : W.length ≤ 100000) : TM.Pure K 38 [.iv (.sl t (TM.one uV W))] (.iv (.sl (sTag (oneI (wlI 0 W))) (TM.one (.int .i64) (wlI 0 W)))) := by
 obtain ⟨y2,y3,y7,y8,l1⟩ := loop38b t W hW hl W.length 0 [] (.tup []) (.tup []) (.tup []) (.tup []) (by omega) (by simp)
 rw [List.drop_zero,List.nil_append,show ((0 : Nat) : Int) = 0 from rfl,show accS 1 3 (oneI []) = [] from rfl,show acc 0 (oneI []) = .iv (.sl .nil []) from rfl] at l1
 refine TM.pure_ret (S := accS 1 3 (oneI (wlI 0 W))) (r := acc 0 (oneI (wlI 0 W))) (call_ret' K _ (fn := t38) rfl rfl ?_) (resolve_acc _ _ _)
 simp (config := { maxSteps := 4000000 }) (disch := omega) only [t38,go_sem,TM.undef,TM.one_length]
 rw [l1]
 simp (config := { maxSteps := 4000000 }) (disch := omega) only [go_sem]
def cF (n : Nat) (f : Nat → TV) : List TV := (List.range n).map f
def upd {α : Type} (f : Nat → α) (i : Nat) (x : α) : Nat → α := fun j => if j = i then x else f j
theorem upd_same {α : Type} (f : Nat → α) (i : Nat) (x : α) : upd f i x i = x := by simp [upd]
theorem upd_ne {α : Type} (f : Nat → α) {i j : Nat} (x : α) (h : j ≠ i) : upd f i x j = f j := by simp [upd,h]
theorem cF_len (n : Nat) (f : Nat → TV) : (cF n f).length = n := by simp [cF]
theorem sub_cF {n i : Nat} (f : Nat → TV) (h : i < n) : sub (cF n f) i 1 = some [f i] := by
 simp only [sub,cF_len,show i + 1 ≤ n by omega,↓reduceIte]
 rw [List.drop_eq_getElem_cons (by rw [cF_len]; exact h)]
 simp [cF]
theorem put_cF {n i : Nat} (f : Nat → TV) (x : TV) (h : i < n) : put (cF n f) i [x] = cF n (upd f i x) := by
 simp only [put,cF]
 apply List.ext_getElem
 ·simp; omega
 ·intro j h1 h2
  simp at h1 h2
  rcases Nat.lt_trichotomy j i with h3 | h3 | h3
  ·rw [List.getElem_append_left (by simp; omega),List.getElem_append_left (by simp; omega)]
   simp [upd,show ¬ j = i by omega]
  ·subst h3
   rw [List.getElem_append_left (by simp; omega),List.getElem_append_right (by simp; omega)]
   simp [upd]
  ·rw [List.getElem_append_right (by simp; omega)]
   have e : i + 1 + (j - (min i n + 1)) = j := by omega
   simp [upd,show ¬ j = i by omega,e]
attribute [go_sem] cF_len
theorem gN0 (S : Store) (a : Block) (r : Store) : (S ++ a :: r)[S.length]? = some a := by simp
theorem gN1 (S : Store) (a b : Block) (r : Store) : (S ++ a :: b :: r)[S.length + 1]? = some b := by rw [List.getElem?_append_right (by omega)]; simp
theorem gN2 (S : Store) (a b c : Block) (r : Store) : (S ++ a :: b :: c :: r)[S.length + 2]? = some c := by rw [List.getElem?_append_right (by omega)]; simp
theorem gN3 (S : Store) (a b c d : Block) (r : Store) : (S ++ a :: b :: c :: d :: r)[S.length + 3]? = some d := by rw [List.getElem?_append_right (by omega)]; simp
theorem gN4 (S : Store) (a b c d e : Block) (r : Store) : (S ++ a :: b :: c :: d :: e :: r)[S.length + 4]? = some e := by rw [List.getElem?_append_right (by omega)]; simp
theorem gN5 (S : Store) (a b c d e f : Block) (r : Store) : (S ++ a :: b :: c :: d :: e :: f :: r)[S.length + 5]? = some f := by rw [List.getElem?_append_right (by omega)]; simp
theorem gN6 (S : Store) (a b c d e f g : Block) (r : Store) : (S ++ a :: b :: c :: d :: e :: f :: g :: r)[S.length + 6]? = some g := by rw [List.getElem?_append_right (by omega)]; simp
theorem gN7 (S : Store) (a b c d e f g h : Block) (r : Store) : (S ++ a :: b :: c :: d :: e :: f :: g :: h :: r)[S.length + 7]? = some h := by rw [List.getElem?_append_right (by omega)]; simp
theorem sN1 (S : Store) (a b x : Block) (r : Store) : (S ++ a :: b :: r).set (S.length + 1) x = S ++ a :: x :: r := by rw [List.set_append_right _ _ (by omega)]; simp
theorem sN2 (S : Store) (a b c x : Block) (r : Store) : (S ++ a :: b :: c :: r).set (S.length + 2) x = S ++ a :: b :: x :: r := by rw [List.set_append_right _ _ (by omega)]; simp
theorem sN5 (S : Store) (a b c d e f x : Block) (r : Store) : (S ++ a :: b :: c :: d :: e :: f :: r).set (S.length + 5) x = S ++ a :: b :: c :: d :: e :: x :: r := by rw [List.set_append_right _ _ (by omega)]; simp
theorem sN6 (S : Store) (a b c d e f g x : Block) (r : Store) : (S ++ a :: b :: c :: d :: e :: f :: g :: r).set (S.length + 6) x = S ++ a :: b :: c :: d :: e :: f :: x :: r := by rw [List.set_append_right _ _ (by omega)]; simp
theorem sN7 (S : Store) (a b c d e f g h x : Block) (r : Store) : (S ++ a :: b :: c :: d :: e :: f :: g :: h :: r).set (S.length + 7) x = S ++ a :: b :: c :: d :: e :: f :: g :: x :: r := by rw [List.set_append_right _ _ (by omega)]; simp
attribute [go_sem] gN0 gN1 gN2 gN3 gN4 gN5 gN6 gN7 sN1 sN2 sN5 sN6 sN7
structure VF where
 fn : Int
 regs : Nat
 sl : Int
 nd : Int
 pr : Int
 rs : Bool
 ti : Tag
 ins : List VI
def encF (f : VF) : List IV := [.int .i64 f.fn,.int .i64 f.regs,.int .i64 f.sl,.int .i64 f.nd,.int .i64 f.pr,.bool f.rs,.sl f.ti (f.ins.map encV)]
structure RS (S : Store) (j n m : Nat) (ia : Nat → Nat) (I : Nat → List Nat) : Prop where
 row : S[j]? = some (.cells 0 false (cF n fun i => .msl (ia i) 0 0 m m 1))
 ge : ∀ i,i < n → 6 ≤ ia i
 set : ∀ i,i < n → S[ia i]? = some (.cells 0 false ((I i).map uI))
 ok : ∀ i,i < n → WOK m (I i)
structure FlS (S : Store) (f : VF) (lb : List (Nat × Int × Int)) (n m : Nat) (ia oa : Nat → Nat) (I O : Nat → List Nat) : Prop where
 lab : ∃ c,S[0]? = some (.mp (mpR boxI lb) c)
 inn : RS S 1 n m ia I
 out : RS S 2 n m oa O
 flw : S[3]? = some (.cells 54 false [.iv (.int .i64 f.fn),.iv (.int .i64 f.regs),.iv (.int .i64 f.sl),.iv (.int .i64 f.nd),.iv (.int .i64 f.pr),.iv (.bool f.rs),.iv (.sl f.ti (f.ins.map encV)),.map 0,.msl 1 0 0 n n 1,.msl 2 0 0 n n 1])
 len : 6 ≤ S.length
theorem loop37a {S0 : Store} {f : VF} {lb : List (Nat × Int × Int)} {n m : Nat} {ia oa : Nat → Nat} {I O : Nat → List Nat} (hF : FlS S0 f lb n m ia oa I O) (hm : m ≤ 100000) (hn : n ≤ 1000000) {kk : Nat} (hkk : kk < n) (R : Store) (x0 x1 x2 x3 x5 x9 x10 x11 x12 x13 x17 x18 x19 : TV) : ∀ (k i : Nat) (W : List Nat) (x8 x16 : TV),i + k = m → WOK m W →
  ∃ (W' : List Nat) (y8 y16 : TV),lp' (lim K) t37L1 [x0,x1,x2,x3,.ptr S0.length 47 0,x5,.ptr (S0.length + 2) 66 0,.iv (.int .i64 kk),x8,x9,x10,x11,x12,x13,.iv (.int .i64 m),.iv (.int .i64 i),x16,x17,x18,x19] (S0 ++ .cells 47 false [.ptr 3 54 0] :: .cells 0 false (W.map uI) :: .cells 66 false [.msl (S0.length + 1) 0 0 m m 1] :: R)
   = .ret (.exit 2,[x0,x1,x2,x3,.ptr S0.length 47 0,x5,.ptr (S0.length + 2) 66 0,.iv (.int .i64 kk),y8,x9,x10,x11,x12,x13,.iv (.int .i64 m),.iv (.int .i64 m),y16,x17,x18,x19],S0 ++ .cells 47 false [.ptr 3 54 0] :: .cells 0 false (W'.map uI) :: .cells 66 false [.msl (S0.length + 1) 0 0 m m 1] :: R) ∧
   WOK m W' ∧ ∀ q,W'.getD q 0 = if i ≤ q ∧ q < m then W.getD q 0 ||| (I kk).getD q 0 else W.getD q 0
 | 0,i,W,x8,x16,hk,hW => by
  obtain rfl : i = m := by omega
  refine ⟨W,x8,.iv (.bool false),loop_at K _ _ t37L1.eq_1 ?_,hW,fun q => by rw [if_neg (by omega)]⟩
  simp (config := { maxSteps := 4000000 }) (disch := omega) only [go_sem]
 | k + 1,i,W,x8,x16,hk,hW => by
  have him : i < m := by omega
  have hV := hF.inn.ok kk hkk
  have i1 := ix_RW (j := S0.length + 1) (v := 0) (cap := m) him
  have i2 := ix_RW (j := 1) (v := 0) (cap := n) hkk
  have i3 := ix_RW (j := ia kk) (v := 0) (cap := m) him
  have s1 := sub_UW (W := W) (i := i) (by rw [hW.len]; exact him)
  have s2 := sub_cF (fun i => TV.msl (ia i) 0 0 m m 1) hkk
  have s3 := sub_UW (W := I kk) (i := i) (by rw [hV.len]; exact him)
  have g1 := fun L => get_appO hF.inn.row L
  have g2 := fun L => get_appO (hF.inn.set kk hkk) L
  have g3 := fun L => get_appO hF.flw L
  have e4 := u64_or (hW.get i) (hV.get i)
  have hor := or_lt64 (hW.get i) (hV.get i)
  have p1 := put_UW (W := W) (i := i) (W.getD i 0 ||| (I kk).getD i 0) (by rw [hW.len]; exact him)
  have hbb : i + 1 ≤ (W.map uI).length := by rw [List.length_map,hW.len]; omega
  obtain ⟨W',y8,y16,ih,hW',hb⟩ := loop37a hF hm hn hkk R x0 x1 x2 x3 x5 x9 x10 x11 x12 x13 x17 x18 x19 k (i + 1) (W.set i (W.getD i 0 ||| (I kk).getD i 0)) (.iv (.int .i64 i)) (.iv (.bool true)) (by omega) (hW.set i _ hor)
  rw [show ((i + 1 : Nat) : Int) = (i : Int) + 1 by omega] at ih
  simp only [uI] at s1 s3 p1 g2 hbb
  refine ⟨W',y8,y16,loop_at K _ _ t37L1.eq_1 ?_,hW',fun q => ?_⟩
  ·generalize hA : W.getD i 0 = A at *
   generalize hB : (I kk).getD i 0 = B at *
   generalize hC : A ||| B = C at *
   simp (config := { maxSteps := 4000000 }) (disch := omega) only [go_sem,i1,i2,i3,s1,s2,s3,g1,g2,g3,e4,p1,hbb,wrap_i64]
   exact congrArg er ih
  ·rw [hb q,getD_set (by rw [hW.len]; exact him)]
   by_cases e : q = i
   ·subst e; rw [if_neg (by omega),if_pos rfl,if_pos (by omega)]
   ·rw [if_neg e]
    by_cases e2 : i + 1 ≤ q ∧ q < m
    ·rw [if_pos e2,if_pos (by omega)]
    ·rw [if_neg e2,if_neg (by omega)]
end Go.Proofs.YtehlgnfhkidgoaaDoor
