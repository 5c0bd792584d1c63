/- Some texts of the proof, joined. Condition: none. -/
import Derived.Test.YtehlgnfhkidgoaaDoorTmProg
import Derived.Test.YtehlgnfhkidgoaaDoorTmF
import Derived.Test.YtehlgnfhkidgoaaDoorTmE
set_option maxRecDepth 100000
set_option maxHeartbeats 64000000
set_option linter.unusedSimpArgs false
set_option linter.unusedVariables false
namespace Go.Proofs.YtehlgnfhkidgoaaDoor
open Go Go.TM
attribute [go_sem] beq_self_eq_true decT decF ifT ifF eqT eqF neT neF TM.one_length get_cp0 List.replicate List.cons_append List.nil_append decide_true decide_false
attribute [go_sem] Nat.reduceAdd Nat.reduceSub Nat.reduceMul Nat.reduceLT Nat.reduceLeDiff Nat.reduceEqDiff Nat.reduceBEq reduceIte reduceCtorEq Int.reduceEq Int.reduceLT Int.reduceLE Int.reduceAdd Int.reduceSub Int.reduceMul Int.reduceToNat Int.reduceNeg Int.reduceBEq Int.reduceBNe Int.reduceTDiv Int.reduceTMod Int.reducePow Nat.reducePow Nat.reduceDiv Nat.reduceMod Int.reduceMod Int.reduceDiv Int.reduceNe Int.reduceFDiv
def vI (v : Int) : TV := .iv (.int .i64 v)
theorem sub_RW {C : List Int} {J : List TV} {i : Nat} (h : i < C.length) : sub (C.map vI ++ J) i 1 = some [vI (C.getD i 0)] := by
 simp only [sub,List.length_append,List.length_map,show i + 1 ≤ C.length + J.length by omega,↓reduceIte]
 rw [List.drop_eq_getElem_cons (by simp; omega)]
 simp [List.getElem_append,h,List.getD,List.getElem?_eq_getElem h]
theorem put_RW {C : List Int} {J : List TV} {i : Nat} (x : Int) (h : i < C.length) : put (C.map vI ++ J) i [vI x] = (C.set i x).map vI ++ J := by
 unfold put
 rw [List.take_append_of_le_length (by simp; omega),List.drop_append_of_le_length (by simp; omega),List.set_eq_take_append_cons_drop,if_pos h]
 simp
theorem ix_RW {j v len cap i : Nat} (h : i < len) : indexAddrS 1 (.msl j v 0 len cap 1) (i : Int) = some (.ptr j v i) := by
 rw [ix_msl (by omega),Int.toNat_natCast,Nat.zero_add]
theorem ix_RWo {j v off len cap i : Nat} (h : i < len) : indexAddrS 1 (.msl j v off len cap 1) (i : Int) = some (.ptr j v (off + i)) := by
 rw [ix_msl (by omega),Int.toNat_natCast]
theorem bound_nat {i d y : Nat} (h : i ≤ y) : bound (some (i : Int)) d y = some i := by
 simp [bound,h]
theorem bounds_hi {m cap b : Nat} (h2 : b ≤ cap) : bounds m cap none (some (b : Int)) none = some (0,b,cap) := by
 have : bound none cap cap = some cap := rfl
 have e : bound none 0 b = some 0 := rfl
 simp [bounds,this,bound_nat h2,e]
theorem bounds_lo {m cap a : Nat} (h2 : m ≤ cap) (h3 : a ≤ m) : bounds m cap (some (a : Int)) none none = some (a,m,cap) := by
 have : bound none cap cap = some cap := rfl
 have e : bound none m cap = some m := rfl
 simp [bounds,this,e,bound_nat h3]
theorem sl_msl {S : Store} {jl v m cap : Nat} {b : Bool} {cs : List TV} (hL : S[jl]? = some (.cells v b cs)) (lo hi mx : Option Int) {l h c : Nat} (hb : bounds m cap lo hi mx = some (l,h,c)) : sliceOp S (.sl 1) (.msl jl v 0 m cap 1) lo hi mx = some (.msl jl v (if c = l then 0 else 0 + l * 1) (h - l) (c - l) 1) := by
 have hv : verOk S jl v = true := by simp [verOk,hL]
 simp [sliceOp,hv,hb]
theorem clr_RW {S : Store} {j v cap : Nat} {b : Bool} {C : List Int} {J : List TV} (h : S[j]? = some (.cells v b (C.map vI ++ J))) {i : Nat} (hi : i ≤ C.length) (hc : C.length ≤ cap) (c' : Nat) :
  ∃ J',clearOp [.int .i64 0] S (.msl j v (if cap = i then 0 else 0 + i * 1) (C.length - i) c' 1) = some (S.set j (.cells v b ((C.take i).map vI ++ J'))) := by
 by_cases e : C.length - i = 0
 ·obtain rfl : i = C.length := by omega
  refine ⟨J,?_⟩
  have : S.set j (.cells v b (C.map vI ++ J)) = S := by
   obtain ⟨hlt,he⟩ := List.getElem?_eq_some_iff.1 h
   rw [← he,List.set_getElem_self]
  simp only [clearOp,e,↓reduceIte,List.take_length,this]
 ·have hci : ¬ cap = i := by omega
  refine ⟨flat (List.replicate (C.length - i) ([IV.int .i64 0].map .iv)) ++ J,?_⟩
  have hl : (flat (List.replicate (C.length - i) ([IV.int .i64 0].map TV.iv))).length = C.length - i := by rw [flat_rep,cellsF_len]; simp
  have hp : put (C.map vI ++ J) i (flat (List.replicate (C.length - i) ([IV.int .i64 0].map TV.iv))) = (C.take i).map vI ++ (flat (List.replicate (C.length - i) ([IV.int .i64 0].map .iv)) ++ J) := by
   unfold put
   rw [hl,List.take_append_of_le_length (by simp; omega),show i + (C.length - i) = C.length by omega,List.drop_left' (by simp),← List.map_take]
   simp
  simp only [clearOp,e,hci,↓reduceIte,h,Nat.zero_add,Nat.mul_one,List.length_cons,List.length_nil,true_and,List.length_append,List.length_map,show i + (C.length - i) ≤ C.length + J.length by omega,hp,and_self]
theorem set_mid (D C : List Int) (x : Int) (h : D.length < C.length) : (D ++ C.drop D.length).set D.length x = (D ++ [x]) ++ C.drop (D.length + 1) := by
 rw [List.set_append_right _ _ (Nat.le_refl _),Nat.sub_self,List.drop_eq_getElem_cons h,List.set_cons_zero]
 simp
theorem len_mid {D C : List Int} (h : D.length ≤ C.length) : (D ++ C.drop D.length).length = C.length := by simp; omega
theorem get_mid {D C : List Int} {j : Nat} (h : D.length ≤ j) : (D ++ C.drop D.length).getD j 0 = C.getD j 0 := by
 simp only [List.getD,List.getElem?_append_right h,List.getElem?_drop]
 rw [show D.length + (j - D.length) = j by omega]
theorem call31 (x : Int) : Pure K 31 [.iv (.int .i64 x)] (.iv (.bool (decide (x ≤ 0)))) := by
 refine call_pure t31 rfl rfl ?_
 simp (config := { maxSteps := 4000000 }) (disch := omega) only [t31,go_sem,TM.undef]
theorem loop42 {S : Store} {j v : Nat} {b : Bool} {C : List Int} {J : List TV} (h : S[j]? = some (.cells v b (C.map vI ++ J))) (hn : C.length ≤ 1000000) (cap : Nat) : ∀ (k i : Nat) (x2 x3 x6 x7 : TV),i + k = C.length → (∀ q,q < i → 0 < C.getD q 0) →
  ∃ jj y2 y3 y5 y6 y7,lp' (lim K) t42L0 [.msl j v 0 C.length cap 1,.fn 31 [] [],x2,x3,.iv (.int .i64 C.length),.iv (.int .i64 i),x6,x7] S
   = .ret (jj,[.msl j v 0 C.length cap 1,.fn 31 [] [],y2,y3,.iv (.int .i64 C.length),y5,y6,y7],S) ∧
   (jj = .exit 0 ∧ (∀ q,q < C.length → 0 < C.getD q 0) ∨ jj = .ret ∧ ∃ q : Nat,y2 = .iv (.int .i64 q) ∧ q < C.length ∧ C.getD q 0 ≤ 0 ∧ ∀ p,p < q → 0 < C.getD p 0)
 | 0,i,x2,x3,x6,x7,hk,hq => by
  obtain rfl : i = C.length := by omega
  refine ⟨.exit 0,x2,x3,.iv (.int .i64 C.length),.iv (.bool false),x7,loop_at K _ _ t42L0.eq_1 ?_,.inl ⟨rfl,hq⟩⟩
  simp (config := { maxSteps := 4000000 }) (disch := omega) only [go_sem]
 | k + 1,i,x2,x3,x6,x7,hk,hq => by
  have hla : i < C.length := by omega
  have i1 := ix_RW (j := j) (v := v) (cap := cap) hla
  have s1 := sub_RW (J := J) hla
  have c31 := call31 (C.getD i 0)
  have h' := h
  simp only [vI] at h' s1
  by_cases hd : C.getD i 0 ≤ 0
  ·rw [decide_eq_true hd] at c31
   refine ⟨.ret,.iv (.int .i64 i),.iv (.int .i64 i),.iv (.int .i64 i),.iv (.bool true),.iv (.bool true),loop_at K _ _ t42L0.eq_1 ?_,.inr ⟨rfl,i,rfl,hla,hd,hq⟩⟩
   simp (config := { maxSteps := 4000000 }) (disch := omega) only [go_sem,i1,h',s1,cpR_pure c31]
  ·rw [decide_eq_false hd] at c31
   obtain ⟨jj,y2,y3,y5,y6,y7,ih,hj⟩ := loop42 h hn cap k (i + 1) x2 (.iv (.int .i64 i)) (.iv (.bool true)) (.iv (.bool false)) (by omega) (fun q hq1 => by
    rcases Nat.lt_or_ge q i with h1 | h1
    ·exact hq q h1
    ·obtain rfl : q = i := by omega
     omega)
   rw [show ((i + 1 : Nat) : Int) = (i : Int) + 1 by omega] at ih
   refine ⟨jj,y2,y3,y5,y6,y7,loop_at K _ _ t42L0.eq_1 ?_,hj⟩
   simp (config := { maxSteps := 4000000 }) (disch := omega) only [go_sem,i1,h',s1,cpR_pure c31,wrap_i64]
   exact congrArg er ih
theorem call42 {S : Store} {j v : Nat} {b : Bool} {C : List Int} {J : List TV} (h : S[j]? = some (.cells v b (C.map vI ++ J))) (hn : C.length ≤ 1000000) (cap : Nat) :
  ∃ w : Int,(lim K).call 42 [.msl j v 0 C.length cap 1,.fn 31 [] []] S = .ret (.iv (.int .i64 w),S) ∧ (w = -1 ∧ (∀ q,q < C.length → 0 < C.getD q 0) ∨ ∃ q : Nat,w = q ∧ q < C.length ∧ C.getD q 0 ≤ 0 ∧ ∀ p,p < q → 0 < C.getD p 0) := by
 obtain ⟨jj,y2,y3,y5,y6,y7,l1,hj⟩ := loop42 h hn cap C.length 0 (.iv (.int .i64 0)) (.tup []) (.tup []) (.tup []) (by omega) (fun q hq => by omega)
 rw [show ((0 : Nat) : Int) = 0 from rfl] at l1
 rcases hj with ⟨rfl,hj⟩ | ⟨rfl,q,rfl,h1⟩
 ·refine ⟨-1,call_ret' K _ (fn := t42) rfl rfl ?_,.inl ⟨rfl,hj⟩⟩
  simp (config := { maxSteps := 4000000 }) (disch := omega) only [t42,go_sem,TM.undef]
  rw [l1]
  simp (config := { maxSteps := 4000000 }) (disch := omega) only [go_sem]
 ·refine ⟨q,call_ret' K _ (fn := t42) rfl rfl ?_,.inr ⟨q,rfl,h1⟩⟩
  simp (config := { maxSteps := 4000000 }) (disch := omega) only [t42,go_sem,TM.undef]
  rw [l1]
  simp (config := { maxSteps := 4000000 }) (disch := omega) only [go_sem]
def pos (C : List Int) : List Int := C.filter fun n => decide (0 < n)
theorem pos_all {C : List Int} (h : ∀ q,q < C.length → 0 < C.getD q 0) : pos C = C := by
 refine List.filter_eq_self.2 fun a ha => ?_
 obtain ⟨i,hi,rfl⟩ := List.getElem_of_mem ha
 have := h i hi
 simp only [List.getD,List.getElem?_eq_getElem hi,Option.getD_some] at this
 exact decide_eq_true this
theorem pos_take {C : List Int} {i : Nat} (h : i < C.length) : pos (C.take (i + 1)) = if 0 < C.getD i 0 then pos (C.take i) ++ [C.getD i 0] else pos (C.take i) := by
 have : C.take (i + 1) = C.take i ++ [C.getD i 0] := by
  rw [List.take_add_one,List.getElem?_eq_getElem h]
  simp [List.getD,List.getElem?_eq_getElem h]
 rw [this]
 unfold pos
 rw [List.filter_append]
 by_cases h : 0 < C.getD i 0
 ·rw [if_pos h]; simp only [List.filter_cons,decide_eq_true h,if_true,List.filter_nil]
 ·rw [if_neg h]; simp only [List.filter_cons,decide_eq_false h,List.filter_nil,Bool.false_eq_true,if_false,List.append_nil]
theorem pos_len (C : List Int) : (pos C).length ≤ C.length := List.length_filter_le _ _
theorem set_row {S : Store} {j : Nat} {B : Block} (h : S[j]? = some B) : S.set j B = S := by
 obtain ⟨hlt,he⟩ := List.getElem?_eq_some_iff.1 h
 rw [← he,List.set_getElem_self]
theorem loop30 {j v : Nat} {b : Bool} {C : List Int} {J : List TV} (hn : C.length ≤ 1000000) (cap : Nat) (x2 x6 : TV) : ∀ (k i : Nat) (S : Store) (x5 x7 x8 : TV),i + k = C.length →
  S[j]? = some (.cells v b ((pos (C.take i) ++ C.drop (pos (C.take i)).length).map vI ++ J)) →
  ∃ y5 y7 y8,lp' (lim K) t30L0 [.msl j v 0 C.length cap 1,.fn 31 [] [],x2,.iv (.int .i64 ((pos (C.take i)).length : Nat)),.iv (.int .i64 i),x5,x6,x7,x8] S
   = .ret (.exit 0,[.msl j v 0 C.length cap 1,.fn 31 [] [],x2,.iv (.int .i64 ((pos C).length : Nat)),.iv (.int .i64 C.length),y5,x6,y7,y8],S.set j (.cells v b ((pos C ++ C.drop (pos C).length).map vI ++ J)))
 | 0,i,S,x5,x7,x8,hk,h => by
  obtain rfl : i = C.length := by omega
  rw [List.take_length] at h ⊢
  refine ⟨x5,.iv (.bool false),x8,loop_at K _ _ t30L0.eq_1 ?_⟩
  rw [set_row h]
  simp (config := { maxSteps := 4000000 }) (disch := omega) only [go_sem]
 | k + 1,i,S,x5,x7,x8,hk,h => by
  have hla : i < C.length := by omega
  have hpl : (pos (C.take i)).length ≤ i := Nat.le_trans (pos_len _) (by simp; omega)
  have hlen := len_mid (D := pos (C.take i)) (C := C) (by omega)
  have i1 := ix_RW (j := j) (v := v) (cap := cap) hla
  have s1 := sub_RW (C := pos (C.take i) ++ C.drop (pos (C.take i)).length) (J := J) (i := i) (by omega)
  rw [get_mid hpl] at s1
  have c31 := call31 (C.getD i 0)
  have hpt := pos_take hla
  have h' := h
  simp only [vI] at h' s1
  by_cases hd : C.getD i 0 ≤ 0
  ·rw [if_neg (by omega)] at hpt
   rw [decide_eq_true hd] at c31
   obtain ⟨y5,y7,y8,ih⟩ := loop30 (v := v) (b := b) (J := J) hn cap x2 x6 k (i + 1) S (.iv (.int .i64 (C.getD i 0))) (.iv (.bool true)) (.iv (.bool false)) (by omega) (by rw [hpt]; exact h)
   rw [hpt,show ((i + 1 : Nat) : Int) = (i : Int) + 1 by omega] at ih
   refine ⟨y5,y7,y8,loop_at K _ _ t30L0.eq_1 ?_⟩
   simp (config := { maxSteps := 4000000 }) (disch := omega) only [go_sem,i1,h',s1,cpR_pure c31,wrap_i64]
   exact congrArg er ih
  ·rw [if_pos (by omega)] at hpt
   rw [decide_eq_false hd] at c31
   have hD : (pos (C.take i)).length < C.length := by omega
   have i2 := ix_RW (j := j) (v := v) (cap := cap) hD
   have p1 := put_RW (C := pos (C.take i) ++ C.drop (pos (C.take i)).length) (J := J) (i := (pos (C.take i)).length) (C.getD i 0) (by omega)
   rw [set_mid _ _ _ hD] at p1
   have hlt := lt_get h
   obtain ⟨y5,y7,y8,ih⟩ := loop30 (v := v) (b := b) (J := J) hn cap x2 x6 k (i + 1) (S.set j (.cells v b (((pos (C.take i) ++ [C.getD i 0]) ++ C.drop ((pos (C.take i)).length + 1)).map vI ++ J))) (.iv (.int .i64 (C.getD i 0))) (.iv (.bool true)) (.iv (.bool true)) (by omega) (by
    rw [hpt,get_setS hlt]
    simp)
   rw [hpt,show ((i + 1 : Nat) : Int) = (i : Int) + 1 by omega,List.length_append,List.length_singleton,List.set_set,show (((pos (C.take i)).length + 1 : Nat) : Int) = ((pos (C.take i)).length : Int) + 1 by omega] at ih
   have hbb : (pos (C.take i)).length + 1 ≤ ((pos (C.take i) ++ C.drop (pos (C.take i)).length).map vI ++ J).length := by rw [List.length_append,List.length_map,hlen]; omega
   simp only [vI] at p1 hbb
   refine ⟨y5,y7,y8,loop_at K _ _ t30L0.eq_1 ?_⟩
   simp (config := { maxSteps := 4000000 }) (disch := omega) only [go_sem,i1,i2,h',s1,cpR_pure c31,wrap_i64,hbb,p1]
   exact congrArg er ih
theorem call30 {S : Store} {j v : Nat} {b : Bool} {C : List Int} {J : List TV} (h : S[j]? = some (.cells v b (C.map vI ++ J))) (hn : C.length ≤ 1000000) {cap : Nat} (hc : C.length ≤ cap) :
  ∃ J',(lim K).call 30 [.msl j v 0 C.length cap 1,.fn 31 [] []] S = .ret (.msl j v 0 (pos C).length cap 1,S.set j (.cells v b ((pos C).map vI ++ J'))) := by
 obtain ⟨w,c42,hw⟩ := call42 h hn cap
 rcases hw with ⟨rfl,hw⟩ | ⟨q,rfl,hq,hq1,hq2⟩
 ·rw [pos_all hw]
  refine ⟨J,call_ret' K _ (fn := t30) rfl rfl ?_⟩
  rw [set_row h]
  simp (config := { maxSteps := 4000000 }) (disch := omega) only [t30,go_sem,TM.undef,c42]
 ·have hpq : pos (C.take q) = C.take q := pos_all fun p hp => by
   have h1 : p < q := by simp at hp; omega
   have h2 := hq2 p h1
   simp only [List.getD,List.getElem?_take_of_lt h1] at h2 ⊢
   exact h2
  have hpq1 : pos (C.take (q + 1)) = C.take q := by rw [pos_take hq,if_neg (by omega),hpq]
  have hql : (C.take q).length = q := by simp; omega
  obtain ⟨y5,y7,y8,l1⟩ := loop30 (j := j) (v := v) (b := b) (C := C) (J := J) hn cap (.iv (.sl .nil [])) (.iv (.bool false)) (C.length - (q + 1)) (q + 1) S (.tup []) (.tup []) (.tup []) (by omega) (by
   rw [hpq1,hql,List.take_append_drop]; exact h)
  rw [hpq1,hql,show ((q + 1 : Nat) : Int) = (q : Int) + 1 by omega] at l1
  have hlt := lt_get h
  have hS1 : (S.set j (.cells v b ((pos C ++ C.drop (pos C).length).map vI ++ J)))[j]? = some _ := get_setS hlt _
  have hpl := pos_len C
  have hlen := len_mid (D := pos C) (C := C) hpl
  have f1 := sl_msl hS1 _ _ _ (bounds_lo (m := C.length) (cap := cap) (a := (pos C).length) hc hpl)
  obtain ⟨J',f2⟩ := clr_RW (cap := cap) hS1 (i := (pos C).length) (by omega) (by omega) (cap - (pos C).length)
  rw [hlen,List.take_left',List.set_set] at f2
  ·have hS2 : (S.set j (.cells v b ((pos C).map vI ++ J')))[j]? = some _ := get_setS hlt _
   have f3 := sl_msl hS2 _ _ _ (bounds_hi (m := C.length) (cap := cap) (b := (pos C).length) (by omega))
   rw [show (if cap = 0 then 0 else 0 + 0 * 1) = 0 by split <;> rfl,Nat.sub_zero,Nat.sub_zero] at f3
   have hq' : ¬ (q : Int) = -1 := by omega
   refine ⟨J',call_ret' K _ (fn := t30) rfl rfl ?_⟩
   simp (config := { maxSteps := 4000000 }) (disch := omega) only [t30,go_sem,TM.undef,c42,hq',wrap_i64]
   rw [l1]
   simp (config := { maxSteps := 4000000 }) (disch := omega) only [go_sem,f1,fun env => clV_eq _ env _ _ _ f2,f3]
  ·rfl
theorem kprim32 : K.prim 32 = some primSort := rfl
theorem prV_sort (S : Store) (j v o n c e : Nat) : prV S (some primSort) [.msl j v o n c e] = primSort [.msl j v o n c e] S := id rfl
theorem sortI_len (C : List Int) : (sortI C).length = C.length := (sortI_perm C).length_eq
theorem primSort_RW {S : Store} {j v : Nat} {b : Bool} {C : List Int} {J : List TV} (h : S[j]? = some (.cells v b (C.map vI ++ J))) (hn : C.length ≤ 1000000) {cap : Nat} (hc : C.length ≤ cap) :
  primSort [.msl j v 0 C.length cap 1] S = some (.tup [],S.set j (.cells v b ((sortI C).map vI ++ J))) := by
 by_cases h0 : C.length = 0
 ·obtain rfl : C = [] := List.eq_nil_of_length_eq_zero h0
  have e : S.set j (.cells v b ((sortI []).map vI ++ J)) = S := set_row h
  rw [e]; rfl
 ·have e1 : List.take C.length (List.drop 0 (C.map vI ++ J)) = C.map fun n => TV.iv (.int .i64 n) := by
   rw [List.drop_zero,List.take_left' (by simp)]; rfl
  have e2 : List.drop C.length (C.map vI ++ J) = J := List.drop_left' (by simp)
  simp only [primSort,h0,↓reduceIte,h,hc,Nat.zero_add,List.length_append,List.length_map,show C.length ≤ C.length + J.length by omega,show C.length ≤ 1048576 by omega,and_self,e1,cellsI_map,List.take_zero,List.nil_append,e2]
  rfl
theorem rise_unique : ∀ {l m : List Int},l.Pairwise (· < ·) → m.Pairwise (· < ·) → (∀ x,x ∈ l ↔ x ∈ m) → l = m
 | [],[],_,_,_ => rfl
 | [],b :: m,_,_,h => by have := (h b).2 (by simp); cases this
 | a :: l,[],_,_,h => by have := (h a).1 (by simp); cases this
 | a :: l,b :: m,hl,hm,h => by
  rw [List.pairwise_cons] at hl hm
  have hab : a = b := by
   rcases List.mem_cons.1 ((h a).1 (by simp)) with e | h1
   ·exact e
   ·rcases List.mem_cons.1 ((h b).2 (by simp)) with e | h2
    ·exact e.symm
    ·have := hm.1 a h1; have := hl.1 b h2; omega
  subst hab
  rw [rise_unique hl.2 hm.2 fun x => ?_]
  have hx := h x
  simp only [List.mem_cons] at hx
  constructor
  ·intro h1
   rcases hx.1 (.inr h1) with rfl | h2
   ·have := hl.1 x h1; omega
   ·exact h2
  ·intro h1
   rcases hx.2 (.inr h1) with rfl | h2
   ·have := hm.1 x h1; omega
   ·exact h2
theorem getD_mem {C : List Int} {i : Nat} (h : i < C.length) : C.getD i 0 ∈ C := by
 simp only [List.getD,List.getElem?_eq_getElem h,Option.getD_some]; exact List.getElem_mem _
theorem take_succD {C : List Int} {i : Nat} (h : i < C.length) : C.take (i + 1) = C.take i ++ [C.getD i 0] := by
 rw [List.take_add_one,List.getElem?_eq_getElem h]
 simp [List.getD,List.getElem?_eq_getElem h]
theorem sorted_lt {C : List Int} (hC : C.Pairwise (· ≤ ·)) {p : Nat} (hp : p < C.length) (hp0 : 0 < p) (hne : C.getD p 0 ≠ C.getD (p - 1) 0) : ∀ x ∈ C.take p,x < C.getD p 0 := by
 intro x hx
 obtain ⟨i,hi,rfl⟩ := List.getElem_of_mem hx
 simp at hi
 have h1 : C.getD (p - 1) 0 ≤ C.getD p 0 := by
  simp only [List.getD,List.getElem?_eq_getElem (show p - 1 < C.length by omega),List.getElem?_eq_getElem hp,Option.getD_some]
  exact List.pairwise_iff_getElem.1 hC (p - 1) p _ _ (by omega)
 have h2 : C[i] ≤ C.getD (p - 1) 0 := by
  simp only [List.getD,List.getElem?_eq_getElem (show p - 1 < C.length by omega),Option.getD_some]
  rcases Nat.lt_or_ge i (p - 1) with h | h
  ·exact List.pairwise_iff_getElem.1 hC i (p - 1) _ _ h
  ·have : i = p - 1 := by omega
   subst this; exact Int.le_refl _
 rw [List.getElem_take]
 omega
theorem loop33a {j v : Nat} {b : Bool} {C : List Int} {J : List TV} (hC : C.Pairwise (· ≤ ·)) (hn : C.length ≤ 1000000) {cap : Nat} (hc : C.length ≤ cap) {k0 : Nat} (hk0 : k0 < C.length) (x1 x5 x6 x7 : TV) : ∀ (k p : Nat) (D : List Int) (S : Store) (x8 x9 : TV),p + k = C.length → k0 < p → D.length < p →
  D.Pairwise (· < ·) → (∀ x,x ∈ D ↔ x ∈ C.take p) → S[j]? = some (.cells v b ((D ++ C.drop D.length).map vI ++ J)) →
  ∃ (E : List Int) (y8 y9 : TV),lp' (lim K) t33L0 [.msl j v 0 C.length cap 1,x1,.iv (.int .i64 (D.length : Nat)),.msl j v k0 (C.length - k0) (cap - k0) 1,.iv (.int .i64 (p - k0 : Nat)),x5,x6,x7,x8,x9] S
   = .ret (.exit 2,[.msl j v 0 C.length cap 1,x1,.iv (.int .i64 (E.length : Nat)),.msl j v k0 (C.length - k0) (cap - k0) 1,.iv (.int .i64 (C.length - k0 : Nat)),x5,x6,x7,y8,y9],S.set j (.cells v b ((E ++ C.drop E.length).map vI ++ J))) ∧
   E.Pairwise (· < ·) ∧ (∀ x,x ∈ E ↔ x ∈ C) ∧ E.length ≤ C.length
 | 0,p,D,S,x8,x9,hk,hkp,hDp,hD,hm,h => by
  obtain rfl : p = C.length := by omega
  rw [List.take_length] at hm
  refine ⟨D,.iv (.bool false),x9,loop_at K _ _ t33L0.eq_1 ?_,hD,hm,by omega⟩
  rw [set_row h]
  simp (config := { maxSteps := 4000000 }) (disch := omega) only [go_sem]
 | k + 1,p,D,S,x8,x9,hk,hkp,hDp,hD,hm,h => by
  have hpl : p < C.length := by omega
  have hlen := len_mid (D := D) (C := C) (by omega)
  have e1 : k0 + (p - k0) = p := by omega
  have e2 : k0 + (p - k0 - 1) = p - 1 := by omega
  have i1 := ix_RWo (j := j) (v := v) (off := k0) (cap := cap - k0) (show p - k0 < C.length - k0 by omega)
  have i2 := ix_RWo (j := j) (v := v) (off := k0) (cap := cap - k0) (show p - k0 - 1 < C.length - k0 by omega)
  rw [e1] at i1
  rw [e2,show ((p - k0 - 1 : Nat) : Int) = ((p - k0 : Nat) : Int) - 1 by omega] at i2
  have s1 := sub_RW (C := D ++ C.drop D.length) (J := J) (i := p) (by omega)
  have s2 := sub_RW (C := D ++ C.drop D.length) (J := J) (i := p - 1) (by omega)
  rw [get_mid (by omega)] at s1 s2
  have h' := h
  simp only [vI] at h' s1 s2
  have hts := take_succD hpl
  by_cases hd : C.getD p 0 = C.getD (p - 1) 0
  ·have hmem : C.getD (p - 1) 0 ∈ C.take p := by
    have : (C.take p).getD (p - 1) 0 = C.getD (p - 1) 0 := by
     simp only [List.getD,List.getElem?_take_of_lt (show p - 1 < p by omega)]
    rw [← this]
    exact getD_mem (by simp; omega)
   obtain ⟨E,y8,y9,ih,hE⟩ := loop33a hC hn hc hk0 x1 x5 x6 x7 k (p + 1) D S (.iv (.bool true)) (.iv (.bool false)) (by omega) (by omega) (by omega) hD (fun x => by
    rw [hts,List.mem_append,List.mem_singleton,hm x]
    constructor
    ·exact .inl
    ·rintro (h1 | rfl)
     ·exact h1
     ·rw [hd]; exact hmem) h
   rw [show ((p + 1 - k0 : Nat) : Int) = ((p - k0 : Nat) : Int) + 1 by omega] at ih
   refine ⟨E,y8,y9,loop_at K _ _ t33L0.eq_1 ?_,hE⟩
   simp (config := { maxSteps := 4000000 }) (disch := omega) only [go_sem,i1,i2,h',s1,s2,hd,wrap_i64]
   exact congrArg er ih
  ·have hlt' := sorted_lt hC hpl (by omega) hd
   have hDl : D.length < C.length := by omega
   have i3 := ix_RW (j := j) (v := v) (cap := cap) hDl
   have p1 := put_RW (C := D ++ C.drop D.length) (J := J) (i := D.length) (C.getD p 0) (by omega)
   rw [set_mid _ _ _ hDl] at p1
   have hlt := lt_get h
   obtain ⟨E,y8,y9,ih,hE⟩ := loop33a (v := v) (b := b) (J := J) hC hn hc hk0 x1 x5 x6 x7 k (p + 1) (D ++ [C.getD p 0]) (S.set j (.cells v b (((D ++ [C.getD p 0]) ++ C.drop (D.length + 1)).map vI ++ J))) (.iv (.bool true)) (.iv (.bool true)) (by omega) (by omega) (by simp; omega)
    (List.pairwise_append.2 ⟨hD,by simp,fun a ha x hx => by rw [List.mem_singleton] at hx; subst hx; exact hlt' a ((hm a).1 ha)⟩) (fun x => by
    rw [hts,List.mem_append,List.mem_append,hm x]) (by
    rw [get_setS hlt]
    simp)
   rw [show ((p + 1 - k0 : Nat) : Int) = ((p - k0 : Nat) : Int) + 1 by omega,List.length_append,List.length_singleton,List.set_set,show ((D.length + 1 : Nat) : Int) = (D.length : Int) + 1 by omega] at ih
   have hbb : D.length + 1 ≤ ((D ++ C.drop D.length).map vI ++ J).length := by rw [List.length_append,List.length_map,hlen]; omega
   simp only [vI] at p1 hbb
   refine ⟨E,y8,y9,loop_at K _ _ t33L0.eq_1 ?_,hE⟩
   simp (config := { maxSteps := 4000000 }) (disch := omega) only [go_sem,i1,i2,i3,h',s1,s2,hd,wrap_i64,hbb,p1]
   exact congrArg er ih
theorem loop33b {j v : Nat} {b : Bool} {C : List Int} {J : List TV} (hC : C.Pairwise (· ≤ ·)) (hn : C.length ≤ 1000000) {cap : Nat} (hc : C.length ≤ cap) {S : Store} (h : S[j]? = some (.cells v b (C.map vI ++ J))) (x1 x5 : TV) : ∀ (k i : Nat) (x3 x4 x6 x7 x8 x9 : TV),i + k = C.length → 0 < i → (C.take i).Pairwise (· < ·) →
  ∃ (jj : Jump) (E : List Int) (J' : List TV) (y0 y1 y2 y3 y4 y6 y7 y8 y9 : TV),lp' (lim K) t33L1 [.msl j v 0 C.length cap 1,x1,.iv (.int .i64 i),x3,x4,x5,x6,x7,x8,x9] S
   = .ret (jj,[y0,y1,y2,y3,y4,x5,y6,y7,y8,y9],S.set j (.cells v b (E.map vI ++ J'))) ∧ E.Pairwise (· < ·) ∧ (∀ x,x ∈ E ↔ x ∈ C) ∧
   (jj = .exit 0 ∧ y0 = .msl j v 0 E.length cap 1 ∨ jj = .ret ∧ y1 = .msl j v 0 E.length cap 1)
 | 0,i,x3,x4,x6,x7,x8,x9,hk,hi,hp => by
  obtain rfl : i = C.length := by omega
  rw [List.take_length] at hp
  refine ⟨.exit 0,C,J,.msl j v 0 C.length cap 1,x1,.iv (.int .i64 C.length),x3,x4,.iv (.bool false),x7,x8,x9,loop_at K _ _ t33L1.eq_1 ?_,hp,fun x => Iff.rfl,.inl ⟨rfl,rfl⟩⟩
  rw [set_row h]
  simp (config := { maxSteps := 4000000 }) (disch := omega) only [go_sem]
 | k + 1,i,x3,x4,x6,x7,x8,x9,hk,hi,hp => by
  have hla : i < C.length := by omega
  have i1 := ix_RW (j := j) (v := v) (cap := cap) hla
  have i2 := ix_RW (j := j) (v := v) (cap := cap) (show i - 1 < C.length by omega)
  rw [show ((i - 1 : Nat) : Int) = (i : Int) - 1 by omega] at i2
  have s1 := sub_RW (J := J) hla
  have s2 := sub_RW (J := J) (show i - 1 < C.length by omega)
  have hts := take_succD hla
  have h' := h
  simp only [vI] at h' s1 s2
  by_cases hd : C.getD i 0 = C.getD (i - 1) 0
  ·have hmem : C.getD (i - 1) 0 ∈ C.take i := by
    have : (C.take i).getD (i - 1) 0 = C.getD (i - 1) 0 := by
     simp only [List.getD,List.getElem?_take_of_lt (show i - 1 < i by omega)]
    rw [← this]
    exact getD_mem (by simp; omega)
   have hil : (C.take i).length = i := by simp; omega
   obtain ⟨E,y8,y9,l1,hE,hEm,hEl⟩ := loop33a (j := j) (v := v) (b := b) (J := J) hC hn hc hla x1 x5 (.iv (.bool true)) (.iv (.bool true)) (C.length - (i + 1)) (i + 1) (C.take i) S x8 x9 (by omega) (by omega) (by omega) hp (fun x => by
    rw [hts,List.mem_append,List.mem_singleton]
    constructor
    ·exact .inl
    ·rintro (h1 | rfl)
     ·exact h1
     ·rw [hd]; exact hmem) (by rw [hil,List.take_append_drop]; exact h)
   rw [hil,show i + 1 - i = 1 by omega,show ((1 : Nat) : Int) = 1 from rfl] at l1
   have f1 := sl_msl h _ _ _ (bounds_lo (m := C.length) (cap := cap) (a := i) hc (by omega))
   rw [if_neg (show ¬ cap = i by omega),Nat.zero_add,Nat.mul_one] at f1
   have hlt := lt_get h
   have hS1 : (S.set j (.cells v b ((E ++ C.drop E.length).map vI ++ J)))[j]? = some _ := get_setS hlt _
   have hlen := len_mid (D := E) (C := C) hEl
   have f2 := sl_msl hS1 _ _ _ (bounds_lo (m := C.length) (cap := cap) (a := E.length) hc hEl)
   obtain ⟨J',f3⟩ := clr_RW (cap := cap) hS1 (i := E.length) (by omega) (by omega) (cap - E.length)
   rw [hlen,List.take_left' rfl,List.set_set] at f3
   have hS2 : (S.set j (.cells v b (E.map vI ++ J')))[j]? = some _ := get_setS hlt _
   have f4 := sl_msl hS2 _ _ _ (bounds_hi (m := C.length) (cap := cap) (b := E.length) (by omega))
   rw [show (if cap = 0 then 0 else 0 + 0 * 1) = 0 by split <;> rfl,Nat.sub_zero,Nat.sub_zero] at f4
   refine ⟨.ret,E,J',.msl j v 0 C.length cap 1,.msl j v 0 E.length cap 1,.iv (.int .i64 (E.length : Nat)),.msl j v i (C.length - i) (cap - i) 1,.iv (.int .i64 (C.length - i : Nat)),.iv (.bool true),.iv (.bool true),y8,y9,loop_at K _ _ t33L1.eq_1 ?_,hE,hEm,.inr ⟨rfl,rfl⟩⟩
   simp (config := { maxSteps := 4000000 }) (disch := omega) only [go_sem,i1,i2,h',s1,s2,hd,wrap_i64,f1]
   rw [l1]
   simp (config := { maxSteps := 4000000 }) (disch := omega) only [go_sem,f2,fun env => clV_eq _ env _ _ _ f3,f4]
  ·have hlt' := sorted_lt hC hla (by omega) hd
   obtain ⟨jj,E,J',y0,y1,y2,y3,y4,y6,y7,y8,y9,ih,hE⟩ := loop33b hC hn hc h x1 x5 k (i + 1) x3 x4 (.iv (.bool true)) (.iv (.bool false)) x8 x9 (by omega) (by omega) (by
    rw [hts]
    exact List.pairwise_append.2 ⟨hp,by simp,fun a ha x hx => by rw [List.mem_singleton] at hx; subst hx; exact hlt' a ha⟩)
   rw [show ((i + 1 : Nat) : Int) = (i : Int) + 1 by omega] at ih
   refine ⟨jj,E,J',y0,y1,y2,y3,y4,y6,y7,y8,y9,loop_at K _ _ t33L1.eq_1 ?_,hE⟩
   simp (config := { maxSteps := 4000000 }) (disch := omega) only [go_sem,i1,i2,h',s1,s2,hd,wrap_i64]
   exact congrArg er ih
theorem call33 {S : Store} {j v : Nat} {b : Bool} {C D : List Int} {J : List TV} (hC : C.Pairwise (· ≤ ·)) (hn : C.length ≤ 1000000) {cap : Nat} (hc : C.length ≤ cap) (h : S[j]? = some (.cells v b (C.map vI ++ J))) (hD : D.Pairwise (· < ·)) (hm : ∀ x,x ∈ D ↔ x ∈ C) :
  ∃ J',(lim K).call 33 [.msl j v 0 C.length cap 1] S = .ret (.msl j v 0 D.length cap 1,S.set j (.cells v b (D.map vI ++ J'))) := by
 by_cases h2 : C.length < 2
 ·have hCD : C = D := by
   refine rise_unique ?_ hD fun x => (hm x).symm
   match C,h2 with
   | [],_ => simp
   | [a],_ => simp
  subst hCD
  refine ⟨J,call_ret' K _ (fn := t33) rfl rfl ?_⟩
  rw [set_row h]
  have h2' : ((C.length : Nat) : Int) < 2 := by omega
  simp (config := { maxSteps := 4000000 }) (disch := omega) only [t33,go_sem,TM.undef,h2']
 ·obtain ⟨jj,E,J',y0,y1,y2,y3,y4,y6,y7,y8,y9,l1,hE,hEm,hy⟩ := loop33b hC hn hc h (.iv (.sl .nil [])) (.iv (.bool false)) (C.length - 1) 1 (.tup []) (.tup []) (.tup []) (.tup []) (.tup []) (.tup []) (by omega) (by omega) (by
   match C,h2 with
   | a :: r,_ => simp)
  rw [show ((1 : Nat) : Int) = 1 from rfl] at l1
  obtain rfl : E = D := rise_unique hE hD fun x => (hEm x).trans (hm x).symm
  have h2' : ¬ ((C.length : Nat) : Int) < 2 := by omega
  refine ⟨J',call_ret' K _ (fn := t33) rfl rfl ?_⟩
  rcases hy with ⟨rfl,rfl⟩ | ⟨rfl,rfl⟩
  ·simp (config := { maxSteps := 4000000 }) (disch := omega) only [t33,go_sem,TM.undef,h2']
   rw [l1]
   simp (config := { maxSteps := 4000000 }) (disch := omega) only [go_sem]
  ·simp (config := { maxSteps := 4000000 }) (disch := omega) only [t33,go_sem,TM.undef,h2']
   rw [l1]
   simp (config := { maxSteps := 4000000 }) (disch := omega) only [go_sem]
structure Tidy (C D : List Int) : Prop where
 rise : D.Pairwise (· < ·)
 mem : ∀ x,x ∈ D ↔ x ∈ C ∧ 0 < x
theorem call22 {S : Store} {j v : Nat} {b : Bool} {C D : List Int} {J : List TV} (hn : C.length ≤ 1000000) {cap : Nat} (hc : C.length ≤ cap) (h : S[j]? = some (.cells v b (C.map vI ++ J))) (t : Tidy C D) :
  ∃ J',(lim K).call 22 [.msl j v 0 C.length cap 1] S = .ret (.msl j v 0 D.length cap 1,S.set j (.cells v b (D.map vI ++ J'))) := by
 have hlt := lt_get h
 obtain ⟨J1,c30⟩ := call30 h hn hc
 have hpl := pos_len C
 have hS1 : (S.set j (.cells v b ((pos C).map vI ++ J1)))[j]? = some _ := get_setS hlt _
 have hp := primSort_RW hS1 (by omega) (cap := cap) (by omega)
 rw [List.set_set] at hp
 have hS2 : (S.set j (.cells v b ((sortI (pos C)).map vI ++ J1)))[j]? = some _ := get_setS hlt _
 have hsl := sortI_len (pos C)
 obtain ⟨J2,c33⟩ := call33 (D := D) (sortI_pair (pos C)) (by omega) (cap := cap) (by omega) hS2 t.rise (fun x => by
  rw [t.mem x,(sortI_perm (pos C)).mem_iff]
  simp [pos])
 rw [List.set_set,hsl] at c33
 refine ⟨J2,call_ret' K _ (fn := t22) rfl rfl ?_⟩
 simp (config := { maxSteps := 4000000 }) (disch := omega) only [t22,go_sem,TM.undef,c30,kprim32,prV_sort,hp,c33]
theorem drop_get {α : Type} [Inhabited α] {l : List α} {i : Nat} (h : i < l.length) : l.drop i = l.getD i default :: l.drop (i + 1) := by
 rw [List.drop_eq_getElem_cons h,List.getD_eq_getElem?_getD,List.getElem?_eq_getElem h]; rfl
def oneI (l : List Int) : List (List IV) := TM.one (.int .i64) l
theorem oneI_nil {l : List Int} : oneI l = [] ↔ l = [] := by simp [oneI,TM.one]
theorem oneI_len (l : List Int) : (oneI l).length = l.length := by simp [oneI,TM.one]
theorem oneI_el (l : List Int) : Elems 1 (oneI l) := Elems.one (fun _ => rfl) l
theorem loop40 (t : Tag) (l : List Int) (n : Int) (hl : l.length ≤ 1000000000) (S : Store) : ∀ (k i : Nat) (x4 x5 : TV),i + k = l.length →
  ∃ j b y3 y4 y5,(j = .ret ∧ b = true ∧ n ∈ l.drop i ∨ j = .exit 0 ∧ b = false ∧ n ∉ l.drop i) ∧
   lp' (lim K) t40L0 [.iv (.sl t (TM.one (.int .i64) l)),.iv (.int .i64 n),.iv (.bool false),.iv (.int .i64 (i : Int)),x4,x5] S = .ret (j,[.iv (.sl t (TM.one (.int .i64) l)),.iv (.int .i64 n),.iv (.bool b),y3,y4,y5],S)
 | 0,i,x4,x5,h => by
  refine ⟨.exit 0,false,?_,?_,?_,.inr ⟨rfl,rfl,by rw [List.drop_eq_nil_of_le (by omega)]; simp⟩,loop_at K _ _ t40L0.eq_1 ?_⟩
  rotate_left 3
  ·simp (config := { maxSteps := 4000000 }) (disch := omega) only [go_sem,TM.one_length]
   rfl
 | k + 1,i,x4,x5,h => by
  have hla : i < l.length := by omega
  have hix := ix_one (f := IV.int .i64) (t := t) (l := l) (i := (i : Int)) (by omega)
  rw [Int.toNat_natCast] at hix
  have hdr := drop_get hla
  by_cases hn : l.getD i default = n
  ·refine ⟨.ret,true,?_,?_,?_,.inl ⟨rfl,rfl,by rw [hdr,hn]; simp⟩,loop_at K _ _ t40L0.eq_1 ?_⟩
   rotate_left 3
   ·simp (config := { maxSteps := 4000000 }) (disch := omega) only [go_sem,TM.one_length,hix,hn]
    rfl
  ·obtain ⟨j,b,y3,y4,y5,hj,ih⟩ := loop40 t l n hl S k (i + 1) (.iv (.bool true)) (.iv (.bool false)) (by omega)
   rw [show ((i + 1 : Nat) : Int) = (i : Int) + 1 by omega] at ih
   refine ⟨j,b,y3,y4,y5,?_,loop_at K _ _ t40L0.eq_1 ?_⟩
   ·rw [hdr]
    simp only [List.mem_cons,Ne.symm hn,false_or]
    exact hj
   ·simp (config := { maxSteps := 4000000 }) (disch := omega) only [go_sem,TM.one_length,hix,hn,wrap_i64]
    exact congrArg er ih
theorem call40 (t : Tag) (l : List Int) (n : Int) (hl : l.length ≤ 1000000000) (S : Store) : (lim K).call 40 [.iv (.sl t (TM.one (.int .i64) l)),.iv (.int .i64 n)] S = .ret (.iv (.bool (decide (n ∈ l))),S) := by
 obtain ⟨j,b,y3,y4,y5,hj,ih⟩ := loop40 t l n hl S l.length 0 (.tup []) (.tup []) (by omega)
 rw [show ((0 : Nat) : Int) = 0 from rfl,List.drop_zero] at *
 refine call_ret' K _ (fn := t40) rfl rfl ?_
 simp (config := { maxSteps := 4000000 }) (disch := omega) only [t40,go_sem,TM.undef]
 rw [ih]
 rcases hj with ⟨rfl,rfl,hm⟩ | ⟨rfl,rfl,hm⟩
 ·simp (config := { maxSteps := 4000000 }) (disch := omega) only [go_sem,hm]
 ·simp (config := { maxSteps := 4000000 }) (disch := omega) only [go_sem,hm]
def tw : List Int → Int → Nat
 | [],_ => 0
 | a :: r,n => if a < n then tw r n + 1 else 0
theorem tw_le : ∀ (l : List Int) (n : Int),tw l n ≤ l.length
 | [],n => Nat.le_refl _
 | a :: r,n => by
  have := tw_le r n
  unfold tw; split <;> simp <;> omega
theorem tw_take : ∀ (l : List Int) (n : Int),∀ v ∈ l.take (tw l n),v < n
 | [],n,v,h => by simp at h
 | a :: r,n,v,h => by
  unfold tw at h
  split at h
  ·rw [List.take_succ_cons] at h
   rcases List.mem_cons.1 h with rfl | h
   ·assumption
   ·exact tw_take r n v h
  ·simp at h
theorem tw_drop : ∀ (l : List Int) (n : Int),l.Pairwise (· < ·) → n ∉ l → ∀ v ∈ l.drop (tw l n),n < v
 | [],n,_,_,v,h => by simp at h
 | a :: r,n,hp,hn,v,h => by
  rw [List.pairwise_cons] at hp
  simp only [List.mem_cons,not_or] at hn
  unfold tw at h
  split at h
  ·rw [List.drop_succ_cons] at h
   exact tw_drop r n hp.2 hn.2 v h
  ·rw [List.drop_zero] at h
   rcases List.mem_cons.1 h with rfl | h
   ·omega
   ·have := hp.1 v h; omega
def putI (l : List Int) (n : Int) : List Int := if n ∈ l then l else l.take (tw l n) ++ n :: l.drop (tw l n)
theorem putI_mem (l : List Int) (n v : Int) : v ∈ putI l n ↔ v ∈ l ∨ v = n := by
 unfold putI
 split
 ·rename_i h
  constructor
  ·exact .inl
  ·rintro (h1 | rfl)
   ·exact h1
   ·exact h
 ·have : l.take (tw l n) ++ l.drop (tw l n) = l := List.take_append_drop _ _
  rw [List.mem_append,List.mem_cons]
  rw [← this,List.mem_append]
  rw [List.take_append_drop]
  constructor
  ·rintro (h | h | h)
   ·exact .inl (.inl h)
   ·exact .inr h
   ·exact .inl (.inr h)
  ·rintro ((h | h) | h)
   ·exact .inl h
   ·exact .inr (.inr h)
   ·exact .inr (.inl h)
theorem putI_pair {l : List Int} (n : Int) (hp : l.Pairwise (· < ·)) : (putI l n).Pairwise (· < ·) := by
 unfold putI
 split
 ·exact hp
 ·rename_i hn
  have h1 := tw_take l n
  have h2 := tw_drop l n hp hn
  rw [List.pairwise_append,List.pairwise_cons]
  refine ⟨List.Pairwise.sublist (List.take_sublist _ _) hp,⟨h2,List.Pairwise.sublist (List.drop_sublist _ _) hp⟩,fun a ha b hb => ?_⟩
  rcases List.mem_cons.1 hb with rfl | hb
  ·exact h1 a ha
  ·have := h1 a ha; have := h2 b hb; omega
theorem putI_len (l : List Int) (n : Int) : (putI l n).length ≤ l.length + 1 := by
 unfold putI
 split
 ·omega
 ·have := tw_le l n
  simp; omega
theorem loop34 (t : Tag) (l : List Int) (n : Int) (hl : l.length ≤ 1000000000) (x2 x4 x5 : TV) (S : Store) : ∀ (k i : Nat) (x6 : TV),i + k = l.length →
  ∃ y6,lp' (lim K) t34L0 [.iv (.sl t (TM.one (.int .i64) l)),.iv (.int .i64 n),x2,.iv (.int .i64 (i : Int)),x4,x5,x6] S
   = .ret (.exit 0,[.iv (.sl t (TM.one (.int .i64) l)),.iv (.int .i64 n),x2,.iv (.int .i64 ((i + tw (l.drop i) n : Nat) : Int)),x4,x5,y6],S)
 | 0,i,x6,h => by
  obtain rfl : i = l.length := by omega
  refine ⟨.iv (.bool false),loop_at K _ _ t34L0.eq_1 ?_⟩
  rw [List.drop_length,tw,Nat.add_zero]
  simp (config := { maxSteps := 4000000 }) (disch := omega) only [go_sem,TM.one_length]
 | k + 1,i,x6,h => by
  have hla : i < l.length := by omega
  have hix := ix_one (f := IV.int .i64) (t := t) (l := l) (i := (i : Int)) (by omega)
  rw [Int.toNat_natCast] at hix
  have hdr := drop_get hla
  by_cases hn : l.getD i default < n
  ·obtain ⟨y6,ih⟩ := loop34 t l n hl x2 x4 x5 S k (i + 1) (.iv (.bool true)) (by omega)
   rw [show ((i + 1 : Nat) : Int) = (i : Int) + 1 by omega] at ih
   refine ⟨y6,loop_at K _ _ t34L0.eq_1 ?_⟩
   rw [hdr,tw,if_pos hn,show i + (tw (l.drop (i + 1)) n + 1) = i + 1 + tw (l.drop (i + 1)) n by omega]
   simp (config := { maxSteps := 4000000 }) (disch := omega) only [go_sem,TM.one_length,hix,hn,wrap_i64]
   exact congrArg er ih
  ·refine ⟨.iv (.bool false),loop_at K _ _ t34L0.eq_1 ?_⟩
   rw [hdr,tw,if_neg hn,Nat.add_zero]
   simp (config := { maxSteps := 4000000 }) (disch := omega) only [go_sem,TM.one_length,hix,hn]
theorem ap_accI {l ys : List Int} {t : Tag} (h : l.length + ys.length ≤ 8000000) :
  appendOp false 1 8 3 (accS 1 3 (oneI l)) (acc 0 (oneI l)) (.iv (.sl t (oneI ys))) = some (acc 0 (oneI (l ++ ys)),accS 1 3 (oneI (l ++ ys))) := by
 have := ap_acc (w := 1) (b := 8) (el := 3) (l := oneI l) (ys := oneI ys) (x := .iv (.sl t (oneI ys))) (fun S => IsEl.sl S t _) (oneI_el ys) (oneI_el l) (roomy_ok (by rw [oneI_len,oneI_len]; omega))
 rw [this,show oneI l ++ oneI ys = oneI (l ++ ys) by simp [oneI,TM.one]]
theorem call34 (t : Tag) (l : List Int) (n : Int) (ht : TagOk t l) (hl : l.length ≤ 2000000) : ∃ t',TagOk t' (putI l n) ∧ TM.Pure K 34 [.iv (.sl t (TM.one (.int .i64) l)),.iv (.int .i64 n)] (.iv (.sl t' (TM.one (.int .i64) (putI l n)))) := by
 have c40 := call40 t l n (by omega) []
 unfold putI
 by_cases hn : n ∈ l
 ·rw [if_pos hn]
  rw [decide_eq_true hn] at c40
  refine ⟨t,ht,TM.pure_ret (S := []) (r := .iv (.sl t (TM.one (.int .i64) l))) (call_ret' K _ (fn := t34) rfl rfl ?_) (by rw [resolve_iv])⟩
  simp (config := { maxSteps := 4000000 }) (disch := omega) only [t34,go_sem,TM.undef,c40]
 ·rw [if_neg hn]
  rw [decide_eq_false hn] at c40
  have hk := tw_le l n
  obtain ⟨y6,l1⟩ := loop34 t l n (by omega) (.iv (.sl .nil [])) (.tup []) (.iv (.bool false)) [] l.length 0 (.tup []) (by omega)
  rw [show ((0 : Nat) : Int) = 0 from rfl,List.drop_zero,Nat.zero_add] at l1
  have s1 := fun S => slice_one_hi (f := IV.int .i64) S (t := t) (l := l) (b := (tw l n : Int)) ht (by omega)
  have s2 := fun S => slice_one_lo (f := IV.int .i64) S (t := t) (l := l) (a := (tw l n : Int)) ht (by omega)
  rw [Int.toNat_natCast] at s1 s2
  generalize hA : l.take (tw l n) = A at *
  generalize hB : l.drop (tw l n) = B at *
  have lA : A.length ≤ l.length := by rw [← hA]; simp; omega
  have lB : B.length ≤ l.length := by rw [← hB]; simp
  generalize cutTag t l.length (tw l n) = t1 at *
  have e1 := ap_accI (l := []) (ys := A) (t := t1) (by simp; omega)
  have e2 := ap_accI (l := A) (ys := [n]) (t := .full) (by simp; omega)
  have e3 := ap_accI (l := A ++ [n]) (ys := B) (t := t) (by simp; omega)
  rw [show accS 1 3 (oneI []) = [] from rfl,show acc 0 (oneI []) = .iv (.sl .nil []) from rfl,List.nil_append] at e1
  rw [show oneI [n] = [[.int .i64 n]] from rfl] at e2
  rw [show A ++ [n] ++ B = A ++ n :: B by simp] at e3
  refine ⟨sTag (oneI (A ++ n :: B)),fun h => ?_,TM.pure_ret (S := accS 1 3 (oneI (A ++ n :: B))) (r := acc 0 (oneI (A ++ n :: B))) (call_ret' K _ (fn := t34) rfl rfl ?_) (resolve_acc _ _ _)⟩
  ·have : oneI (A ++ n :: B) ≠ [] := by simp [oneI_nil]
   revert h
   cases hq : oneI (A ++ n :: B) with
   | nil => exact absurd hq this
   | cons a r => intro h; cases h
  ·simp (config := { maxSteps := 4000000 }) (disch := omega) only [t34,go_sem,TM.undef,c40]
   rw [l1]
   unfold oneI at e1 e2 e3
   simp (config := { maxSteps := 4000000 }) (disch := omega) only [go_sem,s1,s2,e1,e2,e3]
   rfl
structure VI where
 op : Int
 d : Int
 a : Int
 b : Int
 im : Int
 lb : Int
 tu : Tag
 us : List Int
 tm : Tag
 mp : List Int
instance : Inhabited VI := ⟨⟨0,0,0,0,0,0,.nil,[],.nil,[]⟩⟩
def encV (v : VI) : List IV := [.int .i64 v.op,.int .i64 v.d,.int .i64 v.a,.int .i64 v.b,.int .i64 v.im,.int .i64 v.lb,.sl v.tu (TM.one (.int .i64) v.us),.sl v.tm (TM.one (.int .i64) v.mp)]
theorem encV_eq (v : VI) : encV v = [.int .i64 v.op,.int .i64 v.d,.int .i64 v.a,.int .i64 v.b,.int .i64 v.im,.int .i64 v.lb,.sl v.tu (TM.one (.int .i64) v.us),.sl v.tm (TM.one (.int .i64) v.mp)] := rfl
theorem encV_tv (v : VI) : (encV v).map TV.iv = [.iv (.int .i64 v.op),.iv (.int .i64 v.d),.iv (.int .i64 v.a),.iv (.int .i64 v.b),.iv (.int .i64 v.im),.iv (.int .i64 v.lb),.iv (.sl v.tu (TM.one (.int .i64) v.us)),.iv (.sl v.tm (TM.one (.int .i64) v.mp))] := rfl
theorem one_nil : TM.one (IV.int .i64) [] = [] := rfl
def put1 (l : List Int) (n : Int) : List Int := if n ≤ 0 then l else putI l n
def tdy (C : List Int) : List Int := C.foldl put1 []
theorem put1_mem (l : List Int) (n v : Int) : v ∈ put1 l n ↔ v ∈ l ∨ (v = n ∧ 0 < n) := by
 unfold put1
 split
 ·rename_i h
  constructor
  ·exact .inl
  ·rintro (h1 | ⟨_,h2⟩)
   ·exact h1
   ·omega
 ·rename_i h
  rw [putI_mem]
  constructor
  ·rintro (h1 | h1)
   ·exact .inl h1
   ·exact .inr ⟨h1,by omega⟩
  ·rintro (h1 | ⟨h1,_⟩)
   ·exact .inl h1
   ·exact .inr h1
theorem put1_pair {l : List Int} (n : Int) (h : l.Pairwise (· < ·)) : (put1 l n).Pairwise (· < ·) := by
 unfold put1
 split
 ·exact h
 ·exact putI_pair n h
theorem put1_len (l : List Int) (n : Int) : (put1 l n).length ≤ l.length + 1 := by
 unfold put1
 split
 ·omega
 ·exact putI_len l n
theorem fold_tidy : ∀ (C l : List Int),l.Pairwise (· < ·) → (C.foldl put1 l).Pairwise (· < ·) ∧ ∀ x,x ∈ C.foldl put1 l ↔ x ∈ l ∨ (x ∈ C ∧ 0 < x)
 | [],l,h => ⟨h,fun x => by simp⟩
 | n :: C,l,h => by
  obtain ⟨h1,h2⟩ := fold_tidy C (put1 l n) (put1_pair n h)
  refine ⟨h1,fun x => ?_⟩
  rw [List.foldl_cons,h2 x,put1_mem,List.mem_cons]
  constructor
  ·rintro ((h3 | ⟨rfl,h4⟩) | ⟨h3,h4⟩)
   ·exact .inl h3
   ·exact .inr ⟨.inl rfl,h4⟩
   ·exact .inr ⟨.inr h3,h4⟩
  ·rintro (h3 | ⟨rfl | h3,h4⟩)
   ·exact .inl (.inl h3)
   ·exact .inl (.inr ⟨rfl,h4⟩)
   ·exact .inr ⟨h3,h4⟩
theorem fold_len : ∀ (C l : List Int),(C.foldl put1 l).length ≤ l.length + C.length
 | [],l => Nat.le_refl _
 | n :: C,l => by
  have h1 := fold_len C (put1 l n)
  have h2 := put1_len l n
  rw [List.foldl_cons,List.length_cons]; omega
theorem tdy_tidy (C : List Int) : Tidy C (tdy C) := by
 obtain ⟨h1,h2⟩ := fold_tidy C [] .nil
 exact ⟨h1,fun x => by rw [show x ∈ tdy C ↔ _ from h2 x]; simp⟩
theorem tdy_len (C : List Int) : (tdy C).length ≤ C.length := by have := fold_len C []; simpa [tdy] using this
theorem tdy_pos {C : List Int} {x : Int} (h : x ∈ tdy C) : 0 < x := ((tdy_tidy C).mem x).1 h |>.2
def usesM (v : VI) : List Int :=
 if (1 ≤ v.op ∧ v.op ≤ 14) ∨ (25 ≤ v.op ∧ v.op ≤ 31) then tdy [v.a,v.b]
 else if (15 ≤ v.op ∧ v.op ≤ 24 ∧ v.op ≠ 23) ∨ v.op = 64 ∨ v.op = 74 then tdy [v.a]
 else if v.op = 67 ∨ v.op = 68 ∨ v.op = 72 then tdy (v.us ++ [26]) else []
def regs26 : List Int := List.map (fun n : Nat => (n : Int) + 1) (List.range 26)
def defsM (v : VI) : List Int :=
 if (1 ≤ v.op ∧ v.op ≤ 24) ∨ v.op = 64 ∨ (69 ≤ v.op ∧ v.op ≤ 71) ∨ v.op = 73 then tdy [v.d]
 else if v.op = 67 then tdy (regs26 ++ [31,v.d]) else []
theorem call24 (t : Tag) (l : List Int) (n : Int) (ht : TagOk t l) (hl : l.length ≤ 2000000) : ∃ t',TagOk t' (put1 l n) ∧ TM.Pure K 24 [.iv (.sl t (TM.one (.int .i64) l)),.iv (.int .i64 n)] (.iv (.sl t' (TM.one (.int .i64) (put1 l n)))) := by
 unfold put1
 by_cases hn : n ≤ 0
 ·rw [if_pos hn]
  refine ⟨t,ht,call_pure t24 rfl rfl ?_⟩
  simp (config := { maxSteps := 4000000 }) (disch := omega) only [t24,go_sem,TM.undef,hn]
 ·rw [if_neg hn]
  obtain ⟨t',ht',c34⟩ := call34 t l n ht hl
  refine ⟨t',ht',call_pure t24 rfl rfl ?_⟩
  simp (config := { maxSteps := 4000000 }) (disch := omega) only [t24,go_sem,TM.undef,hn,cpR_pure c34]
theorem loop10 (v : VI) (hu : v.us.length ≤ 1000000) (x0 x2 x5 x6 x7 : TV) (S : Store) : ∀ (k i : Nat) (t : Tag) (l : List Int) (x8 : TV),i + k = v.us.length → TagOk t l → l.length ≤ i →
  ∃ (t' : Tag) (y8 : TV),TagOk t' ((v.us.drop i).foldl put1 l) ∧ lp' (lim K) t10L0 [x0,.lb ((encV v).map .iv),x2,.iv (.sl t (TM.one (.int .i64) l)),.iv (.int .i64 (i : Int)),x5,x6,x7,x8] S
   = .ret (.exit 0,[x0,.lb ((encV v).map .iv),x2,.iv (.sl t' (TM.one (.int .i64) ((v.us.drop i).foldl put1 l))),.iv (.int .i64 v.us.length),x5,x6,x7,y8],S)
 | 0,i,t,l,x8,h,ht,hl => by
  obtain rfl : i = v.us.length := by omega
  rw [List.drop_length,List.foldl_nil]
  refine ⟨t,.iv (.bool false),ht,loop_at K _ _ t10L0.eq_1 ?_⟩
  simp (config := { maxSteps := 4000000 }) (disch := omega) only [go_sem,TM.one_length,encV,List.map_cons,List.map_nil]
 | k + 1,i,t,l,x8,h,ht,hl => by
  have hla : i < v.us.length := by omega
  have hix := ix_one (f := IV.int .i64) (t := v.tu) (l := v.us) (i := (i : Int)) (by omega)
  rw [Int.toNat_natCast] at hix
  have hdr := drop_get hla
  obtain ⟨t1,ht1,c24⟩ := call24 t l (v.us.getD i default) ht (by omega)
  have hpl := put1_len l (v.us.getD i default)
  obtain ⟨t',y8,ht',ih⟩ := loop10 v hu x0 x2 x5 x6 x7 S k (i + 1) t1 _ (.iv (.bool true)) (by omega) ht1 (by omega)
  rw [hdr,List.foldl_cons]
  rw [show ((i + 1 : Nat) : Int) = (i : Int) + 1 by omega] at ih
  refine ⟨t',y8,ht',loop_at K _ _ t10L0.eq_1 ?_⟩
  simp only [encV,List.map_cons,List.map_nil] at ih ⊢
  simp (config := { maxSteps := 4000000 }) (disch := omega) only [go_sem,TM.one_length,hix,cpR_pure c24,wrap_i64]
  exact congrArg er ih
def uI (n : Nat) : TV := .iv (.int .u64 (n : Int))
theorem sub_UW {W : List Nat} {i : Nat} (h : i < W.length) : sub (W.map uI) i 1 = some [uI (W.getD i 0)] := by
 simp only [sub,List.length_map,show i + 1 ≤ W.length by omega,↓reduceIte]
 rw [List.drop_eq_getElem_cons (by simp; omega)]
 simp [List.getD,List.getElem?_eq_getElem h]
theorem put_UW {W : List Nat} {i : Nat} (x : Nat) (h : i < W.length) : put (W.map uI) i [uI x] = (W.set i x).map uI := by
 unfold put
 rw [List.map_set,List.set_eq_take_append_cons_drop,if_pos (by simpa using h)]
 simp
def bit (W : List Nat) (r : Nat) : Bool := (W.getD (r / 64) 0).testBit (r % 64)
structure WOK (m : Nat) (W : List Nat) : Prop where
 len : W.length = m
 lt : ∀ x ∈ W,x < 18446744073709551616
theorem WOK.get {m : Nat} {W : List Nat} (h : WOK m W) (i : Nat) : W.getD i 0 < 18446744073709551616 := by
 rcases Nat.lt_or_ge i W.length with h1 | h1
 ·simp only [List.getD,List.getElem?_eq_getElem h1,Option.getD_some]; exact h.lt _ (List.getElem_mem _)
 ·simp [List.getD,List.getElem?_eq_none h1]
theorem WOK.set {m : Nat} {W : List Nat} (h : WOK m W) (i x : Nat) (hx : x < 18446744073709551616) : WOK m (W.set i x) :=
 ⟨by rw [List.length_set,h.len],fun y hy => by
  rcases List.mem_or_eq_of_mem_set hy with h1 | rfl
  ·exact h.lt y h1
  ·exact hx⟩
theorem WOK.zero (m : Nat) : WOK m (List.replicate m 0) := ⟨by simp,fun x hx => by rw [List.eq_of_mem_replicate hx]; decide⟩
theorem bit_zero (m r : Nat) : bit (List.replicate m 0) r = false := by
 unfold bit
 have : (List.replicate m 0).getD (r / 64) 0 = 0 := by
  rcases Nat.lt_or_ge (r / 64) m with h | h
  ·simp [List.getD,h]
  ·rw [List.getD,List.getElem?_eq_none (by simpa using h)]; rfl
 rw [this]; exact Nat.zero_testBit _
theorem getD_set {W : List Nat} {i j x : Nat} (h : i < W.length) : (W.set i x).getD j 0 = if j = i then x else W.getD j 0 := by
 simp only [List.getD,List.getElem?_set]
 by_cases e : i = j
 ·subst e; simp [h]
 ·rw [if_neg e,if_neg (Ne.symm e)]
theorem u64_or {a b : Nat} (ha : a < 18446744073709551616) (hb : b < 18446744073709551616) : IntKind.u64.wrap (bOr 64 (a : Int) (b : Int)) = ((a ||| b : Nat) : Int) := by
 have h : a ||| b < 2 ^ 64 := Nat.or_lt_two_pow (by simpa using ha) (by simpa using hb)
 unfold bOr
 rw [BitVec.toNat_or,ofInt_toNat ⟨by omega,by norm_cast⟩,ofInt_toNat ⟨by omega,by norm_cast⟩,Int.toNat_natCast,Int.toNat_natCast,wrap_u64]
 omega
def nAndNot (a b : Nat) : Nat := (BitVec.ofNat 64 a &&& ~~~ BitVec.ofNat 64 b).toNat
theorem nAndNot_lt (a b : Nat) : nAndNot a b < 18446744073709551616 := (BitVec.ofNat 64 a &&& ~~~ BitVec.ofNat 64 b).isLt
theorem nAndNot_bit (a b i : Nat) (hi : i < 64) : (nAndNot a b).testBit i = (a.testBit i && !b.testBit i) := by
 unfold nAndNot
 rw [BitVec.testBit_toNat,BitVec.getLsbD_and,BitVec.getLsbD_not,BitVec.getLsbD_ofNat,BitVec.getLsbD_ofNat]
 simp [hi]
theorem u64_andNot (a b : Nat) : IntKind.u64.wrap (bAndNot 64 (a : Int) (b : Int)) = ((nAndNot a b : Nat) : Int) := by
 have h := nAndNot_lt a b
 unfold bAndNot
 rw [BitVec.ofInt_natCast,BitVec.ofInt_natCast,wrap_u64]
 ·rfl
 ·exact ⟨by omega,by unfold nAndNot at h; omega⟩
theorem tdiv_nat (p : Nat) : ((p : Int).tdiv 64) = ((p / 64 : Nat) : Int) := by
 rw [Int.tdiv_eq_ediv_of_nonneg (by omega)]; omega
theorem tmod_nat (p : Nat) : ((p : Int).tmod 64) = ((p % 64 : Nat) : Int) := by
 rw [Int.tmod_eq_emod_of_nonneg (by omega)]; omega
theorem shl_one {q : Nat} (hq : q < 64) {inst : Decidable (((q : Nat) : Int).toNat ≤ 64)} : IntKind.u64.wrap (1 * 2 ^ (@ite Nat (((q : Nat) : Int).toNat ≤ 64) inst ((q : Nat) : Int).toNat 64)) = ((2 ^ q : Nat) : Int) := by
 have h : 2 ^ q < 18446744073709551616 := Nat.pow_lt_pow_right (n := 64) (a := 2) (by decide) hq
 have e : ((2 : Int) ^ q) = ((2 ^ q : Nat) : Int) := by push_cast; rfl
 rw [if_pos (by omega),Int.toNat_natCast,Int.one_mul,e]
 generalize 2 ^ q = x at *
 rw [wrap_u64 (by omega)]
theorem binOp_shl1 {q : Nat} (hq : q < 64) : TM.binOp .shl (.iv (.int .u64 1)) (.iv (.int .i64 ((q : Nat) : Int))) = some (.int .u64 ((2 ^ q : Nat) : Int)) := by
 rw [TM.binOp_shl,if_neg (by omega)]
 have := shl_one hq (inst := Nat.decLe _ _)
 show some (IV.int .u64 (IntKind.u64.wrap (1 * 2 ^ (if ((q : Nat) : Int).toNat ≤ 64 then ((q : Nat) : Int).toNat else 64)))) = _
 rw [this]
theorem two_bit {q i : Nat} : (2 ^ q).testBit i = decide (q = i) := Nat.testBit_two_pow
theorem two_lt {q : Nat} (h : q < 64) : 2 ^ q < 18446744073709551616 := Nat.pow_lt_pow_right (n := 64) (a := 2) (by decide) h
theorem or_lt64 {a b : Nat} (ha : a < 18446744073709551616) (hb : b < 18446744073709551616) : a ||| b < 18446744073709551616 := Nat.or_lt_two_pow (n := 64) ha hb
theorem mkV_u {bytes m n : Nat} (hr : roomy n bytes = true) : mkV [.int .u64 0] bytes m (.iv (.int .i64 n)) (.iv (.int .i64 n)) = some (.msl m 0 0 n n 1,.cells 0 false ((List.replicate n 0).map uI)) := by
 have hf : flat (List.replicate n ([IV.int .u64 0].map TV.iv)) = (List.replicate n 0).map uI := by
  rw [flat_rep]
  simp [cellsF,uI]
 have := mkV_int [.int .u64 0] bytes m .i64 .i64 n n ⟨by omega,by omega,by rw [Int.toNat_natCast]; exact hr⟩
 rw [Int.toNat_natCast,hf] at this
 exact this
theorem bit_put {W : List Nat} {p r : Nat} (h : p / 64 < W.length) : bit (W.set (p / 64) (W.getD (p / 64) 0 ||| 2 ^ (p % 64))) r = (bit W r || decide (r = p)) := by
 unfold bit
 rw [getD_set h]
 by_cases e : r / 64 = p / 64
 ·rw [if_pos e,Nat.testBit_or,two_bit,e]
  congr 1
  have : (p % 64 = r % 64) ↔ r = p := by omega
  simp only [this]
 ·rw [if_neg e]
  have : ¬ r = p := by rintro rfl; exact e rfl
  simp [this]
theorem loop36 {j m regs : Nat} (hregs : regs ≤ 1000000) (hm : (regs + 63) / 64 = m) (t : Tag) (l : List Int) (hl : l.length ≤ 2000000) (hpos : ∀ x ∈ l,0 ≤ x) (x2 : TV) : ∀ (k i : Nat) (W : List Nat) (S : Store) (x4 x8 x9 : TV),i + k = l.length → WOK m W → S[j]? = some (.cells 0 false (W.map uI)) →
  ∃ (W' : List Nat) (y4 y8 y9 : TV),lp' (lim K) t36L0 [.iv (.int .i64 regs),.iv (.sl t (TM.one (.int .i64) l)),x2,.msl j 0 0 m m 1,x4,.iv (.sl t (TM.one (.int .i64) l)),.iv (.int .i64 l.length),.iv (.int .i64 i),x8,x9] S
   = .ret (.exit 0,[.iv (.int .i64 regs),.iv (.sl t (TM.one (.int .i64) l)),x2,.msl j 0 0 m m 1,y4,.iv (.sl t (TM.one (.int .i64) l)),.iv (.int .i64 l.length),.iv (.int .i64 l.length),y8,y9],S.set j (.cells 0 false (W'.map uI))) ∧
   WOK m W' ∧ ∀ r : Nat,bit W' r = true ↔ bit W r = true ∨ ((r : Int) ∈ l.drop i ∧ r < regs)
 | 0,i,W,S,x4,x8,x9,hk,hW,h => by
  obtain rfl : i = l.length := by omega
  refine ⟨W,x4,.iv (.bool false),x9,loop_at K _ _ t36L0.eq_1 ?_,hW,fun r => by simp⟩
  rw [set_row h]
  simp (config := { maxSteps := 4000000 }) (disch := omega) only [go_sem]
 | k + 1,i,W,S,x4,x8,x9,hk,hW,h => by
  have hla : i < l.length := by omega
  have hix := ix_one (f := IV.int .i64) (t := t) (l := l) (i := (i : Int)) (by omega)
  rw [Int.toNat_natCast] at hix
  have hdr := drop_get hla
  have hx0 : 0 ≤ l.getD i default := hpos _ (by simp only [List.getD,List.getElem?_eq_getElem hla,Option.getD_some]; exact List.getElem_mem _)
  obtain ⟨p,hp⟩ := Int.eq_ofNat_of_zero_le hx0
  rw [hp] at hix hdr
  by_cases hpr : p < regs
  ·have hpm : p / 64 < m := by omega
   have hpl : p / 64 < W.length := by rw [hW.len]; exact hpm
   have i1 := ix_RW (j := j) (v := 0) (cap := m) hpm
   have s1 := sub_UW hpl
   have hq : p % 64 < 64 := Nat.mod_lt _ (by decide)
   have hor := or_lt64 (hW.get (p / 64)) (two_lt hq)
   have e1 := tdiv_nat p
   have e2 := tmod_nat p
   have e3 := binOp_shl1 hq
   have e4 := u64_or (hW.get (p / 64)) (two_lt hq)
   have p1 := put_UW (W.getD (p / 64) 0 ||| 2 ^ (p % 64)) hpl
   have hlt := lt_get h
   obtain ⟨W',y4,y8,y9,ih,hW',hb⟩ := loop36 hregs hm t l hl hpos x2 k (i + 1) _ (S.set j (.cells 0 false ((W.set (p / 64) (W.getD (p / 64) 0 ||| 2 ^ (p % 64))).map uI))) (.iv (.int .i64 p)) (.iv (.bool true)) (.iv (.bool true)) (by omega) (hW.set (p / 64) _ hor) (get_setS hlt _)
   rw [show ((i + 1 : Nat) : Int) = (i : Int) + 1 by omega,List.set_set] at ih
   have hbb : p / 64 + 1 ≤ (W.map uI).length := by rw [List.length_map]; omega
   have h' := h
   simp only [uI] at s1 p1 h' hbb
   refine ⟨W',y4,y8,y9,loop_at K _ _ t36L0.eq_1 ?_,hW',fun r => ?_⟩
   ·generalize hA : W.getD (p / 64) 0 = A at *
    generalize hB : (2 ^ (p % 64) : Nat) = B at *
    generalize hC : A ||| B = C at *
    simp (config := { maxSteps := 4000000 }) (disch := omega) only [go_sem,hix,TM.one_length,i1,h',s1,e1,e2,e3,e4,p1,hbb,wrap_i64]
    exact congrArg er ih
   ·rw [hb r,bit_put hpl,hdr,List.mem_cons,Bool.or_eq_true,decide_eq_true_eq]
    constructor
    ·rintro ((h1 | rfl) | ⟨h1,h2⟩)
     ·exact .inl h1
     ·exact .inr ⟨.inl rfl,hpr⟩
     ·exact .inr ⟨.inr h1,h2⟩
    ·rintro (h1 | ⟨h1 | h1,h2⟩)
     ·exact .inl (.inl h1)
     ·exact .inl (.inr (by omega))
     ·exact .inr ⟨h1,h2⟩
  ·obtain ⟨W',y4,y8,y9,ih,hW',hb⟩ := loop36 hregs hm t l hl hpos x2 k (i + 1) W S (.iv (.int .i64 p)) (.iv (.bool true)) (.iv (.bool false)) (by omega) hW h
   rw [show ((i + 1 : Nat) : Int) = (i : Int) + 1 by omega] at ih
   refine ⟨W',y4,y8,y9,loop_at K _ _ t36L0.eq_1 ?_,hW',fun r => ?_⟩
   ·simp (config := { maxSteps := 4000000 }) (disch := omega) only [go_sem,hix,TM.one_length,wrap_i64]
    exact congrArg er ih
   ·rw [hb r,hdr,List.mem_cons]
    constructor
    ·rintro (h1 | ⟨h1,h2⟩)
     ·exact .inl h1
     ·exact .inr ⟨.inr h1,h2⟩
    ·rintro (h1 | ⟨h1 | h1,h2⟩)
     ·exact .inl h1
     ·omega
     ·exact .inr ⟨h1,h2⟩
theorem call36 {regs : Nat} (hregs : regs ≤ 1000000) (t : Tag) (l : List Int) (hl : l.length ≤ 2000000) (hpos : ∀ x ∈ l,0 ≤ x) (S : Store) :
  ∃ W : List Nat,(lim K).call 36 [.iv (.int .i64 regs),.iv (.sl t (TM.one (.int .i64) l))] S = .ret (.msl S.length 0 0 ((regs + 63) / 64) ((regs + 63) / 64) 1,S ++ [.cells 0 false (W.map uI)]) ∧
   WOK ((regs + 63) / 64) W ∧ ∀ r : Nat,bit W r = true ↔ (r : Int) ∈ l ∧ r < regs := by
 generalize hm : (regs + 63) / 64 = m
 have h0 : (S ++ [.cells 0 false ((List.replicate m 0).map uI)])[S.length]? = some (.cells 0 false ((List.replicate m 0).map uI)) := by simp
 obtain ⟨W,y4,y8,y9,l1,hW,hb⟩ := loop36 hregs hm t l hl hpos (.iv (.sl .nil [])) l.length 0 (List.replicate m 0) _ (.tup []) (.tup []) (.tup []) (by omega) (WOK.zero m) h0
 rw [show ((0 : Nat) : Int) = 0 from rfl,List.set_append_right _ _ (Nat.le_refl _),Nat.sub_self,List.set_cons_zero] at l1
 have e1 := tdiv_nat (regs + 63)
 rw [hm,show ((regs + 63 : Nat) : Int) = (regs : Int) + 64 - 1 by omega] at e1
 have hmk := mkV_u (bytes := 8) (m := S.length) (n := m) (roomy_ok (by omega))
 refine ⟨W,call_ret' K _ (fn := t36) rfl rfl ?_,hW,fun r => ?_⟩
 ·simp (config := { maxSteps := 4000000 }) (disch := omega) only [t36,go_sem,TM.undef,wrap_i64,e1,TM.one_length,hmk]
  rw [l1]
  simp (config := { maxSteps := 4000000 }) (disch := omega) only [go_sem]
 ·rw [hb r,bit_zero,List.drop_zero]
  simp
theorem two_odd : ∀ x : Nat,x ≠ 0 → ∃ k y,x = 2 ^ k * (2 * y + 1) := by
 intro x
 induction x using Nat.strongRecOn with
 | ind x ih =>
  intro h
  by_cases e : x % 2 = 1
  ·exact ⟨0,x / 2,by rw [Nat.pow_zero,Nat.one_mul]; omega⟩
  ·obtain ⟨k,y,h1⟩ := ih (x / 2) (by omega) (by omega)
   refine ⟨k + 1,y,?_⟩
   rw [Nat.pow_succ]
   have : x = 2 * (x / 2) := by omega
   rw [this,h1]
   rw [show 2 ^ k * 2 * (2 * y + 1) = 2 * (2 ^ k * (2 * y + 1)) by rw [Nat.mul_comm (2 ^ k) 2,Nat.mul_assoc]]
theorem tb_odd (y j : Nat) : (2 * y + 1).testBit j = if j = 0 then true else y.testBit (j - 1) := by
 cases j with
 | zero => rw [if_pos rfl,Nat.testBit_zero]; simp
 | succ j => rw [if_neg (by omega),Nat.testBit_succ,show (2 * y + 1) / 2 = y by omega]; rfl
theorem tb_even (y j : Nat) : (2 * y).testBit j = if j = 0 then false else y.testBit (j - 1) := by
 cases j with
 | zero => rw [if_pos rfl,Nat.testBit_zero]; simp
 | succ j => rw [if_neg (by omega),Nat.testBit_succ,show (2 * y) / 2 = y by omega]; rfl
theorem tb_x (k y j : Nat) : (2 ^ k * (2 * y + 1)).testBit j = if j < k then false else if j = k then true else y.testBit (j - k - 1) := by
 have h := Nat.testBit_two_pow_mul_add (2 * y + 1) (b := 0) (i := k) (Nat.two_pow_pos k) j
 rw [Nat.add_zero] at h
 rw [h]
 by_cases e : j < k
 ·rw [if_pos e,if_pos e]; exact Nat.zero_testBit _
 ·rw [if_neg e,if_neg e,tb_odd]
  by_cases e2 : j = k
  ·rw [if_pos (by omega),if_pos e2]
  ·rw [if_neg (by omega),if_neg e2]
theorem tb_x1 (k y j : Nat) : (2 ^ k * (2 * y + 1) - 1).testBit j = if j < k then true else if j = k then false else y.testBit (j - k - 1) := by
 have hp := Nat.two_pow_pos k
 have e : 2 ^ k * (2 * y + 1) - 1 = 2 ^ k * (2 * y) + (2 ^ k - 1) := by
  rw [Nat.mul_add,Nat.mul_one]; omega
 have h := Nat.testBit_two_pow_mul_add (2 * y) (b := 2 ^ k - 1) (i := k) (by omega) j
 rw [e,h]
 by_cases e : j < k
 ·rw [if_pos e,if_pos e,Nat.testBit_two_pow_sub_one]; simp [e]
 ·rw [if_neg e,if_neg e,tb_even]
  by_cases e2 : j = k
  ·rw [if_pos (by omega),if_pos e2]
  ·rw [if_neg (by omega),if_neg e2]
theorem low_and (k y : Nat) (hx : 2 ^ k * (2 * y + 1) < 2 ^ 64) : (2 ^ k * (2 * y + 1)) &&& (2 ^ 64 - 2 ^ k * (2 * y + 1)) = 2 ^ k := by
 have hp := Nat.two_pow_pos k
 have hx0 : 0 < 2 ^ k * (2 * y + 1) := Nat.mul_pos hp (by omega)
 apply Nat.eq_of_testBit_eq
 intro j
 have h2 := Nat.testBit_two_pow_sub_succ (x := 2 ^ k * (2 * y + 1) - 1) (n := 64) (by omega) j
 rw [show 2 ^ k * (2 * y + 1) - 1 + 1 = 2 ^ k * (2 * y + 1) by omega] at h2
 have hk : k < 64 := by
  rcases Nat.lt_or_ge k 64 with h | h
  ·exact h
  ·have h1 := Nat.pow_le_pow_right (n := 2) (by decide) h
   have h3 : 2 ^ k * 1 ≤ 2 ^ k * (2 * y + 1) := Nat.mul_le_mul_left _ (by omega)
   omega
 rw [Nat.testBit_and,h2,tb_x,tb_x1,Nat.testBit_two_pow]
 by_cases e : j < k
 ·rw [if_pos e,Bool.false_and]
  exact (decide_eq_false (by omega)).symm
 ·rw [if_neg e,if_neg e]
  by_cases e2 : j = k
  ·subst e2; simp [hk]
  ·rw [if_neg e2,if_neg e2,decide_eq_false (show ¬ k = j by omega)]
   cases y.testBit (j - k - 1) <;> simp
theorem low_lt {k y : Nat} (hx : 2 ^ k * (2 * y + 1) < 18446744073709551616) : k < 64 := by
 rcases Nat.lt_or_ge k 64 with h | h
 ·exact h
 ·have h1 := Nat.pow_le_pow_right (n := 2) (by decide) h
  have h3 : 2 ^ k * 1 ≤ 2 ^ k * (2 * y + 1) := Nat.mul_le_mul_left _ (by omega)
  omega
theorem rest_bit (k y j : Nat) : ((2 ^ k * (2 * y + 1)) &&& (2 ^ k * (2 * y + 1) - 1)).testBit j = (decide (k < j) && (2 ^ k * (2 * y + 1)).testBit j) := by
 rw [Nat.testBit_and,tb_x,tb_x1]
 by_cases e : j < k
 ·rw [if_pos e,if_pos e]; simp
 ·rw [if_neg e,if_neg e]
  by_cases e2 : j = k
  ·subst e2; simp
  ·rw [if_neg e2,if_neg e2,decide_eq_true (show k < j by omega)]; simp
theorem loop50 {a b m : Nat} {W V : List Nat} {S : Store} (hm : m ≤ 1000000) (hW : S[a]? = some (.cells 0 false (W.map uI))) (hV : S[b]? = some (.cells 0 false (V.map uI))) (hWl : W.length = m) (hVl : V.length = m) (x2 x4 : TV) : ∀ (k i : Nat) (x3 x7 x8 : TV),i + k = m → (∀ q,q < i → W.getD q 0 = V.getD q 0) →
  ∃ (jj : Jump) (y2 y3 y6 y7 y8 : TV),lp' (lim K) t50L0 [.msl a 0 0 m m 1,.msl b 0 0 m m 1,x2,x3,x4,.iv (.int .i64 m),.iv (.int .i64 i),x7,x8] S
   = .ret (jj,[.msl a 0 0 m m 1,.msl b 0 0 m m 1,y2,y3,x4,.iv (.int .i64 m),y6,y7,y8],S) ∧
   (jj = .exit 0 ∧ (∀ q,q < m → W.getD q 0 = V.getD q 0) ∨ jj = .ret ∧ y2 = .iv (.bool false) ∧ W ≠ V)
 | 0,i,x3,x7,x8,hk,hq => by
  obtain rfl : i = m := by omega
  refine ⟨.exit 0,x2,x3,.iv (.int .i64 i),.iv (.bool false),x8,loop_at K _ _ t50L0.eq_1 ?_,.inl ⟨rfl,hq⟩⟩
  simp (config := { maxSteps := 4000000 }) (disch := omega) only [go_sem]
 | k + 1,i,x3,x7,x8,hk,hq => by
  have him : i < m := by omega
  have i1 := ix_RW (j := a) (v := 0) (cap := m) him
  have i2 := ix_RW (j := b) (v := 0) (cap := m) him
  have s1 := sub_UW (W := W) (i := i) (by omega)
  have s2 := sub_UW (W := V) (i := i) (by omega)
  have hW' := hW
  have hV' := hV
  simp only [uI] at s1 s2 hW' hV'
  by_cases e : W.getD i 0 = V.getD i 0
  ·obtain ⟨jj,y2,y3,y6,y7,y8,ih,hj⟩ := loop50 hm hW hV hWl hVl x2 x4 k (i + 1) (.iv (.int .i64 i)) (.iv (.bool true)) (.iv (.bool false)) (by omega) (fun q h1 => by
    rcases Nat.lt_or_ge q i with h2 | h2
    ·exact hq q h2
    ·obtain rfl : q = i := by omega
     exact e)
   rw [show ((i + 1 : Nat) : Int) = (i : Int) + 1 by omega] at ih
   refine ⟨jj,y2,y3,y6,y7,y8,loop_at K _ _ t50L0.eq_1 ?_,hj⟩
   rw [e] at s1
   simp (config := { maxSteps := 4000000 }) (disch := omega) only [go_sem,i1,i2,hW',hV',s1,s2,wrap_i64]
   exact congrArg er ih
  ·refine ⟨.ret,.iv (.bool false),.iv (.int .i64 i),.iv (.int .i64 i),.iv (.bool true),.iv (.bool true),loop_at K _ _ t50L0.eq_1 ?_,.inr ⟨rfl,rfl,fun h => e (by rw [h])⟩⟩
   have e' : ¬ ((W.getD i 0 : Nat) : Int) = ((V.getD i 0 : Nat) : Int) := by omega
   simp (config := { maxSteps := 4000000 }) (disch := omega) only [go_sem,i1,i2,hW',hV',s1,s2,e']
theorem call50 {a b m : Nat} {W V : List Nat} {S : Store} (hm : m ≤ 1000000) (hW : S[a]? = some (.cells 0 false (W.map uI))) (hV : S[b]? = some (.cells 0 false (V.map uI))) (hWl : W.length = m) (hVl : V.length = m) :
  (lim K).call 50 [.msl a 0 0 m m 1,.msl b 0 0 m m 1] S = .ret (.iv (.bool (decide (W = V))),S) := by
 obtain ⟨jj,y2,y3,y6,y7,y8,l1,hj⟩ := loop50 hm hW hV hWl hVl (.iv (.bool false)) (.iv (.bool false)) m 0 (.tup []) (.tup []) (.tup []) (by omega) (fun q h => by omega)
 rw [show ((0 : Nat) : Int) = 0 from rfl] at l1
 rcases hj with ⟨rfl,hj⟩ | ⟨rfl,rfl,hj⟩
 ·have e : W = V := by
   apply List.ext_getElem (by omega)
   intro q h1 h2
   have := hj q (by omega)
   simpa [List.getD,List.getElem?_eq_getElem h1,List.getElem?_eq_getElem h2] using this
  rw [decide_eq_true e]
  refine call_ret' K _ (fn := t50) rfl rfl ?_
  simp (config := { maxSteps := 4000000 }) (disch := omega) only [t50,go_sem,TM.undef]
  rw [l1]
  simp (config := { maxSteps := 4000000 }) (disch := omega) only [go_sem]
 ·rw [decide_eq_false hj]
  refine call_ret' K _ (fn := t50) rfl rfl ?_
  simp (config := { maxSteps := 4000000 }) (disch := omega) only [t50,go_sem,TM.undef]
  rw [l1]
  simp (config := { maxSteps := 4000000 }) (disch := omega) only [go_sem]
def dbm (k : Nat) : Nat := (2 ^ k * 285870213051353865) % 18446744073709551616
def dtab : List Nat := [0,1,56,2,57,49,28,3,61,58,42,50,38,29,17,4,62,47,59,36,45,43,51,22,53,39,33,30,24,18,12,5,63,55,48,27,60,41,37,16,46,35,44,21,52,32,23,11,54,26,40,15,34,20,31,10,25,14,19,9,13,8,7,6]
theorem g0_eq : g0 = dtab.map fun n : Nat => IV.int .u8 (n : Int) := rfl
theorem dbm_tab (k : Nat) (hk : k < 64) : dbm k / 288230376151711744 < 64 ∧ g0[dbm k / 288230376151711744]? = some (.int .u8 (k : Int)) := by
 have key : ∀ k < 64,dbm k / 288230376151711744 < 64 ∧ dtab[dbm k / 288230376151711744]? = some k := by decide +kernel
 obtain ⟨h1,h2⟩ := key k hk
 refine ⟨h1,?_⟩
 rw [g0_eq,List.getElem?_map,h2]; rfl
theorem gl0 {i k : Nat} (hi : i < 64) (h : g0[i]? = some (.int .u8 (k : Int))) : ∃ p,ixA 64 1 (globV (K.glob 0)) (.iv (.int .u64 (i : Int))) = some p ∧ ∀ env S,getCells env S p 1 = some [.iv (.int .u8 (k : Int))] := by
 have hl : g0.length = 64 := rfl
 have hk' : i < g0.length := by omega
 refine ⟨.iv (.cp (g0.drop i)),?_,fun env S => ?_⟩
 ·rw [ixA_int,if_pos (by omega),Int.toNat_natCast,Nat.mul_one]
  show (if i ≤ g0.length then some (TV.iv (.cp (g0.drop i))) else none) = _
  rw [if_pos (by omega)]
 ·rw [getCells_cp]
  unfold sub
  rw [if_pos (by rw [List.length_drop]; omega),List.drop_zero,List.drop_eq_getElem_cons hk']
  rw [List.getElem?_eq_getElem hk'] at h
  rw [Option.some.inj h]
  rfl
theorem call51 {k y : Nat} (hx : 2 ^ k * (2 * y + 1) < 18446744073709551616) : TM.Pure K 51 [.iv (.int .u64 ((2 ^ k * (2 * y + 1) : Nat) : Int))] (.iv (.int .i64 (k : Int))) := by
 have hk := low_lt hx
 have hand := low_and k y hx
 have hp := Nat.two_pow_pos k
 have hx0 : 0 < 2 ^ k * (2 * y + 1) := Nat.mul_pos hp (by omega)
 obtain ⟨d1,d2⟩ := dbm_tab k hk
 obtain ⟨p,f5,f6⟩ := gl0 d1 d2
 have hd : dbm k < 18446744073709551616 := Nat.mod_lt _ (by decide)
 have f3 : TM.binOp .mul (.iv (.int .u64 ((2 ^ k : Nat) : Int))) (.iv (.int .u64 285870213051353865)) = some (.int .u64 ((dbm k : Nat) : Int)) := by
  rw [TM.binOp_mul]
  congr 2
 generalize dbm k = D at *
 generalize hX : 2 ^ k * (2 * y + 1) = X at *
 generalize (2 ^ k : Nat) = Z at *
 have f1 : TM.unOp .neg (.iv (.int .u64 (X : Int))) = some (.int .u64 ((2 ^ 64 - X : Nat) : Int)) := by
  rw [unOp_neg]
  congr 2
  show (0 - (X : Int)) % 18446744073709551616 = _
  omega
 have f2 : TM.binOp .and (.iv (.int .u64 (X : Int))) (.iv (.int .u64 ((2 ^ 64 - X : Nat) : Int))) = some (.int .u64 ((Z : Nat) : Int)) := by
  rw [TM.binOp_and]
  congr 2
  have hZ : Z < 18446744073709551616 := by rw [← hand]; exact Nat.lt_of_le_of_lt Nat.and_le_left hx
  show IntKind.u64.wrap ((((BitVec.ofInt 64 (X : Int)) &&& (BitVec.ofInt 64 ((2 ^ 64 - X : Nat) : Int))).toNat : Nat) : Int) = _
  rw [BitVec.toNat_and,ofInt_toNat ⟨by omega,by norm_cast⟩,ofInt_toNat ⟨by omega,by omega⟩,Int.toNat_natCast,Int.toNat_natCast,hand,wrap_u64 (by omega)]
 have f4 : TM.binOp .shr (.iv (.int .u64 ((D : Nat) : Int))) (.iv (.int .u64 58)) = some (.int .u64 ((D / 288230376151711744 : Nat) : Int)) := by
  rw [TM.binOp_shr,if_neg (by decide)]
  congr 2
  show ((D : Nat) : Int).fdiv 288230376151711744 = _
  rw [Int.fdiv_eq_ediv_of_nonneg _ (by decide)]
  omega
 refine call_pure t51 rfl rfl ?_
 have hne : ¬ ((X : Nat) : Int) = 0 := by omega
 simp (config := { maxSteps := 4000000 }) (disch := omega) only [t51,go_sem,TM.undef,hne,f1,f2,f3,f4,f5,f6,wrap_i64]
def uV (n : Nat) : IV := .int .u64 (n : Int)
def bitsI (x : Nat) : List Int := ((List.range 64).filter x.testBit).map fun n : Nat => (n : Int)
theorem bitsI_mem (x : Nat) (v : Int) : v ∈ bitsI x ↔ ∃ n : Nat,v = n ∧ n < 64 ∧ x.testBit n = true := by
 simp only [bitsI,List.mem_map,List.mem_filter,List.mem_range]
 constructor
 ·rintro ⟨n,⟨h1,h2⟩,rfl⟩; exact ⟨n,rfl,h1,h2⟩
 ·rintro ⟨n,rfl,h1,h2⟩; exact ⟨n,⟨h1,h2⟩,rfl⟩
theorem bitsI_pair (x : Nat) : (bitsI x).Pairwise (· < ·) := by
 refine List.Pairwise.map _ (R := (· < ·)) (fun a b h => by omega) (List.Pairwise.filter _ List.pairwise_lt_range)
theorem bitsI_zero : bitsI 0 = [] := by
 unfold bitsI
 rw [List.filter_eq_nil_iff.2]
 ·rfl
 ·intro a _; simp
theorem bitsI_low {k y : Nat} (hx : 2 ^ k * (2 * y + 1) < 18446744073709551616) : bitsI (2 ^ k * (2 * y + 1)) = (k : Int) :: bitsI ((2 ^ k * (2 * y + 1)) &&& (2 ^ k * (2 * y + 1) - 1)) := by
 have hk := low_lt hx
 refine rise_unique (bitsI_pair _) ?_ fun v => ?_
 ·rw [List.pairwise_cons]
  refine ⟨fun a ha => ?_,bitsI_pair _⟩
  obtain ⟨n,rfl,h1,h2⟩ := (bitsI_mem _ _).1 ha
  rw [rest_bit] at h2
  simp only [Bool.and_eq_true,decide_eq_true_eq] at h2
  omega
 ·rw [List.mem_cons,bitsI_mem,bitsI_mem]
  constructor
  ·rintro ⟨n,rfl,h1,h2⟩
   rcases Nat.lt_trichotomy n k with h | h | h
   ·rw [tb_x,if_pos h] at h2; cases h2
   ·exact .inl (by omega)
   ·refine .inr ⟨n,rfl,h1,?_⟩
    rw [rest_bit,h2,decide_eq_true h]; rfl
  ·rintro (rfl | ⟨n,rfl,h1,h2⟩)
   ·exact ⟨k,rfl,hk,by rw [tb_x,if_neg (by omega),if_pos rfl]⟩
   ·rw [rest_bit] at h2
    simp only [Bool.and_eq_true] at h2
    exact ⟨n,rfl,h1,h2.2⟩
theorem loop38a {k : Nat} (hk : k ≤ 100000) (x0 x4 x5 x6 x7 : TV) : ∀ (n x : Nat) (out : List Int) (x8 : TV),x ≤ n → x < 18446744073709551616 → out.length + (bitsI x).length ≤ 7000000 →
  ∃ y8 : TV,lp' (lim K) t38L0 [x0,acc 0 (oneI out),.iv (.int .i64 k),.iv (.int .u64 x),x4,x5,x6,x7,x8] (accS 1 3 (oneI out))
   = .ret (.exit 2,[x0,acc 0 (oneI (out ++ (bitsI x).map fun v => 64 * (k : Int) + v)),.iv (.int .i64 k),.iv (.int .u64 0),x4,x5,x6,x7,y8],accS 1 3 (oneI (out ++ (bitsI x).map fun v => 64 * (k : Int) + v)))
 | n,x,out,x8,hn,hx,ho => by
  by_cases h0 : x = 0
  ·subst h0
   rw [bitsI_zero,List.map_nil,List.append_nil]
   refine ⟨.iv (.bool false),loop_at K _ _ t38L0.eq_1 ?_⟩
   simp (config := { maxSteps := 4000000 }) (disch := omega) only [go_sem,Int.natCast_zero]
  ·obtain ⟨q,y,e⟩ := two_odd x h0
   have hb := bitsI_low (k := q) (y := y) (by rw [← e]; exact hx)
   have c51 := call51 (k := q) (y := y) (by rw [← e]; exact hx)
   have hq := low_lt (k := q) (y := y) (by rw [← e]; exact hx)
   rw [← e] at hb c51
   have hlt : x &&& (x - 1) ≤ x - 1 := Nat.and_le_right
   match n,hn with
   | 0,hn => omega
   | n + 1,hn =>
    have hbl : (bitsI x).length = (bitsI (x &&& (x - 1))).length + 1 := by rw [hb,List.length_cons]
    obtain ⟨y8,ih⟩ := loop38a hk x0 x4 x5 x6 x7 n (x &&& (x - 1)) (out ++ [64 * (k : Int) + q]) (.iv (.bool true)) (by omega) (by omega) (by rw [List.length_append,List.length_singleton]; omega)
    have ha := ap_accI (l := out) (ys := [64 * (k : Int) + q]) (t := .full) (by simp; omega)
    rw [show oneI [64 * (k : Int) + q] = [[.int .i64 (64 * (k : Int) + q)]] from rfl] at ha
    have f1 : TM.binOp .sub (.iv (.int .u64 (x : Int))) (.iv (.int .u64 1)) = some (.int .u64 ((x - 1 : Nat) : Int)) := by
     rw [TM.binOp_sub]
     congr 2
     rw [wrap_u64 (by omega)]; omega
    have f2 : TM.binOp .and (.iv (.int .u64 (x : Int))) (.iv (.int .u64 ((x - 1 : Nat) : Int))) = some (.int .u64 ((x &&& (x - 1) : Nat) : Int)) := by
     rw [TM.binOp_and]
     congr 2
     show IntKind.u64.wrap ((((BitVec.ofInt 64 (x : Int)) &&& (BitVec.ofInt 64 ((x - 1 : Nat) : Int))).toNat : Nat) : Int) = _
     rw [BitVec.toNat_and,ofInt_toNat ⟨by omega,by omega⟩,ofInt_toNat ⟨by omega,by omega⟩,Int.toNat_natCast,Int.toNat_natCast,wrap_u64 (by omega)]
    rw [hb,List.map_cons]
    rw [List.append_assoc,List.singleton_append] at ih
    refine ⟨y8,loop_at K _ _ t38L0.eq_1 ?_⟩
    have hne : ¬ (x : Int) = 0 := by omega
    generalize hO : (out ++ ((64 * (k : Int) + q) :: (bitsI (x &&& (x - 1))).map fun v : Int => 64 * (k : Int) + v)) = O at *
    generalize hP : out ++ [64 * (k : Int) + q] = P at *
    simp (config := { maxSteps := 4000000 }) (disch := omega) only [go_sem,hne,cpR_pure c51,wrap_i64,ha,f1,f2]
    exact congrArg er ih
def wlI : Nat → List Nat → List Int
 | _,[] => []
 | k,x :: r => (bitsI x).map (fun v : Int => 64 * (k : Int) + v) ++ wlI (k + 1) r
theorem bitsI_len (x : Nat) : (bitsI x).length ≤ 64 := by
 unfold bitsI
 rw [List.length_map]
 exact Nat.le_trans (List.length_filter_le _ _) (by simp)
theorem wlI_len : ∀ (k : Nat) (W : List Nat),(wlI k W).length ≤ 64 * W.length
 | _,[] => by simp [wlI]
 | k,x :: r => by
  have h1 := wlI_len (k + 1) r
  have h2 := bitsI_len x
  rw [wlI,List.length_append,List.length_map,List.length_cons]; omega
theorem wlI_mem : ∀ (k : Nat) (W : List Nat) (v : Int),v ∈ wlI k W ↔ ∃ (i n : Nat),v = 64 * ((k + i : Nat) : Int) + n ∧ n < 64 ∧ (W.getD i 0).testBit n = true
 | k,[],v => by simp [wlI,List.getD]
 | k,x :: r,v => by
  rw [wlI,List.mem_append,wlI_mem (k + 1) r v,List.mem_map]
  constructor
  ·rintro (⟨b,hb,rfl⟩ | ⟨i,n,rfl,h1,h2⟩)
   ·obtain ⟨n,rfl,h1,h2⟩ := (bitsI_mem _ _).1 hb
    exact ⟨0,n,by simp,h1,by simpa [List.getD] using h2⟩
   ·exact ⟨i + 1,n,by omega,h1,by simpa [List.getD] using h2⟩
  ·rintro ⟨i,n,rfl,h1,h2⟩
   cases i with
   | zero => exact .inl ⟨n,(bitsI_mem _ _).2 ⟨n,rfl,h1,by simpa [List.getD] using h2⟩,by simp⟩
   | succ i => exact .inr ⟨i,n,by omega,h1,by simpa [List.getD] using h2⟩
theorem wlI_pair : ∀ (k : Nat) (W : List Nat),(wlI k W).Pairwise (· < ·)
 | _,[] => by simp [wlI]
 | k,x :: r => by
  rw [wlI,List.pairwise_append]
  refine ⟨List.Pairwise.map _ (fun a b h => by omega) (bitsI_pair x),wlI_pair (k + 1) r,fun a ha b hb => ?_⟩
  obtain ⟨c,hc,rfl⟩ := List.mem_map.1 ha
  obtain ⟨n,rfl,h1,h2⟩ := (bitsI_mem _ _).1 hc
  obtain ⟨i,m,rfl,h3,h4⟩ := (wlI_mem _ _ _).1 hb
  omega
theorem wl_mem (W : List Nat) (v : Int) : v ∈ wlI 0 W ↔ ∃ n : Nat,v = n ∧ bit W n = true := by
 rw [wlI_mem]
 constructor
 ·rintro ⟨i,n,rfl,h1,h2⟩
  refine ⟨64 * i + n,by omega,?_⟩
  unfold bit
  rw [show (64 * i + n) / 64 = i by omega,show (64 * i + n) % 64 = n by omega]
  exact h2
 ·rintro ⟨n,rfl,h⟩
  exact ⟨n / 64,n % 64,by omega,Nat.mod_lt _ (by decide),h⟩
theorem loop38b (t : Tag) (W : List Nat) (hW : ∀ x ∈ W,x < 18446744073709551616) (hl : W.length ≤ 100000) : ∀ (k i : Nat) (out : List Int) (x2 x3 x7 x8 : TV),i + k = W.length → out.length ≤ 64 * i →
  ∃ (y2 y3 y7 y8 : TV),lp' (lim K) t38L1 [.iv (.sl t (TM.one uV W)),acc 0 (oneI out),x2,x3,.iv (.sl t (TM.one uV W)),.iv (.int .i64 W.length),.iv (.int .i64 i),x7,x8] (accS 1 3 (oneI out))
   = .ret (.exit 0,[.iv (.sl t (TM.one uV W)),acc 0 (oneI (out ++ wlI i (W.drop i))),y2,y3,.iv (.sl t (TM.one uV W)),.iv (.int .i64 W.length),.iv (.int .i64 W.length),y7,y8],accS 1 3 (oneI (out ++ wlI i (W.drop i))))
 | 0,i,out,x2,x3,x7,x8,hk,ho => by
  obtain rfl : i = W.length := by omega
  rw [List.drop_length,wlI,List.append_nil]
  refine ⟨x2,x3,.iv (.bool false),x8,loop_at K _ _ t38L1.eq_1 ?_⟩
  simp (config := { maxSteps := 4000000 }) (disch := omega) only [go_sem]
 | k + 1,i,out,x2,x3,x7,x8,hk,ho => by
  have hla : i < W.length := by omega
  have hix := ix_one (f := uV) (t := t) (l := W) (i := (i : Int)) (by omega)
  rw [Int.toNat_natCast] at hix
  have hdr := drop_get hla
  have hx : W.getD i default < 18446744073709551616 := hW _ (by simp only [List.getD,List.getElem?_eq_getElem hla,Option.getD_some]; exact List.getElem_mem _)
  generalize W.getD i default = x at *
  have hbl := bitsI_len x
  obtain ⟨y8,l1⟩ := loop38a (k := i) (by omega) (.iv (.sl t (TM.one uV W))) (.iv (.sl t (TM.one uV W))) (.iv (.int .i64 W.length)) (.iv (.int .i64 i)) (.iv (.bool true)) x x out x8 (Nat.le_refl _) hx (by omega)
  obtain ⟨z2,z3,z7,z8,ih⟩ := loop38b t W hW hl k (i + 1) (out ++ (bitsI x).map fun v : Int => 64 * (i : Int) + v) (.iv (.int .i64 i)) (.iv (.int .u64 0)) (.iv (.bool true)) y8 (by omega) (by rw [List.length_append,List.length_map]; omega)
  rw [hdr,wlI]
  rw [List.append_assoc,show ((i + 1 : Nat) : Int) = (i : Int) + 1 by omega] at ih
  refine ⟨z2,z3,z7,z8,loop_at K _ _ t38L1.eq_1 ?_⟩
  generalize hO : out ++ ((bitsI x).map (fun v : Int => 64 * (i : Int) + v) ++ wlI (i + 1) (W.drop (i + 1))) = O at *
  generalize hP : out ++ (bitsI x).map (fun v : Int => 64 * (i : Int) + v) = P at *
  rw [show uV x = IV.int .u64 (x : Int) from rfl] at hix
  simp (config := { maxSteps := 4000000 }) (disch := omega) only [go_sem,TM.one_length,hix]
  rw [l1]
  simp (config := { maxSteps := 4000000 }) (disch := omega) only [go_sem,wrap_i64]
  exact congrArg er ih
theorem call38 (t : Tag) (W : List Nat) (hW : ∀ x ∈ W,x < 18446744073709551616) (hl : W.length ≤ 100000) : TM.Pure K 38 [.iv (.sl t (TM.one uV W))] (.iv (.sl (sTag (oneI (wlI 0 W))) (TM.one (.int .i64) (wlI 0 W)))) := by
 obtain ⟨y2,y3,y7,y8,l1⟩ := loop38b t W hW hl W.length 0 [] (.tup []) (.tup []) (.tup []) (.tup []) (by omega) (by simp)
 rw [List.drop_zero,List.nil_append,show ((0 : Nat) : Int) = 0 from rfl,show accS 1 3 (oneI []) = [] from rfl,show acc 0 (oneI []) = .iv (.sl .nil []) from rfl] at l1
 refine TM.pure_ret (S := accS 1 3 (oneI (wlI 0 W))) (r := acc 0 (oneI (wlI 0 W))) (call_ret' K _ (fn := t38) rfl rfl ?_) (resolve_acc _ _ _)
 simp (config := { maxSteps := 4000000 }) (disch := omega) only [t38,go_sem,TM.undef,TM.one_length]
 rw [l1]
 simp (config := { maxSteps := 4000000 }) (disch := omega) only [go_sem]
def cF (n : Nat) (f : Nat → TV) : List TV := (List.range n).map f
def upd {α : Type} (f : Nat → α) (i : Nat) (x : α) : Nat → α := fun j => if j = i then x else f j
theorem upd_same {α : Type} (f : Nat → α) (i : Nat) (x : α) : upd f i x i = x := by simp [upd]
theorem upd_ne {α : Type} (f : Nat → α) {i j : Nat} (x : α) (h : j ≠ i) : upd f i x j = f j := by simp [upd,h]
theorem cF_len (n : Nat) (f : Nat → TV) : (cF n f).length = n := by simp [cF]
theorem sub_cF {n i : Nat} (f : Nat → TV) (h : i < n) : sub (cF n f) i 1 = some [f i] := by
 simp only [sub,cF_len,show i + 1 ≤ n by omega,↓reduceIte]
 rw [List.drop_eq_getElem_cons (by rw [cF_len]; exact h)]
 simp [cF]
theorem put_cF {n i : Nat} (f : Nat → TV) (x : TV) (h : i < n) : put (cF n f) i [x] = cF n (upd f i x) := by
 simp only [put,cF]
 apply List.ext_getElem
 ·simp; omega
 ·intro j h1 h2
  simp at h1 h2
  rcases Nat.lt_trichotomy j i with h3 | h3 | h3
  ·rw [List.getElem_append_left (by simp; omega),List.getElem_append_left (by simp; omega)]
   simp [upd,show ¬ j = i by omega]
  ·subst h3
   rw [List.getElem_append_left (by simp; omega),List.getElem_append_right (by simp; omega)]
   simp [upd]
  ·rw [List.getElem_append_right (by simp; omega)]
   have e : i + 1 + (j - (min i n + 1)) = j := by omega
   simp [upd,show ¬ j = i by omega,e]
attribute [go_sem] cF_len
theorem gN0 (S : Store) (a : Block) (r : Store) : (S ++ a :: r)[S.length]? = some a := by simp
theorem gN1 (S : Store) (a b : Block) (r : Store) : (S ++ a :: b :: r)[S.length + 1]? = some b := by rw [List.getElem?_append_right (by omega)]; simp
theorem gN2 (S : Store) (a b c : Block) (r : Store) : (S ++ a :: b :: c :: r)[S.length + 2]? = some c := by rw [List.getElem?_append_right (by omega)]; simp
theorem gN3 (S : Store) (a b c d : Block) (r : Store) : (S ++ a :: b :: c :: d :: r)[S.length + 3]? = some d := by rw [List.getElem?_append_right (by omega)]; simp
theorem gN4 (S : Store) (a b c d e : Block) (r : Store) : (S ++ a :: b :: c :: d :: e :: r)[S.length + 4]? = some e := by rw [List.getElem?_append_right (by omega)]; simp
theorem gN5 (S : Store) (a b c d e f : Block) (r : Store) : (S ++ a :: b :: c :: d :: e :: f :: r)[S.length + 5]? = some f := by rw [List.getElem?_append_right (by omega)]; simp
theorem gN6 (S : Store) (a b c d e f g : Block) (r : Store) : (S ++ a :: b :: c :: d :: e :: f :: g :: r)[S.length + 6]? = some g := by rw [List.getElem?_append_right (by omega)]; simp
theorem gN7 (S : Store) (a b c d e f g h : Block) (r : Store) : (S ++ a :: b :: c :: d :: e :: f :: g :: h :: r)[S.length + 7]? = some h := by rw [List.getElem?_append_right (by omega)]; simp
theorem sN1 (S : Store) (a b x : Block) (r : Store) : (S ++ a :: b :: r).set (S.length + 1) x = S ++ a :: x :: r := by rw [List.set_append_right _ _ (by omega)]; simp
theorem sN2 (S : Store) (a b c x : Block) (r : Store) : (S ++ a :: b :: c :: r).set (S.length + 2) x = S ++ a :: b :: x :: r := by rw [List.set_append_right _ _ (by omega)]; simp
theorem sN5 (S : Store) (a b c d e f x : Block) (r : Store) : (S ++ a :: b :: c :: d :: e :: f :: r).set (S.length + 5) x = S ++ a :: b :: c :: d :: e :: x :: r := by rw [List.set_append_right _ _ (by omega)]; simp
theorem sN6 (S : Store) (a b c d e f g x : Block) (r : Store) : (S ++ a :: b :: c :: d :: e :: f :: g :: r).set (S.length + 6) x = S ++ a :: b :: c :: d :: e :: f :: x :: r := by rw [List.set_append_right _ _ (by omega)]; simp
theorem sN7 (S : Store) (a b c d e f g h x : Block) (r : Store) : (S ++ a :: b :: c :: d :: e :: f :: g :: h :: r).set (S.length + 7) x = S ++ a :: b :: c :: d :: e :: f :: g :: x :: r := by rw [List.set_append_right _ _ (by omega)]; simp
attribute [go_sem] gN0 gN1 gN2 gN3 gN4 gN5 gN6 gN7 sN1 sN2 sN5 sN6 sN7
structure VF where
 fn : Int
 regs : Nat
 sl : Int
 nd : Int
 pr : Int
 rs : Bool
 ti : Tag
 ins : List VI
def encF (f : VF) : List IV := [.int .i64 f.fn,.int .i64 f.regs,.int .i64 f.sl,.int .i64 f.nd,.int .i64 f.pr,.bool f.rs,.sl f.ti (f.ins.map encV)]
structure RS (S : Store) (j n m : Nat) (ia : Nat → Nat) (I : Nat → List Nat) : Prop where
 row : S[j]? = some (.cells 0 false (cF n fun i => .msl (ia i) 0 0 m m 1))
 ge : ∀ i,i < n → 6 ≤ ia i
 set : ∀ i,i < n → S[ia i]? = some (.cells 0 false ((I i).map uI))
 ok : ∀ i,i < n → WOK m (I i)
structure FS (S : Store) (f : VF) (lb : List (Nat × Int × Int)) (n m : Nat) (ia oa : Nat → Nat) (I O : Nat → List Nat) : Prop where
 lab : ∃ c,S[0]? = some (.mp (mpR boxI lb) c)
 inn : RS S 1 n m ia I
 out : RS S 2 n m oa O
 flw : S[3]? = some (.cells 54 false [.iv (.int .i64 f.fn),.iv (.int .i64 f.regs),.iv (.int .i64 f.sl),.iv (.int .i64 f.nd),.iv (.int .i64 f.pr),.iv (.bool f.rs),.iv (.sl f.ti (f.ins.map encV)),.map 0,.msl 1 0 0 n n 1,.msl 2 0 0 n n 1])
 len : 6 ≤ S.length
theorem loop37a {S0 : Store} {f : VF} {lb : List (Nat × Int × Int)} {n m : Nat} {ia oa : Nat → Nat} {I O : Nat → List Nat} (hF : FS S0 f lb n m ia oa I O) (hm : m ≤ 100000) (hn : n ≤ 1000000) {kk : Nat} (hkk : kk < n) (R : Store) (x0 x1 x2 x3 x5 x9 x10 x11 x12 x13 x17 x18 x19 : TV) : ∀ (k i : Nat) (W : List Nat) (x8 x16 : TV),i + k = m → WOK m W →
  ∃ (W' : List Nat) (y8 y16 : TV),lp' (lim K) t37L1 [x0,x1,x2,x3,.ptr S0.length 47 0,x5,.ptr (S0.length + 2) 66 0,.iv (.int .i64 kk),x8,x9,x10,x11,x12,x13,.iv (.int .i64 m),.iv (.int .i64 i),x16,x17,x18,x19] (S0 ++ .cells 47 false [.ptr 3 54 0] :: .cells 0 false (W.map uI) :: .cells 66 false [.msl (S0.length + 1) 0 0 m m 1] :: R)
   = .ret (.exit 2,[x0,x1,x2,x3,.ptr S0.length 47 0,x5,.ptr (S0.length + 2) 66 0,.iv (.int .i64 kk),y8,x9,x10,x11,x12,x13,.iv (.int .i64 m),.iv (.int .i64 m),y16,x17,x18,x19],S0 ++ .cells 47 false [.ptr 3 54 0] :: .cells 0 false (W'.map uI) :: .cells 66 false [.msl (S0.length + 1) 0 0 m m 1] :: R) ∧
   WOK m W' ∧ ∀ q,W'.getD q 0 = if i ≤ q ∧ q < m then W.getD q 0 ||| (I kk).getD q 0 else W.getD q 0
 | 0,i,W,x8,x16,hk,hW => by
  obtain rfl : i = m := by omega
  refine ⟨W,x8,.iv (.bool false),loop_at K _ _ t37L1.eq_1 ?_,hW,fun q => by rw [if_neg (by omega)]⟩
  simp (config := { maxSteps := 4000000 }) (disch := omega) only [go_sem]
 | k + 1,i,W,x8,x16,hk,hW => by
  have him : i < m := by omega
  have hV := hF.inn.ok kk hkk
  have i1 := ix_RW (j := S0.length + 1) (v := 0) (cap := m) him
  have i2 := ix_RW (j := 1) (v := 0) (cap := n) hkk
  have i3 := ix_RW (j := ia kk) (v := 0) (cap := m) him
  have s1 := sub_UW (W := W) (i := i) (by rw [hW.len]; exact him)
  have s2 := sub_cF (fun i => TV.msl (ia i) 0 0 m m 1) hkk
  have s3 := sub_UW (W := I kk) (i := i) (by rw [hV.len]; exact him)
  have g1 := fun L => get_appO hF.inn.row L
  have g2 := fun L => get_appO (hF.inn.set kk hkk) L
  have g3 := fun L => get_appO hF.flw L
  have e4 := u64_or (hW.get i) (hV.get i)
  have hor := or_lt64 (hW.get i) (hV.get i)
  have p1 := put_UW (W := W) (i := i) (W.getD i 0 ||| (I kk).getD i 0) (by rw [hW.len]; exact him)
  have hbb : i + 1 ≤ (W.map uI).length := by rw [List.length_map,hW.len]; omega
  obtain ⟨W',y8,y16,ih,hW',hb⟩ := loop37a hF hm hn hkk R x0 x1 x2 x3 x5 x9 x10 x11 x12 x13 x17 x18 x19 k (i + 1) (W.set i (W.getD i 0 ||| (I kk).getD i 0)) (.iv (.int .i64 i)) (.iv (.bool true)) (by omega) (hW.set i _ hor)
  rw [show ((i + 1 : Nat) : Int) = (i : Int) + 1 by omega] at ih
  simp only [uI] at s1 s3 p1 g2 hbb
  refine ⟨W',y8,y16,loop_at K _ _ t37L1.eq_1 ?_,hW',fun q => ?_⟩
  ·generalize hA : W.getD i 0 = A at *
   generalize hB : (I kk).getD i 0 = B at *
   generalize hC : A ||| B = C at *
   simp (config := { maxSteps := 4000000 }) (disch := omega) only [go_sem,i1,i2,i3,s1,s2,s3,g1,g2,g3,e4,p1,hbb,wrap_i64]
   exact congrArg er ih
  ·rw [hb q,getD_set (by rw [hW.len]; exact him)]
   by_cases e : q = i
   ·subst e; rw [if_neg (by omega),if_pos rfl,if_pos (by omega)]
   ·rw [if_neg e]
    by_cases e2 : i + 1 ≤ q ∧ q < m
    ·rw [if_pos e2,if_pos (by omega)]
    ·rw [if_neg e2,if_neg (by omega)]
theorem flat1 (a : TV) : TM.flat [[a]] = [a] := rfl
theorem flat2 (a b : TV) : TM.flat [[a],[b]] = [a,b] := rfl
theorem flat3 (a b c : TV) : TM.flat [[a],[b],[c]] = [a,b,c] := rfl
attribute [go_sem] flat1 flat2 flat3
theorem any_vI (l : List Int) : (l.map vI).any isRefL = false := by
 rw [List.any_eq_false]
 intro x hx
 obtain ⟨m,_,rfl⟩ := List.mem_map.1 hx
 simp [vI,isRefL]
theorem elems_RW {S : Store} {j v : Nat} {b : Bool} {C : List Int} {J : List TV} (h : S[j]? = some (.cells v b (C.map vI ++ J))) (cap : Nat) : elemsIV S (.msl j v 0 C.length cap 1) = some (TM.one (.int .i64) C) := by
 have e1 : sub (C.map vI ++ J) 0 (C.length * 1) = some (C.map vI) := by
  simp [sub,List.take_append]
 have e2 : toIVs (C.map vI) = some (C.map (IV.int .i64)) := by
  have : C.map vI = (C.map (IV.int .i64)).map .iv := by rw [List.map_map]; rfl
  rw [this,toIVs_ivs]
 have e3 : ∀ L : List Int,chunks 1 L.length (L.map (IV.int .i64)) = TM.one (.int .i64) L := by
  intro L
  induction L with
  | nil => rfl
  | cons a r ih => simp only [List.map_cons,List.length_cons,chunks,List.take_succ_cons,List.take_zero,List.drop_succ_cons,List.drop_zero,ih]; rfl
 simp only [elemsIV,h,ne_eq,not_true_eq_false,↓reduceIte,e1,e2,Option.map_some,e3]
theorem resolve_RW {S : Store} {j v : Nat} {b : Bool} {C : List Int} {J : List TV} (h : S[j]? = some (.cells v b (C.map vI ++ J))) (cap : Nat) : TM.resolve S (.msl j v 0 C.length cap 1) = some (.iv (.sl .no (TM.one (.int .i64) C))) := by
 show (match elemsIV S (.msl j v 0 C.length cap 1) with | some l => some (IV.sl .no l) | none => none).map TV.iv = _
 rw [elems_RW h]; rfl
theorem no_ok {α : Type} (l : List α) : TagOk .no l := fun h => by cases h
theorem ap_row {S : Store} {j v : Nat} {C : List Int} (mu : Bool) (r : Int) (h : S[j]? = some (.cells v true (C.map vI))) (hl : C.length ≤ 1000000) (t : Tag) :
  appendOp mu 1 8 3 S (.msl j v 0 C.length C.length 1) (.iv (.sl t [[.int .i64 r]])) = some (.msl j (v + 1) 0 (C.length + 1) (C.length + 1) 1,S.set j (.cells (v + 1) true ((C ++ [r]).map vI))) := by
 have hs : sub (C.map vI) 0 C.length = some (C.map vI) := sub_all (by simp)
 have hr : roomy (C.length + 1) 8 = true := roomy_ok (by omega)
 have hx : elemsTV S (.iv (.sl t [[.int .i64 r]])) = some [vI r] := rfl
 have hlo : lenOf S (.iv (.sl t [[.int .i64 r]])) = some 1 := rfl
 have hn : isRefL (vI r) = false := rfl
 simp [appendOp,hx,hlo,h,hn,hr,hs,show ¬ C.length + 1 ≤ C.length by omega]
theorem ap_row0 {S : Store} {j v : Nat} {C : List Int} (mu : Bool) (r : Int) (h : S[j]? = some (.cells v false (C.map vI))) (hl : C.length ≤ 1000000) (t : Tag) :
  appendOp mu 1 8 3 S (.msl j v 0 C.length C.length 1) (.iv (.sl t [[.int .i64 r]])) = some (.msl S.length 0 0 (C.length + 1) (C.length + 1) 1,S ++ [.cells 0 true ((C ++ [r]).map vI)]) := by
 have hs : sub (C.map vI) 0 C.length = some (C.map vI) := sub_all (by simp)
 have hr : roomy (C.length + 1) 8 = true := roomy_ok (by omega)
 have hx : elemsTV S (.iv (.sl t [[.int .i64 r]])) = some [vI r] := rfl
 have hlo : lenOf S (.iv (.sl t [[.int .i64 r]])) = some 1 := rfl
 have hn : isRefL (vI r) = false := rfl
 simp [appendOp,hx,hlo,h,hn,hr,hs,show ¬ C.length + 1 ≤ C.length by omega]
theorem ap_first {S : Store} (r : Int) {t0 : Tag} (h0 : t0 ≠ .no) (t : Tag) :
  appendOp true 1 8 3 S (.iv (.sl t0 [])) (.iv (.sl t [[.int .i64 r]])) = some (.msl S.length 0 0 1 1 1,S ++ [.cells 0 true [vI r]]) := by
 have hr : roomy 1 8 = true := roomy_ok (by omega)
 have hx : elemsTV S (.iv (.sl t [[.int .i64 r]])) = some [vI r] := rfl
 have hlo : lenOf S (.iv (.sl t [[.int .i64 r]])) = some 1 := rfl
 have hn : isRefL (vI r) = false := rfl
 cases t0 <;> simp_all [appendOp,fits,flat]
theorem ap_many {S : Store} {t : Tag} {l : List Int} (h0 : l ≠ []) (hl : l.length ≤ 1000000) : appendOp true 1 8 3 S (.iv (.sl .full [])) (.iv (.sl t (TM.one (.int .i64) l))) = some (.msl S.length 0 0 l.length l.length 1,S ++ [.cells 0 true (l.map vI)]) := by
 have e1 : elemsTV S (.iv (.sl t (TM.one (.int .i64) l))) = some ((l.map (IV.int .i64)).map .iv) := by rw [(IsEl.sl S t (TM.one (.int .i64) l)).1,flat_one_map]
 have e2 : lenOf S (.iv (.sl t (TM.one (.int .i64) l))) = some l.length := by rw [(IsEl.sl S t (TM.one (.int .i64) l)).2,TM.one_length]
 have e5 : (l.map (IV.int .i64)).map TV.iv = l.map vI := by rw [List.map_map]; rfl
 have e3 := any_vI l
 have e4 : l.length ≠ 0 := by intro h; exact h0 (List.length_eq_zero_iff.1 h)
 have hr : roomy l.length 8 = true := roomy_ok (by omega)
 rw [e5] at e1
 simp [appendOp,e1,e2,e3,e4,hr,flat,fits]
theorem ap_none {S : Store} {t : Tag} : appendOp true 1 8 3 S (.iv (.sl .full [])) (.iv (.sl t [])) = some (.iv (.sl .full []),S) := by
 simp [appendOp,elemsTV,lenOf,flat,isSl]
theorem eqB_sln (l : List (List IV)) : eqB .sl (.iv (.sl .nil l)) (.iv (.sl .nil [])) = some true := id rfl
theorem eqB_slf (l : List (List IV)) : eqB .sl (.iv (.sl .full l)) (.iv (.sl .nil [])) = some false := id rfl
theorem eqB_slo (l : List (List IV)) : eqB .sl (.iv (.sl .no l)) (.iv (.sl .nil [])) = some false := id rfl
theorem call23 (t : Tag) (l : List Int) (ht : TagOk t l) (hl : l.length ≤ 1000000) (S : Store) :
  (l = [] ∧ ∃ t',t' ≠ .no ∧ (lim K).call 23 [.iv (.sl t (TM.one (.int .i64) l))] S = .ret (.iv (.sl t' []),S)) ∨
  (l ≠ [] ∧ (lim K).call 23 [.iv (.sl t (TM.one (.int .i64) l))] S = .ret (.msl S.length 0 0 l.length l.length 1,S ++ [.cells 0 true (l.map vI)])) := by
 by_cases hn : t = .nil
 ·subst hn
  obtain rfl := ht rfl
  refine .inl ⟨rfl,.nil,by decide,call_ret' K S (fn := t23) rfl rfl ?_⟩
  simp (config := { maxSteps := 4000000 }) (disch := omega) only [t23,go_sem,TM.undef,eqB_sln]
 ·have hq : eqB .sl (.iv (.sl t (TM.one (.int .i64) l))) (.iv (.sl .nil [])) = some false := by
   cases t with
   | nil => exact absurd rfl hn
   | full => exact eqB_slf _
   | no => exact eqB_slo _
  by_cases h0 : l = []
  ·subst h0
   refine .inl ⟨rfl,.full,by decide,call_ret' K S (fn := t23) rfl rfl ?_⟩
   rw [one_nil] at *
   simp (config := { maxSteps := 4000000 }) (disch := omega) only [t23,go_sem,TM.undef,hq,ap_none]
  ·refine .inr ⟨h0,call_ret' K S (fn := t23) rfl rfl ?_⟩
   have := ap_many (S := S) (t := t) h0 hl
   simp (config := { maxSteps := 4000000 }) (disch := omega) only [t23,go_sem,TM.undef,hq,this]
theorem call21 (x : Int) : TM.Pure K 21 [.iv (.int .i64 x)] (.iv (.bool (decide (26 ≤ x ∧ x ≤ 31)))) := by
 refine call_pure t21 rfl rfl ?_
 rcases (by omega : x < 26 ∨ (26 ≤ x ∧ x ≤ 31) ∨ 31 < x) with h | h | h <;> simp (config := { maxSteps := 4000000 }) (disch := omega) only [t21,go_sem,TM.undef]
theorem call9A (v : VI) (h : (1 ≤ v.op ∧ v.op ≤ 14) ∨ v.op = 25 ∨ (26 ≤ v.op ∧ v.op ≤ 31)) : ∃ t',TagOk t' (usesM v) ∧ TM.Pure K 9 [.iv (.agg (encV v))] (.iv (.sl t' (TM.one (.int .i64) (usesM v)))) := by
 have hM : usesM v = tdy [v.a,v.b] := by unfold usesM; rw [if_pos (by omega)]
 rw [hM]
 have h0 : ([.cells 0 false [vI v.a,vI v.b]] : Store)[0]? = some (.cells 0 false ([v.a,v.b].map vI ++ [])) := rfl
 obtain ⟨J,c22⟩ := call22 (by simp) (cap := 2) (by simp) h0 (tdy_tidy [v.a,v.b])
 have c21 := call21 v.op
 refine ⟨.no,no_ok _,pure_ret (S := [.cells 0 false ((tdy [v.a,v.b]).map vI ++ J)]) (call_ret' K _ (fn := t9) rfl rfl ?_) (resolve_RW (j := 0) (v := 0) (b := false) (J := J) rfl 2)⟩
 simp only [vI,List.length_cons,List.length_nil,List.set_cons_zero,Nat.zero_add,Nat.reduceAdd] at c22
 rcases h with h | h | h
 ·simp (config := { maxSteps := 4000000 }) (disch := omega) only [t9,go_sem,TM.undef,encV,List.map_cons,List.map_nil,c22]
 ·simp (config := { maxSteps := 4000000 }) (disch := omega) only [t9,go_sem,TM.undef,encV,List.map_cons,List.map_nil,c22]
 ·rw [decide_eq_true h] at c21
  simp (config := { maxSteps := 4000000 }) (disch := omega) only [t9,go_sem,TM.undef,encV,List.map_cons,List.map_nil,c22,cpR_pure c21]
def rA : TCode := (.region [⟨.mov (.loc 13),(some 7),none⟩])
def rB : TCode := (.block 1
    (.seq (.region [⟨.load1 (.loc 6),none,none⟩,⟨.len .sl (.reg 0),(some 14),none⟩,⟨.mov (.cst (.int .i64 0)),(some 15),none⟩])
    (.block 2
     (.loop t37L1))))
def rE (N : Nat) (x0 x1 x2 x3 x5 x7 x8 x9 x10 x11 x12 x13 x14 x15 x16 x17 x18 x19 : TV) : Env := [x0,x1,x2,x3,.ptr N 47 0,x5,.ptr (N + 2) 66 0,x7,x8,x9,x10,x11,x12,x13,x14,x15,x16,x17,x18,x19]
def gS (S0 : Store) (m : Nat) (W : List Nat) (b3 b4 Z : Block) (R : Store) : Store := S0 ++ .cells 47 false [.ptr 3 54 0] :: .cells 0 false (W.map uI) :: .cells 66 false [.msl (S0.length + 1) 0 0 m m 1] :: b3 :: b4 :: Z :: R
theorem bit_or {m : Nat} {W V W' : List Nat} (hW : WOK m W) (hV : WOK m V) (h : ∀ q,W'.getD q 0 = if 0 ≤ q ∧ q < m then W.getD q 0 ||| V.getD q 0 else W.getD q 0) (r : Nat) : bit W' r = (bit W r || bit V r) := by
 unfold bit
 rw [h]
 by_cases e : r / 64 < m
 ·rw [if_pos ⟨Nat.zero_le _,e⟩,Nat.testBit_or]
 ·rw [if_neg (by omega)]
  have : V.getD (r / 64) 0 = 0 := by rw [List.getD,List.getElem?_eq_none (by rw [hV.len]; omega)]; rfl
  rw [this,Nat.zero_testBit,Bool.or_false]
theorem yld37 {S0 : Store} {f : VF} {lb : List (Nat × Int × Int)} {n m : Nat} {ia oa : Nat → Nat} {I O : Nat → List Nat} (hF : FS S0 f lb n m ia oa I O) (hm : m ≤ 100000) (hn : n ≤ 1000000) {kk : Nat} (hkk : kk < n) (b3 b4 : Block) (R : Store) (x0 x1 x2 x3 x5 x7 x8 x9 x10 x11 x12 x13 x14 x15 x16 x17 x18 x19 : TV) (W : List Nat) (hW : WOK m W) :
  ∃ W' : List Nat,(lim K).yld (S0.length + 5) [.iv (.int .i64 kk)] (gS S0 m W b3 b4 (.lp .ready none (rE S0.length x0 x1 x2 x3 x5 x7 x8 x9 x10 x11 x12 x13 x14 x15 x16 x17 x18 x19) [13] rA rB) R)
   = .ret (.iv (.bool true),gS S0 m W' b3 b4 (.lp .ready none (rE S0.length x0 x1 x2 x3 x5 x7 x8 x9 x10 x11 x12 x13 x14 x15 x16 x17 x18 x19) [13] rA rB) R) ∧ WOK m W' ∧ ∀ r,bit W' r = (bit W r || bit (I kk) r) := by
 generalize hE : rE S0.length x0 x1 x2 x3 x5 x7 x8 x9 x10 x11 x12 x13 x14 x15 x16 x17 x18 x19 = E
 obtain ⟨W',y8,y16,l1,hW',hb⟩ := loop37a hF hm hn hkk (b3 :: b4 :: .lp .busy none E [13] rA rB :: R) x0 x1 x2 x3 x5 x9 x10 x11 x12 (.iv (.int .i64 kk)) x17 x18 x19 m 0 W x8 x16 (by omega) hW
 refine ⟨W',?_,hW',bit_or hW (hF.inn.ok kk hkk) hb⟩
 have hy := yld_true (K := K) (i := S0.length + 5) (args := [.iv (.int .i64 kk)]) (S := gS S0 m W b3 b4 (.lp .ready none E [13] rA rB) R) (S1 := gS S0 m W b3 b4 (.lp .ready none E [13] rA rB) R) (S2 := gS S0 m W' b3 b4 (.lp .busy none E [13] rA rB) R)
  (st := .ready) (p := none) (p2 := none) (p3 := none) (st3 := .busy) (env := E) (e2 := E) (e3 := E) (ps := [13]) (ps2 := [13]) (ps3 := [13]) (a := rA) (b := rB) (a2 := rA) (b2 := rB) (a3 := rA) (b3 := rB)
  (env1 := rE S0.length x0 x1 x2 x3 x5 x7 x8 x9 x10 x11 x12 (.iv (.int .i64 kk)) x14 x15 x16 x17 x18 x19)
  (env2 := rE S0.length x0 x1 x2 x3 x5 (.iv (.int .i64 kk)) x8 x9 x10 x11 x12 (.iv (.int .i64 kk)) x14 x15 x16 x17 x18 x19)
  (env3 := rE S0.length x0 x1 x2 x3 x5 (.iv (.int .i64 kk)) y8 x9 x10 x11 x12 (.iv (.int .i64 kk)) (.iv (.int .i64 m)) (.iv (.int .i64 m)) y16 x17 x18 x19)
  (by unfold gS; rw [gN5]) (by rw [← hE]; rfl) ?_ (by unfold gS; rw [gN5]) ?_ (by unfold gS; rw [gN5])
 ·rw [hy]
  unfold gS
  rw [sN5]
 ·unfold rE rA
  simp (config := { maxSteps := 4000000 }) (disch := omega) only [go_sem]
 ·unfold gS
  rw [sN5]
  rw [show ((0 : Nat) : Int) = 0 from rfl] at l1
  generalize Block.lp .busy none E [13] rA rB = Z at *
  unfold rE rB
  simp (config := { maxSteps := 4000000 }) (disch := omega) only [go_sem]
  rw [l1]
  simp (config := { maxSteps := 4000000 }) (disch := omega) only [go_sem]
theorem encV_len (v : VI) : (encV v).length = 8 := rfl
def bhd (lb : List (Nat × Int × Int)) (l : List VI) (i : Nat) : List Nat :=
 if (l.getD i default).op = 68 ∨ (l.getD i default).op = 72 then [] else
  (if (26 ≤ (l.getD i default).op ∧ (l.getD i default).op ≤ 31) ∨ (l.getD i default).op = 66 then [(cntR lb (l.getD i default).lb).toNat] else []) ++
  (if (l.getD i default).op ≠ 66 ∧ i + 1 < l.length then [i + 1] else [])
def LabOK (lb : List (Nat × Int × Int)) (l : List VI) : Prop := ∀ i,i < l.length → ((26 ≤ (l.getD i default).op ∧ (l.getD i default).op ≤ 31) ∨ (l.getD i default).op = 66) → 0 ≤ cntR lb (l.getD i default).lb ∧ cntR lb (l.getD i default).lb < l.length
theorem get_cp8 (env : Env) (S : Store) (a b c d e f g h : IV) : getCells env S (.iv (.cp [a,b,c,d,e,f,g,h])) 8 = some [.iv a,.iv b,.iv c,.iv d,.iv e,.iv f,.iv g,.iv h] := by simp [getCells,sub]
attribute [go_sem] get_cp8
theorem gS_set6 {S0 : Store} {m : Nat} {W : List Nat} {b3 b4 Z a : Block} (x : Block) (R : Store) : (gS S0 m W b3 b4 Z (a :: R)).set (S0.length + 6) x = gS S0 m W b3 b4 Z (x :: R) := by unfold gS; rw [sN6]
theorem gS_get3 {S0 : Store} {m : Nat} {W : List Nat} {b3 b4 Z : Block} (R : Store) : (gS S0 m W b3 b4 Z R)[S0.length + 3]? = some b3 := by unfold gS; rw [gN3]
theorem gS_get4 {S0 : Store} {m : Nat} {W : List Nat} {b3 b4 Z : Block} (R : Store) : (gS S0 m W b3 b4 Z R)[S0.length + 4]? = some b4 := by unfold gS; rw [gN4]
theorem gS_get6 {S0 : Store} {m : Nat} {W : List Nat} {b3 b4 Z a : Block} (R : Store) : (gS S0 m W b3 b4 Z (a :: R))[S0.length + 6]? = some a := by unfold gS; rw [gN6]
theorem gS_old {S0 : Store} {m : Nat} {W : List Nat} {b3 b4 Z : Block} (R : Store) {j : Nat} {b : Block} (h : S0[j]? = some b) : (gS S0 m W b3 b4 Z R)[j]? = some b := by unfold gS; exact get_appO h _
theorem gS_len {S0 : Store} {m : Nat} {W : List Nat} {b3 b4 Z : Block} (R : Store) : (gS S0 m W b3 b4 Z R).length = S0.length + (6 + R.length) := by unfold gS; simp; omega
theorem gS_app {S0 : Store} {m : Nat} {W : List Nat} {b3 b4 Z : Block} (R L : Store) : gS S0 m W b3 b4 Z R ++ L = gS S0 m W b3 b4 Z (R ++ L) := by unfold gS; simp
attribute [go_sem] gS_set6 gS_get3 gS_get4 gS_get6 gS_app
theorem call69 {S0 : Store} {f : VF} {lb : List (Nat × Int × Int)} {n m : Nat} {ia oa : Nat → Nat} {I O : Nat → List Nat} (hF : FS S0 f lb n m ia oa I O) (hm : m ≤ 100000) (hn : n ≤ 1000000) (hfn : f.ins.length = n) (hlb : LabOK lb f.ins) {i : Nat} (hi : i < n) (x0 x1 x2 x3 x5 x7 x8 x9 x10 x11 x12 x13 x14 x15 x16 x17 x18 x19 : TV) (W : List Nat) (hW : WOK m W) :
  ∃ (W' : List Nat) (B : Block),(lim K).call 69 [.yld (S0.length + 5),.ptr (S0.length + 3) 47 0,.ptr (S0.length + 4) 4 0] (gS S0 m W (.cells 47 false [.ptr 3 54 0]) (.cells 4 false [.iv (.int .i64 i)]) (.lp .ready none (rE S0.length x0 x1 x2 x3 x5 x7 x8 x9 x10 x11 x12 x13 x14 x15 x16 x17 x18 x19) [13] rA rB) [])
   = .ret (.tup [],gS S0 m W' (.cells 47 false [.ptr 3 54 0]) (.cells 4 false [.iv (.int .i64 i)]) (.lp .ready none (rE S0.length x0 x1 x2 x3 x5 x7 x8 x9 x10 x11 x12 x13 x14 x15 x16 x17 x18 x19) [13] rA rB) [B]) ∧ WOK m W' ∧ ∀ r,bit W' r = (bit W r || (bhd lb f.ins i).any fun k => bit (I k) r) := by
 have hl := hlb i (by omega)
 obtain ⟨c0,hlab⟩ := hF.lab
 have g0 := fun W b3 b4 Z R => gS_old (S0 := S0) (m := m) (W := W) (b3 := b3) (b4 := b4) (Z := Z) R hlab
 have g3 := fun W b3 b4 Z R => gS_old (S0 := S0) (m := m) (W := W) (b3 := b3) (b4 := b4) (Z := Z) R hF.flw
 have hix := ix_map (w := 8) (f := encV) encV_len (t := f.ti) (l := f.ins) (i := (i : Int)) (by omega)
 rw [Int.toNat_natCast] at hix
 have hlen : (f.ins.map encV).length = n := by rw [List.length_map,hfn]
 have glen := fun W b3 b4 Z R => gS_len (S0 := S0) (m := m) (W := W) (b3 := b3) (b4 := b4) (Z := Z) R
 have c21 := call21 (f.ins.getD i default).op
 unfold bhd
 generalize hx : f.ins.getD i default = x at *
 rw [encV_eq] at hix
 have yl := fun kk (hkk : kk < n) b3 b4 R W hW => yld37 hF hm hn (kk := kk) hkk b3 b4 R x0 x1 x2 x3 x5 x7 x8 x9 x10 x11 x12 x13 x14 x15 x16 x17 x18 x19 W hW
 generalize Block.lp .ready none (rE S0.length x0 x1 x2 x3 x5 x7 x8 x9 x10 x11 x12 x13 x14 x15 x16 x17 x18 x19) [13] rA rB = Z at *
 by_cases hT : x.op = 68 ∨ x.op = 72
 ·rw [if_pos hT]
  refine ⟨W,.cells 32 false ((encV x).map .iv),call_ret' K _ (fn := t69) rfl rfl ?_,hW,fun r => by simp⟩
  rw [encV_tv]
  ·rcases hT with hT | hT
   ·simp (config := { maxSteps := 4000000 }) (disch := omega) only [t69,go_sem,TM.undef,g0,g3,hix,hlen,glen]
   ·simp (config := { maxSteps := 4000000 }) (disch := omega) only [t69,go_sem,TM.undef,g0,g3,hix,hlen,glen]
 ·rw [if_neg hT]
  have hlenI : ((n : Nat) : Int) = (f.ins.length : Nat) := by omega
  by_cases hJ : x.op = 66
  ·obtain ⟨h1,h2⟩ := hl (.inr hJ)
   obtain ⟨kk,hkk⟩ := Int.eq_ofNat_of_zero_le h1
   rw [if_pos (.inr hJ),if_neg (by omega),List.append_nil,hkk,Int.toNat_natCast]
   obtain ⟨W',hy,hW',hb⟩ := yl kk (by omega) (.cells 47 false [.ptr 3 54 0]) (.cells 4 false [.iv (.int .i64 i)]) [.cells 32 false ((encV x).map .iv)] W hW
   rw [encV_tv] at hy
   rw [decide_eq_false (by omega)] at c21
   refine ⟨W',.cells 32 false ((encV x).map .iv),call_ret' K _ (fn := t69) rfl rfl ?_,hW',fun r => by rw [hb r]; simp⟩
   rw [encV_tv]
   simp (config := { maxSteps := 4000000 }) (disch := omega) only [t69,go_sem,TM.undef,g0,g3,hix,hlen,glen,cpR_pure c21,lkB_box,hkk,hy,er_ret]
  ·by_cases hB : 26 ≤ x.op ∧ x.op ≤ 31
   ·obtain ⟨h1,h2⟩ := hl (.inl hB)
    obtain ⟨kk,hkk⟩ := Int.eq_ofNat_of_zero_le h1
    rw [if_pos (.inl hB),hkk,Int.toNat_natCast]
    obtain ⟨W',hy,hW',hb⟩ := yl kk (by omega) (.cells 47 false [.ptr 3 54 0]) (.cells 4 false [.iv (.int .i64 i)]) [.cells 32 false ((encV x).map .iv)] W hW
    rw [encV_tv] at hy
    rw [decide_eq_true hB] at c21
    by_cases hi1 : i + 1 < n
    ·rw [if_pos ⟨hJ,by omega⟩]
     obtain ⟨W2,hy2,hW2,hb2⟩ := yl (i + 1) hi1 (.cells 47 false [.ptr 3 54 0]) (.cells 4 false [.iv (.int .i64 i)]) [.cells 32 false ((encV x).map .iv)] W' hW'
     rw [encV_tv,show ((i + 1 : Nat) : Int) = (i : Int) + 1 by omega] at hy2
     refine ⟨W2,.cells 32 false ((encV x).map .iv),call_ret' K _ (fn := t69) rfl rfl ?_,hW2,fun r => by rw [hb2 r,hb r]; simp [Bool.or_assoc]⟩
     rw [encV_tv]
     simp (config := { maxSteps := 4000000 }) (disch := omega) only [t69,go_sem,TM.undef,g0,g3,hix,hlen,glen,cpR_pure c21,lkB_box,hkk,hy,wrap_i64,hy2,er_ret]
    ·rw [if_neg (by omega),List.append_nil]
     refine ⟨W',.cells 32 false ((encV x).map .iv),call_ret' K _ (fn := t69) rfl rfl ?_,hW',fun r => by rw [hb r]; simp⟩
     rw [encV_tv]
     simp (config := { maxSteps := 4000000 }) (disch := omega) only [t69,go_sem,TM.undef,g0,g3,hix,hlen,glen,cpR_pure c21,lkB_box,hkk,hy,wrap_i64,er_ret]
   ·rw [if_neg (by omega),List.nil_append]
    rw [decide_eq_false hB] at c21
    by_cases hi1 : i + 1 < n
    ·rw [if_pos ⟨hJ,by omega⟩]
     obtain ⟨W2,hy2,hW2,hb2⟩ := yl (i + 1) hi1 (.cells 47 false [.ptr 3 54 0]) (.cells 4 false [.iv (.int .i64 i)]) [.cells 32 false ((encV x).map .iv)] W hW
     rw [encV_tv,show ((i + 1 : Nat) : Int) = (i : Int) + 1 by omega] at hy2
     refine ⟨W2,.cells 32 false ((encV x).map .iv),call_ret' K _ (fn := t69) rfl rfl ?_,hW2,fun r => by rw [hb2 r]; simp⟩
     rw [encV_tv]
     simp (config := { maxSteps := 4000000 }) (disch := omega) only [t69,go_sem,TM.undef,g0,g3,hix,hlen,glen,cpR_pure c21,wrap_i64,hy2,er_ret]
    ·rw [if_neg (by omega)]
     refine ⟨W,.cells 32 false ((encV x).map .iv),call_ret' K _ (fn := t69) rfl rfl ?_,hW,fun r => by simp⟩
     rw [encV_tv]
     simp (config := { maxSteps := 4000000 }) (disch := omega) only [t69,go_sem,TM.undef,g0,g3,hix,hlen,glen,cpR_pure c21,wrap_i64,er_ret]
theorem call49 (i : Nat) (S : Store) : (lim K).call 49 [.ptr 3 54 0,.iv (.int .i64 i)] S = .ret (.fn 69 [] [.ptr S.length 47 0,.ptr (S.length + 1) 4 0],S ++ [.cells 47 false [.ptr 3 54 0],.cells 4 false [.iv (.int .i64 i)]]) := by
 refine call_ret' K _ (fn := t49) rfl rfl ?_
 simp (config := { maxSteps := 4000000 }) (disch := omega) only [t49,go_sem,TM.undef,List.length_append,List.length_cons,List.length_nil,List.append_assoc]
theorem gS_get0 {S0 : Store} {m : Nat} {W : List Nat} {b3 b4 Z : Block} (R : Store) : (gS S0 m W b3 b4 Z R)[S0.length]? = some (.cells 47 false [.ptr 3 54 0]) := by unfold gS; rw [gN0]
theorem gS_get1 {S0 : Store} {m : Nat} {W : List Nat} {b3 b4 Z : Block} (R : Store) : (gS S0 m W b3 b4 Z R)[S0.length + 1]? = some (.cells 0 false (W.map uI)) := by unfold gS; rw [gN1]
theorem gS_get2 {S0 : Store} {m : Nat} {W : List Nat} {b3 b4 Z : Block} (R : Store) : (gS S0 m W b3 b4 Z R)[S0.length + 2]? = some (.cells 66 false [.msl (S0.length + 1) 0 0 m m 1]) := by unfold gS; rw [gN2]
theorem gS_get5 {S0 : Store} {m : Nat} {W : List Nat} {b3 b4 Z : Block} (R : Store) : (gS S0 m W b3 b4 Z R)[S0.length + 5]? = some Z := by unfold gS; rw [gN5]
theorem gS_get7 {S0 : Store} {m : Nat} {W : List Nat} {b3 b4 Z a b : Block} (R : Store) : (gS S0 m W b3 b4 Z (a :: b :: R))[S0.length + 7]? = some b := by unfold gS; rw [gN7]
theorem gS_set7 {S0 : Store} {m : Nat} {W : List Nat} {b3 b4 Z a b : Block} (x : Block) (R : Store) : (gS S0 m W b3 b4 Z (a :: b :: R)).set (S0.length + 7) x = gS S0 m W b3 b4 Z (a :: x :: R) := by unfold gS; rw [sN7]
theorem gS_set5 {S0 : Store} {m : Nat} {W : List Nat} {b3 b4 Z : Block} (x : Block) (R : Store) : (gS S0 m W b3 b4 Z R).set (S0.length + 5) x = gS S0 m W b3 b4 x R := by unfold gS; rw [sN5]
attribute [go_sem] gS_get0 gS_get1 gS_get2 gS_get5 gS_get7 gS_set7 gS_set5
theorem loop37b {S0 : Store} {m : Nat} (hm : m ≤ 100000) {ua da : Nat} {U D : List Nat} (hU : WOK m U) (hD : WOK m D) (gU : S0[ua]? = some (.cells 0 false (U.map uI))) (gD : S0[da]? = some (.cells 0 false (D.map uI))) {W : List Nat} (hW : WOK m W) (b3 b4 Z B6 : Block) (x0 x1 x4 x5 x7 x8 x11 x12 x13 x14 x15 x16 : TV) : ∀ (k i : Nat) (V : List Nat) (x10 x19 : TV),i + k = m → WOK m V →
  ∃ (V' : List Nat) (y10 y19 : TV),lp' (lim K) t37L0 [x0,x1,.msl ua 0 0 m m 1,.msl da 0 0 m m 1,x4,x5,.ptr (S0.length + 2) 66 0,x7,x8,.msl (S0.length + 7) 0 0 m m 1,x10,x11,x12,x13,x14,x15,x16,.iv (.int .i64 m),.iv (.int .i64 i),x19] (gS S0 m W b3 b4 Z [B6,.cells 0 false (V.map uI)])
   = .ret (.exit 4,[x0,x1,.msl ua 0 0 m m 1,.msl da 0 0 m m 1,x4,x5,.ptr (S0.length + 2) 66 0,x7,x8,.msl (S0.length + 7) 0 0 m m 1,y10,x11,x12,x13,x14,x15,x16,.iv (.int .i64 m),.iv (.int .i64 m),y19],gS S0 m W b3 b4 Z [B6,.cells 0 false (V'.map uI)]) ∧
   WOK m V' ∧ ∀ q,V'.getD q 0 = if i ≤ q ∧ q < m then U.getD q 0 ||| nAndNot (W.getD q 0) (D.getD q 0) else V.getD q 0
 | 0,i,V,x10,x19,hk,hV => by
  obtain rfl : i = m := by omega
  refine ⟨V,x10,.iv (.bool false),loop_at K _ _ t37L0.eq_1 ?_,hV,fun q => by rw [if_neg (by omega)]⟩
  simp (config := { maxSteps := 4000000 }) (disch := omega) only [go_sem]
 | k + 1,i,V,x10,x19,hk,hV => by
  have him : i < m := by omega
  have i1 := fun j => ix_RW (j := j) (v := 0) (cap := m) him
  have s1 := sub_UW (W := W) (i := i) (by rw [hW.len]; exact him)
  have s2 := sub_UW (W := U) (i := i) (by rw [hU.len]; exact him)
  have s3 := sub_UW (W := D) (i := i) (by rw [hD.len]; exact him)
  have g1 := fun R => gS_old (S0 := S0) (m := m) (W := W) (b3 := b3) (b4 := b4) (Z := Z) R gU
  have g2 := fun R => gS_old (S0 := S0) (m := m) (W := W) (b3 := b3) (b4 := b4) (Z := Z) R gD
  have e3 := u64_andNot (W.getD i 0) (D.getD i 0)
  have e4 := u64_or (hU.get i) (nAndNot_lt (W.getD i 0) (D.getD i 0))
  have hor := or_lt64 (hU.get i) (nAndNot_lt (W.getD i 0) (D.getD i 0))
  have p1 := put_UW (W := V) (i := i) (U.getD i 0 ||| nAndNot (W.getD i 0) (D.getD i 0)) (by rw [hV.len]; exact him)
  have hbb : i + 1 ≤ (V.map uI).length := by rw [List.length_map,hV.len]; omega
  obtain ⟨V',y10,y19,ih,hV',hb⟩ := loop37b hm hU hD gU gD hW b3 b4 Z B6 x0 x1 x4 x5 x7 x8 x11 x12 x13 x14 x15 x16 k (i + 1) (V.set i (U.getD i 0 ||| nAndNot (W.getD i 0) (D.getD i 0))) (.iv (.int .i64 i)) (.iv (.bool true)) (by omega) (hV.set i _ hor)
  rw [show ((i + 1 : Nat) : Int) = (i : Int) + 1 by omega] at ih
  simp only [uI] at s1 s2 s3 p1 hbb
  refine ⟨V',y10,y19,loop_at K _ _ t37L0.eq_1 ?_,hV',fun q => ?_⟩
  ·generalize hA : nAndNot (W.getD i 0) (D.getD i 0) = A at *
   generalize hA2 : W.getD i 0 = A2 at *
   generalize hA3 : D.getD i 0 = A3 at *
   generalize hB : U.getD i 0 = B at *
   generalize hC : B ||| A = C at *
   simp (config := { maxSteps := 4000000 }) (disch := omega) only [go_sem,i1,s1,s2,s3,g1,g2,e3,e4,p1,hbb,wrap_i64]
   exact congrArg er ih
  ·rw [hb q,getD_set (by rw [hV.len]; exact him)]
   by_cases e : q = i
   ·subst e; rw [if_neg (by omega),if_pos rfl,if_pos (by omega)]
   ·rw [if_neg e]
    by_cases e2 : i + 1 ≤ q ∧ q < m
    ·rw [if_pos e2,if_pos (by omega)]
    ·rw [if_neg e2,if_neg (by omega)]
theorem bit_flow {m : Nat} {U W D V V0 : List Nat} (hU : WOK m U) (hW : WOK m W) (hD : WOK m D) (hV : WOK m V) (h : ∀ q,V.getD q 0 = if 0 ≤ q ∧ q < m then U.getD q 0 ||| nAndNot (W.getD q 0) (D.getD q 0) else V0.getD q 0) (r : Nat) : bit V r = (bit U r || (bit W r && !bit D r)) := by
 have z : ∀ {X : List Nat},WOK m X → ¬ r / 64 < m → X.getD (r / 64) 0 = 0 := fun hX hr => by rw [List.getD,List.getElem?_eq_none (by rw [hX.len]; omega)]; rfl
 unfold bit
 by_cases e : r / 64 < m
 ·rw [h,if_pos ⟨Nat.zero_le _,e⟩,Nat.testBit_or,nAndNot_bit _ _ _ (Nat.mod_lt _ (by decide))]
 ·rw [z hV e,z hU e,z hW e,z hD e]; simp
theorem upd_map {α : Type} (g : Nat → α) (a : Nat → Nat) (i x : Nat) : upd (fun j => g (a j)) i (g x) = fun j => g (upd a i x j) := by
 funext j; unfold upd; split <;> rfl
theorem call37 {S0 : Store} {f : VF} {lb : List (Nat × Int × Int)} {n m : Nat} {ia oa : Nat → Nat} {I O : Nat → List Nat} (hF : FS S0 f lb n m ia oa I O) (hm : (f.regs + 63) / 64 = m) (hr : f.regs ≤ 1000000) (hn : n ≤ 1000000) (hfn : f.ins.length = n) (hlb : LabOK lb f.ins) {i : Nat} (hi : i < n)
  {ua da : Nat} {U D : List Nat} (hU : WOK m U) (hD : WOK m D) (gU : S0[ua]? = some (.cells 0 false (U.map uI))) (gD : S0[da]? = some (.cells 0 false (D.map uI))) :
  ∃ (S' : Store) (A B : List Nat) (a b : Nat),(lim K).call 37 [.ptr 3 54 0,.iv (.int .i64 i),.msl ua 0 0 m m 1,.msl da 0 0 m m 1] S0 = .ret (.iv (.bool (!decide (A = I i))),S') ∧ FS S' f lb n m (upd ia i a) (upd oa i b) (upd I i A) (upd O i B) ∧ WOK m A ∧ WOK m B ∧
   (∀ r,bit B r = (bhd lb f.ins i).any fun k => bit (I k) r) ∧ (∀ r,bit A r = (bit U r || (bit B r && !bit D r))) ∧ Keep [1,2] S0 S' := by
 have hm' : m ≤ 100000 := by omega
 obtain ⟨c0,hlab⟩ := hF.lab
 have h6 := hF.len
 -- the set behind,empty
 have c36 := fun S => call36 hr .nil [] (by simp) (by simp) S
 rw [one_nil,hm] at c36
 obtain ⟨W0,e0,hW0,hb0⟩ := c36 (S0 ++ [.cells 47 false [.ptr 3 54 0]])
 have e1 := call49 i (S0 ++ [.cells 47 false [.ptr 3 54 0]] ++ [.cells 0 false (W0.map uI)] ++ [.cells 66 false [.msl (S0.length + 1) 0 0 m m 1]])
 simp only [List.length_append,List.length_cons,List.length_nil,Nat.zero_add,List.append_assoc,List.cons_append,List.nil_append,Nat.add_assoc,Nat.reduceAdd] at e0 e1
 obtain ⟨W,B6,e2,hW,hbW⟩ := call69 hF hm' hn hfn hlb hi (.ptr 3 54 0) (.iv (.int .i64 i)) (.msl ua 0 0 m m 1) (.msl da 0 0 m m 1) (.iv (.bool false)) (.tup []) (.tup []) (.tup []) (.tup []) (.tup []) (.fn 69 [] [.ptr (S0.length + 3) 47 0,.ptr (S0.length + 4) 4 0]) (.tup []) (.tup []) (.tup []) (.tup []) (.tup []) (.tup []) (.tup []) W0 hW0
 have e2' : (lim K).call 69 [.yld (S0.length + 5),.ptr (S0.length + 3) 47 0,.ptr (S0.length + 4) 4 0] (S0 ++ [.cells 47 false [.ptr 3 54 0],.cells 0 false (W0.map uI),.cells 66 false [.msl (S0.length + 1) 0 0 m m 1],.cells 47 false [.ptr 3 54 0],.cells 4 false [.iv (.int .i64 i)],
   .lp .ready none [.ptr 3 54 0,.iv (.int .i64 i),.msl ua 0 0 m m 1,.msl da 0 0 m m 1,.ptr S0.length 47 0,.iv (.bool false),.ptr (S0.length + 2) 66 0,.tup [],.tup [],.tup [],.tup [],.tup [],.fn 69 [] [.ptr (S0.length + 3) 47 0,.ptr (S0.length + 4) 4 0],.tup [],.tup [],.tup [],.tup [],.tup [],.tup [],.tup []] [13] (.region [⟨.mov (.loc 13),(some 7),none⟩]) (.block 1 (.seq (.region [⟨.load1 (.loc 6),none,none⟩,⟨.len .sl (.reg 0),(some 14),none⟩,⟨.mov (.cst (.int .i64 0)),(some 15),none⟩]) (.block 2 (.loop t37L1))))]) = _ := e2
 clear e2
 have hb0' : ∀ r,bit W0 r = false := fun r => by
  cases h : bit W0 r with
  | false => rfl
  | true => have := (hb0 r).1 h; simp at this
 generalize hE : rE S0.length (.ptr 3 54 0) (.iv (.int .i64 i)) (.msl ua 0 0 m m 1) (.msl da 0 0 m m 1) (.iv (.bool false)) (.tup []) (.tup []) (.tup []) (.tup []) (.tup []) (.fn 69 [] [.ptr (S0.length + 3) 47 0,.ptr (S0.length + 4) 4 0]) (.tup []) (.tup []) (.tup []) (.tup []) (.tup []) (.tup []) (.tup []) = E at *
 obtain ⟨V0,e3,hV0,_⟩ := c36 (gS S0 m W (.cells 47 false [.ptr 3 54 0]) (.cells 4 false [.iv (.int .i64 i)]) (.lp .exhausted none E [13] rA rB) [B6])
 rw [gS_len,gS_app] at e3
 simp only [List.length_cons,List.length_nil,Nat.zero_add,Nat.reduceAdd,List.cons_append,List.nil_append] at e3
 obtain ⟨V,y10,y19,l1,hV,hbV⟩ := loop37b (S0 := S0) hm' hU hD gU gD hW (.cells 47 false [.ptr 3 54 0]) (.cells 4 false [.iv (.int .i64 i)]) (.lp .exhausted none E [13] rA rB) B6 (.ptr 3 54 0) (.iv (.int .i64 i)) (.ptr S0.length 47 0) (.iv (.bool false)) (.tup []) (.tup []) (.tup []) (.fn 69 [] [.ptr (S0.length + 3) 47 0,.ptr (S0.length + 4) 4 0]) (.tup []) (.tup []) (.tup []) (.tup []) m 0 V0 (.tup []) (.tup []) (by omega) hV0
 rw [show ((0 : Nat) : Int) = 0 from rfl] at l1
 have gI := fun R => gS_old (S0 := S0) (m := m) (W := W) (b3 := .cells 47 false [.ptr 3 54 0]) (b4 := .cells 4 false [.iv (.int .i64 i)]) (Z := .lp .exhausted none E [13] rA rB) R (hF.inn.set i hi)
 have g1 := fun R => gS_old (S0 := S0) (m := m) (W := W) (b3 := .cells 47 false [.ptr 3 54 0]) (b4 := .cells 4 false [.iv (.int .i64 i)]) (Z := .lp .exhausted none E [13] rA rB) R hF.inn.row
 have g2 := fun R => gS_old (S0 := S0) (m := m) (W := W) (b3 := .cells 47 false [.ptr 3 54 0]) (b4 := .cells 4 false [.iv (.int .i64 i)]) (Z := .lp .exhausted none E [13] rA rB) R hF.out.row
 have g3 := fun R => gS_old (S0 := S0) (m := m) (W := W) (b3 := .cells 47 false [.ptr 3 54 0]) (b4 := .cells 4 false [.iv (.int .i64 i)]) (Z := .lp .exhausted none E [13] rA rB) R hF.flw
 have g3' := fun L => get_appO hF.flw L
 have c50 := call50 (a := S0.length + 7) (b := ia i) (m := m) (by omega) (gS_get7 (S0 := S0) (m := m) (W := W) (b3 := .cells 47 false [.ptr 3 54 0]) (b4 := .cells 4 false [.iv (.int .i64 i)]) (Z := .lp .exhausted none E [13] rA rB) (a := B6) (b := .cells 0 false (V.map uI)) []) (gI _) hV.len (hF.inn.ok i hi).len
 have i1 := fun j => ix_RW (j := j) (v := 0) (cap := n) hi
 have s1 := sub_cF (fun i => TV.msl (ia i) 0 0 m m 1) hi
 have p1 := put_cF (fun i => TV.msl (ia i) 0 0 m m 1) (.msl (S0.length + 7) 0 0 m m 1) hi
 have p2 := put_cF (fun i => TV.msl (oa i) 0 0 m m 1) (.msl (S0.length + 1) 0 0 m m 1) hi
 rw [upd_map (fun x => TV.msl x 0 0 m m 1)] at p1 p2
 have q2 := fun X R => (get_setN (i := 1) (j := 2) (by decide) X).trans (g2 R)
 have q3 := fun X R => (get_setN (i := 1) (j := S0.length + 2) (by omega) X).trans (gS_get2 (S0 := S0) (m := m) (W := W) (b3 := .cells 47 false [.ptr 3 54 0]) (b4 := .cells 4 false [.iv (.int .i64 i)]) (Z := .lp .exhausted none E [13] rA rB) R)
 have hS : (gS S0 m W (.cells 47 false [.ptr 3 54 0]) (.cells 4 false [.iv (.int .i64 i)]) (.lp .exhausted none E [13] rA rB) [B6,.cells 0 false (V.map uI)]) = S0 ++ (.cells 47 false [.ptr 3 54 0] :: .cells 0 false (W.map uI) :: .cells 66 false [.msl (S0.length + 1) 0 0 m m 1] :: .cells 47 false [.ptr 3 54 0] :: .cells 4 false [.iv (.int .i64 i)] :: .lp .exhausted none E [13] rA rB :: [B6,.cells 0 false (V.map uI)]) := rfl
 have hlen : (gS S0 m W (.cells 47 false [.ptr 3 54 0]) (.cells 4 false [.iv (.int .i64 i)]) (.lp .exhausted none E [13] rA rB) [B6,.cells 0 false (V.map uI)]).length = S0.length + 8 := by rw [gS_len]; rfl
 refine ⟨((gS S0 m W (.cells 47 false [.ptr 3 54 0]) (.cells 4 false [.iv (.int .i64 i)]) (.lp .exhausted none E [13] rA rB) [B6,.cells 0 false (V.map uI)]).set 1 (.cells 0 false (cF n fun j => .msl (upd ia i (S0.length + 7) j) 0 0 m m 1))).set 2 (.cells 0 false (cF n fun j => .msl (upd oa i (S0.length + 1) j) 0 0 m m 1)),V,W,S0.length + 7,S0.length + 1,call_ret' K _ (fn := t37) rfl rfl ?_,?_,hV,hW,fun r => by rw [hbW r,hb0' r,Bool.false_or],bit_flow hU hW hD hV hbV,?_⟩
 ·simp (config := { maxSteps := 4000000 }) (disch := omega) only [t37,go_sem,TM.undef,List.length_append,List.length_cons,List.length_nil,List.append_assoc,Nat.add_assoc,g3',g3,e0,e1,e2',e3]
  rw [l1]
  simp (config := { maxSteps := 4000000 }) (disch := omega) only [go_sem,g3,i1,g1,g2,s1,c50,p1,p2,q2,q3]
 ·refine ⟨⟨c0,?_⟩,⟨?_,?_,?_,?_⟩,⟨?_,?_,?_,?_⟩,?_,?_⟩
  ·rw [get_setN (by decide),get_setN (by decide),hS]; exact get_appO hlab _
  ·rw [get_setN (by decide),get_setS (by rw [hlen]; omega)]
  ·intro j hj
   unfold upd; split
   ·omega
   ·exact hF.inn.ge j hj
  ·intro j hj
   by_cases e : j = i
   ·subst e
    rw [upd_same,upd_same,get_setN (by omega),get_setN (by omega),gS_get7]
   ·rw [upd_ne _ _ e,upd_ne _ _ e]
    have h7 := hF.inn.ge j hj
    rw [get_setN (by omega),get_setN (by omega),hS]
    exact get_appO (hF.inn.set j hj) _
  ·intro j hj
   unfold upd; split
   ·exact hV
   ·exact hF.inn.ok j hj
  ·rw [get_setS (by rw [List.length_set,hlen]; omega)]
  ·intro j hj
   unfold upd; split
   ·omega
   ·exact hF.out.ge j hj
  ·intro j hj
   by_cases e : j = i
   ·subst e
    rw [upd_same,upd_same,get_setN (by omega),get_setN (by omega),gS_get1]
   ·rw [upd_ne _ _ e,upd_ne _ _ e]
    have h7 := hF.out.ge j hj
    rw [get_setN (by omega),get_setN (by omega),hS]
    exact get_appO (hF.out.set j hj) _
  ·intro j hj
   unfold upd; split
   ·exact hW
   ·exact hF.out.ok j hj
  ·rw [get_setN (by decide),get_setN (by decide)]; exact g3 _
  ·rw [List.length_set,List.length_set,hlen]; omega
 ·have k1 : Keep [1,2] S0 (gS S0 m W (.cells 47 false [.ptr 3 54 0]) (.cells 4 false [.iv (.int .i64 i)]) (.lp .exhausted none E [13] rA rB) [B6,.cells 0 false (V.map uI)]) := by rw [hS]; exact Keep.app _ _ _
  exact (k1.trans (Keep.set _ (by simp) _)).trans (Keep.set _ (by simp) _)
theorem flt_le {α : Type} (l : List α) (p q : α → Bool) (h : ∀ x,q x = true → p x = true) : (l.filter q).length ≤ (l.filter p).length := by
 induction l with
 | nil => exact Nat.le_refl _
 | cons a l ih =>
  cases hq : q a with
  | true => rw [List.filter_cons_of_pos hq,List.filter_cons_of_pos (h a hq)]; simpa using ih
  | false =>
   rw [List.filter_cons_of_neg (by rw [hq]; simp)]
   cases hp : p a with
   | true => rw [List.filter_cons_of_pos hp,List.length_cons]; omega
   | false => rw [List.filter_cons_of_neg (by rw [hp]; simp)]; exact ih
theorem flt_lt {α : Type} (l : List α) (p q : α → Bool) (h : ∀ x,q x = true → p x = true) {y : α} (hy : y ∈ l) (hp : p y = true) (hq : q y = false) : (l.filter q).length < (l.filter p).length := by
 induction l with
 | nil => cases hy
 | cons a l ih =>
  rcases List.mem_cons.1 hy with rfl | hy
  ·rw [List.filter_cons_of_pos hp,List.filter_cons_of_neg (by rw [hq]; simp),List.length_cons]
   have := flt_le l p q h
   omega
  ·have h1 := ih hy
   cases hq' : q a with
   | true => rw [List.filter_cons_of_pos hq',List.filter_cons_of_pos (h a hq')]; simpa using h1
   | false =>
    rw [List.filter_cons_of_neg (by rw [hq']; simp)]
    cases hp' : p a with
    | true => rw [List.filter_cons_of_pos hp',List.length_cons]; omega
    | false => rw [List.filter_cons_of_neg (by rw [hp']; simp)]; exact h1
def cells2 (n m : Nat) : List (Nat × Nat) := (List.range n).flatMap fun i => (List.range (64 * m)).map fun r => (i,r)
theorem cells2_mem (n m i r : Nat) : (i,r) ∈ cells2 n m ↔ i < n ∧ r < 64 * m := by
 simp only [cells2,List.mem_flatMap,List.mem_range,List.mem_map,Prod.mk.injEq]
 constructor
 ·rintro ⟨a,ha,b,hb,rfl,rfl⟩; exact ⟨ha,hb⟩
 ·rintro ⟨h1,h2⟩; exact ⟨i,h1,r,h2,rfl,rfl⟩
def lack (n m : Nat) (I : Nat → List Nat) : Nat := ((cells2 n m).filter fun p => !bit (I p.1) p.2).length
theorem bit_out {m : Nat} {W : List Nat} (hW : WOK m W) {r : Nat} (hr : 64 * m ≤ r) : bit W r = false := by
 unfold bit
 rw [List.getD,List.getElem?_eq_none (by rw [hW.len]; omega)]
 exact Nat.zero_testBit _
theorem bits_ext {m : Nat} {W V : List Nat} (hW : WOK m W) (hV : WOK m V) (h : ∀ r,bit W r = bit V r) : W = V := by
 apply List.ext_getElem (by rw [hW.len,hV.len])
 intro q h1 h2
 apply Nat.eq_of_testBit_eq
 intro j
 by_cases hj : j < 64
 ·have := h (64 * q + j)
  unfold bit at this
  rw [show (64 * q + j) / 64 = q by omega,show (64 * q + j) % 64 = j by omega] at this
  simpa only [List.getD,List.getElem?_eq_getElem h1,List.getElem?_eq_getElem h2,Option.getD_some] using this
 ·have hp : (18446744073709551616 : Nat) ≤ 2 ^ j := Nat.pow_le_pow_right (n := 2) (by decide) (show 64 ≤ j by omega)
  rw [Nat.testBit_lt_two_pow (Nat.lt_of_lt_of_le (hW.lt _ (List.getElem_mem h1)) hp),Nat.testBit_lt_two_pow (Nat.lt_of_lt_of_le (hV.lt _ (List.getElem_mem h2)) hp)]
theorem bits_ne {m : Nat} {W V : List Nat} (hW : WOK m W) (hV : WOK m V) (h : W ≠ V) (hs : ∀ r,bit V r = true → bit W r = true) : ∃ r,r < 64 * m ∧ bit W r = true ∧ bit V r = false := by
 apply Classical.byContradiction
 intro hn
 apply h
 refine bits_ext hW hV fun r => ?_
 cases hw : bit W r with
 | false =>
  cases hv : bit V r with
  | false => rfl
  | true => rw [hs r hv] at hw; cases hw
 | true =>
  cases hv : bit V r with
  | true => rfl
  | false =>
   refine absurd ⟨r,?_,hw,hv⟩ hn
   rcases Nat.lt_or_ge r (64 * m) with h1 | h1
   ·exact h1
   ·rw [bit_out hW h1] at hw; cases hw
def anyB (lb : List (Nat × Int × Int)) (l : List VI) (I : Nat → List Nat) (i r : Nat) : Bool := (bhd lb l i).any fun k => bit (I k) r
def eqn (lb : List (Nat × Int × Int)) (l : List VI) (U D I : Nat → List Nat) (i r : Nat) : Bool := bit (U i) r || (anyB lb l I i r && !bit (D i) r)
inductive Lv (lb : List (Nat × Int × Int)) (l : List VI) (U D : Nat → List Nat) (r : Nat) : Nat → Prop
 | use {i : Nat} (h : bit (U i) r = true) : Lv lb l U D r i
 | step {i k : Nat} (hk : k ∈ bhd lb l i) (h : Lv lb l U D r k) (hd : bit (D i) r = false) : Lv lb l U D r i
theorem eqn_mono {lb : List (Nat × Int × Int)} {l : List VI} {U D I I' : Nat → List Nat} (h : ∀ k r,bit (I k) r = true → bit (I' k) r = true) (i r : Nat) (he : eqn lb l U D I i r = true) : eqn lb l U D I' i r = true := by
 unfold eqn anyB at *
 rw [Bool.or_eq_true] at he ⊢
 rcases he with he | he
 ·exact .inl he
 ·rw [Bool.and_eq_true] at he ⊢
  refine .inr ⟨?_,he.2⟩
  obtain ⟨k,hk,hb⟩ := List.any_eq_true.1 he.1
  exact List.any_eq_true.2 ⟨k,hk,h k r hb⟩
theorem eqn_lv {lb : List (Nat × Int × Int)} {l : List VI} {U D I : Nat → List Nat} (h : ∀ k r,bit (I k) r = true → Lv lb l U D r k) (i r : Nat) (he : eqn lb l U D I i r = true) : Lv lb l U D r i := by
 unfold eqn anyB at he
 rw [Bool.or_eq_true,Bool.and_eq_true] at he
 rcases he with he | ⟨he,hd⟩
 ·exact .use he
 ·obtain ⟨k,hk,hb⟩ := List.any_eq_true.1 he
  exact .step hk (h k r hb) (by simpa using hd)
structure Grow (lb : List (Nat × Int × Int)) (l : List VI) (U D I : Nat → List Nat) : Prop where
 pre : ∀ i r,bit (I i) r = true → eqn lb l U D I i r = true
 snd : ∀ i r,bit (I i) r = true → Lv lb l U D r i
theorem upd_le {I : Nat → List Nat} {i : Nat} {A : List Nat} (h : ∀ r,bit (I i) r = true → bit A r = true) (k r : Nat) (hb : bit (I k) r = true) : bit (upd I i A k) r = true := by
 unfold upd; split
 ·subst_vars; exact h r hb
 ·exact hb
theorem Grow.upd {lb : List (Nat × Int × Int)} {l : List VI} {U D I : Nat → List Nat} (h : Grow lb l U D I) {i : Nat} {A : List Nat} (hA : ∀ r,bit A r = eqn lb l U D I i r) : Grow lb l U D (upd I i A) := by
 have hle := upd_le (I := I) (i := i) (A := A) fun r hb => by rw [hA]; exact h.pre i r hb
 refine ⟨fun j r hb => ?_,fun j r hb => ?_⟩
 ·refine eqn_mono hle j r ?_
  unfold Proofs.YtehlgnfhkidgoaaDoor.upd at hb
  split at hb
  ·subst_vars; rw [← hA]; exact hb
  ·exact h.pre j r hb
 ·unfold Proofs.YtehlgnfhkidgoaaDoor.upd at hb
  split at hb
  ·subst_vars; rw [hA] at hb; exact eqn_lv h.snd _ r hb
  ·exact h.snd j r hb
theorem lack_le {n m : Nat} {I I' : Nat → List Nat} (h : ∀ k r,bit (I k) r = true → bit (I' k) r = true) : lack n m I' ≤ lack n m I := by
 refine flt_le _ _ _ fun p hp => ?_
 simp only [Bool.not_eq_true'] at hp ⊢
 cases hb : bit (I p.1) p.2 with
 | false => rfl
 | true => rw [h _ _ hb] at hp; cases hp
theorem lack_lt {n m : Nat} {I I' : Nat → List Nat} (h : ∀ k r,bit (I k) r = true → bit (I' k) r = true) {i r : Nat} (hi : i < n) (hr : r < 64 * m) (h1 : bit (I' i) r = true) (h2 : bit (I i) r = false) : lack n m I' < lack n m I := by
 refine flt_lt _ _ _ (fun p hp => ?_) ((cells2_mem n m i r).2 ⟨hi,hr⟩) (by simp [h2]) (by simp [h1])
 simp only [Bool.not_eq_true'] at hp ⊢
 cases hb : bit (I p.1) p.2 with
 | false => rfl
 | true => rw [h _ _ hb] at hp; cases hp
theorem RS.keep {S S' : Store} {j n m : Nat} {ia : Nat → Nat} {I : Nat → List Nat} (h : RS S j n m ia I) (k : Keep [1,2] S S') (hj : j ∉ [1,2]) : RS S' j n m ia I :=
 ⟨k.get _ _ hj h.row,h.ge,fun i hi => k.get _ _ (by have := h.ge i hi; simp; omega) (h.set i hi),h.ok⟩
structure Rd (lb : List (Nat × Int × Int)) (l : List VI) (n m : Nat) (U D I0 I O : Nat → List Nat) (i : Nat) (ch : Bool) : Prop where
 grow : Grow lb l U D I
 more : lack n m I ≤ lack n m I0
 yes : ch = true → lack n m I < lack n m I0
 no : ch = false → I = I0 ∧ ∀ j,i ≤ j → j < n → (∀ r,bit (I j) r = eqn lb l U D I j r) ∧ ∀ r,bit (O j) r = anyB lb l I j r
theorem Rd.step {lb : List (Nat × Int × Int)} {l : List VI} {n m : Nat} {U D I0 I O : Nat → List Nat} {i : Nat} {ch : Bool} (h : Rd lb l n m U D I0 I O (i + 1) ch) (hi : i < n) {A B : List Nat} (hA : WOK m A) (hI : WOK m (I i)) (hB : ∀ r,bit B r = anyB lb l I i r) (hA2 : ∀ r,bit A r = eqn lb l U D I i r) :
  Rd lb l n m U D I0 (upd I i A) (upd O i B) i (!decide (A = I i) || ch) := by
 have hge : ∀ r,bit (I i) r = true → bit A r = true := fun r hb => by rw [hA2]; exact h.grow.pre i r hb
 have hle := upd_le (I := I) (i := i) (A := A) hge
 have hl := lack_le (n := n) (m := m) hle
 by_cases e : A = I i
 ·have hu : upd I i A = I := by funext j; unfold upd; split <;> simp_all
  rw [decide_eq_true e,Bool.not_true,Bool.false_or,hu]
  refine ⟨h.grow,h.more,h.yes,fun hc => ?_⟩
  obtain ⟨h1,h2⟩ := h.no hc
  refine ⟨h1,fun j hj hjn => ?_⟩
  by_cases ej : j = i
  ·subst ej
   rw [upd_same]
   exact ⟨fun r => by rw [← e]; exact hA2 r,hB⟩
  ·rw [upd_ne _ _ ej]
   exact h2 j (by omega) hjn
 ·rw [decide_eq_false e,Bool.not_false,Bool.true_or]
  obtain ⟨r,hr,h1,h2⟩ := bits_ne hA hI e hge
  have hlt := lack_lt (n := n) (m := m) hle hi hr (by rw [upd_same]; exact h1) h2
  refine ⟨h.grow.upd hA2,by have := h.more; omega,fun _ => by have := h.more; omega,fun hc => by cases hc⟩
theorem loop25a {f : VF} {lb : List (Nat × Int × Int)} {n m : Nat} {U D I0 : Nat → List Nat} {ua da : Nat → Nat} (hm : (f.regs + 63) / 64 = m) (hr : f.regs ≤ 1000000) (hn : n ≤ 1000000) (hfn : f.ins.length = n) (hlb : LabOK lb f.ins) (x0 x1 x2 x3 x4 x5 x9 x10 x11 x12 x15 x16 x17 x18 x19 x20 x21 : TV) : ∀ (i : Nat) (S : Store) (ia oa : Nat → Nat) (I O : Nat → List Nat) (ch : Bool) (x22 : TV),i ≤ n →
  FS S f lb n m ia oa I O → RS S 4 n m ua U → RS S 5 n m da D → Rd lb f.ins n m U D I0 I O i ch →
  ∃ (S' : Store) (ia' oa' : Nat → Nat) (I' O' : Nat → List Nat) (ch' : Bool) (y22 : TV),lp' (lim K) t25L0 [x0,x1,x2,x3,x4,x5,.ptr 3 54 0,.msl 4 0 0 n n 1,.msl 5 0 0 n n 1,x9,x10,x11,x12,.iv (.bool ch),.iv (.int .i64 ((i : Int) - 1)),x15,x16,x17,x18,x19,x20,x21,x22] S
   = .ret (.exit 4,[x0,x1,x2,x3,x4,x5,.ptr 3 54 0,.msl 4 0 0 n n 1,.msl 5 0 0 n n 1,x9,x10,x11,x12,.iv (.bool ch'),.iv (.int .i64 (-1)),x15,x16,x17,x18,x19,x20,x21,y22],S') ∧
   FS S' f lb n m ia' oa' I' O' ∧ RS S' 4 n m ua U ∧ RS S' 5 n m da D ∧ Rd lb f.ins n m U D I0 I' O' 0 ch'
 | 0,S,ia,oa,I,O,ch,x22,hi,hF,hU,hD,hR => by
  refine ⟨S,ia,oa,I,O,ch,.iv (.bool false),loop_at K _ _ t25L0.eq_1 ?_,hF,hU,hD,hR⟩
  rw [show ((0 : Nat) : Int) - 1 = -1 from rfl]
  simp (config := { maxSteps := 4000000 }) (disch := omega) only [go_sem]
 | i + 1,S,ia,oa,I,O,ch,x22,hi,hF,hU,hD,hR => by
  have hin : i < n := by omega
  obtain ⟨S1,A,B,a,b,c37,hF1,hA,hB,hbB,hbA,hk⟩ := call37 hF hm hr hn hfn hlb hin (hU.ok i hin) (hD.ok i hin) (hU.set i hin) (hD.set i hin)
  have hR1 := hR.step hin hA (hF.inn.ok i hin) (B := B) hbB (fun r => by rw [hbA r,hbB r]; rfl)
  have hU1 := hU.keep hk (by simp)
  have hD1 := hD.keep hk (by simp)
  have i1 := fun j => ix_RW (j := j) (v := 0) (cap := n) hin
  have s1 := sub_cF (fun i => TV.msl (ua i) 0 0 m m 1) hin
  have s2 := sub_cF (fun i => TV.msl (da i) 0 0 m m 1) hin
  have g1 := hU.row
  have g2 := hD.row
  rw [show (((i + 1 : Nat) : Int) - 1) = (i : Int) by omega]
  generalize (!decide (A = I i)) = bb at *
  obtain ⟨S',ia',oa',I',O',ch',y22,ih,hx⟩ := loop25a hm hr hn hfn hlb x0 x1 x2 x3 x4 x5 x9 x10 x11 x12 x15 x16 x17 x18 x19 x20 x21 i S1 _ _ _ _ (bb || ch) (.iv (.bool true)) (by omega) hF1 hU1 hD1 hR1
  refine ⟨S',ia',oa',I',O',ch',y22,loop_at K _ _ t25L0.eq_1 ?_,hx⟩
  cases bb with
  | true =>
   rw [Bool.true_or] at ih
   simp (config := { maxSteps := 4000000 }) (disch := omega) only [go_sem,i1,g1,g2,s1,s2,c37,wrap_i64]
   exact congrArg er ih
  | false =>
   rw [Bool.false_or] at ih
   simp (config := { maxSteps := 4000000 }) (disch := omega) only [go_sem,i1,g1,g2,s1,s2,c37,wrap_i64]
   exact congrArg er ih
theorem loop25b {f : VF} {lb : List (Nat × Int × Int)} {n m : Nat} {U D : Nat → List Nat} {ua da : Nat → Nat} (hm : (f.regs + 63) / 64 = m) (hr : f.regs ≤ 1000000) (hn : n ≤ 1000000) (hfn : f.ins.length = n) (hlb : LabOK lb f.ins) (x0 x1 x2 x3 x4 x9 x10 x11 x12 x15 x16 x17 x18 x19 x20 : TV) : ∀ (q : Nat) (S : Store) (ia oa : Nat → Nat) (I O : Nat → List Nat) (x14 x21 x22 : TV),lack n m I ≤ q →
  FS S f lb n m ia oa I O → RS S 4 n m ua U → RS S 5 n m da D → Grow lb f.ins U D I →
  ∃ (S' : Store) (ia' oa' : Nat → Nat) (I' O' : Nat → List Nat) (y14 y21 y22 : TV),lp' (lim K) t25L1 [x0,x1,x2,x3,x4,.iv (.int .i64 n),.ptr 3 54 0,.msl 4 0 0 n n 1,.msl 5 0 0 n n 1,x9,x10,x11,x12,.iv (.bool true),x14,x15,x16,x17,x18,x19,x20,x21,x22] S
   = .ret (.exit 2,[x0,x1,x2,x3,x4,.iv (.int .i64 n),.ptr 3 54 0,.msl 4 0 0 n n 1,.msl 5 0 0 n n 1,x9,x10,x11,x12,.iv (.bool false),y14,x15,x16,x17,x18,x19,x20,y21,y22],S') ∧
   FS S' f lb n m ia' oa' I' O' ∧ RS S' 4 n m ua U ∧ RS S' 5 n m da D ∧ Grow lb f.ins U D I' ∧ ∀ j,j < n → (∀ r,bit (I' j) r = eqn lb f.ins U D I' j r) ∧ ∀ r,bit (O' j) r = anyB lb f.ins I' j r
 | q,S,ia,oa,I,O,x14,x21,x22,hq,hF,hU,hD,hG => by
  obtain ⟨S1,ia1,oa1,I1,O1,ch,y22,l1,hF1,hU1,hD1,hR⟩ := loop25a (I0 := I) hm hr hn hfn hlb x0 x1 x2 x3 x4 (.iv (.int .i64 n)) x9 x10 x11 x12 x15 x16 x17 x18 x19 x20 (.iv (.bool true)) n S ia oa I O false x22 (Nat.le_refl _) hF hU hD ⟨hG,Nat.le_refl _,(fun h => by cases h),fun _ => ⟨rfl,fun j h1 h2 => by omega⟩⟩
  cases ch with
  | false =>
   obtain ⟨h1,h2⟩ := hR.no rfl
   refine ⟨S1,ia1,oa1,I1,O1,.iv (.int .i64 (-1)),.iv (.bool false),y22,?_,hF1,hU1,hD1,hR.grow,fun j hj => h2 j (Nat.zero_le _) hj⟩
   have l2 : lp' (lim K) t25L1 [x0,x1,x2,x3,x4,.iv (.int .i64 n),.ptr 3 54 0,.msl 4 0 0 n n 1,.msl 5 0 0 n n 1,x9,x10,x11,x12,.iv (.bool false),.iv (.int .i64 (-1)),x15,x16,x17,x18,x19,x20,.iv (.bool true),y22] S1 = .ret (.exit 2,[x0,x1,x2,x3,x4,.iv (.int .i64 n),.ptr 3 54 0,.msl 4 0 0 n n 1,.msl 5 0 0 n n 1,x9,x10,x11,x12,.iv (.bool false),.iv (.int .i64 (-1)),x15,x16,x17,x18,x19,x20,.iv (.bool false),y22],S1) := by
    refine loop_at K _ _ t25L1.eq_1 ?_
    simp (config := { maxSteps := 4000000 }) (disch := omega) only [go_sem]
   refine loop_at K _ _ t25L1.eq_1 ?_
   simp (config := { maxSteps := 4000000 }) (disch := omega) only [go_sem,wrap_i64]
   rw [l1]
   simp (config := { maxSteps := 4000000 }) (disch := omega) only [go_sem]
   exact congrArg er l2
  | true =>
   have hlt := hR.yes rfl
   match q,hq with
   | 0,hq => omega
   | q + 1,hq =>
    obtain ⟨S',ia',oa',I',O',y14,y21,z22,ih,hx⟩ := loop25b hm hr hn hfn hlb x0 x1 x2 x3 x4 x9 x10 x11 x12 x15 x16 x17 x18 x19 x20 q S1 ia1 oa1 I1 O1 (.iv (.int .i64 (-1))) (.iv (.bool true)) y22 (by omega) hF1 hU1 hD1 hR.grow
    refine ⟨S',ia',oa',I',O',y14,y21,z22,loop_at K _ _ t25L1.eq_1 ?_,hx⟩
    simp (config := { maxSteps := 4000000 }) (disch := omega) only [go_sem,wrap_i64]
    rw [l1]
    simp (config := { maxSteps := 4000000 }) (disch := omega) only [go_sem]
    exact congrArg er ih
theorem call9B (v : VI) (h : (15 ≤ v.op ∧ v.op ≤ 22) ∨ v.op = 24 ∨ v.op = 64 ∨ v.op = 74) : ∃ t',TagOk t' (usesM v) ∧ TM.Pure K 9 [.iv (.agg (encV v))] (.iv (.sl t' (TM.one (.int .i64) (usesM v)))) := by
 have hM : usesM v = tdy [v.a] := by unfold usesM; rw [if_neg (by omega),if_pos (by omega)]
 rw [hM]
 have h0 : ([.cells 0 false [vI v.a]] : Store)[0]? = some (.cells 0 false ([v.a].map vI ++ [])) := rfl
 obtain ⟨J,c22⟩ := call22 (by simp) (cap := 1) (by simp) h0 (tdy_tidy [v.a])
 have c21 := call21 v.op
 rw [decide_eq_false (by omega)] at c21
 refine ⟨.no,no_ok _,pure_ret (S := [.cells 0 false ((tdy [v.a]).map vI ++ J)]) (call_ret' K _ (fn := t9) rfl rfl ?_) (resolve_RW (j := 0) (v := 0) (b := false) (J := J) rfl 1)⟩
 simp only [vI,List.length_cons,List.length_nil,List.set_cons_zero,Nat.zero_add,Nat.reduceAdd] at c22
 rcases h with h | h | h | h <;> simp (config := { maxSteps := 4000000 }) (disch := omega) only [t9,go_sem,TM.undef,encV,List.map_cons,List.map_nil,c22,cpR_pure c21]
theorem call9N (v : VI) (h : v.op < 1 ∨ v.op = 23 ∨ (32 ≤ v.op ∧ v.op ≤ 63) ∨ v.op = 65 ∨ v.op = 66 ∨ v.op = 69 ∨ v.op = 70 ∨ v.op = 71 ∨ v.op = 73 ∨ 74 < v.op) : ∃ t',TagOk t' (usesM v) ∧ TM.Pure K 9 [.iv (.agg (encV v))] (.iv (.sl t' (TM.one (.int .i64) (usesM v)))) := by
 have hM : usesM v = [] := by unfold usesM; rw [if_neg (by omega),if_neg (by omega),if_neg (by omega)]
 rw [hM]
 have c21 := call21 v.op
 rw [decide_eq_false (by omega)] at c21
 refine ⟨.nil,TagOk.nil,call_pure t9 rfl rfl ?_⟩
 rcases h with h | h | h | h | h | h | h | h | h | h <;> simp (config := { maxSteps := 4000000 }) (disch := omega) only [t9,go_sem,TM.undef,encV,List.map_cons,List.map_nil,cpR_pure c21] <;> rfl
theorem call9C (v : VI) (hu : v.us.length ≤ 999990) (ht : TagOk v.tu v.us) (h : v.op = 67 ∨ v.op = 68 ∨ v.op = 72) : ∃ t',TagOk t' (usesM v) ∧ TM.Pure K 9 [.iv (.agg (encV v))] (.iv (.sl t' (TM.one (.int .i64) (usesM v)))) := by
 have hM : usesM v = tdy (v.us ++ [26]) := by unfold usesM; rw [if_neg (by omega),if_neg (by omega),if_pos h]
 rw [hM]
 have c21 := call21 v.op
 rw [decide_eq_false (by omega)] at c21
 rcases call23 v.tu v.us ht (by omega) [] with ⟨hu0,t0,ht0,c23⟩ | ⟨hu0,c23⟩
 ·rw [hu0] at c23 ⊢
  have e1 := ap_first (S := []) 26 ht0 .full
  have h0 : ([.cells 0 true [vI 26]] : Store)[0]? = some (.cells 0 true ([(26 : Int)].map vI ++ [])) := rfl
  obtain ⟨J,c22⟩ := call22 (by simp) (cap := 1) (by simp) h0 (tdy_tidy [(26 : Int)])
  refine ⟨.no,no_ok _,pure_ret (S := [.cells 0 true ((tdy [(26 : Int)]).map vI ++ J)]) (call_ret' K _ (fn := t9) rfl rfl ?_) (resolve_RW (j := 0) (v := 0) (b := true) (J := J) rfl 1)⟩
  simp only [vI,List.length_cons,List.length_nil,List.set_cons_zero,Nat.zero_add,Nat.reduceAdd,List.nil_append] at c22 e1
  rcases h with h | h | h <;> simp (config := { maxSteps := 4000000 }) (disch := omega) only [t9,go_sem,TM.undef,encV,List.map_cons,List.map_nil,hu0,c23,e1,c22,cpR_pure c21]
 ·have hS0 : ([.cells 0 true (v.us.map vI)] : Store)[0]? = some (.cells 0 true (v.us.map vI)) := rfl
  have e1 := ap_row (S := [.cells 0 true (v.us.map vI)]) true 26 hS0 (by omega) .full
  have h0 : ([.cells 1 true ((v.us ++ [26]).map vI)] : Store)[0]? = some (.cells 1 true ((v.us ++ [(26 : Int)]).map vI ++ [])) := by simp
  obtain ⟨J,c22⟩ := call22 (by simp; omega) (cap := v.us.length + 1) (by simp) h0 (tdy_tidy (v.us ++ [(26 : Int)]))
  refine ⟨.no,no_ok _,pure_ret (S := [.cells 1 true ((tdy (v.us ++ [(26 : Int)])).map vI ++ J)]) (call_ret' K _ (fn := t9) rfl rfl ?_) (resolve_RW (j := 0) (v := 1) (b := true) (J := J) rfl (v.us.length + 1))⟩
  rw [List.length_append,List.length_singleton] at c22
  simp only [List.set_cons_zero,Nat.zero_add,List.nil_append,List.length_nil] at c22 e1 c23
  rcases h with h | h | h <;> simp (config := { maxSteps := 4000000 }) (disch := omega) only [t9,go_sem,TM.undef,encV,List.map_cons,List.map_nil,c23,e1,c22,cpR_pure c21]
theorem call9 (v : VI) (hu : v.us.length ≤ 999990) (ht : TagOk v.tu v.us) : ∃ t',TagOk t' (usesM v) ∧ TM.Pure K 9 [.iv (.agg (encV v))] (.iv (.sl t' (TM.one (.int .i64) (usesM v)))) := by
 by_cases h1 : (1 ≤ v.op ∧ v.op ≤ 14) ∨ v.op = 25 ∨ (26 ≤ v.op ∧ v.op ≤ 31)
 ·exact call9A v h1
 ·by_cases h2 : (15 ≤ v.op ∧ v.op ≤ 22) ∨ v.op = 24 ∨ v.op = 64 ∨ v.op = 74
  ·exact call9B v h2
  ·by_cases h3 : v.op = 67 ∨ v.op = 68 ∨ v.op = 72
   ·exact call9C v hu ht h3
   ·exact call9N v (by omega)
theorem loop11 (d : Int) (b0 : Block) (x0 x1 x2 x5 x6 x7 : TV) : ∀ (k i : Nat) (x4 x9 : TV),i + k = 25 → 1 ≤ i →
  ∃ y4 y9,lp' (lim K) t11L0 [x0,x1,x2,.msl 1 (i - 1) 0 (3 + i) (3 + i) 1,x4,x5,x6,x7,.iv (.int .i64 (i : Int)),x9] [b0,.cells (i - 1) true (([d,26,31] ++ regs26.take i).map vI)]
   = .ret (.exit 1,[x0,x1,x2,.msl 1 24 0 28 28 1,y4,x5,x6,x7,.iv (.int .i64 25),y9],[b0,.cells 24 true (([d,26,31] ++ regs26.take 25).map vI)])
 | 0,i,x4,x9,h,hi => by
  obtain rfl : i = 25 := by omega
  refine ⟨x4,.iv (.bool false),loop_at K _ _ t11L0.eq_1 ?_⟩
  simp (config := { maxSteps := 4000000 }) (disch := omega) only [go_sem]
  rfl
 | k + 1,i,x4,x9,h,hi => by
  have hlen : ([d,26,31] ++ regs26.take i).length = 3 + i := by simp [regs26]; omega
  have e1 := ap_row (S := [b0,.cells (i - 1) true (([d,26,31] ++ regs26.take i).map vI)]) (j := 1) false ((i : Int) + 1) rfl (by omega) .full
  have ht : ([d,26,31] ++ regs26.take i) ++ [(i : Int) + 1] = [d,26,31] ++ regs26.take (i + 1) := by
   rw [take_succD (by simp [regs26]; omega),← List.append_assoc]
   congr 2
   simp [regs26,List.getD,show i < 26 by omega]
  rw [ht,hlen,show i - 1 + 1 = i by omega] at e1
  obtain ⟨y4,y9,ih⟩ := loop11 d b0 x0 x1 x2 x5 x6 x7 k (i + 1) (.iv (.int .i64 i)) (.iv (.bool true)) (by omega) (by omega)
  rw [show ((i + 1 : Nat) : Int) = (i : Int) + 1 by omega,show i + 1 - 1 = i by omega,show 3 + (i + 1) = 3 + i + 1 by omega] at ih
  refine ⟨y4,y9,loop_at K _ _ t11L0.eq_1 ?_⟩
  simp only [List.set_cons_succ,List.set_cons_zero] at e1
  generalize hX : ([d,26,31] ++ regs26.take i).map vI = X at *
  simp (config := { maxSteps := 4000000 }) (disch := omega) only [go_sem,e1,wrap_i64]
  exact congrArg er ih
theorem loop11a (d : Int) (x0 x1 x2 x4 x5 x6 x7 x9 : TV) : 
  ∃ y4 y9,lp' (lim K) t11L0 [x0,x1,x2,.msl 0 0 0 3 3 1,x4,x5,x6,x7,.iv (.int .i64 0),x9] [.cells 0 false ([d,26,31].map vI)]
   = .ret (.exit 1,[x0,x1,x2,.msl 1 24 0 28 28 1,y4,x5,x6,x7,.iv (.int .i64 25),y9],[.cells 0 false ([d,26,31].map vI),.cells 24 true (([d,26,31] ++ regs26.take 25).map vI)]) := by
 have e1 := ap_row0 (S := [.cells 0 false ([d,26,31].map vI)]) (j := 0) (C := [d,26,31]) false 1 rfl (by simp) .full
 obtain ⟨y4,y9,ih⟩ := loop11 d (.cells 0 false ([d,26,31].map vI)) x0 x1 x2 x5 x6 x7 24 1 (.iv (.int .i64 0)) (.iv (.bool true)) (by omega) (by omega)
 refine ⟨y4,y9,loop_at K _ _ t11L0.eq_1 ?_⟩
 rw [show ((1 : Nat) : Int) = 1 from rfl,show 1 - 1 = 0 from rfl,show 3 + 1 = 4 from rfl,show regs26.take 1 = [1] by decide] at ih
 simp only [List.length_cons,List.length_nil,Nat.zero_add,Nat.reduceAdd,List.cons_append,List.nil_append] at e1
 generalize hX : [d,26,31].map vI = X at *
 have hw : IntKind.i64.wrap 1 = 1 := by decide
 simp (config := { maxSteps := 4000000 }) (disch := omega) only [go_sem,hw,e1]
 exact congrArg er ih
theorem call11A (v : VI) (h : (1 ≤ v.op ∧ v.op ≤ 24) ∨ v.op = 64 ∨ v.op = 69 ∨ v.op = 70 ∨ v.op = 71 ∨ v.op = 73) : ∃ t',TagOk t' (defsM v) ∧ TM.Pure K 11 [.iv (.agg (encV v))] (.iv (.sl t' (TM.one (.int .i64) (defsM v)))) := by
 have hM : defsM v = tdy [v.d] := by unfold defsM; rw [if_pos (by omega)]
 rw [hM]
 have h0 : ([.cells 0 false [vI v.d]] : Store)[0]? = some (.cells 0 false ([v.d].map vI ++ [])) := rfl
 obtain ⟨J,c22⟩ := call22 (by simp) (cap := 1) (by simp) h0 (tdy_tidy [v.d])
 refine ⟨.no,no_ok _,pure_ret (S := [.cells 0 false ((tdy [v.d]).map vI ++ J)]) (call_ret' K _ (fn := t11) rfl rfl ?_) (resolve_RW (j := 0) (v := 0) (b := false) (J := J) rfl 1)⟩
 simp only [vI,List.length_cons,List.length_nil,List.set_cons_zero,Nat.zero_add,Nat.reduceAdd] at c22
 rcases h with h | h | h | h | h | h <;> simp (config := { maxSteps := 4000000 }) (disch := omega) only [t11,go_sem,TM.undef,encV,List.map_cons,List.map_nil,c22]
theorem call11N (v : VI) (h : v.op < 1 ∨ (25 ≤ v.op ∧ v.op ≤ 63) ∨ v.op = 65 ∨ v.op = 66 ∨ v.op = 68 ∨ v.op = 72 ∨ 73 < v.op) : ∃ t',TagOk t' (defsM v) ∧ TM.Pure K 11 [.iv (.agg (encV v))] (.iv (.sl t' (TM.one (.int .i64) (defsM v)))) := by
 have hM : defsM v = [] := by unfold defsM; rw [if_neg (by omega),if_neg (by omega)]
 rw [hM]
 refine ⟨.nil,TagOk.nil,call_pure t11 rfl rfl ?_⟩
 rcases h with h | h | h | h | h | h | h <;> simp (config := { maxSteps := 4000000 }) (disch := omega) only [t11,go_sem,TM.undef,encV,List.map_cons,List.map_nil] <;> rfl
theorem call11C (v : VI) (h : v.op = 67) : ∃ t',TagOk t' (defsM v) ∧ TM.Pure K 11 [.iv (.agg (encV v))] (.iv (.sl t' (TM.one (.int .i64) (defsM v)))) := by
 have hM : Tidy ([v.d,26,31] ++ regs26.take 25) (defsM v) := by
  unfold defsM
  rw [if_neg (by omega),if_pos h]
  have t := tdy_tidy (regs26 ++ [31,v.d])
  refine ⟨t.rise,fun x => (t.mem x).trans ?_⟩
  have h26 : ∀ x : Int,x ∈ regs26 ↔ x = 26 ∨ x ∈ regs26.take 25 := by
   intro x
   have e : regs26 = regs26.take 25 ++ [26] := by decide
   conv => lhs; rw [e]
   simp only [List.mem_append,List.mem_singleton]
   constructor <;> (rintro (h | h) <;> simp [h])
  simp only [List.mem_append,List.mem_cons,List.not_mem_nil,or_false,h26]
  constructor
  ·rintro ⟨h1,h2⟩
   refine ⟨?_,h2⟩
   rcases h1 with (h1 | h1) | h1 | h1
   ·exact .inl (.inr (.inl h1))
   ·exact .inr h1
   ·exact .inl (.inr (.inr h1))
   ·exact .inl (.inl h1)
  ·rintro ⟨h1,h2⟩
   refine ⟨?_,h2⟩
   rcases h1 with (h1 | h1 | h1) | h1
   ·exact .inr (.inr h1)
   ·exact .inl (.inl h1)
   ·exact .inr (.inl h1)
   ·exact .inl (.inr h1)
 have hlen : ([v.d,26,31] ++ regs26.take 25).length = 28 := by simp [regs26]
 obtain ⟨y4,y9,lo⟩ := loop11a v.d (.iv (.agg (encV v))) (.lb ((encV v).map .iv)) (.iv (.sl .nil [])) (.tup []) (.iv (.bool false)) (.iv (.bool false)) (.iv (.bool true)) (.tup [])
 rw [encV_tv,encV_eq] at lo
 have h0 : ([.cells 0 false ([v.d,26,31].map vI),.cells 24 true (([v.d,26,31] ++ regs26.take 25).map vI)] : Store)[1]? = some (.cells 24 true (([v.d,26,31] ++ regs26.take 25).map vI ++ [])) := by rw [List.append_nil]; rfl
 obtain ⟨J,c22⟩ := call22 (by omega) (cap := 28) (by omega) h0 hM
 rw [hlen] at c22
 refine ⟨.no,no_ok _,pure_ret (S := [.cells 0 false ([v.d,26,31].map vI),.cells 24 true ((defsM v).map vI ++ J)]) (call_ret' K _ (fn := t11) rfl rfl ?_) (resolve_RW (j := 1) (v := 24) (b := true) (J := J) rfl 28)⟩
 simp only [List.set_cons_succ,List.set_cons_zero] at c22
 simp (config := { maxSteps := 4000000 }) (disch := omega) only [t11,go_sem,TM.undef,encV,List.map_cons,List.map_nil]
 have hd3 : [v.d,26,31].map vI = [TV.iv (.int .i64 v.d),.iv (.int .i64 26),.iv (.int .i64 31)] := rfl
 generalize hX : ([v.d,26,31] ++ regs26.take 25).map vI = X at *
 rw [hd3] at lo c22
 rw [lo]
 simp (config := { maxSteps := 4000000 }) (disch := omega) only [go_sem,c22]
 rfl
theorem call11 (v : VI) : ∃ t',TagOk t' (defsM v) ∧ TM.Pure K 11 [.iv (.agg (encV v))] (.iv (.sl t' (TM.one (.int .i64) (defsM v)))) := by
 by_cases h1 : (1 ≤ v.op ∧ v.op ≤ 24) ∨ v.op = 64 ∨ v.op = 69 ∨ v.op = 70 ∨ v.op = 71 ∨ v.op = 73
 ·exact call11A v h1
 ·by_cases h3 : v.op = 67
  ·exact call11C v h3
  ·exact call11N v (by omega)
theorem lkB_box2 (l : List (Nat × Int × Int)) (c : Nat) (k : Int) : lkB (.leaf .int) (.agg [.int .i64 0]) true (some (.mp (mpR boxI l) c)) (.iv (.int .i64 k)) = some (.tup [.iv (.agg [.int .i64 (cntR l k)]),.iv (.bool (hasR l k))]) := by
 rw [lkB_mp]
 simp only [cntR,hasR]
 cases getR l k <;> rfl
def firstL (l : List VI) (L : Int) : Option Int := (l.findIdx? fun x => decide (x.op = 65) && decide (x.lb = L)).map fun k : Nat => (k : Int)
theorem firstL_snoc (l : List VI) (x : VI) (L : Int) : firstL (l ++ [x]) L = match firstL l L with
  | some k => some k
  | none => if x.op = 65 ∧ x.lb = L then some (l.length : Int) else none := by
 unfold firstL
 rw [List.findIdx?_append]
 cases h : l.findIdx? (fun x => decide (x.op = 65) && decide (x.lb = L)) with
 | some k => simp
 | none =>
  by_cases e : x.op = 65 ∧ x.lb = L
  ·simp [e]
  ·rw [if_neg e]
   have : (decide (x.op = 65) && decide (x.lb = L)) = false := by
    cases h1 : (decide (x.op = 65) && decide (x.lb = L)) with
    | false => rfl
    | true => simp at h1; exact absurd h1 e
   simp [List.findIdx?_cons,this]
structure RP (S : Store) (j n m i : Nat) (ia : Nat → Nat) (I : Nat → List Nat) : Prop where
 row : S[j]? = some (.cells 0 false (cF n fun q => if q < i then .msl (ia q) 0 0 m m 1 else .iv (.sl .nil [])))
 ge : ∀ q,q < i → 6 ≤ ia q
 set : ∀ q,q < i → S[ia q]? = some (.cells 0 false ((I q).map uI))
 ok : ∀ q,q < i → WOK m (I q)
theorem RP.done {S : Store} {j n m : Nat} {ia : Nat → Nat} {I : Nat → List Nat} (h : RP S j n m n ia I) : RS S j n m ia I := by
 refine ⟨?_,h.ge,h.set,h.ok⟩
 rw [h.row]
 congr 2
 apply List.map_congr_left
 intro q hq
 rw [if_pos (List.mem_range.1 hq)]
def LOW : List Nat := [0,1,2,4,5]
theorem RP.step {S S' : Store} {j n m i : Nat} {ia : Nat → Nat} {I : Nat → List Nat} (h : RP S j n m i ia I) (k : Keep LOW S S') {a : Nat} {W : List Nat} (ha : 6 ≤ a) (hW : WOK m W) (hr : S'[j]? = some (.cells 0 false (cF n (upd (fun q => if q < i then .msl (ia q) 0 0 m m 1 else .iv (.sl .nil [])) i (.msl a 0 0 m m 1))))) (hs : S'[a]? = some (.cells 0 false (W.map uI))) : RP S' j n m (i + 1) (upd ia i a) (upd I i W) := by
 refine ⟨?_,fun q hq => ?_,fun q hq => ?_,fun q hq => ?_⟩
 ·rw [hr]
  congr 3
  funext q
  unfold upd
  by_cases e : q = i
  ·subst e; simp
  ·by_cases e2 : q < i
   ·rw [if_neg e,if_neg e]; dsimp only; rw [if_pos e2,if_pos (by omega)]
   ·rw [if_neg e]; dsimp only; rw [if_neg e2,if_neg (by omega)]
 ·unfold upd; split
  ·exact ha
  ·exact h.ge q (by omega)
 ·by_cases e : q = i
  ·subst e; rw [upd_same,upd_same]; exact hs
  ·rw [upd_ne _ _ e,upd_ne _ _ e]
   have := h.ge q (by omega)
   exact k.get _ _ (by simp [LOW]; omega) (h.set q (by omega))
 ·unfold upd; split
  ·exact hW
  ·exact h.ok q (by omega)
structure FP (S : Store) (f : VF) (lb : List (Nat × Int × Int)) (n m i : Nat) (ia oa ua da : Nat → Nat) (I O U D : Nat → List Nat) : Prop where
 lab : ∃ c,S[0]? = some (.mp (mpR boxI lb) c)
 lbs : ∀ L,getR lb L = firstL (f.ins.take i) L
 inn : RP S 1 n m i ia I
 out : RP S 2 n m i oa O
 us : RP S 4 n m i ua U
 ds : RP S 5 n m i da D
 flw : S[3]? = some (.cells 54 false [.iv (.int .i64 f.fn),.iv (.int .i64 f.regs),.iv (.int .i64 f.sl),.iv (.int .i64 f.nd),.iv (.int .i64 f.pr),.iv (.bool f.rs),.iv (.sl f.ti (f.ins.map encV)),.map 0,.msl 1 0 0 n n 1,.msl 2 0 0 n n 1])
 len : 6 ≤ S.length
 zer : ∀ q r,q < i → bit (I q) r = false
 use : ∀ q r,q < i → (bit (U q) r = true ↔ (r : Int) ∈ usesM (f.ins.getD q default) ∧ r < f.regs)
 dfn : ∀ q r,q < i → (bit (D q) r = true ↔ (r : Int) ∈ defsM (f.ins.getD q default) ∧ r < f.regs)
theorem usesM_pos (v : VI) : ∀ x ∈ usesM v,0 ≤ x := by
 intro x hx
 unfold usesM at hx
 repeat' split at hx
 all_goals first | (have := tdy_pos hx; omega) | cases hx
theorem defsM_pos (v : VI) : ∀ x ∈ defsM v,0 ≤ x := by
 intro x hx
 unfold defsM at hx
 repeat' split at hx
 all_goals first | (have := tdy_pos hx; omega) | cases hx
theorem usesM_len (v : VI) : (usesM v).length ≤ v.us.length + 2 := by
 unfold usesM
 repeat' split
 ·exact Nat.le_trans (tdy_len _) (by simp)
 ·exact Nat.le_trans (tdy_len _) (by simp)
 ·exact Nat.le_trans (tdy_len _) (by simp)
 ·simp
theorem defsM_len (v : VI) : (defsM v).length ≤ 30 := by
 unfold defsM
 repeat' split
 ·exact Nat.le_trans (tdy_len _) (by simp)
 ·exact Nat.le_trans (tdy_len _) (by simp [regs26])
 ·simp
def lay4 (T : Store) (r1 r2 r4 r5 cU cD cI cO : Block) : Store := ((((T ++ [cU] ++ [cD]).set 4 r4).set 5 r5 ++ [cI] ++ [cO]).set 1 r1).set 2 r2
theorem lay4_eq {T : Store} (r1 r2 r4 r5 cU cD cI cO : Block) (h6 : 6 ≤ T.length) : lay4 T r1 r2 r4 r5 cU cD cI cO = (((T.set 4 r4).set 5 r5).set 1 r1).set 2 r2 ++ [cU,cD,cI,cO] := by
 unfold lay4
 have e1 : T ++ [cU] ++ [cD] = T ++ [cU,cD] := by simp
 have e2 : ((T ++ [cU,cD]).set 4 r4).set 5 r5 = (T.set 4 r4).set 5 r5 ++ [cU,cD] := by
  rw [List.set_append_left _ _ (by omega),List.set_append_left _ _ (by rw [List.length_set]; omega)]
 have hX : ((T.set 4 r4).set 5 r5).length = T.length := by simp
 rw [e1,e2]
 generalize (T.set 4 r4).set 5 r5 = X at *
 have e3 : X ++ [cU,cD] ++ [cI] ++ [cO] = X ++ [cU,cD,cI,cO] := by simp
 rw [e3,List.set_append_left _ _ (by omega),List.set_append_left _ _ (by rw [List.length_set]; omega)]
theorem lay4_len (T : Store) (r1 r2 r4 r5 cU cD cI cO : Block) : (lay4 T r1 r2 r4 r5 cU cD cI cO).length = T.length + 4 := by unfold lay4; simp
theorem lay4_low {T : Store} (r1 r2 r4 r5 cU cD cI cO : Block) (h6 : 6 ≤ T.length) : (lay4 T r1 r2 r4 r5 cU cD cI cO)[0]? = T[0]? ∧ (lay4 T r1 r2 r4 r5 cU cD cI cO)[3]? = T[3]? ∧ (lay4 T r1 r2 r4 r5 cU cD cI cO)[1]? = some r1 ∧ (lay4 T r1 r2 r4 r5 cU cD cI cO)[2]? = some r2 ∧ (lay4 T r1 r2 r4 r5 cU cD cI cO)[4]? = some r4 ∧ (lay4 T r1 r2 r4 r5 cU cD cI cO)[5]? = some r5 := by
 rw [lay4_eq _ _ _ _ _ _ _ _ h6]
 refine ⟨?_,?_,?_,?_,?_,?_⟩ <;> rw [List.getElem?_append_left (by simp; omega)]
 ·rw [get_setN (by decide),get_setN (by decide),get_setN (by decide),get_setN (by decide)]
 ·rw [get_setN (by decide),get_setN (by decide),get_setN (by decide),get_setN (by decide)]
 ·rw [get_setN (by decide),get_setS (by simp; omega)]
 ·rw [get_setS (by simp; omega)]
 ·rw [get_setN (by decide),get_setN (by decide),get_setN (by decide),get_setS (by omega)]
 ·rw [get_setN (by decide),get_setN (by decide),get_setS (by simp; omega)]
theorem lay4_new {T : Store} (r1 r2 r4 r5 cU cD cI cO : Block) (h6 : 6 ≤ T.length) : (lay4 T r1 r2 r4 r5 cU cD cI cO)[T.length]? = some cU ∧ (lay4 T r1 r2 r4 r5 cU cD cI cO)[T.length + 1]? = some cD ∧ (lay4 T r1 r2 r4 r5 cU cD cI cO)[T.length + 2]? = some cI ∧ (lay4 T r1 r2 r4 r5 cU cD cI cO)[T.length + 3]? = some cO := by
 rw [lay4_eq _ _ _ _ _ _ _ _ h6]
 have hl : ((((T.set 4 r4).set 5 r5).set 1 r1).set 2 r2).length = T.length := by simp
 generalize (((T.set 4 r4).set 5 r5).set 1 r1).set 2 r2 = X at *
 rw [← hl]
 exact ⟨gN0 ..,gN1 ..,gN2 ..,gN3 ..⟩
theorem lay4_keep {T : Store} (r1 r2 r4 r5 cU cD cI cO : Block) (h6 : 6 ≤ T.length) : Keep LOW T (lay4 T r1 r2 r4 r5 cU cD cI cO) := by
 refine ⟨by rw [lay4_len]; omega,fun q b hq hb => ?_⟩
 simp only [LOW,List.mem_cons,List.not_mem_nil,or_false,not_or] at hq
 rw [lay4_eq _ _ _ _ _ _ _ _ h6]
 refine get_appO ?_ _
 rw [get_setN (by omega),get_setN (by omega),get_setN (by omega),get_setN (by omega)]
 exact hb
def flB (f : VF) (n : Nat) : Block := .cells 54 false [.iv (.int .i64 f.fn),.iv (.int .i64 f.regs),.iv (.int .i64 f.sl),.iv (.int .i64 f.nd),.iv (.int .i64 f.pr),.iv (.bool f.rs),.iv (.sl f.ti (f.ins.map encV)),.map 0,.msl 1 0 0 n n 1,.msl 2 0 0 n n 1]
theorem lay_facts {f : VF} {n m : Nat} (hm : (f.regs + 63) / 64 = m) (hr : f.regs ≤ 1000000) (T : Store) (h6 : 6 ≤ T.length) (g1 g2 g4 g5 : Nat → TV) (b1 : T[1]? = some (Block.cells 0 false (cF n g1))) (b2 : T[2]? = some (Block.cells 0 false (cF n g2))) (b4 : T[4]? = some (Block.cells 0 false (cF n g4))) (b5 : T[5]? = some (Block.cells 0 false (cF n g5))) (b3 : T[3]? = some (flB f n))
  (tU tD : Tag) (U D : List Int) (hU : U.length ≤ 2000000) (hD : D.length ≤ 2000000) (pU : ∀ x ∈ U,0 ≤ x) (pD : ∀ x ∈ D,0 ≤ x) (r1 r2 r4 r5 : Block) :
  ∃ WU WD WI WO : List Nat,(lim K).call 36 [.iv (.int .i64 f.regs),.iv (.sl tU (TM.one (.int .i64) U))] T = .ret (.msl T.length 0 0 m m 1,T ++ [Block.cells 0 false (WU.map uI)]) ∧
   (lim K).call 36 [.iv (.int .i64 f.regs),.iv (.sl tD (TM.one (.int .i64) D))] (T ++ [Block.cells 0 false (WU.map uI)]) = .ret (.msl (T.length + 1) 0 0 m m 1,T ++ [Block.cells 0 false (WU.map uI)] ++ [Block.cells 0 false (WD.map uI)]) ∧
   (lim K).call 36 [.iv (.int .i64 f.regs),.iv (.sl .nil [])] (((T ++ [Block.cells 0 false (WU.map uI)] ++ [Block.cells 0 false (WD.map uI)]).set 4 r4).set 5 r5) = .ret (.msl (T.length + 2) 0 0 m m 1,((T ++ [Block.cells 0 false (WU.map uI)] ++ [Block.cells 0 false (WD.map uI)]).set 4 r4).set 5 r5 ++ [Block.cells 0 false (WI.map uI)]) ∧
   (lim K).call 36 [.iv (.int .i64 f.regs),.iv (.sl .nil [])] (((T ++ [Block.cells 0 false (WU.map uI)] ++ [Block.cells 0 false (WD.map uI)]).set 4 r4).set 5 r5 ++ [Block.cells 0 false (WI.map uI)]) = .ret (.msl (T.length + 3) 0 0 m m 1,((T ++ [Block.cells 0 false (WU.map uI)] ++ [Block.cells 0 false (WD.map uI)]).set 4 r4).set 5 r5 ++ [Block.cells 0 false (WI.map uI)] ++ [Block.cells 0 false (WO.map uI)]) ∧
   (T ++ [Block.cells 0 false (WU.map uI)] ++ [Block.cells 0 false (WD.map uI)])[4]? = some (Block.cells 0 false (cF n g4)) ∧ ((T ++ [Block.cells 0 false (WU.map uI)] ++ [Block.cells 0 false (WD.map uI)]).set 4 r4)[5]? = some (Block.cells 0 false (cF n g5)) ∧
   (((T ++ [Block.cells 0 false (WU.map uI)] ++ [Block.cells 0 false (WD.map uI)]).set 4 r4).set 5 r5)[3]? = some (flB f n) ∧
   (((T ++ [Block.cells 0 false (WU.map uI)] ++ [Block.cells 0 false (WD.map uI)]).set 4 r4).set 5 r5 ++ [Block.cells 0 false (WI.map uI)] ++ [Block.cells 0 false (WO.map uI)])[1]? = some (Block.cells 0 false (cF n g1)) ∧
   ((((T ++ [Block.cells 0 false (WU.map uI)] ++ [Block.cells 0 false (WD.map uI)]).set 4 r4).set 5 r5 ++ [Block.cells 0 false (WI.map uI)] ++ [Block.cells 0 false (WO.map uI)]).set 1 r1)[2]? = some (Block.cells 0 false (cF n g2)) ∧
   WOK m WU ∧ WOK m WD ∧ WOK m WI ∧ WOK m WO ∧ (∀ r : Nat,bit WU r = true ↔ (r : Int) ∈ U ∧ r < f.regs) ∧ (∀ r : Nat,bit WD r = true ↔ (r : Int) ∈ D ∧ r < f.regs) ∧ (∀ r : Nat,bit WI r = false) := by
 obtain ⟨WU,e1,w1,u1⟩ := call36 hr tU U hU pU T
 rw [hm] at e1 w1
 obtain ⟨WD,e2,w2,u2⟩ := call36 hr tD D hD pD (T ++ [Block.cells 0 false (WU.map uI)])
 rw [hm] at e2 w2
 obtain ⟨WI,e3,w3,u3⟩ := call36 hr .nil [] (by simp) (by simp) (((T ++ [Block.cells 0 false (WU.map uI)] ++ [Block.cells 0 false (WD.map uI)]).set 4 r4).set 5 r5)
 rw [hm] at e3 w3
 obtain ⟨WO,e4,w4,u4⟩ := call36 hr .nil [] (by simp) (by simp) (((T ++ [Block.cells 0 false (WU.map uI)] ++ [Block.cells 0 false (WD.map uI)]).set 4 r4).set 5 r5 ++ [Block.cells 0 false (WI.map uI)])
 rw [hm] at e4 w4
 rw [one_nil] at e3 e4
 have l2 : (T ++ [Block.cells 0 false (WU.map uI)]).length = T.length + 1 := by simp
 have l3 : (((T ++ [Block.cells 0 false (WU.map uI)] ++ [Block.cells 0 false (WD.map uI)]).set 4 r4).set 5 r5).length = T.length + 2 := by simp
 have l4 : (((T ++ [Block.cells 0 false (WU.map uI)] ++ [Block.cells 0 false (WD.map uI)]).set 4 r4).set 5 r5 ++ [Block.cells 0 false (WI.map uI)]).length = T.length + 3 := by simp
 rw [l2] at e2
 rw [l3] at e3
 rw [l4] at e4
 refine ⟨WU,WD,WI,WO,e1,e2,e3,e4,?_,?_,?_,?_,?_,w1,w2,w3,w4,u1,u2,fun r => ?_⟩
 ·exact get_appO (get_appO b4 _) _
 ·rw [get_setN (by decide)]; exact get_appO (get_appO b5 _) _
 ·rw [get_setN (by decide),get_setN (by decide)]; exact get_appO (get_appO b3 _) _
 ·refine get_appO (get_appO ?_ _) _
  rw [get_setN (by decide),get_setN (by decide)]; exact get_appO (get_appO b1 _) _
 ·rw [get_setN (by decide)]
  refine get_appO (get_appO ?_ _) _
  rw [get_setN (by decide),get_setN (by decide)]; exact get_appO (get_appO b2 _) _
 ·cases h : bit WI r with
  | false => rfl
  | true => have := (u3 r).1 h; simp at this
end Go.Proofs.YtehlgnfhkidgoaaDoor
