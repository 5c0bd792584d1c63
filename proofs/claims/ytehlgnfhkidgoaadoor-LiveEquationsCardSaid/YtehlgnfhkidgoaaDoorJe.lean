/- Some texts of the proof, joined. Condition: none. -/
import Derived.Test.YtehlgnfhkidgoaaDoorJd
import Derived.Test.YtehlgnfhkidgoaaDoorTmE
set_option maxRecDepth 100000
set_option maxHeartbeats 64000000
set_option linter.unusedSimpArgs false
set_option linter.unusedVariables false
namespace Go.Proofs.YtehlgnfhkidgoaaDoor
open Go Go.TM Go.ChangeShapes Go.WideShapes
theorem loop5b {fn sl nd pr : Int} {rg : Nat} {rs : Bool} {ti : Tag} {ins : List VI} (hn : ins.length ≤ 1000) (hrg : 32 ≤ rg ∧ rg ≤ 100000) (hus : ∀ x ∈ ins,x.us.length ≤ 999990 ∧ TagOk x.tu x.us) {I O : Nat → List Nat} {m : Nat} (hm : m ≤ 100000) (hok : ∀ q,q < ins.length → WOK m (I q) ∧ WOK m (O q)) (he : ∀ i,i < ins.length → Eq1 ins rg I O (usesM (ins.getD i default)) (defsM (ins.getD i default)) i) (tA tB : Tag) (x0 x2 x4 x6 x15 x16 x17 : TV) : ∀ (k i : Nat) (x8 x9 x10 x11 x12 x13 x14 x18 x19 x20 x21 x22 x23 : TV),i + k = ins.length →
  ∃ (y8 y9 y10 y11 y12 y13 y14 y18 y19 y20 y21 y22 y23 : TV),lp' (lim K) t5L1 [x0,envG fn rg sl nd pr rs ti ins,x2,.iv (.sl tA (rowsL I ins.length)),x4,.iv (.sl tB (rowsL O ins.length)),x6,.iv (.int .i64 i),x8,x9,x10,x11,x12,x13,x14,x15,x16,x17,x18,x19,x20,x21,x22,x23] []
   = .ret (.exit 0,[x0,envG fn rg sl nd pr rs ti ins,x2,.iv (.sl tA (rowsL I ins.length)),x4,.iv (.sl tB (rowsL O ins.length)),x6,.iv (.int .i64 ins.length),y8,y9,y10,y11,y12,y13,y14,x15,x16,x17,y18,y19,y20,y21,y22,y23],[])
 | 0,i,x8,x9,x10,x11,x12,x13,x14,x18,x19,x20,x21,x22,x23,h => by
  obtain rfl : i = ins.length := by omega
  refine ⟨x8,x9,x10,x11,x12,x13,x14,.iv (.bool false),x19,x20,x21,x22,x23,loop_at K _ _ t5L1.eq_1 ?_⟩
  have hlen : (ins.map encV).length = ins.length := List.length_map _
  unfold envG
  simp (config := { maxSteps := 4000000 }) (disch := omega) only [go_sem,hlen]
 | k + 1,i,x8,x9,x10,x11,x12,x13,x14,x18,x19,x20,x21,x22,x23,h => by
  have hi : i < ins.length := by omega
  have hlen : (ins.map encV).length = ins.length := List.length_map _
  have hix := ix_map (w := 8) (f := encV) encV_len (t := ti) (l := ins) (i := (i : Int)) (by omega)
  rw [Int.toNat_natCast,encV_eq] at hix
  obtain ⟨hu1,hu2⟩ := hus (ins.getD i default) (by simp only [List.getD,List.getElem?_eq_getElem hi,Option.getD_some]; exact List.getElem_mem _)
  obtain ⟨tU,htU,c9⟩ := call9 (ins.getD i default) hu1 hu2
  obtain ⟨tD,htD,c11⟩ := call11 (ins.getD i default)
  have lU := usesM_len (ins.getD i default)
  have lD := defsM_len (ins.getD i default)
  obtain ⟨y12,y13,y14,y19,y20,y21,y22,y23,l1⟩ := loop5a (fn := fn) (sl := sl) (nd := nd) (pr := pr) (rs := rs) (ti := ti) (tu := tU) (td := tD) hn hrg.2 (by omega) (by omega) hm hok hi (he i hi) tA tB x0 x2 x4 x6 x15 x16 x17 (.iv (.bool true)) (rg - 1) 1 x12 x13 x14 x19 x20 x21 x22 x23 (by omega) (Nat.le_refl _)
  obtain ⟨z8,z9,z10,z11,z12,z13,z14,z18,z19,z20,z21,z22,z23,ih⟩ := loop5b (fn := fn) (sl := sl) (nd := nd) (pr := pr) (rs := rs) (ti := ti) hn hrg hus hm hok he tA tB x0 x2 x4 x6 x15 x16 x17 k (i + 1) (envV (ins.getD i default)) (.iv (.sl tU (TM.one (.int .i64) (usesM (ins.getD i default))))) (.iv (.sl tD (TM.one (.int .i64) (defsM (ins.getD i default))))) (.iv (.int .i64 (max rg 1 : Nat))) y12 y13 y14 (.iv (.bool true)) y19 y20 y21 y22 y23 (by omega)
  rw [show ((i + 1 : Nat) : Int) = (i : Int) + 1 by omega] at ih
  rw [show ((1 : Nat) : Int) = 1 from rfl] at l1
  refine ⟨z8,z9,z10,z11,z12,z13,z14,z18,z19,z20,z21,z22,z23,loop_at K _ _ t5L1.eq_1 ?_⟩
  rw [encV_eq] at c9 c11
  generalize ins.getD i default = x at *
  generalize usesM x = u at *
  generalize defsM x = d at *
  unfold envG envV at *
  simp (config := { maxSteps := 4000000 }) (disch := omega) only [go_sem,hlen,hix,cpR_pure c9,cpR_pure c11]
  rw [l1]
  simp (config := { maxSteps := 4000000 }) (disch := omega) only [go_sem,wrap_i64]
  exact congrArg er ih
theorem any_one (p : Nat → Bool) (a : Nat) : [a].any p = p a := by simp
theorem eq1_of {f : VF} (hc : f.ins.any (badI f.regs f.ins) = false) {lb : List (Nat × Int × Int)} {I O U D : Nat → List Nat} (h1 : ∀ L,getR lb L = firstL f.ins L) (h2 : ∀ j r,j < f.ins.length → (bit (U j) r = true ↔ (r : Int) ∈ usesM (f.ins.getD j default) ∧ r < f.regs)) (h3 : ∀ j r,j < f.ins.length → (bit (D j) r = true ↔ (r : Int) ∈ defsM (f.ins.getD j default) ∧ r < f.regs))
  (h4 : ∀ j,j < f.ins.length → (∀ r,bit (I j) r = eqn lb f.ins U D I j r) ∧ ∀ r,bit (O j) r = anyB lb f.ins I j r) {i : Nat} (hi : i < f.ins.length) : Eq1 f.ins f.regs I O (usesM (f.ins.getD i default)) (defsM (f.ins.getD i default)) i := by
 have hg : (26 ≤ (f.ins.getD i default).op ∧ (f.ins.getD i default).op ≤ 31) ∨ (f.ins.getD i default).op = 66 → ∃ q : Nat,firstL f.ins (f.ins.getD i default).lb = some (q : Int) ∧ q < f.ins.length := fun h => goes_label hc hi (by
  unfold goesX
  rcases h with h | h
  ·rw [decide_eq_true h]; rfl
  ·rw [decide_eq_true h,Bool.or_true,Bool.true_or])
 refine ⟨fun r hr => ?_,fun r hr => ?_,hg⟩
 ·have eU : bit (U i) r = decide ((r : Int) ∈ usesM (f.ins.getD i default)) := by
   have := h2 i r hi
   cases h : bit (U i) r with
   | true => exact (decide_eq_true (this.1 h).1).symm
   | false => exact (decide_eq_false fun hm => by rw [this.2 ⟨hm,hr⟩] at h; cases h).symm
  have eD : bit (D i) r = decide ((r : Int) ∈ defsM (f.ins.getD i default)) := by
   have := h3 i r hi
   cases h : bit (D i) r with
   | true => exact (decide_eq_true (this.1 h).1).symm
   | false => exact (decide_eq_false fun hm => by rw [this.2 ⟨hm,hr⟩] at h; cases h).symm
  rw [(h4 i hi).1 r,(h4 i hi).2 r]
  unfold eqn
  rw [eU,eD]
 ·rw [(h4 i hi).2 r]
  unfold anyB bhd cntR
  rw [h1]
  by_cases hT : (f.ins.getD i default).op = 68 ∨ (f.ins.getD i default).op = 72
  ·rw [if_pos hT,if_pos hT]; rfl
  ·rw [if_neg hT,if_neg hT,List.any_append]
   congr 1
   ·by_cases hG : (26 ≤ (f.ins.getD i default).op ∧ (f.ins.getD i default).op ≤ 31) ∨ (f.ins.getD i default).op = 66
    ·obtain ⟨q,hq,_⟩ := hg hG
     rw [if_pos hG,if_pos hG,any_one,hq]; rfl
    ·rw [if_neg hG,if_neg hG]; rfl
   ·split
    ·rw [any_one]
    ·rfl
theorem law5 (fn rg sl nd pr : Int) (rs : Bool) (ti : Tag) (ins : List VI) (hn : ins.length ≤ 9223372036854775807) (ht : ∀ x ∈ ins,TagOk x.tu x.us) : ∃ S,(lim K).call 5 [.iv (.agg (encG fn rg sl nd pr rs ti ins))] [] = .ret (.iv (.bool true),S) := by
 obtain ⟨b,c6,hb⟩ := call6 fn rg sl nd pr rs ti ins hn
 cases b with
 | true =>
  refine ⟨[],call_ret' K _ (fn := t5) rfl rfl ?_⟩
  unfold encG at *
  simp (config := { maxSteps := 4000000 }) (disch := omega) only [t5,go_sem,TM.undef,cpR_pure c6,cpR_pure call7]
 | false =>
  obtain ⟨h80,h120,h30⟩ := hb rfl
  have hus : ∀ x ∈ ins,x.us.length ≤ 999990 ∧ TagOk x.tu x.us := fun x hx => ⟨by have := h30 x hx; omega,ht x hx⟩
  have c35 := call35 fn rg sl nd pr rs ti ins (by omega) hus
  cases hc : chkM rg sl nd pr ins with
  | false =>
   rw [hc,if_neg (by decide)] at c35
   have c13 := bad13 fn rg sl nd pr rs ti ins c35
   have c15 := bad15 fn rg sl nd pr rs ti ins c35
   refine ⟨[],call_ret' K _ (fn := t5) rfl rfl ?_⟩
   unfold encG at *
   simp (config := { maxSteps := 4000000 }) (disch := omega) only [t5,go_sem,TM.undef,cpR_pure c6,cpR_pure c13,cpR_pure c15,cpR_pure call7,wrap_i64]
  | true =>
   rw [hc,if_pos rfl] at c35
   unfold chkM at hc
   simp only [Bool.and_eq_true,decide_eq_true_eq,Bool.not_eq_true'] at hc
   obtain ⟨⟨h32,_,_,_,h0⟩,hbad,hlast⟩ := hc
   obtain ⟨g,rfl⟩ := Int.eq_ofNat_of_zero_le (show 0 ≤ rg by omega)
   obtain ⟨lb,I,O,U,D,c13,c15,hG,hok,h1,h2,h3,h4⟩ := inout (f := ⟨fn,g,sl,nd,pr,rs,ti,ins⟩) (by show 32 ≤ g; omega) (by show g ≤ _; omega) (by show ins.length ≤ _; omega) h0 hus c35
   have he := fun i (hi : i < ins.length) => eq1_of (f := ⟨fn,g,sl,nd,pr,rs,ti,ins⟩) hbad h1 h2 h3 h4 hi
   obtain ⟨y8,y9,y10,y11,y12,y13,y14,y18,y19,y20,y21,y22,y23,l1⟩ := loop5b (fn := fn) (sl := sl) (nd := nd) (pr := pr) (rg := g) (rs := rs) (ti := ti) (by omega) ⟨by omega,by omega⟩ hus (m := (g + 63) / 64) (by omega) hok he (sTag (rowsL I ins.length)) (sTag (rowsL O ins.length)) (.iv (.agg (encG fn g sl nd pr rs ti ins))) (.iv (.bool false)) (.iv (.int .i64 0)) (.iv (.int .i64 0)) (.iv (.bool false)) (.iv (.bool false)) (.iv (.bool false)) ins.length 0 (.tup []) (.tup []) (.tup []) (.tup []) (.tup []) (.tup []) (.tup []) (.tup []) (.tup []) (.tup []) (.tup []) (.tup []) (.tup []) (by omega)
   rw [show ((0 : Nat) : Int) = 0 from rfl] at l1
   have hlen : (ins.map encV).length = ins.length := List.length_map _
   have lA := rowsL_len I ins.length
   have lB := rowsL_len O ins.length
   refine ⟨[],call_ret' K _ (fn := t5) rfl rfl ?_⟩
   unfold encF at c13 c15
   unfold encG envG at *
   dsimp only at c13 c15
   generalize rowsL I ins.length = RA at *
   generalize rowsL O ins.length = RB at *
   simp (config := { maxSteps := 4000000 }) (disch := omega) only [t5,go_sem,TM.undef,cpR_pure c6,cpR_pure c13,cpR_pure c15,hlen,lA,lB]
   rw [l1]
   simp (config := { maxSteps := 4000000 }) (disch := omega) only [go_sem,cpR_pure call7]
variable {H : Type}
theorem ty_ints {d : DataW H} {l : List IV} (h : Ty Tryd.prog 28 d l) : ∃ (t : Tag) (us : List Int),l = [.sl t (TM.one (.int .i64) us)] ∧ TagOk t us := by
 obtain ⟨t,us,rfl,h1,_,_⟩ := ty_slice (f := fun n : Int => [IV.int .i64 n]) (R := fun _ => True) Tryd.underlying28 (fun d l h => by obtain ⟨n,rfl,_⟩ := ty_int Tryd.underlying3 h; exact ⟨n,rfl,trivial⟩) h
 exact ⟨t,us,rfl,h1⟩
theorem ty_vinst {d : DataW H} {l : List IV} (h : Ty Tryd.prog 31 d l) : ∃ v : VI,l = encV v ∧ TagOk v.tu v.us := by
 obtain ⟨ds,ls,rfl,h1⟩ := ty_struct Tryd.underlying31 h
 obtain ⟨d0,l0,ds0,ls0,rfl,k0,h1⟩ := allTy_cons h1
 obtain ⟨d1,l1,ds1,ls1,rfl,k1,h1⟩ := allTy_cons h1
 obtain ⟨d2,l2,ds2,ls2,rfl,k2,h1⟩ := allTy_cons h1
 obtain ⟨d3,l3,ds3,ls3,rfl,k3,h1⟩ := allTy_cons h1
 obtain ⟨d4,l4,ds4,ls4,rfl,k4,h1⟩ := allTy_cons h1
 obtain ⟨d5,l5,ds5,ls5,rfl,k5,h1⟩ := allTy_cons h1
 obtain ⟨d6,l6,ds6,ls6,rfl,k6,h1⟩ := allTy_cons h1
 obtain ⟨d7,l7,ds7,ls7,rfl,k7,h1⟩ := allTy_cons h1
 obtain rfl := allTy_nil h1
 obtain ⟨op,rfl,_⟩ := ty_int Tryd.underlying3 k0
 obtain ⟨a,rfl,_⟩ := ty_int Tryd.underlying3 k1
 obtain ⟨b,rfl,_⟩ := ty_int Tryd.underlying3 k2
 obtain ⟨c,rfl,_⟩ := ty_int Tryd.underlying3 k3
 obtain ⟨e,rfl,_⟩ := ty_int Tryd.underlying3 k4
 obtain ⟨g,rfl,_⟩ := ty_int Tryd.underlying3 k5
 obtain ⟨tu,us,rfl,hu⟩ := ty_ints k6
 obtain ⟨tm,mp,rfl,_⟩ := ty_ints k7
 exact ⟨⟨op,a,b,c,e,g,tu,us,tm,mp⟩,rfl,hu⟩
theorem ty_vfunc {d : DataW H} {l : List IV} (h : Ty Tryd.prog 24 d l) : ∃ (fn rg sl nd pr : Int) (rs : Bool) (ti : Tag) (ins : List VI),l = encG fn rg sl nd pr rs ti ins ∧ ins.length ≤ 9223372036854775807 ∧ ∀ x ∈ ins,TagOk x.tu x.us := by
 obtain ⟨ds,ls,rfl,h1⟩ := ty_struct Tryd.underlying24 h
 obtain ⟨d0,l0,ds0,ls0,rfl,k0,h1⟩ := allTy_cons h1
 obtain ⟨d1,l1,ds1,ls1,rfl,k1,h1⟩ := allTy_cons h1
 obtain ⟨d2,l2,ds2,ls2,rfl,k2,h1⟩ := allTy_cons h1
 obtain ⟨d3,l3,ds3,ls3,rfl,k3,h1⟩ := allTy_cons h1
 obtain ⟨d4,l4,ds4,ls4,rfl,k4,h1⟩ := allTy_cons h1
 obtain ⟨d5,l5,ds5,ls5,rfl,k5,h1⟩ := allTy_cons h1
 obtain ⟨d6,l6,ds6,ls6,rfl,k6,h1⟩ := allTy_cons h1
 obtain rfl := allTy_nil h1
 obtain ⟨fn,rfl,_⟩ := ty_int Tryd.underlying3 k0
 obtain ⟨rg,rfl,_⟩ := ty_int Tryd.underlying3 k1
 obtain ⟨sl,rfl,_⟩ := ty_int Tryd.underlying3 k2
 obtain ⟨nd,rfl,_⟩ := ty_int Tryd.underlying3 k3
 obtain ⟨pr,rfl,_⟩ := ty_int Tryd.underlying3 k4
 obtain ⟨rs,rfl⟩ := ty_bool Tryd.underlying4 k5
 obtain ⟨ti,ins,rfl,_,hR,hn⟩ := ty_slice (f := encV) (R := fun v => TagOk v.tu v.us) Tryd.underlying22 (fun d l h => ty_vinst h) k6
 exact ⟨fn,rg,sl,nd,pr,rs,ti,ins,rfl,hn,hR⟩
variable {H : Type}
theorem inv5 {ds : List (DataW H)} {ls : List (List IV)} (hh0 : AllTy Tryd.prog [24] ds ls) : ((lim K).call 5 (argsOf Tryd.prog [24] ls) []).All fun r => r.1 = .iv (.bool true) := by
 obtain ⟨d0,l0,ds0,ls0,rfl,h0,hh1⟩ := allTy_cons hh0
 obtain ⟨fn,rg,sl,nd,pr,rs,ti,ins,rfl,hn,hR⟩ := ty_vfunc h0
 have e0 : ∀ l,argOf Tryd.prog 24 l = .iv (.agg l) := fun x => argOf_agg (by rw [Tryd.underlying24])
 rw [allTy_nil hh1]
 simp only [argsOf,e0]
 obtain ⟨S,h⟩ := law5 fn rg sl nd pr rs ti ins hn hR
 rw [h]
 exact rfl
end Go.Proofs.YtehlgnfhkidgoaaDoor
