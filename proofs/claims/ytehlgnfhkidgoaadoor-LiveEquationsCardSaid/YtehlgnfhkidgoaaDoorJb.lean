/- Some texts of the proof, joined. Condition: none. -/
import Derived.Test.YtehlgnfhkidgoaaDoorJa
set_option maxRecDepth 100000
set_option maxHeartbeats 64000000
set_option linter.unusedSimpArgs false
set_option linter.unusedVariables false
namespace Go.Proofs.YtehlgnfhkidgoaaDoor
open Go Go.TM
theorem flat1 (a : TV) : TM.flat [[a]] = [a] := rfl
theorem flat2 (a b : TV) : TM.flat [[a],[b]] = [a,b] := rfl
theorem flat3 (a b c : TV) : TM.flat [[a],[b],[c]] = [a,b,c] := rfl
attribute [go_sem] flat1 flat2 flat3
theorem any_vI (l : List Int) : (l.map vI).any isRefL = false := by
 rw [List.any_eq_false]
 intro x hx
 obtain ⟨m,_,rfl⟩ := List.mem_map.1 hx
 simp [vI,isRefL]
theorem elems_RW {S : Store} {j v : Nat} {b : Bool} {C : List Int} {J : List TV} (h : S[j]? = some (.cells v b (C.map vI ++ J))) (cap : Nat) : elemsIV S (.msl j v 0 C.length cap 1) = some (TM.one (.int .i64) C) := by
 have e1 : sub (C.map vI ++ J) 0 (C.length * 1) = some (C.map vI) := by
  simp [sub,List.take_append]
 have e2 : toIVs (C.map vI) = some (C.map (IV.int .i64)) := by
  have : C.map vI = (C.map (IV.int .i64)).map .iv := by rw [List.map_map]; rfl
  rw [this,toIVs_ivs]
 have e3 : ∀ L : List Int,chunks 1 L.length (L.map (IV.int .i64)) = TM.one (.int .i64) L := by
  intro L
  induction L with
  | nil => rfl
  | cons a r ih => simp only [List.map_cons,List.length_cons,chunks,List.take_succ_cons,List.take_zero,List.drop_succ_cons,List.drop_zero,ih]; rfl
 simp only [elemsIV,h,ne_eq,not_true_eq_false,↓reduceIte,e1,e2,Option.map_some,e3]
theorem resolve_RW {S : Store} {j v : Nat} {b : Bool} {C : List Int} {J : List TV} (h : S[j]? = some (.cells v b (C.map vI ++ J))) (cap : Nat) : TM.resolve S (.msl j v 0 C.length cap 1) = some (.iv (.sl .no (TM.one (.int .i64) C))) := by
 show (match elemsIV S (.msl j v 0 C.length cap 1) with | some l => some (IV.sl .no l) | none => none).map TV.iv = _
 rw [elems_RW h]; rfl
theorem no_ok {α : Type} (l : List α) : TagOk .no l := fun h => by cases h
theorem ap_row {S : Store} {j v : Nat} {C : List Int} (mu : Bool) (r : Int) (h : S[j]? = some (.cells v true (C.map vI))) (hl : C.length ≤ 1000000) (t : Tag) :
  appendOp mu 1 8 3 S (.msl j v 0 C.length C.length 1) (.iv (.sl t [[.int .i64 r]])) = some (.msl j (v + 1) 0 (C.length + 1) (C.length + 1) 1,S.set j (.cells (v + 1) true ((C ++ [r]).map vI))) := by
 have hs : sub (C.map vI) 0 C.length = some (C.map vI) := sub_all (by simp)
 have hr : roomy (C.length + 1) 8 = true := roomy_ok (by omega)
 have hx : elemsTV S (.iv (.sl t [[.int .i64 r]])) = some [vI r] := rfl
 have hlo : lenOf S (.iv (.sl t [[.int .i64 r]])) = some 1 := rfl
 have hn : isRefL (vI r) = false := rfl
 simp [appendOp,hx,hlo,h,hn,hr,hs,show ¬ C.length + 1 ≤ C.length by omega]
theorem ap_row0 {S : Store} {j v : Nat} {C : List Int} (mu : Bool) (r : Int) (h : S[j]? = some (.cells v false (C.map vI))) (hl : C.length ≤ 1000000) (t : Tag) :
  appendOp mu 1 8 3 S (.msl j v 0 C.length C.length 1) (.iv (.sl t [[.int .i64 r]])) = some (.msl S.length 0 0 (C.length + 1) (C.length + 1) 1,S ++ [.cells 0 true ((C ++ [r]).map vI)]) := by
 have hs : sub (C.map vI) 0 C.length = some (C.map vI) := sub_all (by simp)
 have hr : roomy (C.length + 1) 8 = true := roomy_ok (by omega)
 have hx : elemsTV S (.iv (.sl t [[.int .i64 r]])) = some [vI r] := rfl
 have hlo : lenOf S (.iv (.sl t [[.int .i64 r]])) = some 1 := rfl
 have hn : isRefL (vI r) = false := rfl
 simp [appendOp,hx,hlo,h,hn,hr,hs,show ¬ C.length + 1 ≤ C.length by omega]
theorem ap_first {S : Store} (r : Int) {t0 : Tag} (h0 : t0 ≠ .no) (t : Tag) :
  appendOp true 1 8 3 S (.iv (.sl t0 [])) (.iv (.sl t [[.int .i64 r]])) = some (.msl S.length 0 0 1 1 1,S ++ [.cells 0 true [vI r]]) := by
 have hr : roomy 1 8 = true := roomy_ok (by omega)
 have hx : elemsTV S (.iv (.sl t [[.int .i64 r]])) = some [vI r] := rfl
 have hlo : lenOf S (.iv (.sl t [[.int .i64 r]])) = some 1 := rfl
 have hn : isRefL (vI r) = false := rfl
 cases t0 <;> simp_all [appendOp,fits,flat]
theorem ap_many {S : Store} {t : Tag} {l : List Int} (h0 : l ≠ []) (hl : l.length ≤ 1000000) : appendOp true 1 8 3 S (.iv (.sl .full [])) (.iv (.sl t (TM.one (.int .i64) l))) = some (.msl S.length 0 0 l.length l.length 1,S ++ [.cells 0 true (l.map vI)]) := by
 have e1 : elemsTV S (.iv (.sl t (TM.one (.int .i64) l))) = some ((l.map (IV.int .i64)).map .iv) := by rw [(IsEl.sl S t (TM.one (.int .i64) l)).1,flat_one_map]
 have e2 : lenOf S (.iv (.sl t (TM.one (.int .i64) l))) = some l.length := by rw [(IsEl.sl S t (TM.one (.int .i64) l)).2,TM.one_length]
 have e5 : (l.map (IV.int .i64)).map TV.iv = l.map vI := by rw [List.map_map]; rfl
 have e3 := any_vI l
 have e4 : l.length ≠ 0 := by intro h; exact h0 (List.length_eq_zero_iff.1 h)
 have hr : roomy l.length 8 = true := roomy_ok (by omega)
 rw [e5] at e1
 simp [appendOp,e1,e2,e3,e4,hr,flat,fits]
theorem ap_none {S : Store} {t : Tag} : appendOp true 1 8 3 S (.iv (.sl .full [])) (.iv (.sl t [])) = some (.iv (.sl .full []),S) := by
 simp [appendOp,elemsTV,lenOf,flat,isSl]
theorem eqB_sln (l : List (List IV)) : eqB .sl (.iv (.sl .nil l)) (.iv (.sl .nil [])) = some true := id rfl
theorem eqB_slf (l : List (List IV)) : eqB .sl (.iv (.sl .full l)) (.iv (.sl .nil [])) = some false := id rfl
theorem eqB_slo (l : List (List IV)) : eqB .sl (.iv (.sl .no l)) (.iv (.sl .nil [])) = some false := id rfl
theorem call23 (t : Tag) (l : List Int) (ht : TagOk t l) (hl : l.length ≤ 1000000) (S : Store) :
  (l = [] ∧ ∃ t',t' ≠ .no ∧ (lim K).call 23 [.iv (.sl t (TM.one (.int .i64) l))] S = .ret (.iv (.sl t' []),S)) ∨
  (l ≠ [] ∧ (lim K).call 23 [.iv (.sl t (TM.one (.int .i64) l))] S = .ret (.msl S.length 0 0 l.length l.length 1,S ++ [.cells 0 true (l.map vI)])) := by
 by_cases hn : t = .nil
 ·subst hn
  obtain rfl := ht rfl
  refine .inl ⟨rfl,.nil,by decide,call_ret' K S (fn := t23) rfl rfl ?_⟩
  simp (config := { maxSteps := 4000000 }) (disch := omega) only [t23,go_sem,TM.undef,eqB_sln]
 ·have hq : eqB .sl (.iv (.sl t (TM.one (.int .i64) l))) (.iv (.sl .nil [])) = some false := by
   cases t with
   | nil => exact absurd rfl hn
   | full => exact eqB_slf _
   | no => exact eqB_slo _
  by_cases h0 : l = []
  ·subst h0
   refine .inl ⟨rfl,.full,by decide,call_ret' K S (fn := t23) rfl rfl ?_⟩
   rw [one_nil] at *
   simp (config := { maxSteps := 4000000 }) (disch := omega) only [t23,go_sem,TM.undef,hq,ap_none]
  ·refine .inr ⟨h0,call_ret' K S (fn := t23) rfl rfl ?_⟩
   have := ap_many (S := S) (t := t) h0 hl
   simp (config := { maxSteps := 4000000 }) (disch := omega) only [t23,go_sem,TM.undef,hq,this]
theorem call21 (x : Int) : TM.Pure K 21 [.iv (.int .i64 x)] (.iv (.bool (decide (26 ≤ x ∧ x ≤ 31)))) := by
 refine call_pure t21 rfl rfl ?_
 rcases (by omega : x < 26 ∨ (26 ≤ x ∧ x ≤ 31) ∨ 31 < x) with h | h | h <;> simp (config := { maxSteps := 4000000 }) (disch := omega) only [t21,go_sem,TM.undef]
theorem call9A (v : VI) (h : (1 ≤ v.op ∧ v.op ≤ 14) ∨ v.op = 25 ∨ (26 ≤ v.op ∧ v.op ≤ 31)) : ∃ t',TagOk t' (usesM v) ∧ TM.Pure K 9 [.iv (.agg (encV v))] (.iv (.sl t' (TM.one (.int .i64) (usesM v)))) := by
 have hM : usesM v = tdy [v.a,v.b] := by unfold usesM; rw [if_pos (by omega)]
 rw [hM]
 have h0 : ([.cells 0 false [vI v.a,vI v.b]] : Store)[0]? = some (.cells 0 false ([v.a,v.b].map vI ++ [])) := rfl
 obtain ⟨J,c22⟩ := call22 (by simp) (cap := 2) (by simp) h0 (tdy_tidy [v.a,v.b])
 have c21 := call21 v.op
 refine ⟨.no,no_ok _,pure_ret (S := [.cells 0 false ((tdy [v.a,v.b]).map vI ++ J)]) (call_ret' K _ (fn := t9) rfl rfl ?_) (resolve_RW (j := 0) (v := 0) (b := false) (J := J) rfl 2)⟩
 simp only [vI,List.length_cons,List.length_nil,List.set_cons_zero,Nat.zero_add,Nat.reduceAdd] at c22
 rcases h with h | h | h
 ·simp (config := { maxSteps := 4000000 }) (disch := omega) only [t9,go_sem,TM.undef,encV,List.map_cons,List.map_nil,c22]
 ·simp (config := { maxSteps := 4000000 }) (disch := omega) only [t9,go_sem,TM.undef,encV,List.map_cons,List.map_nil,c22]
 ·rw [decide_eq_true h] at c21
  simp (config := { maxSteps := 4000000 }) (disch := omega) only [t9,go_sem,TM.undef,encV,List.map_cons,List.map_nil,c22,cpR_pure c21]
def rA : TCode := (.region [⟨.mov (.loc 13),(some 7),none⟩])
def rB : TCode := (.block 1
    (.seq (.region [⟨.load1 (.loc 6),none,none⟩,⟨.len .sl (.reg 0),(some 14),none⟩,⟨.mov (.cst (.int .i64 0)),(some 15),none⟩])
    (.block 2
     (.loop t37L1))))
def rE (N : Nat) (x0 x1 x2 x3 x5 x7 x8 x9 x10 x11 x12 x13 x14 x15 x16 x17 x18 x19 : TV) : Env := [x0,x1,x2,x3,.ptr N 47 0,x5,.ptr (N + 2) 66 0,x7,x8,x9,x10,x11,x12,x13,x14,x15,x16,x17,x18,x19]
def gS (S0 : Store) (m : Nat) (W : List Nat) (b3 b4 Z : Block) (R : Store) : Store := S0 ++ .cells 47 false [.ptr 3 54 0] :: .cells 0 false (W.map uI) :: .cells 66 false [.msl (S0.length + 1) 0 0 m m 1] :: b3 :: b4 :: Z :: R
theorem bit_or {m : Nat} {W V W' : List Nat} (hW : WOK m W) (hV : WOK m V) (h : ∀ q,W'.getD q 0 = if 0 ≤ q ∧ q < m then W.getD q 0 ||| V.getD q 0 else W.getD q 0) (r : Nat) : bit W' r = (bit W r || bit V r) := by
 unfold bit
 rw [h]
 by_cases e : r / 64 < m
 ·rw [if_pos ⟨Nat.zero_le _,e⟩,Nat.testBit_or]
 ·rw [if_neg (by omega)]
  have : V.getD (r / 64) 0 = 0 := by rw [List.getD,List.getElem?_eq_none (by rw [hV.len]; omega)]; rfl
  rw [this,Nat.zero_testBit,Bool.or_false]
theorem yld37 {S0 : Store} {f : VF} {lb : List (Nat × Int × Int)} {n m : Nat} {ia oa : Nat → Nat} {I O : Nat → List Nat} (hF : FlS S0 f lb n m ia oa I O) (hm : m ≤ 100000) (hn : n ≤ 1000000) {kk : Nat} (hkk : kk < n) (b3 b4 : Block) (R : Store) (x0 x1 x2 x3 x5 x7 x8 x9 x10 x11 x12 x13 x14 x15 x16 x17 x18 x19 : TV) (W : List Nat) (hW : WOK m W) :
  ∃ W' : List Nat,(lim K).yld (S0.length + 5) [.iv (.int .i64 kk)] (gS S0 m W b3 b4 (.lp .ready none (rE S0.length x0 x1 x2 x3 x5 x7 x8 x9 x10 x11 x12 x13 x14 x15 x16 x17 x18 x19) [13] rA rB) R)
   = .ret (.iv (.bool true),gS S0 m W' b3 b4 (.lp .ready none (rE S0.length x0 x1 x2 x3 x5 x7 x8 x9 x10 x11 x12 x13 x14 x15 x16 x17 x18 x19) [13] rA rB) R) ∧ WOK m W' ∧ ∀ r,bit W' r = (bit W r || bit (I kk) r) := by
 generalize hE : rE S0.length x0 x1 x2 x3 x5 x7 x8 x9 x10 x11 x12 x13 x14 x15 x16 x17 x18 x19 = E
 obtain ⟨W',y8,y16,l1,hW',hb⟩ := loop37a hF hm hn hkk (b3 :: b4 :: .lp .busy none E [13] rA rB :: R) x0 x1 x2 x3 x5 x9 x10 x11 x12 (.iv (.int .i64 kk)) x17 x18 x19 m 0 W x8 x16 (by omega) hW
 refine ⟨W',?_,hW',bit_or hW (hF.inn.ok kk hkk) hb⟩
 have hy := yld_true (K := K) (i := S0.length + 5) (args := [.iv (.int .i64 kk)]) (S := gS S0 m W b3 b4 (.lp .ready none E [13] rA rB) R) (S1 := gS S0 m W b3 b4 (.lp .ready none E [13] rA rB) R) (S2 := gS S0 m W' b3 b4 (.lp .busy none E [13] rA rB) R)
  (st := .ready) (p := none) (p2 := none) (p3 := none) (st3 := .busy) (env := E) (e2 := E) (e3 := E) (ps := [13]) (ps2 := [13]) (ps3 := [13]) (a := rA) (b := rB) (a2 := rA) (b2 := rB) (a3 := rA) (b3 := rB)
  (env1 := rE S0.length x0 x1 x2 x3 x5 x7 x8 x9 x10 x11 x12 (.iv (.int .i64 kk)) x14 x15 x16 x17 x18 x19)
  (env2 := rE S0.length x0 x1 x2 x3 x5 (.iv (.int .i64 kk)) x8 x9 x10 x11 x12 (.iv (.int .i64 kk)) x14 x15 x16 x17 x18 x19)
  (env3 := rE S0.length x0 x1 x2 x3 x5 (.iv (.int .i64 kk)) y8 x9 x10 x11 x12 (.iv (.int .i64 kk)) (.iv (.int .i64 m)) (.iv (.int .i64 m)) y16 x17 x18 x19)
  (by unfold gS; rw [gN5]) (by rw [← hE]; rfl) ?_ (by unfold gS; rw [gN5]) ?_ (by unfold gS; rw [gN5])
 ·rw [hy]
  unfold gS
  rw [sN5]
 ·unfold rE rA
  simp (config := { maxSteps := 4000000 }) (disch := omega) only [go_sem]
 ·unfold gS
  rw [sN5]
  rw [show ((0 : Nat) : Int) = 0 from rfl] at l1
  generalize Block.lp .busy none E [13] rA rB = Z at *
  unfold rE rB
  simp (config := { maxSteps := 4000000 }) (disch := omega) only [go_sem]
  rw [l1]
  simp (config := { maxSteps := 4000000 }) (disch := omega) only [go_sem]
theorem encV_len (v : VI) : (encV v).length = 8 := rfl
def bhd (lb : List (Nat × Int × Int)) (l : List VI) (i : Nat) : List Nat :=
 if (l.getD i default).op = 68 ∨ (l.getD i default).op = 72 then [] else
  (if (26 ≤ (l.getD i default).op ∧ (l.getD i default).op ≤ 31) ∨ (l.getD i default).op = 66 then [(cntR lb (l.getD i default).lb).toNat] else []) ++
  (if (l.getD i default).op ≠ 66 ∧ i + 1 < l.length then [i + 1] else [])
def LabOK (lb : List (Nat × Int × Int)) (l : List VI) : Prop := ∀ i,i < l.length → ((26 ≤ (l.getD i default).op ∧ (l.getD i default).op ≤ 31) ∨ (l.getD i default).op = 66) → 0 ≤ cntR lb (l.getD i default).lb ∧ cntR lb (l.getD i default).lb < l.length
theorem get_cp8 (env : Env) (S : Store) (a b c d e f g h : IV) : getCells env S (.iv (.cp [a,b,c,d,e,f,g,h])) 8 = some [.iv a,.iv b,.iv c,.iv d,.iv e,.iv f,.iv g,.iv h] := by simp [getCells,sub]
attribute [go_sem] get_cp8
theorem gS_set6 {S0 : Store} {m : Nat} {W : List Nat} {b3 b4 Z a : Block} (x : Block) (R : Store) : (gS S0 m W b3 b4 Z (a :: R)).set (S0.length + 6) x = gS S0 m W b3 b4 Z (x :: R) := by unfold gS; rw [sN6]
theorem gS_get3 {S0 : Store} {m : Nat} {W : List Nat} {b3 b4 Z : Block} (R : Store) : (gS S0 m W b3 b4 Z R)[S0.length + 3]? = some b3 := by unfold gS; rw [gN3]
theorem gS_get4 {S0 : Store} {m : Nat} {W : List Nat} {b3 b4 Z : Block} (R : Store) : (gS S0 m W b3 b4 Z R)[S0.length + 4]? = some b4 := by unfold gS; rw [gN4]
theorem gS_get6 {S0 : Store} {m : Nat} {W : List Nat} {b3 b4 Z a : Block} (R : Store) : (gS S0 m W b3 b4 Z (a :: R))[S0.length + 6]? = some a := by unfold gS; rw [gN6]
theorem gS_old {S0 : Store} {m : Nat} {W : List Nat} {b3 b4 Z : Block} (R : Store) {j : Nat} {b : Block} (h : S0[j]? = some b) : (gS S0 m W b3 b4 Z R)[j]? = some b := by unfold gS; exact get_appO h _
theorem gS_len {S0 : Store} {m : Nat} {W : List Nat} {b3 b4 Z : Block} (R : Store) : (gS S0 m W b3 b4 Z R).length = S0.length + (6 + R.length) := by unfold gS; simp; omega
theorem gS_app {S0 : Store} {m : Nat} {W : List Nat} {b3 b4 Z : Block} (R L : Store) : gS S0 m W b3 b4 Z R ++ L = gS S0 m W b3 b4 Z (R ++ L) := by unfold gS; simp
attribute [go_sem] gS_set6 gS_get3 gS_get4 gS_get6 gS_app
theorem call69 {S0 : Store} {f : VF} {lb : List (Nat × Int × Int)} {n m : Nat} {ia oa : Nat → Nat} {I O : Nat → List Nat} (hF : FlS S0 f lb n m ia oa I O) (hm : m ≤ 100000) (hn : n ≤ 1000000) (hfn : f.ins.length = n) (hlb : LabOK lb f.ins) {i : Nat} (hi : i < n) (x0 x1 x2 x3 x5 x7 x8 x9 x10 x11 x12 x13 x14 x15 x16 x17 x18 x19 : TV) (W : List Nat) (hW : WOK m W) :
  ∃ (W' : List Nat) (B : Block),(lim K).call 69 [.yld (S0.length + 5),.ptr (S0.length + 3) 47 0,.ptr (S0.length + 4) 4 0] (gS S0 m W (.cells 47 false [.ptr 3 54 0]) (.cells 4 false [.iv (.int .i64 i)]) (.lp .ready none (rE S0.length x0 x1 x2 x3 x5 x7 x8 x9 x10 x11 x12 x13 x14 x15 x16 x17 x18 x19) [13] rA rB) [])
   = .ret (.tup [],gS S0 m W' (.cells 47 false [.ptr 3 54 0]) (.cells 4 false [.iv (.int .i64 i)]) (.lp .ready none (rE S0.length x0 x1 x2 x3 x5 x7 x8 x9 x10 x11 x12 x13 x14 x15 x16 x17 x18 x19) [13] rA rB) [B]) ∧ WOK m W' ∧ ∀ r,bit W' r = (bit W r || (bhd lb f.ins i).any fun k => bit (I k) r) := by
 have hl := hlb i (by omega)
 obtain ⟨c0,hlab⟩ := hF.lab
 have g0 := fun W b3 b4 Z R => gS_old (S0 := S0) (m := m) (W := W) (b3 := b3) (b4 := b4) (Z := Z) R hlab
 have g3 := fun W b3 b4 Z R => gS_old (S0 := S0) (m := m) (W := W) (b3 := b3) (b4 := b4) (Z := Z) R hF.flw
 have hix := ix_map (w := 8) (f := encV) encV_len (t := f.ti) (l := f.ins) (i := (i : Int)) (by omega)
 rw [Int.toNat_natCast] at hix
 have hlen : (f.ins.map encV).length = n := by rw [List.length_map,hfn]
 have glen := fun W b3 b4 Z R => gS_len (S0 := S0) (m := m) (W := W) (b3 := b3) (b4 := b4) (Z := Z) R
 have c21 := call21 (f.ins.getD i default).op
 unfold bhd
 generalize hx : f.ins.getD i default = x at *
 rw [encV_eq] at hix
 have yl := fun kk (hkk : kk < n) b3 b4 R W hW => yld37 hF hm hn (kk := kk) hkk b3 b4 R x0 x1 x2 x3 x5 x7 x8 x9 x10 x11 x12 x13 x14 x15 x16 x17 x18 x19 W hW
 generalize Block.lp .ready none (rE S0.length x0 x1 x2 x3 x5 x7 x8 x9 x10 x11 x12 x13 x14 x15 x16 x17 x18 x19) [13] rA rB = Z at *
 by_cases hT : x.op = 68 ∨ x.op = 72
 ·rw [if_pos hT]
  refine ⟨W,.cells 32 false ((encV x).map .iv),call_ret' K _ (fn := t69) rfl rfl ?_,hW,fun r => by simp⟩
  rw [encV_tv]
  ·rcases hT with hT | hT
   ·simp (config := { maxSteps := 4000000 }) (disch := omega) only [t69,go_sem,TM.undef,g0,g3,hix,hlen,glen]
   ·simp (config := { maxSteps := 4000000 }) (disch := omega) only [t69,go_sem,TM.undef,g0,g3,hix,hlen,glen]
 ·rw [if_neg hT]
  have hlenI : ((n : Nat) : Int) = (f.ins.length : Nat) := by omega
  by_cases hJ : x.op = 66
  ·obtain ⟨h1,h2⟩ := hl (.inr hJ)
   obtain ⟨kk,hkk⟩ := Int.eq_ofNat_of_zero_le h1
   rw [if_pos (.inr hJ),if_neg (by omega),List.append_nil,hkk,Int.toNat_natCast]
   obtain ⟨W',hy,hW',hb⟩ := yl kk (by omega) (.cells 47 false [.ptr 3 54 0]) (.cells 4 false [.iv (.int .i64 i)]) [.cells 32 false ((encV x).map .iv)] W hW
   rw [encV_tv] at hy
   rw [decide_eq_false (by omega)] at c21
   refine ⟨W',.cells 32 false ((encV x).map .iv),call_ret' K _ (fn := t69) rfl rfl ?_,hW',fun r => by rw [hb r]; simp⟩
   rw [encV_tv]
   simp (config := { maxSteps := 4000000 }) (disch := omega) only [t69,go_sem,TM.undef,g0,g3,hix,hlen,glen,cpR_pure c21,lkB_box,hkk,hy,er_ret]
  ·by_cases hB : 26 ≤ x.op ∧ x.op ≤ 31
   ·obtain ⟨h1,h2⟩ := hl (.inl hB)
    obtain ⟨kk,hkk⟩ := Int.eq_ofNat_of_zero_le h1
    rw [if_pos (.inl hB),hkk,Int.toNat_natCast]
    obtain ⟨W',hy,hW',hb⟩ := yl kk (by omega) (.cells 47 false [.ptr 3 54 0]) (.cells 4 false [.iv (.int .i64 i)]) [.cells 32 false ((encV x).map .iv)] W hW
    rw [encV_tv] at hy
    rw [decide_eq_true hB] at c21
    by_cases hi1 : i + 1 < n
    ·rw [if_pos ⟨hJ,by omega⟩]
     obtain ⟨W2,hy2,hW2,hb2⟩ := yl (i + 1) hi1 (.cells 47 false [.ptr 3 54 0]) (.cells 4 false [.iv (.int .i64 i)]) [.cells 32 false ((encV x).map .iv)] W' hW'
     rw [encV_tv,show ((i + 1 : Nat) : Int) = (i : Int) + 1 by omega] at hy2
     refine ⟨W2,.cells 32 false ((encV x).map .iv),call_ret' K _ (fn := t69) rfl rfl ?_,hW2,fun r => by rw [hb2 r,hb r]; simp [Bool.or_assoc]⟩
     rw [encV_tv]
     simp (config := { maxSteps := 4000000 }) (disch := omega) only [t69,go_sem,TM.undef,g0,g3,hix,hlen,glen,cpR_pure c21,lkB_box,hkk,hy,wrap_i64,hy2,er_ret]
    ·rw [if_neg (by omega),List.append_nil]
     refine ⟨W',.cells 32 false ((encV x).map .iv),call_ret' K _ (fn := t69) rfl rfl ?_,hW',fun r => by rw [hb r]; simp⟩
     rw [encV_tv]
     simp (config := { maxSteps := 4000000 }) (disch := omega) only [t69,go_sem,TM.undef,g0,g3,hix,hlen,glen,cpR_pure c21,lkB_box,hkk,hy,wrap_i64,er_ret]
   ·rw [if_neg (by omega),List.nil_append]
    rw [decide_eq_false hB] at c21
    by_cases hi1 : i + 1 < n
    ·rw [if_pos ⟨hJ,by omega⟩]
     obtain ⟨W2,hy2,hW2,hb2⟩ := yl (i + 1) hi1 (.cells 47 false [.ptr 3 54 0]) (.cells 4 false [.iv (.int .i64 i)]) [.cells 32 false ((encV x).map .iv)] W hW
     rw [encV_tv,show ((i + 1 : Nat) : Int) = (i : Int) + 1 by omega] at hy2
     refine ⟨W2,.cells 32 false ((encV x).map .iv),call_ret' K _ (fn := t69) rfl rfl ?_,hW2,fun r => by rw [hb2 r]; simp⟩
     rw [encV_tv]
     simp (config := { maxSteps := 4000000 }) (disch := omega) only [t69,go_sem,TM.undef,g0,g3,hix,hlen,glen,cpR_pure c21,wrap_i64,hy2,er_ret]
    ·rw [if_neg (by omega)]
     refine ⟨W,.cells 32 false ((encV x).map .iv),call_ret' K _ (fn := t69) rfl rfl ?_,hW,fun r => by simp⟩
     rw [encV_tv]
     simp (config := { maxSteps := 4000000 }) (disch := omega) only [t69,go_sem,TM.undef,g0,g3,hix,hlen,glen,cpR_pure c21,wrap_i64,er_ret]
theorem call49 (i : Nat) (S : Store) : (lim K).call 49 [.ptr 3 54 0,.iv (.int .i64 i)] S = .ret (.fn 69 [] [.ptr S.length 47 0,.ptr (S.length + 1) 4 0],S ++ [.cells 47 false [.ptr 3 54 0],.cells 4 false [.iv (.int .i64 i)]]) := by
 refine call_ret' K _ (fn := t49) rfl rfl ?_
 simp (config := { maxSteps := 4000000 }) (disch := omega) only [t49,go_sem,TM.undef,List.length_append,List.length_cons,List.length_nil,List.append_assoc]
theorem gS_get0 {S0 : Store} {m : Nat} {W : List Nat} {b3 b4 Z : Block} (R : Store) : (gS S0 m W b3 b4 Z R)[S0.length]? = some (.cells 47 false [.ptr 3 54 0]) := by unfold gS; rw [gN0]
theorem gS_get1 {S0 : Store} {m : Nat} {W : List Nat} {b3 b4 Z : Block} (R : Store) : (gS S0 m W b3 b4 Z R)[S0.length + 1]? = some (.cells 0 false (W.map uI)) := by unfold gS; rw [gN1]
theorem gS_get2 {S0 : Store} {m : Nat} {W : List Nat} {b3 b4 Z : Block} (R : Store) : (gS S0 m W b3 b4 Z R)[S0.length + 2]? = some (.cells 66 false [.msl (S0.length + 1) 0 0 m m 1]) := by unfold gS; rw [gN2]
theorem gS_get5 {S0 : Store} {m : Nat} {W : List Nat} {b3 b4 Z : Block} (R : Store) : (gS S0 m W b3 b4 Z R)[S0.length + 5]? = some Z := by unfold gS; rw [gN5]
theorem gS_get7 {S0 : Store} {m : Nat} {W : List Nat} {b3 b4 Z a b : Block} (R : Store) : (gS S0 m W b3 b4 Z (a :: b :: R))[S0.length + 7]? = some b := by unfold gS; rw [gN7]
theorem gS_set7 {S0 : Store} {m : Nat} {W : List Nat} {b3 b4 Z a b : Block} (x : Block) (R : Store) : (gS S0 m W b3 b4 Z (a :: b :: R)).set (S0.length + 7) x = gS S0 m W b3 b4 Z (a :: x :: R) := by unfold gS; rw [sN7]
theorem gS_set5 {S0 : Store} {m : Nat} {W : List Nat} {b3 b4 Z : Block} (x : Block) (R : Store) : (gS S0 m W b3 b4 Z R).set (S0.length + 5) x = gS S0 m W b3 b4 x R := by unfold gS; rw [sN5]
attribute [go_sem] gS_get0 gS_get1 gS_get2 gS_get5 gS_get7 gS_set7 gS_set5
theorem loop37b {S0 : Store} {m : Nat} (hm : m ≤ 100000) {ua da : Nat} {U D : List Nat} (hU : WOK m U) (hD : WOK m D) (gU : S0[ua]? = some (.cells 0 false (U.map uI))) (gD : S0[da]? = some (.cells 0 false (D.map uI))) {W : List Nat} (hW : WOK m W) (b3 b4 Z B6 : Block) (x0 x1 x4 x5 x7 x8 x11 x12 x13 x14 x15 x16 : TV) : ∀ (k i : Nat) (V : List Nat) (x10 x19 : TV),i + k = m → WOK m V →
  ∃ (V' : List Nat) (y10 y19 : TV),lp' (lim K) t37L0 [x0,x1,.msl ua 0 0 m m 1,.msl da 0 0 m m 1,x4,x5,.ptr (S0.length + 2) 66 0,x7,x8,.msl (S0.length + 7) 0 0 m m 1,x10,x11,x12,x13,x14,x15,x16,.iv (.int .i64 m),.iv (.int .i64 i),x19] (gS S0 m W b3 b4 Z [B6,.cells 0 false (V.map uI)])
   = .ret (.exit 4,[x0,x1,.msl ua 0 0 m m 1,.msl da 0 0 m m 1,x4,x5,.ptr (S0.length + 2) 66 0,x7,x8,.msl (S0.length + 7) 0 0 m m 1,y10,x11,x12,x13,x14,x15,x16,.iv (.int .i64 m),.iv (.int .i64 m),y19],gS S0 m W b3 b4 Z [B6,.cells 0 false (V'.map uI)]) ∧
   WOK m V' ∧ ∀ q,V'.getD q 0 = if i ≤ q ∧ q < m then U.getD q 0 ||| nAndNot (W.getD q 0) (D.getD q 0) else V.getD q 0
 | 0,i,V,x10,x19,hk,hV => by
  obtain rfl : i = m := by omega
  refine ⟨V,x10,.iv (.bool false),loop_at K _ _ t37L0.eq_1 ?_,hV,fun q => by rw [if_neg (by omega)]⟩
  simp (config := { maxSteps := 4000000 }) (disch := omega) only [go_sem]
 | k + 1,i,V,x10,x19,hk,hV => by
  have him : i < m := by omega
  have i1 := fun j => ix_RW (j := j) (v := 0) (cap := m) him
  have s1 := sub_UW (W := W) (i := i) (by rw [hW.len]; exact him)
  have s2 := sub_UW (W := U) (i := i) (by rw [hU.len]; exact him)
  have s3 := sub_UW (W := D) (i := i) (by rw [hD.len]; exact him)
  have g1 := fun R => gS_old (S0 := S0) (m := m) (W := W) (b3 := b3) (b4 := b4) (Z := Z) R gU
  have g2 := fun R => gS_old (S0 := S0) (m := m) (W := W) (b3 := b3) (b4 := b4) (Z := Z) R gD
  have e3 := u64_andNot (W.getD i 0) (D.getD i 0)
  have e4 := u64_or (hU.get i) (nAndNot_lt (W.getD i 0) (D.getD i 0))
  have hor := or_lt64 (hU.get i) (nAndNot_lt (W.getD i 0) (D.getD i 0))
  have p1 := put_UW (W := V) (i := i) (U.getD i 0 ||| nAndNot (W.getD i 0) (D.getD i 0)) (by rw [hV.len]; exact him)
  have hbb : i + 1 ≤ (V.map uI).length := by rw [List.length_map,hV.len]; omega
  obtain ⟨V',y10,y19,ih,hV',hb⟩ := loop37b hm hU hD gU gD hW b3 b4 Z B6 x0 x1 x4 x5 x7 x8 x11 x12 x13 x14 x15 x16 k (i + 1) (V.set i (U.getD i 0 ||| nAndNot (W.getD i 0) (D.getD i 0))) (.iv (.int .i64 i)) (.iv (.bool true)) (by omega) (hV.set i _ hor)
  rw [show ((i + 1 : Nat) : Int) = (i : Int) + 1 by omega] at ih
  simp only [uI] at s1 s2 s3 p1 hbb
  refine ⟨V',y10,y19,loop_at K _ _ t37L0.eq_1 ?_,hV',fun q => ?_⟩
  ·generalize hA : nAndNot (W.getD i 0) (D.getD i 0) = A at *
   generalize hA2 : W.getD i 0 = A2 at *
   generalize hA3 : D.getD i 0 = A3 at *
   generalize hB : U.getD i 0 = B at *
   generalize hC : B ||| A = C at *
   simp (config := { maxSteps := 4000000 }) (disch := omega) only [go_sem,i1,s1,s2,s3,g1,g2,e3,e4,p1,hbb,wrap_i64]
   exact congrArg er ih
  ·rw [hb q,getD_set (by rw [hV.len]; exact him)]
   by_cases e : q = i
   ·subst e; rw [if_neg (by omega),if_pos rfl,if_pos (by omega)]
   ·rw [if_neg e]
    by_cases e2 : i + 1 ≤ q ∧ q < m
    ·rw [if_pos e2,if_pos (by omega)]
    ·rw [if_neg e2,if_neg (by omega)]
theorem bit_flow {m : Nat} {U W D V V0 : List Nat} (hU : WOK m U) (hW : WOK m W) (hD : WOK m D) (hV : WOK m V) (h : ∀ q,V.getD q 0 = if 0 ≤ q ∧ q < m then U.getD q 0 ||| nAndNot (W.getD q 0) (D.getD q 0) else V0.getD q 0) (r : Nat) : bit V r = (bit U r || (bit W r && !bit D r)) := by
 have z : ∀ {X : List Nat},WOK m X → ¬ r / 64 < m → X.getD (r / 64) 0 = 0 := fun hX hr => by rw [List.getD,List.getElem?_eq_none (by rw [hX.len]; omega)]; rfl
 unfold bit
 by_cases e : r / 64 < m
 ·rw [h,if_pos ⟨Nat.zero_le _,e⟩,Nat.testBit_or,nAndNot_bit _ _ _ (Nat.mod_lt _ (by decide))]
 ·rw [z hV e,z hU e,z hW e,z hD e]; simp
theorem upd_map {α : Type} (g : Nat → α) (a : Nat → Nat) (i x : Nat) : upd (fun j => g (a j)) i (g x) = fun j => g (upd a i x j) := by
 funext j; unfold upd; split <;> rfl
theorem call37 {S0 : Store} {f : VF} {lb : List (Nat × Int × Int)} {n m : Nat} {ia oa : Nat → Nat} {I O : Nat → List Nat} (hF : FlS S0 f lb n m ia oa I O) (hm : (f.regs + 63) / 64 = m) (hr : f.regs ≤ 1000000) (hn : n ≤ 1000000) (hfn : f.ins.length = n) (hlb : LabOK lb f.ins) {i : Nat} (hi : i < n)
  {ua da : Nat} {U D : List Nat} (hU : WOK m U) (hD : WOK m D) (gU : S0[ua]? = some (.cells 0 false (U.map uI))) (gD : S0[da]? = some (.cells 0 false (D.map uI))) :
  ∃ (S' : Store) (A B : List Nat) (a b : Nat),(lim K).call 37 [.ptr 3 54 0,.iv (.int .i64 i),.msl ua 0 0 m m 1,.msl da 0 0 m m 1] S0 = .ret (.iv (.bool (!decide (A = I i))),S') ∧ FlS S' f lb n m (upd ia i a) (upd oa i b) (upd I i A) (upd O i B) ∧ WOK m A ∧ WOK m B ∧
   (∀ r,bit B r = (bhd lb f.ins i).any fun k => bit (I k) r) ∧ (∀ r,bit A r = (bit U r || (bit B r && !bit D r))) ∧ Keep [1,2] S0 S' := by
 have hm' : m ≤ 100000 := by omega
 obtain ⟨c0,hlab⟩ := hF.lab
 have h6 := hF.len
 -- the set behind,empty
 have c36 := fun S => call36 hr .nil [] (by simp) (by simp) S
 rw [one_nil,hm] at c36
 obtain ⟨W0,e0,hW0,hb0⟩ := c36 (S0 ++ [.cells 47 false [.ptr 3 54 0]])
 have e1 := call49 i (S0 ++ [.cells 47 false [.ptr 3 54 0]] ++ [.cells 0 false (W0.map uI)] ++ [.cells 66 false [.msl (S0.length + 1) 0 0 m m 1]])
 simp only [List.length_append,List.length_cons,List.length_nil,Nat.zero_add,List.append_assoc,List.cons_append,List.nil_append,Nat.add_assoc,Nat.reduceAdd] at e0 e1
 obtain ⟨W,B6,e2,hW,hbW⟩ := call69 hF hm' hn hfn hlb hi (.ptr 3 54 0) (.iv (.int .i64 i)) (.msl ua 0 0 m m 1) (.msl da 0 0 m m 1) (.iv (.bool false)) (.tup []) (.tup []) (.tup []) (.tup []) (.tup []) (.fn 69 [] [.ptr (S0.length + 3) 47 0,.ptr (S0.length + 4) 4 0]) (.tup []) (.tup []) (.tup []) (.tup []) (.tup []) (.tup []) (.tup []) W0 hW0
 have e2' : (lim K).call 69 [.yld (S0.length + 5),.ptr (S0.length + 3) 47 0,.ptr (S0.length + 4) 4 0] (S0 ++ [.cells 47 false [.ptr 3 54 0],.cells 0 false (W0.map uI),.cells 66 false [.msl (S0.length + 1) 0 0 m m 1],.cells 47 false [.ptr 3 54 0],.cells 4 false [.iv (.int .i64 i)],
   .lp .ready none [.ptr 3 54 0,.iv (.int .i64 i),.msl ua 0 0 m m 1,.msl da 0 0 m m 1,.ptr S0.length 47 0,.iv (.bool false),.ptr (S0.length + 2) 66 0,.tup [],.tup [],.tup [],.tup [],.tup [],.fn 69 [] [.ptr (S0.length + 3) 47 0,.ptr (S0.length + 4) 4 0],.tup [],.tup [],.tup [],.tup [],.tup [],.tup [],.tup []] [13] (.region [⟨.mov (.loc 13),(some 7),none⟩]) (.block 1 (.seq (.region [⟨.load1 (.loc 6),none,none⟩,⟨.len .sl (.reg 0),(some 14),none⟩,⟨.mov (.cst (.int .i64 0)),(some 15),none⟩]) (.block 2 (.loop t37L1))))]) = _ := e2
 clear e2
 have hb0' : ∀ r,bit W0 r = false := fun r => by
  cases h : bit W0 r with
  | false => rfl
  | true => have := (hb0 r).1 h; simp at this
 generalize hE : rE S0.length (.ptr 3 54 0) (.iv (.int .i64 i)) (.msl ua 0 0 m m 1) (.msl da 0 0 m m 1) (.iv (.bool false)) (.tup []) (.tup []) (.tup []) (.tup []) (.tup []) (.fn 69 [] [.ptr (S0.length + 3) 47 0,.ptr (S0.length + 4) 4 0]) (.tup []) (.tup []) (.tup []) (.tup []) (.tup []) (.tup []) (.tup []) = E at *
 obtain ⟨V0,e3,hV0,_⟩ := c36 (gS S0 m W (.cells 47 false [.ptr 3 54 0]) (.cells 4 false [.iv (.int .i64 i)]) (.lp .exhausted none E [13] rA rB) [B6])
 rw [gS_len,gS_app] at e3
 simp only [List.length_cons,List.length_nil,Nat.zero_add,Nat.reduceAdd,List.cons_append,List.nil_append] at e3
 obtain ⟨V,y10,y19,l1,hV,hbV⟩ := loop37b (S0 := S0) hm' hU hD gU gD hW (.cells 47 false [.ptr 3 54 0]) (.cells 4 false [.iv (.int .i64 i)]) (.lp .exhausted none E [13] rA rB) B6 (.ptr 3 54 0) (.iv (.int .i64 i)) (.ptr S0.length 47 0) (.iv (.bool false)) (.tup []) (.tup []) (.tup []) (.fn 69 [] [.ptr (S0.length + 3) 47 0,.ptr (S0.length + 4) 4 0]) (.tup []) (.tup []) (.tup []) (.tup []) m 0 V0 (.tup []) (.tup []) (by omega) hV0
 rw [show ((0 : Nat) : Int) = 0 from rfl] at l1
 have gI := fun R => gS_old (S0 := S0) (m := m) (W := W) (b3 := .cells 47 false [.ptr 3 54 0]) (b4 := .cells 4 false [.iv (.int .i64 i)]) (Z := .lp .exhausted none E [13] rA rB) R (hF.inn.set i hi)
 have g1 := fun R => gS_old (S0 := S0) (m := m) (W := W) (b3 := .cells 47 false [.ptr 3 54 0]) (b4 := .cells 4 false [.iv (.int .i64 i)]) (Z := .lp .exhausted none E [13] rA rB) R hF.inn.row
 have g2 := fun R => gS_old (S0 := S0) (m := m) (W := W) (b3 := .cells 47 false [.ptr 3 54 0]) (b4 := .cells 4 false [.iv (.int .i64 i)]) (Z := .lp .exhausted none E [13] rA rB) R hF.out.row
 have g3 := fun R => gS_old (S0 := S0) (m := m) (W := W) (b3 := .cells 47 false [.ptr 3 54 0]) (b4 := .cells 4 false [.iv (.int .i64 i)]) (Z := .lp .exhausted none E [13] rA rB) R hF.flw
 have g3' := fun L => get_appO hF.flw L
 have c50 := call50 (a := S0.length + 7) (b := ia i) (m := m) (by omega) (gS_get7 (S0 := S0) (m := m) (W := W) (b3 := .cells 47 false [.ptr 3 54 0]) (b4 := .cells 4 false [.iv (.int .i64 i)]) (Z := .lp .exhausted none E [13] rA rB) (a := B6) (b := .cells 0 false (V.map uI)) []) (gI _) hV.len (hF.inn.ok i hi).len
 have i1 := fun j => ix_RW (j := j) (v := 0) (cap := n) hi
 have s1 := sub_cF (fun i => TV.msl (ia i) 0 0 m m 1) hi
 have p1 := put_cF (fun i => TV.msl (ia i) 0 0 m m 1) (.msl (S0.length + 7) 0 0 m m 1) hi
 have p2 := put_cF (fun i => TV.msl (oa i) 0 0 m m 1) (.msl (S0.length + 1) 0 0 m m 1) hi
 rw [upd_map (fun x => TV.msl x 0 0 m m 1)] at p1 p2
 have q2 := fun X R => (get_setN (i := 1) (j := 2) (by decide) X).trans (g2 R)
 have q3 := fun X R => (get_setN (i := 1) (j := S0.length + 2) (by omega) X).trans (gS_get2 (S0 := S0) (m := m) (W := W) (b3 := .cells 47 false [.ptr 3 54 0]) (b4 := .cells 4 false [.iv (.int .i64 i)]) (Z := .lp .exhausted none E [13] rA rB) R)
 have hS : (gS S0 m W (.cells 47 false [.ptr 3 54 0]) (.cells 4 false [.iv (.int .i64 i)]) (.lp .exhausted none E [13] rA rB) [B6,.cells 0 false (V.map uI)]) = S0 ++ (.cells 47 false [.ptr 3 54 0] :: .cells 0 false (W.map uI) :: .cells 66 false [.msl (S0.length + 1) 0 0 m m 1] :: .cells 47 false [.ptr 3 54 0] :: .cells 4 false [.iv (.int .i64 i)] :: .lp .exhausted none E [13] rA rB :: [B6,.cells 0 false (V.map uI)]) := rfl
 have hlen : (gS S0 m W (.cells 47 false [.ptr 3 54 0]) (.cells 4 false [.iv (.int .i64 i)]) (.lp .exhausted none E [13] rA rB) [B6,.cells 0 false (V.map uI)]).length = S0.length + 8 := by rw [gS_len]; rfl
 refine ⟨((gS S0 m W (.cells 47 false [.ptr 3 54 0]) (.cells 4 false [.iv (.int .i64 i)]) (.lp .exhausted none E [13] rA rB) [B6,.cells 0 false (V.map uI)]).set 1 (.cells 0 false (cF n fun j => .msl (upd ia i (S0.length + 7) j) 0 0 m m 1))).set 2 (.cells 0 false (cF n fun j => .msl (upd oa i (S0.length + 1) j) 0 0 m m 1)),V,W,S0.length + 7,S0.length + 1,call_ret' K _ (fn := t37) rfl rfl ?_,?_,hV,hW,fun r => by rw [hbW r,hb0' r,Bool.false_or],bit_flow hU hW hD hV hbV,?_⟩
 ·simp (config := { maxSteps := 4000000 }) (disch := omega) only [t37,go_sem,TM.undef,List.length_append,List.length_cons,List.length_nil,List.append_assoc,Nat.add_assoc,g3',g3,e0,e1,e2',e3]
  rw [l1]
  simp (config := { maxSteps := 4000000 }) (disch := omega) only [go_sem,g3,i1,g1,g2,s1,c50,p1,p2,q2,q3]
 ·refine ⟨⟨c0,?_⟩,⟨?_,?_,?_,?_⟩,⟨?_,?_,?_,?_⟩,?_,?_⟩
  ·rw [get_setN (by decide),get_setN (by decide),hS]; exact get_appO hlab _
  ·rw [get_setN (by decide),get_setS (by rw [hlen]; omega)]
  ·intro j hj
   unfold upd; split
   ·omega
   ·exact hF.inn.ge j hj
  ·intro j hj
   by_cases e : j = i
   ·subst e
    rw [upd_same,upd_same,get_setN (by omega),get_setN (by omega),gS_get7]
   ·rw [upd_ne _ _ e,upd_ne _ _ e]
    have h7 := hF.inn.ge j hj
    rw [get_setN (by omega),get_setN (by omega),hS]
    exact get_appO (hF.inn.set j hj) _
  ·intro j hj
   unfold upd; split
   ·exact hV
   ·exact hF.inn.ok j hj
  ·rw [get_setS (by rw [List.length_set,hlen]; omega)]
  ·intro j hj
   unfold upd; split
   ·omega
   ·exact hF.out.ge j hj
  ·intro j hj
   by_cases e : j = i
   ·subst e
    rw [upd_same,upd_same,get_setN (by omega),get_setN (by omega),gS_get1]
   ·rw [upd_ne _ _ e,upd_ne _ _ e]
    have h7 := hF.out.ge j hj
    rw [get_setN (by omega),get_setN (by omega),hS]
    exact get_appO (hF.out.set j hj) _
  ·intro j hj
   unfold upd; split
   ·exact hW
   ·exact hF.out.ok j hj
  ·rw [get_setN (by decide),get_setN (by decide)]; exact g3 _
  ·rw [List.length_set,List.length_set,hlen]; omega
 ·have k1 : Keep [1,2] S0 (gS S0 m W (.cells 47 false [.ptr 3 54 0]) (.cells 4 false [.iv (.int .i64 i)]) (.lp .exhausted none E [13] rA rB) [B6,.cells 0 false (V.map uI)]) := by rw [hS]; exact Keep.app _ _ _
  exact (k1.trans (Keep.set _ (by simp) _)).trans (Keep.set _ (by simp) _)
theorem flt_le {α : Type} (l : List α) (p q : α → Bool) (h : ∀ x,q x = true → p x = true) : (l.filter q).length ≤ (l.filter p).length := by
 induction l with
 | nil => exact Nat.le_refl _
 | cons a l ih =>
  cases hq : q a with
  | true => rw [List.filter_cons_of_pos hq,List.filter_cons_of_pos (h a hq)]; simpa using ih
  | false =>
   rw [List.filter_cons_of_neg (by rw [hq]; simp)]
   cases hp : p a with
   | true => rw [List.filter_cons_of_pos hp,List.length_cons]; omega
   | false => rw [List.filter_cons_of_neg (by rw [hp]; simp)]; exact ih
theorem flt_lt {α : Type} (l : List α) (p q : α → Bool) (h : ∀ x,q x = true → p x = true) {y : α} (hy : y ∈ l) (hp : p y = true) (hq : q y = false) : (l.filter q).length < (l.filter p).length := by
 induction l with
 | nil => cases hy
 | cons a l ih =>
  rcases List.mem_cons.1 hy with rfl | hy
  ·rw [List.filter_cons_of_pos hp,List.filter_cons_of_neg (by rw [hq]; simp),List.length_cons]
   have := flt_le l p q h
   omega
  ·have h1 := ih hy
   cases hq' : q a with
   | true => rw [List.filter_cons_of_pos hq',List.filter_cons_of_pos (h a hq')]; simpa using h1
   | false =>
    rw [List.filter_cons_of_neg (by rw [hq']; simp)]
    cases hp' : p a with
    | true => rw [List.filter_cons_of_pos hp',List.length_cons]; omega
    | false => rw [List.filter_cons_of_neg (by rw [hp']; simp)]; exact h1
def cells2 (n m : Nat) : List (Nat × Nat) := (List.range n).flatMap fun i => (List.range (64 * m)).map fun r => (i,r)
theorem cells2_mem (n m i r : Nat) : (i,r) ∈ cells2 n m ↔ i < n ∧ r < 64 * m := by
 simp only [cells2,List.mem_flatMap,List.mem_range,List.mem_map,Prod.mk.injEq]
 constructor
 ·rintro ⟨a,ha,b,hb,rfl,rfl⟩; exact ⟨ha,hb⟩
 ·rintro ⟨h1,h2⟩; exact ⟨i,h1,r,h2,rfl,rfl⟩
def lack (n m : Nat) (I : Nat → List Nat) : Nat := ((cells2 n m).filter fun p => !bit (I p.1) p.2).length
theorem bit_out {m : Nat} {W : List Nat} (hW : WOK m W) {r : Nat} (hr : 64 * m ≤ r) : bit W r = false := by
 unfold bit
 rw [List.getD,List.getElem?_eq_none (by rw [hW.len]; omega)]
 exact Nat.zero_testBit _
theorem bits_ext {m : Nat} {W V : List Nat} (hW : WOK m W) (hV : WOK m V) (h : ∀ r,bit W r = bit V r) : W = V := by
 apply List.ext_getElem (by rw [hW.len,hV.len])
 intro q h1 h2
 apply Nat.eq_of_testBit_eq
 intro j
 by_cases hj : j < 64
 ·have := h (64 * q + j)
  unfold bit at this
  rw [show (64 * q + j) / 64 = q by omega,show (64 * q + j) % 64 = j by omega] at this
  simpa only [List.getD,List.getElem?_eq_getElem h1,List.getElem?_eq_getElem h2,Option.getD_some] using this
 ·have hp : (18446744073709551616 : Nat) ≤ 2 ^ j := Nat.pow_le_pow_right (n := 2) (by decide) (show 64 ≤ j by omega)
  rw [Nat.testBit_lt_two_pow (Nat.lt_of_lt_of_le (hW.lt _ (List.getElem_mem h1)) hp),Nat.testBit_lt_two_pow (Nat.lt_of_lt_of_le (hV.lt _ (List.getElem_mem h2)) hp)]
theorem bits_ne {m : Nat} {W V : List Nat} (hW : WOK m W) (hV : WOK m V) (h : W ≠ V) (hs : ∀ r,bit V r = true → bit W r = true) : ∃ r,r < 64 * m ∧ bit W r = true ∧ bit V r = false := by
 apply Classical.byContradiction
 intro hn
 apply h
 refine bits_ext hW hV fun r => ?_
 cases hw : bit W r with
 | false =>
  cases hv : bit V r with
  | false => rfl
  | true => rw [hs r hv] at hw; cases hw
 | true =>
  cases hv : bit V r with
  | true => rfl
  | false =>
   refine absurd ⟨r,?_,hw,hv⟩ hn
   rcases Nat.lt_or_ge r (64 * m) with h1 | h1
   ·exact h1
   ·rw [bit_out hW h1] at hw; cases hw
def anyB (lb : List (Nat × Int × Int)) (l : List VI) (I : Nat → List Nat) (i r : Nat) : Bool := (bhd lb l i).any fun k => bit (I k) r
def eqn (lb : List (Nat × Int × Int)) (l : List VI) (U D I : Nat → List Nat) (i r : Nat) : Bool := bit (U i) r || (anyB lb l I i r && !bit (D i) r)
inductive Lv (lb : List (Nat × Int × Int)) (l : List VI) (U D : Nat → List Nat) (r : Nat) : Nat → Prop
 | use {i : Nat} (h : bit (U i) r = true) : Lv lb l U D r i
 | step {i k : Nat} (hk : k ∈ bhd lb l i) (h : Lv lb l U D r k) (hd : bit (D i) r = false) : Lv lb l U D r i
theorem eqn_mono {lb : List (Nat × Int × Int)} {l : List VI} {U D I I' : Nat → List Nat} (h : ∀ k r,bit (I k) r = true → bit (I' k) r = true) (i r : Nat) (he : eqn lb l U D I i r = true) : eqn lb l U D I' i r = true := by
 unfold eqn anyB at *
 rw [Bool.or_eq_true] at he ⊢
 rcases he with he | he
 ·exact .inl he
 ·rw [Bool.and_eq_true] at he ⊢
  refine .inr ⟨?_,he.2⟩
  obtain ⟨k,hk,hb⟩ := List.any_eq_true.1 he.1
  exact List.any_eq_true.2 ⟨k,hk,h k r hb⟩
theorem eqn_lv {lb : List (Nat × Int × Int)} {l : List VI} {U D I : Nat → List Nat} (h : ∀ k r,bit (I k) r = true → Lv lb l U D r k) (i r : Nat) (he : eqn lb l U D I i r = true) : Lv lb l U D r i := by
 unfold eqn anyB at he
 rw [Bool.or_eq_true,Bool.and_eq_true] at he
 rcases he with he | ⟨he,hd⟩
 ·exact .use he
 ·obtain ⟨k,hk,hb⟩ := List.any_eq_true.1 he
  exact .step hk (h k r hb) (by simpa using hd)
structure Grow (lb : List (Nat × Int × Int)) (l : List VI) (U D I : Nat → List Nat) : Prop where
 pre : ∀ i r,bit (I i) r = true → eqn lb l U D I i r = true
 snd : ∀ i r,bit (I i) r = true → Lv lb l U D r i
theorem upd_le {I : Nat → List Nat} {i : Nat} {A : List Nat} (h : ∀ r,bit (I i) r = true → bit A r = true) (k r : Nat) (hb : bit (I k) r = true) : bit (upd I i A k) r = true := by
 unfold upd; split
 ·subst_vars; exact h r hb
 ·exact hb
theorem Grow.upd {lb : List (Nat × Int × Int)} {l : List VI} {U D I : Nat → List Nat} (h : Grow lb l U D I) {i : Nat} {A : List Nat} (hA : ∀ r,bit A r = eqn lb l U D I i r) : Grow lb l U D (upd I i A) := by
 have hle := upd_le (I := I) (i := i) (A := A) fun r hb => by rw [hA]; exact h.pre i r hb
 refine ⟨fun j r hb => ?_,fun j r hb => ?_⟩
 ·refine eqn_mono hle j r ?_
  unfold Proofs.YtehlgnfhkidgoaaDoor.upd at hb
  split at hb
  ·subst_vars; rw [← hA]; exact hb
  ·exact h.pre j r hb
 ·unfold Proofs.YtehlgnfhkidgoaaDoor.upd at hb
  split at hb
  ·subst_vars; rw [hA] at hb; exact eqn_lv h.snd _ r hb
  ·exact h.snd j r hb
theorem lack_le {n m : Nat} {I I' : Nat → List Nat} (h : ∀ k r,bit (I k) r = true → bit (I' k) r = true) : lack n m I' ≤ lack n m I := by
 refine flt_le _ _ _ fun p hp => ?_
 simp only [Bool.not_eq_true'] at hp ⊢
 cases hb : bit (I p.1) p.2 with
 | false => rfl
 | true => rw [h _ _ hb] at hp; cases hp
theorem lack_lt {n m : Nat} {I I' : Nat → List Nat} (h : ∀ k r,bit (I k) r = true → bit (I' k) r = true) {i r : Nat} (hi : i < n) (hr : r < 64 * m) (h1 : bit (I' i) r = true) (h2 : bit (I i) r = false) : lack n m I' < lack n m I := by
 refine flt_lt _ _ _ (fun p hp => ?_) ((cells2_mem n m i r).2 ⟨hi,hr⟩) (by simp [h2]) (by simp [h1])
 simp only [Bool.not_eq_true'] at hp ⊢
 cases hb : bit (I p.1) p.2 with
 | false => rfl
 | true => rw [h _ _ hb] at hp; cases hp
theorem RS.keep {S S' : Store} {j n m : Nat} {ia : Nat → Nat} {I : Nat → List Nat} (h : RS S j n m ia I) (k : Keep [1,2] S S') (hj : j ∉ [1,2]) : RS S' j n m ia I :=
 ⟨k.get _ _ hj h.row,h.ge,fun i hi => k.get _ _ (by have := h.ge i hi; simp; omega) (h.set i hi),h.ok⟩
structure Rd (lb : List (Nat × Int × Int)) (l : List VI) (n m : Nat) (U D I0 I O : Nat → List Nat) (i : Nat) (ch : Bool) : Prop where
 grow : Grow lb l U D I
 more : lack n m I ≤ lack n m I0
 yes : ch = true → lack n m I < lack n m I0
 no : ch = false → I = I0 ∧ ∀ j,i ≤ j → j < n → (∀ r,bit (I j) r = eqn lb l U D I j r) ∧ ∀ r,bit (O j) r = anyB lb l I j r
theorem Rd.step {lb : List (Nat × Int × Int)} {l : List VI} {n m : Nat} {U D I0 I O : Nat → List Nat} {i : Nat} {ch : Bool} (h : Rd lb l n m U D I0 I O (i + 1) ch) (hi : i < n) {A B : List Nat} (hA : WOK m A) (hI : WOK m (I i)) (hB : ∀ r,bit B r = anyB lb l I i r) (hA2 : ∀ r,bit A r = eqn lb l U D I i r) :
  Rd lb l n m U D I0 (upd I i A) (upd O i B) i (!decide (A = I i) || ch) := by
 have hge : ∀ r,bit (I i) r = true → bit A r = true := fun r hb => by rw [hA2]; exact h.grow.pre i r hb
 have hle := upd_le (I := I) (i := i) (A := A) hge
 have hl := lack_le (n := n) (m := m) hle
 by_cases e : A = I i
 ·have hu : upd I i A = I := by funext j; unfold upd; split <;> simp_all
  rw [decide_eq_true e,Bool.not_true,Bool.false_or,hu]
  refine ⟨h.grow,h.more,h.yes,fun hc => ?_⟩
  obtain ⟨h1,h2⟩ := h.no hc
  refine ⟨h1,fun j hj hjn => ?_⟩
  by_cases ej : j = i
  ·subst ej
   rw [upd_same]
   exact ⟨fun r => by rw [← e]; exact hA2 r,hB⟩
  ·rw [upd_ne _ _ ej]
   exact h2 j (by omega) hjn
 ·rw [decide_eq_false e,Bool.not_false,Bool.true_or]
  obtain ⟨r,hr,h1,h2⟩ := bits_ne hA hI e hge
  have hlt := lack_lt (n := n) (m := m) hle hi hr (by rw [upd_same]; exact h1) h2
  refine ⟨h.grow.upd hA2,by have := h.more; omega,fun _ => by have := h.more; omega,fun hc => by cases hc⟩
theorem loop25a {f : VF} {lb : List (Nat × Int × Int)} {n m : Nat} {U D I0 : Nat → List Nat} {ua da : Nat → Nat} (hm : (f.regs + 63) / 64 = m) (hr : f.regs ≤ 1000000) (hn : n ≤ 1000000) (hfn : f.ins.length = n) (hlb : LabOK lb f.ins) (x0 x1 x2 x3 x4 x5 x9 x10 x11 x12 x15 x16 x17 x18 x19 x20 x21 : TV) : ∀ (i : Nat) (S : Store) (ia oa : Nat → Nat) (I O : Nat → List Nat) (ch : Bool) (x22 : TV),i ≤ n →
  FlS S f lb n m ia oa I O → RS S 4 n m ua U → RS S 5 n m da D → Rd lb f.ins n m U D I0 I O i ch →
  ∃ (S' : Store) (ia' oa' : Nat → Nat) (I' O' : Nat → List Nat) (ch' : Bool) (y22 : TV),lp' (lim K) t25L0 [x0,x1,x2,x3,x4,x5,.ptr 3 54 0,.msl 4 0 0 n n 1,.msl 5 0 0 n n 1,x9,x10,x11,x12,.iv (.bool ch),.iv (.int .i64 ((i : Int) - 1)),x15,x16,x17,x18,x19,x20,x21,x22] S
   = .ret (.exit 4,[x0,x1,x2,x3,x4,x5,.ptr 3 54 0,.msl 4 0 0 n n 1,.msl 5 0 0 n n 1,x9,x10,x11,x12,.iv (.bool ch'),.iv (.int .i64 (-1)),x15,x16,x17,x18,x19,x20,x21,y22],S') ∧
   FlS S' f lb n m ia' oa' I' O' ∧ RS S' 4 n m ua U ∧ RS S' 5 n m da D ∧ Rd lb f.ins n m U D I0 I' O' 0 ch'
 | 0,S,ia,oa,I,O,ch,x22,hi,hF,hU,hD,hR => by
  refine ⟨S,ia,oa,I,O,ch,.iv (.bool false),loop_at K _ _ t25L0.eq_1 ?_,hF,hU,hD,hR⟩
  rw [show ((0 : Nat) : Int) - 1 = -1 from rfl]
  simp (config := { maxSteps := 4000000 }) (disch := omega) only [go_sem]
 | i + 1,S,ia,oa,I,O,ch,x22,hi,hF,hU,hD,hR => by
  have hin : i < n := by omega
  obtain ⟨S1,A,B,a,b,c37,hF1,hA,hB,hbB,hbA,hk⟩ := call37 hF hm hr hn hfn hlb hin (hU.ok i hin) (hD.ok i hin) (hU.set i hin) (hD.set i hin)
  have hR1 := hR.step hin hA (hF.inn.ok i hin) (B := B) hbB (fun r => by rw [hbA r,hbB r]; rfl)
  have hU1 := hU.keep hk (by simp)
  have hD1 := hD.keep hk (by simp)
  have i1 := fun j => ix_RW (j := j) (v := 0) (cap := n) hin
  have s1 := sub_cF (fun i => TV.msl (ua i) 0 0 m m 1) hin
  have s2 := sub_cF (fun i => TV.msl (da i) 0 0 m m 1) hin
  have g1 := hU.row
  have g2 := hD.row
  rw [show (((i + 1 : Nat) : Int) - 1) = (i : Int) by omega]
  generalize (!decide (A = I i)) = bb at *
  obtain ⟨S',ia',oa',I',O',ch',y22,ih,hx⟩ := loop25a hm hr hn hfn hlb x0 x1 x2 x3 x4 x5 x9 x10 x11 x12 x15 x16 x17 x18 x19 x20 x21 i S1 _ _ _ _ (bb || ch) (.iv (.bool true)) (by omega) hF1 hU1 hD1 hR1
  refine ⟨S',ia',oa',I',O',ch',y22,loop_at K _ _ t25L0.eq_1 ?_,hx⟩
  cases bb with
  | true =>
   rw [Bool.true_or] at ih
   simp (config := { maxSteps := 4000000 }) (disch := omega) only [go_sem,i1,g1,g2,s1,s2,c37,wrap_i64]
   exact congrArg er ih
  | false =>
   rw [Bool.false_or] at ih
   simp (config := { maxSteps := 4000000 }) (disch := omega) only [go_sem,i1,g1,g2,s1,s2,c37,wrap_i64]
   exact congrArg er ih
theorem loop25b {f : VF} {lb : List (Nat × Int × Int)} {n m : Nat} {U D : Nat → List Nat} {ua da : Nat → Nat} (hm : (f.regs + 63) / 64 = m) (hr : f.regs ≤ 1000000) (hn : n ≤ 1000000) (hfn : f.ins.length = n) (hlb : LabOK lb f.ins) (x0 x1 x2 x3 x4 x9 x10 x11 x12 x15 x16 x17 x18 x19 x20 : TV) : ∀ (q : Nat) (S : Store) (ia oa : Nat → Nat) (I O : Nat → List Nat) (x14 x21 x22 : TV),lack n m I ≤ q →
  FlS S f lb n m ia oa I O → RS S 4 n m ua U → RS S 5 n m da D → Grow lb f.ins U D I →
  ∃ (S' : Store) (ia' oa' : Nat → Nat) (I' O' : Nat → List Nat) (y14 y21 y22 : TV),lp' (lim K) t25L1 [x0,x1,x2,x3,x4,.iv (.int .i64 n),.ptr 3 54 0,.msl 4 0 0 n n 1,.msl 5 0 0 n n 1,x9,x10,x11,x12,.iv (.bool true),x14,x15,x16,x17,x18,x19,x20,x21,x22] S
   = .ret (.exit 2,[x0,x1,x2,x3,x4,.iv (.int .i64 n),.ptr 3 54 0,.msl 4 0 0 n n 1,.msl 5 0 0 n n 1,x9,x10,x11,x12,.iv (.bool false),y14,x15,x16,x17,x18,x19,x20,y21,y22],S') ∧
   FlS S' f lb n m ia' oa' I' O' ∧ RS S' 4 n m ua U ∧ RS S' 5 n m da D ∧ Grow lb f.ins U D I' ∧ ∀ j,j < n → (∀ r,bit (I' j) r = eqn lb f.ins U D I' j r) ∧ ∀ r,bit (O' j) r = anyB lb f.ins I' j r
 | q,S,ia,oa,I,O,x14,x21,x22,hq,hF,hU,hD,hG => by
  obtain ⟨S1,ia1,oa1,I1,O1,ch,y22,l1,hF1,hU1,hD1,hR⟩ := loop25a (I0 := I) hm hr hn hfn hlb x0 x1 x2 x3 x4 (.iv (.int .i64 n)) x9 x10 x11 x12 x15 x16 x17 x18 x19 x20 (.iv (.bool true)) n S ia oa I O false x22 (Nat.le_refl _) hF hU hD ⟨hG,Nat.le_refl _,(fun h => by cases h),fun _ => ⟨rfl,fun j h1 h2 => by omega⟩⟩
  cases ch with
  | false =>
   obtain ⟨h1,h2⟩ := hR.no rfl
   refine ⟨S1,ia1,oa1,I1,O1,.iv (.int .i64 (-1)),.iv (.bool false),y22,?_,hF1,hU1,hD1,hR.grow,fun j hj => h2 j (Nat.zero_le _) hj⟩
   have l2 : lp' (lim K) t25L1 [x0,x1,x2,x3,x4,.iv (.int .i64 n),.ptr 3 54 0,.msl 4 0 0 n n 1,.msl 5 0 0 n n 1,x9,x10,x11,x12,.iv (.bool false),.iv (.int .i64 (-1)),x15,x16,x17,x18,x19,x20,.iv (.bool true),y22] S1 = .ret (.exit 2,[x0,x1,x2,x3,x4,.iv (.int .i64 n),.ptr 3 54 0,.msl 4 0 0 n n 1,.msl 5 0 0 n n 1,x9,x10,x11,x12,.iv (.bool false),.iv (.int .i64 (-1)),x15,x16,x17,x18,x19,x20,.iv (.bool false),y22],S1) := by
    refine loop_at K _ _ t25L1.eq_1 ?_
    simp (config := { maxSteps := 4000000 }) (disch := omega) only [go_sem]
   refine loop_at K _ _ t25L1.eq_1 ?_
   simp (config := { maxSteps := 4000000 }) (disch := omega) only [go_sem,wrap_i64]
   rw [l1]
   simp (config := { maxSteps := 4000000 }) (disch := omega) only [go_sem]
   exact congrArg er l2
  | true =>
   have hlt := hR.yes rfl
   match q,hq with
   | 0,hq => omega
   | q + 1,hq =>
    obtain ⟨S',ia',oa',I',O',y14,y21,z22,ih,hx⟩ := loop25b hm hr hn hfn hlb x0 x1 x2 x3 x4 x9 x10 x11 x12 x15 x16 x17 x18 x19 x20 q S1 ia1 oa1 I1 O1 (.iv (.int .i64 (-1))) (.iv (.bool true)) y22 (by omega) hF1 hU1 hD1 hR.grow
    refine ⟨S',ia',oa',I',O',y14,y21,z22,loop_at K _ _ t25L1.eq_1 ?_,hx⟩
    simp (config := { maxSteps := 4000000 }) (disch := omega) only [go_sem,wrap_i64]
    rw [l1]
    simp (config := { maxSteps := 4000000 }) (disch := omega) only [go_sem]
    exact congrArg er ih
theorem call9B (v : VI) (h : (15 ≤ v.op ∧ v.op ≤ 22) ∨ v.op = 24 ∨ v.op = 64 ∨ v.op = 74) : ∃ t',TagOk t' (usesM v) ∧ TM.Pure K 9 [.iv (.agg (encV v))] (.iv (.sl t' (TM.one (.int .i64) (usesM v)))) := by
 have hM : usesM v = tdy [v.a] := by unfold usesM; rw [if_neg (by omega),if_pos (by omega)]
 rw [hM]
 have h0 : ([.cells 0 false [vI v.a]] : Store)[0]? = some (.cells 0 false ([v.a].map vI ++ [])) := rfl
 obtain ⟨J,c22⟩ := call22 (by simp) (cap := 1) (by simp) h0 (tdy_tidy [v.a])
 have c21 := call21 v.op
 rw [decide_eq_false (by omega)] at c21
 refine ⟨.no,no_ok _,pure_ret (S := [.cells 0 false ((tdy [v.a]).map vI ++ J)]) (call_ret' K _ (fn := t9) rfl rfl ?_) (resolve_RW (j := 0) (v := 0) (b := false) (J := J) rfl 1)⟩
 simp only [vI,List.length_cons,List.length_nil,List.set_cons_zero,Nat.zero_add,Nat.reduceAdd] at c22
 rcases h with h | h | h | h <;> simp (config := { maxSteps := 4000000 }) (disch := omega) only [t9,go_sem,TM.undef,encV,List.map_cons,List.map_nil,c22,cpR_pure c21]
theorem call9N (v : VI) (h : v.op < 1 ∨ v.op = 23 ∨ (32 ≤ v.op ∧ v.op ≤ 63) ∨ v.op = 65 ∨ v.op = 66 ∨ v.op = 69 ∨ v.op = 70 ∨ v.op = 71 ∨ v.op = 73 ∨ 74 < v.op) : ∃ t',TagOk t' (usesM v) ∧ TM.Pure K 9 [.iv (.agg (encV v))] (.iv (.sl t' (TM.one (.int .i64) (usesM v)))) := by
 have hM : usesM v = [] := by unfold usesM; rw [if_neg (by omega),if_neg (by omega),if_neg (by omega)]
 rw [hM]
 have c21 := call21 v.op
 rw [decide_eq_false (by omega)] at c21
 refine ⟨.nil,TagOk.nil,call_pure t9 rfl rfl ?_⟩
 rcases h with h | h | h | h | h | h | h | h | h | h <;> simp (config := { maxSteps := 4000000 }) (disch := omega) only [t9,go_sem,TM.undef,encV,List.map_cons,List.map_nil,cpR_pure c21] <;> rfl
theorem call9C (v : VI) (hu : v.us.length ≤ 999990) (ht : TagOk v.tu v.us) (h : v.op = 67 ∨ v.op = 68 ∨ v.op = 72) : ∃ t',TagOk t' (usesM v) ∧ TM.Pure K 9 [.iv (.agg (encV v))] (.iv (.sl t' (TM.one (.int .i64) (usesM v)))) := by
 have hM : usesM v = tdy (v.us ++ [26]) := by unfold usesM; rw [if_neg (by omega),if_neg (by omega),if_pos h]
 rw [hM]
 have c21 := call21 v.op
 rw [decide_eq_false (by omega)] at c21
 rcases call23 v.tu v.us ht (by omega) [] with ⟨hu0,t0,ht0,c23⟩ | ⟨hu0,c23⟩
 ·rw [hu0] at c23 ⊢
  have e1 := ap_first (S := []) 26 ht0 .full
  have h0 : ([.cells 0 true [vI 26]] : Store)[0]? = some (.cells 0 true ([(26 : Int)].map vI ++ [])) := rfl
  obtain ⟨J,c22⟩ := call22 (by simp) (cap := 1) (by simp) h0 (tdy_tidy [(26 : Int)])
  refine ⟨.no,no_ok _,pure_ret (S := [.cells 0 true ((tdy [(26 : Int)]).map vI ++ J)]) (call_ret' K _ (fn := t9) rfl rfl ?_) (resolve_RW (j := 0) (v := 0) (b := true) (J := J) rfl 1)⟩
  simp only [vI,List.length_cons,List.length_nil,List.set_cons_zero,Nat.zero_add,Nat.reduceAdd,List.nil_append] at c22 e1
  rcases h with h | h | h <;> simp (config := { maxSteps := 4000000 }) (disch := omega) only [t9,go_sem,TM.undef,encV,List.map_cons,List.map_nil,hu0,c23,e1,c22,cpR_pure c21]
 ·have hS0 : ([.cells 0 true (v.us.map vI)] : Store)[0]? = some (.cells 0 true (v.us.map vI)) := rfl
  have e1 := ap_row (S := [.cells 0 true (v.us.map vI)]) true 26 hS0 (by omega) .full
  have h0 : ([.cells 1 true ((v.us ++ [26]).map vI)] : Store)[0]? = some (.cells 1 true ((v.us ++ [(26 : Int)]).map vI ++ [])) := by simp
  obtain ⟨J,c22⟩ := call22 (by simp; omega) (cap := v.us.length + 1) (by simp) h0 (tdy_tidy (v.us ++ [(26 : Int)]))
  refine ⟨.no,no_ok _,pure_ret (S := [.cells 1 true ((tdy (v.us ++ [(26 : Int)])).map vI ++ J)]) (call_ret' K _ (fn := t9) rfl rfl ?_) (resolve_RW (j := 0) (v := 1) (b := true) (J := J) rfl (v.us.length + 1))⟩
  rw [List.length_append,List.length_singleton] at c22
  simp only [List.set_cons_zero,Nat.zero_add,List.nil_append,List.length_nil] at c22 e1 c23
  rcases h with h | h | h <;> simp (config := { maxSteps := 4000000 }) (disch := omega) only [t9,go_sem,TM.undef,encV,List.map_cons,List.map_nil,c23,e1,c22,cpR_pure c21]
theorem call9 (v : VI) (hu : v.us.length ≤ 999990) (ht : TagOk v.tu v.us) : ∃ t',TagOk t' (usesM v) ∧ TM.Pure K 9 [.iv (.agg (encV v))] (.iv (.sl t' (TM.one (.int .i64) (usesM v)))) := by
 by_cases h1 : (1 ≤ v.op ∧ v.op ≤ 14) ∨ v.op = 25 ∨ (26 ≤ v.op ∧ v.op ≤ 31)
 ·exact call9A v h1
 ·by_cases h2 : (15 ≤ v.op ∧ v.op ≤ 22) ∨ v.op = 24 ∨ v.op = 64 ∨ v.op = 74
  ·exact call9B v h2
  ·by_cases h3 : v.op = 67 ∨ v.op = 68 ∨ v.op = 72
   ·exact call9C v hu ht h3
   ·exact call9N v (by omega)
theorem loop11 (d : Int) (b0 : Block) (x0 x1 x2 x5 x6 x7 : TV) : ∀ (k i : Nat) (x4 x9 : TV),i + k = 25 → 1 ≤ i →
  ∃ y4 y9,lp' (lim K) t11L0 [x0,x1,x2,.msl 1 (i - 1) 0 (3 + i) (3 + i) 1,x4,x5,x6,x7,.iv (.int .i64 (i : Int)),x9] [b0,.cells (i - 1) true (([d,26,31] ++ regs26.take i).map vI)]
   = .ret (.exit 1,[x0,x1,x2,.msl 1 24 0 28 28 1,y4,x5,x6,x7,.iv (.int .i64 25),y9],[b0,.cells 24 true (([d,26,31] ++ regs26.take 25).map vI)])
 | 0,i,x4,x9,h,hi => by
  obtain rfl : i = 25 := by omega
  refine ⟨x4,.iv (.bool false),loop_at K _ _ t11L0.eq_1 ?_⟩
  simp (config := { maxSteps := 4000000 }) (disch := omega) only [go_sem]
  rfl
 | k + 1,i,x4,x9,h,hi => by
  have hlen : ([d,26,31] ++ regs26.take i).length = 3 + i := by simp [regs26]; omega
  have e1 := ap_row (S := [b0,.cells (i - 1) true (([d,26,31] ++ regs26.take i).map vI)]) (j := 1) false ((i : Int) + 1) rfl (by omega) .full
  have ht : ([d,26,31] ++ regs26.take i) ++ [(i : Int) + 1] = [d,26,31] ++ regs26.take (i + 1) := by
   rw [take_succD (by simp [regs26]; omega),← List.append_assoc]
   congr 2
   simp [regs26,List.getD,show i < 26 by omega]
  rw [ht,hlen,show i - 1 + 1 = i by omega] at e1
  obtain ⟨y4,y9,ih⟩ := loop11 d b0 x0 x1 x2 x5 x6 x7 k (i + 1) (.iv (.int .i64 i)) (.iv (.bool true)) (by omega) (by omega)
  rw [show ((i + 1 : Nat) : Int) = (i : Int) + 1 by omega,show i + 1 - 1 = i by omega,show 3 + (i + 1) = 3 + i + 1 by omega] at ih
  refine ⟨y4,y9,loop_at K _ _ t11L0.eq_1 ?_⟩
  simp only [List.set_cons_succ,List.set_cons_zero] at e1
  generalize hX : ([d,26,31] ++ regs26.take i).map vI = X at *
  simp (config := { maxSteps := 4000000 }) (disch := omega) only [go_sem,e1,wrap_i64]
  exact congrArg er ih
theorem loop11a (d : Int) (x0 x1 x2 x4 x5 x6 x7 x9 : TV) : 
  ∃ y4 y9,lp' (lim K) t11L0 [x0,x1,x2,.msl 0 0 0 3 3 1,x4,x5,x6,x7,.iv (.int .i64 0),x9] [.cells 0 false ([d,26,31].map vI)]
   = .ret (.exit 1,[x0,x1,x2,.msl 1 24 0 28 28 1,y4,x5,x6,x7,.iv (.int .i64 25),y9],[.cells 0 false ([d,26,31].map vI),.cells 24 true (([d,26,31] ++ regs26.take 25).map vI)]) := by
 have e1 := ap_row0 (S := [.cells 0 false ([d,26,31].map vI)]) (j := 0) (C := [d,26,31]) false 1 rfl (by simp) .full
 obtain ⟨y4,y9,ih⟩ := loop11 d (.cells 0 false ([d,26,31].map vI)) x0 x1 x2 x5 x6 x7 24 1 (.iv (.int .i64 0)) (.iv (.bool true)) (by omega) (by omega)
 refine ⟨y4,y9,loop_at K _ _ t11L0.eq_1 ?_⟩
 rw [show ((1 : Nat) : Int) = 1 from rfl,show 1 - 1 = 0 from rfl,show 3 + 1 = 4 from rfl,show regs26.take 1 = [1] by decide] at ih
 simp only [List.length_cons,List.length_nil,Nat.zero_add,Nat.reduceAdd,List.cons_append,List.nil_append] at e1
 generalize hX : [d,26,31].map vI = X at *
 have hw : IntKind.i64.wrap 1 = 1 := by decide
 simp (config := { maxSteps := 4000000 }) (disch := omega) only [go_sem,hw,e1]
 exact congrArg er ih
theorem call11A (v : VI) (h : (1 ≤ v.op ∧ v.op ≤ 24) ∨ v.op = 64 ∨ v.op = 69 ∨ v.op = 70 ∨ v.op = 71 ∨ v.op = 73) : ∃ t',TagOk t' (defsM v) ∧ TM.Pure K 11 [.iv (.agg (encV v))] (.iv (.sl t' (TM.one (.int .i64) (defsM v)))) := by
 have hM : defsM v = tdy [v.d] := by unfold defsM; rw [if_pos (by omega)]
 rw [hM]
 have h0 : ([.cells 0 false [vI v.d]] : Store)[0]? = some (.cells 0 false ([v.d].map vI ++ [])) := rfl
 obtain ⟨J,c22⟩ := call22 (by simp) (cap := 1) (by simp) h0 (tdy_tidy [v.d])
 refine ⟨.no,no_ok _,pure_ret (S := [.cells 0 false ((tdy [v.d]).map vI ++ J)]) (call_ret' K _ (fn := t11) rfl rfl ?_) (resolve_RW (j := 0) (v := 0) (b := false) (J := J) rfl 1)⟩
 simp only [vI,List.length_cons,List.length_nil,List.set_cons_zero,Nat.zero_add,Nat.reduceAdd] at c22
 rcases h with h | h | h | h | h | h <;> simp (config := { maxSteps := 4000000 }) (disch := omega) only [t11,go_sem,TM.undef,encV,List.map_cons,List.map_nil,c22]
theorem call11N (v : VI) (h : v.op < 1 ∨ (25 ≤ v.op ∧ v.op ≤ 63) ∨ v.op = 65 ∨ v.op = 66 ∨ v.op = 68 ∨ v.op = 72 ∨ 73 < v.op) : ∃ t',TagOk t' (defsM v) ∧ TM.Pure K 11 [.iv (.agg (encV v))] (.iv (.sl t' (TM.one (.int .i64) (defsM v)))) := by
 have hM : defsM v = [] := by unfold defsM; rw [if_neg (by omega),if_neg (by omega)]
 rw [hM]
 refine ⟨.nil,TagOk.nil,call_pure t11 rfl rfl ?_⟩
 rcases h with h | h | h | h | h | h | h <;> simp (config := { maxSteps := 4000000 }) (disch := omega) only [t11,go_sem,TM.undef,encV,List.map_cons,List.map_nil] <;> rfl
theorem call11C (v : VI) (h : v.op = 67) : ∃ t',TagOk t' (defsM v) ∧ TM.Pure K 11 [.iv (.agg (encV v))] (.iv (.sl t' (TM.one (.int .i64) (defsM v)))) := by
 have hM : Tidy ([v.d,26,31] ++ regs26.take 25) (defsM v) := by
  unfold defsM
  rw [if_neg (by omega),if_pos h]
  have t := tdy_tidy (regs26 ++ [31,v.d])
  refine ⟨t.rise,fun x => (t.mem x).trans ?_⟩
  have h26 : ∀ x : Int,x ∈ regs26 ↔ x = 26 ∨ x ∈ regs26.take 25 := by
   intro x
   have e : regs26 = regs26.take 25 ++ [26] := by decide
   conv => lhs; rw [e]
   simp only [List.mem_append,List.mem_singleton]
   constructor <;> (rintro (h | h) <;> simp [h])
  simp only [List.mem_append,List.mem_cons,List.not_mem_nil,or_false,h26]
  constructor
  ·rintro ⟨h1,h2⟩
   refine ⟨?_,h2⟩
   rcases h1 with (h1 | h1) | h1 | h1
   ·exact .inl (.inr (.inl h1))
   ·exact .inr h1
   ·exact .inl (.inr (.inr h1))
   ·exact .inl (.inl h1)
  ·rintro ⟨h1,h2⟩
   refine ⟨?_,h2⟩
   rcases h1 with (h1 | h1 | h1) | h1
   ·exact .inr (.inr h1)
   ·exact .inl (.inl h1)
   ·exact .inr (.inl h1)
   ·exact .inl (.inr h1)
 have hlen : ([v.d,26,31] ++ regs26.take 25).length = 28 := by simp [regs26]
 obtain ⟨y4,y9,lo⟩ := loop11a v.d (.iv (.agg (encV v))) (.lb ((encV v).map .iv)) (.iv (.sl .nil [])) (.tup []) (.iv (.bool false)) (.iv (.bool false)) (.iv (.bool true)) (.tup [])
 rw [encV_tv,encV_eq] at lo
 have h0 : ([.cells 0 false ([v.d,26,31].map vI),.cells 24 true (([v.d,26,31] ++ regs26.take 25).map vI)] : Store)[1]? = some (.cells 24 true (([v.d,26,31] ++ regs26.take 25).map vI ++ [])) := by rw [List.append_nil]; rfl
 obtain ⟨J,c22⟩ := call22 (by omega) (cap := 28) (by omega) h0 hM
 rw [hlen] at c22
 refine ⟨.no,no_ok _,pure_ret (S := [.cells 0 false ([v.d,26,31].map vI),.cells 24 true ((defsM v).map vI ++ J)]) (call_ret' K _ (fn := t11) rfl rfl ?_) (resolve_RW (j := 1) (v := 24) (b := true) (J := J) rfl 28)⟩
 simp only [List.set_cons_succ,List.set_cons_zero] at c22
 simp (config := { maxSteps := 4000000 }) (disch := omega) only [t11,go_sem,TM.undef,encV,List.map_cons,List.map_nil]
 have hd3 : [v.d,26,31].map vI = [TV.iv (.int .i64 v.d),.iv (.int .i64 26),.iv (.int .i64 31)] := rfl
 generalize hX : ([v.d,26,31] ++ regs26.take 25).map vI = X at *
 rw [hd3] at lo c22
 rw [lo]
 simp (config := { maxSteps := 4000000 }) (disch := omega) only [go_sem,c22]
 rfl
theorem call11 (v : VI) : ∃ t',TagOk t' (defsM v) ∧ TM.Pure K 11 [.iv (.agg (encV v))] (.iv (.sl t' (TM.one (.int .i64) (defsM v)))) := by
 by_cases h1 : (1 ≤ v.op ∧ v.op ≤ 24) ∨ v.op = 64 ∨ v.op = 69 ∨ v.op = 70 ∨ v.op = 71 ∨ v.op = 73
 ·exact call11A v h1
 ·by_cases h3 : v.op = 67
  ·exact call11C v h3
  ·exact call11N v (by omega)
theorem lkB_box2 (l : List (Nat × Int × Int)) (c : Nat) (k : Int) : lkB (.leaf .int) (.agg [.int .i64 0]) true (some (.mp (mpR boxI l) c)) (.iv (.int .i64 k)) = some (.tup [.iv (.agg [.int .i64 (cntR l k)]),.iv (.bool (hasR l k))]) := by
 rw [lkB_mp]
 simp only [cntR,hasR]
 cases getR l k <;> rfl
def firstL (l : List VI) (L : Int) : Option Int := (l.findIdx? fun x => decide (x.op = 65) && decide (x.lb = L)).map fun k : Nat => (k : Int)
theorem firstL_snoc (l : List VI) (x : VI) (L : Int) : firstL (l ++ [x]) L = match firstL l L with
  | some k => some k
  | none => if x.op = 65 ∧ x.lb = L then some (l.length : Int) else none := by
 unfold firstL
 rw [List.findIdx?_append]
 cases h : l.findIdx? (fun x => decide (x.op = 65) && decide (x.lb = L)) with
 | some k => simp
 | none =>
  by_cases e : x.op = 65 ∧ x.lb = L
  ·simp [e]
  ·rw [if_neg e]
   have : (decide (x.op = 65) && decide (x.lb = L)) = false := by
    cases h1 : (decide (x.op = 65) && decide (x.lb = L)) with
    | false => rfl
    | true => simp at h1; exact absurd h1 e
   simp [List.findIdx?_cons,this]
structure RP (S : Store) (j n m i : Nat) (ia : Nat → Nat) (I : Nat → List Nat) : Prop where
 row : S[j]? = some (.cells 0 false (cF n fun q => if q < i then .msl (ia q) 0 0 m m 1 else .iv (.sl .nil [])))
 ge : ∀ q,q < i → 6 ≤ ia q
 set : ∀ q,q < i → S[ia q]? = some (.cells 0 false ((I q).map uI))
 ok : ∀ q,q < i → WOK m (I q)
theorem RP.done {S : Store} {j n m : Nat} {ia : Nat → Nat} {I : Nat → List Nat} (h : RP S j n m n ia I) : RS S j n m ia I := by
 refine ⟨?_,h.ge,h.set,h.ok⟩
 rw [h.row]
 congr 2
 apply List.map_congr_left
 intro q hq
 rw [if_pos (List.mem_range.1 hq)]
def LOW : List Nat := [0,1,2,4,5]
theorem RP.step {S S' : Store} {j n m i : Nat} {ia : Nat → Nat} {I : Nat → List Nat} (h : RP S j n m i ia I) (k : Keep LOW S S') {a : Nat} {W : List Nat} (ha : 6 ≤ a) (hW : WOK m W) (hr : S'[j]? = some (.cells 0 false (cF n (upd (fun q => if q < i then .msl (ia q) 0 0 m m 1 else .iv (.sl .nil [])) i (.msl a 0 0 m m 1))))) (hs : S'[a]? = some (.cells 0 false (W.map uI))) : RP S' j n m (i + 1) (upd ia i a) (upd I i W) := by
 refine ⟨?_,fun q hq => ?_,fun q hq => ?_,fun q hq => ?_⟩
 ·rw [hr]
  congr 3
  funext q
  unfold upd
  by_cases e : q = i
  ·subst e; simp
  ·by_cases e2 : q < i
   ·rw [if_neg e,if_neg e]; dsimp only; rw [if_pos e2,if_pos (by omega)]
   ·rw [if_neg e]; dsimp only; rw [if_neg e2,if_neg (by omega)]
 ·unfold upd; split
  ·exact ha
  ·exact h.ge q (by omega)
 ·by_cases e : q = i
  ·subst e; rw [upd_same,upd_same]; exact hs
  ·rw [upd_ne _ _ e,upd_ne _ _ e]
   have := h.ge q (by omega)
   exact k.get _ _ (by simp [LOW]; omega) (h.set q (by omega))
 ·unfold upd; split
  ·exact hW
  ·exact h.ok q (by omega)
structure FP (S : Store) (f : VF) (lb : List (Nat × Int × Int)) (n m i : Nat) (ia oa ua da : Nat → Nat) (I O U D : Nat → List Nat) : Prop where
 lab : ∃ c,S[0]? = some (.mp (mpR boxI lb) c)
 lbs : ∀ L,getR lb L = firstL (f.ins.take i) L
 inn : RP S 1 n m i ia I
 out : RP S 2 n m i oa O
 us : RP S 4 n m i ua U
 ds : RP S 5 n m i da D
 flw : S[3]? = some (.cells 54 false [.iv (.int .i64 f.fn),.iv (.int .i64 f.regs),.iv (.int .i64 f.sl),.iv (.int .i64 f.nd),.iv (.int .i64 f.pr),.iv (.bool f.rs),.iv (.sl f.ti (f.ins.map encV)),.map 0,.msl 1 0 0 n n 1,.msl 2 0 0 n n 1])
 len : 6 ≤ S.length
 zer : ∀ q r,q < i → bit (I q) r = false
 use : ∀ q r,q < i → (bit (U q) r = true ↔ (r : Int) ∈ usesM (f.ins.getD q default) ∧ r < f.regs)
 dfn : ∀ q r,q < i → (bit (D q) r = true ↔ (r : Int) ∈ defsM (f.ins.getD q default) ∧ r < f.regs)
theorem usesM_pos (v : VI) : ∀ x ∈ usesM v,0 ≤ x := by
 intro x hx
 unfold usesM at hx
 repeat' split at hx
 all_goals first | (have := tdy_pos hx; omega) | cases hx
theorem defsM_pos (v : VI) : ∀ x ∈ defsM v,0 ≤ x := by
 intro x hx
 unfold defsM at hx
 repeat' split at hx
 all_goals first | (have := tdy_pos hx; omega) | cases hx
theorem usesM_len (v : VI) : (usesM v).length ≤ v.us.length + 2 := by
 unfold usesM
 repeat' split
 ·exact Nat.le_trans (tdy_len _) (by simp)
 ·exact Nat.le_trans (tdy_len _) (by simp)
 ·exact Nat.le_trans (tdy_len _) (by simp)
 ·simp
theorem defsM_len (v : VI) : (defsM v).length ≤ 30 := by
 unfold defsM
 repeat' split
 ·exact Nat.le_trans (tdy_len _) (by simp)
 ·exact Nat.le_trans (tdy_len _) (by simp [regs26])
 ·simp
def lay4 (T : Store) (r1 r2 r4 r5 cU cD cI cO : Block) : Store := ((((T ++ [cU] ++ [cD]).set 4 r4).set 5 r5 ++ [cI] ++ [cO]).set 1 r1).set 2 r2
theorem lay4_eq {T : Store} (r1 r2 r4 r5 cU cD cI cO : Block) (h6 : 6 ≤ T.length) : lay4 T r1 r2 r4 r5 cU cD cI cO = (((T.set 4 r4).set 5 r5).set 1 r1).set 2 r2 ++ [cU,cD,cI,cO] := by
 unfold lay4
 have e1 : T ++ [cU] ++ [cD] = T ++ [cU,cD] := by simp
 have e2 : ((T ++ [cU,cD]).set 4 r4).set 5 r5 = (T.set 4 r4).set 5 r5 ++ [cU,cD] := by
  rw [List.set_append_left _ _ (by omega),List.set_append_left _ _ (by rw [List.length_set]; omega)]
 have hX : ((T.set 4 r4).set 5 r5).length = T.length := by simp
 rw [e1,e2]
 generalize (T.set 4 r4).set 5 r5 = X at *
 have e3 : X ++ [cU,cD] ++ [cI] ++ [cO] = X ++ [cU,cD,cI,cO] := by simp
 rw [e3,List.set_append_left _ _ (by omega),List.set_append_left _ _ (by rw [List.length_set]; omega)]
theorem lay4_len (T : Store) (r1 r2 r4 r5 cU cD cI cO : Block) : (lay4 T r1 r2 r4 r5 cU cD cI cO).length = T.length + 4 := by unfold lay4; simp
theorem lay4_low {T : Store} (r1 r2 r4 r5 cU cD cI cO : Block) (h6 : 6 ≤ T.length) : (lay4 T r1 r2 r4 r5 cU cD cI cO)[0]? = T[0]? ∧ (lay4 T r1 r2 r4 r5 cU cD cI cO)[3]? = T[3]? ∧ (lay4 T r1 r2 r4 r5 cU cD cI cO)[1]? = some r1 ∧ (lay4 T r1 r2 r4 r5 cU cD cI cO)[2]? = some r2 ∧ (lay4 T r1 r2 r4 r5 cU cD cI cO)[4]? = some r4 ∧ (lay4 T r1 r2 r4 r5 cU cD cI cO)[5]? = some r5 := by
 rw [lay4_eq _ _ _ _ _ _ _ _ h6]
 refine ⟨?_,?_,?_,?_,?_,?_⟩ <;> rw [List.getElem?_append_left (by simp; omega)]
 ·rw [get_setN (by decide),get_setN (by decide),get_setN (by decide),get_setN (by decide)]
 ·rw [get_setN (by decide),get_setN (by decide),get_setN (by decide),get_setN (by decide)]
 ·rw [get_setN (by decide),get_setS (by simp; omega)]
 ·rw [get_setS (by simp; omega)]
 ·rw [get_setN (by decide),get_setN (by decide),get_setN (by decide),get_setS (by omega)]
 ·rw [get_setN (by decide),get_setN (by decide),get_setS (by simp; omega)]
theorem lay4_new {T : Store} (r1 r2 r4 r5 cU cD cI cO : Block) (h6 : 6 ≤ T.length) : (lay4 T r1 r2 r4 r5 cU cD cI cO)[T.length]? = some cU ∧ (lay4 T r1 r2 r4 r5 cU cD cI cO)[T.length + 1]? = some cD ∧ (lay4 T r1 r2 r4 r5 cU cD cI cO)[T.length + 2]? = some cI ∧ (lay4 T r1 r2 r4 r5 cU cD cI cO)[T.length + 3]? = some cO := by
 rw [lay4_eq _ _ _ _ _ _ _ _ h6]
 have hl : ((((T.set 4 r4).set 5 r5).set 1 r1).set 2 r2).length = T.length := by simp
 generalize (((T.set 4 r4).set 5 r5).set 1 r1).set 2 r2 = X at *
 rw [← hl]
 exact ⟨gN0 ..,gN1 ..,gN2 ..,gN3 ..⟩
theorem lay4_keep {T : Store} (r1 r2 r4 r5 cU cD cI cO : Block) (h6 : 6 ≤ T.length) : Keep LOW T (lay4 T r1 r2 r4 r5 cU cD cI cO) := by
 refine ⟨by rw [lay4_len]; omega,fun q b hq hb => ?_⟩
 simp only [LOW,List.mem_cons,List.not_mem_nil,or_false,not_or] at hq
 rw [lay4_eq _ _ _ _ _ _ _ _ h6]
 refine get_appO ?_ _
 rw [get_setN (by omega),get_setN (by omega),get_setN (by omega),get_setN (by omega)]
 exact hb
def flB (f : VF) (n : Nat) : Block := .cells 54 false [.iv (.int .i64 f.fn),.iv (.int .i64 f.regs),.iv (.int .i64 f.sl),.iv (.int .i64 f.nd),.iv (.int .i64 f.pr),.iv (.bool f.rs),.iv (.sl f.ti (f.ins.map encV)),.map 0,.msl 1 0 0 n n 1,.msl 2 0 0 n n 1]
theorem lay_facts {f : VF} {n m : Nat} (hm : (f.regs + 63) / 64 = m) (hr : f.regs ≤ 1000000) (T : Store) (h6 : 6 ≤ T.length) (g1 g2 g4 g5 : Nat → TV) (b1 : T[1]? = some (Block.cells 0 false (cF n g1))) (b2 : T[2]? = some (Block.cells 0 false (cF n g2))) (b4 : T[4]? = some (Block.cells 0 false (cF n g4))) (b5 : T[5]? = some (Block.cells 0 false (cF n g5))) (b3 : T[3]? = some (flB f n))
  (tU tD : Tag) (U D : List Int) (hU : U.length ≤ 2000000) (hD : D.length ≤ 2000000) (pU : ∀ x ∈ U,0 ≤ x) (pD : ∀ x ∈ D,0 ≤ x) (r1 r2 r4 r5 : Block) :
  ∃ WU WD WI WO : List Nat,(lim K).call 36 [.iv (.int .i64 f.regs),.iv (.sl tU (TM.one (.int .i64) U))] T = .ret (.msl T.length 0 0 m m 1,T ++ [Block.cells 0 false (WU.map uI)]) ∧
   (lim K).call 36 [.iv (.int .i64 f.regs),.iv (.sl tD (TM.one (.int .i64) D))] (T ++ [Block.cells 0 false (WU.map uI)]) = .ret (.msl (T.length + 1) 0 0 m m 1,T ++ [Block.cells 0 false (WU.map uI)] ++ [Block.cells 0 false (WD.map uI)]) ∧
   (lim K).call 36 [.iv (.int .i64 f.regs),.iv (.sl .nil [])] (((T ++ [Block.cells 0 false (WU.map uI)] ++ [Block.cells 0 false (WD.map uI)]).set 4 r4).set 5 r5) = .ret (.msl (T.length + 2) 0 0 m m 1,((T ++ [Block.cells 0 false (WU.map uI)] ++ [Block.cells 0 false (WD.map uI)]).set 4 r4).set 5 r5 ++ [Block.cells 0 false (WI.map uI)]) ∧
   (lim K).call 36 [.iv (.int .i64 f.regs),.iv (.sl .nil [])] (((T ++ [Block.cells 0 false (WU.map uI)] ++ [Block.cells 0 false (WD.map uI)]).set 4 r4).set 5 r5 ++ [Block.cells 0 false (WI.map uI)]) = .ret (.msl (T.length + 3) 0 0 m m 1,((T ++ [Block.cells 0 false (WU.map uI)] ++ [Block.cells 0 false (WD.map uI)]).set 4 r4).set 5 r5 ++ [Block.cells 0 false (WI.map uI)] ++ [Block.cells 0 false (WO.map uI)]) ∧
   (T ++ [Block.cells 0 false (WU.map uI)] ++ [Block.cells 0 false (WD.map uI)])[4]? = some (Block.cells 0 false (cF n g4)) ∧ ((T ++ [Block.cells 0 false (WU.map uI)] ++ [Block.cells 0 false (WD.map uI)]).set 4 r4)[5]? = some (Block.cells 0 false (cF n g5)) ∧
   (((T ++ [Block.cells 0 false (WU.map uI)] ++ [Block.cells 0 false (WD.map uI)]).set 4 r4).set 5 r5)[3]? = some (flB f n) ∧
   (((T ++ [Block.cells 0 false (WU.map uI)] ++ [Block.cells 0 false (WD.map uI)]).set 4 r4).set 5 r5 ++ [Block.cells 0 false (WI.map uI)] ++ [Block.cells 0 false (WO.map uI)])[1]? = some (Block.cells 0 false (cF n g1)) ∧
   ((((T ++ [Block.cells 0 false (WU.map uI)] ++ [Block.cells 0 false (WD.map uI)]).set 4 r4).set 5 r5 ++ [Block.cells 0 false (WI.map uI)] ++ [Block.cells 0 false (WO.map uI)]).set 1 r1)[2]? = some (Block.cells 0 false (cF n g2)) ∧
   WOK m WU ∧ WOK m WD ∧ WOK m WI ∧ WOK m WO ∧ (∀ r : Nat,bit WU r = true ↔ (r : Int) ∈ U ∧ r < f.regs) ∧ (∀ r : Nat,bit WD r = true ↔ (r : Int) ∈ D ∧ r < f.regs) ∧ (∀ r : Nat,bit WI r = false) := by
 obtain ⟨WU,e1,w1,u1⟩ := call36 hr tU U hU pU T
 rw [hm] at e1 w1
 obtain ⟨WD,e2,w2,u2⟩ := call36 hr tD D hD pD (T ++ [Block.cells 0 false (WU.map uI)])
 rw [hm] at e2 w2
 obtain ⟨WI,e3,w3,u3⟩ := call36 hr .nil [] (by simp) (by simp) (((T ++ [Block.cells 0 false (WU.map uI)] ++ [Block.cells 0 false (WD.map uI)]).set 4 r4).set 5 r5)
 rw [hm] at e3 w3
 obtain ⟨WO,e4,w4,u4⟩ := call36 hr .nil [] (by simp) (by simp) (((T ++ [Block.cells 0 false (WU.map uI)] ++ [Block.cells 0 false (WD.map uI)]).set 4 r4).set 5 r5 ++ [Block.cells 0 false (WI.map uI)])
 rw [hm] at e4 w4
 rw [one_nil] at e3 e4
 have l2 : (T ++ [Block.cells 0 false (WU.map uI)]).length = T.length + 1 := by simp
 have l3 : (((T ++ [Block.cells 0 false (WU.map uI)] ++ [Block.cells 0 false (WD.map uI)]).set 4 r4).set 5 r5).length = T.length + 2 := by simp
 have l4 : (((T ++ [Block.cells 0 false (WU.map uI)] ++ [Block.cells 0 false (WD.map uI)]).set 4 r4).set 5 r5 ++ [Block.cells 0 false (WI.map uI)]).length = T.length + 3 := by simp
 rw [l2] at e2
 rw [l3] at e3
 rw [l4] at e4
 refine ⟨WU,WD,WI,WO,e1,e2,e3,e4,?_,?_,?_,?_,?_,w1,w2,w3,w4,u1,u2,fun r => ?_⟩
 ·exact get_appO (get_appO b4 _) _
 ·rw [get_setN (by decide)]; exact get_appO (get_appO b5 _) _
 ·rw [get_setN (by decide),get_setN (by decide)]; exact get_appO (get_appO b3 _) _
 ·refine get_appO (get_appO ?_ _) _
  rw [get_setN (by decide),get_setN (by decide)]; exact get_appO (get_appO b1 _) _
 ·rw [get_setN (by decide)]
  refine get_appO (get_appO ?_ _) _
  rw [get_setN (by decide),get_setN (by decide)]; exact get_appO (get_appO b2 _) _
 ·cases h : bit WI r with
  | false => rfl
  | true => have := (u3 r).1 h; simp at this
end Go.Proofs.YtehlgnfhkidgoaaDoor
