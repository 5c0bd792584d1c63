/- Some texts of the proof, joined. Condition: none. -/
import Derived.Test.YtehlgnfhkidgoaaDoorJb
import Derived.Test.YtehlgnfhkidgoaaDoorKr2
import Derived.Test.YtehlgnfhkidgoaaDoorTmF
set_option maxRecDepth 100000
set_option maxHeartbeats 64000000
set_option linter.unusedSimpArgs false
set_option linter.unusedVariables false
namespace Go.Proofs.YtehlgnfhkidgoaaDoor
open Go Go.TM
theorem sN0 (S : Store) (a x : Block) (r : Store) : (S ++ a :: r).set S.length x = S ++ x :: r := by rw [List.set_append_right _ _ (by omega)]; simp
attribute [go_sem] sN0
theorem FP.step {S T : Store} {f : VF} {lb lb' : List (Nat × Int × Int)} {n m i : Nat} {ia oa ua da : Nat → Nat} {I O U D : Nat → List Nat} (h : FP S f lb n m i ia oa ua da I O U D) (k : Keep LOW S T) (hl : S.length ≤ T.length) (t1 : T[1]? = S[1]?) (t2 : T[2]? = S[2]?) (t3 : T[3]? = S[3]?) (t4 : T[4]? = S[4]?) (t5 : T[5]? = S[5]?) (t0 : ∃ c,T[0]? = some (.mp (mpR boxI lb') c)) (hlb : ∀ L,getR lb' L = firstL (f.ins.take (i + 1)) L)
  {WU WD WI WO : List Nat} (w1 : WOK m WU) (w2 : WOK m WD) (w3 : WOK m WI) (w4 : WOK m WO) (u1 : ∀ r : Nat,bit WU r = true ↔ (r : Int) ∈ usesM (f.ins.getD i default) ∧ r < f.regs) (u2 : ∀ r : Nat,bit WD r = true ↔ (r : Int) ∈ defsM (f.ins.getD i default) ∧ r < f.regs) (u3 : ∀ r,bit WI r = false) {r1 r2 r4 r5 : Block}
  (e1 : r1 = .cells 0 false (cF n (upd (fun q => if q < i then .msl (ia q) 0 0 m m 1 else .iv (.sl .nil [])) i (.msl (T.length + 2) 0 0 m m 1)))) (e2 : r2 = .cells 0 false (cF n (upd (fun q => if q < i then .msl (oa q) 0 0 m m 1 else .iv (.sl .nil [])) i (.msl (T.length + 3) 0 0 m m 1))))
  (e4 : r4 = .cells 0 false (cF n (upd (fun q => if q < i then .msl (ua q) 0 0 m m 1 else .iv (.sl .nil [])) i (.msl T.length 0 0 m m 1)))) (e5 : r5 = .cells 0 false (cF n (upd (fun q => if q < i then .msl (da q) 0 0 m m 1 else .iv (.sl .nil [])) i (.msl (T.length + 1) 0 0 m m 1)))) :
  FP (lay4 T r1 r2 r4 r5 (.cells 0 false (WU.map uI)) (.cells 0 false (WD.map uI)) (.cells 0 false (WI.map uI)) (.cells 0 false (WO.map uI))) f lb' n m (i + 1) (upd ia i (T.length + 2)) (upd oa i (T.length + 3)) (upd ua i T.length) (upd da i (T.length + 1)) (upd I i WI) (upd O i WO) (upd U i WU) (upd D i WD) := by
 have h6 : 6 ≤ T.length := by have := h.len; omega
 obtain ⟨a0,a3,a1,a2,a4,a5⟩ := lay4_low r1 r2 r4 r5 (.cells 0 false (WU.map uI)) (.cells 0 false (WD.map uI)) (.cells 0 false (WI.map uI)) (.cells 0 false (WO.map uI)) h6
 obtain ⟨n1,n2,n3,n4⟩ := lay4_new r1 r2 r4 r5 (.cells 0 false (WU.map uI)) (.cells 0 false (WD.map uI)) (.cells 0 false (WI.map uI)) (.cells 0 false (WO.map uI)) h6
 have hk := k.trans (lay4_keep r1 r2 r4 r5 (.cells 0 false (WU.map uI)) (.cells 0 false (WD.map uI)) (.cells 0 false (WI.map uI)) (.cells 0 false (WO.map uI)) h6)
 have hlen := lay4_len T r1 r2 r4 r5 (.cells 0 false (WU.map uI)) (.cells 0 false (WD.map uI)) (.cells 0 false (WI.map uI)) (.cells 0 false (WO.map uI))
 generalize lay4 T r1 r2 r4 r5 (.cells 0 false (WU.map uI)) (.cells 0 false (WD.map uI)) (.cells 0 false (WI.map uI)) (.cells 0 false (WO.map uI)) = X at *
 refine ⟨?_,hlb,h.inn.step hk (by omega) w3 (by rw [a1,e1]) n3,h.out.step hk (by omega) w4 (by rw [a2,e2]) n4,h.us.step hk (by omega) w1 (by rw [a4,e4]) n1,h.ds.step hk (by omega) w2 (by rw [a5,e5]) n2,by rw [a3,t3]; exact h.flw,by omega,fun q r hq => ?_,fun q r hq => ?_,fun q r hq => ?_⟩
 ·rw [a0]; exact t0
 ·unfold upd; split
  ·exact u3 r
  ·exact h.zer q r (by omega)
 ·unfold upd; split
  ·subst_vars; exact u1 r
  ·exact h.use q r (by omega)
 ·unfold upd; split
  ·subst_vars; exact u2 r
  ·exact h.dfn q r (by omega)
theorem loop25c {f : VF} {n m : Nat} (hm : (f.regs + 63) / 64 = m) (hr : f.regs ≤ 1000000) (hn : n ≤ 1000000) (hfn : f.ins.length = n) (hus : ∀ x ∈ f.ins,x.us.length ≤ 999990 ∧ TagOk x.tu x.us) (x0 x2 x3 x4 x13 x14 x15 x21 x22 : TV) : ∀ (k i : Nat) (S : Store) (lb : List (Nat × Int × Int)) (ia oa ua da : Nat → Nat) (I O U D : Nat → List Nat) (x9 x10 x11 x12 x19 x20 : TV),i + k = n →
  FP S f lb n m i ia oa ua da I O U D →
  ∃ (S' : Store) (lb' : List (Nat × Int × Int)) (ia' oa' ua' da' : Nat → Nat) (I' O' U' D' : Nat → List Nat) (y9 y10 y11 y12 y19 y20 : TV),lp' (lim K) t25L2 [x0,.lb ((encF f).map .iv),x2,x3,x4,.iv (.int .i64 n),.ptr 3 54 0,.msl 4 0 0 n n 1,.msl 5 0 0 n n 1,x9,x10,x11,x12,x13,x14,x15,.iv (.sl f.ti (f.ins.map encV)),.iv (.int .i64 n),.iv (.int .i64 i),x19,x20,x21,x22] S
   = .ret (.exit 0,[x0,.lb ((encF f).map .iv),x2,x3,x4,.iv (.int .i64 n),.ptr 3 54 0,.msl 4 0 0 n n 1,.msl 5 0 0 n n 1,y9,y10,y11,y12,x13,x14,x15,.iv (.sl f.ti (f.ins.map encV)),.iv (.int .i64 n),.iv (.int .i64 n),y19,y20,x21,x22],S') ∧
   FP S' f lb' n m n ia' oa' ua' da' I' O' U' D'
 | 0,i,S,lb,ia,oa,ua,da,I,O,U,D,x9,x10,x11,x12,x19,x20,hk,hF => by
  obtain rfl : i = n := by omega
  refine ⟨S,lb,ia,oa,ua,da,I,O,U,D,x9,x10,x11,x12,.iv (.bool false),x20,loop_at K _ _ t25L2.eq_1 ?_,hF⟩
  simp (config := { maxSteps := 4000000 }) (disch := omega) only [go_sem]
 | k + 1,i,S,lb,ia,oa,ua,da,I,O,U,D,x9,x10,x11,x12,x19,x20,hk,hF => by
  have hin : i < n := by omega
  have hla : i < f.ins.length := by omega
  have hix := ix_map (w := 8) (f := encV) encV_len (t := f.ti) (l := f.ins) (i := (i : Int)) (by omega)
  rw [Int.toNat_natCast] at hix
  obtain ⟨hu1,hu2⟩ := hus (f.ins.getD i default) (by simp only [List.getD,List.getElem?_eq_getElem hla,Option.getD_some]; exact List.getElem_mem _)
  obtain ⟨c0,hlab⟩ := hF.lab
  have h6 := hF.len
  have hts : f.ins.take (i + 1) = f.ins.take i ++ [f.ins.getD i default] := by
   rw [List.take_add_one,List.getElem?_eq_getElem hla]
   simp [List.getD,List.getElem?_eq_getElem hla]
  have htl : (f.ins.take i).length = i := by simp; omega
  have hfs := fun L => firstL_snoc (f.ins.take i) (f.ins.getD i default) L
  simp only [← hts,htl] at hfs
  obtain ⟨tU,htU,c9⟩ := call9 (f.ins.getD i default) hu1 hu2
  obtain ⟨tD,htD,c11⟩ := call11 (f.ins.getD i default)
  have lU := usesM_len (f.ins.getD i default)
  have lD := defsM_len (f.ins.getD i default)
  have pU := usesM_pos (f.ins.getD i default)
  have pD := defsM_pos (f.ins.getD i default)
  have lf := fun T h6 g1 g2 g4 g5 b1 b2 b4 b5 b3 r1 r2 r4 r5 => lay_facts (f := f) (n := n) hm hr T h6 g1 g2 g4 g5 b1 b2 b4 b5 b3 tU tD (usesM (f.ins.getD i default)) (defsM (f.ins.getD i default)) (by omega) (by omega) pU pD r1 r2 r4 r5
  have fst := fun T lb' => FP.step (T := T) (lb' := lb') hF
  have ihs := fun S lb ia oa ua da I O U D x9 x10 x11 x12 x19 x20 => loop25c hm hr hn hfn hus x0 x2 x3 x4 x13 x14 x15 x21 x22 k (i + 1) S lb ia oa ua da I O U D x9 x10 x11 x12 x19 x20 (by omega)
  have i1 := fun j => ix_RW (j := j) (v := 0) (cap := n) hin
  have pc := fun g x => put_cF (n := n) (i := i) g x hin
  generalize hx : f.ins.getD i default = x at *
  have hnew : ∀ L,getR lb L = firstL (f.ins.take i) L := hF.lbs
  have old : ∀ (P : Block) (q : Nat),q < 6 → (S ++ [P])[q]? = S[q]? := fun P q hq => List.getElem?_append_left (by omega)
  rw [encV_eq] at hix
  by_cases hB : x.op = 65 ∧ hasR lb x.lb = false
  ·obtain ⟨hop,hh⟩ := hB
   have hg : getR lb x.lb = none := by
    cases h : getR lb x.lb with
    | none => rfl
    | some a => simp [hasR,h] at hh
   generalize hP : Block.cells 63 false [.iv (.int .i64 (cntR lb x.lb))] = P
   have hlab1 : (S ++ [P])[0]? = some (.mp (mpR boxI lb) c0) := get_appO hlab _
   have hflw1 := get_appO hF.flw [P]
   generalize hT : (S ++ [P]).set 0 (.mp (mpR boxI (putR lb c0 x.lb (i : Int))) (clkR lb c0 x.lb)) = T
   have hTl : T.length = S.length + 1 := by rw [← hT]; simp
   have old2 : ∀ q,0 < q → q < 6 → T[q]? = S[q]? := fun q h1 h2 => by rw [← hT,get_setN (by omega),old P q h2]
   have hk : Keep LOW S T := by rw [← hT]; exact (Keep.app LOW S [P]).trans (Keep.set _ (by simp [LOW]) _)
   have hT0 : ∃ c,T[0]? = some (.mp (mpR boxI (putR lb c0 x.lb (i : Int))) c) := ⟨_,by rw [← hT]; exact get_setS (by simp) _⟩
   have hflT : T[3]? = some (flB f n) := (old2 3 (by omega) (by omega)).trans hF.flw
   obtain ⟨WU,WD,WI,WO,e1,e2,e3,e4,d4,d5,d3,d1,d2,w1,w2,w3,w4,u1,u2,u3⟩ := lf T (by omega) _ _ _ _ ((old2 1 (by omega) (by omega)).trans hF.inn.row) ((old2 2 (by omega) (by omega)).trans hF.out.row) ((old2 4 (by omega) (by omega)).trans hF.us.row) ((old2 5 (by omega) (by omega)).trans hF.ds.row) hflT
    (.cells 0 false (cF n (upd (fun q => if q < i then .msl (ia q) 0 0 m m 1 else .iv (.sl .nil [])) i (.msl (T.length + 2) 0 0 m m 1)))) (.cells 0 false (cF n (upd (fun q => if q < i then .msl (oa q) 0 0 m m 1 else .iv (.sl .nil [])) i (.msl (T.length + 3) 0 0 m m 1))))
    (.cells 0 false (cF n (upd (fun q => if q < i then .msl (ua q) 0 0 m m 1 else .iv (.sl .nil [])) i (.msl T.length 0 0 m m 1)))) (.cells 0 false (cF n (upd (fun q => if q < i then .msl (da q) 0 0 m m 1 else .iv (.sl .nil [])) i (.msl (T.length + 1) 0 0 m m 1))))
   have hF2 := fst T (putR lb c0 x.lb (i : Int)) hk (by omega) (old2 1 (by omega) (by omega)) (old2 2 (by omega) (by omega)) (old2 3 (by omega) (by omega)) (old2 4 (by omega) (by omega)) (old2 5 (by omega) (by omega)) hT0 (fun L => by
    rw [getR_put,hfs L,← hnew L]
    by_cases e : x.lb = L
    ·subst e; rw [if_pos rfl,hg]; simp [hop]
    ·rw [if_neg e]
     cases getR lb L with
     | some a => rfl
     | none => rw [if_neg (fun h => e h.2)]) w1 w2 w3 w4 u1 u2 u3 rfl rfl rfl rfl
   obtain ⟨S',lb',ia',oa',ua',da',I',O',U',D',y9,y10,y11,y12,y19,y20,ih,hx2⟩ := ihs _ _ _ _ _ _ _ _ _ _ (.iv (.int .i64 i)) (.lb ((encV x).map .iv)) (.ptr S.length 63 0) (.iv (.bool false)) (.iv (.bool true)) (.iv (.bool true)) hF2
   refine ⟨S',lb',ia',oa',ua',da',I',O',U',D',y9,y10,y11,y12,y19,y20,loop_at K _ _ t25L2.eq_1 ?_,hx2⟩
   rw [show ((i + 1 : Nat) : Int) = (i : Int) + 1 by omega,encV_tv] at ih
   have g3 := hF.flw
   have l2 := lkB_box2 lb c0 x.lb
   rw [hh] at l2
   unfold flB at d3
   have d3a := get_appO d3 [.cells 0 false (WI.map uI)]
   have d3b := get_appO d3a [.cells 0 false (WO.map uI)]
   rw [encV_eq] at c9 c11
   unfold encF at *
   simp only [List.map_cons,List.map_nil] at ih ⊢
   simp (config := { maxSteps := 4000000 }) (disch := omega) only [go_sem,hix,i1,hlab,g3,l2,hP,hlab1,hflw1,upB_box,hT,cpR_pure c9,cpR_pure c11,e1,e2,d4,d5,pc,d3,d3a,d3b,e3,e4,d1,d2,wrap_i64]
   exact congrArg er ih
  ·have hnb : ∀ L,getR lb L = firstL (f.ins.take (i + 1)) L := fun L => by
    rw [hfs L,← hnew L]
    cases h : getR lb L with
    | some a => rfl
    | none =>
     dsimp only
     rw [if_neg]
     rintro ⟨h1,rfl⟩
     exact hB ⟨h1,by simp [hasR,h]⟩
   generalize hP : Block.cells 63 false [.iv (.int .i64 (cntR lb x.lb))] = P
   generalize hT : S ++ [P] = T
   have hTl : T.length = S.length + 1 := by rw [← hT]; simp
   have old2 : ∀ q,q < 6 → T[q]? = S[q]? := fun q h2 => by rw [← hT,old P q h2]
   have hk : Keep LOW S T := by rw [← hT]; exact Keep.app LOW S [P]
   have hT0 : ∃ c,T[0]? = some (.mp (mpR boxI lb) c) := ⟨c0,by rw [old2 0 (by omega)]; exact hlab⟩
   have hflT : T[3]? = some (flB f n) := (old2 3 (by omega)).trans hF.flw
   obtain ⟨WU,WD,WI,WO,e1,e2,e3,e4,d4,d5,d3,d1,d2,w1,w2,w3,w4,u1,u2,u3⟩ := lf T (by omega) _ _ _ _ ((old2 1 (by omega)).trans hF.inn.row) ((old2 2 (by omega)).trans hF.out.row) ((old2 4 (by omega)).trans hF.us.row) ((old2 5 (by omega)).trans hF.ds.row) hflT
    (.cells 0 false (cF n (upd (fun q => if q < i then .msl (ia q) 0 0 m m 1 else .iv (.sl .nil [])) i (.msl (T.length + 2) 0 0 m m 1)))) (.cells 0 false (cF n (upd (fun q => if q < i then .msl (oa q) 0 0 m m 1 else .iv (.sl .nil [])) i (.msl (T.length + 3) 0 0 m m 1))))
    (.cells 0 false (cF n (upd (fun q => if q < i then .msl (ua q) 0 0 m m 1 else .iv (.sl .nil [])) i (.msl T.length 0 0 m m 1)))) (.cells 0 false (cF n (upd (fun q => if q < i then .msl (da q) 0 0 m m 1 else .iv (.sl .nil [])) i (.msl (T.length + 1) 0 0 m m 1))))
   have hF2 := fst T lb hk (by omega) (old2 1 (by omega)) (old2 2 (by omega)) (old2 3 (by omega)) (old2 4 (by omega)) (old2 5 (by omega)) hT0 hnb w1 w2 w3 w4 u1 u2 u3 rfl rfl rfl rfl
   have g3 := hF.flw
   have l2 := lkB_box2 lb c0 x.lb
   unfold flB at d3
   have d3a := get_appO d3 [.cells 0 false (WI.map uI)]
   have d3b := get_appO d3a [.cells 0 false (WO.map uI)]
   rw [encV_eq] at c9 c11
   by_cases hop : x.op = 65
   ·have hh : hasR lb x.lb = true := by
     cases h : hasR lb x.lb with
     | true => rfl
     | false => exact absurd ⟨hop,h⟩ hB
    rw [hh] at l2
    obtain ⟨S',lb',ia',oa',ua',da',I',O',U',D',y9,y10,y11,y12,y19,y20,ih,hx2⟩ := ihs _ _ _ _ _ _ _ _ _ _ (.iv (.int .i64 i)) (.lb ((encV x).map .iv)) (.ptr S.length 63 0) (.iv (.bool true)) (.iv (.bool true)) (.iv (.bool false)) hF2
    refine ⟨S',lb',ia',oa',ua',da',I',O',U',D',y9,y10,y11,y12,y19,y20,loop_at K _ _ t25L2.eq_1 ?_,hx2⟩
    rw [show ((i + 1 : Nat) : Int) = (i : Int) + 1 by omega,encV_tv] at ih
    unfold encF at *
    simp only [List.map_cons,List.map_nil] at ih ⊢
    simp (config := { maxSteps := 4000000 }) (disch := omega) only [go_sem,hix,i1,hlab,g3,l2,hP,hT,cpR_pure c9,cpR_pure c11,e1,e2,d4,d5,pc,d3,d3a,d3b,e3,e4,d1,d2,wrap_i64]
    exact congrArg er ih
   ·generalize hasR lb x.lb = hb at *
    obtain ⟨S',lb',ia',oa',ua',da',I',O',U',D',y9,y10,y11,y12,y19,y20,ih,hx2⟩ := ihs _ _ _ _ _ _ _ _ _ _ (.iv (.int .i64 i)) (.lb ((encV x).map .iv)) (.ptr S.length 63 0) (.iv (.bool hb)) (.iv (.bool true)) (.iv (.bool false)) hF2
    refine ⟨S',lb',ia',oa',ua',da',I',O',U',D',y9,y10,y11,y12,y19,y20,loop_at K _ _ t25L2.eq_1 ?_,hx2⟩
    rw [show ((i + 1 : Nat) : Int) = (i : Int) + 1 by omega,encV_tv] at ih
    unfold encF at *
    simp only [List.map_cons,List.map_nil] at ih ⊢
    simp (config := { maxSteps := 4000000 }) (disch := omega) only [go_sem,hix,i1,hlab,g3,l2,hP,hT,cpR_pure c9,cpR_pure c11,e1,e2,d4,d5,pc,d3,d3a,d3b,e3,e4,d1,d2,wrap_i64]
    exact congrArg er ih
theorem encF_eq (f : VF) : encF f = [.int .i64 f.fn,.int .i64 f.regs,.int .i64 f.sl,.int .i64 f.nd,.int .i64 f.pr,.bool f.rs,.sl f.ti (f.ins.map encV)] := rfl
theorem encF_tv (f : VF) : (encF f).map TV.iv = [.iv (.int .i64 f.fn),.iv (.int .i64 f.regs),.iv (.int .i64 f.sl),.iv (.int .i64 f.nd),.iv (.int .i64 f.pr),.iv (.bool f.rs),.iv (.sl f.ti (f.ins.map encV))] := rfl
theorem zerosF (x : TV) : ∀ n,TM.flat (List.replicate n [x]) = cF n fun _ => x
 | 0 => rfl
 | n + 1 => by
  have := zerosF x n
  rw [List.replicate_succ,show TM.flat ([x] :: List.replicate n [x]) = x :: TM.flat (List.replicate n [x]) from rfl,this]
  unfold cF
  rw [List.map_const',List.map_const',List.length_range,List.length_range,List.replicate_succ]
theorem mkV_s {bytes m n : Nat} (hr : roomy n bytes = true) : mkV [.sl .nil []] bytes m (.iv (.int .i64 n)) (.iv (.int .i64 n)) = some (.msl m 0 0 n n 1,.cells 0 false (cF n fun q => if q < 0 then .msl 0 0 0 0 0 1 else .iv (.sl .nil []))) := by
 have hz := zerosF (.iv (.sl .nil [])) n
 have e : (fun q : Nat => if q < 0 then TV.msl 0 0 0 0 0 1 else .iv (.sl .nil [])) = fun _ => .iv (.sl .nil []) := by funext q; rw [if_neg (Nat.not_lt_zero q)]
 rw [e]
 simp [mkV,TM.intOf,hr,hz]
theorem firstL_lt {l : List VI} {L k : Int} (h : firstL l L = some k) : 0 ≤ k ∧ k < l.length := by
 unfold firstL at h
 rw [Option.map_eq_some_iff] at h
 obtain ⟨i,hi,rfl⟩ := h
 rw [List.findIdx?_eq_some_iff_getElem] at hi
 obtain ⟨h1,_⟩ := hi
 omega
theorem labOK_of {lb : List (Nat × Int × Int)} {l : List VI} (h0 : 0 < l.length) (h : ∀ L,getR lb L = firstL l L) : LabOK lb l := by
 intro i hi _
 unfold cntR
 rw [h]
 cases e : firstL l (l.getD i default).lb with
 | none => simp; omega
 | some k => have := firstL_lt e; simpa using this
theorem call25 {f : VF} (h32 : 32 ≤ f.regs) (hr : f.regs ≤ 1000000) (hn : f.ins.length ≤ 1000000) (h0 : 0 < f.ins.length) (hus : ∀ x ∈ f.ins,x.us.length ≤ 999990 ∧ TagOk x.tu x.us) (h35 : TM.Pure K 35 [.iv (.agg (encF f))] (.iv (.int .i64 0))) :
  ∃ (S' : Store) (lb : List (Nat × Int × Int)) (ia oa : Nat → Nat) (I O U D : Nat → List Nat),(lim K).call 25 [.iv (.agg (encF f))] [] = .ret (.tup [.ptr 3 54 0,.iv (.int .i64 0)],S') ∧ FlS S' f lb f.ins.length ((f.regs + 63) / 64) ia oa I O ∧ Grow lb f.ins U D I ∧
   (∀ L,getR lb L = firstL f.ins L) ∧ (∀ j r,j < f.ins.length → (bit (U j) r = true ↔ (r : Int) ∈ usesM (f.ins.getD j default) ∧ r < f.regs)) ∧ (∀ j r,j < f.ins.length → (bit (D j) r = true ↔ (r : Int) ∈ defsM (f.ins.getD j default) ∧ r < f.regs)) ∧
   ∀ j,j < f.ins.length → (∀ r,bit (I j) r = eqn lb f.ins U D I j r) ∧ ∀ r,bit (O j) r = anyB lb f.ins I j r := by
 generalize hn' : f.ins.length = n at *
 generalize hm : (f.regs + 63) / 64 = m
 have hz := fun k => mkV_s (m := k) (bytes := 24) (roomy_ok (n := n) (b := 24) (by omega))
 have hP : FP [.mp (mpR boxI []) 0,.cells 0 false (cF n fun q => if q < 0 then .msl 0 0 0 0 0 1 else .iv (.sl .nil [])),.cells 0 false (cF n fun q => if q < 0 then .msl 0 0 0 0 0 1 else .iv (.sl .nil [])),flB f n,.cells 0 false (cF n fun q => if q < 0 then .msl 0 0 0 0 0 1 else .iv (.sl .nil [])),.cells 0 false (cF n fun q => if q < 0 then .msl 0 0 0 0 0 1 else .iv (.sl .nil []))] f [] n m 0 (fun _ => 0) (fun _ => 0) (fun _ => 0) (fun _ => 0) (fun _ => []) (fun _ => []) (fun _ => []) (fun _ => []) := by
  have hrow : ∀ q : Nat,(if q < 0 then TV.msl 0 0 0 m m 1 else .iv (.sl .nil [])) = (if q < 0 then TV.msl 0 0 0 0 0 1 else .iv (.sl .nil [])) := fun q => by rw [if_neg (Nat.not_lt_zero q),if_neg (Nat.not_lt_zero q)]
  refine ⟨⟨0,rfl⟩,fun L => rfl,⟨?_,by omega,by omega,by omega⟩,⟨?_,by omega,by omega,by omega⟩,⟨?_,by omega,by omega,by omega⟩,⟨?_,by omega,by omega,by omega⟩,rfl,by simp,by omega,by omega,by omega⟩ <;> (simp only [hrow]; rfl)
 obtain ⟨S1,lb,ia,oa,ua,da,I,O,U,D,y9,y10,y11,y12,y19,y20,l1,hF⟩ := loop25c hm hr hn hn' hus (.iv (.agg (encF f))) (.iv .nilp) (.iv (.int .i64 0)) (.iv (.int .i64 0)) (.tup []) (.tup []) (.iv (.bool false)) (.tup []) (.tup []) n 0 _ _ _ _ _ _ _ _ _ _ (.tup []) (.tup []) (.tup []) (.tup []) (.tup []) (.tup []) (by omega) hP
 have hlbs : ∀ L,getR lb L = firstL f.ins L := fun L => by rw [hF.lbs L,List.take_of_length_le (by omega)]
 have hlb := labOK_of (by omega) hlbs
 have hI : ∀ j r,bit (if j < n then I j else []) r = false := fun j r => by
  split
  ·exact hF.zer j r (by assumption)
  ·simp [bit]
 have hFS : FlS S1 f lb n m ia oa (fun j => if j < n then I j else []) O :=
  ⟨hF.lab,⟨hF.inn.done.row,hF.inn.done.ge,fun i hi => by rw [if_pos hi]; exact hF.inn.set i hi,fun i hi => by rw [if_pos hi]; exact hF.inn.ok i hi⟩,hF.out.done,hF.flw,hF.len⟩
 have hG : Grow lb f.ins U D (fun j => if j < n then I j else []) := ⟨(fun i r hb => by rw [hI] at hb; cases hb),(fun i r hb => by rw [hI] at hb; cases hb)⟩
 obtain ⟨S2,ia2,oa2,I2,O2,y14,y21,y22,l2,hF2,_,_,hG2,he⟩ := loop25b hm hr hn hn' hlb (.iv (.agg (encF f))) (.lb ((encF f).map .iv)) (.iv .nilp) (.iv (.int .i64 0)) (.iv (.int .i64 0)) y9 y10 y11 y12 (.iv (.bool false)) (.iv (.sl f.ti (f.ins.map encV))) (.iv (.int .i64 n)) (.iv (.int .i64 n)) y19 y20 _ S1 ia oa _ O (.tup []) (.tup []) (.tup []) (Nat.le_refl _) hFS hF.us.done hF.ds.done hG
 refine ⟨S2,lb,ia2,oa2,I2,O2,U,D,call_ret' K _ (fn := t25) rfl rfl ?_,hF2,hG2,hlbs,hF.use,hF.dfn,he⟩
 rw [show ((0 : Nat) : Int) = 0 from rfl] at l1
 have hlen : (f.ins.map encV).length = n := by rw [List.length_map,hn']
 unfold flB at l1
 rw [show mpR boxI [] = [] from rfl] at l1
 rw [encF_tv,encF_eq] at l1 l2
 rw [encF_eq] at h35
 rw [encF_eq]
 generalize hR : Block.cells 0 false (cF n fun q => if q < 0 then .msl 0 0 0 0 0 1 else .iv (.sl .nil [])) = R at *
 simp (config := { maxSteps := 4000000 }) (disch := omega) only [t25,go_sem,TM.undef,cpR_pure h35,hlen,hz]
 rw [l1]
 simp (config := { maxSteps := 4000000 }) (disch := omega) only [go_sem]
 rw [l2]
 simp (config := { maxSteps := 4000000 }) (disch := omega) only [go_sem]
def gI (l : List (List IV)) (i : Nat) (S : Store) : Nat := if l = [] then S.length else i
def gS1 (w el : Nat) (l : List (List IV)) (i : Nat) (S : Store) : Store := if l = [] then S ++ [.tok 1 w el] else S.set i (.tok (l.length + 1) w el)
def At (w el : Nat) (l : List (List IV)) (i : Nat) (S : Store) : Prop := l ≠ [] → S[i]? = some (.tok l.length w el)
theorem gS1_at {w el : Nat} {l : List (List IV)} {i : Nat} {S : Store} (h : At w el l i S) (c : List IV) : At w el (l ++ [c]) (gI l i S) (gS1 w el l i S) := by
 intro _
 unfold gI gS1
 by_cases h0 : l = []
 ·rw [if_pos h0,if_pos h0,h0]; simp
 ·rw [if_neg h0,if_neg h0,get_setS (lt_get (h h0))]; simp
theorem ap_g {w el b : Nat} {l : List (List IV)} {i : Nat} {S : Store} {t : Tag} {c : List IV} (h : At w el l i S) (hc : c.length = w ∧ c.all isCell = true) (hl : Elems w l) (hr : roomy (l.length + 1) b = true) :
  appendOp false w b el S (acc i l) (.iv (.sl t [c])) = some (acc (gI l i S) (l ++ [c]),gS1 w el l i S) := by
 have hx : IsEl S (.iv (.sl t [c])) [c] := IsEl.sl ..
 have hw : Elems w [c] := by intro y hy; simp at hy; subst hy; exact hc
 by_cases h0 : l = []
 ·subst h0
  rw [acc_nil,ap_new (by decide) hx hw hl (by simp) hr,List.nil_append,acc_cons]
  simp [gI,gS1]
 ·rw [acc_ne _ h0,ap_tsl hx hw hl (h h0) hr,acc_ne _ (by simp)]
  simp [gI,gS1,h0]
theorem gS1_other {w el : Nat} {l : List (List IV)} {i : Nat} {S : Store} (h : At w el l i S) {q : Nat} {b : Block} (hq : S[q]? = some b) (hb : ∀ n w el,b ≠ .tok n w el) : (gS1 w el l i S)[q]? = some b := by
 unfold gS1
 by_cases h0 : l = []
 ·rw [if_pos h0]; exact get_appO hq _
 ·rw [if_neg h0,get_setN]
  ·exact hq
  ·rintro rfl
   rw [h h0] at hq
   exact hb _ _ _ (Option.some.inj hq).symm
def SetAt (S : Store) (j : Nat) (W : List Nat) : Prop := S[j]? = some (.cells 0 false (W.map uI)) ∨ S[j]? = some (.frz 0 (W.map uV))
theorem uI_uV (W : List Nat) : W.map uI = (W.map uV).map .iv := by rw [List.map_map]; rfl
theorem elems_set {S : Store} {j : Nat} {W : List Nat} (h : SetAt S j W) (cap : Nat) : elemsIV S (.msl j 0 0 W.length cap 1) = some (TM.one uV W) := by
 have e3 : ∀ L : List Nat,chunks 1 L.length (L.map uV) = TM.one uV L := by
  intro L
  induction L with
  | nil => rfl
  | cons a r ih => simp only [List.map_cons,List.length_cons,chunks,List.take_succ_cons,List.take_zero,List.drop_succ_cons,List.drop_zero,ih]; rfl
 rcases h with h | h
 ·have e1 : sub (W.map uI) 0 (W.length * 1) = some (W.map uI) := sub_all (by simp)
  have e2 : toIVs (W.map uI) = some (W.map uV) := by rw [uI_uV,toIVs_ivs]
  simp only [elemsIV,h,ne_eq,not_true_eq_false,↓reduceIte,e1,e2,Option.map_some,e3]
 ·have e1 : sub (W.map uV) 0 (W.length * 1) = some (W.map uV) := sub_all (by simp)
  simp only [elemsIV,h,ne_eq,not_true_eq_false,↓reduceIte,e1,Option.map_some,e3]
theorem close_set {S : Store} {j : Nat} {W : List Nat} (h : SetAt S j W) (cap : Nat) : closeArg S (.msl j 0 0 W.length cap 1) = some (.iv (.sl .no (TM.one uV W))) := by
 show ((match elemsIV S (.msl j 0 0 W.length cap 1) with | some l => some (IV.sl .no l) | none => none).map TV.iv) = _
 rw [elems_set h]; rfl
theorem freeze_set {S : Store} {j : Nat} {W : List Nat} (h : SetAt S j W) (v o n c w : Nat) : ∃ S',freezeV S [.msl j v o n c w] = some S' ∧ S'.length = S.length ∧ (∀ q,q ≠ j → S'[q]? = S[q]?) ∧ S'[j]? = some (.frz 0 (W.map uV)) := by
 rcases h with h | h
 ·refine ⟨S.set j (.frz 0 (W.map uV)),?_,by simp,fun q hq => get_setN (Ne.symm hq) _,get_setS (lt_get h) _⟩
  simp only [freezeV,freezeB,h,uI_uV,toIVs_ivs,Option.map_some]
 ·refine ⟨S,?_,rfl,fun q _ => rfl,h⟩
  simp only [freezeV,freezeB,h]
def rowL (I : Nat → List Nat) (q : Nat) : List IV := [.sl (sTag (oneI (wlI 0 (I q)))) (TM.one (.int .i64) (wlI 0 (I q)))]
def rowsL (I : Nat → List Nat) (i : Nat) : List (List IV) := (List.range i).map (rowL I)
theorem rowsL_len (I : Nat → List Nat) (i : Nat) : (rowsL I i).length = i := by simp [rowsL]
theorem rowsL_el (I : Nat → List Nat) (i : Nat) : Elems 1 (rowsL I i) := by
 intro y hy
 obtain ⟨q,_,rfl⟩ := List.mem_map.1 hy
 exact ⟨rfl,rfl⟩
theorem loop26 {j n m : Nat} (hn : n ≤ 1000000) (hm : m ≤ 100000) {ia : Nat → Nat} {I : Nat → List Nat} (hok : ∀ i,i < n → WOK m (I i)) (hne : ∀ i,i < n → ia i ≠ j) : ∀ (k i : Nat) (S : Store) (jo : Nat) (x2 x6 : TV),i + k = n →
  S[j]? = some (.cells 0 false (cF n fun i => .msl (ia i) 0 0 m m 1)) → (∀ q,q < n → SetAt S (ia q) (I q)) → At 1 28 (rowsL I i) jo S →
  ∃ (S' : Store) (jo' : Nat) (y2 y6 : TV),lp' (lim K) t26L0 [.msl j 0 0 n n 1,acc jo (rowsL I i),x2,.msl j 0 0 n n 1,.iv (.int .i64 n),.iv (.int .i64 i),x6] S
   = .ret (.exit 0,[.msl j 0 0 n n 1,acc jo' (rowsL I n),y2,.msl j 0 0 n n 1,.iv (.int .i64 n),.iv (.int .i64 n),y6],S')
 | 0,i,S,jo,x2,x6,h,hr,hs,ha => by
  obtain rfl : i = n := by omega
  refine ⟨S,jo,x2,.iv (.bool false),loop_at K _ _ t26L0.eq_1 ?_⟩
  simp (config := { maxSteps := 4000000 }) (disch := omega) only [go_sem]
 | k + 1,i,S,jo,x2,x6,h,hr,hs,ha => by
  have hin : i < n := by omega
  have hW := hok i hin
  have i1 := ix_RW (j := j) (v := 0) (cap := n) hin
  have s1 := sub_cF (fun i => TV.msl (ia i) 0 0 m m 1) hin
  have c38 := call38 .no (I i) hW.lt (by rw [hW.len]; exact hm)
  have hcl := close_set (hs i hin) m
  rw [hW.len] at hcl
  obtain ⟨S1,f1,f2,f3,f4⟩ := freeze_set (hs i hin) 0 0 m m 1
  have hr1 : S1[j]? = some (.cells 0 false (cF n fun i => .msl (ia i) 0 0 m m 1)) := by rw [f3 j (Ne.symm (hne i hin))]; exact hr
  have hs1 : ∀ q,q < n → SetAt S1 (ia q) (I q) := fun q hq => by
   by_cases e : ia q = ia i
   ·have hq' := hs q hq
    have hi' := hs i hin
    rw [e] at hq' ⊢
    right
    rw [f4]
    have : (I q).map uV = (I i).map uV := by
     have inj : ∀ A B : List Nat,A.map uI = B.map uI → A.map uV = B.map uV := fun A B hAB => by
      have : A = B := (List.map_inj_right (fun a b hab => by simp [uI] at hab; exact_mod_cast hab)).1 hAB
      rw [this]
     rcases hq' with a | a <;> rcases hi' with b | b <;> rw [a] at b <;> simp at b
     ·exact inj _ _ (by simpa using b)
     ·simpa using b
    rw [this]
   ·unfold SetAt
    rw [f3 _ e]; exact hs q hq
  have ha1 : At 1 28 (rowsL I i) jo S1 := fun h0 => by
   have := ha h0
   rw [f3 jo]
   ·exact this
   ·rintro rfl
    rcases hs i hin with b | b <;> rw [this] at b <;> simp at b
  have ap := ap_g (b := 24) (c := rowL I i) (t := .full) ha1 ⟨rfl,rfl⟩ (rowsL_el I i) (roomy_ok (by rw [rowsL_len]; omega))
  have hsn : rowsL I i ++ [rowL I i] = rowsL I (i + 1) := by simp [rowsL,List.range_succ]
  have hat := gS1_at ha1 (rowL I i)
  rw [hsn] at ap hat
  have hr2 := gS1_other ha1 hr1 (by simp)
  have hs2 : ∀ q,q < n → SetAt (gS1 1 28 (rowsL I i) jo S1) (ia q) (I q) := fun q hq => by
   rcases hs1 q hq with b | b
   ·exact .inl (gS1_other ha1 b (by simp))
   ·exact .inr (gS1_other ha1 b (by simp))
  obtain ⟨S',jo',y2,y6,ih⟩ := loop26 hn hm hok hne k (i + 1) _ _ (.msl (ia i) 0 0 m m 1) (.iv (.bool true)) (by omega) hr2 hs2 hat
  rw [show ((i + 1 : Nat) : Int) = (i : Int) + 1 by omega] at ih
  refine ⟨S',jo',y2,y6,loop_at K _ _ t26L0.eq_1 ?_⟩
  unfold rowL at ap
  simp (config := { maxSteps := 4000000 }) (disch := omega) only [go_sem,i1,hr,s1,hcl,cpR_pure c38,f1,ap,wrap_i64]
  exact congrArg er ih
theorem call26 {S : Store} {j n m : Nat} (hn : n ≤ 1000000) (hm : m ≤ 100000) {ia : Nat → Nat} {I : Nat → List Nat} (h : RS S j n m ia I) (hj : j < 6) : ∃ (S' : Store) (jo : Nat),(lim K).call 26 [.msl j 0 0 n n 1] S = .ret (acc jo (rowsL I n),S') := by
 obtain ⟨S',jo,y2,y6,l1⟩ := loop26 hn hm h.ok (fun i hi => by have := h.ge i hi; omega) n 0 S 0 (.tup []) (.tup []) (by omega) h.row (fun q hq => .inl (h.set q hq)) (fun h0 => absurd rfl h0)
 rw [show ((0 : Nat) : Int) = 0 from rfl,show rowsL I 0 = [] from rfl,acc_nil] at l1
 refine ⟨S',jo,call_ret' K S (fn := t26) rfl rfl ?_⟩
 simp (config := { maxSteps := 4000000 }) (disch := omega) only [t26,go_sem,TM.undef]
 rw [l1]
 simp (config := { maxSteps := 4000000 }) (disch := omega) only [go_sem]
theorem res_tup (S : Store) (jo : Nat) (l : List (List IV)) (n : Int) : TM.resolve S (.tup [acc jo l,.iv (.int .i64 n)]) = some (.tup [.iv (.sl (sTag l) l),.iv (.int .i64 n)]) := by
 rw [resolve_tup]
 simp only [resVs,resV_acc']
 rfl
theorem inout {f : VF} (h32 : 32 ≤ f.regs) (hr : f.regs ≤ 1000000) (hn : f.ins.length ≤ 1000000) (h0 : 0 < f.ins.length) (hus : ∀ x ∈ f.ins,x.us.length ≤ 999990 ∧ TagOk x.tu x.us) (h35 : TM.Pure K 35 [.iv (.agg (encF f))] (.iv (.int .i64 0))) :
  ∃ (lb : List (Nat × Int × Int)) (I O U D : Nat → List Nat),TM.Pure K 13 [.iv (.agg (encF f))] (.tup [.iv (.sl (sTag (rowsL I f.ins.length)) (rowsL I f.ins.length)),.iv (.int .i64 0)]) ∧
   TM.Pure K 15 [.iv (.agg (encF f))] (.tup [.iv (.sl (sTag (rowsL O f.ins.length)) (rowsL O f.ins.length)),.iv (.int .i64 0)]) ∧ Grow lb f.ins U D I ∧
   (∀ i,i < f.ins.length → WOK ((f.regs + 63) / 64) (I i) ∧ WOK ((f.regs + 63) / 64) (O i)) ∧
   (∀ L,getR lb L = firstL f.ins L) ∧ (∀ j r,j < f.ins.length → (bit (U j) r = true ↔ (r : Int) ∈ usesM (f.ins.getD j default) ∧ r < f.regs)) ∧ (∀ j r,j < f.ins.length → (bit (D j) r = true ↔ (r : Int) ∈ defsM (f.ins.getD j default) ∧ r < f.regs)) ∧
   ∀ j,j < f.ins.length → (∀ r,bit (I j) r = eqn lb f.ins U D I j r) ∧ ∀ r,bit (O j) r = anyB lb f.ins I j r := by
 obtain ⟨S,lb,ia,oa,I,O,U,D,c25,hF,hG,h1,h2,h3,h4⟩ := call25 h32 hr hn h0 hus h35
 obtain ⟨S1,j1,e1⟩ := call26 (by omega) (by omega) hF.inn (by omega)
 obtain ⟨S2,j2,e2⟩ := call26 (by omega) (by omega) hF.out (by omega)
 have hw := hF.flw
 refine ⟨lb,I,O,U,D,?_,?_,hG,fun i hi => ⟨hF.inn.ok i hi,hF.out.ok i hi⟩,h1,h2,h3,h4⟩
 ·refine TM.pure_ret (S := S1) (call_ret' K _ (fn := t13) rfl rfl ?_) (res_tup S1 j1 _ 0)
  rw [encF_eq] at c25 ⊢
  generalize f.ins.length = n at *
  simp (config := { maxSteps := 4000000 }) (disch := omega) only [t13,go_sem,TM.undef,c25,hw,e1]
 ·refine TM.pure_ret (S := S2) (call_ret' K _ (fn := t15) rfl rfl ?_) (res_tup S2 j2 _ 0)
  rw [encF_eq] at c25 ⊢
  generalize f.ins.length = n at *
  simp (config := { maxSteps := 4000000 }) (disch := omega) only [t15,go_sem,TM.undef,c25,hw,e2]
theorem call90 (op : Int) (h : 1 ≤ op ∧ op ≤ 25) : TM.Pure K 90 [.iv (.int .i64 op)] (.iv (.int .i64 (if op ≤ 14 then 1 else if op = 23 then 3 else if op = 25 then 4 else 2))) := by
 refine call_pure t90 rfl rfl ?_
 rcases (by omega : op ≤ 14 ∨ op = 23 ∨ op = 25 ∨ (15 ≤ op ∧ op ≤ 22) ∨ op = 24) with h1 | h1 | h1 | h1 | h1
 ·rw [if_pos h1]; simp (config := { maxSteps := 4000000 }) (disch := omega) only [t90,go_sem,TM.undef]
 ·rw [if_neg (by omega),if_pos h1]; simp (config := { maxSteps := 4000000 }) (disch := omega) only [t90,go_sem,TM.undef]
 ·rw [if_neg (by omega),if_neg (by omega),if_pos h1]; simp (config := { maxSteps := 4000000 }) (disch := omega) only [t90,go_sem,TM.undef]
 ·rw [if_neg (by omega),if_neg (by omega),if_neg (by omega)]; simp (config := { maxSteps := 4000000 }) (disch := omega) only [t90,go_sem,TM.undef]
 ·rw [if_neg (by omega),if_neg (by omega),if_neg (by omega)]; simp (config := { maxSteps := 4000000 }) (disch := omega) only [t90,go_sem,TM.undef]
theorem call89_1 : TM.Pure K 89 [.iv (.int .i64 1)] (.tup [.iv (.bool true),.iv (.bool true),.iv (.bool true),.iv (.int .i64 0)]) := by
 refine call_pure t89 rfl rfl ?_
 simp (config := { maxSteps := 4000000 }) (disch := omega) only [t89,go_sem,TM.undef]
theorem call89_2 : TM.Pure K 89 [.iv (.int .i64 2)] (.tup [.iv (.bool true),.iv (.bool true),.iv (.bool false),.iv (.int .i64 16)]) := by
 refine call_pure t89 rfl rfl ?_
 simp (config := { maxSteps := 4000000 }) (disch := omega) only [t89,go_sem,TM.undef]
theorem call89_3 : TM.Pure K 89 [.iv (.int .i64 3)] (.tup [.iv (.bool true),.iv (.bool false),.iv (.bool false),.iv (.int .i64 16)]) := by
 refine call_pure t89 rfl rfl ?_
 simp (config := { maxSteps := 4000000 }) (disch := omega) only [t89,go_sem,TM.undef]
theorem call89_4 : TM.Pure K 89 [.iv (.int .i64 4)] (.tup [.iv (.bool false),.iv (.bool true),.iv (.bool true),.iv (.int .i64 16)]) := by
 refine call_pure t89 rfl rfl ?_
 simp (config := { maxSteps := 4000000 }) (disch := omega) only [t89,go_sem,TM.undef]
theorem call92 (b : Bool) : TM.Pure K 92 [.iv (.bool b),.iv (.int .i64 0)] (.iv (.bool true)) := by
 refine call_pure t92 rfl rfl ?_
 cases b <;> simp (config := { maxSteps := 4000000 }) (disch := omega) only [t92,go_sem,TM.undef]
theorem call91 (op : Int) (h : 1 ≤ op ∧ op ≤ 25) : TM.Pure K 91 [.iv (.int .i64 op)] (.tup [.iv (.int .i64 (loM op)),.iv (.int .i64 (hiM op))]) := by
 have c90 := call90 op h
 unfold loM hiM
 refine call_pure t91 rfl rfl ?_
 rcases (by omega : op ≤ 14 ∨ op = 15 ∨ op = 16 ∨ op = 17 ∨ op = 18 ∨ op = 19 ∨ op = 20 ∨ op = 21 ∨ op = 22 ∨ op = 23 ∨ op = 24 ∨ op = 25) with h1 | h1 | h1 | h1 | h1 | h1 | h1 | h1 | h1 | h1 | h1 | h1
 ·rw [if_neg (by omega),if_neg (by omega),if_neg (by omega),if_neg (by omega)]
  rw [if_pos h1] at c90
  simp (config := { maxSteps := 4000000 }) (disch := omega) only [t91,go_sem,TM.undef,cpR_pure c90]
 all_goals
  subst h1
  simp (config := { maxSteps := 4000000 }) (disch := omega) only [t91,go_sem,TM.undef,cpR_pure c90]
  rfl
theorem form_cases (op : Int) (h : 1 ≤ op ∧ op ≤ 25) : ∃ (fm : Int) (d a b : Bool) (im : Int),TM.Pure K 90 [.iv (.int .i64 op)] (.iv (.int .i64 fm)) ∧ TM.Pure K 89 [.iv (.int .i64 fm)] (.tup [.iv (.bool d),.iv (.bool a),.iv (.bool b),.iv (.int .i64 im)]) ∧ fm ≠ 0 ∧ 0 ≤ im ∧ im ≤ 21 := by
 have c90 := call90 op h
 rcases (by omega : op ≤ 14 ∨ op = 23 ∨ op = 25 ∨ (15 ≤ op ∧ op ≤ 22) ∨ op = 24) with h1 | h1 | h1 | h1 | h1
 ·rw [if_pos h1] at c90; exact ⟨1,_,_,_,_,c90,call89_1,by decide,by decide,by decide⟩
 ·rw [if_neg (by omega),if_pos h1] at c90; exact ⟨3,_,_,_,_,c90,call89_3,by decide,by decide,by decide⟩
 ·rw [if_neg (by omega),if_neg (by omega),if_pos h1] at c90; exact ⟨4,_,_,_,_,c90,call89_4,by decide,by decide,by decide⟩
 ·rw [if_neg (by omega),if_neg (by omega),if_neg (by omega)] at c90; exact ⟨2,_,_,_,_,c90,call89_2,by decide,by decide,by decide⟩
 ·rw [if_neg (by omega),if_neg (by omega),if_neg (by omega)] at c90; exact ⟨2,_,_,_,_,c90,call89_2,by decide,by decide,by decide⟩
theorem call88 (op im : Int) (h : 1 ≤ op ∧ op ≤ 25) : TM.Pure K 88 [.iv (.agg [.int .i64 op,.int .i64 0,.int .i64 0,.int .i64 0,.int .i64 im])] (.iv (.int .i64 (if loM op ≤ im ∧ im ≤ hiM op then 0 else 11))) := by
 obtain ⟨fm,d,a,b,ib,c90,c89,h0,_,_⟩ := form_cases op h
 have c91 := call91 op h
 have c1 := call92 d
 have c2 := call92 a
 have c3 := call92 b
 generalize loM op = lo at *
 generalize hiM op = hi at *
 refine call_pure t88 rfl rfl ?_
 by_cases e1 : lo ≤ im
 ·by_cases e2 : im ≤ hi
  ·rw [if_pos ⟨e1,e2⟩]
   simp (config := { maxSteps := 4000000 }) (disch := omega) only [t88,go_sem,TM.undef,cpR_pure c90,cpR_pure c89,cpR_pure c91,cpR_pure c1,cpR_pure c2,cpR_pure c3]
  ·rw [if_neg (by omega)]
   simp (config := { maxSteps := 4000000 }) (disch := omega) only [t88,go_sem,TM.undef,cpR_pure c90,cpR_pure c89,cpR_pure c91,cpR_pure c1,cpR_pure c2,cpR_pure c3]
 ·rw [if_neg (by omega)]
  simp (config := { maxSteps := 4000000 }) (disch := omega) only [t88,go_sem,TM.undef,cpR_pure c90,cpR_pure c89,cpR_pure c91,cpR_pure c1,cpR_pure c2,cpR_pure c3]
def encBN (b : Bool) : List IV := [.bool b,.int .i64 0]
theorem loop82 (E : List Bool) (hE : E.length ≤ 10) (x0 x1 x2 x3 x4 x5 x6 x7 x8 x12 : TV) : ∀ (k i : Nat) (w at' : Int) (x11 x16 x17 : TV),i + k = E.length → 5 * (k : Int) ≤ at' → at' ≤ 100 →
  ∃ (w' at2 : Int) (y11 y16 y17 : TV),lp' (lim K) t82L0 [x0,x1,x2,x3,x4,x5,x6,x7,x8,.iv (.int .u32 w),.iv (.int .i64 at'),x11,x12,.iv (.sl .full (E.map encBN)),.iv (.int .i64 E.length),.iv (.int .i64 i),x16,x17] []
   = .ret (.exit 0,[x0,x1,x2,x3,x4,x5,x6,x7,x8,.iv (.int .u32 w'),.iv (.int .i64 at2),y11,x12,.iv (.sl .full (E.map encBN)),.iv (.int .i64 E.length),.iv (.int .i64 E.length),y16,y17],[])
 | 0,i,w,at',x11,x16,x17,h,h1,h2 => by
  obtain rfl : i = E.length := by omega
  refine ⟨w,at',x11,.iv (.bool false),x17,loop_at K _ _ t82L0.eq_1 ?_⟩
  simp (config := { maxSteps := 4000000 }) (disch := omega) only [go_sem]
 | k + 1,i,w,at',x11,x16,x17,h,h1,h2 => by
  have hla : i < E.length := by omega
  have hix := ix_map (w := 2) (f := encBN) (fun _ => rfl) (t := .full) (l := E) (i := (i : Int)) (by omega)
  rw [Int.toNat_natCast] at hix
  generalize E.getD i default = b at *
  rw [show encBN b = [.bool b,.int .i64 0] from rfl] at hix
  have g2 : ∀ (env : Env) (S : Store) (a b : IV),getCells env S (.iv (.cp [a,b])) 2 = some [.iv a,.iv b] := fun _ _ _ _ => by simp [getCells,sub]
  cases b with
  | true =>
   have hz : IntKind.u32.wrap 0 = 0 := by decide
   obtain ⟨w',at2,y11,y16,y17,ih⟩ := loop82 E hE x0 x1 x2 x3 x4 x5 x6 x7 x8 x12 k (i + 1) (IntKind.u32.wrap (bOr 32 w (IntKind.u32.wrap (0 * 2 ^ (if at'.toNat ≤ 32 then at'.toNat else 32))))) (at' - 5) (.lb [.iv (.bool true),.iv (.int .i64 0)]) (.iv (.bool true)) (.iv (.bool true)) (by omega) (by omega) (by omega)
   rw [show ((i + 1 : Nat) : Int) = (i : Int) + 1 by omega] at ih
   refine ⟨w',at2,y11,y16,y17,loop_at K _ _ t82L0.eq_1 ?_⟩
   simp (config := { maxSteps := 4000000 }) (disch := omega) only [go_sem,hix,g2,wrap_i64,hz]
   exact congrArg er ih
  | false =>
   obtain ⟨w',at2,y11,y16,y17,ih⟩ := loop82 E hE x0 x1 x2 x3 x4 x5 x6 x7 x8 x12 k (i + 1) w at' (.lb [.iv (.bool false),.iv (.int .i64 0)]) (.iv (.bool true)) (.iv (.bool false)) (by omega) (by omega) (by omega)
   rw [show ((i + 1 : Nat) : Int) = (i : Int) + 1 by omega] at ih
   refine ⟨w',at2,y11,y16,y17,loop_at K _ _ t82L0.eq_1 ?_⟩
   simp (config := { maxSteps := 4000000 }) (disch := omega) only [go_sem,hix,g2,wrap_i64]
   exact congrArg er ih
def encIn (op im : Int) : List IV := [.int .i64 op,.int .i64 0,.int .i64 0,.int .i64 0,.int .i64 im]
theorem call82 (op im : Int) (h : 1 ≤ op ∧ op ≤ 25) : ∃ w : Int,TM.Pure K 82 [.iv (.agg (encIn op im))] (.tup [.iv (.int .u32 w),.iv (.int .i64 (if loM op ≤ im ∧ im ≤ hiM op then 0 else 11))]) := by
 have c88 := call88 op im h
 obtain ⟨fm,d,a,b,ib,c90,c89,h0,h1,h2⟩ := form_cases op h
 by_cases e : loM op ≤ im ∧ im ≤ hiM op
 ·rw [if_pos e] at c88 ⊢
  have key := fun w0 => loop82 [d,a,b] (by simp) (.iv (.agg (encIn op im))) (.lb ((encIn op im).map .iv)) (.iv (.int .u32 0)) (.iv (.int .i64 0)) (.iv (.int .i64 0)) (.iv (.bool d)) (.iv (.bool a)) (.iv (.bool b)) (.iv (.int .i64 ib)) (.iv (.bool false)) 3 0 w0 21 (.tup []) (.tup []) (.tup []) (by simp) (by decide) (by decide)
  obtain ⟨w',at2,y11,y16,y17,l1⟩ := key (IntKind.u32.wrap (IntKind.u32.wrap op * 67108864))
  rw [show ((0 : Nat) : Int) = 0 from rfl,show (([d,a,b].length : Nat) : Int) = ((3 : Nat) : Int) from rfl,show (encIn op im).map TV.iv = [.iv (.int .i64 op),.iv (.int .i64 0),.iv (.int .i64 0),.iv (.int .i64 0),.iv (.int .i64 im)] from rfl,show encIn op im = [.int .i64 op,.int .i64 0,.int .i64 0,.int .i64 0,.int .i64 im] from rfl,show [d,a,b].map encBN = [[.bool d,.int .i64 0],[.bool a,.int .i64 0],[.bool b,.int .i64 0]] from rfl] at l1
  unfold encIn
  refine ⟨?_,call_pure t82 rfl rfl ?_⟩
  rotate_left
  ·simp (config := { maxSteps := 4000000 }) (disch := omega) only [t82,go_sem,TM.undef,cpR_pure c90,cpR_pure c89,cpR_pure c88]
   rw [l1]
   simp (config := { maxSteps := 4000000 }) (disch := omega) only [go_sem]
   rfl
 ·rw [if_neg e] at c88 ⊢
  refine ⟨0,call_pure t82 rfl rfl ?_⟩
  simp (config := { maxSteps := 4000000 }) (disch := omega) only [t82,go_sem,TM.undef,encIn,cpR_pure c88]
def plainM (op im : Int) : Bool := decide (1 ≤ op ∧ op ≤ 25) && decide (loM op ≤ im ∧ im ≤ hiM op)
theorem call68 (v : VI) : TM.Pure K 68 [.iv (.agg (encV v))] (.iv (.bool (plainM v.op v.im))) := by
 unfold plainM
 by_cases h : 1 ≤ v.op ∧ v.op ≤ 25
 ·obtain ⟨w,c82⟩ := call82 v.op v.im h
  rw [decide_eq_true h,Bool.true_and]
  unfold encIn at c82
  refine call_pure t68 rfl rfl ?_
  by_cases e : loM v.op ≤ v.im ∧ v.im ≤ hiM v.op
  ·rw [if_pos e] at c82
   rw [decide_eq_true e]
   simp (config := { maxSteps := 4000000 }) (disch := omega) only [t68,go_sem,TM.undef,encV,List.map_cons,List.map_nil,cpR_pure c82]
  ·rw [if_neg e] at c82
   rw [decide_eq_false e]
   simp (config := { maxSteps := 4000000 }) (disch := omega) only [t68,go_sem,TM.undef,encV,List.map_cons,List.map_nil,cpR_pure c82]
 ·rw [decide_eq_false h,Bool.false_and]
  refine call_pure t68 rfl rfl ?_
  rcases (by omega : v.op < 1 ∨ 25 < v.op) with h1 | h1 <;>
   simp (config := { maxSteps := 4000000 }) (disch := omega) only [t68,go_sem,TM.undef,encV,List.map_cons,List.map_nil]
def formedM (op im : Int) : Bool := plainM op im || decide ((26 ≤ op ∧ op ≤ 31) ∨ (64 ≤ op ∧ op ≤ 72))
theorem call46 (v : VI) : TM.Pure K 46 [.iv (.agg (encV v))] (.iv (.bool (formedM v.op v.im))) := by
 have c68 := call68 v
 unfold formedM
 rw [encV_eq] at c68
 refine call_pure t46 rfl rfl ?_
 generalize plainM v.op v.im = p at *
 cases p with
 | true =>
  rw [Bool.true_or]
  simp (config := { maxSteps := 4000000 }) (disch := omega) only [t46,go_sem,TM.undef,encV,List.map_cons,List.map_nil,cpR_pure c68]
 | false =>
  rw [Bool.false_or]
  rcases (by omega : v.op < 26 ∨ (26 ≤ v.op ∧ v.op ≤ 31) ∨ (31 < v.op ∧ v.op < 64) ∨ (64 ≤ v.op ∧ v.op ≤ 72) ∨ 72 < v.op) with h | h | h | h | h
  ·rw [decide_eq_false (by omega)]; simp (config := { maxSteps := 4000000 }) (disch := omega) only [t46,go_sem,TM.undef,encV,List.map_cons,List.map_nil,cpR_pure c68]
  ·rw [decide_eq_true (by omega)]; simp (config := { maxSteps := 4000000 }) (disch := omega) only [t46,go_sem,TM.undef,encV,List.map_cons,List.map_nil,cpR_pure c68]
  ·rw [decide_eq_false (by omega)]; simp (config := { maxSteps := 4000000 }) (disch := omega) only [t46,go_sem,TM.undef,encV,List.map_cons,List.map_nil,cpR_pure c68]
  ·rw [decide_eq_true (by omega)]; simp (config := { maxSteps := 4000000 }) (disch := omega) only [t46,go_sem,TM.undef,encV,List.map_cons,List.map_nil,cpR_pure c68]
  ·rw [decide_eq_false (by omega)]; simp (config := { maxSteps := 4000000 }) (disch := omega) only [t46,go_sem,TM.undef,encV,List.map_cons,List.map_nil,cpR_pure c68]
theorem ap_t {S : Store} {j : Nat} {l ys : List Int} {t : Tag} (h : S[j]? = some (.tok l.length 1 3)) (hl : l.length + ys.length ≤ 2000000) : appendOp false 1 8 3 S (.tsl j (oneI l)) (.iv (.sl t (oneI ys))) = some (.tsl j (oneI (l ++ ys)),S.set j (.tok (l.length + ys.length) 1 3)) := by
 have hx : IsEl S (.iv (.sl t (oneI ys))) (oneI ys) := IsEl.sl ..
 have := ap_tsl (b := 8) hx (oneI_el ys) (oneI_el l) (by rw [oneI_len]; exact h) (roomy_ok (by rw [oneI_len,oneI_len]; omega))
 rw [oneI_len,oneI_len,show oneI l ++ oneI ys = oneI (l ++ ys) by simp [oneI,TM.one]] at this
 exact this
theorem call67 (n : Nat) (h : 0 < n ∧ n ≤ 2000000) (S : Store) : (lim K).call 67 [.iv (.sl .nil []),.iv (.int .i64 n)] S = .ret (.tsl S.length [],S ++ [.tok 0 1 3]) := by
 have hr : roomy n 8 = true := roomy_ok (by omega)
 have hn : ¬ (n : Int) ≤ 0 := by omega
 have hg : growOp 1 8 3 S (.iv (.sl .nil [])) (n : Int) = some (.rsv S.length [] n,S ++ [.tok 0 1 3]) := by
  simp [growOp,fits,hr,hn,Int.toNat_natCast,show ¬ n = 0 by omega]
 have h0 : ∀ n : Int,n - (0 - ((0 : Nat) : Int)) = n := fun n => by omega
 have e1 : natV (capOf (.iv (.sl .nil []))) = some (.iv (.int .i64 0)) := id rfl
 have e2 : ∀ S : Store,sliceOp S (.sl 1) (.iv (.sl .nil [])) none (some 0) none = some (.iv (.sl .nil [])) := fun S => rfl
 have e3 : ∀ (S : Store) (i n : Nat),sliceOp S (.sl 1) (.rsv i [] n) none (some 0) none = some (.tsl i []) := fun S i n => rfl
 have e4 : ∀ (S : Store) (i n : Nat),sliceOp S (.sl 1) (.rsv i [] n) none (some ((0 : Nat) : Int)) none = some (.tsl i []) := fun S i n => rfl
 refine call_ret' K S (fn := t67) rfl rfl ?_
 simp (config := { maxSteps := 4000000 }) (disch := omega) only [t67,go_sem,TM.undef,e1,e2,e3,e4,wrap_i64,h0,fun env => grV_eq (env := env) hg]
def encP (p : Tag × List Int) : List IV := [.sl p.1 (oneI p.2)]
def sumL : List (Tag × List Int) → Nat
 | [] => 0
 | p :: r => p.2.length + sumL r
def catL : List (Tag × List Int) → List Int
 | [] => []
 | p :: r => p.2 ++ catL r
theorem catL_len : ∀ E : List (Tag × List Int),(catL E).length = sumL E
 | [] => rfl
 | p :: r => by rw [catL,sumL,List.length_append,catL_len r]
theorem getp {E : List (Tag × List Int)} {i : Nat} (h : i < E.length) : ∃ p,E.drop i = p :: E.drop (i + 1) ∧ indexAddrS 1 (.iv (.sl .full (E.map encP))) (i : Int) = some (.iv (.cp [.sl p.1 (oneI p.2)])) := by
 refine ⟨E[i],List.drop_eq_getElem_cons h,?_⟩
 refine ix_ok (by omega) ?_ rfl
 rw [Int.toNat_natCast,List.getElem?_map,List.getElem?_eq_getElem h]
 rfl
theorem loop45a (E : List (Tag × List Int)) (hE : E.length ≤ 10) (x1 x4 x5 x10 x11 x12 x13 x14 : TV) (S : Store) : ∀ (k i z : Nat) (x3 x9 x10' : TV),i + k = E.length → z + sumL (E.drop i) ≤ 2000000 →
  ∃ y3 y9 y10 : TV,lp' (lim K) t45L1 [.iv (.sl .full (E.map encP)),x1,.iv (.int .i64 z),x3,x4,x5,.iv (.sl .full (E.map encP)),.iv (.int .i64 E.length),.iv (.int .i64 i),x9,x10',x11,x12,x13,x14] S
   = .ret (.exit 0,[.iv (.sl .full (E.map encP)),x1,.iv (.int .i64 (z + sumL (E.drop i) : Nat)),y3,x4,x5,.iv (.sl .full (E.map encP)),.iv (.int .i64 E.length),.iv (.int .i64 E.length),y9,y10,x11,x12,x13,x14],S)
 | 0,i,z,x3,x9,x10',h,hz => by
  obtain rfl : i = E.length := by omega
  rw [List.drop_length,sumL,Nat.add_zero]
  refine ⟨x3,.iv (.bool false),x10',loop_at K _ _ t45L1.eq_1 ?_⟩
  simp (config := { maxSteps := 4000000 }) (disch := omega) only [go_sem]
 | k + 1,i,z,x3,x9,x10',h,hz => by
  have hla : i < E.length := by omega
  obtain ⟨p,hdr,hix⟩ := getp hla
  rw [hdr,sumL] at hz ⊢
  obtain ⟨y3,y9,y10,ih⟩ := loop45a E hE x1 x4 x5 x10 x11 x12 x13 x14 S k (i + 1) (z + p.2.length) (.iv (.sl p.1 (oneI p.2))) (.iv (.bool true)) (.iv (.bool false)) (by omega) (by omega)
  rw [show ((i + 1 : Nat) : Int) = (i : Int) + 1 by omega,show ((z + p.2.length : Nat) : Int) = (z : Int) + (p.2.length : Int) by omega,Nat.add_assoc] at ih
  refine ⟨y3,y9,y10,loop_at K _ _ t45L1.eq_1 ?_⟩
  simp (config := { maxSteps := 4000000 }) (disch := omega) only [go_sem,hix,oneI_len,wrap_i64]
  exact congrArg er ih
theorem loop45b (E : List (Tag × List Int)) (hE : E.length ≤ 10) (j : Nat) (x1 x2 x3 x6 x7 x8 x9 x10 : TV) : ∀ (k i : Nat) (l : List Int) (S : Store) (x5 x14 : TV),i + k = E.length → S[j]? = some (.tok l.length 1 3) → l.length + sumL (E.drop i) ≤ 2000000 →
  ∃ y5 y14 : TV,lp' (lim K) t45L0 [.iv (.sl .full (E.map encP)),x1,x2,x3,.tsl j (oneI l),x5,x6,x7,x8,x9,x10,.iv (.sl .full (E.map encP)),.iv (.int .i64 E.length),.iv (.int .i64 i),x14] S
   = .ret (.exit 2,[.iv (.sl .full (E.map encP)),x1,x2,x3,.tsl j (oneI (l ++ catL (E.drop i))),y5,x6,x7,x8,x9,x10,.iv (.sl .full (E.map encP)),.iv (.int .i64 E.length),.iv (.int .i64 E.length),y14],S.set j (.tok (l.length + sumL (E.drop i)) 1 3))
 | 0,i,l,S,x5,x14,h,hS,hz => by
  obtain rfl : i = E.length := by omega
  rw [List.drop_length,sumL,catL,Nat.add_zero,List.append_nil,set_row hS]
  refine ⟨x5,.iv (.bool false),loop_at K _ _ t45L0.eq_1 ?_⟩
  simp (config := { maxSteps := 4000000 }) (disch := omega) only [go_sem]
 | k + 1,i,l,S,x5,x14,h,hS,hz => by
  have hla : i < E.length := by omega
  obtain ⟨p,hdr,hix⟩ := getp hla
  rw [hdr,sumL] at hz ⊢
  rw [catL]
  have ha := ap_t (ys := p.2) (t := p.1) hS (by omega)
  obtain ⟨y5,y14,ih⟩ := loop45b E hE j x1 x2 x3 x6 x7 x8 x9 x10 k (i + 1) (l ++ p.2) (S.set j (.tok (l.length + p.2.length) 1 3)) (.iv (.sl p.1 (oneI p.2))) (.iv (.bool true)) (by omega) (by rw [get_setS (lt_get hS),List.length_append]) (by rw [List.length_append]; omega)
  rw [show ((i + 1 : Nat) : Int) = (i : Int) + 1 by omega,List.set_set,List.length_append,List.append_assoc,Nat.add_assoc] at ih
  refine ⟨y5,y14,loop_at K _ _ t45L0.eq_1 ?_⟩
  simp (config := { maxSteps := 4000000 }) (disch := omega) only [go_sem,hix,ha,wrap_i64]
  exact congrArg er ih
theorem call45 (E : List (Tag × List Int)) (hE : E.length ≤ 10) (h0 : 0 < sumL E) (hz : sumL E ≤ 2000000) (S : Store) : (lim K).call 45 [.iv (.sl .full (E.map encP))] S = .ret (.tsl S.length (oneI (catL E)),S ++ [.tok (catL E).length 1 3]) := by
 obtain ⟨y3,y9,y10,l1⟩ := loop45a E hE (.iv (.sl .nil [])) (.tup []) (.tup []) (.tup []) (.tup []) (.tup []) (.tup []) (.tup []) S E.length 0 0 (.tup []) (.tup []) (.tup []) (by omega) (by simpa using hz)
 rw [List.drop_zero,Nat.zero_add,show ((0 : Nat) : Int) = 0 from rfl] at l1
 have c67 := call67 (sumL E) ⟨h0,hz⟩ S
 have hS : (S ++ [.tok 0 1 3])[S.length]? = some (.tok ([] : List Int).length 1 3) := by simp
 obtain ⟨y5,y14,l2⟩ := loop45b E hE S.length (.iv (.sl .nil [])) (.iv (.int .i64 (sumL E : Nat))) y3 (.iv (.sl .full (E.map encP))) (.iv (.int .i64 E.length)) (.iv (.int .i64 E.length)) y9 y10 E.length 0 [] _ (.tup []) (.tup []) (by omega) hS (by simpa using hz)
 rw [List.drop_zero,List.nil_append,show ((0 : Nat) : Int) = 0 from rfl,show oneI [] = [] from rfl,List.set_append_right _ _ (Nat.le_refl _),Nat.sub_self,List.set_cons_zero,List.length_nil,Nat.zero_add] at l2
 rw [catL_len]
 refine call_ret' K S (fn := t45) rfl rfl ?_
 have hl : (E.map encP).length = E.length := List.length_map _
 simp (config := { maxSteps := 4000000 }) (disch := omega) only [t45,go_sem,TM.undef,hl]
 rw [l1]
 simp (config := { maxSteps := 4000000 }) (disch := omega) only [go_sem,c67,hl]
 rw [l2]
 simp (config := { maxSteps := 4000000 }) (disch := omega) only [go_sem]
def bxF (fn rg sl nd pr : Int) (rs : Bool) (ti : Tag) (ins : List VI) : Block := .cells 25 false [.iv (.int .i64 fn),.iv (.int .i64 rg),.iv (.int .i64 sl),.iv (.int .i64 nd),.iv (.int .i64 pr),.iv (.bool rs),.iv (.sl ti (ins.map encV))]
theorem call48 {fn rg sl nd pr : Int} {rs : Bool} {ti : Tag} {ins : List VI} {S : Store} (h : S[0]? = some (bxF fn rg sl nd pr rs ti ins)) (x : Int) : (lim K).call 48 [.iv (.int .i64 x),.ptr 0 25 0] S = .ret (.iv (.bool (decide (x < 0 ∨ rg ≤ x))),S) := by
 unfold bxF at h
 refine call_ret' K S (fn := t48) rfl rfl ?_
 rcases (by omega : x < 0 ∨ (0 ≤ x ∧ rg ≤ x) ∨ (0 ≤ x ∧ x < rg)) with h1 | h1 | h1
 ·rw [decide_eq_true (.inl h1)]; simp (config := { maxSteps := 4000000 }) (disch := omega) only [t48,go_sem,TM.undef,h]
 ·rw [decide_eq_true (.inr h1.2)]; simp (config := { maxSteps := 4000000 }) (disch := omega) only [t48,go_sem,TM.undef,h]
 ·rw [decide_eq_false (by omega)]; simp (config := { maxSteps := 4000000 }) (disch := omega) only [t48,go_sem,TM.undef,h]
theorem ix_t {j : Nat} {l : List Int} {i : Nat} (h : i < l.length) : indexAddrS 1 (.tsl j (oneI l)) (i : Int) = some (.iv (.cp [.int .i64 (l.getD i 0)])) := by
 have h1 := ix_one (f := IV.int .i64) (t := .no) (l := l) (i := (i : Int)) (by omega)
 rw [Int.toNat_natCast] at h1
 exact h1
def badR (rg x : Int) : Bool := decide (x < 0 ∨ rg ≤ x)
theorem loop42b {fn rg sl nd pr : Int} {rs : Bool} {ti : Tag} {ins : List VI} {S : Store} (h : S[0]? = some (bxF fn rg sl nd pr rs ti ins)) (j : Nat) (l : List Int) (hl : l.length ≤ 3000000) : ∀ (k i : Nat) (x2 x3 x6 x7 : TV),i + k = l.length → (∀ x ∈ l.take i,badR rg x = false) →
  ∃ (jj : Jump) (y2 y3 y5 y6 y7 : TV),lp' (lim K) t42L0 [.tsl j (oneI l),.fn 48 [] [.ptr 0 25 0],x2,x3,.iv (.int .i64 l.length),.iv (.int .i64 i),x6,x7] S
   = .ret (jj,[.tsl j (oneI l),.fn 48 [] [.ptr 0 25 0],y2,y3,.iv (.int .i64 l.length),y5,y6,y7],S) ∧
   (jj = .exit 0 ∧ l.any (badR rg) = false ∨ jj = .ret ∧ l.any (badR rg) = true ∧ ∃ q : Nat,y2 = .iv (.int .i64 q))
 | 0,i,x2,x3,x6,x7,hk,hq => by
  obtain rfl : i = l.length := by omega
  rw [List.take_length] at hq
  refine ⟨.exit 0,x2,x3,.iv (.int .i64 l.length),.iv (.bool false),x7,loop_at K _ _ t42L0.eq_1 ?_,.inl ⟨rfl,?_⟩⟩
  ·simp (config := { maxSteps := 4000000 }) (disch := omega) only [go_sem]
  ·rw [List.any_eq_false]
   intro x hx; rw [hq x hx]; simp
 | k + 1,i,x2,x3,x6,x7,hk,hq => by
  have hla : i < l.length := by omega
  have i1 := ix_t (j := j) hla
  have c48 := call48 h (l.getD i 0)
  have hts := take_succD hla
  cases hd : badR rg (l.getD i 0) with
  | true =>
   rw [show decide (l.getD i 0 < 0 ∨ rg ≤ l.getD i 0) = true from hd] at c48
   refine ⟨.ret,.iv (.int .i64 i),.iv (.int .i64 i),.iv (.int .i64 i),.iv (.bool true),.iv (.bool true),loop_at K _ _ t42L0.eq_1 ?_,.inr ⟨rfl,List.any_eq_true.2 ⟨_,getD_mem hla,hd⟩,i,rfl⟩⟩
   simp (config := { maxSteps := 4000000 }) (disch := omega) only [go_sem,i1,c48]
  | false =>
   rw [show decide (l.getD i 0 < 0 ∨ rg ≤ l.getD i 0) = false from hd] at c48
   obtain ⟨jj,y2,y3,y5,y6,y7,ih,hj⟩ := loop42b h j l hl k (i + 1) x2 (.iv (.int .i64 i)) (.iv (.bool true)) (.iv (.bool false)) (by omega) (fun x hx => by
    rw [hts,List.mem_append,List.mem_singleton] at hx
    rcases hx with hx | rfl
    ·exact hq x hx
    ·exact hd)
   rw [show ((i + 1 : Nat) : Int) = (i : Int) + 1 by omega] at ih
   refine ⟨jj,y2,y3,y5,y6,y7,loop_at K _ _ t42L0.eq_1 ?_,hj⟩
   simp (config := { maxSteps := 4000000 }) (disch := omega) only [go_sem,i1,c48,wrap_i64]
   exact congrArg er ih
theorem call47 {fn rg sl nd pr : Int} {rs : Bool} {ti : Tag} {ins : List VI} {S : Store} (h : S[0]? = some (bxF fn rg sl nd pr rs ti ins)) (j : Nat) (l : List Int) (hl : l.length ≤ 3000000) : (lim K).call 47 [.tsl j (oneI l),.fn 48 [] [.ptr 0 25 0]] S = .ret (.iv (.bool (l.any (badR rg))),S) := by
 obtain ⟨jj,y2,y3,y5,y6,y7,l1,hj⟩ := loop42b h j l hl l.length 0 (.iv (.int .i64 0)) (.tup []) (.tup []) (.tup []) (by omega) (by simp)
 rw [show ((0 : Nat) : Int) = 0 from rfl] at l1
 have hll : (oneI l).length = l.length := oneI_len l
 rcases hj with ⟨rfl,hj⟩ | ⟨rfl,hj,q,rfl⟩
 ·have c42 : (lim K).call 42 [.tsl j (oneI l),.fn 48 [] [.ptr 0 25 0]] S = .ret (.iv (.int .i64 (-1)),S) := by
   refine call_ret' K S (fn := t42) rfl rfl ?_
   simp (config := { maxSteps := 4000000 }) (disch := omega) only [t42,go_sem,TM.undef,hll]
   rw [l1]
   simp (config := { maxSteps := 4000000 }) (disch := omega) only [go_sem]
  rw [hj]
  refine call_ret' K S (fn := t47) rfl rfl ?_
  simp (config := { maxSteps := 4000000 }) (disch := omega) only [t47,go_sem,TM.undef,c42]
 ·have c42 : (lim K).call 42 [.tsl j (oneI l),.fn 48 [] [.ptr 0 25 0]] S = .ret (.iv (.int .i64 q),S) := by
   refine call_ret' K S (fn := t42) rfl rfl ?_
   simp (config := { maxSteps := 4000000 }) (disch := omega) only [t42,go_sem,TM.undef,hll]
   rw [l1]
   simp (config := { maxSteps := 4000000 }) (disch := omega) only [go_sem]
  rw [hj]
  refine call_ret' K S (fn := t47) rfl rfl ?_
  simp (config := { maxSteps := 4000000 }) (disch := omega) only [t47,go_sem,TM.undef,c42]
theorem lkB_vI (l : List (Nat × Int × Int)) (c : Nat) (k : Int) : lkB (.leaf .int) (.int .i64 0) false (some (.mp (mpR vI l) c)) (.iv (.int .i64 k)) = some (.iv (.int .i64 (cntR l k))) := by
 rw [lkB_mp]
 simp only [cntR,Bool.false_eq_true,↓reduceIte]
 cases getR l k <;> rfl
theorem upB_vI (l : List (Nat × Int × Int)) (c : Nat) (env : Env) (S : Store) (j : Nat) (k a : Int) : upB (.leaf .int) env S j (some (.mp (mpR vI l) c)) (.iv (.int .i64 k)) (.iv (.int .i64 a)) = some (TM.undef,env,S.set j (.mp (mpR vI (putR l c k a)) (clkR l c k))) :=
 upB_mp vI l c env S j k a rfl rfl
def cntL (l : List VI) (L : Int) : Int := ((l.filter fun x => decide (x.op = 65) && decide (x.lb = L)).length : Nat)
theorem cntL_snoc (l : List VI) (x : VI) (L : Int) : cntL (l ++ [x]) L = if x.op = 65 ∧ x.lb = L then cntL l L + 1 else cntL l L := by
 unfold cntL
 rw [List.filter_append,List.length_append]
 by_cases e : x.op = 65 ∧ x.lb = L
 ·rw [if_pos e]; simp [e]
 ·rw [if_neg e]
  have : (decide (x.op = 65) && decide (x.lb = L)) = false := by
   cases h1 : (decide (x.op = 65) && decide (x.lb = L)) with
   | false => rfl
   | true => simp at h1; exact absurd h1 e
  simp [List.filter_cons,this]
theorem cntL_le (l : List VI) (L : Int) : 0 ≤ cntL l L ∧ cntL l L ≤ l.length := by
 unfold cntL
 have := List.length_filter_le (fun x : VI => decide (x.op = 65) && decide (x.lb = L)) l
 omega
theorem loop35a {fn rg sl nd pr : Int} {rs : Bool} {ti : Tag} {ins : List VI} (hn : ins.length ≤ 1000000) (x0 x1 x2 x5 x6 x7 x8 x14 x15 x16 x17 x18 x19 x20 x21 : TV) : ∀ (k i : Nat) (S : Store) (rows : List (Nat × Int × Int)) (c : Nat) (x4 x12 x13 : TV),i + k = ins.length → S[0]? = some (bxF fn rg sl nd pr rs ti ins) → S[1]? = some (.mp (mpR vI rows) c) → (∀ L,cntR rows L = cntL (ins.take i) L) →
  ∃ (S' : Store) (rows' : List (Nat × Int × Int)) (c' : Nat) (y4 y12 y13 : TV),lp' (lim K) t35L1 [x0,x1,x2,.map 1,x4,x5,x6,x7,x8,.iv (.sl ti (ins.map encV)),.iv (.int .i64 ins.length),.iv (.int .i64 i),x12,x13,x14,x15,x16,x17,x18,x19,x20,x21] S
   = .ret (.exit 0,[x0,x1,x2,.map 1,y4,x5,x6,x7,x8,.iv (.sl ti (ins.map encV)),.iv (.int .i64 ins.length),.iv (.int .i64 ins.length),y12,y13,x14,x15,x16,x17,x18,x19,x20,x21],S') ∧
   S'[0]? = some (bxF fn rg sl nd pr rs ti ins) ∧ S'[1]? = some (.mp (mpR vI rows') c') ∧ ∀ L,cntR rows' L = cntL ins L
 | 0,i,S,rows,c,x4,x12,x13,h,h0,h1,hc => by
  obtain rfl : i = ins.length := by omega
  rw [List.take_length] at hc
  refine ⟨S,rows,c,x4,.iv (.bool false),x13,loop_at K _ _ t35L1.eq_1 ?_,h0,h1,hc⟩
  simp (config := { maxSteps := 4000000 }) (disch := omega) only [go_sem]
 | k + 1,i,S,rows,c,x4,x12,x13,h,h0,h1,hc => by
  have hla : i < ins.length := by omega
  have hix := ix_map (w := 8) (f := encV) encV_len (t := ti) (l := ins) (i := (i : Int)) (by omega)
  rw [Int.toNat_natCast] at hix
  have hts : ins.take (i + 1) = ins.take i ++ [ins.getD i default] := by
   rw [List.take_add_one,List.getElem?_eq_getElem hla]
   simp [List.getD,List.getElem?_eq_getElem hla]
  have hsn := fun L => cntL_snoc (ins.take i) (ins.getD i default) L
  rw [← hts] at hsn
  have hle := cntL_le (ins.take i) (ins.getD i default).lb
  rw [List.length_take] at hle
  generalize ins.getD i default = x at *
  rw [encV_eq] at hix
  by_cases hop : x.op = 65
  ·obtain ⟨S',rows',c',y4,y12,y13,ih,hx⟩ := loop35a (fn := fn) (rg := rg) (sl := sl) (nd := nd) (pr := pr) (rs := rs) (ti := ti) hn x0 x1 x2 x5 x6 x7 x8 x14 x15 x16 x17 x18 x19 x20 x21 k (i + 1) (S.set 1 (.mp (mpR vI (putR rows c x.lb (cntR rows x.lb + 1))) (clkR rows c x.lb))) _ _ (.lb ((encV x).map .iv)) (.iv (.bool true)) (.iv (.bool true)) (by omega) (by rw [get_setN (by decide)]; exact h0) (get_setS (lt_get h1) _) (fun L => by
    rw [hsn L]
    unfold cntR
    rw [getR_put]
    by_cases e : x.lb = L
    ·subst e
     rw [if_pos rfl,if_pos ⟨hop,rfl⟩,← hc]; rfl
    ·rw [if_neg e,if_neg (fun h => e h.2),← hc]; rfl)
   rw [show ((i + 1 : Nat) : Int) = (i : Int) + 1 by omega,encV_tv] at ih
   refine ⟨S',rows',c',y4,y12,y13,loop_at K _ _ t35L1.eq_1 ?_,hx⟩
   have hc2 := hc x.lb
   have hw : IntKind.i64.wrap (cntR rows x.lb + 1) = cntR rows x.lb + 1 := wrap_i64 (by omega)
   simp (config := { maxSteps := 4000000 }) (disch := omega) only [go_sem,hix,h1,lkB_vI,upB_vI,hw,wrap_i64]
   exact congrArg er ih
  ·obtain ⟨S',rows',c',y4,y12,y13,ih,hx⟩ := loop35a (fn := fn) (rg := rg) (sl := sl) (nd := nd) (pr := pr) (rs := rs) (ti := ti) hn x0 x1 x2 x5 x6 x7 x8 x14 x15 x16 x17 x18 x19 x20 x21 k (i + 1) S rows c (.lb ((encV x).map .iv)) (.iv (.bool true)) (.iv (.bool false)) (by omega) h0 h1 (fun L => by
    rw [hsn L,if_neg (fun h => hop h.1)]; exact hc L)
   rw [show ((i + 1 : Nat) : Int) = (i : Int) + 1 by omega,encV_tv] at ih
   refine ⟨S',rows',c',y4,y12,y13,loop_at K _ _ t35L1.eq_1 ?_,hx⟩
   simp (config := { maxSteps := 4000000 }) (disch := omega) only [go_sem,hix,wrap_i64]
   exact congrArg er ih
def regsOf (x : VI) : List Int := x.a :: x.b :: x.us ++ (if x.op ≠ 67 ∨ 0 ≤ x.d then [x.d] else [])
def goesX (x : VI) : Bool := decide (26 ≤ x.op ∧ x.op ≤ 31) || decide (x.op = 66) || decide (x.op = 65)
def badI (rg : Int) (ins : List VI) (x : VI) : Bool := !formedM x.op x.im || ((regsOf x).any (badR rg) || (goesX x && decide (cntL ins x.lb ≠ 1)))
theorem loop35b {fn rg sl nd pr : Int} {rs : Bool} {ti : Tag} {ins : List VI} (hn : ins.length ≤ 1000000) (hus : ∀ x ∈ ins,x.us.length ≤ 999990 ∧ TagOk x.tu x.us) {rows : List (Nat × Int × Int)} {c : Nat} (hc : ∀ L,cntR rows L = cntL ins L) (x0 x4 x8 x9 x10 x11 x12 x13 x20 x21 : TV) : ∀ (k i : Nat) (S : Store) (x2 x5 x6 x7 x17 x18 x19 : TV),i + k = ins.length → S[0]? = some (bxF fn rg sl nd pr rs ti ins) → S[1]? = some (.mp (mpR vI rows) c) →
  ∃ (S' : Store) (jj : Jump) (y2 y5 y6 y7 y16 y17 y18 y19 : TV),lp' (lim K) t35L0 [x0,.ptr 0 25 0,x2,.map 1,x4,x5,x6,x7,x8,x9,x10,x11,x12,x13,.iv (.sl ti (ins.map encV)),.iv (.int .i64 ins.length),.iv (.int .i64 i),x17,x18,x19,x20,x21] S
   = .ret (jj,[x0,.ptr 0 25 0,y2,.map 1,x4,y5,y6,y7,x8,x9,x10,x11,x12,x13,.iv (.sl ti (ins.map encV)),.iv (.int .i64 ins.length),y16,y17,y18,y19,x20,x21],S') ∧
   S'[0]? = some (bxF fn rg sl nd pr rs ti ins) ∧ (jj = .exit 2 ∧ (ins.drop i).any (badI rg ins) = false ∨ jj = .ret ∧ y2 = .iv (.int .i64 2) ∧ (ins.drop i).any (badI rg ins) = true)
 | 0,i,S,x2,x5,x6,x7,x17,x18,x19,h,h0,h1 => by
  obtain rfl : i = ins.length := by omega
  rw [List.drop_length]
  refine ⟨S,.exit 2,x2,x5,x6,x7,.iv (.int .i64 ins.length),.iv (.bool false),x18,x19,loop_at K _ _ t35L0.eq_1 ?_,h0,.inl ⟨rfl,rfl⟩⟩
  simp (config := { maxSteps := 4000000 }) (disch := omega) only [go_sem]
 | k + 1,i,S,x2,x5,x6,x7,x17,x18,x19,h,h0,h1 => by
  have hla : i < ins.length := by omega
  have hix := ix_map (w := 8) (f := encV) encV_len (t := ti) (l := ins) (i := (i : Int)) (by omega)
  rw [Int.toNat_natCast] at hix
  have hdr := drop_get hla
  obtain ⟨hu1,hu2⟩ := hus (ins.getD i default) (by simp only [List.getD,List.getElem?_eq_getElem hla,Option.getD_some]; exact List.getElem_mem _)
  have c46 := call46 (ins.getD i default)
  have ihs := fun S x2 x5 x6 x7 x17 x18 x19 => loop35b (fn := fn) (rg := rg) (sl := sl) (nd := nd) (pr := pr) (rs := rs) (ti := ti) (c := c) hn hus hc x0 x4 x8 x9 x10 x11 x12 x13 x20 x21 k (i + 1) S x2 x5 x6 x7 x17 x18 x19 (by omega)
  rw [hdr,List.any_cons]
  have hcx := hc (ins.getD i default).lb
  generalize ins.getD i default = x at *
  have c45 := call45 [(.full,[x.a,x.b]),(x.tu,x.us)] (by simp) (show 0 < 2 + (x.us.length + 0) by omega) (show 2 + (x.us.length + 0) ≤ 2000000 by omega) S
  have hcat : catL [(.full,[x.a,x.b]),(x.tu,x.us)] = x.a :: x.b :: x.us := by simp [catL]
  rw [hcat,show [((.full : Tag),[x.a,x.b]),(x.tu,x.us)].map encP = [[.sl .full [[.int .i64 x.a],[.int .i64 x.b]]],[.sl x.tu (TM.one (.int .i64) x.us)]] from rfl] at c45
  have hS1 : (S ++ [Block.tok (x.a :: x.b :: x.us).length 1 3])[S.length]? = some (.tok (x.a :: x.b :: x.us).length 1 3) := by simp
  have ha := ap_t (ys := [x.d]) (t := .full) hS1 (by simp; omega)
  rw [show oneI [x.d] = [[.int .i64 x.d]] from rfl] at ha
  have k1 : Keep [] S (S ++ [Block.tok (x.a :: x.b :: x.us).length 1 3]) := Keep.app _ _ _
  have n0 : 0 < S.length := lt_get h0
  have n1 : 1 < S.length := lt_get h1
  have z0 := get_appO h0 [Block.tok (x.a :: x.b :: x.us).length 1 3]
  have z1 := get_appO h1 [Block.tok (x.a :: x.b :: x.us).length 1 3]
  have z0' : ((S ++ [Block.tok (x.a :: x.b :: x.us).length 1 3]).set S.length (Block.tok ((x.a :: x.b :: x.us).length + [x.d].length) 1 3))[0]? = some (bxF fn rg sl nd pr rs ti ins) := by rw [get_setN (by omega)]; exact z0
  have z1' : ((S ++ [Block.tok (x.a :: x.b :: x.us).length 1 3]).set S.length (Block.tok ((x.a :: x.b :: x.us).length + [x.d].length) 1 3))[1]? = some (.mp (mpR vI rows) c) := by rw [get_setN (by omega)]; exact z1
  have c47 := call47 z0 S.length (x.a :: x.b :: x.us) (by simp; omega)
  have c47' := call47 z0' S.length ((x.a :: x.b :: x.us) ++ [x.d]) (by simp; omega)
  rw [encV_eq] at hix c46
  have hbad : badI rg ins x = (!formedM x.op x.im || ((regsOf x).any (badR rg) || (goesX x && decide (cntL ins x.lb ≠ 1)))) := rfl
  rw [hbad]
  generalize hfm : formedM x.op x.im = fm at *
  generalize hcn : cntL ins x.lb = cn at *
  generalize hR1 : (x.a :: x.b :: x.us : List Int) = R1 at *
  generalize hT1 : S ++ [Block.tok R1.length 1 3] = T1 at *
  generalize hT2 : T1.set S.length (.tok (R1.length + [x.d].length) 1 3) = T2 at *
  by_cases hA : x.op = 67 ∧ x.d < 0
  ·obtain ⟨hA1,hA2⟩ := hA
   have hr : regsOf x = R1 := by rw [← hR1]; unfold regsOf; rw [if_neg (by omega),List.append_nil]
   have hg : goesX x = false := by unfold goesX; simp; omega
   rw [hr,hg]
   generalize (R1).any (badR rg) = an at *
   cases fm with
   | false =>
    refine ⟨T1,.ret,.iv (.int .i64 2),.lb ((encV x).map .iv),.tsl S.length (oneI (R1)),.iv (.bool false),.iv (.int .i64 i),.iv (.bool true),.iv (.bool false),.iv (.bool true),loop_at K _ _ t35L0.eq_1 ?_,z0,.inr ⟨rfl,rfl,rfl⟩⟩
    rw [encV_tv]
    simp (config := { maxSteps := 4000000 }) (disch := omega) only [go_sem,hix,c45,ha,cpR_pure c46,z1,lkB_vI,c47,hcx,wrap_i64]
   | true =>
    cases an with
    | true =>
     refine ⟨T1,.ret,.iv (.int .i64 2),.lb ((encV x).map .iv),.tsl S.length (oneI (R1)),.iv (.bool false),.iv (.int .i64 i),.iv (.bool true),.iv (.bool false),.iv (.bool true),loop_at K _ _ t35L0.eq_1 ?_,z0,.inr ⟨rfl,rfl,rfl⟩⟩
     rw [encV_tv]
     simp (config := { maxSteps := 4000000 }) (disch := omega) only [go_sem,hix,c45,ha,cpR_pure c46,z1,lkB_vI,c47,hcx,wrap_i64]
    | false =>
     obtain ⟨S',jj,y2,y5,y6,y7,y16,y17,y18,y19,ih,hz,hj⟩ := ihs T1 x2 (.lb ((encV x).map .iv)) (.tsl S.length (oneI (R1))) (.iv (.bool false)) (.iv (.bool true)) (.iv (.bool false)) (.iv (.bool false)) z0 z1
     rw [show ((i + 1 : Nat) : Int) = (i : Int) + 1 by omega,encV_tv] at ih
     refine ⟨S',jj,y2,y5,y6,y7,y16,y17,y18,y19,loop_at K _ _ t35L0.eq_1 ?_,hz,?_⟩
     ·simp (config := { maxSteps := 4000000 }) (disch := omega) only [go_sem,hix,c45,ha,cpR_pure c46,z1,lkB_vI,c47,hcx,wrap_i64]
      exact congrArg er ih
     ·simpa  using hj
  ·have hD : x.op ≠ 67 ∨ 0 ≤ x.d := by omega
   by_cases hB : x.op = 67
   ·have hB2 : 0 ≤ x.d := by omega
    have hr : regsOf x = R1 ++ [x.d] := by rw [← hR1]; unfold regsOf; rw [if_pos hD]
    have hg : goesX x = false := by unfold goesX; simp; omega
    rw [hr,hg]
    generalize (R1 ++ [x.d]).any (badR rg) = an at *
    cases fm with
    | false =>
     refine ⟨T2,.ret,.iv (.int .i64 2),.lb ((encV x).map .iv),.tsl S.length (oneI (R1 ++ [x.d])),.iv (.bool false),.iv (.int .i64 i),.iv (.bool true),.iv (.bool true),.iv (.bool true),loop_at K _ _ t35L0.eq_1 ?_,z0',.inr ⟨rfl,rfl,rfl⟩⟩
     rw [encV_tv]
     simp (config := { maxSteps := 4000000 }) (disch := omega) only [go_sem,hix,c45,ha,cpR_pure c46,z1',lkB_vI,c47',hcx,wrap_i64]
    | true =>
     cases an with
     | true =>
      refine ⟨T2,.ret,.iv (.int .i64 2),.lb ((encV x).map .iv),.tsl S.length (oneI (R1 ++ [x.d])),.iv (.bool false),.iv (.int .i64 i),.iv (.bool true),.iv (.bool true),.iv (.bool true),loop_at K _ _ t35L0.eq_1 ?_,z0',.inr ⟨rfl,rfl,rfl⟩⟩
      rw [encV_tv]
      simp (config := { maxSteps := 4000000 }) (disch := omega) only [go_sem,hix,c45,ha,cpR_pure c46,z1',lkB_vI,c47',hcx,wrap_i64]
     | false =>
      obtain ⟨S',jj,y2,y5,y6,y7,y16,y17,y18,y19,ih,hz,hj⟩ := ihs T2 x2 (.lb ((encV x).map .iv)) (.tsl S.length (oneI (R1 ++ [x.d]))) (.iv (.bool false)) (.iv (.bool true)) (.iv (.bool true)) (.iv (.bool false)) z0' z1'
      rw [show ((i + 1 : Nat) : Int) = (i : Int) + 1 by omega,encV_tv] at ih
      refine ⟨S',jj,y2,y5,y6,y7,y16,y17,y18,y19,loop_at K _ _ t35L0.eq_1 ?_,hz,?_⟩
      ·simp (config := { maxSteps := 4000000 }) (disch := omega) only [go_sem,hix,c45,ha,cpR_pure c46,z1',lkB_vI,c47',hcx,wrap_i64]
       exact congrArg er ih
      ·simpa  using hj
   ·rcases (by omega : x.op < 26 ∨ (26 ≤ x.op ∧ x.op ≤ 31) ∨ (31 < x.op ∧ x.op < 65) ∨ x.op = 65 ∨ x.op = 66 ∨ 67 < x.op) with hC | hC | hC | hC | hC | hC
    ·have hr : regsOf x = R1 ++ [x.d] := by rw [← hR1]; unfold regsOf; rw [if_pos hD]
     have hg : goesX x = false := by unfold goesX; simp; omega
     rw [hr,hg]
     generalize (R1 ++ [x.d]).any (badR rg) = an at *
     cases fm with
     | false =>
      refine ⟨T2,.ret,.iv (.int .i64 2),.lb ((encV x).map .iv),.tsl S.length (oneI (R1 ++ [x.d])),.iv (.bool false),.iv (.int .i64 i),.iv (.bool true),.iv (.bool true),.iv (.bool true),loop_at K _ _ t35L0.eq_1 ?_,z0',.inr ⟨rfl,rfl,rfl⟩⟩
      rw [encV_tv]
      simp (config := { maxSteps := 4000000 }) (disch := omega) only [go_sem,hix,c45,ha,cpR_pure c46,z1',lkB_vI,c47',hcx,wrap_i64]
     | true =>
      cases an with
      | true =>
       refine ⟨T2,.ret,.iv (.int .i64 2),.lb ((encV x).map .iv),.tsl S.length (oneI (R1 ++ [x.d])),.iv (.bool false),.iv (.int .i64 i),.iv (.bool true),.iv (.bool true),.iv (.bool true),loop_at K _ _ t35L0.eq_1 ?_,z0',.inr ⟨rfl,rfl,rfl⟩⟩
       rw [encV_tv]
       simp (config := { maxSteps := 4000000 }) (disch := omega) only [go_sem,hix,c45,ha,cpR_pure c46,z1',lkB_vI,c47',hcx,wrap_i64]
      | false =>
       obtain ⟨S',jj,y2,y5,y6,y7,y16,y17,y18,y19,ih,hz,hj⟩ := ihs T2 x2 (.lb ((encV x).map .iv)) (.tsl S.length (oneI (R1 ++ [x.d]))) (.iv (.bool false)) (.iv (.bool true)) (.iv (.bool true)) (.iv (.bool false)) z0' z1'
       rw [show ((i + 1 : Nat) : Int) = (i : Int) + 1 by omega,encV_tv] at ih
       refine ⟨S',jj,y2,y5,y6,y7,y16,y17,y18,y19,loop_at K _ _ t35L0.eq_1 ?_,hz,?_⟩
       ·simp (config := { maxSteps := 4000000 }) (disch := omega) only [go_sem,hix,c45,ha,cpR_pure c46,z1',lkB_vI,c47',hcx,wrap_i64]
        exact congrArg er ih
       ·simpa  using hj
    ·have hr : regsOf x = R1 ++ [x.d] := by rw [← hR1]; unfold regsOf; rw [if_pos hD]
     have hg : goesX x = true := by unfold goesX; simp; omega
     rw [hr,hg]
     generalize (R1 ++ [x.d]).any (badR rg) = an at *
     cases fm with
     | false =>
      refine ⟨T2,.ret,.iv (.int .i64 2),.lb ((encV x).map .iv),.tsl S.length (oneI (R1 ++ [x.d])),.iv (.bool true),.iv (.int .i64 i),.iv (.bool true),.iv (.bool true),.iv (.bool true),loop_at K _ _ t35L0.eq_1 ?_,z0',.inr ⟨rfl,rfl,rfl⟩⟩
      rw [encV_tv]
      simp (config := { maxSteps := 4000000 }) (disch := omega) only [go_sem,hix,c45,ha,cpR_pure c46,z1',lkB_vI,c47',hcx,wrap_i64]
     | true =>
      cases an with
      | true =>
       refine ⟨T2,.ret,.iv (.int .i64 2),.lb ((encV x).map .iv),.tsl S.length (oneI (R1 ++ [x.d])),.iv (.bool true),.iv (.int .i64 i),.iv (.bool true),.iv (.bool true),.iv (.bool true),loop_at K _ _ t35L0.eq_1 ?_,z0',.inr ⟨rfl,rfl,rfl⟩⟩
       rw [encV_tv]
       simp (config := { maxSteps := 4000000 }) (disch := omega) only [go_sem,hix,c45,ha,cpR_pure c46,z1',lkB_vI,c47',hcx,wrap_i64]
      | false =>
       by_cases hc1 : cn = 1
       ·subst hc1
        obtain ⟨S',jj,y2,y5,y6,y7,y16,y17,y18,y19,ih,hz,hj⟩ := ihs T2 x2 (.lb ((encV x).map .iv)) (.tsl S.length (oneI (R1 ++ [x.d]))) (.iv (.bool true)) (.iv (.bool true)) (.iv (.bool true)) (.iv (.bool false)) z0' z1'
        rw [show ((i + 1 : Nat) : Int) = (i : Int) + 1 by omega,encV_tv] at ih
        refine ⟨S',jj,y2,y5,y6,y7,y16,y17,y18,y19,loop_at K _ _ t35L0.eq_1 ?_,hz,?_⟩
        ·simp (config := { maxSteps := 4000000 }) (disch := omega) only [go_sem,hix,c45,ha,cpR_pure c46,z1',lkB_vI,c47',hcx,wrap_i64]
         exact congrArg er ih
        ·simpa  using hj
       ·refine ⟨T2,.ret,.iv (.int .i64 2),.lb ((encV x).map .iv),.tsl S.length (oneI (R1 ++ [x.d])),.iv (.bool true),.iv (.int .i64 i),.iv (.bool true),.iv (.bool true),.iv (.bool true),loop_at K _ _ t35L0.eq_1 ?_,z0',.inr ⟨rfl,rfl,by simp [hc1]⟩⟩
        rw [encV_tv]
        simp (config := { maxSteps := 4000000 }) (disch := omega) only [go_sem,hix,c45,ha,cpR_pure c46,z1',lkB_vI,c47',hcx,wrap_i64]
    ·have hr : regsOf x = R1 ++ [x.d] := by rw [← hR1]; unfold regsOf; rw [if_pos hD]
     have hg : goesX x = false := by unfold goesX; simp; omega
     rw [hr,hg]
     generalize (R1 ++ [x.d]).any (badR rg) = an at *
     cases fm with
     | false =>
      refine ⟨T2,.ret,.iv (.int .i64 2),.lb ((encV x).map .iv),.tsl S.length (oneI (R1 ++ [x.d])),.iv (.bool false),.iv (.int .i64 i),.iv (.bool true),.iv (.bool true),.iv (.bool true),loop_at K _ _ t35L0.eq_1 ?_,z0',.inr ⟨rfl,rfl,rfl⟩⟩
      rw [encV_tv]
      simp (config := { maxSteps := 4000000 }) (disch := omega) only [go_sem,hix,c45,ha,cpR_pure c46,z1',lkB_vI,c47',hcx,wrap_i64]
     | true =>
      cases an with
      | true =>
       refine ⟨T2,.ret,.iv (.int .i64 2),.lb ((encV x).map .iv),.tsl S.length (oneI (R1 ++ [x.d])),.iv (.bool false),.iv (.int .i64 i),.iv (.bool true),.iv (.bool true),.iv (.bool true),loop_at K _ _ t35L0.eq_1 ?_,z0',.inr ⟨rfl,rfl,rfl⟩⟩
       rw [encV_tv]
       simp (config := { maxSteps := 4000000 }) (disch := omega) only [go_sem,hix,c45,ha,cpR_pure c46,z1',lkB_vI,c47',hcx,wrap_i64]
      | false =>
       obtain ⟨S',jj,y2,y5,y6,y7,y16,y17,y18,y19,ih,hz,hj⟩ := ihs T2 x2 (.lb ((encV x).map .iv)) (.tsl S.length (oneI (R1 ++ [x.d]))) (.iv (.bool false)) (.iv (.bool true)) (.iv (.bool true)) (.iv (.bool false)) z0' z1'
       rw [show ((i + 1 : Nat) : Int) = (i : Int) + 1 by omega,encV_tv] at ih
       refine ⟨S',jj,y2,y5,y6,y7,y16,y17,y18,y19,loop_at K _ _ t35L0.eq_1 ?_,hz,?_⟩
       ·simp (config := { maxSteps := 4000000 }) (disch := omega) only [go_sem,hix,c45,ha,cpR_pure c46,z1',lkB_vI,c47',hcx,wrap_i64]
        exact congrArg er ih
       ·simpa  using hj
    ·have hr : regsOf x = R1 ++ [x.d] := by rw [← hR1]; unfold regsOf; rw [if_pos hD]
     have hg : goesX x = true := by unfold goesX; simp; omega
     rw [hr,hg]
     generalize (R1 ++ [x.d]).any (badR rg) = an at *
     cases fm with
     | false =>
      refine ⟨T2,.ret,.iv (.int .i64 2),.lb ((encV x).map .iv),.tsl S.length (oneI (R1 ++ [x.d])),.iv (.bool true),.iv (.int .i64 i),.iv (.bool true),.iv (.bool true),.iv (.bool true),loop_at K _ _ t35L0.eq_1 ?_,z0',.inr ⟨rfl,rfl,rfl⟩⟩
      rw [encV_tv]
      simp (config := { maxSteps := 4000000 }) (disch := omega) only [go_sem,hix,c45,ha,cpR_pure c46,z1',lkB_vI,c47',hcx,wrap_i64]
     | true =>
      cases an with
      | true =>
       refine ⟨T2,.ret,.iv (.int .i64 2),.lb ((encV x).map .iv),.tsl S.length (oneI (R1 ++ [x.d])),.iv (.bool true),.iv (.int .i64 i),.iv (.bool true),.iv (.bool true),.iv (.bool true),loop_at K _ _ t35L0.eq_1 ?_,z0',.inr ⟨rfl,rfl,rfl⟩⟩
       rw [encV_tv]
       simp (config := { maxSteps := 4000000 }) (disch := omega) only [go_sem,hix,c45,ha,cpR_pure c46,z1',lkB_vI,c47',hcx,wrap_i64]
      | false =>
       by_cases hc1 : cn = 1
       ·subst hc1
        obtain ⟨S',jj,y2,y5,y6,y7,y16,y17,y18,y19,ih,hz,hj⟩ := ihs T2 x2 (.lb ((encV x).map .iv)) (.tsl S.length (oneI (R1 ++ [x.d]))) (.iv (.bool true)) (.iv (.bool true)) (.iv (.bool true)) (.iv (.bool false)) z0' z1'
        rw [show ((i + 1 : Nat) : Int) = (i : Int) + 1 by omega,encV_tv] at ih
        refine ⟨S',jj,y2,y5,y6,y7,y16,y17,y18,y19,loop_at K _ _ t35L0.eq_1 ?_,hz,?_⟩
        ·simp (config := { maxSteps := 4000000 }) (disch := omega) only [go_sem,hix,c45,ha,cpR_pure c46,z1',lkB_vI,c47',hcx,wrap_i64]
         exact congrArg er ih
        ·simpa  using hj
       ·refine ⟨T2,.ret,.iv (.int .i64 2),.lb ((encV x).map .iv),.tsl S.length (oneI (R1 ++ [x.d])),.iv (.bool true),.iv (.int .i64 i),.iv (.bool true),.iv (.bool true),.iv (.bool true),loop_at K _ _ t35L0.eq_1 ?_,z0',.inr ⟨rfl,rfl,by simp [hc1]⟩⟩
        rw [encV_tv]
        simp (config := { maxSteps := 4000000 }) (disch := omega) only [go_sem,hix,c45,ha,cpR_pure c46,z1',lkB_vI,c47',hcx,wrap_i64]
    ·have hr : regsOf x = R1 ++ [x.d] := by rw [← hR1]; unfold regsOf; rw [if_pos hD]
     have hg : goesX x = true := by unfold goesX; simp; omega
     rw [hr,hg]
     generalize (R1 ++ [x.d]).any (badR rg) = an at *
     cases fm with
     | false =>
      refine ⟨T2,.ret,.iv (.int .i64 2),.lb ((encV x).map .iv),.tsl S.length (oneI (R1 ++ [x.d])),.iv (.bool true),.iv (.int .i64 i),.iv (.bool true),.iv (.bool true),.iv (.bool true),loop_at K _ _ t35L0.eq_1 ?_,z0',.inr ⟨rfl,rfl,rfl⟩⟩
      rw [encV_tv]
      simp (config := { maxSteps := 4000000 }) (disch := omega) only [go_sem,hix,c45,ha,cpR_pure c46,z1',lkB_vI,c47',hcx,wrap_i64]
     | true =>
      cases an with
      | true =>
       refine ⟨T2,.ret,.iv (.int .i64 2),.lb ((encV x).map .iv),.tsl S.length (oneI (R1 ++ [x.d])),.iv (.bool true),.iv (.int .i64 i),.iv (.bool true),.iv (.bool true),.iv (.bool true),loop_at K _ _ t35L0.eq_1 ?_,z0',.inr ⟨rfl,rfl,rfl⟩⟩
       rw [encV_tv]
       simp (config := { maxSteps := 4000000 }) (disch := omega) only [go_sem,hix,c45,ha,cpR_pure c46,z1',lkB_vI,c47',hcx,wrap_i64]
      | false =>
       by_cases hc1 : cn = 1
       ·subst hc1
        obtain ⟨S',jj,y2,y5,y6,y7,y16,y17,y18,y19,ih,hz,hj⟩ := ihs T2 x2 (.lb ((encV x).map .iv)) (.tsl S.length (oneI (R1 ++ [x.d]))) (.iv (.bool true)) (.iv (.bool true)) (.iv (.bool true)) (.iv (.bool false)) z0' z1'
        rw [show ((i + 1 : Nat) : Int) = (i : Int) + 1 by omega,encV_tv] at ih
        refine ⟨S',jj,y2,y5,y6,y7,y16,y17,y18,y19,loop_at K _ _ t35L0.eq_1 ?_,hz,?_⟩
        ·simp (config := { maxSteps := 4000000 }) (disch := omega) only [go_sem,hix,c45,ha,cpR_pure c46,z1',lkB_vI,c47',hcx,wrap_i64]
         exact congrArg er ih
        ·simpa  using hj
       ·refine ⟨T2,.ret,.iv (.int .i64 2),.lb ((encV x).map .iv),.tsl S.length (oneI (R1 ++ [x.d])),.iv (.bool true),.iv (.int .i64 i),.iv (.bool true),.iv (.bool true),.iv (.bool true),loop_at K _ _ t35L0.eq_1 ?_,z0',.inr ⟨rfl,rfl,by simp [hc1]⟩⟩
        rw [encV_tv]
        simp (config := { maxSteps := 4000000 }) (disch := omega) only [go_sem,hix,c45,ha,cpR_pure c46,z1',lkB_vI,c47',hcx,wrap_i64]
    ·have hr : regsOf x = R1 ++ [x.d] := by rw [← hR1]; unfold regsOf; rw [if_pos hD]
     have hg : goesX x = false := by unfold goesX; simp; omega
     rw [hr,hg]
     generalize (R1 ++ [x.d]).any (badR rg) = an at *
     cases fm with
     | false =>
      refine ⟨T2,.ret,.iv (.int .i64 2),.lb ((encV x).map .iv),.tsl S.length (oneI (R1 ++ [x.d])),.iv (.bool false),.iv (.int .i64 i),.iv (.bool true),.iv (.bool true),.iv (.bool true),loop_at K _ _ t35L0.eq_1 ?_,z0',.inr ⟨rfl,rfl,rfl⟩⟩
      rw [encV_tv]
      simp (config := { maxSteps := 4000000 }) (disch := omega) only [go_sem,hix,c45,ha,cpR_pure c46,z1',lkB_vI,c47',hcx,wrap_i64]
     | true =>
      cases an with
      | true =>
       refine ⟨T2,.ret,.iv (.int .i64 2),.lb ((encV x).map .iv),.tsl S.length (oneI (R1 ++ [x.d])),.iv (.bool false),.iv (.int .i64 i),.iv (.bool true),.iv (.bool true),.iv (.bool true),loop_at K _ _ t35L0.eq_1 ?_,z0',.inr ⟨rfl,rfl,rfl⟩⟩
       rw [encV_tv]
       simp (config := { maxSteps := 4000000 }) (disch := omega) only [go_sem,hix,c45,ha,cpR_pure c46,z1',lkB_vI,c47',hcx,wrap_i64]
      | false =>
       obtain ⟨S',jj,y2,y5,y6,y7,y16,y17,y18,y19,ih,hz,hj⟩ := ihs T2 x2 (.lb ((encV x).map .iv)) (.tsl S.length (oneI (R1 ++ [x.d]))) (.iv (.bool false)) (.iv (.bool true)) (.iv (.bool true)) (.iv (.bool false)) z0' z1'
       rw [show ((i + 1 : Nat) : Int) = (i : Int) + 1 by omega,encV_tv] at ih
       refine ⟨S',jj,y2,y5,y6,y7,y16,y17,y18,y19,loop_at K _ _ t35L0.eq_1 ?_,hz,?_⟩
       ·simp (config := { maxSteps := 4000000 }) (disch := omega) only [go_sem,hix,c45,ha,cpR_pure c46,z1',lkB_vI,c47',hcx,wrap_i64]
        exact congrArg er ih
       ·simpa  using hj
end Go.Proofs.YtehlgnfhkidgoaaDoor
