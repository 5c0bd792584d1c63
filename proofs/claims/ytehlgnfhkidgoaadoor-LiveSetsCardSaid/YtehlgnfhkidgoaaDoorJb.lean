/- Some texts of the proof, joined. Condition: none. -/
import Derived.Test.YtehlgnfhkidgoaaDoorJa
import Derived.Test.YtehlgnfhkidgoaaDoorTmF
set_option maxRecDepth 100000
set_option maxHeartbeats 64000000
set_option linter.unusedSimpArgs false
set_option linter.unusedVariables false
namespace Go.Proofs.YtehlgnfhkidgoaaDoor
open Go Go.TM
theorem sN0 (S : Store) (a x : Block) (r : Store) : (S ++ a :: r).set S.length x = S ++ x :: r := by rw [List.set_append_right _ _ (by omega)]; simp
attribute [go_sem] sN0
theorem FP.step {S T : Store} {f : VF} {lb lb' : List (Nat × Int × Int)} {n m i : Nat} {ia oa ua da : Nat → Nat} {I O U D : Nat → List Nat} (h : FP S f lb n m i ia oa ua da I O U D) (k : Keep LOW S T) (hl : S.length ≤ T.length) (t1 : T[1]? = S[1]?) (t2 : T[2]? = S[2]?) (t3 : T[3]? = S[3]?) (t4 : T[4]? = S[4]?) (t5 : T[5]? = S[5]?) (t0 : ∃ c,T[0]? = some (.mp (mpR boxI lb') c)) (hlb : ∀ L,getR lb' L = firstL (f.ins.take (i + 1)) L)
  {WU WD WI WO : List Nat} (w1 : WOK m WU) (w2 : WOK m WD) (w3 : WOK m WI) (w4 : WOK m WO) (u1 : ∀ r : Nat,bit WU r = true ↔ (r : Int) ∈ usesM (f.ins.getD i default) ∧ r < f.regs) (u2 : ∀ r : Nat,bit WD r = true ↔ (r : Int) ∈ defsM (f.ins.getD i default) ∧ r < f.regs) (u3 : ∀ r,bit WI r = false) {r1 r2 r4 r5 : Block}
  (e1 : r1 = .cells 0 false (cF n (upd (fun q => if q < i then .msl (ia q) 0 0 m m 1 else .iv (.sl .nil [])) i (.msl (T.length + 2) 0 0 m m 1)))) (e2 : r2 = .cells 0 false (cF n (upd (fun q => if q < i then .msl (oa q) 0 0 m m 1 else .iv (.sl .nil [])) i (.msl (T.length + 3) 0 0 m m 1))))
  (e4 : r4 = .cells 0 false (cF n (upd (fun q => if q < i then .msl (ua q) 0 0 m m 1 else .iv (.sl .nil [])) i (.msl T.length 0 0 m m 1)))) (e5 : r5 = .cells 0 false (cF n (upd (fun q => if q < i then .msl (da q) 0 0 m m 1 else .iv (.sl .nil [])) i (.msl (T.length + 1) 0 0 m m 1)))) :
  FP (lay4 T r1 r2 r4 r5 (.cells 0 false (WU.map uI)) (.cells 0 false (WD.map uI)) (.cells 0 false (WI.map uI)) (.cells 0 false (WO.map uI))) f lb' n m (i + 1) (upd ia i (T.length + 2)) (upd oa i (T.length + 3)) (upd ua i T.length) (upd da i (T.length + 1)) (upd I i WI) (upd O i WO) (upd U i WU) (upd D i WD) := by
 have h6 : 6 ≤ T.length := by have := h.len; omega
 obtain ⟨a0,a3,a1,a2,a4,a5⟩ := lay4_low r1 r2 r4 r5 (.cells 0 false (WU.map uI)) (.cells 0 false (WD.map uI)) (.cells 0 false (WI.map uI)) (.cells 0 false (WO.map uI)) h6
 obtain ⟨n1,n2,n3,n4⟩ := lay4_new r1 r2 r4 r5 (.cells 0 false (WU.map uI)) (.cells 0 false (WD.map uI)) (.cells 0 false (WI.map uI)) (.cells 0 false (WO.map uI)) h6
 have hk := k.trans (lay4_keep r1 r2 r4 r5 (.cells 0 false (WU.map uI)) (.cells 0 false (WD.map uI)) (.cells 0 false (WI.map uI)) (.cells 0 false (WO.map uI)) h6)
 have hlen := lay4_len T r1 r2 r4 r5 (.cells 0 false (WU.map uI)) (.cells 0 false (WD.map uI)) (.cells 0 false (WI.map uI)) (.cells 0 false (WO.map uI))
 generalize lay4 T r1 r2 r4 r5 (.cells 0 false (WU.map uI)) (.cells 0 false (WD.map uI)) (.cells 0 false (WI.map uI)) (.cells 0 false (WO.map uI)) = X at *
 refine ⟨?_,hlb,h.inn.step hk (by omega) w3 (by rw [a1,e1]) n3,h.out.step hk (by omega) w4 (by rw [a2,e2]) n4,h.us.step hk (by omega) w1 (by rw [a4,e4]) n1,h.ds.step hk (by omega) w2 (by rw [a5,e5]) n2,by rw [a3,t3]; exact h.flw,by omega,fun q r hq => ?_,fun q r hq => ?_,fun q r hq => ?_⟩
 ·rw [a0]; exact t0
 ·unfold upd; split
  ·exact u3 r
  ·exact h.zer q r (by omega)
 ·unfold upd; split
  ·subst_vars; exact u1 r
  ·exact h.use q r (by omega)
 ·unfold upd; split
  ·subst_vars; exact u2 r
  ·exact h.dfn q r (by omega)
theorem loop25c {f : VF} {n m : Nat} (hm : (f.regs + 63) / 64 = m) (hr : f.regs ≤ 1000000) (hn : n ≤ 1000000) (hfn : f.ins.length = n) (hus : ∀ x ∈ f.ins,x.us.length ≤ 999990 ∧ TagOk x.tu x.us) (x0 x2 x3 x4 x13 x14 x15 x21 x22 : TV) : ∀ (k i : Nat) (S : Store) (lb : List (Nat × Int × Int)) (ia oa ua da : Nat → Nat) (I O U D : Nat → List Nat) (x9 x10 x11 x12 x19 x20 : TV),i + k = n →
  FP S f lb n m i ia oa ua da I O U D →
  ∃ (S' : Store) (lb' : List (Nat × Int × Int)) (ia' oa' ua' da' : Nat → Nat) (I' O' U' D' : Nat → List Nat) (y9 y10 y11 y12 y19 y20 : TV),lp' (lim K) t25L2 [x0,.lb ((encF f).map .iv),x2,x3,x4,.iv (.int .i64 n),.ptr 3 54 0,.msl 4 0 0 n n 1,.msl 5 0 0 n n 1,x9,x10,x11,x12,x13,x14,x15,.iv (.sl f.ti (f.ins.map encV)),.iv (.int .i64 n),.iv (.int .i64 i),x19,x20,x21,x22] S
   = .ret (.exit 0,[x0,.lb ((encF f).map .iv),x2,x3,x4,.iv (.int .i64 n),.ptr 3 54 0,.msl 4 0 0 n n 1,.msl 5 0 0 n n 1,y9,y10,y11,y12,x13,x14,x15,.iv (.sl f.ti (f.ins.map encV)),.iv (.int .i64 n),.iv (.int .i64 n),y19,y20,x21,x22],S') ∧
   FP S' f lb' n m n ia' oa' ua' da' I' O' U' D'
 | 0,i,S,lb,ia,oa,ua,da,I,O,U,D,x9,x10,x11,x12,x19,x20,hk,hF => by
  obtain rfl : i = n := by omega
  refine ⟨S,lb,ia,oa,ua,da,I,O,U,D,x9,x10,x11,x12,.iv (.bool false),x20,loop_at K _ _ t25L2.eq_1 ?_,hF⟩
  simp (config := { maxSteps := 4000000 }) (disch := omega) only [go_sem]
 | k + 1,i,S,lb,ia,oa,ua,da,I,O,U,D,x9,x10,x11,x12,x19,x20,hk,hF => by
  have hin : i < n := by omega
  have hla : i < f.ins.length := by omega
  have hix := ix_map (w := 8) (f := encV) encV_len (t := f.ti) (l := f.ins) (i := (i : Int)) (by omega)
  rw [Int.toNat_natCast] at hix
  obtain ⟨hu1,hu2⟩ := hus (f.ins.getD i default) (by simp only [List.getD,List.getElem?_eq_getElem hla,Option.getD_some]; exact List.getElem_mem _)
  obtain ⟨c0,hlab⟩ := hF.lab
  have h6 := hF.len
  have hts : f.ins.take (i + 1) = f.ins.take i ++ [f.ins.getD i default] := by
   rw [List.take_add_one,List.getElem?_eq_getElem hla]
   simp [List.getD,List.getElem?_eq_getElem hla]
  have htl : (f.ins.take i).length = i := by simp; omega
  have hfs := fun L => firstL_snoc (f.ins.take i) (f.ins.getD i default) L
  simp only [← hts,htl] at hfs
  obtain ⟨tU,htU,c9⟩ := call9 (f.ins.getD i default) hu1 hu2
  obtain ⟨tD,htD,c11⟩ := call11 (f.ins.getD i default)
  have lU := usesM_len (f.ins.getD i default)
  have lD := defsM_len (f.ins.getD i default)
  have pU := usesM_pos (f.ins.getD i default)
  have pD := defsM_pos (f.ins.getD i default)
  have lf := fun T h6 g1 g2 g4 g5 b1 b2 b4 b5 b3 r1 r2 r4 r5 => lay_facts (f := f) (n := n) hm hr T h6 g1 g2 g4 g5 b1 b2 b4 b5 b3 tU tD (usesM (f.ins.getD i default)) (defsM (f.ins.getD i default)) (by omega) (by omega) pU pD r1 r2 r4 r5
  have fst := fun T lb' => FP.step (T := T) (lb' := lb') hF
  have ihs := fun S lb ia oa ua da I O U D x9 x10 x11 x12 x19 x20 => loop25c hm hr hn hfn hus x0 x2 x3 x4 x13 x14 x15 x21 x22 k (i + 1) S lb ia oa ua da I O U D x9 x10 x11 x12 x19 x20 (by omega)
  have i1 := fun j => ix_RW (j := j) (v := 0) (cap := n) hin
  have pc := fun g x => put_cF (n := n) (i := i) g x hin
  generalize hx : f.ins.getD i default = x at *
  have hnew : ∀ L,getR lb L = firstL (f.ins.take i) L := hF.lbs
  have old : ∀ (P : Block) (q : Nat),q < 6 → (S ++ [P])[q]? = S[q]? := fun P q hq => List.getElem?_append_left (by omega)
  rw [encV_eq] at hix
  by_cases hB : x.op = 65 ∧ hasR lb x.lb = false
  ·obtain ⟨hop,hh⟩ := hB
   have hg : getR lb x.lb = none := by
    cases h : getR lb x.lb with
    | none => rfl
    | some a => simp [hasR,h] at hh
   generalize hP : Block.cells 63 false [.iv (.int .i64 (cntR lb x.lb))] = P
   have hlab1 : (S ++ [P])[0]? = some (.mp (mpR boxI lb) c0) := get_appO hlab _
   have hflw1 := get_appO hF.flw [P]
   generalize hT : (S ++ [P]).set 0 (.mp (mpR boxI (putR lb c0 x.lb (i : Int))) (clkR lb c0 x.lb)) = T
   have hTl : T.length = S.length + 1 := by rw [← hT]; simp
   have old2 : ∀ q,0 < q → q < 6 → T[q]? = S[q]? := fun q h1 h2 => by rw [← hT,get_setN (by omega),old P q h2]
   have hk : Keep LOW S T := by rw [← hT]; exact (Keep.app LOW S [P]).trans (Keep.set _ (by simp [LOW]) _)
   have hT0 : ∃ c,T[0]? = some (.mp (mpR boxI (putR lb c0 x.lb (i : Int))) c) := ⟨_,by rw [← hT]; exact get_setS (by simp) _⟩
   have hflT : T[3]? = some (flB f n) := (old2 3 (by omega) (by omega)).trans hF.flw
   obtain ⟨WU,WD,WI,WO,e1,e2,e3,e4,d4,d5,d3,d1,d2,w1,w2,w3,w4,u1,u2,u3⟩ := lf T (by omega) _ _ _ _ ((old2 1 (by omega) (by omega)).trans hF.inn.row) ((old2 2 (by omega) (by omega)).trans hF.out.row) ((old2 4 (by omega) (by omega)).trans hF.us.row) ((old2 5 (by omega) (by omega)).trans hF.ds.row) hflT
    (.cells 0 false (cF n (upd (fun q => if q < i then .msl (ia q) 0 0 m m 1 else .iv (.sl .nil [])) i (.msl (T.length + 2) 0 0 m m 1)))) (.cells 0 false (cF n (upd (fun q => if q < i then .msl (oa q) 0 0 m m 1 else .iv (.sl .nil [])) i (.msl (T.length + 3) 0 0 m m 1))))
    (.cells 0 false (cF n (upd (fun q => if q < i then .msl (ua q) 0 0 m m 1 else .iv (.sl .nil [])) i (.msl T.length 0 0 m m 1)))) (.cells 0 false (cF n (upd (fun q => if q < i then .msl (da q) 0 0 m m 1 else .iv (.sl .nil [])) i (.msl (T.length + 1) 0 0 m m 1))))
   have hF2 := fst T (putR lb c0 x.lb (i : Int)) hk (by omega) (old2 1 (by omega) (by omega)) (old2 2 (by omega) (by omega)) (old2 3 (by omega) (by omega)) (old2 4 (by omega) (by omega)) (old2 5 (by omega) (by omega)) hT0 (fun L => by
    rw [getR_put,hfs L,← hnew L]
    by_cases e : x.lb = L
    ·subst e; rw [if_pos rfl,hg]; simp [hop]
    ·rw [if_neg e]
     cases getR lb L with
     | some a => rfl
     | none => rw [if_neg (fun h => e h.2)]) w1 w2 w3 w4 u1 u2 u3 rfl rfl rfl rfl
   obtain ⟨S',lb',ia',oa',ua',da',I',O',U',D',y9,y10,y11,y12,y19,y20,ih,hx2⟩ := ihs _ _ _ _ _ _ _ _ _ _ (.iv (.int .i64 i)) (.lb ((encV x).map .iv)) (.ptr S.length 63 0) (.iv (.bool false)) (.iv (.bool true)) (.iv (.bool true)) hF2
   refine ⟨S',lb',ia',oa',ua',da',I',O',U',D',y9,y10,y11,y12,y19,y20,loop_at K _ _ t25L2.eq_1 ?_,hx2⟩
   rw [show ((i + 1 : Nat) : Int) = (i : Int) + 1 by omega,encV_tv] at ih
   have g3 := hF.flw
   have l2 := lkB_box2 lb c0 x.lb
   rw [hh] at l2
   unfold flB at d3
   have d3a := get_appO d3 [.cells 0 false (WI.map uI)]
   have d3b := get_appO d3a [.cells 0 false (WO.map uI)]
   rw [encV_eq] at c9 c11
   unfold encF at *
   simp only [List.map_cons,List.map_nil] at ih ⊢
   simp (config := { maxSteps := 4000000 }) (disch := omega) only [go_sem,hix,i1,hlab,g3,l2,hP,hlab1,hflw1,upB_box,hT,cpR_pure c9,cpR_pure c11,e1,e2,d4,d5,pc,d3,d3a,d3b,e3,e4,d1,d2,wrap_i64]
   exact congrArg er ih
  ·have hnb : ∀ L,getR lb L = firstL (f.ins.take (i + 1)) L := fun L => by
    rw [hfs L,← hnew L]
    cases h : getR lb L with
    | some a => rfl
    | none =>
     dsimp only
     rw [if_neg]
     rintro ⟨h1,rfl⟩
     exact hB ⟨h1,by simp [hasR,h]⟩
   generalize hP : Block.cells 63 false [.iv (.int .i64 (cntR lb x.lb))] = P
   generalize hT : S ++ [P] = T
   have hTl : T.length = S.length + 1 := by rw [← hT]; simp
   have old2 : ∀ q,q < 6 → T[q]? = S[q]? := fun q h2 => by rw [← hT,old P q h2]
   have hk : Keep LOW S T := by rw [← hT]; exact Keep.app LOW S [P]
   have hT0 : ∃ c,T[0]? = some (.mp (mpR boxI lb) c) := ⟨c0,by rw [old2 0 (by omega)]; exact hlab⟩
   have hflT : T[3]? = some (flB f n) := (old2 3 (by omega)).trans hF.flw
   obtain ⟨WU,WD,WI,WO,e1,e2,e3,e4,d4,d5,d3,d1,d2,w1,w2,w3,w4,u1,u2,u3⟩ := lf T (by omega) _ _ _ _ ((old2 1 (by omega)).trans hF.inn.row) ((old2 2 (by omega)).trans hF.out.row) ((old2 4 (by omega)).trans hF.us.row) ((old2 5 (by omega)).trans hF.ds.row) hflT
    (.cells 0 false (cF n (upd (fun q => if q < i then .msl (ia q) 0 0 m m 1 else .iv (.sl .nil [])) i (.msl (T.length + 2) 0 0 m m 1)))) (.cells 0 false (cF n (upd (fun q => if q < i then .msl (oa q) 0 0 m m 1 else .iv (.sl .nil [])) i (.msl (T.length + 3) 0 0 m m 1))))
    (.cells 0 false (cF n (upd (fun q => if q < i then .msl (ua q) 0 0 m m 1 else .iv (.sl .nil [])) i (.msl T.length 0 0 m m 1)))) (.cells 0 false (cF n (upd (fun q => if q < i then .msl (da q) 0 0 m m 1 else .iv (.sl .nil [])) i (.msl (T.length + 1) 0 0 m m 1))))
   have hF2 := fst T lb hk (by omega) (old2 1 (by omega)) (old2 2 (by omega)) (old2 3 (by omega)) (old2 4 (by omega)) (old2 5 (by omega)) hT0 hnb w1 w2 w3 w4 u1 u2 u3 rfl rfl rfl rfl
   have g3 := hF.flw
   have l2 := lkB_box2 lb c0 x.lb
   unfold flB at d3
   have d3a := get_appO d3 [.cells 0 false (WI.map uI)]
   have d3b := get_appO d3a [.cells 0 false (WO.map uI)]
   rw [encV_eq] at c9 c11
   by_cases hop : x.op = 65
   ·have hh : hasR lb x.lb = true := by
     cases h : hasR lb x.lb with
     | true => rfl
     | false => exact absurd ⟨hop,h⟩ hB
    rw [hh] at l2
    obtain ⟨S',lb',ia',oa',ua',da',I',O',U',D',y9,y10,y11,y12,y19,y20,ih,hx2⟩ := ihs _ _ _ _ _ _ _ _ _ _ (.iv (.int .i64 i)) (.lb ((encV x).map .iv)) (.ptr S.length 63 0) (.iv (.bool true)) (.iv (.bool true)) (.iv (.bool false)) hF2
    refine ⟨S',lb',ia',oa',ua',da',I',O',U',D',y9,y10,y11,y12,y19,y20,loop_at K _ _ t25L2.eq_1 ?_,hx2⟩
    rw [show ((i + 1 : Nat) : Int) = (i : Int) + 1 by omega,encV_tv] at ih
    unfold encF at *
    simp only [List.map_cons,List.map_nil] at ih ⊢
    simp (config := { maxSteps := 4000000 }) (disch := omega) only [go_sem,hix,i1,hlab,g3,l2,hP,hT,cpR_pure c9,cpR_pure c11,e1,e2,d4,d5,pc,d3,d3a,d3b,e3,e4,d1,d2,wrap_i64]
    exact congrArg er ih
   ·generalize hasR lb x.lb = hb at *
    obtain ⟨S',lb',ia',oa',ua',da',I',O',U',D',y9,y10,y11,y12,y19,y20,ih,hx2⟩ := ihs _ _ _ _ _ _ _ _ _ _ (.iv (.int .i64 i)) (.lb ((encV x).map .iv)) (.ptr S.length 63 0) (.iv (.bool hb)) (.iv (.bool true)) (.iv (.bool false)) hF2
    refine ⟨S',lb',ia',oa',ua',da',I',O',U',D',y9,y10,y11,y12,y19,y20,loop_at K _ _ t25L2.eq_1 ?_,hx2⟩
    rw [show ((i + 1 : Nat) : Int) = (i : Int) + 1 by omega,encV_tv] at ih
    unfold encF at *
    simp only [List.map_cons,List.map_nil] at ih ⊢
    simp (config := { maxSteps := 4000000 }) (disch := omega) only [go_sem,hix,i1,hlab,g3,l2,hP,hT,cpR_pure c9,cpR_pure c11,e1,e2,d4,d5,pc,d3,d3a,d3b,e3,e4,d1,d2,wrap_i64]
    exact congrArg er ih
theorem encF_eq (f : VF) : encF f = [.int .i64 f.fn,.int .i64 f.regs,.int .i64 f.sl,.int .i64 f.nd,.int .i64 f.pr,.bool f.rs,.sl f.ti (f.ins.map encV)] := rfl
theorem encF_tv (f : VF) : (encF f).map TV.iv = [.iv (.int .i64 f.fn),.iv (.int .i64 f.regs),.iv (.int .i64 f.sl),.iv (.int .i64 f.nd),.iv (.int .i64 f.pr),.iv (.bool f.rs),.iv (.sl f.ti (f.ins.map encV))] := rfl
theorem zerosF (x : TV) : ∀ n,TM.flat (List.replicate n [x]) = cF n fun _ => x
 | 0 => rfl
 | n + 1 => by
  have := zerosF x n
  rw [List.replicate_succ,show TM.flat ([x] :: List.replicate n [x]) = x :: TM.flat (List.replicate n [x]) from rfl,this]
  unfold cF
  rw [List.map_const',List.map_const',List.length_range,List.length_range,List.replicate_succ]
theorem mkV_s {bytes m n : Nat} (hr : roomy n bytes = true) : mkV [.sl .nil []] bytes m (.iv (.int .i64 n)) (.iv (.int .i64 n)) = some (.msl m 0 0 n n 1,.cells 0 false (cF n fun q => if q < 0 then .msl 0 0 0 0 0 1 else .iv (.sl .nil []))) := by
 have hz := zerosF (.iv (.sl .nil [])) n
 have e : (fun q : Nat => if q < 0 then TV.msl 0 0 0 0 0 1 else .iv (.sl .nil [])) = fun _ => .iv (.sl .nil []) := by funext q; rw [if_neg (Nat.not_lt_zero q)]
 rw [e]
 simp [mkV,TM.intOf,hr,hz]
theorem firstL_lt {l : List VI} {L k : Int} (h : firstL l L = some k) : 0 ≤ k ∧ k < l.length := by
 unfold firstL at h
 rw [Option.map_eq_some_iff] at h
 obtain ⟨i,hi,rfl⟩ := h
 rw [List.findIdx?_eq_some_iff_getElem] at hi
 obtain ⟨h1,_⟩ := hi
 omega
theorem labOK_of {lb : List (Nat × Int × Int)} {l : List VI} (h0 : 0 < l.length) (h : ∀ L,getR lb L = firstL l L) : LabOK lb l := by
 intro i hi _
 unfold cntR
 rw [h]
 cases e : firstL l (l.getD i default).lb with
 | none => simp; omega
 | some k => have := firstL_lt e; simpa using this
theorem call25 {f : VF} (h32 : 32 ≤ f.regs) (hr : f.regs ≤ 1000000) (hn : f.ins.length ≤ 1000000) (h0 : 0 < f.ins.length) (hus : ∀ x ∈ f.ins,x.us.length ≤ 999990 ∧ TagOk x.tu x.us) (h35 : TM.Pure K 35 [.iv (.agg (encF f))] (.iv (.int .i64 0))) :
  ∃ (S' : Store) (lb : List (Nat × Int × Int)) (ia oa : Nat → Nat) (I O U D : Nat → List Nat),(lim K).call 25 [.iv (.agg (encF f))] [] = .ret (.tup [.ptr 3 54 0,.iv (.int .i64 0)],S') ∧ FS S' f lb f.ins.length ((f.regs + 63) / 64) ia oa I O ∧ Grow lb f.ins U D I ∧
   (∀ L,getR lb L = firstL f.ins L) ∧ (∀ j r,j < f.ins.length → (bit (U j) r = true ↔ (r : Int) ∈ usesM (f.ins.getD j default) ∧ r < f.regs)) ∧ (∀ j r,j < f.ins.length → (bit (D j) r = true ↔ (r : Int) ∈ defsM (f.ins.getD j default) ∧ r < f.regs)) ∧
   ∀ j,j < f.ins.length → (∀ r,bit (I j) r = eqn lb f.ins U D I j r) ∧ ∀ r,bit (O j) r = anyB lb f.ins I j r := by
 generalize hn' : f.ins.length = n at *
 generalize hm : (f.regs + 63) / 64 = m
 have hz := fun k => mkV_s (m := k) (bytes := 24) (roomy_ok (n := n) (b := 24) (by omega))
 have hP : FP [.mp (mpR boxI []) 0,.cells 0 false (cF n fun q => if q < 0 then .msl 0 0 0 0 0 1 else .iv (.sl .nil [])),.cells 0 false (cF n fun q => if q < 0 then .msl 0 0 0 0 0 1 else .iv (.sl .nil [])),flB f n,.cells 0 false (cF n fun q => if q < 0 then .msl 0 0 0 0 0 1 else .iv (.sl .nil [])),.cells 0 false (cF n fun q => if q < 0 then .msl 0 0 0 0 0 1 else .iv (.sl .nil []))] f [] n m 0 (fun _ => 0) (fun _ => 0) (fun _ => 0) (fun _ => 0) (fun _ => []) (fun _ => []) (fun _ => []) (fun _ => []) := by
  have hrow : ∀ q : Nat,(if q < 0 then TV.msl 0 0 0 m m 1 else .iv (.sl .nil [])) = (if q < 0 then TV.msl 0 0 0 0 0 1 else .iv (.sl .nil [])) := fun q => by rw [if_neg (Nat.not_lt_zero q),if_neg (Nat.not_lt_zero q)]
  refine ⟨⟨0,rfl⟩,fun L => rfl,⟨?_,by omega,by omega,by omega⟩,⟨?_,by omega,by omega,by omega⟩,⟨?_,by omega,by omega,by omega⟩,⟨?_,by omega,by omega,by omega⟩,rfl,by simp,by omega,by omega,by omega⟩ <;> (simp only [hrow]; rfl)
 obtain ⟨S1,lb,ia,oa,ua,da,I,O,U,D,y9,y10,y11,y12,y19,y20,l1,hF⟩ := loop25c hm hr hn hn' hus (.iv (.agg (encF f))) (.iv .nilp) (.iv (.int .i64 0)) (.iv (.int .i64 0)) (.tup []) (.tup []) (.iv (.bool false)) (.tup []) (.tup []) n 0 _ _ _ _ _ _ _ _ _ _ (.tup []) (.tup []) (.tup []) (.tup []) (.tup []) (.tup []) (by omega) hP
 have hlbs : ∀ L,getR lb L = firstL f.ins L := fun L => by rw [hF.lbs L,List.take_of_length_le (by omega)]
 have hlb := labOK_of (by omega) hlbs
 have hI : ∀ j r,bit (if j < n then I j else []) r = false := fun j r => by
  split
  ·exact hF.zer j r (by assumption)
  ·simp [bit]
 have hFS : FS S1 f lb n m ia oa (fun j => if j < n then I j else []) O :=
  ⟨hF.lab,⟨hF.inn.done.row,hF.inn.done.ge,fun i hi => by rw [if_pos hi]; exact hF.inn.set i hi,fun i hi => by rw [if_pos hi]; exact hF.inn.ok i hi⟩,hF.out.done,hF.flw,hF.len⟩
 have hG : Grow lb f.ins U D (fun j => if j < n then I j else []) := ⟨(fun i r hb => by rw [hI] at hb; cases hb),(fun i r hb => by rw [hI] at hb; cases hb)⟩
 obtain ⟨S2,ia2,oa2,I2,O2,y14,y21,y22,l2,hF2,_,_,hG2,he⟩ := loop25b hm hr hn hn' hlb (.iv (.agg (encF f))) (.lb ((encF f).map .iv)) (.iv .nilp) (.iv (.int .i64 0)) (.iv (.int .i64 0)) y9 y10 y11 y12 (.iv (.bool false)) (.iv (.sl f.ti (f.ins.map encV))) (.iv (.int .i64 n)) (.iv (.int .i64 n)) y19 y20 _ S1 ia oa _ O (.tup []) (.tup []) (.tup []) (Nat.le_refl _) hFS hF.us.done hF.ds.done hG
 refine ⟨S2,lb,ia2,oa2,I2,O2,U,D,call_ret' K _ (fn := t25) rfl rfl ?_,hF2,hG2,hlbs,hF.use,hF.dfn,he⟩
 rw [show ((0 : Nat) : Int) = 0 from rfl] at l1
 have hlen : (f.ins.map encV).length = n := by rw [List.length_map,hn']
 unfold flB at l1
 rw [show mpR boxI [] = [] from rfl] at l1
 rw [encF_tv,encF_eq] at l1 l2
 rw [encF_eq] at h35
 rw [encF_eq]
 generalize hR : Block.cells 0 false (cF n fun q => if q < 0 then .msl 0 0 0 0 0 1 else .iv (.sl .nil [])) = R at *
 simp (config := { maxSteps := 4000000 }) (disch := omega) only [t25,go_sem,TM.undef,cpR_pure h35,hlen,hz]
 rw [l1]
 simp (config := { maxSteps := 4000000 }) (disch := omega) only [go_sem]
 rw [l2]
 simp (config := { maxSteps := 4000000 }) (disch := omega) only [go_sem]
theorem cellsOf_acc (i : Nat) (l : List (List IV)) : cellsOf (acc i l) = [acc i l] := by unfold acc; split <;> rfl
theorem isRefL_acc (i : Nat) (l : List (List IV)) : isRefL (acc i l) = false := by unfold acc; split <;> rfl
attribute [go_sem] cellsOf_acc isRefL_acc
def gI (l : List (List IV)) (i : Nat) (S : Store) : Nat := if l = [] then S.length else i
def gS1 (w el : Nat) (l : List (List IV)) (i : Nat) (S : Store) : Store := if l = [] then S ++ [.tok 1 w el] else S.set i (.tok (l.length + 1) w el)
def At (w el : Nat) (l : List (List IV)) (i : Nat) (S : Store) : Prop := l ≠ [] → S[i]? = some (.tok l.length w el)
theorem gS1_at {w el : Nat} {l : List (List IV)} {i : Nat} {S : Store} (h : At w el l i S) (c : List IV) : At w el (l ++ [c]) (gI l i S) (gS1 w el l i S) := by
 intro _
 unfold gI gS1
 by_cases h0 : l = []
 ·rw [if_pos h0,if_pos h0,h0]; simp
 ·rw [if_neg h0,if_neg h0,get_setS (lt_get (h h0))]; simp
theorem ap_g {w el b : Nat} {l : List (List IV)} {i : Nat} {S : Store} {t : Tag} {c : List IV} (h : At w el l i S) (hc : c.length = w ∧ c.all isCell = true) (hl : Elems w l) (hr : roomy (l.length + 1) b = true) :
  appendOp false w b el S (acc i l) (.iv (.sl t [c])) = some (acc (gI l i S) (l ++ [c]),gS1 w el l i S) := by
 have hx : IsEl S (.iv (.sl t [c])) [c] := IsEl.sl ..
 have hw : Elems w [c] := by intro y hy; simp at hy; subst hy; exact hc
 by_cases h0 : l = []
 ·subst h0
  rw [acc_nil,ap_new (by decide) hx hw hl (by simp) hr,List.nil_append,acc_cons]
  simp [gI,gS1]
 ·rw [acc_ne _ h0,ap_tsl hx hw hl (h h0) hr,acc_ne _ (by simp)]
  simp [gI,gS1,h0]
theorem gS1_other {w el : Nat} {l : List (List IV)} {i : Nat} {S : Store} (h : At w el l i S) {q : Nat} {b : Block} (hq : S[q]? = some b) (hb : ∀ n w el,b ≠ .tok n w el) : (gS1 w el l i S)[q]? = some b := by
 unfold gS1
 by_cases h0 : l = []
 ·rw [if_pos h0]; exact get_appO hq _
 ·rw [if_neg h0,get_setN]
  ·exact hq
  ·rintro rfl
   rw [h h0] at hq
   exact hb _ _ _ (Option.some.inj hq).symm
def SetAt (S : Store) (j : Nat) (W : List Nat) : Prop := S[j]? = some (.cells 0 false (W.map uI)) ∨ S[j]? = some (.frz 0 (W.map uV))
theorem uI_uV (W : List Nat) : W.map uI = (W.map uV).map .iv := by rw [List.map_map]; rfl
theorem elems_set {S : Store} {j : Nat} {W : List Nat} (h : SetAt S j W) (cap : Nat) : elemsIV S (.msl j 0 0 W.length cap 1) = some (TM.one uV W) := by
 have e3 : ∀ L : List Nat,chunks 1 L.length (L.map uV) = TM.one uV L := by
  intro L
  induction L with
  | nil => rfl
  | cons a r ih => simp only [List.map_cons,List.length_cons,chunks,List.take_succ_cons,List.take_zero,List.drop_succ_cons,List.drop_zero,ih]; rfl
 rcases h with h | h
 ·have e1 : sub (W.map uI) 0 (W.length * 1) = some (W.map uI) := sub_all (by simp)
  have e2 : toIVs (W.map uI) = some (W.map uV) := by rw [uI_uV,toIVs_ivs]
  simp only [elemsIV,h,ne_eq,not_true_eq_false,↓reduceIte,e1,e2,Option.map_some,e3]
 ·have e1 : sub (W.map uV) 0 (W.length * 1) = some (W.map uV) := sub_all (by simp)
  simp only [elemsIV,h,ne_eq,not_true_eq_false,↓reduceIte,e1,Option.map_some,e3]
theorem close_set {S : Store} {j : Nat} {W : List Nat} (h : SetAt S j W) (cap : Nat) : closeArg S (.msl j 0 0 W.length cap 1) = some (.iv (.sl .no (TM.one uV W))) := by
 show ((match elemsIV S (.msl j 0 0 W.length cap 1) with | some l => some (IV.sl .no l) | none => none).map TV.iv) = _
 rw [elems_set h]; rfl
theorem freeze_set {S : Store} {j : Nat} {W : List Nat} (h : SetAt S j W) (v o n c w : Nat) : ∃ S',freezeV S [.msl j v o n c w] = some S' ∧ S'.length = S.length ∧ (∀ q,q ≠ j → S'[q]? = S[q]?) ∧ S'[j]? = some (.frz 0 (W.map uV)) := by
 rcases h with h | h
 ·refine ⟨S.set j (.frz 0 (W.map uV)),?_,by simp,fun q hq => get_setN (Ne.symm hq) _,get_setS (lt_get h) _⟩
  simp only [freezeV,freezeB,h,uI_uV,toIVs_ivs,Option.map_some]
 ·refine ⟨S,?_,rfl,fun q _ => rfl,h⟩
  simp only [freezeV,freezeB,h]
def rowL (I : Nat → List Nat) (q : Nat) : List IV := [.sl (sTag (oneI (wlI 0 (I q)))) (TM.one (.int .i64) (wlI 0 (I q)))]
def rowsL (I : Nat → List Nat) (i : Nat) : List (List IV) := (List.range i).map (rowL I)
theorem rowsL_len (I : Nat → List Nat) (i : Nat) : (rowsL I i).length = i := by simp [rowsL]
theorem rowsL_el (I : Nat → List Nat) (i : Nat) : Elems 1 (rowsL I i) := by
 intro y hy
 obtain ⟨q,_,rfl⟩ := List.mem_map.1 hy
 exact ⟨rfl,rfl⟩
theorem loop26 {j n m : Nat} (hn : n ≤ 1000000) (hm : m ≤ 100000) {ia : Nat → Nat} {I : Nat → List Nat} (hok : ∀ i,i < n → WOK m (I i)) (hne : ∀ i,i < n → ia i ≠ j) : ∀ (k i : Nat) (S : Store) (jo : Nat) (x2 x6 : TV),i + k = n →
  S[j]? = some (.cells 0 false (cF n fun i => .msl (ia i) 0 0 m m 1)) → (∀ q,q < n → SetAt S (ia q) (I q)) → At 1 28 (rowsL I i) jo S →
  ∃ (S' : Store) (jo' : Nat) (y2 y6 : TV),lp' (lim K) t26L0 [.msl j 0 0 n n 1,acc jo (rowsL I i),x2,.msl j 0 0 n n 1,.iv (.int .i64 n),.iv (.int .i64 i),x6] S
   = .ret (.exit 0,[.msl j 0 0 n n 1,acc jo' (rowsL I n),y2,.msl j 0 0 n n 1,.iv (.int .i64 n),.iv (.int .i64 n),y6],S')
 | 0,i,S,jo,x2,x6,h,hr,hs,ha => by
  obtain rfl : i = n := by omega
  refine ⟨S,jo,x2,.iv (.bool false),loop_at K _ _ t26L0.eq_1 ?_⟩
  simp (config := { maxSteps := 4000000 }) (disch := omega) only [go_sem]
 | k + 1,i,S,jo,x2,x6,h,hr,hs,ha => by
  have hin : i < n := by omega
  have hW := hok i hin
  have i1 := ix_RW (j := j) (v := 0) (cap := n) hin
  have s1 := sub_cF (fun i => TV.msl (ia i) 0 0 m m 1) hin
  have c38 := call38 .no (I i) hW.lt (by rw [hW.len]; exact hm)
  have hcl := close_set (hs i hin) m
  rw [hW.len] at hcl
  obtain ⟨S1,f1,f2,f3,f4⟩ := freeze_set (hs i hin) 0 0 m m 1
  have hr1 : S1[j]? = some (.cells 0 false (cF n fun i => .msl (ia i) 0 0 m m 1)) := by rw [f3 j (Ne.symm (hne i hin))]; exact hr
  have hs1 : ∀ q,q < n → SetAt S1 (ia q) (I q) := fun q hq => by
   by_cases e : ia q = ia i
   ·have hq' := hs q hq
    have hi' := hs i hin
    rw [e] at hq' ⊢
    right
    rw [f4]
    have : (I q).map uV = (I i).map uV := by
     have inj : ∀ A B : List Nat,A.map uI = B.map uI → A.map uV = B.map uV := fun A B hAB => by
      have : A = B := (List.map_inj_right (fun a b hab => by simp [uI] at hab; exact_mod_cast hab)).1 hAB
      rw [this]
     rcases hq' with a | a <;> rcases hi' with b | b <;> rw [a] at b <;> simp at b
     ·exact inj _ _ (by simpa using b)
     ·simpa using b
    rw [this]
   ·unfold SetAt
    rw [f3 _ e]; exact hs q hq
  have ha1 : At 1 28 (rowsL I i) jo S1 := fun h0 => by
   have := ha h0
   rw [f3 jo]
   ·exact this
   ·rintro rfl
    rcases hs i hin with b | b <;> rw [this] at b <;> simp at b
  have ap := ap_g (b := 24) (c := rowL I i) (t := .full) ha1 ⟨rfl,rfl⟩ (rowsL_el I i) (roomy_ok (by rw [rowsL_len]; omega))
  have hsn : rowsL I i ++ [rowL I i] = rowsL I (i + 1) := by simp [rowsL,List.range_succ]
  have hat := gS1_at ha1 (rowL I i)
  rw [hsn] at ap hat
  have hr2 := gS1_other ha1 hr1 (by simp)
  have hs2 : ∀ q,q < n → SetAt (gS1 1 28 (rowsL I i) jo S1) (ia q) (I q) := fun q hq => by
   rcases hs1 q hq with b | b
   ·exact .inl (gS1_other ha1 b (by simp))
   ·exact .inr (gS1_other ha1 b (by simp))
  obtain ⟨S',jo',y2,y6,ih⟩ := loop26 hn hm hok hne k (i + 1) _ _ (.msl (ia i) 0 0 m m 1) (.iv (.bool true)) (by omega) hr2 hs2 hat
  rw [show ((i + 1 : Nat) : Int) = (i : Int) + 1 by omega] at ih
  refine ⟨S',jo',y2,y6,loop_at K _ _ t26L0.eq_1 ?_⟩
  unfold rowL at ap
  simp (config := { maxSteps := 4000000 }) (disch := omega) only [go_sem,i1,hr,s1,hcl,cpR_pure c38,f1,ap,wrap_i64]
  exact congrArg er ih
theorem call26 {S : Store} {j n m : Nat} (hn : n ≤ 1000000) (hm : m ≤ 100000) {ia : Nat → Nat} {I : Nat → List Nat} (h : RS S j n m ia I) (hj : j < 6) : ∃ (S' : Store) (jo : Nat),(lim K).call 26 [.msl j 0 0 n n 1] S = .ret (acc jo (rowsL I n),S') := by
 obtain ⟨S',jo,y2,y6,l1⟩ := loop26 hn hm h.ok (fun i hi => by have := h.ge i hi; omega) n 0 S 0 (.tup []) (.tup []) (by omega) h.row (fun q hq => .inl (h.set q hq)) (fun h0 => absurd rfl h0)
 rw [show ((0 : Nat) : Int) = 0 from rfl,show rowsL I 0 = [] from rfl,acc_nil] at l1
 refine ⟨S',jo,call_ret' K S (fn := t26) rfl rfl ?_⟩
 simp (config := { maxSteps := 4000000 }) (disch := omega) only [t26,go_sem,TM.undef]
 rw [l1]
 simp (config := { maxSteps := 4000000 }) (disch := omega) only [go_sem]
theorem res_tup (S : Store) (jo : Nat) (l : List (List IV)) (n : Int) : TM.resolve S (.tup [acc jo l,.iv (.int .i64 n)]) = some (.tup [.iv (.sl (sTag l) l),.iv (.int .i64 n)]) := by
 rw [resolve_tup]
 simp only [resVs,resV_acc']
 rfl
theorem inout {f : VF} (h32 : 32 ≤ f.regs) (hr : f.regs ≤ 1000000) (hn : f.ins.length ≤ 1000000) (h0 : 0 < f.ins.length) (hus : ∀ x ∈ f.ins,x.us.length ≤ 999990 ∧ TagOk x.tu x.us) (h35 : TM.Pure K 35 [.iv (.agg (encF f))] (.iv (.int .i64 0))) :
  ∃ (lb : List (Nat × Int × Int)) (I O U D : Nat → List Nat),TM.Pure K 13 [.iv (.agg (encF f))] (.tup [.iv (.sl (sTag (rowsL I f.ins.length)) (rowsL I f.ins.length)),.iv (.int .i64 0)]) ∧
   TM.Pure K 15 [.iv (.agg (encF f))] (.tup [.iv (.sl (sTag (rowsL O f.ins.length)) (rowsL O f.ins.length)),.iv (.int .i64 0)]) ∧ Grow lb f.ins U D I ∧
   (∀ i,i < f.ins.length → WOK ((f.regs + 63) / 64) (I i) ∧ WOK ((f.regs + 63) / 64) (O i)) ∧
   (∀ L,getR lb L = firstL f.ins L) ∧ (∀ j r,j < f.ins.length → (bit (U j) r = true ↔ (r : Int) ∈ usesM (f.ins.getD j default) ∧ r < f.regs)) ∧ (∀ j r,j < f.ins.length → (bit (D j) r = true ↔ (r : Int) ∈ defsM (f.ins.getD j default) ∧ r < f.regs)) ∧
   ∀ j,j < f.ins.length → (∀ r,bit (I j) r = eqn lb f.ins U D I j r) ∧ ∀ r,bit (O j) r = anyB lb f.ins I j r := by
 obtain ⟨S,lb,ia,oa,I,O,U,D,c25,hF,hG,h1,h2,h3,h4⟩ := call25 h32 hr hn h0 hus h35
 obtain ⟨S1,j1,e1⟩ := call26 (by omega) (by omega) hF.inn (by omega)
 obtain ⟨S2,j2,e2⟩ := call26 (by omega) (by omega) hF.out (by omega)
 have hw := hF.flw
 refine ⟨lb,I,O,U,D,?_,?_,hG,fun i hi => ⟨hF.inn.ok i hi,hF.out.ok i hi⟩,h1,h2,h3,h4⟩
 ·refine TM.pure_ret (S := S1) (call_ret' K _ (fn := t13) rfl rfl ?_) (res_tup S1 j1 _ 0)
  rw [encF_eq] at c25 ⊢
  generalize f.ins.length = n at *
  simp (config := { maxSteps := 4000000 }) (disch := omega) only [t13,go_sem,TM.undef,c25,hw,e1]
 ·refine TM.pure_ret (S := S2) (call_ret' K _ (fn := t15) rfl rfl ?_) (res_tup S2 j2 _ 0)
  rw [encF_eq] at c25 ⊢
  generalize f.ins.length = n at *
  simp (config := { maxSteps := 4000000 }) (disch := omega) only [t15,go_sem,TM.undef,c25,hw,e2]
def loM (op : Int) : Int := if op = 15 ∨ op = 22 ∨ op = 24 ∨ op = 25 then -32768 else 0
def hiM (op : Int) : Int := if op = 15 ∨ op = 22 ∨ op = 24 ∨ op = 25 then 32767 else if op = 16 ∨ op = 17 ∨ op = 18 ∨ op = 23 then 65535 else if op = 19 ∨ op = 20 ∨ op = 21 then 31 else 0
theorem call90 (op : Int) (h : 1 ≤ op ∧ op ≤ 25) : TM.Pure K 90 [.iv (.int .i64 op)] (.iv (.int .i64 (if op ≤ 14 then 1 else if op = 23 then 3 else if op = 25 then 4 else 2))) := by
 refine call_pure t90 rfl rfl ?_
 rcases (by omega : op ≤ 14 ∨ op = 23 ∨ op = 25 ∨ (15 ≤ op ∧ op ≤ 22) ∨ op = 24) with h1 | h1 | h1 | h1 | h1
 ·rw [if_pos h1]; simp (config := { maxSteps := 4000000 }) (disch := omega) only [t90,go_sem,TM.undef]
 ·rw [if_neg (by omega),if_pos h1]; simp (config := { maxSteps := 4000000 }) (disch := omega) only [t90,go_sem,TM.undef]
 ·rw [if_neg (by omega),if_neg (by omega),if_pos h1]; simp (config := { maxSteps := 4000000 }) (disch := omega) only [t90,go_sem,TM.undef]
 ·rw [if_neg (by omega),if_neg (by omega),if_neg (by omega)]; simp (config := { maxSteps := 4000000 }) (disch := omega) only [t90,go_sem,TM.undef]
 ·rw [if_neg (by omega),if_neg (by omega),if_neg (by omega)]; simp (config := { maxSteps := 4000000 }) (disch := omega) only [t90,go_sem,TM.undef]
theorem call89_1 : TM.Pure K 89 [.iv (.int .i64 1)] (.tup [.iv (.bool true),.iv (.bool true),.iv (.bool true),.iv (.int .i64 0)]) := by
 refine call_pure t89 rfl rfl ?_
 simp (config := { maxSteps := 4000000 }) (disch := omega) only [t89,go_sem,TM.undef]
theorem call89_2 : TM.Pure K 89 [.iv (.int .i64 2)] (.tup [.iv (.bool true),.iv (.bool true),.iv (.bool false),.iv (.int .i64 16)]) := by
 refine call_pure t89 rfl rfl ?_
 simp (config := { maxSteps := 4000000 }) (disch := omega) only [t89,go_sem,TM.undef]
theorem call89_3 : TM.Pure K 89 [.iv (.int .i64 3)] (.tup [.iv (.bool true),.iv (.bool false),.iv (.bool false),.iv (.int .i64 16)]) := by
 refine call_pure t89 rfl rfl ?_
 simp (config := { maxSteps := 4000000 }) (disch := omega) only [t89,go_sem,TM.undef]
theorem call89_4 : TM.Pure K 89 [.iv (.int .i64 4)] (.tup [.iv (.bool false),.iv (.bool true),.iv (.bool true),.iv (.int .i64 16)]) := by
 refine call_pure t89 rfl rfl ?_
 simp (config := { maxSteps := 4000000 }) (disch := omega) only [t89,go_sem,TM.undef]
theorem call92 (b : Bool) : TM.Pure K 92 [.iv (.bool b),.iv (.int .i64 0)] (.iv (.bool true)) := by
 refine call_pure t92 rfl rfl ?_
 cases b <;> simp (config := { maxSteps := 4000000 }) (disch := omega) only [t92,go_sem,TM.undef]
theorem call91 (op : Int) (h : 1 ≤ op ∧ op ≤ 25) : TM.Pure K 91 [.iv (.int .i64 op)] (.tup [.iv (.int .i64 (loM op)),.iv (.int .i64 (hiM op))]) := by
 have c90 := call90 op h
 unfold loM hiM
 refine call_pure t91 rfl rfl ?_
 rcases (by omega : op ≤ 14 ∨ op = 15 ∨ op = 16 ∨ op = 17 ∨ op = 18 ∨ op = 19 ∨ op = 20 ∨ op = 21 ∨ op = 22 ∨ op = 23 ∨ op = 24 ∨ op = 25) with h1 | h1 | h1 | h1 | h1 | h1 | h1 | h1 | h1 | h1 | h1 | h1
 ·rw [if_neg (by omega),if_neg (by omega),if_neg (by omega),if_neg (by omega)]
  rw [if_pos h1] at c90
  simp (config := { maxSteps := 4000000 }) (disch := omega) only [t91,go_sem,TM.undef,cpR_pure c90]
 all_goals
  subst h1
  simp (config := { maxSteps := 4000000 }) (disch := omega) only [t91,go_sem,TM.undef,cpR_pure c90]
  rfl
theorem form_cases (op : Int) (h : 1 ≤ op ∧ op ≤ 25) : ∃ (fm : Int) (d a b : Bool) (im : Int),TM.Pure K 90 [.iv (.int .i64 op)] (.iv (.int .i64 fm)) ∧ TM.Pure K 89 [.iv (.int .i64 fm)] (.tup [.iv (.bool d),.iv (.bool a),.iv (.bool b),.iv (.int .i64 im)]) ∧ fm ≠ 0 ∧ 0 ≤ im ∧ im ≤ 21 := by
 have c90 := call90 op h
 rcases (by omega : op ≤ 14 ∨ op = 23 ∨ op = 25 ∨ (15 ≤ op ∧ op ≤ 22) ∨ op = 24) with h1 | h1 | h1 | h1 | h1
 ·rw [if_pos h1] at c90; exact ⟨1,_,_,_,_,c90,call89_1,by decide,by decide,by decide⟩
 ·rw [if_neg (by omega),if_pos h1] at c90; exact ⟨3,_,_,_,_,c90,call89_3,by decide,by decide,by decide⟩
 ·rw [if_neg (by omega),if_neg (by omega),if_pos h1] at c90; exact ⟨4,_,_,_,_,c90,call89_4,by decide,by decide,by decide⟩
 ·rw [if_neg (by omega),if_neg (by omega),if_neg (by omega)] at c90; exact ⟨2,_,_,_,_,c90,call89_2,by decide,by decide,by decide⟩
 ·rw [if_neg (by omega),if_neg (by omega),if_neg (by omega)] at c90; exact ⟨2,_,_,_,_,c90,call89_2,by decide,by decide,by decide⟩
theorem call88 (op im : Int) (h : 1 ≤ op ∧ op ≤ 25) : TM.Pure K 88 [.iv (.agg [.int .i64 op,.int .i64 0,.int .i64 0,.int .i64 0,.int .i64 im])] (.iv (.int .i64 (if loM op ≤ im ∧ im ≤ hiM op then 0 else 11))) := by
 obtain ⟨fm,d,a,b,ib,c90,c89,h0,_,_⟩ := form_cases op h
 have c91 := call91 op h
 have c1 := call92 d
 have c2 := call92 a
 have c3 := call92 b
 generalize loM op = lo at *
 generalize hiM op = hi at *
 refine call_pure t88 rfl rfl ?_
 by_cases e1 : lo ≤ im
 ·by_cases e2 : im ≤ hi
  ·rw [if_pos ⟨e1,e2⟩]
   simp (config := { maxSteps := 4000000 }) (disch := omega) only [t88,go_sem,TM.undef,cpR_pure c90,cpR_pure c89,cpR_pure c91,cpR_pure c1,cpR_pure c2,cpR_pure c3]
  ·rw [if_neg (by omega)]
   simp (config := { maxSteps := 4000000 }) (disch := omega) only [t88,go_sem,TM.undef,cpR_pure c90,cpR_pure c89,cpR_pure c91,cpR_pure c1,cpR_pure c2,cpR_pure c3]
 ·rw [if_neg (by omega)]
  simp (config := { maxSteps := 4000000 }) (disch := omega) only [t88,go_sem,TM.undef,cpR_pure c90,cpR_pure c89,cpR_pure c91,cpR_pure c1,cpR_pure c2,cpR_pure c3]
def encBN (b : Bool) : List IV := [.bool b,.int .i64 0]
theorem loop82 (E : List Bool) (hE : E.length ≤ 10) (x0 x1 x2 x3 x4 x5 x6 x7 x8 x12 : TV) : ∀ (k i : Nat) (w at' : Int) (x11 x16 x17 : TV),i + k = E.length → 5 * (k : Int) ≤ at' → at' ≤ 100 →
  ∃ (w' at2 : Int) (y11 y16 y17 : TV),lp' (lim K) t82L0 [x0,x1,x2,x3,x4,x5,x6,x7,x8,.iv (.int .u32 w),.iv (.int .i64 at'),x11,x12,.iv (.sl .full (E.map encBN)),.iv (.int .i64 E.length),.iv (.int .i64 i),x16,x17] []
   = .ret (.exit 0,[x0,x1,x2,x3,x4,x5,x6,x7,x8,.iv (.int .u32 w'),.iv (.int .i64 at2),y11,x12,.iv (.sl .full (E.map encBN)),.iv (.int .i64 E.length),.iv (.int .i64 E.length),y16,y17],[])
 | 0,i,w,at',x11,x16,x17,h,h1,h2 => by
  obtain rfl : i = E.length := by omega
  refine ⟨w,at',x11,.iv (.bool false),x17,loop_at K _ _ t82L0.eq_1 ?_⟩
  simp (config := { maxSteps := 4000000 }) (disch := omega) only [go_sem]
 | k + 1,i,w,at',x11,x16,x17,h,h1,h2 => by
  have hla : i < E.length := by omega
  have hix := ix_map (w := 2) (f := encBN) (fun _ => rfl) (t := .full) (l := E) (i := (i : Int)) (by omega)
  rw [Int.toNat_natCast] at hix
  generalize E.getD i default = b at *
  rw [show encBN b = [.bool b,.int .i64 0] from rfl] at hix
  have g2 : ∀ (env : Env) (S : Store) (a b : IV),getCells env S (.iv (.cp [a,b])) 2 = some [.iv a,.iv b] := fun _ _ _ _ => by simp [getCells,sub]
  cases b with
  | true =>
   have hz : IntKind.u32.wrap 0 = 0 := by decide
   obtain ⟨w',at2,y11,y16,y17,ih⟩ := loop82 E hE x0 x1 x2 x3 x4 x5 x6 x7 x8 x12 k (i + 1) (IntKind.u32.wrap (bOr 32 w (IntKind.u32.wrap (0 * 2 ^ (if at'.toNat ≤ 32 then at'.toNat else 32))))) (at' - 5) (.lb [.iv (.bool true),.iv (.int .i64 0)]) (.iv (.bool true)) (.iv (.bool true)) (by omega) (by omega) (by omega)
   rw [show ((i + 1 : Nat) : Int) = (i : Int) + 1 by omega] at ih
   refine ⟨w',at2,y11,y16,y17,loop_at K _ _ t82L0.eq_1 ?_⟩
   simp (config := { maxSteps := 4000000 }) (disch := omega) only [go_sem,hix,g2,wrap_i64,hz]
   exact congrArg er ih
  | false =>
   obtain ⟨w',at2,y11,y16,y17,ih⟩ := loop82 E hE x0 x1 x2 x3 x4 x5 x6 x7 x8 x12 k (i + 1) w at' (.lb [.iv (.bool false),.iv (.int .i64 0)]) (.iv (.bool true)) (.iv (.bool false)) (by omega) (by omega) (by omega)
   rw [show ((i + 1 : Nat) : Int) = (i : Int) + 1 by omega] at ih
   refine ⟨w',at2,y11,y16,y17,loop_at K _ _ t82L0.eq_1 ?_⟩
   simp (config := { maxSteps := 4000000 }) (disch := omega) only [go_sem,hix,g2,wrap_i64]
   exact congrArg er ih
def encIn (op im : Int) : List IV := [.int .i64 op,.int .i64 0,.int .i64 0,.int .i64 0,.int .i64 im]
theorem call82 (op im : Int) (h : 1 ≤ op ∧ op ≤ 25) : ∃ w : Int,TM.Pure K 82 [.iv (.agg (encIn op im))] (.tup [.iv (.int .u32 w),.iv (.int .i64 (if loM op ≤ im ∧ im ≤ hiM op then 0 else 11))]) := by
 have c88 := call88 op im h
 obtain ⟨fm,d,a,b,ib,c90,c89,h0,h1,h2⟩ := form_cases op h
 by_cases e : loM op ≤ im ∧ im ≤ hiM op
 ·rw [if_pos e] at c88 ⊢
  have key := fun w0 => loop82 [d,a,b] (by simp) (.iv (.agg (encIn op im))) (.lb ((encIn op im).map .iv)) (.iv (.int .u32 0)) (.iv (.int .i64 0)) (.iv (.int .i64 0)) (.iv (.bool d)) (.iv (.bool a)) (.iv (.bool b)) (.iv (.int .i64 ib)) (.iv (.bool false)) 3 0 w0 21 (.tup []) (.tup []) (.tup []) (by simp) (by decide) (by decide)
  obtain ⟨w',at2,y11,y16,y17,l1⟩ := key (IntKind.u32.wrap (IntKind.u32.wrap op * 67108864))
  rw [show ((0 : Nat) : Int) = 0 from rfl,show (([d,a,b].length : Nat) : Int) = ((3 : Nat) : Int) from rfl,show (encIn op im).map TV.iv = [.iv (.int .i64 op),.iv (.int .i64 0),.iv (.int .i64 0),.iv (.int .i64 0),.iv (.int .i64 im)] from rfl,show encIn op im = [.int .i64 op,.int .i64 0,.int .i64 0,.int .i64 0,.int .i64 im] from rfl,show [d,a,b].map encBN = [[.bool d,.int .i64 0],[.bool a,.int .i64 0],[.bool b,.int .i64 0]] from rfl] at l1
  unfold encIn
  refine ⟨?_,call_pure t82 rfl rfl ?_⟩
  rotate_left
  ·simp (config := { maxSteps := 4000000 }) (disch := omega) only [t82,go_sem,TM.undef,cpR_pure c90,cpR_pure c89,cpR_pure c88]
   rw [l1]
   simp (config := { maxSteps := 4000000 }) (disch := omega) only [go_sem]
   rfl
 ·rw [if_neg e] at c88 ⊢
  refine ⟨0,call_pure t82 rfl rfl ?_⟩
  simp (config := { maxSteps := 4000000 }) (disch := omega) only [t82,go_sem,TM.undef,encIn,cpR_pure c88]
def plainM (op im : Int) : Bool := decide (1 ≤ op ∧ op ≤ 25) && decide (loM op ≤ im ∧ im ≤ hiM op)
theorem call68 (v : VI) : TM.Pure K 68 [.iv (.agg (encV v))] (.iv (.bool (plainM v.op v.im))) := by
 unfold plainM
 by_cases h : 1 ≤ v.op ∧ v.op ≤ 25
 ·obtain ⟨w,c82⟩ := call82 v.op v.im h
  rw [decide_eq_true h,Bool.true_and]
  unfold encIn at c82
  refine call_pure t68 rfl rfl ?_
  by_cases e : loM v.op ≤ v.im ∧ v.im ≤ hiM v.op
  ·rw [if_pos e] at c82
   rw [decide_eq_true e]
   simp (config := { maxSteps := 4000000 }) (disch := omega) only [t68,go_sem,TM.undef,encV,List.map_cons,List.map_nil,cpR_pure c82]
  ·rw [if_neg e] at c82
   rw [decide_eq_false e]
   simp (config := { maxSteps := 4000000 }) (disch := omega) only [t68,go_sem,TM.undef,encV,List.map_cons,List.map_nil,cpR_pure c82]
 ·rw [decide_eq_false h,Bool.false_and]
  refine call_pure t68 rfl rfl ?_
  rcases (by omega : v.op < 1 ∨ 25 < v.op) with h1 | h1 <;>
   simp (config := { maxSteps := 4000000 }) (disch := omega) only [t68,go_sem,TM.undef,encV,List.map_cons,List.map_nil]
def formedM (op im : Int) : Bool := plainM op im || decide ((26 ≤ op ∧ op ≤ 31) ∨ (64 ≤ op ∧ op ≤ 72))
theorem call46 (v : VI) : TM.Pure K 46 [.iv (.agg (encV v))] (.iv (.bool (formedM v.op v.im))) := by
 have c68 := call68 v
 unfold formedM
 rw [encV_eq] at c68
 refine call_pure t46 rfl rfl ?_
 generalize plainM v.op v.im = p at *
 cases p with
 | true =>
  rw [Bool.true_or]
  simp (config := { maxSteps := 4000000 }) (disch := omega) only [t46,go_sem,TM.undef,encV,List.map_cons,List.map_nil,cpR_pure c68]
 | false =>
  rw [Bool.false_or]
  rcases (by omega : v.op < 26 ∨ (26 ≤ v.op ∧ v.op ≤ 31) ∨ (31 < v.op ∧ v.op < 64) ∨ (64 ≤ v.op ∧ v.op ≤ 72) ∨ 72 < v.op) with h | h | h | h | h
  ·rw [decide_eq_false (by omega)]; simp (config := { maxSteps := 4000000 }) (disch := omega) only [t46,go_sem,TM.undef,encV,List.map_cons,List.map_nil,cpR_pure c68]
  ·rw [decide_eq_true (by omega)]; simp (config := { maxSteps := 4000000 }) (disch := omega) only [t46,go_sem,TM.undef,encV,List.map_cons,List.map_nil,cpR_pure c68]
  ·rw [decide_eq_false (by omega)]; simp (config := { maxSteps := 4000000 }) (disch := omega) only [t46,go_sem,TM.undef,encV,List.map_cons,List.map_nil,cpR_pure c68]
  ·rw [decide_eq_true (by omega)]; simp (config := { maxSteps := 4000000 }) (disch := omega) only [t46,go_sem,TM.undef,encV,List.map_cons,List.map_nil,cpR_pure c68]
  ·rw [decide_eq_false (by omega)]; simp (config := { maxSteps := 4000000 }) (disch := omega) only [t46,go_sem,TM.undef,encV,List.map_cons,List.map_nil,cpR_pure c68]
theorem ap_t {S : Store} {j : Nat} {l ys : List Int} {t : Tag} (h : S[j]? = some (.tok l.length 1 3)) (hl : l.length + ys.length ≤ 2000000) : appendOp false 1 8 3 S (.tsl j (oneI l)) (.iv (.sl t (oneI ys))) = some (.tsl j (oneI (l ++ ys)),S.set j (.tok (l.length + ys.length) 1 3)) := by
 have hx : IsEl S (.iv (.sl t (oneI ys))) (oneI ys) := IsEl.sl ..
 have := ap_tsl (b := 8) hx (oneI_el ys) (oneI_el l) (by rw [oneI_len]; exact h) (roomy_ok (by rw [oneI_len,oneI_len]; omega))
 rw [oneI_len,oneI_len,show oneI l ++ oneI ys = oneI (l ++ ys) by simp [oneI,TM.one]] at this
 exact this
theorem call67 (n : Nat) (h : 0 < n ∧ n ≤ 2000000) (S : Store) : (lim K).call 67 [.iv (.sl .nil []),.iv (.int .i64 n)] S = .ret (.tsl S.length [],S ++ [.tok 0 1 3]) := by
 have hr : roomy n 8 = true := roomy_ok (by omega)
 have hn : ¬ (n : Int) ≤ 0 := by omega
 have hg : growOp 1 8 3 S (.iv (.sl .nil [])) (n : Int) = some (.rsv S.length [] n,S ++ [.tok 0 1 3]) := by
  simp [growOp,fits,hr,hn,Int.toNat_natCast,show ¬ n = 0 by omega]
 have h0 : ∀ n : Int,n - (0 - ((0 : Nat) : Int)) = n := fun n => by omega
 have e1 : natV (capOf (.iv (.sl .nil []))) = some (.iv (.int .i64 0)) := id rfl
 have e2 : ∀ S : Store,sliceOp S (.sl 1) (.iv (.sl .nil [])) none (some 0) none = some (.iv (.sl .nil [])) := fun S => rfl
 have e3 : ∀ (S : Store) (i n : Nat),sliceOp S (.sl 1) (.rsv i [] n) none (some 0) none = some (.tsl i []) := fun S i n => rfl
 have e4 : ∀ (S : Store) (i n : Nat),sliceOp S (.sl 1) (.rsv i [] n) none (some ((0 : Nat) : Int)) none = some (.tsl i []) := fun S i n => rfl
 refine call_ret' K S (fn := t67) rfl rfl ?_
 simp (config := { maxSteps := 4000000 }) (disch := omega) only [t67,go_sem,TM.undef,e1,e2,e3,e4,wrap_i64,h0,fun env => grV_eq (env := env) hg]
def encP (p : Tag × List Int) : List IV := [.sl p.1 (oneI p.2)]
def sumL : List (Tag × List Int) → Nat
 | [] => 0
 | p :: r => p.2.length + sumL r
def catL : List (Tag × List Int) → List Int
 | [] => []
 | p :: r => p.2 ++ catL r
theorem catL_len : ∀ E : List (Tag × List Int),(catL E).length = sumL E
 | [] => rfl
 | p :: r => by rw [catL,sumL,List.length_append,catL_len r]
theorem getp {E : List (Tag × List Int)} {i : Nat} (h : i < E.length) : ∃ p,E.drop i = p :: E.drop (i + 1) ∧ indexAddrS 1 (.iv (.sl .full (E.map encP))) (i : Int) = some (.iv (.cp [.sl p.1 (oneI p.2)])) := by
 refine ⟨E[i],List.drop_eq_getElem_cons h,?_⟩
 refine ix_ok (by omega) ?_ rfl
 rw [Int.toNat_natCast,List.getElem?_map,List.getElem?_eq_getElem h]
 rfl
theorem loop45a (E : List (Tag × List Int)) (hE : E.length ≤ 10) (x1 x4 x5 x10 x11 x12 x13 x14 : TV) (S : Store) : ∀ (k i z : Nat) (x3 x9 x10' : TV),i + k = E.length → z + sumL (E.drop i) ≤ 2000000 →
  ∃ y3 y9 y10 : TV,lp' (lim K) t45L1 [.iv (.sl .full (E.map encP)),x1,.iv (.int .i64 z),x3,x4,x5,.iv (.sl .full (E.map encP)),.iv (.int .i64 E.length),.iv (.int .i64 i),x9,x10',x11,x12,x13,x14] S
   = .ret (.exit 0,[.iv (.sl .full (E.map encP)),x1,.iv (.int .i64 (z + sumL (E.drop i) : Nat)),y3,x4,x5,.iv (.sl .full (E.map encP)),.iv (.int .i64 E.length),.iv (.int .i64 E.length),y9,y10,x11,x12,x13,x14],S)
 | 0,i,z,x3,x9,x10',h,hz => by
  obtain rfl : i = E.length := by omega
  rw [List.drop_length,sumL,Nat.add_zero]
  refine ⟨x3,.iv (.bool false),x10',loop_at K _ _ t45L1.eq_1 ?_⟩
  simp (config := { maxSteps := 4000000 }) (disch := omega) only [go_sem]
 | k + 1,i,z,x3,x9,x10',h,hz => by
  have hla : i < E.length := by omega
  obtain ⟨p,hdr,hix⟩ := getp hla
  rw [hdr,sumL] at hz ⊢
  obtain ⟨y3,y9,y10,ih⟩ := loop45a E hE x1 x4 x5 x10 x11 x12 x13 x14 S k (i + 1) (z + p.2.length) (.iv (.sl p.1 (oneI p.2))) (.iv (.bool true)) (.iv (.bool false)) (by omega) (by omega)
  rw [show ((i + 1 : Nat) : Int) = (i : Int) + 1 by omega,show ((z + p.2.length : Nat) : Int) = (z : Int) + (p.2.length : Int) by omega,Nat.add_assoc] at ih
  refine ⟨y3,y9,y10,loop_at K _ _ t45L1.eq_1 ?_⟩
  simp (config := { maxSteps := 4000000 }) (disch := omega) only [go_sem,hix,oneI_len,wrap_i64]
  exact congrArg er ih
theorem loop45b (E : List (Tag × List Int)) (hE : E.length ≤ 10) (j : Nat) (x1 x2 x3 x6 x7 x8 x9 x10 : TV) : ∀ (k i : Nat) (l : List Int) (S : Store) (x5 x14 : TV),i + k = E.length → S[j]? = some (.tok l.length 1 3) → l.length + sumL (E.drop i) ≤ 2000000 →
  ∃ y5 y14 : TV,lp' (lim K) t45L0 [.iv (.sl .full (E.map encP)),x1,x2,x3,.tsl j (oneI l),x5,x6,x7,x8,x9,x10,.iv (.sl .full (E.map encP)),.iv (.int .i64 E.length),.iv (.int .i64 i),x14] S
   = .ret (.exit 2,[.iv (.sl .full (E.map encP)),x1,x2,x3,.tsl j (oneI (l ++ catL (E.drop i))),y5,x6,x7,x8,x9,x10,.iv (.sl .full (E.map encP)),.iv (.int .i64 E.length),.iv (.int .i64 E.length),y14],S.set j (.tok (l.length + sumL (E.drop i)) 1 3))
 | 0,i,l,S,x5,x14,h,hS,hz => by
  obtain rfl : i = E.length := by omega
  rw [List.drop_length,sumL,catL,Nat.add_zero,List.append_nil,set_row hS]
  refine ⟨x5,.iv (.bool false),loop_at K _ _ t45L0.eq_1 ?_⟩
  simp (config := { maxSteps := 4000000 }) (disch := omega) only [go_sem]
 | k + 1,i,l,S,x5,x14,h,hS,hz => by
  have hla : i < E.length := by omega
  obtain ⟨p,hdr,hix⟩ := getp hla
  rw [hdr,sumL] at hz ⊢
  rw [catL]
  have ha := ap_t (ys := p.2) (t := p.1) hS (by omega)
  obtain ⟨y5,y14,ih⟩ := loop45b E hE j x1 x2 x3 x6 x7 x8 x9 x10 k (i + 1) (l ++ p.2) (S.set j (.tok (l.length + p.2.length) 1 3)) (.iv (.sl p.1 (oneI p.2))) (.iv (.bool true)) (by omega) (by rw [get_setS (lt_get hS),List.length_append]) (by rw [List.length_append]; omega)
  rw [show ((i + 1 : Nat) : Int) = (i : Int) + 1 by omega,List.set_set,List.length_append,List.append_assoc,Nat.add_assoc] at ih
  refine ⟨y5,y14,loop_at K _ _ t45L0.eq_1 ?_⟩
  simp (config := { maxSteps := 4000000 }) (disch := omega) only [go_sem,hix,ha,wrap_i64]
  exact congrArg er ih
theorem call45 (E : List (Tag × List Int)) (hE : E.length ≤ 10) (h0 : 0 < sumL E) (hz : sumL E ≤ 2000000) (S : Store) : (lim K).call 45 [.iv (.sl .full (E.map encP))] S = .ret (.tsl S.length (oneI (catL E)),S ++ [.tok (catL E).length 1 3]) := by
 obtain ⟨y3,y9,y10,l1⟩ := loop45a E hE (.iv (.sl .nil [])) (.tup []) (.tup []) (.tup []) (.tup []) (.tup []) (.tup []) (.tup []) S E.length 0 0 (.tup []) (.tup []) (.tup []) (by omega) (by simpa using hz)
 rw [List.drop_zero,Nat.zero_add,show ((0 : Nat) : Int) = 0 from rfl] at l1
 have c67 := call67 (sumL E) ⟨h0,hz⟩ S
 have hS : (S ++ [.tok 0 1 3])[S.length]? = some (.tok ([] : List Int).length 1 3) := by simp
 obtain ⟨y5,y14,l2⟩ := loop45b E hE S.length (.iv (.sl .nil [])) (.iv (.int .i64 (sumL E : Nat))) y3 (.iv (.sl .full (E.map encP))) (.iv (.int .i64 E.length)) (.iv (.int .i64 E.length)) y9 y10 E.length 0 [] _ (.tup []) (.tup []) (by omega) hS (by simpa using hz)
 rw [List.drop_zero,List.nil_append,show ((0 : Nat) : Int) = 0 from rfl,show oneI [] = [] from rfl,List.set_append_right _ _ (Nat.le_refl _),Nat.sub_self,List.set_cons_zero,List.length_nil,Nat.zero_add] at l2
 rw [catL_len]
 refine call_ret' K S (fn := t45) rfl rfl ?_
 have hl : (E.map encP).length = E.length := List.length_map _
 simp (config := { maxSteps := 4000000 }) (disch := omega) only [t45,go_sem,TM.undef,hl]
 rw [l1]
 simp (config := { maxSteps := 4000000 }) (disch := omega) only [go_sem,c67,hl]
 rw [l2]
 simp (config := { maxSteps := 4000000 }) (disch := omega) only [go_sem]
def bxF (fn rg sl nd pr : Int) (rs : Bool) (ti : Tag) (ins : List VI) : Block := .cells 25 false [.iv (.int .i64 fn),.iv (.int .i64 rg),.iv (.int .i64 sl),.iv (.int .i64 nd),.iv (.int .i64 pr),.iv (.bool rs),.iv (.sl ti (ins.map encV))]
theorem call48 {fn rg sl nd pr : Int} {rs : Bool} {ti : Tag} {ins : List VI} {S : Store} (h : S[0]? = some (bxF fn rg sl nd pr rs ti ins)) (x : Int) : (lim K).call 48 [.iv (.int .i64 x),.ptr 0 25 0] S = .ret (.iv (.bool (decide (x < 0 ∨ rg ≤ x))),S) := by
 unfold bxF at h
 refine call_ret' K S (fn := t48) rfl rfl ?_
 rcases (by omega : x < 0 ∨ (0 ≤ x ∧ rg ≤ x) ∨ (0 ≤ x ∧ x < rg)) with h1 | h1 | h1
 ·rw [decide_eq_true (.inl h1)]; simp (config := { maxSteps := 4000000 }) (disch := omega) only [t48,go_sem,TM.undef,h]
 ·rw [decide_eq_true (.inr h1.2)]; simp (config := { maxSteps := 4000000 }) (disch := omega) only [t48,go_sem,TM.undef,h]
 ·rw [decide_eq_false (by omega)]; simp (config := { maxSteps := 4000000 }) (disch := omega) only [t48,go_sem,TM.undef,h]
theorem ix_t {j : Nat} {l : List Int} {i : Nat} (h : i < l.length) : indexAddrS 1 (.tsl j (oneI l)) (i : Int) = some (.iv (.cp [.int .i64 (l.getD i 0)])) := by
 have h1 := ix_one (f := IV.int .i64) (t := .no) (l := l) (i := (i : Int)) (by omega)
 rw [Int.toNat_natCast] at h1
 exact h1
def badR (rg x : Int) : Bool := decide (x < 0 ∨ rg ≤ x)
theorem loop42b {fn rg sl nd pr : Int} {rs : Bool} {ti : Tag} {ins : List VI} {S : Store} (h : S[0]? = some (bxF fn rg sl nd pr rs ti ins)) (j : Nat) (l : List Int) (hl : l.length ≤ 3000000) : ∀ (k i : Nat) (x2 x3 x6 x7 : TV),i + k = l.length → (∀ x ∈ l.take i,badR rg x = false) →
  ∃ (jj : Jump) (y2 y3 y5 y6 y7 : TV),lp' (lim K) t42L0 [.tsl j (oneI l),.fn 48 [] [.ptr 0 25 0],x2,x3,.iv (.int .i64 l.length),.iv (.int .i64 i),x6,x7] S
   = .ret (jj,[.tsl j (oneI l),.fn 48 [] [.ptr 0 25 0],y2,y3,.iv (.int .i64 l.length),y5,y6,y7],S) ∧
   (jj = .exit 0 ∧ l.any (badR rg) = false ∨ jj = .ret ∧ l.any (badR rg) = true ∧ ∃ q : Nat,y2 = .iv (.int .i64 q))
 | 0,i,x2,x3,x6,x7,hk,hq => by
  obtain rfl : i = l.length := by omega
  rw [List.take_length] at hq
  refine ⟨.exit 0,x2,x3,.iv (.int .i64 l.length),.iv (.bool false),x7,loop_at K _ _ t42L0.eq_1 ?_,.inl ⟨rfl,?_⟩⟩
  ·simp (config := { maxSteps := 4000000 }) (disch := omega) only [go_sem]
  ·rw [List.any_eq_false]
   intro x hx; rw [hq x hx]; simp
 | k + 1,i,x2,x3,x6,x7,hk,hq => by
  have hla : i < l.length := by omega
  have i1 := ix_t (j := j) hla
  have c48 := call48 h (l.getD i 0)
  have hts := take_succD hla
  cases hd : badR rg (l.getD i 0) with
  | true =>
   rw [show decide (l.getD i 0 < 0 ∨ rg ≤ l.getD i 0) = true from hd] at c48
   refine ⟨.ret,.iv (.int .i64 i),.iv (.int .i64 i),.iv (.int .i64 i),.iv (.bool true),.iv (.bool true),loop_at K _ _ t42L0.eq_1 ?_,.inr ⟨rfl,List.any_eq_true.2 ⟨_,getD_mem hla,hd⟩,i,rfl⟩⟩
   simp (config := { maxSteps := 4000000 }) (disch := omega) only [go_sem,i1,c48]
  | false =>
   rw [show decide (l.getD i 0 < 0 ∨ rg ≤ l.getD i 0) = false from hd] at c48
   obtain ⟨jj,y2,y3,y5,y6,y7,ih,hj⟩ := loop42b h j l hl k (i + 1) x2 (.iv (.int .i64 i)) (.iv (.bool true)) (.iv (.bool false)) (by omega) (fun x hx => by
    rw [hts,List.mem_append,List.mem_singleton] at hx
    rcases hx with hx | rfl
    ·exact hq x hx
    ·exact hd)
   rw [show ((i + 1 : Nat) : Int) = (i : Int) + 1 by omega] at ih
   refine ⟨jj,y2,y3,y5,y6,y7,loop_at K _ _ t42L0.eq_1 ?_,hj⟩
   simp (config := { maxSteps := 4000000 }) (disch := omega) only [go_sem,i1,c48,wrap_i64]
   exact congrArg er ih
theorem call47 {fn rg sl nd pr : Int} {rs : Bool} {ti : Tag} {ins : List VI} {S : Store} (h : S[0]? = some (bxF fn rg sl nd pr rs ti ins)) (j : Nat) (l : List Int) (hl : l.length ≤ 3000000) : (lim K).call 47 [.tsl j (oneI l),.fn 48 [] [.ptr 0 25 0]] S = .ret (.iv (.bool (l.any (badR rg))),S) := by
 obtain ⟨jj,y2,y3,y5,y6,y7,l1,hj⟩ := loop42b h j l hl l.length 0 (.iv (.int .i64 0)) (.tup []) (.tup []) (.tup []) (by omega) (by simp)
 rw [show ((0 : Nat) : Int) = 0 from rfl] at l1
 have hll : (oneI l).length = l.length := oneI_len l
 rcases hj with ⟨rfl,hj⟩ | ⟨rfl,hj,q,rfl⟩
 ·have c42 : (lim K).call 42 [.tsl j (oneI l),.fn 48 [] [.ptr 0 25 0]] S = .ret (.iv (.int .i64 (-1)),S) := by
   refine call_ret' K S (fn := t42) rfl rfl ?_
   simp (config := { maxSteps := 4000000 }) (disch := omega) only [t42,go_sem,TM.undef,hll]
   rw [l1]
   simp (config := { maxSteps := 4000000 }) (disch := omega) only [go_sem]
  rw [hj]
  refine call_ret' K S (fn := t47) rfl rfl ?_
  simp (config := { maxSteps := 4000000 }) (disch := omega) only [t47,go_sem,TM.undef,c42]
 ·have c42 : (lim K).call 42 [.tsl j (oneI l),.fn 48 [] [.ptr 0 25 0]] S = .ret (.iv (.int .i64 q),S) := by
   refine call_ret' K S (fn := t42) rfl rfl ?_
   simp (config := { maxSteps := 4000000 }) (disch := omega) only [t42,go_sem,TM.undef,hll]
   rw [l1]
   simp (config := { maxSteps := 4000000 }) (disch := omega) only [go_sem]
  rw [hj]
  refine call_ret' K S (fn := t47) rfl rfl ?_
  simp (config := { maxSteps := 4000000 }) (disch := omega) only [t47,go_sem,TM.undef,c42]
theorem lkB_vI (l : List (Nat × Int × Int)) (c : Nat) (k : Int) : lkB (.leaf .int) (.int .i64 0) false (some (.mp (mpR vI l) c)) (.iv (.int .i64 k)) = some (.iv (.int .i64 (cntR l k))) := by
 rw [lkB_mp]
 simp only [cntR,Bool.false_eq_true,↓reduceIte]
 cases getR l k <;> rfl
theorem upB_vI (l : List (Nat × Int × Int)) (c : Nat) (env : Env) (S : Store) (j : Nat) (k a : Int) : upB (.leaf .int) env S j (some (.mp (mpR vI l) c)) (.iv (.int .i64 k)) (.iv (.int .i64 a)) = some (TM.undef,env,S.set j (.mp (mpR vI (putR l c k a)) (clkR l c k))) :=
 upB_mp vI l c env S j k a rfl rfl
def cntL (l : List VI) (L : Int) : Int := ((l.filter fun x => decide (x.op = 65) && decide (x.lb = L)).length : Nat)
theorem cntL_snoc (l : List VI) (x : VI) (L : Int) : cntL (l ++ [x]) L = if x.op = 65 ∧ x.lb = L then cntL l L + 1 else cntL l L := by
 unfold cntL
 rw [List.filter_append,List.length_append]
 by_cases e : x.op = 65 ∧ x.lb = L
 ·rw [if_pos e]; simp [e]
 ·rw [if_neg e]
  have : (decide (x.op = 65) && decide (x.lb = L)) = false := by
   cases h1 : (decide (x.op = 65) && decide (x.lb = L)) with
   | false => rfl
   | true => simp at h1; exact absurd h1 e
  simp [List.filter_cons,this]
theorem cntL_le (l : List VI) (L : Int) : 0 ≤ cntL l L ∧ cntL l L ≤ l.length := by
 unfold cntL
 have := List.length_filter_le (fun x : VI => decide (x.op = 65) && decide (x.lb = L)) l
 omega
theorem loop35a {fn rg sl nd pr : Int} {rs : Bool} {ti : Tag} {ins : List VI} (hn : ins.length ≤ 1000000) (x0 x1 x2 x5 x6 x7 x8 x14 x15 x16 x17 x18 x19 x20 x21 : TV) : ∀ (k i : Nat) (S : Store) (rows : List (Nat × Int × Int)) (c : Nat) (x4 x12 x13 : TV),i + k = ins.length → S[0]? = some (bxF fn rg sl nd pr rs ti ins) → S[1]? = some (.mp (mpR vI rows) c) → (∀ L,cntR rows L = cntL (ins.take i) L) →
  ∃ (S' : Store) (rows' : List (Nat × Int × Int)) (c' : Nat) (y4 y12 y13 : TV),lp' (lim K) t35L1 [x0,x1,x2,.map 1,x4,x5,x6,x7,x8,.iv (.sl ti (ins.map encV)),.iv (.int .i64 ins.length),.iv (.int .i64 i),x12,x13,x14,x15,x16,x17,x18,x19,x20,x21] S
   = .ret (.exit 0,[x0,x1,x2,.map 1,y4,x5,x6,x7,x8,.iv (.sl ti (ins.map encV)),.iv (.int .i64 ins.length),.iv (.int .i64 ins.length),y12,y13,x14,x15,x16,x17,x18,x19,x20,x21],S') ∧
   S'[0]? = some (bxF fn rg sl nd pr rs ti ins) ∧ S'[1]? = some (.mp (mpR vI rows') c') ∧ ∀ L,cntR rows' L = cntL ins L
 | 0,i,S,rows,c,x4,x12,x13,h,h0,h1,hc => by
  obtain rfl : i = ins.length := by omega
  rw [List.take_length] at hc
  refine ⟨S,rows,c,x4,.iv (.bool false),x13,loop_at K _ _ t35L1.eq_1 ?_,h0,h1,hc⟩
  simp (config := { maxSteps := 4000000 }) (disch := omega) only [go_sem]
 | k + 1,i,S,rows,c,x4,x12,x13,h,h0,h1,hc => by
  have hla : i < ins.length := by omega
  have hix := ix_map (w := 8) (f := encV) encV_len (t := ti) (l := ins) (i := (i : Int)) (by omega)
  rw [Int.toNat_natCast] at hix
  have hts : ins.take (i + 1) = ins.take i ++ [ins.getD i default] := by
   rw [List.take_add_one,List.getElem?_eq_getElem hla]
   simp [List.getD,List.getElem?_eq_getElem hla]
  have hsn := fun L => cntL_snoc (ins.take i) (ins.getD i default) L
  rw [← hts] at hsn
  have hle := cntL_le (ins.take i) (ins.getD i default).lb
  rw [List.length_take] at hle
  generalize ins.getD i default = x at *
  rw [encV_eq] at hix
  by_cases hop : x.op = 65
  ·obtain ⟨S',rows',c',y4,y12,y13,ih,hx⟩ := loop35a (fn := fn) (rg := rg) (sl := sl) (nd := nd) (pr := pr) (rs := rs) (ti := ti) hn x0 x1 x2 x5 x6 x7 x8 x14 x15 x16 x17 x18 x19 x20 x21 k (i + 1) (S.set 1 (.mp (mpR vI (putR rows c x.lb (cntR rows x.lb + 1))) (clkR rows c x.lb))) _ _ (.lb ((encV x).map .iv)) (.iv (.bool true)) (.iv (.bool true)) (by omega) (by rw [get_setN (by decide)]; exact h0) (get_setS (lt_get h1) _) (fun L => by
    rw [hsn L]
    unfold cntR
    rw [getR_put]
    by_cases e : x.lb = L
    ·subst e
     rw [if_pos rfl,if_pos ⟨hop,rfl⟩,← hc]; rfl
    ·rw [if_neg e,if_neg (fun h => e h.2),← hc]; rfl)
   rw [show ((i + 1 : Nat) : Int) = (i : Int) + 1 by omega,encV_tv] at ih
   refine ⟨S',rows',c',y4,y12,y13,loop_at K _ _ t35L1.eq_1 ?_,hx⟩
   have hc2 := hc x.lb
   have hw : IntKind.i64.wrap (cntR rows x.lb + 1) = cntR rows x.lb + 1 := wrap_i64 (by omega)
   simp (config := { maxSteps := 4000000 }) (disch := omega) only [go_sem,hix,h1,lkB_vI,upB_vI,hw,wrap_i64]
   exact congrArg er ih
  ·obtain ⟨S',rows',c',y4,y12,y13,ih,hx⟩ := loop35a (fn := fn) (rg := rg) (sl := sl) (nd := nd) (pr := pr) (rs := rs) (ti := ti) hn x0 x1 x2 x5 x6 x7 x8 x14 x15 x16 x17 x18 x19 x20 x21 k (i + 1) S rows c (.lb ((encV x).map .iv)) (.iv (.bool true)) (.iv (.bool false)) (by omega) h0 h1 (fun L => by
    rw [hsn L,if_neg (fun h => hop h.1)]; exact hc L)
   rw [show ((i + 1 : Nat) : Int) = (i : Int) + 1 by omega,encV_tv] at ih
   refine ⟨S',rows',c',y4,y12,y13,loop_at K _ _ t35L1.eq_1 ?_,hx⟩
   simp (config := { maxSteps := 4000000 }) (disch := omega) only [go_sem,hix,wrap_i64]
   exact congrArg er ih
def regsOf (x : VI) : List Int := x.a :: x.b :: x.us ++ (if x.op ≠ 67 ∨ 0 ≤ x.d then [x.d] else [])
def goesX (x : VI) : Bool := decide (26 ≤ x.op ∧ x.op ≤ 31) || decide (x.op = 66) || decide (x.op = 65)
def badI (rg : Int) (ins : List VI) (x : VI) : Bool := !formedM x.op x.im || ((regsOf x).any (badR rg) || (goesX x && decide (cntL ins x.lb ≠ 1)))
theorem loop35b {fn rg sl nd pr : Int} {rs : Bool} {ti : Tag} {ins : List VI} (hn : ins.length ≤ 1000000) (hus : ∀ x ∈ ins,x.us.length ≤ 999990 ∧ TagOk x.tu x.us) {rows : List (Nat × Int × Int)} {c : Nat} (hc : ∀ L,cntR rows L = cntL ins L) (x0 x4 x8 x9 x10 x11 x12 x13 x20 x21 : TV) : ∀ (k i : Nat) (S : Store) (x2 x5 x6 x7 x17 x18 x19 : TV),i + k = ins.length → S[0]? = some (bxF fn rg sl nd pr rs ti ins) → S[1]? = some (.mp (mpR vI rows) c) →
  ∃ (S' : Store) (jj : Jump) (y2 y5 y6 y7 y16 y17 y18 y19 : TV),lp' (lim K) t35L0 [x0,.ptr 0 25 0,x2,.map 1,x4,x5,x6,x7,x8,x9,x10,x11,x12,x13,.iv (.sl ti (ins.map encV)),.iv (.int .i64 ins.length),.iv (.int .i64 i),x17,x18,x19,x20,x21] S
   = .ret (jj,[x0,.ptr 0 25 0,y2,.map 1,x4,y5,y6,y7,x8,x9,x10,x11,x12,x13,.iv (.sl ti (ins.map encV)),.iv (.int .i64 ins.length),y16,y17,y18,y19,x20,x21],S') ∧
   S'[0]? = some (bxF fn rg sl nd pr rs ti ins) ∧ (jj = .exit 2 ∧ (ins.drop i).any (badI rg ins) = false ∨ jj = .ret ∧ y2 = .iv (.int .i64 2) ∧ (ins.drop i).any (badI rg ins) = true)
 | 0,i,S,x2,x5,x6,x7,x17,x18,x19,h,h0,h1 => by
  obtain rfl : i = ins.length := by omega
  rw [List.drop_length]
  refine ⟨S,.exit 2,x2,x5,x6,x7,.iv (.int .i64 ins.length),.iv (.bool false),x18,x19,loop_at K _ _ t35L0.eq_1 ?_,h0,.inl ⟨rfl,rfl⟩⟩
  simp (config := { maxSteps := 4000000 }) (disch := omega) only [go_sem]
 | k + 1,i,S,x2,x5,x6,x7,x17,x18,x19,h,h0,h1 => by
  have hla : i < ins.length := by omega
  have hix := ix_map (w := 8) (f := encV) encV_len (t := ti) (l := ins) (i := (i : Int)) (by omega)
  rw [Int.toNat_natCast] at hix
  have hdr := drop_get hla
  obtain ⟨hu1,hu2⟩ := hus (ins.getD i default) (by simp only [List.getD,List.getElem?_eq_getElem hla,Option.getD_some]; exact List.getElem_mem _)
  have c46 := call46 (ins.getD i default)
  have ihs := fun S x2 x5 x6 x7 x17 x18 x19 => loop35b (fn := fn) (rg := rg) (sl := sl) (nd := nd) (pr := pr) (rs := rs) (ti := ti) (c := c) hn hus hc x0 x4 x8 x9 x10 x11 x12 x13 x20 x21 k (i + 1) S x2 x5 x6 x7 x17 x18 x19 (by omega)
  rw [hdr,List.any_cons]
  have hcx := hc (ins.getD i default).lb
  generalize ins.getD i default = x at *
  have c45 := call45 [(.full,[x.a,x.b]),(x.tu,x.us)] (by simp) (show 0 < 2 + (x.us.length + 0) by omega) (show 2 + (x.us.length + 0) ≤ 2000000 by omega) S
  have hcat : catL [(.full,[x.a,x.b]),(x.tu,x.us)] = x.a :: x.b :: x.us := by simp [catL]
  rw [hcat,show [((.full : Tag),[x.a,x.b]),(x.tu,x.us)].map encP = [[.sl .full [[.int .i64 x.a],[.int .i64 x.b]]],[.sl x.tu (TM.one (.int .i64) x.us)]] from rfl] at c45
  have hS1 : (S ++ [Block.tok (x.a :: x.b :: x.us).length 1 3])[S.length]? = some (.tok (x.a :: x.b :: x.us).length 1 3) := by simp
  have ha := ap_t (ys := [x.d]) (t := .full) hS1 (by simp; omega)
  rw [show oneI [x.d] = [[.int .i64 x.d]] from rfl] at ha
  have k1 : Keep [] S (S ++ [Block.tok (x.a :: x.b :: x.us).length 1 3]) := Keep.app _ _ _
  have n0 : 0 < S.length := lt_get h0
  have n1 : 1 < S.length := lt_get h1
  have z0 := get_appO h0 [Block.tok (x.a :: x.b :: x.us).length 1 3]
  have z1 := get_appO h1 [Block.tok (x.a :: x.b :: x.us).length 1 3]
  have z0' : ((S ++ [Block.tok (x.a :: x.b :: x.us).length 1 3]).set S.length (Block.tok ((x.a :: x.b :: x.us).length + [x.d].length) 1 3))[0]? = some (bxF fn rg sl nd pr rs ti ins) := by rw [get_setN (by omega)]; exact z0
  have z1' : ((S ++ [Block.tok (x.a :: x.b :: x.us).length 1 3]).set S.length (Block.tok ((x.a :: x.b :: x.us).length + [x.d].length) 1 3))[1]? = some (.mp (mpR vI rows) c) := by rw [get_setN (by omega)]; exact z1
  have c47 := call47 z0 S.length (x.a :: x.b :: x.us) (by simp; omega)
  have c47' := call47 z0' S.length ((x.a :: x.b :: x.us) ++ [x.d]) (by simp; omega)
  rw [encV_eq] at hix c46
  have hbad : badI rg ins x = (!formedM x.op x.im || ((regsOf x).any (badR rg) || (goesX x && decide (cntL ins x.lb ≠ 1)))) := rfl
  rw [hbad]
  generalize hfm : formedM x.op x.im = fm at *
  generalize hcn : cntL ins x.lb = cn at *
  generalize hR1 : (x.a :: x.b :: x.us : List Int) = R1 at *
  generalize hT1 : S ++ [Block.tok R1.length 1 3] = T1 at *
  generalize hT2 : T1.set S.length (.tok (R1.length + [x.d].length) 1 3) = T2 at *
  by_cases hA : x.op = 67 ∧ x.d < 0
  ·obtain ⟨hA1,hA2⟩ := hA
   have hr : regsOf x = R1 := by rw [← hR1]; unfold regsOf; rw [if_neg (by omega),List.append_nil]
   have hg : goesX x = false := by unfold goesX; simp; omega
   rw [hr,hg]
   generalize (R1).any (badR rg) = an at *
   cases fm with
   | false =>
    refine ⟨T1,.ret,.iv (.int .i64 2),.lb ((encV x).map .iv),.tsl S.length (oneI (R1)),.iv (.bool false),.iv (.int .i64 i),.iv (.bool true),.iv (.bool false),.iv (.bool true),loop_at K _ _ t35L0.eq_1 ?_,z0,.inr ⟨rfl,rfl,rfl⟩⟩
    rw [encV_tv]
    simp (config := { maxSteps := 4000000 }) (disch := omega) only [go_sem,hix,c45,ha,cpR_pure c46,z1,lkB_vI,c47,hcx,wrap_i64]
   | true =>
    cases an with
    | true =>
     refine ⟨T1,.ret,.iv (.int .i64 2),.lb ((encV x).map .iv),.tsl S.length (oneI (R1)),.iv (.bool false),.iv (.int .i64 i),.iv (.bool true),.iv (.bool false),.iv (.bool true),loop_at K _ _ t35L0.eq_1 ?_,z0,.inr ⟨rfl,rfl,rfl⟩⟩
     rw [encV_tv]
     simp (config := { maxSteps := 4000000 }) (disch := omega) only [go_sem,hix,c45,ha,cpR_pure c46,z1,lkB_vI,c47,hcx,wrap_i64]
    | false =>
     obtain ⟨S',jj,y2,y5,y6,y7,y16,y17,y18,y19,ih,hz,hj⟩ := ihs T1 x2 (.lb ((encV x).map .iv)) (.tsl S.length (oneI (R1))) (.iv (.bool false)) (.iv (.bool true)) (.iv (.bool false)) (.iv (.bool false)) z0 z1
     rw [show ((i + 1 : Nat) : Int) = (i : Int) + 1 by omega,encV_tv] at ih
     refine ⟨S',jj,y2,y5,y6,y7,y16,y17,y18,y19,loop_at K _ _ t35L0.eq_1 ?_,hz,?_⟩
     ·simp (config := { maxSteps := 4000000 }) (disch := omega) only [go_sem,hix,c45,ha,cpR_pure c46,z1,lkB_vI,c47,hcx,wrap_i64]
      exact congrArg er ih
     ·simpa  using hj
  ·have hD : x.op ≠ 67 ∨ 0 ≤ x.d := by omega
   by_cases hB : x.op = 67
   ·have hB2 : 0 ≤ x.d := by omega
    have hr : regsOf x = R1 ++ [x.d] := by rw [← hR1]; unfold regsOf; rw [if_pos hD]
    have hg : goesX x = false := by unfold goesX; simp; omega
    rw [hr,hg]
    generalize (R1 ++ [x.d]).any (badR rg) = an at *
    cases fm with
    | false =>
     refine ⟨T2,.ret,.iv (.int .i64 2),.lb ((encV x).map .iv),.tsl S.length (oneI (R1 ++ [x.d])),.iv (.bool false),.iv (.int .i64 i),.iv (.bool true),.iv (.bool true),.iv (.bool true),loop_at K _ _ t35L0.eq_1 ?_,z0',.inr ⟨rfl,rfl,rfl⟩⟩
     rw [encV_tv]
     simp (config := { maxSteps := 4000000 }) (disch := omega) only [go_sem,hix,c45,ha,cpR_pure c46,z1',lkB_vI,c47',hcx,wrap_i64]
    | true =>
     cases an with
     | true =>
      refine ⟨T2,.ret,.iv (.int .i64 2),.lb ((encV x).map .iv),.tsl S.length (oneI (R1 ++ [x.d])),.iv (.bool false),.iv (.int .i64 i),.iv (.bool true),.iv (.bool true),.iv (.bool true),loop_at K _ _ t35L0.eq_1 ?_,z0',.inr ⟨rfl,rfl,rfl⟩⟩
      rw [encV_tv]
      simp (config := { maxSteps := 4000000 }) (disch := omega) only [go_sem,hix,c45,ha,cpR_pure c46,z1',lkB_vI,c47',hcx,wrap_i64]
     | false =>
      obtain ⟨S',jj,y2,y5,y6,y7,y16,y17,y18,y19,ih,hz,hj⟩ := ihs T2 x2 (.lb ((encV x).map .iv)) (.tsl S.length (oneI (R1 ++ [x.d]))) (.iv (.bool false)) (.iv (.bool true)) (.iv (.bool true)) (.iv (.bool false)) z0' z1'
      rw [show ((i + 1 : Nat) : Int) = (i : Int) + 1 by omega,encV_tv] at ih
      refine ⟨S',jj,y2,y5,y6,y7,y16,y17,y18,y19,loop_at K _ _ t35L0.eq_1 ?_,hz,?_⟩
      ·simp (config := { maxSteps := 4000000 }) (disch := omega) only [go_sem,hix,c45,ha,cpR_pure c46,z1',lkB_vI,c47',hcx,wrap_i64]
       exact congrArg er ih
      ·simpa  using hj
   ·rcases (by omega : x.op < 26 ∨ (26 ≤ x.op ∧ x.op ≤ 31) ∨ (31 < x.op ∧ x.op < 65) ∨ x.op = 65 ∨ x.op = 66 ∨ 67 < x.op) with hC | hC | hC | hC | hC | hC
    ·have hr : regsOf x = R1 ++ [x.d] := by rw [← hR1]; unfold regsOf; rw [if_pos hD]
     have hg : goesX x = false := by unfold goesX; simp; omega
     rw [hr,hg]
     generalize (R1 ++ [x.d]).any (badR rg) = an at *
     cases fm with
     | false =>
      refine ⟨T2,.ret,.iv (.int .i64 2),.lb ((encV x).map .iv),.tsl S.length (oneI (R1 ++ [x.d])),.iv (.bool false),.iv (.int .i64 i),.iv (.bool true),.iv (.bool true),.iv (.bool true),loop_at K _ _ t35L0.eq_1 ?_,z0',.inr ⟨rfl,rfl,rfl⟩⟩
      rw [encV_tv]
      simp (config := { maxSteps := 4000000 }) (disch := omega) only [go_sem,hix,c45,ha,cpR_pure c46,z1',lkB_vI,c47',hcx,wrap_i64]
     | true =>
      cases an with
      | true =>
       refine ⟨T2,.ret,.iv (.int .i64 2),.lb ((encV x).map .iv),.tsl S.length (oneI (R1 ++ [x.d])),.iv (.bool false),.iv (.int .i64 i),.iv (.bool true),.iv (.bool true),.iv (.bool true),loop_at K _ _ t35L0.eq_1 ?_,z0',.inr ⟨rfl,rfl,rfl⟩⟩
       rw [encV_tv]
       simp (config := { maxSteps := 4000000 }) (disch := omega) only [go_sem,hix,c45,ha,cpR_pure c46,z1',lkB_vI,c47',hcx,wrap_i64]
      | false =>
       obtain ⟨S',jj,y2,y5,y6,y7,y16,y17,y18,y19,ih,hz,hj⟩ := ihs T2 x2 (.lb ((encV x).map .iv)) (.tsl S.length (oneI (R1 ++ [x.d]))) (.iv (.bool false)) (.iv (.bool true)) (.iv (.bool true)) (.iv (.bool false)) z0' z1'
       rw [show ((i + 1 : Nat) : Int) = (i : Int) + 1 by omega,encV_tv] at ih
       refine ⟨S',jj,y2,y5,y6,y7,y16,y17,y18,y19,loop_at K _ _ t35L0.eq_1 ?_,hz,?_⟩
       ·simp (config := { maxSteps := 4000000 }) (disch := omega) only [go_sem,hix,c45,ha,cpR_pure c46,z1',lkB_vI,c47',hcx,wrap_i64]
        exact congrArg er ih
       ·simpa  using hj
    ·have hr : regsOf x = R1 ++ [x.d] := by rw [← hR1]; unfold regsOf; rw [if_pos hD]
     have hg : goesX x = true := by unfold goesX; simp; omega
     rw [hr,hg]
     generalize (R1 ++ [x.d]).any (badR rg) = an at *
     cases fm with
     | false =>
      refine ⟨T2,.ret,.iv (.int .i64 2),.lb ((encV x).map .iv),.tsl S.length (oneI (R1 ++ [x.d])),.iv (.bool true),.iv (.int .i64 i),.iv (.bool true),.iv (.bool true),.iv (.bool true),loop_at K _ _ t35L0.eq_1 ?_,z0',.inr ⟨rfl,rfl,rfl⟩⟩
      rw [encV_tv]
      simp (config := { maxSteps := 4000000 }) (disch := omega) only [go_sem,hix,c45,ha,cpR_pure c46,z1',lkB_vI,c47',hcx,wrap_i64]
     | true =>
      cases an with
      | true =>
       refine ⟨T2,.ret,.iv (.int .i64 2),.lb ((encV x).map .iv),.tsl S.length (oneI (R1 ++ [x.d])),.iv (.bool true),.iv (.int .i64 i),.iv (.bool true),.iv (.bool true),.iv (.bool true),loop_at K _ _ t35L0.eq_1 ?_,z0',.inr ⟨rfl,rfl,rfl⟩⟩
       rw [encV_tv]
       simp (config := { maxSteps := 4000000 }) (disch := omega) only [go_sem,hix,c45,ha,cpR_pure c46,z1',lkB_vI,c47',hcx,wrap_i64]
      | false =>
       by_cases hc1 : cn = 1
       ·subst hc1
        obtain ⟨S',jj,y2,y5,y6,y7,y16,y17,y18,y19,ih,hz,hj⟩ := ihs T2 x2 (.lb ((encV x).map .iv)) (.tsl S.length (oneI (R1 ++ [x.d]))) (.iv (.bool true)) (.iv (.bool true)) (.iv (.bool true)) (.iv (.bool false)) z0' z1'
        rw [show ((i + 1 : Nat) : Int) = (i : Int) + 1 by omega,encV_tv] at ih
        refine ⟨S',jj,y2,y5,y6,y7,y16,y17,y18,y19,loop_at K _ _ t35L0.eq_1 ?_,hz,?_⟩
        ·simp (config := { maxSteps := 4000000 }) (disch := omega) only [go_sem,hix,c45,ha,cpR_pure c46,z1',lkB_vI,c47',hcx,wrap_i64]
         exact congrArg er ih
        ·simpa  using hj
       ·refine ⟨T2,.ret,.iv (.int .i64 2),.lb ((encV x).map .iv),.tsl S.length (oneI (R1 ++ [x.d])),.iv (.bool true),.iv (.int .i64 i),.iv (.bool true),.iv (.bool true),.iv (.bool true),loop_at K _ _ t35L0.eq_1 ?_,z0',.inr ⟨rfl,rfl,by simp [hc1]⟩⟩
        rw [encV_tv]
        simp (config := { maxSteps := 4000000 }) (disch := omega) only [go_sem,hix,c45,ha,cpR_pure c46,z1',lkB_vI,c47',hcx,wrap_i64]
    ·have hr : regsOf x = R1 ++ [x.d] := by rw [← hR1]; unfold regsOf; rw [if_pos hD]
     have hg : goesX x = false := by unfold goesX; simp; omega
     rw [hr,hg]
     generalize (R1 ++ [x.d]).any (badR rg) = an at *
     cases fm with
     | false =>
      refine ⟨T2,.ret,.iv (.int .i64 2),.lb ((encV x).map .iv),.tsl S.length (oneI (R1 ++ [x.d])),.iv (.bool false),.iv (.int .i64 i),.iv (.bool true),.iv (.bool true),.iv (.bool true),loop_at K _ _ t35L0.eq_1 ?_,z0',.inr ⟨rfl,rfl,rfl⟩⟩
      rw [encV_tv]
      simp (config := { maxSteps := 4000000 }) (disch := omega) only [go_sem,hix,c45,ha,cpR_pure c46,z1',lkB_vI,c47',hcx,wrap_i64]
     | true =>
      cases an with
      | true =>
       refine ⟨T2,.ret,.iv (.int .i64 2),.lb ((encV x).map .iv),.tsl S.length (oneI (R1 ++ [x.d])),.iv (.bool false),.iv (.int .i64 i),.iv (.bool true),.iv (.bool true),.iv (.bool true),loop_at K _ _ t35L0.eq_1 ?_,z0',.inr ⟨rfl,rfl,rfl⟩⟩
       rw [encV_tv]
       simp (config := { maxSteps := 4000000 }) (disch := omega) only [go_sem,hix,c45,ha,cpR_pure c46,z1',lkB_vI,c47',hcx,wrap_i64]
      | false =>
       obtain ⟨S',jj,y2,y5,y6,y7,y16,y17,y18,y19,ih,hz,hj⟩ := ihs T2 x2 (.lb ((encV x).map .iv)) (.tsl S.length (oneI (R1 ++ [x.d]))) (.iv (.bool false)) (.iv (.bool true)) (.iv (.bool true)) (.iv (.bool false)) z0' z1'
       rw [show ((i + 1 : Nat) : Int) = (i : Int) + 1 by omega,encV_tv] at ih
       refine ⟨S',jj,y2,y5,y6,y7,y16,y17,y18,y19,loop_at K _ _ t35L0.eq_1 ?_,hz,?_⟩
       ·simp (config := { maxSteps := 4000000 }) (disch := omega) only [go_sem,hix,c45,ha,cpR_pure c46,z1',lkB_vI,c47',hcx,wrap_i64]
        exact congrArg er ih
       ·simpa  using hj
    ·have hr : regsOf x = R1 ++ [x.d] := by rw [← hR1]; unfold regsOf; rw [if_pos hD]
     have hg : goesX x = true := by unfold goesX; simp; omega
     rw [hr,hg]
     generalize (R1 ++ [x.d]).any (badR rg) = an at *
     cases fm with
     | false =>
      refine ⟨T2,.ret,.iv (.int .i64 2),.lb ((encV x).map .iv),.tsl S.length (oneI (R1 ++ [x.d])),.iv (.bool true),.iv (.int .i64 i),.iv (.bool true),.iv (.bool true),.iv (.bool true),loop_at K _ _ t35L0.eq_1 ?_,z0',.inr ⟨rfl,rfl,rfl⟩⟩
      rw [encV_tv]
      simp (config := { maxSteps := 4000000 }) (disch := omega) only [go_sem,hix,c45,ha,cpR_pure c46,z1',lkB_vI,c47',hcx,wrap_i64]
     | true =>
      cases an with
      | true =>
       refine ⟨T2,.ret,.iv (.int .i64 2),.lb ((encV x).map .iv),.tsl S.length (oneI (R1 ++ [x.d])),.iv (.bool true),.iv (.int .i64 i),.iv (.bool true),.iv (.bool true),.iv (.bool true),loop_at K _ _ t35L0.eq_1 ?_,z0',.inr ⟨rfl,rfl,rfl⟩⟩
       rw [encV_tv]
       simp (config := { maxSteps := 4000000 }) (disch := omega) only [go_sem,hix,c45,ha,cpR_pure c46,z1',lkB_vI,c47',hcx,wrap_i64]
      | false =>
       by_cases hc1 : cn = 1
       ·subst hc1
        obtain ⟨S',jj,y2,y5,y6,y7,y16,y17,y18,y19,ih,hz,hj⟩ := ihs T2 x2 (.lb ((encV x).map .iv)) (.tsl S.length (oneI (R1 ++ [x.d]))) (.iv (.bool true)) (.iv (.bool true)) (.iv (.bool true)) (.iv (.bool false)) z0' z1'
        rw [show ((i + 1 : Nat) : Int) = (i : Int) + 1 by omega,encV_tv] at ih
        refine ⟨S',jj,y2,y5,y6,y7,y16,y17,y18,y19,loop_at K _ _ t35L0.eq_1 ?_,hz,?_⟩
        ·simp (config := { maxSteps := 4000000 }) (disch := omega) only [go_sem,hix,c45,ha,cpR_pure c46,z1',lkB_vI,c47',hcx,wrap_i64]
         exact congrArg er ih
        ·simpa  using hj
       ·refine ⟨T2,.ret,.iv (.int .i64 2),.lb ((encV x).map .iv),.tsl S.length (oneI (R1 ++ [x.d])),.iv (.bool true),.iv (.int .i64 i),.iv (.bool true),.iv (.bool true),.iv (.bool true),loop_at K _ _ t35L0.eq_1 ?_,z0',.inr ⟨rfl,rfl,by simp [hc1]⟩⟩
        rw [encV_tv]
        simp (config := { maxSteps := 4000000 }) (disch := omega) only [go_sem,hix,c45,ha,cpR_pure c46,z1',lkB_vI,c47',hcx,wrap_i64]
    ·have hr : regsOf x = R1 ++ [x.d] := by rw [← hR1]; unfold regsOf; rw [if_pos hD]
     have hg : goesX x = true := by unfold goesX; simp; omega
     rw [hr,hg]
     generalize (R1 ++ [x.d]).any (badR rg) = an at *
     cases fm with
     | false =>
      refine ⟨T2,.ret,.iv (.int .i64 2),.lb ((encV x).map .iv),.tsl S.length (oneI (R1 ++ [x.d])),.iv (.bool true),.iv (.int .i64 i),.iv (.bool true),.iv (.bool true),.iv (.bool true),loop_at K _ _ t35L0.eq_1 ?_,z0',.inr ⟨rfl,rfl,rfl⟩⟩
      rw [encV_tv]
      simp (config := { maxSteps := 4000000 }) (disch := omega) only [go_sem,hix,c45,ha,cpR_pure c46,z1',lkB_vI,c47',hcx,wrap_i64]
     | true =>
      cases an with
      | true =>
       refine ⟨T2,.ret,.iv (.int .i64 2),.lb ((encV x).map .iv),.tsl S.length (oneI (R1 ++ [x.d])),.iv (.bool true),.iv (.int .i64 i),.iv (.bool true),.iv (.bool true),.iv (.bool true),loop_at K _ _ t35L0.eq_1 ?_,z0',.inr ⟨rfl,rfl,rfl⟩⟩
       rw [encV_tv]
       simp (config := { maxSteps := 4000000 }) (disch := omega) only [go_sem,hix,c45,ha,cpR_pure c46,z1',lkB_vI,c47',hcx,wrap_i64]
      | false =>
       by_cases hc1 : cn = 1
       ·subst hc1
        obtain ⟨S',jj,y2,y5,y6,y7,y16,y17,y18,y19,ih,hz,hj⟩ := ihs T2 x2 (.lb ((encV x).map .iv)) (.tsl S.length (oneI (R1 ++ [x.d]))) (.iv (.bool true)) (.iv (.bool true)) (.iv (.bool true)) (.iv (.bool false)) z0' z1'
        rw [show ((i + 1 : Nat) : Int) = (i : Int) + 1 by omega,encV_tv] at ih
        refine ⟨S',jj,y2,y5,y6,y7,y16,y17,y18,y19,loop_at K _ _ t35L0.eq_1 ?_,hz,?_⟩
        ·simp (config := { maxSteps := 4000000 }) (disch := omega) only [go_sem,hix,c45,ha,cpR_pure c46,z1',lkB_vI,c47',hcx,wrap_i64]
         exact congrArg er ih
        ·simpa  using hj
       ·refine ⟨T2,.ret,.iv (.int .i64 2),.lb ((encV x).map .iv),.tsl S.length (oneI (R1 ++ [x.d])),.iv (.bool true),.iv (.int .i64 i),.iv (.bool true),.iv (.bool true),.iv (.bool true),loop_at K _ _ t35L0.eq_1 ?_,z0',.inr ⟨rfl,rfl,by simp [hc1]⟩⟩
        rw [encV_tv]
        simp (config := { maxSteps := 4000000 }) (disch := omega) only [go_sem,hix,c45,ha,cpR_pure c46,z1',lkB_vI,c47',hcx,wrap_i64]
    ·have hr : regsOf x = R1 ++ [x.d] := by rw [← hR1]; unfold regsOf; rw [if_pos hD]
     have hg : goesX x = false := by unfold goesX; simp; omega
     rw [hr,hg]
     generalize (R1 ++ [x.d]).any (badR rg) = an at *
     cases fm with
     | false =>
      refine ⟨T2,.ret,.iv (.int .i64 2),.lb ((encV x).map .iv),.tsl S.length (oneI (R1 ++ [x.d])),.iv (.bool false),.iv (.int .i64 i),.iv (.bool true),.iv (.bool true),.iv (.bool true),loop_at K _ _ t35L0.eq_1 ?_,z0',.inr ⟨rfl,rfl,rfl⟩⟩
      rw [encV_tv]
      simp (config := { maxSteps := 4000000 }) (disch := omega) only [go_sem,hix,c45,ha,cpR_pure c46,z1',lkB_vI,c47',hcx,wrap_i64]
     | true =>
      cases an with
      | true =>
       refine ⟨T2,.ret,.iv (.int .i64 2),.lb ((encV x).map .iv),.tsl S.length (oneI (R1 ++ [x.d])),.iv (.bool false),.iv (.int .i64 i),.iv (.bool true),.iv (.bool true),.iv (.bool true),loop_at K _ _ t35L0.eq_1 ?_,z0',.inr ⟨rfl,rfl,rfl⟩⟩
       rw [encV_tv]
       simp (config := { maxSteps := 4000000 }) (disch := omega) only [go_sem,hix,c45,ha,cpR_pure c46,z1',lkB_vI,c47',hcx,wrap_i64]
      | false =>
       obtain ⟨S',jj,y2,y5,y6,y7,y16,y17,y18,y19,ih,hz,hj⟩ := ihs T2 x2 (.lb ((encV x).map .iv)) (.tsl S.length (oneI (R1 ++ [x.d]))) (.iv (.bool false)) (.iv (.bool true)) (.iv (.bool true)) (.iv (.bool false)) z0' z1'
       rw [show ((i + 1 : Nat) : Int) = (i : Int) + 1 by omega,encV_tv] at ih
       refine ⟨S',jj,y2,y5,y6,y7,y16,y17,y18,y19,loop_at K _ _ t35L0.eq_1 ?_,hz,?_⟩
       ·simp (config := { maxSteps := 4000000 }) (disch := omega) only [go_sem,hix,c45,ha,cpR_pure c46,z1',lkB_vI,c47',hcx,wrap_i64]
        exact congrArg er ih
       ·simpa  using hj
theorem ao0 (l : List IV) : addOff (.iv (.cp l)) 0 = some (.iv (.cp l)) := by simp [addOff]
theorem ao5 (a b c d e f g h : IV) : addOff (.iv (.cp [a,b,c,d,e,f,g,h])) 5 = some (.iv (.cp [f,g,h])) := by simp [addOff]
theorem ao6 (a b c d e f g h : IV) : addOff (.iv (.cp [a,b,c,d,e,f,g,h])) 6 = some (.iv (.cp [g,h])) := by simp [addOff]
attribute [go_sem] ao0 ao5 ao6
def encG (fn rg sl nd pr : Int) (rs : Bool) (ti : Tag) (ins : List VI) : List IV := [.int .i64 fn,.int .i64 rg,.int .i64 sl,.int .i64 nd,.int .i64 pr,.bool rs,.sl ti (ins.map encV)]
def lastOK (ins : List VI) : Bool := decide ((ins.getD (ins.length - 1) default).op = 66 ∨ (ins.getD (ins.length - 1) default).op = 68 ∨ (ins.getD (ins.length - 1) default).op = 72)
def headOK (rg sl nd pr : Int) (ins : List VI) : Prop := 32 ≤ rg ∧ 0 ≤ nd ∧ 0 ≤ sl ∧ 0 ≤ pr ∧ 0 < ins.length
instance (rg sl nd pr : Int) (ins : List VI) : Decidable (headOK rg sl nd pr ins) := by unfold headOK; infer_instance
def chkM (rg sl nd pr : Int) (ins : List VI) : Bool := decide (headOK rg sl nd pr ins) && (!ins.any (badI rg ins) && lastOK ins)
theorem call35 (fn rg sl nd pr : Int) (rs : Bool) (ti : Tag) (ins : List VI) (hn : ins.length ≤ 1000000) (hus : ∀ x ∈ ins,x.us.length ≤ 999990 ∧ TagOk x.tu x.us) : TM.Pure K 35 [.iv (.agg (encG fn rg sl nd pr rs ti ins))] (.iv (.int .i64 (if chkM rg sl nd pr ins then 0 else 2))) := by
 unfold chkM
 have hlen : (ins.map encV).length = ins.length := List.length_map _
 by_cases hh : headOK rg sl nd pr ins
 ·rw [decide_eq_true hh,Bool.true_and]
  obtain ⟨h1,h2,h3,h4,h5⟩ := hh
  obtain ⟨S1,rows,c,y4,y12,y13,l1,z0,z1,hc⟩ := loop35a (fn := fn) (rg := rg) (sl := sl) (nd := nd) (pr := pr) (rs := rs) (ti := ti) (ins := ins) hn (.iv (.agg (encG fn rg sl nd pr rs ti ins))) (.ptr 0 25 0) (.iv (.int .i64 0)) (.tup []) (.tup []) (.tup []) (.iv (.bool false)) (.tup []) (.tup []) (.tup []) (.tup []) (.tup []) (.tup []) (.tup []) (.tup []) ins.length 0 [bxF fn rg sl nd pr rs ti ins,.mp (mpR vI []) 0] [] 0 (.tup []) (.tup []) (.tup []) (by omega) rfl rfl (fun L => by simp [cntR,getR,cntL])
  obtain ⟨S2,jj,y2,y5,y6,y7,y16,y17,y18,y19,l2,w0,hj⟩ := loop35b (fn := fn) (rg := rg) (sl := sl) (nd := nd) (pr := pr) (rs := rs) (ti := ti) hn hus hc (.iv (.agg (encG fn rg sl nd pr rs ti ins))) y4 (.iv (.bool false)) (.iv (.sl ti (ins.map encV))) (.iv (.int .i64 ins.length)) (.iv (.int .i64 ins.length)) y12 y13 (.tup []) (.tup []) ins.length 0 S1 (.iv (.int .i64 0)) (.tup []) (.tup []) (.tup []) (.tup []) (.tup []) (.tup []) (by omega) z0 z1
  rw [show ((0 : Nat) : Int) = 0 from rfl] at l1 l2
  rw [List.drop_zero] at hj
  have hl : ins.length - 1 < ins.length := by omega
  have hix := ix_map (w := 8) (f := encV) encV_len (t := ti) (l := ins) (i := ((ins.length : Int) - 1)) (by omega)
  rw [show ((ins.length : Int) - 1).toNat = ins.length - 1 by omega,encV_eq] at hix
  unfold lastOK
  generalize ins.getD (ins.length - 1) default = x at *
  unfold bxF at l1 z0 w0
  rw [show mpR vI [] = [] from rfl] at l1
  rw [show encG fn rg sl nd pr rs ti ins = [.int .i64 fn,.int .i64 rg,.int .i64 sl,.int .i64 nd,.int .i64 pr,.bool rs,.sl ti (ins.map encV)] from rfl] at l1 l2 ⊢
  have h5' : ¬ ((ins.length : Nat) : Int) = 0 := by omega
  rcases hj with ⟨rfl,hj⟩ | ⟨rfl,rfl,hj⟩
  ·rw [hj,Bool.not_false,Bool.true_and]
   rcases (by omega : x.op = 66 ∨ x.op = 68 ∨ x.op = 72 ∨ (x.op ≠ 66 ∧ x.op ≠ 68 ∧ x.op ≠ 72)) with h | h | h | ⟨ha,hb,hd⟩
   ·rw [decide_eq_true (.inl h),if_pos rfl]
    refine call_pure t35 rfl rfl ?_
    simp (config := { maxSteps := 4000000 }) (disch := omega) only [t35,go_sem,TM.undef,hlen,h5']
    rw [l1]
    simp (config := { maxSteps := 4000000 }) (disch := omega) only [go_sem,z0,hlen]
    rw [l2]
    simp (config := { maxSteps := 4000000 }) (disch := omega) only [go_sem,w0,hlen,hix,wrap_i64]
   ·rw [decide_eq_true (.inr (.inl h)),if_pos rfl]
    refine call_pure t35 rfl rfl ?_
    simp (config := { maxSteps := 4000000 }) (disch := omega) only [t35,go_sem,TM.undef,hlen,h5']
    rw [l1]
    simp (config := { maxSteps := 4000000 }) (disch := omega) only [go_sem,z0,hlen]
    rw [l2]
    simp (config := { maxSteps := 4000000 }) (disch := omega) only [go_sem,w0,hlen,hix,wrap_i64]
   ·rw [decide_eq_true (.inr (.inr h)),if_pos rfl]
    refine call_pure t35 rfl rfl ?_
    simp (config := { maxSteps := 4000000 }) (disch := omega) only [t35,go_sem,TM.undef,hlen,h5']
    rw [l1]
    simp (config := { maxSteps := 4000000 }) (disch := omega) only [go_sem,z0,hlen]
    rw [l2]
    simp (config := { maxSteps := 4000000 }) (disch := omega) only [go_sem,w0,hlen,hix,wrap_i64]
   ·rw [decide_eq_false (by omega),if_neg (by decide)]
    refine call_pure t35 rfl rfl ?_
    simp (config := { maxSteps := 4000000 }) (disch := omega) only [t35,go_sem,TM.undef,hlen,h5']
    rw [l1]
    simp (config := { maxSteps := 4000000 }) (disch := omega) only [go_sem,z0,hlen]
    rw [l2]
    simp (config := { maxSteps := 4000000 }) (disch := omega) only [go_sem,w0,hlen,hix,wrap_i64]
  ·rw [hj,Bool.not_true,Bool.false_and,if_neg (by decide)]
   refine call_pure t35 rfl rfl ?_
   simp (config := { maxSteps := 4000000 }) (disch := omega) only [t35,go_sem,TM.undef,hlen,h5']
   rw [l1]
   simp (config := { maxSteps := 4000000 }) (disch := omega) only [go_sem,z0,hlen]
   rw [l2]
   simp (config := { maxSteps := 4000000 }) (disch := omega) only [go_sem]
 ·rw [decide_eq_false hh,Bool.false_and,if_neg (by decide)]
  unfold headOK at hh
  refine call_pure t35 rfl rfl ?_
  unfold encG
  rcases (by omega : rg < 32 ∨ (32 ≤ rg ∧ nd < 0) ∨ (32 ≤ rg ∧ 0 ≤ nd ∧ sl < 0) ∨ (32 ≤ rg ∧ 0 ≤ nd ∧ 0 ≤ sl ∧ pr < 0) ∨ (32 ≤ rg ∧ 0 ≤ nd ∧ 0 ≤ sl ∧ 0 ≤ pr ∧ ins.length = 0)) with h | h | h | h | h
  ·simp (config := { maxSteps := 4000000 }) (disch := omega) only [t35,go_sem,TM.undef,hlen]
  ·simp (config := { maxSteps := 4000000 }) (disch := omega) only [t35,go_sem,TM.undef,hlen]
  ·simp (config := { maxSteps := 4000000 }) (disch := omega) only [t35,go_sem,TM.undef,hlen]
  ·simp (config := { maxSteps := 4000000 }) (disch := omega) only [t35,go_sem,TM.undef,hlen]
  ·have h0 : ((ins.length : Nat) : Int) = 0 := by omega
   simp (config := { maxSteps := 4000000 }) (disch := omega) only [t35,go_sem,TM.undef,hlen,h0]
theorem fl_drop {l : List VI} {i : Nat} (h : i < l.length) (L : Int) : firstL (l.drop i) L = if (l.getD i default).op = 65 ∧ (l.getD i default).lb = L then some 0 else (firstL (l.drop (i + 1)) L).map (· + 1) := by
 rw [drop_get h]
 unfold firstL
 rw [List.findIdx?_cons]
 by_cases e : (l.getD i default).op = 65 ∧ (l.getD i default).lb = L
 ·rw [if_pos e,decide_eq_true e.1,decide_eq_true e.2]; rfl
 ·rw [if_neg e]
  have : (decide ((l.getD i default).op = 65) && decide ((l.getD i default).lb = L)) = false := by
   cases h1 : (decide ((l.getD i default).op = 65) && decide ((l.getD i default).lb = L)) with
   | false => rfl
   | true => simp at h1; exact absurd h1 e
  rw [this]
  simp [Option.map_map,Function.comp_def]
theorem loop6 {fn rg sl nd pr : Int} {rs : Bool} {ti : Tag} {ins : List VI} (hn : ins.length ≤ 9223372036854775807) (x0 : TV) (S : Store) : ∀ (k i : Nat) (x4 x5 : TV),i + k = min ins.length 100 →
  ∃ (jj : Jump) (y2 y3 y4 y5 : TV),lp' (lim K) t6L0 [x0,.lb ((encG fn rg sl nd pr rs ti ins).map .iv),.iv (.bool false),.iv (.int .i64 i),x4,x5] S
   = .ret (jj,[x0,.lb ((encG fn rg sl nd pr rs ti ins).map .iv),y2,y3,y4,y5],S) ∧ (jj = .exit 0 ∧ (∀ q,i ≤ q → q < min ins.length 100 → (ins.getD q default).us.length ≤ 30) ∨ jj = .ret ∧ y2 = .iv (.bool true))
 | 0,i,x4,x5,h => by
  have hlen : (ins.map encV).length = ins.length := List.length_map _
  refine ⟨.exit 0,.iv (.bool false),.iv (.int .i64 i),.iv (.bool false),x5,loop_at K _ _ t6L0.eq_1 ?_,.inl ⟨rfl,fun q h1 h2 => by omega⟩⟩
  by_cases hi : i < ins.length
  ·simp (config := { maxSteps := 4000000 }) (disch := omega) only [go_sem,encG,List.map_cons,List.map_nil,hlen]
  ·simp (config := { maxSteps := 4000000 }) (disch := omega) only [go_sem,encG,List.map_cons,List.map_nil,hlen]
 | k + 1,i,x4,x5,h => by
  have hla : i < ins.length := by omega
  have hlen : (ins.map encV).length = ins.length := List.length_map _
  have hix := ix_map (w := 8) (f := encV) encV_len (t := ti) (l := ins) (i := (i : Int)) (by omega)
  rw [Int.toNat_natCast,encV_eq] at hix
  have ih0 := loop6 (fn := fn) (rg := rg) (sl := sl) (nd := nd) (pr := pr) (rs := rs) (ti := ti) hn x0 S k (i + 1) (.iv (.bool true)) (.iv (.bool false)) (by omega)
  by_cases e : (ins.getD i default).us.length ≤ 30
  ·obtain ⟨jj,y2,y3,y4,y5,ih,hj⟩ := ih0
   rw [show ((i + 1 : Nat) : Int) = (i : Int) + 1 by omega,show (encG fn rg sl nd pr rs ti ins).map TV.iv = [.iv (.int .i64 fn),.iv (.int .i64 rg),.iv (.int .i64 sl),.iv (.int .i64 nd),.iv (.int .i64 pr),.iv (.bool rs),.iv (.sl ti (ins.map encV))] from rfl] at ih
   rw [show (encG fn rg sl nd pr rs ti ins).map TV.iv = [.iv (.int .i64 fn),.iv (.int .i64 rg),.iv (.int .i64 sl),.iv (.int .i64 nd),.iv (.int .i64 pr),.iv (.bool rs),.iv (.sl ti (ins.map encV))] from rfl]
   refine ⟨jj,y2,y3,y4,y5,loop_at K _ _ t6L0.eq_1 ?_,?_⟩
   ·generalize ins.getD i default = x at *
    simp (config := { maxSteps := 4000000 }) (disch := omega) only [go_sem,hlen,hix,TM.one_length,wrap_i64]
    exact congrArg er ih
   ·rcases hj with ⟨rfl,hj⟩ | hj
    ·refine .inl ⟨rfl,fun q h1 h2 => ?_⟩
     by_cases eq : q = i
     ·rw [eq]; exact e
     ·exact hj q (by omega) h2
    ·exact .inr hj
  ·refine ⟨.ret,.iv (.bool true),.iv (.int .i64 i),.iv (.bool true),.iv (.bool true),loop_at K _ _ t6L0.eq_1 ?_,.inr ⟨rfl,rfl⟩⟩
   generalize ins.getD i default = x at *
   simp (config := { maxSteps := 4000000 }) (disch := omega) only [go_sem,encG,List.map_cons,List.map_nil,hlen,hix,TM.one_length]
theorem call6 (fn rg sl nd pr : Int) (rs : Bool) (ti : Tag) (ins : List VI) (hn : ins.length ≤ 9223372036854775807) : ∃ b : Bool,TM.Pure K 6 [.iv (.agg (encG fn rg sl nd pr rs ti ins))] (.iv (.bool b)) ∧ (b = false → ins.length ≤ 80 ∧ rg ≤ 120 ∧ ∀ x ∈ ins,x.us.length ≤ 30) := by
 obtain ⟨jj,y2,y3,y4,y5,l1,hj⟩ := loop6 (fn := fn) (rg := rg) (sl := sl) (nd := nd) (pr := pr) (rs := rs) (ti := ti) hn (.iv (.agg (encG fn rg sl nd pr rs ti ins))) [] (min ins.length 100) 0 (.tup []) (.tup []) (by omega)
 have hlen : (ins.map encV).length = ins.length := List.length_map _
 rw [show ((0 : Nat) : Int) = 0 from rfl,show (encG fn rg sl nd pr rs ti ins).map TV.iv = [.iv (.int .i64 fn),.iv (.int .i64 rg),.iv (.int .i64 sl),.iv (.int .i64 nd),.iv (.int .i64 pr),.iv (.bool rs),.iv (.sl ti (ins.map encV))] from rfl,show encG fn rg sl nd pr rs ti ins = [.int .i64 fn,.int .i64 rg,.int .i64 sl,.int .i64 nd,.int .i64 pr,.bool rs,.sl ti (ins.map encV)] from rfl] at l1
 rw [show encG fn rg sl nd pr rs ti ins = [.int .i64 fn,.int .i64 rg,.int .i64 sl,.int .i64 nd,.int .i64 pr,.bool rs,.sl ti (ins.map encV)] from rfl]
 rcases hj with ⟨rfl,hj⟩ | ⟨rfl,rfl⟩
 ·by_cases h1 : ins.length ≤ 80
  ·by_cases h2 : rg ≤ 120
   ·refine ⟨false,call_pure t6 rfl rfl ?_,fun _ => ⟨h1,h2,fun x hx => ?_⟩⟩
    ·simp (config := { maxSteps := 4000000 }) (disch := omega) only [t6,go_sem,TM.undef]
     rw [l1]
     simp (config := { maxSteps := 4000000 }) (disch := omega) only [go_sem,hlen]
    ·obtain ⟨q,hq,rfl⟩ := List.getElem_of_mem hx
     have := hj q (Nat.zero_le _) (by omega)
     simpa only [List.getD,List.getElem?_eq_getElem hq,Option.getD_some] using this
   ·refine ⟨true,call_pure t6 rfl rfl ?_,fun h => by cases h⟩
    simp (config := { maxSteps := 4000000 }) (disch := omega) only [t6,go_sem,TM.undef]
    rw [l1]
    simp (config := { maxSteps := 4000000 }) (disch := omega) only [go_sem,hlen]
  ·refine ⟨true,call_pure t6 rfl rfl ?_,fun h => by cases h⟩
   simp (config := { maxSteps := 4000000 }) (disch := omega) only [t6,go_sem,TM.undef]
   rw [l1]
   simp (config := { maxSteps := 4000000 }) (disch := omega) only [go_sem,hlen]
 ·refine ⟨true,call_pure t6 rfl rfl ?_,fun h => by cases h⟩
  simp (config := { maxSteps := 4000000 }) (disch := omega) only [t6,go_sem,TM.undef]
  rw [l1]
  simp (config := { maxSteps := 4000000 }) (disch := omega) only [go_sem]
def retTrue' : Out (TV × Store) → Bool
 | .ret (.iv (.bool b),_) => b
 | _ => false
theorem retTrue_pure {f : Nat} {n : Nat} (h : retTrue' ((ex K n).call f [] []) = true) : TM.Pure K f [] (.iv (.bool true)) := by
 generalize hx : (ex K n).call f [] [] = x at h
 match x,h with
 | .ret (.iv (.bool true),S),_ => exact TM.pure_ret (S := S) (r := .iv (.bool true)) (lim_of hx) (by rw [resolve_iv])
theorem awake7 : retTrue' ((ex K 300).call 7 [] []) = true := by kernel_rfl
theorem call7 : TM.Pure K 7 [] (.iv (.bool true)) := retTrue_pure awake7
theorem bad25 (fn rg sl nd pr : Int) (rs : Bool) (ti : Tag) (ins : List VI) (h : TM.Pure K 35 [.iv (.agg (encG fn rg sl nd pr rs ti ins))] (.iv (.int .i64 2))) : (lim K).call 25 [.iv (.agg (encG fn rg sl nd pr rs ti ins))] [] = .ret (.tup [.iv .nilp,.iv (.int .i64 2)],[]) := by
 unfold encG at *
 refine call_ret' K _ (fn := t25) rfl rfl ?_
 simp (config := { maxSteps := 4000000 }) (disch := omega) only [t25,go_sem,TM.undef,cpR_pure h]
theorem bad13 (fn rg sl nd pr : Int) (rs : Bool) (ti : Tag) (ins : List VI) (h : TM.Pure K 35 [.iv (.agg (encG fn rg sl nd pr rs ti ins))] (.iv (.int .i64 2))) : TM.Pure K 13 [.iv (.agg (encG fn rg sl nd pr rs ti ins))] (.tup [.iv (.sl .nil []),.iv (.int .i64 2)]) := by
 have c25 := bad25 fn rg sl nd pr rs ti ins h
 unfold encG at *
 refine call_pure t13 rfl rfl ?_
 simp (config := { maxSteps := 4000000 }) (disch := omega) only [t13,go_sem,TM.undef,c25]
theorem bad15 (fn rg sl nd pr : Int) (rs : Bool) (ti : Tag) (ins : List VI) (h : TM.Pure K 35 [.iv (.agg (encG fn rg sl nd pr rs ti ins))] (.iv (.int .i64 2))) : TM.Pure K 15 [.iv (.agg (encG fn rg sl nd pr rs ti ins))] (.tup [.iv (.sl .nil []),.iv (.int .i64 2)]) := by
 have c25 := bad25 fn rg sl nd pr rs ti ins h
 unfold encG at *
 refine call_pure t15 rfl rfl ?_
 simp (config := { maxSteps := 4000000 }) (disch := omega) only [t15,go_sem,TM.undef,c25]
theorem goes_label {rg : Int} {ins : List VI} (h : ins.any (badI rg ins) = false) {i : Nat} (hi : i < ins.length) (hg : goesX (ins.getD i default) = true) : ∃ q : Nat,firstL ins (ins.getD i default).lb = some (q : Int) ∧ q < ins.length := by
 have hx : ins.getD i default ∈ ins := by simp only [List.getD,List.getElem?_eq_getElem hi,Option.getD_some]; exact List.getElem_mem _
 rw [List.any_eq_false] at h
 have hb := h _ hx
 cases hf : firstL ins (ins.getD i default).lb with
 | some k =>
  have := firstL_lt hf
  exact ⟨k.toNat,by rw [Int.toNat_of_nonneg this.1],by omega⟩
 | none =>
  exfalso
  apply hb
  have hc : cntL ins (ins.getD i default).lb = 0 := by
   unfold firstL at hf
   rw [Option.map_eq_none_iff,List.findIdx?_eq_none_iff] at hf
   unfold cntL
   rw [List.filter_eq_nil_iff.2 (fun x hx => by rw [hf x hx]; simp)]
   rfl
  rw [show badI rg ins (ins.getD i default) = (!formedM (ins.getD i default).op (ins.getD i default).im || ((regsOf (ins.getD i default)).any (badR rg) || (goesX (ins.getD i default) && decide (cntL ins (ins.getD i default).lb ≠ 1)))) from rfl,hg,hc]
  simp
theorem loop41 {fn rg sl nd pr : Int} {rs : Bool} {ti : Tag} {ins : List VI} (hn : ins.length ≤ 1000000) (x0 : TV) (L : Int) (S : Store) : ∀ (k i : Nat) (x5 x6 : TV),i + k = ins.length →
  ∃ (jj : Jump) (y3 y4 y5 y6 : TV),lp' (lim K) t41L0 [x0,.iv (.int .i64 L),.lb ((encG fn rg sl nd pr rs ti ins).map .iv),.iv (.int .i64 0),.iv (.int .i64 i),x5,x6] S
   = .ret (jj,[x0,.iv (.int .i64 L),.lb ((encG fn rg sl nd pr rs ti ins).map .iv),y3,y4,y5,y6],S) ∧ (jj = .exit 0 ∧ firstL (ins.drop i) L = none ∨ jj = .ret ∧ ∃ q : Int,firstL (ins.drop i) L = some q ∧ y3 = .iv (.int .i64 (i + q)))
 | 0,i,x5,x6,h => by
  obtain rfl : i = ins.length := by omega
  refine ⟨.exit 0,.iv (.int .i64 0),.iv (.int .i64 ins.length),.iv (.bool false),x6,loop_at K _ _ t41L0.eq_1 ?_,.inl ⟨rfl,by rw [List.drop_length]; rfl⟩⟩
  have hlen : (ins.map encV).length = ins.length := List.length_map _
  simp (config := { maxSteps := 4000000 }) (disch := omega) only [go_sem,encG,List.map_cons,List.map_nil,hlen]
 | k + 1,i,x5,x6,h => by
  have hla : i < ins.length := by omega
  have hlen : (ins.map encV).length = ins.length := List.length_map _
  have hix := ix_map (w := 8) (f := encV) encV_len (t := ti) (l := ins) (i := (i : Int)) (by omega)
  rw [Int.toNat_natCast,encV_eq] at hix
  rw [fl_drop hla]
  generalize ins.getD i default = x at *
  by_cases e : x.op = 65 ∧ x.lb = L
  ·rw [if_pos e]
   refine ⟨.ret,.iv (.int .i64 i),.iv (.int .i64 i),.iv (.bool true),.iv (.bool true),loop_at K _ _ t41L0.eq_1 ?_,.inr ⟨rfl,0,rfl,by rw [Int.add_zero]⟩⟩
   obtain ⟨e1,e2⟩ := e
   simp (config := { maxSteps := 4000000 }) (disch := omega) only [go_sem,encG,List.map_cons,List.map_nil,hlen,hix]
  ·rw [if_neg e]
   obtain ⟨jj,y3,y4,y5,y6,ih,hj⟩ := loop41 (fn := fn) (rg := rg) (sl := sl) (nd := nd) (pr := pr) (rs := rs) (ti := ti) hn x0 L S k (i + 1) (.iv (.bool true)) (.iv (.bool false)) (by omega)
   rw [show ((i + 1 : Nat) : Int) = (i : Int) + 1 by omega,show (encG fn rg sl nd pr rs ti ins).map TV.iv = [.iv (.int .i64 fn),.iv (.int .i64 rg),.iv (.int .i64 sl),.iv (.int .i64 nd),.iv (.int .i64 pr),.iv (.bool rs),.iv (.sl ti (ins.map encV))] from rfl] at ih
   rw [show (encG fn rg sl nd pr rs ti ins).map TV.iv = [.iv (.int .i64 fn),.iv (.int .i64 rg),.iv (.int .i64 sl),.iv (.int .i64 nd),.iv (.int .i64 pr),.iv (.bool rs),.iv (.sl ti (ins.map encV))] from rfl]
   refine ⟨jj,y3,y4,y5,y6,loop_at K _ _ t41L0.eq_1 ?_,?_⟩
   ·by_cases e1 : x.op = 65
    ·have e2 : ¬ x.lb = L := fun h => e ⟨e1,h⟩
     simp (config := { maxSteps := 4000000 }) (disch := omega) only [go_sem,hlen,hix,wrap_i64]
     exact congrArg er ih
    ·simp (config := { maxSteps := 4000000 }) (disch := omega) only [go_sem,hlen,hix,wrap_i64]
     exact congrArg er ih
   ·rcases hj with ⟨rfl,hj⟩ | ⟨rfl,q,hj,rfl⟩
    ·exact .inl ⟨rfl,by rw [hj]; rfl⟩
    ·exact .inr ⟨rfl,q + 1,by rw [hj]; rfl,by rw [show ((i + 1 : Nat) : Int) + q = (i : Int) + (q + 1) by omega]⟩
theorem call41 (fn rg sl nd pr : Int) (rs : Bool) (ti : Tag) (ins : List VI) (hn : ins.length ≤ 1000000) (L : Int) : TM.Pure K 41 [.iv (.agg (encG fn rg sl nd pr rs ti ins)),.iv (.int .i64 L)] (.iv (.int .i64 ((firstL ins L).getD (-1)))) := by
 obtain ⟨jj,y3,y4,y5,y6,l1,hj⟩ := loop41 (fn := fn) (rg := rg) (sl := sl) (nd := nd) (pr := pr) (rs := rs) (ti := ti) hn (.iv (.agg (encG fn rg sl nd pr rs ti ins))) L [] ins.length 0 (.tup []) (.tup []) (by omega)
 rw [show ((0 : Nat) : Int) = 0 from rfl,show (encG fn rg sl nd pr rs ti ins).map TV.iv = [.iv (.int .i64 fn),.iv (.int .i64 rg),.iv (.int .i64 sl),.iv (.int .i64 nd),.iv (.int .i64 pr),.iv (.bool rs),.iv (.sl ti (ins.map encV))] from rfl,show encG fn rg sl nd pr rs ti ins = [.int .i64 fn,.int .i64 rg,.int .i64 sl,.int .i64 nd,.int .i64 pr,.bool rs,.sl ti (ins.map encV)] from rfl] at l1
 rw [show encG fn rg sl nd pr rs ti ins = [.int .i64 fn,.int .i64 rg,.int .i64 sl,.int .i64 nd,.int .i64 pr,.bool rs,.sl ti (ins.map encV)] from rfl]
 rw [List.drop_zero] at hj
 refine call_pure t41 rfl rfl ?_
 rcases hj with ⟨rfl,hj⟩ | ⟨rfl,q,hj,rfl⟩
 ·rw [hj]
  simp (config := { maxSteps := 4000000 }) (disch := omega) only [t41,go_sem,TM.undef]
  rw [l1]
  simp (config := { maxSteps := 4000000 }) (disch := omega) only [go_sem]
  rfl
 ·rw [hj,Option.getD_some,show ((0 : Nat) : Int) + q = q by omega] at *
  simp (config := { maxSteps := 4000000 }) (disch := omega) only [t41,go_sem,TM.undef]
  rw [l1]
  simp (config := { maxSteps := 4000000 }) (disch := omega) only [go_sem]
def behM (l : List VI) (i : Nat) : List Int :=
 if (l.getD i default).op = 68 ∨ (l.getD i default).op = 72 then [] else
  (if (26 ≤ (l.getD i default).op ∧ (l.getD i default).op ≤ 31) ∨ (l.getD i default).op = 66 then [(firstL l (l.getD i default).lb).getD (-1)] else []) ++
  (if (l.getD i default).op ≠ 66 ∧ i + 1 < l.length then [(i : Int) + 1] else [])
theorem ap_n1 (k : Int) : appendOp false 1 8 3 [] (.iv (.sl .nil [])) (.iv (.sl .full [[.int .i64 k]])) = some (.tsl 0 [[.int .i64 k]],[.tok 1 1 3]) := by
 have := ap_acc1 (w := 1) (b := 8) (el := 3) (l := []) (t := .full) (c := [.int .i64 k]) ⟨rfl,rfl⟩ (by intro y hy; cases hy) (roomy_ok (by simp))
 simpa [acc,accS] using this
theorem ap_n2 (k m : Int) : appendOp false 1 8 3 [.tok 1 1 3] (.tsl 0 [[.int .i64 k]]) (.iv (.sl .full [[.int .i64 m]])) = some (.tsl 0 [[.int .i64 k],[.int .i64 m]],[.tok 2 1 3]) := by
 have := ap_acc1 (w := 1) (b := 8) (el := 3) (l := [[.int .i64 k]]) (t := .full) (c := [.int .i64 m]) ⟨rfl,rfl⟩ (by intro y hy; simp at hy; subst hy; exact ⟨rfl,rfl⟩) (roomy_ok (by simp))
 simpa [acc,accS] using this
theorem call29 (fn rg sl nd pr : Int) (rs : Bool) (ti : Tag) (ins : List VI) (hn : ins.length ≤ 1000000) {i : Nat} (hi : i < ins.length) : ∃ t : Tag,TM.Pure K 29 [.iv (.agg (encG fn rg sl nd pr rs ti ins)),.iv (.int .i64 i)] (.iv (.sl t (TM.one (.int .i64) (behM ins i)))) := by
 have c41 := call41 fn rg sl nd pr rs ti ins hn (ins.getD i default).lb
 have hlen : (ins.map encV).length = ins.length := List.length_map _
 have hix := ix_map (w := 8) (f := encV) encV_len (t := ti) (l := ins) (i := (i : Int)) (by omega)
 rw [Int.toNat_natCast,encV_eq] at hix
 unfold behM
 unfold encG at *
 generalize ins.getD i default = x at *
 generalize (firstL ins x.lb).getD (-1) = kL at *
 have a1 := ap_n1 kL
 have a2 := ap_n1 ((i : Int) + 1)
 have a3 := ap_n2 kL ((i : Int) + 1)
 by_cases hT : x.op = 68 ∨ x.op = 72
 ·rw [if_pos hT]
  refine ⟨.nil,call_pure t29 rfl rfl ?_⟩
  rcases hT with hT | hT
  ·simp (config := { maxSteps := 4000000 }) (disch := omega) only [t29,go_sem,TM.undef,hix,hlen,cpR_pure c41,a1,a2,a3,wrap_i64]
   rfl
  ·simp (config := { maxSteps := 4000000 }) (disch := omega) only [t29,go_sem,TM.undef,hix,hlen,cpR_pure c41,a1,a2,a3,wrap_i64]
   rfl
 ·rw [if_neg hT]
  by_cases hJ : x.op = 66
  ·rw [if_pos (.inr hJ),if_neg (by omega)]
   refine ⟨.no,TM.pure_ret (S := [.tok 1 1 3]) (r := .tsl 0 [[.int .i64 kL]]) (call_ret' K _ (fn := t29) rfl rfl ?_) rfl⟩
   simp (config := { maxSteps := 4000000 }) (disch := omega) only [t29,go_sem,TM.undef,hix,hlen,cpR_pure c41,a1,a2,a3,wrap_i64]
  ·by_cases hB : 26 ≤ x.op ∧ x.op ≤ 31
   ·rw [if_pos (.inl hB)]
    by_cases hN : i + 1 < ins.length
    ·rw [if_pos ⟨hJ,hN⟩]
     refine ⟨.no,TM.pure_ret (S := [.tok 2 1 3]) (r := .tsl 0 [[.int .i64 kL],[.int .i64 ((i : Int) + 1)]]) (call_ret' K _ (fn := t29) rfl rfl ?_) rfl⟩
     simp (config := { maxSteps := 4000000 }) (disch := omega) only [t29,go_sem,TM.undef,hix,hlen,cpR_pure c41,a1,a2,a3,wrap_i64]
    ·rw [if_neg (fun h => hN h.2)]
     refine ⟨.no,TM.pure_ret (S := [.tok 1 1 3]) (r := .tsl 0 [[.int .i64 kL]]) (call_ret' K _ (fn := t29) rfl rfl ?_) rfl⟩
     simp (config := { maxSteps := 4000000 }) (disch := omega) only [t29,go_sem,TM.undef,hix,hlen,cpR_pure c41,a1,a2,a3,wrap_i64]
   ·rw [if_neg (by omega)]
    by_cases hN : i + 1 < ins.length
    ·rw [if_pos ⟨hJ,hN⟩]
     refine ⟨.no,TM.pure_ret (S := [.tok 1 1 3]) (r := .tsl 0 [[.int .i64 ((i : Int) + 1)]]) (call_ret' K _ (fn := t29) rfl rfl ?_) rfl⟩
     rcases (by omega : x.op < 26 ∨ 31 < x.op) with hC | hC
     ·simp (config := { maxSteps := 4000000 }) (disch := omega) only [t29,go_sem,TM.undef,hix,hlen,cpR_pure c41,a1,a2,a3,wrap_i64]
     ·simp (config := { maxSteps := 4000000 }) (disch := omega) only [t29,go_sem,TM.undef,hix,hlen,cpR_pure c41,a1,a2,a3,wrap_i64]
    ·rw [if_neg (fun h => hN h.2)]
     refine ⟨.nil,call_pure t29 rfl rfl ?_⟩
     rcases (by omega : x.op < 26 ∨ 31 < x.op) with hC | hC
     ·simp (config := { maxSteps := 4000000 }) (disch := omega) only [t29,go_sem,TM.undef,hix,hlen,cpR_pure c41,a1,a2,a3,wrap_i64]
      rfl
     ·simp (config := { maxSteps := 4000000 }) (disch := omega) only [t29,go_sem,TM.undef,hix,hlen,cpR_pure c41,a1,a2,a3,wrap_i64]
      rfl
theorem call10A (v : VI) (h : (1 ≤ v.op ∧ v.op ≤ 14) ∨ v.op = 25 ∨ (26 ≤ v.op ∧ v.op ≤ 31)) : ∃ t',TagOk t' (usesM v) ∧ TM.Pure K 10 [.iv (.agg (encV v))] (.iv (.sl t' (TM.one (.int .i64) (usesM v)))) := by
 have hM : usesM v = put1 (put1 [] v.a) v.b := by unfold usesM; rw [if_pos (by omega)]; rfl
 obtain ⟨ta,hta,ca⟩ := call24 .nil [] v.a TagOk.nil (by simp)
 have l1 := put1_len [] v.a
 obtain ⟨tb,htb,cb⟩ := call24 ta _ v.b hta (by simp at l1; omega)
 rw [hM]
 simp only [show TM.one (IV.int .i64) [] = [] from rfl] at ca
 refine ⟨tb,htb,call_pure t10 rfl rfl ?_⟩
 rcases h with h | h | h <;> simp (config := { maxSteps := 4000000 }) (disch := omega) only [t10,go_sem,TM.undef,encV,List.map_cons,List.map_nil,cpR_pure ca,cpR_pure cb]
theorem call10B (v : VI) (h : (15 ≤ v.op ∧ v.op ≤ 22) ∨ v.op = 24 ∨ v.op = 64 ∨ v.op = 74) : ∃ t',TagOk t' (usesM v) ∧ TM.Pure K 10 [.iv (.agg (encV v))] (.iv (.sl t' (TM.one (.int .i64) (usesM v)))) := by
 have hM : usesM v = put1 [] v.a := by unfold usesM; rw [if_neg (by omega),if_pos (by omega)]; rfl
 obtain ⟨ta,hta,ca⟩ := call24 .nil [] v.a TagOk.nil (by simp)
 rw [hM]
 simp only [show TM.one (IV.int .i64) [] = [] from rfl] at ca
 refine ⟨ta,hta,call_pure t10 rfl rfl ?_⟩
 rcases h with h | h | h | h <;> simp (config := { maxSteps := 4000000 }) (disch := omega) only [t10,go_sem,TM.undef,encV,List.map_cons,List.map_nil,cpR_pure ca]
theorem call10C (v : VI) (hu : v.us.length ≤ 1000000) (h : v.op = 67 ∨ v.op = 68 ∨ v.op = 72) : ∃ t',TagOk t' (usesM v) ∧ TM.Pure K 10 [.iv (.agg (encV v))] (.iv (.sl t' (TM.one (.int .i64) (usesM v)))) := by
 have hM : usesM v = put1 (v.us.foldl put1 []) 26 := by unfold usesM; rw [if_neg (by omega),if_neg (by omega),if_pos h]; simp [tdy]
 obtain ⟨tl,y8,htl,lo⟩ := loop10 v hu (.iv (.agg (encV v))) (.iv (.sl .nil [])) (.iv (.bool false)) (.iv (.bool false)) (.iv (.bool true)) [] v.us.length 0 .nil [] (.tup []) (by omega) TagOk.nil (by simp)
 rw [show ((0 : Nat) : Int) = 0 from rfl] at lo
 have l2 := fold_len v.us []
 rw [List.drop_zero] at htl lo
 obtain ⟨tc,htc,cc⟩ := call24 tl _ 26 htl (by simp at l2; omega)
 rw [one_nil] at lo
 rw [hM]
 rw [encV_tv,encV_eq] at lo
 refine ⟨tc,htc,call_pure t10 rfl rfl ?_⟩
 rcases h with h | h | h <;>
 ·simp (config := { maxSteps := 4000000 }) (disch := omega) only [t10,go_sem,TM.undef,encV,List.map_cons,List.map_nil]
  rw [lo]
  simp (config := { maxSteps := 4000000 }) (disch := omega) only [go_sem,cpR_pure cc]
theorem call10N (v : VI) (h : v.op < 1 ∨ v.op = 23 ∨ (32 ≤ v.op ∧ v.op ≤ 63) ∨ v.op = 65 ∨ v.op = 66 ∨ v.op = 69 ∨ v.op = 70 ∨ v.op = 71 ∨ v.op = 73 ∨ 74 < v.op) : ∃ t',TagOk t' (usesM v) ∧ TM.Pure K 10 [.iv (.agg (encV v))] (.iv (.sl t' (TM.one (.int .i64) (usesM v)))) := by
 have hM : usesM v = [] := by unfold usesM; rw [if_neg (by omega),if_neg (by omega),if_neg (by omega)]
 rw [hM]
 refine ⟨.nil,TagOk.nil,call_pure t10 rfl rfl ?_⟩
 rcases h with h | h | h | h | h | h | h | h | h | h <;> simp (config := { maxSteps := 4000000 }) (disch := omega) only [t10,go_sem,TM.undef,encV,List.map_cons,List.map_nil] <;> rfl
theorem call10 (v : VI) (hu : v.us.length ≤ 1000000) : ∃ t',TagOk t' (usesM v) ∧ TM.Pure K 10 [.iv (.agg (encV v))] (.iv (.sl t' (TM.one (.int .i64) (usesM v)))) := by
 by_cases h1 : (1 ≤ v.op ∧ v.op ≤ 14) ∨ v.op = 25 ∨ (26 ≤ v.op ∧ v.op ≤ 31)
 ·exact call10A v h1
 ·by_cases h2 : (15 ≤ v.op ∧ v.op ≤ 22) ∨ v.op = 24 ∨ v.op = 64 ∨ v.op = 74
  ·exact call10B v h2
  ·by_cases h3 : v.op = 67 ∨ v.op = 68 ∨ v.op = 72
   ·exact call10C v hu h3
   ·exact call10N v (by omega)
theorem loop12 (x0 x1 x2 x5 x6 : TV) (S : Store) : ∀ (k i : Nat) (t : Tag) (l : List Int) (x7 : TV),i + k = 26 → TagOk t l → l.length ≤ i →
  ∃ (t' : Tag) (y7 : TV),TagOk t' ((regs26.drop i).foldl put1 l) ∧ lp' (lim K) t12L0 [x0,x1,x2,.iv (.sl t (TM.one (.int .i64) l)),.iv (.int .i64 ((i : Int) + 1)),x5,x6,x7] S
   = .ret (.exit 0,[x0,x1,x2,.iv (.sl t' (TM.one (.int .i64) ((regs26.drop i).foldl put1 l))),.iv (.int .i64 27),x5,x6,y7],S)
 | 0,i,t,l,x7,h,ht,hl => by
  obtain rfl : i = 26 := by omega
  rw [show regs26.drop 26 = [] by decide,List.foldl_nil]
  refine ⟨t,.iv (.bool false),ht,loop_at K _ _ t12L0.eq_1 ?_⟩
  simp (config := { maxSteps := 4000000 }) (disch := omega) only [go_sem]
  rfl
 | k + 1,i,t,l,x7,h,ht,hl => by
  obtain ⟨t1,ht1,c24⟩ := call24 t l ((i : Int) + 1) ht (by omega)
  have hpl := put1_len l ((i : Int) + 1)
  have hlen : regs26.length = 26 := by simp [regs26]
  have hdr := drop_get (l := regs26) (i := i) (by omega)
  have hg : regs26.getD i default = (i : Int) + 1 := by simp [regs26,List.getD,show i < 26 by omega]
  obtain ⟨t',y7,ht',ih⟩ := loop12 x0 x1 x2 x5 x6 S k (i + 1) t1 _ (.iv (.bool true)) (by omega) ht1 (by omega)
  rw [hdr,List.foldl_cons,hg]
  rw [show ((i + 1 : Nat) : Int) = (i : Int) + 1 by omega] at ih
  refine ⟨t',y7,ht',loop_at K _ _ t12L0.eq_1 ?_⟩
  simp (config := { maxSteps := 4000000 }) (disch := omega) only [go_sem,cpR_pure c24,wrap_i64]
  exact congrArg er ih
theorem call12A (v : VI) (h : (1 ≤ v.op ∧ v.op ≤ 24) ∨ v.op = 64 ∨ v.op = 69 ∨ v.op = 70 ∨ v.op = 71 ∨ v.op = 73) : ∃ t',TagOk t' (defsM v) ∧ TM.Pure K 12 [.iv (.agg (encV v))] (.iv (.sl t' (TM.one (.int .i64) (defsM v)))) := by
 have hM : defsM v = put1 [] v.d := by unfold defsM; rw [if_pos (by omega)]; rfl
 obtain ⟨ta,hta,ca⟩ := call24 .nil [] v.d TagOk.nil (by simp)
 rw [hM]
 simp only [show TM.one (IV.int .i64) [] = [] from rfl] at ca
 refine ⟨ta,hta,call_pure t12 rfl rfl ?_⟩
 rcases h with h | h | h | h | h | h <;> simp (config := { maxSteps := 4000000 }) (disch := omega) only [t12,go_sem,TM.undef,encV,List.map_cons,List.map_nil,cpR_pure ca]
theorem call12C (v : VI) (h : v.op = 67) : ∃ t',TagOk t' (defsM v) ∧ TM.Pure K 12 [.iv (.agg (encV v))] (.iv (.sl t' (TM.one (.int .i64) (defsM v)))) := by
 have hM : defsM v = put1 (put1 (regs26.foldl put1 []) 31) v.d := by unfold defsM; rw [if_neg (by omega),if_pos h]; simp [tdy]
 obtain ⟨tl,y7,htl,lo⟩ := loop12 (.iv (.agg (encV v))) (.lb ((encV v).map .iv)) (.iv (.sl .nil [])) (.iv (.bool false)) (.iv (.bool true)) [] 26 0 .nil [] (.tup []) (by omega) TagOk.nil (by simp)
 rw [show ((0 : Nat) : Int) + 1 = 1 from rfl] at lo
 have l2 := fold_len regs26 []
 have hlen : regs26.length = 26 := by simp [regs26]
 rw [List.drop_zero] at htl lo
 obtain ⟨tc,htc,cc⟩ := call24 tl _ 31 htl (by simp at l2; omega)
 have l3 := put1_len (regs26.foldl put1 []) 31
 obtain ⟨td,htd,cd⟩ := call24 tc _ v.d htc (by simp at l2; omega)
 rw [one_nil] at lo
 rw [hM]
 rw [encV_tv,encV_eq] at lo
 refine ⟨td,htd,call_pure t12 rfl rfl ?_⟩
 simp (config := { maxSteps := 4000000 }) (disch := omega) only [t12,go_sem,TM.undef,encV,List.map_cons,List.map_nil]
 rw [lo]
 simp (config := { maxSteps := 4000000 }) (disch := omega) only [go_sem,cpR_pure cc,cpR_pure cd]
theorem call12N (v : VI) (h : v.op < 1 ∨ (25 ≤ v.op ∧ v.op ≤ 63) ∨ v.op = 65 ∨ v.op = 66 ∨ v.op = 68 ∨ v.op = 72 ∨ 73 < v.op) : ∃ t',TagOk t' (defsM v) ∧ TM.Pure K 12 [.iv (.agg (encV v))] (.iv (.sl t' (TM.one (.int .i64) (defsM v)))) := by
 have hM : defsM v = [] := by unfold defsM; rw [if_neg (by omega),if_neg (by omega)]
 rw [hM]
 refine ⟨.nil,TagOk.nil,call_pure t12 rfl rfl ?_⟩
 rcases h with h | h | h | h | h | h | h <;> simp (config := { maxSteps := 4000000 }) (disch := omega) only [t12,go_sem,TM.undef,encV,List.map_cons,List.map_nil] <;> rfl
theorem call12 (v : VI) : ∃ t',TagOk t' (defsM v) ∧ TM.Pure K 12 [.iv (.agg (encV v))] (.iv (.sl t' (TM.one (.int .i64) (defsM v)))) := by
 by_cases h1 : (1 ≤ v.op ∧ v.op ≤ 24) ∨ v.op = 64 ∨ v.op = 69 ∨ v.op = 70 ∨ v.op = 71 ∨ v.op = 73
 ·exact call12A v h1
 ·by_cases h3 : v.op = 67
  ·exact call12C v h3
  ·exact call12N v (by omega)
inductive LvR (ins : List VI) (r : Int) : Nat → Prop
 | use {i : Nat} (h : r ∈ usesM (ins.getD i default)) : LvR ins r i
 | step {i : Nat} {k : Int} (hk : k ∈ behM ins i) (h : LvR ins r k.toNat) (hd : r ∉ defsM (ins.getD i default)) : LvR ins r i
def anyL (ins : List VI) (L : Nat → Bool) (i : Nat) : Bool := (behM ins i).any fun k => L k.toNat
def eqL (ins : List VI) (r : Int) (L : Nat → Bool) (i : Nat) : Bool := decide (r ∈ usesM (ins.getD i default)) || (!decide (r ∈ defsM (ins.getD i default)) && anyL ins L i)
def lackL (n : Nat) (L : Nat → Bool) : Nat := ((List.range n).filter fun i => !L i).length
structure RdL (ins : List VI) (r : Int) (n : Nat) (L0 L : Nat → Bool) (i : Nat) (ch : Bool) : Prop where
 snd : ∀ j,L j = true → LvR ins r j
 more : lackL n L ≤ lackL n L0
 yes : ch = true → lackL n L < lackL n L0
 no : ch = false → L = L0 ∧ ∀ j,i ≤ j → j < n → eqL ins r L j = true → L j = true
theorem eqL_lv {ins : List VI} {r : Int} {L : Nat → Bool} (h : ∀ j,L j = true → LvR ins r j) {i : Nat} (he : eqL ins r L i = true) : LvR ins r i := by
 unfold eqL anyL at he
 rw [Bool.or_eq_true,Bool.and_eq_true] at he
 rcases he with he | ⟨hd,he⟩
 ·exact .use (of_decide_eq_true he)
 ·obtain ⟨k,hk,hb⟩ := List.any_eq_true.1 he
  exact .step hk (h _ hb) (by simpa using hd)
theorem RdL.skip {ins : List VI} {r : Int} {n : Nat} {L0 L : Nat → Bool} {i : Nat} {ch : Bool} (h : RdL ins r n L0 L (i + 1) ch) (he : eqL ins r L i = true → L i = true) : RdL ins r n L0 L i ch :=
 ⟨h.snd,h.more,h.yes,fun hc => ⟨(h.no hc).1,fun j hj hn hq => by
  by_cases e : j = i
  ·subst e; exact he hq
  ·exact (h.no hc).2 j (by omega) hn hq⟩⟩
theorem RdL.set {ins : List VI} {r : Int} {n : Nat} {L0 L : Nat → Bool} {i : Nat} {ch : Bool} (h : RdL ins r n L0 L (i + 1) ch) (hi : i < n) (he : eqL ins r L i = true) (hl : L i = false) : RdL ins r n L0 (upd L i true) i true := by
 have hlt : lackL n (upd L i true) < lackL n L := by
  refine flt_lt _ _ _ (fun x hx => ?_) (List.mem_range.2 hi) (by simp [hl]) (by simp [upd])
  unfold upd at hx
  split at hx
  ·cases hx
  ·exact hx
 have := h.more
 refine ⟨fun j hj => ?_,by omega,fun _ => by omega,fun hc => by cases hc⟩
 unfold upd at hj
 split at hj
 ·subst_vars; exact eqL_lv h.snd he
 ·exact h.snd j hj
def bF (L : Nat → Bool) : Nat → TV := fun i => .iv (.bool (L i))
theorem bF_upd (L : Nat → Bool) (i : Nat) (b : Bool) : upd (bF L) i (.iv (.bool b)) = bF (upd L i b) := by
 funext j; simp only [bF,upd]; split <;> rfl
theorem loop28a {n : Nat} (hn : n ≤ 1000000) {L : Nat → Bool} {S : Store} (h0 : S[0]? = some (.cells 0 false (cF n (bF L)))) (t : Tag) {l : List Int} (hl : l.length ≤ 1000) (hin : ∀ x ∈ l,0 ≤ x ∧ x < n) (x0 x1 x2 x3 x5 x6 x10 x11 x13 x14 : TV) : ∀ (k i : Nat) (now : Bool) (x12 : TV),i + k = l.length →
  lp' (lim K) t28L0 [x0,x1,x2,x3,.msl 0 0 0 n n 1,x5,x6,.iv (.bool now),.iv (.sl t (TM.one (.int .i64) l)),.iv (.int .i64 i),x10,x11,x12,x13,x14] S
   = .ret (.exit 4,[x0,x1,x2,x3,.msl 0 0 0 n n 1,x5,x6,.iv (.bool (now || (l.drop i).any fun k => L k.toNat)),.iv (.sl t (TM.one (.int .i64) l)),.iv (.int .i64 l.length),x10,x11,.iv (.bool false),x13,x14],S)
 | 0,i,now,x12,h => by
  obtain rfl : i = l.length := by omega
  rw [List.drop_length,List.any_nil,Bool.or_false]
  refine loop_at K _ _ t28L0.eq_1 ?_
  simp (config := { maxSteps := 4000000 }) (disch := omega) only [go_sem,TM.one_length]
 | k + 1,i,now,x12,h => by
  have hla : i < l.length := by omega
  have hix := ix_one (f := IV.int .i64) (t := t) (l := l) (i := (i : Int)) (by omega)
  rw [Int.toNat_natCast] at hix
  rw [drop_get hla,List.any_cons]
  obtain ⟨q0,q1⟩ := hin (l.getD i default) (by simp only [List.getD,List.getElem?_eq_getElem hla,Option.getD_some]; exact List.getElem_mem _)
  obtain ⟨q,hq⟩ := Int.eq_ofNat_of_zero_le q0
  rw [hq] at hix ⊢
  have hqn : q < n := by omega
  have i1 := ix_RW (j := 0) (v := 0) (cap := n) hqn
  have s1 : sub (cF n (bF L)) q 1 = some [.iv (.bool (L q))] := sub_cF (bF L) hqn
  rw [Int.toNat_natCast]
  cases now with
  | true =>
   have ih := loop28a hn h0 t hl hin x0 x1 x2 x3 x5 x6 x10 x11 x13 x14 k (i + 1) true (.iv (.bool true)) (by omega)
   rw [show ((i + 1 : Nat) : Int) = (i : Int) + 1 by omega,Bool.true_or] at ih
   rw [Bool.true_or]
   refine loop_at K _ _ t28L0.eq_1 ?_
   simp (config := { maxSteps := 4000000 }) (disch := omega) only [go_sem,TM.one_length,hix,i1,h0,s1,wrap_i64]
   exact congrArg er ih
  | false =>
   have ih := loop28a hn h0 t hl hin x0 x1 x2 x3 x5 x6 x10 x11 x13 x14 k (i + 1) (L q) (.iv (.bool true)) (by omega)
   rw [show ((i + 1 : Nat) : Int) = (i : Int) + 1 by omega] at ih
   rw [Bool.false_or]
   refine loop_at K _ _ t28L0.eq_1 ?_
   generalize L q = b at *
   simp (config := { maxSteps := 4000000 }) (disch := omega) only [go_sem,TM.one_length,hix,i1,h0,s1,wrap_i64]
   exact congrArg er ih
theorem loop28b {fn rg sl nd pr : Int} {rs : Bool} {ti : Tag} {ins : List VI} (hn : ins.length ≤ 1000000) (hus : ∀ x ∈ ins,x.us.length ≤ 1000000) (hbe : ∀ i,i < ins.length → ∀ k ∈ behM ins i,0 ≤ k ∧ k < ins.length) {r : Int} {L0 : Nat → Bool} (x0 x3 x14 : TV) : ∀ (i : Nat) (S : Store) (L : Nat → Bool) (ch : Bool) (x7 x8 x9 x11 x12 x13 x10 : TV),i ≤ ins.length →
  S[0]? = some (.cells 0 false (cF ins.length (bF L))) → RdL ins r ins.length L0 L i ch →
  ∃ (S' : Store) (L' : Nat → Bool) (ch' : Bool) (y7 y8 y9 y10 y11 y12 y13 : TV),lp' (lim K) t28L1 [x0,.iv (.int .i64 r),.lb [.iv (.int .i64 fn),.iv (.int .i64 rg),.iv (.int .i64 sl),.iv (.int .i64 nd),.iv (.int .i64 pr),.iv (.bool rs),.iv (.sl ti (ins.map encV))],x3,.msl 0 0 0 ins.length ins.length 1,.iv (.bool ch),.iv (.int .i64 ((i : Int) - 1)),x7,x8,x9,x10,x11,x12,x13,x14] S
   = .ret (.exit 2,[x0,.iv (.int .i64 r),.lb [.iv (.int .i64 fn),.iv (.int .i64 rg),.iv (.int .i64 sl),.iv (.int .i64 nd),.iv (.int .i64 pr),.iv (.bool rs),.iv (.sl ti (ins.map encV))],x3,.msl 0 0 0 ins.length ins.length 1,.iv (.bool ch'),.iv (.int .i64 (-1)),y7,y8,y9,y10,y11,y12,y13,x14],S') ∧
   S'[0]? = some (.cells 0 false (cF ins.length (bF L'))) ∧ RdL ins r ins.length L0 L' 0 ch'
 | 0,S,L,ch,x7,x8,x9,x11,x12,x13,x10,hi,h0,hR => by
  refine ⟨S,L,ch,x7,x8,x9,.iv (.bool false),x11,x12,x13,loop_at K _ _ t28L1.eq_1 ?_,h0,hR⟩
  rw [show ((0 : Nat) : Int) - 1 = -1 from rfl]
  simp (config := { maxSteps := 4000000 }) (disch := omega) only [go_sem]
 | i + 1,S,L,ch,x7,x8,x9,x11,x12,x13,x10,hi,h0,hR => by
  have hla : i < ins.length := by omega
  have hlen : (ins.map encV).length = ins.length := List.length_map _
  have hix := ix_map (w := 8) (f := encV) encV_len (t := ti) (l := ins) (i := (i : Int)) (by omega)
  rw [Int.toNat_natCast,encV_eq] at hix
  have hmem : ins.getD i default ∈ ins := by simp only [List.getD,List.getElem?_eq_getElem hla,Option.getD_some]; exact List.getElem_mem _
  have hul := hus _ hmem
  obtain ⟨tu,_,c10⟩ := call10 (ins.getD i default) hul
  obtain ⟨td,_,c12⟩ := call12 (ins.getD i default)
  have lU := usesM_len (ins.getD i default)
  have lD := defsM_len (ins.getD i default)
  have hU := call40 tu (usesM (ins.getD i default)) r (by omega) []
  have hD := call40 td (defsM (ins.getD i default)) r (by omega) []
  obtain ⟨tb,c29⟩ := call29 fn rg sl nd pr rs ti ins hn hla
  have hbl : (behM ins i).length ≤ 1000 := by
   unfold behM; split
   ·simp
   ·split <;> split <;> simp
  have l1 := loop28a hn h0 tb hbl (hbe i hla) x0 (.iv (.int .i64 r)) (.lb [.iv (.int .i64 fn),.iv (.int .i64 rg),.iv (.int .i64 sl),.iv (.int .i64 nd),.iv (.int .i64 pr),.iv (.bool rs),.iv (.sl ti (ins.map encV))]) x3 (.iv (.bool ch)) (.iv (.int .i64 i)) (.iv (.bool true)) (.iv (.bool true)) x13 x14 (behM ins i).length 0 false x12 (by omega)
  rw [show ((0 : Nat) : Int) = 0 from rfl,List.drop_zero,Bool.false_or] at l1
  have hE : eqL ins r L i = (decide (r ∈ usesM (ins.getD i default)) || (!decide (r ∈ defsM (ins.getD i default)) && (behM ins i).any fun k => L k.toNat)) := rfl
  rw [show (((i + 1 : Nat) : Int) - 1) = (i : Int) by omega]
  have ihs := fun (S : Store) (L : Nat → Bool) (ch : Bool) (x7 x8 x9 x11 x12 x13 x10 : TV) => loop28b (fn := fn) (rg := rg) (sl := sl) (nd := nd) (pr := pr) (rs := rs) (ti := ti) hn hus hbe (r := r) (L0 := L0) x0 x3 x14 i S L ch x7 x8 x9 x11 x12 x13 x10 (by omega)
  have i1 := ix_RW (j := 0) (v := 0) (cap := ins.length) hla
  have s1 : sub (cF ins.length (bF L)) i 1 = some [.iv (.bool (L i))] := sub_cF (bF L) hla
  have p1 := put_cF (bF L) (.iv (.bool true)) hla
  rw [bF_upd] at p1
  have hbb : i + 1 ≤ (cF ins.length (bF L)).length := by rw [cF_len]; omega
  rw [encV_eq] at c10 c12
  unfold encG at c29
  generalize hBL : behM ins i = bl at *
  generalize usesM (ins.getD i default) = us at *
  generalize defsM (ins.getD i default) = ds at *
  generalize hu : decide (r ∈ us) = bu at *
  generalize hd : decide (r ∈ ds) = bd at *
  generalize ha : (bl.any fun k => L k.toNat) = ba at *
  generalize ins.getD i default = x at *
  have hlt := lt_get h0
  cases bu with
  | true =>
   rw [Bool.true_or] at hE
   cases hLi : L i with
   | true =>
    rw [hLi] at s1
    obtain ⟨S',L',ch',y7,y8,y9,y10,y11,y12,y13,ih,hx⟩ := ihs S L ch (.iv (.bool true)) x8 x9 (.iv (.bool false)) x12 (.iv (.bool false)) (.iv (.bool true)) h0 (hR.skip fun _ => hLi)
    refine ⟨S',L',ch',y7,y8,y9,y10,y11,y12,y13,loop_at K _ _ t28L1.eq_1 ?_,hx⟩
    simp (config := { maxSteps := 4000000 }) (disch := omega) only [go_sem,hlen,hix,cpR_pure c10,cpR_pure c12,hU,hD,i1,h0,s1,wrap_i64]
    exact congrArg er ih
   | false =>
    rw [hLi] at s1
    obtain ⟨S',L',ch',y7,y8,y9,y10,y11,y12,y13,ih,hx⟩ := ihs (S.set 0 (.cells 0 false (cF ins.length (bF (upd L i true))))) (upd L i true) true (.iv (.bool true)) x8 x9 (.iv (.bool false)) x12 (.iv (.bool true)) (.iv (.bool true)) (get_setS hlt _) (hR.set hla hE hLi)
    refine ⟨S',L',ch',y7,y8,y9,y10,y11,y12,y13,loop_at K _ _ t28L1.eq_1 ?_,hx⟩
    simp (config := { maxSteps := 4000000 }) (disch := omega) only [go_sem,hlen,hix,cpR_pure c10,cpR_pure c12,hU,hD,i1,h0,s1,p1,hbb,wrap_i64]
    exact congrArg er ih
  | false =>
   rw [Bool.false_or] at hE
   cases bd with
   | true =>
    rw [Bool.not_true,Bool.false_and] at hE
    obtain ⟨S',L',ch',y7,y8,y9,y10,y11,y12,y13,ih,hx⟩ := ihs S L ch (.iv (.bool false)) x8 x9 (.iv (.bool false)) x12 (.iv (.bool false)) (.iv (.bool true)) h0 (hR.skip fun h => by rw [hE] at h; cases h)
    refine ⟨S',L',ch',y7,y8,y9,y10,y11,y12,y13,loop_at K _ _ t28L1.eq_1 ?_,hx⟩
    simp (config := { maxSteps := 4000000 }) (disch := omega) only [go_sem,hlen,hix,cpR_pure c10,cpR_pure c12,hU,hD,i1,h0,s1,wrap_i64]
    exact congrArg er ih
   | false =>
    rw [Bool.not_false,Bool.true_and] at hE
    cases ba with
    | false =>
     obtain ⟨S',L',ch',y7,y8,y9,y10,y11,y12,y13,ih,hx⟩ := ihs S L ch (.iv (.bool false)) (.iv (.sl tb (TM.one (.int .i64) bl))) (.iv (.int .i64 bl.length)) (.iv (.bool true)) (.iv (.bool false)) (.iv (.bool false)) (.iv (.bool true)) h0 (hR.skip fun h => by rw [hE] at h; cases h)
     refine ⟨S',L',ch',y7,y8,y9,y10,y11,y12,y13,loop_at K _ _ t28L1.eq_1 ?_,hx⟩
     simp (config := { maxSteps := 4000000 }) (disch := omega) only [go_sem,hlen,hix,cpR_pure c10,cpR_pure c12,hU,hD,cpR_pure c29,wrap_i64]
     rw [l1]
     simp (config := { maxSteps := 4000000 }) (disch := omega) only [go_sem,i1,h0,s1,wrap_i64]
     exact congrArg er ih
    | true =>
     cases hLi : L i with
     | true =>
      rw [hLi] at s1
      obtain ⟨S',L',ch',y7,y8,y9,y10,y11,y12,y13,ih,hx⟩ := ihs S L ch (.iv (.bool true)) (.iv (.sl tb (TM.one (.int .i64) bl))) (.iv (.int .i64 bl.length)) (.iv (.bool true)) (.iv (.bool false)) (.iv (.bool false)) (.iv (.bool true)) h0 (hR.skip fun _ => hLi)
      refine ⟨S',L',ch',y7,y8,y9,y10,y11,y12,y13,loop_at K _ _ t28L1.eq_1 ?_,hx⟩
      simp (config := { maxSteps := 4000000 }) (disch := omega) only [go_sem,hlen,hix,cpR_pure c10,cpR_pure c12,hU,hD,cpR_pure c29,wrap_i64]
      rw [l1]
      simp (config := { maxSteps := 4000000 }) (disch := omega) only [go_sem,i1,h0,s1,wrap_i64]
      exact congrArg er ih
     | false =>
      rw [hLi] at s1
      obtain ⟨S',L',ch',y7,y8,y9,y10,y11,y12,y13,ih,hx⟩ := ihs (S.set 0 (.cells 0 false (cF ins.length (bF (upd L i true))))) (upd L i true) true (.iv (.bool true)) (.iv (.sl tb (TM.one (.int .i64) bl))) (.iv (.int .i64 bl.length)) (.iv (.bool true)) (.iv (.bool false)) (.iv (.bool true)) (.iv (.bool true)) (get_setS hlt _) (hR.set hla hE hLi)
      refine ⟨S',L',ch',y7,y8,y9,y10,y11,y12,y13,loop_at K _ _ t28L1.eq_1 ?_,hx⟩
      simp (config := { maxSteps := 4000000 }) (disch := omega) only [go_sem,hlen,hix,cpR_pure c10,cpR_pure c12,hU,hD,cpR_pure c29,wrap_i64]
      rw [l1]
      simp (config := { maxSteps := 4000000 }) (disch := omega) only [go_sem,i1,h0,s1,p1,hbb,wrap_i64]
      exact congrArg er ih
theorem loop28c {fn rg sl nd pr : Int} {rs : Bool} {ti : Tag} {ins : List VI} (hn : ins.length ≤ 1000000) (hus : ∀ x ∈ ins,x.us.length ≤ 1000000) (hbe : ∀ i,i < ins.length → ∀ k ∈ behM ins i,0 ≤ k ∧ k < ins.length) {r : Int} (x0 x3 : TV) : ∀ (q : Nat) (S : Store) (L : Nat → Bool) (x5 x6 x7 x8 x9 x10 x11 x12 x13 x14 : TV),lackL ins.length L ≤ q →
  S[0]? = some (.cells 0 false (cF ins.length (bF L))) → (∀ j,L j = true → LvR ins r j) →
  ∃ (S' : Store) (L' : Nat → Bool) (y5 y6 y7 y8 y9 y10 y11 y12 y13 y14 : TV),lp' (lim K) t28L2 [x0,.iv (.int .i64 r),.lb [.iv (.int .i64 fn),.iv (.int .i64 rg),.iv (.int .i64 sl),.iv (.int .i64 nd),.iv (.int .i64 pr),.iv (.bool rs),.iv (.sl ti (ins.map encV))],x3,.msl 0 0 0 ins.length ins.length 1,x5,x6,x7,x8,x9,x10,x11,x12,x13,x14] S
   = .ret (.ret,[x0,.iv (.int .i64 r),.lb [.iv (.int .i64 fn),.iv (.int .i64 rg),.iv (.int .i64 sl),.iv (.int .i64 nd),.iv (.int .i64 pr),.iv (.bool rs),.iv (.sl ti (ins.map encV))],.msl 0 0 0 ins.length ins.length 1,.msl 0 0 0 ins.length ins.length 1,y5,y6,y7,y8,y9,y10,y11,y12,y13,y14],S') ∧
   S'[0]? = some (.cells 0 false (cF ins.length (bF L'))) ∧ (∀ j,L' j = true → LvR ins r j) ∧ ∀ j,j < ins.length → eqL ins r L' j = true → L' j = true
 | q,S,L,x5,x6,x7,x8,x9,x10,x11,x12,x13,x14,hq,h0,hL => by
  obtain ⟨S1,L1,ch,y7,y8,y9,y10,y11,y12,y13,l1,h1,hR⟩ := loop28b (fn := fn) (rg := rg) (sl := sl) (nd := nd) (pr := pr) (rs := rs) (ti := ti) hn hus hbe (r := r) (L0 := L) x0 x3 x14 ins.length S L false x7 x8 x9 x11 x12 x13 x10 (Nat.le_refl _) h0 ⟨hL,Nat.le_refl _,(fun h => by cases h),fun _ => ⟨rfl,fun j h1 h2 => by omega⟩⟩
  have hlen : (ins.map encV).length = ins.length := List.length_map _
  cases ch with
  | false =>
   refine ⟨S1,L1,.iv (.bool false),.iv (.int .i64 (-1)),y7,y8,y9,y10,y11,y12,y13,.iv (.bool true),loop_at K _ _ t28L2.eq_1 ?_,h1,hR.snd,fun j hj => (hR.no rfl).2 j (Nat.zero_le _) hj⟩
   simp (config := { maxSteps := 4000000 }) (disch := omega) only [go_sem,hlen,wrap_i64]
   rw [l1]
   simp (config := { maxSteps := 4000000 }) (disch := omega) only [go_sem]
  | true =>
   have hlt := hR.yes rfl
   match q,hq with
   | 0,hq => omega
   | q + 1,hq =>
    obtain ⟨S',L',z5,z6,z7,z8,z9,z10,z11,z12,z13,z14,ih,hx⟩ := loop28c (fn := fn) (rg := rg) (sl := sl) (nd := nd) (pr := pr) (rs := rs) (ti := ti) hn hus hbe (r := r) x0 x3 q S1 L1 (.iv (.bool true)) (.iv (.int .i64 (-1))) y7 y8 y9 y10 y11 y12 y13 (.iv (.bool false)) (by omega) h1 hR.snd
    refine ⟨S',L',z5,z6,z7,z8,z9,z10,z11,z12,z13,z14,loop_at K _ _ t28L2.eq_1 ?_,hx⟩
    simp (config := { maxSteps := 4000000 }) (disch := omega) only [go_sem,hlen,wrap_i64]
    rw [l1]
    simp (config := { maxSteps := 4000000 }) (disch := omega) only [go_sem]
    exact congrArg er ih
theorem chunks_one : ∀ l : List IV,chunks 1 l.length l = l.map fun x => [x]
 | [] => rfl
 | a :: r => by simp only [List.length_cons,chunks,List.take_succ_cons,List.take_zero,List.drop_succ_cons,List.drop_zero,chunks_one r,List.map_cons]
def rowB (L : Nat → Bool) (n : Nat) : List (List IV) := (List.range n).map fun i => [.bool (L i)]
theorem res_bF {S : Store} {n : Nat} {L : Nat → Bool} (h : S[0]? = some (.cells 0 false (cF n (bF L)))) (c : Nat) : TM.resolve S (.msl 0 0 0 n c 1) = some (.iv (.sl .no (rowB L n))) := by
 have e1 : sub (cF n (bF L)) 0 (n * 1) = some (cF n (bF L)) := sub_all (by rw [cF_len]; simp)
 have e2 : toIVs (cF n (bF L)) = some ((List.range n).map fun i => .bool (L i)) := by
  have : cF n (bF L) = ((List.range n).map fun i => IV.bool (L i)).map .iv := by rw [List.map_map]; rfl
  rw [this,toIVs_ivs]
 have e3 := chunks_one ((List.range n).map fun i => IV.bool (L i))
 rw [List.length_map,List.length_range,List.map_map] at e3
 show (match elemsIV S (.msl 0 0 0 n c 1) with | some l => some (IV.sl .no l) | none => none).map TV.iv = _
 simp only [elemsIV,h,ne_eq,not_true_eq_false,↓reduceIte,e1,e2,Option.map_some,e3]
 rfl
theorem mkV_b {bytes m n : Nat} (hr : roomy n bytes = true) : mkV [.bool false] bytes m (.iv (.int .i64 n)) (.iv (.int .i64 n)) = some (.msl m 0 0 n n 1,.cells 0 false (cF n (bF fun _ => false))) := by
 have hz := zerosF (.iv (.bool false)) n
 rw [show bF (fun _ => false) = fun _ => TV.iv (.bool false) from rfl]
 simp [mkV,TM.intOf,hr,hz]
theorem call28 (fn rg sl nd pr : Int) (rs : Bool) (ti : Tag) (ins : List VI) (hn : ins.length ≤ 1000000) (hus : ∀ x ∈ ins,x.us.length ≤ 1000000) (hbe : ∀ i,i < ins.length → ∀ k ∈ behM ins i,0 ≤ k ∧ k < ins.length) (r : Int) :
  ∃ L : Nat → Bool,TM.Pure K 28 [.iv (.agg (encG fn rg sl nd pr rs ti ins)),.iv (.int .i64 r)] (.iv (.sl .no (rowB L ins.length))) ∧ ∀ i,i < ins.length → (L i = true ↔ LvR ins r i) := by
 obtain ⟨S',L',z5,z6,z7,z8,z9,z10,z11,z12,z13,z14,l1,h1,hs,hc⟩ := loop28c (fn := fn) (rg := rg) (sl := sl) (nd := nd) (pr := pr) (rs := rs) (ti := ti) hn hus hbe (r := r) (.iv (.agg (encG fn rg sl nd pr rs ti ins))) (.iv (.sl .nil [])) _ [.cells 0 false (cF ins.length (bF fun _ => false))] (fun _ => false) (.tup []) (.tup []) (.tup []) (.tup []) (.tup []) (.tup []) (.tup []) (.tup []) (.tup []) (.tup []) (Nat.le_refl _) rfl (fun j h => by cases h)
 have hlen : (ins.map encV).length = ins.length := List.length_map _
 have hz := fun k => mkV_b (m := k) (bytes := 1) (roomy_ok (n := ins.length) (b := 1) (by omega))
 unfold encG at *
 refine ⟨L',TM.pure_ret (S := S') (r := .msl 0 0 0 ins.length ins.length 1) (call_ret' K _ (fn := t28) rfl rfl ?_) (res_bF h1 _),fun i hi => ⟨hs i,fun h => ?_⟩⟩
 ·generalize ins.length = n at *
  simp (config := { maxSteps := 4000000 }) (disch := omega) only [t28,go_sem,TM.undef,hlen,hz]
  rw [l1]
  simp (config := { maxSteps := 4000000 }) (disch := omega) only [go_sem]
 ·induction h with
  | use h =>
   refine hc _ hi ?_
   unfold eqL
   rw [decide_eq_true h,Bool.true_or]
  | step hk h hd ih =>
   refine hc _ hi ?_
   have hkk := hbe _ hi _ hk
   have := ih (by omega)
   unfold eqL anyL
   rw [decide_eq_false hd,Bool.not_false,Bool.true_and,Bool.or_eq_true]
   exact .inr (List.any_eq_true.2 ⟨_,hk,this⟩)
def okI (f : Nat) (op v : Int) : Bool := match (ex K 300).call f [.iv (.int .i64 op)] [] with
 | .ret (.iv (.int .i64 w),_) => decide (w = v)
 | _ => false
def okB (f : Nat) (op : Int) (v : Bool) : Bool := match (ex K 300).call f [.iv (.int .i64 op)] [] with
 | .ret (.iv (.bool w),_) => w == v
 | _ => false
theorem okI_pure {f : Nat} {op v : Int} (h : okI f op v = true) : TM.Pure K f [.iv (.int .i64 op)] (.iv (.int .i64 v)) := by
 unfold okI at h
 generalize hx : (ex K 300).call f [.iv (.int .i64 op)] [] = x at h
 match x,h with
 | .ret (.iv (.int .i64 w),S),h =>
  have : w = v := of_decide_eq_true h
  subst this
  exact TM.pure_ret (S := S) (r := .iv (.int .i64 w)) (lim_of hx) (by rw [resolve_iv])
theorem okB_pure {f : Nat} {op : Int} {v : Bool} (h : okB f op v = true) : TM.Pure K f [.iv (.int .i64 op)] (.iv (.bool v)) := by
 unfold okB at h
 generalize hx : (ex K 300).call f [.iv (.int .i64 op)] [] = x at h
 match x,h with
 | .ret (.iv (.bool w),S),h =>
  have : w = v := by simpa using h
  subst this
  exact TM.pure_ret (S := S) (r := .iv (.bool w)) (lim_of hx) (by rw [resolve_iv])
def formR (op : Int) : Int := if op ≤ 14 then 1 else if op = 23 then 3 else if op = 25 then 4 else 2
def opTab (op : Int) : Bool := okI 83 op (formR op) && okB 72 op (decide (op ≤ 24)) && okB 73 op (decide (op ≠ 23)) && okB 74 op (decide (op ≤ 14 ∨ op = 25)) && okI 75 op (if op ≤ 14 then 0 else 16) && okI 85 op (loM op) && okI 86 op (hiM op)
theorem opTab_ok : (List.range 25).all (fun k => opTab ((k : Int) + 1)) = true := by kernel_rfl
theorem op_facts {op : Int} (h : 1 ≤ op ∧ op ≤ 25) : TM.Pure K 83 [.iv (.int .i64 op)] (.iv (.int .i64 (formR op))) ∧ TM.Pure K 72 [.iv (.int .i64 op)] (.iv (.bool (decide (op ≤ 24)))) ∧ TM.Pure K 73 [.iv (.int .i64 op)] (.iv (.bool (decide (op ≠ 23)))) ∧ TM.Pure K 74 [.iv (.int .i64 op)] (.iv (.bool (decide (op ≤ 14 ∨ op = 25)))) ∧ TM.Pure K 75 [.iv (.int .i64 op)] (.iv (.int .i64 (if op ≤ 14 then 0 else 16))) ∧ TM.Pure K 85 [.iv (.int .i64 op)] (.iv (.int .i64 (loM op))) ∧ TM.Pure K 86 [.iv (.int .i64 op)] (.iv (.int .i64 (hiM op))) := by
 have := List.all_eq_true.1 opTab_ok (op - 1).toNat (List.mem_range.2 (by omega))
 rw [show (((op - 1).toNat : Nat) : Int) + 1 = op by omega] at this
 unfold opTab at this
 simp only [Bool.and_eq_true] at this
 obtain ⟨⟨⟨⟨⟨⟨h1,h2⟩,h3⟩,h4⟩,h5⟩,h6⟩,h7⟩ := this
 exact ⟨okI_pure h1,okB_pure h2,okB_pure h3,okB_pure h4,okI_pure h5,okI_pure h6,okI_pure h7⟩
theorem call84 (b : Bool) : TM.Pure K 84 [.iv (.bool b),.iv (.int .i64 0)] (.iv (.bool true)) := by
 refine call_pure t84 rfl rfl ?_
 simp (config := { maxSteps := 4000000 }) (disch := omega) only [t84,go_sem,TM.undef]
theorem call70 (op im : Int) (h : 1 ≤ op ∧ op ≤ 25) : TM.Pure K 70 [.iv (.agg [.int .i64 op,.int .i64 0,.int .i64 0,.int .i64 0,.int .i64 im])] (.iv (.int .i64 (if loM op ≤ im ∧ im ≤ hiM op then 0 else 11))) := by
 obtain ⟨c83,c72,c73,c74,c75,c85,c86⟩ := op_facts h
 have hf : formR op ≠ 0 := by unfold formR; (repeat' split) <;> decide
 have c84 := fun b => call84 b
 generalize formR op = fm at *
 generalize loM op = lo at *
 generalize hiM op = hi at *
 generalize decide (op ≤ 24) = b1 at *
 generalize decide (op ≠ 23) = b2 at *
 generalize decide (op ≤ 14 ∨ op = 25) = b3 at *
 have k1 := c84 b1
 have k2 := c84 b2
 have k3 := c84 b3
 refine call_pure t70 rfl rfl ?_
 rcases (by omega : im < lo ∨ (lo ≤ im ∧ hi < im) ∨ (lo ≤ im ∧ im ≤ hi)) with h1 | h1 | h1
 ·rw [if_neg (by omega)]
  simp (config := { maxSteps := 4000000 }) (disch := omega) only [t70,go_sem,TM.undef,cpR_pure c83,cpR_pure c72,cpR_pure c73,cpR_pure c74,cpR_pure c85,cpR_pure c86,cpR_pure k1,cpR_pure k2,cpR_pure k3]
 ·rw [if_neg (by omega)]
  simp (config := { maxSteps := 4000000 }) (disch := omega) only [t70,go_sem,TM.undef,cpR_pure c83,cpR_pure c72,cpR_pure c73,cpR_pure c74,cpR_pure c85,cpR_pure c86,cpR_pure k1,cpR_pure k2,cpR_pure k3]
 ·rw [if_pos h1]
  simp (config := { maxSteps := 4000000 }) (disch := omega) only [t70,go_sem,TM.undef,cpR_pure c83,cpR_pure c72,cpR_pure c73,cpR_pure c74,cpR_pure c85,cpR_pure c86,cpR_pure k1,cpR_pure k2,cpR_pure k3]
def oneB (l : List Int) : List (List IV) := TM.one (.int .u8) l
theorem oneB_len (l : List Int) : (oneB l).length = l.length := TM.one_length ..
theorem oneB_el (l : List Int) : Elems 1 (oneB l) := by
 intro y hy
 obtain ⟨v,_,rfl⟩ := List.mem_map.1 hy
 exact ⟨rfl,rfl⟩
theorem oneB_snoc (l : List Int) (v : Int) : oneB l ++ [[.int .u8 v]] = oneB (l ++ [v]) := by simp [oneB,TM.one]
theorem loop71 (n : Int) (x2 x3 : TV) : ∀ (k : Nat) (l : List Int) (j : Nat) (S : Store) (x5 : TV),k ≤ 100 → l.length + k ≤ 1000 → At 1 5 (oneB l) j S →
  ∃ (l' : List Int) (j' : Nat) (S' : Store) (y5 : TV),lp' (lim K) t71L0 [acc j (oneB l),.iv (.int .i64 n),x2,x3,.iv (.int .i64 ((k : Int) - 1)),x5] S
   = .ret (.exit 0,[acc j' (oneB l'),.iv (.int .i64 n),x2,x3,.iv (.int .i64 (-1)),y5],S') ∧ l'.length = l.length + k ∧ At 1 5 (oneB l') j' S'
 | 0,l,j,S,x5,hk,hl,ha => by
  refine ⟨l,j,S,.iv (.bool false),loop_at K _ _ t71L0.eq_1 ?_,rfl,ha⟩
  rw [show ((0 : Nat) : Int) - 1 = -1 from rfl]
  simp (config := { maxSteps := 4000000 }) (disch := omega) only [go_sem]
 | k + 1,l,j,S,x5,hk,hl,ha => by
  have e0 : IntKind.u64.wrap (k : Int) = (k : Int) := wrap_u64 (by omega)
  have e1 : ∃ v,TM.binOp .shr (.iv (.int .i64 n)) (.iv (.int .u64 (k : Int))) = some (.int .i64 v) := by
   rw [TM.binOp_shr,if_neg (by omega)]; exact ⟨_,rfl⟩
  obtain ⟨v1,e1⟩ := e1
  have e2 : ∃ v,TM.binOp .and (.iv (.int .i64 v1)) (.iv (.int .i64 1)) = some (.int .i64 v) := by
   rw [TM.binOp_and]; exact ⟨_,rfl⟩
  obtain ⟨v2,e2⟩ := e2
  have e3 : ∃ v,TM.convOp (.toInt .u8) (.iv (.int .i64 v2)) = some (.int .u8 v) := ⟨_,rfl⟩
  obtain ⟨v3,e3⟩ := e3
  have ap := ap_g (b := 1) (c := [.int .u8 v3]) (t := .full) ha ⟨rfl,rfl⟩ (oneB_el l) (roomy_ok (by rw [oneB_len]; omega))
  have hat := gS1_at ha [.int .u8 v3]
  rw [oneB_snoc] at ap hat
  obtain ⟨l',j',S',y5,ih,hl',ha'⟩ := loop71 n x2 x3 k (l ++ [v3]) _ _ (.iv (.bool true)) (by omega) (by simp; omega) hat
  rw [show (((k + 1 : Nat) : Int) - 1) = (k : Int) by omega]
  refine ⟨l',j',S',y5,loop_at K _ _ t71L0.eq_1 ?_,by rw [hl']; simp; omega,ha'⟩
  simp (config := { maxSteps := 4000000 }) (disch := omega) only [go_sem,e0,e1,e2,e3,ap,wrap_i64]
  exact congrArg er ih
theorem call71 (n : Int) (k : Nat) (l : List Int) (j : Nat) (S : Store) (hk : k ≤ 100) (hl : l.length ≤ 800) (ha : At 1 5 (oneB l) j S) :
  ∃ (l' : List Int) (j' : Nat) (S' : Store),(lim K).call 71 [acc j (oneB l),.iv (.int .i64 n),.iv (.int .i64 k)] S = .ret (acc j' (oneB l'),S') ∧ l'.length = l.length + k ∧ At 1 5 (oneB l') j' S' := by
 obtain ⟨l',j',S',y5,l1,h1,h2⟩ := loop71 n (.iv (.int .i64 k)) (.iv (.sl .nil [])) k l j S (.tup []) hk (by omega) ha
 refine ⟨l',j',S',call_ret' K S (fn := t71) rfl rfl ?_,h1,h2⟩
 simp (config := { maxSteps := 4000000 }) (disch := omega) only [t71,go_sem,TM.undef,wrap_i64]
 rw [l1]
 simp (config := { maxSteps := 4000000 }) (disch := omega) only [go_sem]
def envE (op im : Int) : TV := .lb [.iv (.int .i64 op),.iv (.int .i64 0),.iv (.int .i64 0),.iv (.int .i64 0),.iv (.int .i64 im)]
theorem lenB (S : Store) (j : Nat) (l : List Int) : lenV .sl S (acc j (oneB l)) = some (.iv (.int .i64 l.length)) := by rw [lenV_acc,oneB_len]
theorem loop52b {op im : Int} (bt : Nat) (hbt : bt ≤ 32) (c75 : TM.Pure K 75 [.iv (.int .i64 op)] (.iv (.int .i64 bt))) (x0 x2 x3 x4 x6 x7 x8 x9 x10 x11 x13 : TV) : ∀ (k : Nat) (l : List Int) (j : Nat) (S : Store) (x12 : TV),l.length + bt ≤ 100 → 32 - (l.length + bt) = k → At 1 5 (oneB l) j S →
  ∃ (l' : List Int) (j' : Nat) (S' : Store) (y12 : TV),lp' (lim K) t52L1 [x0,envE op im,x2,x3,x4,acc j (oneB l),x6,x7,x8,x9,x10,x11,x12,x13] S
   = .ret (.exit 0,[x0,envE op im,x2,x3,x4,acc j' (oneB l'),x6,x7,x8,x9,x10,x11,y12,x13],S') ∧ 32 ≤ l'.length + bt ∧ l'.length + bt ≤ 100 ∧ At 1 5 (oneB l') j' S'
 | 0,l,j,S,x12,hl,hk,ha => by
  have hB := lenB S j l
  refine ⟨l,j,S,.iv (.bool false),loop_at K _ _ t52L1.eq_1 ?_,by omega,hl,ha⟩
  unfold envE
  simp (config := { maxSteps := 4000000 }) (disch := omega) only [go_sem,hB,cpR_pure c75,wrap_i64]
 | k + 1,l,j,S,x12,hl,hk,ha => by
  have hB := lenB S j l
  have ap := ap_g (b := 1) (c := [.int .u8 0]) (t := .full) ha ⟨rfl,rfl⟩ (oneB_el l) (roomy_ok (by rw [oneB_len]; omega))
  have hat := gS1_at ha [.int .u8 0]
  rw [oneB_snoc] at ap hat
  obtain ⟨l',j',S',y12,ih,h1,h2,h3⟩ := loop52b (op := op) (im := im) bt hbt c75 x0 x2 x3 x4 x6 x7 x8 x9 x10 x11 x13 k (l ++ [0]) _ _ (.iv (.bool true)) (by simp; omega) (by simp; omega) hat
  refine ⟨l',j',S',y12,loop_at K _ _ t52L1.eq_1 ?_,h1,h2,h3⟩
  unfold envE at *
  simp (config := { maxSteps := 4000000 }) (disch := omega) only [go_sem,hB,cpR_pure c75,ap,wrap_i64]
  exact congrArg er ih
theorem ix_accB {j : Nat} {l : List Int} {i : Nat} (h : i < l.length) : indexAddrS 1 (acc j (oneB l)) (i : Int) = some (.iv (.cp [.int .u8 (l.getD i 0)])) := by
 have h0 : oneB l ≠ [] := by intro e; have := oneB_len l; rw [e] at this; simp at this; omega
 rw [acc_ne _ h0]
 refine ix_tsl (by omega) ?_ rfl
 rw [Int.toNat_natCast]
 simp [oneB,TM.one,List.getD,List.getElem?_eq_getElem h]
theorem loop52a {l : List Int} (hl : 32 ≤ l.length) (j : Nat) (S : Store) (x0 x1 x2 x3 x4 x8 x9 x10 x11 x12 : TV) : ∀ (k i : Nat) (w : Int) (x13 : TV),i + k = 32 →
  ∃ (w' : Int) (y13 : TV),lp' (lim K) t52L0 [x0,x1,x2,x3,x4,acc j (oneB l),.iv (.int .u32 w),.iv (.int .i64 i),x8,x9,x10,x11,x12,x13] S
   = .ret (.exit 2,[x0,x1,x2,x3,x4,acc j (oneB l),.iv (.int .u32 w'),.iv (.int .i64 32),x8,x9,x10,x11,x12,y13],S)
 | 0,i,w,x13,h => by
  obtain rfl : i = 32 := by omega
  refine ⟨w,.iv (.bool false),loop_at K _ _ t52L0.eq_1 ?_⟩
  rw [show ((32 : Nat) : Int) = 32 from rfl]
  simp (config := { maxSteps := 4000000 }) (disch := omega) only [go_sem]
 | k + 1,i,w,x13,h => by
  have hix := ix_accB (j := j) (l := l) (i := i) (by omega)
  generalize l.getD i 0 = v at *
  obtain ⟨w',y13,ih⟩ := loop52a hl j S x0 x1 x2 x3 x4 x8 x9 x10 x11 x12 k (i + 1) (IntKind.u32.wrap (IntKind.u32.wrap (2 * w) + IntKind.u32.wrap v)) (.iv (.bool true)) (by omega)
  rw [show ((i + 1 : Nat) : Int) = (i : Int) + 1 by omega] at ih
  refine ⟨w',y13,loop_at K _ _ t52L0.eq_1 ?_⟩
  generalize oneB l = B at *
  simp (config := { maxSteps := 4000000 }) (disch := omega) only [go_sem,hix,wrap_i64]
  exact congrArg er ih
theorem call52 (op im : Int) (h : 1 ≤ op ∧ op ≤ 25) : ∃ w : Int,TM.Pure K 52 [.iv (.agg [.int .i64 op,.int .i64 0,.int .i64 0,.int .i64 0,.int .i64 im])] (.tup [.iv (.int .u32 w),.iv (.int .i64 (if loM op ≤ im ∧ im ≤ hiM op then 0 else 11))]) := by
 have c70 := call70 op im h
 obtain ⟨c83,c72,c73,c74,c75,c85,c86⟩ := op_facts h
 by_cases e : loM op ≤ im ∧ im ≤ hiM op
 ·rw [if_pos e] at c70 ⊢
  obtain ⟨bt,hbt,ebt⟩ : ∃ bt : Nat,bt ≤ 16 ∧ (if op ≤ 14 then (0 : Int) else 16) = (bt : Int) := by
   by_cases h1 : op ≤ 14
   ·exact ⟨0,by omega,by rw [if_pos h1]; rfl⟩
   ·exact ⟨16,by omega,by rw [if_neg h1]; rfl⟩
  rw [ebt] at c75
  generalize decide (op ≤ 24) = b1 at *
  generalize decide (op ≠ 23) = b2 at *
  generalize decide (op ≤ 14 ∨ op = 25) = b3 at *
  obtain ⟨l1,j1,S1,q1,n1,a1⟩ := call71 op 6 [] 0 [] (by omega) (by simp) (fun h0 => absurd rfl h0)
  rw [show oneB [] = [] from rfl,acc_nil,show ((6 : Nat) : Int) = 6 from rfl] at q1
  have step : ∀ (b : Bool) (l : List Int) (j : Nat) (S : Store),l.length ≤ 20 → At 1 5 (oneB l) j S → ∃ (l' : List Int) (j' : Nat) (S' : Store),l.length ≤ l'.length ∧ l'.length ≤ l.length + 5 ∧ At 1 5 (oneB l') j' S' ∧ (b = true → (lim K).call 71 [acc j (oneB l),.iv (.int .i64 0),.iv (.int .i64 5)] S = .ret (acc j' (oneB l'),S')) ∧ (b = false → l' = l ∧ j' = j ∧ S' = S) := by
   intro b l j S hl ha
   cases b with
   | true =>
    obtain ⟨l',j',S',q,n,a⟩ := call71 0 5 l j S (by omega) (by omega) ha
    exact ⟨l',j',S',by omega,by omega,a,(fun _ => q),(fun h => by cases h)⟩
   | false => exact ⟨l,j,S,by omega,by omega,ha,(fun h => by cases h),fun _ => ⟨rfl,rfl,rfl⟩⟩
  obtain ⟨l2,j2,S2,m2,n2,a2,q2,r2⟩ := step b1 l1 j1 S1 (by rw [n1]; simp) a1
  obtain ⟨l3,j3,S3,m3,n3,a3,q3,r3⟩ := step b2 l2 j2 S2 (by rw [n1] at n2; simp at n2; omega) a2
  obtain ⟨l4,j4,S4,m4,n4,a4,q4,r4⟩ := step b3 l3 j3 S3 (by rw [n1] at n2; simp at n2; omega) a3
  rw [n1] at n2
  simp at n2
  obtain ⟨l5,j5,S5,y12,lo1,g1,g2,a5⟩ := loop52b (op := op) (im := im) bt (by omega) c75 (.iv (.agg [.int .i64 op,.int .i64 0,.int .i64 0,.int .i64 0,.int .i64 im])) (.iv (.int .u32 0)) (.iv (.int .i64 0)) (.iv (.int .i64 0)) (.tup []) (.tup []) (.iv (.bool false)) (.iv (.bool b1)) (.iv (.bool b2)) (.iv (.bool b3)) (.tup []) _ l4 j4 S4 (.tup []) (by omega) rfl a4
  obtain ⟨l6,j6,S6,q6,n6,a6⟩ := call71 im bt l5 j5 S5 (by omega) (by omega) a5
  obtain ⟨w',y13,lo2⟩ := loop52a (l := l6) (by omega) j6 S6 (.iv (.agg [.int .i64 op,.int .i64 0,.int .i64 0,.int .i64 0,.int .i64 im])) (envE op im) (.iv (.int .u32 0)) (.iv (.int .i64 0)) (.iv (.int .i64 0)) (.iv (.bool false)) (.iv (.bool b1)) (.iv (.bool b2)) (.iv (.bool b3)) y12 32 0 0 (.tup []) (by omega)
  rw [show ((0 : Nat) : Int) = 0 from rfl] at lo2
  refine ⟨w',?_⟩
  unfold envE at *
  refine TM.pure_ret (S := S6) (r := .tup [.iv (.int .u32 w'),.iv (.int .i64 0)]) (call_ret' K _ (fn := t52) rfl rfl ?_) rfl
  cases b1 <;> cases b2 <;> cases b3 <;>
  ·first | obtain ⟨rfl,rfl,rfl⟩ := r2 rfl | have q2 := q2 rfl
   first | obtain ⟨rfl,rfl,rfl⟩ := r3 rfl | have q3 := q3 rfl
   first | obtain ⟨rfl,rfl,rfl⟩ := r4 rfl | have q4 := q4 rfl
   simp (config := { maxSteps := 4000000 }) (disch := omega) only [t52,go_sem,TM.undef,cpR_pure c70,cpR_pure c72,cpR_pure c73,cpR_pure c74,cpR_pure c75,q1,q2,q3,q4]
   rw [lo1]
   simp (config := { maxSteps := 4000000 }) (disch := omega) only [go_sem,cpR_pure c75,q6]
   rw [lo2]
   simp (config := { maxSteps := 4000000 }) (disch := omega) only [go_sem]
 ·rw [if_neg e] at c70 ⊢
  refine ⟨0,call_pure t52 rfl rfl ?_⟩
  simp (config := { maxSteps := 4000000 }) (disch := omega) only [t52,go_sem,TM.undef,cpR_pure c70]
theorem call53 (x : VI) : TM.Pure K 53 [.iv (.agg (encV x))] (.iv (.bool (decide ((26 ≤ x.op ∧ x.op ≤ 31) ∨ x.op = 66)))) := by
 rw [encV_eq]
 refine call_pure t53 rfl rfl ?_
 rcases (by omega : x.op < 26 ∨ (26 ≤ x.op ∧ x.op ≤ 31) ∨ (31 < x.op ∧ x.op ≠ 66) ∨ x.op = 66) with h | h | h | h
 ·rw [decide_eq_false (by omega)]; simp (config := { maxSteps := 4000000 }) (disch := omega) only [t53,go_sem,TM.undef]
 ·rw [decide_eq_true (by omega)]; simp (config := { maxSteps := 4000000 }) (disch := omega) only [t53,go_sem,TM.undef]
 ·rw [decide_eq_false (by omega)]; simp (config := { maxSteps := 4000000 }) (disch := omega) only [t53,go_sem,TM.undef]
 ·rw [decide_eq_true (by omega)]; simp (config := { maxSteps := 4000000 }) (disch := omega) only [t53,go_sem,TM.undef]
theorem call55 (fn rg sl nd pr : Int) (rs : Bool) (ti : Tag) (ins : List VI) (r : Int) : TM.Pure K 55 [.iv (.agg (encG fn rg sl nd pr rs ti ins)),.iv (.int .i64 r)] (.iv (.bool (!badR rg r))) := by
 unfold encG badR
 refine call_pure t55 rfl rfl ?_
 rcases (by omega : r < 0 ∨ (0 ≤ r ∧ rg ≤ r) ∨ (0 ≤ r ∧ r < rg)) with h | h | h
 ·rw [decide_eq_true (by omega),Bool.not_true]; simp (config := { maxSteps := 4000000 }) (disch := omega) only [t55,go_sem,TM.undef]
 ·rw [decide_eq_true (by omega),Bool.not_true]; simp (config := { maxSteps := 4000000 }) (disch := omega) only [t55,go_sem,TM.undef]
 ·rw [decide_eq_false (by omega),Bool.not_false]; simp (config := { maxSteps := 4000000 }) (disch := omega) only [t55,go_sem,TM.undef]
theorem loop54 {fn rg sl nd pr : Int} {rs : Bool} {ti : Tag} {ins : List VI} (hn : ins.length ≤ 1000000) (x0 x3 : TV) (L : Int) (S : Store) : ∀ (k i : Nat) (x6 x7 : TV),i + k = ins.length →
  ∃ (y6 y7 : TV),lp' (lim K) t54L0 [x0,.iv (.int .i64 L),.lb [.iv (.int .i64 fn),.iv (.int .i64 rg),.iv (.int .i64 sl),.iv (.int .i64 nd),.iv (.int .i64 pr),.iv (.bool rs),.iv (.sl ti (ins.map encV))],x3,.iv (.int .i64 (cntL (ins.take i) L)),.iv (.int .i64 i),x6,x7] S
   = .ret (.exit 0,[x0,.iv (.int .i64 L),.lb [.iv (.int .i64 fn),.iv (.int .i64 rg),.iv (.int .i64 sl),.iv (.int .i64 nd),.iv (.int .i64 pr),.iv (.bool rs),.iv (.sl ti (ins.map encV))],x3,.iv (.int .i64 (cntL ins L)),.iv (.int .i64 ins.length),y6,y7],S)
 | 0,i,x6,x7,h => by
  obtain rfl : i = ins.length := by omega
  rw [List.take_length]
  have hlen : (ins.map encV).length = ins.length := List.length_map _
  refine ⟨.iv (.bool false),x7,loop_at K _ _ t54L0.eq_1 ?_⟩
  simp (config := { maxSteps := 4000000 }) (disch := omega) only [go_sem,hlen]
 | k + 1,i,x6,x7,h => by
  have hla : i < ins.length := by omega
  have hlen : (ins.map encV).length = ins.length := List.length_map _
  have hix := ix_map (w := 8) (f := encV) encV_len (t := ti) (l := ins) (i := (i : Int)) (by omega)
  rw [Int.toNat_natCast,encV_eq] at hix
  have hts : ins.take (i + 1) = ins.take i ++ [ins.getD i default] := by
   rw [List.take_add_one,List.getElem?_eq_getElem hla]
   simp [List.getD,List.getElem?_eq_getElem hla]
  have hsn := cntL_snoc (ins.take i) (ins.getD i default) L
  rw [← hts] at hsn
  have hle := cntL_le (ins.take i) L
  rw [List.length_take] at hle
  have ihs := fun x6 x7 => loop54 (fn := fn) (rg := rg) (sl := sl) (nd := nd) (pr := pr) (rs := rs) (ti := ti) hn x0 x3 L S k (i + 1) x6 x7 (by omega)
  rw [show ((i + 1 : Nat) : Int) = (i : Int) + 1 by omega,hsn] at ihs
  generalize ins.getD i default = x at *
  generalize cntL (ins.take i) L = c at *
  by_cases e : x.op = 65 ∧ x.lb = L
  ·rw [if_pos e] at ihs
   obtain ⟨y6,y7,ih⟩ := ihs (.iv (.bool true)) (.iv (.bool true))
   obtain ⟨e1,e2⟩ := e
   refine ⟨y6,y7,loop_at K _ _ t54L0.eq_1 ?_⟩
   simp (config := { maxSteps := 4000000 }) (disch := omega) only [go_sem,hlen,hix,wrap_i64]
   exact congrArg er ih
  ·rw [if_neg e] at ihs
   obtain ⟨y6,y7,ih⟩ := ihs (.iv (.bool true)) (.iv (.bool false))
   refine ⟨y6,y7,loop_at K _ _ t54L0.eq_1 ?_⟩
   by_cases e1 : x.op = 65
   ·have e2 : ¬ x.lb = L := fun h => e ⟨e1,h⟩
    simp (config := { maxSteps := 4000000 }) (disch := omega) only [go_sem,hlen,hix,wrap_i64]
    exact congrArg er ih
   ·simp (config := { maxSteps := 4000000 }) (disch := omega) only [go_sem,hlen,hix,wrap_i64]
    exact congrArg er ih
theorem call54 (fn rg sl nd pr : Int) (rs : Bool) (ti : Tag) (ins : List VI) (hn : ins.length ≤ 1000000) (L : Int) : TM.Pure K 54 [.iv (.agg (encG fn rg sl nd pr rs ti ins)),.iv (.int .i64 L)] (.iv (.int .i64 (cntL ins L))) := by
 obtain ⟨y6,y7,l1⟩ := loop54 (fn := fn) (rg := rg) (sl := sl) (nd := nd) (pr := pr) (rs := rs) (ti := ti) hn (.iv (.agg (encG fn rg sl nd pr rs ti ins))) (.iv (.int .i64 0)) L [] ins.length 0 (.tup []) (.tup []) (by omega)
 rw [show ((0 : Nat) : Int) = 0 from rfl,show cntL (ins.take 0) L = 0 from rfl] at l1
 unfold encG at *
 refine call_pure t54 rfl rfl ?_
 simp (config := { maxSteps := 4000000 }) (disch := omega) only [t54,go_sem,TM.undef]
 rw [l1]
 simp (config := { maxSteps := 4000000 }) (disch := omega) only [go_sem]
theorem loop39 {fn rg sl nd pr : Int} {rs : Bool} {ti : Tag} {ins : List VI} (x : VI) (hu : x.us.length ≤ 1000000) (x0 x1 x5 x7 x8 x9 x10 : TV) (S : Store) : ∀ (k i : Nat) (x11 x12 : TV),i + k = x.us.length →
  ∃ (jj : Jump) (y4 y6 y11 y12 : TV),lp' (lim K) t39L0 [x0,x1,.lb [.iv (.int .i64 fn),.iv (.int .i64 rg),.iv (.int .i64 sl),.iv (.int .i64 nd),.iv (.int .i64 pr),.iv (.bool rs),.iv (.sl ti (ins.map encV))],.lb [.iv (.int .i64 x.op),.iv (.int .i64 x.d),.iv (.int .i64 x.a),.iv (.int .i64 x.b),.iv (.int .i64 x.im),.iv (.int .i64 x.lb),.iv (.sl x.tu (TM.one (.int .i64) x.us)),.iv (.sl x.tm (TM.one (.int .i64) x.mp))],.iv (.bool false),x5,.iv (.int .i64 i),x7,x8,x9,x10,x11,x12] S
   = .ret (jj,[x0,x1,.lb [.iv (.int .i64 fn),.iv (.int .i64 rg),.iv (.int .i64 sl),.iv (.int .i64 nd),.iv (.int .i64 pr),.iv (.bool rs),.iv (.sl ti (ins.map encV))],.lb [.iv (.int .i64 x.op),.iv (.int .i64 x.d),.iv (.int .i64 x.a),.iv (.int .i64 x.b),.iv (.int .i64 x.im),.iv (.int .i64 x.lb),.iv (.sl x.tu (TM.one (.int .i64) x.us)),.iv (.sl x.tm (TM.one (.int .i64) x.mp))],y4,x5,y6,x7,x8,x9,x10,y11,y12],S) ∧
   (jj = .exit 0 ∧ y4 = .iv (.bool false) ∧ (x.us.drop i).any (badR rg) = false ∨ jj = .ret ∧ y4 = .iv (.bool false) ∧ (x.us.drop i).any (badR rg) = true)
 | 0,i,x11,x12,h => by
  obtain rfl : i = x.us.length := by omega
  rw [List.drop_length]
  refine ⟨.exit 0,.iv (.bool false),.iv (.int .i64 x.us.length),.iv (.bool false),x12,loop_at K _ _ t39L0.eq_1 ?_,.inl ⟨rfl,rfl,rfl⟩⟩
  simp (config := { maxSteps := 4000000 }) (disch := omega) only [go_sem,TM.one_length]
 | k + 1,i,x11,x12,h => by
  have hla : i < x.us.length := by omega
  have hix := ix_one (f := IV.int .i64) (t := x.tu) (l := x.us) (i := (i : Int)) (by omega)
  rw [Int.toNat_natCast] at hix
  have c55 := call55 fn rg sl nd pr rs ti ins (x.us.getD i default)
  unfold encG at c55
  rw [drop_get hla,List.any_cons]
  obtain ⟨jj,y4,y6,y11,y12,ih,hj⟩ := loop39 (fn := fn) (rg := rg) (sl := sl) (nd := nd) (pr := pr) (rs := rs) (ti := ti) (ins := ins) x hu x0 x1 x5 x7 x8 x9 x10 S k (i + 1) (.iv (.bool true)) (.iv (.bool false)) (by omega)
  rw [show ((i + 1 : Nat) : Int) = (i : Int) + 1 by omega] at ih
  cases hb : badR rg (x.us.getD i default) with
  | true =>
   rw [hb,Bool.not_true] at c55
   refine ⟨.ret,.iv (.bool false),.iv (.int .i64 i),.iv (.bool true),.iv (.bool true),loop_at K _ _ t39L0.eq_1 ?_,.inr ⟨rfl,rfl,rfl⟩⟩
   simp (config := { maxSteps := 4000000 }) (disch := omega) only [go_sem,TM.one_length,hix,cpR_pure c55]
  | false =>
   rw [hb,Bool.not_false] at c55
   refine ⟨jj,y4,y6,y11,y12,loop_at K _ _ t39L0.eq_1 ?_,by rw [Bool.false_or]; exact hj⟩
   simp (config := { maxSteps := 4000000 }) (disch := omega) only [go_sem,TM.one_length,hix,cpR_pure c55,wrap_i64]
   exact congrArg er ih
theorem not39 (fn rg sl nd pr : Int) (rs : Bool) (ti : Tag) (ins : List VI) (hn : ins.length ≤ 1000000) (x : VI) (hu : x.us.length ≤ 1000000) (h : formedM x.op x.im = false) : TM.Pure K 39 [.iv (.agg (encG fn rg sl nd pr rs ti ins)),.iv (.agg (encV x))] (.iv (.bool false)) := by
  unfold formedM plainM at h
  simp only [Bool.or_eq_false_iff,Bool.and_eq_false_iff,decide_eq_false_iff_not] at h
  obtain ⟨h1,h2⟩ := h
  rw [encV_eq]
  unfold encG
  refine call_pure t39 rfl rfl ?_
  by_cases h3 : 1 ≤ x.op ∧ x.op ≤ 25
  · obtain ⟨w,c52⟩ := call52 x.op x.im h3
    rw [if_neg (by rcases h1 with h1 | h1; · exact absurd h3 h1
                   · exact h1)] at c52
    simp (config := { maxSteps := 4000000 }) (disch := omega) only [t39,go_sem,TM.undef,cpR_pure c52]
  · rcases (by omega : x.op < 1 ∨ (31 < x.op ∧ x.op < 64) ∨ 72 < x.op) with h | h | h
    · simp (config := { maxSteps := 4000000 }) (disch := omega) only [t39,go_sem,TM.undef,encG]
    · simp (config := { maxSteps := 4000000 }) (disch := omega) only [t39,go_sem,TM.undef,encG]
    · simp (config := { maxSteps := 4000000 }) (disch := omega) only [t39,go_sem,TM.undef,encG]
theorem yes39A (fn rg sl nd pr : Int) (rs : Bool) (ti : Tag) (ins : List VI) (hn : ins.length ≤ 1000000) (x : VI) (hu : x.us.length ≤ 1000000) (h : 1 ≤ x.op ∧ x.op ≤ 25) (hpl : loM x.op ≤ x.im ∧ x.im ≤ hiM x.op) : TM.Pure K 39 [.iv (.agg (encG fn rg sl nd pr rs ti ins)),.iv (.agg (encV x))] (.iv (.bool (!(x.us.any (badR rg)) && (!(badR rg x.a) && !(badR rg x.b) && !(badR rg x.d))))) := by
 have c53 := call53 x
 rw [decide_eq_false (by omega)] at c53
 obtain ⟨w,c52⟩ := call52 x.op x.im h
 rw [if_pos hpl] at c52
 have cA := call55 fn rg sl nd pr rs ti ins x.a
 have cB := call55 fn rg sl nd pr rs ti ins x.b
 have cD := call55 fn rg sl nd pr rs ti ins x.d
 obtain ⟨jj,y4,y6,y11,y12,l1,hj⟩ := loop39 (fn := fn) (rg := rg) (sl := sl) (nd := nd) (pr := pr) (rs := rs) (ti := ti) (ins := ins) x hu (.iv (.agg (encG fn rg sl nd pr rs ti ins))) (.iv (.agg (encV x))) (.iv (.int .i64 0)) (.iv (.bool false)) (.iv (.bool true)) (.iv (.bool false)) (.iv (.bool false)) [] x.us.length 0 (.tup []) (.tup []) (by omega)
 rw [show ((0 : Nat) : Int) = 0 from rfl] at l1
 rw [List.drop_zero] at hj
 rw [encV_eq] at c53 l1 ⊢
 unfold encG at *
 refine call_pure t39 rfl rfl ?_
 rcases hj with ⟨rfl,rfl,hj⟩ | ⟨rfl,rfl,hj⟩
 ·rw [hj,Bool.not_false,Bool.true_and]
  generalize badR rg x.a = bA at *
  generalize badR rg x.b = bB at *
  generalize badR rg x.d = bD at *
  cases bA with
  | true =>
   simp only [Bool.not_true,Bool.not_false,Bool.false_and,Bool.true_and] at *
   simp (config := { maxSteps := 4000000 }) (disch := omega) only [t39,go_sem,TM.undef,cpR_pure c52,cpR_pure c53]
   rw [l1]
   simp (config := { maxSteps := 4000000 }) (disch := omega) only [go_sem,TM.undef,cpR_pure cA,cpR_pure cB,cpR_pure cD,Bool.not_true,Bool.not_false]
  | false =>
   cases bB with
   | true =>
    simp only [Bool.not_true,Bool.not_false,Bool.false_and,Bool.true_and] at *
    simp (config := { maxSteps := 4000000 }) (disch := omega) only [t39,go_sem,TM.undef,cpR_pure c52,cpR_pure c53]
    rw [l1]
    simp (config := { maxSteps := 4000000 }) (disch := omega) only [go_sem,TM.undef,cpR_pure cA,cpR_pure cB,cpR_pure cD,Bool.not_true,Bool.not_false]
   | false =>
    cases bD <;>
    ·simp only [Bool.not_true,Bool.not_false,Bool.false_and,Bool.true_and] at *
     simp (config := { maxSteps := 4000000 }) (disch := omega) only [t39,go_sem,TM.undef,cpR_pure c52,cpR_pure c53]
     rw [l1]
     simp (config := { maxSteps := 4000000 }) (disch := omega) only [go_sem,TM.undef,cpR_pure cA,cpR_pure cB,cpR_pure cD,Bool.not_true,Bool.not_false]
 ·rw [hj,Bool.not_true,Bool.false_and]
  simp (config := { maxSteps := 4000000 }) (disch := omega) only [t39,go_sem,TM.undef,cpR_pure c52,cpR_pure c53]
  rw [l1]
  simp (config := { maxSteps := 4000000 }) (disch := omega) only [go_sem,TM.undef,cpR_pure cA]
theorem yes39D (fn rg sl nd pr : Int) (rs : Bool) (ti : Tag) (ins : List VI) (hn : ins.length ≤ 1000000) (x : VI) (hu : x.us.length ≤ 1000000) (h : x.op = 64 ∨ (68 ≤ x.op ∧ x.op ≤ 72)) : TM.Pure K 39 [.iv (.agg (encG fn rg sl nd pr rs ti ins)),.iv (.agg (encV x))] (.iv (.bool (!(x.us.any (badR rg)) && (!(badR rg x.a) && !(badR rg x.b) && !(badR rg x.d))))) := by
 have c53 := call53 x
 rw [decide_eq_false (by omega)] at c53
 have cA := call55 fn rg sl nd pr rs ti ins x.a
 have cB := call55 fn rg sl nd pr rs ti ins x.b
 have cD := call55 fn rg sl nd pr rs ti ins x.d
 obtain ⟨jj,y4,y6,y11,y12,l1,hj⟩ := loop39 (fn := fn) (rg := rg) (sl := sl) (nd := nd) (pr := pr) (rs := rs) (ti := ti) (ins := ins) x hu (.iv (.agg (encG fn rg sl nd pr rs ti ins))) (.iv (.agg (encV x))) (.tup []) (.iv (.bool false)) (.iv (.bool false)) (.tup []) (.iv (.bool false)) [] x.us.length 0 (.tup []) (.tup []) (by omega)
 rw [show ((0 : Nat) : Int) = 0 from rfl] at l1
 rw [List.drop_zero] at hj
 rw [encV_eq] at c53 l1 ⊢
 unfold encG at *
 refine call_pure t39 rfl rfl ?_
 rcases hj with ⟨rfl,rfl,hj⟩ | ⟨rfl,rfl,hj⟩
 ·rw [hj,Bool.not_false,Bool.true_and]
  generalize badR rg x.a = bA at *
  generalize badR rg x.b = bB at *
  generalize badR rg x.d = bD at *
  cases bA with
  | true =>
   simp only [Bool.not_true,Bool.not_false,Bool.false_and,Bool.true_and] at *
   simp (config := { maxSteps := 4000000 }) (disch := omega) only [t39,go_sem,TM.undef,cpR_pure c53]
   rw [l1]
   simp (config := { maxSteps := 4000000 }) (disch := omega) only [go_sem,TM.undef,cpR_pure cA,cpR_pure cB,cpR_pure cD,Bool.not_true,Bool.not_false]
  | false =>
   cases bB with
   | true =>
    simp only [Bool.not_true,Bool.not_false,Bool.false_and,Bool.true_and] at *
    simp (config := { maxSteps := 4000000 }) (disch := omega) only [t39,go_sem,TM.undef,cpR_pure c53]
    rw [l1]
    simp (config := { maxSteps := 4000000 }) (disch := omega) only [go_sem,TM.undef,cpR_pure cA,cpR_pure cB,cpR_pure cD,Bool.not_true,Bool.not_false]
   | false =>
    cases bD <;>
    ·simp only [Bool.not_true,Bool.not_false,Bool.false_and,Bool.true_and] at *
     simp (config := { maxSteps := 4000000 }) (disch := omega) only [t39,go_sem,TM.undef,cpR_pure c53]
     rw [l1]
     simp (config := { maxSteps := 4000000 }) (disch := omega) only [go_sem,TM.undef,cpR_pure cA,cpR_pure cB,cpR_pure cD,Bool.not_true,Bool.not_false]
 ·rw [hj,Bool.not_true,Bool.false_and]
  simp (config := { maxSteps := 4000000 }) (disch := omega) only [t39,go_sem,TM.undef,cpR_pure c53]
  rw [l1]
  simp (config := { maxSteps := 4000000 }) (disch := omega) only [go_sem,TM.undef,cpR_pure cA]
end Go.Proofs.YtehlgnfhkidgoaaDoor
