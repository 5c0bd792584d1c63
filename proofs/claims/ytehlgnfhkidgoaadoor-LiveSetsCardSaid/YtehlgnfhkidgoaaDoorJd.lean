/- Some texts of the proof, joined. Condition: none. -/
import Derived.Test.YtehlgnfhkidgoaaDoorJc
import Derived.Test.YtehlgnfhkidgoaaDoorKr1
import Derived.Test.YtehlgnfhkidgoaaDoorJa
set_option maxRecDepth 100000
set_option maxHeartbeats 64000000
set_option linter.unusedSimpArgs false
set_option linter.unusedVariables false
namespace Go.Proofs.YtehlgnfhkidgoaaDoor
open Go Go.TM
theorem ao0 (l : List IV) : addOff (.iv (.cp l)) 0 = some (.iv (.cp l)) := by simp [addOff]
theorem ao5 (a b c d e f g h : IV) : addOff (.iv (.cp [a,b,c,d,e,f,g,h])) 5 = some (.iv (.cp [f,g,h])) := by simp [addOff]
theorem ao6 (a b c d e f g h : IV) : addOff (.iv (.cp [a,b,c,d,e,f,g,h])) 6 = some (.iv (.cp [g,h])) := by simp [addOff]
attribute [go_sem] ao0 ao5 ao6
def encG (fn rg sl nd pr : Int) (rs : Bool) (ti : Tag) (ins : List VI) : List IV := [.int .i64 fn,.int .i64 rg,.int .i64 sl,.int .i64 nd,.int .i64 pr,.bool rs,.sl ti (ins.map encV)]
def lastOK (ins : List VI) : Bool := decide ((ins.getD (ins.length - 1) default).op = 66 ∨ (ins.getD (ins.length - 1) default).op = 68 ∨ (ins.getD (ins.length - 1) default).op = 72)
def headOK (rg sl nd pr : Int) (ins : List VI) : Prop := 32 ≤ rg ∧ 0 ≤ nd ∧ 0 ≤ sl ∧ 0 ≤ pr ∧ 0 < ins.length
instance (rg sl nd pr : Int) (ins : List VI) : Decidable (headOK rg sl nd pr ins) := by unfold headOK; infer_instance
def chkM (rg sl nd pr : Int) (ins : List VI) : Bool := decide (headOK rg sl nd pr ins) && (!ins.any (badI rg ins) && lastOK ins)
theorem call35 (fn rg sl nd pr : Int) (rs : Bool) (ti : Tag) (ins : List VI) (hn : ins.length ≤ 1000000) (hus : ∀ x ∈ ins,x.us.length ≤ 999990 ∧ TagOk x.tu x.us) : TM.Pure K 35 [.iv (.agg (encG fn rg sl nd pr rs ti ins))] (.iv (.int .i64 (if chkM rg sl nd pr ins then 0 else 2))) := by
 unfold chkM
 have hlen : (ins.map encV).length = ins.length := List.length_map _
 by_cases hh : headOK rg sl nd pr ins
 ·rw [decide_eq_true hh,Bool.true_and]
  obtain ⟨h1,h2,h3,h4,h5⟩ := hh
  obtain ⟨S1,rows,c,y4,y12,y13,l1,z0,z1,hc⟩ := loop35a (fn := fn) (rg := rg) (sl := sl) (nd := nd) (pr := pr) (rs := rs) (ti := ti) (ins := ins) hn (.iv (.agg (encG fn rg sl nd pr rs ti ins))) (.ptr 0 25 0) (.iv (.int .i64 0)) (.tup []) (.tup []) (.tup []) (.iv (.bool false)) (.tup []) (.tup []) (.tup []) (.tup []) (.tup []) (.tup []) (.tup []) (.tup []) ins.length 0 [bxF fn rg sl nd pr rs ti ins,.mp (mpR vI []) 0] [] 0 (.tup []) (.tup []) (.tup []) (by omega) rfl rfl (fun L => by simp [cntR,getR,cntL])
  obtain ⟨S2,jj,y2,y5,y6,y7,y16,y17,y18,y19,l2,w0,hj⟩ := loop35b (fn := fn) (rg := rg) (sl := sl) (nd := nd) (pr := pr) (rs := rs) (ti := ti) hn hus hc (.iv (.agg (encG fn rg sl nd pr rs ti ins))) y4 (.iv (.bool false)) (.iv (.sl ti (ins.map encV))) (.iv (.int .i64 ins.length)) (.iv (.int .i64 ins.length)) y12 y13 (.tup []) (.tup []) ins.length 0 S1 (.iv (.int .i64 0)) (.tup []) (.tup []) (.tup []) (.tup []) (.tup []) (.tup []) (by omega) z0 z1
  rw [show ((0 : Nat) : Int) = 0 from rfl] at l1 l2
  rw [List.drop_zero] at hj
  have hl : ins.length - 1 < ins.length := by omega
  have hix := ix_map (w := 8) (f := encV) encV_len (t := ti) (l := ins) (i := ((ins.length : Int) - 1)) (by omega)
  rw [show ((ins.length : Int) - 1).toNat = ins.length - 1 by omega,encV_eq] at hix
  unfold lastOK
  generalize ins.getD (ins.length - 1) default = x at *
  unfold bxF at l1 z0 w0
  rw [show mpR vI [] = [] from rfl] at l1
  rw [show encG fn rg sl nd pr rs ti ins = [.int .i64 fn,.int .i64 rg,.int .i64 sl,.int .i64 nd,.int .i64 pr,.bool rs,.sl ti (ins.map encV)] from rfl] at l1 l2 ⊢
  have h5' : ¬ ((ins.length : Nat) : Int) = 0 := by omega
  rcases hj with ⟨rfl,hj⟩ | ⟨rfl,rfl,hj⟩
  ·rw [hj,Bool.not_false,Bool.true_and]
   rcases (by omega : x.op = 66 ∨ x.op = 68 ∨ x.op = 72 ∨ (x.op ≠ 66 ∧ x.op ≠ 68 ∧ x.op ≠ 72)) with h | h | h | ⟨ha,hb,hd⟩
   ·rw [decide_eq_true (.inl h),if_pos rfl]
    refine call_pure t35 rfl rfl ?_
    simp (config := { maxSteps := 4000000 }) (disch := omega) only [t35,go_sem,TM.undef,hlen,h5']
    rw [l1]
    simp (config := { maxSteps := 4000000 }) (disch := omega) only [go_sem,z0,hlen]
    rw [l2]
    simp (config := { maxSteps := 4000000 }) (disch := omega) only [go_sem,w0,hlen,hix,wrap_i64]
   ·rw [decide_eq_true (.inr (.inl h)),if_pos rfl]
    refine call_pure t35 rfl rfl ?_
    simp (config := { maxSteps := 4000000 }) (disch := omega) only [t35,go_sem,TM.undef,hlen,h5']
    rw [l1]
    simp (config := { maxSteps := 4000000 }) (disch := omega) only [go_sem,z0,hlen]
    rw [l2]
    simp (config := { maxSteps := 4000000 }) (disch := omega) only [go_sem,w0,hlen,hix,wrap_i64]
   ·rw [decide_eq_true (.inr (.inr h)),if_pos rfl]
    refine call_pure t35 rfl rfl ?_
    simp (config := { maxSteps := 4000000 }) (disch := omega) only [t35,go_sem,TM.undef,hlen,h5']
    rw [l1]
    simp (config := { maxSteps := 4000000 }) (disch := omega) only [go_sem,z0,hlen]
    rw [l2]
    simp (config := { maxSteps := 4000000 }) (disch := omega) only [go_sem,w0,hlen,hix,wrap_i64]
   ·rw [decide_eq_false (by omega),if_neg (by decide)]
    refine call_pure t35 rfl rfl ?_
    simp (config := { maxSteps := 4000000 }) (disch := omega) only [t35,go_sem,TM.undef,hlen,h5']
    rw [l1]
    simp (config := { maxSteps := 4000000 }) (disch := omega) only [go_sem,z0,hlen]
    rw [l2]
    simp (config := { maxSteps := 4000000 }) (disch := omega) only [go_sem,w0,hlen,hix,wrap_i64]
  ·rw [hj,Bool.not_true,Bool.false_and,if_neg (by decide)]
   refine call_pure t35 rfl rfl ?_
   simp (config := { maxSteps := 4000000 }) (disch := omega) only [t35,go_sem,TM.undef,hlen,h5']
   rw [l1]
   simp (config := { maxSteps := 4000000 }) (disch := omega) only [go_sem,z0,hlen]
   rw [l2]
   simp (config := { maxSteps := 4000000 }) (disch := omega) only [go_sem]
 ·rw [decide_eq_false hh,Bool.false_and,if_neg (by decide)]
  unfold headOK at hh
  refine call_pure t35 rfl rfl ?_
  unfold encG
  rcases (by omega : rg < 32 ∨ (32 ≤ rg ∧ nd < 0) ∨ (32 ≤ rg ∧ 0 ≤ nd ∧ sl < 0) ∨ (32 ≤ rg ∧ 0 ≤ nd ∧ 0 ≤ sl ∧ pr < 0) ∨ (32 ≤ rg ∧ 0 ≤ nd ∧ 0 ≤ sl ∧ 0 ≤ pr ∧ ins.length = 0)) with h | h | h | h | h
  ·simp (config := { maxSteps := 4000000 }) (disch := omega) only [t35,go_sem,TM.undef,hlen]
  ·simp (config := { maxSteps := 4000000 }) (disch := omega) only [t35,go_sem,TM.undef,hlen]
  ·simp (config := { maxSteps := 4000000 }) (disch := omega) only [t35,go_sem,TM.undef,hlen]
  ·simp (config := { maxSteps := 4000000 }) (disch := omega) only [t35,go_sem,TM.undef,hlen]
  ·have h0 : ((ins.length : Nat) : Int) = 0 := by omega
   simp (config := { maxSteps := 4000000 }) (disch := omega) only [t35,go_sem,TM.undef,hlen,h0]
theorem fl_drop {l : List VI} {i : Nat} (h : i < l.length) (L : Int) : firstL (l.drop i) L = if (l.getD i default).op = 65 ∧ (l.getD i default).lb = L then some 0 else (firstL (l.drop (i + 1)) L).map (· + 1) := by
 rw [drop_get h]
 unfold firstL
 rw [List.findIdx?_cons]
 by_cases e : (l.getD i default).op = 65 ∧ (l.getD i default).lb = L
 ·rw [if_pos e,decide_eq_true e.1,decide_eq_true e.2]; rfl
 ·rw [if_neg e]
  have : (decide ((l.getD i default).op = 65) && decide ((l.getD i default).lb = L)) = false := by
   cases h1 : (decide ((l.getD i default).op = 65) && decide ((l.getD i default).lb = L)) with
   | false => rfl
   | true => simp at h1; exact absurd h1 e
  rw [this]
  simp [Option.map_map,Function.comp_def]
theorem loop6 {fn rg sl nd pr : Int} {rs : Bool} {ti : Tag} {ins : List VI} (hn : ins.length ≤ 9223372036854775807) (x0 : TV) (S : Store) : ∀ (k i : Nat) (x4 x5 : TV),i + k = min ins.length 100 →
  ∃ (jj : Jump) (y2 y3 y4 y5 : TV),lp' (lim K) t6L0 [x0,.lb ((encG fn rg sl nd pr rs ti ins).map .iv),.iv (.bool false),.iv (.int .i64 i),x4,x5] S
   = .ret (jj,[x0,.lb ((encG fn rg sl nd pr rs ti ins).map .iv),y2,y3,y4,y5],S) ∧ (jj = .exit 0 ∧ (∀ q,i ≤ q → q < min ins.length 100 → (ins.getD q default).us.length ≤ 30) ∨ jj = .ret ∧ y2 = .iv (.bool true))
 | 0,i,x4,x5,h => by
  have hlen : (ins.map encV).length = ins.length := List.length_map _
  refine ⟨.exit 0,.iv (.bool false),.iv (.int .i64 i),.iv (.bool false),x5,loop_at K _ _ t6L0.eq_1 ?_,.inl ⟨rfl,fun q h1 h2 => by omega⟩⟩
  by_cases hi : i < ins.length
  ·simp (config := { maxSteps := 4000000 }) (disch := omega) only [go_sem,encG,List.map_cons,List.map_nil,hlen]
  ·simp (config := { maxSteps := 4000000 }) (disch := omega) only [go_sem,encG,List.map_cons,List.map_nil,hlen]
 | k + 1,i,x4,x5,h => by
  have hla : i < ins.length := by omega
  have hlen : (ins.map encV).length = ins.length := List.length_map _
  have hix := ix_map (w := 8) (f := encV) encV_len (t := ti) (l := ins) (i := (i : Int)) (by omega)
  rw [Int.toNat_natCast,encV_eq] at hix
  have ih0 := loop6 (fn := fn) (rg := rg) (sl := sl) (nd := nd) (pr := pr) (rs := rs) (ti := ti) hn x0 S k (i + 1) (.iv (.bool true)) (.iv (.bool false)) (by omega)
  by_cases e : (ins.getD i default).us.length ≤ 30
  ·obtain ⟨jj,y2,y3,y4,y5,ih,hj⟩ := ih0
   rw [show ((i + 1 : Nat) : Int) = (i : Int) + 1 by omega,show (encG fn rg sl nd pr rs ti ins).map TV.iv = [.iv (.int .i64 fn),.iv (.int .i64 rg),.iv (.int .i64 sl),.iv (.int .i64 nd),.iv (.int .i64 pr),.iv (.bool rs),.iv (.sl ti (ins.map encV))] from rfl] at ih
   rw [show (encG fn rg sl nd pr rs ti ins).map TV.iv = [.iv (.int .i64 fn),.iv (.int .i64 rg),.iv (.int .i64 sl),.iv (.int .i64 nd),.iv (.int .i64 pr),.iv (.bool rs),.iv (.sl ti (ins.map encV))] from rfl]
   refine ⟨jj,y2,y3,y4,y5,loop_at K _ _ t6L0.eq_1 ?_,?_⟩
   ·generalize ins.getD i default = x at *
    simp (config := { maxSteps := 4000000 }) (disch := omega) only [go_sem,hlen,hix,TM.one_length,wrap_i64]
    exact congrArg er ih
   ·rcases hj with ⟨rfl,hj⟩ | hj
    ·refine .inl ⟨rfl,fun q h1 h2 => ?_⟩
     by_cases eq : q = i
     ·rw [eq]; exact e
     ·exact hj q (by omega) h2
    ·exact .inr hj
  ·refine ⟨.ret,.iv (.bool true),.iv (.int .i64 i),.iv (.bool true),.iv (.bool true),loop_at K _ _ t6L0.eq_1 ?_,.inr ⟨rfl,rfl⟩⟩
   generalize ins.getD i default = x at *
   simp (config := { maxSteps := 4000000 }) (disch := omega) only [go_sem,encG,List.map_cons,List.map_nil,hlen,hix,TM.one_length]
theorem call6 (fn rg sl nd pr : Int) (rs : Bool) (ti : Tag) (ins : List VI) (hn : ins.length ≤ 9223372036854775807) : ∃ b : Bool,TM.Pure K 6 [.iv (.agg (encG fn rg sl nd pr rs ti ins))] (.iv (.bool b)) ∧ (b = false → ins.length ≤ 80 ∧ rg ≤ 120 ∧ ∀ x ∈ ins,x.us.length ≤ 30) := by
 obtain ⟨jj,y2,y3,y4,y5,l1,hj⟩ := loop6 (fn := fn) (rg := rg) (sl := sl) (nd := nd) (pr := pr) (rs := rs) (ti := ti) hn (.iv (.agg (encG fn rg sl nd pr rs ti ins))) [] (min ins.length 100) 0 (.tup []) (.tup []) (by omega)
 have hlen : (ins.map encV).length = ins.length := List.length_map _
 rw [show ((0 : Nat) : Int) = 0 from rfl,show (encG fn rg sl nd pr rs ti ins).map TV.iv = [.iv (.int .i64 fn),.iv (.int .i64 rg),.iv (.int .i64 sl),.iv (.int .i64 nd),.iv (.int .i64 pr),.iv (.bool rs),.iv (.sl ti (ins.map encV))] from rfl,show encG fn rg sl nd pr rs ti ins = [.int .i64 fn,.int .i64 rg,.int .i64 sl,.int .i64 nd,.int .i64 pr,.bool rs,.sl ti (ins.map encV)] from rfl] at l1
 rw [show encG fn rg sl nd pr rs ti ins = [.int .i64 fn,.int .i64 rg,.int .i64 sl,.int .i64 nd,.int .i64 pr,.bool rs,.sl ti (ins.map encV)] from rfl]
 rcases hj with ⟨rfl,hj⟩ | ⟨rfl,rfl⟩
 ·by_cases h1 : ins.length ≤ 80
  ·by_cases h2 : rg ≤ 120
   ·refine ⟨false,call_pure t6 rfl rfl ?_,fun _ => ⟨h1,h2,fun x hx => ?_⟩⟩
    ·simp (config := { maxSteps := 4000000 }) (disch := omega) only [t6,go_sem,TM.undef]
     rw [l1]
     simp (config := { maxSteps := 4000000 }) (disch := omega) only [go_sem,hlen]
    ·obtain ⟨q,hq,rfl⟩ := List.getElem_of_mem hx
     have := hj q (Nat.zero_le _) (by omega)
     simpa only [List.getD,List.getElem?_eq_getElem hq,Option.getD_some] using this
   ·refine ⟨true,call_pure t6 rfl rfl ?_,fun h => by cases h⟩
    simp (config := { maxSteps := 4000000 }) (disch := omega) only [t6,go_sem,TM.undef]
    rw [l1]
    simp (config := { maxSteps := 4000000 }) (disch := omega) only [go_sem,hlen]
  ·refine ⟨true,call_pure t6 rfl rfl ?_,fun h => by cases h⟩
   simp (config := { maxSteps := 4000000 }) (disch := omega) only [t6,go_sem,TM.undef]
   rw [l1]
   simp (config := { maxSteps := 4000000 }) (disch := omega) only [go_sem,hlen]
 ·refine ⟨true,call_pure t6 rfl rfl ?_,fun h => by cases h⟩
  simp (config := { maxSteps := 4000000 }) (disch := omega) only [t6,go_sem,TM.undef]
  rw [l1]
  simp (config := { maxSteps := 4000000 }) (disch := omega) only [go_sem]
theorem bad25 (fn rg sl nd pr : Int) (rs : Bool) (ti : Tag) (ins : List VI) (h : TM.Pure K 35 [.iv (.agg (encG fn rg sl nd pr rs ti ins))] (.iv (.int .i64 2))) : (lim K).call 25 [.iv (.agg (encG fn rg sl nd pr rs ti ins))] [] = .ret (.tup [.iv .nilp,.iv (.int .i64 2)],[]) := by
 unfold encG at *
 refine call_ret' K _ (fn := t25) rfl rfl ?_
 simp (config := { maxSteps := 4000000 }) (disch := omega) only [t25,go_sem,TM.undef,cpR_pure h]
theorem bad13 (fn rg sl nd pr : Int) (rs : Bool) (ti : Tag) (ins : List VI) (h : TM.Pure K 35 [.iv (.agg (encG fn rg sl nd pr rs ti ins))] (.iv (.int .i64 2))) : TM.Pure K 13 [.iv (.agg (encG fn rg sl nd pr rs ti ins))] (.tup [.iv (.sl .nil []),.iv (.int .i64 2)]) := by
 have c25 := bad25 fn rg sl nd pr rs ti ins h
 unfold encG at *
 refine call_pure t13 rfl rfl ?_
 simp (config := { maxSteps := 4000000 }) (disch := omega) only [t13,go_sem,TM.undef,c25]
theorem bad15 (fn rg sl nd pr : Int) (rs : Bool) (ti : Tag) (ins : List VI) (h : TM.Pure K 35 [.iv (.agg (encG fn rg sl nd pr rs ti ins))] (.iv (.int .i64 2))) : TM.Pure K 15 [.iv (.agg (encG fn rg sl nd pr rs ti ins))] (.tup [.iv (.sl .nil []),.iv (.int .i64 2)]) := by
 have c25 := bad25 fn rg sl nd pr rs ti ins h
 unfold encG at *
 refine call_pure t15 rfl rfl ?_
 simp (config := { maxSteps := 4000000 }) (disch := omega) only [t15,go_sem,TM.undef,c25]
theorem goes_label {rg : Int} {ins : List VI} (h : ins.any (badI rg ins) = false) {i : Nat} (hi : i < ins.length) (hg : goesX (ins.getD i default) = true) : ∃ q : Nat,firstL ins (ins.getD i default).lb = some (q : Int) ∧ q < ins.length := by
 have hx : ins.getD i default ∈ ins := by simp only [List.getD,List.getElem?_eq_getElem hi,Option.getD_some]; exact List.getElem_mem _
 rw [List.any_eq_false] at h
 have hb := h _ hx
 cases hf : firstL ins (ins.getD i default).lb with
 | some k =>
  have := firstL_lt hf
  exact ⟨k.toNat,by rw [Int.toNat_of_nonneg this.1],by omega⟩
 | none =>
  exfalso
  apply hb
  have hc : cntL ins (ins.getD i default).lb = 0 := by
   unfold firstL at hf
   rw [Option.map_eq_none_iff,List.findIdx?_eq_none_iff] at hf
   unfold cntL
   rw [List.filter_eq_nil_iff.2 (fun x hx => by rw [hf x hx]; simp)]
   rfl
  rw [show badI rg ins (ins.getD i default) = (!formedM (ins.getD i default).op (ins.getD i default).im || ((regsOf (ins.getD i default)).any (badR rg) || (goesX (ins.getD i default) && decide (cntL ins (ins.getD i default).lb ≠ 1)))) from rfl,hg,hc]
  simp
theorem loop41 {fn rg sl nd pr : Int} {rs : Bool} {ti : Tag} {ins : List VI} (hn : ins.length ≤ 1000000) (x0 : TV) (L : Int) (S : Store) : ∀ (k i : Nat) (x5 x6 : TV),i + k = ins.length →
  ∃ (jj : Jump) (y3 y4 y5 y6 : TV),lp' (lim K) t41L0 [x0,.iv (.int .i64 L),.lb ((encG fn rg sl nd pr rs ti ins).map .iv),.iv (.int .i64 0),.iv (.int .i64 i),x5,x6] S
   = .ret (jj,[x0,.iv (.int .i64 L),.lb ((encG fn rg sl nd pr rs ti ins).map .iv),y3,y4,y5,y6],S) ∧ (jj = .exit 0 ∧ firstL (ins.drop i) L = none ∨ jj = .ret ∧ ∃ q : Int,firstL (ins.drop i) L = some q ∧ y3 = .iv (.int .i64 (i + q)))
 | 0,i,x5,x6,h => by
  obtain rfl : i = ins.length := by omega
  refine ⟨.exit 0,.iv (.int .i64 0),.iv (.int .i64 ins.length),.iv (.bool false),x6,loop_at K _ _ t41L0.eq_1 ?_,.inl ⟨rfl,by rw [List.drop_length]; rfl⟩⟩
  have hlen : (ins.map encV).length = ins.length := List.length_map _
  simp (config := { maxSteps := 4000000 }) (disch := omega) only [go_sem,encG,List.map_cons,List.map_nil,hlen]
 | k + 1,i,x5,x6,h => by
  have hla : i < ins.length := by omega
  have hlen : (ins.map encV).length = ins.length := List.length_map _
  have hix := ix_map (w := 8) (f := encV) encV_len (t := ti) (l := ins) (i := (i : Int)) (by omega)
  rw [Int.toNat_natCast,encV_eq] at hix
  rw [fl_drop hla]
  generalize ins.getD i default = x at *
  by_cases e : x.op = 65 ∧ x.lb = L
  ·rw [if_pos e]
   refine ⟨.ret,.iv (.int .i64 i),.iv (.int .i64 i),.iv (.bool true),.iv (.bool true),loop_at K _ _ t41L0.eq_1 ?_,.inr ⟨rfl,0,rfl,by rw [Int.add_zero]⟩⟩
   obtain ⟨e1,e2⟩ := e
   simp (config := { maxSteps := 4000000 }) (disch := omega) only [go_sem,encG,List.map_cons,List.map_nil,hlen,hix]
  ·rw [if_neg e]
   obtain ⟨jj,y3,y4,y5,y6,ih,hj⟩ := loop41 (fn := fn) (rg := rg) (sl := sl) (nd := nd) (pr := pr) (rs := rs) (ti := ti) hn x0 L S k (i + 1) (.iv (.bool true)) (.iv (.bool false)) (by omega)
   rw [show ((i + 1 : Nat) : Int) = (i : Int) + 1 by omega,show (encG fn rg sl nd pr rs ti ins).map TV.iv = [.iv (.int .i64 fn),.iv (.int .i64 rg),.iv (.int .i64 sl),.iv (.int .i64 nd),.iv (.int .i64 pr),.iv (.bool rs),.iv (.sl ti (ins.map encV))] from rfl] at ih
   rw [show (encG fn rg sl nd pr rs ti ins).map TV.iv = [.iv (.int .i64 fn),.iv (.int .i64 rg),.iv (.int .i64 sl),.iv (.int .i64 nd),.iv (.int .i64 pr),.iv (.bool rs),.iv (.sl ti (ins.map encV))] from rfl]
   refine ⟨jj,y3,y4,y5,y6,loop_at K _ _ t41L0.eq_1 ?_,?_⟩
   ·by_cases e1 : x.op = 65
    ·have e2 : ¬ x.lb = L := fun h => e ⟨e1,h⟩
     simp (config := { maxSteps := 4000000 }) (disch := omega) only [go_sem,hlen,hix,wrap_i64]
     exact congrArg er ih
    ·simp (config := { maxSteps := 4000000 }) (disch := omega) only [go_sem,hlen,hix,wrap_i64]
     exact congrArg er ih
   ·rcases hj with ⟨rfl,hj⟩ | ⟨rfl,q,hj,rfl⟩
    ·exact .inl ⟨rfl,by rw [hj]; rfl⟩
    ·exact .inr ⟨rfl,q + 1,by rw [hj]; rfl,by rw [show ((i + 1 : Nat) : Int) + q = (i : Int) + (q + 1) by omega]⟩
theorem call41 (fn rg sl nd pr : Int) (rs : Bool) (ti : Tag) (ins : List VI) (hn : ins.length ≤ 1000000) (L : Int) : TM.Pure K 41 [.iv (.agg (encG fn rg sl nd pr rs ti ins)),.iv (.int .i64 L)] (.iv (.int .i64 ((firstL ins L).getD (-1)))) := by
 obtain ⟨jj,y3,y4,y5,y6,l1,hj⟩ := loop41 (fn := fn) (rg := rg) (sl := sl) (nd := nd) (pr := pr) (rs := rs) (ti := ti) hn (.iv (.agg (encG fn rg sl nd pr rs ti ins))) L [] ins.length 0 (.tup []) (.tup []) (by omega)
 rw [show ((0 : Nat) : Int) = 0 from rfl,show (encG fn rg sl nd pr rs ti ins).map TV.iv = [.iv (.int .i64 fn),.iv (.int .i64 rg),.iv (.int .i64 sl),.iv (.int .i64 nd),.iv (.int .i64 pr),.iv (.bool rs),.iv (.sl ti (ins.map encV))] from rfl,show encG fn rg sl nd pr rs ti ins = [.int .i64 fn,.int .i64 rg,.int .i64 sl,.int .i64 nd,.int .i64 pr,.bool rs,.sl ti (ins.map encV)] from rfl] at l1
 rw [show encG fn rg sl nd pr rs ti ins = [.int .i64 fn,.int .i64 rg,.int .i64 sl,.int .i64 nd,.int .i64 pr,.bool rs,.sl ti (ins.map encV)] from rfl]
 rw [List.drop_zero] at hj
 refine call_pure t41 rfl rfl ?_
 rcases hj with ⟨rfl,hj⟩ | ⟨rfl,q,hj,rfl⟩
 ·rw [hj]
  simp (config := { maxSteps := 4000000 }) (disch := omega) only [t41,go_sem,TM.undef]
  rw [l1]
  simp (config := { maxSteps := 4000000 }) (disch := omega) only [go_sem]
  rfl
 ·rw [hj,Option.getD_some,show ((0 : Nat) : Int) + q = q by omega] at *
  simp (config := { maxSteps := 4000000 }) (disch := omega) only [t41,go_sem,TM.undef]
  rw [l1]
  simp (config := { maxSteps := 4000000 }) (disch := omega) only [go_sem]
def behM (l : List VI) (i : Nat) : List Int :=
 if (l.getD i default).op = 68 ∨ (l.getD i default).op = 72 then [] else
  (if (26 ≤ (l.getD i default).op ∧ (l.getD i default).op ≤ 31) ∨ (l.getD i default).op = 66 then [(firstL l (l.getD i default).lb).getD (-1)] else []) ++
  (if (l.getD i default).op ≠ 66 ∧ i + 1 < l.length then [(i : Int) + 1] else [])
theorem ap_n1 (k : Int) : appendOp false 1 8 3 [] (.iv (.sl .nil [])) (.iv (.sl .full [[.int .i64 k]])) = some (.tsl 0 [[.int .i64 k]],[.tok 1 1 3]) := by
 have := ap_acc1 (w := 1) (b := 8) (el := 3) (l := []) (t := .full) (c := [.int .i64 k]) ⟨rfl,rfl⟩ (by intro y hy; cases hy) (roomy_ok (by simp))
 simpa [acc,accS] using this
theorem ap_n2 (k m : Int) : appendOp false 1 8 3 [.tok 1 1 3] (.tsl 0 [[.int .i64 k]]) (.iv (.sl .full [[.int .i64 m]])) = some (.tsl 0 [[.int .i64 k],[.int .i64 m]],[.tok 2 1 3]) := by
 have := ap_acc1 (w := 1) (b := 8) (el := 3) (l := [[.int .i64 k]]) (t := .full) (c := [.int .i64 m]) ⟨rfl,rfl⟩ (by intro y hy; simp at hy; subst hy; exact ⟨rfl,rfl⟩) (roomy_ok (by simp))
 simpa [acc,accS] using this
theorem call29 (fn rg sl nd pr : Int) (rs : Bool) (ti : Tag) (ins : List VI) (hn : ins.length ≤ 1000000) {i : Nat} (hi : i < ins.length) : ∃ t : Tag,TM.Pure K 29 [.iv (.agg (encG fn rg sl nd pr rs ti ins)),.iv (.int .i64 i)] (.iv (.sl t (TM.one (.int .i64) (behM ins i)))) := by
 have c41 := call41 fn rg sl nd pr rs ti ins hn (ins.getD i default).lb
 have hlen : (ins.map encV).length = ins.length := List.length_map _
 have hix := ix_map (w := 8) (f := encV) encV_len (t := ti) (l := ins) (i := (i : Int)) (by omega)
 rw [Int.toNat_natCast,encV_eq] at hix
 unfold behM
 unfold encG at *
 generalize ins.getD i default = x at *
 generalize (firstL ins x.lb).getD (-1) = kL at *
 have a1 := ap_n1 kL
 have a2 := ap_n1 ((i : Int) + 1)
 have a3 := ap_n2 kL ((i : Int) + 1)
 by_cases hT : x.op = 68 ∨ x.op = 72
 ·rw [if_pos hT]
  refine ⟨.nil,call_pure t29 rfl rfl ?_⟩
  rcases hT with hT | hT
  ·simp (config := { maxSteps := 4000000 }) (disch := omega) only [t29,go_sem,TM.undef,hix,hlen,cpR_pure c41,a1,a2,a3,wrap_i64]
   rfl
  ·simp (config := { maxSteps := 4000000 }) (disch := omega) only [t29,go_sem,TM.undef,hix,hlen,cpR_pure c41,a1,a2,a3,wrap_i64]
   rfl
 ·rw [if_neg hT]
  by_cases hJ : x.op = 66
  ·rw [if_pos (.inr hJ),if_neg (by omega)]
   refine ⟨.no,TM.pure_ret (S := [.tok 1 1 3]) (r := .tsl 0 [[.int .i64 kL]]) (call_ret' K _ (fn := t29) rfl rfl ?_) rfl⟩
   simp (config := { maxSteps := 4000000 }) (disch := omega) only [t29,go_sem,TM.undef,hix,hlen,cpR_pure c41,a1,a2,a3,wrap_i64]
  ·by_cases hB : 26 ≤ x.op ∧ x.op ≤ 31
   ·rw [if_pos (.inl hB)]
    by_cases hN : i + 1 < ins.length
    ·rw [if_pos ⟨hJ,hN⟩]
     refine ⟨.no,TM.pure_ret (S := [.tok 2 1 3]) (r := .tsl 0 [[.int .i64 kL],[.int .i64 ((i : Int) + 1)]]) (call_ret' K _ (fn := t29) rfl rfl ?_) rfl⟩
     simp (config := { maxSteps := 4000000 }) (disch := omega) only [t29,go_sem,TM.undef,hix,hlen,cpR_pure c41,a1,a2,a3,wrap_i64]
    ·rw [if_neg (fun h => hN h.2)]
     refine ⟨.no,TM.pure_ret (S := [.tok 1 1 3]) (r := .tsl 0 [[.int .i64 kL]]) (call_ret' K _ (fn := t29) rfl rfl ?_) rfl⟩
     simp (config := { maxSteps := 4000000 }) (disch := omega) only [t29,go_sem,TM.undef,hix,hlen,cpR_pure c41,a1,a2,a3,wrap_i64]
   ·rw [if_neg (by omega)]
    by_cases hN : i + 1 < ins.length
    ·rw [if_pos ⟨hJ,hN⟩]
     refine ⟨.no,TM.pure_ret (S := [.tok 1 1 3]) (r := .tsl 0 [[.int .i64 ((i : Int) + 1)]]) (call_ret' K _ (fn := t29) rfl rfl ?_) rfl⟩
     rcases (by omega : x.op < 26 ∨ 31 < x.op) with hC | hC
     ·simp (config := { maxSteps := 4000000 }) (disch := omega) only [t29,go_sem,TM.undef,hix,hlen,cpR_pure c41,a1,a2,a3,wrap_i64]
     ·simp (config := { maxSteps := 4000000 }) (disch := omega) only [t29,go_sem,TM.undef,hix,hlen,cpR_pure c41,a1,a2,a3,wrap_i64]
    ·rw [if_neg (fun h => hN h.2)]
     refine ⟨.nil,call_pure t29 rfl rfl ?_⟩
     rcases (by omega : x.op < 26 ∨ 31 < x.op) with hC | hC
     ·simp (config := { maxSteps := 4000000 }) (disch := omega) only [t29,go_sem,TM.undef,hix,hlen,cpR_pure c41,a1,a2,a3,wrap_i64]
      rfl
     ·simp (config := { maxSteps := 4000000 }) (disch := omega) only [t29,go_sem,TM.undef,hix,hlen,cpR_pure c41,a1,a2,a3,wrap_i64]
      rfl
theorem call10A (v : VI) (h : (1 ≤ v.op ∧ v.op ≤ 14) ∨ v.op = 25 ∨ (26 ≤ v.op ∧ v.op ≤ 31)) : ∃ t',TagOk t' (usesM v) ∧ TM.Pure K 10 [.iv (.agg (encV v))] (.iv (.sl t' (TM.one (.int .i64) (usesM v)))) := by
 have hM : usesM v = put1 (put1 [] v.a) v.b := by unfold usesM; rw [if_pos (by omega)]; rfl
 obtain ⟨ta,hta,ca⟩ := call24 .nil [] v.a TagOk.nil (by simp)
 have l1 := put1_len [] v.a
 obtain ⟨tb,htb,cb⟩ := call24 ta _ v.b hta (by simp at l1; omega)
 rw [hM]
 simp only [show TM.one (IV.int .i64) [] = [] from rfl] at ca
 refine ⟨tb,htb,call_pure t10 rfl rfl ?_⟩
 rcases h with h | h | h <;> simp (config := { maxSteps := 4000000 }) (disch := omega) only [t10,go_sem,TM.undef,encV,List.map_cons,List.map_nil,cpR_pure ca,cpR_pure cb]
theorem call10B (v : VI) (h : (15 ≤ v.op ∧ v.op ≤ 22) ∨ v.op = 24 ∨ v.op = 64 ∨ v.op = 74) : ∃ t',TagOk t' (usesM v) ∧ TM.Pure K 10 [.iv (.agg (encV v))] (.iv (.sl t' (TM.one (.int .i64) (usesM v)))) := by
 have hM : usesM v = put1 [] v.a := by unfold usesM; rw [if_neg (by omega),if_pos (by omega)]; rfl
 obtain ⟨ta,hta,ca⟩ := call24 .nil [] v.a TagOk.nil (by simp)
 rw [hM]
 simp only [show TM.one (IV.int .i64) [] = [] from rfl] at ca
 refine ⟨ta,hta,call_pure t10 rfl rfl ?_⟩
 rcases h with h | h | h | h <;> simp (config := { maxSteps := 4000000 }) (disch := omega) only [t10,go_sem,TM.undef,encV,List.map_cons,List.map_nil,cpR_pure ca]
theorem call10C (v : VI) (hu : v.us.length ≤ 1000000) (h : v.op = 67 ∨ v.op = 68 ∨ v.op = 72) : ∃ t',TagOk t' (usesM v) ∧ TM.Pure K 10 [.iv (.agg (encV v))] (.iv (.sl t' (TM.one (.int .i64) (usesM v)))) := by
 have hM : usesM v = put1 (v.us.foldl put1 []) 26 := by unfold usesM; rw [if_neg (by omega),if_neg (by omega),if_pos h]; simp [tdy]
 obtain ⟨tl,y8,htl,lo⟩ := loop10 v hu (.iv (.agg (encV v))) (.iv (.sl .nil [])) (.iv (.bool false)) (.iv (.bool false)) (.iv (.bool true)) [] v.us.length 0 .nil [] (.tup []) (by omega) TagOk.nil (by simp)
 rw [show ((0 : Nat) : Int) = 0 from rfl] at lo
 have l2 := fold_len v.us []
 rw [List.drop_zero] at htl lo
 obtain ⟨tc,htc,cc⟩ := call24 tl _ 26 htl (by simp at l2; omega)
 rw [one_nil] at lo
 rw [hM]
 rw [encV_tv,encV_eq] at lo
 refine ⟨tc,htc,call_pure t10 rfl rfl ?_⟩
 rcases h with h | h | h <;>
 ·simp (config := { maxSteps := 4000000 }) (disch := omega) only [t10,go_sem,TM.undef,encV,List.map_cons,List.map_nil]
  rw [lo]
  simp (config := { maxSteps := 4000000 }) (disch := omega) only [go_sem,cpR_pure cc]
theorem call10N (v : VI) (h : v.op < 1 ∨ v.op = 23 ∨ (32 ≤ v.op ∧ v.op ≤ 63) ∨ v.op = 65 ∨ v.op = 66 ∨ v.op = 69 ∨ v.op = 70 ∨ v.op = 71 ∨ v.op = 73 ∨ 74 < v.op) : ∃ t',TagOk t' (usesM v) ∧ TM.Pure K 10 [.iv (.agg (encV v))] (.iv (.sl t' (TM.one (.int .i64) (usesM v)))) := by
 have hM : usesM v = [] := by unfold usesM; rw [if_neg (by omega),if_neg (by omega),if_neg (by omega)]
 rw [hM]
 refine ⟨.nil,TagOk.nil,call_pure t10 rfl rfl ?_⟩
 rcases h with h | h | h | h | h | h | h | h | h | h <;> simp (config := { maxSteps := 4000000 }) (disch := omega) only [t10,go_sem,TM.undef,encV,List.map_cons,List.map_nil] <;> rfl
theorem call10 (v : VI) (hu : v.us.length ≤ 1000000) : ∃ t',TagOk t' (usesM v) ∧ TM.Pure K 10 [.iv (.agg (encV v))] (.iv (.sl t' (TM.one (.int .i64) (usesM v)))) := by
 by_cases h1 : (1 ≤ v.op ∧ v.op ≤ 14) ∨ v.op = 25 ∨ (26 ≤ v.op ∧ v.op ≤ 31)
 ·exact call10A v h1
 ·by_cases h2 : (15 ≤ v.op ∧ v.op ≤ 22) ∨ v.op = 24 ∨ v.op = 64 ∨ v.op = 74
  ·exact call10B v h2
  ·by_cases h3 : v.op = 67 ∨ v.op = 68 ∨ v.op = 72
   ·exact call10C v hu h3
   ·exact call10N v (by omega)
theorem loop12 (x0 x1 x2 x5 x6 : TV) (S : Store) : ∀ (k i : Nat) (t : Tag) (l : List Int) (x7 : TV),i + k = 26 → TagOk t l → l.length ≤ i →
  ∃ (t' : Tag) (y7 : TV),TagOk t' ((regs26.drop i).foldl put1 l) ∧ lp' (lim K) t12L0 [x0,x1,x2,.iv (.sl t (TM.one (.int .i64) l)),.iv (.int .i64 ((i : Int) + 1)),x5,x6,x7] S
   = .ret (.exit 0,[x0,x1,x2,.iv (.sl t' (TM.one (.int .i64) ((regs26.drop i).foldl put1 l))),.iv (.int .i64 27),x5,x6,y7],S)
 | 0,i,t,l,x7,h,ht,hl => by
  obtain rfl : i = 26 := by omega
  rw [show regs26.drop 26 = [] by decide,List.foldl_nil]
  refine ⟨t,.iv (.bool false),ht,loop_at K _ _ t12L0.eq_1 ?_⟩
  simp (config := { maxSteps := 4000000 }) (disch := omega) only [go_sem]
  rfl
 | k + 1,i,t,l,x7,h,ht,hl => by
  obtain ⟨t1,ht1,c24⟩ := call24 t l ((i : Int) + 1) ht (by omega)
  have hpl := put1_len l ((i : Int) + 1)
  have hlen : regs26.length = 26 := by simp [regs26]
  have hdr := drop_get (l := regs26) (i := i) (by omega)
  have hg : regs26.getD i default = (i : Int) + 1 := by simp [regs26,List.getD,show i < 26 by omega]
  obtain ⟨t',y7,ht',ih⟩ := loop12 x0 x1 x2 x5 x6 S k (i + 1) t1 _ (.iv (.bool true)) (by omega) ht1 (by omega)
  rw [hdr,List.foldl_cons,hg]
  rw [show ((i + 1 : Nat) : Int) = (i : Int) + 1 by omega] at ih
  refine ⟨t',y7,ht',loop_at K _ _ t12L0.eq_1 ?_⟩
  simp (config := { maxSteps := 4000000 }) (disch := omega) only [go_sem,cpR_pure c24,wrap_i64]
  exact congrArg er ih
theorem call12A (v : VI) (h : (1 ≤ v.op ∧ v.op ≤ 24) ∨ v.op = 64 ∨ v.op = 69 ∨ v.op = 70 ∨ v.op = 71 ∨ v.op = 73) : ∃ t',TagOk t' (defsM v) ∧ TM.Pure K 12 [.iv (.agg (encV v))] (.iv (.sl t' (TM.one (.int .i64) (defsM v)))) := by
 have hM : defsM v = put1 [] v.d := by unfold defsM; rw [if_pos (by omega)]; rfl
 obtain ⟨ta,hta,ca⟩ := call24 .nil [] v.d TagOk.nil (by simp)
 rw [hM]
 simp only [show TM.one (IV.int .i64) [] = [] from rfl] at ca
 refine ⟨ta,hta,call_pure t12 rfl rfl ?_⟩
 rcases h with h | h | h | h | h | h <;> simp (config := { maxSteps := 4000000 }) (disch := omega) only [t12,go_sem,TM.undef,encV,List.map_cons,List.map_nil,cpR_pure ca]
theorem call12C (v : VI) (h : v.op = 67) : ∃ t',TagOk t' (defsM v) ∧ TM.Pure K 12 [.iv (.agg (encV v))] (.iv (.sl t' (TM.one (.int .i64) (defsM v)))) := by
 have hM : defsM v = put1 (put1 (regs26.foldl put1 []) 31) v.d := by unfold defsM; rw [if_neg (by omega),if_pos h]; simp [tdy]
 obtain ⟨tl,y7,htl,lo⟩ := loop12 (.iv (.agg (encV v))) (.lb ((encV v).map .iv)) (.iv (.sl .nil [])) (.iv (.bool false)) (.iv (.bool true)) [] 26 0 .nil [] (.tup []) (by omega) TagOk.nil (by simp)
 rw [show ((0 : Nat) : Int) + 1 = 1 from rfl] at lo
 have l2 := fold_len regs26 []
 have hlen : regs26.length = 26 := by simp [regs26]
 rw [List.drop_zero] at htl lo
 obtain ⟨tc,htc,cc⟩ := call24 tl _ 31 htl (by simp at l2; omega)
 have l3 := put1_len (regs26.foldl put1 []) 31
 obtain ⟨td,htd,cd⟩ := call24 tc _ v.d htc (by simp at l2; omega)
 rw [one_nil] at lo
 rw [hM]
 rw [encV_tv,encV_eq] at lo
 refine ⟨td,htd,call_pure t12 rfl rfl ?_⟩
 simp (config := { maxSteps := 4000000 }) (disch := omega) only [t12,go_sem,TM.undef,encV,List.map_cons,List.map_nil]
 rw [lo]
 simp (config := { maxSteps := 4000000 }) (disch := omega) only [go_sem,cpR_pure cc,cpR_pure cd]
theorem call12N (v : VI) (h : v.op < 1 ∨ (25 ≤ v.op ∧ v.op ≤ 63) ∨ v.op = 65 ∨ v.op = 66 ∨ v.op = 68 ∨ v.op = 72 ∨ 73 < v.op) : ∃ t',TagOk t' (defsM v) ∧ TM.Pure K 12 [.iv (.agg (encV v))] (.iv (.sl t' (TM.one (.int .i64) (defsM v)))) := by
 have hM : defsM v = [] := by unfold defsM; rw [if_neg (by omega),if_neg (by omega)]
 rw [hM]
 refine ⟨.nil,TagOk.nil,call_pure t12 rfl rfl ?_⟩
 rcases h with h | h | h | h | h | h | h <;> simp (config := { maxSteps := 4000000 }) (disch := omega) only [t12,go_sem,TM.undef,encV,List.map_cons,List.map_nil] <;> rfl
theorem call12 (v : VI) : ∃ t',TagOk t' (defsM v) ∧ TM.Pure K 12 [.iv (.agg (encV v))] (.iv (.sl t' (TM.one (.int .i64) (defsM v)))) := by
 by_cases h1 : (1 ≤ v.op ∧ v.op ≤ 24) ∨ v.op = 64 ∨ v.op = 69 ∨ v.op = 70 ∨ v.op = 71 ∨ v.op = 73
 ·exact call12A v h1
 ·by_cases h3 : v.op = 67
  ·exact call12C v h3
  ·exact call12N v (by omega)
inductive LvR (ins : List VI) (r : Int) : Nat → Prop
 | use {i : Nat} (h : r ∈ usesM (ins.getD i default)) : LvR ins r i
 | step {i : Nat} {k : Int} (hk : k ∈ behM ins i) (h : LvR ins r k.toNat) (hd : r ∉ defsM (ins.getD i default)) : LvR ins r i
def anyL (ins : List VI) (L : Nat → Bool) (i : Nat) : Bool := (behM ins i).any fun k => L k.toNat
def eqL (ins : List VI) (r : Int) (L : Nat → Bool) (i : Nat) : Bool := decide (r ∈ usesM (ins.getD i default)) || (!decide (r ∈ defsM (ins.getD i default)) && anyL ins L i)
def lackL (n : Nat) (L : Nat → Bool) : Nat := ((List.range n).filter fun i => !L i).length
structure RdL (ins : List VI) (r : Int) (n : Nat) (L0 L : Nat → Bool) (i : Nat) (ch : Bool) : Prop where
 snd : ∀ j,L j = true → LvR ins r j
 more : lackL n L ≤ lackL n L0
 yes : ch = true → lackL n L < lackL n L0
 no : ch = false → L = L0 ∧ ∀ j,i ≤ j → j < n → eqL ins r L j = true → L j = true
theorem eqL_lv {ins : List VI} {r : Int} {L : Nat → Bool} (h : ∀ j,L j = true → LvR ins r j) {i : Nat} (he : eqL ins r L i = true) : LvR ins r i := by
 unfold eqL anyL at he
 rw [Bool.or_eq_true,Bool.and_eq_true] at he
 rcases he with he | ⟨hd,he⟩
 ·exact .use (of_decide_eq_true he)
 ·obtain ⟨k,hk,hb⟩ := List.any_eq_true.1 he
  exact .step hk (h _ hb) (by simpa using hd)
theorem RdL.skip {ins : List VI} {r : Int} {n : Nat} {L0 L : Nat → Bool} {i : Nat} {ch : Bool} (h : RdL ins r n L0 L (i + 1) ch) (he : eqL ins r L i = true → L i = true) : RdL ins r n L0 L i ch :=
 ⟨h.snd,h.more,h.yes,fun hc => ⟨(h.no hc).1,fun j hj hn hq => by
  by_cases e : j = i
  ·subst e; exact he hq
  ·exact (h.no hc).2 j (by omega) hn hq⟩⟩
theorem RdL.set {ins : List VI} {r : Int} {n : Nat} {L0 L : Nat → Bool} {i : Nat} {ch : Bool} (h : RdL ins r n L0 L (i + 1) ch) (hi : i < n) (he : eqL ins r L i = true) (hl : L i = false) : RdL ins r n L0 (upd L i true) i true := by
 have hlt : lackL n (upd L i true) < lackL n L := by
  refine flt_lt _ _ _ (fun x hx => ?_) (List.mem_range.2 hi) (by simp [hl]) (by simp [upd])
  unfold upd at hx
  split at hx
  ·cases hx
  ·exact hx
 have := h.more
 refine ⟨fun j hj => ?_,by omega,fun _ => by omega,fun hc => by cases hc⟩
 unfold upd at hj
 split at hj
 ·subst_vars; exact eqL_lv h.snd he
 ·exact h.snd j hj
def bF (L : Nat → Bool) : Nat → TV := fun i => .iv (.bool (L i))
theorem bF_upd (L : Nat → Bool) (i : Nat) (b : Bool) : upd (bF L) i (.iv (.bool b)) = bF (upd L i b) := by
 funext j; simp only [bF,upd]; split <;> rfl
theorem loop28a {n : Nat} (hn : n ≤ 1000000) {L : Nat → Bool} {S : Store} (h0 : S[0]? = some (.cells 0 false (cF n (bF L)))) (t : Tag) {l : List Int} (hl : l.length ≤ 1000) (hin : ∀ x ∈ l,0 ≤ x ∧ x < n) (x0 x1 x2 x3 x5 x6 x10 x11 x13 x14 : TV) : ∀ (k i : Nat) (now : Bool) (x12 : TV),i + k = l.length →
  lp' (lim K) t28L0 [x0,x1,x2,x3,.msl 0 0 0 n n 1,x5,x6,.iv (.bool now),.iv (.sl t (TM.one (.int .i64) l)),.iv (.int .i64 i),x10,x11,x12,x13,x14] S
   = .ret (.exit 4,[x0,x1,x2,x3,.msl 0 0 0 n n 1,x5,x6,.iv (.bool (now || (l.drop i).any fun k => L k.toNat)),.iv (.sl t (TM.one (.int .i64) l)),.iv (.int .i64 l.length),x10,x11,.iv (.bool false),x13,x14],S)
 | 0,i,now,x12,h => by
  obtain rfl : i = l.length := by omega
  rw [List.drop_length,List.any_nil,Bool.or_false]
  refine loop_at K _ _ t28L0.eq_1 ?_
  simp (config := { maxSteps := 4000000 }) (disch := omega) only [go_sem,TM.one_length]
 | k + 1,i,now,x12,h => by
  have hla : i < l.length := by omega
  have hix := ix_one (f := IV.int .i64) (t := t) (l := l) (i := (i : Int)) (by omega)
  rw [Int.toNat_natCast] at hix
  rw [drop_get hla,List.any_cons]
  obtain ⟨q0,q1⟩ := hin (l.getD i default) (by simp only [List.getD,List.getElem?_eq_getElem hla,Option.getD_some]; exact List.getElem_mem _)
  obtain ⟨q,hq⟩ := Int.eq_ofNat_of_zero_le q0
  rw [hq] at hix ⊢
  have hqn : q < n := by omega
  have i1 := ix_RW (j := 0) (v := 0) (cap := n) hqn
  have s1 : sub (cF n (bF L)) q 1 = some [.iv (.bool (L q))] := sub_cF (bF L) hqn
  rw [Int.toNat_natCast]
  cases now with
  | true =>
   have ih := loop28a hn h0 t hl hin x0 x1 x2 x3 x5 x6 x10 x11 x13 x14 k (i + 1) true (.iv (.bool true)) (by omega)
   rw [show ((i + 1 : Nat) : Int) = (i : Int) + 1 by omega,Bool.true_or] at ih
   rw [Bool.true_or]
   refine loop_at K _ _ t28L0.eq_1 ?_
   simp (config := { maxSteps := 4000000 }) (disch := omega) only [go_sem,TM.one_length,hix,i1,h0,s1,wrap_i64]
   exact congrArg er ih
  | false =>
   have ih := loop28a hn h0 t hl hin x0 x1 x2 x3 x5 x6 x10 x11 x13 x14 k (i + 1) (L q) (.iv (.bool true)) (by omega)
   rw [show ((i + 1 : Nat) : Int) = (i : Int) + 1 by omega] at ih
   rw [Bool.false_or]
   refine loop_at K _ _ t28L0.eq_1 ?_
   generalize L q = b at *
   simp (config := { maxSteps := 4000000 }) (disch := omega) only [go_sem,TM.one_length,hix,i1,h0,s1,wrap_i64]
   exact congrArg er ih
theorem loop28b {fn rg sl nd pr : Int} {rs : Bool} {ti : Tag} {ins : List VI} (hn : ins.length ≤ 1000000) (hus : ∀ x ∈ ins,x.us.length ≤ 1000000) (hbe : ∀ i,i < ins.length → ∀ k ∈ behM ins i,0 ≤ k ∧ k < ins.length) {r : Int} {L0 : Nat → Bool} (x0 x3 x14 : TV) : ∀ (i : Nat) (S : Store) (L : Nat → Bool) (ch : Bool) (x7 x8 x9 x11 x12 x13 x10 : TV),i ≤ ins.length →
  S[0]? = some (.cells 0 false (cF ins.length (bF L))) → RdL ins r ins.length L0 L i ch →
  ∃ (S' : Store) (L' : Nat → Bool) (ch' : Bool) (y7 y8 y9 y10 y11 y12 y13 : TV),lp' (lim K) t28L1 [x0,.iv (.int .i64 r),.lb [.iv (.int .i64 fn),.iv (.int .i64 rg),.iv (.int .i64 sl),.iv (.int .i64 nd),.iv (.int .i64 pr),.iv (.bool rs),.iv (.sl ti (ins.map encV))],x3,.msl 0 0 0 ins.length ins.length 1,.iv (.bool ch),.iv (.int .i64 ((i : Int) - 1)),x7,x8,x9,x10,x11,x12,x13,x14] S
   = .ret (.exit 2,[x0,.iv (.int .i64 r),.lb [.iv (.int .i64 fn),.iv (.int .i64 rg),.iv (.int .i64 sl),.iv (.int .i64 nd),.iv (.int .i64 pr),.iv (.bool rs),.iv (.sl ti (ins.map encV))],x3,.msl 0 0 0 ins.length ins.length 1,.iv (.bool ch'),.iv (.int .i64 (-1)),y7,y8,y9,y10,y11,y12,y13,x14],S') ∧
   S'[0]? = some (.cells 0 false (cF ins.length (bF L'))) ∧ RdL ins r ins.length L0 L' 0 ch'
 | 0,S,L,ch,x7,x8,x9,x11,x12,x13,x10,hi,h0,hR => by
  refine ⟨S,L,ch,x7,x8,x9,.iv (.bool false),x11,x12,x13,loop_at K _ _ t28L1.eq_1 ?_,h0,hR⟩
  rw [show ((0 : Nat) : Int) - 1 = -1 from rfl]
  simp (config := { maxSteps := 4000000 }) (disch := omega) only [go_sem]
 | i + 1,S,L,ch,x7,x8,x9,x11,x12,x13,x10,hi,h0,hR => by
  have hla : i < ins.length := by omega
  have hlen : (ins.map encV).length = ins.length := List.length_map _
  have hix := ix_map (w := 8) (f := encV) encV_len (t := ti) (l := ins) (i := (i : Int)) (by omega)
  rw [Int.toNat_natCast,encV_eq] at hix
  have hmem : ins.getD i default ∈ ins := by simp only [List.getD,List.getElem?_eq_getElem hla,Option.getD_some]; exact List.getElem_mem _
  have hul := hus _ hmem
  obtain ⟨tu,_,c10⟩ := call10 (ins.getD i default) hul
  obtain ⟨td,_,c12⟩ := call12 (ins.getD i default)
  have lU := usesM_len (ins.getD i default)
  have lD := defsM_len (ins.getD i default)
  have hU := call40 tu (usesM (ins.getD i default)) r (by omega) []
  have hD := call40 td (defsM (ins.getD i default)) r (by omega) []
  obtain ⟨tb,c29⟩ := call29 fn rg sl nd pr rs ti ins hn hla
  have hbl : (behM ins i).length ≤ 1000 := by
   unfold behM; split
   ·simp
   ·split <;> split <;> simp
  have l1 := loop28a hn h0 tb hbl (hbe i hla) x0 (.iv (.int .i64 r)) (.lb [.iv (.int .i64 fn),.iv (.int .i64 rg),.iv (.int .i64 sl),.iv (.int .i64 nd),.iv (.int .i64 pr),.iv (.bool rs),.iv (.sl ti (ins.map encV))]) x3 (.iv (.bool ch)) (.iv (.int .i64 i)) (.iv (.bool true)) (.iv (.bool true)) x13 x14 (behM ins i).length 0 false x12 (by omega)
  rw [show ((0 : Nat) : Int) = 0 from rfl,List.drop_zero,Bool.false_or] at l1
  have hE : eqL ins r L i = (decide (r ∈ usesM (ins.getD i default)) || (!decide (r ∈ defsM (ins.getD i default)) && (behM ins i).any fun k => L k.toNat)) := rfl
  rw [show (((i + 1 : Nat) : Int) - 1) = (i : Int) by omega]
  have ihs := fun (S : Store) (L : Nat → Bool) (ch : Bool) (x7 x8 x9 x11 x12 x13 x10 : TV) => loop28b (fn := fn) (rg := rg) (sl := sl) (nd := nd) (pr := pr) (rs := rs) (ti := ti) hn hus hbe (r := r) (L0 := L0) x0 x3 x14 i S L ch x7 x8 x9 x11 x12 x13 x10 (by omega)
  have i1 := ix_RW (j := 0) (v := 0) (cap := ins.length) hla
  have s1 : sub (cF ins.length (bF L)) i 1 = some [.iv (.bool (L i))] := sub_cF (bF L) hla
  have p1 := put_cF (bF L) (.iv (.bool true)) hla
  rw [bF_upd] at p1
  have hbb : i + 1 ≤ (cF ins.length (bF L)).length := by rw [cF_len]; omega
  rw [encV_eq] at c10 c12
  unfold encG at c29
  generalize hBL : behM ins i = bl at *
  generalize usesM (ins.getD i default) = us at *
  generalize defsM (ins.getD i default) = ds at *
  generalize hu : decide (r ∈ us) = bu at *
  generalize hd : decide (r ∈ ds) = bd at *
  generalize ha : (bl.any fun k => L k.toNat) = ba at *
  generalize ins.getD i default = x at *
  have hlt := lt_get h0
  cases bu with
  | true =>
   rw [Bool.true_or] at hE
   cases hLi : L i with
   | true =>
    rw [hLi] at s1
    obtain ⟨S',L',ch',y7,y8,y9,y10,y11,y12,y13,ih,hx⟩ := ihs S L ch (.iv (.bool true)) x8 x9 (.iv (.bool false)) x12 (.iv (.bool false)) (.iv (.bool true)) h0 (hR.skip fun _ => hLi)
    refine ⟨S',L',ch',y7,y8,y9,y10,y11,y12,y13,loop_at K _ _ t28L1.eq_1 ?_,hx⟩
    simp (config := { maxSteps := 4000000 }) (disch := omega) only [go_sem,hlen,hix,cpR_pure c10,cpR_pure c12,hU,hD,i1,h0,s1,wrap_i64]
    exact congrArg er ih
   | false =>
    rw [hLi] at s1
    obtain ⟨S',L',ch',y7,y8,y9,y10,y11,y12,y13,ih,hx⟩ := ihs (S.set 0 (.cells 0 false (cF ins.length (bF (upd L i true))))) (upd L i true) true (.iv (.bool true)) x8 x9 (.iv (.bool false)) x12 (.iv (.bool true)) (.iv (.bool true)) (get_setS hlt _) (hR.set hla hE hLi)
    refine ⟨S',L',ch',y7,y8,y9,y10,y11,y12,y13,loop_at K _ _ t28L1.eq_1 ?_,hx⟩
    simp (config := { maxSteps := 4000000 }) (disch := omega) only [go_sem,hlen,hix,cpR_pure c10,cpR_pure c12,hU,hD,i1,h0,s1,p1,hbb,wrap_i64]
    exact congrArg er ih
  | false =>
   rw [Bool.false_or] at hE
   cases bd with
   | true =>
    rw [Bool.not_true,Bool.false_and] at hE
    obtain ⟨S',L',ch',y7,y8,y9,y10,y11,y12,y13,ih,hx⟩ := ihs S L ch (.iv (.bool false)) x8 x9 (.iv (.bool false)) x12 (.iv (.bool false)) (.iv (.bool true)) h0 (hR.skip fun h => by rw [hE] at h; cases h)
    refine ⟨S',L',ch',y7,y8,y9,y10,y11,y12,y13,loop_at K _ _ t28L1.eq_1 ?_,hx⟩
    simp (config := { maxSteps := 4000000 }) (disch := omega) only [go_sem,hlen,hix,cpR_pure c10,cpR_pure c12,hU,hD,i1,h0,s1,wrap_i64]
    exact congrArg er ih
   | false =>
    rw [Bool.not_false,Bool.true_and] at hE
    cases ba with
    | false =>
     obtain ⟨S',L',ch',y7,y8,y9,y10,y11,y12,y13,ih,hx⟩ := ihs S L ch (.iv (.bool false)) (.iv (.sl tb (TM.one (.int .i64) bl))) (.iv (.int .i64 bl.length)) (.iv (.bool true)) (.iv (.bool false)) (.iv (.bool false)) (.iv (.bool true)) h0 (hR.skip fun h => by rw [hE] at h; cases h)
     refine ⟨S',L',ch',y7,y8,y9,y10,y11,y12,y13,loop_at K _ _ t28L1.eq_1 ?_,hx⟩
     simp (config := { maxSteps := 4000000 }) (disch := omega) only [go_sem,hlen,hix,cpR_pure c10,cpR_pure c12,hU,hD,cpR_pure c29,wrap_i64]
     rw [l1]
     simp (config := { maxSteps := 4000000 }) (disch := omega) only [go_sem,i1,h0,s1,wrap_i64]
     exact congrArg er ih
    | true =>
     cases hLi : L i with
     | true =>
      rw [hLi] at s1
      obtain ⟨S',L',ch',y7,y8,y9,y10,y11,y12,y13,ih,hx⟩ := ihs S L ch (.iv (.bool true)) (.iv (.sl tb (TM.one (.int .i64) bl))) (.iv (.int .i64 bl.length)) (.iv (.bool true)) (.iv (.bool false)) (.iv (.bool false)) (.iv (.bool true)) h0 (hR.skip fun _ => hLi)
      refine ⟨S',L',ch',y7,y8,y9,y10,y11,y12,y13,loop_at K _ _ t28L1.eq_1 ?_,hx⟩
      simp (config := { maxSteps := 4000000 }) (disch := omega) only [go_sem,hlen,hix,cpR_pure c10,cpR_pure c12,hU,hD,cpR_pure c29,wrap_i64]
      rw [l1]
      simp (config := { maxSteps := 4000000 }) (disch := omega) only [go_sem,i1,h0,s1,wrap_i64]
      exact congrArg er ih
     | false =>
      rw [hLi] at s1
      obtain ⟨S',L',ch',y7,y8,y9,y10,y11,y12,y13,ih,hx⟩ := ihs (S.set 0 (.cells 0 false (cF ins.length (bF (upd L i true))))) (upd L i true) true (.iv (.bool true)) (.iv (.sl tb (TM.one (.int .i64) bl))) (.iv (.int .i64 bl.length)) (.iv (.bool true)) (.iv (.bool false)) (.iv (.bool true)) (.iv (.bool true)) (get_setS hlt _) (hR.set hla hE hLi)
      refine ⟨S',L',ch',y7,y8,y9,y10,y11,y12,y13,loop_at K _ _ t28L1.eq_1 ?_,hx⟩
      simp (config := { maxSteps := 4000000 }) (disch := omega) only [go_sem,hlen,hix,cpR_pure c10,cpR_pure c12,hU,hD,cpR_pure c29,wrap_i64]
      rw [l1]
      simp (config := { maxSteps := 4000000 }) (disch := omega) only [go_sem,i1,h0,s1,p1,hbb,wrap_i64]
      exact congrArg er ih
theorem loop28c {fn rg sl nd pr : Int} {rs : Bool} {ti : Tag} {ins : List VI} (hn : ins.length ≤ 1000000) (hus : ∀ x ∈ ins,x.us.length ≤ 1000000) (hbe : ∀ i,i < ins.length → ∀ k ∈ behM ins i,0 ≤ k ∧ k < ins.length) {r : Int} (x0 x3 : TV) : ∀ (q : Nat) (S : Store) (L : Nat → Bool) (x5 x6 x7 x8 x9 x10 x11 x12 x13 x14 : TV),lackL ins.length L ≤ q →
  S[0]? = some (.cells 0 false (cF ins.length (bF L))) → (∀ j,L j = true → LvR ins r j) →
  ∃ (S' : Store) (L' : Nat → Bool) (y5 y6 y7 y8 y9 y10 y11 y12 y13 y14 : TV),lp' (lim K) t28L2 [x0,.iv (.int .i64 r),.lb [.iv (.int .i64 fn),.iv (.int .i64 rg),.iv (.int .i64 sl),.iv (.int .i64 nd),.iv (.int .i64 pr),.iv (.bool rs),.iv (.sl ti (ins.map encV))],x3,.msl 0 0 0 ins.length ins.length 1,x5,x6,x7,x8,x9,x10,x11,x12,x13,x14] S
   = .ret (.ret,[x0,.iv (.int .i64 r),.lb [.iv (.int .i64 fn),.iv (.int .i64 rg),.iv (.int .i64 sl),.iv (.int .i64 nd),.iv (.int .i64 pr),.iv (.bool rs),.iv (.sl ti (ins.map encV))],.msl 0 0 0 ins.length ins.length 1,.msl 0 0 0 ins.length ins.length 1,y5,y6,y7,y8,y9,y10,y11,y12,y13,y14],S') ∧
   S'[0]? = some (.cells 0 false (cF ins.length (bF L'))) ∧ (∀ j,L' j = true → LvR ins r j) ∧ ∀ j,j < ins.length → eqL ins r L' j = true → L' j = true
 | q,S,L,x5,x6,x7,x8,x9,x10,x11,x12,x13,x14,hq,h0,hL => by
  obtain ⟨S1,L1,ch,y7,y8,y9,y10,y11,y12,y13,l1,h1,hR⟩ := loop28b (fn := fn) (rg := rg) (sl := sl) (nd := nd) (pr := pr) (rs := rs) (ti := ti) hn hus hbe (r := r) (L0 := L) x0 x3 x14 ins.length S L false x7 x8 x9 x11 x12 x13 x10 (Nat.le_refl _) h0 ⟨hL,Nat.le_refl _,(fun h => by cases h),fun _ => ⟨rfl,fun j h1 h2 => by omega⟩⟩
  have hlen : (ins.map encV).length = ins.length := List.length_map _
  cases ch with
  | false =>
   refine ⟨S1,L1,.iv (.bool false),.iv (.int .i64 (-1)),y7,y8,y9,y10,y11,y12,y13,.iv (.bool true),loop_at K _ _ t28L2.eq_1 ?_,h1,hR.snd,fun j hj => (hR.no rfl).2 j (Nat.zero_le _) hj⟩
   simp (config := { maxSteps := 4000000 }) (disch := omega) only [go_sem,hlen,wrap_i64]
   rw [l1]
   simp (config := { maxSteps := 4000000 }) (disch := omega) only [go_sem]
  | true =>
   have hlt := hR.yes rfl
   match q,hq with
   | 0,hq => omega
   | q + 1,hq =>
    obtain ⟨S',L',z5,z6,z7,z8,z9,z10,z11,z12,z13,z14,ih,hx⟩ := loop28c (fn := fn) (rg := rg) (sl := sl) (nd := nd) (pr := pr) (rs := rs) (ti := ti) hn hus hbe (r := r) x0 x3 q S1 L1 (.iv (.bool true)) (.iv (.int .i64 (-1))) y7 y8 y9 y10 y11 y12 y13 (.iv (.bool false)) (by omega) h1 hR.snd
    refine ⟨S',L',z5,z6,z7,z8,z9,z10,z11,z12,z13,z14,loop_at K _ _ t28L2.eq_1 ?_,hx⟩
    simp (config := { maxSteps := 4000000 }) (disch := omega) only [go_sem,hlen,wrap_i64]
    rw [l1]
    simp (config := { maxSteps := 4000000 }) (disch := omega) only [go_sem]
    exact congrArg er ih
theorem chunks_one : ∀ l : List IV,chunks 1 l.length l = l.map fun x => [x]
 | [] => rfl
 | a :: r => by simp only [List.length_cons,chunks,List.take_succ_cons,List.take_zero,List.drop_succ_cons,List.drop_zero,chunks_one r,List.map_cons]
def rowB (L : Nat → Bool) (n : Nat) : List (List IV) := (List.range n).map fun i => [.bool (L i)]
theorem res_bF {S : Store} {n : Nat} {L : Nat → Bool} (h : S[0]? = some (.cells 0 false (cF n (bF L)))) (c : Nat) : TM.resolve S (.msl 0 0 0 n c 1) = some (.iv (.sl .no (rowB L n))) := by
 have e1 : sub (cF n (bF L)) 0 (n * 1) = some (cF n (bF L)) := sub_all (by rw [cF_len]; simp)
 have e2 : toIVs (cF n (bF L)) = some ((List.range n).map fun i => .bool (L i)) := by
  have : cF n (bF L) = ((List.range n).map fun i => IV.bool (L i)).map .iv := by rw [List.map_map]; rfl
  rw [this,toIVs_ivs]
 have e3 := chunks_one ((List.range n).map fun i => IV.bool (L i))
 rw [List.length_map,List.length_range,List.map_map] at e3
 show (match elemsIV S (.msl 0 0 0 n c 1) with | some l => some (IV.sl .no l) | none => none).map TV.iv = _
 simp only [elemsIV,h,ne_eq,not_true_eq_false,↓reduceIte,e1,e2,Option.map_some,e3]
 rfl
theorem mkV_b {bytes m n : Nat} (hr : roomy n bytes = true) : mkV [.bool false] bytes m (.iv (.int .i64 n)) (.iv (.int .i64 n)) = some (.msl m 0 0 n n 1,.cells 0 false (cF n (bF fun _ => false))) := by
 have hz := zerosF (.iv (.bool false)) n
 rw [show bF (fun _ => false) = fun _ => TV.iv (.bool false) from rfl]
 simp [mkV,TM.intOf,hr,hz]
theorem call28 (fn rg sl nd pr : Int) (rs : Bool) (ti : Tag) (ins : List VI) (hn : ins.length ≤ 1000000) (hus : ∀ x ∈ ins,x.us.length ≤ 1000000) (hbe : ∀ i,i < ins.length → ∀ k ∈ behM ins i,0 ≤ k ∧ k < ins.length) (r : Int) :
  ∃ L : Nat → Bool,TM.Pure K 28 [.iv (.agg (encG fn rg sl nd pr rs ti ins)),.iv (.int .i64 r)] (.iv (.sl .no (rowB L ins.length))) ∧ ∀ i,i < ins.length → (L i = true ↔ LvR ins r i) := by
 obtain ⟨S',L',z5,z6,z7,z8,z9,z10,z11,z12,z13,z14,l1,h1,hs,hc⟩ := loop28c (fn := fn) (rg := rg) (sl := sl) (nd := nd) (pr := pr) (rs := rs) (ti := ti) hn hus hbe (r := r) (.iv (.agg (encG fn rg sl nd pr rs ti ins))) (.iv (.sl .nil [])) _ [.cells 0 false (cF ins.length (bF fun _ => false))] (fun _ => false) (.tup []) (.tup []) (.tup []) (.tup []) (.tup []) (.tup []) (.tup []) (.tup []) (.tup []) (.tup []) (Nat.le_refl _) rfl (fun j h => by cases h)
 have hlen : (ins.map encV).length = ins.length := List.length_map _
 have hz := fun k => mkV_b (m := k) (bytes := 1) (roomy_ok (n := ins.length) (b := 1) (by omega))
 unfold encG at *
 refine ⟨L',TM.pure_ret (S := S') (r := .msl 0 0 0 ins.length ins.length 1) (call_ret' K _ (fn := t28) rfl rfl ?_) (res_bF h1 _),fun i hi => ⟨hs i,fun h => ?_⟩⟩
 ·generalize ins.length = n at *
  simp (config := { maxSteps := 4000000 }) (disch := omega) only [t28,go_sem,TM.undef,hlen,hz]
  rw [l1]
  simp (config := { maxSteps := 4000000 }) (disch := omega) only [go_sem]
 ·induction h with
  | use h =>
   refine hc _ hi ?_
   unfold eqL
   rw [decide_eq_true h,Bool.true_or]
  | step hk h hd ih =>
   refine hc _ hi ?_
   have hkk := hbe _ hi _ hk
   have := ih (by omega)
   unfold eqL anyL
   rw [decide_eq_false hd,Bool.not_false,Bool.true_and,Bool.or_eq_true]
   exact .inr (List.any_eq_true.2 ⟨_,hk,this⟩)
theorem op_facts {op : Int} (h : 1 ≤ op ∧ op ≤ 25) : TM.Pure K 83 [.iv (.int .i64 op)] (.iv (.int .i64 (formR op))) ∧ TM.Pure K 72 [.iv (.int .i64 op)] (.iv (.bool (decide (op ≤ 24)))) ∧ TM.Pure K 73 [.iv (.int .i64 op)] (.iv (.bool (decide (op ≠ 23)))) ∧ TM.Pure K 74 [.iv (.int .i64 op)] (.iv (.bool (decide (op ≤ 14 ∨ op = 25)))) ∧ TM.Pure K 75 [.iv (.int .i64 op)] (.iv (.int .i64 (if op ≤ 14 then 0 else 16))) ∧ TM.Pure K 85 [.iv (.int .i64 op)] (.iv (.int .i64 (loM op))) ∧ TM.Pure K 86 [.iv (.int .i64 op)] (.iv (.int .i64 (hiM op))) := by
 have := List.all_eq_true.1 opTab_ok (op - 1).toNat (List.mem_range.2 (by omega))
 rw [show (((op - 1).toNat : Nat) : Int) + 1 = op by omega] at this
 unfold opTab at this
 simp only [Bool.and_eq_true] at this
 obtain ⟨⟨⟨⟨⟨⟨h1,h2⟩,h3⟩,h4⟩,h5⟩,h6⟩,h7⟩ := this
 exact ⟨okI_pure h1,okB_pure h2,okB_pure h3,okB_pure h4,okI_pure h5,okI_pure h6,okI_pure h7⟩
theorem call84 (b : Bool) : TM.Pure K 84 [.iv (.bool b),.iv (.int .i64 0)] (.iv (.bool true)) := by
 refine call_pure t84 rfl rfl ?_
 simp (config := { maxSteps := 4000000 }) (disch := omega) only [t84,go_sem,TM.undef]
theorem call70 (op im : Int) (h : 1 ≤ op ∧ op ≤ 25) : TM.Pure K 70 [.iv (.agg [.int .i64 op,.int .i64 0,.int .i64 0,.int .i64 0,.int .i64 im])] (.iv (.int .i64 (if loM op ≤ im ∧ im ≤ hiM op then 0 else 11))) := by
 obtain ⟨c83,c72,c73,c74,c75,c85,c86⟩ := op_facts h
 have hf : formR op ≠ 0 := by unfold formR; (repeat' split) <;> decide
 have c84 := fun b => call84 b
 generalize formR op = fm at *
 generalize loM op = lo at *
 generalize hiM op = hi at *
 generalize decide (op ≤ 24) = b1 at *
 generalize decide (op ≠ 23) = b2 at *
 generalize decide (op ≤ 14 ∨ op = 25) = b3 at *
 have k1 := c84 b1
 have k2 := c84 b2
 have k3 := c84 b3
 refine call_pure t70 rfl rfl ?_
 rcases (by omega : im < lo ∨ (lo ≤ im ∧ hi < im) ∨ (lo ≤ im ∧ im ≤ hi)) with h1 | h1 | h1
 ·rw [if_neg (by omega)]
  simp (config := { maxSteps := 4000000 }) (disch := omega) only [t70,go_sem,TM.undef,cpR_pure c83,cpR_pure c72,cpR_pure c73,cpR_pure c74,cpR_pure c85,cpR_pure c86,cpR_pure k1,cpR_pure k2,cpR_pure k3]
 ·rw [if_neg (by omega)]
  simp (config := { maxSteps := 4000000 }) (disch := omega) only [t70,go_sem,TM.undef,cpR_pure c83,cpR_pure c72,cpR_pure c73,cpR_pure c74,cpR_pure c85,cpR_pure c86,cpR_pure k1,cpR_pure k2,cpR_pure k3]
 ·rw [if_pos h1]
  simp (config := { maxSteps := 4000000 }) (disch := omega) only [t70,go_sem,TM.undef,cpR_pure c83,cpR_pure c72,cpR_pure c73,cpR_pure c74,cpR_pure c85,cpR_pure c86,cpR_pure k1,cpR_pure k2,cpR_pure k3]
def oneB (l : List Int) : List (List IV) := TM.one (.int .u8) l
theorem oneB_len (l : List Int) : (oneB l).length = l.length := TM.one_length ..
theorem oneB_el (l : List Int) : Elems 1 (oneB l) := by
 intro y hy
 obtain ⟨v,_,rfl⟩ := List.mem_map.1 hy
 exact ⟨rfl,rfl⟩
theorem oneB_snoc (l : List Int) (v : Int) : oneB l ++ [[.int .u8 v]] = oneB (l ++ [v]) := by simp [oneB,TM.one]
theorem loop71 (n : Int) (x2 x3 : TV) : ∀ (k : Nat) (l : List Int) (j : Nat) (S : Store) (x5 : TV),k ≤ 100 → l.length + k ≤ 1000 → At 1 5 (oneB l) j S →
  ∃ (l' : List Int) (j' : Nat) (S' : Store) (y5 : TV),lp' (lim K) t71L0 [acc j (oneB l),.iv (.int .i64 n),x2,x3,.iv (.int .i64 ((k : Int) - 1)),x5] S
   = .ret (.exit 0,[acc j' (oneB l'),.iv (.int .i64 n),x2,x3,.iv (.int .i64 (-1)),y5],S') ∧ l'.length = l.length + k ∧ At 1 5 (oneB l') j' S'
 | 0,l,j,S,x5,hk,hl,ha => by
  refine ⟨l,j,S,.iv (.bool false),loop_at K _ _ t71L0.eq_1 ?_,rfl,ha⟩
  rw [show ((0 : Nat) : Int) - 1 = -1 from rfl]
  simp (config := { maxSteps := 4000000 }) (disch := omega) only [go_sem]
 | k + 1,l,j,S,x5,hk,hl,ha => by
  have e0 : IntKind.u64.wrap (k : Int) = (k : Int) := wrap_u64 (by omega)
  have e1 : ∃ v,TM.binOp .shr (.iv (.int .i64 n)) (.iv (.int .u64 (k : Int))) = some (.int .i64 v) := by
   rw [TM.binOp_shr,if_neg (by omega)]; exact ⟨_,rfl⟩
  obtain ⟨v1,e1⟩ := e1
  have e2 : ∃ v,TM.binOp .and (.iv (.int .i64 v1)) (.iv (.int .i64 1)) = some (.int .i64 v) := by
   rw [TM.binOp_and]; exact ⟨_,rfl⟩
  obtain ⟨v2,e2⟩ := e2
  have e3 : ∃ v,TM.convOp (.toInt .u8) (.iv (.int .i64 v2)) = some (.int .u8 v) := ⟨_,rfl⟩
  obtain ⟨v3,e3⟩ := e3
  have ap := ap_g (b := 1) (c := [.int .u8 v3]) (t := .full) ha ⟨rfl,rfl⟩ (oneB_el l) (roomy_ok (by rw [oneB_len]; omega))
  have hat := gS1_at ha [.int .u8 v3]
  rw [oneB_snoc] at ap hat
  obtain ⟨l',j',S',y5,ih,hl',ha'⟩ := loop71 n x2 x3 k (l ++ [v3]) _ _ (.iv (.bool true)) (by omega) (by simp; omega) hat
  rw [show (((k + 1 : Nat) : Int) - 1) = (k : Int) by omega]
  refine ⟨l',j',S',y5,loop_at K _ _ t71L0.eq_1 ?_,by rw [hl']; simp; omega,ha'⟩
  simp (config := { maxSteps := 4000000 }) (disch := omega) only [go_sem,e0,e1,e2,e3,ap,wrap_i64]
  exact congrArg er ih
theorem call71 (n : Int) (k : Nat) (l : List Int) (j : Nat) (S : Store) (hk : k ≤ 100) (hl : l.length ≤ 800) (ha : At 1 5 (oneB l) j S) :
  ∃ (l' : List Int) (j' : Nat) (S' : Store),(lim K).call 71 [acc j (oneB l),.iv (.int .i64 n),.iv (.int .i64 k)] S = .ret (acc j' (oneB l'),S') ∧ l'.length = l.length + k ∧ At 1 5 (oneB l') j' S' := by
 obtain ⟨l',j',S',y5,l1,h1,h2⟩ := loop71 n (.iv (.int .i64 k)) (.iv (.sl .nil [])) k l j S (.tup []) hk (by omega) ha
 refine ⟨l',j',S',call_ret' K S (fn := t71) rfl rfl ?_,h1,h2⟩
 simp (config := { maxSteps := 4000000 }) (disch := omega) only [t71,go_sem,TM.undef,wrap_i64]
 rw [l1]
 simp (config := { maxSteps := 4000000 }) (disch := omega) only [go_sem]
def envE (op im : Int) : TV := .lb [.iv (.int .i64 op),.iv (.int .i64 0),.iv (.int .i64 0),.iv (.int .i64 0),.iv (.int .i64 im)]
theorem lenB (S : Store) (j : Nat) (l : List Int) : lenV .sl S (acc j (oneB l)) = some (.iv (.int .i64 l.length)) := by rw [lenV_acc,oneB_len]
theorem loop52b {op im : Int} (bt : Nat) (hbt : bt ≤ 32) (c75 : TM.Pure K 75 [.iv (.int .i64 op)] (.iv (.int .i64 bt))) (x0 x2 x3 x4 x6 x7 x8 x9 x10 x11 x13 : TV) : ∀ (k : Nat) (l : List Int) (j : Nat) (S : Store) (x12 : TV),l.length + bt ≤ 100 → 32 - (l.length + bt) = k → At 1 5 (oneB l) j S →
  ∃ (l' : List Int) (j' : Nat) (S' : Store) (y12 : TV),lp' (lim K) t52L1 [x0,envE op im,x2,x3,x4,acc j (oneB l),x6,x7,x8,x9,x10,x11,x12,x13] S
   = .ret (.exit 0,[x0,envE op im,x2,x3,x4,acc j' (oneB l'),x6,x7,x8,x9,x10,x11,y12,x13],S') ∧ 32 ≤ l'.length + bt ∧ l'.length + bt ≤ 100 ∧ At 1 5 (oneB l') j' S'
 | 0,l,j,S,x12,hl,hk,ha => by
  have hB := lenB S j l
  refine ⟨l,j,S,.iv (.bool false),loop_at K _ _ t52L1.eq_1 ?_,by omega,hl,ha⟩
  unfold envE
  simp (config := { maxSteps := 4000000 }) (disch := omega) only [go_sem,hB,cpR_pure c75,wrap_i64]
 | k + 1,l,j,S,x12,hl,hk,ha => by
  have hB := lenB S j l
  have ap := ap_g (b := 1) (c := [.int .u8 0]) (t := .full) ha ⟨rfl,rfl⟩ (oneB_el l) (roomy_ok (by rw [oneB_len]; omega))
  have hat := gS1_at ha [.int .u8 0]
  rw [oneB_snoc] at ap hat
  obtain ⟨l',j',S',y12,ih,h1,h2,h3⟩ := loop52b (op := op) (im := im) bt hbt c75 x0 x2 x3 x4 x6 x7 x8 x9 x10 x11 x13 k (l ++ [0]) _ _ (.iv (.bool true)) (by simp; omega) (by simp; omega) hat
  refine ⟨l',j',S',y12,loop_at K _ _ t52L1.eq_1 ?_,h1,h2,h3⟩
  unfold envE at *
  simp (config := { maxSteps := 4000000 }) (disch := omega) only [go_sem,hB,cpR_pure c75,ap,wrap_i64]
  exact congrArg er ih
theorem ix_accB {j : Nat} {l : List Int} {i : Nat} (h : i < l.length) : indexAddrS 1 (acc j (oneB l)) (i : Int) = some (.iv (.cp [.int .u8 (l.getD i 0)])) := by
 have h0 : oneB l ≠ [] := by intro e; have := oneB_len l; rw [e] at this; simp at this; omega
 rw [acc_ne _ h0]
 refine ix_tsl (by omega) ?_ rfl
 rw [Int.toNat_natCast]
 simp [oneB,TM.one,List.getD,List.getElem?_eq_getElem h]
theorem loop52a {l : List Int} (hl : 32 ≤ l.length) (j : Nat) (S : Store) (x0 x1 x2 x3 x4 x8 x9 x10 x11 x12 : TV) : ∀ (k i : Nat) (w : Int) (x13 : TV),i + k = 32 →
  ∃ (w' : Int) (y13 : TV),lp' (lim K) t52L0 [x0,x1,x2,x3,x4,acc j (oneB l),.iv (.int .u32 w),.iv (.int .i64 i),x8,x9,x10,x11,x12,x13] S
   = .ret (.exit 2,[x0,x1,x2,x3,x4,acc j (oneB l),.iv (.int .u32 w'),.iv (.int .i64 32),x8,x9,x10,x11,x12,y13],S)
 | 0,i,w,x13,h => by
  obtain rfl : i = 32 := by omega
  refine ⟨w,.iv (.bool false),loop_at K _ _ t52L0.eq_1 ?_⟩
  rw [show ((32 : Nat) : Int) = 32 from rfl]
  simp (config := { maxSteps := 4000000 }) (disch := omega) only [go_sem]
 | k + 1,i,w,x13,h => by
  have hix := ix_accB (j := j) (l := l) (i := i) (by omega)
  generalize l.getD i 0 = v at *
  obtain ⟨w',y13,ih⟩ := loop52a hl j S x0 x1 x2 x3 x4 x8 x9 x10 x11 x12 k (i + 1) (IntKind.u32.wrap (IntKind.u32.wrap (2 * w) + IntKind.u32.wrap v)) (.iv (.bool true)) (by omega)
  rw [show ((i + 1 : Nat) : Int) = (i : Int) + 1 by omega] at ih
  refine ⟨w',y13,loop_at K _ _ t52L0.eq_1 ?_⟩
  generalize oneB l = B at *
  simp (config := { maxSteps := 4000000 }) (disch := omega) only [go_sem,hix,wrap_i64]
  exact congrArg er ih
theorem call52 (op im : Int) (h : 1 ≤ op ∧ op ≤ 25) : ∃ w : Int,TM.Pure K 52 [.iv (.agg [.int .i64 op,.int .i64 0,.int .i64 0,.int .i64 0,.int .i64 im])] (.tup [.iv (.int .u32 w),.iv (.int .i64 (if loM op ≤ im ∧ im ≤ hiM op then 0 else 11))]) := by
 have c70 := call70 op im h
 obtain ⟨c83,c72,c73,c74,c75,c85,c86⟩ := op_facts h
 by_cases e : loM op ≤ im ∧ im ≤ hiM op
 ·rw [if_pos e] at c70 ⊢
  obtain ⟨bt,hbt,ebt⟩ : ∃ bt : Nat,bt ≤ 16 ∧ (if op ≤ 14 then (0 : Int) else 16) = (bt : Int) := by
   by_cases h1 : op ≤ 14
   ·exact ⟨0,by omega,by rw [if_pos h1]; rfl⟩
   ·exact ⟨16,by omega,by rw [if_neg h1]; rfl⟩
  rw [ebt] at c75
  generalize decide (op ≤ 24) = b1 at *
  generalize decide (op ≠ 23) = b2 at *
  generalize decide (op ≤ 14 ∨ op = 25) = b3 at *
  obtain ⟨l1,j1,S1,q1,n1,a1⟩ := call71 op 6 [] 0 [] (by omega) (by simp) (fun h0 => absurd rfl h0)
  rw [show oneB [] = [] from rfl,acc_nil,show ((6 : Nat) : Int) = 6 from rfl] at q1
  have step : ∀ (b : Bool) (l : List Int) (j : Nat) (S : Store),l.length ≤ 20 → At 1 5 (oneB l) j S → ∃ (l' : List Int) (j' : Nat) (S' : Store),l.length ≤ l'.length ∧ l'.length ≤ l.length + 5 ∧ At 1 5 (oneB l') j' S' ∧ (b = true → (lim K).call 71 [acc j (oneB l),.iv (.int .i64 0),.iv (.int .i64 5)] S = .ret (acc j' (oneB l'),S')) ∧ (b = false → l' = l ∧ j' = j ∧ S' = S) := by
   intro b l j S hl ha
   cases b with
   | true =>
    obtain ⟨l',j',S',q,n,a⟩ := call71 0 5 l j S (by omega) (by omega) ha
    exact ⟨l',j',S',by omega,by omega,a,(fun _ => q),(fun h => by cases h)⟩
   | false => exact ⟨l,j,S,by omega,by omega,ha,(fun h => by cases h),fun _ => ⟨rfl,rfl,rfl⟩⟩
  obtain ⟨l2,j2,S2,m2,n2,a2,q2,r2⟩ := step b1 l1 j1 S1 (by rw [n1]; simp) a1
  obtain ⟨l3,j3,S3,m3,n3,a3,q3,r3⟩ := step b2 l2 j2 S2 (by rw [n1] at n2; simp at n2; omega) a2
  obtain ⟨l4,j4,S4,m4,n4,a4,q4,r4⟩ := step b3 l3 j3 S3 (by rw [n1] at n2; simp at n2; omega) a3
  rw [n1] at n2
  simp at n2
  obtain ⟨l5,j5,S5,y12,lo1,g1,g2,a5⟩ := loop52b (op := op) (im := im) bt (by omega) c75 (.iv (.agg [.int .i64 op,.int .i64 0,.int .i64 0,.int .i64 0,.int .i64 im])) (.iv (.int .u32 0)) (.iv (.int .i64 0)) (.iv (.int .i64 0)) (.tup []) (.tup []) (.iv (.bool false)) (.iv (.bool b1)) (.iv (.bool b2)) (.iv (.bool b3)) (.tup []) _ l4 j4 S4 (.tup []) (by omega) rfl a4
  obtain ⟨l6,j6,S6,q6,n6,a6⟩ := call71 im bt l5 j5 S5 (by omega) (by omega) a5
  obtain ⟨w',y13,lo2⟩ := loop52a (l := l6) (by omega) j6 S6 (.iv (.agg [.int .i64 op,.int .i64 0,.int .i64 0,.int .i64 0,.int .i64 im])) (envE op im) (.iv (.int .u32 0)) (.iv (.int .i64 0)) (.iv (.int .i64 0)) (.iv (.bool false)) (.iv (.bool b1)) (.iv (.bool b2)) (.iv (.bool b3)) y12 32 0 0 (.tup []) (by omega)
  rw [show ((0 : Nat) : Int) = 0 from rfl] at lo2
  refine ⟨w',?_⟩
  unfold envE at *
  refine TM.pure_ret (S := S6) (r := .tup [.iv (.int .u32 w'),.iv (.int .i64 0)]) (call_ret' K _ (fn := t52) rfl rfl ?_) rfl
  cases b1 <;> cases b2 <;> cases b3 <;>
  ·first | obtain ⟨rfl,rfl,rfl⟩ := r2 rfl | have q2 := q2 rfl
   first | obtain ⟨rfl,rfl,rfl⟩ := r3 rfl | have q3 := q3 rfl
   first | obtain ⟨rfl,rfl,rfl⟩ := r4 rfl | have q4 := q4 rfl
   simp (config := { maxSteps := 4000000 }) (disch := omega) only [t52,go_sem,TM.undef,cpR_pure c70,cpR_pure c72,cpR_pure c73,cpR_pure c74,cpR_pure c75,q1,q2,q3,q4]
   rw [lo1]
   simp (config := { maxSteps := 4000000 }) (disch := omega) only [go_sem,cpR_pure c75,q6]
   rw [lo2]
   simp (config := { maxSteps := 4000000 }) (disch := omega) only [go_sem]
 ·rw [if_neg e] at c70 ⊢
  refine ⟨0,call_pure t52 rfl rfl ?_⟩
  simp (config := { maxSteps := 4000000 }) (disch := omega) only [t52,go_sem,TM.undef,cpR_pure c70]
theorem call53 (x : VI) : TM.Pure K 53 [.iv (.agg (encV x))] (.iv (.bool (decide ((26 ≤ x.op ∧ x.op ≤ 31) ∨ x.op = 66)))) := by
 rw [encV_eq]
 refine call_pure t53 rfl rfl ?_
 rcases (by omega : x.op < 26 ∨ (26 ≤ x.op ∧ x.op ≤ 31) ∨ (31 < x.op ∧ x.op ≠ 66) ∨ x.op = 66) with h | h | h | h
 ·rw [decide_eq_false (by omega)]; simp (config := { maxSteps := 4000000 }) (disch := omega) only [t53,go_sem,TM.undef]
 ·rw [decide_eq_true (by omega)]; simp (config := { maxSteps := 4000000 }) (disch := omega) only [t53,go_sem,TM.undef]
 ·rw [decide_eq_false (by omega)]; simp (config := { maxSteps := 4000000 }) (disch := omega) only [t53,go_sem,TM.undef]
 ·rw [decide_eq_true (by omega)]; simp (config := { maxSteps := 4000000 }) (disch := omega) only [t53,go_sem,TM.undef]
theorem call55 (fn rg sl nd pr : Int) (rs : Bool) (ti : Tag) (ins : List VI) (r : Int) : TM.Pure K 55 [.iv (.agg (encG fn rg sl nd pr rs ti ins)),.iv (.int .i64 r)] (.iv (.bool (!badR rg r))) := by
 unfold encG badR
 refine call_pure t55 rfl rfl ?_
 rcases (by omega : r < 0 ∨ (0 ≤ r ∧ rg ≤ r) ∨ (0 ≤ r ∧ r < rg)) with h | h | h
 ·rw [decide_eq_true (by omega),Bool.not_true]; simp (config := { maxSteps := 4000000 }) (disch := omega) only [t55,go_sem,TM.undef]
 ·rw [decide_eq_true (by omega),Bool.not_true]; simp (config := { maxSteps := 4000000 }) (disch := omega) only [t55,go_sem,TM.undef]
 ·rw [decide_eq_false (by omega),Bool.not_false]; simp (config := { maxSteps := 4000000 }) (disch := omega) only [t55,go_sem,TM.undef]
theorem loop54 {fn rg sl nd pr : Int} {rs : Bool} {ti : Tag} {ins : List VI} (hn : ins.length ≤ 1000000) (x0 x3 : TV) (L : Int) (S : Store) : ∀ (k i : Nat) (x6 x7 : TV),i + k = ins.length →
  ∃ (y6 y7 : TV),lp' (lim K) t54L0 [x0,.iv (.int .i64 L),.lb [.iv (.int .i64 fn),.iv (.int .i64 rg),.iv (.int .i64 sl),.iv (.int .i64 nd),.iv (.int .i64 pr),.iv (.bool rs),.iv (.sl ti (ins.map encV))],x3,.iv (.int .i64 (cntL (ins.take i) L)),.iv (.int .i64 i),x6,x7] S
   = .ret (.exit 0,[x0,.iv (.int .i64 L),.lb [.iv (.int .i64 fn),.iv (.int .i64 rg),.iv (.int .i64 sl),.iv (.int .i64 nd),.iv (.int .i64 pr),.iv (.bool rs),.iv (.sl ti (ins.map encV))],x3,.iv (.int .i64 (cntL ins L)),.iv (.int .i64 ins.length),y6,y7],S)
 | 0,i,x6,x7,h => by
  obtain rfl : i = ins.length := by omega
  rw [List.take_length]
  have hlen : (ins.map encV).length = ins.length := List.length_map _
  refine ⟨.iv (.bool false),x7,loop_at K _ _ t54L0.eq_1 ?_⟩
  simp (config := { maxSteps := 4000000 }) (disch := omega) only [go_sem,hlen]
 | k + 1,i,x6,x7,h => by
  have hla : i < ins.length := by omega
  have hlen : (ins.map encV).length = ins.length := List.length_map _
  have hix := ix_map (w := 8) (f := encV) encV_len (t := ti) (l := ins) (i := (i : Int)) (by omega)
  rw [Int.toNat_natCast,encV_eq] at hix
  have hts : ins.take (i + 1) = ins.take i ++ [ins.getD i default] := by
   rw [List.take_add_one,List.getElem?_eq_getElem hla]
   simp [List.getD,List.getElem?_eq_getElem hla]
  have hsn := cntL_snoc (ins.take i) (ins.getD i default) L
  rw [← hts] at hsn
  have hle := cntL_le (ins.take i) L
  rw [List.length_take] at hle
  have ihs := fun x6 x7 => loop54 (fn := fn) (rg := rg) (sl := sl) (nd := nd) (pr := pr) (rs := rs) (ti := ti) hn x0 x3 L S k (i + 1) x6 x7 (by omega)
  rw [show ((i + 1 : Nat) : Int) = (i : Int) + 1 by omega,hsn] at ihs
  generalize ins.getD i default = x at *
  generalize cntL (ins.take i) L = c at *
  by_cases e : x.op = 65 ∧ x.lb = L
  ·rw [if_pos e] at ihs
   obtain ⟨y6,y7,ih⟩ := ihs (.iv (.bool true)) (.iv (.bool true))
   obtain ⟨e1,e2⟩ := e
   refine ⟨y6,y7,loop_at K _ _ t54L0.eq_1 ?_⟩
   simp (config := { maxSteps := 4000000 }) (disch := omega) only [go_sem,hlen,hix,wrap_i64]
   exact congrArg er ih
  ·rw [if_neg e] at ihs
   obtain ⟨y6,y7,ih⟩ := ihs (.iv (.bool true)) (.iv (.bool false))
   refine ⟨y6,y7,loop_at K _ _ t54L0.eq_1 ?_⟩
   by_cases e1 : x.op = 65
   ·have e2 : ¬ x.lb = L := fun h => e ⟨e1,h⟩
    simp (config := { maxSteps := 4000000 }) (disch := omega) only [go_sem,hlen,hix,wrap_i64]
    exact congrArg er ih
   ·simp (config := { maxSteps := 4000000 }) (disch := omega) only [go_sem,hlen,hix,wrap_i64]
    exact congrArg er ih
theorem call54 (fn rg sl nd pr : Int) (rs : Bool) (ti : Tag) (ins : List VI) (hn : ins.length ≤ 1000000) (L : Int) : TM.Pure K 54 [.iv (.agg (encG fn rg sl nd pr rs ti ins)),.iv (.int .i64 L)] (.iv (.int .i64 (cntL ins L))) := by
 obtain ⟨y6,y7,l1⟩ := loop54 (fn := fn) (rg := rg) (sl := sl) (nd := nd) (pr := pr) (rs := rs) (ti := ti) hn (.iv (.agg (encG fn rg sl nd pr rs ti ins))) (.iv (.int .i64 0)) L [] ins.length 0 (.tup []) (.tup []) (by omega)
 rw [show ((0 : Nat) : Int) = 0 from rfl,show cntL (ins.take 0) L = 0 from rfl] at l1
 unfold encG at *
 refine call_pure t54 rfl rfl ?_
 simp (config := { maxSteps := 4000000 }) (disch := omega) only [t54,go_sem,TM.undef]
 rw [l1]
 simp (config := { maxSteps := 4000000 }) (disch := omega) only [go_sem]
theorem loop39 {fn rg sl nd pr : Int} {rs : Bool} {ti : Tag} {ins : List VI} (x : VI) (hu : x.us.length ≤ 1000000) (x0 x1 x5 x7 x8 x9 x10 : TV) (S : Store) : ∀ (k i : Nat) (x11 x12 : TV),i + k = x.us.length →
  ∃ (jj : Jump) (y4 y6 y11 y12 : TV),lp' (lim K) t39L0 [x0,x1,.lb [.iv (.int .i64 fn),.iv (.int .i64 rg),.iv (.int .i64 sl),.iv (.int .i64 nd),.iv (.int .i64 pr),.iv (.bool rs),.iv (.sl ti (ins.map encV))],.lb [.iv (.int .i64 x.op),.iv (.int .i64 x.d),.iv (.int .i64 x.a),.iv (.int .i64 x.b),.iv (.int .i64 x.im),.iv (.int .i64 x.lb),.iv (.sl x.tu (TM.one (.int .i64) x.us)),.iv (.sl x.tm (TM.one (.int .i64) x.mp))],.iv (.bool false),x5,.iv (.int .i64 i),x7,x8,x9,x10,x11,x12] S
   = .ret (jj,[x0,x1,.lb [.iv (.int .i64 fn),.iv (.int .i64 rg),.iv (.int .i64 sl),.iv (.int .i64 nd),.iv (.int .i64 pr),.iv (.bool rs),.iv (.sl ti (ins.map encV))],.lb [.iv (.int .i64 x.op),.iv (.int .i64 x.d),.iv (.int .i64 x.a),.iv (.int .i64 x.b),.iv (.int .i64 x.im),.iv (.int .i64 x.lb),.iv (.sl x.tu (TM.one (.int .i64) x.us)),.iv (.sl x.tm (TM.one (.int .i64) x.mp))],y4,x5,y6,x7,x8,x9,x10,y11,y12],S) ∧
   (jj = .exit 0 ∧ y4 = .iv (.bool false) ∧ (x.us.drop i).any (badR rg) = false ∨ jj = .ret ∧ y4 = .iv (.bool false) ∧ (x.us.drop i).any (badR rg) = true)
 | 0,i,x11,x12,h => by
  obtain rfl : i = x.us.length := by omega
  rw [List.drop_length]
  refine ⟨.exit 0,.iv (.bool false),.iv (.int .i64 x.us.length),.iv (.bool false),x12,loop_at K _ _ t39L0.eq_1 ?_,.inl ⟨rfl,rfl,rfl⟩⟩
  simp (config := { maxSteps := 4000000 }) (disch := omega) only [go_sem,TM.one_length]
 | k + 1,i,x11,x12,h => by
  have hla : i < x.us.length := by omega
  have hix := ix_one (f := IV.int .i64) (t := x.tu) (l := x.us) (i := (i : Int)) (by omega)
  rw [Int.toNat_natCast] at hix
  have c55 := call55 fn rg sl nd pr rs ti ins (x.us.getD i default)
  unfold encG at c55
  rw [drop_get hla,List.any_cons]
  obtain ⟨jj,y4,y6,y11,y12,ih,hj⟩ := loop39 (fn := fn) (rg := rg) (sl := sl) (nd := nd) (pr := pr) (rs := rs) (ti := ti) (ins := ins) x hu x0 x1 x5 x7 x8 x9 x10 S k (i + 1) (.iv (.bool true)) (.iv (.bool false)) (by omega)
  rw [show ((i + 1 : Nat) : Int) = (i : Int) + 1 by omega] at ih
  cases hb : badR rg (x.us.getD i default) with
  | true =>
   rw [hb,Bool.not_true] at c55
   refine ⟨.ret,.iv (.bool false),.iv (.int .i64 i),.iv (.bool true),.iv (.bool true),loop_at K _ _ t39L0.eq_1 ?_,.inr ⟨rfl,rfl,rfl⟩⟩
   simp (config := { maxSteps := 4000000 }) (disch := omega) only [go_sem,TM.one_length,hix,cpR_pure c55]
  | false =>
   rw [hb,Bool.not_false] at c55
   refine ⟨jj,y4,y6,y11,y12,loop_at K _ _ t39L0.eq_1 ?_,by rw [Bool.false_or]; exact hj⟩
   simp (config := { maxSteps := 4000000 }) (disch := omega) only [go_sem,TM.one_length,hix,cpR_pure c55,wrap_i64]
   exact congrArg er ih
theorem not39 (fn rg sl nd pr : Int) (rs : Bool) (ti : Tag) (ins : List VI) (hn : ins.length ≤ 1000000) (x : VI) (hu : x.us.length ≤ 1000000) (h : formedM x.op x.im = false) : TM.Pure K 39 [.iv (.agg (encG fn rg sl nd pr rs ti ins)),.iv (.agg (encV x))] (.iv (.bool false)) := by
  unfold formedM plainM at h
  simp only [Bool.or_eq_false_iff,Bool.and_eq_false_iff,decide_eq_false_iff_not] at h
  obtain ⟨h1,h2⟩ := h
  rw [encV_eq]
  unfold encG
  refine call_pure t39 rfl rfl ?_
  by_cases h3 : 1 ≤ x.op ∧ x.op ≤ 25
  · obtain ⟨w,c52⟩ := call52 x.op x.im h3
    rw [if_neg (by rcases h1 with h1 | h1; · exact absurd h3 h1
                   · exact h1)] at c52
    simp (config := { maxSteps := 4000000 }) (disch := omega) only [t39,go_sem,TM.undef,cpR_pure c52]
  · rcases (by omega : x.op < 1 ∨ (31 < x.op ∧ x.op < 64) ∨ 72 < x.op) with h | h | h
    · simp (config := { maxSteps := 4000000 }) (disch := omega) only [t39,go_sem,TM.undef,encG]
    · simp (config := { maxSteps := 4000000 }) (disch := omega) only [t39,go_sem,TM.undef,encG]
    · simp (config := { maxSteps := 4000000 }) (disch := omega) only [t39,go_sem,TM.undef,encG]
theorem yes39A (fn rg sl nd pr : Int) (rs : Bool) (ti : Tag) (ins : List VI) (hn : ins.length ≤ 1000000) (x : VI) (hu : x.us.length ≤ 1000000) (h : 1 ≤ x.op ∧ x.op ≤ 25) (hpl : loM x.op ≤ x.im ∧ x.im ≤ hiM x.op) : TM.Pure K 39 [.iv (.agg (encG fn rg sl nd pr rs ti ins)),.iv (.agg (encV x))] (.iv (.bool (!(x.us.any (badR rg)) && (!(badR rg x.a) && !(badR rg x.b) && !(badR rg x.d))))) := by
 have c53 := call53 x
 rw [decide_eq_false (by omega)] at c53
 obtain ⟨w,c52⟩ := call52 x.op x.im h
 rw [if_pos hpl] at c52
 have cA := call55 fn rg sl nd pr rs ti ins x.a
 have cB := call55 fn rg sl nd pr rs ti ins x.b
 have cD := call55 fn rg sl nd pr rs ti ins x.d
 obtain ⟨jj,y4,y6,y11,y12,l1,hj⟩ := loop39 (fn := fn) (rg := rg) (sl := sl) (nd := nd) (pr := pr) (rs := rs) (ti := ti) (ins := ins) x hu (.iv (.agg (encG fn rg sl nd pr rs ti ins))) (.iv (.agg (encV x))) (.iv (.int .i64 0)) (.iv (.bool false)) (.iv (.bool true)) (.iv (.bool false)) (.iv (.bool false)) [] x.us.length 0 (.tup []) (.tup []) (by omega)
 rw [show ((0 : Nat) : Int) = 0 from rfl] at l1
 rw [List.drop_zero] at hj
 rw [encV_eq] at c53 l1 ⊢
 unfold encG at *
 refine call_pure t39 rfl rfl ?_
 rcases hj with ⟨rfl,rfl,hj⟩ | ⟨rfl,rfl,hj⟩
 ·rw [hj,Bool.not_false,Bool.true_and]
  generalize badR rg x.a = bA at *
  generalize badR rg x.b = bB at *
  generalize badR rg x.d = bD at *
  cases bA with
  | true =>
   simp only [Bool.not_true,Bool.not_false,Bool.false_and,Bool.true_and] at *
   simp (config := { maxSteps := 4000000 }) (disch := omega) only [t39,go_sem,TM.undef,cpR_pure c52,cpR_pure c53]
   rw [l1]
   simp (config := { maxSteps := 4000000 }) (disch := omega) only [go_sem,TM.undef,cpR_pure cA,cpR_pure cB,cpR_pure cD,Bool.not_true,Bool.not_false]
  | false =>
   cases bB with
   | true =>
    simp only [Bool.not_true,Bool.not_false,Bool.false_and,Bool.true_and] at *
    simp (config := { maxSteps := 4000000 }) (disch := omega) only [t39,go_sem,TM.undef,cpR_pure c52,cpR_pure c53]
    rw [l1]
    simp (config := { maxSteps := 4000000 }) (disch := omega) only [go_sem,TM.undef,cpR_pure cA,cpR_pure cB,cpR_pure cD,Bool.not_true,Bool.not_false]
   | false =>
    cases bD <;>
    ·simp only [Bool.not_true,Bool.not_false,Bool.false_and,Bool.true_and] at *
     simp (config := { maxSteps := 4000000 }) (disch := omega) only [t39,go_sem,TM.undef,cpR_pure c52,cpR_pure c53]
     rw [l1]
     simp (config := { maxSteps := 4000000 }) (disch := omega) only [go_sem,TM.undef,cpR_pure cA,cpR_pure cB,cpR_pure cD,Bool.not_true,Bool.not_false]
 ·rw [hj,Bool.not_true,Bool.false_and]
  simp (config := { maxSteps := 4000000 }) (disch := omega) only [t39,go_sem,TM.undef,cpR_pure c52,cpR_pure c53]
  rw [l1]
  simp (config := { maxSteps := 4000000 }) (disch := omega) only [go_sem,TM.undef,cpR_pure cA]
theorem yes39D (fn rg sl nd pr : Int) (rs : Bool) (ti : Tag) (ins : List VI) (hn : ins.length ≤ 1000000) (x : VI) (hu : x.us.length ≤ 1000000) (h : x.op = 64 ∨ (68 ≤ x.op ∧ x.op ≤ 72)) : TM.Pure K 39 [.iv (.agg (encG fn rg sl nd pr rs ti ins)),.iv (.agg (encV x))] (.iv (.bool (!(x.us.any (badR rg)) && (!(badR rg x.a) && !(badR rg x.b) && !(badR rg x.d))))) := by
 have c53 := call53 x
 rw [decide_eq_false (by omega)] at c53
 have cA := call55 fn rg sl nd pr rs ti ins x.a
 have cB := call55 fn rg sl nd pr rs ti ins x.b
 have cD := call55 fn rg sl nd pr rs ti ins x.d
 obtain ⟨jj,y4,y6,y11,y12,l1,hj⟩ := loop39 (fn := fn) (rg := rg) (sl := sl) (nd := nd) (pr := pr) (rs := rs) (ti := ti) (ins := ins) x hu (.iv (.agg (encG fn rg sl nd pr rs ti ins))) (.iv (.agg (encV x))) (.tup []) (.iv (.bool false)) (.iv (.bool false)) (.tup []) (.iv (.bool false)) [] x.us.length 0 (.tup []) (.tup []) (by omega)
 rw [show ((0 : Nat) : Int) = 0 from rfl] at l1
 rw [List.drop_zero] at hj
 rw [encV_eq] at c53 l1 ⊢
 unfold encG at *
 refine call_pure t39 rfl rfl ?_
 rcases hj with ⟨rfl,rfl,hj⟩ | ⟨rfl,rfl,hj⟩
 ·rw [hj,Bool.not_false,Bool.true_and]
  generalize badR rg x.a = bA at *
  generalize badR rg x.b = bB at *
  generalize badR rg x.d = bD at *
  cases bA with
  | true =>
   simp only [Bool.not_true,Bool.not_false,Bool.false_and,Bool.true_and] at *
   simp (config := { maxSteps := 4000000 }) (disch := omega) only [t39,go_sem,TM.undef,cpR_pure c53]
   rw [l1]
   simp (config := { maxSteps := 4000000 }) (disch := omega) only [go_sem,TM.undef,cpR_pure cA,cpR_pure cB,cpR_pure cD,Bool.not_true,Bool.not_false]
  | false =>
   cases bB with
   | true =>
    simp only [Bool.not_true,Bool.not_false,Bool.false_and,Bool.true_and] at *
    simp (config := { maxSteps := 4000000 }) (disch := omega) only [t39,go_sem,TM.undef,cpR_pure c53]
    rw [l1]
    simp (config := { maxSteps := 4000000 }) (disch := omega) only [go_sem,TM.undef,cpR_pure cA,cpR_pure cB,cpR_pure cD,Bool.not_true,Bool.not_false]
   | false =>
    cases bD <;>
    ·simp only [Bool.not_true,Bool.not_false,Bool.false_and,Bool.true_and] at *
     simp (config := { maxSteps := 4000000 }) (disch := omega) only [t39,go_sem,TM.undef,cpR_pure c53]
     rw [l1]
     simp (config := { maxSteps := 4000000 }) (disch := omega) only [go_sem,TM.undef,cpR_pure cA,cpR_pure cB,cpR_pure cD,Bool.not_true,Bool.not_false]
 ·rw [hj,Bool.not_true,Bool.false_and]
  simp (config := { maxSteps := 4000000 }) (disch := omega) only [t39,go_sem,TM.undef,cpR_pure c53]
  rw [l1]
  simp (config := { maxSteps := 4000000 }) (disch := omega) only [go_sem,TM.undef,cpR_pure cA]
end Go.Proofs.YtehlgnfhkidgoaaDoor
