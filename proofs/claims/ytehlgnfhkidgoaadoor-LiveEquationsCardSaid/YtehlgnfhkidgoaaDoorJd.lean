/- Some texts of the proof, joined. Condition: none. -/
import Derived.Test.YtehlgnfhkidgoaaDoorJc
import Derived.Test.YtehlgnfhkidgoaaDoorKr1
set_option maxRecDepth 100000
set_option maxHeartbeats 64000000
set_option linter.unusedSimpArgs false
set_option linter.unusedVariables false
namespace Go.Proofs.YtehlgnfhkidgoaaDoor
open Go Go.TM
theorem ao0 (l : List IV) : addOff (.iv (.cp l)) 0 = some (.iv (.cp l)) := by simp [addOff]
theorem ao5 (a b c d e f g h : IV) : addOff (.iv (.cp [a,b,c,d,e,f,g,h])) 5 = some (.iv (.cp [f,g,h])) := by simp [addOff]
theorem ao6 (a b c d e f g h : IV) : addOff (.iv (.cp [a,b,c,d,e,f,g,h])) 6 = some (.iv (.cp [g,h])) := by simp [addOff]
attribute [go_sem] ao0 ao5 ao6
def encG (fn rg sl nd pr : Int) (rs : Bool) (ti : Tag) (ins : List VI) : List IV := [.int .i64 fn,.int .i64 rg,.int .i64 sl,.int .i64 nd,.int .i64 pr,.bool rs,.sl ti (ins.map encV)]
def lastOK (ins : List VI) : Bool := decide ((ins.getD (ins.length - 1) default).op = 66 ∨ (ins.getD (ins.length - 1) default).op = 68 ∨ (ins.getD (ins.length - 1) default).op = 72)
def headOK (rg sl nd pr : Int) (ins : List VI) : Prop := 32 ≤ rg ∧ 0 ≤ nd ∧ 0 ≤ sl ∧ 0 ≤ pr ∧ 0 < ins.length
instance (rg sl nd pr : Int) (ins : List VI) : Decidable (headOK rg sl nd pr ins) := by unfold headOK; infer_instance
def chkM (rg sl nd pr : Int) (ins : List VI) : Bool := decide (headOK rg sl nd pr ins) && (!ins.any (badI rg ins) && lastOK ins)
theorem call35 (fn rg sl nd pr : Int) (rs : Bool) (ti : Tag) (ins : List VI) (hn : ins.length ≤ 1000000) (hus : ∀ x ∈ ins,x.us.length ≤ 999990 ∧ TagOk x.tu x.us) : TM.Pure K 35 [.iv (.agg (encG fn rg sl nd pr rs ti ins))] (.iv (.int .i64 (if chkM rg sl nd pr ins then 0 else 2))) := by
 unfold chkM
 have hlen : (ins.map encV).length = ins.length := List.length_map _
 by_cases hh : headOK rg sl nd pr ins
 ·rw [decide_eq_true hh,Bool.true_and]
  obtain ⟨h1,h2,h3,h4,h5⟩ := hh
  obtain ⟨S1,rows,c,y4,y12,y13,l1,z0,z1,hc⟩ := loop35a (fn := fn) (rg := rg) (sl := sl) (nd := nd) (pr := pr) (rs := rs) (ti := ti) (ins := ins) hn (.iv (.agg (encG fn rg sl nd pr rs ti ins))) (.ptr 0 25 0) (.iv (.int .i64 0)) (.tup []) (.tup []) (.tup []) (.iv (.bool false)) (.tup []) (.tup []) (.tup []) (.tup []) (.tup []) (.tup []) (.tup []) (.tup []) ins.length 0 [bxF fn rg sl nd pr rs ti ins,.mp (mpR vI []) 0] [] 0 (.tup []) (.tup []) (.tup []) (by omega) rfl rfl (fun L => by simp [cntR,getR,cntL])
  obtain ⟨S2,jj,y2,y5,y6,y7,y16,y17,y18,y19,l2,w0,hj⟩ := loop35b (fn := fn) (rg := rg) (sl := sl) (nd := nd) (pr := pr) (rs := rs) (ti := ti) hn hus hc (.iv (.agg (encG fn rg sl nd pr rs ti ins))) y4 (.iv (.bool false)) (.iv (.sl ti (ins.map encV))) (.iv (.int .i64 ins.length)) (.iv (.int .i64 ins.length)) y12 y13 (.tup []) (.tup []) ins.length 0 S1 (.iv (.int .i64 0)) (.tup []) (.tup []) (.tup []) (.tup []) (.tup []) (.tup []) (by omega) z0 z1
  rw [show ((0 : Nat) : Int) = 0 from rfl] at l1 l2
  rw [List.drop_zero] at hj
  have hl : ins.length - 1 < ins.length := by omega
  have hix := ix_map (w := 8) (f := encV) encV_len (t := ti) (l := ins) (i := ((ins.length : Int) - 1)) (by omega)
  rw [show ((ins.length : Int) - 1).toNat = ins.length - 1 by omega,encV_eq] at hix
  unfold lastOK
  generalize ins.getD (ins.length - 1) default = x at *
  unfold bxF at l1 z0 w0
  rw [show mpR vI [] = [] from rfl] at l1
  rw [show encG fn rg sl nd pr rs ti ins = [.int .i64 fn,.int .i64 rg,.int .i64 sl,.int .i64 nd,.int .i64 pr,.bool rs,.sl ti (ins.map encV)] from rfl] at l1 l2 ⊢
  have h5' : ¬ ((ins.length : Nat) : Int) = 0 := by omega
  rcases hj with ⟨rfl,hj⟩ | ⟨rfl,rfl,hj⟩
  ·rw [hj,Bool.not_false,Bool.true_and]
   rcases (by omega : x.op = 66 ∨ x.op = 68 ∨ x.op = 72 ∨ (x.op ≠ 66 ∧ x.op ≠ 68 ∧ x.op ≠ 72)) with h | h | h | ⟨ha,hb,hd⟩
   ·rw [decide_eq_true (.inl h),if_pos rfl]
    refine call_pure t35 rfl rfl ?_
    simp (config := { maxSteps := 4000000 }) (disch := omega) only [t35,go_sem,TM.undef,hlen,h5']
    rw [l1]
    simp (config := { maxSteps := 4000000 }) (disch := omega) only [go_sem,z0,hlen]
    rw [l2]
    simp (config := { maxSteps := 4000000 }) (disch := omega) only [go_sem,w0,hlen,hix,wrap_i64]
   ·rw [decide_eq_true (.inr (.inl h)),if_pos rfl]
    refine call_pure t35 rfl rfl ?_
    simp (config := { maxSteps := 4000000 }) (disch := omega) only [t35,go_sem,TM.undef,hlen,h5']
    rw [l1]
    simp (config := { maxSteps := 4000000 }) (disch := omega) only [go_sem,z0,hlen]
    rw [l2]
    simp (config := { maxSteps := 4000000 }) (disch := omega) only [go_sem,w0,hlen,hix,wrap_i64]
   ·rw [decide_eq_true (.inr (.inr h)),if_pos rfl]
    refine call_pure t35 rfl rfl ?_
    simp (config := { maxSteps := 4000000 }) (disch := omega) only [t35,go_sem,TM.undef,hlen,h5']
    rw [l1]
    simp (config := { maxSteps := 4000000 }) (disch := omega) only [go_sem,z0,hlen]
    rw [l2]
    simp (config := { maxSteps := 4000000 }) (disch := omega) only [go_sem,w0,hlen,hix,wrap_i64]
   ·rw [decide_eq_false (by omega),if_neg (by decide)]
    refine call_pure t35 rfl rfl ?_
    simp (config := { maxSteps := 4000000 }) (disch := omega) only [t35,go_sem,TM.undef,hlen,h5']
    rw [l1]
    simp (config := { maxSteps := 4000000 }) (disch := omega) only [go_sem,z0,hlen]
    rw [l2]
    simp (config := { maxSteps := 4000000 }) (disch := omega) only [go_sem,w0,hlen,hix,wrap_i64]
  ·rw [hj,Bool.not_true,Bool.false_and,if_neg (by decide)]
   refine call_pure t35 rfl rfl ?_
   simp (config := { maxSteps := 4000000 }) (disch := omega) only [t35,go_sem,TM.undef,hlen,h5']
   rw [l1]
   simp (config := { maxSteps := 4000000 }) (disch := omega) only [go_sem,z0,hlen]
   rw [l2]
   simp (config := { maxSteps := 4000000 }) (disch := omega) only [go_sem]
 ·rw [decide_eq_false hh,Bool.false_and,if_neg (by decide)]
  unfold headOK at hh
  refine call_pure t35 rfl rfl ?_
  unfold encG
  rcases (by omega : rg < 32 ∨ (32 ≤ rg ∧ nd < 0) ∨ (32 ≤ rg ∧ 0 ≤ nd ∧ sl < 0) ∨ (32 ≤ rg ∧ 0 ≤ nd ∧ 0 ≤ sl ∧ pr < 0) ∨ (32 ≤ rg ∧ 0 ≤ nd ∧ 0 ≤ sl ∧ 0 ≤ pr ∧ ins.length = 0)) with h | h | h | h | h
  ·simp (config := { maxSteps := 4000000 }) (disch := omega) only [t35,go_sem,TM.undef,hlen]
  ·simp (config := { maxSteps := 4000000 }) (disch := omega) only [t35,go_sem,TM.undef,hlen]
  ·simp (config := { maxSteps := 4000000 }) (disch := omega) only [t35,go_sem,TM.undef,hlen]
  ·simp (config := { maxSteps := 4000000 }) (disch := omega) only [t35,go_sem,TM.undef,hlen]
  ·have h0 : ((ins.length : Nat) : Int) = 0 := by omega
   simp (config := { maxSteps := 4000000 }) (disch := omega) only [t35,go_sem,TM.undef,hlen,h0]
theorem loop19 (t : Tag) (l : List Int) (n : Int) (hl : l.length ≤ 1000000000) (S : Store) : ∀ (k i : Nat) (x4 x5 : TV),i + k = l.length →
  ∃ j b y3 y4 y5,(j = .ret ∧ b = true ∧ n ∈ l.drop i ∨ j = .exit 0 ∧ b = false ∧ n ∉ l.drop i) ∧
   lp' (lim K) t19L0 [.iv (.sl t (TM.one (.int .i64) l)),.iv (.int .i64 n),.iv (.bool false),.iv (.int .i64 (i : Int)),x4,x5] S = .ret (j,[.iv (.sl t (TM.one (.int .i64) l)),.iv (.int .i64 n),.iv (.bool b),y3,y4,y5],S)
 | 0,i,x4,x5,h => by
  refine ⟨.exit 0,false,?_,?_,?_,.inr ⟨rfl,rfl,by rw [List.drop_eq_nil_of_le (by omega)]; simp⟩,loop_at K _ _ t19L0.eq_1 ?_⟩
  rotate_left 3
  ·simp (config := { maxSteps := 1900000 }) (disch := omega) only [go_sem,TM.one_length]
   rfl
 | k + 1,i,x4,x5,h => by
  have hla : i < l.length := by omega
  have hix := ix_one (f := IV.int .i64) (t := t) (l := l) (i := (i : Int)) (by omega)
  rw [Int.toNat_natCast] at hix
  have hdr := drop_get hla
  by_cases hn : l.getD i default = n
  ·refine ⟨.ret,true,?_,?_,?_,.inl ⟨rfl,rfl,by rw [hdr,hn]; simp⟩,loop_at K _ _ t19L0.eq_1 ?_⟩
   rotate_left 3
   ·simp (config := { maxSteps := 1900000 }) (disch := omega) only [go_sem,TM.one_length,hix,hn]
    rfl
  ·obtain ⟨j,b,y3,y4,y5,hj,ih⟩ := loop19 t l n hl S k (i + 1) (.iv (.bool true)) (.iv (.bool false)) (by omega)
   rw [show ((i + 1 : Nat) : Int) = (i : Int) + 1 by omega] at ih
   refine ⟨j,b,y3,y4,y5,?_,loop_at K _ _ t19L0.eq_1 ?_⟩
   ·rw [hdr]
    simp only [List.mem_cons,Ne.symm hn,false_or]
    exact hj
   ·simp (config := { maxSteps := 1900000 }) (disch := omega) only [go_sem,TM.one_length,hix,hn,wrap_i64]
    exact congrArg er ih
theorem call19 (t : Tag) (l : List Int) (n : Int) (hl : l.length ≤ 1000000000) (S : Store) : (lim K).call 19 [.iv (.sl t (TM.one (.int .i64) l)),.iv (.int .i64 n)] S = .ret (.iv (.bool (decide (n ∈ l))),S) := by
 obtain ⟨j,b,y3,y4,y5,hj,ih⟩ := loop19 t l n hl S l.length 0 (.tup []) (.tup []) (by omega)
 rw [show ((0 : Nat) : Int) = 0 from rfl,List.drop_zero] at *
 refine call_ret' K _ (fn := t19) rfl rfl ?_
 simp (config := { maxSteps := 1900000 }) (disch := omega) only [t19,go_sem,TM.undef]
 rw [ih]
 rcases hj with ⟨rfl,rfl,hm⟩ | ⟨rfl,rfl,hm⟩
 ·simp (config := { maxSteps := 1900000 }) (disch := omega) only [go_sem,hm]
 ·simp (config := { maxSteps := 1900000 }) (disch := omega) only [go_sem,hm]
theorem fl_drop {l : List VI} {i : Nat} (h : i < l.length) (L : Int) : firstL (l.drop i) L = if (l.getD i default).op = 65 ∧ (l.getD i default).lb = L then some 0 else (firstL (l.drop (i + 1)) L).map (· + 1) := by
 rw [drop_get h]
 unfold firstL
 rw [List.findIdx?_cons]
 by_cases e : (l.getD i default).op = 65 ∧ (l.getD i default).lb = L
 ·rw [if_pos e,decide_eq_true e.1,decide_eq_true e.2]; rfl
 ·rw [if_neg e]
  have : (decide ((l.getD i default).op = 65) && decide ((l.getD i default).lb = L)) = false := by
   cases h1 : (decide ((l.getD i default).op = 65) && decide ((l.getD i default).lb = L)) with
   | false => rfl
   | true => simp at h1; exact absurd h1 e
  rw [this]
  simp [Option.map_map,Function.comp_def]
theorem loop20 {fn rg sl nd pr : Int} {rs : Bool} {ti : Tag} {ins : List VI} (hn : ins.length ≤ 1000000) (x0 : TV) (L : Int) (S : Store) : ∀ (k i : Nat) (x5 x6 : TV),i + k = ins.length →
  ∃ (jj : Jump) (y3 y4 y5 y6 : TV),lp' (lim K) t20L0 [x0,.iv (.int .i64 L),.lb ((encG fn rg sl nd pr rs ti ins).map .iv),.iv (.int .i64 0),.iv (.int .i64 i),x5,x6] S
   = .ret (jj,[x0,.iv (.int .i64 L),.lb ((encG fn rg sl nd pr rs ti ins).map .iv),y3,y4,y5,y6],S) ∧ (jj = .exit 0 ∧ firstL (ins.drop i) L = none ∨ jj = .ret ∧ ∃ q : Int,firstL (ins.drop i) L = some q ∧ y3 = .iv (.int .i64 (i + q)))
 | 0,i,x5,x6,h => by
  obtain rfl : i = ins.length := by omega
  refine ⟨.exit 0,.iv (.int .i64 0),.iv (.int .i64 ins.length),.iv (.bool false),x6,loop_at K _ _ t20L0.eq_1 ?_,.inl ⟨rfl,by rw [List.drop_length]; rfl⟩⟩
  have hlen : (ins.map encV).length = ins.length := List.length_map _
  simp (config := { maxSteps := 4000000 }) (disch := omega) only [go_sem,encG,List.map_cons,List.map_nil,hlen]
 | k + 1,i,x5,x6,h => by
  have hla : i < ins.length := by omega
  have hlen : (ins.map encV).length = ins.length := List.length_map _
  have hix := ix_map (w := 8) (f := encV) encV_len (t := ti) (l := ins) (i := (i : Int)) (by omega)
  rw [Int.toNat_natCast,encV_eq] at hix
  rw [fl_drop hla]
  generalize ins.getD i default = x at *
  by_cases e : x.op = 65 ∧ x.lb = L
  ·rw [if_pos e]
   refine ⟨.ret,.iv (.int .i64 i),.iv (.int .i64 i),.iv (.bool true),.iv (.bool true),loop_at K _ _ t20L0.eq_1 ?_,.inr ⟨rfl,0,rfl,by rw [Int.add_zero]⟩⟩
   obtain ⟨e1,e2⟩ := e
   simp (config := { maxSteps := 4000000 }) (disch := omega) only [go_sem,encG,List.map_cons,List.map_nil,hlen,hix]
  ·rw [if_neg e]
   obtain ⟨jj,y3,y4,y5,y6,ih,hj⟩ := loop20 (fn := fn) (rg := rg) (sl := sl) (nd := nd) (pr := pr) (rs := rs) (ti := ti) hn x0 L S k (i + 1) (.iv (.bool true)) (.iv (.bool false)) (by omega)
   rw [show ((i + 1 : Nat) : Int) = (i : Int) + 1 by omega,show (encG fn rg sl nd pr rs ti ins).map TV.iv = [.iv (.int .i64 fn),.iv (.int .i64 rg),.iv (.int .i64 sl),.iv (.int .i64 nd),.iv (.int .i64 pr),.iv (.bool rs),.iv (.sl ti (ins.map encV))] from rfl] at ih
   rw [show (encG fn rg sl nd pr rs ti ins).map TV.iv = [.iv (.int .i64 fn),.iv (.int .i64 rg),.iv (.int .i64 sl),.iv (.int .i64 nd),.iv (.int .i64 pr),.iv (.bool rs),.iv (.sl ti (ins.map encV))] from rfl]
   refine ⟨jj,y3,y4,y5,y6,loop_at K _ _ t20L0.eq_1 ?_,?_⟩
   ·by_cases e1 : x.op = 65
    ·have e2 : ¬ x.lb = L := fun h => e ⟨e1,h⟩
     simp (config := { maxSteps := 4000000 }) (disch := omega) only [go_sem,hlen,hix,wrap_i64]
     exact congrArg er ih
    ·simp (config := { maxSteps := 4000000 }) (disch := omega) only [go_sem,hlen,hix,wrap_i64]
     exact congrArg er ih
   ·rcases hj with ⟨rfl,hj⟩ | ⟨rfl,q,hj,rfl⟩
    ·exact .inl ⟨rfl,by rw [hj]; rfl⟩
    ·exact .inr ⟨rfl,q + 1,by rw [hj]; rfl,by rw [show ((i + 1 : Nat) : Int) + q = (i : Int) + (q + 1) by omega]⟩
theorem call20 (fn rg sl nd pr : Int) (rs : Bool) (ti : Tag) (ins : List VI) (hn : ins.length ≤ 1000000) (L : Int) : TM.Pure K 20 [.iv (.agg (encG fn rg sl nd pr rs ti ins)),.iv (.int .i64 L)] (.iv (.int .i64 ((firstL ins L).getD (-1)))) := by
 obtain ⟨jj,y3,y4,y5,y6,l1,hj⟩ := loop20 (fn := fn) (rg := rg) (sl := sl) (nd := nd) (pr := pr) (rs := rs) (ti := ti) hn (.iv (.agg (encG fn rg sl nd pr rs ti ins))) L [] ins.length 0 (.tup []) (.tup []) (by omega)
 rw [show ((0 : Nat) : Int) = 0 from rfl,show (encG fn rg sl nd pr rs ti ins).map TV.iv = [.iv (.int .i64 fn),.iv (.int .i64 rg),.iv (.int .i64 sl),.iv (.int .i64 nd),.iv (.int .i64 pr),.iv (.bool rs),.iv (.sl ti (ins.map encV))] from rfl,show encG fn rg sl nd pr rs ti ins = [.int .i64 fn,.int .i64 rg,.int .i64 sl,.int .i64 nd,.int .i64 pr,.bool rs,.sl ti (ins.map encV)] from rfl] at l1
 rw [show encG fn rg sl nd pr rs ti ins = [.int .i64 fn,.int .i64 rg,.int .i64 sl,.int .i64 nd,.int .i64 pr,.bool rs,.sl ti (ins.map encV)] from rfl]
 rw [List.drop_zero] at hj
 refine call_pure t20 rfl rfl ?_
 rcases hj with ⟨rfl,hj⟩ | ⟨rfl,q,hj,rfl⟩
 ·rw [hj]
  simp (config := { maxSteps := 4000000 }) (disch := omega) only [t20,go_sem,TM.undef]
  rw [l1]
  simp (config := { maxSteps := 4000000 }) (disch := omega) only [go_sem]
  rfl
 ·rw [hj,Option.getD_some,show ((0 : Nat) : Int) + q = q by omega] at *
  simp (config := { maxSteps := 4000000 }) (disch := omega) only [t20,go_sem,TM.undef]
  rw [l1]
  simp (config := { maxSteps := 4000000 }) (disch := omega) only [go_sem]
theorem loop6 {fn rg sl nd pr : Int} {rs : Bool} {ti : Tag} {ins : List VI} (hn : ins.length ≤ 9223372036854775807) (x0 : TV) (S : Store) : ∀ (k i : Nat) (x4 x5 : TV),i + k = min ins.length 100 →
  ∃ (jj : Jump) (y2 y3 y4 y5 : TV),lp' (lim K) t6L0 [x0,.lb ((encG fn rg sl nd pr rs ti ins).map .iv),.iv (.bool false),.iv (.int .i64 i),x4,x5] S
   = .ret (jj,[x0,.lb ((encG fn rg sl nd pr rs ti ins).map .iv),y2,y3,y4,y5],S) ∧ (jj = .exit 0 ∧ (∀ q,i ≤ q → q < min ins.length 100 → (ins.getD q default).us.length ≤ 30) ∨ jj = .ret ∧ y2 = .iv (.bool true))
 | 0,i,x4,x5,h => by
  have hlen : (ins.map encV).length = ins.length := List.length_map _
  refine ⟨.exit 0,.iv (.bool false),.iv (.int .i64 i),.iv (.bool false),x5,loop_at K _ _ t6L0.eq_1 ?_,.inl ⟨rfl,fun q h1 h2 => by omega⟩⟩
  by_cases hi : i < ins.length
  ·simp (config := { maxSteps := 4000000 }) (disch := omega) only [go_sem,encG,List.map_cons,List.map_nil,hlen]
  ·simp (config := { maxSteps := 4000000 }) (disch := omega) only [go_sem,encG,List.map_cons,List.map_nil,hlen]
 | k + 1,i,x4,x5,h => by
  have hla : i < ins.length := by omega
  have hlen : (ins.map encV).length = ins.length := List.length_map _
  have hix := ix_map (w := 8) (f := encV) encV_len (t := ti) (l := ins) (i := (i : Int)) (by omega)
  rw [Int.toNat_natCast,encV_eq] at hix
  have ih0 := loop6 (fn := fn) (rg := rg) (sl := sl) (nd := nd) (pr := pr) (rs := rs) (ti := ti) hn x0 S k (i + 1) (.iv (.bool true)) (.iv (.bool false)) (by omega)
  by_cases e : (ins.getD i default).us.length ≤ 30
  ·obtain ⟨jj,y2,y3,y4,y5,ih,hj⟩ := ih0
   rw [show ((i + 1 : Nat) : Int) = (i : Int) + 1 by omega,show (encG fn rg sl nd pr rs ti ins).map TV.iv = [.iv (.int .i64 fn),.iv (.int .i64 rg),.iv (.int .i64 sl),.iv (.int .i64 nd),.iv (.int .i64 pr),.iv (.bool rs),.iv (.sl ti (ins.map encV))] from rfl] at ih
   rw [show (encG fn rg sl nd pr rs ti ins).map TV.iv = [.iv (.int .i64 fn),.iv (.int .i64 rg),.iv (.int .i64 sl),.iv (.int .i64 nd),.iv (.int .i64 pr),.iv (.bool rs),.iv (.sl ti (ins.map encV))] from rfl]
   refine ⟨jj,y2,y3,y4,y5,loop_at K _ _ t6L0.eq_1 ?_,?_⟩
   ·generalize ins.getD i default = x at *
    simp (config := { maxSteps := 4000000 }) (disch := omega) only [go_sem,hlen,hix,TM.one_length,wrap_i64]
    exact congrArg er ih
   ·rcases hj with ⟨rfl,hj⟩ | hj
    ·refine .inl ⟨rfl,fun q h1 h2 => ?_⟩
     by_cases eq : q = i
     ·rw [eq]; exact e
     ·exact hj q (by omega) h2
    ·exact .inr hj
  ·refine ⟨.ret,.iv (.bool true),.iv (.int .i64 i),.iv (.bool true),.iv (.bool true),loop_at K _ _ t6L0.eq_1 ?_,.inr ⟨rfl,rfl⟩⟩
   generalize ins.getD i default = x at *
   simp (config := { maxSteps := 4000000 }) (disch := omega) only [go_sem,encG,List.map_cons,List.map_nil,hlen,hix,TM.one_length]
theorem call6 (fn rg sl nd pr : Int) (rs : Bool) (ti : Tag) (ins : List VI) (hn : ins.length ≤ 9223372036854775807) : ∃ b : Bool,TM.Pure K 6 [.iv (.agg (encG fn rg sl nd pr rs ti ins))] (.iv (.bool b)) ∧ (b = false → ins.length ≤ 80 ∧ rg ≤ 120 ∧ ∀ x ∈ ins,x.us.length ≤ 30) := by
 obtain ⟨jj,y2,y3,y4,y5,l1,hj⟩ := loop6 (fn := fn) (rg := rg) (sl := sl) (nd := nd) (pr := pr) (rs := rs) (ti := ti) hn (.iv (.agg (encG fn rg sl nd pr rs ti ins))) [] (min ins.length 100) 0 (.tup []) (.tup []) (by omega)
 have hlen : (ins.map encV).length = ins.length := List.length_map _
 rw [show ((0 : Nat) : Int) = 0 from rfl,show (encG fn rg sl nd pr rs ti ins).map TV.iv = [.iv (.int .i64 fn),.iv (.int .i64 rg),.iv (.int .i64 sl),.iv (.int .i64 nd),.iv (.int .i64 pr),.iv (.bool rs),.iv (.sl ti (ins.map encV))] from rfl,show encG fn rg sl nd pr rs ti ins = [.int .i64 fn,.int .i64 rg,.int .i64 sl,.int .i64 nd,.int .i64 pr,.bool rs,.sl ti (ins.map encV)] from rfl] at l1
 rw [show encG fn rg sl nd pr rs ti ins = [.int .i64 fn,.int .i64 rg,.int .i64 sl,.int .i64 nd,.int .i64 pr,.bool rs,.sl ti (ins.map encV)] from rfl]
 rcases hj with ⟨rfl,hj⟩ | ⟨rfl,rfl⟩
 ·by_cases h1 : ins.length ≤ 80
  ·by_cases h2 : rg ≤ 120
   ·refine ⟨false,call_pure t6 rfl rfl ?_,fun _ => ⟨h1,h2,fun x hx => ?_⟩⟩
    ·simp (config := { maxSteps := 4000000 }) (disch := omega) only [t6,go_sem,TM.undef]
     rw [l1]
     simp (config := { maxSteps := 4000000 }) (disch := omega) only [go_sem,hlen]
    ·obtain ⟨q,hq,rfl⟩ := List.getElem_of_mem hx
     have := hj q (Nat.zero_le _) (by omega)
     simpa only [List.getD,List.getElem?_eq_getElem hq,Option.getD_some] using this
   ·refine ⟨true,call_pure t6 rfl rfl ?_,fun h => by cases h⟩
    simp (config := { maxSteps := 4000000 }) (disch := omega) only [t6,go_sem,TM.undef]
    rw [l1]
    simp (config := { maxSteps := 4000000 }) (disch := omega) only [go_sem,hlen]
  ·refine ⟨true,call_pure t6 rfl rfl ?_,fun h => by cases h⟩
   simp (config := { maxSteps := 4000000 }) (disch := omega) only [t6,go_sem,TM.undef]
   rw [l1]
   simp (config := { maxSteps := 4000000 }) (disch := omega) only [go_sem,hlen]
 ·refine ⟨true,call_pure t6 rfl rfl ?_,fun h => by cases h⟩
  simp (config := { maxSteps := 4000000 }) (disch := omega) only [t6,go_sem,TM.undef]
  rw [l1]
  simp (config := { maxSteps := 4000000 }) (disch := omega) only [go_sem]
theorem bad25 (fn rg sl nd pr : Int) (rs : Bool) (ti : Tag) (ins : List VI) (h : TM.Pure K 35 [.iv (.agg (encG fn rg sl nd pr rs ti ins))] (.iv (.int .i64 2))) : (lim K).call 25 [.iv (.agg (encG fn rg sl nd pr rs ti ins))] [] = .ret (.tup [.iv .nilp,.iv (.int .i64 2)],[]) := by
 unfold encG at *
 refine call_ret' K _ (fn := t25) rfl rfl ?_
 simp (config := { maxSteps := 4000000 }) (disch := omega) only [t25,go_sem,TM.undef,cpR_pure h]
theorem bad13 (fn rg sl nd pr : Int) (rs : Bool) (ti : Tag) (ins : List VI) (h : TM.Pure K 35 [.iv (.agg (encG fn rg sl nd pr rs ti ins))] (.iv (.int .i64 2))) : TM.Pure K 13 [.iv (.agg (encG fn rg sl nd pr rs ti ins))] (.tup [.iv (.sl .nil []),.iv (.int .i64 2)]) := by
 have c25 := bad25 fn rg sl nd pr rs ti ins h
 unfold encG at *
 refine call_pure t13 rfl rfl ?_
 simp (config := { maxSteps := 4000000 }) (disch := omega) only [t13,go_sem,TM.undef,c25]
theorem bad15 (fn rg sl nd pr : Int) (rs : Bool) (ti : Tag) (ins : List VI) (h : TM.Pure K 35 [.iv (.agg (encG fn rg sl nd pr rs ti ins))] (.iv (.int .i64 2))) : TM.Pure K 15 [.iv (.agg (encG fn rg sl nd pr rs ti ins))] (.tup [.iv (.sl .nil []),.iv (.int .i64 2)]) := by
 have c25 := bad25 fn rg sl nd pr rs ti ins h
 unfold encG at *
 refine call_pure t15 rfl rfl ?_
 simp (config := { maxSteps := 4000000 }) (disch := omega) only [t15,go_sem,TM.undef,c25]
theorem ixL {I : Nat → List Nat} {n i : Nat} (h : i < n) (t : Tag) : indexAddrS 1 (.iv (.sl t (rowsL I n))) (i : Int) = some (.iv (.cp [.sl (sTag (oneI (wlI 0 (I i)))) (TM.one (.int .i64) (wlI 0 (I i)))])) := by
 refine ix_ok (by omega) ?_ rfl
 rw [Int.toNat_natCast]
 unfold rowsL
 rw [List.getElem?_map,List.getElem?_range h]
 rfl
theorem wl_bit (W : List Nat) (r : Nat) : decide ((r : Int) ∈ wlI 0 W) = bit W r := by
 cases h : bit W r with
 | true => exact decide_eq_true ((wl_mem W _).2 ⟨r,rfl,h⟩)
 | false =>
  refine decide_eq_false fun hm => ?_
  obtain ⟨k,hk,hb⟩ := (wl_mem W _).1 hm
  have : k = r := by omega
  rw [this,h] at hb; cases hb
theorem wl_short {m : Nat} (hm : m ≤ 100000) {W : List Nat} (h : WOK m W) : (wlI 0 W).length ≤ 10000000 := by
 have := wlI_len 0 W
 rw [h.len] at this; omega
theorem goes_label {rg : Int} {ins : List VI} (h : ins.any (badI rg ins) = false) {i : Nat} (hi : i < ins.length) (hg : goesX (ins.getD i default) = true) : ∃ q : Nat,firstL ins (ins.getD i default).lb = some (q : Int) ∧ q < ins.length := by
 have hx : ins.getD i default ∈ ins := by simp only [List.getD,List.getElem?_eq_getElem hi,Option.getD_some]; exact List.getElem_mem _
 rw [List.any_eq_false] at h
 have hb := h _ hx
 cases hf : firstL ins (ins.getD i default).lb with
 | some k =>
  have := firstL_lt hf
  exact ⟨k.toNat,by rw [Int.toNat_of_nonneg this.1],by omega⟩
 | none =>
  exfalso
  apply hb
  have hc : cntL ins (ins.getD i default).lb = 0 := by
   unfold firstL at hf
   rw [Option.map_eq_none_iff,List.findIdx?_eq_none_iff] at hf
   unfold cntL
   rw [List.filter_eq_nil_iff.2 (fun x hx => by rw [hf x hx]; simp)]
   rfl
  rw [show badI rg ins (ins.getD i default) = (!formedM (ins.getD i default).op (ins.getD i default).im || ((regsOf (ins.getD i default)).any (badR rg) || (goesX (ins.getD i default) && decide (cntL ins (ins.getD i default).lb ≠ 1)))) from rfl,hg,hc]
  simp
structure Eq1 (ins : List VI) (rg : Nat) (I O : Nat → List Nat) (u d : List Int) (i : Nat) : Prop where
 first : ∀ r,r < rg → bit (I i) r = (decide ((r : Int) ∈ u) || (bit (O i) r && !decide ((r : Int) ∈ d)))
 second : ∀ r,r < rg → bit (O i) r = (if (ins.getD i default).op = 68 ∨ (ins.getD i default).op = 72 then false else (if (26 ≤ (ins.getD i default).op ∧ (ins.getD i default).op ≤ 31) ∨ (ins.getD i default).op = 66 then bit (I ((firstL ins (ins.getD i default).lb).getD (-1)).toNat) r else false) || (if (ins.getD i default).op ≠ 66 ∧ i + 1 < ins.length then bit (I (i + 1)) r else false))
 lab : (26 ≤ (ins.getD i default).op ∧ (ins.getD i default).op ≤ 31) ∨ (ins.getD i default).op = 66 → ∃ q : Nat,firstL ins (ins.getD i default).lb = some (q : Int) ∧ q < ins.length
def envG (fn rg sl nd pr : Int) (rs : Bool) (ti : Tag) (ins : List VI) : TV := .lb [.iv (.int .i64 fn),.iv (.int .i64 rg),.iv (.int .i64 sl),.iv (.int .i64 nd),.iv (.int .i64 pr),.iv (.bool rs),.iv (.sl ti (ins.map encV))]
def envV (x : VI) : TV := .lb [.iv (.int .i64 x.op),.iv (.int .i64 x.d),.iv (.int .i64 x.a),.iv (.int .i64 x.b),.iv (.int .i64 x.im),.iv (.int .i64 x.lb),.iv (.sl x.tu (TM.one (.int .i64) x.us)),.iv (.sl x.tm (TM.one (.int .i64) x.mp))]
theorem st5T {fn sl nd pr : Int} {rg : Nat} {rs : Bool} {ti : Tag} {ins : List VI} (hn : ins.length ≤ 1000) (hrg : rg ≤ 100000) {I O : Nat → List Nat} {u d : List Int} {tu td : Tag} (hu : u.length ≤ 1000000) (hd : d.length ≤ 1000000) {m : Nat} (hm : m ≤ 100000) (hok : ∀ q,q < ins.length → WOK m (I q) ∧ WOK m (O q)) {i : Nat} (hi : i < ins.length) (he : Eq1 ins rg I O u d i) (tA tB : Tag) (x0 x2 x4 x6 x15 x16 x17 x18 : TV) (r : Nat) (hr : r < rg) (ihs : ∀ (x12 x13 x14 x19 x20 x21 x22 x23 : TV),∃ (y12 y13 y14 y19 y20 y21 y22 y23 : TV),lp' (lim K) t5L0 [x0,envG fn rg sl nd pr rs ti ins,x2,.iv (.sl tA (rowsL I ins.length)),x4,.iv (.sl tB (rowsL O ins.length)),x6,.iv (.int .i64 i),envV (ins.getD i default),.iv (.sl tu (TM.one (.int .i64) u)),.iv (.sl td (TM.one (.int .i64) d)),.iv (.int .i64 ((r : Int) + 1)),x12,x13,x14,x15,x16,x17,x18,x19,x20,x21,x22,x23] [] = .ret (.exit 2,[x0,envG fn rg sl nd pr rs ti ins,x2,.iv (.sl tA (rowsL I ins.length)),x4,.iv (.sl tB (rowsL O ins.length)),x6,.iv (.int .i64 i),envV (ins.getD i default),.iv (.sl tu (TM.one (.int .i64) u)),.iv (.sl td (TM.one (.int .i64) d)),.iv (.int .i64 (max rg 1 : Nat)),y12,y13,y14,x15,x16,x17,x18,y19,y20,y21,y22,y23],[])) (x12 x13 x14 x19 x20 x21 x22 x23 : TV) (hT : (ins.getD i default).op = 68 ∨ (ins.getD i default).op = 72) : ∃ (y12 y13 y14 y19 y20 y21 y22 y23 : TV),lp' (lim K) t5L0 [x0,envG fn rg sl nd pr rs ti ins,x2,.iv (.sl tA (rowsL I ins.length)),x4,.iv (.sl tB (rowsL O ins.length)),x6,.iv (.int .i64 i),envV (ins.getD i default),.iv (.sl tu (TM.one (.int .i64) u)),.iv (.sl td (TM.one (.int .i64) d)),.iv (.int .i64 r),x12,x13,x14,x15,x16,x17,x18,x19,x20,x21,x22,x23] [] = .ret (.exit 2,[x0,envG fn rg sl nd pr rs ti ins,x2,.iv (.sl tA (rowsL I ins.length)),x4,.iv (.sl tB (rowsL O ins.length)),x6,.iv (.int .i64 i),envV (ins.getD i default),.iv (.sl tu (TM.one (.int .i64) u)),.iv (.sl td (TM.one (.int .i64) d)),.iv (.int .i64 (max rg 1 : Nat)),y12,y13,y14,x15,x16,x17,x18,y19,y20,y21,y22,y23],[]) := by
  have hlen : (ins.map encV).length = ins.length := List.length_map _
  have f1 := he.first r hr
  have f2 := he.second r hr
  have hlab := he.lab
  have ixA := fun q (hq : q < ins.length) => ixL (I := I) hq tA
  have ixB := ixL (I := O) hi tB
  have cI := fun q (hq : q < ins.length) => call19 (sTag (oneI (wlI 0 (I q)))) (wlI 0 (I q)) (r : Int) (Nat.le_trans (wl_short hm (hok q hq).1) (by omega)) []
  have cO := call19 (sTag (oneI (wlI 0 (O i)))) (wlI 0 (O i)) (r : Int) (Nat.le_trans (wl_short hm (hok i hi).2) (by omega)) []
  have cU := call19 tu u (r : Int) (by omega) []
  have cD := call19 td d (r : Int) (by omega) []
  simp only [wl_bit] at cI cO
  have c20 := call20 fn rg sl nd pr rs ti ins (by omega) (ins.getD i default).lb
  unfold encG at c20
  unfold envG envV at *
  generalize ins.getD i default = x at *
  generalize decide ((r : Int) ∈ u) = bU at *
  generalize decide ((r : Int) ∈ d) = bD at *
  have iA := ixA i hi
  have cA := cI i hi
  generalize bit (I i) r = bA at *
  generalize hbO : bit (O i) r = bO at *
  subst f1
  have i1 : ((i : Int) + 1) = ((i + 1 : Nat) : Int) := by omega
  rw [if_pos hT] at f2
  subst f2
  generalize hL : (firstL ins x.lb).getD (-1) = kL at *
  rcases hT with hT | hT
  ·cases bU with
   | true =>
    cases bD with
    | true =>
     obtain ⟨y12,y13,y14,y19,y20,y21,y22,y23,ih⟩ := ihs (.iv (.bool false)) (.iv (.bool false)) (.iv (.int .i64 kL)) (.iv (.bool true)) (.iv (.bool false)) (.iv (.bool false)) (.iv (.bool false)) (.iv (.bool false))
     refine ⟨y12,y13,y14,y19,y20,y21,y22,y23,loop_at K _ _ t5L0.eq_1 ?_⟩
     simp (config := { maxSteps := 4000000 }) (disch := omega) only [go_sem,iA,ixB,cA,cO,cU,cD,cpR_pure c20,hlen,wrap_i64]
     exact congrArg er ih
    | false =>
     obtain ⟨y12,y13,y14,y19,y20,y21,y22,y23,ih⟩ := ihs (.iv (.bool false)) (.iv (.bool false)) (.iv (.int .i64 kL)) (.iv (.bool true)) (.iv (.bool false)) (.iv (.bool false)) (.iv (.bool false)) (.iv (.bool false))
     refine ⟨y12,y13,y14,y19,y20,y21,y22,y23,loop_at K _ _ t5L0.eq_1 ?_⟩
     simp (config := { maxSteps := 4000000 }) (disch := omega) only [go_sem,iA,ixB,cA,cO,cU,cD,cpR_pure c20,hlen,wrap_i64]
     exact congrArg er ih
   | false =>
    cases bD with
    | true =>
     obtain ⟨y12,y13,y14,y19,y20,y21,y22,y23,ih⟩ := ihs (.iv (.bool false)) (.iv (.bool false)) (.iv (.int .i64 kL)) (.iv (.bool true)) (.iv (.bool false)) (.iv (.bool false)) (.iv (.bool false)) (.iv (.bool false))
     refine ⟨y12,y13,y14,y19,y20,y21,y22,y23,loop_at K _ _ t5L0.eq_1 ?_⟩
     simp (config := { maxSteps := 4000000 }) (disch := omega) only [go_sem,iA,ixB,cA,cO,cU,cD,cpR_pure c20,hlen,wrap_i64]
     exact congrArg er ih
    | false =>
     obtain ⟨y12,y13,y14,y19,y20,y21,y22,y23,ih⟩ := ihs (.iv (.bool false)) (.iv (.bool false)) (.iv (.int .i64 kL)) (.iv (.bool true)) (.iv (.bool false)) (.iv (.bool false)) (.iv (.bool false)) (.iv (.bool false))
     refine ⟨y12,y13,y14,y19,y20,y21,y22,y23,loop_at K _ _ t5L0.eq_1 ?_⟩
     simp (config := { maxSteps := 4000000 }) (disch := omega) only [go_sem,iA,ixB,cA,cO,cU,cD,cpR_pure c20,hlen,wrap_i64]
     exact congrArg er ih
  ·cases bU with
   | true =>
    cases bD with
    | true =>
     obtain ⟨y12,y13,y14,y19,y20,y21,y22,y23,ih⟩ := ihs (.iv (.bool false)) (.iv (.bool false)) (.iv (.int .i64 kL)) (.iv (.bool true)) (.iv (.bool false)) (.iv (.bool false)) (.iv (.bool false)) (.iv (.bool false))
     refine ⟨y12,y13,y14,y19,y20,y21,y22,y23,loop_at K _ _ t5L0.eq_1 ?_⟩
     simp (config := { maxSteps := 4000000 }) (disch := omega) only [go_sem,iA,ixB,cA,cO,cU,cD,cpR_pure c20,hlen,wrap_i64]
     exact congrArg er ih
    | false =>
     obtain ⟨y12,y13,y14,y19,y20,y21,y22,y23,ih⟩ := ihs (.iv (.bool false)) (.iv (.bool false)) (.iv (.int .i64 kL)) (.iv (.bool true)) (.iv (.bool false)) (.iv (.bool false)) (.iv (.bool false)) (.iv (.bool false))
     refine ⟨y12,y13,y14,y19,y20,y21,y22,y23,loop_at K _ _ t5L0.eq_1 ?_⟩
     simp (config := { maxSteps := 4000000 }) (disch := omega) only [go_sem,iA,ixB,cA,cO,cU,cD,cpR_pure c20,hlen,wrap_i64]
     exact congrArg er ih
   | false =>
    cases bD with
    | true =>
     obtain ⟨y12,y13,y14,y19,y20,y21,y22,y23,ih⟩ := ihs (.iv (.bool false)) (.iv (.bool false)) (.iv (.int .i64 kL)) (.iv (.bool true)) (.iv (.bool false)) (.iv (.bool false)) (.iv (.bool false)) (.iv (.bool false))
     refine ⟨y12,y13,y14,y19,y20,y21,y22,y23,loop_at K _ _ t5L0.eq_1 ?_⟩
     simp (config := { maxSteps := 4000000 }) (disch := omega) only [go_sem,iA,ixB,cA,cO,cU,cD,cpR_pure c20,hlen,wrap_i64]
     exact congrArg er ih
    | false =>
     obtain ⟨y12,y13,y14,y19,y20,y21,y22,y23,ih⟩ := ihs (.iv (.bool false)) (.iv (.bool false)) (.iv (.int .i64 kL)) (.iv (.bool true)) (.iv (.bool false)) (.iv (.bool false)) (.iv (.bool false)) (.iv (.bool false))
     refine ⟨y12,y13,y14,y19,y20,y21,y22,y23,loop_at K _ _ t5L0.eq_1 ?_⟩
     simp (config := { maxSteps := 4000000 }) (disch := omega) only [go_sem,iA,ixB,cA,cO,cU,cD,cpR_pure c20,hlen,wrap_i64]
     exact congrArg er ih
theorem st5J {fn sl nd pr : Int} {rg : Nat} {rs : Bool} {ti : Tag} {ins : List VI} (hn : ins.length ≤ 1000) (hrg : rg ≤ 100000) {I O : Nat → List Nat} {u d : List Int} {tu td : Tag} (hu : u.length ≤ 1000000) (hd : d.length ≤ 1000000) {m : Nat} (hm : m ≤ 100000) (hok : ∀ q,q < ins.length → WOK m (I q) ∧ WOK m (O q)) {i : Nat} (hi : i < ins.length) (he : Eq1 ins rg I O u d i) (tA tB : Tag) (x0 x2 x4 x6 x15 x16 x17 x18 : TV) (r : Nat) (hr : r < rg) (ihs : ∀ (x12 x13 x14 x19 x20 x21 x22 x23 : TV),∃ (y12 y13 y14 y19 y20 y21 y22 y23 : TV),lp' (lim K) t5L0 [x0,envG fn rg sl nd pr rs ti ins,x2,.iv (.sl tA (rowsL I ins.length)),x4,.iv (.sl tB (rowsL O ins.length)),x6,.iv (.int .i64 i),envV (ins.getD i default),.iv (.sl tu (TM.one (.int .i64) u)),.iv (.sl td (TM.one (.int .i64) d)),.iv (.int .i64 ((r : Int) + 1)),x12,x13,x14,x15,x16,x17,x18,x19,x20,x21,x22,x23] [] = .ret (.exit 2,[x0,envG fn rg sl nd pr rs ti ins,x2,.iv (.sl tA (rowsL I ins.length)),x4,.iv (.sl tB (rowsL O ins.length)),x6,.iv (.int .i64 i),envV (ins.getD i default),.iv (.sl tu (TM.one (.int .i64) u)),.iv (.sl td (TM.one (.int .i64) d)),.iv (.int .i64 (max rg 1 : Nat)),y12,y13,y14,x15,x16,x17,x18,y19,y20,y21,y22,y23],[])) (x12 x13 x14 x19 x20 x21 x22 x23 : TV) (hT : ¬ ((ins.getD i default).op = 68 ∨ (ins.getD i default).op = 72)) (hJ : (ins.getD i default).op = 66) : ∃ (y12 y13 y14 y19 y20 y21 y22 y23 : TV),lp' (lim K) t5L0 [x0,envG fn rg sl nd pr rs ti ins,x2,.iv (.sl tA (rowsL I ins.length)),x4,.iv (.sl tB (rowsL O ins.length)),x6,.iv (.int .i64 i),envV (ins.getD i default),.iv (.sl tu (TM.one (.int .i64) u)),.iv (.sl td (TM.one (.int .i64) d)),.iv (.int .i64 r),x12,x13,x14,x15,x16,x17,x18,x19,x20,x21,x22,x23] [] = .ret (.exit 2,[x0,envG fn rg sl nd pr rs ti ins,x2,.iv (.sl tA (rowsL I ins.length)),x4,.iv (.sl tB (rowsL O ins.length)),x6,.iv (.int .i64 i),envV (ins.getD i default),.iv (.sl tu (TM.one (.int .i64) u)),.iv (.sl td (TM.one (.int .i64) d)),.iv (.int .i64 (max rg 1 : Nat)),y12,y13,y14,x15,x16,x17,x18,y19,y20,y21,y22,y23],[]) := by
  have hlen : (ins.map encV).length = ins.length := List.length_map _
  have f1 := he.first r hr
  have f2 := he.second r hr
  have hlab := he.lab
  have ixA := fun q (hq : q < ins.length) => ixL (I := I) hq tA
  have ixB := ixL (I := O) hi tB
  have cI := fun q (hq : q < ins.length) => call19 (sTag (oneI (wlI 0 (I q)))) (wlI 0 (I q)) (r : Int) (Nat.le_trans (wl_short hm (hok q hq).1) (by omega)) []
  have cO := call19 (sTag (oneI (wlI 0 (O i)))) (wlI 0 (O i)) (r : Int) (Nat.le_trans (wl_short hm (hok i hi).2) (by omega)) []
  have cU := call19 tu u (r : Int) (by omega) []
  have cD := call19 td d (r : Int) (by omega) []
  simp only [wl_bit] at cI cO
  have c20 := call20 fn rg sl nd pr rs ti ins (by omega) (ins.getD i default).lb
  unfold encG at c20
  unfold envG envV at *
  generalize ins.getD i default = x at *
  generalize decide ((r : Int) ∈ u) = bU at *
  generalize decide ((r : Int) ∈ d) = bD at *
  have iA := ixA i hi
  have cA := cI i hi
  generalize bit (I i) r = bA at *
  generalize hbO : bit (O i) r = bO at *
  subst f1
  have i1 : ((i : Int) + 1) = ((i + 1 : Nat) : Int) := by omega
  rw [if_neg hT] at f2
  obtain ⟨q,hq,hqn⟩ := hlab (.inr hJ)
  rw [if_pos (.inr hJ),if_neg (fun h => h.1 hJ),Bool.or_false,hq,Option.getD_some,Int.toNat_natCast] at f2
  rw [hq,Option.getD_some] at c20
  have iQ := ixA q hqn
  have cQ := cI q hqn
  rw [← f2] at cQ
  cases bU with
  | true =>
   cases bD with
   | true =>
    cases bO with
    | true =>
     obtain ⟨y12,y13,y14,y19,y20,y21,y22,y23,ih⟩ := ihs (.iv (.bool true)) (.iv (.bool true)) (.iv (.int .i64 q)) (.iv (.bool true)) (.iv (.bool false)) (.iv (.bool true)) (.iv (.bool false)) (.iv (.bool false))
     refine ⟨y12,y13,y14,y19,y20,y21,y22,y23,loop_at K _ _ t5L0.eq_1 ?_⟩
     simp (config := { maxSteps := 4000000 }) (disch := omega) only [go_sem,iA,ixB,cA,cO,cU,cD,cpR_pure c20,hlen,wrap_i64,iQ,cQ]
     exact congrArg er ih
    | false =>
     obtain ⟨y12,y13,y14,y19,y20,y21,y22,y23,ih⟩ := ihs (.iv (.bool false)) (.iv (.bool true)) (.iv (.int .i64 q)) (.iv (.bool true)) (.iv (.bool false)) (.iv (.bool true)) (.iv (.bool false)) (.iv (.bool false))
     refine ⟨y12,y13,y14,y19,y20,y21,y22,y23,loop_at K _ _ t5L0.eq_1 ?_⟩
     simp (config := { maxSteps := 4000000 }) (disch := omega) only [go_sem,iA,ixB,cA,cO,cU,cD,cpR_pure c20,hlen,wrap_i64,iQ,cQ]
     exact congrArg er ih
   | false =>
    cases bO with
    | true =>
     obtain ⟨y12,y13,y14,y19,y20,y21,y22,y23,ih⟩ := ihs (.iv (.bool true)) (.iv (.bool true)) (.iv (.int .i64 q)) (.iv (.bool true)) (.iv (.bool false)) (.iv (.bool true)) (.iv (.bool false)) (.iv (.bool false))
     refine ⟨y12,y13,y14,y19,y20,y21,y22,y23,loop_at K _ _ t5L0.eq_1 ?_⟩
     simp (config := { maxSteps := 4000000 }) (disch := omega) only [go_sem,iA,ixB,cA,cO,cU,cD,cpR_pure c20,hlen,wrap_i64,iQ,cQ]
     exact congrArg er ih
    | false =>
     obtain ⟨y12,y13,y14,y19,y20,y21,y22,y23,ih⟩ := ihs (.iv (.bool false)) (.iv (.bool true)) (.iv (.int .i64 q)) (.iv (.bool true)) (.iv (.bool false)) (.iv (.bool true)) (.iv (.bool false)) (.iv (.bool false))
     refine ⟨y12,y13,y14,y19,y20,y21,y22,y23,loop_at K _ _ t5L0.eq_1 ?_⟩
     simp (config := { maxSteps := 4000000 }) (disch := omega) only [go_sem,iA,ixB,cA,cO,cU,cD,cpR_pure c20,hlen,wrap_i64,iQ,cQ]
     exact congrArg er ih
  | false =>
   cases bD with
   | true =>
    cases bO with
    | true =>
     obtain ⟨y12,y13,y14,y19,y20,y21,y22,y23,ih⟩ := ihs (.iv (.bool true)) (.iv (.bool true)) (.iv (.int .i64 q)) (.iv (.bool true)) (.iv (.bool false)) (.iv (.bool true)) (.iv (.bool false)) (.iv (.bool false))
     refine ⟨y12,y13,y14,y19,y20,y21,y22,y23,loop_at K _ _ t5L0.eq_1 ?_⟩
     simp (config := { maxSteps := 4000000 }) (disch := omega) only [go_sem,iA,ixB,cA,cO,cU,cD,cpR_pure c20,hlen,wrap_i64,iQ,cQ]
     exact congrArg er ih
    | false =>
     obtain ⟨y12,y13,y14,y19,y20,y21,y22,y23,ih⟩ := ihs (.iv (.bool false)) (.iv (.bool true)) (.iv (.int .i64 q)) (.iv (.bool true)) (.iv (.bool false)) (.iv (.bool true)) (.iv (.bool false)) (.iv (.bool false))
     refine ⟨y12,y13,y14,y19,y20,y21,y22,y23,loop_at K _ _ t5L0.eq_1 ?_⟩
     simp (config := { maxSteps := 4000000 }) (disch := omega) only [go_sem,iA,ixB,cA,cO,cU,cD,cpR_pure c20,hlen,wrap_i64,iQ,cQ]
     exact congrArg er ih
   | false =>
    cases bO with
    | true =>
     obtain ⟨y12,y13,y14,y19,y20,y21,y22,y23,ih⟩ := ihs (.iv (.bool true)) (.iv (.bool true)) (.iv (.int .i64 q)) (.iv (.bool true)) (.iv (.bool false)) (.iv (.bool true)) (.iv (.bool false)) (.iv (.bool false))
     refine ⟨y12,y13,y14,y19,y20,y21,y22,y23,loop_at K _ _ t5L0.eq_1 ?_⟩
     simp (config := { maxSteps := 4000000 }) (disch := omega) only [go_sem,iA,ixB,cA,cO,cU,cD,cpR_pure c20,hlen,wrap_i64,iQ,cQ]
     exact congrArg er ih
    | false =>
     obtain ⟨y12,y13,y14,y19,y20,y21,y22,y23,ih⟩ := ihs (.iv (.bool false)) (.iv (.bool true)) (.iv (.int .i64 q)) (.iv (.bool true)) (.iv (.bool false)) (.iv (.bool true)) (.iv (.bool false)) (.iv (.bool false))
     refine ⟨y12,y13,y14,y19,y20,y21,y22,y23,loop_at K _ _ t5L0.eq_1 ?_⟩
     simp (config := { maxSteps := 4000000 }) (disch := omega) only [go_sem,iA,ixB,cA,cO,cU,cD,cpR_pure c20,hlen,wrap_i64,iQ,cQ]
     exact congrArg er ih
theorem st5BN {fn sl nd pr : Int} {rg : Nat} {rs : Bool} {ti : Tag} {ins : List VI} (hn : ins.length ≤ 1000) (hrg : rg ≤ 100000) {I O : Nat → List Nat} {u d : List Int} {tu td : Tag} (hu : u.length ≤ 1000000) (hd : d.length ≤ 1000000) {m : Nat} (hm : m ≤ 100000) (hok : ∀ q,q < ins.length → WOK m (I q) ∧ WOK m (O q)) {i : Nat} (hi : i < ins.length) (he : Eq1 ins rg I O u d i) (tA tB : Tag) (x0 x2 x4 x6 x15 x16 x17 x18 : TV) (r : Nat) (hr : r < rg) (ihs : ∀ (x12 x13 x14 x19 x20 x21 x22 x23 : TV),∃ (y12 y13 y14 y19 y20 y21 y22 y23 : TV),lp' (lim K) t5L0 [x0,envG fn rg sl nd pr rs ti ins,x2,.iv (.sl tA (rowsL I ins.length)),x4,.iv (.sl tB (rowsL O ins.length)),x6,.iv (.int .i64 i),envV (ins.getD i default),.iv (.sl tu (TM.one (.int .i64) u)),.iv (.sl td (TM.one (.int .i64) d)),.iv (.int .i64 ((r : Int) + 1)),x12,x13,x14,x15,x16,x17,x18,x19,x20,x21,x22,x23] [] = .ret (.exit 2,[x0,envG fn rg sl nd pr rs ti ins,x2,.iv (.sl tA (rowsL I ins.length)),x4,.iv (.sl tB (rowsL O ins.length)),x6,.iv (.int .i64 i),envV (ins.getD i default),.iv (.sl tu (TM.one (.int .i64) u)),.iv (.sl td (TM.one (.int .i64) d)),.iv (.int .i64 (max rg 1 : Nat)),y12,y13,y14,x15,x16,x17,x18,y19,y20,y21,y22,y23],[])) (x12 x13 x14 x19 x20 x21 x22 x23 : TV) (hT : ¬ ((ins.getD i default).op = 68 ∨ (ins.getD i default).op = 72)) (hJ : ¬ (ins.getD i default).op = 66) (hB : 26 ≤ (ins.getD i default).op ∧ (ins.getD i default).op ≤ 31) (hN : i + 1 < ins.length) : ∃ (y12 y13 y14 y19 y20 y21 y22 y23 : TV),lp' (lim K) t5L0 [x0,envG fn rg sl nd pr rs ti ins,x2,.iv (.sl tA (rowsL I ins.length)),x4,.iv (.sl tB (rowsL O ins.length)),x6,.iv (.int .i64 i),envV (ins.getD i default),.iv (.sl tu (TM.one (.int .i64) u)),.iv (.sl td (TM.one (.int .i64) d)),.iv (.int .i64 r),x12,x13,x14,x15,x16,x17,x18,x19,x20,x21,x22,x23] [] = .ret (.exit 2,[x0,envG fn rg sl nd pr rs ti ins,x2,.iv (.sl tA (rowsL I ins.length)),x4,.iv (.sl tB (rowsL O ins.length)),x6,.iv (.int .i64 i),envV (ins.getD i default),.iv (.sl tu (TM.one (.int .i64) u)),.iv (.sl td (TM.one (.int .i64) d)),.iv (.int .i64 (max rg 1 : Nat)),y12,y13,y14,x15,x16,x17,x18,y19,y20,y21,y22,y23],[]) := by
  have hlen : (ins.map encV).length = ins.length := List.length_map _
  have f1 := he.first r hr
  have f2 := he.second r hr
  have hlab := he.lab
  have ixA := fun q (hq : q < ins.length) => ixL (I := I) hq tA
  have ixB := ixL (I := O) hi tB
  have cI := fun q (hq : q < ins.length) => call19 (sTag (oneI (wlI 0 (I q)))) (wlI 0 (I q)) (r : Int) (Nat.le_trans (wl_short hm (hok q hq).1) (by omega)) []
  have cO := call19 (sTag (oneI (wlI 0 (O i)))) (wlI 0 (O i)) (r : Int) (Nat.le_trans (wl_short hm (hok i hi).2) (by omega)) []
  have cU := call19 tu u (r : Int) (by omega) []
  have cD := call19 td d (r : Int) (by omega) []
  simp only [wl_bit] at cI cO
  have c20 := call20 fn rg sl nd pr rs ti ins (by omega) (ins.getD i default).lb
  unfold encG at c20
  unfold envG envV at *
  generalize ins.getD i default = x at *
  generalize decide ((r : Int) ∈ u) = bU at *
  generalize decide ((r : Int) ∈ d) = bD at *
  have iA := ixA i hi
  have cA := cI i hi
  generalize bit (I i) r = bA at *
  generalize hbO : bit (O i) r = bO at *
  subst f1
  have i1 : ((i : Int) + 1) = ((i + 1 : Nat) : Int) := by omega
  rw [if_neg hT] at f2
  obtain ⟨q,hq,hqn⟩ := hlab (.inl hB)
  rw [hq,Option.getD_some] at c20
  rw [if_pos (.inl hB),hq,Option.getD_some,Int.toNat_natCast] at f2
  have iQ := ixA q hqn
  have cQ := cI q hqn
  generalize bit (I q) r = bQ at *
  rw [if_pos ⟨hJ,hN⟩] at f2
  have iN := ixA (i + 1) hN
  have cN := cI (i + 1) hN
  rw [← i1] at iN
  generalize bit (I (i + 1)) r = bN at *
  subst f2
  cases bU with
  | true =>
   cases bD with
   | true =>
    cases bQ with
    | true =>
     cases bN with
     | true =>
      obtain ⟨y12,y13,y14,y19,y20,y21,y22,y23,ih⟩ := ihs (.iv (.bool true)) (.iv (.bool true)) (.iv (.int .i64 q)) (.iv (.bool true)) (.iv (.bool false)) (.iv (.bool true)) (.iv (.bool true)) (.iv (.bool false))
      refine ⟨y12,y13,y14,y19,y20,y21,y22,y23,loop_at K _ _ t5L0.eq_1 ?_⟩
      simp (config := { maxSteps := 4000000 }) (disch := omega) only [go_sem,iA,ixB,cA,cO,cU,cD,cpR_pure c20,hlen,wrap_i64,iQ,cQ,iN,cN]
      exact congrArg er ih
     | false =>
      obtain ⟨y12,y13,y14,y19,y20,y21,y22,y23,ih⟩ := ihs (.iv (.bool true)) (.iv (.bool true)) (.iv (.int .i64 q)) (.iv (.bool true)) (.iv (.bool false)) (.iv (.bool true)) (.iv (.bool true)) (.iv (.bool false))
      refine ⟨y12,y13,y14,y19,y20,y21,y22,y23,loop_at K _ _ t5L0.eq_1 ?_⟩
      simp (config := { maxSteps := 4000000 }) (disch := omega) only [go_sem,iA,ixB,cA,cO,cU,cD,cpR_pure c20,hlen,wrap_i64,iQ,cQ,iN,cN]
      exact congrArg er ih
    | false =>
     cases bN with
     | true =>
      obtain ⟨y12,y13,y14,y19,y20,y21,y22,y23,ih⟩ := ihs (.iv (.bool true)) (.iv (.bool true)) (.iv (.int .i64 q)) (.iv (.bool true)) (.iv (.bool false)) (.iv (.bool true)) (.iv (.bool true)) (.iv (.bool false))
      refine ⟨y12,y13,y14,y19,y20,y21,y22,y23,loop_at K _ _ t5L0.eq_1 ?_⟩
      simp (config := { maxSteps := 4000000 }) (disch := omega) only [go_sem,iA,ixB,cA,cO,cU,cD,cpR_pure c20,hlen,wrap_i64,iQ,cQ,iN,cN]
      exact congrArg er ih
     | false =>
      obtain ⟨y12,y13,y14,y19,y20,y21,y22,y23,ih⟩ := ihs (.iv (.bool false)) (.iv (.bool true)) (.iv (.int .i64 q)) (.iv (.bool true)) (.iv (.bool false)) (.iv (.bool true)) (.iv (.bool true)) (.iv (.bool false))
      refine ⟨y12,y13,y14,y19,y20,y21,y22,y23,loop_at K _ _ t5L0.eq_1 ?_⟩
      simp (config := { maxSteps := 4000000 }) (disch := omega) only [go_sem,iA,ixB,cA,cO,cU,cD,cpR_pure c20,hlen,wrap_i64,iQ,cQ,iN,cN]
      exact congrArg er ih
   | false =>
    cases bQ with
    | true =>
     cases bN with
     | true =>
      obtain ⟨y12,y13,y14,y19,y20,y21,y22,y23,ih⟩ := ihs (.iv (.bool true)) (.iv (.bool true)) (.iv (.int .i64 q)) (.iv (.bool true)) (.iv (.bool false)) (.iv (.bool true)) (.iv (.bool true)) (.iv (.bool false))
      refine ⟨y12,y13,y14,y19,y20,y21,y22,y23,loop_at K _ _ t5L0.eq_1 ?_⟩
      simp (config := { maxSteps := 4000000 }) (disch := omega) only [go_sem,iA,ixB,cA,cO,cU,cD,cpR_pure c20,hlen,wrap_i64,iQ,cQ,iN,cN]
      exact congrArg er ih
     | false =>
      obtain ⟨y12,y13,y14,y19,y20,y21,y22,y23,ih⟩ := ihs (.iv (.bool true)) (.iv (.bool true)) (.iv (.int .i64 q)) (.iv (.bool true)) (.iv (.bool false)) (.iv (.bool true)) (.iv (.bool true)) (.iv (.bool false))
      refine ⟨y12,y13,y14,y19,y20,y21,y22,y23,loop_at K _ _ t5L0.eq_1 ?_⟩
      simp (config := { maxSteps := 4000000 }) (disch := omega) only [go_sem,iA,ixB,cA,cO,cU,cD,cpR_pure c20,hlen,wrap_i64,iQ,cQ,iN,cN]
      exact congrArg er ih
    | false =>
     cases bN with
     | true =>
      obtain ⟨y12,y13,y14,y19,y20,y21,y22,y23,ih⟩ := ihs (.iv (.bool true)) (.iv (.bool true)) (.iv (.int .i64 q)) (.iv (.bool true)) (.iv (.bool false)) (.iv (.bool true)) (.iv (.bool true)) (.iv (.bool false))
      refine ⟨y12,y13,y14,y19,y20,y21,y22,y23,loop_at K _ _ t5L0.eq_1 ?_⟩
      simp (config := { maxSteps := 4000000 }) (disch := omega) only [go_sem,iA,ixB,cA,cO,cU,cD,cpR_pure c20,hlen,wrap_i64,iQ,cQ,iN,cN]
      exact congrArg er ih
     | false =>
      obtain ⟨y12,y13,y14,y19,y20,y21,y22,y23,ih⟩ := ihs (.iv (.bool false)) (.iv (.bool true)) (.iv (.int .i64 q)) (.iv (.bool true)) (.iv (.bool false)) (.iv (.bool true)) (.iv (.bool true)) (.iv (.bool false))
      refine ⟨y12,y13,y14,y19,y20,y21,y22,y23,loop_at K _ _ t5L0.eq_1 ?_⟩
      simp (config := { maxSteps := 4000000 }) (disch := omega) only [go_sem,iA,ixB,cA,cO,cU,cD,cpR_pure c20,hlen,wrap_i64,iQ,cQ,iN,cN]
      exact congrArg er ih
  | false =>
   cases bD with
   | true =>
    cases bQ with
    | true =>
     cases bN with
     | true =>
      obtain ⟨y12,y13,y14,y19,y20,y21,y22,y23,ih⟩ := ihs (.iv (.bool true)) (.iv (.bool true)) (.iv (.int .i64 q)) (.iv (.bool true)) (.iv (.bool false)) (.iv (.bool true)) (.iv (.bool true)) (.iv (.bool false))
      refine ⟨y12,y13,y14,y19,y20,y21,y22,y23,loop_at K _ _ t5L0.eq_1 ?_⟩
      simp (config := { maxSteps := 4000000 }) (disch := omega) only [go_sem,iA,ixB,cA,cO,cU,cD,cpR_pure c20,hlen,wrap_i64,iQ,cQ,iN,cN]
      exact congrArg er ih
     | false =>
      obtain ⟨y12,y13,y14,y19,y20,y21,y22,y23,ih⟩ := ihs (.iv (.bool true)) (.iv (.bool true)) (.iv (.int .i64 q)) (.iv (.bool true)) (.iv (.bool false)) (.iv (.bool true)) (.iv (.bool true)) (.iv (.bool false))
      refine ⟨y12,y13,y14,y19,y20,y21,y22,y23,loop_at K _ _ t5L0.eq_1 ?_⟩
      simp (config := { maxSteps := 4000000 }) (disch := omega) only [go_sem,iA,ixB,cA,cO,cU,cD,cpR_pure c20,hlen,wrap_i64,iQ,cQ,iN,cN]
      exact congrArg er ih
    | false =>
     cases bN with
     | true =>
      obtain ⟨y12,y13,y14,y19,y20,y21,y22,y23,ih⟩ := ihs (.iv (.bool true)) (.iv (.bool true)) (.iv (.int .i64 q)) (.iv (.bool true)) (.iv (.bool false)) (.iv (.bool true)) (.iv (.bool true)) (.iv (.bool false))
      refine ⟨y12,y13,y14,y19,y20,y21,y22,y23,loop_at K _ _ t5L0.eq_1 ?_⟩
      simp (config := { maxSteps := 4000000 }) (disch := omega) only [go_sem,iA,ixB,cA,cO,cU,cD,cpR_pure c20,hlen,wrap_i64,iQ,cQ,iN,cN]
      exact congrArg er ih
     | false =>
      obtain ⟨y12,y13,y14,y19,y20,y21,y22,y23,ih⟩ := ihs (.iv (.bool false)) (.iv (.bool true)) (.iv (.int .i64 q)) (.iv (.bool true)) (.iv (.bool false)) (.iv (.bool true)) (.iv (.bool true)) (.iv (.bool false))
      refine ⟨y12,y13,y14,y19,y20,y21,y22,y23,loop_at K _ _ t5L0.eq_1 ?_⟩
      simp (config := { maxSteps := 4000000 }) (disch := omega) only [go_sem,iA,ixB,cA,cO,cU,cD,cpR_pure c20,hlen,wrap_i64,iQ,cQ,iN,cN]
      exact congrArg er ih
   | false =>
    cases bQ with
    | true =>
     cases bN with
     | true =>
      obtain ⟨y12,y13,y14,y19,y20,y21,y22,y23,ih⟩ := ihs (.iv (.bool true)) (.iv (.bool true)) (.iv (.int .i64 q)) (.iv (.bool true)) (.iv (.bool false)) (.iv (.bool true)) (.iv (.bool true)) (.iv (.bool false))
      refine ⟨y12,y13,y14,y19,y20,y21,y22,y23,loop_at K _ _ t5L0.eq_1 ?_⟩
      simp (config := { maxSteps := 4000000 }) (disch := omega) only [go_sem,iA,ixB,cA,cO,cU,cD,cpR_pure c20,hlen,wrap_i64,iQ,cQ,iN,cN]
      exact congrArg er ih
     | false =>
      obtain ⟨y12,y13,y14,y19,y20,y21,y22,y23,ih⟩ := ihs (.iv (.bool true)) (.iv (.bool true)) (.iv (.int .i64 q)) (.iv (.bool true)) (.iv (.bool false)) (.iv (.bool true)) (.iv (.bool true)) (.iv (.bool false))
      refine ⟨y12,y13,y14,y19,y20,y21,y22,y23,loop_at K _ _ t5L0.eq_1 ?_⟩
      simp (config := { maxSteps := 4000000 }) (disch := omega) only [go_sem,iA,ixB,cA,cO,cU,cD,cpR_pure c20,hlen,wrap_i64,iQ,cQ,iN,cN]
      exact congrArg er ih
    | false =>
     cases bN with
     | true =>
      obtain ⟨y12,y13,y14,y19,y20,y21,y22,y23,ih⟩ := ihs (.iv (.bool true)) (.iv (.bool true)) (.iv (.int .i64 q)) (.iv (.bool true)) (.iv (.bool false)) (.iv (.bool true)) (.iv (.bool true)) (.iv (.bool false))
      refine ⟨y12,y13,y14,y19,y20,y21,y22,y23,loop_at K _ _ t5L0.eq_1 ?_⟩
      simp (config := { maxSteps := 4000000 }) (disch := omega) only [go_sem,iA,ixB,cA,cO,cU,cD,cpR_pure c20,hlen,wrap_i64,iQ,cQ,iN,cN]
      exact congrArg er ih
     | false =>
      obtain ⟨y12,y13,y14,y19,y20,y21,y22,y23,ih⟩ := ihs (.iv (.bool false)) (.iv (.bool true)) (.iv (.int .i64 q)) (.iv (.bool true)) (.iv (.bool false)) (.iv (.bool true)) (.iv (.bool true)) (.iv (.bool false))
      refine ⟨y12,y13,y14,y19,y20,y21,y22,y23,loop_at K _ _ t5L0.eq_1 ?_⟩
      simp (config := { maxSteps := 4000000 }) (disch := omega) only [go_sem,iA,ixB,cA,cO,cU,cD,cpR_pure c20,hlen,wrap_i64,iQ,cQ,iN,cN]
      exact congrArg er ih
theorem st5Bn {fn sl nd pr : Int} {rg : Nat} {rs : Bool} {ti : Tag} {ins : List VI} (hn : ins.length ≤ 1000) (hrg : rg ≤ 100000) {I O : Nat → List Nat} {u d : List Int} {tu td : Tag} (hu : u.length ≤ 1000000) (hd : d.length ≤ 1000000) {m : Nat} (hm : m ≤ 100000) (hok : ∀ q,q < ins.length → WOK m (I q) ∧ WOK m (O q)) {i : Nat} (hi : i < ins.length) (he : Eq1 ins rg I O u d i) (tA tB : Tag) (x0 x2 x4 x6 x15 x16 x17 x18 : TV) (r : Nat) (hr : r < rg) (ihs : ∀ (x12 x13 x14 x19 x20 x21 x22 x23 : TV),∃ (y12 y13 y14 y19 y20 y21 y22 y23 : TV),lp' (lim K) t5L0 [x0,envG fn rg sl nd pr rs ti ins,x2,.iv (.sl tA (rowsL I ins.length)),x4,.iv (.sl tB (rowsL O ins.length)),x6,.iv (.int .i64 i),envV (ins.getD i default),.iv (.sl tu (TM.one (.int .i64) u)),.iv (.sl td (TM.one (.int .i64) d)),.iv (.int .i64 ((r : Int) + 1)),x12,x13,x14,x15,x16,x17,x18,x19,x20,x21,x22,x23] [] = .ret (.exit 2,[x0,envG fn rg sl nd pr rs ti ins,x2,.iv (.sl tA (rowsL I ins.length)),x4,.iv (.sl tB (rowsL O ins.length)),x6,.iv (.int .i64 i),envV (ins.getD i default),.iv (.sl tu (TM.one (.int .i64) u)),.iv (.sl td (TM.one (.int .i64) d)),.iv (.int .i64 (max rg 1 : Nat)),y12,y13,y14,x15,x16,x17,x18,y19,y20,y21,y22,y23],[])) (x12 x13 x14 x19 x20 x21 x22 x23 : TV) (hT : ¬ ((ins.getD i default).op = 68 ∨ (ins.getD i default).op = 72)) (hJ : ¬ (ins.getD i default).op = 66) (hB : 26 ≤ (ins.getD i default).op ∧ (ins.getD i default).op ≤ 31) (hN : ¬ i + 1 < ins.length) : ∃ (y12 y13 y14 y19 y20 y21 y22 y23 : TV),lp' (lim K) t5L0 [x0,envG fn rg sl nd pr rs ti ins,x2,.iv (.sl tA (rowsL I ins.length)),x4,.iv (.sl tB (rowsL O ins.length)),x6,.iv (.int .i64 i),envV (ins.getD i default),.iv (.sl tu (TM.one (.int .i64) u)),.iv (.sl td (TM.one (.int .i64) d)),.iv (.int .i64 r),x12,x13,x14,x15,x16,x17,x18,x19,x20,x21,x22,x23] [] = .ret (.exit 2,[x0,envG fn rg sl nd pr rs ti ins,x2,.iv (.sl tA (rowsL I ins.length)),x4,.iv (.sl tB (rowsL O ins.length)),x6,.iv (.int .i64 i),envV (ins.getD i default),.iv (.sl tu (TM.one (.int .i64) u)),.iv (.sl td (TM.one (.int .i64) d)),.iv (.int .i64 (max rg 1 : Nat)),y12,y13,y14,x15,x16,x17,x18,y19,y20,y21,y22,y23],[]) := by
  have hlen : (ins.map encV).length = ins.length := List.length_map _
  have f1 := he.first r hr
  have f2 := he.second r hr
  have hlab := he.lab
  have ixA := fun q (hq : q < ins.length) => ixL (I := I) hq tA
  have ixB := ixL (I := O) hi tB
  have cI := fun q (hq : q < ins.length) => call19 (sTag (oneI (wlI 0 (I q)))) (wlI 0 (I q)) (r : Int) (Nat.le_trans (wl_short hm (hok q hq).1) (by omega)) []
  have cO := call19 (sTag (oneI (wlI 0 (O i)))) (wlI 0 (O i)) (r : Int) (Nat.le_trans (wl_short hm (hok i hi).2) (by omega)) []
  have cU := call19 tu u (r : Int) (by omega) []
  have cD := call19 td d (r : Int) (by omega) []
  simp only [wl_bit] at cI cO
  have c20 := call20 fn rg sl nd pr rs ti ins (by omega) (ins.getD i default).lb
  unfold encG at c20
  unfold envG envV at *
  generalize ins.getD i default = x at *
  generalize decide ((r : Int) ∈ u) = bU at *
  generalize decide ((r : Int) ∈ d) = bD at *
  have iA := ixA i hi
  have cA := cI i hi
  generalize bit (I i) r = bA at *
  generalize hbO : bit (O i) r = bO at *
  subst f1
  have i1 : ((i : Int) + 1) = ((i + 1 : Nat) : Int) := by omega
  rw [if_neg hT] at f2
  obtain ⟨q,hq,hqn⟩ := hlab (.inl hB)
  rw [hq,Option.getD_some] at c20
  rw [if_pos (.inl hB),hq,Option.getD_some,Int.toNat_natCast] at f2
  have iQ := ixA q hqn
  have cQ := cI q hqn
  generalize bit (I q) r = bQ at *
  rw [if_neg (fun h => hN h.2),Bool.or_false] at f2
  subst f2
  cases bU with
  | true =>
   cases bD with
   | true =>
    cases bO with
    | true =>
     obtain ⟨y12,y13,y14,y19,y20,y21,y22,y23,ih⟩ := ihs (.iv (.bool true)) (.iv (.bool true)) (.iv (.int .i64 q)) (.iv (.bool true)) (.iv (.bool false)) (.iv (.bool true)) (.iv (.bool false)) (.iv (.bool false))
     refine ⟨y12,y13,y14,y19,y20,y21,y22,y23,loop_at K _ _ t5L0.eq_1 ?_⟩
     simp (config := { maxSteps := 4000000 }) (disch := omega) only [go_sem,iA,ixB,cA,cO,cU,cD,cpR_pure c20,hlen,wrap_i64,iQ,cQ]
     exact congrArg er ih
    | false =>
     obtain ⟨y12,y13,y14,y19,y20,y21,y22,y23,ih⟩ := ihs (.iv (.bool false)) (.iv (.bool true)) (.iv (.int .i64 q)) (.iv (.bool true)) (.iv (.bool false)) (.iv (.bool true)) (.iv (.bool false)) (.iv (.bool false))
     refine ⟨y12,y13,y14,y19,y20,y21,y22,y23,loop_at K _ _ t5L0.eq_1 ?_⟩
     simp (config := { maxSteps := 4000000 }) (disch := omega) only [go_sem,iA,ixB,cA,cO,cU,cD,cpR_pure c20,hlen,wrap_i64,iQ,cQ]
     exact congrArg er ih
   | false =>
    cases bO with
    | true =>
     obtain ⟨y12,y13,y14,y19,y20,y21,y22,y23,ih⟩ := ihs (.iv (.bool true)) (.iv (.bool true)) (.iv (.int .i64 q)) (.iv (.bool true)) (.iv (.bool false)) (.iv (.bool true)) (.iv (.bool false)) (.iv (.bool false))
     refine ⟨y12,y13,y14,y19,y20,y21,y22,y23,loop_at K _ _ t5L0.eq_1 ?_⟩
     simp (config := { maxSteps := 4000000 }) (disch := omega) only [go_sem,iA,ixB,cA,cO,cU,cD,cpR_pure c20,hlen,wrap_i64,iQ,cQ]
     exact congrArg er ih
    | false =>
     obtain ⟨y12,y13,y14,y19,y20,y21,y22,y23,ih⟩ := ihs (.iv (.bool false)) (.iv (.bool true)) (.iv (.int .i64 q)) (.iv (.bool true)) (.iv (.bool false)) (.iv (.bool true)) (.iv (.bool false)) (.iv (.bool false))
     refine ⟨y12,y13,y14,y19,y20,y21,y22,y23,loop_at K _ _ t5L0.eq_1 ?_⟩
     simp (config := { maxSteps := 4000000 }) (disch := omega) only [go_sem,iA,ixB,cA,cO,cU,cD,cpR_pure c20,hlen,wrap_i64,iQ,cQ]
     exact congrArg er ih
  | false =>
   cases bD with
   | true =>
    cases bO with
    | true =>
     obtain ⟨y12,y13,y14,y19,y20,y21,y22,y23,ih⟩ := ihs (.iv (.bool true)) (.iv (.bool true)) (.iv (.int .i64 q)) (.iv (.bool true)) (.iv (.bool false)) (.iv (.bool true)) (.iv (.bool false)) (.iv (.bool false))
     refine ⟨y12,y13,y14,y19,y20,y21,y22,y23,loop_at K _ _ t5L0.eq_1 ?_⟩
     simp (config := { maxSteps := 4000000 }) (disch := omega) only [go_sem,iA,ixB,cA,cO,cU,cD,cpR_pure c20,hlen,wrap_i64,iQ,cQ]
     exact congrArg er ih
    | false =>
     obtain ⟨y12,y13,y14,y19,y20,y21,y22,y23,ih⟩ := ihs (.iv (.bool false)) (.iv (.bool true)) (.iv (.int .i64 q)) (.iv (.bool true)) (.iv (.bool false)) (.iv (.bool true)) (.iv (.bool false)) (.iv (.bool false))
     refine ⟨y12,y13,y14,y19,y20,y21,y22,y23,loop_at K _ _ t5L0.eq_1 ?_⟩
     simp (config := { maxSteps := 4000000 }) (disch := omega) only [go_sem,iA,ixB,cA,cO,cU,cD,cpR_pure c20,hlen,wrap_i64,iQ,cQ]
     exact congrArg er ih
   | false =>
    cases bO with
    | true =>
     obtain ⟨y12,y13,y14,y19,y20,y21,y22,y23,ih⟩ := ihs (.iv (.bool true)) (.iv (.bool true)) (.iv (.int .i64 q)) (.iv (.bool true)) (.iv (.bool false)) (.iv (.bool true)) (.iv (.bool false)) (.iv (.bool false))
     refine ⟨y12,y13,y14,y19,y20,y21,y22,y23,loop_at K _ _ t5L0.eq_1 ?_⟩
     simp (config := { maxSteps := 4000000 }) (disch := omega) only [go_sem,iA,ixB,cA,cO,cU,cD,cpR_pure c20,hlen,wrap_i64,iQ,cQ]
     exact congrArg er ih
    | false =>
     obtain ⟨y12,y13,y14,y19,y20,y21,y22,y23,ih⟩ := ihs (.iv (.bool false)) (.iv (.bool true)) (.iv (.int .i64 q)) (.iv (.bool true)) (.iv (.bool false)) (.iv (.bool true)) (.iv (.bool false)) (.iv (.bool false))
     refine ⟨y12,y13,y14,y19,y20,y21,y22,y23,loop_at K _ _ t5L0.eq_1 ?_⟩
     simp (config := { maxSteps := 4000000 }) (disch := omega) only [go_sem,iA,ixB,cA,cO,cU,cD,cpR_pure c20,hlen,wrap_i64,iQ,cQ]
     exact congrArg er ih
theorem st5Rn {fn sl nd pr : Int} {rg : Nat} {rs : Bool} {ti : Tag} {ins : List VI} (hn : ins.length ≤ 1000) (hrg : rg ≤ 100000) {I O : Nat → List Nat} {u d : List Int} {tu td : Tag} (hu : u.length ≤ 1000000) (hd : d.length ≤ 1000000) {m : Nat} (hm : m ≤ 100000) (hok : ∀ q,q < ins.length → WOK m (I q) ∧ WOK m (O q)) {i : Nat} (hi : i < ins.length) (he : Eq1 ins rg I O u d i) (tA tB : Tag) (x0 x2 x4 x6 x15 x16 x17 x18 : TV) (r : Nat) (hr : r < rg) (ihs : ∀ (x12 x13 x14 x19 x20 x21 x22 x23 : TV),∃ (y12 y13 y14 y19 y20 y21 y22 y23 : TV),lp' (lim K) t5L0 [x0,envG fn rg sl nd pr rs ti ins,x2,.iv (.sl tA (rowsL I ins.length)),x4,.iv (.sl tB (rowsL O ins.length)),x6,.iv (.int .i64 i),envV (ins.getD i default),.iv (.sl tu (TM.one (.int .i64) u)),.iv (.sl td (TM.one (.int .i64) d)),.iv (.int .i64 ((r : Int) + 1)),x12,x13,x14,x15,x16,x17,x18,x19,x20,x21,x22,x23] [] = .ret (.exit 2,[x0,envG fn rg sl nd pr rs ti ins,x2,.iv (.sl tA (rowsL I ins.length)),x4,.iv (.sl tB (rowsL O ins.length)),x6,.iv (.int .i64 i),envV (ins.getD i default),.iv (.sl tu (TM.one (.int .i64) u)),.iv (.sl td (TM.one (.int .i64) d)),.iv (.int .i64 (max rg 1 : Nat)),y12,y13,y14,x15,x16,x17,x18,y19,y20,y21,y22,y23],[])) (x12 x13 x14 x19 x20 x21 x22 x23 : TV) (hT : ¬ ((ins.getD i default).op = 68 ∨ (ins.getD i default).op = 72)) (hJ : ¬ (ins.getD i default).op = 66) (hB : ¬ (26 ≤ (ins.getD i default).op ∧ (ins.getD i default).op ≤ 31)) (hN : ¬ i + 1 < ins.length) : ∃ (y12 y13 y14 y19 y20 y21 y22 y23 : TV),lp' (lim K) t5L0 [x0,envG fn rg sl nd pr rs ti ins,x2,.iv (.sl tA (rowsL I ins.length)),x4,.iv (.sl tB (rowsL O ins.length)),x6,.iv (.int .i64 i),envV (ins.getD i default),.iv (.sl tu (TM.one (.int .i64) u)),.iv (.sl td (TM.one (.int .i64) d)),.iv (.int .i64 r),x12,x13,x14,x15,x16,x17,x18,x19,x20,x21,x22,x23] [] = .ret (.exit 2,[x0,envG fn rg sl nd pr rs ti ins,x2,.iv (.sl tA (rowsL I ins.length)),x4,.iv (.sl tB (rowsL O ins.length)),x6,.iv (.int .i64 i),envV (ins.getD i default),.iv (.sl tu (TM.one (.int .i64) u)),.iv (.sl td (TM.one (.int .i64) d)),.iv (.int .i64 (max rg 1 : Nat)),y12,y13,y14,x15,x16,x17,x18,y19,y20,y21,y22,y23],[]) := by
  have hlen : (ins.map encV).length = ins.length := List.length_map _
  have f1 := he.first r hr
  have f2 := he.second r hr
  have hlab := he.lab
  have ixA := fun q (hq : q < ins.length) => ixL (I := I) hq tA
  have ixB := ixL (I := O) hi tB
  have cI := fun q (hq : q < ins.length) => call19 (sTag (oneI (wlI 0 (I q)))) (wlI 0 (I q)) (r : Int) (Nat.le_trans (wl_short hm (hok q hq).1) (by omega)) []
  have cO := call19 (sTag (oneI (wlI 0 (O i)))) (wlI 0 (O i)) (r : Int) (Nat.le_trans (wl_short hm (hok i hi).2) (by omega)) []
  have cU := call19 tu u (r : Int) (by omega) []
  have cD := call19 td d (r : Int) (by omega) []
  simp only [wl_bit] at cI cO
  have c20 := call20 fn rg sl nd pr rs ti ins (by omega) (ins.getD i default).lb
  unfold encG at c20
  unfold envG envV at *
  generalize ins.getD i default = x at *
  generalize decide ((r : Int) ∈ u) = bU at *
  generalize decide ((r : Int) ∈ d) = bD at *
  have iA := ixA i hi
  have cA := cI i hi
  generalize bit (I i) r = bA at *
  generalize hbO : bit (O i) r = bO at *
  subst f1
  have i1 : ((i : Int) + 1) = ((i + 1 : Nat) : Int) := by omega
  rw [if_neg hT] at f2
  rw [if_neg (fun h => h.elim hB hJ),Bool.false_or] at f2
  generalize hL : (firstL ins x.lb).getD (-1) = kL at *
  rw [if_neg (fun h => hN h.2)] at f2
  subst f2
  rcases (by omega : x.op < 26 ∨ 31 < x.op) with hC | hC
  ·cases bU with
   | true =>
    cases bD with
    | true =>
     obtain ⟨y12,y13,y14,y19,y20,y21,y22,y23,ih⟩ := ihs (.iv (.bool false)) (.iv (.bool false)) (.iv (.int .i64 kL)) (.iv (.bool true)) (.iv (.bool false)) (.iv (.bool false)) (.iv (.bool false)) (.iv (.bool false))
     refine ⟨y12,y13,y14,y19,y20,y21,y22,y23,loop_at K _ _ t5L0.eq_1 ?_⟩
     simp (config := { maxSteps := 4000000 }) (disch := omega) only [go_sem,iA,ixB,cA,cO,cU,cD,cpR_pure c20,hlen,wrap_i64]
     exact congrArg er ih
    | false =>
     obtain ⟨y12,y13,y14,y19,y20,y21,y22,y23,ih⟩ := ihs (.iv (.bool false)) (.iv (.bool false)) (.iv (.int .i64 kL)) (.iv (.bool true)) (.iv (.bool false)) (.iv (.bool false)) (.iv (.bool false)) (.iv (.bool false))
     refine ⟨y12,y13,y14,y19,y20,y21,y22,y23,loop_at K _ _ t5L0.eq_1 ?_⟩
     simp (config := { maxSteps := 4000000 }) (disch := omega) only [go_sem,iA,ixB,cA,cO,cU,cD,cpR_pure c20,hlen,wrap_i64]
     exact congrArg er ih
   | false =>
    cases bD with
    | true =>
     obtain ⟨y12,y13,y14,y19,y20,y21,y22,y23,ih⟩ := ihs (.iv (.bool false)) (.iv (.bool false)) (.iv (.int .i64 kL)) (.iv (.bool true)) (.iv (.bool false)) (.iv (.bool false)) (.iv (.bool false)) (.iv (.bool false))
     refine ⟨y12,y13,y14,y19,y20,y21,y22,y23,loop_at K _ _ t5L0.eq_1 ?_⟩
     simp (config := { maxSteps := 4000000 }) (disch := omega) only [go_sem,iA,ixB,cA,cO,cU,cD,cpR_pure c20,hlen,wrap_i64]
     exact congrArg er ih
    | false =>
     obtain ⟨y12,y13,y14,y19,y20,y21,y22,y23,ih⟩ := ihs (.iv (.bool false)) (.iv (.bool false)) (.iv (.int .i64 kL)) (.iv (.bool true)) (.iv (.bool false)) (.iv (.bool false)) (.iv (.bool false)) (.iv (.bool false))
     refine ⟨y12,y13,y14,y19,y20,y21,y22,y23,loop_at K _ _ t5L0.eq_1 ?_⟩
     simp (config := { maxSteps := 4000000 }) (disch := omega) only [go_sem,iA,ixB,cA,cO,cU,cD,cpR_pure c20,hlen,wrap_i64]
     exact congrArg er ih
  ·cases bU with
   | true =>
    cases bD with
    | true =>
     obtain ⟨y12,y13,y14,y19,y20,y21,y22,y23,ih⟩ := ihs (.iv (.bool false)) (.iv (.bool false)) (.iv (.int .i64 kL)) (.iv (.bool true)) (.iv (.bool false)) (.iv (.bool false)) (.iv (.bool false)) (.iv (.bool false))
     refine ⟨y12,y13,y14,y19,y20,y21,y22,y23,loop_at K _ _ t5L0.eq_1 ?_⟩
     simp (config := { maxSteps := 4000000 }) (disch := omega) only [go_sem,iA,ixB,cA,cO,cU,cD,cpR_pure c20,hlen,wrap_i64]
     exact congrArg er ih
    | false =>
     obtain ⟨y12,y13,y14,y19,y20,y21,y22,y23,ih⟩ := ihs (.iv (.bool false)) (.iv (.bool false)) (.iv (.int .i64 kL)) (.iv (.bool true)) (.iv (.bool false)) (.iv (.bool false)) (.iv (.bool false)) (.iv (.bool false))
     refine ⟨y12,y13,y14,y19,y20,y21,y22,y23,loop_at K _ _ t5L0.eq_1 ?_⟩
     simp (config := { maxSteps := 4000000 }) (disch := omega) only [go_sem,iA,ixB,cA,cO,cU,cD,cpR_pure c20,hlen,wrap_i64]
     exact congrArg er ih
   | false =>
    cases bD with
    | true =>
     obtain ⟨y12,y13,y14,y19,y20,y21,y22,y23,ih⟩ := ihs (.iv (.bool false)) (.iv (.bool false)) (.iv (.int .i64 kL)) (.iv (.bool true)) (.iv (.bool false)) (.iv (.bool false)) (.iv (.bool false)) (.iv (.bool false))
     refine ⟨y12,y13,y14,y19,y20,y21,y22,y23,loop_at K _ _ t5L0.eq_1 ?_⟩
     simp (config := { maxSteps := 4000000 }) (disch := omega) only [go_sem,iA,ixB,cA,cO,cU,cD,cpR_pure c20,hlen,wrap_i64]
     exact congrArg er ih
    | false =>
     obtain ⟨y12,y13,y14,y19,y20,y21,y22,y23,ih⟩ := ihs (.iv (.bool false)) (.iv (.bool false)) (.iv (.int .i64 kL)) (.iv (.bool true)) (.iv (.bool false)) (.iv (.bool false)) (.iv (.bool false)) (.iv (.bool false))
     refine ⟨y12,y13,y14,y19,y20,y21,y22,y23,loop_at K _ _ t5L0.eq_1 ?_⟩
     simp (config := { maxSteps := 4000000 }) (disch := omega) only [go_sem,iA,ixB,cA,cO,cU,cD,cpR_pure c20,hlen,wrap_i64]
     exact congrArg er ih
theorem st5RN {fn sl nd pr : Int} {rg : Nat} {rs : Bool} {ti : Tag} {ins : List VI} (hn : ins.length ≤ 1000) (hrg : rg ≤ 100000) {I O : Nat → List Nat} {u d : List Int} {tu td : Tag} (hu : u.length ≤ 1000000) (hd : d.length ≤ 1000000) {m : Nat} (hm : m ≤ 100000) (hok : ∀ q,q < ins.length → WOK m (I q) ∧ WOK m (O q)) {i : Nat} (hi : i < ins.length) (he : Eq1 ins rg I O u d i) (tA tB : Tag) (x0 x2 x4 x6 x15 x16 x17 x18 : TV) (r : Nat) (hr : r < rg) (ihs : ∀ (x12 x13 x14 x19 x20 x21 x22 x23 : TV),∃ (y12 y13 y14 y19 y20 y21 y22 y23 : TV),lp' (lim K) t5L0 [x0,envG fn rg sl nd pr rs ti ins,x2,.iv (.sl tA (rowsL I ins.length)),x4,.iv (.sl tB (rowsL O ins.length)),x6,.iv (.int .i64 i),envV (ins.getD i default),.iv (.sl tu (TM.one (.int .i64) u)),.iv (.sl td (TM.one (.int .i64) d)),.iv (.int .i64 ((r : Int) + 1)),x12,x13,x14,x15,x16,x17,x18,x19,x20,x21,x22,x23] [] = .ret (.exit 2,[x0,envG fn rg sl nd pr rs ti ins,x2,.iv (.sl tA (rowsL I ins.length)),x4,.iv (.sl tB (rowsL O ins.length)),x6,.iv (.int .i64 i),envV (ins.getD i default),.iv (.sl tu (TM.one (.int .i64) u)),.iv (.sl td (TM.one (.int .i64) d)),.iv (.int .i64 (max rg 1 : Nat)),y12,y13,y14,x15,x16,x17,x18,y19,y20,y21,y22,y23],[])) (x12 x13 x14 x19 x20 x21 x22 x23 : TV) (hT : ¬ ((ins.getD i default).op = 68 ∨ (ins.getD i default).op = 72)) (hJ : ¬ (ins.getD i default).op = 66) (hB : ¬ (26 ≤ (ins.getD i default).op ∧ (ins.getD i default).op ≤ 31)) (hN : i + 1 < ins.length) : ∃ (y12 y13 y14 y19 y20 y21 y22 y23 : TV),lp' (lim K) t5L0 [x0,envG fn rg sl nd pr rs ti ins,x2,.iv (.sl tA (rowsL I ins.length)),x4,.iv (.sl tB (rowsL O ins.length)),x6,.iv (.int .i64 i),envV (ins.getD i default),.iv (.sl tu (TM.one (.int .i64) u)),.iv (.sl td (TM.one (.int .i64) d)),.iv (.int .i64 r),x12,x13,x14,x15,x16,x17,x18,x19,x20,x21,x22,x23] [] = .ret (.exit 2,[x0,envG fn rg sl nd pr rs ti ins,x2,.iv (.sl tA (rowsL I ins.length)),x4,.iv (.sl tB (rowsL O ins.length)),x6,.iv (.int .i64 i),envV (ins.getD i default),.iv (.sl tu (TM.one (.int .i64) u)),.iv (.sl td (TM.one (.int .i64) d)),.iv (.int .i64 (max rg 1 : Nat)),y12,y13,y14,x15,x16,x17,x18,y19,y20,y21,y22,y23],[]) := by
  have hlen : (ins.map encV).length = ins.length := List.length_map _
  have f1 := he.first r hr
  have f2 := he.second r hr
  have hlab := he.lab
  have ixA := fun q (hq : q < ins.length) => ixL (I := I) hq tA
  have ixB := ixL (I := O) hi tB
  have cI := fun q (hq : q < ins.length) => call19 (sTag (oneI (wlI 0 (I q)))) (wlI 0 (I q)) (r : Int) (Nat.le_trans (wl_short hm (hok q hq).1) (by omega)) []
  have cO := call19 (sTag (oneI (wlI 0 (O i)))) (wlI 0 (O i)) (r : Int) (Nat.le_trans (wl_short hm (hok i hi).2) (by omega)) []
  have cU := call19 tu u (r : Int) (by omega) []
  have cD := call19 td d (r : Int) (by omega) []
  simp only [wl_bit] at cI cO
  have c20 := call20 fn rg sl nd pr rs ti ins (by omega) (ins.getD i default).lb
  unfold encG at c20
  unfold envG envV at *
  generalize ins.getD i default = x at *
  generalize decide ((r : Int) ∈ u) = bU at *
  generalize decide ((r : Int) ∈ d) = bD at *
  have iA := ixA i hi
  have cA := cI i hi
  generalize bit (I i) r = bA at *
  generalize hbO : bit (O i) r = bO at *
  subst f1
  have i1 : ((i : Int) + 1) = ((i + 1 : Nat) : Int) := by omega
  rw [if_neg hT] at f2
  rw [if_neg (fun h => h.elim hB hJ),Bool.false_or] at f2
  generalize hL : (firstL ins x.lb).getD (-1) = kL at *
  rw [if_pos ⟨hJ,hN⟩] at f2
  have iN := ixA (i + 1) hN
  have cN := cI (i + 1) hN
  rw [← i1] at iN
  generalize bit (I (i + 1)) r = bN at *
  subst f2
  rcases (by omega : x.op < 26 ∨ 31 < x.op) with hC | hC
  ·cases bU with
   | true =>
    cases bD with
    | true =>
     cases bO with
     | true =>
      obtain ⟨y12,y13,y14,y19,y20,y21,y22,y23,ih⟩ := ihs (.iv (.bool true)) (.iv (.bool false)) (.iv (.int .i64 kL)) (.iv (.bool true)) (.iv (.bool false)) (.iv (.bool false)) (.iv (.bool true)) (.iv (.bool false))
      refine ⟨y12,y13,y14,y19,y20,y21,y22,y23,loop_at K _ _ t5L0.eq_1 ?_⟩
      simp (config := { maxSteps := 4000000 }) (disch := omega) only [go_sem,iA,ixB,cA,cO,cU,cD,cpR_pure c20,hlen,wrap_i64,iN,cN]
      exact congrArg er ih
     | false =>
      obtain ⟨y12,y13,y14,y19,y20,y21,y22,y23,ih⟩ := ihs (.iv (.bool false)) (.iv (.bool false)) (.iv (.int .i64 kL)) (.iv (.bool true)) (.iv (.bool false)) (.iv (.bool false)) (.iv (.bool true)) (.iv (.bool false))
      refine ⟨y12,y13,y14,y19,y20,y21,y22,y23,loop_at K _ _ t5L0.eq_1 ?_⟩
      simp (config := { maxSteps := 4000000 }) (disch := omega) only [go_sem,iA,ixB,cA,cO,cU,cD,cpR_pure c20,hlen,wrap_i64,iN,cN]
      exact congrArg er ih
    | false =>
     cases bO with
     | true =>
      obtain ⟨y12,y13,y14,y19,y20,y21,y22,y23,ih⟩ := ihs (.iv (.bool true)) (.iv (.bool false)) (.iv (.int .i64 kL)) (.iv (.bool true)) (.iv (.bool false)) (.iv (.bool false)) (.iv (.bool true)) (.iv (.bool false))
      refine ⟨y12,y13,y14,y19,y20,y21,y22,y23,loop_at K _ _ t5L0.eq_1 ?_⟩
      simp (config := { maxSteps := 4000000 }) (disch := omega) only [go_sem,iA,ixB,cA,cO,cU,cD,cpR_pure c20,hlen,wrap_i64,iN,cN]
      exact congrArg er ih
     | false =>
      obtain ⟨y12,y13,y14,y19,y20,y21,y22,y23,ih⟩ := ihs (.iv (.bool false)) (.iv (.bool false)) (.iv (.int .i64 kL)) (.iv (.bool true)) (.iv (.bool false)) (.iv (.bool false)) (.iv (.bool true)) (.iv (.bool false))
      refine ⟨y12,y13,y14,y19,y20,y21,y22,y23,loop_at K _ _ t5L0.eq_1 ?_⟩
      simp (config := { maxSteps := 4000000 }) (disch := omega) only [go_sem,iA,ixB,cA,cO,cU,cD,cpR_pure c20,hlen,wrap_i64,iN,cN]
      exact congrArg er ih
   | false =>
    cases bD with
    | true =>
     cases bO with
     | true =>
      obtain ⟨y12,y13,y14,y19,y20,y21,y22,y23,ih⟩ := ihs (.iv (.bool true)) (.iv (.bool false)) (.iv (.int .i64 kL)) (.iv (.bool true)) (.iv (.bool false)) (.iv (.bool false)) (.iv (.bool true)) (.iv (.bool false))
      refine ⟨y12,y13,y14,y19,y20,y21,y22,y23,loop_at K _ _ t5L0.eq_1 ?_⟩
      simp (config := { maxSteps := 4000000 }) (disch := omega) only [go_sem,iA,ixB,cA,cO,cU,cD,cpR_pure c20,hlen,wrap_i64,iN,cN]
      exact congrArg er ih
     | false =>
      obtain ⟨y12,y13,y14,y19,y20,y21,y22,y23,ih⟩ := ihs (.iv (.bool false)) (.iv (.bool false)) (.iv (.int .i64 kL)) (.iv (.bool true)) (.iv (.bool false)) (.iv (.bool false)) (.iv (.bool true)) (.iv (.bool false))
      refine ⟨y12,y13,y14,y19,y20,y21,y22,y23,loop_at K _ _ t5L0.eq_1 ?_⟩
      simp (config := { maxSteps := 4000000 }) (disch := omega) only [go_sem,iA,ixB,cA,cO,cU,cD,cpR_pure c20,hlen,wrap_i64,iN,cN]
      exact congrArg er ih
    | false =>
     cases bO with
     | true =>
      obtain ⟨y12,y13,y14,y19,y20,y21,y22,y23,ih⟩ := ihs (.iv (.bool true)) (.iv (.bool false)) (.iv (.int .i64 kL)) (.iv (.bool true)) (.iv (.bool false)) (.iv (.bool false)) (.iv (.bool true)) (.iv (.bool false))
      refine ⟨y12,y13,y14,y19,y20,y21,y22,y23,loop_at K _ _ t5L0.eq_1 ?_⟩
      simp (config := { maxSteps := 4000000 }) (disch := omega) only [go_sem,iA,ixB,cA,cO,cU,cD,cpR_pure c20,hlen,wrap_i64,iN,cN]
      exact congrArg er ih
     | false =>
      obtain ⟨y12,y13,y14,y19,y20,y21,y22,y23,ih⟩ := ihs (.iv (.bool false)) (.iv (.bool false)) (.iv (.int .i64 kL)) (.iv (.bool true)) (.iv (.bool false)) (.iv (.bool false)) (.iv (.bool true)) (.iv (.bool false))
      refine ⟨y12,y13,y14,y19,y20,y21,y22,y23,loop_at K _ _ t5L0.eq_1 ?_⟩
      simp (config := { maxSteps := 4000000 }) (disch := omega) only [go_sem,iA,ixB,cA,cO,cU,cD,cpR_pure c20,hlen,wrap_i64,iN,cN]
      exact congrArg er ih
  ·cases bU with
   | true =>
    cases bD with
    | true =>
     cases bO with
     | true =>
      obtain ⟨y12,y13,y14,y19,y20,y21,y22,y23,ih⟩ := ihs (.iv (.bool true)) (.iv (.bool false)) (.iv (.int .i64 kL)) (.iv (.bool true)) (.iv (.bool false)) (.iv (.bool false)) (.iv (.bool true)) (.iv (.bool false))
      refine ⟨y12,y13,y14,y19,y20,y21,y22,y23,loop_at K _ _ t5L0.eq_1 ?_⟩
      simp (config := { maxSteps := 4000000 }) (disch := omega) only [go_sem,iA,ixB,cA,cO,cU,cD,cpR_pure c20,hlen,wrap_i64,iN,cN]
      exact congrArg er ih
     | false =>
      obtain ⟨y12,y13,y14,y19,y20,y21,y22,y23,ih⟩ := ihs (.iv (.bool false)) (.iv (.bool false)) (.iv (.int .i64 kL)) (.iv (.bool true)) (.iv (.bool false)) (.iv (.bool false)) (.iv (.bool true)) (.iv (.bool false))
      refine ⟨y12,y13,y14,y19,y20,y21,y22,y23,loop_at K _ _ t5L0.eq_1 ?_⟩
      simp (config := { maxSteps := 4000000 }) (disch := omega) only [go_sem,iA,ixB,cA,cO,cU,cD,cpR_pure c20,hlen,wrap_i64,iN,cN]
      exact congrArg er ih
    | false =>
     cases bO with
     | true =>
      obtain ⟨y12,y13,y14,y19,y20,y21,y22,y23,ih⟩ := ihs (.iv (.bool true)) (.iv (.bool false)) (.iv (.int .i64 kL)) (.iv (.bool true)) (.iv (.bool false)) (.iv (.bool false)) (.iv (.bool true)) (.iv (.bool false))
      refine ⟨y12,y13,y14,y19,y20,y21,y22,y23,loop_at K _ _ t5L0.eq_1 ?_⟩
      simp (config := { maxSteps := 4000000 }) (disch := omega) only [go_sem,iA,ixB,cA,cO,cU,cD,cpR_pure c20,hlen,wrap_i64,iN,cN]
      exact congrArg er ih
     | false =>
      obtain ⟨y12,y13,y14,y19,y20,y21,y22,y23,ih⟩ := ihs (.iv (.bool false)) (.iv (.bool false)) (.iv (.int .i64 kL)) (.iv (.bool true)) (.iv (.bool false)) (.iv (.bool false)) (.iv (.bool true)) (.iv (.bool false))
      refine ⟨y12,y13,y14,y19,y20,y21,y22,y23,loop_at K _ _ t5L0.eq_1 ?_⟩
      simp (config := { maxSteps := 4000000 }) (disch := omega) only [go_sem,iA,ixB,cA,cO,cU,cD,cpR_pure c20,hlen,wrap_i64,iN,cN]
      exact congrArg er ih
   | false =>
    cases bD with
    | true =>
     cases bO with
     | true =>
      obtain ⟨y12,y13,y14,y19,y20,y21,y22,y23,ih⟩ := ihs (.iv (.bool true)) (.iv (.bool false)) (.iv (.int .i64 kL)) (.iv (.bool true)) (.iv (.bool false)) (.iv (.bool false)) (.iv (.bool true)) (.iv (.bool false))
      refine ⟨y12,y13,y14,y19,y20,y21,y22,y23,loop_at K _ _ t5L0.eq_1 ?_⟩
      simp (config := { maxSteps := 4000000 }) (disch := omega) only [go_sem,iA,ixB,cA,cO,cU,cD,cpR_pure c20,hlen,wrap_i64,iN,cN]
      exact congrArg er ih
     | false =>
      obtain ⟨y12,y13,y14,y19,y20,y21,y22,y23,ih⟩ := ihs (.iv (.bool false)) (.iv (.bool false)) (.iv (.int .i64 kL)) (.iv (.bool true)) (.iv (.bool false)) (.iv (.bool false)) (.iv (.bool true)) (.iv (.bool false))
      refine ⟨y12,y13,y14,y19,y20,y21,y22,y23,loop_at K _ _ t5L0.eq_1 ?_⟩
      simp (config := { maxSteps := 4000000 }) (disch := omega) only [go_sem,iA,ixB,cA,cO,cU,cD,cpR_pure c20,hlen,wrap_i64,iN,cN]
      exact congrArg er ih
    | false =>
     cases bO with
     | true =>
      obtain ⟨y12,y13,y14,y19,y20,y21,y22,y23,ih⟩ := ihs (.iv (.bool true)) (.iv (.bool false)) (.iv (.int .i64 kL)) (.iv (.bool true)) (.iv (.bool false)) (.iv (.bool false)) (.iv (.bool true)) (.iv (.bool false))
      refine ⟨y12,y13,y14,y19,y20,y21,y22,y23,loop_at K _ _ t5L0.eq_1 ?_⟩
      simp (config := { maxSteps := 4000000 }) (disch := omega) only [go_sem,iA,ixB,cA,cO,cU,cD,cpR_pure c20,hlen,wrap_i64,iN,cN]
      exact congrArg er ih
     | false =>
      obtain ⟨y12,y13,y14,y19,y20,y21,y22,y23,ih⟩ := ihs (.iv (.bool false)) (.iv (.bool false)) (.iv (.int .i64 kL)) (.iv (.bool true)) (.iv (.bool false)) (.iv (.bool false)) (.iv (.bool true)) (.iv (.bool false))
      refine ⟨y12,y13,y14,y19,y20,y21,y22,y23,loop_at K _ _ t5L0.eq_1 ?_⟩
      simp (config := { maxSteps := 4000000 }) (disch := omega) only [go_sem,iA,ixB,cA,cO,cU,cD,cpR_pure c20,hlen,wrap_i64,iN,cN]
      exact congrArg er ih
theorem loop5a {fn sl nd pr : Int} {rg : Nat} {rs : Bool} {ti : Tag} {ins : List VI} (hn : ins.length ≤ 1000) (hrg : rg ≤ 100000) {I O : Nat → List Nat} {u d : List Int} {tu td : Tag} (hu : u.length ≤ 1000000) (hd : d.length ≤ 1000000) {m : Nat} (hm : m ≤ 100000) (hok : ∀ q,q < ins.length → WOK m (I q) ∧ WOK m (O q)) {i : Nat} (hi : i < ins.length) (he : Eq1 ins rg I O u d i) (tA tB : Tag) (x0 x2 x4 x6 x15 x16 x17 x18 : TV) : ∀ (k r : Nat) (x12 x13 x14 x19 x20 x21 x22 x23 : TV),r + k = max rg 1 → 1 ≤ r →
  ∃ (y12 y13 y14 y19 y20 y21 y22 y23 : TV),lp' (lim K) t5L0 [x0,envG fn rg sl nd pr rs ti ins,x2,.iv (.sl tA (rowsL I ins.length)),x4,.iv (.sl tB (rowsL O ins.length)),x6,.iv (.int .i64 i),envV (ins.getD i default),.iv (.sl tu (TM.one (.int .i64) u)),.iv (.sl td (TM.one (.int .i64) d)),.iv (.int .i64 r),x12,x13,x14,x15,x16,x17,x18,x19,x20,x21,x22,x23] []
   = .ret (.exit 2,[x0,envG fn rg sl nd pr rs ti ins,x2,.iv (.sl tA (rowsL I ins.length)),x4,.iv (.sl tB (rowsL O ins.length)),x6,.iv (.int .i64 i),envV (ins.getD i default),.iv (.sl tu (TM.one (.int .i64) u)),.iv (.sl td (TM.one (.int .i64) d)),.iv (.int .i64 (max rg 1 : Nat)),y12,y13,y14,x15,x16,x17,x18,y19,y20,y21,y22,y23],[])
 | 0,r,x12,x13,x14,x19,x20,x21,x22,x23,h,h1 => by
  obtain rfl : r = max rg 1 := by omega
  refine ⟨x12,x13,x14,.iv (.bool false),x20,x21,x22,x23,loop_at K _ _ t5L0.eq_1 ?_⟩
  unfold envG
  simp (config := { maxSteps := 4000000 }) (disch := omega) only [go_sem]
 | k + 1,r,x12,x13,x14,x19,x20,x21,x22,x23,h,h1 => by
  have hr : r < rg := by omega
  have ihs := fun x12 x13 x14 x19 x20 x21 x22 x23 => loop5a (fn := fn) (sl := sl) (nd := nd) (pr := pr) (rs := rs) (ti := ti) (tu := tu) (td := td) hn hrg hu hd hm hok hi he tA tB x0 x2 x4 x6 x15 x16 x17 x18 k (r + 1) x12 x13 x14 x19 x20 x21 x22 x23 (by omega) (by omega)
  rw [show ((r + 1 : Nat) : Int) = (r : Int) + 1 by omega] at ihs
  by_cases hT : (ins.getD i default).op = 68 ∨ (ins.getD i default).op = 72
  ·exact st5T (fn := fn) (sl := sl) (nd := nd) (pr := pr) (rs := rs) (ti := ti) (tu := tu) (td := td) hn hrg hu hd hm hok hi he tA tB x0 x2 x4 x6 x15 x16 x17 x18 r hr ihs x12 x13 x14 x19 x20 x21 x22 x23 hT
  ·by_cases hJ : (ins.getD i default).op = 66
   ·exact st5J (fn := fn) (sl := sl) (nd := nd) (pr := pr) (rs := rs) (ti := ti) (tu := tu) (td := td) hn hrg hu hd hm hok hi he tA tB x0 x2 x4 x6 x15 x16 x17 x18 r hr ihs x12 x13 x14 x19 x20 x21 x22 x23 hT hJ
   ·by_cases hB : 26 ≤ (ins.getD i default).op ∧ (ins.getD i default).op ≤ 31
    ·by_cases hN : i + 1 < ins.length
     ·exact st5BN (fn := fn) (sl := sl) (nd := nd) (pr := pr) (rs := rs) (ti := ti) (tu := tu) (td := td) hn hrg hu hd hm hok hi he tA tB x0 x2 x4 x6 x15 x16 x17 x18 r hr ihs x12 x13 x14 x19 x20 x21 x22 x23 hT hJ hB hN
     ·exact st5Bn (fn := fn) (sl := sl) (nd := nd) (pr := pr) (rs := rs) (ti := ti) (tu := tu) (td := td) hn hrg hu hd hm hok hi he tA tB x0 x2 x4 x6 x15 x16 x17 x18 r hr ihs x12 x13 x14 x19 x20 x21 x22 x23 hT hJ hB hN
    ·by_cases hN : i + 1 < ins.length
     ·exact st5RN (fn := fn) (sl := sl) (nd := nd) (pr := pr) (rs := rs) (ti := ti) (tu := tu) (td := td) hn hrg hu hd hm hok hi he tA tB x0 x2 x4 x6 x15 x16 x17 x18 r hr ihs x12 x13 x14 x19 x20 x21 x22 x23 hT hJ hB hN
     ·exact st5Rn (fn := fn) (sl := sl) (nd := nd) (pr := pr) (rs := rs) (ti := ti) (tu := tu) (td := td) hn hrg hu hd hm hok hi he tA tB x0 x2 x4 x6 x15 x16 x17 x18 r hr ihs x12 x13 x14 x19 x20 x21 x22 x23 hT hJ hB hN
end Go.Proofs.YtehlgnfhkidgoaaDoor
