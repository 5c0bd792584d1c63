/- Some texts of the proof, joined. Condition: none. -/
import Derived.Test.YtookmpaholmmfaaGreatDoorTmProg
import Derived.Test.YtookmpaholmmfaaGreatDoorTmE
import Derived.Test.YtookmpaholmmfaaGreatDoorRows
import Derived.Test.YtookmpaholmmfaaGreatDoorTmF
set_option maxRecDepth 100000
set_option maxHeartbeats 16000000
set_option linter.unusedSimpArgs false
set_option linter.unusedVariables false
namespace Go.Proofs.YtookmpaholmmfaaGreatDoor
open Go Go.TM
attribute [go_sem] beq_self_eq_true decT decF ifT ifF eqT eqF neT neF bytesIV_length TM.one_length get_cp get_cp0 List.replicate List.cons_append List.nil_append decide_true decide_false
attribute [go_sem] Nat.reduceAdd Nat.reduceSub Nat.reduceMul Nat.reduceLT Nat.reduceLeDiff Nat.reduceEqDiff Nat.reduceBEq reduceIte reduceCtorEq Int.reduceEq Int.reduceLT Int.reduceLE Int.reduceAdd Int.reduceSub Int.reduceMul Int.reduceToNat Int.reduceNeg Int.reduceBEq Int.reduceBNe Int.reduceTDiv Int.reduceTMod Int.reducePow Nat.reducePow Nat.reduceDiv Nat.reduceMod Int.reduceMod Int.reduceDiv Int.reduceNe Int.reduceFDiv
inductive Dt where
  | mk (k n : Int) (t : List UInt8) (g : Tag) (ks : List Dt) (p : Int)
instance : Inhabited Dt := ⟨.mk 0 0 [] .nil [] 0⟩
def Dt.k : Dt → Int | .mk k _ _ _ _ _ => k
def Dt.n : Dt → Int | .mk _ n _ _ _ _ => n
def Dt.t : Dt → List UInt8 | .mk _ _ t _ _ _ => t
def Dt.g : Dt → Tag | .mk _ _ _ g _ _ => g
def Dt.ks : Dt → List Dt | .mk _ _ _ _ ks _ => ks
def Dt.p : Dt → Int | .mk _ _ _ _ _ p => p
mutual
def encD : Dt → List IV
  | .mk k n t g ks p => [.int .i64 k,.int .i64 n,.str t,.sl g (encDs ks),.int .i64 p]
def encDs : List Dt → List (List IV)
  | [] => []
  | d :: ds => encD d :: encDs ds
end
mutual
def Dt.w : Dt → Nat
  | .mk _ _ t _ ks _ => t.length + Dt.ws ks + 1
def Dt.ws : List Dt → Nat
  | [] => 0
  | d :: ds => Dt.w d + Dt.ws ds
end
theorem encDs_map : ∀ ks : List Dt,encDs ks = ks.map encD
  | [] => by rw [encDs]; rfl
  | d :: ds => by rw [encDs,encDs_map ds]; rfl
theorem encDs_len (ks : List Dt) : (encDs ks).length = ks.length := by rw [encDs_map,List.length_map]
theorem encD_eq (d : Dt) : encD d = [.int .i64 d.k,.int .i64 d.n,.str d.t,.sl d.g (encDs d.ks),.int .i64 d.p] := by
  cases d; rw [encD]; rfl
theorem encD_len (d : Dt) : (encD d).length = 5 := by rw [encD_eq]; rfl
theorem Dt.w_eq (d : Dt) : d.w = d.t.length + Dt.ws d.ks + 1 := by cases d; rw [Dt.w]; rfl
theorem Dt.ws_mem {d : Dt} : ∀ {ks : List Dt},d ∈ ks → d.w ≤ Dt.ws ks
  | x :: r,h => by
    rw [Dt.ws]
    rcases List.mem_cons.1 h with rfl | h
    · omega
    · have := Dt.ws_mem h; omega
theorem Dt.ws_len : ∀ ks : List Dt,ks.length ≤ Dt.ws ks
  | [] => by simp
  | x :: r => by
    have := Dt.ws_len r
    have := Dt.w_eq x
    rw [Dt.ws,List.length_cons]; omega
theorem Dt.kid_lt {d x : Dt} (h : x ∈ d.ks) : x.w < d.w := by
  have := Dt.ws_mem h
  rw [Dt.w_eq d]; omega
theorem ixD {g : Tag} {ks : List Dt} {i : Int} (h : 0 ≤ i ∧ i < ks.length) : indexAddrS 5 (.iv (.sl g (encDs ks))) i = some (.iv (.cp (encD (ks.getD i.toNat default)))) := by
  rw [encDs_map]
  exact ix_map (f := encD) encD_len h
theorem getD5 (env : Env) (S : Store) (d : Dt) : getCells env S (.iv (.cp (encD d))) 5 = some [.iv (.int .i64 d.k),.iv (.int .i64 d.n),.iv (.str d.t),.iv (.sl d.g (encDs d.ks)),.iv (.int .i64 d.p)] := by
  rw [encD_eq]; rfl
theorem drop_get {α : Type} [Inhabited α] {l : List α} {i : Nat} (h : i < l.length) : l.drop i = l.getD i default :: l.drop (i + 1) := by
  rw [List.drop_eq_getElem_cons h,List.getD_eq_getElem?_getD,List.getElem?_eq_getElem h]; rfl
theorem get_mem {α : Type} [Inhabited α] {l : List α} {i : Nat} (h : i < l.length) : l.getD i default ∈ l := by
  rw [List.getD_eq_getElem?_getD,List.getElem?_eq_getElem h]; exact List.getElem_mem h
def addUp {α : Type} (m : Int) (f : α → Int) : Int → List α → Int
  | a,[] => a
  | a,d :: ds => if a < m then addUp m f (a + f d) ds else a
theorem addUp_in {α : Type} (m b : Int) (hm : 0 ≤ m) (f : α → Int) : ∀ (l : List α) (hf : ∀ x ∈ l,0 ≤ f x ∧ f x ≤ b) (a : Int),0 ≤ a → a ≤ m + b → 0 ≤ addUp m f a l ∧ addUp m f a l ≤ m + b
  | [],_,a,h0,h1 => ⟨h0,h1⟩
  | x :: r,hf,a,h0,h1 => by
    rw [addUp]
    split
    · have := hf x (by simp)
      exact addUp_in m b hm f r (fun y hy => hf y (by simp [hy])) _ (by omega) (by omega)
    · exact ⟨h0,h1⟩
def partsF : Nat → Dt → Int
  | 0,_ => 5000
  | n + 1,d => addUp 5000 (partsF n) 1 d.ks
theorem partsF_in : ∀ (n : Nat) (d : Dt),0 ≤ partsF n d ∧ partsF n d ≤ 5000 * (n + 1)
  | 0,d => by rw [partsF]; omega
  | n + 1,d => by
    rw [partsF]
    have := addUp_in 5000 (5000 * (n + 1)) (by omega) (partsF n) d.ks (fun x _ => partsF_in n x) 1 (by omega) (by omega)
    omega
theorem loop40 (n : Nat) (hn : n ≤ 60) (ih : ∀ (x : Dt) (S : Store),x.w ≤ 1048576 → (lim K).call 40 [.iv (.agg (encD x)),.iv (.int .i64 n)] S = .ret (.iv (.int .i64 (partsF n x)),S)) (d : Dt) (hd : d.w ≤ 1048576) (x0 x3 x6 : TV) (S : Store) :
    ∀ (k i : Nat) (acc : Int) (x7 : TV),i + k = d.ks.length → 0 ≤ acc → acc ≤ 400000 → ∃ i' x7',lp' (lim K) t40L0 [x0,.iv (.int .i64 ((n : Int) + 1)),.lb [.iv (.int .i64 d.k),.iv (.int .i64 d.n),.iv (.str d.t),.iv (.sl d.g (encDs d.ks)),.iv (.int .i64 d.p)],x3,.iv (.int .i64 acc),.iv (.int .i64 (i : Int)),x6,x7] S
      = .ret (.exit 0,[x0,.iv (.int .i64 ((n : Int) + 1)),.lb [.iv (.int .i64 d.k),.iv (.int .i64 d.n),.iv (.str d.t),.iv (.sl d.g (encDs d.ks)),.iv (.int .i64 d.p)],x3,.iv (.int .i64 (addUp 5000 (partsF n) acc (d.ks.drop i))),i',x6,x7'],S)
  | 0,i,acc,x7,h,h0,h1 => by
    rw [List.drop_eq_nil_of_le (by omega),addUp]
    have c1 : ¬ ((i : Int) < d.ks.length) := by omega
    refine ⟨?_,?_,loop_at K _ _ t40L0.eq_1 ?_⟩
    rotate_left 2
    · simp (config := { maxSteps := 4000000 }) (disch := omega) only [go_sem,encDs_len,c1]
      rfl
  | k + 1,i,acc,x7,h,h0,h1 => by
    have c1 : (i : Int) < d.ks.length := by omega
    have hl : i < d.ks.length := by omega
    have hw := Dt.w_eq d
    have hw2 := Dt.ws_len d.ks
    have hdr := drop_get hl
    by_cases ha : acc < 5000
    · have hb := partsF_in n (d.ks.getD i default)
      obtain ⟨i',x7',ih2⟩ := loop40 n hn ih d hd x0 x3 x6 S k (i + 1) (acc + partsF n (d.ks.getD i default)) (.iv (.bool true)) (by omega) (by omega) (by omega)
      have hi : ((i + 1 : Nat) : Int) = (i : Int) + 1 := by omega
      rw [hdr,addUp,if_pos ha]
      rw [hi] at ih2
      refine ⟨i',x7',loop_at K _ _ t40L0.eq_1 ?_⟩
      have hix := ixD (g := d.g) (ks := d.ks) (i := (i : Int)) (by omega)
      rw [Int.toNat_natCast] at hix
      have w1 : IntKind.i64.wrap ((n : Int) + 1 - 1) = (n : Int) := by rw [wrap_i64 (by omega)]; omega
      have hm := get_mem hl
      have hc := fun S => ih (d.ks.getD i default) S (by have := Dt.kid_lt hm; omega)
      rw [encD_eq] at hc
      generalize hx : d.ks.getD i default = y at *
      simp (config := { maxSteps := 4000000 }) (disch := omega) only [go_sem,encDs_len,c1,ha,hix,getD5,w1,hc,wrap_i64]
      exact congrArg er ih2
    · rw [hdr,addUp,if_neg ha]
      refine ⟨?_,?_,loop_at K _ _ t40L0.eq_1 ?_⟩
      rotate_left 2
      · simp (config := { maxSteps := 4000000 }) (disch := omega) only [go_sem,encDs_len,c1,ha]
        rfl
theorem call40 : ∀ (n : Nat) (hn : n ≤ 60) (d : Dt) (hd : d.w ≤ 1048576) (S : Store),(lim K).call 40 [.iv (.agg (encD d)),.iv (.int .i64 n)] S = .ret (.iv (.int .i64 (partsF n d)),S)
  | 0,hn,d,hd,S => by
    refine call_ret' K _ (fn := t40) rfl rfl ?_
    have e1 : ((0 : Nat) : Int) = 0 := rfl
    rw [encD_eq,partsF,e1]
    simp (config := { maxSteps := 4000000 }) (disch := omega) only [t40,go_sem]
  | n + 1,hn,d,hd,S => by
    have hw := Dt.w_eq d
    have hl := Dt.ws_len d.ks
    obtain ⟨i',x7',h⟩ := loop40 n (by omega) (fun x S hx => call40 n (by omega) x hx S) d hd (.iv (.agg [.int .i64 d.k,.int .i64 d.n,.str d.t,.sl d.g (encDs d.ks),.int .i64 d.p])) (.iv (.int .i64 0)) (.iv (.bool false)) S d.ks.length 0 1 (.tup []) (by omega) (by omega) (by omega)
    refine call_ret' K _ (fn := t40) rfl rfl ?_
    have e1 : ((n + 1 : Nat) : Int) = (n : Int) + 1 := by omega
    have e2 : ¬ ((n : Int) + 1 = 0) := by omega
    rw [encD_eq,partsF,e1]
    rw [List.drop_zero,show ((0 : Nat) : Int) = 0 from rfl] at h
    simp (config := { maxSteps := 4000000 }) (disch := omega) only [t40,go_sem,e2,TM.undef]
    rw [h]
    simp (config := { maxSteps := 4000000 }) (disch := omega) only [go_sem]
inductive Ex where
  | mk (k n : Int) (gv : Tag) (vs : List Int) (r : Bool) (g : Tag) (ks : List Ex)
instance : Inhabited Ex := ⟨.mk 0 0 .nil [] false .nil []⟩
def Ex.k : Ex → Int | .mk k _ _ _ _ _ _ => k
def Ex.n : Ex → Int | .mk _ n _ _ _ _ _ => n
def Ex.gv : Ex → Tag | .mk _ _ gv _ _ _ _ => gv
def Ex.vs : Ex → List Int | .mk _ _ _ vs _ _ _ => vs
def Ex.r : Ex → Bool | .mk _ _ _ _ r _ _ => r
def Ex.g : Ex → Tag | .mk _ _ _ _ _ g _ => g
def Ex.ks : Ex → List Ex | .mk _ _ _ _ _ _ ks => ks
mutual
def encE : Ex → List IV
  | .mk k n gv vs r g ks => [.int .i64 k,.int .i64 n,.sl gv (TM.one (.int .i64) vs),.bool r,.sl g (encEs ks)]
def encEs : List Ex → List (List IV)
  | [] => []
  | d :: ds => encE d :: encEs ds
end
mutual
def Ex.w : Ex → Nat
  | .mk _ _ _ vs _ _ ks => vs.length + Ex.ws ks + 1
def Ex.ws : List Ex → Nat
  | [] => 0
  | d :: ds => Ex.w d + Ex.ws ds
end
theorem encEs_map : ∀ ks : List Ex,encEs ks = ks.map encE
  | [] => by rw [encEs]; rfl
  | d :: ds => by rw [encEs,encEs_map ds]; rfl
theorem encEs_len (ks : List Ex) : (encEs ks).length = ks.length := by rw [encEs_map,List.length_map]
theorem encE_eq (d : Ex) : encE d = [.int .i64 d.k,.int .i64 d.n,.sl d.gv (TM.one (.int .i64) d.vs),.bool d.r,.sl d.g (encEs d.ks)] := by
  cases d; rw [encE]; rfl
theorem encE_len (d : Ex) : (encE d).length = 5 := by rw [encE_eq]; rfl
theorem Ex.w_eq (d : Ex) : d.w = d.vs.length + Ex.ws d.ks + 1 := by cases d; rw [Ex.w]; rfl
theorem Ex.ws_mem {d : Ex} : ∀ {ks : List Ex},d ∈ ks → d.w ≤ Ex.ws ks
  | x :: r,h => by
    rw [Ex.ws]
    rcases List.mem_cons.1 h with rfl | h
    · omega
    · have := Ex.ws_mem h; omega
theorem Ex.ws_len : ∀ ks : List Ex,ks.length ≤ Ex.ws ks
  | [] => by simp
  | x :: r => by
    have := Ex.ws_len r
    have := Ex.w_eq x
    rw [Ex.ws,List.length_cons]; omega
theorem Ex.kid_lt {d x : Ex} (h : x ∈ d.ks) : x.w < d.w := by
  have := Ex.ws_mem h
  rw [Ex.w_eq d]; omega
theorem ixE {g : Tag} {ks : List Ex} {i : Int} (h : 0 ≤ i ∧ i < ks.length) : indexAddrS 5 (.iv (.sl g (encEs ks))) i = some (.iv (.cp (encE (ks.getD i.toNat default)))) := by
  rw [encEs_map]
  exact ix_map (f := encE) encE_len h
theorem getE5 (env : Env) (S : Store) (d : Ex) : getCells env S (.iv (.cp (encE d))) 5 = some [.iv (.int .i64 d.k),.iv (.int .i64 d.n),.iv (.sl d.gv (TM.one (.int .i64) d.vs)),.iv (.bool d.r),.iv (.sl d.g (encEs d.ks))] := by
  rw [encE_eq]; rfl
def nodesF : Nat → Ex → Int
  | 0,_ => 9000
  | n + 1,d => addUp 9000 (nodesF n) (1 + d.vs.length) d.ks
theorem nodesF_in : ∀ (n : Nat) (d : Ex),0 ≤ nodesF n d ∧ nodesF n d ≤ 9000 * (n + 1) + d.w
  | 0,d => by rw [nodesF]; omega
  | n + 1,d => by
    rw [nodesF]
    have hw := Ex.w_eq d
    have := addUp_in 9000 (9000 * (n + 1) + d.w) (by omega) (nodesF n) d.ks (fun x hx => by
      have := nodesF_in n x
      have := Ex.kid_lt hx
      omega) (1 + d.vs.length) (by omega) (by omega)
    omega
abbrev lbE (d : Ex) : TV := .lb [.iv (.int .i64 d.k),.iv (.int .i64 d.n),.iv (.sl d.gv (TM.one (.int .i64) d.vs)),.iv (.bool d.r),.iv (.sl d.g (encEs d.ks))]
theorem loop10 (n : Nat) (hn : n ≤ 4100) (ih : ∀ (x : Ex) (S : Store),x.w ≤ 1048576 → (lim K).call 10 [.iv (.agg (encE x)),.iv (.int .i64 n)] S = .ret (.iv (.int .i64 (nodesF n x)),S)) (d : Ex) (hd : d.w ≤ 1048576) (x0 x3 x6 : TV) (S : Store) :
    ∀ (k i : Nat) (acc : Int) (x7 : TV),i + k = d.ks.length → 0 ≤ acc → acc ≤ 100000000 → ∃ i' x7',lp' (lim K) t10L0 [x0,.iv (.int .i64 ((n : Int) + 1)),lbE d,x3,.iv (.int .i64 acc),.iv (.int .i64 (i : Int)),x6,x7] S
      = .ret (.exit 0,[x0,.iv (.int .i64 ((n : Int) + 1)),lbE d,x3,.iv (.int .i64 (addUp 9000 (nodesF n) acc (d.ks.drop i))),i',x6,x7'],S)
  | 0,i,acc,x7,h,h0,h1 => by
    rw [List.drop_eq_nil_of_le (by omega),addUp]
    have c1 : ¬ ((i : Int) < d.ks.length) := by omega
    refine ⟨?_,?_,loop_at K _ _ t10L0.eq_1 ?_⟩
    rotate_left 2
    · simp (config := { maxSteps := 4000000 }) (disch := omega) only [go_sem,encEs_len,c1]
      rfl
  | k + 1,i,acc,x7,h,h0,h1 => by
    have c1 : (i : Int) < d.ks.length := by omega
    have hl : i < d.ks.length := by omega
    have hw := Ex.w_eq d
    have hw2 := Ex.ws_len d.ks
    have hdr := drop_get hl
    by_cases ha : acc < 9000
    · have hb := nodesF_in n (d.ks.getD i default)
      have hm := get_mem hl
      have hk := Ex.kid_lt hm
      obtain ⟨i',x7',ih2⟩ := loop10 n hn ih d hd x0 x3 x6 S k (i + 1) (acc + nodesF n (d.ks.getD i default)) (.iv (.bool true)) (by omega) (by omega) (by omega)
      have hi : ((i + 1 : Nat) : Int) = (i : Int) + 1 := by omega
      rw [hdr,addUp,if_pos ha]
      rw [hi] at ih2
      refine ⟨i',x7',loop_at K _ _ t10L0.eq_1 ?_⟩
      have hix := ixE (g := d.g) (ks := d.ks) (i := (i : Int)) (by omega)
      rw [Int.toNat_natCast] at hix
      have w1 : IntKind.i64.wrap ((n : Int) + 1 - 1) = (n : Int) := by rw [wrap_i64 (by omega)]; omega
      have hc := fun S => ih (d.ks.getD i default) S (by omega)
      rw [encE_eq] at hc
      generalize hx : d.ks.getD i default = y at *
      simp (config := { maxSteps := 4000000 }) (disch := omega) only [go_sem,encEs_len,c1,ha,hix,getE5,w1,hc,wrap_i64]
      exact congrArg er ih2
    · rw [hdr,addUp,if_neg ha]
      refine ⟨?_,?_,loop_at K _ _ t10L0.eq_1 ?_⟩
      rotate_left 2
      · simp (config := { maxSteps := 4000000 }) (disch := omega) only [go_sem,encEs_len,c1,ha]
        rfl
theorem call10 : ∀ (n : Nat) (hn : n ≤ 4100) (d : Ex) (hd : d.w ≤ 1048576) (S : Store),(lim K).call 10 [.iv (.agg (encE d)),.iv (.int .i64 n)] S = .ret (.iv (.int .i64 (nodesF n d)),S)
  | 0,hn,d,hd,S => by
    refine call_ret' K _ (fn := t10) rfl rfl ?_
    have e1 : ((0 : Nat) : Int) = 0 := rfl
    rw [encE_eq,nodesF,e1]
    simp (config := { maxSteps := 4000000 }) (disch := omega) only [t10,go_sem]
  | n + 1,hn,d,hd,S => by
    have hw := Ex.w_eq d
    have hl := Ex.ws_len d.ks
    obtain ⟨i',x7',h⟩ := loop10 n (by omega) (fun x S hx => call10 n (by omega) x hx S) d hd (.iv (.agg [.int .i64 d.k,.int .i64 d.n,.sl d.gv (TM.one (.int .i64) d.vs),.bool d.r,.sl d.g (encEs d.ks)])) (.iv (.int .i64 0)) (.iv (.bool false)) S d.ks.length 0 (1 + d.vs.length) (.tup []) (by omega) (by omega) (by omega)
    refine call_ret' K _ (fn := t10) rfl rfl ?_
    have e1 : ((n + 1 : Nat) : Int) = (n : Int) + 1 := by omega
    have e2 : ¬ ((n : Int) + 1 = 0) := by omega
    rw [encE_eq,nodesF,e1]
    rw [List.drop_zero,show ((0 : Nat) : Int) = 0 from rfl] at h
    simp (config := { maxSteps := 4000000 }) (disch := omega) only [t10,go_sem,e2,TM.undef,wrap_i64]
    rw [h]
    simp (config := { maxSteps := 4000000 }) (disch := omega) only [go_sem]
structure Pg where
  b : Ex
  gl : Int
  vr : Int
  gc : Tag
  cs : List Dt
def Pg.w (p : Pg) : Nat := p.b.w + Dt.ws p.cs
def encP (p : Pg) : List IV := [.int .i64 p.b.k,.int .i64 p.b.n,.sl p.b.gv (TM.one (.int .i64) p.b.vs),.bool p.b.r,.sl p.b.g (encEs p.b.ks),.int .i64 p.gl,.int .i64 p.vr,.sl p.gc (encDs p.cs)]
abbrev lbP (p : Pg) : TV := .lb [.iv (.int .i64 p.b.k),.iv (.int .i64 p.b.n),.iv (.sl p.b.gv (TM.one (.int .i64) p.b.vs)),.iv (.bool p.b.r),.iv (.sl p.b.g (encEs p.b.ks)),.iv (.int .i64 p.gl),.iv (.int .i64 p.vr),.iv (.sl p.gc (encDs p.cs))]
theorem loop9 (p : Pg) (hp : p.w ≤ 1048576) (x0 : TV) (S : Store) : ∀ (k i : Nat) (x4 x5 : TV),i + k = p.cs.length →
    ∃ j b i' x4' x5',(j = .ret ∧ b = true ∨ j = .exit 0 ∧ b = false) ∧ lp' (lim K) t9L0 [x0,lbP p,.iv (.bool false),.iv (.int .i64 (i : Int)),x4,x5] S = .ret (j,[x0,lbP p,.iv (.bool b),i',x4',x5'],S)
  | 0,i,x4,x5,h => by
    have c1 : ¬ ((i : Int) < p.cs.length) := by omega
    refine ⟨.exit 0,false,?_,?_,?_,.inr ⟨rfl,rfl⟩,loop_at K _ _ t9L0.eq_1 ?_⟩
    rotate_left 3
    · simp (config := { maxSteps := 4000000 }) (disch := omega) only [go_sem,encDs_len,c1]
      rfl
  | k + 1,i,x4,x5,h => by
    have c1 : (i : Int) < p.cs.length := by omega
    have hl : i < p.cs.length := by omega
    have hw2 := Dt.ws_len p.cs
    have hpw : p.b.w + Dt.ws p.cs ≤ 1048576 := hp
    by_cases h3 : (i : Int) < 30
    · have hix := ixD (g := p.gc) (ks := p.cs) (i := (i : Int)) (by omega)
      rw [Int.toNat_natCast] at hix
      have hm := Dt.ws_mem (get_mem hl)
      have hc := fun S => call40 60 (by omega) (p.cs.getD i default) (by omega) S
      rw [encD_eq,show ((60 : Nat) : Int) = 60 from rfl] at hc
      generalize hx : p.cs.getD i default = y at *
      by_cases hv : 200 < partsF 60 y
      · refine ⟨.ret,true,?_,?_,?_,.inl ⟨rfl,rfl⟩,loop_at K _ _ t9L0.eq_1 ?_⟩
        rotate_left 3
        · simp (config := { maxSteps := 4000000 }) (disch := omega) only [go_sem,encDs_len,c1,h3,hix,getD5,hc,hv]
          rfl
      · obtain ⟨j,b,i',x4',x5',hj,ih⟩ := loop9 p hp x0 S k (i + 1) (.iv (.bool true)) (.iv (.bool false)) (by omega)
        rw [show ((i + 1 : Nat) : Int) = (i : Int) + 1 by omega] at ih
        refine ⟨j,b,i',x4',x5',hj,loop_at K _ _ t9L0.eq_1 ?_⟩
        simp (config := { maxSteps := 4000000 }) (disch := omega) only [go_sem,encDs_len,c1,h3,hix,getD5,hc,hv,wrap_i64]
        exact congrArg er ih
    · refine ⟨.exit 0,false,?_,?_,?_,.inr ⟨rfl,rfl⟩,loop_at K _ _ t9L0.eq_1 ?_⟩
      rotate_left 3
      · simp (config := { maxSteps := 4000000 }) (disch := omega) only [go_sem,encDs_len,c1,h3]
        rfl
theorem call9 (p : Pg) (hp : p.w ≤ 1048576) (S : Store) : ∃ b,(lim K).call 9 [.iv (.agg (encP p))] S = .ret (.iv (.bool b),S) := by
  obtain ⟨j,b,i',x4',x5',hj,h⟩ := loop9 p hp (.iv (.agg (encP p))) S p.cs.length 0 (.tup []) (.tup []) (by omega)
  rw [show ((0 : Nat) : Int) = 0 from rfl] at h
  have hpw : p.b.w + Dt.ws p.cs ≤ 1048576 := hp
  have hc := fun S => call10 4100 (by omega) p.b (by omega) S
  rw [encE_eq,show ((4100 : Nat) : Int) = 4100 from rfl] at hc
  rcases hj with ⟨rfl,rfl⟩ | ⟨rfl,rfl⟩
  · refine ⟨true,call_ret' K _ (fn := t9) rfl rfl ?_⟩
    simp only [encP] at h ⊢
    simp (config := { maxSteps := 4000000 }) (disch := omega) only [t9,go_sem,TM.undef]
    rw [h]
    simp (config := { maxSteps := 4000000 }) (disch := omega) only [go_sem]
  · by_cases hv : 4500 < nodesF 4100 p.b
    · refine ⟨true,call_ret' K _ (fn := t9) rfl rfl ?_⟩
      simp only [encP] at h ⊢
      simp (config := { maxSteps := 4000000 }) (disch := omega) only [t9,go_sem,TM.undef]
      rw [h]
      simp (config := { maxSteps := 4000000 }) (disch := omega) only [go_sem,hc,hv]
    · refine ⟨decide ((20 : Int) < p.cs.length),call_ret' K _ (fn := t9) rfl rfl ?_⟩
      simp only [encP] at h ⊢
      simp (config := { maxSteps := 4000000 }) (disch := omega) only [t9,go_sem,TM.undef]
      rw [h]
      simp (config := { maxSteps := 4000000 }) (disch := omega) only [go_sem,hc,hv,encDs_len]
end Go.Proofs.YtookmpaholmmfaaGreatDoor

namespace Go.Proofs.YtookmpaholmmfaaGreatDoor
open Go Go.TM Go.ChangeShapes Go.WideShapes
section
variable {P : Program} {H : Type}
theorem ty_structD {t : TypeId} {fs : Array Field} {d : DataW H} {l : List IV} (hu : P.underlying t = some (.struct fs)) (h : Ty P t d l) :
    ∃ (ds : List (DataW H)) (ls : List (List IV)),d = .agg ds ∧ l = flat ls ∧ AllTy P (fs.toList.map (·.type)) ds ls := by
  have h0 := h
  cases h with
  | bool u ht b => rw [hu] at ht; cases ht
  | int u k ht => rw [hu] at ht; cases ht
  | str u ht => rw [hu] at ht; cases ht
  | nilp u e ht => rw [hu] at ht; cases ht
  | ptr u e ht => rw [hu] at ht; cases ht
  | nils u e ht => rw [hu] at ht; cases ht
  | sl u e ht => rw [hu] at ht; cases ht
  | struct u fs' ht ds ls h1 h2 h hl =>
    rw [hu] at ht; cases ht
    refine ⟨ds,ls,rfl,rfl,?_⟩
    have key : ∀ (fs : List Field) (ds : List (DataW H)) (ls : List (List IV)),ds.length = fs.length → ls.length = fs.length → (∀ (i : Nat) (f : Field) (d : DataW H) (l : List IV),fs[i]? = some f → ds[i]? = some d → ls[i]? = some l → Ty P f.type d l) → AllTy P (fs.map (·.type)) ds ls := by
      intro fs
      induction fs with
      | nil =>
        intro ds ls h1 h2 _
        have e1 : ds = [] := List.eq_nil_of_length_eq_zero (by simpa using h1)
        have e2 : ls = [] := List.eq_nil_of_length_eq_zero (by simpa using h2)
        subst e1; subst e2; exact trivial
      | cons f fs ih =>
        intro ds ls h1 h2 h
        cases ds with
        | nil => simp at h1
        | cons d ds =>
          cases ls with
          | nil => simp at h2
          | cons l ls => exact ⟨h 0 f d l rfl rfl rfl,ih ds ls (by simpa using h1) (by simpa using h2) (fun i f' d' l' hf hd hl' => h (i + 1) f' d' l' (by simpa using hf) (by simpa using hd) (by simpa using hl'))⟩
    exact key fs.toList ds ls (by simpa using h1) (by simpa using h2) (fun i f d l hf hd hl' => h i f d l (by simpa using hf) hd hl')
  | array u e n ht => rw [hu] at ht; cases ht
theorem allTy_consE {t : TypeId} {ts : List TypeId} {ds : List (DataW H)} {ls : List (List IV)} (h : AllTy P (t :: ts) ds ls) : ∃ (d : DataW H) (l : List IV) (ds' : List (DataW H)) (ls' : List (List IV)),ds = d :: ds' ∧ ls = l :: ls' ∧ Ty P t d l ∧ AllTy P ts ds' ls' := by
  cases ds with
  | nil => cases ls <;> exact h.elim
  | cons d ds =>
    cases ls with
    | nil => exact h.elim
    | cons l ls => exact ⟨d,l,ds,ls,rfl,rfl,h.1,h.2⟩
theorem ty_sliceD {t e : TypeId} {d : DataW H} {l : List IV} (hu : P.underlying t = some (.slice e)) (h : Ty P t d l) :
    ∃ (tg : Tag) (ds sp : List (DataW H)) (ls : List (List IV)),(d = .slice ds sp ∨ d = .nil ∧ ds = []) ∧ l = [.sl tg ls] ∧ (tg = .nil → ls = []) ∧ ls.length = ds.length ∧ ∀ (i : Nat) (d : DataW H) (l : List IV),ds[i]? = some d → ls[i]? = some l → Ty P e d l := by
  cases h with
  | bool u ht b => rw [hu] at ht; cases ht
  | int u k ht => rw [hu] at ht; cases ht
  | str u ht => rw [hu] at ht; cases ht
  | nilp u e ht => rw [hu] at ht; cases ht
  | ptr u e ht => rw [hu] at ht; cases ht
  | nils u e ht => exact ⟨.nil,[],[],[],.inr ⟨rfl,rfl⟩,rfl,fun _ => rfl,rfl,fun i d l h => by simp at h⟩
  | sl u e' ht ds sp ls tag htag hn hm h hl =>
    rw [hu] at ht; cases ht
    exact ⟨tag,ds,sp,ls,.inl rfl,rfl,fun e => absurd e htag,hn,h⟩
  | struct u fs ht => rw [hu] at ht; cases ht
  | array u e n ht => rw [hu] at ht; cases ht
theorem ty_intD {t : TypeId} {d : DataW H} {l : List IV} {k : IntKind} (hu : P.underlying t = some (.int k)) (h : Ty P t d l) : ∃ n,d = .lit (.int k n) ∧ l = [.int k n] ∧ k.min ≤ n ∧ n ≤ k.max := by
  cases h with
  | bool u ht b => rw [hu] at ht; cases ht
  | int u k' ht n hw =>
    rw [hu] at ht; cases ht
    simp only [Lit.wf,Bool.and_eq_true,decide_eq_true_eq] at hw
    exact ⟨n,rfl,rfl,hw⟩
  | str u ht => rw [hu] at ht; cases ht
  | nilp u e ht => rw [hu] at ht; cases ht
  | ptr u e ht => rw [hu] at ht; cases ht
  | nils u e ht => rw [hu] at ht; cases ht
  | sl u e ht => rw [hu] at ht; cases ht
  | struct u fs ht => rw [hu] at ht; cases ht
  | array u e n ht => rw [hu] at ht; cases ht
theorem ty_strD {t : TypeId} {d : DataW H} {l : List IV} (hu : P.underlying t = some .string) (h : Ty P t d l) : ∃ s,d = .lit (.string s) ∧ l = [.str s] := by
  cases h with
  | bool u ht b => rw [hu] at ht; cases ht
  | int u k ht => rw [hu] at ht; cases ht
  | str u ht s hs => exact ⟨s,rfl,rfl⟩
  | nilp u e ht => rw [hu] at ht; cases ht
  | ptr u e ht => rw [hu] at ht; cases ht
  | nils u e ht => rw [hu] at ht; cases ht
  | sl u e ht => rw [hu] at ht; cases ht
  | struct u fs ht => rw [hu] at ht; cases ht
  | array u e n ht => rw [hu] at ht; cases ht
open Rows in
theorem bulk_slice {d : DataW H} {ds sp : List (DataW H)} (h : d = .slice ds sp ∨ d = .nil ∧ ds = []) : uptoBulkAll ds + 1 ≤ uptoBulk d := by
  rcases h with rfl | ⟨rfl,rfl⟩
  · simp only [uptoBulk]; omega
  · simp only [uptoBulk,uptoBulkAll]; omega
open Rows in
theorem bulk_part {d : DataW H} : ∀ {l : List (DataW H)},d ∈ l → uptoBulk d ≤ uptoBulkAll l
  | x :: r,h => by
    simp only [uptoBulkAll]
    rcases List.mem_cons.1 h with rfl | h
    · omega
    · have := bulk_part h; omega
open Rows in
theorem ty_list {α : Type} {e : TypeId} {f : α → List IV} {R : α → Prop} {w : α → Nat} {ws : List α → Nat} (h0 : ws [] = 0) (h1 : ∀ a l,ws (a :: l) = w a + ws l) :
    ∀ (ls : List (List IV)) (ds : List (DataW H)),(∀ d ∈ ds,∀ l,Ty P e d l → ∃ a,l = f a ∧ w a ≤ uptoBulk d ∧ R a) → ls.length = ds.length →
    (∀ (i : Nat) (d : DataW H) (l : List IV),ds[i]? = some d → ls[i]? = some l → Ty P e d l) → ∃ ags : List α,ls = ags.map f ∧ ws ags ≤ uptoBulkAll ds ∧ ∀ a ∈ ags,R a
  | [],ds,_,_,_ => ⟨[],rfl,by rw [h0]; omega,by simp⟩
  | l :: ls,[],_,hn,_ => by simp at hn
  | l :: ls,d :: ds,he,hn,h => by
    obtain ⟨a,rfl,hw,ha⟩ := he d (by simp) l (h 0 d l rfl rfl)
    obtain ⟨ags,rfl,hws,has⟩ := ty_list h0 h1 ls ds (fun d hd => he d (by simp [hd])) (by simpa using hn) (fun i d' l' hd hl' => h (i + 1) d' l' (by simpa using hd) (by simpa using hl'))
    refine ⟨a :: ags,rfl,?_,?_⟩
    · rw [h1,uptoBulkAll]; omega
    · intro x hx; rcases List.mem_cons.1 hx with rfl | hx; exact ha; exact has x hx
end
def i64r (n : Int) : Prop := -9223372036854775808 ≤ n ∧ n ≤ 9223372036854775807
mutual
def Dt.ok : Dt → Prop
  | .mk k n t g ks p => i64r k ∧ i64r n ∧ i64r p ∧ TagOk g ks ∧ Dt.oks ks
def Dt.oks : List Dt → Prop
  | [] => True
  | d :: ds => Dt.ok d ∧ Dt.oks ds
end
mutual
def Ex.ok : Ex → Prop
  | .mk k n gv vs r g ks => i64r k ∧ i64r n ∧ TagOk gv vs ∧ (∀ v ∈ vs,i64r v) ∧ TagOk g ks ∧ Ex.oks ks
def Ex.oks : List Ex → Prop
  | [] => True
  | d :: ds => Ex.ok d ∧ Ex.oks ds
end
theorem Dt.oks_iff : ∀ {ks : List Dt},Dt.oks ks ↔ ∀ x ∈ ks,x.ok
  | [] => by simp [Dt.oks]
  | d :: ds => by rw [Dt.oks,Dt.oks_iff]; simp
theorem Ex.oks_iff : ∀ {ks : List Ex},Ex.oks ks ↔ ∀ x ∈ ks,x.ok
  | [] => by simp [Ex.oks]
  | d :: ds => by rw [Ex.oks,Ex.oks_iff]; simp
theorem Dt.ok_eq (d : Dt) : d.ok ↔ i64r d.k ∧ i64r d.n ∧ i64r d.p ∧ TagOk d.g d.ks ∧ ∀ x ∈ d.ks,x.ok := by
  cases d; rw [Dt.ok,Dt.oks_iff]; rfl
theorem Ex.ok_eq (d : Ex) : d.ok ↔ i64r d.k ∧ i64r d.n ∧ TagOk d.gv d.vs ∧ (∀ v ∈ d.vs,i64r v) ∧ TagOk d.g d.ks ∧ ∀ x ∈ d.ks,x.ok := by
  cases d; rw [Ex.ok,Ex.oks_iff]; rfl
def Pg.ok (p : Pg) : Prop := p.b.ok ∧ i64r p.gl ∧ i64r p.vr ∧ TagOk p.gc p.cs ∧ ∀ x ∈ p.cs,x.ok
theorem i64r_of {n : Int} (h : IntKind.i64.min ≤ n ∧ n ≤ IntKind.i64.max) : i64r n := by
  obtain ⟨h1,h2⟩ := h
  simp [IntKind.min,IntKind.max,IntKind.signed,IntKind.bits] at h1 h2
  unfold i64r; omega
theorem nil_tag {tg : Tag} {α β : Type} {f : α → β} {l : List α} (h : tg = .nil → l.map f = []) : TagOk tg l := fun e => by simpa using h e
section
variable {H : Type}
open Rows
theorem tyI {d : DataW H} {l : List IV} (h : Ty Tryz.prog 3 d l) : ∃ n,l = [.int .i64 n] ∧ uptoBulk d = 1 ∧ i64r n := by
  obtain ⟨n,rfl,rfl,hr⟩ := ty_intD Tryz.underlying3 h
  exact ⟨n,rfl,by simp [uptoBulk],i64r_of hr⟩
theorem tyIs {d : DataW H} {l : List IV} (h : Ty Tryz.prog 22 d l) : ∃ (tg : Tag) (vs : List Int),l = [.sl tg (TM.one (.int .i64) vs)] ∧ TagOk tg vs ∧ vs.length + 1 ≤ uptoBulk d ∧ ∀ v ∈ vs,i64r v := by
  obtain ⟨tg,ds,sp,ls,hd,rfl,ht,hn,hl⟩ := ty_sliceD Tryz.underlying22 h
  obtain ⟨vs,rfl,hw,hr⟩ := ty_list (f := fun n => [.int .i64 n]) (R := i64r) (w := fun _ : Int => 1) (ws := List.length) rfl (fun a l => by simp; omega) ls ds (fun d hd l h => by
    obtain ⟨n,rfl,hb,hr⟩ := tyI h
    exact ⟨n,rfl,by omega,hr⟩) hn hl
  have := bulk_slice hd
  exact ⟨tg,vs,rfl,nil_tag ht,by omega,hr⟩
theorem readD : ∀ (n : Nat) (d : DataW H) (l : List IV),uptoBulk d ≤ n → Ty Tryz.prog 39 d l → ∃ x : Dt,l = encD x ∧ x.w ≤ uptoBulk d ∧ x.ok
  | 0,d,l,hb,h => by
    obtain ⟨ds,ls,rfl,rfl,hh⟩ := ty_structD Tryz.underlying39 h
    simp only [uptoBulk] at hb; omega
  | n + 1,d,l,hb,h => by
    obtain ⟨ds,ls,rfl,rfl,hh00⟩ := ty_structD Tryz.underlying39 h
    have hh0 : AllTy Tryz.prog [3,3,9,26,3] ds ls := hh00
    obtain ⟨d0,l0,ds,ls,rfl,rfl,h0,hh1⟩ := allTy_consE hh0
    obtain ⟨d1,l1,ds,ls,rfl,rfl,h1,hh2⟩ := allTy_consE hh1
    obtain ⟨d2,l2,ds,ls,rfl,rfl,h2,hh3⟩ := allTy_consE hh2
    obtain ⟨d3,l3,ds,ls,rfl,rfl,h3,hh4⟩ := allTy_consE hh3
    obtain ⟨d4,l4,ds,ls,rfl,rfl,h4,hh5⟩ := allTy_consE hh4
    obtain rfl := allTy_nilD hh5
    rw [allTy_nil hh5]
    simp only [uptoBulk,uptoBulkAll] at hb
    obtain ⟨k,rfl,b0,r0⟩ := tyI h0
    obtain ⟨m,rfl,b1,r1⟩ := tyI h1
    obtain ⟨s,rfl,rfl⟩ := ty_strD Tryz.underlying9 h2
    obtain ⟨tg,es,sp,ls,hd,rfl,ht,hn,hl⟩ := ty_sliceD Tryz.underlying26 h3
    obtain ⟨p,rfl,b4,r4⟩ := tyI h4
    have hs := bulk_slice hd
    obtain ⟨ks,rfl,hw,hr⟩ := ty_list (f := encD) (R := Dt.ok) (w := Dt.w) (ws := Dt.ws) (by rw [Dt.ws]) (fun a l => by rw [Dt.ws]) ls es (fun d hd l h => by
      have := bulk_part hd
      exact readD n d l (by omega) h) hn hl
    refine ⟨.mk k m s tg ks p,?_,?_,?_⟩
    · rw [encD,encDs_map]; rfl
    · rw [Dt.w]; simp only [uptoBulk,uptoBulkAll]; omega
    · rw [Dt.ok_eq]; exact ⟨r0,r1,r4,nil_tag ht,hr⟩
theorem tyB {d : DataW H} {l : List IV} (h : Ty Tryz.prog 4 d l) : ∃ b,l = [.bool b] := ty_bool Tryz.underlying4 h
theorem readE : ∀ (n : Nat) (d : DataW H) (l : List IV),uptoBulk d ≤ n → Ty Tryz.prog 25 d l → ∃ x : Ex,l = encE x ∧ x.w ≤ uptoBulk d ∧ x.ok
  | 0,d,l,hb,h => by
    obtain ⟨ds,ls,rfl,rfl,hh⟩ := ty_structD Tryz.underlying25 h
    simp only [uptoBulk] at hb; omega
  | n + 1,d,l,hb,h => by
    obtain ⟨ds,ls,rfl,rfl,hh00⟩ := ty_structD Tryz.underlying25 h
    have hh0 : AllTy Tryz.prog [3,3,22,4,23] ds ls := hh00
    obtain ⟨d0,l0,ds,ls,rfl,rfl,h0,hh1⟩ := allTy_consE hh0
    obtain ⟨d1,l1,ds,ls,rfl,rfl,h1,hh2⟩ := allTy_consE hh1
    obtain ⟨d2,l2,ds,ls,rfl,rfl,h2,hh3⟩ := allTy_consE hh2
    obtain ⟨d3,l3,ds,ls,rfl,rfl,h3,hh4⟩ := allTy_consE hh3
    obtain ⟨d4,l4,ds,ls,rfl,rfl,h4,hh5⟩ := allTy_consE hh4
    obtain rfl := allTy_nilD hh5
    rw [allTy_nil hh5]
    simp only [uptoBulk,uptoBulkAll] at hb
    obtain ⟨k,rfl,b0,r0⟩ := tyI h0
    obtain ⟨m,rfl,b1,r1⟩ := tyI h1
    obtain ⟨tv,vs,rfl,htv,b2,r2⟩ := tyIs h2
    obtain ⟨r,rfl⟩ := tyB h3
    obtain ⟨tg,es,sp,ls,hd,rfl,ht,hn,hl⟩ := ty_sliceD Tryz.underlying23 h4
    have hs := bulk_slice hd
    obtain ⟨ks,rfl,hw,hr⟩ := ty_list (f := encE) (R := Ex.ok) (w := Ex.w) (ws := Ex.ws) (by rw [Ex.ws]) (fun a l => by rw [Ex.ws]) ls es (fun d hd l h => by
      have := bulk_part hd
      exact readE n d l (by omega) h) hn hl
    refine ⟨.mk k m tv vs r tg ks,?_,?_,?_⟩
    · rw [encE,encEs_map]; rfl
    · rw [Ex.w]; simp only [uptoBulk,uptoBulkAll]; omega
    · rw [Ex.ok_eq]; exact ⟨r0,r1,htv,r2,nil_tag ht,hr⟩
theorem readP {d : DataW H} {l : List IV} (h : Ty Tryz.prog 28 d l) : ∃ x : Pg,l = encP x ∧ x.w ≤ uptoBulk d ∧ x.ok := by
  obtain ⟨ds,ls,rfl,rfl,hh00⟩ := ty_structD Tryz.underlying28 h
  have hh0 : AllTy Tryz.prog [25,3,3,26] ds ls := hh00
  obtain ⟨d0,l0,ds,ls,rfl,rfl,h0,hh1⟩ := allTy_consE hh0
  obtain ⟨d1,l1,ds,ls,rfl,rfl,h1,hh2⟩ := allTy_consE hh1
  obtain ⟨d2,l2,ds,ls,rfl,rfl,h2,hh3⟩ := allTy_consE hh2
  obtain ⟨d3,l3,ds,ls,rfl,rfl,h3,hh4⟩ := allTy_consE hh3
  obtain rfl := allTy_nilD hh4
  rw [allTy_nil hh4]
  obtain ⟨b,rfl,b0,r0⟩ := readE _ _ _ (Nat.le_refl _) h0
  obtain ⟨gl,rfl,b1,r1⟩ := tyI h1
  obtain ⟨vr,rfl,b2,r2⟩ := tyI h2
  obtain ⟨tg,es,sp,ls,hd,rfl,ht,hn,hl⟩ := ty_sliceD Tryz.underlying26 h3
  have hs := bulk_slice hd
  obtain ⟨ks,rfl,hw,hr⟩ := ty_list (f := encD) (R := Dt.ok) (w := Dt.w) (ws := Dt.ws) (by rw [Dt.ws]) (fun a l => by rw [Dt.ws]) ls es (fun d hd l h => readD _ d l (Nat.le_refl _) h) hn hl
  refine ⟨⟨b,gl,vr,tg,ks⟩,?_,?_,?_⟩
  · rw [encP,encE_eq,encDs_map]; rfl
  · unfold Pg.w; simp only [uptoBulk,uptoBulkAll]; omega
  · exact ⟨r0,r1,r2,nil_tag ht,hr⟩
end
end Go.Proofs.YtookmpaholmmfaaGreatDoor

namespace Go.Proofs.YtookmpaholmmfaaGreatDoor
open Go Go.TM
attribute [go_sem] List.length_set
theorem loop16 (t : Tag) (l : List Int) (n : Int) (hl : l.length ≤ 1000000000) (S : Store) : ∀ (k i : Nat) (x4 x5 : TV),i + k = l.length →
    ∃ j b y3 y4 y5,(j = .ret ∧ b = true ∧ n ∈ l.drop i ∨ j = .exit 0 ∧ b = false ∧ n ∉ l.drop i) ∧
      lp' (lim K) t16L0 [.iv (.sl t (TM.one (.int .i64) l)),.iv (.int .i64 n),.iv (.bool false),.iv (.int .i64 (i : Int)),x4,x5] S = .ret (j,[.iv (.sl t (TM.one (.int .i64) l)),.iv (.int .i64 n),.iv (.bool b),y3,y4,y5],S)
  | 0,i,x4,x5,h => by
    refine ⟨.exit 0,false,?_,?_,?_,.inr ⟨rfl,rfl,by rw [List.drop_eq_nil_of_le (by omega)]; simp⟩,loop_at K _ _ t16L0.eq_1 ?_⟩
    rotate_left 3
    · simp (config := { maxSteps := 4000000 }) (disch := omega) only [go_sem,TM.one_length]
      rfl
  | k + 1,i,x4,x5,h => by
    have hla : i < l.length := by omega
    have hix := ix_one (f := IV.int .i64) (t := t) (l := l) (i := (i : Int)) (by omega)
    rw [Int.toNat_natCast] at hix
    have hdr := drop_get hla
    by_cases hn : l.getD i default = n
    · refine ⟨.ret,true,?_,?_,?_,.inl ⟨rfl,rfl,by rw [hdr,hn]; simp⟩,loop_at K _ _ t16L0.eq_1 ?_⟩
      rotate_left 3
      · simp (config := { maxSteps := 4000000 }) (disch := omega) only [go_sem,TM.one_length,hix,hn]
        rfl
    · obtain ⟨j,b,y3,y4,y5,hj,ih⟩ := loop16 t l n hl S k (i + 1) (.iv (.bool true)) (.iv (.bool false)) (by omega)
      rw [show ((i + 1 : Nat) : Int) = (i : Int) + 1 by omega] at ih
      refine ⟨j,b,y3,y4,y5,?_,loop_at K _ _ t16L0.eq_1 ?_⟩
      · rw [hdr]
        simp only [List.mem_cons,Ne.symm hn,false_or]
        exact hj
      · simp (config := { maxSteps := 4000000 }) (disch := omega) only [go_sem,TM.one_length,hix,hn,wrap_i64]
        exact congrArg er ih
theorem call16 (t : Tag) (l : List Int) (n : Int) (hl : l.length ≤ 1000000000) (S : Store) : (lim K).call 16 [.iv (.sl t (TM.one (.int .i64) l)),.iv (.int .i64 n)] S = .ret (.iv (.bool (decide (n ∈ l))),S) := by
  obtain ⟨j,b,y3,y4,y5,hj,ih⟩ := loop16 t l n hl S l.length 0 (.tup []) (.tup []) (by omega)
  rw [show ((0 : Nat) : Int) = 0 from rfl,List.drop_zero] at *
  refine call_ret' K _ (fn := t16) rfl rfl ?_
  simp (config := { maxSteps := 4000000 }) (disch := omega) only [t16,go_sem,TM.undef]
  rw [ih]
  rcases hj with ⟨rfl,rfl,hm⟩ | ⟨rfl,rfl,hm⟩
  · simp (config := { maxSteps := 4000000 }) (disch := omega) only [go_sem,hm]
  · simp (config := { maxSteps := 4000000 }) (disch := omega) only [go_sem,hm]
mutual
def gath (f : Ex → List Int) : Ex → List Int
  | .mk k n gv vs r g ks => f (.mk k n gv vs r g ks) ++ gaths f ks
def gaths (f : Ex → List Int) : List Ex → List Int
  | [] => []
  | d :: ds => gath f d ++ gaths f ds
end
theorem gath_eq (f : Ex → List Int) (e : Ex) : gath f e = f e ++ gaths f e.ks := by cases e; rw [gath]; rfl
structure AM (S : Store) (ib im : Nat) (B : List Int) (m : Nat) : Prop where
  ne : ib ≠ im
  box : S[ib]? = some (.cells 56 false [.map im])
  map : ∃ l c,S[im]? = some (.mp (mpR boxI l) c) ∧ RowsOK l c ∧ l.length ≤ m ∧ ∀ v,hasR l v = true ↔ v ∈ B
def ActOK (f : Nat) (act : Ex → List Int) : Prop := ∀ (e : Ex) (S : Store) (ib im : Nat) (B : List Int) (m : Nat),e.ok → e.w ≤ 1048576 → AM S ib im B m →
  ∃ S',(lim K).call f [.iv (.agg (encE e)),.ptr ib 56 0] S = .ret (.tup [],S') ∧ AM S' ib im (B ++ act e) (m + (act e).length)
theorem AM.put {S : Store} {ib im : Nat} {B : List Int} {m : Nat} (h : AM S ib im B m) {l : List (Nat × Int × Int)} {c : Nat} (hl : S[im]? = some (.mp (mpR boxI l) c)) (ho : RowsOK l c) (hm : l.length ≤ m) (hb : ∀ v,hasR l v = true ↔ v ∈ B) {k : Int} (hk : i64r k) (a : Int) :
    AM (S.set im (.mp (mpR boxI (putR l c k a)) (clkR l c k))) ib im (B ++ [k]) (m + 1) := by
  refine ⟨h.ne,?_,⟨_,_,get_setS (lt_get hl) _,ho.put hk a,?_,fun v => ?_⟩⟩
  · rw [get_setN (Ne.symm h.ne)]; exact h.box
  · have := len_put_le l c k a; omega
  · rw [hasR_put,Bool.or_eq_true,hb v,decide_eq_true_eq]
    simp only [List.mem_append,List.mem_singleton]
    constructor
    · rintro (rfl | h)
      · exact .inr rfl
      · exact .inl h
    · rintro (h | rfl)
      · exact .inr h
      · exact .inl rfl
def asgA (e : Ex) : List Int := if e.k = 4 then [e.n] else []
def bndA (e : Ex) : List Int := if e.k = 7 then e.vs else []
theorem act46 : ActOK 46 asgA := by
  intro e S ib im B m hok hw h
  obtain ⟨l,c,hl,ho,hm,hb⟩ := h.map
  have hbox := h.box
  unfold asgA
  by_cases hk : e.k = 4
  · refine ⟨S.set im (.mp (mpR boxI (putR l c e.n 0)) (clkR l c e.n)),call_ret' K _ (fn := t46) rfl rfl ?_,?_⟩
    · rw [encE_eq]
      simp (config := { maxSteps := 4000000 }) (disch := omega) only [t46,go_sem,TM.undef,hk,hbox,hl]
    · rw [if_pos hk]
      exact h.put hl ho hm hb ((Ex.ok_eq e).1 hok).2.1 0
  · refine ⟨S,call_ret' K _ (fn := t46) rfl rfl ?_,?_⟩
    · rw [encE_eq]
      simp (config := { maxSteps := 4000000 }) (disch := omega) only [t46,go_sem,TM.undef,hk]
    · rw [if_neg hk,List.append_nil]; exact h
theorem loop48 (e : Ex) (hk : e.k = 7) (hok : e.ok) (hw : e.w ≤ 1048576) (ib im : Nat) (x0 x3 : TV) : ∀ (k i : Nat) (x3 x7 x8 : TV) (S : Store) (B : List Int) (m : Nat),i + k = e.vs.length → AM S ib im B m →
    ∃ y3 y7 y8 S',lp' (lim K) t48L0 [x0,.ptr ib 56 0,lbE e,x3,.iv (.sl e.gv (TM.one (.int .i64) e.vs)),.iv (.int .i64 e.vs.length),.iv (.int .i64 (i : Int)),x7,x8] S
      = .ret (.exit 0,[x0,.ptr ib 56 0,lbE e,y3,.iv (.sl e.gv (TM.one (.int .i64) e.vs)),.iv (.int .i64 e.vs.length),.iv (.int .i64 e.vs.length),y7,y8],S') ∧ AM S' ib im (B ++ e.vs.drop i) (m + (e.vs.length - i))
  | 0,i,x3,x7,x8,S,B,m,h,ha => by
    obtain rfl : i = e.vs.length := by omega
    refine ⟨?_,?_,?_,S,loop_at K _ _ t48L0.eq_1 ?_,by rw [List.drop_length,List.append_nil,Nat.sub_self]; exact ha⟩
    rotate_left 3
    · simp (config := { maxSteps := 4000000 }) (disch := omega) only [go_sem]
      rfl
  | k + 1,i,x3,x7,x8,S,B,m,h,ha => by
    have hwe := Ex.w_eq e
    have hla : i < e.vs.length := by omega
    have hix := ix_one (f := IV.int .i64) (t := e.gv) (l := e.vs) (i := (i : Int)) (by omega)
    rw [Int.toNat_natCast] at hix
    have hdr := drop_get hla
    have hri : i64r (e.vs.getD i default) := ((Ex.ok_eq e).1 hok).2.2.2.1 _ (get_mem hla)
    obtain ⟨l,c,hl,ho,hm,hb⟩ := ha.map
    have hbox := ha.box
    obtain ⟨y3,y7,y8,S',ih,ha'⟩ := loop48 e hk hok hw ib im x0 x3 k (i + 1) (.iv (.int .i64 (e.vs.getD i default))) (.iv (.bool true)) (.iv (.bool true)) _ _ _ (by omega) (ha.put hl ho hm hb hri 0)
    rw [show ((i + 1 : Nat) : Int) = (i : Int) + 1 by omega] at ih
    refine ⟨y3,y7,y8,S',loop_at K _ _ t48L0.eq_1 ?_,?_⟩
    · simp (config := { maxSteps := 4000000 }) (disch := omega) only [go_sem,hix,hk,hbox,hl,wrap_i64] at ih ⊢
      exact congrArg er ih
    · rw [hdr]
      rw [List.append_assoc] at ha'
      rw [show m + (e.vs.length - i) = m + 1 + (e.vs.length - (i + 1)) by omega]
      exact ha'
theorem loop48n (e : Ex) (hk : ¬ e.k = 7) (hw : e.w ≤ 1048576) (x0 x1 : TV) (S : Store) : ∀ (k i : Nat) (x3 x7 x8 : TV),i + k = e.vs.length →
    ∃ y3 y7 y8,lp' (lim K) t48L0 [x0,x1,lbE e,x3,.iv (.sl e.gv (TM.one (.int .i64) e.vs)),.iv (.int .i64 e.vs.length),.iv (.int .i64 (i : Int)),x7,x8] S
      = .ret (.exit 0,[x0,x1,lbE e,y3,.iv (.sl e.gv (TM.one (.int .i64) e.vs)),.iv (.int .i64 e.vs.length),.iv (.int .i64 e.vs.length),y7,y8],S)
  | 0,i,x3,x7,x8,h => by
    obtain rfl : i = e.vs.length := by omega
    refine ⟨?_,?_,?_,loop_at K _ _ t48L0.eq_1 ?_⟩
    rotate_left 3
    · simp (config := { maxSteps := 4000000 }) (disch := omega) only [go_sem]
      rfl
  | k + 1,i,x3,x7,x8,h => by
    have hwe := Ex.w_eq e
    have hla : i < e.vs.length := by omega
    have hix := ix_one (f := IV.int .i64) (t := e.gv) (l := e.vs) (i := (i : Int)) (by omega)
    rw [Int.toNat_natCast] at hix
    obtain ⟨y3,y7,y8,ih⟩ := loop48n e hk hw x0 x1 S k (i + 1) (.iv (.int .i64 (e.vs.getD i default))) (.iv (.bool true)) (.iv (.bool false)) (by omega)
    rw [show ((i + 1 : Nat) : Int) = (i : Int) + 1 by omega] at ih
    refine ⟨y3,y7,y8,loop_at K _ _ t48L0.eq_1 ?_⟩
    simp (config := { maxSteps := 4000000 }) (disch := omega) only [go_sem,hix,hk,wrap_i64] at ih ⊢
    exact congrArg er ih
theorem act48 : ActOK 48 bndA := by
  intro e S ib im B m hok hw h
  have hwe := Ex.w_eq e
  unfold bndA
  by_cases hk : e.k = 7
  · obtain ⟨y3,y7,y8,S',ih,ha⟩ := loop48 e hk hok hw ib im (.iv (.agg (encE e))) (.tup []) e.vs.length 0 (.tup []) (.tup []) (.tup []) S B m (by omega) h
    rw [show ((0 : Nat) : Int) = 0 from rfl] at ih
    rw [List.drop_zero,Nat.sub_zero] at ha
    refine ⟨S',call_ret' K _ (fn := t48) rfl rfl ?_,by rw [if_pos hk]; exact ha⟩
    rw [encE_eq] at ih ⊢
    simp (config := { maxSteps := 4000000 }) (disch := omega) only [t48,go_sem,TM.undef,TM.one_length]
    rw [ih]
    simp (config := { maxSteps := 4000000 }) (disch := omega) only [go_sem]
  · obtain ⟨y3,y7,y8,ih⟩ := loop48n e hk hw (.iv (.agg (encE e))) (.ptr ib 56 0) S e.vs.length 0 (.tup []) (.tup []) (.tup []) (by omega)
    rw [show ((0 : Nat) : Int) = 0 from rfl] at ih
    refine ⟨S,call_ret' K _ (fn := t48) rfl rfl ?_,by rw [if_neg hk,List.append_nil]; exact h⟩
    rw [encE_eq] at ih ⊢
    simp (config := { maxSteps := 4000000 }) (disch := omega) only [t48,go_sem,TM.undef,TM.one_length]
    rw [ih]
    simp (config := { maxSteps := 4000000 }) (disch := omega) only [go_sem]
theorem loop45 {N : Nat} (f : Nat) (act : Ex → List Int) (ih : ∀ (e : Ex) (S : Store) (ib im : Nat) (B : List Int) (m : Nat),e.ok → e.w ≤ N → AM S ib im B m → ∃ S',(lim K).call 45 [.iv (.agg (encE e)),.fn f [] [.ptr ib 56 0]] S = .ret (.tup [],S') ∧ AM S' ib im (B ++ gath act e) (m + (gath act e).length))
    (e : Ex) (hok : e.ok) (hw : e.w ≤ N + 1) (hN : N ≤ 1048576) (ib im : Nat) (x0 x2 : TV) : ∀ (k i : Nat) (x3 x7 : TV) (S : Store) (B : List Int) (m : Nat),i + k = e.ks.length → AM S ib im B m →
    ∃ y3 y7 S',lp' (lim K) t45L0 [x0,.fn f [] [.ptr ib 56 0],x2,x3,.iv (.sl e.g (encEs e.ks)),.iv (.int .i64 e.ks.length),.iv (.int .i64 (i : Int)),x7] S
      = .ret (.exit 0,[x0,.fn f [] [.ptr ib 56 0],x2,y3,.iv (.sl e.g (encEs e.ks)),.iv (.int .i64 e.ks.length),.iv (.int .i64 e.ks.length),y7],S') ∧ AM S' ib im (B ++ gaths act (e.ks.drop i)) (m + (gaths act (e.ks.drop i)).length)
  | 0,i,x3,x7,S,B,m,h,ha => by
    obtain rfl : i = e.ks.length := by omega
    refine ⟨?_,?_,S,loop_at K _ _ t45L0.eq_1 ?_,by rw [List.drop_length,gaths,List.append_nil]; exact ha⟩
    rotate_left 2
    · simp (config := { maxSteps := 4000000 }) (disch := omega) only [go_sem]
      rfl
  | k + 1,i,x3,x7,S,B,m,h,ha => by
    have hla : i < e.ks.length := by omega
    have hwe := Ex.w_eq e
    have hwl := Ex.ws_len e.ks
    have hix := ixE (g := e.g) (ks := e.ks) (i := (i : Int)) (by omega)
    rw [Int.toNat_natCast] at hix
    have hdr := drop_get hla
    have hki : (e.ks.getD i default).ok := ((Ex.ok_eq e).1 hok).2.2.2.2.2 _ (get_mem hla)
    have hkw := Ex.kid_lt (d := e) (get_mem hla)
    generalize hx : e.ks.getD i default = x at *
    obtain ⟨S1,hc,ha1⟩ := ih x S ib im B m hki (by omega) ha
    obtain ⟨y3,y7,S',ih2,ha'⟩ := loop45 f act ih e hok hw hN ib im x0 x2 k (i + 1) (lbE x) (.iv (.bool true)) S1 _ _ (by omega) ha1
    rw [show ((i + 1 : Nat) : Int) = (i : Int) + 1 by omega] at ih2
    refine ⟨y3,y7,S',loop_at K _ _ t45L0.eq_1 ?_,?_⟩
    · rw [encE_eq] at hc
      simp (config := { maxSteps := 4000000 }) (disch := omega) only [go_sem,hix,getE5,hc,wrap_i64]
      exact congrArg er ih2
    · rw [hdr,gaths,List.length_append]
      rw [List.append_assoc] at ha'
      rw [show m + ((gath act x).length + (gaths act (List.drop (i + 1) e.ks)).length) = m + (gath act x).length + (gaths act (List.drop (i + 1) e.ks)).length by omega]
      exact ha'
theorem call45 (f : Nat) (act : Ex → List Int) (hact : ActOK f act) : ∀ (N : Nat),N ≤ 1048576 → ∀ (e : Ex) (S : Store) (ib im : Nat) (B : List Int) (m : Nat),e.ok → e.w ≤ N → AM S ib im B m →
    ∃ S',(lim K).call 45 [.iv (.agg (encE e)),.fn f [] [.ptr ib 56 0]] S = .ret (.tup [],S') ∧ AM S' ib im (B ++ gath act e) (m + (gath act e).length)
  | 0,hN,e,S,ib,im,B,m,hok,hw,ha => by have := Ex.w_eq e; omega
  | N + 1,hN,e,S,ib,im,B,m,hok,hw,ha => by
    obtain ⟨S1,hc,ha1⟩ := hact e S ib im B m hok (by omega) ha
    obtain ⟨y3,y7,S',ih,ha'⟩ := loop45 (N := N) f act (call45 f act hact N (by omega)) e hok hw (by omega) ib im (.iv (.agg (encE e))) (lbE e) e.ks.length 0 (.tup []) (.tup []) S1 _ _ (by omega) ha1
    rw [show ((0 : Nat) : Int) = 0 from rfl] at ih
    rw [List.drop_zero] at ha'
    refine ⟨S',call_ret' K _ (fn := t45) rfl rfl ?_,?_⟩
    · rw [encE_eq] at hc ih ⊢
      simp (config := { maxSteps := 4000000 }) (disch := omega) only [t45,go_sem,TM.undef,hc,encEs_len]
      rw [ih]
      simp (config := { maxSteps := 4000000 }) (disch := omega) only [go_sem]
    · rw [gath_eq,List.length_append,← List.append_assoc,← Nat.add_assoc]
      exact ha'
theorem kprim47 : K.prim 47 = some primKeys := rfl
theorem prV_keys (S : Store) (j : Nat) : prV S (some primKeys) [.map j] = primKeys [.map j] S := id rfl
theorem gath_len (act : Ex → List Int) (h : ∀ e,(act e).length + Ex.ws e.ks ≤ e.w) : ∀ (N : Nat) (e : Ex),e.w ≤ N → (gath act e).length ≤ e.w
  | 0,e,hw => by have := Ex.w_eq e; omega
  | N + 1,e,hw => by
    have key : ∀ l : List Ex,(∀ x ∈ l,x.w ≤ N) → (gaths act l).length ≤ Ex.ws l := by
      intro l
      induction l with
      | nil => intro _; rw [gaths]; simp
      | cons a r ih =>
        intro hl
        rw [gaths,Ex.ws,List.length_append]
        have := gath_len act h N a (hl a (by simp))
        have := ih (fun x hx => hl x (by simp [hx]))
        omega
    have := key e.ks (fun x hx => by have := Ex.kid_lt hx; omega)
    have := h e
    rw [gath_eq,List.length_append]
    omega
theorem asgA_len (e : Ex) : (asgA e).length + Ex.ws e.ks ≤ e.w := by
  have := Ex.w_eq e
  unfold asgA; split <;> simp <;> omega
theorem bndA_len (e : Ex) : (bndA e).length + Ex.ws e.ks ≤ e.w := by
  have := Ex.w_eq e
  unfold bndA; split <;> simp <;> omega
structure RiseOf (l B : List Int) : Prop where
  inc : l.Pairwise (· < ·)
  mem : ∀ v,v ∈ l ↔ v ∈ B
theorem rise_unique {l m B : List Int} (h : RiseOf l B) (g : RiseOf m B) : l = m := by
  have hp : l.Perm m := (List.perm_ext_iff_of_nodup (h.inc.imp (fun h => by omega)) (g.inc.imp (fun h => by omega))).2 fun v => (h.mem v).trans (g.mem v).symm
  exact List.Perm.eq_of_pairwise (le := fun a b => a < b) (fun a b _ _ h1 h2 => absurd h1 (by omega)) h.inc g.inc hp
theorem rise_keys {l : List (Nat × Int × Int)} {c : Nat} {B : List Int} (ho : RowsOK l c) (hb : ∀ v,hasR l v = true ↔ v ∈ B) : RiseOf (sortI (l.map (·.2.1))) B := by
  have hn : (sortI (l.map (·.2.1))).Nodup := ((sortI_perm _).nodup_iff).2 ho.keys
  have hp := sortI_pair (l.map (·.2.1))
  refine ⟨?_,fun v => ?_⟩
  · have h2 := List.Pairwise.and hp hn
    exact h2.imp (fun ⟨h3, h4⟩ => by have : ∀ a b : Int, a ≤ b → a ≠ b → a < b := fun a b h1 h2 => by omega
                                     exact this _ _ h3 h4)
  · rw [(sortI_perm _).mem_iff,← hasR_iff]; exact hb v
theorem call14 (e : Ex) (hok : e.ok) (hw : e.w ≤ 1048576) : ∃ l,Pure K 14 [.iv (.agg (encE e))] (.iv (.sl (sTag l) (TM.one (.int .i64) l))) ∧ RiseOf l (gath asgA e) ∧ l.length ≤ 1048576 := by
  have ha : AM [.mp (mpR boxI []) 0,.cells 56 false [.map 0]] 1 0 [] 0 := ⟨by decide,rfl,[],0,rfl,.nil _,by simp,fun v => by simp [hasR,getR]⟩
  obtain ⟨S',hc,ha'⟩ := call45 46 asgA act46 1048576 (by omega) e _ 1 0 [] 0 hok hw ha
  rw [List.nil_append,Nat.zero_add] at ha'
  obtain ⟨l,c,hl,ho,hm,hb⟩ := ha'.map
  have hbox := ha'.box
  have hlen := gath_len asgA asgA_len _ e (Nat.le_refl _)
  have hp := primKeys_mpR hl ho (by omega)
  refine ⟨sortI (l.map (·.2.1)),?_,rise_keys ho hb,by rw [(sortI_perm _).length_eq,List.length_map]; omega⟩
  refine pure_ret (S := S') (r := .iv (.sl (sTag (sortI (l.map (·.2.1)))) (TM.one (.int .i64) (sortI (l.map (·.2.1)))))) (call_ret' K _ (fn := t14) rfl rfl ?_) (by rw [resolve_iv])
  rw [mpR_nil] at hc
  rw [encE_eq] at hc ⊢
  simp (config := { maxSteps := 4000000 }) (disch := omega) only [t14,go_sem,TM.undef,hc,hbox,kprim47,prV_keys,hp]
theorem call15 (e : Ex) (hok : e.ok) (hw : e.w ≤ 1048576) : ∃ l,Pure K 15 [.iv (.agg (encE e))] (.iv (.sl (sTag l) (TM.one (.int .i64) l))) ∧ RiseOf l (gath bndA e) ∧ l.length ≤ 1048576 := by
  have ha : AM [.mp (mpR boxI []) 0,.cells 56 false [.map 0]] 1 0 [] 0 := ⟨by decide,rfl,[],0,rfl,.nil _,by simp,fun v => by simp [hasR,getR]⟩
  obtain ⟨S',hc,ha'⟩ := call45 48 bndA act48 1048576 (by omega) e _ 1 0 [] 0 hok hw ha
  rw [List.nil_append,Nat.zero_add] at ha'
  obtain ⟨l,c,hl,ho,hm,hb⟩ := ha'.map
  have hbox := ha'.box
  have hlen := gath_len bndA bndA_len _ e (Nat.le_refl _)
  have hp := primKeys_mpR hl ho (by omega)
  refine ⟨sortI (l.map (·.2.1)),?_,rise_keys ho hb,by rw [(sortI_perm _).length_eq,List.length_map]; omega⟩
  refine pure_ret (S := S') (r := .iv (.sl (sTag (sortI (l.map (·.2.1)))) (TM.one (.int .i64) (sortI (l.map (·.2.1)))))) (call_ret' K _ (fn := t15) rfl rfl ?_) (by rw [resolve_iv])
  rw [mpR_nil] at hc
  rw [encE_eq] at hc ⊢
  simp (config := { maxSteps := 4000000 }) (disch := omega) only [t15,go_sem,TM.undef,hc,hbox,kprim47,prV_keys,hp]
structure FM (S : Store) (ia im : Nat) (A : Int → Int) (B : List Int) (m : Nat) : Prop where
  ne : ia ≠ im
  cnt : ∃ l c,S[ia]? = some (.mp (mpR boxI l) c) ∧ ∀ v,cntR l v = A v
  map : ∃ l c,S[im]? = some (.mp (mpR boxI l) c) ∧ RowsOK l c ∧ l.length ≤ m ∧ ∀ v,hasR l v = true ↔ v ∈ B
theorem FM.keep {S S' : Store} {ia im : Nat} {A : Int → Int} {B : List Int} {m : Nat} (h : FM S ia im A B m) (k : ∀ (i : Nat) (b : Block),S[i]? = some b → S'[i]? = some b) : FM S' ia im A B m := by
  obtain ⟨l,c,h1,h2⟩ := h.cnt
  obtain ⟨l',c',h3,h4⟩ := h.map
  exact ⟨h.ne,⟨l,c,k _ _ h1,h2⟩,⟨l',c',k _ _ h3,h4⟩⟩
theorem FM.setA {S : Store} {ia im : Nat} {A A' : Int → Int} {B : List Int} {m : Nat} (h : FM S ia im A B m) {l : List (Nat × Int × Int)} (c : Nat) (hl : ∀ v,cntR l v = A' v) : FM (S.set ia (.mp (mpR boxI l) c)) ia im A' B m := by
  obtain ⟨l0,c0,h1,h2⟩ := h.cnt
  obtain ⟨l',c',h3,h4⟩ := h.map
  exact ⟨h.ne,⟨l,c,get_setS (lt_get h1) _,hl⟩,⟨l',c',by rw [get_setN h.ne]; exact h3,h4⟩⟩
theorem FM.setM {S : Store} {ia im : Nat} {A : Int → Int} {B : List Int} {m : Nat} (h : FM S ia im A B m) {l : List (Nat × Int × Int)} {c : Nat} (hl : S[im]? = some (.mp (mpR boxI l) c)) (ho : RowsOK l c) (hm : l.length ≤ m) (hb : ∀ v,hasR l v = true ↔ v ∈ B) {k : Int} (hk : i64r k) (a : Int) :
    FM (S.set im (.mp (mpR boxI (putR l c k a)) (clkR l c k))) ia im A (B ++ [k]) (m + 1) := by
  obtain ⟨l0,c0,h1,h2⟩ := h.cnt
  refine ⟨h.ne,⟨l0,c0,by rw [get_setN (Ne.symm h.ne)]; exact h1,h2⟩,⟨_,_,get_setS (lt_get hl) _,ho.put hk a,?_,fun v => ?_⟩⟩
  · have := len_put_le l c k a; omega
  · rw [hasR_put,Bool.or_eq_true,hb v,decide_eq_true_eq]
    simp only [List.mem_append,List.mem_singleton]
    constructor
    · rintro (rfl | h)
      · exact .inr rfl
      · exact .inl h
    · rintro (h | rfl)
      · exact .inr h
      · exact .inl rfl
abbrev cellsE (e : Ex) : Block := .cells 26 false [.iv (.int .i64 e.k),.iv (.int .i64 e.n),.iv (.sl e.gv (TM.one (.int .i64) e.vs)),.iv (.bool e.r),.iv (.sl e.g (encEs e.ks))]
theorem loop90 (e : Ex) (d : Int) (hd : d = 1 ∨ d = -1) (hk : e.k = 7) (hw : e.w ≤ 1048576) (pe pa ia im : Nat) (h1 : pe ≠ ia) (h2 : pa ≠ ia) : ∀ (k i : Nat) (x3 x7 x8 : TV) (S : Store) (A : Int → Int) (B : List Int) (m : Nat),i + k = e.vs.length →
    (∀ v,-(4000000 - (e.vs.length - i : Nat) : Int) ≤ A v ∧ A v ≤ 4000000 - (e.vs.length - i : Nat)) → S[pe]? = some (cellsE e) → S[pa]? = some (.cells 56 false [.map ia]) → FM S ia im A B m →
    ∃ y3 y7 y8 S',lp' (lim K) t90L0 [.iv (.int .i64 d),.ptr pe 26 0,.ptr pa 56 0,x3,.iv (.sl e.gv (TM.one (.int .i64) e.vs)),.iv (.int .i64 e.vs.length),.iv (.int .i64 (i : Int)),x7,x8] S
      = .ret (.exit 0,[.iv (.int .i64 d),.ptr pe 26 0,.ptr pa 56 0,y3,.iv (.sl e.gv (TM.one (.int .i64) e.vs)),.iv (.int .i64 e.vs.length),.iv (.int .i64 e.vs.length),y7,y8],S') ∧ FM S' ia im (fun v => A v + d * ((e.vs.drop i).count v : Nat)) B m ∧ Keep [ia,im] S S'
  | 0,i,x3,x7,x8,S,A,B,m,h,hA,he,hp,ha => by
    obtain rfl : i = e.vs.length := by omega
    refine ⟨?_,?_,?_,S,loop_at K _ _ t90L0.eq_1 ?_,by rw [List.drop_length]; simpa using ha,.refl _ _⟩
    rotate_left 3
    · simp (config := { maxSteps := 4000000 }) (disch := omega) only [go_sem]
      rfl
  | k + 1,i,x3,x7,x8,S,A,B,m,h,hA,he,hp,ha => by
    have hwe := Ex.w_eq e
    have hla : i < e.vs.length := by omega
    have hix := ix_one (f := IV.int .i64) (t := e.gv) (l := e.vs) (i := (i : Int)) (by omega)
    rw [Int.toNat_natCast] at hix
    have hdr := drop_get hla
    obtain ⟨l,c,hl,hc⟩ := ha.cnt
    generalize hx : e.vs.getD i default = x at *
    have hAx := hA x
    have hcx := hc x
    have ha1 := ha.setA (A' := fun v => if x = v then A v + d else A v) (l := putR l c x (A x + d)) (clkR l c x) (fun v => by
      rw [cntR_put]
      by_cases e : x = v
      · subst e; simp
      · simp [e,hc v])
    obtain ⟨y3,y7,y8,S',ih,ha',hkp⟩ := loop90 e d hd hk hw pe pa ia im h1 h2 k (i + 1) (.iv (.int .i64 x)) (.iv (.bool true)) (.iv (.bool true)) _ _ _ _ (by omega) (fun v => by
      have := hA v
      by_cases e : x = v
      · simp only [e,↓reduceIte]; rcases hd with rfl | rfl <;> omega
      · simp only [e,↓reduceIte]; omega) (by rw [get_setN (Ne.symm h1)]; exact he) (by rw [get_setN (Ne.symm h2)]; exact hp) ha1
    rw [show ((i + 1 : Nat) : Int) = (i : Int) + 1 by omega] at ih
    refine ⟨y3,y7,y8,S',loop_at K _ _ t90L0.eq_1 ?_,?_,(Keep.set S (by simp) _).trans hkp⟩
    · have hw1 : IntKind.i64.wrap (A x + d) = A x + d := wrap_i64 (by rcases hd with rfl | rfl <;> omega)
      simp (config := { maxSteps := 4000000 }) (disch := omega) only [go_sem,hix,hk,he,hp,hl,hcx,hw1,wrap_i64] at ih ⊢
      exact congrArg er ih
    · rw [hdr]
      have e2 : (fun v => (if x = v then A v + d else A v) + d * (((e.vs.drop (i + 1)).count v : Nat) : Int)) = fun v => A v + d * (((x :: e.vs.drop (i + 1)).count v : Nat) : Int) := by
        funext v
        rw [List.count_cons]
        by_cases e : x = v
        · subst e
          simp only [↓reduceIte,beq_self_eq_true]
          rcases hd with rfl | rfl <;> omega
        · have : (x == v) = false := by simp [e]
          simp only [e,↓reduceIte,this,Bool.false_eq_true,Nat.add_zero]
      rw [← e2]; exact ha'
theorem loop90n (e : Ex) (hk : ¬ e.k = 7) (hw : e.w ≤ 1048576) (d : Int) (pe : Nat) (x2 : TV) (S : Store) (he : S[pe]? = some (cellsE e)) : ∀ (k i : Nat) (x3 x7 x8 : TV),i + k = e.vs.length →
    ∃ y3 y7 y8,lp' (lim K) t90L0 [.iv (.int .i64 d),.ptr pe 26 0,x2,x3,.iv (.sl e.gv (TM.one (.int .i64) e.vs)),.iv (.int .i64 e.vs.length),.iv (.int .i64 (i : Int)),x7,x8] S
      = .ret (.exit 0,[.iv (.int .i64 d),.ptr pe 26 0,x2,y3,.iv (.sl e.gv (TM.one (.int .i64) e.vs)),.iv (.int .i64 e.vs.length),.iv (.int .i64 e.vs.length),y7,y8],S)
  | 0,i,x3,x7,x8,h => by
    obtain rfl : i = e.vs.length := by omega
    refine ⟨?_,?_,?_,loop_at K _ _ t90L0.eq_1 ?_⟩
    rotate_left 3
    · simp (config := { maxSteps := 4000000 }) (disch := omega) only [go_sem]
      rfl
  | k + 1,i,x3,x7,x8,h => by
    have hwe := Ex.w_eq e
    have hla : i < e.vs.length := by omega
    have hix := ix_one (f := IV.int .i64) (t := e.gv) (l := e.vs) (i := (i : Int)) (by omega)
    rw [Int.toNat_natCast] at hix
    obtain ⟨y3,y7,y8,ih⟩ := loop90n e hk hw d pe x2 S he k (i + 1) (.iv (.int .i64 (e.vs.getD i default))) (.iv (.bool true)) (.iv (.bool false)) (by omega)
    rw [show ((i + 1 : Nat) : Int) = (i : Int) + 1 by omega] at ih
    refine ⟨y3,y7,y8,loop_at K _ _ t90L0.eq_1 ?_⟩
    simp (config := { maxSteps := 4000000 }) (disch := omega) only [go_sem,hix,hk,he,wrap_i64] at ih ⊢
    exact congrArg er ih
def binds (e : Ex) : List Int := if e.k = 7 then e.vs else []
theorem call90 (e : Ex) (d : Int) (hd : d = 1 ∨ d = -1) (hw : e.w ≤ 1048576) (pe pa ia im : Nat) (h1 : pe ≠ ia) (h2 : pa ≠ ia) (S : Store) (A : Int → Int) (B : List Int) (m : Nat)
    (hA : ∀ v,-2900000 ≤ A v ∧ A v ≤ 2900000) (he : S[pe]? = some (cellsE e)) (hp : S[pa]? = some (.cells 56 false [.map ia])) (ha : FM S ia im A B m) :
    ∃ S',(lim K).call 90 [.iv (.int .i64 d),.ptr pe 26 0,.ptr pa 56 0] S = .ret (.tup [],S') ∧ FM S' ia im (fun v => A v + d * ((binds e).count v : Nat)) B m ∧ Keep [ia,im] S S' := by
  have hwe := Ex.w_eq e
  by_cases hk : e.k = 7
  · obtain ⟨y3,y7,y8,S',ih,ha',hkp⟩ := loop90 e d hd hk hw pe pa ia im h1 h2 e.vs.length 0 (.tup []) (.tup []) (.tup []) S A B m (by omega) (fun v => by have := hA v; omega) he hp ha
    rw [show ((0 : Nat) : Int) = 0 from rfl] at ih
    rw [List.drop_zero] at ha'
    refine ⟨S',call_ret' K _ (fn := t90) rfl rfl ?_,by unfold binds; rw [if_pos hk]; exact ha',hkp⟩
    simp (config := { maxSteps := 4000000 }) (disch := omega) only [t90,go_sem,TM.undef,TM.one_length,he]
    rw [ih]
    simp (config := { maxSteps := 4000000 }) (disch := omega) only [go_sem]
  · obtain ⟨y3,y7,y8,ih⟩ := loop90n e hk hw d pe (.ptr pa 56 0) S he e.vs.length 0 (.tup []) (.tup []) (.tup []) (by omega)
    rw [show ((0 : Nat) : Int) = 0 from rfl] at ih
    refine ⟨S,call_ret' K _ (fn := t90) rfl rfl ?_,by unfold binds; rw [if_neg hk]; simpa using ha,.refl _ _⟩
    simp (config := { maxSteps := 4000000 }) (disch := omega) only [t90,go_sem,TM.undef,TM.one_length,he]
    rw [ih]
    simp (config := { maxSteps := 4000000 }) (disch := omega) only [go_sem]
mutual
def fr : Ex → List Int
  | .mk k n gv vs r g ks => (if k = 2 ∨ k = 4 then [n] else []) ++ (frs ks).filter fun v => !decide (k = 7 ∧ v ∈ vs)
def frs : List Ex → List Int
  | [] => []
  | d :: ds => fr d ++ frs ds
end
theorem fr_eq (e : Ex) : fr e = (if e.k = 2 ∨ e.k = 4 then [e.n] else []) ++ (frs e.ks).filter fun v => !decide (e.k = 7 ∧ v ∈ e.vs) := by cases e; rw [fr]; rfl
theorem FM.mono {S : Store} {ia im : Nat} {A : Int → Int} {B : List Int} {m m' : Nat} (h : FM S ia im A B m) (hm : m ≤ m') : FM S ia im A B m' := by
  obtain ⟨l',c',h3,h4,h5,h6⟩ := h.map
  exact ⟨h.ne,h.cnt,l',c',h3,h4,by omega,h6⟩
abbrev zer (A : Int → Int) (l : List Int) : List Int := l.filter fun v => decide (A v = 0)
def FreeOK (N : Nat) : Prop := ∀ (e : Ex) (S : Store) (ia im : Nat) (A : Int → Int) (B : List Int) (m : Nat),e.ok → e.w ≤ N → (∀ v,0 ≤ A v ∧ A v + e.w ≤ 2000000) → FM S ia im A B m →
  ∃ S',(lim K).call 49 [.iv (.agg (encE e)),.map ia,.map im] S = .ret (.tup [],S') ∧ FM S' ia im A (B ++ zer A (fr e)) (m + e.w) ∧ Keep [ia,im] S S'
theorem loop49 {N : Nat} (ih : FreeOK N) (e : Ex) (hok : e.ok) (hw : e.w ≤ N + 1) (hN : N ≤ 1048576) (pa ia im : Nat) (h2 : pa ≠ ia) (h3 : pa ≠ im) (A : Int → Int) (hA : ∀ v,0 ≤ A v ∧ A v + e.w ≤ 2000000 + 1048576) (hA2 : ∀ v,A v + Ex.ws e.ks ≤ 2000000) (x0 x1 x3 x5 x7 : TV) : ∀ (k i : Nat) (x6 x11 : TV) (S : Store) (B : List Int) (m : Nat),i + k = e.ks.length → S[pa]? = some (.cells 56 false [.map ia]) → FM S ia im A B m →
    ∃ y6 y11 S',lp' (lim K) t49L0 [x0,x1,.map im,x3,.ptr pa 56 0,x5,x6,x7,.iv (.sl e.g (encEs e.ks)),.iv (.int .i64 e.ks.length),.iv (.int .i64 (i : Int)),x11] S
      = .ret (.exit 0,[x0,x1,.map im,x3,.ptr pa 56 0,x5,y6,x7,.iv (.sl e.g (encEs e.ks)),.iv (.int .i64 e.ks.length),.iv (.int .i64 e.ks.length),y11],S') ∧ FM S' ia im A (B ++ zer A (frs (e.ks.drop i))) (m + Ex.ws (e.ks.drop i)) ∧ Keep [ia,im] S S'
  | 0,i,x6,x11,S,B,m,h,hp,ha => by
    obtain rfl : i = e.ks.length := by omega
    refine ⟨?_,?_,S,loop_at K _ _ t49L0.eq_1 ?_,by rw [List.drop_length,frs,Ex.ws]; simpa [zer] using ha,.refl _ _⟩
    rotate_left 2
    · simp (config := { maxSteps := 4000000 }) (disch := omega) only [go_sem]
      rfl
  | k + 1,i,x6,x11,S,B,m,h,hp,ha => by
    have hla : i < e.ks.length := by omega
    have hwe := Ex.w_eq e
    have hwl := Ex.ws_len e.ks
    have hix := ixE (g := e.g) (ks := e.ks) (i := (i : Int)) (by omega)
    rw [Int.toNat_natCast] at hix
    have hdr := drop_get hla
    have hki : (e.ks.getD i default).ok := ((Ex.ok_eq e).1 hok).2.2.2.2.2 _ (get_mem hla)
    have hkw := Ex.kid_lt (d := e) (get_mem hla)
    have hkw2 := Ex.ws_mem (get_mem hla)
    generalize hx : e.ks.getD i default = x at *
    obtain ⟨S1,hc,ha1,hk1⟩ := ih x S ia im A B m hki (by omega) (fun v => by have := hA v; have := hA2 v; omega) ha
    obtain ⟨y6,y11,S',ih2,ha',hk2⟩ := loop49 ih e hok hw hN pa ia im h2 h3 A hA hA2 x0 x1 x3 x5 x7 k (i + 1) (lbE x) (.iv (.bool true)) S1 _ _ (by omega) (hk1.get _ _ (by simp [h2,h3]) hp) ha1
    rw [show ((i + 1 : Nat) : Int) = (i : Int) + 1 by omega] at ih2
    refine ⟨y6,y11,S',loop_at K _ _ t49L0.eq_1 ?_,?_,hk1.trans hk2⟩
    · rw [encE_eq] at hc
      simp (config := { maxSteps := 4000000 }) (disch := omega) only [go_sem,hix,getE5,hp,hc,wrap_i64]
      exact congrArg er ih2
    · rw [hdr,frs,Ex.ws]
      rw [List.append_assoc] at ha'
      rw [show zer A (fr x ++ frs (List.drop (i + 1) e.ks)) = zer A (fr x) ++ zer A (frs (List.drop (i + 1) e.ks)) from List.filter_append ..]
      rw [← Nat.add_assoc]
      exact ha'
theorem len1 (S : Store) (a : Block) : (S ++ [a]).length = S.length + 1 := by simp
theorem binds_len (e : Ex) : (binds e).length ≤ e.vs.length := by unfold binds; split <;> simp
theorem zer_split (e : Ex) (A : Int → Int) (hA : ∀ v,0 ≤ A v) : zer A (fr e) = zer A (if e.k = 2 ∨ e.k = 4 then [e.n] else []) ++ zer (fun v => A v + 1 * ((binds e).count v : Nat)) (frs e.ks) := by
  rw [fr_eq,zer,List.filter_append,List.filter_filter]
  congr 1
  apply List.filter_congr
  intro v _
  have h0 := hA v
  unfold binds
  by_cases hk : e.k = 7
  · rw [if_pos hk]
    by_cases hm : v ∈ e.vs
    · have := List.count_pos_iff.2 hm
      have e1 : ¬ (A v + 1 * (e.vs.count v : Nat) = 0) := by omega
      simp [hk,hm]; omega
    · have := List.count_eq_zero.2 hm
      simp [hk,hm,this]
  · rw [if_neg hk]
    simp [hk]
theorem tail49 {N : Nat} (ih : FreeOK N) (e : Ex) (hok : e.ok) (hw : e.w ≤ N + 1) (hN : N + 1 ≤ 1048576) (pe pa ia im : Nat) (h0 : pe ≠ ia) (h1 : pe ≠ im) (h2 : pa ≠ ia) (h3 : pa ≠ im) (A : Int → Int) (hA : ∀ v,0 ≤ A v ∧ A v + e.w ≤ 2000000) (x0 x1 x3 x5 x6 x7 x11 : TV) (S : Store) (B : List Int) (m : Nat)
    (he : S[pe]? = some (cellsE e)) (hp : S[pa]? = some (.cells 56 false [.map ia])) (ha : FM S ia im A B m) :
    ∃ (S1 S2 S3 : Store) (y6 y11 : TV),(lim K).call 90 [.iv (.int .i64 1),.ptr pe 26 0,.ptr pa 56 0] S = .ret (.tup [],S1) ∧ S1[pe]? = some (cellsE e) ∧
      lp' (lim K) t49L0 [x0,x1,.map im,x3,.ptr pa 56 0,x5,x6,x7,.iv (.sl e.g (encEs e.ks)),.iv (.int .i64 e.ks.length),.iv (.int .i64 0),x11] S1
        = .ret (.exit 0,[x0,x1,.map im,x3,.ptr pa 56 0,x5,y6,x7,.iv (.sl e.g (encEs e.ks)),.iv (.int .i64 e.ks.length),.iv (.int .i64 e.ks.length),y11],S2) ∧
      (lim K).call 90 [.iv (.int .i64 (-1)),.ptr pe 26 0,.ptr pa 56 0] S2 = .ret (.tup [],S3) ∧
      FM S3 ia im A (B ++ zer (fun v => A v + 1 * ((binds e).count v : Nat)) (frs e.ks)) (m + Ex.ws e.ks) ∧ Keep [ia,im] S S3 := by
  have hwe := Ex.w_eq e
  have hbl := binds_len e
  have hcl : ∀ v,(binds e).count v ≤ (binds e).length := fun v => List.count_le_length
  obtain ⟨S1,c1,a1,k1⟩ := call90 e 1 (.inl rfl) (by omega) pe pa ia im h0 h2 S A B m (fun v => by have := hA v; omega) he hp ha
  have hp1 := k1.get pa _ (by simp [h2,h3]) hp
  have he1 := k1.get pe _ (by simp [h0,h1]) he
  obtain ⟨y6,y11,S2,l2,a2,k2⟩ := loop49 ih e hok hw (by omega) pa ia im h2 h3 (fun v => A v + 1 * ((binds e).count v : Nat)) (fun v => by have := hA v; have := hcl v; omega) (fun v => by have := hA v; have := hcl v; omega) x0 x1 x3 x5 x7 e.ks.length 0 x6 x11 S1 B m (by omega) hp1 a1
  rw [List.drop_zero] at a2
  rw [show ((0 : Nat) : Int) = 0 from rfl] at l2
  obtain ⟨S3,c3,a3,k3⟩ := call90 e (-1) (.inr rfl) (by omega) pe pa ia im h0 h2 S2 _ _ _ (fun v => by have := hA v; have := hcl v; omega) (k2.get pe _ (by simp [h0,h1]) he1) (k2.get pa _ (by simp [h2,h3]) hp1) a2
  refine ⟨S1,S2,S3,y6,y11,c1,he1,l2,c3,?_,(k1.trans k2).trans k3⟩
  have e3 : (fun v => A v + 1 * ((binds e).count v : Nat) + -1 * ((binds e).count v : Nat)) = A := by funext v; omega
  rw [e3] at a3
  exact a3
theorem call49 : ∀ N,N ≤ 1048576 → FreeOK N
  | 0,hN => fun e S ia im A B m hok hw hA ha => by have := Ex.w_eq e; omega
  | N + 1,hN => fun e S ia im A B m hok hw hA ha => by
    have hwe := Ex.w_eq e
    obtain ⟨l,c,hl,hc⟩ := ha.cnt
    obtain ⟨lm,cm,hlm,hom,hmm,hbm⟩ := ha.map
    have hia := lt_get hl
    have him := lt_get hlm
    have hn := ((Ex.ok_eq e).1 hok).2.1
    have hcn := hc e.n
    have hAn := hA e.n
    have hne := ha.ne
    have l1 := len1 S (cellsE e)
    have ha2 : FM (S ++ [cellsE e] ++ [.cells 56 false [.map ia]]) ia im A B m := ha.keep (fun i b h => get_appO (get_appO h _) _)
    have he2 : (S ++ [cellsE e] ++ [Block.cells 56 false [.map ia]])[S.length]? = some (cellsE e) := get_app2 ..
    have hp2 : (S ++ [cellsE e] ++ [Block.cells 56 false [.map ia]])[(S ++ [cellsE e]).length]? = some (.cells 56 false [.map ia]) := get_app1 ..
    have hlen2 : (S ++ [cellsE e] ++ [Block.cells 56 false [.map ia]]).length = S.length + 2 := by simp
    by_cases hk : e.k = 2 ∨ e.k = 4
    · by_cases hz : A e.n = 0
      · have ha3 := ha2.setM (l := lm) (c := cm) (by rw [get_appL2 him]; exact hlm) hom hmm hbm hn 0
        obtain ⟨S1,S2,S3,y6,y11,c1,he1,l2,c3,a3,k3⟩ := tail49 (call49 N (by omega)) e hok hw hN S.length (S ++ [cellsE e]).length ia im (by omega) (by omega) (by omega) (by omega) A hA (.iv (.agg (encE e))) (.map ia) (.ptr S.length 26 0) (.fn 90 [] [.ptr S.length 26 0,.ptr (S ++ [cellsE e]).length 56 0]) (.tup []) (.iv (.bool true)) (.tup []) _ _ _ (by rw [get_setN (by omega)]; exact he2) (by rw [get_setN (by omega)]; exact hp2) ha3
        refine ⟨S3,call_ret' K _ (fn := t49) rfl rfl ?_,?_,?_⟩
        · rw [encE_eq] at l2 ⊢
          rcases hk with hk | hk
          · simp (config := { maxSteps := 4000000 }) (disch := omega) only [t49,go_sem,TM.undef,get_app1,get_app2,get_appL1,get_appL2,get_setN,hl,hlm,hcn,hz,c1,he1,encEs_len]
            rw [l2]
            simp (config := { maxSteps := 4000000 }) (disch := omega) only [go_sem,c3]
          · simp (config := { maxSteps := 4000000 }) (disch := omega) only [t49,go_sem,TM.undef,get_app1,get_app2,get_appL1,get_appL2,get_setN,hl,hlm,hcn,hz,c1,he1,encEs_len]
            rw [l2]
            simp (config := { maxSteps := 4000000 }) (disch := omega) only [go_sem,c3]
        · rw [zer_split e A (fun v => (hA v).1),if_pos hk]
          rw [show zer A [e.n] = [e.n] by simp [zer,hz],← List.append_assoc]
          exact a3.mono (by omega)
        · exact ((Keep.app _ S _).trans (Keep.app _ _ _)).trans ((Keep.set _ (by simp) _).trans k3)
      · obtain ⟨S1,S2,S3,y6,y11,c1,he1,l2,c3,a3,k3⟩ := tail49 (call49 N (by omega)) e hok hw hN S.length (S ++ [cellsE e]).length ia im (by omega) (by omega) (by omega) (by omega) A hA (.iv (.agg (encE e))) (.map ia) (.ptr S.length 26 0) (.fn 90 [] [.ptr S.length 26 0,.ptr (S ++ [cellsE e]).length 56 0]) (.tup []) (.iv (.bool false)) (.tup []) _ _ _ he2 hp2 ha2
        refine ⟨S3,call_ret' K _ (fn := t49) rfl rfl ?_,?_,?_⟩
        · rw [encE_eq] at l2 ⊢
          rcases hk with hk | hk
          · simp (config := { maxSteps := 4000000 }) (disch := omega) only [t49,go_sem,TM.undef,get_app1,get_app2,get_appL1,get_appL2,get_setN,hl,hlm,hcn,hz,c1,he1,encEs_len]
            rw [l2]
            simp (config := { maxSteps := 4000000 }) (disch := omega) only [go_sem,c3]
          · simp (config := { maxSteps := 4000000 }) (disch := omega) only [t49,go_sem,TM.undef,get_app1,get_app2,get_appL1,get_appL2,get_setN,hl,hlm,hcn,hz,c1,he1,encEs_len]
            rw [l2]
            simp (config := { maxSteps := 4000000 }) (disch := omega) only [go_sem,c3]
        · rw [zer_split e A (fun v => (hA v).1),if_pos hk]
          rw [show zer A [e.n] = [] by simp [zer,hz],List.nil_append]
          exact a3.mono (by omega)
        · exact ((Keep.app _ S _).trans (Keep.app _ _ _)).trans k3
    · obtain ⟨S1,S2,S3,y6,y11,c1,he1,l2,c3,a3,k3⟩ := tail49 (call49 N (by omega)) e hok hw hN S.length (S ++ [cellsE e]).length ia im (by omega) (by omega) (by omega) (by omega) A hA (.iv (.agg (encE e))) (.map ia) (.ptr S.length 26 0) (.fn 90 [] [.ptr S.length 26 0,.ptr (S ++ [cellsE e]).length 56 0]) (.tup []) (.iv (.bool false)) (.tup []) _ _ _ he2 hp2 ha2
      refine ⟨S3,call_ret' K _ (fn := t49) rfl rfl ?_,?_,?_⟩
      · rw [encE_eq] at l2 ⊢
        have hk2 : e.k ≠ 2 := fun h => hk (.inl h)
        have hk4 : e.k ≠ 4 := fun h => hk (.inr h)
        simp (config := { maxSteps := 4000000 }) (disch := omega) only [t49,go_sem,TM.undef,get_app1,get_app2,get_appL1,get_appL2,get_setN,hl,hlm,hcn,c1,he1,encEs_len]
        rw [l2]
        simp (config := { maxSteps := 4000000 }) (disch := omega) only [go_sem,c3]
      · rw [zer_split e A (fun v => (hA v).1),if_neg hk]
        rw [show zer A [] = [] from rfl,List.nil_append]
        exact a3.mono (by omega)
      · exact ((Keep.app _ S _).trans (Keep.app _ _ _)).trans k3
theorem call17 (e : Ex) (hok : e.ok) (hw : e.w ≤ 1048576) : ∃ l,Pure K 17 [.iv (.agg (encE e))] (.iv (.sl (sTag l) (TM.one (.int .i64) l))) ∧ RiseOf l (fr e) ∧ l.length ≤ 1048576 := by
  have ha : FM [.mp (mpR boxI []) 0,.mp (mpR boxI []) 0] 1 0 (fun _ => 0) [] 0 := ⟨by decide,⟨[],0,rfl,fun v => by simp [cntR,getR]⟩,[],0,rfl,.nil _,by simp,fun v => by simp [hasR,getR]⟩
  obtain ⟨S',hc,ha',_⟩ := call49 1048576 (by omega) e _ 1 0 _ [] 0 hok hw (fun v => by omega) ha
  rw [List.nil_append,Nat.zero_add] at ha'
  rw [show zer (fun _ => 0) (fr e) = fr e by simp [zer]] at ha'
  obtain ⟨l,c,hl,ho,hm,hb⟩ := ha'.map
  have hp := primKeys_mpR hl ho (by omega)
  refine ⟨sortI (l.map (·.2.1)),?_,rise_keys ho hb,by rw [(sortI_perm _).length_eq,List.length_map]; omega⟩
  refine pure_ret (S := S') (r := .iv (.sl (sTag (sortI (l.map (·.2.1)))) (TM.one (.int .i64) (sortI (l.map (·.2.1)))))) (call_ret' K _ (fn := t17) rfl rfl ?_) (by rw [resolve_iv])
  rw [mpR_nil] at hc
  rw [encE_eq] at hc ⊢
  simp (config := { maxSteps := 4000000 }) (disch := omega) only [t17,go_sem,TM.undef,hc,kprim47,prV_keys,hp]
def isC (c : Int) : Bool := decide (0 ≤ c) && decide (c ≤ 1114111) && (decide (c < 55296) || decide (57343 < c))
theorem isC_iff (c : Int) : isC c = true ↔ 0 ≤ c ∧ c ≤ 1114111 ∧ (c < 55296 ∨ 57343 < c) := by
  simp [isC]; omega
theorem call53 (c : Int) : (lim K).call 53 [.iv (.int .i64 c)] [] = .ret (.iv (.bool (isC c)),[]) := by
  refine call_ret' K [] (fn := t53) rfl rfl ?_
  simp only [t53,go_sem]
  repeat' (first | (first | refine br_dec' (fun h => ?_) (fun h => ?_) | refine br_beq' (fun h => ?_) (fun h => ?_) | refine br_bne' (fun h => ?_) (fun h => ?_) | refine br_eq' (fun h => ?_) (fun h => ?_)) | simp (disch := omega) only [go_sem])
  all_goals (congr 4; simp [isC, *])
theorem call151 (c : Int) : (lim K).call 151 [.iv (.int .i32 c)] [] = .ret (.iv (.bool (isC c)),[]) := by
  refine call_ret' K [] (fn := t151) rfl rfl ?_
  simp only [t151,go_sem]
  repeat' (first | (first | refine br_dec' (fun h => ?_) (fun h => ?_) | refine br_beq' (fun h => ?_) (fun h => ?_) | refine br_bne' (fun h => ?_) (fun h => ?_) | refine br_eq' (fun h => ?_) (fun h => ?_)) | simp (disch := omega) only [go_sem])
  all_goals (congr 4; simp [isC, *]; try omega)
theorem call117 (c : Int) : (lim K).call 117 [.iv (.int .i64 c)] [] = .ret (.iv (.bool (isC c)),[]) := by
  refine call_ret' K [] (fn := t117) rfl rfl ?_
  simp only [t117,go_sem]
  repeat' (first | (first | refine br_dec' (fun h => ?_) (fun h => ?_) | refine br_beq' (fun h => ?_) (fun h => ?_) | refine br_bne' (fun h => ?_) (fun h => ?_) | refine br_eq' (fun h => ?_) (fun h => ?_)) | simp (disch := omega) only [go_sem,call151,wrap_i32])
  all_goals (congr 4; simp [isC, *])
  all_goals (try omega)
def bytes (c : Int) : List UInt8 := (Utf8.encode c).data.toList
def bytesR (c : Int) : List UInt8 :=
  if c < 128 then [UInt8.ofNat c.toNat]
  else if c < 2048 then [UInt8.ofNat (192 + c.toNat / 64),UInt8.ofNat (128 + c.toNat % 64)]
  else if c < 65536 then [UInt8.ofNat (224 + c.toNat / 4096),UInt8.ofNat (128 + c.toNat / 64 % 64),UInt8.ofNat (128 + c.toNat % 64)]
  else [UInt8.ofNat (240 + c.toNat / 262144),UInt8.ofNat (128 + c.toNat / 4096 % 64),UInt8.ofNat (128 + c.toNat / 64 % 64),UInt8.ofNat (128 + c.toNat % 64)]
theorem ofNat_int (n : Nat) (h : n < 256) : (((UInt8.ofNat n).toNat : Nat) : Int) = (n : Int) := by
  simp [UInt8.toNat_ofNat]; omega
theorem u8_of {m : Int} {n : Nat} (h : m = n) (hn : n < 256) : IntKind.u8.wrap m = (((UInt8.ofNat n).toNat : Nat) : Int) := by
  subst h
  rw [wrap_u8 (by omega),ofNat_int n hn]
set_option maxHeartbeats 4000000 in
theorem call158 (c : Int) (h : isC c = true) : (lim K).call 158 [.iv (.int .i64 c)] [] = .ret (.iv (.sl .full (bytesIV (bytesR c))),[]) := by
  have hc := (isC_iff c).1 h
  refine call_ret' K [] (fn := t158) rfl rfl ?_
  simp only [t158,go_sem]
  repeat' (first | (first | refine br_dec' (fun h => ?_) (fun h => ?_) | refine br_beq' (fun h => ?_) (fun h => ?_) | refine br_bne' (fun h => ?_) (fun h => ?_) | refine br_eq' (fun h => ?_) (fun h => ?_)) | simp (disch := omega) only [go_sem,wrap_i64,Int.tdiv_eq_ediv_of_nonneg,Int.tmod_eq_emod_of_nonneg])
  · rw [u8_of (n := c.toNat) (by omega) (by omega)]
    simp only [bytesR, *,↓reduceIte]; rfl
  · rw [u8_of (n := 192 + c.toNat / 64) (by omega) (by omega),u8_of (n := 128 + c.toNat % 64) (by omega) (by omega)]
    simp only [bytesR, *,↓reduceIte]; rfl
  · rw [u8_of (n := 224 + c.toNat / 4096) (by omega) (by omega),u8_of (n := 128 + c.toNat / 64 % 64) (by omega) (by omega),u8_of (n := 128 + c.toNat % 64) (by omega) (by omega)]
    simp only [bytesR, *,↓reduceIte]; rfl
  · rw [u8_of (n := 240 + c.toNat / 262144) (by omega) (by omega),u8_of (n := 128 + c.toNat / 4096 % 64) (by omega) (by omega),u8_of (n := 128 + c.toNat / 64 % 64) (by omega) (by omega),u8_of (n := 128 + c.toNat % 64) (by omega) (by omega)]
    simp only [bytesR, *,↓reduceIte]; rfl
def tab (n : Nat) : Nat :=
  if n < 128 then 240 else if n < 194 then 241 else if n < 224 then 2 else if n = 224 then 19 else if n < 237 then 3 else if n = 237 then 35 else if n < 240 then 3 else if n = 240 then 52 else if n < 244 then 4 else if n = 244 then 68 else 241
theorem tab_all : (List.range 256).all (fun n => match g2[n]? with | some (.int .u8 m) => m == (tab n : Int) | _ => false) = true := by kernel_rfl
theorem tab_get {n : Nat} (h : n < 256) : g2[n]? = some (.int .u8 (tab n)) := by
  have := List.all_eq_true.1 tab_all n (List.mem_range.2 h)
  split at this
  · rename_i m e; rw [e]; simp at this; rw [this]
  · cases this
theorem hK0 : K.glob 2 = some g2 := rfl
theorem hK1 : K.glob 3 = some g3 := rfl
theorem g2_len : g2.length = 256 := by kernel_rfl
def fol (b : UInt8) : Bool := decide (128 ≤ b.toNat) && decide (b.toNat ≤ 191)
def D : List UInt8 → Nat × Nat
  | [] => (65533,0)
  | a :: r =>
    if a.toNat < 128 then (a.toNat,1)
    else if a.toNat < 194 then (65533,1)
    else if a.toNat < 224 then match r with
      | b :: _ => if fol b then (a.toNat % 32 * 64 + b.toNat % 64,2) else (65533,1)
      | _ => (65533,1)
    else if a.toNat < 240 then match r with
      | b :: c :: _ => if (decide ((if a.toNat = 224 then 160 else 128) ≤ b.toNat) && decide (b.toNat ≤ (if a.toNat = 237 then 159 else 191))) && fol c then (a.toNat % 16 * 4096 + b.toNat % 64 * 64 + c.toNat % 64,3) else (65533,1)
      | _ => (65533,1)
    else if a.toNat < 245 then match r with
      | b :: c :: d :: _ => if (decide ((if a.toNat = 240 then 144 else 128) ≤ b.toNat) && decide (b.toNat ≤ (if a.toNat = 244 then 143 else 191))) && fol c && fol d then (a.toNat % 8 * 262144 + b.toNat % 64 * 4096 + c.toNat % 64 * 64 + d.toNat % 64,4) else (65533,1)
      | _ => (65533,1)
    else (65533,1)
theorem bl (b : UInt8) : b.toNat < 256 := b.toNat_lt
theorem cons_bytes (a : UInt8) (r : List UInt8) : bytesIV (a :: r) = [.int .u8 a.toNat] :: bytesIV r := rfl
theorem call192_nil (t : Tag) : (lim K).call 192 [.iv (.sl t (bytesIV []))] [] = .ret (.tup [.iv (.int .i32 65533),.iv (.int .i64 0)],[]) := by
  refine call_ret' K [] (fn := t192) rfl rfl ?_
  simp (disch := omega) only [t192,go_sem]
theorem ixA0 {a : UInt8} : ixA 256 1 (.iv (.cp g2)) (.iv (.int .u8 a.toNat)) = some (.iv (.cp (g2.drop a.toNat))) := by
  have := bl a
  rw [ixA_int]
  have h : (0 : Int) ≤ (a.toNat : Int) ∧ (a.toNat : Int) < ((256 : Nat) : Int) := by omega
  simp only [h,and_self,↓reduceIte,Int.toNat_natCast,Nat.mul_one]
  exact addOff_cp (by rw [g2_len]; omega)
theorem ld0 {a : UInt8} (env : Env) (S : Store) : getCells env S (.iv (.cp (g2.drop a.toNat))) 1 = some [.iv (.int .u8 (tab a.toNat))] := get_drop (tab_get (bl a))
theorem w2 : IntKind.u8.wrap (bAnd 8 2 7) = 2 := by decide
theorem w240 : IntKind.i32.wrap 515396075520 = 0 := by decide
theorem w240' : IntKind.i32.wrap 240 = 240 := by decide
theorem w241 : IntKind.i32.wrap 517543559168 = -2147483648 := by decide
theorem w241' : IntKind.i32.wrap 241 = 241 := by decide
theorem m0 : IntKind.i32.wrap (bAnd 32 65533 0) = 0 := by decide
theorem i32_or0 {a : Int} (h : 0 ≤ a ∧ a ≤ 2147483647) : IntKind.i32.wrap (bOr 32 a 0) = a := by
  have e : BitVec.ofInt 32 a ||| BitVec.ofInt 32 0 = BitVec.ofInt 32 a := by simp
  unfold bOr
  rw [e,ofInt_toNat ⟨h.1,by omega⟩,wrap_i32 (by omega)]
  omega
theorem m1 : IntKind.i32.wrap (bAnd 32 65533 (-1)) = 65533 := by decide
theorem o1 : IntKind.i32.wrap (bOr 32 0 65533) = 65533 := by decide
set_option maxHeartbeats 4000000 in
theorem c30_ascii (t : Tag) (a : UInt8) (r : List UInt8) (h1 : a.toNat < 128) : (lim K).call 192 [.iv (.sl t (bytesIV (a :: r)))] [] = .ret (.tup [.iv (.int .i32 a.toNat),.iv (.int .i64 1)],[]) := by
  have ha := bl a
  refine call_ret' K [] (fn := t192) rfl rfl ?_
  have ht : tab a.toNat = 240 := by simp [tab]; omega
  simp (disch := omega) only [t192,go_sem,cons_bytes,Int.natCast_add,Int.cast_ofNat_Int,indexAddrS,hK0,hK1,ixA0,ld0,ht,w240,w240',ti32_andNot0,m0,wrap_i32,i32_or0]
set_option maxHeartbeats 4000000 in
theorem c30_bad (t : Tag) (a : UInt8) (r : List UInt8) (h1 : tab a.toNat = 241) : (lim K).call 192 [.iv (.sl t (bytesIV (a :: r)))] [] = .ret (.tup [.iv (.int .i32 65533),.iv (.int .i64 1)],[]) := by
  have ha := bl a
  refine call_ret' K [] (fn := t192) rfl rfl ?_
  simp (disch := omega) only [t192,go_sem,cons_bytes,Int.natCast_add,Int.cast_ofNat_Int,indexAddrS,hK0,hK1,ixA0,ld0,h1,w241,w241',ti32_andNot1,m1,o1,wrap_i32]
theorem D_ascii (a : UInt8) (r : List UInt8) (h : a.toNat < 128) : D (a :: r) = (a.toNat,1) := by simp [D,h]
theorem D_bad (a : UInt8) (r : List UInt8) (h : 128 ≤ a.toNat ∧ a.toNat < 194 ∨ 245 ≤ a.toNat) : D (a :: r) = (65533,1) := by
  have h1 : ¬ a.toNat < 128 := by omega
  by_cases h2 : a.toNat < 194
  · simp [D,h1,h2]
  · have h3 : ¬ a.toNat < 224 := by omega
    have h4 : ¬ a.toNat < 240 := by omega
    have h5 : ¬ a.toNat < 245 := by omega
    simp [D,h1,h2,h3,h4,h5]
theorem D_two (a : UInt8) (r : List UInt8) (h : 194 ≤ a.toNat ∧ a.toNat < 224) : D (a :: r) = match r with
      | b :: _ => if fol b then (a.toNat % 32 * 64 + b.toNat % 64,2) else (65533,1)
      | _ => (65533,1) := by
  have h1 : ¬ a.toNat < 128 := by omega
  have h2 : ¬ a.toNat < 194 := by omega
  simp only [D,h1,h2,h.2,↓reduceIte]
theorem D_three (a : UInt8) (r : List UInt8) (h : 224 ≤ a.toNat ∧ a.toNat < 240) : D (a :: r) = match r with
      | b :: c :: _ => if (decide ((if a.toNat = 224 then 160 else 128) ≤ b.toNat) && decide (b.toNat ≤ (if a.toNat = 237 then 159 else 191))) && fol c then (a.toNat % 16 * 4096 + b.toNat % 64 * 64 + c.toNat % 64,3) else (65533,1)
      | _ => (65533,1) := by
  have h1 : ¬ a.toNat < 128 := by omega
  have h2 : ¬ a.toNat < 194 := by omega
  have h3 : ¬ a.toNat < 224 := by omega
  simp only [D,h1,h2,h3,h.2,↓reduceIte]
theorem D_four (a : UInt8) (r : List UInt8) (h : 240 ≤ a.toNat ∧ a.toNat < 245) : D (a :: r) = match r with
      | b :: c :: d :: _ => if (decide ((if a.toNat = 240 then 144 else 128) ≤ b.toNat) && decide (b.toNat ≤ (if a.toNat = 244 then 143 else 191))) && fol c && fol d then (a.toNat % 8 * 262144 + b.toNat % 64 * 4096 + c.toNat % 64 * 64 + d.toNat % 64,4) else (65533,1)
      | _ => (65533,1) := by
  have h1 : ¬ a.toNat < 128 := by omega
  have h2 : ¬ a.toNat < 194 := by omega
  have h3 : ¬ a.toNat < 224 := by omega
  have h4 : ¬ a.toNat < 240 := by omega
  simp only [D,h1,h2,h3,h4,h.2,↓reduceIte]
theorem fol_t {b : UInt8} (h : 128 ≤ b.toNat ∧ b.toNat ≤ 191) : fol b = true := by simp [fol]; omega
theorem fol_f {b : UInt8} (h : ¬ (128 ≤ b.toNat ∧ b.toNat ≤ 191)) : fol b = false := by simp [fol]; omega
theorem D2_ok (a b : UInt8) (r : List UInt8) (h : 194 ≤ a.toNat ∧ a.toNat < 224) (hb : 128 ≤ b.toNat ∧ b.toNat ≤ 191) : D (a :: b :: r) = (a.toNat % 32 * 64 + b.toNat % 64,2) := by
  rw [D_two a _ h]; simp [fol_t hb]
theorem D2_no (a b : UInt8) (r : List UInt8) (h : 194 ≤ a.toNat ∧ a.toNat < 224) (hb : ¬ (128 ≤ b.toNat ∧ b.toNat ≤ 191)) : D (a :: b :: r) = (65533,1) := by
  rw [D_two a _ h]; simp [fol_f hb]
theorem D3_ok (a b c : UInt8) (r : List UInt8) (h : 224 ≤ a.toNat ∧ a.toNat < 240) (hb : (a.toNat = 224 → 160 ≤ b.toNat) ∧ 128 ≤ b.toNat ∧ (a.toNat = 237 → b.toNat ≤ 159) ∧ b.toNat ≤ 191) (hc : 128 ≤ c.toNat ∧ c.toNat ≤ 191) : D (a :: b :: c :: r) = (a.toNat % 16 * 4096 + b.toNat % 64 * 64 + c.toNat % 64,3) := by
  rw [D_three a _ h]
  have e1 : (if a.toNat = 224 then 160 else 128) ≤ b.toNat := by split <;> omega
  have e2 : b.toNat ≤ (if a.toNat = 237 then 159 else 191) := by split <;> omega
  simp only [fol_t hc,e1,e2,decide_true,Bool.and_self,↓reduceIte]
theorem D3_no (a b c : UInt8) (r : List UInt8) (h : 224 ≤ a.toNat ∧ a.toNat < 240) (hb : ¬ ((a.toNat = 224 → 160 ≤ b.toNat) ∧ 128 ≤ b.toNat ∧ (a.toNat = 237 → b.toNat ≤ 159) ∧ b.toNat ≤ 191) ∨ ¬ (128 ≤ c.toNat ∧ c.toNat ≤ 191)) : D (a :: b :: c :: r) = (65533,1) := by
  rw [D_three a _ h]
  simp only [fol,Bool.and_eq_true,decide_eq_true_eq]
  rw [if_neg]
  intro ⟨⟨h1,h2⟩,h3⟩
  split at h1 <;> split at h2 <;> omega
theorem D4_ok (a b c d : UInt8) (r : List UInt8) (h : 240 ≤ a.toNat ∧ a.toNat < 245) (hb : (a.toNat = 240 → 144 ≤ b.toNat) ∧ 128 ≤ b.toNat ∧ (a.toNat = 244 → b.toNat ≤ 143) ∧ b.toNat ≤ 191) (hc : 128 ≤ c.toNat ∧ c.toNat ≤ 191) (hd : 128 ≤ d.toNat ∧ d.toNat ≤ 191) : D (a :: b :: c :: d :: r) = (a.toNat % 8 * 262144 + b.toNat % 64 * 4096 + c.toNat % 64 * 64 + d.toNat % 64,4) := by
  rw [D_four a _ h]
  have e1 : (if a.toNat = 240 then 144 else 128) ≤ b.toNat := by split <;> omega
  have e2 : b.toNat ≤ (if a.toNat = 244 then 143 else 191) := by split <;> omega
  simp only [fol_t hc,fol_t hd,e1,e2,decide_true,Bool.and_self,↓reduceIte]
theorem D4_no (a b c d : UInt8) (r : List UInt8) (h : 240 ≤ a.toNat ∧ a.toNat < 245) (hb : ¬ ((a.toNat = 240 → 144 ≤ b.toNat) ∧ 128 ≤ b.toNat ∧ (a.toNat = 244 → b.toNat ≤ 143) ∧ b.toNat ≤ 191) ∨ ¬ (128 ≤ c.toNat ∧ c.toNat ≤ 191) ∨ ¬ (128 ≤ d.toNat ∧ d.toNat ≤ 191)) : D (a :: b :: c :: d :: r) = (65533,1) := by
  rw [D_four a _ h]
  simp only [fol,Bool.and_eq_true,decide_eq_true_eq]
  rw [if_neg]
  intro ⟨⟨⟨h1,h2⟩,h3⟩,h4⟩
  split at h1 <;> split at h2 <;> omega
set_option maxHeartbeats 8000000 in
theorem c30_two (t : Tag) (a : UInt8) (r : List UInt8) (h1 : tab a.toNat = 2) (h2 : 194 ≤ a.toNat ∧ a.toNat < 224) : (lim K).call 192 [.iv (.sl t (bytesIV (a :: r)))] [] = .ret (.tup [.iv (.int .i32 (D (a :: r)).1),.iv (.int .i64 (D (a :: r)).2)],[]) := by
  have ha := bl a
  refine call_ret' K [] (fn := t192) rfl rfl ?_
  have e0 : addOff (.iv (.cp g3)) 0 = some (.iv (.cp g3)) := rfl
  have e1 : ∀ env S,getCells env S (.iv (.cp g3)) 2 = some [.iv (.int .u8 128),.iv (.int .u8 191)] := fun _ _ => rfl
  have sz : IntKind.u8.wrap (bAnd 8 2 7) = 2 := by decide
  cases r with
  | nil =>
    simp (disch := omega) only [t192,go_sem,cons_bytes,Int.natCast_add,Int.cast_ofNat_Int,indexAddrS,hK0,hK1,ixA0,ld0,h1,wrap_i32,wrap_i64,e0,e1,sz,tu8_and31,tu8_and15,tu8_and7,tu8_and63,ti32_or6,ti32_or12,ti32_or18]
    repeat' (first | (first | refine br_dec' (fun h => ?_) (fun h => ?_) | refine br_beq' (fun h => ?_) (fun h => ?_) | refine br_bne' (fun h => ?_) (fun h => ?_) | refine br_eq' (fun h => ?_) (fun h => ?_)) | simp (disch := omega) only [go_sem,cons_bytes,Int.natCast_add,Int.cast_ofNat_Int,indexAddrS,hK0,hK1,ixA0,ld0,h1,wrap_i32,wrap_i64,e0,e1,sz,tu8_and31,tu8_and15,tu8_and7,tu8_and63,ti32_or6,ti32_or12,ti32_or18])
    all_goals (rw [D_two a _ (by omega)]; rfl)
  | cons b r =>
    have hb := bl b; simp (disch := omega) only [t192,go_sem,cons_bytes,Int.natCast_add,Int.cast_ofNat_Int,indexAddrS,hK0,hK1,ixA0,ld0,h1,wrap_i32,wrap_i64,e0,e1,sz,tu8_and31,tu8_and15,tu8_and7,tu8_and63,ti32_or6,ti32_or12,ti32_or18]
    repeat' (first | (first | refine br_dec' (fun h => ?_) (fun h => ?_) | refine br_beq' (fun h => ?_) (fun h => ?_) | refine br_bne' (fun h => ?_) (fun h => ?_) | refine br_eq' (fun h => ?_) (fun h => ?_)) | simp (disch := omega) only [go_sem,cons_bytes,Int.natCast_add,Int.cast_ofNat_Int,indexAddrS,hK0,hK1,ixA0,ld0,h1,wrap_i32,wrap_i64,e0,e1,sz,tu8_and31,tu8_and15,tu8_and7,tu8_and63,ti32_or6,ti32_or12,ti32_or18])
    all_goals (first | (rw [D2_no a b _ (by omega) (by omega)]; rfl) | (rw [D2_ok a b _ (by omega) (by omega)]; simp))
set_option maxHeartbeats 8000000 in
theorem c30_e0 (t : Tag) (a : UInt8) (r : List UInt8) (h1 : tab a.toNat = 19) (h2 : a.toNat = 224) : (lim K).call 192 [.iv (.sl t (bytesIV (a :: r)))] [] = .ret (.tup [.iv (.int .i32 (D (a :: r)).1),.iv (.int .i64 (D (a :: r)).2)],[]) := by
  have ha := bl a
  refine call_ret' K [] (fn := t192) rfl rfl ?_
  have e0 : addOff (.iv (.cp g3)) 2 = some (.iv (.cp (g3.drop 2))) := rfl
  have e1 : ∀ env S,getCells env S (.iv (.cp (g3.drop 2))) 2 = some [.iv (.int .u8 160),.iv (.int .u8 191)] := fun _ _ => rfl
  have sz : IntKind.u8.wrap (bAnd 8 19 7) = 3 := by decide
  cases r with
  | nil =>
    simp (disch := omega) only [t192,go_sem,cons_bytes,Int.natCast_add,Int.cast_ofNat_Int,indexAddrS,hK0,hK1,ixA0,ld0,h1,wrap_i32,wrap_i64,e0,e1,sz,tu8_and31,tu8_and15,tu8_and7,tu8_and63,ti32_or6,ti32_or12,ti32_or18]
    repeat' (first | (first | refine br_dec' (fun h => ?_) (fun h => ?_) | refine br_beq' (fun h => ?_) (fun h => ?_) | refine br_bne' (fun h => ?_) (fun h => ?_) | refine br_eq' (fun h => ?_) (fun h => ?_)) | simp (disch := omega) only [go_sem,cons_bytes,Int.natCast_add,Int.cast_ofNat_Int,indexAddrS,hK0,hK1,ixA0,ld0,h1,wrap_i32,wrap_i64,e0,e1,sz,tu8_and31,tu8_and15,tu8_and7,tu8_and63,ti32_or6,ti32_or12,ti32_or18])
    all_goals (rw [D_three a _ (by omega)]; rfl)
  | cons b r =>
    cases r with
    | nil =>
      have hb := bl b; simp (disch := omega) only [t192,go_sem,cons_bytes,Int.natCast_add,Int.cast_ofNat_Int,indexAddrS,hK0,hK1,ixA0,ld0,h1,wrap_i32,wrap_i64,e0,e1,sz,tu8_and31,tu8_and15,tu8_and7,tu8_and63,ti32_or6,ti32_or12,ti32_or18]
      repeat' (first | (first | refine br_dec' (fun h => ?_) (fun h => ?_) | refine br_beq' (fun h => ?_) (fun h => ?_) | refine br_bne' (fun h => ?_) (fun h => ?_) | refine br_eq' (fun h => ?_) (fun h => ?_)) | simp (disch := omega) only [go_sem,cons_bytes,Int.natCast_add,Int.cast_ofNat_Int,indexAddrS,hK0,hK1,ixA0,ld0,h1,wrap_i32,wrap_i64,e0,e1,sz,tu8_and31,tu8_and15,tu8_and7,tu8_and63,ti32_or6,ti32_or12,ti32_or18])
      all_goals (rw [D_three a _ (by omega)]; rfl)
    | cons c r =>
      have hb := bl b; have hc := bl c; simp (disch := omega) only [t192,go_sem,cons_bytes,Int.natCast_add,Int.cast_ofNat_Int,indexAddrS,hK0,hK1,ixA0,ld0,h1,wrap_i32,wrap_i64,e0,e1,sz,tu8_and31,tu8_and15,tu8_and7,tu8_and63,ti32_or6,ti32_or12,ti32_or18]
      repeat' (first | (first | refine br_dec' (fun h => ?_) (fun h => ?_) | refine br_beq' (fun h => ?_) (fun h => ?_) | refine br_bne' (fun h => ?_) (fun h => ?_) | refine br_eq' (fun h => ?_) (fun h => ?_)) | simp (disch := omega) only [go_sem,cons_bytes,Int.natCast_add,Int.cast_ofNat_Int,indexAddrS,hK0,hK1,ixA0,ld0,h1,wrap_i32,wrap_i64,e0,e1,sz,tu8_and31,tu8_and15,tu8_and7,tu8_and63,ti32_or6,ti32_or12,ti32_or18])
      all_goals (first | (rw [D3_no a b c _ (by omega) (by omega)]; rfl) | (rw [D3_ok a b c _ (by omega) (by omega) (by omega)]; simp))
set_option maxHeartbeats 8000000 in
theorem c30_e1 (t : Tag) (a : UInt8) (r : List UInt8) (h1 : tab a.toNat = 3) (h2 : 224 < a.toNat ∧ a.toNat < 237 ∨ 237 < a.toNat ∧ a.toNat < 240) : (lim K).call 192 [.iv (.sl t (bytesIV (a :: r)))] [] = .ret (.tup [.iv (.int .i32 (D (a :: r)).1),.iv (.int .i64 (D (a :: r)).2)],[]) := by
  have ha := bl a
  refine call_ret' K [] (fn := t192) rfl rfl ?_
  have e0 : addOff (.iv (.cp g3)) 0 = some (.iv (.cp g3)) := rfl
  have e1 : ∀ env S,getCells env S (.iv (.cp g3)) 2 = some [.iv (.int .u8 128),.iv (.int .u8 191)] := fun _ _ => rfl
  have sz : IntKind.u8.wrap (bAnd 8 3 7) = 3 := by decide
  cases r with
  | nil =>
    simp (disch := omega) only [t192,go_sem,cons_bytes,Int.natCast_add,Int.cast_ofNat_Int,indexAddrS,hK0,hK1,ixA0,ld0,h1,wrap_i32,wrap_i64,e0,e1,sz,tu8_and31,tu8_and15,tu8_and7,tu8_and63,ti32_or6,ti32_or12,ti32_or18]
    repeat' (first | (first | refine br_dec' (fun h => ?_) (fun h => ?_) | refine br_beq' (fun h => ?_) (fun h => ?_) | refine br_bne' (fun h => ?_) (fun h => ?_) | refine br_eq' (fun h => ?_) (fun h => ?_)) | simp (disch := omega) only [go_sem,cons_bytes,Int.natCast_add,Int.cast_ofNat_Int,indexAddrS,hK0,hK1,ixA0,ld0,h1,wrap_i32,wrap_i64,e0,e1,sz,tu8_and31,tu8_and15,tu8_and7,tu8_and63,ti32_or6,ti32_or12,ti32_or18])
    all_goals (rw [D_three a _ (by omega)]; rfl)
  | cons b r =>
    cases r with
    | nil =>
      have hb := bl b; simp (disch := omega) only [t192,go_sem,cons_bytes,Int.natCast_add,Int.cast_ofNat_Int,indexAddrS,hK0,hK1,ixA0,ld0,h1,wrap_i32,wrap_i64,e0,e1,sz,tu8_and31,tu8_and15,tu8_and7,tu8_and63,ti32_or6,ti32_or12,ti32_or18]
      repeat' (first | (first | refine br_dec' (fun h => ?_) (fun h => ?_) | refine br_beq' (fun h => ?_) (fun h => ?_) | refine br_bne' (fun h => ?_) (fun h => ?_) | refine br_eq' (fun h => ?_) (fun h => ?_)) | simp (disch := omega) only [go_sem,cons_bytes,Int.natCast_add,Int.cast_ofNat_Int,indexAddrS,hK0,hK1,ixA0,ld0,h1,wrap_i32,wrap_i64,e0,e1,sz,tu8_and31,tu8_and15,tu8_and7,tu8_and63,ti32_or6,ti32_or12,ti32_or18])
      all_goals (rw [D_three a _ (by omega)]; rfl)
    | cons c r =>
      have hb := bl b; have hc := bl c; simp (disch := omega) only [t192,go_sem,cons_bytes,Int.natCast_add,Int.cast_ofNat_Int,indexAddrS,hK0,hK1,ixA0,ld0,h1,wrap_i32,wrap_i64,e0,e1,sz,tu8_and31,tu8_and15,tu8_and7,tu8_and63,ti32_or6,ti32_or12,ti32_or18]
      repeat' (first | (first | refine br_dec' (fun h => ?_) (fun h => ?_) | refine br_beq' (fun h => ?_) (fun h => ?_) | refine br_bne' (fun h => ?_) (fun h => ?_) | refine br_eq' (fun h => ?_) (fun h => ?_)) | simp (disch := omega) only [go_sem,cons_bytes,Int.natCast_add,Int.cast_ofNat_Int,indexAddrS,hK0,hK1,ixA0,ld0,h1,wrap_i32,wrap_i64,e0,e1,sz,tu8_and31,tu8_and15,tu8_and7,tu8_and63,ti32_or6,ti32_or12,ti32_or18])
      all_goals (first | (rw [D3_no a b c _ (by omega) (by omega)]; rfl) | (rw [D3_ok a b c _ (by omega) (by omega) (by omega)]; simp))
set_option maxHeartbeats 8000000 in
theorem c30_ed (t : Tag) (a : UInt8) (r : List UInt8) (h1 : tab a.toNat = 35) (h2 : a.toNat = 237) : (lim K).call 192 [.iv (.sl t (bytesIV (a :: r)))] [] = .ret (.tup [.iv (.int .i32 (D (a :: r)).1),.iv (.int .i64 (D (a :: r)).2)],[]) := by
  have ha := bl a
  refine call_ret' K [] (fn := t192) rfl rfl ?_
  have e0 : addOff (.iv (.cp g3)) 4 = some (.iv (.cp (g3.drop 4))) := rfl
  have e1 : ∀ env S,getCells env S (.iv (.cp (g3.drop 4))) 2 = some [.iv (.int .u8 128),.iv (.int .u8 159)] := fun _ _ => rfl
  have sz : IntKind.u8.wrap (bAnd 8 35 7) = 3 := by decide
  cases r with
  | nil =>
    simp (disch := omega) only [t192,go_sem,cons_bytes,Int.natCast_add,Int.cast_ofNat_Int,indexAddrS,hK0,hK1,ixA0,ld0,h1,wrap_i32,wrap_i64,e0,e1,sz,tu8_and31,tu8_and15,tu8_and7,tu8_and63,ti32_or6,ti32_or12,ti32_or18]
    repeat' (first | (first | refine br_dec' (fun h => ?_) (fun h => ?_) | refine br_beq' (fun h => ?_) (fun h => ?_) | refine br_bne' (fun h => ?_) (fun h => ?_) | refine br_eq' (fun h => ?_) (fun h => ?_)) | simp (disch := omega) only [go_sem,cons_bytes,Int.natCast_add,Int.cast_ofNat_Int,indexAddrS,hK0,hK1,ixA0,ld0,h1,wrap_i32,wrap_i64,e0,e1,sz,tu8_and31,tu8_and15,tu8_and7,tu8_and63,ti32_or6,ti32_or12,ti32_or18])
    all_goals (rw [D_three a _ (by omega)]; rfl)
  | cons b r =>
    cases r with
    | nil =>
      have hb := bl b; simp (disch := omega) only [t192,go_sem,cons_bytes,Int.natCast_add,Int.cast_ofNat_Int,indexAddrS,hK0,hK1,ixA0,ld0,h1,wrap_i32,wrap_i64,e0,e1,sz,tu8_and31,tu8_and15,tu8_and7,tu8_and63,ti32_or6,ti32_or12,ti32_or18]
      repeat' (first | (first | refine br_dec' (fun h => ?_) (fun h => ?_) | refine br_beq' (fun h => ?_) (fun h => ?_) | refine br_bne' (fun h => ?_) (fun h => ?_) | refine br_eq' (fun h => ?_) (fun h => ?_)) | simp (disch := omega) only [go_sem,cons_bytes,Int.natCast_add,Int.cast_ofNat_Int,indexAddrS,hK0,hK1,ixA0,ld0,h1,wrap_i32,wrap_i64,e0,e1,sz,tu8_and31,tu8_and15,tu8_and7,tu8_and63,ti32_or6,ti32_or12,ti32_or18])
      all_goals (rw [D_three a _ (by omega)]; rfl)
    | cons c r =>
      have hb := bl b; have hc := bl c; simp (disch := omega) only [t192,go_sem,cons_bytes,Int.natCast_add,Int.cast_ofNat_Int,indexAddrS,hK0,hK1,ixA0,ld0,h1,wrap_i32,wrap_i64,e0,e1,sz,tu8_and31,tu8_and15,tu8_and7,tu8_and63,ti32_or6,ti32_or12,ti32_or18]
      repeat' (first | (first | refine br_dec' (fun h => ?_) (fun h => ?_) | refine br_beq' (fun h => ?_) (fun h => ?_) | refine br_bne' (fun h => ?_) (fun h => ?_) | refine br_eq' (fun h => ?_) (fun h => ?_)) | simp (disch := omega) only [go_sem,cons_bytes,Int.natCast_add,Int.cast_ofNat_Int,indexAddrS,hK0,hK1,ixA0,ld0,h1,wrap_i32,wrap_i64,e0,e1,sz,tu8_and31,tu8_and15,tu8_and7,tu8_and63,ti32_or6,ti32_or12,ti32_or18])
      all_goals (first | (rw [D3_no a b c _ (by omega) (by omega)]; rfl) | (rw [D3_ok a b c _ (by omega) (by omega) (by omega)]; simp))
set_option maxHeartbeats 8000000 in
theorem c30_f0 (t : Tag) (a : UInt8) (r : List UInt8) (h1 : tab a.toNat = 52) (h2 : a.toNat = 240) : (lim K).call 192 [.iv (.sl t (bytesIV (a :: r)))] [] = .ret (.tup [.iv (.int .i32 (D (a :: r)).1),.iv (.int .i64 (D (a :: r)).2)],[]) := by
  have ha := bl a
  refine call_ret' K [] (fn := t192) rfl rfl ?_
  have e0 : addOff (.iv (.cp g3)) 6 = some (.iv (.cp (g3.drop 6))) := rfl
  have e1 : ∀ env S,getCells env S (.iv (.cp (g3.drop 6))) 2 = some [.iv (.int .u8 144),.iv (.int .u8 191)] := fun _ _ => rfl
  have sz : IntKind.u8.wrap (bAnd 8 52 7) = 4 := by decide
  cases r with
  | nil =>
    simp (disch := omega) only [t192,go_sem,cons_bytes,Int.natCast_add,Int.cast_ofNat_Int,indexAddrS,hK0,hK1,ixA0,ld0,h1,wrap_i32,wrap_i64,e0,e1,sz,tu8_and31,tu8_and15,tu8_and7,tu8_and63,ti32_or6,ti32_or12,ti32_or18]
    repeat' (first | (first | refine br_dec' (fun h => ?_) (fun h => ?_) | refine br_beq' (fun h => ?_) (fun h => ?_) | refine br_bne' (fun h => ?_) (fun h => ?_) | refine br_eq' (fun h => ?_) (fun h => ?_)) | simp (disch := omega) only [go_sem,cons_bytes,Int.natCast_add,Int.cast_ofNat_Int,indexAddrS,hK0,hK1,ixA0,ld0,h1,wrap_i32,wrap_i64,e0,e1,sz,tu8_and31,tu8_and15,tu8_and7,tu8_and63,ti32_or6,ti32_or12,ti32_or18])
    all_goals (rw [D_four a _ (by omega)]; rfl)
  | cons b r =>
    cases r with
    | nil =>
      have hb := bl b; simp (disch := omega) only [t192,go_sem,cons_bytes,Int.natCast_add,Int.cast_ofNat_Int,indexAddrS,hK0,hK1,ixA0,ld0,h1,wrap_i32,wrap_i64,e0,e1,sz,tu8_and31,tu8_and15,tu8_and7,tu8_and63,ti32_or6,ti32_or12,ti32_or18]
      repeat' (first | (first | refine br_dec' (fun h => ?_) (fun h => ?_) | refine br_beq' (fun h => ?_) (fun h => ?_) | refine br_bne' (fun h => ?_) (fun h => ?_) | refine br_eq' (fun h => ?_) (fun h => ?_)) | simp (disch := omega) only [go_sem,cons_bytes,Int.natCast_add,Int.cast_ofNat_Int,indexAddrS,hK0,hK1,ixA0,ld0,h1,wrap_i32,wrap_i64,e0,e1,sz,tu8_and31,tu8_and15,tu8_and7,tu8_and63,ti32_or6,ti32_or12,ti32_or18])
      all_goals (rw [D_four a _ (by omega)]; rfl)
    | cons c r =>
      cases r with
      | nil =>
        have hb := bl b; have hc := bl c; simp (disch := omega) only [t192,go_sem,cons_bytes,Int.natCast_add,Int.cast_ofNat_Int,indexAddrS,hK0,hK1,ixA0,ld0,h1,wrap_i32,wrap_i64,e0,e1,sz,tu8_and31,tu8_and15,tu8_and7,tu8_and63,ti32_or6,ti32_or12,ti32_or18]
        repeat' (first | (first | refine br_dec' (fun h => ?_) (fun h => ?_) | refine br_beq' (fun h => ?_) (fun h => ?_) | refine br_bne' (fun h => ?_) (fun h => ?_) | refine br_eq' (fun h => ?_) (fun h => ?_)) | simp (disch := omega) only [go_sem,cons_bytes,Int.natCast_add,Int.cast_ofNat_Int,indexAddrS,hK0,hK1,ixA0,ld0,h1,wrap_i32,wrap_i64,e0,e1,sz,tu8_and31,tu8_and15,tu8_and7,tu8_and63,ti32_or6,ti32_or12,ti32_or18])
        all_goals (rw [D_four a _ (by omega)]; rfl)
      | cons d r =>
        have hb := bl b; have hc := bl c; have hd := bl d; simp (disch := omega) only [t192,go_sem,cons_bytes,Int.natCast_add,Int.cast_ofNat_Int,indexAddrS,hK0,hK1,ixA0,ld0,h1,wrap_i32,wrap_i64,e0,e1,sz,tu8_and31,tu8_and15,tu8_and7,tu8_and63,ti32_or6,ti32_or12,ti32_or18]
        repeat' (first | (first | refine br_dec' (fun h => ?_) (fun h => ?_) | refine br_beq' (fun h => ?_) (fun h => ?_) | refine br_bne' (fun h => ?_) (fun h => ?_) | refine br_eq' (fun h => ?_) (fun h => ?_)) | simp (disch := omega) only [go_sem,cons_bytes,Int.natCast_add,Int.cast_ofNat_Int,indexAddrS,hK0,hK1,ixA0,ld0,h1,wrap_i32,wrap_i64,e0,e1,sz,tu8_and31,tu8_and15,tu8_and7,tu8_and63,ti32_or6,ti32_or12,ti32_or18])
        all_goals (first | (rw [D4_no a b c d _ (by omega) (by omega)]; rfl) | (rw [D4_ok a b c d _ (by omega) (by omega) (by omega) (by omega)]; simp))
set_option maxHeartbeats 8000000 in
theorem c30_f1 (t : Tag) (a : UInt8) (r : List UInt8) (h1 : tab a.toNat = 4) (h2 : 240 < a.toNat ∧ a.toNat < 244) : (lim K).call 192 [.iv (.sl t (bytesIV (a :: r)))] [] = .ret (.tup [.iv (.int .i32 (D (a :: r)).1),.iv (.int .i64 (D (a :: r)).2)],[]) := by
  have ha := bl a
  refine call_ret' K [] (fn := t192) rfl rfl ?_
  have e0 : addOff (.iv (.cp g3)) 0 = some (.iv (.cp g3)) := rfl
  have e1 : ∀ env S,getCells env S (.iv (.cp g3)) 2 = some [.iv (.int .u8 128),.iv (.int .u8 191)] := fun _ _ => rfl
  have sz : IntKind.u8.wrap (bAnd 8 4 7) = 4 := by decide
  cases r with
  | nil =>
    simp (disch := omega) only [t192,go_sem,cons_bytes,Int.natCast_add,Int.cast_ofNat_Int,indexAddrS,hK0,hK1,ixA0,ld0,h1,wrap_i32,wrap_i64,e0,e1,sz,tu8_and31,tu8_and15,tu8_and7,tu8_and63,ti32_or6,ti32_or12,ti32_or18]
    repeat' (first | (first | refine br_dec' (fun h => ?_) (fun h => ?_) | refine br_beq' (fun h => ?_) (fun h => ?_) | refine br_bne' (fun h => ?_) (fun h => ?_) | refine br_eq' (fun h => ?_) (fun h => ?_)) | simp (disch := omega) only [go_sem,cons_bytes,Int.natCast_add,Int.cast_ofNat_Int,indexAddrS,hK0,hK1,ixA0,ld0,h1,wrap_i32,wrap_i64,e0,e1,sz,tu8_and31,tu8_and15,tu8_and7,tu8_and63,ti32_or6,ti32_or12,ti32_or18])
    all_goals (rw [D_four a _ (by omega)]; rfl)
  | cons b r =>
    cases r with
    | nil =>
      have hb := bl b; simp (disch := omega) only [t192,go_sem,cons_bytes,Int.natCast_add,Int.cast_ofNat_Int,indexAddrS,hK0,hK1,ixA0,ld0,h1,wrap_i32,wrap_i64,e0,e1,sz,tu8_and31,tu8_and15,tu8_and7,tu8_and63,ti32_or6,ti32_or12,ti32_or18]
      repeat' (first | (first | refine br_dec' (fun h => ?_) (fun h => ?_) | refine br_beq' (fun h => ?_) (fun h => ?_) | refine br_bne' (fun h => ?_) (fun h => ?_) | refine br_eq' (fun h => ?_) (fun h => ?_)) | simp (disch := omega) only [go_sem,cons_bytes,Int.natCast_add,Int.cast_ofNat_Int,indexAddrS,hK0,hK1,ixA0,ld0,h1,wrap_i32,wrap_i64,e0,e1,sz,tu8_and31,tu8_and15,tu8_and7,tu8_and63,ti32_or6,ti32_or12,ti32_or18])
      all_goals (rw [D_four a _ (by omega)]; rfl)
    | cons c r =>
      cases r with
      | nil =>
        have hb := bl b; have hc := bl c; simp (disch := omega) only [t192,go_sem,cons_bytes,Int.natCast_add,Int.cast_ofNat_Int,indexAddrS,hK0,hK1,ixA0,ld0,h1,wrap_i32,wrap_i64,e0,e1,sz,tu8_and31,tu8_and15,tu8_and7,tu8_and63,ti32_or6,ti32_or12,ti32_or18]
        repeat' (first | (first | refine br_dec' (fun h => ?_) (fun h => ?_) | refine br_beq' (fun h => ?_) (fun h => ?_) | refine br_bne' (fun h => ?_) (fun h => ?_) | refine br_eq' (fun h => ?_) (fun h => ?_)) | simp (disch := omega) only [go_sem,cons_bytes,Int.natCast_add,Int.cast_ofNat_Int,indexAddrS,hK0,hK1,ixA0,ld0,h1,wrap_i32,wrap_i64,e0,e1,sz,tu8_and31,tu8_and15,tu8_and7,tu8_and63,ti32_or6,ti32_or12,ti32_or18])
        all_goals (rw [D_four a _ (by omega)]; rfl)
      | cons d r =>
        have hb := bl b; have hc := bl c; have hd := bl d; simp (disch := omega) only [t192,go_sem,cons_bytes,Int.natCast_add,Int.cast_ofNat_Int,indexAddrS,hK0,hK1,ixA0,ld0,h1,wrap_i32,wrap_i64,e0,e1,sz,tu8_and31,tu8_and15,tu8_and7,tu8_and63,ti32_or6,ti32_or12,ti32_or18]
        repeat' (first | (first | refine br_dec' (fun h => ?_) (fun h => ?_) | refine br_beq' (fun h => ?_) (fun h => ?_) | refine br_bne' (fun h => ?_) (fun h => ?_) | refine br_eq' (fun h => ?_) (fun h => ?_)) | simp (disch := omega) only [go_sem,cons_bytes,Int.natCast_add,Int.cast_ofNat_Int,indexAddrS,hK0,hK1,ixA0,ld0,h1,wrap_i32,wrap_i64,e0,e1,sz,tu8_and31,tu8_and15,tu8_and7,tu8_and63,ti32_or6,ti32_or12,ti32_or18])
        all_goals (first | (rw [D4_no a b c d _ (by omega) (by omega)]; rfl) | (rw [D4_ok a b c d _ (by omega) (by omega) (by omega) (by omega)]; simp))
set_option maxHeartbeats 8000000 in
theorem c30_f4 (t : Tag) (a : UInt8) (r : List UInt8) (h1 : tab a.toNat = 68) (h2 : a.toNat = 244) : (lim K).call 192 [.iv (.sl t (bytesIV (a :: r)))] [] = .ret (.tup [.iv (.int .i32 (D (a :: r)).1),.iv (.int .i64 (D (a :: r)).2)],[]) := by
  have ha := bl a
  refine call_ret' K [] (fn := t192) rfl rfl ?_
  have e0 : addOff (.iv (.cp g3)) 8 = some (.iv (.cp (g3.drop 8))) := rfl
  have e1 : ∀ env S,getCells env S (.iv (.cp (g3.drop 8))) 2 = some [.iv (.int .u8 128),.iv (.int .u8 143)] := fun _ _ => rfl
  have sz : IntKind.u8.wrap (bAnd 8 68 7) = 4 := by decide
  cases r with
  | nil =>
    simp (disch := omega) only [t192,go_sem,cons_bytes,Int.natCast_add,Int.cast_ofNat_Int,indexAddrS,hK0,hK1,ixA0,ld0,h1,wrap_i32,wrap_i64,e0,e1,sz,tu8_and31,tu8_and15,tu8_and7,tu8_and63,ti32_or6,ti32_or12,ti32_or18]
    repeat' (first | (first | refine br_dec' (fun h => ?_) (fun h => ?_) | refine br_beq' (fun h => ?_) (fun h => ?_) | refine br_bne' (fun h => ?_) (fun h => ?_) | refine br_eq' (fun h => ?_) (fun h => ?_)) | simp (disch := omega) only [go_sem,cons_bytes,Int.natCast_add,Int.cast_ofNat_Int,indexAddrS,hK0,hK1,ixA0,ld0,h1,wrap_i32,wrap_i64,e0,e1,sz,tu8_and31,tu8_and15,tu8_and7,tu8_and63,ti32_or6,ti32_or12,ti32_or18])
    all_goals (rw [D_four a _ (by omega)]; rfl)
  | cons b r =>
    cases r with
    | nil =>
      have hb := bl b; simp (disch := omega) only [t192,go_sem,cons_bytes,Int.natCast_add,Int.cast_ofNat_Int,indexAddrS,hK0,hK1,ixA0,ld0,h1,wrap_i32,wrap_i64,e0,e1,sz,tu8_and31,tu8_and15,tu8_and7,tu8_and63,ti32_or6,ti32_or12,ti32_or18]
      repeat' (first | (first | refine br_dec' (fun h => ?_) (fun h => ?_) | refine br_beq' (fun h => ?_) (fun h => ?_) | refine br_bne' (fun h => ?_) (fun h => ?_) | refine br_eq' (fun h => ?_) (fun h => ?_)) | simp (disch := omega) only [go_sem,cons_bytes,Int.natCast_add,Int.cast_ofNat_Int,indexAddrS,hK0,hK1,ixA0,ld0,h1,wrap_i32,wrap_i64,e0,e1,sz,tu8_and31,tu8_and15,tu8_and7,tu8_and63,ti32_or6,ti32_or12,ti32_or18])
      all_goals (rw [D_four a _ (by omega)]; rfl)
    | cons c r =>
      cases r with
      | nil =>
        have hb := bl b; have hc := bl c; simp (disch := omega) only [t192,go_sem,cons_bytes,Int.natCast_add,Int.cast_ofNat_Int,indexAddrS,hK0,hK1,ixA0,ld0,h1,wrap_i32,wrap_i64,e0,e1,sz,tu8_and31,tu8_and15,tu8_and7,tu8_and63,ti32_or6,ti32_or12,ti32_or18]
        repeat' (first | (first | refine br_dec' (fun h => ?_) (fun h => ?_) | refine br_beq' (fun h => ?_) (fun h => ?_) | refine br_bne' (fun h => ?_) (fun h => ?_) | refine br_eq' (fun h => ?_) (fun h => ?_)) | simp (disch := omega) only [go_sem,cons_bytes,Int.natCast_add,Int.cast_ofNat_Int,indexAddrS,hK0,hK1,ixA0,ld0,h1,wrap_i32,wrap_i64,e0,e1,sz,tu8_and31,tu8_and15,tu8_and7,tu8_and63,ti32_or6,ti32_or12,ti32_or18])
        all_goals (rw [D_four a _ (by omega)]; rfl)
      | cons d r =>
        have hb := bl b; have hc := bl c; have hd := bl d; simp (disch := omega) only [t192,go_sem,cons_bytes,Int.natCast_add,Int.cast_ofNat_Int,indexAddrS,hK0,hK1,ixA0,ld0,h1,wrap_i32,wrap_i64,e0,e1,sz,tu8_and31,tu8_and15,tu8_and7,tu8_and63,ti32_or6,ti32_or12,ti32_or18]
        repeat' (first | (first | refine br_dec' (fun h => ?_) (fun h => ?_) | refine br_beq' (fun h => ?_) (fun h => ?_) | refine br_bne' (fun h => ?_) (fun h => ?_) | refine br_eq' (fun h => ?_) (fun h => ?_)) | simp (disch := omega) only [go_sem,cons_bytes,Int.natCast_add,Int.cast_ofNat_Int,indexAddrS,hK0,hK1,ixA0,ld0,h1,wrap_i32,wrap_i64,e0,e1,sz,tu8_and31,tu8_and15,tu8_and7,tu8_and63,ti32_or6,ti32_or12,ti32_or18])
        all_goals (first | (rw [D4_no a b c d _ (by omega) (by omega)]; rfl) | (rw [D4_ok a b c d _ (by omega) (by omega) (by omega) (by omega)]; simp))
theorem call192 (t : Tag) (l : List UInt8) : (lim K).call 192 [.iv (.sl t (bytesIV l))] [] = .ret (.tup [.iv (.int .i32 (D l).1),.iv (.int .i64 (D l).2)],[]) := by
  cases l with
  | nil => exact call192_nil t
  | cons a r =>
    have ha := bl a
    by_cases h1 : a.toNat < 128
    · rw [c30_ascii t a r h1,D_ascii a r h1]; rfl
    by_cases h2 : a.toNat < 194 ∨ 245 ≤ a.toNat
    · rw [c30_bad t a r (by simp only [tab]; (repeat' split) <;> omega),D_bad a r (by omega)]; rfl
    by_cases h3 : a.toNat < 224
    · exact c30_two t a r (by simp only [tab]; (repeat' split) <;> omega) (by omega)
    by_cases h4 : a.toNat = 224
    · exact c30_e0 t a r (by simp only [tab]; (repeat' split) <;> omega) h4
    by_cases h5 : a.toNat = 237
    · exact c30_ed t a r (by simp only [tab]; (repeat' split) <;> omega) h5
    by_cases h6 : a.toNat < 240
    · exact c30_e1 t a r (by simp only [tab]; (repeat' split) <;> omega) (by omega)
    by_cases h7 : a.toNat = 240
    · exact c30_f0 t a r (by simp only [tab]; (repeat' split) <;> omega) h7
    by_cases h8 : a.toNat = 244
    · exact c30_f4 t a r (by simp only [tab]; (repeat' split) <;> omega) h8
    · exact c30_f1 t a r (by simp only [tab]; (repeat' split) <;> omega) (by omega)
theorem loop172_nil (t : Tag) : lp' (lim K) t172L0 [.iv (.sl t (bytesIV [])),.iv (.int .i32 0),.iv (.int .i64 0),.tup [],.iv (.sl t (bytesIV [])),.iv (.int .i64 0),.iv (.int .i64 0),.tup [],.tup []] [] = .ret (.exit 0,[.iv (.sl t (bytesIV [])),.iv (.int .i32 0),.iv (.int .i64 0),.tup [],.iv (.sl t (bytesIV [])),.iv (.int .i64 0),.iv (.int .i64 0),.iv (.bool false),.tup []],[]) := by
  refine loop_ret' K _ _ ?_
  simp (disch := omega) only [t172L0,go_sem]
theorem call172 (t : Tag) (l : List UInt8) : (lim K).call 172 [.iv (.sl t (bytesIV l))] [] = .ret (.tup [.iv (.int .i32 (D l).1),.iv (.int .i64 (D l).2)],[]) := by
  refine call_ret' K [] (fn := t172) rfl rfl ?_
  cases l with
  | nil => simp (disch := omega) only [t172,go_sem,Int.cast_ofNat_Int,loop172_nil,call192]
  | cons a r =>
    have ha := bl a
    by_cases h : a.toNat < 128
    · have hl : lp' (lim K) t172L0 [.iv (.sl t (bytesIV (a :: r))),.iv (.int .i32 0),.iv (.int .i64 0),.tup [],.iv (.sl t (bytesIV (a :: r))),.iv (.int .i64 ((r.length + 1 : Nat) : Int)),.iv (.int .i64 0),.tup [],.tup []] [] = .ret (.ret,[.iv (.sl t (bytesIV (a :: r))),.iv (.int .i32 a.toNat),.iv (.int .i64 1),.iv (.int .u8 a.toNat),.iv (.sl t (bytesIV (a :: r))),.iv (.int .i64 ((r.length + 1 : Nat) : Int)),.iv (.int .i64 0),.iv (.bool true),.iv (.bool true)],[]) := by
        refine loop_ret' K _ _ ?_
        simp (disch := omega) only [t172L0,go_sem,cons_bytes,indexAddrS,wrap_i32]
      simp (disch := omega) only [t172,go_sem,Int.cast_ofNat_Int,hl,D_ascii a r h]
    · have hl : lp' (lim K) t172L0 [.iv (.sl t (bytesIV (a :: r))),.iv (.int .i32 0),.iv (.int .i64 0),.tup [],.iv (.sl t (bytesIV (a :: r))),.iv (.int .i64 ((r.length + 1 : Nat) : Int)),.iv (.int .i64 0),.tup [],.tup []] [] = .ret (.exit 0,[.iv (.sl t (bytesIV (a :: r))),.iv (.int .i32 0),.iv (.int .i64 0),.iv (.int .u8 a.toNat),.iv (.sl t (bytesIV (a :: r))),.iv (.int .i64 ((r.length + 1 : Nat) : Int)),.iv (.int .i64 0),.iv (.bool true),.iv (.bool false)],[]) := by
        refine loop_ret' K _ _ ?_
        simp (disch := omega) only [t172L0,go_sem,cons_bytes,indexAddrS,wrap_i32]
      simp (disch := omega) only [t172,go_sem,Int.cast_ofNat_Int,hl,call192]
def bad (l : List UInt8) : Bool := decide ((D l).1 = 65533) && decide ((D l).2 ≤ 1)
theorem call173 (c n : Int) : (lim K).call 173 [.iv (.int .i32 c),.iv (.int .i64 n)] [] = .ret (.iv (.bool (decide (c = 65533) && decide (n ≤ 1))),[]) := by
  refine call_ret' K [] (fn := t173) rfl rfl ?_
  simp only [t173,go_sem]
  repeat' (first | (first | refine br_dec' (fun h => ?_) (fun h => ?_) | refine br_beq' (fun h => ?_) (fun h => ?_) | refine br_bne' (fun h => ?_) (fun h => ?_) | refine br_eq' (fun h => ?_) (fun h => ?_)) | simp (disch := omega) only [go_sem])
  all_goals (congr 4; simp [*])
theorem D_le (l : List UInt8) : (D l).1 < 2097152 ∧ (D l).2 ≤ 4 := by
  cases l with
  | nil => simp [D]
  | cons a r =>
    have ha := bl a
    simp only [D]
    repeat' split
    all_goals (simp only; try omega)
def getRu (l : List UInt8) (i : Int) : Int × Int × Int :=
  if i < 0 ∨ (l.length : Int) ≤ i then (0,0,2)
  else if bad (l.drop i.toNat) then (0,0,4)
  else ((D (l.drop i.toNat)).1,(D (l.drop i.toNat)).2,0)
def tup3 (x : Int × Int × Int) : TV := .tup [.iv (.int .i64 x.1),.iv (.int .i64 x.2.1),.iv (.int .i64 x.2.2)]
def toldF (n : Int) : List UInt8 → Int
  | [] => n
  | b :: r => toldF (64 * n + b.toNat % 64) r
def toldR : List UInt8 → Int
  | [] => 0
  | a :: r => toldF (if r.length = 1 then a.toNat % 32 else if r.length = 2 then a.toNat % 16 else if r.length = 3 then a.toNat % 8 else a.toNat) r
theorem drop_toNat (l : List UInt8) (i : Int) (h : 0 ≤ i ∧ i < l.length) : l.drop i.toNat = l.getD i.toNat 0 :: l.drop (i + 1).toNat := by
  have h1 : i.toNat < l.length := by omega
  rw [List.drop_eq_getElem_cons h1,show (i + 1).toNat = i.toNat + 1 by omega]
  simp [List.getD,List.getElem?_eq_getElem h1]
theorem loop157 (t : Tag) (l : List UInt8) (r0 f a b c : TV) (hl : l.length ≤ 4) : ∀ (k : Nat) (i n : Int) (x : TV),i + k = l.length → 1 ≤ i → 0 ≤ n → (n + 1) * 64 ^ k ≤ 1099511627776 →
    lp' (lim K) t157L0 [.iv (.sl t (bytesIV l)),r0,f,.iv (.int .i64 n),.iv (.int .i64 i),a,b,c,x] [] = .ret (.exit 0,[.iv (.sl t (bytesIV l)),r0,f,.iv (.int .i64 (toldF n (l.drop i.toNat))),.iv (.int .i64 l.length),a,b,c,.iv (.bool false)],[])
  | 0,i,n,x,hk,hi,hn,hb => by
    have e : l.drop i.toNat = [] := List.drop_of_length_le (by omega)
    obtain rfl : i = l.length := by omega
    refine loop_at K _ _ t157L0.eq_1 ?_
    simp (disch := omega) only [go_sem,e,toldF]
  | k + 1,i,n,x,hk,hi,hn,hb => by
    refine loop_at K _ _ t157L0.eq_1 ?_
    have hx := bl (l.getD i.toNat 0)
    have h1 : (1 : Int) ≤ 64 ^ k := Int.pow_pos (by decide)
    have h2 : (n + 1) * 64 ^ (k + 1) = (64 * (n + 1)) * 64 ^ k := by rw [Int.pow_succ]; ac_rfl
    have h3 : 64 * (n + 1) * 1 ≤ (64 * (n + 1)) * 64 ^ k := Int.mul_le_mul_of_nonneg_left h1 (by omega)
    have h4 : (64 * n + (l.getD i.toNat 0).toNat % 64 + 1) * 64 ^ k ≤ (64 * (n + 1)) * 64 ^ k := Int.mul_le_mul_of_nonneg_right (by omega) (by omega)
    simp (disch := omega) only [go_sem,ix_bytes,wrap_i64,Int.tmod_eq_emod_of_nonneg]
    rw [loop157 t l r0 f a b c hl k (i + 1) _ _ (by omega) (by omega) (by omega) (by omega)]
    rw [drop_toNat l i (by omega)]
    rfl
theorem call157 (t : Tag) (l : List UInt8) (h : 1 ≤ l.length ∧ l.length ≤ 4) : (lim K).call 157 [.iv (.sl t (bytesIV l))] [] = .ret (.iv (.int .i64 (toldR l)),[]) := by
  refine call_ret' K [] (fn := t157) rfl rfl ?_
  cases l with
  | nil => simp at h
  | cons a r =>
    have ha := bl a
    simp only [List.length_cons] at h
    have hl : r.length ≤ 3 := by omega
    have hp : (64 : Int) ^ r.length ≤ 64 ^ 3 := by
      have := Nat.pow_le_pow_right (n := 64) (by decide) hl
      exact_mod_cast this
    have key : ∀ n : Int,0 ≤ n → n ≤ 255 → (n + 1) * 64 ^ r.length ≤ 1099511627776 := by
      intro n h0 h1
      have e1 : (n + 1) * 64 ^ r.length ≤ (n + 1) * 64 ^ 3 := Int.mul_le_mul_of_nonneg_left hp (by omega)
      omega
    by_cases h1 : r.length = 1
    · have e := loop157 t (a :: r) (.iv (.int .i64 0)) (.iv (.int .i64 a.toNat)) (.iv (.bool true)) (.iv (.bool false)) (.iv (.bool false)) (by simp; omega) r.length 1 (a.toNat % 32) (.tup []) (by simp; omega) (by omega) (by omega) (key _ (by omega) (by omega))
      simp (disch := omega) only [t157,go_sem,ix_bytes,wrap_i64,Int.tmod_eq_emod_of_nonneg,indexAddrS,cons_bytes,h1,Int.cast_ofNat_Int]
      simp only [cons_bytes] at e
      simp (disch := omega) only [go_sem,e,toldR,h1]
    by_cases h2 : r.length = 2
    · have e := loop157 t (a :: r) (.iv (.int .i64 0)) (.iv (.int .i64 a.toNat)) (.iv (.bool false)) (.iv (.bool true)) (.iv (.bool false)) (by simp; omega) r.length 1 (a.toNat % 16) (.tup []) (by simp; omega) (by omega) (by omega) (key _ (by omega) (by omega))
      simp (disch := omega) only [t157,go_sem,ix_bytes,wrap_i64,Int.tmod_eq_emod_of_nonneg,indexAddrS,cons_bytes,h2,Int.cast_ofNat_Int]
      simp only [cons_bytes] at e
      simp (disch := omega) only [go_sem,e,toldR,h2]
    by_cases h3 : r.length = 3
    · have e := loop157 t (a :: r) (.iv (.int .i64 0)) (.iv (.int .i64 a.toNat)) (.iv (.bool false)) (.iv (.bool false)) (.iv (.bool true)) (by simp; omega) r.length 1 (a.toNat % 8) (.tup []) (by simp; omega) (by omega) (by omega) (key _ (by omega) (by omega))
      simp (disch := omega) only [t157,go_sem,ix_bytes,wrap_i64,Int.tmod_eq_emod_of_nonneg,indexAddrS,cons_bytes,h3,Int.cast_ofNat_Int]
      simp only [cons_bytes] at e
      simp (disch := omega) only [go_sem,e,toldR,h3]
    · have e := loop157 t (a :: r) (.iv (.int .i64 0)) (.iv (.int .i64 a.toNat)) (.iv (.bool false)) (.iv (.bool false)) (.iv (.bool false)) (by simp; omega) r.length 1 a.toNat (.tup []) (by simp; omega) (by omega) (by omega) (key _ (by omega) (by omega))
      have h0 : r.length = 0 := by omega
      simp (disch := omega) only [t157,go_sem,ix_bytes,wrap_i64,Int.tmod_eq_emod_of_nonneg,indexAddrS,cons_bytes,h0,Int.cast_ofNat_Int]
      simp only [cons_bytes] at e
      simp (disch := omega) only [go_sem,e,toldR,h0]
theorem nat8 {n : Nat} (h : n < 256) : (UInt8.ofNat n).toNat = n := by simp [UInt8.toNat_ofNat]; omega
theorem eq8 {a : UInt8} {n : Nat} (h : a.toNat = n) : a = UInt8.ofNat n := by
  have := bl a
  apply UInt8.toNat_inj.1
  rw [nat8 (by omega),h]
theorem bytes_1 {c : Int} (h : c < 128) : bytesR c = [UInt8.ofNat c.toNat] := by simp [bytesR,h]
theorem bytes_2 {c : Int} (h : 128 ≤ c ∧ c < 2048) : bytesR c = [UInt8.ofNat (192 + c.toNat / 64),UInt8.ofNat (128 + c.toNat % 64)] := by
  have h1 : ¬ c < 128 := by omega
  simp [bytesR,h1,h.2]
theorem bytes_3 {c : Int} (h : 2048 ≤ c ∧ c < 65536) : bytesR c = [UInt8.ofNat (224 + c.toNat / 4096),UInt8.ofNat (128 + c.toNat / 64 % 64),UInt8.ofNat (128 + c.toNat % 64)] := by
  have h1 : ¬ c < 128 := by omega
  have h2 : ¬ c < 2048 := by omega
  simp [bytesR,h1,h2,h.2]
theorem bytes_4 {c : Int} (h : 65536 ≤ c) : bytesR c = [UInt8.ofNat (240 + c.toNat / 262144),UInt8.ofNat (128 + c.toNat / 4096 % 64),UInt8.ofNat (128 + c.toNat / 64 % 64),UInt8.ofNat (128 + c.toNat % 64)] := by
  have h1 : ¬ c < 128 := by omega
  have h2 : ¬ c < 2048 := by omega
  have h3 : ¬ c < 65536 := by omega
  simp [bytesR,h1,h2,h3]
theorem D_bytes {c : Int} (h : isC c = true) (r : List UInt8) : D (bytesR c ++ r) = (c.toNat,(bytesR c).length) := by
  have hc := (isC_iff c).1 h
  by_cases h1 : c < 128
  · rw [bytes_1 h1]
    simp only [List.cons_append,List.nil_append]
    rw [D_ascii _ _ (by rw [nat8 (by omega)]; omega),nat8 (by omega)]; rfl
  by_cases h2 : c < 2048
  · rw [bytes_2 (by omega)]
    simp only [List.cons_append,List.nil_append]
    rw [D2_ok _ _ _ (by rw [nat8 (by omega)]; omega) (by rw [nat8 (by omega)]; omega),nat8 (by omega),nat8 (by omega)]
    simp; omega
  by_cases h3 : c < 65536
  · rw [bytes_3 (by omega)]
    simp only [List.cons_append,List.nil_append]
    rw [D3_ok _ _ _ _ (by rw [nat8 (by omega)]; omega) (by rw [nat8 (by omega),nat8 (by omega)]; omega) (by rw [nat8 (by omega)]; omega),nat8 (by omega),nat8 (by omega),nat8 (by omega)]
    simp; omega
  · rw [bytes_4 (by omega)]
    simp only [List.cons_append,List.nil_append]
    rw [D4_ok _ _ _ _ _ (by rw [nat8 (by omega)]; omega) (by rw [nat8 (by omega),nat8 (by omega)]; omega) (by rw [nat8 (by omega)]; omega) (by rw [nat8 (by omega)]; omega),nat8 (by omega),nat8 (by omega),nat8 (by omega),nat8 (by omega)]
    simp; omega
theorem not_bad {c : Int} (h : isC c = true) (r : List UInt8) : bad (bytesR c ++ r) = false := by
  have hc := (isC_iff c).1 h
  simp only [bad,D_bytes h]
  by_cases e : c = 65533
  · subst e; rfl
  · have : ¬ c.toNat = 65533 := by omega
    simp [this]
theorem D_good {s : List UInt8} (h : bad s = false) : isC ((D s).1 : Nat) = true ∧ bytesR ((D s).1 : Nat) = s.take (D s).2 ∧ 1 ≤ (D s).2 ∧ (D s).2 ≤ s.length := by
  cases s with
  | nil => simp [bad,D] at h
  | cons a r =>
    have ha := bl a
    by_cases h1 : a.toNat < 128
    · rw [D_ascii a r h1]
      refine ⟨(isC_iff _).2 (by omega),?_,by simp,by simp⟩
      rw [bytes_1 (by omega)]
      simp
    by_cases h2 : a.toNat < 194 ∨ 245 ≤ a.toNat
    · simp [bad,D_bad a r (by omega)] at h
    by_cases h3 : a.toNat < 224
    · cases r with
      | nil => rw [bad,D_two a _ (by omega)] at h; simp at h
      | cons b r =>
        have hb := bl b
        by_cases hf : 128 ≤ b.toNat ∧ b.toNat ≤ 191
        · rw [D2_ok a b r (by omega) hf]
          refine ⟨(isC_iff _).2 (by simp only; omega),?_,by simp,by simp⟩
          rw [bytes_2 (by simp only; omega)]
          simp only [List.take_succ_cons,List.take_zero,Int.toNat_natCast]
          rw [← eq8 (a := a) (by omega),← eq8 (a := b) (by omega)]
        · simp [bad,D2_no a b r (by omega) hf] at h
    by_cases h4 : a.toNat < 240
    · match r with
      | [] => rw [bad,D_three a _ (by omega)] at h; simp at h
      | [b] => rw [bad,D_three a _ (by omega)] at h; simp at h
      | b :: c :: r =>
        have hb := bl b
        have hc := bl c
        by_cases hf : ((a.toNat = 224 → 160 ≤ b.toNat) ∧ 128 ≤ b.toNat ∧ (a.toNat = 237 → b.toNat ≤ 159) ∧ b.toNat ≤ 191) ∧ (128 ≤ c.toNat ∧ c.toNat ≤ 191)
        · rw [D3_ok a b c r (by omega) hf.1 hf.2]
          refine ⟨(isC_iff _).2 (by simp only; omega),?_,by simp,by simp⟩
          rw [bytes_3 (by simp only; omega)]
          simp only [List.take_succ_cons,List.take_zero,Int.toNat_natCast]
          rw [← eq8 (a := a) (by omega),← eq8 (a := b) (by omega),← eq8 (a := c) (by omega)]
        · simp [bad,D3_no a b c r (by omega) (by omega)] at h
    · match r with
      | [] => rw [bad,D_four a _ (by omega)] at h; simp at h
      | [b] => rw [bad,D_four a _ (by omega)] at h; simp at h
      | [b,c] => rw [bad,D_four a _ (by omega)] at h; simp at h
      | b :: c :: d :: r =>
        have hb := bl b
        have hc := bl c
        have hd := bl d
        by_cases hf : ((a.toNat = 240 → 144 ≤ b.toNat) ∧ 128 ≤ b.toNat ∧ (a.toNat = 244 → b.toNat ≤ 143) ∧ b.toNat ≤ 191) ∧ (128 ≤ c.toNat ∧ c.toNat ≤ 191) ∧ (128 ≤ d.toNat ∧ d.toNat ≤ 191)
        · rw [D4_ok a b c d r (by omega) hf.1 hf.2.1 hf.2.2]
          refine ⟨(isC_iff _).2 (by simp only; omega),?_,by simp,by simp⟩
          rw [bytes_4 (by simp only; omega)]
          simp only [List.take_succ_cons,List.take_zero,Int.toNat_natCast]
          rw [← eq8 (a := a) (by omega),← eq8 (a := b) (by omega),← eq8 (a := c) (by omega),← eq8 (a := d) (by omega)]
        · simp [bad,D4_no a b c d r (by omega) (by omega)] at h
theorem told_bytes {c : Int} (h : isC c = true) : toldR (bytesR c) = c := by
  have hc := (isC_iff c).1 h
  by_cases h1 : c < 128
  · rw [bytes_1 h1]; simp [toldR,toldF,UInt8.toNat_ofNat]; omega
  by_cases h2 : c < 2048
  · rw [bytes_2 (by omega)]; simp only [toldR,toldF,List.length_cons,List.length_nil,↓reduceIte,Nat.reduceAdd]; rw [nat8 (by omega),nat8 (by omega)]; omega
  by_cases h3 : c < 65536
  · rw [bytes_3 (by omega)]; simp only [toldR,toldF,List.length_cons,List.length_nil,↓reduceIte,Nat.reduceAdd,Nat.reduceEqDiff]; rw [nat8 (by omega),nat8 (by omega),nat8 (by omega)]; omega
  · rw [bytes_4 (by omega)]; simp only [toldR,toldF,List.length_cons,List.length_nil,↓reduceIte,Nat.reduceAdd,Nat.reduceEqDiff]; rw [nat8 (by omega),nat8 (by omega),nat8 (by omega),nat8 (by omega)]; omega
def fits (s : List UInt8) (n : Nat) : Bool := isC (toldR (s.take n)) && (bytesR (toldR (s.take n)) == s.take n)
theorem fits_iff {s : List UInt8} {n : Nat} (hn : 1 ≤ n ∧ n ≤ s.length) : fits s n = true ↔ bad s = false ∧ (D s).2 = n := by
  constructor
  · intro h
    simp only [fits,Bool.and_eq_true,beq_iff_eq] at h
    have e : s = bytesR (toldR (s.take n)) ++ s.drop n := by rw [h.2,List.take_append_drop]
    have hb := not_bad h.1 (s.drop n)
    have hd := D_bytes h.1 (s.drop n)
    rw [← e] at hb hd
    refine ⟨hb,?_⟩
    rw [hd,h.2]
    simp; omega
  · intro ⟨hb,hd⟩
    obtain ⟨h1,h2,h3,h4⟩ := D_good hb
    rw [hd] at h2
    have ht : toldR (s.take n) = (D s).1 := by rw [← h2,told_bytes h1]
    simp only [fits,ht,h1,h2,beq_self_eq_true,Bool.and_self]
theorem loop125 (t : Tag) (l : List UInt8) (at' : Int) (ht : TagOk t l) (hat : 0 ≤ at' ∧ at' < l.length) (hl : l.length ≤ 4611686018427387904) (r2 r3 r4 a : TV) : ∀ (k : Nat) (n : Int) (x6 x8 x9 : TV),n + k = 5 → 1 ≤ n → (bad (l.drop at'.toNat) = false → n ≤ (D (l.drop at'.toNat)).2) →
    ∃ y5 y6 y8 y9,lp' (lim K) t125L0 [.iv (.sl t (bytesIV l)),.iv (.int .i64 at'),r2,r3,r4,.iv (.int .i64 n),x6,a,x8,x9] [] = .ret (if bad (l.drop at'.toNat) then (.exit 0,[.iv (.sl t (bytesIV l)),.iv (.int .i64 at'),r2,r3,r4,y5,y6,a,y8,y9],[]) else (.ret,[.iv (.sl t (bytesIV l)),.iv (.int .i64 at'),.iv (.int .i64 (D (l.drop at'.toNat)).1),.iv (.int .i64 (D (l.drop at'.toNat)).2),.iv (.int .i64 0),y5,y6,a,y8,y9],[]))
  | 0,n,x6,x8,x9,hk,hn,hd => by
    have hb : bad (l.drop at'.toNat) = true := by
      cases hb : bad (l.drop at'.toNat)
      · have := D_le (l.drop at'.toNat); have := hd hb; omega
      · rfl
    refine ⟨?_,?_,?_,?_,loop_at K _ _ t125L0.eq_1 ?_⟩
    rotate_left 4
    · simp (disch := omega) only [go_sem,hb]
      rfl
  | k + 1,n,x6,x8,x9,hk,hn,hd => by
    by_cases hlen : at' + n ≤ l.length
    · have hs : (l.drop at'.toNat).length = l.length - at'.toNat := List.length_drop
      have e1 : (at' + n).toNat - at'.toNat = n.toNat := by omega
      have hsl : sliceOp [] (.sl 1) (.iv (.sl t (bytesIV l))) (some at') (some (at' + n)) none = some (.iv (.sl (cutTag t l.length (at' + n).toNat) (bytesIV ((l.drop at'.toNat).take n.toNat)))) := by
        rw [slice_bytes [] ht (by omega),e1]
      have h27 := fun tg => call157 tg ((l.drop at'.toNat).take n.toNat) (by rw [List.length_take,hs]; omega)
      have hfi := fits_iff (s := l.drop at'.toNat) (n := n.toNat) (by rw [hs]; omega)
      have ih0 := loop125 t l at' ht hat hl r2 r3 r4 a k
      generalize l.drop at'.toNat = s at *
      cases hf : fits s n.toNat
      · have hnd : bad s = false → n + 1 ≤ (D s).2 := by
          intro hb
          have h1 := hd hb
          have h2 : ¬ (D s).2 = n.toNat := by
            intro h3
            have := hfi.2 ⟨hb,h3⟩
            rw [hf] at this; cases this
          omega
        cases hc : isC (toldR (s.take n.toNat))
        · obtain ⟨y5,y6,y8,y9,ih⟩ := ih0 (n + 1) (.iv (.int .i64 (toldR (s.take n.toNat)))) (.iv (.bool true)) (.iv (.bool false)) (by omega) (by omega) hnd
          refine ⟨y5,y6,y8,y9,loop_at K _ _ t125L0.eq_1 ?_⟩
          simp (disch := omega) only [go_sem,wrap_i64,hsl,h27,call53,hc,ih]
          cases bad s <;> rfl
        · obtain ⟨y5,y6,y8,y9,ih⟩ := ih0 (n + 1) (.iv (.int .i64 (toldR (s.take n.toNat)))) (.iv (.bool true)) (.iv (.bool false)) (by omega) (by omega) hnd
          have he : (bytesR (toldR (s.take n.toNat)) == s.take n.toNat) = false := by simpa [fits,hc] using hf
          refine ⟨y5,y6,y8,y9,loop_at K _ _ t125L0.eq_1 ?_⟩
          simp (disch := omega) only [go_sem,wrap_i64,hsl,h27,call53,hc,call158 _ hc,he,ih]
          cases bad s <;> rfl
      · obtain ⟨hb,hsz⟩ := hfi.1 hf
        have hc : isC (toldR (s.take n.toNat)) = true := by simp [fits] at hf; exact hf.1
        have he : (bytesR (toldR (s.take n.toNat)) == s.take n.toNat) = true := by simp [fits] at hf; simp [hf.2]
        have hv : toldR (s.take n.toNat) = (D s).1 := by
          have g := D_good hb
          rw [← hsz,← g.2.1,told_bytes g.1]
        have hv2 : ((D s).2 : Int) = n := by omega
        refine ⟨?_,?_,?_,?_,loop_at K _ _ t125L0.eq_1 ?_⟩
        rotate_left 4
        · simp (disch := omega) only [go_sem,wrap_i64,hsl,h27,call53,hc,call158 _ hc,he,hb,hv2]
          simp only [hv]
          rfl
    · have hb : bad (l.drop at'.toNat) = true := by
        cases hb : bad (l.drop at'.toNat)
        · have q := (D_good hb).2.2.2; have p := hd hb; rw [List.length_drop] at q; omega
        · rfl
      refine ⟨?_,?_,?_,?_,loop_at K _ _ t125L0.eq_1 ?_⟩
      rotate_left 4
      · simp (disch := omega) only [go_sem,hb,wrap_i64]
        rfl
theorem call125 (t : Tag) (l : List UInt8) (i : Int) (ht : TagOk t l) (hl : l.length ≤ 4611686018427387904) : (lim K).call 125 [.iv (.sl t (bytesIV l)),.iv (.int .i64 i)] [] = .ret (tup3 (getRu l i),[]) := by
  refine call_ret' K [] (fn := t125) rfl rfl ?_
  by_cases h : i < 0 ∨ (l.length : Int) ≤ i
  · by_cases h0 : i < 0
    · simp (disch := omega) only [t125,go_sem,getRu,h,tup3]
    · simp (disch := omega) only [t125,go_sem,getRu,h,tup3]
  · obtain ⟨y5,y6,y8,y9,e⟩ := loop125 t l i ht (by omega) hl (.iv (.int .i64 0)) (.iv (.int .i64 0)) (.iv (.int .i64 0)) (.iv (.bool false)) 4 1 (.tup []) (.tup []) (.tup []) (by omega) (by omega) (fun hb => by have := (D_good hb).2.2.1; omega)
    cases hb : bad (l.drop i.toNat)
    · simp only [hb] at e
      simp (disch := omega) only [t125,go_sem,getRu,h,tup3,e,hb]
    · simp only [hb] at e
      simp (disch := omega) only [t125,go_sem,getRu,h,tup3,e,hb]
def chars : Nat → List UInt8 → Int → List (Int × Int) × Option Int
  | 0,_,_ => ([],none)
  | k + 1,s,i => if s = [] then ([],none) else if bad s then ([],some i) else
    ((((D s).1 : Int),i) :: (chars k (s.drop (D s).2) (i + (D s).2)).1,(chars k (s.drop (D s).2) (i + (D s).2)).2)
def encC (c : Int × Int) : List IV := [.int .i64 c.1,.int .i64 c.2]
theorem encC_ok (c : Int × Int) : (encC c).length = 2 ∧ (encC c).all isCell = true := ⟨rfl,rfl⟩
set_option maxHeartbeats 4000000 in
theorem loop91 (t : Tag) (l : List UInt8) (ht : TagOk t l) (hl : l.length ≤ 2000000) : ∀ (k : Nat) (i : Int) (done : List (Int × Int)) (x6 x7 x8 x9 x10 : TV),0 ≤ i → i ≤ l.length → (l.length : Int) - i ≤ k → (done.length : Int) ≤ i →
    ∃ y5 y6 y7 y8 y9 y10 y4 S',lp' (lim K) t91L0 [.iv (.sl t (bytesIV l)),.iv (.sl .nil []),.iv (.int .i64 0),.iv (.int .i64 0),acc 0 (done.map encC),.iv (.int .i64 i),x6,x7,x8,x9,x10] (accS 2 113 (done.map encC)) = .ret (match (chars k (l.drop i.toNat) i).2 with
      | none => (.exit 0,[.iv (.sl t (bytesIV l)),.iv (.sl .nil []),.iv (.int .i64 0),.iv (.int .i64 0),acc 0 ((done ++ (chars k (l.drop i.toNat) i).1).map encC),y5,y6,y7,y8,y9,y10],S')
      | some p => (.ret,[.iv (.sl t (bytesIV l)),.iv (.sl .nil []),.iv (.int .i64 4),.iv (.int .i64 p),y4,y5,y6,y7,y8,y9,y10],S'))
  | 0,i,done,x6,x7,x8,x9,x10,h0,h1,h2,h3 => by
    refine ⟨?_,?_,?_,?_,?_,?_,?_,?_,loop_at K _ _ t91L0.eq_1 ?_⟩
    rotate_left 8
    · simp (disch := omega) only [go_sem,chars,List.append_nil]
      rfl
    exact .hole
  | k + 1,i,done,x6,x7,x8,x9,x10,h0,h1,h2,h3 => by
    by_cases hi : i = l.length
    · have e : l.drop i.toNat = [] := List.drop_of_length_le (by omega)
      refine ⟨?_,?_,?_,?_,?_,?_,?_,?_,loop_at K _ _ t91L0.eq_1 ?_⟩
      rotate_left 8
      · simp (disch := omega) only [go_sem,chars,e,List.append_nil]
        rfl
      exact .hole
    · have hs : (l.drop i.toNat).length = l.length - i.toNat := List.length_drop
      have h13 := call125 t l i ht (by omega)
      have hR : getRu l i = if bad (l.drop i.toNat) then (0,0,4) else (((D (l.drop i.toNat)).1 : Int),((D (l.drop i.toNat)).2 : Int),0) := by
        simp only [getRu]; rw [if_neg (by omega)]
      rw [hR] at h13
      have hne : ¬ l.drop i.toNat = [] := by intro e; rw [e] at hs; simp at hs; omega
      cases hb : bad (l.drop i.toNat)
      · have hg := D_good hb
        have hdr : (l.drop i.toNat).drop (D (l.drop i.toNat)).2 = l.drop (i + (D (l.drop i.toNat)).2).toNat := by
          rw [List.drop_drop]; congr 1; omega
        obtain ⟨y5,y6,y7,y8,y9,y10,y4,S',ih⟩ := loop91 t l ht hl k (i + (D (l.drop i.toNat)).2) (done ++ [(((D (l.drop i.toNat)).1 : Int),i)]) (.iv (.int .i64 (D (l.drop i.toNat)).1)) (.iv (.int .i64 (D (l.drop i.toNat)).2)) (.iv (.int .i64 0)) (.iv (.bool true)) (.iv (.bool false)) (by omega) (by omega) (by omega) (by simp; omega)
        simp only [chars,hne,hb,↓reduceIte,Bool.false_eq_true]
        rw [hdr]
        generalize D (l.drop i.toNat) = d at *
        rw [hb] at h13
        simp only [Bool.false_eq_true,↓reduceIte] at h13
        have ha := ap_acc1 (w := 2) (b := 16) (el := 113) (t := .full) (encC_ok ((d.1 : Int),i)) (Elems.map encC_ok done) (roomy_ok (by rw [List.length_map]; omega))
        refine ⟨y5,y6,y7,y8,y9,y10,y4,S',loop_at K _ _ t91L0.eq_1 ?_⟩
        simp only [encC] at ha
        have em : (done ++ [((d.1 : Int),i)]).map encC = done.map encC ++ [[.int .i64 d.1,.int .i64 i]] := by simp [encC]
        rw [em] at ih
        simp (disch := omega) only [go_sem,h13,tup3,wrap_i64,ha,ih]
        simp only [List.map_append,List.map_cons,List.map_nil,encC,List.append_assoc,List.cons_append,List.nil_append]
        cases (chars k (l.drop (i + d.2).toNat) (i + d.2)).2 <;> rfl
      · refine ⟨?_,?_,?_,?_,?_,?_,?_,?_,loop_at K _ _ t91L0.eq_1 ?_⟩
        rotate_left 8
        · rw [hb] at h13
          simp only [↓reduceIte] at h13
          simp (disch := omega) only [go_sem,chars,hne,hb,h13,tup3,List.append_nil]
          rfl
theorem get_arr (l : List UInt8) (i : Nat) : ByteArray.get! ⟨l.toArray⟩ i = l.getD i 0 := by
  show l.toArray[i]! = _
  simp [List.getD,getElem!_def]
  cases l[i]? <;> rfl
set_option maxHeartbeats 4000000 in
theorem decode_eq (l : List UInt8) (i : Nat) (h : i < l.length) : Utf8.decode ⟨l.toArray⟩ i = D (l.drop i) := by
  have hs : (ByteArray.mk l.toArray).size = l.length := by simp [ByteArray.size]
  have hg : ∀ k,l.getD (i + k) 0 = (l.drop i).getD k 0 := by intro k; simp [List.getD,List.getElem?_drop]
  have hlen : ∀ k,(i + k < l.length) ↔ k < (l.drop i).length := by intro k; rw [List.length_drop]; omega
  have hpos : 0 < (l.drop i).length := by rw [List.length_drop]; omega
  simp only [Utf8.decode,hs,get_arr,hg,hlen]
  generalize l.drop i = s at *
  cases s with
  | nil => simp at hpos
  | cons a r =>
    have ha := bl a
    match r with
    | [] =>
      simp only [List.getD_cons_zero,List.getD_cons_succ,List.getD_nil,List.length_cons,List.length_nil,D,fol,Utf8.valid,Utf8.runeError,Bool.and_eq_true,Bool.or_eq_true,beq_iff_eq,decide_eq_true_eq]
      repeat' split
      all_goals (first | rfl | (simp only [Prod.mk.injEq]; omega) | (exfalso; omega))
    | [b] =>
      have hb := bl b
      simp only [List.getD_cons_zero,List.getD_cons_succ,List.getD_nil,List.length_cons,List.length_nil,D,fol,Utf8.valid,Utf8.runeError,Bool.and_eq_true,Bool.or_eq_true,beq_iff_eq,decide_eq_true_eq]
      repeat' split
      all_goals (first | rfl | (simp only [Prod.mk.injEq]; omega) | (exfalso; omega))
    | [b,c] =>
      have hb := bl b
      have hc := bl c
      simp only [List.getD_cons_zero,List.getD_cons_succ,List.getD_nil,List.length_cons,List.length_nil,D,fol,Utf8.valid,Utf8.runeError,Bool.and_eq_true,Bool.or_eq_true,beq_iff_eq,decide_eq_true_eq]
      repeat' split
      all_goals (first | rfl | (simp only [Prod.mk.injEq]; omega) | (exfalso; omega))
    | b :: c :: d :: r =>
      have hb := bl b
      have hc := bl c
      have hd := bl d
      simp only [List.getD_cons_zero,List.getD_cons_succ,List.getD_nil,List.length_cons,List.length_nil,D,fol,Utf8.valid,Utf8.runeError,Bool.and_eq_true,Bool.or_eq_true,beq_iff_eq,decide_eq_true_eq]
      repeat' split
      all_goals (first | rfl | (simp only [Prod.mk.injEq]; omega) | (exfalso; omega))
set_option maxHeartbeats 4000000 in
theorem loop152 (t : Tag) (l : List UInt8) (ht : TagOk t l) (hl : l.length ≤ 2000000) : ∀ (k : Nat) (i : Nat) (done : List (Int × Int)) (x4 x5 x6 x8 x9 x10 x11 : TV),i ≤ l.length → l.length - i ≤ k → done.length ≤ i →
    ∃ y3 y4 y5 y6 y8 y9 y10 y11 S',lp' (lim K) t152L0 [.iv (.sl t (bytesIV l)),.iv (.sl .nil []),.lb [.iv (.int .i64 0),.iv (.int .i64 0)],acc 1 (done.map encC),x4,x5,x6,.it 0,x8,x9,x10,x11] (.sit l i :: accS 2 167 (done.map encC)) = .ret (match (chars k (l.drop i) i).2 with
      | none => (.exit 0,[.iv (.sl t (bytesIV l)),.iv (.sl .nil []),.lb [.iv (.int .i64 0),.iv (.int .i64 0)],acc 1 ((done ++ (chars k (l.drop i) i).1).map encC),y4,y5,y6,.it 0,y8,y9,y10,y11],S')
      | some p => (.ret,[.iv (.sl t (bytesIV l)),.iv (.sl .nil []),.lb [.iv (.int .i64 4),.iv (.int .i64 p)],y3,y4,y5,y6,.it 0,y8,y9,y10,y11],S'))
  | 0,i,done,x4,x5,x6,x8,x9,x10,x11,h1,h2,h3 => by
    refine ⟨?_,?_,?_,?_,?_,?_,?_,?_,?_,loop_at K _ _ t152L0.eq_1 ?_⟩
    rotate_left 9
    · simp (disch := omega) only [go_sem,chars,List.append_nil]
      rfl
    exact .hole
  | k + 1,i,done,x4,x5,x6,x8,x9,x10,x11,h1,h2,h3 => by
    by_cases hi : i = l.length
    · have e : l.drop i = [] := List.drop_of_length_le (by omega)
      refine ⟨?_,?_,?_,?_,?_,?_,?_,?_,?_,loop_at K _ _ t152L0.eq_1 ?_⟩
      rotate_left 9
      · simp (disch := omega) only [go_sem,chars,e,List.append_nil]
        rfl
      exact .hole
    · have hs : (l.drop i).length = l.length - i := List.length_drop
      have hde := decode_eq l i (by omega)
      have hne : ¬ l.drop i = [] := by intro e; rw [e] at hs; simp at hs; omega
      have h25 := fun tg => call172 tg (l.drop i)
      have hdl := D_le (l.drop i)
      have hbad : bad (l.drop i) = (decide ((((D (l.drop i)).1 : Nat) : Int) = 65533) && decide ((((D (l.drop i)).2 : Nat) : Int) ≤ 1)) := by
        rw [bad,Bool.eq_iff_iff]; simp; omega
      have hsl := fun S => slice_bytes_lo S (t := t) (l := l) (a := (i : Int)) ht (by omega)
      cases hb : bad (l.drop i)
      · have hg := D_good hb
        have hdr : (l.drop i).drop (D (l.drop i)).2 = l.drop (i + (D (l.drop i)).2) := by
          rw [List.drop_drop]
        have ih := fun x4 x5 x6 x8 x9 x10 x11 => loop152 t l ht hl k (i + (D (l.drop i)).2) (done ++ [(((D (l.drop i)).1 : Int),(i : Int))]) x4 x5 x6 x8 x9 x10 x11 (by omega) (by omega) (by simp; omega)
        simp only [chars,hne,hb,↓reduceIte,Bool.false_eq_true]
        rw [hdr]
        have ha := ap_accB1 (w := 2) (b := 16) (el := 167) (t := .full) (.sit l (i + (D (l.drop i)).2)) (encC_ok (((D (l.drop i)).1 : Int),(i : Int))) (Elems.map encC_ok done) (roomy_ok (by rw [List.length_map]; omega))
        have em : (done ++ [(((D (l.drop i)).1 : Int),(i : Int))]).map encC = done.map encC ++ [[.int .i64 (D (l.drop i)).1,.int .i64 i]] := by simp [encC]
        rw [em] at ih
        generalize D (l.drop i) = d at *
        simp only [encC] at ha
        rw [hb] at hbad
        by_cases hc : (d.1 : Int) = 65533
        · have h26 : ¬ (d.2 : Int) ≤ 1 := by intro q; simp [hc,q] at hbad
          obtain ⟨y3,y4,y5,y6,y8,y9,y10,y11,S',ih⟩ := ih (.iv (.int .i64 i)) (.iv (.int .i32 d.1)) (.iv (.int .i64 d.2)) (.tup [.iv (.bool true),.iv (.int .i64 i),.iv (.int .i32 d.1)]) (.iv (.bool true)) (.iv (.bool true)) (.iv (.bool false))
          refine ⟨y3,y4,y5,y6,y8,y9,y10,y11,S',loop_at K _ _ t152L0.eq_1 ?_⟩
          simp (config := { maxSteps := 4000000 }) (disch := omega) only [go_sem,hde,hsl,Int.toNat_natCast,h25,call173,h26,wrap_i64,ha,ih]
          simp only [Int.natCast_add,List.map_append,List.map_cons,List.map_nil,encC,List.append_assoc,List.cons_append,List.nil_append]
          cases (chars k (l.drop (i + d.2)) ((i : Int) + (d.2 : Int))).2 <;> rfl
        · obtain ⟨y3,y4,y5,y6,y8,y9,y10,y11,S',ih⟩ := ih (.iv (.int .i64 i)) (.iv (.int .i32 d.1)) x6 (.tup [.iv (.bool true),.iv (.int .i64 i),.iv (.int .i32 d.1)]) (.iv (.bool true)) (.iv (.bool false)) x11
          refine ⟨y3,y4,y5,y6,y8,y9,y10,y11,S',loop_at K _ _ t152L0.eq_1 ?_⟩
          simp (config := { maxSteps := 4000000 }) (disch := omega) only [go_sem,hde,wrap_i64,ha,ih]
          simp only [Int.natCast_add,List.map_append,List.map_cons,List.map_nil,encC,List.append_assoc,List.cons_append,List.nil_append]
          cases (chars k (l.drop (i + d.2)) ((i : Int) + (d.2 : Int))).2 <;> rfl
      · rw [hb] at hbad
        have h26 := hbad.symm
        have hc : (((D (l.drop i)).1 : Nat) : Int) = 65533 := by simp at h26; omega
        have hc2 : (((D (l.drop i)).2 : Nat) : Int) ≤ 1 := by simp at h26; omega
        refine ⟨?_,?_,?_,?_,?_,?_,?_,?_,?_,loop_at K _ _ t152L0.eq_1 ?_⟩
        rotate_left 9
        · simp (config := { maxSteps := 4000000 }) (disch := omega) only [go_sem,chars,hne,hb,hde,hsl,Int.toNat_natCast,h25,call173,h26,hc]
          rfl
theorem call152 (t : Tag) (l : List UInt8) (ht : TagOk t l) (hl : l.length ≤ 2000000) : Pure K 152 [.iv (.sl t (bytesIV l))] (match (chars l.length l 0).2 with
      | none => .tup [.iv (.sl (sTag (chars l.length l 0).1) ((chars l.length l 0).1.map encC)),.iv (.agg [.int .i64 0,.int .i64 0])]
      | some p => .tup [.iv (.sl .nil []),.iv (.agg [.int .i64 4,.int .i64 p])]) := by
  obtain ⟨y3,y4,y5,y6,y8,y9,y10,y11,S',e⟩ := loop152 t l ht hl l.length 0 [] (.tup []) (.tup []) (.tup []) (.tup []) (.tup []) (.tup []) (.tup []) (by omega) (by omega) (by simp)
  rw [List.map_nil,acc_nil,accS_nil] at e
  simp only [List.nil_append,List.drop_zero,Int.cast_ofNat_Int] at e
  generalize chars l.length l 0 = q at *
  obtain ⟨q1,q2⟩ := q
  refine call_pure t152 rfl rfl ?_
  cases q2 with
  | none =>
    simp only at e ⊢
    simp (disch := omega) only [t152,go_sem,e,sTag_map]
  | some p =>
    simp only at e ⊢
    simp (disch := omega) only [t152,go_sem,e]
theorem sub2 (c : Int × Int) : sub (encC c) 0 2 = some (encC c) := by simp [sub,encC]
theorem i64_cell (a : Int) : isCell (i64 a) = true := rfl
def codes (cs : List (Int × Int)) : List Int := cs.map (·.1)
theorem codes_take (cs : List (Int × Int)) (i : Nat) (h : i < cs.length) : codes (cs.take (i + 1)) = codes (cs.take i) ++ [(cs.getD i default).1] := by
  rw [take_succ_getD (d := default) h]; simp [codes]
theorem chars_len0 : ∀ (k : Nat) (s : List UInt8) (i : Int),(chars k s i).1.length ≤ s.length
  | 0,s,i => by simp [chars]
  | k + 1,s,i => by
    simp only [chars]
    split
    · simp
    · split
      · simp
      · rename_i h1 h2
        have hb : bad s = false := by simpa using h2
        have hg := D_good hb
        have := chars_len0 k (s.drop (D s).2) (i + (D s).2)
        rw [List.length_drop] at this
        simp only [List.length_cons]
        omega
theorem chars_len (s : List UInt8) (hl : s.length ≤ 2000000) : (chars s.length s 0).1.length ≤ 2000000 := by
  have := chars_len0 s.length s 0
  omega
set_option maxHeartbeats 4000000 in
theorem loop118 (s : TV) (tg : Tag) (cs : List (Int × Int)) (hl : cs.length ≤ 2000000) (f a7 : TV) : ∀ (k i : Nat) (x6 x11 : TV),i + k = cs.length →
    ∃ y6 y11,lp' (lim K) t118L0 [s,.iv (.sl .nil []),.iv (.int .i64 0),.iv (.sl tg (cs.map encC)),f,acc 0 (TM.one i64 (codes (cs.take i))),x6,a7,.iv (.sl tg (cs.map encC)),.iv (.int .i64 cs.length),.iv (.int .i64 i),x11] (accS 1 3 (TM.one i64 (codes (cs.take i)))) = .ret (.exit 0,[s,.iv (.sl .nil []),.iv (.int .i64 0),.iv (.sl tg (cs.map encC)),f,acc 0 (TM.one i64 (codes cs)),y6,a7,.iv (.sl tg (cs.map encC)),.iv (.int .i64 cs.length),.iv (.int .i64 cs.length),y11],accS 1 3 (TM.one i64 (codes cs)))
  | 0,i,x6,x11,h => by
    obtain rfl : i = cs.length := by omega
    rw [List.take_length]
    refine ⟨?_,?_,loop_at K _ _ t118L0.eq_1 ?_⟩
    rotate_left 2
    · simp (disch := omega) only [go_sem]
      rfl
  | k + 1,i,x6,x11,h => by
    have hc := codes_take cs i (by omega)
    have hcl : (codes (cs.take i)).length ≤ 2000000 := by simp [codes]; omega
    obtain ⟨y6,y11,ih⟩ := loop118 s tg cs hl f a7 k (i + 1) (.lb [.iv (.int .i64 (cs.getD i default).1),.iv (.int .i64 (cs.getD i default).2)]) (.iv (.bool true)) (by omega)
    rw [hc,← one_append] at ih
    have ha := ap_acc1 (w := 1) (b := 8) (el := 3) (t := .full) (l := TM.one i64 (codes (cs.take i))) (c := [.int .i64 (cs.getD i default).1]) ⟨rfl,rfl⟩ (Elems.one i64_cell _) (roomy_ok (by rw [TM.one_length]; omega))
    have hg := ix_map (w := 2) (f := encC) (fun _ => rfl) (t := tg) (l := cs) (i := (i : Int)) (by omega)
    refine ⟨y6,y11,loop_at K _ _ t118L0.eq_1 ?_⟩
    simp (config := { maxSteps := 4000000 }) (disch := omega) only [go_sem,hg,getCells_cp,sub2,Int.toNat_natCast,encC,wrap_i64,ha]
    exact congrArg er ih
set_option maxHeartbeats 4000000 in
theorem loop51 (s : TV) (tg : Tag) (cs : List (Int × Int)) (hl : cs.length ≤ 2000000) (f a7 : TV) : ∀ (k i : Nat) (x8 : TV),i + k = cs.length →
    ∃ y8,lp' (lim K) t51L0 [s,.iv (.sl .nil []),.iv (.int .i64 0),.iv (.sl tg (cs.map encC)),f,acc 0 (TM.one i64 (codes (cs.take i))),.iv (.int .i64 i),a7,x8] (accS 1 3 (TM.one i64 (codes (cs.take i)))) = .ret (.exit 0,[s,.iv (.sl .nil []),.iv (.int .i64 0),.iv (.sl tg (cs.map encC)),f,acc 0 (TM.one i64 (codes cs)),.iv (.int .i64 cs.length),a7,y8],accS 1 3 (TM.one i64 (codes cs)))
  | 0,i,x8,h => by
    obtain rfl : i = cs.length := by omega
    rw [List.take_length]
    refine ⟨?_,loop_at K _ _ t51L0.eq_1 ?_⟩
    rotate_left 1
    · simp (disch := omega) only [go_sem,List.length_map]
      rfl
  | k + 1,i,x8,h => by
    have hc := codes_take cs i (by omega)
    have hcl : (codes (cs.take i)).length ≤ 2000000 := by simp [codes]; omega
    obtain ⟨y8,ih⟩ := loop51 s tg cs hl f a7 k (i + 1) (.iv (.bool true)) (by omega)
    rw [hc,← one_append] at ih
    have ha := ap_acc1 (w := 1) (b := 8) (el := 3) (t := .full) (l := TM.one i64 (codes (cs.take i))) (c := [.int .i64 (cs.getD i default).1]) ⟨rfl,rfl⟩ (Elems.one i64_cell _) (roomy_ok (by rw [TM.one_length]; omega))
    have hg := ix_map (w := 2) (f := encC) (fun _ => rfl) (t := tg) (l := cs) (i := (i : Int)) (by omega)
    have hz : addOff (.iv (.cp (encC (cs.getD i default)))) 0 = some (.iv (.cp (encC (cs.getD i default)))) := rfl
    refine ⟨y8,loop_at K _ _ t51L0.eq_1 ?_⟩
    simp (config := { maxSteps := 4000000 }) (disch := omega) only [go_sem,List.length_map,hg,hz,Int.toNat_natCast,encC,wrap_i64,ha,addOff_cp]
    exact congrArg er ih
theorem call118 (s : List UInt8) (hl : s.length ≤ 2000000) : Pure K 118 [.iv (.str s)] (match (chars s.length s 0).2 with
      | none => .tup [.iv (.sl (sTag (chars s.length s 0).1) (TM.one i64 (codes (chars s.length s 0).1))),.iv (.int .i64 0)]
      | some p => .tup [.iv (.sl .nil []),.iv (.int .i64 4)]) := by
  have h17 := call152 .no s (TagOk.no _) hl
  have hcl : (chars s.length s 0).1.length ≤ 2000000 := chars_len s hl
  generalize chars s.length s 0 = q at *
  obtain ⟨q1,q2⟩ := q
  refine call_pure t118 rfl rfl ?_
  cases q2 with
  | none =>
    simp only at h17 hcl ⊢
    simp (config := { maxSteps := 4000000 }) (disch := omega) only [t118,go_sem,cpR_pure h17,List.length_map]
    obtain ⟨y6,y11,e⟩ := loop118 (.iv (.str s)) (sTag q1) q1 hcl (.lb [.iv (.int .i64 0),.iv (.int .i64 0)]) (.iv (.bool false)) q1.length 0 (.tup []) (.tup []) (by omega)
    rw [List.take_zero,show codes [] = [] from rfl,show TM.one i64 [] = [] from rfl,acc_nil,accS_nil,show ((0 : Nat) : Int) = 0 from rfl] at e
    simp (config := { maxSteps := 4000000 }) (disch := omega) only [go_sem,e]
    simp only [TM.one,codes,sTag_map]
  | some p =>
    simp only at h17 ⊢
    simp (config := { maxSteps := 4000000 }) (disch := omega) only [t118,go_sem,cpR_pure h17]
theorem ite_high {c : Bool} {x n : Nat} (h : c = true → 128 ≤ x) : 128 ≤ (if c = true then (x,n) else (65533,1)).1 := by
  cases c with
  | false => exact (by decide : 128 ≤ 65533)
  | true => exact h rfl
theorem D_high (a : UInt8) (r : List UInt8) (h : 128 ≤ a.toNat) : 128 ≤ (D (a :: r)).1 := by
  have ha := bl a
  by_cases h1 : a.toNat < 194
  · rw [D_bad a r (.inl ⟨h,h1⟩)]; decide
  by_cases h2 : a.toNat < 224
  · rw [D_two a r ⟨by omega,h2⟩]
    split
    · split
      · simp only; omega
      · decide
    · decide
  by_cases h3 : a.toNat < 240
  · rw [D_three a r ⟨by omega,h3⟩]
    split
    · rename_i b c t
      have hb := bl b
      by_cases e : a.toNat = 224
      · simp only [e,↓reduceIte]
        refine ite_high fun hc => ?_
        simp only [Bool.and_eq_true,decide_eq_true_eq] at hc
        rw [if_neg (by decide)] at hc
        omega
      · simp only [e,↓reduceIte]
        generalize (if a.toNat = 237 then 159 else 191) = z
        exact ite_high fun _ => by omega
    · decide
  by_cases h4 : a.toNat < 245
  · rw [D_four a r ⟨by omega,h4⟩]
    split
    · rename_i b c d t
      have hb := bl b
      by_cases e : a.toNat = 240
      · simp only [e,↓reduceIte]
        refine ite_high fun hc => ?_
        simp only [Bool.and_eq_true,decide_eq_true_eq] at hc
        rw [if_neg (by decide)] at hc
        omega
      · simp only [e,↓reduceIte]
        generalize (if a.toNat = 244 then 143 else 191) = z
        exact ite_high fun _ => by omega
    · decide
  · rw [D_bad a r (.inr (by omega))]; decide
def isDig (a : UInt8) : Bool := decide (48 ≤ a.toNat ∧ a.toNat ≤ 57)
theorem D_dig (a : UInt8) (r : List UInt8) : (isDig a = true → D (a :: r) = (a.toNat,1)) ∧ (isDig a = false → (D (a :: r)).1 < 48 ∨ 57 < (D (a :: r)).1) := by
  unfold isDig
  constructor
  · intro h
    simp only [decide_eq_true_eq] at h
    exact D_ascii a r (by omega)
  · intro h
    simp only [decide_eq_false_iff_not] at h
    by_cases h1 : a.toNat < 128
    · rw [D_ascii a r h1]; simp only; omega
    · have := D_high a r (by omega); omega
theorem call150 (c : Int) (S : Store) : (lim K).call 150 [.iv (.int .i32 c)] S = .ret (.iv (.bool (decide (c < 48) || decide (57 < c))),S) := by
  refine call_ret' K S (fn := t150) rfl rfl ?_
  by_cases h1 : c < 48
  · simp (disch := omega) only [t150,go_sem,TM.undef,Bool.true_or]
  · by_cases h2 : 57 < c
    · simp (disch := omega) only [t150,go_sem,TM.undef,Bool.false_or]
    · simp (disch := omega) only [t150,go_sem,TM.undef,Bool.false_or]
theorem drop_consB {l : List UInt8} {i : Nat} (h : i < l.length) : l.drop i = l.getD i 0 :: l.drop (i + 1) := by
  rw [List.drop_eq_getElem_cons h,List.getD_eq_getElem?_getD,List.getElem?_eq_getElem h]; rfl
theorem loop191 (s : List UInt8) (hs : s.length ≤ 2000000) : ∀ (k i : Nat) (x3 : Int) (x4 x5 x7 x8 x9 : TV),i + k = s.length →
    ∃ j r y4 y5 y7 y8 y9 S',(j = .ret ∧ 0 ≤ r ∧ (s.drop i).all isDig = false ∨ j = .exit 0 ∧ r = x3 ∧ (s.drop i).all isDig = true) ∧
      lp' (lim K) t191L0 [.iv (.str s),.fn 150 [] [],.iv (.bool true),.iv (.int .i64 x3),x4,x5,.it 0,x7,x8,x9] [.sit s i] = .ret (j,[.iv (.str s),.fn 150 [] [],.iv (.bool true),.iv (.int .i64 r),y4,y5,.it 0,y7,y8,y9],S')
  | 0,i,x3,x4,x5,x7,x8,x9,h => by
    refine ⟨.exit 0,x3,?_,?_,?_,?_,?_,?_,.inr ⟨rfl,rfl,by rw [List.drop_eq_nil_of_le (by omega)]; rfl⟩,loop_at K _ _ t191L0.eq_1 ?_⟩
    rotate_left 6
    · simp (disch := omega) only [go_sem]
      rfl
  | k + 1,i,x3,x4,x5,x7,x8,x9,h => by
    have hla : i < s.length := by omega
    have hde := decode_eq s i hla
    rw [drop_consB hla] at hde
    obtain ⟨hd1,hd2⟩ := D_dig (s.getD i 0) (s.drop (i + 1))
    have hdr := drop_consB hla
    generalize s.getD i 0 = a at *
    cases hb : isDig a with
    | true =>
      rw [hd1 hb] at hde
      have hb' := hb
      unfold isDig at hb'
      simp only [decide_eq_true_eq] at hb'
      obtain ⟨j,r,y4,y5,y7,y8,y9,S',hj,ih⟩ := loop191 s hs k (i + 1) x3 (.iv (.int .i64 i)) (.iv (.int .i32 a.toNat)) (.tup [.iv (.bool true),.iv (.int .i64 i),.iv (.int .i32 a.toNat)]) (.iv (.bool true)) (.iv (.bool false)) (by omega)
      refine ⟨j,r,y4,y5,y7,y8,y9,S',?_,loop_at K _ _ t191L0.eq_1 ?_⟩
      · rw [hdr,List.all_cons,hb,Bool.true_and]; exact hj
      · simp (disch := omega) only [go_sem,hla,hde,call150,Bool.or_false]
        exact congrArg er ih
    | false =>
      have hb2 := hd2 hb
      generalize D (a :: s.drop (i + 1)) = d at *
      refine ⟨.ret,(i : Int),?_,?_,?_,?_,?_,?_,.inl ⟨rfl,by omega,by rw [hdr,List.all_cons,hb,Bool.false_and]⟩,loop_at K _ _ t191L0.eq_1 ?_⟩
      rotate_left 6
      · have hor : (decide ((d.1 : Int) < 48) || decide (57 < (d.1 : Int))) = true := by simp; omega
        simp (disch := omega) only [go_sem,hla,hde,call150,hor]
        rfl
theorem call191 (s : List UInt8) (hs : s.length ≤ 2000000) : ∃ r S',(0 ≤ r ↔ s.all isDig = false) ∧ (lim K).call 191 [.iv (.str s),.fn 150 [] [],.iv (.bool true)] [] = .ret (.iv (.int .i64 r),S') := by
  obtain ⟨j,r,y4,y5,y7,y8,y9,S',hj,ih⟩ := loop191 s hs s.length 0 0 (.tup []) (.tup []) (.tup []) (.tup []) (.tup []) (by omega)
  rw [List.drop_zero] at hj
  rcases hj with ⟨rfl,hr,ha⟩ | ⟨rfl,hr,ha⟩
  · refine ⟨r,S',by simp [hr,ha],call_ret' K _ (fn := t191) rfl rfl ?_⟩
    simp (config := { maxSteps := 4000000 }) (disch := omega) only [t191,go_sem,TM.undef]
    rw [ih]
    simp (config := { maxSteps := 4000000 }) (disch := omega) only [go_sem]
  · refine ⟨-1,S',by simp [ha],call_ret' K _ (fn := t191) rfl rfl ?_⟩
    simp (config := { maxSteps := 4000000 }) (disch := omega) only [t191,go_sem,TM.undef]
    rw [ih]
    simp (config := { maxSteps := 4000000 }) (disch := omega) only [go_sem]
theorem call149 (s : List UInt8) (hs : s.length ≤ 2000000) : ∃ S',(lim K).call 149 [.iv (.str s),.fn 150 [] []] [] = .ret (.iv (.bool (!s.all isDig)),S') := by
  obtain ⟨r,S',hr,ih⟩ := call191 s hs
  have h171 : (lim K).call 171 [.iv (.str s),.fn 150 [] []] [] = .ret (.iv (.int .i64 r),S') := by
    refine call_ret' K _ (fn := t171) rfl rfl ?_
    simp (config := { maxSteps := 4000000 }) (disch := omega) only [t171,go_sem,TM.undef,ih]
  refine ⟨S',call_ret' K _ (fn := t149) rfl rfl ?_⟩
  cases ha : s.all isDig with
  | true =>
    have : ¬ 0 ≤ r := fun h => by rw [hr,ha] at h; cases h
    simp (config := { maxSteps := 4000000 }) (disch := omega) only [t149,go_sem,TM.undef,h171,Bool.not_true]
  | false =>
    have : 0 ≤ r := hr.2 ha
    simp (config := { maxSteps := 4000000 }) (disch := omega) only [t149,go_sem,TM.undef,h171,Bool.not_false]
theorem ixs0 (c : UInt8) (r : List UInt8) (k : IntKind) : ixStr (.iv (.str (c :: r))) (.iv (.int k 0)) = some (.iv (.int .u8 c.toNat)) := by
  have := ixStr_ok (s := c :: r) (i := 0) (kd := k) (by simp)
  simpa using this
def trimM : List UInt8 → List UInt8
  | a :: r => if a.toNat = 45 then r else a :: r
  | [] => []
theorem call148 (s : List UInt8) (hs : s.length ≤ 2000000) (S : Store) : (lim K).call 148 [.iv (.str s),.iv (.str [45])] S = .ret (.iv (.str (trimM s)),S) := by
  have h190 : (lim K).call 190 [.iv (.str s),.iv (.str [45])] [] = .ret (.iv (.bool (match s with | a :: _ => decide (a.toNat = 45) | [] => false)),[]) := by
    refine call_ret' K _ (fn := t190) rfl rfl ?_
    cases s with
    | nil => simp (config := { maxSteps := 4000000 }) (disch := omega) only [t190,go_sem,TM.undef,List.length_nil,List.length_cons]
    | cons a r =>
      have hl : (a :: r).length = r.length + 1 := rfl
      have h1 := slice_str_hi [] (s := a :: r) (b := ((1 : Nat) : Int)) (by rw [hl]; omega)
      rw [show (((1 : Nat) : Int)).toNat = 1 from rfl,show (a :: r).take 1 = [a] from rfl] at h1
      have h2 : ([a] == [(45 : UInt8)]) = decide (a.toNat = 45) := by
        rw [Bool.eq_iff_iff]
        simp only [beq_iff_eq,List.cons.injEq,and_true,decide_eq_true_eq]
        constructor
        · rintro rfl; rfl
        · intro h; exact UInt8.toNat_inj.1 h
      simp (config := { maxSteps := 4000000 }) (disch := omega) only [t190,go_sem,TM.undef,hl,List.length_nil,List.length_cons,h1,h2]
  have h170 : (lim K).call 170 [.iv (.str s),.iv (.str [45])] [] = .ret (.iv (.str (trimM s)),[]) := by
    refine call_ret' K _ (fn := t170) rfl rfl ?_
    cases s with
    | nil => simp (config := { maxSteps := 4000000 }) (disch := omega) only [t170,go_sem,TM.undef,h190,trimM]
    | cons a r =>
      have hl : (a :: r).length = r.length + 1 := rfl
      have h1 := slice_str_lo [] (s := a :: r) (a := ((1 : Nat) : Int)) (by rw [hl]; omega)
      rw [show (((1 : Nat) : Int)).toNat = 1 from rfl,show (a :: r).drop 1 = r from rfl] at h1
      by_cases ha : a.toNat = 45
      · simp (config := { maxSteps := 4000000 }) (disch := omega) only [t170,go_sem,TM.undef,h190,trimM,ha,List.length_nil,List.length_cons,h1]
      · simp (config := { maxSteps := 4000000 }) (disch := omega) only [t170,go_sem,TM.undef,h190,trimM,ha,List.length_nil,List.length_cons,h1]
  refine call_ret' K _ (fn := t148) rfl rfl ?_
  simp (config := { maxSteps := 4000000 }) (disch := omega) only [t148,go_sem,TM.undef,h170]
theorem trimM_le (s : List UInt8) : (trimM s).length ≤ s.length := by
  cases s with
  | nil => simp [trimM]
  | cons a r => simp only [trimM]; split <;> simp
def digF (s : List UInt8) : Bool :=
  match trimM s with
  | [] => false
  | a :: r => if a.toNat = 48 ∧ s ≠ [48] then false else (a :: r).all isDig
theorem call116 (s : List UInt8) (hs : s.length ≤ 2000000) : Pure K 116 [.iv (.str s)] (.iv (.bool (digF s))) := by
  have h1 := call148 s hs []
  have h2 := trimM_le s
  unfold digF
  cases ht : trimM s with
  | nil =>
    rw [ht] at h1
    refine pure_ret (S := []) (call_ret' K _ (fn := t116) rfl rfl ?_) (by rw [resolve_iv])
    simp (config := { maxSteps := 4000000 }) (disch := omega) only [t116,go_sem,TM.undef,h1]
  | cons a r =>
    rw [ht] at h1 h2
    obtain ⟨S',h3⟩ := call149 (a :: r) (by omega)
    have h4 := ixs0 a r .i64
    have h5 : ((a :: r) == ([] : List UInt8)) = false := rfl
    by_cases ha : a.toNat = 48
    · by_cases hz : s = [48]
      · have h6 : (s == [(48 : UInt8)]) = true := by simp [hz]
        refine pure_ret (S := S') (r := .iv (.bool ((a :: r).all isDig))) (call_ret' K _ (fn := t116) rfl rfl ?_) (by rw [resolve_iv]; simp [ha,hz])
        simp (config := { maxSteps := 4000000 }) (disch := omega) only [t116,go_sem,TM.undef,h1,h3,h4,h5,h6,ha,Bool.not_not,Bool.not_true]
      · have h6 : (s == [(48 : UInt8)]) = false := by simp [hz]
        refine pure_ret (S := []) (r := .iv (.bool false)) (call_ret' K _ (fn := t116) rfl rfl ?_) (by rw [resolve_iv]; simp [ha,hz])
        simp (config := { maxSteps := 4000000 }) (disch := omega) only [t116,go_sem,TM.undef,h1,h3,h4,h5,h6,ha,Bool.not_not,Bool.not_false]
    · refine pure_ret (S := S') (r := .iv (.bool ((a :: r).all isDig))) (call_ret' K _ (fn := t116) rfl rfl ?_) (by rw [resolve_iv]; simp [ha])
      simp (config := { maxSteps := 4000000 }) (disch := omega) only [t116,go_sem,TM.undef,h1,h3,h4,h5,Bool.not_not]
def okC (t : List UInt8) : Bool := (chars t.length t 0).2.isNone
def bareF (d : Dt) : Bool :=
  if d.k = 0 ∨ d.k = 8 ∨ d.k = 9 ∨ d.k = 10 then true else if d.k = 1 then decide (d.n = 0 ∨ d.n = 1) else if d.k = 2 then digF d.t else if d.k = 3 then isC d.n
  else if d.k = 4 then okC d.t else if d.k = 5 then okC d.t && !d.t.isEmpty else false
theorem codes_ok (s : List UInt8) (hl : s.length ≤ 2000000) : ∃ l,Pure K 118 [.iv (.str s)] (.tup [l,.iv (.int .i64 (if okC s then 0 else 4))]) := by
  have h := call118 s hl
  unfold okC
  cases hc : (chars s.length s 0).2 with
  | none => rw [hc] at h; exact ⟨_,h⟩
  | some p => rw [hc] at h; exact ⟨_,h⟩
theorem beq_nil (t : List UInt8) : (t == []) = t.isEmpty := by cases t <;> rfl
theorem call85 (d : Dt) (hd : d.w ≤ 1048576) : Pure K 85 [.iv (.agg (encD d))] (.iv (.bool (bareF d))) := by
  have hw := Dt.w_eq d
  obtain ⟨l,hc⟩ := codes_ok d.t (by omega)
  have h116 := call116 d.t (by omega)
  have h117 := call117 d.n
  unfold bareF
  by_cases hs : d.k = 0 ∨ d.k = 8 ∨ d.k = 9 ∨ d.k = 10
  · refine pure_ret (S := []) (r := .iv (.bool true)) (call_ret' K _ (fn := t85) rfl rfl ?_) (by rw [resolve_iv]; simp [hs])
    rw [encD_eq]
    rcases hs with h | h | h | h <;> simp (config := { maxSteps := 4000000 }) (disch := omega) only [t85,go_sem,TM.undef]
  · by_cases h1 : d.k = 1
    · refine pure_ret (S := []) (r := .iv (.bool (decide (d.n = 0 ∨ d.n = 1)))) (call_ret' K _ (fn := t85) rfl rfl ?_) (by rw [resolve_iv]; simp [h1])
      rw [encD_eq]
      by_cases n0 : d.n = 0
      · simp (config := { maxSteps := 4000000 }) (disch := omega) only [t85,go_sem,TM.undef]
      · by_cases n1 : d.n = 1
        · simp (config := { maxSteps := 4000000 }) (disch := omega) only [t85,go_sem,TM.undef]
        · simp (config := { maxSteps := 4000000 }) (disch := omega) only [t85,go_sem,TM.undef]
    · by_cases h2 : d.k = 2
      · refine pure_ret (S := []) (r := .iv (.bool (digF d.t))) (call_ret' K _ (fn := t85) rfl rfl ?_) (by rw [resolve_iv]; simp [h2])
        rw [encD_eq]
        simp (config := { maxSteps := 4000000 }) (disch := omega) only [t85,go_sem,TM.undef,cpR_pure h116]
      · by_cases h3 : d.k = 3
        · refine pure_ret (S := []) (r := .iv (.bool (isC d.n))) (call_ret' K _ (fn := t85) rfl rfl ?_) (by rw [resolve_iv]; simp [h3])
          rw [encD_eq]
          simp (config := { maxSteps := 4000000 }) (disch := omega) only [t85,go_sem,TM.undef,h117]
        · by_cases h4 : d.k = 4
          · refine pure_ret (S := []) (r := .iv (.bool (okC d.t))) (call_ret' K _ (fn := t85) rfl rfl ?_) (by rw [resolve_iv]; simp [h4])
            rw [encD_eq]
            cases ho : okC d.t
            · rw [ho] at hc
              simp (config := { maxSteps := 4000000 }) (disch := omega) only [t85,go_sem,TM.undef,cpR_pure hc,Bool.false_eq_true]
            · rw [ho] at hc
              simp (config := { maxSteps := 4000000 }) (disch := omega) only [t85,go_sem,TM.undef,cpR_pure hc]
          · by_cases h5 : d.k = 5
            · refine pure_ret (S := []) (r := .iv (.bool (okC d.t && !d.t.isEmpty))) (call_ret' K _ (fn := t85) rfl rfl ?_) (by rw [resolve_iv]; simp [h5])
              rw [encD_eq]
              cases ho : okC d.t
              · rw [ho] at hc
                simp (config := { maxSteps := 4000000 }) (disch := omega) only [t85,go_sem,TM.undef,cpR_pure hc,Bool.false_eq_true,Bool.false_and]
              · rw [ho] at hc
                simp (config := { maxSteps := 4000000 }) (disch := omega) only [t85,go_sem,TM.undef,cpR_pure hc,Bool.true_and,beq_nil]
            · refine pure_ret (S := []) (r := .iv (.bool false)) (call_ret' K _ (fn := t85) rfl rfl ?_) (by rw [resolve_iv]; simp [hs,h1,h2,h3,h4,h5])
              rw [encD_eq]
              simp (config := { maxSteps := 4000000 }) (disch := omega) only [t85,go_sem,TM.undef]
end Go.Proofs.YtookmpaholmmfaaGreatDoor
