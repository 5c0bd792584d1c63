/- Trees: data. Condition: none. -/
import Derived.Test.YtookmpaholmmfaaGreatDoorTmProg
import Derived.Test.YtookmpaholmmfaaGreatDoorTmE
set_option maxRecDepth 100000
set_option maxHeartbeats 8000000
set_option linter.unusedSimpArgs false
set_option linter.unusedVariables false
namespace Go.Proofs.YtookmpaholmmfaaGreatDoor
open Go Go.TM
attribute [go_sem] beq_self_eq_true decT decF ifT ifF eqT eqF neT neF bytesIV_length one_length get_cp get_cp0 List.replicate List.cons_append List.nil_append decide_true decide_false
attribute [go_sem] Nat.reduceAdd Nat.reduceSub Nat.reduceMul Nat.reduceLT Nat.reduceLeDiff Nat.reduceEqDiff Nat.reduceBEq reduceIte reduceCtorEq Int.reduceEq Int.reduceLT Int.reduceLE Int.reduceAdd Int.reduceSub Int.reduceMul Int.reduceToNat Int.reduceNeg Int.reduceBEq Int.reduceBNe Int.reduceTDiv Int.reduceTMod Int.reducePow Nat.reducePow Nat.reduceDiv Nat.reduceMod Int.reduceMod Int.reduceDiv Int.reduceNe Int.reduceFDiv
inductive Dt where
  | mk (k n : Int) (t : List UInt8) (g : Tag) (ks : List Dt) (p : Int)
instance : Inhabited Dt := ⟨.mk 0 0 [] .nil [] 0⟩
def Dt.k : Dt → Int | .mk k _ _ _ _ _ => k
def Dt.n : Dt → Int | .mk _ n _ _ _ _ => n
def Dt.t : Dt → List UInt8 | .mk _ _ t _ _ _ => t
def Dt.g : Dt → Tag | .mk _ _ _ g _ _ => g
def Dt.ks : Dt → List Dt | .mk _ _ _ _ ks _ => ks
def Dt.p : Dt → Int | .mk _ _ _ _ _ p => p
mutual
def encD : Dt → List IV
  | .mk k n t g ks p => [.int .i64 k, .int .i64 n, .str t, .sl g (encDs ks), .int .i64 p]
def encDs : List Dt → List (List IV)
  | [] => []
  | d :: ds => encD d :: encDs ds
end
mutual
def Dt.w : Dt → Nat
  | .mk _ _ t _ ks _ => t.length + Dt.ws ks + 1
def Dt.ws : List Dt → Nat
  | [] => 0
  | d :: ds => Dt.w d + Dt.ws ds
end
theorem encDs_map : ∀ ks : List Dt, encDs ks = ks.map encD
  | [] => by rw [encDs]; rfl
  | d :: ds => by rw [encDs, encDs_map ds]; rfl
theorem encDs_len (ks : List Dt) : (encDs ks).length = ks.length := by rw [encDs_map, List.length_map]
theorem encD_eq (d : Dt) : encD d = [.int .i64 d.k, .int .i64 d.n, .str d.t, .sl d.g (encDs d.ks), .int .i64 d.p] := by
  cases d; rw [encD]; rfl
theorem encD_len (d : Dt) : (encD d).length = 5 := by rw [encD_eq]; rfl
theorem Dt.w_eq (d : Dt) : d.w = d.t.length + Dt.ws d.ks + 1 := by cases d; rw [Dt.w]; rfl
theorem Dt.ws_mem {d : Dt} : ∀ {ks : List Dt}, d ∈ ks → d.w ≤ Dt.ws ks
  | x :: r, h => by
    rw [Dt.ws]
    rcases List.mem_cons.1 h with rfl | h
    · omega
    · have := Dt.ws_mem h; omega
theorem Dt.ws_len : ∀ ks : List Dt, ks.length ≤ Dt.ws ks
  | [] => by simp
  | x :: r => by
    have := Dt.ws_len r
    have := Dt.w_eq x
    rw [Dt.ws, List.length_cons]; omega
theorem Dt.kid_lt {d x : Dt} (h : x ∈ d.ks) : x.w < d.w := by
  have := Dt.ws_mem h
  rw [Dt.w_eq d]; omega
theorem ixD {g : Tag} {ks : List Dt} {i : Int} (h : 0 ≤ i ∧ i < ks.length) : indexAddrS 5 (.iv (.sl g (encDs ks))) i = some (.iv (.cp (encD (ks.getD i.toNat default)))) := by
  rw [encDs_map]
  exact ix_map (f := encD) encD_len h
theorem ao0 (cs : List IV) : addOff (.iv (.cp cs)) 0 = some (.iv (.cp cs)) := by simp [addOff]
theorem getD5 (env : Env) (S : Store) (d : Dt) : getCells env S (.iv (.cp (encD d))) 5 = some [.iv (.int .i64 d.k), .iv (.int .i64 d.n), .iv (.str d.t), .iv (.sl d.g (encDs d.ks)), .iv (.int .i64 d.p)] := by
  rw [encD_eq]; rfl
theorem drop_get {α : Type} [Inhabited α] {l : List α} {i : Nat} (h : i < l.length) : l.drop i = l.getD i default :: l.drop (i + 1) := by
  rw [List.drop_eq_getElem_cons h, List.getD_eq_getElem?_getD, List.getElem?_eq_getElem h]; rfl
theorem get_mem {α : Type} [Inhabited α] {l : List α} {i : Nat} (h : i < l.length) : l.getD i default ∈ l := by
  rw [List.getD_eq_getElem?_getD, List.getElem?_eq_getElem h]; exact List.getElem_mem h
def addUp {α : Type} (m : Int) (f : α → Int) : Int → List α → Int
  | a, [] => a
  | a, d :: ds => if a < m then addUp m f (a + f d) ds else a
theorem addUp_in {α : Type} (m b : Int) (hm : 0 ≤ m) (f : α → Int) : ∀ (l : List α) (hf : ∀ x ∈ l, 0 ≤ f x ∧ f x ≤ b) (a : Int), 0 ≤ a → a ≤ m + b → 0 ≤ addUp m f a l ∧ addUp m f a l ≤ m + b
  | [], _, a, h0, h1 => ⟨h0, h1⟩
  | x :: r, hf, a, h0, h1 => by
    rw [addUp]
    split
    · have := hf x (by simp)
      exact addUp_in m b hm f r (fun y hy => hf y (by simp [hy])) _ (by omega) (by omega)
    · exact ⟨h0, h1⟩
def partsF : Nat → Dt → Int
  | 0, _ => 5000
  | n + 1, d => addUp 5000 (partsF n) 1 d.ks
theorem partsF_in : ∀ (n : Nat) (d : Dt), 0 ≤ partsF n d ∧ partsF n d ≤ 5000 * (n + 1)
  | 0, d => by rw [partsF]; omega
  | n + 1, d => by
    rw [partsF]
    have := addUp_in 5000 (5000 * (n + 1)) (by omega) (partsF n) d.ks (fun x _ => partsF_in n x) 1 (by omega) (by omega)
    omega
theorem loop40 (n : Nat) (hn : n ≤ 60) (ih : ∀ (x : Dt) (S : Store), x.w ≤ 1048576 → (lim K).call 40 [.iv (.agg (encD x)), .iv (.int .i64 n)] S = .ret (.iv (.int .i64 (partsF n x)), S)) (d : Dt) (hd : d.w ≤ 1048576) (x0 x3 x6 : TV) (S : Store) :
    ∀ (k i : Nat) (acc : Int) (x7 : TV), i + k = d.ks.length → 0 ≤ acc → acc ≤ 400000 → ∃ i' x7', lp' (lim K) t40L0 [x0, .iv (.int .i64 ((n : Int) + 1)), .lb [.iv (.int .i64 d.k), .iv (.int .i64 d.n), .iv (.str d.t), .iv (.sl d.g (encDs d.ks)), .iv (.int .i64 d.p)], x3, .iv (.int .i64 acc), .iv (.int .i64 (i : Int)), x6, x7] S
      = .ret (.exit 0, [x0, .iv (.int .i64 ((n : Int) + 1)), .lb [.iv (.int .i64 d.k), .iv (.int .i64 d.n), .iv (.str d.t), .iv (.sl d.g (encDs d.ks)), .iv (.int .i64 d.p)], x3, .iv (.int .i64 (addUp 5000 (partsF n) acc (d.ks.drop i))), i', x6, x7'], S)
  | 0, i, acc, x7, h, h0, h1 => by
    rw [List.drop_eq_nil_of_le (by omega), addUp]
    have c1 : ¬ ((i : Int) < d.ks.length) := by omega
    refine ⟨?_, ?_, loop_at K _ _ t40L0.eq_1 ?_⟩
    rotate_left 2
    · simp (config := { maxSteps := 4000000 }) (disch := omega) only [go_sem, encDs_len, c1]
      rfl
  | k + 1, i, acc, x7, h, h0, h1 => by
    have c1 : (i : Int) < d.ks.length := by omega
    have hl : i < d.ks.length := by omega
    have hw := Dt.w_eq d
    have hw2 := Dt.ws_len d.ks
    have hdr := drop_get hl
    by_cases ha : acc < 5000
    · have hb := partsF_in n (d.ks.getD i default)
      obtain ⟨i', x7', ih2⟩ := loop40 n hn ih d hd x0 x3 x6 S k (i + 1) (acc + partsF n (d.ks.getD i default)) (.iv (.bool true)) (by omega) (by omega) (by omega)
      have hi : ((i + 1 : Nat) : Int) = (i : Int) + 1 := by omega
      rw [hdr, addUp, if_pos ha]
      rw [hi] at ih2
      refine ⟨i', x7', loop_at K _ _ t40L0.eq_1 ?_⟩
      have hix := ixD (g := d.g) (ks := d.ks) (i := (i : Int)) (by omega)
      rw [Int.toNat_natCast] at hix
      have w1 : IntKind.i64.wrap ((n : Int) + 1 - 1) = (n : Int) := by rw [wrap_i64 (by omega)]; omega
      have hm := get_mem hl
      have hc := fun S => ih (d.ks.getD i default) S (by have := Dt.kid_lt hm; omega)
      rw [encD_eq] at hc
      generalize hx : d.ks.getD i default = y at *
      simp (config := { maxSteps := 4000000 }) (disch := omega) only [go_sem, encDs_len, c1, ha, hix, getD5, w1, hc, wrap_i64]
      exact congrArg er ih2
    · rw [hdr, addUp, if_neg ha]
      refine ⟨?_, ?_, loop_at K _ _ t40L0.eq_1 ?_⟩
      rotate_left 2
      · simp (config := { maxSteps := 4000000 }) (disch := omega) only [go_sem, encDs_len, c1, ha]
        rfl
theorem call40 : ∀ (n : Nat) (hn : n ≤ 60) (d : Dt) (hd : d.w ≤ 1048576) (S : Store), (lim K).call 40 [.iv (.agg (encD d)), .iv (.int .i64 n)] S = .ret (.iv (.int .i64 (partsF n d)), S)
  | 0, hn, d, hd, S => by
    refine call_ret' K _ (fn := t40) rfl rfl ?_
    have e1 : ((0 : Nat) : Int) = 0 := rfl
    rw [encD_eq, partsF, e1]
    simp (config := { maxSteps := 4000000 }) (disch := omega) only [t40, go_sem]
  | n + 1, hn, d, hd, S => by
    have hw := Dt.w_eq d
    have hl := Dt.ws_len d.ks
    obtain ⟨i', x7', h⟩ := loop40 n (by omega) (fun x S hx => call40 n (by omega) x hx S) d hd (.iv (.agg [.int .i64 d.k, .int .i64 d.n, .str d.t, .sl d.g (encDs d.ks), .int .i64 d.p])) (.iv (.int .i64 0)) (.iv (.bool false)) S d.ks.length 0 1 (.tup []) (by omega) (by omega) (by omega)
    refine call_ret' K _ (fn := t40) rfl rfl ?_
    have e1 : ((n + 1 : Nat) : Int) = (n : Int) + 1 := by omega
    have e2 : ¬ ((n : Int) + 1 = 0) := by omega
    rw [encD_eq, partsF, e1]
    rw [List.drop_zero, show ((0 : Nat) : Int) = 0 from rfl] at h
    simp (config := { maxSteps := 4000000 }) (disch := omega) only [t40, go_sem, e2, TM.undef]
    rw [h]
    simp (config := { maxSteps := 4000000 }) (disch := omega) only [go_sem]
end Go.Proofs.YtookmpaholmmfaaGreatDoor
