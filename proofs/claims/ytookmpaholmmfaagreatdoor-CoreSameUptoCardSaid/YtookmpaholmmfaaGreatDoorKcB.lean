/- Trees: expressions, programs; which are large. Condition: none. -/
import Derived.Test.YtookmpaholmmfaaGreatDoorKcA
set_option maxRecDepth 100000
set_option maxHeartbeats 8000000
set_option linter.unusedSimpArgs false
set_option linter.unusedVariables false
namespace Go.Proofs.YtookmpaholmmfaaGreatDoor
open Go Go.TM
inductive Ex where
  | mk (k n : Int) (gv : Tag) (vs : List Int) (r : Bool) (g : Tag) (ks : List Ex)
instance : Inhabited Ex := ⟨.mk 0 0 .nil [] false .nil []⟩
def Ex.k : Ex → Int | .mk k _ _ _ _ _ _ => k
def Ex.n : Ex → Int | .mk _ n _ _ _ _ _ => n
def Ex.gv : Ex → Tag | .mk _ _ gv _ _ _ _ => gv
def Ex.vs : Ex → List Int | .mk _ _ _ vs _ _ _ => vs
def Ex.r : Ex → Bool | .mk _ _ _ _ r _ _ => r
def Ex.g : Ex → Tag | .mk _ _ _ _ _ g _ => g
def Ex.ks : Ex → List Ex | .mk _ _ _ _ _ _ ks => ks
mutual
def encE : Ex → List IV
  | .mk k n gv vs r g ks => [.int .i64 k, .int .i64 n, .sl gv (one (.int .i64) vs), .bool r, .sl g (encEs ks)]
def encEs : List Ex → List (List IV)
  | [] => []
  | d :: ds => encE d :: encEs ds
end
mutual
def Ex.w : Ex → Nat
  | .mk _ _ _ vs _ _ ks => vs.length + Ex.ws ks + 1
def Ex.ws : List Ex → Nat
  | [] => 0
  | d :: ds => Ex.w d + Ex.ws ds
end
theorem encEs_map : ∀ ks : List Ex, encEs ks = ks.map encE
  | [] => by rw [encEs]; rfl
  | d :: ds => by rw [encEs, encEs_map ds]; rfl
theorem encEs_len (ks : List Ex) : (encEs ks).length = ks.length := by rw [encEs_map, List.length_map]
theorem encE_eq (d : Ex) : encE d = [.int .i64 d.k, .int .i64 d.n, .sl d.gv (one (.int .i64) d.vs), .bool d.r, .sl d.g (encEs d.ks)] := by
  cases d; rw [encE]; rfl
theorem encE_len (d : Ex) : (encE d).length = 5 := by rw [encE_eq]; rfl
theorem Ex.w_eq (d : Ex) : d.w = d.vs.length + Ex.ws d.ks + 1 := by cases d; rw [Ex.w]; rfl
theorem Ex.ws_mem {d : Ex} : ∀ {ks : List Ex}, d ∈ ks → d.w ≤ Ex.ws ks
  | x :: r, h => by
    rw [Ex.ws]
    rcases List.mem_cons.1 h with rfl | h
    · omega
    · have := Ex.ws_mem h; omega
theorem Ex.ws_len : ∀ ks : List Ex, ks.length ≤ Ex.ws ks
  | [] => by simp
  | x :: r => by
    have := Ex.ws_len r
    have := Ex.w_eq x
    rw [Ex.ws, List.length_cons]; omega
theorem Ex.kid_lt {d x : Ex} (h : x ∈ d.ks) : x.w < d.w := by
  have := Ex.ws_mem h
  rw [Ex.w_eq d]; omega
theorem ixE {g : Tag} {ks : List Ex} {i : Int} (h : 0 ≤ i ∧ i < ks.length) : indexAddrS 5 (.iv (.sl g (encEs ks))) i = some (.iv (.cp (encE (ks.getD i.toNat default)))) := by
  rw [encEs_map]
  exact ix_map (f := encE) encE_len h
theorem getE5 (env : Env) (S : Store) (d : Ex) : getCells env S (.iv (.cp (encE d))) 5 = some [.iv (.int .i64 d.k), .iv (.int .i64 d.n), .iv (.sl d.gv (one (.int .i64) d.vs)), .iv (.bool d.r), .iv (.sl d.g (encEs d.ks))] := by
  rw [encE_eq]; rfl
def nodesF : Nat → Ex → Int
  | 0, _ => 9000
  | n + 1, d => addUp 9000 (nodesF n) (1 + d.vs.length) d.ks
theorem nodesF_in : ∀ (n : Nat) (d : Ex), 0 ≤ nodesF n d ∧ nodesF n d ≤ 9000 * (n + 1) + d.w
  | 0, d => by rw [nodesF]; omega
  | n + 1, d => by
    rw [nodesF]
    have hw := Ex.w_eq d
    have := addUp_in 9000 (9000 * (n + 1) + d.w) (by omega) (nodesF n) d.ks (fun x hx => by
      have := nodesF_in n x
      have := Ex.kid_lt hx
      omega) (1 + d.vs.length) (by omega) (by omega)
    omega
abbrev lbE (d : Ex) : TV := .lb [.iv (.int .i64 d.k), .iv (.int .i64 d.n), .iv (.sl d.gv (one (.int .i64) d.vs)), .iv (.bool d.r), .iv (.sl d.g (encEs d.ks))]
theorem loop10 (n : Nat) (hn : n ≤ 4100) (ih : ∀ (x : Ex) (S : Store), x.w ≤ 1048576 → (lim K).call 10 [.iv (.agg (encE x)), .iv (.int .i64 n)] S = .ret (.iv (.int .i64 (nodesF n x)), S)) (d : Ex) (hd : d.w ≤ 1048576) (x0 x3 x6 : TV) (S : Store) :
    ∀ (k i : Nat) (acc : Int) (x7 : TV), i + k = d.ks.length → 0 ≤ acc → acc ≤ 100000000 → ∃ i' x7', lp' (lim K) t10L0 [x0, .iv (.int .i64 ((n : Int) + 1)), lbE d, x3, .iv (.int .i64 acc), .iv (.int .i64 (i : Int)), x6, x7] S
      = .ret (.exit 0, [x0, .iv (.int .i64 ((n : Int) + 1)), lbE d, x3, .iv (.int .i64 (addUp 9000 (nodesF n) acc (d.ks.drop i))), i', x6, x7'], S)
  | 0, i, acc, x7, h, h0, h1 => by
    rw [List.drop_eq_nil_of_le (by omega), addUp]
    have c1 : ¬ ((i : Int) < d.ks.length) := by omega
    refine ⟨?_, ?_, loop_at K _ _ t10L0.eq_1 ?_⟩
    rotate_left 2
    · simp (config := { maxSteps := 4000000 }) (disch := omega) only [go_sem, encEs_len, c1]
      rfl
  | k + 1, i, acc, x7, h, h0, h1 => by
    have c1 : (i : Int) < d.ks.length := by omega
    have hl : i < d.ks.length := by omega
    have hw := Ex.w_eq d
    have hw2 := Ex.ws_len d.ks
    have hdr := drop_get hl
    by_cases ha : acc < 9000
    · have hb := nodesF_in n (d.ks.getD i default)
      have hm := get_mem hl
      have hk := Ex.kid_lt hm
      obtain ⟨i', x7', ih2⟩ := loop10 n hn ih d hd x0 x3 x6 S k (i + 1) (acc + nodesF n (d.ks.getD i default)) (.iv (.bool true)) (by omega) (by omega) (by omega)
      have hi : ((i + 1 : Nat) : Int) = (i : Int) + 1 := by omega
      rw [hdr, addUp, if_pos ha]
      rw [hi] at ih2
      refine ⟨i', x7', loop_at K _ _ t10L0.eq_1 ?_⟩
      have hix := ixE (g := d.g) (ks := d.ks) (i := (i : Int)) (by omega)
      rw [Int.toNat_natCast] at hix
      have w1 : IntKind.i64.wrap ((n : Int) + 1 - 1) = (n : Int) := by rw [wrap_i64 (by omega)]; omega
      have hc := fun S => ih (d.ks.getD i default) S (by omega)
      rw [encE_eq] at hc
      generalize hx : d.ks.getD i default = y at *
      simp (config := { maxSteps := 4000000 }) (disch := omega) only [go_sem, encEs_len, c1, ha, hix, getE5, w1, hc, wrap_i64]
      exact congrArg er ih2
    · rw [hdr, addUp, if_neg ha]
      refine ⟨?_, ?_, loop_at K _ _ t10L0.eq_1 ?_⟩
      rotate_left 2
      · simp (config := { maxSteps := 4000000 }) (disch := omega) only [go_sem, encEs_len, c1, ha]
        rfl
theorem call10 : ∀ (n : Nat) (hn : n ≤ 4100) (d : Ex) (hd : d.w ≤ 1048576) (S : Store), (lim K).call 10 [.iv (.agg (encE d)), .iv (.int .i64 n)] S = .ret (.iv (.int .i64 (nodesF n d)), S)
  | 0, hn, d, hd, S => by
    refine call_ret' K _ (fn := t10) rfl rfl ?_
    have e1 : ((0 : Nat) : Int) = 0 := rfl
    rw [encE_eq, nodesF, e1]
    simp (config := { maxSteps := 4000000 }) (disch := omega) only [t10, go_sem]
  | n + 1, hn, d, hd, S => by
    have hw := Ex.w_eq d
    have hl := Ex.ws_len d.ks
    obtain ⟨i', x7', h⟩ := loop10 n (by omega) (fun x S hx => call10 n (by omega) x hx S) d hd (.iv (.agg [.int .i64 d.k, .int .i64 d.n, .sl d.gv (one (.int .i64) d.vs), .bool d.r, .sl d.g (encEs d.ks)])) (.iv (.int .i64 0)) (.iv (.bool false)) S d.ks.length 0 (1 + d.vs.length) (.tup []) (by omega) (by omega) (by omega)
    refine call_ret' K _ (fn := t10) rfl rfl ?_
    have e1 : ((n + 1 : Nat) : Int) = (n : Int) + 1 := by omega
    have e2 : ¬ ((n : Int) + 1 = 0) := by omega
    rw [encE_eq, nodesF, e1]
    rw [List.drop_zero, show ((0 : Nat) : Int) = 0 from rfl] at h
    simp (config := { maxSteps := 4000000 }) (disch := omega) only [t10, go_sem, e2, TM.undef, wrap_i64]
    rw [h]
    simp (config := { maxSteps := 4000000 }) (disch := omega) only [go_sem]
end Go.Proofs.YtookmpaholmmfaaGreatDoor
