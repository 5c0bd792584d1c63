/- The contracts of big on worths, for laws. Condition: none. -/
import Derived.Test.YtdbffhgfjmhaiaaDoorBigM
set_option maxRecDepth 100000
set_option linter.unusedSimpArgs false
set_option linter.unusedVariables false
namespace Go.Proofs.YtdbffhgfjmhaiaaDoor
open Go Go.TM
def Nm (n : Bool) (t : Tag) (L : List (List IV)) (z : Int) (k : Nat) : Prop := ∃ l, L = one d16 l ∧ TagOk t l ∧ Dig 65536 l ∧ l.length ≤ k ∧ z = sv n (val 65536 l)
def Cn (n : Bool) (t : Tag) (L : List (List IV)) (z : Int) (k : Nat) : Prop := Nm n t L z k ∧ n = decide (z < 0) ∧ L = one d16 (dg 65536 z.natAbs)
theorem Cn.bg {t : Tag} {z : Int} {k : Nat} (ht : TagOk t (dg 65536 z.natAbs)) (hl : (z.natAbs : Int) < 65536 ^ k) : Cn (decide (z < 0)) t (one d16 (dg 65536 z.natAbs)) z k := by
  refine ⟨⟨_, rfl, ht, dg_dig (by decide) (by omega), dg_len (by decide) k _ (by omega) hl, ?_⟩, rfl, rfl⟩
  rw [val_dg (by decide) (by omega), sv_bg]
theorem Nm.lt {n : Bool} {t : Tag} {L : List (List IV)} {z : Int} {k : Nat} (h : Nm n t L z k) : (z.natAbs : Int) < 65536 ^ k := by
  obtain ⟨l, rfl, h1, h2, h3, rfl⟩ := h
  rw [abs_sv _ (val_nonneg (by decide) h2)]
  have := val_lt (by decide) h2
  have := pow_le' (B := 65536) (by decide) h3
  omega
theorem add_lt {x y : Int} {j k : Nat} (h1 : (x.natAbs : Int) < 65536 ^ j) (h2 : (y.natAbs : Int) < 65536 ^ k) : ((x + y).natAbs : Int) < 65536 ^ (j + k + 1) := by
  have p1 := pow_le' (B := 65536) (by decide) (show j ≤ j + k by omega)
  have p2 := pow_le' (B := 65536) (by decide) (show k ≤ j + k by omega)
  rw [Int.pow_succ]
  omega
theorem mul_lt' {x y : Int} {j k : Nat} (h1 : (x.natAbs : Int) < 65536 ^ j) (h2 : (y.natAbs : Int) < 65536 ^ k) : ((x * y).natAbs : Int) < 65536 ^ (j + k) := by
  rw [Int.natAbs_mul, Int.pow_add]
  have p1 := pow_pos' (B := 65536) (by decide) j
  have p2 := pow_pos' (B := 65536) (by decide) k
  push_cast
  have e1 := Int.mul_le_mul_of_nonneg_left (Int.le_of_lt h2) (show (0 : Int) ≤ x.natAbs by omega)
  have e2 := Int.mul_lt_mul_of_pos_right h1 p2
  omega
theorem add_nm {n1 n2 : Bool} {t1 t2 : Tag} {L1 L2 : List (List IV)} {x y : Int} {j k : Nat} (h1 : Nm n1 t1 L1 x j) (h2 : Nm n2 t2 L2 y k) (hj : j ≤ 800) (hk : k ≤ 800) :
    ∃ n t L, Cn n t L (x + y) (j + k + 1) ∧ Pure K 26 [.iv (.agg [.bool n1, .sl t1 L1]), .iv (.agg [.bool n2, .sl t2 L2])] (.iv (.agg [.bool n, .sl t L])) := by
  have l1 := h1.lt
  have l2 := h2.lt
  obtain ⟨a, rfl, a1, a2, a3, a4⟩ := h1
  obtain ⟨b, rfl, b1, b2, b3, b4⟩ := h2
  obtain ⟨t', ht, h⟩ := call26 n1 n2 t1 t2 a b a1 b1 a2 b2 (by omega) (by omega) (x + y) (by rw [a4, b4])
  exact ⟨_, t', _, Cn.bg ht (add_lt l1 l2), h⟩
theorem sub_nm {n1 n2 : Bool} {t1 t2 : Tag} {L1 L2 : List (List IV)} {x y : Int} {j k : Nat} (h1 : Nm n1 t1 L1 x j) (h2 : Nm n2 t2 L2 y k) (hj : j ≤ 800) (hk : k ≤ 800) :
    ∃ n t L, Cn n t L (x - y) (j + k + 1) ∧ Pure K 27 [.iv (.agg [.bool n1, .sl t1 L1]), .iv (.agg [.bool n2, .sl t2 L2])] (.iv (.agg [.bool n, .sl t L])) := by
  have l1 := h1.lt
  have l2 := h2.lt
  obtain ⟨a, rfl, a1, a2, a3, a4⟩ := h1
  obtain ⟨b, rfl, b1, b2, b3, b4⟩ := h2
  obtain ⟨t', ht, h⟩ := call27 n1 n2 t1 t2 a b a1 b1 a2 b2 (by omega) (by omega) (x - y) (by rw [a4, b4])
  have l3 := add_lt (y := -y) l1 (by rw [Int.natAbs_neg]; exact l2)
  exact ⟨_, t', _, Cn.bg ht l3, h⟩
theorem mul_nm {n1 n2 : Bool} {t1 t2 : Tag} {L1 L2 : List (List IV)} {x y : Int} {j k : Nat} (h1 : Nm n1 t1 L1 x j) (h2 : Nm n2 t2 L2 y k) (hj : j ≤ 800) (hk : k ≤ 800) :
    ∃ n t L, Cn n t L (x * y) (j + k) ∧ Pure K 28 [.iv (.agg [.bool n1, .sl t1 L1]), .iv (.agg [.bool n2, .sl t2 L2])] (.iv (.agg [.bool n, .sl t L])) := by
  have l1 := h1.lt
  have l2 := h2.lt
  obtain ⟨a, rfl, a1, a2, a3, a4⟩ := h1
  obtain ⟨b, rfl, b1, b2, b3, b4⟩ := h2
  obtain ⟨t', ht, h⟩ := call28 n1 n2 t1 t2 a b a2 b2 (by omega) (by omega) (x * y) (by rw [a4, b4])
  exact ⟨_, t', _, Cn.bg ht (mul_lt' l1 l2), h⟩
theorem cmp_nm {n1 n2 : Bool} {t1 t2 : Tag} {L1 L2 : List (List IV)} {x y : Int} {j k : Nat} (h1 : Nm n1 t1 L1 x j) (h2 : Nm n2 t2 L2 y k) (hj : j ≤ 800) (hk : k ≤ 800) :
    Pure K 29 [.iv (.agg [.bool n1, .sl t1 L1]), .iv (.agg [.bool n2, .sl t2 L2])] (.iv (.int .i64 (cmpI x y))) := by
  obtain ⟨a, rfl, a1, a2, a3, a4⟩ := h1
  obtain ⟨b, rfl, b1, b2, b3, b4⟩ := h2
  exact call29 n1 n2 t1 t2 a b a1 b1 a2 b2 (by omega) (by omega) x y a4 b4
theorem tidy_nm {n1 : Bool} {t1 : Tag} {L1 : List (List IV)} {x : Int} {j : Nat} (h1 : Nm n1 t1 L1 x j) (hj : j ≤ 800) :
    ∃ n t L, Cn n t L x j ∧ Pure K 18 [.iv (.agg [.bool n1, .sl t1 L1])] (.iv (.agg [.bool n, .sl t L])) := by
  have l1 := h1.lt
  obtain ⟨a, rfl, a1, a2, a3, a4⟩ := h1
  obtain ⟨t', ht, h⟩ := call18 n1 t1 a a1 a2 (by omega)
  rw [← a4] at h
  refine ⟨_, t', _, Cn.bg ?_ l1, h⟩
  rw [a4, abs_sv _ (val_nonneg (by decide) a2)]; exact ht
theorem pos_nm {n1 : Bool} {t1 : Tag} {L1 : List (List IV)} {x : Int} {j : Nat} (h1 : Nm n1 t1 L1 x j) (hj : j ≤ 800) :
    ∃ n t L, Cn n t L x.natAbs j ∧ Pure K 36 [.iv (.agg [.bool n1, .sl t1 L1])] (.iv (.agg [.bool n, .sl t L])) := by
  have l1 := h1.lt
  obtain ⟨a, rfl, a1, a2, a3, a4⟩ := h1
  obtain ⟨t', ht, h⟩ := call36 n1 t1 a a1 a2 (by omega)
  have e : val 65536 a = x.natAbs := by rw [a4, abs_sv _ (val_nonneg (by decide) a2)]
  rw [e] at h ht
  exact ⟨_, t', _, Cn.bg ht l1, h⟩
theorem same_cn {n1 n2 : Bool} {t1 t2 : Tag} {L1 L2 : List (List IV)} {x y : Int} {j k : Nat} (h1 : Cn n1 t1 L1 x j) (h2 : Cn n2 t2 L2 y k) (hj : j ≤ 800) :
    (lim K).call 17 [.iv (.agg [.bool n1, .sl t1 L1]), .iv (.agg [.bool n2, .sl t2 L2])] [] = .ret (.iv (.bool (decide (x = y))), []) := by
  have l1 := h1.1.lt
  obtain ⟨-, rfl, rfl⟩ := h1
  obtain ⟨-, rfl, rfl⟩ := h2
  have := dg_len (B := 65536) (by decide) j x.natAbs (by omega) l1
  exact same_bg t1 t2 x y (by omega)
theorem len_cn {n : Bool} {t : Tag} {L : List (List IV)} {x : Int} {j : Nat} (h : Cn n t L x j) : L.length ≤ j ∧ (L.length = 0 ↔ x = 0) ∧ n = decide (x < 0) := by
  have l1 := h.1.lt
  obtain ⟨-, rfl, rfl⟩ := h
  rw [one_length]
  refine ⟨dg_len (by decide) j _ (by omega) l1, ?_, rfl⟩
  rw [List.length_eq_zero_iff, dg_nil (by decide) (by omega)]
  omega
theorem large_nm (t : Tag) (l : List (Bool × Tag × List (List IV))) (hl : l.length ≤ 1000) (hs : ∀ a ∈ l, ∃ z, Nm a.1 a.2.1 a.2.2 z 9223372036854775807) : (lim K).call 15 [.iv (.sl t (l.map fun a => [.bool a.1, .sl a.2.1 a.2.2]))] [] = .ret (.iv (.bool (l.any fun a => decide (60 < a.2.2.length))), []) := by
  obtain ⟨m, hm, hm2⟩ : ∃ m : List (Bool × Tag × List Int), l = m.map (fun a => (a.1, a.2.1, one d16 a.2.2)) ∧ ∀ a ∈ m, a.2.2.length ≤ 9223372036854775807 := by
    clear hl
    induction l with
    | nil => exact ⟨[], rfl, by simp⟩
    | cons a l ih =>
      obtain ⟨m, rfl, h2⟩ := ih (fun b hb => hs b (List.mem_cons_of_mem _ hb))
      obtain ⟨z, d, e1, e2, e3, e4, e5⟩ := hs a (List.mem_cons_self ..)
      refine ⟨(a.1, a.2.1, d) :: m, ?_, ?_⟩
      · rw [List.map_cons, ← e1]
      · intro b hb
        rcases List.mem_cons.1 hb with rfl | hb
        · exact e4
        · exact h2 b hb
  subst hm
  have h := call15 t m (by simpa using hl) hm2
  rw [List.map_map, List.any_map]
  simp only [big60, numC] at h
  rw [show ((fun a : Bool × Tag × List (List IV) => [IV.bool a.1, IV.sl a.2.1 a.2.2]) ∘ fun a : Bool × Tag × List Int => (a.1, a.2.1, one d16 a.2.2)) = (fun a => [IV.bool a.1, IV.sl a.2.1 (one d16 a.2.2)]) from rfl]
  rw [show ((fun a : Bool × Tag × List (List IV) => decide (60 < a.2.2.length)) ∘ fun a : Bool × Tag × List Int => (a.1, a.2.1, one d16 a.2.2)) = (fun a => decide (60 < a.2.2.length)) from by
    funext a; simp only [Function.comp_apply, one_length]]
  exact h
end Go.Proofs.YtdbffhgfjmhaiaaDoor
