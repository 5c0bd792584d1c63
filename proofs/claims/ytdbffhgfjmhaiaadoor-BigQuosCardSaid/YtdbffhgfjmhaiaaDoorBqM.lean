/- The contract of divided: a digit. Condition: none. -/
import Derived.Test.YtdbffhgfjmhaiaaDoorBqL
set_option maxRecDepth 100000
set_option linter.unusedSimpArgs false
set_option linter.unusedVariables false
namespace Go.Proofs.YtdbffhgfjmhaiaaDoor
open Go Go.TM
theorem val_split (B : Int) {l : List Int} {k : Nat} (h : k ≤ l.length) : val B l = val B (l.take k) + B ^ k * val B (l.drop k) := by
  have := val_append B (l.take k) (l.drop k)
  rw [List.take_append_drop, take_len h] at this
  exact this
theorem getD_drop {l : List Int} (k j : Nat) : (l.drop k).getD j default = l.getD (k + j) default := by simp [List.getD, List.getElem?_drop]
theorem val_top {Y : List Int} (dY : Dig 65536 Y) (n : Nat) (hn : Y.length = n + 1) : val 65536 Y = val 65536 (Y.take n) + 65536 ^ n * Y.getD n default := by
  have := val_take_succ 65536 (l := Y) (k := n) (by omega)
  rw [List.take_of_length_le (by omega)] at this
  exact this
theorem guess_math {X Y : List Int} (dX : Dig 65536 X) (dY : Dig 65536 Y) {k n : Nat} (hn : Y.length = n + 1) (hk : k + (n + 2) ≤ X.length) (hyt : 1 ≤ Y.getD n default) (hV : val 65536 (X.drop (k + 1)) < val 65536 Y) :
    val 65536 ((X.drop k).take (n + 2)) = val 65536 (X.drop k) ∧ val 65536 (X.drop (k + (n + 2))) = 0 ∧ val 65536 ((X.drop k).take (n + 2)) / val 65536 Y ≤ 65535 ∧ val 65536 ((X.drop k).take (n + 2)) / val 65536 Y ≤ (65536 * X.getD (k + (n + 1)) default + X.getD (k + n) default) / Y.getD n default := by
  have hy1 := val_lt (B := 65536) (by decide) dY
  rw [hn] at hy1
  have dK := dX.drop k
  have hK := val_drop 65536 X k
  have hg := dX.getD (i := k) (by omega)
  have s1 := val_split 65536 (l := X.drop k) (k := n + 2) (by rw [List.length_drop]; omega)
  rw [List.drop_drop] at s1
  have d1 := val_nonneg (B := 65536) (by decide) (dX.drop (k + (n + 2)))
  have d2 := val_nonneg (B := 65536) (by decide) (dK.take (n + 2))
  have p1 : (65536 : Int) ^ (n + 2) = 65536 ^ (n + 1) * 65536 := Int.pow_succ ..
  have p0 := pow_pos' (B := 65536) (by decide) (n + 2)
  have hlt : val 65536 (X.drop k) < 65536 ^ (n + 2) := by rw [p1]; omega
  have hz : val 65536 (X.drop (k + (n + 2))) = 0 := by
    rcases Int.lt_or_le 0 (val 65536 (X.drop (k + (n + 2)))) with h | h
    · have := Int.mul_le_mul_of_nonneg_left (show 1 ≤ val 65536 (X.drop (k + (n + 2))) by omega) (Int.le_of_lt p0)
      rw [Int.mul_one] at this
      omega
    · omega
  rw [hz, Int.mul_zero, Int.add_zero] at s1
  have hW : val 65536 ((X.drop k).take (n + 2)) = val 65536 (X.drop k) := s1.symm
  have hyp : 0 < val 65536 Y := by
    have h1 := val_top dY n hn
    have h2 := val_nonneg (B := 65536) (by decide) (dY.take n)
    have h3 := Int.mul_le_mul_of_nonneg_left hyt (Int.le_of_lt (pow_pos' (B := 65536) (by decide) n))
    have h4 := pow_pos' (B := 65536) (by decide) n
    omega
  refine ⟨hW, hz, ?_, ?_⟩
  · rw [hW]
    have : val 65536 (X.drop k) / val 65536 Y < 65536 := Int.ediv_lt_of_lt_mul hyp (by omega)
    omega
  · have t1 := val_take_succ 65536 (l := X.drop k) (k := n + 1) (by rw [List.length_drop]; omega)
    have t2 := val_take_succ 65536 (l := X.drop k) (k := n) (by rw [List.length_drop]; omega)
    rw [getD_drop] at t1 t2
    rw [show n + 1 + 1 = n + 2 from rfl] at t1
    have t3 := val_lt (B := 65536) (by decide) (dK.take n)
    rw [take_len (by rw [List.length_drop]; omega)] at t3
    have y1 := val_top dY n hn
    have y2 := val_nonneg (B := 65536) (by decide) (dY.take n)
    have pn := pow_pos' (B := 65536) (by decide) n
    have pn1 : (65536 : Int) ^ (n + 1) = 65536 ^ n * 65536 := Int.pow_succ ..
    have g1 := dX.getD (i := k + (n + 1)) (by omega)
    have g2 := dX.getD (i := k + n) (by omega)
    have hq := Int.ediv_mul_le (val 65536 ((X.drop k).take (n + 2))) (show val 65536 Y ≠ 0 by omega)
    have hq0 : 0 ≤ val 65536 ((X.drop k).take (n + 2)) / val 65536 Y := Int.ediv_nonneg d2 (by omega)
    generalize val 65536 ((X.drop k).take (n + 2)) / val 65536 Y = q at *
    refine Int.le_ediv_of_mul_le (by omega) ?_
    have e1 : q * (65536 ^ n * Y.getD n default) ≤ q * val 65536 Y := Int.mul_le_mul_of_nonneg_left (by omega) hq0
    have e2 : q * (65536 ^ n * Y.getD n default) = 65536 ^ n * (q * Y.getD n default) := by rw [Int.mul_left_comm]
    have e3 : (65536 : Int) ^ (n + 1) * X.getD (k + (n + 1)) default = 65536 ^ n * (65536 * X.getD (k + (n + 1)) default) := by rw [pn1, Int.mul_assoc]
    rw [e3] at t1
    have e4 : (65536 : Int) ^ n * (65536 * X.getD (k + (n + 1)) default + X.getD (k + n) default) = 65536 ^ n * (65536 * X.getD (k + (n + 1)) default) + 65536 ^ n * X.getD (k + n) default := Int.mul_add ..
    have e5 : 65536 ^ n * (q * Y.getD n default) < 65536 ^ n * (65536 * X.getD (k + (n + 1)) default + X.getD (k + n) default + 1) := by
      rw [Int.mul_add (65536 ^ n) (65536 * X.getD (k + (n + 1)) default + X.getD (k + n) default) 1, Int.mul_one, e4]
      omega
    have := Int.lt_of_mul_lt_mul_left e5 (Int.le_of_lt pn)
    omega
theorem rest_math {X out : List Int} (dX : Dig 65536 X) {k m : Nat} {v : Int} (hk : k + m ≤ X.length) (ho : out.length = m) (do' : Dig 65536 out) (hz : val 65536 (X.drop (k + m)) = 0) (hv : val 65536 out = val 65536 (X.drop k) - v) :
    Dig 65536 (X.take k ++ out ++ X.drop (k + m)) ∧ (X.take k ++ out ++ X.drop (k + m)).length = X.length ∧ val 65536 (X.take k ++ out ++ X.drop (k + m)) = val 65536 X - 65536 ^ k * v ∧ val 65536 ((X.take k ++ out ++ X.drop (k + m)).drop k) = val 65536 (X.drop k) - v := by
  have hk' := take_len (l := X) (k := k) (by omega)
  refine ⟨((dX.take k).append do').append (dX.drop _), ?_, ?_, ?_⟩
  · simp [ho]; omega
  · rw [List.append_assoc, val_append, val_append, hk', hz, Int.mul_zero, Int.add_zero, hv, val_split 65536 (l := X) (k := k) (by omega), Int.mul_sub]
    omega
  · rw [List.append_assoc, List.drop_append_of_le_length (by omega), List.drop_of_length_le (by omega), List.nil_append, val_append, hz, Int.mul_zero, Int.add_zero, hv]
theorem set_app (S R : Store) (i : Nat) (B : Block) (h : S.length ≤ i) : (S ++ R).set i B = S ++ R.set (i - S.length) B := List.set_append_right _ _ h
theorem copy_ms {m : Bool} {P : Nat → Prop} {S : Store} {x : TV} {l : List Int} (hx : DV m P S x l) (h0 : l ≠ []) {i v off len cap : Nat} {b : Bool} {C : List Int} (h : S[i]? = some (.cells v b (cellsF d16 C))) (hl : l.length = len) (ho : off + len ≤ C.length) :
    copyOp 1 S (.msl i v off len cap 1) x = some (.iv (.int .i64 len), S.set i (.cells v b (cellsF d16 (C.take off ++ l ++ C.drop (off + len))))) := by
  have hlen : 0 < l.length := List.length_pos_iff.2 h0
  have e1 : elemsTV S x = some (cellsF d16 l) := by
    cases hx with
    | iv t l h hm => simp only [elemsTV, flat_one_map]; rw [List.map_map]; rfl
    | ms j v off len cap b C l h h1 h2 hP hl2 =>
      simp only [elemsTV, h, if_true, TM.sub, Nat.mul_one, cellsF_len]
      rw [if_pos (by omega), hl2]
      simp [cellsF]
  have e2 : lenOf S x = some l.length := by
    cases hx with
    | iv t l h hm => simp only [lenOf, one_length]
    | ms j v off len cap b C l h h1 h2 hP hl2 => simp only [lenOf]; rw [hl2, cells_take, Nat.min_eq_left (by omega)]
  have e3 : (cellsF d16 l).any isRefL = false := by
    rw [List.any_eq_false]
    intro y hy
    obtain ⟨z, hz, rfl⟩ := List.mem_map.1 hy
    simp [isRefL, d16]
  have e4 : put (cellsF d16 C) off (cellsF d16 l) = cellsF d16 (C.take off ++ l ++ C.drop (off + len)) := by
    simp [put, cellsF, hl]
  simp only [copyOp, e1, e2, cellsF_len, Nat.mul_one, ne_eq, not_true_eq_false, or_self, if_false, h]
  rw [hl, Nat.min_self, if_neg (by omega), if_pos ⟨trivial, by omega, e3⟩, List.take_of_length_le (by rw [cellsF_len]; omega), e4]
end Go.Proofs.YtdbffhgfjmhaiaaDoor
