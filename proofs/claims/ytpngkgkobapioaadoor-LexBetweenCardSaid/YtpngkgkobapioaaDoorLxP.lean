/- LexBetween: the evaluator answers true. Condition: none. -/
import Derived.Test.YtpngkgkobapioaaDoorLxO
import Derived.Test.YtpngkgkobapioaaDoorLxM
set_option maxRecDepth 100000
set_option maxHeartbeats 16000000
set_option linter.unusedSimpArgs false
set_option linter.unusedVariables false
namespace Go.Proofs.YtpngkgkobapioaaDoor
open Go Go.TM
theorem lexF_skip {c : UInt8} {r : List UInt8} {p : Int} {m : Nat} (h : tokL (c :: r).length (c :: r) p = .skip m) : lexF (c :: r).length (c :: r) p = lexF ((c :: r).drop m).length ((c :: r).drop m) (p + m) := by
  have hm := tokL_took (n := (c :: r).length) (c := c) (r := r) (p := p) (m := m) (Nat.le_refl _) (by rw [h]; rfl)
  rw [show (c :: r).length = r.length + 1 from rfl, lexF, show (c :: r).length = (c :: r).length from rfl, h]
  simp only
  exact lexF_fuel _ _ _ _ (by rw [List.length_drop]; simp only [List.length_cons] at hm ⊢; omega) (Nat.le_refl _)
theorem tok_blk {n : Nat} {c : UInt8} {r : List UInt8} {p : Int} (h : isBlk c = true) : tokL n (c :: r) p = .skip 1 := by
  unfold tokL
  rw [show pk (c :: r) = c from rfl, h]; rfl
theorem bad_ascii {a : UInt8} {r : List UInt8} (h : a.toNat < 128) : bad (a :: r) = false := by
  unfold bad
  rw [D_ascii a r h]
  simp
  intro e; omega
theorem lineF_ascii {n : Nat} {a : UInt8} {r : List UInt8} (h : a.toNat < 128) (h10 : (a.toNat : Int) ≠ 10) : lineF (n + 1) (a :: r) = (1 + (lineF n r).1, (lineF n r).2) := by
  rw [lineF]
  simp only [h10, ↓reduceIte, bad_ascii h, Bool.false_eq_true, D_ascii a r h, List.drop_succ_cons, List.drop_zero]
theorem lineF_10 {n : Nat} {r : List UInt8} : lineF (n + 1) (10 :: r) = (0, true) := by
  rw [lineF]; rfl
theorem btw0 (b : List UInt8) (p : Int) : lexF (32 :: b).length (32 :: b) p = lexF b.length b (p + 1) := by
  rw [lexF_skip (tok_blk (by decide))]; rfl
theorem btw1 (b : List UInt8) (p : Int) : lexF (32 :: ([59, 32, 40, 34, 10] ++ b)).length (32 :: ([59, 32, 40, 34, 10] ++ b)) p = lexF b.length b (p + 6) := by
  rw [btw0]
  have hl : lineF ([59, 32, 40, 34, 10] ++ b).length ([59, 32, 40, 34, 10] ++ b) = (4, true) := by
    show lineF (b.length + 1 + 1 + 1 + 1 + 1) (59 :: 32 :: 40 :: 34 :: 10 :: b) = _
    rw [lineF_ascii (by decide) (by decide), lineF_ascii (by decide) (by decide), lineF_ascii (by decide) (by decide), lineF_ascii (by decide) (by decide), lineF_10]; rfl
  have ht : tokL ([59, 32, 40, 34, 10] ++ b).length ([59, 32, 40, 34, 10] ++ b) (p + 1) = .skip 4 := by
    unfold tokL
    rw [hl]
    rfl
  rw [show [59, 32, 40, 34, 10] ++ b = 59 :: ([32, 40, 34, 10] ++ b) from rfl] at ht ⊢
  rw [lexF_skip ht]
  rw [show (59 :: ([32, 40, 34, 10] ++ b)).drop 4 = (10 : UInt8) :: b from rfl, lexF_skip (tok_blk (by decide))]
  rw [show ((10 : UInt8) :: b).drop 1 = b from rfl]
  congr 1
  rw [show ((4 : Nat) : Int) = 4 from rfl, show ((1 : Nat) : Int) = 1 from rfl]; omega
theorem nest_open {n : Nat} {r : List UInt8} {d : Int} (h : d ≠ 200) : nestF (n + 1) (35 :: 124 :: r) d = (2 + (nestF n r (d + 1)).1, (nestF n r (d + 1)).2) := by
  rw [nestF]
  simp only [show beg (35 :: 124 :: r) [35, 124] = true from rfl, ↓reduceIte, h, List.drop_succ_cons, List.drop_zero]
theorem nest_close {n : Nat} {r : List UInt8} {d : Int} (h : d ≠ 1) : nestF (n + 1) (124 :: 35 :: r) d = (2 + (nestF n r (d - 1)).1, (nestF n r (d - 1)).2) := by
  rw [nestF]
  simp only [show beg (124 :: 35 :: r) [35, 124] = false from rfl, show beg (124 :: 35 :: r) [124, 35] = true from rfl, ↓reduceIte, Bool.false_eq_true, h, List.drop_succ_cons, List.drop_zero]
theorem nest_end {n : Nat} {r : List UInt8} : nestF (n + 1) (124 :: 35 :: r) 1 = (2, 0) := by
  rw [nestF]
  simp only [show beg (124 :: 35 :: r) [35, 124] = false from rfl, show beg (124 :: 35 :: r) [124, 35] = true from rfl, ↓reduceIte, Bool.false_eq_true]
theorem nest_char {n : Nat} {a : UInt8} {r : List UInt8} {d : Int} (h : a.toNat < 128) (h1 : beg (a :: r) [35, 124] = false) (h2 : beg (a :: r) [124, 35] = false) : nestF (n + 1) (a :: r) d = (1 + (nestF n r d).1, (nestF n r d).2) := by
  rw [nestF]
  simp only [h1, h2, ↓reduceIte, Bool.false_eq_true, bad_ascii h, D_ascii a r h, List.drop_succ_cons, List.drop_zero]
theorem btw2 (b : List UInt8) (p : Int) : lexF (32 :: ([35, 124, 59, 35, 124, 34, 124, 35, 124, 35, 32] ++ b)).length (32 :: ([35, 124, 59, 35, 124, 34, 124, 35, 124, 35, 32] ++ b)) p = lexF b.length b (p + 12) := by
  rw [btw0]
  have hl : nestF ([35, 124, 59, 35, 124, 34, 124, 35, 124, 35, 32] ++ b).length ([35, 124, 59, 35, 124, 34, 124, 35, 124, 35, 32] ++ b) 0 = (10, 0) := by
    show nestF (b.length + 5 + 1 + 1 + 1 + 1 + 1 + 1) (35 :: 124 :: 59 :: 35 :: 124 :: 34 :: 124 :: 35 :: 124 :: 35 :: 32 :: b) 0 = _
    rw [nest_open (by decide), nest_char (by decide) rfl rfl, nest_open (by decide), nest_char (by decide) rfl rfl, nest_close (by decide)]
    rw [show (0 : Int) + 1 + 1 - 1 = 1 from rfl, nest_end]; rfl
  have ht : tokL ([35, 124, 59, 35, 124, 34, 124, 35, 124, 35, 32] ++ b).length ([35, 124, 59, 35, 124, 34, 124, 35, 124, 35, 32] ++ b) (p + 1) = .skip 10 := by
    unfold tokL
    rw [hl]
    rfl
  rw [show [35, 124, 59, 35, 124, 34, 124, 35, 124, 35, 32] ++ b = 35 :: ([124, 59, 35, 124, 34, 124, 35, 124, 35, 32] ++ b) from rfl] at ht ⊢
  rw [lexF_skip ht]
  rw [show (35 :: ([124, 59, 35, 124, 34, 124, 35, 124, 35, 32] ++ b)).drop 10 = (32 : UInt8) :: b from rfl, btw0]
  congr 1
  rw [show ((10 : Nat) : Int) = 10 from rfl]; omega
/-! ### comment -/
theorem comm_snoc (r : List UInt8) (c : UInt8) : comm (r ++ [c]) = if c = 10 then false else (c == 59 || comm r) := by
  unfold comm
  rw [List.reverse_append, List.reverse_singleton, List.singleton_append, List.takeWhile_cons]
  by_cases h : c = 10
  · subst h; rfl
  · rw [if_neg h, if_pos (by simpa using h), List.contains_cons]
    congr 1
    rw [Bool.eq_iff_iff, beq_iff_eq, beq_iff_eq]; exact eq_comm
theorem loop13 (t : Tag) (b : List UInt8) (hb : b.length ≤ 1000000000) : ∀ (k : Nat) (x3 x4 : TV), k ≤ b.length →
    ∃ y2 y3 y4, lp' (lim K) t13L0 [.iv (.sl t (bytesIV b)), .iv (.bool false), .iv (.int .i64 ((k : Int) - 1)), x3, x4] [] = .ret (if comm (b.take k) then (.ret, [.iv (.sl t (bytesIV b)), .iv (.bool true), y2, y3, y4], []) else (.exit 0, [.iv (.sl t (bytesIV b)), .iv (.bool false), y2, y3, y4], []))
  | 0, x3, x4, h => by
    refine ⟨?_, ?_, ?_, loop_at K _ _ t13L0.eq_1 ?_⟩
    rotate_left 3
    · rw [List.take_zero, show comm [] = false from rfl]
      simp (disch := omega) only [go_sem]
      rfl
  | k + 1, x3, x4, h => by
    have hix := ix_bytes (t := t) (l := b) (i := (k : Int)) (by omega)
    rw [Int.toNat_natCast] at hix
    have hk : ((k + 1 : Nat) : Int) - 1 = k := by omega
    rw [hk, take_succ_getD (d := 0) (show k < b.length by omega), comm_snoc]
    by_cases h10 : b.getD k 0 = 10
    · rw [if_pos h10]
      rw [h10] at hix
      refine ⟨?_, ?_, ?_, loop_at K _ _ t13L0.eq_1 ?_⟩
      rotate_left 3
      · simp (config := { maxSteps := 4000000 }) (disch := omega) only [go_sem, hix, show (((10 : UInt8).toNat : Nat) : Int) = 10 from rfl]
        rfl
    · rw [if_neg h10]
      have n10 : ¬ ((b.getD k 0).toNat : Int) = 10 := fun h => h10 (UInt8.toNat_inj.1 (by show (b.getD k 0).toNat = 10; omega))
      by_cases h59 : b.getD k 0 = 59
      · rw [h59] at hix ⊢
        refine ⟨?_, ?_, ?_, loop_at K _ _ t13L0.eq_1 ?_⟩
        rotate_left 3
        · rw [show ((59 : UInt8) == 59) = true from rfl, Bool.true_or]
          simp (config := { maxSteps := 4000000 }) (disch := omega) only [go_sem, hix, show (((59 : UInt8).toNat : Nat) : Int) = 59 from rfl]
          rfl
      · have n59 : ¬ ((b.getD k 0).toNat : Int) = 59 := fun h => h59 (UInt8.toNat_inj.1 (by show (b.getD k 0).toNat = 59; omega))
        have : (b.getD k 0 == 59) = false := by rw [beq_eq_false_iff_ne]; exact h59
        rw [this, Bool.false_or]
        obtain ⟨y2, y3, y4, ih⟩ := loop13 t b hb k (.iv (.bool true)) (.iv (.bool false)) (by omega)
        refine ⟨y2, y3, y4, loop_at K _ _ t13L0.eq_1 ?_⟩
        generalize b.getD k 0 = c at *
        simp (config := { maxSteps := 4000000 }) (disch := omega) only [go_sem, hix, wrap_i64]
        exact congrArg er ih
theorem call13 (t : Tag) (b : List UInt8) (hb : b.length ≤ 1000000000) : (lim K).call 13 [.iv (.sl t (bytesIV b))] [] = .ret (.iv (.bool (comm b)), []) := by
  obtain ⟨y2, y3, y4, e⟩ := loop13 t b hb b.length (.tup []) (.tup []) (Nat.le_refl _)
  rw [List.take_length] at e
  refine call_ret' K [] (fn := t13) rfl rfl ?_
  cases hc : comm b
  · rw [hc] at e
    simp only [Bool.false_eq_true, ↓reduceIte] at e
    simp (config := { maxSteps := 4000000 }) (disch := omega) only [t13, go_sem, wrap_i64, e]
  · rw [hc] at e
    simp only [↓reduceIte] at e
    simp (config := { maxSteps := 4000000 }) (disch := omega) only [t13, go_sem, wrap_i64, e]
/-! ### The tokens are held against those that are wanted -/
theorem get7 (env : Env) (S : Store) (a b c d e f g : IV) : getCells env S (.iv (.cp [a, b, c, d, e, f, g])) 7 = some [.iv a, .iv b, .iv c, .iv d, .iv e, .iv f, .iv g] := rfl
def wantT (X Y : List Tk) (i : Nat) : Tk := if i < X.length then X.getD i default else Y.getD (i - X.length) default
theorem loop5 (a0 a1 a2 : TV) (A : List UInt8) (ta : Tag) (tx ty tl : Tag) (X Y L : List Tk) (bt : List UInt8) (hA : A.length ≤ 1000000) (hbt : bt.length ≤ 1000) (hX : X.length ≤ 1000000) (hY : Y.length ≤ 1000000) (hL : L.length = X.length + Y.length)
    (hm : ∀ i, i < L.length → Mv (if i < X.length then 0 else (A.length : Int) + bt.length) (wantT X Y i) (L.getD i default)) (hp : ∀ i, i < L.length → 0 ≤ (wantT X Y i).pos ∧ (wantT X Y i).pos ≤ 1000000) (x5 x7 x9 x11 x15 x16 x17 x18 x19 x20 : TV) (S : Store) :
    ∀ (k i : Nat) (x13 x14 x21 x22 x23 : TV), i + k = L.length →
    ∃ y13 y14 y21 y22 y23, lp' (lim K) t5L0 [.iv (.sl ta (bytesIV A)), a1, a2, .iv (.bool false), .iv (.sl tx (X.map encT)), x5, .iv (.sl ty (Y.map encT)), x7, .iv (.str bt), x9, .iv (.sl tl (L.map encT)), x11, .iv (.int .i64 i), x13, x14, x15, x16, x17, x18, x19, x20, x21, x22, x23] S = .ret (.exit 1, [.iv (.sl ta (bytesIV A)), a1, a2, .iv (.bool false), .iv (.sl tx (X.map encT)), x5, .iv (.sl ty (Y.map encT)), x7, .iv (.str bt), x9, .iv (.sl tl (L.map encT)), x11, .iv (.int .i64 L.length), y13, y14, x15, x16, x17, x18, x19, x20, y21, y22, y23], S)
  | 0, i, x13, x14, x21, x22, x23, h => by
    obtain rfl : i = L.length := by omega
    refine ⟨?_, ?_, ?_, ?_, ?_, loop_at K _ _ t5L0.eq_1 ?_⟩
    rotate_left 5
    · simp (disch := omega) only [go_sem, List.length_map]
      rfl
  | k + 1, i, x13, x14, x21, x22, x23, h => by
    have hi := hm i (by omega)
    have hpi := hp i (by omega)
    have hix := ixT (t := tl) (ts := L) (i := (i : Int)) (by omega)
    rw [Int.toNat_natCast] at hix
    have l1 : (L.map encT).length = L.length := List.length_map _
    have l2 : (X.map encT).length = X.length := List.length_map _
    by_cases hlt : i < X.length
    · have hx := ixT (t := tx) (ts := X) (i := (i : Int)) (by omega)
      rw [Int.toNat_natCast] at hx
      rw [wantT, if_pos hlt] at hpi
      rw [if_pos hlt, wantT, if_pos hlt] at hi
      obtain ⟨y13, y14, y21, y22, y23, ih⟩ := loop5 a0 a1 a2 A ta tx ty tl X Y L bt hA hbt hX hY hL hm hp x5 x7 x9 x11 x15 x16 x17 x18 x19 x20 S k (i + 1) (.lb [.iv (.int .i64 (X.getD i default).kind), .iv (.int .i64 (X.getD i default).pos), .iv (.int .i64 (X.getD i default).dk), .iv (.int .i64 (X.getD i default).n), .iv (.str (X.getD i default).text), .iv (.sl .nil []), .iv (.int .i64 (X.getD i default).dpos)]) (.iv (.int .i64 0)) (.iv (.bool true)) (.iv (.bool true)) (.iv (.bool false)) (by omega)
      refine ⟨y13, y14, y21, y22, y23, loop_at K _ _ t5L0.eq_1 ?_⟩
      generalize X.getD i default = w at *
      generalize L.getD i default = tk at *
      obtain ⟨m1, m2, m3, m4, m5⟩ := hi
      rw [Int.add_zero] at m2
      simp only [encT, m1, m2, m3, m4, m5] at hix hx
      generalize hgL : L.map encT = ML at *
      generalize hgX : X.map encT = MX at *
      generalize hgY : Y.map encT = MY at *
      simp (config := { maxSteps := 4000000 }) (disch := omega) only [go_sem, l1, l2, hix, hx, ao0, aoS, get7, Int.add_zero, bne_self_eq_false, wrap_i64, storeV_c, storeC_eq]
      exact congrArg er ih
    · have hy := ixT (t := ty) (ts := Y) (i := (i : Int) - X.length) (by omega)
      rw [show ((i : Int) - X.length).toNat = i - X.length by omega] at hy
      rw [wantT, if_neg hlt] at hpi
      rw [if_neg hlt, wantT, if_neg hlt] at hi
      obtain ⟨y13, y14, y21, y22, y23, ih⟩ := loop5 a0 a1 a2 A ta tx ty tl X Y L bt hA hbt hX hY hL hm hp x5 x7 x9 x11 x15 x16 x17 x18 x19 x20 S k (i + 1) (.lb [.iv (.int .i64 (Y.getD (i - X.length) default).kind), .iv (.int .i64 (Y.getD (i - X.length) default).pos), .iv (.int .i64 (Y.getD (i - X.length) default).dk), .iv (.int .i64 (Y.getD (i - X.length) default).n), .iv (.str (Y.getD (i - X.length) default).text), .iv (.sl .nil []), .iv (.int .i64 (Y.getD (i - X.length) default).dpos)]) (.iv (.int .i64 ((A.length : Int) + bt.length))) (.iv (.bool true)) (.iv (.bool false)) (.iv (.bool false)) (by omega)
      refine ⟨y13, y14, y21, y22, y23, loop_at K _ _ t5L0.eq_1 ?_⟩
      have l3 : (bytesIV A).length = A.length := bytesIV_length A
      generalize Y.getD (i - X.length) default = w at *
      generalize L.getD i default = tk at *
      obtain ⟨m1, m2, m3, m4, m5⟩ := hi
      simp only [encT, m1, m2, m3, m4, m5] at hix hy
      generalize hgL : L.map encT = ML at *
      generalize hgX : X.map encT = MX at *
      generalize hgY : Y.map encT = MY at *
      simp (config := { maxSteps := 4000000 }) (disch := omega) only [go_sem, l1, l2, l3, hix, hy, ao0, aoS, get7, bne_self_eq_false, wrap_i64, storeV_c, storeC_eq]
      exact congrArg er ih
theorem MvL.len {s : Int} : ∀ {X Y : List Tk}, MvL s X Y → Y.length = X.length
  | _, _, .nil => rfl
  | _, _, .cons _ h => by rw [List.length_cons, List.length_cons, h.len]
theorem MvL.get {s : Int} : ∀ {X Y : List Tk}, MvL s X Y → ∀ i, i < X.length → Mv s (X.getD i default) (Y.getD i default)
  | _, _, .nil, i, h => by simp at h
  | _, _, .cons (x := x) (y := y) (xs := xs) (ys := ys) h1 h2, i, h => by
    cases i with
    | zero => exact h1
    | succ i =>
      rw [List.getD_cons_succ, List.getD_cons_succ]
      exact h2.get i (by simpa using h)
theorem Asc.get {hi : Int} : ∀ {ts : List Tk} {last : Int}, Asc last ts hi → ∀ i, i < ts.length → last < (ts.getD i default).pos ∧ (ts.getD i default).pos < hi
  | [], _, _, i, h => by simp at h
  | t :: r, last, ⟨h1, h2, h3, h4⟩, i, h => by
    cases i with
    | zero => exact ⟨h1, h2⟩
    | succ i =>
      rw [List.getD_cons_succ]
      have := h4.get i (by simpa using h)
      omega
def bt0 : List UInt8 := [32]
def bt1 : List UInt8 := [32, 59, 32, 40, 34, 10]
def bt2 : List UInt8 := [32, 35, 124, 59, 35, 124, 34, 124, 35, 124, 35, 32]
theorem between (bt : List UInt8) (hbt : bt = bt0 ∨ bt = bt1 ∨ bt = bt2) (a b : List UInt8) (X Y : List Tk) (hc : comm a = false) (hx : lexL a = .inr X) (hy : lexL b = .inr Y) :
    ∃ L, lexL (a ++ bt ++ b) = .inr L ∧ L.length = X.length + Y.length ∧ ∀ i, i < L.length → Mv (if i < X.length then 0 else (a.length : Int) + bt.length) (wantT X Y i) (L.getD i default) := by
  obtain ⟨m, hm⟩ : ∃ m, bt ++ b = 32 :: m := by
    rcases hbt with rfl | rfl | rfl
    · exact ⟨b, rfl⟩
    · exact ⟨[59, 32, 40, 34, 10] ++ b, rfl⟩
    · exact ⟨[35, 124, 59, 35, 124, 34, 124, 35, 124, 35, 32] ++ b, rfl⟩
  have h1 := lexF_app a.length a m 0 X (Nat.le_refl _) hc hx
  have h2 : lexF (32 :: m).length (32 :: m) ((0 : Int) + a.length) = lexF b.length b (0 + ((a.length : Int) + bt.length)) := by
    rcases hbt with rfl | rfl | rfl
    · obtain rfl : b = m := by simpa [bt0] using hm
      rw [btw0]; congr 1
    · obtain rfl : [59, 32, 40, 34, 10] ++ b = m := by simpa [bt1] using hm
      rw [btw1]; congr 1
    · obtain rfl : [35, 124, 59, 35, 124, 34, 124, 35, 124, 35, 32] ++ b = m := by simpa [bt2] using hm
      rw [btw2]; congr 1
  obtain ⟨Z, hz, hmv⟩ := lexF_mv b.length b 0 ((a.length : Int) + bt.length) Y hy
  rw [h2, hz] at h1
  refine ⟨X ++ Z, ?_, by rw [List.length_append, hmv.len], fun i hi => ?_⟩
  · unfold lexL
    rw [List.append_assoc, hm]
    exact h1
  · unfold wantT
    by_cases hlt : i < X.length
    · rw [if_pos hlt, if_pos hlt]
      have : (X ++ Z).getD i default = X.getD i default := by
        rw [List.getD, List.getD, List.getElem?_append_left hlt]
      rw [this]
      exact ⟨rfl, by omega, rfl, rfl, rfl⟩
    · rw [if_neg hlt, if_neg hlt]
      have : (X ++ Z).getD i default = Z.getD (i - X.length) default := by
        rw [List.getD, List.getD, List.getElem?_append_right (by omega)]
      rw [this]
      refine hmv.get _ ?_
      rw [List.length_append, hmv.len] at hi
      omega
end Go.Proofs.YtpngkgkobapioaaDoor
