/- Lex: strings, chars. Condition: none. -/
import Derived.Test.YtpngkgkobapioaaDoorLxF
set_option maxRecDepth 100000
set_option maxHeartbeats 8000000
set_option linter.unusedSimpArgs false
set_option linter.unusedVariables false
namespace Go.Proofs.YtpngkgkobapioaaDoor
open Go Go.TM
def textF : Nat → List UInt8 → List UInt8 → Nat × Nat × List UInt8
  | 0, _, _ => (0, 1, [])
  | n + 1, l, s => match l with
    | [] => (0, 1, [])
    | c :: r =>
      if bad (c :: r) then (0, 2, [])
      else if (D (c :: r)).1 = 34 then ((D (c :: r)).2, 0, s)
      else if (D (c :: r)).1 = 92 then
        (if (c :: r).drop (D (c :: r)).2 = [] then (0, 3, [])
        else match escL ((c :: r).drop (D (c :: r)).2) with
          | none => (0, 2, [])
          | some (v, m) => ((D (c :: r)).2 + m + (textF n ((c :: r).drop ((D (c :: r)).2 + m)) (s ++ bytesR v)).1, (textF n ((c :: r).drop ((D (c :: r)).2 + m)) (s ++ bytesR v)).2))
      else ((D (c :: r)).2 + (textF n ((c :: r).drop (D (c :: r)).2) (s ++ bytesR (D (c :: r)).1)).1, (textF n ((c :: r).drop (D (c :: r)).2) (s ++ bytesR (D (c :: r)).1)).2)
theorem strB31 (x : Block) (R : Store) (s : List UInt8) (hl : s.length ≤ 100000000) : prV (x :: (R ++ bS R.length s)) (K.prim 31) [.ptr (R.length + 1) 60 0] = some (.iv (.str s), x :: (R ++ bS R.length s)) := by
  show primString 5 [.ptr (R.length + 1) 60 0] (x :: (R ++ bS R.length s)) = _
  have e1 : (x :: (R ++ bS R.length s))[R.length + 1]? = (bS R.length s)[0]? := gA0 x R _
  have e2 : (x :: (R ++ bS R.length s))[R.length + 1 + 1]? = (bS R.length s)[1]? := gA x R _ 1
  by_cases hs : s = []
  · subst hs
    simp only [primString, e1]
    rfl
  · have hb := bytesOf_bytesIV s
    have hss : ivSameLL (bytesIV s) (bytesIV s) = true := ivSameLL_refl _
    have hn : s.length ≠ 0 := fun h => hs (List.length_eq_zero_iff.1 h)
    have hn2 : s.length < 4611686018427387904 := by omega
    rw [bS, if_neg hs] at *
    simp only [primString, e1, e2, List.getElem?_cons_zero, List.getElem?_cons_succ, hb, bytesIV_length]
    simp [hn2, hss, hs]
def textJ (i : Nat) (first : Int) (q : Nat × Nat × List UInt8) : Jump × List UInt8 × List TV :=
  if q.2.1 = 0 then (.ret, q.2.2, fl 0 0) else if q.2.1 = 1 then (.exit 0, [], fl 0 0) else if q.2.1 = 2 then (.ret, [], fl 4 ((i + q.1 : Nat) : Int)) else (.ret, [], fl 4 first)
theorem textJ_add (i k : Nat) (f : Int) (q : Nat × Nat × List UInt8) : textJ i f (k + q.1, q.2) = textJ (i + k) f q := by simp only [textJ, Nat.add_assoc]
theorem D92 {l : List UInt8} (h : bad l = false) (h2 : (D l).1 = 92) : (D l).2 = 1 := by
  obtain ⟨h3, h4, h5, h6⟩ := D_good h
  rw [h2] at h4
  have := congrArg List.length h4
  rw [List.length_take, Nat.min_eq_left h6] at this
  rw [← this]; rfl
theorem loop22 (t : Tag) (b : List UInt8) (ht : TagOk t b) (hb : b.length ≤ 16777216) (first : Int) (R : Store) : ∀ (k i : Nat) (s : List UInt8) (x5 x6 x7 x8 x9 x10 x11 x12 : TV), b.length ≤ i + k → 1 ≤ i → i ≤ b.length → s.length ≤ 4 * i →
    ∃ i' G y5 y6 y7 y8 y9 y10 y11 y12, ((textF k (b.drop i) s).2.1 = 0 → i' = i + (textF k (b.drop i) s).1) ∧ lp' (lim K) t22L0 [.ptr 0 44 0, .iv (.str []), .lb (fl 0 0), .iv (.int .i64 first), .ptr (R.length + 1) 60 0, x5, x6, x7, x8, x9, x10, x11, x12] (rdB t b i :: (R ++ bS R.length s)) = .ret ((textJ i first (textF k (b.drop i) s)).1, [.ptr 0 44 0, .iv (.str (textJ i first (textF k (b.drop i) s)).2.1), .lb (textJ i first (textF k (b.drop i) s)).2.2, .iv (.int .i64 first), .ptr (R.length + 1) 60 0, y5, y6, y7, y8, y9, y10, y11, y12], rdB t b i' :: (R ++ G))
  | 0, i, s, x5, x6, x7, x8, x9, x10, x11, x12, h, h1, hi, hs => by
    obtain rfl : i = b.length := by omega
    have h14 := call14 t b b.length (R ++ bS R.length s)
    rw [decide_eq_true (Nat.le_refl _)] at h14
    refine ⟨b.length, bS R.length s, ?_⟩
    simp only [textF, textJ, ↓reduceIte, Nat.one_ne_zero]
    generalize R ++ bS R.length s = T at *
    refine ⟨?_, ?_, ?_, ?_, ?_, ?_, ?_, ?_, fun e => by simp [textF] at e, loop_at K _ _ t22L0.eq_1 ?_⟩
    rotate_left 8
    · simp only [rdB_eq, fl] at h14 ⊢
      simp (disch := omega) only [go_sem, h14]
      rfl
  | k + 1, i, s, x5, x6, x7, x8, x9, x10, x11, x12, h, h1, hi, hs => by
    by_cases he : i = b.length
    · subst he
      have h14 := call14 t b b.length (R ++ bS R.length s)
      rw [decide_eq_true (Nat.le_refl _)] at h14
      refine ⟨b.length, bS R.length s, ?_⟩
      rw [List.drop_length]
      simp only [textF, textJ, ↓reduceIte, Nat.one_ne_zero]
      generalize R ++ bS R.length s = T at *
      refine ⟨?_, ?_, ?_, ?_, ?_, ?_, ?_, ?_, fun e => e.elim, loop_at K _ _ t22L0.eq_1 ?_⟩
      rotate_left 8
      · simp only [rdB_eq, fl] at h14 ⊢
        simp (disch := omega) only [go_sem, h14]
        rfl
    have h14 := call14 t b i (R ++ bS R.length s)
    rw [decide_eq_false (show ¬ b.length ≤ i by omega)] at h14
    have h29 := call29 t b ht i hb (by omega) (R ++ bS R.length s)
    have h16 := call16
    have hd := drop_cons (b := b) (i := i) (by omega)
    have hlen : (b.drop i).length = b.length - i := List.length_drop
    have hstep : textF (k + 1) (b.drop i) s = if bad (b.drop i) then (0, 2, []) else if (D (b.drop i)).1 = 34 then ((D (b.drop i)).2, 0, s) else if (D (b.drop i)).1 = 92 then (if (b.drop i).drop (D (b.drop i)).2 = [] then (0, 3, []) else match escL ((b.drop i).drop (D (b.drop i)).2) with
          | none => (0, 2, [])
          | some (v, m) => ((D (b.drop i)).2 + m + (textF k ((b.drop i).drop ((D (b.drop i)).2 + m)) (s ++ bytesR v)).1, (textF k ((b.drop i).drop ((D (b.drop i)).2 + m)) (s ++ bytesR v)).2))
      else ((D (b.drop i)).2 + (textF k ((b.drop i).drop (D (b.drop i)).2) (s ++ bytesR (D (b.drop i)).1)).1, (textF k ((b.drop i).drop (D (b.drop i)).2) (s ++ bytesR (D (b.drop i)).1)).2) := by
      rw [hd, textF]
    by_cases hbd : bad (b.drop i) = true
    · rw [hbd] at hstep
      simp only [↓reduceIte] at hstep
      rw [hstep]
      simp only [chV, chN, hbd, ↓reduceIte] at h29
      refine ⟨i, bS R.length s, ?_⟩
      simp only [textJ, ↓reduceIte, Nat.reduceEqDiff, Nat.add_zero]
      generalize R ++ bS R.length s = T at *
      refine ⟨?_, ?_, ?_, ?_, ?_, ?_, ?_, ?_, (fun e => by cases e), loop_at K _ _ t22L0.eq_1 ?_⟩
      rotate_left 8
      · simp only [rdB_eq, fl] at h14 h29 ⊢
        simp (config := { maxSteps := 4000000 }) (disch := omega) only [go_sem, h14, h29, storeV_c, storeC_eq]
        rfl
    rw [Bool.not_eq_true] at hbd
    rw [hbd] at hstep
    simp only [Bool.false_eq_true, ↓reduceIte] at hstep
    simp only [chV, chN, hbd, Bool.false_eq_true, ↓reduceIte] at h29
    obtain ⟨g1, g2, g3, g4⟩ := D_good hbd
    rw [hlen] at g4
    have gD := D_le (b.drop i)
    by_cases h34 : (D (b.drop i)).1 = 34
    · rw [if_pos h34] at hstep
      rw [hstep]
      have hstr := strB31 (rdB t b (i + (D (b.drop i)).2)) R s (by omega)
      refine ⟨i + (D (b.drop i)).2, bS R.length s, ?_⟩
      simp only [textJ, ↓reduceIte]
      generalize R ++ bS R.length s = T at *
      generalize D (b.drop i) = p at *
      refine ⟨?_, ?_, ?_, ?_, ?_, ?_, ?_, ?_, (by simp), loop_at K _ _ t22L0.eq_1 ?_⟩
      rotate_left 8
      · simp only [rdB_eq, fl] at h14 h29 hstr ⊢
        simp (config := { maxSteps := 4000000 }) (disch := omega) only [go_sem, h14, h29, h34, hstr, h16, storeV_c, storeC_eq, Int.cast_ofNat_Int]
        rfl
    rw [if_neg h34] at hstep
    by_cases h92 : (D (b.drop i)).1 = 92
    · rw [if_pos h92] at hstep
      have hk1 := D92 hbd h92
      rw [hk1] at hstep h29 g4
      rw [List.drop_drop] at hstep
      by_cases hend : i + 1 = b.length
      · have h14b := call14 t b (i + 1) (R ++ bS R.length s)
        rw [decide_eq_true (show b.length ≤ i + 1 by omega)] at h14b
        rw [if_pos (List.drop_of_length_le (by omega))] at hstep
        rw [hstep]
        have h27 := call27 first
        refine ⟨i + 1, bS R.length s, ?_⟩
        simp only [textJ, ↓reduceIte, Nat.reduceEqDiff, Nat.add_zero]
        generalize R ++ bS R.length s = T at *
        generalize D (b.drop i) = p at *
        refine ⟨?_, ?_, ?_, ?_, ?_, ?_, ?_, ?_, (fun e => by cases e), loop_at K _ _ t22L0.eq_1 ?_⟩
        rotate_left 8
        · simp only [rdB_eq, fl] at h14 h14b h29 ⊢
          simp (config := { maxSteps := 4000000 }) (disch := omega) only [go_sem, h14, h14b, h29, h92, h27, storeV_c, storeC_eq, Int.cast_ofNat_Int]
          rfl
      · have h14b := call14 t b (i + 1) (R ++ bS R.length s)
        rw [decide_eq_false (show ¬ b.length ≤ i + 1 by omega)] at h14b
        rw [if_neg (by intro e; have := congrArg List.length e; rw [List.length_drop, List.length_nil] at this; omega)] at hstep
        obtain ⟨i2, hi2, h32⟩ := call32 t b ht (i + 1) hb (by omega) (by omega) (R ++ bS R.length s)
        cases hesc : escL (b.drop (i + 1)) with
        | none =>
          rw [hesc] at hstep h32
          rw [hstep]
          simp only [escV] at h32
          rw [show ((i + 1 : Nat) : Int) - 1 = i by omega] at h32
          refine ⟨i2, bS R.length s, ?_⟩
          simp only [textJ, ↓reduceIte, Nat.reduceEqDiff, Nat.add_zero]
          generalize R ++ bS R.length s = T at *
          generalize D (b.drop i) = p at *
          refine ⟨?_, ?_, ?_, ?_, ?_, ?_, ?_, ?_, (fun e => by cases e), loop_at K _ _ t22L0.eq_1 ?_⟩
          rotate_left 8
          · simp only [rdB_eq, fl, flt] at h14 h14b h29 h32 ⊢
            simp (config := { maxSteps := 4000000 }) (disch := omega) only [go_sem, h14, h14b, h29, h92, h32, storeV_c, storeC_eq, Int.cast_ofNat_Int]
            rfl
        | some vm =>
          obtain ⟨v, m⟩ := vm
          obtain rfl := hi2 v m hesc
          obtain ⟨hv, hm1, hm2⟩ := escL_ok hesc
          rw [List.length_drop] at hm2
          rw [hesc] at hstep h32
          simp only [escV] at h32
          simp only [List.drop_drop] at hstep
          have hvl := bytesR_pos hv
          obtain ⟨w, h33⟩ := call33 (rdB t b (i + 1 + m)) R s (by omega) v hv
          obtain ⟨i', G, y5, y6, y7, y8, y9, y10, y11, y12, r1, ih⟩ := loop22 t b ht hb first R k (i + 1 + m) (s ++ bytesR v) (.iv (.int .i32 v)) (.lb (fl 0 0)) (.iv (.bool true)) (.iv (.bool false)) (.iv (.bool false)) (.iv (.bool false)) (.iv (.bool true)) (.iv (.bool false)) (by omega) (by omega) (by omega) (by rw [List.length_append]; omega)
          refine ⟨i', G, y5, y6, y7, y8, y9, y10, y11, y12, ?_, loop_at K _ _ t22L0.eq_1 ?_⟩
          · rw [hstep]
            intro e
            rw [show i + (1 + m) = i + 1 + m by omega] at e ⊢
            have := r1 e
            rw [this]
            simp only []
            omega
          · rw [hstep, textJ_add]
            rw [show i + (1 + m) = i + 1 + m by omega]
            generalize textF k (b.drop (i + 1 + m)) (s ++ bytesR v) = q at *
            generalize textJ (i + 1 + m) first q = J at *
            generalize R ++ bS R.length (s ++ bytesR v) = T2 at *
            generalize R ++ bS R.length s = T at *
            generalize R ++ G = T3 at *
            generalize D (b.drop i) = p at *
            simp only [rdB_eq, fl, flt] at h14 h14b h29 h32 h33 ih ⊢
            simp (config := { maxSteps := 4000000 }) (disch := omega) only [go_sem, h14, h14b, h29, h92, h32, h33, storeV_c, storeC_eq, Int.cast_ofNat_Int]
            exact congrArg er ih
    · rw [if_neg h92] at hstep
      rw [List.drop_drop] at hstep
      have hvl := bytesR_pos g1
      obtain ⟨w, h33⟩ := call33 (rdB t b (i + (D (b.drop i)).2)) R s (by omega) ((D (b.drop i)).1 : Nat) g1
      obtain ⟨i', G, y5, y6, y7, y8, y9, y10, y11, y12, r1, ih⟩ := loop22 t b ht hb first R k (i + (D (b.drop i)).2) (s ++ bytesR ((D (b.drop i)).1 : Nat)) (.iv (.int .i32 (D (b.drop i)).1)) (.lb (fl 0 0)) (.iv (.bool true)) (.iv (.bool false)) (.iv (.bool false)) (.iv (.bool false)) (.iv (.bool false)) x12 (by omega) (by omega) (by omega) (by rw [List.length_append]; omega)
      refine ⟨i', G, y5, y6, y7, y8, y9, y10, y11, y12, ?_, loop_at K _ _ t22L0.eq_1 ?_⟩
      · rw [hstep]
        intro e
        have := r1 e
        rw [this]
        simp only []
        omega
      · rw [hstep, textJ_add]
        generalize textF k (b.drop (i + (D (b.drop i)).2)) (s ++ bytesR ((D (b.drop i)).1 : Nat)) = q at *
        generalize textJ (i + (D (b.drop i)).2) first q = J at *
        generalize R ++ bS R.length (s ++ bytesR ((D (b.drop i)).1 : Nat)) = T2 at *
        generalize R ++ bS R.length s = T at *
        generalize R ++ G = T3 at *
        generalize D (b.drop i) = p at *
        simp only [rdB_eq, fl, flt] at h14 h29 h33 ih ⊢
        simp (config := { maxSteps := 4000000 }) (disch := omega) only [go_sem, h14, h29, h33, storeV_c, storeC_eq]
        exact congrArg er ih
def textV (i : Nat) (q : Nat × Nat × List UInt8) : TV :=
  if q.2.1 = 0 then .tup [.iv (.str q.2.2), .iv (flt 0 0)] else if q.2.1 = 2 then .tup [.iv (.str []), .iv (flt 4 ((i + 1 + q.1 : Nat) : Int))] else .tup [.iv (.str []), .iv (flt 4 i)]
theorem call22 (t : Tag) (b : List UInt8) (ht : TagOk t b) (i n : Nat) (hb : b.length ≤ 16777216) (hi : i < b.length) (hn : b.length ≤ i + 1 + n) (R : Store) :
    ∃ i' G, ((textF n (b.drop (i + 1)) []).2.1 = 0 → i' = i + 1 + (textF n (b.drop (i + 1)) []).1) ∧ (lim K).call 22 [.ptr 0 44 0] (rdB t b i :: R) = .ret (textV i (textF n (b.drop (i + 1)) []), rdB t b i' :: (R ++ G)) := by
  obtain ⟨i', G, y5, y6, y7, y8, y9, y10, y11, y12, r1, e⟩ := loop22 t b ht hb i R n (i + 1) [] (.tup []) (.tup []) (.tup []) (.tup []) (.tup []) (.tup []) (.tup []) (.tup []) (by omega) (by omega) (by omega) (by simp)
  have h27 := call27 i
  refine ⟨i', G, r1, ?_⟩
  generalize textF n (b.drop (i + 1)) [] = q at *
  rw [show bS R.length [] = [.cells 60 false [.iv .nilp, .iv (.sl .nil [])]] from rfl] at e
  unfold textV
  unfold textJ at e
  generalize R ++ G = T at *
  refine call_ret' K _ (fn := t22) rfl rfl ?_
  by_cases q0 : q.2.1 = 0
  · simp only [q0, ↓reduceIte, rdB_eq, fl, flt] at e ⊢
    rw [show ((i + 1 : Nat) : Int) = (i : Int) + 1 by omega] at e
    simp (config := { maxSteps := 4000000 }) (disch := omega) only [t22, go_sem, wrap_i64, List.cons_append, e]
  · by_cases q1 : q.2.1 = 1
    · simp only [q0, q1, ↓reduceIte, Nat.one_ne_zero, Nat.reduceEqDiff, rdB_eq, fl, flt] at e ⊢
      rw [show ((i + 1 : Nat) : Int) = (i : Int) + 1 by omega] at e
      simp (config := { maxSteps := 4000000 }) (disch := omega) only [t22, go_sem, wrap_i64, List.cons_append, e, h27]
    · by_cases q2 : q.2.1 = 2
      · simp only [q0, q1, q2, ↓reduceIte, Nat.reduceEqDiff, rdB_eq, fl, flt] at e ⊢
        rw [show ((i + 1 : Nat) : Int) = (i : Int) + 1 by omega] at e
        simp (config := { maxSteps := 4000000 }) (disch := omega) only [t22, go_sem, wrap_i64, List.cons_append, e]
      · simp only [q0, q1, q2, ↓reduceIte, rdB_eq, fl, flt] at e ⊢
        rw [show ((i + 1 : Nat) : Int) = (i : Int) + 1 by omega] at e
        simp (config := { maxSteps := 4000000 }) (disch := omega) only [t22, go_sem, wrap_i64, List.cons_append, e]
end Go.Proofs.YtpngkgkobapioaaDoor
