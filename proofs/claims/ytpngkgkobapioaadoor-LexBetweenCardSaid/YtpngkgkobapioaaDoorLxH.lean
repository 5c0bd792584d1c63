/- Lex: chars, and what begins with a mark. Condition: none. -/
import Derived.Test.YtpngkgkobapioaaDoorLxG
set_option maxRecDepth 100000
set_option maxHeartbeats 8000000
set_option linter.unusedSimpArgs false
set_option linter.unusedVariables false
namespace Go.Proofs.YtpngkgkobapioaaDoor
open Go Go.TM
def wSpace : List UInt8 := [115, 112, 97, 99, 101]
def wNewline : List UInt8 := [110, 101, 119, 108, 105, 110, 101]
def wTab : List UInt8 := [116, 97, 98]
def litL : List UInt8 → Option (Int × Nat)
  | [] => none
  | c :: r =>
    if bad (c :: r) then none
    else if runL ((c :: r).drop (D (c :: r)).2) = [] then some ((D (c :: r)).1, (D (c :: r)).2)
    else if bytesR (D (c :: r)).1 ++ runL ((c :: r).drop (D (c :: r)).2) = wSpace then some (32, (D (c :: r)).2 + (runL ((c :: r).drop (D (c :: r)).2)).length)
    else if bytesR (D (c :: r)).1 ++ runL ((c :: r).drop (D (c :: r)).2) = wNewline then some (10, (D (c :: r)).2 + (runL ((c :: r).drop (D (c :: r)).2)).length)
    else if bytesR (D (c :: r)).1 ++ runL ((c :: r).drop (D (c :: r)).2) = wTab then some (9, (D (c :: r)).2 + (runL ((c :: r).drop (D (c :: r)).2)).length)
    else if (D (c :: r)).1 = 120 ∧ hexO (runL ((c :: r).drop (D (c :: r)).2)) = true then some (hexN (runL ((c :: r).drop (D (c :: r)).2)), (D (c :: r)).2 + (runL ((c :: r).drop (D (c :: r)).2)).length)
    else none
def litV (o : Option (Int × Nat)) (i : Nat) : TV := match o with
  | some (v, _) => .tup [.iv (.int .i64 v), .iv (flt 0 0)]
  | none => .tup [.iv (.int .i64 0), .iv (flt 4 i)]
theorem intStr {c : Int} (h : isC c = true) : convOp .intStr (.iv (.int .i32 c)) = some (.str (bytesR c)) := by
  rw [← bytes_eq c h]; rfl
theorem hexN_le (s : List UInt8) : 0 ≤ hexN s ∧ hexN s ≤ 16777216 := by
  unfold hexN
  cases h : hexF s 0 with
  | none => simp
  | some n => have := hexF_le s 0 n (by omega) h; simpa using this
theorem beqF' {a b : List UInt8} (h : a ≠ b) : (a == b) = false := by rw [beq_eq_false_iff_ne]; exact h
theorem beqT' {a b : List UInt8} (h : a = b) : (a == b) = true := by rw [h]; exact beq_self_eq_true b
theorem call34 (t : Tag) (b : List UInt8) (ht : TagOk t b) (i : Nat) (hb : b.length ≤ 16777216) (hi : i + 2 ≤ b.length) (R : Store) :
    ∃ i', (∀ v m, litL (b.drop (i + 2)) = some (v, m) → i' = i + 2 + m) ∧ (lim K).call 34 [.ptr 0 44 0] (rdB t b i :: R) = .ret (litV (litL (b.drop (i + 2))) i, rdB t b i' :: R) := by
  have h27 := call27 i
  have h16 := call16
  have h14 := call14 t b (i + 2) R
  have e2 : ((i + 2 : Nat) : Int) = (i : Int) + 2 := by omega
  by_cases hend : i + 2 = b.length
  · rw [decide_eq_true (show b.length ≤ i + 2 by omega)] at h14
    rw [List.drop_of_length_le (by omega)]
    refine ⟨i + 2, (fun v m e => by cases e), ?_⟩
    refine call_ret' K _ (fn := t34) rfl rfl ?_
    simp only [rdB_eq, litL, litV, flt, e2] at h14 ⊢
    simp (config := { maxSteps := 4000000 }) (disch := omega) only [t34, go_sem, wrap_i64, h14, h27]
  rw [decide_eq_false (show ¬ b.length ≤ i + 2 by omega)] at h14
  have h29 := call29 t b ht (i + 2) hb (by omega) R
  have hd := drop_cons (b := b) (i := i + 2) (by omega)
  have hlen : (b.drop (i + 2)).length = b.length - (i + 2) := List.length_drop
  have hstep : litL (b.drop (i + 2)) = if bad (b.drop (i + 2)) then none
    else if runL ((b.drop (i + 2)).drop (D (b.drop (i + 2))).2) = [] then some (((D (b.drop (i + 2))).1 : Int), (D (b.drop (i + 2))).2)
    else if bytesR (D (b.drop (i + 2))).1 ++ runL ((b.drop (i + 2)).drop (D (b.drop (i + 2))).2) = wSpace then some (32, (D (b.drop (i + 2))).2 + (runL ((b.drop (i + 2)).drop (D (b.drop (i + 2))).2)).length)
    else if bytesR (D (b.drop (i + 2))).1 ++ runL ((b.drop (i + 2)).drop (D (b.drop (i + 2))).2) = wNewline then some (10, (D (b.drop (i + 2))).2 + (runL ((b.drop (i + 2)).drop (D (b.drop (i + 2))).2)).length)
    else if bytesR (D (b.drop (i + 2))).1 ++ runL ((b.drop (i + 2)).drop (D (b.drop (i + 2))).2) = wTab then some (9, (D (b.drop (i + 2))).2 + (runL ((b.drop (i + 2)).drop (D (b.drop (i + 2))).2)).length)
    else if (D (b.drop (i + 2))).1 = 120 ∧ hexO (runL ((b.drop (i + 2)).drop (D (b.drop (i + 2))).2)) = true then some (hexN (runL ((b.drop (i + 2)).drop (D (b.drop (i + 2))).2)), (D (b.drop (i + 2))).2 + (runL ((b.drop (i + 2)).drop (D (b.drop (i + 2))).2)).length)
    else none := by
    rw [hd, litL]
  by_cases hbd : bad (b.drop (i + 2)) = true
  · rw [if_pos hbd] at hstep
    rw [hstep]
    simp only [chV, chN, hbd, ↓reduceIte] at h29
    refine ⟨i + 2, (fun v m e => by cases e), ?_⟩
    refine call_ret' K _ (fn := t34) rfl rfl ?_
    simp only [rdB_eq, litV, flt, e2] at h14 h29 ⊢
    simp (config := { maxSteps := 4000000 }) (disch := omega) only [t34, go_sem, wrap_i64, h14, h27, h29, storeV_c, storeC_eq]
  rw [if_neg hbd, List.drop_drop] at hstep
  rw [Bool.not_eq_true] at hbd
  simp only [chV, chN, hbd, Bool.false_eq_true, ↓reduceIte] at h29
  obtain ⟨g1, g2, g3, g4⟩ := D_good hbd
  rw [hlen] at g4
  have gD := D_le (b.drop (i + 2))
  have hbl := bytesR_pos g1
  have h26 := call26 t b ht (i + 2 + (D (b.drop (i + 2))).2) hb (by omega) R
  have hrl := runL_len (b.drop (i + 2 + (D (b.drop (i + 2))).2))
  rw [List.length_drop] at hrl
  have his := intStr g1
  have hadd := sadd (bytesR ((D (b.drop (i + 2))).1 : Nat)) (runL (b.drop (i + 2 + (D (b.drop (i + 2))).2))) (by omega)
  have h40 := call40 (runL (b.drop (i + 2 + (D (b.drop (i + 2))).2))) (by omega)
  have hxl := hexN_le (runL (b.drop (i + 2 + (D (b.drop (i + 2))).2)))
  generalize runL (b.drop (i + 2 + (D (b.drop (i + 2))).2)) = X at *
  generalize D (b.drop (i + 2)) = p at *
  have hw : ∀ m : Nat, ((i + 2 + p.2 + m : Nat) : Int) = ((i + 2 + (p.2 + m) : Nat) : Int) := by intro m; omega
  by_cases hX : X = []
  · rw [if_pos hX] at hstep
    rw [hstep]
    refine ⟨i + 2 + p.2, (fun v m e => by simp only [Option.some.injEq, Prod.mk.injEq] at e; omega), ?_⟩
    refine call_ret' K _ (fn := t34) rfl rfl ?_
    simp only [rdB_eq, litV, flt, e2, hX, List.length_nil, Nat.add_zero, List.append_nil] at h14 h29 h26 hadd ⊢
    generalize ((i + 2 + p.2 : Nat) : Int) = z at *
    simp (config := { maxSteps := 4000000 }) (disch := omega) only [t34, go_sem, wrap_i64, h14, h16, h29, h26, his, hadd, storeV_c, storeC_eq]
  rw [if_neg hX] at hstep
  have hXb := beqN hX
  have main : ∀ (o : Option (Int × Nat)), (∀ v m, o = some (v, m) → i + 2 + p.2 + X.length = i + 2 + m) → litL (b.drop (i + 2)) = o →
      (lim K).call 34 [.ptr 0 44 0] (rdB t b i :: R) = .ret (litV o i, rdB t b (i + 2 + p.2 + X.length) :: R) →
      ∃ i', (∀ v m, litL (b.drop (i + 2)) = some (v, m) → i' = i + 2 + m) ∧ (lim K).call 34 [.ptr 0 44 0] (rdB t b i :: R) = .ret (litV (litL (b.drop (i + 2))) i, rdB t b i' :: R) :=
    fun o h1 h2 h3 => ⟨i + 2 + p.2 + X.length, by rw [h2]; exact h1, by rw [h2]; exact h3⟩
  by_cases w1 : bytesR (p.1 : Nat) ++ X = wSpace
  · rw [if_pos w1] at hstep
    refine main _ (fun v m e => by simp only [Option.some.injEq, Prod.mk.injEq] at e; omega) hstep ?_
    have hb1 := beqT' w1
    simp only [wSpace] at hb1
    refine call_ret' K _ (fn := t34) rfl rfl ?_
    simp only [rdB_eq, litV, flt, e2] at h14 h29 h26 hadd ⊢
    generalize ((i + 2 + p.2 : Nat) : Int) = z at *
    simp (config := { maxSteps := 4000000 }) (disch := omega) only [t34, go_sem, wrap_i64, h14, h16, h29, h26, his, hadd, hXb, hb1, storeV_c, storeC_eq]
  rw [if_neg w1] at hstep
  have n1 := beqF' w1
  by_cases w2 : bytesR (p.1 : Nat) ++ X = wNewline
  · rw [if_pos w2] at hstep
    refine main _ (fun v m e => by simp only [Option.some.injEq, Prod.mk.injEq] at e; omega) hstep ?_
    have hb2 := beqT' w2
    simp only [wSpace, wNewline] at n1 hb2
    refine call_ret' K _ (fn := t34) rfl rfl ?_
    simp only [rdB_eq, litV, flt, e2] at h14 h29 h26 hadd ⊢
    generalize ((i + 2 + p.2 : Nat) : Int) = z at *
    simp (config := { maxSteps := 4000000 }) (disch := omega) only [t34, go_sem, wrap_i64, h14, h16, h29, h26, his, hadd, hXb, n1, hb2, storeV_c, storeC_eq]
  rw [if_neg w2] at hstep
  have n2 := beqF' w2
  by_cases w3 : bytesR (p.1 : Nat) ++ X = wTab
  · rw [if_pos w3] at hstep
    refine main _ (fun v m e => by simp only [Option.some.injEq, Prod.mk.injEq] at e; omega) hstep ?_
    have hb3 := beqT' w3
    simp only [wSpace, wNewline, wTab] at n1 n2 hb3
    refine call_ret' K _ (fn := t34) rfl rfl ?_
    simp only [rdB_eq, litV, flt, e2] at h14 h29 h26 hadd ⊢
    generalize ((i + 2 + p.2 : Nat) : Int) = z at *
    simp (config := { maxSteps := 4000000 }) (disch := omega) only [t34, go_sem, wrap_i64, h14, h16, h29, h26, his, hadd, hXb, n1, n2, hb3, storeV_c, storeC_eq]
  rw [if_neg w3] at hstep
  have n3 := beqF' w3
  simp only [wSpace, wNewline, wTab] at n1 n2 n3
  by_cases w4 : p.1 = 120 ∧ hexO X = true
  · rw [if_pos w4] at hstep
    refine main _ (fun v m e => by simp only [Option.some.injEq, Prod.mk.injEq] at e; omega) hstep ?_
    rw [w4.2] at h40
    have p120 := w4.1
    refine call_ret' K _ (fn := t34) rfl rfl ?_
    simp only [rdB_eq, litV, flt, e2] at h14 h29 h26 hadd ⊢
    generalize hexN X = hx at *
    generalize ((i + 2 + p.2 : Nat) : Int) = z at *
    simp (config := { maxSteps := 4000000 }) (disch := omega) only [t34, go_sem, wrap_i64, h14, h16, h29, h26, his, hadd, hXb, n1, n2, n3, h40, storeV_c, storeC_eq]
  · rw [if_neg w4] at hstep
    refine main _ (fun v m e => by cases e) hstep ?_
    refine call_ret' K _ (fn := t34) rfl rfl ?_
    simp only [rdB_eq, litV, flt, e2] at h14 h29 h26 hadd ⊢
    generalize hexN X = hx at *
    generalize ((i + 2 + p.2 : Nat) : Int) = z at *
    by_cases p120 : p.1 = 120
    · have : hexO X = false := by cases h : hexO X; rfl; exact absurd ⟨p120, h⟩ w4
      rw [this] at h40
      simp (config := { maxSteps := 4000000 }) (disch := omega) only [t34, go_sem, wrap_i64, h14, h16, h27, h29, h26, his, hadd, hXb, n1, n2, n3, h40, storeV_c, storeC_eq]
    · simp (config := { maxSteps := 4000000 }) (disch := omega) only [t34, go_sem, wrap_i64, h14, h16, h27, h29, h26, his, hadd, hXb, n1, n2, n3, h40, storeV_c, storeC_eq]
/-! ### What begins with a mark -/
def wT : List UInt8 := [116]
def wTrue : List UInt8 := [116, 114, 117, 101]
def wU8 : List UInt8 := [117, 56]
def wF : List UInt8 := [102]
def wFalse : List UInt8 := [102, 97, 108, 115, 101]
def markL (l : List UInt8) (p : Int) : Option (Tk × Nat) :=
  if beg l [35, 40] then some (⟨4, p, 0, 0, [], 0⟩, 2)
  else if beg l [35, 92] then (match litL (l.drop 2) with
    | some (v, m) => some (⟨7, p, 3, v, [], p⟩, 2 + m)
    | none => none)
  else if runL (l.drop 1) = wT ∨ runL (l.drop 1) = wTrue then some (⟨7, p, 1, 1, [], p⟩, 1 + (runL (l.drop 1)).length)
  else if runL (l.drop 1) = wU8 ∧ ((pk (l.drop (1 + (runL (l.drop 1)).length))).toNat : Int) = 40 then some (⟨5, p, 0, 0, [], 0⟩, 1 + ((runL (l.drop 1)).length + 1))
  else if runL (l.drop 1) = wF ∨ runL (l.drop 1) = wFalse then some (⟨7, p, 1, 0, [], p⟩, 1 + (runL (l.drop 1)).length)
  else none
def MarkOk (o : Option (Tk × Nat)) (i i' : Nat) (v : TV) : Prop := match o with
  | some (t, m) => i' = i + m ∧ v = .tup [.iv (.agg (encT t)), .iv (flt 0 0)]
  | none => ∃ t : Tk, v = .tup [.iv (.agg (encT t)), .iv (flt 4 i)]
theorem call23 (t : Tag) (b : List UInt8) (ht : TagOk t b) (i : Nat) (hb : b.length ≤ 16777216) (hi : i < b.length) (R : Store) :
    ∃ i' v, MarkOk (markL (b.drop i) i) i i' v ∧ (lim K).call 23 [.ptr 0 44 0] (rdB t b i :: R) = .ret (v, rdB t b i' :: R) := by
  have h27 := call27 i
  have h16 := call16
  have hA := call19 t b ht i [35, 40] hb (by omega) (by decide) R
  have hB := call19 t b ht i [35, 92] hb (by omega) (by decide) R
  have hlen : (b.drop i).length = b.length - i := List.length_drop
  unfold markL
  cases hbA : beg (b.drop i) [35, 40]
  · rw [hbA] at hA
    simp only [Bool.false_eq_true, ↓reduceIte]
    cases hbB : beg (b.drop i) [35, 92]
    · rw [hbB] at hB
      simp only [Bool.false_eq_true, ↓reduceIte, List.drop_drop]
      have h26 := call26 t b ht (i + 1) hb (by omega) R
      have hrl := runL_len (b.drop (i + 1))
      rw [List.length_drop] at hrl
      have h35 := call35 t b (i + 1 + (runL (b.drop (i + 1))).length) hb (by omega) R
      rw [show i + (1 + (runL (b.drop (i + 1))).length) = i + 1 + (runL (b.drop (i + 1))).length by omega]
      generalize pk (b.drop (i + 1 + (runL (b.drop (i + 1))).length)) = c at *
      generalize runL (b.drop (i + 1)) = X at *
      have e1 : ((i + 1 : Nat) : Int) = (i : Int) + 1 := by omega
      by_cases wt : X = wT ∨ X = wTrue
      · rw [if_pos wt]
        refine ⟨i + 1 + X.length, _, ⟨by omega, rfl⟩, ?_⟩
        refine call_ret' K _ (fn := t23) rfl rfl ?_
        simp only [rdB_eq, flt, encT, e1] at hA hB h26 h35 ⊢
        rcases wt with w | w
        · have q1 := beqT' w
          simp only [wT] at q1
          generalize ((i + 1 + X.length : Nat) : Int) = z at *
          simp (config := { maxSteps := 4000000 }) (disch := omega) only [t23, go_sem, wrap_i64, hA, hB, h16, h26, q1, storeV_c, storeC_eq]
        · have q0 : (X == [116]) = false := by rw [w]; rfl
          have q1 := beqT' w
          simp only [wTrue] at q1
          generalize ((i + 1 + X.length : Nat) : Int) = z at *
          simp (config := { maxSteps := 4000000 }) (disch := omega) only [t23, go_sem, wrap_i64, hA, hB, h16, h26, q0, q1, storeV_c, storeC_eq]
      rw [if_neg wt]
      have nt := beqF' (fun h => wt (.inl h))
      have nt2 := beqF' (fun h => wt (.inr h))
      simp only [wT, wTrue] at nt nt2
      by_cases wu : X = wU8 ∧ (c.toNat : Int) = 40
      · rw [if_pos wu]
        obtain ⟨wu, hc⟩ := wu
        have q1 := beqT' wu
        simp only [wU8] at q1
        refine ⟨i + 1 + X.length + 1, _, ⟨by omega, rfl⟩, ?_⟩
        refine call_ret' K _ (fn := t23) rfl rfl ?_
        simp only [rdB_eq, flt, encT, e1] at hA hB h26 h35 ⊢
        rw [show ((i + 1 + X.length + 1 : Nat) : Int) = ((i + 1 + X.length : Nat) : Int) + 1 by omega]
        have hz : 0 ≤ ((i + 1 + X.length : Nat) : Int) ∧ ((i + 1 + X.length : Nat) : Int) ≤ 16777216 := by omega
        generalize ((i + 1 + X.length : Nat) : Int) = z at *
        simp (config := { maxSteps := 4000000 }) (disch := omega) only [t23, go_sem, wrap_i64, hA, hB, h16, h26, h35, nt, nt2, q1, hc, storeV_c, storeC_eq]
      rw [if_neg wu]
      have nu : (X == [117, 56]) = false ∨ ((X == [117, 56]) = true ∧ ¬ (c.toNat : Int) = 40) := by
        by_cases h : X = wU8
        · exact .inr ⟨beqT' h, fun hc => wu ⟨h, hc⟩⟩
        · exact .inl (beqF' h)
      by_cases wf : X = wF ∨ X = wFalse
      · rw [if_pos wf]
        have nu1 : (X == [117, 56]) = false := by
          rcases wf with w | w <;> rw [w] <;> rfl
        refine ⟨i + 1 + X.length, _, ⟨by omega, rfl⟩, ?_⟩
        refine call_ret' K _ (fn := t23) rfl rfl ?_
        simp only [rdB_eq, flt, encT, e1] at hA hB h26 h35 ⊢
        rcases wf with w | w
        · have q1 := beqT' w
          have q2 : (X == [102, 97, 108, 115, 101]) = false := by rw [w]; rfl
          simp only [wF] at q1
          generalize ((i + 1 + X.length : Nat) : Int) = z at *
          simp (config := { maxSteps := 4000000 }) (disch := omega) only [t23, go_sem, wrap_i64, hA, hB, h16, h26, nt, nt2, nu1, q1, q2, storeV_c, storeC_eq]
        · have q1 := beqT' w
          have q2 : (X == [102]) = false := by rw [w]; rfl
          simp only [wFalse] at q1
          generalize ((i + 1 + X.length : Nat) : Int) = z at *
          simp (config := { maxSteps := 4000000 }) (disch := omega) only [t23, go_sem, wrap_i64, hA, hB, h16, h26, nt, nt2, nu1, q1, q2, storeV_c, storeC_eq]
      · rw [if_neg wf]
        have q1 := beqF' (fun h => wf (.inl h))
        have q2 := beqF' (fun h => wf (.inr h))
        simp only [wF, wFalse] at q1 q2
        refine ⟨i + 1 + X.length, .tup [.iv (.agg (encT ⟨7, i, 1, 0, [], i⟩)), .iv (flt 4 i)], ⟨_, rfl⟩, ?_⟩
        refine call_ret' K _ (fn := t23) rfl rfl ?_
        simp only [rdB_eq, flt, encT, e1] at hA hB h26 h35 ⊢
        generalize ((i + 1 + X.length : Nat) : Int) = z at *
        rcases nu with nu | ⟨nu, nc⟩
        · simp (config := { maxSteps := 4000000 }) (disch := omega) only [t23, go_sem, wrap_i64, hA, hB, h16, h26, h27, nt, nt2, nu, q1, q2, storeV_c, storeC_eq]
        · simp (config := { maxSteps := 4000000 }) (disch := omega) only [t23, go_sem, wrap_i64, hA, hB, h16, h26, h27, h35, nt, nt2, nu, nc, q1, q2, storeV_c, storeC_eq]
    · rw [hbB] at hB
      have h2 := beg_len hbB
      rw [hlen] at h2
      simp only [List.length_cons, List.length_nil] at h2
      simp only [↓reduceIte, List.drop_drop]
      obtain ⟨i', r1, h34⟩ := call34 t b ht i hb (by omega) R
      cases hl : litL (b.drop (i + 2)) with
      | none =>
        rw [hl] at h34
        refine ⟨i', .tup [.iv (.agg (encT ⟨7, i, 3, 0, [], i⟩)), .iv (flt 4 i)], ⟨_, rfl⟩, ?_⟩
        refine call_ret' K _ (fn := t23) rfl rfl ?_
        simp only [rdB_eq, flt, encT, litV] at hA hB h34 ⊢
        simp (config := { maxSteps := 4000000 }) (disch := omega) only [t23, go_sem, wrap_i64, hA, hB, h34, storeV_c, storeC_eq]
      | some vm =>
        obtain ⟨v, m⟩ := vm
        have := r1 v m hl
        subst this
        rw [hl] at h34
        refine ⟨i + 2 + m, _, ⟨by omega, rfl⟩, ?_⟩
        refine call_ret' K _ (fn := t23) rfl rfl ?_
        simp only [rdB_eq, flt, encT, litV] at hA hB h34 ⊢
        generalize ((i + 2 + m : Nat) : Int) = z at *
        simp (config := { maxSteps := 4000000 }) (disch := omega) only [t23, go_sem, wrap_i64, hA, hB, h34, storeV_c, storeC_eq]
  · rw [hbA] at hA
    have h2 := beg_len hbA
    rw [hlen] at h2
    simp only [List.length_cons, List.length_nil] at h2
    simp only [↓reduceIte]
    refine ⟨i + 2, _, ⟨rfl, rfl⟩, ?_⟩
    refine call_ret' K _ (fn := t23) rfl rfl ?_
    have e2 : ((i + 2 : Nat) : Int) = (i : Int) + 2 := by omega
    simp only [rdB_eq, flt, encT, e2] at hA ⊢
    simp (config := { maxSteps := 4000000 }) (disch := omega) only [t23, go_sem, wrap_i64, hA, h16, storeV_c, storeC_eq]
end Go.Proofs.YtpngkgkobapioaaDoor
