/- Lex: a token. Condition: none. -/
import Derived.Test.YtpngkgkobapioaaDoorLxH
set_option maxRecDepth 100000
set_option maxHeartbeats 8000000
set_option linter.unusedSimpArgs false
set_option linter.unusedVariables false
namespace Go.Proofs.YtpngkgkobapioaaDoor
open Go Go.TM
inductive TR where
  | bad (e p : Int)
  | skip (m : Nat)
  | tok (t : Tk) (m : Nat)
def loose (l : List UInt8) (p : Int) (t : Tk) (m : Nat) : TR := if l.drop m = [] ∨ isDel (pk (l.drop m)) = true then .tok t m else .bad 4 (p + m)
def tokL (n : Nat) (l : List UInt8) (p : Int) : TR :=
  if isBlk (pk l) then .skip 1
  else if ((pk l).toNat : Int) = 59 then (if (lineF n l).2 then .skip (lineF n l).1 else .bad 4 (p + (lineF n l).1))
  else if beg l [35, 124] then (if (nestF n l 0).2 = 0 then .skip (nestF n l 0).1 else if (nestF n l 0).2 = 1 then .bad 4 p else if (nestF n l 0).2 = 2 then .bad 4 (p + (nestF n l 0).1) else .bad 5 (p + (nestF n l 0).1))
  else if ((pk l).toNat : Int) = 40 then .tok ⟨1, p, 0, 0, [], 0⟩ 1
  else if ((pk l).toNat : Int) = 41 then .tok ⟨2, p, 0, 0, [], 0⟩ 1
  else if ((pk l).toNat : Int) = 39 then .tok ⟨3, p, 0, 0, [], 0⟩ 1
  else if ((pk l).toNat : Int) = 34 then (if (textF n (l.drop 1) []).2.1 = 0 then .tok ⟨7, p, 4, 0, (textF n (l.drop 1) []).2.2, p⟩ (1 + (textF n (l.drop 1) []).1) else if (textF n (l.drop 1) []).2.1 = 2 then .bad 4 (p + 1 + (textF n (l.drop 1) []).1) else .bad 4 p)
  else if ((pk l).toNat : Int) = 35 then (match markL l p with
    | none => .bad 4 p
    | some (t, m) => if t.kind = 7 then loose l p t m else .tok t m)
  else if isSym (pk l) then loose l p (wordT (runL l) p) (runL l).length
  else .bad 4 p
def zT : Tk := ⟨0, 0, 0, 0, [], 0⟩
def TokOk (o : TR) (i i' : Nat) (v : TV) : Prop := match o with
  | .bad e p => ∃ t : Tk, v = .tup [.iv (.agg (encT t)), .iv (flt e p)]
  | .skip m => i' = i + m ∧ v = .tup [.iv (.agg (encT zT)), .iv (flt 0 0)]
  | .tok t m => i' = i + m ∧ v = .tup [.iv (.agg (encT t)), .iv (flt 0 0)]
theorem ix3 (c : UInt8) : ((c.toNat : Int) = 40 → Lib.indexByte [40, 41, 39] c = 0) ∧ ((c.toNat : Int) = 41 → Lib.indexByte [40, 41, 39] c = 1) ∧ ((c.toNat : Int) = 39 → Lib.indexByte [40, 41, 39] c = 2) := by
  refine ⟨fun h => ?_, fun h => ?_, fun h => ?_⟩
  · have : c = 40 := UInt8.toNat_inj.1 (by show c.toNat = 40; omega)
    subst this; rfl
  · have : c = 41 := UInt8.toNat_inj.1 (by show c.toNat = 41; omega)
    subst this; rfl
  · have : c = 39 := UInt8.toNat_inj.1 (by show c.toNat = 39; omega)
    subst this; rfl
theorem markL_len {l : List UInt8} {p : Int} {t : Tk} {m : Nat} (h : markL l p = some (t, m)) (hl : l ≠ []) : 1 ≤ m ∧ m ≤ l.length := by
  have hlp : 1 ≤ l.length := by cases l with
    | nil => exact absurd rfl hl
    | cons a r => simp
  have hr := runL_len (l.drop 1)
  rw [List.length_drop] at hr
  unfold markL at h
  split at h
  · rename_i hb
    have := beg_len hb
    simp only [List.length_cons, List.length_nil] at this
    simp only [Option.some.injEq, Prod.mk.injEq] at h; omega
  · split at h
    · rename_i hb
      have := beg_len hb
      simp only [List.length_cons, List.length_nil] at this
      split at h
      · rename_i v k hlit
        simp only [Option.some.injEq, Prod.mk.injEq] at h
        have hk : k ≤ (l.drop 2).length := by
          clear h
          generalize l.drop 2 = x at *
          cases x with
          | nil => cases hlit
          | cons c r =>
            rw [litL] at hlit
            split at hlit
            · cases hlit
            · rename_i hbd
              rw [Bool.not_eq_true] at hbd
              have h1 := D_in hbd
              have h2 := runL_len ((c :: r).drop (D (c :: r)).2)
              rw [List.length_drop, List.length_cons] at h2
              rw [List.length_cons]
              repeat' split at hlit
              all_goals (first | (simp only [Option.some.injEq, Prod.mk.injEq] at hlit; omega) | cases hlit)
        rw [List.length_drop] at hk
        omega
      · cases h
    · split at h
      · simp only [Option.some.injEq, Prod.mk.injEq] at h; omega
      · split at h
        · rename_i hx
          simp only [Option.some.injEq, Prod.mk.injEq] at h
          have : 1 + (runL (l.drop 1)).length < l.length := by
            rcases Nat.lt_or_ge (1 + (runL (l.drop 1)).length) l.length with g | g
            · exact g
            · rw [List.drop_of_length_le g] at hx
              simp [pk] at hx
          omega
        · split at h
          · simp only [Option.some.injEq, Prod.mk.injEq] at h; omega
          · cases h
theorem call15 (t : Tag) (b : List UInt8) (ht : TagOk t b) (i n : Nat) (hb : b.length ≤ 16777216) (hi : i < b.length) (hn : b.length ≤ i + n) (R : Store) :
    ∃ i' G v, TokOk (tokL n (b.drop i) i) i i' v ∧ (lim K).call 15 [.ptr 0 44 0] (rdB t b i :: R) = .ret (v, rdB t b i' :: (R ++ G)) := by
  have hd := drop_cons (b := b) (i := i) (by omega)
  have hlen : (b.drop i).length = b.length - i := List.length_drop
  have hne : b.drop i ≠ [] := by rw [hd]; simp
  have hix := ix_bytes (t := t) (l := b) (i := (i : Int)) (by omega)
  rw [Int.toNat_natCast] at hix
  have hpk : pk (b.drop i) = b.getD i 0 := by rw [hd]; rfl
  have h17 := call17 (b.getD i 0)
  have h18 := call18 t b ht i n hb (by omega) hn R
  have h19 := call19 t b ht i [35, 124] hb (by omega) (by decide) R
  have h20 := call20 t b ht i n hb (by omega) hn R
  have h21 := call21 [40, 41, 39] (b.getD i 0)
  obtain ⟨x40, x41, x39⟩ := ix3 (b.getD i 0)
  obtain ⟨i22, G22, r22, h22⟩ := call22 t b ht i n hb hi (by omega) R
  obtain ⟨i23, v23, r23, h23⟩ := call23 t b ht i hb hi R
  have h24 := call24 (b.getD i 0)
  have h26 := call26 t b ht i hb (by omega) R
  have h27 := call27 i
  unfold tokL
  rw [hpk]
  have hml := fun t m (h : markL (b.drop i) i = some (t, m)) => markL_len h hne
  rw [hlen] at hml
  have hrl := runL_len (b.drop i)
  rw [hlen] at hrl
  generalize hD : b.drop i = l at *
  generalize b.getD i 0 = c at *
  -- behind a token that is loose
  have tail : ∀ m : Nat, i + m ≤ b.length → ∀ T : Store, (lim K).call 14 [.ptr 0 44 0] (rdB t b (i + m) :: T) = .ret (.iv (.bool (decide (b.length ≤ i + m))), rdB t b (i + m) :: T) := fun m h T => call14 t b (i + m) T
  have hdrop : ∀ m : Nat, l.drop m = b.drop (i + m) := fun m => by rw [← hD, List.drop_drop]
  cases hblk : isBlk c
  · rw [hblk] at h17
    simp only [Bool.false_eq_true, ↓reduceIte]
    by_cases c59 : (c.toNat : Int) = 59
    · simp only [c59, ↓reduceIte]
      generalize lineF n l = q at *
      cases hq : q.2
      · rw [hq] at h18
        simp only [Bool.false_eq_true, ↓reduceIte] at h18 ⊢
        refine ⟨i + q.1, [], .tup [.iv (.agg (encT zT)), .iv (flt 4 ((i + q.1 : Nat) : Int))], ⟨zT, by simp only [Int.natCast_add]⟩, ?_⟩
        rw [List.append_nil]
        simp only [rdB_eq, flt, encT, zT] at h18 h19 ⊢
        refine call_ret' K _ (fn := t15) rfl rfl ?_
        simp (config := { maxSteps := 4000000 }) (disch := omega) only [t15, go_sem, hix, h17, h18, storeV_c, storeC_eq]
      · rw [hq] at h18
        simp only [↓reduceIte] at h18 ⊢
        refine ⟨i + q.1, [], _, ⟨rfl, rfl⟩, ?_⟩
        rw [List.append_nil]
        simp only [rdB_eq, flt, encT, zT] at h18 h19 ⊢
        refine call_ret' K _ (fn := t15) rfl rfl ?_
        simp (config := { maxSteps := 4000000 }) (disch := omega) only [t15, go_sem, hix, h17, h18, storeV_c, storeC_eq]
    simp only [c59, ↓reduceIte]
    cases hbg : beg l [35, 124]
    · rw [hbg] at h19
      simp only [Bool.false_eq_true, ↓reduceIte]
      have e1 : ((i + 1 : Nat) : Int) = (i : Int) + 1 := by omega
      by_cases c40 : (c.toNat : Int) = 40
      · simp only [c40, ↓reduceIte]
        rw [x40 c40] at h21
        refine ⟨i + 1, [], _, ⟨rfl, rfl⟩, ?_⟩
        rw [List.append_nil]
        simp only [rdB_eq, flt, encT, e1] at h19 ⊢
        refine call_ret' K _ (fn := t15) rfl rfl ?_
        simp (config := { maxSteps := 4000000 }) (disch := omega) only [t15, go_sem, hix, h17, h19, h21, wrap_i64, storeV_c, storeC_eq]
      simp only [c40, ↓reduceIte]
      by_cases c41 : (c.toNat : Int) = 41
      · simp only [c41, ↓reduceIte]
        rw [x41 c41] at h21
        refine ⟨i + 1, [], _, ⟨rfl, rfl⟩, ?_⟩
        rw [List.append_nil]
        simp only [rdB_eq, flt, encT, e1] at h19 ⊢
        refine call_ret' K _ (fn := t15) rfl rfl ?_
        simp (config := { maxSteps := 4000000 }) (disch := omega) only [t15, go_sem, hix, h17, h19, h21, wrap_i64, storeV_c, storeC_eq]
      simp only [c41, ↓reduceIte]
      by_cases c39 : (c.toNat : Int) = 39
      · simp only [c39, ↓reduceIte]
        rw [x39 c39] at h21
        refine ⟨i + 1, [], _, ⟨rfl, rfl⟩, ?_⟩
        rw [List.append_nil]
        simp only [rdB_eq, flt, encT, e1] at h19 ⊢
        refine call_ret' K _ (fn := t15) rfl rfl ?_
        simp (config := { maxSteps := 4000000 }) (disch := omega) only [t15, go_sem, hix, h17, h19, h21, wrap_i64, storeV_c, storeC_eq]
      simp only [c39, ↓reduceIte]
      by_cases c34 : (c.toNat : Int) = 34
      · simp only [c34, ↓reduceIte]
        rw [show b.drop (i + 1) = l.drop 1 from (hdrop 1).symm] at r22 h22
        generalize textF n (l.drop 1) [] = q at *
        by_cases q0 : q.2.1 = 0
        · have := r22 q0
          subst this
          simp only [textV, q0, ↓reduceIte] at h22 ⊢
          refine ⟨i + 1 + q.1, G22, _, ⟨by omega, rfl⟩, ?_⟩
          generalize R ++ G22 = T at *
          simp only [rdB_eq, flt, encT] at h19 h22 ⊢
          generalize ((i + 1 + q.1 : Nat) : Int) = z at *
          refine call_ret' K _ (fn := t15) rfl rfl ?_
          simp (config := { maxSteps := 4000000 }) (disch := omega) only [t15, go_sem, hix, h17, h19, h22, wrap_i64, storeV_c, storeC_eq]
        · simp only [q0, ↓reduceIte]
          by_cases q2 : q.2.1 = 2
          · simp only [textV, q0, q2, ↓reduceIte, Nat.reduceEqDiff] at h22 ⊢
            refine ⟨i22, G22, .tup [.iv (.agg (encT ⟨7, i, 4, 0, [], i⟩)), .iv (flt 4 ((i + 1 + q.1 : Nat) : Int))], ⟨_, by simp only [Int.natCast_add, Int.cast_ofNat_Int]; rfl⟩, ?_⟩
            generalize R ++ G22 = T at *
            simp only [rdB_eq, flt, encT] at h19 h22 ⊢
            generalize ((i + 1 + q.1 : Nat) : Int) = z at *
            refine call_ret' K _ (fn := t15) rfl rfl ?_
            simp (config := { maxSteps := 4000000 }) (disch := omega) only [t15, go_sem, hix, h17, h19, h22, wrap_i64, storeV_c, storeC_eq]
          · simp only [textV, q0, q2, ↓reduceIte] at h22 ⊢
            refine ⟨i22, G22, .tup [.iv (.agg (encT ⟨7, i, 4, 0, [], i⟩)), .iv (flt 4 i)], ⟨_, rfl⟩, ?_⟩
            generalize R ++ G22 = T at *
            simp only [rdB_eq, flt, encT] at h19 h22 ⊢
            refine call_ret' K _ (fn := t15) rfl rfl ?_
            simp (config := { maxSteps := 4000000 }) (disch := omega) only [t15, go_sem, hix, h17, h19, h22, wrap_i64, storeV_c, storeC_eq]
      simp only [c34, ↓reduceIte]
      by_cases c35 : (c.toNat : Int) = 35
      · simp only [c35, ↓reduceIte]
        cases hmk : markL l i with
        | none =>
          rw [hmk] at r23
          obtain ⟨tk, rfl⟩ := r23
          refine ⟨i23, [], _, ⟨tk, rfl⟩, ?_⟩
          rw [List.append_nil]
          simp only [rdB_eq, flt, encT] at h19 h23 ⊢
          refine call_ret' K _ (fn := t15) rfl rfl ?_
          simp (config := { maxSteps := 4000000 }) (disch := omega) only [t15, go_sem, hix, h17, h19, h23, wrap_i64, storeV_c, storeC_eq]
        | some tm =>
          obtain ⟨tk, m⟩ := tm
          rw [hmk] at r23
          obtain ⟨rfl, rfl⟩ := r23
          have hm := hml tk m hmk
          by_cases k7 : tk.kind = 7
          · simp only [k7, ↓reduceIte]
            have h14 := tail (m) (by omega) R
            have hpk2 : ¬ b.length ≤ i + m → pk (l.drop (m)) = b.getD (i + m) 0 := fun h => by rw [hdrop, drop_cons (by omega)]; rfl
            have hdn : l.drop (m) = [] ↔ b.length ≤ i + m := by rw [hdrop, List.drop_eq_nil_iff]
            by_cases hend : b.length ≤ i + m
            · rw [decide_eq_true hend] at h14
              have hl : loose l i tk (m) = .tok tk (m) := by rw [loose, if_pos (.inl (hdn.2 hend))]
              rw [hl]
              refine ⟨i + m, [], _, ⟨rfl, rfl⟩, ?_⟩
              rw [List.append_nil]
              simp only [rdB_eq, flt, encT] at h14 h19 h23 ⊢
              generalize ((i + m : Nat) : Int) = z at *
              refine call_ret' K _ (fn := t15) rfl rfl ?_
              simp (config := { maxSteps := 4000000 }) (disch := omega) only [t15, go_sem, hix, h17, h19, h23, k7, h14, wrap_i64, storeV_c, storeC_eq]
            · rw [decide_eq_false hend] at h14
              have hix2 := ix_bytes (t := t) (l := b) (i := ((i + m : Nat) : Int)) (by omega)
              rw [Int.toNat_natCast] at hix2
              have h28 := call28 (b.getD (i + m) 0)
              have h27b := call27 ((i + m : Nat) : Int)
              cases hdel : isDel (b.getD (i + m) 0)
              · have hl : loose l i tk (m) = .bad 4 ((i : Int) + (m : Nat)) := by rw [loose, if_neg]; rintro (h | h); exact hend (hdn.1 h); rw [hpk2 hend, hdel] at h; cases h
                rw [hl]
                rw [hdel] at h28
                refine ⟨i + m, [], .tup [.iv (.agg (encT tk)), .iv (flt 4 ((i + m : Nat) : Int))], ⟨_, by simp only [Int.natCast_add]; rfl⟩, ?_⟩
                rw [List.append_nil]
                simp only [rdB_eq, flt, encT] at h14 h19 h23 ⊢
                generalize b.getD (i + m) 0 = c2 at *
                generalize ((i + m : Nat) : Int) = z at *
                refine call_ret' K _ (fn := t15) rfl rfl ?_
                simp (config := { maxSteps := 4000000 }) (disch := omega) only [t15, go_sem, hix, h17, h19, h23, k7, h14, hix2, h28, h27b, wrap_i64, storeV_c, storeC_eq]
              · have hl : loose l i tk (m) = .tok tk (m) := by rw [loose, if_pos]; right; rw [hpk2 hend]; exact hdel
                rw [hl]
                rw [hdel] at h28
                refine ⟨i + m, [], _, ⟨rfl, rfl⟩, ?_⟩
                rw [List.append_nil]
                simp only [rdB_eq, flt, encT] at h14 h19 h23 ⊢
                generalize b.getD (i + m) 0 = c2 at *
                generalize ((i + m : Nat) : Int) = z at *
                refine call_ret' K _ (fn := t15) rfl rfl ?_
                simp (config := { maxSteps := 4000000 }) (disch := omega) only [t15, go_sem, hix, h17, h19, h23, k7, h14, hix2, h28, wrap_i64, storeV_c, storeC_eq]
          · simp only [k7, ↓reduceIte]
            refine ⟨i + m, [], _, ⟨rfl, rfl⟩, ?_⟩
            rw [List.append_nil]
            have k7' : (tk.kind == 7) = false := by rw [beq_eq_false_iff_ne]; exact k7
            simp only [rdB_eq, flt, encT] at h19 h23 ⊢
            generalize ((i + m : Nat) : Int) = z at *
            refine call_ret' K _ (fn := t15) rfl rfl ?_
            simp (config := { maxSteps := 4000000 }) (disch := omega) only [t15, go_sem, hix, h17, h19, h23, k7', wrap_i64, storeV_c, storeC_eq]
      simp only [c35, ↓reduceIte]
      cases hsy : isSym c
      · rw [hsy] at h24
        simp only [Bool.false_eq_true, ↓reduceIte]
        refine ⟨i, [], .tup [.iv (.agg (encT zT)), .iv (flt 4 i)], ⟨_, rfl⟩, ?_⟩
        rw [List.append_nil]
        simp only [rdB_eq, flt, encT, zT] at h19 ⊢
        refine call_ret' K _ (fn := t15) rfl rfl ?_
        simp (config := { maxSteps := 4000000 }) (disch := omega) only [t15, go_sem, hix, h17, h19, h24, h27, wrap_i64, storeV_c, storeC_eq]
      · rw [hsy] at h24
        simp only [↓reduceIte]
        have hrun : runL l = c :: runL (b.drop (i + 1)) := by rw [hd, runL, List.takeWhile_cons, if_pos hsy]; rfl
        have h25 := call25 c (runL (b.drop (i + 1))) (by rw [← hrun]; omega) i
        rw [← hrun] at h25
        have hm : 1 ≤ (runL l).length ∧ (runL l).length ≤ b.length - i := ⟨by rw [hrun]; simp, hrl⟩
        generalize runL l = X at *
        generalize wordT X i = tk at *
        have h14 := tail (X.length) (by omega) R
        have hpk2 : ¬ b.length ≤ i + X.length → pk (l.drop (X.length)) = b.getD (i + X.length) 0 := fun h => by rw [hdrop, drop_cons (by omega)]; rfl
        have hdn : l.drop (X.length) = [] ↔ b.length ≤ i + X.length := by rw [hdrop, List.drop_eq_nil_iff]
        by_cases hend : b.length ≤ i + X.length
        · rw [decide_eq_true hend] at h14
          have hl : loose l i tk (X.length) = .tok tk (X.length) := by rw [loose, if_pos (.inl (hdn.2 hend))]
          rw [hl]
          refine ⟨i + X.length, [], _, ⟨rfl, rfl⟩, ?_⟩
          rw [List.append_nil]
          simp only [rdB_eq, flt, encT] at h14 h19 h25 h26 ⊢
          generalize ((i + X.length : Nat) : Int) = z at *
          refine call_ret' K _ (fn := t15) rfl rfl ?_
          simp (config := { maxSteps := 4000000 }) (disch := omega) only [t15, go_sem, hix, h17, h19, h24, h26, cpR_pure h25, h14, wrap_i64, storeV_c, storeC_eq]
        · rw [decide_eq_false hend] at h14
          have hix2 := ix_bytes (t := t) (l := b) (i := ((i + X.length : Nat) : Int)) (by omega)
          rw [Int.toNat_natCast] at hix2
          have h28 := call28 (b.getD (i + X.length) 0)
          have h27b := call27 ((i + X.length : Nat) : Int)
          cases hdel : isDel (b.getD (i + X.length) 0)
          · have hl : loose l i tk (X.length) = .bad 4 ((i : Int) + (X.length : Nat)) := by rw [loose, if_neg]; rintro (h | h); exact hend (hdn.1 h); rw [hpk2 hend, hdel] at h; cases h
            rw [hl]
            rw [hdel] at h28
            refine ⟨i + X.length, [], .tup [.iv (.agg (encT tk)), .iv (flt 4 ((i + X.length : Nat) : Int))], ⟨_, by simp only [Int.natCast_add]; rfl⟩, ?_⟩
            rw [List.append_nil]
            simp only [rdB_eq, flt, encT] at h14 h19 h25 h26 ⊢
            generalize b.getD (i + X.length) 0 = c2 at *
            generalize ((i + X.length : Nat) : Int) = z at *
            refine call_ret' K _ (fn := t15) rfl rfl ?_
            simp (config := { maxSteps := 4000000 }) (disch := omega) only [t15, go_sem, hix, h17, h19, h24, h26, cpR_pure h25, h14, hix2, h28, h27b, wrap_i64, storeV_c, storeC_eq]
          · have hl : loose l i tk (X.length) = .tok tk (X.length) := by rw [loose, if_pos]; right; rw [hpk2 hend]; exact hdel
            rw [hl]
            rw [hdel] at h28
            refine ⟨i + X.length, [], _, ⟨rfl, rfl⟩, ?_⟩
            rw [List.append_nil]
            simp only [rdB_eq, flt, encT] at h14 h19 h25 h26 ⊢
            generalize b.getD (i + X.length) 0 = c2 at *
            generalize ((i + X.length : Nat) : Int) = z at *
            refine call_ret' K _ (fn := t15) rfl rfl ?_
            simp (config := { maxSteps := 4000000 }) (disch := omega) only [t15, go_sem, hix, h17, h19, h24, h26, cpR_pure h25, h14, hix2, h28, wrap_i64, storeV_c, storeC_eq]
    · rw [hbg] at h19
      simp only [↓reduceIte]
      generalize nestF n l 0 = q at *
      unfold nestV at h20
      by_cases q0 : q.2 = 0
      · simp only [q0, ↓reduceIte] at h20 ⊢
        refine ⟨i + q.1, [], _, ⟨rfl, rfl⟩, ?_⟩
        rw [List.append_nil]
        simp only [rdB_eq, flt, encT, zT] at h19 h20 ⊢
        generalize ((i + q.1 : Nat) : Int) = z at *
        refine call_ret' K _ (fn := t15) rfl rfl ?_
        simp (config := { maxSteps := 4000000 }) (disch := omega) only [t15, go_sem, hix, h17, h19, h20, wrap_i64, storeV_c, storeC_eq]
      by_cases q1 : q.2 = 1
      · simp only [q0, q1, ↓reduceIte, Nat.one_ne_zero] at h20 ⊢
        refine ⟨i + q.1, [], .tup [.iv (.agg (encT zT)), .iv (flt 4 i)], ⟨_, rfl⟩, ?_⟩
        rw [List.append_nil]
        simp only [rdB_eq, flt, encT, zT] at h19 h20 ⊢
        generalize ((i + q.1 : Nat) : Int) = z at *
        refine call_ret' K _ (fn := t15) rfl rfl ?_
        simp (config := { maxSteps := 4000000 }) (disch := omega) only [t15, go_sem, hix, h17, h19, h20, wrap_i64, storeV_c, storeC_eq]
      by_cases q2 : q.2 = 2
      · simp only [q0, q1, q2, ↓reduceIte, Nat.reduceEqDiff] at h20 ⊢
        refine ⟨i + q.1, [], .tup [.iv (.agg (encT zT)), .iv (flt 4 ((i + q.1 : Nat) : Int))], ⟨_, by simp only [Int.natCast_add]; rfl⟩, ?_⟩
        rw [List.append_nil]
        simp only [rdB_eq, flt, encT, zT] at h19 h20 ⊢
        generalize ((i + q.1 : Nat) : Int) = z at *
        refine call_ret' K _ (fn := t15) rfl rfl ?_
        simp (config := { maxSteps := 4000000 }) (disch := omega) only [t15, go_sem, hix, h17, h19, h20, wrap_i64, storeV_c, storeC_eq]
      · simp only [q0, q1, q2, ↓reduceIte] at h20 ⊢
        refine ⟨i + q.1, [], .tup [.iv (.agg (encT zT)), .iv (flt 5 ((i + q.1 : Nat) : Int))], ⟨_, by simp only [Int.natCast_add]; rfl⟩, ?_⟩
        rw [List.append_nil]
        simp only [rdB_eq, flt, encT, zT] at h19 h20 ⊢
        generalize ((i + q.1 : Nat) : Int) = z at *
        refine call_ret' K _ (fn := t15) rfl rfl ?_
        simp (config := { maxSteps := 4000000 }) (disch := omega) only [t15, go_sem, hix, h17, h19, h20, wrap_i64, storeV_c, storeC_eq]
  · rw [hblk] at h17
    simp only [↓reduceIte]
    refine ⟨i + 1, [], _, ⟨rfl, rfl⟩, ?_⟩
    rw [List.append_nil]
    have e1 : ((i + 1 : Nat) : Int) = (i : Int) + 1 := by omega
    simp only [rdB_eq, flt, encT, zT, e1] at h19 ⊢
    refine call_ret' K _ (fn := t15) rfl rfl ?_
    simp (config := { maxSteps := 4000000 }) (disch := omega) only [t15, go_sem, hix, h17, h19, hblk, wrap_i64, storeV_c, storeC_eq]
end Go.Proofs.YtpngkgkobapioaaDoor
