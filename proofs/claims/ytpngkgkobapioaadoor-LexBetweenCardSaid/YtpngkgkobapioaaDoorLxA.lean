/- Lex: which bytes are what; what strings' functions make. Condition: none. -/
import Derived.Test.YtpngkgkobapioaaDoorLxU3
set_option maxRecDepth 100000
set_option maxHeartbeats 4000000
set_option linter.unusedSimpArgs false
set_option linter.unusedVariables false
namespace Go.Proofs.YtpngkgkobapioaaDoor
open Go Go.TM
def isDig (c : UInt8) : Bool := decide (48 ≤ (c.toNat : Int)) && decide ((c.toNat : Int) ≤ 57)
def isBlk (c : UInt8) : Bool := decide ((c.toNat : Int) = 32) || (decide (9 ≤ (c.toNat : Int)) && decide ((c.toNat : Int) ≤ 13) && ((c.toNat : Int) != 11))
def dels : List UInt8 := [40, 41, 34, 59, 39]
def syms : List UInt8 := [33, 36, 37, 38, 42, 47, 58, 60, 61, 62, 63, 94, 95, 126, 43, 45, 46, 64]
def hexs : List UInt8 := [48, 49, 50, 51, 52, 53, 54, 55, 56, 57, 97, 98, 99, 100, 101, 102]
def isDel (c : UInt8) : Bool := isBlk c || decide (0 ≤ Lib.indexByte dels c)
def isSym (c : UInt8) : Bool := (decide (97 ≤ (c.toNat : Int)) && decide ((c.toNat : Int) ≤ 122)) || ((decide (65 ≤ (c.toNat : Int)) && decide ((c.toNat : Int) ≤ 90)) || (isDig c || decide (0 ≤ Lib.indexByte syms c)))
theorem prV39 (S : Store) (s : List UInt8) (c : UInt8) : prV S (K.prim 39) [.iv (.str s), .iv (.int .u8 c.toNat)] = some (.iv (.int .i64 (Lib.indexByte s c)), S) := by
  show primIndex [.iv (.str s), .iv (.int .u8 c.toNat)] S = _
  have e : ((c.toNat : Int).toNat).toUInt8 = c := by rw [Int.toNat_natCast]; simp
  simp only [primIndex, e]
theorem call30 (s : List UInt8) (c : UInt8) : (lim K).call 30 [.iv (.str s), .iv (.int .u8 c.toNat)] [] = .ret (.iv (.int .i64 (Lib.indexByte s c)), []) := by
  have h := prV39 [] s c
  refine call_ret' K [] (fn := t30) rfl rfl ?_
  simp (disch := omega) only [t30, go_sem, h]
theorem call21 (s : List UInt8) (c : UInt8) : (lim K).call 21 [.iv (.str s), .iv (.int .u8 c.toNat)] [] = .ret (.iv (.int .i64 (Lib.indexByte s c)), []) := by
  have h := call30 s c
  refine call_ret' K [] (fn := t21) rfl rfl ?_
  simp (disch := omega) only [t21, go_sem, h]
theorem call36 (c : UInt8) : (lim K).call 36 [.iv (.int .u8 c.toNat)] [] = .ret (.iv (.bool (isDig c)), []) := by
  refine call_ret' K [] (fn := t36) rfl rfl ?_
  simp only [t36, go_sem]
  repeat' (first | (first | refine br_dec' (fun h => ?_) (fun h => ?_) | refine br_beq' (fun h => ?_) (fun h => ?_) | refine br_bne' (fun h => ?_) (fun h => ?_) | refine br_eq' (fun h => ?_) (fun h => ?_)) | simp (disch := omega) only [go_sem])
  all_goals (congr 4; simp [isDig, *])
theorem call17 (c : UInt8) : (lim K).call 17 [.iv (.int .u8 c.toNat)] [] = .ret (.iv (.bool (isBlk c)), []) := by
  refine call_ret' K [] (fn := t17) rfl rfl ?_
  simp only [isBlk]
  generalize (c.toNat : Int) = x at *
  simp only [t17, go_sem]
  repeat' (first | (first | refine br_dec' (fun h => ?_) (fun h => ?_) | refine br_beq' (fun h => ?_) (fun h => ?_) | refine br_bne' (fun h => ?_) (fun h => ?_) | refine br_eq' (fun h => ?_) (fun h => ?_)) | simp (disch := omega) only [go_sem])
  all_goals (congr 4; simp [*]; try omega)
theorem call24 (c : UInt8) : (lim K).call 24 [.iv (.int .u8 c.toNat)] [] = .ret (.iv (.bool (isSym c)), []) := by
  have h1 := call36 c
  have h2 := call21 syms c
  simp only [isSym]
  obtain ⟨i, hi⟩ : ∃ i, i = Lib.indexByte syms c := ⟨_, rfl⟩
  rw [← hi] at h2 ⊢
  simp only [syms] at h2
  generalize isDig c = d at *
  refine call_ret' K [] (fn := t24) rfl rfl ?_
  generalize (c.toNat : Int) = x at *
  cases d
  · simp only [t24, go_sem, h1, h2]
    repeat' (first | (first | refine br_dec' (fun h => ?_) (fun h => ?_) | refine br_beq' (fun h => ?_) (fun h => ?_) | refine br_bne' (fun h => ?_) (fun h => ?_) | refine br_eq' (fun h => ?_) (fun h => ?_)) | simp (disch := omega) only [go_sem, h1, h2])
    all_goals (congr 4; simp [*]; try omega)
  · simp only [t24, go_sem, h1, h2]
    repeat' (first | (first | refine br_dec' (fun h => ?_) (fun h => ?_) | refine br_beq' (fun h => ?_) (fun h => ?_) | refine br_bne' (fun h => ?_) (fun h => ?_) | refine br_eq' (fun h => ?_) (fun h => ?_)) | simp (disch := omega) only [go_sem, h1, h2])
    all_goals (congr 4; simp [*]; try omega)
theorem call28 (c : UInt8) : (lim K).call 28 [.iv (.int .u8 c.toNat)] [] = .ret (.iv (.bool (isDel c)), []) := by
  have h1 := call17 c
  have h2 := call21 dels c
  simp only [isDel]
  obtain ⟨i, hi⟩ : ∃ i, i = Lib.indexByte dels c := ⟨_, rfl⟩
  rw [← hi] at h2 ⊢
  simp only [dels] at h2
  generalize isBlk c = d at *
  refine call_ret' K [] (fn := t28) rfl rfl ?_
  generalize (c.toNat : Int) = x at *
  cases d
  · simp only [t28, go_sem, h1, h2]
    repeat' (first | (first | refine br_dec' (fun h => ?_) (fun h => ?_) | refine br_beq' (fun h => ?_) (fun h => ?_) | refine br_bne' (fun h => ?_) (fun h => ?_) | refine br_eq' (fun h => ?_) (fun h => ?_)) | simp (disch := omega) only [go_sem, h1, h2])
    all_goals (congr 4; simp [*])
  · simp only [t28, go_sem, h1, h2]
theorem call16 : (lim K).call 16 [] [] = .ret (.iv (.agg [.int .i64 0, .int .i64 0]), []) := by
  refine call_ret' K [] (fn := t16) rfl rfl ?_
  simp (disch := omega) only [t16, go_sem]
theorem call27 (p : Int) : (lim K).call 27 [.iv (.int .i64 p)] [] = .ret (.iv (.agg [.int .i64 4, .int .i64 p]), []) := by
  refine call_ret' K [] (fn := t27) rfl rfl ?_
  simp (disch := omega) only [t27, go_sem]
/-! ### strings -/
theorem ixs0 (c : UInt8) (r : List UInt8) (k : IntKind) : ixStr (.iv (.str (c :: r))) (.iv (.int k 0)) = some (.iv (.int .u8 c.toNat)) := by
  have := ixStr_ok (s := c :: r) (i := 0) (kd := k) (by simp)
  simpa using this
theorem sl1 (S : Store) (c : UInt8) (r : List UInt8) : sliceOp S .str (.iv (.str (c :: r))) (some 1) none none = some (.iv (.str r)) := by
  have := slice_str_lo S (s := c :: r) (a := 1) (by rw [List.length_cons]; omega)
  rw [this]; rfl
theorem loop50 (b : UInt8) (x2 : TV) : ∀ (s : List UInt8) (x3 : TV), s.length ≤ 100000000 → ∃ y3, lp' (lim K) t50L0 [.iv (.str s), .iv (.int .u8 b.toNat), x2, x3] [] = .ret (.exit 0, [.iv (.str (s.dropWhile (· == b))), .iv (.int .u8 b.toNat), x2, y3], [])
  | [], x3, hl => by
    refine ⟨?_, loop_at K _ _ t50L0.eq_1 ?_⟩
    rotate_left
    · simp (disch := omega) only [go_sem, List.length_nil, List.dropWhile_nil]
      rfl
  | c :: r, x3, hl => by
    have hlen : (c :: r).length = r.length + 1 := rfl
    rw [hlen] at hl
    have h1 := ixs0 c r
    have h2 := sl1 [] c r
    by_cases hc : c = b
    · obtain ⟨y3, ih⟩ := loop50 b x2 r (.iv (.bool true)) (by omega)
      refine ⟨y3, loop_at K _ _ t50L0.eq_1 ?_⟩
      have e : (c :: r).dropWhile (· == b) = r.dropWhile (· == b) := by rw [List.dropWhile_cons, if_pos (by simp [hc])]
      rw [e]
      subst hc
      simp (config := { maxSteps := 4000000 }) (disch := omega) only [go_sem, hlen, Int.natCast_add, Int.cast_ofNat_Int, h1, h2]
      exact congrArg er ih
    · have hne : ¬ (c.toNat : Int) = b.toNat := fun h => hc (UInt8.toNat_inj.1 (by omega))
      have e : (c :: r).dropWhile (· == b) = c :: r := by rw [List.dropWhile_cons, if_neg (by simp [hc])]
      refine ⟨?_, loop_at K _ _ t50L0.eq_1 ?_⟩
      rotate_left
      · rw [e]
        simp (config := { maxSteps := 4000000 }) (disch := omega) only [go_sem, hlen, Int.natCast_add, Int.cast_ofNat_Int, h1, h2]
        rfl
theorem call50 (b : UInt8) (s : List UInt8) (hl : s.length ≤ 100000000) : (lim K).call 50 [.iv (.str s), .iv (.int .u8 b.toNat)] [] = .ret (.iv (.str (s.dropWhile (· == b))), []) := by
  obtain ⟨y3, e⟩ := loop50 b (.iv (.str [])) s (.tup []) hl
  refine call_ret' K [] (fn := t50) rfl rfl ?_
  simp (disch := omega) only [t50, go_sem, e]
theorem call44 (s : List UInt8) (hl : s.length ≤ 100000000) : (lim K).call 44 [.iv (.str s), .iv (.str [48])] [] = .ret (.iv (.str (s.dropWhile (· == 48))), []) := by
  have h50 := call50 48 s hl
  rw [show ((48 : UInt8).toNat : Int) = 48 from rfl] at h50
  have hne : ([48] == ([] : List UInt8)) = false := rfl
  have h0 := ixs0 48 []
  rw [show ((48 : UInt8).toNat : Int) = 48 from rfl] at h0
  refine call_ret' K [] (fn := t44) rfl rfl ?_
  cases s with
  | nil => simp (config := { maxSteps := 4000000 }) (disch := omega) only [t44, go_sem, List.dropWhile_nil]
  | cons c r =>
    have hne2 : (c :: r == ([] : List UInt8)) = false := rfl
    generalize c :: r = s at *
    simp (config := { maxSteps := 4000000 }) (disch := omega) only [t44, go_sem, hne, hne2, List.length_cons, List.length_nil, h0, h50]
def digs : List UInt8 := [48, 49, 50, 51, 52, 53, 54, 55, 56, 57]
def digset : List IV := (List.range 256).map fun n => .bool (decide (48 ≤ n) && decide (n ≤ 57))
theorem run52 : (ex K 60).call 52 [.iv (.str digs)] [] = .ret (.tup [.iv (.agg digset), .iv (.bool true)], []) := by kernel_rfl
theorem call52 : (lim K).call 52 [.iv (.str digs)] [] = .ret (.tup [.iv (.agg digset), .iv (.bool true)], []) := lim_of run52
theorem digset_len : digset.length = 256 := by simp [digset]
theorem digset_get (n : Nat) (h : n < 256) : digset[n]? = some (.bool (decide (48 ≤ n) && decide (n ≤ 57))) := by simp [digset, h]
theorem isDig_eq (c : UInt8) : isDig c = (decide (48 ≤ c.toNat) && decide (c.toNat ≤ 57)) := by
  rw [Bool.eq_iff_iff]; simp [isDig]; omega
theorem call59 (c : UInt8) (b : Bool) (S : Store) (j : Nat) (h : S[j]? = some (.cells 86 b (digset.map TV.iv))) : (lim K).call 59 [.ptr j 86 0, .iv (.int .u8 c.toNat)] S = .ret (.iv (.bool (isDig c)), S) := by
  have hb := bl c
  have hbl : blK 86 (0 + (c.toNat : Int).toNat * 1) 1 (S[j]?) = some [.iv (.bool (isDig c))] := by
    rw [h]
    show (if (86 : Nat) = 86 then sub (digset.map TV.iv) (0 + (c.toNat : Int).toNat * 1) 1 else none) = _
    have hlt : c.toNat < (digset.map TV.iv).length := by rw [List.length_map, digset_len]; exact hb
    have e : (digset.map TV.iv)[c.toNat]? = some (.iv (.bool (isDig c))) := by
      rw [List.getElem?_map, digset_get _ hb, isDig_eq]; rfl
    rw [List.getElem?_eq_getElem hlt] at e
    simp only [↓reduceIte, Int.toNat_natCast, Nat.zero_add, Nat.mul_one, sub, show c.toNat + 1 ≤ (digset.map TV.iv).length from hlt]
    rw [List.drop_eq_getElem_cons hlt]
    simp only [List.take_succ_cons, List.take_zero]
    rw [Option.some.inj e]
  refine call_ret' K _ (fn := t59) rfl rfl ?_
  simp (config := { maxSteps := 4000000 }) (disch := omega) only [t59, go_sem, hbl]
theorem loop53 (b : Bool) (S : Store) (j : Nat) (h : S[j]? = some (.cells 86 b (digset.map .iv))) (x2 : TV) : ∀ (s : List UInt8) (x3 x4 : TV), s.length ≤ 100000000 → ∃ y3 y4, lp' (lim K) t53L0 [.iv (.str s), .ptr j 86 0, x2, x3, x4] S = .ret (.exit 0, [.iv (.str (s.dropWhile isDig)), .ptr j 86 0, x2, y3, y4], S)
  | [], x3, x4, hl => by
    refine ⟨?_, ?_, loop_at K _ _ t53L0.eq_1 ?_⟩
    rotate_left 2
    · simp (disch := omega) only [go_sem, List.length_nil, List.dropWhile_nil]
      rfl
  | c :: r, x3, x4, hl => by
    have h59 := call59 c b S j h
    have h1 := ixs0 c r
    have h2 := sl1 S c r
    have hlen : (c :: r).length = r.length + 1 := rfl
    rw [hlen] at hl
    by_cases hc : isDig c = true
    · obtain ⟨y3, y4, ih⟩ := loop53 b S j h x2 r (.iv (.bool true)) (.iv (.bool false)) (by omega)
      refine ⟨y3, y4, loop_at K _ _ t53L0.eq_1 ?_⟩
      rw [hc] at h59
      rw [List.dropWhile_cons, if_pos hc]
      simp (config := { maxSteps := 4000000 }) (disch := omega) only [go_sem, hlen, Int.natCast_add, Int.cast_ofNat_Int, h1, h59, h2]
      exact congrArg er ih
    · rw [List.dropWhile_cons, if_neg hc]
      rw [Bool.not_eq_true] at hc
      rw [hc] at h59
      refine ⟨?_, ?_, loop_at K _ _ t53L0.eq_1 ?_⟩
      rotate_left 2
      · simp (config := { maxSteps := 4000000 }) (disch := omega) only [go_sem, hlen, Int.natCast_add, Int.cast_ofNat_Int, h1, h59, h2]
        rfl
theorem call53 (b : Bool) (S : Store) (j : Nat) (h : S[j]? = some (.cells 86 b (digset.map .iv))) (s : List UInt8) (hl : s.length ≤ 100000000) : (lim K).call 53 [.iv (.str s), .ptr j 86 0] S = .ret (.iv (.str (s.dropWhile isDig)), S) := by
  obtain ⟨y3, y4, e⟩ := loop53 b S j h (.iv (.str [])) s (.tup []) (.tup []) hl
  refine call_ret' K _ (fn := t53) rfl rfl ?_
  simp (config := { maxSteps := 4000000 }) (disch := omega) only [t53, go_sem, e]
def trimR (s : List UInt8) : List UInt8 := (s.reverse.dropWhile isDig).reverse
theorem trimR_snoc (r : List UInt8) (c : UInt8) : trimR (r ++ [c]) = if isDig c then trimR r else r ++ [c] := by
  simp only [trimR, List.reverse_append, List.reverse_cons, List.reverse_nil, List.nil_append, List.singleton_append, List.dropWhile_cons]
  split <;> simp
theorem trimR_len (s : List UInt8) : (trimR s).length ≤ s.length := by
  have := (List.dropWhile_suffix (p := isDig) (l := s.reverse)).length_le
  simpa [trimR] using this
theorem loop54 (b : Bool) (S : Store) (j : Nat) (h : S[j]? = some (.cells 86 b (digset.map .iv))) (x2 : TV) : ∀ (n : Nat) (s : List UInt8) (x3 x4 : TV), s.length = n → s.length ≤ 100000000 → ∃ y3 y4, lp' (lim K) t54L0 [.iv (.str s), .ptr j 86 0, x2, x3, x4] S = .ret (.exit 0, [.iv (.str (trimR s)), .ptr j 86 0, x2, y3, y4], S)
  | 0, s, x3, x4, hn, hl => by
    obtain rfl : s = [] := List.length_eq_zero_iff.1 hn
    refine ⟨?_, ?_, loop_at K _ _ t54L0.eq_1 ?_⟩
    rotate_left 2
    · simp (disch := omega) only [go_sem, List.length_nil, show trimR [] = [] from rfl]
      rfl
  | n + 1, s, x3, x4, hn, hl => by
    obtain ⟨r, c, rfl⟩ : ∃ r c, s = r ++ [c] := by
      rcases List.eq_nil_or_concat s with rfl | ⟨r, c, rfl⟩
      · simp at hn
      · exact ⟨r, c, by simp⟩
    have h59 := call59 c b S j h
    have hlen : (r ++ [c]).length = r.length + 1 := by simp
    rw [hlen] at hl hn
    have h1 := ixStr_ok (s := r ++ [c]) (i := (r.length : Int)) (kd := .i64) (by rw [hlen]; omega)
    have hg : (r ++ [c]).getD (r.length : Int).toNat 0 = c := by simp [List.getD]
    rw [hg] at h1
    have h2 := slice_str_hi S (s := r ++ [c]) (b := (r.length : Int)) (by rw [hlen]; omega)
    rw [Int.toNat_natCast, List.take_left] at h2
    have e1 : (r.length : Int) + 1 - 1 = r.length := by omega
    rw [trimR_snoc]
    by_cases hc : isDig c = true
    · obtain ⟨y3, y4, ih⟩ := loop54 b S j h x2 n r (.iv (.bool true)) (.iv (.bool false)) (by omega) (by omega)
      refine ⟨y3, y4, loop_at K _ _ t54L0.eq_1 ?_⟩
      rw [hc] at h59
      rw [if_pos hc]
      simp (config := { maxSteps := 4000000 }) (disch := omega) only [go_sem, hlen, Int.natCast_add, Int.cast_ofNat_Int, e1, h1, h59, h2, wrap_i64]
      exact congrArg er ih
    · rw [if_neg hc]
      rw [Bool.not_eq_true] at hc
      rw [hc] at h59
      refine ⟨?_, ?_, loop_at K _ _ t54L0.eq_1 ?_⟩
      rotate_left 2
      · simp (config := { maxSteps := 4000000 }) (disch := omega) only [go_sem, hlen, Int.natCast_add, Int.cast_ofNat_Int, e1, h1, h59, h2, wrap_i64]
        rfl
theorem call54 (b : Bool) (S : Store) (j : Nat) (h : S[j]? = some (.cells 86 b (digset.map .iv))) (s : List UInt8) (hl : s.length ≤ 100000000) : (lim K).call 54 [.iv (.str s), .ptr j 86 0] S = .ret (.iv (.str (trimR s)), S) := by
  obtain ⟨y3, y4, e⟩ := loop54 b S j h (.iv (.str [])) s.length s (.tup []) (.tup []) rfl hl
  refine call_ret' K _ (fn := t54) rfl rfl ?_
  simp (config := { maxSteps := 4000000 }) (disch := omega) only [t54, go_sem, e]
def trimD (s : List UInt8) : List UInt8 := (trimR s).dropWhile isDig
theorem call43 (s : List UInt8) (hl : s.length ≤ 100000000) : Pure K 43 [.iv (.str s), .iv (.str digs)] (.iv (.str (trimD s))) := by
  cases s with
  | nil =>
    refine call_pure t43 rfl rfl ?_
    simp (config := { maxSteps := 4000000 }) (disch := omega) only [t43, go_sem, show trimD [] = [] from rfl, resB_ret, resO_some]
  | cons c r =>
    have h52 := call52
    have hne : (c :: r == ([] : List UInt8)) = false := rfl
    have hne2 : ([48, 49, 50, 51, 52, 53, 54, 55, 56, 57] == ([] : List UInt8)) = false := rfl
    have h53 := call53 false [.cells 86 false (digset.map TV.iv)] 0 rfl (trimR (c :: r)) (Nat.le_trans (trimR_len _) hl)
    have h54 := call54 false [.cells 86 false (digset.map TV.iv)] 0 rfl (c :: r) hl
    simp only [digs] at h52 ⊢
    refine call_pure t43 rfl rfl ?_
    simp (config := { maxSteps := 4000000 }) (disch := omega) only [t43, go_sem, h52, hne, hne2, List.length_cons, List.length_nil, resB_ret, resO_some]
    rw [List.drop_of_length_le (by rw [Nat.zero_add, List.length_map, digset_len]; exact Nat.le_refl 256)]
    have hany : (List.map TV.iv digset).any isRefL = false := any_ref (by kernel_rfl)
    have hle : (List.map TV.iv digset).length = 256 := by rw [List.length_map, digset_len]
    simp (config := { maxSteps := 4000000 }) (disch := omega) only [go_sem, hle, hany, Bool.false_eq_true, List.append_nil, h54, h53, trimD, resB_ret, resO_some]
end Go.Proofs.YtpngkgkobapioaaDoor
