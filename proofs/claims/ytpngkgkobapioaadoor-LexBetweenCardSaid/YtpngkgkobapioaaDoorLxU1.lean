/- Chars, and their bytes. Condition: none. -/
import Derived.Test.YtpngkgkobapioaaDoorTmProg
import Derived.Test.YtpngkgkobapioaaDoorTmE
set_option maxRecDepth 100000
set_option maxHeartbeats 8000000
set_option linter.unusedSimpArgs false
set_option linter.unusedVariables false
namespace Go.Proofs.YtpngkgkobapioaaDoor
open Go Go.TM
attribute [go_sem] beq_self_eq_true decT decF ifT ifF eqT eqF neT neF bytesIV_length one_length get_cp get_cp0 List.replicate List.cons_append List.nil_append decide_true decide_false
attribute [go_sem] Nat.reduceAdd Nat.reduceSub Nat.reduceMul Nat.reduceLT Nat.reduceLeDiff Nat.reduceEqDiff Nat.reduceBEq reduceIte reduceCtorEq Int.reduceEq Int.reduceLT Int.reduceLE Int.reduceAdd Int.reduceSub Int.reduceMul Int.reduceToNat Int.reduceNeg Int.reduceBEq Int.reduceBNe Int.reduceTDiv Int.reduceTMod Int.reducePow Nat.reducePow Nat.reduceDiv Nat.reduceMod Int.reduceMod Int.reduceDiv Int.reduceNe Int.reduceFDiv
def isC (c : Int) : Bool := decide (0 ≤ c) && decide (c ≤ 1114111) && (decide (c < 55296) || decide (57343 < c))
theorem isC_iff (c : Int) : isC c = true ↔ 0 ≤ c ∧ c ≤ 1114111 ∧ (c < 55296 ∨ 57343 < c) := by
  simp [isC]; omega
theorem call58 (c : Int) : (lim K).call 58 [.iv (.int .i32 c)] [] = .ret (.iv (.bool (isC c)), []) := by
  refine call_ret' K [] (fn := t58) rfl rfl ?_
  simp only [t58, go_sem]
  repeat' (first | (first | refine br_dec' (fun h => ?_) (fun h => ?_) | refine br_beq' (fun h => ?_) (fun h => ?_) | refine br_bne' (fun h => ?_) (fun h => ?_) | refine br_eq' (fun h => ?_) (fun h => ?_)) | simp (disch := omega) only [go_sem])
  all_goals (congr 4; simp [isC, *]; try omega)
theorem call47 (c : Int) : (lim K).call 47 [.iv (.int .i64 c)] [] = .ret (.iv (.bool (isC c)), []) := by
  refine call_ret' K [] (fn := t47) rfl rfl ?_
  simp only [t47, go_sem]
  repeat' (first | (first | refine br_dec' (fun h => ?_) (fun h => ?_) | refine br_beq' (fun h => ?_) (fun h => ?_) | refine br_bne' (fun h => ?_) (fun h => ?_) | refine br_eq' (fun h => ?_) (fun h => ?_)) | simp (disch := omega) only [go_sem, call58, wrap_i32])
  all_goals (congr 4; simp [isC, *])
  all_goals (try omega)
def bytes (c : Int) : List UInt8 := (Utf8.encode c).data.toList
def bytesR (c : Int) : List UInt8 :=
  if c < 128 then [UInt8.ofNat c.toNat]
  else if c < 2048 then [UInt8.ofNat (192 + c.toNat / 64), UInt8.ofNat (128 + c.toNat % 64)]
  else if c < 65536 then [UInt8.ofNat (224 + c.toNat / 4096), UInt8.ofNat (128 + c.toNat / 64 % 64), UInt8.ofNat (128 + c.toNat % 64)]
  else [UInt8.ofNat (240 + c.toNat / 262144), UInt8.ofNat (128 + c.toNat / 4096 % 64), UInt8.ofNat (128 + c.toNat / 64 % 64), UInt8.ofNat (128 + c.toNat % 64)]
theorem bytes_eq (c : Int) (h : isC c = true) : bytes c = bytesR c := by
  have hc := (isC_iff c).1 h
  have hv : Utf8.valid c = true := by simp [Utf8.valid]; omega
  simp only [bytes, Utf8.encode, hv, ↓reduceIte, bytesR]
  by_cases h1 : c < 128
  · have : c.toNat < 128 := by omega
    simp [h1, this]
  · by_cases h2 : c < 2048
    · have a : ¬ c.toNat < 128 := by omega
      have b : c.toNat < 2048 := by omega
      simp [h1, h2, a, b]
    · by_cases h3 : c < 65536
      · have a : ¬ c.toNat < 128 := by omega
        have b : ¬ c.toNat < 2048 := by omega
        have d : c.toNat < 65536 := by omega
        simp [h1, h2, h3, a, b, d]
      · have a : ¬ c.toNat < 128 := by omega
        have b : ¬ c.toNat < 2048 := by omega
        have d : ¬ c.toNat < 65536 := by omega
        simp [h1, h2, h3, a, b, d]
def tab (n : Nat) : Nat :=
  if n < 128 then 240 else if n < 194 then 241 else if n < 224 then 2 else if n = 224 then 19 else if n < 237 then 3 else if n = 237 then 35 else if n < 240 then 3 else if n = 240 then 52 else if n < 244 then 4 else if n = 244 then 68 else 241
theorem tab_all : (List.range 256).all (fun n => match g1[n]? with | some (.int .u8 m) => m == (tab n : Int) | _ => false) = true := by kernel_rfl
theorem tab_get {n : Nat} (h : n < 256) : g1[n]? = some (.int .u8 (tab n)) := by
  have := List.all_eq_true.1 tab_all n (List.mem_range.2 h)
  split at this
  · rename_i m e; rw [e]; simp at this; rw [this]
  · cases this
theorem hK0 : K.glob 1 = some g1 := rfl
theorem hK1 : K.glob 2 = some g2 := rfl
theorem g0_len : g1.length = 256 := by kernel_rfl
def fol (b : UInt8) : Bool := decide (128 ≤ b.toNat) && decide (b.toNat ≤ 191)
def D : List UInt8 → Nat × Nat
  | [] => (65533, 0)
  | a :: r =>
    if a.toNat < 128 then (a.toNat, 1)
    else if a.toNat < 194 then (65533, 1)
    else if a.toNat < 224 then match r with
      | b :: _ => if fol b then (a.toNat % 32 * 64 + b.toNat % 64, 2) else (65533, 1)
      | _ => (65533, 1)
    else if a.toNat < 240 then match r with
      | b :: c :: _ => if (decide ((if a.toNat = 224 then 160 else 128) ≤ b.toNat) && decide (b.toNat ≤ (if a.toNat = 237 then 159 else 191))) && fol c then (a.toNat % 16 * 4096 + b.toNat % 64 * 64 + c.toNat % 64, 3) else (65533, 1)
      | _ => (65533, 1)
    else if a.toNat < 245 then match r with
      | b :: c :: d :: _ => if (decide ((if a.toNat = 240 then 144 else 128) ≤ b.toNat) && decide (b.toNat ≤ (if a.toNat = 244 then 143 else 191))) && fol c && fol d then (a.toNat % 8 * 262144 + b.toNat % 64 * 4096 + c.toNat % 64 * 64 + d.toNat % 64, 4) else (65533, 1)
      | _ => (65533, 1)
    else (65533, 1)
theorem bl (b : UInt8) : b.toNat < 256 := b.toNat_lt
theorem cons_bytes (a : UInt8) (r : List UInt8) : bytesIV (a :: r) = [.int .u8 a.toNat] :: bytesIV r := rfl
theorem call57_nil (t : Tag) : (lim K).call 57 [.iv (.sl t (bytesIV []))] [] = .ret (.tup [.iv (.int .i32 65533), .iv (.int .i64 0)], []) := by
  refine call_ret' K [] (fn := t57) rfl rfl ?_
  simp (disch := omega) only [t57, go_sem]
theorem ixA0 {a : UInt8} : ixA 256 1 (.iv (.cp g1)) (.iv (.int .u8 a.toNat)) = some (.iv (.cp (g1.drop a.toNat))) := by
  have := bl a
  rw [ixA_int]
  have h : (0 : Int) ≤ (a.toNat : Int) ∧ (a.toNat : Int) < ((256 : Nat) : Int) := by omega
  simp only [h, and_self, ↓reduceIte, Int.toNat_natCast, Nat.mul_one]
  exact addOff_cp (by rw [g0_len]; omega)
theorem ld0 {a : UInt8} (env : Env) (S : Store) : getCells env S (.iv (.cp (g1.drop a.toNat))) 1 = some [.iv (.int .u8 (tab a.toNat))] := get_drop (tab_get (bl a))
theorem w2 : IntKind.u8.wrap (bAnd 8 2 7) = 2 := by decide
theorem w240 : IntKind.i32.wrap 515396075520 = 0 := by decide
theorem w240' : IntKind.i32.wrap 240 = 240 := by decide
theorem w241 : IntKind.i32.wrap 517543559168 = -2147483648 := by decide
theorem w241' : IntKind.i32.wrap 241 = 241 := by decide
theorem m0 : IntKind.i32.wrap (bAnd 32 65533 0) = 0 := by decide
theorem i32_or0 {a : Int} (h : 0 ≤ a ∧ a ≤ 2147483647) : IntKind.i32.wrap (bOr 32 a 0) = a := by
  have e : BitVec.ofInt 32 a ||| BitVec.ofInt 32 0 = BitVec.ofInt 32 a := by simp
  unfold bOr
  rw [e, ofInt_toNat ⟨h.1, by omega⟩, wrap_i32 (by omega)]
  omega
theorem m1 : IntKind.i32.wrap (bAnd 32 65533 (-1)) = 65533 := by decide
theorem o1 : IntKind.i32.wrap (bOr 32 0 65533) = 65533 := by decide
set_option maxHeartbeats 4000000 in
theorem c30_ascii (t : Tag) (a : UInt8) (r : List UInt8) (h1 : a.toNat < 128) : (lim K).call 57 [.iv (.sl t (bytesIV (a :: r)))] [] = .ret (.tup [.iv (.int .i32 a.toNat), .iv (.int .i64 1)], []) := by
  have ha := bl a
  refine call_ret' K [] (fn := t57) rfl rfl ?_
  have ht : tab a.toNat = 240 := by simp [tab]; omega
  simp (disch := omega) only [t57, go_sem, cons_bytes, Int.natCast_add, Int.cast_ofNat_Int, indexAddrS, hK0, hK1, ixA0, ld0, ht, w240, w240', ti32_andNot0, m0, wrap_i32, i32_or0]
set_option maxHeartbeats 4000000 in
theorem c30_bad (t : Tag) (a : UInt8) (r : List UInt8) (h1 : tab a.toNat = 241) : (lim K).call 57 [.iv (.sl t (bytesIV (a :: r)))] [] = .ret (.tup [.iv (.int .i32 65533), .iv (.int .i64 1)], []) := by
  have ha := bl a
  refine call_ret' K [] (fn := t57) rfl rfl ?_
  simp (disch := omega) only [t57, go_sem, cons_bytes, Int.natCast_add, Int.cast_ofNat_Int, indexAddrS, hK0, hK1, ixA0, ld0, h1, w241, w241', ti32_andNot1, m1, o1, wrap_i32]
theorem D_ascii (a : UInt8) (r : List UInt8) (h : a.toNat < 128) : D (a :: r) = (a.toNat, 1) := by simp [D, h]
theorem D_bad (a : UInt8) (r : List UInt8) (h : 128 ≤ a.toNat ∧ a.toNat < 194 ∨ 245 ≤ a.toNat) : D (a :: r) = (65533, 1) := by
  have h1 : ¬ a.toNat < 128 := by omega
  by_cases h2 : a.toNat < 194
  · simp [D, h1, h2]
  · have h3 : ¬ a.toNat < 224 := by omega
    have h4 : ¬ a.toNat < 240 := by omega
    have h5 : ¬ a.toNat < 245 := by omega
    simp [D, h1, h2, h3, h4, h5]
theorem D_two (a : UInt8) (r : List UInt8) (h : 194 ≤ a.toNat ∧ a.toNat < 224) : D (a :: r) = match r with
      | b :: _ => if fol b then (a.toNat % 32 * 64 + b.toNat % 64, 2) else (65533, 1)
      | _ => (65533, 1) := by
  have h1 : ¬ a.toNat < 128 := by omega
  have h2 : ¬ a.toNat < 194 := by omega
  simp only [D, h1, h2, h.2, ↓reduceIte]
theorem D_three (a : UInt8) (r : List UInt8) (h : 224 ≤ a.toNat ∧ a.toNat < 240) : D (a :: r) = match r with
      | b :: c :: _ => if (decide ((if a.toNat = 224 then 160 else 128) ≤ b.toNat) && decide (b.toNat ≤ (if a.toNat = 237 then 159 else 191))) && fol c then (a.toNat % 16 * 4096 + b.toNat % 64 * 64 + c.toNat % 64, 3) else (65533, 1)
      | _ => (65533, 1) := by
  have h1 : ¬ a.toNat < 128 := by omega
  have h2 : ¬ a.toNat < 194 := by omega
  have h3 : ¬ a.toNat < 224 := by omega
  simp only [D, h1, h2, h3, h.2, ↓reduceIte]
theorem D_four (a : UInt8) (r : List UInt8) (h : 240 ≤ a.toNat ∧ a.toNat < 245) : D (a :: r) = match r with
      | b :: c :: d :: _ => if (decide ((if a.toNat = 240 then 144 else 128) ≤ b.toNat) && decide (b.toNat ≤ (if a.toNat = 244 then 143 else 191))) && fol c && fol d then (a.toNat % 8 * 262144 + b.toNat % 64 * 4096 + c.toNat % 64 * 64 + d.toNat % 64, 4) else (65533, 1)
      | _ => (65533, 1) := by
  have h1 : ¬ a.toNat < 128 := by omega
  have h2 : ¬ a.toNat < 194 := by omega
  have h3 : ¬ a.toNat < 224 := by omega
  have h4 : ¬ a.toNat < 240 := by omega
  simp only [D, h1, h2, h3, h4, h.2, ↓reduceIte]
theorem fol_t {b : UInt8} (h : 128 ≤ b.toNat ∧ b.toNat ≤ 191) : fol b = true := by simp [fol]; omega
theorem fol_f {b : UInt8} (h : ¬ (128 ≤ b.toNat ∧ b.toNat ≤ 191)) : fol b = false := by simp [fol]; omega
theorem D2_ok (a b : UInt8) (r : List UInt8) (h : 194 ≤ a.toNat ∧ a.toNat < 224) (hb : 128 ≤ b.toNat ∧ b.toNat ≤ 191) : D (a :: b :: r) = (a.toNat % 32 * 64 + b.toNat % 64, 2) := by
  rw [D_two a _ h]; simp [fol_t hb]
theorem D2_no (a b : UInt8) (r : List UInt8) (h : 194 ≤ a.toNat ∧ a.toNat < 224) (hb : ¬ (128 ≤ b.toNat ∧ b.toNat ≤ 191)) : D (a :: b :: r) = (65533, 1) := by
  rw [D_two a _ h]; simp [fol_f hb]
theorem D3_ok (a b c : UInt8) (r : List UInt8) (h : 224 ≤ a.toNat ∧ a.toNat < 240) (hb : (a.toNat = 224 → 160 ≤ b.toNat) ∧ 128 ≤ b.toNat ∧ (a.toNat = 237 → b.toNat ≤ 159) ∧ b.toNat ≤ 191) (hc : 128 ≤ c.toNat ∧ c.toNat ≤ 191) : D (a :: b :: c :: r) = (a.toNat % 16 * 4096 + b.toNat % 64 * 64 + c.toNat % 64, 3) := by
  rw [D_three a _ h]
  have e1 : (if a.toNat = 224 then 160 else 128) ≤ b.toNat := by split <;> omega
  have e2 : b.toNat ≤ (if a.toNat = 237 then 159 else 191) := by split <;> omega
  simp only [fol_t hc, e1, e2, decide_true, Bool.and_self, ↓reduceIte]
theorem D3_no (a b c : UInt8) (r : List UInt8) (h : 224 ≤ a.toNat ∧ a.toNat < 240) (hb : ¬ ((a.toNat = 224 → 160 ≤ b.toNat) ∧ 128 ≤ b.toNat ∧ (a.toNat = 237 → b.toNat ≤ 159) ∧ b.toNat ≤ 191) ∨ ¬ (128 ≤ c.toNat ∧ c.toNat ≤ 191)) : D (a :: b :: c :: r) = (65533, 1) := by
  rw [D_three a _ h]
  simp only [fol, Bool.and_eq_true, decide_eq_true_eq]
  rw [if_neg]
  intro ⟨⟨h1, h2⟩, h3⟩
  split at h1 <;> split at h2 <;> omega
theorem D4_ok (a b c d : UInt8) (r : List UInt8) (h : 240 ≤ a.toNat ∧ a.toNat < 245) (hb : (a.toNat = 240 → 144 ≤ b.toNat) ∧ 128 ≤ b.toNat ∧ (a.toNat = 244 → b.toNat ≤ 143) ∧ b.toNat ≤ 191) (hc : 128 ≤ c.toNat ∧ c.toNat ≤ 191) (hd : 128 ≤ d.toNat ∧ d.toNat ≤ 191) : D (a :: b :: c :: d :: r) = (a.toNat % 8 * 262144 + b.toNat % 64 * 4096 + c.toNat % 64 * 64 + d.toNat % 64, 4) := by
  rw [D_four a _ h]
  have e1 : (if a.toNat = 240 then 144 else 128) ≤ b.toNat := by split <;> omega
  have e2 : b.toNat ≤ (if a.toNat = 244 then 143 else 191) := by split <;> omega
  simp only [fol_t hc, fol_t hd, e1, e2, decide_true, Bool.and_self, ↓reduceIte]
theorem D4_no (a b c d : UInt8) (r : List UInt8) (h : 240 ≤ a.toNat ∧ a.toNat < 245) (hb : ¬ ((a.toNat = 240 → 144 ≤ b.toNat) ∧ 128 ≤ b.toNat ∧ (a.toNat = 244 → b.toNat ≤ 143) ∧ b.toNat ≤ 191) ∨ ¬ (128 ≤ c.toNat ∧ c.toNat ≤ 191) ∨ ¬ (128 ≤ d.toNat ∧ d.toNat ≤ 191)) : D (a :: b :: c :: d :: r) = (65533, 1) := by
  rw [D_four a _ h]
  simp only [fol, Bool.and_eq_true, decide_eq_true_eq]
  rw [if_neg]
  intro ⟨⟨⟨h1, h2⟩, h3⟩, h4⟩
  split at h1 <;> split at h2 <;> omega
set_option maxHeartbeats 8000000 in
theorem c30_two (t : Tag) (a : UInt8) (r : List UInt8) (h1 : tab a.toNat = 2) (h2 : 194 ≤ a.toNat ∧ a.toNat < 224) : (lim K).call 57 [.iv (.sl t (bytesIV (a :: r)))] [] = .ret (.tup [.iv (.int .i32 (D (a :: r)).1), .iv (.int .i64 (D (a :: r)).2)], []) := by
  have ha := bl a
  refine call_ret' K [] (fn := t57) rfl rfl ?_
  have e0 : addOff (.iv (.cp g2)) 0 = some (.iv (.cp g2)) := rfl
  have e1 : ∀ env S, getCells env S (.iv (.cp g2)) 2 = some [.iv (.int .u8 128), .iv (.int .u8 191)] := fun _ _ => rfl
  have sz : IntKind.u8.wrap (bAnd 8 2 7) = 2 := by decide
  cases r with
  | nil =>
    simp (disch := omega) only [t57, go_sem, cons_bytes, Int.natCast_add, Int.cast_ofNat_Int, indexAddrS, hK0, hK1, ixA0, ld0, h1, wrap_i32, wrap_i64, e0, e1, sz, tu8_and31, tu8_and15, tu8_and7, tu8_and63, ti32_or6, ti32_or12, ti32_or18]
    repeat' (first | (first | refine br_dec' (fun h => ?_) (fun h => ?_) | refine br_beq' (fun h => ?_) (fun h => ?_) | refine br_bne' (fun h => ?_) (fun h => ?_) | refine br_eq' (fun h => ?_) (fun h => ?_)) | simp (disch := omega) only [go_sem, cons_bytes, Int.natCast_add, Int.cast_ofNat_Int, indexAddrS, hK0, hK1, ixA0, ld0, h1, wrap_i32, wrap_i64, e0, e1, sz, tu8_and31, tu8_and15, tu8_and7, tu8_and63, ti32_or6, ti32_or12, ti32_or18])
    all_goals (rw [D_two a _ (by omega)]; rfl)
  | cons b r =>
    have hb := bl b; simp (disch := omega) only [t57, go_sem, cons_bytes, Int.natCast_add, Int.cast_ofNat_Int, indexAddrS, hK0, hK1, ixA0, ld0, h1, wrap_i32, wrap_i64, e0, e1, sz, tu8_and31, tu8_and15, tu8_and7, tu8_and63, ti32_or6, ti32_or12, ti32_or18]
    repeat' (first | (first | refine br_dec' (fun h => ?_) (fun h => ?_) | refine br_beq' (fun h => ?_) (fun h => ?_) | refine br_bne' (fun h => ?_) (fun h => ?_) | refine br_eq' (fun h => ?_) (fun h => ?_)) | simp (disch := omega) only [go_sem, cons_bytes, Int.natCast_add, Int.cast_ofNat_Int, indexAddrS, hK0, hK1, ixA0, ld0, h1, wrap_i32, wrap_i64, e0, e1, sz, tu8_and31, tu8_and15, tu8_and7, tu8_and63, ti32_or6, ti32_or12, ti32_or18])
    all_goals (first | (rw [D2_no a b _ (by omega) (by omega)]; rfl) | (rw [D2_ok a b _ (by omega) (by omega)]; simp))
set_option maxHeartbeats 8000000 in
theorem c30_e0 (t : Tag) (a : UInt8) (r : List UInt8) (h1 : tab a.toNat = 19) (h2 : a.toNat = 224) : (lim K).call 57 [.iv (.sl t (bytesIV (a :: r)))] [] = .ret (.tup [.iv (.int .i32 (D (a :: r)).1), .iv (.int .i64 (D (a :: r)).2)], []) := by
  have ha := bl a
  refine call_ret' K [] (fn := t57) rfl rfl ?_
  have e0 : addOff (.iv (.cp g2)) 2 = some (.iv (.cp (g2.drop 2))) := rfl
  have e1 : ∀ env S, getCells env S (.iv (.cp (g2.drop 2))) 2 = some [.iv (.int .u8 160), .iv (.int .u8 191)] := fun _ _ => rfl
  have sz : IntKind.u8.wrap (bAnd 8 19 7) = 3 := by decide
  cases r with
  | nil =>
    simp (disch := omega) only [t57, go_sem, cons_bytes, Int.natCast_add, Int.cast_ofNat_Int, indexAddrS, hK0, hK1, ixA0, ld0, h1, wrap_i32, wrap_i64, e0, e1, sz, tu8_and31, tu8_and15, tu8_and7, tu8_and63, ti32_or6, ti32_or12, ti32_or18]
    repeat' (first | (first | refine br_dec' (fun h => ?_) (fun h => ?_) | refine br_beq' (fun h => ?_) (fun h => ?_) | refine br_bne' (fun h => ?_) (fun h => ?_) | refine br_eq' (fun h => ?_) (fun h => ?_)) | simp (disch := omega) only [go_sem, cons_bytes, Int.natCast_add, Int.cast_ofNat_Int, indexAddrS, hK0, hK1, ixA0, ld0, h1, wrap_i32, wrap_i64, e0, e1, sz, tu8_and31, tu8_and15, tu8_and7, tu8_and63, ti32_or6, ti32_or12, ti32_or18])
    all_goals (rw [D_three a _ (by omega)]; rfl)
  | cons b r =>
    cases r with
    | nil =>
      have hb := bl b; simp (disch := omega) only [t57, go_sem, cons_bytes, Int.natCast_add, Int.cast_ofNat_Int, indexAddrS, hK0, hK1, ixA0, ld0, h1, wrap_i32, wrap_i64, e0, e1, sz, tu8_and31, tu8_and15, tu8_and7, tu8_and63, ti32_or6, ti32_or12, ti32_or18]
      repeat' (first | (first | refine br_dec' (fun h => ?_) (fun h => ?_) | refine br_beq' (fun h => ?_) (fun h => ?_) | refine br_bne' (fun h => ?_) (fun h => ?_) | refine br_eq' (fun h => ?_) (fun h => ?_)) | simp (disch := omega) only [go_sem, cons_bytes, Int.natCast_add, Int.cast_ofNat_Int, indexAddrS, hK0, hK1, ixA0, ld0, h1, wrap_i32, wrap_i64, e0, e1, sz, tu8_and31, tu8_and15, tu8_and7, tu8_and63, ti32_or6, ti32_or12, ti32_or18])
      all_goals (rw [D_three a _ (by omega)]; rfl)
    | cons c r =>
      have hb := bl b; have hc := bl c; simp (disch := omega) only [t57, go_sem, cons_bytes, Int.natCast_add, Int.cast_ofNat_Int, indexAddrS, hK0, hK1, ixA0, ld0, h1, wrap_i32, wrap_i64, e0, e1, sz, tu8_and31, tu8_and15, tu8_and7, tu8_and63, ti32_or6, ti32_or12, ti32_or18]
      repeat' (first | (first | refine br_dec' (fun h => ?_) (fun h => ?_) | refine br_beq' (fun h => ?_) (fun h => ?_) | refine br_bne' (fun h => ?_) (fun h => ?_) | refine br_eq' (fun h => ?_) (fun h => ?_)) | simp (disch := omega) only [go_sem, cons_bytes, Int.natCast_add, Int.cast_ofNat_Int, indexAddrS, hK0, hK1, ixA0, ld0, h1, wrap_i32, wrap_i64, e0, e1, sz, tu8_and31, tu8_and15, tu8_and7, tu8_and63, ti32_or6, ti32_or12, ti32_or18])
      all_goals (first | (rw [D3_no a b c _ (by omega) (by omega)]; rfl) | (rw [D3_ok a b c _ (by omega) (by omega) (by omega)]; simp))
set_option maxHeartbeats 8000000 in
theorem c30_e1 (t : Tag) (a : UInt8) (r : List UInt8) (h1 : tab a.toNat = 3) (h2 : 224 < a.toNat ∧ a.toNat < 237 ∨ 237 < a.toNat ∧ a.toNat < 240) : (lim K).call 57 [.iv (.sl t (bytesIV (a :: r)))] [] = .ret (.tup [.iv (.int .i32 (D (a :: r)).1), .iv (.int .i64 (D (a :: r)).2)], []) := by
  have ha := bl a
  refine call_ret' K [] (fn := t57) rfl rfl ?_
  have e0 : addOff (.iv (.cp g2)) 0 = some (.iv (.cp g2)) := rfl
  have e1 : ∀ env S, getCells env S (.iv (.cp g2)) 2 = some [.iv (.int .u8 128), .iv (.int .u8 191)] := fun _ _ => rfl
  have sz : IntKind.u8.wrap (bAnd 8 3 7) = 3 := by decide
  cases r with
  | nil =>
    simp (disch := omega) only [t57, go_sem, cons_bytes, Int.natCast_add, Int.cast_ofNat_Int, indexAddrS, hK0, hK1, ixA0, ld0, h1, wrap_i32, wrap_i64, e0, e1, sz, tu8_and31, tu8_and15, tu8_and7, tu8_and63, ti32_or6, ti32_or12, ti32_or18]
    repeat' (first | (first | refine br_dec' (fun h => ?_) (fun h => ?_) | refine br_beq' (fun h => ?_) (fun h => ?_) | refine br_bne' (fun h => ?_) (fun h => ?_) | refine br_eq' (fun h => ?_) (fun h => ?_)) | simp (disch := omega) only [go_sem, cons_bytes, Int.natCast_add, Int.cast_ofNat_Int, indexAddrS, hK0, hK1, ixA0, ld0, h1, wrap_i32, wrap_i64, e0, e1, sz, tu8_and31, tu8_and15, tu8_and7, tu8_and63, ti32_or6, ti32_or12, ti32_or18])
    all_goals (rw [D_three a _ (by omega)]; rfl)
  | cons b r =>
    cases r with
    | nil =>
      have hb := bl b; simp (disch := omega) only [t57, go_sem, cons_bytes, Int.natCast_add, Int.cast_ofNat_Int, indexAddrS, hK0, hK1, ixA0, ld0, h1, wrap_i32, wrap_i64, e0, e1, sz, tu8_and31, tu8_and15, tu8_and7, tu8_and63, ti32_or6, ti32_or12, ti32_or18]
      repeat' (first | (first | refine br_dec' (fun h => ?_) (fun h => ?_) | refine br_beq' (fun h => ?_) (fun h => ?_) | refine br_bne' (fun h => ?_) (fun h => ?_) | refine br_eq' (fun h => ?_) (fun h => ?_)) | simp (disch := omega) only [go_sem, cons_bytes, Int.natCast_add, Int.cast_ofNat_Int, indexAddrS, hK0, hK1, ixA0, ld0, h1, wrap_i32, wrap_i64, e0, e1, sz, tu8_and31, tu8_and15, tu8_and7, tu8_and63, ti32_or6, ti32_or12, ti32_or18])
      all_goals (rw [D_three a _ (by omega)]; rfl)
    | cons c r =>
      have hb := bl b; have hc := bl c; simp (disch := omega) only [t57, go_sem, cons_bytes, Int.natCast_add, Int.cast_ofNat_Int, indexAddrS, hK0, hK1, ixA0, ld0, h1, wrap_i32, wrap_i64, e0, e1, sz, tu8_and31, tu8_and15, tu8_and7, tu8_and63, ti32_or6, ti32_or12, ti32_or18]
      repeat' (first | (first | refine br_dec' (fun h => ?_) (fun h => ?_) | refine br_beq' (fun h => ?_) (fun h => ?_) | refine br_bne' (fun h => ?_) (fun h => ?_) | refine br_eq' (fun h => ?_) (fun h => ?_)) | simp (disch := omega) only [go_sem, cons_bytes, Int.natCast_add, Int.cast_ofNat_Int, indexAddrS, hK0, hK1, ixA0, ld0, h1, wrap_i32, wrap_i64, e0, e1, sz, tu8_and31, tu8_and15, tu8_and7, tu8_and63, ti32_or6, ti32_or12, ti32_or18])
      all_goals (first | (rw [D3_no a b c _ (by omega) (by omega)]; rfl) | (rw [D3_ok a b c _ (by omega) (by omega) (by omega)]; simp))
set_option maxHeartbeats 8000000 in
theorem c30_ed (t : Tag) (a : UInt8) (r : List UInt8) (h1 : tab a.toNat = 35) (h2 : a.toNat = 237) : (lim K).call 57 [.iv (.sl t (bytesIV (a :: r)))] [] = .ret (.tup [.iv (.int .i32 (D (a :: r)).1), .iv (.int .i64 (D (a :: r)).2)], []) := by
  have ha := bl a
  refine call_ret' K [] (fn := t57) rfl rfl ?_
  have e0 : addOff (.iv (.cp g2)) 4 = some (.iv (.cp (g2.drop 4))) := rfl
  have e1 : ∀ env S, getCells env S (.iv (.cp (g2.drop 4))) 2 = some [.iv (.int .u8 128), .iv (.int .u8 159)] := fun _ _ => rfl
  have sz : IntKind.u8.wrap (bAnd 8 35 7) = 3 := by decide
  cases r with
  | nil =>
    simp (disch := omega) only [t57, go_sem, cons_bytes, Int.natCast_add, Int.cast_ofNat_Int, indexAddrS, hK0, hK1, ixA0, ld0, h1, wrap_i32, wrap_i64, e0, e1, sz, tu8_and31, tu8_and15, tu8_and7, tu8_and63, ti32_or6, ti32_or12, ti32_or18]
    repeat' (first | (first | refine br_dec' (fun h => ?_) (fun h => ?_) | refine br_beq' (fun h => ?_) (fun h => ?_) | refine br_bne' (fun h => ?_) (fun h => ?_) | refine br_eq' (fun h => ?_) (fun h => ?_)) | simp (disch := omega) only [go_sem, cons_bytes, Int.natCast_add, Int.cast_ofNat_Int, indexAddrS, hK0, hK1, ixA0, ld0, h1, wrap_i32, wrap_i64, e0, e1, sz, tu8_and31, tu8_and15, tu8_and7, tu8_and63, ti32_or6, ti32_or12, ti32_or18])
    all_goals (rw [D_three a _ (by omega)]; rfl)
  | cons b r =>
    cases r with
    | nil =>
      have hb := bl b; simp (disch := omega) only [t57, go_sem, cons_bytes, Int.natCast_add, Int.cast_ofNat_Int, indexAddrS, hK0, hK1, ixA0, ld0, h1, wrap_i32, wrap_i64, e0, e1, sz, tu8_and31, tu8_and15, tu8_and7, tu8_and63, ti32_or6, ti32_or12, ti32_or18]
      repeat' (first | (first | refine br_dec' (fun h => ?_) (fun h => ?_) | refine br_beq' (fun h => ?_) (fun h => ?_) | refine br_bne' (fun h => ?_) (fun h => ?_) | refine br_eq' (fun h => ?_) (fun h => ?_)) | simp (disch := omega) only [go_sem, cons_bytes, Int.natCast_add, Int.cast_ofNat_Int, indexAddrS, hK0, hK1, ixA0, ld0, h1, wrap_i32, wrap_i64, e0, e1, sz, tu8_and31, tu8_and15, tu8_and7, tu8_and63, ti32_or6, ti32_or12, ti32_or18])
      all_goals (rw [D_three a _ (by omega)]; rfl)
    | cons c r =>
      have hb := bl b; have hc := bl c; simp (disch := omega) only [t57, go_sem, cons_bytes, Int.natCast_add, Int.cast_ofNat_Int, indexAddrS, hK0, hK1, ixA0, ld0, h1, wrap_i32, wrap_i64, e0, e1, sz, tu8_and31, tu8_and15, tu8_and7, tu8_and63, ti32_or6, ti32_or12, ti32_or18]
      repeat' (first | (first | refine br_dec' (fun h => ?_) (fun h => ?_) | refine br_beq' (fun h => ?_) (fun h => ?_) | refine br_bne' (fun h => ?_) (fun h => ?_) | refine br_eq' (fun h => ?_) (fun h => ?_)) | simp (disch := omega) only [go_sem, cons_bytes, Int.natCast_add, Int.cast_ofNat_Int, indexAddrS, hK0, hK1, ixA0, ld0, h1, wrap_i32, wrap_i64, e0, e1, sz, tu8_and31, tu8_and15, tu8_and7, tu8_and63, ti32_or6, ti32_or12, ti32_or18])
      all_goals (first | (rw [D3_no a b c _ (by omega) (by omega)]; rfl) | (rw [D3_ok a b c _ (by omega) (by omega) (by omega)]; simp))
set_option maxHeartbeats 8000000 in
theorem c30_f0 (t : Tag) (a : UInt8) (r : List UInt8) (h1 : tab a.toNat = 52) (h2 : a.toNat = 240) : (lim K).call 57 [.iv (.sl t (bytesIV (a :: r)))] [] = .ret (.tup [.iv (.int .i32 (D (a :: r)).1), .iv (.int .i64 (D (a :: r)).2)], []) := by
  have ha := bl a
  refine call_ret' K [] (fn := t57) rfl rfl ?_
  have e0 : addOff (.iv (.cp g2)) 6 = some (.iv (.cp (g2.drop 6))) := rfl
  have e1 : ∀ env S, getCells env S (.iv (.cp (g2.drop 6))) 2 = some [.iv (.int .u8 144), .iv (.int .u8 191)] := fun _ _ => rfl
  have sz : IntKind.u8.wrap (bAnd 8 52 7) = 4 := by decide
  cases r with
  | nil =>
    simp (disch := omega) only [t57, go_sem, cons_bytes, Int.natCast_add, Int.cast_ofNat_Int, indexAddrS, hK0, hK1, ixA0, ld0, h1, wrap_i32, wrap_i64, e0, e1, sz, tu8_and31, tu8_and15, tu8_and7, tu8_and63, ti32_or6, ti32_or12, ti32_or18]
    repeat' (first | (first | refine br_dec' (fun h => ?_) (fun h => ?_) | refine br_beq' (fun h => ?_) (fun h => ?_) | refine br_bne' (fun h => ?_) (fun h => ?_) | refine br_eq' (fun h => ?_) (fun h => ?_)) | simp (disch := omega) only [go_sem, cons_bytes, Int.natCast_add, Int.cast_ofNat_Int, indexAddrS, hK0, hK1, ixA0, ld0, h1, wrap_i32, wrap_i64, e0, e1, sz, tu8_and31, tu8_and15, tu8_and7, tu8_and63, ti32_or6, ti32_or12, ti32_or18])
    all_goals (rw [D_four a _ (by omega)]; rfl)
  | cons b r =>
    cases r with
    | nil =>
      have hb := bl b; simp (disch := omega) only [t57, go_sem, cons_bytes, Int.natCast_add, Int.cast_ofNat_Int, indexAddrS, hK0, hK1, ixA0, ld0, h1, wrap_i32, wrap_i64, e0, e1, sz, tu8_and31, tu8_and15, tu8_and7, tu8_and63, ti32_or6, ti32_or12, ti32_or18]
      repeat' (first | (first | refine br_dec' (fun h => ?_) (fun h => ?_) | refine br_beq' (fun h => ?_) (fun h => ?_) | refine br_bne' (fun h => ?_) (fun h => ?_) | refine br_eq' (fun h => ?_) (fun h => ?_)) | simp (disch := omega) only [go_sem, cons_bytes, Int.natCast_add, Int.cast_ofNat_Int, indexAddrS, hK0, hK1, ixA0, ld0, h1, wrap_i32, wrap_i64, e0, e1, sz, tu8_and31, tu8_and15, tu8_and7, tu8_and63, ti32_or6, ti32_or12, ti32_or18])
      all_goals (rw [D_four a _ (by omega)]; rfl)
    | cons c r =>
      cases r with
      | nil =>
        have hb := bl b; have hc := bl c; simp (disch := omega) only [t57, go_sem, cons_bytes, Int.natCast_add, Int.cast_ofNat_Int, indexAddrS, hK0, hK1, ixA0, ld0, h1, wrap_i32, wrap_i64, e0, e1, sz, tu8_and31, tu8_and15, tu8_and7, tu8_and63, ti32_or6, ti32_or12, ti32_or18]
        repeat' (first | (first | refine br_dec' (fun h => ?_) (fun h => ?_) | refine br_beq' (fun h => ?_) (fun h => ?_) | refine br_bne' (fun h => ?_) (fun h => ?_) | refine br_eq' (fun h => ?_) (fun h => ?_)) | simp (disch := omega) only [go_sem, cons_bytes, Int.natCast_add, Int.cast_ofNat_Int, indexAddrS, hK0, hK1, ixA0, ld0, h1, wrap_i32, wrap_i64, e0, e1, sz, tu8_and31, tu8_and15, tu8_and7, tu8_and63, ti32_or6, ti32_or12, ti32_or18])
        all_goals (rw [D_four a _ (by omega)]; rfl)
      | cons d r =>
        have hb := bl b; have hc := bl c; have hd := bl d; simp (disch := omega) only [t57, go_sem, cons_bytes, Int.natCast_add, Int.cast_ofNat_Int, indexAddrS, hK0, hK1, ixA0, ld0, h1, wrap_i32, wrap_i64, e0, e1, sz, tu8_and31, tu8_and15, tu8_and7, tu8_and63, ti32_or6, ti32_or12, ti32_or18]
        repeat' (first | (first | refine br_dec' (fun h => ?_) (fun h => ?_) | refine br_beq' (fun h => ?_) (fun h => ?_) | refine br_bne' (fun h => ?_) (fun h => ?_) | refine br_eq' (fun h => ?_) (fun h => ?_)) | simp (disch := omega) only [go_sem, cons_bytes, Int.natCast_add, Int.cast_ofNat_Int, indexAddrS, hK0, hK1, ixA0, ld0, h1, wrap_i32, wrap_i64, e0, e1, sz, tu8_and31, tu8_and15, tu8_and7, tu8_and63, ti32_or6, ti32_or12, ti32_or18])
        all_goals (first | (rw [D4_no a b c d _ (by omega) (by omega)]; rfl) | (rw [D4_ok a b c d _ (by omega) (by omega) (by omega) (by omega)]; simp))
set_option maxHeartbeats 8000000 in
theorem c30_f1 (t : Tag) (a : UInt8) (r : List UInt8) (h1 : tab a.toNat = 4) (h2 : 240 < a.toNat ∧ a.toNat < 244) : (lim K).call 57 [.iv (.sl t (bytesIV (a :: r)))] [] = .ret (.tup [.iv (.int .i32 (D (a :: r)).1), .iv (.int .i64 (D (a :: r)).2)], []) := by
  have ha := bl a
  refine call_ret' K [] (fn := t57) rfl rfl ?_
  have e0 : addOff (.iv (.cp g2)) 0 = some (.iv (.cp g2)) := rfl
  have e1 : ∀ env S, getCells env S (.iv (.cp g2)) 2 = some [.iv (.int .u8 128), .iv (.int .u8 191)] := fun _ _ => rfl
  have sz : IntKind.u8.wrap (bAnd 8 4 7) = 4 := by decide
  cases r with
  | nil =>
    simp (disch := omega) only [t57, go_sem, cons_bytes, Int.natCast_add, Int.cast_ofNat_Int, indexAddrS, hK0, hK1, ixA0, ld0, h1, wrap_i32, wrap_i64, e0, e1, sz, tu8_and31, tu8_and15, tu8_and7, tu8_and63, ti32_or6, ti32_or12, ti32_or18]
    repeat' (first | (first | refine br_dec' (fun h => ?_) (fun h => ?_) | refine br_beq' (fun h => ?_) (fun h => ?_) | refine br_bne' (fun h => ?_) (fun h => ?_) | refine br_eq' (fun h => ?_) (fun h => ?_)) | simp (disch := omega) only [go_sem, cons_bytes, Int.natCast_add, Int.cast_ofNat_Int, indexAddrS, hK0, hK1, ixA0, ld0, h1, wrap_i32, wrap_i64, e0, e1, sz, tu8_and31, tu8_and15, tu8_and7, tu8_and63, ti32_or6, ti32_or12, ti32_or18])
    all_goals (rw [D_four a _ (by omega)]; rfl)
  | cons b r =>
    cases r with
    | nil =>
      have hb := bl b; simp (disch := omega) only [t57, go_sem, cons_bytes, Int.natCast_add, Int.cast_ofNat_Int, indexAddrS, hK0, hK1, ixA0, ld0, h1, wrap_i32, wrap_i64, e0, e1, sz, tu8_and31, tu8_and15, tu8_and7, tu8_and63, ti32_or6, ti32_or12, ti32_or18]
      repeat' (first | (first | refine br_dec' (fun h => ?_) (fun h => ?_) | refine br_beq' (fun h => ?_) (fun h => ?_) | refine br_bne' (fun h => ?_) (fun h => ?_) | refine br_eq' (fun h => ?_) (fun h => ?_)) | simp (disch := omega) only [go_sem, cons_bytes, Int.natCast_add, Int.cast_ofNat_Int, indexAddrS, hK0, hK1, ixA0, ld0, h1, wrap_i32, wrap_i64, e0, e1, sz, tu8_and31, tu8_and15, tu8_and7, tu8_and63, ti32_or6, ti32_or12, ti32_or18])
      all_goals (rw [D_four a _ (by omega)]; rfl)
    | cons c r =>
      cases r with
      | nil =>
        have hb := bl b; have hc := bl c; simp (disch := omega) only [t57, go_sem, cons_bytes, Int.natCast_add, Int.cast_ofNat_Int, indexAddrS, hK0, hK1, ixA0, ld0, h1, wrap_i32, wrap_i64, e0, e1, sz, tu8_and31, tu8_and15, tu8_and7, tu8_and63, ti32_or6, ti32_or12, ti32_or18]
        repeat' (first | (first | refine br_dec' (fun h => ?_) (fun h => ?_) | refine br_beq' (fun h => ?_) (fun h => ?_) | refine br_bne' (fun h => ?_) (fun h => ?_) | refine br_eq' (fun h => ?_) (fun h => ?_)) | simp (disch := omega) only [go_sem, cons_bytes, Int.natCast_add, Int.cast_ofNat_Int, indexAddrS, hK0, hK1, ixA0, ld0, h1, wrap_i32, wrap_i64, e0, e1, sz, tu8_and31, tu8_and15, tu8_and7, tu8_and63, ti32_or6, ti32_or12, ti32_or18])
        all_goals (rw [D_four a _ (by omega)]; rfl)
      | cons d r =>
        have hb := bl b; have hc := bl c; have hd := bl d; simp (disch := omega) only [t57, go_sem, cons_bytes, Int.natCast_add, Int.cast_ofNat_Int, indexAddrS, hK0, hK1, ixA0, ld0, h1, wrap_i32, wrap_i64, e0, e1, sz, tu8_and31, tu8_and15, tu8_and7, tu8_and63, ti32_or6, ti32_or12, ti32_or18]
        repeat' (first | (first | refine br_dec' (fun h => ?_) (fun h => ?_) | refine br_beq' (fun h => ?_) (fun h => ?_) | refine br_bne' (fun h => ?_) (fun h => ?_) | refine br_eq' (fun h => ?_) (fun h => ?_)) | simp (disch := omega) only [go_sem, cons_bytes, Int.natCast_add, Int.cast_ofNat_Int, indexAddrS, hK0, hK1, ixA0, ld0, h1, wrap_i32, wrap_i64, e0, e1, sz, tu8_and31, tu8_and15, tu8_and7, tu8_and63, ti32_or6, ti32_or12, ti32_or18])
        all_goals (first | (rw [D4_no a b c d _ (by omega) (by omega)]; rfl) | (rw [D4_ok a b c d _ (by omega) (by omega) (by omega) (by omega)]; simp))
set_option maxHeartbeats 8000000 in
theorem c30_f4 (t : Tag) (a : UInt8) (r : List UInt8) (h1 : tab a.toNat = 68) (h2 : a.toNat = 244) : (lim K).call 57 [.iv (.sl t (bytesIV (a :: r)))] [] = .ret (.tup [.iv (.int .i32 (D (a :: r)).1), .iv (.int .i64 (D (a :: r)).2)], []) := by
  have ha := bl a
  refine call_ret' K [] (fn := t57) rfl rfl ?_
  have e0 : addOff (.iv (.cp g2)) 8 = some (.iv (.cp (g2.drop 8))) := rfl
  have e1 : ∀ env S, getCells env S (.iv (.cp (g2.drop 8))) 2 = some [.iv (.int .u8 128), .iv (.int .u8 143)] := fun _ _ => rfl
  have sz : IntKind.u8.wrap (bAnd 8 68 7) = 4 := by decide
  cases r with
  | nil =>
    simp (disch := omega) only [t57, go_sem, cons_bytes, Int.natCast_add, Int.cast_ofNat_Int, indexAddrS, hK0, hK1, ixA0, ld0, h1, wrap_i32, wrap_i64, e0, e1, sz, tu8_and31, tu8_and15, tu8_and7, tu8_and63, ti32_or6, ti32_or12, ti32_or18]
    repeat' (first | (first | refine br_dec' (fun h => ?_) (fun h => ?_) | refine br_beq' (fun h => ?_) (fun h => ?_) | refine br_bne' (fun h => ?_) (fun h => ?_) | refine br_eq' (fun h => ?_) (fun h => ?_)) | simp (disch := omega) only [go_sem, cons_bytes, Int.natCast_add, Int.cast_ofNat_Int, indexAddrS, hK0, hK1, ixA0, ld0, h1, wrap_i32, wrap_i64, e0, e1, sz, tu8_and31, tu8_and15, tu8_and7, tu8_and63, ti32_or6, ti32_or12, ti32_or18])
    all_goals (rw [D_four a _ (by omega)]; rfl)
  | cons b r =>
    cases r with
    | nil =>
      have hb := bl b; simp (disch := omega) only [t57, go_sem, cons_bytes, Int.natCast_add, Int.cast_ofNat_Int, indexAddrS, hK0, hK1, ixA0, ld0, h1, wrap_i32, wrap_i64, e0, e1, sz, tu8_and31, tu8_and15, tu8_and7, tu8_and63, ti32_or6, ti32_or12, ti32_or18]
      repeat' (first | (first | refine br_dec' (fun h => ?_) (fun h => ?_) | refine br_beq' (fun h => ?_) (fun h => ?_) | refine br_bne' (fun h => ?_) (fun h => ?_) | refine br_eq' (fun h => ?_) (fun h => ?_)) | simp (disch := omega) only [go_sem, cons_bytes, Int.natCast_add, Int.cast_ofNat_Int, indexAddrS, hK0, hK1, ixA0, ld0, h1, wrap_i32, wrap_i64, e0, e1, sz, tu8_and31, tu8_and15, tu8_and7, tu8_and63, ti32_or6, ti32_or12, ti32_or18])
      all_goals (rw [D_four a _ (by omega)]; rfl)
    | cons c r =>
      cases r with
      | nil =>
        have hb := bl b; have hc := bl c; simp (disch := omega) only [t57, go_sem, cons_bytes, Int.natCast_add, Int.cast_ofNat_Int, indexAddrS, hK0, hK1, ixA0, ld0, h1, wrap_i32, wrap_i64, e0, e1, sz, tu8_and31, tu8_and15, tu8_and7, tu8_and63, ti32_or6, ti32_or12, ti32_or18]
        repeat' (first | (first | refine br_dec' (fun h => ?_) (fun h => ?_) | refine br_beq' (fun h => ?_) (fun h => ?_) | refine br_bne' (fun h => ?_) (fun h => ?_) | refine br_eq' (fun h => ?_) (fun h => ?_)) | simp (disch := omega) only [go_sem, cons_bytes, Int.natCast_add, Int.cast_ofNat_Int, indexAddrS, hK0, hK1, ixA0, ld0, h1, wrap_i32, wrap_i64, e0, e1, sz, tu8_and31, tu8_and15, tu8_and7, tu8_and63, ti32_or6, ti32_or12, ti32_or18])
        all_goals (rw [D_four a _ (by omega)]; rfl)
      | cons d r =>
        have hb := bl b; have hc := bl c; have hd := bl d; simp (disch := omega) only [t57, go_sem, cons_bytes, Int.natCast_add, Int.cast_ofNat_Int, indexAddrS, hK0, hK1, ixA0, ld0, h1, wrap_i32, wrap_i64, e0, e1, sz, tu8_and31, tu8_and15, tu8_and7, tu8_and63, ti32_or6, ti32_or12, ti32_or18]
        repeat' (first | (first | refine br_dec' (fun h => ?_) (fun h => ?_) | refine br_beq' (fun h => ?_) (fun h => ?_) | refine br_bne' (fun h => ?_) (fun h => ?_) | refine br_eq' (fun h => ?_) (fun h => ?_)) | simp (disch := omega) only [go_sem, cons_bytes, Int.natCast_add, Int.cast_ofNat_Int, indexAddrS, hK0, hK1, ixA0, ld0, h1, wrap_i32, wrap_i64, e0, e1, sz, tu8_and31, tu8_and15, tu8_and7, tu8_and63, ti32_or6, ti32_or12, ti32_or18])
        all_goals (first | (rw [D4_no a b c d _ (by omega) (by omega)]; rfl) | (rw [D4_ok a b c d _ (by omega) (by omega) (by omega) (by omega)]; simp))
end Go.Proofs.YtpngkgkobapioaaDoor
