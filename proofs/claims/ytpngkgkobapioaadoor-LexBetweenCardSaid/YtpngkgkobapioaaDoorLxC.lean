/- Lex: hex numbers, integers, words. Condition: none. -/
import Derived.Test.YtpngkgkobapioaaDoorLxB
set_option maxRecDepth 100000
set_option maxHeartbeats 4000000
set_option linter.unusedSimpArgs false
set_option linter.unusedVariables false
namespace Go.Proofs.YtpngkgkobapioaaDoor
open Go Go.TM
theorem or32_all : (List.range 256).all (fun n => IntKind.u8.wrap (bOr 8 (n : Int) 32) == ((n ||| 32 : Nat) : Int)) = true := by kernel_rfl
theorem or32 (c : UInt8) : IntKind.u8.wrap (bOr 8 (c.toNat : Int) 32) = ((c ||| 32).toNat : Int) := by
  have := List.all_eq_true.1 or32_all c.toNat (List.mem_range.2 (bl c))
  rw [UInt8.toNat_or]
  simpa using this
theorem min_i64 (a b : Int) : minmax false (.int .i64 a) [.iv (.int .i64 b)] = some (.int .i64 (if b < a then b else a)) := by
  simp only [minmax, min2, ↓reduceIte, Bool.false_eq_true]
def hexF : List UInt8 → Int → Option Int
  | [], n => some n
  | c :: r, n => if Lib.indexByte hexs (c ||| 32) < 0 ∨ (c.toNat : Int) < 48 then none else hexF r (if 16777216 < 16 * n + Lib.indexByte hexs (c ||| 32) then 16777216 else 16 * n + Lib.indexByte hexs (c ||| 32))
theorem hexF_le : ∀ (s : List UInt8) (n m : Int), 0 ≤ n ∧ n ≤ 16777216 → hexF s n = some m → 0 ≤ m ∧ m ≤ 16777216
  | [], n, m, h, e => by simp only [hexF, Option.some.injEq] at e; omega
  | c :: r, n, m, h, e => by
    rw [hexF] at e
    split at e
    · cases e
    · refine hexF_le r _ m ?_ e
      split <;> omega
def hexN (s : List UInt8) : Int := (hexF s 0).getD 0
def hexO (s : List UInt8) : Bool := match hexF s 0 with
  | none => false
  | some n => (s != []) && isC n
theorem idx_le (l : List UInt8) (c : UInt8) : Lib.indexByte l c ≤ l.length := by
  induction l with
  | nil => simp [Lib.indexByte]
  | cons b l ih =>
    rw [Lib.indexByte, List.length_cons]
    repeat' split
    all_goals omega
theorem loop40 (s : List UInt8) (hl : s.length ≤ 100000000) (x0 : TV) : ∀ (k i : Nat) (n : Int) (x4 x5 x9 x10 : TV), i + k = s.length → 0 ≤ n ∧ n ≤ 16777216 →
    ∃ j m y4 y5 y8 y9 y10, (hexF (s.drop i) n = none → j = .ret) ∧ (∀ m', hexF (s.drop i) n = some m' → j = .exit 0 ∧ m = m') ∧ lp' (lim K) t40L0 [x0, .iv (.int .i32 0), .iv (.bool false), .iv (.int .i64 n), x4, x5, .iv (.sl .no (bytesIV s)), .iv (.int .i64 s.length), .iv (.int .i64 i), x9, x10] [] = .ret (j, [x0, .iv (.int .i32 0), .iv (.bool false), .iv (.int .i64 m), y4, y5, .iv (.sl .no (bytesIV s)), .iv (.int .i64 s.length), y8, y9, y10], [])
  | 0, i, n, x4, x5, x9, x10, h, hn => by
    obtain rfl : i = s.length := by omega
    rw [List.drop_length]
    refine ⟨.exit 0, n, ?_, ?_, ?_, ?_, ?_, ?_, (fun m' e => ⟨rfl, by simpa [hexF] using e⟩), loop_at K _ _ t40L0.eq_1 ?_⟩
    rotate_left 6
    · simp (disch := omega) only [go_sem]
      rfl
    · intro e; simp [hexF] at e
  | k + 1, i, n, x4, x5, x9, x10, h, hn => by
    have hix := ix_bytes (t := .no) (l := s) (i := (i : Int)) (by omega)
    rw [Int.toNat_natCast] at hix
    rw [drop_cons (b := s) (i := i) (by omega), hexF]
    have h21 := call21 hexs (s.getD i 0 ||| 32)
    have ho := or32 (s.getD i 0)
    have hge := Lib.indexByte_ge hexs (s.getD i 0 ||| 32)
    have hle := idx_le hexs (s.getD i 0 ||| 32)
    rw [show hexs.length = 16 from rfl] at hle
    obtain ⟨d, hd⟩ : ∃ d, d = Lib.indexByte hexs (s.getD i 0 ||| 32) := ⟨_, rfl⟩
    rw [← hd] at h21 hge hle ⊢
    simp only [hexs] at h21
    generalize s.getD i 0 = c at *
    by_cases hbad : d < 0 ∨ (c.toNat : Int) < 48
    · rw [if_pos hbad]
      refine ⟨.ret, n, ?_, ?_, ?_, ?_, ?_, fun _ => rfl, (fun m' e => by cases e), loop_at K _ _ t40L0.eq_1 ?_⟩
      rotate_left 5
      · by_cases hd0 : d < 0
        · simp (config := { maxSteps := 4000000 }) (disch := omega) only [go_sem, hix, ho, h21, wrap_i64]
          rfl
        · simp (config := { maxSteps := 4000000 }) (disch := omega) only [go_sem, hix, ho, h21, wrap_i64]
    · rw [if_neg hbad]
      have hmin := min_i64 (16 * n + d) 16777216
      obtain ⟨q, hq⟩ : ∃ q, q = if 16777216 < 16 * n + d then 16777216 else 16 * n + d := ⟨_, rfl⟩
      have hq2 : 0 ≤ q ∧ q ≤ 16777216 := by rw [hq]; split <;> omega
      rw [← hq] at hmin ⊢
      obtain ⟨j, m, y4, y5, y8, y9, y10, r1, r2, ih⟩ := loop40 s hl x0 k (i + 1) q (.iv (.int .u8 c.toNat)) (.iv (.int .i64 d)) (.iv (.bool true)) (.iv (.bool false)) (by omega) hq2
      refine ⟨j, m, y4, y5, y8, y9, y10, r1, r2, loop_at K _ _ t40L0.eq_1 ?_⟩
      have hm2 : mmV false [.iv (.int .i64 (16 * n + d)), .iv (.int .i64 16777216)] = some (.iv (.int .i64 q)) := by simp only [mmV, hmin, Option.map_some]
      simp (config := { maxSteps := 4000000 }) (disch := omega) only [go_sem, hix, ho, h21, hm2, wrap_i64, Int.natCast_add, Int.cast_ofNat_Int] at ih ⊢
      exact congrArg er ih
theorem strB (s : List UInt8) (hl : s.length ≤ 100000000) : convOp .strBytes (.iv (.str s)) = some (.sl .no (bytesIV s)) := by
  have : s.length ≤ 70368744177664 := by omega
  simp only [convOp, this, ↓reduceIte]
theorem call40 (s : List UInt8) (hl : s.length ≤ 100000000) : (lim K).call 40 [.iv (.str s)] [] = .ret (.tup [.iv (.int .i32 (hexN s)), .iv (.bool (hexO s))], []) := by
  obtain ⟨j, m, y4, y5, y8, y9, y10, r1, r2, e⟩ := loop40 s hl (.iv (.str s)) s.length 0 0 (.tup []) (.tup []) (.tup []) (.tup []) (by omega) (by omega)
  rw [show ((0 : Nat) : Int) = 0 from rfl] at e
  rw [List.drop_zero] at r1 r2
  have hc := strB s hl
  refine call_ret' K [] (fn := t40) rfl rfl ?_
  simp only [hexN, hexO]
  cases hx : hexF s 0 with
  | none =>
    obtain rfl := r1 hx
    simp (config := { maxSteps := 4000000 }) (disch := omega) only [t40, go_sem, hc, e, Option.getD_none]
  | some n =>
    obtain ⟨rfl, rfl⟩ := r2 n hx
    have hn := hexF_le s 0 m (by omega) hx
    have h47 := call47 m
    have hb : (s != ([] : List UInt8)) = !(s == ([] : List UInt8)) := rfl
    rw [hb]
    cases hs : (s == ([] : List UInt8))
    · simp (config := { maxSteps := 4000000 }) (disch := omega) only [t40, go_sem, hc, e, h47, hs, Option.getD_some, wrap_i32]
    · simp (config := { maxSteps := 4000000 }) (disch := omega) only [t40, go_sem, hc, e, h47, hs, Option.getD_some, wrap_i32]
/-! ### Integers -/
def dgsOf : List UInt8 → List UInt8
  | [] => []
  | c :: r => if (c.toNat : Int) = 43 ∨ (c.toNat : Int) = 45 then r else c :: r
def intL (run : List UInt8) : Option (List UInt8) :=
  if dgsOf run = [] ∨ trimD (dgsOf run) ≠ [] then none
  else if (dgsOf run).dropWhile (· == 48) = [] then some [48]
  else if ((run.headD 0).toNat : Int) = 45 then some (45 :: (dgsOf run).dropWhile (· == 48))
  else some ((dgsOf run).dropWhile (· == 48))
theorem beqN {l : List UInt8} (h : l ≠ []) : (l == ([] : List UInt8)) = false := by
  cases l with
  | nil => exact absurd rfl h
  | cons a l => rfl
theorem sadd (a b : List UInt8) (h : a.length + b.length ≤ 1000000000) : strOp .add a b = some (.str (a ++ b)) := by
  have : a.length + b.length ≤ 4611686018427387904 := by omega
  simp only [strOp, this, ↓reduceIte]
theorem call37 (c : UInt8) (r : List UInt8) (hl : (c :: r).length ≤ 16777216) : Pure K 37 [.iv (.str (c :: r))] (.tup [.iv (.str ((intL (c :: r)).getD [])), .iv (.bool (intL (c :: r)).isSome)]) := by
  have hlen : (c :: r).length = r.length + 1 := rfl
  have h0 := ixs0 c r
  have h1 := sl1 [] c r
  have hdl : (dgsOf (c :: r)).length ≤ r.length + 1 := by rw [dgsOf]; split <;> simp
  have h43 := call43 (dgsOf (c :: r)) (by omega)
  have h44 := call44 (dgsOf (c :: r)) (by omega)
  have hdw : ((dgsOf (c :: r)).dropWhile (· == 48)).length ≤ (dgsOf (c :: r)).length := (List.dropWhile_suffix _).length_le
  have hsa := sadd [45] ((dgsOf (c :: r)).dropWhile (· == 48)) (by simp only [List.length_cons, List.length_nil]; omega)
  rw [List.singleton_append] at hsa
  simp only [digs] at h43
  refine call_pure t37 rfl rfl ?_
  have hd : dgsOf (c :: r) = if (c.toNat : Int) = 43 ∨ (c.toNat : Int) = 45 then r else c :: r := rfl
  have hh : (((c :: r).headD 0).toNat : Int) = (c.toNat : Int) := rfl
  simp only [intL, hh]
  -- the digits
  have step : ∀ X : List UInt8, (X = if (c.toNat : Int) = 43 ∨ (c.toNat : Int) = 45 then r else c :: r) → X = dgsOf (c :: r) := fun X h => h.trans hd.symm
  by_cases hn : dgsOf (c :: r) = []
  · rw [if_pos (.inl hn)]
    have hs : ((c.toNat : Int) = 43 ∨ (c.toNat : Int) = 45) ∧ r = [] := by
      rw [hd] at hn
      split at hn
      · exact ⟨by assumption, hn⟩
      · cases hn
    obtain ⟨hs, rfl⟩ := hs
    by_cases h4 : (c.toNat : Int) = 43
    · simp (config := { maxSteps := 4000000 }) (disch := omega) only [t37, go_sem, h0, h1, h4, Option.getD_none, Option.isSome_none, resB_ret, resO_some]
    · simp (config := { maxSteps := 4000000 }) (disch := omega) only [t37, go_sem, h0, h1, Option.getD_none, Option.isSome_none, resB_ret, resO_some]
  · have hne := beqN hn
    by_cases ht : trimD (dgsOf (c :: r)) = []
    · rw [if_neg (by rintro (h | h); exact hn h; exact h ht)]
      rw [ht] at h43
      by_cases hz : (dgsOf (c :: r)).dropWhile (· == 48) = []
      · rw [if_pos hz]
        rw [hz] at h44
        by_cases h4 : (c.toNat : Int) = 43
        · rw [hd, if_pos (.inl h4)] at h43 h44 hne
          simp (config := { maxSteps := 4000000 }) (disch := omega) only [t37, go_sem, h0, h1, cpR_pure h43, h44, hne, Option.getD_some, Option.isSome_some, resB_ret, resO_some]
        · by_cases h5 : (c.toNat : Int) = 45
          · rw [hd, if_pos (.inr h5)] at h43 h44 hne
            simp (config := { maxSteps := 4000000 }) (disch := omega) only [t37, go_sem, h0, h1, cpR_pure h43, h44, hne, Option.getD_some, Option.isSome_some, resB_ret, resO_some]
          · rw [hd, if_neg (by omega)] at h43 h44 hne
            simp (config := { maxSteps := 4000000 }) (disch := omega) only [t37, go_sem, h0, h1, cpR_pure h43, h44, hne, Option.getD_some, Option.isSome_some, resB_ret, resO_some]
      · rw [if_neg hz]
        have hzn := beqN hz
        generalize hD : (dgsOf (c :: r)).dropWhile (· == 48) = W at *
        by_cases h4 : (c.toNat : Int) = 43
        · rw [if_neg (by omega)]
          rw [hd, if_pos (.inl h4)] at h43 h44 hne
          simp (config := { maxSteps := 4000000 }) (disch := omega) only [t37, go_sem, h0, h1, cpR_pure h43, h44, hne, hzn, Option.getD_some, Option.isSome_some, resB_ret, resO_some]
        · by_cases h5 : (c.toNat : Int) = 45
          · rw [if_pos h5]
            rw [hd, if_pos (.inr h5)] at h43 h44 hne
            simp (config := { maxSteps := 4000000 }) (disch := omega) only [t37, go_sem, h0, h1, cpR_pure h43, h44, hne, hzn, hsa, Option.getD_some, Option.isSome_some, resB_ret, resO_some]
          · rw [if_neg h5]
            rw [hd, if_neg (by omega)] at h43 h44 hne
            simp (config := { maxSteps := 4000000 }) (disch := omega) only [t37, go_sem, h0, h1, cpR_pure h43, h44, hne, hzn, Option.getD_some, Option.isSome_some, resB_ret, resO_some]
    · rw [if_pos (.inr ht)]
      have htn := beqN ht
      generalize trimD (dgsOf (c :: r)) = T at *
      by_cases h4 : (c.toNat : Int) = 43
      · rw [hd, if_pos (.inl h4)] at h43 hne
        simp (config := { maxSteps := 4000000 }) (disch := omega) only [t37, go_sem, h0, h1, cpR_pure h43, hne, htn, Option.getD_none, Option.isSome_none, resB_ret, resO_some]
      · by_cases h5 : (c.toNat : Int) = 45
        · rw [hd, if_pos (.inr h5)] at h43 hne
          simp (config := { maxSteps := 4000000 }) (disch := omega) only [t37, go_sem, h0, h1, cpR_pure h43, hne, htn, Option.getD_none, Option.isSome_none, resB_ret, resO_some]
        · rw [hd, if_neg (by omega)] at h43 hne
          simp (config := { maxSteps := 4000000 }) (disch := omega) only [t37, go_sem, h0, h1, cpR_pure h43, hne, htn, Option.getD_none, Option.isSome_none, resB_ret, resO_some]
structure Tk where
  kind : Int
  pos : Int
  dk : Int
  n : Int
  text : List UInt8
  dpos : Int
def encT (t : Tk) : List IV := [.int .i64 t.kind, .int .i64 t.pos, .int .i64 t.dk, .int .i64 t.n, .str t.text, .sl .nil [], .int .i64 t.dpos]
def wordT (run : List UInt8) (p : Int) : Tk :=
  if run = [46] then ⟨6, p, 0, 0, [], 0⟩
  else match intL run with
    | some s => ⟨7, p, 2, 0, s, p⟩
    | none => ⟨7, p, 5, 0, run, p⟩
theorem call25 (c : UInt8) (r : List UInt8) (hl : (c :: r).length ≤ 16777216) (p : Int) : Pure K 25 [.iv (.str (c :: r)), .iv (.int .i64 p)] (.iv (.agg (encT (wordT (c :: r) p)))) := by
  have h37 := call37 c r hl
  refine call_pure t25 rfl rfl ?_
  unfold wordT
  by_cases hd : c :: r = [46]
  · rw [if_pos hd]
    rw [hd]
    have e : (([46] : List UInt8) == [46]) = true := rfl
    simp (config := { maxSteps := 4000000 }) (disch := omega) only [t25, go_sem, e, encT, resB_ret, resO_some]
  · rw [if_neg hd]
    have e : (c :: r == [46]) = false := by rw [beq_eq_false_iff_ne]; exact hd
    cases hi : intL (c :: r) with
    | none =>
      rw [hi] at h37
      simp only [Option.getD_none, Option.isSome_none] at h37
      generalize c :: r = run at *
      simp (config := { maxSteps := 4000000 }) (disch := omega) only [t25, go_sem, e, cpR_pure h37, encT, storeV_c, storeC_eq, resB_ret, resO_some]
    | some s =>
      rw [hi] at h37
      simp only [Option.getD_some, Option.isSome_some] at h37
      generalize c :: r = run at *
      simp (config := { maxSteps := 4000000 }) (disch := omega) only [t25, go_sem, e, cpR_pure h37, encT, storeV_c, storeC_eq, resB_ret, resO_some]
end Go.Proofs.YtpngkgkobapioaaDoor
