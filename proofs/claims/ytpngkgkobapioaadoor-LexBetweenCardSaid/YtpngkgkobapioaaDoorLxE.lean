/- Lex: a Builder takes a char. Condition: none. -/
import Derived.Test.YtpngkgkobapioaaDoorLxD
set_option maxRecDepth 100000
set_option maxHeartbeats 4000000
set_option linter.unusedSimpArgs false
set_option linter.unusedVariables false
namespace Go.Proofs.YtpngkgkobapioaaDoor
open Go Go.TM
theorem put_tsl {S : Store} (i : Nat) (l : List UInt8) (hS : S[i]? = some (.tok l.length 1 5)) (hl : l.length ≤ 100000000) (u : List UInt8) (hu : u.length ≤ 4) : appendOp false 1 1 5 S (.tsl i (bytesIV l)) (.iv (.sl .full (bytesIV u))) = some (.tsl i (bytesIV (l ++ u)), S.set i (.tok (l ++ u).length 1 5)) := by
  have := ap_tsl (w := 1) (b := 1) (el := 5) (i := i) (S := S) (l := bytesIV l) (ys := bytesIV u) (x := .iv (.sl .full (bytesIV u))) (IsEl.sl _ _ _) (Elems.bytes u) (Elems.bytes l) (by rw [bytesIV_length]; exact hS) (roomy_ok (by rw [bytesIV_length, bytesIV_length]; omega))
  rw [bytesIV_length, bytesIV_length, bytes_append] at this
  rw [this, List.length_append]
theorem put_nil (S : Store) (u : List UInt8) (hu : 1 ≤ u.length ∧ u.length ≤ 4) : appendOp false 1 1 5 S (.iv (.sl .nil [])) (.iv (.sl .full (bytesIV u))) = some (.tsl S.length (bytesIV u), S ++ [.tok u.length 1 5]) := by
  have := ap_new (w := 1) (b := 1) (el := 5) (S := S) (t := .nil) (l := []) (ys := bytesIV u) (x := .iv (.sl .full (bytesIV u))) (by decide) (IsEl.sl _ _ _) (Elems.bytes u) Elems.nil (by intro e; have := congrArg List.length e; rw [bytesIV_length] at this; simp at this; rw [this] at hu; simp at hu) (roomy_ok (by rw [bytesIV_length]; simp; omega))
  rw [bytesIV_length, List.nil_append, List.length_nil, Nat.zero_add] at this
  exact this
theorem call49A {S : Store} (i : Nat) (l : List UInt8) (hS : S[i]? = some (.tok l.length 1 5)) (hl : l.length ≤ 100000000) (c : Int) (h : isC c = true) (h1 : 128 ≤ c) : (lim K).call 49 [.tsl i (bytesIV l), .iv (.int .i32 c)] S = .ret (.tsl i (bytesIV (l ++ (bytesR c))), S.set i (.tok (l ++ (bytesR c)).length 1 5)) := by
  have hc := (isC_iff c).1 h
  have hA : ∀ u : List UInt8, 1 ≤ u.length ∧ u.length ≤ 4 → appendOp false 1 1 5 S (.tsl i (bytesIV l)) (.iv (.sl .full (bytesIV u))) = some (.tsl i (bytesIV (l ++ u)), S.set i (.tok (l ++ u).length 1 5)) := fun u hu => put_tsl i l hS hl u hu.2
  have hw : IntKind.u8.wrap c = c % 256 := wrap_u8_mod c
  have hw1 : IntKind.u8.wrap (c / 64) = c / 64 % 256 := wrap_u8_mod _
  have hw2 : IntKind.u8.wrap (c / 4096) = c / 4096 % 256 := wrap_u8_mod _
  refine call_ret' K _ (fn := t49) rfl rfl ?_
  simp only [t49, go_sem]
  by_cases h2 : c < 2048
  · have e := hA [UInt8.ofNat (192 + c.toNat / 64), UInt8.ofNat (128 + c.toNat % 64)] (by simp)
    have e2 : bytesIV [UInt8.ofNat (192 + c.toNat / 64), UInt8.ofNat (128 + c.toNat % 64)] = [[.int .u8 (192 + c / 64)], [.int .u8 (128 + c % 256 % 64)]] := by
      simp only [bytesIV, List.map_cons, List.map_nil]; rw [nat8 (by omega), nat8 (by omega)]; congr 4 <;> omega
    rw [e2] at e
    simp (config := { maxSteps := 4000000 }) (disch := omega) only [go_sem, wrap_u32, Int.fdiv_eq_ediv_of_nonneg, wrap_u8, hw, tu8_and63, tu8_or5, tu8_or6, e, bytes_2]
  · by_cases h3 : c < 65536
    · have e := hA [UInt8.ofNat (224 + c.toNat / 4096), UInt8.ofNat (128 + c.toNat / 64 % 64), UInt8.ofNat (128 + c.toNat % 64)] (by simp)
      have e2 : bytesIV [UInt8.ofNat (224 + c.toNat / 4096), UInt8.ofNat (128 + c.toNat / 64 % 64), UInt8.ofNat (128 + c.toNat % 64)] = [[.int .u8 (224 + c / 4096)], [.int .u8 (128 + c / 64 % 256 % 64)], [.int .u8 (128 + c % 256 % 64)]] := by
        simp only [bytesIV, List.map_cons, List.map_nil]; rw [nat8 (by omega), nat8 (by omega), nat8 (by omega), show ((224 + c.toNat / 4096 : Nat) : Int) = 224 + c / 4096 by omega, show ((128 + c.toNat / 64 % 64 : Nat) : Int) = 128 + c / 64 % 256 % 64 by omega, show ((128 + c.toNat % 64 : Nat) : Int) = 128 + c % 256 % 64 by omega]
      rw [e2] at e
      by_cases h4 : c < 55296
      · simp (config := { maxSteps := 4000000 }) (disch := omega) only [go_sem, wrap_u32, Int.fdiv_eq_ediv_of_nonneg, wrap_u8, hw, hw1, tu8_and63, tu8_or4, tu8_or6, e, bytes_3]
      · simp (config := { maxSteps := 4000000 }) (disch := omega) only [go_sem, wrap_u32, Int.fdiv_eq_ediv_of_nonneg, wrap_u8, hw, hw1, tu8_and63, tu8_or4, tu8_or6, e, bytes_3]
    · have e := hA [UInt8.ofNat (240 + c.toNat / 262144), UInt8.ofNat (128 + c.toNat / 4096 % 64), UInt8.ofNat (128 + c.toNat / 64 % 64), UInt8.ofNat (128 + c.toNat % 64)] (by simp)
      have e2 : bytesIV [UInt8.ofNat (240 + c.toNat / 262144), UInt8.ofNat (128 + c.toNat / 4096 % 64), UInt8.ofNat (128 + c.toNat / 64 % 64), UInt8.ofNat (128 + c.toNat % 64)] = [[.int .u8 (240 + c / 262144)], [.int .u8 (128 + c / 4096 % 256 % 64)], [.int .u8 (128 + c / 64 % 256 % 64)], [.int .u8 (128 + c % 256 % 64)]] := by
        simp only [bytesIV, List.map_cons, List.map_nil]; rw [nat8 (by omega), nat8 (by omega), nat8 (by omega), nat8 (by omega), show ((240 + c.toNat / 262144 : Nat) : Int) = 240 + c / 262144 by omega, show ((128 + c.toNat / 4096 % 64 : Nat) : Int) = 128 + c / 4096 % 256 % 64 by omega, show ((128 + c.toNat / 64 % 64 : Nat) : Int) = 128 + c / 64 % 256 % 64 by omega, show ((128 + c.toNat % 64 : Nat) : Int) = 128 + c % 256 % 64 by omega]
      rw [e2] at e
      simp (config := { maxSteps := 4000000 }) (disch := omega) only [go_sem, wrap_u32, Int.fdiv_eq_ediv_of_nonneg, wrap_u8, hw, hw1, hw2, tu8_and63, tu8_or3, tu8_or6, e, bytes_4]
theorem call42A {S : Store} (i : Nat) (l : List UInt8) (hS : S[i]? = some (.tok l.length 1 5)) (hl : l.length ≤ 100000000) (c : Int) (h : isC c = true) : (lim K).call 42 [.tsl i (bytesIV l), .iv (.int .i32 c)] S = .ret (.tsl i (bytesIV (l ++ (bytesR c))), S.set i (.tok (l ++ (bytesR c)).length 1 5)) := by
  have hc := (isC_iff c).1 h
  have hA : ∀ u : List UInt8, 1 ≤ u.length ∧ u.length ≤ 4 → appendOp false 1 1 5 S (.tsl i (bytesIV l)) (.iv (.sl .full (bytesIV u))) = some (.tsl i (bytesIV (l ++ u)), S.set i (.tok (l ++ u).length 1 5)) := fun u hu => put_tsl i l hS hl u hu.2
  refine call_ret' K _ (fn := t42) rfl rfl ?_
  by_cases h1 : c < 128
  · have e := hA [UInt8.ofNat c.toNat] (by simp)
    have e2 : bytesIV [UInt8.ofNat c.toNat] = [[.int .u8 c]] := by
      simp only [bytesIV, List.map_cons, List.map_nil]; rw [nat8 (by omega)]; congr 4; omega
    rw [e2] at e
    simp (config := { maxSteps := 4000000 }) (disch := omega) only [t42, go_sem, wrap_u32, wrap_u8, e, bytes_1]
  · simp (config := { maxSteps := 4000000 }) (disch := omega) only [t42, go_sem, wrap_u32, call49A i l hS hl c h (by omega)]
theorem call49B (S : Store) (c : Int) (h : isC c = true) (h1 : 128 ≤ c) : (lim K).call 49 [.iv (.sl .nil []), .iv (.int .i32 c)] S = .ret (.tsl S.length (bytesIV (bytesR c)), S ++ [.tok ((bytesR c)).length 1 5]) := by
  have hc := (isC_iff c).1 h
  have hA : ∀ u : List UInt8, 1 ≤ u.length ∧ u.length ≤ 4 → appendOp false 1 1 5 S (.iv (.sl .nil [])) (.iv (.sl .full (bytesIV u))) = some (.tsl S.length (bytesIV u), S ++ [.tok (u).length 1 5]) := fun u hu => put_nil S u hu
  have hw : IntKind.u8.wrap c = c % 256 := wrap_u8_mod c
  have hw1 : IntKind.u8.wrap (c / 64) = c / 64 % 256 := wrap_u8_mod _
  have hw2 : IntKind.u8.wrap (c / 4096) = c / 4096 % 256 := wrap_u8_mod _
  refine call_ret' K _ (fn := t49) rfl rfl ?_
  simp only [t49, go_sem]
  by_cases h2 : c < 2048
  · have e := hA [UInt8.ofNat (192 + c.toNat / 64), UInt8.ofNat (128 + c.toNat % 64)] (by simp)
    have e2 : bytesIV [UInt8.ofNat (192 + c.toNat / 64), UInt8.ofNat (128 + c.toNat % 64)] = [[.int .u8 (192 + c / 64)], [.int .u8 (128 + c % 256 % 64)]] := by
      simp only [bytesIV, List.map_cons, List.map_nil]; rw [nat8 (by omega), nat8 (by omega)]; congr 4 <;> omega
    rw [e2] at e
    simp (config := { maxSteps := 4000000 }) (disch := omega) only [go_sem, wrap_u32, Int.fdiv_eq_ediv_of_nonneg, wrap_u8, hw, tu8_and63, tu8_or5, tu8_or6, e, e2, bytes_2]
  · by_cases h3 : c < 65536
    · have e := hA [UInt8.ofNat (224 + c.toNat / 4096), UInt8.ofNat (128 + c.toNat / 64 % 64), UInt8.ofNat (128 + c.toNat % 64)] (by simp)
      have e2 : bytesIV [UInt8.ofNat (224 + c.toNat / 4096), UInt8.ofNat (128 + c.toNat / 64 % 64), UInt8.ofNat (128 + c.toNat % 64)] = [[.int .u8 (224 + c / 4096)], [.int .u8 (128 + c / 64 % 256 % 64)], [.int .u8 (128 + c % 256 % 64)]] := by
        simp only [bytesIV, List.map_cons, List.map_nil]; rw [nat8 (by omega), nat8 (by omega), nat8 (by omega), show ((224 + c.toNat / 4096 : Nat) : Int) = 224 + c / 4096 by omega, show ((128 + c.toNat / 64 % 64 : Nat) : Int) = 128 + c / 64 % 256 % 64 by omega, show ((128 + c.toNat % 64 : Nat) : Int) = 128 + c % 256 % 64 by omega]
      rw [e2] at e
      by_cases h4 : c < 55296
      · simp (config := { maxSteps := 4000000 }) (disch := omega) only [go_sem, wrap_u32, Int.fdiv_eq_ediv_of_nonneg, wrap_u8, hw, hw1, tu8_and63, tu8_or4, tu8_or6, e, e2, bytes_3]
      · simp (config := { maxSteps := 4000000 }) (disch := omega) only [go_sem, wrap_u32, Int.fdiv_eq_ediv_of_nonneg, wrap_u8, hw, hw1, tu8_and63, tu8_or4, tu8_or6, e, e2, bytes_3]
    · have e := hA [UInt8.ofNat (240 + c.toNat / 262144), UInt8.ofNat (128 + c.toNat / 4096 % 64), UInt8.ofNat (128 + c.toNat / 64 % 64), UInt8.ofNat (128 + c.toNat % 64)] (by simp)
      have e2 : bytesIV [UInt8.ofNat (240 + c.toNat / 262144), UInt8.ofNat (128 + c.toNat / 4096 % 64), UInt8.ofNat (128 + c.toNat / 64 % 64), UInt8.ofNat (128 + c.toNat % 64)] = [[.int .u8 (240 + c / 262144)], [.int .u8 (128 + c / 4096 % 256 % 64)], [.int .u8 (128 + c / 64 % 256 % 64)], [.int .u8 (128 + c % 256 % 64)]] := by
        simp only [bytesIV, List.map_cons, List.map_nil]; rw [nat8 (by omega), nat8 (by omega), nat8 (by omega), nat8 (by omega), show ((240 + c.toNat / 262144 : Nat) : Int) = 240 + c / 262144 by omega, show ((128 + c.toNat / 4096 % 64 : Nat) : Int) = 128 + c / 4096 % 256 % 64 by omega, show ((128 + c.toNat / 64 % 64 : Nat) : Int) = 128 + c / 64 % 256 % 64 by omega, show ((128 + c.toNat % 64 : Nat) : Int) = 128 + c % 256 % 64 by omega]
      rw [e2] at e
      simp (config := { maxSteps := 4000000 }) (disch := omega) only [go_sem, wrap_u32, Int.fdiv_eq_ediv_of_nonneg, wrap_u8, hw, hw1, hw2, tu8_and63, tu8_or3, tu8_or6, e, e2, bytes_4]
theorem call42B (S : Store) (c : Int) (h : isC c = true) : (lim K).call 42 [.iv (.sl .nil []), .iv (.int .i32 c)] S = .ret (.tsl S.length (bytesIV (bytesR c)), S ++ [.tok ((bytesR c)).length 1 5]) := by
  have hc := (isC_iff c).1 h
  have hA : ∀ u : List UInt8, 1 ≤ u.length ∧ u.length ≤ 4 → appendOp false 1 1 5 S (.iv (.sl .nil [])) (.iv (.sl .full (bytesIV u))) = some (.tsl S.length (bytesIV u), S ++ [.tok (u).length 1 5]) := fun u hu => put_nil S u hu
  refine call_ret' K _ (fn := t42) rfl rfl ?_
  by_cases h1 : c < 128
  · have e := hA [UInt8.ofNat c.toNat] (by simp)
    have e2 : bytesIV [UInt8.ofNat c.toNat] = [[.int .u8 c]] := by
      simp only [bytesIV, List.map_cons, List.map_nil]; rw [nat8 (by omega)]; congr 4; omega
    rw [e2] at e
    simp (config := { maxSteps := 4000000 }) (disch := omega) only [t42, go_sem, wrap_u32, wrap_u8, e, e2, bytes_1]
  · simp (config := { maxSteps := 4000000 }) (disch := omega) only [t42, go_sem, wrap_u32, call49B S c h (by omega)]
theorem gA (x : Block) (R L : Store) (k : Nat) : (x :: (R ++ L))[R.length + 1 + k]? = L[k]? := by
  rw [Nat.add_right_comm, List.getElem?_cons_succ, List.getElem?_append_right (by omega)]
  congr 1; omega
theorem sA (x : Block) (R L : Store) (k : Nat) (y : Block) : (x :: (R ++ L)).set (R.length + 1 + k) y = x :: (R ++ L.set k y) := by
  rw [Nat.add_right_comm, List.set_cons_succ, List.set_append_right _ _ (by omega)]
  congr 2; congr 1; omega
theorem gA0 (x : Block) (R L : Store) : (x :: (R ++ L))[R.length + 1]? = L[0]? := gA x R L 0
theorem sA0 (x : Block) (R L : Store) (y : Block) : (x :: (R ++ L)).set (R.length + 1) y = x :: (R ++ L.set 0 y) := sA x R L 0 y
theorem getB {S : Store} {j off : Nat} {cs : List TV} {v : TV} (h : S[j]? = some (.cells 60 false cs)) (hv : TM.sub cs off 1 = some [v]) (env : Env) : getCells env S (.ptr j 60 off) 1 = some [v] := by
  simp only [getCells, h, ↓reduceIte]; exact hv
theorem setB {S : Store} {j off : Nat} {cs : List TV} {v : TV} (h : S[j]? = some (.cells 60 false cs)) (hr : isRefL v = false) (hl : off + 1 ≤ cs.length) (env : Env) : setCells env S (.ptr j 60 off) [v] = some (env, S.set j (.cells 60 false (put cs off [v]))) := by
  simp only [setCells, List.any_cons, hr, List.any_nil, Bool.or_self, Bool.false_eq_true, ↓reduceIte, h, List.length_cons, List.length_nil, Nat.zero_add, true_and, hl]
def bS (n : Nat) (s : List UInt8) : Store := if s = [] then [.cells 60 false [.iv .nilp, .iv (.sl .nil [])]] else [.cells 60 false [.ptr (n + 1) 60 0, .tsl (n + 1 + 1) (bytesIV s)], .tok s.length 1 5]
theorem bytesR_pos {c : Int} (h : isC c = true) : 1 ≤ (bytesR c).length ∧ (bytesR c).length ≤ 4 := bytes_len h
theorem copy_used {S : Store} {j : Nat} {x : TV} (h : S[j]? = some (.cells 60 false [.ptr j 60 0, x])) : prV S (K.prim 41) [.ptr j 60 0] = some (.tup [], S) := by
  show primCopyCheck [(59, 2)] [.ptr j 60 0] S = _
  simp [primCopyCheck, h]
theorem copy_fresh {S : Store} {j : Nat} {x : TV} (h : S[j]? = some (.cells 60 false [.iv .nilp, x])) : prV S (K.prim 41) [.ptr j 60 0] = some (.tup [], S.set j (.cells 60 false [.ptr j 60 0, x])) := by
  show primCopyCheck [(59, 2)] [.ptr j 60 0] S = _
  simp [primCopyCheck, h]
theorem call33 (x : Block) (R : Store) (s : List UInt8) (hl : s.length ≤ 90000000) (c : Int) (h : isC c = true) :
    ∃ v, (lim K).call 33 [.ptr (R.length + 1) 60 0, .iv (.int .i32 c)] (x :: (R ++ bS R.length s)) = .ret (.tup [.iv (.int .i64 v), .iv .nili], x :: (R ++ bS R.length (s ++ bytesR c))) := by
  have hp := bytesR_pos h
  have hne : s ++ bytesR c ≠ [] := by intro e; have := congrArg List.length e; simp at this; rw [this.2] at hp; simp at hp
  have hb2 : bS R.length (s ++ bytesR c) = [.cells 60 false [.ptr (R.length + 1) 60 0, .tsl (R.length + 1 + 1) (bytesIV (s ++ bytesR c))], .tok (s ++ bytesR c).length 1 5] := by rw [bS, if_neg hne]
  have hl2 : (s ++ bytesR c).length ≤ 90000004 := by rw [List.length_append]; omega
  rw [hb2]
  by_cases hs : s = []
  · subst hs
    rw [List.nil_append] at hl2 ⊢
    rw [show bS R.length [] = [.cells 60 false [.iv .nilp, .iv (.sl .nil [])]] from rfl]
    have e1 : (x :: (R ++ [Block.cells 60 false [.iv .nilp, .iv (.sl .nil [])]]))[R.length + 1]? = some (.cells 60 false [.iv .nilp, .iv (.sl .nil [])]) := by rw [gA0]; rfl
    have hc := copy_fresh e1
    rw [sA0, List.set_cons_zero] at hc
    have e2 : (x :: (R ++ [Block.cells 60 false [.ptr (R.length + 1) 60 0, .iv (.sl .nil [])]]))[R.length + 1]? = some (.cells 60 false [.ptr (R.length + 1) 60 0, .iv (.sl .nil [])]) := by rw [gA0]; rfl
    have hg := fun env => getB e2 (off := 1) (v := .iv (.sl .nil [])) rfl env
    have h42 := call42B (x :: (R ++ [Block.cells 60 false [.ptr (R.length + 1) 60 0, .iv (.sl .nil [])]])) c h
    rw [show (x :: (R ++ [Block.cells 60 false [.ptr (R.length + 1) 60 0, .iv (.sl .nil [])]])).length = R.length + 1 + 1 by simp, List.cons_append, List.append_assoc, List.singleton_append] at h42
    have e3 : (x :: (R ++ [Block.cells 60 false [.ptr (R.length + 1) 60 0, .iv (.sl .nil [])], .tok (bytesR c).length 1 5]))[R.length + 1]? = some (.cells 60 false [.ptr (R.length + 1) 60 0, .iv (.sl .nil [])]) := by rw [gA0]; rfl
    have hset := fun env => setB e3 (off := 1) (v := .tsl (R.length + 1 + 1) (bytesIV (bytesR c))) rfl (by simp) env
    simp only [sA0, List.set_cons_zero] at hset
    have e4 : (x :: (R ++ [Block.cells 60 false (put [.ptr (R.length + 1) 60 0, .iv (.sl .nil [])] 1 [.tsl (R.length + 1 + 1) (bytesIV (bytesR c))]), .tok (bytesR c).length 1 5]))[R.length + 1]? = some (.cells 60 false [.ptr (R.length + 1) 60 0, .tsl (R.length + 1 + 1) (bytesIV (bytesR c))]) := by rw [gA0]; rfl
    have hg2 := fun env => getB e4 (off := 1) (v := .tsl (R.length + 1 + 1) (bytesIV (bytesR c))) rfl env
    have hS2 : (x :: (R ++ [Block.cells 60 false (put [.ptr (R.length + 1) 60 0, .iv (.sl .nil [])] 1 [.tsl (R.length + 1 + 1) (bytesIV (bytesR c))]), .tok (bytesR c).length 1 5])) = x :: (R ++ [.cells 60 false [.ptr (R.length + 1) 60 0, .tsl (R.length + 1 + 1) (bytesIV (bytesR c))], .tok (bytesR c).length 1 5]) := rfl
    rw [hS2] at hg2
    simp only [hS2] at hset
    clear e1 e2 e3 e4 hS2 hb2
    generalize (x :: (R ++ [Block.cells 60 false [.iv .nilp, .iv (.sl .nil [])]])) = S0 at *
    generalize (x :: (R ++ [Block.cells 60 false [.ptr (R.length + 1) 60 0, .iv (.sl .nil [])]])) = S1 at *
    generalize (x :: (R ++ [Block.cells 60 false [.ptr (R.length + 1) 60 0, .iv (.sl .nil [])], .tok (bytesR c).length 1 5])) = S2 at *
    generalize (x :: (R ++ [Block.cells 60 false [.ptr (R.length + 1) 60 0, .tsl (R.length + 1 + 1) (bytesIV (bytesR c))], .tok (bytesR c).length 1 5])) = S3 at *
    generalize R.length + 1 + 1 = i at *
    generalize R.length + 1 = j at *
    generalize bytesR c = u at *
    refine ⟨u.length, ?_⟩
    refine call_ret' K _ (fn := t33) rfl rfl ?_
    simp (config := { maxSteps := 4000000 }) (disch := omega) only [t33, go_sem, hc, hg, h42, hset, hg2, wrap_i64, storeV_c, storeC_eq, cellsOf_tsl, List.length_nil, Int.natCast_zero, Int.sub_zero]
    try rfl
  · rw [show bS R.length s = [.cells 60 false [.ptr (R.length + 1) 60 0, .tsl (R.length + 1 + 1) (bytesIV s)], .tok s.length 1 5] by rw [bS, if_neg hs]]
    have e1 : (x :: (R ++ [Block.cells 60 false [.ptr (R.length + 1) 60 0, .tsl (R.length + 1 + 1) (bytesIV s)], .tok s.length 1 5]))[R.length + 1]? = some (.cells 60 false [.ptr (R.length + 1) 60 0, .tsl (R.length + 1 + 1) (bytesIV s)]) := by rw [gA0]; rfl
    have e1t : (x :: (R ++ [Block.cells 60 false [.ptr (R.length + 1) 60 0, .tsl (R.length + 1 + 1) (bytesIV s)], .tok s.length 1 5]))[R.length + 1 + 1]? = some (.tok s.length 1 5) := by rw [gA]; rfl
    have hc := copy_used e1
    have hg := fun env => getB e1 (off := 1) (v := .tsl (R.length + 1 + 1) (bytesIV s)) rfl env
    have h42 := call42A (R.length + 1 + 1) s e1t (by omega) c h
    rw [sA] at h42
    simp only [List.set_cons_succ, List.set_cons_zero] at h42
    have e3 : (x :: (R ++ [Block.cells 60 false [.ptr (R.length + 1) 60 0, .tsl (R.length + 1 + 1) (bytesIV s)], .tok (s ++ bytesR c).length 1 5]))[R.length + 1]? = some (.cells 60 false [.ptr (R.length + 1) 60 0, .tsl (R.length + 1 + 1) (bytesIV s)]) := by rw [gA0]; rfl
    have hset := fun env => setB e3 (off := 1) (v := .tsl (R.length + 1 + 1) (bytesIV (s ++ bytesR c))) rfl (by simp) env
    simp only [sA0, List.set_cons_zero] at hset
    have hS2 : (x :: (R ++ [Block.cells 60 false (put [.ptr (R.length + 1) 60 0, .tsl (R.length + 1 + 1) (bytesIV s)] 1 [.tsl (R.length + 1 + 1) (bytesIV (s ++ bytesR c))]), .tok (s ++ bytesR c).length 1 5])) = x :: (R ++ [.cells 60 false [.ptr (R.length + 1) 60 0, .tsl (R.length + 1 + 1) (bytesIV (s ++ bytesR c))], .tok (s ++ bytesR c).length 1 5]) := rfl
    simp only [hS2] at hset
    have e4 : (x :: (R ++ [Block.cells 60 false [.ptr (R.length + 1) 60 0, .tsl (R.length + 1 + 1) (bytesIV (s ++ bytesR c))], .tok (s ++ bytesR c).length 1 5]))[R.length + 1]? = some (.cells 60 false [.ptr (R.length + 1) 60 0, .tsl (R.length + 1 + 1) (bytesIV (s ++ bytesR c))]) := by rw [gA0]; rfl
    have hg2 := fun env => getB e4 (off := 1) (v := .tsl (R.length + 1 + 1) (bytesIV (s ++ bytesR c))) rfl env
    clear e1 e1t e3 e4 hS2 hb2
    generalize (x :: (R ++ [Block.cells 60 false [.ptr (R.length + 1) 60 0, .tsl (R.length + 1 + 1) (bytesIV s)], .tok s.length 1 5])) = S0 at *
    generalize (x :: (R ++ [Block.cells 60 false [.ptr (R.length + 1) 60 0, .tsl (R.length + 1 + 1) (bytesIV s)], .tok (s ++ bytesR c).length 1 5])) = S1 at *
    generalize (x :: (R ++ [Block.cells 60 false [.ptr (R.length + 1) 60 0, .tsl (R.length + 1 + 1) (bytesIV (s ++ bytesR c))], .tok (s ++ bytesR c).length 1 5])) = S2 at *
    generalize R.length + 1 + 1 = i at *
    generalize R.length + 1 = j at *
    generalize s ++ bytesR c = u at *
    refine ⟨(u.length : Int) - s.length, ?_⟩
    refine call_ret' K _ (fn := t33) rfl rfl ?_
    simp (config := { maxSteps := 4000000 }) (disch := omega) only [t33, go_sem, hc, hg, h42, hset, hg2, wrap_i64, storeV_c, storeC_eq, cellsOf_tsl]
end Go.Proofs.YtpngkgkobapioaaDoor
