/- Which char stands at the head of bytes. Condition: none. -/
import Derived.Test.YtpngkgkobapioaaDoorLxU1
set_option maxRecDepth 100000
set_option maxHeartbeats 8000000
set_option linter.unusedSimpArgs false
set_option linter.unusedVariables false
namespace Go.Proofs.YtpngkgkobapioaaDoor
open Go Go.TM
theorem call57 (t : Tag) (l : List UInt8) : (lim K).call 57 [.iv (.sl t (bytesIV l))] [] = .ret (.tup [.iv (.int .i32 (D l).1), .iv (.int .i64 (D l).2)], []) := by
  cases l with
  | nil => exact call57_nil t
  | cons a r =>
    have ha := bl a
    by_cases h1 : a.toNat < 128
    · rw [c30_ascii t a r h1, D_ascii a r h1]; rfl
    by_cases h2 : a.toNat < 194 ∨ 245 ≤ a.toNat
    · rw [c30_bad t a r (by simp only [tab]; (repeat' split) <;> omega), D_bad a r (by omega)]; rfl
    by_cases h3 : a.toNat < 224
    · exact c30_two t a r (by simp only [tab]; (repeat' split) <;> omega) (by omega)
    by_cases h4 : a.toNat = 224
    · exact c30_e0 t a r (by simp only [tab]; (repeat' split) <;> omega) h4
    by_cases h5 : a.toNat = 237
    · exact c30_ed t a r (by simp only [tab]; (repeat' split) <;> omega) h5
    by_cases h6 : a.toNat < 240
    · exact c30_e1 t a r (by simp only [tab]; (repeat' split) <;> omega) (by omega)
    by_cases h7 : a.toNat = 240
    · exact c30_f0 t a r (by simp only [tab]; (repeat' split) <;> omega) h7
    by_cases h8 : a.toNat = 244
    · exact c30_f4 t a r (by simp only [tab]; (repeat' split) <;> omega) h8
    · exact c30_f1 t a r (by simp only [tab]; (repeat' split) <;> omega) (by omega)
theorem loop45_nil (t : Tag) : lp' (lim K) t45L0 [.iv (.sl t (bytesIV [])), .iv (.int .i32 0), .iv (.int .i64 0), .tup [], .iv (.sl t (bytesIV [])), .iv (.int .i64 0), .iv (.int .i64 0), .tup [], .tup []] [] = .ret (.exit 0, [.iv (.sl t (bytesIV [])), .iv (.int .i32 0), .iv (.int .i64 0), .tup [], .iv (.sl t (bytesIV [])), .iv (.int .i64 0), .iv (.int .i64 0), .iv (.bool false), .tup []], []) := by
  refine loop_ret' K _ _ ?_
  simp (disch := omega) only [t45L0, go_sem]
theorem call45 (t : Tag) (l : List UInt8) : (lim K).call 45 [.iv (.sl t (bytesIV l))] [] = .ret (.tup [.iv (.int .i32 (D l).1), .iv (.int .i64 (D l).2)], []) := by
  refine call_ret' K [] (fn := t45) rfl rfl ?_
  cases l with
  | nil => simp (disch := omega) only [t45, go_sem, Int.cast_ofNat_Int, loop45_nil, call57]
  | cons a r =>
    have ha := bl a
    by_cases h : a.toNat < 128
    · have hl : lp' (lim K) t45L0 [.iv (.sl t (bytesIV (a :: r))), .iv (.int .i32 0), .iv (.int .i64 0), .tup [], .iv (.sl t (bytesIV (a :: r))), .iv (.int .i64 ((r.length + 1 : Nat) : Int)), .iv (.int .i64 0), .tup [], .tup []] [] = .ret (.ret, [.iv (.sl t (bytesIV (a :: r))), .iv (.int .i32 a.toNat), .iv (.int .i64 1), .iv (.int .u8 a.toNat), .iv (.sl t (bytesIV (a :: r))), .iv (.int .i64 ((r.length + 1 : Nat) : Int)), .iv (.int .i64 0), .iv (.bool true), .iv (.bool true)], []) := by
        refine loop_ret' K _ _ ?_
        simp (disch := omega) only [t45L0, go_sem, cons_bytes, indexAddrS, wrap_i32]
      simp (disch := omega) only [t45, go_sem, Int.cast_ofNat_Int, hl, D_ascii a r h]
    · have hl : lp' (lim K) t45L0 [.iv (.sl t (bytesIV (a :: r))), .iv (.int .i32 0), .iv (.int .i64 0), .tup [], .iv (.sl t (bytesIV (a :: r))), .iv (.int .i64 ((r.length + 1 : Nat) : Int)), .iv (.int .i64 0), .tup [], .tup []] [] = .ret (.exit 0, [.iv (.sl t (bytesIV (a :: r))), .iv (.int .i32 0), .iv (.int .i64 0), .iv (.int .u8 a.toNat), .iv (.sl t (bytesIV (a :: r))), .iv (.int .i64 ((r.length + 1 : Nat) : Int)), .iv (.int .i64 0), .iv (.bool true), .iv (.bool false)], []) := by
        refine loop_ret' K _ _ ?_
        simp (disch := omega) only [t45L0, go_sem, cons_bytes, indexAddrS, wrap_i32]
      simp (disch := omega) only [t45, go_sem, Int.cast_ofNat_Int, hl, call57]
def bad (l : List UInt8) : Bool := decide ((D l).1 = 65533) && decide ((D l).2 ≤ 1)
theorem call46 (c n : Int) : (lim K).call 46 [.iv (.int .i32 c), .iv (.int .i64 n)] [] = .ret (.iv (.bool (decide (c = 65533) && decide (n ≤ 1))), []) := by
  refine call_ret' K [] (fn := t46) rfl rfl ?_
  simp only [t46, go_sem]
  repeat' (first | (first | refine br_dec' (fun h => ?_) (fun h => ?_) | refine br_beq' (fun h => ?_) (fun h => ?_) | refine br_bne' (fun h => ?_) (fun h => ?_) | refine br_eq' (fun h => ?_) (fun h => ?_)) | simp (disch := omega) only [go_sem])
  all_goals (congr 4; simp [*])
theorem D_le (l : List UInt8) : (D l).1 < 2097152 ∧ (D l).2 ≤ 4 := by
  cases l with
  | nil => simp [D]
  | cons a r =>
    have ha := bl a
    simp only [D]
    repeat' split
    all_goals (simp only; try omega)
def getR (l : List UInt8) (i : Int) : Int × Int × Int :=
  if i < 0 ∨ (l.length : Int) ≤ i then (0, 0, 2)
  else if bad (l.drop i.toNat) then (0, 0, 4)
  else ((D (l.drop i.toNat)).1, (D (l.drop i.toNat)).2, 0)
def tup3 (x : Int × Int × Int) : TV := .tup [.iv (.int .i64 x.1), .iv (.int .i64 x.2.1), .iv (.int .i64 x.2.2)]
theorem call38 (t : Tag) (l : List UInt8) (i : Int) (ht : TagOk t l) : (lim K).call 38 [.iv (.sl t (bytesIV l)), .iv (.int .i64 i)] [] = .ret (tup3 (getR l i), []) := by
  refine call_ret' K [] (fn := t38) rfl rfl ?_
  by_cases h : i < 0 ∨ (l.length : Int) ≤ i
  · by_cases h0 : i < 0
    · simp (disch := omega) only [t38, go_sem, getR, h, tup3]
    · simp (disch := omega) only [t38, go_sem, getR, h, tup3]
  · have hd := D_le (l.drop i.toNat)
    simp (disch := first | omega | assumption) only [t38, go_sem, getR, h, tup3, slice_bytes_lo, call45, call46]
    refine br_eq' (fun hb => ?_) (fun hb => ?_)
    · have hbad : bad (l.drop i.toNat) = true := by simp [bad] at hb ⊢; omega
      simp only [go_sem, hbad]
    · have hbad : bad (l.drop i.toNat) = false := by simp [bad] at hb ⊢; omega
      simp (disch := omega) only [go_sem, hbad, wrap_i64]
end Go.Proofs.YtpngkgkobapioaaDoor
