/- LexBetween: the law. Condition: none. -/
import Derived.Test.YtpngkgkobapioaaDoorLxP
set_option maxRecDepth 100000
set_option maxHeartbeats 16000000
set_option linter.unusedSimpArgs false
set_option linter.unusedVariables false
namespace Go.Proofs.YtpngkgkobapioaaDoor
open Go Go.TM
theorem app3 (t1 t2 : Tag) (a bt b : List UInt8) (h : bt ≠ []) (ha : a.length ≤ 100000) (hb : b.length ≤ 100000) (hbt : bt.length ≤ 100000) :
    ∃ v1 S1 S2 S3, appendOp false 1 1 5 [] (.iv (.sl .full [])) (.iv (.sl t1 (bytesIV a))) = some (v1, S1) ∧ appendOp false 1 1 5 S1 v1 (.iv (.str bt)) = some (.tsl 0 (bytesIV (a ++ bt)), S2) ∧ appendOp false 1 1 5 S2 (.tsl 0 (bytesIV (a ++ bt))) (.iv (.sl t2 (bytesIV b))) = some (.tsl 0 (bytesIV (a ++ bt ++ b)), S3) := by
  have hbt' : bytesIV bt ≠ [] := by intro e; have := congrArg List.length e; rw [bytesIV_length] at this; exact h (List.length_eq_zero_iff.1 (by simpa using this))
  have key : ∀ (T : List UInt8), T.length ≤ 200000 → appendOp false 1 1 5 [.tok T.length 1 5] (.tsl 0 (bytesIV T)) (.iv (.sl t2 (bytesIV b))) = some (.tsl 0 (bytesIV (T ++ b)), [.tok (T ++ b).length 1 5]) := by
    intro T hT
    have := ap_tsl (w := 1) (b := 1) (el := 5) (i := 0) (S := [.tok T.length 1 5]) (l := bytesIV T) (ys := bytesIV b) (x := .iv (.sl t2 (bytesIV b))) (IsEl.sl _ _ _) (Elems.bytes b) (Elems.bytes T) (by rw [bytesIV_length]; rfl) (roomy_ok (by rw [bytesIV_length, bytesIV_length]; omega))
    rw [this, bytes_append, bytesIV_length, bytesIV_length, List.length_append]; rfl
  by_cases ha0 : a = []
  · subst ha0
    refine ⟨.iv (.sl .full []), [], [.tok bt.length 1 5], [.tok (bt ++ b).length 1 5], ap_nil rfl (IsEl.sl _ _ _), ?_, ?_⟩
    · have := ap_new (w := 1) (b := 1) (el := 5) (S := []) (t := .full) (l := []) (ys := bytesIV bt) (x := .iv (.str bt)) (by decide) (IsEl.str _ _) (Elems.bytes bt) Elems.nil hbt' (roomy_ok (by rw [bytesIV_length]; simp; omega))
      rw [this]
      simp only [List.nil_append, List.length_nil, bytesIV_length, Nat.zero_add]
    · rw [List.nil_append]; exact key bt (by omega)
  · have ha' : bytesIV a ≠ [] := by intro e; have := congrArg List.length e; rw [bytesIV_length] at this; exact ha0 (List.length_eq_zero_iff.1 (by simpa using this))
    refine ⟨.tsl 0 (bytesIV a), [.tok a.length 1 5], [.tok (a ++ bt).length 1 5], [.tok (a ++ bt ++ b).length 1 5], ?_, ?_, key (a ++ bt) (by rw [List.length_append]; omega)⟩
    · have := ap_new (w := 1) (b := 1) (el := 5) (S := []) (t := .full) (l := []) (ys := bytesIV a) (x := .iv (.sl t1 (bytesIV a))) (by decide) (IsEl.sl _ _ _) (Elems.bytes a) Elems.nil ha' (roomy_ok (by rw [bytesIV_length]; simp; omega))
      rw [this]
      simp only [List.nil_append, List.length_nil, bytesIV_length, Nat.zero_add]
    · have := ap_tsl (w := 1) (b := 1) (el := 5) (i := 0) (S := [.tok a.length 1 5]) (l := bytesIV a) (ys := bytesIV bt) (x := .iv (.str bt)) (IsEl.str _ _) (Elems.bytes bt) (Elems.bytes a) (by rw [bytesIV_length]; rfl) (roomy_ok (by rw [bytesIV_length, bytesIV_length]; omega))
      rw [this, bytes_append, bytesIV_length, bytesIV_length, List.length_append]; rfl
theorem law5 (t1 : Tag) (a : List UInt8) (ht1 : TagOk t1 a) (hl1 : a.length ≤ 9223372036854775807) (t2 : Tag) (b : List UInt8) (ht2 : TagOk t2 b) (hl2 : b.length ≤ 9223372036854775807) (w : Int) (hw : 0 ≤ w ∧ w ≤ 255) : ((lim K).call 5 [.iv (.sl t1 (bytesIV a)), .iv (.sl t2 (bytesIV b)), .iv (.int .u8 w)] []).All fun r => r.1 = .iv (.bool true) := by
  by_cases hbig : 5000 < a.length ∨ 5000 < b.length
  · refine call_all' K [] (fn := t5) rfl rfl ?_
    by_cases h1 : 5000 < a.length
    · simp (config := { maxSteps := 4000000 }) (disch := omega) only [t5, go_sem]
      refine all_works works ?_
      simp (config := { maxSteps := 4000000 }) (disch := omega) only [go_sem, Out.All]
    · simp (config := { maxSteps := 4000000 }) (disch := omega) only [t5, go_sem]
      refine all_works works ?_
      simp (config := { maxSteps := 4000000 }) (disch := omega) only [go_sem, Out.All]
  have ha12 := call12 t1 a ht1 (by omega)
  have hb12 := call12 t2 b ht2 (by omega)
  have h13 := call13 t1 a (by omega)
  have pa := lexF_at a.length a 0
  have pb := lexF_at b.length b 0
  obtain ⟨bt, r, hr, hbt, hne, hbl, hcs⟩ : ∃ (bt : List UInt8) (r : Int), w.tmod 3 = r ∧ (bt = bt0 ∨ bt = bt1 ∨ bt = bt2) ∧ bt ≠ [] ∧ bt.length ≤ 1000 ∧ ((r = 0 ∧ bt = bt0) ∨ (r = 1 ∧ bt = bt1) ∨ (r = 2 ∧ bt = bt2)) := by
    have h3 : w.tmod 3 = 0 ∨ w.tmod 3 = 1 ∨ w.tmod 3 = 2 := by rw [Int.tmod_eq_emod_of_nonneg hw.1]; omega
    rcases h3 with h | h | h
    · exact ⟨bt0, 0, h, .inl rfl, by decide, by decide, .inl ⟨rfl, rfl⟩⟩
    · exact ⟨bt1, 1, h, .inr (.inl rfl), by decide, by decide, .inr (.inl ⟨rfl, rfl⟩)⟩
    · exact ⟨bt2, 2, h, .inr (.inr rfl), by decide, by decide, .inr (.inr ⟨rfl, rfl⟩)⟩
  obtain ⟨v1, S1, S2, S3, a1, a2, a3⟩ := app3 t1 t2 a bt b hne (by omega) (by omega) (by omega)
  have hall12 := call12 .no (a ++ bt ++ b) (TagOk.no _) (by simp only [List.length_append]; omega)
  have hbtw := fun X Y => between bt hbt a b X Y
  have hgo : ∀ (X Y : List Tk), comm a = false → lexL a = .inr X → lexL b = .inr Y → ∃ L : List Tk, lexL (a ++ bt ++ b) = .inr L ∧ L.length = X.length + Y.length ∧ X.length ≤ 5001 ∧ Y.length ≤ 5001 ∧ ∀ (x5 x7 x9 x11 x15 x16 x17 x18 x19 x20 x13 x14 x21 x22 x23 : TV), ∃ y13 y14 y21 y22 y23, lp' (lim K) t5L0 [.iv (.sl t1 (bytesIV a)), .iv (.sl t2 (bytesIV b)), .iv (.int .u8 w), .iv (.bool false), .iv (.sl (sTag X) (X.map encT)), x5, .iv (.sl (sTag Y) (Y.map encT)), x7, .iv (.str bt), x9, .iv (.sl (sTag L) (L.map encT)), x11, .iv (.int .i64 0), x13, x14, x15, x16, x17, x18, x19, x20, x21, x22, x23] S3 = .ret (.exit 1, [.iv (.sl t1 (bytesIV a)), .iv (.sl t2 (bytesIV b)), .iv (.int .u8 w), .iv (.bool false), .iv (.sl (sTag X) (X.map encT)), x5, .iv (.sl (sTag Y) (Y.map encT)), x7, .iv (.str bt), x9, .iv (.sl (sTag L) (L.map encT)), x11, .iv (.int .i64 L.length), y13, y14, x15, x16, x17, x18, x19, x20, y21, y22, y23], S3) := by
    intro X Y hc hx hy
    obtain ⟨L, e1, e2, e3⟩ := hbtw X Y hc hx hy
    have qx := pa.1 X hx
    have qy := pb.1 Y hy
    have nx := asc_len qx (by omega)
    have ny := asc_len qy (by omega)
    refine ⟨L, e1, e2, by omega, by omega, fun x5 x7 x9 x11 x15 x16 x17 x18 x19 x20 x13 x14 x21 x22 x23 => ?_⟩
    have hpos : ∀ i, i < L.length → 0 ≤ (wantT X Y i).pos ∧ (wantT X Y i).pos ≤ 1000000 := by
      intro i hi
      unfold wantT
      split
      · have := qx.get i (by omega); omega
      · have := qy.get (i - X.length) (by omega); omega
    have := loop5 (.iv (.sl t1 (bytesIV a))) (.iv (.sl t2 (bytesIV b))) (.iv (.int .u8 w)) a t1 (sTag X) (sTag Y) (sTag L) X Y L bt (by omega) hbl (by omega) (by omega) e2 e3 hpos x5 x7 x9 x11 x15 x16 x17 x18 x19 x20 S3 L.length 0 x13 x14 x21 x22 x23 (by omega)
    exact this
  clear hbtw
  refine call_all' K [] (fn := t5) rfl rfl ?_
  cases hx : lexL a with
  | inl x =>
    obtain ⟨e, q⟩ := x
    have he := (pa.2 e q hx).1
    rw [hx] at ha12
    clear hgo a1 a2 a3 hall12
    cases hy : lexL b with
    | inl y =>
      obtain ⟨e', q'⟩ := y
      rw [hy] at hb12
      simp only [lexV, flt] at ha12 hb12
      rcases hcs with ⟨h, rfl⟩ | ⟨h, rfl⟩ | ⟨h, rfl⟩ <;> rw [h] at hr
      all_goals (simp (config := { maxSteps := 4000000 }) (disch := omega) only [t5, go_sem, cpR_pure ha12, cpR_pure hb12, hr]
                 refine all_works works ?_
                 simp (config := { maxSteps := 4000000 }) (disch := omega) only [go_sem, Out.All])
    | inr Y =>
      rw [hy] at hb12
      simp only [lexV, flt] at ha12 hb12
      rcases hcs with ⟨h, rfl⟩ | ⟨h, rfl⟩ | ⟨h, rfl⟩ <;> rw [h] at hr
      all_goals (simp (config := { maxSteps := 4000000 }) (disch := omega) only [t5, go_sem, cpR_pure ha12, cpR_pure hb12, hr]
                 refine all_works works ?_
                 simp (config := { maxSteps := 4000000 }) (disch := omega) only [go_sem, Out.All])
  | inr X =>
    rw [hx] at ha12
    cases hy : lexL b with
    | inl y =>
      obtain ⟨e, q⟩ := y
      have he := (pb.2 e q hy).1
      rw [hy] at hb12
      clear hgo a1 a2 a3 hall12
      simp only [lexV, flt] at ha12 hb12
      rcases hcs with ⟨h, rfl⟩ | ⟨h, rfl⟩ | ⟨h, rfl⟩ <;> rw [h] at hr
      all_goals (simp (config := { maxSteps := 4000000 }) (disch := omega) only [t5, go_sem, cpR_pure ha12, cpR_pure hb12, hr]
                 refine all_works works ?_
                 simp (config := { maxSteps := 4000000 }) (disch := omega) only [go_sem, Out.All])
    | inr Y =>
      rw [hy] at hb12
      cases hc : comm a
      · rw [hc] at h13
        obtain ⟨L, e1, e2, n1, n2, e3⟩ := hgo X Y hc hx hy
        rw [e1] at hall12
        clear hgo
        simp only [lexV, flt] at ha12 hb12 hall12
        have l1 : (X.map encT).length = X.length := List.length_map _
        have l2 : (Y.map encT).length = Y.length := List.length_map _
        have l3 : (L.map encT).length = L.length := List.length_map _
        generalize X.map encT = MX at *
        generalize Y.map encT = MY at *
        generalize L.map encT = ML at *
        generalize a ++ bt ++ b = AB at *
        generalize a ++ bt = AB2 at *
        rcases hcs with ⟨h, rfl⟩ | ⟨h, rfl⟩ | ⟨h, rfl⟩ <;> rw [h] at hr
        · rw [show bt0 = [32] from rfl] at a2 e3
          obtain ⟨y13, y14, y21, y22, y23, e⟩ := e3 (.lb [.iv (.int .i64 0), .iv (.int .i64 0)]) (.lb [.iv (.int .i64 0), .iv (.int .i64 0)]) (.tsl 0 (bytesIV AB)) (.lb [.iv (.int .i64 0), .iv (.int .i64 0)]) (.iv (.bool false)) (.iv (.int .u8 0)) (.iv (.bool false)) (.iv (.bool false)) (.iv (.bool false)) (.iv (.bool false)) (.tup []) (.tup []) (.tup []) (.tup []) (.tup [])
          clear e3
          simp (config := { maxSteps := 4000000 }) (disch := omega) only [t5, go_sem, cpR_pure ha12, cpR_pure hb12, hr, h13, a1, a2, a3, cpR_pure hall12, l1, l2, l3, wrap_i64, e]
          refine all_works works ?_
          simp (config := { maxSteps := 4000000 }) (disch := omega) only [go_sem, Out.All]
        · rw [show bt1 = [32, 59, 32, 40, 34, 10] from rfl] at a2 e3
          obtain ⟨y13, y14, y21, y22, y23, e⟩ := e3 (.lb [.iv (.int .i64 0), .iv (.int .i64 0)]) (.lb [.iv (.int .i64 0), .iv (.int .i64 0)]) (.tsl 0 (bytesIV AB)) (.lb [.iv (.int .i64 0), .iv (.int .i64 0)]) (.iv (.bool false)) (.iv (.int .u8 1)) (.iv (.bool true)) (.tup []) (.iv (.bool false)) (.iv (.bool false)) (.tup []) (.tup []) (.tup []) (.tup []) (.tup [])
          clear e3
          simp (config := { maxSteps := 4000000 }) (disch := omega) only [t5, go_sem, cpR_pure ha12, cpR_pure hb12, hr, h13, a1, a2, a3, cpR_pure hall12, l1, l2, l3, wrap_i64, e]
          refine all_works works ?_
          simp (config := { maxSteps := 4000000 }) (disch := omega) only [go_sem, Out.All]
        · rw [show bt2 = [32, 35, 124, 59, 35, 124, 34, 124, 35, 124, 35, 32] from rfl] at a2 e3
          obtain ⟨y13, y14, y21, y22, y23, e⟩ := e3 (.lb [.iv (.int .i64 0), .iv (.int .i64 0)]) (.lb [.iv (.int .i64 0), .iv (.int .i64 0)]) (.tsl 0 (bytesIV AB)) (.lb [.iv (.int .i64 0), .iv (.int .i64 0)]) (.iv (.bool false)) (.iv (.int .u8 2)) (.iv (.bool false)) (.iv (.bool true)) (.iv (.bool false)) (.iv (.bool false)) (.tup []) (.tup []) (.tup []) (.tup []) (.tup [])
          clear e3
          simp (config := { maxSteps := 4000000 }) (disch := omega) only [t5, go_sem, cpR_pure ha12, cpR_pure hb12, hr, h13, a1, a2, a3, cpR_pure hall12, l1, l2, l3, wrap_i64, e]
          refine all_works works ?_
          simp (config := { maxSteps := 4000000 }) (disch := omega) only [go_sem, Out.All]
      · rw [hc] at h13
        clear hgo a1 a2 a3 hall12
        simp only [lexV, flt] at ha12 hb12
        rcases hcs with ⟨h, rfl⟩ | ⟨h, rfl⟩ | ⟨h, rfl⟩ <;> rw [h] at hr
        all_goals (simp (config := { maxSteps := 4000000 }) (disch := omega) only [t5, go_sem, cpR_pure ha12, cpR_pure hb12, hr, h13]
                   refine all_works works ?_
                   simp (config := { maxSteps := 4000000 }) (disch := omega) only [go_sem, Out.All])
end Go.Proofs.YtpngkgkobapioaaDoor
