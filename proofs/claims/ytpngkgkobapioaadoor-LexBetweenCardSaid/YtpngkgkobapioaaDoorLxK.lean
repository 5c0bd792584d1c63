/- Lex: Lex. Condition: none. -/
import Derived.Test.YtpngkgkobapioaaDoorLxJ
set_option maxRecDepth 100000
set_option maxHeartbeats 8000000
set_option linter.unusedSimpArgs false
set_option linter.unusedVariables false
namespace Go.Proofs.YtpngkgkobapioaaDoor
open Go Go.TM
def LexOk (o : (Int × Int) ⊕ List Tk) (done : List Tk) (j : Jump) (x : TV) (f : List TV) (S : Store) : Prop := match o with
  | .inl e => j = .ret ∧ x = .iv (.sl .nil []) ∧ f = fl e.1 e.2
  | .inr ts => j = .exit 0 ∧ f = fl 0 0 ∧ ∃ B R, S = B :: R ∧ OutOk x R (done ++ ts)
theorem loop12 (t : Tag) (b : List UInt8) (ht : TagOk t b) (hb : b.length ≤ 16777216) (x6 : TV) : ∀ (k i : Nat) (done : List Tk) (R : Store) (x1 x4 x5 x7 x8 x9 : TV), b.length ≤ i + k → i ≤ b.length → done.length ≤ i → OutOk x1 R done →
    ∃ j x f S y4 y5 y7 y8 y9, LexOk (lexF k (b.drop i) i) done j x f S ∧ lp' (lim K) t12L0 [.iv (.sl t (bytesIV b)), x1, .lb (fl 0 0), .ptr 0 44 0, x4, x5, x6, x7, x8, x9] (rdB t b i :: R) = .ret (j, [.iv (.sl t (bytesIV b)), x, .lb f, .ptr 0 44 0, y4, y5, x6, y7, y8, y9], S)
  | 0, i, done, R, x1, x4, x5, x7, x8, x9, h, hi, hdn, ho => by
    obtain rfl : i = b.length := by omega
    have h14 := call14 t b b.length R
    rw [decide_eq_true (Nat.le_refl _)] at h14
    refine ⟨.exit 0, x1, fl 0 0, rdB t b b.length :: R, ?_, ?_, ?_, ?_, ?_, ⟨rfl, rfl, _, _, rfl, by rw [List.append_nil]; exact ho⟩, loop_at K _ _ t12L0.eq_1 ?_⟩
    rotate_left 5
    · simp only [rdB_eq, fl] at h14 ⊢
      simp (disch := omega) only [go_sem, h14]
      rfl
  | k + 1, i, done, R, x1, x4, x5, x7, x8, x9, h, hi, hdn, ho => by
    by_cases he : i = b.length
    · subst he
      have h14 := call14 t b b.length R
      rw [decide_eq_true (Nat.le_refl _)] at h14
      refine ⟨.exit 0, x1, fl 0 0, rdB t b b.length :: R, ?_, ?_, ?_, ?_, ?_, (by rw [List.drop_length]; exact ⟨rfl, rfl, _, _, rfl, by rw [List.append_nil]; exact ho⟩), loop_at K _ _ t12L0.eq_1 ?_⟩
      rotate_left 5
      · simp only [rdB_eq, fl] at h14 ⊢
        simp (disch := omega) only [go_sem, h14]
        rfl
    have h14 := call14 t b i R
    rw [decide_eq_false (show ¬ b.length ≤ i by omega)] at h14
    have hd := drop_cons (b := b) (i := i) (by omega)
    have hlen : (b.drop i).length = b.length - i := List.length_drop
    obtain ⟨i', G, v, r15, h15⟩ := call15 t b ht i (b.drop i).length hb (by omega) (by omega) R
    have hstep : lexF (k + 1) (b.drop i) i = (match tokL (b.drop i).length (b.drop i) i with
      | .bad e q => .inl (e, q)
      | .skip m => lexF k ((b.drop i).drop m) (i + m)
      | .tok t m => match lexF k ((b.drop i).drop m) (i + m) with
        | .inl x => .inl x
        | .inr ts => .inr (t :: ts)) := by rw [hd, lexF]; rfl
    have htook := fun m (h : (tokL (b.drop i).length (b.drop i) i).took = some m) => by
      have h2 := h
      rw [hd] at h2
      have := tokL_took (Nat.le_refl _) h2
      rw [← hd, hlen] at this
      exact this
    cases htk : tokL (b.drop i).length (b.drop i) i with
    | bad e q =>
      rw [htk] at hstep r15
      rw [hstep]
      obtain ⟨tk, rfl⟩ := r15
      have hee := tokL_bad htk
      refine ⟨.ret, .iv (.sl .nil []), fl e q, rdB t b i' :: (R ++ G), ?_, ?_, ?_, ?_, ?_, ⟨rfl, rfl, rfl⟩, loop_at K _ _ t12L0.eq_1 ?_⟩
      rotate_left 5
      · simp only [rdB_eq, fl, encT, flt] at h14 h15 ⊢
        simp (config := { maxSteps := 4000000 }) (disch := omega) only [go_sem, h14, h15, storeV_c, storeC_eq]
        rfl
    | skip m =>
      rw [htk] at r15 htook
      simp only [htk, List.drop_drop] at hstep
      rw [hstep]
      obtain ⟨rfl, rfl⟩ := r15
      have hm := htook m rfl
      obtain ⟨j, x, f, S, y4, y5, y7, y8, y9, r, ih⟩ := loop12 t b ht hb x6 k (i + m) done (R ++ G) x1 (.lb [.iv (.int .i64 0), .iv (.int .i64 0), .iv (.int .i64 0), .iv (.int .i64 0), .iv (.str []), .iv (.sl .nil []), .iv (.int .i64 0)]) (.lb (fl 0 0)) (.iv (.bool true)) (.iv (.bool false)) (.iv (.bool false)) (by omega) (by omega) (by omega) (ho.app G)
      refine ⟨j, x, f, S, y4, y5, y7, y8, y9, (by simpa using r), loop_at K _ _ t12L0.eq_1 ?_⟩
      simp only [rdB_eq, fl, encT, zT, flt] at h14 h15 ih ⊢
      generalize R ++ G = T at *
      generalize ((i + m : Nat) : Int) = z at *
      simp (config := { maxSteps := 4000000 }) (disch := omega) only [go_sem, h14, h15, storeV_c, storeC_eq]
      exact congrArg er ih
    | tok tk m =>
      rw [htk] at r15 htook
      simp only [htk, List.drop_drop] at hstep
      obtain ⟨rfl, rfl⟩ := r15
      have hm := htook m rfl
      have hk := tok_kind htk
      obtain ⟨j', L', R', hop, hap⟩ := (ho.app G).put (rdB t b (i + m)) tk (by omega)
      obtain ⟨j, x, f, S, y4, y5, y7, y8, y9, r, ih⟩ := loop12 t b ht hb x6 k (i + m) (done ++ [tk]) R' (.tsl j' L') (.lb [.iv (.int .i64 tk.kind), .iv (.int .i64 tk.pos), .iv (.int .i64 tk.dk), .iv (.int .i64 tk.n), .iv (.str tk.text), .iv (.sl .nil []), .iv (.int .i64 tk.dpos)]) (.lb (fl 0 0)) (.iv (.bool true)) (.iv (.bool false)) (.iv (.bool true)) (by omega) (by omega) (by rw [List.length_append]; simp; omega) hop
      refine ⟨j, x, f, S, y4, y5, y7, y8, y9, ?_, loop_at K _ _ t12L0.eq_1 ?_⟩
      · rw [hstep]
        simp only [Int.natCast_add] at r
        generalize lexF k (b.drop (i + m)) ((i : Int) + m) = o at *
        cases o with
        | inl e => exact r
        | inr ts => simpa [LexOk] using r
      · rcases ho with ⟨_, rfl⟩ | ⟨j0, _, rfl, _⟩
        · simp only [rdB_eq, fl, encT, flt] at h14 h15 ih hap ⊢
          generalize R ++ G = T at *
          generalize ((i + m : Nat) : Int) = z at *
          simp (config := { maxSteps := 4000000 }) (disch := omega) only [go_sem, h14, h15, hap, storeV_c, storeC_eq]
          exact congrArg er ih
        · simp only [rdB_eq, fl, encT, flt] at h14 h15 ih ⊢
          simp only [rdB_eq] at hap
          have hap2 := hap
          generalize done.map encT = M at *
          simp only [encT] at hap2
          generalize R ++ G = T at *
          generalize ((i + m : Nat) : Int) = z at *
          simp (config := { maxSteps := 4000000 }) (disch := omega) only [go_sem, h14, h15, hap2, storeV_c, storeC_eq]
          exact congrArg er ih
def lexL (b : List UInt8) : (Int × Int) ⊕ List Tk := lexF b.length b 0
def lexV : (Int × Int) ⊕ List Tk → TV
  | .inl e => .tup [.iv (.sl .nil []), .iv (flt e.1 e.2)]
  | .inr ts => .tup [.iv (.sl (sTag ts) (ts.map encT)), .iv (flt 0 0)]
theorem call12 (t : Tag) (b : List UInt8) (ht : TagOk t b) (hb : b.length ≤ 16777216) : Pure K 12 [.iv (.sl t (bytesIV b))] (lexV (lexL b)) := by
  obtain ⟨j, x, f, S, y4, y5, y7, y8, y9, r, e⟩ := loop12 t b ht hb (.iv (.bool false)) b.length 0 [] [] (.iv (.sl .nil [])) (.tup []) (.tup []) (.tup []) (.tup []) (.tup []) (by omega) (by omega) (by simp) (.inl ⟨rfl, rfl⟩)
  rw [List.drop_zero, show (((0 : Nat) : Int)) = 0 from rfl] at r
  have h16 := call16
  unfold lexL
  refine call_pure t12 rfl rfl ?_
  simp only [rdB_eq, fl] at e
  rw [show (((0 : Nat) : Int)) = 0 from rfl] at e
  cases ho : lexF b.length b 0 with
  | inl q =>
    rw [ho] at r
    obtain ⟨rfl, rfl, rfl⟩ := r
    simp only [fl] at e
    simp only [lexV, flt]
    simp (config := { maxSteps := 4000000 }) (disch := omega) only [t12, go_sem, e, resB_ret, resO_some]
  | inr ts =>
    rw [ho] at r
    obtain ⟨rfl, rfl, B, R, rfl, hout⟩ := r
    rw [List.nil_append] at hout
    simp only [lexV, flt]
    simp only [fl] at e
    rcases hout with ⟨rfl, rfl⟩ | ⟨j0, hne, rfl, _⟩
    · simp (config := { maxSteps := 4000000 }) (disch := omega) only [t12, go_sem, e, h16, resB_ret, resO_some, List.map_nil]
      rfl
    · have htag : sTag ts = .no := by cases ts with
        | nil => exact absurd rfl hne
        | cons a r => rfl
      rw [htag]
      generalize ts.map encT = M at *
      simp (config := { maxSteps := 4000000 }) (disch := omega) only [t12, go_sem, e, h16, resB_ret, resO_some]
end Go.Proofs.YtpngkgkobapioaaDoor
