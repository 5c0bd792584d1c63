/- Digits that may be written: what stands where. Condition: none. -/
import Derived.Test.YtdbffhgfjmhaiaaDoorBigC
set_option maxRecDepth 100000
set_option linter.unusedSimpArgs false
set_option linter.unusedVariables false
namespace Go.Proofs.YtdbffhgfjmhaiaaDoor
open Go Go.TM
inductive DV (m : Bool) (P : Nat → Prop) (S : Store) : TV → List Int → Prop
  | iv (t : Tag) (l : List Int) (h : TagOk t l) (hm : m = true → l = []) : DV m P S (.iv (.sl t (one d16 l))) l
  | ms (i v off len cap : Nat) (b : Bool) (C l : List Int) (h : S[i]? = some (.cells v b (cellsF d16 C))) (h1 : len ≤ cap) (h2 : off + cap ≤ C.length) (hP : P i) (hl : l = (C.drop off).take len) : DV m P S (.msl i v off len cap 1) l
theorem lt_of_get {S : Store} {i : Nat} {B : Block} (h : S[i]? = some B) : i < S.length := by
  rcases Nat.lt_or_ge i S.length with h1 | h1
  · exact h1
  · rw [List.getElem?_eq_none h1] at h; cases h
theorem DV.weak {m : Bool} {P Q : Nat → Prop} {S : Store} {x : TV} {l : List Int} (h : DV m P S x l) (hq : ∀ i, i < S.length → P i → Q i) : DV m Q S x l := by
  cases h with
  | iv t l h hm => exact .iv t l h hm
  | ms i v off len cap b C l h h1 h2 hP hl => exact .ms i v off len cap b C l h h1 h2 (hq i (lt_of_get h) hP) hl
theorem DV.read {m : Bool} {P : Nat → Prop} {S : Store} {x : TV} {l : List Int} (h : DV m P S x l) : DV false P S x l := by
  cases h with
  | iv t l h hm => exact .iv t l h (fun h => by cases h)
  | ms i v off len cap b C l h h1 h2 hP hl => exact .ms i v off len cap b C l h h1 h2 hP hl
theorem DV.app {m : Bool} {P : Nat → Prop} {S : Store} {x : TV} {l : List Int} (h : DV m P S x l) (R : Store) : DV m P (S ++ R) x l := by
  cases h with
  | iv t l h hm => exact .iv t l h hm
  | ms i v off len cap b C l h h1 h2 hP hl => exact .ms i v off len cap b C l (by rw [List.getElem?_append_left (lt_of_get h)]; exact h) h1 h2 hP hl
theorem DV.set {m : Bool} {P : Nat → Prop} {S : Store} {x : TV} {l : List Int} (h : DV m P S x l) (j : Nat) (B : Block) (hj : ¬ P j) : DV m P (S.set j B) x l := by
  cases h with
  | iv t l h hm => exact .iv t l h hm
  | ms i v off len cap b C l h h1 h2 hP hl => exact .ms i v off len cap b C l (by rw [List.getElem?_set_ne (by rintro rfl; exact hj hP)]; exact h) h1 h2 hP hl
theorem cells_take (C : List Int) (off len : Nat) : ((C.drop off).take len).length = min len (C.length - off) := by simp
theorem DV.len {m : Bool} {P : Nat → Prop} {S : Store} {x : TV} {l : List Int} (h : DV m P S x l) : lenV .sl S x = some (.iv (.int .i64 l.length)) := by
  cases h with
  | iv t l h hm => rw [lenV_sl, one_length]
  | ms i v off len cap b C l h h1 h2 hP hl =>
    rw [lenV_msl, hl, cells_take, Nat.min_eq_left (by omega)]
theorem DV.loc {m : Bool} {P : Nat → Prop} {S : Store} {x : TV} {l : List Int} (h : DV m P S x l) (j : Nat) : locV j x = x := by cases h <;> rfl
theorem DV.nlp {m : Bool} {P : Nat → Prop} {S : Store} {x : TV} {l : List Int} (h : DV m P S x l) : isLp x = false := by cases h <;> rfl
theorem take_drop_getD {C : List Int} {off len i : Nat} (hi : i < len) : ((C.drop off).take len).getD i default = C.getD (off + i) default := by
  simp only [List.getD]
  rw [List.getElem?_take_of_lt hi, List.getElem?_drop]
theorem DV.idx {m : Bool} {P : Nat → Prop} {S : Store} {x : TV} {l : List Int} (h : DV m P S x l) {i : Int} (hi : 0 ≤ i ∧ i < l.length) : ∃ p, indexAddrS 1 x i = some p ∧ ∀ env, getCells env S p 1 = some [.iv (.int .u16 (l.getD i.toNat default))] := by
  cases h with
  | iv t l h hm => exact ⟨_, ix_one d16 hi, fun env => rfl⟩
  | ms j v off len cap b C l h h1 h2 hP hl =>
    have hlen : l.length = len := by rw [hl, cells_take, Nat.min_eq_left (by omega)]
    refine ⟨_, ix_msl (by omega), fun env => ?_⟩
    have e : l.getD i.toNat default = C.getD (off + i.toNat) default := by rw [hl]; exact take_drop_getD (by omega)
    have hg : (cellsF d16 C)[off + i.toNat]? = some (.iv (d16 (C.getD (off + i.toNat) default))) := by
      simp only [cellsF, List.getElem?_map, List.getD, List.getElem?_eq_getElem (show off + i.toNat < C.length by omega), Option.map_some, Option.getD_some]
    rw [e]
    simp only [getCells, h, if_true]
    unfold sub
    rw [if_pos (by rw [cellsF_len]; omega)]
    congr 1
    rw [List.drop_eq_getElem_cons (by rw [cellsF_len]; omega)]
    rw [List.getElem?_eq_getElem (by rw [cellsF_len]; omega)] at hg
    rw [Option.some.inj hg]
    rfl
theorem elems_mslV {S : Store} {j v : Nat} {b : Bool} {f : Int → IV} {C : List Int} (h : S[j]? = some (.cells v b (cellsF f C))) (off len cap : Nat) (hl : off + len ≤ C.length) : elemsIV S (.msl j v off len cap 1) = some (one f ((C.drop off).take len)) := by
  have e2 : sub (cellsF f C) off (len * 1) = some (cellsF f ((C.drop off).take len)) := by
    simp only [sub, Nat.mul_one, cellsF_len, hl, ↓reduceIte]
    simp [cellsF]
  have e3 : cellsF f ((C.drop off).take len) = (((C.drop off).take len).map f).map .iv := by rw [List.map_map]; rfl
  have e4 : chunks 1 len (((C.drop off).take len).map f) = one f ((C.drop off).take len) := by
    have := chunks_flat (w := 1) (l := one f ((C.drop off).take len)) (by intro y hy; obtain ⟨a, _, rfl⟩ := List.mem_map.1 hy; rfl)
    rw [one_length, flat_one_map] at this
    rwa [show ((C.drop off).take len).length = len by simp; omega] at this
  simp only [elemsIV, h]
  show (if v ≠ v then none else match sub (cellsF f C) off (len * 1) with | some l => (toIVs l).map (chunks 1 len) | none => none) = _
  rw [e2]
  simp only [ne_eq, not_true_eq_false, ↓reduceIte]
  rw [e3, toIVs_ivs, Option.map_some, e4]
theorem DV.res {m : Bool} {P : Nat → Prop} {S : Store} {x : TV} {l : List Int} (h : DV m P S x l) : ∃ t, TagOk t l ∧ res1 S x = some (.sl t (one d16 l)) ∧ closeArg S x = some (.iv (.sl t (one d16 l))) ∧ TM.resolve S x = some (.iv (.sl t (one d16 l))) := by
  cases h with
  | iv t l h hm => exact ⟨t, h, rfl, rfl, rfl⟩
  | ms i v off len cap b C l h h1 h2 hP hl =>
    have e := elems_mslV h off len cap (by omega)
    rw [← hl] at e
    refine ⟨.no, TagOk.no _, ?_, ?_, ?_⟩
    · simp only [res1, e]
    · simp only [closeArg, resV, res1, e, Option.map_some]
    · simp only [TM.resolve, resV, res1, e, Option.map_some]
theorem verOk_cells {S : Store} {i v : Nat} {b : Bool} {cs : List TV} (h : S[i]? = some (.cells v b cs)) : verOk S i v = true := by simp [verOk, h]
theorem bounds_hi {len cap : Nat} {n : Int} (h : 0 ≤ n ∧ n ≤ cap) : bounds len cap none (some n) none = some (0, n.toNat, cap) := by
  have e2 : (0 : Int) ≤ n ∧ n ≤ ((cap : Nat) : Int) := h
  simp only [bounds, bound, e2, and_self, if_true]
theorem bounds_sub {len cap : Nat} {a n : Int} (h : 0 ≤ a ∧ a ≤ n ∧ n ≤ cap) : bounds len cap (some a) (some n) none = some (a.toNat, n.toNat, cap) := by
  have e2 : (0 : Int) ≤ n ∧ n ≤ ((cap : Nat) : Int) := by omega
  have e3 : (0 : Int) ≤ a ∧ a ≤ ((n.toNat : Nat) : Int) := by omega
  simp only [bounds, bound, e2, e3, and_self, if_true]
theorem DV.hi {m : Bool} {P : Nat → Prop} {S : Store} {x : TV} {l : List Int} (h : DV m P S x l) {n : Int} (hn : 0 ≤ n ∧ n ≤ l.length) : ∃ y, sliceOp S (.sl 1) x none (some n) none = some y ∧ DV m P S y (l.take n.toNat) := by
  cases h with
  | iv t l h hm => exact ⟨_, slice_one_hi S h hn, .iv _ _ (by simpa using h.cut 0 n.toNat l.length) (fun e => by rw [hm e]; simp)⟩
  | ms i v off len cap b C l h h1 h2 hP hl =>
    have hlen : l.length = len := by rw [hl, cells_take, Nat.min_eq_left (by omega)]
    have hb := bounds_hi (len := len) (cap := cap) (n := n) (by omega)
    refine ⟨_, by simp only [sliceOp, verOk_cells h, hb, ne_eq, not_true_eq_false, Bool.true_eq_false, or_self, if_false]; rfl, ?_⟩
    refine .ms i v _ _ _ b C _ h (by omega) ?_ hP ?_
    · split <;> omega
    · rw [hl, List.take_take, Nat.min_eq_left (by omega)]
      split <;> simp
theorem DV.sub {m : Bool} {P : Nat → Prop} {S : Store} {x : TV} {l : List Int} (h : DV m P S x l) {a n : Int} (ha : 0 ≤ a ∧ a ≤ n) (hn : n ≤ l.length) : ∃ y, sliceOp S (.sl 1) x (some a) (some n) none = some y ∧ DV m P S y ((l.drop a.toNat).take (n.toNat - a.toNat)) := by
  cases h with
  | iv t l h hm => exact ⟨_, slice_one S h (by omega), .iv _ _ (h.cut a.toNat n.toNat l.length) (fun e => by rw [hm e]; simp)⟩
  | ms i v off len cap b C l h h1 h2 hP hl =>
    have hlen : l.length = len := by rw [hl, cells_take, Nat.min_eq_left (by omega)]
    have hb := bounds_sub (len := len) (cap := cap) (a := a) (n := n) (by omega)
    refine ⟨_, by simp only [sliceOp, verOk_cells h, hb, ne_eq, not_true_eq_false, Bool.true_eq_false, or_self, if_false]; rfl, ?_⟩
    refine .ms i v _ _ _ b C _ h (by omega) ?_ hP ?_
    · split <;> omega
    · rw [hl, List.drop_take, List.take_take, List.drop_drop]
      by_cases hc : cap = a.toNat
      · have : n.toNat - a.toNat = 0 := by omega
        rw [this]; simp
      · rw [if_neg hc, Nat.mul_one, Nat.min_eq_left (by omega)]
end Go.Proofs.YtdbffhgfjmhaiaaDoor
