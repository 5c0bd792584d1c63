/- GraphRights: whatever is read. Condition: none. -/
import Derived.Test.YtmlhjdekfihdnaaGrL
set_option maxRecDepth 100000
set_option linter.unusedSimpArgs false
set_option linter.unusedVariables false
namespace Go.Proofs.Ytmlhjdekfihdnaa
open Go Go.TM
variable {H : Type}
theorem ty_pair {d : DataW H} {l : List IV} (h : Ty Try.prog 37 d l) : ∃ p : Int × Int, l = enc2 p ∧ True := by
  obtain ⟨ds, ls, rfl, h1, h2, h3⟩ := ty_array Try.underlying37 h
  match ls, ds, h1, h2, h3 with
  | [a, b], [x, y], _, _, h3 =>
    obtain ⟨n, rfl, _⟩ := ty_int Try.underlying3 (h3 0 x a rfl rfl)
    obtain ⟨m, rfl, _⟩ := ty_int Try.underlying3 (h3 1 y b rfl rfl)
    exact ⟨(n, m), rfl, trivial⟩
theorem ty_graph {d : DataW H} {l : List IV} (h : Ty Try.prog 24 d l) : ∃ (r : Int) (t1 : Tag) (E : List (Int × Int)) (t2 : Tag) (M : List (Int × Int)), l = [.int .i64 r, .sl t1 (E.map enc2), .sl t2 (M.map enc2)] ∧ E.length ≤ 9223372036854775807 ∧ M.length ≤ 9223372036854775807 := by
  obtain ⟨ds, ls, rfl, h1⟩ := ty_struct Try.underlying24 h
  obtain ⟨d0, l0, ds0, ls0, rfl, k0, h1⟩ := allTy_cons h1
  obtain ⟨d1, l1, ds1, ls1, rfl, k1, h1⟩ := allTy_cons h1
  obtain ⟨d2, l2, ds2, ls2, rfl, k2, h1⟩ := allTy_cons h1
  obtain rfl := allTy_nil h1
  obtain ⟨r, rfl, _⟩ := ty_int Try.underlying3 k0
  obtain ⟨t1, E, rfl, _, _, hE⟩ := ty_slice Try.underlying22 (fun d l h => ty_pair h) k1
  obtain ⟨t2, M, rfl, _, _, hM⟩ := ty_slice Try.underlying22 (fun d l h => ty_pair h) k2
  exact ⟨r, t1, E, t2, M, rfl, hE, hM⟩
theorem inv4 {ds : List (DataW H)} {ls : List (List IV)} (hh0 : AllTy Try.prog [24, 27, 4] ds ls) : ((lim K).call 4 (argsOf Try.prog [24, 27, 4] ls) []).All fun r => r.1 = .iv (.bool true) := by
  obtain ⟨d0, l0, ds0, ls0, rfl, h0, hh1⟩ := allTy_cons hh0
  obtain ⟨d1, l1, ds1, ls1, rfl, h1, hh2⟩ := allTy_cons hh1
  obtain ⟨d2, l2, ds2, ls2, rfl, h2, hh3⟩ := allTy_cons hh2
  obtain ⟨r, t1, E, t2, M, rfl, hE, hM⟩ := ty_graph h0
  obtain ⟨t, l, rfl, _, _, hl⟩ := ty_ints Try.underlying27 Try.underlying3 h1
  obtain ⟨own, rfl⟩ := ty_bool Try.underlying4 h2
  have e0 : ∀ l, argOf Try.prog 24 l = .iv (.agg l) := fun x => argOf_agg (by rw [Try.underlying24])
  have e1 : ∀ x, argOf Try.prog 27 [x] = .iv x := fun x => argOf_plain (by rw [Try.underlying27])
  have e2 : ∀ x, argOf Try.prog 4 [x] = .iv x := fun x => argOf_plain (by rw [Try.underlying4])
  rw [allTy_nil hh3]
  simp only [argsOf, e0, e1, e2]
  exact law4 r t1 E t2 M hE hM t l hl own
end Go.Proofs.Ytmlhjdekfihdnaa
