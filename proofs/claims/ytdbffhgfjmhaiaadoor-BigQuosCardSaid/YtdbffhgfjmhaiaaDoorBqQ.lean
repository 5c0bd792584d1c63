/- Quo on worths; structs handed to calls. Condition: none. -/
import Derived.Test.YtdbffhgfjmhaiaaDoorBqP
set_option maxRecDepth 100000
set_option linter.unusedSimpArgs false
set_option linter.unusedVariables false
namespace Go.Proofs.YtdbffhgfjmhaiaaDoor
open Go Go.TM
theorem sv_tdiv (n1 n2 : Bool) {a b : Int} (ha : 0 ≤ a) (hb : 0 ≤ b) : sv (!(n1 == n2)) (a / b) = (sv n1 a).tdiv (sv n2 b) := by
  have h := Int.tdiv_eq_ediv_of_nonneg (b := b) ha
  cases n1 <;> cases n2 <;> simp [sv, Int.neg_tdiv, Int.tdiv_neg, h]
theorem sv_tmod (n1 n2 : Bool) {a b : Int} (ha : 0 ≤ a) (hb : 0 ≤ b) : sv n1 (a % b) = (sv n1 a).tmod (sv n2 b) := by
  have h := Int.tmod_eq_emod_of_nonneg (b := b) ha
  cases n1 <;> cases n2 <;> simp [sv, Int.neg_tmod, Int.tmod_neg, h]
theorem quoV {t1 t2 : Tag} {a b : List Int} (k1 : TagOk t1 a) (k2 : TagOk t2 b) (n1 n2 : Bool) (da : Dig 65536 a) (db : Dig 65536 b) (la : a.length ≤ 700) (lb : b.length ≤ 700) (hb : val 65536 b ≠ 0) (x y : Int) (hx : x = sv n1 (val 65536 a)) (hy : y = sv n2 (val 65536 b)) (S : Store) :
    ∃ w1 w2 R, DV true (fun i => S.length ≤ i) (S ++ R) w1 (dg 65536 (x.tdiv y).natAbs) ∧ DV true (fun i => S.length ≤ i) (S ++ R) w2 (dg 65536 (x.tmod y).natAbs) ∧ (lim K).call 34 [.iv (num n1 t1 a), .iv (num n2 t2 b)] S = .ret (.tup [agT (decide (x.tdiv y < 0)) w1, agT (decide (x.tmod y < 0)) w2, .iv (.int .i64 0)], S ++ R) := by
  have va := val_nonneg (by decide) da
  have vb := val_nonneg (by decide) db
  have e1 := sv_tdiv n1 n2 va vb
  have e2 := sv_tmod n1 n2 va vb
  rw [← hx, ← hy] at e1 e2
  have e3 : (val 65536 a / val 65536 b) = (x.tdiv y).natAbs := by rw [← e1, abs_sv _ (Int.ediv_nonneg va vb)]
  have e4 : (val 65536 a % val 65536 b) = (x.tmod y).natAbs := by rw [← e2, abs_sv _ (Int.emod_nonneg _ hb)]
  rw [← e1, ← e2] at *
  rw [← e3, ← e4]
  by_cases hlt : val 65536 a < val 65536 b
  · exact quo1 k1 k2 n1 n2 da db la lb hb hlt S
  · match hl : tr b with
    | [] =>
      exfalso
      apply hb
      rw [← val_tr, hl]
      rfl
    | [y0] => exact quo2 k1 k2 n1 n2 da db la lb (by omega) y0 hl S
    | y0 :: y1 :: r => exact quo3 k1 k2 n1 n2 da db la lb (by omega) r.length (by rw [hl]; rfl) S
end Go.Proofs.YtdbffhgfjmhaiaaDoor
