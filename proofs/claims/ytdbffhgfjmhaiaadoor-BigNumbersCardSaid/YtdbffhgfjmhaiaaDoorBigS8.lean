/- The contracts of strings.Repeat, of few noughts; of slices.Reverse. Condition: none. -/
import Derived.Test.YtdbffhgfjmhaiaaDoorBigS7
set_option maxRecDepth 100000
set_option maxHeartbeats 2000000
set_option linter.unusedSimpArgs false
set_option linter.unusedVariables false
namespace Go.Proofs.YtdbffhgfjmhaiaaDoor
open Go Go.TM
def okS (s : List UInt8) : Out (TV × Store) → Bool
  | .ret (.iv (.str t), _) => t == s
  | _ => false
theorem okS_eq {s : List UInt8} {o : Out (TV × Store)} (h : okS s o = true) : ∃ S, o = .ret (.iv (.str s), S) := by
  unfold okS at h
  split at h
  · rw [beq_iff_eq] at h; subst h; exact ⟨_, rfl⟩
  · cases h
theorem pure_run {f n : Nat} {ags : List TV} {s : List UInt8} (h : okS s ((ex K n).call f ags []) = true) : Pure K f ags (.iv (.str s)) := by
  obtain ⟨S, hS⟩ := okS_eq h
  exact ⟨_, S, (limOf_eqv (y := fun n => (ex K n).call f ags []) (fun n m h => (ex_le h).call f ags []) (n := n) (Out.ok_ret hS)).eq hS, rfl⟩
theorem rep0 : Pure K 47 [.iv (.str [48]), .iv (.int .i64 0)] (.iv (.str [])) := pure_run (n := 60) (by kernel_rfl)
theorem rep1 : Pure K 47 [.iv (.str [48]), .iv (.int .i64 1)] (.iv (.str [48])) := pure_run (n := 60) (by kernel_rfl)
theorem rep2 : Pure K 47 [.iv (.str [48]), .iv (.int .i64 2)] (.iv (.str [48, 48])) := pure_run (n := 60) (by kernel_rfl)
theorem rep3 : Pure K 47 [.iv (.str [48]), .iv (.int .i64 3)] (.iv (.str [48, 48, 48])) := pure_run (n := 60) (by kernel_rfl)
end Go.Proofs.YtdbffhgfjmhaiaaDoor
