/- The contracts of big: sums of digits. Condition: none. -/
import Derived.Test.YtdbffhgfjmhaiaaDoorBigE
set_option maxRecDepth 100000
set_option linter.unusedSimpArgs false
set_option linter.unusedVariables false
namespace Go.Proofs.YtdbffhgfjmhaiaaDoor
open Go Go.TM
def sm (a b : List Int) : Nat → Nat → Int → List Int × Int
  | 0, _, c => ([], c)
  | n + 1, i, c => ((c + (a.getD i default + b.getD i default)) % 65536 :: (sm a b n (i + 1) ((c + (a.getD i default + b.getD i default)) / 65536)).1, (sm a b n (i + 1) ((c + (a.getD i default + b.getD i default)) / 65536)).2)
theorem pow_le' {B : Int} (hB : 1 < B) {n m : Nat} (h : n ≤ m) : B ^ n ≤ B ^ m := by
  obtain ⟨k, rfl⟩ := Nat.le.dest h
  rw [Int.pow_add]
  have h1 := pow_pos' hB n
  have h2 := pow_pos' hB k
  have := Int.mul_le_mul_of_nonneg_left (show 1 ≤ B ^ k by omega) (Int.le_of_lt h1)
  omega
def ls (a b : List Int) : Nat → Nat → Int → List Int × Int
  | 0, _, c => ([], c)
  | n + 1, i, c => ((65536 + a.getD i default - b.getD i default - c) % 65536 :: (ls a b n (i + 1) (1 - (65536 + a.getD i default - b.getD i default - c) / 65536)).1, (ls a b n (i + 1) (1 - (65536 + a.getD i default - b.getD i default - c) / 65536)).2)
end Go.Proofs.YtdbffhgfjmhaiaaDoor
