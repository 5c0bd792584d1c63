/- LexPlaces: the evaluator answers true. Condition: none. -/
import Derived.Test.YtpngkgkobapioaaDoorLxL
import Derived.Test.YtpngkgkobapioaaDoorTmE
set_option maxRecDepth 100000
set_option maxHeartbeats 8000000
set_option linter.unusedSimpArgs false
set_option linter.unusedVariables false
namespace Go.Proofs.YtpngkgkobapioaaDoor
open Go Go.TM
theorem works1 : ((ex K 100).call 8 [] []).allB isTrue = true := by kernel_rfl
theorem works : ((lim K).call 8 [] []).All fun r => r.1 = .iv (.bool true) := lim_allB 100 8 works1
instance : Inhabited Tk := ⟨⟨0, 0, 0, 0, [], 0⟩⟩
theorem ao0 (cs : List IV) : addOff (.iv (.cp cs)) 0 = some (.iv (.cp cs)) := by simp [addOff]
theorem aoS (x : IV) (cs : List IV) (n : Nat) : addOff (.iv (.cp (x :: cs))) (n + 1) = addOff (.iv (.cp cs)) n := by simp [addOff]
theorem ixT {t : Tag} {ts : List Tk} {i : Int} (h : 0 ≤ i ∧ i < ts.length) : indexAddrS 7 (.iv (.sl t (ts.map encT))) i = some (.iv (.cp (encT (ts.getD i.toNat default)))) := ix_map (f := encT) (fun a => (encT_ok a).1) h
theorem asc_len : ∀ {ts : List Tk} {last hi : Int}, Asc last ts hi → last < hi → (ts.length : Int) ≤ hi - last
  | [], last, hi, h, g => by simp; omega
  | t :: r, last, hi, ⟨h1, h2, h3, h4⟩, g => by
    have := asc_len h4 h2
    rw [List.length_cons]
    omega
end Go.Proofs.YtpngkgkobapioaaDoor
