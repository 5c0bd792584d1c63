/- What TM reads of the program's variables. Condition: none. -/
import Derived.Test.YtpngkgkobapioaaDoorTmProg
import Derived.SevenTiedAt
import Derived.Stop.Joined
import Derived.JoinedOf
import Derived.Lay
import Derived.LaidMore
set_option maxRecDepth 100000
set_option linter.unusedSimpArgs false
set_option linter.unusedVariables false
namespace Go.Proofs.YtpngkgkobapioaaDoor
open Go Go.TM Go.RowKit Go.ChangeShapes Go.WideShapes
theorem own : ownKnob Tryd.prog.godebug = none := by kernel_rfl
theorem laidOut : laidOutB Tryd.prog = true := by kernel_rfl
theorem nm1 : Tryd.prog.globalNamed "unicode/utf8.first" = some 1 := by kernel_rfl
theorem ty1 : (Tryd.prog.globals[1]?).map (·.type) = some 94 := by kernel_rfl
theorem nm2 : Tryd.prog.globalNamed "unicode/utf8.acceptRanges" = some 2 := by kernel_rfl
theorem ty2 : (Tryd.prog.globals[2]?).map (·.type) = some 97 := by kernel_rfl
def rdTypes : List TypeId := [5, 94, 95, 96, 97]
theorem rd_ok : tyOk Tryd.prog rdTypes = true := by kernel_rfl
def theLaid : List (String × DataW Unit) := [("unicode/utf8.acceptRanges", Rows.laid_unicode_utf8_acceptRanges), ("unicode/utf8.first", Rows.laid_unicode_utf8_first)]
theorem iv1 : ivsD (Rows.laid_unicode_utf8_first : DataW Unit) = g1 := by kernel_rfl
theorem iv2 : ivsD (Rows.laid_unicode_utf8_acceptRanges : DataW Unit) = g2 := by kernel_rfl
theorem glob_ok {W : World} (hL : laidMetH Tryd.prog theLaid W) : GlobOK K (allMem W) := by
  rw [MakeChecks.laidMetH_plain _ _ _ (by kernel_rfl)] at hL
  obtain ⟨ps, hv, _⟩ := hL
  have h1 := laid_glob rd_ok hv "unicode/utf8.first" Rows.laid_unicode_utf8_first (by simp [theLaid]) 1 94 nm1 ty1 (by decide) (by kernel_rfl)
  rw [iv1] at h1
  have h2 := laid_glob rd_ok hv "unicode/utf8.acceptRanges" Rows.laid_unicode_utf8_acceptRanges (by simp [theLaid]) 2 97 nm2 ty2 (by decide) (by kernel_rfl)
  rw [iv2] at h2
  have hall : AllAt (fun g cs => IR (allMem W) (.cp cs) (.pointer (some ⟨g, 0, none⟩))) 0 gtbl := ⟨h1, h2, trivial⟩
  exact fun g cs h => allAt_get hall g cs h
end Go.Proofs.YtpngkgkobapioaaDoor
